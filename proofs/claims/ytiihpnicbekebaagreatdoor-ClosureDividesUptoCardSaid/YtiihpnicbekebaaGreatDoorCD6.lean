/- Part 6 of the proof (Y2, Y1, Y3, Y4, Se, Sg, Sr, Sh, T0, T1, T2, T3, Cf, Kr, Y6, Y7, Y8, Y9, Yw, Kp, Kw, I1, I3); no condition. -/
import Derived.Below
import Derived.Test.YtiihpnicbekebaaGreatDoorRows
import Derived.Carry
import Derived.ReadAgain
import Derived.ChangeSame
import Derived.OpenShut
import Derived.WideKeyArgs
import Derived.OrdersIn
import Derived.TacticsIn
import Derived.RangeFuncBox
import Derived.RangeFuncLeaves
import Derived.RangeFuncFrom
import Derived.Shelf.Abstract
import Derived.WalkKit
import Derived.OwnWalkIn
import Derived.TacticsInMore
import Derived.LoopNIn
import Derived.LoopIn
import Derived.Test.YtiihpnicbekebaaGreatDoorProg
import Derived.RangeFuncNested
import Derived.RangeFuncBound
import Derived.RangeFuncCalls
import Derived.RegionIn
import Derived.Maps.AppendAt
import Derived.Test.YtiihpnicbekebaaGreatDoorCards
import Derived.JoinedCond
import Derived.KernelRfl
import Derived.LaidMore
import Derived.Shelf.Vars
import Derived.Test.YtiihpnicbekebaaGreatDoorCD5
set_option linter.unusedVariables false
set_option linter.unusedSimpArgs false
set_option maxRecDepth 8000
set_option maxHeartbeats 16000000
open Go.Proofs.YtiihpnicbekebaaGreatDoor.Sm.ABlk renaming live→qF
open Bool renaming and_eq_true→jT,false_eq_true→qI,not_false→jE,or_eq_false_iff→wB,or_false→zY
open Go.Proofs.Tryz renaming prog→jA
open Int renaming toNat_natCast→qN
open List renaming any_eq_false→qM,append_assoc→zC,append_nil→jO,cons_append→zF,contains_nil→jY,drop_eq_getElem_cons→zS,drop_zero→zM,foldl_cons→qO,getElem?_eq_getElem→jI,getElem?_map→jX,getElem?_set_ne→zL,getElem_mem→jH,length_append→jS,length_cons→zH,length_eq_zero_iff→wR,length_map→jL,length_nil→zN,length_take→jU,length→wH,map_append→qL,map_cons→jK,map_nil→jM,mem_append→zX,mem_cons→zK,mem_map→qE,mem_of_getElem?→zU,mem_singleton→qP,nil_append→qA,range→zI,replicate→zD,take_append_drop→wC,take_of_length_le→jJ,take_succ_eq_append_getElem→jW
open Nat renaming add_zero→jV,eq_zero_or_pos→wJ,le_of_ble_eq_true→jB,le_refl→jF,reduceAdd→jP,reduceBEq→zB,reduceEqDiff→jC,zero_add→jG,zero_le→qG
open Option renaming getD_none→jQ,getD_some→jD
namespace Go.Proofs.YtiihpnicbekebaaGreatDoor.Bd.Cl
open Sm Bins Cov Xe Wd Bl Ho Go.RowKit
variable {k:Nat} {vs:List Vr} {p:Pr} {ins:Ex->List Rng->Ex} {m:Mo} {x:Hl} {s:Bw}
theorem AOF {α:Type}{f:α->List AV}{h H:Hp}{ys:List α}{v:AV}(hf:ML (ys.map f)=true)(ho:outG k f h ys v H)(hx:Sm.ext h H)(i:Nat):∃H',(∀F:Fr,F i=v->QD (F,H) i=(upd F i (fzG k f ys),H'))∧Sm.ext h H'∧H'.length=H.length∧∀(b:Nat) (y:ABlk),b<h.length->H[b]?=some y->H'[b]?=some y:=by
 rcases ho with⟨rfl,rfl⟩|⟨e1,o,e2,rfl,e3⟩
 .refine⟨H,fun F hF=>?_,hx,rfl,fun _ _ _ q=>q⟩
  rw[ASQ (H:=H) (i:=i) (k:=0) (m:=.nil) (xs:=[]) F hF]
  have:upd F i (fzG k f ([]:List α))=F:=by
   funext j;unfold upd;split
   .rename_i q; rw[q]; exact hF.symm
   .rfl
  rw[this]
 .refine⟨H.set o .dead,fun F hF=>?_,hx.set e2 _,by rw[List.length_set],fun b y hb q=>by rw[List.getElem?_set_ne U]; exact q⟩
  have hz:=AAJ (i:=i) (off:=0) (len:=ys.length) e3 A8 (by rw[zM,jJ A8]; exact hf);rw[zM,jJ A8] at hz;rw[hz F hF,AWW e1]
theorem ASO {α:Type}{f:α->Int}{xs ys:List α}{x:α}(h:Bd.fstE f xs=0)(hx:f x≠0):Bd.fstE f (xs++x::ys)=f x:=by
 rw[Bd.fstE_app,if_neg (by rw[h]; simp)];show(if f x≠0 then f x else Bd.fstE f ys)=f x;rw[if_pos hx]
theorem AOD {α:Type}{f:α->Int}{xs:List α}{x:α}(h:Bd.fstE f xs=0)(hx:f x=0):Bd.fstE f (xs++[x])=0:=by
 rw[Bd.fstE_app,if_neg (by rw[h]; simp)];show(if f x≠0 then f x else Bd.fstE f [])=0;rw[if_neg (by rw[hx]; simp)]; rfl
theorem AGZ {α:Type}{f:α->Int}{xs ys:List α}(h:Bd.fstE f xs=0)(hx:Bd.fstE f ys=0):Bd.fstE f (xs++ys)=0:=by
 rw[Bd.fstE_app,if_neg (by rw[h]; simp),hx]
def TQ (vs:List Vr)(R:List (List Ex)):Int:=Bd.fstE (scC vs) R.flatten
def TP (s:Bw)(vs:List Vr)(R:List (List Ex)):List (List Ex):=R.map fun r=>r.map (IA s vs)
def ACX (s:Bw)(vs:List Vr)(R:List (List Ex)):AV:=.tup [if TQ vs R=0 then .sl (Cov.nm (TP s vs R)) 1 ((TP s vs R).map SI) else .sl .nil 0 [],.n (TQ vs R)]
def AMC (s:Bw)(vs:List Vr)(R:List (List Ex)):AV:=.tup [if TQ vs R=0 then fzG 1 AC1 (TP s vs R) else .sl .nil 0 [],.n (TQ vs R)]
theorem AWV (L:List (List Ex)):CvR (fzG 1 AC1 L) (.sl (Cov.nm L) 1 (L.map SI)):=by
 cases L with
 | nil=>exact CvR.sl (Cv.nil 0 1)
 | cons a L=>exact CvR.sl (Cv.map fun x _=>AU1 x)
theorem AQ0 (s:Bw)(vs:List Vr)(R:List (List Ex)):CvR (AMC s vs R) (ACX s vs R):=by
 unfold AMC ACX;split
 .exact CvR.tup (CvRL.cons (AWV _) (CvRL.cons (CvR.refl _) CvRL.nil))
 .exact CvR.refl _
theorem AIU {R:List (List Ex)}{i:Nat}(hi:i<R.length)(hk:k<R[i].length):∃ys,R.flatten=((R.take i).flatten++R[i].take k)++R[i][k]::ys:=by
 refine⟨R[i].drop (k+1)++(R.drop (i+1)).flatten,?_⟩;have h1:R=R.take i++R[i]::R.drop (i+1):=by rw[<-zS hi,wC]
 have h2:∀l:List Ex,R[i]++l=R[i].take k++R[i][k]::(R[i].drop (k+1)++l):=fun l=>by
  have:R[i].take k++R[i].drop k=R[i]:=wC k R[i];rw[zS hk] at this
  calc R[i]++l=(R[i].take k++R[i][k]::R[i].drop (k+1))++l:=by rw[this]
   _=_:=by rw[zC]; rfl
 conv=>lhs; rw[h1,List.flatten_append,List.flatten_cons,h2]
 rw[zC]
section
variable (G:Nat->AV)
theorem sI (hG:GOk G)(p:Pr)(hs:PrS p)(hv:JY p=0)(s:SM)(R:List (List Ex))(hR:R.length<=1048576)(hl:∀r∈R,r.length<=1048576)(he:∀r∈R,∀e∈r,exE e=0)(h:Hp):PCall (En G) 44 [.agg (CX p),.sl s 1 (R.map SI)] h (ACX sdP p.vars R):=by
 refine PCall.res ?_ (AQ0 sdP p.vars R);refine ACalls.pure (R:=fun v H=>Sm.ext h H∧FI h.length H 3 v=AMC sdP p.vars R) 3 ?_ (fun v H ⟨a,b⟩=>⟨a,b⟩);refine J7 (H:=hint [] [(43,[42])]) (enM G) Tryz.func44 rfl (by kernel_rfl) (by kernel_rfl) (jB (by kernel_rfl)) ?_;show awp _ _ _ _ _ (NU _ [.tmp 4,.tmp 5] _);have gp:=AX h (qF 5 [CX p]);have hx:Sm.ext h (h++[qF 5 [CX p]]):=(ext.rfl' h).app _;simp -implicitDefEqProofs only[vQ,jY,zB,CJ,Z9,TY,GK,↓reduceIte,jC,enP,eV,qI,SC,SS,rD,YJ]
 generalize h++[qF 5 [CX p]]=H0 at gp hx|-
 have hlt:=AB gp;simp -implicitDefEqProofs only[AZL,AZM,YJ,jL];refine D9 0 (fun F H=>∃v,F 6=v∧F 7=.n (TQ p.vars R)∧Sm.ext H0 H∧(TQ p.vars R=0->outG 1 AC1 H0 (TP sdP p.vars R) v H)) (fun _ _=>False) ?_ ?_ (fun _ _ q=>q.elim)
 .refine BB (fun n F H=>∃i v,n+i=R.length∧F 2=.ptr h.length 0 0∧F 6=v∧F 7=.n 0∧F 15=.sl s 1 (R.map SI)∧F 16=.n (R.length:Nat)∧F 17=.n (i:Nat)∧Sm.ext H0 H∧outG 1 AC1 H0 (TP sdP p.vars (R.take i)) v H∧Bd.fstE (scC p.vars) (R.take i).flatten=0) R.length
   ⟨0,.sl .nil 0 [],A8,AC,AC,AC,AC,AC,AC,ext.rfl' _,outG.nil _ _ _ _,rfl⟩ ?_
  rintro n F H ⟨i,v,hi,f2,f6,f7,f15,f16,f17,hxH,ho,hf⟩;refine AQ f16 f17 ?_;refine DU ?_ ?_<;>intro hi'
  .have hmr:=jH hi'
   have hrl:=hl _ hmr;have lr:BO jA H 23 (.fptr 1 (R.map SI) i 0)=some (.sl (Cov.nm R[i]) 4 (R[i].map AY)):=by rw[BP L6 hi']; rfl
   refine OQ f15 f17 hi' lr ?_
   refine BB (fun n2 F' H'=>∃k u,n2+k=R[i].length∧F' 2=.ptr h.length 0 0∧F' 6=v∧F' 7=.n 0∧F' 15=.sl s 1 (R.map SI)∧F' 16=.n (R.length:Nat)∧F' 17=.n (i:Nat)∧F' 10=u∧F' 21=.sl (Cov.nm R[i]) 4 (R[i].map AY)∧F' 22=.n (R[i].length:Nat)∧F' 23=.n (k:Nat)∧Sm.ext H H'∧outG 4 AY H ((R[i].map (IA sdP p.vars)).take k) u H'∧Bd.fstE (scC p.vars) (R[i].take k)=0) R[i].length
    ⟨0,.sl .nil 0 [],A8,DW f2,DW f6,DW f7,DW f15,DW f16,DW f17,AC,AC,AC,AC,ext.rfl' _,outG.nil _ _ _ _,rfl⟩ ?_
   clear f2 f6 f7 f15 f16 f17;rintro n2 F H' ⟨k,u,hk,f2,f6,f7,f15,f16,f17,f10,f21,f22,f23,hx2,hou,hf2⟩;refine AQ f22 f23 ?_;refine DU ?_ ?_<;>intro hk'
   .have hme:=jH hk'
    have hx3:=hx2.app [qF 4 [AY R[i][k]]];have ga:=AX H' (qF 4 [AY R[i][k]]);have hou:=hou.app [qF 4 [AY R[i][k]]];simp -implicitDefEqProofs only[vQ,jY,zB,CJ,↓reduceIte,jC,enP,PK,Option.getD_none,qI,SC,f21,f23,CG hk',CY OZ I8 EF hk',al79,st79]
    generalize H'++[qF 4 [AY R[i][k]]]=H3 at hx3 ga hou|-
    generalize H'.length=ab at ga|-
    have gp3:=EJ (hxH.trans hx3) gp;refine DI f2 (WS gp3) (IW ga) ?_;refine(ACB G hG p hs hv R[i][k] (he _ hmr _ hme) H3).use ?_;by_cases hz:scC p.vars R[i][k]=0
    .rw[AME hz]
     have hx4:=hx3.app [qF 4 [AY (IA sdP p.vars R[i][k])]];have go:=AX H3 (qF 4 [AY (IA sdP p.vars R[i][k])]);have hou:=hou.app [qF 4 [AY (IA sdP p.vars R[i][k])]];refine AQ al79 st79 ?_
     generalize H3++[qF 4 [AY (IA sdP p.vars R[i][k])]]=H4 at hx4 go hou|-
     have hit:k<(R[i].map (IA sdP p.vars)).length:=by rw[jL]; exact hk'
     have hget:(R[i].map (IA sdP p.vars))[k]=IA sdP p.vars R[i][k]:=A8;obtain⟨u',H5,ha,ho2,_,he2,_,_⟩:=hou.append (P:=jA) U5 I8 cN bZ U (by rw[jU]; omega) hx4 (IA sdP p.vars R[i][k]);rw[<-hget,<-jW hit] at ho2;refine NZ (show((0:Int) != 0)=false from rfl) f10 (O6 go) @rB ha f23 (CW k) ?_;exact⟨n2-1,U,k+1,u',U,A7,A7,A7,A7,A7,A7,A7,A7,A7,A7,he2,ho2,by rw[jW hk']; exact AOD hf2 hz⟩
    .rw[ACY rfl hz]
     have hR4:R4 EQ:=⟨_,_,_,_,_,_,rfl⟩
     have hcode:TQ p.vars R=scC p.vars R[i][k]:=by
      obtain⟨ys,hys⟩:=AIU hi' hk';unfold TQ;rw[hys];exact ASO (AGZ hf hf2) hz
     have bz:(scC p.vars R[i][k] != 0)=true:=BL hz;refine DI al79 (AL6 H3 hR4) bz ?_;exact⟨v,A7,by rw[hcode],(hxH.trans hx3).app _,fun q=>absurd (hcode▸q) hz⟩
   .rw[jJ (by rw[jL]; omega)] at hou
    rw[jJ U] at hf2;obtain⟨H3,hz,hx3,_,hkeep⟩:=AOF (XM _) hou hx2 42;have hsl:TP sdP p.vars (R.take (i+1))=TP sdP p.vars (R.take i)++[R[i].map (IA sdP p.vars)]:=by unfold TP; rw[jW hi',List.map_append]; rfl
    have hsn:(TP sdP p.vars (R.take i)).length=i:=by unfold TP; rw[jL,jU]; omega
    obtain⟨v',H4,ha,ho2,_,he2,_,_⟩:=(outG_ext ho hx3).append (P:=jA) ALW AIJ AUG APF U U (hxH.trans hx3) (R[i].map (IA sdP p.vars));have ha':EP jA true H3 100 100 v (.sl .full 1 [AC1 (R[i].map (IA sdP p.vars))])=some (v',H4):=ha;refine QZ f6 f10 f17 @AAK hz @A00 ha' (CW i) ?_;exact⟨n-1,U,i+1,v',U,A7,A7,A7,A7,A7,A7,he2,by rw[hsl]; exact ho2,by rw[jW hi',List.flatten_append]; simp only[List.flatten_cons,List.flatten_nil,jO]; exact AGZ hf hf2⟩
  .rw[jJ U] at ho hf
   refine Z ?_;have hf:TQ p.vars R=0:=hf;exact⟨v,A7,by first|exact True.intro|(rw[hf]; exact f7)|rw[hf],hxH,fun _=>ho⟩
 rintro F H ⟨v,f6,f7,hxH,ho⟩;cases bz:(TQ p.vars R != 0)
 .have hz:TQ p.vars R=0:=BL bz
  refine DI f7 bz f6 ?_;refine⟨hx.trans hxH,?_⟩;unfold AMC;rw[if_pos hz,hz];show AV.tup [FI h.length H 2 v,_]=_;rw[NG ASR (ho hz) h.length 0 (by have:=hx.le; omega)]; rfl
 .have hz:TQ p.vars R≠0:=BL bz
  refine AQ f7 bz ?_;refine⟨hx.trans hxH,?_⟩;unfold AMC;rw[if_neg hz]; rfl
end
theorem bsA (h:Hp)(m:SM)(xs:List (List AV)):C9 jA false h 25 1 [(0,.sl m 1 xs)]=some (.sl .full 1 [[.sl m 1 xs]],h):=AZ
theorem ud25:Tryz.prog.underlying 25=some (.slice 32):=AZ
theorem zs25:SY jA 32=some 1:=AZ
theorem by25:KR jA 32=some 24:=AZ
def ZK {α β:Type}(f:α->Option β):List α->Option (List β)
 | []=>some []
 | x::xs=>match f x with
   | some y=>match ZK f xs with
     | some ys=>some (y::ys)
     | none=>none
   | none=>none
theorem oV {α β:Type}{f:α->Option β}:∀ {xs:List α} {ys:List β} {x:α} {y:β},ZK f xs=some ys->f x=some y->ZK f (xs++[x])=some (ys++[y])
 | [],ys,x,y,h,hx=>by
   cases h;rw[List.nil_append];unfold ZK;rw[hx]; rfl
 | a::xs,ys,x,y,h,hx=>by
   unfold ZK at h
   cases ha:f a with
   | none=>rw[ha] at h; cases h
   | some b =>
     rw[ha] at h
     cases hb:ZK f xs with
     | none=>rw[hb] at h; cases h
     | some bs =>
       rw[hb] at h;cases h;have ih:=oV hb hx;rw[List.cons_append];unfold ZK;rw[ha,ih]; rfl
theorem oW {α β:Type}{f:α->Option β}:∀ {xs:List α} {x:α},x∈xs->f x=none->ZK f xs=none
 | [],x,h,_=>by cases h
 | a::xs,x,h,hx=>by
   unfold ZK;rcases zK.1 h with rfl|h
   .rw[hx]
   .cases f a with
    | none=>rfl
    | some b=>rw[oW h hx]
theorem yK {α β:Type}{f:α->Option β}:∀ {xs:List α} {ys:List β},ZK f xs=some ys->ys.length=xs.length∧∀(i:Nat) (h1:i<xs.length) (h2:i<ys.length),f xs[i]=some ys[i]
 | [],ys,h=>by cases h; exact⟨rfl,fun i h1=>by cases h1⟩
 | a::xs,ys,h=>by
   unfold ZK at h
   cases ha:f a with
   | none=>rw[ha] at h; cases h
   | some b =>
     rw[ha] at h
     cases hb:ZK f xs with
     | none=>rw[hb] at h; cases h
     | some bs =>
       rw[hb] at h;cases h;obtain⟨i1,i2⟩:=yK hb;refine⟨by simp [i1],fun i h1 h2=>?_⟩
       cases i with
       | zero=>exact ha
       | succ i=>exact i2 i (BL h1) (BL h2)
def U8 (p:Pr):List Ex:=p.hard++WA p
def AC7 (s:Bw)(ins:Ex->List Rng->Ex)(p:Pr)(m:Mo)(x:Hl):Option (List (List Int)):=ZK (fun S=>TT p (U8 p++S)) (TP s p.vars (cnL ins m x))
def OU (s:Bw)(ins:Ex->List Rng->Ex)(p:Pr)(m:Mo)(x:Hl):Int :=
 if JY p≠0∨Q4 m x=false then 1 else if cnE ins m x≠0 then cnE ins m x else if TQ p.vars (cnL ins m x)≠0 then TQ p.vars (cnL ins m x) else if(AC7 s ins p m x).isSome then 0 else 11
def AI6 (s:Bw)(ins:Ex->List Rng->Ex)(p:Pr)(m:Mo)(x:Hl):List (List Int):=if OU s ins p m x=0 then (AC7 s ins p m x).getD [] else []
def AC6 (f:List Int->List AV)(s:Bw)(ins:Ex->List Rng->Ex)(p:Pr)(m:Mo)(x:Hl):AV:=.tup [.sl (Cov.nm (AI6 s ins p m x)) 1 ((AI6 s ins p m x).map f),.n (OU s ins p m x)]
def Pn (vs:List Vr)(x:Ex):Prop:=OI x=false∧O4 vs x=false
theorem Pn.op {x:Ex}(h:x.op≠2∧x.op≠3∧x.op≠24):Pn vs x:=by
 unfold Pn OI O4;simp [h.1,h.2.1,h.2.2]
theorem rR {op n:Int}{name:ByteArray}{m:SM}{l:List Ex}(h:Pn vs (.mk op n name m l))(hl:∀a∈l,∀x∈pre a,Pn vs x):∀x∈pre (.mk op n name m l),Pn vs x:=by
 intro x hx;rw[pre_eq] at hx;rcases zK.1 hx with rfl|hx
 .exact h
 .obtain⟨a,ha,hxa⟩:=Ho.mem_pres.1 hx
  exact hl a ha x hxa
theorem AQD (n:Int):∀x∈pre (cE n),Pn vs x:=rR (Pn.op (by refine⟨?_,?_,?_⟩<;>(show(1:Int)≠_; decide))) fun a h=>by cases h
theorem vA {a:ByteArray}(h:0<=plc vs (elN a k)):∀x∈pre (vaE a k),Pn vs x:=rR (by
 unfold Pn OI O4;refine⟨rfl,?_⟩;show((2:Int)==2&&decide (plc vs (elN a k)<0))=false
 simp; omega) fun a h=>by cases h
theorem AH2 {vs:List Vr}{a:ByteArray}{n:Nat}(h:∀k,k<n->0<=plc vs (elN a k)):∀k,k<n->∀x∈pre (ZE a k),Pn vs x
 | 0,hk=>vA (h 0 hk)
 | k+1,hk=>rR (Pn.op (by refine⟨?_,?_,?_⟩<;>(show(7:Int)≠_; decide))) fun y hy=>by
   simp only[zK,List.not_mem_nil,or_false] at hy;rcases hy with rfl|rfl
   .exact AH2 h k U
   .exact vA (h (k+1) hk)
theorem AQC {c:Ex->Ex}{vs:List Vr}{a:ByteArray}{i:Ex}{n:Nat}(h:∀k,k<n->0<=plc vs (elN a k))(hi:∀x∈pre (c i),Pn vs x):∀j,j<=n->∀x∈pre (chK c a i n j),Pn vs x
 | 0,_=>AQD 0
 | j+1,hj=>rR (Pn.op (by refine⟨?_,?_,?_⟩<;>(show(22:Int)≠_; decide))) fun y hy=>by
   simp only[zK,List.not_mem_nil,or_false] at hy;rcases hy with rfl|rfl|rfl
   .refine rR (Pn.op (by refine⟨?_,?_,?_⟩<;>(show(15:Int)≠_; decide))) fun y hy=>?_
    simp only[zK,List.not_mem_nil,or_false] at hy;rcases hy with rfl|rfl
    .exact hi
    .exact AQD _
   .exact vA (h _ U)
   .exact AQC h hi j U
theorem A12 {e:Ex}(h:∀x∈pre e,Pn vs x):∀x∈pre (cpE e),Pn vs x:=by
 intro x hx;rw[AMP] at hx;obtain⟨y,hy,rfl⟩:=qE.1 hx;have:=h y hy
 unfold Pn OI O4 at this|-
 rw[A0H,ATA]; exact this
theorem AV5 (vs:List Vr)(e:Ex):NdOk e->PP vs e=false->∀x∈pre (IA sdP vs e),Pn vs x:=by
 induction e using Ex.induct with|h e ih=>?_
 intro hn hu;rw[aT];unfold scF;by_cases o24:e.op=24
 .rw[if_pos o24]
  have:=U3 hu (.inr o24);exact AH2 (n:=szA vs e.name) (fun k hk=>ACQ hk) _ U
 rw[if_neg o24];by_cases o3:e.op=3
 .rw[if_pos o3]
  have hz:=U3 hu (.inl o3);obtain⟨b,hb⟩:=UK hn.self o3;have hm:b∈e.args:=by rw[hb]; simp
  have ihb:=ih b hm (hn.arg hm) (QB hu hm);obtain⟨c1,c2⟩:=cS (s:=sdP) (hn.arg hm) (QB hu hm);rw[hb];show ∀x∈pre (dW cpE e.name (IA sdP vs b) (szA vs e.name)),Pn vs x;unfold dW;split
  .rename_i q
   split
   .have h0:=c1.1 q
    have hn2:=c2 h0;exact vA (ACQ U)
   .exact AQD 0
  .exact AQC (fun k hk=>ACQ hk) (A12 ihb) _ (Nat.le_refl _)
 .rw[if_neg o3]
  refine rR ?_ fun a ha=>?_
  .rw[U4,wB] at hu
   have h1:=hu.1;unfold Q8 at h1;unfold Pn OI O4;refine⟨?_,?_⟩
   .show((e.op==3)||(e.op==24))=false
    simp [o3,o24]
   .show((e.op==2)&&decide (plc vs e.name<0))=false
    exact(wB.1 h1).1
  .obtain⟨b,hb,rfl⟩:=qE.1 ha
   exact ih b hb (hn.arg hb) (QB hu hb)
theorem AV4 {e:Ex}(he:exE e=0)(h:scC vs e=0):xpE vs (IA sdP vs e)=0:=by
 have hn:=NdOk.of he;unfold scC at h
 cases hu:PP vs e with
 | true=>rw[hu,if_pos rfl] at h; exact absurd h DK
 | false =>
   rw[hu,if_neg DK] at h;by_cases hx:400<(H6 vs e).1
   .rw[if_pos hx] at h; exact absurd h DK
   rw[if_neg hx] at h;have hp:=AV5 vs e hn hu;have h2:mL (IA sdP vs e)=false:=qM.2 fun x hx=>by rw[(hp x hx).1]; simp
   have h3:gB vs (IA sdP vs e)=false:=qM.2 fun x hx=>by rw[(hp x hx).2]; simp
   unfold xpE;rw[if_neg (by rw[h]; simp)];unfold plE;rw[h2,h3]; rfl
theorem ASJ (hv:JY p=0):∀e∈p.hard,xpE p.vars e=0:=by
 have h2:JW p.vars (p.hard++p.soft)=0:=by
  unfold JY at hv;by_cases h1:LD p.vars≠0
  .rw[if_pos h1] at hv; exact absurd hv h1
  rw[if_neg h1] at hv;by_cases h2:JW p.vars (p.hard++p.soft)≠0
  .rw[if_pos h2] at hv; exact absurd hv h2
  simpa using h2
 intro e he;unfold JW at h2;exact Bd.fstE_zero h2 e (List.mem_append_left _ he)
theorem AV3 {R:List (List Ex)}(he:∀r∈R,∀e∈r,exE e=0)(hz:TQ p.vars R=0):∀S∈TP sdP p.vars R,∀e∈S,xpE p.vars e=0:=by
 intro S hS e heS;unfold TP at hS;obtain⟨r,hr,rfl⟩:=qE.1 hS;obtain⟨x,hx,rfl⟩:=qE.1 heS;exact AV4 (he r hr x hx) (Bd.fstE_zero hz x (List.mem_flatten.2 ⟨r,hr,hx⟩))
theorem AMG (hv:JY p=0){S:List Ex}(hS:∀e∈S,xpE p.vars e=0):∀e∈U8 p++S,xpE p.vars e=0:=by
 intro e he;unfold U8 at he;rcases zX.1 he with h|h
 .rcases zX.1 h with h|h
  .exact ASJ hv e h
  .exact AVZ hv e h
 .exact hS e h
theorem A0K (hv:Q4 m x=true)(hc:cnE ins m x=0):∀r∈cnL ins m x,∀e∈r,exE e=0:=by
 unfold cnE at hc;rw[if_pos hv] at hc;by_cases q:(cnL ins m x).flatten.all (fun e=>exE e==0)=true
 .intro r hr e he
  have:=List.all_eq_true.1 q e (List.mem_flatten.2 ⟨r,hr,he⟩);simpa using this
 .rw[if_neg q] at hc; exact absurd hc DK
structure Sm51 (p:Pr):Prop where
 hard:p.hard.length<=100000
 dists:p.dists.length<=100000
 bits:JY p=0->lft p (bH p)<=262144
def lK (a:List Int):List AV:=[.sl .any 1 (a.map Bins.qencI)]
theorem AZ2:Frz lK:=fun _ _ _ _=>⟨rfl,rfl⟩
def AC5 (f:List Int->List AV)(s:Bw)(ins:Ex->List Rng->Ex)(p:Pr)(m:Mo)(x:Hl):AV:=.tup [fzG 1 f (AI6 s ins p m x),.n (OU s ins p m x)]
theorem AQ8 (f:List Int->List AV)(s:Bw)(ins:Ex->List Rng->Ex)(p:Pr)(m:Mo)(x:Hl):CvR (AC5 f s ins p m x) (AC6 f s ins p m x):=CvR.tup (CvRL.cons ZT (CvRL.cons (CvR.refl _) CvRL.nil))
theorem xO {f:List Int->List AV}{z:Int}(h:OU s ins p m x=z)(hz:z≠0):AC5 f s ins p m x=.tup [.sl .nil 0 [],.n z]:=by
 unfold AC5 AI6;rw[h,if_neg hz]; rfl
theorem AQ7 {f:List Int->List AV}{al:List (List Int)}(h:OU s ins p m x=0)(ha:AC7 s ins p m x=some al):AC5 f s ins p m x=.tup [fzG 1 f al,.n 0]:=by
 unfold AC5 AI6;rw[h,if_pos rfl,ha]; rfl
theorem AMM (h:JY p≠0∨Q4 m x=false):OU s ins p m x=1:=by unfold OU; rw[if_pos h]
theorem AYW (h1:JY p=0)(h2:Q4 m x=true)(h:cnE ins m x≠0):OU s ins p m x=cnE ins m x:=by unfold OU; rw[if_neg (by rw[h1,h2]; simp),if_pos h]
theorem AYV (h1:JY p=0)(h2:Q4 m x=true)(h3:cnE ins m x=0)(h:TQ p.vars (cnL ins m x)≠0):OU s ins p m x=TQ p.vars (cnL ins m x):=by unfold OU; rw[if_neg (by rw[h1,h2]; simp),if_neg (by rw[h3]; simp),if_pos h]
theorem AYU (h1:JY p=0)(h2:Q4 m x=true)(h3:cnE ins m x=0)(h4:TQ p.vars (cnL ins m x)=0):OU s ins p m x=if(AC7 s ins p m x).isSome then 0 else 11:=by unfold OU; rw[if_neg (by rw[h1,h2]; simp),if_neg (by rw[h3]; simp),if_neg (by rw[h4]; simp)]
theorem AWF (h:FT m≠0):Q4 m x=false:=by
 cases q:Q4 m x
 .rfl
 .exact absurd (rY q) h
theorem AXE (hv:Q4 m x=true):(cnL ins m x).length<=8∧∀r∈cnL ins m x,r.length<=8:=by
 have h0:=rY hv;have hL:=AMN hv
 have hl:=rJ (cs:=(WH m x).map (cdQ ins m)) (by rw[jL]; exact hL.n4) (fun c hc=>by
  obtain⟨q,hq,rfl⟩:=qE.1 hc;obtain⟨a,b⟩:=hL.ok q hq
  exact(AHQ h0 a b).2) (fun c hc r hr=>by
  obtain⟨q,hq,rfl⟩:=qE.1 hc;obtain⟨a,b⟩:=hL.ok q hq
  exact(ABP (P:=fun _=>True) h0 a b (fun l _=>⟨trivial,trivial⟩) r hr).1)
 exact⟨hl.1,hl.2.1⟩
theorem AOE (r:Option (List Int))(n:Nat)(H:Hp):FI n H 3 (AD3 r)=AD3 r:=by cases r<;>rfl
theorem AL2 (p:Pr):(WA p).length=p.dists.length:=by unfold WA; rw[jL]
section
variable (G:Nat->AV)
theorem ADT (hG:GOk G)(p:Pr)(hs:PrS p)(hv:JY p=0)(lm:SM)(l:List Ex)(hl:l.length<=1048576)(hk:∀e∈l,xpE p.vars e=0)(hst:lft p (bH p)<=262144)(h:Hp):
  PCall (En G) 47 [.agg (CX p),.sl lm 4 (l.map AY)] h (AD3 (TT p l)):=by
 refine UC 3 (AOE _) ?_;refine acL Tryz.func47 [.tmp 4,.tmp 5] ?_;have gp:=AX h (qF 5 [CX p]);have hx:Sm.ext h (h++[qF 5 [CX p]]):=(ext.rfl' h).app _;refine AO @SS ?_
 generalize h++[qF 5 [CX p]]=H0 at gp hx|-
 refine AO (WS gp) ?_;refine(AUA G hG p hs hv lm l hl (fun e he=>by have:=AX4 (hk e he); omega) hk hst H0).use ?_;unfold AD3
 cases TT p l with
 | none =>
   refine AO (show((11:Int) != 18)=true from rfl) ?_;exact⟨A7,hx⟩
 | some a =>
   refine AO (show((0:Int) != 18)=true from rfl) ?_;exact⟨A7,hx⟩
theorem VO (hG:GOk G)(p:Pr)(hs:PrS p)(hb:Sm51 p)(m:Mo)(hm:MoOk m)(x:Hl)(hn:x.bins.length<=1048576)(h:Hp):PCall (En G) 12 [.agg (CX p),.agg (CZ m),.agg (EZ x)] h (AC6 lK sdP FD p m x):=by
 refine PCall.res ?_ (AQ8 lK sdP FD p m x);refine ACalls.pure (R:=fun v H=>Sm.ext h H∧FI h.length H 3 v=AC5 lK sdP FD p m x) 3 ?_ (fun v H ⟨a,b⟩=>⟨a,b⟩);refine acL Tryz.func12 [.tmp 6,.tmp 7] ?_;have gp:=AL (x:=qF 3 [EZ x]) (AL (x:=qF 2 [CZ m]) (AX h (qF 5 [CX p])));have gm:=AL (x:=qF 3 [EZ x]) (AX (h++[qF 5 [CX p]]) (qF 2 [CZ m]));have gh:=AX (h++[qF 5 [CX p]]++[qF 2 [CZ m]]) (qF 3 [EZ x]);have hx:Sm.ext h (h++[qF 5 [CX p]]++[qF 2 [CZ m]]++[qF 3 [EZ x]]):=(((ext.rfl' h).app _).app _).app _;refine DI @SS @bxM @bxH ?_
 generalize h++[qF 5 [CX p]]++[qF 2 [CZ m]]++[qF 3 [EZ x]]=H0 at gp gm gh hx|-
 generalize (h++[qF 5 [CX p]]++[qF 2 [CZ m]]).length=xb at gh|-
 generalize (h++[qF 5 [CX p]]).length=mb at gm|-
 have bad:∀z:Int,OU sdP FD p m x=z->z≠0->FI h.length H0 3 (.tup [.sl .nil 0 [],.n z])=AC5 lK sdP FD p m x:=fun z q1 q2=>by rw[xO q1 q2]; rfl
 refine AO (WS gp) ?_;refine(Bd.valid_prog G hG p hs H0).use ?_;cases bv:(JY p != 0)
 case true =>
  have q:JY p≠0:=BL bv;refine AO bv ?_;exact⟨hx,bad 1 (AMM (.inl q)) DK⟩
 have hv:JY p=0:=BL bv;refine AQ bv (ldM gm) ?_;refine(PS G hG m hm H0).use ?_;cases bm:(FT m != 0)
 case true =>
  have q:FT m≠0:=BL bm;refine AQ bv bm ?_;exact⟨hx,bad 1 (AMM (.inr (AWF q))) DK⟩
 refine EO bv bm (ldM gm) (ldH gh) ?_;refine(Ho.valid_prog G hG m hm x hn H0).use ?_;cases bh:Q4 m x
 case false =>
  refine DI bv bm bh ?_;exact⟨hx,bad 1 (AMM (.inr bh)) DK⟩
 refine JL bv bm bh (ldM gm) (ldH gh) ?_;refine(mY G hG m hm x hn H0).use ?_;by_cases hc:cnE FD m x=0
 rotate_left
 .have e:cnV FD m x=.tup [.sl .nil 0 [],.n (cnE FD m x)]:=by unfold cnV; rw[if_neg hc]
  have bc:(cnE FD m x != 0)=true:=BL hc;rw[e];refine AO bc ?_;exact⟨hx,bad _ (AYW hv bh hc) hc⟩
 have e:cnV FD m x=.tup [.sl .any 1 ((cnL FD m x).map SI),.n 0]:=by unfold cnV; rw[if_pos hc,hc]
 have hce:=A0K bh hc;obtain⟨hcl,hcr⟩:=AXE (ins:=FD) bh;have hr4:=AYU (s:=sdP) hv bh hc;have hr3:=AYV (s:=sdP) hv bh hc;have hrA:AC7 sdP FD p m x=ZK (fun S=>TT p (U8 p++S)) (TP sdP p.vars (cnL FD m x)):=rfl;rw[e]
 generalize cnL FD m x=R at hce hcl hcr hr3 hr4 hrA|-
 refine AQ (show((0:Int) != 0)=false from rfl) (WS gp) ?_;refine(sI G hG p hs hv .any R U (fun r hr=>by have:=hcr r hr; omega) hce H0).use ?_;by_cases hz:TQ p.vars R=0
 rotate_left
 .have e:ACX sdP p.vars R=.tup [.sl .nil 0 [],.n (TQ p.vars R)]:=by unfold ACX; rw[if_neg hz]
  have bc:(TQ p.vars R != 0)=true:=BL hz;rw[e];refine AO bc ?_;exact⟨hx,bad _ (hr3 hz) hz⟩
 have e:ACX sdP p.vars R=.tup [.sl (Cov.nm (TP sdP p.vars R)) 1 ((TP sdP p.vars R).map SI),.n 0]:=by unfold ACX; rw[if_pos hz,hz]
 have hSx:=AV3 hce hz
 have hSl:(TP sdP p.vars R).length<=8∧∀S∈TP sdP p.vars R,S.length<=8:=by
  refine⟨by unfold TP; rw[jL]; exact hcl,fun S hS=>?_⟩;unfold TP at hS;obtain⟨r,hr,rfl⟩:=qE.1 hS;rw[jL]; exact hcr r hr
 have hr4:=hr4 hz;rw[e]
 generalize TP sdP p.vars R=L at hSx hSl hrA|-
 have lh:BO jA H0 23 (.ptr h.length 0 1)=some (.sl p.hm 4 (p.hard.map AY)):=by rw[BH L6 gp (row:=CX p) rfl]; rfl
 refine AO (show((0:Int) != 0)=false from rfl) ?_;have hfl:Bd.fl [⟨p.hm,p.hard⟩,⟨.any,WA p⟩]=U8 p:=by simp [Bd.fl,U8]
 have hrl:(U8 p).length<=200000:=by unfold U8; rw[jS,AL2]; have:=hb.hard; have:=hb.dists; omega
 have hcc:=Bd.concat_prog G [⟨p.hm,p.hard⟩,⟨.any,WA p⟩] .full A8 (by rw[hfl]; omega) H0;rw[hfl] at hcc;refine DJ AZ ?_;refine DI @dN lh (WS gp) ?_;refine⟨_,uZ G hG p hs hv H0,?_⟩;simp -implicitDefEqProofs only[vQ,LQ,LP,KF,CJ,Z9,List.map_cons,List.map_nil,↓reduceIte,jC,Nat.reduceAdd,enP,eV,APJ];refine⟨_,hcc,?_⟩;have hrx:=fun S (q:∀e∈S,xpE p.vars e=0)=>AMG (p:=p) hv (S:=S) q
 generalize U8 p=rl at hrl hrA hrx|-
 simp -implicitDefEqProofs only[jL]
 refine BB (fun n F H=>∃i v done,n+i=L.length∧F 3=.ptr h.length 0 0∧F 11=.sl (Cov.nm rl) 4 (rl.map AY)∧F 12=v∧F 55=.sl (Cov.nm L) 1 (L.map SI)∧F 56=.n (L.length:Nat)∧F 57=.n (i:Nat)∧Sm.ext H0 H∧outG 1 lK H0 done v H∧ZK (fun S=>TT p (rl++S)) (L.take i)=some done) L.length
  ⟨0,.sl .nil 0 [],[],A8,by simp -implicitDefEqProofs only[AU,↓reduceIte,jC],by simp -implicitDefEqProofs only[AU,↓reduceIte,jC],by simp -implicitDefEqProofs only[AU,↓reduceIte,jC],by simp -implicitDefEqProofs only[AU,↓reduceIte,jC],by simp -implicitDefEqProofs only[AU,↓reduceIte,jC],by simp -implicitDefEqProofs only[AU,↓reduceIte]; rfl,ext.rfl' _,outG.nil _ _ _ _,rfl⟩ ?_
 rintro n F H ⟨i,v,done,hi,f3,f11,f12,f55,f56,f57,hxH,ho,hd⟩;refine AQ f56 f57 ?_;refine DU ?_ ?_<;>intro hi'
 .have hme:=jH hi'
  have hdl:=(yK hd).1;rw[jU] at hdl;have gp1:=EJ hxH gp;have lr:BO jA H 23 (.fptr 1 (L.map SI) i 0)=some (.sl (Cov.nm L[i]) 4 (L[i].map AY)):=by rw[BP L6 hi']; rfl
  have hfl2:Bd.fl [⟨Cov.nm rl,rl⟩,⟨Cov.nm L[i],L[i]⟩]=rl++L[i]:=by simp [Bd.fl]
  have hll:(rl++L[i]).length<=1048576:=by rw[jS]; have:=hSl.2 _ hme; omega
  have hcc2:=Bd.concat_prog G [⟨Cov.nm rl,rl⟩,⟨Cov.nm L[i],L[i]⟩] .full A8 (by rw[hfl2]; exact hll) H;rw[hfl2] at hcc2;refine OQ f55 f57 hi' lr ?_;refine DJ AZ ?_;refine EO f3 f11 (WS gp1) APJ ?_;refine⟨_,hcc2,_,ADT G hG p hs hv _ (rl++L[i]) hll (hrx _ (hSx _ hme)) (hb.bits hv) H,?_⟩;unfold AD3
  cases hq:TT p (rl++L[i]) with
  | none =>
    have hnone:AC7 sdP FD p m x=none:=by rw[hrA]; exact oW hme hq
    refine AO (show((11:Int) != 0)=true from rfl) ?_;refine⟨hx.trans hxH,?_⟩;rw[xO (z:=11) (by rw[hr4,hnone]; rfl) DK]; rfl
  | some a =>
    obtain⟨v',H4,ha,ho2,_,he2,_,_⟩:=ho.append (P:=jA) ud25 AII zs25 by25 U U hxH a;change EP jA true H 25 25 v (.sl .full 1 [[.sl .any 1 (a.map Bins.qencI)]])=_ at ha;refine MR (show((0:Int) != 0)=false from rfl) f12 @bsA ha f57 (CW i) ?_;exact⟨n-1,U,i+1,v',done++[a],U,A7,A7,A7,A7,A7,A7,he2,ho2,by rw[jW hi']; exact oV hd hq⟩
 .rw[jJ U] at hd
  have hsome:AC7 sdP FD p m x=some done:=by rw[hrA]; exact hd
  refine AO f12 ?_;refine⟨hx.trans hxH,?_⟩;rw[AQ7 (by rw[hr4,hsome]; rfl) hsome];show AV.tup [FI h.length H 2 v,_]=_;rw[NG AZ2 ho h.length 0 (by have:=hx.le; omega)]; rfl
def ARA (s:Bw)(ins:Ex->List Rng->Ex)(p:Pr)(m:Mo)(x:Hl):AV:=.tup [.bool (decide (OU s ins p m x=11)),.n (if OU s ins p m x=11 then 0 else OU s ins p m x)]
theorem ACC (hG:GOk G)(p:Pr)(hs:PrS p)(hb:Sm51 p)(m:Mo)(hm:MoOk m)(x:Hl)(hn:x.bins.length<=1048576)(h:Hp):PCall (En G) 14 [.agg (CX p),.agg (CZ m),.agg (EZ x)] h (ARA sdP FD p m x):=by
 refine UC 3 (fun n H=>rfl) ?_;refine acL Tryz.func14 [.tmp 6,.tmp 7] ?_;have gp:=AL (x:=qF 3 [EZ x]) (AL (x:=qF 2 [CZ m]) (AX h (qF 5 [CX p])));have gm:=AL (x:=qF 3 [EZ x]) (AX (h++[qF 5 [CX p]]) (qF 2 [CZ m]));have gh:=AX (h++[qF 5 [CX p]]++[qF 2 [CZ m]]) (qF 3 [EZ x]);have hx:Sm.ext h (h++[qF 5 [CX p]]++[qF 2 [CZ m]]++[qF 3 [EZ x]]):=(((ext.rfl' h).app _).app _).app _;refine DI @SS @bxM @bxH ?_
 generalize h++[qF 5 [CX p]]++[qF 2 [CZ m]]++[qF 3 [EZ x]]=H0 at gp gm gh hx|-
 refine DI (WS gp) (ldM gm) (ldH gh) ?_;refine(VO G hG p hs hb m hm x hn H0).use ?_;unfold AC6 ARA;generalize OU sdP FD p m x=c;refine Z ?_;refine BG ?_ ?_<;>intro hc
 .have hc:c=11:=BL hc
  refine Z ?_;exact⟨by rw[hc]; rfl,hx⟩
 .have hc:¬c=11:=BL hc
  refine Z ?_;exact⟨by rw[if_neg hc,decide_eq_false hc],hx⟩
end
end Go.Proofs.YtiihpnicbekebaaGreatDoor.Bd.Cl
namespace Go.Proofs.YtiihpnicbekebaaGreatDoor.Sm
open Go.RowKit
theorem SimH.below {E:Env}{g:Gh}{h:Hp}{w w':World}(S:SimH E g h w)(hb:Below w.heap.size w w'):SimH E g h w' where
 os:=hb.os.trans S.os
 tape:=hb.tape.trans S.tape
 output:=hb.output.trans S.output
 fro k o hk:=by
  have:=S.fro k o hk;rw[hb.block k (by have:=(Array.getElem?_eq_some_iff.1 this).1; exact this)]; exact this
 lo:=S.lo
 live b k xs hb':=by
  obtain⟨l,c,e,h1,h2,h3,h4,h5⟩:=S.live b k xs hb';refine⟨l,c,e,h1,h2,h3,?_,h5⟩;rw[hb.block _ (by have:=(Array.getElem?_eq_some_iff.1 h4).1; exact this)]; exact h4
 obj b x hb' hi:=by
  obtain⟨l,o,h1,h2,h3,h4,h5,h6⟩:=S.obj b x hb' hi;refine⟨l,o,h1,h2,h3,h4,?_,h6⟩;rw[hb.block _ (by have:=(Array.getElem?_eq_some_iff.1 h5).1; exact this)]; exact h5
 inj:=S.inj
 fresh:=S.fresh
 glob:=S.glob
theorem PCall.of_ints {E:Env}{f:FuncId}{args:List AV}{h:Hp}{ns:List Int}(hok:aH E.P f)(hne:ns≠[])
  (hc:∀(g:Gh) (w:World) (cargs:Array Value),SimH E g h w->YS g args cargs->Calls E.P f cargs w fun e w'=>Below w.heap.size w w'∧∃b c ty cap,e=.returned (.slice (some ⟨b,0,none⟩) ns.length cap) ∧
   w.heap.size<=b∧w'.heap[b]?=some (.cells c ty (0,0))∧ns.length<=cap∧∀i (hi:i<ns.length),c[i]?=some (.int .i64 ns[i])):PCall E f args h (.sl .any 1 (ns.map fun n=>[.int .i64 n])):=by
 refine⟨hok,fun g w cargs S ha=>?_⟩;refine(hc g w cargs S.ofNox ha).mono ?_;rintro e w' ⟨hbl,b,c,ty,cap,rfl,hb,hw,hcap,hcell⟩;have S':=S.below hbl;obtain⟨u1,u2⟩:=S.unowned_new hb
 have hr:RepF (g.freeze b (.cells c ty (0,0))).M (.sl .any 1 (ns.map fun n=>[.n n])) (.slice (some ⟨b,0,none⟩) ns.length cap):=by
  have hl:ns.length=(ns.map fun n=>[AV.int .i64 n]).length:=A8;rw[hl];refine .sl .any 1 _ b 0 c ty (0,0) cap (fun i _=>(c[i]?).getD default) (BL hne) A8 (by simp [Gh.freeze]) ?_ ?_ ?_ (BL hcap) A8
  .intro i row hrow
   rw[jX,Option.map_eq_some_iff] at hrow;obtain⟨n,_,rfl⟩:=hrow
   exact⟨rfl,fun j v hv=>by cases j with
    | zero=>cases hv; rfl
    | succ j=>cases hv⟩
  .intro i j hi hj
   obtain rfl:j=0:=U;simp only[List.length_map] at hi;simp only[Nat.zero_add,Nat.mul_one,Nat.add_zero];rw[hcell i hi]; rfl
  .intro i j row v hrow hv
   rw[jX,Option.map_eq_some_iff] at hrow;obtain⟨n,hn,rfl⟩:=hrow;obtain⟨hi,rfl⟩:=List.getElem?_eq_some_iff.1 hn
   cases j with
   | zero=>cases hv; rw[hcell i hi]; exact .int _ _
   | succ j=>cases hv
 exact .inl ⟨_,_,g.freeze b (.cells c ty (0,0)),h,rfl,⟨rfl,rfl⟩,Gh.freeze_le u2,S'.freeze hw u2 u1,.fro hr⟩
end Go.Proofs.YtiihpnicbekebaaGreatDoor.Sm
namespace Go.Proofs.YtiihpnicbekebaaGreatDoor.Sm
variable {n:Nat} {P:Program} {t:TypeId}

def M0 (W:World):Nat->Option Obj:=fun k=>W.heap[k]?
def g0 (W:World):Gh:=⟨M0 W,fun _=>none,W.os,W.tape,W.output,fun _=>none⟩
theorem A2U {E:Env}{W:World}(hN:E.L=none)(hG:∀n,RepF (M0 W) (E.G n) (.pointer (some ⟨n,0,none⟩))):SimH E (g0 W) [] W where
 os:=rfl
 tape:=rfl
 output:=rfl
 fro k o h:=h
 lo g0 h:=by rw[hN] at h; cases h
 live b k xs h:=by simp at h
 obj b x h:=by simp at h
 inj b b' x x' l l' h:=by simp at h
 fresh b _:=rfl
 glob:=hG
theorem ABQ {E:Env}{f:FuncId}{avs:List AV}{args:Array Value}{W:World}(hc:ACalls E f avs [] fun v _=>v=.bool true)(hN:E.L=none)(hX:∀u h,¬E.X u h)
  (hG:∀n,RepF (M0 W) (E.G n) (.pointer (some ⟨n,0,none⟩))) (ha:YS (g0 W) avs args) :
  Calls E.P f args W fun e w'=>e=.returned (.bool true)∧RowKit.Below W.heap.size W w':=by
 refine(hc.2 (g0 W) W args (A2U hN hG) ha).mono ?_;rintro e w' (⟨v,cv,g',h',rfl,rfl,hle,S,hr⟩|⟨_,_,_,_,hx,_⟩)
 rotate_left
 .exact(hX _ _ hx).elim
 rw[hr.bool_inv];have hfro:∀k o,W.heap[k]?=some o->w'.heap[k]?=some o:=fun k o h=>S.fro k o (hle.M k o h)
 refine⟨rfl,?_,?_,?_,?_,?_⟩
 .rw[S.os,hle.os]; rfl
 .rw[S.tape,hle.tape]; rfl
 .rw[S.output,hle.output]; rfl
 .rcases Nat.lt_or_ge w'.heap.size W.heap.size with h|h
  .have h1:=hfro w'.heap.size _ (Array.getElem?_eq_getElem h)
   simp at h1
  .exact h
 .intro k hk
  rw[hfro k _ (Array.getElem?_eq_getElem hk),Array.getElem?_eq_getElem hk]
theorem AMQ {H:Type}{enc:TypeId×Value->H}{P:Program}{f:Func}{s:ChangeSpec}{tb:TypeId}{apart fresh handsOn:Bool}{W W':World}{args:Array Value}{ds gs:List (DataW H)}{before:List MemPlace}
  (hW:DataW.Whole enc P f.params.toList s.vars apart W args.toList ds gs before) (hb:RowKit.Below W.heap.size W W')
  (hv:s.vars=[]) (hr:f.resultTypes = #[tb]) (hub:P.underlying tb=some .bool)
  (hs:s.fn H ds={ results:=[.lit (.bool true)],args:=ds })
  (hl:laidOutB P=true) (hp:f.params.toList.all (fun t=>P.readableRec t&&decide (t<P.types.size))=true) :
  s.post enc P f apart fresh handsOn false W args (.bool true) W':=by
 have hW0:=hW;obtain⟨p,q,hA,hV,rfl,_,_⟩:=hW;rw[hv] at hV
 obtain⟨rfl,rfl⟩:gs=[]∧q=[]:=by
  cases gs with
  | nil=>exact⟨rfl,hV⟩
  | cons=>exact hV.elim
 have hfn:s.fn H (ds++[])={ results:=[.lit (.bool true)],args:=ds }:=by rw[jO]; exact hs
 rw[jO] at hW0;have hlt:∀x∈p,x.block<W.heap.size:=fun x hx=>hW0.lt x hx
 have hall:∀(sp:Nat->Bool),(∀x∈p,sp x.block=true)->∀ {ts:List TypeId} {vs:List Value} {ds:List (DataW H)} {ps:List MemPlace},(ts.all (fun t=>P.readableRec t&&decide (t<P.types.size))=true) ->
   (∀x∈ps,x∈p)->DataW.TrodAll enc P W 0 (fun _=>true) true ts vs ds ps->DataW.TrodAll enc P W' 0 sp true ts vs ds ps:=by
  intro sp hsp ts
  induction ts with
  | nil =>
    intro vs ds ps _ _ h
    cases vs<;>cases ds<;>first|exact h|exact h.elim
  | cons t ts ih =>
    intro vs ds ps hts hm h
    cases vs with
    | nil=>exact h.elim
    | cons v vs =>
      cases ds with
      | nil=>exact h.elim
      | cons d ds =>
        obtain⟨p1,q1,h1,h2,e⟩:=h;simp only[List.all_cons,jT,decide_eq_true_eq] at hts;have hm1:∀x∈p1,x∈p:=fun x hx=>hm x (by rw[e]; exact List.mem_append_left _ hx)
        exact⟨p1,q1,WideElems.Trod_stays hl hts.1.1 hts.1.2 h1 (fun x hx=>hb.same (hlt x (hm1 x hx))) (fun x hx=>hsp x (hm1 x hx)),ih hts.2 (fun x hx=>hm x (by rw[e]; exact List.mem_append_right _ hx)) h2,e⟩
 have hold:∀x∈p,(fun b=>decide (b<W.heap.size)) x.block=true:=fun x hx=>by simpa using hlt x hx
 refine⟨ds,[],p,[],p,[],hW0,?_,?_,?_,World.keptBut_mono (fun x hx=>⟨hx,.inr (.inl hx)⟩) (hb.frame (·∈p)),fun h=>by cases h⟩
 .rw[hfn,hr]
  exact ChangeShapes.trodAll_mk1 (RowKit.shut_bool hub true)
 .rw[hfn]; exact hall _ hold hp (fun _ h=>h) hA
 .rw[hv,hfn]; exact rfl

open Go.Proofs.YtiihpnicbekebaaGreatDoor.Rows (uptoBulk uptoBulkAll)
def RowP (M:Nat->Option Obj)(rs:List AV)(cs:List Value):Prop:=∀(j:Nat) (a:AV),rs[j]?=some a->a.leaf=true∧∃c,cs[j]?=some c∧RepF M a c
theorem RowP.nil (M:Nat->Option Obj)(cs:List Value):RowP M [] cs:=fun j a h=>by simp at h
theorem RowP.one {M:Nat->Option Obj}{a:AV}{c:Value}(hl:a.leaf=true)(h:RepF M a c):RowP M [a] [c]:=by
 intro j b hb
 cases j with
 | zero=>simp at hb; subst hb; exact⟨hl,c,rfl,h⟩
 | succ j=>simp at hb
theorem RowP.append {M:Nat->Option Obj}{rs bs:List AV}{cs:List Value}(h:RowP M rs (cs.take n))(hn:rs.length=n)(k:RowP M bs (cs.drop n)):RowP M (rs++bs) cs:=by
 intro j a ha;rw[List.getElem?_append] at ha;split at ha
 .obtain⟨h1,c,h2,h3⟩:=h j a ha
  rw[List.getElem?_take] at h2;split at h2
  .exact⟨h1,c,h2,h3⟩
  .cases h2
 .obtain⟨h1,c,h2,h3⟩:=k _ a ha
  rw[List.getElem?_drop] at h2;exact⟨h1,c,by rw[<-h2]; congr 1; omega,h3⟩
def RdAt (P:Program)(n:Nat)(t:TypeId){α:Type}(enc:α->List AV)(ok:α->Nat->Prop):Prop :=
 ∀ (H:Type) (ench:TypeId×Value->H) (w:World) (cs:List Value) (d:DataW H) (ps:List MemPlace),
   DataW.trod ench P w 0 (fun _=>true) true n t cs=some (d,ps)->∃x,ok x (uptoBulk d)∧RowP (M0 w) (enc x) cs
def Rd (P:Program)(t:TypeId){α:Type}(enc:α->List AV)(ok:α->Nat->Prop):Prop:=∀n,RdAt P n t enc ok
theorem RdAt.zero {α:Type}{enc:α->List AV}{ok:α->Nat->Prop}:RdAt P 0 t enc ok:=by
 intro H ench w cs d ps h; simp [DataW.trod] at h
theorem RdAt.map {P:Program}{n:Nat}{t:TypeId}{α β:Type}{enc:α->List AV}{ok:α->Nat->Prop}{enc':β->List AV}{ok':β->Nat->Prop}(f:α->β)(h:RdAt P n t enc ok)
  (he:∀x,enc' (f x)=enc x) (hk:∀x b,ok x b->ok' (f x) b):RdAt P n t enc' ok':=by
 intro H ench w cs d ps ht;obtain⟨x,h1,h2⟩:=h H ench w cs d ps ht;exact⟨f x,hk x _ h1,by rw[he]; exact h2⟩
theorem Rd.map {P:Program}{t:TypeId}{α β:Type}{enc:α->List AV}{ok:α->Nat->Prop}{enc':β->List AV}{ok':β->Nat->Prop}(f:α->β)(h:Rd P t enc ok)
 (he:∀x,enc' (f x)=enc x) (hk:∀x b,ok x b->ok' (f x) b):Rd P t enc' ok':=fun n=>(h n).map f he hk
def okI (z:Int)(_:Nat):Prop := -9223372036854775808<=z∧z<=9223372036854775807
def okS (s:ByteArray)(b:Nat):Prop:=s.size+1<=b
def okT {α:Type}(_:α)(_:Nat):Prop:=True
def okL {α:Type}(ok:α->Nat->Prop):List α->Nat->Prop
 | [],_=>True
 | x::xs,b=>∃b1 b2,b1+b2<=b∧1<=b1∧ok x b1∧okL ok xs b2
theorem okL.length {α:Type}{ok:α->Nat->Prop}:∀ {xs:List α} {b:Nat},okL ok xs b->xs.length<=b
 | [],_,_=>qG _
 | _::_,_,⟨_,_,h1,h2,_,h4⟩=>by have:=okL.length h4; simp; omega
theorem okL.each {α:Type}{ok:α->Nat->Prop}:∀ {xs:List α} {b:Nat},okL ok xs b->∀x∈xs,∃b1,b1<=b∧ok x b1
 | [],_,_,_,h=>by cases h
 | y::ys,b,⟨b1,b2,h1,h2,h3,h4⟩,x,h=>by
   cases List.mem_cons.1 h with
   | inl e=>subst e; exact⟨b1,U,h3⟩
   | inr e=>obtain⟨b3,h5,h6⟩:=okL.each h4 x e; exact⟨b3,U,h6⟩
theorem okL.mono {α:Type}{ok:α->Nat->Prop}:∀ {xs:List α} {b b':Nat},okL ok xs b->b<=b'->okL ok xs b'
 | [],_,_,_,_=>trivial
 | _::_,_,_,⟨b1,b2,h1,h2,h3,h4⟩,h=>⟨b1,b2,U,h2,h3,h4⟩
theorem APG {H:Type}(d:DataW H):1<=uptoBulk d:=by
 cases d with
 | lit l=>cases l<;>simp [uptoBulk]
 | nil=>simp [uptoBulk]
 | ptr d=>simp [uptoBulk]
 | slice elems spare=>simp [uptoBulk]
 | agg parts=>simp [uptoBulk]
 | iface t d=>simp [uptoBulk]
 | map entries=>simp [uptoBulk]
 | held h=>simp [uptoBulk]
theorem AV8 (hu:P.underlying t=some (.int .i64)):Rd P t (fun z:Int=>[.int .i64 z]) okI:=by
 intro n H ench w cs d ps h;obtain⟨z,rfl,hx,hz⟩:=DataW.trod_int hu h;refine⟨z,?_,RowP.one rfl (.int _ _)⟩;simp only[Lit.wf,jT,decide_eq_true_eq] at hz;exact hz
theorem AQ6 (hu:P.underlying t=some .bool):Rd P t (fun z:Bool=>[.bool z]) okT:=by
 intro n H ench w cs d ps h;obtain⟨z,rfl,hx⟩:=DataW.trod_bool hu h;exact⟨_,trivial,RowP.one rfl (.bool _)⟩
theorem AV7 (hu:P.underlying t=some .string):Rd P t (fun z:ByteArray=>[.str z]) okS:=by
 intro n H ench w cs d ps h;obtain⟨s,rfl,hx,_⟩:=DataW.trod_string hu h;cases hx;refine⟨s,?_,RowP.one rfl (.str _)⟩;simp only[okS,uptoBulk,Array.length_toList];exact Nat.le_refl _
theorem kL {α β:Type}{f:α->Option β}{x:α}{xs:List α}{ys:List β}(h:(x::xs).mapM f=some ys):∃y zs,f x=some y∧xs.mapM f=some zs∧ys=y::zs:=by
 rw[List.mapM_cons] at h
 cases hx:f x with
 | none=>simp [hx] at h
 | some y =>
   cases hz:xs.mapM f with
   | none=>simp [hx,hz] at h
   | some zs=>simp [hx,hz] at h; exact⟨y,zs,rfl,rfl,h.symm⟩
theorem xN {P:Program}{n:Nat}{e:TypeId}{α:Type}{enc:α->List AV}{ok:α->Nat->Prop}(hr:RdAt P n e enc ok){H:Type}{ench:TypeId×Value->H}{w:World} :
  ∀ (zs:List (DataW H×List MemPlace)) (cells:Nat->Option (List Value)),(∀i,i<zs.length->(cells i).bind (DataW.trod ench P w 0 (fun _=>true) true n e)=zs[i]?) ->
    ∃xs:List α,xs.length=zs.length∧okL ok xs (uptoBulkAll (zs.map (·.1)))∧∀(i:Nat) (x:α),xs[i]?=some x->∃cs,cells i=some cs∧RowP (M0 w) (enc x) cs
 | [],cells,h=>⟨[],rfl,trivial,fun i x h=>by simp at h⟩
 | y::zs,cells,h=>by
   have h0:=h 0 A8
   cases hc:cells 0 with
   | none=>simp [hc] at h0
   | some cs =>
     simp only[hc,Option.bind_some,List.getElem?_cons_zero] at h0;obtain⟨x,k1,k2⟩:=hr H ench w cs y.1 y.2 h0;obtain⟨xs,l1,l2,l3⟩:=xN hr zs (fun i=>cells (i+1)) (fun i hi=>by have:=h (i+1) (BL hi); simpa using this);refine⟨x::xs,by simp [l1],⟨uptoBulk y.1,uptoBulkAll (zs.map (·.1)),by simp [uptoBulkAll],APG _,k1,l2⟩,?_⟩;intro i x' hx
     cases i with
     | zero=>simp at hx; subst hx; exact⟨cs,hc,k2⟩
     | succ i=>simp at hx; exact l3 i x' hx
theorem ADR {β:Type}{f:Nat->Option β}{i:Nat}{ys:List β}(h:(List.range n).mapM f=some ys)(hi:i<n):∃y,f i=some y∧ys[i]?=some y:=by
 have gen:∀(l:List Nat) (ys:List β),l.mapM f=some ys->∀j k:Nat,l[j]?=some k->∃y,f k=some y∧ys[j]?=some y:=by
  intro l
  induction l with
  | nil=>intro ys _ j k hj; simp at hj
  | cons a l ih =>
    intro ys hl j k hj;obtain⟨y,zs,h1,h2,rfl⟩:=kL hl
    cases j with
    | zero=>simp at hj; subst hj; exact⟨y,h1,rfl⟩
    | succ j=>simp at hj; exact ih zs h2 j k hj
 exact gen _ _ h i i (by simp [hi])
theorem cells_at {w:World}{a:Addr}{cs:List Value}(h:w.cells? 0 a n=some cs){i:Nat}(hi:i<n):∃c,w.cell? (a.add i)=some c∧cs[i]?=some c:=by
 unfold World.cells? at h;simp only[qG,if_true] at h;exact ADR h hi
theorem KA {P:Program}{n:Nat}{t e:TypeId}{k:Nat}{α:Type}{enc:α->List AV}{ok:α->Nat->Prop}(hu:P.underlying t=some (.slice e))(hk:P.cellsOf e=k)(hk0:0<k)(hlen:∀x,(enc x).length=k)
  (hr:RdAt P n e enc ok):RdAt P (n+1) t (fun x:SM×List α=>[.sl x.1 k (x.2.map enc)]) (fun x b=>∃b',b'+1<=b∧okL ok x.2 b'):=by
 intro H ench w cs d ps h;rcases DataW.trod_slice hu h with⟨rfl,hd⟩|⟨a,len,cap,zs,rest,m,hm,rfl,hd,_,hlc,_,hzl,hel,_,_⟩
 .cases hd
  exact⟨(.nil,[]),⟨0,by simp [uptoBulk],trivial⟩,RowP.one rfl (.nil _)⟩
 .obtain rfl:n=m:=U
  simp only[Prod.mk.injEq] at hd;obtain⟨xs,l1,l2,l3⟩:=xN hr zs (fun i=>w.cells? 0 (a.add (i*P.cellsOf e)) (P.cellsOf e)) (fun i hi=>hel i U);rw[hzl] at l1;have hok:∃b',b'+1<=uptoBulk d∧okL ok xs b':=⟨uptoBulkAll (zs.map (·.1)),by rw[hd.1]; simp [uptoBulk],l2⟩;rcases wJ len with h0|hpos
  .subst h0
   have:xs=[]:=wR.1 l1;subst this;exact⟨(.any,[]),hok,RowP.one rfl (.empty .any k a cap A8 A8)⟩
  .refine⟨(.any,xs),hok,RowP.one rfl ?_⟩
   have cellAt:∀i j,i<len->j<k->∃c,w.cell? ((a.add (i*k)).add j)=some c∧∀x a',xs[i]?=some x->(enc x)[j]?=some a'->a'.leaf=true∧RepF (M0 w) a' c:=by
    intro i j hi hj;have hx:i<xs.length:=U;obtain⟨cs',q1,q2⟩:=l3 i xs[i] (by simp [hx]);rw[hk] at q1;obtain⟨c,r1,r2⟩:=cells_at q1 hj;refine⟨c,r1,fun x a' hx' ha'=>?_⟩;rw[List.getElem?_eq_getElem hx] at hx';cases hx';obtain⟨s1,c',s2,s3⟩:=q2 j a' ha';rw[r2] at s2; cases s2;exact⟨s1,s3⟩
   obtain⟨cb,co,sp⟩:=a
   have hadd:∀i j,((Addr.mk cb co none).add (i*k)).add j=⟨cb,co+i*k+j,none⟩:=by
    intro i j;rw[addr_add,addr_add]
   obtain⟨c0,hc0,_⟩:=cellAt 0 0 hpos hk0
   have hsp:sp=none:=by
    simp [Addr.add,World.cell?] at hc0;split at hc0
    .split at hc0
     .cases hc0
     .rename_i hs; simpa using hs
    .cases hc0
   subst hsp;rw[hadd] at hc0;simp only[World.cell?] at hc0;split at hc0
   case h_2=>cases hc0
   rename_i c ty fz hw;have rd:∀i j,w.cell? ⟨cb,co+i*k+j,none⟩=c[co+i*k+j]? := fun i j=>by simp [World.cell?,hw]
   have hlx:len=(xs.map enc).length:=by simp [l1]
   rw[hlx];refine .sl .any k (xs.map enc) cb co c ty fz cap (fun i j=>c[co+i*k+j]?.getD default) ?_ A8 hw ?_ ?_ ?_ ?_ A8
   .intro hx
    have:xs=[]:=BL hx;subst this; simp at l1; omega
   .intro i row hrow
    rw[jX,Option.map_eq_some_iff] at hrow;obtain⟨x,hx,rfl⟩:=hrow;refine⟨hlen x,fun j v hv=>?_⟩;have hi:i<len:=by rw[<-l1]; exact(List.getElem?_eq_some_iff.1 hx).1
    have hj:j<k:=by rw[<-hlen x]; exact(List.getElem?_eq_some_iff.1 hv).1
    obtain⟨c,_,hc2⟩:=cellAt i j hi hj;exact(hc2 x v hx hv).1
   .intro i j hi hj
    obtain⟨c',q1,_⟩:=cellAt i j (by simpa [l1] using hi) hj;rw[hadd,rd] at q1;rw[q1]; rfl
   .intro i j row v hrow hv
    rw[jX,Option.map_eq_some_iff] at hrow;obtain⟨x,hx,rfl⟩:=hrow;have hi:i<len:=by rw[<-l1]; exact(List.getElem?_eq_some_iff.1 hx).1
    have hj:j<k:=by rw[<-hlen x]; exact(List.getElem?_eq_some_iff.1 hv).1
    obtain⟨c',q1,q2⟩:=cellAt i j hi hj;rw[hadd,rd] at q1;show RepF _ _ (c[co+i*k+j]?.getD default);rw[q1];exact(q2 x v hx hv).2
   .simp [l1]; exact hlc
def AT7 (P:Program)(n:Nat)(fs:List Field)(off:Nat){α:Type}(enc:α->List AV)(ok:α->Nat->Prop):Prop :=
 ∀ (H:Type) (ench:TypeId×Value->H) (w:World) (cs:List Value) (zs:List (DataW H×List MemPlace)),zs.length=fs.length ->
   (∀(i:Nat) (f:Field),fs[i]?=some f->DataW.trod ench P w 0 (fun _=>true) true n f.type ((cs.drop f.offset).take (P.cellsOf f.type))=zs[i]?)->∃x,ok x (uptoBulkAll (zs.map (·.1)))∧RowP (M0 w) (enc x) (cs.drop off)
theorem PD {off:Nat}:AT7 P n [] off (fun _:Unit=>[]) okT:=fun _ _ _ _ _ _ _=>⟨(),trivial,RowP.nil _ _⟩
theorem ES {P:Program}{n off k:Nat}{f:Field}{fs:List Field}{α β:Type}{enc:α->List AV}{ok:α->Nat->Prop}{enc':β->List AV}{ok':β->Nat->Prop}(ho:f.offset=off)(hk:P.cellsOf f.type=k)
  (hlen:∀x,(enc x).length=k) (h:RdAt P n f.type enc ok) (h':AT7 P n fs (off+k) enc' ok') :
  AT7 P n (f::fs) off (fun x:α×β=>enc x.1++enc' x.2) (fun x b=>∃b1 b2,b1+b2<=b∧ok x.1 b1∧ok' x.2 b2):=by
 intro H ench w cs zs hl hz
 cases zs with
 | nil=>simp at hl
 | cons y zs =>
   have h1:=hz 0 f rfl;obtain⟨x,k1,k2⟩:=h H ench w _ y.1 y.2 (BL h1);obtain⟨x',l1,l2⟩:=h' H ench w cs zs (BL hl) (fun i f' hf=>by have:=hz (i+1) f' (BL hf); simpa using this);refine⟨(x,x'),⟨_,_,Nat.le_of_eq (by simp [uptoBulkAll]),k1,l1⟩,?_⟩;rw[ho,hk] at k2;refine RowP.append k2 (hlen x) ?_;rw[List.drop_drop];exact l2
theorem LU {fs:List Field}{α:Type}{enc:α->List AV}{ok:α->Nat->Prop}(hu:P.underlying t=some (.struct fs.toArray))(h:AT7 P n fs 0 enc ok):
  RdAt P (n+1) t enc (fun x b=>∃b',b'+1<=b∧ok x b'):=by
 intro H ench w cs d ps ht;obtain⟨zs,m,hm,hd,_,hl,hz⟩:=DataW.trod_struct hu ht;obtain rfl:n=m:=U;obtain⟨x,k1,k2⟩:=h H ench w cs zs (BL hl) (fun i f hf=>hz i f (BL hf));simp only[Prod.mk.injEq] at hd;exact⟨x,⟨_,by rw[hd.1]; simp [uptoBulk],k1⟩,BL k2⟩

open Go.Proofs.YtiihpnicbekebaaGreatDoor.Rows (uptoBulk uptoBulkAll)
def PR (P:Program)(t:TypeId){α:Type}(av:α->AV)(ok:α->Nat->Prop):Prop :=
 ∀ (H:Type) (ench:TypeId×Value->H) (w:World) (base:Nat) (v:Value) (d:DataW H) (ps:List MemPlace),Value.okWide P w .any base t v->DataW.Trod ench P w 0 (fun _=>true) true t v d ps ->
   ∃x,ok x (uptoBulk d)∧RepF (M0 w) (av x) v
theorem A2Z {α:Type}{enc:α->List AV}{ok:α->Nat->Prop}{k:Nat}(h:Rd P t enc ok)(hl:∀x,ok x 0∨True->(enc x).length=k)(hk:P.cellsOf t=k)(hc:JG P t=some true):PR P t (fun x=>.agg (enc x)) ok:=by
 intro H ench w base v d ps hv ⟨n,ht⟩
 have hag:∃cs,v=.agg cs∧cs.size=P.cellsOf t:=by
  unfold JG at hc;unfold Value.okWide at hv
  cases hu:P.underlying t with
  | none=>simp [hu] at hc
  | some td =>
    rw[hu] at hc hv;cases td<;>simp at hc<;>exact⟨_,hv.choose_spec.1,hv.choose_spec.2.1⟩
 obtain⟨cs,rfl,hs⟩:=hag;obtain⟨x,h1,h2⟩:=h n H ench w _ d ps ht;refine⟨x,h1,.agg _ cs (by rw[hs,hl x (.inr trivial),hk]) ?_⟩;intro i a cv ha hcv;obtain⟨_,c,h3,h4⟩:=h2 i a ha;simp [Value.cells] at h3;rw[hcv] at h3; cases h3;exact h4
def PRs (P:Program)(ts:List TypeId){α:Type}(avs:α->List AV)(ok:α->Nat->Prop):Prop :=
 ∀ (H:Type) (ench:TypeId×Value->H) (w:World) (base:Nat) (vs:List Value) (ds:List (DataW H)) (ps:List MemPlace),(∀(j:Nat) t v,ts[j]?=some t->vs[j]?=some v->Value.okWide P w .any base t v) ->
   DataW.TrodAll ench P w 0 (fun _=>true) true ts vs ds ps->∃x,ok x (uptoBulkAll ds)∧vs.length=(avs x).length∧∀(i:Nat) (a:AV) (v:Value),(avs x)[i]?=some a->vs[i]?=some v->RepF (M0 w) a v
theorem PRs.len {P:Program}{w:World}{H:Type}{ench:TypeId×Value->H}{sp:Nat->Bool}{held:Bool}{base:Nat}:∀ {ts:List TypeId} {vs:List Value} {ds:List (DataW H)} {ps:List MemPlace},DataW.TrodAll ench P w base sp held ts vs ds ps->ds.length=ts.length
 | [],[],[],_,_=>rfl
 | _::_,_::_,_::_,_,⟨_,_,_,h2,_⟩=>by simp [PRs.len h2]
theorem A13:PRs P [] (fun _:Unit=>[]) okT:=by
 intro H ench w base vs ds ps _ h
 cases vs with
 | nil=>exact⟨(),trivial,rfl,fun i a v h=>by simp at h⟩
 | cons v vs=>cases ds<;>exact h.elim
theorem AYZ {ts:List TypeId}{α β:Type}{av:α->AV}{ok:α->Nat->Prop}{avs:β->List AV}{ok':β->Nat->Prop}(h:PR P t av ok)(h':PRs P ts avs ok'):
  PRs P (t::ts) (fun x:α×β=>av x.1::avs x.2) (fun x b=>∃b1 b2,b1+b2<=b∧ok x.1 b1∧ok' x.2 b2):=by
 intro H ench w base vs ds ps hv ht
 cases vs with
 | nil=>cases ds<;>exact ht.elim
 | cons v vs =>
   cases ds with
   | nil=>exact ht.elim
   | cons d ds =>
     obtain⟨p,q,h1,h2,_⟩:=ht;obtain⟨x,k1,k2⟩:=h H ench w base v d p (hv 0 t v rfl rfl) h1;obtain⟨y,l1,l2,l3⟩:=h' H ench w base vs ds q (fun j t' v' a b=>hv (j+1) t' v' (BL a) (BL b)) h2;refine⟨(x,y),⟨_,_,Nat.le_of_eq (by simp [uptoBulkAll]),k1,l1⟩,by simp [l2],?_⟩;intro i a v' ha hv'
     cases i with
     | zero=>simp at ha hv'; subst ha; subst hv'; exact k2
     | succ i=>simp at ha hv'; exact l3 i a v' ha hv'
theorem ASA {H:Type}{enc:TypeId×Value->H}{E:Env}{f:FuncId}{fn:Func}{s:ChangeSpec}{tb:TypeId}{apart fresh handsOn:Bool}{W:World}{base:Nat}{args:Array Value}{ds gs:List (DataW H)}{before:List MemPlace}
  {α:Type} {avs:α->List AV} {ok:α->Nat->Prop} (hr:PRs E.P fn.params.toList avs ok) (hlaw:∀x,ok x (uptoBulkAll ds)->ACalls E f (avs x) [] fun v _=>v=.bool true)
  (hval:∀(j:Nat) t v,fn.params[j]?=some t->args[j]?=some v->Value.okWide E.P W .any base t v)
  (hW:DataW.Whole enc E.P fn.params.toList s.vars apart W args.toList ds gs before) (hG:∀n,RepF (M0 W) (E.G n) (.pointer (some ⟨n,0,none⟩)))
  (hv:s.vars=[]) (ht:fn.resultTypes = #[tb]) (hub:E.P.underlying tb=some .bool)
  (hs:s.fn H ds={ results:=[.lit (.bool true)],args:=ds })
  (hl:laidOutB E.P=true) (hp:fn.params.toList.all (fun t=>E.P.readableRec t&&decide (t<E.P.types.size))=true) (hN:E.L=none:=by rfl) (hX:∀u h,¬E.X u h:=by exact fun _ _ q=>q) :
  Calls E.P f args W fun e W'=>∃v,e=.returned v∧s.post enc E.P fn apart fresh handsOn false W args v W':=by
 obtain⟨p,q,hA,_⟩:=id hW;obtain⟨x,k1,k2,k3⟩:=hr H enc W base args.toList ds p (fun j t v a b=>hval j t v (BL a) (BL b)) hA;have ha:YS (g0 W) (avs x) args:=⟨BL k2,fun i v cv h1 h2=>.fro (k3 i v cv h1 (BL h2))⟩;refine(ABQ (hlaw x k1) hN hX hG ha).mono ?_;rintro e w' ⟨rfl,hb⟩;exact⟨_,rfl,AMQ hW hb hv ht hub hs hl hp⟩
theorem AJS {P:Program}{w:World}{t e:TypeId}(hu:P.underlying t=some (.slice e))(he:P.underlying e=some .string)(hk:P.cellsOf e=1){H:Type}{ench:TypeId×Value->H}{sp:Nat->Bool}{held:Bool}{n:Nat}{cs:List Value}
  {l:List ByteArray} {d:DataW H} (hd:d=.slice (l.map fun s=>.lit (.string s.data.toList)) []) {p:List MemPlace} (h:DataW.trod ench P w 0 sp held n t cs=some (d,p)) :
  ∃c,cs=[c]∧RepF (M0 w) (.sl .any 1 (l.map fun s=>[.str s])) c:=by
 subst hd;rcases DataW.trod_slice hu h with⟨_,hx⟩|⟨a,len,cap,zs,rest,m,_,rfl,hx,_,hlc,_,hzl,hel,_,_⟩
 .cases hx
 .simp only[Prod.mk.injEq,DataW.slice.injEq] at hx
  obtain⟨⟨hz,_⟩,_⟩:=hx;have hll:l.length=len:=by have:=congrArg List.length hz; simpa [hzl] using this
  refine⟨_,rfl,?_⟩;rcases wJ len with h0|hpos
  .subst h0
   have:l=[]:=wR.1 hll;subst this;exact .empty .any 1 a cap A8 A8
  .have cellAt:∀i (s:ByteArray),l[i]?=some s->w.cell? (a.add i)=some (.string s):=by
    intro i s hs;have hi:i<len:=by rw[<-hll]; exact(List.getElem?_eq_some_iff.1 hs).1
    have h1:=hel i hi;rw[hk,Nat.mul_one] at h1
    have h2:zs[i]?.map (·.1)=some (.lit (.string s.data.toList)):=by
     rw[<-jX,<-hz,jX,hs]; rfl
    cases hc:w.cells? 0 (a.add i) 1 with
    | none=>rw[hc] at h1; rw[<-h1] at h2; cases h2
    | some c1 =>
      rw[hc,Option.bind_some] at h1
      obtain⟨z,hzi⟩:∃z,zs[i]?=some z:=by cases hh:zs[i]? with
       | none=>rw[hh] at h2; cases h2
       | some z=>exact⟨z,rfl⟩
      rw[hzi] at h1 h2;obtain⟨s',rfl,rfl,_⟩:=DataW.trod_string he h1;simp only[Option.map_some,Option.some.injEq,DataW.lit.injEq,Lit.string.injEq] at h2
      have:s'=s:=by
       cases s'; cases s;simp only at h2;congr 1;exact Array.toList_inj.1 h2
      subst this;obtain⟨c,r1,r2⟩:=cells_at hc (i:=0) DK;simp at r2; subst r2;simpa [Addr.add] using r1
   obtain⟨cb,co,sp'⟩:=a;have h00:=cellAt 0 l[0] (by simp [hll,hpos])
   have hsp:sp'=none:=by
    simp [Addr.add,World.cell?] at h00;split at h00
    .split at h00
     .cases h00
     .rename_i hs; simpa using hs
    .cases h00
   subst hsp;have hadd:∀i,(Addr.mk cb co none).add i=⟨cb,co+i,none⟩:=fun i=>addr_add _ _ _
   rw[hadd] at h00;simp only[World.cell?] at h00;split at h00
   case h_2=>cases h00
   rename_i c ty fz hw;have rd:∀i,w.cell? ⟨cb,co+i,none⟩=c[co+i]? := fun i=>by simp [World.cell?,hw]
   have hlx:len=(l.map fun s=>[AV.str s]).length:=by simp [hll]
   rw[hlx];refine .sl .any 1 _ cb co c ty fz cap (fun i j=>c[co+i*1+j]?.getD default) ?_ A8 hw ?_ ?_ ?_ (by simp [hll]; exact hlc) A8
   .intro hx
    have:l=[]:=BL hx;subst this; simp at hll; omega
   .intro i row hrow
    rw[jX,Option.map_eq_some_iff] at hrow;obtain⟨x,hx,rfl⟩:=hrow;refine⟨rfl,fun j v hv=>?_⟩
    cases j with
    | zero=>simp at hv; subst hv; rfl
    | succ j=>simp at hv
   .intro i j hi hj
    have hi':i<l.length:=BL hi;have:=cellAt i l[i] (by simp [hi']);rw[hadd,rd] at this;have hj0:j=0:=U;subst hj0;simp only[Nat.mul_one,jV];rw[this]; rfl
   .intro i j row v hrow hv
    rw[jX,Option.map_eq_some_iff] at hrow;obtain⟨x,hx,rfl⟩:=hrow;have:=cellAt i x hx;rw[hadd,rd] at this
    cases j with
    | zero =>
      simp at hv; subst hv;simp only[Nat.mul_one,jV];rw[this]; exact .str _
    | succ j=>simp at hv
theorem AQT {w:World}{n:String}{g:Nat}{cs:Array Value}{c:Value}{a:AV}(hg:P.globalNamed n=some g)(h:w.var? P n=some cs)(hc:cs.toList=[c])(hr:RepF (M0 w) a c)(hl:a.leaf=true):
  RepF (M0 w) (.fptr 1 [[a]] 0 0) (.pointer (some ⟨g,0,none⟩)):=by
 have h0:=World.var?_cell hg h 0;have e:cs = #[c]:=by rw[<-Array.toArray_toList (xs:=cs),hc]
 rw[e] at h0;simp only[World.cell?] at h0;split at h0
 case h_2=>simp at h0
 rename_i cc ty fz hw;have hcc:cc[0]?=some c:=BL h0;refine .fptr 1 [[a]] 0 0 g 0 cc ty fz (fun _ _=>c) hw ?_ ?_ ?_
 .intro i row hrow
  cases i with
  | zero =>
    simp at hrow; subst hrow;refine⟨rfl,fun j v hv=>?_⟩
    cases j with
    | zero=>simp at hv; subst hv; exact hl
    | succ j=>simp at hv
  | succ i=>simp at hrow
 .intro i j hi hj
  have:i=0:=BL hi;have:j=0:=U
  subst_vars
  simpa using hcc
 .intro i j row v hrow hv
  cases i with
  | zero =>
    simp at hrow; subst hrow
    cases j with
    | zero=>simp at hv; subst hv; exact hr
    | succ j=>simp at hv
  | succ i=>simp at hrow
end Go.Proofs.YtiihpnicbekebaaGreatDoor.Sm
namespace Go.Proofs.YtiihpnicbekebaaGreatDoor.Back

def AGB:Op->Bool
 | .move _=>true
 | .load _ _=>true
 | .store _ _ _=>true
 | .binOp _ _ _ _ _=>true
 | .indexAddr _ _ _=>true
 | _=>false
theorem ADF {F F':Fence}{n:Nat}{P:Program}{o:Oper}{a:Act}{w:World}{K:Act->World->Prop}{Q:Exit->Act->World->Prop}(hp:AGB o.op=true)(h:o.wpIn F' n P a w K Q):o.wpIn F n P a w K Q:=by
 have hd:∀c,o.op≠.defer c:=fun c e=>by rw[e] at hp; cases hp
 have hab:∀f,o.about P w a.eval=some f->F.fn f:=by
  intro f hf;unfold Oper.about at hf
  cases ho:o.op<;>rw[ho] at hf hp<;>first|(cases hp; done)|(cases hf; done)
 unfold Oper.wpIn at *;refine⟨hab,?_⟩;have h:=h.2
 rw[Oper.semAt_eq _ _ _ hd] at h|-
 have key:(∃v w',(execOp a.eval o).run P w=.ok (.value v) w')∨(∃w',(execOp a.eval o).run P w=.ok .skip w')∨∃e w',(execOp a.eval o).run P w=.halt e w':=by
  have hv:∀s:Sem Value,(∃v w',(do pure (.value (<-s)):Sem Next).run P w=.ok (.value v) w')∨∃e w',(do pure (.value (<-s)):Sem Next).run P w=.halt e w':=by
   intro s;simp only[Sem.run_bind]
   cases s.run P w with
   | ok v w'=>exact .inl ⟨v,w',rfl⟩
   | halt e w'=>exact .inr ⟨e,w',rfl⟩
  have hu:∀s:Sem Unit,(∃w',(do s; pure .skip:Sem Next).run P w=.ok .skip w')∨∃e w',(do s; pure .skip:Sem Next).run P w=.halt e w':=by
   intro s;simp only[Sem.run_bind]
   cases s.run P w with
   | ok v w'=>exact .inl ⟨w',rfl⟩
   | halt e w'=>exact .inr ⟨e,w',rfl⟩
  unfold execOp
  cases ho:o.op<;>rw[ho] at hp<;>first|(cases hp; done)|skip
  case move x=>exact .inl ⟨_,_,rfl⟩
  case load t x =>
   rcases hv (Instr.loadAt t (a.eval x)) with h|h
   .exact .inl h
   .exact .inr (.inr h)
  case store t x y =>
   rcases hu (Instr.storeAt t (a.eval x) (a.eval y)) with h|h
   .exact .inr (.inl h)
   .exact .inr (.inr h)
  case binOp op t x y u =>
   rcases hv (do eqGuard op t x y (a.eval x) (a.eval y); binOp op t (a.eval x) (a.eval y)) with h|h
   .exact .inl h
   .exact .inr (.inr h)
  case indexAddr t x y =>
   rcases hv (Instr.indexAt t (a.eval x) (a.eval y)) with h|h
   .exact .inl h
   .exact .inr (.inr h)
 rcases key with⟨v,w',e⟩|⟨w',e⟩|⟨x,w',e⟩
 .rw[e] at h|-; exact h
 .rw[e] at h|-; exact h
 .rw[e] at h|-
  cases x<;>exact h
theorem oU {F F':Fence}{n:Nat}{P:Program}{md:Region.Mode}{ops:Array Oper}{Q:Exit->Act->World->Prop}(hp:∀(i:Nat) (o:Oper),ops[i]?=some o->AGB o.op=true∧o.guard=none) :
  ∀(fuel:Nat) (listed:Array Bool) (a:Act) (w:World),wpAnyIn F' n P md ops Q fuel listed a w->wpAnyIn F n P md ops Q fuel listed a w
 | 0,_,_,_,h=>h
 | fuel+1,listed,a,w,h=>by
   refine⟨h.1,fun i hi=>?_⟩;have h2:=h.2 i hi;have h3:=wpOpIn_mono (fun a w=>oU (F:=F) hp fuel _ a w) h2;unfold wpOpIn at *;split
   .rename_i ho; simpa [ho] using h3
   .rename_i o ho
    simp only[ho] at h3;obtain⟨hp1,hp2⟩:=hp i o ho;have hw:Region.wanted o (yielded ops a.tmps)=true:=by unfold Region.wanted; rw[hp2]
    simp only[hw,if_true] at h3|-
    exact ADF hp1 h3
end Go.Proofs.YtiihpnicbekebaaGreatDoor.Back
namespace Go.Proofs.YtiihpnicbekebaaGreatDoor.Back
open Go.RowKit Go.Shelf
attribute [local go_sem] Oper.semAt_some
def upto {α:Type}(f:Nat->α)(k:Nat):List α:=(List.range k).map f
theorem upto_succ {α:Type}(f:Nat->α)(k:Nat):upto f (k+1)=upto f k++[f k]:=by simp [upto,List.range_succ]
theorem upto_length {α:Type}(f:Nat->α)(k:Nat):(upto f k).length=k:=by simp [upto]
def Kb (n₀ Bs:Nat)(A B:World):Prop:=Below n₀ A B∧∀v,A.cell? ⟨Bs,0,none⟩=some v->B.cell? ⟨Bs,0,none⟩=some v
theorem Kb.refl (n₀ Bs:Nat)(A:World):Kb n₀ Bs A A:=⟨Below.refl _ _,fun _ h=>h⟩
theorem Kb.trans {n₀ Bs:Nat}{A B C:World}(h:Kb n₀ Bs A B)(k:Kb n₀ Bs B C):Kb n₀ Bs A C:=⟨h.1.trans k.1,fun v hv=>k.2 v (h.2 v hv)⟩
set_option maxRecDepth 100000 in
theorem APU {α:Type}(val:α->Nat×Int)(f:Nat->α)(F:Fence)(n:Nat)(h8:F.fn 315)(hro:F.round=none)(hn:1<=n)(l Bs n₀ b off len cap:Nat)(zs:List Int)(hreach:len<=1048576)(hb:b<n₀)(hf:∀k,k<len->val (f k)=(len-1-k,zs[len-1-k]?.getD 0))(J Jx:List α->World->Prop)
  (hY:∀pre x W,J pre W->pre.length<len->YieldAt F (n-1) jA l #[.int .i64 ((val x).1:Int),.int .i64 (val x).2] W fun e W' =>
   (e=.returned (.bool true)∧J (pre++[x]) W'∧Kb n₀ Bs W W')∨(e=.returned (.bool false)∧Jx (pre++[x]) W'))
  (W:World) (hBs:W.cell? ⟨Bs,0,none⟩=some (.slice (some ⟨b,off,none⟩) len cap)) (hc:∀j,j<len->W.cell? ⟨b,off+j,none⟩=some (.int .i64 (zs[j]?.getD 0))) (h0:J [] W) :
  CallsIn F n jA 315 #[.func (.yield l) #[] #[],.pointer (some ⟨Bs,0,none⟩)] W fun e W'=>(∃v,e=.returned v) ∧
   ((∃ys,ys=upto f len∧J ys W')∨(∃pre,(∃k,k<=len∧pre=upto f k)∧Jx pre W')):=by
 refine callsIn_of_wp Tryz.func315 rfl h8 ?_ hro;simp only[Tryz.ntmps315,List.size_toArray,zH,zN,jP,Nat.reduceSub,Array.replicate_succ,Array.replicate_zero,List.push_toArray,List.append_toArray,qA,zF]
 gi_wp2
 gi_loopw [3] (fun i wr=>Kb n₀ Bs W wr∧((∃j k:Nat,j+k+1=len∧i=.int .i64 (j:Int)∧J (upto f k) wr)∨(i=.int .i64 (-1)∧J (upto f len) wr)))
  (fun i _=>(intOf i+1).toNat)
 case atStart =>
  refine⟨Kb.refl _ _ _,?_⟩;rcases Nat.eq_zero_or_pos len with hz|hz
  .subst hz
   exact .inr ⟨rfl,h0⟩
  .exact .inl ⟨len-1,0,U,by congr 1; omega,h0⟩
 case round =>
  obtain⟨hnx,⟨j,k,hjk,rfl,hJs⟩|⟨rfl,hJs⟩⟩:=hrel
  .have hcx':wr.cell? ⟨b,off+j,none⟩=some (.int .i64 (zs[j]?.getD 0)):=(hnx.1.cell (p:=⟨b,off+j,none⟩) hb).trans (hc j U)
   have hBs':wr.cell? ⟨Bs,0,none⟩=some (.slice (some ⟨b,off,none⟩) len cap):=hnx.2 _ hBs
   have hf':val (f k)=(j,zs[j]?.getD 0):=by
    have:len-1-k=j:=U;rw[hf k U,this]
   have hjl:j<len:=U;obtain⟨fn,tmps,assign,body,hy,hR⟩:=hY _ (f k) wr hJs (by rw[upto_length]; omega);rw[hf'] at hy
   dsimp only at hy
   gi_wp2
   refine hR.mono ?_;rintro e W3 (⟨rfl,hJ3,hk3⟩|⟨rfl,hJx3⟩)
   .gi_wp2
    go_roundw
    case rel =>
     refine⟨hnx.trans hk3,?_⟩
     cases j with
     | zero =>
       refine .inr ⟨A8,?_⟩;have e:upto f len=upto f (k+1):=congrArg (upto _) U;rw[e,upto_succ]; exact hJ3
     | succ j=>exact .inl ⟨j,k+1,U,A8,by rw[upto_succ]; exact hJ3⟩
    case measure=>simp [intOf]
   .gi_wp2
    refine bodyPost_ret (results_none rfl _ _ _) rfl ?_;exact⟨⟨_,rfl⟩,.inr ⟨_,⟨k+1,U,by rw[upto_succ]⟩,hJx3⟩⟩
  .gi_wp2
   go_end0
   exact⟨⟨_,rfl⟩,.inl ⟨_,rfl,hJs⟩⟩
theorem ATY (F:Fence)(n:Nat)(h5:F.fn 277)(hro:F.round=none)(a:Option Addr)(len cap:Nat)(w:World) :
  CallsIn F n jA 277 #[.slice a len cap] w fun e w'=>e=.returned (.func (.func 315) #[] #[.pointer (some ⟨w.heap.size,0,none⟩)])∧w'=w.alloc (.cells #[.slice a len cap] 32):=by
 refine callsIn_of_wp Tryz.func277 rfl h5 ?_ hro;simp only[Tryz.ntmps277,List.size_toArray,zH,zN,jP,Nat.reduceSub,Array.replicate_succ,Array.replicate_zero,List.push_toArray,List.append_toArray,qA,zF]
 gi_wp2
 go_ret
 exact⟨rfl,rfl⟩
theorem AEV {α:Type}(val:α->Nat×Int)(f:Nat->α)(F:Fence)(n:Nat)(h8:F.fn 315)(hro:F.round=none)(hn:1<=n)(Bs n₀ b off cap:Nat)(zs:List Int)(hreach:zs.length<=1048576)(hf:∀k,k<zs.length->val (f k)=(zs.length-1-k,zs[zs.length-1-k]?.getD 0))(w:World)(hBs0:Bs<w.heap.size)(hn₀:n₀<=w.heap.size)(hb:b<n₀)
  (hBs:w.cell? ⟨Bs,0,none⟩=some (.slice (some ⟨b,off,none⟩) zs.length cap)) (hc:∀j,j<zs.length->w.cell? ⟨b,off+j,none⟩=some (.int .i64 (zs[j]?.getD 0))) :
  SeqStopsK F n jA 315 #[.pointer (some ⟨Bs,0,none⟩)] (fun x:α => #[Value.int .i64 ((val x).1:Int),.int .i64 (val x).2]) (Kb n₀ Bs) (fun ys=>ys=upto f zs.length) (fun _=>True) zs.length w:=fun l J Jx W hW _ _ hY h0=>by
 refine(APU val f F n h8 hro hn l Bs n₀ b off zs.length cap zs hreach hb hf J Jx hY W ((hW.cell (p:=⟨Bs,0,none⟩) hBs0).trans hBs) (fun j hj=>(hW.cell (p:=⟨b,off+j,none⟩) (Nat.lt_of_lt_of_le hb hn₀)).trans (hc j hj)) h0).mono ?_;rintro e W' ⟨he,⟨ys,rfl,hj⟩|⟨pre,_,hj⟩⟩
 .exact⟨he,.inl ⟨_,rfl,hj⟩⟩
 .exact⟨he,.inr ⟨_,trivial,hj⟩⟩
end Go.Proofs.YtiihpnicbekebaaGreatDoor.Back
set_option linter.unusedVariables false
namespace Go.Proofs.YtiihpnicbekebaaGreatDoor.Back
open Go.RowKit Go.Shelf
attribute [local go_sem] Oper.semAt_some
theorem AR2 (w:World):(Instr.makeSlice 32 (.int .i64 0) (.int .i64 0)).run jA w=.ok (.slice (some ⟨w.heap.size,0,none⟩) 0 0) (w.alloc (.cells #[] 3)):=AZ
theorem AR1 (w:World):(Instr.makeSlice 32 (.int .i64 1) (.int .i64 1)).run jA w=.ok (.slice (some ⟨w.heap.size,0,none⟩) 1 1) (w.alloc (.cells #[.int .i64 0] 3)):=AZ
theorem AR0 (w:World):(Instr.makeSlice 32 (.int .i64 2) (.int .i64 2)).run jA w=.ok (.slice (some ⟨w.heap.size,0,none⟩) 2 2) (w.alloc (.cells #[.int .i64 0,.int .i64 0] 3)):=AZ
theorem ARZ (w:World):(Instr.makeSlice 32 (.int .i64 3) (.int .i64 3)).run jA w=.ok (.slice (some ⟨w.heap.size,0,none⟩) 3 3) (w.alloc (.cells #[.int .i64 0,.int .i64 0,.int .i64 0] 3)):=AZ
theorem ARY (w:World):(Instr.makeSlice 32 (.int .i64 4) (.int .i64 4)).run jA w=.ok (.slice (some ⟨w.heap.size,0,none⟩) 4 4) (w.alloc (.cells #[.int .i64 0,.int .i64 0,.int .i64 0,.int .i64 0] 3)):=AZ
theorem AWJ (n:Nat)(hn:n<=4)(w:World):(Instr.makeSlice 32 (.int .i64 (n:Int)) (.int .i64 (n:Int))).run jA w=.ok (.slice (some ⟨w.heap.size,0,none⟩) n n) (w.alloc (.cells (Array.replicate n (.int .i64 0)) 3)):=by
 have h:n=0∨n=1∨n=2∨n=3∨n=4:=U;rcases h with rfl|rfl|rfl|rfl|rfl
 .exact AR2 w
 .exact AR1 w
 .exact AR0 w
 .exact ARZ w
 .exact ARY w
abbrev Pr (n:Nat) := { x:Nat×Int // x.1<n∧1<=x.2∧x.2<=64 }
def stp (s:List Nat×Nat)(x:Nat×Int):List Nat×Nat:=(s.1.set x.1 (s.2%x.2.toNat),s.2/x.2.toNat)
def fld (n K:Nat)(pre:List (Pr n)):List Nat×Nat:=(pre.map (·.1)).foldl stp (zD n 0,K)
theorem AAQ (n K:Nat)(pre:List (Pr n))(x:Pr n):fld n K (pre++[x])=stp (fld n K pre) x.1:=by unfold fld; rw[List.map_append,List.foldl_append]; rfl
theorem AST (n K:Nat)(pre:List (Pr n)):(fld n K pre).1.length=n:=by
 unfold fld
 have gen:∀(l:List (Nat×Int)) (s:List Nat×Nat),s.1.length=n->(l.foldl stp s).1.length=n:=by
  intro l
  induction l with
  | nil=>intro s h; exact h
  | cons x l ih=>intro s h; exact ih _ (by simp [stp,h])
 exact gen _ _ A8
theorem AWZ (n K:Nat)(pre:List (Pr n)):(fld n K pre).2<=K:=by
 unfold fld
 have gen:∀(l:List (Nat×Int)) (s:List Nat×Nat),s.2<=K->(l.foldl stp s).2<=K:=by
  intro l
  induction l with
  | nil=>intro s h; exact h
  | cons x l ih=>intro s h; exact ih _ (Nat.le_trans (Nat.div_le_self _ _) h)
 exact gen _ _ (jF _)
theorem AAP (ns:List Nat)(K:Nat)(f:Nat->Pr ns.length)(hf:∀k,k<ns.length->(f k).1=(ns.length-1-k,((ns[ns.length-1-k]?.getD 0:Nat):Int))) :
  ∀k,k<=ns.length->fld ns.length K (upto f k)=(zD (ns.length-k) 0++(Cov.tupF (ns.drop (ns.length-k)) K).1,(Cov.tupF (ns.drop (ns.length-k)) K).2)
 | 0,_=>by
   rw[Nat.sub_zero,List.drop_eq_nil_of_le (jF _)];simp [fld,upto,Cov.tupF]
 | k+1,hk=>by
   have ih:=AAP ns K f hf k U;rw[upto_succ,AAQ,ih,hf k U];have hj:ns.length-(k+1)<ns.length:=U;have e1:ns.length-1-k=ns.length-(k+1):=U;have e2:ns.length-k=ns.length-(k+1)+1:=U;rw[Cov.tup_step hj,e1,e2,jI hj];generalize Cov.tupF (ns.drop (ns.length-(k+1)+1)) K=r;simp only[stp,jD,qN,Prod.mk.injEq,and_true];rw[List.replicate_succ',List.append_assoc,List.set_append_right _ _ A8];simp
theorem mB {ns:List Nat}{K:Nat}{w W0 W:World}{pre:List (Pr ns.length)}{xi xm s:Nat}{c:Array Value}{px:(xi,(xm:Int)).1<ns.length∧1<=(xi,(xm:Int)).2∧(xi,(xm:Int)).2<=64}{a:Act}(hs0:W0.heap.size=w.heap.size+4)(hx1:xi<ns.length)(hxn:xm≠0)
  (hk:W.cell? ⟨w.heap.size,0,none⟩=some (.int .i64 (s:Int))) (hkf:W.frozen? ⟨w.heap.size,0,none⟩=false) (hc1:W.heap[w.heap.size+1]?=some (.cells c 3 (0,0))) (hc2:c=((fld ns.length K pre).1.map fun n:Nat=>Value.int .i64 (n:Int)).toArray)
  (hbx:W.cell? ⟨w.heap.size+2,0,none⟩=some (.slice (some ⟨w.heap.size+1,0,none⟩) ns.length ns.length)) (hBW:Below w.heap.size w W) (hs:(fld ns.length K pre).2=s) (hcs:c.size=ns.length) :
  ownPostG W0.heap.size (Kb w.heap.size (w.heap.size+3))
   (fun pre W=>((W.cell? ⟨w.heap.size,0,none⟩=some (.int .i64 ((fld ns.length K pre).2:Nat))∧W.frozen? ⟨w.heap.size,0,none⟩=false)∧(∃c,W.heap[w.heap.size+1]?=some (.cells c 3 (0,0))∧c=((fld ns.length K pre).1.map fun n:Nat=>Value.int .i64 (n:Int)).toArray)∧W.cell? ⟨w.heap.size+2,0,none⟩=some (.slice (some ⟨w.heap.size+1,0,none⟩) ns.length ns.length))∧Below w.heap.size w W)
   (fun _ _ _=>False) (pre++[⟨(xi,(xm:Int)),px⟩]) W .normal a
   ((W.setCell ⟨w.heap.size+1,xi,none⟩ (.int .i64 ((s:Int)%(xm:Int)))).setCell ⟨w.heap.size,0,none⟩ (.int .i64 ((s:Int)/(xm:Int)))).drew:=by
 generalize hS:w.heap.size=S at *
 have hoth:∀k,k≠S->k≠S+1->((W.setCell ⟨S+1,xi,none⟩ (.int .i64 ((s:Int)%(xm:Int)))).setCell ⟨S,0,none⟩ (.int .i64 ((s:Int)/(xm:Int)))).drew.heap[k]?=W.heap[k]? := fun k h1 h2 =>
  (Below.heap_setCell _ ⟨S,0,none⟩ _ k h1).trans (Below.heap_setCell _ ⟨S+1,xi,none⟩ _ k h2)
 have hBl:Below S W ((W.setCell ⟨S+1,xi,none⟩ (.int .i64 ((s:Int)%(xm:Int)))).setCell ⟨S,0,none⟩ (.int .i64 ((s:Int)/(xm:Int)))).drew :=
  (((Below.refl S W).setCell (p:=⟨S+1,xi,none⟩) (Nat.le_succ S) _).setCell (p:=⟨S,0,none⟩) (jF S) _).drew
 have hst:fld ns.length K (pre++[⟨(xi,(xm:Int)),px⟩])=((fld ns.length K pre).1.set xi (s%xm),s/xm):=by
  rw[AAQ];simp only[stp,qN,hs]
 refine⟨⟨hBl.size,fun k o hk1 hk2 _=>(hoth k U U).trans hk2⟩,⟨hBl,fun v hv=>(World.cell?_of_block (hoth (S+3) U U)).trans hv⟩,⟨⟨⟨?_,?_⟩,⟨c.setIfInBounds xi (.int .i64 ((s:Int)%(xm:Int))),?_,?_⟩,?_⟩,hBW.trans hBl⟩⟩
 .rw[hst]
  have h1:(W.setCell ⟨S+1,xi,none⟩ (.int .i64 ((s:Int)%(xm:Int)))).cell? ⟨S,0,none⟩=some (.int .i64 (s:Int)):=(World.cell?_of_block (heap_setCell_other W ⟨S+1,xi,none⟩ S _ A8)).trans hk;exact World.cell?_setCell_same _ _ _ h1
 .show World.frozen? ((W.setCell _ _).setCell _ _) _=false
  rw[World.frozen?_setCell,World.frozen?_setCell]; exact hkf
 .have h1:=heap_setCell_same W (S+1) xi c 3 (.int .i64 ((s:Int)%(xm:Int))) hc1
  exact(heap_setCell_other (W.setCell ⟨S+1,xi,none⟩ (.int .i64 ((s:Int)%(xm:Int)))) ⟨S,0,none⟩ (S+1) _ A8).trans h1
 .rw[hst,hc2]
  simp only[List.setIfInBounds_toArray,List.map_set,Array.mk.injEq];rfl
 .exact(World.cell?_of_block (hoth (S+2) U U)).trans hbx
set_option maxRecDepth 100000 in
theorem tuple_in (F:Fence)(n:Nat)(h3:F.fn 212)(h5:F.fn 277)(h7:F.fn 315)(hro:F.round=none)(hn:3<=n)(b off cap:Nat)(ns:List Nat)(K:Nat)(w:World)(hb:b<w.heap.size)
  (hc:∀j,j<ns.length->w.cell? ⟨b,off+j,none⟩=some (.int .i64 ((ns[j]?.getD 0:Nat):Int))) (hlen:ns.length<=4) (hz:0<ns.length) (hpos:∀x∈ns,1<=x∧x<=64) (hK:K<=1048576) :
  CallsIn F n jA 212 #[.slice (some ⟨b,off,none⟩) ns.length cap,.int .i64 (K:Int)] w fun e W'=>Below w.heap.size w W'∧∃c ty,e=.returned (.slice (some ⟨w.heap.size+1,0,none⟩) ns.length ns.length) ∧
   W'.heap[w.heap.size+1]?=some (.cells c ty (0,0))∧∀i (hi:i<(Cov.tupF ns K).1.length),c[i]?=some (.int .i64 (((Cov.tupF ns K).1[i]:Nat):Int)):=by
 have h1:1<=n:=U;refine callsIn_of_wp_marks Tryz.func212 rfl h3 ?_ hro;simp only[Tryz.ntmps212,List.size_toArray,List.length_cons,List.length_nil,Nat.reduceAdd,Nat.reduceSub,Array.replicate_succ,Array.replicate_zero,List.push_toArray,List.append_toArray,List.nil_append,List.cons_append];have hmk:=fun w:World=>AWJ ns.length hlen w
 gi_wp2_with (gi_at_call 277; refine(ATY F (n-1) h5 hro _ _ _ _).mono ?_; rintro e w' ⟨rfl,rfl⟩)
 have hx:∀k,k<ns.length->ns.length-1-k<ns.length∧(1:Int)<=((ns[ns.length-1-k]?.getD 1:Nat):Int)∧((ns[ns.length-1-k]?.getD 1:Nat):Int)<=64:=by
  intro k hk;have hj:ns.length-1-k<ns.length:=U;rw[jI hj];have:=hpos _ (List.getElem_mem hj);simp only[jD];omega
 have hgd:∀k,k<ns.length->ns[ns.length-1-k]?.getD 1=ns[ns.length-1-k]?.getD 0:=by
  intro k hk;rw[jI (U:ns.length-1-k<ns.length)]; rfl
 obtain⟨f,hf⟩:∃f:Nat->Pr ns.length,∀k,k<ns.length->(f k).1=(ns.length-1-k,((ns[ns.length-1-k]?.getD 0:Nat):Int)):=by
  .refine⟨fun k=>if hk:k<ns.length then ⟨(ns.length-1-k,((ns[ns.length-1-k]?.getD 1:Nat):Int)),hx k hk⟩ else ⟨(ns.length-1-0,((ns[ns.length-1-0]?.getD 1:Nat):Int)),hx 0 hz⟩,fun k hk=>?_⟩
   simp only[dif_pos hk,hgd k hk]
 have bK:=Boxed.new w 3 (.int .i64 (K:Int));have hzs:((ns.map fun n:Nat=>(n:Int)).length)=ns.length:=A8
 have hzg:∀j:Nat,(ns.map fun n:Nat=>(n:Int))[j]?.getD 0=((ns[j]?.getD 0:Nat):Int):=by
  intro j;rw[List.getElem?_map];cases ns[j]? <;> rfl
 generalize hW0:((((w.alloc (Obj.cells #[Value.int .i64 (K:Int)] 3)).alloc (Obj.cells (Array.replicate ns.length (Value.int .i64 0)) 3)).alloc (Obj.cells #[Value.slice (some ⟨w.heap.size+1,0,none⟩) ns.length ns.length] 32)).alloc (Obj.cells #[Value.slice (some ⟨b,off,none⟩) ns.length cap] 32))=W0;have hs0:W0.heap.size=w.heap.size+4:=by rw[<-hW0]; simp
 have hB0:Below w.heap.size w W0:=by
  rw[<-hW0];exact((((Below.refl _ w).alloc (jF _) _).alloc A8 _).alloc MS _).alloc MS _
 refine wpIn_rangeFunc_ownG hro h1 (gf:=315) (lb := #[.pointer (some ⟨w.heap.size+3,0,none⟩)]) rfl h7 (enters_of Tryz.func315 AZ rfl)
  (w0:=W0) (AEV (fun x:Pr ns.length=>x.1) f F (n-1) h7 hro U (w.heap.size+3) w.heap.size b off cap (ns.map fun n:Nat=>(n:Int)) (by rw[hzs]; omega) (fun k hk=>by rw[hzs] at hk; rw[hf k hk,hzs,hzg]) W0 U U hb ?box ?cells)
  (fun h k=>Kb.trans h k) ?keepb (Below.refl _ _) (fun _=>rfl)
  (fun pre W=>((W.cell? ⟨w.heap.size,0,none⟩=some (.int .i64 ((fld ns.length K pre).2:Nat))∧W.frozen? ⟨w.heap.size,0,none⟩=false)∧(∃c,W.heap[w.heap.size+1]?=some (.cells c 3 (0,0))∧c=((fld ns.length K pre).1.map fun n:Nat=>Value.int .i64 (n:Int)).toArray)∧W.cell? ⟨w.heap.size+2,0,none⟩=some (.slice (some ⟨w.heap.size+1,0,none⟩) ns.length ns.length))∧Below w.heap.size w W)
  (fun _ _ _=>False) ?own ?ownx ?start
  (fun x=>{ tmps := #[.slice (some ⟨b,off,none⟩) ns.length cap,.int .i64 (K:Int),undef,.pointer (some ⟨w.heap.size,0,none⟩),.slice none 0 0,.pointer (some ⟨w.heap.size+2,0,none⟩),.int .i64 (x.1.1:Int),.int .i64 x.1.2,.slice (some ⟨b,off,none⟩) ns.length cap,.int .i64 (ns.length:Int),.slice (some ⟨w.heap.size+1,0,none⟩) ns.length ns.length,.slice (some ⟨b,off,none⟩) ns.length cap,.func (.func 315) #[] #[.pointer (some ⟨w.heap.size+3,0,none⟩)],.int .i64 (x.1.1:Int),.int .i64 x.1.2,undef,undef,undef,undef,undef,undef,undef,undef,undef,undef],defers:=[] }) ?assign ?body ?done ?stop
 case box =>
  rw[<-hW0,hzs];have h3:=(Boxed.new (((w.alloc (Obj.cells #[Value.int .i64 (K:Int)] 3)).alloc (Obj.cells (Array.replicate ns.length (Value.int .i64 0)) 3)).alloc (Obj.cells #[Value.slice (some ⟨w.heap.size+1,0,none⟩) ns.length ns.length] 32)) 32 (.slice (some ⟨b,off,none⟩) ns.length cap)).cell;simpa using h3
 case cells =>
  intro j hj;rw[hzs] at hj;rw[hzg];exact(hB0.cell (p:=⟨b,off+j,none⟩) hb).trans (hc j hj)
 case keepb =>
  intro W l o o' hl ho hoc how;refine⟨belowK_b (w:=W0) U W l o o' hl ho hoc how,fun v hv=>?_⟩;exact cell_kept hv (grownBy_putObj' W l o') (fun r e=>by cases e; exact⟨o,ho,hoc⟩)
 case own =>
  refine OwnFrom.and (Own.from (fun s A B row hs hg hr=>⟨⟨cell_kept hs.1.1 hg hr,(frozen_kept hs.1.1 hg hr).trans hs.1.2⟩,?_,cell_kept hs.2.2 hg hr⟩) _) (ownFrom_below (jF _) U);obtain⟨c,h1,h2⟩:=hs.2.1;exact⟨c,(hg.block _ (Array.getElem?_eq_some_iff.1 h1).1 (fun e=>by obtain⟨o,ho,hcc⟩:=hr _ e.symm; rw[h1] at ho; cases ho; cases hcc)).trans h1,h2⟩
 case ownx=>exact fun _ _ _ _ _ hs _ _=>hs
 case start =>
  have g1:=((bK.alloc (Obj.cells (Array.replicate ns.length (Value.int .i64 0)) 3)).alloc (Obj.cells #[Value.slice (some ⟨w.heap.size+1,0,none⟩) ns.length ns.length] 32)).alloc (Obj.cells #[Value.slice (some ⟨b,off,none⟩) ns.length cap] 32);rw[hW0] at g1;refine⟨⟨⟨g1.cell,g1.frozen⟩,⟨Array.replicate ns.length (Value.int .i64 0),?_,?_⟩,?_⟩,hB0⟩
  .rw[<-hW0]
   refine(Below.heap_alloc _ _ _ A8).trans ((Below.heap_alloc _ _ _ A8).trans ?_);have:=World.alloc_heap_new (w.alloc (Obj.cells #[Value.int .i64 (K:Int)] 3)) (Obj.cells (Array.replicate ns.length (Value.int .i64 0)) 3)
   rwa [World.size_alloc] at this
  .simp [fld]
  .have g2:=(Boxed.new ((w.alloc (Obj.cells #[Value.int .i64 (K:Int)] 3)).alloc (Obj.cells (Array.replicate ns.length (Value.int .i64 0)) 3)) 32 (.slice (some ⟨w.heap.size+1,0,none⟩) ns.length ns.length)).alloc (Obj.cells #[Value.slice (some ⟨b,off,none⟩) ns.length cap] 32)
   rw[hW0] at g2;have h4:=g2.cell;rw[World.size_alloc,World.size_alloc] at h4;exact h4
 case assign =>
  intro l x W K hK
  gi_wp2
  exact hK
 case body =>
  rintro l pre ⟨⟨xi,xn⟩,hx1,hx2,hx3⟩ W ⟨⟨⟨hk,hkf⟩,⟨c,hc1,hc2⟩,hbx⟩,hBW⟩ hpre;simp only at hx1 hx2 hx3;obtain⟨s,hs⟩:∃s,(fld ns.length K pre).2=s:=⟨_,rfl⟩;rw[hs] at hk
  have hsK:s<=1048576:=by
   have:=AWZ ns.length K pre;omega
  obtain⟨xm,rfl⟩:∃xm:Nat,xn=(xm:Int):=⟨xn.toNat,U⟩;have hxn:xm≠0:=U;have hcs:c.size=ns.length:=by rw[hc2]; simp [AST]
  have hoc:W.frozen? ⟨w.heap.size+1,xi,none⟩=false:=by simp [World.frozen?,hc1]
  have hcx:∃v,W.cell? ⟨w.heap.size+1,xi,none⟩=some v:=⟨c[xi]'U,by simp [World.cell?,hc1,hcs,hx1]⟩;obtain⟨v0,hv0⟩:=hcx;have hq0:(0:Int)<=(s:Int)/(xm:Int):=Int.ediv_nonneg U U;have hq1:(s:Int)/(xm:Int)<=1048576:=Int.le_trans (Int.ediv_le_self _ U) U
  gi_wp2
  rename_i Qb Kr hKr;refine wpIn_region_any AZ ?_;refine oU (F':=F) (fun i o ho=>?_) _ _ _ _ ?_
  .match i,ho with
   | 0,ho=>cases ho; exact⟨rfl,rfl⟩
   | 1,ho=>cases ho; exact⟨rfl,rfl⟩
   | 2,ho=>cases ho; exact⟨rfl,rfl⟩
   | 3,ho=>cases ho; exact⟨rfl,rfl⟩
   | 4,ho=>cases ho; exact⟨rfl,rfl⟩
   | 5,ho=>cases ho; exact⟨rfl,rfl⟩
   | 6,ho=>cases ho; exact⟨rfl,rfl⟩
   | i+7,ho=>simp at ho
  change wpAnyIn _ _ _ _ _ _ _ _ _ (World.drew _);refine wpAnyIn_take (i:=1) (v := ?_) hro rfl AZ AZ AZ (fun _ _ _ h=>h) ⟨Or.inl ⟨by rfl,?_⟩,fun _=>rfl⟩ ?_
  rotate_left
  .intro w; go_simp; rfl
  refine wpAnyIn_take (i:=3) (v := ?_) hro rfl AZ AZ AZ (fun _ _ _ h=>h) ⟨Or.inl ⟨by rfl,?_⟩,fun _=>rfl⟩ ?_
  rotate_left
  .intro w; go_simp; rfl
  refine wpAnyIn_ready (rs:=[0,2]) AZ A8 ?_;refine AllReadyIn.cons rfl (fun K hK=>?_) (AllReadyIn.cons rfl (fun K hK=>?_) AllReadyIn.nil)
  .go_simp
   refine hK _ _ ?_; clear hK K;refine wpAnyIn_ready (rs:=[2]) AZ A8 ?_;refine AllReadyIn.cons rfl (fun K hK=>?_) AllReadyIn.nil
   go_simp
   refine hK _ _ ?_; clear hK K;refine wpAnyIn_ready (rs:=[4]) AZ A8 ?_;refine AllReadyIn.cons rfl (fun K hK=>?_) AllReadyIn.nil
   go_simp
   refine hK _ _ ?_; clear hK K;refine wpAnyIn_ready (rs:=[5]) AZ A8 ?_;refine AllReadyIn.cons rfl (fun K hK=>?_) AllReadyIn.nil
   go_simp
   refine hK _ _ ?_; clear hK K;refine wpAnyIn_ready (rs:=[6]) AZ A8 ?_;refine AllReadyIn.cons rfl (fun K hK=>?_) AllReadyIn.nil
   go_simp
   refine hK _ _ ?_; clear hK K;refine wpAnyIn_done AZ ?_ _;refine hKr _ _ ?_;clear hKr
   gi_wp2
   exact mB hs0 hx1 hxn hk hkf hc1 hc2 hbx hBW hs hcs
  .go_simp
   refine hK _ _ ?_; clear hK K;refine wpAnyIn_ready (rs:=[0,4]) AZ A8 ?_;refine AllReadyIn.cons rfl (fun K hK=>?_) (AllReadyIn.cons rfl (fun K hK=>?_) AllReadyIn.nil)
   .go_simp
    refine hK _ _ ?_; clear hK K;refine wpAnyIn_ready (rs:=[4]) AZ A8 ?_;refine AllReadyIn.cons rfl (fun K hK=>?_) AllReadyIn.nil
    go_simp
    refine hK _ _ ?_; clear hK K;refine wpAnyIn_ready (rs:=[5]) AZ A8 ?_;refine AllReadyIn.cons rfl (fun K hK=>?_) AllReadyIn.nil
    go_simp
    refine hK _ _ ?_; clear hK K;refine wpAnyIn_ready (rs:=[6]) AZ A8 ?_;refine AllReadyIn.cons rfl (fun K hK=>?_) AllReadyIn.nil
    go_simp
    refine hK _ _ ?_; clear hK K;refine wpAnyIn_done AZ ?_ _;refine hKr _ _ ?_;clear hKr
    gi_wp2
    exact mB hs0 hx1 hxn hk hkf hc1 hc2 hbx hBW hs hcs
   .go_simp
    refine hK _ _ ?_; clear hK K;refine wpAnyIn_ready (rs:=[0]) AZ A8 ?_;refine AllReadyIn.cons rfl (fun K hK=>?_) AllReadyIn.nil
    go_simp
    refine hK _ _ ?_; clear hK K;refine wpAnyIn_ready (rs:=[5]) AZ A8 ?_;refine AllReadyIn.cons rfl (fun K hK=>?_) AllReadyIn.nil
    go_simp
    refine hK _ _ ?_; clear hK K;refine wpAnyIn_ready (rs:=[6]) AZ A8 ?_;refine AllReadyIn.cons rfl (fun K hK=>?_) AllReadyIn.nil
    go_simp
    refine hK _ _ ?_; clear hK K;refine wpAnyIn_done AZ ?_ _;refine hKr _ _ ?_;clear hKr
    gi_wp2
    exact mB hs0 hx1 hxn hk hkf hc1 hc2 hbx hBW hs hcs
 case done =>
  rintro D ys W hD rfl ⟨⟨_,⟨c,hcc,he⟩,hc5⟩,hB⟩ hKD
  gi_wp2
  refine⟨A8,.inl ⟨_,_,rfl,run_takeDeferred hKD,?_⟩⟩;refine⟨_,results_tmp rfl _ _ _,hB.trans (belowK_b (w:=w) (jF _) W D _ _ U hKD rfl rfl),c,3,rfl,?_,?_⟩
  .exact((grownBy_putObj' W D (.deferred none)).block _ (Array.getElem?_eq_some_iff.1 hcc).1 (fun e=>by cases e; rw[hcc] at hKD; cases hKD)).trans hcc
  .intro i hi
   have hfu:=AAP ns K f hf ns.length (jF _);rw[Nat.sub_self,List.drop_zero] at hfu;rw[hzs] at he;rw[he,hfu];simp [hi]
 case stop =>
  rintro D c pre W _ _ h _;exact h.elim
end Go.Proofs.YtiihpnicbekebaaGreatDoor.Back
namespace Go.Proofs.YtiihpnicbekebaaGreatDoor.Cov
open Sm Bins Go.RowKit
theorem iJ (G:Nat->AV):iE G:=by
 intro ns s K h hz hlen hpos hK
 have hne:RF ns K≠[]:=by
  intro e;have h1:(RF ns K).length=ns.length:=by unfold RF; rw[jL,O7]
  rw[e] at h1; simp at h1; omega
 have hnn:ns.map J5≠[]:=by
  intro e;have:=congrArg List.length e;simp at this; rw[this] at hz; cases hz
 refine PCall.of_ints (cok 212 G AZ) hne fun g w cargs S ha=>?_
 obtain⟨hsz,hget⟩:=ha
 obtain⟨cv0,cv1,rfl⟩:∃a b,cargs = #[a,b]:=by
  obtain⟨l⟩:=cargs
  match l,hsz with
  | [a,b],_=>exact⟨a,b,rfl⟩
 have r0:=(hget 0 _ _ rfl rfl).sl_inv;have r1:=(hget 1 _ _ rfl rfl).int_inv;subst r1;generalize hxs:ns.map J5=xs at r0
 cases r0 with
 | nil=>rw[hxs] at hnn; exact absurd rfl hnn
 | empty=>rw[hxs] at hnn; exact absurd rfl hnn
 | sl _ _ _ cb co c e fz cap cv q1 q2 q3 q4 q5 q6 q7 q8 =>
   subst hxs;have hw:=S.fro _ _ q3;have hcb:cb<w.heap.size:=(Array.getElem?_eq_some_iff.1 hw).1;rw[jL]
   have hc:∀j,j<ns.length->w.cell? ⟨cb,co+j,none⟩=some (.int .i64 ((ns[j]?.getD 0:Nat):Int)):=by
    intro j hj;have h1:=q5 j 0 (BL hj) U;have h2:=q6 j 0 (J5 ns[j]) (.n (ns[j]:Int)) (by rw[List.getElem?_map,jI hj]; rfl) rfl;rw[Nat.mul_one,Nat.add_zero] at h1;rw[RS hw,h1,jI hj,Option.getD_some];generalize cv j 0=u at h2;cases h2; rfl
   have hin:=Back.tuple_in Fence.wide 3 trivial trivial trivial rfl (jF 3) cb co cap ns K w hcb hc hlen hz hpos hK;refine(callsIn_wide.1 hin).mono ?_;rintro e W' ⟨hB,c',ty,rfl,hh,hcell⟩;have hl:(RF ns K).length=ns.length:=by unfold RF; rw[jL,O7]
   refine⟨hB,w.heap.size+1,c',ty,ns.length,by rw[hl],Nat.le_succ _,hh,by rw[hl]; exact jF _,fun i hi=>?_⟩;have hi':i<(tupF ns K).1.length:=by rw[O7,<-hl]; exact hi
   rw[hcell i hi'];simp [RF]
end Go.Proofs.YtiihpnicbekebaaGreatDoor.Cov
namespace Go.Proofs.YtiihpnicbekebaaGreatDoor.Head
variable {s:String} {P:Program}

def signs:List Char:=([104,97,114,110,101,115,115,32,54,57,97,57,99,52,100,99,98,100,53,49,98,99,54,100,49,55,51,51,49,98,54,56,98,55,53,55,53,56,48,52,49,57,97,56,57,99,57,55,53,54,100,48,98,53,101,102,48,56,50,51,98,57,56,54,57,51,99,52,53,100,48,101,32,99,117,116,32,97,116,32,116,101,115,116,98,101,110,99,104,47,116,101,115,116,98,101,110,99,104,108,97,119,53,49,46,67,108,111,115,117,114,101,82,101,97,99,104,101,115,32,116,101,115,116,98,101,110,99,104,47,116,101,115,116,98,101,110,99,104,108,97,119,53,49,46,67,108,111,115,117,114,101,80,108,97,110,115,32,116,101,115,116,98,101,110,99,104,47,116,101,115,116,98,101,110,99,104,108,97,119,53,49,46,67,108,111,115,117,114,101,68,105,118,105,100,101,115,32,116,101,115,116,98,101,110,99,104,47,116,101,115,116,98,101,110,99,104,108,97,119,53,49,46,67,108,111,115,117,114,101,73,116,101,109,115,32,116,101,115,116,98,101,110,99,104,47,116,101,115,116,98,101,110,99,104,108,97,119,53,49,46,67,108,111,115,117,114,101,80,114,111,118,101,115,32,116,101,115,116,98,101,110,99,104,47,116,101,115,116,98,101,110,99,104,108,97,119,53,49,46,67,108,111,115,117,114,101,72,105,116,115]:List Nat).map Char.ofNat
theorem AMV:Tryz.pinned.checked.prog.initOrder=String.ofList signs:=AZ
theorem oJ {l:List Char}(h:s=String.ofList l):s.toList=l:=by rw[h,String.toList_ofList]
theorem aS:Tryz.pinned.checked.prog.initOrder.toList=signs:=oJ AMV
def ABE:List Char:=(signs.drop 73).take 3
def AMK:List (List Char):=wordsSigns (signs.drop 77)
def hsum:List Char:=(signs.drop 8).take 64
theorem iH:behindMainWord (wordsSigns signs)=ABE::AMK:=AZ
theorem AVU:wordsSigns signs=signs.take 7::hsum::wordsSigns (signs.drop 73):=AZ
theorem vS:stripLifts liftWords (ABE::AMK)=([],ABE::AMK):=AZ
theorem AS5:Tryz.pinned.checked.prog.doorFits []=true:=AZ
theorem ANM:Tryz.pinned.checked.prog.laysLater=false:=AZ
theorem AQ5:Tryz.pinned.checked.prog.bearsReflect=false:=AZ
theorem AXD:(ABE == "cut".toList)=true:=AZ
theorem ABD:((some ABE)==some "cut".toList)=true:=AZ
theorem AY3:(ABE == "gc".toList)=false:=AZ
theorem ARP:(ABE == "spec".toList)=false:=AZ
theorem ARQ:(some ABE==some "carried".toList)=false:=AZ
theorem sum_is:isSumSigns hsum=true:=AZ
theorem AWT:(signs.take 7 == "harness".toList)=true:=AZ
theorem AOU (h:P.initOrder.toList=signs)(hd:P.doorFits []=true)(hl:P.laysLater=false)(hr:P.bearsReflect=false):P.mayEnter=true:=by
 unfold Program.mayEnter;generalize P.initOrder.toList=l at h;subst h;rw[iH];simp only[vS,hd,hl,hr,jY,List.head?_cons,bNf,Bool.or_true,Bool.and_true,ABD]
theorem AR3 (h:P.initOrder.toList=signs):P.make=some .cut:=by
 unfold Program.make;generalize P.initOrder.toList=l at h;subst h;rw[iH];simp only[AY3,ARP,AXD,zY,Bool.false_eq_true,if_false,Bool.true_or,if_true]
theorem AKA (h:P.initOrder.toList=signs):P.liftsFinal=false:=by
 unfold Program.liftsFinal Program.headLifts;generalize P.initOrder.toList=l at h;subst h;rw[iH];simp only[vS,List.head?_cons,ARQ,ABD,Bool.false_and,Bool.false_or,if_true,jY]
theorem AR4 (h:P.initOrder.toList=signs)(hs:s=String.ofList hsum):P.mainIs=some (true,s.toList):=by
 rw[oJ hs];unfold Program.mainIs;generalize P.initOrder.toList=l at h;subst h;rw[AVU]
 show(if !isSumSigns hsum then none else if signs.take 7 == "harness".toList then some (true,hsum) else if signs.take 7 == "ownmain".toList then some (false,hsum) else none)=_
 rw[sum_is,AWT];rfl
theorem A0C:Tryz.pinned.checked.prog.mayEnter=true:=AOU aS AS5 ANM AQ5
theorem make_is:Tryz.pinned.checked.prog.make=some .cut:=AR3 aS
theorem AXY:Tryz.pinned.checked.prog.liftsFinal=false:=AKA aS
theorem A16 (hs:s=String.ofList hsum):Tryz.pinned.checked.prog.mainIs=some (true,s.toList):=AR4 aS hs
theorem A19 (h:P.funcs.any Func.goes=false)(s:String):P.goesFrom s=false:=by
 have hg:∀g:FuncId,(P.funcs[g]?).any Func.goes=false:=fun g=>by
  cases hq:P.funcs[g]? with
  | none=>rfl
  | some fn =>
    show fn.goes=false;rw[Array.any_eq_false'] at h;have:=h fn (Array.mem_of_getElem? hq);simpa using this
 unfold Program.goesFrom
 cases P.funcNamed s with
 | none=>rfl
 | some f =>
   show P.goes f=false;unfold Program.goes;rw[h,Bool.and_false,zY];simp [hg]
theorem A31:Tryz.pinned.checked.prog.funcs.any Func.goes=false:=AZ
theorem AZU:Tryz.pinned.checked.prog.stopsHeard=true:=AZ
theorem A18:laidOutB Tryz.pinned.checked.prog=true:=AZ
theorem A15:mapsRowed Tryz.pinned.checked.prog=true:=AZ
end Go.Proofs.YtiihpnicbekebaaGreatDoor.Head
namespace Go.Proofs.YtiihpnicbekebaaGreatDoor.Cov
open Sm Bins Go.RowKit
variable {b:Nat}
def okR (r:Rng)(_:Nat):Prop:=(-9223372036854775808<=r.lo∧r.lo<=9223372036854775807)∧(-9223372036854775808<=r.hi∧r.hi<=9223372036854775807)
theorem cl3:Tryz.prog.cellsOf 3=1:=AZ
theorem cl9:Tryz.prog.cellsOf 9=1:=AZ
theorem A0L:Tryz.prog.cellsOf 84=1:=AZ
theorem A3B:Tryz.prog.cellsOf 85=1:=AZ
theorem AXI:Tryz.prog.cellsOf 23=1:=AZ
theorem AXH:Tryz.prog.cellsOf 79=4:=AZ
theorem A3D:Tryz.prog.cellsOf 80=1:=AZ
theorem A3C:Tryz.prog.cellsOf 82=6:=AZ
theorem A3A:Tryz.prog.cellsOf 87=4:=AZ
theorem A29:Tryz.prog.cellsOf 90=3:=AZ
theorem ATL:Tryz.prog.cellsOf 32=1:=AZ
theorem ATM:Tryz.prog.cellsOf 25=1:=AZ
theorem A3G:Tryz.prog.cellsOf 28=1:=AZ
theorem A3F:Tryz.prog.cellsOf 29=1:=AZ
theorem A33:Tryz.prog.cellsOf 31=2:=AZ
theorem A32:Tryz.prog.cellsOf 46=4:=AZ
theorem rdI:Rd jA 3 qencI okI:=AV8 Tryz.underlying3
theorem rdStr:Rd jA 9 qencStr okS:=AV7 Tryz.underlying9
theorem N8 {α:Type}{ok:α->Nat->Prop}{xs:List α}(h:∃b',b'+1<=b∧okL ok xs b'):okL ok xs b:=by obtain⟨b',h1,h2⟩:=h; exact h2.mono U
def AJI (x:Is)(b:Nat):Prop:=okL okI x.l b
theorem AV9:Rd jA 32 KL AJI:=by
 intro n
 cases n with
 | zero=>exact RdAt.zero
 | succ n=>exact RdAt.map (fun x:SM×List Int=>(⟨x.1,x.2⟩:Is)) (KA Tryz.underlying32 cl3 DK (fun _=>rfl) (rdI n)) (fun _=>rfl) (fun x b h=>N8 h)
def okE (e:Ex)(b:Nat):Prop:=wt e<=b
theorem yM:∀ {l:List Ex} {b:Nat},okL okE l b->wts l<=b
 | [],b,_=>Nat.zero_le _
 | x::xs,b,⟨b1,b2,h1,_,h3,h4⟩=>by
   have:=yM h4;simp only[wts]; unfold okE at h3; omega
theorem rdE:∀n:Nat,RdAt jA n 79 AY okE:=by
 intro n
 induction n using Nat.strongRecOn with
 | _ n ih =>
   match n,ih with
   | 0,_=>exact RdAt.zero
   | 1,_ =>
     intro H ench w cs d ps h;obtain⟨zs,m,hm,_,_,hl,hz⟩:=DataW.trod_struct Tryz.underlying79 h;obtain rfl:m=0:=U;have:=hz 0 _ rfl;simp only[DataW.trod] at this
     have h0:zs=[]:=by cases zs with
      | nil=>rfl
      | cons a l=>simp at this
     subst h0; simp at hl
   | n+2,ih =>
     have rdA:RdAt jA (n+1) 23 (fun x:SM×List Ex=>[.sl x.1 4 (x.2.map AY)]) (fun x b=>∃b',b'+1<=b∧okL okE x.2 b'):=KA Tryz.underlying23 AXH DK EF (ih n U)
     refine RdAt.map (fun x:Int×Int×ByteArray×(SM×List Ex)×Unit=>Ex.mk x.1 x.2.1 x.2.2.1 x.2.2.2.1.1 x.2.2.2.1.2)
      (LU Tryz.underlying79 (ES rfl cl3 (fun _=>rfl) (rdI _) (ES rfl cl3 (fun _=>rfl) (rdI _) (ES rfl cl9 (fun _=>rfl) (rdStr _) (ES rfl AXI (fun _=>rfl) rdA PD))))) (fun x=>by rw[EY]; rfl) ?_
     rintro⟨a,b,c,d,_⟩ N ⟨_,hN,b1,b2,hb,h1,b3,b4,hb2,h2,b5,b6,hb3,h3,b7,b8,hb4,⟨b9,h5,h6⟩,_⟩;have h7:=yM h6;unfold okS at h3;show wt _<=_;rw[MH];simp only[Ex.name,Ex.args];simp only at h3 h7;omega
theorem rdR:Rd jA 145 encR okR:=by
 intro n
 cases n with
 | zero=>exact RdAt.zero
 | succ n =>
   refine RdAt.map (fun x:Int×Int×Unit=>(⟨x.1,x.2.1⟩:Rng)) (LU Tryz.underlying145 (ES rfl cl3 (fun _=>rfl) (rdI n) (ES rfl cl3 (fun _=>rfl) (rdI n) PD))) (fun _=>rfl) ?_;rintro⟨a,b,_⟩ N ⟨_,_,_,_,_,h1,_,_,_,h2,_⟩;exact⟨h1,h2⟩
theorem A0N:Tryz.prog.cellsOf 145=2:=AZ
def ARK (x:Rs)(b:Nat):Prop:=okL okR x.l b
theorem AYT:Rd jA 84 encS ARK:=by
 intro n
 cases n with
 | zero=>exact RdAt.zero
 | succ n=>exact RdAt.map (fun x:SM×List Rng=>(⟨x.1,x.2⟩:Rs)) (KA Tryz.underlying84 A0N DK bQ (rdR n)) (fun _=>rfl) (fun x b h=>N8 h)
def okB (x:Bin)(b:Nat):Prop:=∃b1 b2 b3,b1+b2+b3<=b∧okS x.name b1∧ARK x.ranges b2∧okL ARK x.steps b3
theorem rdB:Rd jA 87 H7 okB:=by
 intro n
 match n with
 | 0=>exact RdAt.zero
 | 1 =>
   intro H ench w cs d ps h;obtain⟨zs,m,hm,_,_,hl,hz⟩:=DataW.trod_struct Tryz.underlying87 h;obtain rfl:m=0:=U;have:=hz 0 _ rfl;simp only[DataW.trod] at this
   have h0:zs=[]:=by cases zs with
    | nil=>rfl
    | cons a l=>simp at this
   subst h0; simp at hl
 | n+2 =>
   have rdSt:RdAt jA (n+1) 85 (fun x:SM×List Rs=>[.sl x.1 1 (x.2.map encS)]) (fun x b=>∃b',b'+1<=b∧okL ARK x.2 b'):=KA Tryz.underlying85 A0L DK (fun _=>rfl) (AYT n)
   refine RdAt.map (fun x:ByteArray×Int×Rs×(SM×List Rs)×Unit=>(⟨x.1,x.2.1,x.2.2.1,x.2.2.2.1.1,x.2.2.2.1.2⟩:Bin))
    (LU Tryz.underlying87 (ES rfl cl9 (fun _=>rfl) (rdStr _) (ES rfl cl3 (fun _=>rfl) (rdI _) (ES rfl A0L (fun _=>rfl) (AYT _) (ES rfl A3B (fun _=>rfl) rdSt PD))))) (fun _=>rfl) ?_
   rintro⟨a,b,c,d,_⟩ N ⟨_,hN,b1,b2,hb,h1,b3,b4,hb2,h2,b5,b6,hb3,h3,b7,b8,hb4,h4,_⟩;exact⟨b1,b5,b7,U,h1,h3,N8 h4⟩
theorem APO {x:Bin}(h:okB x b)(hb:b<=1048576):BinOk x:=by
 obtain⟨b1,b2,b3,h0,h1,h2,h3⟩:=h;have l2:=h2.length;have l3:=h3.length
 have hs:∀l∈sets x,l.l.length<=1048576:=by
  intro l hl;unfold sets at hl;split at hl
  .simp at hl; subst hl; omega
  .obtain⟨b4,h4,h5⟩:=h3.each l hl
   have:=h5.length;omega
 refine⟨?_,?_,U,fun l hl=>by have:=hs l hl; omega⟩
 .unfold sets
  split
  .simp
  .omega
 .unfold okS at h1; omega
theorem cX {t:TypeId}{f:Field}{fs:List Field}{α:Type}{enc:α->List AV}{ok:α->Nat->Prop}(hu:Tryz.prog.underlying t=some (.struct (f::fs).toArray)):RdAt jA 1 t enc ok:=by
 intro H ench w cs d ps h;obtain⟨zs,m,hm,_,_,hl,hz⟩:=DataW.trod_struct hu h;obtain rfl:m=0:=U;have:=hz 0 _ rfl;simp only[DataW.trod] at this
 have h0:zs=[]:=by cases zs with
  | nil=>rfl
  | cons a l=>simp at this
 subst h0; simp at hl
def ARL (p:Pt)(b:Nat):Prop:=∃b1 b2 b3,b1+b2+b3<=b∧okS p.name b1∧okE p.ex b2∧okL okB p.bins b3
theorem rdP:Rd jA 82 FP ARL:=by
 intro n
 match n with
 | 0=>exact RdAt.zero
 | 1=>exact cX Tryz.underlying82
 | n+2 =>
   have rdBs:RdAt jA (n+1) 80 (fun x:SM×List Bin=>[.sl x.1 4 (x.2.map H7)]) (fun x b=>∃b',b'+1<=b∧okL okB x.2 b'):=KA Tryz.underlying80 A3A DK KE (rdB n)
   refine RdAt.map (fun x:ByteArray×Ex×(SM×List Bin)×Unit=>(⟨x.1,x.2.1,x.2.2.1.1,x.2.2.1.2⟩:Pt))
    (LU Tryz.underlying82 (ES rfl cl9 (fun _=>rfl) (rdStr _) (ES rfl AXH EF (rdE _) (ES rfl A3D (fun _=>rfl) rdBs PD)))) (fun x=>rfl) ?_
   rintro⟨a,b,c,_⟩ N ⟨_,hN,b1,b2,hb,h1,b3,b4,hb2,h2,b5,b6,hb3,h3,_⟩;exact⟨b1,b3,b5,U,h1,h2,N8 h3⟩
def ARO (c:Cr)(b:Nat):Prop:=∃b1 b2 b3,b1+b2+b3<=b∧okS c.name b1∧okL okI c.pts b2∧okL AJI c.excl b3
theorem rdC:Rd jA 90 GG ARO:=by
 intro n
 match n with
 | 0=>exact RdAt.zero
 | 1=>exact cX Tryz.underlying90
 | n+2 =>
   have rdXs:RdAt jA (n+1) 25 (fun x:SM×List Is=>[.sl x.1 1 (x.2.map KL)]) (fun x b=>∃b',b'+1<=b∧okL AJI x.2 b'):=KA Tryz.underlying25 ATL DK lJ (AV9 n)
   refine RdAt.map (fun x:ByteArray×Is×(SM×List Is)×Unit=>(⟨x.1,x.2.1.m,x.2.1.l,x.2.2.1.1,x.2.2.1.2⟩:Cr))
    (LU Tryz.underlying90 (ES rfl cl9 (fun _=>rfl) (rdStr _) (ES rfl ATL lJ (AV9 _) (ES rfl ATM (fun _=>rfl) rdXs PD)))) (fun x=>rfl) ?_
   rintro⟨a,b,c,_⟩ N ⟨_,hN,b1,b2,hb,h1,b3,b4,hb2,h2,b5,b6,hb3,h3,_⟩;exact⟨b1,b3,b5,U,h1,h2,N8 h3⟩
def okM (m:Mo)(b:Nat):Prop:=∃b1 b2,b1+b2<=b∧okL ARL m.pts b1∧okL ARO m.crs b2
theorem rdM:Rd jA 31 CZ okM:=by
 intro n
 match n with
 | 0=>exact RdAt.zero
 | 1=>exact cX Tryz.underlying31
 | n+2 =>
   have rdPs:RdAt jA (n+1) 28 (fun x:SM×List Pt=>[.sl x.1 6 (x.2.map FP)]) (fun x b=>∃b',b'+1<=b∧okL ARL x.2 b'):=KA Tryz.underlying28 A3C DK IC (rdP n);have rdCs:RdAt jA (n+1) 29 (fun x:SM×List Cr=>[.sl x.1 3 (x.2.map GG)]) (fun x b=>∃b',b'+1<=b∧okL ARO x.2 b'):=KA Tryz.underlying29 A29 DK LY (rdC n)
   refine RdAt.map (fun x:(SM×List Pt)×(SM×List Cr)×Unit=>(⟨x.1.1,x.1.2,x.2.1.1,x.2.1.2⟩:Mo))
    (LU Tryz.underlying31 (ES rfl A3G (fun _=>rfl) rdPs (ES rfl A3F (fun _=>rfl) rdCs PD))) (fun x=>rfl) ?_
   rintro⟨a,b,_⟩ N ⟨_,hN,b1,b2,hb,h1,b3,b4,hb2,h2,_⟩;exact⟨b1,b3,U,N8 h1,N8 h2⟩
def okV (v:Cvr)(b:Nat):Prop:=∃b1 b2,b1+b2<=b∧okL AJI v.pts b1∧okL AJI v.crs b2
theorem rdV:Rd jA 46 encV okV:=by
 intro n
 match n with
 | 0=>exact RdAt.zero
 | 1=>exact cX Tryz.underlying46
 | n+2 =>
   have rdXs:RdAt jA (n+1) 25 (fun x:SM×List Is=>[.sl x.1 1 (x.2.map KL)]) (fun x b=>∃b',b'+1<=b∧okL AJI x.2 b'):=KA Tryz.underlying25 ATL DK lJ (AV9 n)
   refine RdAt.map (fun x:(SM×List Is)×(SM×List Is)×Int×Int×Unit=>(⟨x.1.1,x.1.2,x.2.1.1,x.2.1.2,x.2.2.1,x.2.2.2.1⟩:Cvr))
    (LU Tryz.underlying46 (ES rfl ATM (fun _=>rfl) rdXs (ES rfl ATM (fun _=>rfl) rdXs (ES rfl cl3 (fun _=>rfl) (rdI _) (ES rfl cl3 (fun _=>rfl) (rdI _) PD))))) (fun x=>rfl) ?_
   rintro⟨a,b,c,d,_⟩ N ⟨_,hN,b1,b2,hb,h1,b3,b4,hb2,h2,_⟩;exact⟨b1,b3,U,N8 h1,N8 h2⟩
theorem AQ9 {p:Pt}(h:ARL p b)(hb:b<=1048576):PtOk p:=by
 obtain⟨b1,b2,b3,h0,h1,h2,h3⟩:=h;have l3:=h3.length;unfold okS at h1;unfold okE at h2;refine⟨U,U,U,fun x hx=>?_⟩;obtain⟨b4,h4,h5⟩:=h3.each x hx;exact APO h5 U
theorem AS9 {c:Cr}(h:ARO c b)(hb:b<=1048576):CrOk c:=by
 obtain⟨b1,b2,b3,h0,h1,h2,h3⟩:=h;have l2:=h2.length;have l3:=h3.length;unfold okS at h1;refine⟨U,U,U,fun x hx=>?_⟩;obtain⟨b4,h4,h5⟩:=h3.each x hx;have:=okL.length h5;omega
theorem A14 {m:Mo}(h:okM m b)(hb:b<=1048576):MoOk m:=by
 obtain⟨b1,b2,h0,h1,h2⟩:=h;have l1:=h1.length;have l2:=h2.length;refine⟨U,U,fun p hp=>?_,fun c hc=>?_⟩
 .obtain⟨b4,h4,h5⟩:=h1.each p hp
  exact AQ9 h5 U
 .obtain⟨b4,h4,h5⟩:=h2.each c hc
  exact AS9 h5 U
theorem A2A {v:Cvr}(h:okV v b)(hb:b<=1048576):CvOk v:=by
 obtain⟨b1,b2,h0,h1,h2⟩:=h;have l1:=h1.length;have l2:=h2.length;refine⟨U,U,fun x hx=>?_,fun x hx=>?_⟩
 .obtain⟨b4,h4,h5⟩:=h1.each x hx
  have:=okL.length h5;omega
 .obtain⟨b4,h4,h5⟩:=h2.each x hx
  have:=okL.length h5;omega
end Go.Proofs.YtiihpnicbekebaaGreatDoor.Cov
namespace Go.Proofs.YtiihpnicbekebaaGreatDoor.Bd.Cl
open Sm Bins Cov Xe Wd Bl Ho Go.RowKit
variable {m:Mo} {v:Cvr} {p:Pr}
def PQ (g:Gl):Hl:=⟨g.cross,g.idx,g.bm,g.bins⟩
theorem ASL (hm:MoOk m):∀g∈goals m,g.bins.length<=1048576:=by
 have h1:∀(i:Nat) (p:Pt) (k:Nat),∀g∈gPk i p k,g.bins.length<=1048576:=by
  intro i p k
  induction k with
  | zero=>intro g hg; cases hg
  | succ k ih =>
    intro g hg;rcases zX.1 hg with h|h
    .exact ih g h
    .split at h
     .rw[qP.1 h]; show 1<=_; omega
     .cases h
 have h2:∀k,∀g∈gP m k,g.bins.length<=1048576:=by
  intro k
  induction k with
  | zero=>intro g hg; cases hg
  | succ k ih =>
    intro g hg;rcases zX.1 hg with h|h
    .exact ih g h
    .cases hq:m.pts[k]? with
     | none=>rw[hq] at h; cases h
     | some p=>rw[hq] at h; exact h1 _ _ _ g h
 have h3:∀(i:Nat) (c:Cr),c.pts.length<=1048576->∀k,∀g∈gCk m i c k,g.bins.length<=1048576:=by
  intro i c hc k
  induction k with
  | zero=>intro g hg; cases hg
  | succ k ih =>
    intro g hg;rcases zX.1 hg with h|h
    .exact ih g h
    .split at h
     .rw[qP.1 h]
      show(RF (szs m c.pts) k).length<=_;unfold RF;rw[jL,O7,LJ]; exact hc
     .cases h
 have h4:∀k,∀g∈gC m k,g.bins.length<=1048576:=by
  intro k
  induction k with
  | zero=>exact h2 _
  | succ k ih =>
    intro g hg;rcases zX.1 hg with h|h
    .exact ih g h
    .cases hq:m.crs[k]? with
     | none=>rw[hq] at h; cases h
     | some c=>rw[hq] at h; exact h3 _ _ (hm.crs c (zU hq)).pts _ g h
 exact h4 _
theorem AGT (hm:MoOk m):∀g∈KP m v,(PQ g).bins.length<=1048576:=by
 intro g hg;unfold KP at hg;split at hg
 .exact ASL hm g (List.mem_filter.1 hg).1
 .cases hg
theorem AWR (m:Mo)(v:Cvr):(KP m v).length<=8192:=by
 unfold KP;split
 .rename_i hf
  exact Nat.le_trans (List.length_filter_le _ _) (pL (RI (ZV hf)))
 .exact Nat.zero_le _
def U6 (f:Gl->Int)(most:Int)(s:List Gl×List Gl)(g:Gl):List Gl×List Gl :=
 if f g=11 then (s.1,s.2++[g]) else if f g=0∧(s.1.length:Int)<most then (s.1++[g],s.2) else s
def MZ (f:Gl->Int)(most:Int)(L:List Gl):List Gl×List Gl:=L.foldl (U6 f most) ([],[])
theorem oS (f:Gl->Int)(most:Int)(L:List Gl)(g:Gl):MZ f most (L++[g])=U6 f most (MZ f most L) g:=by unfold MZ; rw[List.foldl_append]; rfl
theorem kF (f:Gl->Int)(most:Int)(L:List Gl):(MZ f most L).1.length<=L.length∧(MZ f most L).2.length<=L.length:=by
 have:∀(L:List Gl) (s:List Gl×List Gl),(L.foldl (U6 f most) s).1.length<=s.1.length+L.length∧(L.foldl (U6 f most) s).2.length<=s.2.length+L.length:=by
  intro L
  induction L with
  | nil=>intro s; exact⟨jF _,jF _⟩
  | cons g L ih =>
    intro s;obtain⟨h1,h2⟩:=ih (U6 f most s g)
    have h3:(U6 f most s g).1.length<=s.1.length+1∧(U6 f most s g).2.length<=s.2.length+1:=by
     unfold U6;split
     .exact⟨Nat.le_succ _,A8⟩
     .split
      .exact⟨A8,Nat.le_succ _⟩
      .exact⟨Nat.le_succ _,Nat.le_succ _⟩
    rw[List.foldl_cons,zH];omega
 have h:=this L ([],[]);unfold MZ;simpa using h
def nI (p:Pr)(m:Mo)(v:Cvr)(most:Int):Int:=if JY p≠0∨FT m≠0∨KZ m v=false∨most<0∨1024<most then 1 else 0
def cY (s:Bw)(ins:Ex->List Rng->Ex)(p:Pr)(m:Mo)(v:Cvr)(most:Int):List Gl×List Gl:=if nI p m v most=0 then MZ (fun g=>OU s ins p m (PQ g)) most (KP m v) else ([],[])
def ADC (s:Bw)(ins:Ex->List Rng->Ex)(p:Pr)(m:Mo)(v:Cvr)(most:Int):AV:=.tup [.sl (Cov.nm (cY s ins p m v most).1) 3 ((cY s ins p m v most).1.map Cov.encH),.sl (Cov.nm (cY s ins p m v most).2) 3 ((cY s ins p m v most).2.map Cov.encH),.n (nI p m v most)]
def AJA (s:Bw)(ins:Ex->List Rng->Ex)(p:Pr)(m:Mo)(v:Cvr)(most:Int):AV:=.tup [fzG 3 Cov.encH (cY s ins p m v most).1,fzG 3 Cov.encH (cY s ins p m v most).2,.n (nI p m v most)]
theorem ARC (s:Bw)(ins:Ex->List Rng->Ex)(p:Pr)(m:Mo)(v:Cvr)(most:Int):CvR (AJA s ins p m v most) (ADC s ins p m v most):=CvR.tup (CvRL.cons ZT (CvRL.cons ZT (CvRL.cons (CvR.refl _) CvRL.nil)))
theorem WL {s:Bw}{ins:Ex->List Rng->Ex}{most:Int}(h:JY p≠0∨FT m≠0∨KZ m v=false∨most<0∨1024<most):AJA s ins p m v most=.tup [.sl .nil 0 [],.sl .nil 0 [],.n 1]:=by
 have e:nI p m v most=1:=by unfold nI; rw[if_pos h]
 unfold AJA cY;rw[e,if_neg DK]; rfl
theorem ARB {s:Bw}{ins:Ex->List Rng->Ex}{most:Int}(h:¬(JY p≠0∨FT m≠0∨KZ m v=false∨most<0∨1024<most)):AJA s ins p m v most=.tup [fzG 3 Cov.encH (MZ (fun g=>OU s ins p m (PQ g)) most (KP m v)).1,fzG 3 Cov.encH (MZ (fun g=>OU s ins p m (PQ g)) most (KP m v)).2,.n 0]:=by
 have e:nI p m v most=0:=by unfold nI; rw[if_neg h]
 unfold AJA cY;rw[e,if_pos rfl]
theorem A3X (h:Hp):F9 jA h 34=some (.ptr h.length 0 0,h++[qF 3 [[.bool false,.n 0,.sl .nil 0 []]]]):=FC (row:=[.bool false,.n 0,.sl .nil 0 []]) AZ
theorem A2S (h:Hp)(x:Hl):DX jA (h++[qF 3 [[.bool false,.n 0,.sl .nil 0 []]]]) 34 (.ptr h.length 0 0) (.agg (EZ x))=some (h++[qF 3 [EZ x]]):=by
 rw[IY (cs:=EZ x) (row:=[.bool false,.n 0,.sl .nil 0 []]) rfl fQ (AX _ _) (jF 3),KH]; rfl
theorem AU6 (h:Hp)(x:Hl):C9 jA false h 49 1 [(0,.agg (EZ x))]=some (.sl .full 3 [EZ x],h):=AZ
section
variable (G:Nat->AV)
theorem AH3 (hG:GOk G)(p:Pr)(hs:PrS p)(hb:Sm51 p)(m:Mo)(hm:MoOk m)(v:Cvr)(most:Int)(hF:∀h,PCall (En G) 55 [.agg (CZ m),.agg (Cov.encV v)] h (.bool (KZ m v)))(hH:∀h,PCall (En G) 21 [.agg (CZ m),.agg (Cov.encV v)] h (.sl (Cov.nm (KP m v)) 3 ((KP m v).map Cov.encH)))(h:Hp):PCall (En G) 17 [.agg (CX p),.agg (CZ m),.agg (Cov.encV v),.n most] h (ADC sdP FD p m v most):=by
 refine PCall.res ?_ (ARC sdP FD p m v most);refine ACalls.pure (R:=fun u H=>Sm.ext h H∧FI h.length H 3 u=AJA sdP FD p m v most) 3 ?_ (fun v H ⟨a,b⟩=>⟨a,b⟩);refine acL Tryz.func17 [.tmp 8,.tmp 9,.tmp 10] ?_;have gp:=AL (x:=qF 4 [Cov.encV v]) (AL (x:=qF 2 [CZ m]) (AX h (qF 5 [CX p])));have gm:=AL (x:=qF 4 [Cov.encV v]) (AX (h++[qF 5 [CX p]]) (qF 2 [CZ m]));have gv:=AX (h++[qF 5 [CX p]]++[qF 2 [CZ m]]) (qF 4 [Cov.encV v]);have hx:Sm.ext h (h++[qF 5 [CX p]]++[qF 2 [CZ m]]++[qF 4 [Cov.encV v]]):=(((ext.rfl' h).app _).app _).app _;refine DI @SS @bxM @Cov.bxV ?_
 generalize h++[qF 5 [CX p]]++[qF 2 [CZ m]]++[qF 4 [Cov.encV v]]=H0 at gp gm gv hx|-
 generalize (h++[qF 5 [CX p]]++[qF 2 [CZ m]]).length=vb at gv|-
 generalize (h++[qF 5 [CX p]]).length=mb at gm|-
 refine AO (WS gp) ?_;refine(Bd.valid_prog G hG p hs H0).use ?_;cases b1:(JY p != 0)
 case true =>
  have q:JY p≠0:=BL b1;refine AO b1 ?_;exact⟨hx,by rw[WL (.inl q)]; rfl⟩
 have q1:JY p=0:=BL b1;refine AQ b1 (ldM gm) ?_;refine(PS G hG m hm H0).use ?_;cases b2:(FT m != 0)
 case true =>
  have q:FT m≠0:=BL b2;refine AQ b1 b2 ?_;exact⟨hx,by rw[WL (.inr (.inl q))]; rfl⟩
 have q2:FT m=0:=BL b2;refine EO b1 b2 (ldM gm) (Cov.ldV gv) ?_;refine(hF H0).use ?_;cases b3:KZ m v
 case false =>
  refine DI b1 b2 b3 ?_;exact⟨hx,by rw[WL (.inr (.inr (.inl b3)))]; rfl⟩
 refine DI b1 b2 b3 ?_;cases b4:decide (most<0)
 case true =>
  refine EO b1 b2 b3 b4 ?_;exact⟨hx,by rw[WL (.inr (.inr (.inr (.inl (of_decide_eq_true b4)))))]; rfl⟩
 refine AO b4 ?_;cases b5:decide (most>1024)
 case true =>
  refine JL b1 b2 b3 b4 b5 ?_;exact⟨hx,by rw[WL (.inr (.inr (.inr (.inr (of_decide_eq_true b5)))))]; rfl⟩
 have hok:=ARB (s:=sdP) (ins:=FD) (p:=p) (m:=m) (v:=v) (most:=most) (by
  have:=of_decide_eq_false b4; have:=of_decide_eq_false b5;rintro (q|q|q|q|q)
  .exact q q1
  .exact q q2
  .rw[b3] at q; cases q
  .omega
  .omega)
 refine NZ b1 b2 b3 b4 b5 (ldM gm) (Cov.ldV gv) ?_;refine(hH H0).use ?_;have hbin:=AGT (v:=v) hm;have hln:=AWR m v;rw[hok]
 generalize KP m v=L at hbin hln|-
 have hpl:∀k,(MZ (fun g=>OU sdP FD p m (PQ g)) most (L.take k)).1.length<=8192∧(MZ (fun g=>OU sdP FD p m (PQ g)) most (L.take k)).2.length<=8192:=fun k=>by
  have h1:=kF (fun g=>OU sdP FD p m (PQ g)) most (L.take k);have:(L.take k).length<=L.length:=by rw[jU]; omega
  omega
 generalize hf:(fun g=>OU sdP FD p m (PQ g))=f at hpl|-
 have hfx:∀g,OU sdP FD p m (PQ g)=f g:=fun g=>by rw[<-hf]
 refine Z ?_
 refine BB (fun n F H=>∃k v1 v2,n+k=L.length∧F 3=.n most∧F 4=.ptr h.length 0 0∧F 5=.ptr mb 0 0∧F 11=v1∧F 12=v2∧F 41=.sl (Cov.nm L) 3 (L.map Cov.encH)∧F 42=.n (L.length:Nat)∧F 43=.n (k:Nat)∧Sm.ext H0 H∧outG 3 Cov.encH H0 (MZ f most (L.take k)).1 v1 H∧outG 3 Cov.encH H0 (MZ f most (L.take k)).2 v2 H∧∀b,isB v1 b->¬isB v2 b) L.length
  ⟨0,.sl .nil 0 [],.sl .nil 0 [],A8,AC,AC,AC,AC,AC,AC,AC,AC,ext.rfl' _,outG.nil _ _ _ _,outG.nil _ _ _ _,fun b q=>q.elim⟩ ?_
 rintro n F H ⟨k,v1,v2,hk,f3,f4,f5,f11,f12,f41,f42,f43,hxH,o1,o2,sep⟩;refine AQ f42 f43 ?_;refine DU ?_ ?_<;>intro hk'
 .have hme:=jH hk'
  have hpk:=hpl k;have hst:MZ f most (L.take (k+1))=U6 f most (MZ f most (L.take k)) L[k]:=by rw[jW hk',oS]
  unfold U6 at hst;have lr:BO jA H 34 (.fptr 3 (L.map Cov.encH) k 0)=some (.agg (EZ (PQ L[k]))):=by rw[CY AK5 fQ (f:=Cov.encH) (fun g=>rfl) hk']; rfl
  have hx1:=hxH.app [qF 3 [EZ (PQ L[k])]];have o1:=o1.app [qF 3 [EZ (PQ L[k])]];have o2:=o2.app [qF 3 [EZ (PQ L[k])]];have gg:=AX H (qF 3 [EZ (PQ L[k])]);refine NZ ANT f41 f43 hk' lr A3X A2S ?_
  generalize H++[qF 3 [EZ (PQ L[k])]]=H1 at hx1 o1 o2 gg|-
  generalize H.length=gb at gg|-
  refine JL f4 f5 (WS (EJ hx1 gp)) (ldM (EJ hx1 gm)) (ldH gg) ?_;refine(VO G hG p hs hb m hm (PQ L[k]) (hbin _ hme) H1).use ?_;unfold AC6;rw[hfx];generalize MZ f most (L.take k)=s at o1 o2 hpk hst;cases c1:(f L[k]==11)
  .have n1:f L[k]≠11:=BL c1
   rw[if_neg n1] at hst;cases c2:(f L[k]==0)
   .have n2:f L[k]≠0:=BL c2
    rw[if_neg (fun q=>n2 q.1)] at hst;refine EO c1 c2 f43 (CW k) ?_;exact⟨n-1,U,k+1,v1,v2,U,A7,A7,A7,A7,A7,A7,A7,A7,hx1,by rw[hst]; exact o1,by rw[hst]; exact o2,sep⟩
   .have n2:f L[k]=0:=BL c2
    cases c3:decide (((s.1.length:Nat):Int)<most)
    .rw[if_neg (fun q=>of_decide_eq_false c3 q.2)] at hst
     refine QZ c1 c2 f3 f11 (o1.len ANB) c3 f43 (CW k) ?_;exact⟨n-1,U,k+1,v1,v2,U,A7,A7,A7,A7,A7,A7,A7,A7,hx1,by rw[hst]; exact o1,by rw[hst]; exact o2,sep⟩
    .rw[if_pos ⟨n2,of_decide_eq_true c3⟩] at hst
     obtain⟨v',H',a1,a2,a3,a4,_,a5⟩:=o1.append (P:=jA) AQW fQ AQP AXL U U hx1 L[k];change EP jA true H1 49 49 v1 (.sl .full 3 [EZ (PQ L[k])])=_ at a1;refine aE c1 c2 f3 f11 (o1.len ANB) c3 (ldH gg) @AU6 a1 f43 (CW k) ?_;exact⟨n-1,U,k+1,v',v2,U,A7,A7,A7,A7,A7,A7,A7,A7,a4,by rw[hst]; exact a2,by rw[hst]; exact o2.keepA a3 (fun b q1 q2=>sep b q2 q1),fun b q1 q2=>by have:=a5 b q1; have:=(o2.lt q2).2; omega⟩
  .have n1:f L[k]=11:=BL c1
   rw[if_pos n1] at hst;obtain⟨v',H',a1,a2,a3,a4,_,a5⟩:=o2.append (P:=jA) AQW fQ AQP AXL U U hx1 L[k];change EP jA true H1 49 49 v2 (.sl .full 3 [EZ (PQ L[k])])=_ at a1;refine NZ c1 f12 (ldH gg) @AU6 a1 f43 (CW k) ?_;exact⟨n-1,U,k+1,v1,v',U,A7,A7,A7,A7,A7,A7,A7,A7,a4,by rw[hst]; exact o1.keepA a3 (fun b q1 q2=>sep b q1 q2),by rw[hst]; exact a2,fun b q1 q2=>by have:=a5 b q2; have:=(o1.lt q1).2; omega⟩
 .rw[jJ U] at o1 o2
  refine AQ f11 f12 ?_;refine⟨hx.trans hxH,?_⟩;have hle:=hx.le;show AV.tup [FI h.length H 2 v1,FI h.length H 2 v2,_]=_;rw[NG Cov.frzH o1 h.length 0 U,NG Cov.frzH o2 h.length 0 U]; rfl
theorem AK7 (hG:GOk G)(p:Pr)(hs:PrS p)(hb:Sm51 p)(m:Mo)(hm:MoOk m)(v:Cvr)(hv:CvOk v)(most:Int)(h:Hp):PCall (En G) 17 [.agg (CX p),.agg (CZ m),.agg (Cov.encV v),.n most] h (ADC sdP FD p m v most) :=
 AH3 G hG p hs hb m hm v most (fits_prog G hG (iJ G) m v hm hv) (kT G hG (iJ G) m v hm hv) h
end
def aV (vs:List Vr):Nat->List Int
 | 0=>[]
 | k+1=>aV vs k++(match vs[k]? with|some v=>if v.mode≠0 then [((k:Nat):Int)] else []|none=>[])
theorem iZ (vs:List Vr):∀k,(aV vs k).length<=k
 | 0=>jF _
 | k+1=>by
   have:=iZ vs k;simp only[aV,jS]
   cases vs[k]? with
   | none=>simp; omega
   | some v=>simp only; split<;>simp<;>omega
theorem AF4 (vs:List Vr):∀k,∀z∈aV vs k,∃i:Nat,z=(i:Int)∧i<vs.length
 | 0,z,h=>by cases h
 | k+1,z,h=>by
   rcases zX.1 h with h|h
   .exact AF4 vs k z h
   .cases hq:vs[k]? with
    | none=>rw[hq] at h; cases h
    | some v =>
      rw[hq] at h;simp only at h;split at h
      .exact⟨k,qP.1 h,AB hq⟩
      .cases h
def cP (vs:List Vr)(z:Int):Int:=match vs[z.toNat]? with|some v=>v.width|none=>0
theorem xM (vs:List Vr):∀k,k<=vs.length->((aV vs k).map (cP vs)).sum=JU (vs.take k)
 | 0,_=>rfl
 | k+1,h=>by
   have ih:=xM vs k U;have hk:k<vs.length:=U;rw[jW hk];simp only[aV,jI hk];rw[qL,List.sum_append,ih];unfold JU;rw[qL,List.sum_append];congr 1;by_cases hm:vs[k].mode=0
   .rw[if_neg (by simp [hm])]; simp [hm]
   .rw[if_pos hm]
    simp only[jK,jM,List.sum_cons,List.sum_nil];rw[if_neg hm];unfold cP;rw[qN,jI hk]
theorem oK {vs:List Vr}(hw:∀v∈vs,1<=v.width∧v.width<=8):∀l:List Int,0<=(l.map (cP vs)).sum∧(l.map (cP vs)).sum<=8*(l.length:Int)
 | []=>A8
 | z::l=>by
   have ih:=oK hw l
   have h1:0<=cP vs z∧cP vs z<=8:=by
    unfold cP
    cases hq:vs[z.toNat]? with
    | none=>simp
    | some v=>have:=hw v (zU hq); simp only; omega
   simp only[jK,List.sum_cons,zH];omega
def fV (p:Pr):List Int:=if JY p=0 then aV p.vars p.vars.length else []
theorem oI {p:Pr}(P:PV p):∀k,k<=p.vars.length->0<=JU (p.vars.take k)∧nB p.vars k=2^(JU (p.vars.take k)).toNat
 | 0,_=>⟨Int.le_refl 0,rfl⟩
 | k+1,h=>by
   have hk:k<p.vars.length:=U;obtain⟨i0,ih⟩:=oI P k U;obtain⟨_,w1,_⟩:=U1 (P.vr _ (jH hk));rw[jW hk]
   have e:JU (p.vars.take k++[p.vars[k]])=JU (p.vars.take k)+if p.vars[k].mode=0 then 0 else p.vars[k].width:=by
    unfold JU;rw[qL,List.sum_append]; simp
   rw[e];simp only[nB,jI hk];by_cases hm:p.vars[k].mode=0
   .rw[if_pos hm,if_pos hm,Int.add_zero]; exact⟨i0,ih⟩
   .rw[if_neg hm,if_neg hm,ih,<-Nat.pow_add]
    exact⟨U,by congr 1; omega⟩
def Fw (p:Pr)(n:Int):Prop:=p.hard.length<=20∧p.dists.length<=20∧(JY p=0->JU p.vars<=n)
theorem Fw.sm {n:Int}(h:Fw p n)(hn:n<=18):Sm51 p:=by
 refine⟨by have:=h.1; omega,by have:=h.2.1; omega,fun hv=>?_⟩;have P:=PV.of hv;obtain⟨h0,h1⟩:=oI P p.vars.length (jF _);rw[List.take_length] at h0 h1;have hb:=h.2.2 hv;unfold lft;rw[h1];have:(2:Nat)^(JU p.vars).toNat<=2^18:=Nat.pow_le_pow_right DK U;have e:(2:Nat)^18=262144:=rfl;omega
section
variable (G:Nat->AV)
theorem AIV (m m':SM)(a:List Int)(ha:a.length<=1048576)(h:Hp):PCall (En G) 16 [.sl m 1 (a.map Bins.qencI),.sl m' 1 (a.map Bins.qencI)] h (.bool true):=by
 refine acT Tryz.func16 4 ?_;refine AO (show((((a.length:Nat):Int)) != (((a.length:Nat):Int)))=false by simp) ?_;refine BB (fun n F H=>∃i,n+i=a.length∧F 0=.sl m 1 (a.map Bins.qencI)∧F 1=.sl m' 1 (a.map Bins.qencI)∧F 5=.n (i:Nat)∧H=h) a.length ⟨0,A8,AC,AC,AC,rfl⟩ ?_;rintro n F H ⟨i,hi,f0,f1,f5,rfl⟩;refine AQ f0 f5 ?_;refine BG ?_ ?_<;>intro hc
 .have hi':i<a.length:=BL hc
  have l1:BO jA H 3 (.fptr 1 (a.map Bins.qencI) i 0)=some (.n a[i]):=by rw[BP ag3 hi']; rfl
  refine Z ?_;refine DJ AZ ?_;refine NZ f0 f1 f5 hi' l1 (show(a[i] != a[i])=false by simp) (CW i) ?_;exact⟨n-1,U,i+1,U,A7,A7,A7,A7⟩
 .refine Z ?_
  exact⟨A7,A7⟩
theorem oO (x:Hl)(hn:x.bins.length<=1048576)(h:Hp):PCall (En G) 22 [.agg (EZ x),.agg (EZ x)] h (.bool true):=by
 refine ACalls.pure0 rfl ?_;refine acT Tryz.func22 4 ?_;have ga:=AL (x:=qF 3 [EZ x]) (AX h (qF 3 [EZ x]));have gb:=AX (h++[qF 3 [EZ x]]) (qF 3 [EZ x]);have hx:Sm.ext h (h++[qF 3 [EZ x]]++[qF 3 [EZ x]]):=((ext.rfl' h).app _).app _;refine AO @bxH ?_
 generalize h++[qF 3 [EZ x]]++[qF 3 [EZ x]]=H at ga gb hx|-
 have l0:∀ {b:Nat},H[b]?=some (qF 3 [EZ x])->BO jA H 4 (.ptr b 0 0)=some (.bool x.cross):=fun q=>by rw[BH ag4 q rfl]; rfl
 have l1:∀ {b:Nat},H[b]?=some (qF 3 [EZ x])->BO jA H 3 (.ptr b 0 1)=some (.n x.idx):=fun q=>by rw[BH ag3 q rfl]; rfl
 have l2:∀ {b:Nat},H[b]?=some (qF 3 [EZ x])->BO jA H 32 (.ptr b 0 2)=some (.sl x.bm 1 (x.bins.map Bins.qencI)):=fun q=>by rw[BH MO q rfl]; rfl
 have e0:H9 jA 4 .eql (.bool x.cross) (.bool x.cross)=some (.bool true):=by cases x.cross<;>kernel_rfl
 refine QZ (l0 ga) (l0 gb) e0 (l1 ga) (l1 gb) (show(x.idx==x.idx)=true by simp) (l2 ga) (l2 gb) ?_;refine(AIV G x.bm x.bm x.bins hn H).uu ?_;exact⟨A7,hx⟩
theorem AJK (e:Ex):(pre e).length<=1048576->∀(d:Int),0<=d->d<=100->∀h:Hp,QCall (En G) 74 [.agg (AY e),.n d] h (fun v=>∃z:Int,v=.n z∧1<=z∧z<=((pre e).length:Int)):=by
 induction e using Ex.induct with|h e ih=>?_
 intro hw d d0 d1 h;have hpl:=congrArg wH (pre_eq e);rw[zH] at hpl;have hal:e.args.length<=1048576:=by have:=WJ e.args; omega
 refine ACalls.pureQ (R:=fun v H=>Sm.ext h H∧∃z:Int,v=.n z∧1<=z∧z<=((pre e).length:Int)) 1 ?_ (fun v H ⟨a,z,b,c⟩=>⟨a,z,by rw[b]; rfl,c⟩);refine acT Tryz.func74 4 ?_;have ge:=AX h (qF 4 [AY e]);have hx:Sm.ext h (h++[qF 4 [AY e]]):=(ext.rfl' h).app _;refine AO @bxE ?_
 generalize h++[qF 4 [AY e]]=H1 at ge hx|-
 generalize h.length=eb at ge|-
 refine BB (fun n F H=>∃(j:Nat) (z:Int),n+j=e.args.length∧F 1=.n d∧F 2=.ptr eb 0 0∧F 5=.n z∧F 6=.n (j:Nat)∧H=H1∧1<=z∧z<=1+((E8 (e.args.take j)).length:Int)) e.args.length
  ⟨0,1,A8,AC,AC,AC,AC,rfl,U,by simp [E8]⟩ ?_
 rintro n F H ⟨j,z,hj,f1,f2,f5,f6,rfl,z1,z2⟩
 have hpj:(E8 (e.args.take j)).length<=(E8 e.args).length:=by
  have:E8 e.args=E8 (e.args.take j)++E8 (e.args.drop j):=by rw[<-MX,List.take_append_drop]
  rw[this,jS]; omega
 have fin:(1<=z∧z<=((pre e).length:Int)):=U;refine DI f2 f6 (TU ge) ?_;cases hc:decide (((j:Nat):Int)<((e.args.length:Nat):Int))
 .refine AQ hc f5 ?_
  exact⟨hx,z,A7,fin⟩
 have hj':j<e.args.length:=by have:=of_decide_eq_true hc; omega
 refine AQ hc f5 ?_;cases hz:decide (z<100)
 .refine DI hc hz f5 ?_
  exact⟨hx,z,A7,fin⟩
 refine AQ hz f1 ?_;cases hd:decide (d<30)
 .refine EO hc hz hd f5 ?_
  exact⟨hx,z,A7,fin⟩
 have hmem:e.args[j]∈e.args:=jH hj';have hpa:(pre e.args[j]).length<=1048576:=by have:=QJ hmem; omega
 have w1:IntKind.i64.wrap (d+1)=d+1:=wrap_i64 U U;have hdl:=of_decide_eq_true hd;simp -implicitDefEqProofs only[vQ,NK,CJ,↓reduceIte,jC,enP,PK,ZX,hc,hz,hd,f1,f2,f5,f6,TU ge,CG hj',CY OZ I8 EF hj',w1];refine(ih e.args[j] hmem hpa (d+1) U U H).use ?_;rintro r ⟨y,rfl,y1,y2⟩;have w2:IntKind.i64.wrap (z+y)=z+y:=wrap_i64 U U;refine DI f6 w2 (CW j) ?_;refine⟨n-1,U,j+1,z+y,U,A7,A7,A7,A7,A7,U,?_⟩;rw[LV _ _ hj',jS]; omega
theorem eA (e:Ex):(pre e).length<=1048576->∀(d:Int),0<=d->d<=100->∀h:Hp,Rk.SomeB (En G) 35 [.agg (AY e),.n d] h:=by
 induction e using Ex.induct with|h e ih=>?_
 intro hw d d0 d1 h;have hpl:=congrArg wH (pre_eq e);rw[zH] at hpl;have hal:e.args.length<=1048576:=by have:=WJ e.args; omega
 refine Rk.SomeB.of ?_;refine acT Tryz.func35 4 ?_;have ge:=AX h (qF 4 [AY e]);have hx:Sm.ext h (h++[qF 4 [AY e]]):=(ext.rfl' h).app _;refine AO @bxE ?_
 generalize h++[qF 4 [AY e]]=H1 at ge hx|-
 generalize h.length=eb at ge|-
 cases hd:decide (d>25)
 rotate_left
 .refine AO hd ?_
  exact⟨⟨_,A7⟩,hx⟩
 have hdl:=of_decide_eq_false hd;refine AO hd ?_;refine P7 (fun F H=>F 1=.n d∧F 2=.ptr eb 0 0∧(∃b,F 16=.bool b)∧H=H1) ?_ ?_
 .cases h0:(d==0)
  .refine AQ hd h0 ?_
   exact⟨A7,A7,⟨_,A7⟩,A7⟩
  .refine DI hd h0 (IW ge) ?_
   refine(AJK G e hw 0 U U H1).use ?_;rintro r ⟨y,rfl,y1,y2⟩;refine AQ hd h0 ?_;exact⟨A7,A7,⟨_,A7⟩,A7⟩
 rintro F H ⟨f1,f2,⟨b,f16⟩,rfl⟩;refine AO f16 ?_;refine BG ?_ ?_<;>intro hb
 .refine Z ?_
  exact⟨⟨_,A7⟩,hx⟩
 refine Z ?_
 refine BB (fun n F H'=>∃(j:Nat),n+j=e.args.length∧F 1=.n d∧F 2=.ptr eb 0 0∧F 5=.n (j:Nat)∧H'=H) e.args.length
  ⟨0,A8,DW f1,DW f2,AC,rfl⟩ ?_
 clear f1 f2 f16;rintro n F H ⟨j,hj,f1,f2,f5,rfl⟩;refine DI f2 f5 (TU ge) ?_;refine BG ?_ ?_<;>intro hc
 .have hj':j<e.args.length:=BL hc
  have hmem:e.args[j]∈e.args:=jH hj';have w1:IntKind.i64.wrap (d+1)=d+1:=wrap_i64 U U;simp -implicitDefEqProofs only[vQ,CJ,↓reduceIte,jC,enP,PK,ZX,f1,f2,f5,TU ge,CG hj',CY OZ I8 EF hj',w1];refine(ih e.args[j] hmem (by have:=QJ hmem; omega) (d+1) U U H).use fun b=>?_
  refine Z ?_;refine BG ?_ ?_<;>intro hb
  .refine Z ?_
   exact⟨⟨_,A7⟩,hx⟩
  .refine AQ f5 (CW j) ?_
   exact⟨n-1,U,j+1,U,A7,A7,A7,A7⟩
 .refine Z ?_
  exact⟨⟨_,A7⟩,hx⟩
end
section
variable (G:Nat->AV)
theorem AC9 (p:Pr)(hs:PrS p)(h:Hp):PCall (En G) 73 [.agg (CX p)] h (.sl (Cov.nm (fV p)) 1 ((fV p).map Bins.qencI)):=by
 have hvl:=hs.vars;refine KT Cov.frzI ?_;refine acT Tryz.func73 2 ?_;have ge:=AX h (qF 5 [CX p]);have hx:Sm.ext h (h++[qF 5 [CX p]]):=(ext.rfl' h).app _;refine AO @SS ?_
 generalize h++[qF 5 [CX p]]=H0 at ge hx|-
 refine AO (WS ge) ?_;refine(Bd.valid_ref G p hs H0).use ?_;unfold fV;cases bv:(JY p != 0)
 case true =>
  have q:JY p≠0:=BL bv;refine AO bv ?_;rw[if_neg q];exact⟨hx,outG.nil _ _ _ _⟩
 have hv:JY p=0:=BL bv;rw[if_pos hv];refine AO bv ?_
 refine BB (fun n F H=>∃i u,n+i=p.vars.length∧F 1=.ptr h.length 0 0∧F 3=u∧F 4=.n (i:Nat)∧Sm.ext H0 H∧outG 1 Bins.qencI H0 (aV p.vars i) u H) p.vars.length
  ⟨0,.sl .nil 0 [],A8,AC,AC,AC,ext.rfl' _,outG.nil _ _ _ _⟩ ?_
 rintro n F H ⟨i,u,hi,f1,f3,f4,hxH,ho⟩;have ge1:=EJ hxH ge;refine DI f1 f4 (nM ge1) ?_;refine DU ?_ ?_<;>intro hi'
 .have lm:BO jA H 3 (.fptr 4 (p.vars.map encV) i 2)=some (.n p.vars[i].mode):=by rw[BP ag3 hi']; rfl
  have hrl:=iZ p.vars i;refine Y6 f1 f4 (nM ge1) hi' lm ?_;cases bm:(p.vars[i].mode != 0)
  .have hm:p.vars[i].mode=0:=BL bm
   have e:aV p.vars (i+1)=aV p.vars i:=by simp only[aV,jI hi']; rw[if_neg (by simp [hm]),jO]
   refine AQ f4 (CW i) ?_;exact⟨n-1,U,i+1,u,U,A7,A7,A7,hxH,by rw[e]; exact ho⟩
  .have hm:p.vars[i].mode≠0:=BL bm
   have e:aV p.vars (i+1)=aV p.vars i++[((i:Nat):Int)]:=by simp only[aV,jI hi']; rw[if_pos hm]
   obtain⟨v',H',ha,ho',_,hx',_,_⟩:=ho.append (P:=jA) fP sz3 AH6 uN U U hxH ((i:Nat):Int);refine JL f3 f4 @bsI ha (CW i) ?_;exact⟨n-1,U,i+1,v',U,A7,A7,A7,hx',by rw[e]; exact ho'⟩
 .rw[show i=p.vars.length by omega] at ho
  refine AO f3 ?_;exact⟨hx.trans hxH,ho.base hx.le⟩
theorem APL (p:Pr)(hs:PrS p)(h:Hp):PCall (En G) 34 [.agg (CX p)] h (.n (if JY p=0 then JU p.vars else 0)):=by
 have hvl:=hs.vars;refine ACalls.pure0 rfl ?_;refine acT Tryz.func34 2 ?_;have ge:=AX h (qF 5 [CX p]);have hx:Sm.ext h (h++[qF 5 [CX p]]):=(ext.rfl' h).app _;refine AO @SS ?_
 generalize h++[qF 5 [CX p]]=H0 at ge hx|-
 refine AO (WS ge) ?_;refine(AC9 G p hs H0).use ?_
 have hrl:(fV p).length<=1048576:=by
  unfold fV;split
  .have:=iZ p.vars p.vars.length; omega
  .simp
 have hin:∀z∈fV p,∃i:Nat,z=(i:Int)∧i<p.vars.length:=fun z hz=>by
  unfold fV at hz;split at hz
  .exact AF4 _ _ z hz
  .cases hz
 have hwid:fV p≠[]->∀v∈p.vars,1<=v.width∧v.width<=8:=fun hne v hv=>by
  have q:JY p=0:=by
   apply Classical.byContradiction;intro q;unfold fV at hne;rw[if_neg q] at hne;exact hne rfl
  have:=U1 ((PV.of q).vr v hv);exact⟨this.2.1,this.2.2.1⟩
 have hsum:((fV p).map (cP p.vars)).sum=if JY p=0 then JU p.vars else 0:=by
  unfold fV;split
  .rw[xM _ _ (jF _),List.take_length]
  .rfl
 rw[<-hsum]
 generalize fV p=L at hrl hin hwid|-
 refine Z ?_
 refine BB (fun n F H=>∃i,n+i=L.length∧F 1=.ptr h.length 0 0∧F 3=.sl (Cov.nm L) 1 (L.map Bins.qencI)∧F 4=.n ((L.take i).map (cP p.vars)).sum∧F 5=.n (i:Nat)∧H=H0) L.length
  ⟨0,A8,AC,AC,AC,AC,rfl⟩ ?_
 rintro n F H ⟨i,hi,f1,f3,f4,f5,rfl⟩;refine AQ f3 f5 ?_;refine DU ?_ ?_<;>intro hi'
 .obtain⟨j,hj,hjl⟩:=hin _ (jH hi')
  have hw:=hwid (fun q=>by rw[q] at hi'; cases hi');have lz:BO jA H 3 (.fptr 1 (L.map Bins.qencI) i 0)=some (.n (j:Nat)):=by rw[BP ag3 hi']; show some (AV.int .i64 L[i])=_; rw[hj]
  have lw:BO jA H 3 (.fptr 4 (p.vars.map encV) j 1)=some (.n p.vars[j].width):=by rw[BP ag3 hjl]; rfl
  have hwj:=hw _ (jH hjl);obtain⟨s0,s1⟩:=oK hw (L.take i);rw[jU] at s1
  have w1:IntKind.i64.wrap (((L.take i).map (cP p.vars)).sum+p.vars[j].width)=((L.take (i+1)).map (cP p.vars)).sum:=by
   rw[wrap_i64 U U,jW hi',qL,List.sum_append];have:cP p.vars L[i]=p.vars[j].width:=by unfold cP; rw[hj,qN,jI hjl]
   simp [this]
  refine Z ?_;refine DJ AZ ?_;refine aE f1 f3 f4 f5 (nM ge) hi' lz hjl lw w1 (CW i) ?_;exact⟨n-1,U,i+1,U,A7,A7,A7,A7,A7⟩
 .rw[jJ U] at f4
  refine AO f4 ?_;exact⟨A7,hx⟩
theorem AIP (p:Pr)(hs:PrS p)(h:Hp):QCall (En G) 33 [.agg (CX p)] h (fun v=>∃b,v=.bool b∧(b=true->p.hard.length<=20∧p.dists.length<=20)):=by
 have hvl:=hs.vars;have hel:=hs.exprs;have hdl:=hs.dists;have hgl:=hs.groups;have hwt:=hs.wts;have hpl:∀e∈p.hard++p.soft,(pre e).length<=1048576:=fun e he=>by have:=VA e; have:=hwt e he; omega
 refine ACalls.pureQ (R:=fun v H=>Sm.ext h H∧∃b,v=.bool b∧(b=true->p.hard.length<=20∧p.dists.length<=20)) 1 ?_ (fun v H ⟨a,b,c,d⟩=>⟨a,b,by rw[c]; rfl,d⟩);refine acT Tryz.func33 2 ?_;have gp:=AX h (qF 5 [CX p]);have hx:Sm.ext h (h++[qF 5 [CX p]]):=(ext.rfl' h).app _;refine AO @SS ?_
 generalize h++[qF 5 [CX p]]=H0 at gp hx|-
 have l0:=nM gp;have l1:BO jA H0 23 (.ptr h.length 0 1)=some (.sl p.hm 4 (p.hard.map AY)):=by rw[BH L6 gp (row:=CX p) rfl]; rfl
 have l2:BO jA H0 23 (.ptr h.length 0 2)=some (.sl p.sm 4 (p.soft.map AY)):=by rw[BH L6 gp (row:=CX p) rfl]; rfl
 have l3:BO jA H0 24 (.ptr h.length 0 3)=some (.sl p.dm 2 (p.dists.map IJ)):=by rw[BH AP5 gp (row:=CX p) rfl]; rfl
 have l4:BO jA H0 25 (.ptr h.length 0 4)=some (.sl p.gm 1 (p.groups.map QR)):=by rw[BH XN gp (row:=CX p) rfl]; rfl
 have no:∀ {P:Prop},((false=true)->P):=fun q=>by cases q
 refine AO l0 ?_;cases b0:decide (((p.vars.length:Nat):Int)>20)
 rotate_left
 .refine AO b0 ?_
  exact⟨hx,_,A7,no⟩
 refine DI @dN b0 l1 ?_;cases b1:decide (((p.hard.length:Nat):Int)>20)
 rotate_left
 .refine AQ b0 b1 ?_
  exact⟨hx,_,A7,no⟩
 refine EO @lD b0 b1 l2 ?_;cases b2:decide (((p.soft.length:Nat):Int)>20)
 rotate_left
 .refine DI b0 b1 b2 ?_
  exact⟨hx,_,A7,no⟩
 refine EO b0 b1 b2 l3 ?_;cases b3:decide (((p.dists.length:Nat):Int)>20)
 rotate_left
 .refine EO b0 b1 b2 b3 ?_
  exact⟨hx,_,A7,no⟩
 refine MR @lC b0 b1 b2 b3 l4 ?_;cases b4:decide (((p.groups.length:Nat):Int)>20)
 rotate_left
 .refine JL b0 b1 b2 b3 b4 ?_
  exact⟨hx,_,A7,no⟩
 refine JL b0 b1 b2 b3 b4 ?_;have q1:=of_decide_eq_false b1;have q3:=of_decide_eq_false b3;have yes:p.hard.length<=20∧p.dists.length<=20:=U;clear b0 b1 b2 b3 b4;refine D9 0 (fun F H=>F 1=.ptr h.length 0 0∧H=H0) (fun F H=>F 2=.bool false∧H=H0) ?_ ?_ (fun F H ⟨f2,e⟩=>by subst e; refine AO f2 ?_; exact⟨hx,_,A7,no⟩)
 .refine BB (fun n F H=>∃j,n+j=p.hard.length∧F 1=.ptr h.length 0 0∧F 3=.n (j:Nat)∧H=H0) p.hard.length ⟨0,A8,AC,AC,rfl⟩ ?_
  rintro n F H ⟨j,hj,f1,f3,rfl⟩;refine EO @dN f1 f3 l1 ?_;refine BG ?_ ?_<;>intro hc
  .have hj':j<p.hard.length:=BL hc
   simp -implicitDefEqProofs only[vQ,CJ,↓reduceIte,jC,enP,PK,dN,f1,f3,l1,CG hj',CY OZ I8 EF hj'];refine(eA G p.hard[j] (hpl _ (List.mem_append_left _ (jH hj'))) 0 U U H).use fun b=>?_
   refine Z ?_;refine BG ?_ ?_<;>intro hb
   .refine Z ?_
    exact⟨A7,A7⟩
   .refine AQ f3 (CW j) ?_
    exact⟨n-1,U,j+1,U,A7,A7,A7⟩
  .refine Z ?_
   exact⟨A7,A7⟩
 rintro F H ⟨f1,rfl⟩;refine Z ?_;refine D9 2 (fun F H'=>F 1=.ptr h.length 0 0∧H'=H) (fun F H'=>F 2=.bool false∧H'=H) ?_ ?_ (fun F H ⟨f2,e⟩=>by subst e; refine AO f2 ?_; exact⟨hx,_,A7,no⟩)
 .refine BB (fun n F H'=>∃j,n+j=p.soft.length∧F 1=.ptr h.length 0 0∧F 4=.n (j:Nat)∧H'=H) p.soft.length ⟨0,A8,DW f1,AC,rfl⟩ ?_
  clear f1;rintro n F H ⟨j,hj,f1,f4,rfl⟩;refine EO @lD f1 f4 l2 ?_;refine BG ?_ ?_<;>intro hc
  .have hj':j<p.soft.length:=BL hc
   simp -implicitDefEqProofs only[vQ,CJ,↓reduceIte,jC,enP,PK,lD,f1,f4,l2,CG hj',CY OZ I8 EF hj'];refine(eA G p.soft[j] (hpl _ (List.mem_append_right _ (jH hj'))) 0 U U H).use fun b=>?_
   refine Z ?_;refine BG ?_ ?_<;>intro hb
   .refine Z ?_
    exact⟨A7,A7⟩
   .refine AQ f4 (CW j) ?_
    exact⟨n-1,U,j+1,U,A7,A7,A7⟩
  .refine Z ?_
   exact⟨A7,A7⟩
 clear f1;rintro F H ⟨f1,rfl⟩;refine Z ?_;refine D9 4 (fun F H'=>F 1=.ptr h.length 0 0∧H'=H) (fun F H'=>F 2=.bool false∧H'=H) ?_ ?_ (fun F H ⟨f2,e⟩=>by subst e; refine AO f2 ?_; exact⟨hx,_,A7,no⟩)
 .refine BB (fun n F H'=>∃j,n+j=p.dists.length∧F 1=.ptr h.length 0 0∧F 5=.n (j:Nat)∧H'=H) p.dists.length ⟨0,A8,DW f1,AC,rfl⟩ ?_
  clear f1;rintro n F H ⟨j,hj,f1,f5,rfl⟩;refine DI f1 f5 l3 ?_;refine BG ?_ ?_<;>intro hc
  .have hj':j<p.dists.length:=BL hc
   have lw:BO jA H 120 (.fptr 2 (p.dists.map IJ) j 1)=some (.sl p.dists[j].wm 4 (p.dists[j].ws.map IZ)):=by rw[BP AHX hj']; rfl
   refine cK yV f1 f5 l3 hj' lw ?_;refine BG ?_ ?_<;>intro hb
   .refine Z ?_
    exact⟨A7,A7⟩
   .refine AQ f5 (CW j) ?_
    exact⟨n-1,U,j+1,U,A7,A7,A7⟩
  .refine Z ?_
   exact⟨A7,A7⟩
 clear f1;rintro F H ⟨f1,rfl⟩;refine Z ?_;refine BB (fun n F H'=>∃j,n+j=p.groups.length∧F 1=.ptr h.length 0 0∧F 6=.n (j:Nat)∧H'=H) p.groups.length ⟨0,A8,DW f1,AC,rfl⟩ ?_;clear f1;rintro n F H ⟨j,hj,f1,f6,rfl⟩;refine EO @lC f1 f6 l4 ?_;refine BG ?_ ?_<;>intro hc
 .have hj':j<p.groups.length:=BL hc
  have lw:BO jA H 32 (.fptr 1 (p.groups.map QR) j 0)=some (.sl p.groups[j].m 1 (p.groups[j].l.map Bins.qencI)):=by rw[BP MO hj']; rfl
  refine cK @lC f1 f6 l4 hj' lw ?_;refine BG ?_ ?_<;>intro hb
  .refine Z ?_
   exact⟨hx,_,A7,no⟩
  .refine AQ f6 (CW j) ?_
   exact⟨n-1,U,j+1,U,A7,A7,A7⟩
 .refine Z ?_
  exact⟨hx,_,A7,fun _=>yes⟩
theorem ASU (p:Pr)(hs:PrS p)(n:Int)(h:Hp):QCall (En G) 9 [.agg (CX p),.n n] h (fun v=>∃b,v=.bool b∧(b=true->Fw p n)):=by
 refine ACalls.pureQ (R:=fun v H=>Sm.ext h H∧∃b,v=.bool b∧(b=true->Fw p n)) 1 ?_ (fun v H ⟨a,b,c,d⟩=>⟨a,b,by rw[c]; rfl,d⟩);refine acT Tryz.func9 4 ?_;have gp:=AX h (qF 5 [CX p]);have hx:Sm.ext h (h++[qF 5 [CX p]]):=(ext.rfl' h).app _;refine AO @SS ?_
 generalize h++[qF 5 [CX p]]=H0 at gp hx|-
 refine AO (WS gp) ?_;refine(AIP G p hs H0).use ?_;rintro r ⟨b,rfl,hb⟩;cases b
 .refine Z ?_
  exact⟨hx,_,A7,fun q=>by cases q⟩
 refine AO (WS gp) ?_;refine(APL G p hs H0).uu ?_;refine⟨hx,_,A7,fun q=>⟨(hb rfl).1,(hb rfl).2,fun hv=>?_⟩⟩;rw[if_pos hv] at q;simpa using q
theorem AIL (l:List Rs)(s:SM)(hl:l.length<=1048576)(h:Hp):Rk.SomeB (En G) 36 [.sl s 1 (l.map encS)] h:=by
 refine Rk.SomeB.of ?_;refine acT Tryz.func36 2 ?_;refine Z ?_;refine BB (fun n F H'=>∃j,n+j=l.length∧F 0=.sl s 1 (l.map encS)∧F 3=.n (j:Nat)∧H'=h) l.length ⟨0,A8,AC,AC,rfl⟩ ?_;rintro n F H ⟨j,hj,f0,f3,rfl⟩;refine AQ f0 f3 ?_;refine BG ?_ ?_<;>intro hc
 .have hj':j<l.length:=BL hc
  simp -implicitDefEqProofs only[vQ,CJ,↓reduceIte,jC,enP,kO,sY,f0,f3,CG hj',BP QX hj',lH,jL];refine BG ?_ ?_<;>intro hb
  .refine Z ?_
   exact⟨⟨_,A7⟩,ext.rfl' _⟩
  .refine AQ f3 (CW j) ?_
   exact⟨n-1,U,j+1,U,A7,A7,A7⟩
 .refine Z ?_
  exact⟨⟨_,A7⟩,ext.rfl' _⟩
theorem AR5 (m:Mo)(hm:MoOk m)(h:Hp):QCall (En G) 10 [.agg (CZ m)] h (fun v=>∃b,v=.bool b∧(b=true->m.pts.length<=4∧m.crs.length<=3)):=by
 refine ACalls.pureQ (R:=fun v H=>Sm.ext h H∧∃b,v=.bool b∧(b=true->m.pts.length<=4∧m.crs.length<=3)) 1 ?_ (fun v H ⟨a,b,c,d⟩=>⟨a,b,by rw[c]; rfl,d⟩);refine acT Tryz.func10 2 ?_;have gm:=AX h (qF 2 [CZ m]);have hx:Sm.ext h (h++[qF 2 [CZ m]]):=(ext.rfl' h).app _;have np:=hm.np;have nc:=hm.nc;refine AO @bxM ?_
 generalize h++[qF 2 [CZ m]]=H0 at gm hx|-
 refine D9 0 (fun F H=>F 1=.ptr h.length 0 0∧Sm.ext H0 H) (fun F H=>F 2=.bool false∧Sm.ext H0 H) ?_ ?_ (fun F H ⟨f2,e⟩=>by refine AO f2 ?_; exact⟨hx.trans e,false,A7,fun q=>by cases q⟩)
 .refine BB (fun n F H=>∃k,n+k=m.pts.length∧F 1=.ptr h.length 0 0∧F 3=.n (k:Nat)∧Sm.ext H0 H) m.pts.length ⟨0,A8,AC,AC,ext.rfl' _⟩ ?_
  rintro n F H ⟨k,hk,f1,f3,he⟩;have gm1:=EJ he gm;refine DI f1 f3 (ZP gm1) ?_;cases hc:decide (((k:Nat):Int)<((m.pts.length:Nat):Int))
  .refine AO hc ?_
   exact⟨A7,he⟩
  have hk':k<m.pts.length:=by have:=of_decide_eq_true hc; omega
  have hpo:=hm.pts _ (jH hk');refine AQ hc f3 ?_;refine BG ?_ ?_<;>intro hc5
  rotate_left
  .refine Z ?_
   exact⟨A7,he⟩
  simp -implicitDefEqProofs only[vQ,ED,CJ,↓reduceIte,jC,enP,QM,KQ,ZN,JV,f1,f3,ZP gm1,CG hk',BP OB hk',NI,jL];cases h6:decide (((m.pts[k].bins.length:Nat):Int)>6)
  rotate_left
  .refine AO h6 ?_
   exact⟨A7,he⟩
  simp -implicitDefEqProofs only[vQ,ED,CJ,↓reduceIte,jC,enP,QM,KQ,dK,h6,f1,f3,ZP gm1,CG hk',Rk.ldPE hk'];refine(eA G m.pts[k].ex (by have:=VA m.pts[k].ex; have:=hpo.ex; omega) 0 U U H).use fun b=>?_
  cases b
  .refine AO h6 ?_
   exact⟨A7,he⟩
  refine AO h6 ?_;refine D9 2 (fun F H'=>F 1=.ptr h.length 0 0∧F 3=.n (k:Nat)∧Sm.ext H0 H') (fun F H'=>F 2=.bool false∧Sm.ext H0 H') ?_ ?_ (fun F H ⟨f2,e⟩=>by refine Z ?_; exact⟨A7,e⟩)
  .refine BB (fun n F H'=>∃j,n+j=m.pts[k].bins.length∧F 1=.ptr h.length 0 0∧F 3=.n (k:Nat)∧F 4=.n (j:Nat)∧Sm.ext H0 H') m.pts[k].bins.length ⟨0,A8,DW f1,DW f3,AC,he⟩ ?_
   clear f1 f3 he gm1;rintro n F H ⟨j,hj,f1,f3,f4,he⟩;have gm1:=EJ he gm;simp -implicitDefEqProofs only[vQ,CJ,↓reduceIte,jC,enP,QM,KQ,ZN,JV,f1,f3,f4,ZP gm1,CG hk',BP OB hk',NI,jL];refine BG ?_ ?_<;>intro hd
   .have hj':j<m.pts[k].bins.length:=BL hd
    have hbo:=hpo.bins _ (jH hj');have gb:=AX H (qF 4 [H7 m.pts[k].bins[j]]);have he1:=he.app [qF 4 [H7 m.pts[k].bins[j]]];simp -implicitDefEqProofs only[vQ,CJ,↓reduceIte,jC,enP,QM,KQ,WU,JV,AD6,jQ,f1,f3,f4,ZP gm1,CG hk',BP OB hk',NI,CG hj',CY gJ ZB KE hj',Cov.al79,Cov.st79 _ _ [.str ⟨#[]⟩,.n 0,.sl .nil 0 [],.sl .nil 0 []] rfl]
    generalize H++[qF 4 [H7 m.pts[k].bins[j]]]=H1 at gb he1|-
    have b2:BO jA H1 84 (.ptr H.length 0 2)=some (.sl m.pts[k].bins[j].ranges.m 2 (m.pts[k].bins[j].ranges.l.map encR)):=by rw[BH QX gb rfl]; rfl
    have b3:BO jA H1 85 (.ptr H.length 0 3)=some (.sl m.pts[k].bins[j].sm 1 (m.pts[k].bins[j].steps.map encS)):=by rw[BH VM gb rfl]; rfl
    refine AO b2 ?_;cases c1:decide (((m.pts[k].bins[j].ranges.l.length:Nat):Int)>6)
    rotate_left
    .refine AO c1 ?_
     exact⟨A7,he1⟩
    refine AQ c1 b3 ?_;cases c2:decide (((m.pts[k].bins[j].steps.length:Nat):Int)>8)
    rotate_left
    .refine AQ c1 c2 ?_
     exact⟨A7,he1⟩
    have hs8:=of_decide_eq_false c2;refine DI c1 c2 b3 ?_;refine(AIL G m.pts[k].bins[j].steps m.pts[k].bins[j].sm U H1).use fun b=>?_
    cases b
    .refine AQ c1 c2 ?_
     exact⟨A7,he1⟩
    .refine EO c1 c2 f4 (wrap_succ (show j<9223372036854775807 by have:=hpo.num; omega)) ?_
     exact⟨n-1,U,j+1,U,A7,A7,A7,he1⟩
   .refine Z ?_
    exact⟨A7,A7,he⟩
  clear f1 f3 he gm1;rintro F H ⟨f1,f3,he⟩;refine AQ f3 (CW k) ?_;exact⟨n-1,U,k+1,U,A7,A7,he⟩
 rintro F H ⟨f1,he⟩;refine Z ?_;refine D9 4 (fun F H=>F 1=.ptr h.length 0 0∧Sm.ext H0 H) (fun F H=>F 2=.bool false∧Sm.ext H0 H) ?_ ?_ (fun F H ⟨f2,e⟩=>by refine AO f2 ?_; exact⟨hx.trans e,false,A7,fun q=>by cases q⟩)
 .refine BB (fun n F H=>∃k,n+k=m.crs.length∧F 1=.ptr h.length 0 0∧F 6=.n (k:Nat)∧Sm.ext H0 H) m.crs.length ⟨0,A8,DW f1,AC,he⟩ ?_
  clear f1 he;rintro n F H ⟨k,hk,f1,f6,he⟩;have gm1:=EJ he gm;refine DI f1 f6 (sW gm1) ?_;cases hc:decide (((k:Nat):Int)<((m.crs.length:Nat):Int))
  .refine AO hc ?_
   exact⟨A7,he⟩
  have hk':k<m.crs.length:=by have:=of_decide_eq_true hc; omega
  refine AQ hc f6 ?_;refine BG ?_ ?_<;>intro hc5
  rotate_left
  .refine Z ?_
   exact⟨A7,he⟩
  simp -implicitDefEqProofs only[vQ,ED,CJ,↓reduceIte,jC,enP,WV,OW,VY,OA,f1,f6,sW gm1,CG hk',BP MO hk',fB,jL];cases h5:decide (((m.crs[k].pts.length:Nat):Int)>5)
  rotate_left
  .refine AO h5 ?_
   exact⟨A7,he⟩
  simp -implicitDefEqProofs only[vQ,ED,CJ,↓reduceIte,jC,enP,ADS,WV,OW,dJ,h5,f1,f6,sW gm1,CG hk',BP XN hk',AA7,jL];refine BG ?_ ?_<;>intro hb
  .refine Z ?_
   exact⟨A7,he⟩
  .refine AQ f6 (CW k) ?_
   exact⟨n-1,U,k+1,U,A7,A7,he⟩
 clear f1 he;rintro F H ⟨f1,he⟩;have gm1:=EJ he gm;refine AQ f1 (ZP gm1) ?_;cases c1:decide (((m.pts.length:Nat):Int)<=4)
 .refine AO c1 ?_
  exact⟨hx.trans he,false,A7,fun q=>by cases q⟩
 .refine DI c1 f1 (sW gm1) ?_
  have:=of_decide_eq_true c1;exact⟨hx.trans he,_,rfl,fun q=>⟨U,by have:=of_decide_eq_true q; omega⟩⟩
end
abbrev aN:ByteArray:=⟨#[97]⟩
def AUP:Ex:=.mk 17 0 ⟨#[]⟩ .full [I9 aN,cE 3]
def QI:Pr:=⟨.full,[⟨aN,2,1,0⟩],.full,[AUP],.nil,[],.nil,[],.full,[⟨.full,[0]⟩]⟩
abbrev WR:List AV:=[.n 17,.n 0,.str ⟨#[]⟩,.sl .full 4 [OE aN,lY 1 3]]
abbrev kB:List AV:=[.sl .full 4 [[.str aN,.n 2,.n 1,.n 0]],.sl .full 4 [WR],.sl .nil 0 [],.sl .nil 0 [],.sl .full 1 [[.sl .full 1 [[.n 0]]]]]
theorem AMX {m:SM}{k:Nat}{a a':List AV}(h1:CvRow a a'):Cv (.sl m k [a]) (.sl m k [a']):=Cv.rows rfl fun i r r' e1 e2=>by
 match i,e1,e2 with
 | 0,e1,e2=>cases e1; cases e2; exact h1
 | _+1,e1,_=>cases e1
theorem ANH:CvRow WR (AY AUP):=by
 show CvRow WR (AY (.mk 17 0 ⟨#[]⟩ .full [I9 aN,cE 3]));rw[AOY];exact CvRow.cons rfl (Cv.refl _) (CvRow.cons rfl (Cv.refl _) (CvRow.cons rfl (Cv.refl _) (CvRow.cons rfl (AVV (vI aN) (ATO 3)) CvRow.nil)))
theorem AMO:CvR (.agg kB) (.agg (CX QI)) :=
 CvR.agg (CvRL.cons (CvR.refl _) (CvRL.cons (CvR.sl (AMX ANH)) (CvRL.cons (CvR.sl (Cv.nil 0 4)) (CvRL.cons (CvR.sl (Cv.nil 0 2)) (CvRL.cons (CvR.refl _) CvRL.nil)))))
def nmN (i:Nat):ByteArray:=⟨#[110,UInt8.ofNat (48+i)]⟩
def APP (i:Nat):Bin:=⟨nmN i,0,⟨.full,[⟨i,i⟩]⟩,.nil,[]⟩
def eB (i:Nat):List AV:=[.str (nmN i),.n 0,.sl .full 2 [[.n (i:Nat),.n (i:Nat)]],.sl .nil 0 []]
theorem ATT (i:Nat):CvRow (eB i) (H7 (APP i)):=CvRow.cons rfl (Cv.refl _) (CvRow.cons rfl (Cv.refl _) (CvRow.cons rfl (Cv.refl _) (CvRow.cons rfl (Cv.nil 0 1) CvRow.nil)))
theorem AZ1:Frz eB:=fun _ _ _ _=>⟨rfl,rfl⟩
def LW:Mo:=⟨.any,[⟨aN,I9 aN,.any,(zI 4).map APP⟩],.nil,[]⟩
abbrev AWI:List AV:=[.sl .any 6 [[.str aN,.n 2,.n 0,.str aN,.sl .nil 0 [],.sl .any 4 ((zI 4).map eB)]],.sl .nil 0 []]
theorem ARX:CvR (.agg AWI) (.agg (CZ LW)):=by
 have hb:Cv (.sl .any 4 ((zI 4).map eB)) (.sl .any 4 (((zI 4).map APP).map H7)):=by
  rw[List.map_map]; exact Cv.map fun i _=>ATT i
 have hp:CvRow [.str aN,.n 2,.n 0,.str aN,.sl .nil 0 [],.sl .any 4 ((zI 4).map eB)] (FP ⟨aN,I9 aN,.any,(zI 4).map APP⟩):=by
  unfold FP;rw[EY];exact CvRow.cons rfl (Cv.refl _) (CvRow.cons rfl (Cv.refl _) (CvRow.cons rfl (Cv.refl _) (CvRow.cons rfl (Cv.refl _) (CvRow.cons rfl (Cv.nil 0 4) (CvRow.cons rfl hb CvRow.nil)))))
 exact CvR.agg (CvRL.cons (CvR.sl (AMX hp)) (CvRL.cons (CvR.sl (Cv.nil 0 3)) CvRL.nil))
def hol (i:Int):Hl:=⟨false,0,.full,[i]⟩
theorem AX6:OU sdP FD QI LW (hol 2)=0∧AI6 sdP FD QI LW (hol 2)=[[2]]:=by decide +kernel
theorem A2C:OU sdP FD QI LW (hol 3)=11:=by decide +kernel
theorem sM:PrS QI:=⟨by decide +kernel,by decide +kernel,by decide +kernel,by decide +kernel,by decide +kernel,by decide +kernel,by decide +kernel,by decide +kernel⟩
theorem sN:Sm51 QI:=Fw.sm (n:=10) (by unfold Fw; decide +kernel) DK
theorem gS:MoOk LW:=⟨by decide +kernel,by decide +kernel,fun p hp=>by
 rw[qP.1 hp];refine⟨by decide +kernel,by decide +kernel,by decide +kernel,fun b hb=>?_⟩;obtain⟨i,hi,rfl⟩:=List.mem_map.1 hb
 exact⟨jB rfl,jB rfl,jB rfl,fun l hl=>by
  have:l=⟨.full,[⟨i,i⟩]⟩:=by simpa [sets,APP] using hl
  rw[this]; exact jB rfl⟩,fun c hc=>by cases hc⟩
theorem AS3:CvOk (emV LW):=⟨by decide +kernel,by decide +kernel,by decide +kernel,by decide +kernel⟩
theorem A3Z (h:Hp):F9 jA h 27=some (.ptr h.length 0 0,h++[qF 5 [[.sl .nil 0 [],.sl .nil 0 [],.sl .nil 0 [],.sl .nil 0 [],.sl .nil 0 []]]]):=FC (row:=[.sl .nil 0 [],.sl .nil 0 [],.sl .nil 0 [],.sl .nil 0 [],.sl .nil 0 []]) AZ
theorem A3Y (h:Hp):F9 jA h 31=some (.ptr h.length 0 0,h++[qF 2 [[.sl .nil 0 [],.sl .nil 0 []]]]):=FC (row:=[.sl .nil 0 [],.sl .nil 0 []]) AZ
abbrev ptZ:List AV:=[.str ⟨#[]⟩,.n 0,.n 0,.str ⟨#[]⟩,.sl .nil 0 [],.sl .nil 0 []]
abbrev ptW (v:AV):List AV:=[.str aN,.n 2,.n 0,.str aN,.sl .nil 0 [],v]
abbrev nms:List AV:=[.str (nmN 0),.str (nmN 1),.str (nmN 2),.str (nmN 3)]
theorem A1I (h:Hp):F9 jA h 82=some (.ptr h.length 0 0,h++[qF 6 [ptZ]]):=FC (row:=ptZ) AZ
theorem A1O (h:Hp):F9 jA h 143=some (.ptr h.length 0 0,h++[qF 4 [[.str ⟨#[]⟩,.str ⟨#[]⟩,.str ⟨#[]⟩,.str ⟨#[]⟩]]]):=FC (row:=[.str ⟨#[]⟩,.str ⟨#[]⟩,.str ⟨#[]⟩,.str ⟨#[]⟩]) AZ
section
variable (G:Nat->AV)
theorem WI (h:Hp):PCall (En G) 37 [] h (.agg (CX QI)):=by
 refine PCall.res (r:=.agg kB) ?_ AMO;refine UC 3 (fun n H=>rfl) ?_;refine acL Tryz.func37 [.cell 0 27] ?_;have g0:=AL (x:=qF 4 [WR]) (AL (x:=qF 4 [OE aN]) (AX h (qF 5 [[.sl .nil 0 [],.sl .nil 0 [],.sl .nil 0 [],.sl .nil 0 [],.sl .nil 0 []]])));have g1:=AX (h++[qF 5 [[.sl .nil 0 [],.sl .nil 0 [],.sl .nil 0 [],.sl .nil 0 [],.sl .nil 0 []]]]) (qF 4 [OE aN]);have g2:=AX (h++[qF 5 [[.sl .nil 0 [],.sl .nil 0 [],.sl .nil 0 [],.sl .nil 0 [],.sl .nil 0 []]]]++[qF 4 [OE aN]]) (qF 4 [WR]);have hx:Sm.ext h (h++[qF 5 [[.sl .nil 0 [],.sl .nil 0 [],.sl .nil 0 [],.sl .nil 0 [],.sl .nil 0 []]]]++[qF 4 [OE aN]]++[qF 4 [WR]]):=(((ext.rfl' h).app _).app _).app _;have rV:R4 (OE aN):=⟨_,_,_,_,_,_,rfl⟩;have rL:R4 WR:=⟨_,_,_,_,_,_,rfl⟩;have b131:IR jA 131 [(0,.str aN),(1,.n 2),(2,.n 1)]=some (.agg [.str aN,.n 2,.n 1,.n 0]):=AZ;have s22:∀H:Hp,C9 jA false H 22 1 [(0,.agg [.str aN,.n 2,.n 1,.n 0])]=some (.sl .full 4 [[.str aN,.n 2,.n 1,.n 0]],H):=fun H=>AZ
 have s23:∀H:Hp,C9 jA false H 23 1 [(0,.agg WR)]=some (.sl .full 4 [WR],H):=fun H=>AZ
 have s25:∀H:Hp,C9 jA false H 25 1 [(0,.sl .full 1 [Bins.qencI 0])]=some (.sl .full 1 [[.sl .full 1 [[.n 0]]]],H):=fun H=>AZ
 have b27:IR jA 27 [(0,.sl .full 4 [[.str aN,.n 2,.n 1,.n 0]]),(1,.sl .full 4 [WR]),(4,.sl .full 1 [[.sl .full 1 [[.n 0]]]])]=some (.agg kB):=AZ;simp -implicitDefEqProofs only[vQ,LC,KD,CJ,eD,P9,GH,↓reduceIte,jC,enP,jQ,A3Z,ATV,al79,AL6 _ rV,KY g1 rfl,AHS,A3P _ rV (⟨_,_,_,_,_,_,rfl⟩:R4 (lY 1 3)),A05,AL6 _ rL]
 generalize h++[qF 5 [[.sl .nil 0 [],.sl .nil 0 [],.sl .nil 0 [],.sl .nil 0 [],.sl .nil 0 []]]]++[qF 4 [OE aN]]++[qF 4 [WR]]=H at g0 g2 hx|-
 have s27:DX jA H 27 (.ptr h.length 0 0) (.agg kB)=some (H.set h.length (qF 5 [kB])):=by
  rw[IY (cs:=kB) rfl fR g0 (jF 5)]; rfl
 refine QZ b131 s22 (KY g2 rfl) s23 @bsI s25 b27 s27 ?_;rw[JA (b:=h.length) (x:=.agg kB) AC (by rw[EH mP fR (CQ g0) rfl (jF 5)]; rfl)];exact⟨rfl,hx.set (jF _) _⟩
theorem AZQ (H:Hp)(b:Nat):∀k:Nat,k<4->EI jA H 143 (.ptr b 0 0) (.n (k:Nat))=some (.ptr b 0 k)
 | 0,_=>AZ
 | 1,_=>AZ
 | 2,_=>AZ
 | 3,_=>AZ
 | k+4,h=>absurd h U
theorem AWG:∀k:Nat,k<4->nms[k]?=some (.str (nmN k))
 | 0,_=>rfl
 | 1,_=>rfl
 | 2,_=>rfl
 | 3,_=>rfl
 | k+4,h=>absurd h U
theorem A2G:Tryz.prog.underlying 80=some (.slice 87):=AZ
theorem A2B:SY jA 87=some 4:=AZ
theorem A3J:KR jA 87=some 72:=AZ
theorem X7 (h:Hp):PCall (En G) 38 [] h (.agg (CZ LW)):=by
 refine PCall.res (r:=.agg AWI) ?_ ARX;refine ACalls.pure (R:=fun v H=>Sm.ext h H∧FI h.length H 5 v=.agg AWI) 5 ?_ (fun v H ⟨a,b⟩=>⟨a,b⟩);refine J7 (H:=hint [22,25] []) (enM G) Tryz.func38 rfl (by kernel_rfl) (by kernel_rfl) (jB (by kernel_rfl)) ?_;show awp _ _ _ _ _ (NU _ [.cell 0 31] _);have g0:=AL (x:=qF 4 [nms]) (AL (x:=qF 6 [ptW (.sl .nil 0 [])]) (AX h (qF 2 [[.sl .nil 0 [],.sl .nil 0 []]])));have g1:=AL (x:=qF 4 [nms]) (AX (h++[qF 2 [[.sl .nil 0 [],.sl .nil 0 []]]]) (qF 6 [ptW (.sl .nil 0 [])]));have g2:=AX (h++[qF 2 [[.sl .nil 0 [],.sl .nil 0 []]]]++[qF 6 [ptW (.sl .nil 0 [])]]) (qF 4 [nms]);have hx:Sm.ext h (h++[qF 2 [[.sl .nil 0 [],.sl .nil 0 []]]]++[qF 6 [ptW (.sl .nil 0 [])]]++[qF 4 [nms]]):=(((ext.rfl' h).app _).app _).app _;have e1:(h++[qF 2 [[.sl .nil 0 [],.sl .nil 0 []]]]).length=h.length+1:=A8;have e2:(h++[qF 2 [[.sl .nil 0 [],.sl .nil 0 []]]]++[qF 6 [ptW (.sl .nil 0 [])]]).length=h.length+2:=A8;have b82:IR jA 82 [(0,.str aN),(1,.agg (OE aN))]=some (.agg (ptW (.sl .nil 0 []))):=AZ
 have s82:∀H:Hp,DX jA (H++[qF 6 [ptZ]]) 82 (.ptr H.length 0 0) (.agg (ptW (.sl .nil 0 [])))=some (H++[qF 6 [ptW (.sl .nil 0 [])]]):=fun H=>by
  rw[IY (cs:=ptW (.sl .nil 0 [])) (row:=ptZ) rfl ZC (AX _ _) (jF 6),KH]; rfl
 have b143:IR jA 143 [(0,.str ⟨#[110,48]⟩),(1,.str ⟨#[110,49]⟩),(2,.str ⟨#[110,50]⟩),(3,.str ⟨#[110,51]⟩)]=some (.agg nms):=AZ
 have s143:∀H:Hp,DX jA (H++[qF 4 [[.str ⟨#[]⟩,.str ⟨#[]⟩,.str ⟨#[]⟩,.str ⟨#[]⟩]]]) 143 (.ptr H.length 0 0) (.agg nms)=some (H++[qF 4 [nms]]):=fun H=>by
  rw[IY (cs:=nms) (row:=[.str ⟨#[]⟩,.str ⟨#[]⟩,.str ⟨#[]⟩,.str ⟨#[]⟩]) rfl AYG (AX _ _) (jF 4),KH]; rfl
 refine QZ A3Y @ATV b82 @A1I s82 b143 A1O s143 ?_
 rw[e1] at g1|-
 rw[e2] at g2|-
 generalize h++[qF 2 [[.sl .nil 0 [],.sl .nil 0 []]]]++[qF 6 [ptW (.sl .nil 0 [])]]++[qF 4 [nms]]=H0 at g0 g1 g2 hx|-
 have l2:=AB g2;clear e1 e2
 refine BB (fun n F H=>∃k v,n+k=4∧F 0=.ptr h.length 0 0∧F 1=.ptr (h.length+1) 0 0∧F 2=.ptr (h.length+2) 0 0∧F 3=.n (k:Nat)∧H[h.length]?=some (qF 2 [[.sl .nil 0 [],.sl .nil 0 []]])∧H[h.length+1]?=some (qF 6 [ptW v])∧H[h.length+2]?=some (qF 4 [nms])∧Sm.ext h H∧outG 4 eB h (zI k) v H∧∀b,isB v b->h.length+2<b) 4
  ⟨0,.sl .nil 0 [],U,AC,AC,AC,AC,g0,g1,g2,hx,outG.nil _ _ _ _,fun b q=>q.elim⟩ ?_
 clear g0 g1 g2 hx;rintro n F H ⟨k,v,hk,f0,f1,f2,f3,g0,g1,g2,hx,ho,sep⟩;have e5:BO jA H 80 (.ptr (h.length+1) 0 5)=some v:=by rw[BH OB g1 rfl]; rfl
 refine AO f3 ?_;refine BG ?_ ?_<;>intro hc
 .have hk':k<4:=by have:=of_decide_eq_true hc; omega
  have ln:BO jA H 9 (.ptr (h.length+2) 0 k)=some (.str (nmN k)):=by rw[BH ag9 g2 rfl]; exact AWG k hk'
  have b87:IR jA 87 [(0,.str (nmN k)),(2,.sl .full 2 [encR ⟨(k:Nat),(k:Nat)⟩])]=some (.agg (eB k)):=AZ;have s80:C9 jA false H 80 1 [(0,.agg (eB k))]=some (.sl .full 4 [eB k],H):=AZ;obtain⟨v',H',a1,a2,a3,a4,a5,a6⟩:=ho.append (P:=jA) A2G ZB A2B A3J U (by rw[List.length_range]; omega) hx k;have l2:=AB g2;have g0':=a3 _ _ g0 (fun q=>by have:=sep _ q; omega);have g1':=a3 _ _ g1 (fun q=>by have:=sep _ q; omega);have g2':=a3 _ _ g2 (fun q=>by have:=sep _ q; omega)
  have hlf:IB v'=some [v']:=by
   rcases a2 with⟨_,rfl⟩|⟨_,o,_,rfl,_⟩<;>rfl
  have s5:DX jA H' 80 (.ptr (h.length+1) 0 5) v'=some (H'.set (h.length+1) (qF 6 [ptW v'])):=by
   rw[IY (cs:=[v']) hlf (AZ:szO jA 80=some 1) g1' (jF 6)]; rfl
  refine Z ?_;refine DJ AZ ?_;simp -implicitDefEqProofs only[vQ,LC,KD,List.contains_cons,List.contains_nil,Nat.reduceBEq,Bool.or_false,PG,aJ,KX,P8,IL,CJ,P9,GH,JX,↓reduceIte,jC,Nat.reduceAdd,enP,JV,IX,jQ,f1,f2,f3,e5,AZQ H (h.length+2) k hk',ln,APR,AXM,b87,s80,a1,s5,CW k];refine⟨n-1,U,k+1,v',U,A7,A7,A7,A7,by rw[zL U]; exact g0',CQ g1',by rw[zL U]; exact g2',a4.set U _,?_,fun b hb=>by have:=a6 b hb; omega⟩;rw[List.range_succ];exact a2.keep fun b hb=>by rw[zL (by have:=a6 b hb; omega)]
 .have hk':¬k<4:=fun q=>by rw[decide_eq_true U] at hc; cases hc
  obtain rfl:k=4:=U;rcases ho with⟨q,_⟩|⟨_,o,hob,rfl,q3⟩
  .cases q
  have l6:BO jA H 82 (.ptr (h.length+1) 0 0)=some (.agg (ptW (.own o 0 4))):=by rw[EH gK ZC g1 rfl (jF 6)]; rfl
  have s28:C9 jA true H 28 1 [(0,.agg (ptW (.own o 0 4)))]=some (.own H.length 0 1,H++[qF 6 [ptW (.own o 0 4)]]):=AZ;have b31:IR jA 31 [(0,.own H.length 0 1)]=some (.agg [.own H.length 0 1,.sl .nil 0 []]):=AZ;have g0':=AL (x:=qF 6 [ptW (.own o 0 4)]) g0;have q3':=AL (x:=qF 6 [ptW (.own o 0 4)]) q3;have gb:=AX H (qF 6 [ptW (.own o 0 4)]);have hx':=hx.app [qF 6 [ptW (.own o 0 4)]];have l0:=AB g0;have ho0:=sep o rfl;have q3l:=AB q3;refine JL f0 f1 l6 s28 b31 ?_
  generalize H++[qF 6 [ptW (.own o 0 4)]]=H1 at g0' q3' gb hx'|-
  generalize H.length=rb at gb l0 q3l|-
  have s31:DX jA H1 31 (.ptr h.length 0 0) (.agg [.own rb 0 1,.sl .nil 0 []])=some (H1.set h.length (qF 2 [[.own rb 0 1,.sl .nil 0 []]])):=by
   rw[IY (cs:=[.own rb 0 1,.sl .nil 0 []]) rfl AVX g0' (jF 2)]; rfl
  refine AQ s31 f0 ?_;rw[JA (b:=h.length) (x:=.agg [.own rb 0 1,.sl .nil 0 []]) (DW f0) (by rw[EH A1R AVX (CQ g0') rfl (jF 2)]; rfl)];refine⟨hx'.set (jF _) _,?_⟩;have q4:(H1.set h.length (qF 2 [[.own rb 0 1,.sl .nil 0 []]]))[o]?=some (qF 4 ((zI 4).map eB)):=by rw[zL U]; exact q3'
  have gb4:(H1.set h.length (qF 2 [[.own rb 0 1,.sl .nil 0 []]]))[rb]?=some (qF 6 [ptW (.own o 0 4)]):=by rw[zL U]; exact gb
  generalize H1.set h.length (qF 2 [[.own rb 0 1,.sl .nil 0 []]])=H2 at q4 gb4;have z1:FI h.length H2 3 (.own o 0 4)=.sl .any 4 ((zI 4).map eB):=Cov.frz_own AZ1 (n:=h.length) (d:=1) (h:=H2) (xs:=zI 4) U q4
  have z2:FI h.length H2 4 (.own rb 0 1)=.sl .any 6 [ptW (.sl .any 4 ((zI 4).map eB))]:=by
   have hrow:((([ptW (.own o 0 4)]:List (List AV)).drop 0).take 1).map (·.map (FI h.length H2 3))=[ptW (.sl .any 4 ((zI 4).map eB))]:=by
    show [[AV.str aN,.n 2,.n 0,.str aN,.sl .nil 0 [],FI h.length H2 3 (.own o 0 4)]]=_;rw[z1]
   rw[Cov.frzF_own _ _ 3 rb 0 1 6 _ U gb4,hrow]; rfl
  show AV.agg [FI h.length H2 4 (.own rb 0 1),FI h.length H2 4 (.sl .nil 0 [])]=_;rw[z2]; rfl
end
end Go.Proofs.YtiihpnicbekebaaGreatDoor.Bd.Cl
namespace Go.Proofs.YtiihpnicbekebaaGreatDoor.Cov
open Sm Bins Go.RowKit
theorem goals_nil (G:Nat->AV)(m:Mo)(hc:m.crs=[])(hm:MoOk m)(hg:Good m)(h:Hp):PCall (En G) 61 [.agg (CZ m)] h (.sl (nm (goals m)) 4 ((goals m).map JB)):=by
 refine KT AZZ ?_;have hm1:=hm.np;have hm2:=hm.nc;have hnum:=hg.num;refine acT Tryz.func61 2 ?_;refine AQ @bxM (ZP (AX h (qF 2 [CZ m]))) ?_;refine D9 0 (fun F H=>F 1=.ptr h.length 0 0∧H[h.length]?=some (qF 2 [CZ m])∧ext h H∧(∀b,isB (F 3) b->h.length<b)∧outG 4 JB h (gC m 0) (F 3) H) (fun _ _=>False) ?_ ?_ (fun _ _ hh=>hh.elim)
 .refine BB (fun n F H=>∃i,n+i=m.pts.length∧F 1=.ptr h.length 0 0∧F 13=.sl m.pm 6 (m.pts.map FP)∧F 14=.n m.pts.length∧F 15=.n (i:Nat)∧H[h.length]?=some (qF 2 [CZ m])∧ext h H∧(∀b,isB (F 3) b->h.length<b)∧outG 4 JB h (gP m i) (F 3) H) m.pts.length ⟨0,A8,AC,AC,AC,AC,AX _ _,(ext.rfl' h).app _,fun b hb=>hb.elim,outG.nil _ _ _ _⟩ ?_
  rintro n F H ⟨i,hi,f1,f13,f14,f15,gm,he,hlt,ho⟩;refine AQ f14 f15 ?_;refine DU ?_ ?_<;>intro hi'
  .have hgp:gP m (i+1)=gP m i++gPk i m.pts[i] m.pts[i].bins.length:=by
    simp only[gP]; rw[jI hi']
   have h64:=(hg.full _ (List.getElem_mem hi')).2;have hpl:=tI hg.full i;simp -implicitDefEqProofs only[vQ,CJ,↓reduceIte,jC,enP,QM,ZN,JV,jQ,f13,f15,CG hi',CY gK ZC IC hi',AP3,AL7 _ _ [.str ⟨#[]⟩,.n 0,.n 0,.str ⟨#[]⟩,.sl .nil 0 [],.sl .nil 0 []] rfl,D6 OB,NI,List.length_map];refine D9 2 (fun F' H'=>F' 1=.ptr h.length 0 0∧F' 13=.sl m.pm 6 (m.pts.map FP)∧F' 14=.n m.pts.length∧F' 15=.n (i:Nat)∧H'[h.length]?=some (qF 2 [CZ m])∧ext h H'∧(∀b,isB (F' 3) b->h.length<b)∧outG 4 JB h (gP m (i+1)) (F' 3) H') (fun _ _=>False) ?_ ?_ (fun _ _ hh=>hh.elim)
   .refine BB (fun n F' H'=>∃k,n+k=m.pts[i].bins.length∧F' 1=.ptr h.length 0 0∧F' 13=.sl m.pm 6 (m.pts.map FP)∧F' 14=.n m.pts.length∧F' 15=.n (i:Nat)∧F' 4=.n (i:Nat)∧F' 21=.sl m.pts[i].bm 4 (m.pts[i].bins.map H7)∧F' 22=.n m.pts[i].bins.length∧F' 23=.n (k:Nat)∧H'[h.length]?=some (qF 2 [CZ m])∧ext h H'∧(∀b,isB (F' 3) b->h.length<b)∧outG 4 JB h (gP m i++gPk i m.pts[i] k) (F' 3) H') m.pts[i].bins.length ⟨0,A8,DW f1,DW f13,DW f14,DW f15,AC,AC,AC,AC,AL gm,he.app _,hlt,by rw[show gPk i m.pts[i] 0=[] from rfl,List.append_nil]; exact ho.app _⟩ ?_
    clear f1 f13 f14 f15 gm he hlt ho;rintro n' F H ⟨k,hk,f1,f13,f14,f15,f4,f21,f22,f23,gm,he,hlt,ho⟩;refine AQ f22 f23 ?_;refine DU ?_ ?_<;>intro hk'
    .have hkd:kindOf m.pts[i] k=(m.pts[i].bins[k]).kind:=by unfold kindOf; rw[jI hk']
     have hkl:=gV i m.pts[i] k;have ho1:=ho.app [qF 4 [H7 m.pts[i].bins[k]]];have he1:ext h (H++[qF 4 [H7 m.pts[i].bins[k]]]):=he.app _;simp -implicitDefEqProofs only[vQ,CJ,JO,↓reduceIte,jC,enP,WU,VE,jQ,f21,f23,CG hk',CY gJ ZB KE hk',al79,st79 _ _ [.str ⟨#[]⟩,.n 0,.sl .nil 0 [],.sl .nil 0 []] rfl,D6 ag3,SL];cases hz:(m.pts[i].bins[k].kind==0)
     .have hgk:gPk i m.pts[i] (k+1)=gPk i m.pts[i] k:=by
       simp only[gPk]; rw[hkd,hz]; simp
      refine AQ f23 (CW k) ?_;refine⟨n'-1,U,k+1,U,f1,f13,f14,f15,f4,f21,f22,rfl,AL gm,he1,hlt,?_⟩;rw[hgk]; exact ho1
     .have hgk:gP m i++gPk i m.pts[i] (k+1)=(gP m i++gPk i m.pts[i] k)++[mkP i k]:=by
       simp only[gPk]; rw[hkd,hz,if_pos rfl,List.append_assoc]
      obtain⟨v',H',ha,ho',hkeep,he',hle,hb'⟩:=ho1.append AFQ eP AFE APE U (by rw[List.length_append]; omega) he1 (mkP i k);refine EO f4 AER @AVC @AVB ?_;rw[show [AV.bool false,AV.int .i64 ((i:Nat):Int),AV.sl .full 1 [[.n ((k:Nat):Int)]],AV.int .i64 ((k:Nat):Int)]=JB (mkP i k) from rfl];simp -implicitDefEqProofs only[vQ,CJ,JX,↓reduceIte,jC,enP,AXN _ _ (show(JB (mkP i k)).all AV.frozen=true from rfl)];refine JR (v:=v') (h:=H') ha ?_;refine AQ f23 (CW k) ?_;refine⟨n'-1,U,k+1,U,f1,f13,f14,f15,f4,f21,f22,rfl,hkeep _ _ (AL gm) (fun e=>by have:=hlt _ e; omega),he',fun b hbb=>?_,?_⟩
      .have h1:=hb' b hbb; have h2:=AB gm; rw[h1]; simp; omega
      .rw[hgk]; exact ho'
    .have hke:k=m.pts[i].bins.length:=U
     refine Z ?_;refine⟨f1,f13,f14,f15,gm,he,hlt,?_⟩;rw[hgp,<-hke]; exact ho
   .rintro F' H' ⟨g1,g13,g14,g15,gm',he',hlt',ho'⟩
    refine AQ g15 (CW i) ?_;exact⟨n-1,U,i+1,U,g1,g13,g14,rfl,gm',he',hlt',ho'⟩
  .have hie:i=m.pts.length:=U
   subst hie;refine Z ?_;exact⟨f1,gm,he,hlt,ho⟩
 .rintro F H ⟨f1,gm,he,hlt,ho⟩
  have ho:outG 4 JB h (goals m) (F 3) H:=by unfold goals; rw[hc]; exact ho
  refine JZ f1 (sW gm) hc ?_;refine BB (fun n F H=>F 44=.n 0∧F 45=.n 0∧ext h H∧outG 4 JB h (goals m) (F 3) H) 0 ⟨AC,AC,he,ho⟩ ?_;clear f1 gm he hlt ho;rintro n F H ⟨f44,f45,he,ho⟩;refine DI f44 f45 (show decide ((0:Int)<0)=false from rfl) ?_;exact⟨he,ho⟩
end Go.Proofs.YtiihpnicbekebaaGreatDoor.Cov
namespace Go.Proofs.YtiihpnicbekebaaGreatDoor.Bd.Cl
open Sm Bins Cov Xe Wd Bl Ho Go.RowKit
section
variable (G:Nat->AV)
theorem AOI (m:Mo)(hc:m.crs=[])(s:SM)(h:Hp):PCall (En G) 120 [.agg (CZ m),.sl s 1 []] h (.bool true):=by
 refine ACalls.pure0 rfl ?_;refine acT Tryz.func120 4 ?_;simp -implicitDefEqProofs only[vQ,CJ,TY,GK,↓reduceIte,Nat.reduceEqDiff,Nat.zero_add,Option.getD_some,bNf,enP,ADS,ANC,OW,bxM,D6 gL,VT,hc,List.length_nil,show(((0:Nat):Int) != ((0:Nat):Int))=false from rfl];refine BB (fun n F H=>F 18=.n 0∧F 19=.n 0∧∃x,H=h++x) 0 ⟨AC,AC,_,rfl⟩ ?_;rintro n F H ⟨f18,f19,hx⟩;refine DI f18 f19 (show decide ((0:Int)<0)=false from rfl) ?_;exact⟨A7,hx⟩
theorem AU2 (hG:GOk G)(m:Mo)(hc:m.crs=[])(hm:MoOk m)(v:Cvr)(hv:CvOk v)(hvc:v.crs=[])(h:Hp):PCall (En G) 55 [.agg (CZ m),.agg (Cov.encV v)] h (.bool (KZ m v)) :=
 AG5 G hG m v hm hv (fun _ h=>by rw[hvc,hc]; exact AOI G m hc v.cm h) h
theorem AY0 (hG:GOk G)(p:Pr)(hs:PrS p)(hb:Sm51 p)(m:Mo)(hc:m.crs=[])(hm:MoOk m)(v:Cvr)(hv:CvOk v)(hvc:v.crs=[])(most:Int)(h:Hp):PCall (En G) 17 [.agg (CX p),.agg (CZ m),.agg (Cov.encV v),.n most] h (ADC sdP FD p m v most) :=
 AH3 G hG p hs hb m hm v most (AU2 G hG m hc hm v hv hvc) (AAG G m v (AU2 G hG m hc hm v hv hvc) (Cov.goals_nil G m hc hm)) h
end
end Go.Proofs.YtiihpnicbekebaaGreatDoor.Bd.Cl
namespace Go.Proofs.YtiihpnicbekebaaGreatDoor.Cov
open Sm Bins Bd Go.RowKit
theorem A3E:Tryz.prog.cellsOf 4=1:=AZ
theorem A3I:Tryz.prog.cellsOf 22=1:=AZ
theorem A3H:Tryz.prog.cellsOf 24=1:=AZ
theorem A34:Tryz.prog.cellsOf 27=5:=AZ
theorem A0Q:Tryz.prog.cellsOf 120=1:=AZ
theorem A0O:Tryz.prog.cellsOf 140=2:=AZ
theorem A0P:Tryz.prog.cellsOf 131=4:=AZ
theorem A0M:Tryz.prog.cellsOf 240=4:=AZ
def ARJ (v:Vr)(b:Nat):Prop:=v.name.size<=b
theorem A2W:Rd jA 131 Bd.encV ARJ:=by
 intro n
 cases n with
 | zero=>exact RdAt.zero
 | succ n =>
   refine RdAt.map (fun x:ByteArray×Int×Int×Int×Unit=>(⟨x.1,x.2.1,x.2.2.1,x.2.2.2.1⟩:Vr)) (LU Tryz.underlying131 (ES rfl cl9 (fun _=>rfl) (rdStr n) (ES rfl cl3 (fun _=>rfl) (rdI n) (ES rfl cl3 (fun _=>rfl) (rdI n) (ES rfl cl3 (fun _=>rfl) (rdI n) PD))))) (fun _=>rfl) ?_;rintro⟨a,b,c,d,_⟩ N ⟨_,hN,b1,b2,hb,h1,_⟩;unfold okS at h1;show a.size<=N;simp only at h1;omega
theorem A2V:Rd jA 240 IZ (fun _ _=>True):=by
 intro n
 cases n with
 | zero=>exact RdAt.zero
 | succ n=>exact RdAt.map (fun x:Int×Int×Int×Bool×Unit=>(⟨x.1,x.2.1,x.2.2.1,x.2.2.2.1⟩:Wg)) (LU Tryz.underlying240 (ES rfl cl3 (fun _=>rfl) (rdI n) (ES rfl cl3 (fun _=>rfl) (rdI n) (ES rfl cl3 (fun _=>rfl) (rdI n) (ES rfl A3E (fun _=>rfl) (AQ6 Tryz.underlying4 n) PD))))) (fun _=>rfl) (fun _ _ _=>trivial)
def ARN (d:Ds)(b:Nat):Prop:=d.ws.length<=b
theorem A2Y:Rd jA 140 IJ ARN:=by
 intro n
 match n with
 | 0=>exact RdAt.zero
 | 1=>exact cX Tryz.underlying140
 | n+2 =>
   have rdW:RdAt jA (n+1) 120 (fun x:SM×List Wg=>[.sl x.1 4 (x.2.map IZ)]) (fun x b=>∃b',b'+1<=b∧okL (fun _ _=>True) x.2 b'):=KA Tryz.underlying120 A0M DK dR (A2V n);refine RdAt.map (fun x:Int×(SM×List Wg)×Unit=>(⟨x.1,x.2.1.1,x.2.1.2⟩:Ds)) (LU Tryz.underlying140 (ES rfl cl3 (fun _=>rfl) (rdI _) (ES rfl A0Q (fun _=>rfl) rdW PD))) (fun _=>rfl) ?_;rintro⟨a,b,_⟩ N ⟨_,hN,b1,b2,hb,h1,b3,b4,hb2,h2,_⟩;have:=(N8 h2).length;show b.2.length<=N;simp only at this;omega
def AMY (g:Gp)(b:Nat):Prop:=g.l.length<=b
theorem A2X:Rd jA 32 QR AMY:=by
 intro n
 cases n with
 | zero=>exact RdAt.zero
 | succ n=>exact RdAt.map (fun x:SM×List Int=>(⟨x.1,x.2⟩:Gp)) (KA Tryz.underlying32 cl3 DK (fun _=>rfl) (rdI n)) (fun _=>rfl) (fun x b h=>(N8 h).length)
theorem oY:∀ {l:List Gp} {b:Nat},okL AMY l b->(flG l).length<=b
 | [],b,_=>Nat.zero_le _
 | x::xs,b,⟨b1,b2,h1,_,h3,h4⟩=>by
   have:=oY h4;unfold AMY at h3;show((x::xs).flatMap Gp.l).length<=b;rw[List.flatMap_cons,List.length_append];unfold flG at this;omega
def AY2 (p:Pr)(b:Nat):Prop:=∃b1 b2 b3 b4 b5,b1+b2+b3+b4+b5<=b∧okL ARJ p.vars b1∧okL okE p.hard b2∧okL okE p.soft b3∧okL ARN p.dists b4∧okL AMY p.groups b5
theorem A30:Rd jA 27 CX AY2:=by
 intro n
 match n with
 | 0=>exact RdAt.zero
 | 1=>exact cX Tryz.underlying27
 | n+2 =>
   have r1:RdAt jA (n+1) 22 (fun x:SM×List Vr=>[.sl x.1 4 (x.2.map Bd.encV)]) (fun x b=>∃b',b'+1<=b∧okL ARJ x.2 b'):=KA Tryz.underlying22 A0P DK Bd.encV_len (A2W n);have r2:RdAt jA (n+1) 23 (fun x:SM×List Ex=>[.sl x.1 4 (x.2.map AY)]) (fun x b=>∃b',b'+1<=b∧okL okE x.2 b'):=KA Tryz.underlying23 AXH DK EF (rdE n);have r4:RdAt jA (n+1) 24 (fun x:SM×List Ds=>[.sl x.1 2 (x.2.map IJ)]) (fun x b=>∃b',b'+1<=b∧okL ARN x.2 b'):=KA Tryz.underlying24 A0O DK QU (A2Y n);have r5:RdAt jA (n+1) 25 (fun x:SM×List Gp=>[.sl x.1 1 (x.2.map QR)]) (fun x b=>∃b',b'+1<=b∧okL AMY x.2 b'):=KA Tryz.underlying25 ATL DK (fun _=>rfl) (A2X n)
   refine RdAt.map (fun x:(SM×List Vr)×(SM×List Ex)×(SM×List Ex)×(SM×List Ds)×(SM×List Gp)×Unit=>(⟨x.1.1,x.1.2,x.2.1.1,x.2.1.2,x.2.2.1.1,x.2.2.1.2,x.2.2.2.1.1,x.2.2.2.1.2,x.2.2.2.2.1.1,x.2.2.2.2.1.2⟩:Pr))
    (LU Tryz.underlying27 (ES rfl A3I (fun _=>rfl) r1 (ES rfl AXI (fun _=>rfl) r2 (ES rfl AXI (fun _=>rfl) r2 (ES rfl A3H (fun _=>rfl) r4 (ES rfl ATM (fun _=>rfl) r5 PD)))))) (fun _=>rfl) ?_
   rintro⟨a,b,c,d,e,_⟩ N ⟨_,hN,b1,b2,hb,h1,b3,b4,hb2,h2,b5,b6,hb3,h3,b7,b8,hb4,h4,b9,b10,hb5,h5,_⟩;exact⟨b1,b3,b5,b7,b9,U,N8 h1,N8 h2,N8 h3,N8 h4,N8 h5⟩
theorem A20 {p:Pr}{b:Nat}(h:AY2 p b)(hb:b<=1048576):PrS p:=by
 obtain⟨b1,b2,b3,b4,b5,h0,h1,h2,h3,h4,h5⟩:=h;have l1:=h1.length;have l2:=h2.length;have l3:=h3.length;have l4:=h4.length;have l5:=h5.length;have l6:=oY h5;refine⟨U,fun v hv=>?_,U,fun e he=>?_,U,fun d hd=>?_,U,U⟩
 .obtain⟨b6,h6,h7⟩:=h1.each v hv
  unfold ARJ at h7; omega
 .rcases List.mem_append.1 he with he|he
  .obtain⟨b6,h6,h7⟩:=h2.each e he
   unfold okE at h7; omega
  .obtain⟨b6,h6,h7⟩:=h3.each e he
   unfold okE at h7; omega
 .obtain⟨b6,h6,h7⟩:=h4.each d hd
  unfold ARN at h7; omega
end Go.Proofs.YtiihpnicbekebaaGreatDoor.Cov
namespace Go.Proofs.YtiihpnicbekebaaGreatDoor.Cov
open Sm Bins Go.RowKit
noncomputable def ANN (z:Int):Nat->AV:=fun n=>if n=0 then .fptr 1 [[.sl .any 1 (kw.map qencStr)]] 0 0 else if n=1 then .fptr 1 [[.int .i64 z]] 0 0 else .junk
theorem AZN (z:Int):GOk (ANN z):=⟨⟨.any,rfl⟩,z,rfl⟩
theorem ANP {H:Type}:(Rows.laid_testbench_lexer_keywords:DataW H)=.slice (kw.map fun s=>.lit (.string s.data.toList)) []:=rfl
theorem AQU {w:World}{g:Nat}{k:IntKind}{z:Int}(h:w.cell? ⟨g,0,none⟩=some (.int k z)):RepF (M0 w) (.fptr 1 [[.int k z]] 0 0) (.pointer (some ⟨g,0,none⟩)):=by
 simp only[World.cell?] at h;split at h
 case h_2=>simp at h
 rename_i cc ty fz hw;have hcc:cc[0]?=some (.int k z):=BL h;refine .fptr 1 [[.int k z]] 0 0 g 0 cc ty fz (fun _ _=>.int k z) hw ?_ ?_ ?_
 .intro i row hrow
  cases i with
  | zero =>
    simp at hrow; subst hrow;refine⟨rfl,fun j v hv=>?_⟩
    cases j with
    | zero=>simp at hv; subst hv; rfl
    | succ j=>simp at hv
  | succ i=>simp at hrow
 .intro i j hi hj
  obtain rfl:i=0:=BL hi;obtain rfl:j=0:=U;exact hcc
 .intro i j row v hrow hv
  cases i with
  | zero =>
    simp at hrow; subst hrow
    cases j with
    | zero=>simp at hv; subst hv; exact .int _ _
    | succ j=>simp at hv
  | succ i=>simp at hrow
theorem A17 {W:World}(h:laidMetH jA [("math/bits.deBruijn32tab",Rows.laid_math_bits_deBruijn32tab),("math/bits.deBruijn64tab",Rows.laid_math_bits_deBruijn64tab),("internal/strconv.uint64pow10",Rows.laid_internal_strconv_uint64pow10),("testbench/lexer.keywords",Rows.laid_testbench_lexer_keywords)] W) (hsh:W.ShapedOpen jA) :
  ∃z,∀n,RepF (M0 W) (ANN z n) (.pointer (some ⟨n,0,none⟩)):=by
 rw[MakeChecks.laidMetH_plain _ _ _ AZ] at h;obtain⟨ps,⟨_,_,_,_,_,_,_,_,_,_,⟨_,_,_,_,_,_,_,_,_,_,⟨_,_,_,_,_,_,_,_,_,_,⟨g3,t3,cs3,f3,p3,q3,hg3,ht3,hv3,hd3,_,_⟩,_⟩,_⟩,_⟩,_,_⟩:=h
 have hgk:Tryz.prog.globalNamed "testbench/lexer.keywords" = some 0:=AZ
 have htk:(Tryz.prog.globals[0]?).map (·.type)=some 121:=AZ;obtain rfl:=Option.some.inj (hgk.symm.trans hg3);obtain rfl:=Option.some.inj (htk.symm.trans ht3);obtain⟨c,h1,h2⟩:=AJS Tryz.underlying121 Tryz.underlying9 cl9 ANP hd3;obtain⟨z,hz⟩:=cell_of_shapedOpen_int (P:=jA) (g:=1) (t:=3) (zero := #[.int .i64 0]) hsh (of_decide_eq_true AZ) AZ rfl AZ AZ Tryz.underlying3;refine⟨z,fun n=>?_⟩;unfold ANN;split
 .rename_i hn; subst hn
  exact AQT hg3 hv3 h1 h2 rfl
 .split
  .rename_i hn; subst hn
   exact AQU hz
  .exact .junk _
end Go.Proofs.YtiihpnicbekebaaGreatDoor.Cov
namespace Go.Proofs.YtiihpnicbekebaaGreatDoor.Bd.Cl
open Sm Bins Cov Xe Wd Bl Ho Go.RowKit
abbrev gW (i:Int):List AV:=[.bool false,.n 0,.sl .full 1 [[.n i]]]
theorem A2D:AC6 lK sdP FD QI LW (hol 2)=.tup [.sl .any 1 [[.sl .any 1 [[.n 2]]]],.n 0]:=by unfold AC6; rw[AX6.2,AX6.1]; rfl
theorem A2F:ARA sdP FD QI LW (hol 3)=.tup [.bool true,.n 0]:=by unfold ARA; rw[A2C]; rfl
theorem AX7:nI QI LW (emV LW) 9=0∧(cY sdP FD QI LW (emV LW) 9).1.map (fun g=>(g.cross,g.idx,g.bm,g.bins))=[(false,0,.full,[0]),(false,0,.full,[1]),(false,0,.full,[2])]∧(cY sdP FD QI LW (emV LW) 9).2.map (fun g=>(g.cross,g.idx,g.bm,g.bins))=[(false,0,.full,[3])]:=by decide +kernel
theorem AA5 (L:List Gl):L.map Cov.encH=(L.map (fun g=>(g.cross,g.idx,g.bm,g.bins))).map fun x=>[AV.bool x.1,.n ((x.2.1:Nat):Int),.sl x.2.2.1 1 (x.2.2.2.map Bins.qencI)]:=by rw[List.map_map]; rfl
theorem AM1 {α β:Type}(f:α->β)(L:List α):Cov.nm (L.map f)=Cov.nm L:=by cases L<;>rfl
theorem A2E:ADC sdP FD QI LW (emV LW) 9=.tup [.sl .any 3 [gW 0,gW 1,gW 2],.sl .any 3 [gW 3],.n 0]:=by
 obtain⟨h1,h2,h3⟩:=AX7;unfold ADC;rw[<-AM1 (fun g:Gl=>(g.cross,g.idx,g.bm,g.bins)),<-AM1 (fun g:Gl=>(g.cross,g.idx,g.bm,g.bins)) (cY sdP FD QI LW (emV LW) 9).2,AA5,AA5,h2,h3,h1];rfl
theorem w_m:FT LW=0:=by decide +kernel
theorem A1A (n:Int):IR jA 34 [(2,.sl .full 1 [Bins.qencI n])]=some (.agg (EZ (hol n))):=AZ
abbrev cvZ:List AV:=[.sl .nil 0 [],.sl .nil 0 [],.n 0,.n 0]
theorem A1J (h:Hp):F9 jA h 46=some (.ptr h.length 0 0,h++[qF 4 [cvZ]]):=FC (row:=cvZ) AZ
theorem A1H (h:Hp):F9 jA h 94=some (.ptr h.length 0 0,h++[qF 1 [[.sl .nil 0 []]]]):=FC (row:=[.sl .nil 0 []]) AZ
section
variable (G:Nat->AV)
theorem UA (hG:GOk G)(h:Hp):PCall (En G) 11 [] h (.bool true):=by
 refine ACalls.pure0 rfl ?_;refine acT Tryz.func11 0 ?_;have hR:=VO G hG QI sM sN LW gS (hol 2) DK h;have hV:=ACC G hG QI sM sN LW gS (hol 3) DK h;have hE:=AFB G hG LW gS h;rw[A2D] at hR;rw[A2F] at hV;rw[w_m] at hE;refine Z ?_;refine(WI G h).uu ?_;refine(X7 G h).use ?_;refine AQ @bsI A1A ?_;refine hR.uu ?_;refine(WI G h).uu ?_;refine(X7 G h).use ?_;refine AQ @bsI A1A ?_;refine hV.uu ?_;refine(X7 G h).uu ?_;refine hE.use ?_;have g5:=AL (x:=qF 1 [[.sl .nil 0 []]]) (AX h (qF 4 [cvZ]));have g6:=AX (h++[qF 4 [cvZ]]) (qF 1 [[.sl .nil 0 []]]);have hx:Sm.ext h (h++[qF 4 [cvZ]]++[qF 1 [[.sl .nil 0 []]]]):=((ext.rfl' h).app _).app _;have e1:(h++[qF 4 [cvZ]]).length=h.length+1:=A8;refine AQ @A1J @A1H ?_
 rw[e1] at g6|-
 generalize h++[qF 4 [cvZ]]++[qF 1 [[.sl .nil 0 []]]]=H at g5 g6 hx|-
 have s5:DX jA H 46 (.ptr h.length 0 0) (.agg (Cov.encV (emV LW)))=some (H.set h.length (qF 4 [Cov.encV (emV LW)])):=by
  rw[IY (cs:=Cov.encV (emV LW)) rfl AIH g5 (jF 4)]; rfl
 have g56:(H.set h.length (qF 4 [Cov.encV (emV LW)]))[h.length+1]?=some (qF 1 [[.sl .nil 0 []]]):=by rw[zL U]; exact g6
 have s6:DX jA (H.set h.length (qF 4 [Cov.encV (emV LW)])) 94 (.ptr (h.length+1) 0 0) (.agg (QQ (emT LW)))=some ((H.set h.length (qF 4 [Cov.encV (emV LW)])).set (h.length+1) (qF 1 [QQ (emT LW)])):=by
  rw[IY (cs:=QQ (emT LW)) rfl AIG g56 (jF 1)]; rfl
 have g7:((H.set h.length (qF 4 [Cov.encV (emV LW)])).set (h.length+1) (qF 1 [QQ (emT LW)]))[h.length]?=some (qF 4 [Cov.encV (emV LW)]):=by rw[zL U]; exact CQ g5
 have hx2:=(hx.set (jF h.length) (qF 4 [Cov.encV (emV LW)])).set (b:=h.length+1) U (qF 1 [QQ (emT LW)]);refine AQ s5 s6 ?_
 generalize (H.set h.length (qF 4 [Cov.encV (emV LW)])).set (h.length+1) (qF 1 [QQ (emT LW)])=H2 at g7 hx2|-
 have hP:=AY0 G hG QI sM sN LW rfl gS (emV LW) AS3 (by decide +kernel) 9 H2;rw[A2E] at hP;refine DJ AZ ?_;refine Z ?_;refine⟨_,WI G H2,_,X7 G H2,?_⟩;refine AO (Cov.ldV g7) ?_;refine⟨_,hP,?_⟩;have n0:((0:Int) != 0)=false:=rfl;have n1:(((1:Nat):Int) != 1)=false:=rfl;have n3:(((3:Nat):Int) != 3)=false:=rfl;have m1:(((1:Nat):Int)==1)=true:=rfl;have ia:JM 1 H2 (.sl .any 1 [[.sl .any 1 [[.n 2]]]]) (.n 0)=some (.fptr 1 [[.sl .any 1 [[.n 2]]]] 0 0):=AZ;have la:BO jA H2 32 (.fptr 1 [[.sl .any 1 [[.n 2]]]] 0 0)=some (.sl .any 1 [[.n 2]]):=AZ;have ib:JM 1 H2 (.sl .any 1 [[.n 2]]) (.n 0)=some (.fptr 1 [[.n 2]] 0 0):=AZ;have lb:BO jA H2 3 (.fptr 1 [[.n 2]] 0 0)=some (.n 2):=AZ;have ic:JM 3 H2 (.sl .any 3 [gW 0,gW 1,gW 2]) (.n 1)=some (.fptr 3 [gW 0,gW 1,gW 2] 1 0):=AZ;have lc:BO jA H2 32 (.fptr 3 [gW 0,gW 1,gW 2] 1 2)=some (.sl .full 1 [[.n 1]]):=AZ;have id:JM 1 H2 (.sl .full 1 [[.n 1]]) (.n 0)=some (.fptr 1 [[.n 1]] 0 0):=AZ;have ld:BO jA H2 3 (.fptr 1 [[.n 1]] 0 0)=some (.n 1):=AZ;have ie:JM 3 H2 (.sl .any 3 [gW 3]) (.n 0)=some (.fptr 3 [gW 3] 0 0):=AZ;have le:BO jA H2 32 (.fptr 3 [gW 3] 0 2)=some (.sl .full 1 [[.n 3]]):=AZ;have ig:JM 1 H2 (.sl .full 1 [[.n 3]]) (.n 0)=some (.fptr 1 [[.n 3]] 0 0):=AZ;have lg:BO jA H2 3 (.fptr 1 [[.n 3]] 0 0)=some (.n 3):=AZ;have q2:((2:Int)==2)=true:=rfl;have q1:((1:Int)==1)=true:=rfl;have q3:((3:Int)==3)=true:=rfl;simp -implicitDefEqProofs only[vQ,List.getElem?_cons_zero,List.getElem?_cons_succ,LQ,cO,ED,RD,CJ,TW,bP,JO,↓reduceIte,Nat.reduceEqDiff,Nat.reduceAdd,Nat.zero_add,Option.getD_some,bNf,enP,VZ,ADS,KJ,VY,dL,ANT,ANB,n0,n1,n3,m1,ia,la,ib,lb,ic,lc,id,ld,ie,le,ig,lg,q1,q2,q3,List.length_cons,List.length_nil];exact⟨A7,hx2⟩
end
theorem AIK (f:Gl->Int)(most:Int)(s:List Gl×List Gl)(g:Gl):(∃l,(U6 f most s g).1=s.1++l)∧∃l,(U6 f most s g).2=s.2++l:=by
 unfold U6;split
 .exact⟨⟨[],A8⟩,[g],rfl⟩
 .split
  .exact⟨⟨[g],rfl⟩,[],A8⟩
  .exact⟨⟨[],A8⟩,[],A8⟩
theorem pP (f:Gl->Int)(most:Int):∀(L:List Gl) (s:List Gl×List Gl),(∃l,(L.foldl (U6 f most) s).1=s.1++l)∧∃l,(L.foldl (U6 f most) s).2=s.2++l
 | [],s=>⟨⟨[],A8⟩,[],A8⟩
 | g::L,s=>by
   obtain⟨⟨l1,h1⟩,l2,h2⟩:=pP f most L (U6 f most s g);obtain⟨⟨k1,e1⟩,k2,e2⟩:=AIK f most s g;exact⟨⟨k1++l1,by rw[qO,h1,e1,zC]⟩,k2++l2,by rw[qO,h2,e2,zC]⟩
theorem AMS (f:Gl->Int)(most:Int)(L:List Gl)(n:Nat):(∃l,(MZ f most L).1=(MZ f most (L.take n)).1++l)∧∃l,(MZ f most L).2=(MZ f most (L.take n)).2++l:=by
 have h:MZ f most L=(L.drop n).foldl (U6 f most) (MZ f most (L.take n)):=by
  unfold MZ;rw[<-List.foldl_append,List.take_append_drop]
 rw[h];exact pP f most _ _
theorem APX {l a b:List Gl}{g:Gl}(h:l=(a++[g])++b):∃q:a.length<l.length,l[a.length]=g:=by
 subst h;exact⟨A8,A8⟩
theorem AKB {m:Mo}{v:Cvr}(h4:m.pts.length<=4)(h3:m.crs.length<=3):(KP m v).length<=1024:=by
 unfold KP;split
 .rename_i hf
  have h1:=tL (RI (ZV hf)) m.crs.length;have h2:=List.length_filter_le (fun g => !decide (PY v g>0)) (goals m);have h5:(goals m).length=(gC m m.crs.length).length:=rfl;omega
 .exact Nat.zero_le _
section
variable (G:Nat->AV)
theorem AUS (hG:GOk G)(p:Pr)(hs:PrS p)(m:Mo)(hm:MoOk m)(v:Cvr)(hv:CvOk v)(h:Hp):PCall (En G) 5 [.agg (CX p),.agg (CZ m),.agg (Cov.encV v)] h (.bool true):=by
 refine ACalls.pure0 rfl ?_;refine acT Tryz.func5 6 ?_;have gp:=AL (x:=qF 4 [Cov.encV v]) (AL (x:=qF 2 [CZ m]) (AX h (qF 5 [CX p])));have gm:=AL (x:=qF 4 [Cov.encV v]) (AX (h++[qF 5 [CX p]]) (qF 2 [CZ m]));have gv:=AX (h++[qF 5 [CX p]]++[qF 2 [CZ m]]) (qF 4 [Cov.encV v]);have hx:Sm.ext h (h++[qF 5 [CX p]]++[qF 2 [CZ m]]++[qF 4 [Cov.encV v]]):=(((ext.rfl' h).app _).app _).app _;refine DI @SS @bxM @Cov.bxV ?_
 generalize h++[qF 5 [CX p]]++[qF 2 [CZ m]]++[qF 4 [Cov.encV v]]=H at gp gm gv hx|-
 generalize (h++[qF 5 [CX p]]++[qF 2 [CZ m]]).length=vb at gv|-
 generalize (h++[qF 5 [CX p]]).length=mb at gm|-
 refine AO (WS gp) ?_;refine(ASU G p hs 6 H).use ?_;rintro r ⟨b,rfl,hf⟩;cases b
 .refine Z ?_
  refine(UA G hG H).uu ?_;exact⟨A7,hx⟩
 have hb:=(hf rfl).sm U;refine AO (ldM gm) ?_;refine(AR5 G m hm H).use ?_;rintro r ⟨b,rfl,hlt⟩;cases b
 .refine Z ?_
  refine(UA G hG H).uu ?_;exact⟨A7,hx⟩
 have hlt:=hlt rfl;refine AQ (ldM gm) (Cov.ldV gv) ?_;refine(AOH G m v hm hv H).use ?_;cases b3:KZ m v
 .refine Z ?_
  refine(UA G hG H).uu ?_;exact⟨A7,hx⟩
 refine DI (WS gp) (ldM gm) (Cov.ldV gv) ?_;refine(AK7 G hG p hs hb m hm v hv 1024 H).use ?_;unfold ADC;cases b4:(nI p m v 1024 != 0)
 case true =>
  refine AO b4 ?_;refine(UA G hG H).uu ?_;exact⟨A7,hx⟩
 have q4:nI p m v 1024=0:=BL b4;have e4:cY sdP FD p m v 1024=MZ (fun g=>OU sdP FD p m (PQ g)) 1024 (KP m v):=by unfold cY; rw[if_pos q4]
 rw[e4,q4];refine DI (ldM gm) (Cov.ldV gv) (show((0:Int) != 0)=false from rfl) ?_;refine(kT G hG (iJ G) m v hm hv H).use ?_;have hbin:=AGT (v:=v) hm;have hln:=AKB (v:=v) hlt.1 hlt.2
 generalize KP m v=L at hbin hln|-
 generalize hf:(fun g=>OU sdP FD p m (PQ g))=f;have hfx:∀g,OU sdP FD p m (PQ g)=f g:=fun g=>by rw[<-hf]
 have hpl:=kF f 1024 L
 have hpk:∀k,k<=L.length->(MZ f 1024 (L.take k)).1.length<=k∧(MZ f 1024 (L.take k)).2.length<=k:=fun k hk=>by
  have h1:=kF f 1024 (L.take k);rw[List.length_take,Nat.min_eq_left hk] at h1;exact h1
 have hpre:=AMS f 1024 L;have hend:MZ f 1024 (L.take L.length)=MZ f 1024 L:=by rw[List.take_length]
 generalize hA:(MZ f 1024 L).1=A at hpl hpre;generalize hB:(MZ f 1024 L).2=B at hpl hpre;refine Z ?_
 refine BB (fun n F H'=>∃k,n+k=L.length∧F 3=.ptr h.length 0 0∧F 4=.ptr mb 0 0∧F 7=.sl (Cov.nm A) 3 (A.map Cov.encH)∧F 8=.sl (Cov.nm B) 3 (B.map Cov.encH)∧F 10=.sl (Cov.nm L) 3 (L.map Cov.encH)∧F 11=.n ((MZ f 1024 (L.take k)).1.length:Nat)∧F 12=.n ((MZ f 1024 (L.take k)).2.length:Nat)∧F 13=.n (k:Nat)∧H'=H) L.length
  ⟨0,A8,AC,AC,AC,AC,AC,AC,AC,AC,rfl⟩ ?_
 rintro n F H' ⟨k,hk,f3,f4,f7,f8,f10,f11,f12,f13,rfl⟩;refine AQ f10 f13 ?_;refine BG ?_ ?_<;>intro hc
 .have hk':k<L.length:=BL hc
  have hme:=List.getElem_mem hk';have hpk1:=hpk k U;have hst:MZ f 1024 (L.take (k+1))=U6 f 1024 (MZ f 1024 (L.take k)) L[k]:=by rw[List.take_succ_eq_append_getElem hk',oS]
  unfold U6 at hst;have hp1:=hpre (k+1);have lr:BO jA H' 34 (.fptr 3 (L.map Cov.encH) k 0)=some (.agg (EZ (PQ L[k]))):=by rw[CY AK5 fQ (f:=Cov.encH) (fun g=>rfl) hk']; rfl
  generalize MZ f 1024 (L.take k)=s at f11 f12 hpk1 hst;refine Z ?_;refine DJ AZ ?_;refine VW ANT f3 f4 f10 f13 (WS gp) (ldM gm) hk' lr ?_;refine⟨_,VO G hG p hs hb m hm (PQ L[k]) (hbin _ hme) H',?_⟩;unfold AC6;rw[hfx];refine Z ?_;cases c0:(f L[k]==0)
  .have n0:f L[k]≠0:=BL c0
   cases c1:(f L[k]==11)
   .have n1:f L[k]≠11:=BL c1
    rw[if_neg n1,if_neg (fun q=>n0 q.1)] at hst;refine EO c0 c1 f13 (CW k) ?_;exact⟨n-1,U,k+1,U,A7,A7,A7,A7,A7,by rw[hst]; first|exact True.intro|exact f11,by rw[hst]; first|exact True.intro|exact f12,A7,A7⟩
   .have n1:f L[k]=11:=BL c1
    rw[if_pos n1] at hst;rw[hst] at hp1;obtain⟨_,t,ht⟩:=hp1;obtain⟨hi,he⟩:=APX ht;have hgt:decide (((s.2.length:Nat):Int)≥((B.length:Nat):Int))=false:=decide_eq_false U;have lb:BO jA H' 34 (.fptr 3 (B.map Cov.encH) s.2.length 0)=some (.agg (EZ (PQ L[k]))):=by rw[CY AK5 fQ (f:=Cov.encH) (fun g=>rfl) hi,he]; rfl
    refine AQ c0 c1 ?_;refine DJ AZ ?_;refine aF ANT f8 f12 f10 f13 hgt hi lb hk' lr ?_;refine⟨_,oO G (PQ L[k]) (hbin _ hme) H',?_⟩;refine NZ f8 f12 f10 f13 hgt (CW (s.2.length)) (CW k) ?_;exact⟨n-1,U,k+1,U,A7,A7,A7,A7,A7,by rw[hst]; first|exact True.intro|exact f11,by rw[hst,jS]; first|exact True.intro|rfl,A7,A7⟩
  .have n0:f L[k]=0:=BL c0
   have n1:f L[k]≠11:=by rw[n0]; decide
   have c1:(f L[k]==11)=false:=by simp [n1]
   rw[if_neg n1,if_pos ⟨n0,U⟩] at hst;rw[hst] at hp1;obtain⟨⟨t,ht⟩,_⟩:=hp1;obtain⟨hi,he⟩:=APX ht;have hgt:decide (((s.1.length:Nat):Int)≥((A.length:Nat):Int))=false:=decide_eq_false U;have lb:BO jA H' 34 (.fptr 3 (A.map Cov.encH) s.1.length 0)=some (.agg (EZ (PQ L[k]))):=by rw[CY AK5 fQ (f:=Cov.encH) (fun g=>rfl) hi,he]; rfl
   refine AQ c0 c1 ?_;refine DJ AZ ?_;refine aF ANT f7 f11 f10 f13 hgt hi lb hk' lr ?_;refine⟨_,oO G (PQ L[k]) (hbin _ hme) H',?_⟩;refine QZ f7 f11 f10 f13 hgt c1 (CW (s.1.length)) (CW k) ?_;exact⟨n-1,U,k+1,U,A7,A7,A7,A7,A7,by rw[hst,jS]; first|exact True.intro|rfl,by rw[hst]; first|exact True.intro|exact f12,A7,A7⟩
 .have ek:k=L.length:=by have:¬k<L.length:=BL hc
                         omega
  subst ek;rw[hend] at f11 f12;rw[hA] at f11;rw[hB] at f12;refine MR f7 f8 f11 f12 (show(((A.length:Nat):Int)==((A.length:Nat):Int))=true by simp) (show(((B.length:Nat):Int)==((B.length:Nat):Int))=true by simp) ?_;refine(UA G hG H').uu ?_;exact⟨A7,hx⟩
end
end Go.Proofs.YtiihpnicbekebaaGreatDoor.Bd.Cl
