/- Part 7 of the proof (Y2, Y1, Y3, Y4, J8, J9, J10, J11, Se, Sg, Sr, Sh, T0, T1, T2, T3, Cf, Kr, Y6, Y7, Y8, Y9, Yw, Kh, Kp, Kw, I1, Iw, I2, I5); no condition. -/
import Derived.Below
import Derived.Test.YtiihpnicbekebaaGreatDoorRows
import Derived.Carry
import Derived.ReadAgain
import Derived.ChangeSame
import Derived.OpenShut
import Derived.WideKeyArgs
import Derived.OrdersIn
import Derived.TacticsIn
import Derived.RangeFuncBox
import Derived.RangeFuncLeaves
import Derived.RangeFuncFrom
import Derived.Shelf.Abstract
import Derived.WalkKit
import Derived.OwnWalkIn
import Derived.TacticsInMore
import Derived.LoopNIn
import Derived.LoopIn
import Derived.Test.YtiihpnicbekebaaGreatDoorProg
import Derived.RangeFuncNested
import Derived.RangeFuncBound
import Derived.RangeFuncCalls
import Derived.RegionIn
import Derived.Maps.AppendAt
import Derived.Test.YtiihpnicbekebaaGreatDoorCards
import Derived.JoinedCond
import Derived.KernelRfl
import Derived.LaidMore
import Derived.Shelf.Vars
import Derived.Test.YtiihpnicbekebaaGreatDoorCH6
set_option linter.unusedVariables false
set_option linter.unusedSimpArgs false
set_option maxRecDepth 8000
set_option maxHeartbeats 16000000
open Go.Proofs.YtiihpnicbekebaaGreatDoor.Sm.ABlk renaming live→yK
open Bool renaming and_eq_true→jO,false_eq_true→qU,not_false→jE,not_true→qV,or_eq_false_iff→wF,or_false→qB
open Go.Proofs.Tryz renaming prog→jA
open Int renaming toNat_natCast→qG
open List renaming all_append→yI,all_eq_true→zL,any_eq_false→qM,append_assoc→zK,append_nil→jP,cons_append→zG,contains_nil→jX,drop_eq_getElem_cons→qC,drop_zero→zT,getD_eq_getElem?_getD→zF,getElem?_cons_succ→wP,getElem?_cons_zero→wE,getElem?_eq_getElem→jG,getElem?_map→jV,getElem?_set_ne→jY,getElem_mem→jI,getElem_of_mem→qO,length_append→jT,length_cons→zO,length_eq_zero_iff→yH,length_map→jM,length_nil→zU,length_take→jZ,length→wO,map_append→qR,map_congr_left→yA,map_cons→jK,map_map→qW,map_nil→jL,mem_append→zI,mem_cons→zQ,mem_map→zH,mem_of_getElem?→zZ,mem_singleton→qP,nil_append→qJ,range→zN,replicate→jR,take_append_drop→wZ,take_of_length_le→jJ,take_succ_eq_append_getElem→jU
open Nat renaming add_zero→zD,eq_zero_or_pos→wU,le_of_ble_eq_true→jB,le_refl→jF,le_trans→qQ,mod_eq_of_lt→yG,reduceAdd→jS,reduceBEq→zB,reduceEqDiff→jC,zero_add→jH,zero_le→qI
open Option renaming getD_none→jQ,getD_some→jD
namespace Go.Proofs.YtiihpnicbekebaaGreatDoor.Bd.Cl
open Sm Bins Cov Xe Wd Bl Ho Go.RowKit
variable {k:Nat} {vs:List Vr} {e:Ex} {p:Pr} {ins:Ex->List Rng->Ex} {m:Mo} {x:Hl} {s:Bw} {a:List Int}
theorem AS4 {α:Type}{f:α->List AV}{h H:Hp}{ys:List α}{v:AV}(hf:MW (ys.map f)=true)(ho:outG k f h ys v H)(hx:Sm.ext h H)(i:Nat):∃H',(∀F:Fr,F i=v->QP (F,H) i=(upd F i (fzG k f ys),H'))∧Sm.ext h H'∧H'.length=H.length∧∀(b:Nat) (y:ABlk),b<h.length->H[b]?=some y->H'[b]?=some y:=by
 rcases ho with⟨rfl,rfl⟩|⟨e1,o,e2,rfl,e3⟩
 .refine⟨H,fun F hF=>?_,hx,rfl,fun _ _ _ q=>q⟩
  rw[AYN (H:=H) (i:=i) (k:=0) (m:=.nil) (xs:=[]) F hF]
  have:upd F i (fzG k f ([]:List α))=F:=by
   funext j;unfold upd;split
   .rename_i q; rw[q]; exact hF.symm
   .rfl
  rw[this]
 .refine⟨H.set o .dead,fun F hF=>?_,hx.set e2 _,by rw[List.length_set],fun b y hb q=>by rw[List.getElem?_set_ne U]; exact q⟩
  have hz:=ADZ (i:=i) (off:=0) (len:=ys.length) e3 AZ (by rw[zT,jJ AZ]; exact hf);rw[zT,jJ AZ] at hz;rw[hz F hF,AHU e1]
theorem AYM {α:Type}{f:α->Int}{xs ys:List α}{x:α}(h:Bd.fstE f xs=0)(hx:f x≠0):Bd.fstE f (xs++x::ys)=f x:=by
 rw[Bd.fstE_app,if_neg (by rw[h]; simp)];show(if f x≠0 then f x else Bd.fstE f ys)=f x;rw[if_pos hx]
theorem AS2 {α:Type}{f:α->Int}{xs:List α}{x:α}(h:Bd.fstE f xs=0)(hx:f x=0):Bd.fstE f (xs++[x])=0:=by
 rw[Bd.fstE_app,if_neg (by rw[h]; simp)];show(if f x≠0 then f x else Bd.fstE f [])=0;rw[if_neg (by rw[hx]; simp)]; rfl
theorem AK3 {α:Type}{f:α->Int}{xs ys:List α}(h:Bd.fstE f xs=0)(hx:Bd.fstE f ys=0):Bd.fstE f (xs++ys)=0:=by
 rw[Bd.fstE_app,if_neg (by rw[h]; simp),hx]
def RZ (vs:List Vr)(R:List (List Ex)):Int:=Bd.fstE (scC vs) R.flatten
def P9 (s:Bw)(vs:List Vr)(R:List (List Ex)):List (List Ex):=R.map fun r=>r.map (GI s vs)
def AGR (s:Bw)(vs:List Vr)(R:List (List Ex)):AV:=.tup [if RZ vs R=0 then .sl (Cov.nm (P9 s vs R)) 1 ((P9 s vs R).map TG) else .sl .nil 0 [],.n (RZ vs R)]
def AQO (s:Bw)(vs:List Vr)(R:List (List Ex)):AV:=.tup [if RZ vs R=0 then fzG 1 AGU (P9 s vs R) else .sl .nil 0 [],.n (RZ vs R)]
theorem A3D (L:List (List Ex)):CvR (fzG 1 AGU L) (.sl (Cov.nm L) 1 (L.map TG)):=by
 cases L with
 | nil=>exact CvR.sl (Cv.nil 0 1)
 | cons a L=>exact CvR.sl (Cv.map fun x _=>A1B x)
theorem AWE (s:Bw)(vs:List Vr)(R:List (List Ex)):CvR (AQO s vs R) (AGR s vs R):=by
 unfold AQO AGR;split
 .exact CvR.tup (CvRL.cons (A3D _) (CvRL.cons (CvR.refl _) CvRL.nil))
 .exact CvR.refl _
theorem AMR {R:List (List Ex)}{i:Nat}(hi:i<R.length)(hk:k<R[i].length):∃ys,R.flatten=((R.take i).flatten++R[i].take k)++R[i][k]::ys:=by
 refine⟨R[i].drop (k+1)++(R.drop (i+1)).flatten,?_⟩;have h1:R=R.take i++R[i]::R.drop (i+1):=by rw[<-qC hi,wZ]
 have h2:∀l:List Ex,R[i]++l=R[i].take k++R[i][k]::(R[i].drop (k+1)++l):=fun l=>by
  have:R[i].take k++R[i].drop k=R[i]:=wZ k R[i];rw[qC hk] at this
  calc R[i]++l=(R[i].take k++R[i][k]::R[i].drop (k+1))++l:=by rw[this]
   _=_:=by rw[zK]; rfl
 conv=>lhs; rw[h1,List.flatten_append,List.flatten_cons,h2]
 rw[zK]
section
variable (G:Nat->AV)
theorem vU (hG:GOk G)(p:Pr)(hs:PrS p)(hv:IJ p=0)(s:SM)(R:List (List Ex))(hR:R.length<=1048576)(hl:∀r∈R,r.length<=1048576)(he:∀r∈R,∀e∈r,exE e=0)(h:Hp):PCall (En G) 44 [.agg (CW p),.sl s 1 (R.map TG)] h (AGR sdP p.vars R):=by
 refine PCall.res ?_ (AWE sdP p.vars R);refine ACalls.pure (R:=fun v H=>Sm.ext h H∧EZ h.length H 3 v=AQO sdP p.vars R) 3 ?_ (fun v H ⟨a,b⟩=>⟨a,b⟩);refine JE (H:=hint [] [(43,[42])]) (enM G) Tryz.func44 rfl (by kernel_rfl) (by kernel_rfl) (jB (by kernel_rfl)) ?_;show awp _ _ _ _ _ (MJ _ [.tmp 4,.tmp 5] _);have gp:=AQ h (yK 5 [CW p]);have hx:=Sm.ext.r1 h (yK 5 [CW p]);simp only[vQ,jX,zB,CG,WV,SL,↓reduceIte,jC,enP,iO,qU,TD,QA,uP,ZK]
 generalize h++[yK 5 [CW p]]=H0 at gp hx|-
 have hlt:=Z gp;simp only[A54,A55,ZK,jM];refine ER 0 (fun F H=>∃v,F 6=v∧F 7=.n (RZ p.vars R)∧Sm.ext H0 H∧(RZ p.vars R=0->outG 1 AGU H0 (P9 sdP p.vars R) v H)) (fun _ _=>False) ?_ ?_ (fun _ _ q=>q.elim)
 .refine BJ (fun n F H=>∃i v,n+i=R.length∧F 2=.ptr h.length 0 0∧F 6=v∧F 7=.n 0∧F 15=.sl s 1 (R.map TG)∧F 16=.n (R.length:Nat)∧F 17=.n (i:Nat)∧Sm.ext H0 H∧outG 1 AGU H0 (P9 sdP p.vars (R.take i)) v H∧Bd.fstE (scC p.vars) (R.take i).flatten=0) R.length
   ⟨0,.sl .nil 0 [],AZ,AL,AL,AL,AL,AL,AL,ext.rfl' _,outG.nil _ _ _ _,rfl⟩ ?_
  rintro n F H ⟨i,v,hi,f2,f6,f7,f15,f16,f17,hxH,ho,hf⟩;refine A8 f16 f17 ?_;refine D8 ?_ ?_<;>intro hi'
  .have hmr:=jI hi'
   have hrl:=hl _ hmr;have lr:BH jA H 23 (.fptr 1 (R.map TG) i 0)=some (.sl (Cov.nm R[i]) 4 (R[i].map AX)):=by rw[CU LH hi']; rfl
   refine P7 f15 f17 hi' lr ?_
   refine BJ (fun n2 F' H'=>∃k u,n2+k=R[i].length∧F' 2=.ptr h.length 0 0∧F' 6=v∧F' 7=.n 0∧F' 15=.sl s 1 (R.map TG)∧F' 16=.n (R.length:Nat)∧F' 17=.n (i:Nat)∧F' 10=u∧F' 21=.sl (Cov.nm R[i]) 4 (R[i].map AX)∧F' 22=.n (R[i].length:Nat)∧F' 23=.n (k:Nat)∧Sm.ext H H'∧outG 4 AX H ((R[i].map (GI sdP p.vars)).take k) u H'∧Bd.fstE (scC p.vars) (R[i].take k)=0) R[i].length
    ⟨0,.sl .nil 0 [],AZ,EE f2,EE f6,EE f7,EE f15,EE f16,EE f17,AL,AL,AL,AL,ext.rfl' _,outG.nil _ _ _ _,rfl⟩ ?_
   clear f2 f6 f7 f15 f16 f17;rintro n2 F H' ⟨k,u,hk,f2,f6,f7,f15,f16,f17,f10,f21,f22,f23,hx2,hou,hf2⟩;refine A8 f22 f23 ?_;refine D8 ?_ ?_<;>intro hk'
   .have hme:=jI hk'
    have hx3:=hx2.app [yK 4 [AX R[i][k]]];have ga:=AQ H' (yK 4 [AX R[i][k]]);have hou:=hou.app [yK 4 [AX R[i][k]]];simp only[vQ,jX,zB,CG,↓reduceIte,jC,enP,PQ,jQ,qU,TD,f21,f23,CX hk',DC O1 JB EC hk',al79,st79]
    generalize H'++[yK 4 [AX R[i][k]]]=H3 at hx3 ga hou|-
    generalize H'.length=ab at ga|-
    have gp3:=DV (hxH.trans hx3) gp;refine DL f2 (SB gp3) (IM ga) ?_;refine(AF3 G hG p hs hv R[i][k] (he _ hmr _ hme) H3).use ?_;by_cases hz:scC p.vars R[i][k]=0
    .rw[AQQ hz]
     have hx4:=hx3.app [yK 4 [AX (GI sdP p.vars R[i][k])]];have go:=AQ H3 (yK 4 [AX (GI sdP p.vars R[i][k])]);have hou:=hou.app [yK 4 [AX (GI sdP p.vars R[i][k])]];refine A8 al79 st79 ?_
     generalize H3++[yK 4 [AX (GI sdP p.vars R[i][k])]]=H4 at hx4 go hou|-
     have hit:k<(R[i].map (GI sdP p.vars)).length:=by rw[jM]; exact hk'
     have hget:(R[i].map (GI sdP p.vars))[k]=GI sdP p.vars R[i][k]:=AZ;obtain⟨u',H5,ha,ho2,_,he2,_,_⟩:=hou.append (P:=jA) V7 JB eQ eE U (by rw[jZ]; omega) hx4 (GI sdP p.vars R[i][k]);rw[<-hget,<-jU hit] at ho2;refine NW (show((0:Int) != 0)=false from rfl) f10 (PI go) @uO ha f23 (CZ k) ?_;exact⟨n2-1,U,k+1,u',U,AC,AC,AC,AC,AC,AC,AC,AC,AC,AC,he2,ho2,by rw[jU hk']; exact AS2 hf2 hz⟩
    .rw[AGS rfl hz]
     have hR4:R4 ET:=⟨_,_,_,_,_,_,rfl⟩
     have hcode:RZ p.vars R=scC p.vars R[i][k]:=by
      obtain⟨ys,hys⟩:=AMR hi' hk';unfold RZ;rw[hys];exact AYM (AK3 hf hf2) hz
     have bz:(scC p.vars R[i][k] != 0)=true:=BG hz;refine DL al79 (AQH H3 hR4) bz ?_;exact⟨v,AC,by rw[hcode],(hxH.trans hx3).app _,fun q=>absurd (hcode▸q) hz⟩
   .rw[jJ (by rw[jM]; omega)] at hou
    rw[jJ U] at hf2;obtain⟨H3,hz,hx3,_,hkeep⟩:=AS4 (YP _) hou hx2 42;have hsl:P9 sdP p.vars (R.take (i+1))=P9 sdP p.vars (R.take i)++[R[i].map (GI sdP p.vars)]:=by unfold P9; rw[jU hi',List.map_append]; rfl
    have hsn:(P9 sdP p.vars (R.take i)).length=i:=by unfold P9; rw[jM,jZ]; omega
    obtain⟨v',H4,ha,ho2,_,he2,_,_⟩:=(outG_ext ho hx3).append (P:=jA) AP8 AMH A0J AUD U U (hxH.trans hx3) (R[i].map (GI sdP p.vars));have ha':EP jA true H3 100 100 v (.sl .full 1 [AGU (R[i].map (GI sdP p.vars))])=some (v',H4):=ha;refine TW f6 f10 f17 @AD0 hz @A7M ha' (CZ i) ?_;exact⟨n-1,U,i+1,v',U,AC,AC,AC,AC,AC,AC,he2,by rw[hsl]; exact ho2,by rw[jU hi',List.flatten_append]; simp only[List.flatten_cons,List.flatten_nil,jP]; exact AK3 hf hf2⟩
  .rw[jJ U] at ho hf
   refine AA ?_;have hf:RZ p.vars R=0:=hf;exact⟨v,AC,by first|exact True.intro|(rw[hf]; exact f7)|rw[hf],hxH,fun _=>ho⟩
 rintro F H ⟨v,f6,f7,hxH,ho⟩;cases bz:(RZ p.vars R != 0)
 .have hz:RZ p.vars R=0:=BG bz
  refine DL f7 bz f6 ?_;refine⟨hx.trans hxH,?_⟩;unfold AQO;rw[if_pos hz,hz];show AV.tup [EZ h.length H 2 v,_]=_;rw[PW AYO (ho hz) h.length 0 (by have:=hx.le; omega)]; rfl
 .have hz:RZ p.vars R≠0:=BG bz
  refine A8 f7 bz ?_;refine⟨hx.trans hxH,?_⟩;unfold AQO;rw[if_neg hz]; rfl
end
theorem bsA (h:Hp)(m:SM)(xs:List (List AV)):C9 jA false h 25 1 [(0,.sl m 1 xs)]=some (.sl .full 1 [[.sl m 1 xs]],h):=A7
theorem ud25:Tryz.prog.underlying 25=some (.slice 32):=A7
theorem zs25:SK jA 32=some 1:=A7
theorem by25:KG jA 32=some 24:=A7
def bA {α β:Type}(f:α->Option β):List α->Option (List β)
 | []=>some []
 | x::xs=>match f x with
   | some y=>match bA f xs with
     | some ys=>some (y::ys)
     | none=>none
   | none=>none
theorem tC {α β:Type}{f:α->Option β}:∀ {xs:List α} {ys:List β} {x:α} {y:β},bA f xs=some ys->f x=some y->bA f (xs++[x])=some (ys++[y])
 | [],ys,x,y,h,hx=>by
   cases h;rw[qJ];unfold bA;rw[hx]; rfl
 | a::xs,ys,x,y,h,hx=>by
   unfold bA at h
   cases ha:f a with
   | none=>rw[ha] at h; cases h
   | some b =>
     rw[ha] at h
     cases hb:bA f xs with
     | none=>rw[hb] at h; cases h
     | some bs =>
       rw[hb] at h;cases h;have ih:=tC hb hx;rw[List.cons_append];unfold bA;rw[ha,ih]; rfl
theorem tD {α β:Type}{f:α->Option β}:∀ {xs:List α} {x:α},x∈xs->f x=none->bA f xs=none
 | [],x,h,_=>by cases h
 | a::xs,x,h,hx=>by
   unfold bA;rcases zQ.1 h with rfl|h
   .rw[hx]
   .cases f a with
    | none=>rfl
    | some b=>rw[tD h hx]
theorem VF {α β:Type}{f:α->Option β}:∀ {xs:List α} {ys:List β},bA f xs=some ys->ys.length=xs.length∧∀(i:Nat) (h1:i<xs.length) (h2:i<ys.length),f xs[i]=some ys[i]
 | [],ys,h=>by cases h; exact⟨rfl,fun i h1=>by cases h1⟩
 | a::xs,ys,h=>by
   unfold bA at h
   cases ha:f a with
   | none=>rw[ha] at h; cases h
   | some b =>
     rw[ha] at h
     cases hb:bA f xs with
     | none=>rw[hb] at h; cases h
     | some bs =>
       rw[hb] at h;cases h;obtain⟨i1,i2⟩:=VF hb;refine⟨by simp [i1],fun i h1 h2=>?_⟩
       cases i with
       | zero=>exact ha
       | succ i=>exact i2 i (BG h1) (BG h2)
def JV (p:Pr):List Ex:=p.hard++V8 p
def kM (s:Bw)(ins:Ex->List Rng->Ex)(p:Pr)(m:Mo)(x:Hl):Option (List (List Int)):=bA (fun S=>U0 p (JV p++S)) (P9 s p.vars (cnL ins m x))
def MP (s:Bw)(ins:Ex->List Rng->Ex)(p:Pr)(m:Mo)(x:Hl):Int :=
 if IJ p≠0∨MF m x=false then 1 else if cnE ins m x≠0 then cnE ins m x else if RZ p.vars (cnL ins m x)≠0 then RZ p.vars (cnL ins m x) else if(kM s ins p m x).isSome then 0 else 11
def VE (s:Bw)(ins:Ex->List Rng->Ex)(p:Pr)(m:Mo)(x:Hl):List (List Int):=if MP s ins p m x=0 then (kM s ins p m x).getD [] else []
def AGZ (f:List Int->List AV)(s:Bw)(ins:Ex->List Rng->Ex)(p:Pr)(m:Mo)(x:Hl):AV:=.tup [.sl (Cov.nm (VE s ins p m x)) 1 ((VE s ins p m x).map f),.n (MP s ins p m x)]
theorem AV3 (l:List Sg)(e:Ex):FQ l (cpE e)=FQ l e:=by
 induction e using Ex.induct with|h e ih=>?_
 rw[JY,JY l e,ALQ,A62,lK,AAF,JD,JD,qW];congr 1;exact yA fun a ha=>ih a ha
def Pn (vs:List Vr)(x:Ex):Prop:=OW x=false∧PG vs x=false
theorem Pn.op {x:Ex}(h:x.op≠2∧x.op≠3∧x.op≠24):Pn vs x:=by
 unfold Pn OW PG;simp [h.1,h.2.1,h.2.2]
theorem vB {op n:Int}{name:ByteArray}{m:SM}{l:List Ex}(h:Pn vs (.mk op n name m l))(hl:∀a∈l,∀x∈pre a,Pn vs x):∀x∈pre (.mk op n name m l),Pn vs x:=by
 intro x hx;rw[pre_eq] at hx;rcases zQ.1 hx with rfl|hx
 .exact h
 .obtain⟨a,ha,hxa⟩:=Ho.mem_pres.1 hx
  exact hl a ha x hxa
theorem AVG (n:Int):∀x∈pre (cE n),Pn vs x:=vB (Pn.op (by refine⟨?_,?_,?_⟩<;>(show(1:Int)≠_; decide))) fun a h=>by cases h
theorem AAY {a:ByteArray}(h:0<=plc vs (elN a k)):∀x∈pre (vaE a k),Pn vs x:=vB (by
 unfold Pn OW PG;refine⟨rfl,?_⟩;show((2:Int)==2&&decide (plc vs (elN a k)<0))=false
 simp; omega) fun a h=>by cases h
theorem AL7 {vs:List Vr}{a:ByteArray}{n:Nat}(h:∀k,k<n->0<=plc vs (elN a k)):∀k,k<n->∀x∈pre (V9 a k),Pn vs x
 | 0,hk=>AAY (h 0 hk)
 | k+1,hk=>vB (Pn.op (by refine⟨?_,?_,?_⟩<;>(show(7:Int)≠_; decide))) fun y hy=>by
   simp only[zQ,List.not_mem_nil,or_false] at hy;rcases hy with rfl|rfl
   .exact AL7 h k U
   .exact AAY (h (k+1) hk)
theorem AVF {c:Ex->Ex}{vs:List Vr}{a:ByteArray}{i:Ex}{n:Nat}(h:∀k,k<n->0<=plc vs (elN a k))(hi:∀x∈pre (c i),Pn vs x):∀j,j<=n->∀x∈pre (chK c a i n j),Pn vs x
 | 0,_=>AVG 0
 | j+1,hj=>vB (Pn.op (by refine⟨?_,?_,?_⟩<;>(show(22:Int)≠_; decide))) fun y hy=>by
   simp only[zQ,List.not_mem_nil,or_false] at hy;rcases hy with rfl|rfl|rfl
   .refine vB (Pn.op (by refine⟨?_,?_,?_⟩<;>(show(15:Int)≠_; decide))) fun y hy=>?_
    simp only[zQ,List.not_mem_nil,or_false] at hy;rcases hy with rfl|rfl
    .exact hi
    .exact AVG _
   .exact AAY (h _ U)
   .exact AVF h hi j U
theorem A8N (h:∀x∈pre e,Pn vs x):∀x∈pre (cpE e),Pn vs x:=by
 intro x hx;rw[AG4] at hx;obtain⟨y,hy,rfl⟩:=zH.1 hx;have:=h y hy
 unfold Pn OW PG at this|-
 rw[ALQ,lK]; exact this
theorem A2J (vs:List Vr)(e:Ex):NdOk e->OQ vs e=false->∀x∈pre (GI sdP vs e),Pn vs x:=by
 induction e using Ex.induct with|h e ih=>?_
 intro hn hu;rw[WB];unfold scF;by_cases o24:e.op=24
 .rw[if_pos o24]
  have:=V6 hu (.inr o24);exact AL7 (n:=szA vs e.name) (fun k hk=>vN hk) _ U
 rw[if_neg o24];by_cases o3:e.op=3
 .rw[if_pos o3]
  have hz:=V6 hu (.inl o3);obtain⟨b,hb⟩:=VR hn.self o3;have hm:b∈e.args:=by rw[hb]; simp
  have ihb:=ih b hm (hn.arg hm) (QM hu hm);obtain⟨c1,c2⟩:=eU (s:=sdP) (hn.arg hm) (QM hu hm);rw[hb];show ∀x∈pre (ZT cpE e.name (GI sdP vs b) (szA vs e.name)),Pn vs x;unfold ZT;split
  .rename_i q
   split
   .have h0:=c1.1 q
    have hn2:=c2 h0;exact AAY (vN U)
   .exact AVG 0
  .exact AVF (fun k hk=>vN hk) (A8N ihb) _ (jF _)
 .rw[if_neg o3]
  refine vB ?_ fun a ha=>?_
  .rw[UG,wF] at hu
   have h1:=hu.1;unfold QC at h1;unfold Pn OW PG;refine⟨?_,?_⟩
   .show((e.op==3)||(e.op==24))=false
    simp [o3,o24]
   .show((e.op==2)&&decide (plc vs e.name<0))=false
    exact(wF.1 h1).1
  .obtain⟨b,hb,rfl⟩:=zH.1 ha
   exact ih b hb (hn.arg hb) (QM hu hb)
theorem A2I (he:exE e=0)(h:scC vs e=0):xpE vs (GI sdP vs e)=0:=by
 have hn:=NdOk.of he;unfold scC at h
 cases hu:OQ vs e with
 | true=>rw[hu,if_pos rfl] at h; exact absurd h DF
 | false =>
   rw[hu,if_neg DF] at h;by_cases hx:400<(H6 vs e).1
   .rw[if_pos hx] at h; exact absurd h DF
   rw[if_neg hx] at h;have hp:=A2J vs e hn hu;have h2:pL (GI sdP vs e)=false:=qM.2 fun x hx=>by rw[(hp x hx).1]; simp
   have h3:kV vs (GI sdP vs e)=false:=qM.2 fun x hx=>by rw[(hp x hx).2]; simp
   unfold xpE;rw[if_neg (by rw[h]; simp)];unfold plE;rw[h2,h3]; rfl
theorem AYI (hv:IJ p=0):∀e∈p.hard,xpE p.vars e=0:=by
 have h2:J5 p.vars (p.hard++p.soft)=0:=by
  unfold IJ at hv;by_cases h1:KE p.vars≠0
  .rw[if_pos h1] at hv; exact absurd hv h1
  rw[if_neg h1] at hv;by_cases h2:J5 p.vars (p.hard++p.soft)≠0
  .rw[if_pos h2] at hv; exact absurd hv h2
  simpa using h2
 intro e he;unfold J5 at h2;exact Bd.fstE_zero h2 e (List.mem_append_left _ he)
theorem A2H {R:List (List Ex)}(he:∀r∈R,∀e∈r,exE e=0)(hz:RZ p.vars R=0):∀S∈P9 sdP p.vars R,∀e∈S,xpE p.vars e=0:=by
 intro S hS e heS;unfold P9 at hS;obtain⟨r,hr,rfl⟩:=zH.1 hS;obtain⟨x,hx,rfl⟩:=zH.1 heS;exact A2I (he r hr x hx) (Bd.fstE_zero hz x (List.mem_flatten.2 ⟨r,hr,hx⟩))
theorem ACA (hv:IJ p=0){S:List Ex}(hS:∀e∈S,xpE p.vars e=0):∀e∈JV p++S,xpE p.vars e=0:=by
 intro e he;unfold JV at he;rcases zI.1 he with h|h
 .rcases zI.1 h with h|h
  .exact AYI hv e h
  .exact A2B hv e h
 .exact hS e h
theorem A1J (hv:MF m x=true)(hc:cnE ins m x=0):∀r∈cnL ins m x,∀e∈r,exE e=0:=by
 unfold cnE at hc;rw[if_pos hv] at hc;by_cases q:(cnL ins m x).flatten.all (fun e=>exE e==0)=true
 .intro r hr e he
  have:=zL.1 q e (List.mem_flatten.2 ⟨r,hr,he⟩);simpa using this
 .rw[if_neg q] at hc; exact absurd hc DF
structure Sm51 (p:Pr):Prop where
 hard:p.hard.length<=100000
 dists:p.dists.length<=100000
 bits:IJ p=0->lft p (dP p)<=262144
def YL (a:List Int):List AV:=[.sl .any 1 (a.map Bins.qencI)]
theorem A6O:Frz YL:=fun _ _ _ _=>⟨rfl,rfl⟩
def AGY (f:List Int->List AV)(s:Bw)(ins:Ex->List Rng->Ex)(p:Pr)(m:Mo)(x:Hl):AV:=.tup [fzG 1 f (VE s ins p m x),.n (MP s ins p m x)]
theorem AWQ (f:List Int->List AV)(s:Bw)(ins:Ex->List Rng->Ex)(p:Pr)(m:Mo)(x:Hl):CvR (AGY f s ins p m x) (AGZ f s ins p m x):=CvR.tup (CvRL.cons WP (CvRL.cons (CvR.refl _) CvRL.nil))
theorem ACF {f:List Int->List AV}{z:Int}(h:MP s ins p m x=z)(hz:z≠0):AGY f s ins p m x=.tup [.sl .nil 0 [],.n z]:=by
 unfold AGY VE;rw[h,if_neg hz]; rfl
theorem AWP {f:List Int->List AV}{al:List (List Int)}(h:MP s ins p m x=0)(ha:kM s ins p m x=some al):AGY f s ins p m x=.tup [fzG 1 f al,.n 0]:=by
 unfold AGY VE;rw[h,if_pos rfl,ha]; rfl
theorem sV (h:IJ p≠0∨MF m x=false):MP s ins p m x=1:=by unfold MP; rw[if_pos h]
theorem A0W (h1:IJ p=0)(h2:MF m x=true)(h:cnE ins m x≠0):MP s ins p m x=cnE ins m x:=by unfold MP; rw[if_neg (by rw[h1,h2]; simp),if_pos h]
theorem A0V (h1:IJ p=0)(h2:MF m x=true)(h3:cnE ins m x=0)(h:RZ p.vars (cnL ins m x)≠0):MP s ins p m x=RZ p.vars (cnL ins m x):=by unfold MP; rw[if_neg (by rw[h1,h2]; simp),if_neg (by rw[h3]; simp),if_pos h]
theorem A0U (h1:IJ p=0)(h2:MF m x=true)(h3:cnE ins m x=0)(h4:RZ p.vars (cnL ins m x)=0):MP s ins p m x=if(kM s ins p m x).isSome then 0 else 11:=by unfold MP; rw[if_neg (by rw[h1,h2]; simp),if_neg (by rw[h3]; simp),if_neg (by rw[h4]; simp)]
theorem ARJ (h:FK m≠0):MF m x=false:=by
 cases q:MF m x
 .rfl
 .exact absurd (vI q) h
theorem AT9 (hv:MF m x=true):(cnL ins m x).length<=8∧∀r∈cnL ins m x,r.length<=8:=by
 have h0:=vI hv;have hL:=fC hv
 have hl:=uV (cs:=(NI m x).map (cdQ ins m)) (by rw[jM]; exact hL.n4) (fun c hc=>by
  obtain⟨q,hq,rfl⟩:=zH.1 hc;obtain⟨a,b⟩:=hL.ok q hq
  exact(lL h0 a b).2) (fun c hc r hr=>by
  obtain⟨q,hq,rfl⟩:=zH.1 hc;obtain⟨a,b⟩:=hL.ok q hq
  exact(AE8 (P:=fun _=>True) h0 a b (fun l _=>⟨trivial,trivial⟩) r hr).1)
 exact⟨hl.1,hl.2.1⟩
theorem AS3 (r:Option (List Int))(n:Nat)(H:Hp):EZ n H 3 (AHX r)=AHX r:=by cases r<;>rfl
theorem lZ (p:Pr):(V8 p).length=p.dists.length:=by unfold V8; rw[jM]
section
variable (G:Nat->AV)
theorem AHH (hG:GOk G)(p:Pr)(hs:PrS p)(hv:IJ p=0)(lm:SM)(l:List Ex)(hl:l.length<=1048576)(hk:∀e∈l,xpE p.vars e=0)(hst:lft p (dP p)<=262144)(h:Hp):
  PCall (En G) 47 [.agg (CW p),.sl lm 4 (l.map AX)] h (AHX (U0 p l)):=by
 refine XY 3 (AS3 _) ?_;refine acL Tryz.func47 [.tmp 4,.tmp 5] ?_;have gp:=AQ h (yK 5 [CW p]);have hx:=Sm.ext.r1 h (yK 5 [CW p]);refine AY @QA ?_
 generalize h++[yK 5 [CW p]]=H0 at gp hx|-
 refine AY (SB gp) ?_;refine(A0B G hG p hs hv lm l hl (fun e he=>by have:=A0L (hk e he); omega) hk hst H0).use ?_;unfold AHX
 cases U0 p l with
 | none =>
   refine AY (show((11:Int) != 18)=true from rfl) ?_;exact⟨AC,hx⟩
 | some a =>
   refine AY (show((0:Int) != 18)=true from rfl) ?_;exact⟨AC,hx⟩
theorem WY (hG:GOk G)(p:Pr)(hs:PrS p)(hb:Sm51 p)(m:Mo)(hm:MoOk m)(x:Hl)(hn:x.bins.length<=1048576)(h:Hp):PCall (En G) 12 [.agg (CW p),.agg (DR m),.agg (FX x)] h (AGZ YL sdP D7 p m x):=by
 refine PCall.res ?_ (AWQ YL sdP D7 p m x);refine ACalls.pure (R:=fun v H=>Sm.ext h H∧EZ h.length H 3 v=AGY YL sdP D7 p m x) 3 ?_ (fun v H ⟨a,b⟩=>⟨a,b⟩);refine acL Tryz.func12 [.tmp 6,.tmp 7] ?_;have gp:=AB (x:=yK 3 [FX x]) (AB (x:=yK 2 [DR m]) (AQ h (yK 5 [CW p])));have gm:=AB (x:=yK 3 [FX x]) (AQ (h++[yK 5 [CW p]]) (yK 2 [DR m]));have gh:=AQ (h++[yK 5 [CW p]]++[yK 2 [DR m]]) (yK 3 [FX x]);have hx:Sm.ext h (h++[yK 5 [CW p]]++[yK 2 [DR m]]++[yK 3 [FX x]]):=(((ext.rfl' h).app _).app _).app _;refine DL @QA @bxM @bxH ?_
 generalize h++[yK 5 [CW p]]++[yK 2 [DR m]]++[yK 3 [FX x]]=H0 at gp gm gh hx|-
 generalize (h++[yK 5 [CW p]]++[yK 2 [DR m]]).length=xb at gh|-
 generalize (h++[yK 5 [CW p]]).length=mb at gm|-
 have bad:∀z:Int,MP sdP D7 p m x=z->z≠0->EZ h.length H0 3 (.tup [.sl .nil 0 [],.n z])=AGY YL sdP D7 p m x:=fun z q1 q2=>by rw[ACF q1 q2]; rfl
 refine AY (SB gp) ?_;refine(Bd.valid_prog G hG p hs H0).use ?_;cases bv:(IJ p != 0)
 case true =>
  have q:IJ p≠0:=BG bv;refine AY bv ?_;exact⟨hx,bad 1 (sV (.inl q)) DF⟩
 have hv:IJ p=0:=BG bv;refine A8 bv (ldM gm) ?_;refine(S9 G hG m hm H0).use ?_;cases bm:(FK m != 0)
 case true =>
  have q:FK m≠0:=BG bm;refine A8 bv bm ?_;exact⟨hx,bad 1 (sV (.inr (ARJ q))) DF⟩
 refine EM bv bm (ldM gm) (ldH gh) ?_;refine(Ho.valid_prog G hG m hm x hn H0).use ?_;cases bh:MF m x
 case false =>
  refine DL bv bm bh ?_;exact⟨hx,bad 1 (sV (.inr bh)) DF⟩
 refine JG bv bm bh (ldM gm) (ldH gh) ?_;refine(qD G hG m hm x hn H0).use ?_;by_cases hc:cnE D7 m x=0
 rotate_left
 .have e:cnV D7 m x=.tup [.sl .nil 0 [],.n (cnE D7 m x)]:=by unfold cnV; rw[if_neg hc]
  have bc:(cnE D7 m x != 0)=true:=BG hc;rw[e];refine AY bc ?_;exact⟨hx,bad _ (A0W hv bh hc) hc⟩
 have e:cnV D7 m x=.tup [.sl .any 1 ((cnL D7 m x).map TG),.n 0]:=by unfold cnV; rw[if_pos hc,hc]
 have hce:=A1J bh hc;obtain⟨hcl,hcr⟩:=AT9 (ins:=D7) bh;have hr4:=A0U (s:=sdP) hv bh hc;have hr3:=A0V (s:=sdP) hv bh hc;have hrA:kM sdP D7 p m x=bA (fun S=>U0 p (JV p++S)) (P9 sdP p.vars (cnL D7 m x)):=rfl;rw[e]
 generalize cnL D7 m x=R at hce hcl hcr hr3 hr4 hrA|-
 refine A8 (show((0:Int) != 0)=false from rfl) (SB gp) ?_;refine(vU G hG p hs hv .any R U (fun r hr=>by have:=hcr r hr; omega) hce H0).use ?_;by_cases hz:RZ p.vars R=0
 rotate_left
 .have e:AGR sdP p.vars R=.tup [.sl .nil 0 [],.n (RZ p.vars R)]:=by unfold AGR; rw[if_neg hz]
  have bc:(RZ p.vars R != 0)=true:=BG hz;rw[e];refine AY bc ?_;exact⟨hx,bad _ (hr3 hz) hz⟩
 have e:AGR sdP p.vars R=.tup [.sl (Cov.nm (P9 sdP p.vars R)) 1 ((P9 sdP p.vars R).map TG),.n 0]:=by unfold AGR; rw[if_pos hz,hz]
 have hSx:=A2H hce hz
 have hSl:(P9 sdP p.vars R).length<=8∧∀S∈P9 sdP p.vars R,S.length<=8:=by
  refine⟨by unfold P9; rw[jM]; exact hcl,fun S hS=>?_⟩;unfold P9 at hS;obtain⟨r,hr,rfl⟩:=zH.1 hS;rw[jM]; exact hcr r hr
 have hr4:=hr4 hz;rw[e]
 generalize P9 sdP p.vars R=L at hSx hSl hrA|-
 have lh:BH jA H0 23 (.ptr h.length 0 1)=some (.sl p.hm 4 (p.hard.map AX)):=by rw[BA LH gp (row:=CW p) rfl]; rfl
 refine AY (show((0:Int) != 0)=false from rfl) ?_;have hfl:Bd.fl [⟨p.hm,p.hard⟩,⟨.any,V8 p⟩]=JV p:=by simp [Bd.fl,JV]
 have hrl:(JV p).length<=200000:=by unfold JV; rw[jT,lZ]; have:=hb.hard; have:=hb.dists; omega
 have hcc:=Bd.concat_prog G [⟨p.hm,p.hard⟩,⟨.any,V8 p⟩] .full AZ (by rw[hfl]; omega) H0;rw[hfl] at hcc;refine DZ A7 ?_;refine DL @bJ lh (SB gp) ?_;refine⟨_,eM G hG p hs hv H0,?_⟩;simp only[vQ,LM,O4,NU,CG,WV,↓reduceIte,jC,jS,enP,iO,AUH];refine⟨_,hcc,?_⟩;have hrx:=fun S (q:∀e∈S,xpE p.vars e=0)=>ACA (p:=p) hv (S:=S) q
 generalize JV p=rl at hrl hrA hrx|-
 simp only[jM]
 refine BJ (fun n F H=>∃i v done,n+i=L.length∧F 3=.ptr h.length 0 0∧F 11=.sl (Cov.nm rl) 4 (rl.map AX)∧F 12=v∧F 55=.sl (Cov.nm L) 1 (L.map TG)∧F 56=.n (L.length:Nat)∧F 57=.n (i:Nat)∧Sm.ext H0 H∧outG 1 YL H0 done v H∧bA (fun S=>U0 p (rl++S)) (L.take i)=some done) L.length
  ⟨0,.sl .nil 0 [],[],AZ,by simp only[AU,↓reduceIte,jC],by simp only[AU,↓reduceIte,jC],by simp only[AU,↓reduceIte,jC],by simp only[AU,↓reduceIte,jC],by simp only[AU,↓reduceIte,jC],by simp only[AU,↓reduceIte]; rfl,ext.rfl' _,outG.nil _ _ _ _,rfl⟩ ?_
 rintro n F H ⟨i,v,done,hi,f3,f11,f12,f55,f56,f57,hxH,ho,hd⟩;refine A8 f56 f57 ?_;refine D8 ?_ ?_<;>intro hi'
 .have hme:=jI hi'
  have hdl:=(VF hd).1;rw[jZ] at hdl;have gp1:=DV hxH gp;have lr:BH jA H 23 (.fptr 1 (L.map TG) i 0)=some (.sl (Cov.nm L[i]) 4 (L[i].map AX)):=by rw[CU LH hi']; rfl
  have hfl2:Bd.fl [⟨Cov.nm rl,rl⟩,⟨Cov.nm L[i],L[i]⟩]=rl++L[i]:=by simp [Bd.fl]
  have hll:(rl++L[i]).length<=1048576:=by rw[jT]; have:=hSl.2 _ hme; omega
  have hcc2:=Bd.concat_prog G [⟨Cov.nm rl,rl⟩,⟨Cov.nm L[i],L[i]⟩] .full AZ (by rw[hfl2]; exact hll) H;rw[hfl2] at hcc2;refine P7 f55 f57 hi' lr ?_;refine DZ A7 ?_;refine EM f3 f11 (SB gp1) AUH ?_;refine⟨_,hcc2,_,AHH G hG p hs hv _ (rl++L[i]) hll (hrx _ (hSx _ hme)) (hb.bits hv) H,?_⟩;unfold AHX
  cases hq:U0 p (rl++L[i]) with
  | none =>
    have hnone:kM sdP D7 p m x=none:=by rw[hrA]; exact tD hme hq
    refine AY (show((11:Int) != 0)=true from rfl) ?_;refine⟨hx.trans hxH,?_⟩;rw[ACF (z:=11) (by rw[hr4,hnone]; rfl) DF]; rfl
  | some a =>
    obtain⟨v',H4,ha,ho2,_,he2,_,_⟩:=ho.append (P:=jA) ud25 vP zs25 by25 U U hxH a;change EP jA true H 25 25 v (.sl .full 1 [[.sl .any 1 (a.map Bins.qencI)]])=_ at ha;refine NY (show((0:Int) != 0)=false from rfl) f12 @bsA ha f57 (CZ i) ?_;exact⟨n-1,U,i+1,v',done++[a],U,AC,AC,AC,AC,AC,AC,he2,ho2,by rw[jU hi']; exact tC hd hq⟩
 .rw[jJ U] at hd
  have hsome:kM sdP D7 p m x=some done:=by rw[hrA]; exact hd
  refine AY f12 ?_;refine⟨hx.trans hxH,?_⟩;rw[AWP (by rw[hr4,hsome]; rfl) hsome];show AV.tup [EZ h.length H 2 v,_]=_;rw[PW A6O ho h.length 0 (by have:=hx.le; omega)]; rfl
def AWU (s:Bw)(ins:Ex->List Rng->Ex)(p:Pr)(m:Mo)(x:Hl):AV:=.tup [.bool (decide (MP s ins p m x=11)),.n (if MP s ins p m x=11 then 0 else MP s ins p m x)]
theorem AF4 (hG:GOk G)(p:Pr)(hs:PrS p)(hb:Sm51 p)(m:Mo)(hm:MoOk m)(x:Hl)(hn:x.bins.length<=1048576)(h:Hp):PCall (En G) 14 [.agg (CW p),.agg (DR m),.agg (FX x)] h (AWU sdP D7 p m x):=by
 refine XY 3 (fun n H=>rfl) ?_;refine acL Tryz.func14 [.tmp 6,.tmp 7] ?_;have gp:=AB (x:=yK 3 [FX x]) (AB (x:=yK 2 [DR m]) (AQ h (yK 5 [CW p])));have gm:=AB (x:=yK 3 [FX x]) (AQ (h++[yK 5 [CW p]]) (yK 2 [DR m]));have gh:=AQ (h++[yK 5 [CW p]]++[yK 2 [DR m]]) (yK 3 [FX x]);have hx:Sm.ext h (h++[yK 5 [CW p]]++[yK 2 [DR m]]++[yK 3 [FX x]]):=(((ext.rfl' h).app _).app _).app _;refine DL @QA @bxM @bxH ?_
 generalize h++[yK 5 [CW p]]++[yK 2 [DR m]]++[yK 3 [FX x]]=H0 at gp gm gh hx|-
 refine DL (SB gp) (ldM gm) (ldH gh) ?_;refine(WY G hG p hs hb m hm x hn H0).use ?_;unfold AGZ AWU;generalize MP sdP D7 p m x=c;refine AA ?_;refine BM ?_ ?_<;>intro hc
 .have hc:c=11:=BG hc
  refine AA ?_;exact⟨by rw[hc]; rfl,hx⟩
 .have hc:¬c=11:=BG hc
  refine AA ?_;exact⟨by rw[if_neg hc,decide_eq_false hc],hx⟩
end
section
variable (G:Nat->AV)
theorem AGA (p:Pr)(hs:PrS p)(a:List Int)(m:SM)(hl:a.length=p.vars.length)(h:Hp):PCall (En G) 72 [.agg (CW p),.sl m 1 (a.map Bins.qencI)] h (.sl (Cov.nm (F8 p.vars a)) 2 ((F8 p.vars a).map FN)):=by
 have hvl:=hs.vars;have hel:=Q8 hl;refine KD A6I ?_;refine JE (H:=hint [31] []) (enM G) Tryz.func72 rfl (by kernel_rfl) (by kernel_rfl) (jB (by kernel_rfl)) ?_;show awp _ _ _ _ _ (MJ _ [.tmp 4] _);have ge:=AQ h (yK 5 [CW p]);have hx:=Sm.ext.r1 h (yK 5 [CW p]);refine AY @QA ?_
 generalize h++[yK 5 [CW p]]=H0 at ge hx|-
 generalize hpb:h.length=pb at ge|-
 have l22:∀ {H:Hp},Sm.ext H0 H->BH jA H 22 (.ptr pb 0 0)=some (.sl p.vm 4 (p.vars.map encV)):=fun q=>by rw[BA XK (DV q ge) (row:=CW p) rfl]; rfl
 have hne:(((a.length:Nat):Int) != ((p.vars.length:Nat):Int))=false:=by rw[hl]; simp
 refine A8 (l22 (ext.rfl' H0)) hne ?_
 refine BJ (fun n F H=>∃i u,n+i=a.length∧F 1=.sl m 1 (a.map Bins.qencI)∧F 5=u∧F 15=.sl p.vm 4 (p.vars.map encV)∧F 16=.n (p.vars.length:Nat)∧F 17=.n (i:Nat)∧Sm.ext H0 H∧outG 2 FN H0 ((F8 p.vars a).take i) u H) a.length
  ⟨0,.sl .nil 0 [],AZ,AL,AL,AL,AL,AL,ext.rfl' _,outG.nil _ _ _ _⟩ ?_
 rintro n F H ⟨i,u,hi,f1,f5,f15,f16,f17,hxH,ho⟩;refine A8 f16 f17 ?_;refine D8 (fun hiv=>?_) (fun hi'=>?_)
 .have hi':i<a.length:=U
  have hie:i<(F8 p.vars a).length:=U;have hx1:=hxH.app [yK 4 [encV p.vars[i]]];have ho:=ho.app [yK 4 [encV p.vars[i]]];have gg:=AQ H (yK 4 [encV p.vars[i]]);simp only[vQ,List.contains_cons,jX,zB,qB,CG,↓reduceIte,jC,enP,bE,jQ,f15,f17,CX hiv,DC AL1 lY encV_len hiv,al61,st61]
  generalize H++[yK 4 [encV p.vars[i]]]=H1 at hx1 ho gg|-
  generalize H.length=gb at gg|-
  obtain⟨v',H',ha,ho',_,hx',_,_⟩:=ho.append (P:=jA) A0N A7 A0H A1K U (by rw[jZ]; omega) hx1 (p.vars[i].name,a[i]);rw[<-ZF hiv hi' hie,<-jU hie] at ho';have ln:BH jA H1 9 (.ptr gb 0 0)=some (.str p.vars[i].name):=by rw[BA ag9 gg (row:=encV p.vars[i]) rfl]; rfl
  have la:BH jA H1 3 (.fptr 1 (a.map Bins.qencI) i 0)=some (.n a[i]):=by rw[CU ag3 hi']; rfl
  try refine AA ?_
  refine DZ A7 ?_;refine cC f1 f5 f17 hi' ln la A7R A7K ha (CZ i) ?_;exact⟨n-1,U,i+1,v',U,AC,AC,AC,AC,AC,hx',ho'⟩
 .rw[jJ U] at ho
  refine AY f5 ?_;refine⟨hx.trans hxH,?_⟩;rcases ho with⟨a,b⟩|⟨a,o,b,c,d⟩
  .exact .inl ⟨a,b⟩
  .exact .inr ⟨a,o,qQ hx.le b,c,d⟩
theorem AIS (p:Pr)(hs:PrS p)(P:PV p)(a:List Int)(m:SM)(ok:AOk p a)(h:Hp):PCall (En G) 142 [.agg (CW p),.sl m 1 (a.map Bins.qencI)] h (.bool true):=by
 have hvl:=hs.vars;have hl:=ok.len;refine ACalls.pure0 rfl ?_;refine acT Tryz.func142 4 ?_;have ge:=AQ h (yK 5 [CW p]);have hx:=Sm.ext.r1 h (yK 5 [CW p]);refine AY @QA ?_
 generalize h++[yK 5 [CW p]]=H0 at ge hx|-
 generalize hpb:h.length=pb at ge|-
 have l22:∀ {H:Hp},Sm.ext H0 H->BH jA H 22 (.ptr pb 0 0)=some (.sl p.vm 4 (p.vars.map encV)):=fun q=>by rw[BA XK (DV q ge) (row:=CW p) rfl]; rfl
 have hne:(((a.length:Nat):Int) != ((p.vars.length:Nat):Int))=false:=by rw[hl]; simp
 refine A8 (l22 (ext.rfl' H0)) hne ?_
 refine BJ (fun n F H=>∃i,n+i=a.length∧F 1=.sl m 1 (a.map Bins.qencI)∧F 14=.sl p.vm 4 (p.vars.map encV)∧F 15=.n (p.vars.length:Nat)∧F 16=.n (i:Nat)∧Sm.ext H0 H) a.length
  ⟨0,AZ,AL,AL,AL,AL,ext.rfl' _⟩ ?_
 rintro n F H ⟨i,hi,f1,f14,f15,f16,hxH⟩;refine A8 f15 f16 ?_;refine BM ?_ ?_<;>intro hc
 .have hiv:i<p.vars.length:=BG hc
  have hi':i<a.length:=U;obtain⟨_,w1,w8,_,_,v0,v1,_⟩:=SN (P.vr _ (jI hiv));have hgd:a.getD i 0=a[i]:=by rw[zF,jG hi']; rfl
  have hst:=ok.st i hiv;have hrn:=ok.rn i hiv;rw[hgd] at hst hrn
  have hr:0<=a[i]∧a[i]<2^p.vars[i].width.toNat:=by
   by_cases hm:p.vars[i].mode=0
   .rw[hst hm]; exact⟨v0,v1⟩
   .exact hrn hm
  have hx1:=hxH.app [yK 4 [encV p.vars[i]]];have gg:=AQ H (yK 4 [encV p.vars[i]]);simp only[vQ,CG,↓reduceIte,jC,enP,bE,jQ,f14,f16,CX hiv,DC AL1 lY encV_len hiv,al61,st61]
  generalize H++[yK 4 [encV p.vars[i]]]=H1 at hx1 gg|-
  generalize H.length=gb at gg|-
  have l1:BH jA H1 3 (.ptr gb 0 1)=some (.n p.vars[i].width):=by rw[BA ag3 gg (row:=encV p.vars[i]) rfl]; rfl
  have l2:BH jA H1 3 (.ptr gb 0 2)=some (.n p.vars[i].mode):=by rw[BA ag3 gg (row:=encV p.vars[i]) rfl]; rfl
  have l3:BH jA H1 3 (.ptr gb 0 3)=some (.n p.vars[i].value):=by rw[BA ag3 gg (row:=encV p.vars[i]) rfl]; rfl
  have la:BH jA H1 3 (.fptr 1 (a.map Bins.qencI) i 0)=some (.n a[i]):=by rw[CU ag3 hi']; rfl
  have c1:decide (a[i]<0)=false:=decide_eq_false U;have c2:decide (a[i]≥2^p.vars[i].width.toNat)=false:=decide_eq_false U;have hsh:=Bd.shl_w (w:=p.vars[i].width) U U
  try refine AA ?_
  refine DZ A7 ?_;cases c3:(p.vars[i].mode==0)
  .refine cC f1 f16 hi' la c1 l1 hsh c2 l2 c3 ?_
   exact⟨n-1,U,i+1,U,AC,AC,AC,by rw[CZ i],hx1⟩
  .have hv:=hst (BG c3)
   simp only[vQ,MX,QU,eO,pW,XM,OM,PD,EI,CG,JS,ML,↓reduceIte,jC,jS,enP,LY,UN,UM,WR,f1,f16,CX hi',la,c1,l1,hsh,c2,l2,c3,l3,show(a[i] != p.vars[i].value)=false by rw[hv]; simp];exact⟨n-1,U,i+1,U,AC,AC,AC,by rw[CZ i],hx1⟩
 .refine AA ?_
  exact⟨AC,hx.trans hxH⟩
theorem AVK (hG:GOk G)(p:Pr)(hs:PrS p)(hv:IJ p=0)(a:List Int)(m:SM)(ok:AOk p a)(e:Ex)(hk:xpE p.vars e=0)(h:Hp):
  PCall (En G) 69 [.agg (CW p),.sl m 1 (a.map Bins.qencI),.agg (AX e)] h (.bool (!(FQ (F8 p.vars a) e==0))):=by
 have hvl:=hs.vars;have hl:=ok.len;have hel:=Q8 hl;refine ACalls.pure0 rfl ?_;refine acT Tryz.func69 6 ?_;have gp:=AB (x:=yK 4 [AX e]) (AQ h (yK 5 [CW p]));have ge:=AQ (h++[yK 5 [CW p]]) (yK 4 [AX e]);have hx:Sm.ext h (h++[yK 5 [CW p]]++[yK 4 [AX e]]):=((ext.rfl' h).app _).app _;refine A8 @QA @bxE ?_
 generalize h++[yK 5 [CW p]]++[yK 4 [AX e]]=H0 at gp ge hx|-
 generalize (h++[yK 5 [CW p]]).length=eb at ge|-
 refine AY (SB gp) ?_;refine(Bd.valid_prog G hG p hs H0).use ?_;refine A8 (show(IJ p != 0)=false by rw[hv]; rfl) (SB gp) ?_;refine(AIS G p hs (PV.of hv) a m ok H0).use ?_;refine AY (show(IJ p != 0)=false by rw[hv]; rfl) ?_;refine DZ A7 ?_;refine A8 (SB gp) (IM ge) ?_;refine⟨_,AGA G p hs a m hl H0,?_⟩;refine⟨_,ZL G hG (F8 p.vars a) _ e H0 U (by have:=A0L hk; omega),?_⟩;rw[A1D hk hl];unfold evV;refine AA ?_;cases c:(FQ (F8 p.vars a) e==0)
 .have n0:FQ (F8 p.vars a) e≠0:=BG c
  refine DL (show(((0:Int)==0)==true)=true from rfl) (show((0:Int)==0)=true from rfl) (show(((FQ (F8 p.vars a) e:Nat):Int) != 0)=true by simp [n0]) ?_;exact⟨AC,hx⟩
 .have n0:FQ (F8 p.vars a) e=0:=BG c
  refine DL (show(((0:Int)==0)==true)=true from rfl) (show((0:Int)==0)=true from rfl) (show(((FQ (F8 p.vars a) e:Nat):Int) != 0)=false by rw[n0]; rfl) ?_;exact⟨AC,hx⟩
end
def RV (p:Pr)(l:List (List Int)):List Ss:=l.map fun a=>⟨Cov.nm (F8 p.vars a),F8 p.vars a⟩
theorem A6H:Frz aD:=fun _ _ _ _=>⟨rfl,rfl⟩
theorem BAC (h:Hp)(x:Ss):C9 jA false h 73 1 [(0,.sl x.m 2 (x.l.map FN))]=some (.sl .full 1 [aD x],h):=by
 have h3:ZZ 1 0 [(0,AV.sl x.m 2 (x.l.map FN))]=some [aD x]:=rfl;unfold C9;simp only[A4S,A4J,show szO jA 137=some 1 by kernel_rfl,h3];rfl
section
variable (G:Nat->AV)
theorem ATL (p:Pr)(hs:PrS p)(l:List (List Int))(v:AV)(mo:List Int->SM)(hl:∀a∈l,a.length=p.vars.length)(hn:l.length<=1048576)(h:Hp)(hlv:JR jA 25 v=some (.n l.length))
  (hv:∀(i:Nat) (hi:i<l.length) (H:Hp),Sm.ext h H->∃u,IG 1 H v (.n (i:Nat))=some u∧BH jA H 32 u=some (.sl (mo l[i]) 1 (l[i].map Bins.qencI))) :
  PCall (En G) 32 [.agg (CW p),v] h (.sl (Cov.nm (RV p l)) 1 ((RV p l).map aD)):=by
 have hel:(RV p l).length=l.length:=by unfold RV; rw[jM]
 refine KD A6H ?_;refine JE (H:=hint [21] []) (enM G) Tryz.func32 rfl (by kernel_rfl) (by kernel_rfl) (jB (by kernel_rfl)) ?_;show awp _ _ _ _ _ (MJ _ [.tmp 4] _);have ge:=AQ h (yK 5 [CW p]);have hx:=Sm.ext.r1 h (yK 5 [CW p]);refine AY @QA ?_
 generalize h++[yK 5 [CW p]]=H0 at ge hx|-
 generalize hpb:h.length=pb at ge|-
 refine BJ (fun n F H=>∃i u,n+i=l.length∧F 1=v∧F 2=.ptr pb 0 0∧F 5=u∧F 6=.n (i:Nat)∧Sm.ext H0 H∧outG 1 aD H0 ((RV p l).take i) u H) l.length
  ⟨0,.sl .nil 0 [],AZ,AL,AL,AL,AL,ext.rfl' _,outG.nil _ _ _ _⟩ ?_
 rintro n F H ⟨i,u,hi,f1,f2,f5,f6,hxH,ho⟩;refine DL f1 f6 hlv ?_;refine D8 ?_ ?_<;>intro hi'
 .have hie:i<(RV p l).length:=U
  have hat:(RV p l)[i]=⟨Cov.nm (F8 p.vars l[i]),F8 p.vars l[i]⟩:=by simp [RV]
  obtain⟨v',H',ha,ho',_,hx',_,_⟩:=ho.append (P:=jA) A4S A7 A4J A99 U (by rw[jZ]; omega) hxH ⟨Cov.nm (F8 p.vars l[i]),F8 p.vars l[i]⟩;rw[<-hat,<-jU hie] at ho';obtain⟨w,hw,lr⟩:=hv i hi' H (hx.trans hxH)
  try refine AA ?_
  refine DZ A7 ?_;refine NW f1 f2 f5 f6 (SB (DV hxH ge)) hw lr ?_;refine⟨_,AGA G p hs l[i] _ (hl _ (jI hi')) H,?_⟩;refine JG f5 f6 (BAC H ⟨Cov.nm (F8 p.vars l[i]),F8 p.vars l[i]⟩) ha (CZ i) ?_;exact⟨n-1,U,i+1,v',U,AC,AC,AC,AC,hx',ho'⟩
 .rw[jJ U] at ho
  refine AY f5 ?_;refine⟨hx.trans hxH,?_⟩;rcases ho with⟨a,b⟩|⟨a,o,b,c,d⟩
  .exact .inl ⟨a,b⟩
  .exact .inr ⟨a,o,qQ hx.le b,c,d⟩
theorem AOP (p:Pr)(hs:PrS p)(l:List (List Int))(m:SM)(f:List Int->List AV)(mo:List Int->SM)(hf:∀a,f a=[.sl (mo a) 1 (a.map Bins.qencI)])(hl:∀a∈l,a.length=p.vars.length)(hn:l.length<=1048576)(h:Hp):
  PCall (En G) 32 [.agg (CW p),.sl m 1 (l.map f)] h (.sl (Cov.nm (RV p l)) 1 ((RV p l).map aD)) :=
 ATL G p hs l _ mo hl hn h (by rw[xJ.1,jM]) fun i hi H _=>⟨_,CX hi,by rw[CU NE hi,hf]; rfl⟩
theorem ACR (hG:GOk G)(p:Pr)(hs:PrS p)(hb:Sm51 p)(hv:IJ p=0)(a:List Int)(m:SM)(ok:AOk p a)(h:Hp):
  PCall (En G) 30 [.agg (CW p),.sl m 1 (a.map Bins.qencI)] h (.bool (WC p (JV p) a)):=by
 have hk:∀e∈JV p,xpE p.vars e=0:=fun e he=>ACA hv (S:=[]) AZ e (BG he)
 have hlen:(JV p).length=p.hard.length+p.dists.length:=by unfold JV; rw[jT,lZ]
 have hb1:=hb.hard;have hb2:=hb.dists;refine ACalls.pure0 rfl ?_;refine acT Tryz.func30 4 ?_;have ge:=AQ h (yK 5 [CW p]);have hx:=Sm.ext.r1 h (yK 5 [CW p]);refine A8 @bJ @QA ?_
 generalize h++[yK 5 [CW p]]=H0 at ge hx|-
 generalize hpb:h.length=pb at ge|-
 have lh:BH jA H0 23 (.ptr pb 0 1)=some (.sl p.hm 4 (p.hard.map AX)):=by rw[BA LH ge (row:=CW p) rfl]; rfl
 obtain⟨v1,H1,ha1,ho1,hx1,_⟩:=Ho.outK_app (h:=H0) (H:=H0) (xs:=[]) (v:=.sl .nil 0 []) p.hm (.inl ⟨rfl,rfl⟩) (ext.rfl' _) (ys:=p.hard) KH;rw[qJ] at ho1;refine DL lh ha1 (SB (DV hx1 ge)) ?_;refine(eM G hG p hs hv H1).use ?_;obtain⟨v2,H2,ha2,ho2,hx2,_⟩:=Ho.outK_app (h:=H0) (H:=H1) (xs:=p.hard) (v:=v1) .any ho1 hx1 (ys:=V8 p) (by rw[lZ]; omega);rw[show p.hard++V8 p=JV p from rfl] at ho2;refine AY ha2 ?_;have gp:=DV hx2 ge
 refine BJ (fun n F H=>∃i,n+i=(JV p).length∧F 1=.sl m 1 (a.map Bins.qencI)∧F 2=.ptr pb 0 0∧F 5=v2∧F 6=.n (i:Nat)∧H=H2∧((JV p).take i).all (fun e => !(FQ (F8 p.vars a) e==0))=true) (JV p).length
  ⟨0,AZ,AL,AL,AL,AL,rfl,rfl⟩ ?_
 rintro n F H ⟨i,hi,f1,f2,f5,f6,rfl,hall⟩;rcases ho2 with⟨rfl,hz⟩|⟨o,o1,rfl,o3⟩
 .have z0:(JV p).length=0:=by rw[hz]; rfl
  have zi:i=0:=U;subst zi;refine DL f5 f6 (show decide (((0:Nat):Int)<((([]:List (List AV)).length:Nat):Int))=false from rfl) ?_;exact⟨by unfold WC; rw[hz]; first|exact True.intro|rfl,hx.trans hx2⟩
 .refine A8 f5 f6 ?_
  refine D8 ?_ ?_<;>intro hi'
  .have lr:BH jA H 79 (.ptr o i 0)=some (.agg (AX (JV p)[i])):=by
    rw[EF O1 JB o3 (row:=AX (JV p)[i]) (by rw[jV,jG hi']; rfl) (by rw[EC]; omega)];rw[zT,jJ (by rw[EC]; exact jF _)]
   have hts:((JV p).take (i+1)).all (fun e => !(FQ (F8 p.vars a) e==0)) = !(FQ (F8 p.vars a) (JV p)[i]==0):=by
    rw[jU hi',yI,hall]; simp
   try refine AA ?_
   refine DZ A7 ?_;simp only[vQ,AVW,O4,NU,AA1,↓reduceIte,jC,jS,enP,PQ,f1,f2,f5,f6,SB gp,GM o3 hi',lr];refine⟨_,AVK G hG p hs hv a m ok (JV p)[i] (hk _ (jI hi')) H,?_⟩;cases c:(FQ (F8 p.vars a) (JV p)[i]==0)
   .rw[c] at hts
    refine A8 f6 (CZ i) ?_;exact⟨n-1,U,i+1,U,AC,AC,AC,AC,AC,hts⟩
   .have hs0:WC p (JV p) a=false:=by
     unfold WC;rw[List.all_eq_false];exact⟨_,jI hi',by rw[c]; simp⟩
    refine AA ?_;exact⟨by rw[hs0],hx.trans hx2⟩
  .rw[jJ U] at hall
   refine AA ?_;exact⟨by unfold WC; rw[hall],hx.trans hx2⟩
end
theorem AED:∀(l:List Sg) (n:ByteArray),(LG l n).2=false->(LG l n).1=0
 | [],_,_=>rfl
 | s::l,n,h=>by
   unfold LG at h|-
   split
   .rename_i q; rw[if_pos q] at h; cases h
   .rename_i q; rw[if_neg q] at h; exact AED l n h
theorem lB (l:List Sg)(a:ByteArray)(k:Nat):FQ l (vaE a k)=(LG l (elN a k)).1:=by
 unfold vaE JF;rw[JY]; rfl
theorem AIK (l:List Sg)(k:Nat)(hk:k<65536):FQ l (cE (k:Int))=k:=by
 rw[JY];show((k:Nat):Int).toNat%65536=k;rw[qG,yG hk]
theorem gZ (l:List Sg)(a:ByteArray)(hk:k<8):atG l a (k:Nat)=LG l (elN a k):=by
 unfold atG;rw[if_neg U,qG]
theorem at_out (l:List Sg)(a:ByteArray)(hk:8<=k):(atG l a (k:Nat)).1=0:=by
 unfold atG;rw[if_pos U]
theorem ABK (l:List Sg)(a:ByteArray):∀k,k<8->FQ l (V9 a k)=sumTo l a (k+1)
 | 0,_=>by
   show FQ l (vaE a 0)=_;rw[lB];unfold sumTo sumTo;rw[gZ l a U,jH,yG (dS _ _)]
 | k+1,h=>by
   have ih:=ABK l a k U
   have e:FQ l (V9 a (k+1))=(FQ l (V9 a k)+FQ l (vaE a (k+1)))%65536:=by
    show FQ l (.mk 7 0 ⟨#[]⟩ .full [V9 a k,vaE a (k+1)])=_;rw[JY]; rfl
   rw[e,ih,lB]
   conv=>rhs; unfold sumTo
   rw[gZ l a h]
theorem AJP (l:List Sg)(a:ByteArray){z:Nat}:∀d,(∀k,z<=k->(atG l a (k:Nat)).1=0)->sumTo l a (z+d)=sumTo l a z
 | 0,_=>rfl
 | d+1,h=>by
   have ih:=AJP l a d h;show(sumTo l a (z+d)+(atG l a ((z+d:Nat):Int)).1)%65536=_;rw[ih,h (z+d) U,Nat.add_zero,yG (mA l a z)]
theorem ALS (l:List Sg)(c:Ex->Ex)(a:ByteArray)(i:Ex)(hc:FQ l (c i)=FQ l i)(n:Nat)(hn:n<=8):∀j,j<=n->FQ l (chK c a i n j)=if n-j<=FQ l i∧FQ l i<n then (LG l (elN a (FQ l i))).1 else 0
 | 0,_=>by
   rw[if_neg U];exact AIK l 0 U
 | j+1,hj=>by
   have ih:=ALS l c a i hc n hn j U
   have e:FQ l (chK c a i n (j+1))=if tr (FQ l (c i)==FQ l (cE ((n-1-j:Nat):Int)))≠0 then FQ l (vaE a (n-1-j)) else FQ l (chK c a i n j):=by
    show FQ l (.mk 22 0 ⟨#[]⟩ .full [.mk 15 0 ⟨#[]⟩ .full [c i,cE ((n-1-j:Nat):Int)],vaE a (n-1-j),chK c a i n j])=_;rw[JY];show opW 22 [FQ l (.mk 15 0 ⟨#[]⟩ .full [c i,cE ((n-1-j:Nat):Int)]),FQ l (vaE a (n-1-j)),FQ l (chK c a i n j)]=_;rw[show FQ l (.mk 15 0 ⟨#[]⟩ .full [c i,cE ((n-1-j:Nat):Int)])=tr (FQ l (c i)==FQ l (cE ((n-1-j:Nat):Int))) by rw[JY]; rfl];rfl
   rw[e,hc,AIK l _ U,ih,lB];by_cases q:FQ l i=n-1-j
   .rw[q,if_pos (by simp [tr]),if_pos U]
   .rw[if_neg (by simp [tr,q])]
    by_cases w:n-j<=FQ l i∧FQ l i<n
    .rw[if_pos w,if_pos U]
    .rw[if_neg w,if_neg U]
theorem A2V (hv:IJ p=0){a:ByteArray}(hk:k+1<8)(h:0<=plc p.vars (elN a (k+1))):0<=plc p.vars (elN a k):=by
 have hvs:KE p.vars=0:=by
  unfold IJ at hv;by_cases q:KE p.vars=0
  .exact q
  .rw[if_pos q] at hv; exact absurd hv q
 have hg:(p.vars.any fun v=>OX p.vars v.name)=false:=by
  unfold KE at hvs;by_cases a1:p.vars.length>16
  .rw[if_pos a1] at hvs; exact absurd hvs DF
  rw[if_neg a1] at hvs;by_cases a2:Bd.fstE vrE p.vars≠0
  .rw[if_pos a2] at hvs; exact absurd hvs a2
  rw[if_neg a2] at hvs;cases a3:rW p.vars
  .rw[if_neg (by rw[a3]; decide)] at hvs
   cases q:(p.vars.any fun v=>OX p.vars v.name)
   .rfl
   .rw[if_pos q] at hvs; exact absurd hvs DF
  .rw[if_pos a3] at hvs; exact absurd hvs DF
 have P:=PV.of hv;obtain⟨j,hj,_,h1,_⟩:=VH (MZ (elN a (k+1))) p.vars (by unfold plc at h; exact h);have hn:=str_eq h1;obtain⟨v1,_⟩:=SN (P.vr _ (jI hj))
 have hgj:OX p.vars p.vars[j].name=false:=by
  have:=qM.1 hg _ (jI hj);simpa using this
 rw[hn] at v1 hgj
 have hnn:EX (elN a (k+1))=false:=by
  cases hq:EX (elN a (k+1))
  .rfl
  .have e:elN a (k+1)=⟨(elN a (k+1)).data.toList.toArray⟩:=AZ
   rw[e] at hq;have:=(QO hq).2 91 (by rw[NT]; simp);exact absurd rfl this
 unfold FT at v1;rw[hnn,qB] at v1
 cases hc:JO (elN a (k+1)) with
 | none=>rw[hc] at v1; cases v1
 | some ad =>
   obtain⟨b,d⟩:=ad;obtain⟨c1,c2,c3,c4,c5⟩:=MK hc;have hl:=congrArg (fun s:ByteArray=>s.data.toList) c4;simp only[NT] at hl
   have hal:a.data.toList=b:=by
    have:=List.append_inj' hl rfl;simpa using this.1
   have hae:(⟨b.toArray⟩:ByteArray)=a:=by rw[<-hal]
   rw[hae] at c4;have hd:k+1=d.toNat-48:=AAB hk c2 c4;unfold OX at hgj;rw[hc] at hgj;simp only[hae,<-hd] at hgj;have hz:k+1-1=k:=U;rw[hz] at hgj;simpa using hgj
theorem vM (vs:List Vr)(a:ByteArray):∀f n,szF vs a f n<n+f->plc vs (elN a (szF vs a f n))<0
 | 0,n,h=>by unfold szF at h; omega
 | f+1,n,h=>by
   obtain⟨s1,s2⟩:=@lW vs a f n;by_cases q:plc vs (elN a n)<0
   .rw[s1 q]; exact q
   .rw[s2 q] at h|-; exact vM vs a f (n+1) U
theorem AJN {p:Pr}(hv:IJ p=0)(a:ByteArray):∀k,k<8->szA p.vars a<=k->plc p.vars (elN a k)<0
 | 0,h,hz=>by
   have h0:szA p.vars a=0:=U;have:=vM p.vars a 8 0 (by unfold szA at h0; omega);unfold szA at h0; rw[h0] at this; exact this
 | k+1,h,hz=>by
   by_cases q:szA p.vars a=k+1
   .have:=vM p.vars a 8 0 (by unfold szA at q; omega)
    unfold szA at q; rw[q] at this; exact this
   .have ih:=AJN hv a k U U
    apply Classical.byContradiction;intro w;have:=A2V (a:=a) hv h U;omega
theorem A3M (hl:a.length=p.vars.length){n:ByteArray}(h:plc p.vars n<0):(LG (F8 p.vars a) n).1=0:=by
 refine AED _ _ ?_;rw[VK p.vars a hl n];simp; omega
theorem AAN (hv:IJ p=0)(hl:a.length=p.vars.length)(s:ByteArray)(k:Nat)(hk:szA p.vars s<=k):(atG (F8 p.vars a) s (k:Nat)).1=0:=by
 by_cases q:k<8
 .rw[gZ _ _ q]
  exact A3M hl (AJN hv s k q hk)
 .exact at_out _ _ U
theorem AZJ {c:Ex->Ex}{s:ByteArray}{i:Ex}{n j:Nat}(h:(chK c s i n j).op=1):(chK c s i n j).n=0:=by
 cases j with
 | zero=>rfl
 | succ j=>exact absurd (show(22:Int)=1 from h) DF
theorem AWG {vs:List Vr}{e:Ex}(hn:NdOk e)(h:(GI sdP vs e).op=1):0<=(GI sdP vs e).n∧(GI sdP vs e).n<=65535:=by
 have hz:∀x:Ex,x.n=0->0<=x.n∧x.n<=65535:=fun x q=>by rw[q]; decide
 rw[WB] at h|-
 unfold scF at h|-
 by_cases o24:e.op=24
 .rw[if_pos o24] at h
  exfalso
  cases hk:szA vs e.name-1 with
  | zero=>rw[hk] at h; exact absurd (show(2:Int)=1 from h) DF
  | succ k=>rw[hk] at h; exact absurd (show(7:Int)=1 from h) DF
 rw[if_neg o24] at h|-
 by_cases o3:e.op=3
 .rw[if_pos o3] at h|-
  generalize (e.args.map (GI sdP vs)).head?.getD (cE 0)=y at h|-
  unfold ZT at h|-
  by_cases s1:y.op=1
  .rw[if_pos s1] at h|-
   by_cases q:y.n<(szA vs e.name:Int)
   .rw[if_pos q] at h; exact absurd (show(2:Int)=1 from h) DF
   .rw[if_neg q]; exact hz _ rfl
  .rw[if_neg s1] at h|-
   exact hz _ (AZJ h)
 .rw[if_neg o3] at h|-
  have h:e.op=1:=h;exact(ARI (e:=e) hn.self h:0<=e.n∧e.n<=65535)
theorem AY8 (l:List Sg)(e:Ex):FQ l (sdP.c e)=FQ l e:=AV3 l e
theorem AWF (hv:IJ p=0)(hl:a.length=p.vars.length)(e:Ex):NdOk e->OQ p.vars e=false->FQ (F8 p.vars a) (GI sdP p.vars e)=FQ (F8 p.vars a) e:=by
 induction e using Ex.induct with|h e ih=>?_
 intro hn hu;rw[UG] at hu;simp only[wF] at hu;obtain⟨hu0,hua⟩:=hu
 have ih':∀x∈e.args,FQ (F8 p.vars a) (GI sdP p.vars x)=FQ (F8 p.vars a) x:=fun x hx=>ih x hx (hn.arg hx) (by
  have:=qM.1 hua x hx
  simpa using this)
 have hz8:=lX p.vars e.name;rw[WB];unfold scF
 have hunk:e.op=3∨e.op=24->0<szA p.vars e.name:=by
  intro ho;apply Classical.byContradiction;intro q;have hz:szA p.vars e.name=0:=U;unfold QC at hu0;rw[hz] at hu0;rcases ho with o|o<;>rw[o] at hu0<;>simp at hu0
 by_cases o24:e.op=24
 .rw[if_pos o24,ABK _ _ _ (by have:=hunk (.inr o24); omega),JY]
  have hz:=hunk (.inr o24);have hs:szA p.vars e.name-1+1=szA p.vars e.name:=U;rw[hs];have e8:8=szA p.vars e.name+(8-szA p.vars e.name):=U;have ho:=AJP (F8 p.vars a) e.name (z:=szA p.vars e.name) (8-szA p.vars e.name) (fun k hk=>AAN hv hl _ k hk);rw[<-e8] at ho;unfold XD;rw[if_neg (by rw[o24]; decide),if_neg (by rw[o24]; decide),if_neg (by rw[o24]; decide),if_pos o24,ho]
 rw[if_neg o24];by_cases o3:e.op=3
 .rw[if_pos o3]
  have hargs:=(Xe.node_ops hn.self).2.1 o3
  obtain⟨i,hi⟩:∃i,e.args=[i]:=by
   cases hq:e.args with
   | nil=>rw[hq] at hargs; cases hargs
   | cons x t=>cases t with
     | nil=>exact⟨x,rfl⟩
     | cons y z=>rw[hq] at hargs; simp at hargs
  have hii:=ih' i (by rw[hi]; simp)
  have hval:FQ (F8 p.vars a) e=(atG (F8 p.vars a) e.name (FQ (F8 p.vars a) i:Nat)).1:=by
   rw[JY];unfold XD;rw[if_neg (by rw[o3]; decide),if_neg (by rw[o3]; decide),if_pos o3,JD,hi];rfl
  rw[hval,hi];show FQ (F8 p.vars a) (ZT sdP.c e.name (GI sdP p.vars i) (szA p.vars e.name))=_;rw[<-hii];have h1:=@AWG p.vars i (hn.arg (by rw[hi]; simp))
  generalize GI sdP p.vars i=s at h1|-
  unfold ZT;by_cases s1:s.op=1
  .rw[if_pos s1]
   have hsv:FQ (F8 p.vars a) s=s.n.toNat%65536:=by
    rw[JY]; unfold XD; rw[if_pos s1]
   by_cases q:s.n<(szA p.vars e.name:Int)
   .rw[if_pos q,lB,hsv]
    have hk:s.n.toNat<8:=by have:=hunk (.inl o3); omega
    rw[yG U,gZ _ _ hk]
   .rw[if_neg q,show cE 0=cE ((0:Nat):Int) from rfl,AIK _ 0 U,hsv]
    obtain⟨n0,n1⟩:=h1 s1;rw[yG U];exact(AAN hv hl _ _ U).symm
  .rw[if_neg s1,ALS _ _ _ _ (AY8 _ s) _ hz8 _ (jF _)]
   by_cases q:FQ (F8 p.vars a) s<szA p.vars e.name
   .rw[if_pos ⟨U,q⟩,gZ _ _ U]
   .rw[if_neg (fun w=>q w.2),AAN hv hl _ _ U]
 rw[if_neg o3];rw[JY,JY _ e];show XD _ e.op e.n e.name (LP _ (e.args.map (GI sdP p.vars)))=_
 have:LP (F8 p.vars a) (e.args.map (GI sdP p.vars))=LP (F8 p.vars a) e.args:=by
  rw[JD,JD,qW];exact yA fun x hx=>ih' x hx
 rw[this]
theorem AW6 (hv:IJ p=0)(hl:a.length=p.vars.length)(he:exE e=0)(hu:OQ p.vars e=false):okX (F8 p.vars a) e = !(FQ (F8 p.vars a) (GI sdP p.vars e)==0):=by
 have hk:(pre e).all (knE (F8 p.vars a))=true:=by
  rw[zL];intro x hx;unfold OQ at hu;have h1:=qM.1 hu x hx;unfold QC at h1;simp only[Bool.or_eq_true,jO,beq_iff_eq,decide_eq_true_eq,not_or,not_and] at h1;obtain⟨h2,h3⟩:=h1;unfold knE;by_cases o2:x.op=2
  .rw[if_pos o2,VK p.vars a hl,decide_eq_true_eq]
   have:=h2 o2; omega
  .rw[if_neg o2]
   by_cases o3:x.op=3∨x.op=24
   .rw[if_pos o3]
    have:=h3 o3;have hz:0<szA p.vars x.name:=U;have hp:=vN hz;have:=gZ (F8 p.vars a) x.name (k:=0) U;rw[show((0:Nat):Int)=0 from rfl] at this;rw[this,VK p.vars a hl,decide_eq_true_eq];exact hp
   .rw[if_neg o3]
 unfold okX evE;rw[if_neg (by rw[he]; simp),if_pos hk,AWF hv hl e (NdOk.of he) hu,A9O]
theorem AWJ (h:scC vs e=0):OQ vs e=false:=by
 unfold scC at h;cases q:OQ vs e
 .rfl
 .rw[if_pos q] at h; cases h
theorem A3J (e:Ex):exE e≠11:=by
 have hn:∀x:Ex,G7 x≠11:=fun x h=>by
  unfold G7 at h;by_cases a:Cov.badO x=true
  .rw[if_pos a] at h; cases h
  rw[if_neg a] at h;by_cases b:WU x=true
  .rw[if_pos b] at h; cases h
  rw[if_neg b] at h;by_cases c:TS x=true
  .rw[if_pos c] at h; cases h
  rw[if_neg c] at h;by_cases d:U5 x=true
  .rw[if_pos d] at h; cases h
  rw[if_neg d] at h; cases h
 have he:∀(xs:List Ex) (z:Int),z≠11->xs.foldl (fun z e=>if z=0 then G7 e else z) z≠11:=by
  intro xs
  induction xs with
  | nil=>intro z hz; exact hz
  | cons x xs ih =>
    intro z hz;rw[List.foldl_cons];refine ih _ ?_;split
    .exact hn x
    .exact hz
 unfold exE;split
 .decide
 .exact he _ 0 DF
theorem fB (h:MP sdP D7 p m x=0∨MP sdP D7 p m x=11):IJ p=0∧MF m x=true∧cnE D7 m x=0∧RZ p.vars (cnL D7 m x)=0∧(MP sdP D7 p m x=0↔(kM sdP D7 p m x).isSome=true):=by
 have h1:IJ p=0:=Classical.byContradiction fun q=>by rw[sV (.inl q)] at h; rcases h with h|h<;>cases h
 have h2:MF m x=true:=by
  cases q:MF m x
  .rw[sV (.inr q)] at h; rcases h with h|h<;>cases h
  .rfl
 have hcn:cnE D7 m x=0∨cnE D7 m x=2:=by
  unfold cnE;rw[if_pos h2];split
  .exact .inl rfl
  .exact .inr rfl
 have h3:cnE D7 m x=0:=by
  rcases hcn with q|q
  .exact q
  .rw[A0W h1 h2 (by rw[q]; decide),q] at h; rcases h with h|h<;>cases h
 have h4:RZ p.vars (cnL D7 m x)=0:=Classical.byContradiction fun q=>by
  rw[A0V h1 h2 h3 q] at h;rcases h with h|h
  .exact q h
  .have hb:∀(l:List Ex),Bd.fstE (scC p.vars) l≠11:=by
    intro l
    induction l with
    | nil=>exact(by decide:(0:Int)≠11)
    | cons y l ih =>
      unfold Bd.fstE;split
      .unfold scC
       split
       .decide
       split
       .decide
       .exact A3J _
      .exact ih
   exact hb _ h
 refine⟨h1,h2,h3,h4,?_⟩;rw[A0U h1 h2 h3 h4];split
 .rename_i q; exact⟨fun _=>q,fun _=>rfl⟩
 .rename_i q; exact⟨fun w=>(by cases w),fun w=>absurd w q⟩
theorem A3V (hv:MF m x=true)(me:FK m=0):0<(cnL ins m x).length:=by
 have hL:=fC hv;have hn1:=hL.n1;obtain⟨q,hq⟩:=List.exists_mem_of_length_pos (U:0<(NI m x).length);obtain⟨a,b⟩:=hL.ok q hq;have h2:=(lL (ins:=ins) me a b).1;have hcl:cnL ins m x=JX ((NI m x).map (cdQ ins m)):=rfl;rw[hcl,O6];have:=X9 (zH.2 ⟨q,hq,rfl⟩:cdQ ins m q∈(NI m x).map (cdQ ins m));omega
theorem A2L (hv:IJ p=0)(hl:a.length=p.vars.length){r:List Ex}(h:∀e∈r,exE e=0∧scC p.vars e=0):(∀e∈r,okX (F8 p.vars a) e=true)↔WC p (r.map (GI sdP p.vars)) a=true:=by
 unfold WC;rw[List.all_map,zL];have:∀e∈r,okX (F8 p.vars a) e = !(FQ (F8 p.vars a) (GI sdP p.vars e)==0):=fun e he=>AW6 hv hl (h e he).1 (AWJ (h e he).2)
 exact⟨fun q e he=>(this e he).symm.trans (q e he),fun q e he=>(this e he).trans (q e he)⟩
theorem rows_ok (hv:MF m x=true)(hc:cnE D7 m x=0)(hs:RZ p.vars (cnL D7 m x)=0):∀r∈cnL D7 m x,∀e∈r,exE e=0∧scC p.vars e=0:=fun r hr e he =>
 ⟨A1J hv hc r hr e he,Bd.fstE_zero hs e (List.mem_flatten.2 ⟨r,hr,he⟩)⟩
theorem AHZ (h:MP sdP D7 p m x=0)(hr:TY m ((VE sdP D7 p m x).map (F8 p.vars))=0):0<XB m x (WF m ((VE sdP D7 p m x).map (F8 p.vars))):=by
 obtain⟨h1,h2,h3,h4,h5⟩:=fB (.inl h);refine AG7 hr h2 h3 ?_
 cases hA:kM sdP D7 p m x with
 | none=>have:=h5.1 h; rw[hA] at this; cases this
 | some l =>
   have hL:VE sdP D7 p m x=l:=by unfold VE; rw[if_pos h,hA]; rfl
   rw[hL];obtain⟨l1,l2⟩:=VF hA;have l1':l.length=(cnL D7 m x).length:=by rw[l1]; unfold P9; rw[jM]
   refine⟨by rw[jM]; omega,fun t ht e he=>?_⟩;have htl:t<l.length:=U;rw[jM,show l.length-(cnL D7 m x).length+t=t by omega,zF,jV,jG htl];rw[jG ht] at he;have hs:=l2 t (by unfold P9; rw[jM]; omega) htl;have hS:(P9 sdP p.vars (cnL D7 m x))[t]'(by unfold P9; rw[jM]; omega)=(cnL D7 m x)[t].map (GI sdP p.vars):=by unfold P9; rw[List.getElem_map]
   rw[hS] at hs;obtain⟨ok,sat⟩:=vS _ _ _ (xY (PV.of h1)) hs;unfold WC at sat;rw[yI,jO] at sat;exact(A2L h1 ok.len (rows_ok h2 h3 h4 _ (jI ht))).2 sat.2 e he
theorem AHY (h:MP sdP D7 p m x=0):VE sdP D7 p m x≠[]:=by
 obtain⟨h1,h2,h3,h4,h5⟩:=fB (.inl h)
 cases hA:kM sdP D7 p m x with
 | none=>have:=h5.1 h; rw[hA] at this; cases this
 | some l =>
   have hL:VE sdP D7 p m x=l:=by unfold VE; rw[if_pos h,hA]; rfl
   have l1:=(VF hA).1;unfold P9 at l1;rw[jM] at l1;have:=A3V (ins:=D7) h2 (Classical.byContradiction fun q=>by rw[ARJ q] at h2; cases h2);rw[hL];intro q;rw[q] at l1;simp at l1; omega
end Go.Proofs.YtiihpnicbekebaaGreatDoor.Bd.Cl
namespace Go.Proofs.YtiihpnicbekebaaGreatDoor.Sm
open Go.RowKit
theorem SimH.below {E:Env}{g:Gh}{h:Hp}{w w':World}(S:SimH E g h w)(hb:Below w.heap.size w w'):SimH E g h w' where
 os:=hb.os.trans S.os
 tape:=hb.tape.trans S.tape
 output:=hb.output.trans S.output
 fro k o hk:=by
  have:=S.fro k o hk;rw[hb.block k (by have:=(Array.getElem?_eq_some_iff.1 this).1; exact this)]; exact this
 lo:=S.lo
 live b k xs hb':=by
  obtain⟨l,c,e,h1,h2,h3,h4,h5⟩:=S.live b k xs hb';refine⟨l,c,e,h1,h2,h3,?_,h5⟩;rw[hb.block _ (by have:=(Array.getElem?_eq_some_iff.1 h4).1; exact this)]; exact h4
 obj b x hb' hi:=by
  obtain⟨l,o,h1,h2,h3,h4,h5,h6⟩:=S.obj b x hb' hi;refine⟨l,o,h1,h2,h3,h4,?_,h6⟩;rw[hb.block _ (by have:=(Array.getElem?_eq_some_iff.1 h5).1; exact this)]; exact h5
 inj:=S.inj
 fresh:=S.fresh
 glob:=S.glob
theorem PCall.of_ints {E:Env}{f:FuncId}{args:List AV}{h:Hp}{ns:List Int}(hok:cG E.P f)(hne:ns≠[])
  (hc:∀(g:Gh) (w:World) (cargs:Array Value),SimH E g h w->ZW g args cargs->Calls E.P f cargs w fun e w'=>Below w.heap.size w w'∧∃b c ty cap,e=.returned (.slice (some ⟨b,0,none⟩) ns.length cap) ∧
   w.heap.size<=b∧w'.heap[b]?=some (.cells c ty (0,0))∧ns.length<=cap∧∀i (hi:i<ns.length),c[i]?=some (.int .i64 ns[i])):PCall E f args h (.sl .any 1 (ns.map fun n=>[.int .i64 n])):=by
 refine⟨hok,fun g w cargs S ha=>?_⟩;refine(hc g w cargs S.ofNox ha).mono ?_;rintro e w' ⟨hbl,b,c,ty,cap,rfl,hb,hw,hcap,hcell⟩;have S':=S.below hbl;obtain⟨u1,u2⟩:=S.unowned_new hb
 have hr:RepF (g.freeze b (.cells c ty (0,0))).M (.sl .any 1 (ns.map fun n=>[.n n])) (.slice (some ⟨b,0,none⟩) ns.length cap):=by
  have hl:ns.length=(ns.map fun n=>[AV.int .i64 n]).length:=AZ;rw[hl];refine .sl .any 1 _ b 0 c ty (0,0) cap (fun i _=>(c[i]?).getD default) (BG hne) AZ (by simp [Gh.freeze]) ?_ ?_ ?_ (BG hcap) AZ
  .intro i row hrow
   rw[jV,Option.map_eq_some_iff] at hrow;obtain⟨n,_,rfl⟩:=hrow
   exact⟨rfl,fun j v hv=>by cases j with
    | zero=>cases hv; rfl
    | succ j=>cases hv⟩
  .intro i j hi hj
   obtain rfl:j=0:=U;simp only[List.length_map] at hi;simp only[Nat.zero_add,Nat.mul_one,Nat.add_zero];rw[hcell i hi]; rfl
  .intro i j row v hrow hv
   rw[jV,Option.map_eq_some_iff] at hrow;obtain⟨n,hn,rfl⟩:=hrow;obtain⟨hi,rfl⟩:=List.getElem?_eq_some_iff.1 hn
   cases j with
   | zero=>cases hv; rw[hcell i hi]; exact .int _ _
   | succ j=>cases hv
 exact .inl ⟨_,_,g.freeze b (.cells c ty (0,0)),h,rfl,⟨rfl,rfl⟩,Gh.freeze_le u2,S'.freeze hw u2 u1,.fro hr⟩
end Go.Proofs.YtiihpnicbekebaaGreatDoor.Sm
namespace Go.Proofs.YtiihpnicbekebaaGreatDoor.Sm
variable {n:Nat} {P:Program} {t:TypeId}

def M0 (W:World):Nat->Option Obj:=fun k=>W.heap[k]?
def g0 (W:World):Gh:=⟨M0 W,fun _=>none,W.os,W.tape,W.output,fun _=>none⟩
theorem A9F {E:Env}{W:World}(hN:E.L=none)(hG:∀n,RepF (M0 W) (E.G n) (.pointer (some ⟨n,0,none⟩))):SimH E (g0 W) [] W where
 os:=rfl
 tape:=rfl
 output:=rfl
 fro k o h:=h
 lo g0 h:=by rw[hN] at h; cases h
 live b k xs h:=by simp at h
 obj b x h:=by simp at h
 inj b b' x x' l l' h:=by simp at h
 fresh b _:=rfl
 glob:=hG
theorem AE9 {E:Env}{f:FuncId}{avs:List AV}{args:Array Value}{W:World}(hc:ACalls E f avs [] fun v _=>v=.bool true)(hN:E.L=none)(hX:∀u h,¬E.X u h)
  (hG:∀n,RepF (M0 W) (E.G n) (.pointer (some ⟨n,0,none⟩))) (ha:ZW (g0 W) avs args) :
  Calls E.P f args W fun e w'=>e=.returned (.bool true)∧RowKit.Below W.heap.size W w':=by
 refine(hc.2 (g0 W) W args (A9F hN hG) ha).mono ?_;rintro e w' (⟨v,cv,g',h',rfl,rfl,hle,S,hr⟩|⟨_,_,_,_,hx,_⟩)
 rotate_left
 .exact(hX _ _ hx).elim
 rw[hr.bool_inv];have hfro:∀k o,W.heap[k]?=some o->w'.heap[k]?=some o:=fun k o h=>S.fro k o (hle.M k o h)
 refine⟨rfl,?_,?_,?_,?_,?_⟩
 .rw[S.os,hle.os]; rfl
 .rw[S.tape,hle.tape]; rfl
 .rw[S.output,hle.output]; rfl
 .rcases Nat.lt_or_ge w'.heap.size W.heap.size with h|h
  .have h1:=hfro w'.heap.size _ (Array.getElem?_eq_getElem h)
   simp at h1
  .exact h
 .intro k hk
  rw[hfro k _ (Array.getElem?_eq_getElem hk),Array.getElem?_eq_getElem hk]
theorem AQ3 {H:Type}{enc:TypeId×Value->H}{P:Program}{f:Func}{s:ChangeSpec}{tb:TypeId}{apart fresh handsOn:Bool}{W W':World}{args:Array Value}{ds gs:List (DataW H)}{before:List MemPlace}
  (hW:DataW.Whole enc P f.params.toList s.vars apart W args.toList ds gs before) (hb:RowKit.Below W.heap.size W W')
  (hv:s.vars=[]) (hr:f.resultTypes = #[tb]) (hub:P.underlying tb=some .bool)
  (hs:s.fn H ds={ results:=[.lit (.bool true)],args:=ds })
  (hl:laidOutB P=true) (hp:f.params.toList.all (fun t=>P.readableRec t&&decide (t<P.types.size))=true) :
  s.post enc P f apart fresh handsOn false W args (.bool true) W':=by
 have hW0:=hW;obtain⟨p,q,hA,hV,rfl,_,_⟩:=hW;rw[hv] at hV
 obtain⟨rfl,rfl⟩:gs=[]∧q=[]:=by
  cases gs with
  | nil=>exact⟨rfl,hV⟩
  | cons=>exact hV.elim
 have hfn:s.fn H (ds++[])={ results:=[.lit (.bool true)],args:=ds }:=by rw[jP]; exact hs
 rw[jP] at hW0;have hlt:∀x∈p,x.block<W.heap.size:=fun x hx=>hW0.lt x hx
 have hall:∀(sp:Nat->Bool),(∀x∈p,sp x.block=true)->∀ {ts:List TypeId} {vs:List Value} {ds:List (DataW H)} {ps:List MemPlace},(ts.all (fun t=>P.readableRec t&&decide (t<P.types.size))=true) ->
   (∀x∈ps,x∈p)->DataW.TrodAll enc P W 0 (fun _=>true) true ts vs ds ps->DataW.TrodAll enc P W' 0 sp true ts vs ds ps:=by
  intro sp hsp ts
  induction ts with
  | nil =>
    intro vs ds ps _ _ h
    cases vs<;>cases ds<;>first|exact h|exact h.elim
  | cons t ts ih =>
    intro vs ds ps hts hm h
    cases vs with
    | nil=>exact h.elim
    | cons v vs =>
      cases ds with
      | nil=>exact h.elim
      | cons d ds =>
        obtain⟨p1,q1,h1,h2,e⟩:=h;simp only[List.all_cons,jO,decide_eq_true_eq] at hts;have hm1:∀x∈p1,x∈p:=fun x hx=>hm x (by rw[e]; exact List.mem_append_left _ hx)
        exact⟨p1,q1,WideElems.Trod_stays hl hts.1.1 hts.1.2 h1 (fun x hx=>hb.same (hlt x (hm1 x hx))) (fun x hx=>hsp x (hm1 x hx)),ih hts.2 (fun x hx=>hm x (by rw[e]; exact List.mem_append_right _ hx)) h2,e⟩
 have hold:∀x∈p,(fun b=>decide (b<W.heap.size)) x.block=true:=fun x hx=>by simpa using hlt x hx
 refine⟨ds,[],p,[],p,[],hW0,?_,?_,?_,World.keptBut_mono (fun x hx=>⟨hx,.inr (.inl hx)⟩) (hb.frame (·∈p)),fun h=>by cases h⟩
 .rw[hfn,hr]
  exact ChangeShapes.trodAll_mk1 (RowKit.shut_bool hub true)
 .rw[hfn]; exact hall _ hold hp (fun _ h=>h) hA
 .rw[hv,hfn]; exact rfl

open Go.Proofs.YtiihpnicbekebaaGreatDoor.Rows (uptoBulk uptoBulkAll)
def RowP (M:Nat->Option Obj)(rs:List AV)(cs:List Value):Prop:=∀(j:Nat) (a:AV),rs[j]?=some a->a.leaf=true∧∃c,cs[j]?=some c∧RepF M a c
theorem RowP.nil (M:Nat->Option Obj)(cs:List Value):RowP M [] cs:=fun j a h=>by simp at h
theorem RowP.one {M:Nat->Option Obj}{a:AV}{c:Value}(hl:a.leaf=true)(h:RepF M a c):RowP M [a] [c]:=by
 intro j b hb
 cases j with
 | zero=>simp at hb; subst hb; exact⟨hl,c,rfl,h⟩
 | succ j=>simp at hb
theorem RowP.append {M:Nat->Option Obj}{rs bs:List AV}{cs:List Value}(h:RowP M rs (cs.take n))(hn:rs.length=n)(k:RowP M bs (cs.drop n)):RowP M (rs++bs) cs:=by
 intro j a ha;rw[List.getElem?_append] at ha;split at ha
 .obtain⟨h1,c,h2,h3⟩:=h j a ha
  rw[List.getElem?_take] at h2;split at h2
  .exact⟨h1,c,h2,h3⟩
  .cases h2
 .obtain⟨h1,c,h2,h3⟩:=k _ a ha
  rw[List.getElem?_drop] at h2;exact⟨h1,c,by rw[<-h2]; congr 1; omega,h3⟩
def RdAt (P:Program)(n:Nat)(t:TypeId){α:Type}(enc:α->List AV)(ok:α->Nat->Prop):Prop :=
 ∀ (H:Type) (ench:TypeId×Value->H) (w:World) (cs:List Value) (d:DataW H) (ps:List MemPlace),
   DataW.trod ench P w 0 (fun _=>true) true n t cs=some (d,ps)->∃x,ok x (uptoBulk d)∧RowP (M0 w) (enc x) cs
def Rd (P:Program)(t:TypeId){α:Type}(enc:α->List AV)(ok:α->Nat->Prop):Prop:=∀n,RdAt P n t enc ok
theorem RdAt.zero {α:Type}{enc:α->List AV}{ok:α->Nat->Prop}:RdAt P 0 t enc ok:=by
 intro H ench w cs d ps h; simp [DataW.trod] at h
theorem RdAt.map {P:Program}{n:Nat}{t:TypeId}{α β:Type}{enc:α->List AV}{ok:α->Nat->Prop}{enc':β->List AV}{ok':β->Nat->Prop}(f:α->β)(h:RdAt P n t enc ok)
  (he:∀x,enc' (f x)=enc x) (hk:∀x b,ok x b->ok' (f x) b):RdAt P n t enc' ok':=by
 intro H ench w cs d ps ht;obtain⟨x,h1,h2⟩:=h H ench w cs d ps ht;exact⟨f x,hk x _ h1,by rw[he]; exact h2⟩
theorem Rd.map {P:Program}{t:TypeId}{α β:Type}{enc:α->List AV}{ok:α->Nat->Prop}{enc':β->List AV}{ok':β->Nat->Prop}(f:α->β)(h:Rd P t enc ok)
 (he:∀x,enc' (f x)=enc x) (hk:∀x b,ok x b->ok' (f x) b):Rd P t enc' ok':=fun n=>(h n).map f he hk
def okI (z:Int)(_:Nat):Prop := -9223372036854775808<=z∧z<=9223372036854775807
def okS (s:ByteArray)(b:Nat):Prop:=s.size+1<=b
def okT {α:Type}(_:α)(_:Nat):Prop:=True
def okL {α:Type}(ok:α->Nat->Prop):List α->Nat->Prop
 | [],_=>True
 | x::xs,b=>∃b1 b2,b1+b2<=b∧1<=b1∧ok x b1∧okL ok xs b2
theorem okL.length {α:Type}{ok:α->Nat->Prop}:∀ {xs:List α} {b:Nat},okL ok xs b->xs.length<=b
 | [],_,_=>qI _
 | _::_,_,⟨_,_,h1,h2,_,h4⟩=>by have:=okL.length h4; simp; omega
theorem okL.each {α:Type}{ok:α->Nat->Prop}:∀ {xs:List α} {b:Nat},okL ok xs b->∀x∈xs,∃b1,b1<=b∧ok x b1
 | [],_,_,_,h=>by cases h
 | y::ys,b,⟨b1,b2,h1,h2,h3,h4⟩,x,h=>by
   cases List.mem_cons.1 h with
   | inl e=>subst e; exact⟨b1,U,h3⟩
   | inr e=>obtain⟨b3,h5,h6⟩:=okL.each h4 x e; exact⟨b3,U,h6⟩
theorem okL.mono {α:Type}{ok:α->Nat->Prop}:∀ {xs:List α} {b b':Nat},okL ok xs b->b<=b'->okL ok xs b'
 | [],_,_,_,_=>trivial
 | _::_,_,_,⟨b1,b2,h1,h2,h3,h4⟩,h=>⟨b1,b2,U,h2,h3,h4⟩
theorem AUF {H:Type}(d:DataW H):1<=uptoBulk d:=by
 cases d with
 | lit l=>cases l<;>simp [uptoBulk]
 | nil=>simp [uptoBulk]
 | ptr d=>simp [uptoBulk]
 | slice elems spare=>simp [uptoBulk]
 | agg parts=>simp [uptoBulk]
 | iface t d=>simp [uptoBulk]
 | map entries=>simp [uptoBulk]
 | held h=>simp [uptoBulk]
theorem A2N (hu:P.underlying t=some (.int .i64)):Rd P t (fun z:Int=>[.int .i64 z]) okI:=by
 intro n H ench w cs d ps h;obtain⟨z,rfl,hx,hz⟩:=DataW.trod_int hu h;refine⟨z,?_,RowP.one rfl (.int _ _)⟩;simp only[Lit.wf,jO,decide_eq_true_eq] at hz;exact hz
theorem AJ2 (hu:P.underlying t=some .bool):Rd P t (fun z:Bool=>[.bool z]) okT:=by
 intro n H ench w cs d ps h;obtain⟨z,rfl,hx⟩:=DataW.trod_bool hu h;exact⟨_,trivial,RowP.one rfl (.bool _)⟩
theorem A2M (hu:P.underlying t=some .string):Rd P t (fun z:ByteArray=>[.str z]) okS:=by
 intro n H ench w cs d ps h;obtain⟨s,rfl,hx,_⟩:=DataW.trod_string hu h;cases hx;refine⟨s,?_,RowP.one rfl (.str _)⟩;simp only[okS,uptoBulk,Array.length_toList];exact Nat.le_refl _
theorem nF {α β:Type}{f:α->Option β}{x:α}{xs:List α}{ys:List β}(h:(x::xs).mapM f=some ys):∃y zs,f x=some y∧xs.mapM f=some zs∧ys=y::zs:=by
 rw[List.mapM_cons] at h
 cases hx:f x with
 | none=>simp [hx] at h
 | some y =>
   cases hz:xs.mapM f with
   | none=>simp [hx,hz] at h
   | some zs=>simp [hx,hz] at h; exact⟨y,zs,rfl,rfl,h.symm⟩
theorem ACE {P:Program}{n:Nat}{e:TypeId}{α:Type}{enc:α->List AV}{ok:α->Nat->Prop}(hr:RdAt P n e enc ok){H:Type}{ench:TypeId×Value->H}{w:World} :
  ∀ (zs:List (DataW H×List MemPlace)) (cells:Nat->Option (List Value)),(∀i,i<zs.length->(cells i).bind (DataW.trod ench P w 0 (fun _=>true) true n e)=zs[i]?) ->
    ∃xs:List α,xs.length=zs.length∧okL ok xs (uptoBulkAll (zs.map (·.1)))∧∀(i:Nat) (x:α),xs[i]?=some x->∃cs,cells i=some cs∧RowP (M0 w) (enc x) cs
 | [],cells,h=>⟨[],rfl,trivial,fun i x h=>by simp at h⟩
 | y::zs,cells,h=>by
   have h0:=h 0 AZ
   cases hc:cells 0 with
   | none=>simp [hc] at h0
   | some cs =>
     simp only[hc,Option.bind_some,List.getElem?_cons_zero] at h0;obtain⟨x,k1,k2⟩:=hr H ench w cs y.1 y.2 h0;obtain⟨xs,l1,l2,l3⟩:=ACE hr zs (fun i=>cells (i+1)) (fun i hi=>by have:=h (i+1) (BG hi); simpa using this);refine⟨x::xs,by simp [l1],⟨uptoBulk y.1,uptoBulkAll (zs.map (·.1)),by simp [uptoBulkAll],AUF _,k1,l2⟩,?_⟩;intro i x' hx
     cases i with
     | zero=>simp at hx; subst hx; exact⟨cs,hc,k2⟩
     | succ i=>simp at hx; exact l3 i x' hx
theorem AHG {β:Type}{f:Nat->Option β}{i:Nat}{ys:List β}(h:(List.range n).mapM f=some ys)(hi:i<n):∃y,f i=some y∧ys[i]?=some y:=by
 have gen:∀(l:List Nat) (ys:List β),l.mapM f=some ys->∀j k:Nat,l[j]?=some k->∃y,f k=some y∧ys[j]?=some y:=by
  intro l
  induction l with
  | nil=>intro ys _ j k hj; simp at hj
  | cons a l ih =>
    intro ys hl j k hj;obtain⟨y,zs,h1,h2,rfl⟩:=nF hl
    cases j with
    | zero=>simp at hj; subst hj; exact⟨y,h1,rfl⟩
    | succ j=>simp at hj; exact ih zs h2 j k hj
 exact gen _ _ h i i (by simp [hi])
theorem cells_at {w:World}{a:Addr}{cs:List Value}(h:w.cells? 0 a n=some cs){i:Nat}(hi:i<n):∃c,w.cell? (a.add i)=some c∧cs[i]?=some c:=by
 unfold World.cells? at h;simp only[qI,if_true] at h;exact AHG h hi
theorem KX {P:Program}{n:Nat}{t e:TypeId}{k:Nat}{α:Type}{enc:α->List AV}{ok:α->Nat->Prop}(hu:P.underlying t=some (.slice e))(hk:P.cellsOf e=k)(hk0:0<k)(hlen:∀x,(enc x).length=k)
  (hr:RdAt P n e enc ok):RdAt P (n+1) t (fun x:SM×List α=>[.sl x.1 k (x.2.map enc)]) (fun x b=>∃b',b'+1<=b∧okL ok x.2 b'):=by
 intro H ench w cs d ps h;rcases DataW.trod_slice hu h with⟨rfl,hd⟩|⟨a,len,cap,zs,rest,m,hm,rfl,hd,_,hlc,_,hzl,hel,_,_⟩
 .cases hd
  exact⟨(.nil,[]),⟨0,by simp [uptoBulk],trivial⟩,RowP.one rfl (.nil _)⟩
 .obtain rfl:n=m:=U
  simp only[Prod.mk.injEq] at hd;obtain⟨xs,l1,l2,l3⟩:=ACE hr zs (fun i=>w.cells? 0 (a.add (i*P.cellsOf e)) (P.cellsOf e)) (fun i hi=>hel i U);rw[hzl] at l1;have hok:∃b',b'+1<=uptoBulk d∧okL ok xs b':=⟨uptoBulkAll (zs.map (·.1)),by rw[hd.1]; simp [uptoBulk],l2⟩;rcases wU len with h0|hpos
  .subst h0
   have:xs=[]:=yH.1 l1;subst this;exact⟨(.any,[]),hok,RowP.one rfl (.empty .any k a cap AZ AZ)⟩
  .refine⟨(.any,xs),hok,RowP.one rfl ?_⟩
   have cellAt:∀i j,i<len->j<k->∃c,w.cell? ((a.add (i*k)).add j)=some c∧∀x a',xs[i]?=some x->(enc x)[j]?=some a'->a'.leaf=true∧RepF (M0 w) a' c:=by
    intro i j hi hj;have hx:i<xs.length:=U;obtain⟨cs',q1,q2⟩:=l3 i xs[i] (by simp [hx]);rw[hk] at q1;obtain⟨c,r1,r2⟩:=cells_at q1 hj;refine⟨c,r1,fun x a' hx' ha'=>?_⟩;rw[List.getElem?_eq_getElem hx] at hx';cases hx';obtain⟨s1,c',s2,s3⟩:=q2 j a' ha';rw[r2] at s2; cases s2;exact⟨s1,s3⟩
   obtain⟨cb,co,sp⟩:=a
   have hadd:∀i j,((Addr.mk cb co none).add (i*k)).add j=⟨cb,co+i*k+j,none⟩:=by
    intro i j;rw[addr_add,addr_add]
   obtain⟨c0,hc0,_⟩:=cellAt 0 0 hpos hk0
   have hsp:sp=none:=by
    simp [Addr.add,World.cell?] at hc0;split at hc0
    .split at hc0
     .cases hc0
     .rename_i hs; simpa using hs
    .cases hc0
   subst hsp;rw[hadd] at hc0;simp only[World.cell?] at hc0;split at hc0
   case h_2=>cases hc0
   rename_i c ty fz hw;have rd:∀i j,w.cell? ⟨cb,co+i*k+j,none⟩=c[co+i*k+j]? := fun i j=>by simp [World.cell?,hw]
   have hlx:len=(xs.map enc).length:=by simp [l1]
   rw[hlx];refine .sl .any k (xs.map enc) cb co c ty fz cap (fun i j=>c[co+i*k+j]?.getD default) ?_ AZ hw ?_ ?_ ?_ ?_ AZ
   .intro hx
    have:xs=[]:=BG hx;subst this; simp at l1; omega
   .intro i row hrow
    rw[jV,Option.map_eq_some_iff] at hrow;obtain⟨x,hx,rfl⟩:=hrow;refine⟨hlen x,fun j v hv=>?_⟩;have hi:i<len:=by rw[<-l1]; exact(List.getElem?_eq_some_iff.1 hx).1
    have hj:j<k:=by rw[<-hlen x]; exact(List.getElem?_eq_some_iff.1 hv).1
    obtain⟨c,_,hc2⟩:=cellAt i j hi hj;exact(hc2 x v hx hv).1
   .intro i j hi hj
    obtain⟨c',q1,_⟩:=cellAt i j (by simpa [l1] using hi) hj;rw[hadd,rd] at q1;rw[q1]; rfl
   .intro i j row v hrow hv
    rw[jV,Option.map_eq_some_iff] at hrow;obtain⟨x,hx,rfl⟩:=hrow;have hi:i<len:=by rw[<-l1]; exact(List.getElem?_eq_some_iff.1 hx).1
    have hj:j<k:=by rw[<-hlen x]; exact(List.getElem?_eq_some_iff.1 hv).1
    obtain⟨c',q1,q2⟩:=cellAt i j hi hj;rw[hadd,rd] at q1;show RepF _ _ (c[co+i*k+j]?.getD default);rw[q1];exact(q2 x v hx hv).2
   .simp [l1]; exact hlc
def AZ6 (P:Program)(n:Nat)(fs:List Field)(off:Nat){α:Type}(enc:α->List AV)(ok:α->Nat->Prop):Prop :=
 ∀ (H:Type) (ench:TypeId×Value->H) (w:World) (cs:List Value) (zs:List (DataW H×List MemPlace)),zs.length=fs.length ->
   (∀(i:Nat) (f:Field),fs[i]?=some f->DataW.trod ench P w 0 (fun _=>true) true n f.type ((cs.drop f.offset).take (P.cellsOf f.type))=zs[i]?)->∃x,ok x (uptoBulkAll (zs.map (·.1)))∧RowP (M0 w) (enc x) (cs.drop off)
theorem PN {off:Nat}:AZ6 P n [] off (fun _:Unit=>[]) okT:=fun _ _ _ _ _ _ _=>⟨(),trivial,RowP.nil _ _⟩
theorem EY {P:Program}{n off k:Nat}{f:Field}{fs:List Field}{α β:Type}{enc:α->List AV}{ok:α->Nat->Prop}{enc':β->List AV}{ok':β->Nat->Prop}(ho:f.offset=off)(hk:P.cellsOf f.type=k)
  (hlen:∀x,(enc x).length=k) (h:RdAt P n f.type enc ok) (h':AZ6 P n fs (off+k) enc' ok') :
  AZ6 P n (f::fs) off (fun x:α×β=>enc x.1++enc' x.2) (fun x b=>∃b1 b2,b1+b2<=b∧ok x.1 b1∧ok' x.2 b2):=by
 intro H ench w cs zs hl hz
 cases zs with
 | nil=>simp at hl
 | cons y zs =>
   have h1:=hz 0 f rfl;obtain⟨x,k1,k2⟩:=h H ench w _ y.1 y.2 (BG h1);obtain⟨x',l1,l2⟩:=h' H ench w cs zs (BG hl) (fun i f' hf=>by have:=hz (i+1) f' (BG hf); simpa using this);refine⟨(x,x'),⟨_,_,Nat.le_of_eq (by simp [uptoBulkAll]),k1,l1⟩,?_⟩;rw[ho,hk] at k2;refine RowP.append k2 (hlen x) ?_;rw[List.drop_drop];exact l2
theorem LU {fs:List Field}{α:Type}{enc:α->List AV}{ok:α->Nat->Prop}(hu:P.underlying t=some (.struct fs.toArray))(h:AZ6 P n fs 0 enc ok):
  RdAt P (n+1) t enc (fun x b=>∃b',b'+1<=b∧ok x b'):=by
 intro H ench w cs d ps ht;obtain⟨zs,m,hm,hd,_,hl,hz⟩:=DataW.trod_struct hu ht;obtain rfl:n=m:=U;obtain⟨x,k1,k2⟩:=h H ench w cs zs (BG hl) (fun i f hf=>hz i f (BG hf));simp only[Prod.mk.injEq] at hd;exact⟨x,⟨_,by rw[hd.1]; simp [uptoBulk],k1⟩,BG k2⟩

open Go.Proofs.YtiihpnicbekebaaGreatDoor.Rows (uptoBulk uptoBulkAll)
def PR (P:Program)(t:TypeId){α:Type}(av:α->AV)(ok:α->Nat->Prop):Prop :=
 ∀ (H:Type) (ench:TypeId×Value->H) (w:World) (base:Nat) (v:Value) (d:DataW H) (ps:List MemPlace),Value.okWide P w .any base t v->DataW.Trod ench P w 0 (fun _=>true) true t v d ps ->
   ∃x,ok x (uptoBulk d)∧RepF (M0 w) (av x) v
theorem A9K {α:Type}{enc:α->List AV}{ok:α->Nat->Prop}{k:Nat}(h:Rd P t enc ok)(hl:∀x,ok x 0∨True->(enc x).length=k)(hk:P.cellsOf t=k)(hc:JJ P t=some true):PR P t (fun x=>.agg (enc x)) ok:=by
 intro H ench w base v d ps hv ⟨n,ht⟩
 have hag:∃cs,v=.agg cs∧cs.size=P.cellsOf t:=by
  unfold JJ at hc;unfold Value.okWide at hv
  cases hu:P.underlying t with
  | none=>simp [hu] at hc
  | some td =>
    rw[hu] at hc hv;cases td<;>simp at hc<;>exact⟨_,hv.choose_spec.1,hv.choose_spec.2.1⟩
 obtain⟨cs,rfl,hs⟩:=hag;obtain⟨x,h1,h2⟩:=h n H ench w _ d ps ht;refine⟨x,h1,.agg _ cs (by rw[hs,hl x (.inr trivial),hk]) ?_⟩;intro i a cv ha hcv;obtain⟨_,c,h3,h4⟩:=h2 i a ha;simp [Value.cells] at h3;rw[hcv] at h3; cases h3;exact h4
def PRs (P:Program)(ts:List TypeId){α:Type}(avs:α->List AV)(ok:α->Nat->Prop):Prop :=
 ∀ (H:Type) (ench:TypeId×Value->H) (w:World) (base:Nat) (vs:List Value) (ds:List (DataW H)) (ps:List MemPlace),(∀(j:Nat) t v,ts[j]?=some t->vs[j]?=some v->Value.okWide P w .any base t v) ->
   DataW.TrodAll ench P w 0 (fun _=>true) true ts vs ds ps->∃x,ok x (uptoBulkAll ds)∧vs.length=(avs x).length∧∀(i:Nat) (a:AV) (v:Value),(avs x)[i]?=some a->vs[i]?=some v->RepF (M0 w) a v
theorem PRs.len {P:Program}{w:World}{H:Type}{ench:TypeId×Value->H}{sp:Nat->Bool}{held:Bool}{base:Nat}:∀ {ts:List TypeId} {vs:List Value} {ds:List (DataW H)} {ps:List MemPlace},DataW.TrodAll ench P w base sp held ts vs ds ps->ds.length=ts.length
 | [],[],[],_,_=>rfl
 | _::_,_::_,_::_,_,⟨_,_,_,h2,_⟩=>by simp [PRs.len h2]
theorem A8O:PRs P [] (fun _:Unit=>[]) okT:=by
 intro H ench w base vs ds ps _ h
 cases vs with
 | nil=>exact⟨(),trivial,rfl,fun i a v h=>by simp at h⟩
 | cons v vs=>cases ds<;>exact h.elim
theorem A5G {ts:List TypeId}{α β:Type}{av:α->AV}{ok:α->Nat->Prop}{avs:β->List AV}{ok':β->Nat->Prop}(h:PR P t av ok)(h':PRs P ts avs ok'):
  PRs P (t::ts) (fun x:α×β=>av x.1::avs x.2) (fun x b=>∃b1 b2,b1+b2<=b∧ok x.1 b1∧ok' x.2 b2):=by
 intro H ench w base vs ds ps hv ht
 cases vs with
 | nil=>cases ds<;>exact ht.elim
 | cons v vs =>
   cases ds with
   | nil=>exact ht.elim
   | cons d ds =>
     obtain⟨p,q,h1,h2,_⟩:=ht;obtain⟨x,k1,k2⟩:=h H ench w base v d p (hv 0 t v rfl rfl) h1;obtain⟨y,l1,l2,l3⟩:=h' H ench w base vs ds q (fun j t' v' a b=>hv (j+1) t' v' (BG a) (BG b)) h2;refine⟨(x,y),⟨_,_,Nat.le_of_eq (by simp [uptoBulkAll]),k1,l1⟩,by simp [l2],?_⟩;intro i a v' ha hv'
     cases i with
     | zero=>simp at ha hv'; subst ha; subst hv'; exact k2
     | succ i=>simp at ha hv'; exact l3 i a v' ha hv'
theorem AX2 {H:Type}{enc:TypeId×Value->H}{E:Env}{f:FuncId}{fn:Func}{s:ChangeSpec}{tb:TypeId}{apart fresh handsOn:Bool}{W:World}{base:Nat}{args:Array Value}{ds gs:List (DataW H)}{before:List MemPlace}
  {α:Type} {avs:α->List AV} {ok:α->Nat->Prop} (hr:PRs E.P fn.params.toList avs ok) (hlaw:∀x,ok x (uptoBulkAll ds)->ACalls E f (avs x) [] fun v _=>v=.bool true)
  (hval:∀(j:Nat) t v,fn.params[j]?=some t->args[j]?=some v->Value.okWide E.P W .any base t v)
  (hW:DataW.Whole enc E.P fn.params.toList s.vars apart W args.toList ds gs before) (hG:∀n,RepF (M0 W) (E.G n) (.pointer (some ⟨n,0,none⟩)))
  (hv:s.vars=[]) (ht:fn.resultTypes = #[tb]) (hub:E.P.underlying tb=some .bool)
  (hs:s.fn H ds={ results:=[.lit (.bool true)],args:=ds })
  (hl:laidOutB E.P=true) (hp:fn.params.toList.all (fun t=>E.P.readableRec t&&decide (t<E.P.types.size))=true) (hN:E.L=none:=by rfl) (hX:∀u h,¬E.X u h:=by exact fun _ _ q=>q) :
  Calls E.P f args W fun e W'=>∃v,e=.returned v∧s.post enc E.P fn apart fresh handsOn false W args v W':=by
 obtain⟨p,q,hA,_⟩:=id hW;obtain⟨x,k1,k2,k3⟩:=hr H enc W base args.toList ds p (fun j t v a b=>hval j t v (BG a) (BG b)) hA;have ha:ZW (g0 W) (avs x) args:=⟨BG k2,fun i v cv h1 h2=>.fro (k3 i v cv h1 (BG h2))⟩;refine(AE9 (hlaw x k1) hN hX hG ha).mono ?_;rintro e w' ⟨rfl,hb⟩;exact⟨_,rfl,AQ3 hW hb hv ht hub hs hl hp⟩
theorem ANW {P:Program}{w:World}{t e:TypeId}(hu:P.underlying t=some (.slice e))(he:P.underlying e=some .string)(hk:P.cellsOf e=1){H:Type}{ench:TypeId×Value->H}{sp:Nat->Bool}{held:Bool}{n:Nat}{cs:List Value}
  {l:List ByteArray} {d:DataW H} (hd:d=.slice (l.map fun s=>.lit (.string s.data.toList)) []) {p:List MemPlace} (h:DataW.trod ench P w 0 sp held n t cs=some (d,p)) :
  ∃c,cs=[c]∧RepF (M0 w) (.sl .any 1 (l.map fun s=>[.str s])) c:=by
 subst hd;rcases DataW.trod_slice hu h with⟨_,hx⟩|⟨a,len,cap,zs,rest,m,_,rfl,hx,_,hlc,_,hzl,hel,_,_⟩
 .cases hx
 .simp only[Prod.mk.injEq,DataW.slice.injEq] at hx
  obtain⟨⟨hz,_⟩,_⟩:=hx;have hll:l.length=len:=by have:=congrArg List.length hz; simpa [hzl] using this
  refine⟨_,rfl,?_⟩;rcases wU len with h0|hpos
  .subst h0
   have:l=[]:=yH.1 hll;subst this;exact .empty .any 1 a cap AZ AZ
  .have cellAt:∀i (s:ByteArray),l[i]?=some s->w.cell? (a.add i)=some (.string s):=by
    intro i s hs;have hi:i<len:=by rw[<-hll]; exact(List.getElem?_eq_some_iff.1 hs).1
    have h1:=hel i hi;rw[hk,Nat.mul_one] at h1
    have h2:zs[i]?.map (·.1)=some (.lit (.string s.data.toList)):=by
     rw[<-jV,<-hz,jV,hs]; rfl
    cases hc:w.cells? 0 (a.add i) 1 with
    | none=>rw[hc] at h1; rw[<-h1] at h2; cases h2
    | some c1 =>
      rw[hc,Option.bind_some] at h1
      obtain⟨z,hzi⟩:∃z,zs[i]?=some z:=by cases hh:zs[i]? with
       | none=>rw[hh] at h2; cases h2
       | some z=>exact⟨z,rfl⟩
      rw[hzi] at h1 h2;obtain⟨s',rfl,rfl,_⟩:=DataW.trod_string he h1;simp only[Option.map_some,Option.some.injEq,DataW.lit.injEq,Lit.string.injEq] at h2
      have:s'=s:=by
       cases s'; cases s;simp only at h2;congr 1;exact Array.toList_inj.1 h2
      subst this;obtain⟨c,r1,r2⟩:=cells_at hc (i:=0) DF;simp at r2; subst r2;simpa [Addr.add] using r1
   obtain⟨cb,co,sp'⟩:=a;have h00:=cellAt 0 l[0] (by simp [hll,hpos])
   have hsp:sp'=none:=by
    simp [Addr.add,World.cell?] at h00;split at h00
    .split at h00
     .cases h00
     .rename_i hs; simpa using hs
    .cases h00
   subst hsp;have hadd:∀i,(Addr.mk cb co none).add i=⟨cb,co+i,none⟩:=fun i=>addr_add _ _ _
   rw[hadd] at h00;simp only[World.cell?] at h00;split at h00
   case h_2=>cases h00
   rename_i c ty fz hw;have rd:∀i,w.cell? ⟨cb,co+i,none⟩=c[co+i]? := fun i=>by simp [World.cell?,hw]
   have hlx:len=(l.map fun s=>[AV.str s]).length:=by simp [hll]
   rw[hlx];refine .sl .any 1 _ cb co c ty fz cap (fun i j=>c[co+i*1+j]?.getD default) ?_ AZ hw ?_ ?_ ?_ (by simp [hll]; exact hlc) AZ
   .intro hx
    have:l=[]:=BG hx;subst this; simp at hll; omega
   .intro i row hrow
    rw[jV,Option.map_eq_some_iff] at hrow;obtain⟨x,hx,rfl⟩:=hrow;refine⟨rfl,fun j v hv=>?_⟩
    cases j with
    | zero=>simp at hv; subst hv; rfl
    | succ j=>simp at hv
   .intro i j hi hj
    have hi':i<l.length:=BG hi;have:=cellAt i l[i] (by simp [hi']);rw[hadd,rd] at this;have hj0:j=0:=U;subst hj0;simp only[Nat.mul_one,zD];rw[this]; rfl
   .intro i j row v hrow hv
    rw[jV,Option.map_eq_some_iff] at hrow;obtain⟨x,hx,rfl⟩:=hrow;have:=cellAt i x hx;rw[hadd,rd] at this
    cases j with
    | zero =>
      simp at hv; subst hv;simp only[Nat.mul_one,zD];rw[this]; exact .str _
    | succ j=>simp at hv
theorem AV0 {w:World}{n:String}{g:Nat}{cs:Array Value}{c:Value}{a:AV}(hg:P.globalNamed n=some g)(h:w.var? P n=some cs)(hc:cs.toList=[c])(hr:RepF (M0 w) a c)(hl:a.leaf=true):
  RepF (M0 w) (.fptr 1 [[a]] 0 0) (.pointer (some ⟨g,0,none⟩)):=by
 have h0:=World.var?_cell hg h 0;have e:cs = #[c]:=by rw[<-Array.toArray_toList (xs:=cs),hc]
 rw[e] at h0;simp only[World.cell?] at h0;split at h0
 case h_2=>simp at h0
 rename_i cc ty fz hw;have hcc:cc[0]?=some c:=BG h0;refine .fptr 1 [[a]] 0 0 g 0 cc ty fz (fun _ _=>c) hw ?_ ?_ ?_
 .intro i row hrow
  cases i with
  | zero =>
    simp at hrow; subst hrow;refine⟨rfl,fun j v hv=>?_⟩
    cases j with
    | zero=>simp at hv; subst hv; exact hl
    | succ j=>simp at hv
  | succ i=>simp at hrow
 .intro i j hi hj
  have:i=0:=BG hi;have:j=0:=U
  subst_vars
  simpa using hcc
 .intro i j row v hrow hv
  cases i with
  | zero =>
    simp at hrow; subst hrow
    cases j with
    | zero=>simp at hv; subst hv; exact hr
    | succ j=>simp at hv
  | succ i=>simp at hrow
end Go.Proofs.YtiihpnicbekebaaGreatDoor.Sm
namespace Go.Proofs.YtiihpnicbekebaaGreatDoor.Back

def AJ7:Op->Bool
 | .move _=>true
 | .load _ _=>true
 | .store _ _ _=>true
 | .binOp _ _ _ _ _=>true
 | .indexAddr _ _ _=>true
 | _=>false
theorem AG6 {F F':Fence}{n:Nat}{P:Program}{o:Oper}{a:Act}{w:World}{K:Act->World->Prop}{Q:Exit->Act->World->Prop}(hp:AJ7 o.op=true)(h:o.wpIn F' n P a w K Q):o.wpIn F n P a w K Q:=by
 have hd:∀c,o.op≠.defer c:=fun c e=>by rw[e] at hp; cases hp
 have hab:∀f,o.about P w a.eval=some f->F.fn f:=by
  intro f hf;unfold Oper.about at hf
  cases ho:o.op<;>rw[ho] at hf hp<;>first|(cases hp; done)|(cases hf; done)
 unfold Oper.wpIn at *;refine⟨hab,?_⟩;have h:=h.2
 rw[Oper.semAt_eq _ _ _ hd] at h|-
 have key:(∃v w',(execOp a.eval o).run P w=.ok (.value v) w')∨(∃w',(execOp a.eval o).run P w=.ok .skip w')∨∃e w',(execOp a.eval o).run P w=.halt e w':=by
  have hv:∀s:Sem Value,(∃v w',(do pure (.value (<-s)):Sem Next).run P w=.ok (.value v) w')∨∃e w',(do pure (.value (<-s)):Sem Next).run P w=.halt e w':=by
   intro s;simp only[Sem.run_bind]
   cases s.run P w with
   | ok v w'=>exact .inl ⟨v,w',rfl⟩
   | halt e w'=>exact .inr ⟨e,w',rfl⟩
  have hu:∀s:Sem Unit,(∃w',(do s; pure .skip:Sem Next).run P w=.ok .skip w')∨∃e w',(do s; pure .skip:Sem Next).run P w=.halt e w':=by
   intro s;simp only[Sem.run_bind]
   cases s.run P w with
   | ok v w'=>exact .inl ⟨w',rfl⟩
   | halt e w'=>exact .inr ⟨e,w',rfl⟩
  unfold execOp
  cases ho:o.op<;>rw[ho] at hp<;>first|(cases hp; done)|skip
  case move x=>exact .inl ⟨_,_,rfl⟩
  case load t x =>
   rcases hv (Instr.loadAt t (a.eval x)) with h|h
   .exact .inl h
   .exact .inr (.inr h)
  case store t x y =>
   rcases hu (Instr.storeAt t (a.eval x) (a.eval y)) with h|h
   .exact .inr (.inl h)
   .exact .inr (.inr h)
  case binOp op t x y u =>
   rcases hv (do eqGuard op t x y (a.eval x) (a.eval y); binOp op t (a.eval x) (a.eval y)) with h|h
   .exact .inl h
   .exact .inr (.inr h)
  case indexAddr t x y =>
   rcases hv (Instr.indexAt t (a.eval x) (a.eval y)) with h|h
   .exact .inl h
   .exact .inr (.inr h)
 rcases key with⟨v,w',e⟩|⟨w',e⟩|⟨x,w',e⟩
 .rw[e] at h|-; exact h
 .rw[e] at h|-; exact h
 .rw[e] at h|-
  cases x<;>exact h
theorem tA {F F':Fence}{n:Nat}{P:Program}{md:Region.Mode}{ops:Array Oper}{Q:Exit->Act->World->Prop}(hp:∀(i:Nat) (o:Oper),ops[i]?=some o->AJ7 o.op=true∧o.guard=none) :
  ∀(fuel:Nat) (listed:Array Bool) (a:Act) (w:World),wpAnyIn F' n P md ops Q fuel listed a w->wpAnyIn F n P md ops Q fuel listed a w
 | 0,_,_,_,h=>h
 | fuel+1,listed,a,w,h=>by
   refine⟨h.1,fun i hi=>?_⟩;have h2:=h.2 i hi;have h3:=wpOpIn_mono (fun a w=>tA (F:=F) hp fuel _ a w) h2;unfold wpOpIn at *;split
   .rename_i ho; simpa [ho] using h3
   .rename_i o ho
    simp only[ho] at h3;obtain⟨hp1,hp2⟩:=hp i o ho;have hw:Region.wanted o (yielded ops a.tmps)=true:=by unfold Region.wanted; rw[hp2]
    simp only[hw,if_true] at h3|-
    exact AG6 hp1 h3
end Go.Proofs.YtiihpnicbekebaaGreatDoor.Back
namespace Go.Proofs.YtiihpnicbekebaaGreatDoor.Back
open Go.RowKit Go.Shelf
attribute [local go_sem] Oper.semAt_some
def upto {α:Type}(f:Nat->α)(k:Nat):List α:=(List.range k).map f
theorem upto_succ {α:Type}(f:Nat->α)(k:Nat):upto f (k+1)=upto f k++[f k]:=by simp [upto,List.range_succ]
theorem upto_length {α:Type}(f:Nat->α)(k:Nat):(upto f k).length=k:=by simp [upto]
def Kb (n₀ Bs:Nat)(A B:World):Prop:=Below n₀ A B∧∀v,A.cell? ⟨Bs,0,none⟩=some v->B.cell? ⟨Bs,0,none⟩=some v
theorem Kb.refl (n₀ Bs:Nat)(A:World):Kb n₀ Bs A A:=⟨Below.refl _ _,fun _ h=>h⟩
theorem Kb.trans {n₀ Bs:Nat}{A B C:World}(h:Kb n₀ Bs A B)(k:Kb n₀ Bs B C):Kb n₀ Bs A C:=⟨h.1.trans k.1,fun v hv=>k.2 v (h.2 v hv)⟩
set_option maxRecDepth 100000 in
theorem AUT {α:Type}(val:α->Nat×Int)(f:Nat->α)(F:Fence)(n:Nat)(h8:F.fn 315)(hro:F.round=none)(hn:1<=n)(l Bs n₀ b off len cap:Nat)(zs:List Int)(hreach:len<=1048576)(hb:b<n₀)(hf:∀k,k<len->val (f k)=(len-1-k,zs[len-1-k]?.getD 0))(J Jx:List α->World->Prop)
  (hY:∀pre x W,J pre W->pre.length<len->YieldAt F (n-1) jA l #[.int .i64 ((val x).1:Int),.int .i64 (val x).2] W fun e W' =>
   (e=.returned (.bool true)∧J (pre++[x]) W'∧Kb n₀ Bs W W')∨(e=.returned (.bool false)∧Jx (pre++[x]) W'))
  (W:World) (hBs:W.cell? ⟨Bs,0,none⟩=some (.slice (some ⟨b,off,none⟩) len cap)) (hc:∀j,j<len->W.cell? ⟨b,off+j,none⟩=some (.int .i64 (zs[j]?.getD 0))) (h0:J [] W) :
  CallsIn F n jA 315 #[.func (.yield l) #[] #[],.pointer (some ⟨Bs,0,none⟩)] W fun e W'=>(∃v,e=.returned v) ∧
   ((∃ys,ys=upto f len∧J ys W')∨(∃pre,(∃k,k<=len∧pre=upto f k)∧Jx pre W')):=by
 refine callsIn_of_wp Tryz.func315 rfl h8 ?_ hro;simp only[Tryz.ntmps315,List.size_toArray,zO,zU,jS,Nat.reduceSub,Array.replicate_succ,Array.replicate_zero,List.push_toArray,List.append_toArray,qJ,zG]
 gi_wp2
 gi_loopw [3] (fun i wr=>Kb n₀ Bs W wr∧((∃j k:Nat,j+k+1=len∧i=.int .i64 (j:Int)∧J (upto f k) wr)∨(i=.int .i64 (-1)∧J (upto f len) wr)))
  (fun i _=>(intOf i+1).toNat)
 case atStart =>
  refine⟨Kb.refl _ _ _,?_⟩;rcases Nat.eq_zero_or_pos len with hz|hz
  .subst hz
   exact .inr ⟨rfl,h0⟩
  .exact .inl ⟨len-1,0,U,by congr 1; omega,h0⟩
 case round =>
  obtain⟨hnx,⟨j,k,hjk,rfl,hJs⟩|⟨rfl,hJs⟩⟩:=hrel
  .have hcx':wr.cell? ⟨b,off+j,none⟩=some (.int .i64 (zs[j]?.getD 0)):=(hnx.1.cell (p:=⟨b,off+j,none⟩) hb).trans (hc j U)
   have hBs':wr.cell? ⟨Bs,0,none⟩=some (.slice (some ⟨b,off,none⟩) len cap):=hnx.2 _ hBs
   have hf':val (f k)=(j,zs[j]?.getD 0):=by
    have:len-1-k=j:=U;rw[hf k U,this]
   have hjl:j<len:=U;obtain⟨fn,tmps,assign,body,hy,hR⟩:=hY _ (f k) wr hJs (by rw[upto_length]; omega);rw[hf'] at hy
   dsimp only at hy
   gi_wp2
   refine hR.mono ?_;rintro e W3 (⟨rfl,hJ3,hk3⟩|⟨rfl,hJx3⟩)
   .gi_wp2
    go_roundw
    case rel =>
     refine⟨hnx.trans hk3,?_⟩
     cases j with
     | zero =>
       refine .inr ⟨AZ,?_⟩;have e:upto f len=upto f (k+1):=congrArg (upto _) U;rw[e,upto_succ]; exact hJ3
     | succ j=>exact .inl ⟨j,k+1,U,AZ,by rw[upto_succ]; exact hJ3⟩
    case measure=>simp [intOf]
   .gi_wp2
    refine bodyPost_ret (results_none rfl _ _ _) rfl ?_;exact⟨⟨_,rfl⟩,.inr ⟨_,⟨k+1,U,by rw[upto_succ]⟩,hJx3⟩⟩
  .gi_wp2
   go_end0
   exact⟨⟨_,rfl⟩,.inl ⟨_,rfl,hJs⟩⟩
theorem AZY (F:Fence)(n:Nat)(h5:F.fn 277)(hro:F.round=none)(a:Option Addr)(len cap:Nat)(w:World) :
  CallsIn F n jA 277 #[.slice a len cap] w fun e w'=>e=.returned (.func (.func 315) #[] #[.pointer (some ⟨w.heap.size,0,none⟩)])∧w'=w.alloc (.cells #[.slice a len cap] 32):=by
 refine callsIn_of_wp Tryz.func277 rfl h5 ?_ hro;simp only[Tryz.ntmps277,List.size_toArray,zO,zU,jS,Nat.reduceSub,Array.replicate_succ,Array.replicate_zero,List.push_toArray,List.append_toArray,qJ,zG]
 gi_wp2
 go_ret
 exact⟨rfl,rfl⟩
theorem AIR {α:Type}(val:α->Nat×Int)(f:Nat->α)(F:Fence)(n:Nat)(h8:F.fn 315)(hro:F.round=none)(hn:1<=n)(Bs n₀ b off cap:Nat)(zs:List Int)(hreach:zs.length<=1048576)(hf:∀k,k<zs.length->val (f k)=(zs.length-1-k,zs[zs.length-1-k]?.getD 0))(w:World)(hBs0:Bs<w.heap.size)(hn₀:n₀<=w.heap.size)(hb:b<n₀)
  (hBs:w.cell? ⟨Bs,0,none⟩=some (.slice (some ⟨b,off,none⟩) zs.length cap)) (hc:∀j,j<zs.length->w.cell? ⟨b,off+j,none⟩=some (.int .i64 (zs[j]?.getD 0))) :
  SeqStopsK F n jA 315 #[.pointer (some ⟨Bs,0,none⟩)] (fun x:α => #[Value.int .i64 ((val x).1:Int),.int .i64 (val x).2]) (Kb n₀ Bs) (fun ys=>ys=upto f zs.length) (fun _=>True) zs.length w:=fun l J Jx W hW _ _ hY h0=>by
 refine(AUT val f F n h8 hro hn l Bs n₀ b off zs.length cap zs hreach hb hf J Jx hY W ((hW.cell (p:=⟨Bs,0,none⟩) hBs0).trans hBs) (fun j hj=>(hW.cell (p:=⟨b,off+j,none⟩) (Nat.lt_of_lt_of_le hb hn₀)).trans (hc j hj)) h0).mono ?_;rintro e W' ⟨he,⟨ys,rfl,hj⟩|⟨pre,_,hj⟩⟩
 .exact⟨he,.inl ⟨_,rfl,hj⟩⟩
 .exact⟨he,.inr ⟨_,trivial,hj⟩⟩
end Go.Proofs.YtiihpnicbekebaaGreatDoor.Back
set_option linter.unusedVariables false
namespace Go.Proofs.YtiihpnicbekebaaGreatDoor.Back
open Go.RowKit Go.Shelf
attribute [local go_sem] Oper.semAt_some
theorem AXS (w:World):(Instr.makeSlice 32 (.int .i64 0) (.int .i64 0)).run jA w=.ok (.slice (some ⟨w.heap.size,0,none⟩) 0 0) (w.alloc (.cells #[] 3)):=A7
theorem AXR (w:World):(Instr.makeSlice 32 (.int .i64 1) (.int .i64 1)).run jA w=.ok (.slice (some ⟨w.heap.size,0,none⟩) 1 1) (w.alloc (.cells #[.int .i64 0] 3)):=A7
theorem AXQ (w:World):(Instr.makeSlice 32 (.int .i64 2) (.int .i64 2)).run jA w=.ok (.slice (some ⟨w.heap.size,0,none⟩) 2 2) (w.alloc (.cells #[.int .i64 0,.int .i64 0] 3)):=A7
theorem AXP (w:World):(Instr.makeSlice 32 (.int .i64 3) (.int .i64 3)).run jA w=.ok (.slice (some ⟨w.heap.size,0,none⟩) 3 3) (w.alloc (.cells #[.int .i64 0,.int .i64 0,.int .i64 0] 3)):=A7
theorem AXO (w:World):(Instr.makeSlice 32 (.int .i64 4) (.int .i64 4)).run jA w=.ok (.slice (some ⟨w.heap.size,0,none⟩) 4 4) (w.alloc (.cells #[.int .i64 0,.int .i64 0,.int .i64 0,.int .i64 0] 3)):=A7
theorem A2Z (n:Nat)(hn:n<=4)(w:World):(Instr.makeSlice 32 (.int .i64 (n:Int)) (.int .i64 (n:Int))).run jA w=.ok (.slice (some ⟨w.heap.size,0,none⟩) n n) (w.alloc (.cells (Array.replicate n (.int .i64 0)) 3)):=by
 have h:n=0∨n=1∨n=2∨n=3∨n=4:=U;rcases h with rfl|rfl|rfl|rfl|rfl
 .exact AXS w
 .exact AXR w
 .exact AXQ w
 .exact AXP w
 .exact AXO w
abbrev Pr (n:Nat) := { x:Nat×Int // x.1<n∧1<=x.2∧x.2<=64 }
def stp (s:List Nat×Nat)(x:Nat×Int):List Nat×Nat:=(s.1.set x.1 (s.2%x.2.toNat),s.2/x.2.toNat)
def fld (n K:Nat)(pre:List (Pr n)):List Nat×Nat:=(pre.map (·.1)).foldl stp (jR n 0,K)
theorem AD6 (n K:Nat)(pre:List (Pr n))(x:Pr n):fld n K (pre++[x])=stp (fld n K pre) x.1:=by unfold fld; rw[List.map_append,List.foldl_append]; rfl
theorem AYP (n K:Nat)(pre:List (Pr n)):(fld n K pre).1.length=n:=by
 unfold fld
 have gen:∀(l:List (Nat×Int)) (s:List Nat×Nat),s.1.length=n->(l.foldl stp s).1.length=n:=by
  intro l
  induction l with
  | nil=>intro s h; exact h
  | cons x l ih=>intro s h; exact ih _ (by simp [stp,h])
 exact gen _ _ AZ
theorem A3H (n K:Nat)(pre:List (Pr n)):(fld n K pre).2<=K:=by
 unfold fld
 have gen:∀(l:List (Nat×Int)) (s:List Nat×Nat),s.2<=K->(l.foldl stp s).2<=K:=by
  intro l
  induction l with
  | nil=>intro s h; exact h
  | cons x l ih=>intro s h; exact ih _ (Nat.le_trans (Nat.div_le_self _ _) h)
 exact gen _ _ (jF _)
theorem AD5 (ns:List Nat)(K:Nat)(f:Nat->Pr ns.length)(hf:∀k,k<ns.length->(f k).1=(ns.length-1-k,((ns[ns.length-1-k]?.getD 0:Nat):Int))) :
  ∀k,k<=ns.length->fld ns.length K (upto f k)=(jR (ns.length-k) 0++(Cov.tupF (ns.drop (ns.length-k)) K).1,(Cov.tupF (ns.drop (ns.length-k)) K).2)
 | 0,_=>by
   rw[Nat.sub_zero,List.drop_eq_nil_of_le (jF _)];simp [fld,upto,Cov.tupF]
 | k+1,hk=>by
   have ih:=AD5 ns K f hf k U;rw[upto_succ,AD6,ih,hf k U];have hj:ns.length-(k+1)<ns.length:=U;have e1:ns.length-1-k=ns.length-(k+1):=U;have e2:ns.length-k=ns.length-(k+1)+1:=U;rw[Cov.tup_step hj,e1,e2,jG hj];generalize Cov.tupF (ns.drop (ns.length-(k+1)+1)) K=r;simp only[stp,jD,qG,Prod.mk.injEq,and_true];rw[List.replicate_succ',List.append_assoc,List.set_append_right _ _ AZ];simp
theorem pD {ns:List Nat}{K:Nat}{w W0 W:World}{pre:List (Pr ns.length)}{xi xm s:Nat}{c:Array Value}{px:(xi,(xm:Int)).1<ns.length∧1<=(xi,(xm:Int)).2∧(xi,(xm:Int)).2<=64}{a:Act}(hs0:W0.heap.size=w.heap.size+4)(hx1:xi<ns.length)(hxn:xm≠0)
  (hk:W.cell? ⟨w.heap.size,0,none⟩=some (.int .i64 (s:Int))) (hkf:W.frozen? ⟨w.heap.size,0,none⟩=false) (hc1:W.heap[w.heap.size+1]?=some (.cells c 3 (0,0))) (hc2:c=((fld ns.length K pre).1.map fun n:Nat=>Value.int .i64 (n:Int)).toArray)
  (hbx:W.cell? ⟨w.heap.size+2,0,none⟩=some (.slice (some ⟨w.heap.size+1,0,none⟩) ns.length ns.length)) (hBW:Below w.heap.size w W) (hs:(fld ns.length K pre).2=s) (hcs:c.size=ns.length) :
  ownPostG W0.heap.size (Kb w.heap.size (w.heap.size+3))
   (fun pre W=>((W.cell? ⟨w.heap.size,0,none⟩=some (.int .i64 ((fld ns.length K pre).2:Nat))∧W.frozen? ⟨w.heap.size,0,none⟩=false)∧(∃c,W.heap[w.heap.size+1]?=some (.cells c 3 (0,0))∧c=((fld ns.length K pre).1.map fun n:Nat=>Value.int .i64 (n:Int)).toArray)∧W.cell? ⟨w.heap.size+2,0,none⟩=some (.slice (some ⟨w.heap.size+1,0,none⟩) ns.length ns.length))∧Below w.heap.size w W)
   (fun _ _ _=>False) (pre++[⟨(xi,(xm:Int)),px⟩]) W .normal a
   ((W.setCell ⟨w.heap.size+1,xi,none⟩ (.int .i64 ((s:Int)%(xm:Int)))).setCell ⟨w.heap.size,0,none⟩ (.int .i64 ((s:Int)/(xm:Int)))).drew:=by
 generalize hS:w.heap.size=S at *
 have hoth:∀k,k≠S->k≠S+1->((W.setCell ⟨S+1,xi,none⟩ (.int .i64 ((s:Int)%(xm:Int)))).setCell ⟨S,0,none⟩ (.int .i64 ((s:Int)/(xm:Int)))).drew.heap[k]?=W.heap[k]? := fun k h1 h2 =>
  (Below.heap_setCell _ ⟨S,0,none⟩ _ k h1).trans (Below.heap_setCell _ ⟨S+1,xi,none⟩ _ k h2)
 have hBl:Below S W ((W.setCell ⟨S+1,xi,none⟩ (.int .i64 ((s:Int)%(xm:Int)))).setCell ⟨S,0,none⟩ (.int .i64 ((s:Int)/(xm:Int)))).drew :=
  (((Below.refl S W).setCell (p:=⟨S+1,xi,none⟩) (Nat.le_succ S) _).setCell (p:=⟨S,0,none⟩) (jF S) _).drew
 have hst:fld ns.length K (pre++[⟨(xi,(xm:Int)),px⟩])=((fld ns.length K pre).1.set xi (s%xm),s/xm):=by
  rw[AD6];simp only[stp,qG,hs]
 refine⟨⟨hBl.size,fun k o hk1 hk2 _=>(hoth k U U).trans hk2⟩,⟨hBl,fun v hv=>(World.cell?_of_block (hoth (S+3) U U)).trans hv⟩,⟨⟨⟨?_,?_⟩,⟨c.setIfInBounds xi (.int .i64 ((s:Int)%(xm:Int))),?_,?_⟩,?_⟩,hBW.trans hBl⟩⟩
 .rw[hst]
  have h1:(W.setCell ⟨S+1,xi,none⟩ (.int .i64 ((s:Int)%(xm:Int)))).cell? ⟨S,0,none⟩=some (.int .i64 (s:Int)):=(World.cell?_of_block (heap_setCell_other W ⟨S+1,xi,none⟩ S _ AZ)).trans hk;exact World.cell?_setCell_same _ _ _ h1
 .show World.frozen? ((W.setCell _ _).setCell _ _) _=false
  rw[World.frozen?_setCell,World.frozen?_setCell]; exact hkf
 .have h1:=heap_setCell_same W (S+1) xi c 3 (.int .i64 ((s:Int)%(xm:Int))) hc1
  exact(heap_setCell_other (W.setCell ⟨S+1,xi,none⟩ (.int .i64 ((s:Int)%(xm:Int)))) ⟨S,0,none⟩ (S+1) _ AZ).trans h1
 .rw[hst,hc2]
  simp only[List.setIfInBounds_toArray,List.map_set,Array.mk.injEq];rfl
 .exact(World.cell?_of_block (hoth (S+2) U U)).trans hbx
set_option maxRecDepth 100000 in
theorem tuple_in (F:Fence)(n:Nat)(h3:F.fn 212)(h5:F.fn 277)(h7:F.fn 315)(hro:F.round=none)(hn:3<=n)(b off cap:Nat)(ns:List Nat)(K:Nat)(w:World)(hb:b<w.heap.size)
  (hc:∀j,j<ns.length->w.cell? ⟨b,off+j,none⟩=some (.int .i64 ((ns[j]?.getD 0:Nat):Int))) (hlen:ns.length<=4) (hz:0<ns.length) (hpos:∀x∈ns,1<=x∧x<=64) (hK:K<=1048576) :
  CallsIn F n jA 212 #[.slice (some ⟨b,off,none⟩) ns.length cap,.int .i64 (K:Int)] w fun e W'=>Below w.heap.size w W'∧∃c ty,e=.returned (.slice (some ⟨w.heap.size+1,0,none⟩) ns.length ns.length) ∧
   W'.heap[w.heap.size+1]?=some (.cells c ty (0,0))∧∀i (hi:i<(Cov.tupF ns K).1.length),c[i]?=some (.int .i64 (((Cov.tupF ns K).1[i]:Nat):Int)):=by
 have h1:1<=n:=U;refine callsIn_of_wp_marks Tryz.func212 rfl h3 ?_ hro;simp only[Tryz.ntmps212,List.size_toArray,List.length_cons,List.length_nil,Nat.reduceAdd,Nat.reduceSub,Array.replicate_succ,Array.replicate_zero,List.push_toArray,List.append_toArray,List.nil_append,List.cons_append];have hmk:=fun w:World=>A2Z ns.length hlen w
 gi_wp2_with (gi_at_call 277; refine(AZY F (n-1) h5 hro _ _ _ _).mono ?_; rintro e w' ⟨rfl,rfl⟩)
 have hx:∀k,k<ns.length->ns.length-1-k<ns.length∧(1:Int)<=((ns[ns.length-1-k]?.getD 1:Nat):Int)∧((ns[ns.length-1-k]?.getD 1:Nat):Int)<=64:=by
  intro k hk;have hj:ns.length-1-k<ns.length:=U;rw[jG hj];have:=hpos _ (List.getElem_mem hj);simp only[jD];omega
 have hgd:∀k,k<ns.length->ns[ns.length-1-k]?.getD 1=ns[ns.length-1-k]?.getD 0:=by
  intro k hk;rw[jG (U:ns.length-1-k<ns.length)]; rfl
 obtain⟨f,hf⟩:∃f:Nat->Pr ns.length,∀k,k<ns.length->(f k).1=(ns.length-1-k,((ns[ns.length-1-k]?.getD 0:Nat):Int)):=by
  .refine⟨fun k=>if hk:k<ns.length then ⟨(ns.length-1-k,((ns[ns.length-1-k]?.getD 1:Nat):Int)),hx k hk⟩ else ⟨(ns.length-1-0,((ns[ns.length-1-0]?.getD 1:Nat):Int)),hx 0 hz⟩,fun k hk=>?_⟩
   simp only[dif_pos hk,hgd k hk]
 have bK:=Boxed.new w 3 (.int .i64 (K:Int));have hzs:((ns.map fun n:Nat=>(n:Int)).length)=ns.length:=AZ
 have hzg:∀j:Nat,(ns.map fun n:Nat=>(n:Int))[j]?.getD 0=((ns[j]?.getD 0:Nat):Int):=by
  intro j;rw[List.getElem?_map];cases ns[j]? <;> rfl
 generalize hW0:((((w.alloc (Obj.cells #[Value.int .i64 (K:Int)] 3)).alloc (Obj.cells (Array.replicate ns.length (Value.int .i64 0)) 3)).alloc (Obj.cells #[Value.slice (some ⟨w.heap.size+1,0,none⟩) ns.length ns.length] 32)).alloc (Obj.cells #[Value.slice (some ⟨b,off,none⟩) ns.length cap] 32))=W0;have hs0:W0.heap.size=w.heap.size+4:=by rw[<-hW0]; simp
 have hB0:Below w.heap.size w W0:=by
  rw[<-hW0];exact((((Below.refl _ w).alloc (jF _) _).alloc AZ _).alloc KH _).alloc KH _
 refine wpIn_rangeFunc_ownG hro h1 (gf:=315) (lb := #[.pointer (some ⟨w.heap.size+3,0,none⟩)]) rfl h7 (enters_of Tryz.func315 A7 rfl)
  (w0:=W0) (AIR (fun x:Pr ns.length=>x.1) f F (n-1) h7 hro U (w.heap.size+3) w.heap.size b off cap (ns.map fun n:Nat=>(n:Int)) (by rw[hzs]; omega) (fun k hk=>by rw[hzs] at hk; rw[hf k hk,hzs,hzg]) W0 U U hb ?box ?cells)
  (fun h k=>Kb.trans h k) ?keepb (Below.refl _ _) (fun _=>rfl)
  (fun pre W=>((W.cell? ⟨w.heap.size,0,none⟩=some (.int .i64 ((fld ns.length K pre).2:Nat))∧W.frozen? ⟨w.heap.size,0,none⟩=false)∧(∃c,W.heap[w.heap.size+1]?=some (.cells c 3 (0,0))∧c=((fld ns.length K pre).1.map fun n:Nat=>Value.int .i64 (n:Int)).toArray)∧W.cell? ⟨w.heap.size+2,0,none⟩=some (.slice (some ⟨w.heap.size+1,0,none⟩) ns.length ns.length))∧Below w.heap.size w W)
  (fun _ _ _=>False) ?own ?ownx ?start
  (fun x=>{ tmps := #[.slice (some ⟨b,off,none⟩) ns.length cap,.int .i64 (K:Int),undef,.pointer (some ⟨w.heap.size,0,none⟩),.slice none 0 0,.pointer (some ⟨w.heap.size+2,0,none⟩),.int .i64 (x.1.1:Int),.int .i64 x.1.2,.slice (some ⟨b,off,none⟩) ns.length cap,.int .i64 (ns.length:Int),.slice (some ⟨w.heap.size+1,0,none⟩) ns.length ns.length,.slice (some ⟨b,off,none⟩) ns.length cap,.func (.func 315) #[] #[.pointer (some ⟨w.heap.size+3,0,none⟩)],.int .i64 (x.1.1:Int),.int .i64 x.1.2,undef,undef,undef,undef,undef,undef,undef,undef,undef,undef],defers:=[] }) ?assign ?body ?done ?stop
 case box =>
  rw[<-hW0,hzs];have h3:=(Boxed.new (((w.alloc (Obj.cells #[Value.int .i64 (K:Int)] 3)).alloc (Obj.cells (Array.replicate ns.length (Value.int .i64 0)) 3)).alloc (Obj.cells #[Value.slice (some ⟨w.heap.size+1,0,none⟩) ns.length ns.length] 32)) 32 (.slice (some ⟨b,off,none⟩) ns.length cap)).cell;simpa using h3
 case cells =>
  intro j hj;rw[hzs] at hj;rw[hzg];exact(hB0.cell (p:=⟨b,off+j,none⟩) hb).trans (hc j hj)
 case keepb =>
  intro W l o o' hl ho hoc how;refine⟨belowK_b (w:=W0) U W l o o' hl ho hoc how,fun v hv=>?_⟩;exact cell_kept hv (grownBy_putObj' W l o') (fun r e=>by cases e; exact⟨o,ho,hoc⟩)
 case own =>
  refine OwnFrom.and (Own.from (fun s A B row hs hg hr=>⟨⟨cell_kept hs.1.1 hg hr,(frozen_kept hs.1.1 hg hr).trans hs.1.2⟩,?_,cell_kept hs.2.2 hg hr⟩) _) (ownFrom_below (jF _) U);obtain⟨c,h1,h2⟩:=hs.2.1;exact⟨c,(hg.block _ (Array.getElem?_eq_some_iff.1 h1).1 (fun e=>by obtain⟨o,ho,hcc⟩:=hr _ e.symm; rw[h1] at ho; cases ho; cases hcc)).trans h1,h2⟩
 case ownx=>exact fun _ _ _ _ _ hs _ _=>hs
 case start =>
  have g1:=((bK.alloc (Obj.cells (Array.replicate ns.length (Value.int .i64 0)) 3)).alloc (Obj.cells #[Value.slice (some ⟨w.heap.size+1,0,none⟩) ns.length ns.length] 32)).alloc (Obj.cells #[Value.slice (some ⟨b,off,none⟩) ns.length cap] 32);rw[hW0] at g1;refine⟨⟨⟨g1.cell,g1.frozen⟩,⟨Array.replicate ns.length (Value.int .i64 0),?_,?_⟩,?_⟩,hB0⟩
  .rw[<-hW0]
   refine(Below.heap_alloc _ _ _ AZ).trans ((Below.heap_alloc _ _ _ AZ).trans ?_);have:=World.alloc_heap_new (w.alloc (Obj.cells #[Value.int .i64 (K:Int)] 3)) (Obj.cells (Array.replicate ns.length (Value.int .i64 0)) 3)
   rwa [World.size_alloc] at this
  .simp [fld]
  .have g2:=(Boxed.new ((w.alloc (Obj.cells #[Value.int .i64 (K:Int)] 3)).alloc (Obj.cells (Array.replicate ns.length (Value.int .i64 0)) 3)) 32 (.slice (some ⟨w.heap.size+1,0,none⟩) ns.length ns.length)).alloc (Obj.cells #[Value.slice (some ⟨b,off,none⟩) ns.length cap] 32)
   rw[hW0] at g2;have h4:=g2.cell;rw[World.size_alloc,World.size_alloc] at h4;exact h4
 case assign =>
  intro l x W K hK
  gi_wp2
  exact hK
 case body =>
  rintro l pre ⟨⟨xi,xn⟩,hx1,hx2,hx3⟩ W ⟨⟨⟨hk,hkf⟩,⟨c,hc1,hc2⟩,hbx⟩,hBW⟩ hpre;simp only at hx1 hx2 hx3;obtain⟨s,hs⟩:∃s,(fld ns.length K pre).2=s:=⟨_,rfl⟩;rw[hs] at hk
  have hsK:s<=1048576:=by
   have:=A3H ns.length K pre;omega
  obtain⟨xm,rfl⟩:∃xm:Nat,xn=(xm:Int):=⟨xn.toNat,U⟩;have hxn:xm≠0:=U;have hcs:c.size=ns.length:=by rw[hc2]; simp [AYP]
  have hoc:W.frozen? ⟨w.heap.size+1,xi,none⟩=false:=by simp [World.frozen?,hc1]
  have hcx:∃v,W.cell? ⟨w.heap.size+1,xi,none⟩=some v:=⟨c[xi]'U,by simp [World.cell?,hc1,hcs,hx1]⟩;obtain⟨v0,hv0⟩:=hcx;have hq0:(0:Int)<=(s:Int)/(xm:Int):=Int.ediv_nonneg U U;have hq1:(s:Int)/(xm:Int)<=1048576:=Int.le_trans (Int.ediv_le_self _ U) U
  gi_wp2
  rename_i Qb Kr hKr;refine wpIn_region_any A7 ?_;refine tA (F':=F) (fun i o ho=>?_) _ _ _ _ ?_
  .match i,ho with
   | 0,ho=>cases ho; exact⟨rfl,rfl⟩
   | 1,ho=>cases ho; exact⟨rfl,rfl⟩
   | 2,ho=>cases ho; exact⟨rfl,rfl⟩
   | 3,ho=>cases ho; exact⟨rfl,rfl⟩
   | 4,ho=>cases ho; exact⟨rfl,rfl⟩
   | 5,ho=>cases ho; exact⟨rfl,rfl⟩
   | 6,ho=>cases ho; exact⟨rfl,rfl⟩
   | i+7,ho=>simp at ho
  change wpAnyIn _ _ _ _ _ _ _ _ _ (World.drew _);refine wpAnyIn_take (i:=1) (v := ?_) hro rfl A7 A7 A7 (fun _ _ _ h=>h) ⟨Or.inl ⟨by rfl,?_⟩,fun _=>rfl⟩ ?_
  rotate_left
  .intro w; go_simp; rfl
  refine wpAnyIn_take (i:=3) (v := ?_) hro rfl A7 A7 A7 (fun _ _ _ h=>h) ⟨Or.inl ⟨by rfl,?_⟩,fun _=>rfl⟩ ?_
  rotate_left
  .intro w; go_simp; rfl
  refine wpAnyIn_ready (rs:=[0,2]) A7 AZ ?_;refine AllReadyIn.cons rfl (fun K hK=>?_) (AllReadyIn.cons rfl (fun K hK=>?_) AllReadyIn.nil)
  .go_simp
   refine hK _ _ ?_; clear hK K;refine wpAnyIn_ready (rs:=[2]) A7 AZ ?_;refine AllReadyIn.cons rfl (fun K hK=>?_) AllReadyIn.nil
   go_simp
   refine hK _ _ ?_; clear hK K;refine wpAnyIn_ready (rs:=[4]) A7 AZ ?_;refine AllReadyIn.cons rfl (fun K hK=>?_) AllReadyIn.nil
   go_simp
   refine hK _ _ ?_; clear hK K;refine wpAnyIn_ready (rs:=[5]) A7 AZ ?_;refine AllReadyIn.cons rfl (fun K hK=>?_) AllReadyIn.nil
   go_simp
   refine hK _ _ ?_; clear hK K;refine wpAnyIn_ready (rs:=[6]) A7 AZ ?_;refine AllReadyIn.cons rfl (fun K hK=>?_) AllReadyIn.nil
   go_simp
   refine hK _ _ ?_; clear hK K;refine wpAnyIn_done A7 ?_ _;refine hKr _ _ ?_;clear hKr
   gi_wp2
   exact pD hs0 hx1 hxn hk hkf hc1 hc2 hbx hBW hs hcs
  .go_simp
   refine hK _ _ ?_; clear hK K;refine wpAnyIn_ready (rs:=[0,4]) A7 AZ ?_;refine AllReadyIn.cons rfl (fun K hK=>?_) (AllReadyIn.cons rfl (fun K hK=>?_) AllReadyIn.nil)
   .go_simp
    refine hK _ _ ?_; clear hK K;refine wpAnyIn_ready (rs:=[4]) A7 AZ ?_;refine AllReadyIn.cons rfl (fun K hK=>?_) AllReadyIn.nil
    go_simp
    refine hK _ _ ?_; clear hK K;refine wpAnyIn_ready (rs:=[5]) A7 AZ ?_;refine AllReadyIn.cons rfl (fun K hK=>?_) AllReadyIn.nil
    go_simp
    refine hK _ _ ?_; clear hK K;refine wpAnyIn_ready (rs:=[6]) A7 AZ ?_;refine AllReadyIn.cons rfl (fun K hK=>?_) AllReadyIn.nil
    go_simp
    refine hK _ _ ?_; clear hK K;refine wpAnyIn_done A7 ?_ _;refine hKr _ _ ?_;clear hKr
    gi_wp2
    exact pD hs0 hx1 hxn hk hkf hc1 hc2 hbx hBW hs hcs
   .go_simp
    refine hK _ _ ?_; clear hK K;refine wpAnyIn_ready (rs:=[0]) A7 AZ ?_;refine AllReadyIn.cons rfl (fun K hK=>?_) AllReadyIn.nil
    go_simp
    refine hK _ _ ?_; clear hK K;refine wpAnyIn_ready (rs:=[5]) A7 AZ ?_;refine AllReadyIn.cons rfl (fun K hK=>?_) AllReadyIn.nil
    go_simp
    refine hK _ _ ?_; clear hK K;refine wpAnyIn_ready (rs:=[6]) A7 AZ ?_;refine AllReadyIn.cons rfl (fun K hK=>?_) AllReadyIn.nil
    go_simp
    refine hK _ _ ?_; clear hK K;refine wpAnyIn_done A7 ?_ _;refine hKr _ _ ?_;clear hKr
    gi_wp2
    exact pD hs0 hx1 hxn hk hkf hc1 hc2 hbx hBW hs hcs
 case done =>
  rintro D ys W hD rfl ⟨⟨_,⟨c,hcc,he⟩,hc5⟩,hB⟩ hKD
  gi_wp2
  refine⟨AZ,.inl ⟨_,_,rfl,run_takeDeferred hKD,?_⟩⟩;refine⟨_,results_tmp rfl _ _ _,hB.trans (belowK_b (w:=w) (jF _) W D _ _ U hKD rfl rfl),c,3,rfl,?_,?_⟩
  .exact((grownBy_putObj' W D (.deferred none)).block _ (Array.getElem?_eq_some_iff.1 hcc).1 (fun e=>by cases e; rw[hcc] at hKD; cases hKD)).trans hcc
  .intro i hi
   have hfu:=AD5 ns K f hf ns.length (jF _);rw[Nat.sub_self,List.drop_zero] at hfu;rw[hzs] at he;rw[he,hfu];simp [hi]
 case stop =>
  rintro D c pre W _ _ h _;exact h.elim
end Go.Proofs.YtiihpnicbekebaaGreatDoor.Back
namespace Go.Proofs.YtiihpnicbekebaaGreatDoor.Cov
open Sm Bins Go.RowKit
theorem A4V (G:Nat->AV):eL G:=by
 intro ns s K h hz hlen hpos hK
 have hne:SQ ns K≠[]:=by
  intro e;have h1:(SQ ns K).length=ns.length:=by unfold SQ; rw[jM,XO]
  rw[e] at h1; simp at h1; omega
 have hnn:ns.map KJ≠[]:=by
  intro e;have:=congrArg List.length e;simp at this; rw[this] at hz; cases hz
 refine PCall.of_ints (cok 212 G A7) hne fun g w cargs S ha=>?_
 obtain⟨hsz,hget⟩:=ha
 obtain⟨cv0,cv1,rfl⟩:∃a b,cargs = #[a,b]:=by
  obtain⟨l⟩:=cargs
  match l,hsz with
  | [a,b],_=>exact⟨a,b,rfl⟩
 have r0:=(hget 0 _ _ rfl rfl).sl_inv;have r1:=(hget 1 _ _ rfl rfl).int_inv;subst r1;generalize hxs:ns.map KJ=xs at r0
 cases r0 with
 | nil=>rw[hxs] at hnn; exact absurd rfl hnn
 | empty=>rw[hxs] at hnn; exact absurd rfl hnn
 | sl _ _ _ cb co c e fz cap cv q1 q2 q3 q4 q5 q6 q7 q8 =>
   subst hxs;have hw:=S.fro _ _ q3;have hcb:cb<w.heap.size:=(Array.getElem?_eq_some_iff.1 hw).1;rw[jM]
   have hc:∀j,j<ns.length->w.cell? ⟨cb,co+j,none⟩=some (.int .i64 ((ns[j]?.getD 0:Nat):Int)):=by
    intro j hj;have h1:=q5 j 0 (BG hj) U;have h2:=q6 j 0 (KJ ns[j]) (.n (ns[j]:Int)) (by rw[List.getElem?_map,jG hj]; rfl) rfl;rw[Nat.mul_one,Nat.add_zero] at h1;rw[SI hw,h1,jG hj,Option.getD_some];generalize cv j 0=u at h2;cases h2; rfl
   have hin:=Back.tuple_in Fence.wide 3 trivial trivial trivial rfl (jF 3) cb co cap ns K w hcb hc hlen hz hpos hK;refine(callsIn_wide.1 hin).mono ?_;rintro e W' ⟨hB,c',ty,rfl,hh,hcell⟩;have hl:(SQ ns K).length=ns.length:=by unfold SQ; rw[jM,XO]
   refine⟨hB,w.heap.size+1,c',ty,ns.length,by rw[hl],Nat.le_succ _,hh,by rw[hl]; exact jF _,fun i hi=>?_⟩;have hi':i<(tupF ns K).1.length:=by rw[XO,<-hl]; exact hi
   rw[hcell i hi'];simp [SQ]
end Go.Proofs.YtiihpnicbekebaaGreatDoor.Cov
namespace Go.Proofs.YtiihpnicbekebaaGreatDoor.Head
variable {s:String} {P:Program}

def signs:List Char:=([104,97,114,110,101,115,115,32,54,57,97,57,99,52,100,99,98,100,53,49,98,99,54,100,49,55,51,51,49,98,54,56,98,55,53,55,53,56,48,52,49,57,97,56,57,99,57,55,53,54,100,48,98,53,101,102,48,56,50,51,98,57,56,54,57,51,99,52,53,100,48,101,32,99,117,116,32,97,116,32,116,101,115,116,98,101,110,99,104,47,116,101,115,116,98,101,110,99,104,108,97,119,53,49,46,67,108,111,115,117,114,101,82,101,97,99,104,101,115,32,116,101,115,116,98,101,110,99,104,47,116,101,115,116,98,101,110,99,104,108,97,119,53,49,46,67,108,111,115,117,114,101,80,108,97,110,115,32,116,101,115,116,98,101,110,99,104,47,116,101,115,116,98,101,110,99,104,108,97,119,53,49,46,67,108,111,115,117,114,101,68,105,118,105,100,101,115,32,116,101,115,116,98,101,110,99,104,47,116,101,115,116,98,101,110,99,104,108,97,119,53,49,46,67,108,111,115,117,114,101,73,116,101,109,115,32,116,101,115,116,98,101,110,99,104,47,116,101,115,116,98,101,110,99,104,108,97,119,53,49,46,67,108,111,115,117,114,101,80,114,111,118,101,115,32,116,101,115,116,98,101,110,99,104,47,116,101,115,116,98,101,110,99,104,108,97,119,53,49,46,67,108,111,115,117,114,101,72,105,116,115]:List Nat).map Char.ofNat
theorem AQ9:Tryz.pinned.checked.prog.initOrder=String.ofList signs:=A7
theorem sJ {l:List Char}(h:s=String.ofList l):s.toList=l:=by rw[h,String.toList_ofList]
theorem cU:Tryz.pinned.checked.prog.initOrder.toList=signs:=sJ AQ9
def AEW:List Char:=(signs.drop 73).take 3
def AQW:List (List Char):=wordsSigns (signs.drop 77)
def hsum:List Char:=(signs.drop 8).take 64
theorem lR:behindMainWord (wordsSigns signs)=AEW::AQW:=A7
theorem A17:wordsSigns signs=signs.take 7::hsum::wordsSigns (signs.drop 73):=A7
theorem ABM:stripLifts liftWords (AEW::AQW)=([],AEW::AQW):=A7
theorem AY3:Tryz.pinned.checked.prog.doorFits []=true:=A7
theorem AR8:Tryz.pinned.checked.prog.laysLater=false:=A7
theorem AWO:Tryz.pinned.checked.prog.bearsReflect=false:=A7
theorem A3U:(AEW == "cut".toList)=true:=A7
theorem AEV:((some AEW)==some "cut".toList)=true:=A7
theorem A5L:(AEW == "gc".toList)=false:=A7
theorem AXG:(AEW == "spec".toList)=false:=A7
theorem AXH:(some AEW==some "carried".toList)=false:=A7
theorem sum_is:isSumSigns hsum=true:=A7
theorem A3B:(signs.take 7 == "harness".toList)=true:=A7
theorem ATO (h:P.initOrder.toList=signs)(hd:P.doorFits []=true)(hl:P.laysLater=false)(hr:P.bearsReflect=false):P.mayEnter=true:=by
 unfold Program.mayEnter;generalize P.initOrder.toList=l at h;subst h;rw[lR];simp only[ABM,hd,hl,hr,jX,List.head?_cons,Bool.not_false,Bool.or_true,Bool.and_true,AEV]
theorem AXT (h:P.initOrder.toList=signs):P.make=some .cut:=by
 unfold Program.make;generalize P.initOrder.toList=l at h;subst h;rw[lR];simp only[A5L,AXG,A3U,qB,Bool.false_eq_true,if_false,Bool.true_or,if_true]
theorem AOL (h:P.initOrder.toList=signs):P.liftsFinal=false:=by
 unfold Program.liftsFinal Program.headLifts;generalize P.initOrder.toList=l at h;subst h;rw[lR];simp only[ABM,List.head?_cons,AXH,AEV,Bool.false_and,Bool.false_or,if_true,jX]
theorem AXU (h:P.initOrder.toList=signs)(hs:s=String.ofList hsum):P.mainIs=some (true,s.toList):=by
 rw[sJ hs];unfold Program.mainIs;generalize P.initOrder.toList=l at h;subst h;rw[A17]
 show(if !isSumSigns hsum then none else if signs.take 7 == "harness".toList then some (true,hsum) else if signs.take 7 == "ownmain".toList then some (false,hsum) else none)=_
 rw[sum_is,A3B];rfl
theorem A6X:Tryz.pinned.checked.prog.mayEnter=true:=ATO cU AY3 AR8 AWO
theorem make_is:Tryz.pinned.checked.prog.make=some .cut:=AXT cU
theorem A4I:Tryz.pinned.checked.prog.liftsFinal=false:=AOL cU
theorem A8R (hs:s=String.ofList hsum):Tryz.pinned.checked.prog.mainIs=some (true,s.toList):=AXU cU hs
theorem A8V (h:P.funcs.any Func.goes=false)(s:String):P.goesFrom s=false:=by
 have hg:∀g:FuncId,(P.funcs[g]?).any Func.goes=false:=fun g=>by
  cases hq:P.funcs[g]? with
  | none=>rfl
  | some fn =>
    show fn.goes=false;rw[Array.any_eq_false'] at h;have:=h fn (Array.mem_of_getElem? hq);simpa using this
 unfold Program.goesFrom
 cases P.funcNamed s with
 | none=>rfl
 | some f =>
   show P.goes f=false;unfold Program.goes;rw[h,Bool.and_false,qB];simp [hg]
theorem BAV:Tryz.pinned.checked.prog.funcs.any Func.goes=false:=A7
theorem A6G:Tryz.pinned.checked.prog.stopsHeard=true:=A7
theorem A8T:laidOutB Tryz.pinned.checked.prog=true:=A7
theorem A8Q:mapsRowed Tryz.pinned.checked.prog=true:=A7
end Go.Proofs.YtiihpnicbekebaaGreatDoor.Head
namespace Go.Proofs.YtiihpnicbekebaaGreatDoor.Cov
open Sm Bins Go.RowKit
variable {b:Nat}
def okR (r:Rng)(_:Nat):Prop:=(-9223372036854775808<=r.lo∧r.lo<=9223372036854775807)∧(-9223372036854775808<=r.hi∧r.hi<=9223372036854775807)
theorem cl3:Tryz.prog.cellsOf 3=1:=A7
theorem cl9:Tryz.prog.cellsOf 9=1:=A7
theorem A65:Tryz.prog.cellsOf 84=1:=A7
theorem A90:Tryz.prog.cellsOf 85=1:=A7
theorem A3Y:Tryz.prog.cellsOf 23=1:=A7
theorem A3X:Tryz.prog.cellsOf 79=4:=A7
theorem A92:Tryz.prog.cellsOf 80=1:=A7
theorem A91:Tryz.prog.cellsOf 82=6:=A7
theorem A9Z:Tryz.prog.cellsOf 87=4:=A7
theorem A9Y:Tryz.prog.cellsOf 90=3:=A7
theorem AZI:Tryz.prog.cellsOf 32=1:=A7
theorem A66:Tryz.prog.cellsOf 25=1:=A7
theorem A95:Tryz.prog.cellsOf 28=1:=A7
theorem A94:Tryz.prog.cellsOf 29=1:=A7
theorem BAX:Tryz.prog.cellsOf 31=2:=A7
theorem rdI:Rd jA 3 qencI okI:=A2N Tryz.underlying3
theorem rdStr:Rd jA 9 qencStr okS:=A2M Tryz.underlying9
theorem PO {α:Type}{ok:α->Nat->Prop}{xs:List α}(h:∃b',b'+1<=b∧okL ok xs b'):okL ok xs b:=by obtain⟨b',h1,h2⟩:=h; exact h2.mono U
def A2U (x:Is)(b:Nat):Prop:=okL okI x.l b
theorem A2O:Rd jA 32 encL A2U:=by
 intro n
 cases n with
 | zero=>exact RdAt.zero
 | succ n=>exact RdAt.map (fun x:SM×List Int=>(⟨x.1,x.2⟩:Is)) (KX Tryz.underlying32 cl3 DF (fun _=>rfl) (rdI n)) (fun _=>rfl) (fun x b h=>PO h)
def okE (e:Ex)(b:Nat):Prop:=wt e<=b
theorem AC4:∀ {l:List Ex} {b:Nat},okL okE l b->wts l<=b
 | [],b,_=>Nat.zero_le _
 | x::xs,b,⟨b1,b2,h1,_,h3,h4⟩=>by
   have:=AC4 h4;simp only[wts]; unfold okE at h3; omega
theorem rdE:∀n:Nat,RdAt jA n 79 AX okE:=by
 intro n
 induction n using Nat.strongRecOn with
 | _ n ih =>
   match n,ih with
   | 0,_=>exact RdAt.zero
   | 1,_ =>
     intro H ench w cs d ps h;obtain⟨zs,m,hm,_,_,hl,hz⟩:=DataW.trod_struct Tryz.underlying79 h;obtain rfl:m=0:=U;have:=hz 0 _ rfl;simp only[DataW.trod] at this
     have h0:zs=[]:=by cases zs with
      | nil=>rfl
      | cons a l=>simp at this
     subst h0; simp at hl
   | n+2,ih =>
     have rdA:RdAt jA (n+1) 23 (fun x:SM×List Ex=>[.sl x.1 4 (x.2.map AX)]) (fun x b=>∃b',b'+1<=b∧okL okE x.2 b'):=KX Tryz.underlying23 A3X DF EC (ih n U)
     refine RdAt.map (fun x:Int×Int×ByteArray×(SM×List Ex)×Unit=>Ex.mk x.1 x.2.1 x.2.2.1 x.2.2.2.1.1 x.2.2.2.1.2)
      (LU Tryz.underlying79 (EY rfl cl3 (fun _=>rfl) (rdI _) (EY rfl cl3 (fun _=>rfl) (rdI _) (EY rfl cl9 (fun _=>rfl) (rdStr _) (EY rfl A3Y (fun _=>rfl) rdA PN))))) (fun x=>by rw[FB]; rfl) ?_
     rintro⟨a,b,c,d,_⟩ N ⟨_,hN,b1,b2,hb,h1,b3,b4,hb2,h2,b5,b6,hb3,h3,b7,b8,hb4,⟨b9,h5,h6⟩,_⟩;have h7:=AC4 h6;unfold okS at h3;show wt _<=_;rw[MN];simp only[Ex.name,Ex.args];simp only at h3 h7;omega
theorem rdR:Rd jA 145 encR okR:=by
 intro n
 cases n with
 | zero=>exact RdAt.zero
 | succ n =>
   refine RdAt.map (fun x:Int×Int×Unit=>(⟨x.1,x.2.1⟩:Rng)) (LU Tryz.underlying145 (EY rfl cl3 (fun _=>rfl) (rdI n) (EY rfl cl3 (fun _=>rfl) (rdI n) PN))) (fun _=>rfl) ?_;rintro⟨a,b,_⟩ N ⟨_,_,_,_,_,h1,_,_,_,h2,_⟩;exact⟨h1,h2⟩
theorem A68:Tryz.prog.cellsOf 145=2:=A7
def AW8 (x:Rs)(b:Nat):Prop:=okL okR x.l b
theorem A5D:Rd jA 84 encS AW8:=by
 intro n
 cases n with
 | zero=>exact RdAt.zero
 | succ n=>exact RdAt.map (fun x:SM×List Rng=>(⟨x.1,x.2⟩:Rs)) (KX Tryz.underlying84 A68 DF YI (rdR n)) (fun _=>rfl) (fun x b h=>PO h)
def okB (x:Bin)(b:Nat):Prop:=∃b1 b2 b3,b1+b2+b3<=b∧okS x.name b1∧AW8 x.ranges b2∧okL AW8 x.steps b3
theorem rdB:Rd jA 87 F6 okB:=by
 intro n
 match n with
 | 0=>exact RdAt.zero
 | 1 =>
   intro H ench w cs d ps h;obtain⟨zs,m,hm,_,_,hl,hz⟩:=DataW.trod_struct Tryz.underlying87 h;obtain rfl:m=0:=U;have:=hz 0 _ rfl;simp only[DataW.trod] at this
   have h0:zs=[]:=by cases zs with
    | nil=>rfl
    | cons a l=>simp at this
   subst h0; simp at hl
 | n+2 =>
   have rdSt:RdAt jA (n+1) 85 (fun x:SM×List Rs=>[.sl x.1 1 (x.2.map encS)]) (fun x b=>∃b',b'+1<=b∧okL AW8 x.2 b'):=KX Tryz.underlying85 A65 DF (fun _=>rfl) (A5D n)
   refine RdAt.map (fun x:ByteArray×Int×Rs×(SM×List Rs)×Unit=>(⟨x.1,x.2.1,x.2.2.1,x.2.2.2.1.1,x.2.2.2.1.2⟩:Bin))
    (LU Tryz.underlying87 (EY rfl cl9 (fun _=>rfl) (rdStr _) (EY rfl cl3 (fun _=>rfl) (rdI _) (EY rfl A65 (fun _=>rfl) (A5D _) (EY rfl A90 (fun _=>rfl) rdSt PN))))) (fun _=>rfl) ?_
   rintro⟨a,b,c,d,_⟩ N ⟨_,hN,b1,b2,hb,h1,b3,b4,hb2,h2,b5,b6,hb3,h3,b7,b8,hb4,h4,_⟩;exact⟨b1,b5,b7,U,h1,h3,PO h4⟩
theorem AUM {x:Bin}(h:okB x b)(hb:b<=1048576):BinOk x:=by
 obtain⟨b1,b2,b3,h0,h1,h2,h3⟩:=h;have l2:=h2.length;have l3:=h3.length
 have hs:∀l∈sets x,l.l.length<=1048576:=by
  intro l hl;unfold sets at hl;split at hl
  .simp at hl; subst hl; omega
  .obtain⟨b4,h4,h5⟩:=h3.each l hl
   have:=h5.length;omega
 refine⟨?_,?_,U,fun l hl=>by have:=hs l hl; omega⟩
 .unfold sets
  split
  .simp
  .omega
 .unfold okS at h1; omega
theorem fA {t:TypeId}{f:Field}{fs:List Field}{α:Type}{enc:α->List AV}{ok:α->Nat->Prop}(hu:Tryz.prog.underlying t=some (.struct (f::fs).toArray)):RdAt jA 1 t enc ok:=by
 intro H ench w cs d ps h;obtain⟨zs,m,hm,_,_,hl,hz⟩:=DataW.trod_struct hu h;obtain rfl:m=0:=U;have:=hz 0 _ rfl;simp only[DataW.trod] at this
 have h0:zs=[]:=by cases zs with
  | nil=>rfl
  | cons a l=>simp at this
 subst h0; simp at hl
def AW9 (p:Pt)(b:Nat):Prop:=∃b1 b2 b3,b1+b2+b3<=b∧okS p.name b1∧okE p.ex b2∧okL okB p.bins b3
theorem rdP:Rd jA 82 FC AW9:=by
 intro n
 match n with
 | 0=>exact RdAt.zero
 | 1=>exact fA Tryz.underlying82
 | n+2 =>
   have rdBs:RdAt jA (n+1) 80 (fun x:SM×List Bin=>[.sl x.1 4 (x.2.map F6)]) (fun x b=>∃b',b'+1<=b∧okL okB x.2 b'):=KX Tryz.underlying80 A9Z DF KZ (rdB n)
   refine RdAt.map (fun x:ByteArray×Ex×(SM×List Bin)×Unit=>(⟨x.1,x.2.1,x.2.2.1.1,x.2.2.1.2⟩:Pt))
    (LU Tryz.underlying82 (EY rfl cl9 (fun _=>rfl) (rdStr _) (EY rfl A3X EC (rdE _) (EY rfl A92 (fun _=>rfl) rdBs PN)))) (fun x=>rfl) ?_
   rintro⟨a,b,c,_⟩ N ⟨_,hN,b1,b2,hb,h1,b3,b4,hb2,h2,b5,b6,hb3,h3,_⟩;exact⟨b1,b3,b5,U,h1,h2,PO h3⟩
def AXD (c:Cr)(b:Nat):Prop:=∃b1 b2 b3,b1+b2+b3<=b∧okS c.name b1∧okL okI c.pts b2∧okL A2U c.excl b3
theorem rdC:Rd jA 90 H8 AXD:=by
 intro n
 match n with
 | 0=>exact RdAt.zero
 | 1=>exact fA Tryz.underlying90
 | n+2 =>
   have rdXs:RdAt jA (n+1) 25 (fun x:SM×List Is=>[.sl x.1 1 (x.2.map encL)]) (fun x b=>∃b',b'+1<=b∧okL A2U x.2 b'):=KX Tryz.underlying25 AZI DF oK (A2O n)
   refine RdAt.map (fun x:ByteArray×Is×(SM×List Is)×Unit=>(⟨x.1,x.2.1.m,x.2.1.l,x.2.2.1.1,x.2.2.1.2⟩:Cr))
    (LU Tryz.underlying90 (EY rfl cl9 (fun _=>rfl) (rdStr _) (EY rfl AZI oK (A2O _) (EY rfl A66 (fun _=>rfl) rdXs PN)))) (fun x=>rfl) ?_
   rintro⟨a,b,c,_⟩ N ⟨_,hN,b1,b2,hb,h1,b3,b4,hb2,h2,b5,b6,hb3,h3,_⟩;exact⟨b1,b3,b5,U,h1,h2,PO h3⟩
def okM (m:Mo)(b:Nat):Prop:=∃b1 b2,b1+b2<=b∧okL AW9 m.pts b1∧okL AXD m.crs b2
theorem rdM:Rd jA 31 DR okM:=by
 intro n
 match n with
 | 0=>exact RdAt.zero
 | 1=>exact fA Tryz.underlying31
 | n+2 =>
   have rdPs:RdAt jA (n+1) 28 (fun x:SM×List Pt=>[.sl x.1 6 (x.2.map FC)]) (fun x b=>∃b',b'+1<=b∧okL AW9 x.2 b'):=KX Tryz.underlying28 A91 DF H7 (rdP n);have rdCs:RdAt jA (n+1) 29 (fun x:SM×List Cr=>[.sl x.1 3 (x.2.map H8)]) (fun x b=>∃b',b'+1<=b∧okL AXD x.2 b'):=KX Tryz.underlying29 A9Y DF OZ (rdC n)
   refine RdAt.map (fun x:(SM×List Pt)×(SM×List Cr)×Unit=>(⟨x.1.1,x.1.2,x.2.1.1,x.2.1.2⟩:Mo))
    (LU Tryz.underlying31 (EY rfl A95 (fun _=>rfl) rdPs (EY rfl A94 (fun _=>rfl) rdCs PN))) (fun x=>rfl) ?_
   rintro⟨a,b,_⟩ N ⟨_,hN,b1,b2,hb,h1,b3,b4,hb2,h2,_⟩;exact⟨b1,b3,U,PO h1,PO h2⟩
theorem AWS {p:Pt}(h:AW9 p b)(hb:b<=1048576):PtOk p:=by
 obtain⟨b1,b2,b3,h0,h1,h2,h3⟩:=h;have l3:=h3.length;unfold okS at h1;unfold okE at h2;refine⟨U,U,U,fun x hx=>?_⟩;obtain⟨b4,h4,h5⟩:=h3.each x hx;exact AUM h5 U
theorem AY7 {c:Cr}(h:AXD c b)(hb:b<=1048576):CrOk c:=by
 obtain⟨b1,b2,b3,h0,h1,h2,h3⟩:=h;have l2:=h2.length;have l3:=h3.length;unfold okS at h1;refine⟨U,U,U,fun x hx=>?_⟩;obtain⟨b4,h4,h5⟩:=h3.each x hx;have:=okL.length h5;omega
theorem A8P {m:Mo}(h:okM m b)(hb:b<=1048576):MoOk m:=by
 obtain⟨b1,b2,h0,h1,h2⟩:=h;have l1:=h1.length;have l2:=h2.length;refine⟨U,U,fun p hp=>?_,fun c hc=>?_⟩
 .obtain⟨b4,h4,h5⟩:=h1.each p hp
  exact AWS h5 U
 .obtain⟨b4,h4,h5⟩:=h2.each c hc
  exact AY7 h5 U
end Go.Proofs.YtiihpnicbekebaaGreatDoor.Cov
namespace Go.Proofs.YtiihpnicbekebaaGreatDoor.Bd.Cl
open Sm Bins Cov Xe Wd Bl Ho Go.RowKit
variable {m:Mo} {v:Cvr} {p:Pr}
def XE (g:Gl):Hl:=⟨g.cross,g.idx,g.bm,g.bins⟩
theorem AYJ (hm:MoOk m):∀g∈goals m,g.bins.length<=1048576:=by
 have h1:∀(i:Nat) (p:Pt) (k:Nat),∀g∈gPk i p k,g.bins.length<=1048576:=by
  intro i p k
  induction k with
  | zero=>intro g hg; cases hg
  | succ k ih =>
    intro g hg;rcases zI.1 hg with h|h
    .exact ih g h
    .split at h
     .rw[qP.1 h]; show 1<=_; omega
     .cases h
 have h2:∀k,∀g∈gP m k,g.bins.length<=1048576:=by
  intro k
  induction k with
  | zero=>intro g hg; cases hg
  | succ k ih =>
    intro g hg;rcases zI.1 hg with h|h
    .exact ih g h
    .cases hq:m.pts[k]? with
     | none=>rw[hq] at h; cases h
     | some p=>rw[hq] at h; exact h1 _ _ _ g h
 have h3:∀(i:Nat) (c:Cr),c.pts.length<=1048576->∀k,∀g∈gCk m i c k,g.bins.length<=1048576:=by
  intro i c hc k
  induction k with
  | zero=>intro g hg; cases hg
  | succ k ih =>
    intro g hg;rcases zI.1 hg with h|h
    .exact ih g h
    .split at h
     .rw[qP.1 h]
      show(SQ (szs m c.pts) k).length<=_;unfold SQ;rw[jM,XO,RY]; exact hc
     .cases h
 have h4:∀k,∀g∈gC m k,g.bins.length<=1048576:=by
  intro k
  induction k with
  | zero=>exact h2 _
  | succ k ih =>
    intro g hg;rcases zI.1 hg with h|h
    .exact ih g h
    .cases hq:m.crs[k]? with
     | none=>rw[hq] at h; cases h
     | some c=>rw[hq] at h; exact h3 _ _ (hm.crs c (zZ hq)).pts _ g h
 exact h4 _
theorem AYB (hm:MoOk m):∀g∈OH m v,(XE g).bins.length<=1048576:=by
 intro g hg;unfold OH at hg;split at hg
 .exact AYJ hm g (List.mem_filter.1 hg).1
 .cases hg
theorem A29 (m:Mo)(v:Cvr):(OH m v).length<=8192:=by
 unfold OH;split
 .rename_i hf
  exact Nat.le_trans (List.length_filter_le _ _) (tV (UL (nV hf)))
 .exact Nat.zero_le _
def rC (f:Gl->Int)(most:Int)(s:List Gl×List Gl)(g:Gl):List Gl×List Gl :=
 if f g=11 then (s.1,s.2++[g]) else if f g=0∧(s.1.length:Int)<most then (s.1++[g],s.2) else s
def ZN (f:Gl->Int)(most:Int)(L:List Gl):List Gl×List Gl:=L.foldl (rC f most) ([],[])
theorem AM9 (f:Gl->Int)(most:Int)(L:List Gl)(g:Gl):ZN f most (L++[g])=rC f most (ZN f most L) g:=by unfold ZN; rw[List.foldl_append]; rfl
theorem AQ6 (f:Gl->Int)(most:Int)(L:List Gl):(ZN f most L).1.length<=L.length∧(ZN f most L).2.length<=L.length:=by
 have:∀(L:List Gl) (s:List Gl×List Gl),(L.foldl (rC f most) s).1.length<=s.1.length+L.length∧(L.foldl (rC f most) s).2.length<=s.2.length+L.length:=by
  intro L
  induction L with
  | nil=>intro s; exact⟨jF _,jF _⟩
  | cons g L ih =>
    intro s;obtain⟨h1,h2⟩:=ih (rC f most s g)
    have h3:(rC f most s g).1.length<=s.1.length+1∧(rC f most s g).2.length<=s.2.length+1:=by
     unfold rC;split
     .exact⟨Nat.le_succ _,AZ⟩
     .split
      .exact⟨AZ,Nat.le_succ _⟩
      .exact⟨Nat.le_succ _,Nat.le_succ _⟩
    rw[List.foldl_cons,zO];omega
 have h:=this L ([],[]);unfold ZN;simpa using h
def ACS (p:Pr)(m:Mo)(v:Cvr)(most:Int):Int:=if IJ p≠0∨FK m≠0∨MQ m v=false∨most<0∨1024<most then 1 else 0
def mX (s:Bw)(ins:Ex->List Rng->Ex)(p:Pr)(m:Mo)(v:Cvr)(most:Int):List Gl×List Gl:=if ACS p m v most=0 then ZN (fun g=>MP s ins p m (XE g)) most (OH m v) else ([],[])
def AQ5 (s:Bw)(ins:Ex->List Rng->Ex)(p:Pr)(m:Mo)(v:Cvr)(most:Int):AV:=.tup [.sl (Cov.nm (mX s ins p m v most).1) 3 ((mX s ins p m v most).1.map Cov.encH),.sl (Cov.nm (mX s ins p m v most).2) 3 ((mX s ins p m v most).2.map Cov.encH),.n (ACS p m v most)]
def AM8 (s:Bw)(ins:Ex->List Rng->Ex)(p:Pr)(m:Mo)(v:Cvr)(most:Int):AV:=.tup [fzG 3 Cov.encH (mX s ins p m v most).1,fzG 3 Cov.encH (mX s ins p m v most).2,.n (ACS p m v most)]
theorem AWW (s:Bw)(ins:Ex->List Rng->Ex)(p:Pr)(m:Mo)(v:Cvr)(most:Int):CvR (AM8 s ins p m v most) (AQ5 s ins p m v most):=CvR.tup (CvRL.cons WP (CvRL.cons WP (CvRL.cons (CvR.refl _) CvRL.nil)))
theorem X3 {s:Bw}{ins:Ex->List Rng->Ex}{most:Int}(h:IJ p≠0∨FK m≠0∨MQ m v=false∨most<0∨1024<most):AM8 s ins p m v most=.tup [.sl .nil 0 [],.sl .nil 0 [],.n 1]:=by
 have e:ACS p m v most=1:=by unfold ACS; rw[if_pos h]
 unfold AM8 mX;rw[e,if_neg DF]; rfl
theorem AWV {s:Bw}{ins:Ex->List Rng->Ex}{most:Int}(h:¬(IJ p≠0∨FK m≠0∨MQ m v=false∨most<0∨1024<most)):AM8 s ins p m v most=.tup [fzG 3 Cov.encH (ZN (fun g=>MP s ins p m (XE g)) most (OH m v)).1,fzG 3 Cov.encH (ZN (fun g=>MP s ins p m (XE g)) most (OH m v)).2,.n 0]:=by
 have e:ACS p m v most=0:=by unfold ACS; rw[if_neg h]
 unfold AM8 mX;rw[e,if_pos rfl]
theorem BAO (h:Hp):GU jA h 34=some (.ptr h.length 0 0,h++[yK 3 [[.bool false,.n 0,.sl .nil 0 []]]]):=FI (row:=[.bool false,.n 0,.sl .nil 0 []]) A7
theorem A9D (h:Hp)(x:Hl):DT jA (h++[yK 3 [[.bool false,.n 0,.sl .nil 0 []]]]) 34 (.ptr h.length 0 0) (.agg (FX x))=some (h++[yK 3 [FX x]]):=by
 rw[IU (cs:=FX x) (row:=[.bool false,.n 0,.sl .nil 0 []]) rfl vO (AQ _ _) (jF 3),JZ]; rfl
theorem A1L (h:Hp)(x:Hl):C9 jA false h 49 1 [(0,.agg (FX x))]=some (.sl .full 3 [FX x],h):=A7
section
variable (G:Nat->AV)
theorem AZ8 (hG:GOk G)(p:Pr)(hs:PrS p)(hb:Sm51 p)(m:Mo)(hm:MoOk m)(v:Cvr)(most:Int)(hF:∀h,PCall (En G) 55 [.agg (DR m),.agg (Cov.encV v)] h (.bool (MQ m v)))(hH:∀h,PCall (En G) 21 [.agg (DR m),.agg (Cov.encV v)] h (.sl (Cov.nm (OH m v)) 3 ((OH m v).map Cov.encH)))(h:Hp):PCall (En G) 17 [.agg (CW p),.agg (DR m),.agg (Cov.encV v),.n most] h (AQ5 sdP D7 p m v most):=by
 refine PCall.res ?_ (AWW sdP D7 p m v most);refine ACalls.pure (R:=fun u H=>Sm.ext h H∧EZ h.length H 3 u=AM8 sdP D7 p m v most) 3 ?_ (fun v H ⟨a,b⟩=>⟨a,b⟩);refine acL Tryz.func17 [.tmp 8,.tmp 9,.tmp 10] ?_;have gp:=AB (x:=yK 4 [Cov.encV v]) (AB (x:=yK 2 [DR m]) (AQ h (yK 5 [CW p])));have gm:=AB (x:=yK 4 [Cov.encV v]) (AQ (h++[yK 5 [CW p]]) (yK 2 [DR m]));have gv:=AQ (h++[yK 5 [CW p]]++[yK 2 [DR m]]) (yK 4 [Cov.encV v]);have hx:Sm.ext h (h++[yK 5 [CW p]]++[yK 2 [DR m]]++[yK 4 [Cov.encV v]]):=(((ext.rfl' h).app _).app _).app _;refine DL @QA @bxM @Cov.bxV ?_
 generalize h++[yK 5 [CW p]]++[yK 2 [DR m]]++[yK 4 [Cov.encV v]]=H0 at gp gm gv hx|-
 generalize (h++[yK 5 [CW p]]++[yK 2 [DR m]]).length=vb at gv|-
 generalize (h++[yK 5 [CW p]]).length=mb at gm|-
 refine AY (SB gp) ?_;refine(Bd.valid_prog G hG p hs H0).use ?_;cases b1:(IJ p != 0)
 case true =>
  have q:IJ p≠0:=BG b1;refine AY b1 ?_;exact⟨hx,by rw[X3 (.inl q)]; rfl⟩
 have q1:IJ p=0:=BG b1;refine A8 b1 (ldM gm) ?_;refine(S9 G hG m hm H0).use ?_;cases b2:(FK m != 0)
 case true =>
  have q:FK m≠0:=BG b2;refine A8 b1 b2 ?_;exact⟨hx,by rw[X3 (.inr (.inl q))]; rfl⟩
 have q2:FK m=0:=BG b2;refine EM b1 b2 (ldM gm) (Cov.ldV gv) ?_;refine(hF H0).use ?_;cases b3:MQ m v
 case false =>
  refine DL b1 b2 b3 ?_;exact⟨hx,by rw[X3 (.inr (.inr (.inl b3)))]; rfl⟩
 refine DL b1 b2 b3 ?_;cases b4:decide (most<0)
 case true =>
  refine EM b1 b2 b3 b4 ?_;exact⟨hx,by rw[X3 (.inr (.inr (.inr (.inl (of_decide_eq_true b4)))))]; rfl⟩
 refine AY b4 ?_;cases b5:decide (most>1024)
 case true =>
  refine JG b1 b2 b3 b4 b5 ?_;exact⟨hx,by rw[X3 (.inr (.inr (.inr (.inr (of_decide_eq_true b5)))))]; rfl⟩
 have hok:=AWV (s:=sdP) (ins:=D7) (p:=p) (m:=m) (v:=v) (most:=most) (by
  have:=of_decide_eq_false b4; have:=of_decide_eq_false b5;rintro (q|q|q|q|q)
  .exact q q1
  .exact q q2
  .rw[b3] at q; cases q
  .omega
  .omega)
 refine NW b1 b2 b3 b4 b5 (ldM gm) (Cov.ldV gv) ?_;refine(hH H0).use ?_;have hbin:=AYB (v:=v) hm;have hln:=A29 m v;rw[hok]
 generalize OH m v=L at hbin hln|-
 have hpl:∀k,(ZN (fun g=>MP sdP D7 p m (XE g)) most (L.take k)).1.length<=8192∧(ZN (fun g=>MP sdP D7 p m (XE g)) most (L.take k)).2.length<=8192:=fun k=>by
  have h1:=AQ6 (fun g=>MP sdP D7 p m (XE g)) most (L.take k);have:(L.take k).length<=L.length:=by rw[jZ]; omega
  omega
 generalize hf:(fun g=>MP sdP D7 p m (XE g))=f at hpl|-
 have hfx:∀g,MP sdP D7 p m (XE g)=f g:=fun g=>by rw[<-hf]
 refine AA ?_
 refine BJ (fun n F H=>∃k v1 v2,n+k=L.length∧F 3=.n most∧F 4=.ptr h.length 0 0∧F 5=.ptr mb 0 0∧F 11=v1∧F 12=v2∧F 41=.sl (Cov.nm L) 3 (L.map Cov.encH)∧F 42=.n (L.length:Nat)∧F 43=.n (k:Nat)∧Sm.ext H0 H∧outG 3 Cov.encH H0 (ZN f most (L.take k)).1 v1 H∧outG 3 Cov.encH H0 (ZN f most (L.take k)).2 v2 H∧∀b,isB v1 b->¬isB v2 b) L.length
  ⟨0,.sl .nil 0 [],.sl .nil 0 [],AZ,AL,AL,AL,AL,AL,AL,AL,AL,ext.rfl' _,outG.nil _ _ _ _,outG.nil _ _ _ _,fun b q=>q.elim⟩ ?_
 rintro n F H ⟨k,v1,v2,hk,f3,f4,f5,f11,f12,f41,f42,f43,hxH,o1,o2,sep⟩;refine A8 f42 f43 ?_;refine D8 ?_ ?_<;>intro hk'
 .have hme:=jI hk'
  have hpk:=hpl k;have hst:ZN f most (L.take (k+1))=rC f most (ZN f most (L.take k)) L[k]:=by rw[jU hk',AM9]
  unfold rC at hst;have lr:BH jA H 34 (.fptr 3 (L.map Cov.encH) k 0)=some (.agg (FX (XE L[k]))):=by rw[DC A4B vO (f:=Cov.encH) (fun g=>rfl) hk']; rfl
  have hx1:=hxH.app [yK 3 [FX (XE L[k])]];have o1:=o1.app [yK 3 [FX (XE L[k])]];have o2:=o2.app [yK 3 [FX (XE L[k])]];have gg:=AQ H (yK 3 [FX (XE L[k])]);refine NW A6A f41 f43 hk' lr BAO A9D ?_
  generalize H++[yK 3 [FX (XE L[k])]]=H1 at hx1 o1 o2 gg|-
  generalize H.length=gb at gg|-
  refine JG f4 f5 (SB (DV hx1 gp)) (ldM (DV hx1 gm)) (ldH gg) ?_;refine(WY G hG p hs hb m hm (XE L[k]) (hbin _ hme) H1).use ?_;unfold AGZ;rw[hfx];generalize ZN f most (L.take k)=s at o1 o2 hpk hst;cases c1:(f L[k]==11)
  .have n1:f L[k]≠11:=BG c1
   rw[if_neg n1] at hst;cases c2:(f L[k]==0)
   .have n2:f L[k]≠0:=BG c2
    rw[if_neg (fun q=>n2 q.1)] at hst;refine EM c1 c2 f43 (CZ k) ?_;exact⟨n-1,U,k+1,v1,v2,U,AC,AC,AC,AC,AC,AC,AC,AC,hx1,by rw[hst]; exact o1,by rw[hst]; exact o2,sep⟩
   .have n2:f L[k]=0:=BG c2
    cases c3:decide (((s.1.length:Nat):Int)<most)
    .rw[if_neg (fun q=>of_decide_eq_false c3 q.2)] at hst
     refine TW c1 c2 f3 f11 (o1.len ARZ) c3 f43 (CZ k) ?_;exact⟨n-1,U,k+1,v1,v2,U,AC,AC,AC,AC,AC,AC,AC,AC,hx1,by rw[hst]; exact o1,by rw[hst]; exact o2,sep⟩
    .rw[if_pos ⟨n2,of_decide_eq_true c3⟩] at hst
     obtain⟨v',H',a1,a2,a3,a4,_,a5⟩:=o1.append (P:=jA) AV4 vO AVT A31 U U hx1 L[k];change EP jA true H1 49 49 v1 (.sl .full 3 [FX (XE L[k])])=_ at a1;refine cB c1 c2 f3 f11 (o1.len ARZ) c3 (ldH gg) @A1L a1 f43 (CZ k) ?_;exact⟨n-1,U,k+1,v',v2,U,AC,AC,AC,AC,AC,AC,AC,AC,a4,by rw[hst]; exact a2,by rw[hst]; exact o2.keepA a3 (fun b q1 q2=>sep b q2 q1),fun b q1 q2=>by have:=a5 b q1; have:=(o2.lt q2).2; omega⟩
  .have n1:f L[k]=11:=BG c1
   rw[if_pos n1] at hst;obtain⟨v',H',a1,a2,a3,a4,_,a5⟩:=o2.append (P:=jA) AV4 vO AVT A31 U U hx1 L[k];change EP jA true H1 49 49 v2 (.sl .full 3 [FX (XE L[k])])=_ at a1;refine NW c1 f12 (ldH gg) @A1L a1 f43 (CZ k) ?_;exact⟨n-1,U,k+1,v1,v',U,AC,AC,AC,AC,AC,AC,AC,AC,a4,by rw[hst]; exact o1.keepA a3 (fun b q1 q2=>sep b q1 q2),by rw[hst]; exact a2,fun b q1 q2=>by have:=a5 b q2; have:=(o1.lt q1).2; omega⟩
 .rw[jJ U] at o1 o2
  refine A8 f11 f12 ?_;refine⟨hx.trans hxH,?_⟩;have hle:=hx.le;show AV.tup [EZ h.length H 2 v1,EZ h.length H 2 v2,_]=_;rw[PW Cov.frzH o1 h.length 0 U,PW Cov.frzH o2 h.length 0 U]; rfl
end
def cV (vs:List Vr):Nat->List Int
 | 0=>[]
 | k+1=>cV vs k++(match vs[k]? with|some v=>if v.mode≠0 then [((k:Nat):Int)] else []|none=>[])
theorem mN (vs:List Vr):∀k,(cV vs k).length<=k
 | 0=>jF _
 | k+1=>by
   have:=mN vs k;simp only[cV,jT]
   cases vs[k]? with
   | none=>simp; omega
   | some v=>simp only; split<;>simp<;>omega
theorem AJ1 (vs:List Vr):∀k,∀z∈cV vs k,∃i:Nat,z=(i:Int)∧i<vs.length
 | 0,z,h=>by cases h
 | k+1,z,h=>by
   rcases zI.1 h with h|h
   .exact AJ1 vs k z h
   .cases hq:vs[k]? with
    | none=>rw[hq] at h; cases h
    | some v =>
      rw[hq] at h;simp only at h;split at h
      .exact⟨k,qP.1 h,Z hq⟩
      .cases h
def eR (vs:List Vr)(z:Int):Int:=match vs[z.toNat]? with|some v=>v.width|none=>0
theorem ACD (vs:List Vr):∀k,k<=vs.length->((cV vs k).map (eR vs)).sum=J4 (vs.take k)
 | 0,_=>rfl
 | k+1,h=>by
   have ih:=ACD vs k U;have hk:k<vs.length:=U;rw[jU hk];simp only[cV,jG hk];rw[qR,List.sum_append,ih];unfold J4;rw[qR,List.sum_append];congr 1;by_cases hm:vs[k].mode=0
   .rw[if_neg (by simp [hm])]; simp [hm]
   .rw[if_pos hm]
    simp only[jK,jL,List.sum_cons,List.sum_nil];rw[if_neg hm];unfold eR;rw[qG,jG hk]
theorem sL {vs:List Vr}(hw:∀v∈vs,1<=v.width∧v.width<=8):∀l:List Int,0<=(l.map (eR vs)).sum∧(l.map (eR vs)).sum<=8*(l.length:Int)
 | []=>AZ
 | z::l=>by
   have ih:=sL hw l
   have h1:0<=eR vs z∧eR vs z<=8:=by
    unfold eR
    cases hq:vs[z.toNat]? with
    | none=>simp
    | some v=>have:=hw v (zZ hq); simp only; omega
   simp only[jK,List.sum_cons,zO];omega
def kL (p:Pr):List Int:=if IJ p=0 then cV p.vars p.vars.length else []
theorem sI {p:Pr}(P:PV p):∀k,k<=p.vars.length->0<=J4 (p.vars.take k)∧rA p.vars k=2^(J4 (p.vars.take k)).toNat
 | 0,_=>⟨Int.le_refl 0,rfl⟩
 | k+1,h=>by
   have hk:k<p.vars.length:=U;obtain⟨i0,ih⟩:=sI P k U;obtain⟨_,w1,_⟩:=SN (P.vr _ (jI hk));rw[jU hk]
   have e:J4 (p.vars.take k++[p.vars[k]])=J4 (p.vars.take k)+if p.vars[k].mode=0 then 0 else p.vars[k].width:=by
    unfold J4;rw[qR,List.sum_append]; simp
   rw[e];simp only[rA,jG hk];by_cases hm:p.vars[k].mode=0
   .rw[if_pos hm,if_pos hm,Int.add_zero]; exact⟨i0,ih⟩
   .rw[if_neg hm,if_neg hm,ih,<-Nat.pow_add]
    exact⟨U,by congr 1; omega⟩
def Fw (p:Pr)(n:Int):Prop:=p.hard.length<=20∧p.dists.length<=20∧(IJ p=0->J4 p.vars<=n)
theorem Fw.sm {n:Int}(h:Fw p n)(hn:n<=18):Sm51 p:=by
 refine⟨by have:=h.1; omega,by have:=h.2.1; omega,fun hv=>?_⟩;have P:=PV.of hv;obtain⟨h0,h1⟩:=sI P p.vars.length (jF _);rw[List.take_length] at h0 h1;have hb:=h.2.2 hv;unfold lft;rw[h1];have:(2:Nat)^(J4 p.vars).toNat<=2^18:=Nat.pow_le_pow_right DF U;have e:(2:Nat)^18=262144:=rfl;omega
section
variable (G:Nat->AV)
theorem ANL (e:Ex):(pre e).length<=1048576->∀(d:Int),0<=d->d<=100->∀h:Hp,QCall (En G) 74 [.agg (AX e),.n d] h (fun v=>∃z:Int,v=.n z∧1<=z∧z<=((pre e).length:Int)):=by
 induction e using Ex.induct with|h e ih=>?_
 intro hw d d0 d1 h;have hpl:=congrArg wO (pre_eq e);rw[zO] at hpl;have hal:e.args.length<=1048576:=by have:=X0 e.args; omega
 refine ACalls.pureQ (R:=fun v H=>Sm.ext h H∧∃z:Int,v=.n z∧1<=z∧z<=((pre e).length:Int)) 1 ?_ (fun v H ⟨a,z,b,c⟩=>⟨a,z,by rw[b]; rfl,c⟩);refine acT Tryz.func74 4 ?_;have ge:=AQ h (yK 4 [AX e]);have hx:=Sm.ext.r1 h (yK 4 [AX e]);refine AY @bxE ?_
 generalize h++[yK 4 [AX e]]=H1 at ge hx|-
 generalize h.length=eb at ge|-
 refine BJ (fun n F H=>∃(j:Nat) (z:Int),n+j=e.args.length∧F 1=.n d∧F 2=.ptr eb 0 0∧F 5=.n z∧F 6=.n (j:Nat)∧H=H1∧1<=z∧z<=1+((FD (e.args.take j)).length:Int)) e.args.length
  ⟨0,1,AZ,AL,AL,AL,AL,rfl,U,by simp [FD]⟩ ?_
 rintro n F H ⟨j,z,hj,f1,f2,f5,f6,rfl,z1,z2⟩
 have hpj:(FD (e.args.take j)).length<=(FD e.args).length:=by
  have:FD e.args=FD (e.args.take j)++FD (e.args.drop j):=by rw[<-NQ,List.take_append_drop]
  rw[this,jT]; omega
 have fin:(1<=z∧z<=((pre e).length:Int)):=U;refine DL f2 f6 (U3 ge) ?_;cases hc:decide (((j:Nat):Int)<((e.args.length:Nat):Int))
 .refine A8 hc f5 ?_
  exact⟨hx,z,AC,fin⟩
 have hj':j<e.args.length:=by have:=of_decide_eq_true hc; omega
 refine A8 hc f5 ?_;cases hz:decide (z<100)
 .refine DL hc hz f5 ?_
  exact⟨hx,z,AC,fin⟩
 refine A8 hz f1 ?_;cases hd:decide (d<30)
 .refine EM hc hz hd f5 ?_
  exact⟨hx,z,AC,fin⟩
 have hmem:e.args[j]∈e.args:=jI hj';have hpa:(pre e.args[j]).length<=1048576:=by have:=QZ hmem; omega
 have w1:IntKind.i64.wrap (d+1)=d+1:=wrap_i64 U U;have hdl:=of_decide_eq_true hd;simp only[vQ,CG,↓reduceIte,jC,enP,PQ,bH,hc,hz,hd,f1,f2,f5,f6,U3 ge,CX hj',DC O1 JB EC hj',w1];refine(ih e.args[j] hmem hpa (d+1) U U H).use ?_;rintro r ⟨y,rfl,y1,y2⟩;have w2:IntKind.i64.wrap (z+y)=z+y:=wrap_i64 U U;refine DL f6 w2 (CZ j) ?_;refine⟨n-1,U,j+1,z+y,U,AC,AC,AC,AC,AC,U,?_⟩;rw[LV _ _ hj',jT]; omega
theorem gS (e:Ex):(pre e).length<=1048576->∀(d:Int),0<=d->d<=100->∀h:Hp,Rk.SomeB (En G) 35 [.agg (AX e),.n d] h:=by
 induction e using Ex.induct with|h e ih=>?_
 intro hw d d0 d1 h;have hpl:=congrArg wO (pre_eq e);rw[zO] at hpl;have hal:e.args.length<=1048576:=by have:=X0 e.args; omega
 refine Rk.SomeB.of ?_;refine acT Tryz.func35 4 ?_;have ge:=AQ h (yK 4 [AX e]);have hx:=Sm.ext.r1 h (yK 4 [AX e]);refine AY @bxE ?_
 generalize h++[yK 4 [AX e]]=H1 at ge hx|-
 generalize h.length=eb at ge|-
 cases hd:decide (d>25)
 rotate_left
 .refine AY hd ?_
  exact⟨⟨_,AC⟩,hx⟩
 have hdl:=of_decide_eq_false hd;refine AY hd ?_;refine RS (fun F H=>F 1=.n d∧F 2=.ptr eb 0 0∧(∃b,F 16=.bool b)∧H=H1) ?_ ?_
 .cases h0:(d==0)
  .refine A8 hd h0 ?_
   exact⟨AC,AC,⟨_,AC⟩,AC⟩
  .refine DL hd h0 (IM ge) ?_
   refine(ANL G e hw 0 U U H1).use ?_;rintro r ⟨y,rfl,y1,y2⟩;refine A8 hd h0 ?_;exact⟨AC,AC,⟨_,AC⟩,AC⟩
 rintro F H ⟨f1,f2,⟨b,f16⟩,rfl⟩;refine AY f16 ?_;refine BM ?_ ?_<;>intro hb
 .refine AA ?_
  exact⟨⟨_,AC⟩,hx⟩
 refine AA ?_
 refine BJ (fun n F H'=>∃(j:Nat),n+j=e.args.length∧F 1=.n d∧F 2=.ptr eb 0 0∧F 5=.n (j:Nat)∧H'=H) e.args.length
  ⟨0,AZ,EE f1,EE f2,AL,rfl⟩ ?_
 clear f1 f2 f16;rintro n F H ⟨j,hj,f1,f2,f5,rfl⟩;refine DL f2 f5 (U3 ge) ?_;refine BM ?_ ?_<;>intro hc
 .have hj':j<e.args.length:=BG hc
  have hmem:e.args[j]∈e.args:=jI hj';have w1:IntKind.i64.wrap (d+1)=d+1:=wrap_i64 U U;simp only[vQ,CG,↓reduceIte,jC,enP,PQ,bH,f1,f2,f5,U3 ge,CX hj',DC O1 JB EC hj',w1];refine(ih e.args[j] hmem (by have:=QZ hmem; omega) (d+1) U U H).use fun b=>?_
  refine AA ?_;refine BM ?_ ?_<;>intro hb
  .refine AA ?_
   exact⟨⟨_,AC⟩,hx⟩
  .refine A8 f5 (CZ j) ?_
   exact⟨n-1,U,j+1,U,AC,AC,AC,AC⟩
 .refine AA ?_
  exact⟨⟨_,AC⟩,hx⟩
end
section
variable (G:Nat->AV)
theorem AG1 (p:Pr)(hs:PrS p)(h:Hp):PCall (En G) 73 [.agg (CW p)] h (.sl (Cov.nm (kL p)) 1 ((kL p).map Bins.qencI)):=by
 have hvl:=hs.vars;refine KD Cov.frzI ?_;refine acT Tryz.func73 2 ?_;have ge:=AQ h (yK 5 [CW p]);have hx:=Sm.ext.r1 h (yK 5 [CW p]);refine AY @QA ?_
 generalize h++[yK 5 [CW p]]=H0 at ge hx|-
 refine AY (SB ge) ?_;refine(Bd.valid_ref G p hs H0).use ?_;unfold kL;cases bv:(IJ p != 0)
 case true =>
  have q:IJ p≠0:=BG bv;refine AY bv ?_;rw[if_neg q];exact⟨hx,outG.nil _ _ _ _⟩
 have hv:IJ p=0:=BG bv;rw[if_pos hv];refine AY bv ?_
 refine BJ (fun n F H=>∃i u,n+i=p.vars.length∧F 1=.ptr h.length 0 0∧F 3=u∧F 4=.n (i:Nat)∧Sm.ext H0 H∧outG 1 Bins.qencI H0 (cV p.vars i) u H) p.vars.length
  ⟨0,.sl .nil 0 [],AZ,AL,AL,AL,ext.rfl' _,outG.nil _ _ _ _⟩ ?_
 rintro n F H ⟨i,u,hi,f1,f3,f4,hxH,ho⟩;have ge1:=DV hxH ge;refine DL f1 f4 (rN ge1) ?_;refine D8 ?_ ?_<;>intro hi'
 .have lm:BH jA H 3 (.fptr 4 (p.vars.map encV) i 2)=some (.n p.vars[i].mode):=by rw[CU ag3 hi']; rfl
  have hrl:=mN p.vars i;refine aJ f1 f4 (rN ge1) hi' lm ?_;cases bm:(p.vars[i].mode != 0)
  .have hm:p.vars[i].mode=0:=BG bm
   have e:cV p.vars (i+1)=cV p.vars i:=by simp only[cV,jG hi']; rw[if_neg (by simp [hm]),jP]
   refine A8 f4 (CZ i) ?_;exact⟨n-1,U,i+1,u,U,AC,AC,AC,hxH,by rw[e]; exact ho⟩
  .have hm:p.vars[i].mode≠0:=BG bm
   have e:cV p.vars (i+1)=cV p.vars i++[((i:Nat):Int)]:=by simp only[cV,jG hi']; rw[if_pos hm]
   obtain⟨v',H',ha,ho',_,hx',_,_⟩:=ho.append (P:=jA) VD sz3 cH ZU U U hxH ((i:Nat):Int);refine JG f3 f4 @bsI ha (CZ i) ?_;exact⟨n-1,U,i+1,v',U,AC,AC,AC,hx',by rw[e]; exact ho'⟩
 .rw[show i=p.vars.length by omega] at ho
  refine AY f3 ?_;exact⟨hx.trans hxH,ho.base hx.le⟩
theorem AUJ (p:Pr)(hs:PrS p)(h:Hp):PCall (En G) 34 [.agg (CW p)] h (.n (if IJ p=0 then J4 p.vars else 0)):=by
 have hvl:=hs.vars;refine ACalls.pure0 rfl ?_;refine acT Tryz.func34 2 ?_;have ge:=AQ h (yK 5 [CW p]);have hx:=Sm.ext.r1 h (yK 5 [CW p]);refine AY @QA ?_
 generalize h++[yK 5 [CW p]]=H0 at ge hx|-
 refine AY (SB ge) ?_;refine(AG1 G p hs H0).use ?_
 have hrl:(kL p).length<=1048576:=by
  unfold kL;split
  .have:=mN p.vars p.vars.length; omega
  .simp
 have hin:∀z∈kL p,∃i:Nat,z=(i:Int)∧i<p.vars.length:=fun z hz=>by
  unfold kL at hz;split at hz
  .exact AJ1 _ _ z hz
  .cases hz
 have hwid:kL p≠[]->∀v∈p.vars,1<=v.width∧v.width<=8:=fun hne v hv=>by
  have q:IJ p=0:=by
   apply Classical.byContradiction;intro q;unfold kL at hne;rw[if_neg q] at hne;exact hne rfl
  have:=SN ((PV.of q).vr v hv);exact⟨this.2.1,this.2.2.1⟩
 have hsum:((kL p).map (eR p.vars)).sum=if IJ p=0 then J4 p.vars else 0:=by
  unfold kL;split
  .rw[ACD _ _ (jF _),List.take_length]
  .rfl
 rw[<-hsum]
 generalize kL p=L at hrl hin hwid|-
 refine AA ?_
 refine BJ (fun n F H=>∃i,n+i=L.length∧F 1=.ptr h.length 0 0∧F 3=.sl (Cov.nm L) 1 (L.map Bins.qencI)∧F 4=.n ((L.take i).map (eR p.vars)).sum∧F 5=.n (i:Nat)∧H=H0) L.length
  ⟨0,AZ,AL,AL,AL,AL,rfl⟩ ?_
 rintro n F H ⟨i,hi,f1,f3,f4,f5,rfl⟩;refine A8 f3 f5 ?_;refine D8 ?_ ?_<;>intro hi'
 .obtain⟨j,hj,hjl⟩:=hin _ (jI hi')
  have hw:=hwid (fun q=>by rw[q] at hi'; cases hi');have lz:BH jA H 3 (.fptr 1 (L.map Bins.qencI) i 0)=some (.n (j:Nat)):=by rw[CU ag3 hi']; show some (AV.int .i64 L[i])=_; rw[hj]
  have lw:BH jA H 3 (.fptr 4 (p.vars.map encV) j 1)=some (.n p.vars[j].width):=by rw[CU ag3 hjl]; rfl
  have hwj:=hw _ (jI hjl);obtain⟨s0,s1⟩:=sL hw (L.take i);rw[jZ] at s1
  have w1:IntKind.i64.wrap (((L.take i).map (eR p.vars)).sum+p.vars[j].width)=((L.take (i+1)).map (eR p.vars)).sum:=by
   rw[wrap_i64 U U,jU hi',qR,List.sum_append];have:eR p.vars L[i]=p.vars[j].width:=by unfold eR; rw[hj,qG,jG hjl]
   simp [this]
  refine AA ?_;refine DZ A7 ?_;refine cB f1 f3 f4 f5 (rN ge) hi' lz hjl lw w1 (CZ i) ?_;exact⟨n-1,U,i+1,U,AC,AC,AC,AC,AC⟩
 .rw[jJ U] at f4
  refine AY f4 ?_;exact⟨AC,hx⟩
theorem AMN (p:Pr)(hs:PrS p)(h:Hp):QCall (En G) 33 [.agg (CW p)] h (fun v=>∃b,v=.bool b∧(b=true->p.hard.length<=20∧p.dists.length<=20)):=by
 have hvl:=hs.vars;have hel:=hs.exprs;have hdl:=hs.dists;have hgl:=hs.groups;have hwt:=hs.wts;have hpl:∀e∈p.hard++p.soft,(pre e).length<=1048576:=fun e he=>by have:=WH e; have:=hwt e he; omega
 refine ACalls.pureQ (R:=fun v H=>Sm.ext h H∧∃b,v=.bool b∧(b=true->p.hard.length<=20∧p.dists.length<=20)) 1 ?_ (fun v H ⟨a,b,c,d⟩=>⟨a,b,by rw[c]; rfl,d⟩);refine acT Tryz.func33 2 ?_;have gp:=AQ h (yK 5 [CW p]);have hx:=Sm.ext.r1 h (yK 5 [CW p]);refine AY @QA ?_
 generalize h++[yK 5 [CW p]]=H0 at gp hx|-
 have l0:=rN gp;have l1:BH jA H0 23 (.ptr h.length 0 1)=some (.sl p.hm 4 (p.hard.map AX)):=by rw[BA LH gp (row:=CW p) rfl]; rfl
 have l2:BH jA H0 23 (.ptr h.length 0 2)=some (.sl p.sm 4 (p.soft.map AX)):=by rw[BA LH gp (row:=CW p) rfl]; rfl
 have l3:BH jA H0 24 (.ptr h.length 0 3)=some (.sl p.dm 2 (p.dists.map IB)):=by rw[BA AU5 gp (row:=CW p) rfl]; rfl
 have l4:BH jA H0 25 (.ptr h.length 0 4)=some (.sl p.gm 1 (p.groups.map Q9)):=by rw[BA UC gp (row:=CW p) rfl]; rfl
 have no:∀ {P:Prop},((false=true)->P):=fun q=>by cases q
 refine AY l0 ?_;cases b0:decide (((p.vars.length:Nat):Int)>20)
 rotate_left
 .refine AY b0 ?_
  exact⟨hx,_,AC,no⟩
 refine DL @bJ b0 l1 ?_;cases b1:decide (((p.hard.length:Nat):Int)>20)
 rotate_left
 .refine A8 b0 b1 ?_
  exact⟨hx,_,AC,no⟩
 refine EM @oG b0 b1 l2 ?_;cases b2:decide (((p.soft.length:Nat):Int)>20)
 rotate_left
 .refine DL b0 b1 b2 ?_
  exact⟨hx,_,AC,no⟩
 refine EM b0 b1 b2 l3 ?_;cases b3:decide (((p.dists.length:Nat):Int)>20)
 rotate_left
 .refine EM b0 b1 b2 b3 ?_
  exact⟨hx,_,AC,no⟩
 refine NY @oD b0 b1 b2 b3 l4 ?_;cases b4:decide (((p.groups.length:Nat):Int)>20)
 rotate_left
 .refine JG b0 b1 b2 b3 b4 ?_
  exact⟨hx,_,AC,no⟩
 refine JG b0 b1 b2 b3 b4 ?_;have q1:=of_decide_eq_false b1;have q3:=of_decide_eq_false b3;have yes:p.hard.length<=20∧p.dists.length<=20:=U;clear b0 b1 b2 b3 b4;refine ER 0 (fun F H=>F 1=.ptr h.length 0 0∧H=H0) (fun F H=>F 2=.bool false∧H=H0) ?_ ?_ (fun F H ⟨f2,e⟩=>by subst e; refine AY f2 ?_; exact⟨hx,_,AC,no⟩)
 .refine BJ (fun n F H=>∃j,n+j=p.hard.length∧F 1=.ptr h.length 0 0∧F 3=.n (j:Nat)∧H=H0) p.hard.length ⟨0,AZ,AL,AL,rfl⟩ ?_
  rintro n F H ⟨j,hj,f1,f3,rfl⟩;refine EM @bJ f1 f3 l1 ?_;refine BM ?_ ?_<;>intro hc
  .have hj':j<p.hard.length:=BG hc
   simp only[vQ,CG,↓reduceIte,jC,enP,PQ,bJ,f1,f3,l1,CX hj',DC O1 JB EC hj'];refine(gS G p.hard[j] (hpl _ (List.mem_append_left _ (jI hj'))) 0 U U H).use fun b=>?_
   refine AA ?_;refine BM ?_ ?_<;>intro hb
   .refine AA ?_
    exact⟨AC,AC⟩
   .refine A8 f3 (CZ j) ?_
    exact⟨n-1,U,j+1,U,AC,AC,AC⟩
  .refine AA ?_
   exact⟨AC,AC⟩
 rintro F H ⟨f1,rfl⟩;refine AA ?_;refine ER 2 (fun F H'=>F 1=.ptr h.length 0 0∧H'=H) (fun F H'=>F 2=.bool false∧H'=H) ?_ ?_ (fun F H ⟨f2,e⟩=>by subst e; refine AY f2 ?_; exact⟨hx,_,AC,no⟩)
 .refine BJ (fun n F H'=>∃j,n+j=p.soft.length∧F 1=.ptr h.length 0 0∧F 4=.n (j:Nat)∧H'=H) p.soft.length ⟨0,AZ,EE f1,AL,rfl⟩ ?_
  clear f1;rintro n F H ⟨j,hj,f1,f4,rfl⟩;refine EM @oG f1 f4 l2 ?_;refine BM ?_ ?_<;>intro hc
  .have hj':j<p.soft.length:=BG hc
   simp only[vQ,CG,↓reduceIte,jC,enP,PQ,oG,f1,f4,l2,CX hj',DC O1 JB EC hj'];refine(gS G p.soft[j] (hpl _ (List.mem_append_right _ (jI hj'))) 0 U U H).use fun b=>?_
   refine AA ?_;refine BM ?_ ?_<;>intro hb
   .refine AA ?_
    exact⟨AC,AC⟩
   .refine A8 f4 (CZ j) ?_
    exact⟨n-1,U,j+1,U,AC,AC,AC⟩
  .refine AA ?_
   exact⟨AC,AC⟩
 clear f1;rintro F H ⟨f1,rfl⟩;refine AA ?_;refine ER 4 (fun F H'=>F 1=.ptr h.length 0 0∧H'=H) (fun F H'=>F 2=.bool false∧H'=H) ?_ ?_ (fun F H ⟨f2,e⟩=>by subst e; refine AY f2 ?_; exact⟨hx,_,AC,no⟩)
 .refine BJ (fun n F H'=>∃j,n+j=p.dists.length∧F 1=.ptr h.length 0 0∧F 5=.n (j:Nat)∧H'=H) p.dists.length ⟨0,AZ,EE f1,AL,rfl⟩ ?_
  clear f1;rintro n F H ⟨j,hj,f1,f5,rfl⟩;refine DL f1 f5 l3 ?_;refine BM ?_ ?_<;>intro hc
  .have hj':j<p.dists.length:=BG hc
   have lw:BH jA H 120 (.fptr 2 (p.dists.map IB) j 1)=some (.sl p.dists[j].wm 4 (p.dists[j].ws.map I9)):=by rw[CU AL2 hj']; rfl
   refine aI ADF f1 f5 l3 hj' lw ?_;refine BM ?_ ?_<;>intro hb
   .refine AA ?_
    exact⟨AC,AC⟩
   .refine A8 f5 (CZ j) ?_
    exact⟨n-1,U,j+1,U,AC,AC,AC⟩
  .refine AA ?_
   exact⟨AC,AC⟩
 clear f1;rintro F H ⟨f1,rfl⟩;refine AA ?_;refine BJ (fun n F H'=>∃j,n+j=p.groups.length∧F 1=.ptr h.length 0 0∧F 6=.n (j:Nat)∧H'=H) p.groups.length ⟨0,AZ,EE f1,AL,rfl⟩ ?_;clear f1;rintro n F H ⟨j,hj,f1,f6,rfl⟩;refine EM @oD f1 f6 l4 ?_;refine BM ?_ ?_<;>intro hc
 .have hj':j<p.groups.length:=BG hc
  have lw:BH jA H 32 (.fptr 1 (p.groups.map Q9) j 0)=some (.sl p.groups[j].m 1 (p.groups[j].l.map Bins.qencI)):=by rw[CU NE hj']; rfl
  refine aI @oD f1 f6 l4 hj' lw ?_;refine BM ?_ ?_<;>intro hb
  .refine AA ?_
   exact⟨hx,_,AC,no⟩
  .refine A8 f6 (CZ j) ?_
   exact⟨n-1,U,j+1,U,AC,AC,AC⟩
 .refine AA ?_
  exact⟨hx,_,AC,fun _=>yes⟩
theorem AYR (p:Pr)(hs:PrS p)(n:Int)(h:Hp):QCall (En G) 9 [.agg (CW p),.n n] h (fun v=>∃b,v=.bool b∧(b=true->Fw p n)):=by
 refine ACalls.pureQ (R:=fun v H=>Sm.ext h H∧∃b,v=.bool b∧(b=true->Fw p n)) 1 ?_ (fun v H ⟨a,b,c,d⟩=>⟨a,b,by rw[c]; rfl,d⟩);refine acT Tryz.func9 4 ?_;have gp:=AQ h (yK 5 [CW p]);have hx:=Sm.ext.r1 h (yK 5 [CW p]);refine AY @QA ?_
 generalize h++[yK 5 [CW p]]=H0 at gp hx|-
 refine AY (SB gp) ?_;refine(AMN G p hs H0).use ?_;rintro r ⟨b,rfl,hb⟩;cases b
 .refine AA ?_
  exact⟨hx,_,AC,fun q=>by cases q⟩
 refine AY (SB gp) ?_;refine(AUJ G p hs H0).uu ?_;refine⟨hx,_,AC,fun q=>⟨(hb rfl).1,(hb rfl).2,fun hv=>?_⟩⟩;rw[if_pos hv] at q;simpa using q
theorem AMI (l:List Rs)(s:SM)(hl:l.length<=1048576)(h:Hp):Rk.SomeB (En G) 36 [.sl s 1 (l.map encS)] h:=by
 refine Rk.SomeB.of ?_;refine acT Tryz.func36 2 ?_;refine AA ?_;refine BJ (fun n F H'=>∃j,n+j=l.length∧F 0=.sl s 1 (l.map encS)∧F 3=.n (j:Nat)∧H'=h) l.length ⟨0,AZ,AL,AL,rfl⟩ ?_;rintro n F H ⟨j,hj,f0,f3,rfl⟩;refine A8 f0 f3 ?_;refine BM ?_ ?_<;>intro hc
 .have hj':j<l.length:=BG hc
  simp only[vQ,CG,↓reduceIte,jC,enP,xI,AHK,f0,f3,CX hj',CU RQ hj',AEM,jM];refine BM ?_ ?_<;>intro hb
  .refine AA ?_
   exact⟨⟨_,AC⟩,ext.rfl' _⟩
  .refine A8 f3 (CZ j) ?_
   exact⟨n-1,U,j+1,U,AC,AC,AC⟩
 .refine AA ?_
  exact⟨⟨_,AC⟩,ext.rfl' _⟩
theorem AXX (m:Mo)(hm:MoOk m)(h:Hp):QCall (En G) 10 [.agg (DR m)] h (fun v=>∃b,v=.bool b∧(b=true->m.pts.length<=4∧m.crs.length<=3)):=by
 refine ACalls.pureQ (R:=fun v H=>Sm.ext h H∧∃b,v=.bool b∧(b=true->m.pts.length<=4∧m.crs.length<=3)) 1 ?_ (fun v H ⟨a,b,c,d⟩=>⟨a,b,by rw[c]; rfl,d⟩);refine acT Tryz.func10 2 ?_;have gm:=AQ h (yK 2 [DR m]);have hx:=Sm.ext.r1 h (yK 2 [DR m]);have np:=hm.np;have nc:=hm.nc;refine AY @bxM ?_
 generalize h++[yK 2 [DR m]]=H0 at gm hx|-
 refine ER 0 (fun F H=>F 1=.ptr h.length 0 0∧Sm.ext H0 H) (fun F H=>F 2=.bool false∧Sm.ext H0 H) ?_ ?_ (fun F H ⟨f2,e⟩=>by refine AY f2 ?_; exact⟨hx.trans e,false,AC,fun q=>by cases q⟩)
 .refine BJ (fun n F H=>∃k,n+k=m.pts.length∧F 1=.ptr h.length 0 0∧F 3=.n (k:Nat)∧Sm.ext H0 H) m.pts.length ⟨0,AZ,AL,AL,ext.rfl' _⟩ ?_
  rintro n F H ⟨k,hk,f1,f3,he⟩;have gm1:=DV he gm;refine DL f1 f3 (dK gm1) ?_;cases hc:decide (((k:Nat):Int)<((m.pts.length:Nat):Int))
  .refine AY hc ?_
   exact⟨AC,he⟩
  have hk':k<m.pts.length:=by have:=of_decide_eq_true hc; omega
  have hpo:=hm.pts _ (jI hk');refine A8 hc f3 ?_;refine BM ?_ ?_<;>intro hc5
  rotate_left
  .refine AA ?_
   exact⟨AC,he⟩
  simp only[vQ,EI,CG,↓reduceIte,jC,enP,XG,PX,rM,OJ,f1,f3,dK gm1,CX hk',CU P6 hk',TI,jM];cases h6:decide (((m.pts[k].bins.length:Nat):Int)>6)
  rotate_left
  .refine AY h6 ?_
   exact⟨AC,he⟩
  simp only[vQ,EI,CG,↓reduceIte,jC,enP,XG,PX,nZ,h6,f1,f3,dK gm1,CX hk',Rk.ldPE hk'];refine(gS G m.pts[k].ex (by have:=WH m.pts[k].ex; have:=hpo.ex; omega) 0 U U H).use fun b=>?_
  cases b
  .refine AY h6 ?_
   exact⟨AC,he⟩
  refine AY h6 ?_;refine ER 2 (fun F H'=>F 1=.ptr h.length 0 0∧F 3=.n (k:Nat)∧Sm.ext H0 H') (fun F H'=>F 2=.bool false∧Sm.ext H0 H') ?_ ?_ (fun F H ⟨f2,e⟩=>by refine AA ?_; exact⟨AC,e⟩)
  .refine BJ (fun n F H'=>∃j,n+j=m.pts[k].bins.length∧F 1=.ptr h.length 0 0∧F 3=.n (k:Nat)∧F 4=.n (j:Nat)∧Sm.ext H0 H') m.pts[k].bins.length ⟨0,AZ,EE f1,EE f3,AL,he⟩ ?_
   clear f1 f3 he gm1;rintro n F H ⟨j,hj,f1,f3,f4,he⟩;have gm1:=DV he gm;simp only[vQ,CG,↓reduceIte,jC,enP,XG,PX,rM,OJ,f1,f3,f4,dK gm1,CX hk',CU P6 hk',TI,jM];refine BM ?_ ?_<;>intro hd
   .have hj':j<m.pts[k].bins.length:=BG hd
    have hbo:=hpo.bins _ (jI hj');have gb:=AQ H (yK 4 [F6 m.pts[k].bins[j]]);have he1:=he.app [yK 4 [F6 m.pts[k].bins[j]]];simp only[vQ,CG,↓reduceIte,jC,enP,XG,PX,fL,OJ,AH3,jQ,f1,f3,f4,dK gm1,CX hk',CU P6 hk',TI,CX hj',DC kZ aP KZ hj',Cov.al79,Cov.st79 _ _ [.str ⟨#[]⟩,.n 0,.sl .nil 0 [],.sl .nil 0 []] rfl]
    generalize H++[yK 4 [F6 m.pts[k].bins[j]]]=H1 at gb he1|-
    have b2:BH jA H1 84 (.ptr H.length 0 2)=some (.sl m.pts[k].bins[j].ranges.m 2 (m.pts[k].bins[j].ranges.l.map encR)):=by rw[BA RQ gb rfl]; rfl
    have b3:BH jA H1 85 (.ptr H.length 0 3)=some (.sl m.pts[k].bins[j].sm 1 (m.pts[k].bins[j].steps.map encS)):=by rw[BA XJ gb rfl]; rfl
    refine AY b2 ?_;cases c1:decide (((m.pts[k].bins[j].ranges.l.length:Nat):Int)>6)
    rotate_left
    .refine AY c1 ?_
     exact⟨AC,he1⟩
    refine A8 c1 b3 ?_;cases c2:decide (((m.pts[k].bins[j].steps.length:Nat):Int)>8)
    rotate_left
    .refine A8 c1 c2 ?_
     exact⟨AC,he1⟩
    have hs8:=of_decide_eq_false c2;refine DL c1 c2 b3 ?_;refine(AMI G m.pts[k].bins[j].steps m.pts[k].bins[j].sm U H1).use fun b=>?_
    cases b
    .refine A8 c1 c2 ?_
     exact⟨AC,he1⟩
    .refine EM c1 c2 f4 (wrap_succ (show j<9223372036854775807 by have:=hpo.num; omega)) ?_
     exact⟨n-1,U,j+1,U,AC,AC,AC,he1⟩
   .refine AA ?_
    exact⟨AC,AC,he⟩
  clear f1 f3 he gm1;rintro F H ⟨f1,f3,he⟩;refine A8 f3 (CZ k) ?_;exact⟨n-1,U,k+1,U,AC,AC,he⟩
 rintro F H ⟨f1,he⟩;refine AA ?_;refine ER 4 (fun F H=>F 1=.ptr h.length 0 0∧Sm.ext H0 H) (fun F H=>F 2=.bool false∧Sm.ext H0 H) ?_ ?_ (fun F H ⟨f2,e⟩=>by refine AY f2 ?_; exact⟨hx.trans e,false,AC,fun q=>by cases q⟩)
 .refine BJ (fun n F H=>∃k,n+k=m.crs.length∧F 1=.ptr h.length 0 0∧F 6=.n (k:Nat)∧Sm.ext H0 H) m.crs.length ⟨0,AZ,EE f1,AL,he⟩ ?_
  clear f1 he;rintro n F H ⟨k,hk,f1,f6,he⟩;have gm1:=DV he gm;refine DL f1 f6 (ADH gm1) ?_;cases hc:decide (((k:Nat):Int)<((m.crs.length:Nat):Int))
  .refine AY hc ?_
   exact⟨AC,he⟩
  have hk':k<m.crs.length:=by have:=of_decide_eq_true hc; omega
  refine A8 hc f6 ?_;refine BM ?_ ?_<;>intro hc5
  rotate_left
  .refine AA ?_
   exact⟨AC,he⟩
  simp only[vQ,EI,CG,↓reduceIte,jC,enP,fM,U2,dH,U1,f1,f6,ADH gm1,CX hk',CU NE hk',dX,jM];cases h5:decide (((m.crs[k].pts.length:Nat):Int)>5)
  rotate_left
  .refine AY h5 ?_
   exact⟨AC,he⟩
  simp only[vQ,EI,CG,↓reduceIte,jC,enP,xJ,fM,U2,yO,h5,f1,f6,ADH gm1,CX hk',CU UC hk',AEP,jM];refine BM ?_ ?_<;>intro hb
  .refine AA ?_
   exact⟨AC,he⟩
  .refine A8 f6 (CZ k) ?_
   exact⟨n-1,U,k+1,U,AC,AC,he⟩
 clear f1 he;rintro F H ⟨f1,he⟩;have gm1:=DV he gm;refine A8 f1 (dK gm1) ?_;cases c1:decide (((m.pts.length:Nat):Int)<=4)
 .refine AY c1 ?_
  exact⟨hx.trans he,false,AC,fun q=>by cases q⟩
 .refine DL c1 f1 (ADH gm1) ?_
  have:=of_decide_eq_true c1;exact⟨hx.trans he,_,rfl,fun q=>⟨U,by have:=of_decide_eq_true q; omega⟩⟩
theorem ANP (m:Mo)(hm:MoOk m)(h:Hp):Rk.SomeB (En G) 10 [.agg (DR m)] h :=
 ACalls.mono (AXX G m hm h) fun _ _ ⟨⟨b,e,_⟩,q⟩=>⟨⟨b,e⟩,q⟩
end
abbrev aN:ByteArray:=⟨#[97]⟩
def A00:Ex:=.mk 17 0 ⟨#[]⟩ .full [JF aN,cE 3]
def QY:Pr:=⟨.full,[⟨aN,2,1,0⟩],.full,[A00],.nil,[],.nil,[],.full,[⟨.full,[0]⟩]⟩
abbrev X8:List AV:=[.n 17,.n 0,.str ⟨#[]⟩,.sl .full 4 [OO aN,pA 1 3]]
abbrev mS:List AV:=[.sl .full 4 [[.str aN,.n 2,.n 1,.n 0]],.sl .full 4 [X8],.sl .nil 0 [],.sl .nil 0 [],.sl .full 1 [[.sl .full 1 [[.n 0]]]]]
theorem ARB {m:SM}{k:Nat}{a a':List AV}(h1:CvRow a a'):Cv (.sl m k [a]) (.sl m k [a']):=Cv.rows rfl fun i r r' e1 e2=>by
 match i,e1,e2 with
 | 0,e1,e2=>cases e1; cases e2; exact h1
 | _+1,e1,_=>cases e1
theorem AR3:CvRow X8 (AX A00):=by
 show CvRow X8 (AX (.mk 17 0 ⟨#[]⟩ .full [JF aN,cE 3]));rw[ATS];exact CvRow.cons rfl (Cv.refl _) (CvRow.cons rfl (Cv.refl _) (CvRow.cons rfl (Cv.refl _) (CvRow.cons rfl (A18 (ABC aN) (AZN 3)) CvRow.nil)))
theorem AQ2:CvR (.agg mS) (.agg (CW QY)) :=
 CvR.agg (CvRL.cons (CvR.refl _) (CvRL.cons (CvR.sl (ARB AR3)) (CvRL.cons (CvR.sl (Cv.nil 0 4)) (CvRL.cons (CvR.sl (Cv.nil 0 2)) (CvRL.cons (CvR.refl _) CvRL.nil)))))
def nmN (i:Nat):ByteArray:=⟨#[110,UInt8.ofNat (48+i)]⟩
def AUN (i:Nat):Bin:=⟨nmN i,0,⟨.full,[⟨i,i⟩]⟩,.nil,[]⟩
def gU (i:Nat):List AV:=[.str (nmN i),.n 0,.sl .full 2 [[.n (i:Nat),.n (i:Nat)]],.sl .nil 0 []]
theorem AZS (i:Nat):CvRow (gU i) (F6 (AUN i)):=CvRow.cons rfl (Cv.refl _) (CvRow.cons rfl (Cv.refl _) (CvRow.cons rfl (Cv.refl _) (CvRow.cons rfl (Cv.nil 0 1) CvRow.nil)))
theorem A6N:Frz gU:=fun _ _ _ _=>⟨rfl,rfl⟩
def UA:Mo:=⟨.any,[⟨aN,JF aN,.any,(zN 4).map AUN⟩],.nil,[]⟩
abbrev A2Y:List AV:=[.sl .any 6 [[.str aN,.n 2,.n 0,.str aN,.sl .nil 0 [],.sl .any 4 ((zN 4).map gU)]],.sl .nil 0 []]
theorem AXN:CvR (.agg A2Y) (.agg (DR UA)):=by
 have hb:Cv (.sl .any 4 ((zN 4).map gU)) (.sl .any 4 (((zN 4).map AUN).map F6)):=by
  rw[List.map_map]; exact Cv.map fun i _=>AZS i
 have hp:CvRow [.str aN,.n 2,.n 0,.str aN,.sl .nil 0 [],.sl .any 4 ((zN 4).map gU)] (FC ⟨aN,JF aN,.any,(zN 4).map AUN⟩):=by
  unfold FC;rw[FB];exact CvRow.cons rfl (Cv.refl _) (CvRow.cons rfl (Cv.refl _) (CvRow.cons rfl (Cv.refl _) (CvRow.cons rfl (Cv.refl _) (CvRow.cons rfl (Cv.nil 0 4) (CvRow.cons rfl hb CvRow.nil)))))
 exact CvR.agg (CvRL.cons (CvR.sl (ARB hp)) (CvRL.cons (CvR.sl (Cv.nil 0 3)) CvRL.nil))
def hol (i:Int):Hl:=⟨false,0,.full,[i]⟩
theorem A4P:MP sdP D7 QY UA (hol 2)=0∧VE sdP D7 QY UA (hol 2)=[[2]]:=by decide +kernel
theorem A8X:MP sdP D7 QY UA (hol 3)=11:=by decide +kernel
theorem vY:PrS QY:=⟨by decide +kernel,by decide +kernel,by decide +kernel,by decide +kernel,by decide +kernel,by decide +kernel,by decide +kernel,by decide +kernel⟩
theorem vZ:Sm51 QY:=Fw.sm (n:=10) (by unfold Fw; decide +kernel) DF
theorem lF:MoOk UA:=⟨by decide +kernel,by decide +kernel,fun p hp=>by
 rw[qP.1 hp];refine⟨by decide +kernel,by decide +kernel,by decide +kernel,fun b hb=>?_⟩;obtain⟨i,hi,rfl⟩:=List.mem_map.1 hb
 exact⟨jB rfl,jB rfl,jB rfl,fun l hl=>by
  have:l=⟨.full,[⟨i,i⟩]⟩:=by simpa [sets,AUN] using hl
  rw[this]; exact jB rfl⟩,fun c hc=>by cases hc⟩
theorem BAQ (h:Hp):GU jA h 27=some (.ptr h.length 0 0,h++[yK 5 [[.sl .nil 0 [],.sl .nil 0 [],.sl .nil 0 [],.sl .nil 0 [],.sl .nil 0 []]]]):=FI (row:=[.sl .nil 0 [],.sl .nil 0 [],.sl .nil 0 [],.sl .nil 0 [],.sl .nil 0 []]) A7
theorem BAP (h:Hp):GU jA h 31=some (.ptr h.length 0 0,h++[yK 2 [[.sl .nil 0 [],.sl .nil 0 []]]]):=FI (row:=[.sl .nil 0 [],.sl .nil 0 []]) A7
abbrev ptZ:List AV:=[.str ⟨#[]⟩,.n 0,.n 0,.str ⟨#[]⟩,.sl .nil 0 [],.sl .nil 0 []]
abbrev ptW (v:AV):List AV:=[.str aN,.n 2,.n 0,.str aN,.sl .nil 0 [],v]
abbrev nms:List AV:=[.str (nmN 0),.str (nmN 1),.str (nmN 2),.str (nmN 3)]
theorem A74 (h:Hp):GU jA h 82=some (.ptr h.length 0 0,h++[yK 6 [ptZ]]):=FI (row:=ptZ) A7
theorem A8A (h:Hp):GU jA h 143=some (.ptr h.length 0 0,h++[yK 4 [[.str ⟨#[]⟩,.str ⟨#[]⟩,.str ⟨#[]⟩,.str ⟨#[]⟩]]]):=FI (row:=[.str ⟨#[]⟩,.str ⟨#[]⟩,.str ⟨#[]⟩,.str ⟨#[]⟩]) A7
section
variable (G:Nat->AV)
theorem XZ (h:Hp):PCall (En G) 37 [] h (.agg (CW QY)):=by
 refine PCall.res (r:=.agg mS) ?_ AQ2;refine XY 3 (fun n H=>rfl) ?_;refine acL Tryz.func37 [.cell 0 27] ?_;have g0:=AB (x:=yK 4 [X8]) (AB (x:=yK 4 [OO aN]) (AQ h (yK 5 [[.sl .nil 0 [],.sl .nil 0 [],.sl .nil 0 [],.sl .nil 0 [],.sl .nil 0 []]])));have g1:=AQ (h++[yK 5 [[.sl .nil 0 [],.sl .nil 0 [],.sl .nil 0 [],.sl .nil 0 [],.sl .nil 0 []]]]) (yK 4 [OO aN]);have g2:=AQ (h++[yK 5 [[.sl .nil 0 [],.sl .nil 0 [],.sl .nil 0 [],.sl .nil 0 [],.sl .nil 0 []]]]++[yK 4 [OO aN]]) (yK 4 [X8]);have hx:Sm.ext h (h++[yK 5 [[.sl .nil 0 [],.sl .nil 0 [],.sl .nil 0 [],.sl .nil 0 [],.sl .nil 0 []]]]++[yK 4 [OO aN]]++[yK 4 [X8]]):=(((ext.rfl' h).app _).app _).app _;have rV:R4 (OO aN):=⟨_,_,_,_,_,_,rfl⟩;have rL:R4 X8:=⟨_,_,_,_,_,_,rfl⟩;have b131:IY jA 131 [(0,.str aN),(1,.n 2),(2,.n 1)]=some (.agg [.str aN,.n 2,.n 1,.n 0]):=A7;have s22:∀H:Hp,C9 jA false H 22 1 [(0,.agg [.str aN,.n 2,.n 1,.n 0])]=some (.sl .full 4 [[.str aN,.n 2,.n 1,.n 0]],H):=fun H=>A7
 have s23:∀H:Hp,C9 jA false H 23 1 [(0,.agg X8)]=some (.sl .full 4 [X8],H):=fun H=>A7
 have s25:∀H:Hp,C9 jA false H 25 1 [(0,.sl .full 1 [Bins.qencI 0])]=some (.sl .full 1 [[.sl .full 1 [[.n 0]]]],H):=fun H=>A7
 have b27:IY jA 27 [(0,.sl .full 4 [[.str aN,.n 2,.n 1,.n 0]]),(1,.sl .full 4 [X8]),(4,.sl .full 1 [[.sl .full 1 [[.n 0]]]])]=some (.agg mS):=A7;simp only[vQ,JM,CG,gX,NZ,F7,↓reduceIte,jC,enP,jQ,BAQ,AZU,al79,AQH _ rV,KY g1 rfl,ALW,BAG _ rV (⟨_,_,_,_,_,_,rfl⟩:R4 (pA 1 3)),A7Q,AQH _ rL]
 generalize h++[yK 5 [[.sl .nil 0 [],.sl .nil 0 [],.sl .nil 0 [],.sl .nil 0 [],.sl .nil 0 []]]]++[yK 4 [OO aN]]++[yK 4 [X8]]=H at g0 g2 hx|-
 have s27:DT jA H 27 (.ptr h.length 0 0) (.agg mS)=some (H.set h.length (yK 5 [mS])):=by
  rw[IU (cs:=mS) rfl kH g0 (jF 5)]; rfl
 refine TW b131 s22 (KY g2 rfl) s23 @bsI s25 b27 s27 ?_;rw[JH (b:=h.length) (x:=.agg mS) AL (by rw[EF pQ kH (CP g0) rfl (jF 5)]; rfl)];exact⟨rfl,hx.set (jF _) _⟩
theorem A6C (H:Hp)(b:Nat):∀k:Nat,k<4->EJ jA H 143 (.ptr b 0 0) (.n (k:Nat))=some (.ptr b 0 k)
 | 0,_=>A7
 | 1,_=>A7
 | 2,_=>A7
 | 3,_=>A7
 | k+4,h=>absurd h U
theorem A2W:∀k:Nat,k<4->nms[k]?=some (.str (nmN k))
 | 0,_=>rfl
 | 1,_=>rfl
 | 2,_=>rfl
 | 3,_=>rfl
 | k+4,h=>absurd h U
theorem A81:Tryz.prog.underlying 80=some (.slice 87):=A7
theorem A8W:SK jA 87=some 4:=A7
theorem A98:KG jA 87=some 72:=A7
theorem Y7 (h:Hp):PCall (En G) 38 [] h (.agg (DR UA)):=by
 refine PCall.res (r:=.agg A2Y) ?_ AXN;refine ACalls.pure (R:=fun v H=>Sm.ext h H∧EZ h.length H 5 v=.agg A2Y) 5 ?_ (fun v H ⟨a,b⟩=>⟨a,b⟩);refine JE (H:=hint [22,25] []) (enM G) Tryz.func38 rfl (by kernel_rfl) (by kernel_rfl) (jB (by kernel_rfl)) ?_;show awp _ _ _ _ _ (MJ _ [.cell 0 31] _);have g0:=AB (x:=yK 4 [nms]) (AB (x:=yK 6 [ptW (.sl .nil 0 [])]) (AQ h (yK 2 [[.sl .nil 0 [],.sl .nil 0 []]])));have g1:=AB (x:=yK 4 [nms]) (AQ (h++[yK 2 [[.sl .nil 0 [],.sl .nil 0 []]]]) (yK 6 [ptW (.sl .nil 0 [])]));have g2:=AQ (h++[yK 2 [[.sl .nil 0 [],.sl .nil 0 []]]]++[yK 6 [ptW (.sl .nil 0 [])]]) (yK 4 [nms]);have hx:Sm.ext h (h++[yK 2 [[.sl .nil 0 [],.sl .nil 0 []]]]++[yK 6 [ptW (.sl .nil 0 [])]]++[yK 4 [nms]]):=(((ext.rfl' h).app _).app _).app _;have e1:(h++[yK 2 [[.sl .nil 0 [],.sl .nil 0 []]]]).length=h.length+1:=AZ;have e2:(h++[yK 2 [[.sl .nil 0 [],.sl .nil 0 []]]]++[yK 6 [ptW (.sl .nil 0 [])]]).length=h.length+2:=AZ;have b82:IY jA 82 [(0,.str aN),(1,.agg (OO aN))]=some (.agg (ptW (.sl .nil 0 []))):=A7
 have s82:∀H:Hp,DT jA (H++[yK 6 [ptZ]]) 82 (.ptr H.length 0 0) (.agg (ptW (.sl .nil 0 [])))=some (H++[yK 6 [ptW (.sl .nil 0 [])]]):=fun H=>by
  rw[IU (cs:=ptW (.sl .nil 0 [])) (row:=ptZ) rfl aQ (AQ _ _) (jF 6),JZ]; rfl
 have b143:IY jA 143 [(0,.str ⟨#[110,48]⟩),(1,.str ⟨#[110,49]⟩),(2,.str ⟨#[110,50]⟩),(3,.str ⟨#[110,51]⟩)]=some (.agg nms):=A7
 have s143:∀H:Hp,DT jA (H++[yK 4 [[.str ⟨#[]⟩,.str ⟨#[]⟩,.str ⟨#[]⟩,.str ⟨#[]⟩]]]) 143 (.ptr H.length 0 0) (.agg nms)=some (H++[yK 4 [nms]]):=fun H=>by
  rw[IU (cs:=nms) (row:=[.str ⟨#[]⟩,.str ⟨#[]⟩,.str ⟨#[]⟩,.str ⟨#[]⟩]) rfl A4Y (AQ _ _) (jF 4),JZ]; rfl
 refine TW BAP @AZU b82 @A74 s82 b143 A8A s143 ?_
 rw[e1] at g1|-
 rw[e2] at g2|-
 generalize h++[yK 2 [[.sl .nil 0 [],.sl .nil 0 []]]]++[yK 6 [ptW (.sl .nil 0 [])]]++[yK 4 [nms]]=H0 at g0 g1 g2 hx|-
 have l2:=Z g2;clear e1 e2
 refine BJ (fun n F H=>∃k v,n+k=4∧F 0=.ptr h.length 0 0∧F 1=.ptr (h.length+1) 0 0∧F 2=.ptr (h.length+2) 0 0∧F 3=.n (k:Nat)∧H[h.length]?=some (yK 2 [[.sl .nil 0 [],.sl .nil 0 []]])∧H[h.length+1]?=some (yK 6 [ptW v])∧H[h.length+2]?=some (yK 4 [nms])∧Sm.ext h H∧outG 4 gU h (zN k) v H∧∀b,isB v b->h.length+2<b) 4
  ⟨0,.sl .nil 0 [],U,AL,AL,AL,AL,g0,g1,g2,hx,outG.nil _ _ _ _,fun b q=>q.elim⟩ ?_
 clear g0 g1 g2 hx;rintro n F H ⟨k,v,hk,f0,f1,f2,f3,g0,g1,g2,hx,ho,sep⟩;have e5:BH jA H 80 (.ptr (h.length+1) 0 5)=some v:=by rw[BA P6 g1 rfl]; rfl
 refine AY f3 ?_;refine BM ?_ ?_<;>intro hc
 .have hk':k<4:=by have:=of_decide_eq_true hc; omega
  have ln:BH jA H 9 (.ptr (h.length+2) 0 k)=some (.str (nmN k)):=by rw[BA ag9 g2 rfl]; exact A2W k hk'
  have b87:IY jA 87 [(0,.str (nmN k)),(2,.sl .full 2 [encR ⟨(k:Nat),(k:Nat)⟩])]=some (.agg (gU k)):=A7;have s80:C9 jA false H 80 1 [(0,.agg (gU k))]=some (.sl .full 4 [gU k],H):=A7;obtain⟨v',H',a1,a2,a3,a4,a5,a6⟩:=ho.append (P:=jA) A81 aP A8W A98 U (by rw[List.length_range]; omega) hx k;have l2:=Z g2;have g0':=a3 _ _ g0 (fun q=>by have:=sep _ q; omega);have g1':=a3 _ _ g1 (fun q=>by have:=sep _ q; omega);have g2':=a3 _ _ g2 (fun q=>by have:=sep _ q; omega)
  have hlf:H9 v'=some [v']:=by
   rcases a2 with⟨_,rfl⟩|⟨_,o,_,rfl,_⟩<;>rfl
  have s5:DT jA H' 80 (.ptr (h.length+1) 0 5) v'=some (H'.set (h.length+1) (yK 6 [ptW v'])):=by
   rw[IU (cs:=[v']) hlf (A7:szO jA 80=some 1) g1' (jF 6)]; rfl
  refine AA ?_;refine DZ A7 ?_;simp only[vQ,JM,List.contains_cons,List.contains_nil,Nat.reduceBEq,Bool.or_false,QR,cJ,KW,RX,LJ,PD,CG,NZ,F7,J6,↓reduceIte,jC,Nat.reduceAdd,enP,OJ,jQ,f1,f2,f3,e5,A6C H (h.length+2) k hk',ln,AUQ,A32,b87,s80,a1,s5,CZ k];refine⟨n-1,U,k+1,v',U,AC,AC,AC,AC,by rw[jY U]; exact g0',CP g1',by rw[jY U]; exact g2',a4.set U _,?_,fun b hb=>by have:=a6 b hb; omega⟩;rw[List.range_succ];exact a2.keep fun b hb=>by rw[jY (by have:=a6 b hb; omega)]
 .have hk':¬k<4:=fun q=>by rw[decide_eq_true U] at hc; cases hc
  obtain rfl:k=4:=U;rcases ho with⟨q,_⟩|⟨_,o,hob,rfl,q3⟩
  .cases q
  have l6:BH jA H 82 (.ptr (h.length+1) 0 0)=some (.agg (ptW (.own o 0 4))):=by rw[EF lA aQ g1 rfl (jF 6)]; rfl
  have s28:C9 jA true H 28 1 [(0,.agg (ptW (.own o 0 4)))]=some (.own H.length 0 1,H++[yK 6 [ptW (.own o 0 4)]]):=A7;have b31:IY jA 31 [(0,.own H.length 0 1)]=some (.agg [.own H.length 0 1,.sl .nil 0 []]):=A7;have g0':=AB (x:=yK 6 [ptW (.own o 0 4)]) g0;have q3':=AB (x:=yK 6 [ptW (.own o 0 4)]) q3;have gb:=AQ H (yK 6 [ptW (.own o 0 4)]);have hx':=hx.app [yK 6 [ptW (.own o 0 4)]];have l0:=Z g0;have ho0:=sep o rfl;have q3l:=Z q3;refine JG f0 f1 l6 s28 b31 ?_
  generalize H++[yK 6 [ptW (.own o 0 4)]]=H1 at g0' q3' gb hx'|-
  generalize H.length=rb at gb l0 q3l|-
  have s31:DT jA H1 31 (.ptr h.length 0 0) (.agg [.own rb 0 1,.sl .nil 0 []])=some (H1.set h.length (yK 2 [[.own rb 0 1,.sl .nil 0 []]])):=by
   rw[IU (cs:=[.own rb 0 1,.sl .nil 0 []]) rfl A2A g0' (jF 2)]; rfl
  refine A8 s31 f0 ?_;rw[JH (b:=h.length) (x:=.agg [.own rb 0 1,.sl .nil 0 []]) (EE f0) (by rw[EF A8E A2A (CP g0') rfl (jF 2)]; rfl)];refine⟨hx'.set (jF _) _,?_⟩;have q4:(H1.set h.length (yK 2 [[.own rb 0 1,.sl .nil 0 []]]))[o]?=some (yK 4 ((zN 4).map gU)):=by rw[jY U]; exact q3'
  have gb4:(H1.set h.length (yK 2 [[.own rb 0 1,.sl .nil 0 []]]))[rb]?=some (yK 6 [ptW (.own o 0 4)]):=by rw[jY U]; exact gb
  generalize H1.set h.length (yK 2 [[.own rb 0 1,.sl .nil 0 []]])=H2 at q4 gb4;have z1:EZ h.length H2 3 (.own o 0 4)=.sl .any 4 ((zN 4).map gU):=Cov.frz_own A6N (n:=h.length) (d:=1) (h:=H2) (xs:=zN 4) U q4
  have z2:EZ h.length H2 4 (.own rb 0 1)=.sl .any 6 [ptW (.sl .any 4 ((zN 4).map gU))]:=by
   have hrow:((([ptW (.own o 0 4)]:List (List AV)).drop 0).take 1).map (·.map (EZ h.length H2 3))=[ptW (.sl .any 4 ((zN 4).map gU))]:=by
    show [[AV.str aN,.n 2,.n 0,.str aN,.sl .nil 0 [],EZ h.length H2 3 (.own o 0 4)]]=_;rw[z1]
   rw[Cov.frzF_own _ _ 3 rb 0 1 6 _ U gb4,hrow]; rfl
  show AV.agg [EZ h.length H2 4 (.own rb 0 1),EZ h.length H2 4 (.sl .nil 0 [])]=_;rw[z2]; rfl
end
end Go.Proofs.YtiihpnicbekebaaGreatDoor.Bd.Cl
namespace Go.Proofs.YtiihpnicbekebaaGreatDoor.Cov
open Sm Bins Go.RowKit
theorem goals_nil (G:Nat->AV)(m:Mo)(hc:m.crs=[])(hm:MoOk m)(hg:Good m)(h:Hp):PCall (En G) 61 [.agg (DR m)] h (.sl (nm (goals m)) 4 ((goals m).map KP)):=by
 refine KD A9W ?_;have hm1:=hm.np;have hm2:=hm.nc;have hnum:=hg.num;refine acT Tryz.func61 2 ?_;refine A8 @bxM (dK (AQ h (yK 2 [DR m]))) ?_;refine ER 0 (fun F H=>F 1=.ptr h.length 0 0∧H[h.length]?=some (yK 2 [DR m])∧ext h H∧(∀b,isB (F 3) b->h.length<b)∧outG 4 KP h (gC m 0) (F 3) H) (fun _ _=>False) ?_ ?_ (fun _ _ hh=>hh.elim)
 .refine BJ (fun n F H=>∃i,n+i=m.pts.length∧F 1=.ptr h.length 0 0∧F 13=.sl m.pm 6 (m.pts.map FC)∧F 14=.n m.pts.length∧F 15=.n (i:Nat)∧H[h.length]?=some (yK 2 [DR m])∧ext h H∧(∀b,isB (F 3) b->h.length<b)∧outG 4 KP h (gP m i) (F 3) H) m.pts.length ⟨0,AZ,AL,AL,AL,AL,AQ _ _,(ext.rfl' h).app _,fun b hb=>hb.elim,outG.nil _ _ _ _⟩ ?_
  rintro n F H ⟨i,hi,f1,f13,f14,f15,gm,he,hlt,ho⟩;refine A8 f14 f15 ?_;refine D8 ?_ ?_<;>intro hi'
  .have hgp:gP m (i+1)=gP m i++gPk i m.pts[i] m.pts[i].bins.length:=by
    simp only[gP]; rw[jG hi']
   have h64:=(hg.full _ (List.getElem_mem hi')).2;have hpl:=AHT hg.full i;simp only[vQ,CG,↓reduceIte,jC,enP,XG,rM,OJ,jQ,f13,f15,CX hi',DC lA aQ H7 hi',AU2,AQI _ _ [.str ⟨#[]⟩,.n 0,.n 0,.str ⟨#[]⟩,.sl .nil 0 [],.sl .nil 0 []] rfl,D5 P6,TI,List.length_map];refine ER 2 (fun F' H'=>F' 1=.ptr h.length 0 0∧F' 13=.sl m.pm 6 (m.pts.map FC)∧F' 14=.n m.pts.length∧F' 15=.n (i:Nat)∧H'[h.length]?=some (yK 2 [DR m])∧ext h H'∧(∀b,isB (F' 3) b->h.length<b)∧outG 4 KP h (gP m (i+1)) (F' 3) H') (fun _ _=>False) ?_ ?_ (fun _ _ hh=>hh.elim)
   .refine BJ (fun n F' H'=>∃k,n+k=m.pts[i].bins.length∧F' 1=.ptr h.length 0 0∧F' 13=.sl m.pm 6 (m.pts.map FC)∧F' 14=.n m.pts.length∧F' 15=.n (i:Nat)∧F' 4=.n (i:Nat)∧F' 21=.sl m.pts[i].bm 4 (m.pts[i].bins.map F6)∧F' 22=.n m.pts[i].bins.length∧F' 23=.n (k:Nat)∧H'[h.length]?=some (yK 2 [DR m])∧ext h H'∧(∀b,isB (F' 3) b->h.length<b)∧outG 4 KP h (gP m i++gPk i m.pts[i] k) (F' 3) H') m.pts[i].bins.length ⟨0,AZ,EE f1,EE f13,EE f14,EE f15,AL,AL,AL,AL,AB gm,he.app _,hlt,by rw[show gPk i m.pts[i] 0=[] from rfl,List.append_nil]; exact ho.app _⟩ ?_
    clear f1 f13 f14 f15 gm he hlt ho;rintro n' F H ⟨k,hk,f1,f13,f14,f15,f4,f21,f22,f23,gm,he,hlt,ho⟩;refine A8 f22 f23 ?_;refine D8 ?_ ?_<;>intro hk'
    .have hkd:kindOf m.pts[i] k=(m.pts[i].bins[k]).kind:=by unfold kindOf; rw[jG hk']
     have hkl:=xW i m.pts[i] k;have ho1:=ho.app [yK 4 [F6 m.pts[i].bins[k]]];have he1:ext h (H++[yK 4 [F6 m.pts[i].bins[k]]]):=he.app _;simp only[vQ,CG,JS,↓reduceIte,jC,enP,fL,fY,jQ,f21,f23,CX hk',DC kZ aP KZ hk',al79,st79 _ _ [.str ⟨#[]⟩,.n 0,.sl .nil 0 [],.sl .nil 0 []] rfl,D5 ag3,aG];cases hz:(m.pts[i].bins[k].kind==0)
     .have hgk:gPk i m.pts[i] (k+1)=gPk i m.pts[i] k:=by
       simp only[gPk]; rw[hkd,hz]; simp
      refine A8 f23 (CZ k) ?_;refine⟨n'-1,U,k+1,U,f1,f13,f14,f15,f4,f21,f22,rfl,AB gm,he1,hlt,?_⟩;rw[hgk]; exact ho1
     .have hgk:gP m i++gPk i m.pts[i] (k+1)=(gP m i++gPk i m.pts[i] k)++[mkP i k]:=by
       simp only[gPk]; rw[hkd,hz,if_pos rfl,List.append_assoc]
      obtain⟨v',H',ha,ho',hkeep,he',hle,hb'⟩:=ho1.append A0O sK A0I A7E U (by rw[List.length_append]; omega) he1 (mkP i k);refine EM f4 AFF @A7T @A7S ?_;rw[show [AV.bool false,AV.int .i64 ((i:Nat):Int),AV.sl .full 1 [[.n ((k:Nat):Int)]],AV.int .i64 ((k:Nat):Int)]=KP (mkP i k) from rfl];simp only[vQ,CG,J6,↓reduceIte,jC,enP,BAE _ _ (show(KP (mkP i k)).all AV.frozen=true from rfl)];refine KT (v:=v') (h:=H') ha ?_;refine A8 f23 (CZ k) ?_;refine⟨n'-1,U,k+1,U,f1,f13,f14,f15,f4,f21,f22,rfl,hkeep _ _ (AB gm) (fun e=>by have:=hlt _ e; omega),he',fun b hbb=>?_,?_⟩
      .have h1:=hb' b hbb; have h2:=Z gm; rw[h1]; simp; omega
      .rw[hgk]; exact ho'
    .have hke:k=m.pts[i].bins.length:=U
     refine AA ?_;refine⟨f1,f13,f14,f15,gm,he,hlt,?_⟩;rw[hgp,<-hke]; exact ho
   .rintro F' H' ⟨g1,g13,g14,g15,gm',he',hlt',ho'⟩
    refine A8 g15 (CZ i) ?_;exact⟨n-1,U,i+1,U,g1,g13,g14,rfl,gm',he',hlt',ho'⟩
  .have hie:i=m.pts.length:=U
   subst hie;refine AA ?_;exact⟨f1,gm,he,hlt,ho⟩
 .rintro F H ⟨f1,gm,he,hlt,ho⟩
  have ho:outG 4 KP h (goals m) (F 3) H:=by unfold goals; rw[hc]; exact ho
  refine MB f1 (ADH gm) hc ?_;refine BJ (fun n F H=>F 44=.n 0∧F 45=.n 0∧ext h H∧outG 4 KP h (goals m) (F 3) H) 0 ⟨AL,AL,he,ho⟩ ?_;clear f1 gm he hlt ho;rintro n F H ⟨f44,f45,he,ho⟩;refine DL f44 f45 (show decide ((0:Int)<0)=false from rfl) ?_;exact⟨he,ho⟩
end Go.Proofs.YtiihpnicbekebaaGreatDoor.Cov
namespace Go.Proofs.YtiihpnicbekebaaGreatDoor.Bd.Cl
open Sm Bins Cov Xe Wd Bl Ho Go.RowKit
section
variable (G:Nat->AV)
theorem AS6 (m:Mo)(hc:m.crs=[])(s:SM)(h:Hp):PCall (En G) 120 [.agg (DR m),.sl s 1 []] h (.bool true):=by
 refine ACalls.pure0 rfl ?_;refine acT Tryz.func120 4 ?_;simp only[vQ,CG,SL,↓reduceIte,Nat.reduceEqDiff,Nat.zero_add,Option.getD_some,Bool.not_false,enP,xJ,AXW,U2,bxM,D5 sA,aF,hc,List.length_nil,show(((0:Nat):Int) != ((0:Nat):Int))=false from rfl];refine BJ (fun n F H=>F 18=.n 0∧F 19=.n 0∧∃x,H=h++x) 0 ⟨AL,AL,_,rfl⟩ ?_;rintro n F H ⟨f18,f19,hx⟩;refine DL f18 f19 (show decide ((0:Int)<0)=false from rfl) ?_;exact⟨AC,hx⟩
theorem A1C (hG:GOk G)(m:Mo)(hc:m.crs=[])(hm:MoOk m)(v:Cvr)(hv:CvOk v)(hvc:v.crs=[])(h:Hp):PCall (En G) 55 [.agg (DR m),.agg (Cov.encV v)] h (.bool (MQ m v)) :=
 AYQ G hG m v hm hv (fun _ h=>by rw[hvc,hc]; exact AS6 G m hc v.cm h) h
theorem A5H (hG:GOk G)(p:Pr)(hs:PrS p)(hb:Sm51 p)(m:Mo)(hc:m.crs=[])(hm:MoOk m)(v:Cvr)(hv:CvOk v)(hvc:v.crs=[])(most:Int)(h:Hp):PCall (En G) 17 [.agg (CW p),.agg (DR m),.agg (Cov.encV v),.n most] h (AQ5 sdP D7 p m v most) :=
 AZ8 G hG p hs hb m hm v most (A1C G hG m hc hm v hv hvc) (ASS G m v (A1C G hG m hc hm v hv hvc) (Cov.goals_nil G m hc hm)) h
end
end Go.Proofs.YtiihpnicbekebaaGreatDoor.Bd.Cl
namespace Go.Proofs.YtiihpnicbekebaaGreatDoor.Ho
open Sm Bins Cov Go.RowKit
theorem cl4:Tryz.prog.cellsOf 4=1:=A7
theorem BAW:Tryz.prog.cellsOf 34=3:=A7
def A5K (x:Hl)(b:Nat):Prop:=okL okI x.bins b
theorem BAU:Rd Tryz.prog 34 FX A5K:=by
 intro n
 match n with
 | 0=>exact RdAt.zero
 | 1=>exact fA Tryz.underlying34
 | n+2 =>
   refine RdAt.map (fun x:Bool×Int×Is×Unit=>(⟨x.1,x.2.1,x.2.2.1.m,x.2.2.1.l⟩:Hl))
    (LU Tryz.underlying34 (EY rfl cl4 (fun _=>rfl) (AJ2 Tryz.underlying4 _) (EY rfl cl3 (fun _=>rfl) (rdI _) (EY rfl AZI oK (A2O _) PN)))) (fun x=>rfl) ?_
   rintro⟨a,b,c,_⟩ N ⟨_,hN,b1,b2,hb,h1,b3,b4,hb2,h2,b5,b6,hb3,h3,_⟩;exact h3.mono U
theorem A8U {x:Hl}{b:Nat}(h:A5K x b)(hb:b<=1048576):x.bins.length<=1048576:=Nat.le_trans (okL.length h) hb
end Go.Proofs.YtiihpnicbekebaaGreatDoor.Ho
namespace Go.Proofs.YtiihpnicbekebaaGreatDoor.Cov
open Sm Bins Bd Go.RowKit
theorem A93:Tryz.prog.cellsOf 4=1:=A7
theorem A97:Tryz.prog.cellsOf 22=1:=A7
theorem A96:Tryz.prog.cellsOf 24=1:=A7
theorem BAY:Tryz.prog.cellsOf 27=5:=A7
theorem A7B:Tryz.prog.cellsOf 120=1:=A7
theorem A69:Tryz.prog.cellsOf 140=2:=A7
theorem A7A:Tryz.prog.cellsOf 131=4:=A7
theorem A67:Tryz.prog.cellsOf 240=4:=A7
def AW7 (v:Vr)(b:Nat):Prop:=v.name.size<=b
theorem A9H:Rd jA 131 Bd.encV AW7:=by
 intro n
 cases n with
 | zero=>exact RdAt.zero
 | succ n =>
   refine RdAt.map (fun x:ByteArray×Int×Int×Int×Unit=>(⟨x.1,x.2.1,x.2.2.1,x.2.2.2.1⟩:Vr)) (LU Tryz.underlying131 (EY rfl cl9 (fun _=>rfl) (rdStr n) (EY rfl cl3 (fun _=>rfl) (rdI n) (EY rfl cl3 (fun _=>rfl) (rdI n) (EY rfl cl3 (fun _=>rfl) (rdI n) PN))))) (fun _=>rfl) ?_;rintro⟨a,b,c,d,_⟩ N ⟨_,hN,b1,b2,hb,h1,_⟩;unfold okS at h1;show a.size<=N;simp only at h1;omega
theorem A9G:Rd jA 240 I9 (fun _ _=>True):=by
 intro n
 cases n with
 | zero=>exact RdAt.zero
 | succ n=>exact RdAt.map (fun x:Int×Int×Int×Bool×Unit=>(⟨x.1,x.2.1,x.2.2.1,x.2.2.2.1⟩:Wg)) (LU Tryz.underlying240 (EY rfl cl3 (fun _=>rfl) (rdI n) (EY rfl cl3 (fun _=>rfl) (rdI n) (EY rfl cl3 (fun _=>rfl) (rdI n) (EY rfl A93 (fun _=>rfl) (AJ2 Tryz.underlying4 n) PN))))) (fun _=>rfl) (fun _ _ _=>trivial)
def AXC (d:Ds)(b:Nat):Prop:=d.ws.length<=b
theorem A9J:Rd jA 140 IB AXC:=by
 intro n
 match n with
 | 0=>exact RdAt.zero
 | 1=>exact fA Tryz.underlying140
 | n+2 =>
   have rdW:RdAt jA (n+1) 120 (fun x:SM×List Wg=>[.sl x.1 4 (x.2.map I9)]) (fun x b=>∃b',b'+1<=b∧okL (fun _ _=>True) x.2 b'):=KX Tryz.underlying120 A67 DF gG (A9G n);refine RdAt.map (fun x:Int×(SM×List Wg)×Unit=>(⟨x.1,x.2.1.1,x.2.1.2⟩:Ds)) (LU Tryz.underlying140 (EY rfl cl3 (fun _=>rfl) (rdI _) (EY rfl A7B (fun _=>rfl) rdW PN))) (fun _=>rfl) ?_;rintro⟨a,b,_⟩ N ⟨_,hN,b1,b2,hb,h1,b3,b4,hb2,h2,_⟩;have:=(PO h2).length;show b.2.length<=N;simp only at this;omega
def ARD (g:Gp)(b:Nat):Prop:=g.l.length<=b
theorem A9I:Rd jA 32 Q9 ARD:=by
 intro n
 cases n with
 | zero=>exact RdAt.zero
 | succ n=>exact RdAt.map (fun x:SM×List Int=>(⟨x.1,x.2⟩:Gp)) (KX Tryz.underlying32 cl3 DF (fun _=>rfl) (rdI n)) (fun _=>rfl) (fun x b h=>(PO h).length)
theorem tG:∀ {l:List Gp} {b:Nat},okL ARD l b->(flG l).length<=b
 | [],b,_=>Nat.zero_le _
 | x::xs,b,⟨b1,b2,h1,_,h3,h4⟩=>by
   have:=tG h4;unfold ARD at h3;show((x::xs).flatMap Gp.l).length<=b;rw[List.flatMap_cons,List.length_append];unfold flG at this;omega
def A5J (p:Pr)(b:Nat):Prop:=∃b1 b2 b3 b4 b5,b1+b2+b3+b4+b5<=b∧okL AW7 p.vars b1∧okL okE p.hard b2∧okL okE p.soft b3∧okL AXC p.dists b4∧okL ARD p.groups b5
theorem BAT:Rd jA 27 CW A5J:=by
 intro n
 match n with
 | 0=>exact RdAt.zero
 | 1=>exact fA Tryz.underlying27
 | n+2 =>
   have r1:RdAt jA (n+1) 22 (fun x:SM×List Vr=>[.sl x.1 4 (x.2.map Bd.encV)]) (fun x b=>∃b',b'+1<=b∧okL AW7 x.2 b'):=KX Tryz.underlying22 A7A DF Bd.encV_len (A9H n);have r2:RdAt jA (n+1) 23 (fun x:SM×List Ex=>[.sl x.1 4 (x.2.map AX)]) (fun x b=>∃b',b'+1<=b∧okL okE x.2 b'):=KX Tryz.underlying23 A3X DF EC (rdE n);have r4:RdAt jA (n+1) 24 (fun x:SM×List Ds=>[.sl x.1 2 (x.2.map IB)]) (fun x b=>∃b',b'+1<=b∧okL AXC x.2 b'):=KX Tryz.underlying24 A69 DF RG (A9J n);have r5:RdAt jA (n+1) 25 (fun x:SM×List Gp=>[.sl x.1 1 (x.2.map Q9)]) (fun x b=>∃b',b'+1<=b∧okL ARD x.2 b'):=KX Tryz.underlying25 AZI DF (fun _=>rfl) (A9I n)
   refine RdAt.map (fun x:(SM×List Vr)×(SM×List Ex)×(SM×List Ex)×(SM×List Ds)×(SM×List Gp)×Unit=>(⟨x.1.1,x.1.2,x.2.1.1,x.2.1.2,x.2.2.1.1,x.2.2.1.2,x.2.2.2.1.1,x.2.2.2.1.2,x.2.2.2.2.1.1,x.2.2.2.2.1.2⟩:Pr))
    (LU Tryz.underlying27 (EY rfl A97 (fun _=>rfl) r1 (EY rfl A3Y (fun _=>rfl) r2 (EY rfl A3Y (fun _=>rfl) r2 (EY rfl A96 (fun _=>rfl) r4 (EY rfl A66 (fun _=>rfl) r5 PN)))))) (fun _=>rfl) ?_
   rintro⟨a,b,c,d,e,_⟩ N ⟨_,hN,b1,b2,hb,h1,b3,b4,hb2,h2,b5,b6,hb3,h3,b7,b8,hb4,h4,b9,b10,hb5,h5,_⟩;exact⟨b1,b3,b5,b7,b9,U,PO h1,PO h2,PO h3,PO h4,PO h5⟩
theorem A9L {p:Pr}{b:Nat}(h:A5J p b)(hb:b<=1048576):PrS p:=by
 obtain⟨b1,b2,b3,b4,b5,h0,h1,h2,h3,h4,h5⟩:=h;have l1:=h1.length;have l2:=h2.length;have l3:=h3.length;have l4:=h4.length;have l5:=h5.length;have l6:=tG h5;refine⟨U,fun v hv=>?_,U,fun e he=>?_,U,fun d hd=>?_,U,U⟩
 .obtain⟨b6,h6,h7⟩:=h1.each v hv
  unfold AW7 at h7; omega
 .rcases List.mem_append.1 he with he|he
  .obtain⟨b6,h6,h7⟩:=h2.each e he
   unfold okE at h7; omega
  .obtain⟨b6,h6,h7⟩:=h3.each e he
   unfold okE at h7; omega
 .obtain⟨b6,h6,h7⟩:=h4.each d hd
  unfold AXC at h7; omega
end Go.Proofs.YtiihpnicbekebaaGreatDoor.Cov
namespace Go.Proofs.YtiihpnicbekebaaGreatDoor.Cov
open Sm Bins Go.RowKit
noncomputable def AR9 (z:Int):Nat->AV:=fun n=>if n=0 then .fptr 1 [[.sl .any 1 (kw.map qencStr)]] 0 0 else if n=1 then .fptr 1 [[.int .i64 z]] 0 0 else .junk
theorem A57 (z:Int):GOk (AR9 z):=⟨⟨.any,rfl⟩,z,rfl⟩
theorem ASB {H:Type}:(Rows.laid_testbench_lexer_keywords:DataW H)=.slice (kw.map fun s=>.lit (.string s.data.toList)) []:=rfl
theorem AV1 {w:World}{g:Nat}{k:IntKind}{z:Int}(h:w.cell? ⟨g,0,none⟩=some (.int k z)):RepF (M0 w) (.fptr 1 [[.int k z]] 0 0) (.pointer (some ⟨g,0,none⟩)):=by
 simp only[World.cell?] at h;split at h
 case h_2=>simp at h
 rename_i cc ty fz hw;have hcc:cc[0]?=some (.int k z):=BG h;refine .fptr 1 [[.int k z]] 0 0 g 0 cc ty fz (fun _ _=>.int k z) hw ?_ ?_ ?_
 .intro i row hrow
  cases i with
  | zero =>
    simp at hrow; subst hrow;refine⟨rfl,fun j v hv=>?_⟩
    cases j with
    | zero=>simp at hv; subst hv; rfl
    | succ j=>simp at hv
  | succ i=>simp at hrow
 .intro i j hi hj
  obtain rfl:i=0:=BG hi;obtain rfl:j=0:=U;exact hcc
 .intro i j row v hrow hv
  cases i with
  | zero =>
    simp at hrow; subst hrow
    cases j with
    | zero=>simp at hv; subst hv; exact .int _ _
    | succ j=>simp at hv
  | succ i=>simp at hrow
theorem A8S {W:World}(h:laidMetH jA [("math/bits.deBruijn32tab",Rows.laid_math_bits_deBruijn32tab),("math/bits.deBruijn64tab",Rows.laid_math_bits_deBruijn64tab),("internal/strconv.uint64pow10",Rows.laid_internal_strconv_uint64pow10),("testbench/lexer.keywords",Rows.laid_testbench_lexer_keywords)] W) (hsh:W.ShapedOpen jA) :
  ∃z,∀n,RepF (M0 W) (AR9 z n) (.pointer (some ⟨n,0,none⟩)):=by
 rw[MakeChecks.laidMetH_plain _ _ _ A7] at h;obtain⟨ps,⟨_,_,_,_,_,_,_,_,_,_,⟨_,_,_,_,_,_,_,_,_,_,⟨_,_,_,_,_,_,_,_,_,_,⟨g3,t3,cs3,f3,p3,q3,hg3,ht3,hv3,hd3,_,_⟩,_⟩,_⟩,_⟩,_,_⟩:=h
 have hgk:Tryz.prog.globalNamed "testbench/lexer.keywords" = some 0:=A7
 have htk:(Tryz.prog.globals[0]?).map (·.type)=some 121:=A7;obtain rfl:=Option.some.inj (hgk.symm.trans hg3);obtain rfl:=Option.some.inj (htk.symm.trans ht3);obtain⟨c,h1,h2⟩:=ANW Tryz.underlying121 Tryz.underlying9 cl9 ASB hd3;obtain⟨z,hz⟩:=cell_of_shapedOpen_int (P:=jA) (g:=1) (t:=3) (zero := #[.int .i64 0]) hsh (of_decide_eq_true A7) A7 rfl A7 A7 Tryz.underlying3;refine⟨z,fun n=>?_⟩;unfold AR9;split
 .rename_i hn; subst hn
  exact AV0 hg3 hv3 h1 h2 rfl
 .split
  .rename_i hn; subst hn
   exact AV1 hz
  .exact .junk _
end Go.Proofs.YtiihpnicbekebaaGreatDoor.Cov
namespace Go.Proofs.YtiihpnicbekebaaGreatDoor.Bd.Cl
open Sm Bins Cov Xe Wd Bl Ho Go.RowKit
abbrev gW (i:Int):List AV:=[.bool false,.n 0,.sl .full 1 [[.n i]]]
theorem A8Y:AGZ YL sdP D7 QY UA (hol 2)=.tup [.sl .any 1 [[.sl .any 1 [[.n 2]]]],.n 0]:=by unfold AGZ; rw[A4P.2,A4P.1]; rfl
theorem A80:AWU sdP D7 QY UA (hol 3)=.tup [.bool true,.n 0]:=by unfold AWU; rw[A8X]; rfl
def A4E (v:Cvr):Prop:=ACS QY UA v 9=0∧(mX sdP D7 QY UA v 9).1.map (fun g=>(g.cross,g.idx,g.bm,g.bins))=[(false,0,.full,[0]),(false,0,.full,[1]),(false,0,.full,[2])]∧(mX sdP D7 QY UA v 9).2.map (fun g=>(g.cross,g.idx,g.bm,g.bins))=[(false,0,.full,[3])]
theorem AEN (L:List Gl):L.map Cov.encH=(L.map (fun g=>(g.cross,g.idx,g.bm,g.bins))).map fun x=>[AV.bool x.1,.n ((x.2.1:Nat):Int),.sl x.2.2.1 1 (x.2.2.2.map Bins.qencI)]:=by rw[qW]; rfl
theorem ARL {α β:Type}(f:α->β)(L:List α):Cov.nm (L.map f)=Cov.nm L:=by cases L<;>rfl
theorem A8Z {v:Cvr}(h:A4E v):AQ5 sdP D7 QY UA v 9=.tup [.sl .any 3 [gW 0,gW 1,gW 2],.sl .any 3 [gW 3],.n 0]:=by
 obtain⟨h1,h2,h3⟩:=h;unfold AQ5;rw[<-ARL (fun g:Gl=>(g.cross,g.idx,g.bm,g.bins)),<-ARL (fun g:Gl=>(g.cross,g.idx,g.bm,g.bins)) (mX sdP D7 QY UA v 9).2,AEN,AEN,h2,h3,h1];rfl
theorem w_m:FK UA=0:=by decide +kernel
theorem A7W (n:Int):IY jA 34 [(2,.sl .full 1 [Bins.qencI n])]=some (.agg (FX (hol n))):=A7
abbrev cvZ:List AV:=[.sl .nil 0 [],.sl .nil 0 [],.n 0,.n 0]
theorem A75 (h:Hp):GU jA h 46=some (.ptr h.length 0 0,h++[yK 4 [cvZ]]):=FI (row:=cvZ) A7
theorem A73 (h:Hp):GU jA h 94=some (.ptr h.length 0 0,h++[yK 1 [[.sl .nil 0 []]]]):=FI (row:=[.sl .nil 0 []]) A7
section
variable (G:Nat->AV)
theorem APY (hG:GOk G)(v:Cvr)(t:Tk)(hv:CvOk v)(hvc:v.crs=[])(hpl:A4E v)(hE:∀h,PCall (En G) 39 [.agg (DR UA)] h (.tup [.agg (Cov.encV v),.agg (AEL t),.n 0]))(h:Hp):PCall (En G) 11 [] h (.bool true):=by
 refine ACalls.pure0 rfl ?_;refine acT Tryz.func11 0 ?_;have hR:=WY G hG QY vY vZ UA lF (hol 2) DF h;have hV:=AF4 G hG QY vY vZ UA lF (hol 3) DF h;rw[A8Y] at hR;rw[A80] at hV;refine AA ?_;refine(XZ G h).uu ?_;refine(Y7 G h).use ?_;refine A8 @bsI A7W ?_;refine hR.uu ?_;refine(XZ G h).uu ?_;refine(Y7 G h).use ?_;refine A8 @bsI A7W ?_;refine hV.uu ?_;refine(Y7 G h).uu ?_;refine(hE h).use ?_;have g5:=AB (x:=yK 1 [[.sl .nil 0 []]]) (AQ h (yK 4 [cvZ]));have g6:=AQ (h++[yK 4 [cvZ]]) (yK 1 [[.sl .nil 0 []]]);have hx:Sm.ext h (h++[yK 4 [cvZ]]++[yK 1 [[.sl .nil 0 []]]]):=((ext.rfl' h).app _).app _;have e1:(h++[yK 4 [cvZ]]).length=h.length+1:=AZ;refine A8 @A75 @A73 ?_
 rw[e1] at g6|-
 generalize h++[yK 4 [cvZ]]++[yK 1 [[.sl .nil 0 []]]]=H at g5 g6 hx|-
 have s5:DT jA H 46 (.ptr h.length 0 0) (.agg (Cov.encV v))=some (H.set h.length (yK 4 [Cov.encV v])):=by
  rw[IU (cs:=Cov.encV v) rfl AGL g5 (jF 4)]; rfl
 have g56:(H.set h.length (yK 4 [Cov.encV v]))[h.length+1]?=some (yK 1 [[.sl .nil 0 []]]):=by rw[jY U]; exact g6
 have s6:DT jA (H.set h.length (yK 4 [Cov.encV v])) 94 (.ptr (h.length+1) 0 0) (.agg (AEL t))=some ((H.set h.length (yK 4 [Cov.encV v])).set (h.length+1) (yK 1 [AEL t])):=by
  rw[IU (cs:=AEL t) rfl AV6 g56 (jF 1)]; rfl
 have g7:((H.set h.length (yK 4 [Cov.encV v])).set (h.length+1) (yK 1 [AEL t]))[h.length]?=some (yK 4 [Cov.encV v]):=by rw[jY U]; exact CP g5
 have hx2:=(hx.set (jF h.length) (yK 4 [Cov.encV v])).set (b:=h.length+1) U (yK 1 [AEL t]);refine A8 s5 s6 ?_
 generalize (H.set h.length (yK 4 [Cov.encV v])).set (h.length+1) (yK 1 [AEL t])=H2 at g7 hx2|-
 have hP:=A5H G hG QY vY vZ UA rfl lF v hv hvc 9 H2;rw[A8Z hpl] at hP;refine DZ A7 ?_;refine AA ?_;refine⟨_,XZ G H2,_,Y7 G H2,?_⟩;refine AY (Cov.ldV g7) ?_;refine⟨_,hP,?_⟩;have n0:((0:Int) != 0)=false:=rfl;have n1:(((1:Nat):Int) != 1)=false:=rfl;have n3:(((3:Nat):Int) != 3)=false:=rfl;have m1:(((1:Nat):Int)==1)=true:=rfl;have ia:IG 1 H2 (.sl .any 1 [[.sl .any 1 [[.n 2]]]]) (.n 0)=some (.fptr 1 [[.sl .any 1 [[.n 2]]]] 0 0):=A7;have la:BH jA H2 32 (.fptr 1 [[.sl .any 1 [[.n 2]]]] 0 0)=some (.sl .any 1 [[.n 2]]):=A7;have ib:IG 1 H2 (.sl .any 1 [[.n 2]]) (.n 0)=some (.fptr 1 [[.n 2]] 0 0):=A7;have lb:BH jA H2 3 (.fptr 1 [[.n 2]] 0 0)=some (.n 2):=A7;have ic:IG 3 H2 (.sl .any 3 [gW 0,gW 1,gW 2]) (.n 1)=some (.fptr 3 [gW 0,gW 1,gW 2] 1 0):=A7;have lc:BH jA H2 32 (.fptr 3 [gW 0,gW 1,gW 2] 1 2)=some (.sl .full 1 [[.n 1]]):=A7;have id:IG 1 H2 (.sl .full 1 [[.n 1]]) (.n 0)=some (.fptr 1 [[.n 1]] 0 0):=A7;have ld:BH jA H2 3 (.fptr 1 [[.n 1]] 0 0)=some (.n 1):=A7;have ie:IG 3 H2 (.sl .any 3 [gW 3]) (.n 0)=some (.fptr 3 [gW 3] 0 0):=A7;have le:BH jA H2 32 (.fptr 3 [gW 3] 0 2)=some (.sl .full 1 [[.n 3]]):=A7;have ig:IG 1 H2 (.sl .full 1 [[.n 3]]) (.n 0)=some (.fptr 1 [[.n 3]] 0 0):=A7;have lg:BH jA H2 3 (.fptr 1 [[.n 3]] 0 0)=some (.n 3):=A7;have q2:((2:Int)==2)=true:=rfl;have q1:((1:Int)==1)=true:=rfl;have q3:((3:Int)==3)=true:=rfl;simp only[vQ,wE,wP,LM,U6,EI,P8,CG,KA,OD,JS,↓reduceIte,jC,jS,Nat.zero_add,enP,fN,xJ,LY,dH,bI,A6A,ARZ,n0,n1,n3,m1,ia,la,ib,lb,ic,lc,id,ld,ie,le,ig,lg,q1,q2,q3,List.length_cons,zU];exact⟨AC,hx2⟩
end
section
variable (G:Nat->AV)
theorem A4G (hG:GOk G)(m:Mo)(hm:MoOk m)(h0:FK m=0)(h:Hp):PCall (En G) 39 [.agg (DR m)] h (.tup [.agg (Cov.encV (cvS (zS m))),.agg (AEL ⟨Cov.nm (zLs m),zLs m⟩),.n 0]):=by
 have hp:PCall (En G) 39 [.agg (DR m)] h (.tup [.agg (cvW (zS m)),.agg [fzG 1 (fun _:Pt=>GL) m.pts],.n 0]):=by
  refine ACalls.pure 5 (vC G hG m hm h) ?_;rintro v H ⟨he,⟨a,_⟩|⟨_,po,pb,co,cbs,v3,rfl,E⟩⟩
  .exact absurd h0 a
  .refine⟨he,?_⟩
   have e1:=AT7 (zS m) E.nc.np E.nc.nc h.length 0 (jF _);have e3:=PW A3F E.o3 h.length 1 (jF _);show AV.tup [EZ h.length H 4 (.agg (cvR po (zS m).P co (zS m).C (zS m).sam (zS m).ill)),.agg [EZ h.length H 3 v3],.n 0]=_;rw[e1,e3]
 refine hp.res (CvR.tup (CvRL.cons (AT1 (zS m)) (CvRL.cons (CvR.agg (CvRL.cons ?_ CvRL.nil)) (CvRL.cons (CvR.refl _) CvRL.nil))));have h1:CvR (fzG 1 (fun _:Pt=>GL) m.pts) (.sl (Cov.nm m.pts) 1 (m.pts.map fun _=>GL)):=WP;have h2:=CvR.sl (AXK (s:=Cov.nm m.pts) m.pts);have h3:Cov.nm (zLs m)=Cov.nm m.pts:=by unfold zLs; cases m.pts<;>rfl
 intro g cv hr;have:=h2 g cv (h1 g cv hr);rw[h3]; exact this
theorem U8 (hG:GOk G)(h:Hp):PCall (En G) 11 [] h (.bool true) :=
 APY G hG (cvS (zS UA)) ⟨Cov.nm (zLs UA),zLs UA⟩ ⟨by decide +kernel,by decide +kernel,by decide +kernel,by decide +kernel⟩ (by decide +kernel) (by unfold A4E; decide +kernel) (A4G G hG UA lF w_m) h
end
theorem AQY (s:Bw)(ins:Ex->List Rng->Ex)(p:Pr)(m:Mo)(x:Hl):(VE s ins p m x).length<=8:=by
 unfold VE;by_cases h:MP s ins p m x=0
 .rw[if_pos h]
  cases hA:kM s ins p m x with
  | none=>exact qI _
  | some l =>
    have h1:=(VF hA).1
    have hv:MF m x=true:=by
     cases q:MF m x
     .rw[sV (.inr q)] at h; cases h
     .rfl
    show l.length<=8;rw[h1];unfold P9;rw[jM];exact(AT9 hv).1
 .rw[if_neg h]; exact qI _
theorem AWR {s:Bw}{ins:Ex->List Rng->Ex}{p:Pr}{m:Mo}{x:Hl}(hv:IJ p=0):∀a∈VE s ins p m x,AOk p a∧WC p (JV p) a=true:=by
 intro a ha;unfold VE at ha;by_cases h:MP s ins p m x=0
 .rw[if_pos h] at ha
  cases hA:kM s ins p m x with
  | none=>rw[hA] at ha; cases ha
  | some l =>
    rw[hA] at ha;have ha:a∈l:=ha;obtain⟨i,hi,rfl⟩:=qO ha;obtain⟨h1,h2⟩:=VF hA;have:=vS _ _ _ (xY (PV.of hv)) (h2 i U hi);refine⟨this.1,?_⟩;have q:=this.2
    unfold WC at q|-
    rw[List.all_append,Bool.and_eq_true] at q;exact q.1
 .rw[if_neg h] at ha; cases ha
theorem AYA {m:Mo}{x:Hl}{l:List (List Sg)}(h:(htV m x (WF m l) (TY m l)).2=0):TY m l=0∧(htV m x (WF m l) (TY m l)).1=decide (0<XB m x (WF m l)):=by
 unfold htV at h|-
 split at h
 .rename_i hv
  rw[if_pos hv];split at h
  .rename_i he
   rw[if_pos he];exact⟨he,rfl⟩
  .rename_i he; exact absurd h he
 .cases h
theorem AOQ (p:Pr)(l:List (List Int)):(RV p l).map Ss.l=l.map (F8 p.vars):=by unfold RV; rw[qW]; rfl
theorem ATM {p:Pr}(hs:PrS p)(P:PV p){l:List (List Int)}(ok:∀a∈l,AOk p a):∀x∈RV p l,x.l.length<=1048576∧∀s∈x.l,A4D s:=by
 intro x hx;unfold RV at hx;obtain⟨a,ha,rfl⟩:=List.mem_map.1 hx;have hvl:=hs.vars;have hl:=(ok a ha).len;have hel:=Q8 hl;refine⟨by show(F8 p.vars a).length<=_; omega,fun s hsg=>?_⟩;obtain⟨i,hi,rfl⟩:=qO hsg;have hi:i<(F8 p.vars a).length:=hi;have h1:i<p.vars.length:=U;have h2:i<a.length:=U;have:=(ok a ha).rng P i h1;rw[List.getD_eq_getElem?_getD,List.getElem?_eq_getElem h2] at this;have hg:(F8 p.vars a)[i]=(p.vars[i].name,a[i]):=ZF h1 h2 hi;show A4D (F8 p.vars a)[i];rw[hg];have h3:0<=a[i]∧a[i]<256:=this;exact⟨by show(-9223372036854775808:Int)<=a[i]; omega,by show a[i]<=(9223372036854775807:Int); omega⟩
section
variable (G:Nat->AV)
theorem A56 (hG:GOk G)(hT:eL G)(p:Pr)(hs:PrS p)(m:Mo)(hm:MoOk m)(x:Hl)(hn:x.bins.length<=1048576)(h:Hp):PCall (En G) 8 [.agg (CW p),.agg (DR m),.agg (FX x)] h (.bool true):=by
 refine ACalls.pure0 rfl ?_;refine acT Tryz.func8 6 ?_;have gp:=AB (x:=yK 3 [FX x]) (AB (x:=yK 2 [DR m]) (AQ h (yK 5 [CW p])));have gm:=AB (x:=yK 3 [FX x]) (AQ (h++[yK 5 [CW p]]) (yK 2 [DR m]));have gh:=AQ (h++[yK 5 [CW p]]++[yK 2 [DR m]]) (yK 3 [FX x]);have hx:Sm.ext h (h++[yK 5 [CW p]]++[yK 2 [DR m]]++[yK 3 [FX x]]):=(((ext.rfl' h).app _).app _).app _;refine DL @QA @bxM @bxH ?_
 generalize h++[yK 5 [CW p]]++[yK 2 [DR m]]++[yK 3 [FX x]]=H at gp gm gh hx|-
 generalize h.length=pb at gp|-
 generalize (h++[yK 5 [CW p]]).length=mb at gm|-
 generalize (h++[yK 5 [CW p]]++[yK 2 [DR m]]).length=hb' at gh|-
 refine AY (SB gp) ?_;refine(AYR G p hs 8 H).use ?_;rintro r ⟨b,rfl,hf⟩;cases b
 .refine AA ?_
  refine(U8 G hG H).uu ?_;exact⟨AC,hx⟩
 have hb:=(hf rfl).sm U;refine AY (ldM gm) ?_;refine(ANP G m hm H).use fun b=>?_
 cases b
 .refine AA ?_
  refine(U8 G hG H).uu ?_;exact⟨AC,hx⟩
 refine DL (SB gp) (ldM gm) (ldH gh) ?_;refine(WY G hG p hs hb m hm x hn H).use ?_;unfold AGZ;have hok:=AWR (s:=sdP) (ins:=D7) (p:=p) (m:=m) (x:=x);have hln:=AQY sdP D7 p m x;have hfs:=AHY (p:=p) (m:=m) (x:=x);have hfh:=AHZ (p:=p) (m:=m) (x:=x);have hz0:MP sdP D7 p m x≠0->VE sdP D7 p m x=[]:=fun q=>by unfold VE; rw[if_neg q]
 have hv0:MP sdP D7 p m x=0->IJ p=0:=fun q=>(fB (.inl q)).1
 generalize VE sdP D7 p m x=L at hok hln hfs hfh hz0|-
 generalize MP sdP D7 p m x=c at hfs hfh hz0 hv0|-
 cases hc:(c==0)
 .have hc':c≠0:=BG hc
  have hL:=hz0 hc';subst hL;simp only[vQ,wE,wP,EI,P8,CG,KA,OD,JS,↓reduceIte,jC,enP,xJ,bne,hc,zU,show(((0:Nat):Int)==0)=true from rfl];refine(U8 G hG H).uu ?_;exact⟨AC,hx⟩
 have hc':c=0:=BG hc;have hv:=hv0 hc';have ok:∀a∈L,AOk p a:=fun a ha=>(hok hv a ha).1
 simp only[vQ,wE,wP,CG,KA,OD,↓reduceIte,jC,qV,enP,bne,hc];refine ER 0 (fun F H'=>F 3=.ptr pb 0 0∧F 4=.ptr mb 0 0∧F 5=.ptr hb' 0 0∧F 7=.sl (Cov.nm L) 1 (L.map YL)∧H'=H) (fun _ _=>False) ?_ ?_ (fun _ _ q=>q.elim)
 .refine BJ (fun n F H'=>∃i,n+i=L.length∧F 3=.ptr pb 0 0∧F 4=.ptr mb 0 0∧F 5=.ptr hb' 0 0∧F 7=.sl (Cov.nm L) 1 (L.map YL)∧F 9=.n (i:Nat)∧H'=H) L.length ⟨0,AZ,AL,AL,AL,AL,AL,rfl⟩ ?_
  rintro n F H' ⟨i,hi,f3,f4,f5,f7,f9,rfl⟩;refine A8 f7 f9 ?_;refine BM ?_ ?_<;>intro hd
  .have hi':i<L.length:=BG hd
   have hmem:=List.getElem_mem hi';have la:BH jA H' 32 (.fptr 1 (L.map YL) i 0)=some (.sl .any 1 (L[i].map Bins.qencI)):=by rw[CU NE hi']; rfl
   refine AA ?_;refine DZ A7 ?_;refine aI f3 f7 f9 hi' la (SB gp) ?_;refine⟨_,ACR G hG p hs hb hv L[i] _ (ok _ hmem) H',?_⟩;rw[(hok hv _ hmem).2];refine A8 f9 (CZ i) ?_;exact⟨n-1,U,i+1,U,AC,AC,AC,AC,AC,AC⟩
  .refine AA ?_
   exact⟨f3,f4,f5,f7,AC⟩
 .rintro F H' ⟨f3,f4,f5,f7,rfl⟩
  refine AA ?_;refine DZ A7 ?_;refine NW f3 f4 f5 f7 (SB gp) (ldM gm) (ldH gh) ?_;refine⟨_,AOP G p hs L _ YL (fun _=>.any) (fun _=>rfl) (fun a ha=>(ok a ha).len) U H',?_⟩;refine⟨_,Ho.hit_prog G hG hT m hm x hn (RV p L) _ H' (by unfold RV; rw[jM]; omega) (ATM hs (PV.of hv) ok),?_⟩;rw[AOQ];generalize hht:htV m x (WF m (L.map (F8 p.vars))) (TY m (L.map (F8 p.vars)))=ht;obtain⟨y,f⟩:=ht
  have hlp:decide (((L.length:Nat):Int)>0)=true:=by
   have:0<L.length:=List.length_pos_iff.2 (hfs hc');rw[decide_eq_true_eq]; omega
  cases hf0:(f==0)
  .simp only[vQ,wE,wP,LM,U6,EI,P8,YU,CG,FV,KA,OD,↓reduceIte,jC,jS,enP,xJ,bne,hf0,f7,jM,hlp]
   refine(U8 G hG H').uu ?_;exact⟨AC,hx⟩
  .have hf':f=0:=BG hf0
   obtain⟨hr,hy⟩:=AYA (m:=m) (x:=x) (l:=L.map (F8 p.vars)) (by rw[hht]; exact hf');rw[hht,decide_eq_true (hfh hc' hr)] at hy;have hy':y=true:=hy;subst hy';simp only[vQ,wE,wP,LM,U6,EI,P8,CG,KA,OD,↓reduceIte,jC,jS,qV,enP,xJ,bne,hf0,f7,jM,hlp];refine(U8 G hG H').uu ?_;exact⟨AC,hx⟩
end
end Go.Proofs.YtiihpnicbekebaaGreatDoor.Bd.Cl
