/- Part 7 of the proof (Y2, Y1, Y3, Y4, J8, J9, J10, J11, Se, Sg, Sr, Sh, T0, T1, T2, T3, Cf, Kr, Y6, Y7, Y8, Y9, Yw, Kh, Kp, Kw, I1, Iw, I4, Kc, Kl, I5, I6);no condition. -/
import Derived.Below
import Derived.Test.YtiihpnicbekebaaGreatDoorRows
import Derived.Carry
import Derived.ReadAgain
import Derived.ChangeSame
import Derived.OpenShut
import Derived.WideKeyArgs
import Derived.OrdersIn
import Derived.TacticsIn
import Derived.RangeFuncBox
import Derived.RangeFuncLeaves
import Derived.RangeFuncFrom
import Derived.Shelf.Abstract
import Derived.WalkKit
import Derived.OwnWalkIn
import Derived.TacticsInMore
import Derived.LoopNIn
import Derived.LoopIn
import Derived.Test.YtiihpnicbekebaaGreatDoorProg
import Derived.RangeFuncNested
import Derived.RangeFuncBound
import Derived.RangeFuncCalls
import Derived.RegionIn
import Derived.Maps.AppendAt
import Derived.Test.YtiihpnicbekebaaGreatDoorCards
import Derived.JoinedCond
import Derived.KernelRfl
import Derived.LaidMore
import Derived.Shelf.Vars
import Derived.Test.YtiihpnicbekebaaGreatDoorCP6
set_option linter.unusedVariables false
set_option linter.unusedSimpArgs false
set_option maxRecDepth 8000
set_option maxHeartbeats 16000000
open Go.Proofs.YtiihpnicbekebaaGreatDoor.Sm.ABlk renaming live→yE
open Bool renaming and_eq_true→jM,false_eq_true→qR,not_false→jE,not_true→qP,or_eq_false_iff→wB,or_false→zO
open Go.Proofs.Tryz renaming prog→jA
open Int renaming le_refl→wV,toNat_natCast→qB
open List renaming all_eq_true→zL,any_eq_false→qO,append_assoc→zG,append_nil→jO,cons_append→zF,contains_cons→jY,contains_nil→jS,drop_zero→zU,getD_eq_getElem?_getD→zI,getElem?_cons_succ→wK,getElem?_cons_zero→wC,getElem?_eq_getElem→jI,getElem?_map→jW,getElem?_set_ne→zD,getElem_mem→jG,length_append→jX,length_cons→zT,length_map→jP,length_nil→zW,length_set→qY,length_take→jZ,length→wH,map_append→qU,map_congr_left→wQ,map_cons→jK,map_map→qQ,map_nil→jL,mem_append→zK,mem_cons→zN,mem_map→zH,mem_of_getElem?→zZ,mem_singleton→wI,nil_append→qH,range→zM,replicate→jR,take_of_length_le→jJ,take_succ_eq_append_getElem→jU
open Nat renaming add_zero→zA,eq_zero_or_pos→yA,le_of_ble_eq_true→jB,le_refl→jF,le_trans→qJ,reduceAdd→jT,reduceBEq→jV,reduceEqDiff→jC,zero_add→jH,zero_le→qK
open Option renaming getD_none→jQ,getD_some→jD
namespace Go.Proofs.YtiihpnicbekebaaGreatDoor.Bd.Cl
open Sm Bins Cov Xe Wd Bl Ho Go.RowKit
variable {k:Nat} {vs:List Vr} {e:Ex} {p:Pr} {ins:Ex->List Rng->Ex} {m:Mo} {x:Hl} {s:Bw} {a:List Int}
theorem AS6 {α:Type}{f:α->List AV}{h H:Hp}{ys:List α}{v:AV}(hf:MZ (ys.map f)=true)(ho:outG k f h ys v H)(hx:Sm.ext h H)(i:Nat):∃H',(∀F:Fr,F i=v->QW (F,H) i=(upd F i (fzG k f ys),H'))/\Sm.ext h H'/\H'.length=H.length/\∀(b:Nat) (y:ABlk),b<h.length->H[b]?=some y->H'[b]?=some y:=by
 rcases ho with⟨rfl,rfl⟩|⟨e1,o,e2,rfl,e3⟩
 .refine⟨H,fun F hF=>?_,hx,rfl,fun _ _ _ q=>q⟩
  rw[AYV (H:=H) (i:=i) (k:=0) (m:=.nil) (xs:=[]) F hF]
  have:upd F i (fzG k f ([]:List α))=F:=by
   funext j;unfold upd;split
   .rename_i q;rw[q];exact hF.symm
   .rfl
  rw[this]
 .refine⟨H.set o .dead,fun F hF=>?_,hx.set e2 _,by rw[qY],fun b y hb q=>by rw[List.getElem?_set_ne U];exact q⟩
  have hz:=ADS (i:=i) (off:=0) (len:=ys.length) e3 BA (by rw[zU,jJ BA];exact hf);rw[zU,jJ BA] at hz;rw[hz F hF,AHQ e1]
theorem AYU {α:Type}{f:α->Int}{xs ys:List α}{x:α}(h:Bd.fstE f xs=0)(hx:f x≠0):Bd.fstE f (xs++x::ys)=f x:=by
 rw[Bd.fstE_app,if_neg (by rw[h];simp)];show(if f x≠0 then f x else Bd.fstE f ys)=f x;rw[if_pos hx]
theorem AS4 {α:Type}{f:α->Int}{xs:List α}{x:α}(h:Bd.fstE f xs=0)(hx:f x=0):Bd.fstE f (xs++[x])=0:=by
 rw[Bd.fstE_app,if_neg (by rw[h];simp)];show(if f x≠0 then f x else Bd.fstE f [])=0;rw[if_neg (by rw[hx];simp)];rfl
theorem AKZ {α:Type}{f:α->Int}{xs ys:List α}(h:Bd.fstE f xs=0)(hx:Bd.fstE f ys=0):Bd.fstE f (xs++ys)=0:=by
 rw[Bd.fstE_app,if_neg (by rw[h];simp),hx]
def SK (vs:List Vr)(R:List (List Ex)):Int:=Bd.fstE (scC vs) R.flatten
def UG (s:Bw)(vs:List Vr)(R:List (List Ex)):List (List Ex):=R.map fun r=>r.map (GZ s vs)
def AGM (s:Bw)(vs:List Vr)(R:List (List Ex)):AV:=.tup [if SK vs R=0 then .sl (Cov.nm (UG s vs R)) 1 ((UG s vs R).map TR) else .sl .nil 0 [],.n (SK vs R)]
def AQU (s:Bw)(vs:List Vr)(R:List (List Ex)):AV:=.tup [if SK vs R=0 then fzG 1 AGQ (UG s vs R) else .sl .nil 0 [],.n (SK vs R)]
theorem A34 (L:List (List Ex)):CvR (fzG 1 AGQ L) (.sl (Cov.nm L) 1 (L.map TR)):=by
 cases L with
 | nil=>exact CvR.sl (Cv.nil 0 1)
 | cons a L=>exact CvR.sl (Cv.map fun x _=>A1M x)
theorem AWG (s:Bw)(vs:List Vr)(R:List (List Ex)):CvR (AQU s vs R) (AGM s vs R):=by
 unfold AQU AGM;split
 .exact CvR.tup (CvRL.cons (A34 _) (CvRL.cons (CvR.refl _) CvRL.nil))
 .exact CvR.refl _
theorem AMR {R:List (List Ex)}{i:Nat}(hi:i<R.length)(hk:k<R[i].length):∃ys,R.flatten=((R.take i).flatten++R[i].take k)++R[i][k]::ys:=by
 refine⟨R[i].drop (k+1)++(R.drop (i+1)).flatten,?_⟩;have h1:R=R.take i++R[i]::R.drop (i+1):=by simp_all
 have h2:∀l:List Ex,R[i]++l=R[i].take k++R[i][k]::(R[i].drop (k+1)++l):=fun l=>by
  have:R[i].take k++R[i].drop k=R[i]:=List.take_append_drop k R[i];rw[List.drop_eq_getElem_cons hk] at this
  calc R[i]++l=(R[i].take k++R[i][k]::R[i].drop (k+1))++l:=by rw[this]
   _=_:=by rw[zG];rfl
 conv=>lhs;rw[h1,List.flatten_append,List.flatten_cons,h2]
 rw[zG]
section
variable (G:Nat->AV)
theorem vT (hG:GOk G)(p:Pr)(hs:PrS p)(hv:IX p=0)(s:SM)(R:List (List Ex))(hR:R.length<=1048576)(hl:∀r∈R,r.length<=1048576)(he:∀r∈R,∀e∈r,exE e=0)(h:Hp):PCall (En G) 44 [.agg (CY p),.sl s 1 (R.map TR)] h (AGM sdP p.vars R):=by
 refine PCall.res ?_ (AWG sdP p.vars R);refine ACalls.pure (R:=fun v H=>Sm.ext h H/\FH h.length H 3 v=AQU sdP p.vars R) 3 ?_ (fun v H ⟨a,b⟩=>⟨a,b⟩);refine IP (H:=hint [] [(43,[42])]) (enM G) Tryz.func44 rfl (by kernel_rfl) (by kernel_rfl) (jB (by kernel_rfl)) ?_;show awp _ _ _ _ _ (L6 _ [.tmp 4,.tmp 5] _);have gp:=AX h (yE 5 [CY p]);have hx:=Sm.ext.r1 h (yE 5 [CY p]);simp only[vQ,jS,jV,CP,WY,TB,↓reduceIte,jC,enP,iQ,qR,TN,QE,uQ,ZU]
 generalize h++[yE 5 [CY p]]=H0 at gp hx|-
 have hlt:=AC gp;simp only[A3G,A3H,ZU,jP];refine EU 0 (fun F H=>∃v,F 6=v/\F 7=.n (SK p.vars R)/\Sm.ext H0 H/\(SK p.vars R=0->outG 1 AGQ H0 (UG sdP p.vars R) v H)) (fun _ _=>False) ?_ ?_ (fun _ _ q=>q.elim)
 .refine BK (fun n F H=>∃i v,n+i=R.length/\F 2=.ptr h.length 0 0/\F 6=v/\F 7=.n 0/\F 15=.sl s 1 (R.map TR)/\F 16=.n (R.length:Nat)/\F 17=.n (i:Nat)/\Sm.ext H0 H/\outG 1 AGQ H0 (UG sdP p.vars (R.take i)) v H/\Bd.fstE (scC p.vars) (R.take i).flatten=0) R.length
   ⟨0,.sl .nil 0 [],BA,AQ,AQ,AQ,AQ,AQ,AQ,ext.rfl' _,outG.nil _ _ _ _,rfl⟩ ?_
  rintro n F H ⟨i,v,hi,f2,f6,f7,f15,f16,f17,hxH,ho,hf⟩;refine BB f16 f17 ?_;refine D9 ?_ ?_<;>intro hi'
  .have hmr:=jG hi'
   have hrl:=hl _ hmr;have lr:BI jA H 23 (.fptr 1 (R.map TR) i 0)=some (.sl (Cov.nm R[i]) 4 (R[i].map A8)):=by rw[CW LM hi'];rfl
   refine QD f15 f17 hi' lr ?_
   refine BK (fun n2 F' H'=>∃k u,n2+k=R[i].length/\F' 2=.ptr h.length 0 0/\F' 6=v/\F' 7=.n 0/\F' 15=.sl s 1 (R.map TR)/\F' 16=.n (R.length:Nat)/\F' 17=.n (i:Nat)/\F' 10=u/\F' 21=.sl (Cov.nm R[i]) 4 (R[i].map A8)/\F' 22=.n (R[i].length:Nat)/\F' 23=.n (k:Nat)/\Sm.ext H H'/\outG 4 A8 H ((R[i].map (GZ sdP p.vars)).take k) u H'/\Bd.fstE (scC p.vars) (R[i].take k)=0) R[i].length
    ⟨0,.sl .nil 0 [],BA,EI f2,EI f6,EI f7,EI f15,EI f16,EI f17,AQ,AQ,AQ,AQ,ext.rfl' _,outG.nil _ _ _ _,rfl⟩ ?_
   clear f2 f6 f7 f15 f16 f17;rintro n2 F H' ⟨k,u,hk,f2,f6,f7,f15,f16,f17,f10,f21,f22,f23,hx2,hou,hf2⟩;refine BB f22 f23 ?_;refine D9 ?_ ?_<;>intro hk'
   .have hme:=jG hk'
    have hx3:=hx2.app [yE 4 [A8 R[i][k]]];have ga:=AX H' (yE 4 [A8 R[i][k]]);have hou:=hou.app [yE 4 [A8 R[i][k]]];simp only[vQ,jS,jV,CP,↓reduceIte,jC,enP,PZ,jQ,qR,TN,f21,f23,CZ hk',DJ O6 JE EG hk',al79,st79]
    generalize H'++[yE 4 [A8 R[i][k]]]=H3 at hx3 ga hou|-
    generalize H'.length=ab at ga|-
    have gp3:=DI (hxH.trans hx3) gp;refine DW f2 (RX gp3) (IU ga) ?_;refine(AFZ G hG p hs hv R[i][k] (he _ hmr _ hme) H3).use ?_;by_cases hz:scC p.vars R[i][k]=0
    .rw[AQW hz]
     have hx4:=hx3.app [yE 4 [A8 (GZ sdP p.vars R[i][k])]];have go:=AX H3 (yE 4 [A8 (GZ sdP p.vars R[i][k])]);have hou:=hou.app [yE 4 [A8 (GZ sdP p.vars R[i][k])]];refine BB al79 st79 ?_
     generalize H3++[yE 4 [A8 (GZ sdP p.vars R[i][k])]]=H4 at hx4 go hou|-
     have hit:k<(R[i].map (GZ sdP p.vars)).length:=by rw[jP];exact hk'
     have hget:(R[i].map (GZ sdP p.vars))[k]=GZ sdP p.vars R[i][k]:=BA;obtain⟨u',H5,ha,ho2,_,he2,_,_⟩:=hou.append (P:=jA) WB JE eY eM U (by rw[jZ];omega) hx4 (GZ sdP p.vars R[i][k]);rw[<-hget,<-jU hit] at ho2;refine NJ (show((0:Int) != 0)=false from rfl) f10 (PO go) @uO ha f23 (DC k) ?_;exact⟨n2-1,U,k+1,u',U,AL,AL,AL,AL,AL,AL,AL,AL,AL,AL,he2,ho2,by rw[jU hk'];exact AS4 hf2 hz⟩
    .rw[AGN rfl hz]
     have hR4:R4 EX:=⟨_,_,_,_,_,_,rfl⟩
     have hcode:SK p.vars R=scC p.vars R[i][k]:=by
      obtain⟨ys,hys⟩:=AMR hi' hk';unfold SK;rw[hys];exact AYU (AKZ hf hf2) hz
     have bz:(scC p.vars R[i][k] != 0)=true:=BM hz;refine DW al79 (AQN H3 hR4) bz ?_;exact⟨v,AL,by rw[hcode],(hxH.trans hx3).app _,fun q=>absurd (hcode▸q) hz⟩
   .rw[jJ (by rw[jP];omega)] at hou
    rw[jJ U] at hf2;obtain⟨H3,hz,hx3,_,hkeep⟩:=AS6 (YY _) hou hx2 42;have hsl:UG sdP p.vars (R.take (i+1))=UG sdP p.vars (R.take i)++[R[i].map (GZ sdP p.vars)]:=by unfold UG;rw[jU hi',List.map_append];rfl
    have hsn:(UG sdP p.vars (R.take i)).length=i:=by unfold UG;rw[jP,jZ];omega
    obtain⟨v',H4,ha,ho2,_,he2,_,_⟩:=(outG_ext ho hx3).append (P:=jA) AQC AMH A0T AUD U U (hxH.trans hx3) (R[i].map (GZ sdP p.vars));have ha':EQ jA true H3 100 100 v (.sl .full 1 [AGQ (R[i].map (GZ sdP p.vars))])=some (v',H4):=ha;refine SE f6 f10 f17 @ADT hz @A8G ha' (DC i) ?_;exact⟨n-1,U,i+1,v',U,AL,AL,AL,AL,AL,AL,he2,by rw[hsl];exact ho2,by rw[jU hi',List.flatten_append];simp only[List.flatten_cons,List.flatten_nil,jO];exact AKZ hf hf2⟩
  .rw[jJ U] at ho hf
   refine AB ?_;have hf:SK p.vars R=0:=hf;exact⟨v,AL,by first|exact True.intro|(rw[hf];exact f7)|rw[hf],hxH,fun _=>ho⟩
 rintro F H ⟨v,f6,f7,hxH,ho⟩;cases bz:(SK p.vars R != 0)
 .have hz:SK p.vars R=0:=BM bz
  refine DW f7 bz f6 ?_;refine⟨hx.trans hxH,?_⟩;unfold AQU;rw[if_pos hz,hz];show AV.tup [FH h.length H 2 v,_]=_;rw[P6 AYW (ho hz) h.length 0 (by have:=hx.le;omega)];rfl
 .have hz:SK p.vars R≠0:=BM bz
  refine BB f7 bz ?_;refine⟨hx.trans hxH,?_⟩;unfold AQU;rw[if_neg hz];rfl
end
theorem bsA (h:Hp)(m:SM)(xs:List (List AV)):DF jA false h 25 1 [(0,.sl m 1 xs)]=some (.sl .full 1 [[.sl m 1 xs]],h):=AZ
theorem ud25:Tryz.prog.underlying 25=some (.slice 32):=AZ
theorem zs25:TA jA 32=some 1:=AZ
theorem by25:KI jA 32=some 24:=AZ
def XK {α β:Type}(f:α->Option β):List α->Option (List β)
 | []=>some []
 | x::xs=>match f x with
   | some y=>match XK f xs with
     | some ys=>some (y::ys)
     | none=>none
   | none=>none
theorem tF {α β:Type}{f:α->Option β}:∀ {xs:List α} {ys:List β} {x:α} {y:β},XK f xs=some ys->f x=some y->XK f (xs++[x])=some (ys++[y])
 | [],ys,x,y,h,hx=>by
   cases h;rw[qH];unfold XK;rw[hx];rfl
 | a::xs,ys,x,y,h,hx=>by
   unfold XK at h
   cases ha:f a with
   | none=>rw[ha] at h;cases h
   | some b =>
     rw[ha] at h
     cases hb:XK f xs with
     | none=>rw[hb] at h;cases h
     | some bs =>
       rw[hb] at h;cases h;have ih:=tF hb hx;rw[List.cons_append];unfold XK;rw[ha,ih];rfl
theorem tG {α β:Type}{f:α->Option β}:∀ {xs:List α} {x:α},x∈xs->f x=none->XK f xs=none
 | [],x,h,_=>by cases h
 | a::xs,x,h,hx=>by
   unfold XK;rcases zN.1 h with rfl|h
   .rw[hx]
   .cases f a with
    | none=>rfl
    | some b=>rw[tG h hx]
theorem ACS {α β:Type}{f:α->Option β}:∀ {xs:List α} {ys:List β},XK f xs=some ys->ys.length=xs.length/\∀(i:Nat) (h1:i<xs.length) (h2:i<ys.length),f xs[i]=some ys[i]
 | [],ys,h=>by cases h;exact⟨rfl,fun i h1=>by cases h1⟩
 | a::xs,ys,h=>by
   unfold XK at h
   cases ha:f a with
   | none=>rw[ha] at h;cases h
   | some b =>
     rw[ha] at h
     cases hb:XK f xs with
     | none=>rw[hb] at h;cases h
     | some bs =>
       rw[hb] at h;cases h;obtain⟨i1,i2⟩:=ACS hb;refine⟨by simp [i1],fun i h1 h2=>?_⟩
       cases i with
       | zero=>exact ha
       | succ i=>exact i2 i (BM h1) (BM h2)
def JA (p:Pr):List Ex:=p.hard++WC p
def vX (s:Bw)(ins:Ex->List Rng->Ex)(p:Pr)(m:Mo)(x:Hl):Option (List (List Int)):=XK (fun S=>TJ p (JA p++S)) (UG s p.vars (cnL ins m x))
def OA (s:Bw)(ins:Ex->List Rng->Ex)(p:Pr)(m:Mo)(x:Hl):Int :=
 if IX p≠0\/NQ m x=false then 1 else if cnE ins m x≠0 then cnE ins m x else if SK p.vars (cnL ins m x)≠0 then SK p.vars (cnL ins m x) else if(vX s ins p m x).isSome then 0 else 11
def AM6 (s:Bw)(ins:Ex->List Rng->Ex)(p:Pr)(m:Mo)(x:Hl):List (List Int):=if OA s ins p m x=0 then (vX s ins p m x).getD [] else []
def AM5 (f:List Int->List AV)(s:Bw)(ins:Ex->List Rng->Ex)(p:Pr)(m:Mo)(x:Hl):AV:=.tup [.sl (Cov.nm (AM6 s ins p m x)) 1 ((AM6 s ins p m x).map f),.n (OA s ins p m x)]
theorem AV5 (l:List Sg)(e:Ex):FV l (cpE e)=FV l e:=by
 induction e using Ex.induct with|h e ih=>?_
 rw[JY,JY l e,ALP,A7W,lM,yW,JJ,JJ,qQ];congr 1;exact wQ fun a ha=>ih a ha
def Pn (vs:List Vr)(x:Ex):Prop:=O1 x=false/\PL vs x=false
theorem Pn.op {x:Ex}(h:x.op≠2/\x.op≠3/\x.op≠24):Pn vs x:=by
 unfold Pn O1 PL;simp [h.1,h.2.1,h.2.2]
theorem vC {op n:Int}{name:ByteArray}{m:SM}{l:List Ex}(h:Pn vs (.mk op n name m l))(hl:∀a∈l,∀x∈pre a,Pn vs x):∀x∈pre (.mk op n name m l),Pn vs x:=by
 intro x hx;rw[pre_eq] at hx;rcases zN.1 hx with rfl|hx
 .exact h
 .obtain⟨a,ha,hxa⟩:=Ho.mem_pres.1 hx
  exact hl a ha x hxa
theorem AVG (n:Int):∀x∈pre (cE n),Pn vs x:=vC (Pn.op (by refine⟨?_,?_,?_⟩<;>(show(1:Int)≠_;decide))) fun a h=>by cases h
theorem AAO {a:ByteArray}(h:0<=plc vs (elN a k)):∀x∈pre (vaE a k),Pn vs x:=vC (by
 unfold Pn O1 PL;refine⟨rfl,?_⟩;show((2:Int)==2&&decide (plc vs (elN a k)<0))=false
 simp;omega) fun a h=>by cases h
theorem AL7 {vs:List Vr}{a:ByteArray}{n:Nat}(h:∀k,k<n->0<=plc vs (elN a k)):∀k,k<n->∀x∈pre (WE a k),Pn vs x
 | 0,hk=>AAO (h 0 hk)
 | k+1,hk=>vC (Pn.op (by refine⟨?_,?_,?_⟩<;>(show(7:Int)≠_;decide))) fun y hy=>by
   simp only[zN,List.not_mem_nil,or_false] at hy;rcases hy with rfl|rfl
   .exact AL7 h k U
   .exact AAO (h (k+1) hk)
theorem AVF {c:Ex->Ex}{vs:List Vr}{a:ByteArray}{i:Ex}{n:Nat}(h:∀k,k<n->0<=plc vs (elN a k))(hi:∀x∈pre (c i),Pn vs x):∀j,j<=n->∀x∈pre (chK c a i n j),Pn vs x
 | 0,_=>AVG 0
 | j+1,hj=>vC (Pn.op (by refine⟨?_,?_,?_⟩<;>(show(22:Int)≠_;decide))) fun y hy=>by
   simp only[zN,List.not_mem_nil,or_false] at hy;rcases hy with rfl|rfl|rfl
   .refine vC (Pn.op (by refine⟨?_,?_,?_⟩<;>(show(15:Int)≠_;decide))) fun y hy=>?_
    simp only[zN,List.not_mem_nil,or_false] at hy;rcases hy with rfl|rfl
    .exact hi
    .exact AVG _
   .exact AAO (h _ U)
   .exact AVF h hi j U
theorem A9K (h:∀x∈pre e,Pn vs x):∀x∈pre (cpE e),Pn vs x:=by
 intro x hx;rw[AGX] at hx;obtain⟨y,hy,rfl⟩:=zH.1 hx;have:=h y hy
 unfold Pn O1 PL at this|-
 rw[ALP,lM];exact this
theorem A2U (vs:List Vr)(e:Ex):NdOk e->OV vs e=false->∀x∈pre (GZ sdP vs e),Pn vs x:=by
 induction e using Ex.induct with|h e ih=>?_
 intro hn hu;rw[WF];unfold scF;by_cases o24:e.op=24
 .rw[if_pos o24]
  have:=WA hu (.inr o24);exact AL7 (n:=szA vs e.name) (fun k hk=>vO hk) _ U
 rw[if_neg o24];by_cases o3:e.op=3
 .rw[if_pos o3]
  have hz:=WA hu (.inl o3);obtain⟨b,hb⟩:=VV hn.self o3;have hm:b∈e.args:=by rw[hb];simp
  have ihb:=ih b hm (hn.arg hm) (QT hu hm);obtain⟨c1,c2⟩:=fB (s:=sdP) (hn.arg hm) (QT hu hm);rw[hb];show ∀x∈pre (Z9 cpE e.name (GZ sdP vs b) (szA vs e.name)),Pn vs x;unfold Z9;split
  .rename_i q
   split
   .have h0:=c1.1 q
    have hn2:=c2 h0;exact AAO (vO U)
   .exact AVG 0
  .exact AVF (fun k hk=>vO hk) (A9K ihb) _ (jF _)
 .rw[if_neg o3]
  refine vC ?_ fun a ha=>?_
  .rw[UN,wB] at hu
   have h1:=hu.1;unfold QG at h1;unfold Pn O1 PL;refine⟨?_,?_⟩
   .show((e.op==3)||(e.op==24))=false
    simp [o3,o24]
   .show((e.op==2)&&decide (plc vs e.name<0))=false
    exact(wB.1 h1).1
  .obtain⟨b,hb,rfl⟩:=zH.1 ha
   exact ih b hb (hn.arg hb) (QT hu hb)
theorem A2T (he:exE e=0)(h:scC vs e=0):xpE vs (GZ sdP vs e)=0:=by
 have hn:=NdOk.of he;unfold scC at h
 cases hu:OV vs e with
 | true=>rw[hu,if_pos rfl] at h;exact absurd h DT
 | false =>
   rw[hu,if_neg DT] at h;by_cases hx:400<(H8 vs e).1
   .simp_all
   rw[if_neg hx] at h;have hp:=A2U vs e hn hu;have h2:sC (GZ sdP vs e)=false:=qO.2 fun x hx=>by rw[(hp x hx).1];simp
   have h3:nV vs (GZ sdP vs e)=false:=qO.2 fun x hx=>by rw[(hp x hx).2];simp
   unfold xpE;rw[if_neg (by rw[h];simp)];unfold plE;rw[h2,h3];rfl
theorem AYK (hv:IX p=0):∀e∈p.hard,xpE p.vars e=0:=by
 have h2:KC p.vars (p.hard++p.soft)=0:=by
  unfold IX at hv;by_cases h1:KO p.vars≠0
  .simp_all
  rw[if_neg h1] at hv;by_cases h2:KC p.vars (p.hard++p.soft)≠0
  .simp_all
  simpa using h2
 intro e he;unfold KC at h2;exact Bd.fstE_zero h2 e (List.mem_append_left _ he)
theorem A2S {R:List (List Ex)}(he:∀r∈R,∀e∈r,exE e=0)(hz:SK p.vars R=0):∀S∈UG sdP p.vars R,∀e∈S,xpE p.vars e=0:=by
 intro S hS e heS;unfold UG at hS;obtain⟨r,hr,rfl⟩:=zH.1 hS;obtain⟨x,hx,rfl⟩:=zH.1 heS;exact A2T (he r hr x hx) (Bd.fstE_zero hz x (List.mem_flatten.2 ⟨r,hr,hx⟩))
theorem ABY (hv:IX p=0){S:List Ex}(hS:∀e∈S,xpE p.vars e=0):∀e∈JA p++S,xpE p.vars e=0:=by
 intro e he;unfold JA at he;rcases zK.1 he with h|h
 .rcases zK.1 h with h|h
  .exact AYK hv e h
  .exact A2M hv e h
 .exact hS e h
theorem A1V (hv:NQ m x=true)(hc:cnE ins m x=0):∀r∈cnL ins m x,∀e∈r,exE e=0:=by
 unfold cnE at hc;rw[if_pos hv] at hc;by_cases q:(cnL ins m x).flatten.all (fun e=>exE e==0)=true
 .grind
 .simp_all
structure Sm51 (p:Pr):Prop where
 hard:p.hard.length<=100000
 dists:p.dists.length<=100000
 bits:IX p=0->lft p (YN p)<=262144
def oO (a:List Int):List AV:=[.sl .any 1 (a.map Bins.qencI)]
theorem A7H:Frz oO:=fun _ _ _ _=>⟨rfl,rfl⟩
def AGT (f:List Int->List AV)(s:Bw)(ins:Ex->List Rng->Ex)(p:Pr)(m:Mo)(x:Hl):AV:=.tup [fzG 1 f (AM6 s ins p m x),.n (OA s ins p m x)]
theorem AWT (f:List Int->List AV)(s:Bw)(ins:Ex->List Rng->Ex)(p:Pr)(m:Mo)(x:Hl):CvR (AGT f s ins p m x) (AM5 f s ins p m x):=CvR.tup (CvRL.cons WR (CvRL.cons (CvR.refl _) CvRL.nil))
theorem AB4 {f:List Int->List AV}{z:Int}(h:OA s ins p m x=z)(hz:z≠0):AGT f s ins p m x=.tup [.sl .nil 0 [],.n z]:=by
 unfold AGT AM6;rw[h,if_neg hz];rfl
theorem AWS {f:List Int->List AV}{al:List (List Int)}(h:OA s ins p m x=0)(ha:vX s ins p m x=some al):AGT f s ins p m x=.tup [fzG 1 f al,.n 0]:=by
 unfold AGT AM6;rw[h,if_pos rfl,ha];rfl
theorem AB3 (h:IX p≠0\/NQ m x=false):OA s ins p m x=1:=by unfold OA;rw[if_pos h]
theorem A06 (h1:IX p=0)(h2:NQ m x=true)(h:cnE ins m x≠0):OA s ins p m x=cnE ins m x:=by unfold OA;rw[if_neg (by rw[h1,h2];simp),if_pos h]
theorem A05 (h1:IX p=0)(h2:NQ m x=true)(h3:cnE ins m x=0)(h:SK p.vars (cnL ins m x)≠0):OA s ins p m x=SK p.vars (cnL ins m x):=by unfold OA;rw[if_neg (by rw[h1,h2];simp),if_neg (by rw[h3];simp),if_pos h]
theorem A04 (h1:IX p=0)(h2:NQ m x=true)(h3:cnE ins m x=0)(h4:SK p.vars (cnL ins m x)=0):OA s ins p m x=if(vX s ins p m x).isSome then 0 else 11:=by unfold OA;rw[if_neg (by rw[h1,h2];simp),if_neg (by rw[h3];simp),if_neg (by rw[h4];simp)]
theorem A28 (h:FQ m≠0):NQ m x=false:=by
 cases q:NQ m x
 .rfl
 .exact absurd (vJ q) h
theorem A4P (hv:NQ m x=true):(cnL ins m x).length<=8/\∀r∈cnL ins m x,r.length<=8:=by
 have h0:=vJ hv;have hL:=mS hv
 have hl:=uW (cs:=(OB m x).map (cdQ ins m)) (by rw[jP];exact hL.n4) (fun c hc=>by
  obtain⟨q,hq,rfl⟩:=zH.1 hc;obtain⟨a,b⟩:=hL.ok q hq
  exact(zE h0 a b).2) (fun c hc r hr=>by
  obtain⟨q,hq,rfl⟩:=zH.1 hc;obtain⟨a,b⟩:=hL.ok q hq
  exact(AE3 (P:=fun _=>True) h0 a b (fun l _=>⟨trivial,trivial⟩) r hr).1)
 exact⟨hl.1,hl.2.1⟩
theorem AS5 (r:Option (List Int))(n:Nat)(H:Hp):FH n H 3 (AHS r)=AHS r:=by cases r<;>rfl
theorem mB (p:Pr):(WC p).length=p.dists.length:=by unfold WC;rw[jP]
section
variable (G:Nat->AV)
theorem AHB (hG:GOk G)(p:Pr)(hs:PrS p)(hv:IX p=0)(lm:SM)(l:List Ex)(hl:l.length<=1048576)(hk:∀e∈l,xpE p.vars e=0)(hst:lft p (YN p)<=262144)(h:Hp):
  PCall (En G) 47 [.agg (CY p),.sl lm 4 (l.map A8)] h (AHS (TJ p l)):=by
 refine X8 3 (AS5 _) ?_;refine acL Tryz.func47 [.tmp 4,.tmp 5] ?_;have gp:=AX h (yE 5 [CY p]);have hx:=Sm.ext.r1 h (yE 5 [CY p]);refine A7 @QE ?_
 generalize h++[yE 5 [CY p]]=H0 at gp hx|-
 refine A7 (RX gp) ?_;refine(A0L G hG p hs hv lm l hl (fun e he=>by have:=A0V (hk e he);omega) hk hst H0).use ?_;unfold AHS
 cases TJ p l with
 | none =>
   refine A7 (show((11:Int) != 18)=true from rfl) ?_;exact⟨AL,hx⟩
 | some a =>
   refine A7 (show((0:Int) != 18)=true from rfl) ?_;exact⟨AL,hx⟩
theorem cJ (hG:GOk G)(p:Pr)(hs:PrS p)(hb:Sm51 p)(m:Mo)(hm:MoOk m)(x:Hl)(hn:x.bins.length<=1048576)(h:Hp):PCall (En G) 12 [.agg (CY p),.agg (DV m),.agg (F8 x)] h (AM5 oO sdP EE p m x):=by
 refine PCall.res ?_ (AWT oO sdP EE p m x);refine ACalls.pure (R:=fun v H=>Sm.ext h H/\FH h.length H 3 v=AGT oO sdP EE p m x) 3 ?_ (fun v H ⟨a,b⟩=>⟨a,b⟩);refine acL Tryz.func12 [.tmp 6,.tmp 7] ?_;have gp:=AO (x:=yE 3 [F8 x]) (AO (x:=yE 2 [DV m]) (AX h (yE 5 [CY p])));have gm:=AO (x:=yE 3 [F8 x]) (AX (h++[yE 5 [CY p]]) (yE 2 [DV m]));have gh:=AX (h++[yE 5 [CY p]]++[yE 2 [DV m]]) (yE 3 [F8 x]);have hx:Sm.ext h (h++[yE 5 [CY p]]++[yE 2 [DV m]]++[yE 3 [F8 x]]):=(((ext.rfl' h).app _).app _).app _;refine DW @QE @bxM @bxH ?_
 generalize h++[yE 5 [CY p]]++[yE 2 [DV m]]++[yE 3 [F8 x]]=H0 at gp gm gh hx|-
 generalize (h++[yE 5 [CY p]]++[yE 2 [DV m]]).length=xb at gh|-
 generalize (h++[yE 5 [CY p]]).length=mb at gm|-
 have bad:∀z:Int,OA sdP EE p m x=z->z≠0->FH h.length H0 3 (.tup [.sl .nil 0 [],.n z])=AGT oO sdP EE p m x:=fun z q1 q2=>by rw[AB4 q1 q2];rfl
 refine A7 (RX gp) ?_;refine(Bd.valid_prog G hG p hs H0).use ?_;cases bv:(IX p != 0)
 case true =>
  have q:IX p≠0:=BM bv;refine A7 bv ?_;exact⟨hx,bad 1 (AB3 (.inl q)) DT⟩
 have hv:IX p=0:=BM bv;refine BB bv (ldM gm) ?_;refine(TI G hG m hm H0).use ?_;cases bm:(FQ m != 0)
 case true =>
  have q:FQ m≠0:=BM bm;refine BB bv bm ?_;exact⟨hx,bad 1 (AB3 (.inr (A28 q))) DT⟩
 refine ES bv bm (ldM gm) (ldH gh) ?_;refine(Ho.valid_prog G hG m hm x hn H0).use ?_;cases bh:NQ m x
 case false =>
  refine DW bv bm bh ?_;exact⟨hx,bad 1 (AB3 (.inr bh)) DT⟩
 refine JI bv bm bh (ldM gm) (ldH gh) ?_;refine(qT G hG m hm x hn H0).use ?_;by_cases hc:cnE EE m x=0
 rotate_left
 .have e:cnV EE m x=.tup [.sl .nil 0 [],.n (cnE EE m x)]:=by unfold cnV;rw[if_neg hc]
  have bc:(cnE EE m x != 0)=true:=BM hc;rw[e];refine A7 bc ?_;exact⟨hx,bad _ (A06 hv bh hc) hc⟩
 have e:cnV EE m x=.tup [.sl .any 1 ((cnL EE m x).map TR),.n 0]:=by unfold cnV;rw[if_pos hc,hc]
 have hce:=A1V bh hc;obtain⟨hcl,hcr⟩:=A4P (ins:=EE) bh;have hr4:=A04 (s:=sdP) hv bh hc;have hr3:=A05 (s:=sdP) hv bh hc;have hrA:vX sdP EE p m x=XK (fun S=>TJ p (JA p++S)) (UG sdP p.vars (cnL EE m x)):=rfl;rw[e]
 generalize cnL EE m x=R at hce hcl hcr hr3 hr4 hrA|-
 refine BB (show((0:Int) != 0)=false from rfl) (RX gp) ?_;refine(vT G hG p hs hv .any R U (fun r hr=>by have:=hcr r hr;omega) hce H0).use ?_;by_cases hz:SK p.vars R=0
 rotate_left
 .have e:AGM sdP p.vars R=.tup [.sl .nil 0 [],.n (SK p.vars R)]:=by unfold AGM;rw[if_neg hz]
  have bc:(SK p.vars R != 0)=true:=BM hz;rw[e];refine A7 bc ?_;exact⟨hx,bad _ (hr3 hz) hz⟩
 have e:AGM sdP p.vars R=.tup [.sl (Cov.nm (UG sdP p.vars R)) 1 ((UG sdP p.vars R).map TR),.n 0]:=by unfold AGM;rw[if_pos hz,hz]
 have hSx:=A2S hce hz
 have hSl:(UG sdP p.vars R).length<=8/\∀S∈UG sdP p.vars R,S.length<=8:=by
  refine⟨by unfold UG;rw[jP];exact hcl,fun S hS=>?_⟩;unfold UG at hS;obtain⟨r,hr,rfl⟩:=zH.1 hS;rw[jP];exact hcr r hr
 have hr4:=hr4 hz;rw[e]
 generalize UG sdP p.vars R=L at hSx hSl hrA|-
 have lh:BI jA H0 23 (.ptr h.length 0 1)=some (.sl p.hm 4 (p.hard.map A8)):=by rw[BC LM gp (row:=CY p) rfl];rfl
 refine A7 (show((0:Int) != 0)=false from rfl) ?_;have hfl:Bd.fl [⟨p.hm,p.hard⟩,⟨.any,WC p⟩]=JA p:=by simp [Bd.fl,JA]
 have hrl:(JA p).length<=200000:=by unfold JA;rw[jX,mB];have:=hb.hard;have:=hb.dists;omega
 have hcc:=Bd.concat_prog G [⟨p.hm,p.hard⟩,⟨.any,WC p⟩] .full BA (by rw[hfl];omega) H0;rw[hfl] at hcc;refine D6 AZ ?_;refine DW @bU lh (RX gp) ?_;refine⟨_,eU G hG p hs hv H0,?_⟩;simp only[vQ,LQ,O9,NW,CP,WY,↓reduceIte,jC,jT,enP,iQ,AUH];refine⟨_,hcc,?_⟩;have hrx:=fun S (q:∀e∈S,xpE p.vars e=0)=>ABY (p:=p) hv (S:=S) q
 generalize JA p=rl at hrl hrA hrx|-
 simp only[jP]
 refine BK (fun n F H=>∃i v done,n+i=L.length/\F 3=.ptr h.length 0 0/\F 11=.sl (Cov.nm rl) 4 (rl.map A8)/\F 12=v/\F 55=.sl (Cov.nm L) 1 (L.map TR)/\F 56=.n (L.length:Nat)/\F 57=.n (i:Nat)/\Sm.ext H0 H/\outG 1 oO H0 done v H/\XK (fun S=>TJ p (rl++S)) (L.take i)=some done) L.length
  ⟨0,.sl .nil 0 [],[],BA,by simp only[AY,↓reduceIte,jC],by simp only[AY,↓reduceIte,jC],by simp only[AY,↓reduceIte,jC],by simp only[AY,↓reduceIte,jC],by simp only[AY,↓reduceIte,jC],by simp only[AY,↓reduceIte];rfl,ext.rfl' _,outG.nil _ _ _ _,rfl⟩ ?_
 rintro n F H ⟨i,v,done,hi,f3,f11,f12,f55,f56,f57,hxH,ho,hd⟩;refine BB f56 f57 ?_;refine D9 ?_ ?_<;>intro hi'
 .have hme:=jG hi'
  have hdl:=(ACS hd).1;rw[jZ] at hdl;have gp1:=DI hxH gp;have lr:BI jA H 23 (.fptr 1 (L.map TR) i 0)=some (.sl (Cov.nm L[i]) 4 (L[i].map A8)):=by rw[CW LM hi'];rfl
  have hfl2:Bd.fl [⟨Cov.nm rl,rl⟩,⟨Cov.nm L[i],L[i]⟩]=rl++L[i]:=by simp [Bd.fl]
  have hll:(rl++L[i]).length<=1048576:=by grind
  have hcc2:=Bd.concat_prog G [⟨Cov.nm rl,rl⟩,⟨Cov.nm L[i],L[i]⟩] .full BA (by rw[hfl2];exact hll) H;rw[hfl2] at hcc2;refine QD f55 f57 hi' lr ?_;refine D6 AZ ?_;refine ES f3 f11 (RX gp1) AUH ?_;refine⟨_,hcc2,_,AHB G hG p hs hv _ (rl++L[i]) hll (hrx _ (hSx _ hme)) (hb.bits hv) H,?_⟩;unfold AHS
  cases hq:TJ p (rl++L[i]) with
  | none =>
    have hnone:vX sdP EE p m x=none:=by rw[hrA];exact tG hme hq
    refine A7 (show((11:Int) != 0)=true from rfl) ?_;refine⟨hx.trans hxH,?_⟩;rw[AB4 (z:=11) (by rw[hr4,hnone];rfl) DT];rfl
  | some a =>
    obtain⟨v',H4,ha,ho2,_,he2,_,_⟩:=ho.append (P:=jA) ud25 vP zs25 by25 U U hxH a;change EQ jA true H 25 25 v (.sl .full 1 [[.sl .any 1 (a.map Bins.qencI)]])=_ at ha;refine NY (show((0:Int) != 0)=false from rfl) f12 @bsA ha f57 (DC i) ?_;exact⟨n-1,U,i+1,v',done++[a],U,AL,AL,AL,AL,AL,AL,he2,ho2,by rw[jU hi'];exact tF hd hq⟩
 .rw[jJ U] at hd
  have hsome:vX sdP EE p m x=some done:=by rw[hrA];exact hd
  refine A7 f12 ?_;refine⟨hx.trans hxH,?_⟩;rw[AWS (by rw[hr4,hsome];rfl) hsome];show AV.tup [FH h.length H 2 v,_]=_;rw[P6 A7H ho h.length 0 (by have:=hx.le;omega)];rfl
def AQ8 (s:Bw)(ins:Ex->List Rng->Ex)(p:Pr)(m:Mo)(x:Hl):AV:=.tup [.bool (decide (OA s ins p m x=11)),.n (if OA s ins p m x=11 then 0 else OA s ins p m x)]
theorem kJ (hG:GOk G)(p:Pr)(hs:PrS p)(hb:Sm51 p)(m:Mo)(hm:MoOk m)(x:Hl)(hn:x.bins.length<=1048576)(h:Hp):PCall (En G) 14 [.agg (CY p),.agg (DV m),.agg (F8 x)] h (AQ8 sdP EE p m x):=by
 refine X8 3 (fun n H=>rfl) ?_;refine acL Tryz.func14 [.tmp 6,.tmp 7] ?_;have gp:=AO (x:=yE 3 [F8 x]) (AO (x:=yE 2 [DV m]) (AX h (yE 5 [CY p])));have gm:=AO (x:=yE 3 [F8 x]) (AX (h++[yE 5 [CY p]]) (yE 2 [DV m]));have gh:=AX (h++[yE 5 [CY p]]++[yE 2 [DV m]]) (yE 3 [F8 x]);have hx:Sm.ext h (h++[yE 5 [CY p]]++[yE 2 [DV m]]++[yE 3 [F8 x]]):=(((ext.rfl' h).app _).app _).app _;refine DW @QE @bxM @bxH ?_
 generalize h++[yE 5 [CY p]]++[yE 2 [DV m]]++[yE 3 [F8 x]]=H0 at gp gm gh hx|-
 refine DW (RX gp) (ldM gm) (ldH gh) ?_;refine(cJ G hG p hs hb m hm x hn H0).use ?_;unfold AM5 AQ8;generalize OA sdP EE p m x=c;refine AB ?_;refine BO ?_ ?_<;>intro hc
 .have hc:c=11:=BM hc
  refine AB ?_;exact⟨by rw[hc];rfl,hx⟩
 .have hc:¬c=11:=BM hc
  refine AB ?_;exact⟨by rw[if_neg hc,decide_eq_false hc],hx⟩
end
section
variable (G:Nat->AV)
theorem AF5 (p:Pr)(hs:PrS p)(a:List Int)(m:SM)(hl:a.length=p.vars.length)(h:Hp):PCall (En G) 72 [.agg (CY p),.sl m 1 (a.map Bins.qencI)] h (.sl (Cov.nm (GI p.vars a)) 2 ((GI p.vars a).map FU)):=by
 have hvl:=hs.vars;have hel:=RG hl;refine J3 A7B ?_;refine IP (H:=hint [31] []) (enM G) Tryz.func72 rfl (by kernel_rfl) (by kernel_rfl) (jB (by kernel_rfl)) ?_;show awp _ _ _ _ _ (L6 _ [.tmp 4] _);have ge:=AX h (yE 5 [CY p]);have hx:=Sm.ext.r1 h (yE 5 [CY p]);refine A7 @QE ?_
 generalize h++[yE 5 [CY p]]=H0 at ge hx|-
 generalize hpb:h.length=pb at ge|-
 have l22:∀ {H:Hp},Sm.ext H0 H->BI jA H 22 (.ptr pb 0 0)=some (.sl p.vm 4 (p.vars.map encV)):=fun q=>by rw[BC WZ (DI q ge) (row:=CY p) rfl];rfl
 have hne:(((a.length:Nat):Int) != ((p.vars.length:Nat):Int))=false:=by rw[hl];simp
 refine BB (l22 (ext.rfl' H0)) hne ?_
 refine BK (fun n F H=>∃i u,n+i=a.length/\F 1=.sl m 1 (a.map Bins.qencI)/\F 5=u/\F 15=.sl p.vm 4 (p.vars.map encV)/\F 16=.n (p.vars.length:Nat)/\F 17=.n (i:Nat)/\Sm.ext H0 H/\outG 2 FU H0 ((GI p.vars a).take i) u H) a.length
  ⟨0,.sl .nil 0 [],BA,AQ,AQ,AQ,AQ,AQ,ext.rfl' _,outG.nil _ _ _ _⟩ ?_
 rintro n F H ⟨i,u,hi,f1,f5,f15,f16,f17,hxH,ho⟩;refine BB f16 f17 ?_;refine D9 (fun hiv=>?_) (fun hi'=>?_)
 .have hi':i<a.length:=U
  have hie:i<(GI p.vars a).length:=U;have hx1:=hxH.app [yE 4 [encV p.vars[i]]];have ho:=ho.app [yE 4 [encV p.vars[i]]];have gg:=AX H (yE 4 [encV p.vars[i]]);simp only[vQ,List.contains_cons,jS,jV,zO,CP,↓reduceIte,jC,enP,ZZ,jQ,f15,f17,CZ hiv,DJ AFT iL encV_len hiv,al61,st61]
  generalize H++[yE 4 [encV p.vars[i]]]=H1 at hx1 ho gg|-
  generalize H.length=gb at gg|-
  obtain⟨v',H',ha,ho',_,hx',_,_⟩:=ho.append (P:=jA) A0X AZ A0R A1W U (by rw[jZ];omega) hx1 (p.vars[i].name,a[i]);rw[<-ZO hiv hi' hie,<-jU hie] at ho';have ln:BI jA H1 9 (.ptr gb 0 0)=some (.str p.vars[i].name):=by rw[BC ag9 gg (row:=encV p.vars[i]) rfl];rfl
  have la:BI jA H1 3 (.fptr 1 (a.map Bins.qencI) i 0)=some (.n a[i]):=by rw[CW ag3 hi'];rfl
  try refine AB ?_
  refine D6 AZ ?_;refine cN f1 f5 f17 hi' ln la A8L A8E ha (DC i) ?_;exact⟨n-1,U,i+1,v',U,AL,AL,AL,AL,AL,hx',ho'⟩
 .rw[jJ U] at ho
  refine A7 f5 ?_;refine⟨hx.trans hxH,?_⟩;rcases ho with⟨a,b⟩|⟨a,o,b,c,d⟩
  .exact .inl ⟨a,b⟩
  .exact .inr ⟨a,o,qJ hx.le b,c,d⟩
theorem AIL (p:Pr)(hs:PrS p)(P:PV p)(a:List Int)(m:SM)(ok:AOk p a)(h:Hp):PCall (En G) 142 [.agg (CY p),.sl m 1 (a.map Bins.qencI)] h (.bool true):=by
 have hvl:=hs.vars;have hl:=ok.len;refine ACalls.pure0 rfl ?_;refine acT Tryz.func142 4 ?_;have ge:=AX h (yE 5 [CY p]);have hx:=Sm.ext.r1 h (yE 5 [CY p]);refine A7 @QE ?_
 generalize h++[yE 5 [CY p]]=H0 at ge hx|-
 generalize hpb:h.length=pb at ge|-
 have l22:∀ {H:Hp},Sm.ext H0 H->BI jA H 22 (.ptr pb 0 0)=some (.sl p.vm 4 (p.vars.map encV)):=fun q=>by rw[BC WZ (DI q ge) (row:=CY p) rfl];rfl
 have hne:(((a.length:Nat):Int) != ((p.vars.length:Nat):Int))=false:=by rw[hl];simp
 refine BB (l22 (ext.rfl' H0)) hne ?_
 refine BK (fun n F H=>∃i,n+i=a.length/\F 1=.sl m 1 (a.map Bins.qencI)/\F 14=.sl p.vm 4 (p.vars.map encV)/\F 15=.n (p.vars.length:Nat)/\F 16=.n (i:Nat)/\Sm.ext H0 H) a.length
  ⟨0,BA,AQ,AQ,AQ,AQ,ext.rfl' _⟩ ?_
 rintro n F H ⟨i,hi,f1,f14,f15,f16,hxH⟩;refine BB f15 f16 ?_;refine BO ?_ ?_<;>intro hc
 .have hiv:i<p.vars.length:=BM hc
  have hi':i<a.length:=U;obtain⟨_,w1,w8,_,_,v0,v1,_⟩:=PQ (P.vr _ (jG hiv));have hgd:a.getD i 0=a[i]:=by rw[zI,jI hi'];rfl
  have hst:=ok.st i hiv;have hrn:=ok.rn i hiv;rw[hgd] at hst hrn
  have hr:0<=a[i]/\a[i]<2^p.vars[i].width.toNat:=by
   by_cases hm:p.vars[i].mode=0
   .rw[hst hm];exact⟨v0,v1⟩
   .exact hrn hm
  have hx1:=hxH.app [yE 4 [encV p.vars[i]]];have gg:=AX H (yE 4 [encV p.vars[i]]);simp only[vQ,CP,↓reduceIte,jC,enP,ZZ,jQ,f14,f16,CZ hiv,DJ AFT iL encV_len hiv,al61,st61]
  generalize H++[yE 4 [encV p.vars[i]]]=H1 at hx1 gg|-
  generalize H.length=gb at gg|-
  have l1:BI jA H1 3 (.ptr gb 0 1)=some (.n p.vars[i].width):=by rw[BC ag3 gg (row:=encV p.vars[i]) rfl];rfl
  have l2:BI jA H1 3 (.ptr gb 0 2)=some (.n p.vars[i].mode):=by rw[BC ag3 gg (row:=encV p.vars[i]) rfl];rfl
  have l3:BI jA H1 3 (.ptr gb 0 3)=some (.n p.vars[i].value):=by rw[BC ag3 gg (row:=encV p.vars[i]) rfl];rfl
  have la:BI jA H1 3 (.fptr 1 (a.map Bins.qencI) i 0)=some (.n a[i]):=by rw[CW ag3 hi'];rfl
  have c1:decide (a[i]<0)=false:=decide_eq_false U;have c2:decide (a[i]≥2^p.vars[i].width.toNat)=false:=decide_eq_false U;have hsh:=Bd.shl_w (w:=p.vars[i].width) U U
  try refine AB ?_
  refine D6 AZ ?_;cases c3:(p.vars[i].mode==0)
  .refine cN f1 f16 hi' la c1 l1 hsh c2 l2 c3 ?_
   exact⟨n-1,U,i+1,U,AL,AL,AL,by rw[DC i],hx1⟩
  .have hv:=hst (BM c3)
   simp only[vQ,ND,Q3,eW,pX,XQ,OT,OW,EM,CP,J7,MO,↓reduceIte,jC,jT,enP,LY,SS,UW,WU,f1,f16,CZ hi',la,c1,l1,hsh,c2,l2,c3,l3,show(a[i] != p.vars[i].value)=false by rw[hv];simp];exact⟨n-1,U,i+1,U,AL,AL,AL,by rw[DC i],hx1⟩
 .refine AB ?_
  exact⟨AL,hx.trans hxH⟩
theorem AVK (hG:GOk G)(p:Pr)(hs:PrS p)(hv:IX p=0)(a:List Int)(m:SM)(ok:AOk p a)(e:Ex)(hk:xpE p.vars e=0)(h:Hp):
  PCall (En G) 69 [.agg (CY p),.sl m 1 (a.map Bins.qencI),.agg (A8 e)] h (.bool (!(FV (GI p.vars a) e==0))):=by
 have hvl:=hs.vars;have hl:=ok.len;have hel:=RG hl;refine ACalls.pure0 rfl ?_;refine acT Tryz.func69 6 ?_;have gp:=AO (x:=yE 4 [A8 e]) (AX h (yE 5 [CY p]));have ge:=AX (h++[yE 5 [CY p]]) (yE 4 [A8 e]);have hx:Sm.ext h (h++[yE 5 [CY p]]++[yE 4 [A8 e]]):=((ext.rfl' h).app _).app _;refine BB @QE @bxE ?_
 generalize h++[yE 5 [CY p]]++[yE 4 [A8 e]]=H0 at gp ge hx|-
 generalize (h++[yE 5 [CY p]]).length=eb at ge|-
 refine A7 (RX gp) ?_;refine(Bd.valid_prog G hG p hs H0).use ?_;refine BB (show(IX p != 0)=false by rw[hv];rfl) (RX gp) ?_;refine(AIL G p hs (PV.of hv) a m ok H0).use ?_;refine A7 (show(IX p != 0)=false by rw[hv];rfl) ?_;refine D6 AZ ?_;refine BB (RX gp) (IU ge) ?_;refine⟨_,AF5 G p hs a m hl H0,?_⟩;refine⟨_,ZV G hG (GI p.vars a) _ e H0 U (by have:=A0V hk;omega),?_⟩;rw[A1P hk hl];unfold evV;refine AB ?_;cases c:(FV (GI p.vars a) e==0)
 .have n0:FV (GI p.vars a) e≠0:=BM c
  refine DW (show(((0:Int)==0)==true)=true from rfl) (show((0:Int)==0)=true from rfl) (show(((FV (GI p.vars a) e:Nat):Int) != 0)=true by simp [n0]) ?_;exact⟨AL,hx⟩
 .have n0:FV (GI p.vars a) e=0:=BM c
  refine DW (show(((0:Int)==0)==true)=true from rfl) (show((0:Int)==0)=true from rfl) (show(((FV (GI p.vars a) e:Nat):Int) != 0)=false by rw[n0];rfl) ?_;exact⟨AL,hx⟩
end
def SC (p:Pr)(l:List (List Int)):List Ss:=l.map fun a=>⟨Cov.nm (GI p.vars a),GI p.vars a⟩
theorem A7A:Frz aM:=fun _ _ _ _=>⟨rfl,rfl⟩
theorem BBD (h:Hp)(x:Ss):DF jA false h 73 1 [(0,.sl x.m 2 (x.l.map FU))]=some (.sl .full 1 [aM x],h):=by
 have h3:X0 1 0 [(0,AV.sl x.m 2 (x.l.map FU))]=some [aM x]:=rfl;unfold DF;simp only[A5N,A5E,show szO jA 137=some 1 by kernel_rfl,h3];rfl
section
variable (G:Nat->AV)
theorem AED (p:Pr)(hs:PrS p)(l:List (List Int))(v:AV)(mo:List Int->SM)(hl:∀a∈l,a.length=p.vars.length)(hn:l.length<=1048576)(h:Hp)(hlv:JU jA 25 v=some (.n l.length))
  (hv:∀(i:Nat) (hi:i<l.length) (H:Hp),Sm.ext h H->∃u,IM 1 H v (.n (i:Nat))=some u/\BI jA H 32 u=some (.sl (mo l[i]) 1 (l[i].map Bins.qencI))) :
  PCall (En G) 32 [.agg (CY p),v] h (.sl (Cov.nm (SC p l)) 1 ((SC p l).map aM)):=by
 have hel:(SC p l).length=l.length:=by unfold SC;rw[jP]
 refine J3 A7A ?_;refine IP (H:=hint [21] []) (enM G) Tryz.func32 rfl (by kernel_rfl) (by kernel_rfl) (jB (by kernel_rfl)) ?_;show awp _ _ _ _ _ (L6 _ [.tmp 4] _);have ge:=AX h (yE 5 [CY p]);have hx:=Sm.ext.r1 h (yE 5 [CY p]);refine A7 @QE ?_
 generalize h++[yE 5 [CY p]]=H0 at ge hx|-
 generalize hpb:h.length=pb at ge|-
 refine BK (fun n F H=>∃i u,n+i=l.length/\F 1=v/\F 2=.ptr pb 0 0/\F 5=u/\F 6=.n (i:Nat)/\Sm.ext H0 H/\outG 1 aM H0 ((SC p l).take i) u H) l.length
  ⟨0,.sl .nil 0 [],BA,AQ,AQ,AQ,AQ,ext.rfl' _,outG.nil _ _ _ _⟩ ?_
 rintro n F H ⟨i,u,hi,f1,f2,f5,f6,hxH,ho⟩;refine DW f1 f6 hlv ?_;refine D9 ?_ ?_<;>intro hi'
 .have hie:i<(SC p l).length:=U
  have hat:(SC p l)[i]=⟨Cov.nm (GI p.vars l[i]),GI p.vars l[i]⟩:=by simp [SC]
  obtain⟨v',H',ha,ho',_,hx',_,_⟩:=ho.append (P:=jA) A5N AZ A5E BBA U (by rw[jZ];omega) hxH ⟨Cov.nm (GI p.vars l[i]),GI p.vars l[i]⟩;rw[<-hat,<-jU hie] at ho';obtain⟨w,hw,lr⟩:=hv i hi' H (hx.trans hxH)
  try refine AB ?_
  refine D6 AZ ?_;refine NJ f1 f2 f5 f6 (RX (DI hxH ge)) hw lr ?_;refine⟨_,AF5 G p hs l[i] _ (hl _ (jG hi')) H,?_⟩;refine JI f5 f6 (BBD H ⟨Cov.nm (GI p.vars l[i]),GI p.vars l[i]⟩) ha (DC i) ?_;exact⟨n-1,U,i+1,v',U,AL,AL,AL,AL,hx',ho'⟩
 .rw[jJ U] at ho
  refine A7 f5 ?_;refine⟨hx.trans hxH,?_⟩;rcases ho with⟨a,b⟩|⟨a,o,b,c,d⟩
  .exact .inl ⟨a,b⟩
  .exact .inr ⟨a,o,qJ hx.le b,c,d⟩
def uF (a:List Int):List AV:=[.sl (Cov.nm a) 1 (a.map Bins.qencI)]
theorem ATN (p:Pr)(hs:PrS p)(l:List (List Int))(v:AV)(hl:∀a∈l,a.length=p.vars.length)(hn:l.length<=1048576){h0 h:Hp}(ho:outG 1 uF h0 l v h):
  PCall (En G) 32 [.agg (CY p),v] h (.sl (Cov.nm (SC p l)) 1 ((SC p l).map aM)):=by
 rcases ho with⟨rfl,rfl⟩|⟨hne,o,o1,rfl,o3⟩
 .exact AED G p hs [] _ Cov.nm hl hn h (by rw[AHA.1];rfl) fun i hi=>by simp at hi
 .exact AED G p hs l _ Cov.nm hl hn h (by rw[AHA.2]) fun i hi H hx=>⟨_,GM (DI hx o3) hi,by
  rw[jH,BC NF (DI hx o3) (row:=uF l[i]) (by rw[jW,jI hi];rfl)];rfl⟩
theorem ACF (hG:GOk G)(p:Pr)(hs:PrS p)(hb:Sm51 p)(hv:IX p=0)(a:List Int)(m:SM)(ok:AOk p a)(h:Hp):
  PCall (En G) 30 [.agg (CY p),.sl m 1 (a.map Bins.qencI)] h (.bool (TE p (JA p) a)):=by
 have hk:∀e∈JA p,xpE p.vars e=0:=fun e he=>ABY hv (S:=[]) BA e (BM he)
 have hlen:(JA p).length=p.hard.length+p.dists.length:=by unfold JA;rw[jX,mB]
 have hb1:=hb.hard;have hb2:=hb.dists;refine ACalls.pure0 rfl ?_;refine acT Tryz.func30 4 ?_;have ge:=AX h (yE 5 [CY p]);have hx:=Sm.ext.r1 h (yE 5 [CY p]);refine BB @bU @QE ?_
 generalize h++[yE 5 [CY p]]=H0 at ge hx|-
 generalize hpb:h.length=pb at ge|-
 have lh:BI jA H0 23 (.ptr pb 0 1)=some (.sl p.hm 4 (p.hard.map A8)):=by rw[BC LM ge (row:=CY p) rfl];rfl
 obtain⟨v1,H1,ha1,ho1,hx1,_⟩:=Ho.outK_app (h:=H0) (H:=H0) (xs:=[]) (v:=.sl .nil 0 []) p.hm (.inl ⟨rfl,rfl⟩) (ext.rfl' _) (ys:=p.hard) LD;rw[qH] at ho1;refine DW lh ha1 (RX (DI hx1 ge)) ?_;refine(eU G hG p hs hv H1).use ?_;obtain⟨v2,H2,ha2,ho2,hx2,_⟩:=Ho.outK_app (h:=H0) (H:=H1) (xs:=p.hard) (v:=v1) .any ho1 hx1 (ys:=WC p) (by rw[mB];omega);rw[show p.hard++WC p=JA p from rfl] at ho2;refine A7 ha2 ?_;have gp:=DI hx2 ge
 refine BK (fun n F H=>∃i,n+i=(JA p).length/\F 1=.sl m 1 (a.map Bins.qencI)/\F 2=.ptr pb 0 0/\F 5=v2/\F 6=.n (i:Nat)/\H=H2/\((JA p).take i).all (fun e => !(FV (GI p.vars a) e==0))=true) (JA p).length
  ⟨0,BA,AQ,AQ,AQ,AQ,rfl,rfl⟩ ?_
 rintro n F H ⟨i,hi,f1,f2,f5,f6,rfl,hall⟩;rcases ho2 with⟨rfl,hz⟩|⟨o,o1,rfl,o3⟩
 .have z0:(JA p).length=0:=by rw[hz];rfl
  have zi:i=0:=U;subst zi;refine DW f5 f6 (show decide (((0:Nat):Int)<((([]:List (List AV)).length:Nat):Int))=false from rfl) ?_;exact⟨by unfold TE;rw[hz];first|exact True.intro|rfl,hx.trans hx2⟩
 .refine BB f5 f6 ?_
  refine D9 ?_ ?_<;>intro hi'
  .have lr:BI jA H 79 (.ptr o i 0)=some (.agg (A8 (JA p)[i])):=by
    rw[ED O6 JE o3 (row:=A8 (JA p)[i]) (by rw[jW,jI hi'];rfl) (by rw[EG];omega)];rw[zU,jJ (by rw[EG];exact jF _)]
   have hts:((JA p).take (i+1)).all (fun e => !(FV (GI p.vars a) e==0)) = !(FV (GI p.vars a) (JA p)[i]==0):=by
    rw[jU hi',List.all_append,hall];simp
   try refine AB ?_
   refine D6 AZ ?_;simp only[vQ,AVX,O9,NW,rB,↓reduceIte,jC,jT,enP,PZ,f1,f2,f5,f6,RX gp,GM o3 hi',lr];refine⟨_,AVK G hG p hs hv a m ok (JA p)[i] (hk _ (jG hi')) H,?_⟩;cases c:(FV (GI p.vars a) (JA p)[i]==0)
   .rw[c] at hts
    refine BB f6 (DC i) ?_;exact⟨n-1,U,i+1,U,AL,AL,AL,AL,AL,hts⟩
   .have hs0:TE p (JA p) a=false:=by
     unfold TE;rw[List.all_eq_false];exact⟨_,jG hi',by rw[c];simp⟩
    refine AB ?_;exact⟨by rw[hs0],hx.trans hx2⟩
  .rw[jJ U] at hall
   refine AB ?_;exact⟨by unfold TE;rw[hall],hx.trans hx2⟩
end
theorem AD6:∀(l:List Sg) (n:ByteArray),(LJ l n).2=false->(LJ l n).1=0
 | [],_,_=>rfl
 | s::l,n,h=>by
   unfold LJ at h|-
   split
   .rename_i q;rw[if_pos q] at h;cases h
   .rename_i q;rw[if_neg q] at h;exact AD6 l n h
theorem lD (l:List Sg)(a:ByteArray)(k:Nat):FV l (vaE a k)=(LJ l (elN a k)).1:=by
 unfold vaE JK;rw[JY];rfl
theorem AIE (l:List Sg)(k:Nat)(hk:k<65536):FV l (cE (k:Int))=k:=by
 rw[JY];show((k:Nat):Int).toNat%65536=k;rw[qB,Nat.mod_eq_of_lt hk]
theorem hU (l:List Sg)(a:ByteArray)(hk:k<8):atG l a (k:Nat)=LJ l (elN a k):=by
 unfold atG;rw[if_neg U,qB]
theorem at_out (l:List Sg)(a:ByteArray)(hk:8<=k):(atG l a (k:Nat)).1=0:=by
 unfold atG;rw[if_pos U]
theorem AA8 (l:List Sg)(a:ByteArray):∀k,k<8->FV l (WE a k)=sumTo l a (k+1)
 | 0,_=>by
   show FV l (vaE a 0)=_;rw[lD];unfold sumTo sumTo;rw[hU l a U,jH,Nat.mod_eq_of_lt (dZ _ _)]
 | k+1,h=>by
   have ih:=AA8 l a k U
   have e:FV l (WE a (k+1))=(FV l (WE a k)+FV l (vaE a (k+1)))%65536:=by
    show FV l (.mk 7 0 ⟨#[]⟩ .full [WE a k,vaE a (k+1)])=_;rw[JY];rfl
   rw[e,ih,lD]
   conv=>rhs;unfold sumTo
   rw[hU l a h]
theorem AJI (l:List Sg)(a:ByteArray){z:Nat}:∀d,(∀k,z<=k->(atG l a (k:Nat)).1=0)->sumTo l a (z+d)=sumTo l a z
 | 0,_=>rfl
 | d+1,h=>by
   have ih:=AJI l a d h;show(sumTo l a (z+d)+(atG l a ((z+d:Nat):Int)).1)%65536=_;rw[ih,h (z+d) U,Nat.add_zero,Nat.mod_eq_of_lt (mC l a z)]
theorem ALR (l:List Sg)(c:Ex->Ex)(a:ByteArray)(i:Ex)(hc:FV l (c i)=FV l i)(n:Nat)(hn:n<=8):∀j,j<=n->FV l (chK c a i n j)=if n-j<=FV l i/\FV l i<n then (LJ l (elN a (FV l i))).1 else 0
 | 0,_=>by
   rw[if_neg U];exact AIE l 0 U
 | j+1,hj=>by
   have ih:=ALR l c a i hc n hn j U
   have e:FV l (chK c a i n (j+1))=if tr (FV l (c i)==FV l (cE ((n-1-j:Nat):Int)))≠0 then FV l (vaE a (n-1-j)) else FV l (chK c a i n j):=by
    show FV l (.mk 22 0 ⟨#[]⟩ .full [.mk 15 0 ⟨#[]⟩ .full [c i,cE ((n-1-j:Nat):Int)],vaE a (n-1-j),chK c a i n j])=_;rw[JY];show opW 22 [FV l (.mk 15 0 ⟨#[]⟩ .full [c i,cE ((n-1-j:Nat):Int)]),FV l (vaE a (n-1-j)),FV l (chK c a i n j)]=_;rw[show FV l (.mk 15 0 ⟨#[]⟩ .full [c i,cE ((n-1-j:Nat):Int)])=tr (FV l (c i)==FV l (cE ((n-1-j:Nat):Int))) by rw[JY];rfl];rfl
   rw[e,hc,AIE l _ U,ih,lD];by_cases q:FV l i=n-1-j
   .rw[q,if_pos (by simp [tr]),if_pos U]
   .rw[if_neg (by simp [tr,q])]
    by_cases w:n-j<=FV l i/\FV l i<n
    .rw[if_pos w,if_pos U]
    .rw[if_neg w,if_neg U]
theorem A29 (hv:IX p=0){a:ByteArray}(hk:k+1<8)(h:0<=plc p.vars (elN a (k+1))):0<=plc p.vars (elN a k):=by
 have hvs:KO p.vars=0:=by
  unfold IX at hv;by_cases q:KO p.vars=0
  .exact q
  .rw[if_pos q] at hv;exact absurd hv q
 have hg:(p.vars.any fun v=>PP p.vars v.name)=false:=by
  unfold KO at hvs;by_cases a1:p.vars.length>16
  .simp_all
  rw[if_neg a1] at hvs;by_cases a2:Bd.fstE vrE p.vars≠0
  .simp_all
  rw[if_neg a2] at hvs;cases a3:yV p.vars
  .grind
  .simp_all
 have P:=PV.of hv;obtain⟨j,hj,_,h1,_⟩:=VJ (NE (elN a (k+1))) p.vars (by unfold plc at h;exact h);have hn:=str_eq h1;obtain⟨v1,_⟩:=PQ (P.vr _ (jG hj));have hgj:PP p.vars p.vars[j].name=false:=by grind
 rw[hn] at v1 hgj
 have hnn:E8 (elN a (k+1))=false:=by
  cases hq:E8 (elN a (k+1))
  .rfl
  .have e:elN a (k+1)=⟨(elN a (k+1)).data.toList.toArray⟩:=BA
   rw[e] at hq;have:=(QV hq).2 91 (by rw[NU];simp);exact absurd rfl this
 unfold FX at v1;rw[hnn,zO] at v1
 cases hc:JQ (elN a (k+1)) with
 | none=>rw[hc] at v1;cases v1
 | some ad =>
   obtain⟨b,d⟩:=ad;obtain⟨c1,c2,c3,c4,c5⟩:=MN hc;have hl:=congrArg (fun s:ByteArray=>s.data.toList) c4;simp only[NU] at hl
   have hal:a.data.toList=b:=by
    have:=List.append_inj' hl rfl;simpa using this.1
   have hae:(⟨b.toArray⟩:ByteArray)=a:=by rw[<-hal]
   rw[hae] at c4;have hd:k+1=d.toNat-48:=yS hk c2 c4;unfold PP at hgj;rw[hc] at hgj;simp only[hae,<-hd] at hgj;have hz:k+1-1=k:=U;rw[hz] at hgj;simpa using hgj
theorem vN (vs:List Vr)(a:ByteArray):∀f n,szF vs a f n<n+f->plc vs (elN a (szF vs a f n))<0
 | 0,n,h=>by unfold szF at h;omega
 | f+1,n,h=>by
   obtain⟨s1,s2⟩:=@lY vs a f n;by_cases q:plc vs (elN a n)<0
   .rw[s1 q];exact q
   .rw[s2 q] at h|-;exact vN vs a f (n+1) U
theorem AJG {p:Pr}(hv:IX p=0)(a:ByteArray):∀k,k<8->szA p.vars a<=k->plc p.vars (elN a k)<0
 | 0,h,hz=>by
   have h0:szA p.vars a=0:=U;have:=vN p.vars a 8 0 (by unfold szA at h0;omega);unfold szA at h0;rw[h0] at this;exact this
 | k+1,h,hz=>by
   by_cases q:szA p.vars a=k+1
   .have:=vN p.vars a 8 0 (by unfold szA at q;omega)
    unfold szA at q;rw[q] at this;exact this
   .have ih:=AJG hv a k U U
    apply Classical.byContradiction;intro w;have:=A29 (a:=a) hv h U;omega
theorem A4G (hl:a.length=p.vars.length){n:ByteArray}(h:plc p.vars n<0):(LJ (GI p.vars a) n).1=0:=by
 refine AD6 _ _ ?_;rw[VM p.vars a hl n];simp;omega
theorem AAD (hv:IX p=0)(hl:a.length=p.vars.length)(s:ByteArray)(k:Nat)(hk:szA p.vars s<=k):(atG (GI p.vars a) s (k:Nat)).1=0:=by
 by_cases q:k<8
 .rw[hU _ _ q]
  exact A4G hl (AJG hv s k q hk)
 .exact at_out _ _ U
theorem AZS {c:Ex->Ex}{s:ByteArray}{i:Ex}{n j:Nat}(h:(chK c s i n j).op=1):(chK c s i n j).n=0:=by
 cases j with
 | zero=>rfl
 | succ j=>exact absurd (show(22:Int)=1 from h) DT
theorem AWI {vs:List Vr}{e:Ex}(hn:NdOk e)(h:(GZ sdP vs e).op=1):0<=(GZ sdP vs e).n/\(GZ sdP vs e).n<=65535:=by
 have hz:∀x:Ex,x.n=0->0<=x.n/\x.n<=65535:=fun x q=>by rw[q];decide
 rw[WF] at h|-
 unfold scF at h|-
 by_cases o24:e.op=24
 .rw[if_pos o24] at h
  exfalso
  cases hk:szA vs e.name-1 with
  | zero=>rw[hk] at h;exact absurd (show(2:Int)=1 from h) DT
  | succ k=>rw[hk] at h;exact absurd (show(7:Int)=1 from h) DT
 rw[if_neg o24] at h|-
 by_cases o3:e.op=3
 .rw[if_pos o3] at h|-
  generalize (e.args.map (GZ sdP vs)).head?.getD (cE 0)=y at h|-
  unfold Z9 at h|-
  by_cases s1:y.op=1
  .rw[if_pos s1] at h|-
   by_cases q:y.n<(szA vs e.name:Int)
   .rw[if_pos q] at h;exact absurd (show(2:Int)=1 from h) DT
   .rw[if_neg q];exact hz _ rfl
  .rw[if_neg s1] at h|-
   exact hz _ (AZS h)
 .rw[if_neg o3] at h|-
  have h:e.op=1:=h;exact(ARO (e:=e) hn.self h:0<=e.n/\e.n<=65535)
theorem AZH (l:List Sg)(e:Ex):FV l (sdP.c e)=FV l e:=AV5 l e
theorem AWH (hv:IX p=0)(hl:a.length=p.vars.length)(e:Ex):NdOk e->OV p.vars e=false->FV (GI p.vars a) (GZ sdP p.vars e)=FV (GI p.vars a) e:=by
 induction e using Ex.induct with|h e ih=>?_
 intro hn hu;rw[UN] at hu;simp only[wB] at hu;obtain⟨hu0,hua⟩:=hu
 have ih':∀x∈e.args,FV (GI p.vars a) (GZ sdP p.vars x)=FV (GI p.vars a) x:=fun x hx=>ih x hx (hn.arg hx) (by
  have:=qO.1 hua x hx
  simpa using this)
 have hz8:=lZ p.vars e.name;rw[WF];unfold scF
 have hunk:e.op=3\/e.op=24->0<szA p.vars e.name:=by
  intro ho;apply Classical.byContradiction;intro q;have hz:szA p.vars e.name=0:=U;unfold QG at hu0;rw[hz] at hu0;rcases ho with o|o<;>rw[o] at hu0<;>simp at hu0
 by_cases o24:e.op=24
 .rw[if_pos o24,AA8 _ _ _ (by have:=hunk (.inr o24);omega),JY]
  have hz:=hunk (.inr o24);have hs:szA p.vars e.name-1+1=szA p.vars e.name:=U;rw[hs];have e8:8=szA p.vars e.name+(8-szA p.vars e.name):=U;have ho:=AJI (GI p.vars a) e.name (z:=szA p.vars e.name) (8-szA p.vars e.name) (fun k hk=>AAD hv hl _ k hk);rw[<-e8] at ho;unfold XF;rw[if_neg (by rw[o24];decide),if_neg (by rw[o24];decide),if_neg (by rw[o24];decide),if_pos o24,ho]
 rw[if_neg o24];by_cases o3:e.op=3
 .rw[if_pos o3]
  have hargs:=(Xe.node_ops hn.self).2.1 o3
  obtain⟨i,hi⟩:∃i,e.args=[i]:=by
   cases hq:e.args with
   | nil=>rw[hq] at hargs;cases hargs
   | cons x t=>cases t with
     | nil=>exact⟨x,rfl⟩
     | cons y z=>rw[hq] at hargs;simp at hargs
  have hii:=ih' i (by rw[hi];simp)
  have hval:FV (GI p.vars a) e=(atG (GI p.vars a) e.name (FV (GI p.vars a) i:Nat)).1:=by
   rw[JY];unfold XF;rw[if_neg (by rw[o3];decide),if_neg (by rw[o3];decide),if_pos o3,JJ,hi];rfl
  rw[hval,hi];show FV (GI p.vars a) (Z9 sdP.c e.name (GZ sdP p.vars i) (szA p.vars e.name))=_;rw[<-hii];have h1:=@AWI p.vars i (hn.arg (by rw[hi];simp))
  generalize GZ sdP p.vars i=s at h1|-
  unfold Z9;by_cases s1:s.op=1
  .rw[if_pos s1]
   have hsv:FV (GI p.vars a) s=s.n.toNat%65536:=by
    rw[JY];unfold XF;rw[if_pos s1]
   by_cases q:s.n<(szA p.vars e.name:Int)
   .rw[if_pos q,lD,hsv]
    have hk:s.n.toNat<8:=by have:=hunk (.inl o3);omega
    rw[Nat.mod_eq_of_lt U,hU _ _ hk]
   .rw[if_neg q,show cE 0=cE ((0:Nat):Int) from rfl,AIE _ 0 U,hsv]
    obtain⟨n0,n1⟩:=h1 s1;rw[Nat.mod_eq_of_lt U];exact(AAD hv hl _ _ U).symm
  .rw[if_neg s1,ALR _ _ _ _ (AZH _ s) _ hz8 _ (jF _)]
   by_cases q:FV (GI p.vars a) s<szA p.vars e.name
   .rw[if_pos ⟨U,q⟩,hU _ _ U]
   .rw[if_neg (fun w=>q w.2),AAD hv hl _ _ U]
 rw[if_neg o3];rw[JY,JY _ e];show XF _ e.op e.n e.name (LU _ (e.args.map (GZ sdP p.vars)))=_
 have:LU (GI p.vars a) (e.args.map (GZ sdP p.vars))=LU (GI p.vars a) e.args:=by
  rw[JJ,JJ,qQ];exact wQ fun x hx=>ih' x hx
 rw[this]
theorem wN {p:Pr}:∀(k:Nat) (a:List Int),k<=p.vars.length->AOk p a->nxK p.vars k a=none->rkP p.vars a k+1=kK p.vars k
 | 0,_,_,_,_=>rfl
 | k+1,a,hk,h,hn=>by
   have hk':k<p.vars.length:=U;have hak:k<a.length:=by rw[h.len];exact hk'
   unfold nxK at hn;simp only[jI hk'] at hn;simp only[rkP,kK,jI hk'];by_cases hm:p.vars[k].mode=0
   .rw[if_pos hm] at hn|-
    rw[if_pos hm];exact wN k a U h hn
   .rw[if_neg hm] at hn|-
    rw[if_neg hm];obtain⟨q0,q1⟩:=h.rn k hk' hm;by_cases hz:a.getD k 0+1<2^p.vars[k].width.toNat
    .rw[if_pos hz] at hn;cases hn
    .rw[if_neg hz] at hn
     have hp:(0:Int)<2^p.vars[k].width.toNat:=Int.pow_pos DT
     have ho:AOk p (a.set k 0):=by
      refine⟨by rw[qY];exact h.len,fun i hi hmi=>?_,fun i hi hmi=>?_⟩
      .by_cases e:i=k
       .subst e;exact absurd hmi hm
       .rw[Bl.getD_set_ne (fun q=>e q.symm)];exact h.st i hi hmi
      .by_cases e:i=k
       .simp_all
       .rw[Bl.getD_set_ne (fun q=>e q.symm)];exact h.rn i hi hmi
     have ih:=wN k (a.set k 0) U ho hn;rw[lF _ _ _ _ _ (jF k)] at ih;have e:(((2:Nat)^p.vars[k].width.toNat:Nat):Int)=2^p.vars[k].width.toNat:=by rw[Int.natCast_pow];rfl
     have:(a.getD k 0).toNat+1=2^p.vars[k].width.toNat:=U;rw[<-ih,Nat.add_mul];omega
theorem vW {p:Pr}{a b:List Int}(ha:AOk p a)(hb:AOk p b):∀k,k<=p.vars.length->rkP p.vars a k=rkP p.vars b k->∀i,i<k->a.getD i 0=b.getD i 0
 | 0,_,_,i,h=>U
 | k+1,hk,e,i,hi=>by
   have hk':k<p.vars.length:=U;simp only[rkP,jI hk'] at e;by_cases hm:p.vars[k].mode=0
   .rw[if_pos hm,if_pos hm] at e
    by_cases q:i=k
    .subst q;rw[ha.st i hk' hm,hb.st i hk' hm]
    .exact vW ha hb k U e i U
   .rw[if_neg hm,if_neg hm] at e
    obtain⟨a0,a1⟩:=ha.rn k hk' hm;obtain⟨b0,b1⟩:=hb.rn k hk' hm;have ew:(((2:Nat)^p.vars[k].width.toNat:Nat):Int)=2^p.vars[k].width.toNat:=by rw[Int.natCast_pow];rfl
    have la:(a.getD k 0).toNat<2^p.vars[k].width.toNat:=U;have lb:(b.getD k 0).toNat<2^p.vars[k].width.toNat:=U;generalize 2^p.vars[k].width.toNat=W at e la lb
    have hmod:(a.getD k 0).toNat=(b.getD k 0).toNat:=by
     have:=congrArg (· % W) e;simp only[Nat.mul_add_mod'] at this
     rwa [Nat.mod_eq_of_lt la,Nat.mod_eq_of_lt lb] at this
    have hrk:rkP p.vars a k=rkP p.vars b k:=by
     have h2:rkP p.vars a k*W=rkP p.vars b k*W:=U;exact Nat.eq_of_mul_eq_mul_right U h2
    by_cases q:i=k
    .subst q;omega
    .exact vW ha hb k U hrk i U
theorem A5C {b:List Int}(ha:AOk p a)(hb:AOk p b)(e:rkP p.vars a p.vars.length=rkP p.vars b p.vars.length):a=b:=by
 have h:=vW ha hb _ (jF _) e;refine List.ext_getElem (by rw[ha.len,hb.len]) fun i h1 h2=>?_
 have:=h i (by have:=ha.len;omega)
 rwa [zI,zI,jI h1,jI h2] at this
theorem sR {p:Pr}{l:List Ex}:∀(n:Nat) (a b:List Int),AOk p a->AOk p b->lft p a<=n->rkP p.vars a p.vars.length<=rkP p.vars b p.vars.length->kL p l n a=none->TE p l b=false
 | 0,a,b,ha,_,h1,_,_=>by have:=AKL ha;omega
 | n+1,a,b,ha,hb,h1,h2,h=>by
   unfold kL at h;by_cases q:TE p l a=true
   .rw[if_pos q] at h;cases h
   rw[if_neg q] at h;by_cases e:rkP p.vars a p.vars.length=rkP p.vars b p.vars.length
   .rw[<-A5C ha hb e];simpa using q
   cases hn:nxK p.vars p.vars.length a with
   | none =>
     have h3:=wN _ a (jF _) ha hn;have h4:=vV hb _ (jF _);omega
   | some c =>
     rw[hn] at h;obtain⟨hc,hl⟩:=nL ha hn;have hs:=dH p.vars.length a (jF _) ha;rw[hn] at hs;exact sR n c b hc hb U (by have:=hs.2.1;omega) h
theorem AJV {p:Pr}(P:PV p):∀k,k<=p.vars.length->rkP p.vars (YN p) k=0
 | 0,_=>rfl
 | k+1,hk=>by
   have hk':k<p.vars.length:=U;simp only[rkP,jI hk'];rw[AJV P k U];by_cases hm:p.vars[k].mode=0
   .rw[if_pos hm]
   .rw[if_neg hm]
    obtain⟨_,_,_,_,_,_,_,v⟩:=PQ (P.vr _ (jG hk'))
    have:(YN p).getD k 0=0:=by
     unfold YN;rw[zI,jW,jI hk'];exact v hm
    rw[this];simp
theorem AHC (P:PV p){l:List Ex}(h:TJ p l=none){b:List Int}(hb:AOk p b):TE p l b=false :=
 sR _ _ b (AK0 P) hb (jF _) (by rw[AJV P _ (jF _)];exact Nat.zero_le _) h
theorem AW7 (hv:IX p=0)(hl:a.length=p.vars.length)(he:exE e=0)(hu:OV p.vars e=false):okX (GI p.vars a) e = !(FV (GI p.vars a) (GZ sdP p.vars e)==0):=by
 have hk:(pre e).all (knE (GI p.vars a))=true:=by
  rw[zL];intro x hx;unfold OV at hu;have h1:=qO.1 hu x hx;unfold QG at h1;simp only[Bool.or_eq_true,Bool.and_eq_true,beq_iff_eq,decide_eq_true_eq,not_or,not_and] at h1;obtain⟨h2,h3⟩:=h1;unfold knE;by_cases o2:x.op=2
  .rw[if_pos o2,VM p.vars a hl,decide_eq_true_eq]
   have:=h2 o2;omega
  .rw[if_neg o2]
   by_cases o3:x.op=3\/x.op=24
   .rw[if_pos o3]
    have:=h3 o3;have hz:0<szA p.vars x.name:=U;have hp:=vO hz;have:=hU (GI p.vars a) x.name (k:=0) U;rw[show((0:Nat):Int)=0 from rfl] at this;rw[this,VM p.vars a hl,decide_eq_true_eq];exact hp
   .rw[if_neg o3]
 unfold okX evE;rw[if_neg (by rw[he];simp),if_pos hk,AWH hv hl e (NdOk.of he) hu,BAK]
theorem AWL (h:scC vs e=0):OV vs e=false:=by
 unfold scC at h;cases q:OV vs e
 .rfl
 .rw[if_pos q] at h;cases h
theorem A4D (e:Ex):exE e≠11:=by
 have hn:∀x:Ex,HY x≠11:=fun x h=>by
  unfold HY at h;by_cases a:Cov.badO x=true
  .rw[if_pos a] at h;cases h
  rw[if_neg a] at h;by_cases b:cD x=true
  .rw[if_pos b] at h;cases h
  rw[if_neg b] at h;by_cases c:VT x=true
  .rw[if_pos c] at h;cases h
  rw[if_neg c] at h;by_cases d:VS x=true
  .rw[if_pos d] at h;cases h
  rw[if_neg d] at h;cases h
 have he:∀(xs:List Ex) (z:Int),z≠11->xs.foldl (fun z e=>if z=0 then HY e else z) z≠11:=by
  intro xs
  induction xs with
  | nil=>intro z hz;exact hz
  | cons x xs ih =>
    intro z hz;rw[List.foldl_cons];refine ih _ ?_;split
    .exact hn x
    .exact hz
 unfold exE;split
 .decide
 .exact he _ 0 DT
theorem sZ (h:OA sdP EE p m x=0\/OA sdP EE p m x=11):IX p=0/\NQ m x=true/\cnE EE m x=0/\SK p.vars (cnL EE m x)=0/\(OA sdP EE p m x=0↔(vX sdP EE p m x).isSome=true):=by
 have h1:IX p=0:=Classical.byContradiction fun q=>by rw[AB3 (.inl q)] at h;rcases h with h|h<;>cases h
 have h2:NQ m x=true:=by
  cases q:NQ m x
  .rw[AB3 (.inr q)] at h;rcases h with h|h<;>cases h
  .rfl
 have hcn:cnE EE m x=0\/cnE EE m x=2:=by
  unfold cnE;rw[if_pos h2];split
  .exact .inl rfl
  .exact .inr rfl
 have h3:cnE EE m x=0:=by
  rcases hcn with q|q
  .exact q
  .rw[A06 h1 h2 (by rw[q];decide),q] at h;rcases h with h|h<;>cases h
 have h4:SK p.vars (cnL EE m x)=0:=Classical.byContradiction fun q=>by
  rw[A05 h1 h2 h3 q] at h;rcases h with h|h
  .exact q h
  .have hb:∀(l:List Ex),Bd.fstE (scC p.vars) l≠11:=by
    intro l
    induction l with
    | nil=>exact(by decide:(0:Int)≠11)
    | cons y l ih =>
      unfold Bd.fstE;split
      .unfold scC
       split
       .decide
       split
       .decide
       .exact A4D _
      .exact ih
   exact hb _ h
 refine⟨h1,h2,h3,h4,?_⟩;rw[A04 h1 h2 h3 h4];split
 .simp_all
 .simp_all
theorem A2W (hv:IX p=0)(hl:a.length=p.vars.length){r:List Ex}(h:∀e∈r,exE e=0/\scC p.vars e=0):(∀e∈r,okX (GI p.vars a) e=true)↔TE p (r.map (GZ sdP p.vars)) a=true:=by
 unfold TE;rw[List.all_map,zL];have:∀e∈r,okX (GI p.vars a) e = !(FV (GI p.vars a) (GZ sdP p.vars e)==0):=fun e he=>AW7 hv hl (h e he).1 (AWL (h e he).2)
 exact⟨fun q e he=>(this e he).symm.trans (q e he),fun q e he=>(this e he).trans (q e he)⟩
theorem rows_ok (hv:NQ m x=true)(hc:cnE EE m x=0)(hs:SK p.vars (cnL EE m x)=0):∀r∈cnL EE m x,∀e∈r,exE e=0/\scC p.vars e=0:=fun r hr e he =>
 ⟨A1V hv hc r hr e he,Bd.fstE_zero hs e (List.mem_flatten.2 ⟨r,hr,he⟩)⟩
theorem ACT {α β:Type}{f:α->Option β}:∀ {xs:List α},XK f xs=none->∃x∈xs,f x=none
 | [],h=>by cases h
 | x::xs,h=>by
   unfold XK at h
   cases hx:f x with
   | none=>exact⟨x,BA,hx⟩
   | some y =>
     rw[hx] at h
     cases hr:XK f xs with
     | none=>obtain⟨z,hz,e⟩:=ACT hr;exact⟨z,by simp [hz],e⟩
     | some ys=>rw[hr] at h;cases h
theorem AGP {l:List (List Sg)}(R:RunOk m l)(k:Nat)(hk:k<=l.length):RunOk m (l.take k):=by
 have hst:∀j,j<=k->stK m (l.take k) j=stK m l j:=fun j hj=>by unfold stK;rw[List.take_take,Nat.min_eq_left hj]
 have her:∀(j:Nat) (hj:j<(l.take k).length),XH m (stK m (l.take k) j) (l.take k)[j]=0:=fun j hj=>by
  have hj':j<k:=by rw[jZ] at hj;omega
  rw[hst j U,List.getElem_take];exact R.er j U
 have hz:∀(r:List (List Sg)) (s:St),(∀(j:Nat) (hj:j<r.length),XH m ((r.take j).foldl (stp m) s) r[j]=0)->(RU m s r).1=0:=by
  intro r
  induction r with
  | nil=>intro s _;rfl
  | cons e r ih =>
    intro s h;have h0:=h 0 BA;have h0':XH m s e=0:=h0;unfold RU;rw[if_neg (fun q=>q h0')];refine ih (stp m s e) fun j hj=>?_
    have:=h (j+1) LD;simpa using this
 have h0:=hz (l.take k) (zS m) her;exact⟨R.me,(mL m _ _ h0).1.trans (by unfold stK;rw[List.take_length]),h0,her⟩
theorem ANP (h:OA sdP EE p m x=11){L:List (List Int)}(hL:∀a∈L,AOk p a/\TE p (JA p) a=true)(hr:U5 m (L.map (GI p.vars))=0):¬0<VR m x (XI m (L.map (GI p.vars))):=by
 intro hp;obtain⟨h1,h2,h3,h4,h5⟩:=sZ (.inr h);have R:=AQ1 hr;generalize hl:L.map (GI p.vars)=l at R hp;have hll:l.length=L.length:=by rw[<-hl,jP]
 rw[R.val] at hp
 have first:∀k,k<=l.length->0<VR m x (cvS (stK m l k))->∃j,j<k/\∀q∈OB m x,q.2∈((rsK m l j).map PtR.hit).getD q.1 []:=by
  intro k
  induction k with
  | zero =>
    intro _ q;exfalso;rw[AQM] at q;have hb:=A5H m
    have hc:∀(X:List (List Int)) (i j:Nat),(∀xs∈X,∀y∈xs,y<=((0:Nat):Int))->ALT X i j<=0:=by
     intro X i j hX;unfold ALT;split
     .rename_i y hy
      split
      .rename_i z hz
       exact hX y (zZ hy) z (zZ hz)
      .exact wV 0
     .exact wV 0
    have e1:∀X:List (List Int),(O5 X).map (·.l)=X:=fun X=>by unfold O5;rw[qQ];exact(wQ fun _ _=>rfl).trans (List.map_id X)
    have hP:=hc (zS m).P (x.idx.toNat) (x.bins.headD 0).toNat hb.P;unfold VR at q;split at q
    .split at q
     .rename_i r _
      have hC:=hc (zS m).C (x.idx.toNat) (ixV (szs m r.pts) x.bins).toNat hb.C;rw[AE2] at q;rw[show(cvS (zS m)).crs.map (·.l)=(zS m).C from e1 _] at q;omega
     .exact absurd q DT
    .rw[AE2] at q
     rw[show(cvS (zS m)).pts.map (·.l)=(zS m).P from e1 _] at q;omega
  | succ k ih =>
    intro hk q;rcases (AMJ R h2 U).1 q with q|q
    .obtain⟨j,hj,w⟩:=ih U q
     exact⟨j,U,w⟩
    .exact⟨k,U,q⟩
 obtain⟨k,hk,hq⟩:=first l.length (jF _) hp
 have R':=AGP R (k+1) U
 have hrs:rsK m (l.take (k+1)) k=rsK m l k:=by
  unfold rsK;have:stK m (l.take (k+1)) k=stK m l k:=by unfold stK;rw[List.take_take,Nat.min_eq_left U]
  rw[this,zI,zI,List.getElem?_take_of_lt U]
 have hf:=(AO7 R' h2 h3).2 ⟨k,by rw[jZ];omega,by rw[hrs];exact hq⟩;obtain⟨f1,f2⟩:=hf;rw[jZ,Nat.min_eq_left U] at f1 f2
 cases hA:vX sdP EE p m x with
 | some y=>have:=h5.2 (by rw[hA];rfl);rw[h] at this;cases this
 | none =>
   obtain⟨S,hS,hn⟩:=ACT hA;unfold UG at hS;obtain⟨r,hr',rfl⟩:=zH.1 hS;obtain⟨t,ht,rfl⟩:=List.getElem_of_mem hr';have hi:k+1-(cnL EE m x).length+t<L.length:=U;obtain⟨ok,sat⟩:=hL _ (jG hi);have hno:=AHC (PV.of h1) hn ok
   have hrow:=(A2W h1 ok.len (rows_ok h2 h3 h4 _ (jG ht))).1 fun e he=>by
    have:=f2 t ht e (by rw[jI ht];exact he);rw[zI,List.getElem?_take_of_lt U,<-hl,jW,jI hi] at this;exact this
   unfold TE at hno hrow sat;rw[List.all_append,sat,hrow] at hno;cases hno
end Go.Proofs.YtiihpnicbekebaaGreatDoor.Bd.Cl
namespace Go.Proofs.YtiihpnicbekebaaGreatDoor.Sm
open Go.RowKit
theorem SimH.below {E:Env}{g:Gh}{h:Hp}{w w':World}(S:SimH E g h w)(hb:Below w.heap.size w w'):SimH E g h w' where
 os:=hb.os.trans S.os
 tape:=hb.tape.trans S.tape
 output:=hb.output.trans S.output
 fro k o hk:=by
  have:=S.fro k o hk;rw[hb.block k (by have:=(Array.getElem?_eq_some_iff.1 this).1;exact this)];exact this
 lo:=S.lo
 live b k xs hb':=by
  obtain⟨l,c,e,h1,h2,h3,h4,h5⟩:=S.live b k xs hb';refine⟨l,c,e,h1,h2,h3,?_,h5⟩;rw[hb.block _ (by have:=(Array.getElem?_eq_some_iff.1 h4).1;exact this)];exact h4
 obj b x hb' hi:=by
  obtain⟨l,o,h1,h2,h3,h4,h5,h6⟩:=S.obj b x hb' hi;refine⟨l,o,h1,h2,h3,h4,?_,h6⟩;rw[hb.block _ (by have:=(Array.getElem?_eq_some_iff.1 h5).1;exact this)];exact h5
 inj:=S.inj
 fresh:=S.fresh
 glob:=S.glob
theorem PCall.of_ints {E:Env}{f:FuncId}{args:List AV}{h:Hp}{ns:List Int}(hok:cQ E.P f)(hne:ns≠[])
  (hc:∀(g:Gh) (w:World) (cargs:Array Value),SimH E g h w->aB g args cargs->Calls E.P f cargs w fun e w'=>Below w.heap.size w w'/\∃b c ty cap,e=.returned (.slice (some ⟨b,0,none⟩) ns.length cap) /\
   w.heap.size<=b/\w'.heap[b]?=some (.cells c ty (0,0))/\ns.length<=cap/\∀i (hi:i<ns.length),c[i]?=some (.int .i64 ns[i])):PCall E f args h (.sl .any 1 (ns.map fun n=>[.int .i64 n])):=by
 refine⟨hok,fun g w cargs S ha=>?_⟩;refine(hc g w cargs S.ofNox ha).mono ?_;rintro e w' ⟨hbl,b,c,ty,cap,rfl,hb,hw,hcap,hcell⟩;have S':=S.below hbl;obtain⟨u1,u2⟩:=S.unowned_new hb
 have hr:RepF (g.freeze b (.cells c ty (0,0))).M (.sl .any 1 (ns.map fun n=>[.n n])) (.slice (some ⟨b,0,none⟩) ns.length cap):=by
  have hl:ns.length=(ns.map fun n=>[AV.int .i64 n]).length:=BA;rw[hl];refine .sl .any 1 _ b 0 c ty (0,0) cap (fun i _=>(c[i]?).getD default) (BM hne) BA (by simp [Gh.freeze]) ?_ ?_ ?_ (BM hcap) BA
  .intro i row hrow
   rw[jW,Option.map_eq_some_iff] at hrow;obtain⟨n,_,rfl⟩:=hrow
   exact⟨rfl,fun j v hv=>by cases j with
    | zero=>cases hv;rfl
    | succ j=>cases hv⟩
  .intro i j hi hj
   obtain rfl:j=0:=U;simp only[List.length_map] at hi;simp only[Nat.zero_add,Nat.mul_one,Nat.add_zero];rw[hcell i hi];rfl
  .intro i j row v hrow hv
   rw[jW,Option.map_eq_some_iff] at hrow;obtain⟨n,hn,rfl⟩:=hrow;obtain⟨hi,rfl⟩:=List.getElem?_eq_some_iff.1 hn
   cases j with
   | zero=>cases hv;rw[hcell i hi];exact .int _ _
   | succ j=>cases hv
 exact .inl ⟨_,_,g.freeze b (.cells c ty (0,0)),h,rfl,⟨rfl,rfl⟩,Gh.freeze_le u2,S'.freeze hw u2 u1,.fro hr⟩
end Go.Proofs.YtiihpnicbekebaaGreatDoor.Sm
namespace Go.Proofs.YtiihpnicbekebaaGreatDoor.Sm
variable {n:Nat} {P:Program} {t:TypeId} {w:World}

def M0 (W:World):Nat->Option Obj:=fun k=>W.heap[k]?
def g0 (W:World):Gh:=⟨M0 W,fun _=>none,W.os,W.tape,W.output,fun _=>none⟩
theorem BAB {E:Env}{W:World}(hN:E.L=none)(hG:∀n,RepF (M0 W) (E.G n) (.pointer (some ⟨n,0,none⟩))):SimH E (g0 W) [] W where
 os:=rfl
 tape:=rfl
 output:=rfl
 fro k o h:=h
 lo g0 h:=by rw[hN] at h;cases h
 live b k xs h:=by simp at h
 obj b x h:=by simp at h
 inj b b' x x' l l' h:=by simp at h
 fresh b _:=rfl
 glob:=hG
theorem AE4 {E:Env}{f:FuncId}{avs:List AV}{args:Array Value}{W:World}(hc:ACalls E f avs [] fun v _=>v=.bool true)(hN:E.L=none)(hX:∀u h,¬E.X u h)
  (hG:∀n,RepF (M0 W) (E.G n) (.pointer (some ⟨n,0,none⟩))) (ha:aB (g0 W) avs args) :
  Calls E.P f args W fun e w'=>e=.returned (.bool true)/\RowKit.Below W.heap.size W w':=by
 refine(hc.2 (g0 W) W args (BAB hN hG) ha).mono ?_;rintro e w' (⟨v,cv,g',h',rfl,rfl,hle,S,hr⟩|⟨_,_,_,_,hx,_⟩)
 rotate_left
 .exact(hX _ _ hx).elim
 rw[hr.bool_inv];have hfro:∀k o,W.heap[k]?=some o->w'.heap[k]?=some o:=fun k o h=>S.fro k o (hle.M k o h)
 refine⟨rfl,?_,?_,?_,?_,?_⟩
 .rw[S.os,hle.os];rfl
 .rw[S.tape,hle.tape];rfl
 .rw[S.output,hle.output];rfl
 .rcases Nat.lt_or_ge w'.heap.size W.heap.size with h|h
  .have h1:=hfro w'.heap.size _ (Array.getElem?_eq_getElem h)
   simp at h1
  .exact h
 .intro k hk
  rw[hfro k _ (Array.getElem?_eq_getElem hk),Array.getElem?_eq_getElem hk]
theorem ARA {H:Type}{enc:TypeId×Value->H}{P:Program}{f:Func}{s:ChangeSpec}{tb:TypeId}{apart fresh handsOn:Bool}{W W':World}{args:Array Value}{ds gs:List (DataW H)}{before:List MemPlace}
  (hW:DataW.Whole enc P f.params.toList s.vars apart W args.toList ds gs before) (hb:RowKit.Below W.heap.size W W')
  (hv:s.vars=[]) (hr:f.resultTypes = #[tb]) (hub:P.underlying tb=some .bool)
  (hs:s.fn H ds={ results:=[.lit (.bool true)],args:=ds })
  (hl:laidOutB P=true) (hp:f.params.toList.all (fun t=>P.readableRec t&&decide (t<P.types.size))=true) :
  s.post enc P f apart fresh handsOn false W args (.bool true) W':=by
 have hW0:=hW;obtain⟨p,q,hA,hV,rfl,_,_⟩:=hW;rw[hv] at hV
 obtain⟨rfl,rfl⟩:gs=[]/\q=[]:=by
  cases gs with
  | nil=>exact⟨rfl,hV⟩
  | cons=>exact hV.elim
 have hfn:s.fn H (ds++[])={ results:=[.lit (.bool true)],args:=ds }:=by rw[jO];exact hs
 rw[jO] at hW0;have hlt:∀x∈p,x.block<W.heap.size:=fun x hx=>hW0.lt x hx
 have hall:∀(sp:Nat->Bool),(∀x∈p,sp x.block=true)->∀ {ts:List TypeId} {vs:List Value} {ds:List (DataW H)} {ps:List MemPlace},(ts.all (fun t=>P.readableRec t&&decide (t<P.types.size))=true) ->
   (∀x∈ps,x∈p)->DataW.TrodAll enc P W 0 (fun _=>true) true ts vs ds ps->DataW.TrodAll enc P W' 0 sp true ts vs ds ps:=by
  intro sp hsp ts
  induction ts with
  | nil =>
    intro vs ds ps _ _ h
    cases vs<;>cases ds<;>first|exact h|exact h.elim
  | cons t ts ih =>
    intro vs ds ps hts hm h
    cases vs with
    | nil=>exact h.elim
    | cons v vs =>
      cases ds with
      | nil=>exact h.elim
      | cons d ds =>
        obtain⟨p1,q1,h1,h2,e⟩:=h;simp only[List.all_cons,jM,decide_eq_true_eq] at hts;have hm1:∀x∈p1,x∈p:=fun x hx=>hm x (by rw[e];exact List.mem_append_left _ hx)
        exact⟨p1,q1,WideElems.Trod_stays hl hts.1.1 hts.1.2 h1 (fun x hx=>hb.same (hlt x (hm1 x hx))) (fun x hx=>hsp x (hm1 x hx)),ih hts.2 (fun x hx=>hm x (by rw[e];exact List.mem_append_right _ hx)) h2,e⟩
 have hold:∀x∈p,(fun b=>decide (b<W.heap.size)) x.block=true:=fun x hx=>by simpa using hlt x hx
 refine⟨ds,[],p,[],p,[],hW0,?_,?_,?_,World.keptBut_mono (fun x hx=>⟨hx,.inr (.inl hx)⟩) (hb.frame (·∈p)),fun h=>by cases h⟩
 .rw[hfn,hr]
  exact ChangeShapes.trodAll_mk1 (RowKit.shut_bool hub true)
 .rw[hfn];exact hall _ hold hp (fun _ h=>h) hA
 .rw[hv,hfn];exact rfl

open Go.Proofs.YtiihpnicbekebaaGreatDoor.Rows (uptoBulk uptoBulkAll)
def RowP (M:Nat->Option Obj)(rs:List AV)(cs:List Value):Prop:=∀(j:Nat) (a:AV),rs[j]?=some a->a.leaf=true/\∃c,cs[j]?=some c/\RepF M a c
theorem RowP.nil (M:Nat->Option Obj)(cs:List Value):RowP M [] cs:=fun j a h=>by simp at h
theorem RowP.one {M:Nat->Option Obj}{a:AV}{c:Value}(hl:a.leaf=true)(h:RepF M a c):RowP M [a] [c]:=by
 intro j b hb
 cases j with
 | zero=>simp at hb;subst hb;exact⟨hl,c,rfl,h⟩
 | succ j=>simp at hb
theorem RowP.append {M:Nat->Option Obj}{rs bs:List AV}{cs:List Value}(h:RowP M rs (cs.take n))(hn:rs.length=n)(k:RowP M bs (cs.drop n)):RowP M (rs++bs) cs:=by
 intro j a ha;rw[List.getElem?_append] at ha;split at ha
 .obtain⟨h1,c,h2,h3⟩:=h j a ha
  rw[List.getElem?_take] at h2;split at h2
  .exact⟨h1,c,h2,h3⟩
  .cases h2
 .obtain⟨h1,c,h2,h3⟩:=k _ a ha
  rw[List.getElem?_drop] at h2;exact⟨h1,c,by rw[<-h2];congr 1;omega,h3⟩
def RdAt (P:Program)(n:Nat)(t:TypeId){α:Type}(enc:α->List AV)(ok:α->Nat->Prop):Prop :=
 ∀ (H:Type) (ench:TypeId×Value->H) (w:World) (cs:List Value) (d:DataW H) (ps:List MemPlace),
   DataW.trod ench P w 0 (fun _=>true) true n t cs=some (d,ps)->∃x,ok x (uptoBulk d)/\RowP (M0 w) (enc x) cs
def Rd (P:Program)(t:TypeId){α:Type}(enc:α->List AV)(ok:α->Nat->Prop):Prop:=∀n,RdAt P n t enc ok
theorem RdAt.zero {α:Type}{enc:α->List AV}{ok:α->Nat->Prop}:RdAt P 0 t enc ok:=by
 intro H ench w cs d ps h;simp [DataW.trod] at h
theorem RdAt.map {P:Program}{n:Nat}{t:TypeId}{α β:Type}{enc:α->List AV}{ok:α->Nat->Prop}{enc':β->List AV}{ok':β->Nat->Prop}(f:α->β)(h:RdAt P n t enc ok)
  (he:∀x,enc' (f x)=enc x) (hk:∀x b,ok x b->ok' (f x) b):RdAt P n t enc' ok':=by
 intro H ench w cs d ps ht;obtain⟨x,h1,h2⟩:=h H ench w cs d ps ht;exact⟨f x,hk x _ h1,by rw[he];exact h2⟩
theorem Rd.map {P:Program}{t:TypeId}{α β:Type}{enc:α->List AV}{ok:α->Nat->Prop}{enc':β->List AV}{ok':β->Nat->Prop}(f:α->β)(h:Rd P t enc ok)
 (he:∀x,enc' (f x)=enc x) (hk:∀x b,ok x b->ok' (f x) b):Rd P t enc' ok':=fun n=>(h n).map f he hk
def okI (z:Int)(_:Nat):Prop := -9223372036854775808<=z/\z<=9223372036854775807
def okS (s:ByteArray)(b:Nat):Prop:=s.size+1<=b
def okT {α:Type}(_:α)(_:Nat):Prop:=True
def okL {α:Type}(ok:α->Nat->Prop):List α->Nat->Prop
 | [],_=>True
 | x::xs,b=>∃b1 b2,b1+b2<=b/\1<=b1/\ok x b1/\okL ok xs b2
theorem okL.length {α:Type}{ok:α->Nat->Prop}:∀ {xs:List α} {b:Nat},okL ok xs b->xs.length<=b
 | [],_,_=>qK _
 | _::_,_,⟨_,_,h1,h2,_,h4⟩=>by have:=okL.length h4;simp;omega
theorem okL.each {α:Type}{ok:α->Nat->Prop}:∀ {xs:List α} {b:Nat},okL ok xs b->∀x∈xs,∃b1,b1<=b/\ok x b1
 | [],_,_,_,h=>by cases h
 | y::ys,b,⟨b1,b2,h1,h2,h3,h4⟩,x,h=>by
   cases List.mem_cons.1 h with
   | inl e=>subst e;exact⟨b1,U,h3⟩
   | inr e=>obtain⟨b3,h5,h6⟩:=okL.each h4 x e;exact⟨b3,U,h6⟩
theorem okL.mono {α:Type}{ok:α->Nat->Prop}:∀ {xs:List α} {b b':Nat},okL ok xs b->b<=b'->okL ok xs b'
 | [],_,_,_,_=>trivial
 | _::_,_,_,⟨b1,b2,h1,h2,h3,h4⟩,h=>⟨b1,b2,U,h2,h3,h4⟩
theorem AUF {H:Type}(d:DataW H):1<=uptoBulk d:=by
 cases d with
 | lit l=>cases l<;>simp [uptoBulk]
 | nil=>simp [uptoBulk]
 | ptr d=>simp [uptoBulk]
 | slice elems spare=>simp [uptoBulk]
 | agg parts=>simp [uptoBulk]
 | iface t d=>simp [uptoBulk]
 | map entries=>simp [uptoBulk]
 | held h=>simp [uptoBulk]
theorem A2Y (hu:P.underlying t=some (.int .i64)):Rd P t (fun z:Int=>[.int .i64 z]) okI:=by
 intro n H ench w cs d ps h;obtain⟨z,rfl,hx,hz⟩:=DataW.trod_int hu h;refine⟨z,?_,RowP.one rfl (.int _ _)⟩;simp only[Lit.wf,jM,decide_eq_true_eq] at hz;exact hz
theorem AJW (hu:P.underlying t=some .bool):Rd P t (fun z:Bool=>[.bool z]) okT:=by
 intro n H ench w cs d ps h;obtain⟨z,rfl,hx⟩:=DataW.trod_bool hu h;exact⟨_,trivial,RowP.one rfl (.bool _)⟩
theorem A2X (hu:P.underlying t=some .string):Rd P t (fun z:ByteArray=>[.str z]) okS:=by
 intro n H ench w cs d ps h;obtain⟨s,rfl,hx,_⟩:=DataW.trod_string hu h;cases hx;refine⟨s,?_,RowP.one rfl (.str _)⟩;simp only[okS,uptoBulk,Array.length_toList];exact Nat.le_refl _
theorem nI {α β:Type}{f:α->Option β}{x:α}{xs:List α}{ys:List β}(h:(x::xs).mapM f=some ys):∃y zs,f x=some y/\xs.mapM f=some zs/\ys=y::zs:=by
 rw[List.mapM_cons] at h
 cases hx:f x with
 | none=>simp [hx] at h
 | some y =>
   cases hz:xs.mapM f with
   | none=>simp [hx,hz] at h
   | some zs=>simp [hx,hz] at h;exact⟨y,zs,rfl,rfl,h.symm⟩
theorem AB2 {P:Program}{n:Nat}{e:TypeId}{α:Type}{enc:α->List AV}{ok:α->Nat->Prop}(hr:RdAt P n e enc ok){H:Type}{ench:TypeId×Value->H}{w:World} :
  ∀ (zs:List (DataW H×List MemPlace)) (cells:Nat->Option (List Value)),(∀i,i<zs.length->(cells i).bind (DataW.trod ench P w 0 (fun _=>true) true n e)=zs[i]?) ->
    ∃xs:List α,xs.length=zs.length/\okL ok xs (uptoBulkAll (zs.map (·.1)))/\∀(i:Nat) (x:α),xs[i]?=some x->∃cs,cells i=some cs/\RowP (M0 w) (enc x) cs
 | [],cells,h=>⟨[],rfl,trivial,fun i x h=>by simp at h⟩
 | y::zs,cells,h=>by
   have h0:=h 0 BA
   cases hc:cells 0 with
   | none=>simp [hc] at h0
   | some cs =>
     simp only[hc,Option.bind_some,List.getElem?_cons_zero] at h0;obtain⟨x,k1,k2⟩:=hr H ench w cs y.1 y.2 h0;obtain⟨xs,l1,l2,l3⟩:=AB2 hr zs (fun i=>cells (i+1)) (fun i hi=>by have:=h (i+1) (BM hi);simpa using this);refine⟨x::xs,by simp [l1],⟨uptoBulk y.1,uptoBulkAll (zs.map (·.1)),by simp [uptoBulkAll],AUF _,k1,l2⟩,?_⟩;intro i x' hx
     cases i with
     | zero=>simp at hx;subst hx;exact⟨cs,hc,k2⟩
     | succ i=>simp at hx;exact l3 i x' hx
theorem AG9 {β:Type}{f:Nat->Option β}{i:Nat}{ys:List β}(h:(List.range n).mapM f=some ys)(hi:i<n):∃y,f i=some y/\ys[i]?=some y:=by
 have gen:∀(l:List Nat) (ys:List β),l.mapM f=some ys->∀j k:Nat,l[j]?=some k->∃y,f k=some y/\ys[j]?=some y:=by
  intro l
  induction l with
  | nil=>intro ys _ j k hj;simp at hj
  | cons a l ih =>
    intro ys hl j k hj;obtain⟨y,zs,h1,h2,rfl⟩:=nI hl
    cases j with
    | zero=>simp at hj;subst hj;exact⟨y,h1,rfl⟩
    | succ j=>simp at hj;exact ih zs h2 j k hj
 exact gen _ _ h i i (by simp [hi])
theorem cells_at {a:Addr}{cs:List Value}(h:w.cells? 0 a n=some cs){i:Nat}(hi:i<n):∃c,w.cell? (a.add i)=some c/\cs[i]?=some c:=by
 unfold World.cells? at h;simp only[qK,if_true] at h;exact AG9 h hi
theorem J9 {P:Program}{n:Nat}{t e:TypeId}{k:Nat}{α:Type}{enc:α->List AV}{ok:α->Nat->Prop}(hu:P.underlying t=some (.slice e))(hk:P.cellsOf e=k)(hk0:0<k)(hlen:∀x,(enc x).length=k)
  (hr:RdAt P n e enc ok):RdAt P (n+1) t (fun x:SM×List α=>[.sl x.1 k (x.2.map enc)]) (fun x b=>∃b',b'+1<=b/\okL ok x.2 b'):=by
 intro H ench w cs d ps h;rcases DataW.trod_slice hu h with⟨rfl,hd⟩|⟨a,len,cap,zs,rest,m,hm,rfl,hd,_,hlc,_,hzl,hel,_,_⟩
 .cases hd
  exact⟨(.nil,[]),⟨0,by simp [uptoBulk],trivial⟩,RowP.one rfl (.nil _)⟩
 .obtain rfl:n=m:=U
  simp only[Prod.mk.injEq] at hd;obtain⟨xs,l1,l2,l3⟩:=AB2 hr zs (fun i=>w.cells? 0 (a.add (i*P.cellsOf e)) (P.cellsOf e)) (fun i hi=>hel i U);rw[hzl] at l1;have hok:∃b',b'+1<=uptoBulk d/\okL ok xs b':=⟨uptoBulkAll (zs.map (·.1)),by rw[hd.1];simp [uptoBulk],l2⟩;rcases yA len with h0|hpos
  .subst h0
   have:xs=[]:=List.length_eq_zero_iff.1 l1;subst this;exact⟨(.any,[]),hok,RowP.one rfl (.empty .any k a cap BA BA)⟩
  .refine⟨(.any,xs),hok,RowP.one rfl ?_⟩
   have cellAt:∀i j,i<len->j<k->∃c,w.cell? ((a.add (i*k)).add j)=some c/\∀x a',xs[i]?=some x->(enc x)[j]?=some a'->a'.leaf=true/\RepF (M0 w) a' c:=by
    intro i j hi hj;have hx:i<xs.length:=U;obtain⟨cs',q1,q2⟩:=l3 i xs[i] (by simp [hx]);rw[hk] at q1;obtain⟨c,r1,r2⟩:=cells_at q1 hj;refine⟨c,r1,fun x a' hx' ha'=>?_⟩;rw[List.getElem?_eq_getElem hx] at hx';cases hx';obtain⟨s1,c',s2,s3⟩:=q2 j a' ha';rw[r2] at s2;cases s2;exact⟨s1,s3⟩
   obtain⟨cb,co,sp⟩:=a
   have hadd:∀i j,((Addr.mk cb co none).add (i*k)).add j=⟨cb,co+i*k+j,none⟩:=by
    intro i j;rw[addr_add,addr_add]
   obtain⟨c0,hc0,_⟩:=cellAt 0 0 hpos hk0
   have hsp:sp=none:=by
    simp [Addr.add,World.cell?] at hc0;split at hc0
    .split at hc0
     .cases hc0
     .rename_i hs;simpa using hs
    .cases hc0
   subst hsp;rw[hadd] at hc0;simp only[World.cell?] at hc0;split at hc0
   case h_2=>cases hc0
   rename_i c ty fz hw;have rd:∀i j,w.cell? ⟨cb,co+i*k+j,none⟩=c[co+i*k+j]? := fun i j=>by simp [World.cell?,hw]
   have hlx:len=(xs.map enc).length:=by simp [l1]
   rw[hlx];refine .sl .any k (xs.map enc) cb co c ty fz cap (fun i j=>c[co+i*k+j]?.getD default) ?_ BA hw ?_ ?_ ?_ ?_ BA
   .intro hx
    have:xs=[]:=BM hx;subst this;simp at l1;omega
   .intro i row hrow
    rw[jW,Option.map_eq_some_iff] at hrow;obtain⟨x,hx,rfl⟩:=hrow;refine⟨hlen x,fun j v hv=>?_⟩;have hi:i<len:=by rw[<-l1];exact(List.getElem?_eq_some_iff.1 hx).1
    have hj:j<k:=by rw[<-hlen x];exact(List.getElem?_eq_some_iff.1 hv).1
    obtain⟨c,_,hc2⟩:=cellAt i j hi hj;exact(hc2 x v hx hv).1
   .intro i j hi hj
    obtain⟨c',q1,_⟩:=cellAt i j (by simpa [l1] using hi) hj;rw[hadd,rd] at q1;rw[q1];rfl
   .intro i j row v hrow hv
    rw[jW,Option.map_eq_some_iff] at hrow;obtain⟨x,hx,rfl⟩:=hrow;have hi:i<len:=by rw[<-l1];exact(List.getElem?_eq_some_iff.1 hx).1
    have hj:j<k:=by rw[<-hlen x];exact(List.getElem?_eq_some_iff.1 hv).1
    obtain⟨c',q1,q2⟩:=cellAt i j hi hj;rw[hadd,rd] at q1;show RepF _ _ (c[co+i*k+j]?.getD default);rw[q1];exact(q2 x v hx hv).2
   .simp [l1];exact hlc
def A0G (P:Program)(n:Nat)(fs:List Field)(off:Nat){α:Type}(enc:α->List AV)(ok:α->Nat->Prop):Prop :=
 ∀ (H:Type) (ench:TypeId×Value->H) (w:World) (cs:List Value) (zs:List (DataW H×List MemPlace)),zs.length=fs.length ->
   (∀(i:Nat) (f:Field),fs[i]?=some f->DataW.trod ench P w 0 (fun _=>true) true n f.type ((cs.drop f.offset).take (P.cellsOf f.type))=zs[i]?)->∃x,ok x (uptoBulkAll (zs.map (·.1)))/\RowP (M0 w) (enc x) (cs.drop off)
theorem N9 {off:Nat}:A0G P n [] off (fun _:Unit=>[]) okT:=fun _ _ _ _ _ _ _=>⟨(),trivial,RowP.nil _ _⟩
theorem EJ {P:Program}{n off k:Nat}{f:Field}{fs:List Field}{α β:Type}{enc:α->List AV}{ok:α->Nat->Prop}{enc':β->List AV}{ok':β->Nat->Prop}(ho:f.offset=off)(hk:P.cellsOf f.type=k)
  (hlen:∀x,(enc x).length=k) (h:RdAt P n f.type enc ok) (h':A0G P n fs (off+k) enc' ok') :
  A0G P n (f::fs) off (fun x:α×β=>enc x.1++enc' x.2) (fun x b=>∃b1 b2,b1+b2<=b/\ok x.1 b1/\ok' x.2 b2):=by
 intro H ench w cs zs hl hz
 cases zs with
 | nil=>simp at hl
 | cons y zs =>
   have h1:=hz 0 f rfl;obtain⟨x,k1,k2⟩:=h H ench w _ y.1 y.2 (BM h1);obtain⟨x',l1,l2⟩:=h' H ench w cs zs (BM hl) (fun i f' hf=>by have:=hz (i+1) f' (BM hf);simpa using this);refine⟨(x,x'),⟨_,_,Nat.le_of_eq (by simp [uptoBulkAll]),k1,l1⟩,?_⟩;rw[ho,hk] at k2;refine RowP.append k2 (hlen x) ?_;rw[List.drop_drop];exact l2
theorem KF {fs:List Field}{α:Type}{enc:α->List AV}{ok:α->Nat->Prop}(hu:P.underlying t=some (.struct fs.toArray))(h:A0G P n fs 0 enc ok):
  RdAt P (n+1) t enc (fun x b=>∃b',b'+1<=b/\ok x b'):=by
 intro H ench w cs d ps ht;obtain⟨zs,m,hm,hd,_,hl,hz⟩:=DataW.trod_struct hu ht;obtain rfl:n=m:=U;obtain⟨x,k1,k2⟩:=h H ench w cs zs (BM hl) (fun i f hf=>hz i f (BM hf));simp only[Prod.mk.injEq] at hd;exact⟨x,⟨_,by rw[hd.1];simp [uptoBulk],k1⟩,BM k2⟩

open Go.Proofs.YtiihpnicbekebaaGreatDoor.Rows (uptoBulk uptoBulkAll)
def PR (P:Program)(t:TypeId){α:Type}(av:α->AV)(ok:α->Nat->Prop):Prop :=
 ∀ (H:Type) (ench:TypeId×Value->H) (w:World) (base:Nat) (v:Value) (d:DataW H) (ps:List MemPlace),Value.okWide P w .any base t v->DataW.Trod ench P w 0 (fun _=>true) true t v d ps ->
   ∃x,ok x (uptoBulk d)/\RepF (M0 w) (av x) v
def AHH (P:Program)(t:TypeId):Bool:=match P.underlying t with
 | some (.int _)=>true
 | some .bool=>true
 | some .string=>true
 | some (.slice _)=>true
 | _=>false
theorem cell_of {base:Nat}{v:Value}(hc:AHH P t=true)(h:Value.okWide P w .any base t v):v.cells.toList=[v]:=by
 unfold AHH at hc;unfold Value.okWide at h
 split at hc<;>rename_i hu<;>first|(cases hc;done)|skip
 all_goals
  rw[hu] at h;simp only[Cell.okWide,Cell.ok,hu] at h
  cases v<;>first|rfl|(simp at h;done)|exact h.elim
theorem A9M {α:Type}{enc:α->List AV}{av:α->AV}{ok:α->Nat->Prop}(h:Rd P t enc ok)(he:∀x,enc x=[av x])(hc:AHH P t=true):PR P t av ok:=by
 intro H ench w base v d ps hv ⟨n,ht⟩;rw[cell_of hc hv] at ht;obtain⟨x,h1,h2⟩:=h n H ench w _ d ps ht;refine⟨x,h1,?_⟩;rw[he] at h2;obtain⟨_,c,h3,h4⟩:=h2 0 (av x) rfl;simp at h3;subst h3;exact h4
theorem BAH {α:Type}{enc:α->List AV}{ok:α->Nat->Prop}{k:Nat}(h:Rd P t enc ok)(hl:∀x,ok x 0\/True->(enc x).length=k)(hk:P.cellsOf t=k)(hc:JP P t=some true):PR P t (fun x=>.agg (enc x)) ok:=by
 intro H ench w base v d ps hv ⟨n,ht⟩
 have hag:∃cs,v=.agg cs/\cs.size=P.cellsOf t:=by
  unfold JP at hc;unfold Value.okWide at hv
  cases hu:P.underlying t with
  | none=>simp [hu] at hc
  | some td =>
    rw[hu] at hc hv;cases td<;>simp at hc<;>exact⟨_,hv.choose_spec.1,hv.choose_spec.2.1⟩
 obtain⟨cs,rfl,hs⟩:=hag;obtain⟨x,h1,h2⟩:=h n H ench w _ d ps ht;refine⟨x,h1,.agg _ cs (by rw[hs,hl x (.inr trivial),hk]) ?_⟩;intro i a cv ha hcv;obtain⟨_,c,h3,h4⟩:=h2 i a ha;simp [Value.cells] at h3;rw[hcv] at h3;cases h3;exact h4
def PRs (P:Program)(ts:List TypeId){α:Type}(avs:α->List AV)(ok:α->Nat->Prop):Prop :=
 ∀ (H:Type) (ench:TypeId×Value->H) (w:World) (base:Nat) (vs:List Value) (ds:List (DataW H)) (ps:List MemPlace),(∀(j:Nat) t v,ts[j]?=some t->vs[j]?=some v->Value.okWide P w .any base t v) ->
   DataW.TrodAll ench P w 0 (fun _=>true) true ts vs ds ps->∃x,ok x (uptoBulkAll ds)/\vs.length=(avs x).length/\∀(i:Nat) (a:AV) (v:Value),(avs x)[i]?=some a->vs[i]?=some v->RepF (M0 w) a v
theorem PRs.len {P:Program}{w:World}{H:Type}{ench:TypeId×Value->H}{sp:Nat->Bool}{held:Bool}{base:Nat}:∀ {ts:List TypeId} {vs:List Value} {ds:List (DataW H)} {ps:List MemPlace},DataW.TrodAll ench P w base sp held ts vs ds ps->ds.length=ts.length
 | [],[],[],_,_=>rfl
 | _::_,_::_,_::_,_,⟨_,_,_,h2,_⟩=>by simp [PRs.len h2]
theorem A9L:PRs P [] (fun _:Unit=>[]) okT:=by
 intro H ench w base vs ds ps _ h
 cases vs with
 | nil=>exact⟨(),trivial,rfl,fun i a v h=>by simp at h⟩
 | cons v vs=>cases ds<;>exact h.elim
theorem A6D {ts:List TypeId}{α β:Type}{av:α->AV}{ok:α->Nat->Prop}{avs:β->List AV}{ok':β->Nat->Prop}(h:PR P t av ok)(h':PRs P ts avs ok'):
  PRs P (t::ts) (fun x:α×β=>av x.1::avs x.2) (fun x b=>∃b1 b2,b1+b2<=b/\ok x.1 b1/\ok' x.2 b2):=by
 intro H ench w base vs ds ps hv ht
 cases vs with
 | nil=>cases ds<;>exact ht.elim
 | cons v vs =>
   cases ds with
   | nil=>exact ht.elim
   | cons d ds =>
     obtain⟨p,q,h1,h2,_⟩:=ht;obtain⟨x,k1,k2⟩:=h H ench w base v d p (hv 0 t v rfl rfl) h1;obtain⟨y,l1,l2,l3⟩:=h' H ench w base vs ds q (fun j t' v' a b=>hv (j+1) t' v' (BM a) (BM b)) h2;refine⟨(x,y),⟨_,_,Nat.le_of_eq (by simp [uptoBulkAll]),k1,l1⟩,by simp [l2],?_⟩;intro i a v' ha hv'
     cases i with
     | zero=>simp at ha hv';subst ha;subst hv';exact k2
     | succ i=>simp at ha hv';exact l3 i a v' ha hv'
theorem AX3 {H:Type}{enc:TypeId×Value->H}{E:Env}{f:FuncId}{fn:Func}{s:ChangeSpec}{tb:TypeId}{apart fresh handsOn:Bool}{W:World}{base:Nat}{args:Array Value}{ds gs:List (DataW H)}{before:List MemPlace}
  {α:Type} {avs:α->List AV} {ok:α->Nat->Prop} (hr:PRs E.P fn.params.toList avs ok) (hlaw:∀x,ok x (uptoBulkAll ds)->ACalls E f (avs x) [] fun v _=>v=.bool true)
  (hval:∀(j:Nat) t v,fn.params[j]?=some t->args[j]?=some v->Value.okWide E.P W .any base t v)
  (hW:DataW.Whole enc E.P fn.params.toList s.vars apart W args.toList ds gs before) (hG:∀n,RepF (M0 W) (E.G n) (.pointer (some ⟨n,0,none⟩)))
  (hv:s.vars=[]) (ht:fn.resultTypes = #[tb]) (hub:E.P.underlying tb=some .bool)
  (hs:s.fn H ds={ results:=[.lit (.bool true)],args:=ds })
  (hl:laidOutB E.P=true) (hp:fn.params.toList.all (fun t=>E.P.readableRec t&&decide (t<E.P.types.size))=true) (hN:E.L=none:=by rfl) (hX:∀u h,¬E.X u h:=by exact fun _ _ q=>q) :
  Calls E.P f args W fun e W'=>∃v,e=.returned v/\s.post enc E.P fn apart fresh handsOn false W args v W':=by
 obtain⟨p,q,hA,_⟩:=id hW;obtain⟨x,k1,k2,k3⟩:=hr H enc W base args.toList ds p (fun j t v a b=>hval j t v (BM a) (BM b)) hA;have ha:aB (g0 W) (avs x) args:=⟨BM k2,fun i v cv h1 h2=>.fro (k3 i v cv h1 (BM h2))⟩;refine(AE4 (hlaw x k1) hN hX hG ha).mono ?_;rintro e w' ⟨rfl,hb⟩;exact⟨_,rfl,ARA hW hb hv ht hub hs hl hp⟩
theorem AN2 {P:Program}{w:World}{t e:TypeId}(hu:P.underlying t=some (.slice e))(he:P.underlying e=some .string)(hk:P.cellsOf e=1){H:Type}{ench:TypeId×Value->H}{sp:Nat->Bool}{held:Bool}{n:Nat}{cs:List Value}
  {l:List ByteArray} {d:DataW H} (hd:d=.slice (l.map fun s=>.lit (.string s.data.toList)) []) {p:List MemPlace} (h:DataW.trod ench P w 0 sp held n t cs=some (d,p)) :
  ∃c,cs=[c]/\RepF (M0 w) (.sl .any 1 (l.map fun s=>[.str s])) c:=by
 subst hd;rcases DataW.trod_slice hu h with⟨_,hx⟩|⟨a,len,cap,zs,rest,m,_,rfl,hx,_,hlc,_,hzl,hel,_,_⟩
 .cases hx
 .simp only[Prod.mk.injEq,DataW.slice.injEq] at hx
  obtain⟨⟨hz,_⟩,_⟩:=hx;have hll:l.length=len:=by have:=congrArg List.length hz;simpa [hzl] using this
  refine⟨_,rfl,?_⟩;rcases yA len with h0|hpos
  .subst h0
   have:l=[]:=List.length_eq_zero_iff.1 hll;subst this;exact .empty .any 1 a cap BA BA
  .have cellAt:∀i (s:ByteArray),l[i]?=some s->w.cell? (a.add i)=some (.string s):=by
    intro i s hs;have hi:i<len:=by rw[<-hll];exact(List.getElem?_eq_some_iff.1 hs).1
    have h1:=hel i hi;rw[hk,Nat.mul_one] at h1
    have h2:zs[i]?.map (·.1)=some (.lit (.string s.data.toList)):=by
     rw[<-jW,<-hz,jW,hs];rfl
    cases hc:w.cells? 0 (a.add i) 1 with
    | none=>rw[hc] at h1;rw[<-h1] at h2;cases h2
    | some c1 =>
      rw[hc,Option.bind_some] at h1
      obtain⟨z,hzi⟩:∃z,zs[i]?=some z:=by cases hh:zs[i]? with
       | none=>rw[hh] at h2;cases h2
       | some z=>exact⟨z,rfl⟩
      rw[hzi] at h1 h2;obtain⟨s',rfl,rfl,_⟩:=DataW.trod_string he h1;simp only[Option.map_some,Option.some.injEq,DataW.lit.injEq,Lit.string.injEq] at h2
      have:s'=s:=by
       cases s';cases s;simp only at h2;congr 1;exact Array.toList_inj.1 h2
      subst this;obtain⟨c,r1,r2⟩:=cells_at hc (i:=0) DT;simp at r2;subst r2;simpa [Addr.add] using r1
   obtain⟨cb,co,sp'⟩:=a;have h00:=cellAt 0 l[0] (by simp [hll,hpos])
   have hsp:sp'=none:=by
    simp [Addr.add,World.cell?] at h00;split at h00
    .split at h00
     .cases h00
     .rename_i hs;simpa using hs
    .cases h00
   subst hsp;have hadd:∀i,(Addr.mk cb co none).add i=⟨cb,co+i,none⟩:=fun i=>addr_add _ _ _
   rw[hadd] at h00;simp only[World.cell?] at h00;split at h00
   case h_2=>cases h00
   rename_i c ty fz hw;have rd:∀i,w.cell? ⟨cb,co+i,none⟩=c[co+i]? := fun i=>by simp [World.cell?,hw]
   have hlx:len=(l.map fun s=>[AV.str s]).length:=by simp [hll]
   rw[hlx];refine .sl .any 1 _ cb co c ty fz cap (fun i j=>c[co+i*1+j]?.getD default) ?_ BA hw ?_ ?_ ?_ (by simp [hll];exact hlc) BA
   .intro hx
    have:l=[]:=BM hx;subst this;simp at hll;omega
   .intro i row hrow
    rw[jW,Option.map_eq_some_iff] at hrow;obtain⟨x,hx,rfl⟩:=hrow;refine⟨rfl,fun j v hv=>?_⟩
    cases j with
    | zero=>simp at hv;subst hv;rfl
    | succ j=>simp at hv
   .intro i j hi hj
    have hi':i<l.length:=BM hi;have:=cellAt i l[i] (by simp [hi']);rw[hadd,rd] at this;have hj0:j=0:=U;subst hj0;simp only[Nat.mul_one,zA];rw[this];rfl
   .intro i j row v hrow hv
    rw[jW,Option.map_eq_some_iff] at hrow;obtain⟨x,hx,rfl⟩:=hrow;have:=cellAt i x hx;rw[hadd,rd] at this
    cases j with
    | zero =>
      simp at hv;subst hv;simp only[Nat.mul_one,zA];rw[this];exact .str _
    | succ j=>simp at hv
theorem AV2 {n:String}{g:Nat}{cs:Array Value}{c:Value}{a:AV}(hg:P.globalNamed n=some g)(h:w.var? P n=some cs)(hc:cs.toList=[c])(hr:RepF (M0 w) a c)(hl:a.leaf=true):
  RepF (M0 w) (.fptr 1 [[a]] 0 0) (.pointer (some ⟨g,0,none⟩)):=by
 have h0:=World.var?_cell hg h 0;have e:cs = #[c]:=by rw[<-Array.toArray_toList (xs:=cs),hc]
 rw[e] at h0;simp only[World.cell?] at h0;split at h0
 case h_2=>simp at h0
 rename_i cc ty fz hw;have hcc:cc[0]?=some c:=BM h0;refine .fptr 1 [[a]] 0 0 g 0 cc ty fz (fun _ _=>c) hw ?_ ?_ ?_
 .intro i row hrow
  cases i with
  | zero =>
    simp at hrow;subst hrow;refine⟨rfl,fun j v hv=>?_⟩
    cases j with
    | zero=>simp at hv;subst hv;exact hl
    | succ j=>simp at hv
  | succ i=>simp at hrow
 .intro i j hi hj
  have:i=0:=BM hi;have:j=0:=U
  subst_vars
  simpa using hcc
 .intro i j row v hrow hv
  cases i with
  | zero =>
    simp at hrow;subst hrow
    cases j with
    | zero=>simp at hv;subst hv;exact hr
    | succ j=>simp at hv
  | succ i=>simp at hrow
end Go.Proofs.YtiihpnicbekebaaGreatDoor.Sm
namespace Go.Proofs.YtiihpnicbekebaaGreatDoor.Back

def AJ1:Op->Bool
 | .move _=>true
 | .load _ _=>true
 | .store _ _ _=>true
 | .binOp _ _ _ _ _=>true
 | .indexAddr _ _ _=>true
 | _=>false
theorem AGZ {F F':Fence}{n:Nat}{P:Program}{o:Oper}{a:Act}{w:World}{K:Act->World->Prop}{Q:Exit->Act->World->Prop}(hp:AJ1 o.op=true)(h:o.wpIn F' n P a w K Q):o.wpIn F n P a w K Q:=by
 have hd:∀c,o.op≠.defer c:=fun c e=>by rw[e] at hp;cases hp
 have hab:∀f,o.about P w a.eval=some f->F.fn f:=by
  intro f hf;unfold Oper.about at hf
  cases ho:o.op<;>rw[ho] at hf hp<;>first|(cases hp;done)|(cases hf;done)
 unfold Oper.wpIn at *;refine⟨hab,?_⟩;have h:=h.2
 rw[Oper.semAt_eq _ _ _ hd] at h|-
 have key:(∃v w',(execOp a.eval o).run P w=.ok (.value v) w')\/(∃w',(execOp a.eval o).run P w=.ok .skip w')\/∃e w',(execOp a.eval o).run P w=.halt e w':=by
  have hv:∀s:Sem Value,(∃v w',(do pure (.value (<-s)):Sem Next).run P w=.ok (.value v) w')\/∃e w',(do pure (.value (<-s)):Sem Next).run P w=.halt e w':=by
   intro s;simp only[Sem.run_bind]
   cases s.run P w with
   | ok v w'=>exact .inl ⟨v,w',rfl⟩
   | halt e w'=>exact .inr ⟨e,w',rfl⟩
  have hu:∀s:Sem Unit,(∃w',(do s;pure .skip:Sem Next).run P w=.ok .skip w')\/∃e w',(do s;pure .skip:Sem Next).run P w=.halt e w':=by
   intro s;simp only[Sem.run_bind]
   cases s.run P w with
   | ok v w'=>exact .inl ⟨w',rfl⟩
   | halt e w'=>exact .inr ⟨e,w',rfl⟩
  unfold execOp
  cases ho:o.op<;>rw[ho] at hp<;>first|(cases hp;done)|skip
  case move x=>exact .inl ⟨_,_,rfl⟩
  case load t x =>
   rcases hv (Instr.loadAt t (a.eval x)) with h|h
   .exact .inl h
   .exact .inr (.inr h)
  case store t x y =>
   rcases hu (Instr.storeAt t (a.eval x) (a.eval y)) with h|h
   .exact .inr (.inl h)
   .exact .inr (.inr h)
  case binOp op t x y u =>
   rcases hv (do eqGuard op t x y (a.eval x) (a.eval y);binOp op t (a.eval x) (a.eval y)) with h|h
   .exact .inl h
   .exact .inr (.inr h)
  case indexAddr t x y =>
   rcases hv (Instr.indexAt t (a.eval x) (a.eval y)) with h|h
   .exact .inl h
   .exact .inr (.inr h)
 rcases key with⟨v,w',e⟩|⟨w',e⟩|⟨x,w',e⟩
 .rw[e] at h|-;exact h
 .rw[e] at h|-;exact h
 .rw[e] at h|-
  cases x<;>exact h
theorem tD {F F':Fence}{n:Nat}{P:Program}{md:Region.Mode}{ops:Array Oper}{Q:Exit->Act->World->Prop}(hp:∀(i:Nat) (o:Oper),ops[i]?=some o->AJ1 o.op=true/\o.guard=none) :
  ∀(fuel:Nat) (listed:Array Bool) (a:Act) (w:World),wpAnyIn F' n P md ops Q fuel listed a w->wpAnyIn F n P md ops Q fuel listed a w
 | 0,_,_,_,h=>h
 | fuel+1,listed,a,w,h=>by
   refine⟨h.1,fun i hi=>?_⟩;have h2:=h.2 i hi;have h3:=wpOpIn_mono (fun a w=>tD (F:=F) hp fuel _ a w) h2;unfold wpOpIn at *;split
   .rename_i ho;simpa [ho] using h3
   .rename_i o ho
    simp only[ho] at h3;obtain⟨hp1,hp2⟩:=hp i o ho;have hw:Region.wanted o (yielded ops a.tmps)=true:=by unfold Region.wanted;rw[hp2]
    simp only[hw,if_true] at h3|-
    exact AGZ hp1 h3
end Go.Proofs.YtiihpnicbekebaaGreatDoor.Back
namespace Go.Proofs.YtiihpnicbekebaaGreatDoor.Back
open Go.RowKit Go.Shelf
attribute [local go_sem] Oper.semAt_some
def upto {α:Type}(f:Nat->α)(k:Nat):List α:=(List.range k).map f
theorem upto_succ {α:Type}(f:Nat->α)(k:Nat):upto f (k+1)=upto f k++[f k]:=by simp [upto,List.range_succ]
theorem upto_length {α:Type}(f:Nat->α)(k:Nat):(upto f k).length=k:=by simp [upto]
def Kb (n₀ Bs:Nat)(A B:World):Prop:=Below n₀ A B/\∀v,A.cell? ⟨Bs,0,none⟩=some v->B.cell? ⟨Bs,0,none⟩=some v
theorem Kb.refl (n₀ Bs:Nat)(A:World):Kb n₀ Bs A A:=⟨Below.refl _ _,fun _ h=>h⟩
theorem Kb.trans {n₀ Bs:Nat}{A B C:World}(h:Kb n₀ Bs A B)(k:Kb n₀ Bs B C):Kb n₀ Bs A C:=⟨h.1.trans k.1,fun v hv=>k.2 v (h.2 v hv)⟩
set_option maxRecDepth 100000 in
theorem AUT {α:Type}(val:α->Nat×Int)(f:Nat->α)(F:Fence)(n:Nat)(h8:F.fn 315)(hro:F.round=none)(hn:1<=n)(l Bs n₀ b off len cap:Nat)(zs:List Int)(hreach:len<=1048576)(hb:b<n₀)(hf:∀k,k<len->val (f k)=(len-1-k,zs[len-1-k]?.getD 0))(J Jx:List α->World->Prop)
  (hY:∀pre x W,J pre W->pre.length<len->YieldAt F (n-1) jA l #[.int .i64 ((val x).1:Int),.int .i64 (val x).2] W fun e W' =>
   (e=.returned (.bool true)/\J (pre++[x]) W'/\Kb n₀ Bs W W')\/(e=.returned (.bool false)/\Jx (pre++[x]) W'))
  (W:World) (hBs:W.cell? ⟨Bs,0,none⟩=some (.slice (some ⟨b,off,none⟩) len cap)) (hc:∀j,j<len->W.cell? ⟨b,off+j,none⟩=some (.int .i64 (zs[j]?.getD 0))) (h0:J [] W) :
  CallsIn F n jA 315 #[.func (.yield l) #[] #[],.pointer (some ⟨Bs,0,none⟩)] W fun e W'=>(∃v,e=.returned v) /\
   ((∃ys,ys=upto f len/\J ys W')\/(∃pre,(∃k,k<=len/\pre=upto f k)/\Jx pre W')):=by
 refine callsIn_of_wp Tryz.func315 rfl h8 ?_ hro;simp only[Tryz.ntmps315,List.size_toArray,zT,zW,jT,Nat.reduceSub,Array.replicate_succ,Array.replicate_zero,List.push_toArray,List.append_toArray,qH,zF]
 gi_wp2
 gi_loopw [3] (fun i wr=>Kb n₀ Bs W wr/\((∃j k:Nat,j+k+1=len/\i=.int .i64 (j:Int)/\J (upto f k) wr)\/(i=.int .i64 (-1)/\J (upto f len) wr)))
  (fun i _=>(intOf i+1).toNat)
 case atStart =>
  refine⟨Kb.refl _ _ _,?_⟩;rcases Nat.eq_zero_or_pos len with hz|hz
  .subst hz
   exact .inr ⟨rfl,h0⟩
  .exact .inl ⟨len-1,0,U,by congr 1;omega,h0⟩
 case round =>
  obtain⟨hnx,⟨j,k,hjk,rfl,hJs⟩|⟨rfl,hJs⟩⟩:=hrel
  .have hcx':wr.cell? ⟨b,off+j,none⟩=some (.int .i64 (zs[j]?.getD 0)):=(hnx.1.cell (p:=⟨b,off+j,none⟩) hb).trans (hc j U)
   have hBs':wr.cell? ⟨Bs,0,none⟩=some (.slice (some ⟨b,off,none⟩) len cap):=hnx.2 _ hBs
   have hf':val (f k)=(j,zs[j]?.getD 0):=by
    have:len-1-k=j:=U;rw[hf k U,this]
   have hjl:j<len:=U;obtain⟨fn,tmps,assign,body,hy,hR⟩:=hY _ (f k) wr hJs (by rw[upto_length];omega);rw[hf'] at hy
   dsimp only at hy
   gi_wp2
   refine hR.mono ?_;rintro e W3 (⟨rfl,hJ3,hk3⟩|⟨rfl,hJx3⟩)
   .gi_wp2
    go_roundw
    case rel =>
     refine⟨hnx.trans hk3,?_⟩
     cases j with
     | zero =>
       refine .inr ⟨BA,?_⟩;have e:upto f len=upto f (k+1):=congrArg (upto _) U;rw[e,upto_succ];exact hJ3
     | succ j=>exact .inl ⟨j,k+1,U,BA,by rw[upto_succ];exact hJ3⟩
    case measure=>simp [intOf]
   .gi_wp2
    refine bodyPost_ret (results_none rfl _ _ _) rfl ?_;exact⟨⟨_,rfl⟩,.inr ⟨_,⟨k+1,U,by rw[upto_succ]⟩,hJx3⟩⟩
  .gi_wp2
   go_end0
   exact⟨⟨_,rfl⟩,.inl ⟨_,rfl,hJs⟩⟩
theorem AZ7 (F:Fence)(n:Nat)(h5:F.fn 277)(hro:F.round=none)(a:Option Addr)(len cap:Nat)(w:World) :
  CallsIn F n jA 277 #[.slice a len cap] w fun e w'=>e=.returned (.func (.func 315) #[] #[.pointer (some ⟨w.heap.size,0,none⟩)])/\w'=w.alloc (.cells #[.slice a len cap] 32):=by
 refine callsIn_of_wp Tryz.func277 rfl h5 ?_ hro;simp only[Tryz.ntmps277,List.size_toArray,zT,zW,jT,Nat.reduceSub,Array.replicate_succ,Array.replicate_zero,List.push_toArray,List.append_toArray,qH,zF]
 gi_wp2
 go_ret
 exact⟨rfl,rfl⟩
theorem AIK {α:Type}(val:α->Nat×Int)(f:Nat->α)(F:Fence)(n:Nat)(h8:F.fn 315)(hro:F.round=none)(hn:1<=n)(Bs n₀ b off cap:Nat)(zs:List Int)(hreach:zs.length<=1048576)(hf:∀k,k<zs.length->val (f k)=(zs.length-1-k,zs[zs.length-1-k]?.getD 0))(w:World)(hBs0:Bs<w.heap.size)(hn₀:n₀<=w.heap.size)(hb:b<n₀)
  (hBs:w.cell? ⟨Bs,0,none⟩=some (.slice (some ⟨b,off,none⟩) zs.length cap)) (hc:∀j,j<zs.length->w.cell? ⟨b,off+j,none⟩=some (.int .i64 (zs[j]?.getD 0))) :
  SeqStopsK F n jA 315 #[.pointer (some ⟨Bs,0,none⟩)] (fun x:α => #[Value.int .i64 ((val x).1:Int),.int .i64 (val x).2]) (Kb n₀ Bs) (fun ys=>ys=upto f zs.length) (fun _=>True) zs.length w:=fun l J Jx W hW _ _ hY h0=>by
 refine(AUT val f F n h8 hro hn l Bs n₀ b off zs.length cap zs hreach hb hf J Jx hY W ((hW.cell (p:=⟨Bs,0,none⟩) hBs0).trans hBs) (fun j hj=>(hW.cell (p:=⟨b,off+j,none⟩) (Nat.lt_of_lt_of_le hb hn₀)).trans (hc j hj)) h0).mono ?_;rintro e W' ⟨he,⟨ys,rfl,hj⟩|⟨pre,_,hj⟩⟩
 .exact⟨he,.inl ⟨_,rfl,hj⟩⟩
 .exact⟨he,.inr ⟨_,trivial,hj⟩⟩
end Go.Proofs.YtiihpnicbekebaaGreatDoor.Back
set_option linter.unusedVariables false
namespace Go.Proofs.YtiihpnicbekebaaGreatDoor.Back
open Go.RowKit Go.Shelf
attribute [local go_sem] Oper.semAt_some
theorem AXU (w:World):(Instr.makeSlice 32 (.int .i64 0) (.int .i64 0)).run jA w=.ok (.slice (some ⟨w.heap.size,0,none⟩) 0 0) (w.alloc (.cells #[] 3)):=AZ
theorem AXT (w:World):(Instr.makeSlice 32 (.int .i64 1) (.int .i64 1)).run jA w=.ok (.slice (some ⟨w.heap.size,0,none⟩) 1 1) (w.alloc (.cells #[.int .i64 0] 3)):=AZ
theorem AXS (w:World):(Instr.makeSlice 32 (.int .i64 2) (.int .i64 2)).run jA w=.ok (.slice (some ⟨w.heap.size,0,none⟩) 2 2) (w.alloc (.cells #[.int .i64 0,.int .i64 0] 3)):=AZ
theorem AXR (w:World):(Instr.makeSlice 32 (.int .i64 3) (.int .i64 3)).run jA w=.ok (.slice (some ⟨w.heap.size,0,none⟩) 3 3) (w.alloc (.cells #[.int .i64 0,.int .i64 0,.int .i64 0] 3)):=AZ
theorem AXQ (w:World):(Instr.makeSlice 32 (.int .i64 4) (.int .i64 4)).run jA w=.ok (.slice (some ⟨w.heap.size,0,none⟩) 4 4) (w.alloc (.cells #[.int .i64 0,.int .i64 0,.int .i64 0,.int .i64 0] 3)):=AZ
theorem A3D (n:Nat)(hn:n<=4)(w:World):(Instr.makeSlice 32 (.int .i64 (n:Int)) (.int .i64 (n:Int))).run jA w=.ok (.slice (some ⟨w.heap.size,0,none⟩) n n) (w.alloc (.cells (Array.replicate n (.int .i64 0)) 3)):=by
 have h:n=0\/n=1\/n=2\/n=3\/n=4:=U;rcases h with rfl|rfl|rfl|rfl|rfl
 .exact AXU w
 .exact AXT w
 .exact AXS w
 .exact AXR w
 .exact AXQ w
abbrev Pr (n:Nat) := { x:Nat×Int // x.1<n/\1<=x.2/\x.2<=64 }
def stp (s:List Nat×Nat)(x:Nat×Int):List Nat×Nat:=(s.1.set x.1 (s.2%x.2.toNat),s.2/x.2.toNat)
def fld (n K:Nat)(pre:List (Pr n)):List Nat×Nat:=(pre.map (·.1)).foldl stp (jR n 0,K)
theorem ADZ (n K:Nat)(pre:List (Pr n))(x:Pr n):fld n K (pre++[x])=stp (fld n K pre) x.1:=by unfold fld;rw[List.map_append,List.foldl_append];rfl
theorem AYX (n K:Nat)(pre:List (Pr n)):(fld n K pre).1.length=n:=by
 unfold fld
 have gen:∀(l:List (Nat×Int)) (s:List Nat×Nat),s.1.length=n->(l.foldl stp s).1.length=n:=by
  intro l
  induction l with
  | nil=>intro s h;exact h
  | cons x l ih=>intro s h;exact ih _ (by simp [stp,h])
 exact gen _ _ BA
theorem A38 (n K:Nat)(pre:List (Pr n)):(fld n K pre).2<=K:=by
 unfold fld
 have gen:∀(l:List (Nat×Int)) (s:List Nat×Nat),s.2<=K->(l.foldl stp s).2<=K:=by
  intro l
  induction l with
  | nil=>intro s h;exact h
  | cons x l ih=>intro s h;exact ih _ (Nat.le_trans (Nat.div_le_self _ _) h)
 exact gen _ _ (jF _)
theorem ADY (ns:List Nat)(K:Nat)(f:Nat->Pr ns.length)(hf:∀k,k<ns.length->(f k).1=(ns.length-1-k,((ns[ns.length-1-k]?.getD 0:Nat):Int))) :
  ∀k,k<=ns.length->fld ns.length K (upto f k)=(jR (ns.length-k) 0++(Cov.tupF (ns.drop (ns.length-k)) K).1,(Cov.tupF (ns.drop (ns.length-k)) K).2)
 | 0,_=>by
   rw[Nat.sub_zero,List.drop_eq_nil_of_le (jF _)];simp [fld,upto,Cov.tupF]
 | k+1,hk=>by
   have ih:=ADY ns K f hf k U;rw[upto_succ,ADZ,ih,hf k U];have hj:ns.length-(k+1)<ns.length:=U;have e1:ns.length-1-k=ns.length-(k+1):=U;have e2:ns.length-k=ns.length-(k+1)+1:=U;rw[Cov.tup_step hj,e1,e2,jI hj];generalize Cov.tupF (ns.drop (ns.length-(k+1)+1)) K=r;simp only[stp,jD,qB,Prod.mk.injEq,and_true];rw[List.replicate_succ',List.append_assoc,List.set_append_right _ _ BA];simp
theorem pG {ns:List Nat}{K:Nat}{w W0 W:World}{pre:List (Pr ns.length)}{xi xm s:Nat}{c:Array Value}{px:(xi,(xm:Int)).1<ns.length/\1<=(xi,(xm:Int)).2/\(xi,(xm:Int)).2<=64}{a:Act}(hs0:W0.heap.size=w.heap.size+4)(hx1:xi<ns.length)(hxn:xm≠0)
  (hk:W.cell? ⟨w.heap.size,0,none⟩=some (.int .i64 (s:Int))) (hkf:W.frozen? ⟨w.heap.size,0,none⟩=false) (hc1:W.heap[w.heap.size+1]?=some (.cells c 3 (0,0))) (hc2:c=((fld ns.length K pre).1.map fun n:Nat=>Value.int .i64 (n:Int)).toArray)
  (hbx:W.cell? ⟨w.heap.size+2,0,none⟩=some (.slice (some ⟨w.heap.size+1,0,none⟩) ns.length ns.length)) (hBW:Below w.heap.size w W) (hs:(fld ns.length K pre).2=s) (hcs:c.size=ns.length) :
  ownPostG W0.heap.size (Kb w.heap.size (w.heap.size+3))
   (fun pre W=>((W.cell? ⟨w.heap.size,0,none⟩=some (.int .i64 ((fld ns.length K pre).2:Nat))/\W.frozen? ⟨w.heap.size,0,none⟩=false)/\(∃c,W.heap[w.heap.size+1]?=some (.cells c 3 (0,0))/\c=((fld ns.length K pre).1.map fun n:Nat=>Value.int .i64 (n:Int)).toArray)/\W.cell? ⟨w.heap.size+2,0,none⟩=some (.slice (some ⟨w.heap.size+1,0,none⟩) ns.length ns.length))/\Below w.heap.size w W)
   (fun _ _ _=>False) (pre++[⟨(xi,(xm:Int)),px⟩]) W .normal a
   ((W.setCell ⟨w.heap.size+1,xi,none⟩ (.int .i64 ((s:Int)%(xm:Int)))).setCell ⟨w.heap.size,0,none⟩ (.int .i64 ((s:Int)/(xm:Int)))).drew:=by
 generalize hS:w.heap.size=S at *
 have hoth:∀k,k≠S->k≠S+1->((W.setCell ⟨S+1,xi,none⟩ (.int .i64 ((s:Int)%(xm:Int)))).setCell ⟨S,0,none⟩ (.int .i64 ((s:Int)/(xm:Int)))).drew.heap[k]?=W.heap[k]? := fun k h1 h2 =>
  (Below.heap_setCell _ ⟨S,0,none⟩ _ k h1).trans (Below.heap_setCell _ ⟨S+1,xi,none⟩ _ k h2)
 have hBl:Below S W ((W.setCell ⟨S+1,xi,none⟩ (.int .i64 ((s:Int)%(xm:Int)))).setCell ⟨S,0,none⟩ (.int .i64 ((s:Int)/(xm:Int)))).drew :=
  (((Below.refl S W).setCell (p:=⟨S+1,xi,none⟩) (Nat.le_succ S) _).setCell (p:=⟨S,0,none⟩) (jF S) _).drew
 have hst:fld ns.length K (pre++[⟨(xi,(xm:Int)),px⟩])=((fld ns.length K pre).1.set xi (s%xm),s/xm):=by
  rw[ADZ];simp only[stp,qB,hs]
 refine⟨⟨hBl.size,fun k o hk1 hk2 _=>(hoth k U U).trans hk2⟩,⟨hBl,fun v hv=>(World.cell?_of_block (hoth (S+3) U U)).trans hv⟩,⟨⟨⟨?_,?_⟩,⟨c.setIfInBounds xi (.int .i64 ((s:Int)%(xm:Int))),?_,?_⟩,?_⟩,hBW.trans hBl⟩⟩
 .rw[hst]
  have h1:(W.setCell ⟨S+1,xi,none⟩ (.int .i64 ((s:Int)%(xm:Int)))).cell? ⟨S,0,none⟩=some (.int .i64 (s:Int)):=(World.cell?_of_block (heap_setCell_other W ⟨S+1,xi,none⟩ S _ BA)).trans hk;exact World.cell?_setCell_same _ _ _ h1
 .simp_all
 .have h1:=heap_setCell_same W (S+1) xi c 3 (.int .i64 ((s:Int)%(xm:Int))) hc1
  exact(heap_setCell_other (W.setCell ⟨S+1,xi,none⟩ (.int .i64 ((s:Int)%(xm:Int)))) ⟨S,0,none⟩ (S+1) _ BA).trans h1
 .simp_all
 .exact(World.cell?_of_block (hoth (S+2) U U)).trans hbx
set_option maxRecDepth 100000 in
theorem tuple_in (F:Fence)(n:Nat)(h3:F.fn 212)(h5:F.fn 277)(h7:F.fn 315)(hro:F.round=none)(hn:3<=n)(b off cap:Nat)(ns:List Nat)(K:Nat)(w:World)(hb:b<w.heap.size)
  (hc:∀j,j<ns.length->w.cell? ⟨b,off+j,none⟩=some (.int .i64 ((ns[j]?.getD 0:Nat):Int))) (hlen:ns.length<=4) (hz:0<ns.length) (hpos:∀x∈ns,1<=x/\x<=64) (hK:K<=1048576) :
  CallsIn F n jA 212 #[.slice (some ⟨b,off,none⟩) ns.length cap,.int .i64 (K:Int)] w fun e W'=>Below w.heap.size w W'/\∃c ty,e=.returned (.slice (some ⟨w.heap.size+1,0,none⟩) ns.length ns.length) /\
   W'.heap[w.heap.size+1]?=some (.cells c ty (0,0))/\∀i (hi:i<(Cov.tupF ns K).1.length),c[i]?=some (.int .i64 (((Cov.tupF ns K).1[i]:Nat):Int)):=by
 have h1:1<=n:=U;refine callsIn_of_wp_marks Tryz.func212 rfl h3 ?_ hro;simp only[Tryz.ntmps212,List.size_toArray,List.length_cons,List.length_nil,Nat.reduceAdd,Nat.reduceSub,Array.replicate_succ,Array.replicate_zero,List.push_toArray,List.append_toArray,List.nil_append,List.cons_append];have hmk:=fun w:World=>A3D ns.length hlen w
 gi_wp2_with (gi_at_call 277;refine(AZ7 F (n-1) h5 hro _ _ _ _).mono ?_;rintro e w' ⟨rfl,rfl⟩)
 have hx:∀k,k<ns.length->ns.length-1-k<ns.length/\(1:Int)<=((ns[ns.length-1-k]?.getD 1:Nat):Int)/\((ns[ns.length-1-k]?.getD 1:Nat):Int)<=64:=by
  intro k hk;have hj:ns.length-1-k<ns.length:=U;rw[jI hj];have:=hpos _ (List.getElem_mem hj);simp only[jD];omega
 have hgd:∀k,k<ns.length->ns[ns.length-1-k]?.getD 1=ns[ns.length-1-k]?.getD 0:=by simp_all
 obtain⟨f,hf⟩:∃f:Nat->Pr ns.length,∀k,k<ns.length->(f k).1=(ns.length-1-k,((ns[ns.length-1-k]?.getD 0:Nat):Int)):=by
  .refine⟨fun k=>if hk:k<ns.length then ⟨(ns.length-1-k,((ns[ns.length-1-k]?.getD 1:Nat):Int)),hx k hk⟩ else ⟨(ns.length-1-0,((ns[ns.length-1-0]?.getD 1:Nat):Int)),hx 0 hz⟩,fun k hk=>?_⟩
   simp only[dif_pos hk,hgd k hk]
 have bK:=Boxed.new w 3 (.int .i64 (K:Int));have hzs:((ns.map fun n:Nat=>(n:Int)).length)=ns.length:=BA;have hzg:∀j:Nat,(ns.map fun n:Nat=>(n:Int))[j]?.getD 0=((ns[j]?.getD 0:Nat):Int):=by grind
 generalize hW0:((((w.alloc (Obj.cells #[Value.int .i64 (K:Int)] 3)).alloc (Obj.cells (Array.replicate ns.length (Value.int .i64 0)) 3)).alloc (Obj.cells #[Value.slice (some ⟨w.heap.size+1,0,none⟩) ns.length ns.length] 32)).alloc (Obj.cells #[Value.slice (some ⟨b,off,none⟩) ns.length cap] 32))=W0;have hs0:W0.heap.size=w.heap.size+4:=by rw[<-hW0];simp
 have hB0:Below w.heap.size w W0:=by
  rw[<-hW0];exact((((Below.refl _ w).alloc (jF _) _).alloc BA _).alloc LD _).alloc LD _
 refine wpIn_rangeFunc_ownG hro h1 (gf:=315) (lb := #[.pointer (some ⟨w.heap.size+3,0,none⟩)]) rfl h7 (enters_of Tryz.func315 AZ rfl)
  (w0:=W0) (AIK (fun x:Pr ns.length=>x.1) f F (n-1) h7 hro U (w.heap.size+3) w.heap.size b off cap (ns.map fun n:Nat=>(n:Int)) (by rw[hzs];omega) (fun k hk=>by rw[hzs] at hk;rw[hf k hk,hzs,hzg]) W0 U U hb ?box ?cells)
  (fun h k=>Kb.trans h k) ?keepb (Below.refl _ _) (fun _=>rfl)
  (fun pre W=>((W.cell? ⟨w.heap.size,0,none⟩=some (.int .i64 ((fld ns.length K pre).2:Nat))/\W.frozen? ⟨w.heap.size,0,none⟩=false)/\(∃c,W.heap[w.heap.size+1]?=some (.cells c 3 (0,0))/\c=((fld ns.length K pre).1.map fun n:Nat=>Value.int .i64 (n:Int)).toArray)/\W.cell? ⟨w.heap.size+2,0,none⟩=some (.slice (some ⟨w.heap.size+1,0,none⟩) ns.length ns.length))/\Below w.heap.size w W)
  (fun _ _ _=>False) ?own ?ownx ?start
  (fun x=>{ tmps := #[.slice (some ⟨b,off,none⟩) ns.length cap,.int .i64 (K:Int),undef,.pointer (some ⟨w.heap.size,0,none⟩),.slice none 0 0,.pointer (some ⟨w.heap.size+2,0,none⟩),.int .i64 (x.1.1:Int),.int .i64 x.1.2,.slice (some ⟨b,off,none⟩) ns.length cap,.int .i64 (ns.length:Int),.slice (some ⟨w.heap.size+1,0,none⟩) ns.length ns.length,.slice (some ⟨b,off,none⟩) ns.length cap,.func (.func 315) #[] #[.pointer (some ⟨w.heap.size+3,0,none⟩)],.int .i64 (x.1.1:Int),.int .i64 x.1.2,undef,undef,undef,undef,undef,undef,undef,undef,undef,undef],defers:=[] }) ?assign ?body ?done ?stop
 case box =>
  rw[<-hW0,hzs];have h3:=(Boxed.new (((w.alloc (Obj.cells #[Value.int .i64 (K:Int)] 3)).alloc (Obj.cells (Array.replicate ns.length (Value.int .i64 0)) 3)).alloc (Obj.cells #[Value.slice (some ⟨w.heap.size+1,0,none⟩) ns.length ns.length] 32)) 32 (.slice (some ⟨b,off,none⟩) ns.length cap)).cell;simpa using h3
 case cells =>
  intro j hj;rw[hzs] at hj;rw[hzg];exact(hB0.cell (p:=⟨b,off+j,none⟩) hb).trans (hc j hj)
 case keepb =>
  intro W l o o' hl ho hoc how;refine⟨belowK_b (w:=W0) U W l o o' hl ho hoc how,fun v hv=>?_⟩;exact cell_kept hv (grownBy_putObj' W l o') (fun r e=>by cases e;exact⟨o,ho,hoc⟩)
 case own =>
  refine OwnFrom.and (Own.from (fun s A B row hs hg hr=>⟨⟨cell_kept hs.1.1 hg hr,(frozen_kept hs.1.1 hg hr).trans hs.1.2⟩,?_,cell_kept hs.2.2 hg hr⟩) _) (ownFrom_below (jF _) U);obtain⟨c,h1,h2⟩:=hs.2.1;exact⟨c,(hg.block _ (Array.getElem?_eq_some_iff.1 h1).1 (fun e=>by obtain⟨o,ho,hcc⟩:=hr _ e.symm;rw[h1] at ho;cases ho;cases hcc)).trans h1,h2⟩
 case ownx=>exact fun _ _ _ _ _ hs _ _=>hs
 case start =>
  have g1:=((bK.alloc (Obj.cells (Array.replicate ns.length (Value.int .i64 0)) 3)).alloc (Obj.cells #[Value.slice (some ⟨w.heap.size+1,0,none⟩) ns.length ns.length] 32)).alloc (Obj.cells #[Value.slice (some ⟨b,off,none⟩) ns.length cap] 32);rw[hW0] at g1;refine⟨⟨⟨g1.cell,g1.frozen⟩,⟨Array.replicate ns.length (Value.int .i64 0),?_,?_⟩,?_⟩,hB0⟩
  .rw[<-hW0]
   refine(Below.heap_alloc _ _ _ BA).trans ((Below.heap_alloc _ _ _ BA).trans ?_);have:=World.alloc_heap_new (w.alloc (Obj.cells #[Value.int .i64 (K:Int)] 3)) (Obj.cells (Array.replicate ns.length (Value.int .i64 0)) 3)
   rwa [World.size_alloc] at this
  .simp [fld]
  .have g2:=(Boxed.new ((w.alloc (Obj.cells #[Value.int .i64 (K:Int)] 3)).alloc (Obj.cells (Array.replicate ns.length (Value.int .i64 0)) 3)) 32 (.slice (some ⟨w.heap.size+1,0,none⟩) ns.length ns.length)).alloc (Obj.cells #[Value.slice (some ⟨b,off,none⟩) ns.length cap] 32)
   rw[hW0] at g2;have h4:=g2.cell;rw[World.size_alloc,World.size_alloc] at h4;exact h4
 case assign =>
  intro l x W K hK
  gi_wp2
  exact hK
 case body =>
  rintro l pre ⟨⟨xi,xn⟩,hx1,hx2,hx3⟩ W ⟨⟨⟨hk,hkf⟩,⟨c,hc1,hc2⟩,hbx⟩,hBW⟩ hpre;simp only at hx1 hx2 hx3;obtain⟨s,hs⟩:∃s,(fld ns.length K pre).2=s:=⟨_,rfl⟩;rw[hs] at hk
  have hsK:s<=1048576:=by
   have:=A38 ns.length K pre;omega
  obtain⟨xm,rfl⟩:∃xm:Nat,xn=(xm:Int):=⟨xn.toNat,U⟩;have hxn:xm≠0:=U;have hcs:c.size=ns.length:=by rw[hc2];simp [AYX]
  have hoc:W.frozen? ⟨w.heap.size+1,xi,none⟩=false:=by simp [World.frozen?,hc1]
  have hcx:∃v,W.cell? ⟨w.heap.size+1,xi,none⟩=some v:=⟨c[xi]'U,by simp [World.cell?,hc1,hcs,hx1]⟩;obtain⟨v0,hv0⟩:=hcx;have hq0:(0:Int)<=(s:Int)/(xm:Int):=Int.ediv_nonneg U U;have hq1:(s:Int)/(xm:Int)<=1048576:=Int.le_trans (Int.ediv_le_self _ U) U
  gi_wp2
  rename_i Qb Kr hKr;refine wpIn_region_any AZ ?_;refine tD (F':=F) (fun i o ho=>?_) _ _ _ _ ?_
  .match i,ho with
   | 0,ho=>cases ho;exact⟨rfl,rfl⟩
   | 1,ho=>cases ho;exact⟨rfl,rfl⟩
   | 2,ho=>cases ho;exact⟨rfl,rfl⟩
   | 3,ho=>cases ho;exact⟨rfl,rfl⟩
   | 4,ho=>cases ho;exact⟨rfl,rfl⟩
   | 5,ho=>cases ho;exact⟨rfl,rfl⟩
   | 6,ho=>cases ho;exact⟨rfl,rfl⟩
   | i+7,ho=>simp at ho
  change wpAnyIn _ _ _ _ _ _ _ _ _ (World.drew _);refine wpAnyIn_take (i:=1) (v := ?_) hro rfl AZ AZ AZ (fun _ _ _ h=>h) ⟨Or.inl ⟨by rfl,?_⟩,fun _=>rfl⟩ ?_
  rotate_left
  .intro w;go_simp;rfl
  refine wpAnyIn_take (i:=3) (v := ?_) hro rfl AZ AZ AZ (fun _ _ _ h=>h) ⟨Or.inl ⟨by rfl,?_⟩,fun _=>rfl⟩ ?_
  rotate_left
  .intro w;go_simp;rfl
  refine wpAnyIn_ready (rs:=[0,2]) AZ BA ?_;refine AllReadyIn.cons rfl (fun K hK=>?_) (AllReadyIn.cons rfl (fun K hK=>?_) AllReadyIn.nil)
  .go_simp
   refine hK _ _ ?_;clear hK K;refine wpAnyIn_ready (rs:=[2]) AZ BA ?_;refine AllReadyIn.cons rfl (fun K hK=>?_) AllReadyIn.nil
   go_simp
   refine hK _ _ ?_;clear hK K;refine wpAnyIn_ready (rs:=[4]) AZ BA ?_;refine AllReadyIn.cons rfl (fun K hK=>?_) AllReadyIn.nil
   go_simp
   refine hK _ _ ?_;clear hK K;refine wpAnyIn_ready (rs:=[5]) AZ BA ?_;refine AllReadyIn.cons rfl (fun K hK=>?_) AllReadyIn.nil
   go_simp
   refine hK _ _ ?_;clear hK K;refine wpAnyIn_ready (rs:=[6]) AZ BA ?_;refine AllReadyIn.cons rfl (fun K hK=>?_) AllReadyIn.nil
   go_simp
   refine hK _ _ ?_;clear hK K;refine wpAnyIn_done AZ ?_ _;refine hKr _ _ ?_;clear hKr
   gi_wp2
   exact pG hs0 hx1 hxn hk hkf hc1 hc2 hbx hBW hs hcs
  .go_simp
   refine hK _ _ ?_;clear hK K;refine wpAnyIn_ready (rs:=[0,4]) AZ BA ?_;refine AllReadyIn.cons rfl (fun K hK=>?_) (AllReadyIn.cons rfl (fun K hK=>?_) AllReadyIn.nil)
   .go_simp
    refine hK _ _ ?_;clear hK K;refine wpAnyIn_ready (rs:=[4]) AZ BA ?_;refine AllReadyIn.cons rfl (fun K hK=>?_) AllReadyIn.nil
    go_simp
    refine hK _ _ ?_;clear hK K;refine wpAnyIn_ready (rs:=[5]) AZ BA ?_;refine AllReadyIn.cons rfl (fun K hK=>?_) AllReadyIn.nil
    go_simp
    refine hK _ _ ?_;clear hK K;refine wpAnyIn_ready (rs:=[6]) AZ BA ?_;refine AllReadyIn.cons rfl (fun K hK=>?_) AllReadyIn.nil
    go_simp
    refine hK _ _ ?_;clear hK K;refine wpAnyIn_done AZ ?_ _;refine hKr _ _ ?_;clear hKr
    gi_wp2
    exact pG hs0 hx1 hxn hk hkf hc1 hc2 hbx hBW hs hcs
   .go_simp
    refine hK _ _ ?_;clear hK K;refine wpAnyIn_ready (rs:=[0]) AZ BA ?_;refine AllReadyIn.cons rfl (fun K hK=>?_) AllReadyIn.nil
    go_simp
    refine hK _ _ ?_;clear hK K;refine wpAnyIn_ready (rs:=[5]) AZ BA ?_;refine AllReadyIn.cons rfl (fun K hK=>?_) AllReadyIn.nil
    go_simp
    refine hK _ _ ?_;clear hK K;refine wpAnyIn_ready (rs:=[6]) AZ BA ?_;refine AllReadyIn.cons rfl (fun K hK=>?_) AllReadyIn.nil
    go_simp
    refine hK _ _ ?_;clear hK K;refine wpAnyIn_done AZ ?_ _;refine hKr _ _ ?_;clear hKr
    gi_wp2
    exact pG hs0 hx1 hxn hk hkf hc1 hc2 hbx hBW hs hcs
 case done =>
  rintro D ys W hD rfl ⟨⟨_,⟨c,hcc,he⟩,hc5⟩,hB⟩ hKD
  gi_wp2
  refine⟨BA,.inl ⟨_,_,rfl,run_takeDeferred hKD,?_⟩⟩;refine⟨_,results_tmp rfl _ _ _,hB.trans (belowK_b (w:=w) (jF _) W D _ _ U hKD rfl rfl),c,3,rfl,?_,?_⟩
  .exact((grownBy_putObj' W D (.deferred none)).block _ (Array.getElem?_eq_some_iff.1 hcc).1 (fun e=>by cases e;rw[hcc] at hKD;cases hKD)).trans hcc
  .intro i hi
   have hfu:=ADY ns K f hf ns.length (jF _);rw[Nat.sub_self,List.drop_zero] at hfu;rw[hzs] at he;rw[he,hfu];simp [hi]
 case stop =>
  rintro D c pre W _ _ h _;exact h.elim
end Go.Proofs.YtiihpnicbekebaaGreatDoor.Back
namespace Go.Proofs.YtiihpnicbekebaaGreatDoor.Cov
open Sm Bins Go.RowKit
theorem A5Q (G:Nat->AV):eT G:=by
 intro ns s K h hz hlen hpos hK
 have hne:TC ns K≠[]:=by
  intro e;have h1:(TC ns K).length=ns.length:=by unfold TC;rw[jP,XU]
  rw[e] at h1;simp at h1;omega
 have hnn:ns.map KN≠[]:=by
  intro e;have:=congrArg List.length e;simp at this;rw[this] at hz;cases hz
 refine PCall.of_ints (cok 212 G AZ) hne fun g w cargs S ha=>?_
 obtain⟨hsz,hget⟩:=ha
 obtain⟨cv0,cv1,rfl⟩:∃a b,cargs = #[a,b]:=by
  obtain⟨l⟩:=cargs
  match l,hsz with
  | [a,b],_=>exact⟨a,b,rfl⟩
 have r0:=(hget 0 _ _ rfl rfl).sl_inv;have r1:=(hget 1 _ _ rfl rfl).int_inv;subst r1;generalize hxs:ns.map KN=xs at r0
 cases r0 with
 | nil=>rw[hxs] at hnn;exact absurd rfl hnn
 | empty=>rw[hxs] at hnn;exact absurd rfl hnn
 | sl _ _ _ cb co c e fz cap cv q1 q2 q3 q4 q5 q6 q7 q8 =>
   subst hxs;have hw:=S.fro _ _ q3;have hcb:cb<w.heap.size:=(Array.getElem?_eq_some_iff.1 hw).1;rw[jP]
   have hc:∀j,j<ns.length->w.cell? ⟨cb,co+j,none⟩=some (.int .i64 ((ns[j]?.getD 0:Nat):Int)):=by
    intro j hj;have h1:=q5 j 0 (BM hj) U;have h2:=q6 j 0 (KN ns[j]) (.n (ns[j]:Int)) (by rw[List.getElem?_map,jI hj];rfl) rfl;rw[Nat.mul_one,Nat.add_zero] at h1;rw[S9 hw,h1,jI hj,Option.getD_some];generalize cv j 0=u at h2;cases h2;rfl
   have hin:=Back.tuple_in Fence.wide 3 trivial trivial trivial rfl (jF 3) cb co cap ns K w hcb hc hlen hz hpos hK;refine(callsIn_wide.1 hin).mono ?_;rintro e W' ⟨hB,c',ty,rfl,hh,hcell⟩;have hl:(TC ns K).length=ns.length:=by unfold TC;rw[jP,XU]
   refine⟨hB,w.heap.size+1,c',ty,ns.length,by rw[hl],Nat.le_succ _,hh,by rw[hl];exact jF _,fun i hi=>?_⟩;have hi':i<(tupF ns K).1.length:=by rw[XU,<-hl];exact hi
   rw[hcell i hi'];simp [TC]
end Go.Proofs.YtiihpnicbekebaaGreatDoor.Cov
namespace Go.Proofs.YtiihpnicbekebaaGreatDoor.Head
variable {s:String} {P:Program}

def signs:List Char:=([104,97,114,110,101,115,115,32,54,57,97,57,99,52,100,99,98,100,53,49,98,99,54,100,49,55,51,51,49,98,54,56,98,55,53,55,53,56,48,52,49,57,97,56,57,99,57,55,53,54,100,48,98,53,101,102,48,56,50,51,98,57,56,54,57,51,99,52,53,100,48,101,32,99,117,116,32,97,116,32,116,101,115,116,98,101,110,99,104,47,116,101,115,116,98,101,110,99,104,108,97,119,53,49,46,67,108,111,115,117,114,101,82,101,97,99,104,101,115,32,116,101,115,116,98,101,110,99,104,47,116,101,115,116,98,101,110,99,104,108,97,119,53,49,46,67,108,111,115,117,114,101,80,108,97,110,115,32,116,101,115,116,98,101,110,99,104,47,116,101,115,116,98,101,110,99,104,108,97,119,53,49,46,67,108,111,115,117,114,101,68,105,118,105,100,101,115,32,116,101,115,116,98,101,110,99,104,47,116,101,115,116,98,101,110,99,104,108,97,119,53,49,46,67,108,111,115,117,114,101,73,116,101,109,115,32,116,101,115,116,98,101,110,99,104,47,116,101,115,116,98,101,110,99,104,108,97,119,53,49,46,67,108,111,115,117,114,101,80,114,111,118,101,115,32,116,101,115,116,98,101,110,99,104,47,116,101,115,116,98,101,110,99,104,108,97,119,53,49,46,67,108,111,115,117,114,101,72,105,116,115]:List Nat).map Char.ofNat
theorem ARH:Tryz.pinned.checked.prog.initOrder=String.ofList signs:=AZ
theorem sM {l:List Char}(h:s=String.ofList l):s.toList=l:=by rw[h,String.toList_ofList]
theorem dB:Tryz.pinned.checked.prog.initOrder.toList=signs:=sM ARH
def AEQ:List Char:=(signs.drop 73).take 3
def AQ3:List (List Char):=wordsSigns (signs.drop 77)
def hsum:List Char:=(signs.drop 8).take 64
theorem lT:behindMainWord (wordsSigns signs)=AEQ::AQ3:=AZ
theorem A2J:wordsSigns signs=signs.take 7::hsum::wordsSigns (signs.drop 73):=AZ
theorem ABA:stripLifts liftWords (AEQ::AQ3)=([],AEQ::AQ3):=AZ
theorem AZB:Tryz.pinned.checked.prog.doorFits []=true:=AZ
theorem ASA:Tryz.pinned.checked.prog.laysLater=false:=AZ
theorem AWQ:Tryz.pinned.checked.prog.bearsReflect=false:=AZ
theorem A4O:(AEQ == "cut".toList)=true:=AZ
theorem AEP:((some AEQ)==some "cut".toList)=true:=AZ
theorem A6H:(AEQ == "gc".toList)=false:=AZ
theorem AXH:(AEQ == "spec".toList)=false:=AZ
theorem AXI:(some AEQ==some "carried".toList)=false:=AZ
theorem sum_is:isSumSigns hsum=true:=AZ
theorem A3S:(signs.take 7 == "harness".toList)=true:=AZ
theorem ATQ (h:P.initOrder.toList=signs)(hd:P.doorFits []=true)(hl:P.laysLater=false)(hr:P.bearsReflect=false):P.mayEnter=true:=by
 unfold Program.mayEnter;generalize P.initOrder.toList=l at h;subst h;rw[lT];simp only[ABA,hd,hl,hr,jS,List.head?_cons,Bool.not_false,Bool.or_true,Bool.and_true,AEP]
theorem AXV (h:P.initOrder.toList=signs):P.make=some .cut:=by
 unfold Program.make;generalize P.initOrder.toList=l at h;subst h;rw[lT];simp only[A6H,AXH,A4O,zO,Bool.false_eq_true,if_false,Bool.true_or,if_true]
theorem AOR (h:P.initOrder.toList=signs):P.liftsFinal=false:=by
 unfold Program.liftsFinal Program.headLifts;generalize P.initOrder.toList=l at h;subst h;rw[lT];simp only[ABA,List.head?_cons,AXI,AEP,Bool.false_and,Bool.false_or,if_true,jS]
theorem AXW (h:P.initOrder.toList=signs)(hs:s=String.ofList hsum):P.mainIs=some (true,s.toList):=by
 rw[sM hs];unfold Program.mainIs;generalize P.initOrder.toList=l at h;subst h;rw[A2J]
 show(if !isSumSigns hsum then none else if signs.take 7 == "harness".toList then some (true,hsum) else if signs.take 7 == "ownmain".toList then some (false,hsum) else none)=_
 rw[sum_is,A3S];rfl
theorem A7Q:Tryz.pinned.checked.prog.mayEnter=true:=ATQ dB AZB ASA AWQ
theorem make_is:Tryz.pinned.checked.prog.make=some .cut:=AXV dB
theorem A5D:Tryz.pinned.checked.prog.liftsFinal=false:=AOR dB
theorem A9O (hs:s=String.ofList hsum):Tryz.pinned.checked.prog.mainIs=some (true,s.toList):=AXW dB hs
theorem A9S (h:P.funcs.any Func.goes=false)(s:String):P.goesFrom s=false:=by
 have hg:∀g:FuncId,(P.funcs[g]?).any Func.goes=false:=fun g=>by
  cases hq:P.funcs[g]? with
  | none=>rfl
  | some fn =>
    show fn.goes=false;rw[Array.any_eq_false'] at h;have:=h fn (Array.mem_of_getElem? hq);simpa using this
 unfold Program.goesFrom
 cases P.funcNamed s with
 | none=>rfl
 | some f =>
   show P.goes f=false;unfold Program.goes;rw[h,Bool.and_false,zO];simp [hg]
theorem BBZ:Tryz.pinned.checked.prog.funcs.any Func.goes=false:=AZ
theorem A69:Tryz.pinned.checked.prog.stopsHeard=true:=AZ
theorem A9Q:laidOutB Tryz.pinned.checked.prog=true:=AZ
theorem A9N:mapsRowed Tryz.pinned.checked.prog=true:=AZ
end Go.Proofs.YtiihpnicbekebaaGreatDoor.Head
namespace Go.Proofs.YtiihpnicbekebaaGreatDoor.Cov
open Sm Bins Go.RowKit
variable {b:Nat}
def okR (r:Rng)(_:Nat):Prop:=(-9223372036854775808<=r.lo/\r.lo<=9223372036854775807)/\(-9223372036854775808<=r.hi/\r.hi<=9223372036854775807)
theorem cl3:Tryz.prog.cellsOf 3=1:=AZ
theorem cl9:Tryz.prog.cellsOf 9=1:=AZ
theorem A7Z:Tryz.prog.cellsOf 84=1:=AZ
theorem BAX:Tryz.prog.cellsOf 85=1:=AZ
theorem A4S:Tryz.prog.cellsOf 23=1:=AZ
theorem A4R:Tryz.prog.cellsOf 79=4:=AZ
theorem BAZ:Tryz.prog.cellsOf 80=1:=AZ
theorem BAY:Tryz.prog.cellsOf 82=6:=AZ
theorem BAW:Tryz.prog.cellsOf 87=4:=AZ
theorem BAV:Tryz.prog.cellsOf 90=3:=AZ
theorem APC:Tryz.prog.cellsOf 32=1:=AZ
theorem AZR:Tryz.prog.cellsOf 25=1:=AZ
theorem BA5:Tryz.prog.cellsOf 28=1:=AZ
theorem BA4:Tryz.prog.cellsOf 29=1:=AZ
theorem BA3:Tryz.prog.cellsOf 31=2:=AZ
theorem BA1:Tryz.prog.cellsOf 46=4:=AZ
theorem rdI:Rd jA 3 qencI okI:=A2Y Tryz.underlying3
theorem rdStr:Rd jA 9 qencStr okS:=A2X Tryz.underlying9
theorem NT {α:Type}{ok:α->Nat->Prop}{xs:List α}(h:∃b',b'+1<=b/\okL ok xs b'):okL ok xs b:=by obtain⟨b',h1,h2⟩:=h;exact h2.mono U
def ANL (x:Is)(b:Nat):Prop:=okL okI x.l b
theorem AWR:Rd jA 32 encL ANL:=by
 intro n
 cases n with
 | zero=>exact RdAt.zero
 | succ n=>exact RdAt.map (fun x:SM×List Int=>(⟨x.1,x.2⟩:Is)) (J9 Tryz.underlying32 cl3 DT (fun _=>rfl) (rdI n)) (fun _=>rfl) (fun x b h=>NT h)
def okE (e:Ex)(b:Nat):Prop:=wt e<=b
theorem ACW:∀ {l:List Ex} {b:Nat},okL okE l b->wts l<=b
 | [],b,_=>Nat.zero_le _
 | x::xs,b,⟨b1,b2,h1,_,h3,h4⟩=>by
   have:=ACW h4;simp only[wts];unfold okE at h3;omega
theorem rdE:∀n:Nat,RdAt jA n 79 A8 okE:=by
 intro n
 induction n using Nat.strongRecOn with
 | _ n ih =>
   match n,ih with
   | 0,_=>exact RdAt.zero
   | 1,_ =>
     intro H ench w cs d ps h;obtain⟨zs,m,hm,_,_,hl,hz⟩:=DataW.trod_struct Tryz.underlying79 h;obtain rfl:m=0:=U;have:=hz 0 _ rfl;simp only[DataW.trod] at this
     have h0:zs=[]:=by cases zs with
      | nil=>rfl
      | cons a l=>simp at this
     subst h0;simp at hl
   | n+2,ih =>
     have rdA:RdAt jA (n+1) 23 (fun x:SM×List Ex=>[.sl x.1 4 (x.2.map A8)]) (fun x b=>∃b',b'+1<=b/\okL okE x.2 b'):=J9 Tryz.underlying23 A4R DT EG (ih n U)
     refine RdAt.map (fun x:Int×Int×ByteArray×(SM×List Ex)×Unit=>Ex.mk x.1 x.2.1 x.2.2.1 x.2.2.2.1.1 x.2.2.2.1.2)
      (KF Tryz.underlying79 (EJ rfl cl3 (fun _=>rfl) (rdI _) (EJ rfl cl3 (fun _=>rfl) (rdI _) (EJ rfl cl9 (fun _=>rfl) (rdStr _) (EJ rfl A4S (fun _=>rfl) rdA N9))))) (fun x=>by rw[FI];rfl) ?_
     rintro⟨a,b,c,d,_⟩ N ⟨_,hN,b1,b2,hb,h1,b3,b4,hb2,h2,b5,b6,hb3,h3,b7,b8,hb4,⟨b9,h5,h6⟩,_⟩;have h7:=ACW h6;unfold okS at h3;show wt _<=_;rw[MQ];simp only[Ex.name,Ex.args];simp only at h3 h7;omega
theorem rdR:Rd jA 145 encR okR:=by
 intro n
 cases n with
 | zero=>exact RdAt.zero
 | succ n =>
   refine RdAt.map (fun x:Int×Int×Unit=>(⟨x.1,x.2.1⟩:Rng)) (KF Tryz.underlying145 (EJ rfl cl3 (fun _=>rfl) (rdI n) (EJ rfl cl3 (fun _=>rfl) (rdI n) N9))) (fun _=>rfl) ?_;rintro⟨a,b,_⟩ N ⟨_,_,_,_,_,h1,_,_,_,h2,_⟩;exact⟨h1,h2⟩
theorem A71:Tryz.prog.cellsOf 145=2:=AZ
def AW9 (x:Rs)(b:Nat):Prop:=okL okR x.l b
theorem A59:Rd jA 84 encS AW9:=by
 intro n
 cases n with
 | zero=>exact RdAt.zero
 | succ n=>exact RdAt.map (fun x:SM×List Rng=>(⟨x.1,x.2⟩:Rs)) (J9 Tryz.underlying84 A71 DT YS (rdR n)) (fun _=>rfl) (fun x b h=>NT h)
def okB (x:Bin)(b:Nat):Prop:=∃b1 b2 b3,b1+b2+b3<=b/\okS x.name b1/\AW9 x.ranges b2/\okL AW9 x.steps b3
theorem rdB:Rd jA 87 GG okB:=by
 intro n
 match n with
 | 0=>exact RdAt.zero
 | 1 =>
   intro H ench w cs d ps h;obtain⟨zs,m,hm,_,_,hl,hz⟩:=DataW.trod_struct Tryz.underlying87 h;obtain rfl:m=0:=U;have:=hz 0 _ rfl;simp only[DataW.trod] at this
   have h0:zs=[]:=by cases zs with
    | nil=>rfl
    | cons a l=>simp at this
   subst h0;simp at hl
 | n+2 =>
   have rdSt:RdAt jA (n+1) 85 (fun x:SM×List Rs=>[.sl x.1 1 (x.2.map encS)]) (fun x b=>∃b',b'+1<=b/\okL AW9 x.2 b'):=J9 Tryz.underlying85 A7Z DT (fun _=>rfl) (A59 n)
   refine RdAt.map (fun x:ByteArray×Int×Rs×(SM×List Rs)×Unit=>(⟨x.1,x.2.1,x.2.2.1,x.2.2.2.1.1,x.2.2.2.1.2⟩:Bin))
    (KF Tryz.underlying87 (EJ rfl cl9 (fun _=>rfl) (rdStr _) (EJ rfl cl3 (fun _=>rfl) (rdI _) (EJ rfl A7Z (fun _=>rfl) (A59 _) (EJ rfl BAX (fun _=>rfl) rdSt N9))))) (fun _=>rfl) ?_
   rintro⟨a,b,c,d,_⟩ N ⟨_,hN,b1,b2,hb,h1,b3,b4,hb2,h2,b5,b6,hb3,h3,b7,b8,hb4,h4,_⟩;exact⟨b1,b5,b7,U,h1,h3,NT h4⟩
theorem AUM {x:Bin}(h:okB x b)(hb:b<=1048576):BinOk x:=by
 obtain⟨b1,b2,b3,h0,h1,h2,h3⟩:=h;have l2:=h2.length;have l3:=h3.length
 have hs:∀l∈sets x,l.l.length<=1048576:=by
  intro l hl;unfold sets at hl;split at hl
  .simp at hl;subst hl;omega
  .obtain⟨b4,h4,h5⟩:=h3.each l hl
   have:=h5.length;omega
 refine⟨?_,?_,U,fun l hl=>by have:=hs l hl;omega⟩
 .unfold sets
  split
  .simp
  .omega
 .unfold okS at h1;omega
theorem bG {t:TypeId}{f:Field}{fs:List Field}{α:Type}{enc:α->List AV}{ok:α->Nat->Prop}(hu:Tryz.prog.underlying t=some (.struct (f::fs).toArray)):RdAt jA 1 t enc ok:=by
 intro H ench w cs d ps h;obtain⟨zs,m,hm,_,_,hl,hz⟩:=DataW.trod_struct hu h;obtain rfl:m=0:=U;have:=hz 0 _ rfl;simp only[DataW.trod] at this
 have h0:zs=[]:=by cases zs with
  | nil=>rfl
  | cons a l=>simp at this
 subst h0;simp at hl
def AXA (p:Pt)(b:Nat):Prop:=∃b1 b2 b3,b1+b2+b3<=b/\okS p.name b1/\okE p.ex b2/\okL okB p.bins b3
theorem rdP:Rd jA 82 FK AXA:=by
 intro n
 match n with
 | 0=>exact RdAt.zero
 | 1=>exact bG Tryz.underlying82
 | n+2 =>
   have rdBs:RdAt jA (n+1) 80 (fun x:SM×List Bin=>[.sl x.1 4 (x.2.map GG)]) (fun x b=>∃b',b'+1<=b/\okL okB x.2 b'):=J9 Tryz.underlying80 BAW DT LC (rdB n)
   refine RdAt.map (fun x:ByteArray×Ex×(SM×List Bin)×Unit=>(⟨x.1,x.2.1,x.2.2.1.1,x.2.2.1.2⟩:Pt))
    (KF Tryz.underlying82 (EJ rfl cl9 (fun _=>rfl) (rdStr _) (EJ rfl A4R EG (rdE _) (EJ rfl BAZ (fun _=>rfl) rdBs N9)))) (fun x=>rfl) ?_
   rintro⟨a,b,c,_⟩ N ⟨_,hN,b1,b2,hb,h1,b3,b4,hb2,h2,b5,b6,hb3,h3,_⟩;exact⟨b1,b3,b5,U,h1,h2,NT h3⟩
def AXE (c:Cr)(b:Nat):Prop:=∃b1 b2 b3,b1+b2+b3<=b/\okS c.name b1/\okL okI c.pts b2/\okL ANL c.excl b3
theorem rdC:Rd jA 90 IA AXE:=by
 intro n
 match n with
 | 0=>exact RdAt.zero
 | 1=>exact bG Tryz.underlying90
 | n+2 =>
   have rdXs:RdAt jA (n+1) 25 (fun x:SM×List Is=>[.sl x.1 1 (x.2.map encL)]) (fun x b=>∃b',b'+1<=b/\okL ANL x.2 b'):=J9 Tryz.underlying25 APC DT eD (AWR n)
   refine RdAt.map (fun x:ByteArray×Is×(SM×List Is)×Unit=>(⟨x.1,x.2.1.m,x.2.1.l,x.2.2.1.1,x.2.2.1.2⟩:Cr))
    (KF Tryz.underlying90 (EJ rfl cl9 (fun _=>rfl) (rdStr _) (EJ rfl APC eD (AWR _) (EJ rfl AZR (fun _=>rfl) rdXs N9)))) (fun x=>rfl) ?_
   rintro⟨a,b,c,_⟩ N ⟨_,hN,b1,b2,hb,h1,b3,b4,hb2,h2,b5,b6,hb3,h3,_⟩;exact⟨b1,b3,b5,U,h1,h2,NT h3⟩
def okM (m:Mo)(b:Nat):Prop:=∃b1 b2,b1+b2<=b/\okL AXA m.pts b1/\okL AXE m.crs b2
theorem rdM:Rd jA 31 DV okM:=by
 intro n
 match n with
 | 0=>exact RdAt.zero
 | 1=>exact bG Tryz.underlying31
 | n+2 =>
   have rdPs:RdAt jA (n+1) 28 (fun x:SM×List Pt=>[.sl x.1 6 (x.2.map FK)]) (fun x b=>∃b',b'+1<=b/\okL AXA x.2 b'):=J9 Tryz.underlying28 BAY DT H9 (rdP n);have rdCs:RdAt jA (n+1) 29 (fun x:SM×List Cr=>[.sl x.1 3 (x.2.map IA)]) (fun x b=>∃b',b'+1<=b/\okL AXE x.2 b'):=J9 Tryz.underlying29 BAV DT O4 (rdC n)
   refine RdAt.map (fun x:(SM×List Pt)×(SM×List Cr)×Unit=>(⟨x.1.1,x.1.2,x.2.1.1,x.2.1.2⟩:Mo))
    (KF Tryz.underlying31 (EJ rfl BA5 (fun _=>rfl) rdPs (EJ rfl BA4 (fun _=>rfl) rdCs N9))) (fun x=>rfl) ?_
   rintro⟨a,b,_⟩ N ⟨_,hN,b1,b2,hb,h1,b3,b4,hb2,h2,_⟩;exact⟨b1,b3,U,NT h1,NT h2⟩
def okV (v:Cvr)(b:Nat):Prop:=∃b1 b2,b1+b2<=b/\okL ANL v.pts b1/\okL ANL v.crs b2
theorem rdV:Rd jA 46 encV okV:=by
 intro n
 match n with
 | 0=>exact RdAt.zero
 | 1=>exact bG Tryz.underlying46
 | n+2 =>
   have rdXs:RdAt jA (n+1) 25 (fun x:SM×List Is=>[.sl x.1 1 (x.2.map encL)]) (fun x b=>∃b',b'+1<=b/\okL ANL x.2 b'):=J9 Tryz.underlying25 APC DT eD (AWR n)
   refine RdAt.map (fun x:(SM×List Is)×(SM×List Is)×Int×Int×Unit=>(⟨x.1.1,x.1.2,x.2.1.1,x.2.1.2,x.2.2.1,x.2.2.2.1⟩:Cvr))
    (KF Tryz.underlying46 (EJ rfl AZR (fun _=>rfl) rdXs (EJ rfl AZR (fun _=>rfl) rdXs (EJ rfl cl3 (fun _=>rfl) (rdI _) (EJ rfl cl3 (fun _=>rfl) (rdI _) N9))))) (fun x=>rfl) ?_
   rintro⟨a,b,c,d,_⟩ N ⟨_,hN,b1,b2,hb,h1,b3,b4,hb2,h2,_⟩;exact⟨b1,b3,U,NT h1,NT h2⟩
theorem AWU {p:Pt}(h:AXA p b)(hb:b<=1048576):PtOk p:=by
 obtain⟨b1,b2,b3,h0,h1,h2,h3⟩:=h;have l3:=h3.length;unfold okS at h1;unfold okE at h2;refine⟨U,U,U,fun x hx=>?_⟩;obtain⟨b4,h4,h5⟩:=h3.each x hx;exact AUM h5 U
theorem AZG {c:Cr}(h:AXE c b)(hb:b<=1048576):CrOk c:=by
 obtain⟨b1,b2,b3,h0,h1,h2,h3⟩:=h;have l2:=h2.length;have l3:=h3.length;unfold okS at h1;refine⟨U,U,U,fun x hx=>?_⟩;obtain⟨b4,h4,h5⟩:=h3.each x hx;have:=okL.length h5;omega
theorem AXP {m:Mo}(h:okM m b)(hb:b<=1048576):MoOk m:=by
 obtain⟨b1,b2,h0,h1,h2⟩:=h;have l1:=h1.length;have l2:=h2.length;refine⟨U,U,fun p hp=>?_,fun c hc=>?_⟩
 .obtain⟨b4,h4,h5⟩:=h1.each p hp
  exact AWU h5 U
 .obtain⟨b4,h4,h5⟩:=h2.each c hc
  exact AZG h5 U
theorem AZD {v:Cvr}(h:okV v b)(hb:b<=1048576):CvOk v:=by
 obtain⟨b1,b2,h0,h1,h2⟩:=h;have l1:=h1.length;have l2:=h2.length;refine⟨U,U,fun x hx=>?_,fun x hx=>?_⟩
 .obtain⟨b4,h4,h5⟩:=h1.each x hx
  have:=okL.length h5;omega
 .obtain⟨b4,h4,h5⟩:=h2.each x hx
  have:=okL.length h5;omega
end Go.Proofs.YtiihpnicbekebaaGreatDoor.Cov
namespace Go.Proofs.YtiihpnicbekebaaGreatDoor.Bd.Cl
open Sm Bins Cov Xe Wd Bl Ho Go.RowKit
variable {m:Mo} {v:Cvr} {p:Pr}
def XG (g:Gl):Hl:=⟨g.cross,g.idx,g.bm,g.bins⟩
theorem AYL (hm:MoOk m):∀g∈goals m,g.bins.length<=1048576:=by
 have h1:∀(i:Nat) (p:Pt) (k:Nat),∀g∈gPk i p k,g.bins.length<=1048576:=by
  intro i p k
  induction k with
  | zero=>intro g hg;cases hg
  | succ k ih =>
    intro g hg;rcases zK.1 hg with h|h
    .exact ih g h
    .split at h
     .rw[wI.1 h];show 1<=_;omega
     .cases h
 have h2:∀k,∀g∈gP m k,g.bins.length<=1048576:=by
  intro k
  induction k with
  | zero=>intro g hg;cases hg
  | succ k ih =>
    intro g hg;rcases zK.1 hg with h|h
    .exact ih g h
    .grind
 have h3:∀(i:Nat) (c:Cr),c.pts.length<=1048576->∀k,∀g∈gCk m i c k,g.bins.length<=1048576:=by
  intro i c hc k
  induction k with
  | zero=>intro g hg;cases hg
  | succ k ih =>
    intro g hg;rcases zK.1 hg with h|h
    .exact ih g h
    .split at h
     .rw[wI.1 h]
      show(TC (szs m c.pts) k).length<=_;unfold TC;rw[jP,XU,SG];exact hc
     .cases h
 have h4:∀k,∀g∈gC m k,g.bins.length<=1048576:=by
  intro k
  induction k with
  | zero=>exact h2 _
  | succ k ih =>
    intro g hg;rcases zK.1 hg with h|h
    .exact ih g h
    .cases hq:m.crs[k]? with
     | none=>rw[hq] at h;cases h
     | some c=>rw[hq] at h;exact h3 _ _ (hm.crs c (zZ hq)).pts _ g h
 exact h4 _
theorem AYC (hm:MoOk m):∀g∈OM m v,(XG g).bins.length<=1048576:=by
 intro g hg;unfold OM at hg;split at hg
 .exact AYL hm g (List.mem_filter.1 hg).1
 .cases hg
theorem A3Q (m:Mo)(v:Cvr):(OM m v).length<=8192:=by
 unfold OM;split
 .rename_i hf
  exact Nat.le_trans (List.length_filter_le _ _) (tU (UU (nZ hf)))
 .exact Nat.zero_le _
def rE (f:Gl->Int)(most:Int)(s:List Gl×List Gl)(g:Gl):List Gl×List Gl :=
 if f g=11 then (s.1,s.2++[g]) else if f g=0/\(s.1.length:Int)<most then (s.1++[g],s.2) else s
def ZY (f:Gl->Int)(most:Int)(L:List Gl):List Gl×List Gl:=L.foldl (rE f most) ([],[])
theorem ANC (f:Gl->Int)(most:Int)(L:List Gl)(g:Gl):ZY f most (L++[g])=rE f most (ZY f most L) g:=by unfold ZY;rw[List.foldl_append];rfl
theorem ARC (f:Gl->Int)(most:Int)(L:List Gl):(ZY f most L).1.length<=L.length/\(ZY f most L).2.length<=L.length:=by
 have:∀(L:List Gl) (s:List Gl×List Gl),(L.foldl (rE f most) s).1.length<=s.1.length+L.length/\(L.foldl (rE f most) s).2.length<=s.2.length+L.length:=by
  intro L
  induction L with
  | nil=>intro s;exact⟨jF _,jF _⟩
  | cons g L ih =>
    intro s;obtain⟨h1,h2⟩:=ih (rE f most s g)
    have h3:(rE f most s g).1.length<=s.1.length+1/\(rE f most s g).2.length<=s.2.length+1:=by
     unfold rE;split
     .exact⟨Nat.le_succ _,BA⟩
     .grind
    rw[List.foldl_cons,zT];omega
 have h:=this L ([],[]);unfold ZY;simpa using h
def ACG (p:Pr)(m:Mo)(v:Cvr)(most:Int):Int:=if IX p≠0\/FQ m≠0\/MV m v=false\/most<0\/1024<most then 1 else 0
def nB (s:Bw)(ins:Ex->List Rng->Ex)(p:Pr)(m:Mo)(v:Cvr)(most:Int):List Gl×List Gl:=if ACG p m v most=0 then ZY (fun g=>OA s ins p m (XG g)) most (OM m v) else ([],[])
def ANB (s:Bw)(ins:Ex->List Rng->Ex)(p:Pr)(m:Mo)(v:Cvr)(most:Int):AV:=.tup [.sl (Cov.nm (nB s ins p m v most).1) 3 ((nB s ins p m v most).1.map Cov.encH),.sl (Cov.nm (nB s ins p m v most).2) 3 ((nB s ins p m v most).2.map Cov.encH),.n (ACG p m v most)]
def ANA (s:Bw)(ins:Ex->List Rng->Ex)(p:Pr)(m:Mo)(v:Cvr)(most:Int):AV:=.tup [fzG 3 Cov.encH (nB s ins p m v most).1,fzG 3 Cov.encH (nB s ins p m v most).2,.n (ACG p m v most)]
theorem AWX (s:Bw)(ins:Ex->List Rng->Ex)(p:Pr)(m:Mo)(v:Cvr)(most:Int):CvR (ANA s ins p m v most) (ANB s ins p m v most):=CvR.tup (CvRL.cons WR (CvRL.cons WR (CvRL.cons (CvR.refl _) CvRL.nil)))
theorem YD {s:Bw}{ins:Ex->List Rng->Ex}{most:Int}(h:IX p≠0\/FQ m≠0\/MV m v=false\/most<0\/1024<most):ANA s ins p m v most=.tup [.sl .nil 0 [],.sl .nil 0 [],.n 1]:=by
 have e:ACG p m v most=1:=by unfold ACG;rw[if_pos h]
 unfold ANA nB;rw[e,if_neg DT];rfl
theorem AWW {s:Bw}{ins:Ex->List Rng->Ex}{most:Int}(h:¬(IX p≠0\/FQ m≠0\/MV m v=false\/most<0\/1024<most)):ANA s ins p m v most=.tup [fzG 3 Cov.encH (ZY (fun g=>OA s ins p m (XG g)) most (OM m v)).1,fzG 3 Cov.encH (ZY (fun g=>OA s ins p m (XG g)) most (OM m v)).2,.n 0]:=by
 have e:ACG p m v most=0:=by unfold ACG;rw[if_neg h]
 unfold ANA nB;rw[e,if_pos rfl]
theorem BBT (h:Hp):GH jA h 34=some (.ptr h.length 0 0,h++[yE 3 [[.bool false,.n 0,.sl .nil 0 []]]]):=FB (row:=[.bool false,.n 0,.sl .nil 0 []]) AZ
theorem A99 (h:Hp)(x:Hl):DU jA (h++[yE 3 [[.bool false,.n 0,.sl .nil 0 []]]]) 34 (.ptr h.length 0 0) (.agg (F8 x))=some (h++[yE 3 [F8 x]]):=by
 rw[IR (cs:=F8 x) (row:=[.bool false,.n 0,.sl .nil 0 []]) rfl mA (AX _ _) (jF 3),JZ];rfl
theorem A1X (h:Hp)(x:Hl):DF jA false h 49 1 [(0,.agg (F8 x))]=some (.sl .full 3 [F8 x],h):=AZ
section
variable (G:Nat->AV)
theorem A0I (hG:GOk G)(p:Pr)(hs:PrS p)(hb:Sm51 p)(m:Mo)(hm:MoOk m)(v:Cvr)(most:Int)(hF:∀h,PCall (En G) 55 [.agg (DV m),.agg (Cov.encV v)] h (.bool (MV m v)))(hH:∀h,PCall (En G) 21 [.agg (DV m),.agg (Cov.encV v)] h (.sl (Cov.nm (OM m v)) 3 ((OM m v).map Cov.encH)))(h:Hp):PCall (En G) 17 [.agg (CY p),.agg (DV m),.agg (Cov.encV v),.n most] h (ANB sdP EE p m v most):=by
 refine PCall.res ?_ (AWX sdP EE p m v most);refine ACalls.pure (R:=fun u H=>Sm.ext h H/\FH h.length H 3 u=ANA sdP EE p m v most) 3 ?_ (fun v H ⟨a,b⟩=>⟨a,b⟩);refine acL Tryz.func17 [.tmp 8,.tmp 9,.tmp 10] ?_;have gp:=AO (x:=yE 4 [Cov.encV v]) (AO (x:=yE 2 [DV m]) (AX h (yE 5 [CY p])));have gm:=AO (x:=yE 4 [Cov.encV v]) (AX (h++[yE 5 [CY p]]) (yE 2 [DV m]));have gv:=AX (h++[yE 5 [CY p]]++[yE 2 [DV m]]) (yE 4 [Cov.encV v]);have hx:Sm.ext h (h++[yE 5 [CY p]]++[yE 2 [DV m]]++[yE 4 [Cov.encV v]]):=(((ext.rfl' h).app _).app _).app _;refine DW @QE @bxM @Cov.bxV ?_
 generalize h++[yE 5 [CY p]]++[yE 2 [DV m]]++[yE 4 [Cov.encV v]]=H0 at gp gm gv hx|-
 generalize (h++[yE 5 [CY p]]++[yE 2 [DV m]]).length=vb at gv|-
 generalize (h++[yE 5 [CY p]]).length=mb at gm|-
 refine A7 (RX gp) ?_;refine(Bd.valid_prog G hG p hs H0).use ?_;cases b1:(IX p != 0)
 case true =>
  have q:IX p≠0:=BM b1;refine A7 b1 ?_;exact⟨hx,by rw[YD (.inl q)];rfl⟩
 have q1:IX p=0:=BM b1;refine BB b1 (ldM gm) ?_;refine(TI G hG m hm H0).use ?_;cases b2:(FQ m != 0)
 case true =>
  have q:FQ m≠0:=BM b2;refine BB b1 b2 ?_;exact⟨hx,by rw[YD (.inr (.inl q))];rfl⟩
 have q2:FQ m=0:=BM b2;refine ES b1 b2 (ldM gm) (Cov.ldV gv) ?_;refine(hF H0).use ?_;cases b3:MV m v
 case false =>
  refine DW b1 b2 b3 ?_;exact⟨hx,by rw[YD (.inr (.inr (.inl b3)))];rfl⟩
 refine DW b1 b2 b3 ?_;cases b4:decide (most<0)
 case true =>
  refine ES b1 b2 b3 b4 ?_;exact⟨hx,by rw[YD (.inr (.inr (.inr (.inl (of_decide_eq_true b4)))))];rfl⟩
 refine A7 b4 ?_;cases b5:decide (most>1024)
 case true =>
  refine JI b1 b2 b3 b4 b5 ?_;exact⟨hx,by rw[YD (.inr (.inr (.inr (.inr (of_decide_eq_true b5)))))];rfl⟩
 have hok:=AWW (s:=sdP) (ins:=EE) (p:=p) (m:=m) (v:=v) (most:=most) (by
  have:=of_decide_eq_false b4;have:=of_decide_eq_false b5;rintro (q|q|q|q|q)
  .exact q q1
  .exact q q2
  .rw[b3] at q;cases q
  .omega
  .omega)
 refine NJ b1 b2 b3 b4 b5 (ldM gm) (Cov.ldV gv) ?_;refine(hH H0).use ?_;have hbin:=AYC (v:=v) hm;have hln:=A3Q m v;rw[hok]
 generalize OM m v=L at hbin hln|-
 have hpl:∀k,(ZY (fun g=>OA sdP EE p m (XG g)) most (L.take k)).1.length<=8192/\(ZY (fun g=>OA sdP EE p m (XG g)) most (L.take k)).2.length<=8192:=fun k=>by
  have h1:=ARC (fun g=>OA sdP EE p m (XG g)) most (L.take k);have:(L.take k).length<=L.length:=by rw[jZ];omega
  omega
 generalize hf:(fun g=>OA sdP EE p m (XG g))=f at hpl|-
 have hfx:∀g,OA sdP EE p m (XG g)=f g:=fun g=>by rw[<-hf]
 refine AB ?_
 refine BK (fun n F H=>∃k v1 v2,n+k=L.length/\F 3=.n most/\F 4=.ptr h.length 0 0/\F 5=.ptr mb 0 0/\F 11=v1/\F 12=v2/\F 41=.sl (Cov.nm L) 3 (L.map Cov.encH)/\F 42=.n (L.length:Nat)/\F 43=.n (k:Nat)/\Sm.ext H0 H/\outG 3 Cov.encH H0 (ZY f most (L.take k)).1 v1 H/\outG 3 Cov.encH H0 (ZY f most (L.take k)).2 v2 H/\∀b,isB v1 b->¬isB v2 b) L.length
  ⟨0,.sl .nil 0 [],.sl .nil 0 [],BA,AQ,AQ,AQ,AQ,AQ,AQ,AQ,AQ,ext.rfl' _,outG.nil _ _ _ _,outG.nil _ _ _ _,fun b q=>q.elim⟩ ?_
 rintro n F H ⟨k,v1,v2,hk,f3,f4,f5,f11,f12,f41,f42,f43,hxH,o1,o2,sep⟩;refine BB f42 f43 ?_;refine D9 ?_ ?_<;>intro hk'
 .have hme:=jG hk'
  have hpk:=hpl k;have hst:ZY f most (L.take (k+1))=rE f most (ZY f most (L.take k)) L[k]:=by rw[jU hk',ANC]
  unfold rE at hst;have lr:BI jA H 34 (.fptr 3 (L.map Cov.encH) k 0)=some (.agg (F8 (XG L[k]))):=by rw[DJ A0B mA (f:=Cov.encH) (fun g=>rfl) hk'];rfl
  have hx1:=hxH.app [yE 3 [F8 (XG L[k])]];have o1:=o1.app [yE 3 [F8 (XG L[k])]];have o2:=o2.app [yE 3 [F8 (XG L[k])]];have gg:=AX H (yE 3 [F8 (XG L[k])]);refine NJ A63 f41 f43 hk' lr BBT A99 ?_
  generalize H++[yE 3 [F8 (XG L[k])]]=H1 at hx1 o1 o2 gg|-
  generalize H.length=gb at gg|-
  refine JI f4 f5 (RX (DI hx1 gp)) (ldM (DI hx1 gm)) (ldH gg) ?_;refine(cJ G hG p hs hb m hm (XG L[k]) (hbin _ hme) H1).use ?_;unfold AM5;rw[hfx];generalize ZY f most (L.take k)=s at o1 o2 hpk hst;cases c1:(f L[k]==11)
  .have n1:f L[k]≠11:=BM c1
   rw[if_neg n1] at hst;cases c2:(f L[k]==0)
   .have n2:f L[k]≠0:=BM c2
    rw[if_neg (fun q=>n2 q.1)] at hst;refine ES c1 c2 f43 (DC k) ?_;exact⟨n-1,U,k+1,v1,v2,U,AL,AL,AL,AL,AL,AL,AL,AL,hx1,by rw[hst];exact o1,by rw[hst];exact o2,sep⟩
   .have n2:f L[k]=0:=BM c2
    cases c3:decide (((s.1.length:Nat):Int)<most)
    .rw[if_neg (fun q=>of_decide_eq_false c3 q.2)] at hst
     refine SE c1 c2 f3 f11 (o1.len AR1) c3 f43 (DC k) ?_;exact⟨n-1,U,k+1,v1,v2,U,AL,AL,AL,AL,AL,AL,AL,AL,hx1,by rw[hst];exact o1,by rw[hst];exact o2,sep⟩
    .rw[if_pos ⟨n2,of_decide_eq_true c3⟩] at hst
     obtain⟨v',H',a1,a2,a3,a4,_,a5⟩:=o1.append (P:=jA) AV6 mA AVU A4V U U hx1 L[k];change EQ jA true H1 49 49 v1 (.sl .full 3 [F8 (XG L[k])])=_ at a1;refine cM c1 c2 f3 f11 (o1.len AR1) c3 (ldH gg) @A1X a1 f43 (DC k) ?_;exact⟨n-1,U,k+1,v',v2,U,AL,AL,AL,AL,AL,AL,AL,AL,a4,by rw[hst];exact a2,by rw[hst];exact o2.keepA a3 (fun b q1 q2=>sep b q2 q1),fun b q1 q2=>by have:=a5 b q1;have:=(o2.lt q2).2;omega⟩
  .have n1:f L[k]=11:=BM c1
   rw[if_pos n1] at hst;obtain⟨v',H',a1,a2,a3,a4,_,a5⟩:=o2.append (P:=jA) AV6 mA AVU A4V U U hx1 L[k];change EQ jA true H1 49 49 v2 (.sl .full 3 [F8 (XG L[k])])=_ at a1;refine NJ c1 f12 (ldH gg) @A1X a1 f43 (DC k) ?_;exact⟨n-1,U,k+1,v1,v',U,AL,AL,AL,AL,AL,AL,AL,AL,a4,by rw[hst];exact o1.keepA a3 (fun b q1 q2=>sep b q1 q2),by rw[hst];exact a2,fun b q1 q2=>by have:=a5 b q2;have:=(o1.lt q1).2;omega⟩
 .rw[jJ U] at o1 o2
  refine BB f11 f12 ?_;refine⟨hx.trans hxH,?_⟩;have hle:=hx.le;show AV.tup [FH h.length H 2 v1,FH h.length H 2 v2,_]=_;rw[P6 Cov.frzH o1 h.length 0 U,P6 Cov.frzH o2 h.length 0 U];rfl
end
def dC (vs:List Vr):Nat->List Int
 | 0=>[]
 | k+1=>dC vs k++(match vs[k]? with|some v=>if v.mode≠0 then [((k:Nat):Int)] else []|none=>[])
theorem mQ (vs:List Vr):∀k,(dC vs k).length<=k
 | 0=>jF _
 | k+1=>by
   have:=mQ vs k;simp only[dC,jX]
   cases vs[k]? with
   | none=>simp;omega
   | some v=>simp only;split<;>simp<;>omega
theorem AJU (vs:List Vr):∀k,∀z∈dC vs k,∃i:Nat,z=(i:Int)/\i<vs.length
 | 0,z,h=>by cases h
 | k+1,z,h=>by
   rcases zK.1 h with h|h
   .exact AJU vs k z h
   .cases hq:vs[k]? with
    | none=>rw[hq] at h;cases h
    | some v =>
      rw[hq] at h;simp only at h;split at h
      .exact⟨k,wI.1 h,AC hq⟩
      .cases h
def eZ (vs:List Vr)(z:Int):Int:=match vs[z.toNat]? with|some v=>v.width|none=>0
theorem AB1 (vs:List Vr):∀k,k<=vs.length->((dC vs k).map (eZ vs)).sum=J5 (vs.take k)
 | 0,_=>rfl
 | k+1,h=>by
   have ih:=AB1 vs k U;have hk:k<vs.length:=U;rw[jU hk];simp only[dC,jI hk];rw[qU,List.sum_append,ih];unfold J5;rw[qU,List.sum_append];congr 1;by_cases hm:vs[k].mode=0
   .rw[if_neg (by simp [hm])];simp [hm]
   .rw[if_pos hm]
    simp only[jK,jL,List.sum_cons,List.sum_nil];rw[if_neg hm];unfold eZ;rw[qB,jI hk]
theorem sO {vs:List Vr}(hw:∀v∈vs,1<=v.width/\v.width<=8):∀l:List Int,0<=(l.map (eZ vs)).sum/\(l.map (eZ vs)).sum<=8*(l.length:Int)
 | []=>BA
 | z::l=>by
   have ih:=sO hw l
   have h1:0<=eZ vs z/\eZ vs z<=8:=by
    unfold eZ
    cases hq:vs[z.toNat]? with
    | none=>simp
    | some v=>have:=hw v (zZ hq);simp only;omega
   simp only[jK,List.sum_cons,zT];omega
def kP (p:Pr):List Int:=if IX p=0 then dC p.vars p.vars.length else []
theorem sL {p:Pr}(P:PV p):∀k,k<=p.vars.length->0<=J5 (p.vars.take k)/\kK p.vars k=2^(J5 (p.vars.take k)).toNat
 | 0,_=>⟨Int.le_refl 0,rfl⟩
 | k+1,h=>by
   have hk:k<p.vars.length:=U;obtain⟨i0,ih⟩:=sL P k U;obtain⟨_,w1,_⟩:=PQ (P.vr _ (jG hk));rw[jU hk]
   have e:J5 (p.vars.take k++[p.vars[k]])=J5 (p.vars.take k)+if p.vars[k].mode=0 then 0 else p.vars[k].width:=by
    unfold J5;rw[qU,List.sum_append];simp
   rw[e];simp only[kK,jI hk];by_cases hm:p.vars[k].mode=0
   .rw[if_pos hm,if_pos hm,Int.add_zero];exact⟨i0,ih⟩
   .rw[if_neg hm,if_neg hm,ih,<-Nat.pow_add]
    exact⟨U,by congr 1;omega⟩
def Fw (p:Pr)(n:Int):Prop:=p.hard.length<=20/\p.dists.length<=20/\(IX p=0->J5 p.vars<=n)
theorem Fw.sm {n:Int}(h:Fw p n)(hn:n<=18):Sm51 p:=by
 refine⟨by have:=h.1;omega,by have:=h.2.1;omega,fun hv=>?_⟩;have P:=PV.of hv;obtain⟨h0,h1⟩:=sL P p.vars.length (jF _);rw[List.take_length] at h0 h1;have hb:=h.2.2 hv;unfold lft;rw[h1];have:(2:Nat)^(J5 p.vars).toNat<=2^18:=Nat.pow_le_pow_right DT U;have e:(2:Nat)^18=262144:=rfl;omega
section
variable (G:Nat->AV)
theorem ANQ (e:Ex):(pre e).length<=1048576->∀(d:Int),0<=d->d<=100->∀h:Hp,QCall (En G) 74 [.agg (A8 e),.n d] h (fun v=>∃z:Int,v=.n z/\1<=z/\z<=((pre e).length:Int)):=by
 induction e using Ex.induct with|h e ih=>?_
 intro hw d d0 d1 h;have hpl:=congrArg wH (pre_eq e);rw[zT] at hpl;have hal:e.args.length<=1048576:=by have:=YB e.args;omega
 refine ACalls.pureQ (R:=fun v H=>Sm.ext h H/\∃z:Int,v=.n z/\1<=z/\z<=((pre e).length:Int)) 1 ?_ (fun v H ⟨a,z,b,c⟩=>⟨a,z,by rw[b];rfl,c⟩);refine acT Tryz.func74 4 ?_;have ge:=AX h (yE 4 [A8 e]);have hx:=Sm.ext.r1 h (yE 4 [A8 e]);refine A7 @bxE ?_
 generalize h++[yE 4 [A8 e]]=H1 at ge hx|-
 generalize h.length=eb at ge|-
 refine BK (fun n F H=>∃(j:Nat) (z:Int),n+j=e.args.length/\F 1=.n d/\F 2=.ptr eb 0 0/\F 5=.n z/\F 6=.n (j:Nat)/\H=H1/\1<=z/\z<=1+((FM (e.args.take j)).length:Int)) e.args.length
  ⟨0,1,BA,AQ,AQ,AQ,AQ,rfl,U,by simp [FM]⟩ ?_
 rintro n F H ⟨j,z,hj,f1,f2,f5,f6,rfl,z1,z2⟩
 have hpj:(FM (e.args.take j)).length<=(FM e.args).length:=by
  have:FM e.args=FM (e.args.take j)++FM (e.args.drop j):=by rw[<-NS,List.take_append_drop]
  rw[this,jX];omega
 have fin:(1<=z/\z<=((pre e).length:Int)):=U;refine DW f2 f6 (U9 ge) ?_;cases hc:decide (((j:Nat):Int)<((e.args.length:Nat):Int))
 .refine BB hc f5 ?_
  exact⟨hx,z,AL,fin⟩
 have hj':j<e.args.length:=by have:=of_decide_eq_true hc;omega
 refine BB hc f5 ?_;cases hz:decide (z<100)
 .refine DW hc hz f5 ?_
  exact⟨hx,z,AL,fin⟩
 refine BB hz f1 ?_;cases hd:decide (d<30)
 .refine ES hc hz hd f5 ?_
  exact⟨hx,z,AL,fin⟩
 have hmem:e.args[j]∈e.args:=jG hj';have hpa:(pre e.args[j]).length<=1048576:=by have:=Q7 hmem;omega
 have w1:IntKind.i64.wrap (d+1)=d+1:=wrap_i64 U U;have hdl:=of_decide_eq_true hd;simp only[vQ,CP,↓reduceIte,jC,enP,PZ,bS,hc,hz,hd,f1,f2,f5,f6,U9 ge,CZ hj',DJ O6 JE EG hj',w1];refine(ih e.args[j] hmem hpa (d+1) U U H).use ?_;rintro r ⟨y,rfl,y1,y2⟩;have w2:IntKind.i64.wrap (z+y)=z+y:=wrap_i64 U U;refine DW f6 w2 (DC j) ?_;refine⟨n-1,U,j+1,z+y,U,AL,AL,AL,AL,AL,U,?_⟩;rw[LW _ _ hj',jX];omega
theorem gX (e:Ex):(pre e).length<=1048576->∀(d:Int),0<=d->d<=100->∀h:Hp,Rk.SomeB (En G) 35 [.agg (A8 e),.n d] h:=by
 induction e using Ex.induct with|h e ih=>?_
 intro hw d d0 d1 h;have hpl:=congrArg wH (pre_eq e);rw[zT] at hpl;have hal:e.args.length<=1048576:=by have:=YB e.args;omega
 refine Rk.SomeB.of ?_;refine acT Tryz.func35 4 ?_;have ge:=AX h (yE 4 [A8 e]);have hx:=Sm.ext.r1 h (yE 4 [A8 e]);refine A7 @bxE ?_
 generalize h++[yE 4 [A8 e]]=H1 at ge hx|-
 generalize h.length=eb at ge|-
 cases hd:decide (d>25)
 rotate_left
 .refine A7 hd ?_
  exact⟨⟨_,AL⟩,hx⟩
 have hdl:=of_decide_eq_false hd;refine A7 hd ?_;refine SA (fun F H=>F 1=.n d/\F 2=.ptr eb 0 0/\(∃b,F 16=.bool b)/\H=H1) ?_ ?_
 .cases h0:(d==0)
  .refine BB hd h0 ?_
   exact⟨AL,AL,⟨_,AL⟩,AL⟩
  .refine DW hd h0 (IU ge) ?_
   refine(ANQ G e hw 0 U U H1).use ?_;rintro r ⟨y,rfl,y1,y2⟩;refine BB hd h0 ?_;exact⟨AL,AL,⟨_,AL⟩,AL⟩
 rintro F H ⟨f1,f2,⟨b,f16⟩,rfl⟩;refine A7 f16 ?_;refine BO ?_ ?_<;>intro hb
 .refine AB ?_
  exact⟨⟨_,AL⟩,hx⟩
 refine AB ?_
 refine BK (fun n F H'=>∃(j:Nat),n+j=e.args.length/\F 1=.n d/\F 2=.ptr eb 0 0/\F 5=.n (j:Nat)/\H'=H) e.args.length
  ⟨0,BA,EI f1,EI f2,AQ,rfl⟩ ?_
 clear f1 f2 f16;rintro n F H ⟨j,hj,f1,f2,f5,rfl⟩;refine DW f2 f5 (U9 ge) ?_;refine BO ?_ ?_<;>intro hc
 .have hj':j<e.args.length:=BM hc
  have hmem:e.args[j]∈e.args:=jG hj';have w1:IntKind.i64.wrap (d+1)=d+1:=wrap_i64 U U;simp only[vQ,CP,↓reduceIte,jC,enP,PZ,bS,f1,f2,f5,U9 ge,CZ hj',DJ O6 JE EG hj',w1];refine(ih e.args[j] hmem (by have:=Q7 hmem;omega) (d+1) U U H).use fun b=>?_
  refine AB ?_;refine BO ?_ ?_<;>intro hb
  .refine AB ?_
   exact⟨⟨_,AL⟩,hx⟩
  .refine BB f5 (DC j) ?_
   exact⟨n-1,U,j+1,U,AL,AL,AL,AL⟩
 .refine AB ?_
  exact⟨⟨_,AL⟩,hx⟩
end
section
variable (G:Nat->AV)
theorem AGV (p:Pr)(hs:PrS p)(h:Hp):PCall (En G) 73 [.agg (CY p)] h (.sl (Cov.nm (kP p)) 1 ((kP p).map Bins.qencI)):=by
 have hvl:=hs.vars;refine J3 Cov.frzI ?_;refine acT Tryz.func73 2 ?_;have ge:=AX h (yE 5 [CY p]);have hx:=Sm.ext.r1 h (yE 5 [CY p]);refine A7 @QE ?_
 generalize h++[yE 5 [CY p]]=H0 at ge hx|-
 refine A7 (RX ge) ?_;refine(Bd.valid_ref G p hs H0).use ?_;unfold kP;cases bv:(IX p != 0)
 case true =>
  have q:IX p≠0:=BM bv;refine A7 bv ?_;rw[if_neg q];exact⟨hx,outG.nil _ _ _ _⟩
 have hv:IX p=0:=BM bv;rw[if_pos hv];refine A7 bv ?_
 refine BK (fun n F H=>∃i u,n+i=p.vars.length/\F 1=.ptr h.length 0 0/\F 3=u/\F 4=.n (i:Nat)/\Sm.ext H0 H/\outG 1 Bins.qencI H0 (dC p.vars i) u H) p.vars.length
  ⟨0,.sl .nil 0 [],BA,AQ,AQ,AQ,ext.rfl' _,outG.nil _ _ _ _⟩ ?_
 rintro n F H ⟨i,u,hi,f1,f3,f4,hxH,ho⟩;have ge1:=DI hxH ge;refine DW f1 f4 (rP ge1) ?_;refine D9 ?_ ?_<;>intro hi'
 .have lm:BI jA H 3 (.fptr 4 (p.vars.map encV) i 2)=some (.n p.vars[i].mode):=by rw[CW ag3 hi'];rfl
  have hrl:=mQ p.vars i;refine aT f1 f4 (rP ge1) hi' lm ?_;cases bm:(p.vars[i].mode != 0)
  .have hm:p.vars[i].mode=0:=BM bm
   have e:dC p.vars (i+1)=dC p.vars i:=by simp only[dC,jI hi'];rw[if_neg (by simp [hm]),jO]
   refine BB f4 (DC i) ?_;exact⟨n-1,U,i+1,u,U,AL,AL,AL,hxH,by rw[e];exact ho⟩
  .have hm:p.vars[i].mode≠0:=BM bm
   have e:dC p.vars (i+1)=dC p.vars i++[((i:Nat):Int)]:=by simp only[dC,jI hi'];rw[if_pos hm]
   obtain⟨v',H',ha,ho',_,hx',_,_⟩:=ho.append (P:=jA) U4 sz3 aV YW U U hxH ((i:Nat):Int);refine JI f3 f4 @bsI ha (DC i) ?_;exact⟨n-1,U,i+1,v',U,AL,AL,AL,hx',by rw[e];exact ho'⟩
 .rw[show i=p.vars.length by omega] at ho
  refine A7 f3 ?_;exact⟨hx.trans hxH,ho.base hx.le⟩
theorem AUJ (p:Pr)(hs:PrS p)(h:Hp):PCall (En G) 34 [.agg (CY p)] h (.n (if IX p=0 then J5 p.vars else 0)):=by
 have hvl:=hs.vars;refine ACalls.pure0 rfl ?_;refine acT Tryz.func34 2 ?_;have ge:=AX h (yE 5 [CY p]);have hx:=Sm.ext.r1 h (yE 5 [CY p]);refine A7 @QE ?_
 generalize h++[yE 5 [CY p]]=H0 at ge hx|-
 refine A7 (RX ge) ?_;refine(AGV G p hs H0).use ?_
 have hrl:(kP p).length<=1048576:=by
  unfold kP;split
  .have:=mQ p.vars p.vars.length;omega
  .simp
 have hin:∀z∈kP p,∃i:Nat,z=(i:Int)/\i<p.vars.length:=fun z hz=>by
  unfold kP at hz;split at hz
  .exact AJU _ _ z hz
  .cases hz
 have hwid:kP p≠[]->∀v∈p.vars,1<=v.width/\v.width<=8:=fun hne v hv=>by
  have q:IX p=0:=by
   apply Classical.byContradiction;intro q;unfold kP at hne;rw[if_neg q] at hne;exact hne rfl
  have:=PQ ((PV.of q).vr v hv);exact⟨this.2.1,this.2.2.1⟩
 have hsum:((kP p).map (eZ p.vars)).sum=if IX p=0 then J5 p.vars else 0:=by
  unfold kP;split
  .rw[AB1 _ _ (jF _),List.take_length]
  .rfl
 rw[<-hsum]
 generalize kP p=L at hrl hin hwid|-
 refine AB ?_
 refine BK (fun n F H=>∃i,n+i=L.length/\F 1=.ptr h.length 0 0/\F 3=.sl (Cov.nm L) 1 (L.map Bins.qencI)/\F 4=.n ((L.take i).map (eZ p.vars)).sum/\F 5=.n (i:Nat)/\H=H0) L.length
  ⟨0,BA,AQ,AQ,AQ,AQ,rfl⟩ ?_
 rintro n F H ⟨i,hi,f1,f3,f4,f5,rfl⟩;refine BB f3 f5 ?_;refine D9 ?_ ?_<;>intro hi'
 .obtain⟨j,hj,hjl⟩:=hin _ (jG hi')
  have hw:=hwid (fun q=>by rw[q] at hi';cases hi');have lz:BI jA H 3 (.fptr 1 (L.map Bins.qencI) i 0)=some (.n (j:Nat)):=by rw[CW ag3 hi'];show some (AV.int .i64 L[i])=_;rw[hj]
  have lw:BI jA H 3 (.fptr 4 (p.vars.map encV) j 1)=some (.n p.vars[j].width):=by rw[CW ag3 hjl];rfl
  have hwj:=hw _ (jG hjl);obtain⟨s0,s1⟩:=sO hw (L.take i);rw[jZ] at s1
  have w1:IntKind.i64.wrap (((L.take i).map (eZ p.vars)).sum+p.vars[j].width)=((L.take (i+1)).map (eZ p.vars)).sum:=by
   rw[wrap_i64 U U,jU hi',qU,List.sum_append];have:eZ p.vars L[i]=p.vars[j].width:=by unfold eZ;rw[hj,qB,jI hjl]
   simp [this]
  refine AB ?_;refine D6 AZ ?_;refine cM f1 f3 f4 f5 (rP ge) hi' lz hjl lw w1 (DC i) ?_;exact⟨n-1,U,i+1,U,AL,AL,AL,AL,AL⟩
 .rw[jJ U] at f4
  refine A7 f4 ?_;exact⟨AL,hx⟩
theorem AMN (p:Pr)(hs:PrS p)(h:Hp):QCall (En G) 33 [.agg (CY p)] h (fun v=>∃b,v=.bool b/\(b=true->p.hard.length<=20/\p.dists.length<=20)):=by
 have hvl:=hs.vars;have hel:=hs.exprs;have hdl:=hs.dists;have hgl:=hs.groups;have hwt:=hs.wts;have hpl:∀e∈p.hard++p.soft,(pre e).length<=1048576:=fun e he=>by have:=WI e;have:=hwt e he;omega
 refine ACalls.pureQ (R:=fun v H=>Sm.ext h H/\∃b,v=.bool b/\(b=true->p.hard.length<=20/\p.dists.length<=20)) 1 ?_ (fun v H ⟨a,b,c,d⟩=>⟨a,b,by rw[c];rfl,d⟩);refine acT Tryz.func33 2 ?_;have gp:=AX h (yE 5 [CY p]);have hx:=Sm.ext.r1 h (yE 5 [CY p]);refine A7 @QE ?_
 generalize h++[yE 5 [CY p]]=H0 at gp hx|-
 have l0:=rP gp;have l1:BI jA H0 23 (.ptr h.length 0 1)=some (.sl p.hm 4 (p.hard.map A8)):=by rw[BC LM gp (row:=CY p) rfl];rfl
 have l2:BI jA H0 23 (.ptr h.length 0 2)=some (.sl p.sm 4 (p.soft.map A8)):=by rw[BC LM gp (row:=CY p) rfl];rfl
 have l3:BI jA H0 24 (.ptr h.length 0 3)=some (.sl p.dm 2 (p.dists.map IK)):=by rw[BC AU5 gp (row:=CY p) rfl];rfl
 have l4:BI jA H0 25 (.ptr h.length 0 4)=some (.sl p.gm 1 (p.groups.map OH)):=by rw[BC UJ gp (row:=CY p) rfl];rfl
 have no:∀ {P:Prop},((false=true)->P):=fun q=>by cases q
 refine A7 l0 ?_;cases b0:decide (((p.vars.length:Nat):Int)>20)
 rotate_left
 .refine A7 b0 ?_
  exact⟨hx,_,AL,no⟩
 refine DW @bU b0 l1 ?_;cases b1:decide (((p.hard.length:Nat):Int)>20)
 rotate_left
 .refine BB b0 b1 ?_
  exact⟨hx,_,AL,no⟩
 refine ES @oH b0 b1 l2 ?_;cases b2:decide (((p.soft.length:Nat):Int)>20)
 rotate_left
 .refine DW b0 b1 b2 ?_
  exact⟨hx,_,AL,no⟩
 refine ES b0 b1 b2 l3 ?_;cases b3:decide (((p.dists.length:Nat):Int)>20)
 rotate_left
 .refine ES b0 b1 b2 b3 ?_
  exact⟨hx,_,AL,no⟩
 refine NY @oG b0 b1 b2 b3 l4 ?_;cases b4:decide (((p.groups.length:Nat):Int)>20)
 rotate_left
 .refine JI b0 b1 b2 b3 b4 ?_
  exact⟨hx,_,AL,no⟩
 refine JI b0 b1 b2 b3 b4 ?_;have q1:=of_decide_eq_false b1;have q3:=of_decide_eq_false b3;have yes:p.hard.length<=20/\p.dists.length<=20:=U;clear b0 b1 b2 b3 b4;refine EU 0 (fun F H=>F 1=.ptr h.length 0 0/\H=H0) (fun F H=>F 2=.bool false/\H=H0) ?_ ?_ (fun F H ⟨f2,e⟩=>by subst e;refine A7 f2 ?_;exact⟨hx,_,AL,no⟩)
 .refine BK (fun n F H=>∃j,n+j=p.hard.length/\F 1=.ptr h.length 0 0/\F 3=.n (j:Nat)/\H=H0) p.hard.length ⟨0,BA,AQ,AQ,rfl⟩ ?_
  rintro n F H ⟨j,hj,f1,f3,rfl⟩;refine ES @bU f1 f3 l1 ?_;refine BO ?_ ?_<;>intro hc
  .have hj':j<p.hard.length:=BM hc
   simp only[vQ,CP,↓reduceIte,jC,enP,PZ,bU,f1,f3,l1,CZ hj',DJ O6 JE EG hj'];refine(gX G p.hard[j] (hpl _ (List.mem_append_left _ (jG hj'))) 0 U U H).use fun b=>?_
   refine AB ?_;refine BO ?_ ?_<;>intro hb
   .refine AB ?_
    exact⟨AL,AL⟩
   .refine BB f3 (DC j) ?_
    exact⟨n-1,U,j+1,U,AL,AL,AL⟩
  .refine AB ?_
   exact⟨AL,AL⟩
 rintro F H ⟨f1,rfl⟩;refine AB ?_;refine EU 2 (fun F H'=>F 1=.ptr h.length 0 0/\H'=H) (fun F H'=>F 2=.bool false/\H'=H) ?_ ?_ (fun F H ⟨f2,e⟩=>by subst e;refine A7 f2 ?_;exact⟨hx,_,AL,no⟩)
 .refine BK (fun n F H'=>∃j,n+j=p.soft.length/\F 1=.ptr h.length 0 0/\F 4=.n (j:Nat)/\H'=H) p.soft.length ⟨0,BA,EI f1,AQ,rfl⟩ ?_
  clear f1;rintro n F H ⟨j,hj,f1,f4,rfl⟩;refine ES @oH f1 f4 l2 ?_;refine BO ?_ ?_<;>intro hc
  .have hj':j<p.soft.length:=BM hc
   simp only[vQ,CP,↓reduceIte,jC,enP,PZ,oH,f1,f4,l2,CZ hj',DJ O6 JE EG hj'];refine(gX G p.soft[j] (hpl _ (List.mem_append_right _ (jG hj'))) 0 U U H).use fun b=>?_
   refine AB ?_;refine BO ?_ ?_<;>intro hb
   .refine AB ?_
    exact⟨AL,AL⟩
   .refine BB f4 (DC j) ?_
    exact⟨n-1,U,j+1,U,AL,AL,AL⟩
  .refine AB ?_
   exact⟨AL,AL⟩
 clear f1;rintro F H ⟨f1,rfl⟩;refine AB ?_;refine EU 4 (fun F H'=>F 1=.ptr h.length 0 0/\H'=H) (fun F H'=>F 2=.bool false/\H'=H) ?_ ?_ (fun F H ⟨f2,e⟩=>by subst e;refine A7 f2 ?_;exact⟨hx,_,AL,no⟩)
 .refine BK (fun n F H'=>∃j,n+j=p.dists.length/\F 1=.ptr h.length 0 0/\F 5=.n (j:Nat)/\H'=H) p.dists.length ⟨0,BA,EI f1,AQ,rfl⟩ ?_
  clear f1;rintro n F H ⟨j,hj,f1,f5,rfl⟩;refine DW f1 f5 l3 ?_;refine BO ?_ ?_<;>intro hc
  .have hj':j<p.dists.length:=BM hc
   have lw:BI jA H 120 (.fptr 2 (p.dists.map IK) j 1)=some (.sl p.dists[j].wm 4 (p.dists[j].ws.map JC)):=by rw[CW AL2 hj'];rfl
   refine aS AC6 f1 f5 l3 hj' lw ?_;refine BO ?_ ?_<;>intro hb
   .refine AB ?_
    exact⟨AL,AL⟩
   .refine BB f5 (DC j) ?_
    exact⟨n-1,U,j+1,U,AL,AL,AL⟩
  .refine AB ?_
   exact⟨AL,AL⟩
 clear f1;rintro F H ⟨f1,rfl⟩;refine AB ?_;refine BK (fun n F H'=>∃j,n+j=p.groups.length/\F 1=.ptr h.length 0 0/\F 6=.n (j:Nat)/\H'=H) p.groups.length ⟨0,BA,EI f1,AQ,rfl⟩ ?_;clear f1;rintro n F H ⟨j,hj,f1,f6,rfl⟩;refine ES @oG f1 f6 l4 ?_;refine BO ?_ ?_<;>intro hc
 .have hj':j<p.groups.length:=BM hc
  have lw:BI jA H 32 (.fptr 1 (p.groups.map OH) j 0)=some (.sl p.groups[j].m 1 (p.groups[j].l.map Bins.qencI)):=by rw[CW NF hj'];rfl
  refine aS @oG f1 f6 l4 hj' lw ?_;refine BO ?_ ?_<;>intro hb
  .refine AB ?_
   exact⟨hx,_,AL,no⟩
  .refine BB f6 (DC j) ?_
   exact⟨n-1,U,j+1,U,AL,AL,AL⟩
 .refine AB ?_
  exact⟨hx,_,AL,fun _=>yes⟩
theorem AYZ (p:Pr)(hs:PrS p)(n:Int)(h:Hp):QCall (En G) 9 [.agg (CY p),.n n] h (fun v=>∃b,v=.bool b/\(b=true->Fw p n)):=by
 refine ACalls.pureQ (R:=fun v H=>Sm.ext h H/\∃b,v=.bool b/\(b=true->Fw p n)) 1 ?_ (fun v H ⟨a,b,c,d⟩=>⟨a,b,by rw[c];rfl,d⟩);refine acT Tryz.func9 4 ?_;have gp:=AX h (yE 5 [CY p]);have hx:=Sm.ext.r1 h (yE 5 [CY p]);refine A7 @QE ?_
 generalize h++[yE 5 [CY p]]=H0 at gp hx|-
 refine A7 (RX gp) ?_;refine(AMN G p hs H0).use ?_;rintro r ⟨b,rfl,hb⟩;cases b
 .refine AB ?_
  exact⟨hx,_,AL,fun q=>by cases q⟩
 refine A7 (RX gp) ?_;refine(AUJ G p hs H0).uu ?_;refine⟨hx,_,AL,fun q=>⟨(hb rfl).1,(hb rfl).2,fun hv=>?_⟩⟩;rw[if_pos hv] at q;simpa using q
theorem AMI (l:List Rs)(s:SM)(hl:l.length<=1048576)(h:Hp):Rk.SomeB (En G) 36 [.sl s 1 (l.map encS)] h:=by
 refine Rk.SomeB.of ?_;refine acT Tryz.func36 2 ?_;refine AB ?_;refine BK (fun n F H'=>∃j,n+j=l.length/\F 0=.sl s 1 (l.map encS)/\F 3=.n (j:Nat)/\H'=h) l.length ⟨0,BA,AQ,AQ,rfl⟩ ?_;rintro n F H ⟨j,hj,f0,f3,rfl⟩;refine BB f0 f3 ?_;refine BO ?_ ?_<;>intro hc
 .have hj':j<l.length:=BM hc
  simp only[vQ,CP,J6,↓reduceIte,jC,enP,xJ,AHF,f0,f3,CZ hj',CW RZ hj',AEG,jP];refine BO ?_ ?_<;>intro hb
  .refine AB ?_
   exact⟨⟨_,AL⟩,ext.rfl' _⟩
  .refine BB f3 (DC j) ?_
   exact⟨n-1,U,j+1,U,AL,AL,AL⟩
 .refine AB ?_
  exact⟨⟨_,AL⟩,ext.rfl' _⟩
theorem AXZ (m:Mo)(hm:MoOk m)(h:Hp):QCall (En G) 10 [.agg (DV m)] h (fun v=>∃b,v=.bool b/\(b=true->m.pts.length<=4/\m.crs.length<=3)):=by
 refine ACalls.pureQ (R:=fun v H=>Sm.ext h H/\∃b,v=.bool b/\(b=true->m.pts.length<=4/\m.crs.length<=3)) 1 ?_ (fun v H ⟨a,b,c,d⟩=>⟨a,b,by rw[c];rfl,d⟩);refine acT Tryz.func10 2 ?_;have gm:=AX h (yE 2 [DV m]);have hx:=Sm.ext.r1 h (yE 2 [DV m]);have np:=hm.np;have nc:=hm.nc;refine A7 @bxM ?_
 generalize h++[yE 2 [DV m]]=H0 at gm hx|-
 refine EU 0 (fun F H=>F 1=.ptr h.length 0 0/\Sm.ext H0 H) (fun F H=>F 2=.bool false/\Sm.ext H0 H) ?_ ?_ (fun F H ⟨f2,e⟩=>by refine A7 f2 ?_;exact⟨hx.trans e,false,AL,fun q=>by cases q⟩)
 .refine BK (fun n F H=>∃k,n+k=m.pts.length/\F 1=.ptr h.length 0 0/\F 3=.n (k:Nat)/\Sm.ext H0 H) m.pts.length ⟨0,BA,AQ,AQ,ext.rfl' _⟩ ?_
  rintro n F H ⟨k,hk,f1,f3,he⟩;have gm1:=DI he gm;refine DW f1 f3 (dS gm1) ?_;cases hc:decide (((k:Nat):Int)<((m.pts.length:Nat):Int))
  .refine A7 hc ?_
   exact⟨AL,he⟩
  have hk':k<m.pts.length:=by have:=of_decide_eq_true hc;omega
  have hpo:=hm.pts _ (jG hk');refine BB hc f3 ?_;refine BO ?_ ?_<;>intro hc5
  rotate_left
  .refine AB ?_
   exact⟨AL,he⟩
  simp only[vQ,EM,CP,J6,↓reduceIte,jC,enP,XL,P7,rO,OQ,f1,f3,dS gm1,CZ hk',CW QC hk',TS,jP];cases h6:decide (((m.pts[k].bins.length:Nat):Int)>6)
  rotate_left
  .refine A7 h6 ?_
   exact⟨AL,he⟩
  simp only[vQ,EM,CP,↓reduceIte,jC,enP,XL,P7,oE,h6,f1,f3,dS gm1,CZ hk',Rk.ldPE hk'];refine(gX G m.pts[k].ex (by have:=WI m.pts[k].ex;have:=hpo.ex;omega) 0 U U H).use fun b=>?_
  cases b
  .refine A7 h6 ?_
   exact⟨AL,he⟩
  refine A7 h6 ?_;refine EU 2 (fun F H'=>F 1=.ptr h.length 0 0/\F 3=.n (k:Nat)/\Sm.ext H0 H') (fun F H'=>F 2=.bool false/\Sm.ext H0 H') ?_ ?_ (fun F H ⟨f2,e⟩=>by refine AB ?_;exact⟨AL,e⟩)
  .refine BK (fun n F H'=>∃j,n+j=m.pts[k].bins.length/\F 1=.ptr h.length 0 0/\F 3=.n (k:Nat)/\F 4=.n (j:Nat)/\Sm.ext H0 H') m.pts[k].bins.length ⟨0,BA,EI f1,EI f3,AQ,he⟩ ?_
   clear f1 f3 he gm1;rintro n F H ⟨j,hj,f1,f3,f4,he⟩;have gm1:=DI he gm;simp only[vQ,CP,↓reduceIte,jC,enP,XL,P7,rO,OQ,f1,f3,f4,dS gm1,CZ hk',CW QC hk',TS,jP];refine BO ?_ ?_<;>intro hd
   .have hj':j<m.pts[k].bins.length:=BM hd
    have hbo:=hpo.bins _ (jG hj');have gb:=AX H (yE 4 [GG m.pts[k].bins[j]]);have he1:=he.app [yE 4 [GG m.pts[k].bins[j]]];simp only[vQ,CP,↓reduceIte,jC,enP,XL,P7,fO,OQ,AHW,jQ,f1,f3,f4,dS gm1,CZ hk',CW QC hk',TS,CZ hj',DJ lA aZ LC hj',Cov.al79,Cov.st79 _ _ [.str ⟨#[]⟩,.n 0,.sl .nil 0 [],.sl .nil 0 []] rfl]
    generalize H++[yE 4 [GG m.pts[k].bins[j]]]=H1 at gb he1|-
    have b2:BI jA H1 84 (.ptr H.length 0 2)=some (.sl m.pts[k].bins[j].ranges.m 2 (m.pts[k].bins[j].ranges.l.map encR)):=by rw[BC RZ gb rfl];rfl
    have b3:BI jA H1 85 (.ptr H.length 0 3)=some (.sl m.pts[k].bins[j].sm 1 (m.pts[k].bins[j].steps.map encS)):=by rw[BC XO gb rfl];rfl
    refine A7 b2 ?_;cases c1:decide (((m.pts[k].bins[j].ranges.l.length:Nat):Int)>6)
    rotate_left
    .refine A7 c1 ?_
     exact⟨AL,he1⟩
    refine BB c1 b3 ?_;cases c2:decide (((m.pts[k].bins[j].steps.length:Nat):Int)>8)
    rotate_left
    .refine BB c1 c2 ?_
     exact⟨AL,he1⟩
    have hs8:=of_decide_eq_false c2;refine DW c1 c2 b3 ?_;refine(AMI G m.pts[k].bins[j].steps m.pts[k].bins[j].sm U H1).use fun b=>?_
    cases b
    .refine BB c1 c2 ?_
     exact⟨AL,he1⟩
    .refine ES c1 c2 f4 (wrap_succ (show j<9223372036854775807 by have:=hpo.num;omega)) ?_
     exact⟨n-1,U,j+1,U,AL,AL,AL,he1⟩
   .refine AB ?_
    exact⟨AL,AL,he⟩
  clear f1 f3 he gm1;rintro F H ⟨f1,f3,he⟩;refine BB f3 (DC k) ?_;exact⟨n-1,U,k+1,U,AL,AL,he⟩
 rintro F H ⟨f1,he⟩;refine AB ?_;refine EU 4 (fun F H=>F 1=.ptr h.length 0 0/\Sm.ext H0 H) (fun F H=>F 2=.bool false/\Sm.ext H0 H) ?_ ?_ (fun F H ⟨f2,e⟩=>by refine A7 f2 ?_;exact⟨hx.trans e,false,AL,fun q=>by cases q⟩)
 .refine BK (fun n F H=>∃k,n+k=m.crs.length/\F 1=.ptr h.length 0 0/\F 6=.n (k:Nat)/\Sm.ext H0 H) m.crs.length ⟨0,BA,EI f1,AQ,he⟩ ?_
  clear f1 he;rintro n F H ⟨k,hk,f1,f6,he⟩;have gm1:=DI he gm;refine DW f1 f6 (AC8 gm1) ?_;cases hc:decide (((k:Nat):Int)<((m.crs.length:Nat):Int))
  .refine A7 hc ?_
   exact⟨AL,he⟩
  have hk':k<m.crs.length:=by have:=of_decide_eq_true hc;omega
  refine BB hc f6 ?_;refine BO ?_ ?_<;>intro hc5
  rotate_left
  .refine AB ?_
   exact⟨AL,he⟩
  simp only[vQ,EM,CP,J6,↓reduceIte,jC,enP,fP,U8,dO,U7,f1,f6,AC8 gm1,CZ hk',CW NF hk',eF,jP];cases h5:decide (((m.crs[k].pts.length:Nat):Int)>5)
  rotate_left
  .refine A7 h5 ?_
   exact⟨AL,he⟩
  simp only[vQ,EM,CP,J6,↓reduceIte,jC,enP,AHA,fP,U8,xZ,h5,f1,f6,AC8 gm1,CZ hk',CW UJ hk',AEJ,jP];refine BO ?_ ?_<;>intro hb
  .refine AB ?_
   exact⟨AL,he⟩
  .refine BB f6 (DC k) ?_
   exact⟨n-1,U,k+1,U,AL,AL,he⟩
 clear f1 he;rintro F H ⟨f1,he⟩;have gm1:=DI he gm;refine BB f1 (dS gm1) ?_;cases c1:decide (((m.pts.length:Nat):Int)<=4)
 .refine A7 c1 ?_
  exact⟨hx.trans he,false,AL,fun q=>by cases q⟩
 .refine DW c1 f1 (AC8 gm1) ?_
  have:=of_decide_eq_true c1;exact⟨hx.trans he,_,rfl,fun q=>⟨U,by have:=of_decide_eq_true q;omega⟩⟩
theorem ANV (m:Mo)(hm:MoOk m)(h:Hp):Rk.SomeB (En G) 10 [.agg (DV m)] h :=
 ACalls.mono (AXZ G m hm h) fun _ _ ⟨⟨b,e,_⟩,q⟩=>⟨⟨b,e⟩,q⟩
end
abbrev aN:ByteArray:=⟨#[97]⟩
def A1B:Ex:=.mk 17 0 ⟨#[]⟩ .full [JK aN,cE 3]
def PX:Pr:=⟨.full,[⟨aN,2,1,0⟩],.full,[A1B],.nil,[],.nil,[],.full,[⟨.full,[0]⟩]⟩
abbrev YJ:List AV:=[.n 17,.n 0,.str ⟨#[]⟩,.sl .full 4 [OU aN,pB 1 3]]
abbrev mV:List AV:=[.sl .full 4 [[.str aN,.n 2,.n 1,.n 0]],.sl .full 4 [YJ],.sl .nil 0 [],.sl .nil 0 [],.sl .full 1 [[.sl .full 1 [[.n 0]]]]]
theorem ARJ {m:SM}{k:Nat}{a a':List AV}(h1:CvRow a a'):Cv (.sl m k [a]) (.sl m k [a']):=Cv.rows rfl fun i r r' e1 e2=>by
 match i,e1,e2 with
 | 0,e1,e2=>cases e1;cases e2;exact h1
 | _+1,e1,_=>cases e1
theorem AR5:CvRow YJ (A8 A1B):=by
 show CvRow YJ (A8 (.mk 17 0 ⟨#[]⟩ .full [JK aN,cE 3]));rw[ATU];exact CvRow.cons rfl (Cv.refl _) (CvRow.cons rfl (Cv.refl _) (CvRow.cons rfl (Cv.refl _) (CvRow.cons rfl (A2K (AA1 aN) (AZW 3)) CvRow.nil)))
theorem AQ9:CvR (.agg mV) (.agg (CY PX)) :=
 CvR.agg (CvRL.cons (CvR.refl _) (CvRL.cons (CvR.sl (ARJ AR5)) (CvRL.cons (CvR.sl (Cv.nil 0 4)) (CvRL.cons (CvR.sl (Cv.nil 0 2)) (CvRL.cons (CvR.refl _) CvRL.nil)))))
def nmN (i:Nat):ByteArray:=⟨#[110,UInt8.ofNat (48+i)]⟩
def AUN (i:Nat):Bin:=⟨nmN i,0,⟨.full,[⟨i,i⟩]⟩,.nil,[]⟩
def gY (i:Nat):List AV:=[.str (nmN i),.n 0,.sl .full 2 [[.n (i:Nat),.n (i:Nat)]],.sl .nil 0 []]
theorem AZ1 (i:Nat):CvRow (gY i) (GG (AUN i)):=CvRow.cons rfl (Cv.refl _) (CvRow.cons rfl (Cv.refl _) (CvRow.cons rfl (Cv.refl _) (CvRow.cons rfl (Cv.nil 0 1) CvRow.nil)))
theorem A7G:Frz gY:=fun _ _ _ _=>⟨rfl,rfl⟩
def SL:Mo:=⟨.any,[⟨aN,JK aN,.any,(zM 4).map AUN⟩],.nil,[]⟩
abbrev A3C:List AV:=[.sl .any 6 [[.str aN,.n 2,.n 0,.str aN,.sl .nil 0 [],.sl .any 4 ((zM 4).map gY)]],.sl .nil 0 []]
theorem AXO:CvR (.agg A3C) (.agg (DV SL)):=by
 have hb:Cv (.sl .any 4 ((zM 4).map gY)) (.sl .any 4 (((zM 4).map AUN).map GG)):=by
  rw[List.map_map];exact Cv.map fun i _=>AZ1 i
 have hp:CvRow [.str aN,.n 2,.n 0,.str aN,.sl .nil 0 [],.sl .any 4 ((zM 4).map gY)] (FK ⟨aN,JK aN,.any,(zM 4).map AUN⟩):=by
  unfold FK;rw[FI];exact CvRow.cons rfl (Cv.refl _) (CvRow.cons rfl (Cv.refl _) (CvRow.cons rfl (Cv.refl _) (CvRow.cons rfl (Cv.refl _) (CvRow.cons rfl (Cv.nil 0 4) (CvRow.cons rfl hb CvRow.nil)))))
 exact CvR.agg (CvRL.cons (CvR.sl (ARJ hp)) (CvRL.cons (CvR.sl (Cv.nil 0 3)) CvRL.nil))
def hol (i:Int):Hl:=⟨false,0,.full,[i]⟩
theorem A5K:OA sdP EE PX SL (hol 2)=0/\AM6 sdP EE PX SL (hol 2)=[[2]]:=by decide +kernel
theorem A9U:OA sdP EE PX SL (hol 3)=11:=by decide +kernel
theorem wA:PrS PX:=⟨by decide +kernel,by decide +kernel,by decide +kernel,by decide +kernel,by decide +kernel,by decide +kernel,by decide +kernel,by decide +kernel⟩
theorem wD:Sm51 PX:=Fw.sm (n:=10) (by unfold Fw;decide +kernel) DT
theorem lI:MoOk SL:=⟨by decide +kernel,by decide +kernel,fun p hp=>by
 rw[wI.1 hp];refine⟨by decide +kernel,by decide +kernel,by decide +kernel,fun b hb=>?_⟩;obtain⟨i,hi,rfl⟩:=List.mem_map.1 hb
 exact⟨jB rfl,jB rfl,jB rfl,fun l hl=>by
  have:l=⟨.full,[⟨i,i⟩]⟩:=by simpa [sets,AUN] using hl
  rw[this];exact jB rfl⟩,fun c hc=>by cases hc⟩
theorem BBV (h:Hp):GH jA h 27=some (.ptr h.length 0 0,h++[yE 5 [[.sl .nil 0 [],.sl .nil 0 [],.sl .nil 0 [],.sl .nil 0 [],.sl .nil 0 []]]]):=FB (row:=[.sl .nil 0 [],.sl .nil 0 [],.sl .nil 0 [],.sl .nil 0 [],.sl .nil 0 []]) AZ
theorem BBU (h:Hp):GH jA h 31=some (.ptr h.length 0 0,h++[yE 2 [[.sl .nil 0 [],.sl .nil 0 []]]]):=FB (row:=[.sl .nil 0 [],.sl .nil 0 []]) AZ
abbrev ptZ:List AV:=[.str ⟨#[]⟩,.n 0,.n 0,.str ⟨#[]⟩,.sl .nil 0 [],.sl .nil 0 []]
abbrev ptW (v:AV):List AV:=[.str aN,.n 2,.n 0,.str aN,.sl .nil 0 [],v]
abbrev nms:List AV:=[.str (nmN 0),.str (nmN 1),.str (nmN 2),.str (nmN 3)]
theorem A8Y (h:Hp):GH jA h 82=some (.ptr h.length 0 0,h++[yE 6 [ptZ]]):=FB (row:=ptZ) AZ
theorem A87 (h:Hp):GH jA h 143=some (.ptr h.length 0 0,h++[yE 4 [[.str ⟨#[]⟩,.str ⟨#[]⟩,.str ⟨#[]⟩,.str ⟨#[]⟩]]]):=FB (row:=[.str ⟨#[]⟩,.str ⟨#[]⟩,.str ⟨#[]⟩,.str ⟨#[]⟩]) AZ
section
variable (G:Nat->AV)
theorem YA (h:Hp):PCall (En G) 37 [] h (.agg (CY PX)):=by
 refine PCall.res (r:=.agg mV) ?_ AQ9;refine X8 3 (fun n H=>rfl) ?_;refine acL Tryz.func37 [.cell 0 27] ?_;have g0:=AO (x:=yE 4 [YJ]) (AO (x:=yE 4 [OU aN]) (AX h (yE 5 [[.sl .nil 0 [],.sl .nil 0 [],.sl .nil 0 [],.sl .nil 0 [],.sl .nil 0 []]])));have g1:=AX (h++[yE 5 [[.sl .nil 0 [],.sl .nil 0 [],.sl .nil 0 [],.sl .nil 0 [],.sl .nil 0 []]]]) (yE 4 [OU aN]);have g2:=AX (h++[yE 5 [[.sl .nil 0 [],.sl .nil 0 [],.sl .nil 0 [],.sl .nil 0 [],.sl .nil 0 []]]]++[yE 4 [OU aN]]) (yE 4 [YJ]);have hx:Sm.ext h (h++[yE 5 [[.sl .nil 0 [],.sl .nil 0 [],.sl .nil 0 [],.sl .nil 0 [],.sl .nil 0 []]]]++[yE 4 [OU aN]]++[yE 4 [YJ]]):=(((ext.rfl' h).app _).app _).app _;have rV:R4 (OU aN):=⟨_,_,_,_,_,_,rfl⟩;have rL:R4 YJ:=⟨_,_,_,_,_,_,rfl⟩;have b131:I5 jA 131 [(0,.str aN),(1,.n 2),(2,.n 1)]=some (.agg [.str aN,.n 2,.n 1,.n 0]):=AZ;have s22:∀H:Hp,DF jA false H 22 1 [(0,.agg [.str aN,.n 2,.n 1,.n 0])]=some (.sl .full 4 [[.str aN,.n 2,.n 1,.n 0]],H):=fun H=>AZ
 have s23:∀H:Hp,DF jA false H 23 1 [(0,.agg YJ)]=some (.sl .full 4 [YJ],H):=fun H=>AZ
 have s25:∀H:Hp,DF jA false H 25 1 [(0,.sl .full 1 [Bins.qencI 0])]=some (.sl .full 1 [[.sl .full 1 [[.n 0]]]],H):=fun H=>AZ
 have b27:I5 jA 27 [(0,.sl .full 4 [[.str aN,.n 2,.n 1,.n 0]]),(1,.sl .full 4 [YJ]),(4,.sl .full 1 [[.sl .full 1 [[.n 0]]]])]=some (.agg mV):=AZ;simp only[vQ,JH,CP,gZ,NZ,F6,↓reduceIte,jC,enP,jQ,BBV,AZ3,al79,AQN _ rV,KZ g1 rfl,ALW,BBH _ rV (⟨_,_,_,_,_,_,rfl⟩:R4 (pB 1 3)),A8K,AQN _ rL]
 generalize h++[yE 5 [[.sl .nil 0 [],.sl .nil 0 [],.sl .nil 0 [],.sl .nil 0 [],.sl .nil 0 []]]]++[yE 4 [OU aN]]++[yE 4 [YJ]]=H at g0 g2 hx|-
 have s27:DU jA H 27 (.ptr h.length 0 0) (.agg mV)=some (H.set h.length (yE 5 [mV])):=by
  rw[IR (cs:=mV) rfl cY g0 (jF 5)];rfl
 refine SE b131 s22 (KZ g2 rfl) s23 @bsI s25 b27 s27 ?_;rw[JM (b:=h.length) (x:=.agg mV) AQ (by rw[ED lC cY (CV g0) rfl (jF 5)];rfl)];exact⟨rfl,hx.set (jF _) _⟩
theorem A65 (H:Hp)(b:Nat):∀k:Nat,k<4->EN jA H 143 (.ptr b 0 0) (.n (k:Nat))=some (.ptr b 0 k)
 | 0,_=>AZ
 | 1,_=>AZ
 | 2,_=>AZ
 | 3,_=>AZ
 | k+4,h=>absurd h U
theorem A3A:∀k:Nat,k<4->nms[k]?=some (.str (nmN k))
 | 0,_=>rfl
 | 1,_=>rfl
 | 2,_=>rfl
 | 3,_=>rfl
 | k+4,h=>absurd h U
theorem A9Y:Tryz.prog.underlying 80=some (.slice 87):=AZ
theorem A9T:TA jA 87=some 4:=AZ
theorem BA9:KI jA 87=some 72:=AZ
theorem ZH (h:Hp):PCall (En G) 38 [] h (.agg (DV SL)):=by
 refine PCall.res (r:=.agg A3C) ?_ AXO;refine ACalls.pure (R:=fun v H=>Sm.ext h H/\FH h.length H 5 v=.agg A3C) 5 ?_ (fun v H ⟨a,b⟩=>⟨a,b⟩);refine IP (H:=hint [22,25] []) (enM G) Tryz.func38 rfl (by kernel_rfl) (by kernel_rfl) (jB (by kernel_rfl)) ?_;show awp _ _ _ _ _ (L6 _ [.cell 0 31] _);have g0:=AO (x:=yE 4 [nms]) (AO (x:=yE 6 [ptW (.sl .nil 0 [])]) (AX h (yE 2 [[.sl .nil 0 [],.sl .nil 0 []]])));have g1:=AO (x:=yE 4 [nms]) (AX (h++[yE 2 [[.sl .nil 0 [],.sl .nil 0 []]]]) (yE 6 [ptW (.sl .nil 0 [])]));have g2:=AX (h++[yE 2 [[.sl .nil 0 [],.sl .nil 0 []]]]++[yE 6 [ptW (.sl .nil 0 [])]]) (yE 4 [nms]);have hx:Sm.ext h (h++[yE 2 [[.sl .nil 0 [],.sl .nil 0 []]]]++[yE 6 [ptW (.sl .nil 0 [])]]++[yE 4 [nms]]):=(((ext.rfl' h).app _).app _).app _;have e1:(h++[yE 2 [[.sl .nil 0 [],.sl .nil 0 []]]]).length=h.length+1:=BA;have e2:(h++[yE 2 [[.sl .nil 0 [],.sl .nil 0 []]]]++[yE 6 [ptW (.sl .nil 0 [])]]).length=h.length+2:=BA;have b82:I5 jA 82 [(0,.str aN),(1,.agg (OU aN))]=some (.agg (ptW (.sl .nil 0 []))):=AZ
 have s82:∀H:Hp,DU jA (H++[yE 6 [ptZ]]) 82 (.ptr H.length 0 0) (.agg (ptW (.sl .nil 0 [])))=some (H++[yE 6 [ptW (.sl .nil 0 [])]]):=fun H=>by
  rw[IR (cs:=ptW (.sl .nil 0 [])) (row:=ptZ) rfl bA (AX _ _) (jF 6),JZ];rfl
 have b143:I5 jA 143 [(0,.str ⟨#[110,48]⟩),(1,.str ⟨#[110,49]⟩),(2,.str ⟨#[110,50]⟩),(3,.str ⟨#[110,51]⟩)]=some (.agg nms):=AZ
 have s143:∀H:Hp,DU jA (H++[yE 4 [[.str ⟨#[]⟩,.str ⟨#[]⟩,.str ⟨#[]⟩,.str ⟨#[]⟩]]]) 143 (.ptr H.length 0 0) (.agg nms)=some (H++[yE 4 [nms]]):=fun H=>by
  rw[IR (cs:=nms) (row:=[.str ⟨#[]⟩,.str ⟨#[]⟩,.str ⟨#[]⟩,.str ⟨#[]⟩]) rfl A5T (AX _ _) (jF 4),JZ];rfl
 refine SE BBU @AZ3 b82 @A8Y s82 b143 A87 s143 ?_
 rw[e1] at g1|-
 rw[e2] at g2|-
 generalize h++[yE 2 [[.sl .nil 0 [],.sl .nil 0 []]]]++[yE 6 [ptW (.sl .nil 0 [])]]++[yE 4 [nms]]=H0 at g0 g1 g2 hx|-
 have l2:=AC g2;clear e1 e2
 refine BK (fun n F H=>∃k v,n+k=4/\F 0=.ptr h.length 0 0/\F 1=.ptr (h.length+1) 0 0/\F 2=.ptr (h.length+2) 0 0/\F 3=.n (k:Nat)/\H[h.length]?=some (yE 2 [[.sl .nil 0 [],.sl .nil 0 []]])/\H[h.length+1]?=some (yE 6 [ptW v])/\H[h.length+2]?=some (yE 4 [nms])/\Sm.ext h H/\outG 4 gY h (zM k) v H/\∀b,isB v b->h.length+2<b) 4
  ⟨0,.sl .nil 0 [],U,AQ,AQ,AQ,AQ,g0,g1,g2,hx,outG.nil _ _ _ _,fun b q=>q.elim⟩ ?_
 clear g0 g1 g2 hx;rintro n F H ⟨k,v,hk,f0,f1,f2,f3,g0,g1,g2,hx,ho,sep⟩;have e5:BI jA H 80 (.ptr (h.length+1) 0 5)=some v:=by rw[BC QC g1 rfl];rfl
 refine A7 f3 ?_;refine BO ?_ ?_<;>intro hc
 .have hk':k<4:=by have:=of_decide_eq_true hc;omega
  have ln:BI jA H 9 (.ptr (h.length+2) 0 k)=some (.str (nmN k)):=by rw[BC ag9 g2 rfl];exact A3A k hk'
  have b87:I5 jA 87 [(0,.str (nmN k)),(2,.sl .full 2 [encR ⟨(k:Nat),(k:Nat)⟩])]=some (.agg (gY k)):=AZ;have s80:DF jA false H 80 1 [(0,.agg (gY k))]=some (.sl .full 4 [gY k],H):=AZ;obtain⟨v',H',a1,a2,a3,a4,a5,a6⟩:=ho.append (P:=jA) A9Y aZ A9T BA9 U (by rw[List.length_range];omega) hx k;have l2:=AC g2;have g0':=a3 _ _ g0 (fun q=>by have:=sep _ q;omega);have g1':=a3 _ _ g1 (fun q=>by have:=sep _ q;omega);have g2':=a3 _ _ g2 (fun q=>by have:=sep _ q;omega)
  have hlf:IB v'=some [v']:=by
   rcases a2 with⟨_,rfl⟩|⟨_,o,_,rfl,_⟩<;>rfl
  have s5:DU jA H' 80 (.ptr (h.length+1) 0 5) v'=some (H'.set (h.length+1) (yE 6 [ptW v'])):=by
   rw[IR (cs:=[v']) hlf (AZ:szO jA 80=some 1) g1' (jF 6)];rfl
  refine AB ?_;refine D6 AZ ?_;simp only[vQ,JH,List.contains_cons,List.contains_nil,Nat.reduceBEq,Bool.or_false,P8,cT,KY,QR,LP,OW,CP,NZ,F6,JW,↓reduceIte,jC,Nat.reduceAdd,enP,OQ,jQ,f1,f2,f3,e5,A65 H (h.length+2) k hk',ln,AUQ,A4W,b87,s80,a1,s5,DC k];refine⟨n-1,U,k+1,v',U,AL,AL,AL,AL,by rw[zD U];exact g0',CV g1',by rw[zD U];exact g2',a4.set U _,?_,fun b hb=>by have:=a6 b hb;omega⟩;rw[List.range_succ];exact a2.keep fun b hb=>by rw[zD (by have:=a6 b hb;omega)]
 .have hk':¬k<4:=fun q=>by rw[decide_eq_true U] at hc;cases hc
  obtain rfl:k=4:=U;rcases ho with⟨q,_⟩|⟨_,o,hob,rfl,q3⟩
  .cases q
  have l6:BI jA H 82 (.ptr (h.length+1) 0 0)=some (.agg (ptW (.own o 0 4))):=by rw[ED lB bA g1 rfl (jF 6)];rfl
  have s28:DF jA true H 28 1 [(0,.agg (ptW (.own o 0 4)))]=some (.own H.length 0 1,H++[yE 6 [ptW (.own o 0 4)]]):=AZ;have b31:I5 jA 31 [(0,.own H.length 0 1)]=some (.agg [.own H.length 0 1,.sl .nil 0 []]):=AZ;have g0':=AO (x:=yE 6 [ptW (.own o 0 4)]) g0;have q3':=AO (x:=yE 6 [ptW (.own o 0 4)]) q3;have gb:=AX H (yE 6 [ptW (.own o 0 4)]);have hx':=hx.app [yE 6 [ptW (.own o 0 4)]];have l0:=AC g0;have ho0:=sep o rfl;have q3l:=AC q3;refine JI f0 f1 l6 s28 b31 ?_
  generalize H++[yE 6 [ptW (.own o 0 4)]]=H1 at g0' q3' gb hx'|-
  generalize H.length=rb at gb l0 q3l|-
  have s31:DU jA H1 31 (.ptr h.length 0 0) (.agg [.own rb 0 1,.sl .nil 0 []])=some (H1.set h.length (yE 2 [[.own rb 0 1,.sl .nil 0 []]])):=by
   rw[IR (cs:=[.own rb 0 1,.sl .nil 0 []]) rfl AQH g0' (jF 2)];rfl
  refine BB s31 f0 ?_;rw[JM (b:=h.length) (x:=.agg [.own rb 0 1,.sl .nil 0 []]) (EI f0) (by rw[ED A45 AQH (CV g0') rfl (jF 2)];rfl)];refine⟨hx'.set (jF _) _,?_⟩;have q4:(H1.set h.length (yE 2 [[.own rb 0 1,.sl .nil 0 []]]))[o]?=some (yE 4 ((zM 4).map gY)):=by grind
  have gb4:(H1.set h.length (yE 2 [[.own rb 0 1,.sl .nil 0 []]]))[rb]?=some (yE 6 [ptW (.own o 0 4)]):=by grind
  generalize H1.set h.length (yE 2 [[.own rb 0 1,.sl .nil 0 []]])=H2 at q4 gb4;have z1:FH h.length H2 3 (.own o 0 4)=.sl .any 4 ((zM 4).map gY):=Cov.frz_own A7G (n:=h.length) (d:=1) (h:=H2) (xs:=zM 4) U q4
  have z2:FH h.length H2 4 (.own rb 0 1)=.sl .any 6 [ptW (.sl .any 4 ((zM 4).map gY))]:=by
   have hrow:((([ptW (.own o 0 4)]:List (List AV)).drop 0).take 1).map (·.map (FH h.length H2 3))=[ptW (.sl .any 4 ((zM 4).map gY))]:=by
    show [[AV.str aN,.n 2,.n 0,.str aN,.sl .nil 0 [],FH h.length H2 3 (.own o 0 4)]]=_;rw[z1]
   rw[Cov.frzF_own _ _ 3 rb 0 1 6 _ U gb4,hrow];rfl
  show AV.agg [FH h.length H2 4 (.own rb 0 1),FH h.length H2 4 (.sl .nil 0 [])]=_;rw[z2];rfl
end
end Go.Proofs.YtiihpnicbekebaaGreatDoor.Bd.Cl
namespace Go.Proofs.YtiihpnicbekebaaGreatDoor.Cov
open Sm Bins Go.RowKit
theorem goals_nil (G:Nat->AV)(m:Mo)(hc:m.crs=[])(hm:MoOk m)(hg:Good m)(h:Hp):PCall (En G) 61 [.agg (DV m)] h (.sl (nm (goals m)) 4 ((goals m).map KQ)):=by
 refine J3 BAT ?_;have hm1:=hm.np;have hm2:=hm.nc;have hnum:=hg.num;refine acT Tryz.func61 2 ?_;refine BB @bxM (dS (AX h (yE 2 [DV m]))) ?_;refine EU 0 (fun F H=>F 1=.ptr h.length 0 0/\H[h.length]?=some (yE 2 [DV m])/\ext h H/\(∀b,isB (F 3) b->h.length<b)/\outG 4 KQ h (gC m 0) (F 3) H) (fun _ _=>False) ?_ ?_ (fun _ _ hh=>hh.elim)
 .refine BK (fun n F H=>∃i,n+i=m.pts.length/\F 1=.ptr h.length 0 0/\F 13=.sl m.pm 6 (m.pts.map FK)/\F 14=.n m.pts.length/\F 15=.n (i:Nat)/\H[h.length]?=some (yE 2 [DV m])/\ext h H/\(∀b,isB (F 3) b->h.length<b)/\outG 4 KQ h (gP m i) (F 3) H) m.pts.length ⟨0,BA,AQ,AQ,AQ,AQ,AX _ _,(ext.rfl' h).app _,fun b hb=>hb.elim,outG.nil _ _ _ _⟩ ?_
  rintro n F H ⟨i,hi,f1,f13,f14,f15,gm,he,hlt,ho⟩;refine BB f14 f15 ?_;refine D9 ?_ ?_<;>intro hi'
  .have hgp:gP m (i+1)=gP m i++gPk i m.pts[i] m.pts[i].bins.length:=by
    simp only[gP];rw[jI hi']
   have h64:=(hg.full _ (List.getElem_mem hi')).2;have hpl:=AHP hg.full i;simp only[vQ,CP,↓reduceIte,jC,enP,XL,rO,OQ,jQ,f13,f15,CZ hi',DJ lB bA H9 hi',AU2,AQO _ _ [.str ⟨#[]⟩,.n 0,.n 0,.str ⟨#[]⟩,.sl .nil 0 [],.sl .nil 0 []] rfl,D7 QC,TS,List.length_map];refine EU 2 (fun F' H'=>F' 1=.ptr h.length 0 0/\F' 13=.sl m.pm 6 (m.pts.map FK)/\F' 14=.n m.pts.length/\F' 15=.n (i:Nat)/\H'[h.length]?=some (yE 2 [DV m])/\ext h H'/\(∀b,isB (F' 3) b->h.length<b)/\outG 4 KQ h (gP m (i+1)) (F' 3) H') (fun _ _=>False) ?_ ?_ (fun _ _ hh=>hh.elim)
   .refine BK (fun n F' H'=>∃k,n+k=m.pts[i].bins.length/\F' 1=.ptr h.length 0 0/\F' 13=.sl m.pm 6 (m.pts.map FK)/\F' 14=.n m.pts.length/\F' 15=.n (i:Nat)/\F' 4=.n (i:Nat)/\F' 21=.sl m.pts[i].bm 4 (m.pts[i].bins.map GG)/\F' 22=.n m.pts[i].bins.length/\F' 23=.n (k:Nat)/\H'[h.length]?=some (yE 2 [DV m])/\ext h H'/\(∀b,isB (F' 3) b->h.length<b)/\outG 4 KQ h (gP m i++gPk i m.pts[i] k) (F' 3) H') m.pts[i].bins.length ⟨0,BA,EI f1,EI f13,EI f14,EI f15,AQ,AQ,AQ,AQ,AO gm,he.app _,hlt,by rw[show gPk i m.pts[i] 0=[] from rfl,List.append_nil];exact ho.app _⟩ ?_
    clear f1 f13 f14 f15 gm he hlt ho;rintro n' F H ⟨k,hk,f1,f13,f14,f15,f4,f21,f22,f23,gm,he,hlt,ho⟩;refine BB f22 f23 ?_;refine D9 ?_ ?_<;>intro hk'
    .have hkd:kindOf m.pts[i] k=(m.pts[i].bins[k]).kind:=by unfold kindOf;rw[jI hk']
     have hkl:=xT i m.pts[i] k;have ho1:=ho.app [yE 4 [GG m.pts[i].bins[k]]];have he1:ext h (H++[yE 4 [GG m.pts[i].bins[k]]]):=he.app _;simp only[vQ,CP,J7,↓reduceIte,jC,enP,fO,gA,jQ,f21,f23,CZ hk',DJ lA aZ LC hk',al79,st79 _ _ [.str ⟨#[]⟩,.n 0,.sl .nil 0 [],.sl .nil 0 []] rfl,D7 ag3,aQ];cases hz:(m.pts[i].bins[k].kind==0)
     .have hgk:gPk i m.pts[i] (k+1)=gPk i m.pts[i] k:=by
       simp only[gPk];rw[hkd,hz];simp
      refine BB f23 (DC k) ?_;refine⟨n'-1,U,k+1,U,f1,f13,f14,f15,f4,f21,f22,rfl,AO gm,he1,hlt,?_⟩;rw[hgk];exact ho1
     .have hgk:gP m i++gPk i m.pts[i] (k+1)=(gP m i++gPk i m.pts[i] k)++[mkP i k]:=by
       simp only[gPk];rw[hkd,hz,if_pos rfl,List.append_assoc]
      obtain⟨v',H',ha,ho',hkeep,he',hle,hb'⟩:=ho1.append A0Y sN A0S A77 U (by rw[List.length_append];omega) he1 (mkP i k);refine ES f4 AFA @A8N @A8M ?_;rw[show [AV.bool false,AV.int .i64 ((i:Nat):Int),AV.sl .full 1 [[.n ((k:Nat):Int)]],AV.int .i64 ((k:Nat):Int)]=KQ (mkP i k) from rfl];simp only[vQ,CP,JW,↓reduceIte,jC,enP,BBF _ _ (show(KQ (mkP i k)).all AV.frozen=true from rfl)];refine KW (v:=v') (h:=H') ha ?_;refine BB f23 (DC k) ?_;refine⟨n'-1,U,k+1,U,f1,f13,f14,f15,f4,f21,f22,rfl,hkeep _ _ (AO gm) (fun e=>by have:=hlt _ e;omega),he',fun b hbb=>?_,?_⟩
      .have h1:=hb' b hbb;have h2:=AC gm;rw[h1];simp;omega
      .rw[hgk];exact ho'
    .have hke:k=m.pts[i].bins.length:=U
     refine AB ?_;refine⟨f1,f13,f14,f15,gm,he,hlt,?_⟩;rw[hgp,<-hke];exact ho
   .rintro F' H' ⟨g1,g13,g14,g15,gm',he',hlt',ho'⟩
    refine BB g15 (DC i) ?_;exact⟨n-1,U,i+1,U,g1,g13,g14,rfl,gm',he',hlt',ho'⟩
  .have hie:i=m.pts.length:=U
   subst hie;refine AB ?_;exact⟨f1,gm,he,hlt,ho⟩
 .rintro F H ⟨f1,gm,he,hlt,ho⟩
  have ho:outG 4 KQ h (goals m) (F 3) H:=by unfold goals;rw[hc];exact ho
  refine MI f1 (AC8 gm) hc ?_;refine BK (fun n F H=>F 44=.n 0/\F 45=.n 0/\ext h H/\outG 4 KQ h (goals m) (F 3) H) 0 ⟨AQ,AQ,he,ho⟩ ?_;clear f1 gm he hlt ho;rintro n F H ⟨f44,f45,he,ho⟩;refine DW f44 f45 (show decide ((0:Int)<0)=false from rfl) ?_;exact⟨he,ho⟩
end Go.Proofs.YtiihpnicbekebaaGreatDoor.Cov
namespace Go.Proofs.YtiihpnicbekebaaGreatDoor.Bd.Cl
open Sm Bins Cov Xe Wd Bl Ho Go.RowKit
section
variable (G:Nat->AV)
theorem AS8 (m:Mo)(hc:m.crs=[])(s:SM)(h:Hp):PCall (En G) 120 [.agg (DV m),.sl s 1 []] h (.bool true):=by
 refine ACalls.pure0 rfl ?_;refine acT Tryz.func120 4 ?_;simp only[vQ,CP,TB,↓reduceIte,Nat.reduceEqDiff,Nat.zero_add,Option.getD_some,Bool.not_false,enP,AHA,AXY,U8,bxM,D7 sD,aP,hc,List.length_nil,show(((0:Nat):Int) != ((0:Nat):Int))=false from rfl];refine BK (fun n F H=>F 18=.n 0/\F 19=.n 0/\∃x,H=h++x) 0 ⟨AQ,AQ,_,rfl⟩ ?_;rintro n F H ⟨f18,f19,hx⟩;refine DW f18 f19 (show decide ((0:Int)<0)=false from rfl) ?_;exact⟨AL,hx⟩
theorem A1N (hG:GOk G)(m:Mo)(hc:m.crs=[])(hm:MoOk m)(v:Cvr)(hv:CvOk v)(hvc:v.crs=[])(h:Hp):PCall (En G) 55 [.agg (DV m),.agg (Cov.encV v)] h (.bool (MV m v)) :=
 AYY G hG m v hm hv (fun _ h=>by rw[hvc,hc];exact AS8 G m hc v.cm h) h
theorem A6E (hG:GOk G)(p:Pr)(hs:PrS p)(hb:Sm51 p)(m:Mo)(hc:m.crs=[])(hm:MoOk m)(v:Cvr)(hv:CvOk v)(hvc:v.crs=[])(most:Int)(h:Hp):PCall (En G) 17 [.agg (CY p),.agg (DV m),.agg (Cov.encV v),.n most] h (ANB sdP EE p m v most) :=
 A0I G hG p hs hb m hm v most (A1N G hG m hc hm v hv hvc) (ASU G m v (A1N G hG m hc hm v hv hvc) (Cov.goals_nil G m hc hm)) h
end
end Go.Proofs.YtiihpnicbekebaaGreatDoor.Bd.Cl
namespace Go.Proofs.YtiihpnicbekebaaGreatDoor.Ho
open Sm Bins Cov Go.RowKit
theorem cl4:Tryz.prog.cellsOf 4=1:=AZ
theorem BA2:Tryz.prog.cellsOf 34=3:=AZ
def A27 (x:Hl)(b:Nat):Prop:=okL okI x.bins b
theorem BAF:Rd Tryz.prog 34 F8 A27:=by
 intro n
 match n with
 | 0=>exact RdAt.zero
 | 1=>exact bG Tryz.underlying34
 | n+2 =>
   refine RdAt.map (fun x:Bool×Int×Is×Unit=>(⟨x.1,x.2.1,x.2.2.1.m,x.2.2.1.l⟩:Hl))
    (KF Tryz.underlying34 (EJ rfl cl4 (fun _=>rfl) (AJW Tryz.underlying4 _) (EJ rfl cl3 (fun _=>rfl) (rdI _) (EJ rfl APC eD (AWR _) N9)))) (fun x=>rfl) ?_
   rintro⟨a,b,c,_⟩ N ⟨_,hN,b1,b2,hb,h1,b3,b4,hb2,h2,b5,b6,hb3,h3,_⟩;exact h3.mono U
theorem AYD {x:Hl}{b:Nat}(h:A27 x b)(hb:b<=1048576):x.bins.length<=1048576:=Nat.le_trans (okL.length h) hb
end Go.Proofs.YtiihpnicbekebaaGreatDoor.Ho
namespace Go.Proofs.YtiihpnicbekebaaGreatDoor.Cov
open Sm Bins Bd Go.RowKit
theorem BA0:Tryz.prog.cellsOf 4=1:=AZ
theorem BA8:Tryz.prog.cellsOf 22=1:=AZ
theorem BA7:Tryz.prog.cellsOf 24=1:=AZ
theorem BA6:Tryz.prog.cellsOf 27=5:=AZ
theorem A74:Tryz.prog.cellsOf 120=1:=AZ
theorem A72:Tryz.prog.cellsOf 140=2:=AZ
theorem A73:Tryz.prog.cellsOf 131=4:=AZ
theorem A70:Tryz.prog.cellsOf 240=4:=AZ
def AW8 (v:Vr)(b:Nat):Prop:=v.name.size<=b
theorem BAD:Rd jA 131 Bd.encV AW8:=by
 intro n
 cases n with
 | zero=>exact RdAt.zero
 | succ n =>
   refine RdAt.map (fun x:ByteArray×Int×Int×Int×Unit=>(⟨x.1,x.2.1,x.2.2.1,x.2.2.2.1⟩:Vr)) (KF Tryz.underlying131 (EJ rfl cl9 (fun _=>rfl) (rdStr n) (EJ rfl cl3 (fun _=>rfl) (rdI n) (EJ rfl cl3 (fun _=>rfl) (rdI n) (EJ rfl cl3 (fun _=>rfl) (rdI n) N9))))) (fun _=>rfl) ?_;rintro⟨a,b,c,d,_⟩ N ⟨_,hN,b1,b2,hb,h1,_⟩;unfold okS at h1;show a.size<=N;simp only at h1;omega
theorem BAC:Rd jA 240 JC (fun _ _=>True):=by
 intro n
 cases n with
 | zero=>exact RdAt.zero
 | succ n=>exact RdAt.map (fun x:Int×Int×Int×Bool×Unit=>(⟨x.1,x.2.1,x.2.2.1,x.2.2.2.1⟩:Wg)) (KF Tryz.underlying240 (EJ rfl cl3 (fun _=>rfl) (rdI n) (EJ rfl cl3 (fun _=>rfl) (rdI n) (EJ rfl cl3 (fun _=>rfl) (rdI n) (EJ rfl BA0 (fun _=>rfl) (AJW Tryz.underlying4 n) N9))))) (fun _=>rfl) (fun _ _ _=>trivial)
def AXD (d:Ds)(b:Nat):Prop:=d.ws.length<=b
theorem BAG:Rd jA 140 IK AXD:=by
 intro n
 match n with
 | 0=>exact RdAt.zero
 | 1=>exact bG Tryz.underlying140
 | n+2 =>
   have rdW:RdAt jA (n+1) 120 (fun x:SM×List Wg=>[.sl x.1 4 (x.2.map JC)]) (fun x b=>∃b',b'+1<=b/\okL (fun _ _=>True) x.2 b'):=J9 Tryz.underlying120 A70 DT gI (BAC n);refine RdAt.map (fun x:Int×(SM×List Wg)×Unit=>(⟨x.1,x.2.1.1,x.2.1.2⟩:Ds)) (KF Tryz.underlying140 (EJ rfl cl3 (fun _=>rfl) (rdI _) (EJ rfl A74 (fun _=>rfl) rdW N9))) (fun _=>rfl) ?_;rintro⟨a,b,_⟩ N ⟨_,hN,b1,b2,hb,h1,b3,b4,hb2,h2,_⟩;have:=(NT h2).length;show b.2.length<=N;simp only at this;omega
def ACV (g:Gp)(b:Nat):Prop:=g.l.length<=b
theorem A6A:Rd jA 32 OH ACV:=by
 intro n
 cases n with
 | zero=>exact RdAt.zero
 | succ n=>exact RdAt.map (fun x:SM×List Int=>(⟨x.1,x.2⟩:Gp)) (J9 Tryz.underlying32 cl3 DT (fun _=>rfl) (rdI n)) (fun _=>rfl) (fun x b h=>(NT h).length)
theorem tH:∀ {l:List Gp} {b:Nat},okL ACV l b->(flG l).length<=b
 | [],b,_=>Nat.zero_le _
 | x::xs,b,⟨b1,b2,h1,_,h3,h4⟩=>by
   have:=tH h4;unfold ACV at h3;show((x::xs).flatMap Gp.l).length<=b;rw[List.flatMap_cons,List.length_append];unfold flG at this;omega
def A26 (p:Pr)(b:Nat):Prop:=∃b1 b2 b3 b4 b5,b1+b2+b3+b4+b5<=b/\okL AW8 p.vars b1/\okL okE p.hard b2/\okL okE p.soft b3/\okL AXD p.dists b4/\okL ACV p.groups b5
theorem BAE:Rd jA 27 CY A26:=by
 intro n
 match n with
 | 0=>exact RdAt.zero
 | 1=>exact bG Tryz.underlying27
 | n+2 =>
   have r1:RdAt jA (n+1) 22 (fun x:SM×List Vr=>[.sl x.1 4 (x.2.map Bd.encV)]) (fun x b=>∃b',b'+1<=b/\okL AW8 x.2 b'):=J9 Tryz.underlying22 A73 DT Bd.encV_len (BAD n);have r2:RdAt jA (n+1) 23 (fun x:SM×List Ex=>[.sl x.1 4 (x.2.map A8)]) (fun x b=>∃b',b'+1<=b/\okL okE x.2 b'):=J9 Tryz.underlying23 A4R DT EG (rdE n);have r4:RdAt jA (n+1) 24 (fun x:SM×List Ds=>[.sl x.1 2 (x.2.map IK)]) (fun x b=>∃b',b'+1<=b/\okL AXD x.2 b'):=J9 Tryz.underlying24 A72 DT RJ (BAG n);have r5:RdAt jA (n+1) 25 (fun x:SM×List Gp=>[.sl x.1 1 (x.2.map OH)]) (fun x b=>∃b',b'+1<=b/\okL ACV x.2 b'):=J9 Tryz.underlying25 APC DT (fun _=>rfl) (A6A n)
   refine RdAt.map (fun x:(SM×List Vr)×(SM×List Ex)×(SM×List Ex)×(SM×List Ds)×(SM×List Gp)×Unit=>(⟨x.1.1,x.1.2,x.2.1.1,x.2.1.2,x.2.2.1.1,x.2.2.1.2,x.2.2.2.1.1,x.2.2.2.1.2,x.2.2.2.2.1.1,x.2.2.2.2.1.2⟩:Pr))
    (KF Tryz.underlying27 (EJ rfl BA8 (fun _=>rfl) r1 (EJ rfl A4S (fun _=>rfl) r2 (EJ rfl A4S (fun _=>rfl) r2 (EJ rfl BA7 (fun _=>rfl) r4 (EJ rfl AZR (fun _=>rfl) r5 N9)))))) (fun _=>rfl) ?_
   rintro⟨a,b,c,d,e,_⟩ N ⟨_,hN,b1,b2,hb,h1,b3,b4,hb2,h2,b5,b6,hb3,h3,b7,b8,hb4,h4,b9,b10,hb5,h5,_⟩;exact⟨b1,b3,b5,b7,b9,U,NT h1,NT h2,NT h3,NT h4,NT h5⟩
theorem A21 {p:Pr}{b:Nat}(h:A26 p b)(hb:b<=1048576):PrS p:=by
 obtain⟨b1,b2,b3,b4,b5,h0,h1,h2,h3,h4,h5⟩:=h;have l1:=h1.length;have l2:=h2.length;have l3:=h3.length;have l4:=h4.length;have l5:=h5.length;have l6:=tH h5;refine⟨U,fun v hv=>?_,U,fun e he=>?_,U,fun d hd=>?_,U,U⟩
 .obtain⟨b6,h6,h7⟩:=h1.each v hv
  unfold AW8 at h7;omega
 .rcases List.mem_append.1 he with he|he
  .obtain⟨b6,h6,h7⟩:=h2.each e he
   unfold okE at h7;omega
  .obtain⟨b6,h6,h7⟩:=h3.each e he
   unfold okE at h7;omega
 .obtain⟨b6,h6,h7⟩:=h4.each d hd
  unfold AXD at h7;omega
end Go.Proofs.YtiihpnicbekebaaGreatDoor.Cov
namespace Go.Proofs.YtiihpnicbekebaaGreatDoor.Cov
open Sm Bins Go.RowKit
noncomputable def ASB (z:Int):Nat->AV:=fun n=>if n=0 then .fptr 1 [[.sl .any 1 (kw.map qencStr)]] 0 0 else if n=1 then .fptr 1 [[.int .i64 z]] 0 0 else .junk
theorem A60 (z:Int):GOk (ASB z):=⟨⟨.any,rfl⟩,z,rfl⟩
theorem ASD {H:Type}:(Rows.laid_testbench_lexer_keywords:DataW H)=.slice (kw.map fun s=>.lit (.string s.data.toList)) []:=rfl
theorem AV3 {w:World}{g:Nat}{k:IntKind}{z:Int}(h:w.cell? ⟨g,0,none⟩=some (.int k z)):RepF (M0 w) (.fptr 1 [[.int k z]] 0 0) (.pointer (some ⟨g,0,none⟩)):=by
 simp only[World.cell?] at h;split at h
 case h_2=>simp at h
 rename_i cc ty fz hw;have hcc:cc[0]?=some (.int k z):=BM h;refine .fptr 1 [[.int k z]] 0 0 g 0 cc ty fz (fun _ _=>.int k z) hw ?_ ?_ ?_
 .intro i row hrow
  cases i with
  | zero =>
    simp at hrow;subst hrow;refine⟨rfl,fun j v hv=>?_⟩
    cases j with
    | zero=>simp at hv;subst hv;rfl
    | succ j=>simp at hv
  | succ i=>simp at hrow
 .intro i j hi hj
  obtain rfl:i=0:=BM hi;obtain rfl:j=0:=U;exact hcc
 .intro i j row v hrow hv
  cases i with
  | zero =>
    simp at hrow;subst hrow
    cases j with
    | zero=>simp at hv;subst hv;exact .int _ _
    | succ j=>simp at hv
  | succ i=>simp at hrow
theorem A9P {W:World}(h:laidMetH jA [("math/bits.deBruijn32tab",Rows.laid_math_bits_deBruijn32tab),("math/bits.deBruijn64tab",Rows.laid_math_bits_deBruijn64tab),("internal/strconv.uint64pow10",Rows.laid_internal_strconv_uint64pow10),("testbench/lexer.keywords",Rows.laid_testbench_lexer_keywords)] W) (hsh:W.ShapedOpen jA) :
  ∃z,∀n,RepF (M0 W) (ASB z n) (.pointer (some ⟨n,0,none⟩)):=by
 rw[MakeChecks.laidMetH_plain _ _ _ AZ] at h;obtain⟨ps,⟨_,_,_,_,_,_,_,_,_,_,⟨_,_,_,_,_,_,_,_,_,_,⟨_,_,_,_,_,_,_,_,_,_,⟨g3,t3,cs3,f3,p3,q3,hg3,ht3,hv3,hd3,_,_⟩,_⟩,_⟩,_⟩,_,_⟩:=h
 have hgk:Tryz.prog.globalNamed "testbench/lexer.keywords" = some 0:=AZ
 have htk:(Tryz.prog.globals[0]?).map (·.type)=some 121:=AZ;obtain rfl:=Option.some.inj (hgk.symm.trans hg3);obtain rfl:=Option.some.inj (htk.symm.trans ht3);obtain⟨c,h1,h2⟩:=AN2 Tryz.underlying121 Tryz.underlying9 cl9 ASD hd3;obtain⟨z,hz⟩:=cell_of_shapedOpen_int (P:=jA) (g:=1) (t:=3) (zero := #[.int .i64 0]) hsh (of_decide_eq_true AZ) AZ rfl AZ AZ Tryz.underlying3;refine⟨z,fun n=>?_⟩;unfold ASB;split
 .rename_i hn; subst hn
  exact AV2 hg3 hv3 h1 h2 rfl
 .split
  .rename_i hn; subst hn
   exact AV3 hz
  .exact .junk _
end Go.Proofs.YtiihpnicbekebaaGreatDoor.Cov
namespace Go.Proofs.YtiihpnicbekebaaGreatDoor.Bd.Cl
open Sm Bins Cov Xe Wd Bl Ho Go.RowKit
variable {p:Pr} {A:Hp} {u v w:ABlk}
abbrev gW (i:Int):List AV:=[.bool false,.n 0,.sl .full 1 [[.n i]]]
theorem A9V:AM5 oO sdP EE PX SL (hol 2)=.tup [.sl .any 1 [[.sl .any 1 [[.n 2]]]],.n 0]:=by unfold AM5;rw[A5K.2,A5K.1];rfl
theorem A9X:AQ8 sdP EE PX SL (hol 3)=.tup [.bool true,.n 0]:=by unfold AQ8;rw[A9U];rfl
def A48 (v:Cvr):Prop:=ACG PX SL v 9=0/\(nB sdP EE PX SL v 9).1.map (fun g=>(g.cross,g.idx,g.bm,g.bins))=[(false,0,.full,[0]),(false,0,.full,[1]),(false,0,.full,[2])]/\(nB sdP EE PX SL v 9).2.map (fun g=>(g.cross,g.idx,g.bm,g.bins))=[(false,0,.full,[3])]
theorem AEH (L:List Gl):L.map Cov.encH=(L.map (fun g=>(g.cross,g.idx,g.bm,g.bins))).map fun x=>[AV.bool x.1,.n ((x.2.1:Nat):Int),.sl x.2.2.1 1 (x.2.2.2.map Bins.qencI)]:=by rw[qQ];rfl
theorem ARQ {α β:Type}(f:α->β)(L:List α):Cov.nm (L.map f)=Cov.nm L:=by cases L<;>rfl
theorem A9W {v:Cvr}(h:A48 v):ANB sdP EE PX SL v 9=.tup [.sl .any 3 [gW 0,gW 1,gW 2],.sl .any 3 [gW 3],.n 0]:=by
 obtain⟨h1,h2,h3⟩:=h;unfold ANB;rw[<-ARQ (fun g:Gl=>(g.cross,g.idx,g.bm,g.bins)),<-ARQ (fun g:Gl=>(g.cross,g.idx,g.bm,g.bins)) (nB sdP EE PX SL v 9).2,AEH,AEH,h2,h3,h1];rfl
theorem w_m:FQ SL=0:=by decide +kernel
theorem A8Q (n:Int):I5 jA 34 [(2,.sl .full 1 [Bins.qencI n])]=some (.agg (F8 (hol n))):=AZ
abbrev cvZ:List AV:=[.sl .nil 0 [],.sl .nil 0 [],.n 0,.n 0]
theorem A8Z (h:Hp):GH jA h 46=some (.ptr h.length 0 0,h++[yE 4 [cvZ]]):=FB (row:=cvZ) AZ
theorem A8X (h:Hp):GH jA h 94=some (.ptr h.length 0 0,h++[yE 1 [[.sl .nil 0 []]]]):=FB (row:=[.sl .nil 0 []]) AZ
section
variable (G:Nat->AV)
theorem AP2 (hG:GOk G)(v:Cvr)(t:Tk)(hpl:A48 v)(hP:∀h,PCall (En G) 17 [.agg (CY PX),.agg (DV SL),.agg (Cov.encV v),.n 9] h (ANB sdP EE PX SL v 9))(hE:∀h,PCall (En G) 39 [.agg (DV SL)] h (.tup [.agg (Cov.encV v),.agg (AEF t),.n 0]))(h:Hp):PCall (En G) 11 [] h (.bool true):=by
 refine ACalls.pure0 rfl ?_;refine acT Tryz.func11 0 ?_;have hR:=cJ G hG PX wA wD SL lI (hol 2) DT h;have hV:=kJ G hG PX wA wD SL lI (hol 3) DT h;rw[A9V] at hR;rw[A9X] at hV;refine AB ?_;refine(YA G h).uu ?_;refine(ZH G h).use ?_;refine BB @bsI A8Q ?_;refine hR.uu ?_;refine(YA G h).uu ?_;refine(ZH G h).use ?_;refine BB @bsI A8Q ?_;refine hV.uu ?_;refine(ZH G h).uu ?_;refine(hE h).use ?_;have g5:=AO (x:=yE 1 [[.sl .nil 0 []]]) (AX h (yE 4 [cvZ]));have g6:=AX (h++[yE 4 [cvZ]]) (yE 1 [[.sl .nil 0 []]]);have hx:Sm.ext h (h++[yE 4 [cvZ]]++[yE 1 [[.sl .nil 0 []]]]):=((ext.rfl' h).app _).app _;have e1:(h++[yE 4 [cvZ]]).length=h.length+1:=BA;refine BB @A8Z @A8X ?_
 rw[e1] at g6|-
 generalize h++[yE 4 [cvZ]]++[yE 1 [[.sl .nil 0 []]]]=H at g5 g6 hx|-
 have s5:DU jA H 46 (.ptr h.length 0 0) (.agg (Cov.encV v))=some (H.set h.length (yE 4 [Cov.encV v])):=by
  rw[IR (cs:=Cov.encV v) rfl AGG g5 (jF 4)];rfl
 have g56:(H.set h.length (yE 4 [Cov.encV v]))[h.length+1]?=some (yE 1 [[.sl .nil 0 []]]):=by rw[zD U];exact g6
 have s6:DU jA (H.set h.length (yE 4 [Cov.encV v])) 94 (.ptr (h.length+1) 0 0) (.agg (AEF t))=some ((H.set h.length (yE 4 [Cov.encV v])).set (h.length+1) (yE 1 [AEF t])):=by
  rw[IR (cs:=AEF t) rfl AV8 g56 (jF 1)];rfl
 have g7:((H.set h.length (yE 4 [Cov.encV v])).set (h.length+1) (yE 1 [AEF t]))[h.length]?=some (yE 4 [Cov.encV v]):=by rw[zD U];exact CV g5
 have hx2:=(hx.set (jF h.length) (yE 4 [Cov.encV v])).set (b:=h.length+1) U (yE 1 [AEF t]);refine BB s5 s6 ?_
 generalize (H.set h.length (yE 4 [Cov.encV v])).set (h.length+1) (yE 1 [AEF t])=H2 at g7 hx2|-
 have hP:=hP H2;rw[A9W hpl] at hP;refine D6 AZ ?_;refine AB ?_;refine⟨_,YA G H2,_,ZH G H2,?_⟩;refine A7 (Cov.ldV g7) ?_;refine⟨_,hP,?_⟩;have n0:((0:Int) != 0)=false:=rfl;have n1:(((1:Nat):Int) != 1)=false:=rfl;have n3:(((3:Nat):Int) != 3)=false:=rfl;have m1:(((1:Nat):Int)==1)=true:=rfl;have ia:IM 1 H2 (.sl .any 1 [[.sl .any 1 [[.n 2]]]]) (.n 0)=some (.fptr 1 [[.sl .any 1 [[.n 2]]]] 0 0):=AZ;have la:BI jA H2 32 (.fptr 1 [[.sl .any 1 [[.n 2]]]] 0 0)=some (.sl .any 1 [[.n 2]]):=AZ;have ib:IM 1 H2 (.sl .any 1 [[.n 2]]) (.n 0)=some (.fptr 1 [[.n 2]] 0 0):=AZ;have lb:BI jA H2 3 (.fptr 1 [[.n 2]] 0 0)=some (.n 2):=AZ;have ic:IM 3 H2 (.sl .any 3 [gW 0,gW 1,gW 2]) (.n 1)=some (.fptr 3 [gW 0,gW 1,gW 2] 1 0):=AZ;have lc:BI jA H2 32 (.fptr 3 [gW 0,gW 1,gW 2] 1 2)=some (.sl .full 1 [[.n 1]]):=AZ;have id:IM 1 H2 (.sl .full 1 [[.n 1]]) (.n 0)=some (.fptr 1 [[.n 1]] 0 0):=AZ;have ld:BI jA H2 3 (.fptr 1 [[.n 1]] 0 0)=some (.n 1):=AZ;have ie:IM 3 H2 (.sl .any 3 [gW 3]) (.n 0)=some (.fptr 3 [gW 3] 0 0):=AZ;have le:BI jA H2 32 (.fptr 3 [gW 3] 0 2)=some (.sl .full 1 [[.n 3]]):=AZ;have ig:IM 1 H2 (.sl .full 1 [[.n 3]]) (.n 0)=some (.fptr 1 [[.n 3]] 0 0):=AZ;have lg:BI jA H2 3 (.fptr 1 [[.n 3]] 0 0)=some (.n 3):=AZ;have q2:((2:Int)==2)=true:=rfl;have q1:((1:Int)==1)=true:=rfl;have q3:((3:Int)==3)=true:=rfl;simp only[vQ,wC,wK,LQ,VC,EM,QH,CP,KT,O8,J7,↓reduceIte,jC,jT,enP,fQ,AHA,LY,dO,bT,A63,AR1,n0,n1,n3,m1,ia,la,ib,lb,ic,lc,id,ld,ie,le,ig,lg,q1,q2,q3,List.length_cons,List.length_nil];exact⟨AL,hx2⟩
end
section
variable (G:Nat->AV)
theorem A5A (hG:GOk G)(m:Mo)(hm:MoOk m)(h0:FQ m=0)(h:Hp):PCall (En G) 39 [.agg (DV m)] h (.tup [.agg (Cov.encV (cvS (zS m))),.agg (AEF ⟨Cov.nm (zLs m),zLs m⟩),.n 0]):=by
 have hp:PCall (En G) 39 [.agg (DV m)] h (.tup [.agg (cvW (zS m)),.agg [fzG 1 (fun _:Pt=>GU) m.pts],.n 0]):=by
  refine ACalls.pure 5 (vD G hG m hm h) ?_;rintro v H ⟨he,⟨a,_⟩|⟨_,po,pb,co,cbs,v3,rfl,E⟩⟩
  .exact absurd h0 a
  .refine⟨he,?_⟩
   have e1:=AT8 (zS m) E.nc.np E.nc.nc h.length 0 (jF _);have e3:=P6 A36 E.o3 h.length 1 (jF _);show AV.tup [FH h.length H 4 (.agg (cvR po (zS m).P co (zS m).C (zS m).sam (zS m).ill)),.agg [FH h.length H 3 v3],.n 0]=_;rw[e1,e3]
 refine hp.res (CvR.tup (CvRL.cons (AT2 (zS m)) (CvRL.cons (CvR.agg (CvRL.cons ?_ CvRL.nil)) (CvRL.cons (CvR.refl _) CvRL.nil))));have h1:CvR (fzG 1 (fun _:Pt=>GU) m.pts) (.sl (Cov.nm m.pts) 1 (m.pts.map fun _=>GU)):=WR;have h2:=CvR.sl (AXL (s:=Cov.nm m.pts) m.pts);have h3:Cov.nm (zLs m)=Cov.nm m.pts:=by unfold zLs;cases m.pts<;>rfl
 intro g cv hr;have:=h2 g cv (h1 g cv hr);rw[h3];exact this
theorem SV (hG:GOk G)(h:Hp):PCall (En G) 11 [] h (.bool true) :=
 AP2 G hG (cvS (zS SL)) ⟨Cov.nm (zLs SL),zLs SL⟩ (by unfold A48;decide +kernel) (A6E G hG PX wA wD SL rfl lI _ ⟨by decide +kernel,by decide +kernel,by decide +kernel,by decide +kernel⟩ (by decide +kernel) 9) (A5A G hG SL lI w_m) h
end
structure Cse where
 p:Pr
 m:Mo
 x:Hl
 v:Cvr
 most:Int
def RY (c:Cse):List AV:=CY c.p++(DV c.m++(F8 c.x++(Cov.encV c.v++[.n c.most])))
theorem bY (c:Cse):(RY c).length=15:=by unfold RY;simp only[List.length_append,L8,oM,gK,Cov.encV_len];rfl
def pZ:List AV:=[.sl .nil 0 [],.sl .nil 0 [],.sl .nil 0 [],.sl .nil 0 [],.sl .nil 0 []]
def mZ:List AV:=[.sl .nil 0 [],.sl .nil 0 []]
theorem A82 (h:Hp):GH jA h 27=some (.ptr h.length 0 0,h++[yE 5 [pZ]]):=FB (row:=pZ) AZ
theorem A81 (h:Hp):GH jA h 31=some (.ptr h.length 0 0,h++[yE 2 [mZ]]):=FB (row:=mZ) AZ
section
variable (G:Nat->AV)
theorem A8A (h:Hp)(c:Cse):MP h (.agg (RY c))=some (.ptr h.length 0 0,h++[yE 15 [RY c]]):=rfl
end
theorem BB0:Tryz.prog.cellsOf 48=15:=AZ
def A08 (c:Cse)(b:Nat):Prop:=∃b1 b2 b3 b4,b1+b2+b3+b4<=b/\A26 c.p b1/\okM c.m b2/\A27 c.x b3/\okV c.v b4
theorem BBX:Rd jA 48 RY A08:=by
 intro n
 match n with
 | 0=>exact RdAt.zero
 | n+1 =>
   refine RdAt.map (fun x:Pr×Mo×Hl×Cvr×Int×Unit=>(⟨x.1,x.2.1,x.2.2.1,x.2.2.2.1,x.2.2.2.2.1⟩:Cse))
    (KF Tryz.underlying48 (EJ rfl BA6 L8 (BAE _) (EJ rfl BA3 oM (rdM _) (EJ rfl BA2 gK (BAF _) (EJ rfl BA1 Cov.encV_len (rdV _) (EJ rfl cl3 (fun _=>rfl) (rdI _) N9)))))) (fun x=>rfl) ?_
   rintro⟨a,b,c,d,e,_⟩ N ⟨_,hN,b1,b2,hb,h1,b3,b4,hb2,h2,b5,b6,hb3,h3,b7,b8,hb4,h4,_⟩;exact⟨b1,b3,b5,b7,U,h1,h2,h3,h4⟩
structure Gs where
 m:SM
 l:List Gp
def A6G (x:Gs)(b:Nat):Prop:=okL ACV x.l b
theorem BBY:Rd jA 25 (fun z:Gs=>[.sl z.m 1 (z.l.map OH)]) A6G:=by
 intro n
 cases n with
 | zero=>exact RdAt.zero
 | succ n=>exact RdAt.map (fun x:SM×List Gp=>(⟨x.1,x.2⟩:Gs)) (J9 Tryz.underlying25 APC DT (fun _=>rfl) (A6A n)) (fun _=>rfl) (fun x b h=>NT h)
theorem ADP:∀ {l:List Gp} {b:Nat},okL ACV l b->∀g∈l,g.l.length<=b
 | x::xs,b,⟨b1,b2,h1,_,h3,h4⟩,g,hg=>by
   rcases List.mem_cons.1 hg with rfl|hg
   .unfold ACV at h3;omega
   .have:=ADP h4 g hg;omega
theorem A9R {x:Gs}{b:Nat}(h:A6G x b)(hb:b<=1048576):x.l.length<=1048576/\∀g∈x.l,g.l.length<=1048576 :=
 ⟨qJ (okL.length h) hb,fun g hg=>qJ (ADP h g hg) hb⟩
theorem A7V {c:Cse}{b:Nat}(h:A08 c b)(hb:b<=1048576):PrS c.p/\MoOk c.m/\c.x.bins.length<=1048576/\CvOk c.v:=by
 obtain⟨b1,b2,b3,b4,h0,h1,h2,h3,h4⟩:=h;exact⟨A21 h1 U,AXP h2 U,AYD h3 U,AZD h4 U⟩
theorem AYB {m:Mo}{x:Hl}{l:List (List Sg)}(h:(htV m x (XI m l) (U5 m l)).2=0):U5 m l=0/\(htV m x (XI m l) (U5 m l)).1=decide (0<VR m x (XI m l)):=by
 unfold htV at h|-
 split at h
 .rename_i hv
  rw[if_pos hv];split at h
  .rename_i he
   rw[if_pos he];exact⟨he,rfl⟩
  .rename_i he;exact absurd h he
 .cases h
theorem AOV (p:Pr)(l:List (List Int)):(SC p l).map Ss.l=l.map (GI p.vars):=by unfold SC;rw[qQ];rfl
theorem ATO (hs:PrS p)(P:PV p){l:List (List Int)}(ok:∀a∈l,AOk p a):∀x∈SC p l,x.l.length<=1048576/\∀s∈x.l,A47 s:=by
 intro x hx;unfold SC at hx;obtain⟨a,ha,rfl⟩:=zH.1 hx;have hvl:=hs.vars;have hl:=(ok a ha).len;have hel:=RG hl;refine⟨by show(GI p.vars a).length<=_;omega,fun s hsg=>?_⟩;obtain⟨i,hi,rfl⟩:=List.getElem_of_mem hsg;have hi:i<(GI p.vars a).length:=hi;have h1:i<p.vars.length:=U;have h2:i<a.length:=U;have:=(ok a ha).rng P i h1;rw[zI,jI h2] at this;have hg:(GI p.vars a)[i]=(p.vars[i].name,a[i]):=ZO h1 h2 hi;show A47 (GI p.vars a)[i];rw[hg];have h3:0<=a[i]/\a[i]<256:=this;exact⟨by show(-9223372036854775808:Int)<=a[i];omega,by show a[i]<=(9223372036854775807:Int);omega⟩
def hZ:List AV:=[.bool false,.n 0,.sl .nil 0 []]
theorem A80 (h:Hp):GH jA h 34=some (.ptr h.length 0 0,h++[yE 3 [hZ]]):=FB (row:=hZ) AZ
def A9J (A:Hp)(x y z:ABlk)(F:Fr)(H:Hp):Prop:=∃a b c,F 5=.ptr a 0 0/\F 6=.ptr b 0 0/\F 7=.ptr c 0 0/\H[a]?=some x/\H[b]?=some y/\H[c]?=some z/\Sm.ext A H
theorem st_b {t:TypeId}{row r:List AV}{cs:AV}(hs:szO jA t=some r.length)(hc:IB cs=some r)(hl:row.length=r.length)(A:Hp):DU jA (A++[yE r.length [row]]) t (.ptr A.length 0 0) cs=some (A++[yE r.length [r]]) /\
  (∀x,DU jA (A++[yE r.length [row]]++[x]) t (.ptr A.length 0 0) cs=some (A++[yE r.length [r]]++[x])) /\
  ∀x y,DU jA (A++[yE r.length [row]]++[x]++[y]) t (.ptr A.length 0 0) cs=some (A++[yE r.length [r]]++[x]++[y]):=by
 have hsp:splice row 0 r=r:=by unfold splice;simp [hl]
 have key:∀l:Hp,DU jA (A++[yE r.length [row]]++l) t (.ptr A.length 0 0) cs=some (A++[yE r.length [r]]++l):=fun l=>by
  have hg:(A++[yE r.length [row]]++l)[A.length]?=some (yE r.length [row]):=BA;rw[IR hc hs hg U,hsp];simp [List.set_append]
 refine⟨by simpa using key [],fun x=>key [x],fun x y=>?_⟩;have:=key ([x]++[y])
 rwa [<-zG,<-zG] at this
def rW (v:Vr)(z:Int):Int:=if v.mode=0 then v.value else ((BitVec.ofInt 64 z &&& BitVec.ofInt 64 (2^v.width.toNat-1)).toNat:Nat)
def WS (p:Pr)(l:List Int):List Int:=(List.range p.vars.length).map fun i=>match p.vars[i]? with
 | some v=>rW v (l.getD i 0)
 | none=>0
theorem oA (p:Pr)(l:List Int):(WS p l).length=p.vars.length:=by unfold WS;simp
theorem AK7 {l:List Int}{i:Nat}(hi:i<p.vars.length)(h:i<(WS p l).length):(WS p l)[i]=rW p.vars[i] (l.getD i 0):=by
 unfold WS;simp [jI hi]
theorem A1O:∀n:Nat,1<=n->n<=8->IG jA 3 .and (.n (n:Nat)) (.n 15)=some (.n (n:Nat))/\IG jA 3 .sub (.n (2^n)) (.n 1)=some (.n (2^n-1))/\(BitVec.ofInt 64 ((2:Int)^n-1)).toNat<2^n
 | 1,_,_=>⟨AZ,AZ,by decide⟩
 | 2,_,_=>⟨AZ,AZ,by decide⟩
 | 3,_,_=>⟨AZ,AZ,by decide⟩
 | 4,_,_=>⟨AZ,AZ,by decide⟩
 | 5,_,_=>⟨AZ,AZ,by decide⟩
 | 6,_,_=>⟨AZ,AZ,by decide⟩
 | 7,_,_=>⟨AZ,AZ,by decide⟩
 | 8,_,_=>⟨AZ,AZ,by decide⟩
 | 0,h,_=>absurd h U
 | n+9,_,h=>absurd h U
theorem ALZ (z:Int){w:Nat}(h1:1<=w)(h8:w<=8):IG jA 3 .and (.n z) (.n (2^w-1))=some (.n ((BitVec.ofInt 64 z &&& BitVec.ofInt 64 (2^w-1)).toNat:Nat))/\(BitVec.ofInt 64 z &&& BitVec.ofInt 64 ((2:Int)^w-1)).toNat<2^w:=by
 have hb:(BitVec.ofInt 64 z &&& BitVec.ofInt 64 ((2:Int)^w-1)).toNat<2^w:=by
  rw[BitVec.toNat_and];exact Nat.lt_of_le_of_lt Nat.and_le_right (A1O w h1 h8).2.2
 have hp:(2:Nat)^w<=2^8:=Nat.pow_le_pow_right DT h8;have e:IG jA 3 .and (.n z) (.n (2^w-1))=some (.n (IntKind.i64.wrap ((BitVec.ofInt 64 z &&& BitVec.ofInt 64 (2^w-1)).toNat:Int))):=rfl;exact⟨by rw[e,MR U],hb⟩
theorem AK6 (P:PV p)(l:List Int):AOk p (WS p l):=by
 have hg:∀(i:Nat) (hi:i<p.vars.length),(WS p l).getD i 0=rW p.vars[i] (l.getD i 0):=fun i hi=>by
  have h:=oA p l;rw[zI,jI U,jD,AK7 hi]
 refine⟨oA p l,fun i hi hm=>by rw[hg i hi];unfold rW;rw[if_pos hm],fun i hi hm=>?_⟩;obtain⟨_,w1,w8,_⟩:=PQ (P.vr _ (jG hi));rw[hg i hi];unfold rW;rw[if_neg hm];have:=(ALZ (l.getD i 0) (w:=p.vars[i].width.toNat) U U).2;have e:(((2:Nat)^p.vars[i].width.toNat:Nat):Int)=2^p.vars[i].width.toNat:=by rw[Int.natCast_pow];rfl
 omega
def ZX (p:Pr)(l:List Gp):List (List Int):=(l.map fun g=>WS p g.l).filter fun a=>TE p (JA p) a
theorem BBJ (h:Hp)(a:List Int):DF jA false h 25 1 [(0,.sl (Cov.nm a) 1 (a.map Bins.qencI))]=some (.sl .full 1 [uF a],h):=by
 have h3:X0 1 0 [(0,AV.sl (Cov.nm a) 1 (a.map Bins.qencI))]=some [uF a]:=rfl;unfold DF;simp only[ud25,zs25,show szO jA 32=some 1 by kernel_rfl,h3];rfl
section
variable (G:Nat->AV)
theorem AVN (p:Pr)(hs:PrS p)(P:PV p)(l:List Int)(m:SM)(hl:l.length<=1048576)(h:Hp):PCall (En G) 29 [.agg (CY p),.sl m 1 (l.map Bins.qencI)] h (.sl (Cov.nm (WS p l)) 1 ((WS p l).map Bins.qencI)):=by
 have hvl:=P.len;have hfl:=oA p l;refine J3 Cov.frzI ?_;refine IP (H:=hint [7] []) (enM G) Tryz.func29 rfl (by kernel_rfl) (by kernel_rfl) (jB (by kernel_rfl)) ?_;show awp _ _ _ _ _ (L6 _ [.tmp 4] _);have ge:=AX h (yE 5 [CY p]);have hx:=Sm.ext.r1 h (yE 5 [CY p]);refine A7 @QE ?_
 generalize h++[yE 5 [CY p]]=H0 at ge hx|-
 generalize hpb:h.length=pb at ge|-
 have l22:∀ {H:Hp},Sm.ext H0 H->BI jA H 22 (.ptr pb 0 0)=some (.sl p.vm 4 (p.vars.map encV)):=fun q=>by rw[BC WZ (DI q ge) (row:=CY p) rfl];rfl
 refine BK (fun n F H=>∃i u,n+i=p.vars.length/\F 1=.sl m 1 (l.map Bins.qencI)/\F 2=.ptr pb 0 0/\F 5=u/\F 6=.n (i:Nat)/\Sm.ext H0 H/\outG 1 Bins.qencI H0 ((WS p l).take i) u H) p.vars.length
  ⟨0,.sl .nil 0 [],BA,AQ,AQ,AQ,AQ,ext.rfl' _,outG.nil _ _ _ _⟩ ?_
 rintro n F H ⟨i,u,hi,f1,f2,f5,f6,hxH,ho⟩;refine DW f2 f6 (l22 hxH) ?_;refine D9 (fun hiv=>?_) (fun hi'=>?_)
 .have hif:i<(WS p l).length:=U
  obtain⟨_,w1,w8,_⟩:=PQ (P.vr _ (jG hiv));obtain⟨w,hw⟩:=Int.eq_ofNat_of_zero_le (U:0<=p.vars[i].width);have hx1:=hxH.app [yE 4 [encV p.vars[i]]];have ho:=ho.app [yE 4 [encV p.vars[i]]];have gg:=AX H (yE 4 [encV p.vars[i]]);simp only[vQ,jY,jS,jV,zO,CP,↓reduceIte,jC,qP,enP,ZZ,oI,jQ,f2,f6,l22 hxH,CZ hiv,DJ AFT iL encV_len hiv,al61,st61]
  generalize H++[yE 4 [encV p.vars[i]]]=H1 at hx1 ho gg|-
  generalize H.length=gb at gg|-
  have l1:BI jA H1 3 (.ptr gb 0 1)=some (.n (w:Nat)):=by rw[BC ag3 gg (row:=encV p.vars[i]) rfl,<-hw];rfl
  have l2:BI jA H1 3 (.ptr gb 0 2)=some (.n p.vars[i].mode):=by rw[BC ag3 gg (row:=encV p.vars[i]) rfl];rfl
  have l3:BI jA H1 3 (.ptr gb 0 3)=some (.n p.vars[i].value):=by rw[BC ag3 gg (row:=encV p.vars[i]) rfl];rfl
  obtain⟨b1,b2,_⟩:=A1O w U U;have hsh:=Bd.shl_w (w:=(w:Int)) U U;rw[qB] at hsh;have hfa:(WS p l)[i]=rW p.vars[i] (l.getD i 0):=AK7 hiv hif;have hand:=(ALZ (l.getD i 0) (w:=w) U U).1;obtain⟨v',H2,ha,ho',_,hx',_,_⟩:=ho.append (P:=jA) U4 sz3 aV YW U (by rw[jZ];omega) hx1 (WS p l)[i];rw[<-jU hif] at ho';rw[hfa] at ha;refine BB f1 f6 ?_;refine TY (fun F' H'=>F' 1=.sl m 1 (l.map Bins.qencI)/\F' 2=.ptr pb 0 0/\F' 5=u/\F' 6=.n (i:Nat)/\F' 7=.ptr gb 0 0/\F' 8=.n (l.getD i 0)/\H'=H1) (fun _ _=>False) (fun hb=>?_) (fun hb=>?_) ?_ (fun _ _ q=>q.elim)
  .have hq:i<l.length:=BM hb
   have la:BI jA H1 3 (.fptr 1 (l.map Bins.qencI) i 0)=some (.n l[i]):=by rw[CW ag3 hq];rfl
   simp only[vQ,jY,jS,jV,zO,CP,↓reduceIte,jC,enP,LY,f1,f6,CZ hq,la,AG7];exact⟨AL,AL,AL,AL,AL,by rw[zI,jI hq];rfl,AL⟩
  .have hq:¬i<l.length:=BM hb
   simp only[vQ,↓reduceIte,jC,AG7];exact⟨AL,AL,AL,AL,AL,by rw[zI,List.getElem?_eq_none U];rfl,AL⟩
  rintro F' H' ⟨f1,f2,f5,f6,f7,f8,rfl⟩;refine BB f7 l2 ?_;cases c3:(p.vars[i].mode==0)
  .have hm:¬p.vars[i].mode=0:=BM c3
   have ev:rW p.vars[i] (l.getD i 0)=((BitVec.ofInt 64 (l.getD i 0) &&& BitVec.ofInt 64 (2^w-1)).toNat:Nat):=by unfold rW;rw[if_neg hm,hw,qB]
   rw[ev] at ha;have ha:EQ jA true H' 32 32 u (.sl .full 1 [[.n (((BitVec.ofInt 64 (l.getD i 0) &&& BitVec.ofInt 64 (2^w-1)).toNat:Nat):Int)]])=some (v',H2):=ha;simp only[vQ,JH,jY,jS,jV,zO,OW,CP,F6,JW,↓reduceIte,jC,enP,SS,c3,f5,f6,f7,f8,l1,b1,hsh,b2,hand,pE,ha,DC i];exact⟨n-1,U,i+1,v',U,AL,AL,AL,AL,hx',ho'⟩
  .have hm:p.vars[i].mode=0:=BM c3
   have ev:rW p.vars[i] (l.getD i 0)=p.vars[i].value:=by unfold rW;rw[if_pos hm]
   rw[ev] at ha;have ha:EQ jA true H' 32 32 u (.sl .full 1 [[.n p.vars[i].value]])=some (v',H2):=ha;refine SE c3 f5 f6 f7 l3 @pE ha (DC i) ?_;exact⟨n-1,U,i+1,v',U,AL,AL,AL,AL,hx',ho'⟩
 .rw[jJ U] at ho
  refine A7 f5 ?_;refine⟨hx.trans hxH,?_⟩;rcases ho with⟨a,b⟩|⟨a,o,b,c,d⟩
  .exact .inl ⟨a,b⟩
  .exact .inr ⟨a,o,qJ hx.le b,c,d⟩
end
def g70:PT:=.ones [8,9,10,11] .done
def g71:PT:=.ones [7,9,10,11] .done
def g72:PT:=.ones [6,9,10,11] .done
def g73:PT:=.alt 5 (.ones [10,11] .done) (.alt 10 (.ones [5,11] .done) .non)
def g74:PT:=.alt 3 (.ones [9,10,11] .done) (.alt 9 (.ones [3,10,11] .done) .non)
def g75:PT:=.alt 7 g70 (.alt 8 g71 .non)
def g76:PT:=.alt 6 g70 (.alt 8 g72 .non)
def g77:PT:=.alt 6 g71 (.alt 7 g72 .non)
def g78:PT:=.alt 5 (.ones [9,10,11] .done) (.alt 9 g73 .non)
def g79:PT:=.alt 3 g70 (.alt 8 g74 .non)
def AYT:PT:=.alt 3 g71 (.alt 7 g74 .non)
def AYS:PT:=.alt 3 g72 (.alt 6 g74 .non)
def AYR:PT:=.alt 5 g70 (.alt 8 g78 .non)
def AYQ:PT:=.alt 5 g71 (.alt 7 g78 .non)
def AYP:PT:=.alt 5 g72 (.alt 6 g78 .non)
def A33:PT:=.alt 6 g75 (.alt 7 g76 (.alt 8 g77 .non))
def AYO:PT:=.alt 3 g78 (.alt 5 g74 (.alt 9 (.ones [3] g73) .non))
def A32:PT:=.alt 3 g75 (.alt 7 g79 (.alt 8 AYT .non))
def A31:PT:=.alt 3 g76 (.alt 6 g79 (.alt 8 AYS .non))
def A30:PT:=.alt 3 g77 (.alt 6 AYT (.alt 7 AYS .non))
def A3Z:PT:=.alt 5 g75 (.alt 7 AYR (.alt 8 AYQ .non))
def A3Y:PT:=.alt 5 g76 (.alt 6 AYR (.alt 8 AYP .non))
def A3X:PT:=.alt 5 g77 (.alt 6 AYQ (.alt 7 AYP .non))
def A3W:PT:=.alt 3 AYR (.alt 5 g79 (.alt 8 AYO .non))
def A3V:PT:=.alt 3 AYQ (.alt 5 AYT (.alt 7 AYO .non))
def A3U:PT:=.alt 3 AYP (.alt 5 AYS (.alt 6 AYO .non))
section
variable (G:Nat->AV)
theorem A20 {x y z:ABlk}{F:Fr}(h5:∃i,F 5=.ptr i 0 0/\(A++[u]++[v]++[w])[i]?=some x)(h6:∃i,F 6=.ptr i 0 0/\(A++[u]++[v]++[w])[i]?=some y)(h7:∃i,F 7=.ptr i 0 0/\(A++[u]++[v]++[w])[i]?=some z):A9J A x y z F (A++[u]++[v]++[w]):=by
 obtain⟨a,a1,a2⟩:=h5;obtain⟨b,b1,b2⟩:=h6;obtain⟨c,c1,c2⟩:=h7;exact⟨a,b,c,a1,b1,c1,a2,b2,c2,(((ext.rfl' A).app _).app _).app _⟩
theorem BBM:(A++[u]++[v]++[w])[A.length]?=some u:=AO (AO (AX _ _))
theorem BBL:(A++[u]++[v]++[w])[A.length+1]?=some v:=BA
theorem BBK:(A++[u]++[v]++[w])[A.length+2]?=some w:=BA
theorem A3J (hG:GOk G)(hT:eT G)(c:Cse)(hs:PrS c.p)(hm:MoOk c.m)(hn:c.x.bins.length<=1048576)(l:List Gp)(s:SM)(hl:l.length<=1048576)(hlen:∀g∈l,g.l.length<=1048576)(h:Hp):PCall (En G) 7 [.agg (RY c),.sl s 1 (l.map OH)] h (.bool true):=by
 refine ACalls.pure0 rfl ?_;refine IP (H:=hint [5,6,7] []) (enM G) Tryz.func7 rfl (by kernel_rfl) (by kernel_rfl) (jB (by kernel_rfl)) ?_;show awp _ _ _ _ _ (L6 _ [.tmp 4] _);have gc:=AX h (yE 15 [RY c]);have hx:=Sm.ext.r1 h (yE 15 [RY c]);refine A7 @A8A ?_
 generalize h++[yE 15 [RY c]]=A at gc hx|-
 generalize h.length=cb at gc|-
 have lp:∀ {H:Hp},Sm.ext A H->BI jA H 27 (.ptr cb 0 0)=some (.agg (CY c.p)):=fun q=>by rw[ED lC cY (DI q gc) (row:=RY c) rfl (by rw[bY];decide)];rfl
 have lm:∀ {H:Hp},Sm.ext A H->BI jA H 31 (.ptr cb 0 5)=some (.agg (DV c.m)):=fun q=>by rw[ED A45 AQH (DI q gc) (row:=RY c) rfl (by rw[bY];decide)];rfl
 have lh:∀ {H:Hp},Sm.ext A H->BI jA H 34 (.ptr cb 0 7)=some (.agg (F8 c.x)):=fun q=>by rw[ED A0B mA (DI q gc) (row:=RY c) rfl (by rw[bY];decide)];rfl
 have sp:=fun A=>st_b (t:=27) (row:=pZ) (r:=CY c.p) (cs:=.agg (CY c.p)) cY rfl rfl A
 have sm:=fun A=>st_b (t:=31) (row:=mZ) (r:=DV c.m) (cs:=.agg (DV c.m)) AQH rfl rfl A
 have sh:=fun A=>st_b (t:=34) (row:=hZ) (r:=F8 c.x) (cs:=.agg (F8 c.x)) mA rfl rfl A
 rw[show(CY c.p).length=5 from rfl] at sp;rw[show(DV c.m).length=2 from rfl] at sm;rw[show(F8 c.x).length=3 from rfl] at sh;have k1:∀x:ABlk,(A++[x]).length=A.length+1:=fun x=>BA
 have k2:∀x y:ABlk,(A++[x]++[y]).length=A.length+2:=fun x y=>BA
 have sp1:=fun x=>sp (A++[x])
 have sp2:=fun x y=>(sp (A++[x]++[y])).1
 have sm1:=fun x=>sm (A++[x])
 have sm2:=fun x y=>(sm (A++[x]++[y])).1
 have sh1:=fun x=>sh (A++[x])
 have sh2:=fun x y=>(sh (A++[x]++[y])).1
 simp only[k1,k2] at sp1 sp2 sm1 sm2 sh1 sh2;have e0:=ext.rfl' A;have e1:∀x:ABlk,Sm.ext A (A++[x]):=fun x=>e0.app _
 have e2:∀x y:ABlk,Sm.ext A (A++[x]++[y]):=fun x y=>(e1 x).app _
 have e3:∀x y z:ABlk,Sm.ext A (A++[x]++[y]++[z]):=fun x y z=>(e2 x y).app _
 refine lP (fun F H=>A9J A (yE 5 [CY c.p]) (yE 2 [DV c.m]) (yE 3 [F8 c.x]) F H/\F 1=.sl s 1 (l.map OH)) (fun _ _=>False) ?_ ?_ (fun _ _ q=>q.elim)
 .refine uP (.ones [0,1,2,4] (.alt 3 (.alt 5 A33 (.alt 6 A3Z (.alt 7 A3Y (.alt 8 A3X .non)))) (.alt 5 (.alt 3 A33 (.alt 6 A32 (.alt 7 A31 (.alt 8 A30 .non)))) (.alt 6 (.alt 3 A3Z (.alt 5 A32 (.alt 7 A3W (.alt 8 A3V .non)))) (.alt 7 (.alt 3 A3Y (.alt 5 A31 (.alt 6 A3W (.alt 8 A3U .non)))) (.alt 8 (.alt 3 A3X (.alt 5 A30 (.alt 6 A3V (.alt 7 A3U .non)))) .non)))))) AZ ?_
  simp only[DN,NG,wK,wC,g70,g71,g72,g73,g74,g75,g76,g77,g78,g79,AYT,AYS,AYR,AYQ,AYP,A33,AYO,A32,A31,A30,A3Z,A3Y,A3X,A3W,A3V,A3U]
  repeat' first
   | with_reducible exact trivial
   | with_reducible refine And.intro (A20 ?_ ?_ ?_) ?_
   | exact⟨_,rfl,BBM⟩
   | exact⟨_,rfl,BBL⟩
   | exact⟨_,rfl,BBK⟩
   | with_reducible refine And.intro ?_ ?_
   | simp only[vQ,jY,jS,jV,zO,Bool.or_true,P8,AVY,QR,AKG,↓reduceIte,jC,jT,enP,A4B,A4A,A39,jQ,A82,A81,A80,lp,lm,lh,e0,e1,e2,e3,k1,k2,sp A,sm A,sh A,sp1,sp2,sm1,sm2,sh1,sh2,A3G,A3H]
   | rfl
 rintro F H ⟨⟨pb,mb,hb',f5,f6,f7,gp,gm,gh,hxA⟩,f1⟩;have hx:=hx.trans hxA;refine BB f5 (RX gp) ?_;refine(AYZ G c.p hs 8 H).use ?_;rintro r ⟨b,rfl,hfw⟩;cases b
 .refine AB ?_
  refine(SV G hG H).uu ?_;exact⟨AL,hx⟩
 have hb:=(hfw rfl).sm U;refine BB f6 (ldM gm) ?_;refine(ANV G c.m hm H).use fun b=>?_
 cases b
 .refine AB ?_
  refine(SV G hG H).uu ?_;exact⟨AL,hx⟩
 refine A7 f1 ?_;cases h8:decide (((l.length:Nat):Int)>8)
 rotate_left
 .refine A7 h8 ?_
  refine(SV G hG H).uu ?_;exact⟨AL,hx⟩
 have hl8:l.length<=8:=by have:=of_decide_eq_false h8;omega
 refine NJ h8 f5 f6 f7 (RX gp) (ldM gm) (ldH gh) ?_;refine(kJ G hG c.p hs hb c.m hm c.x hn H).use ?_;unfold AQ8;have hno:=fun h (L:List (List Int))=>ANP (p:=c.p) (m:=c.m) (x:=c.x) (L:=L) h
 have hv0:OA sdP EE c.p c.m c.x=11->IX c.p=0:=fun q=>(sZ (.inr q)).1
 generalize OA sdP EE c.p c.m c.x=k at hno hv0|-
 by_cases hk:k=11
 rotate_left
 .rw[if_neg hk]
  cases hz:(k==0) <;>
  .simp only[vQ,wC,wK,jY,jS,jV,zO,EM,XE,CP,FZ,rB,KT,O8,XT,↓reduceIte,jC,qP,enP,bne,hz,decide_eq_false hk]
   refine(SV G hG H).uu ?_;exact⟨AL,hx⟩
 rw[if_pos hk];have hv:=hv0 hk;have P:=PV.of hv;refine BB (decide_eq_true hk) (show((0:Int) != 0)=false from rfl) ?_;refine EU 0 (fun F H'=>∃v,F 5=.ptr pb 0 0/\F 6=.ptr mb 0 0/\F 7=.ptr hb' 0 0/\F 10=v/\Sm.ext H H'/\outG 1 uF H (ZX c.p l) v H') (fun _ _=>False) ?_ ?_ (fun _ _ q=>q.elim)
 .refine BK (fun n F H'=>∃i v,n+i=l.length/\F 1=.sl s 1 (l.map OH)/\F 5=.ptr pb 0 0/\F 6=.ptr mb 0 0/\F 7=.ptr hb' 0 0/\F 10=v/\F 11=.n (i:Nat)/\Sm.ext H H'/\outG 1 uF H (ZX c.p (l.take i)) v H') l.length
   ⟨0,.sl .nil 0 [],BA,by refine AB ?_;exact f1,by refine AB ?_;exact f5,by refine AB ?_;exact f6,by refine AB ?_;exact f7,AQ,AQ,ext.rfl' _,outG.nil _ _ _ _⟩ ?_
  rintro n F H' ⟨i,v,hi,f1,f5,f6,f7,f10,f11,hxH,ho⟩;refine BB f1 f11 ?_;refine D9 ?_ ?_<;>intro hi'
  .have la:BI jA H' 32 (.fptr 1 (l.map OH) i 0)=some (.sl l[i].m 1 (l[i].l.map Bins.qencI)):=by rw[CW NF hi'];rfl
   have hle:=hlen _ (jG hi')
   try refine AB ?_
   refine D6 AZ ?_;refine aS f1 f5 f11 hi' la (RX (DI hxH gp)) ?_;refine⟨_,AVN G c.p hs P l[i].l _ U H',?_⟩;have ok:=AK6 P l[i].l
   try refine BB f5 (RX (DI hxH gp)) ?_
   refine(ACF G hG c.p hs hb hv (WS c.p l[i].l) _ ok H').use ?_
   have htake:ZX c.p (l.take (i+1))=ZX c.p (l.take i)++(if TE c.p (JA c.p) (WS c.p l[i].l)=true then [WS c.p l[i].l] else []):=by
    unfold ZX;rw[jU hi',List.map_append,List.filter_append];congr 1;rw[List.map_cons,jL,List.filter_cons];rfl
   cases hsat:TE c.p (JA c.p) (WS c.p l[i].l)
   .rw[hsat,if_neg DT,jO] at htake
    refine BB f11 (DC i) ?_;exact⟨n-1,U,i+1,v,U,AL,AL,AL,AL,AL,AL,hxH,by rw[htake];exact ho⟩
   .rw[hsat,if_pos rfl] at htake
    have hpl:(ZX c.p (l.take i)).length<=8:=by
     unfold ZX;refine qJ (List.length_filter_le _ _) ?_;rw[jP,jZ];omega
    obtain⟨v',H2,ha,ho',_,hx',_,_⟩:=ho.append (P:=jA) ud25 AZ zs25 by25 U U hxH (WS c.p l[i].l);rw[<-htake] at ho';refine JI f10 f11 BBJ ha (DC i) ?_;exact⟨n-1,U,i+1,v',U,AL,AL,AL,AL,AL,AL,hx',ho'⟩
  .rw[jJ U] at ho
   refine AB ?_;exact⟨v,f5,f6,f7,f10,hxH,ho⟩
 .rintro F H' ⟨v,f5,f6,f7,f10,hxH,ho⟩
  have okL:∀a∈ZX c.p l,AOk c.p a/\TE c.p (JA c.p) a=true:=by
   intro a ha;unfold ZX at ha;obtain⟨h1,h2⟩:=List.mem_filter.1 ha;obtain⟨b,_,rfl⟩:=zH.1 h1;exact⟨AK6 P b.l,h2⟩
  have hpl:(ZX c.p l).length<=8:=by
   unfold ZX;refine qJ (List.length_filter_le _ _) ?_;rw[jP];omega
  have hno':=hno hk _ okL
  try refine AB ?_
  refine D6 AZ ?_;refine NJ f5 f6 f7 f10 (RX (DI hxH gp)) (ldM (DI hxH gm)) (ldH (DI hxH gh)) ?_;refine⟨_,ATN G c.p hs (ZX c.p l) v (fun a ha=>(okL a ha).1.len) U ho,?_⟩;refine⟨_,Ho.hit_prog G hG hT c.m hm c.x hn (SC c.p (ZX c.p l)) _ H' (by unfold SC;rw[jP];omega) (ATO hs P fun a ha=>(okL a ha).1),?_⟩;rw[AOV];generalize hht:htV c.m c.x (XI c.m ((ZX c.p l).map (GI c.p.vars))) (U5 c.m ((ZX c.p l).map (GI c.p.vars)))=ht;obtain⟨y,ff⟩:=ht;cases hf0:(ff==0)
  .simp only[vQ,wC,wK,jY,jS,jV,zO,LQ,VC,EM,QH,XE,CP,FZ,KT,O8,↓reduceIte,jC,jT,enP,bne,hf0]
   refine(SV G hG H').uu ?_;exact⟨AL,hx.trans hxH⟩
  .have hf':ff=0:=BM hf0
   obtain⟨hr,hy⟩:=AYB (m:=c.m) (x:=c.x) (l:=(ZX c.p l).map (GI c.p.vars)) (by rw[hht];exact hf');rw[hht,decide_eq_false (hno' hr)] at hy;have hy':y=false:=hy;subst hy';simp only[vQ,wC,wK,jY,jS,jV,zO,LQ,VC,EM,QH,CP,rB,KT,O8,XT,↓reduceIte,jC,jT,qP,enP,bne,hf0];refine(SV G hG H').uu ?_;exact⟨AL,hx.trans hxH⟩
end
end Go.Proofs.YtiihpnicbekebaaGreatDoor.Bd.Cl
