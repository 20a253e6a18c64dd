/- Part 6 of the proof (Y2, Y1, Y3, Y4, Sg, Sr, Sh, Cf, Kr, Y6, Y7, Y8, Y9, Yw, Kh, Kw, I1, Iw, I8, I9, It, Iv, Il); no condition. -/
import Derived.Test.YtiihpnicbekebaaGreatDoorRows
import Derived.Carry
import Derived.ReadAgain
import Derived.ChangeSame
import Derived.OpenShut
import Derived.WideKeyArgs
import Derived.Test.YtiihpnicbekebaaGreatDoorCards
import Derived.JoinedCond
import Derived.KernelRfl
import Derived.LaidMore
import Derived.Shelf.Vars
import Derived.Test.YtiihpnicbekebaaGreatDoorCI5
set_option linter.unusedVariables false
set_option linter.unusedSimpArgs false
set_option maxRecDepth 8000
set_option maxHeartbeats 16000000
open Go.Proofs.YtiihpnicbekebaaGreatDoor.Sm.ABlk renaming live→zZ
open Bool renaming and_eq_true→jU,false_eq_true→zY,not_false→jE,not_true→zW,or_eq_false_iff→wC,or_false→zK
open Go.Proofs.Tryz renaming prog→jA
open List renaming all_eq_true→zH,any_eq_false→qU,append_assoc→zG,append_nil→jQ,contains_cons→jW,contains_nil→jR,drop_zero→zI,getElem?_cons_zero→wK,getElem?_eq_getElem→jM,getElem?_map→jZ,getElem?_set_ne→zX,getElem_mem→jH,length_append→zA,length_cons→zO,length_eq_zero_iff→wJ,length_map→jJ,length_nil→zJ,length_set→qX,length_take→jV,length→qK,map_cons→jK,map_nil→jP,mem_append→zV,mem_cons→zM,mem_map→zQ,mem_singleton→wI,range→zL,take_of_length_le→jI,take_succ_eq_append_getElem→jY
open Nat renaming add_zero→jT,le_of_ble_eq_true→jC,le_refl→jF,reduceAdd→jL,reduceBEq→jS,reduceEqDiff→jB,zero_add→jG,zero_le→qF
open Option renaming getD_none→jO,getD_some→jD
namespace Go.Proofs.YtiihpnicbekebaaGreatDoor.Bd.Cl
open Sm Bins Cov Xe Wd Bl Ho Go.RowKit
variable {k:Nat} {vs:List Vr} {p:Pr} {ins:Ex->List Rng->Ex} {m:Mo} {x:Hl} {s:Bw}
theorem mF {α:Type}{f:α->List AV}{h H:Hp}{ys:List α}{v:AV}(hf:LC (ys.map f)=true)(ho:outG k f h ys v H)(hx:Sm.ext h H)(i:Nat):∃H',(∀F:Fr,F i=v->QQ (F,H) i=(upd F i (fzG k f ys),H'))∧Sm.ext h H'∧H'.length=H.length∧∀(b:Nat) (y:ABlk),b<h.length->H[b]?=some y->H'[b]?=some y:=by
 rcases ho with⟨rfl,rfl⟩|⟨e1,o,e2,rfl,e3⟩
 .refine⟨H,fun F hF=>?_,hx,rfl,fun _ _ _ q=>q⟩
  rw[AIE (H:=H) (i:=i) (k:=0) (m:=.nil) (xs:=[]) F hF]
  have:upd F i (fzG k f ([]:List α))=F:=by
   funext j;unfold upd;split
   .rename_i q; rw[q]; exact hF.symm
   .rfl
  rw[this]
 .refine⟨H.set o .dead,fun F hF=>?_,hx.set e2 _,by rw[List.length_set],fun b y hb q=>by rw[List.getElem?_set_ne U]; exact q⟩
  have hz:=mE (i:=i) (off:=0) (len:=ys.length) e3 BA (by rw[zI,jI BA]; exact hf);rw[zI,jI BA] at hz;rw[hz F hF,AQK e1]
theorem AVE {α:Type}{f:α->Int}{xs ys:List α}{x:α}(h:Bd.fstE f xs=0)(hx:f x≠0):Bd.fstE f (xs++x::ys)=f x:=by
 rw[Bd.fstE_app,if_neg (by rw[h]; simp)];show(if f x≠0 then f x else Bd.fstE f ys)=f x;rw[if_pos hx]
theorem AQL {α:Type}{f:α->Int}{xs:List α}{x:α}(h:Bd.fstE f xs=0)(hx:f x=0):Bd.fstE f (xs++[x])=0:=by
 rw[Bd.fstE_app,if_neg (by rw[h]; simp)];show(if f x≠0 then f x else Bd.fstE f [])=0;rw[if_neg (by rw[hx]; simp)]; rfl
theorem AID {α:Type}{f:α->Int}{xs ys:List α}(h:Bd.fstE f xs=0)(hx:Bd.fstE f ys=0):Bd.fstE f (xs++ys)=0:=by
 rw[Bd.fstE_app,if_neg (by rw[h]; simp),hx]
def UJ (vs:List Vr)(R:List (List Ex)):Int:=Bd.fstE (scC vs) R.flatten
def UI (s:Bw)(vs:List Vr)(R:List (List Ex)):List (List Ex):=R.map fun r=>r.map (IZ s vs)
def AEG (s:Bw)(vs:List Vr)(R:List (List Ex)):AV:=.tup [if UJ vs R=0 then .sl (Cov.nm (UI s vs R)) 1 ((UI s vs R).map O1) else .sl .nil 0 [],.n (UJ vs R)]
def AOK (s:Bw)(vs:List Vr)(R:List (List Ex)):AV:=.tup [if UJ vs R=0 then fzG 1 cI (UI s vs R) else .sl .nil 0 [],.n (UJ vs R)]
theorem A0G (L:List (List Ex)):CvR (fzG 1 cI L) (.sl (Cov.nm L) 1 (L.map O1)):=by
 cases L with
 | nil=>exact CvR.sl (Cv.nil 0 1)
 | cons a L=>exact CvR.sl (Cv.map fun x _=>AQJ x)
theorem ATS (s:Bw)(vs:List Vr)(R:List (List Ex)):CvR (AOK s vs R) (AEG s vs R):=by
 unfold AOK AEG;split
 .exact CvR.tup (CvRL.cons (A0G _) (CvRL.cons (CvR.refl _) CvRL.nil))
 .exact CvR.refl _
theorem AKD {R:List (List Ex)}{i:Nat}(hi:i<R.length)(hk:k<R[i].length):∃ys,R.flatten=((R.take i).flatten++R[i].take k)++R[i][k]::ys:=by
 refine⟨R[i].drop (k+1)++(R.drop (i+1)).flatten,?_⟩;have h1:R=R.take i++R[i]::R.drop (i+1):=by simp_all
 have h2:∀l:List Ex,R[i]++l=R[i].take k++R[i][k]::(R[i].drop (k+1)++l):=fun l=>by
  have:R[i].take k++R[i].drop k=R[i]:=List.take_append_drop k R[i];rw[List.drop_eq_getElem_cons hk] at this
  calc R[i]++l=(R[i].take k++R[i][k]::R[i].drop (k+1))++l:=by rw[this]
   _=_:=by rw[zG]; rfl
 conv=>lhs; rw[h1,List.flatten_append,List.flatten_cons,h2]
 rw[zG]
section
variable (G:Nat->AV)
theorem uB (hG:GOk G)(p:Pr)(hs:PrS p)(hv:NI p=0)(s:SM)(R:List (List Ex))(hR:R.length<=1048576)(hl:∀r∈R,r.length<=1048576)(he:∀r∈R,∀e∈r,exE e=0)(h:Hp):PCall (En G) 44 [.agg (DL p),.sl s 1 (R.map O1)] h (AEG sdP p.vars R):=by
 refine PCall.res ?_ (ATS sdP p.vars R);refine ACalls.pure (R:=fun v H=>Sm.ext h H∧FN h.length H 3 v=AOK sdP p.vars R) 3 ?_ (fun v H ⟨a,b⟩=>⟨a,b⟩);refine H6 (H:=hint [] [(43,[42])]) (enM G) Tryz.func44 rfl (by kernel_rfl) (by kernel_rfl) (jC (by kernel_rfl)) ?_;show awp _ _ _ _ _ (LU _ [.tmp 4,.tmp 5] _);have gp:=A7 h (zZ 5 [DL p]);have hx:=Sm.ext.r1 h (zZ 5 [DL p]);simp -implicitDefEqProofs only[vQ,jR,jS,CV,YJ,SS,↓reduceIte,jB,enP,WM,zY,L8,YH,sX,ZF]
 generalize h++[zZ 5 [DL p]]=H0 at gp hx|-
 have hlt:=AC gp;simp -implicitDefEqProofs only[AUX,AUY,ZF,jJ];refine ET 0 (fun F H=>∃v,F 6=v∧F 7=.n (UJ p.vars R)∧Sm.ext H0 H∧(UJ p.vars R=0->outG 1 cI H0 (UI sdP p.vars R) v H)) (fun _ _=>False) ?_ ?_ (fun _ _ q=>q.elim)
 .refine BI (fun n F H=>∃i v,n+i=R.length∧F 2=.ptr h.length 0 0∧F 6=v∧F 7=.n 0∧F 15=.sl s 1 (R.map O1)∧F 16=.n (R.length:Nat)∧F 17=.n (i:Nat)∧Sm.ext H0 H∧outG 1 cI H0 (UI sdP p.vars (R.take i)) v H∧Bd.fstE (scC p.vars) (R.take i).flatten=0) R.length
   ⟨0,.sl .nil 0 [],BA,AQ,AQ,AQ,AQ,AQ,AQ,ext.rfl' _,outG.nil _ _ _ _,rfl⟩ ?_
  rintro n F H ⟨i,v,hi,f2,f6,f7,f15,f16,f17,hxH,ho,hf⟩;refine BB f16 f17 ?_;refine D8 ?_ ?_<;>intro hi'
  .have hmr:=jH hi'
   have hrl:=hl _ hmr;have lr:BU jA H 23 (.fptr 1 (R.map O1) i 0)=some (.sl (Cov.nm R[i]) 4 (R[i].map AU)):=by rw[CG MO hi']; rfl
   refine P8 f15 f17 hi' lr ?_
   refine BI (fun n2 F' H'=>∃k u,n2+k=R[i].length∧F' 2=.ptr h.length 0 0∧F' 6=v∧F' 7=.n 0∧F' 15=.sl s 1 (R.map O1)∧F' 16=.n (R.length:Nat)∧F' 17=.n (i:Nat)∧F' 10=u∧F' 21=.sl (Cov.nm R[i]) 4 (R[i].map AU)∧F' 22=.n (R[i].length:Nat)∧F' 23=.n (k:Nat)∧Sm.ext H H'∧outG 4 AU H ((R[i].map (IZ sdP p.vars)).take k) u H'∧Bd.fstE (scC p.vars) (R[i].take k)=0) R[i].length
    ⟨0,.sl .nil 0 [],BA,EM f2,EM f6,EM f7,EM f15,EM f16,EM f17,AQ,AQ,AQ,AQ,ext.rfl' _,outG.nil _ _ _ _,rfl⟩ ?_
   clear f2 f6 f7 f15 f16 f17;rintro n2 F H' ⟨k,u,hk,f2,f6,f7,f15,f16,f17,f10,f21,f22,f23,hx2,hou,hf2⟩;refine BB f22 f23 ?_;refine D8 ?_ ?_<;>intro hk'
   .have hme:=jH hk'
    have hx3:=hx2.app [zZ 4 [AU R[i][k]]];have ga:=A7 H' (zZ 4 [AU R[i][k]]);have hou:=hou.app [zZ 4 [AU R[i][k]]];simp -implicitDefEqProofs only[vQ,jR,jS,CV,↓reduceIte,jB,enP,RN,Option.getD_none,zY,L8,f21,f23,CQ hk',DR O5 JL EP hk',al79,st79]
    generalize H'++[zZ 4 [AU R[i][k]]]=H3 at hx3 ga hou|-
    generalize H'.length=ab at ga|-
    have gp3:=ED (hxH.trans hx3) gp;refine DT f2 (oX gp3) (JI ga) ?_;refine(ADX G hG p hs hv R[i][k] (he _ hmr _ hme) H3).use ?_;by_cases hz:scC p.vars R[i][k]=0
    .rw[AOM hz]
     have hx4:=hx3.app [zZ 4 [AU (IZ sdP p.vars R[i][k])]];have go:=A7 H3 (zZ 4 [AU (IZ sdP p.vars R[i][k])]);have hou:=hou.app [zZ 4 [AU (IZ sdP p.vars R[i][k])]];refine BB al79 st79 ?_
     generalize H3++[zZ 4 [AU (IZ sdP p.vars R[i][k])]]=H4 at hx4 go hou|-
     have hit:k<(R[i].map (IZ sdP p.vars)).length:=by rw[jJ]; exact hk'
     have hget:(R[i].map (IZ sdP p.vars))[k]=IZ sdP p.vars R[i][k]:=BA;obtain⟨u',H5,ha,ho2,_,he2,_,_⟩:=hou.append (P:=jA) SV JL ZG YG U (by rw[jV]; omega) hx4 (IZ sdP p.vars R[i][k]);rw[<-hget,<-jY hit] at ho2;refine P7 (show((0:Int) != 0)=false from rfl) f10 (ND go) @dU ha f23 (DF k) ?_;exact⟨n2-1,U,k+1,u',U,AZ,AZ,AZ,AZ,AZ,AZ,AZ,AZ,AZ,AZ,he2,ho2,by rw[jY hk']; exact AQL hf2 hz⟩
    .rw[AEH rfl hz]
     have hR4:R4 FK:=⟨_,_,_,_,_,_,rfl⟩
     have hcode:UJ p.vars R=scC p.vars R[i][k]:=by
      obtain⟨ys,hys⟩:=AKD hi' hk';unfold UJ;rw[hys];exact AVE (AID hf hf2) hz
     have bz:(scC p.vars R[i][k] != 0)=true:=BN hz;refine DT al79 (AN9 H3 hR4) bz ?_;exact⟨v,AZ,by rw[hcode],(hxH.trans hx3).app _,fun q=>absurd (hcode▸q) hz⟩
   .rw[jI (by rw[jJ]; omega)] at hou
    rw[jI U] at hf2;obtain⟨H3,hz,hx3,_,hkeep⟩:=mF (PU _) hou hx2 42;have hsl:UI sdP p.vars (R.take (i+1))=UI sdP p.vars (R.take i)++[R[i].map (IZ sdP p.vars)]:=by unfold UI; rw[jY hi',List.map_append]; rfl
    have hsn:(UI sdP p.vars (R.take i)).length=i:=by unfold UI; rw[jJ,jV]; omega
    obtain⟨v',H4,ha,ho2,_,he2,_,_⟩:=(outG_ext ho hx3).append (P:=jA) kL kO pT nP U U (hxH.trans hx3) (R[i].map (IZ sdP p.vars));have ha':EG jA true H3 100 100 v (.sl .full 1 [cI (R[i].map (IZ sdP p.vars))])=some (v',H4):=ha;refine PG f6 f10 f17 @U4 hz @ARZ ha' (DF i) ?_;exact⟨n-1,U,i+1,v',U,AZ,AZ,AZ,AZ,AZ,AZ,he2,by rw[hsl]; exact ho2,by rw[jY hi',List.flatten_append]; simp only[List.flatten_cons,List.flatten_nil,jQ]; exact AID hf hf2⟩
  .rw[jI U] at ho hf
   refine AO ?_;have hf:UJ p.vars R=0:=hf;exact⟨v,AZ,by first|exact True.intro|(rw[hf]; exact f7)|rw[hf],hxH,fun _=>ho⟩
 rintro F H ⟨v,f6,f7,hxH,ho⟩;cases bz:(UJ p.vars R != 0)
 .have hz:UJ p.vars R=0:=BN bz
  refine DT f7 bz f6 ?_;refine⟨hx.trans hxH,?_⟩;unfold AOK;rw[if_pos hz,hz];show AV.tup [FN h.length H 2 v,_]=_;rw[KP AIG (ho hz) h.length 0 (by have:=hx.le; omega)]; rfl
 .have hz:UJ p.vars R≠0:=BN bz
  refine BB f7 bz ?_;refine⟨hx.trans hxH,?_⟩;unfold AOK;rw[if_neg hz]; rfl
end
theorem bsA (h:Hp)(m:SM)(xs:List (List AV)):C9 jA false h 25 1 [(0,.sl m 1 xs)]=some (.sl .full 1 [[.sl m 1 xs]],h):=A8
theorem ud25:Tryz.prog.underlying 25=some (.slice 32):=A8
theorem zs25:RD jA 32=some 1:=A8
theorem by25:KG jA 32=some 24:=A8
def aQ {α β:Type}(f:α->Option β):List α->Option (List β)
 | []=>some []
 | x::xs=>match f x with
   | some y=>match aQ f xs with
     | some ys=>some (y::ys)
     | none=>none
   | none=>none
theorem rJ {α β:Type}{f:α->Option β}:∀ {xs:List α} {ys:List β} {x:α} {y:β},aQ f xs=some ys->f x=some y->aQ f (xs++[x])=some (ys++[y])
 | [],ys,x,y,h,hx=>by
   cases h;rw[List.nil_append];unfold aQ;rw[hx]; rfl
 | a::xs,ys,x,y,h,hx=>by
   unfold aQ at h
   cases ha:f a with
   | none=>rw[ha] at h; cases h
   | some b =>
     rw[ha] at h
     cases hb:aQ f xs with
     | none=>rw[hb] at h; cases h
     | some bs =>
       rw[hb] at h;cases h;have ih:=rJ hb hx;rw[List.cons_append];unfold aQ;rw[ha,ih]; rfl
theorem rK {α β:Type}{f:α->Option β}:∀ {xs:List α} {x:α},x∈xs->f x=none->aQ f xs=none
 | [],x,h,_=>by cases h
 | a::xs,x,h,hx=>by
   unfold aQ;rcases zM.1 h with rfl|h
   .rw[hx]
   .cases f a with
    | none=>rfl
    | some b=>rw[rK h hx]
theorem AAW {α β:Type}{f:α->Option β}:∀ {xs:List α} {ys:List β},aQ f xs=some ys->ys.length=xs.length∧∀(i:Nat) (h1:i<xs.length) (h2:i<ys.length),f xs[i]=some ys[i]
 | [],ys,h=>by cases h; exact⟨rfl,fun i h1=>by cases h1⟩
 | a::xs,ys,h=>by
   unfold aQ at h
   cases ha:f a with
   | none=>rw[ha] at h; cases h
   | some b =>
     rw[ha] at h
     cases hb:aQ f xs with
     | none=>rw[hb] at h; cases h
     | some bs =>
       rw[hb] at h;cases h;obtain⟨i1,i2⟩:=AAW hb;refine⟨by simp [i1],fun i h1 h2=>?_⟩
       cases i with
       | zero=>exact ha
       | succ i=>exact i2 i (BN h1) (BN h2)
def VZ (p:Pr):List Ex:=p.hard++XA p
def AEP (s:Bw)(ins:Ex->List Rng->Ex)(p:Pr)(m:Mo)(x:Hl):Option (List (List Int)):=aQ (fun S=>UL p (VZ p++S)) (UI s p.vars (cnL ins m x))
def PX (s:Bw)(ins:Ex->List Rng->Ex)(p:Pr)(m:Mo)(x:Hl):Int :=
 if NI p≠0∨LW m x=false then 1 else if cnE ins m x≠0 then cnE ins m x else if UJ p.vars (cnL ins m x)≠0 then UJ p.vars (cnL ins m x) else if(AEP s ins p m x).isSome then 0 else 11
def AKP (s:Bw)(ins:Ex->List Rng->Ex)(p:Pr)(m:Mo)(x:Hl):List (List Int):=if PX s ins p m x=0 then (AEP s ins p m x).getD [] else []
def AKO (f:List Int->List AV)(s:Bw)(ins:Ex->List Rng->Ex)(p:Pr)(m:Mo)(x:Hl):AV:=.tup [.sl (Cov.nm (AKP s ins p m x)) 1 ((AKP s ins p m x).map f),.n (PX s ins p m x)]
def Pn (vs:List Vr)(x:Ex):Prop:=WP x=false∧WO vs x=false
theorem Pn.op {x:Ex}(h:x.op≠2∧x.op≠3∧x.op≠24):Pn vs x:=by
 unfold Pn WP WO;simp [h.1,h.2.1,h.2.2]
theorem tI {op n:Int}{name:ByteArray}{m:SM}{l:List Ex}(h:Pn vs (.mk op n name m l))(hl:∀a∈l,∀x∈pre a,Pn vs x):∀x∈pre (.mk op n name m l),Pn vs x:=by
 intro x hx;rw[pre_eq] at hx;rcases zM.1 hx with rfl|hx
 .exact h
 .obtain⟨a,ha,hxa⟩:=Ho.mem_pres.1 hx
  exact hl a ha x hxa
theorem ASZ (n:Int):∀x∈pre (cE n),Pn vs x:=tI (Pn.op (by refine⟨?_,?_,?_⟩<;>(show(1:Int)≠_; decide))) fun a h=>by cases h
theorem xO {a:ByteArray}(h:0<=plc vs (elN a k)):∀x∈pre (vaE a k),Pn vs x:=tI (by
 unfold Pn WP WO;refine⟨rfl,?_⟩;show((2:Int)==2&&decide (plc vs (elN a k)<0))=false
 simp; omega) fun a h=>by cases h
theorem AJS {vs:List Vr}{a:ByteArray}{n:Nat}(h:∀k,k<n->0<=plc vs (elN a k)):∀k,k<n->∀x∈pre (aF a k),Pn vs x
 | 0,hk=>xO (h 0 hk)
 | k+1,hk=>tI (Pn.op (by refine⟨?_,?_,?_⟩<;>(show(7:Int)≠_; decide))) fun y hy=>by
   simp only[zM,List.not_mem_nil,or_false] at hy;rcases hy with rfl|rfl
   .exact AJS h k U
   .exact xO (h (k+1) hk)
theorem ASY {c:Ex->Ex}{vs:List Vr}{a:ByteArray}{i:Ex}{n:Nat}(h:∀k,k<n->0<=plc vs (elN a k))(hi:∀x∈pre (c i),Pn vs x):∀j,j<=n->∀x∈pre (chK c a i n j),Pn vs x
 | 0,_=>ASZ 0
 | j+1,hj=>tI (Pn.op (by refine⟨?_,?_,?_⟩<;>(show(22:Int)≠_; decide))) fun y hy=>by
   simp only[zM,List.not_mem_nil,or_false] at hy;rcases hy with rfl|rfl|rfl
   .refine tI (Pn.op (by refine⟨?_,?_,?_⟩<;>(show(15:Int)≠_; decide))) fun y hy=>?_
    simp only[zM,List.not_mem_nil,or_false] at hy;rcases hy with rfl|rfl
    .exact hi
    .exact ASZ _
   .exact xO (h _ U)
   .exact ASY h hi j U
theorem A5W {e:Ex}(h:∀x∈pre e,Pn vs x):∀x∈pre (cpE e),Pn vs x:=by
 intro x hx;rw[AET] at hx;obtain⟨y,hy,rfl⟩:=zQ.1 hx;have:=h y hy
 unfold Pn WP WO at this|-
 rw[AYI,AJB]; exact this
theorem AZQ (vs:List Vr)(e:Ex):NdOk e->QB vs e=false->∀x∈pre (IZ sdP vs e),Pn vs x:=by
 induction e using Ex.induct with|h e ih=>?_
 intro hn hu;rw[cG];unfold scF;by_cases o24:e.op=24
 .rw[if_pos o24]
  have:=VW hu (.inr o24);exact AJS (n:=szA vs e.name) (fun k hk=>AD9 hk) _ U
 rw[if_neg o24];by_cases o3:e.op=3
 .rw[if_pos o3]
  have hz:=VW hu (.inl o3);obtain⟨b,hb⟩:=VI hn.self o3;have hm:b∈e.args:=by rw[hb]; simp
  have ihb:=ih b hm (hn.arg hm) (QM hu hm);obtain⟨c1,c2⟩:=eI (s:=sdP) (hn.arg hm) (QM hu hm);rw[hb];show ∀x∈pre (fH cpE e.name (IZ sdP vs b) (szA vs e.name)),Pn vs x;unfold fH;split
  .rename_i q
   split
   .have h0:=c1.1 q
    have hn2:=c2 h0;exact xO (AD9 U)
   .exact ASZ 0
  .exact ASY (fun k hk=>AD9 hk) (A5W ihb) _ (Nat.le_refl _)
 .rw[if_neg o3]
  refine tI ?_ fun a ha=>?_
  .rw[VX,wC] at hu
   have h1:=hu.1;unfold RU at h1;unfold Pn WP WO;refine⟨?_,?_⟩
   .show((e.op==3)||(e.op==24))=false
    simp [o3,o24]
   .show((e.op==2)&&decide (plc vs e.name<0))=false
    exact(wC.1 h1).1
  .obtain⟨b,hb,rfl⟩:=zQ.1 ha
   exact ih b hb (hn.arg hb) (QM hu hb)
theorem AZP {e:Ex}(he:exE e=0)(h:scC vs e=0):xpE vs (IZ sdP vs e)=0:=by
 have hn:=NdOk.of he;unfold scC at h
 cases hu:QB vs e with
 | true=>rw[hu,if_pos rfl] at h; exact absurd h D5
 | false =>
   rw[hu,if_neg D5] at h;by_cases hx:400<(IU vs e).1
   .simp_all
   rw[if_neg hx] at h;have hp:=AZQ vs e hn hu;have h2:AGD (IZ sdP vs e)=false:=qU.2 fun x hx=>by rw[(hp x hx).1]; simp
   have h3:ABX vs (IZ sdP vs e)=false:=qU.2 fun x hx=>by rw[(hp x hx).2]; simp
   unfold xpE;rw[if_neg (by rw[h]; simp)];unfold plE;rw[h2,h3]; rfl
theorem AU9 (hv:NI p=0):∀e∈p.hard,xpE p.vars e=0:=by
 have h2:QG p.vars (p.hard++p.soft)=0:=by
  unfold NI at hv;by_cases h1:P6 p.vars≠0
  .simp_all
  rw[if_neg h1] at hv;by_cases h2:QG p.vars (p.hard++p.soft)≠0
  .simp_all
  simpa using h2
 intro e he;unfold QG at h2;exact Bd.fstE_zero h2 e (List.mem_append_left _ he)
theorem AZO {R:List (List Ex)}(he:∀r∈R,∀e∈r,exE e=0)(hz:UJ p.vars R=0):∀S∈UI sdP p.vars R,∀e∈S,xpE p.vars e=0:=by
 intro S hS e heS;unfold UI at hS;obtain⟨r,hr,rfl⟩:=zQ.1 hS;obtain⟨x,hx,rfl⟩:=zQ.1 heS;exact AZP (he r hr x hx) (Bd.fstE_zero hz x (List.mem_flatten.2 ⟨r,hr,hx⟩))
theorem AOP (hv:NI p=0){S:List Ex}(hS:∀e∈S,xpE p.vars e=0):∀e∈VZ p++S,xpE p.vars e=0:=by
 intro e he;unfold VZ at he;rcases zV.1 he with h|h
 .rcases zV.1 h with h|h
  .exact AU9 hv e h
  .exact AZC hv e h
 .exact hS e h
theorem A38 (hv:LW m x=true)(hc:cnE ins m x=0):∀r∈cnL ins m x,∀e∈r,exE e=0:=by
 unfold cnE at hc;rw[if_pos hv] at hc;by_cases q:(cnL ins m x).flatten.all (fun e=>exE e==0)=true
 .grind
 .simp_all
structure Sm51 (p:Pr):Prop where
 hard:p.hard.length<=100000
 dists:p.dists.length<=100000
 bits:NI p=0->lft p (dE p)<=262144
def nB (a:List Int):List AV:=[.sl .any 1 (a.map Bins.qencI)]
theorem A3S:Frz nB:=fun _ _ _ _=>⟨rfl,rfl⟩
def AEO (f:List Int->List AV)(s:Bw)(ins:Ex->List Rng->Ex)(p:Pr)(m:Mo)(x:Hl):AV:=.tup [fzG 1 f (AKP s ins p m x),.n (PX s ins p m x)]
theorem AT2 (f:List Int->List AV)(s:Bw)(ins:Ex->List Rng->Ex)(p:Pr)(m:Mo)(x:Hl):CvR (AEO f s ins p m x) (AKO f s ins p m x):=CvR.tup (CvRL.cons X3 (CvRL.cons (CvR.refl _) CvRL.nil))
theorem AAD {f:List Int->List AV}{z:Int}(h:PX s ins p m x=z)(hz:z≠0):AEO f s ins p m x=.tup [.sl .nil 0 [],.n z]:=by
 unfold AEO AKP;rw[h,if_neg hz]; rfl
theorem AT1 {f:List Int->List AV}{al:List (List Int)}(h:PX s ins p m x=0)(ha:AEP s ins p m x=some al):AEO f s ins p m x=.tup [fzG 1 f al,.n 0]:=by
 unfold AEO AKP;rw[h,if_pos rfl,ha]; rfl
theorem AOT (h:NI p≠0∨LW m x=false):PX s ins p m x=1:=by unfold PX; rw[if_pos h]
theorem A2M (h1:NI p=0)(h2:LW m x=true)(h:cnE ins m x≠0):PX s ins p m x=cnE ins m x:=by unfold PX; rw[if_neg (by rw[h1,h2]; simp),if_pos h]
theorem A2L (h1:NI p=0)(h2:LW m x=true)(h3:cnE ins m x=0)(h:UJ p.vars (cnL ins m x)≠0):PX s ins p m x=UJ p.vars (cnL ins m x):=by unfold PX; rw[if_neg (by rw[h1,h2]; simp),if_neg (by rw[h3]; simp),if_pos h]
theorem A2K (h1:NI p=0)(h2:LW m x=true)(h3:cnE ins m x=0)(h4:UJ p.vars (cnL ins m x)=0):PX s ins p m x=if(AEP s ins p m x).isSome then 0 else 11:=by unfold PX; rw[if_neg (by rw[h1,h2]; simp),if_neg (by rw[h3]; simp),if_neg (by rw[h4]; simp)]
theorem AZ0 (h:F8 m≠0):LW m x=false:=by
 cases q:LW m x
 .rfl
 .exact absurd (TT q) h
theorem nM (hv:LW m x=true):(cnL ins m x).length<=8∧∀r∈cnL ins m x,r.length<=8:=by
 have h0:=TT hv;have hL:=lD hv
 have hl:=tD (cs:=(RY m x).map (cdQ ins m)) (by rw[jJ]; exact hL.n4) (fun c hc=>by
  obtain⟨q,hq,rfl⟩:=zQ.1 hc;obtain⟨a,b⟩:=hL.ok q hq
  exact(wZ h0 a b).2) (fun c hc r hr=>by
  obtain⟨q,hq,rfl⟩:=zQ.1 hc;obtain⟨a,b⟩:=hL.ok q hq
  exact(nN (P:=fun _=>True) h0 a b (fun l _=>⟨trivial,trivial⟩) r hr).1)
 exact⟨hl.1,hl.2.1⟩
theorem AQM (r:Option (List Int))(n:Nat)(H:Hp):FN n H 3 (AFM r)=AFM r:=by cases r<;>rfl
theorem AN2 (p:Pr):(XA p).length=p.dists.length:=by unfold XA; rw[jJ]
section
variable (G:Nat->AV)
theorem AE9 (hG:GOk G)(p:Pr)(hs:PrS p)(hv:NI p=0)(lm:SM)(l:List Ex)(hl:l.length<=1048576)(hk:∀e∈l,xpE p.vars e=0)(hst:lft p (dE p)<=262144)(h:Hp):
  PCall (En G) 47 [.agg (DL p),.sl lm 4 (l.map AU)] h (AFM (UL p l)):=by
 refine XJ 3 (AQM _) ?_;refine acL Tryz.func47 [.tmp 4,.tmp 5] ?_;have gp:=A7 h (zZ 5 [DL p]);have hx:=Sm.ext.r1 h (zZ 5 [DL p]);refine BC @YH ?_
 generalize h++[zZ 5 [DL p]]=H0 at gp hx|-
 refine BC (oX gp) ?_;refine(AXE G hG p hs hv lm l hl (fun e he=>by have:=A1T (hk e he); omega) hk hst H0).use ?_;unfold AFM
 cases UL p l with
 | none =>
   refine BC (show((11:Int) != 18)=true from rfl) ?_;exact⟨AZ,hx⟩
 | some a =>
   refine BC (show((0:Int) != 18)=true from rfl) ?_;exact⟨AZ,hx⟩
theorem bN (hG:GOk G)(p:Pr)(hs:PrS p)(hb:Sm51 p)(m:Mo)(hm:MoOk m)(x:Hl)(hn:x.bins.length<=1048576)(h:Hp):PCall (En G) 12 [.agg (DL p),.agg (DJ m),.agg (FQ x)] h (AKO nB sdP EI p m x):=by
 refine PCall.res ?_ (AT2 nB sdP EI p m x);refine ACalls.pure (R:=fun v H=>Sm.ext h H∧FN h.length H 3 v=AEO nB sdP EI p m x) 3 ?_ (fun v H ⟨a,b⟩=>⟨a,b⟩);refine acL Tryz.func12 [.tmp 6,.tmp 7] ?_;have gp:=AL (x:=zZ 3 [FQ x]) (AL (x:=zZ 2 [DJ m]) (A7 h (zZ 5 [DL p])));have gm:=AL (x:=zZ 3 [FQ x]) (A7 (h++[zZ 5 [DL p]]) (zZ 2 [DJ m]));have gh:=A7 (h++[zZ 5 [DL p]]++[zZ 2 [DJ m]]) (zZ 3 [FQ x]);have hx:Sm.ext h (h++[zZ 5 [DL p]]++[zZ 2 [DJ m]]++[zZ 3 [FQ x]]):=(((ext.rfl' h).app _).app _).app _;refine DT @YH @bxM @bxH ?_
 generalize h++[zZ 5 [DL p]]++[zZ 2 [DJ m]]++[zZ 3 [FQ x]]=H0 at gp gm gh hx|-
 generalize (h++[zZ 5 [DL p]]++[zZ 2 [DJ m]]).length=xb at gh|-
 generalize (h++[zZ 5 [DL p]]).length=mb at gm|-
 have bad:∀z:Int,PX sdP EI p m x=z->z≠0->FN h.length H0 3 (.tup [.sl .nil 0 [],.n z])=AEO nB sdP EI p m x:=fun z q1 q2=>by rw[AAD q1 q2]; rfl
 refine BC (oX gp) ?_;refine(Bd.valid_prog G hG p hs H0).use ?_;cases bv:(NI p != 0)
 case true =>
  have q:NI p≠0:=BN bv;refine BC bv ?_;exact⟨hx,bad 1 (AOT (.inl q)) D5⟩
 have hv:NI p=0:=BN bv;refine BB bv (ldM gm) ?_;refine(QF G hG m hm H0).use ?_;cases bm:(F8 m != 0)
 case true =>
  have q:F8 m≠0:=BN bm;refine BB bv bm ?_;exact⟨hx,bad 1 (AOT (.inr (AZ0 q))) D5⟩
 refine E8 bv bm (ldM gm) (ldH gh) ?_;refine(Ho.valid_prog G hG m hm x hn H0).use ?_;cases bh:LW m x
 case false =>
  refine DT bv bm bh ?_;exact⟨hx,bad 1 (AOT (.inr bh)) D5⟩
 refine I7 bv bm bh (ldM gm) (ldH gh) ?_;refine(YQ G hG m hm x hn H0).use ?_;by_cases hc:cnE EI m x=0
 rotate_left
 .have e:cnV EI m x=.tup [.sl .nil 0 [],.n (cnE EI m x)]:=by unfold cnV; rw[if_neg hc]
  have bc:(cnE EI m x != 0)=true:=BN hc;rw[e];refine BC bc ?_;exact⟨hx,bad _ (A2M hv bh hc) hc⟩
 have e:cnV EI m x=.tup [.sl .any 1 ((cnL EI m x).map O1),.n 0]:=by unfold cnV; rw[if_pos hc,hc]
 have hce:=A38 bh hc;obtain⟨hcl,hcr⟩:=nM (ins:=EI) bh;have hr4:=A2K (s:=sdP) hv bh hc;have hr3:=A2L (s:=sdP) hv bh hc;have hrA:AEP sdP EI p m x=aQ (fun S=>UL p (VZ p++S)) (UI sdP p.vars (cnL EI m x)):=rfl;rw[e]
 generalize cnL EI m x=R at hce hcl hcr hr3 hr4 hrA|-
 refine BB (show((0:Int) != 0)=false from rfl) (oX gp) ?_;refine(uB G hG p hs hv .any R U (fun r hr=>by have:=hcr r hr; omega) hce H0).use ?_;by_cases hz:UJ p.vars R=0
 rotate_left
 .have e:AEG sdP p.vars R=.tup [.sl .nil 0 [],.n (UJ p.vars R)]:=by unfold AEG; rw[if_neg hz]
  have bc:(UJ p.vars R != 0)=true:=BN hz;rw[e];refine BC bc ?_;exact⟨hx,bad _ (hr3 hz) hz⟩
 have e:AEG sdP p.vars R=.tup [.sl (Cov.nm (UI sdP p.vars R)) 1 ((UI sdP p.vars R).map O1),.n 0]:=by unfold AEG; rw[if_pos hz,hz]
 have hSx:=AZO hce hz
 have hSl:(UI sdP p.vars R).length<=8∧∀S∈UI sdP p.vars R,S.length<=8:=by
  refine⟨by unfold UI; rw[jJ]; exact hcl,fun S hS=>?_⟩;unfold UI at hS;obtain⟨r,hr,rfl⟩:=zQ.1 hS;rw[jJ]; exact hcr r hr
 have hr4:=hr4 hz;rw[e]
 generalize UI sdP p.vars R=L at hSx hSl hrA|-
 have lh:BU jA H0 23 (.ptr h.length 0 1)=some (.sl p.hm 4 (p.hard.map AU)):=by rw[BL MO gp (row:=DL p) rfl]; rfl
 refine BC (show((0:Int) != 0)=false from rfl) ?_;have hfl:Bd.fl [⟨p.hm,p.hard⟩,⟨.any,XA p⟩]=VZ p:=by simp [Bd.fl,VZ]
 have hrl:(VZ p).length<=200000:=by unfold VZ; rw[List.length_append,AN2]; have:=hb.hard; have:=hb.dists; omega
 have hcc:=Bd.concat_prog G [⟨p.hm,p.hard⟩,⟨.any,XA p⟩] .full BA (by rw[hfl]; omega) H0;rw[hfl] at hcc;refine DV A8 ?_;refine DT @AQW lh (oX gp) ?_;refine⟨_,xN G hG p hs hv H0,?_⟩;simp -implicitDefEqProofs only[vQ,KH,NH,MF,CV,YJ,List.map_cons,List.map_nil,↓reduceIte,jB,Nat.reduceAdd,enP,WM,AR2];refine⟨_,hcc,?_⟩;have hrx:=fun S (q:∀e∈S,xpE p.vars e=0)=>AOP (p:=p) hv (S:=S) q
 generalize VZ p=rl at hrl hrA hrx|-
 simp -implicitDefEqProofs only[jJ]
 refine BI (fun n F H=>∃i v done,n+i=L.length∧F 3=.ptr h.length 0 0∧F 11=.sl (Cov.nm rl) 4 (rl.map AU)∧F 12=v∧F 55=.sl (Cov.nm L) 1 (L.map O1)∧F 56=.n (L.length:Nat)∧F 57=.n (i:Nat)∧Sm.ext H0 H∧outG 1 nB H0 done v H∧aQ (fun S=>UL p (rl++S)) (L.take i)=some done) L.length
  ⟨0,.sl .nil 0 [],[],BA,by simp -implicitDefEqProofs only[AY,↓reduceIte,jB],by simp -implicitDefEqProofs only[AY,↓reduceIte,jB],by simp -implicitDefEqProofs only[AY,↓reduceIte,jB],by simp -implicitDefEqProofs only[AY,↓reduceIte,jB],by simp -implicitDefEqProofs only[AY,↓reduceIte,jB],by simp -implicitDefEqProofs only[AY,↓reduceIte]; rfl,ext.rfl' _,outG.nil _ _ _ _,rfl⟩ ?_
 rintro n F H ⟨i,v,done,hi,f3,f11,f12,f55,f56,f57,hxH,ho,hd⟩;refine BB f56 f57 ?_;refine D8 ?_ ?_<;>intro hi'
 .have hme:=jH hi'
  have hdl:=(AAW hd).1;rw[jV] at hdl;have gp1:=ED hxH gp;have lr:BU jA H 23 (.fptr 1 (L.map O1) i 0)=some (.sl (Cov.nm L[i]) 4 (L[i].map AU)):=by rw[CG MO hi']; rfl
  have hfl2:Bd.fl [⟨Cov.nm rl,rl⟩,⟨Cov.nm L[i],L[i]⟩]=rl++L[i]:=by simp [Bd.fl]
  have hll:(rl++L[i]).length<=1048576:=by grind
  have hcc2:=Bd.concat_prog G [⟨Cov.nm rl,rl⟩,⟨Cov.nm L[i],L[i]⟩] .full BA (by rw[hfl2]; exact hll) H;rw[hfl2] at hcc2;refine P8 f55 f57 hi' lr ?_;refine DV A8 ?_;refine E8 f3 f11 (oX gp1) AR2 ?_;refine⟨_,hcc2,_,AE9 G hG p hs hv _ (rl++L[i]) hll (hrx _ (hSx _ hme)) (hb.bits hv) H,?_⟩;unfold AFM
  cases hq:UL p (rl++L[i]) with
  | none =>
    have hnone:AEP sdP EI p m x=none:=by rw[hrA]; exact rK hme hq
    refine BC (show((11:Int) != 0)=true from rfl) ?_;refine⟨hx.trans hxH,?_⟩;rw[AAD (z:=11) (by rw[hr4,hnone]; rfl) D5]; rfl
  | some a =>
    obtain⟨v',H4,ha,ho2,_,he2,_,_⟩:=ho.append (P:=jA) ud25 AJ6 zs25 by25 U U hxH a;change EG jA true H 25 25 v (.sl .full 1 [[.sl .any 1 (a.map Bins.qencI)]])=_ at ha;refine MV (show((0:Int) != 0)=false from rfl) f12 @bsA ha f57 (DF i) ?_;exact⟨n-1,U,i+1,v',done++[a],U,AZ,AZ,AZ,AZ,AZ,AZ,he2,ho2,by rw[jY hi']; exact rJ hd hq⟩
 .rw[jI U] at hd
  have hsome:AEP sdP EI p m x=some done:=by rw[hrA]; exact hd
  refine BC f12 ?_;refine⟨hx.trans hxH,?_⟩;rw[AT1 (by rw[hr4,hsome]; rfl) hsome];show AV.tup [FN h.length H 2 v,_]=_;rw[KP A3S ho h.length 0 (by have:=hx.le; omega)]; rfl
def AT4 (s:Bw)(ins:Ex->List Rng->Ex)(p:Pr)(m:Mo)(x:Hl):AV:=.tup [.bool (decide (PX s ins p m x=11)),.n (if PX s ins p m x=11 then 0 else PX s ins p m x)]
theorem ADY (hG:GOk G)(p:Pr)(hs:PrS p)(hb:Sm51 p)(m:Mo)(hm:MoOk m)(x:Hl)(hn:x.bins.length<=1048576)(h:Hp):PCall (En G) 14 [.agg (DL p),.agg (DJ m),.agg (FQ x)] h (AT4 sdP EI p m x):=by
 refine XJ 3 (fun n H=>rfl) ?_;refine acL Tryz.func14 [.tmp 6,.tmp 7] ?_;have gp:=AL (x:=zZ 3 [FQ x]) (AL (x:=zZ 2 [DJ m]) (A7 h (zZ 5 [DL p])));have gm:=AL (x:=zZ 3 [FQ x]) (A7 (h++[zZ 5 [DL p]]) (zZ 2 [DJ m]));have gh:=A7 (h++[zZ 5 [DL p]]++[zZ 2 [DJ m]]) (zZ 3 [FQ x]);have hx:Sm.ext h (h++[zZ 5 [DL p]]++[zZ 2 [DJ m]]++[zZ 3 [FQ x]]):=(((ext.rfl' h).app _).app _).app _;refine DT @YH @bxM @bxH ?_
 generalize h++[zZ 5 [DL p]]++[zZ 2 [DJ m]]++[zZ 3 [FQ x]]=H0 at gp gm gh hx|-
 refine DT (oX gp) (ldM gm) (ldH gh) ?_;refine(bN G hG p hs hb m hm x hn H0).use ?_;unfold AKO AT4;generalize PX sdP EI p m x=c;refine AO ?_;refine CE ?_ ?_<;>intro hc
 .have hc:c=11:=BN hc
  refine AO ?_;exact⟨by rw[hc]; rfl,hx⟩
 .have hc:¬c=11:=BN hc
  refine AO ?_;exact⟨by rw[if_neg hc,decide_eq_false hc],hx⟩
end
end Go.Proofs.YtiihpnicbekebaaGreatDoor.Bd.Cl
namespace Go.Proofs.YtiihpnicbekebaaGreatDoor.Sm
variable {n:Nat} {P:Program} {t:TypeId} {w:World}

def M0 (W:World):Nat->Option Obj:=fun k=>W.heap[k]?
def g0 (W:World):Gh:=⟨M0 W,fun _=>none,W.os,W.tape,W.output,fun _=>none⟩
theorem A6M {E:Env}{W:World}(hN:E.L=none)(hG:∀n,RepF (M0 W) (E.G n) (.pointer (some ⟨n,0,none⟩))):SimH E (g0 W) [] W where
 os:=rfl
 tape:=rfl
 output:=rfl
 fro k o h:=h
 lo g0 h:=by rw[hN] at h; cases h
 live b k xs h:=by simp at h
 obj b x h:=by simp at h
 inj b b' x x' l l' h:=by simp at h
 fresh b _:=rfl
 glob:=hG
theorem AC3 {E:Env}{f:FuncId}{avs:List AV}{args:Array Value}{W:World}(hc:ACalls E f avs [] fun v _=>v=.bool true)(hN:E.L=none)(hX:∀u h,¬E.X u h)
  (hG:∀n,RepF (M0 W) (E.G n) (.pointer (some ⟨n,0,none⟩))) (ha:bM (g0 W) avs args) :
  Calls E.P f args W fun e w'=>e=.returned (.bool true)∧RowKit.Below W.heap.size W w':=by
 refine(hc.2 (g0 W) W args (A6M hN hG) ha).mono ?_;rintro e w' (⟨v,cv,g',h',rfl,rfl,hle,S,hr⟩|⟨_,_,_,_,hx,_⟩)
 rotate_left
 .exact(hX _ _ hx).elim
 rw[hr.bool_inv];have hfro:∀k o,W.heap[k]?=some o->w'.heap[k]?=some o:=fun k o h=>S.fro k o (hle.M k o h)
 refine⟨rfl,?_,?_,?_,?_,?_⟩
 .rw[S.os,hle.os]; rfl
 .rw[S.tape,hle.tape]; rfl
 .rw[S.output,hle.output]; rfl
 .rcases Nat.lt_or_ge w'.heap.size W.heap.size with h|h
  .have h1:=hfro w'.heap.size _ (Array.getElem?_eq_getElem h)
   simp at h1
  .exact h
 .intro k hk
  rw[hfro k _ (Array.getElem?_eq_getElem hk),Array.getElem?_eq_getElem hk]
theorem AOW {H:Type}{enc:TypeId×Value->H}{P:Program}{f:Func}{s:ChangeSpec}{tb:TypeId}{apart fresh handsOn:Bool}{W W':World}{args:Array Value}{ds gs:List (DataW H)}{before:List MemPlace}
  (hW:DataW.Whole enc P f.params.toList s.vars apart W args.toList ds gs before) (hb:RowKit.Below W.heap.size W W')
  (hv:s.vars=[]) (hr:f.resultTypes = #[tb]) (hub:P.underlying tb=some .bool)
  (hs:s.fn H ds={ results:=[.lit (.bool true)],args:=ds })
  (hl:laidOutB P=true) (hp:f.params.toList.all (fun t=>P.readableRec t&&decide (t<P.types.size))=true) :
  s.post enc P f apart fresh handsOn false W args (.bool true) W':=by
 have hW0:=hW;obtain⟨p,q,hA,hV,rfl,_,_⟩:=hW;rw[hv] at hV
 obtain⟨rfl,rfl⟩:gs=[]∧q=[]:=by
  cases gs with
  | nil=>exact⟨rfl,hV⟩
  | cons=>exact hV.elim
 have hfn:s.fn H (ds++[])={ results:=[.lit (.bool true)],args:=ds }:=by rw[jQ]; exact hs
 rw[jQ] at hW0;have hlt:∀x∈p,x.block<W.heap.size:=fun x hx=>hW0.lt x hx
 have hall:∀(sp:Nat->Bool),(∀x∈p,sp x.block=true)->∀ {ts:List TypeId} {vs:List Value} {ds:List (DataW H)} {ps:List MemPlace},(ts.all (fun t=>P.readableRec t&&decide (t<P.types.size))=true) ->
   (∀x∈ps,x∈p)->DataW.TrodAll enc P W 0 (fun _=>true) true ts vs ds ps->DataW.TrodAll enc P W' 0 sp true ts vs ds ps:=by
  intro sp hsp ts
  induction ts with
  | nil =>
    intro vs ds ps _ _ h
    cases vs<;>cases ds<;>first|exact h|exact h.elim
  | cons t ts ih =>
    intro vs ds ps hts hm h
    cases vs with
    | nil=>exact h.elim
    | cons v vs =>
      cases ds with
      | nil=>exact h.elim
      | cons d ds =>
        obtain⟨p1,q1,h1,h2,e⟩:=h;simp only[List.all_cons,jU,decide_eq_true_eq] at hts;have hm1:∀x∈p1,x∈p:=fun x hx=>hm x (by rw[e]; exact List.mem_append_left _ hx)
        exact⟨p1,q1,WideElems.Trod_stays hl hts.1.1 hts.1.2 h1 (fun x hx=>hb.same (hlt x (hm1 x hx))) (fun x hx=>hsp x (hm1 x hx)),ih hts.2 (fun x hx=>hm x (by rw[e]; exact List.mem_append_right _ hx)) h2,e⟩
 have hold:∀x∈p,(fun b=>decide (b<W.heap.size)) x.block=true:=fun x hx=>by simpa using hlt x hx
 refine⟨ds,[],p,[],p,[],hW0,?_,?_,?_,World.keptBut_mono (fun x hx=>⟨hx,.inr (.inl hx)⟩) (hb.frame (·∈p)),fun h=>by cases h⟩
 .rw[hfn,hr]
  exact ChangeShapes.trodAll_mk1 (RowKit.shut_bool hub true)
 .rw[hfn]; exact hall _ hold hp (fun _ h=>h) hA
 .rw[hv,hfn]; exact rfl

open Go.Proofs.YtiihpnicbekebaaGreatDoor.Rows (uptoBulk uptoBulkAll)
def RowP (M:Nat->Option Obj)(rs:List AV)(cs:List Value):Prop:=∀(j:Nat) (a:AV),rs[j]?=some a->a.leaf=true∧∃c,cs[j]?=some c∧RepF M a c
theorem RowP.nil (M:Nat->Option Obj)(cs:List Value):RowP M [] cs:=fun j a h=>by simp at h
theorem RowP.one {M:Nat->Option Obj}{a:AV}{c:Value}(hl:a.leaf=true)(h:RepF M a c):RowP M [a] [c]:=by
 intro j b hb
 cases j with
 | zero=>simp at hb; subst hb; exact⟨hl,c,rfl,h⟩
 | succ j=>simp at hb
theorem RowP.append {M:Nat->Option Obj}{rs bs:List AV}{cs:List Value}(h:RowP M rs (cs.take n))(hn:rs.length=n)(k:RowP M bs (cs.drop n)):RowP M (rs++bs) cs:=by
 intro j a ha;rw[List.getElem?_append] at ha;split at ha
 .obtain⟨h1,c,h2,h3⟩:=h j a ha
  rw[List.getElem?_take] at h2;split at h2
  .exact⟨h1,c,h2,h3⟩
  .cases h2
 .obtain⟨h1,c,h2,h3⟩:=k _ a ha
  rw[List.getElem?_drop] at h2;exact⟨h1,c,by rw[<-h2]; congr 1; omega,h3⟩
def RdAt (P:Program)(n:Nat)(t:TypeId){α:Type}(enc:α->List AV)(ok:α->Nat->Prop):Prop :=
 ∀ (H:Type) (ench:TypeId×Value->H) (w:World) (cs:List Value) (d:DataW H) (ps:List MemPlace),
   DataW.trod ench P w 0 (fun _=>true) true n t cs=some (d,ps)->∃x,ok x (uptoBulk d)∧RowP (M0 w) (enc x) cs
def Rd (P:Program)(t:TypeId){α:Type}(enc:α->List AV)(ok:α->Nat->Prop):Prop:=∀n,RdAt P n t enc ok
theorem RdAt.zero {α:Type}{enc:α->List AV}{ok:α->Nat->Prop}:RdAt P 0 t enc ok:=by
 intro H ench w cs d ps h; simp [DataW.trod] at h
theorem RdAt.map {P:Program}{n:Nat}{t:TypeId}{α β:Type}{enc:α->List AV}{ok:α->Nat->Prop}{enc':β->List AV}{ok':β->Nat->Prop}(f:α->β)(h:RdAt P n t enc ok)
  (he:∀x,enc' (f x)=enc x) (hk:∀x b,ok x b->ok' (f x) b):RdAt P n t enc' ok':=by
 intro H ench w cs d ps ht;obtain⟨x,h1,h2⟩:=h H ench w cs d ps ht;exact⟨f x,hk x _ h1,by rw[he]; exact h2⟩
theorem Rd.map {P:Program}{t:TypeId}{α β:Type}{enc:α->List AV}{ok:α->Nat->Prop}{enc':β->List AV}{ok':β->Nat->Prop}(f:α->β)(h:Rd P t enc ok)
 (he:∀x,enc' (f x)=enc x) (hk:∀x b,ok x b->ok' (f x) b):Rd P t enc' ok':=fun n=>(h n).map f he hk
def okI (z:Int)(_:Nat):Prop := -9223372036854775808<=z∧z<=9223372036854775807
def okS (s:ByteArray)(b:Nat):Prop:=s.size+1<=b
def okT {α:Type}(_:α)(_:Nat):Prop:=True
def okL {α:Type}(ok:α->Nat->Prop):List α->Nat->Prop
 | [],_=>True
 | x::xs,b=>∃b1 b2,b1+b2<=b∧1<=b1∧ok x b1∧okL ok xs b2
theorem okL.length {α:Type}{ok:α->Nat->Prop}:∀ {xs:List α} {b:Nat},okL ok xs b->xs.length<=b
 | [],_,_=>qF _
 | _::_,_,⟨_,_,h1,h2,_,h4⟩=>by have:=okL.length h4; simp; omega
theorem okL.each {α:Type}{ok:α->Nat->Prop}:∀ {xs:List α} {b:Nat},okL ok xs b->∀x∈xs,∃b1,b1<=b∧ok x b1
 | [],_,_,_,h=>by cases h
 | y::ys,b,⟨b1,b2,h1,h2,h3,h4⟩,x,h=>by
   cases List.mem_cons.1 h with
   | inl e=>subst e; exact⟨b1,U,h3⟩
   | inr e=>obtain⟨b3,h5,h6⟩:=okL.each h4 x e; exact⟨b3,U,h6⟩
theorem okL.mono {α:Type}{ok:α->Nat->Prop}:∀ {xs:List α} {b b':Nat},okL ok xs b->b<=b'->okL ok xs b'
 | [],_,_,_,_=>trivial
 | _::_,_,_,⟨b1,b2,h1,h2,h3,h4⟩,h=>⟨b1,b2,U,h2,h3,h4⟩
theorem ARW {H:Type}(d:DataW H):1<=uptoBulk d:=by
 cases d with
 | lit l=>cases l<;>simp [uptoBulk]
 | nil=>simp [uptoBulk]
 | ptr d=>simp [uptoBulk]
 | slice elems spare=>simp [uptoBulk]
 | agg parts=>simp [uptoBulk]
 | iface t d=>simp [uptoBulk]
 | map entries=>simp [uptoBulk]
 | held h=>simp [uptoBulk]
theorem AZT (hu:P.underlying t=some (.int .i64)):Rd P t (fun z:Int=>[.int .i64 z]) okI:=by
 intro n H ench w cs d ps h;obtain⟨z,rfl,hx,hz⟩:=DataW.trod_int hu h;refine⟨z,?_,RowP.one rfl (.int _ _)⟩;simp only[Lit.wf,jU,decide_eq_true_eq] at hz;exact hz
theorem AT0 (hu:P.underlying t=some .bool):Rd P t (fun z:Bool=>[.bool z]) okT:=by
 intro n H ench w cs d ps h;obtain⟨z,rfl,hx⟩:=DataW.trod_bool hu h;exact⟨_,trivial,RowP.one rfl (.bool _)⟩
theorem AZS (hu:P.underlying t=some .string):Rd P t (fun z:ByteArray=>[.str z]) okS:=by
 intro n H ench w cs d ps h;obtain⟨s,rfl,hx,_⟩:=DataW.trod_string hu h;cases hx;refine⟨s,?_,RowP.one rfl (.str _)⟩;simp only[okS,uptoBulk,Array.length_toList];exact Nat.le_refl _
theorem lP {α β:Type}{f:α->Option β}{x:α}{xs:List α}{ys:List β}(h:(x::xs).mapM f=some ys):∃y zs,f x=some y∧xs.mapM f=some zs∧ys=y::zs:=by
 rw[List.mapM_cons] at h
 cases hx:f x with
 | none=>simp [hx] at h
 | some y =>
   cases hz:xs.mapM f with
   | none=>simp [hx,hz] at h
   | some zs=>simp [hx,hz] at h; exact⟨y,zs,rfl,rfl,h.symm⟩
theorem AAC {P:Program}{n:Nat}{e:TypeId}{α:Type}{enc:α->List AV}{ok:α->Nat->Prop}(hr:RdAt P n e enc ok){H:Type}{ench:TypeId×Value->H}{w:World} :
  ∀ (zs:List (DataW H×List MemPlace)) (cells:Nat->Option (List Value)),(∀i,i<zs.length->(cells i).bind (DataW.trod ench P w 0 (fun _=>true) true n e)=zs[i]?) ->
    ∃xs:List α,xs.length=zs.length∧okL ok xs (uptoBulkAll (zs.map (·.1)))∧∀(i:Nat) (x:α),xs[i]?=some x->∃cs,cells i=some cs∧RowP (M0 w) (enc x) cs
 | [],cells,h=>⟨[],rfl,trivial,fun i x h=>by simp at h⟩
 | y::zs,cells,h=>by
   have h0:=h 0 BA
   cases hc:cells 0 with
   | none=>simp [hc] at h0
   | some cs =>
     simp only[hc,Option.bind_some,List.getElem?_cons_zero] at h0;obtain⟨x,k1,k2⟩:=hr H ench w cs y.1 y.2 h0;obtain⟨xs,l1,l2,l3⟩:=AAC hr zs (fun i=>cells (i+1)) (fun i hi=>by have:=h (i+1) (BN hi); simpa using this);refine⟨x::xs,by simp [l1],⟨uptoBulk y.1,uptoBulkAll (zs.map (·.1)),by simp [uptoBulkAll],ARW _,k1,l2⟩,?_⟩;intro i x' hx
     cases i with
     | zero=>simp at hx; subst hx; exact⟨cs,hc,k2⟩
     | succ i=>simp at hx; exact l3 i x' hx
theorem AE7 {β:Type}{f:Nat->Option β}{i:Nat}{ys:List β}(h:(List.range n).mapM f=some ys)(hi:i<n):∃y,f i=some y∧ys[i]?=some y:=by
 have gen:∀(l:List Nat) (ys:List β),l.mapM f=some ys->∀j k:Nat,l[j]?=some k->∃y,f k=some y∧ys[j]?=some y:=by
  intro l
  induction l with
  | nil=>intro ys _ j k hj; simp at hj
  | cons a l ih =>
    intro ys hl j k hj;obtain⟨y,zs,h1,h2,rfl⟩:=lP hl
    cases j with
    | zero=>simp at hj; subst hj; exact⟨y,h1,rfl⟩
    | succ j=>simp at hj; exact ih zs h2 j k hj
 exact gen _ _ h i i (by simp [hi])
theorem cells_at {a:Addr}{cs:List Value}(h:w.cells? 0 a n=some cs){i:Nat}(hi:i<n):∃c,w.cell? (a.add i)=some c∧cs[i]?=some c:=by
 unfold World.cells? at h;simp only[qF,if_true] at h;exact AE7 h hi
theorem QV {P:Program}{n:Nat}{t e:TypeId}{k:Nat}{α:Type}{enc:α->List AV}{ok:α->Nat->Prop}(hu:P.underlying t=some (.slice e))(hk:P.cellsOf e=k)(hk0:0<k)(hlen:∀x,(enc x).length=k)
  (hr:RdAt P n e enc ok):RdAt P (n+1) t (fun x:SM×List α=>[.sl x.1 k (x.2.map enc)]) (fun x b=>∃b',b'+1<=b∧okL ok x.2 b'):=by
 intro H ench w cs d ps h;rcases DataW.trod_slice hu h with⟨rfl,hd⟩|⟨a,len,cap,zs,rest,m,hm,rfl,hd,_,hlc,_,hzl,hel,_,_⟩
 .cases hd
  exact⟨(.nil,[]),⟨0,by simp [uptoBulk],trivial⟩,RowP.one rfl (.nil _)⟩
 .obtain rfl:n=m:=U
  simp only[Prod.mk.injEq] at hd;obtain⟨xs,l1,l2,l3⟩:=AAC hr zs (fun i=>w.cells? 0 (a.add (i*P.cellsOf e)) (P.cellsOf e)) (fun i hi=>hel i U);rw[hzl] at l1;have hok:∃b',b'+1<=uptoBulk d∧okL ok xs b':=⟨uptoBulkAll (zs.map (·.1)),by rw[hd.1]; simp [uptoBulk],l2⟩;rcases Nat.eq_zero_or_pos len with h0|hpos
  .subst h0
   have:xs=[]:=wJ.1 l1;subst this;exact⟨(.any,[]),hok,RowP.one rfl (.empty .any k a cap BA BA)⟩
  .refine⟨(.any,xs),hok,RowP.one rfl ?_⟩
   have cellAt:∀i j,i<len->j<k->∃c,w.cell? ((a.add (i*k)).add j)=some c∧∀x a',xs[i]?=some x->(enc x)[j]?=some a'->a'.leaf=true∧RepF (M0 w) a' c:=by
    intro i j hi hj;have hx:i<xs.length:=U;obtain⟨cs',q1,q2⟩:=l3 i xs[i] (by simp [hx]);rw[hk] at q1;obtain⟨c,r1,r2⟩:=cells_at q1 hj;refine⟨c,r1,fun x a' hx' ha'=>?_⟩;rw[List.getElem?_eq_getElem hx] at hx';cases hx';obtain⟨s1,c',s2,s3⟩:=q2 j a' ha';rw[r2] at s2; cases s2;exact⟨s1,s3⟩
   obtain⟨cb,co,sp⟩:=a
   have hadd:∀i j,((Addr.mk cb co none).add (i*k)).add j=⟨cb,co+i*k+j,none⟩:=by
    intro i j;rw[addr_add,addr_add]
   obtain⟨c0,hc0,_⟩:=cellAt 0 0 hpos hk0
   have hsp:sp=none:=by
    simp [Addr.add,World.cell?] at hc0;split at hc0
    .split at hc0
     .cases hc0
     .rename_i hs; simpa using hs
    .cases hc0
   subst hsp;rw[hadd] at hc0;simp only[World.cell?] at hc0;split at hc0
   case h_2=>cases hc0
   rename_i c ty fz hw;have rd:∀i j,w.cell? ⟨cb,co+i*k+j,none⟩=c[co+i*k+j]? := fun i j=>by simp [World.cell?,hw]
   have hlx:len=(xs.map enc).length:=by simp [l1]
   rw[hlx];refine .sl .any k (xs.map enc) cb co c ty fz cap (fun i j=>c[co+i*k+j]?.getD default) ?_ BA hw ?_ ?_ ?_ ?_ BA
   .intro hx
    have:xs=[]:=BN hx;subst this; simp at l1; omega
   .intro i row hrow
    rw[jZ,Option.map_eq_some_iff] at hrow;obtain⟨x,hx,rfl⟩:=hrow;refine⟨hlen x,fun j v hv=>?_⟩;have hi:i<len:=by rw[<-l1]; exact(List.getElem?_eq_some_iff.1 hx).1
    have hj:j<k:=by rw[<-hlen x]; exact(List.getElem?_eq_some_iff.1 hv).1
    obtain⟨c,_,hc2⟩:=cellAt i j hi hj;exact(hc2 x v hx hv).1
   .intro i j hi hj
    obtain⟨c',q1,_⟩:=cellAt i j (by simpa [l1] using hi) hj;rw[hadd,rd] at q1;rw[q1]; rfl
   .intro i j row v hrow hv
    rw[jZ,Option.map_eq_some_iff] at hrow;obtain⟨x,hx,rfl⟩:=hrow;have hi:i<len:=by rw[<-l1]; exact(List.getElem?_eq_some_iff.1 hx).1
    have hj:j<k:=by rw[<-hlen x]; exact(List.getElem?_eq_some_iff.1 hv).1
    obtain⟨c',q1,q2⟩:=cellAt i j hi hj;rw[hadd,rd] at q1;show RepF _ _ (c[co+i*k+j]?.getD default);rw[q1];exact(q2 x v hx hv).2
   .simp [l1]; exact hlc
def AXA (P:Program)(n:Nat)(fs:List Field)(off:Nat){α:Type}(enc:α->List AV)(ok:α->Nat->Prop):Prop :=
 ∀ (H:Type) (ench:TypeId×Value->H) (w:World) (cs:List Value) (zs:List (DataW H×List MemPlace)),zs.length=fs.length ->
   (∀(i:Nat) (f:Field),fs[i]?=some f->DataW.trod ench P w 0 (fun _=>true) true n f.type ((cs.drop f.offset).take (P.cellsOf f.type))=zs[i]?)->∃x,ok x (uptoBulkAll (zs.map (·.1)))∧RowP (M0 w) (enc x) (cs.drop off)
theorem V4 {off:Nat}:AXA P n [] off (fun _:Unit=>[]) okT:=fun _ _ _ _ _ _ _=>⟨(),trivial,RowP.nil _ _⟩
theorem JA {P:Program}{n off k:Nat}{f:Field}{fs:List Field}{α β:Type}{enc:α->List AV}{ok:α->Nat->Prop}{enc':β->List AV}{ok':β->Nat->Prop}(ho:f.offset=off)(hk:P.cellsOf f.type=k)
  (hlen:∀x,(enc x).length=k) (h:RdAt P n f.type enc ok) (h':AXA P n fs (off+k) enc' ok') :
  AXA P n (f::fs) off (fun x:α×β=>enc x.1++enc' x.2) (fun x b=>∃b1 b2,b1+b2<=b∧ok x.1 b1∧ok' x.2 b2):=by
 intro H ench w cs zs hl hz
 cases zs with
 | nil=>simp at hl
 | cons y zs =>
   have h1:=hz 0 f rfl;obtain⟨x,k1,k2⟩:=h H ench w _ y.1 y.2 (BN h1);obtain⟨x',l1,l2⟩:=h' H ench w cs zs (BN hl) (fun i f' hf=>by have:=hz (i+1) f' (BN hf); simpa using this);refine⟨(x,x'),⟨_,_,Nat.le_of_eq (by simp [uptoBulkAll]),k1,l1⟩,?_⟩;rw[ho,hk] at k2;refine RowP.append k2 (hlen x) ?_;rw[List.drop_drop];exact l2
theorem QC {fs:List Field}{α:Type}{enc:α->List AV}{ok:α->Nat->Prop}(hu:P.underlying t=some (.struct fs.toArray))(h:AXA P n fs 0 enc ok):
  RdAt P (n+1) t enc (fun x b=>∃b',b'+1<=b∧ok x b'):=by
 intro H ench w cs d ps ht;obtain⟨zs,m,hm,hd,_,hl,hz⟩:=DataW.trod_struct hu ht;obtain rfl:n=m:=U;obtain⟨x,k1,k2⟩:=h H ench w cs zs (BN hl) (fun i f hf=>hz i f (BN hf));simp only[Prod.mk.injEq] at hd;exact⟨x,⟨_,by rw[hd.1]; simp [uptoBulk],k1⟩,BN k2⟩

open Go.Proofs.YtiihpnicbekebaaGreatDoor.Rows (uptoBulk uptoBulkAll)
def PR (P:Program)(t:TypeId){α:Type}(av:α->AV)(ok:α->Nat->Prop):Prop :=
 ∀ (H:Type) (ench:TypeId×Value->H) (w:World) (base:Nat) (v:Value) (d:DataW H) (ps:List MemPlace),Value.okWide P w .any base t v->DataW.Trod ench P w 0 (fun _=>true) true t v d ps ->
   ∃x,ok x (uptoBulk d)∧RepF (M0 w) (av x) v
def AFE (P:Program)(t:TypeId):Bool:=match P.underlying t with
 | some (.int _)=>true
 | some .bool=>true
 | some .string=>true
 | some (.slice _)=>true
 | _=>false
theorem cell_of {base:Nat}{v:Value}(hc:AFE P t=true)(h:Value.okWide P w .any base t v):v.cells.toList=[v]:=by
 unfold AFE at hc;unfold Value.okWide at h
 split at hc<;>rename_i hu<;>first|(cases hc; done)|skip
 all_goals
  rw[hu] at h;simp only[Cell.okWide,Cell.ok,hu] at h
  cases v<;>first|rfl|(simp at h; done)|exact h.elim
theorem A5Y {α:Type}{enc:α->List AV}{av:α->AV}{ok:α->Nat->Prop}(h:Rd P t enc ok)(he:∀x,enc x=[av x])(hc:AFE P t=true):PR P t av ok:=by
 intro H ench w base v d ps hv ⟨n,ht⟩;rw[cell_of hc hv] at ht;obtain⟨x,h1,h2⟩:=h n H ench w _ d ps ht;refine⟨x,h1,?_⟩;rw[he] at h2;obtain⟨_,c,h3,h4⟩:=h2 0 (av x) rfl;simp at h3; subst h3;exact h4
theorem A6N {α:Type}{enc:α->List AV}{ok:α->Nat->Prop}{k:Nat}(h:Rd P t enc ok)(hl:∀x,ok x 0∨True->(enc x).length=k)(hk:P.cellsOf t=k)(hc:JF P t=some true):PR P t (fun x=>.agg (enc x)) ok:=by
 intro H ench w base v d ps hv ⟨n,ht⟩
 have hag:∃cs,v=.agg cs∧cs.size=P.cellsOf t:=by
  unfold JF at hc;unfold Value.okWide at hv
  cases hu:P.underlying t with
  | none=>simp [hu] at hc
  | some td =>
    rw[hu] at hc hv;cases td<;>simp at hc<;>exact⟨_,hv.choose_spec.1,hv.choose_spec.2.1⟩
 obtain⟨cs,rfl,hs⟩:=hag;obtain⟨x,h1,h2⟩:=h n H ench w _ d ps ht;refine⟨x,h1,.agg _ cs (by rw[hs,hl x (.inr trivial),hk]) ?_⟩;intro i a cv ha hcv;obtain⟨_,c,h3,h4⟩:=h2 i a ha;simp [Value.cells] at h3;rw[hcv] at h3; cases h3;exact h4
def PRs (P:Program)(ts:List TypeId){α:Type}(avs:α->List AV)(ok:α->Nat->Prop):Prop :=
 ∀ (H:Type) (ench:TypeId×Value->H) (w:World) (base:Nat) (vs:List Value) (ds:List (DataW H)) (ps:List MemPlace),(∀(j:Nat) t v,ts[j]?=some t->vs[j]?=some v->Value.okWide P w .any base t v) ->
   DataW.TrodAll ench P w 0 (fun _=>true) true ts vs ds ps->∃x,ok x (uptoBulkAll ds)∧vs.length=(avs x).length∧∀(i:Nat) (a:AV) (v:Value),(avs x)[i]?=some a->vs[i]?=some v->RepF (M0 w) a v
theorem PRs.len {P:Program}{w:World}{H:Type}{ench:TypeId×Value->H}{sp:Nat->Bool}{held:Bool}{base:Nat}:∀ {ts:List TypeId} {vs:List Value} {ds:List (DataW H)} {ps:List MemPlace},DataW.TrodAll ench P w base sp held ts vs ds ps->ds.length=ts.length
 | [],[],[],_,_=>rfl
 | _::_,_::_,_::_,_,⟨_,_,_,h2,_⟩=>by simp [PRs.len h2]
theorem A5X:PRs P [] (fun _:Unit=>[]) okT:=by
 intro H ench w base vs ds ps _ h
 cases vs with
 | nil=>exact⟨(),trivial,rfl,fun i a v h=>by simp at h⟩
 | cons v vs=>cases ds<;>exact h.elim
theorem A2P {ts:List TypeId}{α β:Type}{av:α->AV}{ok:α->Nat->Prop}{avs:β->List AV}{ok':β->Nat->Prop}(h:PR P t av ok)(h':PRs P ts avs ok'):
  PRs P (t::ts) (fun x:α×β=>av x.1::avs x.2) (fun x b=>∃b1 b2,b1+b2<=b∧ok x.1 b1∧ok' x.2 b2):=by
 intro H ench w base vs ds ps hv ht
 cases vs with
 | nil=>cases ds<;>exact ht.elim
 | cons v vs =>
   cases ds with
   | nil=>exact ht.elim
   | cons d ds =>
     obtain⟨p,q,h1,h2,_⟩:=ht;obtain⟨x,k1,k2⟩:=h H ench w base v d p (hv 0 t v rfl rfl) h1;obtain⟨y,l1,l2,l3⟩:=h' H ench w base vs ds q (fun j t' v' a b=>hv (j+1) t' v' (BN a) (BN b)) h2;refine⟨(x,y),⟨_,_,Nat.le_of_eq (by simp [uptoBulkAll]),k1,l1⟩,by simp [l2],?_⟩;intro i a v' ha hv'
     cases i with
     | zero=>simp at ha hv'; subst ha; subst hv'; exact k2
     | succ i=>simp at ha hv'; exact l3 i a v' ha hv'
theorem AUZ {H:Type}{enc:TypeId×Value->H}{E:Env}{f:FuncId}{fn:Func}{s:ChangeSpec}{tb:TypeId}{apart fresh handsOn:Bool}{W:World}{base:Nat}{args:Array Value}{ds gs:List (DataW H)}{before:List MemPlace}
  {α:Type} {avs:α->List AV} {ok:α->Nat->Prop} (hr:PRs E.P fn.params.toList avs ok) (hlaw:∀x,ok x (uptoBulkAll ds)->ACalls E f (avs x) [] fun v _=>v=.bool true)
  (hval:∀(j:Nat) t v,fn.params[j]?=some t->args[j]?=some v->Value.okWide E.P W .any base t v)
  (hW:DataW.Whole enc E.P fn.params.toList s.vars apart W args.toList ds gs before) (hG:∀n,RepF (M0 W) (E.G n) (.pointer (some ⟨n,0,none⟩)))
  (hv:s.vars=[]) (ht:fn.resultTypes = #[tb]) (hub:E.P.underlying tb=some .bool)
  (hs:s.fn H ds={ results:=[.lit (.bool true)],args:=ds })
  (hl:laidOutB E.P=true) (hp:fn.params.toList.all (fun t=>E.P.readableRec t&&decide (t<E.P.types.size))=true) (hN:E.L=none:=by rfl) (hX:∀u h,¬E.X u h:=by exact fun _ _ q=>q) :
  Calls E.P f args W fun e W'=>∃v,e=.returned v∧s.post enc E.P fn apart fresh handsOn false W args v W':=by
 obtain⟨p,q,hA,_⟩:=id hW;obtain⟨x,k1,k2,k3⟩:=hr H enc W base args.toList ds p (fun j t v a b=>hval j t v (BN a) (BN b)) hA;have ha:bM (g0 W) (avs x) args:=⟨BN k2,fun i v cv h1 h2=>.fro (k3 i v cv h1 (BN h2))⟩;refine(AC3 (hlaw x k1) hN hX hG ha).mono ?_;rintro e w' ⟨rfl,hb⟩;exact⟨_,rfl,AOW hW hb hv ht hub hs hl hp⟩
theorem ALD {P:Program}{w:World}{t e:TypeId}(hu:P.underlying t=some (.slice e))(he:P.underlying e=some .string)(hk:P.cellsOf e=1){H:Type}{ench:TypeId×Value->H}{sp:Nat->Bool}{held:Bool}{n:Nat}{cs:List Value}
  {l:List ByteArray} {d:DataW H} (hd:d=.slice (l.map fun s=>.lit (.string s.data.toList)) []) {p:List MemPlace} (h:DataW.trod ench P w 0 sp held n t cs=some (d,p)) :
  ∃c,cs=[c]∧RepF (M0 w) (.sl .any 1 (l.map fun s=>[.str s])) c:=by
 subst hd;rcases DataW.trod_slice hu h with⟨_,hx⟩|⟨a,len,cap,zs,rest,m,_,rfl,hx,_,hlc,_,hzl,hel,_,_⟩
 .cases hx
 .simp only[Prod.mk.injEq,DataW.slice.injEq] at hx
  obtain⟨⟨hz,_⟩,_⟩:=hx;have hll:l.length=len:=by have:=congrArg List.length hz; simpa [hzl] using this
  refine⟨_,rfl,?_⟩;rcases Nat.eq_zero_or_pos len with h0|hpos
  .subst h0
   have:l=[]:=wJ.1 hll;subst this;exact .empty .any 1 a cap BA BA
  .have cellAt:∀i (s:ByteArray),l[i]?=some s->w.cell? (a.add i)=some (.string s):=by
    intro i s hs;have hi:i<len:=by rw[<-hll]; exact(List.getElem?_eq_some_iff.1 hs).1
    have h1:=hel i hi;rw[hk,Nat.mul_one] at h1
    have h2:zs[i]?.map (·.1)=some (.lit (.string s.data.toList)):=by
     rw[<-jZ,<-hz,jZ,hs]; rfl
    cases hc:w.cells? 0 (a.add i) 1 with
    | none=>rw[hc] at h1; rw[<-h1] at h2; cases h2
    | some c1 =>
      rw[hc,Option.bind_some] at h1
      obtain⟨z,hzi⟩:∃z,zs[i]?=some z:=by cases hh:zs[i]? with
       | none=>rw[hh] at h2; cases h2
       | some z=>exact⟨z,rfl⟩
      rw[hzi] at h1 h2;obtain⟨s',rfl,rfl,_⟩:=DataW.trod_string he h1;simp only[Option.map_some,Option.some.injEq,DataW.lit.injEq,Lit.string.injEq] at h2
      have:s'=s:=by
       cases s'; cases s;simp only at h2;congr 1;exact Array.toList_inj.1 h2
      subst this;obtain⟨c,r1,r2⟩:=cells_at hc (i:=0) D5;simp at r2; subst r2;simpa [Addr.add] using r1
   obtain⟨cb,co,sp'⟩:=a;have h00:=cellAt 0 l[0] (by simp [hll,hpos])
   have hsp:sp'=none:=by
    simp [Addr.add,World.cell?] at h00;split at h00
    .split at h00
     .cases h00
     .rename_i hs; simpa using hs
    .cases h00
   subst hsp;have hadd:∀i,(Addr.mk cb co none).add i=⟨cb,co+i,none⟩:=fun i=>addr_add _ _ _
   rw[hadd] at h00;simp only[World.cell?] at h00;split at h00
   case h_2=>cases h00
   rename_i c ty fz hw;have rd:∀i,w.cell? ⟨cb,co+i,none⟩=c[co+i]? := fun i=>by simp [World.cell?,hw]
   have hlx:len=(l.map fun s=>[AV.str s]).length:=by simp [hll]
   rw[hlx];refine .sl .any 1 _ cb co c ty fz cap (fun i j=>c[co+i*1+j]?.getD default) ?_ BA hw ?_ ?_ ?_ (by simp [hll]; exact hlc) BA
   .intro hx
    have:l=[]:=BN hx;subst this; simp at hll; omega
   .intro i row hrow
    rw[jZ,Option.map_eq_some_iff] at hrow;obtain⟨x,hx,rfl⟩:=hrow;refine⟨rfl,fun j v hv=>?_⟩
    cases j with
    | zero=>simp at hv; subst hv; rfl
    | succ j=>simp at hv
   .intro i j hi hj
    have hi':i<l.length:=BN hi;have:=cellAt i l[i] (by simp [hi']);rw[hadd,rd] at this;have hj0:j=0:=U;subst hj0;simp only[Nat.mul_one,jT];rw[this]; rfl
   .intro i j row v hrow hv
    rw[jZ,Option.map_eq_some_iff] at hrow;obtain⟨x,hx,rfl⟩:=hrow;have:=cellAt i x hx;rw[hadd,rd] at this
    cases j with
    | zero =>
      simp at hv; subst hv;simp only[Nat.mul_one,jT];rw[this]; exact .str _
    | succ j=>simp at hv
theorem ATH {n:String}{g:Nat}{cs:Array Value}{c:Value}{a:AV}(hg:P.globalNamed n=some g)(h:w.var? P n=some cs)(hc:cs.toList=[c])(hr:RepF (M0 w) a c)(hl:a.leaf=true):
  RepF (M0 w) (.fptr 1 [[a]] 0 0) (.pointer (some ⟨g,0,none⟩)):=by
 have h0:=World.var?_cell hg h 0;have e:cs = #[c]:=by rw[<-Array.toArray_toList (xs:=cs),hc]
 rw[e] at h0;simp only[World.cell?] at h0;split at h0
 case h_2=>simp at h0
 rename_i cc ty fz hw;have hcc:cc[0]?=some c:=BN h0;refine .fptr 1 [[a]] 0 0 g 0 cc ty fz (fun _ _=>c) hw ?_ ?_ ?_
 .intro i row hrow
  cases i with
  | zero =>
    simp at hrow; subst hrow;refine⟨rfl,fun j v hv=>?_⟩
    cases j with
    | zero=>simp at hv; subst hv; exact hl
    | succ j=>simp at hv
  | succ i=>simp at hrow
 .intro i j hi hj
  have:i=0:=BN hi;have:j=0:=U
  subst_vars
  simpa using hcc
 .intro i j row v hrow hv
  cases i with
  | zero =>
    simp at hrow; subst hrow
    cases j with
    | zero=>simp at hv; subst hv; exact hr
    | succ j=>simp at hv
  | succ i=>simp at hrow
end Go.Proofs.YtiihpnicbekebaaGreatDoor.Sm
namespace Go.Proofs.YtiihpnicbekebaaGreatDoor.Head
variable {s:String} {P:Program}

def signs:List Char:=([104,97,114,110,101,115,115,32,54,57,97,57,99,52,100,99,98,100,53,49,98,99,54,100,49,55,51,51,49,98,54,56,98,55,53,55,53,56,48,52,49,57,97,56,57,99,57,55,53,54,100,48,98,53,101,102,48,56,50,51,98,57,56,54,57,51,99,52,53,100,48,101,32,99,117,116,32,97,116,32,116,101,115,116,98,101,110,99,104,47,116,101,115,116,98,101,110,99,104,108,97,119,53,49,46,67,108,111,115,117,114,101,82,101,97,99,104,101,115,32,116,101,115,116,98,101,110,99,104,47,116,101,115,116,98,101,110,99,104,108,97,119,53,49,46,67,108,111,115,117,114,101,80,108,97,110,115,32,116,101,115,116,98,101,110,99,104,47,116,101,115,116,98,101,110,99,104,108,97,119,53,49,46,67,108,111,115,117,114,101,68,105,118,105,100,101,115,32,116,101,115,116,98,101,110,99,104,47,116,101,115,116,98,101,110,99,104,108,97,119,53,49,46,67,108,111,115,117,114,101,73,116,101,109,115,32,116,101,115,116,98,101,110,99,104,47,116,101,115,116,98,101,110,99,104,108,97,119,53,49,46,67,108,111,115,117,114,101,80,114,111,118,101,115,32,116,101,115,116,98,101,110,99,104,47,116,101,115,116,98,101,110,99,104,108,97,119,53,49,46,67,108,111,115,117,114,101,72,105,116,115]:List Nat).map Char.ofNat
theorem AO3:Tryz.pinned.checked.prog.initOrder=String.ofList signs:=A8
theorem qG {l:List Char}(h:s=String.ofList l):s.toList=l:=by rw[h,String.toList_ofList]
theorem cF:Tryz.pinned.checked.prog.initOrder.toList=signs:=qG AO3
def ACP:List Char:=(signs.drop 73).take 3
def AOS:List (List Char):=wordsSigns (signs.drop 77)
def hsum:List Char:=(signs.drop 8).take 64
theorem kH:behindMainWord (wordsSigns signs)=ACP::AOS:=A8
theorem AY6:wordsSigns signs=signs.take 7::hsum::wordsSigns (signs.drop 73):=A8
theorem yI:stripLifts liftWords (ACP::AOS)=([],ACP::AOS):=A8
theorem AV2:Tryz.pinned.checked.prog.doorFits []=true:=A8
theorem APO:Tryz.pinned.checked.prog.laysLater=false:=A8
theorem ATZ:Tryz.pinned.checked.prog.bearsReflect=false:=A8
theorem A00:(ACP == "cut".toList)=true:=A8
theorem ACO:((some ACP)==some "cut".toList)=true:=A8
theorem A2V:(ACP == "gc".toList)=false:=A8
theorem AUF:(ACP == "spec".toList)=false:=A8
theorem AUG:(some ACP==some "carried".toList)=false:=A8
theorem sum_is:isSumSigns hsum=true:=A8
theorem A0E:(signs.take 7 == "harness".toList)=true:=A8
theorem AQ3 (h:P.initOrder.toList=signs)(hd:P.doorFits []=true)(hl:P.laysLater=false)(hr:P.bearsReflect=false):P.mayEnter=true:=by
 unfold Program.mayEnter;generalize P.initOrder.toList=l at h;subst h;rw[kH];simp only[yI,hd,hl,hr,jR,List.head?_cons,Bool.not_false,Bool.or_true,Bool.and_true,ACO]
theorem AUN (h:P.initOrder.toList=signs):P.make=some .cut:=by
 unfold Program.make;generalize P.initOrder.toList=l at h;subst h;rw[kH];simp only[A2V,AUF,A00,zK,Bool.false_eq_true,if_false,Bool.true_or,if_true]
theorem ALX (h:P.initOrder.toList=signs):P.liftsFinal=false:=by
 unfold Program.liftsFinal Program.headLifts;generalize P.initOrder.toList=l at h;subst h;rw[kH];simp only[yI,List.head?_cons,AUG,ACO,Bool.false_and,Bool.false_or,if_true,jR]
theorem AUO (h:P.initOrder.toList=signs)(hs:s=String.ofList hsum):P.mainIs=some (true,s.toList):=by
 rw[qG hs];unfold Program.mainIs;generalize P.initOrder.toList=l at h;subst h;rw[AY6]
 show(if !isSumSigns hsum then none else if signs.take 7 == "harness".toList then some (true,hsum) else if signs.take 7 == "ownmain".toList then some (false,hsum) else none)=_
 rw[sum_is,A0E];rfl
theorem A32:Tryz.pinned.checked.prog.mayEnter=true:=AQ3 cF AV2 APO ATZ
theorem make_is:Tryz.pinned.checked.prog.make=some .cut:=AUN cF
theorem A1N:Tryz.pinned.checked.prog.liftsFinal=false:=ALX cF
theorem A51 (hs:s=String.ofList hsum):Tryz.pinned.checked.prog.mainIs=some (true,s.toList):=AUO cF hs
theorem A55 (h:P.funcs.any Func.goes=false)(s:String):P.goesFrom s=false:=by
 have hg:∀g:FuncId,(P.funcs[g]?).any Func.goes=false:=fun g=>by
  cases hq:P.funcs[g]? with
  | none=>rfl
  | some fn =>
    show fn.goes=false;rw[Array.any_eq_false'] at h;have:=h fn (Array.mem_of_getElem? hq);simpa using this
 unfold Program.goesFrom
 cases P.funcNamed s with
 | none=>rfl
 | some f =>
   show P.goes f=false;unfold Program.goes;rw[h,Bool.and_false,zK];simp [hg]
theorem A7T:Tryz.pinned.checked.prog.funcs.any Func.goes=false:=A8
theorem A3L:Tryz.pinned.checked.prog.stopsHeard=true:=A8
theorem A53:laidOutB Tryz.pinned.checked.prog=true:=A8
theorem A50:mapsRowed Tryz.pinned.checked.prog=true:=A8
end Go.Proofs.YtiihpnicbekebaaGreatDoor.Head
namespace Go.Proofs.YtiihpnicbekebaaGreatDoor.Cov
open Sm Bins Go.RowKit
variable {b:Nat}
def okR (r:Rng)(_:Nat):Prop:=(-9223372036854775808<=r.lo∧r.lo<=9223372036854775807)∧(-9223372036854775808<=r.hi∧r.hi<=9223372036854775807)
theorem cl3:Tryz.prog.cellsOf 3=1:=A8
theorem cl9:Tryz.prog.cellsOf 9=1:=A8
theorem A39:Tryz.prog.cellsOf 84=1:=A8
theorem A61:Tryz.prog.cellsOf 85=1:=A8
theorem A67:Tryz.prog.cellsOf 23=1:=A8
theorem A4A:Tryz.prog.cellsOf 79=4:=A8
theorem A63:Tryz.prog.cellsOf 80=1:=A8
theorem A62:Tryz.prog.cellsOf 82=6:=A8
theorem A60:Tryz.prog.cellsOf 87=4:=A8
theorem A6Z:Tryz.prog.cellsOf 90=3:=A8
theorem A06:Tryz.prog.cellsOf 32=1:=A8
theorem A66:Tryz.prog.cellsOf 25=1:=A8
theorem A65:Tryz.prog.cellsOf 28=1:=A8
theorem A64:Tryz.prog.cellsOf 29=1:=A8
theorem A7V:Tryz.prog.cellsOf 31=2:=A8
theorem rdI:Rd jA 3 qencI okI:=AZT Tryz.underlying3
theorem rdStr:Rd jA 9 qencStr okS:=AZS Tryz.underlying9
theorem aR {α:Type}{ok:α->Nat->Prop}{xs:List α}(h:∃b',b'+1<=b∧okL ok xs b'):okL ok xs b:=by obtain⟨b',h1,h2⟩:=h; exact h2.mono U
def AZY (x:Is)(b:Nat):Prop:=okL okI x.l b
theorem AZU:Rd jA 32 NM AZY:=by
 intro n
 cases n with
 | zero=>exact RdAt.zero
 | succ n=>exact RdAt.map (fun x:SM×List Int=>(⟨x.1,x.2⟩:Is)) (QV Tryz.underlying32 cl3 D5 (fun _=>rfl) (rdI n)) (fun _=>rfl) (fun x b h=>aR h)
def okE (e:Ex)(b:Nat):Prop:=wt e<=b
theorem AAY:∀ {l:List Ex} {b:Nat},okL okE l b->wts l<=b
 | [],b,_=>Nat.zero_le _
 | x::xs,b,⟨b1,b2,h1,_,h3,h4⟩=>by
   have:=AAY h4;simp only[wts]; unfold okE at h3; omega
theorem rdE:∀n:Nat,RdAt jA n 79 AU okE:=by
 intro n
 induction n using Nat.strongRecOn with
 | _ n ih =>
   match n,ih with
   | 0,_=>exact RdAt.zero
   | 1,_ =>
     intro H ench w cs d ps h;obtain⟨zs,m,hm,_,_,hl,hz⟩:=DataW.trod_struct Tryz.underlying79 h;obtain rfl:m=0:=U;have:=hz 0 _ rfl;simp only[DataW.trod] at this
     have h0:zs=[]:=by cases zs with
      | nil=>rfl
      | cons a l=>simp at this
     subst h0; simp at hl
   | n+2,ih =>
     have rdA:RdAt jA (n+1) 23 (fun x:SM×List Ex=>[.sl x.1 4 (x.2.map AU)]) (fun x b=>∃b',b'+1<=b∧okL okE x.2 b'):=QV Tryz.underlying23 A4A D5 EP (ih n U)
     refine RdAt.map (fun x:Int×Int×ByteArray×(SM×List Ex)×Unit=>Ex.mk x.1 x.2.1 x.2.2.1 x.2.2.2.1.1 x.2.2.2.1.2)
      (QC Tryz.underlying79 (JA rfl cl3 (fun _=>rfl) (rdI _) (JA rfl cl3 (fun _=>rfl) (rdI _) (JA rfl cl9 (fun _=>rfl) (rdStr _) (JA rfl A67 (fun _=>rfl) rdA V4))))) (fun x=>by rw[EW]; rfl) ?_
     rintro⟨a,b,c,d,_⟩ N ⟨_,hN,b1,b2,hb,h1,b3,b4,hb2,h2,b5,b6,hb3,h3,b7,b8,hb4,⟨b9,h5,h6⟩,_⟩;have h7:=AAY h6;unfold okS at h3;show wt _<=_;rw[LX];simp only[Ex.name,Ex.args];simp only at h3 h7;omega
theorem rdR:Rd jA 145 encR okR:=by
 intro n
 cases n with
 | zero=>exact RdAt.zero
 | succ n =>
   refine RdAt.map (fun x:Int×Int×Unit=>(⟨x.1,x.2.1⟩:Rng)) (QC Tryz.underlying145 (JA rfl cl3 (fun _=>rfl) (rdI n) (JA rfl cl3 (fun _=>rfl) (rdI n) V4))) (fun _=>rfl) ?_;rintro⟨a,b,_⟩ N ⟨_,_,_,_,_,h1,_,_,_,h2,_⟩;exact⟨h1,h2⟩
theorem A4B:Tryz.prog.cellsOf 145=2:=A8
def AUC (x:Rs)(b:Nat):Prop:=okL okR x.l b
theorem A2J:Rd jA 84 encS AUC:=by
 intro n
 cases n with
 | zero=>exact RdAt.zero
 | succ n=>exact RdAt.map (fun x:SM×List Rng=>(⟨x.1,x.2⟩:Rs)) (QV Tryz.underlying84 A4B D5 dL (rdR n)) (fun _=>rfl) (fun x b h=>aR h)
def okB (x:Bin)(b:Nat):Prop:=∃b1 b2 b3,b1+b2+b3<=b∧okS x.name b1∧AUC x.ranges b2∧okL AUC x.steps b3
theorem rdB:Rd jA 87 IP okB:=by
 intro n
 match n with
 | 0=>exact RdAt.zero
 | 1 =>
   intro H ench w cs d ps h;obtain⟨zs,m,hm,_,_,hl,hz⟩:=DataW.trod_struct Tryz.underlying87 h;obtain rfl:m=0:=U;have:=hz 0 _ rfl;simp only[DataW.trod] at this
   have h0:zs=[]:=by cases zs with
    | nil=>rfl
    | cons a l=>simp at this
   subst h0; simp at hl
 | n+2 =>
   have rdSt:RdAt jA (n+1) 85 (fun x:SM×List Rs=>[.sl x.1 1 (x.2.map encS)]) (fun x b=>∃b',b'+1<=b∧okL AUC x.2 b'):=QV Tryz.underlying85 A39 D5 (fun _=>rfl) (A2J n)
   refine RdAt.map (fun x:ByteArray×Int×Rs×(SM×List Rs)×Unit=>(⟨x.1,x.2.1,x.2.2.1,x.2.2.2.1.1,x.2.2.2.1.2⟩:Bin))
    (QC Tryz.underlying87 (JA rfl cl9 (fun _=>rfl) (rdStr _) (JA rfl cl3 (fun _=>rfl) (rdI _) (JA rfl A39 (fun _=>rfl) (A2J _) (JA rfl A61 (fun _=>rfl) rdSt V4))))) (fun _=>rfl) ?_
   rintro⟨a,b,c,d,_⟩ N ⟨_,hN,b1,b2,hb,h1,b3,b4,hb2,h2,b5,b6,hb3,h3,b7,b8,hb4,h4,_⟩;exact⟨b1,b5,b7,U,h1,h3,aR h4⟩
theorem AR7 {x:Bin}(h:okB x b)(hb:b<=1048576):BinOk x:=by
 obtain⟨b1,b2,b3,h0,h1,h2,h3⟩:=h;have l2:=h2.length;have l3:=h3.length
 have hs:∀l∈sets x,l.l.length<=1048576:=by
  intro l hl;unfold sets at hl;split at hl
  .simp at hl; subst hl; omega
  .obtain⟨b4,h4,h5⟩:=h3.each l hl
   have:=h5.length;omega
 refine⟨?_,?_,U,fun l hl=>by have:=hs l hl; omega⟩
 .unfold sets
  split
  .simp
  .omega
 .unfold okS at h1; omega
theorem uG {t:TypeId}{f:Field}{fs:List Field}{α:Type}{enc:α->List AV}{ok:α->Nat->Prop}(hu:Tryz.prog.underlying t=some (.struct (f::fs).toArray)):RdAt jA 1 t enc ok:=by
 intro H ench w cs d ps h;obtain⟨zs,m,hm,_,_,hl,hz⟩:=DataW.trod_struct hu h;obtain rfl:m=0:=U;have:=hz 0 _ rfl;simp only[DataW.trod] at this
 have h0:zs=[]:=by cases zs with
  | nil=>rfl
  | cons a l=>simp at this
 subst h0; simp at hl
def AUD (p:Pt)(b:Nat):Prop:=∃b1 b2 b3,b1+b2+b3<=b∧okS p.name b1∧okE p.ex b2∧okL okB p.bins b3
theorem rdP:Rd jA 82 FY AUD:=by
 intro n
 match n with
 | 0=>exact RdAt.zero
 | 1=>exact uG Tryz.underlying82
 | n+2 =>
   have rdBs:RdAt jA (n+1) 80 (fun x:SM×List Bin=>[.sl x.1 4 (x.2.map IP)]) (fun x b=>∃b',b'+1<=b∧okL okB x.2 b'):=QV Tryz.underlying80 A60 D5 LJ (rdB n)
   refine RdAt.map (fun x:ByteArray×Ex×(SM×List Bin)×Unit=>(⟨x.1,x.2.1,x.2.2.1.1,x.2.2.1.2⟩:Pt))
    (QC Tryz.underlying82 (JA rfl cl9 (fun _=>rfl) (rdStr _) (JA rfl A4A EP (rdE _) (JA rfl A63 (fun _=>rfl) rdBs V4)))) (fun x=>rfl) ?_
   rintro⟨a,b,c,_⟩ N ⟨_,hN,b1,b2,hb,h1,b3,b4,hb2,h2,b5,b6,hb3,h3,_⟩;exact⟨b1,b3,b5,U,h1,h2,aR h3⟩
def AUE (c:Cr)(b:Nat):Prop:=∃b1 b2 b3,b1+b2+b3<=b∧okS c.name b1∧okL okI c.pts b2∧okL AZY c.excl b3
theorem rdC:Rd jA 90 JK AUE:=by
 intro n
 match n with
 | 0=>exact RdAt.zero
 | 1=>exact uG Tryz.underlying90
 | n+2 =>
   have rdXs:RdAt jA (n+1) 25 (fun x:SM×List Is=>[.sl x.1 1 (x.2.map NM)]) (fun x b=>∃b',b'+1<=b∧okL AZY x.2 b'):=QV Tryz.underlying25 A06 D5 mX (AZU n)
   refine RdAt.map (fun x:ByteArray×Is×(SM×List Is)×Unit=>(⟨x.1,x.2.1.m,x.2.1.l,x.2.2.1.1,x.2.2.1.2⟩:Cr))
    (QC Tryz.underlying90 (JA rfl cl9 (fun _=>rfl) (rdStr _) (JA rfl A06 mX (AZU _) (JA rfl A66 (fun _=>rfl) rdXs V4)))) (fun x=>rfl) ?_
   rintro⟨a,b,c,_⟩ N ⟨_,hN,b1,b2,hb,h1,b3,b4,hb2,h2,b5,b6,hb3,h3,_⟩;exact⟨b1,b3,b5,U,h1,h2,aR h3⟩
def okM (m:Mo)(b:Nat):Prop:=∃b1 b2,b1+b2<=b∧okL AUD m.pts b1∧okL AUE m.crs b2
theorem rdM:Rd jA 31 DJ okM:=by
 intro n
 match n with
 | 0=>exact RdAt.zero
 | 1=>exact uG Tryz.underlying31
 | n+2 =>
   have rdPs:RdAt jA (n+1) 28 (fun x:SM×List Pt=>[.sl x.1 6 (x.2.map FY)]) (fun x b=>∃b',b'+1<=b∧okL AUD x.2 b'):=QV Tryz.underlying28 A62 D5 IW (rdP n);have rdCs:RdAt jA (n+1) 29 (fun x:SM×List Cr=>[.sl x.1 3 (x.2.map JK)]) (fun x b=>∃b',b'+1<=b∧okL AUE x.2 b'):=QV Tryz.underlying29 A6Z D5 NR (rdC n)
   refine RdAt.map (fun x:(SM×List Pt)×(SM×List Cr)×Unit=>(⟨x.1.1,x.1.2,x.2.1.1,x.2.1.2⟩:Mo))
    (QC Tryz.underlying31 (JA rfl A65 (fun _=>rfl) rdPs (JA rfl A64 (fun _=>rfl) rdCs V4))) (fun x=>rfl) ?_
   rintro⟨a,b,_⟩ N ⟨_,hN,b1,b2,hb,h1,b3,b4,hb2,h2,_⟩;exact⟨b1,b3,U,aR h1,aR h2⟩
theorem AT3 {p:Pt}(h:AUD p b)(hb:b<=1048576):PtOk p:=by
 obtain⟨b1,b2,b3,h0,h1,h2,h3⟩:=h;have l3:=h3.length;unfold okS at h1;unfold okE at h2;refine⟨U,U,U,fun x hx=>?_⟩;obtain⟨b4,h4,h5⟩:=h3.each x hx;exact AR7 h5 U
theorem AV6 {c:Cr}(h:AUE c b)(hb:b<=1048576):CrOk c:=by
 obtain⟨b1,b2,b3,h0,h1,h2,h3⟩:=h;have l2:=h2.length;have l3:=h3.length;unfold okS at h1;refine⟨U,U,U,fun x hx=>?_⟩;obtain⟨b4,h4,h5⟩:=h3.each x hx;have:=okL.length h5;omega
theorem A5Z {m:Mo}(h:okM m b)(hb:b<=1048576):MoOk m:=by
 obtain⟨b1,b2,h0,h1,h2⟩:=h;have l1:=h1.length;have l2:=h2.length;refine⟨U,U,fun p hp=>?_,fun c hc=>?_⟩
 .obtain⟨b4,h4,h5⟩:=h1.each p hp
  exact AT3 h5 U
 .obtain⟨b4,h4,h5⟩:=h2.each c hc
  exact AV6 h5 U
end Go.Proofs.YtiihpnicbekebaaGreatDoor.Cov
namespace Go.Proofs.YtiihpnicbekebaaGreatDoor.Bd.Cl
open Sm Bins Cov Xe Wd Bl Ho Go.RowKit
variable {m:Mo} {v:Cvr} {p:Pr}
def WT (g:Gl):Hl:=⟨g.cross,g.idx,g.bm,g.bins⟩
theorem AVA (hm:MoOk m):∀g∈goals m,g.bins.length<=1048576:=by
 have h1:∀(i:Nat) (p:Pt) (k:Nat),∀g∈gPk i p k,g.bins.length<=1048576:=by
  intro i p k
  induction k with
  | zero=>intro g hg; cases hg
  | succ k ih =>
    intro g hg;rcases zV.1 hg with h|h
    .exact ih g h
    .split at h
     .rw[wI.1 h]; show 1<=_; omega
     .cases h
 have h2:∀k,∀g∈gP m k,g.bins.length<=1048576:=by
  intro k
  induction k with
  | zero=>intro g hg; cases hg
  | succ k ih =>
    intro g hg;rcases zV.1 hg with h|h
    .exact ih g h
    .grind
 have h3:∀(i:Nat) (c:Cr),c.pts.length<=1048576->∀k,∀g∈gCk m i c k,g.bins.length<=1048576:=by
  intro i c hc k
  induction k with
  | zero=>intro g hg; cases hg
  | succ k ih =>
    intro g hg;rcases zV.1 hg with h|h
    .exact ih g h
    .split at h
     .rw[wI.1 h]
      show(ANQ (szs m c.pts) k).length<=_;unfold ANQ;rw[jJ,yB,NV]; exact hc
     .cases h
 have h4:∀k,∀g∈gC m k,g.bins.length<=1048576:=by
  intro k
  induction k with
  | zero=>exact h2 _
  | succ k ih =>
    intro g hg;rcases zV.1 hg with h|h
    .exact ih g h
    .cases hq:m.crs[k]? with
     | none=>rw[hq] at h; cases h
     | some c=>rw[hq] at h; exact h3 _ _ (hm.crs c (List.mem_of_getElem? hq)).pts _ g h
 exact h4 _
theorem AU4 (hm:MoOk m):∀g∈OD m v,(WT g).bins.length<=1048576:=by
 intro g hg;unfold OD at hg;split at hg
 .exact AVA hm g (List.mem_filter.1 hg).1
 .cases hg
theorem A0C (m:Mo)(v:Cvr):(OD m v).length<=8192:=by
 unfold OD;split
 .rename_i hf
  exact Nat.le_trans (List.length_filter_le _ _) (sH (UA (mK hf)))
 .exact Nat.zero_le _
def oO (f:Gl->Int)(most:Int)(s:List Gl×List Gl)(g:Gl):List Gl×List Gl :=
 if f g=11 then (s.1,s.2++[g]) else if f g=0∧(s.1.length:Int)<most then (s.1++[g],s.2) else s
def ZK (f:Gl->Int)(most:Int)(L:List Gl):List Gl×List Gl:=L.foldl (oO f most) ([],[])
theorem AKU (f:Gl->Int)(most:Int)(L:List Gl)(g:Gl):ZK f most (L++[g])=oO f most (ZK f most L) g:=by unfold ZK; rw[List.foldl_append]; rfl
theorem AOY (f:Gl->Int)(most:Int)(L:List Gl):(ZK f most L).1.length<=L.length∧(ZK f most L).2.length<=L.length:=by
 have:∀(L:List Gl) (s:List Gl×List Gl),(L.foldl (oO f most) s).1.length<=s.1.length+L.length∧(L.foldl (oO f most) s).2.length<=s.2.length+L.length:=by
  intro L
  induction L with
  | nil=>intro s; exact⟨jF _,jF _⟩
  | cons g L ih =>
    intro s;obtain⟨h1,h2⟩:=ih (oO f most s g)
    have h3:(oO f most s g).1.length<=s.1.length+1∧(oO f most s g).2.length<=s.2.length+1:=by
     unfold oO;split
     .exact⟨Nat.le_succ _,BA⟩
     .grind
    rw[List.foldl_cons,zO];omega
 have h:=this L ([],[]);unfold ZK;simpa using h
def AAL (p:Pr)(m:Mo)(v:Cvr)(most:Int):Int:=if NI p≠0∨F8 m≠0∨PO m v=false∨most<0∨1024<most then 1 else 0
def lJ (s:Bw)(ins:Ex->List Rng->Ex)(p:Pr)(m:Mo)(v:Cvr)(most:Int):List Gl×List Gl:=if AAL p m v most=0 then ZK (fun g=>PX s ins p m (WT g)) most (OD m v) else ([],[])
def AKT (s:Bw)(ins:Ex->List Rng->Ex)(p:Pr)(m:Mo)(v:Cvr)(most:Int):AV:=.tup [.sl (Cov.nm (lJ s ins p m v most).1) 3 ((lJ s ins p m v most).1.map Cov.encH),.sl (Cov.nm (lJ s ins p m v most).2) 3 ((lJ s ins p m v most).2.map Cov.encH),.n (AAL p m v most)]
def AKS (s:Bw)(ins:Ex->List Rng->Ex)(p:Pr)(m:Mo)(v:Cvr)(most:Int):AV:=.tup [fzG 3 Cov.encH (lJ s ins p m v most).1,fzG 3 Cov.encH (lJ s ins p m v most).2,.n (AAL p m v most)]
theorem AT7 (s:Bw)(ins:Ex->List Rng->Ex)(p:Pr)(m:Mo)(v:Cvr)(most:Int):CvR (AKS s ins p m v most) (AKT s ins p m v most):=CvR.tup (CvRL.cons X3 (CvRL.cons X3 (CvRL.cons (CvR.refl _) CvRL.nil)))
theorem XM {s:Bw}{ins:Ex->List Rng->Ex}{most:Int}(h:NI p≠0∨F8 m≠0∨PO m v=false∨most<0∨1024<most):AKS s ins p m v most=.tup [.sl .nil 0 [],.sl .nil 0 [],.n 1]:=by
 have e:AAL p m v most=1:=by unfold AAL; rw[if_pos h]
 unfold AKS lJ;rw[e,if_neg D5]; rfl
theorem AT6 {s:Bw}{ins:Ex->List Rng->Ex}{most:Int}(h:¬(NI p≠0∨F8 m≠0∨PO m v=false∨most<0∨1024<most)):AKS s ins p m v most=.tup [fzG 3 Cov.encH (ZK (fun g=>PX s ins p m (WT g)) most (OD m v)).1,fzG 3 Cov.encH (ZK (fun g=>PX s ins p m (WT g)) most (OD m v)).2,.n 0]:=by
 have e:AAL p m v most=0:=by unfold AAL; rw[if_neg h]
 unfold AKS lJ;rw[e,if_pos rfl]
theorem A7N (h:Hp):GM jA h 34=some (.ptr h.length 0 0,h++[zZ 3 [[.bool false,.n 0,.sl .nil 0 []]]]):=FV (row:=[.bool false,.n 0,.sl .nil 0 []]) A8
theorem A6K (h:Hp)(x:Hl):DW jA (h++[zZ 3 [[.bool false,.n 0,.sl .nil 0 []]]]) 34 (.ptr h.length 0 0) (.agg (FQ x))=some (h++[zZ 3 [FQ x]]):=by
 rw[I9 (cs:=FQ x) (row:=[.bool false,.n 0,.sl .nil 0 []]) rfl tW (A7 _ _) (jF 3),KC]; rfl
theorem AYL (h:Hp)(x:Hl):C9 jA false h 49 1 [(0,.agg (FQ x))]=some (.sl .full 3 [FQ x],h):=A8
section
variable (G:Nat->AV)
theorem AXB (hG:GOk G)(p:Pr)(hs:PrS p)(hb:Sm51 p)(m:Mo)(hm:MoOk m)(v:Cvr)(most:Int)(hF:∀h,PCall (En G) 55 [.agg (DJ m),.agg (Cov.encV v)] h (.bool (PO m v)))(hH:∀h,PCall (En G) 21 [.agg (DJ m),.agg (Cov.encV v)] h (.sl (Cov.nm (OD m v)) 3 ((OD m v).map Cov.encH)))(h:Hp):PCall (En G) 17 [.agg (DL p),.agg (DJ m),.agg (Cov.encV v),.n most] h (AKT sdP EI p m v most):=by
 refine PCall.res ?_ (AT7 sdP EI p m v most);refine ACalls.pure (R:=fun u H=>Sm.ext h H∧FN h.length H 3 u=AKS sdP EI p m v most) 3 ?_ (fun v H ⟨a,b⟩=>⟨a,b⟩);refine acL Tryz.func17 [.tmp 8,.tmp 9,.tmp 10] ?_;have gp:=AL (x:=zZ 4 [Cov.encV v]) (AL (x:=zZ 2 [DJ m]) (A7 h (zZ 5 [DL p])));have gm:=AL (x:=zZ 4 [Cov.encV v]) (A7 (h++[zZ 5 [DL p]]) (zZ 2 [DJ m]));have gv:=A7 (h++[zZ 5 [DL p]]++[zZ 2 [DJ m]]) (zZ 4 [Cov.encV v]);have hx:Sm.ext h (h++[zZ 5 [DL p]]++[zZ 2 [DJ m]]++[zZ 4 [Cov.encV v]]):=(((ext.rfl' h).app _).app _).app _;refine DT @YH @bxM @Cov.bxV ?_
 generalize h++[zZ 5 [DL p]]++[zZ 2 [DJ m]]++[zZ 4 [Cov.encV v]]=H0 at gp gm gv hx|-
 generalize (h++[zZ 5 [DL p]]++[zZ 2 [DJ m]]).length=vb at gv|-
 generalize (h++[zZ 5 [DL p]]).length=mb at gm|-
 refine BC (oX gp) ?_;refine(Bd.valid_prog G hG p hs H0).use ?_;cases b1:(NI p != 0)
 case true =>
  have q:NI p≠0:=BN b1;refine BC b1 ?_;exact⟨hx,by rw[XM (.inl q)]; rfl⟩
 have q1:NI p=0:=BN b1;refine BB b1 (ldM gm) ?_;refine(QF G hG m hm H0).use ?_;cases b2:(F8 m != 0)
 case true =>
  have q:F8 m≠0:=BN b2;refine BB b1 b2 ?_;exact⟨hx,by rw[XM (.inr (.inl q))]; rfl⟩
 have q2:F8 m=0:=BN b2;refine E8 b1 b2 (ldM gm) (Cov.ldV gv) ?_;refine(hF H0).use ?_;cases b3:PO m v
 case false =>
  refine DT b1 b2 b3 ?_;exact⟨hx,by rw[XM (.inr (.inr (.inl b3)))]; rfl⟩
 refine DT b1 b2 b3 ?_;cases b4:decide (most<0)
 case true =>
  refine E8 b1 b2 b3 b4 ?_;exact⟨hx,by rw[XM (.inr (.inr (.inr (.inl (of_decide_eq_true b4)))))]; rfl⟩
 refine BC b4 ?_;cases b5:decide (most>1024)
 case true =>
  refine I7 b1 b2 b3 b4 b5 ?_;exact⟨hx,by rw[XM (.inr (.inr (.inr (.inr (of_decide_eq_true b5)))))]; rfl⟩
 have hok:=AT6 (s:=sdP) (ins:=EI) (p:=p) (m:=m) (v:=v) (most:=most) (by
  have:=of_decide_eq_false b4; have:=of_decide_eq_false b5;rintro (q|q|q|q|q)
  .exact q q1
  .exact q q2
  .rw[b3] at q; cases q
  .omega
  .omega)
 refine P7 b1 b2 b3 b4 b5 (ldM gm) (Cov.ldV gv) ?_;refine(hH H0).use ?_;have hbin:=AU4 (v:=v) hm;have hln:=A0C m v;rw[hok]
 generalize OD m v=L at hbin hln|-
 have hpl:∀k,(ZK (fun g=>PX sdP EI p m (WT g)) most (L.take k)).1.length<=8192∧(ZK (fun g=>PX sdP EI p m (WT g)) most (L.take k)).2.length<=8192:=fun k=>by
  have h1:=AOY (fun g=>PX sdP EI p m (WT g)) most (L.take k);have:(L.take k).length<=L.length:=by rw[List.length_take]; omega
  omega
 generalize hf:(fun g=>PX sdP EI p m (WT g))=f at hpl|-
 have hfx:∀g,PX sdP EI p m (WT g)=f g:=fun g=>by rw[<-hf]
 refine AO ?_
 refine BI (fun n F H=>∃k v1 v2,n+k=L.length∧F 3=.n most∧F 4=.ptr h.length 0 0∧F 5=.ptr mb 0 0∧F 11=v1∧F 12=v2∧F 41=.sl (Cov.nm L) 3 (L.map Cov.encH)∧F 42=.n (L.length:Nat)∧F 43=.n (k:Nat)∧Sm.ext H0 H∧outG 3 Cov.encH H0 (ZK f most (L.take k)).1 v1 H∧outG 3 Cov.encH H0 (ZK f most (L.take k)).2 v2 H∧∀b,isB v1 b->¬isB v2 b) L.length
  ⟨0,.sl .nil 0 [],.sl .nil 0 [],BA,AQ,AQ,AQ,AQ,AQ,AQ,AQ,AQ,ext.rfl' _,outG.nil _ _ _ _,outG.nil _ _ _ _,fun b q=>q.elim⟩ ?_
 rintro n F H ⟨k,v1,v2,hk,f3,f4,f5,f11,f12,f41,f42,f43,hxH,o1,o2,sep⟩;refine BB f42 f43 ?_;refine D8 ?_ ?_<;>intro hk'
 .have hme:=jH hk'
  have hpk:=hpl k;have hst:ZK f most (L.take (k+1))=oO f most (ZK f most (L.take k)) L[k]:=by rw[jY hk',AKU]
  unfold oO at hst;have lr:BU jA H 34 (.fptr 3 (L.map Cov.encH) k 0)=some (.agg (FQ (WT L[k]))):=by rw[DR A1H tW (f:=Cov.encH) (fun g=>rfl) hk']; rfl
  have hx1:=hxH.app [zZ 3 [FQ (WT L[k])]];have o1:=o1.app [zZ 3 [FQ (WT L[k])]];have o2:=o2.app [zZ 3 [FQ (WT L[k])]];have gg:=A7 H (zZ 3 [FQ (WT L[k])]);refine P7 A3E f41 f43 hk' lr A7N A6K ?_
  generalize H++[zZ 3 [FQ (WT L[k])]]=H1 at hx1 o1 o2 gg|-
  generalize H.length=gb at gg|-
  refine I7 f4 f5 (oX (ED hx1 gp)) (ldM (ED hx1 gm)) (ldH gg) ?_;refine(bN G hG p hs hb m hm (WT L[k]) (hbin _ hme) H1).use ?_;unfold AKO;rw[hfx];generalize ZK f most (L.take k)=s at o1 o2 hpk hst;cases c1:(f L[k]==11)
  .have n1:f L[k]≠11:=BN c1
   rw[if_neg n1] at hst;cases c2:(f L[k]==0)
   .have n2:f L[k]≠0:=BN c2
    rw[if_neg (fun q=>n2 q.1)] at hst;refine E8 c1 c2 f43 (DF k) ?_;exact⟨n-1,U,k+1,v1,v2,U,AZ,AZ,AZ,AZ,AZ,AZ,AZ,AZ,hx1,by rw[hst]; exact o1,by rw[hst]; exact o2,sep⟩
   .have n2:f L[k]=0:=BN c2
    cases c3:decide (((s.1.length:Nat):Int)<most)
    .rw[if_neg (fun q=>of_decide_eq_false c3 q.2)] at hst
     refine PG c1 c2 f3 f11 (o1.len APH) c3 f43 (DF k) ?_;exact⟨n-1,U,k+1,v1,v2,U,AZ,AZ,AZ,AZ,AZ,AZ,AZ,AZ,hx1,by rw[hst]; exact o1,by rw[hst]; exact o2,sep⟩
    .rw[if_pos ⟨n2,of_decide_eq_true c3⟩] at hst
     obtain⟨v',H',a1,a2,a3,a4,_,a5⟩:=o1.append (P:=jA) ATK tW ATB A08 U U hx1 L[k];change EG jA true H1 49 49 v1 (.sl .full 3 [FQ (WT L[k])])=_ at a1;refine bS c1 c2 f3 f11 (o1.len APH) c3 (ldH gg) @AYL a1 f43 (DF k) ?_;exact⟨n-1,U,k+1,v',v2,U,AZ,AZ,AZ,AZ,AZ,AZ,AZ,AZ,a4,by rw[hst]; exact a2,by rw[hst]; exact o2.keepA a3 (fun b q1 q2=>sep b q2 q1),fun b q1 q2=>by have:=a5 b q1; have:=(o2.lt q2).2; omega⟩
  .have n1:f L[k]=11:=BN c1
   rw[if_pos n1] at hst;obtain⟨v',H',a1,a2,a3,a4,_,a5⟩:=o2.append (P:=jA) ATK tW ATB A08 U U hx1 L[k];change EG jA true H1 49 49 v2 (.sl .full 3 [FQ (WT L[k])])=_ at a1;refine P7 c1 f12 (ldH gg) @AYL a1 f43 (DF k) ?_;exact⟨n-1,U,k+1,v1,v',U,AZ,AZ,AZ,AZ,AZ,AZ,AZ,AZ,a4,by rw[hst]; exact o1.keepA a3 (fun b q1 q2=>sep b q1 q2),by rw[hst]; exact a2,fun b q1 q2=>by have:=a5 b q2; have:=(o1.lt q1).2; omega⟩
 .rw[List.take_of_length_le U] at o1 o2
  refine BB f11 f12 ?_;refine⟨hx.trans hxH,?_⟩;have hle:=hx.le;show AV.tup [FN h.length H 2 v1,FN h.length H 2 v2,_]=_;rw[KP Cov.frzH o1 h.length 0 U,KP Cov.frzH o2 h.length 0 U]; rfl
end
theorem qD {p:Pr}(P:PV p):∀k,k<=p.vars.length->0<=OQ (p.vars.take k)∧oM p.vars k=2^(OQ (p.vars.take k)).toNat
 | 0,_=>⟨Int.le_refl 0,rfl⟩
 | k+1,h=>by
   have hk:k<p.vars.length:=U;obtain⟨i0,ih⟩:=qD P k U;obtain⟨_,w1,_⟩:=WZ (P.vr _ (jH hk));rw[jY hk]
   have e:OQ (p.vars.take k++[p.vars[k]])=OQ (p.vars.take k)+if p.vars[k].mode=0 then 0 else p.vars[k].width:=by
    unfold OQ;rw[List.map_append,List.sum_append]; simp
   rw[e];simp only[oM,List.getElem?_eq_getElem hk];by_cases hm:p.vars[k].mode=0
   .rw[if_pos hm,if_pos hm,Int.add_zero]; exact⟨i0,ih⟩
   .rw[if_neg hm,if_neg hm,ih,<-Nat.pow_add]
    exact⟨U,by congr 1; omega⟩
def Fw (p:Pr)(n:Int):Prop:=p.hard.length<=20∧p.dists.length<=20∧(NI p=0->OQ p.vars<=n)
theorem Fw.sm {n:Int}(h:Fw p n)(hn:n<=18):Sm51 p:=by
 refine⟨by have:=h.1; omega,by have:=h.2.1; omega,fun hv=>?_⟩;have P:=PV.of hv;obtain⟨h0,h1⟩:=qD P p.vars.length (jF _);rw[List.take_length] at h0 h1;have hb:=h.2.2 hv;unfold lft;rw[h1];have:(2:Nat)^(OQ p.vars).toNat<=2^18:=Nat.pow_le_pow_right D5 U;have e:(2:Nat)^18=262144:=rfl;omega
section
variable (G:Nat->AV)
theorem AK1 (e:Ex):(pre e).length<=1048576->∀(d:Int),0<=d->d<=100->∀h:Hp,QCall (En G) 74 [.agg (AU e),.n d] h (fun v=>∃z:Int,v=.n z∧1<=z∧z<=((pre e).length:Int)):=by
 induction e using Ex.induct with|h e ih=>?_
 intro hw d d0 d1 h;have hpl:=congrArg qK (pre_eq e);rw[zO] at hpl;have hal:e.args.length<=1048576:=by have:=lG e.args; omega
 refine ACalls.pureQ (R:=fun v H=>Sm.ext h H∧∃z:Int,v=.n z∧1<=z∧z<=((pre e).length:Int)) 1 ?_ (fun v H ⟨a,z,b,c⟩=>⟨a,z,by rw[b]; rfl,c⟩);refine acT Tryz.func74 4 ?_;have ge:=A7 h (zZ 4 [AU e]);have hx:=Sm.ext.r1 h (zZ 4 [AU e]);refine BC @bxE ?_
 generalize h++[zZ 4 [AU e]]=H1 at ge hx|-
 generalize h.length=eb at ge|-
 refine BI (fun n F H=>∃(j:Nat) (z:Int),n+j=e.args.length∧F 1=.n d∧F 2=.ptr eb 0 0∧F 5=.n z∧F 6=.n (j:Nat)∧H=H1∧1<=z∧z<=1+((GH (e.args.take j)).length:Int)) e.args.length
  ⟨0,1,BA,AQ,AQ,AQ,AQ,rfl,U,by simp [GH]⟩ ?_
 rintro n F H ⟨j,z,hj,f1,f2,f5,f6,rfl,z1,z2⟩
 have hpj:(GH (e.args.take j)).length<=(GH e.args).length:=by
  have:GH e.args=GH (e.args.take j)++GH (e.args.drop j):=by rw[<-QW,List.take_append_drop]
  rw[this,zA]; omega
 have fin:(1<=z∧z<=((pre e).length:Int)):=U;refine DT f2 f6 (UR ge) ?_;cases hc:decide (((j:Nat):Int)<((e.args.length:Nat):Int))
 .refine BB hc f5 ?_
  exact⟨hx,z,AZ,fin⟩
 have hj':j<e.args.length:=by have:=of_decide_eq_true hc; omega
 refine BB hc f5 ?_;cases hz:decide (z<100)
 .refine DT hc hz f5 ?_
  exact⟨hx,z,AZ,fin⟩
 refine BB hz f1 ?_;cases hd:decide (d<30)
 .refine E8 hc hz hd f5 ?_
  exact⟨hx,z,AZ,fin⟩
 have hmem:e.args[j]∈e.args:=jH hj';have hpa:(pre e.args[j]).length<=1048576:=by have:=XL hmem; omega
 have w1:IntKind.i64.wrap (d+1)=d+1:=wrap_i64 U U;have hdl:=of_decide_eq_true hd;simp -implicitDefEqProofs only[vQ,NS,CV,↓reduceIte,jB,enP,RN,X8,hc,hz,hd,f1,f2,f5,f6,UR ge,CQ hj',DR O5 JL EP hj',w1];refine(ih e.args[j] hmem hpa (d+1) U U H).use ?_;rintro r ⟨y,rfl,y1,y2⟩;have w2:IntKind.i64.wrap (z+y)=z+y:=wrap_i64 U U;refine DT f6 w2 (DF j) ?_;refine⟨n-1,U,j+1,z+y,U,AZ,AZ,AZ,AZ,AZ,U,?_⟩;rw[QD _ _ hj',zA]; omega
theorem AMN (e:Ex):(pre e).length<=1048576->∀(d:Int),0<=d->d<=100->∀h:Hp,Rk.SomeB (En G) 35 [.agg (AU e),.n d] h:=by
 induction e using Ex.induct with|h e ih=>?_
 intro hw d d0 d1 h;have hpl:=congrArg qK (pre_eq e);rw[zO] at hpl;have hal:e.args.length<=1048576:=by have:=lG e.args; omega
 refine Rk.SomeB.of ?_;refine acT Tryz.func35 4 ?_;have ge:=A7 h (zZ 4 [AU e]);have hx:=Sm.ext.r1 h (zZ 4 [AU e]);refine BC @bxE ?_
 generalize h++[zZ 4 [AU e]]=H1 at ge hx|-
 generalize h.length=eb at ge|-
 cases hd:decide (d>25)
 rotate_left
 .refine BC hd ?_
  exact⟨⟨_,AZ⟩,hx⟩
 have hdl:=of_decide_eq_false hd;refine BC hd ?_;refine UW (fun F H=>F 1=.n d∧F 2=.ptr eb 0 0∧(∃b,F 16=.bool b)∧H=H1) ?_ ?_
 .cases h0:(d==0)
  .refine BB hd h0 ?_
   exact⟨AZ,AZ,⟨_,AZ⟩,AZ⟩
  .refine DT hd h0 (JI ge) ?_
   refine(AK1 G e hw 0 U U H1).use ?_;rintro r ⟨y,rfl,y1,y2⟩;refine BB hd h0 ?_;exact⟨AZ,AZ,⟨_,AZ⟩,AZ⟩
 rintro F H ⟨f1,f2,⟨b,f16⟩,rfl⟩;refine BC f16 ?_;refine CE ?_ ?_<;>intro hb
 .refine AO ?_
  exact⟨⟨_,AZ⟩,hx⟩
 refine AO ?_
 refine BI (fun n F H'=>∃(j:Nat),n+j=e.args.length∧F 1=.n d∧F 2=.ptr eb 0 0∧F 5=.n (j:Nat)∧H'=H) e.args.length
  ⟨0,BA,EM f1,EM f2,AQ,rfl⟩ ?_
 clear f1 f2 f16;rintro n F H ⟨j,hj,f1,f2,f5,rfl⟩;refine DT f2 f5 (UR ge) ?_;refine CE ?_ ?_<;>intro hc
 .have hj':j<e.args.length:=BN hc
  have hmem:e.args[j]∈e.args:=jH hj';have w1:IntKind.i64.wrap (d+1)=d+1:=wrap_i64 U U;simp -implicitDefEqProofs only[vQ,CV,↓reduceIte,jB,enP,RN,X8,f1,f2,f5,UR ge,CQ hj',DR O5 JL EP hj',w1];refine(ih e.args[j] hmem (by have:=XL hmem; omega) (d+1) U U H).use fun b=>?_
  refine AO ?_;refine CE ?_ ?_<;>intro hb
  .refine AO ?_
   exact⟨⟨_,AZ⟩,hx⟩
  .refine BB f5 (DF j) ?_
   exact⟨n-1,U,j+1,U,AZ,AZ,AZ,AZ⟩
 .refine AO ?_
  exact⟨⟨_,AZ⟩,hx⟩
end
section
variable (G:Nat->AV)
theorem AJ7 (l:List Rs)(s:SM)(hl:l.length<=1048576)(h:Hp):Rk.SomeB (En G) 36 [.sl s 1 (l.map encS)] h:=by
 refine Rk.SomeB.of ?_;refine acT Tryz.func36 2 ?_;refine AO ?_;refine BI (fun n F H'=>∃j,n+j=l.length∧F 0=.sl s 1 (l.map encS)∧F 3=.n (j:Nat)∧H'=h) l.length ⟨0,BA,AQ,AQ,rfl⟩ ?_;rintro n F H ⟨j,hj,f0,f3,rfl⟩;refine BB f0 f3 ?_;refine CE ?_ ?_<;>intro hc
 .have hj':j<l.length:=BN hc
  simp -implicitDefEqProofs only[vQ,CV,↓reduceIte,jB,enP,XR,pA,f0,f3,CQ hj',CG QI hj',gU,jJ];refine CE ?_ ?_<;>intro hb
  .refine AO ?_
   exact⟨⟨_,AZ⟩,ext.rfl' _⟩
  .refine BB f3 (DF j) ?_
   exact⟨n-1,U,j+1,U,AZ,AZ,AZ⟩
 .refine AO ?_
  exact⟨⟨_,AZ⟩,ext.rfl' _⟩
theorem AUQ (m:Mo)(hm:MoOk m)(h:Hp):QCall (En G) 10 [.agg (DJ m)] h (fun v=>∃b,v=.bool b∧(b=true->m.pts.length<=4∧m.crs.length<=3)):=by
 refine ACalls.pureQ (R:=fun v H=>Sm.ext h H∧∃b,v=.bool b∧(b=true->m.pts.length<=4∧m.crs.length<=3)) 1 ?_ (fun v H ⟨a,b,c,d⟩=>⟨a,b,by rw[c]; rfl,d⟩);refine acT Tryz.func10 2 ?_;have gm:=A7 h (zZ 2 [DJ m]);have hx:=Sm.ext.r1 h (zZ 2 [DJ m]);have np:=hm.np;have nc:=hm.nc;refine BC @bxM ?_
 generalize h++[zZ 2 [DJ m]]=H0 at gm hx|-
 refine ET 0 (fun F H=>F 1=.ptr h.length 0 0∧Sm.ext H0 H) (fun F H=>F 2=.bool false∧Sm.ext H0 H) ?_ ?_ (fun F H ⟨f2,e⟩=>by refine BC f2 ?_; exact⟨hx.trans e,false,AZ,fun q=>by cases q⟩)
 .refine BI (fun n F H=>∃k,n+k=m.pts.length∧F 1=.ptr h.length 0 0∧F 3=.n (k:Nat)∧Sm.ext H0 H) m.pts.length ⟨0,BA,AQ,AQ,ext.rfl' _⟩ ?_
  rintro n F H ⟨k,hk,f1,f3,he⟩;have gm1:=ED he gm;refine DT f1 f3 (UM gm1) ?_;cases hc:decide (((k:Nat):Int)<((m.pts.length:Nat):Int))
  .refine BC hc ?_
   exact⟨AZ,he⟩
  have hk':k<m.pts.length:=by have:=of_decide_eq_true hc; omega
  have hpo:=hm.pts _ (jH hk');refine BB hc f3 ?_;refine CE ?_ ?_<;>intro hc5
  rotate_left
  .refine AO ?_
   exact⟨AZ,he⟩
  simp -implicitDefEqProofs only[vQ,EJ,CV,↓reduceIte,jB,enP,RJ,KU,cV,KI,f1,f3,UM gm1,CQ hk',CG O4 hk',OO,jJ];cases h6:decide (((m.pts[k].bins.length:Nat):Int)>6)
  rotate_left
  .refine BC h6 ?_
   exact⟨AZ,he⟩
  simp -implicitDefEqProofs only[vQ,EJ,CV,↓reduceIte,jB,enP,RJ,KU,aX,h6,f1,f3,UM gm1,CQ hk',Rk.ldPE hk'];refine(AMN G m.pts[k].ex (by have:=aM m.pts[k].ex; have:=hpo.ex; omega) 0 U U H).use fun b=>?_
  cases b
  .refine BC h6 ?_
   exact⟨AZ,he⟩
  refine BC h6 ?_;refine ET 2 (fun F H'=>F 1=.ptr h.length 0 0∧F 3=.n (k:Nat)∧Sm.ext H0 H') (fun F H'=>F 2=.bool false∧Sm.ext H0 H') ?_ ?_ (fun F H ⟨f2,e⟩=>by refine AO ?_; exact⟨AZ,e⟩)
  .refine BI (fun n F H'=>∃j,n+j=m.pts[k].bins.length∧F 1=.ptr h.length 0 0∧F 3=.n (k:Nat)∧F 4=.n (j:Nat)∧Sm.ext H0 H') m.pts[k].bins.length ⟨0,BA,EM f1,EM f3,AQ,he⟩ ?_
   clear f1 f3 he gm1;rintro n F H ⟨j,hj,f1,f3,f4,he⟩;have gm1:=ED he gm;simp -implicitDefEqProofs only[vQ,CV,↓reduceIte,jB,enP,RJ,KU,cV,KI,f1,f3,f4,UM gm1,CQ hk',CG O4 hk',OO,jJ];refine CE ?_ ?_<;>intro hd
   .have hj':j<m.pts[k].bins.length:=BN hd
    have hbo:=hpo.bins _ (jH hj');have gb:=A7 H (zZ 4 [IP m.pts[k].bins[j]]);have he1:=he.app [zZ 4 [IP m.pts[k].bins[j]]];simp -implicitDefEqProofs only[vQ,CV,↓reduceIte,jB,enP,RJ,KU,XV,KI,AFP,jO,f1,f3,f4,UM gm1,CQ hk',CG O4 hk',OO,CQ hj',DR nY cB LJ hj',Cov.al79,Cov.st79 _ _ [.str ⟨#[]⟩,.n 0,.sl .nil 0 [],.sl .nil 0 []] rfl]
    generalize H++[zZ 4 [IP m.pts[k].bins[j]]]=H1 at gb he1|-
    have b2:BU jA H1 84 (.ptr H.length 0 2)=some (.sl m.pts[k].bins[j].ranges.m 2 (m.pts[k].bins[j].ranges.l.map encR)):=by rw[BL QI gb rfl]; rfl
    have b3:BU jA H1 85 (.ptr H.length 0 3)=some (.sl m.pts[k].bins[j].sm 1 (m.pts[k].bins[j].steps.map encS)):=by rw[BL WH gb rfl]; rfl
    refine BC b2 ?_;cases c1:decide (((m.pts[k].bins[j].ranges.l.length:Nat):Int)>6)
    rotate_left
    .refine BC c1 ?_
     exact⟨AZ,he1⟩
    refine BB c1 b3 ?_;cases c2:decide (((m.pts[k].bins[j].steps.length:Nat):Int)>8)
    rotate_left
    .refine BB c1 c2 ?_
     exact⟨AZ,he1⟩
    have hs8:=of_decide_eq_false c2;refine DT c1 c2 b3 ?_;refine(AJ7 G m.pts[k].bins[j].steps m.pts[k].bins[j].sm U H1).use fun b=>?_
    cases b
    .refine BB c1 c2 ?_
     exact⟨AZ,he1⟩
    .refine E8 c1 c2 f4 (wrap_succ (show j<9223372036854775807 by have:=hpo.num; omega)) ?_
     exact⟨n-1,U,j+1,U,AZ,AZ,AZ,he1⟩
   .refine AO ?_
    exact⟨AZ,AZ,he⟩
  clear f1 f3 he gm1;rintro F H ⟨f1,f3,he⟩;refine BB f3 (DF k) ?_;exact⟨n-1,U,k+1,U,AZ,AZ,he⟩
 rintro F H ⟨f1,he⟩;refine AO ?_;refine ET 4 (fun F H=>F 1=.ptr h.length 0 0∧Sm.ext H0 H) (fun F H=>F 2=.bool false∧Sm.ext H0 H) ?_ ?_ (fun F H ⟨f2,e⟩=>by refine BC f2 ?_; exact⟨hx.trans e,false,AZ,fun q=>by cases q⟩)
 .refine BI (fun n F H=>∃k,n+k=m.crs.length∧F 1=.ptr h.length 0 0∧F 6=.n (k:Nat)∧Sm.ext H0 H) m.crs.length ⟨0,BA,EM f1,AQ,he⟩ ?_
  clear f1 he;rintro n F H ⟨k,hk,f1,f6,he⟩;have gm1:=ED he gm;refine DT f1 f6 (aU gm1) ?_;cases hc:decide (((k:Nat):Int)<((m.crs.length:Nat):Int))
  .refine BC hc ?_
   exact⟨AZ,he⟩
  have hk':k<m.crs.length:=by have:=of_decide_eq_true hc; omega
  refine BB hc f6 ?_;refine CE ?_ ?_<;>intro hc5
  rotate_left
  .refine AO ?_
   exact⟨AZ,he⟩
  simp -implicitDefEqProofs only[vQ,EJ,CV,↓reduceIte,jB,enP,UN,MM,XT,MB,f1,f6,aU gm1,CQ hk',CG O6 hk',UD,jJ];cases h5:decide (((m.crs[k].pts.length:Nat):Int)>5)
  rotate_left
  .refine BC h5 ?_
   exact⟨AZ,he⟩
  simp -implicitDefEqProofs only[vQ,EJ,CV,↓reduceIte,jB,enP,APJ,UN,MM,eY,h5,f1,f6,aU gm1,CQ hk',CG bH hk',ACH,jJ];refine CE ?_ ?_<;>intro hb
  .refine AO ?_
   exact⟨AZ,he⟩
  .refine BB f6 (DF k) ?_
   exact⟨n-1,U,k+1,U,AZ,AZ,he⟩
 clear f1 he;rintro F H ⟨f1,he⟩;have gm1:=ED he gm;refine BB f1 (UM gm1) ?_;cases c1:decide (((m.pts.length:Nat):Int)<=4)
 .refine BC c1 ?_
  exact⟨hx.trans he,false,AZ,fun q=>by cases q⟩
 .refine DT c1 f1 (aU gm1) ?_
  have:=of_decide_eq_true c1;exact⟨hx.trans he,_,rfl,fun q=>⟨U,by have:=of_decide_eq_true q; omega⟩⟩
theorem AK8 (m:Mo)(hm:MoOk m)(h:Hp):Rk.SomeB (En G) 10 [.agg (DJ m)] h :=
 ACalls.mono (AUQ G m hm h) fun _ _ ⟨⟨b,e,_⟩,q⟩=>⟨⟨b,e⟩,q⟩
end
abbrev aN:ByteArray:=⟨#[97]⟩
def AX1:Ex:=.mk 17 0 ⟨#[]⟩ .full [JW aN,cE 3]
def PL:Pr:=⟨.full,[⟨aN,2,1,0⟩],.full,[AX1],.nil,[],.nil,[],.full,[⟨.full,[0]⟩]⟩
abbrev XU:List AV:=[.n 17,.n 0,.str ⟨#[]⟩,.sl .full 4 [OG aN,WV 1 3]]
abbrev lE:List AV:=[.sl .full 4 [[.str aN,.n 2,.n 1,.n 0]],.sl .full 4 [XU],.sl .nil 0 [],.sl .nil 0 [],.sl .full 1 [[.sl .full 1 [[.n 0]]]]]
theorem AO5 {m:SM}{k:Nat}{a a':List AV}(h1:CvRow a a'):Cv (.sl m k [a]) (.sl m k [a']):=Cv.rows rfl fun i r r' e1 e2=>by
 match i,e1,e2 with
 | 0,e1,e2=>cases e1; cases e2; exact h1
 | _+1,e1,_=>cases e1
theorem APL:CvRow XU (AU AX1):=by
 show CvRow XU (AU (.mk 17 0 ⟨#[]⟩ .full [JW aN,cE 3]));rw[AQ8];exact CvRow.cons rfl (Cv.refl _) (CvRow.cons rfl (Cv.refl _) (CvRow.cons rfl (Cv.refl _) (CvRow.cons rfl (AY7 (xZ aN) (AJE 3)) CvRow.nil)))
theorem AOV:CvR (.agg lE) (.agg (DL PL)) :=
 CvR.agg (CvRL.cons (CvR.refl _) (CvRL.cons (CvR.sl (AO5 APL)) (CvRL.cons (CvR.sl (Cv.nil 0 4)) (CvRL.cons (CvR.sl (Cv.nil 0 2)) (CvRL.cons (CvR.refl _) CvRL.nil)))))
def nmN (i:Nat):ByteArray:=⟨#[110,UInt8.ofNat (48+i)]⟩
def AR8 (i:Nat):Bin:=⟨nmN i,0,⟨.full,[⟨i,i⟩]⟩,.nil,[]⟩
def fM (i:Nat):List AV:=[.str (nmN i),.n 0,.sl .full 2 [[.n (i:Nat),.n (i:Nat)]],.sl .nil 0 []]
theorem AWS (i:Nat):CvRow (fM i) (IP (AR8 i)):=CvRow.cons rfl (Cv.refl _) (CvRow.cons rfl (Cv.refl _) (CvRow.cons rfl (Cv.refl _) (CvRow.cons rfl (Cv.nil 0 1) CvRow.nil)))
theorem A3R:Frz fM:=fun _ _ _ _=>⟨rfl,rfl⟩
def RZ:Mo:=⟨.any,[⟨aN,JW aN,.any,(zL 4).map AR8⟩],.nil,[]⟩
abbrev AZ3:List AV:=[.sl .any 6 [[.str aN,.n 2,.n 0,.str aN,.sl .nil 0 [],.sl .any 4 ((zL 4).map fM)]],.sl .nil 0 []]
theorem AUM:CvR (.agg AZ3) (.agg (DJ RZ)):=by
 have hb:Cv (.sl .any 4 ((zL 4).map fM)) (.sl .any 4 (((zL 4).map AR8).map IP)):=by
  rw[List.map_map]; exact Cv.map fun i _=>AWS i
 have hp:CvRow [.str aN,.n 2,.n 0,.str aN,.sl .nil 0 [],.sl .any 4 ((zL 4).map fM)] (FY ⟨aN,JW aN,.any,(zL 4).map AR8⟩):=by
  unfold FY;rw[EW];exact CvRow.cons rfl (Cv.refl _) (CvRow.cons rfl (Cv.refl _) (CvRow.cons rfl (Cv.refl _) (CvRow.cons rfl (Cv.refl _) (CvRow.cons rfl (Cv.nil 0 4) (CvRow.cons rfl hb CvRow.nil)))))
 exact CvR.agg (CvRL.cons (CvR.sl (AO5 hp)) (CvRL.cons (CvR.sl (Cv.nil 0 3)) CvRL.nil))
def hol (i:Int):Hl:=⟨false,0,.full,[i]⟩
theorem A1V:PX sdP EI PL RZ (hol 2)=0∧AKP sdP EI PL RZ (hol 2)=[[2]]:=by decide +kernel
theorem A57:PX sdP EI PL RZ (hol 3)=11:=by decide +kernel
theorem uK:PrS PL:=⟨by decide +kernel,by decide +kernel,by decide +kernel,by decide +kernel,by decide +kernel,by decide +kernel,by decide +kernel,by decide +kernel⟩
theorem uL:Sm51 PL:=Fw.sm (n:=10) (by unfold Fw; decide +kernel) D5
theorem iU:MoOk RZ:=⟨by decide +kernel,by decide +kernel,fun p hp=>by
 rw[wI.1 hp];refine⟨by decide +kernel,by decide +kernel,by decide +kernel,fun b hb=>?_⟩;obtain⟨i,hi,rfl⟩:=List.mem_map.1 hb
 exact⟨jC rfl,jC rfl,jC rfl,fun l hl=>by
  have:l=⟨.full,[⟨i,i⟩]⟩:=by simpa [sets,AR8] using hl
  rw[this]; exact jC rfl⟩,fun c hc=>by cases hc⟩
theorem A7P (h:Hp):GM jA h 27=some (.ptr h.length 0 0,h++[zZ 5 [[.sl .nil 0 [],.sl .nil 0 [],.sl .nil 0 [],.sl .nil 0 [],.sl .nil 0 []]]]):=FV (row:=[.sl .nil 0 [],.sl .nil 0 [],.sl .nil 0 [],.sl .nil 0 [],.sl .nil 0 []]) A8
theorem A7O (h:Hp):GM jA h 31=some (.ptr h.length 0 0,h++[zZ 2 [[.sl .nil 0 [],.sl .nil 0 []]]]):=FV (row:=[.sl .nil 0 [],.sl .nil 0 []]) A8
abbrev ptZ:List AV:=[.str ⟨#[]⟩,.n 0,.n 0,.str ⟨#[]⟩,.sl .nil 0 [],.sl .nil 0 []]
abbrev ptW (v:AV):List AV:=[.str aN,.n 2,.n 0,.str aN,.sl .nil 0 [],v]
abbrev nms:List AV:=[.str (nmN 0),.str (nmN 1),.str (nmN 2),.str (nmN 3)]
theorem A48 (h:Hp):GM jA h 82=some (.ptr h.length 0 0,h++[zZ 6 [ptZ]]):=FV (row:=ptZ) A8
theorem A5F (h:Hp):GM jA h 143=some (.ptr h.length 0 0,h++[zZ 4 [[.str ⟨#[]⟩,.str ⟨#[]⟩,.str ⟨#[]⟩,.str ⟨#[]⟩]]]):=FV (row:=[.str ⟨#[]⟩,.str ⟨#[]⟩,.str ⟨#[]⟩,.str ⟨#[]⟩]) A8
section
variable (G:Nat->AV)
theorem XK (h:Hp):PCall (En G) 37 [] h (.agg (DL PL)):=by
 refine PCall.res (r:=.agg lE) ?_ AOV;refine XJ 3 (fun n H=>rfl) ?_;refine acL Tryz.func37 [.cell 0 27] ?_;have g0:=AL (x:=zZ 4 [XU]) (AL (x:=zZ 4 [OG aN]) (A7 h (zZ 5 [[.sl .nil 0 [],.sl .nil 0 [],.sl .nil 0 [],.sl .nil 0 [],.sl .nil 0 []]])));have g1:=A7 (h++[zZ 5 [[.sl .nil 0 [],.sl .nil 0 [],.sl .nil 0 [],.sl .nil 0 [],.sl .nil 0 []]]]) (zZ 4 [OG aN]);have g2:=A7 (h++[zZ 5 [[.sl .nil 0 [],.sl .nil 0 [],.sl .nil 0 [],.sl .nil 0 [],.sl .nil 0 []]]]++[zZ 4 [OG aN]]) (zZ 4 [XU]);have hx:Sm.ext h (h++[zZ 5 [[.sl .nil 0 [],.sl .nil 0 [],.sl .nil 0 [],.sl .nil 0 [],.sl .nil 0 []]]]++[zZ 4 [OG aN]]++[zZ 4 [XU]]):=(((ext.rfl' h).app _).app _).app _;have rV:R4 (OG aN):=⟨_,_,_,_,_,_,rfl⟩;have rL:R4 XU:=⟨_,_,_,_,_,_,rfl⟩;have b131:G7 jA 131 [(0,.str aN),(1,.n 2),(2,.n 1)]=some (.agg [.str aN,.n 2,.n 1,.n 0]):=A8;have s22:∀H:Hp,C9 jA false H 22 1 [(0,.agg [.str aN,.n 2,.n 1,.n 0])]=some (.sl .full 4 [[.str aN,.n 2,.n 1,.n 0]],H):=fun H=>A8
 have s23:∀H:Hp,C9 jA false H 23 1 [(0,.agg XU)]=some (.sl .full 4 [XU],H):=fun H=>A8
 have s25:∀H:Hp,C9 jA false H 25 1 [(0,.sl .full 1 [Bins.qencI 0])]=some (.sl .full 1 [[.sl .full 1 [[.n 0]]]],H):=fun H=>A8
 have b27:G7 jA 27 [(0,.sl .full 4 [[.str aN,.n 2,.n 1,.n 0]]),(1,.sl .full 4 [XU]),(4,.sl .full 1 [[.sl .full 1 [[.n 0]]]])]=some (.agg lE):=A8;simp -implicitDefEqProofs only[vQ,CV,bG,LD,↓reduceIte,jB,enP,jO,A7P,AWV,al79,AN9 _ rV,KE g1 rfl,ADE,A7G _ rV (⟨_,_,_,_,_,_,rfl⟩:R4 (WV 1 3)),A4U,AN9 _ rL]
 generalize h++[zZ 5 [[.sl .nil 0 [],.sl .nil 0 [],.sl .nil 0 [],.sl .nil 0 [],.sl .nil 0 []]]]++[zZ 4 [OG aN]]++[zZ 4 [XU]]=H at g0 g2 hx|-
 have s27:DW jA H 27 (.ptr h.length 0 0) (.agg lE)=some (H.set h.length (zZ 5 [lE])):=by
  rw[I9 (cs:=lE) rfl iA g0 (jF 5)]; rfl
 refine PG b131 s22 (KE g2 rfl) s23 @bsI s25 b27 s27 ?_;rw[JO (b:=h.length) (x:=.agg lE) AQ (by rw[EH oA iA (CP g0) rfl (jF 5)]; rfl)];exact⟨rfl,hx.set (jF _) _⟩
theorem A3G (H:Hp)(b:Nat):∀k:Nat,k<4->EQ jA H 143 (.ptr b 0 0) (.n (k:Nat))=some (.ptr b 0 k)
 | 0,_=>A8
 | 1,_=>A8
 | 2,_=>A8
 | 3,_=>A8
 | k+4,h=>absurd h U
theorem AZ1:∀k:Nat,k<4->nms[k]?=some (.str (nmN k))
 | 0,_=>rfl
 | 1,_=>rfl
 | 2,_=>rfl
 | 3,_=>rfl
 | k+4,h=>absurd h U
theorem A6B:Tryz.prog.underlying 80=some (.slice 87):=A8
theorem A56:RD jA 87=some 4:=A8
theorem A68:KG jA 87=some 72:=A8
theorem Y3 (h:Hp):PCall (En G) 38 [] h (.agg (DJ RZ)):=by
 refine PCall.res (r:=.agg AZ3) ?_ AUM;refine ACalls.pure (R:=fun v H=>Sm.ext h H∧FN h.length H 5 v=.agg AZ3) 5 ?_ (fun v H ⟨a,b⟩=>⟨a,b⟩);refine H6 (H:=hint [22,25] []) (enM G) Tryz.func38 rfl (by kernel_rfl) (by kernel_rfl) (jC (by kernel_rfl)) ?_;show awp _ _ _ _ _ (LU _ [.cell 0 31] _);have g0:=AL (x:=zZ 4 [nms]) (AL (x:=zZ 6 [ptW (.sl .nil 0 [])]) (A7 h (zZ 2 [[.sl .nil 0 [],.sl .nil 0 []]])));have g1:=AL (x:=zZ 4 [nms]) (A7 (h++[zZ 2 [[.sl .nil 0 [],.sl .nil 0 []]]]) (zZ 6 [ptW (.sl .nil 0 [])]));have g2:=A7 (h++[zZ 2 [[.sl .nil 0 [],.sl .nil 0 []]]]++[zZ 6 [ptW (.sl .nil 0 [])]]) (zZ 4 [nms]);have hx:Sm.ext h (h++[zZ 2 [[.sl .nil 0 [],.sl .nil 0 []]]]++[zZ 6 [ptW (.sl .nil 0 [])]]++[zZ 4 [nms]]):=(((ext.rfl' h).app _).app _).app _;have e1:(h++[zZ 2 [[.sl .nil 0 [],.sl .nil 0 []]]]).length=h.length+1:=BA;have e2:(h++[zZ 2 [[.sl .nil 0 [],.sl .nil 0 []]]]++[zZ 6 [ptW (.sl .nil 0 [])]]).length=h.length+2:=BA;have b82:G7 jA 82 [(0,.str aN),(1,.agg (OG aN))]=some (.agg (ptW (.sl .nil 0 []))):=A8
 have s82:∀H:Hp,DW jA (H++[zZ 6 [ptZ]]) 82 (.ptr H.length 0 0) (.agg (ptW (.sl .nil 0 [])))=some (H++[zZ 6 [ptW (.sl .nil 0 [])]]):=fun H=>by
  rw[I9 (cs:=ptW (.sl .nil 0 [])) (row:=ptZ) rfl ZI (A7 _ _) (jF 6),KC]; rfl
 have b143:G7 jA 143 [(0,.str ⟨#[110,48]⟩),(1,.str ⟨#[110,49]⟩),(2,.str ⟨#[110,50]⟩),(3,.str ⟨#[110,51]⟩)]=some (.agg nms):=A8
 have s143:∀H:Hp,DW jA (H++[zZ 4 [[.str ⟨#[]⟩,.str ⟨#[]⟩,.str ⟨#[]⟩,.str ⟨#[]⟩]]]) 143 (.ptr H.length 0 0) (.agg nms)=some (H++[zZ 4 [nms]]):=fun H=>by
  rw[I9 (cs:=nms) (row:=[.str ⟨#[]⟩,.str ⟨#[]⟩,.str ⟨#[]⟩,.str ⟨#[]⟩]) rfl A16 (A7 _ _) (jF 4),KC]; rfl
 refine PG A7O @AWV b82 @A48 s82 b143 A5F s143 ?_
 rw[e1] at g1|-
 rw[e2] at g2|-
 generalize h++[zZ 2 [[.sl .nil 0 [],.sl .nil 0 []]]]++[zZ 6 [ptW (.sl .nil 0 [])]]++[zZ 4 [nms]]=H0 at g0 g1 g2 hx|-
 have l2:=AC g2;clear e1 e2
 refine BI (fun n F H=>∃k v,n+k=4∧F 0=.ptr h.length 0 0∧F 1=.ptr (h.length+1) 0 0∧F 2=.ptr (h.length+2) 0 0∧F 3=.n (k:Nat)∧H[h.length]?=some (zZ 2 [[.sl .nil 0 [],.sl .nil 0 []]])∧H[h.length+1]?=some (zZ 6 [ptW v])∧H[h.length+2]?=some (zZ 4 [nms])∧Sm.ext h H∧outG 4 fM h (zL k) v H∧∀b,isB v b->h.length+2<b) 4
  ⟨0,.sl .nil 0 [],U,AQ,AQ,AQ,AQ,g0,g1,g2,hx,outG.nil _ _ _ _,fun b q=>q.elim⟩ ?_
 clear g0 g1 g2 hx;rintro n F H ⟨k,v,hk,f0,f1,f2,f3,g0,g1,g2,hx,ho,sep⟩;have e5:BU jA H 80 (.ptr (h.length+1) 0 5)=some v:=by rw[BL O4 g1 rfl]; rfl
 refine BC f3 ?_;refine CE ?_ ?_<;>intro hc
 .have hk':k<4:=by have:=of_decide_eq_true hc; omega
  have ln:BU jA H 9 (.ptr (h.length+2) 0 k)=some (.str (nmN k)):=by rw[BL ag9 g2 rfl]; exact AZ1 k hk'
  have b87:G7 jA 87 [(0,.str (nmN k)),(2,.sl .full 2 [encR ⟨(k:Nat),(k:Nat)⟩])]=some (.agg (fM k)):=A8;have s80:C9 jA false H 80 1 [(0,.agg (fM k))]=some (.sl .full 4 [fM k],H):=A8;obtain⟨v',H',a1,a2,a3,a4,a5,a6⟩:=ho.append (P:=jA) A6B cB A56 A68 U (by rw[List.length_range]; omega) hx k;have l2:=AC g2;have g0':=a3 _ _ g0 (fun q=>by have:=sep _ q; omega);have g1':=a3 _ _ g1 (fun q=>by have:=sep _ q; omega);have g2':=a3 _ _ g2 (fun q=>by have:=sep _ q; omega)
  have hlf:IL v'=some [v']:=by
   rcases a2 with⟨_,rfl⟩|⟨_,o,_,rfl,_⟩<;>rfl
  have s5:DW jA H' 80 (.ptr (h.length+1) 0 5) v'=some (H'.set (h.length+1) (zZ 6 [ptW v'])):=by
   rw[I9 (cs:=[v']) hlf (A8:szO jA 80=some 1) g1' (jF 6)]; rfl
  refine AO ?_;refine DV A8 ?_;simp -implicitDefEqProofs only[vQ,List.contains_cons,List.contains_nil,Nat.reduceBEq,Bool.or_false,MN,VO,JD,NG,IY,CV,LD,I8,↓reduceIte,jB,Nat.reduceAdd,enP,KI,jO,f1,f2,f3,e5,A3G H (h.length+2) k hk',ln,ASD,A1A,b87,s80,a1,s5,DF k];refine⟨n-1,U,k+1,v',U,AZ,AZ,AZ,AZ,by rw[zX U]; exact g0',CP g1',by rw[zX U]; exact g2',a4.set U _,?_,fun b hb=>by have:=a6 b hb; omega⟩;rw[List.range_succ];exact a2.keep fun b hb=>by rw[zX (by have:=a6 b hb; omega)]
 .have hk':¬k<4:=fun q=>by rw[decide_eq_true U] at hc; cases hc
  obtain rfl:k=4:=U;rcases ho with⟨q,_⟩|⟨_,o,hob,rfl,q3⟩
  .cases q
  have l6:BU jA H 82 (.ptr (h.length+1) 0 0)=some (.agg (ptW (.own o 0 4))):=by rw[EH fS ZI g1 rfl (jF 6)]; rfl
  have s28:C9 jA true H 28 1 [(0,.agg (ptW (.own o 0 4)))]=some (.own H.length 0 1,H++[zZ 6 [ptW (.own o 0 4)]]):=A8;have b31:G7 jA 31 [(0,.own H.length 0 1)]=some (.agg [.own H.length 0 1,.sl .nil 0 []]):=A8;have g0':=AL (x:=zZ 6 [ptW (.own o 0 4)]) g0;have q3':=AL (x:=zZ 6 [ptW (.own o 0 4)]) q3;have gb:=A7 H (zZ 6 [ptW (.own o 0 4)]);have hx':=hx.app [zZ 6 [ptW (.own o 0 4)]];have l0:=AC g0;have ho0:=sep o rfl;have q3l:=AC q3;refine I7 f0 f1 l6 s28 b31 ?_
  generalize H++[zZ 6 [ptW (.own o 0 4)]]=H1 at g0' q3' gb hx'|-
  generalize H.length=rb at gb l0 q3l|-
  have s31:DW jA H1 31 (.ptr h.length 0 0) (.agg [.own rb 0 1,.sl .nil 0 []])=some (H1.set h.length (zZ 2 [[.own rb 0 1,.sl .nil 0 []]])):=by
   rw[I9 (cs:=[.own rb 0 1,.sl .nil 0 []]) rfl AZA g0' (jF 2)]; rfl
  refine BB s31 f0 ?_;rw[JO (b:=h.length) (x:=.agg [.own rb 0 1,.sl .nil 0 []]) (EM f0) (by rw[EH A5I AZA (CP g0') rfl (jF 2)]; rfl)];refine⟨hx'.set (jF _) _,?_⟩;have q4:(H1.set h.length (zZ 2 [[.own rb 0 1,.sl .nil 0 []]]))[o]?=some (zZ 4 ((zL 4).map fM)):=by grind
  have gb4:(H1.set h.length (zZ 2 [[.own rb 0 1,.sl .nil 0 []]]))[rb]?=some (zZ 6 [ptW (.own o 0 4)]):=by grind
  generalize H1.set h.length (zZ 2 [[.own rb 0 1,.sl .nil 0 []]])=H2 at q4 gb4;have z1:FN h.length H2 3 (.own o 0 4)=.sl .any 4 ((zL 4).map fM):=Cov.frz_own A3R (n:=h.length) (d:=1) (h:=H2) (xs:=zL 4) U q4
  have z2:FN h.length H2 4 (.own rb 0 1)=.sl .any 6 [ptW (.sl .any 4 ((zL 4).map fM))]:=by
   have hrow:((([ptW (.own o 0 4)]:List (List AV)).drop 0).take 1).map (·.map (FN h.length H2 3))=[ptW (.sl .any 4 ((zL 4).map fM))]:=by
    show [[AV.str aN,.n 2,.n 0,.str aN,.sl .nil 0 [],FN h.length H2 3 (.own o 0 4)]]=_;rw[z1]
   rw[Cov.frzF_own _ _ 3 rb 0 1 6 _ U gb4,hrow]; rfl
  show AV.agg [FN h.length H2 4 (.own rb 0 1),FN h.length H2 4 (.sl .nil 0 [])]=_;rw[z2]; rfl
end
end Go.Proofs.YtiihpnicbekebaaGreatDoor.Bd.Cl
namespace Go.Proofs.YtiihpnicbekebaaGreatDoor.Cov
open Sm Bins Go.RowKit
theorem goals_nil (G:Nat->AV)(m:Mo)(hc:m.crs=[])(hm:MoOk m)(hg:Good m)(h:Hp):PCall (En G) 61 [.agg (DJ m)] h (.sl (nm (goals m)) 4 ((goals m).map KW)):=by
 refine LY A6W ?_;have hm1:=hm.np;have hm2:=hm.nc;have hnum:=hg.num;refine acT Tryz.func61 2 ?_;refine BB @bxM (UM (A7 h (zZ 2 [DJ m]))) ?_;refine ET 0 (fun F H=>F 1=.ptr h.length 0 0∧H[h.length]?=some (zZ 2 [DJ m])∧ext h H∧(∀b,isB (F 3) b->h.length<b)∧outG 4 KW h (gC m 0) (F 3) H) (fun _ _=>False) ?_ ?_ (fun _ _ hh=>hh.elim)
 .refine BI (fun n F H=>∃i,n+i=m.pts.length∧F 1=.ptr h.length 0 0∧F 13=.sl m.pm 6 (m.pts.map FY)∧F 14=.n m.pts.length∧F 15=.n (i:Nat)∧H[h.length]?=some (zZ 2 [DJ m])∧ext h H∧(∀b,isB (F 3) b->h.length<b)∧outG 4 KW h (gP m i) (F 3) H) m.pts.length ⟨0,BA,AQ,AQ,AQ,AQ,A7 _ _,(ext.rfl' h).app _,fun b hb=>hb.elim,outG.nil _ _ _ _⟩ ?_
  rintro n F H ⟨i,hi,f1,f13,f14,f15,gm,he,hlt,ho⟩;refine BB f14 f15 ?_;refine D8 ?_ ?_<;>intro hi'
  .have hgp:gP m (i+1)=gP m i++gPk i m.pts[i] m.pts[i].bins.length:=by
    simp only[gP]; rw[jM hi']
   have h64:=(hg.full _ (List.getElem_mem hi')).2;have hpl:=AFL hg.full i;simp -implicitDefEqProofs only[vQ,CV,↓reduceIte,jB,enP,RJ,cV,KI,jO,f13,f15,CQ hi',DR fS ZI IW hi',AW6,ATN _ _ [.str ⟨#[]⟩,.n 0,.n 0,.str ⟨#[]⟩,.sl .nil 0 [],.sl .nil 0 []] rfl,EE O4,OO,List.length_map];refine ET 2 (fun F' H'=>F' 1=.ptr h.length 0 0∧F' 13=.sl m.pm 6 (m.pts.map FY)∧F' 14=.n m.pts.length∧F' 15=.n (i:Nat)∧H'[h.length]?=some (zZ 2 [DJ m])∧ext h H'∧(∀b,isB (F' 3) b->h.length<b)∧outG 4 KW h (gP m (i+1)) (F' 3) H') (fun _ _=>False) ?_ ?_ (fun _ _ hh=>hh.elim)
   .refine BI (fun n F' H'=>∃k,n+k=m.pts[i].bins.length∧F' 1=.ptr h.length 0 0∧F' 13=.sl m.pm 6 (m.pts.map FY)∧F' 14=.n m.pts.length∧F' 15=.n (i:Nat)∧F' 4=.n (i:Nat)∧F' 21=.sl m.pts[i].bm 4 (m.pts[i].bins.map IP)∧F' 22=.n m.pts[i].bins.length∧F' 23=.n (k:Nat)∧H'[h.length]?=some (zZ 2 [DJ m])∧ext h H'∧(∀b,isB (F' 3) b->h.length<b)∧outG 4 KW h (gP m i++gPk i m.pts[i] k) (F' 3) H') m.pts[i].bins.length ⟨0,BA,EM f1,EM f13,EM f14,EM f15,AQ,AQ,AQ,AQ,AL gm,he.app _,hlt,by rw[show gPk i m.pts[i] 0=[] from rfl,lAn]; exact ho.app _⟩ ?_
    clear f1 f13 f14 f15 gm he hlt ho;rintro n' F H ⟨k,hk,f1,f13,f14,f15,f4,f21,f22,f23,gm,he,hlt,ho⟩;refine BB f22 f23 ?_;refine D8 ?_ ?_<;>intro hk'
    .have hkd:kindOf m.pts[i] k=(m.pts[i].bins[k]).kind:=by unfold kindOf; rw[jM hk']
     have hkl:=vD i m.pts[i] k;have ho1:=ho.app [zZ 4 [IP m.pts[i].bins[k]]];have he1:ext h (H++[zZ 4 [IP m.pts[i].bins[k]]]):=he.app _;simp -implicitDefEqProofs only[vQ,CV,↓reduceIte,jB,enP,XV,WA,jO,f21,f23,CQ hk',DR nY cB LJ hk',al79,st79 _ _ [.str ⟨#[]⟩,.n 0,.sl .nil 0 [],.sl .nil 0 []] rfl,EE ag3,TE];cases hz:(m.pts[i].bins[k].kind==0)
     .have hgk:gPk i m.pts[i] (k+1)=gPk i m.pts[i] k:=by
       simp only[gPk]; rw[hkd,hz]; simp
      refine BB f23 (DF k) ?_;refine⟨n'-1,U,k+1,U,f1,f13,f14,f15,f4,f21,f22,rfl,AL gm,he1,hlt,?_⟩;rw[hgk]; exact ho1
     .have hgk:gP m i++gPk i m.pts[i] (k+1)=(gP m i++gPk i m.pts[i] k)++[mkP i k]:=by
       simp only[gPk]; rw[hkd,hz,if_pos rfl,List.append_assoc]
      obtain⟨v',H',ha,ho',hkeep,he',hle,hb'⟩:=ho1.append AXP qS AXL A4H U (by rw[List.length_append]; omega) he1 (mkP i k);refine E8 f4 AMM @A4X @A4W ?_;rw[show [AV.bool false,AV.int .i64 ((i:Nat):Int),AV.sl .full 1 [[.n ((k:Nat):Int)]],AV.int .i64 ((k:Nat):Int)]=KW (mkP i k) from rfl];simp -implicitDefEqProofs only[vQ,CV,I8,↓reduceIte,jB,enP,A7D _ _ (show(KW (mkP i k)).all AV.frozen=true from rfl)];refine KY (v:=v') (h:=H') ha ?_;refine BB f23 (DF k) ?_;refine⟨n'-1,U,k+1,U,f1,f13,f14,f15,f4,f21,f22,rfl,hkeep _ _ (AL gm) (fun e=>by have:=hlt _ e; omega),he',fun b hbb=>?_,?_⟩
      .have h1:=hb' b hbb; have h2:=AC gm; rw[h1]; simp; omega
      .rw[hgk]; exact ho'
    .have hke:k=m.pts[i].bins.length:=U
     refine AO ?_;refine⟨f1,f13,f14,f15,gm,he,hlt,?_⟩;rw[hgp,<-hke]; exact ho
   .rintro F' H' ⟨g1,g13,g14,g15,gm',he',hlt',ho'⟩
    refine BB g15 (DF i) ?_;exact⟨n-1,U,i+1,U,g1,g13,g14,rfl,gm',he',hlt',ho'⟩
  .have hie:i=m.pts.length:=U
   subst hie;refine AO ?_;exact⟨f1,gm,he,hlt,ho⟩
 .rintro F H ⟨f1,gm,he,hlt,ho⟩
  have ho:outG 4 KW h (goals m) (F 3) H:=by unfold goals; rw[hc]; exact ho
  refine KF f1 (aU gm) hc ?_;refine BI (fun n F H=>F 44=.n 0∧F 45=.n 0∧ext h H∧outG 4 KW h (goals m) (F 3) H) 0 ⟨AQ,AQ,he,ho⟩ ?_;clear f1 gm he hlt ho;rintro n F H ⟨f44,f45,he,ho⟩;refine DT f44 f45 (show decide ((0:Int)<0)=false from rfl) ?_;exact⟨he,ho⟩
end Go.Proofs.YtiihpnicbekebaaGreatDoor.Cov
namespace Go.Proofs.YtiihpnicbekebaaGreatDoor.Bd.Cl
open Sm Bins Cov Xe Wd Bl Ho Go.RowKit
section
variable (G:Nat->AV)
theorem AQP (m:Mo)(hc:m.crs=[])(s:SM)(h:Hp):PCall (En G) 120 [.agg (DJ m),.sl s 1 []] h (.bool true):=by
 refine ACalls.pure0 rfl ?_;refine acT Tryz.func120 4 ?_;simp -implicitDefEqProofs only[vQ,CV,SS,↓reduceIte,Nat.reduceEqDiff,Nat.zero_add,Option.getD_some,Bool.not_false,enP,APJ,API,MM,bxM,EE nZ,YA,hc,List.length_nil,show(((0:Nat):Int) != ((0:Nat):Int))=false from rfl];refine BI (fun n F H=>F 18=.n 0∧F 19=.n 0∧∃x,H=h++x) 0 ⟨AQ,AQ,_,rfl⟩ ?_;rintro n F H ⟨f18,f19,hx⟩;refine DT f18 f19 (show decide ((0:Int)<0)=false from rfl) ?_;exact⟨AZ,hx⟩
theorem AYC (hG:GOk G)(m:Mo)(hc:m.crs=[])(hm:MoOk m)(v:Cvr)(hv:CvOk v)(hvc:v.crs=[])(h:Hp):PCall (En G) 55 [.agg (DJ m),.agg (Cov.encV v)] h (.bool (PO m v)) :=
 AVG G hG m v hm hv (fun _ h=>by rw[hvc,hc]; exact AQP G m hc v.cm h) h
theorem A2S (hG:GOk G)(p:Pr)(hs:PrS p)(hb:Sm51 p)(m:Mo)(hc:m.crs=[])(hm:MoOk m)(v:Cvr)(hv:CvOk v)(hvc:v.crs=[])(most:Int)(h:Hp):PCall (En G) 17 [.agg (DL p),.agg (DJ m),.agg (Cov.encV v),.n most] h (AKT sdP EI p m v most) :=
 AXB G hG p hs hb m hm v most (AYC G hG m hc hm v hv hvc) (AP8 G m v (AYC G hG m hc hm v hv hvc) (Cov.goals_nil G m hc hm)) h
end
end Go.Proofs.YtiihpnicbekebaaGreatDoor.Bd.Cl
namespace Go.Proofs.YtiihpnicbekebaaGreatDoor.Ho
open Sm Bins Cov Go.RowKit
theorem cl4:Tryz.prog.cellsOf 4=1:=A8
theorem A7U:Tryz.prog.cellsOf 34=3:=A8
def A2U (x:Hl)(b:Nat):Prop:=okL okI x.bins b
theorem A7S:Rd Tryz.prog 34 FQ A2U:=by
 intro n
 match n with
 | 0=>exact RdAt.zero
 | 1=>exact uG Tryz.underlying34
 | n+2 =>
   refine RdAt.map (fun x:Bool×Int×Is×Unit=>(⟨x.1,x.2.1,x.2.2.1.m,x.2.2.1.l⟩:Hl))
    (QC Tryz.underlying34 (JA rfl cl4 (fun _=>rfl) (AT0 Tryz.underlying4 _) (JA rfl cl3 (fun _=>rfl) (rdI _) (JA rfl A06 mX (AZU _) V4)))) (fun x=>rfl) ?_
   rintro⟨a,b,c,_⟩ N ⟨_,hN,b1,b2,hb,h1,b3,b4,hb2,h2,b5,b6,hb3,h3,_⟩;exact h3.mono U
theorem A54 {x:Hl}{b:Nat}(h:A2U x b)(hb:b<=1048576):x.bins.length<=1048576:=Nat.le_trans (okL.length h) hb
end Go.Proofs.YtiihpnicbekebaaGreatDoor.Ho
namespace Go.Proofs.YtiihpnicbekebaaGreatDoor.Cov
open Sm Bins Go.RowKit
noncomputable def APQ (z:Int):Nat->AV:=fun n=>if n=0 then .fptr 1 [[.sl .any 1 (kw.map qencStr)]] 0 0 else if n=1 then .fptr 1 [[.int .i64 z]] 0 0 else .junk
theorem A3C (z:Int):GOk (APQ z):=⟨⟨.any,rfl⟩,z,rfl⟩
theorem APS {H:Type}:(Rows.laid_testbench_lexer_keywords:DataW H)=.slice (kw.map fun s=>.lit (.string s.data.toList)) []:=rfl
theorem ATI {w:World}{g:Nat}{k:IntKind}{z:Int}(h:w.cell? ⟨g,0,none⟩=some (.int k z)):RepF (M0 w) (.fptr 1 [[.int k z]] 0 0) (.pointer (some ⟨g,0,none⟩)):=by
 simp only[World.cell?] at h;split at h
 case h_2=>simp at h
 rename_i cc ty fz hw;have hcc:cc[0]?=some (.int k z):=BN h;refine .fptr 1 [[.int k z]] 0 0 g 0 cc ty fz (fun _ _=>.int k z) hw ?_ ?_ ?_
 .intro i row hrow
  cases i with
  | zero =>
    simp at hrow; subst hrow;refine⟨rfl,fun j v hv=>?_⟩
    cases j with
    | zero=>simp at hv; subst hv; rfl
    | succ j=>simp at hv
  | succ i=>simp at hrow
 .intro i j hi hj
  obtain rfl:i=0:=BN hi;obtain rfl:j=0:=U;exact hcc
 .intro i j row v hrow hv
  cases i with
  | zero =>
    simp at hrow; subst hrow
    cases j with
    | zero=>simp at hv; subst hv; exact .int _ _
    | succ j=>simp at hv
  | succ i=>simp at hrow
theorem A52 {W:World}(h:laidMetH jA [("math/bits.deBruijn32tab",Rows.laid_math_bits_deBruijn32tab),("math/bits.deBruijn64tab",Rows.laid_math_bits_deBruijn64tab),("internal/strconv.uint64pow10",Rows.laid_internal_strconv_uint64pow10),("testbench/lexer.keywords",Rows.laid_testbench_lexer_keywords)] W) (hsh:W.ShapedOpen jA) :
  ∃z,∀n,RepF (M0 W) (APQ z n) (.pointer (some ⟨n,0,none⟩)):=by
 rw[MakeChecks.laidMetH_plain _ _ _ A8] at h;obtain⟨ps,⟨_,_,_,_,_,_,_,_,_,_,⟨_,_,_,_,_,_,_,_,_,_,⟨_,_,_,_,_,_,_,_,_,_,⟨g3,t3,cs3,f3,p3,q3,hg3,ht3,hv3,hd3,_,_⟩,_⟩,_⟩,_⟩,_,_⟩:=h
 have hgk:Tryz.prog.globalNamed "testbench/lexer.keywords" = some 0:=A8
 have htk:(Tryz.prog.globals[0]?).map (·.type)=some 121:=A8;obtain rfl:=Option.some.inj (hgk.symm.trans hg3);obtain rfl:=Option.some.inj (htk.symm.trans ht3);obtain⟨c,h1,h2⟩:=ALD Tryz.underlying121 Tryz.underlying9 cl9 APS hd3;obtain⟨z,hz⟩:=cell_of_shapedOpen_int (P:=jA) (g:=1) (t:=3) (zero := #[.int .i64 0]) hsh (of_decide_eq_true A8) A8 rfl A8 A8 Tryz.underlying3;refine⟨z,fun n=>?_⟩;unfold APQ;split
 .rename_i hn; subst hn
  exact ATH hg3 hv3 h1 h2 rfl
 .split
  .rename_i hn; subst hn
   exact ATI hz
  .exact .junk _
end Go.Proofs.YtiihpnicbekebaaGreatDoor.Cov
namespace Go.Proofs.YtiihpnicbekebaaGreatDoor.Bd.Cl
open Sm Bins Cov Xe Wd Bl Ho Go.RowKit
variable {ins:Ex->List Rng->Ex} {m:Mo} {x:Hl} {A H h:Hp} {b i:Nat} {v:AV} {s:ByteArray} {F:Fr} {d:Int}
abbrev gW (i:Int):List AV:=[.bool false,.n 0,.sl .full 1 [[.n i]]]
theorem A58:AKO nB sdP EI PL RZ (hol 2)=.tup [.sl .any 1 [[.sl .any 1 [[.n 2]]]],.n 0]:=by unfold AKO; rw[A1V.2,A1V.1]; rfl
theorem A6A:AT4 sdP EI PL RZ (hol 3)=.tup [.bool true,.n 0]:=by unfold AT4; rw[A57]; rfl
def A1J (v:Cvr):Prop:=AAL PL RZ v 9=0∧(lJ sdP EI PL RZ v 9).1.map (fun g=>(g.cross,g.idx,g.bm,g.bins))=[(false,0,.full,[0]),(false,0,.full,[1]),(false,0,.full,[2])]∧(lJ sdP EI PL RZ v 9).2.map (fun g=>(g.cross,g.idx,g.bm,g.bins))=[(false,0,.full,[3])]
theorem ACF (L:List Gl):L.map Cov.encH=(L.map (fun g=>(g.cross,g.idx,g.bm,g.bins))).map fun x=>[AV.bool x.1,.n ((x.2.1:Nat):Int),.sl x.2.2.1 1 (x.2.2.2.map Bins.qencI)]:=by rw[List.map_map]; rfl
theorem AO8 {α β:Type}(f:α->β)(L:List α):Cov.nm (L.map f)=Cov.nm L:=by cases L<;>rfl
theorem A59 {v:Cvr}(h:A1J v):AKT sdP EI PL RZ v 9=.tup [.sl .any 3 [gW 0,gW 1,gW 2],.sl .any 3 [gW 3],.n 0]:=by
 obtain⟨h1,h2,h3⟩:=h;unfold AKT;rw[<-AO8 (fun g:Gl=>(g.cross,g.idx,g.bm,g.bins)),<-AO8 (fun g:Gl=>(g.cross,g.idx,g.bm,g.bins)) (lJ sdP EI PL RZ v 9).2,ACF,ACF,h2,h3,h1];rfl
theorem w_m:F8 RZ=0:=by decide +kernel
theorem A4Z (n:Int):G7 jA 34 [(2,.sl .full 1 [Bins.qencI n])]=some (.agg (FQ (hol n))):=A8
abbrev cvZ:List AV:=[.sl .nil 0 [],.sl .nil 0 [],.n 0,.n 0]
theorem A49 (h:Hp):GM jA h 46=some (.ptr h.length 0 0,h++[zZ 4 [cvZ]]):=FV (row:=cvZ) A8
theorem A47 (h:Hp):GM jA h 94=some (.ptr h.length 0 0,h++[zZ 1 [[.sl .nil 0 []]]]):=FV (row:=[.sl .nil 0 []]) A8
section
variable (G:Nat->AV)
theorem ANJ (hG:GOk G)(v:Cvr)(t:Tk)(hpl:A1J v)(hP:∀h,PCall (En G) 17 [.agg (DL PL),.agg (DJ RZ),.agg (Cov.encV v),.n 9] h (AKT sdP EI PL RZ v 9))(hE:∀h,PCall (En G) 39 [.agg (DJ RZ)] h (.tup [.agg (Cov.encV v),.agg (ACD t),.n 0]))(h:Hp):PCall (En G) 11 [] h (.bool true):=by
 refine ACalls.pure0 rfl ?_;refine acT Tryz.func11 0 ?_;have hR:=bN G hG PL uK uL RZ iU (hol 2) D5 h;have hV:=ADY G hG PL uK uL RZ iU (hol 3) D5 h;rw[A58] at hR;rw[A6A] at hV;refine AO ?_;refine(XK G h).uu ?_;refine(Y3 G h).use ?_;refine BB @bsI A4Z ?_;refine hR.uu ?_;refine(XK G h).uu ?_;refine(Y3 G h).use ?_;refine BB @bsI A4Z ?_;refine hV.uu ?_;refine(Y3 G h).uu ?_;refine(hE h).use ?_;have g5:=AL (x:=zZ 1 [[.sl .nil 0 []]]) (A7 h (zZ 4 [cvZ]));have g6:=A7 (h++[zZ 4 [cvZ]]) (zZ 1 [[.sl .nil 0 []]]);have hx:Sm.ext h (h++[zZ 4 [cvZ]]++[zZ 1 [[.sl .nil 0 []]]]):=((ext.rfl' h).app _).app _;have e1:(h++[zZ 4 [cvZ]]).length=h.length+1:=BA;refine BB @A49 @A47 ?_
 rw[e1] at g6|-
 generalize h++[zZ 4 [cvZ]]++[zZ 1 [[.sl .nil 0 []]]]=H at g5 g6 hx|-
 have s5:DW jA H 46 (.ptr h.length 0 0) (.agg (Cov.encV v))=some (H.set h.length (zZ 4 [Cov.encV v])):=by
  rw[I9 (cs:=Cov.encV v) rfl ANW g5 (jF 4)]; rfl
 have g56:(H.set h.length (zZ 4 [Cov.encV v]))[h.length+1]?=some (zZ 1 [[.sl .nil 0 []]]):=by rw[zX U]; exact g6
 have s6:DW jA (H.set h.length (zZ 4 [Cov.encV v])) 94 (.ptr (h.length+1) 0 0) (.agg (ACD t))=some ((H.set h.length (zZ 4 [Cov.encV v])).set (h.length+1) (zZ 1 [ACD t])):=by
  rw[I9 (cs:=ACD t) rfl ATM g56 (jF 1)]; rfl
 have g7:((H.set h.length (zZ 4 [Cov.encV v])).set (h.length+1) (zZ 1 [ACD t]))[h.length]?=some (zZ 4 [Cov.encV v]):=by rw[zX U]; exact CP g5
 have hx2:=(hx.set (jF h.length) (zZ 4 [Cov.encV v])).set (b:=h.length+1) U (zZ 1 [ACD t]);refine BB s5 s6 ?_
 generalize (H.set h.length (zZ 4 [Cov.encV v])).set (h.length+1) (zZ 1 [ACD t])=H2 at g7 hx2|-
 have hP:=hP H2;rw[A59 hpl] at hP;refine DV A8 ?_;refine AO ?_;refine⟨_,XK G H2,_,Y3 G H2,?_⟩;refine BC (Cov.ldV g7) ?_;refine⟨_,hP,?_⟩;have n0:((0:Int) != 0)=false:=rfl;have n1:(((1:Nat):Int) != 1)=false:=rfl;have n3:(((3:Nat):Int) != 3)=false:=rfl;have m1:(((1:Nat):Int)==1)=true:=rfl;have ia:JJ 1 H2 (.sl .any 1 [[.sl .any 1 [[.n 2]]]]) (.n 0)=some (.fptr 1 [[.sl .any 1 [[.n 2]]]] 0 0):=A8;have la:BU jA H2 32 (.fptr 1 [[.sl .any 1 [[.n 2]]]] 0 0)=some (.sl .any 1 [[.n 2]]):=A8;have ib:JJ 1 H2 (.sl .any 1 [[.n 2]]) (.n 0)=some (.fptr 1 [[.n 2]] 0 0):=A8;have lb:BU jA H2 3 (.fptr 1 [[.n 2]] 0 0)=some (.n 2):=A8;have ic:JJ 3 H2 (.sl .any 3 [gW 0,gW 1,gW 2]) (.n 1)=some (.fptr 3 [gW 0,gW 1,gW 2] 1 0):=A8;have lc:BU jA H2 32 (.fptr 3 [gW 0,gW 1,gW 2] 1 2)=some (.sl .full 1 [[.n 1]]):=A8;have id:JJ 1 H2 (.sl .full 1 [[.n 1]]) (.n 0)=some (.fptr 1 [[.n 1]] 0 0):=A8;have ld:BU jA H2 3 (.fptr 1 [[.n 1]] 0 0)=some (.n 1):=A8;have ie:JJ 3 H2 (.sl .any 3 [gW 3]) (.n 0)=some (.fptr 3 [gW 3] 0 0):=A8;have le:BU jA H2 32 (.fptr 3 [gW 3] 0 2)=some (.sl .full 1 [[.n 3]]):=A8;have ig:JJ 1 H2 (.sl .full 1 [[.n 3]]) (.n 0)=some (.fptr 1 [[.n 3]] 0 0):=A8;have lg:BU jA H2 3 (.fptr 1 [[.n 3]] 0 0)=some (.n 3):=A8;have q2:((2:Int)==2)=true:=rfl;have q1:((1:Int)==1)=true:=rfl;have q3:((3:Int)==3)=true:=rfl;simp -implicitDefEqProofs only[vQ,wK,List.getElem?_cons_succ,KH,YS,EJ,Q9,CV,QA,WE,↓reduceIte,jB,jL,enP,pB,APJ,LQ,XT,TB,A3E,APH,n0,n1,n3,m1,ia,la,ib,lb,ic,lc,id,ld,ie,le,ig,lg,q1,q2,q3,List.length_cons,zJ];exact⟨AZ,hx2⟩
end
section
variable (G:Nat->AV)
theorem A1K (hG:GOk G)(m:Mo)(hm:MoOk m)(h0:F8 m=0)(h:Hp):PCall (En G) 39 [.agg (DJ m)] h (.tup [.agg (Cov.encV (cvS (zS m))),.agg (ACD ⟨Cov.nm (zLs m),zLs m⟩),.n 0]):=by
 have hp:PCall (En G) 39 [.agg (DJ m)] h (.tup [.agg (cvW (zS m)),.agg [fzG 1 (fun _:Pt=>LZ) m.pts],.n 0]):=by
  refine ACalls.pure 5 (AM0 G hG m hm h) ?_;rintro v H ⟨he,⟨a,_⟩|⟨_,po,pb,co,cbs,v3,rfl,E⟩⟩
  .exact absurd h0 a
  .refine⟨he,?_⟩
   have e1:=A01 (zS m) E.nc.np E.nc.nc h.length 0 (jF _);have e3:=KP A0J E.o3 h.length 1 (jF _);show AV.tup [FN h.length H 4 (.agg (cvR po (zS m).P co (zS m).C (zS m).sam (zS m).ill)),.agg [FN h.length H 3 v3],.n 0]=_;rw[e1,e3]
 refine hp.res (CvR.tup (CvRL.cons (A0Y (zS m)) (CvRL.cons (CvR.agg (CvRL.cons ?_ CvRL.nil)) (CvRL.cons (CvR.refl _) CvRL.nil))));have h1:CvR (fzG 1 (fun _:Pt=>LZ) m.pts) (.sl (Cov.nm m.pts) 1 (m.pts.map fun _=>LZ)):=X3;have h2:=CvR.sl (AUJ (s:=Cov.nm m.pts) m.pts);have h3:Cov.nm (zLs m)=Cov.nm m.pts:=by unfold zLs; cases m.pts<;>rfl
 intro g cv hr;have:=h2 g cv (h1 g cv hr);rw[h3]; exact this
theorem eF (hG:GOk G)(h:Hp):PCall (En G) 11 [] h (.bool true) :=
 ANJ G hG (cvS (zS RZ)) ⟨Cov.nm (zLs RZ),zLs RZ⟩ (by unfold A1J; decide +kernel) (A2S G hG PL uK uL RZ rfl iU _ ⟨by decide +kernel,by decide +kernel,by decide +kernel,by decide +kernel⟩ (by decide +kernel) 9) (A1K G hG RZ iU w_m) h
end
def EU (e:Ex):List AV:=.n 1::(AU e++[.str ⟨#[]⟩,.str ⟨#[]⟩,.sl .nil 0 [],.sl .nil 0 [],.sl .nil 0 [],.sl .nil 0 [],.sl .nil 0 []])
theorem KQ (e:Ex):EU e=[.n 1,.n e.op,.n e.n,.str e.name,.sl e.m 4 (e.args.map AU),.str ⟨#[]⟩,.str ⟨#[]⟩,.sl .nil 0 [],.sl .nil 0 [],.sl .nil 0 [],.sl .nil 0 [],.sl .nil 0 []]:=by unfold EU; rw[EW]; rfl
theorem MW (e:Ex):(EU e).length=12:=by rw[KQ]; rfl
theorem AYR (l:List Ex):LC (l.map EU)=true:=by
 unfold LC;rw[zH];intro row hr;obtain⟨x,_,rfl⟩:=List.mem_map.1 hr;rw[KQ]; rfl
def eL (l:List Ex):List AV:=[fzG 12 EU l]
theorem AIF:Frz eL:=fun _ _ _ l=>by cases l<;>exact⟨rfl,rfl⟩
def UC (l:List Ex):List AV:=[.sl (Cov.nm l) 12 (l.map EU)]
theorem ATV (l:List Ex):CvRow (eL l) (UC l):=by
 cases l with
 | nil=>exact CvRow.cons rfl (Cv.nil 0 12) CvRow.nil
 | cons x xs=>exact CvRow.cons rfl (Cv.refl _) CvRow.nil
theorem A0H (L:List (List Ex)):CvR (fzG 1 eL L) (.sl (Cov.nm L) 1 (L.map UC)):=by
 cases L with
 | nil=>exact CvR.sl (Cv.nil 0 1)
 | cons a L=>exact CvR.sl (Cv.map fun x _=>ATV x)
theorem A4V (e:Ex):G7 jA 123 [(0,.n 1),(1,.agg (AU e))]=some (.agg (EU e)):=by
 rw[KQ,EW]; kernel_rfl
theorem A4L (h:Hp)(e:Ex):C9 jA false h 61 1 [(0,.agg (EU e))]=some (.sl .full 12 [EU e],h):=by
 rw[KQ]; kernel_rfl
theorem A7B (h:Hp)(m:SM)(xs:List (List AV)):C9 jA false h 58 1 [(0,.sl m 12 xs)]=some (.sl .full 1 [[.sl m 12 xs]],h):=A8
theorem A4M (h:Hp)(l:List Ex):C9 jA false h 58 1 [(0,fzG 12 EU l)]=some (.sl .full 1 [eL l],h):=by
 cases l with
 | nil=>show C9 jA false h 58 1 [(0,.sl .nil 0 [])]=some (.sl .full 1 [[.sl .nil 0 []]],h); kernel_rfl
 | cons x xs=>exact A7B h .any _
def itL (ins:Ex->List Rng->Ex)(m:Mo)(x:Hl):List (List Ex):=if cnE ins m x=0 then cnL ins m x else []
def itV (ins:Ex->List Rng->Ex)(m:Mo)(x:Hl):AV:=.tup [.sl (Cov.nm (itL ins m x)) 1 ((itL ins m x).map UC),.n (cnE ins m x)]
def itW (ins:Ex->List Rng->Ex)(m:Mo)(x:Hl):AV:=.tup [fzG 1 eL (itL ins m x),.n (cnE ins m x)]
theorem AP1 (ins:Ex->List Rng->Ex)(m:Mo)(x:Hl):CvR (itW ins m x) (itV ins m x):=CvR.tup (CvRL.cons (A0H _) (CvRL.cons (CvR.refl _) CvRL.nil))
theorem eS (h:cnE ins m x≠0):itW ins m x=.tup [.sl .nil 0 [],.n (cnE ins m x)]:=by
 unfold itW itL;rw[if_neg h]; rfl
theorem SB (h:LW m x=false):cnE ins m x=1:=by unfold cnE; rw[if_neg (by rw[h]; decide)]
theorem wT (h:cnE ins m x=0):LW m x=true:=by
 cases q:LW m x
 .rw[SB q] at h; cases h
 .rfl
theorem AJC (h:cnE ins m x=0):cnV ins m x=.tup [.sl .any 1 ((cnL ins m x).map O1),.n 0]:=by
 unfold cnV; rw[if_pos h,h]
theorem ARR (h:cnE ins m x≠0):cnV ins m x=.tup [.sl .nil 0 [],.n (cnE ins m x)]:=by
 unfold cnV; rw[if_neg h]
section
variable (G:Nat->AV)
theorem oG (hG:GOk G)(m:Mo)(hm:MoOk m)(x:Hl)(hn:x.bins.length<=1048576)(h:Hp):PCall (En G) 23 [.agg (DJ m),.agg (FQ x)] h (itV EI m x):=by
 refine PCall.res ?_ (AP1 EI m x);refine ACalls.pure (R:=fun v H=>Sm.ext h H∧FN h.length H 3 v=itW EI m x) 3 ?_ (fun v H ⟨a,b⟩=>⟨a,b⟩);refine H6 (H:=hint [] [(52,[51])]) (enM G) Tryz.func23 rfl (by kernel_rfl) (by kernel_rfl) (jC (by kernel_rfl)) ?_;show awp _ _ _ _ _ (LU _ [.tmp 4,.tmp 5] _);have t:=Hb.mk' h m x;refine BB @bxM @bxH ?_
 generalize h++[zZ 2 [DJ m]]++[zZ 3 [FQ x]]=H0 at t|-
 generalize (h++[zZ 2 [DJ m]]).length=hb at t|-
 refine BC (ldM t.gm) ?_;refine(QF G hG m hm H0).use ?_;cases bv:(F8 m != 0)
 rotate_left
 .have hv:LW m x=false:=by
   cases q:LW m x
   .rfl
   .rw[TT q] at bv; cases bv
  refine BC bv ?_;exact⟨t.hx,by rw[eS (by rw[SB hv]; decide),SB hv]; rfl⟩
 refine DT bv (ldM t.gm) (ldH t.gh) ?_;refine(Ho.valid_prog G hG m hm x hn H0).use ?_;cases hv:LW m x
 .refine AO ?_
  exact⟨t.hx,by rw[eS (by rw[SB hv]; decide),SB hv]; rfl⟩
 refine BB (ldM t.gm) (ldH t.gh) ?_;refine(YQ G hG m hm x hn H0).use ?_;cases bz:(cnE EI m x != 0)
 rotate_left
 .have hz:cnE EI m x≠0:=BN bz
  rw[ARR hz];refine BC bz ?_;exact⟨t.hx,by rw[eS hz]; rfl⟩
 have hz:cnE EI m x=0:=BN bz;rw[AJC hz];obtain⟨hR8,hr8⟩:=nM (ins:=EI) hv;have hW:itW EI m x=.tup [fzG 1 eL (cnL EI m x),.n 0]:=by unfold itW itL; rw[if_pos hz,hz]
 rw[hW];clear hW bz hz
 generalize cnL EI m x=R at hR8 hr8|-
 have hlt:=AC t.gm;refine BC (show((0:Int) != 0)=false from rfl) ?_;refine ET 0 (fun F H=>∃v,F 8=v∧Sm.ext H0 H∧outG 1 eL H0 R v H) (fun _ _=>False) ?_ ?_ (fun _ _ q=>q.elim)
 .refine BI (fun n F H=>∃i v,n+i=R.length∧F 8=v∧F 32=.sl .any 1 (R.map O1)∧F 33=.n (R.length:Nat)∧F 34=.n (i:Nat)∧Sm.ext H0 H∧outG 1 eL H0 (R.take i) v H) R.length
   ⟨0,.sl .nil 0 [],BA,AQ,AQ,AQ,AQ,ext.rfl' _,outG.nil _ _ _ _⟩ ?_
  rintro n F H ⟨i,v,hi,f8,f32,f33,f34,hxH,ho⟩;refine BB f33 f34 ?_;refine D8 ?_ ?_<;>intro hi'
  .have hrl:=hr8 _ (jH hi')
   have lr:BU jA H 23 (.fptr 1 (R.map O1) i 0)=some (.sl (Cov.nm R[i]) 4 (R[i].map AU)):=by rw[CG MO hi']; rfl
   refine P8 f32 f34 hi' lr ?_
   refine BI (fun n2 F' H'=>∃k u,n2+k=R[i].length∧F' 8=v∧F' 32=.sl .any 1 (R.map O1)∧F' 33=.n (R.length:Nat)∧F' 34=.n (i:Nat)∧F' 11=u∧F' 38=.sl (Cov.nm R[i]) 4 (R[i].map AU)∧F' 39=.n (R[i].length:Nat)∧F' 40=.n (k:Nat)∧Sm.ext H H'∧outG 12 EU H (R[i].take k) u H') R[i].length
    ⟨0,.sl .nil 0 [],BA,EM f8,EM f32,EM f33,EM f34,AQ,AQ,AQ,AQ,ext.rfl' _,outG.nil _ _ _ _⟩ ?_
   clear f8 f32 f33 f34;rintro n2 F H' ⟨k,u,hk,f8,f32,f33,f34,f11,f38,f39,f40,hx2,hou⟩;refine BB f39 f40 ?_;refine D8 ?_ ?_<;>intro hk'
   .have hx3:=hx2.app [zZ 4 [AU R[i][k]]]
    have ga:=A7 H' (zZ 4 [AU R[i][k]]);have hou:=hou.app [zZ 4 [AU R[i][k]]];simp -implicitDefEqProofs only[vQ,jR,jS,CV,↓reduceIte,jB,enP,RN,jO,zY,L8,f38,f40,CQ hk',DR O5 JL EP hk',al79,st79]
    generalize H'++[zZ 4 [AU R[i][k]]]=H3 at hx3 ga hou|-
    generalize H'.length=ab at ga|-
    obtain⟨u',H5,ha,ho2,_,he2,_,_⟩:=hou.append (P:=jA) A1Z cC A1P A4D U (by rw[jV]; omega) hx3 R[i][k];rw[<-jY hk'] at ho2;simp -implicitDefEqProofs only[vQ,jR,jS,CV,LD,I8,↓reduceIte,jB,enP,zY,L8,f11,ND ga,A4V,A4L,ha,f40,DF k];exact⟨n2-1,U,k+1,u',U,AZ,AZ,AZ,AZ,AZ,AZ,AZ,AZ,he2,ho2⟩
   .rw[jI U] at hou
    obtain⟨H3,hz,hx3,_,hkeep⟩:=mF (AYR _) hou hx2 51;obtain⟨v',H4,ha,ho2,_,he2,_,_⟩:=(outG_ext ho hx3).append (P:=jA) A10 AY8 A1Q A4E U (by rw[jV]; omega) (hxH.trans hx3) R[i];rw[<-jY hi'] at ho2;have ha':EG jA true H3 58 58 v (.sl .full 1 [eL R[i]])=some (v',H4):=ha;refine PG f8 f11 f34 @U4 hz @A4M ha' (DF i) ?_;exact⟨n-1,U,i+1,v',U,AZ,AZ,AZ,AZ,he2,ho2⟩
  .rw[jI U] at ho
   refine AO ?_;exact⟨v,AZ,hxH,ho⟩
 rintro F H ⟨v,f8,hxH,ho⟩;refine BC f8 ?_;refine⟨t.hx.trans hxH,?_⟩;show AV.tup [FN h.length H 2 v,_]=_;rw[KP AIF ho h.length 0 (by have:=t.hx.le; omega)]; rfl
theorem tK (m:Mo)(hm:MoOk m)(x:Hl)(hn:x.bins.length<=1048576)(h:Hp):PCall (En G) 24 [.agg (DJ m),.agg (FQ x)] h (itV F7 m x):=by
 refine PCall.res ?_ (AP1 F7 m x);refine ACalls.pure (R:=fun v H=>Sm.ext h H∧FN h.length H 3 v=itW F7 m x) 3 ?_ (fun v H ⟨a,b⟩=>⟨a,b⟩);refine H6 (H:=hint [] [(58,[57])]) (enM G) Tryz.func24 rfl (by kernel_rfl) (by kernel_rfl) (jC (by kernel_rfl)) ?_;show awp _ _ _ _ _ (LU _ [.tmp 4,.tmp 5] _);have t:=Hb.mk' h m x;refine BB @bxM @bxH ?_
 generalize h++[zZ 2 [DJ m]]++[zZ 3 [FQ x]]=H0 at t|-
 generalize (h++[zZ 2 [DJ m]]).length=hb at t|-
 refine BC (ldM t.gm) ?_;refine(rS G m hm H0).use ?_;cases bv:(F8 m != 0)
 rotate_left
 .have hv:LW m x=false:=by
   cases q:LW m x
   .rfl
   .rw[TT q] at bv; cases bv
  refine BC bv ?_;exact⟨t.hx,by rw[eS (by rw[SB hv]; decide),SB hv]; rfl⟩
 refine DT bv (ldM t.gm) (ldH t.gh) ?_;refine(Ho.valid_ref G m hm x hn H0).use ?_;cases hv:LW m x
 .refine AO ?_
  exact⟨t.hx,by rw[eS (by rw[SB hv]; decide),SB hv]; rfl⟩
 refine BB (ldM t.gm) (ldH t.gh) ?_;refine(pS G m hm x hn H0).use ?_;cases bz:(cnE F7 m x != 0)
 rotate_left
 .have hz:cnE F7 m x≠0:=BN bz
  rw[ARR hz];refine BC bz ?_;exact⟨t.hx,by rw[eS hz]; rfl⟩
 have hz:cnE F7 m x=0:=BN bz;rw[AJC hz];obtain⟨hR8,hr8⟩:=nM (ins:=F7) hv;have hW:itW F7 m x=.tup [fzG 1 eL (cnL F7 m x),.n 0]:=by unfold itW itL; rw[if_pos hz,hz]
 rw[hW];clear hW bz hz
 generalize cnL F7 m x=R at hR8 hr8|-
 refine BC (show((0:Int) != 0)=false from rfl) ?_;refine ET 0 (fun F H=>∃v,F 8=v∧Sm.ext H0 H∧outG 1 eL H0 R v H) (fun _ _=>False) ?_ ?_ (fun _ _ q=>q.elim)
 .refine BI (fun n F H=>∃i v,n+i=R.length∧F 8=v∧F 6=.sl .any 1 (R.map O1)∧F 9=.n (i:Nat)∧Sm.ext H0 H∧outG 1 eL H0 (R.take i) v H) R.length
   ⟨0,.sl .nil 0 [],BA,AQ,AQ,AQ,ext.rfl' _,outG.nil _ _ _ _⟩ ?_
  rintro n F H ⟨i,v,hi,f8,f6,f9,hxH,ho⟩;refine BB f6 f9 ?_;refine D8 ?_ ?_<;>intro hi'
  .have hrl:=hr8 _ (jH hi')
   have lr:∀H,BU jA H 23 (.fptr 1 (R.map O1) i 0)=some (.sl (Cov.nm R[i]) 4 (R[i].map AU)):=fun H=>by rw[CG MO hi']; rfl
   refine AO ?_;refine ET 2 (fun F' H'=>∃u,F' 8=v∧F' 6=.sl .any 1 (R.map O1)∧F' 9=.n (i:Nat)∧F' 10=u∧Sm.ext H H'∧outG 12 EU H R[i] u H') (fun _ _=>False) ?_ ?_ (fun _ _ q=>q.elim)
   .refine BI (fun n2 F' H'=>∃k u,n2+k=R[i].length∧F' 8=v∧F' 6=.sl .any 1 (R.map O1)∧F' 9=.n (i:Nat)∧F' 10=u∧F' 11=.n (k:Nat)∧Sm.ext H H'∧outG 12 EU H (R[i].take k) u H') R[i].length
     ⟨0,.sl .nil 0 [],BA,EM f8,EM f6,EM f9,AQ,AQ,ext.rfl' _,outG.nil _ _ _ _⟩ ?_
    clear f8 f6 f9;rintro n2 F H' ⟨k,u,hk,f8,f6,f9,f10,f11,hx2,hou⟩;refine tJ f6 f9 f11 hi' lr ?_;refine D8 ?_ ?_<;>intro hk'
    .obtain⟨u',H5,ha,ho2,_,he2,_,_⟩:=hou.append (P:=jA) A1Z cC A1P A4D U (by rw[jV]; omega) hx2 R[i][k]
     rw[<-jY hk'] at ho2;simp -implicitDefEqProofs only[vQ,jR,jS,CV,LD,I8,↓reduceIte,jB,enP,RN,sA,zY,L8,f10,f6,f9,f11,CQ hi',lr,CQ hk',DR O5 JL EP hk',A4V,A4L,ha,DF k];exact⟨n2-1,U,k+1,u',U,AZ,AZ,AZ,AZ,AZ,he2,ho2⟩
    .rw[jI U] at hou
     refine AO ?_;exact⟨u,AZ,AZ,AZ,AZ,hx2,hou⟩
   clear f8 f6 f9;rintro F H' ⟨u,f8,f6,f9,f10,hx2,hou⟩;obtain⟨H3,hz,hx3,_,hkeep⟩:=mF (AYR _) hou hx2 57;obtain⟨v',H4,ha,ho2,_,he2,_,_⟩:=(outG_ext ho hx3).append (P:=jA) A10 AY8 A1Q A4E U (by rw[jV]; omega) (hxH.trans hx3) R[i];rw[<-jY hi'] at ho2;have ha':EG jA true H3 58 58 v (.sl .full 1 [eL R[i]])=some (v',H4):=ha;refine PG f8 f10 f9 @U4 hz @A4M ha' (DF i) ?_;exact⟨n-1,U,i+1,v',U,AZ,AZ,AZ,he2,ho2⟩
  .rw[jI U] at ho
   refine AO ?_;exact⟨v,AZ,hxH,ho⟩
 rintro F H ⟨v,f8,hxH,ho⟩;refine BC f8 ?_;refine⟨t.hx.trans hxH,?_⟩;show AV.tup [FN h.length H 2 v,_]=_;rw[KP AIF ho h.length 0 (by have:=t.hx.le; omega)]; rfl
end
def U7 (s:ByteArray)(l:List Ex):List AV:=[.n 1,.n 0,.str s,.sl (Cov.nm l) 12 (l.map EU),.sl .nil 0 []]
theorem AYA (s:ByteArray):Frz (U7 s):=fun _ _ _ _=>⟨rfl,rfl⟩
def zSt:List AV:=[.n 0,.n 0,.str ⟨#[]⟩,.sl .nil 0 [],.sl .nil 0 []]
def stR (v:AV):List AV:=[.n 2,.n 0,.str ⟨#[]⟩,.sl .nil 0 [],v]
theorem AMW (h:Hp):GM jA h 64=some (.ptr h.length 0 0,h++[zZ 5 [zSt]]):=FV (row:=zSt) A8
theorem AJI:G7 jA 64 []=some (.agg zSt):=A8
theorem AYO:G7 jA 64 [(0,.n 2)]=some (.agg (stR (.sl .nil 0 []))):=A8
theorem AYP (s:ByteArray)(m:SM)(xs:List (List AV)):G7 jA 64 [(0,.n 1),(2,.str s),(3,.sl m 12 xs)]=some (.agg [.n 1,.n 0,.str s,.sl m 12 xs,.sl .nil 0 []]):=A8
theorem A4N (h:Hp)(s:ByteArray)(m:SM)(xs:List (List AV)):C9 jA false h 62 1 [(0,.agg [.n 1,.n 0,.str s,.sl m 12 xs,.sl .nil 0 []])]=some (.sl .full 5 [[.n 1,.n 0,.str s,.sl m 12 xs,.sl .nil 0 []]],h):=A8
theorem tY {row cs:List AV}(hb:H[b]?=some (zZ 5 [row]))(hr:row.length=5)(hc:cs.length=5)(hl:cs.all AV.leaf=true):DW jA H 64 (.ptr b 0 0) (.agg cs)=some (H.set b (zZ 5 [cs])):=by
 rw[I9 (cs:=cs) (O7 hl) (by rw[hc]; exact ANV) hb (by rw[hr,hc]; exact jF 5)];have:splice row 0 cs=cs:=by unfold splice; rw[List.take_zero,List.drop_eq_nil_of_le (by rw[hr,hc]; exact jF 5)]; simp
 rw[this]
theorem ABH {row:List AV}(hb:h[b]?=some (zZ 5 [row]))(hr:row.length=5):BU jA h 64 (.ptr b 0 0)=some (.agg row):=by
 rw[EH A7R ANV hb rfl (by rw[hr]; exact jF 5),zI,<-hr,List.take_length]
theorem APM (hb:h[b]?=some (zZ 5 [stR v])):BU jA h 62 (.ptr b 0 4)=some v:=by rw[BL A5G hb (row:=stR v) rfl]; rfl
theorem iS {α:Type}{k:Nat}{f:α->List AV}{ys:List α}(ho:outG k f h ys v H):IL v=some [v]∧v.leaf=true:=by
 rcases ho with⟨_,rfl⟩|⟨_,o,_,rfl,_⟩<;>exact⟨rfl,rfl⟩
theorem AN7 {u:AV}(hb:H[b]?=some (zZ 5 [stR v]))(hu:IL u=some [u]):DW jA H 62 (.ptr b 0 4) u=some (H.set b (zZ 5 [stR u])):=by
 rw[I9 (cs:=[u]) hu A6E hb (jF 5)]; rfl
def stE (ins:Ex->List Rng->Ex)(s:ByteArray)(m:Mo)(x:Hl):Int:=if FD s=true then cnE ins m x else 7
def stL (ins:Ex->List Rng->Ex)(s:ByteArray)(m:Mo)(x:Hl):List (List Ex):=if FD s=true then itL ins m x else []
def stO (ins:Ex->List Rng->Ex)(s:ByteArray)(m:Mo)(x:Hl):Int:=if stE ins s m x=0 then 2 else 0
def stV (ins:Ex->List Rng->Ex)(s:ByteArray)(m:Mo)(x:Hl):AV:=.tup [.agg [.n (stO ins s m x),.n 0,.str ⟨#[]⟩,.sl .nil 0 [],.sl (Cov.nm (stL ins s m x)) 5 ((stL ins s m x).map (U7 s))],.n (stE ins s m x)]
def stW (ins:Ex->List Rng->Ex)(s:ByteArray)(m:Mo)(x:Hl):AV:=.tup [.agg [.n (stO ins s m x),.n 0,.str ⟨#[]⟩,.sl .nil 0 [],fzG 5 (U7 s) (stL ins s m x)],.n (stE ins s m x)]
theorem AN6 (ins:Ex->List Rng->Ex)(s:ByteArray)(m:Mo)(x:Hl):CvR (stW ins s m x) (stV ins s m x) :=
 CvR.tup (CvRL.cons (CvR.agg (CvRL.cons (CvR.refl _) (CvRL.cons (CvR.refl _) (CvRL.cons (CvR.refl _) (CvRL.cons (CvR.refl _) (CvRL.cons X3 CvRL.nil)))))) (CvRL.cons (CvR.refl _) CvRL.nil))
theorem AXW (h:FD s=false):stW ins s m x=.tup [.agg zSt,.n 7]:=by
 unfold stW stO stE stL;rw[h]; rfl
theorem AXX (h:FD s=true)(hz:cnE ins m x≠0):stW ins s m x=.tup [.agg zSt,.n (cnE ins m x)]:=by
 unfold stW stO stE stL itL;rw[if_pos h,if_pos h,if_neg hz,if_neg hz]; rfl
theorem AN5 (h:FD s=true)(hz:cnE ins m x=0):stW ins s m x=.tup [.agg (stR (fzG 5 (U7 s) (itL ins m x))),.n 0]:=by
 unfold stW stO stE stL;rw[if_pos h,if_pos h,hz]; rfl
theorem AH6 (h:cnE ins m x=0):(itL ins m x).length<=8:=by
 unfold itL; rw[if_pos h]; exact(nM (wT h)).1
section
variable (G:Nat->AV)
theorem AMY (hG:GOk G)(s:ByteArray)(hs:s.size<=1099511627776)(m:Mo)(hm:MoOk m)(x:Hl)(hn:x.bins.length<=1048576)(h:Hp):PCall (En G) 25 [.str s,.agg (DJ m),.agg (FQ x)] h (stV EI s m x):=by
 refine PCall.res ?_ (AN6 EI s m x);refine ACalls.pure (R:=fun v H=>Sm.ext h H∧FN h.length H 5 v=stW EI s m x) 5 ?_ (fun v H ⟨a,b⟩=>⟨a,b⟩);refine acL Tryz.func25 [.cell 6 64,.tmp 7] ?_;have t:=Hb.mk' h m x;have gm:=AL (x:=zZ 5 [zSt]) t.gm;have gh:=AL (x:=zZ 5 [zSt]) t.gh;have g6:=A7 (h++[zZ 2 [DJ m]]++[zZ 3 [FQ x]]) (zZ 5 [zSt]);have hx:=t.hx.app [zZ 5 [zSt]];have hl6:h.length<(h++[zZ 2 [DJ m]]++[zZ 3 [FQ x]]).length:=BA;clear t;refine DT @bxM @bxH AMW ?_
 generalize h++[zZ 2 [DJ m]]++[zZ 3 [FQ x]]++[zZ 5 [zSt]]=H0 at gm gh g6 hx|-
 generalize (h++[zZ 2 [DJ m]]++[zZ 3 [FQ x]]).length=b6 at g6 hl6|-
 generalize (h++[zZ 2 [DJ m]]).length=hb at gh|-
 have l6:=AC g6;refine(LH G hG.kw s H0 hs).use ?_;cases hq:FD s
 .refine BB @AJI (tY (cs:=zSt) g6 rfl rfl rfl) ?_
  rw[SA (ba:=b6) AQ (ABH (CP g6) rfl)];refine AO ?_;exact⟨hx.set U _,by rw[AXW hq]; rfl⟩
 refine BB (ldM gm) (ldH gh) ?_;refine(oG G hG m hm x hn H0).use ?_;unfold itV;cases bz:(cnE EI m x != 0)
 rotate_left
 .have hz:cnE EI m x≠0:=BN bz
  refine DT bz @AJI (tY (cs:=zSt) g6 rfl rfl rfl) ?_;rw[SA (ba:=b6) AQ (ABH (CP g6) rfl)];refine AO ?_;exact⟨hx.set U _,by rw[AXX hq hz]; rfl⟩
 have hz:cnE EI m x=0:=BN bz;rw[AN5 hq hz];have hR8:=AH6 hz
 generalize itL EI m x=R at hR8|-
 have gb:=A7 H0 (zZ 5 [stR (.sl .nil 0 [])]);have st1:=tY (H:=H0++[zZ 5 [zSt]]) (cs:=stR (.sl .nil 0 [])) (A7 H0 (zZ 5 [zSt])) rfl rfl rfl;rw[KC] at st1;have g6':=AL (x:=zZ 5 [stR (.sl .nil 0 [])]) g6;have hx':=hx.app [zZ 5 [stR (.sl .nil 0 [])]];refine I7 AUP bz @AYO AMW st1 ?_
 generalize H0++[zZ 5 [stR (.sl .nil 0 [])]]=H1 at gb g6' hx'|-
 generalize H0.length=ob at gb l6|-
 have lo:=AC gb;refine ET 0 (fun F H=>∃v,F 6=.ptr b6 0 0∧F 10=.ptr ob 0 0∧H[ob]?=some (zZ 5 [stR v])∧H[b6]?=some (zZ 5 [zSt])∧Sm.ext h H∧H1.length<=H.length∧outG 5 (U7 s) H1 R v H) (fun _ _=>False) ?_ ?_ (fun _ _ q=>q.elim)
 .refine BI (fun n F H=>∃i v,n+i=R.length∧F 0=.str s∧F 6=.ptr b6 0 0∧F 10=.ptr ob 0 0∧F 28=.sl (Cov.nm R) 1 (R.map UC)∧F 29=.n (R.length:Nat)∧F 30=.n (i:Nat)∧H[ob]?=some (zZ 5 [stR v])∧H[b6]?=some (zZ 5 [zSt])∧Sm.ext h H∧H1.length<=H.length∧outG 5 (U7 s) H1 (R.take i) v H) R.length
   ⟨0,.sl .nil 0 [],BA,AQ,AQ,AQ,AQ,AQ,AQ,gb,g6',hx',jF _,outG.nil _ _ _ _⟩ ?_
  rintro n F H ⟨i,v,hi,f0,f6,f10,f28,f29,f30,go,gz,hxH,hle,ho⟩;refine BB f29 f30 ?_;refine D8 ?_ ?_<;>intro hi'
  .have lr:BU jA H 61 (.fptr 1 (R.map UC) i 0)=some (.sl (Cov.nm R[i]) 12 (R[i].map EU)):=by rw[CG ADO hi']; rfl
   obtain⟨u',H5,ha,ho2,hkeep,hle2,_,_,hex⟩:=ho.app2 (P:=jA) A1Y ANV A1O A4C U (by rw[jV]; omega) hle R[i];have ha':EG jA true H 62 62 v (.sl .full 5 [[.n 1,.n 0,.str s,.sl (Cov.nm R[i]) 12 (R[i].map EU),.sl .nil 0 []]])=some (u',H5):=ha;rw[<-jY hi'] at ho2;have nb:∀b,b<H1.length->¬isB v b:=fun b hb q=>by have:=(ho.lt q).1; omega
   have go2:=hkeep ob _ go (nb _ lo);have gz2:=hkeep b6 _ gz (nb _ (AC g6'));have hx2:=hex h hx'.le hxH;simp -implicitDefEqProofs only[vQ,CV,LD,I8,↓reduceIte,jB,enP,APW,mT,jO,f28,f30,CQ hi',lr,f0,f10,APM go,AYP,A4N,ha',AN7 go2 (iS ho2).1,DF i];have hne:b6≠ob:=U;exact⟨n-1,U,i+1,u',U,AZ,AZ,AZ,AZ,AZ,AZ,CP go2,CZ gz2 hne,hx2.set U _,by rw[qX]; omega,ho2.setB lo _⟩
  .rw[jI U] at ho
   refine AO ?_;exact⟨v,AZ,AZ,go,gz,hxH,hle,ho⟩
 rintro F H ⟨v,f6,f10,go,gz,hxH,hle,ho⟩
 have hlf:(stR v).all AV.leaf=true:=by
  show([.n 2,.n 0,.str ⟨#[]⟩,.sl .nil 0 [],v]:List AV).all AV.leaf=true;simp [(iS ho).2]; and_intros<;>rfl
 refine E8 f6 f10 (ABH go rfl) (tY (cs:=stR v) gz rfl rfl hlf) ?_;rw[SA (ba:=b6) (EM f6) (ABH (CP gz) rfl)];refine AO ?_;refine⟨hxH.set U _,?_⟩;have ho4:=ho.setB (b:=b6) (AC g6') (zZ 5 [stR v]);have hz2:=KP (AYA s) ho4 h.length 1 (by have:=hx'.le; omega);show AV.tup [.agg [.n 2,.n 0,.str ⟨#[]⟩,.sl .nil 0 [],FN h.length _ 3 v],.n 0]=_;rw[hz2]; rfl
theorem ASX (s:ByteArray)(m:Mo)(hm:MoOk m)(x:Hl)(hn:x.bins.length<=1048576)(h:Hp):PCall (En G) 26 [.str s,.agg (DJ m),.agg (FQ x)] h (stV F7 s m x):=by
 refine PCall.res ?_ (AN6 F7 s m x);refine ACalls.pure (R:=fun v H=>Sm.ext h H∧FN h.length H 5 v=stW F7 s m x) 5 ?_ (fun v H ⟨a,b⟩=>⟨a,b⟩);refine H6 (H:=hint [42] []) (enM G) Tryz.func26 rfl (by kernel_rfl) (by kernel_rfl) (jC (by kernel_rfl)) ?_;show awp _ _ _ _ _ (LU _ [.cell 6 64,.tmp 7] _);have t:=Hb.mk' h m x;have gm:=AL (x:=zZ 5 [zSt]) t.gm;have gh:=AL (x:=zZ 5 [zSt]) t.gh;have g6:=A7 (h++[zZ 2 [DJ m]]++[zZ 3 [FQ x]]) (zZ 5 [zSt]);have hx:=t.hx.app [zZ 5 [zSt]];have hl6:h.length<(h++[zZ 2 [DJ m]]++[zZ 3 [FQ x]]).length:=BA;clear t;refine DT @bxM @bxH AMW ?_
 generalize h++[zZ 2 [DJ m]]++[zZ 3 [FQ x]]++[zZ 5 [zSt]]=H0 at gm gh g6 hx|-
 generalize (h++[zZ 2 [DJ m]]++[zZ 3 [FQ x]]).length=b6 at g6 hl6|-
 generalize (h++[zZ 2 [DJ m]]).length=hb at gh|-
 have l6:=AC g6;refine(OY G s H0).use ?_;cases hq:FD s
 .refine BB @AJI (tY (cs:=zSt) g6 rfl rfl rfl) ?_
  rw[SA (ba:=b6) AQ (ABH (CP g6) rfl)];refine AO ?_;exact⟨hx.set U _,by rw[AXW hq]; rfl⟩
 refine BB (ldM gm) (ldH gh) ?_;refine(tK G m hm x hn H0).use ?_;unfold itV;cases bz:(cnE F7 m x != 0)
 rotate_left
 .have hz:cnE F7 m x≠0:=BN bz
  refine DT bz @AJI (tY (cs:=zSt) g6 rfl rfl rfl) ?_;rw[SA (ba:=b6) AQ (ABH (CP g6) rfl)];refine AO ?_;exact⟨hx.set U _,by rw[AXX hq hz]; rfl⟩
 have hz:cnE F7 m x=0:=BN bz;rw[AN5 hq hz];have hR8:=AH6 hz
 generalize itL F7 m x=R at hR8|-
 have gb:=A7 H0 (zZ 5 [stR (.sl .nil 0 [])]);have st1:=tY (H:=H0++[zZ 5 [zSt]]) (cs:=stR (.sl .nil 0 [])) (A7 H0 (zZ 5 [zSt])) rfl rfl rfl;rw[KC] at st1;have g6':=AL (x:=zZ 5 [stR (.sl .nil 0 [])]) g6;have hx':=hx.app [zZ 5 [stR (.sl .nil 0 [])]];refine E8 bz @AYO AMW st1 ?_
 generalize H0++[zZ 5 [stR (.sl .nil 0 [])]]=H1 at gb g6' hx'|-
 generalize H0.length=ob at gb l6|-
 have lo:=AC gb;refine ET 0 (fun F H=>∃v,F 6=.ptr b6 0 0∧F 10=.ptr ob 0 0∧H[ob]?=some (zZ 5 [stR v])∧H[b6]?=some (zZ 5 [zSt])∧Sm.ext h H∧H1.length<=H.length∧outG 5 (U7 s) H1 R v H) (fun _ _=>False) ?_ ?_ (fun _ _ q=>q.elim)
 .refine BI (fun n F H=>∃i v,n+i=R.length∧F 0=.str s∧F 6=.ptr b6 0 0∧F 10=.ptr ob 0 0∧F 8=.sl (Cov.nm R) 1 (R.map UC)∧F 11=.n (i:Nat)∧H[ob]?=some (zZ 5 [stR v])∧H[b6]?=some (zZ 5 [zSt])∧Sm.ext h H∧H1.length<=H.length∧outG 5 (U7 s) H1 (R.take i) v H) R.length
   ⟨0,.sl .nil 0 [],BA,AQ,AQ,AQ,AQ,AQ,gb,g6',hx',jF _,outG.nil _ _ _ _⟩ ?_
  rintro n F H ⟨i,v,hi,f0,f6,f10,f8,f11,go,gz,hxH,hle,ho⟩;refine DT AUP f8 f11 ?_;refine D8 ?_ ?_<;>intro hi'
  .have lr:BU jA H 61 (.fptr 1 (R.map UC) i 0)=some (.sl (Cov.nm R[i]) 12 (R[i].map EU)):=by rw[CG ADO hi']; rfl
   obtain⟨u',H5,ha,ho2,hkeep,hle2,_,_,hex⟩:=ho.app2 (P:=jA) A1Y ANV A1O A4C U (by rw[jV]; omega) hle R[i];have ha':EG jA true H 62 62 v (.sl .full 5 [[.n 1,.n 0,.str s,.sl (Cov.nm R[i]) 12 (R[i].map EU),.sl .nil 0 []]])=some (u',H5):=ha;rw[<-jY hi'] at ho2;have nb:∀b,b<H1.length->¬isB v b:=fun b hb q=>by have:=(ho.lt q).1; omega
   have go2:=hkeep ob _ go (nb _ lo);have gz2:=hkeep b6 _ gz (nb _ (AC g6'));have hx2:=hex h hx'.le hxH;refine AO ?_;refine DV A8 ?_;simp -implicitDefEqProofs only[vQ,jW,jR,jS,zK,MN,VO,JD,NG,IY,CV,LD,I8,↓reduceIte,jB,jL,enP,APW,mT,jO,f8,f11,CQ hi',lr,f0,f10,APM go,AYP,A4N,ha',AN7 go2 (iS ho2).1,DF i];have hne:b6≠ob:=U;exact⟨n-1,U,i+1,u',U,AZ,AZ,AZ,AZ,AZ,CP go2,CZ gz2 hne,hx2.set U _,by rw[qX]; omega,ho2.setB lo _⟩
  .rw[jI U] at ho
   refine AO ?_;exact⟨v,AZ,AZ,go,gz,hxH,hle,ho⟩
 rintro F H ⟨v,f6,f10,go,gz,hxH,hle,ho⟩
 have hlf:(stR v).all AV.leaf=true:=by
  show([.n 2,.n 0,.str ⟨#[]⟩,.sl .nil 0 [],v]:List AV).all AV.leaf=true;simp [(iS ho).2]; and_intros<;>rfl
 refine E8 f6 f10 (ABH go rfl) (tY (cs:=stR v) gz rfl rfl hlf) ?_;rw[SA (ba:=b6) (EM f6) (ABH (CP gz) rfl)];refine AO ?_;refine⟨hxH.set U _,?_⟩;have ho4:=ho.setB (b:=b6) (AC g6') (zZ 5 [stR v]);have hz2:=KP (AYA s) ho4 h.length 1 (by have:=hx'.le; omega);show AV.tup [.agg [.n 2,.n 0,.str ⟨#[]⟩,.sl .nil 0 [],FN h.length _ 3 v],.n 0]=_;rw[hz2]; rfl
end
def zIt:List AV:=[.n 0,.n 0,.n 0,.str ⟨#[]⟩,.sl .nil 0 [],.str ⟨#[]⟩,.str ⟨#[]⟩,.sl .nil 0 [],.sl .nil 0 [],.sl .nil 0 [],.sl .nil 0 [],.sl .nil 0 []]
theorem al123 (h:Hp):GM jA h 123=some (.ptr h.length 0 0,h++[zZ 12 [zIt]]):=FV (row:=zIt) A8
theorem A3J (e:Ex):IL (.agg (EU e))=some (EU e):=by rw[KQ]; rfl
theorem AOD (A l:Hp)(e:Ex):DW jA (A++[zZ 12 [zIt]]++l) 123 (.ptr A.length 0 0) (.agg (EU e))=some (A++[zZ 12 [EU e]]++l):=by
 have hg:(A++[zZ 12 [zIt]]++l)[A.length]?=some (zZ 12 [zIt]):=BA;have hsp:splice zIt 0 (EU e)=EU e:=by rw[KQ]; rfl
 rw[I9 (A3J e) (by rw[MW]; exact cC) hg (by rw[MW]; exact jF 12),hsp];simp [List.set_append]
theorem AG8 (A:Hp)(e:Ex):DW jA (A++[zZ 12 [zIt]]) 123 (.ptr A.length 0 0) (.agg (EU e))=some (A++[zZ 12 [EU e]]):=by simpa using AOD A [] e
theorem AZK (A:Hp)(x:ABlk)(e:Ex):DW jA (A++[zZ 12 [zIt]]++[x]) 123 (.ptr A.length 0 0) (.agg (EU e))=some (A++[zZ 12 [EU e]]++[x]):=AOD A [x] e
theorem AZJ (A:Hp)(x:ABlk)(e:Ex):DW jA (A++[x]++[zZ 12 [zIt]]) 123 (.ptr (A.length+1) 0 0) (.agg (EU e))=some (A++[x]++[zZ 12 [EU e]]):=by
 have:=AG8 (A++[x]) e
 rwa [show(A++[x]).length=A.length+1 by simp] at this
section
variable {H:Hp} {b:Nat} {e:Ex} (hb:H[b]?=some (zZ 12 [EU e]))
include hb
theorem li:BU jA H 123 (.ptr b 0 0)=some (.agg (EU e)):=by
 rw[EH ADP cC hb (row:=EU e) rfl (by rw[MW]; exact jF 12),zI,<-MW e,List.take_length]
theorem li0:BU jA H 3 (.ptr b 0 0)=some (.n 1):=by rw[BL ag3 hb (row:=EU e) rfl]; rfl
theorem li1:BU jA H 79 (.ptr b 0 1)=some (.agg (AU e)):=by
 rw[EH O5 JL hb (row:=EU e) rfl (by rw[MW]; decide),KQ,EW]; rfl
theorem li2:BU jA H 9 (.ptr b 0 5)=some (.str ⟨#[]⟩):=by rw[BL ag9 hb (row:=EU e) rfl,KQ]; rfl
theorem li3:BU jA H 9 (.ptr b 0 6)=some (.str ⟨#[]⟩):=by rw[BL ag9 hb (row:=EU e) rfl,KQ]; rfl
theorem li4:BU jA H 120 (.ptr b 0 7)=some (.sl .nil 0 []):=by rw[BL ASQ hb (row:=EU e) rfl,KQ]; rfl
theorem li5:BU jA H 61 (.ptr b 0 8)=some (.sl .nil 0 []):=by rw[BL ADO hb (row:=EU e) rfl,KQ]; rfl
theorem li6:BU jA H 61 (.ptr b 0 9)=some (.sl .nil 0 []):=by rw[BL ADO hb (row:=EU e) rfl,KQ]; rfl
theorem li7:BU jA H 121 (.ptr b 0 10)=some (.sl .nil 0 []):=by rw[BL eA hb (row:=EU e) rfl,KQ]; rfl
theorem li8:BU jA H 121 (.ptr b 0 11)=some (.sl .nil 0 []):=by rw[BL eA hb (row:=EU e) rfl,KQ]; rfl
end
def Pr2 (A:Hp)(a b:Ex)(F:Fr)(H:Hp):Prop:=∃i j,F 6=.ptr i 0 0∧F 7=.ptr j 0 0∧H[i]?=some (zZ 12 [EU a])∧H[j]?=some (zZ 12 [EU b])∧Sm.ext A H
theorem A2R {a b:Ex}(h6:F 6=.ptr A.length 0 0)(h7:F 7=.ptr (A.length+1) 0 0):Pr2 A a b F (A++[zZ 12 [EU a]]++[zZ 12 [EU b]]) :=
 ⟨_,_,h6,h7,BA,BA,((ext.rfl' A).app _).app _⟩
theorem A2Q {a b:Ex}(h7:F 7=.ptr A.length 0 0)(h6:F 6=.ptr (A.length+1) 0 0):Pr2 A a b F (A++[zZ 12 [EU b]]++[zZ 12 [EU a]]) :=
 ⟨_,_,h6,h7,BA,BA,((ext.rfl' A).app _).app _⟩
section
variable (G:Nat->AV)
theorem qH (h:Hp):PCall (En G) 135 [.sl .nil 0 [],.sl .nil 0 []] h (.bool true):=by
 refine ACalls.pure0 rfl ?_;refine acT Tryz.func135 4 ?_;simp -implicitDefEqProofs only[vQ,CV,↓reduceIte,jB,zW,enP,AHY,zJ,bne,beq_self_eq_true];refine BI (fun n F H'=>F 0=.sl .nil 0 []∧F 5=.n 0∧H'=h) 0 ⟨AQ,AQ,rfl⟩ ?_;rintro n F H' ⟨f0,f5,rfl⟩;refine MH f0 f5 ?_;refine CE (fun hc=>absurd hc D5) (fun _=>?_);refine AO ?_;exact⟨AZ,ext.rfl' _⟩
theorem xV (h:Hp):PCall (En G) 134 [.sl .nil 0 [],.sl .nil 0 []] h (.bool true):=by
 refine ACalls.pure0 rfl ?_;refine acT Tryz.func134 4 ?_;simp -implicitDefEqProofs only[vQ,CV,↓reduceIte,jB,zW,enP,ABD,zJ,bne,beq_self_eq_true];refine BI (fun n F H'=>F 0=.sl .nil 0 []∧F 5=.n 0∧H'=h) 0 ⟨AQ,AQ,rfl⟩ ?_;rintro n F H' ⟨f0,f5,rfl⟩;refine KF ABD f0 f5 ?_;refine CE (fun hc=>absurd hc D5) (fun _=>?_);refine AO ?_;exact⟨AZ,ext.rfl' _⟩
theorem yV (h:Hp):PCall (En G) 65 [.sl .nil 0 [],.sl .nil 0 []] h (.bool true):=by
 refine ACalls.pure0 rfl ?_;refine acT Tryz.func65 4 ?_;simp -implicitDefEqProofs only[vQ,CV,↓reduceIte,jB,zW,enP,uU,zJ,bne,beq_self_eq_true];refine BI (fun n F H'=>F 0=.sl .nil 0 []∧F 5=.n 0∧H'=h) 0 ⟨AQ,AQ,rfl⟩ ?_;rintro n F H' ⟨f0,f5,rfl⟩;refine KF uU f0 f5 ?_;refine CE (fun hc=>absurd hc D5) (fun _=>?_);refine AO ?_;exact⟨AZ,ext.rfl' _⟩
theorem AON (s u:SM)(a b:List Ex)(ha:a.length<=1048576)(hw:∀e∈a,wt e<=269000000)(hab:a.map cpE=b.map cpE)(h:Hp):PCall (En G) 65 [.sl s 12 (a.map EU),.sl u 12 (b.map EU)] h (.bool true):=by
 refine ACalls.pure0 rfl ?_;refine H6 (H:=hint [6,7] []) (enM G) Tryz.func65 rfl (by kernel_rfl) (by kernel_rfl) (jC (by kernel_rfl)) ?_;show awp _ _ _ _ _ (LU _ [.tmp 4] _);have hl:a.length=b.length:=by have:=congrArg List.length hab; simpa using this
 simp -implicitDefEqProofs only[vQ,jW,jR,jS,zK,CV,↓reduceIte,jB,zW,enP,uU,jJ,hl,bne,beq_self_eq_true];refine BI (fun n F H=>∃i,n+i=a.length∧F 0=.sl s 12 (a.map EU)∧F 1=.sl u 12 (b.map EU)∧F 5=.n (i:Nat)∧Sm.ext h H) a.length ⟨0,BA,AQ,AQ,AQ,ext.rfl' _⟩ ?_;rintro n F H ⟨i,hi,f0,f1,f5,hx⟩;refine DT uU f0 f5 ?_;refine CE ?_ ?_<;>intro hc
 rotate_left
 .refine AO ?_
  exact⟨AZ,hx⟩
 have hi':i<a.length:=BN hc;have hj':i<b.length:=U
 have hce:cpE a[i]=cpE b[i]:=by
  have e1:(a.map cpE)[i]?=(b.map cpE)[i]? := by rw[hab]
  rw[jZ,jZ,jM hi',jM hj'] at e1;simpa using e1
 have hwe:=hw _ (jH hi');have k1:∀x:ABlk,(H++[x]).length=H.length+1:=fun x=>BA
 refine AO ?_;refine dW (fun F' H'=>Pr2 H a[i] b[i] F' H'∧F' 0=.sl s 12 (a.map EU)∧F' 1=.sl u 12 (b.map EU)∧F' 5=.n (i:Nat)) (fun _ _=>False) ?_ ?_ (fun _ _ q=>q.elim)
 .refine fN (.ones [0,1,2,3,4,5,6] (.alt 7 (.alt 8 (.ones [9,10,11] .done) (.alt 9 (.ones [8,10,11] .done) .non)) (.alt 8 (.alt 7 (.ones [9,10,11] .done) (.alt 9 (.alt 7 (.ones [10,11] .done) (.alt 10 (.ones [7,11] .done) .non)) .non)) (.alt 9 (.alt 7 (.ones [8,10,11] .done) (.alt 8 (.alt 7 (.ones [10,11] .done) (.alt 10 (.ones [7,11] .done) .non)) .non)) .non)))) A8 ?_
  simp only[DN,MR,List.getElem?_cons_succ,wK]
  repeat' first
   | with_reducible exact trivial
   | with_reducible refine And.intro (A2R ?_ ?_) ?_
   | with_reducible refine And.intro (A2Q ?_ ?_) ?_
   | with_reducible refine And.intro ?_ ?_
   | simp -implicitDefEqProofs only[vQ,jW,jR,jS,zK,Bool.or_true,MN,iN,NG,ABA,↓reduceIte,jB,jL,enP,AZ7,jO,f0,f1,f5,CQ hi',CQ hj',DR ADP cC MW hi',DR ADP cC MW hj',al123,k1,AG8,AZK,AZJ,AUX,AUY]
   | rfl
 clear f0 f1 f5;rintro F H' ⟨⟨p,q,f6,f7,g6,g7,hx2⟩,f0,f1,f5⟩;simp -implicitDefEqProofs only[vQ,jW,jR,jS,zK,EJ,CV,VD,↓reduceIte,jB,zW,enP,dI,AI0,AIZ,AIY,f6,f7,li0 g6,li0 g7,li2 g6,li2 g7,li3 g6,li3 g7,li1 g6,li1 g7,bne,beq_self_eq_true];refine(AEJ G (wt a[i]) a[i] b[i] H' (jF _) U hce).use ?_;refine I7 @AIX f6 f7 (li4 g6) (li4 g7) ?_;refine(xV G H').use ?_;refine I7 @AIW f6 f7 (li7 g6) (li7 g7) ?_;refine(qH G H').use ?_;refine I7 @AIV f6 f7 (li8 g6) (li8 g7) ?_;refine(qH G H').use ?_;refine I7 @jN f6 f7 (li5 g6) (li5 g7) ?_;refine(yV G H').use ?_;refine I7 @iZ f6 f7 (li6 g6) (li6 g7) ?_;refine(yV G H').use ?_;refine BB f5 (DF i) ?_;exact⟨n-1,U,i+1,U,AZ,AZ,AZ,hx.trans hx2⟩
theorem kS (s u:SM)(a b:List Ex)(ha:a.length<=1048576)(hw:∀e∈a,wt e<=269000000)(hab:a.map cpE=b.map cpE)(h:Hp):PCall (En G) 27 [.sl s 12 (a.map EU),.sl u 12 (b.map EU)] h (.bool true):=by
 refine ACalls.pure0 rfl ?_;refine acT Tryz.func27 4 ?_;refine AO ?_;refine(AON G s u a b ha hw hab h).uu ?_;exact⟨AZ,ext.rfl' _⟩
end
theorem APP {α:Type}(a:α)(l r:List α):List.append (a::l) r=a::List.append l r:=rfl
theorem AU0 {α:Type}(r:List α):List.append [] r=r:=rfl
theorem ANF {E:Env}{own:Bool}{c:Fr->AV->Hp->Prop}(t:TypeId)(m k x:Operand):X1 E own (.insert t m k x) (F,h) c=IQ (ofS (O8 E.P h t (ev E F m) (ev E F k) (ev E F x))) (c F):=rfl
def uR (a b c d e f g:Bool):List AV:=[.bool a,.bool b,.bool c,.bool d,.bool e,.bool f,.bool g]
def uH:List AV:=uR true false false false false false false
def uD:List AV:=uR false true false true false false false
def uI:List AV:=uR true false false false true true false
def uE:List AV:=uR false true true false true false false
def uS:List AV:=uR false false false false false false true
def uZ:List AV:=uR false false false false false false false
theorem bdH:G7 jA 194 [(0,.bool true)]=some (.agg uH):=A8
theorem bdD:G7 jA 194 [(1,.bool true),(3,.bool true)]=some (.agg uD):=A8
theorem bdI:G7 jA 194 [(0,.bool true),(4,.bool true),(5,.bool true)]=some (.agg uI):=A8
theorem bdE:G7 jA 194 [(1,.bool true),(2,.bool true),(4,.bool true)]=some (.agg uE):=A8
theorem bdS:G7 jA 194 [(6,.bool true)]=some (.agg uS):=A8
def kdL:List (AV×AV):=[(.n 1,.agg uH),(.n 2,.agg uH),(.n 3,.agg uD),(.n 4,.agg uI),(.n 5,.agg uE),(.n 6,.agg uS)]
theorem AXN:Tryz.prog.underlying 196=some (.map 3 194):=A8
theorem kt3 (k:Int):lU jA 3 (.n k)=true:=A8
theorem rP {es:List (AV×AV)}{k:Int}(hf:U6 jA 3 (.n k) es=some none):O8 jA (h++[.map es]) 196 (.mp h.length) (.n k) v=some (h++[.map (es++[(.n k,v)])]):=by
 have hg:(h++[ABlk.map es])[h.length]?=some (.map es):=BA;unfold O8;rw[AXN];simp only[hg,kt3,if_true,hf];simp [List.set_append]
theorem AHZ (hb:H[b]?=some (.map kdL)):OB jA H 196 (.mp b) (.n 1) true=some (.tup [.agg uH,.bool true]):=by
 have hf:U6 jA 3 (.n 1) kdL=some (some 0):=A8;unfold OB;rw[AXN];simp only[hb,kt3,if_true,hf];rfl
theorem A5C (h:Hp):GM jA h 194=some (.ptr h.length 0 0,h++[zZ 7 [uZ]]):=FV (row:=uZ) A8
theorem AOC (A l:Hp):DW jA (A++[zZ 7 [uZ]]++l) 194 (.ptr A.length 0 0) (.agg uH)=some (A++[zZ 7 [uH]]++l):=by
 have hg:(A++[zZ 7 [uZ]]++l)[A.length]?=some (zZ 7 [uZ]):=BA;rw[I9 (cs:=uH) rfl AXU hg (jF 7),show splice uZ 0 uH=uH from rfl];simp [List.set_append]
theorem AZI (A:Hp)(x:ABlk):DW jA (A++[zZ 7 [uZ]]++[x]) 194 (.ptr A.length 0 0) (.agg uH)=some (A++[zZ 7 [uH]]++[x]):=AOC A [x]
theorem AZH (A:Hp)(x:ABlk):DW jA (A++[x]++[zZ 7 [uZ]]) 194 (.ptr (A.length+1) 0 0) (.agg uH)=some (A++[x]++[zZ 7 [uH]]):=by
 have:=AOC (A++[x]) [];rw[show(A++[x]).length=A.length+1 by simp] at this;simpa using this
theorem bxU (h:Hp):MI h (.agg uH)=some (.ptr h.length 0 0,h++[zZ 7 [uH]]):=SC rfl
theorem A4J (h:Hp)(e:Ex):MI h (.agg (EU e))=some (.ptr h.length 0 0,h++[zZ 12 [EU e]]):=by
 have:=SC (h:=h) (cs:=EU e) (by rw[KQ]; rfl)
 rwa [MW] at this
def plR (d:Int):List AV:=[.n d,.sl .nil 0 []]
theorem A09 (h:Hp)(d:Int):MI h (.agg (plR d))=some (.ptr h.length 0 0,h++[zZ 2 [plR d]]):=SC rfl
theorem AYT (h:Hp):GM jA h 128=some (.ptr h.length 0 0,h++[zZ 2 [plR 0]]):=FV (row:=plR 0) A8
theorem A44 (d:Int):G7 jA 128 [(0,.n d),(1,.sl .nil 0 [])]=some (.agg (plR d)):=A8
theorem A1C:G7 jA 128 []=some (.agg (plR 0)):=A8
theorem AXZ (A:Hp)(d c:Int):DW jA (A++[zZ 2 [plR d]]) 128 (.ptr A.length 0 0) (.agg (plR c))=some (A++[zZ 2 [plR c]]):=by
 rw[I9 (cs:=plR c) rfl AXV (A7 A (zZ 2 [plR d])) (jF 2),show splice (plR d) 0 (plR c)=plR c from rfl,KC]
theorem AUT (hb:H[b]?=some (zZ 2 [plR d])):BU jA H 128 (.ptr b 0 0)=some (.agg (plR d)):=by
 rw[EH A5R AXV hb (row:=plR d) rfl (jF 2)]; rfl
theorem AX3 (hb:H[b]?=some (zZ 2 [plR d])):BU jA H 3 (.ptr b 0 0)=some (.n d):=by rw[BL ag3 hb (row:=plR d) rfl]; rfl
theorem A29 (hb:H[b]?=some (zZ 2 [plR d])):BU jA H 121 (.ptr b 0 1)=some (.sl .nil 0 []):=by rw[BL eA hb (row:=plR d) rfl]; rfl
theorem ldU (hb:H[b]?=some (zZ 7 [uH])):BU jA H 194 (.ptr b 0 0)=some (.agg uH):=by
 rw[EH A5O AXU hb (row:=uH) rfl (jF 7)]; rfl
theorem AFA (hb:H[b]?=some (zZ 7 [uH]))(hv:uH[i]?=some v):BU jA H 4 (.ptr b 0 i)=some v:=by
 rw[BL ag4 hb (row:=uH) rfl]; exact hv
section
variable (G:Nat->AV)
theorem AFC (h:Hp):ACalls (En G) 137 [] h (fun v H=>v=.mp h.length∧H=h++[.map kdL]):=by
 refine acT Tryz.func137 0 ?_;have m1:=fun v=>rP (h:=h) (es:=[]) (k:=1) (v:=v) A8
 have m2:=fun v=>rP (h:=h) (es:=[(.n 1,.agg uH)]) (k:=2) (v:=v) A8
 have m3:=fun v=>rP (h:=h) (es:=[(.n 1,.agg uH),(.n 2,.agg uH)]) (k:=3) (v:=v) A8
 have m4:=fun v=>rP (h:=h) (es:=[(.n 1,.agg uH),(.n 2,.agg uH),(.n 3,.agg uD)]) (k:=4) (v:=v) A8
 have m5:=fun v=>rP (h:=h) (es:=[(.n 1,.agg uH),(.n 2,.agg uH),(.n 3,.agg uD),(.n 4,.agg uI)]) (k:=5) (v:=v) A8
 have m6:=fun v=>rP (h:=h) (es:=[(.n 1,.agg uH),(.n 2,.agg uH),(.n 3,.agg uD),(.n 4,.agg uI),(.n 5,.agg uE)]) (k:=6) (v:=v) A8
 simp only[List.nil_append,List.cons_append] at m1 m2 m3 m4 m5 m6;simp -implicitDefEqProofs only[vQ,CV,ASG,LD,AJV,↓reduceIte,jB,enP,jO,ANF,bdH,bdD,bdI,bdE,bdS,m1,m2,m3,m4,m5,m6];exact⟨AZ,AZ⟩
theorem AOZ (e:Ex)(h:Hp):PCall (En G) 138 [.agg (EU e),.agg uH] h (.bool true):=by
 refine ACalls.pure0 rfl ?_;refine acT Tryz.func138 4 ?_;have g2:=AL (x:=zZ 7 [uH]) (A7 h (zZ 12 [EU e]));have g3:=A7 (h++[zZ 12 [EU e]]) (zZ 7 [uH]);have hx:Sm.ext h (h++[zZ 12 [EU e]]++[zZ 7 [uH]]):=((ext.rfl' h).app _).app _;refine BB @A4J @bxU ?_
 generalize h++[zZ 12 [EU e]]++[zZ 7 [uH]]=H at g2 g3 hx|-
 generalize (h++[zZ 12 [EU e]]).length=ub at g3|-
 simp -implicitDefEqProofs only[vQ,EJ,Q9,eE,CV,GG,bG,NT,↓reduceIte,jB,enP,uU,ABD,AHY,AIZ,AIY,AIX,jN,iZ,AIW,AIV,AVR,AVQ,AVP,AVO,AVN,AVM,AVL,APP,AU0,AFA (i:=0) g3 rfl,AFA (i:=1) g3 rfl,AFA (i:=2) g3 rfl,AFA (i:=3) g3 rfl,AFA (i:=4) g3 rfl,AFA (i:=5) g3 rfl,AFA (i:=6) g3 rfl,li2 g2,li3 g2,li4 g2,li5 g2,li6 g2,li7 g2,li8 g2,zJ,beq_self_eq_true,show IntKind.i64.wrap (((0:Nat):Int)+((0:Nat):Int))=0 from rfl,show((((0:Nat):Int))==0)=true from rfl];exact⟨AZ,hx⟩
def Shp (A:Hp)(p q:AV)(F:Fr)(H:Hp):Prop:=∃j,F 5=.ptr j 0 0∧H[j]?=some (zZ 7 [uH])∧F 6=.bool true∧F 2=p∧F 3=q∧Sm.ext A H
theorem A2G {p q:AV}{x:ABlk}(h5:F 5=.ptr A.length 0 0)(h6:F 6=.bool true)(h2:F 2=p)(h3:F 3=q):Shp A p q F (A++[zZ 7 [uH]]++[x]) :=
 ⟨_,h5,BA,h6,h2,h3,((ext.rfl' A).app _).app _⟩
theorem A2F {p q:AV}{x:ABlk}(h5:F 5=.ptr (A.length+1) 0 0)(h6:F 6=.bool true)(h2:F 2=p)(h3:F 3=q):Shp A p q F (A++[x]++[zZ 7 [uH]]) :=
 ⟨_,h5,BA,h6,h2,h3,((ext.rfl' A).app _).app _⟩
theorem AOH (hG:GOk G)(e:Ex)(hw:WN e)(he:exE e=0)(h:Hp):PCall (En G) 68 [.agg (EU e),.agg (plR 0)] h (.n 0):=by
 refine ACalls.pure0 rfl ?_;refine H6 (H:=hint [5,1000011] []) (enM G) Tryz.func68 rfl (by kernel_rfl) (by kernel_rfl) (jC (by kernel_rfl)) ?_;show awp _ _ _ _ _ (LU _ [.tmp 4] _);have g2:=AL (x:=zZ 2 [plR 0]) (A7 h (zZ 12 [EU e]));have g3:=A7 (h++[zZ 12 [EU e]]) (zZ 2 [plR 0]);have hx:Sm.ext h (h++[zZ 12 [EU e]]++[zZ 2 [plR 0]]):=((ext.rfl' h).app _).app _;refine BB @A4J @A09 ?_
 generalize h++[zZ 12 [EU e]]++[zZ 2 [plR 0]]=A at g2 g3 hx|-
 generalize (h++[zZ 12 [EU e]]).length=pb at g3|-
 generalize h.length=ib at g2|-
 refine dW (fun F H=>Shp A (.ptr ib 0 0) (.ptr pb 0 0) F H) (fun _ _=>False) ?_ ?_ (fun _ _ q=>q.elim)
 .have k1:∀x:ABlk,(A++[x]).length=A.length+1:=fun x=>BA
  have i0:=fun x:ABlk=>li0 (AL (x:=x) g2)
  have i1:=fun x y:ABlk=>li0 (AL (x:=y) (AL (x:=x) g2))
  have l0:∀H:Hp,H[A.length]?=some (.map kdL)->OB jA H 196 (.mp A.length) (.n 1) true=some (.tup [.agg uH,.bool true]):=fun H q=>AHZ q
  have j0:∀x,OB jA (A++[.map kdL]++[x]) 196 (.mp A.length) (.n 1) true=some (.tup [.agg uH,.bool true]):=fun x=>AHZ BA
  have j1:OB jA (A++[.map kdL]) 196 (.mp A.length) (.n 1) true=some (.tup [.agg uH,.bool true]):=AHZ BA;have j2:∀x,OB jA (A++[x]++[.map kdL]) 196 (.mp (A.length+1)) (.n 1) true=some (.tup [.agg uH,.bool true]):=fun x=>AHZ BA
  refine fN (.ones [1] (.alt 0 (.ones [2,3,4,5,6,7,8,9] .done) (.alt 2 (.alt 0 (.ones [3,4,5,6,7,8,9] .done) (.alt 7 (.alt 0 (.ones [3,4,5,6,8,9] .done) .non) .non)) (.alt 7 (.alt 0 (.ones [2,3,4,5,6,8,9] .done) (.alt 2 (.alt 0 (.ones [3,4,5,6,8,9] .done) .non) .non)) .non)))) A8 ?_;simp only[DN,MR,List.getElem?_cons_succ,wK]
  repeat' first
   | with_reducible exact trivial
   | with_reducible exact A2G AQ AQ AQ AQ
   | with_reducible exact A2F AQ AQ AQ AQ
   | with_reducible refine And.intro ?_ ?_
   | (refine(AFC G _).mono ?_; rintro v H ⟨rfl,rfl⟩)
   | simp -implicitDefEqProofs only[vQ,wK,List.getElem?_cons_succ,jW,jR,jS,zK,MN,KH,iN,NG,YS,ABA,QA,WE,ANE,AM8,↓reduceIte,jB,jL,enP,dI,jO,li0 g2,i0,i1,A5C,k1,j0,j1,j2,AZI,AZH,AUX,AUY]
 rintro F H ⟨j,f5,gj,f6,f2,f3,hx2⟩;have g2:=ED hx2 g2;have g3:=ED hx2 g3;refine I7 f6 f2 f5 (li g2) (ldU gj) ?_;refine(AOZ G e H).use ?_;simp -implicitDefEqProofs only[vQ,jW,jR,jS,zK,EJ,aC,AGT,CV,GG,bV,RF,↓reduceIte,jB,zW,enP,dI,AI0,AIU,f3,f2,AX3 g3,li0 g2,show decide ((0:Int)>4)=false from rfl,show decide ((0:Int)>0)=false from rfl,show((1:Int)==3)=false from rfl,show((1:Int)==6)=false from rfl,show((1:Int)==5)=false from rfl,li1 g2];refine(UQ G hG e H hw).uu ?_;exact⟨by rw[he],hx.trans hx2⟩
theorem size_nil (h:Hp):PCall (En G) 66 [.sl .nil 0 []] h (.n 0):=by
 refine ACalls.pure0 rfl ?_;refine acT Tryz.func66 2 ?_;refine TM uU ?_;refine BI (fun n F H'=>F 3=.n 0∧F 7=.n 0∧F 8=.n 0∧H'=h) 0 ⟨AQ,AQ,AQ,rfl⟩ ?_;rintro n F H' ⟨f3,f7,f8,rfl⟩;refine BB f7 f8 ?_;refine CE (fun hc=>absurd hc D5) (fun _=>?_);refine BC f3 ?_;exact⟨AZ,ext.rfl' _⟩
theorem AOG (s:SM)(a:List Ex)(ha:a.length<=1048576)(h:Hp):PCall (En G) 66 [.sl s 12 (a.map EU)] h (.n (a.length:Nat)):=by
 refine ACalls.pure0 rfl ?_;refine acT Tryz.func66 2 ?_;refine BC uU ?_;refine BI (fun n F H=>∃i,n+i=a.length∧F 3=.n (i:Nat)∧F 6=.sl s 12 (a.map EU)∧F 7=.n (a.length:Nat)∧F 8=.n (i:Nat)∧Sm.ext h H) a.length ⟨0,BA,AQ,AQ,AQ,AQ,ext.rfl' _⟩ ?_;rintro n F H ⟨i,hi,f3,f6,f7,f8,hx⟩;refine BB f7 f8 ?_;refine CE ?_ ?_<;>intro hc
 rotate_left
 .have hi':¬i<a.length:=BN hc
  obtain rfl:i=a.length:=U;refine BC f3 ?_;exact⟨AZ,hx⟩
 have hi':i<a.length:=BN hc;have hx1:=hx.app [zZ 12 [EU a[i]]];have ga:=A7 H (zZ 12 [EU a[i]]);simp -implicitDefEqProofs only[vQ,CV,↓reduceIte,jB,enP,AZ7,jO,f6,f8,CQ hi',DR ADP cC MW hi',al123,AG8]
 generalize H++[zZ 12 [EU a[i]]]=H1 at hx1 ga|-
 generalize H.length=ib at ga|-
 refine DV A8 ?_;refine DT @jN f3 (li5 ga) ?_;refine⟨_,size_nil G H1,?_⟩;refine BB @iZ (li6 ga) ?_;refine⟨_,size_nil G H1,?_⟩
 have w1:IntKind.i64.wrap ((i:Nat)+IntKind.i64.wrap (IntKind.i64.wrap (1+0)+0))=((i+1:Nat):Int):=by
  rw[show IntKind.i64.wrap (IntKind.i64.wrap (1+0)+0)=1 from rfl]; exact wrap_succ (U:i<9223372036854775807)
 refine DT f8 w1 (DF i) ?_;exact⟨n-1,U,i+1,U,AZ,AZ,AZ,AZ,hx1⟩
theorem walk_nil (d:Int)(v:AV)(h:Hp):PCall (En G) 67 [.sl .nil 0 [],.agg (plR d),v] h (.n 0):=by
 refine ACalls.pure0 rfl ?_;refine acT Tryz.func67 6 ?_;refine MH uU @A09 ?_;refine BI (fun n F H'=>F 15=.n 0∧F 16=.n 0∧H'=h++[zZ 2 [plR d]]) 0 ⟨AQ,AQ,rfl⟩ ?_;rintro n F H' ⟨f15,f16,rfl⟩;refine BB f15 f16 ?_;refine CE (fun hc=>absurd hc D5) (fun _=>?_);refine AO ?_;exact⟨AZ,(ext.rfl' _).app _⟩
theorem ANK (hG:GOk G)(s:SM)(a:List Ex)(ha:a.length<=1048576)(hw:∀e∈a,WN e∧exE e=0)(h:Hp):PCall (En G) 67 [.sl s 12 (a.map EU),.agg (plR 0),.fn (.func 68) [] []] h (.n 0):=by
 refine ACalls.pure0 rfl ?_;refine acT Tryz.func67 6 ?_;have gp:=A7 h (zZ 2 [plR 0]);have hx0:=Sm.ext.r1 h (zZ 2 [plR 0]);refine BB uU @A09 ?_
 generalize h++[zZ 2 [plR 0]]=H0 at gp hx0|-
 generalize h.length=pb at gp|-
 refine BI (fun n F H=>∃i,n+i=a.length∧F 2=.fn (.func 68) [] []∧F 4=.ptr pb 0 0∧F 14=.sl s 12 (a.map EU)∧F 15=.n (a.length:Nat)∧F 16=.n (i:Nat)∧Sm.ext H0 H) a.length ⟨0,BA,AQ,AQ,AQ,AQ,AQ,ext.rfl' _⟩ ?_;rintro n F H ⟨i,hi,f2,f4,f14,f15,f16,hx⟩;refine BB f15 f16 ?_;refine CE ?_ ?_<;>intro hc
 rotate_left
 .refine AO ?_
  exact⟨AZ,hx0.trans hx⟩
 have hi':i<a.length:=BN hc;obtain⟨hwe,hee⟩:=hw _ (jH hi');have hx1:=hx.app [zZ 12 [EU a[i]]];have ga:=A7 H (zZ 12 [EU a[i]]);simp -implicitDefEqProofs only[vQ,CV,↓reduceIte,jB,enP,AZ7,jO,f14,f16,CQ hi',DR ADP cC MW hi',al123,AG8]
 generalize H++[zZ 12 [EU a[i]]]=H1 at hx1 ga|-
 generalize H.length=ib at ga|-
 have gp1:=ED hx1 gp;refine E8 f2 f4 (li ga) (AUT gp1) ?_;refine(AOH G hG a[i] hwe hee H1).use ?_;have hx2:=hx1.app [zZ 2 [plR 0]];have gq:=A7 H1 (zZ 2 [plR 0]);have ga2:=AL (x:=zZ 2 [plR 0]) ga;refine YN @dI @AIU @AVS (show((0:Int) != 0)=false from rfl) f4 (AX3 gp1) (A29 gp1) A44 AYT AXZ ?_
 generalize H1++[zZ 2 [plR 0]]=H2 at hx2 gq ga2|-
 generalize H1.length=qb at gq|-
 have hx3:=hx2.app [zZ 2 [plR 0]];have gr:=A7 H2 (zZ 2 [plR 0]);have gq2:=AL (x:=zZ 2 [plR 0]) gq;have ga3:=AL (x:=zZ 2 [plR 0]) ga2;refine P7 @dI (li0 ga2) (show((1:Int)==4)=false from rfl) (show((1:Int)==5)=false from rfl) (AUT gq) AYT AXZ ?_
 generalize H2++[zZ 2 [plR 0]]=H3 at hx3 gr gq2 ga3|-
 generalize H2.length=rb at gr|-
 refine MV @jN (li0 ga3) (show((1:Int)==5)=false from rfl) (li5 ga3) (AUT gq2) f2 ?_;refine(walk_nil G 0 _ H3).use ?_;refine I7 @iZ (show((0:Int) != 0)=false from rfl) (li6 ga3) (AUT gr) f2 ?_;refine(walk_nil G 0 _ H3).use ?_;refine DT (show((0:Int) != 0)=false from rfl) f16 (DF i) ?_;exact⟨n-1,U,i+1,U,AZ,AZ,AZ,AZ,AZ,hx3⟩
theorem AJ2 (hG:GOk G)(s:SM)(a:List Ex)(ha:a.length<=64)(hw:∀e∈a,WN e∧exE e=0)(h:Hp):PCall (En G) 28 [.sl s 12 (a.map EU)] h (.n 0):=by
 refine ACalls.pure0 rfl ?_;refine acT Tryz.func28 2 ?_;refine AO ?_;refine(AOG G s a U h).use ?_;refine BB (show decide (((a.length:Nat):Int)>64)=false by simp; omega) @A1C ?_;refine(ANK G hG s a U hw h).uu ?_;exact⟨AZ,ext.rfl' _⟩
end
theorem A3I:(itL ins m x).length<=8∧∀r∈itL ins m x,r.length<=8∧∀e∈r,exE e=0:=by
 by_cases h:cnE ins m x=0
 .have hv:=wT h
  obtain⟨h1,h2⟩:=nM (ins:=ins) hv;unfold itL;rw[if_pos h];refine⟨h1,fun r hr=>⟨h2 r hr,fun e he=>?_⟩⟩;unfold cnE at h;rw[if_pos hv] at h;cases q:(cnL ins m x).flatten.all fun e=>exE e==0
  .rw[q] at h; cases h
  .rw[zH] at q
   simpa using q e (List.mem_flatten.2 ⟨r,hr,he⟩)
 .unfold itL
  rw[if_neg h];exact⟨qF _,fun r hr=>by cases hr⟩
theorem AP0 (m:Mo)(x:Hl):eqC (itL EI m x) (itL F7 m x):=by
 unfold itL;by_cases h:cnE EI m x=0
 .rw[if_pos h,if_pos (by rw[<-wU]; exact h)]; exact ACY (wT h)
 .rw[if_neg h,if_neg (by rw[<-wU]; exact h)]; rfl
theorem AVX {a b:List (List Ex)}(h:eqC a b)(h1:i<a.length)(h2:i<b.length):a[i].map cpE=b[i].map cpE:=by
 have:=vW h i;rw[jM h1,jM h2] at this;exact this
theorem AN8 (s:ByteArray)(m:Mo)(x:Hl):stE EI s m x=stE F7 s m x:=by unfold stE; rw[wU]
theorem AZD (s:ByteArray)(m:Mo)(x:Hl):stO EI s m x=stO F7 s m x:=by unfold stO; rw[AN8]
theorem AZE (s:ByteArray)(m:Mo)(x:Hl):(stL EI s m x).length=(stL F7 s m x).length:=by
 unfold stL;split
 .exact dK (AP0 m x)
 .rfl
theorem AZF (h:i<(stL ins s m x).length):∃h2:i<(itL ins m x).length,(stL ins s m x)[i]=(itL ins m x)[i]:=by
 have e:stL ins s m x=itL ins m x:=by
  unfold stL at h|-
  split
  .rfl
  .rename_i q; rw[if_neg q] at h; cases h
 exact⟨by rw[<-e]; exact h,by simp only[e]⟩
def stJ (ins:Ex->List Rng->Ex)(s:ByteArray)(m:Mo)(x:Hl):List AV:=[.n (stO ins s m x),.n 0,.str ⟨#[]⟩,.sl .nil 0 [],.sl (Cov.nm (stL ins s m x)) 5 ((stL ins s m x).map (U7 s))]
theorem AXY (H:Hp)(ins:Ex->List Rng->Ex)(s:ByteArray)(m:Mo)(x:Hl):DW jA (H++[zZ 5 [zSt]]) 64 (.ptr H.length 0 0) (.agg (stJ ins s m x))=some (H++[zZ 5 [stJ ins s m x]]):=by
 have:=tY (H:=H++[zZ 5 [zSt]]) (cs:=stJ ins s m x) (A7 H (zZ 5 [zSt])) rfl rfl rfl
 rwa [KC] at this
theorem A3A (hb:H[b]?=some (zZ 5 [stJ ins s m x])):BU jA H 3 (.ptr b 0 0)=some (.n (stO ins s m x)):=by rw[BL ag3 hb (row:=stJ ins s m x) rfl]; rfl
theorem AUU (hb:H[b]?=some (zZ 5 [stJ ins s m x])):BU jA H 62 (.ptr b 0 4)=some (.sl (Cov.nm (stL ins s m x)) 5 ((stL ins s m x).map (U7 s))):=by rw[BL A5G hb (row:=stJ ins s m x) rfl]; rfl
section
variable (G:Nat->AV)
theorem A1M (hG:GOk G)(s:ByteArray)(hs:s.size<=1048576)(m:Mo)(hm:MoOk m)(x:Hl)(hn:x.bins.length<=1048576)(h:Hp):PCall (En G) 6 [.str s,.agg (DJ m),.agg (FQ x)] h (.bool true):=by
 refine ACalls.pure0 rfl ?_;refine acT Tryz.func6 6 ?_;have t:=Hb.mk' h m x;refine BB @bxM @bxH ?_
 generalize h++[zZ 2 [DJ m]]++[zZ 3 [FQ x]]=H0 at t|-
 generalize (h++[zZ 2 [DJ m]]).length=hb at t|-
 refine BC (ldM t.gm) ?_;refine(AK8 G m hm H0).use fun b=>?_
 cases b
 .refine AO ?_
  refine(eF G hG H0).uu ?_;exact⟨AZ,t.hx⟩
 refine AO ?_;cases h4:decide (((s.size:Nat):Int)>40)
 rotate_left
 .refine BC h4 ?_
  refine(eF G hG H0).uu ?_;exact⟨AZ,t.hx⟩
 refine DT h4 (ldM t.gm) (ldH t.gh) ?_;refine(oG G hG m hm x hn H0).use ?_;unfold itV;refine BB (ldM t.gm) (ldH t.gh) ?_;refine(tK G m hm x hn H0).use ?_;unfold itV;refine BB (ldM t.gm) (ldH t.gh) ?_;refine(AMY G hG s U m hm x hn H0).use ?_;have g1:=A7 H0 (zZ 5 [stJ EI s m x]);have hx1:=t.hx.app [zZ 5 [stJ EI s m x]];have gm:=AL (x:=zZ 5 [stJ EI s m x]) t.gm;have gh:=AL (x:=zZ 5 [stJ EI s m x]) t.gh;clear t;rw[show stV EI s m x=.tup [.agg (stJ EI s m x),.n (stE EI s m x)] from rfl];refine BB AMW @AXY ?_
 generalize H0++[zZ 5 [stJ EI s m x]]=H1 at g1 hx1 gm gh|-
 generalize H0.length=pb at g1|-
 refine BB (ldM gm) (ldH gh) ?_;refine(ASX G s m hm x hn H1).use ?_;have g2:=A7 H1 (zZ 5 [stJ F7 s m x]);have g1:=AL (x:=zZ 5 [stJ F7 s m x]) g1;have hx2:=hx1.app [zZ 5 [stJ F7 s m x]];rw[show stV F7 s m x=.tup [.agg (stJ F7 s m x),.n (stE F7 s m x)] from rfl];refine DT AUP AMW @AXY ?_
 generalize H1++[zZ 5 [stJ F7 s m x]]=H2 at g1 g2 hx2|-
 generalize H1.length=rb at g2|-
 have hC:=AP0 m x;have hlen:=dK hC;obtain⟨hA8,hA⟩:=A3I (ins:=EI) (m:=m) (x:=x)
 have hS8:(stL EI s m x).length<=8:=by
  unfold stL;split
  .exact hA8
  .exact qF _
 simp -implicitDefEqProofs only[vQ,EJ,CV,↓reduceIte,jB,zW,enP,A22,AQU,mT,A3A g1,A3A g2,AUU g1,AUU g2,jJ,hlen,wU,AN8,AZD,AZE,bne,beq_self_eq_true];refine ET 0 (fun F H=>F 0=.str s∧F 7=.sl (Cov.nm (itL EI m x)) 1 ((itL EI m x).map UC)∧F 11=.ptr pb 0 0∧H=H2) (fun _ _=>False) ?_ ?_ (fun _ _ q=>q.elim)
 .refine BI (fun n F H=>∃i,n+i=(itL EI m x).length∧F 0=.str s∧F 7=.sl (Cov.nm (itL EI m x)) 1 ((itL EI m x).map UC)∧F 9=.sl (Cov.nm (itL F7 m x)) 1 ((itL F7 m x).map UC)∧F 11=.ptr pb 0 0∧F 15=.n (i:Nat)∧H=H2) (itL EI m x).length
   ⟨0,BA,AQ,AQ,AQ,AQ,AQ,rfl⟩ ?_
  rintro n F H ⟨i,hi,f0,f7,f9,f11,f15,rfl⟩;refine DT AUP f7 f15 ?_;refine CE ?_ ?_<;>intro hc
  .have hi':i<(itL EI m x).length:=BN hc
   have hj':i<(itL F7 m x).length:=U;obtain⟨hr8,hre⟩:=hA _ (jH hi');have lr:BU jA H 61 (.fptr 1 ((itL EI m x).map UC) i 0)=some (.sl (Cov.nm (itL EI m x)[i]) 12 ((itL EI m x)[i].map EU)):=by rw[CG ADO hi']; rfl
   have lq:BU jA H 61 (.fptr 1 ((itL F7 m x).map UC) i 0)=some (.sl (Cov.nm (itL F7 m x)[i]) 12 ((itL F7 m x)[i].map EU)):=by rw[CG ADO hj']; rfl
   refine AO ?_;refine DV A8 ?_;refine PG APW f7 f9 f15 hi' hj' lr lq ?_;refine⟨_,kS G _ _ _ _ U (fun e he=>by have:=mV (hre e he); omega) (AVX hC hi' hj') H,?_⟩;refine tJ APW f7 f15 hi' lr ?_;refine⟨_,AJ2 G hG _ _ U (fun e he=>⟨ADV (by have:=mV (hre e he); omega),hre e he⟩) H,?_⟩;simp -implicitDefEqProofs only[vQ,OC,CV,↓reduceIte,jB,jL,zW,enP,bne,beq_self_eq_true,f15,DF i];exact⟨n-1,U,i+1,U,AZ,AZ,AZ,AZ,AZ,AZ⟩
  .refine AO ?_
   exact⟨AZ,AZ,AZ,AZ⟩
 rintro F H ⟨f0,f7,f11,rfl⟩;refine AO ?_;refine ET 2 (fun F H'=>H'=H) (fun _ _=>False) ?_ ?_ (fun _ _ q=>q.elim)
 .refine BI (fun n F H'=>∃i,n+i=(stL EI s m x).length∧F 0=.str s∧F 7=.sl (Cov.nm (itL EI m x)) 1 ((itL EI m x).map UC)∧F 11=.ptr pb 0 0∧F 16=.n (i:Nat)∧H'=H) (stL EI s m x).length
   ⟨0,BA,EM f0,EM f7,EM f11,AQ,rfl⟩ ?_
  clear f0 f7 f11;rintro n F H' ⟨i,hi,f0,f7,f11,f16,rfl⟩;refine I7 A22 @mT f11 f16 (AUU g1) ?_;refine CE ?_ ?_<;>intro hc
  .have hi':i<(stL EI s m x).length:=BN hc
   obtain⟨hj',he⟩:=AZF hi';obtain⟨hr8,hre⟩:=hA _ (jH hj');have lr:BU jA H' 61 (.fptr 1 ((itL EI m x).map UC) i 0)=some (.sl (Cov.nm (itL EI m x)[i]) 12 ((itL EI m x)[i].map EU)):=by rw[CG ADO hj']; rfl
   have l0:BU jA H' 3 (.fptr 5 ((stL EI s m x).map (U7 s)) i 0)=some (.n 1):=by rw[CG ag3 hi']; rfl
   have l2:BU jA H' 9 (.fptr 5 ((stL EI s m x).map (U7 s)) i 2)=some (.str s):=by rw[CG ag9 hi']; rfl
   have l3:BU jA H' 61 (.fptr 5 ((stL EI s m x).map (U7 s)) i 3)=some (.sl (Cov.nm (itL EI m x)[i]) 12 ((itL EI m x)[i].map EU)):=by rw[CG ADO hi',<-he]; rfl
   refine AO ?_;refine DV A8 ?_;simp -implicitDefEqProofs only[vQ,I5,KJ,WS,OC,AM7,NH,MF,EJ,bV,VD,↓reduceIte,jB,jL,zW,enP,APW,A6V,AQU,A0L,A0K,mT,f0,f7,f11,f16,AUU g1,CQ hi',CQ hj',lr,l0,l2,l3,bne,beq_self_eq_true];refine⟨_,kS G _ _ _ _ U (fun e he=>by have:=mV (hre e he); omega) rfl H',?_⟩;simp -implicitDefEqProofs only[vQ,OC,CV,RF,↓reduceIte,jB,jL,zW,enP,bne,beq_self_eq_true,f16,DF i];exact⟨n-1,U,i+1,U,AZ,AZ,AZ,AZ,AZ⟩
  .simp -implicitDefEqProofs only[Q7,XB,AZ5,lA,↓reduceIte]
   try first|exact rfl|exact True.intro
 rintro F H' rfl;refine AO ?_;refine(eF G hG H').uu ?_;exact⟨AZ,hx2⟩
end
end Go.Proofs.YtiihpnicbekebaaGreatDoor.Bd.Cl
