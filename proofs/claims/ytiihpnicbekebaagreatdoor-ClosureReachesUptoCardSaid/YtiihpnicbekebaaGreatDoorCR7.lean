/- Part 7 of the proof (Y2, Y1, Y3, Y4, Y5, Se, Sg, Sr, Sh, T1, Cf, Kr, Y6, Y7, Y8, Y9, Yw, Kh, Kp, Kw, I1, Iw, I2);no condition. -/
import Derived.Below
import Derived.Test.YtiihpnicbekebaaGreatDoorRows
import Derived.Carry
import Derived.ReadAgain
import Derived.ChangeSame
import Derived.OpenShut
import Derived.WideKeyArgs
import Derived.RangeFuncBox
import Derived.RangeFuncLeaves
import Derived.RangeFuncFrom
import Derived.Shelf.Abstract
import Derived.WalkKit
import Derived.OwnWalkIn
import Derived.TacticsInMore
import Derived.LoopNIn
import Derived.LoopIn
import Derived.Test.YtiihpnicbekebaaGreatDoorProg
import Derived.Test.YtiihpnicbekebaaGreatDoorCards
import Derived.JoinedCond
import Derived.KernelRfl
import Derived.LaidMore
import Derived.Shelf.Vars
import Derived.Test.YtiihpnicbekebaaGreatDoorCR6
set_option linter.unusedVariables false
set_option linter.unusedSimpArgs false
set_option maxRecDepth 8000
set_option maxHeartbeats 16000000
open Go.Proofs.YtiihpnicbekebaaGreatDoor.Sm.ABlk renaming live→qG
open Bool renaming and_eq_true→jX,false_eq_true→zZ,not_false→jE,or_eq_false_iff→wG,or_false→zN
open Go.Proofs.Tryz renaming prog→jA
open Int renaming toNat_natCast→qM
open List renaming all_eq_true→zJ,any_eq_false→qQ,append_assoc→zD,append_nil→jM,contains_nil→jS,drop_eq_getElem_cons→zX,drop_zero→zI,getElem?_eq_getElem→jO,getElem?_map→zB,getElem?_set_ne→zW,getElem_mem→jH,length_append→jW,length_cons→zF,length_eq_zero_iff→wM,length_map→jI,length_set→qV,length_take→jR,length→qL,map_append→qC,map_congr_left→wB,map_cons→jJ,map_map→qE,map_nil→jL,mem_append→zM,mem_cons→zO,mem_map→zQ,mem_of_getElem?→qB,mem_singleton→wH,nil_append→qI,range→zL,take_append_drop→wE,take_of_length_le→jK,take_succ_eq_append_getElem→jV
open Nat renaming add_zero→jT,le_of_ble_eq_true→jB,le_refl→jF,reduceAdd→jP,reduceBEq→jU,reduceEqDiff→jC,zero_add→jG,zero_le→qF
open Option renaming getD_none→jQ,getD_some→jD
namespace Go.Proofs.YtiihpnicbekebaaGreatDoor.Bd.Cl
open Sm Bins Cov Xe Wd Bl Ho Go.RowKit
variable {k:Nat} {R:List (List Ex)} {p:Pr} {s:Bw} {vs:List Vr} {a b:Ex} {l:List Ex} {ins:Ex->List Rng->Ex} {m:Mo} {x:Hl}
theorem fB {α:Type}{f:α->List AV}{h H:Hp}{ys:List α}{v:AV}(C:KN (ys.map f)=true)(E:outG k f h ys v H)(d:Sm.ext h H)(i:Nat):∃H',(∀F:Fr,F i=v->QG (F,H) i=(upd F i (fzG k f ys),H'))/\Sm.ext h H'/\H'.length=H.length/\∀(b:Nat) (y:ABlk),b<h.length->H[b]?=some y->H'[b]?=some y:=by
 rcases E with⟨rfl,rfl⟩|⟨g,o,A,rfl,B⟩
 .refine⟨H,fun F c=>?_,d,rfl,fun _ _ _ q=>q⟩
  rw[eZ (H:=H) (i:=i) (k:=0) (m:=.nil) (xs:=[]) F c]
  have:upd F i (fzG k f ([]:List α))=F:=by
   funext j;unfold upd;split
   .rename_i q;rw[q];exact c.symm
   .rfl
  rw[this]
 .refine⟨H.set o .dead,fun F c=>?_,d.set A _,by rw[qV],fun b y G q=>by rw[List.getElem?_set_ne U];exact q⟩
  have e:=fA (i:=i) (off:=0) (len:=ys.length) B BA (by rw[zI,jK BA];exact C);rw[zI,jK BA] at e;rw[e F c,pA g]
theorem ALM {α:Type}{f:α->Int}{xs ys:List α}{x:α}(h:Bd.fstE f xs=0)(c:f x≠0):Bd.fstE f (xs++x::ys)=f x:=by
 rw[Bd.fstE_app,if_neg (by rw[h];simp)];show(if f x≠0 then f x else Bd.fstE f ys)=f x;rw[if_pos c]
theorem AEP {α:Type}{f:α->Int}{xs:List α}{x:α}(h:Bd.fstE f xs=0)(c:f x=0):Bd.fstE f (xs++[x])=0:=by
 rw[Bd.fstE_app,if_neg (by rw[h];simp)];show(if f x≠0 then f x else Bd.fstE f [])=0;rw[if_neg (by rw[c];simp)];rfl
theorem AAQ {α:Type}{f:α->Int}{xs ys:List α}(h:Bd.fstE f xs=0)(c:Bd.fstE f ys=0):Bd.fstE f (xs++ys)=0:=by
 rw[Bd.fstE_app,if_neg (by rw[h];simp),c]
def Q4 (vs:List Vr)(R:List (List Ex)):Int:=Bd.fstE (scC vs) R.flatten
def OD (s:Bw)(vs:List Vr)(R:List (List Ex)):List (List Ex):=R.map fun r=>r.map (ET s vs)
def AHD (s:Bw)(vs:List Vr)(R:List (List Ex)):AV:=.tup [if Q4 vs R=0 then .sl (Cov.nm (OD s vs R)) 1 ((OD s vs R).map P8) else .sl .nil 0 [],.n (Q4 vs R)]
def AQT (s:Bw)(vs:List Vr)(R:List (List Ex)):AV:=.tup [if Q4 vs R=0 then fzG 1 eC (OD s vs R) else .sl .nil 0 [],.n (Q4 vs R)]
theorem A1U (L:List (List Ex)):CvR (fzG 1 eC L) (.sl (Cov.nm L) 1 (L.map P8)):=by
 cases L with
 | nil=>exact CvR.sl (Cv.nil 0 1)
 | cons a L=>exact CvR.sl (Cv.map fun x _=>ASX x)
theorem AV2 (s:Bw)(vs:List Vr)(R:List (List Ex)):CvR (AQT s vs R) (AHD s vs R):=by
 unfold AQT AHD;split
 .exact CvR.tup (CvRL.cons (A1U _) (CvRL.cons (CvR.refl _) CvRL.nil))
 .exact CvR.refl _
theorem AM7 {i:Nat}(e:i<R.length)(hk:k<R[i].length):∃ys,R.flatten=((R.take i).flatten++R[i].take k)++R[i][k]::ys:=by
 refine⟨R[i].drop (k+1)++(R.drop (i+1)).flatten,?_⟩;have c:R=R.take i++R[i]::R.drop (i+1):=by simp_all
 have d:∀l:List Ex,R[i]++l=R[i].take k++R[i][k]::(R[i].drop (k+1)++l):=fun l=>by
  have:R[i].take k++R[i].drop k=R[i]:=wE k R[i];rw[zX hk] at this
  calc R[i]++l=(R[i].take k++R[i][k]::R[i].drop (k+1))++l:=by rw[this]
   _=_:=by rw[zD];rfl
 conv=>lhs;rw[c,List.flatten_append,List.flatten_cons,d]
 rw[zD]
section
variable (G:Nat->AV)
theorem yO (hG:GOk G)(p:Pr)(hs:PrS p)(hv:JS p=0)(s:SM)(R:List (List Ex))(hR:R.length<=1048576)(hl:∀r∈R,r.length<=1048576)(he:∀r∈R,∀e∈r,exE e=0)(h:Hp):PCall (En G) 44 [.agg (CW p),.sl s 1 (R.map P8)] h (AHD sdP p.vars R):=by
 refine PCall.res ?_ (AV2 sdP p.vars R);refine ACalls.pure (R:=fun v H=>Sm.ext h H/\FH h.length H 3 v=AQT sdP p.vars R) 3 ?_ (fun v H ⟨a,b⟩=>⟨a,b⟩);refine IK (H:=hint [] [(43,[42])]) (enM G) Tryz.func44 rfl (by kernel_rfl) (by kernel_rfl) (jB (by kernel_rfl)) ?_;show awp _ _ _ _ _ (ML _ [.tmp 4,.tmp 5] _);have gp:=AZ h (qG 5 [CW p]);have Z:=Sm.ext.r1 h (qG 5 [CW p]);simp only[vQ,jS,jU,CQ,WO,U0,↓reduceIte,jC,enP,VR,zZ,ND,PZ,xG,bH]
 generalize h++[qG 5 [CW p]]=H0 at gp Z|-
 have a7:=AX gp;simp only[A37,A38,bH,jI];refine EK 0 (fun F H=>∃v,F 6=v/\F 7=.n (Q4 p.vars R)/\Sm.ext H0 H/\(Q4 p.vars R=0->outG 1 eC H0 (OD sdP p.vars R) v H)) (fun _ _=>False) ?_ ?_ (fun _ _ q=>q.elim)
 .refine BB (fun n F H=>∃i v,n+i=R.length/\F 2=.ptr h.length 0 0/\F 6=v/\F 7=.n 0/\F 15=.sl s 1 (R.map P8)/\F 16=.n (R.length:Nat)/\F 17=.n (i:Nat)/\Sm.ext H0 H/\outG 1 eC H0 (OD sdP p.vars (R.take i)) v H/\Bd.fstE (scC p.vars) (R.take i).flatten=0) R.length
   ⟨0,.sl .nil 0 [],BA,AO,AO,AO,AO,AO,AO,ext.rfl' _,outG.nil _ _ _ _,rfl⟩ ?_
  rintro n F H ⟨i,v,hi,Y,O,J,f15,f16,f17,f,T,L⟩;refine A7 f16 f17 ?_;refine DX ?_ ?_<;>intro j
  .have S:=jH j
   have a8:=hl _ S;have lr:BO jA H 23 (.fptr 1 (R.map P8) i 0)=some (.sl (Cov.nm R[i]) 4 (R[i].map AQ)):=by rw[BR LU j];rfl
   refine OH f15 f17 j lr ?_
   refine BB (fun n2 C M=>∃k u,n2+k=R[i].length/\C 2=.ptr h.length 0 0/\C 6=v/\C 7=.n 0/\C 15=.sl s 1 (R.map P8)/\C 16=.n (R.length:Nat)/\C 17=.n (i:Nat)/\C 10=u/\C 21=.sl (Cov.nm R[i]) 4 (R[i].map AQ)/\C 22=.n (R[i].length:Nat)/\C 23=.n (k:Nat)/\Sm.ext H M/\outG 4 AQ H ((R[i].map (ET sdP p.vars)).take k) u M/\Bd.fstE (scC p.vars) (R[i].take k)=0) R[i].length
    ⟨0,.sl .nil 0 [],BA,D7 Y,D7 O,D7 J,D7 f15,D7 f16,D7 f17,AO,AO,AO,AO,ext.rfl' _,outG.nil _ _ _ _,rfl⟩ ?_
   clear Y O J f15 f16 f17;rintro n2 F M ⟨k,u,hk,Y,O,J,f15,f16,f17,f10,f21,f22,f23,V,c,E⟩;refine A7 f22 f23 ?_;refine DX ?_ ?_<;>intro A
   .have a4:=jH A
    have d:=V.app [qG 4 [AQ R[i][k]]];have ga:=AZ M (qG 4 [AQ R[i][k]]);have c:=c.app [qG 4 [AQ R[i][k]]];simp only[vQ,jS,jU,CQ,↓reduceIte,jC,enP,PU,Option.getD_none,zZ,ND,f21,f23,CP A,DL NI GZ EC A,al79,st79]
    generalize M++[qG 4 [AQ R[i][k]]]=H3 at d ga c|-
    generalize M.length=ab at ga|-
    have a0:=DW (f.trans d) gp;refine DC Y (TR a0) (IC ga) ?_;refine(AGT G hG p hs hv R[i][k] (he _ S _ a4) H3).use ?_;by_cases g:scC p.vars R[i][k]=0
    .rw[yQ g]
     have X:=d.app [qG 4 [AQ (ET sdP p.vars R[i][k])]];have go:=AZ H3 (qG 4 [AQ (ET sdP p.vars R[i][k])]);have c:=c.app [qG 4 [AQ (ET sdP p.vars R[i][k])]];refine A7 al79 st79 ?_
     generalize H3++[qG 4 [AQ (ET sdP p.vars R[i][k])]]=H4 at X go c|-
     have hit:k<(R[i].map (ET sdP p.vars)).length:=by rw[jI];exact A
     have Q:(R[i].map (ET sdP p.vars))[k]=ET sdP p.vars R[i][k]:=BA;obtain⟨u',H5,ha,I,_,K,_,_⟩:=c.append (P:=jA) NJ GZ QA P9 U (by rw[jR];omega) X (ET sdP p.vars R[i][k]);rw[<-Q,<-jV hit] at I;refine KZ (show((0:Int) != 0)=false from rfl) f10 (LX go) @QX ha f23 (C9 k) ?_;exact⟨n2-1,U,k+1,u',U,AC,AC,AC,AC,AC,AC,AC,AC,AC,AC,K,I,by rw[jV A];exact AEP E g⟩
    .rw[gS rfl g]
     have a1:R4 EQ:=⟨_,_,_,_,_,_,rfl⟩
     have B:Q4 p.vars R=scC p.vars R[i][k]:=by
      obtain⟨ys,a6⟩:=AM7 j A;unfold Q4;rw[a6];exact ALM (AAQ L E) g
     have N:(scC p.vars R[i][k] != 0)=true:=BL g;refine DC al79 (uI H3 a1) N ?_;exact⟨v,AC,by rw[B],(f.trans d).app _,fun q=>absurd (B▸q) g⟩
   .rw[jK (by rw[jI];omega)] at c
    rw[jK U] at E;obtain⟨H3,g,d,_,a3⟩:=fB (NH _) c V 42;have a5:OD sdP p.vars (R.take (i+1))=OD sdP p.vars (R.take i)++[R[i].map (ET sdP p.vars)]:=by unfold OD;rw[jV j,qC];rfl
    have a9:(OD sdP p.vars (R.take i)).length=i:=by unfold OD;rw[jI,jR];omega
    obtain⟨v',H4,ha,I,_,K,_,_⟩:=(outG_ext T d).append (P:=jA) kO lQ mZ lH U U (f.trans d) (R[i].map (ET sdP p.vars));have a2:EH jA true H3 100 100 v (.sl .full 1 [eC (R[i].map (ET sdP p.vars))])=some (v',H4):=ha;refine OZ O f10 f17 @TV g @AT3 a2 (C9 i) ?_;exact⟨n-1,U,i+1,v',U,AC,AC,AC,AC,AC,AC,K,by rw[a5];exact I,by rw[jV j,List.flatten_append];simp only[List.flatten_cons,List.flatten_nil,jM];exact AAQ L E⟩
  .rw[jK U] at T L
   refine AB ?_;have L:Q4 p.vars R=0:=L;exact⟨v,AC,by first|exact True.intro|(rw[L];exact J)|rw[L],f,fun _=>T⟩
 rintro F H ⟨v,O,J,f,T⟩;cases N:(Q4 p.vars R != 0)
 .have g:Q4 p.vars R=0:=BL N
  refine DC J N O ?_;refine⟨Z.trans f,?_⟩;unfold AQT;rw[if_pos g,g];show AV.tup [FH h.length H 2 v,_]=_;rw[LP ALN (T g) h.length 0 (by have:=Z.le;omega)];rfl
 .have g:Q4 p.vars R≠0:=BL N
  refine A7 J N ?_;refine⟨Z.trans f,?_⟩;unfold AQT;rw[if_neg g];rfl
def AHE (vs:List Vr)(l:List Ex):AV:=.tup [if Bd.fstE (scC vs) l=0 then .sl (Cov.nm (l.map (ET sdR vs))) 4 ((l.map (ET sdR vs)).map AQ) else .sl .nil 0 [],.n (Bd.fstE (scC vs) l)]
def AQU (vs:List Vr)(l:List Ex):AV:=.tup [if Bd.fstE (scC vs) l=0 then fzG 4 AQ (l.map (ET sdR vs)) else .sl .nil 0 [],.n (Bd.fstE (scC vs) l)]
theorem AV3 (vs:List Vr)(l:List Ex):CvR (AQU vs l) (AHE vs l):=by
 unfold AQU AHE;split
 .exact CvR.tup (CvRL.cons WJ (CvRL.cons (CvR.refl _) CvRL.nil))
 .exact CvR.refl _
theorem ACY (p:Pr)(hs:PrS p)(hv:JS p=0)(s:SM)(l:List Ex)(hl:l.length<=1048576)(he:∀e∈l,exE e=0)(h:Hp):PCall (En G) 52 [.agg (CW p),.sl s 4 (l.map AQ)] h (AHE p.vars l):=by
 refine PCall.res ?_ (AV3 p.vars l);refine ACalls.pure (R:=fun v H=>Sm.ext h H/\FH h.length H 3 v=AQU p.vars l) 3 ?_ (fun v H ⟨a,b⟩=>⟨a,b⟩);refine IK (H:=hint [22] []) (enM G) Tryz.func52 rfl (by kernel_rfl) (by kernel_rfl) (jB (by kernel_rfl)) ?_;show awp _ _ _ _ _ (ML _ [.tmp 4,.tmp 5] _);have T:=AZ h (qG 5 [CW p]);have I:=Sm.ext.r1 h (qG 5 [CW p]);refine AY @PZ ?_
 generalize h++[qG 5 [CW p]]=H0 at T I|-
 refine EK 0 (fun F H=>∃v,F 6=v/\Bd.fstE (scC p.vars) l=0/\Sm.ext H0 H/\outG 4 AQ H0 (l.map (ET sdR p.vars)) v H) (fun F H=>F 4=.sl .nil 0 []/\F 5=.n (Bd.fstE (scC p.vars) l)/\Bd.fstE (scC p.vars) l≠0/\Sm.ext H0 H) ?_ ?_ ?_
 .refine BB (fun n F H=>∃i v,n+i=l.length/\F 1=.sl s 4 (l.map AQ)/\F 2=.ptr h.length 0 0/\F 6=v/\F 7=.n (i:Nat)/\Sm.ext H0 H/\outG 4 AQ H0 ((l.map (ET sdR p.vars)).take i) v H/\Bd.fstE (scC p.vars) (l.take i)=0) l.length
   ⟨0,.sl .nil 0 [],BA,AO,AO,AO,AO,ext.rfl' _,outG.nil _ _ _ _,rfl⟩ ?_
  rintro n F H ⟨i,v,hi,Q,X,J,K,c,q,E⟩;refine A7 Q K ?_;refine DX ?_ ?_<;>intro f
  .have O:=jH f
   have L:=DW c T;refine AB ?_;refine DR BC ?_;simp only[vQ,List.contains_cons,jS,jU,Bool.or_false,aD,MS,iS,PO,↓reduceIte,jC,jP,enP,PU,Q,X,K,TR L,CP f,DL NI GZ EC f];refine⟨_,fun x=>AJT G p hs hv l[i] (he _ O) (H++x),?_⟩;by_cases g:scC p.vars l[i]=0
   .rw[yQ g]
    have C:=c.app [qG 4 [AQ (ET sdR p.vars l[i])]];have S:=AZ H (qG 4 [AQ (ET sdR p.vars l[i])]);have B:=q.app [qG 4 [AQ (ET sdR p.vars l[i])]];refine DC @mE al79 st79 ?_
    generalize H++[qG 4 [AQ (ET sdR p.vars l[i])]]=H4 at C S B|-
    have hit:i<(l.map (ET sdR p.vars)).length:=by rw[jI];exact f
    have j:(l.map (ET sdR p.vars))[i]=ET sdR p.vars l[i]:=BA;obtain⟨u',H5,ha,A,_,N,_,_⟩:=B.append (P:=jA) NJ GZ QA P9 U (by rw[jR];omega) C (ET sdR p.vars l[i]);rw[<-j,<-jV hit] at A;refine KZ (show((0:Int) != 0)=false from rfl) J (LX S) @QX ha K (C9 i) ?_;exact⟨n-1,U,i+1,u',U,AC,AC,AC,AC,N,A,by rw[jV f];exact AEP E g⟩
   .rw[gS rfl g]
    have M:R4 EQ:=⟨_,_,_,_,_,_,rfl⟩
    have d:Bd.fstE (scC p.vars) l=scC p.vars l[i]:=by
     have h1:l=l.take i++l[i]::l.drop (i+1):=by simp_all
     conv=>lhs;rw[h1]
     exact ALM E g
    have V:(scC p.vars l[i] != 0)=true:=BL g;refine EG @mE al79 (uI H M) V ?_;exact⟨AC,by rw[d],by rw[d];exact g,c.app _⟩
  .rw[jK (by rw[jI];omega)] at q
   rw[jK U] at E;refine AB ?_;exact⟨v,AC,E,c,q⟩
 .rintro F H ⟨v,J,g,c,q⟩
  refine AY J ?_;refine⟨I.trans c,?_⟩;unfold AQU;rw[if_pos g,g];show AV.tup [FH h.length H 2 v,_]=_;rw[LP frzEx q h.length 0 (by have:=I.le;omega)];rfl
 .rintro F H ⟨Y,Z,g,c⟩
  refine A7 Y Z ?_;refine⟨I.trans c,?_⟩;unfold AQU;rw[if_neg g];rfl
end
def VJ (a:List Int):List AV:=[.sl (Cov.nm a) 1 (a.map Bins.qencI)]
theorem A4Q:Frz VJ:=fun _ _ _ _=>⟨rfl,rfl⟩
theorem bsA (h:Hp)(m:SM)(xs:List (List AV)):DJ jA false h 25 1 [(0,.sl m 1 xs)]=some (.sl .full 1 [[.sl m 1 xs]],h):=BC
theorem ud25:Tryz.prog.underlying 25=some (.slice 32):=BC
theorem zs25:UZ jA 32=some 1:=BC
theorem by25:LQ jA 32=some 24:=BC
theorem AQQ (P:PV p){a:List Int}(d:AOk p a):∀s∈L6 p.vars a,AJR s:=by
 intro s h;obtain⟨i,g,rfl⟩:=List.getElem_of_mem h;have f:=TW d.len;have c:i<p.vars.length:=U;have e:i<a.length:=by rw[d.len];exact c
 rw[bB c e g];have:=d.rng P i c;rw[List.getD_eq_getElem?_getD,jO e] at this;show -9223372036854775808<=a[i]/\a[i]<=9223372036854775807;have q:(some a[i]).getD 0=a[i]:=rfl;rw[q] at this;omega
def nxV (p:Pr)(a:List Int):AV:=match nxK p.vars p.vars.length a with
 | some c=>.tup [.sl (Cov.nm c) 1 (c.map Bins.qencI),.bool true]
 | none=>.tup [.sl .nil 0 [],.bool false]
def nxW (p:Pr)(a:List Int):AV:=match nxK p.vars p.vars.length a with
 | some c=>.tup [fzG 1 Bins.qencI c,.bool true]
 | none=>.tup [.sl .nil 0 [],.bool false]
theorem A1J (p:Pr)(a:List Int):CvR (nxW p a) (nxV p a):=by
 unfold nxW nxV;split
 .exact CvR.tup (CvRL.cons WJ (CvRL.cons (CvR.refl _) CvRL.nil))
 .exact CvR.refl _
section
variable (G:Nat->AV)
theorem AE0 (p:Pr)(N:PrS p)(h:Hp):PCall (En G) 116 [.agg (CW p)] h (.sl (Cov.nm (NM p)) 1 ((NM p).map Bins.qencI)):=by
 have O:=N.vars;have M:(NM p).length=p.vars.length:=by unfold NM;rw[jI]
 refine JZ Cov.frzI ?_;refine acT Tryz.func116 2 ?_;have J:=AZ h (qG 5 [CW p]);have A:=Sm.ext.r1 h (qG 5 [CW p]);refine AY @PZ ?_
 generalize h++[qG 5 [CW p]]=H0 at J A|-
 refine BB (fun n F H=>∃i u,n+i=p.vars.length/\F 1=.ptr h.length 0 0/\F 3=u/\F 4=.n (i:Nat)/\Sm.ext H0 H/\outG 1 Bins.qencI H0 ((NM p).take i) u H) p.vars.length
  ⟨0,.sl .nil 0 [],BA,AO,AO,AO,ext.rfl' _,outG.nil _ _ _ _⟩ ?_
 rintro n F H ⟨i,u,T,C,E,I,d,q⟩;have e:=DW d J;refine DC C I (YU e) ?_;refine DX ?_ ?_<;>intro f
 .have j:i<(NM p).length:=U
  obtain⟨Q,S,K,g,_,B,_,_⟩:=q.append (P:=jA) gH sz3 xY rM U (by rw[jR];omega) d p.vars[i].value;have c:(NM p)[i]=p.vars[i].value:=List.getElem_map _;rw[<-c,<-jV j] at g;have L:BO jA H 3 (.fptr 4 (p.vars.map encV) i 3)=some (.n p.vars[i].value):=by rw[BR ag3 f];rfl
  rw[<-c] at K L;refine V7 C E I (YU e) f L @bsI K (C9 i) ?_;exact⟨n-1,U,i+1,Q,U,AC,AC,AC,B,g⟩
 .rw[jK U] at q
  refine AY E ?_;exact⟨A.trans d,q.base A.le⟩
theorem sV (p:Pr)(K:PrS p)(P:PV p)(m:SM)(l:List Ex)(X:l.length<=1048576)(S:∀e∈l,wt e<=1048576)(hk:∀e∈l,xpE p.vars e=0)(L:SM)(a:List Int)(M:AOk p a)(h:Hp):
  PCall (En G) 117 [.agg (CW p),.sl m 4 (l.map AQ),.sl L 1 (a.map Bins.qencI)] h (.bool (WF p l a)):=by
 have Q:=K.vars;have g:=M.len;have O:=TW g;refine ACalls.pure0 rfl ?_;refine acT Tryz.func117 6 ?_;have J:=AZ h (qG 5 [CW p]);have E:=Sm.ext.r1 h (qG 5 [CW p]);refine AY @PZ ?_
 generalize h++[qG 5 [CW p]]=H0 at J E|-
 have T:BO jA H0 27 (.ptr h.length 0 0)=some (.agg (CW p)):=by rw[EN fU cH J (row:=CW p) rfl (by rw[MG];exact jF 5)];rfl
 refine AY T ?_;refine(AY8 G p K a L g H0).uu ?_
 refine BB (fun n F H=>∃i,n+i=l.length/\F 1=.sl m 4 (l.map AQ)/\F 7=.sl (Cov.nm (L6 p.vars a)) 2 ((L6 p.vars a).map FV)/\F 8=.n (i:Nat)/\H=H0/\∀e∈l.take i,TN (L6 p.vars a) e≠0) l.length
  ⟨0,BA,AO,AO,AO,rfl,BA⟩ ?_
 rintro n F H ⟨i,V,I,N,A,rfl,d⟩;refine A7 I A ?_;refine DX ?_ ?_<;>intro f
 .have c:=jH f
  simp only[vQ,CQ,↓reduceIte,jC,enP,PU,I,N,A,CP f,DL NI GZ EC f];refine(AVA G (L6 p.vars a) _ l[i] H U (AQQ P M) (S _ c)).use ?_;have C:evV (evE (L6 p.vars a) l[i])=.tup [.n (TN (L6 p.vars a) l[i]:Nat),.n 0]:=by rw[AZ6 (hk _ c) g];rfl
  rw[C];refine AY (show((0:Int) != 0)=false from rfl) ?_;refine BH ?_ ?_<;>intro j
  .have j:TN (L6 p.vars a) l[i]=0:=BL j
   refine AB ?_;refine⟨?_,E⟩
   have:WF p l a=false:=by
    unfold WF;rw[List.all_eq_false];exact⟨l[i],c,by rw[j];simp⟩
   rw[this]
  .have j:TN (L6 p.vars a) l[i]≠0:=BL j
   refine A7 A (C9 i) ?_;refine⟨n-1,U,i+1,U,AC,AC,AC,AC,fun e q=>?_⟩;rw[jV f] at q;rcases zM.1 q with B|B
   .exact d e B
   .rw[List.mem_singleton.1 B];exact j
 .rw[jK U] at d
  refine AB ?_;refine⟨?_,E⟩
  have:WF p l a=true:=by
   unfold WF;rw[zJ];intro e q;have:=d e q;simpa using this
  rw[this]
theorem AHZ (p:Pr)(hs:PrS p)(P:PV p)(a:List Int)(ok:AOk p a)(m:SM)(h:Hp):PCall (En G) 118 [.agg (CW p),.sl m 1 (a.map Bins.qencI)] h (nxV p a):=by
 refine PCall.res (r:=nxW p a) ?_ (A1J p a);refine ACalls.pure (R:=fun v H=>Sm.ext h H/\FH h.length H 3 v=nxW p a) 3 ?_ (fun v H ⟨a,b⟩=>⟨a,b⟩);unfold nxW;generalize hO:nxK p.vars p.vars.length a=O;have a7:=hs.vars;refine acL Tryz.func118 [.tmp 4,.tmp 5] ?_;have ge:=AZ h (qG 5 [CW p]);have Y:=Sm.ext.r1 h (qG 5 [CW p]);refine AY @PZ ?_
 generalize h++[qG 5 [CW p]]=H0 at ge Y|-
 have a0:a.length=p.vars.length:=ok.len;have z1:IntKind.i64.wrap (((a.length:Nat):Int)-1)=((a.length:Nat):Int)-1:=wrap_i64 U U;obtain⟨u0,H2,ha,I,_,X,_,_⟩:=MB (P:=jA) (f:=Bins.qencI) (ys:=a) m (outG.nil 1 Bins.qencI H0 H0) gH sz3 xY rM U NZ (ext.rfl' H0);rw[qI] at I;have K:KA jA 32 u0=some (.n (a.length:Nat)):=I.len YT;have a4:h.length<H0.length:=AX ge;refine DC ha @K z1 ?_;refine EK 0 (fun F H=>Sm.ext h H/\O=none) (fun F H=>Sm.ext h H/\∃Z u,O=some Z/\F 4=u/\F 5=.bool true/\outG 1 Bins.qencI H0 Z u H) ?_ ?_ ?_
 .refine BB (fun n F H=>∃k c u,n=k/\k<=p.vars.length/\AOk p c/\nxK p.vars k c=O/\Sm.ext H0 H/\outG 1 Bins.qencI H0 c u H/\F 2=.ptr h.length 0 0/\F 6=u/\F 7=.n (((k:Nat):Int)-1)) p.vars.length
   ⟨p.vars.length,a,u0,rfl,jF _,ok,hO,X,I,AO,AO,by refine AB ?_;rw[a0]⟩ ?_
  clear X I ha K;rintro n F H ⟨k,c,u,rfl,a5,g,A,J,I,f2,f6,N⟩;have T:=DW J ge;have ec:decide (((n:Nat):Int)-1≥0)=decide (1<=n):=by rw[decide_eq_decide];omega
  refine A7 N ec ?_;refine BH ?_ ?_<;>intro hc
  .have h1:1<=n:=BL hc
   obtain⟨i,rfl⟩:∃i,n=i+1:=⟨n-1,U⟩;have C:i<p.vars.length:=U;have d:i<c.length:=by rw[g.len];exact C
   have ei:((((i+1:Nat):Int))-1)=((i:Nat):Int):=U;rw[ei] at N;unfold nxK at A;simp only[jO C] at A;obtain⟨_,w1,w8,_⟩:=U2 (P.vr _ (jH C));have lm:BO jA H 3 (.fptr 4 (p.vars.map encV) i 2)=some (.n p.vars[i].mode):=by rw[BR ag3 C];rfl
   have zi:IntKind.i64.wrap (((i:Nat):Int)-1)=((i:Nat):Int)-1:=wrap_i64 U U;refine Z9 f2 N (YU T) C lm ?_;refine BH ?_ ?_<;>intro L
   .have L:p.vars[i].mode=0:=BL L
    rw[if_pos L] at A;refine A7 N zi ?_;exact⟨i,U,i,c,u,rfl,U,g,A,J,I,AC,AC,AC⟩
   .have L:¬p.vars[i].mode=0:=BL L
    rw[if_neg L] at A;obtain⟨q0,q1⟩:=g.rn i C L;obtain⟨r0,r1⟩:=g.rng P i C;rcases I with⟨q,_⟩|⟨a6,o,V,rfl,B⟩
    .rw[q] at d;cases d
    have B:isI H o c:=B
    have M:∀z:Int,c.set i z≠[]:=fun z q=>by
     have:=congrArg List.length q;rw[qV,List.length_nil] at this;omega
    have zz:IntKind.i64.wrap (c.getD i 0+1)=c.getD i 0+1:=wrap_i64 U U;obtain⟨w,hw⟩:=Int.eq_ofNat_of_zero_le (U:0<=p.vars[i].width);have lw:∀H:Hp,BO jA H 3 (.fptr 4 (p.vars.map encV) i 1)=some (.n (w:Nat)):=fun H=>by rw[BR ag3 C];show some (AV.int .i64 p.vars[i].width)=_;rw[hw]
    rw[hw,Int.toNat_natCast] at A q1;refine AB ?_;refine DR BC ?_;simp only[vQ,↓reduceIte,jC,jP,Nat.add_zero,Nat.zero_add,enP,bM,iK,LJ,VU,f2,f6,N,B.ix d,B.ld d,zz,YU T,CP C,lw,AVY w U];refine BH ?_ ?_<;>intro Q
    .have Q:c.getD i 0+1<2^w:=BL Q
     rw[if_pos Q] at A;have a2:=B.st (i:=i) d (c.getD i 0+1);refine KZ f6 N @B.ix d @B.ld zz a2 ?_;exact⟨(Y.trans J).set U _,_,.own o 0 c.length,A.symm,AC,AC,.inr ⟨M _,o,V,by rw[qV],CJ B⟩⟩
    .have Q:¬c.getD i 0+1<2^w:=fun q=>by rw[decide_eq_true q] at Q;cases Q
     rw[if_neg Q] at A;have a3:=B.st (i:=i) d 0;have a1:(0:Int)<2^p.vars[i].width.toNat:=Int.pow_pos DU
     have S:AOk p (c.set i 0):=by
      refine⟨by rw[qV];exact g.len,fun j hj E=>?_,fun j hj E=>?_⟩
      .by_cases e:j=i
       .subst e;exact absurd E L
       .rw[Bl.getD_set_ne (fun q=>e q.symm)];exact g.st j hj E
      .by_cases e:j=i
       .subst e;rw[Bl.getD_set_eq d];exact⟨Int.le_refl 0,a1⟩
       .rw[Bl.getD_set_ne (fun q=>e q.symm)];exact g.rn j hj E
     refine V8 f6 N @B.ix d a3 zi ?_;exact⟨i,U,i,c.set i 0,.own o 0 c.length,rfl,U,S,A,J.set U _,.inr ⟨M _,o,V,by rw[qV],CJ B⟩,AC,AC,AC⟩
  .have h1:¬1<=n:=fun q=>by rw[decide_eq_true q] at hc;cases hc
   obtain rfl:n=0:=U;have A:none=O:=A;refine AB ?_;exact⟨Y.trans J,A.symm⟩
 .rintro F H ⟨J,rfl⟩
  refine AB ?_;exact⟨J,rfl⟩
 .rintro F H ⟨J,Z,u,rfl,f4,f5,I⟩
  refine A7 f4 f5 ?_;refine⟨J,?_⟩;show AV.tup [FH h.length H 2 u,FH h.length H 2 (.bool true)]=_;rw[LP Cov.frzI I h.length 0 (by have:=Y.le;omega)];rfl
theorem sI (p:Pr)(Y:PrS p)(P:PV p)(m:SM)(l:List Ex)(hl:l.length<=1048576)(hw:∀e∈l,wt e<=1048576)(hk:∀e∈l,xpE p.vars e=0)(a4:lft p (NM p)<=1048576)(h:Hp):
  PCall (En G) 54 [.agg (CW p),.sl m 4 (l.map AQ)] h (.sl (Cov.nm (mC p l (lft p (NM p)) (NM p))) 1 ((mC p l (lft p (NM p)) (NM p)).map VJ)):=by
 have a1:=AAR P;generalize hR:mC p l (lft p (NM p)) (NM p)=R;refine JZ A4Q ?_;refine acT Tryz.func54 4 ?_;have ge:=AZ h (qG 5 [CW p]);have Z:=Sm.ext.r1 h (qG 5 [CW p]);refine AY @PZ ?_
 generalize h++[qG 5 [CW p]]=H0 at ge Z|-
 have lp:∀ {H:Hp},Sm.ext H0 H->BO jA H 27 (.ptr h.length 0 0)=some (.agg (CW p)):=fun q=>by rw[EN fU cH (DW q ge) (row:=CW p) rfl (by rw[MG];exact jF 5)];rfl
 refine AY (lp (ext.rfl' H0)) ?_;refine(AE0 G p Y H0).uu ?_
 refine BB (fun n F H=>∃done d a v,F 1=.sl m 4 (l.map AQ)/\F 2=.ptr h.length 0 0/\F 5=v/\(d=true->F 6=.sl (Cov.nm a) 1 (a.map Bins.qencI))/\F 7=.bool d/\Sm.ext H0 H/\outG 1 VJ H0 done v H/\done.length+n<=lft p (NM p)/\(d=true->n=lft p a/\AOk p a/\done++mC p l (lft p a) a=R)/\(d=false->done=R)) (lft p (NM p))
  ⟨[],true,NM p,.sl .nil 0 [],AO,AO,AO,by refine AB ?_;first|exact True.intro|exact fun _=>True.intro|exact fun _=>rfl,AO,ext.rfl' _,outG.nil _ _ _ _,BA,fun _=>⟨rfl,a1,hR⟩,fun q=>by cases q⟩ ?_
 rintro n F H ⟨done,d,a,v,L,E,I,j,M,f,B,a3,Q,A⟩
 cases d with
 | false =>
   refine A7 M I ?_;rw[<-A rfl];exact⟨Z.trans f,B.base Z.le⟩
 | true =>
   obtain⟨rfl,i,hS⟩:=Q rfl;have j:=j rfl;have a2:=AK7 i;obtain⟨k,S⟩:∃k,lft p a=k+1:=⟨lft p a-1,U⟩;have g:=hS;rw[S] at g;unfold mC at g;refine H7 L E j M (lp f) ?_;refine(sV G p Y P m l hl hw hk _ a i H).uu ?_;refine UB (fun C K=>∃c J,C 1=.sl m 4 (l.map AQ)/\C 2=.ptr h.length 0 0/\C 5=J/\C 6=.sl (Cov.nm a) 1 (a.map Bins.qencI)/\Sm.ext H0 K/\outG 1 VJ H0 c J K/\c=done++(if WF p l a=true then [a] else [])) (fun _ _=>False) (fun N=>?_) (fun N=>?_) ?_ (fun _ _ hh=>hh.elim)
   .obtain⟨J,K,ha,X,_,a0,_,_⟩:=B.append (P:=jA) ud25 ACF zs25 by25 U U f a
    change EH jA true H 25 25 v (.sl .full 1 [[.sl (Cov.nm a) 1 (a.map Bins.qencI)]])=_ at ha;refine EG I j @bsA ha ?_;exact⟨_,J,AC,AC,AC,AC,a0,X,by rw[if_pos N]⟩
   .refine AB ?_
    exact⟨_,v,AC,AC,AC,AC,f,B,by rw[if_neg (by rw[N];decide),jM]⟩
   clear L E I j M f B;rintro F H ⟨c,v,L,E,I,j,f,B,O⟩;refine DC E j (lp f) ?_;refine(AHZ G p Y P a i _ H).use ?_
   have T:c.length<=done.length+1:=by
    rw[O,jW];split<;>simp
   unfold nxV
   cases V:nxK p.vars p.vars.length a with
   | none =>
     rw[V] at g;refine AB ?_;refine⟨0,U,c,false,a,v,AC,AC,AC,(fun q=>by cases q),AC,f,B,U,(fun q=>by cases q),fun _=>?_⟩;rw[O,<-g,jM]
   | some b =>
     rw[V] at g;obtain⟨nb,nl⟩:=eP i V;refine AB ?_;refine⟨lft p b,U,c,true,b,v,AC,AC,AC,(fun _=>AC),AC,f,B,U,fun _=>⟨rfl,nb,?_⟩,fun q=>by cases q⟩;rw[O,<-g,zD,show lft p b=k by omega]
end
def WV {α β:Type}(f:α->Option β):List α->Option (List β)
 | []=>some []
 | x::xs=>match f x with
   | some y=>match WV f xs with
     | some c=>some (y::c)
     | none=>none
   | none=>none
theorem hU {α β:Type}{f:α->Option β}:∀ {xs:List α} {ys:List β} {x:α} {y:β},WV f xs=some ys->f x=some y->WV f (xs++[x])=some (ys++[y])
 | [],ys,x,y,h,e=>by
   cases h;rw[qI];unfold WV;rw[e];rfl
 | a::xs,ys,x,y,h,e=>by
   unfold WV at h
   cases c:f a with
   | none=>rw[c] at h;cases h
   | some b =>
     rw[c] at h
     cases d:WV f xs with
     | none=>rw[d] at h;cases h
     | some i =>
       rw[d] at h;cases h;have g:=hU d e;rw[List.cons_append];unfold WV;rw[c,g];rfl
theorem hZ {α β:Type}{f:α->Option β}:∀ {xs:List α} {x:α},x∈xs->f x=none->WV f xs=none
 | [],x,h,_=>by cases h
 | a::xs,x,h,c=>by
   unfold WV;rcases zO.1 h with rfl|h
   .rw[c]
   .cases f a with
    | none=>rfl
    | some b=>rw[hZ h c]
theorem oG {α β:Type}{f g:α->Option β}:∀ {xs ys:List α},xs.length=ys.length->(∀(i:Nat) (d:i<xs.length) (h2:i<ys.length),f xs[i]=g ys[i])->WV f xs=WV g ys
 | [],[],_,_=>rfl
 | [],_::_,h,_=>by simp at h
 | _::_,[],h,_=>by simp at h
 | x::xs,y::ys,h,e=>by
   have c:=e 0 BA BA;have j:=oG (xs:=xs) (ys:=ys) (f:=f) (g:=g) (BL h) fun i d h2=>e (i+1) (BL d) (BL h2)
   unfold WV;have c:f x=g y:=c;rw[c,j]
theorem ZC {α β:Type}{f:α->Option β}:∀ {xs:List α} {ys:List β},WV f xs=some ys->ys.length=xs.length/\∀(i:Nat) (c:i<xs.length) (h2:i<ys.length),f xs[i]=some ys[i]
 | [],ys,h=>by cases h;exact⟨rfl,fun i c=>by cases c⟩
 | a::xs,ys,h=>by
   unfold WV at h
   cases d:f a with
   | none=>rw[d] at h;cases h
   | some b =>
     rw[d] at h
     cases e:WV f xs with
     | none=>rw[e] at h;cases h
     | some q =>
       rw[e] at h;cases h;obtain⟨g,j⟩:=ZC e;refine⟨by simp [g],fun i c h2=>?_⟩
       cases i with
       | zero=>exact d
       | succ i=>exact j i (BL c) (BL h2)
def QM (p:Pr):List Ex:=p.hard++SL p
def Y7 (s:Bw)(ins:Ex->List Rng->Ex)(p:Pr)(m:Mo)(x:Hl):Option (List (List Int)):=WV (fun S=>QP p (QM p++S)) (OD s p.vars (cnL ins m x))
def NK (s:Bw)(ins:Ex->List Rng->Ex)(p:Pr)(m:Mo)(x:Hl):Int :=
 if JS p≠0\/OA m x=false then 1 else if cnE ins m x≠0 then cnE ins m x else if Q4 p.vars (cnL ins m x)≠0 then Q4 p.vars (cnL ins m x) else if(Y7 s ins p m x).isSome then 0 else 11
def bK (s:Bw)(ins:Ex->List Rng->Ex)(p:Pr)(m:Mo)(x:Hl):List (List Int):=if NK s ins p m x=0 then (Y7 s ins p m x).getD [] else []
def sZ (f:List Int->List AV)(s:Bw)(ins:Ex->List Rng->Ex)(p:Pr)(m:Mo)(x:Hl):AV:=.tup [.sl (Cov.nm (bK s ins p m x)) 1 ((bK s ins p m x).map f),.n (NK s ins p m x)]
theorem AJ7 (vs:List Vr)(e:Ex):OC vs (cpE e)=OC vs e:=by
 unfold OC;rw[hJ,List.any_map];congr 1;funext x;show OE vs (cpE x)=OE vs x;unfold OE;rw[XD,VZ]
theorem AL1 (vs:List Vr)(e:Ex):FU vs (cpE e)=FU vs e:=by
 induction e using Ex.induct with|h e ih=>?_
 rw[QJ,QJ vs e,XD,ABE,VZ,YB,qE];congr 1;exact wB fun a c=>ih a c
theorem mH (d:s.Ok)(vs:List Vr)(e:Ex):cpE (ET s vs (cpE e))=cpE (ET s vs e):=by
 induction e using Ex.induct with|h e ih=>?_
 rw[Q5,Q5 s vs e,XD,ABE,VZ,YB,qE];have f:(e.args.map (ET s vs ∘ cpE)).map cpE=(e.args.map (ET s vs)).map cpE:=by simp_all
 unfold scF;split
 .rfl
 split
 .have c:cpE ((e.args.map (ET s vs ∘ cpE)).head?.getD (cE 0))=cpE ((e.args.map (ET s vs)).head?.getD (cE 0)):=by
   cases j:e.args with
   | nil=>rfl
   | cons a q=>exact ih a (by rw[j];simp)
  generalize (e.args.map (ET s vs ∘ cpE)).head?.getD (cE 0)=x at c|-
  generalize (e.args.map (ET s vs)).head?.getD (cE 0)=y at c|-
  have i:x.op=y.op:=by rw[<-XD x,c,XD]
  have g:x.n=y.n:=by rw[<-ABE x,c,ABE]
  unfold YD;rw[i,g];split
  .rfl
  .exact AI4 d d c _ _
 .exact AMB f
theorem A07 (h:cpE a=cpE b):scC vs a=scC vs b:=by
 have c:OC vs a=OC vs b:=by rw[<-AJ7 vs a,h,AJ7]
 have d:FU vs a=FU vs b:=by rw[<-AL1 vs a,h,AL1]
 have e:exE (ET sdP vs a)=exE (ET sdP vs b):=AL2 (by rw[<-mH nO vs a,h,mH nO]);unfold scC;rw[c,d,e]
theorem AQW {t:Bw}(c:s.Ok)(d:t.Ok)(h:cpE a=cpE b):cpE (ET s vs a)=cpE (ET t vs b):=by
 rw[<-mH c vs a,h,mH c,AHG c d]
theorem ASY {vs:List Vr}:∀ {a b:List Ex},a.map cpE=b.map cpE->Bd.fstE (scC vs) a=Bd.fstE (scC vs) b
 | [],[],_=>rfl
 | [],_::_,h=>by simp at h
 | _::_,[],h=>by simp at h
 | x::a,y::b,h=>by
   simp only[jJ,List.cons.injEq] at h;show(if scC vs x≠0 then scC vs x else Bd.fstE (scC vs) a)=(if scC vs y≠0 then scC vs y else Bd.fstE (scC vs) b);rw[A07 h.1,ASY h.2]
theorem AVR (l:List Sg)(e:Ex):TN l (cpE e)=TN l e:=by
 induction e using Ex.induct with|h e ih=>?_
 rw[aI,aI l e,XD,ABE,VZ,YB,QS,QS,qE];congr 1;exact wB fun a c=>ih a c
theorem AV7 {a:List Int}{k:List Ex}(h:l.map cpE=k.map cpE):WF p l a=WF p k a :=
 AJH (P:=fun e => !(TN (L6 p.vars a) e==0)) (fun e=>by rw[AVR]) h
theorem AKD {p:Pr}{l k:List Ex}(h:l.map cpE=k.map cpE):∀(n:Nat) (a:List Int),Y0 p l n a=Y0 p k n a
 | 0,_=>rfl
 | n+1,a=>by
   unfold Y0;rw[AV7 h]
   cases nxK p.vars p.vars.length a with
   | none=>rfl
   | some b=>simp only[AKD h n b]
theorem AR2 {k:List Ex}(h:l.map cpE=k.map cpE):QP p l=QP p k:=AKD h _ _
theorem A1B (p:Pr)(m:Mo)(x:Hl):NK sdR GV p m x=NK sdP FO p m x/\bK sdR GV p m x=bK sdP FO p m x:=by
 have e:NK sdR GV p m x=NK sdP FO p m x/\(NK sdP FO p m x=0->Y7 sdR GV p m x=Y7 sdP FO p m x):=by
  unfold NK;by_cases hv:JS p≠0\/OA m x=false
  .simp_all
  have h:OA m x=true:=by simp_all
  have f:=AFU h
  have A:Y7 sdR GV p m x=Y7 sdP FO p m x:=by
   unfold Y7 OD;refine oG (by rw[jI,jI];exact(mS f).symm) fun i j q=>?_
   rw[jI] at j q;rw[List.getElem_map,List.getElem_map];refine AR2 ?_;rw[qC,qC];congr 1
   have d:(cnL FO m x)[i].map cpE=(cnL GV m x)[i].map cpE:=by
    have:=AA8 f i
    rwa [jO q,jO j] at this
   have:∀ {a b:List Ex},a.map cpE=b.map cpE->(b.map (ET sdR p.vars)).map cpE=(a.map (ET sdP p.vars)).map cpE:=by
    intro a
    induction a with
    | nil=>intro b c;cases b with
      | nil=>rfl
      | cons y b=>simp at c
    | cons x a B=>intro b c;cases b with
      | nil=>simp at c
      | cons y b =>
        simp only[jJ,List.cons.injEq] at c;simp only[jJ];rw[AQW AHC nO c.1.symm,B c.2]
   exact this d
  have g:Q4 p.vars (cnL GV m x)=Q4 p.vars (cnL FO m x):=(ASY (AE7 f)).symm;rw[if_neg hv,if_neg hv,<-A2D,g,A];exact⟨rfl,fun _=>rfl⟩
 refine⟨e.1,?_⟩;unfold bK;rw[e.1];by_cases hz:NK sdP FO p m x=0
 .rw[if_pos hz,if_pos hz,e.2 hz]
 .rw[if_neg hz,if_neg hz]
def Pn (vs:List Vr)(x:Ex):Prop:=OY x=false/\PD vs x=false
theorem Pn.op {x:Ex}(h:x.op≠2/\x.op≠3/\x.op≠24):Pn vs x:=by
 unfold Pn OY PD;simp [h.1,h.2.1,h.2.2]
theorem xU {op n:Int}{c:ByteArray}{m:SM}(h:Pn vs (.mk op n c m l))(g:∀a∈l,∀x∈pre a,Pn vs x):∀x∈pre (.mk op n c m l),Pn vs x:=by
 intro x d;rw[pre_eq] at d;rcases zO.1 d with rfl|d
 .exact h
 .obtain⟨a,f,e⟩:=Ho.mem_pres.1 d
  exact g a f x e
theorem AU3 (n:Int):∀x∈pre (cE n),Pn vs x:=xU (Pn.op (by refine⟨?_,?_,?_⟩<;>(show(1:Int)≠_;decide))) fun a h=>by cases h
theorem ABZ {a:ByteArray}(h:0<=plc vs (elN a k)):∀x∈pre (vaE a k),Pn vs x:=xU (by
 unfold Pn OY PD;refine⟨rfl,?_⟩;show((2:Int)==2&&decide (plc vs (elN a k)<0))=false
 simp;omega) fun a h=>by cases h
theorem AMN {vs:List Vr}{a:ByteArray}{n:Nat}(h:∀k,k<n->0<=plc vs (elN a k)):∀k,k<n->∀x∈pre (WE a k),Pn vs x
 | 0,hk=>ABZ (h 0 hk)
 | k+1,hk=>xU (Pn.op (by refine⟨?_,?_,?_⟩<;>(show(7:Int)≠_;decide))) fun y c=>by
   simp only[zO,List.not_mem_nil,or_false] at c;rcases c with rfl|rfl
   .exact AMN h k U
   .exact ABZ (h (k+1) hk)
theorem AU2 {c:Ex->Ex}{vs:List Vr}{a:ByteArray}{i:Ex}{n:Nat}(h:∀k,k<n->0<=plc vs (elN a k))(e:∀x∈pre (c i),Pn vs x):∀j,j<=n->∀x∈pre (chK c a i n j),Pn vs x
 | 0,_=>AU3 0
 | j+1,f=>xU (Pn.op (by refine⟨?_,?_,?_⟩<;>(show(22:Int)≠_;decide))) fun y d=>by
   simp only[zO,List.not_mem_nil,or_false] at d;rcases d with rfl|rfl|rfl
   .refine xU (Pn.op (by refine⟨?_,?_,?_⟩<;>(show(15:Int)≠_;decide))) fun y d=>?_
    simp only[zO,List.not_mem_nil,or_false] at d;rcases d with rfl|rfl
    .exact e
    .exact AU3 _
   .exact ABZ (h _ U)
   .exact AU2 h e j U
theorem A6L {e:Ex}(h:∀x∈pre e,Pn vs x):∀x∈pre (cpE e),Pn vs x:=by
 intro x c;rw[hJ] at c;obtain⟨y,d,rfl⟩:=zQ.1 c;have:=h y d
 unfold Pn OY PD at this|-
 rw[XD,VZ];exact this
theorem A05 (vs:List Vr)(e:Ex):NdOk e->OC vs e=false->∀x∈pre (ET sdP vs e),Pn vs x:=by
 induction e using Ex.induct with|h e ih=>?_
 intro g c;rw[Q5];unfold scF;by_cases o24:e.op=24
 .rw[if_pos o24]
  have:=SK c (.inr o24);exact AMN (n:=szA vs e.name) (fun k hk=>AG4 hk) _ U
 rw[if_neg o24];by_cases o3:e.op=3
 .rw[if_pos o3]
  have H:=SK c (.inl o3);obtain⟨b,d⟩:=RS g.self o3;have f:b∈e.args:=by rw[d];simp
  have i:=ih b f (g.arg f) (NT c f);obtain⟨A,B⟩:=aK (s:=sdP) (g.arg f) (NT c f);rw[d];show ∀x∈pre (YD cpE e.name (ET sdP vs b) (szA vs e.name)),Pn vs x;unfold YD;split
  .rename_i q
   split
   .have C:=A.1 q
    have F:=B C;exact ABZ (AG4 U)
   .exact AU3 0
  .exact AU2 (fun k hk=>AG4 hk) (A6L i) _ (jF _)
 .rw[if_neg o3]
  refine xU ?_ fun a E=>?_
  .rw[VM,wG] at c
   have j:=c.1;unfold OE at j;unfold Pn OY PD;refine⟨?_,?_⟩
   .show((e.op==3)||(e.op==24))=false
    simp [o3,o24]
   .show((e.op==2)&&decide (plc vs e.name<0))=false
    exact(wG.1 j).1
  .obtain⟨b,d,rfl⟩:=zQ.1 E
   exact ih b d (g.arg d) (NT c d)
theorem AQV {e:Ex}(j:exE e=0)(h:scC vs e=0):xpE vs (ET sdP vs e)=0:=by
 have q:=NdOk.of j;unfold scC at h
 cases d:OC vs e with
 | true=>rw[d,if_pos rfl] at h;exact absurd h DU
 | false =>
   rw[d,if_neg DU] at h;by_cases c:400<(FU vs e).1
   .simp_all
   rw[if_neg c] at h;have f:=A05 vs e q d;have g:kB (ET sdP vs e)=false:=qQ.2 fun x c=>by rw[(f x c).1];simp
   have i:fC vs (ET sdP vs e)=false:=qQ.2 fun x c=>by rw[(f x c).2];simp
   unfold xpE;rw[if_neg (by rw[h];simp)];unfold plE;rw[g,i];rfl
theorem A2W (h:cpE a=cpE b)(f:xpE vs a=0):xpE vs b=0:=by
 have gen:∀e:Ex,xpE vs (cpE e)=xpE vs e:=fun e=>by
  have c:kB (cpE e)=kB e:=by
   unfold kB;rw[hJ,List.any_map];congr 1;funext x;show OY (cpE x)=OY x;unfold OY;rw[XD]
  have d:fC vs (cpE e)=fC vs e:=by
   unfold fC;rw[hJ,List.any_map];congr 1;funext x;show PD vs (cpE x)=PD vs x;unfold PD;rw[XD,VZ]
  unfold xpE plE;rw[AA4,c,d]
 rw[<-gen b,<-h,gen a];exact f
theorem AXK (d:JS p=0):∀e∈p.hard,xpE p.vars e=0:=by
 have c:KY p.vars (p.hard++p.soft)=0:=by
  unfold JS at d;by_cases h1:MV p.vars≠0
  .simp_all
  rw[if_neg h1] at d;by_cases c:KY p.vars (p.hard++p.soft)≠0
  .simp_all
  simpa using c
 intro e f;unfold KY at c;exact Bd.fstE_zero c e (List.mem_append_left _ f)
theorem A04 (h:∀r∈R,∀e∈r,exE e=0)(i:Q4 p.vars R=0):∀S∈OD sdP p.vars R,∀e∈S,xpE p.vars e=0:=by
 intro S d e c;unfold OD at d;obtain⟨r,f,rfl⟩:=zQ.1 d;obtain⟨x,g,rfl⟩:=zQ.1 c;exact AQV (h r f x g) (Bd.fstE_zero i x (List.mem_flatten.2 ⟨r,f,g⟩))
theorem AC5 (d:JS p=0){S:List Ex}(f:∀e∈S,xpE p.vars e=0):∀e∈QM p++S,xpE p.vars e=0:=by
 intro e c;unfold QM at c;rcases zM.1 c with h|h
 .rcases zM.1 h with h|h
  .exact AXK d e h
  .exact A00 d e h
 .exact f e h
theorem A0B (d:OA m x=true)(c:cnE ins m x=0):∀r∈cnL ins m x,∀e∈r,exE e=0:=by
 unfold cnE at c;rw[if_pos d] at c;by_cases q:(cnL ins m x).flatten.all (fun e=>exE e==0)=true
 .grind
 .simp_all
structure Sm51 (p:Pr):Prop where
 hard:p.hard.length<=100000
 dists:p.dists.length<=100000
 bits:JS p=0->lft p (NM p)<=262144
def fI (a:List Int):List AV:=[.sl .any 1 (a.map Bins.qencI)]
theorem A4P:Frz fI:=fun _ _ _ _=>⟨rfl,rfl⟩
def yV (f:List Int->List AV)(s:Bw)(ins:Ex->List Rng->Ex)(p:Pr)(m:Mo)(x:Hl):AV:=.tup [fzG 1 f (bK s ins p m x),.n (NK s ins p m x)]
theorem AKP (f:List Int->List AV)(s:Bw)(ins:Ex->List Rng->Ex)(p:Pr)(m:Mo)(x:Hl):CvR (yV f s ins p m x) (sZ f s ins p m x):=CvR.tup (CvRL.cons WJ (CvRL.cons (CvR.refl _) CvRL.nil))
theorem nY {f:List Int->List AV}{z:Int}(h:NK s ins p m x=z)(c:z≠0):yV f s ins p m x=.tup [.sl .nil 0 [],.n z]:=by
 unfold yV bK;rw[h,if_neg c];rfl
theorem AKO {f:List Int->List AV}{c:List (List Int)}(h:NK s ins p m x=0)(d:Y7 s ins p m x=some c):yV f s ins p m x=.tup [fzG 1 f c,.n 0]:=by
 unfold yV bK;rw[h,if_pos rfl,d];rfl
theorem kS (h:JS p≠0\/OA m x=false):NK s ins p m x=1:=by unfold NK;rw[if_pos h]
theorem AZS (c:JS p=0)(h2:OA m x=true)(h:cnE ins m x≠0):NK s ins p m x=cnE ins m x:=by unfold NK;rw[if_neg (by rw[c,h2];simp),if_pos h]
theorem AZR (c:JS p=0)(h2:OA m x=true)(d:cnE ins m x=0)(h:Q4 p.vars (cnL ins m x)≠0):NK s ins p m x=Q4 p.vars (cnL ins m x):=by unfold NK;rw[if_neg (by rw[c,h2];simp),if_neg (by rw[d];simp),if_pos h]
theorem AZQ (c:JS p=0)(h2:OA m x=true)(d:cnE ins m x=0)(e:Q4 p.vars (cnL ins m x)=0):NK s ins p m x=if(Y7 s ins p m x).isSome then 0 else 11:=by unfold NK;rw[if_neg (by rw[c,h2];simp),if_neg (by rw[d];simp),if_neg (by rw[e];simp)]
theorem ARK (h:GH m≠0):OA m x=false:=by
 cases q:OA m x
 .rfl
 .exact absurd (aG q) h
theorem AI0 (i:OA m x=true):(cnL ins m x).length<=8/\∀r∈cnL ins m x,r.length<=8:=by
 have g:=aG i;have d:=oB i
 have h:=xN (cs:=(UN m x).map (cdQ ins m)) (by rw[jI];exact d.n4) (fun c e=>by
  obtain⟨q,f,rfl⟩:=zQ.1 e;obtain⟨a,b⟩:=d.ok q f
  exact(ABG g a b).2) (fun c e r j=>by
  obtain⟨q,f,rfl⟩:=zQ.1 e;obtain⟨a,b⟩:=d.ok q f
  exact(rJ (P:=fun _=>True) g a b (fun l _=>⟨trivial,trivial⟩) r j).1)
 exact⟨h.1,h.2.1⟩
theorem ASZ (r:Option (List Int))(n:Nat)(H:Hp):FH n H 3 (AIH r)=AIH r:=by cases r<;>rfl
theorem ACI (p:Pr):(SL p).length=p.dists.length:=by unfold SL;rw[jI]
section
variable (G:Nat->AV)
theorem AH5 (i:GOk G)(p:Pr)(A:PrS p)(B:JS p=0)(g:SM)(l:List Ex)(q:l.length<=1048576)(hk:∀e∈l,xpE p.vars e=0)(c:lft p (NM p)<=262144)(h:Hp):
  PCall (En G) 47 [.agg (CW p),.sl g 4 (l.map AQ)] h (AIH (QP p l)):=by
 refine SE 3 (ASZ _) ?_;refine acL Tryz.func47 [.tmp 4,.tmp 5] ?_;have f:=AZ h (qG 5 [CW p]);have d:=Sm.ext.r1 h (qG 5 [CW p]);refine AY @PZ ?_
 generalize h++[qG 5 [CW p]]=H0 at f d|-
 refine AY (TR f) ?_;refine(AY7 G i p A B g l q (fun e j=>by have:=AZH (hk e j);omega) hk c H0).use ?_;unfold AIH
 cases QP p l with
 | none =>
   refine AY (show((11:Int) != 18)=true from rfl) ?_;exact⟨AC,d⟩
 | some a =>
   refine AY (show((0:Int) != 18)=true from rfl) ?_;exact⟨AC,d⟩
theorem YI (M:GOk G)(p:Pr)(hs:PrS p)(hb:Sm51 p)(m:Mo)(hm:MoOk m)(x:Hl)(hn:x.bins.length<=1048576)(h:Hp):PCall (En G) 12 [.agg (CW p),.agg (DT m),.agg (FM x)] h (sZ fI sdP FO p m x):=by
 refine PCall.res ?_ (AKP fI sdP FO p m x);refine ACalls.pure (R:=fun v H=>Sm.ext h H/\FH h.length H 3 v=yV fI sdP FO p m x) 3 ?_ (fun v H ⟨a,b⟩=>⟨a,b⟩);refine acL Tryz.func12 [.tmp 6,.tmp 7] ?_;have T:=AU (x:=qG 3 [FM x]) (AU (x:=qG 2 [DT m]) (AZ h (qG 5 [CW p])));have X:=AU (x:=qG 3 [FM x]) (AZ (h++[qG 5 [CW p]]) (qG 2 [DT m]));have gh:=AZ (h++[qG 5 [CW p]]++[qG 2 [DT m]]) (qG 3 [FM x]);have j:Sm.ext h (h++[qG 5 [CW p]]++[qG 2 [DT m]]++[qG 3 [FM x]]):=(((ext.rfl' h).app _).app _).app _;refine DC @PZ @bxM @bxH ?_
 generalize h++[qG 5 [CW p]]++[qG 2 [DT m]]++[qG 3 [FM x]]=H0 at T X gh j|-
 generalize (h++[qG 5 [CW p]]++[qG 2 [DT m]]).length=xb at gh|-
 generalize (h++[qG 5 [CW p]]).length=mb at X|-
 have bad:∀z:Int,NK sdP FO p m x=z->z≠0->FH h.length H0 3 (.tup [.sl .nil 0 [],.n z])=yV fI sdP FO p m x:=fun z q1 q2=>by rw[nY q1 q2];rfl
 refine AY (TR T) ?_;refine(Bd.valid_prog G M p hs H0).use ?_;cases C:(JS p != 0)
 case true =>
  have q:JS p≠0:=BL C;refine AY C ?_;exact⟨j,bad 1 (kS (.inl q)) DU⟩
 have J:JS p=0:=BL C;refine A7 C (ldM X) ?_;refine(U5 G M m hm H0).use ?_;cases V:(GH m != 0)
 case true =>
  have q:GH m≠0:=BL V;refine A7 C V ?_;exact⟨j,bad 1 (kS (.inr (ARK q))) DU⟩
 refine EG C V (ldM X) (ldH gh) ?_;refine(Ho.valid_prog G M m hm x hn H0).use ?_;cases B:OA m x
 case false =>
  refine DC C V B ?_;exact⟨j,bad 1 (kS (.inr B)) DU⟩
 refine H7 C V B (ldM X) (ldH gh) ?_;refine(sP G M m hm x hn H0).use ?_;by_cases hc:cnE FO m x=0
 rotate_left
 .have e:cnV FO m x=.tup [.sl .nil 0 [],.n (cnE FO m x)]:=by unfold cnV;rw[if_neg hc]
  have bc:(cnE FO m x != 0)=true:=BL hc;rw[e];refine AY bc ?_;exact⟨j,bad _ (AZS J B hc) hc⟩
 have e:cnV FO m x=.tup [.sl .any 1 ((cnL FO m x).map P8),.n 0]:=by unfold cnV;rw[if_pos hc,hc]
 have N:=A0B B hc;obtain⟨a0,O⟩:=AI0 (ins:=FO) B;have c:=AZQ (s:=sdP) J B hc;have a4:=AZR (s:=sdP) J B hc;have d:Y7 sdP FO p m x=WV (fun S=>QP p (QM p++S)) (OD sdP p.vars (cnL FO m x)):=rfl;rw[e]
 generalize cnL FO m x=R at N a0 O a4 c d|-
 refine A7 (show((0:Int) != 0)=false from rfl) (TR T) ?_;refine(yO G M p hs J .any R U (fun r hr=>by have:=O r hr;omega) N H0).use ?_;by_cases hz:Q4 p.vars R=0
 rotate_left
 .have e:AHD sdP p.vars R=.tup [.sl .nil 0 [],.n (Q4 p.vars R)]:=by unfold AHD;rw[if_neg hz]
  have bc:(Q4 p.vars R != 0)=true:=BL hz;rw[e];refine AY bc ?_;exact⟨j,bad _ (a4 hz) hz⟩
 have e:AHD sdP p.vars R=.tup [.sl (Cov.nm (OD sdP p.vars R)) 1 ((OD sdP p.vars R).map P8),.n 0]:=by unfold AHD;rw[if_pos hz,hz]
 have Y:=A04 N hz
 have a9:(OD sdP p.vars R).length<=8/\∀S∈OD sdP p.vars R,S.length<=8:=by
  refine⟨by unfold OD;rw[jI];exact a0,fun S hS=>?_⟩;unfold OD at hS;obtain⟨r,hr,rfl⟩:=zQ.1 hS;rw[jI];exact O r hr
 have c:=c hz;rw[e]
 generalize OD sdP p.vars R=L at Y a9 d|-
 have lh:BO jA H0 23 (.ptr h.length 0 1)=some (.sl p.hm 4 (p.hard.map AQ)):=by rw[BK LU T (row:=CW p) rfl];rfl
 refine AY (show((0:Int) != 0)=false from rfl) ?_;have a1:Bd.fl [⟨p.hm,p.hard⟩,⟨.any,SL p⟩]=QM p:=by simp [Bd.fl,QM]
 have ad:(QM p).length<=200000:=by unfold QM;rw[jW,ACI];have:=hb.hard;have:=hb.dists;omega
 have Z:=Bd.concat_prog G [⟨p.hm,p.hard⟩,⟨.any,SL p⟩] .full BA (by rw[a1];omega) H0;rw[a1] at Z;refine DR BC ?_;refine DC @dA lh (TR T) ?_;refine⟨_,ABY G M p hs J H0,?_⟩;simp only[vQ,KQ,MS,MN,CQ,WO,↓reduceIte,jC,jP,enP,VR,AT7];refine⟨_,Z,?_⟩;have a5:=fun S (q:∀e∈S,xpE p.vars e=0)=>AC5 (p:=p) J (S:=S) q
 generalize QM p=rl at ad d a5|-
 simp only[jI]
 refine BB (fun n F H=>∃i v done,n+i=L.length/\F 3=.ptr h.length 0 0/\F 11=.sl (Cov.nm rl) 4 (rl.map AQ)/\F 12=v/\F 55=.sl (Cov.nm L) 1 (L.map P8)/\F 56=.n (L.length:Nat)/\F 57=.n (i:Nat)/\Sm.ext H0 H/\outG 1 fI H0 done v H/\WV (fun S=>QP p (rl++S)) (L.take i)=some done) L.length
  ⟨0,.sl .nil 0 [],[],BA,by simp only[A8,↓reduceIte,jC],by simp only[A8,↓reduceIte,jC],by simp only[A8,↓reduceIte,jC],by simp only[A8,↓reduceIte,jC],by simp only[A8,↓reduceIte,jC],by simp only[A8,↓reduceIte];rfl,ext.rfl' _,outG.nil _ _ _ _,rfl⟩ ?_
 rintro n F H ⟨i,v,done,hi,f3,f11,f12,a6,a7,K,A,ho,hd⟩;refine A7 a7 K ?_;refine DX ?_ ?_<;>intro g
 .have a3:=jH g
  have aa:=(ZC hd).1;rw[jR] at aa;have a8:=DW A T;have lr:BO jA H 23 (.fptr 1 (L.map P8) i 0)=some (.sl (Cov.nm L[i]) 4 (L[i].map AQ)):=by rw[BR LU g];rfl
  have I:Bd.fl [⟨Cov.nm rl,rl⟩,⟨Cov.nm L[i],L[i]⟩]=rl++L[i]:=by simp [Bd.fl]
  have a2:(rl++L[i]).length<=1048576:=by grind
  have E:=Bd.concat_prog G [⟨Cov.nm rl,rl⟩,⟨Cov.nm L[i],L[i]⟩] .full BA (by rw[I];exact a2) H;rw[I] at E;refine OH a6 K g lr ?_;refine DR BC ?_;refine EG f3 f11 (TR a8) AT7 ?_;refine⟨_,E,_,AH5 G M p hs J _ (rl++L[i]) a2 (a5 _ (Y _ a3)) (hb.bits J) H,?_⟩;unfold AIH
  cases hq:QP p (rl++L[i]) with
  | none =>
    have Q:Y7 sdP FO p m x=none:=by rw[d];exact hZ a3 hq
    refine AY (show((11:Int) != 0)=true from rfl) ?_;refine⟨j.trans A,?_⟩;rw[nY (z:=11) (by rw[c,Q];rfl) DU];rfl
  | some a =>
    obtain⟨v',H4,ha,ac,_,ab,_,_⟩:=ho.append (P:=jA) ud25 ACF zs25 by25 U U A a;change EH jA true H 25 25 v (.sl .full 1 [[.sl .any 1 (a.map Bins.qencI)]])=_ at ha;refine KO (show((0:Int) != 0)=false from rfl) f12 @bsA ha K (C9 i) ?_;exact⟨n-1,U,i+1,v',done++[a],U,AC,AC,AC,AC,AC,AC,ab,ac,by rw[jV g];exact hU hd hq⟩
 .rw[jK U] at hd
  have f:Y7 sdP FO p m x=some done:=by rw[d];exact hd
  refine AY f12 ?_;refine⟨j.trans A,?_⟩;rw[AKO (by rw[c,f];rfl) f];show AV.tup [FH h.length H 2 v,_]=_;rw[LP A4P ho h.length 0 (by have:=j.le;omega)];rfl
def ADE (s:Bw)(ins:Ex->List Rng->Ex)(p:Pr)(m:Mo)(x:Hl):AV:=.tup [.bool (decide (NK s ins p m x=11)),.n (if NK s ins p m x=11 then 0 else NK s ins p m x)]
theorem lN (j:GOk G)(p:Pr)(C:PrS p)(q:Sm51 p)(m:Mo)(A:MoOk m)(x:Hl)(B:x.bins.length<=1048576)(h:Hp):PCall (En G) 14 [.agg (CW p),.agg (DT m),.agg (FM x)] h (ADE sdP FO p m x):=by
 refine SE 3 (fun n H=>rfl) ?_;refine acL Tryz.func14 [.tmp 6,.tmp 7] ?_;have i:=AU (x:=qG 3 [FM x]) (AU (x:=qG 2 [DT m]) (AZ h (qG 5 [CW p])));have g:=AU (x:=qG 3 [FM x]) (AZ (h++[qG 5 [CW p]]) (qG 2 [DT m]));have f:=AZ (h++[qG 5 [CW p]]++[qG 2 [DT m]]) (qG 3 [FM x]);have e:Sm.ext h (h++[qG 5 [CW p]]++[qG 2 [DT m]]++[qG 3 [FM x]]):=(((ext.rfl' h).app _).app _).app _;refine DC @PZ @bxM @bxH ?_
 generalize h++[qG 5 [CW p]]++[qG 2 [DT m]]++[qG 3 [FM x]]=H0 at i g f e|-
 refine DC (TR i) (ldM g) (ldH f) ?_;refine(YI G j p C q m A x B H0).use ?_;unfold sZ ADE;generalize NK sdP FO p m x=c;refine AB ?_;refine BH ?_ ?_<;>intro d
 .have d:c=11:=BL d
  refine AB ?_;exact⟨by rw[d];rfl,e⟩
 .have d:¬c=11:=BL d
  refine AB ?_;exact⟨by rw[if_neg d,decide_eq_false d],e⟩
end
theorem FZ (l:List Nat)(a b:Nat)(s t:List Nat)(n:Nat):(hint l [(a,s),(b,t)]).fz n=if(a==n)=true then s else if(b==n)=true then t else []:=by
 unfold hint;simp only[List.find?];cases a==n<;>cases b==n<;>rfl
theorem AHT {P:Program}{t e:TypeId}{α:Type}{B:Nat}{f:α->List AV}{h H:Hp}{xs ys:List α}{v:AV}(j:outG k f h xs v H)(A:P.underlying t=some (.slice e))(q:szO P e=some k)(M:UZ P e=some k)(F:LQ P e=some B)(hbs:B<=4194304)(J:xs.length+ys.length<=8388608)(C:Sm.ext h H):
  ∃i H',EH P true H t t v (fzG k f ys)=some (i,H')/\outG k f h (xs++ys) i H'/\(∀b x,H[b]?=some x->¬isB v b->H'[b]?=some x)/\Sm.ext h H':=by
 cases ys with
 | nil =>
   refine⟨v,H,?_,by rw[jM];exact j,fun _ _ L _=>L,C⟩;have g:JJ H (.sl .nil 0 [])=some (0,[]):=H6 H .nil 0 [];show EH P true H t t v (.sl .nil 0 [])=_;rcases j with⟨rfl,rfl⟩|⟨K,o,N,rfl,E⟩
   .simp [EH,A,q,SN,g,bump]
   .have I:JJ H (.own o 0 xs.length)=some (k,xs.map f):=by rw[JK E BA,zI,jK BA]
    simp [EH,A,q,SN,I,g,bump]
 | cons y ys =>
   obtain⟨i,H',a,b,c,d,_,_⟩:=MB .any j A q M F hbs J C;exact⟨i,H',a,b,c,d⟩
theorem AS0 (L:List (List Ex)):KN (L.map P8)=true:=by
 unfold KN;rw[zJ];intro r c;obtain⟨l,_,rfl⟩:=zQ.1 c;rfl
section
variable (G:Nat->AV)
theorem tW (p:Pr)(g:PrS p)(P:PV p)(l:List Ex)(f:l.length<=1048576)(hk:∀e∈l,xpE p.vars e=0)(c:lft p (NM p)<=1048576)(h:Hp):
  PCall (En G) 54 [.agg (CW p),fzG 4 AQ l] h (.sl (Cov.nm (mC p l (lft p (NM p)) (NM p))) 1 ((mC p l (lft p (NM p)) (NM p)).map VJ)) :=
 PCall.args (sI G p g P (Cov.nm l) l f (fun e d=>by have:=AZH (hk e d);omega) hk c h) (CvRL.cons (CvR.refl _) (CvRL.cons WJ CvRL.nil))
theorem AV1 (h:∀r∈R,∀e∈r,exE e=0)(i:Q4 p.vars R=0):∀S∈OD sdR p.vars R,∀e∈S,xpE p.vars e=0:=by
 intro S d e c;unfold OD at d;obtain⟨r,f,rfl⟩:=zQ.1 d;obtain⟨x,g,rfl⟩:=zQ.1 c;exact A2W (AHG nO AHC p.vars x) (AQV (h r f x g) (Bd.fstE_zero i x (List.mem_flatten.2 ⟨r,f,g⟩)))
theorem xT (p:Pr)(hs:PrS p)(hb:Sm51 p)(m:Mo)(hm:MoOk m)(x:Hl)(hn:x.bins.length<=1048576)(h:Hp):PCall (En G) 13 [.agg (CW p),.agg (DT m),.agg (FM x)] h (sZ VJ sdR GV p m x):=by
 refine PCall.res ?_ (AKP VJ sdR GV p m x);refine ACalls.pure (R:=fun v H=>Sm.ext h H/\FH h.length H 3 v=yV VJ sdR GV p m x) 3 ?_ (fun v H ⟨a,b⟩=>⟨a,b⟩);refine IK (H:=hint [] [(15,[14,10]),(89,[88])]) (enM G) Tryz.func13 rfl (by kernel_rfl) (by kernel_rfl) (jB (by kernel_rfl)) ?_;show awp _ _ _ _ _ (ML _ [.tmp 6,.tmp 7] _);have gp:=AU (x:=qG 3 [FM x]) (AU (x:=qG 2 [DT m]) (AZ h (qG 5 [CW p])));have gm:=AU (x:=qG 3 [FM x]) (AZ (h++[qG 5 [CW p]]) (qG 2 [DT m]));have gh:=AZ (h++[qG 5 [CW p]]++[qG 2 [DT m]]) (qG 3 [FM x]);have N:Sm.ext h (h++[qG 5 [CW p]]++[qG 2 [DT m]]++[qG 3 [FM x]]):=(((ext.rfl' h).app _).app _).app _;refine EG @FZ @PZ @bxM @bxH ?_
 generalize h++[qG 5 [CW p]]++[qG 2 [DT m]]++[qG 3 [FM x]]=H0 at gp gm gh N|-
 generalize (h++[qG 5 [CW p]]++[qG 2 [DT m]]).length=xb at gh|-
 generalize (h++[qG 5 [CW p]]).length=mb at gm|-
 have bad:∀z:Int,NK sdR GV p m x=z->z≠0->∀H,FH h.length H 3 (.tup [.sl .nil 0 [],.n z])=yV VJ sdR GV p m x:=fun z q1 q2 H=>by rw[nY q1 q2];rfl
 refine A7 @FZ (TR gp) ?_;refine(Bd.valid_ref G p hs H0).use ?_;cases Q:(JS p != 0)
 case true =>
  have q:JS p≠0:=BL Q;refine A7 @FZ Q ?_;exact⟨N,bad 1 (kS (.inl q)) DU _⟩
 have T:JS p=0:=BL Q;refine DC @FZ Q (ldM gm) ?_;refine(uY G m hm H0).use ?_;cases bm:(GH m != 0)
 case true =>
  have q:GH m≠0:=BL bm;refine DC @FZ Q bm ?_;exact⟨N,bad 1 (kS (.inr (ARK q))) DU _⟩
 refine H7 @FZ Q bm (ldM gm) (ldH gh) ?_;refine(Ho.valid_ref G m hm x hn H0).use ?_;cases O:OA m x
 case false =>
  refine EG @FZ Q bm O ?_;exact⟨N,bad 1 (kS (.inr O)) DU _⟩
 refine KO @FZ Q bm O (ldM gm) (ldH gh) ?_;refine(tX G m hm x hn H0).use ?_;by_cases hc:cnE GV m x=0
 rotate_left
 .have e:cnV GV m x=.tup [.sl .nil 0 [],.n (cnE GV m x)]:=by unfold cnV;rw[if_neg hc]
  have bc:(cnE GV m x != 0)=true:=BL hc;rw[e];refine A7 @FZ bc ?_;exact⟨N,bad _ (AZS T O hc) hc _⟩
 have e:cnV GV m x=.tup [.sl .any 1 ((cnL GV m x).map P8),.n 0]:=by unfold cnV;rw[if_pos hc,hc]
 have Z:=A0B O hc;obtain⟨a9,a0⟩:=AI0 (ins:=GV) O;have I:=AZQ (s:=sdR) T O hc;have ab:=AZR (s:=sdR) T O hc;have J:Y7 sdR GV p m x=WV (fun S=>QP p (QM p++S)) (OD sdR p.vars (cnL GV m x)):=rfl;rw[e]
 generalize cnL GV m x=R at Z a9 a0 ab I J|-
 refine A7 @FZ (show((0:Int) != 0)=false from rfl) ?_;refine EK 0 (fun F H=>∃v,F 3=.ptr h.length 0 0/\F 10=v/\Sm.ext H0 H/\outG 1 P8 H0 (OD sdR p.vars R) v H/\Q4 p.vars R=0) (fun F H=>F 6=.sl .nil 0 []/\F 7=.n (Q4 p.vars R)/\Q4 p.vars R≠0/\Sm.ext H0 H) ?_ ?_ ?_
 .refine BB (fun n F H=>∃i v,n+i=R.length/\F 3=.ptr h.length 0 0/\F 8=.sl .any 1 (R.map P8)/\F 10=v/\F 11=.n (i:Nat)/\Sm.ext H0 H/\outG 1 P8 H0 (OD sdR p.vars (R.take i)) v H/\Bd.fstE (scC p.vars) (R.take i).flatten=0) R.length
   ⟨0,.sl .nil 0 [],BA,D7 @FZ,D7 @FZ,D7 @FZ,D7 @FZ,ext.rfl' _,outG.nil _ _ _ _,rfl⟩ ?_
  rintro n F H ⟨i,v,hi,X,f8,f10,f11,c,M,hf⟩;refine DC @FZ f8 f11 ?_;refine DX ?_ ?_<;>intro d
  .have B:=jH d
   have g:=DW c gp;have lr:BO jA H 23 (.fptr 1 (R.map P8) i 0)=some (.sl (Cov.nm R[i]) 4 (R[i].map AQ)):=by rw[BR LU d];rfl
   have ac:=a0 _ B;refine AY @FZ ?_;refine DR BC ?_;refine KZ @FZ X f8 f11 (TR g) d lr ?_;refine⟨_,ACY G p hs T _ R[i] U (Z _ B) H,?_⟩;by_cases C:Bd.fstE (scC p.vars) R[i]=0
   .have e:AHE p.vars R[i]=.tup [.sl (Cov.nm (R[i].map (ET sdR p.vars))) 4 ((R[i].map (ET sdR p.vars)).map AQ),.n 0]:=by unfold AHE;rw[if_pos C,C]
    have ae:OD sdR p.vars (R.take (i+1))=OD sdR p.vars (R.take i)++[R[i].map (ET sdR p.vars)]:=by unfold OD;rw[jV d,qC];rfl
    have ao:(OD sdR p.vars (R.take i)).length=i:=by unfold OD;rw[jI,jR];omega
    obtain⟨v',H4,ha,a5,_,a3,_,_⟩:=M.append (P:=jA) kO lQ mZ lH U U c (R[i].map (ET sdR p.vars));change EH jA true H 100 100 v (.sl .full 1 [[.sl (Cov.nm (R[i].map (ET sdR p.vars))) 4 ((R[i].map (ET sdR p.vars)).map AQ)]])=_ at ha;rw[e];refine KZ @FZ (show((0:Int) != 0)=false from rfl) f10 @AF5 ha f11 (C9 i) ?_;exact⟨n-1,U,i+1,v',U,AC,AC,AC,AC,a3,by rw[ae];exact a5,by rw[jV d,List.flatten_append];simp only[List.flatten_cons,List.flatten_nil,jM];exact AAQ hf C⟩
   .have e:AHE p.vars R[i]=.tup [.sl .nil 0 [],.n (Bd.fstE (scC p.vars) R[i])]:=by unfold AHE;rw[if_neg C]
    have E:Q4 p.vars R=Bd.fstE (scC p.vars) R[i]:=by
     have h1:R=R.take i++R[i]::R.drop (i+1):=by rw[<-zX d,wE]
     unfold Q4
     conv=>lhs;rw[h1,List.flatten_append,List.flatten_cons]
     rw[Bd.fstE_app,if_neg (by rw[hf];simp),Bd.fstE_app,if_pos C]
    have bz:(Bd.fstE (scC p.vars) R[i] != 0)=true:=BL C;rw[e];refine A7 @FZ bz ?_;exact⟨AC,by rw[E],by rw[E];exact C,c⟩
  .rw[jK U] at M hf
   refine AY @FZ ?_;exact⟨v,AC,AC,c,M,hf⟩
 rotate_left
 .rintro F H ⟨f6,f7,C,c⟩
  refine DC @FZ f6 f7 ?_;exact⟨N.trans c,bad _ (ab C) C _⟩
 rintro F H ⟨v,X,f10,c,M,C⟩;have a8:=AV1 Z C
 have a7:(OD sdR p.vars R).length<=8/\∀S∈OD sdR p.vars R,S.length<=8:=by
  refine⟨by unfold OD;rw[jI];exact a9,fun S hS=>?_⟩;unfold OD at hS;obtain⟨r,hr,rfl⟩:=zQ.1 hS;rw[jI];exact a0 r hr
 have I:=I C
 generalize OD sdR p.vars R=L at a8 a7 J M|-
 have g:=DW c gp;have lh:BO jA H 23 (.ptr h.length 0 1)=some (.sl p.hm 4 (p.hard.map AQ)):=by rw[BK LU g (row:=CW p) rfl];rfl
 have an:=hb.hard;have aa:=hb.dists;have ae:=ACI p;obtain⟨v1,H1,a1,o1,k1,x1,_,_⟩:=MB (P:=jA) (f:=AQ) (ys:=p.hard) p.hm (outG.nil 4 AQ H H) NJ GZ QA P9 U NZ (ext.rfl' H);rw[qI] at o1;have a6:=DW x1 g;refine KO @dA @FZ X lh a1 (TR a6) ?_;refine(AGR G p hs T H1).use ?_;obtain⟨v2,H2,a2,o2,k2,x2,_,_⟩:=MB (P:=jA) (f:=AQ) (ys:=SL p) (Cov.nm (SL p)) o1 NJ GZ QA P9 U U x1;have o2:outG 4 AQ H (QM p) v2 H2:=o2;have ac:(QM p).length<=200000:=by unfold QM;rw[jW];omega
 have ad:=fun S (q:∀e∈S,xpE p.vars e=0)=>AC5 (p:=p) T (S:=S) q
 generalize QM p=rl at ac J ad o2|-
 obtain⟨H3,z3,V,l3,_⟩:=fB (NH rl) o2 x2 14;obtain⟨H4,af,x4,l4,_⟩:=fB (AS0 L) (outG_ext M V) (c.trans V) 10;refine KO @FZ f10 a2 @TV z3 af ?_
 have ak:KA jA 100 (fzG 1 P8 L)=some (.n (L.length:Nat)):=by
  cases L with
  | nil=>simp only[fzG,VR];rfl
  | cons a L=>simp only[fzG,VR,jI]
 refine BB (fun n F H=>∃i v done,n+i=L.length/\F 3=.ptr h.length 0 0/\F 10=fzG 1 P8 L/\F 14=fzG 4 AQ rl/\F 15=v/\F 16=.n (i:Nat)/\Sm.ext H0 H/\outG 1 VJ H0 done v H/\WV (fun S=>QP p (rl++S)) (L.take i)=some done) L.length
  ⟨0,.sl .nil 0 [],[],BA,A6M @FZ X,D7 @FZ,D7 @FZ,D7 @FZ,D7 @FZ,x4,outG.nil _ _ _ _,rfl⟩ ?_
 clear X f10 c M g a6 lh a1 o1 k1 x1 a2 o2 k2 x2 z3 V l3 af x4 l4;rintro n F H ⟨i,v,done,hi,X,f10,f14,f15,f16,c,M,hd⟩;refine EG @FZ f10 f16 @ak ?_;refine DX ?_ ?_<;>intro d
 .have B:=jH d
  have am:=a7.2 _ B;have aa:=(ZC hd).1;rw[jR] at aa;have Y:L≠[]:=fun q=>by rw[q] at d;cases d
  rw[pA Y] at f10
  have ah:∀(H:Hp) (F:Fr),F 14=fzG 4 AQ rl->QG (F,H) 14=(F,H):=fun H F q=>by
   cases rl with
   | nil=>exact eZ F q
   | cons y ys=>exact eZ F q
  have ag:∀(H:Hp) (F:Fr),F 10=.sl .any 1 (L.map P8)->QG (F,H) 10=(F,H):=fun H F q=>eZ F q
  obtain⟨w1,J1,b1,p1,q1,y1⟩:=AHT (P:=jA) (f:=AQ) (ys:=rl) (outG.nil 4 AQ H H) NJ GZ QA P9 U NZ (ext.rfl' H);rw[qI] at p1;have lr:BO jA J1 23 (.fptr 1 (L.map P8) i 0)=some (.sl (Cov.nm L[i]) 4 (L[i].map AQ)):=by rw[BR LU d];rfl
  obtain⟨w2,J2,b2,p2,q2,y2,_,_⟩:=MB (P:=jA) (f:=AQ) (ys:=L[i]) (Cov.nm L[i]) p1 NJ GZ QA P9 U U y1;obtain⟨J3,z3,V,l3,_⟩:=fB (NH (rl++L[i])) p2 y2 88;have g:=DW (c.trans y2) gp;have al:=DW (c.trans V) gp;have ai:(rl++L[i]).length<=1048576:=by rw[jW];omega
  have ap:=hb.bits T;simp only[vQ,jS,jU,CQ,WO,↓reduceIte,jC,enP,vH,zZ,FZ,f10,f14,f16,b1,CP d,lr,b2,X,TR g,TV,z3];refine(tW G p hs (PV.of T) (rl++L[i]) ai (ad _ (a8 _ B)) U J3).use ?_;have j:(mC p (rl++L[i]) (lft p (NM p)) (NM p)).head?=QP p (rl++L[i]):=xM p _ _ _
  generalize mC p (rl++L[i]) (lft p (NM p)) (NM p)=A at j|-
  refine AY @FZ ?_
  cases A with
  | nil =>
    have a4:Y7 sdR GV p m x=none:=by rw[J];exact hZ B j.symm
    refine A7 @FZ (show(((([]:List (List Int)).length:Nat):Int)==0)=true from rfl) ?_;exact⟨N.trans (c.trans V),bad 11 (by rw[I,a4];rfl) DU _⟩
  | cons a A =>
    have bn:((((a::A).length:Nat):Int)==0)=false:=by simp;omega
    have aj:JD 1 J3 (.sl (Cov.nm (a::A)) 1 (VJ a::A.map VJ)) (.n 0)=some (.fptr 1 (VJ a::A.map VJ) 0 0):=CP (xs:=a::A) (f:=VJ) (BA:0<(a::A).length);have l0:BO jA J3 32 (.fptr 1 (VJ a::A.map VJ) 0 0)=some (.sl (Cov.nm a) 1 (a.map Bins.qencI)):=by rw[show VJ a::A.map VJ=(a::A).map VJ from rfl,BR O4 (BA:0<(a::A).length)];rfl
    obtain⟨v',H4,ha,a5,_,a3,_,_⟩:=(outG_ext M V).append (P:=jA) ud25 ACF zs25 by25 U U (c.trans V) a;change EH jA true J3 25 25 v (.sl .full 1 [[.sl (Cov.nm a) 1 (a.map Bins.qencI)]])=_ at ha;simp only[vQ,jS,jU,CQ,↓reduceIte,jC,enP,oR,zZ,FZ,TV,ah,ag,f10,f14,bn,f15,aj,l0,bsA,ha,f16,C9 i];exact⟨n-1,U,i+1,v',done++[a],U,AC,by first|exact True.intro|(rw[pA Y];exact f10)|rw[pA Y],AC,AC,AC,a3,a5,by rw[jV d];exact hU hd j.symm⟩
 .rw[jK U] at hd
  have K:Y7 sdR GV p m x=some done:=by rw[J];exact hd
  refine A7 @FZ f15 ?_;refine⟨N.trans c,?_⟩;rw[AKO (by rw[I,K];rfl) K];show AV.tup [FH h.length H 2 v,_]=_;rw[LP A4Q M h.length 0 (by have:=N.le;omega)];rfl
theorem AJU (p:Pr)(B:PrS p)(j:Sm51 p)(m:Mo)(q:MoOk m)(x:Hl)(A:x.bins.length<=1048576)(h:Hp):PCall (En G) 15 [.agg (CW p),.agg (DT m),.agg (FM x)] h (ADE sdR GV p m x):=by
 refine SE 3 (fun n H=>rfl) ?_;refine acL Tryz.func15 [.tmp 6,.tmp 7] ?_;have i:=AU (x:=qG 3 [FM x]) (AU (x:=qG 2 [DT m]) (AZ h (qG 5 [CW p])));have g:=AU (x:=qG 3 [FM x]) (AZ (h++[qG 5 [CW p]]) (qG 2 [DT m]));have f:=AZ (h++[qG 5 [CW p]]++[qG 2 [DT m]]) (qG 3 [FM x]);have e:Sm.ext h (h++[qG 5 [CW p]]++[qG 2 [DT m]]++[qG 3 [FM x]]):=(((ext.rfl' h).app _).app _).app _;refine DC @PZ @bxM @bxH ?_
 generalize h++[qG 5 [CW p]]++[qG 2 [DT m]]++[qG 3 [FM x]]=H0 at i g f e|-
 refine DC (TR i) (ldM g) (ldH f) ?_;refine(xT G p B j m q x A H0).use ?_;unfold sZ ADE;generalize NK sdR GV p m x=c;refine AB ?_;refine BH ?_ ?_<;>intro d
 .have d:c=11:=BL d
  refine AB ?_;exact⟨by rw[d];rfl,e⟩
 .have d:¬c=11:=BL d
  refine AB ?_;exact⟨by rw[if_neg d,decide_eq_false d],e⟩
end
end Go.Proofs.YtiihpnicbekebaaGreatDoor.Bd.Cl
namespace Go.Proofs.YtiihpnicbekebaaGreatDoor.Sm
open Go.RowKit
theorem SimH.below {E:Env}{g:Gh}{h:Hp}{w w':World}(S:SimH E g h w)(hb:Below w.heap.size w w'):SimH E g h w' where
 os:=hb.os.trans S.os
 tape:=hb.tape.trans S.tape
 output:=hb.output.trans S.output
 fro k o hk:=by
  have:=S.fro k o hk;rw[hb.block k (by have:=(Array.getElem?_eq_some_iff.1 this).1;exact this)];exact this
 lo:=S.lo
 live b k xs hb':=by
  obtain⟨l,c,e,h1,h2,h3,h4,h5⟩:=S.live b k xs hb';refine⟨l,c,e,h1,h2,h3,?_,h5⟩;rw[hb.block _ (by have:=(Array.getElem?_eq_some_iff.1 h4).1;exact this)];exact h4
 obj b x hb' hi:=by
  obtain⟨l,o,h1,h2,h3,h4,h5,h6⟩:=S.obj b x hb' hi;refine⟨l,o,h1,h2,h3,h4,?_,h6⟩;rw[hb.block _ (by have:=(Array.getElem?_eq_some_iff.1 h5).1;exact this)];exact h5
 inj:=S.inj
 fresh:=S.fresh
 glob:=S.glob
end Go.Proofs.YtiihpnicbekebaaGreatDoor.Sm
namespace Go.Proofs.YtiihpnicbekebaaGreatDoor.Sm
variable {n:Nat} {P:Program} {t:TypeId}

def M0 (W:World):Nat->Option Obj:=fun k=>W.heap[k]?
def g0 (W:World):Gh:=⟨M0 W,fun _=>none,W.os,W.tape,W.output,fun _=>none⟩
theorem A7E {E:Env}{W:World}(hN:E.L=none)(hG:∀n,RepF (M0 W) (E.G n) (.pointer (some ⟨n,0,none⟩))):SimH E (g0 W) [] W where
 os:=rfl
 tape:=rfl
 output:=rfl
 fro k o h:=h
 lo g0 h:=by rw[hN] at h;cases h
 live b k xs h:=by simp at h
 obj b x h:=by simp at h
 inj b b' x x' l l' h:=by simp at h
 fresh b _:=rfl
 glob:=hG
theorem AFZ {E:Env}{f:FuncId}{d:List AV}{args:Array Value}{W:World}(B:ACalls E f d [] fun v _=>v=.bool true)(j:E.L=none)(q:∀u h,¬E.X u h)
  (i:∀n,RepF (M0 W) (E.G n) (.pointer (some ⟨n,0,none⟩))) (A:dL (g0 W) d args) :
  Calls E.P f args W fun e w'=>e=.returned (.bool true)/\RowKit.Below W.heap.size W w':=by
 refine(B.2 (g0 W) W args (A7E j i) A).mono ?_;rintro e w' (⟨v,cv,g',h',rfl,rfl,hle,S,hr⟩|⟨_,_,_,_,hx,_⟩)
 rotate_left
 .exact(q _ _ hx).elim
 rw[hr.bool_inv];have c:∀k o,W.heap[k]?=some o->w'.heap[k]?=some o:=fun k o h=>S.fro k o (hle.M k o h)
 refine⟨rfl,?_,?_,?_,?_,?_⟩
 .rw[S.os,hle.os];rfl
 .rw[S.tape,hle.tape];rfl
 .rw[S.output,hle.output];rfl
 .rcases Nat.lt_or_ge w'.heap.size W.heap.size with h|h
  .have g:=c w'.heap.size _ (Array.getElem?_eq_getElem h)
   simp at g
  .exact h
 .intro k hk
  rw[c k _ (Array.getElem?_eq_getElem hk),Array.getElem?_eq_getElem hk]
theorem AQ5 {H:Type}{enc:TypeId×Value->H}{P:Program}{f:Func}{s:ChangeSpec}{tb:TypeId}{g B i:Bool}{W N:World}{args:Array Value}{ds O:List (DataW H)}{j:List MemPlace}
  (X:DataW.Whole enc P f.params.toList s.vars g W args.toList ds O j) (Y:RowKit.Below W.heap.size W N)
  (hv:s.vars=[]) (hr:f.resultTypes = #[tb]) (T:P.underlying tb=some .bool)
  (hs:s.fn H ds={ results:=[.lit (.bool true)],args:=ds })
  (hl:laidOutB P=true) (hp:f.params.toList.all (fun t=>P.readableRec t&&decide (t<P.types.size))=true) :
  s.post enc P f g B i false W args (.bool true) N:=by
 have C:=X;obtain⟨p,q,hA,Q,rfl,_,_⟩:=X;rw[hv] at Q
 obtain⟨rfl,rfl⟩:O=[]/\q=[]:=by
  cases O with
  | nil=>exact⟨rfl,Q⟩
  | cons=>exact Q.elim
 have E:s.fn H (ds++[])={ results:=[.lit (.bool true)],args:=ds }:=by rw[jM];exact hs
 rw[jM] at C;have J:∀x∈p,x.block<W.heap.size:=fun x c=>C.lt x c
 have I:∀(V:Nat->Bool),(∀x∈p,V x.block=true)->∀ {F:List TypeId} {vs:List Value} {ds:List (DataW H)} {M:List MemPlace},(F.all (fun t=>P.readableRec t&&decide (t<P.types.size))=true) ->
   (∀x∈M,x∈p)->DataW.TrodAll enc P W 0 (fun _=>true) true F vs ds M->DataW.TrodAll enc P N 0 V true F vs ds M:=by
  intro V S F
  induction F with
  | nil =>
    intro vs ds M _ _ h
    cases vs<;>cases ds<;>first|exact h|exact h.elim
  | cons t F ih =>
    intro vs ds M A Z h
    cases vs with
    | nil=>exact h.elim
    | cons v vs =>
      cases ds with
      | nil=>exact h.elim
      | cons d ds =>
        obtain⟨p1,q1,h1,h2,e⟩:=h;simp only[List.all_cons,jX,decide_eq_true_eq] at A;have K:∀x∈p1,x∈p:=fun x c=>Z x (by rw[e];exact List.mem_append_left _ c)
        exact⟨p1,q1,WideElems.Trod_stays hl A.1.1 A.1.2 h1 (fun x c=>Y.same (J x (K x c))) (fun x c=>S x (K x c)),ih A.2 (fun x c=>Z x (by rw[e];exact List.mem_append_right _ c)) h2,e⟩
 have L:∀x∈p,(fun b=>decide (b<W.heap.size)) x.block=true:=fun x c=>by simpa using J x c
 refine⟨ds,[],p,[],p,[],C,?_,?_,?_,World.keptBut_mono (fun x c=>⟨c,.inr (.inl c)⟩) (Y.frame (·∈p)),fun h=>by cases h⟩
 .rw[E,hr]
  exact ChangeShapes.trodAll_mk1 (RowKit.shut_bool T true)
 .rw[E];exact I _ L hp (fun _ h=>h) hA
 .rw[hv,E];exact rfl

open Go.Proofs.YtiihpnicbekebaaGreatDoor.Rows (uptoBulk uptoBulkAll)
def RowP (M:Nat->Option Obj)(d:List AV)(cs:List Value):Prop:=∀(j:Nat) (a:AV),d[j]?=some a->a.leaf=true/\∃c,cs[j]?=some c/\RepF M a c
theorem RowP.nil (M:Nat->Option Obj)(cs:List Value):RowP M [] cs:=fun j a h=>by simp at h
theorem RowP.one {M:Nat->Option Obj}{a:AV}{c:Value}(e:a.leaf=true)(h:RepF M a c):RowP M [a] [c]:=by
 intro j b d
 cases j with
 | zero=>simp at d;subst d;exact⟨e,c,rfl,h⟩
 | succ j=>simp at d
theorem RowP.append {M:Nat->Option Obj}{i q:List AV}{cs:List Value}(h:RowP M i (cs.take n))(A:i.length=n)(k:RowP M q (cs.drop n)):RowP M (i++q) cs:=by
 intro j a e;rw[List.getElem?_append] at e;split at e
 .obtain⟨f,c,d,g⟩:=h j a e
  rw[List.getElem?_take] at d;split at d
  .exact⟨f,c,d,g⟩
  .cases d
 .obtain⟨f,c,d,g⟩:=k _ a e
  rw[List.getElem?_drop] at d;exact⟨f,c,by rw[<-d];congr 1;omega,g⟩
def RdAt (P:Program)(n:Nat)(t:TypeId){α:Type}(enc:α->List AV)(f:α->Nat->Prop):Prop :=
 ∀ (H:Type) (c:TypeId×Value->H) (w:World) (e:List Value) (d:DataW H) (g:List MemPlace),
   DataW.trod c P w 0 (fun _=>true) true n t e=some (d,g)->∃x,f x (uptoBulk d)/\RowP (M0 w) (enc x) e
def Rd (P:Program)(t:TypeId){α:Type}(enc:α->List AV)(c:α->Nat->Prop):Prop:=∀n,RdAt P n t enc c
theorem RdAt.zero {α:Type}{enc:α->List AV}{e:α->Nat->Prop}:RdAt P 0 t enc e:=by
 intro H c w f d g h;simp [DataW.trod] at h
theorem RdAt.map {P:Program}{n:Nat}{t:TypeId}{α β:Type}{enc:α->List AV}{i:α->Nat->Prop}{c:β->List AV}{g:β->Nat->Prop}(f:α->β)(h:RdAt P n t enc i)
  (B:∀x,c (f x)=enc x) (hk:∀x b,i x b->g (f x) b):RdAt P n t c g:=by
 intro H e w j d E C;obtain⟨x,q,A⟩:=h H e w j d E C;exact⟨f x,hk x _ q,by rw[B];exact A⟩
theorem Rd.map {P:Program}{t:TypeId}{α β:Type}{enc:α->List AV}{e:α->Nat->Prop}{c:β->List AV}{d:β->Nat->Prop}(f:α->β)(h:Rd P t enc e)
 (g:∀x,c (f x)=enc x) (hk:∀x b,e x b->d (f x) b):Rd P t c d:=fun n=>(h n).map f g hk
def okI (z:Int)(_:Nat):Prop := -9223372036854775808<=z/\z<=9223372036854775807
def okS (s:ByteArray)(b:Nat):Prop:=s.size+1<=b
def okT {α:Type}(_:α)(_:Nat):Prop:=True
def okL {α:Type}(e:α->Nat->Prop):List α->Nat->Prop
 | [],_=>True
 | x::xs,b=>∃c d,c+d<=b/\1<=c/\e x c/\okL e xs d
theorem okL.length {α:Type}{d:α->Nat->Prop}:∀ {xs:List α} {b:Nat},okL d xs b->xs.length<=b
 | [],_,_=>qF _
 | _::_,_,⟨_,_,e,f,_,c⟩=>by have:=okL.length c;simp;omega
theorem okL.each {α:Type}{d:α->Nat->Prop}:∀ {xs:List α} {b:Nat},okL d xs b->∀x∈xs,∃c,c<=b/\d x c
 | [],_,_,_,h=>by cases h
 | y::ys,b,⟨c,q,A,B,g,i⟩,x,h=>by
   cases List.mem_cons.1 h with
   | inl e=>subst e;exact⟨c,U,g⟩
   | inr e=>obtain⟨f,C,j⟩:=okL.each i x e;exact⟨f,U,j⟩
theorem okL.mono {α:Type}{d:α->Nat->Prop}:∀ {xs:List α} {b c:Nat},okL d xs b->b<=c->okL d xs c
 | [],_,_,_,_=>trivial
 | _::_,_,_,⟨e,f,q,g,i,j⟩,h=>⟨e,f,U,g,i,j⟩
theorem AT0 {H:Type}(d:DataW H):1<=uptoBulk d:=by
 cases d with
 | lit l=>cases l<;>simp [uptoBulk]
 | nil=>simp [uptoBulk]
 | ptr d=>simp [uptoBulk]
 | slice e f=>simp [uptoBulk]
 | agg parts=>simp [uptoBulk]
 | iface t d=>simp [uptoBulk]
 | map c=>simp [uptoBulk]
 | held h=>simp [uptoBulk]
theorem A09 (f:P.underlying t=some (.int .i64)):Rd P t (fun z:Int=>[.int .i64 z]) okI:=by
 intro n H c w g d j h;obtain⟨z,rfl,i,e⟩:=DataW.trod_int f h;refine⟨z,?_,RowP.one rfl (.int _ _)⟩;simp only[Lit.wf,jX,decide_eq_true_eq] at e;exact e
theorem AKN (e:P.underlying t=some .bool):Rd P t (fun z:Bool=>[.bool z]) okT:=by
 intro n H c w f d i h;obtain⟨z,rfl,g⟩:=DataW.trod_bool e h;exact⟨_,trivial,RowP.one rfl (.bool _)⟩
theorem A08 (e:P.underlying t=some .string):Rd P t (fun z:ByteArray=>[.str z]) okS:=by
 intro n H c w g d i h;obtain⟨s,rfl,f,_⟩:=DataW.trod_string e h;cases f;refine⟨s,?_,RowP.one rfl (.str _)⟩;simp only[okS,uptoBulk,Array.length_toList];exact Nat.le_refl _
theorem oM {α β:Type}{f:α->Option β}{x:α}{xs:List α}{ys:List β}(h:(x::xs).mapM f=some ys):∃y c,f x=some y/\xs.mapM f=some c/\ys=y::c:=by
 rw[List.mapM_cons] at h
 cases d:f x with
 | none=>simp [d] at h
 | some y =>
   cases e:xs.mapM f with
   | none=>simp [d,e] at h
   | some c=>simp [d,e] at h;exact⟨y,c,rfl,rfl,h.symm⟩
theorem AC8 {P:Program}{n:Nat}{e:TypeId}{α:Type}{enc:α->List AV}{B:α->Nat->Prop}(A:RdAt P n e enc B){H:Type}{d:TypeId×Value->H}{w:World} :
  ∀ (f:List (DataW H×List MemPlace)) (c:Nat->Option (List Value)),(∀i,i<f.length->(c i).bind (DataW.trod d P w 0 (fun _=>true) true n e)=f[i]?) ->
    ∃xs:List α,xs.length=f.length/\okL B xs (uptoBulkAll (f.map (·.1)))/\∀(i:Nat) (x:α),xs[i]?=some x->∃cs,c i=some cs/\RowP (M0 w) (enc x) cs
 | [],c,h=>⟨[],rfl,trivial,fun i x h=>by simp at h⟩
 | y::f,c,h=>by
   have j:=h 0 BA
   cases q:c 0 with
   | none=>simp [q] at j
   | some cs =>
     simp only[q,Option.bind_some,List.getElem?_cons_zero] at j;obtain⟨x,E,F⟩:=A H d w cs y.1 y.2 j;obtain⟨xs,I,J,K⟩:=AC8 A f (fun i=>c (i+1)) (fun i C=>by have:=h (i+1) (BL C);simpa using this);refine⟨x::xs,by simp [I],⟨uptoBulk y.1,uptoBulkAll (f.map (·.1)),by simp [uptoBulkAll],AT0 _,E,J⟩,?_⟩;intro i L g
     cases i with
     | zero=>simp at g;subst g;exact⟨cs,q,F⟩
     | succ i=>simp at g;exact K i L g
theorem AH4 {β:Type}{f:Nat->Option β}{i:Nat}{ys:List β}(h:(List.range n).mapM f=some ys)(g:i<n):∃y,f i=some y/\ys[i]?=some y:=by
 have gen:∀(l:List Nat) (ys:List β),l.mapM f=some ys->∀j k:Nat,l[j]?=some k->∃y,f k=some y/\ys[j]?=some y:=by
  intro l
  induction l with
  | nil=>intro ys _ j k c;simp at c
  | cons a l A =>
    intro ys q j k c;obtain⟨y,B,d,e,rfl⟩:=oM q
    cases j with
    | zero=>simp at c;subst c;exact⟨y,d,rfl⟩
    | succ j=>simp at c;exact A B e j k c
 exact gen _ _ h i i (by simp [g])
theorem cells_at {w:World}{a:Addr}{cs:List Value}(h:w.cells? 0 a n=some cs){i:Nat}(d:i<n):∃c,w.cell? (a.add i)=some c/\cs[i]?=some c:=by
 unfold World.cells? at h;simp only[qF,if_true] at h;exact AH4 h d
theorem MJ {P:Program}{n:Nat}{t e:TypeId}{k:Nat}{α:Type}{enc:α->List AV}{ok:α->Nat->Prop}(hu:P.underlying t=some (.slice e))(hk:P.cellsOf e=k)(a0:0<k)(A:∀x,(enc x).length=k)
  (hr:RdAt P n e enc ok):RdAt P (n+1) t (fun x:SM×List α=>[.sl x.1 k (x.2.map enc)]) (fun x b=>∃M,M+1<=b/\okL ok x.2 M):=by
 intro H a5 w cs d ps h;rcases DataW.trod_slice hu h with⟨rfl,V⟩|⟨a,len,cap,zs,a6,m,hm,rfl,V,_,a1,_,a4,Z,_,_⟩
 .cases V
  exact⟨(.nil,[]),⟨0,by simp [uptoBulk],trivial⟩,RowP.one rfl (.nil _)⟩
 .obtain rfl:n=m:=U
  simp only[Prod.mk.injEq] at V;obtain⟨C,E,l2,l3⟩:=AC8 hr zs (fun i=>w.cells? 0 (a.add (i*P.cellsOf e)) (P.cellsOf e)) (fun i J=>Z i U);rw[a4] at E;have N:∃M,M+1<=uptoBulk d/\okL ok C M:=⟨uptoBulkAll (zs.map (·.1)),by rw[V.1];simp [uptoBulk],l2⟩;rcases Nat.eq_zero_or_pos len with h0|O
  .subst h0
   have:C=[]:=wM.1 E;subst this;exact⟨(.any,[]),N,RowP.one rfl (.empty .any k a cap BA BA)⟩
  .refine⟨(.any,C),N,RowP.one rfl ?_⟩
   have cellAt:∀i j,i<len->j<k->∃c,w.cell? ((a.add (i*k)).add j)=some c/\∀x L,C[i]?=some x->(enc x)[j]?=some L->L.leaf=true/\RepF (M0 w) L c:=by
    intro i j J K;have B:i<C.length:=U;obtain⟨a7,F,q2⟩:=l3 i C[i] (by simp [B]);rw[hk] at F;obtain⟨c,r1,r2⟩:=cells_at F K;refine⟨c,r1,fun x L S X=>?_⟩;rw[List.getElem?_eq_getElem B] at S;cases S;obtain⟨s1,c',s2,s3⟩:=q2 j L X;rw[r2] at s2;cases s2;exact⟨s1,s3⟩
   obtain⟨T,I,sp⟩:=a
   have q:∀i j,((Addr.mk T I none).add (i*k)).add j=⟨T,I+i*k+j,none⟩:=by
    intro i j;rw[addr_add,addr_add]
   obtain⟨c0,f,_⟩:=cellAt 0 0 O a0
   have a3:sp=none:=by
    simp [Addr.add,World.cell?] at f;split at f
    .split at f
     .cases f
     .rename_i hs;simpa using hs
    .cases f
   subst a3;rw[q] at f;simp only[World.cell?] at f;split at f
   case h_2=>cases f
   rename_i c ty fz hw;have rd:∀i j,w.cell? ⟨T,I+i*k+j,none⟩=c[I+i*k+j]? := fun i j=>by simp [World.cell?,hw]
   have a2:len=(C.map enc).length:=by simp [E]
   rw[a2];refine .sl .any k (C.map enc) T I c ty fz cap (fun i j=>c[I+i*k+j]?.getD default) ?_ BA hw ?_ ?_ ?_ ?_ BA
   .intro B
    have:C=[]:=BL B;subst this;simp at E;omega
   .intro i row g
    rw[zB,Option.map_eq_some_iff] at g;obtain⟨x,B,rfl⟩:=g;refine⟨A x,fun j v Q=>?_⟩;have J:i<len:=by rw[<-E];exact(List.getElem?_eq_some_iff.1 B).1
    have K:j<k:=by rw[<-A x];exact(List.getElem?_eq_some_iff.1 Q).1
    obtain⟨c,_,Y⟩:=cellAt i j J K;exact(Y x v B Q).1
   .intro i j J K
    obtain⟨c',F,_⟩:=cellAt i j (by simpa [E] using J) K;rw[q,rd] at F;rw[F];rfl
   .intro i j row v g Q
    rw[zB,Option.map_eq_some_iff] at g;obtain⟨x,B,rfl⟩:=g;have J:i<len:=by rw[<-E];exact(List.getElem?_eq_some_iff.1 B).1
    have K:j<k:=by rw[<-A x];exact(List.getElem?_eq_some_iff.1 Q).1
    obtain⟨c',F,q2⟩:=cellAt i j J K;rw[q,rd] at F;show RepF _ _ (c[I+i*k+j]?.getD default);rw[F];exact(q2 x v B Q).2
   .simp [E];exact a1
def AY4 (P:Program)(n:Nat)(g:List Field)(off:Nat){α:Type}(enc:α->List AV)(h:α->Nat->Prop):Prop :=
 ∀ (H:Type) (c:TypeId×Value->H) (w:World) (e:List Value) (d:List (DataW H×List MemPlace)),d.length=g.length ->
   (∀(i:Nat) (f:Field),g[i]?=some f->DataW.trod c P w 0 (fun _=>true) true n f.type ((e.drop f.offset).take (P.cellsOf f.type))=d[i]?)->∃x,h x (uptoBulkAll (d.map (·.1)))/\RowP (M0 w) (enc x) (e.drop off)
theorem Q9 {off:Nat}:AY4 P n [] off (fun _:Unit=>[]) okT:=fun _ _ _ _ _ _ _=>⟨(),trivial,RowP.nil _ _⟩
theorem FQ {P:Program}{n off k:Nat}{f:Field}{B:List Field}{α β:Type}{enc:α->List AV}{I:α->Nat->Prop}{c:β->List AV}{g:β->Nat->Prop}(O:f.offset=off)(hk:P.cellsOf f.type=k)
  (e:∀x,(enc x).length=k) (h:RdAt P n f.type enc I) (L:AY4 P n B (off+k) c g) :
  AY4 P n (f::B) off (fun x:α×β=>enc x.1++c x.2) (fun x b=>∃q A,q+A<=b/\I x.1 q/\g x.2 A):=by
 intro H d w J j C E
 cases j with
 | nil=>simp at C
 | cons y j =>
   have M:=E 0 f rfl;obtain⟨x,Q,F⟩:=h H d w _ y.1 y.2 (BL M);obtain⟨V,S,T⟩:=L H d w J j (BL C) (fun i K N=>by have:=E (i+1) K (BL N);simpa using this);refine⟨(x,V),⟨_,_,Nat.le_of_eq (by simp [uptoBulkAll]),Q,S⟩,?_⟩;rw[O,hk] at F;refine RowP.append F (e x) ?_;rw[List.drop_drop];exact T
theorem MX {g:List Field}{α:Type}{enc:α->List AV}{q:α->Nat->Prop}(F:P.underlying t=some (.struct g.toArray))(h:AY4 P n g 0 enc q):
  RdAt P (n+1) t enc (fun x b=>∃e,e+1<=b/\q x e):=by
 intro H c w A d N E;obtain⟨L,m,M,j,_,C,I⟩:=DataW.trod_struct F E;obtain rfl:n=m:=U;obtain⟨x,J,K⟩:=h H c w A L (BL C) (fun i f B=>I i f (BL B));simp only[Prod.mk.injEq] at j;exact⟨x,⟨_,by rw[j.1];simp [uptoBulk],J⟩,BL K⟩

open Go.Proofs.YtiihpnicbekebaaGreatDoor.Rows (uptoBulk uptoBulkAll)
def PR (P:Program)(t:TypeId){α:Type}(f:α->AV)(g:α->Nat->Prop):Prop :=
 ∀ (H:Type) (e:TypeId×Value->H) (w:World) (c:Nat) (v:Value) (d:DataW H) (h:List MemPlace),Value.okWide P w .any c t v->DataW.Trod e P w 0 (fun _=>true) true t v d h ->
   ∃x,g x (uptoBulk d)/\RepF (M0 w) (f x) v
theorem A7J {α:Type}{enc:α->List AV}{C:α->Nat->Prop}{k:Nat}(h:Rd P t enc C)(M:∀x,C x 0\/True->(enc x).length=k)(hk:P.cellsOf t=k)(g:J9 P t=some true):PR P t (fun x=>.agg (enc x)) C:=by
 intro H e w E v d Q j ⟨n,O⟩
 have A:∃f,v=.agg f/\f.size=P.cellsOf t:=by
  unfold J9 at g;unfold Value.okWide at j
  cases F:P.underlying t with
  | none=>simp [F] at g
  | some S =>
    rw[F] at g j;cases S<;>simp at g<;>exact⟨_,j.choose_spec.1,j.choose_spec.2.1⟩
 obtain⟨f,rfl,N⟩:=A;obtain⟨x,I,J⟩:=h n H e w _ d Q O;refine⟨x,I,.agg _ f (by rw[N,M x (.inr trivial),hk]) ?_⟩;intro i a T L B;obtain⟨_,c,q,K⟩:=J i a L;simp [Value.cells] at q;rw[B] at q;cases q;exact K
def PRs (P:Program)(g:List TypeId){α:Type}(c:α->List AV)(h:α->Nat->Prop):Prop :=
 ∀ (H:Type) (e:TypeId×Value->H) (w:World) (d:Nat) (vs:List Value) (f:List (DataW H)) (q:List MemPlace),(∀(j:Nat) t v,g[j]?=some t->vs[j]?=some v->Value.okWide P w .any d t v) ->
   DataW.TrodAll e P w 0 (fun _=>true) true g vs f q->∃x,h x (uptoBulkAll f)/\vs.length=(c x).length/\∀(i:Nat) (a:AV) (v:Value),(c x)[i]?=some a->vs[i]?=some v->RepF (M0 w) a v
theorem PRs.len {P:Program}{w:World}{H:Type}{d:TypeId×Value->H}{h:Nat->Bool}{e:Bool}{c:Nat}:∀ {f:List TypeId} {vs:List Value} {ds:List (DataW H)} {ps:List MemPlace},DataW.TrodAll d P w c h e f vs ds ps->ds.length=f.length
 | [],[],[],_,_=>rfl
 | _::_,_::_,_::_,_,⟨_,_,_,g,_⟩=>by simp [PRs.len g]
theorem A6N:PRs P [] (fun _:Unit=>[]) okT:=by
 intro H d w c vs e f _ h
 cases vs with
 | nil=>exact⟨(),trivial,rfl,fun i a v h=>by simp at h⟩
 | cons v vs=>cases e<;>exact h.elim
theorem A3K {N:List TypeId}{α β:Type}{I:α->AV}{M:α->Nat->Prop}{g:β->List AV}{A:β->Nat->Prop}(h:PR P t I M)(O:PRs P N g A):
  PRs P (t::N) (fun x:α×β=>I x.1::g x.2) (fun x b=>∃J K,J+K<=b/\M x.1 J/\A x.2 K):=by
 intro H f w e vs B ps L E
 cases vs with
 | nil=>cases B<;>exact E.elim
 | cons v vs =>
   cases B with
   | nil=>exact E.elim
   | cons d B =>
     obtain⟨p,q,Q,S,_⟩:=E;obtain⟨x,T,V⟩:=h H f w e v d p (L 0 t v rfl rfl) Q;obtain⟨y,X,Y,Z⟩:=O H f w e vs B q (fun j t' F a b=>L (j+1) t' F (BL a) (BL b)) S;refine⟨(x,y),⟨_,_,Nat.le_of_eq (by simp [uptoBulkAll]),T,X⟩,by simp [Y],?_⟩;intro i a F C c
     cases i with
     | zero=>simp at C c;subst C;subst c;exact V
     | succ i=>simp at C c;exact Z i a F C c
theorem AXA {H:Type}{enc:TypeId×Value->H}{E:Env}{f:FuncId}{fn:Func}{s:ChangeSpec}{tb:TypeId}{c C d:Bool}{W:World}{A:Nat}{args:Array Value}{ds Q:List (DataW H)}{g:List MemPlace}
  {α:Type} {B:α->List AV} {M:α->Nat->Prop} (hr:PRs E.P fn.params.toList B M) (F:∀x,M x (uptoBulkAll ds)->ACalls E f (B x) [] fun v _=>v=.bool true)
  (I:∀(j:Nat) t v,fn.params[j]?=some t->args[j]?=some v->Value.okWide E.P W .any A t v)
  (K:DataW.Whole enc E.P fn.params.toList s.vars c W args.toList ds Q g) (Y:∀n,RepF (M0 W) (E.G n) (.pointer (some ⟨n,0,none⟩)))
  (hv:s.vars=[]) (ht:fn.resultTypes = #[tb]) (J:E.P.underlying tb=some .bool)
  (hs:s.fn H ds={ results:=[.lit (.bool true)],args:=ds })
  (hl:laidOutB E.P=true) (hp:fn.params.toList.all (fun t=>E.P.readableRec t&&decide (t<E.P.types.size))=true) (Z:E.L=none:=by rfl) (hX:∀u h,¬E.X u h:=by exact fun _ _ q=>q) :
  Calls E.P f args W fun e N=>∃v,e=.returned v/\s.post enc E.P fn c C d false W args v N:=by
 obtain⟨p,q,V,_⟩:=id K;obtain⟨x,k1,k2,k3⟩:=hr H enc W A args.toList ds p (fun j t v a b=>I j t v (BL a) (BL b)) V;have ha:dL (g0 W) (B x) args:=⟨BL k2,fun i v O S T=>.fro (k3 i v O S (BL T))⟩;refine(AFZ (F x k1) Z hX Y ha).mono ?_;rintro e w' ⟨rfl,hb⟩;exact⟨_,rfl,AQ5 K hb hv ht J hs hl hp⟩
theorem AN9 {P:Program}{w:World}{t e:TypeId}(hu:P.underlying t=some (.slice e))(he:P.underlying e=some .string)(hk:P.cellsOf e=1){H:Type}{J:TypeId×Value->H}{sp:Nat->Bool}{K:Bool}{n:Nat}{cs:List Value}
  {l:List ByteArray} {d:DataW H} (hd:d=.slice (l.map fun s=>.lit (.string s.data.toList)) []) {p:List MemPlace} (h:DataW.trod J P w 0 sp K n t cs=some (d,p)) :
  ∃c,cs=[c]/\RepF (M0 w) (.sl .any 1 (l.map fun s=>[.str s])) c:=by
 subst hd;rcases DataW.trod_slice hu h with⟨_,B⟩|⟨a,len,cap,zs,a3,m,_,rfl,B,_,X,_,a1,Q,_,_⟩
 .cases B
 .simp only[Prod.mk.injEq,DataW.slice.injEq] at B
  obtain⟨⟨hz,_⟩,_⟩:=B;have q:l.length=len:=by have:=congrArg List.length hz;simpa [a1] using this
  refine⟨_,rfl,?_⟩;rcases Nat.eq_zero_or_pos len with h0|L
  .subst h0
   have:l=[]:=wM.1 q;subst this;exact .empty .any 1 a cap BA BA
  .have cellAt:∀i (s:ByteArray),l[i]?=some s->w.cell? (a.add i)=some (.string s):=by
    intro i s N;have S:i<len:=by rw[<-q];exact(List.getElem?_eq_some_iff.1 N).1
    have I:=Q i S;rw[hk,Nat.mul_one] at I
    have C:zs[i]?.map (·.1)=some (.lit (.string s.data.toList)):=by
     rw[<-zB,<-hz,zB,N];rfl
    cases O:w.cells? 0 (a.add i) 1 with
    | none=>rw[O] at I;rw[<-I] at C;cases C
    | some c1 =>
      rw[O,Option.bind_some] at I
      obtain⟨z,a0⟩:∃z,zs[i]?=some z:=by cases hh:zs[i]? with
       | none=>rw[hh] at C;cases C
       | some z=>exact⟨z,rfl⟩
      rw[a0] at I C;obtain⟨s',rfl,rfl,_⟩:=DataW.trod_string he I;simp only[Option.map_some,Option.some.injEq,DataW.lit.injEq,Lit.string.injEq] at C
      have:s'=s:=by
       cases s';cases s;simp only at C;congr 1;exact Array.toList_inj.1 C
      subst this;obtain⟨c,r1,r2⟩:=cells_at O (i:=0) DU;simp at r2;subst r2;simpa [Addr.add] using r1
   obtain⟨M,F,a2⟩:=a;have f:=cellAt 0 l[0] (by simp [q,L])
   have Z:a2=none:=by
    simp [Addr.add,World.cell?] at f;split at f
    .split at f
     .cases f
     .rename_i N;simpa using N
    .cases f
   subst Z;have A:∀i,(Addr.mk M F none).add i=⟨M,F+i,none⟩:=fun i=>addr_add _ _ _
   rw[A] at f;simp only[World.cell?] at f;split at f
   case h_2=>cases f
   rename_i c ty fz hw;have rd:∀i,w.cell? ⟨M,F+i,none⟩=c[F+i]? := fun i=>by simp [World.cell?,hw]
   have Y:len=(l.map fun s=>[AV.str s]).length:=by simp [q]
   rw[Y];refine .sl .any 1 _ M F c ty fz cap (fun i j=>c[F+i*1+j]?.getD default) ?_ BA hw ?_ ?_ ?_ (by simp [q];exact X) BA
   .intro B
    have:l=[]:=BL B;subst this;simp at q;omega
   .intro i row g
    rw[zB,Option.map_eq_some_iff] at g;obtain⟨x,B,rfl⟩:=g;refine⟨rfl,fun j v E=>?_⟩
    cases j with
    | zero=>simp at E;subst E;rfl
    | succ j=>simp at E
   .intro i j S hj
    have T:i<l.length:=BL S;have:=cellAt i l[i] (by simp [T]);rw[A,rd] at this;have V:j=0:=U;subst V;simp only[Nat.mul_one,jT];rw[this];rfl
   .intro i j row v g E
    rw[zB,Option.map_eq_some_iff] at g;obtain⟨x,B,rfl⟩:=g;have:=cellAt i x B;rw[A,rd] at this
    cases j with
    | zero =>
      simp at E;subst E;simp only[Nat.mul_one,jT];rw[this];exact .str _
    | succ j=>simp at E
theorem AVO {w:World}{n:String}{g:Nat}{cs:Array Value}{c:Value}{a:AV}(F:P.globalNamed n=some g)(h:w.var? P n=some cs)(E:cs.toList=[c])(J:RepF (M0 w) a c)(I:a.leaf=true):
  RepF (M0 w) (.fptr 1 [[a]] 0 0) (.pointer (some ⟨g,0,none⟩)):=by
 have q:=World.var?_cell F h 0;have e:cs = #[c]:=by rw[<-Array.toArray_toList (xs:=cs),E]
 rw[e] at q;simp only[World.cell?] at q;split at q
 case h_2=>simp at q
 rename_i B L C K;have A:B[0]?=some c:=BL q;refine .fptr 1 [[a]] 0 0 g 0 B L C (fun _ _=>c) K ?_ ?_ ?_
 .intro i row d
  cases i with
  | zero =>
    simp at d;subst d;refine⟨rfl,fun j v f=>?_⟩
    cases j with
    | zero=>simp at f;subst f;exact I
    | succ j=>simp at f
  | succ i=>simp at d
 .intro i j H M
  have:i=0:=BL H;have:j=0:=U
  subst_vars
  simpa using A
 .intro i j row v d f
  cases i with
  | zero =>
    simp at d;subst d
    cases j with
    | zero=>simp at f;subst f;exact J
    | succ j=>simp at f
  | succ i=>simp at d
end Go.Proofs.YtiihpnicbekebaaGreatDoor.Sm
namespace Go.Proofs.YtiihpnicbekebaaGreatDoor.Back
open Go.RowKit Go.Shelf
attribute [local go_sem] Oper.semAt_some
def upto {α:Type}(f:Nat->α)(k:Nat):List α:=(List.range k).map f
end Go.Proofs.YtiihpnicbekebaaGreatDoor.Back
namespace Go.Proofs.YtiihpnicbekebaaGreatDoor.Head
variable {s:String} {P:Program}

def signs:List Char:=([104,97,114,110,101,115,115,32,54,57,97,57,99,52,100,99,98,100,53,49,98,99,54,100,49,55,51,51,49,98,54,56,98,55,53,55,53,56,48,52,49,57,97,56,57,99,57,55,53,54,100,48,98,53,101,102,48,56,50,51,98,57,56,54,57,51,99,52,53,100,48,101,32,99,117,116,32,97,116,32,116,101,115,116,98,101,110,99,104,47,116,101,115,116,98,101,110,99,104,108,97,119,53,49,46,67,108,111,115,117,114,101,82,101,97,99,104,101,115,32,116,101,115,116,98,101,110,99,104,47,116,101,115,116,98,101,110,99,104,108,97,119,53,49,46,67,108,111,115,117,114,101,80,108,97,110,115,32,116,101,115,116,98,101,110,99,104,47,116,101,115,116,98,101,110,99,104,108,97,119,53,49,46,67,108,111,115,117,114,101,68,105,118,105,100,101,115,32,116,101,115,116,98,101,110,99,104,47,116,101,115,116,98,101,110,99,104,108,97,119,53,49,46,67,108,111,115,117,114,101,73,116,101,109,115,32,116,101,115,116,98,101,110,99,104,47,116,101,115,116,98,101,110,99,104,108,97,119,53,49,46,67,108,111,115,117,114,101,80,114,111,118,101,115,32,116,101,115,116,98,101,110,99,104,47,116,101,115,116,98,101,110,99,104,108,97,119,53,49,46,67,108,111,115,117,114,101,72,105,116,115]:List Nat).map Char.ofNat
theorem ARC:Tryz.pinned.checked.prog.initOrder=String.ofList signs:=BC
theorem uE {l:List Char}(h:s=String.ofList l):s.toList=l:=by rw[h,String.toList_ofList]
theorem eA:Tryz.pinned.checked.prog.initOrder.toList=signs:=uE ARC
def AFL:List Char:=(signs.drop 73).take 3
def AQZ:List (List Char):=wordsSigns (signs.drop 77)
def hsum:List Char:=(signs.drop 8).take 64
theorem nC:behindMainWord (wordsSigns signs)=AFL::AQZ:=BC
theorem A0W:wordsSigns signs=signs.take 7::hsum::wordsSigns (signs.drop 73):=BC
theorem ACM:stripLifts liftWords (AFL::AQZ)=([],AFL::AQZ):=BC
theorem AXY:Tryz.pinned.checked.prog.doorFits []=true:=BC
theorem AR5:Tryz.pinned.checked.prog.laysLater=false:=BC
theorem AWC:Tryz.pinned.checked.prog.bearsReflect=false:=BC
theorem A18:(AFL == "cut".toList)=true:=BC
theorem AFK:((some AFL)==some "cut".toList)=true:=BC
theorem A3P:(AFL == "gc".toList)=false:=BC
theorem AWS:(AFL == "spec".toList)=false:=BC
theorem AWT:(some AFL==some "carried".toList)=false:=BC
theorem sum_is:isSumSigns hsum=true:=BC
theorem A1S:(signs.take 7 == "harness".toList)=true:=BC
theorem ATC (h:P.initOrder.toList=signs)(c:P.doorFits []=true)(d:P.laysLater=false)(e:P.bearsReflect=false):P.mayEnter=true:=by
 unfold Program.mayEnter;generalize P.initOrder.toList=l at h;subst h;rw[nC];simp only[ACM,c,d,e,jS,List.head?_cons,bNf,Bool.or_true,Bool.and_true,AFK]
theorem AW4 (h:P.initOrder.toList=signs):P.make=some .cut:=by
 unfold Program.make;generalize P.initOrder.toList=l at h;subst h;rw[nC];simp only[A3P,AWS,A18,zN,Bool.false_eq_true,if_false,Bool.true_or,if_true]
theorem AOQ (h:P.initOrder.toList=signs):P.liftsFinal=false:=by
 unfold Program.liftsFinal Program.headLifts;generalize P.initOrder.toList=l at h;subst h;rw[nC];simp only[ACM,List.head?_cons,AWT,AFK,Bool.false_and,Bool.false_or,if_true,jS]
theorem AW5 (h:P.initOrder.toList=signs)(hs:s=String.ofList hsum):P.mainIs=some (true,s.toList):=by
 rw[uE hs];unfold Program.mainIs;generalize P.initOrder.toList=l at h;subst h;rw[A0W]
 show(if !isSumSigns hsum then none else if signs.take 7 == "harness".toList then some (true,hsum) else if signs.take 7 == "ownmain".toList then some (false,hsum) else none)=_
 rw[sum_is,A1S];rfl
theorem A4Z:Tryz.pinned.checked.prog.mayEnter=true:=ATC eA AXY AR5 AWC
theorem make_is:Tryz.pinned.checked.prog.make=some .cut:=AW4 eA
theorem A2U:Tryz.pinned.checked.prog.liftsFinal=false:=AOQ eA
theorem A6Q (c:s=String.ofList hsum):Tryz.pinned.checked.prog.mainIs=some (true,s.toList):=AW5 eA c
theorem A6U (h:P.funcs.any Func.goes=false)(s:String):P.goesFrom s=false:=by
 have c:∀g:FuncId,(P.funcs[g]?).any Func.goes=false:=fun g=>by
  cases d:P.funcs[g]? with
  | none=>rfl
  | some fn =>
    show fn.goes=false;rw[Array.any_eq_false'] at h;have:=h fn (Array.mem_of_getElem? d);simpa using this
 unfold Program.goesFrom
 cases P.funcNamed s with
 | none=>rfl
 | some f =>
   show P.goes f=false;unfold Program.goes;rw[h,Bool.and_false,zN];simp [c]
theorem A8R:Tryz.pinned.checked.prog.funcs.any Func.goes=false:=BC
theorem A4H:Tryz.pinned.checked.prog.stopsHeard=true:=BC
theorem A6S:laidOutB Tryz.pinned.checked.prog=true:=BC
theorem A6P:mapsRowed Tryz.pinned.checked.prog=true:=BC
end Go.Proofs.YtiihpnicbekebaaGreatDoor.Head
namespace Go.Proofs.YtiihpnicbekebaaGreatDoor.Cov
open Sm Bins Go.RowKit
variable {b:Nat}
def okR (r:Rng)(_:Nat):Prop:=(-9223372036854775808<=r.lo/\r.lo<=9223372036854775807)/\(-9223372036854775808<=r.hi/\r.hi<=9223372036854775807)
theorem cl3:Tryz.prog.cellsOf 3=1:=BC
theorem cl9:Tryz.prog.cellsOf 9=1:=BC
theorem A45:Tryz.prog.cellsOf 84=1:=BC
theorem A7X:Tryz.prog.cellsOf 85=1:=BC
theorem A2G:Tryz.prog.cellsOf 23=1:=BC
theorem A2F:Tryz.prog.cellsOf 79=4:=BC
theorem A7Z:Tryz.prog.cellsOf 80=1:=BC
theorem A7Y:Tryz.prog.cellsOf 82=6:=BC
theorem A7W:Tryz.prog.cellsOf 87=4:=BC
theorem A7V:Tryz.prog.cellsOf 90=3:=BC
theorem AYH:Tryz.prog.cellsOf 32=1:=BC
theorem A46:Tryz.prog.cellsOf 25=1:=BC
theorem A72:Tryz.prog.cellsOf 28=1:=BC
theorem A71:Tryz.prog.cellsOf 29=1:=BC
theorem A8T:Tryz.prog.cellsOf 31=2:=BC
theorem rdI:Rd jA 3 qencI okI:=A09 Tryz.underlying3
theorem rdStr:Rd jA 9 qencStr okS:=A08 Tryz.underlying9
theorem RG {α:Type}{d:α->Nat->Prop}{xs:List α}(h:∃c,c+1<=b/\okL d xs c):okL d xs b:=by obtain⟨c,f,e⟩:=h;exact e.mono U
def A1I (x:Is)(b:Nat):Prop:=okL okI x.l b
theorem A1A:Rd jA 32 PE A1I:=by
 intro n
 cases n with
 | zero=>exact RdAt.zero
 | succ n=>exact RdAt.map (fun x:SM×List Int=>(⟨x.1,x.2⟩:Is)) (MJ Tryz.underlying32 cl3 DU (fun _=>rfl) (rdI n)) (fun _=>rfl) (fun x b h=>RG h)
def okE (e:Ex)(b:Nat):Prop:=wt e<=b
theorem ADU:∀ {l:List Ex} {b:Nat},okL okE l b->wts l<=b
 | [],b,_=>Nat.zero_le _
 | x::xs,b,⟨e,f,g,_,c,d⟩=>by
   have:=ADU d;simp only[wts];unfold okE at c;omega
theorem rdE:∀n:Nat,RdAt jA n 79 AQ okE:=by
 intro n
 induction n using Nat.strongRecOn with
 | _ n e =>
   match n,e with
   | 0,_=>exact RdAt.zero
   | 1,_ =>
     intro H i w Y d ps h;obtain⟨q,m,hm,_,_,J,K⟩:=DataW.trod_struct Tryz.underlying79 h;obtain rfl:m=0:=U;have:=K 0 _ rfl;simp only[DataW.trod] at this
     have A:q=[]:=by cases q with
      | nil=>rfl
      | cons a l=>simp at this
     subst A;simp at J
   | n+2,e =>
     have f:RdAt jA (n+1) 23 (fun x:SM×List Ex=>[.sl x.1 4 (x.2.map AQ)]) (fun x b=>∃g,g+1<=b/\okL okE x.2 g):=MJ Tryz.underlying23 A2F DU EC (e n U)
     refine RdAt.map (fun x:Int×Int×ByteArray×(SM×List Ex)×Unit=>Ex.mk x.1 x.2.1 x.2.2.1 x.2.2.2.1.1 x.2.2.2.1.2)
      (MX Tryz.underlying79 (FQ rfl cl3 (fun _=>rfl) (rdI _) (FQ rfl cl3 (fun _=>rfl) (rdI _) (FQ rfl cl9 (fun _=>rfl) (rdStr _) (FQ rfl A2G (fun _=>rfl) f Q9))))) (fun x=>by rw[FK];rfl) ?_
     rintro⟨a,b,c,d,_⟩ N ⟨_,hN,L,M,hb,Z,O,P,E,h2,Q,S,F,j,T,V,I,⟨X,h5,B⟩,_⟩;have C:=ADU B;unfold okS at j;show wt _<=_;rw[N7];simp only[Ex.name,Ex.args];simp only at j C;omega
theorem rdR:Rd jA 145 encR okR:=by
 intro n
 cases n with
 | zero=>exact RdAt.zero
 | succ n =>
   refine RdAt.map (fun x:Int×Int×Unit=>(⟨x.1,x.2.1⟩:Rng)) (MX Tryz.underlying145 (FQ rfl cl3 (fun _=>rfl) (rdI n) (FQ rfl cl3 (fun _=>rfl) (rdI n) Q9))) (fun _=>rfl) ?_;rintro⟨a,b,_⟩ N ⟨_,_,_,_,_,c,_,_,_,d,_⟩;exact⟨c,d⟩
theorem A48:Tryz.prog.cellsOf 145=2:=BC
def AWO (x:Rs)(b:Nat):Prop:=okL okR x.l b
theorem A3I:Rd jA 84 encS AWO:=by
 intro n
 cases n with
 | zero=>exact RdAt.zero
 | succ n=>exact RdAt.map (fun x:SM×List Rng=>(⟨x.1,x.2⟩:Rs)) (MJ Tryz.underlying84 A48 DU fH (rdR n)) (fun _=>rfl) (fun x b h=>RG h)
def okB (x:Bin)(b:Nat):Prop:=∃c d e,c+d+e<=b/\okS x.name c/\AWO x.ranges d/\okL AWO x.steps e
theorem rdB:Rd jA 87 I7 okB:=by
 intro n
 match n with
 | 0=>exact RdAt.zero
 | 1 =>
   intro H g w V d ps h;obtain⟨i,m,hm,_,_,L,M⟩:=DataW.trod_struct Tryz.underlying87 h;obtain rfl:m=0:=U;have:=M 0 _ rfl;simp only[DataW.trod] at this
   have B:i=[]:=by cases i with
    | nil=>rfl
    | cons a l=>simp at this
   subst B;simp at L
 | n+2 =>
   have e:RdAt jA (n+1) 85 (fun x:SM×List Rs=>[.sl x.1 1 (x.2.map encS)]) (fun x b=>∃f,f+1<=b/\okL AWO x.2 f):=MJ Tryz.underlying85 A45 DU (fun _=>rfl) (A3I n)
   refine RdAt.map (fun x:ByteArray×Int×Rs×(SM×List Rs)×Unit=>(⟨x.1,x.2.1,x.2.2.1,x.2.2.2.1.1,x.2.2.2.1.2⟩:Bin))
    (MX Tryz.underlying87 (FQ rfl cl9 (fun _=>rfl) (rdStr _) (FQ rfl cl3 (fun _=>rfl) (rdI _) (FQ rfl A45 (fun _=>rfl) (A3I _) (FQ rfl A7X (fun _=>rfl) e Q9))))) (fun _=>rfl) ?_
   rintro⟨a,b,c,d,_⟩ N ⟨_,Y,j,O,Z,C,P,Q,I,X,q,S,J,E,A,T,K,F,_⟩;exact⟨j,q,A,U,C,E,RG F⟩
theorem AUF {x:Bin}(h:okB x b)(F:b<=1048576):BinOk x:=by
 obtain⟨j,q,A,C,e,f,d⟩:=h;have H:=f.length;have I:=d.length
 have i:∀l∈sets x,l.l.length<=1048576:=by
  intro l c;unfold sets at c;split at c
  .simp at c;subst c;omega
  .obtain⟨B,E,g⟩:=d.each l c
   have:=g.length;omega
 refine⟨?_,?_,U,fun l c=>by have:=i l c;omega⟩
 .unfold sets
  split
  .simp
  .omega
 .unfold okS at e;omega
theorem gZ {t:TypeId}{f:Field}{g:List Field}{α:Type}{enc:α->List AV}{B:α->Nat->Prop}(q:Tryz.prog.underlying t=some (.struct (f::g).toArray)):RdAt jA 1 t enc B:=by
 intro H c w C d F h;obtain⟨e,m,E,_,_,j,A⟩:=DataW.trod_struct q h;obtain rfl:m=0:=U;have:=A 0 _ rfl;simp only[DataW.trod] at this
 have i:e=[]:=by cases e with
  | nil=>rfl
  | cons a l=>simp at this
 subst i;simp at j
def AWP (p:Pt)(b:Nat):Prop:=∃c d e,c+d+e<=b/\okS p.name c/\okE p.ex d/\okL okB p.bins e
theorem rdP:Rd jA 82 F8 AWP:=by
 intro n
 match n with
 | 0=>exact RdAt.zero
 | 1=>exact gZ Tryz.underlying82
 | n+2 =>
   have d:RdAt jA (n+1) 80 (fun x:SM×List Bin=>[.sl x.1 4 (x.2.map I7)]) (fun x b=>∃e,e+1<=b/\okL okB x.2 e):=MJ Tryz.underlying80 A7W DU MM (rdB n)
   refine RdAt.map (fun x:ByteArray×Ex×(SM×List Bin)×Unit=>(⟨x.1,x.2.1,x.2.2.1.1,x.2.2.1.2⟩:Pt))
    (MX Tryz.underlying82 (FQ rfl cl9 (fun _=>rfl) (rdStr _) (FQ rfl A2F EC (rdE _) (FQ rfl A7Z (fun _=>rfl) d Q9)))) (fun x=>rfl) ?_
   rintro⟨a,b,c,_⟩ N ⟨_,H,f,C,I,i,g,E,A,j,h,F,B,q,_⟩;exact⟨f,g,h,U,i,j,RG q⟩
def AWR (c:Cr)(b:Nat):Prop:=∃d e f,d+e+f<=b/\okS c.name d/\okL okI c.pts e/\okL A1I c.excl f
theorem rdC:Rd jA 90 JP AWR:=by
 intro n
 match n with
 | 0=>exact RdAt.zero
 | 1=>exact gZ Tryz.underlying90
 | n+2 =>
   have d:RdAt jA (n+1) 25 (fun x:SM×List Is=>[.sl x.1 1 (x.2.map PE)]) (fun x b=>∃e,e+1<=b/\okL A1I x.2 e):=MJ Tryz.underlying25 AYH DU pW (A1A n)
   refine RdAt.map (fun x:ByteArray×Is×(SM×List Is)×Unit=>(⟨x.1,x.2.1.m,x.2.1.l,x.2.2.1.1,x.2.2.1.2⟩:Cr))
    (MX Tryz.underlying90 (FQ rfl cl9 (fun _=>rfl) (rdStr _) (FQ rfl AYH pW (A1A _) (FQ rfl A46 (fun _=>rfl) d Q9)))) (fun x=>rfl) ?_
   rintro⟨a,b,c,_⟩ N ⟨_,H,f,C,I,i,g,E,A,j,h,F,B,q,_⟩;exact⟨f,g,h,U,i,j,RG q⟩
def okM (m:Mo)(b:Nat):Prop:=∃c d,c+d<=b/\okL AWP m.pts c/\okL AWR m.crs d
theorem rdM:Rd jA 31 DT okM:=by
 intro n
 match n with
 | 0=>exact RdAt.zero
 | 1=>exact gZ Tryz.underlying31
 | n+2 =>
   have e:RdAt jA (n+1) 28 (fun x:SM×List Pt=>[.sl x.1 6 (x.2.map F8)]) (fun x b=>∃c,c+1<=b/\okL AWP x.2 c):=MJ Tryz.underlying28 A7Y DU JB (rdP n);have d:RdAt jA (n+1) 29 (fun x:SM×List Cr=>[.sl x.1 3 (x.2.map JP)]) (fun x b=>∃c,c+1<=b/\okL AWR x.2 c):=MJ Tryz.underlying29 A7V DU PI (rdC n)
   refine RdAt.map (fun x:(SM×List Pt)×(SM×List Cr)×Unit=>(⟨x.1.1,x.1.2,x.2.1.1,x.2.1.2⟩:Mo))
    (MX Tryz.underlying31 (FQ rfl A72 (fun _=>rfl) e (FQ rfl A71 (fun _=>rfl) d Q9))) (fun x=>rfl) ?_
   rintro⟨a,b,_⟩ N ⟨_,B,f,q,C,h,g,A,j,i,_⟩;exact⟨f,g,U,RG h,RG i⟩
theorem AWG {p:Pt}(h:AWP p b)(E:b<=1048576):PtOk p:=by
 obtain⟨i,j,q,B,d,e,c⟩:=h;have F:=c.length;unfold okS at d;unfold okE at e;refine⟨U,U,U,fun x g=>?_⟩;obtain⟨A,C,f⟩:=c.each x g;exact AUF f U
theorem AX3 {c:Cr}(h:AWR c b)(F:b<=1048576):CrOk c:=by
 obtain⟨j,q,A,C,e,f,d⟩:=h;have H:=f.length;have I:=d.length;unfold okS at e;refine⟨U,U,U,fun x i=>?_⟩;obtain⟨B,E,g⟩:=d.each x i;have:=okL.length g;omega
theorem A6O {m:Mo}(h:okM m b)(E:b<=1048576):MoOk m:=by
 obtain⟨A,B,C,e,f⟩:=h;have F:=e.length;have H:=f.length;refine⟨U,U,fun p q=>?_,fun c j=>?_⟩
 .obtain⟨g,i,d⟩:=e.each p q
  exact AWG d U
 .obtain⟨g,i,d⟩:=f.each c j
  exact AX3 d U
end Go.Proofs.YtiihpnicbekebaaGreatDoor.Cov
namespace Go.Proofs.YtiihpnicbekebaaGreatDoor.Bd.Cl
open Sm Bins Cov Xe Wd Bl Ho Go.RowKit
variable {m:Mo} {v:Cvr} {p:Pr}
def YR (g:Gl):Hl:=⟨g.cross,g.idx,g.bm,g.bins⟩
theorem AXL (C:MoOk m):∀g∈goals m,g.bins.length<=1048576:=by
 have E:∀(i:Nat) (p:Pt) (k:Nat),∀g∈gPk i p k,g.bins.length<=1048576:=by
  intro i p k
  induction k with
  | zero=>intro g d;cases d
  | succ k e =>
    intro g d;rcases zM.1 d with h|h
    .exact e g h
    .split at h
     .rw[wH.1 h];show 1<=_;omega
     .cases h
 have j:∀k,∀g∈gP m k,g.bins.length<=1048576:=by
  intro k
  induction k with
  | zero=>intro g d;cases d
  | succ k e =>
    intro g d;rcases zM.1 d with h|h
    .exact e g h
    .grind
 have q:∀(i:Nat) (c:Cr),c.pts.length<=1048576->∀k,∀g∈gCk m i c k,g.bins.length<=1048576:=by
  intro i c B k
  induction k with
  | zero=>intro g d;cases d
  | succ k e =>
    intro g d;rcases zM.1 d with h|h
    .exact e g h
    .split at h
     .rw[wH.1 h]
      show(AP8 (szs m c.pts) k).length<=_;unfold AP8;rw[jI,ACC,PQ];exact B
     .cases h
 have A:∀k,∀g∈gC m k,g.bins.length<=1048576:=by
  intro k
  induction k with
  | zero=>exact j _
  | succ k e =>
    intro g d;rcases zM.1 d with h|h
    .exact e g h
    .cases f:m.crs[k]? with
     | none=>rw[f] at h;cases h
     | some c=>rw[f] at h;exact q _ _ (C.crs c (qB f)).pts _ g h
 exact A _
theorem AXF (d:MoOk m):∀g∈P7 m v,(YR g).bins.length<=1048576:=by
 intro g c;unfold P7 at c;split at c
 .exact AXL d g (List.mem_filter.1 c).1
 .cases c
theorem A1Q (m:Mo)(v:Cvr):(P7 m v).length<=8192:=by
 unfold P7;split
 .rename_i c
  exact Nat.le_trans (List.length_filter_le _ _) (vP (VT (pF c)))
 .exact Nat.zero_le _
def sU (f:Gl->Int)(most:Int)(s:List Gl×List Gl)(g:Gl):List Gl×List Gl :=
 if f g=11 then (s.1,s.2++[g]) else if f g=0/\(s.1.length:Int)<most then (s.1++[g],s.2) else s
def bL (f:Gl->Int)(most:Int)(L:List Gl):List Gl×List Gl:=L.foldl (sU f most) ([],[])
theorem ANO (f:Gl->Int)(most:Int)(L:List Gl)(g:Gl):bL f most (L++[g])=sU f most (bL f most L) g:=by unfold bL;rw[List.foldl_append];rfl
theorem AQ7 (f:Gl->Int)(most:Int)(L:List Gl):(bL f most L).1.length<=L.length/\(bL f most L).2.length<=L.length:=by
 have:∀(L:List Gl) (s:List Gl×List Gl),(L.foldl (sU f most) s).1.length<=s.1.length+L.length/\(L.foldl (sU f most) s).2.length<=s.2.length+L.length:=by
  intro L
  induction L with
  | nil=>intro s;exact⟨jF _,jF _⟩
  | cons g L c =>
    intro s;obtain⟨d,e⟩:=c (sU f most s g)
    have i:(sU f most s g).1.length<=s.1.length+1/\(sU f most s g).2.length<=s.2.length+1:=by
     unfold sU;split
     .exact⟨Nat.le_succ _,BA⟩
     .grind
    rw[List.foldl_cons,zF];omega
 have h:=this L ([],[]);unfold bL;simpa using h
def ADI (p:Pr)(m:Mo)(v:Cvr)(most:Int):Int:=if JS p≠0\/GH m≠0\/RH m v=false\/most<0\/1024<most then 1 else 0
def oF (s:Bw)(ins:Ex->List Rng->Ex)(p:Pr)(m:Mo)(v:Cvr)(most:Int):List Gl×List Gl:=if ADI p m v most=0 then bL (fun g=>NK s ins p m (YR g)) most (P7 m v) else ([],[])
def ANN (s:Bw)(ins:Ex->List Rng->Ex)(p:Pr)(m:Mo)(v:Cvr)(most:Int):AV:=.tup [.sl (Cov.nm (oF s ins p m v most).1) 3 ((oF s ins p m v most).1.map Cov.encH),.sl (Cov.nm (oF s ins p m v most).2) 3 ((oF s ins p m v most).2.map Cov.encH),.n (ADI p m v most)]
def ANM (s:Bw)(ins:Ex->List Rng->Ex)(p:Pr)(m:Mo)(v:Cvr)(most:Int):AV:=.tup [fzG 3 Cov.encH (oF s ins p m v most).1,fzG 3 Cov.encH (oF s ins p m v most).2,.n (ADI p m v most)]
theorem AWJ (s:Bw)(ins:Ex->List Rng->Ex)(p:Pr)(m:Mo)(v:Cvr)(most:Int):CvR (ANM s ins p m v most) (ANN s ins p m v most):=CvR.tup (CvRL.cons WJ (CvRL.cons WJ (CvRL.cons (CvR.refl _) CvRL.nil)))
theorem ZB {s:Bw}{ins:Ex->List Rng->Ex}{most:Int}(h:JS p≠0\/GH m≠0\/RH m v=false\/most<0\/1024<most):ANM s ins p m v most=.tup [.sl .nil 0 [],.sl .nil 0 [],.n 1]:=by
 have e:ADI p m v most=1:=by unfold ADI;rw[if_pos h]
 unfold ANM oF;rw[e,if_neg DU];rfl
theorem AWI {s:Bw}{ins:Ex->List Rng->Ex}{most:Int}(h:¬(JS p≠0\/GH m≠0\/RH m v=false\/most<0\/1024<most)):ANM s ins p m v most=.tup [fzG 3 Cov.encH (bL (fun g=>NK s ins p m (YR g)) most (P7 m v)).1,fzG 3 Cov.encH (bL (fun g=>NK s ins p m (YR g)) most (P7 m v)).2,.n 0]:=by
 have e:ADI p m v most=0:=by unfold ADI;rw[if_neg h]
 unfold ANM oF;rw[e,if_pos rfl]
theorem A8L (h:Hp):IG jA h 34=some (.ptr h.length 0 0,h++[qG 3 [[.bool false,.n 0,.sl .nil 0 []]]]):=F9 (row:=[.bool false,.n 0,.sl .nil 0 []]) BC
theorem A7C (h:Hp)(x:Hl):D8 jA (h++[qG 3 [[.bool false,.n 0,.sl .nil 0 []]]]) 34 (.ptr h.length 0 0) (.agg (FM x))=some (h++[qG 3 [FM x]]):=by
 rw[JU (cs:=FM x) (row:=[.bool false,.n 0,.sl .nil 0 []]) rfl yJ (AZ _ _) (jF 3),KI];rfl
theorem A0E (h:Hp)(x:Hl):DJ jA false h 49 1 [(0,.agg (FM x))]=some (.sl .full 3 [FM x],h):=BC
section
variable (G:Nat->AV)
theorem AY5 (hG:GOk G)(p:Pr)(hs:PrS p)(hb:Sm51 p)(m:Mo)(hm:MoOk m)(v:Cvr)(most:Int)(hF:∀h,PCall (En G) 55 [.agg (DT m),.agg (Cov.encV v)] h (.bool (RH m v)))(hH:∀h,PCall (En G) 21 [.agg (DT m),.agg (Cov.encV v)] h (.sl (Cov.nm (P7 m v)) 3 ((P7 m v).map Cov.encH)))(h:Hp):PCall (En G) 17 [.agg (CW p),.agg (DT m),.agg (Cov.encV v),.n most] h (ANN sdP FO p m v most):=by
 refine PCall.res ?_ (AWJ sdP FO p m v most);refine ACalls.pure (R:=fun u H=>Sm.ext h H/\FH h.length H 3 u=ANM sdP FO p m v most) 3 ?_ (fun v H ⟨a,b⟩=>⟨a,b⟩);refine acL Tryz.func17 [.tmp 8,.tmp 9,.tmp 10] ?_;have gp:=AU (x:=qG 4 [Cov.encV v]) (AU (x:=qG 2 [DT m]) (AZ h (qG 5 [CW p])));have T:=AU (x:=qG 4 [Cov.encV v]) (AZ (h++[qG 5 [CW p]]) (qG 2 [DT m]));have gv:=AZ (h++[qG 5 [CW p]]++[qG 2 [DT m]]) (qG 4 [Cov.encV v]);have N:Sm.ext h (h++[qG 5 [CW p]]++[qG 2 [DT m]]++[qG 4 [Cov.encV v]]):=(((ext.rfl' h).app _).app _).app _;refine DC @PZ @bxM @Cov.bxV ?_
 generalize h++[qG 5 [CW p]]++[qG 2 [DT m]]++[qG 4 [Cov.encV v]]=H0 at gp T gv N|-
 generalize (h++[qG 5 [CW p]]++[qG 2 [DT m]]).length=vb at gv|-
 generalize (h++[qG 5 [CW p]]).length=mb at T|-
 refine AY (TR gp) ?_;refine(Bd.valid_prog G hG p hs H0).use ?_;cases j:(JS p != 0)
 case true =>
  have q:JS p≠0:=BL j;refine AY j ?_;exact⟨N,by rw[ZB (.inl q)];rfl⟩
 have E:JS p=0:=BL j;refine A7 j (ldM T) ?_;refine(U5 G hG m hm H0).use ?_;cases B:(GH m != 0)
 case true =>
  have q:GH m≠0:=BL B;refine A7 j B ?_;exact⟨N,by rw[ZB (.inr (.inl q))];rfl⟩
 have I:GH m=0:=BL B;refine EG j B (ldM T) (Cov.ldV gv) ?_;refine(hF H0).use ?_;cases O:RH m v
 case false =>
  refine DC j B O ?_;exact⟨N,by rw[ZB (.inr (.inr (.inl O)))];rfl⟩
 refine DC j B O ?_;cases Q:decide (most<0)
 case true =>
  refine EG j B O Q ?_;exact⟨N,by rw[ZB (.inr (.inr (.inr (.inl (of_decide_eq_true Q)))))];rfl⟩
 refine AY Q ?_;cases b5:decide (most>1024)
 case true =>
  refine H7 j B O Q b5 ?_;exact⟨N,by rw[ZB (.inr (.inr (.inr (.inr (of_decide_eq_true b5)))))];rfl⟩
 have ab:=AWI (s:=sdP) (ins:=FO) (p:=p) (m:=m) (v:=v) (most:=most) (by
  have:=of_decide_eq_false Q;have:=of_decide_eq_false b5;rintro (q|q|q|q|q)
  .exact q E
  .exact q I
  .rw[O] at q;cases q
  .omega
  .omega)
 refine KZ j B O Q b5 (ldM T) (Cov.ldV gv) ?_;refine(hH H0).use ?_;have M:=AXF (v:=v) hm;have a9:=A1Q m v;rw[ab]
 generalize P7 m v=L at M a9|-
 have Z:∀k,(bL (fun g=>NK sdP FO p m (YR g)) most (L.take k)).1.length<=8192/\(bL (fun g=>NK sdP FO p m (YR g)) most (L.take k)).2.length<=8192:=fun k=>by
  have h1:=AQ7 (fun g=>NK sdP FO p m (YR g)) most (L.take k);have:(L.take k).length<=L.length:=by rw[jR];omega
  omega
 generalize hf:(fun g=>NK sdP FO p m (YR g))=f at Z|-
 have a8:∀g,NK sdP FO p m (YR g)=f g:=fun g=>by rw[<-hf]
 refine AB ?_
 refine BB (fun n F H=>∃k J K,n+k=L.length/\F 3=.n most/\F 4=.ptr h.length 0 0/\F 5=.ptr mb 0 0/\F 11=J/\F 12=K/\F 41=.sl (Cov.nm L) 3 (L.map Cov.encH)/\F 42=.n (L.length:Nat)/\F 43=.n (k:Nat)/\Sm.ext H0 H/\outG 3 Cov.encH H0 (bL f most (L.take k)).1 J H/\outG 3 Cov.encH H0 (bL f most (L.take k)).2 K H/\∀b,isB J b->¬isB K b) L.length
  ⟨0,.sl .nil 0 [],.sl .nil 0 [],BA,AO,AO,AO,AO,AO,AO,AO,AO,ext.rfl' _,outG.nil _ _ _ _,outG.nil _ _ _ _,fun b q=>q.elim⟩ ?_
 rintro n F H ⟨k,J,K,hk,f3,f4,f5,f11,f12,a6,a7,e,a0,i,A,sep⟩;refine A7 a7 e ?_;refine DX ?_ ?_<;>intro C
 .have aa:=jH C
  have ac:=Z k;have c:bL f most (L.take (k+1))=sU f most (bL f most (L.take k)) L[k]:=by rw[jV C,ANO]
  unfold sU at c;have lr:BO jA H 34 (.fptr 3 (L.map Cov.encH) k 0)=some (.agg (FM (YR L[k]))):=by rw[DL A2Q yJ (f:=Cov.encH) (fun g=>rfl) C];rfl
  have d:=a0.app [qG 3 [FM (YR L[k])]];have i:=i.app [qG 3 [FM (YR L[k])]];have A:=A.app [qG 3 [FM (YR L[k])]];have Y:=AZ H (qG 3 [FM (YR L[k])]);refine KZ A4B a6 e C lr A8L A7C ?_
  generalize H++[qG 3 [FM (YR L[k])]]=H1 at d i A Y|-
  generalize H.length=gb at Y|-
  refine H7 f4 f5 (TR (DW d gp)) (ldM (DW d T)) (ldH Y) ?_;refine(YI G hG p hs hb m hm (YR L[k]) (M _ aa) H1).use ?_;unfold sZ;rw[a8];generalize bL f most (L.take k)=s at i A ac c;cases S:(f L[k]==11)
  .have n1:f L[k]≠11:=BL S
   rw[if_neg n1] at c;cases X:(f L[k]==0)
   .have n2:f L[k]≠0:=BL X
    rw[if_neg (fun q=>n2 q.1)] at c;refine EG S X e (C9 k) ?_;exact⟨n-1,U,k+1,J,K,U,AC,AC,AC,AC,AC,AC,AC,AC,d,by rw[c];exact i,by rw[c];exact A,sep⟩
   .have n2:f L[k]=0:=BL X
    cases c3:decide (((s.1.length:Nat):Int)<most)
    .rw[if_neg (fun q=>of_decide_eq_false c3 q.2)] at c
     refine OZ S X f3 f11 (i.len ARX) c3 e (C9 k) ?_;exact⟨n-1,U,k+1,J,K,U,AC,AC,AC,AC,AC,AC,AC,AC,d,by rw[c];exact i,by rw[c];exact A,sep⟩
    .rw[if_pos ⟨n2,of_decide_eq_true c3⟩] at c
     obtain⟨v',H',V,a2,a3,a4,_,a5⟩:=i.append (P:=jA) AVS yJ AVH A2J U U d L[k];change EH jA true H1 49 49 J (.sl .full 3 [FM (YR L[k])])=_ at V;refine WP S X f3 f11 (i.len ARX) c3 (ldH Y) @A0E V e (C9 k) ?_;exact⟨n-1,U,k+1,v',K,U,AC,AC,AC,AC,AC,AC,AC,AC,a4,by rw[c];exact a2,by rw[c];exact A.keepA a3 (fun b E I=>sep b I E),fun b E I=>by have:=a5 b E;have:=(A.lt I).2;omega⟩
  .have n1:f L[k]=11:=BL S
   rw[if_pos n1] at c;obtain⟨v',H',V,a2,a3,a4,_,a5⟩:=A.append (P:=jA) AVS yJ AVH A2J U U d L[k];change EH jA true H1 49 49 K (.sl .full 3 [FM (YR L[k])])=_ at V;refine KZ S f12 (ldH Y) @A0E V e (C9 k) ?_;exact⟨n-1,U,k+1,J,v',U,AC,AC,AC,AC,AC,AC,AC,AC,a4,by rw[c];exact i.keepA a3 (fun b E I=>sep b E I),by rw[c];exact a2,fun b E I=>by have:=a5 b I;have:=(i.lt E).2;omega⟩
 .rw[jK U] at i A
  refine A7 f11 f12 ?_;refine⟨N.trans a0,?_⟩;have hle:=N.le;show AV.tup [FH h.length H 2 J,FH h.length H 2 K,_]=_;rw[LP Cov.frzH i h.length 0 U,LP Cov.frzH A h.length 0 U];rfl
end
def eD (vs:List Vr):Nat->List Int
 | 0=>[]
 | k+1=>eD vs k++(match vs[k]? with|some v=>if v.mode≠0 then [((k:Nat):Int)] else []|none=>[])
theorem nX (vs:List Vr):∀k,(eD vs k).length<=k
 | 0=>jF _
 | k+1=>by
   have:=nX vs k;simp only[eD,jW]
   cases vs[k]? with
   | none=>simp;omega
   | some v=>simp only;split<;>simp<;>omega
theorem AKM (vs:List Vr):∀k,∀z∈eD vs k,∃i:Nat,z=(i:Int)/\i<vs.length
 | 0,z,h=>by cases h
 | k+1,z,h=>by
   rcases zM.1 h with h|h
   .exact AKM vs k z h
   .cases c:vs[k]? with
    | none=>rw[c] at h;cases h
    | some v =>
      rw[c] at h;simp only at h;split at h
      .exact⟨k,wH.1 h,AX c⟩
      .cases h
def gB (vs:List Vr)(z:Int):Int:=match vs[z.toNat]? with|some v=>v.width|none=>0
theorem AC7 (vs:List Vr):∀k,k<=vs.length->((eD vs k).map (gB vs)).sum=KL (vs.take k)
 | 0,_=>rfl
 | k+1,h=>by
   have c:=AC7 vs k U;have hk:k<vs.length:=U;rw[jV hk];simp only[eD,jO hk];rw[qC,List.sum_append,c];unfold KL;rw[qC,List.sum_append];congr 1;by_cases hm:vs[k].mode=0
   .rw[if_neg (by simp [hm])];simp [hm]
   .rw[if_pos hm]
    simp only[jJ,jL,List.sum_cons,List.sum_nil];rw[if_neg hm];unfold gB;rw[qM,jO hk]
theorem uG {vs:List Vr}(c:∀v∈vs,1<=v.width/\v.width<=8):∀l:List Int,0<=(l.map (gB vs)).sum/\(l.map (gB vs)).sum<=8*(l.length:Int)
 | []=>BA
 | z::l=>by
   have f:=uG c l
   have e:0<=gB vs z/\gB vs z<=8:=by
    unfold gB
    cases d:vs[z.toNat]? with
    | none=>simp
    | some v=>have:=c v (qB d);simp only;omega
   simp only[jJ,List.sum_cons,zF];omega
def lT (p:Pr):List Int:=if JS p=0 then eD p.vars p.vars.length else []
theorem uD {p:Pr}(P:PV p):∀k,k<=p.vars.length->0<=KL (p.vars.take k)/\sT p.vars k=2^(KL (p.vars.take k)).toNat
 | 0,_=>⟨Int.le_refl 0,rfl⟩
 | k+1,h=>by
   have hk:k<p.vars.length:=U;obtain⟨d,c⟩:=uD P k U;obtain⟨_,f,_⟩:=U2 (P.vr _ (jH hk));rw[jV hk]
   have e:KL (p.vars.take k++[p.vars[k]])=KL (p.vars.take k)+if p.vars[k].mode=0 then 0 else p.vars[k].width:=by
    unfold KL;rw[qC,List.sum_append];simp
   rw[e];simp only[sT,jO hk];by_cases hm:p.vars[k].mode=0
   .rw[if_pos hm,if_pos hm,Int.add_zero];exact⟨d,c⟩
   .rw[if_neg hm,if_neg hm,c,<-Nat.pow_add]
    exact⟨U,by congr 1;omega⟩
def Fw (p:Pr)(n:Int):Prop:=p.hard.length<=20/\p.dists.length<=20/\(JS p=0->KL p.vars<=n)
theorem Fw.sm {n:Int}(h:Fw p n)(i:n<=18):Sm51 p:=by
 refine⟨by have:=h.1;omega,by have:=h.2.1;omega,fun d=>?_⟩;have P:=PV.of d;obtain⟨f,c⟩:=uD P p.vars.length (jF _);rw[List.take_length] at f c;have g:=h.2.2 d;unfold lft;rw[c];have:(2:Nat)^(KL p.vars).toNat<=2^18:=Nat.pow_le_pow_right DU U;have e:(2:Nat)^18=262144:=rfl;omega
section
variable (G:Nat->AV)
theorem AM8 (m m':SM)(a:List Int)(q:a.length<=1048576)(h:Hp):PCall (En G) 16 [.sl m 1 (a.map Bins.qencI),.sl m' 1 (a.map Bins.qencI)] h (.bool true):=by
 refine acT Tryz.func16 4 ?_;refine AY (show((((a.length:Nat):Int)) != (((a.length:Nat):Int)))=false by simp) ?_;refine BB (fun n F H=>∃i,n+i=a.length/\F 0=.sl m 1 (a.map Bins.qencI)/\F 1=.sl m' 1 (a.map Bins.qencI)/\F 5=.n (i:Nat)/\H=h) a.length ⟨0,BA,AO,AO,AO,rfl⟩ ?_;rintro n F H ⟨i,A,d,f,e,rfl⟩;refine A7 d e ?_;refine BH ?_ ?_<;>intro g
 .have c:i<a.length:=BL g
  have j:BO jA H 3 (.fptr 1 (a.map Bins.qencI) i 0)=some (.n a[i]):=by rw[BR ag3 c];rfl
  refine AB ?_;refine DR BC ?_;refine KZ d f e c j (show(a[i] != a[i])=false by simp) (C9 i) ?_;exact⟨n-1,U,i+1,U,AC,AC,AC,AC⟩
 .refine AB ?_
  exact⟨AC,AC⟩
theorem ANX (e:Ex):(pre e).length<=1048576->∀(d:Int),0<=d->d<=100->∀h:Hp,QCall (En G) 74 [.agg (AQ e),.n d] h (fun v=>∃z:Int,v=.n z/\1<=z/\z<=((pre e).length:Int)):=by
 induction e using Ex.induct with|h e ih=>?_
 intro Y d T V h;have K:=congrArg qL (pre_eq e);rw[zF] at K;have N:e.args.length<=1048576:=by have:=WU e.args;omega
 refine ACalls.pureQ (R:=fun v H=>Sm.ext h H/\∃z:Int,v=.n z/\1<=z/\z<=((pre e).length:Int)) 1 ?_ (fun v H ⟨a,z,b,c⟩=>⟨a,z,by rw[b];rfl,c⟩);refine acT Tryz.func74 4 ?_;have A:=AZ h (qG 4 [AQ e]);have B:=Sm.ext.r1 h (qG 4 [AQ e]);refine AY @bxE ?_
 generalize h++[qG 4 [AQ e]]=H1 at A B|-
 generalize h.length=eb at A|-
 refine BB (fun n F H=>∃(j:Nat) (z:Int),n+j=e.args.length/\F 1=.n d/\F 2=.ptr eb 0 0/\F 5=.n z/\F 6=.n (j:Nat)/\H=H1/\1<=z/\z<=1+((FT (e.args.take j)).length:Int)) e.args.length
  ⟨0,1,BA,AO,AO,AO,AO,rfl,U,by simp [FT]⟩ ?_
 rintro n F H ⟨j,z,X,L,M,q,E,rfl,z1,z2⟩
 have P:(FT (e.args.take j)).length<=(FT e.args).length:=by
  have:FT e.args=FT (e.args.take j)++FT (e.args.drop j):=by rw[<-NQ,List.take_append_drop]
  rw[this,jW];omega
 have fin:(1<=z/\z<=((pre e).length:Int)):=U;refine DC M E (OQ A) ?_;cases i:decide (((j:Nat):Int)<((e.args.length:Nat):Int))
 .refine A7 i q ?_
  exact⟨B,z,AC,fin⟩
 have f:j<e.args.length:=by have:=of_decide_eq_true i;omega
 refine A7 i q ?_;cases C:decide (z<100)
 .refine DC i C q ?_
  exact⟨B,z,AC,fin⟩
 refine A7 C L ?_;cases I:decide (d<30)
 .refine EG i C I q ?_
  exact⟨B,z,AC,fin⟩
 have g:e.args[j]∈e.args:=jH f;have J:(pre e.args[j]).length<=1048576:=by have:=QV g;omega
 have Q:IntKind.i64.wrap (d+1)=d+1:=wrap_i64 U U;have O:=of_decide_eq_true I;simp only[vQ,CQ,↓reduceIte,jC,enP,PU,UG,i,C,I,L,M,q,E,OQ A,CP f,DL NI GZ EC f,Q];refine(ih e.args[j] g J (d+1) U U H).use ?_;rintro r ⟨y,rfl,Z,y2⟩;have S:IntKind.i64.wrap (z+y)=z+y:=wrap_i64 U U;refine DC E S (C9 j) ?_;refine⟨n-1,U,j+1,z+y,U,AC,AC,AC,AC,AC,U,?_⟩;rw[LH _ _ f,jW];omega
theorem iW (e:Ex):(pre e).length<=1048576->∀(d:Int),0<=d->d<=100->∀h:Hp,Rk.SomeB (En G) 35 [.agg (AQ e),.n d] h:=by
 induction e using Ex.induct with|h e ih=>?_
 intro O d Q S h;have I:=congrArg qL (pre_eq e);rw[zF] at I;have K:e.args.length<=1048576:=by have:=WU e.args;omega
 refine Rk.SomeB.of ?_;refine acT Tryz.func35 4 ?_;have q:=AZ h (qG 4 [AQ e]);have A:=Sm.ext.r1 h (qG 4 [AQ e]);refine AY @bxE ?_
 generalize h++[qG 4 [AQ e]]=H1 at q A|-
 generalize h.length=eb at q|-
 cases g:decide (d>25)
 rotate_left
 .refine AY g ?_
  exact⟨⟨_,AC⟩,A⟩
 have N:=of_decide_eq_false g;refine AY g ?_;refine RZ (fun F H=>F 1=.n d/\F 2=.ptr eb 0 0/\(∃b,F 16=.bool b)/\H=H1) ?_ ?_
 .cases E:(d==0)
  .refine A7 g E ?_
   exact⟨AC,AC,⟨_,AC⟩,AC⟩
  .refine DC g E (IC q) ?_
   refine(ANX G e O 0 U U H1).use ?_;rintro r ⟨y,rfl,V,X⟩;refine A7 g E ?_;exact⟨AC,AC,⟨_,AC⟩,AC⟩
 rintro F H ⟨B,i,⟨b,f16⟩,rfl⟩;refine AY f16 ?_;refine BH ?_ ?_<;>intro L
 .refine AB ?_
  exact⟨⟨_,AC⟩,A⟩
 refine AB ?_
 refine BB (fun n F J=>∃(j:Nat),n+j=e.args.length/\F 1=.n d/\F 2=.ptr eb 0 0/\F 5=.n (j:Nat)/\J=H) e.args.length
  ⟨0,BA,D7 B,D7 i,AO,rfl⟩ ?_
 clear B i f16;rintro n F H ⟨j,T,B,i,C,rfl⟩;refine DC i C (OQ q) ?_;refine BH ?_ ?_<;>intro M
 .have f:j<e.args.length:=BL M
  have c:e.args[j]∈e.args:=jH f;have P:IntKind.i64.wrap (d+1)=d+1:=wrap_i64 U U;simp only[vQ,CQ,↓reduceIte,jC,enP,PU,UG,B,i,C,OQ q,CP f,DL NI GZ EC f,P];refine(ih e.args[j] c (by have:=QV c;omega) (d+1) U U H).use fun b=>?_
  refine AB ?_;refine BH ?_ ?_<;>intro L
  .refine AB ?_
   exact⟨⟨_,AC⟩,A⟩
  .refine A7 C (C9 j) ?_
   exact⟨n-1,U,j+1,U,AC,AC,AC,AC⟩
 .refine AB ?_
  exact⟨⟨_,AC⟩,A⟩
end
section
variable (G:Nat->AV)
theorem AHM (p:Pr)(N:PrS p)(h:Hp):PCall (En G) 73 [.agg (CW p)] h (.sl (Cov.nm (lT p)) 1 ((lT p).map Bins.qencI)):=by
 have T:=N.vars;refine JZ Cov.frzI ?_;refine acT Tryz.func73 2 ?_;have C:=AZ h (qG 5 [CW p]);have B:=Sm.ext.r1 h (qG 5 [CW p]);refine AY @PZ ?_
 generalize h++[qG 5 [CW p]]=H0 at C B|-
 refine AY (TR C) ?_;refine(Bd.valid_ref G p N H0).use ?_;unfold lT;cases g:(JS p != 0)
 case true =>
  have q:JS p≠0:=BL g;refine AY g ?_;rw[if_neg q];exact⟨B,outG.nil _ _ _ _⟩
 have S:JS p=0:=BL g;rw[if_pos S];refine AY g ?_
 refine BB (fun n F H=>∃i u,n+i=p.vars.length/\F 1=.ptr h.length 0 0/\F 3=u/\F 4=.n (i:Nat)/\Sm.ext H0 H/\outG 1 Bins.qencI H0 (eD p.vars i) u H) p.vars.length
  ⟨0,.sl .nil 0 [],BA,AO,AO,AO,ext.rfl' _,outG.nil _ _ _ _⟩ ?_
 rintro n F H ⟨i,u,Z,L,M,j,d,A⟩;have f:=DW d C;refine DC L j (YU f) ?_;refine DX ?_ ?_<;>intro c
 .have V:BO jA H 3 (.fptr 4 (p.vars.map encV) i 2)=some (.n p.vars[i].mode):=by rw[BR ag3 c];rfl
  have Q:=nX p.vars i;refine Z9 L j (YU f) c V ?_;cases K:(p.vars[i].mode != 0)
  .have E:p.vars[i].mode=0:=BL K
   have e:eD p.vars (i+1)=eD p.vars i:=by simp only[eD,jO c];rw[if_neg (by simp [E]),jM]
   refine A7 j (C9 i) ?_;exact⟨n-1,U,i+1,u,U,AC,AC,AC,d,by rw[e];exact A⟩
  .have E:p.vars[i].mode≠0:=BL K
   have e:eD p.vars (i+1)=eD p.vars i++[((i:Nat):Int)]:=by simp only[eD,jO c];rw[if_pos E]
   obtain⟨X,Y,O,I,_,J,_,_⟩:=A.append (P:=jA) gH sz3 xY rM U U d ((i:Nat):Int);refine H7 M j @bsI O (C9 i) ?_;exact⟨n-1,U,i+1,X,U,AC,AC,AC,J,by rw[e];exact I⟩
 .rw[show i=p.vars.length by omega] at A
  refine AY M ?_;exact⟨B.trans d,A.base B.le⟩
theorem bits_ref (p:Pr)(M:PrS p)(h:Hp):PCall (En G) 34 [.agg (CW p)] h (.n (if JS p=0 then KL p.vars else 0)):=by
 have S:=M.vars;refine ACalls.pure0 rfl ?_;refine acT Tryz.func34 2 ?_;have C:=AZ h (qG 5 [CW p]);have O:=Sm.ext.r1 h (qG 5 [CW p]);refine AY @PZ ?_
 generalize h++[qG 5 [CW p]]=H0 at C O|-
 refine AY (TR C) ?_;refine(AHM G p M H0).use ?_
 have E:(lT p).length<=1048576:=by
  unfold lT;split
  .have:=nX p.vars p.vars.length;omega
  .simp
 have g:∀z∈lT p,∃i:Nat,z=(i:Int)/\i<p.vars.length:=fun z A=>by
  unfold lT at A;split at A
  .exact AKM _ _ z A
  .cases A
 have e:lT p≠[]->∀v∈p.vars,1<=v.width/\v.width<=8:=fun f v Q=>by
  have q:JS p=0:=by
   apply Classical.byContradiction;intro q;unfold lT at f;rw[if_neg q] at f;exact f rfl
  have:=U2 ((PV.of q).vr v Q);exact⟨this.2.1,this.2.2.1⟩
 have hsum:((lT p).map (gB p.vars)).sum=if JS p=0 then KL p.vars else 0:=by
  unfold lT;split
  .rw[AC7 _ _ (jF _),List.take_length]
  .rfl
 rw[<-hsum]
 generalize lT p=L at E g e|-
 refine AB ?_
 refine BB (fun n F H=>∃i,n+i=L.length/\F 1=.ptr h.length 0 0/\F 3=.sl (Cov.nm L) 1 (L.map Bins.qencI)/\F 4=.n ((L.take i).map (gB p.vars)).sum/\F 5=.n (i:Nat)/\H=H0) L.length
  ⟨0,BA,AO,AO,AO,AO,rfl⟩ ?_
 rintro n F H ⟨i,hi,P,I,B,J,rfl⟩;refine A7 I J ?_;refine DX ?_ ?_<;>intro c
 .obtain⟨j,K,d⟩:=g _ (jH c)
  have N:=e (fun q=>by rw[q] at c;cases c);have X:BO jA H 3 (.fptr 1 (L.map Bins.qencI) i 0)=some (.n (j:Nat)):=by rw[BR ag3 c];show some (AV.int .i64 L[i])=_;rw[K]
  have V:BO jA H 3 (.fptr 4 (p.vars.map encV) j 1)=some (.n p.vars[j].width):=by rw[BR ag3 d];rfl
  have T:=N _ (jH d);obtain⟨s0,Y⟩:=uG N (L.take i);rw[jR] at Y
  have Z:IntKind.i64.wrap (((L.take i).map (gB p.vars)).sum+p.vars[j].width)=((L.take (i+1)).map (gB p.vars)).sum:=by
   rw[wrap_i64 U U,jV c,qC,List.sum_append];have:gB p.vars L[i]=p.vars[j].width:=by unfold gB;rw[K,qM,jO d]
   simp [this]
  refine AB ?_;refine DR BC ?_;refine WP P I B J (YU C) c X d V Z (C9 i) ?_;exact⟨n-1,U,i+1,U,AC,AC,AC,AC,AC⟩
 .rw[jK U] at B
  refine AY B ?_;exact⟨AC,O⟩
theorem AM3 (p:Pr)(N:PrS p)(h:Hp):QCall (En G) 33 [.agg (CW p)] h (fun v=>∃b,v=.bool b/\(b=true->p.hard.length<=20/\p.dists.length<=20)):=by
 have a3:=N.vars;have a1:=N.exprs;have a0:=N.dists;have a2:=N.groups;have Z:=N.wts;have M:∀e∈p.hard++p.soft,(pre e).length<=1048576:=fun e he=>by have:=XX e;have:=Z e he;omega
 refine ACalls.pureQ (R:=fun v H=>Sm.ext h H/\∃b,v=.bool b/\(b=true->p.hard.length<=20/\p.dists.length<=20)) 1 ?_ (fun v H ⟨a,b,c,d⟩=>⟨a,b,by rw[c];rfl,d⟩);refine acT Tryz.func33 2 ?_;have K:=AZ h (qG 5 [CW p]);have B:=Sm.ext.r1 h (qG 5 [CW p]);refine AY @PZ ?_
 generalize h++[qG 5 [CW p]]=H0 at K B|-
 have l0:=YU K;have l1:BO jA H0 23 (.ptr h.length 0 1)=some (.sl p.hm 4 (p.hard.map AQ)):=by rw[BK LU K (row:=CW p) rfl];rfl
 have l2:BO jA H0 23 (.ptr h.length 0 2)=some (.sl p.sm 4 (p.soft.map AQ)):=by rw[BK LU K (row:=CW p) rfl];rfl
 have l3:BO jA H0 24 (.ptr h.length 0 3)=some (.sl p.dm 2 (p.dists.map IY)):=by rw[BK APL K (row:=CW p) rfl];rfl
 have l4:BO jA H0 25 (.ptr h.length 0 4)=some (.sl p.gm 1 (p.groups.map TZ)):=by rw[BK Z5 K (row:=CW p) rfl];rfl
 have no:∀ {P:Prop},((false=true)->P):=fun q=>by cases q
 refine AY l0 ?_;cases A:decide (((p.vars.length:Nat):Int)>20)
 rotate_left
 .refine AY A ?_
  exact⟨B,_,AC,no⟩
 refine DC @dA A l1 ?_;cases C:decide (((p.hard.length:Nat):Int)>20)
 rotate_left
 .refine A7 A C ?_
  exact⟨B,_,AC,no⟩
 refine EG @pR A C l2 ?_;cases E:decide (((p.soft.length:Nat):Int)>20)
 rotate_left
 .refine DC A C E ?_
  exact⟨B,_,AC,no⟩
 refine EG A C E l3 ?_;cases J:decide (((p.dists.length:Nat):Int)>20)
 rotate_left
 .refine EG A C E J ?_
  exact⟨B,_,AC,no⟩
 refine KO @pQ A C E J l4 ?_;cases O:decide (((p.groups.length:Nat):Int)>20)
 rotate_left
 .refine H7 A C E J O ?_
  exact⟨B,_,AC,no⟩
 refine H7 A C E J O ?_;have q1:=of_decide_eq_false C;have q3:=of_decide_eq_false J;have yes:p.hard.length<=20/\p.dists.length<=20:=U;clear A C E J O;refine EK 0 (fun F H=>F 1=.ptr h.length 0 0/\H=H0) (fun F H=>F 2=.bool false/\H=H0) ?_ ?_ (fun F H ⟨L,e⟩=>by subst e;refine AY L ?_;exact⟨B,_,AC,no⟩)
 .refine BB (fun n F H=>∃j,n+j=p.hard.length/\F 1=.ptr h.length 0 0/\F 3=.n (j:Nat)/\H=H0) p.hard.length ⟨0,BA,AO,AO,rfl⟩ ?_
  rintro n F H ⟨j,Y,g,Q,rfl⟩;refine EG @dA g Q l1 ?_;refine BH ?_ ?_<;>intro I
  .have f:j<p.hard.length:=BL I
   simp only[vQ,CQ,↓reduceIte,jC,enP,PU,dA,g,Q,l1,CP f,DL NI GZ EC f];refine(iW G p.hard[j] (M _ (List.mem_append_left _ (jH f))) 0 U U H).use fun b=>?_
   refine AB ?_;refine BH ?_ ?_<;>intro X
   .refine AB ?_
    exact⟨AC,AC⟩
   .refine A7 Q (C9 j) ?_
    exact⟨n-1,U,j+1,U,AC,AC,AC⟩
  .refine AB ?_
   exact⟨AC,AC⟩
 rintro F H ⟨g,rfl⟩;refine AB ?_;refine EK 2 (fun F i=>F 1=.ptr h.length 0 0/\i=H) (fun F i=>F 2=.bool false/\i=H) ?_ ?_ (fun F H ⟨L,e⟩=>by subst e;refine AY L ?_;exact⟨B,_,AC,no⟩)
 .refine BB (fun n F i=>∃j,n+j=p.soft.length/\F 1=.ptr h.length 0 0/\F 4=.n (j:Nat)/\i=H) p.soft.length ⟨0,BA,D7 g,AO,rfl⟩ ?_
  clear g;rintro n F H ⟨j,Y,g,S,rfl⟩;refine EG @pR g S l2 ?_;refine BH ?_ ?_<;>intro I
  .have f:j<p.soft.length:=BL I
   simp only[vQ,CQ,↓reduceIte,jC,enP,PU,pR,g,S,l2,CP f,DL NI GZ EC f];refine(iW G p.soft[j] (M _ (List.mem_append_right _ (jH f))) 0 U U H).use fun b=>?_
   refine AB ?_;refine BH ?_ ?_<;>intro X
   .refine AB ?_
    exact⟨AC,AC⟩
   .refine A7 S (C9 j) ?_
    exact⟨n-1,U,j+1,U,AC,AC,AC⟩
  .refine AB ?_
   exact⟨AC,AC⟩
 clear g;rintro F H ⟨g,rfl⟩;refine AB ?_;refine EK 4 (fun F i=>F 1=.ptr h.length 0 0/\i=H) (fun F i=>F 2=.bool false/\i=H) ?_ ?_ (fun F H ⟨L,e⟩=>by subst e;refine AY L ?_;exact⟨B,_,AC,no⟩)
 .refine BB (fun n F i=>∃j,n+j=p.dists.length/\F 1=.ptr h.length 0 0/\F 5=.n (j:Nat)/\i=H) p.dists.length ⟨0,BA,D7 g,AO,rfl⟩ ?_
  clear g;rintro n F H ⟨j,Y,g,T,rfl⟩;refine DC g T l3 ?_;refine BH ?_ ?_<;>intro I
  .have f:j<p.dists.length:=BL I
   have lw:BO jA H 120 (.fptr 2 (p.dists.map IY) j 1)=some (.sl p.dists[j].wm 4 (p.dists[j].ws.map I9)):=by rw[BR AGK f];rfl
   refine V8 vB g T l3 f lw ?_;refine BH ?_ ?_<;>intro X
   .refine AB ?_
    exact⟨AC,AC⟩
   .refine A7 T (C9 j) ?_
    exact⟨n-1,U,j+1,U,AC,AC,AC⟩
  .refine AB ?_
   exact⟨AC,AC⟩
 clear g;rintro F H ⟨g,rfl⟩;refine AB ?_;refine BB (fun n F i=>∃j,n+j=p.groups.length/\F 1=.ptr h.length 0 0/\F 6=.n (j:Nat)/\i=H) p.groups.length ⟨0,BA,D7 g,AO,rfl⟩ ?_;clear g;rintro n F H ⟨j,Y,g,V,rfl⟩;refine EG @pQ g V l4 ?_;refine BH ?_ ?_<;>intro I
 .have f:j<p.groups.length:=BL I
  have lw:BO jA H 32 (.fptr 1 (p.groups.map TZ) j 0)=some (.sl p.groups[j].m 1 (p.groups[j].l.map Bins.qencI)):=by rw[BR O4 f];rfl
  refine V8 @pQ g V l4 f lw ?_;refine BH ?_ ?_<;>intro X
  .refine AB ?_
   exact⟨B,_,AC,no⟩
  .refine A7 V (C9 j) ?_
   exact⟨n-1,U,j+1,U,AC,AC,AC⟩
 .refine AB ?_
  exact⟨B,_,AC,fun _=>yes⟩
theorem AXP (p:Pr)(i:PrS p)(n:Int)(h:Hp):QCall (En G) 9 [.agg (CW p),.n n] h (fun v=>∃b,v=.bool b/\(b=true->Fw p n)):=by
 refine ACalls.pureQ (R:=fun v H=>Sm.ext h H/\∃b,v=.bool b/\(b=true->Fw p n)) 1 ?_ (fun v H ⟨a,b,c,d⟩=>⟨a,b,by rw[c];rfl,d⟩);refine acT Tryz.func9 4 ?_;have e:=AZ h (qG 5 [CW p]);have f:=Sm.ext.r1 h (qG 5 [CW p]);refine AY @PZ ?_
 generalize h++[qG 5 [CW p]]=H0 at e f|-
 refine AY (TR e) ?_;refine(AM3 G p i H0).use ?_;rintro r ⟨b,rfl,g⟩;cases b
 .refine AB ?_
  exact⟨f,_,AC,fun q=>by cases q⟩
 refine AY (TR e) ?_;refine(bits_ref G p i H0).uu ?_;refine⟨f,_,AC,fun q=>⟨(g rfl).1,(g rfl).2,fun j=>?_⟩⟩;rw[if_pos j] at q;simpa using q
theorem AM0 (l:List Rs)(s:SM)(A:l.length<=1048576)(h:Hp):Rk.SomeB (En G) 36 [.sl s 1 (l.map encS)] h:=by
 refine Rk.SomeB.of ?_;refine acT Tryz.func36 2 ?_;refine AB ?_;refine BB (fun n F f=>∃j,n+j=l.length/\F 0=.sl s 1 (l.map encS)/\F 3=.n (j:Nat)/\f=h) l.length ⟨0,BA,AO,AO,rfl⟩ ?_;rintro n F H ⟨j,q,e,d,rfl⟩;refine A7 e d ?_;refine BH ?_ ?_<;>intro g
 .have c:j<l.length:=BL g
  simp only[vQ,CQ,↓reduceIte,jC,enP,ZJ,tG,e,d,CP c,BR TB c,lB,jI];refine BH ?_ ?_<;>intro i
  .refine AB ?_
   exact⟨⟨_,AC⟩,ext.rfl' _⟩
  .refine A7 d (C9 j) ?_
   exact⟨n-1,U,j+1,U,AC,AC,AC⟩
 .refine AB ?_
  exact⟨⟨_,AC⟩,ext.rfl' _⟩
theorem AW7 (m:Mo)(Y:MoOk m)(h:Hp):QCall (En G) 10 [.agg (DT m)] h (fun v=>∃b,v=.bool b/\(b=true->m.pts.length<=4/\m.crs.length<=3)):=by
 refine ACalls.pureQ (R:=fun v H=>Sm.ext h H/\∃b,v=.bool b/\(b=true->m.pts.length<=4/\m.crs.length<=3)) 1 ?_ (fun v H ⟨a,b,c,d⟩=>⟨a,b,by rw[c];rfl,d⟩);refine acT Tryz.func10 2 ?_;have O:=AZ h (qG 2 [DT m]);have P:=Sm.ext.r1 h (qG 2 [DT m]);have np:=Y.np;have nc:=Y.nc;refine AY @bxM ?_
 generalize h++[qG 2 [DT m]]=H0 at O P|-
 refine EK 0 (fun F H=>F 1=.ptr h.length 0 0/\Sm.ext H0 H) (fun F H=>F 2=.bool false/\Sm.ext H0 H) ?_ ?_ (fun F H ⟨Q,e⟩=>by refine AY Q ?_;exact⟨P.trans e,false,AC,fun q=>by cases q⟩)
 .refine BB (fun n F H=>∃k,n+k=m.pts.length/\F 1=.ptr h.length 0 0/\F 3=.n (k:Nat)/\Sm.ext H0 H) m.pts.length ⟨0,BA,AO,AO,ext.rfl' _⟩ ?_
  rintro n F H ⟨k,hk,A,B,g⟩;have f:=DW g O;refine DC A B (WH f) ?_;cases I:decide (((k:Nat):Int)<((m.pts.length:Nat):Int))
  .refine AY I ?_
   exact⟨AC,g⟩
  have i:k<m.pts.length:=by have:=of_decide_eq_true I;omega
  have K:=Y.pts _ (jH i);refine A7 I B ?_;refine BH ?_ ?_<;>intro X
  rotate_left
  .refine AB ?_
   exact⟨AC,g⟩
  simp only[vQ,EP,CQ,↓reduceIte,jC,enP,UF,LZ,eO,KX,A,B,WH f,CP i,BR QQ i,QE,jI];cases S:decide (((m.pts[k].bins.length:Nat):Int)>6)
  rotate_left
  .refine AY S ?_
   exact⟨AC,g⟩
  simp only[vQ,EP,CQ,↓reduceIte,jC,enP,UF,LZ,cZ,S,A,B,WH f,CP i,Rk.ldPE i];refine(iW G m.pts[k].ex (by have:=XX m.pts[k].ex;have:=K.ex;omega) 0 U U H).use fun b=>?_
  cases b
  .refine AY S ?_
   exact⟨AC,g⟩
  refine AY S ?_;refine EK 2 (fun F L=>F 1=.ptr h.length 0 0/\F 3=.n (k:Nat)/\Sm.ext H0 L) (fun F L=>F 2=.bool false/\Sm.ext H0 L) ?_ ?_ (fun F H ⟨Q,e⟩=>by refine AB ?_;exact⟨AC,e⟩)
  .refine BB (fun n F L=>∃j,n+j=m.pts[k].bins.length/\F 1=.ptr h.length 0 0/\F 3=.n (k:Nat)/\F 4=.n (j:Nat)/\Sm.ext H0 L) m.pts[k].bins.length ⟨0,BA,D7 A,D7 B,AO,g⟩ ?_
   clear A B g f;rintro n F H ⟨j,hj,A,B,T,g⟩;have f:=DW g O;simp only[vQ,CQ,↓reduceIte,jC,enP,UF,LZ,eO,KX,A,B,T,WH f,CP i,BR QQ i,QE,jI];refine BH ?_ ?_<;>intro hd
   .have J:j<m.pts[k].bins.length:=BL hd
    have a0:=K.bins _ (jH J);have V:=AZ H (qG 4 [I7 m.pts[k].bins[j]]);have C:=g.app [qG 4 [I7 m.pts[k].bins[j]]];simp only[vQ,CQ,↓reduceIte,jC,enP,UF,LZ,ZL,KX,AIJ,jQ,A,B,T,WH f,CP i,BR QQ i,QE,CP J,DL sC dX MM J,Cov.al79,Cov.st79 _ _ [.str ⟨#[]⟩,.n 0,.sl .nil 0 [],.sl .nil 0 []] rfl]
    generalize H++[qG 4 [I7 m.pts[k].bins[j]]]=H1 at V C|-
    have b2:BO jA H1 84 (.ptr H.length 0 2)=some (.sl m.pts[k].bins[j].ranges.m 2 (m.pts[k].bins[j].ranges.l.map encR)):=by rw[BK TB V rfl];rfl
    have Z:BO jA H1 85 (.ptr H.length 0 3)=some (.sl m.pts[k].bins[j].sm 1 (m.pts[k].bins[j].steps.map encS)):=by rw[BK YG V rfl];rfl
    refine AY b2 ?_;cases E:decide (((m.pts[k].bins[j].ranges.l.length:Nat):Int)>6)
    rotate_left
    .refine AY E ?_
     exact⟨AC,C⟩
    refine A7 E Z ?_;cases M:decide (((m.pts[k].bins[j].steps.length:Nat):Int)>8)
    rotate_left
    .refine A7 E M ?_
     exact⟨AC,C⟩
    have a1:=of_decide_eq_false M;refine DC E M Z ?_;refine(AM0 G m.pts[k].bins[j].steps m.pts[k].bins[j].sm U H1).use fun b=>?_
    cases b
    .refine A7 E M ?_
     exact⟨AC,C⟩
    .refine EG E M T (wrap_succ (show j<9223372036854775807 by have:=K.num;omega)) ?_
     exact⟨n-1,U,j+1,U,AC,AC,AC,C⟩
   .refine AB ?_
    exact⟨AC,AC,g⟩
  clear A B g f;rintro F H ⟨A,B,g⟩;refine A7 B (C9 k) ?_;exact⟨n-1,U,k+1,U,AC,AC,g⟩
 rintro F H ⟨A,g⟩;refine AB ?_;refine EK 4 (fun F H=>F 1=.ptr h.length 0 0/\Sm.ext H0 H) (fun F H=>F 2=.bool false/\Sm.ext H0 H) ?_ ?_ (fun F H ⟨Q,e⟩=>by refine AY Q ?_;exact⟨P.trans e,false,AC,fun q=>by cases q⟩)
 .refine BB (fun n F H=>∃k,n+k=m.crs.length/\F 1=.ptr h.length 0 0/\F 6=.n (k:Nat)/\Sm.ext H0 H) m.crs.length ⟨0,BA,D7 A,AO,g⟩ ?_
  clear A g;rintro n F H ⟨k,hk,A,N,g⟩;have f:=DW g O;refine DC A N (cV f) ?_;cases I:decide (((k:Nat):Int)<((m.crs.length:Nat):Int))
  .refine AY I ?_
   exact⟨AC,g⟩
  have i:k<m.crs.length:=by have:=of_decide_eq_true I;omega
  refine A7 I N ?_;refine BH ?_ ?_<;>intro X
  rotate_left
  .refine AB ?_
   exact⟨AC,g⟩
  simp only[vQ,EP,CQ,↓reduceIte,jC,enP,WI,NW,YT,NF,A,N,cV f,CP i,BR O4 i,VY,jI];cases h5:decide (((m.crs[k].pts.length:Nat):Int)>5)
  rotate_left
  .refine AY h5 ?_
   exact⟨AC,g⟩
  simp only[vQ,EP,CQ,↓reduceIte,jC,enP,ARZ,WI,NW,iI,h5,A,N,cV f,CP i,BR Z5 i,AFC,jI];refine BH ?_ ?_<;>intro hb
  .refine AB ?_
   exact⟨AC,g⟩
  .refine A7 N (C9 k) ?_
   exact⟨n-1,U,k+1,U,AC,AC,g⟩
 clear A g;rintro F H ⟨A,g⟩;have f:=DW g O;refine A7 A (WH f) ?_;cases E:decide (((m.pts.length:Nat):Int)<=4)
 .refine AY E ?_
  exact⟨P.trans g,false,AC,fun q=>by cases q⟩
 .refine DC E A (cV f) ?_
  have:=of_decide_eq_true E;exact⟨P.trans g,_,rfl,fun q=>⟨U,by have:=of_decide_eq_true q;omega⟩⟩
theorem AN5 (m:Mo)(c:MoOk m)(h:Hp):Rk.SomeB (En G) 10 [.agg (DT m)] h :=
 ACalls.mono (AW7 G m c h) fun _ _ ⟨⟨b,e,_⟩,q⟩=>⟨⟨b,e⟩,q⟩
end
abbrev aN:ByteArray:=⟨#[97]⟩
def AZX:Ex:=.mk 17 0 ⟨#[]⟩ .full [JV aN,cE 3]
def RD:Pr:=⟨.full,[⟨aN,2,1,0⟩],.full,[AZX],.nil,[],.nil,[],.full,[⟨.full,[0]⟩]⟩
abbrev ZK:List AV:=[.n 17,.n 0,.str ⟨#[]⟩,.sl .full 4 [MW aN,SB 1 3]]
abbrev oC:List AV:=[.sl .full 4 [[.str aN,.n 2,.n 1,.n 0]],.sl .full 4 [ZK],.sl .nil 0 [],.sl .nil 0 [],.sl .full 1 [[.sl .full 1 [[.n 0]]]]]
theorem ARH {m:SM}{k:Nat}{a e:List AV}(f:CvRow a e):Cv (.sl m k [a]) (.sl m k [e]):=Cv.rows rfl fun i r g c d=>by
 match i,c,d with
 | 0,c,d=>cases c;cases d;exact f
 | _+1,c,_=>cases c
theorem AR1:CvRow ZK (AQ AZX):=by
 show CvRow ZK (AQ (.mk 17 0 ⟨#[]⟩ .full [JV aN,cE 3]));rw[pV];exact CvRow.cons rfl (Cv.refl _) (CvRow.cons rfl (Cv.refl _) (CvRow.cons rfl (Cv.refl _) (CvRow.cons rfl (yF (AB9 aN) (mT 3)) CvRow.nil)))
theorem AQ4:CvR (.agg oC) (.agg (CW RD)) :=
 CvR.agg (CvRL.cons (CvR.refl _) (CvRL.cons (CvR.sl (ARH AR1)) (CvRL.cons (CvR.sl (Cv.nil 0 4)) (CvRL.cons (CvR.sl (Cv.nil 0 2)) (CvRL.cons (CvR.refl _) CvRL.nil)))))
def nmN (i:Nat):ByteArray:=⟨#[110,UInt8.ofNat (48+i)]⟩
def AUG (i:Nat):Bin:=⟨nmN i,0,⟨.full,[⟨i,i⟩]⟩,.nil,[]⟩
def iY (i:Nat):List AV:=[.str (nmN i),.n 0,.sl .full 2 [[.n (i:Nat),.n (i:Nat)]],.sl .nil 0 []]
theorem AYR (i:Nat):CvRow (iY i) (I7 (AUG i)):=CvRow.cons rfl (Cv.refl _) (CvRow.cons rfl (Cv.refl _) (CvRow.cons rfl (Cv.refl _) (CvRow.cons rfl (Cv.nil 0 1) CvRow.nil)))
theorem A4O:Frz iY:=fun _ _ _ _=>⟨rfl,rfl⟩
def UR:Mo:=⟨.any,[⟨aN,JV aN,.any,(zL 4).map AUG⟩],.nil,[]⟩
abbrev A1M:List AV:=[.sl .any 6 [[.str aN,.n 2,.n 0,.str aN,.sl .nil 0 [],.sl .any 4 ((zL 4).map iY)]],.sl .nil 0 []]
theorem AWZ:CvR (.agg A1M) (.agg (DT UR)):=by
 have c:Cv (.sl .any 4 ((zL 4).map iY)) (.sl .any 4 (((zL 4).map AUG).map I7)):=by
  rw[List.map_map];exact Cv.map fun i _=>AYR i
 have d:CvRow [.str aN,.n 2,.n 0,.str aN,.sl .nil 0 [],.sl .any 4 ((zL 4).map iY)] (F8 ⟨aN,JV aN,.any,(zL 4).map AUG⟩):=by
  unfold F8;rw[FK];exact CvRow.cons rfl (Cv.refl _) (CvRow.cons rfl (Cv.refl _) (CvRow.cons rfl (Cv.refl _) (CvRow.cons rfl (Cv.refl _) (CvRow.cons rfl (Cv.nil 0 4) (CvRow.cons rfl c CvRow.nil)))))
 exact CvR.agg (CvRL.cons (CvR.sl (ARH d)) (CvRL.cons (CvR.sl (Cv.nil 0 3)) CvRL.nil))
def hol (i:Int):Hl:=⟨false,0,.full,[i]⟩
theorem A2Z:NK sdP FO RD UR (hol 2)=0/\bK sdP FO RD UR (hol 2)=[[2]]:=by decide +kernel
theorem A6W:NK sdP FO RD UR (hol 3)=11:=by decide +kernel
theorem yY:PrS RD:=⟨by decide +kernel,by decide +kernel,by decide +kernel,by decide +kernel,by decide +kernel,by decide +kernel,by decide +kernel,by decide +kernel⟩
theorem yZ:Sm51 RD:=Fw.sm (n:=10) (by unfold Fw;decide +kernel) DU
theorem mK:MoOk UR:=⟨by decide +kernel,by decide +kernel,fun p g=>by
 rw[wH.1 g];refine⟨by decide +kernel,by decide +kernel,by decide +kernel,fun b d=>?_⟩;obtain⟨i,h,rfl⟩:=List.mem_map.1 d
 exact⟨jB rfl,jB rfl,jB rfl,fun l f=>by
  have:l=⟨.full,[⟨i,i⟩]⟩:=by simpa [sets,AUG] using f
  rw[this];exact jB rfl⟩,fun c e=>by cases e⟩
theorem A8N (h:Hp):IG jA h 27=some (.ptr h.length 0 0,h++[qG 5 [[.sl .nil 0 [],.sl .nil 0 [],.sl .nil 0 [],.sl .nil 0 [],.sl .nil 0 []]]]):=F9 (row:=[.sl .nil 0 [],.sl .nil 0 [],.sl .nil 0 [],.sl .nil 0 [],.sl .nil 0 []]) BC
theorem A8M (h:Hp):IG jA h 31=some (.ptr h.length 0 0,h++[qG 2 [[.sl .nil 0 [],.sl .nil 0 []]]]):=F9 (row:=[.sl .nil 0 [],.sl .nil 0 []]) BC
abbrev ptZ:List AV:=[.str ⟨#[]⟩,.n 0,.n 0,.str ⟨#[]⟩,.sl .nil 0 [],.sl .nil 0 []]
abbrev ptW (v:AV):List AV:=[.str aN,.n 2,.n 0,.str aN,.sl .nil 0 [],v]
abbrev nms:List AV:=[.str (nmN 0),.str (nmN 1),.str (nmN 2),.str (nmN 3)]
theorem A52 (h:Hp):IG jA h 82=some (.ptr h.length 0 0,h++[qG 6 [ptZ]]):=F9 (row:=ptZ) BC
theorem A58 (h:Hp):IG jA h 143=some (.ptr h.length 0 0,h++[qG 4 [[.str ⟨#[]⟩,.str ⟨#[]⟩,.str ⟨#[]⟩,.str ⟨#[]⟩]]]):=F9 (row:=[.str ⟨#[]⟩,.str ⟨#[]⟩,.str ⟨#[]⟩,.str ⟨#[]⟩]) BC
section
variable (G:Nat->AV)
theorem ZA (h:Hp):PCall (En G) 37 [] h (.agg (CW RD)):=by
 refine PCall.res (r:=.agg oC) ?_ AQ4;refine SE 3 (fun n H=>rfl) ?_;refine acL Tryz.func37 [.cell 0 27] ?_;have g0:=AU (x:=qG 4 [ZK]) (AU (x:=qG 4 [MW aN]) (AZ h (qG 5 [[.sl .nil 0 [],.sl .nil 0 [],.sl .nil 0 [],.sl .nil 0 [],.sl .nil 0 []]])));have B:=AZ (h++[qG 5 [[.sl .nil 0 [],.sl .nil 0 [],.sl .nil 0 [],.sl .nil 0 [],.sl .nil 0 []]]]) (qG 4 [MW aN]);have j:=AZ (h++[qG 5 [[.sl .nil 0 [],.sl .nil 0 [],.sl .nil 0 [],.sl .nil 0 [],.sl .nil 0 []]]]++[qG 4 [MW aN]]) (qG 4 [ZK]);have q:Sm.ext h (h++[qG 5 [[.sl .nil 0 [],.sl .nil 0 [],.sl .nil 0 [],.sl .nil 0 [],.sl .nil 0 []]]]++[qG 4 [MW aN]]++[qG 4 [ZK]]):=(((ext.rfl' h).app _).app _).app _;have A:R4 (MW aN):=⟨_,_,_,_,_,_,rfl⟩;have C:R4 ZK:=⟨_,_,_,_,_,_,rfl⟩;have c:JC jA 131 [(0,.str aN),(1,.n 2),(2,.n 1)]=some (.agg [.str aN,.n 2,.n 1,.n 0]):=BC;have e:∀H:Hp,DJ jA false H 22 1 [(0,.agg [.str aN,.n 2,.n 1,.n 0])]=some (.sl .full 4 [[.str aN,.n 2,.n 1,.n 0]],H):=fun H=>BC
 have f:∀H:Hp,DJ jA false H 23 1 [(0,.agg ZK)]=some (.sl .full 4 [ZK],H):=fun H=>BC
 have g:∀H:Hp,DJ jA false H 25 1 [(0,.sl .full 1 [Bins.qencI 0])]=some (.sl .full 1 [[.sl .full 1 [[.n 0]]]],H):=fun H=>BC
 have d:JC jA 27 [(0,.sl .full 4 [[.str aN,.n 2,.n 1,.n 0]]),(1,.sl .full 4 [ZK]),(4,.sl .full 1 [[.sl .full 1 [[.n 0]]]])]=some (.agg oC):=BC;simp only[vQ,CQ,iZ,NS,↓reduceIte,jC,enP,jQ,A8N,APE,al79,uI _ A,G5 B rfl,rS,A5J _ A (⟨_,_,_,_,_,_,rfl⟩:R4 (SB 1 3)),AUI,uI _ C]
 generalize h++[qG 5 [[.sl .nil 0 [],.sl .nil 0 [],.sl .nil 0 [],.sl .nil 0 [],.sl .nil 0 []]]]++[qG 4 [MW aN]]++[qG 4 [ZK]]=H at g0 j q|-
 have i:D8 jA H 27 (.ptr h.length 0 0) (.agg oC)=some (H.set h.length (qG 5 [oC])):=by
  rw[JU (cs:=oC) rfl cH g0 (jF 5)];rfl
 refine OZ c e (G5 j rfl) f @bsI g d i ?_;rw[IM (b:=h.length) (x:=.agg oC) AO (by rw[EN fU cH (CJ g0) rfl (jF 5)];rfl)];exact⟨rfl,q.set (jF _) _⟩
theorem A4D (H:Hp)(b:Nat):∀k:Nat,k<4->EY jA H 143 (.ptr b 0 0) (.n (k:Nat))=some (.ptr b 0 k)
 | 0,_=>BC
 | 1,_=>BC
 | 2,_=>BC
 | 3,_=>BC
 | k+4,h=>absurd h U
theorem A1K:∀k:Nat,k<4->nms[k]?=some (.str (nmN k))
 | 0,_=>rfl
 | 1,_=>rfl
 | 2,_=>rfl
 | 3,_=>rfl
 | k+4,h=>absurd h U
theorem A60:Tryz.prog.underlying 80=some (.slice 87):=BC
theorem A6V:UZ jA 87=some 4:=BC
theorem A75:LQ jA 87=some 72:=BC
theorem aS (h:Hp):PCall (En G) 38 [] h (.agg (DT UR)):=by
 refine PCall.res (r:=.agg A1M) ?_ AWZ;refine ACalls.pure (R:=fun v H=>Sm.ext h H/\FH h.length H 5 v=.agg A1M) 5 ?_ (fun v H ⟨a,b⟩=>⟨a,b⟩);refine IK (H:=hint [22,25] []) (enM G) Tryz.func38 rfl (by kernel_rfl) (by kernel_rfl) (jB (by kernel_rfl)) ?_;show awp _ _ _ _ _ (ML _ [.cell 0 31] _);have g0:=AU (x:=qG 4 [nms]) (AU (x:=qG 6 [ptW (.sl .nil 0 [])]) (AZ h (qG 2 [[.sl .nil 0 [],.sl .nil 0 []]])));have f:=AU (x:=qG 4 [nms]) (AZ (h++[qG 2 [[.sl .nil 0 [],.sl .nil 0 []]]]) (qG 6 [ptW (.sl .nil 0 [])]));have e:=AZ (h++[qG 2 [[.sl .nil 0 [],.sl .nil 0 []]]]++[qG 6 [ptW (.sl .nil 0 [])]]) (qG 4 [nms]);have i:Sm.ext h (h++[qG 2 [[.sl .nil 0 [],.sl .nil 0 []]]]++[qG 6 [ptW (.sl .nil 0 [])]]++[qG 4 [nms]]):=(((ext.rfl' h).app _).app _).app _;have e1:(h++[qG 2 [[.sl .nil 0 [],.sl .nil 0 []]]]).length=h.length+1:=BA;have e2:(h++[qG 2 [[.sl .nil 0 [],.sl .nil 0 []]]]++[qG 6 [ptW (.sl .nil 0 [])]]).length=h.length+2:=BA;have M:JC jA 82 [(0,.str aN),(1,.agg (MW aN))]=some (.agg (ptW (.sl .nil 0 []))):=BC
 have a8:∀H:Hp,D8 jA (H++[qG 6 [ptZ]]) 82 (.ptr H.length 0 0) (.agg (ptW (.sl .nil 0 [])))=some (H++[qG 6 [ptW (.sl .nil 0 [])]]):=fun H=>by
  rw[JU (cs:=ptW (.sl .nil 0 [])) (row:=ptZ) rfl bI (AZ _ _) (jF 6),KI];rfl
 have A:JC jA 143 [(0,.str ⟨#[110,48]⟩),(1,.str ⟨#[110,49]⟩),(2,.str ⟨#[110,50]⟩),(3,.str ⟨#[110,51]⟩)]=some (.agg nms):=BC
 have J:∀H:Hp,D8 jA (H++[qG 4 [[.str ⟨#[]⟩,.str ⟨#[]⟩,.str ⟨#[]⟩,.str ⟨#[]⟩]]]) 143 (.ptr H.length 0 0) (.agg nms)=some (H++[qG 4 [nms]]):=fun H=>by
  rw[JU (cs:=nms) (row:=[.str ⟨#[]⟩,.str ⟨#[]⟩,.str ⟨#[]⟩,.str ⟨#[]⟩]) rfl A26 (AZ _ _) (jF 4),KI];rfl
 refine OZ A8M @APE M @A52 a8 A A58 J ?_
 rw[e1] at f|-
 rw[e2] at e|-
 generalize h++[qG 2 [[.sl .nil 0 [],.sl .nil 0 []]]]++[qG 6 [ptW (.sl .nil 0 [])]]++[qG 4 [nms]]=H0 at g0 f e i|-
 have l2:=AX e;clear e1 e2
 refine BB (fun n F H=>∃k v,n+k=4/\F 0=.ptr h.length 0 0/\F 1=.ptr (h.length+1) 0 0/\F 2=.ptr (h.length+2) 0 0/\F 3=.n (k:Nat)/\H[h.length]?=some (qG 2 [[.sl .nil 0 [],.sl .nil 0 []]])/\H[h.length+1]?=some (qG 6 [ptW v])/\H[h.length+2]?=some (qG 4 [nms])/\Sm.ext h H/\outG 4 iY h (zL k) v H/\∀b,isB v b->h.length+2<b) 4
  ⟨0,.sl .nil 0 [],U,AO,AO,AO,AO,g0,f,e,i,outG.nil _ _ _ _,fun b q=>q.elim⟩ ?_
 clear g0 f e i;rintro n F H ⟨k,v,hk,O,f1,f2,f3,g0,f,e,i,ho,sep⟩;have e5:BO jA H 80 (.ptr (h.length+1) 0 5)=some v:=by rw[BK QQ f rfl];rfl
 refine AY f3 ?_;refine BH ?_ ?_<;>intro T
 .have g:k<4:=by have:=of_decide_eq_true T;omega
  have ln:BO jA H 9 (.ptr (h.length+2) 0 k)=some (.str (nmN k)):=by rw[BK ag9 e rfl];exact A1K k g
  have N:JC jA 87 [(0,.str (nmN k)),(2,.sl .full 2 [encR ⟨(k:Nat),(k:Nat)⟩])]=some (.agg (iY k)):=BC;have a7:DJ jA false H 80 1 [(0,.agg (iY k))]=some (.sl .full 4 [iY k],H):=BC;obtain⟨j,H',a1,a2,K,a4,a5,a6⟩:=ho.append (P:=jA) A60 dX A6V A75 U (by rw[List.length_range];omega) i k;have l2:=AX e;have c:=K _ _ g0 (fun q=>by have:=sep _ q;omega);have B:=K _ _ f (fun q=>by have:=sep _ q;omega);have Q:=K _ _ e (fun q=>by have:=sep _ q;omega)
  have V:JH j=some [j]:=by
   rcases a2 with⟨_,rfl⟩|⟨_,o,_,rfl,_⟩<;>rfl
  have s5:D8 jA H' 80 (.ptr (h.length+1) 0 5) j=some (H'.set (h.length+1) (qG 6 [ptW j])):=by
   rw[JU (cs:=[j]) V (BC:szO jA 80=some 1) B (jF 6)];rfl
  refine AB ?_;refine DR BC ?_;simp only[vQ,List.contains_cons,List.contains_nil,Nat.reduceBEq,Bool.or_false,QK,XN,JF,QZ,JE,CQ,NS,↓reduceIte,jC,Nat.reduceAdd,enP,KX,jQ,f1,f2,f3,e5,A4D H (h.length+2) k g,ln,AUL,A2K,N,a7,a1,s5,C9 k];refine⟨n-1,U,k+1,j,U,AC,AC,AC,AC,by rw[zW U];exact c,CJ B,by rw[zW U];exact Q,a4.set U _,?_,fun b S=>by have:=a6 b S;omega⟩;rw[List.range_succ];exact a2.keep fun b S=>by rw[zW (by have:=a6 b S;omega)]
 .have g:¬k<4:=fun q=>by rw[decide_eq_true U] at T;cases T
  obtain rfl:k=4:=U;rcases ho with⟨q,_⟩|⟨_,o,aa,rfl,q3⟩
  .cases q
  have l6:BO jA H 82 (.ptr (h.length+1) 0 0)=some (.agg (ptW (.own o 0 4))):=by rw[EN kF bI f rfl (jF 6)];rfl
  have Z:DJ jA true H 28 1 [(0,.agg (ptW (.own o 0 4)))]=some (.own H.length 0 1,H++[qG 6 [ptW (.own o 0 4)]]):=BC;have L:JC jA 31 [(0,.own H.length 0 1)]=some (.agg [.own H.length 0 1,.sl .nil 0 []]):=BC;have c:=AU (x:=qG 6 [ptW (.own o 0 4)]) g0;have X:=AU (x:=qG 6 [ptW (.own o 0 4)]) q3;have gb:=AZ H (qG 6 [ptW (.own o 0 4)]);have I:=i.app [qG 6 [ptW (.own o 0 4)]];have l0:=AX g0;have a9:=sep o rfl;have Y:=AX q3;refine H7 O f1 l6 Z L ?_
  generalize H++[qG 6 [ptW (.own o 0 4)]]=H1 at c X gb I|-
  generalize H.length=rb at gb l0 Y|-
  have a0:D8 jA H1 31 (.ptr h.length 0 0) (.agg [.own rb 0 1,.sl .nil 0 []])=some (H1.set h.length (qG 2 [[.own rb 0 1,.sl .nil 0 []]])):=by
   rw[JU (cs:=[.own rb 0 1,.sl .nil 0 []]) rfl A0Y c (jF 2)];rfl
  refine A7 a0 O ?_;rw[IM (b:=h.length) (x:=.agg [.own rb 0 1,.sl .nil 0 []]) (D7 O) (by rw[EN A6A A0Y (CJ c) rfl (jF 2)];rfl)];refine⟨I.set (jF _) _,?_⟩;have q4:(H1.set h.length (qG 2 [[.own rb 0 1,.sl .nil 0 []]]))[o]?=some (qG 4 ((zL 4).map iY)):=by grind
  have C:(H1.set h.length (qG 2 [[.own rb 0 1,.sl .nil 0 []]]))[rb]?=some (qG 6 [ptW (.own o 0 4)]):=by grind
  generalize H1.set h.length (qG 2 [[.own rb 0 1,.sl .nil 0 []]])=H2 at q4 C;have z1:FH h.length H2 3 (.own o 0 4)=.sl .any 4 ((zL 4).map iY):=Cov.frz_own A4O (n:=h.length) (d:=1) (h:=H2) (xs:=zL 4) U q4
  have z2:FH h.length H2 4 (.own rb 0 1)=.sl .any 6 [ptW (.sl .any 4 ((zL 4).map iY))]:=by
   have E:((([ptW (.own o 0 4)]:List (List AV)).drop 0).take 1).map (·.map (FH h.length H2 3))=[ptW (.sl .any 4 ((zL 4).map iY))]:=by
    show [[AV.str aN,.n 2,.n 0,.str aN,.sl .nil 0 [],FH h.length H2 3 (.own o 0 4)]]=_;rw[z1]
   rw[Cov.frzF_own _ _ 3 rb 0 1 6 _ U C,E];rfl
  show AV.agg [FH h.length H2 4 (.own rb 0 1),FH h.length H2 4 (.sl .nil 0 [])]=_;rw[z2];rfl
end
end Go.Proofs.YtiihpnicbekebaaGreatDoor.Bd.Cl
namespace Go.Proofs.YtiihpnicbekebaaGreatDoor.Cov
open Sm Bins Go.RowKit
theorem goals_nil (G:Nat->AV)(m:Mo)(hc:m.crs=[])(hm:MoOk m)(hg:Good m)(h:Hp):PCall (En G) 61 [.agg (DT m)] h (.sl (nm (goals m)) 4 ((goals m).map L8)):=by
 refine JZ A7T ?_;have a7:=hm.np;have a8:=hm.nc;have a4:=hg.num;refine acT Tryz.func61 2 ?_;refine A7 @bxM (WH (AZ h (qG 2 [DT m]))) ?_;refine EK 0 (fun F H=>F 1=.ptr h.length 0 0/\H[h.length]?=some (qG 2 [DT m])/\ext h H/\(∀b,isB (F 3) b->h.length<b)/\outG 4 L8 h (gC m 0) (F 3) H) (fun _ _=>False) ?_ ?_ (fun _ _ hh=>hh.elim)
 .refine BB (fun n F H=>∃i,n+i=m.pts.length/\F 1=.ptr h.length 0 0/\F 13=.sl m.pm 6 (m.pts.map F8)/\F 14=.n m.pts.length/\F 15=.n (i:Nat)/\H[h.length]?=some (qG 2 [DT m])/\ext h H/\(∀b,isB (F 3) b->h.length<b)/\outG 4 L8 h (gP m i) (F 3) H) m.pts.length ⟨0,BA,AO,AO,AO,AO,AZ _ _,(ext.rfl' h).app _,fun b hb=>hb.elim,outG.nil _ _ _ _⟩ ?_
  rintro n F H ⟨i,hi,A,f13,f14,f15,g,j,c,f⟩;refine A7 f14 f15 ?_;refine DX ?_ ?_<;>intro B
  .have a1:gP m (i+1)=gP m i++gPk i m.pts[i] m.pts[i].bins.length:=by
    simp only[gP];rw[jO B]
   have a5:=(hg.full _ (List.getElem_mem B)).2;have a9:=AIG hg.full i;simp only[vQ,CQ,↓reduceIte,jC,enP,UF,eO,KX,jQ,f13,f15,CP B,DL kF bI JB B,AY0,AVU _ _ [.str ⟨#[]⟩,.n 0,.n 0,.str ⟨#[]⟩,.sl .nil 0 [],.sl .nil 0 []] rfl,EI QQ,QE,List.length_map];refine EK 2 (fun d q=>d 1=.ptr h.length 0 0/\d 13=.sl m.pm 6 (m.pts.map F8)/\d 14=.n m.pts.length/\d 15=.n (i:Nat)/\q[h.length]?=some (qG 2 [DT m])/\ext h q/\(∀b,isB (d 3) b->h.length<b)/\outG 4 L8 h (gP m (i+1)) (d 3) q) (fun _ _=>False) ?_ ?_ (fun _ _ hh=>hh.elim)
   .refine BB (fun n d q=>∃k,n+k=m.pts[i].bins.length/\d 1=.ptr h.length 0 0/\d 13=.sl m.pm 6 (m.pts.map F8)/\d 14=.n m.pts.length/\d 15=.n (i:Nat)/\d 4=.n (i:Nat)/\d 21=.sl m.pts[i].bm 4 (m.pts[i].bins.map I7)/\d 22=.n m.pts[i].bins.length/\d 23=.n (k:Nat)/\q[h.length]?=some (qG 2 [DT m])/\ext h q/\(∀b,isB (d 3) b->h.length<b)/\outG 4 L8 h (gP m i++gPk i m.pts[i] k) (d 3) q) m.pts[i].bins.length ⟨0,BA,D7 A,D7 f13,D7 f14,D7 f15,AO,AO,AO,AO,AU g,j.app _,c,by rw[show gPk i m.pts[i] 0=[] from rfl,List.append_nil];exact f.app _⟩ ?_
    clear A f13 f14 f15 g j c f;rintro n' F H ⟨k,hk,A,f13,f14,f15,P,f21,f22,f23,g,j,c,f⟩;refine A7 f22 f23 ?_;refine DX ?_ ?_<;>intro I
    .have M:kindOf m.pts[i] k=(m.pts[i].bins[k]).kind:=by unfold kindOf;rw[jO I]
     have a6:=AAO i m.pts[i] k;have O:=f.app [qG 4 [I7 m.pts[i].bins[k]]];have L:ext h (H++[qG 4 [I7 m.pts[i].bins[k]]]):=j.app _;simp only[vQ,CQ,↓reduceIte,jC,enP,ZL,X5,jQ,f21,f23,CP I,DL sC dX MM I,al79,st79 _ _ [.str ⟨#[]⟩,.n 0,.sl .nil 0 [],.sl .nil 0 []] rfl,EI ag3,VD];cases hz:(m.pts[i].bins[k].kind==0)
     .have E:gPk i m.pts[i] (k+1)=gPk i m.pts[i] k:=by
       simp only[gPk];rw[M,hz];simp
      refine A7 f23 (C9 k) ?_;refine⟨n'-1,U,k+1,U,A,f13,f14,f15,P,f21,f22,rfl,AU g,L,c,?_⟩;rw[E];exact O
     .have E:gP m i++gPk i m.pts[i] (k+1)=(gP m i++gPk i m.pts[i] k)++[mkP i k]:=by
       simp only[gPk];rw[M,hz,if_pos rfl,List.append_assoc]
      obtain⟨v',q,ha,K,J,C,hle,Z⟩:=O.append AZL uF AZG A5D U (by rw[List.length_append];omega) L (mkP i k);refine EG P AI7 @A5R @A5Q ?_;rw[show [AV.bool false,AV.int .i64 ((i:Nat):Int),AV.sl .full 1 [[.n ((k:Nat):Int)]],AV.int .i64 ((k:Nat):Int)]=L8 (mkP i k) from rfl];simp only[vQ,CQ,↓reduceIte,jC,enP,A8A _ _ (show(L8 (mkP i k)).all AV.frozen=true from rfl)];refine MF (v:=v') (h:=q) ha ?_;refine A7 f23 (C9 k) ?_;refine⟨n'-1,U,k+1,U,A,f13,f14,f15,P,f21,f22,rfl,J _ _ (AU g) (fun e=>by have:=c _ e;omega),C,fun b a0=>?_,?_⟩
      .have h1:=Z b a0;have h2:=AX g;rw[h1];simp;omega
      .rw[E];exact K
    .have a3:k=m.pts[i].bins.length:=U
     refine AB ?_;refine⟨A,f13,f14,f15,g,j,c,?_⟩;rw[a1,<-a3];exact f
   .rintro d q ⟨g1,T,V,X,Y,C,N,K⟩
    refine A7 X (C9 i) ?_;exact⟨n-1,U,i+1,U,g1,T,V,rfl,Y,C,N,K⟩
  .have a2:i=m.pts.length:=U
   subst a2;refine AB ?_;exact⟨A,g,j,c,f⟩
 .rintro F H ⟨A,g,j,c,f⟩
  have f:outG 4 L8 h (goals m) (F 3) H:=by unfold goals;rw[hc];exact f
  refine LC A (cV g) hc ?_;refine BB (fun n F H=>F 44=.n 0/\F 45=.n 0/\ext h H/\outG 4 L8 h (goals m) (F 3) H) 0 ⟨AO,AO,j,f⟩ ?_;clear A g j c f;rintro n F H ⟨Q,S,j,f⟩;refine DC Q S (show decide ((0:Int)<0)=false from rfl) ?_;exact⟨j,f⟩
end Go.Proofs.YtiihpnicbekebaaGreatDoor.Cov
namespace Go.Proofs.YtiihpnicbekebaaGreatDoor.Bd.Cl
open Sm Bins Cov Xe Wd Bl Ho Go.RowKit
section
variable (G:Nat->AV)
theorem AS2 (m:Mo)(c:m.crs=[])(s:SM)(h:Hp):PCall (En G) 120 [.agg (DT m),.sl s 1 []] h (.bool true):=by
 refine ACalls.pure0 rfl ?_;refine acT Tryz.func120 4 ?_;simp only[vQ,CQ,U0,↓reduceIte,Nat.reduceEqDiff,Nat.zero_add,Option.getD_some,bNf,enP,ARZ,ARY,NW,bxM,EI sD,ZV,c,List.length_nil,show(((0:Nat):Int) != ((0:Nat):Int))=false from rfl];refine BB (fun n F H=>F 18=.n 0/\F 19=.n 0/\∃x,H=h++x) 0 ⟨AO,AO,_,rfl⟩ ?_;rintro n F H ⟨f18,f19,d⟩;refine DC f18 f19 (show decide ((0:Int)<0)=false from rfl) ?_;exact⟨AC,d⟩
theorem AZ5 (e:GOk G)(m:Mo)(d:m.crs=[])(f:MoOk m)(v:Cvr)(g:CvOk v)(c:v.crs=[])(h:Hp):PCall (En G) 55 [.agg (DT m),.agg (Cov.encV v)] h (.bool (RH m v)) :=
 AXO G e m v f g (fun _ h=>by rw[c,d];exact AS2 G m d v.cm h) h
theorem A3L (e:GOk G)(p:Pr)(j:PrS p)(i:Sm51 p)(m:Mo)(f:m.crs=[])(d:MoOk m)(v:Cvr)(g:CvOk v)(c:v.crs=[])(most:Int)(h:Hp):PCall (En G) 17 [.agg (CW p),.agg (DT m),.agg (Cov.encV v),.n most] h (ANN sdP FO p m v most) :=
 AY5 G e p j i m d v most (AZ5 G e m f d v g c) (ASM G m v (AZ5 G e m f d v g c) (Cov.goals_nil G m f d)) h
end
end Go.Proofs.YtiihpnicbekebaaGreatDoor.Bd.Cl
namespace Go.Proofs.YtiihpnicbekebaaGreatDoor.Ho
open Sm Bins Cov Go.RowKit
theorem cl4:Tryz.prog.cellsOf 4=1:=BC
theorem A8S:Tryz.prog.cellsOf 34=3:=BC
def A3O (x:Hl)(b:Nat):Prop:=okL okI x.bins b
theorem A8Q:Rd Tryz.prog 34 FM A3O:=by
 intro n
 match n with
 | 0=>exact RdAt.zero
 | 1=>exact gZ Tryz.underlying34
 | n+2 =>
   refine RdAt.map (fun x:Bool×Int×Is×Unit=>(⟨x.1,x.2.1,x.2.2.1.m,x.2.2.1.l⟩:Hl))
    (MX Tryz.underlying34 (FQ rfl cl4 (fun _=>rfl) (AKN Tryz.underlying4 _) (FQ rfl cl3 (fun _=>rfl) (rdI _) (FQ rfl AYH pW (A1A _) Q9)))) (fun x=>rfl) ?_
   rintro⟨a,b,c,_⟩ N ⟨_,E,g,h,F,B,i,j,e,C,q,A,f,d,_⟩;exact d.mono U
theorem A6T {x:Hl}{b:Nat}(h:A3O x b)(c:b<=1048576):x.bins.length<=1048576:=Nat.le_trans (okL.length h) c
end Go.Proofs.YtiihpnicbekebaaGreatDoor.Ho
namespace Go.Proofs.YtiihpnicbekebaaGreatDoor.Cov
open Sm Bins Bd Go.RowKit
theorem A70:Tryz.prog.cellsOf 4=1:=BC
theorem A74:Tryz.prog.cellsOf 22=1:=BC
theorem A73:Tryz.prog.cellsOf 24=1:=BC
theorem A8U:Tryz.prog.cellsOf 27=5:=BC
theorem A5B:Tryz.prog.cellsOf 120=1:=BC
theorem A49:Tryz.prog.cellsOf 140=2:=BC
theorem A5A:Tryz.prog.cellsOf 131=4:=BC
theorem A47:Tryz.prog.cellsOf 240=4:=BC
def AWN (v:Vr)(b:Nat):Prop:=v.name.size<=b
theorem A7G:Rd jA 131 Bd.encV AWN:=by
 intro n
 cases n with
 | zero=>exact RdAt.zero
 | succ n =>
   refine RdAt.map (fun x:ByteArray×Int×Int×Int×Unit=>(⟨x.1,x.2.1,x.2.2.1,x.2.2.2.1⟩:Vr)) (MX Tryz.underlying131 (FQ rfl cl9 (fun _=>rfl) (rdStr n) (FQ rfl cl3 (fun _=>rfl) (rdI n) (FQ rfl cl3 (fun _=>rfl) (rdI n) (FQ rfl cl3 (fun _=>rfl) (rdI n) Q9))))) (fun _=>rfl) ?_;rintro⟨a,b,c,d,_⟩ N ⟨_,h,f,g,i,e,_⟩;unfold okS at e;show a.size<=N;simp only at e;omega
theorem A7F:Rd jA 240 I9 (fun _ _=>True):=by
 intro n
 cases n with
 | zero=>exact RdAt.zero
 | succ n=>exact RdAt.map (fun x:Int×Int×Int×Bool×Unit=>(⟨x.1,x.2.1,x.2.2.1,x.2.2.2.1⟩:Wg)) (MX Tryz.underlying240 (FQ rfl cl3 (fun _=>rfl) (rdI n) (FQ rfl cl3 (fun _=>rfl) (rdI n) (FQ rfl cl3 (fun _=>rfl) (rdI n) (FQ rfl A70 (fun _=>rfl) (AKN Tryz.underlying4 n) Q9))))) (fun _=>rfl) (fun _ _ _=>trivial)
def AWQ (d:Ds)(b:Nat):Prop:=d.ws.length<=b
theorem A7I:Rd jA 140 IY AWQ:=by
 intro n
 match n with
 | 0=>exact RdAt.zero
 | 1=>exact gZ Tryz.underlying140
 | n+2 =>
   have c:RdAt jA (n+1) 120 (fun x:SM×List Wg=>[.sl x.1 4 (x.2.map I9)]) (fun x b=>∃d,d+1<=b/\okL (fun _ _=>True) x.2 d):=MJ Tryz.underlying120 A47 DU iN (A7F n);refine RdAt.map (fun x:Int×(SM×List Wg)×Unit=>(⟨x.1,x.2.1.1,x.2.1.2⟩:Ds)) (MX Tryz.underlying140 (FQ rfl cl3 (fun _=>rfl) (rdI _) (FQ rfl A5B (fun _=>rfl) c Q9))) (fun _=>rfl) ?_;rintro⟨a,b,_⟩ N ⟨_,A,g,h,B,q,i,j,f,e,_⟩;have:=(RG e).length;show b.2.length<=N;simp only at this;omega
def ARI (g:Gp)(b:Nat):Prop:=g.l.length<=b
theorem A7H:Rd jA 32 TZ ARI:=by
 intro n
 cases n with
 | zero=>exact RdAt.zero
 | succ n=>exact RdAt.map (fun x:SM×List Int=>(⟨x.1,x.2⟩:Gp)) (MJ Tryz.underlying32 cl3 DU (fun _=>rfl) (rdI n)) (fun _=>rfl) (fun x b h=>(RG h).length)
theorem uS:∀ {l:List Gp} {b:Nat},okL ARI l b->(flG l).length<=b
 | [],b,_=>Nat.zero_le _
 | x::xs,b,⟨e,f,g,_,c,d⟩=>by
   have:=uS d;unfold ARI at c;show((x::xs).flatMap Gp.l).length<=b;rw[List.flatMap_cons,List.length_append];unfold flG at this;omega
def A3N (p:Pr)(b:Nat):Prop:=∃c d e f g,c+d+e+f+g<=b/\okL AWN p.vars c/\okL okE p.hard d/\okL okE p.soft e/\okL AWQ p.dists f/\okL ARI p.groups g
theorem A8P:Rd jA 27 CW A3N:=by
 intro n
 match n with
 | 0=>exact RdAt.zero
 | 1=>exact gZ Tryz.underlying27
 | n+2 =>
   have O:RdAt jA (n+1) 22 (fun x:SM×List Vr=>[.sl x.1 4 (x.2.map Bd.encV)]) (fun x b=>∃f,f+1<=b/\okL AWN x.2 f):=MJ Tryz.underlying22 A5A DU Bd.encV_len (A7G n);have g:RdAt jA (n+1) 23 (fun x:SM×List Ex=>[.sl x.1 4 (x.2.map AQ)]) (fun x b=>∃f,f+1<=b/\okL okE x.2 f):=MJ Tryz.underlying23 A2F DU EC (rdE n);have P:RdAt jA (n+1) 24 (fun x:SM×List Ds=>[.sl x.1 2 (x.2.map IY)]) (fun x b=>∃f,f+1<=b/\okL AWQ x.2 f):=MJ Tryz.underlying24 A49 DU RI (A7I n);have Q:RdAt jA (n+1) 25 (fun x:SM×List Gp=>[.sl x.1 1 (x.2.map TZ)]) (fun x b=>∃f,f+1<=b/\okL ARI x.2 f):=MJ Tryz.underlying25 AYH DU (fun _=>rfl) (A7H n)
   refine RdAt.map (fun x:(SM×List Vr)×(SM×List Ex)×(SM×List Ex)×(SM×List Ds)×(SM×List Gp)×Unit=>(⟨x.1.1,x.1.2,x.2.1.1,x.2.1.2,x.2.2.1.1,x.2.2.1.2,x.2.2.2.1.1,x.2.2.2.1.2,x.2.2.2.2.1.1,x.2.2.2.2.1.2⟩:Pr))
    (MX Tryz.underlying27 (FQ rfl A74 (fun _=>rfl) O (FQ rfl A2G (fun _=>rfl) g (FQ rfl A2G (fun _=>rfl) g (FQ rfl A73 (fun _=>rfl) P (FQ rfl A46 (fun _=>rfl) Q Q9)))))) (fun _=>rfl) ?_
   rintro⟨a,b,c,d,e,_⟩ N ⟨_,Y,h,S,Z,C,j,T,J,E,q,V,K,F,A,X,L,H,B,i,M,I,_⟩;exact⟨h,j,q,A,B,U,RG C,RG E,RG F,RG H,RG I⟩
theorem A7K {p:Pr}{b:Nat}(h:A3N p b)(N:b<=1048576):PrS p:=by
 obtain⟨H,I,J,K,L,M,j,q,A,B,C⟩:=h;have O:=j.length;have P:=q.length;have Q:=A.length;have S:=B.length;have T:=C.length;have V:=uS C;refine⟨U,fun v F=>?_,U,fun e f=>?_,U,fun d E=>?_,U,U⟩
 .obtain⟨g,i,c⟩:=j.each v F
  unfold AWN at c;omega
 .rcases List.mem_append.1 f with f|f
  .obtain⟨g,i,c⟩:=q.each e f
   unfold okE at c;omega
  .obtain⟨g,i,c⟩:=A.each e f
   unfold okE at c;omega
 .obtain⟨g,i,c⟩:=B.each d E
  unfold AWQ at c;omega
end Go.Proofs.YtiihpnicbekebaaGreatDoor.Cov
namespace Go.Proofs.YtiihpnicbekebaaGreatDoor.Cov
open Sm Bins Go.RowKit
noncomputable def AR6 (z:Int):Nat->AV:=fun n=>if n=0 then .fptr 1 [[.sl .any 1 (kw.map qencStr)]] 0 0 else if n=1 then .fptr 1 [[.int .i64 z]] 0 0 else .junk
theorem A39 (z:Int):GOk (AR6 z):=⟨⟨.any,rfl⟩,z,rfl⟩
theorem AR8 {H:Type}:(Rows.laid_testbench_lexer_keywords:DataW H)=.slice (kw.map fun s=>.lit (.string s.data.toList)) []:=rfl
theorem AVP {w:World}{g:Nat}{k:IntKind}{z:Int}(h:w.cell? ⟨g,0,none⟩=some (.int k z)):RepF (M0 w) (.fptr 1 [[.int k z]] 0 0) (.pointer (some ⟨g,0,none⟩)):=by
 simp only[World.cell?] at h;split at h
 case h_2=>simp at h
 rename_i f C q B;have e:f[0]?=some (.int k z):=BL h;refine .fptr 1 [[.int k z]] 0 0 g 0 f C q (fun _ _=>.int k z) B ?_ ?_ ?_
 .intro i row c
  cases i with
  | zero =>
    simp at c;subst c;refine⟨rfl,fun j v d=>?_⟩
    cases j with
    | zero=>simp at d;subst d;rfl
    | succ j=>simp at d
  | succ i=>simp at c
 .intro i j A E
  obtain rfl:i=0:=BL A;obtain rfl:j=0:=U;exact e
 .intro i j row v c d
  cases i with
  | zero =>
    simp at c;subst c
    cases j with
    | zero=>simp at d;subst d;exact .int _ _
    | succ j=>simp at d
  | succ i=>simp at c
theorem A6R {W:World}(h:laidMetH jA [("math/bits.deBruijn32tab",Rows.laid_math_bits_deBruijn32tab),("math/bits.deBruijn64tab",Rows.laid_math_bits_deBruijn64tab),("internal/strconv.uint64pow10",Rows.laid_internal_strconv_uint64pow10),("testbench/lexer.keywords",Rows.laid_testbench_lexer_keywords)] W) (hsh:W.ShapedOpen jA) :
  ∃z,∀n,RepF (M0 W) (AR6 z n) (.pointer (some ⟨n,0,none⟩)):=by
 rw[MakeChecks.laidMetH_plain _ _ _ BC] at h;obtain⟨ps,⟨_,_,_,_,_,_,_,_,_,_,⟨_,_,_,_,_,_,_,_,_,_,⟨_,_,_,_,_,_,_,_,_,_,⟨g3,t3,cs3,f3,p3,q3,hg3,ht3,hv3,hd3,_,_⟩,_⟩,_⟩,_⟩,_,_⟩:=h
 have hgk:Tryz.prog.globalNamed "testbench/lexer.keywords" = some 0:=BC
 have htk:(Tryz.prog.globals[0]?).map (·.type)=some 121:=BC;obtain rfl:=Option.some.inj (hgk.symm.trans hg3);obtain rfl:=Option.some.inj (htk.symm.trans ht3);obtain⟨c,h1,h2⟩:=AN9 Tryz.underlying121 Tryz.underlying9 cl9 AR8 hd3;obtain⟨z,hz⟩:=cell_of_shapedOpen_int (P:=jA) (g:=1) (t:=3) (zero := #[.int .i64 0]) hsh (of_decide_eq_true BC) BC rfl BC BC Tryz.underlying3;refine⟨z,fun n=>?_⟩;unfold AR6;split
 .rename_i hn; subst hn
  exact AVO hg3 hv3 h1 h2 rfl
 .split
  .rename_i hn; subst hn
   exact AVP hz
  .exact .junk _
end Go.Proofs.YtiihpnicbekebaaGreatDoor.Cov
namespace Go.Proofs.YtiihpnicbekebaaGreatDoor.Bd.Cl
open Sm Bins Cov Xe Wd Bl Ho Go.RowKit
abbrev gW (i:Int):List AV:=[.bool false,.n 0,.sl .full 1 [[.n i]]]
theorem A6X:sZ fI sdP FO RD UR (hol 2)=.tup [.sl .any 1 [[.sl .any 1 [[.n 2]]]],.n 0]:=by unfold sZ;rw[A2Z.2,A2Z.1];rfl
theorem A6Z:ADE sdP FO RD UR (hol 3)=.tup [.bool true,.n 0]:=by unfold ADE;rw[A6W];rfl
def A2R (v:Cvr):Prop:=ADI RD UR v 9=0/\(oF sdP FO RD UR v 9).1.map (fun g=>(g.cross,g.idx,g.bm,g.bins))=[(false,0,.full,[0]),(false,0,.full,[1]),(false,0,.full,[2])]/\(oF sdP FO RD UR v 9).2.map (fun g=>(g.cross,g.idx,g.bm,g.bins))=[(false,0,.full,[3])]
theorem AFA (L:List Gl):L.map Cov.encH=(L.map (fun g=>(g.cross,g.idx,g.bm,g.bins))).map fun x=>[AV.bool x.1,.n ((x.2.1:Nat):Int),.sl x.2.2.1 1 (x.2.2.2.map Bins.qencI)]:=by rw[List.map_map];rfl
theorem ARN {α β:Type}(f:α->β)(L:List α):Cov.nm (L.map f)=Cov.nm L:=by cases L<;>rfl
theorem A6Y {v:Cvr}(h:A2R v):ANN sdP FO RD UR v 9=.tup [.sl .any 3 [gW 0,gW 1,gW 2],.sl .any 3 [gW 3],.n 0]:=by
 obtain⟨c,d,e⟩:=h;unfold ANN;rw[<-ARN (fun g:Gl=>(g.cross,g.idx,g.bm,g.bins)),<-ARN (fun g:Gl=>(g.cross,g.idx,g.bm,g.bins)) (oF sdP FO RD UR v 9).2,AFA,AFA,d,e,c];rfl
theorem w_m:GH UR=0:=by decide +kernel
theorem A5T (n:Int):JC jA 34 [(2,.sl .full 1 [Bins.qencI n])]=some (.agg (FM (hol n))):=BC
abbrev cvZ:List AV:=[.sl .nil 0 [],.sl .nil 0 [],.n 0,.n 0]
theorem A53 (h:Hp):IG jA h 46=some (.ptr h.length 0 0,h++[qG 4 [cvZ]]):=F9 (row:=cvZ) BC
theorem A51 (h:Hp):IG jA h 94=some (.ptr h.length 0 0,h++[qG 1 [[.sl .nil 0 []]]]):=F9 (row:=[.sl .nil 0 []]) BC
section
variable (G:Nat->AV)
theorem AP2 (q:GOk G)(v:Cvr)(t:Tk)(i:A2R v)(d:∀h,PCall (En G) 17 [.agg (CW RD),.agg (DT UR),.agg (Cov.encV v),.n 9] h (ANN sdP FO RD UR v 9))(F:∀h,PCall (En G) 39 [.agg (DT UR)] h (.tup [.agg (Cov.encV v),.agg (fG t),.n 0]))(h:Hp):PCall (En G) 11 [] h (.bool true):=by
 refine ACalls.pure0 rfl ?_;refine acT Tryz.func11 0 ?_;have A:=YI G q RD yY yZ UR mK (hol 2) DU h;have B:=lN G q RD yY yZ UR mK (hol 3) DU h;rw[A6X] at A;rw[A6Z] at B;refine AB ?_;refine(ZA G h).uu ?_;refine(aS G h).use ?_;refine A7 @bsI A5T ?_;refine A.uu ?_;refine(ZA G h).uu ?_;refine(aS G h).use ?_;refine A7 @bsI A5T ?_;refine B.uu ?_;refine(aS G h).uu ?_;refine(F h).use ?_;have e:=AU (x:=qG 1 [[.sl .nil 0 []]]) (AZ h (qG 4 [cvZ]));have g:=AZ (h++[qG 4 [cvZ]]) (qG 1 [[.sl .nil 0 []]]);have C:Sm.ext h (h++[qG 4 [cvZ]]++[qG 1 [[.sl .nil 0 []]]]):=((ext.rfl' h).app _).app _;have E:(h++[qG 4 [cvZ]]).length=h.length+1:=BA;refine A7 @A53 @A51 ?_
 rw[E] at g|-
 generalize h++[qG 4 [cvZ]]++[qG 1 [[.sl .nil 0 []]]]=H at e g C|-
 have s5:D8 jA H 46 (.ptr h.length 0 0) (.agg (Cov.encV v))=some (H.set h.length (qG 4 [Cov.encV v])):=by
  rw[JU (cs:=Cov.encV v) rfl AQD e (jF 4)];rfl
 have f:(H.set h.length (qG 4 [Cov.encV v]))[h.length+1]?=some (qG 1 [[.sl .nil 0 []]]):=by rw[zW U];exact g
 have s6:D8 jA (H.set h.length (qG 4 [Cov.encV v])) 94 (.ptr (h.length+1) 0 0) (.agg (fG t))=some ((H.set h.length (qG 4 [Cov.encV v])).set (h.length+1) (qG 1 [fG t])):=by
  rw[JU (cs:=fG t) rfl AQC f (jF 1)];rfl
 have j:((H.set h.length (qG 4 [Cov.encV v])).set (h.length+1) (qG 1 [fG t]))[h.length]?=some (qG 4 [Cov.encV v]):=by rw[zW U];exact CJ e
 have c:=(C.set (jF h.length) (qG 4 [Cov.encV v])).set (b:=h.length+1) U (qG 1 [fG t]);refine A7 s5 s6 ?_
 generalize (H.set h.length (qG 4 [Cov.encV v])).set (h.length+1) (qG 1 [fG t])=H2 at j c|-
 have d:=d H2;rw[A6Y i] at d;refine DR BC ?_;refine AB ?_;refine⟨_,ZA G H2,_,aS G H2,?_⟩;refine AY (Cov.ldV j) ?_;refine⟨_,d,?_⟩;have X:((0:Int) != 0)=false:=rfl;have Y:(((1:Nat):Int) != 1)=false:=rfl;have Z:(((3:Nat):Int) != 3)=false:=rfl;have V:(((1:Nat):Int)==1)=true:=rfl;have I:JD 1 H2 (.sl .any 1 [[.sl .any 1 [[.n 2]]]]) (.n 0)=some (.fptr 1 [[.sl .any 1 [[.n 2]]]] 0 0):=BC;have O:BO jA H2 32 (.fptr 1 [[.sl .any 1 [[.n 2]]]] 0 0)=some (.sl .any 1 [[.n 2]]):=BC;have J:JD 1 H2 (.sl .any 1 [[.n 2]]) (.n 0)=some (.fptr 1 [[.n 2]] 0 0):=BC;have P:BO jA H2 3 (.fptr 1 [[.n 2]] 0 0)=some (.n 2):=BC;have K:JD 3 H2 (.sl .any 3 [gW 0,gW 1,gW 2]) (.n 1)=some (.fptr 3 [gW 0,gW 1,gW 2] 1 0):=BC;have lc:BO jA H2 32 (.fptr 3 [gW 0,gW 1,gW 2] 1 2)=some (.sl .full 1 [[.n 1]]):=BC;have L:JD 1 H2 (.sl .full 1 [[.n 1]]) (.n 0)=some (.fptr 1 [[.n 1]] 0 0):=BC;have Q:BO jA H2 3 (.fptr 1 [[.n 1]] 0 0)=some (.n 1):=BC;have M:JD 3 H2 (.sl .any 3 [gW 3]) (.n 0)=some (.fptr 3 [gW 3] 0 0):=BC;have S:BO jA H2 32 (.fptr 3 [gW 3] 0 2)=some (.sl .full 1 [[.n 3]]):=BC;have N:JD 1 H2 (.sl .full 1 [[.n 3]]) (.n 0)=some (.fptr 1 [[.n 3]] 0 0):=BC;have T:BO jA H2 3 (.fptr 1 [[.n 3]] 0 0)=some (.n 3):=BC;have q2:((2:Int)==2)=true:=rfl;have q1:((1:Int)==1)=true:=rfl;have q3:((3:Int)==3)=true:=rfl;simp only[vQ,List.getElem?_cons_zero,List.getElem?_cons_succ,KQ,aD,EP,UL,CQ,PO,VX,↓reduceIte,Nat.reduceEqDiff,Nat.reduceAdd,Nat.zero_add,Option.getD_some,bNf,enP,oR,ARZ,LJ,YT,VA,A4B,ARX,X,Y,Z,V,I,O,J,P,K,lc,L,Q,M,S,N,T,q1,q2,q3,List.length_cons,List.length_nil];exact⟨AC,c⟩
end
section
variable (G:Nat->AV)
theorem A2S (F:GOk G)(m:Mo)(J:MoOk m)(j:GH m=0)(h:Hp):PCall (En G) 39 [.agg (DT m)] h (.tup [.agg (Cov.encV (cvS (zS m))),.agg (fG ⟨Cov.nm (zLs m),zLs m⟩),.n 0]):=by
 have K:PCall (En G) 39 [.agg (DT m)] h (.tup [.agg (cvW (zS m)),.agg [fzG 1 (fun _:Pt=>MZ) m.pts],.n 0]):=by
  refine ACalls.pure 5 (APR G F m J h) ?_;rintro v H ⟨I,⟨a,_⟩|⟨_,M,O,e,d,N,rfl,E⟩⟩
  .exact absurd j a
  .refine⟨I,?_⟩
   have f:=A19 (zS m) E.nc.np E.nc.nc h.length 0 (jF _);have i:=LP A1W E.o3 h.length 1 (jF _);show AV.tup [FH h.length H 4 (.agg (cvR M (zS m).P e (zS m).C (zS m).sam (zS m).ill)),.agg [FH h.length H 3 N],.n 0]=_;rw[f,i]
 refine K.res (CvR.tup (CvRL.cons (A16 (zS m)) (CvRL.cons (CvR.agg (CvRL.cons ?_ CvRL.nil)) (CvRL.cons (CvR.refl _) CvRL.nil))));have q:CvR (fzG 1 (fun _:Pt=>MZ) m.pts) (.sl (Cov.nm m.pts) 1 (m.pts.map fun _=>MZ)):=WJ;have A:=CvR.sl (AWW (s:=Cov.nm m.pts) m.pts);have B:Cov.nm (zLs m)=Cov.nm m.pts:=by unfold zLs;cases m.pts<;>rfl
 intro g c L;have:=A g c (q g c L);rw[B];exact this
theorem gA (c:GOk G)(h:Hp):PCall (En G) 11 [] h (.bool true) :=
 AP2 G c (cvS (zS UR)) ⟨Cov.nm (zLs UR),zLs UR⟩ (by unfold A2R;decide +kernel) (A3L G c RD yY yZ UR rfl mK _ ⟨by decide +kernel,by decide +kernel,by decide +kernel,by decide +kernel⟩ (by decide +kernel) 9) (A2S G c UR mK w_m) h
end
theorem AQ2 (s:Bw)(ins:Ex->List Rng->Ex)(p:Pr)(m:Mo)(x:Hl):(bK s ins p m x).length<=8:=by
 unfold bK;by_cases h:NK s ins p m x=0
 .rw[if_pos h]
  cases d:Y7 s ins p m x with
  | none=>exact qF _
  | some l =>
    have c:=(ZC d).1
    have e:OA m x=true:=by
     cases q:OA m x
     .rw[kS (.inr q)] at h;cases h
     .rfl
    show l.length<=8;rw[c];unfold OD;rw[List.length_map];exact(AI0 e).1
 .rw[if_neg h];exact qF _
theorem AWD {s:Bw}{ins:Ex->List Rng->Ex}{p:Pr}{m:Mo}{x:Hl}(g:JS p=0):∀a∈bK s ins p m x,AOk p a/\WF p (QM p) a=true:=by
 intro a c;unfold bK at c;by_cases h:NK s ins p m x=0
 .rw[if_pos h] at c
  cases d:Y7 s ins p m x with
  | none=>rw[d] at c;cases c
  | some l =>
    rw[d] at c;have c:a∈l:=c;obtain⟨i,f,rfl⟩:=List.getElem_of_mem c;obtain⟨j,e⟩:=ZC d;have:=AKC _ _ _ (AAR (PV.of g)) (e i U f);refine⟨this.1,?_⟩;have q:=this.2
    unfold WF at q|-
    rw[List.all_append,Bool.and_eq_true] at q;exact q.1
 .rw[if_neg h] at c;cases c
theorem AQ1 {s:Bw}{ins:Ex->List Rng->Ex}{p:Pr}{m:Mo}{x:Hl}(h:bK s ins p m x≠[]):JS p=0:=by
 apply Classical.byContradiction;intro q;unfold bK at h;rw[kS (.inl q),if_neg DU] at h;exact h rfl
section
variable (G:Nat->AV)
theorem AZZ (B:GOk G)(p:Pr)(j:PrS p)(m:Mo)(C:MoOk m)(x:Hl)(M:x.bins.length<=1048576)(h:Hp):PCall (En G) 3 [.agg (CW p),.agg (DT m),.agg (FM x)] h (.bool true):=by
 refine ACalls.pure0 rfl ?_;refine acT Tryz.func3 6 ?_;have g:=AU (x:=qG 3 [FM x]) (AU (x:=qG 2 [DT m]) (AZ h (qG 5 [CW p])));have f:=AU (x:=qG 3 [FM x]) (AZ (h++[qG 5 [CW p]]) (qG 2 [DT m]));have A:=AZ (h++[qG 5 [CW p]]++[qG 2 [DT m]]) (qG 3 [FM x]);have N:Sm.ext h (h++[qG 5 [CW p]]++[qG 2 [DT m]]++[qG 3 [FM x]]):=(((ext.rfl' h).app _).app _).app _;refine DC @PZ @bxM @bxH ?_
 generalize h++[qG 5 [CW p]]++[qG 2 [DT m]]++[qG 3 [FM x]]=H at g f A N|-
 have tt:∀ {b:Bool},b=true->AV.bool b=AV.bool true:=fun q=>by rw[q]
 refine AY (TR g) ?_;refine(AXP G p j 10 H).use ?_;rintro r ⟨b,rfl,X⟩;cases b
 .refine AB ?_
  refine(gA G B H).uu ?_;exact⟨AC,N⟩
 have K:=(X rfl).sm U;refine AY (ldM f) ?_;refine(AN5 G m C H).use fun b=>?_
 cases b
 .refine AB ?_
  refine(gA G B H).uu ?_;exact⟨AC,N⟩
 refine DC (TR g) (ldM f) (ldH A) ?_;refine(YI G B p j K m C x M H).use ?_;unfold sZ;refine DC (TR g) (ldM f) (ldH A) ?_;refine(xT G p j K m C x M H).use ?_;unfold sZ;refine DC (TR g) (ldM f) (ldH A) ?_;refine(lN G B p j K m C x M H).use ?_;unfold ADE;refine DC (TR g) (ldM f) (ldH A) ?_;refine(AJU G p j K m C x M H).use ?_;unfold ADE;obtain⟨T,Y⟩:=A1B p m x;rw[T,Y];have J:=AWD (s:=sdP) (ins:=FO) (p:=p) (m:=m) (x:=x);have I:=AQ1 (s:=sdP) (ins:=FO) (p:=p) (m:=m) (x:=x);have O:=AQ2 sdP FO p m x
 generalize bK sdP FO p m x=L at J I O|-
 generalize NK sdP FO p m x=c;have nb:∀b:Bool,IQ jA 4 .neq (.bool b) (.bool b)=some (.bool false):=fun b=>by cases b<;>kernel_rfl
 refine EG (show((((L.length:Nat):Int)) != (((L.length:Nat):Int)))=false by simp) (BA:(c != c)=false) nb (show((if c=11 then (0:Int) else c) != (if c=11 then 0 else c))=false by simp) ?_;refine BB (fun n F e=>∃i,n+i=L.length/\F 7=.sl (Cov.nm L) 1 (L.map fI)/\F 9=.sl (Cov.nm L) 1 (L.map VJ)/\F 15=.n (i:Nat)/\e=H) L.length ⟨0,BA,AO,AO,AO,rfl⟩ ?_;rintro n F e ⟨i,hi,P,Q,f15,rfl⟩;refine A7 P f15 ?_;refine BH ?_ ?_<;>intro V
 .have d:i<L.length:=BL V
  have E:=List.getElem_mem d;have S:=(J (I (fun q=>by rw[q] at d;cases d)) _ E).1.len;have Z:=j.vars;have la:BO jA e 32 (.fptr 1 (L.map fI) i 0)=some (.sl .any 1 (L[i].map Bins.qencI)):=by rw[BR O4 d];rfl
  have lb:BO jA e 32 (.fptr 1 (L.map VJ) i 0)=some (.sl (Cov.nm L[i]) 1 (L[i].map Bins.qencI)):=by rw[BR O4 d];rfl
  refine AB ?_;refine DR BC ?_;refine V8 P Q f15 d la lb ?_;refine⟨_,AM8 G _ _ L[i] U e,?_⟩;refine A7 f15 (C9 i) ?_;exact⟨n-1,U,i+1,U,AC,AC,AC,AC⟩
 .refine AB ?_
  refine(gA G B e).uu ?_;exact⟨AC,N⟩
end
end Go.Proofs.YtiihpnicbekebaaGreatDoor.Bd.Cl
