/- Part 7 of the proof; no condition. -/
import Derived.Below
import Derived.Test.YtiihpnicbekebaaGreatDoorRows
import Derived.Carry
import Derived.ReadAgain
import Derived.ChangeSame
import Derived.OpenShut
import Derived.WideKeyArgs
import Derived.OrdersIn
import Derived.TacticsIn
import Derived.RangeFuncBox
import Derived.RangeFuncLeaves
import Derived.RangeFuncFrom
import Derived.Shelf.Abstract
import Derived.WalkKit
import Derived.OwnWalkIn
import Derived.TacticsInMore
import Derived.LoopNIn
import Derived.LoopIn
import Derived.Test.YtiihpnicbekebaaGreatDoorProg
import Derived.RangeFuncNested
import Derived.RangeFuncBound
import Derived.RangeFuncCalls
import Derived.RegionIn
import Derived.Maps.AppendAt
import Derived.Test.YtiihpnicbekebaaGreatDoorCards
import Derived.JoinedCond
import Derived.KernelRfl
import Derived.LaidMore
import Derived.Shelf.Vars
import Derived.Test.YtiihpnicbekebaaGreatDoorCL6
set_option linter.unusedVariables false
set_option linter.unusedSimpArgs false
set_option maxRecDepth 8000
set_option maxHeartbeats 16000000
open Go.Proofs.YtiihpnicbekebaaGreatDoor.Sm.bO renaming live→qH
open Bool renaming and_eq_true→jY,false_eq_true→zZ,not_false→jE,or_eq_false_iff→wG,or_false→zK
open Go.Proofs.Tryz renaming prog→jA
open Int renaming toNat_natCast→qI
open List renaming all_eq_true→zJ,any_eq_false→qP,append_assoc→zA,append_nil→jL,cons_append→zG,contains_nil→jU,drop_eq_getElem_cons→zU,drop_zero→zI,getElem?_cons_succ→wR,getElem?_cons_zero→wL,getElem?_eq_getElem→jP,getElem?_map→zB,getElem?_set_ne→zY,getElem_mem→jH,length_append→jX,length_cons→zF,length_eq_zero_iff→wP,length_map→jI,length_nil→zH,length_set→qZ,length_take→jT,length→qJ,map_append→qE,map_congr_left→wB,map_cons→jJ,map_map→qG,map_nil→jM,mem_append→zQ,mem_cons→zM,mem_map→zO,mem_of_getElem?→qC,mem_singleton→wH,nil_append→zX,range→zL,replicate→zD,take_append_drop→wE,take_of_length_le→jK,take_succ_eq_append_getElem→jW
open Nat renaming add_zero→jR,le_of_ble_eq_true→jB,le_refl→jF,reduceAdd→jO,reduceBEq→jV,reduceEqDiff→jC,zero_add→jG,zero_le→qN
open Option renaming getD_none→jQ,getD_some→jD
namespace Go.Proofs.YtiihpnicbekebaaGreatDoor
namespace Bd.Cl
open Sm Bins Cov Xe Wd Bl Ho Go.RowKit
variable {k:Nat} {R:List (List Ex)} {p:Pr} {s:Bw} {vs:List Vr} {a b:Ex} {l:List Ex} {ins:Ex->List cp->Ex} {m:Mo} {x:Hl}
theorem gB {α:Type}{f:α->List AV}{h H:Hp}{ys:List α}{v:AV}(E:LH (ys.map f)=true)(G:bw k f h ys v H)(e:Sm.ext h H)(i:Nat):∃c,(∀F:Fr,F i=v->QO (F,H) i=(upd F i (gn k f ys),c))/\Sm.ext h c/\c.length=H.length/\∀(b:Nat) (y:bO),b<h.length->H[b]?=some y->c[b]?=some y:=by
 rcases G with⟨rfl,rfl⟩|⟨A,o,B,rfl,C⟩
 .refine⟨H,fun F d=>?_,e,rfl,fun _ _ _ q=>q⟩
  rw[fZ (H:=H) (i:=i) (k:=0) (m:=.nil) (xs:=[]) F d]
  have:upd F i (gn k f ([]:List α))=F:=by
   funext j;unfold upd;split
   .rename_i q;rw[q];exact d.symm
   .rfl
  rw[this]
 .refine⟨H.set o .dead,fun F d=>?_,e.set B _,by rw[qZ],fun b y I q=>by rw[List.getElem?_set_ne U];exact q⟩
  have g:=gA (i:=i) (off:=0) (len:=ys.length) C BA (by rw[zI,jK BA];exact E);rw[zI,jK BA] at g;rw[g F d,uh A]
theorem G4 {α:Type}{f:α->Int}{xs ys:List α}{x:α}(h:Bd.cr f xs=0)(c:f x≠0):Bd.cr f (xs++x::ys)=f x:=by
 rw[Bd.ff,if_neg (by rw[h];simp)];show(if f x≠0 then f x else Bd.cr f ys)=f x;rw[if_pos c]
theorem Fj {α:Type}{f:α->Int}{xs:List α}{x:α}(h:Bd.cr f xs=0)(c:f x=0):Bd.cr f (xs++[x])=0:=by
 rw[Bd.ff,if_neg (by rw[h];simp)];show(if f x≠0 then f x else Bd.cr f [])=0;rw[if_neg (by rw[c];simp)];rfl
theorem yq {α:Type}{f:α->Int}{xs ys:List α}(h:Bd.cr f xs=0)(c:Bd.cr f ys=0):Bd.cr f (xs++ys)=0:=by
 rw[Bd.ff,if_neg (by rw[h];simp),c]
def RF (vs:List Vr)(R:List (List Ex)):Int:=Bd.cr (fc vs) R.flatten
def OY (s:Bw)(vs:List Vr)(R:List (List Ex)):List (List Ex):=R.map fun r=>r.map (EW s vs)
def pd (s:Bw)(vs:List Vr)(R:List (List Ex)):AV:=.tup [if RF vs R=0 then .sl (Cov.nm (OY s vs R)) 1 ((OY s vs R).map QC) else .sl .nil 0 [],.n (RF vs R)]
def su (s:Bw)(vs:List Vr)(R:List (List Ex)):AV:=.tup [if RF vs R=0 then gn 1 fJ (OY s vs R) else .sl .nil 0 [],.n (RF vs R)]
theorem Mc (L:List (List Ex)):cz (gn 1 fJ L) (.sl (Cov.nm L) 1 (L.map QC)):=by
 cases L with
 | nil=>exact cz.sl (Cv.nil 0 1)
 | cons a L=>exact cz.sl (Cv.map fun x _=>AI x)
theorem AXO (s:Bw)(vs:List Vr)(R:List (List Ex)):cz (su s vs R) (pd s vs R):=by
 unfold su pd;split
 .exact cz.tup (cq.cons (Mc _) (cq.cons (cz.refl _) cq.nil))
 .exact cz.refl _
theorem Xh {i:Nat}(e:i<R.length)(hk:k<R[i].length):∃ys,R.flatten=((R.take i).flatten++R[i].take k)++R[i][k]::ys:=by
 refine⟨R[i].drop (k+1)++(R.drop (i+1)).flatten,?_⟩;have c:R=R.take i++R[i]::R.drop (i+1):=by simp_all
 have d:∀l:List Ex,R[i]++l=R[i].take k++R[i][k]::(R[i].drop (k+1)++l):=fun l=>by
  have:R[i].take k++R[i].drop k=R[i]:=wE k R[i];rw[zU hk] at this
  calc R[i]++l=(R[i].take k++R[i][k]::R[i].drop (k+1))++l:=by rw[this]
   _=_:=by rw[zA];rfl
 conv=>lhs;rw[c,List.flatten_append,List.flatten_cons,d]
 rw[zA]
section
variable (G:Nat->AV)
theorem RA (hG:fm G)(p:Pr)(hs:fp p)(hv:JY p=0)(s:SM)(R:List (List Ex))(hR:R.length<=1048576)(hl:∀r∈R,r.length<=1048576)(he:∀r∈R,∀e∈r,c9 e=0)(h:Hp):a_ (En G) 44 [.agg (CW p),.sl s 1 (R.map QC)] h (pd c6 p.vars R):=by
 refine a_.res ?_ (AXO c6 p.vars R);refine ACalls.pure (R:=fun v H=>Sm.ext h H/\FK h.length H 3 v=su c6 p.vars R) 3 ?_ (fun v H ⟨a,b⟩=>⟨a,b⟩);refine II (H:=hint [] [(43,[42])]) (ji G) Tryz.func44 rfl (by kernel_rfl) (by kernel_rfl) (jB (by kernel_rfl)) ?_;show dh _ _ _ _ _ (MW _ [.tmp 4,.tmp 5] _);have gp:=A8 h (qH 5 [CW p]);have Z:=Sm.ext.r1 h (qH 5 [CW p]);simp only[vQ,jU,jV,CP,XE,V8,↓reduceIte,jC,b_,WG,zZ,NR,QE,yW,cJ]
 generalize h++[qH 5 [CW p]]=H0 at gp Z|-
 have a7:=AY gp;simp only[x6,x7,cJ,jI];refine EG 0 (fun F H=>∃v,F 6=v/\F 7=.n (RF p.vars R)/\Sm.ext H0 H/\(RF p.vars R=0->bw 1 fJ H0 (OY c6 p.vars R) v H)) (fun _ _=>False) ?_ ?_ (fun _ _ q=>q.elim)
 .refine BB (fun n F H=>∃i v,n+i=R.length/\F 2=.ptr h.length 0 0/\F 6=v/\F 7=.n 0/\F 15=.sl s 1 (R.map QC)/\F 16=.n (R.length:Nat)/\F 17=.n (i:Nat)/\Sm.ext H0 H/\bw 1 fJ H0 (OY c6 p.vars (R.take i)) v H/\Bd.cr (fc p.vars) (R.take i).flatten=0) R.length
   ⟨0,.sl .nil 0 [],BA,AL,AL,AL,AL,AL,AL,ext.rfl' _,bw.nil _ _ _ _,rfl⟩ ?_
  rintro n F H ⟨i,v,hi,Y,O,J,f15,f16,f17,f,T,L⟩;refine AZ f16 f17 ?_;refine DV ?_ ?_<;>intro j
  .have S:=jH j
   have a8:=hl _ S;have lr:BR jA H 23 (.fptr 1 (R.map QC) i 0)=some (.sl (Cov.nm R[i]) 4 (R[i].map AQ)):=by rw[BK MQ j];rfl
   refine N8 f15 f17 j lr ?_
   refine BB (fun n2 C M=>∃k u,n2+k=R[i].length/\C 2=.ptr h.length 0 0/\C 6=v/\C 7=.n 0/\C 15=.sl s 1 (R.map QC)/\C 16=.n (R.length:Nat)/\C 17=.n (i:Nat)/\C 10=u/\C 21=.sl (Cov.nm R[i]) 4 (R[i].map AQ)/\C 22=.n (R[i].length:Nat)/\C 23=.n (k:Nat)/\Sm.ext H M/\bw 4 AQ H ((R[i].map (EW c6 p.vars)).take k) u M/\Bd.cr (fc p.vars) (R[i].take k)=0) R[i].length
    ⟨0,.sl .nil 0 [],BA,DY Y,DY O,DY J,DY f15,DY f16,DY f17,AL,AL,AL,AL,ext.rfl' _,bw.nil _ _ _ _,rfl⟩ ?_
   clear Y O J f15 f16 f17;rintro n2 F M ⟨k,u,hk,Y,O,J,f15,f16,f17,f10,f21,f22,f23,V,c,E⟩;refine AZ f22 f23 ?_;refine DV ?_ ?_<;>intro A
   .have a4:=jH A
    have d:=V.app [qH 4 [AQ R[i][k]]];have ga:=A8 M (qH 4 [AQ R[i][k]]);have c:=c.app [qH 4 [AQ R[i][k]]];simp only[vQ,jU,jV,CP,↓reduceIte,jC,b_,P5,Option.getD_none,zZ,NR,f21,f23,CE A,DL NU G9 EF A,e9,gg]
    generalize M++[qH 4 [AQ R[i][k]]]=H3 at d ga c|-
    generalize M.length=ab at ga|-
    have a0:=DZ (f.trans d) gp;refine DC Y (UW a0) (IL ga) ?_;refine(Ud G hG p hs hv R[i][k] (he _ S _ a4) H3).use ?_;by_cases g:fc p.vars R[i][k]=0
    .rw[uc g]
     have X:=d.app [qH 4 [AQ (EW c6 p.vars R[i][k])]];have go:=A8 H3 (qH 4 [AQ (EW c6 p.vars R[i][k])]);have c:=c.app [qH 4 [AQ (EW c6 p.vars R[i][k])]];refine AZ e9 gg ?_
     generalize H3++[qH 4 [AQ (EW c6 p.vars R[i][k])]]=H4 at X go c|-
     have hit:k<(R[i].map (EW c6 p.vars)).length:=by rw[jI];exact A
     have Q:(R[i].map (EW c6 p.vars))[k]=EW c6 p.vars R[i][k]:=BA;obtain⟨u',H5,ha,I,_,K,_,_⟩:=c.append (P:=jA) NV G9 QF QD U (by rw[jT];omega) X (EW c6 p.vars R[i][k]);rw[<-Q,<-jW hit] at I;refine LJ (show((0:Int) != 0)=false from rfl) f10 (MR go) @Q8 ha f23 (CZ k) ?_;exact⟨n2-1,U,k+1,u',U,AO,AO,AO,AO,AO,AO,AO,AO,AO,AO,K,I,by rw[jW A];exact Fj E g⟩
    .rw[iP rfl g]
     have a1:R4 EQ:=⟨_,_,_,_,_,_,rfl⟩
     have B:RF p.vars R=fc p.vars R[i][k]:=by
      obtain⟨ys,a6⟩:=Xh j A;unfold RF;rw[a6];exact G4 (yq L E) g
     have N:(fc p.vars R[i][k] != 0)=true:=BQ g;refine DC e9 (vS H3 a1) N ?_;exact⟨v,AO,by rw[B],(f.trans d).app _,fun q=>absurd (B▸q) g⟩
   .rw[jK (by rw[jI];omega)] at c
    rw[jK U] at E;obtain⟨H3,g,d,_,a3⟩:=gB (NT _) c V 42;have a5:OY c6 p.vars (R.take (i+1))=OY c6 p.vars (R.take i)++[R[i].map (EW c6 p.vars)]:=by unfold OY;rw[jW j,qE];rfl
    have a9:(OY c6 p.vars (R.take i)).length=i:=by unfold OY;rw[jI,jT];omega
    obtain⟨v',H4,ha,I,_,K,_,_⟩:=(fh T d).append (P:=jA) lK mO oH mF U U (f.trans d) (R[i].map (EW c6 p.vars));have a2:EJ jA true H3 100 100 v (.sl .full 1 [fJ (R[i].map (EW c6 p.vars))])=some (v',H4):=ha;refine N7 O f10 f17 @UJ g @AR a2 (CZ i) ?_;exact⟨n-1,U,i+1,v',U,AO,AO,AO,AO,AO,AO,K,by rw[a5];exact I,by rw[jW j,List.flatten_append];simp only[List.flatten_cons,List.flatten_nil,jL];exact yq L E⟩
  .rw[jK U] at T L
   refine AB ?_;have L:RF p.vars R=0:=L;exact⟨v,AO,by first|exact True.intro|(rw[L];exact J)|rw[L],f,fun _=>T⟩
 rintro F H ⟨v,O,J,f,T⟩;cases N:(RF p.vars R != 0)
 .have g:RF p.vars R=0:=BQ N
  refine DC J N O ?_;refine⟨Z.trans f,?_⟩;unfold su;rw[if_pos g,g];show AV.tup [FK h.length H 2 v,_]=_;rw[KC HC (T g) h.length 0 (by have:=Z.le;omega)];rfl
 .have g:RF p.vars R≠0:=BQ N
  refine AZ J N ?_;refine⟨Z.trans f,?_⟩;unfold su;rw[if_neg g];rfl
def pe (vs:List Vr)(l:List Ex):AV:=.tup [if Bd.cr (fc vs) l=0 then .sl (Cov.nm (l.map (EW de vs))) 4 ((l.map (EW de vs)).map AQ) else .sl .nil 0 [],.n (Bd.cr (fc vs) l)]
def sw (vs:List Vr)(l:List Ex):AV:=.tup [if Bd.cr (fc vs) l=0 then gn 4 AQ (l.map (EW de vs)) else .sl .nil 0 [],.n (Bd.cr (fc vs) l)]
theorem AXP (vs:List Vr)(l:List Ex):cz (sw vs l) (pe vs l):=by
 unfold sw pe;split
 .exact cz.tup (cq.cons XC (cq.cons (cz.refl _) cq.nil))
 .exact cz.refl _
theorem SF (p:Pr)(hs:fp p)(hv:JY p=0)(s:SM)(l:List Ex)(hl:l.length<=1048576)(he:∀e∈l,c9 e=0)(h:Hp):a_ (En G) 52 [.agg (CW p),.sl s 4 (l.map AQ)] h (pe p.vars l):=by
 refine a_.res ?_ (AXP p.vars l);refine ACalls.pure (R:=fun v H=>Sm.ext h H/\FK h.length H 3 v=sw p.vars l) 3 ?_ (fun v H ⟨a,b⟩=>⟨a,b⟩);refine II (H:=hint [22] []) (ji G) Tryz.func52 rfl (by kernel_rfl) (by kernel_rfl) (jB (by kernel_rfl)) ?_;show dh _ _ _ _ _ (MW _ [.tmp 4,.tmp 5] _);have T:=A8 h (qH 5 [CW p]);have I:=Sm.ext.r1 h (qH 5 [CW p]);refine A7 @QE ?_
 generalize h++[qH 5 [CW p]]=H0 at T I|-
 refine EG 0 (fun F H=>∃v,F 6=v/\Bd.cr (fc p.vars) l=0/\Sm.ext H0 H/\bw 4 AQ H0 (l.map (EW de p.vars)) v H) (fun F H=>F 4=.sl .nil 0 []/\F 5=.n (Bd.cr (fc p.vars) l)/\Bd.cr (fc p.vars) l≠0/\Sm.ext H0 H) ?_ ?_ ?_
 .refine BB (fun n F H=>∃i v,n+i=l.length/\F 1=.sl s 4 (l.map AQ)/\F 2=.ptr h.length 0 0/\F 6=v/\F 7=.n (i:Nat)/\Sm.ext H0 H/\bw 4 AQ H0 ((l.map (EW de p.vars)).take i) v H/\Bd.cr (fc p.vars) (l.take i)=0) l.length
   ⟨0,.sl .nil 0 [],BA,AL,AL,AL,AL,ext.rfl' _,bw.nil _ _ _ _,rfl⟩ ?_
  rintro n F H ⟨i,v,hi,Q,X,J,K,c,q,E⟩;refine AZ Q K ?_;refine DV ?_ ?_<;>intro f
  .have O:=jH f
   have L:=DZ c T;refine AB ?_;refine DI BC ?_;simp only[vQ,List.contains_cons,jU,jV,Bool.or_false,XG,KU,kR,OV,↓reduceIte,jC,jO,b_,P5,Q,X,K,UW L,CE f,DL NU G9 EF f];refine⟨_,fun x=>W_ G p hs hv l[i] (he _ O) (H++x),?_⟩;by_cases g:fc p.vars l[i]=0
   .rw[uc g]
    have C:=c.app [qH 4 [AQ (EW de p.vars l[i])]];have S:=A8 H (qH 4 [AQ (EW de p.vars l[i])]);have B:=q.app [qH 4 [AQ (EW de p.vars l[i])]];refine DC @eY e9 gg ?_
    generalize H++[qH 4 [AQ (EW de p.vars l[i])]]=H4 at C S B|-
    have hit:i<(l.map (EW de p.vars)).length:=by rw[jI];exact f
    have j:(l.map (EW de p.vars))[i]=EW de p.vars l[i]:=BA;obtain⟨u',H5,ha,A,_,N,_,_⟩:=B.append (P:=jA) NV G9 QF QD U (by rw[jT];omega) C (EW de p.vars l[i]);rw[<-j,<-jW hit] at A;refine LJ (show((0:Int) != 0)=false from rfl) J (MR S) @Q8 ha K (CZ i) ?_;exact⟨n-1,U,i+1,u',U,AO,AO,AO,AO,N,A,by rw[jW f];exact Fj E g⟩
   .rw[iP rfl g]
    have M:R4 EQ:=⟨_,_,_,_,_,_,rfl⟩
    have d:Bd.cr (fc p.vars) l=fc p.vars l[i]:=by
     have h1:l=l.take i++l[i]::l.drop (i+1):=by simp_all
     conv=>lhs;rw[h1]
     exact G4 E g
    have V:(fc p.vars l[i] != 0)=true:=BQ g;refine EH @eY e9 (vS H M) V ?_;exact⟨AO,by rw[d],by rw[d];exact g,c.app _⟩
  .rw[jK (by rw[jI];omega)] at q
   rw[jK U] at E;refine AB ?_;exact⟨v,AO,E,c,q⟩
 .rintro F H ⟨v,J,g,c,q⟩
  refine A7 J ?_;refine⟨I.trans c,?_⟩;unfold sw;rw[if_pos g,g];show AV.tup [FK h.length H 2 v,_]=_;rw[KC fr q h.length 0 (by have:=I.le;omega)];rfl
 .rintro F H ⟨Y,Z,g,c⟩
  refine AZ Y Z ?_;refine⟨I.trans c,?_⟩;unfold sw;rw[if_neg g];rfl
end
def XV (a:List Int):List AV:=[.sl (Cov.nm a) 1 (a.map Bins.bu)]
theorem C5:jd XV:=fun _ _ _ _=>⟨rfl,rfl⟩
theorem A6 (h:Hp)(m:SM)(xs:List (List AV)):DR jA false h 25 1 [(0,.sl m 1 xs)]=some (.sl .full 1 [[.sl m 1 xs]],h):=BC
theorem kn:Tryz.prog.underlying 25=some (.slice 32):=BC
theorem kp:U5 jA 32=some 1:=BC
theorem kh:L8 jA 32=some 24:=BC
theorem ASL (P:PV p){a:List Int}(d:jg p a):∀s∈MV p.vars a,pn s:=by
 intro s h;obtain⟨i,g,rfl⟩:=List.getElem_of_mem h;have f:=UK d.len;have c:i<p.vars.length:=U;have e:i<a.length:=by rw[d.len];exact c
 rw[cB c e g];have:=d.rng P i c;rw[List.getD_eq_getElem?_getD,jP e] at this;show -9223372036854775808<=a[i]/\a[i]<=9223372036854775807;have q:(some a[i]).getD 0=a[i]:=rfl;rw[q] at this;omega
def xj (p:Pr)(a:List Int):AV:=match jk p.vars p.vars.length a with
 | some c=>.tup [.sl (Cov.nm c) 1 (c.map Bins.bu),.bool true]
 | none=>.tup [.sl .nil 0 [],.bool false]
def tq (p:Pr)(a:List Int):AV:=match jk p.vars p.vars.length a with
 | some c=>.tup [gn 1 Bins.bu c,.bool true]
 | none=>.tup [.sl .nil 0 [],.bool false]
theorem LO (p:Pr)(a:List Int):cz (tq p a) (xj p a):=by
 unfold tq xj;split
 .exact cz.tup (cq.cons XC (cq.cons (cz.refl _) cq.nil))
 .exact cz.refl _
section
variable (G:Nat->AV)
theorem T9 (p:Pr)(N:fp p)(h:Hp):a_ (En G) 116 [.agg (CW p)] h (.sl (Cov.nm (NW p)) 1 ((NW p).map Bins.bu)):=by
 have O:=N.vars;have M:(NW p).length=p.vars.length:=by unfold NW;rw[jI]
 refine JL Cov.nj ?_;refine cn Tryz.func116 2 ?_;have J:=A8 h (qH 5 [CW p]);have A:=Sm.ext.r1 h (qH 5 [CW p]);refine A7 @QE ?_
 generalize h++[qH 5 [CW p]]=H0 at J A|-
 refine BB (fun n F H=>∃i u,n+i=p.vars.length/\F 1=.ptr h.length 0 0/\F 3=u/\F 4=.n (i:Nat)/\Sm.ext H0 H/\bw 1 Bins.bu H0 ((NW p).take i) u H) p.vars.length
  ⟨0,.sl .nil 0 [],BA,AL,AL,AL,ext.rfl' _,bw.nil _ _ _ _⟩ ?_
 rintro n F H ⟨i,u,T,C,E,I,d,q⟩;have e:=DZ d J;refine DC C I (ZL e) ?_;refine DV ?_ ?_<;>intro f
 .have j:i<(NW p).length:=U
  obtain⟨Q,S,K,g,_,B,_,_⟩:=q.append (P:=jA) dJ iz mr nA U (by rw[jT];omega) d p.vars[i].value;have c:(NW p)[i]=p.vars[i].value:=List.getElem_map _;rw[<-c,<-jW j] at g;have L:BR jA H 3 (.fptr 4 (p.vars.map bt) i 3)=some (.n p.vars[i].value):=by rw[BK ct f];rfl
  rw[<-c] at K L;refine U3 C E I (ZL e) f L @q9 K (CZ i) ?_;exact⟨n-1,U,i+1,Q,U,AO,AO,AO,B,g⟩
 .rw[jK U] at q
  refine A7 E ?_;exact⟨A.trans d,q.base A.le⟩
theorem uG (p:Pr)(K:fp p)(P:PV p)(m:SM)(l:List Ex)(X:l.length<=1048576)(S:∀e∈l,wt e<=1048576)(hk:∀e∈l,eh p.vars e=0)(L:SM)(a:List Int)(M:jg p a)(h:Hp):
  a_ (En G) 117 [.agg (CW p),.sl m 4 (l.map AQ),.sl L 1 (a.map Bins.bu)] h (.bool (ZV p l a)):=by
 have Q:=K.vars;have g:=M.len;have O:=UK g;refine ACalls.pure0 rfl ?_;refine cn Tryz.func117 6 ?_;have J:=A8 h (qH 5 [CW p]);have E:=Sm.ext.r1 h (qH 5 [CW p]);refine A7 @QE ?_
 generalize h++[qH 5 [CW p]]=H0 at J E|-
 have T:BR jA H0 27 (.ptr h.length 0 0)=some (.agg (CW p)):=by rw[EK eP ZU J (row:=CW p) rfl (by rw[LD];exact jF 5)];rfl
 refine A7 T ?_;refine(Ks G p K a L g H0).uu ?_
 refine BB (fun n F H=>∃i,n+i=l.length/\F 1=.sl m 4 (l.map AQ)/\F 7=.sl (Cov.nm (MV p.vars a)) 2 ((MV p.vars a).map FY)/\F 8=.n (i:Nat)/\H=H0/\∀e∈l.take i,UB (MV p.vars a) e≠0) l.length
  ⟨0,BA,AL,AL,AL,rfl,BA⟩ ?_
 rintro n F H ⟨i,V,I,N,A,rfl,d⟩;refine AZ I A ?_;refine DV ?_ ?_<;>intro f
 .have c:=jH f
  simp only[vQ,CP,↓reduceIte,jC,b_,P5,I,N,A,CE f,DL NU G9 EF f];refine(AWV G (MV p.vars a) _ l[i] H U (ASL P M) (S _ c)).use ?_;have C:kj (kr (MV p.vars a) l[i])=.tup [.n (UB (MV p.vars a) l[i]:Nat),.n 0]:=by rw[Bj (hk _ c) g];rfl
  rw[C];refine A7 (show((0:Int) != 0)=false from rfl) ?_;refine BL ?_ ?_<;>intro j
  .have j:UB (MV p.vars a) l[i]=0:=BQ j
   refine AB ?_;refine⟨?_,E⟩
   have:ZV p l a=false:=by
    unfold ZV;rw[List.all_eq_false];exact⟨l[i],c,by rw[j];simp⟩
   rw[this]
  .have j:UB (MV p.vars a) l[i]≠0:=BQ j
   refine AZ A (CZ i) ?_;refine⟨n-1,U,i+1,U,AO,AO,AO,AO,fun e q=>?_⟩;rw[jW f] at q;rcases zQ.1 q with B|B
   .exact d e B
   .rw[List.mem_singleton.1 B];exact j
 .rw[jK U] at d
  refine AB ?_;refine⟨?_,E⟩
  have:ZV p l a=true:=by
   unfold ZV;rw[zJ];intro e q;have:=d e q;simpa using this
  rw[this]
theorem Vn (p:Pr)(hs:fp p)(P:PV p)(a:List Int)(ok:jg p a)(m:SM)(h:Hp):a_ (En G) 118 [.agg (CW p),.sl m 1 (a.map Bins.bu)] h (xj p a):=by
 refine a_.res (r:=tq p a) ?_ (LO p a);refine ACalls.pure (R:=fun v H=>Sm.ext h H/\FK h.length H 3 v=tq p a) 3 ?_ (fun v H ⟨a,b⟩=>⟨a,b⟩);unfold tq;generalize hO:jk p.vars p.vars.length a=O;have a7:=hs.vars;refine e7 Tryz.func118 [.tmp 4,.tmp 5] ?_;have ge:=A8 h (qH 5 [CW p]);have Y:=Sm.ext.r1 h (qH 5 [CW p]);refine A7 @QE ?_
 generalize h++[qH 5 [CW p]]=H0 at ge Y|-
 have a0:a.length=p.vars.length:=ok.len;have z1:IntKind.i64.wrap (((a.length:Nat):Int)-1)=((a.length:Nat):Int)-1:=wrap_i64 U U;obtain⟨u0,H2,ha,I,_,X,_,_⟩:=MX (P:=jA) (f:=Bins.bu) (ys:=a) m (bw.nil 1 Bins.bu H0 H0) dJ iz mr nA U NI (ext.rfl' H0);rw[zX] at I;have K:KI jA 32 u0=some (.n (a.length:Nat)):=I.len UF;have a4:h.length<H0.length:=AY ge;refine DC ha @K z1 ?_;refine EG 0 (fun F H=>Sm.ext h H/\O=none) (fun F H=>Sm.ext h H/\∃Z u,O=some Z/\F 4=u/\F 5=.bool true/\bw 1 Bins.bu H0 Z u H) ?_ ?_ ?_
 .refine BB (fun n F H=>∃k c u,n=k/\k<=p.vars.length/\jg p c/\jk p.vars k c=O/\Sm.ext H0 H/\bw 1 Bins.bu H0 c u H/\F 2=.ptr h.length 0 0/\F 6=u/\F 7=.n (((k:Nat):Int)-1)) p.vars.length
   ⟨p.vars.length,a,u0,rfl,jF _,ok,hO,X,I,AL,AL,by refine AB ?_;rw[a0]⟩ ?_
  clear X I ha K;rintro n F H ⟨k,c,u,rfl,a5,g,A,J,I,f2,f6,N⟩;have T:=DZ J ge;have ec:decide (((n:Nat):Int)-1≥0)=decide (1<=n):=by rw[decide_eq_decide];omega
  refine AZ N ec ?_;refine BL ?_ ?_<;>intro hc
  .have h1:1<=n:=BQ hc
   obtain⟨i,rfl⟩:∃i,n=i+1:=⟨n-1,U⟩;have C:i<p.vars.length:=U;have d:i<c.length:=by rw[g.len];exact C
   have ei:((((i+1:Nat):Int))-1)=((i:Nat):Int):=U;rw[ei] at N;unfold jk at A;simp only[jP C] at A;obtain⟨_,w1,w8,_⟩:=VM (P.vr _ (jH C));have lm:BR jA H 3 (.fptr 4 (p.vars.map bt) i 2)=some (.n p.vars[i].mode):=by rw[BK ct C];rfl
   have zi:IntKind.i64.wrap (((i:Nat):Int)-1)=((i:Nat):Int)-1:=wrap_i64 U U;refine aZ f2 N (ZL T) C lm ?_;refine BL ?_ ?_<;>intro L
   .have L:p.vars[i].mode=0:=BQ L
    rw[if_pos L] at A;refine AZ N zi ?_;exact⟨i,U,i,c,u,rfl,U,g,A,J,I,AO,AO,AO⟩
   .have L:¬p.vars[i].mode=0:=BQ L
    rw[if_neg L] at A;obtain⟨q0,q1⟩:=g.rn i C L;obtain⟨r0,r1⟩:=g.rng P i C;rcases I with⟨q,_⟩|⟨a6,o,V,rfl,B⟩
    .rw[q] at d;cases d
    have B:fy H o c:=B
    have M:∀z:Int,c.set i z≠[]:=fun z q=>by
     have:=congrArg List.length q;rw[qZ,List.length_nil] at this;omega
    have zz:IntKind.i64.wrap (c.getD i 0+1)=c.getD i 0+1:=wrap_i64 U U;obtain⟨w,hw⟩:=Int.eq_ofNat_of_zero_le (U:0<=p.vars[i].width);have lw:∀H:Hp,BR jA H 3 (.fptr 4 (p.vars.map bt) i 1)=some (.n (w:Nat)):=fun H=>by rw[BK ct C];show some (AV.int .i64 p.vars[i].width)=_;rw[hw]
    rw[hw,Int.toNat_natCast] at A q1;refine AB ?_;refine DI BC ?_;simp only[vQ,↓reduceIte,jC,jO,Nat.add_zero,Nat.zero_add,b_,cM,kI,J8,WJ,f2,f6,N,B.ix d,B.ld d,zz,ZL T,CE C,lw,wb w U];refine BL ?_ ?_<;>intro Q
    .have Q:c.getD i 0+1<2^w:=BQ Q
     rw[if_pos Q] at A;have a2:=B.st (i:=i) d (c.getD i 0+1);refine LJ f6 N @B.ix d @B.ld zz a2 ?_;exact⟨(Y.trans J).set U _,_,.own o 0 c.length,A.symm,AO,AO,.inr ⟨M _,o,V,by rw[qZ],CO B⟩⟩
    .have Q:¬c.getD i 0+1<2^w:=fun q=>by rw[decide_eq_true q] at Q;cases Q
     rw[if_neg Q] at A;have a3:=B.st (i:=i) d 0;have a1:(0:Int)<2^p.vars[i].width.toNat:=Int.pow_pos DX
     have S:jg p (c.set i 0):=by
      refine⟨by rw[qZ];exact g.len,fun j hj E=>?_,fun j hj E=>?_⟩
      .by_cases e:j=i
       .subst e;exact absurd E L
       .rw[Bl.getD_set_ne (fun q=>e q.symm)];exact g.st j hj E
      .by_cases e:j=i
       .subst e;rw[Bl.e6 d];exact⟨Int.le_refl 0,a1⟩
       .rw[Bl.getD_set_ne (fun q=>e q.symm)];exact g.rn j hj E
     refine WU f6 N @B.ix d a3 zi ?_;exact⟨i,U,i,c.set i 0,.own o 0 c.length,rfl,U,S,A,J.set U _,.inr ⟨M _,o,V,by rw[qZ],CO B⟩,AO,AO,AO⟩
  .have h1:¬1<=n:=fun q=>by rw[decide_eq_true q] at hc;cases hc
   obtain rfl:n=0:=U;have A:none=O:=A;refine AB ?_;exact⟨Y.trans J,A.symm⟩
 .rintro F H ⟨J,rfl⟩
  refine AB ?_;exact⟨J,rfl⟩
 .rintro F H ⟨J,Z,u,rfl,f4,f5,I⟩
  refine AZ f4 f5 ?_;refine⟨J,?_⟩;show AV.tup [FK h.length H 2 u,FK h.length H 2 (.bool true)]=_;rw[KC Cov.nj I h.length 0 (by have:=Y.le;omega)];rfl
theorem tW (p:Pr)(Y:fp p)(P:PV p)(m:SM)(l:List Ex)(hl:l.length<=1048576)(hw:∀e∈l,wt e<=1048576)(hk:∀e∈l,eh p.vars e=0)(a4:lft p (NW p)<=1048576)(h:Hp):
  a_ (En G) 54 [.agg (CW p),.sl m 4 (l.map AQ)] h (.sl (Cov.nm (nC p l (lft p (NW p)) (NW p))) 1 ((nC p l (lft p (NW p)) (NW p)).map XV)):=by
 have a1:=HB P;generalize hR:nC p l (lft p (NW p)) (NW p)=R;refine JL C5 ?_;refine cn Tryz.func54 4 ?_;have ge:=A8 h (qH 5 [CW p]);have Z:=Sm.ext.r1 h (qH 5 [CW p]);refine A7 @QE ?_
 generalize h++[qH 5 [CW p]]=H0 at ge Z|-
 have lp:∀ {H:Hp},Sm.ext H0 H->BR jA H 27 (.ptr h.length 0 0)=some (.agg (CW p)):=fun q=>by rw[EK eP ZU (DZ q ge) (row:=CW p) rfl (by rw[LD];exact jF 5)];rfl
 refine A7 (lp (ext.rfl' H0)) ?_;refine(T9 G p Y H0).uu ?_
 refine BB (fun n F H=>∃done d a v,F 1=.sl m 4 (l.map AQ)/\F 2=.ptr h.length 0 0/\F 5=v/\(d=true->F 6=.sl (Cov.nm a) 1 (a.map Bins.bu))/\F 7=.bool d/\Sm.ext H0 H/\bw 1 XV H0 done v H/\done.length+n<=lft p (NW p)/\(d=true->n=lft p a/\jg p a/\done++nC p l (lft p a) a=R)/\(d=false->done=R)) (lft p (NW p))
  ⟨[],true,NW p,.sl .nil 0 [],AL,AL,AL,by refine AB ?_;first|exact True.intro|exact fun _=>True.intro|exact fun _=>rfl,AL,ext.rfl' _,bw.nil _ _ _ _,BA,fun _=>⟨rfl,a1,hR⟩,fun q=>by cases q⟩ ?_
 rintro n F H ⟨done,d,a,v,L,E,I,j,M,f,B,a3,Q,A⟩
 cases d with
 | false =>
   refine AZ M I ?_;rw[<-A rfl];exact⟨Z.trans f,B.base Z.le⟩
 | true =>
   obtain⟨rfl,i,hS⟩:=Q rfl;have j:=j rfl;have a2:=Hv i;obtain⟨k,S⟩:∃k,lft p a=k+1:=⟨lft p a-1,U⟩;have g:=hS;rw[S] at g;unfold nC at g;refine G7 L E j M (lp f) ?_;refine(uG G p Y P m l hl hw hk _ a i H).uu ?_;refine UQ (fun C K=>∃c J,C 1=.sl m 4 (l.map AQ)/\C 2=.ptr h.length 0 0/\C 5=J/\C 6=.sl (Cov.nm a) 1 (a.map Bins.bu)/\Sm.ext H0 K/\bw 1 XV H0 c J K/\c=done++(if ZV p l a=true then [a] else [])) (fun _ _=>False) (fun N=>?_) (fun N=>?_) ?_ (fun _ _ hh=>hh.elim)
   .obtain⟨J,K,ha,X,_,a0,_,_⟩:=B.append (P:=jA) kn nv kp kh U U f a
    change EJ jA true H 25 25 v (.sl .full 1 [[.sl (Cov.nm a) 1 (a.map Bins.bu)]])=_ at ha;refine EH I j @A6 ha ?_;exact⟨_,J,AO,AO,AO,AO,a0,X,by rw[if_pos N]⟩
   .refine AB ?_
    exact⟨_,v,AO,AO,AO,AO,f,B,by rw[if_neg (by rw[N];decide),jL]⟩
   clear L E I j M f B;rintro F H ⟨c,v,L,E,I,j,f,B,O⟩;refine DC E j (lp f) ?_;refine(Vn G p Y P a i _ H).use ?_
   have T:c.length<=done.length+1:=by
    rw[O,jX];split<;>simp
   unfold xj
   cases V:jk p.vars p.vars.length a with
   | none =>
     rw[V] at g;refine AB ?_;refine⟨0,U,c,false,a,v,AO,AO,AO,(fun q=>by cases q),AO,f,B,U,(fun q=>by cases q),fun _=>?_⟩;rw[O,<-g,jL]
   | some b =>
     rw[V] at g;obtain⟨nb,nl⟩:=qT i V;refine AB ?_;refine⟨lft p b,U,c,true,b,v,AO,AO,AO,(fun _=>AO),AO,f,B,U,fun _=>⟨rfl,nb,?_⟩,fun q=>by cases q⟩;rw[O,<-g,zA,show lft p b=k by omega]
end
def XO {α β:Type}(f:α->Option β):List α->Option (List β)
 | []=>some []
 | x::xs=>match f x with
   | some y=>match XO f xs with
     | some c=>some (y::c)
     | none=>none
   | none=>none
theorem iW {α β:Type}{f:α->Option β}:∀ {xs:List α} {ys:List β} {x:α} {y:β},XO f xs=some ys->f x=some y->XO f (xs++[x])=some (ys++[y])
 | [],ys,x,y,h,e=>by
   cases h;rw[zX];unfold XO;rw[e];rfl
 | a::xs,ys,x,y,h,e=>by
   unfold XO at h
   cases c:f a with
   | none=>rw[c] at h;cases h
   | some b =>
     rw[c] at h
     cases d:XO f xs with
     | none=>rw[d] at h;cases h
     | some i =>
       rw[d] at h;cases h;have g:=iW d e;rw[List.cons_append];unfold XO;rw[c,g];rfl
theorem iY {α β:Type}{f:α->Option β}:∀ {xs:List α} {x:α},x∈xs->f x=none->XO f xs=none
 | [],x,h,_=>by cases h
 | a::xs,x,h,c=>by
   unfold XO;rcases zM.1 h with rfl|h
   .rw[c]
   .cases f a with
    | none=>rfl
    | some b=>rw[iY h c]
theorem pS {α β:Type}{f g:α->Option β}:∀ {xs ys:List α},xs.length=ys.length->(∀(i:Nat) (d:i<xs.length) (h2:i<ys.length),f xs[i]=g ys[i])->XO f xs=XO g ys
 | [],[],_,_=>rfl
 | [],_::_,h,_=>by simp at h
 | _::_,[],h,_=>by simp at h
 | x::xs,y::ys,h,e=>by
   have c:=e 0 BA BA;have j:=pS (xs:=xs) (ys:=ys) (f:=f) (g:=g) (BQ h) fun i d h2=>e (i+1) (BQ d) (BQ h2)
   unfold XO;have c:f x=g y:=c;rw[c,j]
theorem pR {α β:Type}{f:α->Option β}:∀ {xs:List α} {ys:List β},XO f xs=some ys->ys.length=xs.length/\∀(i:Nat) (c:i<xs.length) (h2:i<ys.length),f xs[i]=some ys[i]
 | [],ys,h=>by cases h;exact⟨rfl,fun i c=>by cases c⟩
 | a::xs,ys,h=>by
   unfold XO at h
   cases d:f a with
   | none=>rw[d] at h;cases h
   | some b =>
     rw[d] at h
     cases e:XO f xs with
     | none=>rw[e] at h;cases h
     | some q =>
       rw[e] at h;cases h;obtain⟨g,j⟩:=pR e;refine⟨by simp [g],fun i c h2=>?_⟩
       cases i with
       | zero=>exact d
       | succ i=>exact j i (BQ c) (BQ h2)
def RI (p:Pr):List Ex:=p.hard++TB p
def dW (s:Bw)(ins:Ex->List cp->Ex)(p:Pr)(m:Mo)(x:Hl):Option (List (List Int)):=XO (fun S=>QW p (RI p++S)) (OY s p.vars (fu ins m x))
def NE (s:Bw)(ins:Ex->List cp->Ex)(p:Pr)(m:Mo)(x:Hl):Int :=
 if JY p≠0\/O9 m x=false then 1 else if gz ins m x≠0 then gz ins m x else if RF p.vars (fu ins m x)≠0 then RF p.vars (fu ins m x) else if(dW s ins p m x).isSome then 0 else 11
def mo (s:Bw)(ins:Ex->List cp->Ex)(p:Pr)(m:Mo)(x:Hl):List (List Int):=if NE s ins p m x=0 then (dW s ins p m x).getD [] else []
def nw (f:List Int->List AV)(s:Bw)(ins:Ex->List cp->Ex)(p:Pr)(m:Mo)(x:Hl):AV:=.tup [.sl (Cov.nm (mo s ins p m x)) 1 ((mo s ins p m x).map f),.n (NE s ins p m x)]
theorem GA (vs:List Vr)(e:Ex):OM vs (cg e)=OM vs e:=by
 unfold OM;rw[iU,List.any_map];congr 1;funext x;show OO vs (cg x)=OO vs x;unfold OO;rw[XW,WO]
theorem HO (vs:List Vr)(e:Ex):FX vs (cg e)=FX vs e:=by
 induction e using Ex.induct with|h e ih=>?_
 rw[QR,QR vs e,XW,m7,WO,Y2,qG];congr 1;exact wB fun a c=>ih a c
theorem nI (d:s.Ok)(vs:List Vr)(e:Ex):cg (EW s vs (cg e))=cg (EW s vs e):=by
 induction e using Ex.induct with|h e ih=>?_
 rw[RG,RG s vs e,XW,m7,WO,Y2,qG];have f:(e.args.map (EW s vs ∘ cg)).map cg=(e.args.map (EW s vs)).map cg:=by simp_all
 unfold l8;split
 .rfl
 split
 .have c:cg ((e.args.map (EW s vs ∘ cg)).head?.getD (cE 0))=cg ((e.args.map (EW s vs)).head?.getD (cE 0)):=by
   cases j:e.args with
   | nil=>rfl
   | cons a q=>exact ih a (by rw[j];simp)
  generalize (e.args.map (EW s vs ∘ cg)).head?.getD (cE 0)=x at c|-
  generalize (e.args.map (EW s vs)).head?.getD (cE 0)=y at c|-
  have i:x.op=y.op:=by rw[<-XW x,c,XW]
  have g:x.n=y.n:=by rw[<-m7 x,c,m7]
  unfold Y4;rw[i,g];split
  .rfl
  .exact Ah d d c _ _
 .exact vk f
theorem Lu (h:cg a=cg b):fc vs a=fc vs b:=by
 have c:OM vs a=OM vs b:=by rw[<-GA vs a,h,GA]
 have d:FX vs a=FX vs b:=by rw[<-HO vs a,h,HO]
 have e:c9 (EW c6 vs a)=c9 (EW c6 vs b):=HP (by rw[<-nI oW vs a,h,nI oW]);unfold fc;rw[c,d,e]
theorem ASR {t:Bw}(c:s.Ok)(d:t.Ok)(h:cg a=cg b):cg (EW s vs a)=cg (EW t vs b):=by
 rw[<-nI c vs a,h,nI c,zu c d]
theorem Jd {vs:List Vr}:∀ {a b:List Ex},a.map cg=b.map cg->Bd.cr (fc vs) a=Bd.cr (fc vs) b
 | [],[],_=>rfl
 | [],_::_,h=>by simp at h
 | _::_,[],h=>by simp at h
 | x::a,y::b,h=>by
   simp only[jJ,List.cons.injEq] at h;show(if fc vs x≠0 then fc vs x else Bd.cr (fc vs) a)=(if fc vs y≠0 then fc vs y else Bd.cr (fc vs) b);rw[Lu h.1,Jd h.2]
theorem AXD (l:List Sg)(e:Ex):UB l (cg e)=UB l e:=by
 induction e using Ex.induct with|h e ih=>?_
 rw[bE,bE l e,XW,m7,WO,Y2,QZ,QZ,qG];congr 1;exact wB fun a c=>ih a c
theorem AXT {a:List Int}{k:List Ex}(h:l.map cg=k.map cg):ZV p l a=ZV p k a :=
 Ad (P:=fun e => !(UB (MV p.vars a) e==0)) (fun e=>by rw[AXD]) h
theorem GF {p:Pr}{l k:List Ex}(h:l.map cg=k.map cg):∀(n:Nat) (a:List Int),dN p l n a=dN p k n a
 | 0,_=>rfl
 | n+1,a=>by
   unfold dN;rw[AXT h]
   cases jk p.vars p.vars.length a with
   | none=>rfl
   | some b=>simp only[GF h n b]
theorem ATN {k:List Ex}(h:l.map cg=k.map cg):QW p l=QW p k:=GF h _ _
theorem Lx (p:Pr)(m:Mo)(x:Hl):NE de GI p m x=NE c6 FT p m x/\mo de GI p m x=mo c6 FT p m x:=by
 have e:NE de GI p m x=NE c6 FT p m x/\(NE c6 FT p m x=0->dW de GI p m x=dW c6 FT p m x):=by
  unfold NE;by_cases hv:JY p≠0\/O9 m x=false
  .simp_all
  have h:O9 m x=true:=by simp_all
  have f:=Fk h
  have A:dW de GI p m x=dW c6 FT p m x:=by
   unfold dW OY;refine pS (by rw[jI,jI];exact(nY f).symm) fun i j q=>?_
   rw[jI] at j q;rw[List.getElem_map,List.getElem_map];refine ATN ?_;rw[qE,qE];congr 1
   have d:(fu FT m x)[i].map cg=(fu GI m x)[i].map cg:=by
    have:=zd f i
    rwa [jP q,jP j] at this
   have:∀ {a b:List Ex},a.map cg=b.map cg->(b.map (EW de p.vars)).map cg=(a.map (EW c6 p.vars)).map cg:=by
    intro a
    induction a with
    | nil=>intro b c;cases b with
      | nil=>rfl
      | cons y b=>simp at c
    | cons x a B=>intro b c;cases b with
      | nil=>simp at c
      | cons y b =>
        simp only[jJ,List.cons.injEq] at c;simp only[jJ];rw[ASR zr oW c.1.symm,B c.2]
   exact this d
  have g:RF p.vars (fu GI m x)=RF p.vars (fu FT m x):=(Jd (Fp f)).symm;rw[if_neg hv,if_neg hv,<-Mz,g,A];exact⟨rfl,fun _=>rfl⟩
 refine⟨e.1,?_⟩;unfold mo;rw[e.1];by_cases hz:NE c6 FT p m x=0
 .rw[if_pos hz,if_pos hz,e.2 hz]
 .rw[if_neg hz,if_neg hz]
def Pn (vs:List Vr)(x:Ex):Prop:=O7 x=false/\PK vs x=false
theorem Pn.op {x:Ex}(h:x.op≠2/\x.op≠3/\x.op≠24):Pn vs x:=by
 unfold Pn O7 PK;simp [h.1,h.2.1,h.2.2]
theorem qc {op n:Int}{c:ByteArray}{m:SM}(h:Pn vs (.mk op n c m l))(g:∀a∈l,∀x∈pre a,Pn vs x):∀x∈pre (.mk op n c m l),Pn vs x:=by
 intro x d;rw[pre_eq] at d;rcases zM.1 d with rfl|d
 .exact h
 .obtain⟨a,f,e⟩:=Ho.gu.1 d
  exact g a f x e
theorem A2 (n:Int):∀x∈pre (cE n),Pn vs x:=qc (Pn.op (by refine⟨?_,?_,?_⟩<;>(show(1:Int)≠_;decide))) fun a h=>by cases h
theorem uv {a:ByteArray}(h:0<=d' vs (elN a k)):∀x∈pre (gw a k),Pn vs x:=qc (by
 unfold Pn O7 PK;refine⟨rfl,?_⟩;show((2:Int)==2&&decide (d' vs (elN a k)<0))=false
 simp;omega) fun a h=>by cases h
theorem HX {vs:List Vr}{a:ByteArray}{n:Nat}(h:∀k,k<n->0<=d' vs (elN a k)):∀k,k<n->∀x∈pre (W9 a k),Pn vs x
 | 0,hk=>uv (h 0 hk)
 | k+1,hk=>qc (Pn.op (by refine⟨?_,?_,?_⟩<;>(show(7:Int)≠_;decide))) fun y c=>by
   simp only[zM,List.not_mem_nil,or_false] at c;rcases c with rfl|rfl
   .exact HX h k U
   .exact uv (h (k+1) hk)
theorem Jx {c:Ex->Ex}{vs:List Vr}{a:ByteArray}{i:Ex}{n:Nat}(h:∀k,k<n->0<=d' vs (elN a k))(e:∀x∈pre (c i),Pn vs x):∀j,j<=n->∀x∈pre (jx c a i n j),Pn vs x
 | 0,_=>A2 0
 | j+1,f=>qc (Pn.op (by refine⟨?_,?_,?_⟩<;>(show(22:Int)≠_;decide))) fun y d=>by
   simp only[zM,List.not_mem_nil,or_false] at d;rcases d with rfl|rfl|rfl
   .refine qc (Pn.op (by refine⟨?_,?_,?_⟩<;>(show(15:Int)≠_;decide))) fun y d=>?_
    simp only[zM,List.not_mem_nil,or_false] at d;rcases d with rfl|rfl
    .exact e
    .exact A2 _
   .exact uv (h _ U)
   .exact Jx h e j U
theorem Px {e:Ex}(h:∀x∈pre e,Pn vs x):∀x∈pre (cg e),Pn vs x:=by
 intro x c;rw[iU] at c;obtain⟨y,d,rfl⟩:=zO.1 c;have:=h y d
 unfold Pn O7 PK at this|-
 rw[XW,WO];exact this
theorem Ln (vs:List Vr)(e:Ex):en e->OM vs e=false->∀x∈pre (EW c6 vs e),Pn vs x:=by
 induction e using Ex.induct with|h e ih=>?_
 intro g c;rw[RG];unfold l8;by_cases o24:e.op=24
 .rw[if_pos o24]
  have:=S9 c (.inr o24);exact HX (n:=szA vs e.name) (fun k hk=>AIG hk) _ U
 rw[if_neg o24];by_cases o3:e.op=3
 .rw[if_pos o3]
  have H:=S9 c (.inl o3);obtain⟨b,d⟩:=SA g.self o3;have f:b∈e.args:=by rw[d];simp
  have i:=ih b f (g.arg f) (OB c f);obtain⟨A,B⟩:=bG (s:=c6) (g.arg f) (OB c f);rw[d];show ∀x∈pre (Y4 cg e.name (EW c6 vs b) (szA vs e.name)),Pn vs x;unfold Y4;split
  .rename_i q
   split
   .have C:=A.1 q
    have F:=B C;exact uv (AIG U)
   .exact A2 0
  .exact Jx (fun k hk=>AIG hk) (Px i) _ (jF _)
 .rw[if_neg o3]
  refine qc ?_ fun a E=>?_
  .rw[WB,wG] at c
   have j:=c.1;unfold OO at j;unfold Pn O7 PK;refine⟨?_,?_⟩
   .show((e.op==3)||(e.op==24))=false
    simp [o3,o24]
   .show((e.op==2)&&decide (d' vs e.name<0))=false
    exact(wG.1 j).1
  .obtain⟨b,d,rfl⟩:=zO.1 E
   exact ih b d (g.arg d) (OB c d)
theorem Im {e:Ex}(j:c9 e=0)(h:fc vs e=0):eh vs (EW c6 vs e)=0:=by
 have q:=en.of j;unfold fc at h
 cases d:OM vs e with
 | true=>rw[d,if_pos rfl] at h;exact absurd h DX
 | false =>
   rw[d,if_neg DX] at h;by_cases c:400<(FX vs e).1
   .simp_all
   rw[if_neg c] at h;have f:=Ln vs e q d;have g:kZ (EW c6 vs e)=false:=qP.2 fun x c=>by rw[(f x c).1];simp
   have i:gD vs (EW c6 vs e)=false:=qP.2 fun x c=>by rw[(f x c).2];simp
   unfold eh;rw[if_neg (by rw[h];simp)];unfold jl;rw[g,i];rfl
theorem Nh (h:cg a=cg b)(f:eh vs a=0):eh vs b=0:=by
 have gen:∀e:Ex,eh vs (cg e)=eh vs e:=fun e=>by
  have c:kZ (cg e)=kZ e:=by
   unfold kZ;rw[iU,List.any_map];congr 1;funext x;show O7 (cg x)=O7 x;unfold O7;rw[XW]
  have d:gD vs (cg e)=gD vs e:=by
   unfold gD;rw[iU,List.any_map];congr 1;funext x;show PK vs (cg x)=PK vs x;unfold PK;rw[XW,WO]
  unfold eh jl;rw[uw,c,d]
 rw[<-gen b,<-h,gen a];exact f
theorem AY8 (d:JY p=0):∀e∈p.hard,eh p.vars e=0:=by
 have c:L6 p.vars (p.hard++p.soft)=0:=by
  unfold JY at d;by_cases h1:NP p.vars≠0
  .simp_all
  rw[if_neg h1] at d;by_cases c:L6 p.vars (p.hard++p.soft)≠0
  .simp_all
  simpa using c
 intro e f;unfold L6 at c;exact Bd.ea c e (List.mem_append_left _ f)
theorem Lm (h:∀r∈R,∀e∈r,c9 e=0)(i:RF p.vars R=0):∀S∈OY c6 p.vars R,∀e∈S,eh p.vars e=0:=by
 intro S d e c;unfold OY at d;obtain⟨r,f,rfl⟩:=zO.1 d;obtain⟨x,g,rfl⟩:=zO.1 c;exact Im (h r f x g) (Bd.ea i x (List.mem_flatten.2 ⟨r,f,g⟩))
theorem Eg (d:JY p=0){S:List Ex}(f:∀e∈S,eh p.vars e=0):∀e∈RI p++S,eh p.vars e=0:=by
 intro e c;unfold RI at c;rcases zQ.1 c with h|h
 .rcases zQ.1 h with h|h
  .exact AY8 d e h
  .exact Lj d e h
 .exact f e h
theorem Cg (d:O9 m x=true)(c:gz ins m x=0):∀r∈fu ins m x,∀e∈r,c9 e=0:=by
 unfold gz at c;rw[if_pos d] at c;by_cases q:(fu ins m x).flatten.all (fun e=>c9 e==0)=true
 .grind
 .simp_all
structure j8 (p:Pr):Prop where
 hard:p.hard.length<=100000
 dists:p.dists.length<=100000
 bits:JY p=0->lft p (NW p)<=262144
def sM (a:List Int):List AV:=[.sl .any 1 (a.map Bins.bu)]
theorem NX:jd sM:=fun _ _ _ _=>⟨rfl,rfl⟩
def mm (f:List Int->List AV)(s:Bw)(ins:Ex->List cp->Ex)(p:Pr)(m:Mo)(x:Hl):AV:=.tup [gn 1 f (mo s ins p m x),.n (NE s ins p m x)]
theorem G' (f:List Int->List AV)(s:Bw)(ins:Ex->List cp->Ex)(p:Pr)(m:Mo)(x:Hl):cz (mm f s ins p m x) (nw f s ins p m x):=cz.tup (cq.cons XC (cq.cons (cz.refl _) cq.nil))
theorem pI {f:List Int->List AV}{z:Int}(h:NE s ins p m x=z)(c:z≠0):mm f s ins p m x=.tup [.sl .nil 0 [],.n z]:=by
 unfold mm mo;rw[h,if_neg c];rfl
theorem Gs {f:List Int->List AV}{c:List (List Int)}(h:NE s ins p m x=0)(d:dW s ins p m x=some c):mm f s ins p m x=.tup [gn 1 f c,.n 0]:=by
 unfold mm mo;rw[h,if_pos rfl,d];rfl
theorem vY (h:JY p≠0\/O9 m x=false):NE s ins p m x=1:=by unfold NE;rw[if_pos h]
theorem B0 (c:JY p=0)(h2:O9 m x=true)(h:gz ins m x≠0):NE s ins p m x=gz ins m x:=by unfold NE;rw[if_neg (by rw[c,h2];simp),if_pos h]
theorem BY (c:JY p=0)(h2:O9 m x=true)(d:gz ins m x=0)(h:RF p.vars (fu ins m x)≠0):NE s ins p m x=RF p.vars (fu ins m x):=by unfold NE;rw[if_neg (by rw[c,h2];simp),if_neg (by rw[d];simp),if_pos h]
theorem BW (c:JY p=0)(h2:O9 m x=true)(d:gz ins m x=0)(e:RF p.vars (fu ins m x)=0):NE s ins p m x=if(dW s ins p m x).isSome then 0 else 11:=by unfold NE;rw[if_neg (by rw[c,h2];simp),if_neg (by rw[d];simp),if_neg (by rw[e];simp)]
theorem Il (h:F6 m≠0):O9 m x=false:=by
 cases q:O9 m x
 .rfl
 .exact absurd (bC q) h
theorem Jn (i:O9 m x=true):(fu ins m x).length<=8/\∀r∈fu ins m x,r.length<=8:=by
 have g:=bC i;have d:=pL i
 have h:=Dt (cs:=(U7 m x).map (fi ins m)) (by rw[jI];exact d.n4) (fun c e=>by
  obtain⟨q,f,rfl⟩:=zO.1 e;obtain⟨a,b⟩:=d.ok q f
  exact(zh g a b).2) (fun c e r j=>by
  obtain⟨q,f,rfl⟩:=zO.1 e;obtain⟨a,b⟩:=d.ok q f
  exact(tC (P:=fun _=>True) g a b (fun l _=>⟨trivial,trivial⟩) r j).1)
 exact⟨h.1,h.2.1⟩
theorem AUK (r:Option (List Int))(n:Nat)(H:Hp):FK n H 3 (pf r)=pf r:=by cases r<;>rfl
theorem DS (p:Pr):(TB p).length=p.dists.length:=by unfold TB;rw[jI]
section
variable (G:Nat->AV)
theorem Vu (i:fm G)(p:Pr)(A:fp p)(B:JY p=0)(g:SM)(l:List Ex)(q:l.length<=1048576)(hk:∀e∈l,eh p.vars e=0)(c:lft p (NW p)<=262144)(h:Hp):
  a_ (En G) 47 [.agg (CW p),.sl g 4 (l.map AQ)] h (pf (QW p l)):=by
 refine RN 3 (AUK _) ?_;refine e7 Tryz.func47 [.tmp 4,.tmp 5] ?_;have f:=A8 h (qH 5 [CW p]);have d:=Sm.ext.r1 h (qH 5 [CW p]);refine A7 @QE ?_
 generalize h++[qH 5 [CW p]]=H0 at f d|-
 refine A7 (UW f) ?_;refine(Kq G i p A B g l q (fun e j=>by have:=Bu (hk e j);omega) hk c H0).use ?_;unfold pf
 cases QW p l with
 | none =>
   refine A7 (show((11:Int) != 18)=true from rfl) ?_;exact⟨AO,d⟩
 | some a =>
   refine A7 (show((0:Int) != 18)=true from rfl) ?_;exact⟨AO,d⟩
theorem eS (M:fm G)(p:Pr)(hs:fp p)(hb:j8 p)(m:Mo)(hm:dt m)(x:Hl)(hn:x.bins.length<=1048576)(h:Hp):a_ (En G) 12 [.agg (CW p),.agg (C9 m),.agg (FH x)] h (nw sM c6 FT p m x):=by
 refine a_.res ?_ (G' sM c6 FT p m x);refine ACalls.pure (R:=fun v H=>Sm.ext h H/\FK h.length H 3 v=mm sM c6 FT p m x) 3 ?_ (fun v H ⟨a,b⟩=>⟨a,b⟩);refine e7 Tryz.func12 [.tmp 6,.tmp 7] ?_;have T:=AU (x:=qH 3 [FH x]) (AU (x:=qH 2 [C9 m]) (A8 h (qH 5 [CW p])));have X:=AU (x:=qH 3 [FH x]) (A8 (h++[qH 5 [CW p]]) (qH 2 [C9 m]));have gh:=A8 (h++[qH 5 [CW p]]++[qH 2 [C9 m]]) (qH 3 [FH x]);have j:Sm.ext h (h++[qH 5 [CW p]]++[qH 2 [C9 m]]++[qH 3 [FH x]]):=(((ext.rfl' h).app _).app _).app _;refine DC @QE @er @kz ?_
 generalize h++[qH 5 [CW p]]++[qH 2 [C9 m]]++[qH 3 [FH x]]=H0 at T X gh j|-
 generalize (h++[qH 5 [CW p]]++[qH 2 [C9 m]]).length=xb at gh|-
 generalize (h++[qH 5 [CW p]]).length=mb at X|-
 have bad:∀z:Int,NE c6 FT p m x=z->z≠0->FK h.length H0 3 (.tup [.sl .nil 0 [],.n z])=mm sM c6 FT p m x:=fun z q1 q2=>by rw[pI q1 q2];rfl
 refine A7 (UW T) ?_;refine(Bd.df G M p hs H0).use ?_;cases C:(JY p != 0)
 case true =>
  have q:JY p≠0:=BQ C;refine A7 C ?_;exact⟨j,bad 1 (vY (.inl q)) DX⟩
 have J:JY p=0:=BQ C;refine AZ C (dk X) ?_;refine(TE G M m hm H0).use ?_;cases V:(F6 m != 0)
 case true =>
  have q:F6 m≠0:=BQ V;refine AZ C V ?_;exact⟨j,bad 1 (vY (.inr (Il q))) DX⟩
 refine EH C V (dk X) (kl gh) ?_;refine(Ho.df G M m hm x hn H0).use ?_;cases B:O9 m x
 case false =>
  refine DC C V B ?_;exact⟨j,bad 1 (vY (.inr B)) DX⟩
 refine G7 C V B (dk X) (kl gh) ?_;refine(uC G M m hm x hn H0).use ?_;by_cases hc:gz FT m x=0
 rotate_left
 .have e:jh FT m x=.tup [.sl .nil 0 [],.n (gz FT m x)]:=by unfold jh;rw[if_neg hc]
  have bc:(gz FT m x != 0)=true:=BQ hc;rw[e];refine A7 bc ?_;exact⟨j,bad _ (B0 J B hc) hc⟩
 have e:jh FT m x=.tup [.sl .any 1 ((fu FT m x).map QC),.n 0]:=by unfold jh;rw[if_pos hc,hc]
 have N:=Cg B hc;obtain⟨a0,O⟩:=Jn (ins:=FT) B;have c:=BW (s:=c6) J B hc;have a4:=BY (s:=c6) J B hc;have d:dW c6 FT p m x=XO (fun S=>QW p (RI p++S)) (OY c6 p.vars (fu FT m x)):=rfl;rw[e]
 generalize fu FT m x=R at N a0 O a4 c d|-
 refine AZ (show((0:Int) != 0)=false from rfl) (UW T) ?_;refine(RA G M p hs J .any R U (fun r hr=>by have:=O r hr;omega) N H0).use ?_;by_cases hz:RF p.vars R=0
 rotate_left
 .have e:pd c6 p.vars R=.tup [.sl .nil 0 [],.n (RF p.vars R)]:=by unfold pd;rw[if_neg hz]
  have bc:(RF p.vars R != 0)=true:=BQ hz;rw[e];refine A7 bc ?_;exact⟨j,bad _ (a4 hz) hz⟩
 have e:pd c6 p.vars R=.tup [.sl (Cov.nm (OY c6 p.vars R)) 1 ((OY c6 p.vars R).map QC),.n 0]:=by unfold pd;rw[if_pos hz,hz]
 have Y:=Lm N hz
 have a9:(OY c6 p.vars R).length<=8/\∀S∈OY c6 p.vars R,S.length<=8:=by
  refine⟨by unfold OY;rw[jI];exact a0,fun S hS=>?_⟩;unfold OY at hS;obtain⟨r,hr,rfl⟩:=zO.1 hS;rw[jI];exact O r hr
 have c:=c hz;rw[e]
 generalize OY c6 p.vars R=L at Y a9 d|-
 have lh:BR jA H0 23 (.ptr h.length 0 1)=some (.sl p.hm 4 (p.hard.map AQ)):=by rw[BJ MQ T (row:=CW p) rfl];rfl
 refine A7 (show((0:Int) != 0)=false from rfl) ?_;have a1:Bd.fl [⟨p.hm,p.hard⟩,⟨.any,TB p⟩]=RI p:=by simp [Bd.fl,RI]
 have ad:(RI p).length<=200000:=by unfold RI;rw[jX,DS];have:=hb.hard;have:=hb.dists;omega
 have Z:=Bd.ey G [⟨p.hm,p.hard⟩,⟨.any,TB p⟩] .full BA (by rw[a1];omega) H0;rw[a1] at Z;refine DI BC ?_;refine DC @eH lh (UW T) ?_;refine⟨_,Si G M p hs J H0,?_⟩;simp only[vQ,JX,KU,KE,CP,XE,↓reduceIte,jC,jO,b_,WG,AT];refine⟨_,Z,?_⟩;have a5:=fun S (q:∀e∈S,eh p.vars e=0)=>Eg (p:=p) J (S:=S) q
 generalize RI p=rl at ad d a5|-
 simp only[jI]
 refine BB (fun n F H=>∃i v done,n+i=L.length/\F 3=.ptr h.length 0 0/\F 11=.sl (Cov.nm rl) 4 (rl.map AQ)/\F 12=v/\F 55=.sl (Cov.nm L) 1 (L.map QC)/\F 56=.n (L.length:Nat)/\F 57=.n (i:Nat)/\Sm.ext H0 H/\bw 1 sM H0 done v H/\XO (fun S=>QW p (rl++S)) (L.take i)=some done) L.length
  ⟨0,.sl .nil 0 [],[],BA,by simp only[AX,↓reduceIte,jC],by simp only[AX,↓reduceIte,jC],by simp only[AX,↓reduceIte,jC],by simp only[AX,↓reduceIte,jC],by simp only[AX,↓reduceIte,jC],by simp only[AX,↓reduceIte];rfl,ext.rfl' _,bw.nil _ _ _ _,rfl⟩ ?_
 rintro n F H ⟨i,v,done,hi,f3,f11,f12,a6,a7,K,A,ho,hd⟩;refine AZ a7 K ?_;refine DV ?_ ?_<;>intro g
 .have a3:=jH g
  have aa:=(pR hd).1;rw[jT] at aa;have a8:=DZ A T;have lr:BR jA H 23 (.fptr 1 (L.map QC) i 0)=some (.sl (Cov.nm L[i]) 4 (L[i].map AQ)):=by rw[BK MQ g];rfl
  have I:Bd.fl [⟨Cov.nm rl,rl⟩,⟨Cov.nm L[i],L[i]⟩]=rl++L[i]:=by simp [Bd.fl]
  have a2:(rl++L[i]).length<=1048576:=by grind
  have E:=Bd.ey G [⟨Cov.nm rl,rl⟩,⟨Cov.nm L[i],L[i]⟩] .full BA (by rw[I];exact a2) H;rw[I] at E;refine N8 a6 K g lr ?_;refine DI BC ?_;refine EH f3 f11 (UW a8) AT ?_;refine⟨_,E,_,Vu G M p hs J _ (rl++L[i]) a2 (a5 _ (Y _ a3)) (hb.bits J) H,?_⟩;unfold pf
  cases hq:QW p (rl++L[i]) with
  | none =>
    have Q:dW c6 FT p m x=none:=by rw[d];exact iY a3 hq
    refine A7 (show((11:Int) != 0)=true from rfl) ?_;refine⟨j.trans A,?_⟩;rw[pI (z:=11) (by rw[c,Q];rfl) DX];rfl
  | some a =>
    obtain⟨v',H4,ha,ac,_,ab,_,_⟩:=ho.append (P:=jA) kn nv kp kh U U A a;change EJ jA true H 25 25 v (.sl .full 1 [[.sl .any 1 (a.map Bins.bu)]])=_ at ha;refine LP (show((0:Int) != 0)=false from rfl) f12 @A6 ha K (CZ i) ?_;exact⟨n-1,U,i+1,v',done++[a],U,AO,AO,AO,AO,AO,AO,ab,ac,by rw[jW g];exact iW hd hq⟩
 .rw[jK U] at hd
  have f:dW c6 FT p m x=some done:=by rw[d];exact hd
  refine A7 f12 ?_;refine⟨j.trans A,?_⟩;rw[Gs (by rw[c,f];rfl) f];show AV.tup [FK h.length H 2 v,_]=_;rw[KC NX ho h.length 0 (by have:=j.le;omega)];rfl
def v7 (s:Bw)(ins:Ex->List cp->Ex)(p:Pr)(m:Mo)(x:Hl):AV:=.tup [.bool (decide (NE s ins p m x=11)),.n (if NE s ins p m x=11 then 0 else NE s ins p m x)]
theorem Ue (j:fm G)(p:Pr)(C:fp p)(q:j8 p)(m:Mo)(A:dt m)(x:Hl)(B:x.bins.length<=1048576)(h:Hp):a_ (En G) 14 [.agg (CW p),.agg (C9 m),.agg (FH x)] h (v7 c6 FT p m x):=by
 refine RN 3 (fun n H=>rfl) ?_;refine e7 Tryz.func14 [.tmp 6,.tmp 7] ?_;have i:=AU (x:=qH 3 [FH x]) (AU (x:=qH 2 [C9 m]) (A8 h (qH 5 [CW p])));have g:=AU (x:=qH 3 [FH x]) (A8 (h++[qH 5 [CW p]]) (qH 2 [C9 m]));have f:=A8 (h++[qH 5 [CW p]]++[qH 2 [C9 m]]) (qH 3 [FH x]);have e:Sm.ext h (h++[qH 5 [CW p]]++[qH 2 [C9 m]]++[qH 3 [FH x]]):=(((ext.rfl' h).app _).app _).app _;refine DC @QE @er @kz ?_
 generalize h++[qH 5 [CW p]]++[qH 2 [C9 m]]++[qH 3 [FH x]]=H0 at i g f e|-
 refine DC (UW i) (dk g) (kl f) ?_;refine(eS G j p C q m A x B H0).use ?_;unfold nw v7;generalize NE c6 FT p m x=c;refine AB ?_;refine BL ?_ ?_<;>intro d
 .have d:c=11:=BQ d
  refine AB ?_;exact⟨by rw[d];rfl,e⟩
 .have d:¬c=11:=BQ d
  refine AB ?_;exact⟨by rw[if_neg d,decide_eq_false d],e⟩
end
theorem F8 (l:List Nat)(a b:Nat)(s t:List Nat)(n:Nat):(hint l [(a,s),(b,t)]).fz n=if(a==n)=true then s else if(b==n)=true then t else []:=by
 unfold hint;simp only[List.find?];cases a==n<;>cases b==n<;>rfl
theorem Ut {P:Program}{t e:TypeId}{α:Type}{C:Nat}{f:α->List AV}{h H:Hp}{xs ys:List α}{v:AV}(q:bw k f h xs v H)(B:P.underlying t=some (.slice e))(A:da P e=some k)(N:U5 P e=some k)(I:L8 P e=some C)(hbs:C<=4194304)(K:xs.length+ys.length<=8388608)(E:Sm.ext h H):
  ∃j g,EJ P true H t t v (gn k f ys)=some (j,g)/\bw k f h (xs++ys) j g/\(∀b x,H[b]?=some x->¬db v b->g[b]?=some x)/\Sm.ext h g:=by
 cases ys with
 | nil =>
   refine⟨v,H,?_,by rw[jL];exact q,fun _ _ M _=>M,E⟩;have i:JR H (.sl .nil 0 [])=some (0,[]):=H6 H .nil 0 [];show EJ P true H t t v (.sl .nil 0 [])=_;rcases q with⟨rfl,rfl⟩|⟨L,o,O,rfl,F⟩
   .simp [EJ,B,A,TC,i,bump]
   .have J:JR H (.own o 0 xs.length)=some (k,xs.map f):=by rw[KH F BA,zI,jK BA]
    simp [EJ,B,A,TC,J,i,bump]
 | cons y ys =>
   obtain⟨j,g,a,b,c,d,_,_⟩:=MX .any q B A N I hbs K E;exact⟨j,g,a,b,c,d⟩
theorem AUL (L:List (List Ex)):LH (L.map QC)=true:=by
 unfold LH;rw[zJ];intro r c;obtain⟨l,_,rfl⟩:=zO.1 c;rfl
section
variable (G:Nat->AV)
theorem vH (p:Pr)(g:fp p)(P:PV p)(l:List Ex)(f:l.length<=1048576)(hk:∀e∈l,eh p.vars e=0)(c:lft p (NW p)<=1048576)(h:Hp):
  a_ (En G) 54 [.agg (CW p),gn 4 AQ l] h (.sl (Cov.nm (nC p l (lft p (NW p)) (NW p))) 1 ((nC p l (lft p (NW p)) (NW p)).map XV)) :=
 a_.args (tW G p g P (Cov.nm l) l f (fun e d=>by have:=Bu (hk e d);omega) hk c h) (cq.cons (cz.refl _) (cq.cons XC cq.nil))
theorem AXN (h:∀r∈R,∀e∈r,c9 e=0)(i:RF p.vars R=0):∀S∈OY de p.vars R,∀e∈S,eh p.vars e=0:=by
 intro S d e c;unfold OY at d;obtain⟨r,f,rfl⟩:=zO.1 d;obtain⟨x,g,rfl⟩:=zO.1 c;exact Nh (zu oW zr p.vars x) (Im (h r f x g) (Bd.ea i x (List.mem_flatten.2 ⟨r,f,g⟩)))
theorem ARC (p:Pr)(hs:fp p)(hb:j8 p)(m:Mo)(hm:dt m)(x:Hl)(hn:x.bins.length<=1048576)(h:Hp):a_ (En G) 13 [.agg (CW p),.agg (C9 m),.agg (FH x)] h (nw XV de GI p m x):=by
 refine a_.res ?_ (G' XV de GI p m x);refine ACalls.pure (R:=fun v H=>Sm.ext h H/\FK h.length H 3 v=mm XV de GI p m x) 3 ?_ (fun v H ⟨a,b⟩=>⟨a,b⟩);refine II (H:=hint [] [(15,[14,10]),(89,[88])]) (ji G) Tryz.func13 rfl (by kernel_rfl) (by kernel_rfl) (jB (by kernel_rfl)) ?_;show dh _ _ _ _ _ (MW _ [.tmp 6,.tmp 7] _);have gp:=AU (x:=qH 3 [FH x]) (AU (x:=qH 2 [C9 m]) (A8 h (qH 5 [CW p])));have gm:=AU (x:=qH 3 [FH x]) (A8 (h++[qH 5 [CW p]]) (qH 2 [C9 m]));have gh:=A8 (h++[qH 5 [CW p]]++[qH 2 [C9 m]]) (qH 3 [FH x]);have N:Sm.ext h (h++[qH 5 [CW p]]++[qH 2 [C9 m]]++[qH 3 [FH x]]):=(((ext.rfl' h).app _).app _).app _;refine EH @F8 @QE @er @kz ?_
 generalize h++[qH 5 [CW p]]++[qH 2 [C9 m]]++[qH 3 [FH x]]=H0 at gp gm gh N|-
 generalize (h++[qH 5 [CW p]]++[qH 2 [C9 m]]).length=xb at gh|-
 generalize (h++[qH 5 [CW p]]).length=mb at gm|-
 have bad:∀z:Int,NE de GI p m x=z->z≠0->∀H,FK h.length H 3 (.tup [.sl .nil 0 [],.n z])=mm XV de GI p m x:=fun z q1 q2 H=>by rw[pI q1 q2];rfl
 refine AZ @F8 (UW gp) ?_;refine(Bd.dq G p hs H0).use ?_;cases Q:(JY p != 0)
 case true =>
  have q:JY p≠0:=BQ Q;refine AZ @F8 Q ?_;exact⟨N,bad 1 (vY (.inl q)) DX _⟩
 have T:JY p=0:=BQ Q;refine DC @F8 Q (dk gm) ?_;refine(XP G m hm H0).use ?_;cases bm:(F6 m != 0)
 case true =>
  have q:F6 m≠0:=BQ bm;refine DC @F8 Q bm ?_;exact⟨N,bad 1 (vY (.inr (Il q))) DX _⟩
 refine G7 @F8 Q bm (dk gm) (kl gh) ?_;refine(Ho.dq G m hm x hn H0).use ?_;cases O:O9 m x
 case false =>
  refine EH @F8 Q bm O ?_;exact⟨N,bad 1 (vY (.inr O)) DX _⟩
 refine LP @F8 Q bm O (dk gm) (kl gh) ?_;refine(vI G m hm x hn H0).use ?_;by_cases hc:gz GI m x=0
 rotate_left
 .have e:jh GI m x=.tup [.sl .nil 0 [],.n (gz GI m x)]:=by unfold jh;rw[if_neg hc]
  have bc:(gz GI m x != 0)=true:=BQ hc;rw[e];refine AZ @F8 bc ?_;exact⟨N,bad _ (B0 T O hc) hc _⟩
 have e:jh GI m x=.tup [.sl .any 1 ((fu GI m x).map QC),.n 0]:=by unfold jh;rw[if_pos hc,hc]
 have Z:=Cg O hc;obtain⟨a9,a0⟩:=Jn (ins:=GI) O;have I:=BW (s:=de) T O hc;have ab:=BY (s:=de) T O hc;have J:dW de GI p m x=XO (fun S=>QW p (RI p++S)) (OY de p.vars (fu GI m x)):=rfl;rw[e]
 generalize fu GI m x=R at Z a9 a0 ab I J|-
 refine AZ @F8 (show((0:Int) != 0)=false from rfl) ?_;refine EG 0 (fun F H=>∃v,F 3=.ptr h.length 0 0/\F 10=v/\Sm.ext H0 H/\bw 1 QC H0 (OY de p.vars R) v H/\RF p.vars R=0) (fun F H=>F 6=.sl .nil 0 []/\F 7=.n (RF p.vars R)/\RF p.vars R≠0/\Sm.ext H0 H) ?_ ?_ ?_
 .refine BB (fun n F H=>∃i v,n+i=R.length/\F 3=.ptr h.length 0 0/\F 8=.sl .any 1 (R.map QC)/\F 10=v/\F 11=.n (i:Nat)/\Sm.ext H0 H/\bw 1 QC H0 (OY de p.vars (R.take i)) v H/\Bd.cr (fc p.vars) (R.take i).flatten=0) R.length
   ⟨0,.sl .nil 0 [],BA,DY @F8,DY @F8,DY @F8,DY @F8,ext.rfl' _,bw.nil _ _ _ _,rfl⟩ ?_
  rintro n F H ⟨i,v,hi,X,f8,f10,f11,c,M,hf⟩;refine DC @F8 f8 f11 ?_;refine DV ?_ ?_<;>intro d
  .have B:=jH d
   have g:=DZ c gp;have lr:BR jA H 23 (.fptr 1 (R.map QC) i 0)=some (.sl (Cov.nm R[i]) 4 (R[i].map AQ)):=by rw[BK MQ d];rfl
   have ac:=a0 _ B;refine A7 @F8 ?_;refine DI BC ?_;refine LJ @F8 X f8 f11 (UW g) d lr ?_;refine⟨_,SF G p hs T _ R[i] U (Z _ B) H,?_⟩;by_cases C:Bd.cr (fc p.vars) R[i]=0
   .have e:pe p.vars R[i]=.tup [.sl (Cov.nm (R[i].map (EW de p.vars))) 4 ((R[i].map (EW de p.vars)).map AQ),.n 0]:=by unfold pe;rw[if_pos C,C]
    have ae:OY de p.vars (R.take (i+1))=OY de p.vars (R.take i)++[R[i].map (EW de p.vars)]:=by unfold OY;rw[jW d,qE];rfl
    have ao:(OY de p.vars (R.take i)).length=i:=by unfold OY;rw[jI,jT];omega
    obtain⟨v',H4,ha,a5,_,a3,_,_⟩:=M.append (P:=jA) lK mO oH mF U U c (R[i].map (EW de p.vars));change EJ jA true H 100 100 v (.sl .full 1 [[.sl (Cov.nm (R[i].map (EW de p.vars))) 4 ((R[i].map (EW de p.vars)).map AQ)]])=_ at ha;rw[e];refine LJ @F8 (show((0:Int) != 0)=false from rfl) f10 @sf ha f11 (CZ i) ?_;exact⟨n-1,U,i+1,v',U,AO,AO,AO,AO,a3,by rw[ae];exact a5,by rw[jW d,List.flatten_append];simp only[List.flatten_cons,List.flatten_nil,jL];exact yq hf C⟩
   .have e:pe p.vars R[i]=.tup [.sl .nil 0 [],.n (Bd.cr (fc p.vars) R[i])]:=by unfold pe;rw[if_neg C]
    have E:RF p.vars R=Bd.cr (fc p.vars) R[i]:=by
     have h1:R=R.take i++R[i]::R.drop (i+1):=by rw[<-zU d,wE]
     unfold RF
     conv=>lhs;rw[h1,List.flatten_append,List.flatten_cons]
     rw[Bd.ff,if_neg (by rw[hf];simp),Bd.ff,if_pos C]
    have bz:(Bd.cr (fc p.vars) R[i] != 0)=true:=BQ C;rw[e];refine AZ @F8 bz ?_;exact⟨AO,by rw[E],by rw[E];exact C,c⟩
  .rw[jK U] at M hf
   refine A7 @F8 ?_;exact⟨v,AO,AO,c,M,hf⟩
 rotate_left
 .rintro F H ⟨f6,f7,C,c⟩
  refine DC @F8 f6 f7 ?_;exact⟨N.trans c,bad _ (ab C) C _⟩
 rintro F H ⟨v,X,f10,c,M,C⟩;have a8:=AXN Z C
 have a7:(OY de p.vars R).length<=8/\∀S∈OY de p.vars R,S.length<=8:=by
  refine⟨by unfold OY;rw[jI];exact a9,fun S hS=>?_⟩;unfold OY at hS;obtain⟨r,hr,rfl⟩:=zO.1 hS;rw[jI];exact a0 r hr
 have I:=I C
 generalize OY de p.vars R=L at a8 a7 J M|-
 have g:=DZ c gp;have lh:BR jA H 23 (.ptr h.length 0 1)=some (.sl p.hm 4 (p.hard.map AQ)):=by rw[BJ MQ g (row:=CW p) rfl];rfl
 have an:=hb.hard;have aa:=hb.dists;have ae:=DS p;obtain⟨v1,H1,a1,o1,k1,x1,_,_⟩:=MX (P:=jA) (f:=AQ) (ys:=p.hard) p.hm (bw.nil 4 AQ H H) NV G9 QF QD U NI (ext.rfl' H);rw[zX] at o1;have a6:=DZ x1 g;refine LP @eH @F8 X lh a1 (UW a6) ?_;refine(Uc G p hs T H1).use ?_;obtain⟨v2,H2,a2,o2,k2,x2,_,_⟩:=MX (P:=jA) (f:=AQ) (ys:=TB p) (Cov.nm (TB p)) o1 NV G9 QF QD U U x1;have o2:bw 4 AQ H (RI p) v2 H2:=o2;have ac:(RI p).length<=200000:=by unfold RI;rw[jX];omega
 have ad:=fun S (q:∀e∈S,eh p.vars e=0)=>Eg (p:=p) T (S:=S) q
 generalize RI p=rl at ac J ad o2|-
 obtain⟨H3,z3,V,l3,_⟩:=gB (NT rl) o2 x2 14;obtain⟨H4,af,x4,l4,_⟩:=gB (AUL L) (fh M V) (c.trans V) 10;refine LP @F8 f10 a2 @UJ z3 af ?_
 have ak:KI jA 100 (gn 1 QC L)=some (.n (L.length:Nat)):=by
  cases L with
  | nil=>simp only[gn,WG];rfl
  | cons a L=>simp only[gn,WG,jI]
 refine BB (fun n F H=>∃i v done,n+i=L.length/\F 3=.ptr h.length 0 0/\F 10=gn 1 QC L/\F 14=gn 4 AQ rl/\F 15=v/\F 16=.n (i:Nat)/\Sm.ext H0 H/\bw 1 XV H0 done v H/\XO (fun S=>QW p (rl++S)) (L.take i)=some done) L.length
  ⟨0,.sl .nil 0 [],[],BA,Py @F8 X,DY @F8,DY @F8,DY @F8,DY @F8,x4,bw.nil _ _ _ _,rfl⟩ ?_
 clear X f10 c M g a6 lh a1 o1 k1 x1 a2 o2 k2 x2 z3 V l3 af x4 l4;rintro n F H ⟨i,v,done,hi,X,f10,f14,f15,f16,c,M,hd⟩;refine EH @F8 f10 f16 @ak ?_;refine DV ?_ ?_<;>intro d
 .have B:=jH d
  have am:=a7.2 _ B;have aa:=(pR hd).1;rw[jT] at aa;have Y:L≠[]:=fun q=>by rw[q] at d;cases d
  rw[uh Y] at f10
  have ah:∀(H:Hp) (F:Fr),F 14=gn 4 AQ rl->QO (F,H) 14=(F,H):=fun H F q=>by
   cases rl with
   | nil=>exact fZ F q
   | cons y ys=>exact fZ F q
  have ag:∀(H:Hp) (F:Fr),F 10=.sl .any 1 (L.map QC)->QO (F,H) 10=(F,H):=fun H F q=>fZ F q
  obtain⟨w1,J1,b1,p1,q1,y1⟩:=Ut (P:=jA) (f:=AQ) (ys:=rl) (bw.nil 4 AQ H H) NV G9 QF QD U NI (ext.rfl' H);rw[zX] at p1;have lr:BR jA J1 23 (.fptr 1 (L.map QC) i 0)=some (.sl (Cov.nm L[i]) 4 (L[i].map AQ)):=by rw[BK MQ d];rfl
  obtain⟨w2,J2,b2,p2,q2,y2,_,_⟩:=MX (P:=jA) (f:=AQ) (ys:=L[i]) (Cov.nm L[i]) p1 NV G9 QF QD U U y1;obtain⟨J3,z3,V,l3,_⟩:=gB (NT (rl++L[i])) p2 y2 88;have g:=DZ (c.trans y2) gp;have al:=DZ (c.trans V) gp;have ai:(rl++L[i]).length<=1048576:=by rw[jX];omega
  have ap:=hb.bits T;simp only[vQ,jU,jV,CP,XE,↓reduceIte,jC,b_,xQ,zZ,F8,f10,f14,f16,b1,CE d,lr,b2,X,UW g,UJ,z3];refine(vH G p hs (PV.of T) (rl++L[i]) ai (ad _ (a8 _ B)) U J3).use ?_;have j:(nC p (rl++L[i]) (lft p (NW p)) (NW p)).head?=QW p (rl++L[i]):=zR p _ _ _
  generalize nC p (rl++L[i]) (lft p (NW p)) (NW p)=A at j|-
  refine A7 @F8 ?_
  cases A with
  | nil =>
    have a4:dW de GI p m x=none:=by rw[J];exact iY B j.symm
    refine AZ @F8 (show(((([]:List (List Int)).length:Nat):Int)==0)=true from rfl) ?_;exact⟨N.trans (c.trans V),bad 11 (by rw[I,a4];rfl) DX _⟩
  | cons a A =>
    have bn:((((a::A).length:Nat):Int)==0)=false:=by simp;omega
    have aj:JJ 1 J3 (.sl (Cov.nm (a::A)) 1 (XV a::A.map XV)) (.n 0)=some (.fptr 1 (XV a::A.map XV) 0 0):=CE (xs:=a::A) (f:=XV) (BA:0<(a::A).length);have l0:BR jA J3 32 (.fptr 1 (XV a::A.map XV) 0 0)=some (.sl (Cov.nm a) 1 (a.map Bins.bu)):=by rw[show XV a::A.map XV=(a::A).map XV from rfl,BK MB (BA:0<(a::A).length)];rfl
    obtain⟨v',H4,ha,a5,_,a3,_,_⟩:=(fh M V).append (P:=jA) kn nv kp kh U U (c.trans V) a;change EJ jA true J3 25 25 v (.sl .full 1 [[.sl (Cov.nm a) 1 (a.map Bins.bu)]])=_ at ha;simp only[vQ,jU,jV,CP,↓reduceIte,jC,b_,V6,zZ,F8,UJ,ah,ag,f10,f14,bn,f15,aj,l0,A6,ha,f16,CZ i];exact⟨n-1,U,i+1,v',done++[a],U,AO,by first|exact True.intro|(rw[uh Y];exact f10)|rw[uh Y],AO,AO,AO,a3,a5,by rw[jW d];exact iW hd j.symm⟩
 .rw[jK U] at hd
  have K:dW de GI p m x=some done:=by rw[J];exact hd
  refine AZ @F8 f15 ?_;refine⟨N.trans c,?_⟩;rw[Gs (by rw[I,K];rfl) K];show AV.tup [FK h.length H 2 v,_]=_;rw[KC C5 M h.length 0 (by have:=N.le;omega)];rfl
end
end Bd.Cl
namespace Sm
open Go.RowKit
theorem ck.below {E:Env}{g:Gh}{h:Hp}{w w':World}(S:ck E g h w)(hb:Below w.heap.size w w'):ck E g h w' where
 os:=hb.os.trans S.os
 tape:=hb.tape.trans S.tape
 output:=hb.output.trans S.output
 fro k o hk:=by
  have:=S.fro k o hk;rw[hb.block k (by have:=(Array.getElem?_eq_some_iff.1 this).1;exact this)];exact this
 lo:=S.lo
 live b k xs hb':=by
  obtain⟨l,c,e,h1,h2,h3,h4,h5⟩:=S.live b k xs hb';refine⟨l,c,e,h1,h2,h3,?_,h5⟩;rw[hb.block _ (by have:=(Array.getElem?_eq_some_iff.1 h4).1;exact this)];exact h4
 obj b x hb' hi:=by
  obtain⟨l,o,h1,h2,h3,h4,h5,h6⟩:=S.obj b x hb' hi;refine⟨l,o,h1,h2,h3,h4,?_,h6⟩;rw[hb.block _ (by have:=(Array.getElem?_eq_some_iff.1 h5).1;exact this)];exact h5
 inj:=S.inj
 fresh:=S.fresh
 glob:=S.glob
theorem a_.of_ints {E:Env}{f:FuncId}{args:List AV}{h:Hp}{ns:List Int}(J:eX E.P f)(I:ns≠[])
  (Q:∀(g:Gh) (w:World) (d:Array Value),ck E g h w->cS g args d->Calls E.P f d w fun e w'=>Below w.heap.size w w'/\∃b c ty cap,e=.returned (.slice (some ⟨b,0,none⟩) ns.length cap) /\
   w.heap.size<=b/\w'.heap[b]?=some (.cells c ty (0,0))/\ns.length<=cap/\∀i (C:i<ns.length),c[i]?=some (.int .i64 ns[i])):a_ E f args h (.sl .any 1 (ns.map fun n=>[.int .i64 n])):=by
 refine⟨J,fun g w d S N=>?_⟩;refine(Q g w d S.ofNox N).mono ?_;rintro e w' ⟨H,b,c,ty,cap,rfl,O,Y,B,A⟩;have L:=S.below H;obtain⟨Z,K⟩:=S.unowned_new O
 have X:cw (g.freeze b (.cells c ty (0,0))).M (.sl .any 1 (ns.map fun n=>[.n n])) (.slice (some ⟨b,0,none⟩) ns.length cap):=by
  have T:ns.length=(ns.map fun n=>[AV.int .i64 n]).length:=BA;rw[T];refine .sl .any 1 _ b 0 c ty (0,0) cap (fun i _=>(c[i]?).getD default) (BQ I) BA (by simp [Gh.freeze]) ?_ ?_ ?_ (BQ B) BA
  .intro i row q
   rw[zB,Option.map_eq_some_iff] at q;obtain⟨n,_,rfl⟩:=q
   exact⟨rfl,fun j v F=>by cases j with
    | zero=>cases F;rfl
    | succ j=>cases F⟩
  .intro i j C hj
   obtain rfl:j=0:=U;simp only[List.length_map] at C;simp only[Nat.zero_add,Nat.mul_one,Nat.add_zero];rw[A i C];rfl
  .intro i j row v q F
   rw[zB,Option.map_eq_some_iff] at q;obtain⟨n,V,rfl⟩:=q;obtain⟨C,rfl⟩:=List.getElem?_eq_some_iff.1 V
   cases j with
   | zero=>cases F;rw[A i C];exact .int _ _
   | succ j=>cases F
 exact .inl ⟨_,_,g.freeze b (.cells c ty (0,0)),h,rfl,⟨rfl,rfl⟩,Gh.freeze_le K,L.freeze Y K Z,.fro X⟩
end Sm
namespace Sm
variable {n:Nat} {P:Program} {t:TypeId}
def M0 (W:World):Nat->Option Obj:=fun k=>W.heap[k]?
def g0 (W:World):Gh:=⟨M0 W,fun _=>none,W.os,W.tape,W.output,fun _=>none⟩
theorem Rv {E:Env}{W:World}(hN:E.L=none)(hG:∀n,cw (M0 W) (E.G n) (.pointer (some ⟨n,0,none⟩))):ck E (g0 W) [] W where
 os:=rfl
 tape:=rfl
 output:=rfl
 fro k o h:=h
 lo g0 h:=by rw[hN] at h;cases h
 live b k xs h:=by simp at h
 obj b x h:=by simp at h
 inj b b' x x' l l' h:=by simp at h
 fresh b _:=rfl
 glob:=hG
theorem T7 {E:Env}{f:FuncId}{d:List AV}{args:Array Value}{W:World}(B:ACalls E f d [] fun v _=>v=.bool true)(j:E.L=none)(q:∀u h,¬E.X u h)
  (i:∀n,cw (M0 W) (E.G n) (.pointer (some ⟨n,0,none⟩))) (A:cS (g0 W) d args) :
  Calls E.P f args W fun e w'=>e=.returned (.bool true)/\RowKit.Below W.heap.size W w':=by
 refine(B.2 (g0 W) W args (Rv j i) A).mono ?_;rintro e w' (⟨v,cv,g',h',rfl,rfl,hle,S,hr⟩|⟨_,_,_,_,hx,_⟩)
 rotate_left
 .exact(q _ _ hx).elim
 rw[hr.bool_inv];have c:∀k o,W.heap[k]?=some o->w'.heap[k]?=some o:=fun k o h=>S.fro k o (hle.M k o h)
 refine⟨rfl,?_,?_,?_,?_,?_⟩
 .rw[S.os,hle.os];rfl
 .rw[S.tape,hle.tape];rfl
 .rw[S.output,hle.output];rfl
 .rcases Nat.lt_or_ge w'.heap.size W.heap.size with h|h
  .have g:=c w'.heap.size _ (Array.getElem?_eq_getElem h)
   simp at g
  .exact h
 .intro k hk
  rw[c k _ (Array.getElem?_eq_getElem hk),Array.getElem?_eq_getElem hk]
theorem ASX {H:Type}{enc:TypeId×Value->H}{P:Program}{f:Func}{s:ChangeSpec}{tb:TypeId}{g B i:Bool}{W N:World}{args:Array Value}{ds O:List (DataW H)}{j:List MemPlace}
  (X:DataW.Whole enc P f.params.toList s.vars g W args.toList ds O j) (Y:RowKit.Below W.heap.size W N)
  (hv:s.vars=[]) (hr:f.resultTypes = #[tb]) (T:P.underlying tb=some .bool)
  (hs:s.fn H ds={ results:=[.lit (.bool true)],args:=ds })
  (hl:laidOutB P=true) (hp:f.params.toList.all (fun t=>P.readableRec t&&decide (t<P.types.size))=true) :
  s.post enc P f g B i false W args (.bool true) N:=by
 have C:=X;obtain⟨p,q,hA,Q,rfl,_,_⟩:=X;rw[hv] at Q
 obtain⟨rfl,rfl⟩:O=[]/\q=[]:=by
  cases O with
  | nil=>exact⟨rfl,Q⟩
  | cons=>exact Q.elim
 have E:s.fn H (ds++[])={ results:=[.lit (.bool true)],args:=ds }:=by rw[jL];exact hs
 rw[jL] at C;have J:∀x∈p,x.block<W.heap.size:=fun x c=>C.lt x c
 have I:∀(V:Nat->Bool),(∀x∈p,V x.block=true)->∀ {F:List TypeId} {vs:List Value} {ds:List (DataW H)} {M:List MemPlace},(F.all (fun t=>P.readableRec t&&decide (t<P.types.size))=true) ->
   (∀x∈M,x∈p)->DataW.TrodAll enc P W 0 (fun _=>true) true F vs ds M->DataW.TrodAll enc P N 0 V true F vs ds M:=by
  intro V S F
  induction F with
  | nil =>
    intro vs ds M _ _ h
    cases vs<;>cases ds<;>first|exact h|exact h.elim
  | cons t F ih =>
    intro vs ds M A Z h
    cases vs with
    | nil=>exact h.elim
    | cons v vs =>
      cases ds with
      | nil=>exact h.elim
      | cons d ds =>
        obtain⟨p1,q1,h1,h2,e⟩:=h;simp only[List.all_cons,jY,decide_eq_true_eq] at A;have K:∀x∈p1,x∈p:=fun x c=>Z x (by rw[e];exact List.mem_append_left _ c)
        exact⟨p1,q1,WideElems.Trod_stays hl A.1.1 A.1.2 h1 (fun x c=>Y.same (J x (K x c))) (fun x c=>S x (K x c)),ih A.2 (fun x c=>Z x (by rw[e];exact List.mem_append_right _ c)) h2,e⟩
 have L:∀x∈p,(fun b=>decide (b<W.heap.size)) x.block=true:=fun x c=>by simpa using J x c
 refine⟨ds,[],p,[],p,[],C,?_,?_,?_,World.keptBut_mono (fun x c=>⟨c,.inr (.inl c)⟩) (Y.frame (·∈p)),fun h=>by cases h⟩
 .rw[E,hr]
  exact ChangeShapes.trodAll_mk1 (RowKit.shut_bool T true)
 .rw[E];exact I _ L hp (fun _ h=>h) hA
 .rw[hv,E];exact rfl
open Go.Proofs.YtiihpnicbekebaaGreatDoor.Rows (uptoBulk uptoBulkAll)
def fw (M:Nat->Option Obj)(rs:List AV)(cs:List Value):Prop:=∀(j:Nat) (a:AV),rs[j]?=some a->a.leaf=true/\∃c,cs[j]?=some c/\cw M a c
theorem fw.nil (M:Nat->Option Obj)(cs:List Value):fw M [] cs:=fun j a h=>by simp at h
theorem fw.one {M:Nat->Option Obj}{a:AV}{c:Value}(e:a.leaf=true)(h:cw M a c):fw M [a] [c]:=by
 intro j b d
 cases j with
 | zero=>simp at d;subst d;exact⟨e,c,rfl,h⟩
 | succ j=>simp at d
theorem fw.append {M:Nat->Option Obj}{rs i:List AV}{cs:List Value}(h:fw M rs (cs.take n))(q:rs.length=n)(k:fw M i (cs.drop n)):fw M (rs++i) cs:=by
 intro j a e;rw[List.getElem?_append] at e;split at e
 .obtain⟨f,c,d,g⟩:=h j a e
  rw[List.getElem?_take] at d;split at d
  .exact⟨f,c,d,g⟩
  .cases d
 .obtain⟨f,c,d,g⟩:=k _ a e
  rw[List.getElem?_drop] at d;exact⟨f,c,by rw[<-d];congr 1;omega,g⟩
def c7 (P:Program)(n:Nat)(t:TypeId){α:Type}(enc:α->List AV)(f:α->Nat->Prop):Prop :=
 ∀ (H:Type) (c:TypeId×Value->H) (w:World) (e:List Value) (d:DataW H) (g:List MemPlace),
   DataW.trod c P w 0 (fun _=>true) true n t e=some (d,g)->∃x,f x (uptoBulk d)/\fw (M0 w) (enc x) e
def Rd (P:Program)(t:TypeId){α:Type}(enc:α->List AV)(c:α->Nat->Prop):Prop:=∀n,c7 P n t enc c
theorem c7.zero {α:Type}{enc:α->List AV}{e:α->Nat->Prop}:c7 P 0 t enc e:=by
 intro H c w f d g h;simp [DataW.trod] at h
theorem c7.map {P:Program}{n:Nat}{t:TypeId}{α β:Type}{enc:α->List AV}{i:α->Nat->Prop}{c:β->List AV}{g:β->Nat->Prop}(f:α->β)(h:c7 P n t enc i)
  (B:∀x,c (f x)=enc x) (hk:∀x b,i x b->g (f x) b):c7 P n t c g:=by
 intro H e w j d E C;obtain⟨x,q,A⟩:=h H e w j d E C;exact⟨f x,hk x _ q,by rw[B];exact A⟩
theorem Rd.map {P:Program}{t:TypeId}{α β:Type}{enc:α->List AV}{e:α->Nat->Prop}{c:β->List AV}{d:β->Nat->Prop}(f:α->β)(h:Rd P t enc e)
 (g:∀x,c (f x)=enc x) (hk:∀x b,e x b->d (f x) b):Rd P t c d:=fun n=>(h n).map f g hk
def okI (z:Int)(_:Nat):Prop := -9223372036854775808<=z/\z<=9223372036854775807
def okS (s:ByteArray)(b:Nat):Prop:=s.size+1<=b
def ts {α:Type}(_:α)(_:Nat):Prop:=True
def e_ {α:Type}(e:α->Nat->Prop):List α->Nat->Prop
 | [],_=>True
 | x::xs,b=>∃c d,c+d<=b/\1<=c/\e x c/\e_ e xs d
theorem e_.length {α:Type}{d:α->Nat->Prop}:∀ {xs:List α} {b:Nat},e_ d xs b->xs.length<=b
 | [],_,_=>qN _
 | _::_,_,⟨_,_,e,f,_,c⟩=>by have:=e_.length c;simp;omega
theorem e_.each {α:Type}{d:α->Nat->Prop}:∀ {xs:List α} {b:Nat},e_ d xs b->∀x∈xs,∃c,c<=b/\d x c
 | [],_,_,_,h=>by cases h
 | y::ys,b,⟨c,q,A,B,g,i⟩,x,h=>by
   cases List.mem_cons.1 h with
   | inl e=>subst e;exact⟨c,U,g⟩
   | inr e=>obtain⟨f,C,j⟩:=e_.each i x e;exact⟨f,U,j⟩
theorem e_.mono {α:Type}{d:α->Nat->Prop}:∀ {xs:List α} {b c:Nat},e_ d xs b->b<=c->e_ d xs c
 | [],_,_,_,_=>trivial
 | _::_,_,_,⟨e,f,q,g,i,j⟩,h=>⟨e,f,U,g,i,j⟩
theorem AVN {H:Type}(d:DataW H):1<=uptoBulk d:=by
 cases d with
 | lit l=>cases l<;>simp [uptoBulk]
 | nil=>simp [uptoBulk]
 | ptr d=>simp [uptoBulk]
 | slice e f=>simp [uptoBulk]
 | agg parts=>simp [uptoBulk]
 | iface t d=>simp [uptoBulk]
 | map c=>simp [uptoBulk]
 | held h=>simp [uptoBulk]
theorem Lw (f:P.underlying t=some (.int .i64)):Rd P t (fun z:Int=>[.int .i64 z]) okI:=by
 intro n H c w g d j h;obtain⟨z,rfl,i,e⟩:=DataW.trod_int f h;refine⟨z,?_,fw.one rfl (.int _ _)⟩;simp only[Lit.wf,jY,decide_eq_true_eq] at e;exact e
theorem Gr (e:P.underlying t=some .bool):Rd P t (fun z:Bool=>[.bool z]) ts:=by
 intro n H c w f d i h;obtain⟨z,rfl,g⟩:=DataW.trod_bool e h;exact⟨_,trivial,fw.one rfl (.bool _)⟩
theorem Lv (e:P.underlying t=some .string):Rd P t (fun z:ByteArray=>[.str z]) okS:=by
 intro n H c w g d i h;obtain⟨s,rfl,f,_⟩:=DataW.trod_string e h;cases f;refine⟨s,?_,fw.one rfl (.str _)⟩;simp only[okS,uptoBulk,Array.length_toList];exact Nat.le_refl _
theorem pY {α β:Type}{f:α->Option β}{x:α}{xs:List α}{ys:List β}(h:(x::xs).mapM f=some ys):∃y c,f x=some y/\xs.mapM f=some c/\ys=y::c:=by
 rw[List.mapM_cons] at h
 cases d:f x with
 | none=>simp [d] at h
 | some y =>
   cases e:xs.mapM f with
   | none=>simp [d,e] at h
   | some c=>simp [d,e] at h;exact⟨y,c,rfl,rfl,h.symm⟩
theorem Ej {P:Program}{n:Nat}{e:TypeId}{α:Type}{enc:α->List AV}{B:α->Nat->Prop}(A:c7 P n e enc B){H:Type}{d:TypeId×Value->H}{w:World} :
  ∀ (f:List (DataW H×List MemPlace)) (c:Nat->Option (List Value)),(∀i,i<f.length->(c i).bind (DataW.trod d P w 0 (fun _=>true) true n e)=f[i]?) ->
    ∃xs:List α,xs.length=f.length/\e_ B xs (uptoBulkAll (f.map (·.1)))/\∀(i:Nat) (x:α),xs[i]?=some x->∃cs,c i=some cs/\fw (M0 w) (enc x) cs
 | [],c,h=>⟨[],rfl,trivial,fun i x h=>by simp at h⟩
 | y::f,c,h=>by
   have j:=h 0 BA
   cases q:c 0 with
   | none=>simp [q] at j
   | some cs =>
     simp only[q,Option.bind_some,List.getElem?_cons_zero] at j;obtain⟨x,E,F⟩:=A H d w cs y.1 y.2 j;obtain⟨xs,I,J,K⟩:=Ej A f (fun i=>c (i+1)) (fun i C=>by have:=h (i+1) (BQ C);simpa using this);refine⟨x::xs,by simp [I],⟨uptoBulk y.1,uptoBulkAll (f.map (·.1)),by simp [uptoBulkAll],AVN _,E,J⟩,?_⟩;intro i L g
     cases i with
     | zero=>simp at g;subst g;exact⟨cs,q,F⟩
     | succ i=>simp at g;exact K i L g
theorem Vt {β:Type}{f:Nat->Option β}{i:Nat}{ys:List β}(h:(List.range n).mapM f=some ys)(g:i<n):∃y,f i=some y/\ys[i]?=some y:=by
 have gen:∀(l:List Nat) (ys:List β),l.mapM f=some ys->∀j k:Nat,l[j]?=some k->∃y,f k=some y/\ys[j]?=some y:=by
  intro l
  induction l with
  | nil=>intro ys _ j k c;simp at c
  | cons a l A =>
    intro ys q j k c;obtain⟨y,B,d,e,rfl⟩:=pY q
    cases j with
    | zero=>simp at c;subst c;exact⟨y,d,rfl⟩
    | succ j=>simp at c;exact A B e j k c
 exact gen _ _ h i i (by simp [g])
theorem cells_at {w:World}{a:Addr}{cs:List Value}(h:w.cells? 0 a n=some cs){i:Nat}(d:i<n):∃c,w.cell? (a.add i)=some c/\cs[i]?=some c:=by
 unfold World.cells? at h;simp only[qN,if_true] at h;exact Vt h d
theorem ML {P:Program}{n:Nat}{t e:TypeId}{k:Nat}{α:Type}{enc:α->List AV}{ok:α->Nat->Prop}(hu:P.underlying t=some (.slice e))(hk:P.cellsOf e=k)(a0:0<k)(A:∀x,(enc x).length=k)
  (hr:c7 P n e enc ok):c7 P (n+1) t (fun x:SM×List α=>[.sl x.1 k (x.2.map enc)]) (fun x b=>∃M,M+1<=b/\e_ ok x.2 M):=by
 intro H a5 w cs d ps h;rcases DataW.trod_slice hu h with⟨rfl,V⟩|⟨a,len,cap,zs,a6,m,hm,rfl,V,_,a1,_,a4,Z,_,_⟩
 .cases V
  exact⟨(.nil,[]),⟨0,by simp [uptoBulk],trivial⟩,fw.one rfl (.nil _)⟩
 .obtain rfl:n=m:=U
  simp only[Prod.mk.injEq] at V;obtain⟨C,E,l2,l3⟩:=Ej hr zs (fun i=>w.cells? 0 (a.add (i*P.cellsOf e)) (P.cellsOf e)) (fun i J=>Z i U);rw[a4] at E;have N:∃M,M+1<=uptoBulk d/\e_ ok C M:=⟨uptoBulkAll (zs.map (·.1)),by rw[V.1];simp [uptoBulk],l2⟩;rcases Nat.eq_zero_or_pos len with h0|O
  .subst h0
   have:C=[]:=wP.1 E;subst this;exact⟨(.any,[]),N,fw.one rfl (.empty .any k a cap BA BA)⟩
  .refine⟨(.any,C),N,fw.one rfl ?_⟩
   have cellAt:∀i j,i<len->j<k->∃c,w.cell? ((a.add (i*k)).add j)=some c/\∀x L,C[i]?=some x->(enc x)[j]?=some L->L.leaf=true/\cw (M0 w) L c:=by
    intro i j J K;have B:i<C.length:=U;obtain⟨a7,F,q2⟩:=l3 i C[i] (by simp [B]);rw[hk] at F;obtain⟨c,r1,r2⟩:=cells_at F K;refine⟨c,r1,fun x L S X=>?_⟩;rw[List.getElem?_eq_getElem B] at S;cases S;obtain⟨s1,c',s2,s3⟩:=q2 j L X;rw[r2] at s2;cases s2;exact⟨s1,s3⟩
   obtain⟨T,I,sp⟩:=a
   have q:∀i j,((Addr.mk T I none).add (i*k)).add j=⟨T,I+i*k+j,none⟩:=by
    intro i j;rw[addr_add,addr_add]
   obtain⟨c0,f,_⟩:=cellAt 0 0 O a0
   have a3:sp=none:=by
    simp [Addr.add,World.cell?] at f;split at f
    .split at f
     .cases f
     .rename_i hs;simpa using hs
    .cases f
   subst a3;rw[q] at f;simp only[World.cell?] at f;split at f
   case h_2=>cases f
   rename_i c ty fz hw;have rd:∀i j,w.cell? ⟨T,I+i*k+j,none⟩=c[I+i*k+j]? := fun i j=>by simp [World.cell?,hw]
   have a2:len=(C.map enc).length:=by simp [E]
   rw[a2];refine .sl .any k (C.map enc) T I c ty fz cap (fun i j=>c[I+i*k+j]?.getD default) ?_ BA hw ?_ ?_ ?_ ?_ BA
   .intro B
    have:C=[]:=BQ B;subst this;simp at E;omega
   .intro i row g
    rw[zB,Option.map_eq_some_iff] at g;obtain⟨x,B,rfl⟩:=g;refine⟨A x,fun j v Q=>?_⟩;have J:i<len:=by rw[<-E];exact(List.getElem?_eq_some_iff.1 B).1
    have K:j<k:=by rw[<-A x];exact(List.getElem?_eq_some_iff.1 Q).1
    obtain⟨c,_,Y⟩:=cellAt i j J K;exact(Y x v B Q).1
   .intro i j J K
    obtain⟨c',F,_⟩:=cellAt i j (by simpa [E] using J) K;rw[q,rd] at F;rw[F];rfl
   .intro i j row v g Q
    rw[zB,Option.map_eq_some_iff] at g;obtain⟨x,B,rfl⟩:=g;have J:i<len:=by rw[<-E];exact(List.getElem?_eq_some_iff.1 B).1
    have K:j<k:=by rw[<-A x];exact(List.getElem?_eq_some_iff.1 Q).1
    obtain⟨c',F,q2⟩:=cellAt i j J K;rw[q,rd] at F;show cw _ _ (c[I+i*k+j]?.getD default);rw[F];exact(q2 x v B Q).2
   .simp [E];exact a1
def tw (P:Program)(n:Nat)(g:List Field)(off:Nat){α:Type}(enc:α->List AV)(h:α->Nat->Prop):Prop :=
 ∀ (H:Type) (c:TypeId×Value->H) (w:World) (e:List Value) (d:List (DataW H×List MemPlace)),d.length=g.length ->
   (∀(i:Nat) (f:Field),g[i]?=some f->DataW.trod c P w 0 (fun _=>true) true n f.type ((e.drop f.offset).take (P.cellsOf f.type))=d[i]?)->∃x,h x (uptoBulkAll (d.map (·.1)))/\fw (M0 w) (enc x) (e.drop off)
theorem PZ {off:Nat}:tw P n [] off (fun _:Unit=>[]) ts:=fun _ _ _ _ _ _ _=>⟨(),trivial,fw.nil _ _⟩
theorem EY {P:Program}{n off k:Nat}{f:Field}{B:List Field}{α β:Type}{enc:α->List AV}{I:α->Nat->Prop}{c:β->List AV}{g:β->Nat->Prop}(O:f.offset=off)(hk:P.cellsOf f.type=k)
  (e:∀x,(enc x).length=k) (h:c7 P n f.type enc I) (L:tw P n B (off+k) c g) :
  tw P n (f::B) off (fun x:α×β=>enc x.1++c x.2) (fun x b=>∃q A,q+A<=b/\I x.1 q/\g x.2 A):=by
 intro H d w J j C E
 cases j with
 | nil=>simp at C
 | cons y j =>
   have M:=E 0 f rfl;obtain⟨x,Q,F⟩:=h H d w _ y.1 y.2 (BQ M);obtain⟨V,S,T⟩:=L H d w J j (BQ C) (fun i K N=>by have:=E (i+1) K (BQ N);simpa using this);refine⟨(x,V),⟨_,_,Nat.le_of_eq (by simp [uptoBulkAll]),Q,S⟩,?_⟩;rw[O,hk] at F;refine fw.append F (e x) ?_;rw[List.drop_drop];exact T
theorem MH {g:List Field}{α:Type}{enc:α->List AV}{q:α->Nat->Prop}(F:P.underlying t=some (.struct g.toArray))(h:tw P n g 0 enc q):
  c7 P (n+1) t enc (fun x b=>∃e,e+1<=b/\q x e):=by
 intro H c w A d N E;obtain⟨L,m,M,j,_,C,I⟩:=DataW.trod_struct F E;obtain rfl:n=m:=U;obtain⟨x,J,K⟩:=h H c w A L (BQ C) (fun i f B=>I i f (BQ B));simp only[Prod.mk.injEq] at j;exact⟨x,⟨_,by rw[j.1];simp [uptoBulk],J⟩,BQ K⟩
open Go.Proofs.YtiihpnicbekebaaGreatDoor.Rows (uptoBulk uptoBulkAll)
def PR (P:Program)(t:TypeId){α:Type}(f:α->AV)(g:α->Nat->Prop):Prop :=
 ∀ (H:Type) (e:TypeId×Value->H) (w:World) (c:Nat) (v:Value) (d:DataW H) (h:List MemPlace),Value.okWide P w .any c t v->DataW.Trod e P w 0 (fun _=>true) true t v d h ->
   ∃x,g x (uptoBulk d)/\cw (M0 w) (f x) v
theorem Qt {α:Type}{enc:α->List AV}{C:α->Nat->Prop}{k:Nat}(h:Rd P t enc C)(M:∀x,C x 0\/True->(enc x).length=k)(hk:P.cellsOf t=k)(g:KN P t=some true):PR P t (fun x=>.agg (enc x)) C:=by
 intro H e w E v d Q j ⟨n,O⟩
 have A:∃f,v=.agg f/\f.size=P.cellsOf t:=by
  unfold KN at g;unfold Value.okWide at j
  cases F:P.underlying t with
  | none=>simp [F] at g
  | some S =>
    rw[F] at g j;cases S<;>simp at g<;>exact⟨_,j.choose_spec.1,j.choose_spec.2.1⟩
 obtain⟨f,rfl,N⟩:=A;obtain⟨x,I,J⟩:=h n H e w _ d Q O;refine⟨x,I,.agg _ f (by rw[N,M x (.inr trivial),hk]) ?_⟩;intro i a T L B;obtain⟨_,c,q,K⟩:=J i a L;simp [Value.cells] at q;rw[B] at q;cases q;exact K
def nf (P:Program)(g:List TypeId){α:Type}(c:α->List AV)(h:α->Nat->Prop):Prop :=
 ∀ (H:Type) (e:TypeId×Value->H) (w:World) (d:Nat) (vs:List Value) (f:List (DataW H)) (q:List MemPlace),(∀(j:Nat) t v,g[j]?=some t->vs[j]?=some v->Value.okWide P w .any d t v) ->
   DataW.TrodAll e P w 0 (fun _=>true) true g vs f q->∃x,h x (uptoBulkAll f)/\vs.length=(c x).length/\∀(i:Nat) (a:AV) (v:Value),(c x)[i]?=some a->vs[i]?=some v->cw (M0 w) a v
theorem nf.len {P:Program}{w:World}{H:Type}{d:TypeId×Value->H}{h:Nat->Bool}{e:Bool}{c:Nat}:∀ {f:List TypeId} {vs:List Value} {ds:List (DataW H)} {ps:List MemPlace},DataW.TrodAll d P w c h e f vs ds ps->ds.length=f.length
 | [],[],[],_,_=>rfl
 | _::_,_::_,_::_,_,⟨_,_,_,g,_⟩=>by simp [nf.len g]
theorem Pz:nf P [] (fun _:Unit=>[]) ts:=by
 intro H d w c vs e f _ h
 cases vs with
 | nil=>exact⟨(),trivial,rfl,fun i a v h=>by simp at h⟩
 | cons v vs=>cases e<;>exact h.elim
theorem MU {N:List TypeId}{α β:Type}{I:α->AV}{M:α->Nat->Prop}{g:β->List AV}{A:β->Nat->Prop}(h:PR P t I M)(O:nf P N g A):
  nf P (t::N) (fun x:α×β=>I x.1::g x.2) (fun x b=>∃J K,J+K<=b/\M x.1 J/\A x.2 K):=by
 intro H f w e vs B ps L E
 cases vs with
 | nil=>cases B<;>exact E.elim
 | cons v vs =>
   cases B with
   | nil=>exact E.elim
   | cons d B =>
     obtain⟨p,q,Q,S,_⟩:=E;obtain⟨x,T,V⟩:=h H f w e v d p (L 0 t v rfl rfl) Q;obtain⟨y,X,Y,Z⟩:=O H f w e vs B q (fun j t' F a b=>L (j+1) t' F (BQ a) (BQ b)) S;refine⟨(x,y),⟨_,_,Nat.le_of_eq (by simp [uptoBulkAll]),T,X⟩,by simp [Y],?_⟩;intro i a F C c
     cases i with
     | zero=>simp at C c;subst C;subst c;exact V
     | succ i=>simp at C c;exact Z i a F C c
theorem AYY {H:Type}{enc:TypeId×Value->H}{E:Env}{f:FuncId}{fn:Func}{s:ChangeSpec}{tb:TypeId}{c C d:Bool}{W:World}{A:Nat}{args:Array Value}{ds Q:List (DataW H)}{g:List MemPlace}
  {α:Type} {B:α->List AV} {M:α->Nat->Prop} (hr:nf E.P fn.params.toList B M) (F:∀x,M x (uptoBulkAll ds)->ACalls E f (B x) [] fun v _=>v=.bool true)
  (I:∀(j:Nat) t v,fn.params[j]?=some t->args[j]?=some v->Value.okWide E.P W .any A t v)
  (K:DataW.Whole enc E.P fn.params.toList s.vars c W args.toList ds Q g) (Y:∀n,cw (M0 W) (E.G n) (.pointer (some ⟨n,0,none⟩)))
  (hv:s.vars=[]) (ht:fn.resultTypes = #[tb]) (J:E.P.underlying tb=some .bool)
  (hs:s.fn H ds={ results:=[.lit (.bool true)],args:=ds })
  (hl:laidOutB E.P=true) (hp:fn.params.toList.all (fun t=>E.P.readableRec t&&decide (t<E.P.types.size))=true) (Z:E.L=none:=by rfl) (hX:∀u h,¬E.X u h:=by exact fun _ _ q=>q) :
  Calls E.P f args W fun e N=>∃v,e=.returned v/\s.post enc E.P fn c C d false W args v N:=by
 obtain⟨p,q,V,_⟩:=id K;obtain⟨x,k1,k2,k3⟩:=hr H enc W A args.toList ds p (fun j t v a b=>I j t v (BQ a) (BQ b)) V;have ha:cS (g0 W) (B x) args:=⟨BQ k2,fun i v O S T=>.fro (k3 i v O S (BQ T))⟩;refine(T7 (F x k1) Z hX Y ha).mono ?_;rintro e w' ⟨rfl,hb⟩;exact⟨_,rfl,ASX K hb hv ht J hs hl hp⟩
theorem Zd {P:Program}{w:World}{t e:TypeId}(hu:P.underlying t=some (.slice e))(he:P.underlying e=some .string)(hk:P.cellsOf e=1){H:Type}{J:TypeId×Value->H}{sp:Nat->Bool}{K:Bool}{n:Nat}{cs:List Value}
  {l:List ByteArray} {d:DataW H} (hd:d=.slice (l.map fun s=>.lit (.string s.data.toList)) []) {p:List MemPlace} (h:DataW.trod J P w 0 sp K n t cs=some (d,p)) :
  ∃c,cs=[c]/\cw (M0 w) (.sl .any 1 (l.map fun s=>[.str s])) c:=by
 subst hd;rcases DataW.trod_slice hu h with⟨_,B⟩|⟨a,len,cap,zs,a3,m,_,rfl,B,_,X,_,a1,Q,_,_⟩
 .cases B
 .simp only[Prod.mk.injEq,DataW.slice.injEq] at B
  obtain⟨⟨hz,_⟩,_⟩:=B;have q:l.length=len:=by have:=congrArg List.length hz;simpa [a1] using this
  refine⟨_,rfl,?_⟩;rcases Nat.eq_zero_or_pos len with h0|L
  .subst h0
   have:l=[]:=wP.1 q;subst this;exact .empty .any 1 a cap BA BA
  .have cellAt:∀i (s:ByteArray),l[i]?=some s->w.cell? (a.add i)=some (.string s):=by
    intro i s N;have S:i<len:=by rw[<-q];exact(List.getElem?_eq_some_iff.1 N).1
    have I:=Q i S;rw[hk,Nat.mul_one] at I
    have C:zs[i]?.map (·.1)=some (.lit (.string s.data.toList)):=by
     rw[<-zB,<-hz,zB,N];rfl
    cases O:w.cells? 0 (a.add i) 1 with
    | none=>rw[O] at I;rw[<-I] at C;cases C
    | some c1 =>
      rw[O,Option.bind_some] at I
      obtain⟨z,a0⟩:∃z,zs[i]?=some z:=by cases hh:zs[i]? with
       | none=>rw[hh] at C;cases C
       | some z=>exact⟨z,rfl⟩
      rw[a0] at I C;obtain⟨s',rfl,rfl,_⟩:=DataW.trod_string he I;simp only[Option.map_some,Option.some.injEq,DataW.lit.injEq,Lit.string.injEq] at C
      have:s'=s:=by
       cases s';cases s;simp only at C;congr 1;exact Array.toList_inj.1 C
      subst this;obtain⟨c,r1,r2⟩:=cells_at O (i:=0) DX;simp at r2;subst r2;simpa [Addr.add] using r1
   obtain⟨M,F,a2⟩:=a;have f:=cellAt 0 l[0] (by simp [q,L])
   have Z:a2=none:=by
    simp [Addr.add,World.cell?] at f;split at f
    .split at f
     .cases f
     .rename_i N;simpa using N
    .cases f
   subst Z;have A:∀i,(Addr.mk M F none).add i=⟨M,F+i,none⟩:=fun i=>addr_add _ _ _
   rw[A] at f;simp only[World.cell?] at f;split at f
   case h_2=>cases f
   rename_i c ty fz hw;have rd:∀i,w.cell? ⟨M,F+i,none⟩=c[F+i]? := fun i=>by simp [World.cell?,hw]
   have Y:len=(l.map fun s=>[AV.str s]).length:=by simp [q]
   rw[Y];refine .sl .any 1 _ M F c ty fz cap (fun i j=>c[F+i*1+j]?.getD default) ?_ BA hw ?_ ?_ ?_ (by simp [q];exact X) BA
   .intro B
    have:l=[]:=BQ B;subst this;simp at q;omega
   .intro i row g
    rw[zB,Option.map_eq_some_iff] at g;obtain⟨x,B,rfl⟩:=g;refine⟨rfl,fun j v E=>?_⟩
    cases j with
    | zero=>simp at E;subst E;rfl
    | succ j=>simp at E
   .intro i j S hj
    have T:i<l.length:=BQ S;have:=cellAt i l[i] (by simp [T]);rw[A,rd] at this;have V:j=0:=U;subst V;simp only[Nat.mul_one,jR];rw[this];rfl
   .intro i j row v g E
    rw[zB,Option.map_eq_some_iff] at g;obtain⟨x,B,rfl⟩:=g;have:=cellAt i x B;rw[A,rd] at this
    cases j with
    | zero =>
      simp at E;subst E;simp only[Nat.mul_one,jR];rw[this];exact .str _
    | succ j=>simp at E
theorem AXA {w:World}{n:String}{g:Nat}{cs:Array Value}{c:Value}{a:AV}(F:P.globalNamed n=some g)(h:w.var? P n=some cs)(E:cs.toList=[c])(J:cw (M0 w) a c)(I:a.leaf=true):
  cw (M0 w) (.fptr 1 [[a]] 0 0) (.pointer (some ⟨g,0,none⟩)):=by
 have q:=World.var?_cell F h 0;have e:cs = #[c]:=by rw[<-Array.toArray_toList (xs:=cs),E]
 rw[e] at q;simp only[World.cell?] at q;split at q
 case h_2=>simp at q
 rename_i B L C K;have A:B[0]?=some c:=BQ q;refine .fptr 1 [[a]] 0 0 g 0 B L C (fun _ _=>c) K ?_ ?_ ?_
 .intro i row d
  cases i with
  | zero =>
    simp at d;subst d;refine⟨rfl,fun j v f=>?_⟩
    cases j with
    | zero=>simp at f;subst f;exact I
    | succ j=>simp at f
  | succ i=>simp at d
 .intro i j H M
  have:i=0:=BQ H;have:j=0:=U
  subst_vars
  simpa using A
 .intro i j row v d f
  cases i with
  | zero =>
    simp at d;subst d
    cases j with
    | zero=>simp at f;subst f;exact J
    | succ j=>simp at f
  | succ i=>simp at d
end Sm
namespace Back
def Hg:Op->Bool
 | .move _=>true
 | .load _ _=>true
 | .store _ _ _=>true
 | .binOp _ _ _ _ _=>true
 | .indexAddr _ _ _=>true
 | _=>false
theorem Uq {F F':Fence}{n:Nat}{P:Program}{o:Oper}{a:Act}{w:World}{K:Act->World->Prop}{Q:Exit->Act->World->Prop}(g:Hg o.op=true)(h:o.wpIn F' n P a w K Q):o.wpIn F n P a w K Q:=by
 have B:∀c,o.op≠.defer c:=fun c e=>by rw[e] at g;cases g
 have i:∀f,o.about P w a.eval=some f->F.fn f:=by
  intro f j;unfold Oper.about at j
  cases q:o.op<;>rw[q] at j g<;>first|(cases g;done)|(cases j;done)
 unfold Oper.wpIn at *;refine⟨i,?_⟩;have h:=h.2
 rw[Oper.semAt_eq _ _ _ B] at h|-
 have key:(∃v d,(execOp a.eval o).run P w=.ok (.value v) d)\/(∃d,(execOp a.eval o).run P w=.ok .skip d)\/∃e d,(execOp a.eval o).run P w=.halt e d:=by
  have A:∀s:Sem Value,(∃v d,(do pure (.value (<-s)):Sem Next).run P w=.ok (.value v) d)\/∃e d,(do pure (.value (<-s)):Sem Next).run P w=.halt e d:=by
   intro s;simp only[Sem.run_bind]
   cases s.run P w with
   | ok v d=>exact .inl ⟨v,d,rfl⟩
   | halt e d=>exact .inr ⟨e,d,rfl⟩
  have C:∀s:Sem Unit,(∃d,(do s;pure .skip:Sem Next).run P w=.ok .skip d)\/∃e d,(do s;pure .skip:Sem Next).run P w=.halt e d:=by
   intro s;simp only[Sem.run_bind]
   cases s.run P w with
   | ok v d=>exact .inl ⟨d,rfl⟩
   | halt e d=>exact .inr ⟨e,d,rfl⟩
  unfold execOp
  cases q:o.op<;>rw[q] at g<;>first|(cases g;done)|skip
  case move x=>exact .inl ⟨_,_,rfl⟩
  case load t x =>
   rcases A (Instr.loadAt t (a.eval x)) with h|h
   .exact .inl h
   .exact .inr (.inr h)
  case store t x y =>
   rcases C (Instr.storeAt t (a.eval x) (a.eval y)) with h|h
   .exact .inr (.inl h)
   .exact .inr (.inr h)
  case binOp op t x y u =>
   rcases A (do eqGuard op t x y (a.eval x) (a.eval y);binOp op t (a.eval x) (a.eval y)) with h|h
   .exact .inl h
   .exact .inr (.inr h)
  case indexAddr t x y =>
   rcases A (Instr.indexAt t (a.eval x) (a.eval y)) with h|h
   .exact .inl h
   .exact .inr (.inr h)
 rcases key with⟨v,d,e⟩|⟨d,e⟩|⟨x,d,e⟩
 .rw[e] at h|-;exact h
 .rw[e] at h|-;exact h
 .rw[e] at h|-
  cases x<;>exact h
theorem wT {F F':Fence}{n:Nat}{P:Program}{md:Region.Mode}{ops:Array Oper}{Q:Exit->Act->World->Prop}(j:∀(i:Nat) (o:Oper),ops[i]?=some o->Hg o.op=true/\o.guard=none) :
  ∀(fuel:Nat) (c:Array Bool) (a:Act) (w:World),wpAnyIn F' n P md ops Q fuel c a w->wpAnyIn F n P md ops Q fuel c a w
 | 0,_,_,_,h=>h
 | fuel+1,c,a,w,h=>by
   refine⟨h.1,fun i A=>?_⟩;have q:=h.2 i A;have d:=wpOpIn_mono (fun a w=>wT (F:=F) j fuel _ a w) q;unfold wpOpIn at *;split
   .rename_i e;simpa [e] using d
   .rename_i o e
    simp only[e] at d;obtain⟨f,g⟩:=j i o e;have B:Region.wanted o (yielded ops a.tmps)=true:=by unfold Region.wanted;rw[g]
    simp only[B,if_true] at d|-
    exact Uq f d
end Back
namespace Back
open Go.RowKit Go.Shelf
attribute [local go_sem] Oper.semAt_some
def upto {α:Type}(f:Nat->α)(k:Nat):List α:=(List.range k).map f
theorem upto_succ {α:Type}(f:Nat->α)(k:Nat):upto f (k+1)=upto f k++[f k]:=by simp [upto,List.range_succ]
theorem upto_length {α:Type}(f:Nat->α)(k:Nat):(upto f k).length=k:=by simp [upto]
def Kb (d c:Nat)(A B:World):Prop:=Below d A B/\∀v,A.cell? ⟨c,0,none⟩=some v->B.cell? ⟨c,0,none⟩=some v
theorem Kb.refl (d c:Nat)(A:World):Kb d c A A:=⟨Below.refl _ _,fun _ h=>h⟩
theorem Kb.trans {d c:Nat}{A B C:World}(h:Kb d c A B)(k:Kb d c B C):Kb d c A C:=⟨h.1.trans k.1,fun v e=>k.2 v (h.2 v e)⟩
set_option maxRecDepth 100000 in
theorem AV9 {α:Type}(val:α->Nat×Int)(f:Nat->α)(F:Fence)(n:Nat)(V:F.fn 315)(I:F.round=none)(hn:1<=n)(l q K b off len cap:Nat)(C:List Int)(B:len<=1048576)(Z:b<K)(hf:∀k,k<len->val (f k)=(len-1-k,C[len-1-k]?.getD 0))(J L:List α->World->Prop)
  (Y:∀pre x W,J pre W->pre.length<len->YieldAt F (n-1) jA l #[.int .i64 ((val x).1:Int),.int .i64 (val x).2] W fun e g =>
   (e=.returned (.bool true)/\J (pre++[x]) g/\Kb K q W g)\/(e=.returned (.bool false)/\L (pre++[x]) g))
  (W:World) (E:W.cell? ⟨q,0,none⟩=some (.slice (some ⟨b,off,none⟩) len cap)) (hc:∀j,j<len->W.cell? ⟨b,off+j,none⟩=some (.int .i64 (C[j]?.getD 0))) (N:J [] W) :
  CallsIn F n jA 315 #[.func (.yield l) #[] #[],.pointer (some ⟨q,0,none⟩)] W fun e g=>(∃v,e=.returned v) /\
   ((∃ys,ys=upto f len/\J ys g)\/(∃pre,(∃k,k<=len/\pre=upto f k)/\L pre g)):=by
 refine callsIn_of_wp Tryz.func315 rfl V ?_ I;simp only[Tryz.ntmps315,List.size_toArray,zF,zH,jO,Nat.reduceSub,Array.replicate_succ,Array.replicate_zero,List.push_toArray,List.append_toArray,zX,zG]
 gi_wp2
 gi_loopw [3] (fun i h=>Kb K q W h/\((∃j k:Nat,j+k+1=len/\i=.int .i64 (j:Int)/\J (upto f k) h)\/(i=.int .i64 (-1)/\J (upto f len) h)))
  (fun i _=>(intOf i+1).toNat)
 case atStart =>
  refine⟨Kb.refl _ _ _,?_⟩;rcases Nat.eq_zero_or_pos len with S|S
  .subst S
   exact .inr ⟨rfl,N⟩
  .exact .inl ⟨len-1,0,U,by congr 1;omega,N⟩
 case round =>
  obtain⟨d,⟨j,k,a0,rfl,c⟩|⟨rfl,c⟩⟩:=hrel
  .have P:wr.cell? ⟨b,off+j,none⟩=some (.int .i64 (C[j]?.getD 0)):=(d.1.cell (p:=⟨b,off+j,none⟩) Z).trans (hc j U)
   have O:wr.cell? ⟨q,0,none⟩=some (.slice (some ⟨b,off,none⟩) len cap):=d.2 _ E
   have H:val (f k)=(j,C[j]?.getD 0):=by
    have:len-1-k=j:=U;rw[hf k U,this]
   have a1:j<len:=U;obtain⟨fn,T,A,M,Q,X⟩:=Y _ (f k) wr c (by rw[upto_length];omega);rw[H] at Q
   dsimp only at Q
   gi_wp2
   refine X.mono ?_;rintro e W3 (⟨rfl,hJ3,hk3⟩|⟨rfl,hJx3⟩)
   .gi_wp2
    go_roundw
    case rel =>
     refine⟨d.trans hk3,?_⟩
     cases j with
     | zero =>
       refine .inr ⟨BA,?_⟩;have e:upto f len=upto f (k+1):=congrArg (upto _) U;rw[e,upto_succ];exact hJ3
     | succ j=>exact .inl ⟨j,k+1,U,BA,by rw[upto_succ];exact hJ3⟩
    case measure=>simp [intOf]
   .gi_wp2
    refine bodyPost_ret (results_none rfl _ _ _) rfl ?_;exact⟨⟨_,rfl⟩,.inr ⟨_,⟨k+1,U,by rw[upto_succ]⟩,hJx3⟩⟩
  .gi_wp2
   go_end0
   exact⟨⟨_,rfl⟩,.inl ⟨_,rfl,c⟩⟩
theorem K8 (F:Fence)(n:Nat)(d:F.fn 277)(c:F.round=none)(a:Option Addr)(len cap:Nat)(w:World) :
  CallsIn F n jA 277 #[.slice a len cap] w fun e w'=>e=.returned (.func (.func 315) #[] #[.pointer (some ⟨w.heap.size,0,none⟩)])/\w'=w.alloc (.cells #[.slice a len cap] 32):=by
 refine callsIn_of_wp Tryz.func277 rfl d ?_ c;simp only[Tryz.ntmps277,List.size_toArray,zF,zH,jO,Nat.reduceSub,Array.replicate_succ,Array.replicate_zero,List.push_toArray,List.append_toArray,zX,zG]
 gi_wp2
 go_ret
 exact⟨rfl,rfl⟩
theorem Wz {α:Type}(val:α->Nat×Int)(f:Nat->α)(F:Fence)(n:Nat)(M:F.fn 315)(C:F.round=none)(Q:1<=n)(g q b off cap:Nat)(c:List Int)(d:c.length<=1048576)(P:∀k,k<c.length->val (f k)=(c.length-1-k,c[c.length-1-k]?.getD 0))(w:World)(h:g<w.heap.size)(B:q<=w.heap.size)(H:b<q)
  (A:w.cell? ⟨g,0,none⟩=some (.slice (some ⟨b,off,none⟩) c.length cap)) (O:∀j,j<c.length->w.cell? ⟨b,off+j,none⟩=some (.int .i64 (c[j]?.getD 0))) :
  SeqStopsK F n jA 315 #[.pointer (some ⟨g,0,none⟩)] (fun x:α => #[Value.int .i64 ((val x).1:Int),.int .i64 (val x).2]) (Kb q g) (fun ys=>ys=upto f c.length) (fun _=>True) c.length w:=fun l J K W E _ _ N L=>by
 refine(AV9 val f F n M C Q l g q b off c.length cap c d H P J K N W ((E.cell (p:=⟨g,0,none⟩) h).trans A) (fun j i=>(E.cell (p:=⟨b,off+j,none⟩) (Nat.lt_of_lt_of_le H B)).trans (O j i)) L).mono ?_;rintro e S ⟨I,⟨ys,rfl,i⟩|⟨pre,_,i⟩⟩
 .exact⟨I,.inl ⟨_,rfl,i⟩⟩
 .exact⟨I,.inr ⟨_,trivial,i⟩⟩
end Back
set_option linter.unusedVariables false
namespace Back
open Go.RowKit Go.Shelf
attribute [local go_sem] Oper.semAt_some
theorem AYR (w:World):(Instr.makeSlice 32 (.int .i64 0) (.int .i64 0)).run jA w=.ok (.slice (some ⟨w.heap.size,0,none⟩) 0 0) (w.alloc (.cells #[] 3)):=BC
theorem AYQ (w:World):(Instr.makeSlice 32 (.int .i64 1) (.int .i64 1)).run jA w=.ok (.slice (some ⟨w.heap.size,0,none⟩) 1 1) (w.alloc (.cells #[.int .i64 0] 3)):=BC
theorem AYP (w:World):(Instr.makeSlice 32 (.int .i64 2) (.int .i64 2)).run jA w=.ok (.slice (some ⟨w.heap.size,0,none⟩) 2 2) (w.alloc (.cells #[.int .i64 0,.int .i64 0] 3)):=BC
theorem AYO (w:World):(Instr.makeSlice 32 (.int .i64 3) (.int .i64 3)).run jA w=.ok (.slice (some ⟨w.heap.size,0,none⟩) 3 3) (w.alloc (.cells #[.int .i64 0,.int .i64 0,.int .i64 0] 3)):=BC
theorem AYN (w:World):(Instr.makeSlice 32 (.int .i64 4) (.int .i64 4)).run jA w=.ok (.slice (some ⟨w.heap.size,0,none⟩) 4 4) (w.alloc (.cells #[.int .i64 0,.int .i64 0,.int .i64 0,.int .i64 0] 3)):=BC
theorem L2 (n:Nat)(c:n<=4)(w:World):(Instr.makeSlice 32 (.int .i64 (n:Int)) (.int .i64 (n:Int))).run jA w=.ok (.slice (some ⟨w.heap.size,0,none⟩) n n) (w.alloc (.cells (Array.replicate n (.int .i64 0)) 3)):=by
 have h:n=0\/n=1\/n=2\/n=3\/n=4:=U;rcases h with rfl|rfl|rfl|rfl|rfl
 .exact AYR w
 .exact AYQ w
 .exact AYP w
 .exact AYO w
 .exact AYN w
abbrev Pr (n:Nat) := { x:Nat×Int // x.1<n/\1<=x.2/\x.2<=64 }
def p9 (s:List Nat×Nat)(x:Nat×Int):List Nat×Nat:=(s.1.set x.1 (s.2%x.2.toNat),s.2/x.2.toNat)
def jt (n K:Nat)(pre:List (Pr n)):List Nat×Nat:=(pre.map (·.1)).foldl p9 (zD n 0,K)
theorem EA (n K:Nat)(pre:List (Pr n))(x:Pr n):jt n K (pre++[x])=p9 (jt n K pre) x.1:=by unfold jt;rw[List.map_append,List.foldl_append];rfl
theorem AZJ (n K:Nat)(pre:List (Pr n)):(jt n K pre).1.length=n:=by
 unfold jt
 have gen:∀(l:List (Nat×Int)) (s:List Nat×Nat),s.1.length=n->(l.foldl p9 s).1.length=n:=by
  intro l
  induction l with
  | nil=>intro s h;exact h
  | cons x l c=>intro s h;exact c _ (by simp [p9,h])
 exact gen _ _ BA
theorem Mg (n K:Nat)(pre:List (Pr n)):(jt n K pre).2<=K:=by
 unfold jt
 have gen:∀(l:List (Nat×Int)) (s:List Nat×Nat),s.2<=K->(l.foldl p9 s).2<=K:=by
  intro l
  induction l with
  | nil=>intro s h;exact h
  | cons x l c=>intro s h;exact c _ (Nat.le_trans (Nat.div_le_self _ _) h)
 exact gen _ _ (jF _)
theorem Ez (ns:List Nat)(K:Nat)(f:Nat->Pr ns.length)(c:∀k,k<ns.length->(f k).1=(ns.length-1-k,((ns[ns.length-1-k]?.getD 0:Nat):Int))) :
  ∀k,k<=ns.length->jt ns.length K (upto f k)=(zD (ns.length-k) 0++(Cov.dp (ns.drop (ns.length-k)) K).1,(Cov.dp (ns.drop (ns.length-k)) K).2)
 | 0,_=>by
   rw[Nat.sub_zero,List.drop_eq_nil_of_le (jF _)];simp [jt,upto,Cov.dp]
 | k+1,hk=>by
   have h:=Ez ns K f c k U;rw[upto_succ,EA,h,c k U];have d:ns.length-(k+1)<ns.length:=U;have e:ns.length-1-k=ns.length-(k+1):=U;have g:ns.length-k=ns.length-(k+1)+1:=U;rw[Cov.iw d,e,g,jP d];generalize Cov.dp (ns.drop (ns.length-(k+1)+1)) K=r;simp only[p9,jD,qI,Prod.mk.injEq,and_true];rw[List.replicate_succ',List.append_assoc,List.set_append_right _ _ BA];simp
theorem tG {ns:List Nat}{K:Nat}{w C W:World}{pre:List (Pr ns.length)}{e d s:Nat}{c:Array Value}{E:(e,(d:Int)).1<ns.length/\1<=(e,(d:Int)).2/\(e,(d:Int)).2<=64}{a:Act}(N:C.heap.size=w.heap.size+4)(P:e<ns.length)(Q:d≠0)
  (hk:W.cell? ⟨w.heap.size,0,none⟩=some (.int .i64 (s:Int))) (L:W.frozen? ⟨w.heap.size,0,none⟩=false) (q:W.heap[w.heap.size+1]?=some (.cells c 3 (0,0))) (H:c=((jt ns.length K pre).1.map fun n:Nat=>Value.int .i64 (n:Int)).toArray)
  (j:W.cell? ⟨w.heap.size+2,0,none⟩=some (.slice (some ⟨w.heap.size+1,0,none⟩) ns.length ns.length)) (i:Below w.heap.size w W) (M:(jt ns.length K pre).2=s) (I:c.size=ns.length) :
  ownPostG C.heap.size (Kb w.heap.size (w.heap.size+3))
   (fun pre W=>((W.cell? ⟨w.heap.size,0,none⟩=some (.int .i64 ((jt ns.length K pre).2:Nat))/\W.frozen? ⟨w.heap.size,0,none⟩=false)/\(∃c,W.heap[w.heap.size+1]?=some (.cells c 3 (0,0))/\c=((jt ns.length K pre).1.map fun n:Nat=>Value.int .i64 (n:Int)).toArray)/\W.cell? ⟨w.heap.size+2,0,none⟩=some (.slice (some ⟨w.heap.size+1,0,none⟩) ns.length ns.length))/\Below w.heap.size w W)
   (fun _ _ _=>False) (pre++[⟨(e,(d:Int)),E⟩]) W .normal a
   ((W.setCell ⟨w.heap.size+1,e,none⟩ (.int .i64 ((s:Int)%(d:Int)))).setCell ⟨w.heap.size,0,none⟩ (.int .i64 ((s:Int)/(d:Int)))).drew:=by
 generalize T:w.heap.size=S at *
 have f:∀k,k≠S->k≠S+1->((W.setCell ⟨S+1,e,none⟩ (.int .i64 ((s:Int)%(d:Int)))).setCell ⟨S,0,none⟩ (.int .i64 ((s:Int)/(d:Int)))).drew.heap[k]?=W.heap[k]? := fun k h F =>
  (Below.heap_setCell _ ⟨S,0,none⟩ _ k h).trans (Below.heap_setCell _ ⟨S+1,e,none⟩ _ k F)
 have g:Below S W ((W.setCell ⟨S+1,e,none⟩ (.int .i64 ((s:Int)%(d:Int)))).setCell ⟨S,0,none⟩ (.int .i64 ((s:Int)/(d:Int)))).drew :=
  (((Below.refl S W).setCell (p:=⟨S+1,e,none⟩) (Nat.le_succ S) _).setCell (p:=⟨S,0,none⟩) (jF S) _).drew
 have B:jt ns.length K (pre++[⟨(e,(d:Int)),E⟩])=((jt ns.length K pre).1.set e (s%d),s/d):=by
  rw[EA];simp only[p9,qI,M]
 refine⟨⟨g.size,fun k o J A _=>(f k U U).trans A⟩,⟨g,fun v O=>(World.cell?_of_block (f (S+3) U U)).trans O⟩,⟨⟨⟨?_,?_⟩,⟨c.setIfInBounds e (.int .i64 ((s:Int)%(d:Int))),?_,?_⟩,?_⟩,i.trans g⟩⟩
 .rw[B]
  have h:(W.setCell ⟨S+1,e,none⟩ (.int .i64 ((s:Int)%(d:Int)))).cell? ⟨S,0,none⟩=some (.int .i64 (s:Int)):=(World.cell?_of_block (heap_setCell_other W ⟨S+1,e,none⟩ S _ BA)).trans hk;exact World.cell?_setCell_same _ _ _ h
 .simp_all
 .have h:=heap_setCell_same W (S+1) e c 3 (.int .i64 ((s:Int)%(d:Int))) q
  exact(heap_setCell_other (W.setCell ⟨S+1,e,none⟩ (.int .i64 ((s:Int)%(d:Int)))) ⟨S,0,none⟩ (S+1) _ BA).trans h
 .simp_all
 .exact(World.cell?_of_block (f (S+2) U U)).trans j
set_option maxRecDepth 100000 in
theorem ma (F:Fence)(n:Nat)(h3:F.fn 212)(h5:F.fn 277)(h7:F.fn 315)(C:F.round=none)(hn:3<=n)(b off cap:Nat)(ns:List Nat)(K:Nat)(w:World)(hb:b<w.heap.size)
  (hc:∀j,j<ns.length->w.cell? ⟨b,off+j,none⟩=some (.int .i64 ((ns[j]?.getD 0:Nat):Int))) (a1:ns.length<=4) (hz:0<ns.length) (a2:∀x∈ns,1<=x/\x<=64) (hK:K<=1048576) :
  CallsIn F n jA 212 #[.slice (some ⟨b,off,none⟩) ns.length cap,.int .i64 (K:Int)] w fun e W'=>Below w.heap.size w W'/\∃c ty,e=.returned (.slice (some ⟨w.heap.size+1,0,none⟩) ns.length ns.length) /\
   W'.heap[w.heap.size+1]?=some (.cells c ty (0,0))/\∀i (hi:i<(Cov.dp ns K).1.length),c[i]?=some (.int .i64 (((Cov.dp ns K).1[i]:Nat):Int)):=by
 have Y:1<=n:=U;refine callsIn_of_wp_marks Tryz.func212 rfl h3 ?_ C;simp only[Tryz.ntmps212,List.size_toArray,List.length_cons,List.length_nil,Nat.reduceAdd,Nat.reduceSub,Array.replicate_succ,Array.replicate_zero,List.push_toArray,List.append_toArray,List.nil_append,List.cons_append];have ab:=fun w:World=>L2 ns.length a1 w
 gi_wp2_with (gi_at_call 277;refine(K8 F (n-1) h5 C _ _ _ _).mono ?_;rintro e w' ⟨rfl,rfl⟩)
 have hx:∀k,k<ns.length->ns.length-1-k<ns.length/\(1:Int)<=((ns[ns.length-1-k]?.getD 1:Nat):Int)/\((ns[ns.length-1-k]?.getD 1:Nat):Int)<=64:=by
  intro k hk;have hj:ns.length-1-k<ns.length:=U;rw[jP hj];have:=a2 _ (List.getElem_mem hj);simp only[jD];omega
 have a5:∀k,k<ns.length->ns[ns.length-1-k]?.getD 1=ns[ns.length-1-k]?.getD 0:=by simp_all
 obtain⟨f,hf⟩:∃f:Nat->Pr ns.length,∀k,k<ns.length->(f k).1=(ns.length-1-k,((ns[ns.length-1-k]?.getD 0:Nat):Int)):=by
  .refine⟨fun k=>if hk:k<ns.length then ⟨(ns.length-1-k,((ns[ns.length-1-k]?.getD 1:Nat):Int)),hx k hk⟩ else ⟨(ns.length-1-0,((ns[ns.length-1-0]?.getD 1:Nat):Int)),hx 0 hz⟩,fun k hk=>?_⟩
   simp only[dif_pos hk,a5 k hk]
 have bK:=Boxed.new w 3 (.int .i64 (K:Int));have E:((ns.map fun n:Nat=>(n:Int)).length)=ns.length:=BA;have a3:∀j:Nat,(ns.map fun n:Nat=>(n:Int))[j]?.getD 0=((ns[j]?.getD 0:Nat):Int):=by grind
 generalize q:((((w.alloc (Obj.cells #[Value.int .i64 (K:Int)] 3)).alloc (Obj.cells (Array.replicate ns.length (Value.int .i64 0)) 3)).alloc (Obj.cells #[Value.slice (some ⟨w.heap.size+1,0,none⟩) ns.length ns.length] 32)).alloc (Obj.cells #[Value.slice (some ⟨b,off,none⟩) ns.length cap] 32))=W0;have V:W0.heap.size=w.heap.size+4:=by rw[<-q];simp
 have Z:Below w.heap.size w W0:=by
  rw[<-q];exact((((Below.refl _ w).alloc (jF _) _).alloc BA _).alloc NI _).alloc NI _
 refine wpIn_rangeFunc_ownG C Y (gf:=315) (lb := #[.pointer (some ⟨w.heap.size+3,0,none⟩)]) rfl h7 (enters_of Tryz.func315 BC rfl)
  (w0:=W0) (Wz (fun x:Pr ns.length=>x.1) f F (n-1) h7 C U (w.heap.size+3) w.heap.size b off cap (ns.map fun n:Nat=>(n:Int)) (by rw[E];omega) (fun k hk=>by rw[E] at hk;rw[hf k hk,E,a3]) W0 U U hb ?box ?cells)
  (fun h k=>Kb.trans h k) ?keepb (Below.refl _ _) (fun _=>rfl)
  (fun pre W=>((W.cell? ⟨w.heap.size,0,none⟩=some (.int .i64 ((jt ns.length K pre).2:Nat))/\W.frozen? ⟨w.heap.size,0,none⟩=false)/\(∃c,W.heap[w.heap.size+1]?=some (.cells c 3 (0,0))/\c=((jt ns.length K pre).1.map fun n:Nat=>Value.int .i64 (n:Int)).toArray)/\W.cell? ⟨w.heap.size+2,0,none⟩=some (.slice (some ⟨w.heap.size+1,0,none⟩) ns.length ns.length))/\Below w.heap.size w W)
  (fun _ _ _=>False) ?own ?ownx ?start
  (fun x=>{ tmps := #[.slice (some ⟨b,off,none⟩) ns.length cap,.int .i64 (K:Int),undef,.pointer (some ⟨w.heap.size,0,none⟩),.slice none 0 0,.pointer (some ⟨w.heap.size+2,0,none⟩),.int .i64 (x.1.1:Int),.int .i64 x.1.2,.slice (some ⟨b,off,none⟩) ns.length cap,.int .i64 (ns.length:Int),.slice (some ⟨w.heap.size+1,0,none⟩) ns.length ns.length,.slice (some ⟨b,off,none⟩) ns.length cap,.func (.func 315) #[] #[.pointer (some ⟨w.heap.size+3,0,none⟩)],.int .i64 (x.1.1:Int),.int .i64 x.1.2,undef,undef,undef,undef,undef,undef,undef,undef,undef,undef],defers:=[] }) ?assign ?body ?done ?stop
 case box =>
  rw[<-q,E];have h3:=(Boxed.new (((w.alloc (Obj.cells #[Value.int .i64 (K:Int)] 3)).alloc (Obj.cells (Array.replicate ns.length (Value.int .i64 0)) 3)).alloc (Obj.cells #[Value.slice (some ⟨w.heap.size+1,0,none⟩) ns.length ns.length] 32)) 32 (.slice (some ⟨b,off,none⟩) ns.length cap)).cell;simpa using h3
 case cells =>
  intro j hj;rw[E] at hj;rw[a3];exact(Z.cell (p:=⟨b,off+j,none⟩) hb).trans (hc j hj)
 case keepb =>
  intro W l o o' hl d T a6;refine⟨belowK_b (w:=W0) U W l o o' hl d T a6,fun v hv=>?_⟩;exact cell_kept hv (grownBy_putObj' W l o') (fun r e=>by cases e;exact⟨o,d,T⟩)
 case own =>
  refine OwnFrom.and (Own.from (fun s A B row H hg hr=>⟨⟨cell_kept H.1.1 hg hr,(frozen_kept H.1.1 hg hr).trans H.1.2⟩,?_,cell_kept H.2.2 hg hr⟩) _) (ownFrom_below (jF _) U);obtain⟨c,Y,h2⟩:=H.2.1;exact⟨c,(hg.block _ (Array.getElem?_eq_some_iff.1 Y).1 (fun e=>by obtain⟨o,d,J⟩:=hr _ e.symm;rw[Y] at d;cases d;cases J)).trans Y,h2⟩
 case ownx=>exact fun _ _ _ _ _ H _ _=>H
 case start =>
  have g1:=((bK.alloc (Obj.cells (Array.replicate ns.length (Value.int .i64 0)) 3)).alloc (Obj.cells #[Value.slice (some ⟨w.heap.size+1,0,none⟩) ns.length ns.length] 32)).alloc (Obj.cells #[Value.slice (some ⟨b,off,none⟩) ns.length cap] 32);rw[q] at g1;refine⟨⟨⟨g1.cell,g1.frozen⟩,⟨Array.replicate ns.length (Value.int .i64 0),?_,?_⟩,?_⟩,Z⟩
  .rw[<-q]
   refine(Below.heap_alloc _ _ _ BA).trans ((Below.heap_alloc _ _ _ BA).trans ?_);have:=World.alloc_heap_new (w.alloc (Obj.cells #[Value.int .i64 (K:Int)] 3)) (Obj.cells (Array.replicate ns.length (Value.int .i64 0)) 3)
   rwa [World.size_alloc] at this
  .simp [jt]
  .have g2:=(Boxed.new ((w.alloc (Obj.cells #[Value.int .i64 (K:Int)] 3)).alloc (Obj.cells (Array.replicate ns.length (Value.int .i64 0)) 3)) 32 (.slice (some ⟨w.heap.size+1,0,none⟩) ns.length ns.length)).alloc (Obj.cells #[Value.slice (some ⟨b,off,none⟩) ns.length cap] 32)
   rw[q] at g2;have h4:=g2.cell;rw[World.size_alloc,World.size_alloc] at h4;exact h4
 case assign =>
  intro l x W K hK
  gi_wp2
  exact hK
 case body =>
  rintro l pre ⟨⟨xi,xn⟩,L,a7,a8⟩ W ⟨⟨⟨hk,S⟩,⟨c,I,N⟩,Q⟩,P⟩ a9;simp only at L a7 a8;obtain⟨s,H⟩:∃s,(jt ns.length K pre).2=s:=⟨_,rfl⟩;rw[H] at hk
  have ae:s<=1048576:=by
   have:=Mg ns.length K pre;omega
  obtain⟨xm,rfl⟩:∃xm:Nat,xn=(xm:Int):=⟨xn.toNat,U⟩;have X:xm≠0:=U;have O:c.size=ns.length:=by rw[N];simp [AZJ]
  have T:W.frozen? ⟨w.heap.size+1,xi,none⟩=false:=by simp [World.frozen?,I]
  have a4:∃v,W.cell? ⟨w.heap.size+1,xi,none⟩=some v:=⟨c[xi]'U,by simp [World.cell?,I,O,L]⟩;obtain⟨v0,af⟩:=a4;have ac:(0:Int)<=(s:Int)/(xm:Int):=Int.ediv_nonneg U U;have ad:(s:Int)/(xm:Int)<=1048576:=Int.le_trans (Int.ediv_le_self _ U) U
  gi_wp2
  rename_i Qb Kr g;refine wpIn_region_any BC ?_;refine wT (F':=F) (fun i o d=>?_) _ _ _ _ ?_
  .match i,d with
   | 0,d=>cases d;exact⟨rfl,rfl⟩
   | 1,d=>cases d;exact⟨rfl,rfl⟩
   | 2,d=>cases d;exact⟨rfl,rfl⟩
   | 3,d=>cases d;exact⟨rfl,rfl⟩
   | 4,d=>cases d;exact⟨rfl,rfl⟩
   | 5,d=>cases d;exact⟨rfl,rfl⟩
   | 6,d=>cases d;exact⟨rfl,rfl⟩
   | i+7,d=>simp at d
  change wpAnyIn _ _ _ _ _ _ _ _ _ (World.drew _);refine wpAnyIn_take (i:=1) (v := ?_) C rfl BC BC BC (fun _ _ _ h=>h) ⟨Or.inl ⟨by rfl,?_⟩,fun _=>rfl⟩ ?_
  rotate_left
  .intro w;go_simp;rfl
  refine wpAnyIn_take (i:=3) (v := ?_) C rfl BC BC BC (fun _ _ _ h=>h) ⟨Or.inl ⟨by rfl,?_⟩,fun _=>rfl⟩ ?_
  rotate_left
  .intro w;go_simp;rfl
  refine wpAnyIn_ready (rs:=[0,2]) BC BA ?_;refine AllReadyIn.cons rfl (fun K hK=>?_) (AllReadyIn.cons rfl (fun K hK=>?_) AllReadyIn.nil)
  .go_simp
   refine hK _ _ ?_;clear hK K;refine wpAnyIn_ready (rs:=[2]) BC BA ?_;refine AllReadyIn.cons rfl (fun K hK=>?_) AllReadyIn.nil
   go_simp
   refine hK _ _ ?_;clear hK K;refine wpAnyIn_ready (rs:=[4]) BC BA ?_;refine AllReadyIn.cons rfl (fun K hK=>?_) AllReadyIn.nil
   go_simp
   refine hK _ _ ?_;clear hK K;refine wpAnyIn_ready (rs:=[5]) BC BA ?_;refine AllReadyIn.cons rfl (fun K hK=>?_) AllReadyIn.nil
   go_simp
   refine hK _ _ ?_;clear hK K;refine wpAnyIn_ready (rs:=[6]) BC BA ?_;refine AllReadyIn.cons rfl (fun K hK=>?_) AllReadyIn.nil
   go_simp
   refine hK _ _ ?_;clear hK K;refine wpAnyIn_done BC ?_ _;refine g _ _ ?_;clear g
   gi_wp2
   exact tG V L X hk S I N Q P H O
  .go_simp
   refine hK _ _ ?_;clear hK K;refine wpAnyIn_ready (rs:=[0,4]) BC BA ?_;refine AllReadyIn.cons rfl (fun K hK=>?_) (AllReadyIn.cons rfl (fun K hK=>?_) AllReadyIn.nil)
   .go_simp
    refine hK _ _ ?_;clear hK K;refine wpAnyIn_ready (rs:=[4]) BC BA ?_;refine AllReadyIn.cons rfl (fun K hK=>?_) AllReadyIn.nil
    go_simp
    refine hK _ _ ?_;clear hK K;refine wpAnyIn_ready (rs:=[5]) BC BA ?_;refine AllReadyIn.cons rfl (fun K hK=>?_) AllReadyIn.nil
    go_simp
    refine hK _ _ ?_;clear hK K;refine wpAnyIn_ready (rs:=[6]) BC BA ?_;refine AllReadyIn.cons rfl (fun K hK=>?_) AllReadyIn.nil
    go_simp
    refine hK _ _ ?_;clear hK K;refine wpAnyIn_done BC ?_ _;refine g _ _ ?_;clear g
    gi_wp2
    exact tG V L X hk S I N Q P H O
   .go_simp
    refine hK _ _ ?_;clear hK K;refine wpAnyIn_ready (rs:=[0]) BC BA ?_;refine AllReadyIn.cons rfl (fun K hK=>?_) AllReadyIn.nil
    go_simp
    refine hK _ _ ?_;clear hK K;refine wpAnyIn_ready (rs:=[5]) BC BA ?_;refine AllReadyIn.cons rfl (fun K hK=>?_) AllReadyIn.nil
    go_simp
    refine hK _ _ ?_;clear hK K;refine wpAnyIn_ready (rs:=[6]) BC BA ?_;refine AllReadyIn.cons rfl (fun K hK=>?_) AllReadyIn.nil
    go_simp
    refine hK _ _ ?_;clear hK K;refine wpAnyIn_done BC ?_ _;refine g _ _ ?_;clear g
    gi_wp2
    exact tG V L X hk S I N Q P H O
 case done =>
  rintro D ys W hD rfl ⟨⟨_,⟨c,J,he⟩,aa⟩,hB⟩ M
  gi_wp2
  refine⟨BA,.inl ⟨_,_,rfl,run_takeDeferred M,?_⟩⟩;refine⟨_,results_tmp rfl _ _ _,hB.trans (belowK_b (w:=w) (jF _) W D _ _ U M rfl rfl),c,3,rfl,?_,?_⟩
  .exact((grownBy_putObj' W D (.deferred none)).block _ (Array.getElem?_eq_some_iff.1 J).1 (fun e=>by cases e;rw[J] at M;cases M)).trans J
  .intro i hi
   have a0:=Ez ns K f hf ns.length (jF _);rw[Nat.sub_self,List.drop_zero] at a0;rw[E] at he;rw[he,a0];simp [hi]
 case stop =>
  rintro D c pre W _ _ h _;exact h.elim
end Back
namespace Cov
open Sm Bins Go.RowKit
theorem DO (G:Nat->AV):oF G:=by
 intro d s K h T F H hK
 have P:TA d K≠[]:=by
  intro e;have E:(TA d K).length=d.length:=by unfold TA;rw[jI,QG]
  rw[e] at E;simp at E;omega
 have q:d.map KD≠[]:=by
  intro e;have:=congrArg List.length e;simp at this;rw[this] at T;cases T
 refine a_.of_ints (pq 212 G BC) P fun g w f S ha=>?_
 obtain⟨Q,A⟩:=ha
 obtain⟨a0,a1,rfl⟩:∃a b,f = #[a,b]:=by
  obtain⟨l⟩:=f
  match l,Q with
  | [a,b],_=>exact⟨a,b,rfl⟩
 have Z:=(A 0 _ _ rfl rfl).sl_inv;have r1:=(A 1 _ _ rfl rfl).int_inv;subst r1;generalize C:d.map KD=xs at Z
 cases Z with
 | nil=>rw[C] at q;exact absurd rfl q
 | empty=>rw[C] at q;exact absurd rfl q
 | sl _ _ _ I V c e fz cap cv q1 q2 q3 q4 q5 q6 q7 q8 =>
   subst C;have Y:=S.fro _ _ q3;have J:I<w.heap.size:=(Array.getElem?_eq_some_iff.1 Y).1;rw[jI]
   have hc:∀j,j<d.length->w.cell? ⟨I,V+j,none⟩=some (.int .i64 ((d[j]?.getD 0:Nat):Int)):=by
    intro j N;have E:=q5 j 0 (BQ N) U;have X:=q6 j 0 (KD d[j]) (.n (d[j]:Int)) (by rw[List.getElem?_map,jP N];rfl) rfl;rw[Nat.mul_one,Nat.add_zero] at E;rw[VI Y,E,jP N,Option.getD_some];generalize cv j 0=u at X;cases X;rfl
   have M:=Back.ma Fence.wide 3 trivial trivial trivial rfl (jF 3) I V cap d K w J hc F T H hK;refine(callsIn_wide.1 M).mono ?_;rintro e W' ⟨hB,c',ty,rfl,hh,B⟩;have O:(TA d K).length=d.length:=by unfold TA;rw[jI,QG]
   refine⟨hB,w.heap.size+1,c',ty,d.length,by rw[O],Nat.le_succ _,hh,by rw[O];exact jF _,fun i hi=>?_⟩;have L:i<(dp d K).1.length:=by rw[QG,<-O];exact hi
   rw[B i L];simp [TA]
end Cov
namespace Head
variable {s:String} {P:Program}
def signs:List Char:=([104,97,114,110,101,115,115,32,54,57,97,57,99,52,100,99,98,100,53,49,98,99,54,100,49,55,51,51,49,98,54,56,98,55,53,55,53,56,48,52,49,57,97,56,57,99,57,55,53,54,100,48,98,53,101,102,48,56,50,51,98,57,56,54,57,51,99,52,53,100,48,101,32,99,117,116,32,97,116,32,116,101,115,116,98,101,110,99,104,47,116,101,115,116,98,101,110,99,104,108,97,119,53,49,46,67,108,111,115,117,114,101,82,101,97,99,104,101,115,32,116,101,115,116,98,101,110,99,104,47,116,101,115,116,98,101,110,99,104,108,97,119,53,49,46,67,108,111,115,117,114,101,80,108,97,110,115,32,116,101,115,116,98,101,110,99,104,47,116,101,115,116,98,101,110,99,104,108,97,119,53,49,46,67,108,111,115,117,114,101,68,105,118,105,100,101,115,32,116,101,115,116,98,101,110,99,104,47,116,101,115,116,98,101,110,99,104,108,97,119,53,49,46,67,108,111,115,117,114,101,73,116,101,109,115,32,116,101,115,116,98,101,110,99,104,47,116,101,115,116,98,101,110,99,104,108,97,119,53,49,46,67,108,111,115,117,114,101,80,114,111,118,101,115,32,116,101,115,116,98,101,110,99,104,47,116,101,115,116,98,101,110,99,104,108,97,119,53,49,46,67,108,111,115,117,114,101,72,105,116,115]:List Nat).map Char.ofNat
theorem AS3:Tryz.pinned.checked.prog.initOrder=String.ofList signs:=BC
theorem vO {l:List Char}(h:s=String.ofList l):s.toList=l:=by rw[h,String.toList_ofList]
theorem fI:Tryz.pinned.checked.prog.initOrder.toList=signs:=vO AS3
def AGV:List Char:=(signs.drop 73).take 3
def Ay:List (List Char):=wordsSigns (signs.drop 77)
def hsum:List Char:=(signs.drop 8).take 64
theorem oJ:behindMainWord (wordsSigns signs)=AGV::Ay:=BC
theorem Li:wordsSigns signs=signs.take 7::hsum::wordsSigns (signs.drop 73):=BC
theorem D2:stripLifts liftWords (AGV::Ay)=([],AGV::Ay):=BC
theorem AZV:Tryz.pinned.checked.prog.doorFits []=true:=BC
theorem ATQ:Tryz.pinned.checked.prog.laysLater=false:=BC
theorem AXX:Tryz.pinned.checked.prog.bearsReflect=false:=BC
theorem Mv:(AGV == "cut".toList)=true:=BC
theorem Fz:((some AGV)==some "cut".toList)=true:=BC
theorem MY:(AGV == "gc".toList)=false:=BC
theorem AYE:(AGV == "spec".toList)=false:=BC
theorem AYF:(some AGV==some "carried".toList)=false:=BC
theorem sum_is:isSumSigns hsum=true:=BC
theorem Lr:(signs.take 7 == "harness".toList)=true:=BC
theorem AUZ (h:P.initOrder.toList=signs)(c:P.doorFits []=true)(d:P.laysLater=false)(e:P.bearsReflect=false):P.mayEnter=true:=by
 unfold Program.mayEnter;generalize P.initOrder.toList=l at h;subst h;rw[oJ];simp only[D2,c,d,e,jU,List.head?_cons,om,Bool.or_true,Bool.and_true,Fz]
theorem AYS (h:P.initOrder.toList=signs):P.make=some .cut:=by
 unfold Program.make;generalize P.initOrder.toList=l at h;subst h;rw[oJ];simp only[MY,AYE,Mv,zK,Bool.false_eq_true,if_false,Bool.true_or,if_true]
theorem Zs (h:P.initOrder.toList=signs):P.liftsFinal=false:=by
 unfold Program.liftsFinal Program.headLifts;generalize P.initOrder.toList=l at h;subst h;rw[oJ];simp only[D2,List.head?_cons,AYF,Fz,Bool.false_and,Bool.false_or,if_true,jU]
theorem AYT (h:P.initOrder.toList=signs)(hs:s=String.ofList hsum):P.mainIs=some (true,s.toList):=by
 rw[vO hs];unfold Program.mainIs;generalize P.initOrder.toList=l at h;subst h;rw[Li]
 show(if !isSumSigns hsum then none else if signs.take 7 == "harness".toList then some (true,hsum) else if signs.take 7 == "ownmain".toList then some (false,hsum) else none)=_
 rw[sum_is,Lr];rfl
theorem Pc:Tryz.pinned.checked.prog.mayEnter=true:=AUZ fI AZV ATQ AXX
theorem make_is:Tryz.pinned.checked.prog.make=some .cut:=AYS fI
theorem Nc:Tryz.pinned.checked.prog.liftsFinal=false:=Zs fI
theorem PB (c:s=String.ofList hsum):Tryz.pinned.checked.prog.mainIs=some (true,s.toList):=AYT fI c
theorem Q_ (h:P.funcs.any Func.goes=false)(s:String):P.goesFrom s=false:=by
 have c:∀g:FuncId,(P.funcs[g]?).any Func.goes=false:=fun g=>by
  cases d:P.funcs[g]? with
  | none=>rfl
  | some fn =>
    show fn.goes=false;rw[Array.any_eq_false'] at h;have:=h fn (Array.mem_of_getElem? d);simpa using this
 unfold Program.goesFrom
 cases P.funcNamed s with
 | none=>rfl
 | some f =>
   show P.goes f=false;unfold Program.goes;rw[h,Bool.and_false,zK];simp [c]
theorem BBC:Tryz.pinned.checked.prog.funcs.any Func.goes=false:=BC
theorem Ot:Tryz.pinned.checked.prog.stopsHeard=true:=BC
theorem Q':laidOutB Tryz.pinned.checked.prog=true:=BC
theorem PA:mapsRowed Tryz.pinned.checked.prog=true:=BC
end Head
namespace Cov
open Sm Bins Go.RowKit
variable {b:Nat}
def okR (r:cp)(_:Nat):Prop:=(-9223372036854775808<=r.lo/\r.lo<=9223372036854775807)/\(-9223372036854775808<=r.hi/\r.hi<=9223372036854775807)
theorem jy:Tryz.prog.cellsOf 3=1:=BC
theorem q_:Tryz.prog.cellsOf 9=1:=BC
theorem Df:Tryz.prog.cellsOf 84=1:=BC
theorem BAF:Tryz.prog.cellsOf 85=1:=BC
theorem yh:Tryz.prog.cellsOf 23=1:=BC
theorem yg:Tryz.prog.cellsOf 79=4:=BC
theorem BAH:Tryz.prog.cellsOf 80=1:=BC
theorem BAG:Tryz.prog.cellsOf 82=6:=BC
theorem BAE:Tryz.prog.cellsOf 87=4:=BC
theorem BAD:Tryz.prog.cellsOf 90=3:=BC
theorem ta:Tryz.prog.cellsOf 32=1:=BC
theorem tx:Tryz.prog.cellsOf 25=1:=BC
theorem BAN:Tryz.prog.cellsOf 28=1:=BC
theorem BAM:Tryz.prog.cellsOf 29=1:=BC
theorem BAL:Tryz.prog.cellsOf 31=2:=BC
theorem BAJ:Tryz.prog.cellsOf 46=4:=BC
theorem j7:Rd jA 3 bu okI:=Lw Tryz.underlying3
theorem rdStr:Rd jA 9 cu okS:=Lv Tryz.underlying9
theorem QB {α:Type}{d:α->Nat->Prop}{xs:List α}(h:∃c,c+1<=b/\e_ d xs c):e_ d xs b:=by obtain⟨c,f,e⟩:=h;exact e.mono U
def ql (x:Is)(b:Nat):Prop:=e_ okI x.l b
theorem wg:Rd jA 32 LW ql:=by
 intro n
 cases n with
 | zero=>exact c7.zero
 | succ n=>exact c7.map (fun x:SM×List Int=>(⟨x.1,x.2⟩:Is)) (ML Tryz.underlying32 jy DX (fun _=>rfl) (j7 n)) (fun _=>rfl) (fun x b h=>QB h)
def lz (e:Ex)(b:Nat):Prop:=wt e<=b
theorem D_:∀ {l:List Ex} {b:Nat},e_ lz l b->wts l<=b
 | [],b,_=>Nat.zero_le _
 | x::xs,b,⟨e,f,g,_,c,d⟩=>by
   have:=D_ d;simp only[wts];unfold lz at c;omega
theorem Kg:∀n:Nat,c7 jA n 79 AQ lz:=by
 intro n
 induction n using Nat.strongRecOn with
 | _ n e =>
   match n,e with
   | 0,_=>exact c7.zero
   | 1,_ =>
     intro H i w Y d ps h;obtain⟨q,m,hm,_,_,J,K⟩:=DataW.trod_struct Tryz.underlying79 h;obtain rfl:m=0:=U;have:=K 0 _ rfl;simp only[DataW.trod] at this
     have A:q=[]:=by cases q with
      | nil=>rfl
      | cons a l=>simp at this
     subst A;simp at J
   | n+2,e =>
     have f:c7 jA (n+1) 23 (fun x:SM×List Ex=>[.sl x.1 4 (x.2.map AQ)]) (fun x b=>∃g,g+1<=b/\e_ lz x.2 g):=ML Tryz.underlying23 yg DX EF (e n U)
     refine c7.map (fun x:Int×Int×ByteArray×(SM×List Ex)×Unit=>Ex.mk x.1 x.2.1 x.2.2.1 x.2.2.2.1.1 x.2.2.2.1.2)
      (MH Tryz.underlying79 (EY rfl jy (fun _=>rfl) (j7 _) (EY rfl jy (fun _=>rfl) (j7 _) (EY rfl q_ (fun _=>rfl) (rdStr _) (EY rfl yh (fun _=>rfl) f PZ))))) (fun x=>by rw[FP];rfl) ?_
     rintro⟨a,b,c,d,_⟩ N ⟨_,hN,L,M,hb,Z,O,P,E,h2,Q,S,F,j,T,V,I,⟨X,h5,B⟩,_⟩;have C:=D_ B;unfold okS at j;show wt _<=_;rw[OI];simp only[Ex.name,Ex.args];simp only at j C;omega
theorem rdR:Rd jA 145 encR okR:=by
 intro n
 cases n with
 | zero=>exact c7.zero
 | succ n =>
   refine c7.map (fun x:Int×Int×Unit=>(⟨x.1,x.2.1⟩:cp)) (MH Tryz.underlying145 (EY rfl jy (fun _=>rfl) (j7 n) (EY rfl jy (fun _=>rfl) (j7 n) PZ))) (fun _=>rfl) ?_;rintro⟨a,b,_⟩ N ⟨_,_,_,_,_,c,_,_,_,d,_⟩;exact⟨c,d⟩
theorem Ph:Tryz.prog.cellsOf 145=2:=BC
def wj (x:Rs)(b:Nat):Prop:=e_ okR x.l b
theorem CK:Rd jA 84 encS wj:=by
 intro n
 cases n with
 | zero=>exact c7.zero
 | succ n=>exact c7.map (fun x:SM×List cp=>(⟨x.1,x.2⟩:Rs)) (ML Tryz.underlying84 Ph DX gM (rdR n)) (fun _=>rfl) (fun x b h=>QB h)
def okB (x:Bin)(b:Nat):Prop:=∃c d e,c+d+e<=b/\okS x.name c/\wj x.ranges d/\e_ wj x.steps e
theorem rdB:Rd jA 87 JD okB:=by
 intro n
 match n with
 | 0=>exact c7.zero
 | 1 =>
   intro H g w V d ps h;obtain⟨i,m,hm,_,_,L,M⟩:=DataW.trod_struct Tryz.underlying87 h;obtain rfl:m=0:=U;have:=M 0 _ rfl;simp only[DataW.trod] at this
   have B:i=[]:=by cases i with
    | nil=>rfl
    | cons a l=>simp at this
   subst B;simp at L
 | n+2 =>
   have e:c7 jA (n+1) 85 (fun x:SM×List Rs=>[.sl x.1 1 (x.2.map encS)]) (fun x b=>∃f,f+1<=b/\e_ wj x.2 f):=ML Tryz.underlying85 Df DX (fun _=>rfl) (CK n)
   refine c7.map (fun x:ByteArray×Int×Rs×(SM×List Rs)×Unit=>(⟨x.1,x.2.1,x.2.2.1,x.2.2.2.1.1,x.2.2.2.1.2⟩:Bin))
    (MH Tryz.underlying87 (EY rfl q_ (fun _=>rfl) (rdStr _) (EY rfl jy (fun _=>rfl) (j7 _) (EY rfl Df (fun _=>rfl) (CK _) (EY rfl BAF (fun _=>rfl) e PZ))))) (fun _=>rfl) ?_
   rintro⟨a,b,c,d,_⟩ N ⟨_,Y,j,O,Z,C,P,Q,I,X,q,S,J,E,A,T,K,F,_⟩;exact⟨j,q,A,U,C,E,QB F⟩
theorem AV1 {x:Bin}(h:okB x b)(F:b<=1048576):kq x:=by
 obtain⟨j,q,A,C,e,f,d⟩:=h;have H:=f.length;have I:=d.length
 have i:∀l∈sets x,l.l.length<=1048576:=by
  intro l c;unfold sets at c;split at c
  .simp at c;subst c;omega
  .obtain⟨B,E,g⟩:=d.each l c
   have:=g.length;omega
 refine⟨?_,?_,U,fun l c=>by have:=i l c;omega⟩
 .unfold sets
  split
  .simp
  .omega
 .unfold okS at e;omega
theorem dV {t:TypeId}{f:Field}{g:List Field}{α:Type}{enc:α->List AV}{B:α->Nat->Prop}(q:Tryz.prog.underlying t=some (.struct (f::g).toArray)):c7 jA 1 t enc B:=by
 intro H c w C d F h;obtain⟨e,m,E,_,_,j,A⟩:=DataW.trod_struct q h;obtain rfl:m=0:=U;have:=A 0 _ rfl;simp only[DataW.trod] at this
 have i:e=[]:=by cases e with
  | nil=>rfl
  | cons a l=>simp at this
 subst i;simp at j
def wk (p:Pt)(b:Nat):Prop:=∃c d e,c+d+e<=b/\okS p.name c/\lz p.ex d/\e_ okB p.bins e
theorem rdP:Rd jA 82 GL wk:=by
 intro n
 match n with
 | 0=>exact c7.zero
 | 1=>exact dV Tryz.underlying82
 | n+2 =>
   have d:c7 jA (n+1) 80 (fun x:SM×List Bin=>[.sl x.1 4 (x.2.map JD)]) (fun x b=>∃e,e+1<=b/\e_ okB x.2 e):=ML Tryz.underlying80 BAE DX MP (rdB n)
   refine c7.map (fun x:ByteArray×Ex×(SM×List Bin)×Unit=>(⟨x.1,x.2.1,x.2.2.1.1,x.2.2.1.2⟩:Pt))
    (MH Tryz.underlying82 (EY rfl q_ (fun _=>rfl) (rdStr _) (EY rfl yg EF (Kg _) (EY rfl BAH (fun _=>rfl) d PZ)))) (fun x=>rfl) ?_
   rintro⟨a,b,c,_⟩ N ⟨_,H,f,C,I,i,g,E,A,j,h,F,B,q,_⟩;exact⟨f,g,h,U,i,j,QB q⟩
def wq (c:Cr)(b:Nat):Prop:=∃d e f,d+e+f<=b/\okS c.name d/\e_ okI c.pts e/\e_ ql c.excl f
theorem rdC:Rd jA 90 IM wq:=by
 intro n
 match n with
 | 0=>exact c7.zero
 | 1=>exact dV Tryz.underlying90
 | n+2 =>
   have d:c7 jA (n+1) 25 (fun x:SM×List Is=>[.sl x.1 1 (x.2.map LW)]) (fun x b=>∃e,e+1<=b/\e_ ql x.2 e):=ML Tryz.underlying25 ta DX gQ (wg n)
   refine c7.map (fun x:ByteArray×Is×(SM×List Is)×Unit=>(⟨x.1,x.2.1.m,x.2.1.l,x.2.2.1.1,x.2.2.1.2⟩:Cr))
    (MH Tryz.underlying90 (EY rfl q_ (fun _=>rfl) (rdStr _) (EY rfl ta gQ (wg _) (EY rfl tx (fun _=>rfl) d PZ)))) (fun x=>rfl) ?_
   rintro⟨a,b,c,_⟩ N ⟨_,H,f,C,I,i,g,E,A,j,h,F,B,q,_⟩;exact⟨f,g,h,U,i,j,QB q⟩
def Bc (m:Mo)(b:Nat):Prop:=∃c d,c+d<=b/\e_ wk m.pts c/\e_ wq m.crs d
theorem rdM:Rd jA 31 C9 Bc:=by
 intro n
 match n with
 | 0=>exact c7.zero
 | 1=>exact dV Tryz.underlying31
 | n+2 =>
   have e:c7 jA (n+1) 28 (fun x:SM×List Pt=>[.sl x.1 6 (x.2.map GL)]) (fun x b=>∃c,c+1<=b/\e_ wk x.2 c):=ML Tryz.underlying28 BAG DX JH (rdP n);have d:c7 jA (n+1) 29 (fun x:SM×List Cr=>[.sl x.1 3 (x.2.map IM)]) (fun x b=>∃c,c+1<=b/\e_ wq x.2 c):=ML Tryz.underlying29 BAD DX NF (rdC n)
   refine c7.map (fun x:(SM×List Pt)×(SM×List Cr)×Unit=>(⟨x.1.1,x.1.2,x.2.1.1,x.2.1.2⟩:Mo))
    (MH Tryz.underlying31 (EY rfl BAN (fun _=>rfl) e (EY rfl BAM (fun _=>rfl) d PZ))) (fun x=>rfl) ?_
   rintro⟨a,b,_⟩ N ⟨_,B,f,q,C,h,g,A,j,i,_⟩;exact⟨f,g,U,QB h,QB i⟩
def okV (v:eu)(b:Nat):Prop:=∃c d,c+d<=b/\e_ ql v.pts c/\e_ ql v.crs d
theorem rdV:Rd jA 46 bt okV:=by
 intro n
 match n with
 | 0=>exact c7.zero
 | 1=>exact dV Tryz.underlying46
 | n+2 =>
   have e:c7 jA (n+1) 25 (fun x:SM×List Is=>[.sl x.1 1 (x.2.map LW)]) (fun x b=>∃f,f+1<=b/\e_ ql x.2 f):=ML Tryz.underlying25 ta DX gQ (wg n)
   refine c7.map (fun x:(SM×List Is)×(SM×List Is)×Int×Int×Unit=>(⟨x.1.1,x.1.2,x.2.1.1,x.2.1.2,x.2.2.1,x.2.2.2.1⟩:eu))
    (MH Tryz.underlying46 (EY rfl tx (fun _=>rfl) e (EY rfl tx (fun _=>rfl) e (EY rfl jy (fun _=>rfl) (j7 _) (EY rfl jy (fun _=>rfl) (j7 _) PZ))))) (fun x=>rfl) ?_
   rintro⟨a,b,c,d,_⟩ N ⟨_,C,g,A,E,i,h,B,q,j,_⟩;exact⟨g,h,U,QB i,QB j⟩
theorem AX0 {p:Pt}(h:wk p b)(E:b<=1048576):ng p:=by
 obtain⟨i,j,q,B,d,e,c⟩:=h;have F:=c.length;unfold okS at d;unfold lz at e;refine⟨U,U,U,fun x g=>?_⟩;obtain⟨A,C,f⟩:=c.each x g;exact AV1 f U
theorem AZ1 {c:Cr}(h:wq c b)(F:b<=1048576):m9 c:=by
 obtain⟨j,q,A,C,e,f,d⟩:=h;have H:=f.length;have I:=d.length;unfold okS at e;refine⟨U,U,U,fun x i=>?_⟩;obtain⟨B,E,g⟩:=d.each x i;have:=e_.length g;omega
theorem AYM {m:Mo}(h:Bc m b)(E:b<=1048576):dt m:=by
 obtain⟨A,B,C,e,f⟩:=h;have F:=e.length;have H:=f.length;refine⟨U,U,fun p q=>?_,fun c j=>?_⟩
 .obtain⟨g,i,d⟩:=e.each p q
  exact AX0 d U
 .obtain⟨g,i,d⟩:=f.each c j
  exact AZ1 d U
theorem AZX {v:eu}(h:okV v b)(B:b<=1048576):jc v:=by
 obtain⟨j,q,A,e,f⟩:=h;have C:=e.length;have E:=f.length;refine⟨U,U,fun x d=>?_,fun x d=>?_⟩
 .obtain⟨g,i,c⟩:=e.each x d
  have:=e_.length c;omega
 .obtain⟨g,i,c⟩:=f.each x d
  have:=e_.length c;omega
end Cov
namespace Bd.Cl
open Sm Bins Cov Xe Wd Bl Ho Go.RowKit
variable {m:Mo} {v:eu} {p:Pr}
def PX (g:Gl):Hl:=⟨g.cross,g.idx,g.bm,g.bins⟩
theorem AY9 (C:dt m):∀g∈goals m,g.bins.length<=1048576:=by
 have E:∀(i:Nat) (p:Pt) (k:Nat),∀g∈ja i p k,g.bins.length<=1048576:=by
  intro i p k
  induction k with
  | zero=>intro g d;cases d
  | succ k e =>
    intro g d;rcases zQ.1 d with h|h
    .exact e g h
    .split at h
     .rw[wH.1 h];show 1<=_;omega
     .cases h
 have j:∀k,∀g∈gP m k,g.bins.length<=1048576:=by
  intro k
  induction k with
  | zero=>intro g d;cases d
  | succ k e =>
    intro g d;rcases zQ.1 d with h|h
    .exact e g h
    .grind
 have q:∀(i:Nat) (c:Cr),c.pts.length<=1048576->∀k,∀g∈i_ m i c k,g.bins.length<=1048576:=by
  intro i c B k
  induction k with
  | zero=>intro g d;cases d
  | succ k e =>
    intro g d;rcases zQ.1 d with h|h
    .exact e g h
    .split at h
     .rw[wH.1 h]
      show(TA (szs m c.pts) k).length<=_;unfold TA;rw[jI,QG,KT];exact B
     .cases h
 have A:∀k,∀g∈gC m k,g.bins.length<=1048576:=by
  intro k
  induction k with
  | zero=>exact j _
  | succ k e =>
    intro g d;rcases zQ.1 d with h|h
    .exact e g h
    .cases f:m.crs[k]? with
     | none=>rw[f] at h;cases h
     | some c=>rw[f] at h;exact q _ _ (C.crs c (qC f)).pts _ g h
 exact A _
theorem y6 (d:dt m):∀g∈KA m v,(PX g).bins.length<=1048576:=by
 intro g c;unfold KA at c;split at c
 .exact AY9 d g (List.mem_filter.1 c).1
 .cases c
theorem Aa (m:Mo)(v:eu):(KA m v).length<=8192:=by
 unfold KA;split
 .rename_i c
  exact Nat.le_trans (List.length_filter_le _ _) (kC (TY (eE c)))
 .exact Nat.zero_le _
def dM (f:Gl->Int)(most:Int)(s:List Gl×List Gl)(g:Gl):List Gl×List Gl :=
 if f g=11 then (s.1,s.2++[g]) else if f g=0/\(s.1.length:Int)<most then (s.1++[g],s.2) else s
def UU (f:Gl->Int)(most:Int)(L:List Gl):List Gl×List Gl:=L.foldl (dM f most) ([],[])
theorem wN (f:Gl->Int)(most:Int)(L:List Gl)(g:Gl):UU f most (L++[g])=dM f most (UU f most L) g:=by unfold UU;rw[List.foldl_append];rfl
theorem pQ (f:Gl->Int)(most:Int)(L:List Gl):(UU f most L).1.length<=L.length/\(UU f most L).2.length<=L.length:=by
 have:∀(L:List Gl) (s:List Gl×List Gl),(L.foldl (dM f most) s).1.length<=s.1.length+L.length/\(L.foldl (dM f most) s).2.length<=s.2.length+L.length:=by
  intro L
  induction L with
  | nil=>intro s;exact⟨jF _,jF _⟩
  | cons g L c =>
    intro s;obtain⟨d,e⟩:=c (dM f most s g)
    have i:(dM f most s g).1.length<=s.1.length+1/\(dM f most s g).2.length<=s.2.length+1:=by
     unfold dM;split
     .exact⟨Nat.le_succ _,BA⟩
     .grind
    rw[List.foldl_cons,zF];omega
 have h:=this L ([],[]);unfold UU;simpa using h
def my (p:Pr)(m:Mo)(v:eu)(most:Int):Int:=if JY p≠0\/F6 m≠0\/MC m v=false\/most<0\/1024<most then 1 else 0
def XN (s:Bw)(ins:Ex->List cp->Ex)(p:Pr)(m:Mo)(v:eu)(most:Int):List Gl×List Gl:=if my p m v most=0 then UU (fun g=>NE s ins p m (PX g)) most (KA m v) else ([],[])
def mw (s:Bw)(ins:Ex->List cp->Ex)(p:Pr)(m:Mo)(v:eu)(most:Int):AV:=.tup [.sl (Cov.nm (XN s ins p m v most).1) 3 ((XN s ins p m v most).1.map Cov.dr),.sl (Cov.nm (XN s ins p m v most).2) 3 ((XN s ins p m v most).2.map Cov.dr),.n (my p m v most)]
def o_ (s:Bw)(ins:Ex->List cp->Ex)(p:Pr)(m:Mo)(v:eu)(most:Int):AV:=.tup [gn 3 Cov.dr (XN s ins p m v most).1,gn 3 Cov.dr (XN s ins p m v most).2,.n (my p m v most)]
theorem He (s:Bw)(ins:Ex->List cp->Ex)(p:Pr)(m:Mo)(v:eu)(most:Int):cz (o_ s ins p m v most) (mw s ins p m v most):=cz.tup (cq.cons XC (cq.cons XC (cq.cons (cz.refl _) cq.nil)))
theorem LI (p:Pr)(m:Mo)(v:eu)(most:Int):XN de GI p m v most=XN c6 FT p m v most:=by
 unfold XN;have:(fun g=>NE de GI p m (PX g))=fun g=>NE c6 FT p m (PX g):=funext fun g=>(Lx p m (PX g)).1
 rw[this]
theorem QH {s:Bw}{ins:Ex->List cp->Ex}{most:Int}(h:JY p≠0\/F6 m≠0\/MC m v=false\/most<0\/1024<most):o_ s ins p m v most=.tup [.sl .nil 0 [],.sl .nil 0 [],.n 1]:=by
 have e:my p m v most=1:=by unfold my;rw[if_pos h]
 unfold o_ XN;rw[e,if_neg DX];rfl
theorem Hd {s:Bw}{ins:Ex->List cp->Ex}{most:Int}(h:¬(JY p≠0\/F6 m≠0\/MC m v=false\/most<0\/1024<most)):o_ s ins p m v most=.tup [gn 3 Cov.dr (UU (fun g=>NE s ins p m (PX g)) most (KA m v)).1,gn 3 Cov.dr (UU (fun g=>NE s ins p m (PX g)) most (KA m v)).2,.n 0]:=by
 have e:my p m v most=0:=by unfold my;rw[if_neg h]
 unfold o_ XN;rw[e,if_pos rfl]
theorem BA8 (h:Hp):H9 jA h 34=some (.ptr h.length 0 0,h++[qH 3 [[.bool false,.n 0,.sl .nil 0 []]]]):=FZ (row:=[.bool false,.n 0,.sl .nil 0 []]) BC
theorem Rt (h:Hp)(x:Hl):D7 jA (h++[qH 3 [[.bool false,.n 0,.sl .nil 0 []]]]) 34 (.ptr h.length 0 0) (.agg (FH x))=some (h++[qH 3 [FH x]]):=by
 rw[JV (cs:=FH x) (row:=[.bool false,.n 0,.sl .nil 0 []]) rfl dL (A8 _ _) (jF 3),KZ];rfl
theorem vl (h:Hp)(x:Hl):DR jA false h 49 1 [(0,.agg (FH x))]=some (.sl .full 3 [FH x],h):=BC
section
variable (G:Nat->AV)
theorem Kn (hG:fm G)(p:Pr)(hs:fp p)(hb:j8 p)(m:Mo)(hm:dt m)(v:eu)(most:Int)(hF:∀h,a_ (En G) 55 [.agg (C9 m),.agg (Cov.bt v)] h (.bool (MC m v)))(hH:∀h,a_ (En G) 21 [.agg (C9 m),.agg (Cov.bt v)] h (.sl (Cov.nm (KA m v)) 3 ((KA m v).map Cov.dr)))(h:Hp):a_ (En G) 17 [.agg (CW p),.agg (C9 m),.agg (Cov.bt v),.n most] h (mw c6 FT p m v most):=by
 refine a_.res ?_ (He c6 FT p m v most);refine ACalls.pure (R:=fun u H=>Sm.ext h H/\FK h.length H 3 u=o_ c6 FT p m v most) 3 ?_ (fun v H ⟨a,b⟩=>⟨a,b⟩);refine e7 Tryz.func17 [.tmp 8,.tmp 9,.tmp 10] ?_;have gp:=AU (x:=qH 4 [Cov.bt v]) (AU (x:=qH 2 [C9 m]) (A8 h (qH 5 [CW p])));have T:=AU (x:=qH 4 [Cov.bt v]) (A8 (h++[qH 5 [CW p]]) (qH 2 [C9 m]));have gv:=A8 (h++[qH 5 [CW p]]++[qH 2 [C9 m]]) (qH 4 [Cov.bt v]);have N:Sm.ext h (h++[qH 5 [CW p]]++[qH 2 [C9 m]]++[qH 4 [Cov.bt v]]):=(((ext.rfl' h).app _).app _).app _;refine DC @QE @er @Cov.k6 ?_
 generalize h++[qH 5 [CW p]]++[qH 2 [C9 m]]++[qH 4 [Cov.bt v]]=H0 at gp T gv N|-
 generalize (h++[qH 5 [CW p]]++[qH 2 [C9 m]]).length=vb at gv|-
 generalize (h++[qH 5 [CW p]]).length=mb at T|-
 refine A7 (UW gp) ?_;refine(Bd.df G hG p hs H0).use ?_;cases j:(JY p != 0)
 case true =>
  have q:JY p≠0:=BQ j;refine A7 j ?_;exact⟨N,by rw[QH (.inl q)];rfl⟩
 have E:JY p=0:=BQ j;refine AZ j (dk T) ?_;refine(TE G hG m hm H0).use ?_;cases B:(F6 m != 0)
 case true =>
  have q:F6 m≠0:=BQ B;refine AZ j B ?_;exact⟨N,by rw[QH (.inr (.inl q))];rfl⟩
 have I:F6 m=0:=BQ B;refine EH j B (dk T) (Cov.jo gv) ?_;refine(hF H0).use ?_;cases O:MC m v
 case false =>
  refine DC j B O ?_;exact⟨N,by rw[QH (.inr (.inr (.inl O)))];rfl⟩
 refine DC j B O ?_;cases Q:decide (most<0)
 case true =>
  refine EH j B O Q ?_;exact⟨N,by rw[QH (.inr (.inr (.inr (.inl (of_decide_eq_true Q)))))];rfl⟩
 refine A7 Q ?_;cases b5:decide (most>1024)
 case true =>
  refine G7 j B O Q b5 ?_;exact⟨N,by rw[QH (.inr (.inr (.inr (.inr (of_decide_eq_true b5)))))];rfl⟩
 have ab:=Hd (s:=c6) (ins:=FT) (p:=p) (m:=m) (v:=v) (most:=most) (by
  have:=of_decide_eq_false Q;have:=of_decide_eq_false b5;rintro (q|q|q|q|q)
  .exact q E
  .exact q I
  .rw[O] at q;cases q
  .omega
  .omega)
 refine LJ j B O Q b5 (dk T) (Cov.jo gv) ?_;refine(hH H0).use ?_;have M:=y6 (v:=v) hm;have a9:=Aa m v;rw[ab]
 generalize KA m v=L at M a9|-
 have Z:∀k,(UU (fun g=>NE c6 FT p m (PX g)) most (L.take k)).1.length<=8192/\(UU (fun g=>NE c6 FT p m (PX g)) most (L.take k)).2.length<=8192:=fun k=>by
  have h1:=pQ (fun g=>NE c6 FT p m (PX g)) most (L.take k);have:(L.take k).length<=L.length:=by rw[jT];omega
  omega
 generalize hf:(fun g=>NE c6 FT p m (PX g))=f at Z|-
 have a8:∀g,NE c6 FT p m (PX g)=f g:=fun g=>by rw[<-hf]
 refine AB ?_
 refine BB (fun n F H=>∃k J K,n+k=L.length/\F 3=.n most/\F 4=.ptr h.length 0 0/\F 5=.ptr mb 0 0/\F 11=J/\F 12=K/\F 41=.sl (Cov.nm L) 3 (L.map Cov.dr)/\F 42=.n (L.length:Nat)/\F 43=.n (k:Nat)/\Sm.ext H0 H/\bw 3 Cov.dr H0 (UU f most (L.take k)).1 J H/\bw 3 Cov.dr H0 (UU f most (L.take k)).2 K H/\∀b,db J b->¬db K b) L.length
  ⟨0,.sl .nil 0 [],.sl .nil 0 [],BA,AL,AL,AL,AL,AL,AL,AL,AL,ext.rfl' _,bw.nil _ _ _ _,bw.nil _ _ _ _,fun b q=>q.elim⟩ ?_
 rintro n F H ⟨k,J,K,hk,f3,f4,f5,f11,f12,a6,a7,e,a0,i,A,sep⟩;refine AZ a7 e ?_;refine DV ?_ ?_<;>intro C
 .have aa:=jH C
  have ac:=Z k;have c:UU f most (L.take (k+1))=dM f most (UU f most (L.take k)) L[k]:=by rw[jW C,wN]
  unfold dM at c;have lr:BR jA H 34 (.fptr 3 (L.map Cov.dr) k 0)=some (.agg (FH (PX L[k]))):=by rw[DL qu dL (f:=Cov.dr) (fun g=>rfl) C];rfl
  have d:=a0.app [qH 3 [FH (PX L[k])]];have i:=i.app [qH 3 [FH (PX L[k])]];have A:=A.app [qH 3 [FH (PX L[k])]];have Y:=A8 H (qH 3 [FH (PX L[k])]);refine LJ qi a6 e C lr BA8 Rt ?_
  generalize H++[qH 3 [FH (PX L[k])]]=H1 at d i A Y|-
  generalize H.length=gb at Y|-
  refine G7 f4 f5 (UW (DZ d gp)) (dk (DZ d T)) (kl Y) ?_;refine(eS G hG p hs hb m hm (PX L[k]) (M _ aa) H1).use ?_;unfold nw;rw[a8];generalize UU f most (L.take k)=s at i A ac c;cases S:(f L[k]==11)
  .have n1:f L[k]≠11:=BQ S
   rw[if_neg n1] at c;cases X:(f L[k]==0)
   .have n2:f L[k]≠0:=BQ X
    rw[if_neg (fun q=>n2 q.1)] at c;refine EH S X e (CZ k) ?_;exact⟨n-1,U,k+1,J,K,U,AO,AO,AO,AO,AO,AO,AO,AO,d,by rw[c];exact i,by rw[c];exact A,sep⟩
   .have n2:f L[k]=0:=BQ X
    cases c3:decide (((s.1.length:Nat):Int)<most)
    .rw[if_neg (fun q=>of_decide_eq_false c3 q.2)] at c
     refine N7 S X f3 f11 (i.len nz) c3 e (CZ k) ?_;exact⟨n-1,U,k+1,J,K,U,AO,AO,AO,AO,AO,AO,AO,AO,d,by rw[c];exact i,by rw[c];exact A,sep⟩
    .rw[if_pos ⟨n2,of_decide_eq_true c3⟩] at c
     obtain⟨v',H',V,a2,a3,a4,_,a5⟩:=i.append (P:=jA) pa dL o8 qq U U d L[k];change EJ jA true H1 49 49 J (.sl .full 3 [FH (PX L[k])])=_ at V;refine V3 S X f3 f11 (i.len nz) c3 (kl Y) @vl V e (CZ k) ?_;exact⟨n-1,U,k+1,v',K,U,AO,AO,AO,AO,AO,AO,AO,AO,a4,by rw[c];exact a2,by rw[c];exact A.keepA a3 (fun b E I=>sep b I E),fun b E I=>by have:=a5 b E;have:=(A.lt I).2;omega⟩
  .have n1:f L[k]=11:=BQ S
   rw[if_pos n1] at c;obtain⟨v',H',V,a2,a3,a4,_,a5⟩:=A.append (P:=jA) pa dL o8 qq U U d L[k];change EJ jA true H1 49 49 K (.sl .full 3 [FH (PX L[k])])=_ at V;refine LJ S f12 (kl Y) @vl V e (CZ k) ?_;exact⟨n-1,U,k+1,J,v',U,AO,AO,AO,AO,AO,AO,AO,AO,a4,by rw[c];exact i.keepA a3 (fun b E I=>sep b E I),by rw[c];exact a2,fun b E I=>by have:=a5 b I;have:=(i.lt E).2;omega⟩
 .rw[jK U] at i A
  refine AZ f11 f12 ?_;refine⟨N.trans a0,?_⟩;have hle:=N.le;show AV.tup [FK h.length H 2 J,FK h.length H 2 K,_]=_;rw[KC Cov.k7 i h.length 0 U,KC Cov.k7 A h.length 0 U];rfl
theorem Dw (c:fm G)(p:Pr)(g:fp p)(f:j8 p)(m:Mo)(d:dt m)(v:eu)(e:jc v)(most:Int)(h:Hp):a_ (En G) 17 [.agg (CW p),.agg (C9 m),.agg (Cov.bt v),.n most] h (mw c6 FT p m v most) :=
 Kn G c p g f m d v most (gx G c (DO G) m v d e) (V0 G c (DO G) m v d e) h
theorem AWO (p:Pr)(hs:fp p)(hb:j8 p)(m:Mo)(X:dt m)(v:eu)(hv:jc v)(most:Int)(h:Hp):a_ (En G) 18 [.agg (CW p),.agg (C9 m),.agg (Cov.bt v),.n most] h (mw de GI p m v most):=by
 refine a_.res ?_ (He de GI p m v most);refine ACalls.pure (R:=fun u H=>Sm.ext h H/\FK h.length H 3 u=o_ de GI p m v most) 3 ?_ (fun v H ⟨a,b⟩=>⟨a,b⟩);refine e7 Tryz.func18 [.tmp 8,.tmp 9,.tmp 10] ?_;have gp:=AU (x:=qH 4 [Cov.bt v]) (AU (x:=qH 2 [C9 m]) (A8 h (qH 5 [CW p])));have T:=AU (x:=qH 4 [Cov.bt v]) (A8 (h++[qH 5 [CW p]]) (qH 2 [C9 m]));have gv:=A8 (h++[qH 5 [CW p]]++[qH 2 [C9 m]]) (qH 4 [Cov.bt v]);have K:Sm.ext h (h++[qH 5 [CW p]]++[qH 2 [C9 m]]++[qH 4 [Cov.bt v]]):=(((ext.rfl' h).app _).app _).app _;refine DC @QE @er @Cov.k6 ?_
 generalize h++[qH 5 [CW p]]++[qH 2 [C9 m]]++[qH 4 [Cov.bt v]]=H0 at gp T gv K|-
 generalize (h++[qH 5 [CW p]]++[qH 2 [C9 m]]).length=vb at gv|-
 generalize (h++[qH 5 [CW p]]).length=mb at T|-
 refine A7 (UW gp) ?_;refine(Bd.dq G p hs H0).use ?_;cases i:(JY p != 0)
 case true =>
  have q:JY p≠0:=BQ i;refine A7 i ?_;exact⟨K,by rw[QH (.inl q)];rfl⟩
 have B:JY p=0:=BQ i;refine AZ i (dk T) ?_;refine(XP G m X H0).use ?_;cases A:(F6 m != 0)
 case true =>
  have q:F6 m≠0:=BQ A;refine AZ i A ?_;exact⟨K,by rw[QH (.inr (.inl q))];rfl⟩
 have C:F6 m=0:=BQ A;refine EH i A (dk T) (Cov.jo gv) ?_;refine(Fm G m v X hv H0).use ?_;cases N:MC m v
 case false =>
  refine DC i A N ?_;exact⟨K,by rw[QH (.inr (.inr (.inl N)))];rfl⟩
 refine DC i A N ?_;cases Q:decide (most<0)
 case true =>
  refine EH i A N Q ?_;exact⟨K,by rw[QH (.inr (.inr (.inr (.inl (of_decide_eq_true Q)))))];rfl⟩
 refine A7 Q ?_;cases Z:decide (most>1024)
 case true =>
  refine G7 i A N Q Z ?_;exact⟨K,by rw[QH (.inr (.inr (.inr (.inr (of_decide_eq_true Z)))))];rfl⟩
 have a8:=Hd (s:=de) (ins:=GI) (p:=p) (m:=m) (v:=v) (most:=most) (by
  have:=of_decide_eq_false Q;have:=of_decide_eq_false Z;rintro (q|q|q|q|q)
  .exact q B
  .exact q C
  .rw[N] at q;cases q
  .omega
  .omega)
 refine LJ i A N Q Z (dk T) (Cov.jo gv) ?_;refine(Ym G m v X hv H0).use ?_;have J:=y6 (v:=v) X;have a6:=Aa m v;rw[a8]
 generalize KA m v=L at J a6|-
 have Y:∀k,(UU (fun g=>NE de GI p m (PX g)) most (L.take k)).1.length<=8192/\(UU (fun g=>NE de GI p m (PX g)) most (L.take k)).2.length<=8192:=fun k=>by
  have h1:=pQ (fun g=>NE de GI p m (PX g)) most (L.take k);have:(L.take k).length<=L.length:=by rw[jT];omega
  omega
 generalize hf:(fun g=>NE de GI p m (PX g))=f at Y|-
 have a0:∀g,NE de GI p m (PX g)=f g:=fun g=>by rw[<-hf]
 refine AB ?_
 refine BB (fun n F H=>∃k E I,n+k=L.length/\F 3=.n most/\F 4=.ptr h.length 0 0/\F 5=.ptr mb 0 0/\F 12=E/\F 13=I/\F 11=.sl (Cov.nm L) 3 (L.map Cov.dr)/\F 14=.n (k:Nat)/\Sm.ext H0 H/\bw 3 Cov.dr H0 (UU f most (L.take k)).1 E H/\bw 3 Cov.dr H0 (UU f most (L.take k)).2 I H/\∀b,db E b->¬db I b) L.length
  ⟨0,.sl .nil 0 [],.sl .nil 0 [],BA,AL,AL,AL,AL,AL,AL,AL,ext.rfl' _,bw.nil _ _ _ _,bw.nil _ _ _ _,fun b q=>q.elim⟩ ?_
 rintro n F H ⟨k,E,I,hk,f3,f4,f5,f12,f13,f11,f14,d,j,M,sep⟩;refine AZ f11 f14 ?_;refine DV ?_ ?_<;>intro e
 .have a7:=jH e
  have a9:=Y k;have c:UU f most (L.take (k+1))=dM f most (UU f most (L.take k)) L[k]:=by rw[jW e,wN]
  unfold dM at c;have lr:∀H:Hp,BR jA H 34 (.fptr 3 (L.map Cov.dr) k 0)=some (.agg (FH (PX L[k]))):=fun H=>by rw[DL qu dL (f:=Cov.dr) (fun g=>rfl) e];rfl
  refine AB ?_;refine DI BC ?_;refine U3 qi f4 f5 f11 f14 (UW (DZ d gp)) (dk (DZ d T)) e lr ?_;refine⟨_,ARC G p hs hb m X (PX L[k]) (J _ a7) H,?_⟩;unfold nw;rw[a0];generalize UU f most (L.take k)=s at j M a9 c;cases S:(f L[k]==11)
  .have n1:f L[k]≠11:=BQ S
   rw[if_neg n1] at c;cases O:(f L[k]==0)
   .have n2:f L[k]≠0:=BQ O
    rw[if_neg (fun q=>n2 q.1)] at c;refine EH S O f14 (CZ k) ?_;exact⟨n-1,U,k+1,E,I,U,AO,AO,AO,AO,AO,AO,AO,d,by rw[c];exact j,by rw[c];exact M,sep⟩
   .have n2:f L[k]=0:=BQ O
    cases c3:decide (((s.1.length:Nat):Int)<most)
    .rw[if_neg (fun q=>of_decide_eq_false c3 q.2)] at c
     refine N7 S O f3 f12 (j.len nz) c3 f14 (CZ k) ?_;exact⟨n-1,U,k+1,E,I,U,AO,AO,AO,AO,AO,AO,AO,d,by rw[c];exact j,by rw[c];exact M,sep⟩
    .rw[if_pos ⟨n2,of_decide_eq_true c3⟩] at c
     obtain⟨v',H',V,a2,a3,a4,_,a5⟩:=j.append (P:=jA) pa dL o8 qq U U d L[k];change EJ jA true H 49 49 E (.sl .full 3 [FH (PX L[k])])=_ at V;simp only[vQ,List.getElem?_cons_zero,List.getElem?_cons_succ,JX,XG,EM,SX,CP,OV,VD,↓reduceIte,jC,jO,b_,qi,nz,S,O,f3,f11,f12,f14,j.len nz,c3,CE e,lr,vl,V,CZ k];exact⟨n-1,U,k+1,v',I,U,AO,AO,AO,AO,AO,AO,AO,a4,by rw[c];exact a2,by rw[c];exact M.keepA a3 (fun b B C=>sep b C B),fun b B C=>by have:=a5 b B;have:=(M.lt C).2;omega⟩
  .have n1:f L[k]=11:=BQ S
   have O:(f L[k]==0)=false:=by rw[n1];rfl
   rw[if_pos n1] at c;obtain⟨v',H',V,a2,a3,a4,_,a5⟩:=M.append (P:=jA) pa dL o8 qq U U d L[k];change EJ jA true H 49 49 I (.sl .full 3 [FH (PX L[k])])=_ at V;refine V3 qi S O f11 f13 f14 e lr @vl V (CZ k) ?_;exact⟨n-1,U,k+1,E,v',U,AO,AO,AO,AO,AO,AO,AO,a4,by rw[c];exact j.keepA a3 (fun b B C=>sep b B C),by rw[c];exact a2,fun b B C=>by have:=a5 b C;have:=(j.lt B).2;omega⟩
 .rw[jK U] at j M
  refine AZ f12 f13 ?_;refine⟨K.trans d,?_⟩;have hle:=K.le;show AV.tup [FK h.length H 2 E,FK h.length H 2 I,_]=_;rw[KC Cov.k7 j h.length 0 U,KC Cov.k7 M h.length 0 U];rfl
end
def fK (vs:List Vr):Nat->List Int
 | 0=>[]
 | k+1=>fK vs k++(match vs[k]? with|some v=>if v.mode≠0 then [((k:Nat):Int)] else []|none=>[])
theorem pH (vs:List Vr):∀k,(fK vs k).length<=k
 | 0=>jF _
 | k+1=>by
   have:=pH vs k;simp only[fK,jX]
   cases vs[k]? with
   | none=>simp;omega
   | some v=>simp only;split<;>simp<;>omega
theorem Gq (vs:List Vr):∀k,∀z∈fK vs k,∃i:Nat,z=(i:Int)/\i<vs.length
 | 0,z,h=>by cases h
 | k+1,z,h=>by
   rcases zQ.1 h with h|h
   .exact Gq vs k z h
   .cases c:vs[k]? with
    | none=>rw[c] at h;cases h
    | some v =>
      rw[c] at h;simp only at h;split at h
      .exact⟨k,wH.1 h,AY c⟩
      .cases h
def iG (vs:List Vr)(z:Int):Int:=match vs[z.toNat]? with|some v=>v.width|none=>0
theorem Ei (vs:List Vr):∀k,k<=vs.length->((fK vs k).map (iG vs)).sum=LG (vs.take k)
 | 0,_=>rfl
 | k+1,h=>by
   have c:=Ei vs k U;have hk:k<vs.length:=U;rw[jW hk];simp only[fK,jP hk];rw[qE,List.sum_append,c];unfold LG;rw[qE,List.sum_append];congr 1;by_cases hm:vs[k].mode=0
   .rw[if_neg (by simp [hm])];simp [hm]
   .rw[if_pos hm]
    simp only[jJ,jM,List.sum_cons,List.sum_nil];rw[if_neg hm];unfold iG;rw[qI,jP hk]
theorem vP {vs:List Vr}(c:∀v∈vs,1<=v.width/\v.width<=8):∀l:List Int,0<=(l.map (iG vs)).sum/\(l.map (iG vs)).sum<=8*(l.length:Int)
 | []=>BA
 | z::l=>by
   have f:=vP c l
   have e:0<=iG vs z/\iG vs z<=8:=by
    unfold iG
    cases d:vs[z.toNat]? with
    | none=>simp
    | some v=>have:=c v (qC d);simp only;omega
   simp only[jJ,List.sum_cons,zF];omega
def mR (p:Pr):List Int:=if JY p=0 then fK p.vars p.vars.length else []
theorem vN {p:Pr}(P:PV p):∀k,k<=p.vars.length->0<=LG (p.vars.take k)/\uF p.vars k=2^(LG (p.vars.take k)).toNat
 | 0,_=>⟨Int.le_refl 0,rfl⟩
 | k+1,h=>by
   have hk:k<p.vars.length:=U;obtain⟨d,c⟩:=vN P k U;obtain⟨_,f,_⟩:=VM (P.vr _ (jH hk));rw[jW hk]
   have e:LG (p.vars.take k++[p.vars[k]])=LG (p.vars.take k)+if p.vars[k].mode=0 then 0 else p.vars[k].width:=by
    unfold LG;rw[qE,List.sum_append];simp
   rw[e];simp only[uF,jP hk];by_cases hm:p.vars[k].mode=0
   .rw[if_pos hm,if_pos hm,Int.add_zero];exact⟨d,c⟩
   .rw[if_neg hm,if_neg hm,c,<-Nat.pow_add]
    exact⟨U,by congr 1;omega⟩
def Fw (p:Pr)(n:Int):Prop:=p.hard.length<=20/\p.dists.length<=20/\(JY p=0->LG p.vars<=n)
theorem Fw.sm {n:Int}(h:Fw p n)(i:n<=18):j8 p:=by
 refine⟨by have:=h.1;omega,by have:=h.2.1;omega,fun d=>?_⟩;have P:=PV.of d;obtain⟨f,c⟩:=vN P p.vars.length (jF _);rw[List.take_length] at f c;have g:=h.2.2 d;unfold lft;rw[c];have:(2:Nat)^(LG p.vars).toNat<=2^18:=Nat.pow_le_pow_right DX U;have e:(2:Nat)^18=262144:=rfl;omega
section
variable (G:Nat->AV)
theorem Xi (m m':SM)(a:List Int)(q:a.length<=1048576)(h:Hp):a_ (En G) 16 [.sl m 1 (a.map Bins.bu),.sl m' 1 (a.map Bins.bu)] h (.bool true):=by
 refine cn Tryz.func16 4 ?_;refine A7 (show((((a.length:Nat):Int)) != (((a.length:Nat):Int)))=false by simp) ?_;refine BB (fun n F H=>∃i,n+i=a.length/\F 0=.sl m 1 (a.map Bins.bu)/\F 1=.sl m' 1 (a.map Bins.bu)/\F 5=.n (i:Nat)/\H=h) a.length ⟨0,BA,AL,AL,AL,rfl⟩ ?_;rintro n F H ⟨i,A,d,f,e,rfl⟩;refine AZ d e ?_;refine BL ?_ ?_<;>intro g
 .have c:i<a.length:=BQ g
  have j:BR jA H 3 (.fptr 1 (a.map Bins.bu) i 0)=some (.n a[i]):=by rw[BK ct c];rfl
  refine AB ?_;refine DI BC ?_;refine LJ d f e c j (show(a[i] != a[i])=false by simp) (CZ i) ?_;exact⟨n-1,U,i+1,U,AO,AO,AO,AO⟩
 .refine AB ?_
  exact⟨AO,AO⟩
theorem Xj (x:Hl)(A:x.bins.length<=1048576)(h:Hp):a_ (En G) 22 [.agg (FH x),.agg (FH x)] h (.bool true):=by
 refine ACalls.pure0 rfl ?_;refine cn Tryz.func22 4 ?_;have c:=AU (x:=qH 3 [FH x]) (A8 h (qH 3 [FH x]));have d:=A8 (h++[qH 3 [FH x]]) (qH 3 [FH x]);have e:Sm.ext h (h++[qH 3 [FH x]]++[qH 3 [FH x]]):=((ext.rfl' h).app _).app _;refine A7 @kz ?_
 generalize h++[qH 3 [FH x]]++[qH 3 [FH x]]=H at c d e|-
 have f:∀ {b:Nat},H[b]?=some (qH 3 [FH x])->BR jA H 4 (.ptr b 0 0)=some (.bool x.cross):=fun q=>by rw[BJ po q rfl];rfl
 have g:∀ {b:Nat},H[b]?=some (qH 3 [FH x])->BR jA H 3 (.ptr b 0 1)=some (.n x.idx):=fun q=>by rw[BJ ct q rfl];rfl
 have i:∀ {b:Nat},H[b]?=some (qH 3 [FH x])->BR jA H 32 (.ptr b 0 2)=some (.sl x.bm 1 (x.bins.map Bins.bu)):=fun q=>by rw[BJ MB q rfl];rfl
 have j:IZ jA 4 .eql (.bool x.cross) (.bool x.cross)=some (.bool true):=by cases x.cross<;>kernel_rfl
 refine N7 (f c) (f d) j (g c) (g d) (show(x.idx==x.idx)=true by simp) (i c) (i d) ?_;refine(Xi G x.bm x.bm x.bins A H).uu ?_;exact⟨AO,e⟩
theorem oX (m m':SM)(L:List Gl)(C:L.length<=1048576)(A:∀g∈L,(PX g).bins.length<=1048576)(h:Hp):a_ (En G) 19 [.sl m 3 (L.map Cov.dr),.sl m' 3 (L.map Cov.dr)] h (.bool true):=by
 refine cn Tryz.func19 4 ?_;refine A7 (show((((L.length:Nat):Int)) != (((L.length:Nat):Int)))=false by simp) ?_;refine BB (fun n F H=>∃i,n+i=L.length/\F 0=.sl m 3 (L.map Cov.dr)/\F 1=.sl m' 3 (L.map Cov.dr)/\F 5=.n (i:Nat)/\H=h) L.length ⟨0,BA,AL,AL,AL,rfl⟩ ?_;rintro n F H ⟨i,E,e,j,d,rfl⟩;refine AZ e d ?_;refine BL ?_ ?_<;>intro q
 .have c:i<L.length:=BQ q
  have B:BR jA H 34 (.fptr 3 (L.map Cov.dr) i 0)=some (.agg (FH (PX L[i]))):=by rw[DL qu dL (f:=Cov.dr) (fun g=>rfl) c];rfl
  refine AB ?_;refine DI BC ?_;refine WU qi e j d c B ?_;refine⟨_,Xj G (PX L[i]) (A _ (jH c)) H,?_⟩;refine AZ d (CZ i) ?_;exact⟨n-1,U,i+1,U,AO,AO,AO,AO⟩
 .refine AB ?_
  exact⟨AO,AO⟩
theorem Yy (e:Ex):(pre e).length<=1048576->∀(d:Int),0<=d->d<=100->∀h:Hp,gi (En G) 74 [.agg (AQ e),.n d] h (fun v=>∃z:Int,v=.n z/\1<=z/\z<=((pre e).length:Int)):=by
 induction e using Ex.induct with|h e ih=>?_
 intro Y d T V h;have K:=congrArg qJ (pre_eq e);rw[zF] at K;have N:e.args.length<=1048576:=by have:=XM e.args;omega
 refine ACalls.pureQ (R:=fun v H=>Sm.ext h H/\∃z:Int,v=.n z/\1<=z/\z<=((pre e).length:Int)) 1 ?_ (fun v H ⟨a,z,b,c⟩=>⟨a,z,by rw[b];rfl,c⟩);refine cn Tryz.func74 4 ?_;have A:=A8 h (qH 4 [AQ e]);have B:=Sm.ext.r1 h (qH 4 [AQ e]);refine A7 @fa ?_
 generalize h++[qH 4 [AQ e]]=H1 at A B|-
 generalize h.length=eb at A|-
 refine BB (fun n F H=>∃(j:Nat) (z:Int),n+j=e.args.length/\F 1=.n d/\F 2=.ptr eb 0 0/\F 5=.n z/\F 6=.n (j:Nat)/\H=H1/\1<=z/\z<=1+((FV (e.args.take j)).length:Int)) e.args.length
  ⟨0,1,BA,AL,AL,AL,AL,rfl,U,by simp [FV]⟩ ?_
 rintro n F H ⟨j,z,X,L,M,q,E,rfl,z1,z2⟩
 have P:(FV (e.args.take j)).length<=(FV e.args).length:=by
  have:FV e.args=FV (e.args.take j)++FV (e.args.drop j):=by rw[<-NY,List.take_append_drop]
  rw[this,jX];omega
 have fin:(1<=z/\z<=((pre e).length:Int)):=U;refine DC M E (O1 A) ?_;cases i:decide (((j:Nat):Int)<((e.args.length:Nat):Int))
 .refine AZ i q ?_
  exact⟨B,z,AO,fin⟩
 have f:j<e.args.length:=by have:=of_decide_eq_true i;omega
 refine AZ i q ?_;cases C:decide (z<100)
 .refine DC i C q ?_
  exact⟨B,z,AO,fin⟩
 refine AZ C L ?_;cases I:decide (d<30)
 .refine EH i C I q ?_
  exact⟨B,z,AO,fin⟩
 have g:e.args[j]∈e.args:=jH f;have J:(pre e.args[j]).length<=1048576:=by have:=Q5 g;omega
 have Q:IntKind.i64.wrap (d+1)=d+1:=wrap_i64 U U;have O:=of_decide_eq_true I;simp only[vQ,CP,↓reduceIte,jC,b_,P5,UY,i,C,I,L,M,q,E,O1 A,CE f,DL NU G9 EF f,Q];refine(ih e.args[j] g J (d+1) U U H).use ?_;rintro r ⟨y,rfl,Z,y2⟩;have S:IntKind.i64.wrap (z+y)=z+y:=wrap_i64 U U;refine DC E S (CZ j) ?_;refine⟨n-1,U,j+1,z+y,U,AO,AO,AO,AO,AO,U,?_⟩;rw[MI _ _ f,jX];omega
theorem kV (e:Ex):(pre e).length<=1048576->∀(d:Int),0<=d->d<=100->∀h:Hp,Rk.il (En G) 35 [.agg (AQ e),.n d] h:=by
 induction e using Ex.induct with|h e ih=>?_
 intro O d Q S h;have I:=congrArg qJ (pre_eq e);rw[zF] at I;have K:e.args.length<=1048576:=by have:=XM e.args;omega
 refine Rk.il.of ?_;refine cn Tryz.func35 4 ?_;have q:=A8 h (qH 4 [AQ e]);have A:=Sm.ext.r1 h (qH 4 [AQ e]);refine A7 @fa ?_
 generalize h++[qH 4 [AQ e]]=H1 at q A|-
 generalize h.length=eb at q|-
 cases g:decide (d>25)
 rotate_left
 .refine A7 g ?_
  exact⟨⟨_,AO⟩,A⟩
 have N:=of_decide_eq_false g;refine A7 g ?_;refine SI (fun F H=>F 1=.n d/\F 2=.ptr eb 0 0/\(∃b,F 16=.bool b)/\H=H1) ?_ ?_
 .cases E:(d==0)
  .refine AZ g E ?_
   exact⟨AO,AO,⟨_,AO⟩,AO⟩
  .refine DC g E (IL q) ?_
   refine(Yy G e O 0 U U H1).use ?_;rintro r ⟨y,rfl,V,X⟩;refine AZ g E ?_;exact⟨AO,AO,⟨_,AO⟩,AO⟩
 rintro F H ⟨B,i,⟨b,f16⟩,rfl⟩;refine A7 f16 ?_;refine BL ?_ ?_<;>intro L
 .refine AB ?_
  exact⟨⟨_,AO⟩,A⟩
 refine AB ?_
 refine BB (fun n F J=>∃(j:Nat),n+j=e.args.length/\F 1=.n d/\F 2=.ptr eb 0 0/\F 5=.n (j:Nat)/\J=H) e.args.length
  ⟨0,BA,DY B,DY i,AL,rfl⟩ ?_
 clear B i f16;rintro n F H ⟨j,T,B,i,C,rfl⟩;refine DC i C (O1 q) ?_;refine BL ?_ ?_<;>intro M
 .have f:j<e.args.length:=BQ M
  have c:e.args[j]∈e.args:=jH f;have P:IntKind.i64.wrap (d+1)=d+1:=wrap_i64 U U;simp only[vQ,CP,↓reduceIte,jC,b_,P5,UY,B,i,C,O1 q,CE f,DL NU G9 EF f,P];refine(ih e.args[j] c (by have:=Q5 c;omega) (d+1) U U H).use fun b=>?_
  refine AB ?_;refine BL ?_ ?_<;>intro L
  .refine AB ?_
   exact⟨⟨_,AO⟩,A⟩
  .refine AZ C (CZ j) ?_
   exact⟨n-1,U,j+1,U,AO,AO,AO,AO⟩
 .refine AB ?_
  exact⟨⟨_,AO⟩,A⟩
end
section
variable (G:Nat->AV)
theorem Un (p:Pr)(N:fp p)(h:Hp):a_ (En G) 73 [.agg (CW p)] h (.sl (Cov.nm (mR p)) 1 ((mR p).map Bins.bu)):=by
 have T:=N.vars;refine JL Cov.nj ?_;refine cn Tryz.func73 2 ?_;have C:=A8 h (qH 5 [CW p]);have B:=Sm.ext.r1 h (qH 5 [CW p]);refine A7 @QE ?_
 generalize h++[qH 5 [CW p]]=H0 at C B|-
 refine A7 (UW C) ?_;refine(Bd.dq G p N H0).use ?_;unfold mR;cases g:(JY p != 0)
 case true =>
  have q:JY p≠0:=BQ g;refine A7 g ?_;rw[if_neg q];exact⟨B,bw.nil _ _ _ _⟩
 have S:JY p=0:=BQ g;rw[if_pos S];refine A7 g ?_
 refine BB (fun n F H=>∃i u,n+i=p.vars.length/\F 1=.ptr h.length 0 0/\F 3=u/\F 4=.n (i:Nat)/\Sm.ext H0 H/\bw 1 Bins.bu H0 (fK p.vars i) u H) p.vars.length
  ⟨0,.sl .nil 0 [],BA,AL,AL,AL,ext.rfl' _,bw.nil _ _ _ _⟩ ?_
 rintro n F H ⟨i,u,Z,L,M,j,d,A⟩;have f:=DZ d C;refine DC L j (ZL f) ?_;refine DV ?_ ?_<;>intro c
 .have V:BR jA H 3 (.fptr 4 (p.vars.map bt) i 2)=some (.n p.vars[i].mode):=by rw[BK ct c];rfl
  have Q:=pH p.vars i;refine aZ L j (ZL f) c V ?_;cases K:(p.vars[i].mode != 0)
  .have E:p.vars[i].mode=0:=BQ K
   have e:fK p.vars (i+1)=fK p.vars i:=by simp only[fK,jP c];rw[if_neg (by simp [E]),jL]
   refine AZ j (CZ i) ?_;exact⟨n-1,U,i+1,u,U,AO,AO,AO,d,by rw[e];exact A⟩
  .have E:p.vars[i].mode≠0:=BQ K
   have e:fK p.vars (i+1)=fK p.vars i++[((i:Nat):Int)]:=by simp only[fK,jP c];rw[if_pos E]
   obtain⟨X,Y,O,I,_,J,_,_⟩:=A.append (P:=jA) dJ iz mr nA U U d ((i:Nat):Int);refine G7 M j @q9 O (CZ i) ?_;exact⟨n-1,U,i+1,X,U,AO,AO,AO,J,by rw[e];exact I⟩
 .rw[show i=p.vars.length by omega] at A
  refine A7 M ?_;exact⟨B.trans d,A.base B.le⟩
theorem gq (p:Pr)(M:fp p)(h:Hp):a_ (En G) 34 [.agg (CW p)] h (.n (if JY p=0 then LG p.vars else 0)):=by
 have S:=M.vars;refine ACalls.pure0 rfl ?_;refine cn Tryz.func34 2 ?_;have C:=A8 h (qH 5 [CW p]);have O:=Sm.ext.r1 h (qH 5 [CW p]);refine A7 @QE ?_
 generalize h++[qH 5 [CW p]]=H0 at C O|-
 refine A7 (UW C) ?_;refine(Un G p M H0).use ?_
 have E:(mR p).length<=1048576:=by
  unfold mR;split
  .have:=pH p.vars p.vars.length;omega
  .simp
 have g:∀z∈mR p,∃i:Nat,z=(i:Int)/\i<p.vars.length:=fun z A=>by
  unfold mR at A;split at A
  .exact Gq _ _ z A
  .cases A
 have e:mR p≠[]->∀v∈p.vars,1<=v.width/\v.width<=8:=fun f v Q=>by
  have q:JY p=0:=by
   apply Classical.byContradiction;intro q;unfold mR at f;rw[if_neg q] at f;exact f rfl
  have:=VM ((PV.of q).vr v Q);exact⟨this.2.1,this.2.2.1⟩
 have hsum:((mR p).map (iG p.vars)).sum=if JY p=0 then LG p.vars else 0:=by
  unfold mR;split
  .rw[Ei _ _ (jF _),List.take_length]
  .rfl
 rw[<-hsum]
 generalize mR p=L at E g e|-
 refine AB ?_
 refine BB (fun n F H=>∃i,n+i=L.length/\F 1=.ptr h.length 0 0/\F 3=.sl (Cov.nm L) 1 (L.map Bins.bu)/\F 4=.n ((L.take i).map (iG p.vars)).sum/\F 5=.n (i:Nat)/\H=H0) L.length
  ⟨0,BA,AL,AL,AL,AL,rfl⟩ ?_
 rintro n F H ⟨i,hi,P,I,B,J,rfl⟩;refine AZ I J ?_;refine DV ?_ ?_<;>intro c
 .obtain⟨j,K,d⟩:=g _ (jH c)
  have N:=e (fun q=>by rw[q] at c;cases c);have X:BR jA H 3 (.fptr 1 (L.map Bins.bu) i 0)=some (.n (j:Nat)):=by rw[BK ct c];show some (AV.int .i64 L[i])=_;rw[K]
  have V:BR jA H 3 (.fptr 4 (p.vars.map bt) j 1)=some (.n p.vars[j].width):=by rw[BK ct d];rfl
  have T:=N _ (jH d);obtain⟨s0,Y⟩:=vP N (L.take i);rw[jT] at Y
  have Z:IntKind.i64.wrap (((L.take i).map (iG p.vars)).sum+p.vars[j].width)=((L.take (i+1)).map (iG p.vars)).sum:=by
   rw[wrap_i64 U U,jW c,qE,List.sum_append];have:iG p.vars L[i]=p.vars[j].width:=by unfold iG;rw[K,qI,jP d]
   simp [this]
  refine AB ?_;refine DI BC ?_;refine V3 P I B J (ZL C) c X d V Z (CZ i) ?_;exact⟨n-1,U,i+1,U,AO,AO,AO,AO,AO⟩
 .rw[jK U] at B
  refine A7 B ?_;exact⟨AO,O⟩
theorem Ya (p:Pr)(N:fp p)(h:Hp):gi (En G) 33 [.agg (CW p)] h (fun v=>∃b,v=.bool b/\(b=true->p.hard.length<=20/\p.dists.length<=20)):=by
 have a3:=N.vars;have a1:=N.exprs;have a0:=N.dists;have a2:=N.groups;have Z:=N.wts;have M:∀e∈p.hard++p.soft,(pre e).length<=1048576:=fun e he=>by have:=YM e;have:=Z e he;omega
 refine ACalls.pureQ (R:=fun v H=>Sm.ext h H/\∃b,v=.bool b/\(b=true->p.hard.length<=20/\p.dists.length<=20)) 1 ?_ (fun v H ⟨a,b,c,d⟩=>⟨a,b,by rw[c];rfl,d⟩);refine cn Tryz.func33 2 ?_;have K:=A8 h (qH 5 [CW p]);have B:=Sm.ext.r1 h (qH 5 [CW p]);refine A7 @QE ?_
 generalize h++[qH 5 [CW p]]=H0 at K B|-
 have l0:=ZL K;have l1:BR jA H0 23 (.ptr h.length 0 1)=some (.sl p.hm 4 (p.hard.map AQ)):=by rw[BJ MQ K (row:=CW p) rfl];rfl
 have l2:BR jA H0 23 (.ptr h.length 0 2)=some (.sl p.sm 4 (p.soft.map AQ)):=by rw[BJ MQ K (row:=CW p) rfl];rfl
 have l3:BR jA H0 24 (.ptr h.length 0 3)=some (.sl p.dm 2 (p.dists.map I9)):=by rw[BJ qw K (row:=CW p) rfl];rfl
 have l4:BR jA H0 25 (.ptr h.length 0 4)=some (.sl p.gm 1 (p.groups.map UM)):=by rw[BJ XF K (row:=CW p) rfl];rfl
 have no:∀ {P:Prop},((false=true)->P):=fun q=>by cases q
 refine A7 l0 ?_;cases A:decide (((p.vars.length:Nat):Int)>20)
 rotate_left
 .refine A7 A ?_
  exact⟨B,_,AO,no⟩
 refine DC @eH A l1 ?_;cases C:decide (((p.hard.length:Nat):Int)>20)
 rotate_left
 .refine AZ A C ?_
  exact⟨B,_,AO,no⟩
 refine EH @sA A C l2 ?_;cases E:decide (((p.soft.length:Nat):Int)>20)
 rotate_left
 .refine DC A C E ?_
  exact⟨B,_,AO,no⟩
 refine EH A C E l3 ?_;cases J:decide (((p.dists.length:Nat):Int)>20)
 rotate_left
 .refine EH A C E J ?_
  exact⟨B,_,AO,no⟩
 refine LP @rZ A C E J l4 ?_;cases O:decide (((p.groups.length:Nat):Int)>20)
 rotate_left
 .refine G7 A C E J O ?_
  exact⟨B,_,AO,no⟩
 refine G7 A C E J O ?_;have q1:=of_decide_eq_false C;have q3:=of_decide_eq_false J;have yes:p.hard.length<=20/\p.dists.length<=20:=U;clear A C E J O;refine EG 0 (fun F H=>F 1=.ptr h.length 0 0/\H=H0) (fun F H=>F 2=.bool false/\H=H0) ?_ ?_ (fun F H ⟨L,e⟩=>by subst e;refine A7 L ?_;exact⟨B,_,AO,no⟩)
 .refine BB (fun n F H=>∃j,n+j=p.hard.length/\F 1=.ptr h.length 0 0/\F 3=.n (j:Nat)/\H=H0) p.hard.length ⟨0,BA,AL,AL,rfl⟩ ?_
  rintro n F H ⟨j,Y,g,Q,rfl⟩;refine EH @eH g Q l1 ?_;refine BL ?_ ?_<;>intro I
  .have f:j<p.hard.length:=BQ I
   simp only[vQ,CP,↓reduceIte,jC,b_,P5,eH,g,Q,l1,CE f,DL NU G9 EF f];refine(kV G p.hard[j] (M _ (List.mem_append_left _ (jH f))) 0 U U H).use fun b=>?_
   refine AB ?_;refine BL ?_ ?_<;>intro X
   .refine AB ?_
    exact⟨AO,AO⟩
   .refine AZ Q (CZ j) ?_
    exact⟨n-1,U,j+1,U,AO,AO,AO⟩
  .refine AB ?_
   exact⟨AO,AO⟩
 rintro F H ⟨g,rfl⟩;refine AB ?_;refine EG 2 (fun F i=>F 1=.ptr h.length 0 0/\i=H) (fun F i=>F 2=.bool false/\i=H) ?_ ?_ (fun F H ⟨L,e⟩=>by subst e;refine A7 L ?_;exact⟨B,_,AO,no⟩)
 .refine BB (fun n F i=>∃j,n+j=p.soft.length/\F 1=.ptr h.length 0 0/\F 4=.n (j:Nat)/\i=H) p.soft.length ⟨0,BA,DY g,AL,rfl⟩ ?_
  clear g;rintro n F H ⟨j,Y,g,S,rfl⟩;refine EH @sA g S l2 ?_;refine BL ?_ ?_<;>intro I
  .have f:j<p.soft.length:=BQ I
   simp only[vQ,CP,↓reduceIte,jC,b_,P5,sA,g,S,l2,CE f,DL NU G9 EF f];refine(kV G p.soft[j] (M _ (List.mem_append_right _ (jH f))) 0 U U H).use fun b=>?_
   refine AB ?_;refine BL ?_ ?_<;>intro X
   .refine AB ?_
    exact⟨AO,AO⟩
   .refine AZ S (CZ j) ?_
    exact⟨n-1,U,j+1,U,AO,AO,AO⟩
  .refine AB ?_
   exact⟨AO,AO⟩
 clear g;rintro F H ⟨g,rfl⟩;refine AB ?_;refine EG 4 (fun F i=>F 1=.ptr h.length 0 0/\i=H) (fun F i=>F 2=.bool false/\i=H) ?_ ?_ (fun F H ⟨L,e⟩=>by subst e;refine A7 L ?_;exact⟨B,_,AO,no⟩)
 .refine BB (fun n F i=>∃j,n+j=p.dists.length/\F 1=.ptr h.length 0 0/\F 5=.n (j:Nat)/\i=H) p.dists.length ⟨0,BA,DY g,AL,rfl⟩ ?_
  clear g;rintro n F H ⟨j,Y,g,T,rfl⟩;refine DC g T l3 ?_;refine BL ?_ ?_<;>intro I
  .have f:j<p.dists.length:=BQ I
   have lw:BR jA H 120 (.fptr 2 (p.dists.map I9) j 1)=some (.sl p.dists[j].wm 4 (p.dists[j].ws.map JE)):=by rw[BK si f];rfl
   refine WU xK g T l3 f lw ?_;refine BL ?_ ?_<;>intro X
   .refine AB ?_
    exact⟨AO,AO⟩
   .refine AZ T (CZ j) ?_
    exact⟨n-1,U,j+1,U,AO,AO,AO⟩
  .refine AB ?_
   exact⟨AO,AO⟩
 clear g;rintro F H ⟨g,rfl⟩;refine AB ?_;refine BB (fun n F i=>∃j,n+j=p.groups.length/\F 1=.ptr h.length 0 0/\F 6=.n (j:Nat)/\i=H) p.groups.length ⟨0,BA,DY g,AL,rfl⟩ ?_;clear g;rintro n F H ⟨j,Y,g,V,rfl⟩;refine EH @rZ g V l4 ?_;refine BL ?_ ?_<;>intro I
 .have f:j<p.groups.length:=BQ I
  have lw:BR jA H 32 (.fptr 1 (p.groups.map UM) j 0)=some (.sl p.groups[j].m 1 (p.groups[j].l.map Bins.bu)):=by rw[BK MB f];rfl
  refine WU @rZ g V l4 f lw ?_;refine BL ?_ ?_<;>intro X
  .refine AB ?_
   exact⟨B,_,AO,no⟩
  .refine AZ V (CZ j) ?_
   exact⟨n-1,U,j+1,U,AO,AO,AO⟩
 .refine AB ?_
  exact⟨B,_,AO,fun _=>yes⟩
theorem AZL (p:Pr)(i:fp p)(n:Int)(h:Hp):gi (En G) 9 [.agg (CW p),.n n] h (fun v=>∃b,v=.bool b/\(b=true->Fw p n)):=by
 refine ACalls.pureQ (R:=fun v H=>Sm.ext h H/\∃b,v=.bool b/\(b=true->Fw p n)) 1 ?_ (fun v H ⟨a,b,c,d⟩=>⟨a,b,by rw[c];rfl,d⟩);refine cn Tryz.func9 4 ?_;have e:=A8 h (qH 5 [CW p]);have f:=Sm.ext.r1 h (qH 5 [CW p]);refine A7 @QE ?_
 generalize h++[qH 5 [CW p]]=H0 at e f|-
 refine A7 (UW e) ?_;refine(Ya G p i H0).use ?_;rintro r ⟨b,rfl,g⟩;cases b
 .refine AB ?_
  exact⟨f,_,AO,fun q=>by cases q⟩
 refine A7 (UW e) ?_;refine(gq G p i H0).uu ?_;refine⟨f,_,AO,fun q=>⟨(g rfl).1,(g rfl).2,fun j=>?_⟩⟩;rw[if_pos j] at q;simpa using q
theorem XS (l:List Rs)(s:SM)(A:l.length<=1048576)(h:Hp):Rk.il (En G) 36 [.sl s 1 (l.map encS)] h:=by
 refine Rk.il.of ?_;refine cn Tryz.func36 2 ?_;refine AB ?_;refine BB (fun n F f=>∃j,n+j=l.length/\F 0=.sl s 1 (l.map encS)/\F 3=.n (j:Nat)/\f=h) l.length ⟨0,BA,AL,AL,rfl⟩ ?_;rintro n F H ⟨j,q,e,d,rfl⟩;refine AZ e d ?_;refine BL ?_ ?_<;>intro g
 .have c:j<l.length:=BQ g
  simp only[vQ,CP,↓reduceIte,jC,b_,aE,uQ,e,d,CE c,BK TP c,lX,jI];refine BL ?_ ?_<;>intro i
  .refine AB ?_
   exact⟨⟨_,AO⟩,ext.rfl' _⟩
  .refine AZ d (CZ j) ?_
   exact⟨n-1,U,j+1,U,AO,AO,AO⟩
 .refine AB ?_
  exact⟨⟨_,AO⟩,ext.rfl' _⟩
theorem AYV (m:Mo)(Y:dt m)(h:Hp):gi (En G) 10 [.agg (C9 m)] h (fun v=>∃b,v=.bool b/\(b=true->m.pts.length<=4/\m.crs.length<=3)):=by
 refine ACalls.pureQ (R:=fun v H=>Sm.ext h H/\∃b,v=.bool b/\(b=true->m.pts.length<=4/\m.crs.length<=3)) 1 ?_ (fun v H ⟨a,b,c,d⟩=>⟨a,b,by rw[c];rfl,d⟩);refine cn Tryz.func10 2 ?_;have O:=A8 h (qH 2 [C9 m]);have P:=Sm.ext.r1 h (qH 2 [C9 m]);have np:=Y.np;have nc:=Y.nc;refine A7 @er ?_
 generalize h++[qH 2 [C9 m]]=H0 at O P|-
 refine EG 0 (fun F H=>F 1=.ptr h.length 0 0/\Sm.ext H0 H) (fun F H=>F 2=.bool false/\Sm.ext H0 H) ?_ ?_ (fun F H ⟨Q,e⟩=>by refine A7 Q ?_;exact⟨P.trans e,false,AO,fun q=>by cases q⟩)
 .refine BB (fun n F H=>∃k,n+k=m.pts.length/\F 1=.ptr h.length 0 0/\F 3=.n (k:Nat)/\Sm.ext H0 H) m.pts.length ⟨0,BA,AL,AL,ext.rfl' _⟩ ?_
  rintro n F H ⟨k,hk,A,B,g⟩;have f:=DZ g O;refine DC A B (VC f) ?_;cases I:decide (((k:Nat):Int)<((m.pts.length:Nat):Int))
  .refine A7 I ?_
   exact⟨AO,g⟩
  have i:k<m.pts.length:=by have:=of_decide_eq_true I;omega
  have K:=Y.pts _ (jH i);refine AZ I B ?_;refine BL ?_ ?_<;>intro X
  rotate_left
  .refine AB ?_
   exact⟨AO,g⟩
  simp only[vQ,EM,CP,↓reduceIte,jC,b_,QJ,J5,aF,JW,A,B,VC f,CE i,BK PS i,OQ,jI];cases S:decide (((m.pts[k].bins.length:Nat):Int)>6)
  rotate_left
  .refine A7 S ?_
   exact⟨AO,g⟩
  simp only[vQ,EM,CP,↓reduceIte,jC,b_,QJ,J5,eG,S,A,B,VC f,CE i,Rk.Bb i];refine(kV G m.pts[k].ex (by have:=YM m.pts[k].ex;have:=K.ex;omega) 0 U U H).use fun b=>?_
  cases b
  .refine A7 S ?_
   exact⟨AO,g⟩
  refine A7 S ?_;refine EG 2 (fun F L=>F 1=.ptr h.length 0 0/\F 3=.n (k:Nat)/\Sm.ext H0 L) (fun F L=>F 2=.bool false/\Sm.ext H0 L) ?_ ?_ (fun F H ⟨Q,e⟩=>by refine AB ?_;exact⟨AO,e⟩)
  .refine BB (fun n F L=>∃j,n+j=m.pts[k].bins.length/\F 1=.ptr h.length 0 0/\F 3=.n (k:Nat)/\F 4=.n (j:Nat)/\Sm.ext H0 L) m.pts[k].bins.length ⟨0,BA,DY A,DY B,AL,g⟩ ?_
   clear A B g f;rintro n F H ⟨j,hj,A,B,T,g⟩;have f:=DZ g O;simp only[vQ,CP,↓reduceIte,jC,b_,QJ,J5,aF,JW,A,B,T,VC f,CE i,BK PS i,OQ,jI];refine BL ?_ ?_<;>intro hd
   .have J:j<m.pts[k].bins.length:=BQ hd
    have a0:=K.bins _ (jH J);have V:=A8 H (qH 4 [JD m.pts[k].bins[j]]);have C:=g.app [qH 4 [JD m.pts[k].bins[j]]];simp only[vQ,CP,↓reduceIte,jC,b_,QJ,J5,XB,JW,zx,jQ,A,B,T,VC f,CE i,BK PS i,OQ,CE J,DL nD dK MP J,Cov.e9,Cov.gg _ _ [.str ⟨#[]⟩,.n 0,.sl .nil 0 [],.sl .nil 0 []] rfl]
    generalize H++[qH 4 [JD m.pts[k].bins[j]]]=H1 at V C|-
    have b2:BR jA H1 84 (.ptr H.length 0 2)=some (.sl m.pts[k].bins[j].ranges.m 2 (m.pts[k].bins[j].ranges.l.map encR)):=by rw[BJ TP V rfl];rfl
    have Z:BR jA H1 85 (.ptr H.length 0 3)=some (.sl m.pts[k].bins[j].sm 1 (m.pts[k].bins[j].steps.map encS)):=by rw[BJ Y7 V rfl];rfl
    refine A7 b2 ?_;cases E:decide (((m.pts[k].bins[j].ranges.l.length:Nat):Int)>6)
    rotate_left
    .refine A7 E ?_
     exact⟨AO,C⟩
    refine AZ E Z ?_;cases M:decide (((m.pts[k].bins[j].steps.length:Nat):Int)>8)
    rotate_left
    .refine AZ E M ?_
     exact⟨AO,C⟩
    have a1:=of_decide_eq_false M;refine DC E M Z ?_;refine(XS G m.pts[k].bins[j].steps m.pts[k].bins[j].sm U H1).use fun b=>?_
    cases b
    .refine AZ E M ?_
     exact⟨AO,C⟩
    .refine EH E M T (wrap_succ (show j<9223372036854775807 by have:=K.num;omega)) ?_
     exact⟨n-1,U,j+1,U,AO,AO,AO,C⟩
   .refine AB ?_
    exact⟨AO,AO,g⟩
  clear A B g f;rintro F H ⟨A,B,g⟩;refine AZ B (CZ k) ?_;exact⟨n-1,U,k+1,U,AO,AO,g⟩
 rintro F H ⟨A,g⟩;refine AB ?_;refine EG 4 (fun F H=>F 1=.ptr h.length 0 0/\Sm.ext H0 H) (fun F H=>F 2=.bool false/\Sm.ext H0 H) ?_ ?_ (fun F H ⟨Q,e⟩=>by refine A7 Q ?_;exact⟨P.trans e,false,AO,fun q=>by cases q⟩)
 .refine BB (fun n F H=>∃k,n+k=m.crs.length/\F 1=.ptr h.length 0 0/\F 6=.n (k:Nat)/\Sm.ext H0 H) m.crs.length ⟨0,BA,DY A,AL,g⟩ ?_
  clear A g;rintro n F H ⟨k,hk,A,N,g⟩;have f:=DZ g O;refine DC A N (ZM f) ?_;cases I:decide (((k:Nat):Int)<((m.crs.length:Nat):Int))
  .refine A7 I ?_
   exact⟨AO,g⟩
  have i:k<m.crs.length:=by have:=of_decide_eq_true I;omega
  refine AZ I N ?_;refine BL ?_ ?_<;>intro X
  rotate_left
  .refine AB ?_
   exact⟨AO,g⟩
  simp only[vQ,EM,CP,↓reduceIte,jC,b_,UG,MN,UF,LQ,A,N,ZM f,CE i,BK MB i,U1,jI];cases h5:decide (((m.crs[k].pts.length:Nat):Int)>5)
  rotate_left
  .refine A7 h5 ?_
   exact⟨AO,g⟩
  simp only[vQ,EM,CP,↓reduceIte,jC,b_,qn,UG,MN,eF,h5,A,N,ZM f,CE i,BK XF i,rV,jI];refine BL ?_ ?_<;>intro hb
  .refine AB ?_
   exact⟨AO,g⟩
  .refine AZ N (CZ k) ?_
   exact⟨n-1,U,k+1,U,AO,AO,g⟩
 clear A g;rintro F H ⟨A,g⟩;have f:=DZ g O;refine AZ A (VC f) ?_;cases E:decide (((m.pts.length:Nat):Int)<=4)
 .refine A7 E ?_
  exact⟨P.trans g,false,AO,fun q=>by cases q⟩
 .refine DC E A (ZM f) ?_
  have:=of_decide_eq_true E;exact⟨P.trans g,_,rfl,fun q=>⟨U,by have:=of_decide_eq_true q;omega⟩⟩
theorem Zb (m:Mo)(c:dt m)(h:Hp):Rk.il (En G) 10 [.agg (C9 m)] h :=
 ACalls.mono (AYV G m c h) fun _ _ ⟨⟨b,e,_⟩,q⟩=>⟨⟨b,e⟩,q⟩
end
abbrev aN:ByteArray:=⟨#[97]⟩
def Ca:Ex:=.mk 17 0 ⟨#[]⟩ .full [J7 aN,cE 3]
def RP:Pr:=⟨.full,[⟨aN,2,1,0⟩],.full,[Ca],.nil,[],.nil,[],.full,[⟨.full,[0]⟩]⟩
abbrev aG:List AV:=[.n 17,.n 0,.str ⟨#[]⟩,.sl .full 4 [NQ aN,SL 1 3]]
abbrev pN:List AV:=[.sl .full 4 [[.str aN,.n 2,.n 1,.n 0]],.sl .full 4 [aG],.sl .nil 0 [],.sl .nil 0 [],.sl .full 1 [[.sl .full 1 [[.n 0]]]]]
theorem Ik {m:SM}{k:Nat}{a e:List AV}(f:cf a e):Cv (.sl m k [a]) (.sl m k [e]):=Cv.rows rfl fun i r g c d=>by
 match i,c,d with
 | 0,c,d=>cases c;cases d;exact f
 | _+1,c,_=>cases c
theorem ATM:cf aG (AQ Ca):=by
 show cf aG (AQ (.mk 17 0 ⟨#[]⟩ .full [J7 aN,cE 3]));rw[sG];exact cf.cons rfl (Cv.refl _) (cf.cons rfl (Cv.refl _) (cf.cons rfl (Cv.refl _) (cf.cons rfl (uf (DH aN) (nZ 3)) cf.nil)))
theorem ASW:cz (.agg pN) (.agg (CW RP)) :=
 cz.agg (cq.cons (cz.refl _) (cq.cons (cz.sl (Ik ATM)) (cq.cons (cz.sl (Cv.nil 0 4)) (cq.cons (cz.sl (Cv.nil 0 2)) (cq.cons (cz.refl _) cq.nil)))))
def nt (i:Nat):ByteArray:=⟨#[110,UInt8.ofNat (48+i)]⟩
def s9 (i:Nat):Bin:=⟨nt i,0,⟨.full,[⟨i,i⟩]⟩,.nil,[]⟩
def kW (i:Nat):List AV:=[.str (nt i),.n 0,.sl .full 2 [[.n (i:Nat),.n (i:Nat)]],.sl .nil 0 []]
theorem K3 (i:Nat):cf (kW i) (JD (s9 i)):=cf.cons rfl (Cv.refl _) (cf.cons rfl (Cv.refl _) (cf.cons rfl (Cv.refl _) (cf.cons rfl (Cv.nil 0 1) cf.nil)))
theorem NO:jd kW:=fun _ _ _ _=>⟨rfl,rfl⟩
def VA:Mo:=⟨.any,[⟨aN,J7 aN,.any,(zL 4).map s9⟩],.nil,[]⟩
abbrev x3:List AV:=[.sl .any 6 [[.str aN,.n 2,.n 0,.str aN,.sl .nil 0 [],.sl .any 4 ((zL 4).map kW)]],.sl .nil 0 []]
theorem AYL:cz (.agg x3) (.agg (C9 VA)):=by
 have c:Cv (.sl .any 4 ((zL 4).map kW)) (.sl .any 4 (((zL 4).map s9).map JD)):=by
  rw[List.map_map];exact Cv.map fun i _=>K3 i
 have d:cf [.str aN,.n 2,.n 0,.str aN,.sl .nil 0 [],.sl .any 4 ((zL 4).map kW)] (GL ⟨aN,J7 aN,.any,(zL 4).map s9⟩):=by
  unfold GL;rw[FP];exact cf.cons rfl (Cv.refl _) (cf.cons rfl (Cv.refl _) (cf.cons rfl (Cv.refl _) (cf.cons rfl (Cv.refl _) (cf.cons rfl (Cv.nil 0 4) (cf.cons rfl c cf.nil)))))
 exact cz.agg (cq.cons (cz.sl (Ik d)) (cq.cons (cz.sl (Cv.nil 0 3)) cq.nil))
def hol (i:Int):Hl:=⟨false,0,.full,[i]⟩
theorem CN:NE c6 FT RP VA (hol 2)=0/\mo c6 FT RP VA (hol 2)=[[2]]:=by decide +kernel
theorem Rb:NE c6 FT RP VA (hol 3)=11:=by decide +kernel
theorem yv:fp RP:=⟨by decide +kernel,by decide +kernel,by decide +kernel,by decide +kernel,by decide +kernel,by decide +kernel,by decide +kernel,by decide +kernel⟩
theorem yw:j8 RP:=Fw.sm (n:=10) (by unfold Fw;decide +kernel) DX
theorem nN:dt VA:=⟨by decide +kernel,by decide +kernel,fun p g=>by
 rw[wH.1 g];refine⟨by decide +kernel,by decide +kernel,by decide +kernel,fun b d=>?_⟩;obtain⟨i,h,rfl⟩:=List.mem_map.1 d
 exact⟨jB rfl,jB rfl,jB rfl,fun l f=>by
  have:l=⟨.full,[⟨i,i⟩]⟩:=by simpa [sets,s9] using f
  rw[this];exact jB rfl⟩,fun c e=>by cases e⟩
theorem AZT:jc (th VA):=⟨by decide +kernel,by decide +kernel,by decide +kernel,by decide +kernel⟩
theorem BBA (h:Hp):H9 jA h 27=some (.ptr h.length 0 0,h++[qH 5 [[.sl .nil 0 [],.sl .nil 0 [],.sl .nil 0 [],.sl .nil 0 [],.sl .nil 0 []]]]):=FZ (row:=[.sl .nil 0 [],.sl .nil 0 [],.sl .nil 0 [],.sl .nil 0 [],.sl .nil 0 []]) BC
theorem BA9 (h:Hp):H9 jA h 31=some (.ptr h.length 0 0,h++[qH 2 [[.sl .nil 0 [],.sl .nil 0 []]]]):=FZ (row:=[.sl .nil 0 [],.sl .nil 0 []]) BC
abbrev xk:List AV:=[.str ⟨#[]⟩,.n 0,.n 0,.str ⟨#[]⟩,.sl .nil 0 [],.sl .nil 0 []]
abbrev jb (v:AV):List AV:=[.str aN,.n 2,.n 0,.str aN,.sl .nil 0 [],v]
abbrev ly:List AV:=[.str (nt 0),.str (nt 1),.str (nt 2),.str (nt 3)]
theorem Qa (h:Hp):H9 jA h 82=some (.ptr h.length 0 0,h++[qH 6 [xk]]):=FZ (row:=xk) BC
theorem Qj (h:Hp):H9 jA h 143=some (.ptr h.length 0 0,h++[qH 4 [[.str ⟨#[]⟩,.str ⟨#[]⟩,.str ⟨#[]⟩,.str ⟨#[]⟩]]]):=FZ (row:=[.str ⟨#[]⟩,.str ⟨#[]⟩,.str ⟨#[]⟩,.str ⟨#[]⟩]) BC
section
variable (G:Nat->AV)
theorem Z8 (h:Hp):a_ (En G) 37 [] h (.agg (CW RP)):=by
 refine a_.res (r:=.agg pN) ?_ ASW;refine RN 3 (fun n H=>rfl) ?_;refine e7 Tryz.func37 [.cell 0 27] ?_;have g0:=AU (x:=qH 4 [aG]) (AU (x:=qH 4 [NQ aN]) (A8 h (qH 5 [[.sl .nil 0 [],.sl .nil 0 [],.sl .nil 0 [],.sl .nil 0 [],.sl .nil 0 []]])));have B:=A8 (h++[qH 5 [[.sl .nil 0 [],.sl .nil 0 [],.sl .nil 0 [],.sl .nil 0 [],.sl .nil 0 []]]]) (qH 4 [NQ aN]);have j:=A8 (h++[qH 5 [[.sl .nil 0 [],.sl .nil 0 [],.sl .nil 0 [],.sl .nil 0 [],.sl .nil 0 []]]]++[qH 4 [NQ aN]]) (qH 4 [aG]);have q:Sm.ext h (h++[qH 5 [[.sl .nil 0 [],.sl .nil 0 [],.sl .nil 0 [],.sl .nil 0 [],.sl .nil 0 []]]]++[qH 4 [NQ aN]]++[qH 4 [aG]]):=(((ext.rfl' h).app _).app _).app _;have A:R4 (NQ aN):=⟨_,_,_,_,_,_,rfl⟩;have C:R4 aG:=⟨_,_,_,_,_,_,rfl⟩;have c:IY jA 131 [(0,.str aN),(1,.n 2),(2,.n 1)]=some (.agg [.str aN,.n 2,.n 1,.n 0]):=BC;have e:∀H:Hp,DR jA false H 22 1 [(0,.agg [.str aN,.n 2,.n 1,.n 0])]=some (.sl .full 4 [[.str aN,.n 2,.n 1,.n 0]],H):=fun H=>BC
 have f:∀H:Hp,DR jA false H 23 1 [(0,.agg aG)]=some (.sl .full 4 [aG],H):=fun H=>BC
 have g:∀H:Hp,DR jA false H 25 1 [(0,.sl .full 1 [Bins.bu 0])]=some (.sl .full 1 [[.sl .full 1 [[.n 0]]]],H):=fun H=>BC
 have d:IY jA 27 [(0,.sl .full 4 [[.str aN,.n 2,.n 1,.n 0]]),(1,.sl .full 4 [aG]),(4,.sl .full 1 [[.sl .full 1 [[.n 0]]]])]=some (.agg pN):=BC;simp only[vQ,CP,kX,OA,↓reduceIte,jC,b_,jQ,BBA,qt,e9,vS _ A,HY B rfl,tK,Dm _ A (⟨_,_,_,_,_,_,rfl⟩:R4 (SL 1 3)),s_,vS _ C]
 generalize h++[qH 5 [[.sl .nil 0 [],.sl .nil 0 [],.sl .nil 0 [],.sl .nil 0 [],.sl .nil 0 []]]]++[qH 4 [NQ aN]]++[qH 4 [aG]]=H at g0 j q|-
 have i:D7 jA H 27 (.ptr h.length 0 0) (.agg pN)=some (H.set h.length (qH 5 [pN])):=by
  rw[JV (cs:=pN) rfl ZU g0 (jF 5)];rfl
 refine N7 c e (HY j rfl) f @q9 g d i ?_;rw[IU (b:=h.length) (x:=.agg pN) AL (by rw[EK eP ZU (CO g0) rfl (jF 5)];rfl)];exact⟨rfl,q.set (jF _) _⟩
theorem Om (H:Hp)(b:Nat):∀k:Nat,k<4->FC jA H 143 (.ptr b 0 0) (.n (k:Nat))=some (.ptr b 0 k)
 | 0,_=>BC
 | 1,_=>BC
 | 2,_=>BC
 | 3,_=>BC
 | k+4,h=>absurd h U
theorem LR:∀k:Nat,k<4->ly[k]?=some (.str (nt k))
 | 0,_=>rfl
 | 1,_=>rfl
 | 2,_=>rfl
 | 3,_=>rfl
 | k+4,h=>absurd h U
theorem Rg:Tryz.prog.underlying 80=some (.slice 87):=BC
theorem Ra:U5 jA 87=some 4:=BC
theorem BAS:L8 jA 87=some 72:=BC
theorem bQ (h:Hp):a_ (En G) 38 [] h (.agg (C9 VA)):=by
 refine a_.res (r:=.agg x3) ?_ AYL;refine ACalls.pure (R:=fun v H=>Sm.ext h H/\FK h.length H 5 v=.agg x3) 5 ?_ (fun v H ⟨a,b⟩=>⟨a,b⟩);refine II (H:=hint [22,25] []) (ji G) Tryz.func38 rfl (by kernel_rfl) (by kernel_rfl) (jB (by kernel_rfl)) ?_;show dh _ _ _ _ _ (MW _ [.cell 0 31] _);have g0:=AU (x:=qH 4 [ly]) (AU (x:=qH 6 [jb (.sl .nil 0 [])]) (A8 h (qH 2 [[.sl .nil 0 [],.sl .nil 0 []]])));have f:=AU (x:=qH 4 [ly]) (A8 (h++[qH 2 [[.sl .nil 0 [],.sl .nil 0 []]]]) (qH 6 [jb (.sl .nil 0 [])]));have e:=A8 (h++[qH 2 [[.sl .nil 0 [],.sl .nil 0 []]]]++[qH 6 [jb (.sl .nil 0 [])]]) (qH 4 [ly]);have i:Sm.ext h (h++[qH 2 [[.sl .nil 0 [],.sl .nil 0 []]]]++[qH 6 [jb (.sl .nil 0 [])]]++[qH 4 [ly]]):=(((ext.rfl' h).app _).app _).app _;have e1:(h++[qH 2 [[.sl .nil 0 [],.sl .nil 0 []]]]).length=h.length+1:=BA;have e2:(h++[qH 2 [[.sl .nil 0 [],.sl .nil 0 []]]]++[qH 6 [jb (.sl .nil 0 [])]]).length=h.length+2:=BA;have M:IY jA 82 [(0,.str aN),(1,.agg (NQ aN))]=some (.agg (jb (.sl .nil 0 []))):=BC
 have a8:∀H:Hp,D7 jA (H++[qH 6 [xk]]) 82 (.ptr H.length 0 0) (.agg (jb (.sl .nil 0 [])))=some (H++[qH 6 [jb (.sl .nil 0 [])]]):=fun H=>by
  rw[JV (cs:=jb (.sl .nil 0 [])) (row:=xk) rfl cK (A8 _ _) (jF 6),KZ];rfl
 have A:IY jA 143 [(0,.str ⟨#[110,48]⟩),(1,.str ⟨#[110,49]⟩),(2,.str ⟨#[110,50]⟩),(3,.str ⟨#[110,51]⟩)]=some (.agg ly):=BC
 have J:∀H:Hp,D7 jA (H++[qH 4 [[.str ⟨#[]⟩,.str ⟨#[]⟩,.str ⟨#[]⟩,.str ⟨#[]⟩]]]) 143 (.ptr H.length 0 0) (.agg ly)=some (H++[qH 4 [ly]]):=fun H=>by
  rw[JV (cs:=ly) (row:=[.str ⟨#[]⟩,.str ⟨#[]⟩,.str ⟨#[]⟩,.str ⟨#[]⟩]) rfl Np (A8 _ _) (jF 4),KZ];rfl
 refine N7 BA9 @qt M @Qa a8 A Qj J ?_
 rw[e1] at f|-
 rw[e2] at e|-
 generalize h++[qH 2 [[.sl .nil 0 [],.sl .nil 0 []]]]++[qH 6 [jb (.sl .nil 0 [])]]++[qH 4 [ly]]=H0 at g0 f e i|-
 have l2:=AY e;clear e1 e2
 refine BB (fun n F H=>∃k v,n+k=4/\F 0=.ptr h.length 0 0/\F 1=.ptr (h.length+1) 0 0/\F 2=.ptr (h.length+2) 0 0/\F 3=.n (k:Nat)/\H[h.length]?=some (qH 2 [[.sl .nil 0 [],.sl .nil 0 []]])/\H[h.length+1]?=some (qH 6 [jb v])/\H[h.length+2]?=some (qH 4 [ly])/\Sm.ext h H/\bw 4 kW h (zL k) v H/\∀b,db v b->h.length+2<b) 4
  ⟨0,.sl .nil 0 [],U,AL,AL,AL,AL,g0,f,e,i,bw.nil _ _ _ _,fun b q=>q.elim⟩ ?_
 clear g0 f e i;rintro n F H ⟨k,v,hk,O,f1,f2,f3,g0,f,e,i,ho,sep⟩;have e5:BR jA H 80 (.ptr (h.length+1) 0 5)=some v:=by rw[BJ PS f rfl];rfl
 refine A7 f3 ?_;refine BL ?_ ?_<;>intro T
 .have g:k<4:=by have:=of_decide_eq_true T;omega
  have ln:BR jA H 9 (.ptr (h.length+2) 0 k)=some (.str (nt k)):=by rw[BJ eo e rfl];exact LR k g
  have N:IY jA 87 [(0,.str (nt k)),(2,.sl .full 2 [encR ⟨(k:Nat),(k:Nat)⟩])]=some (.agg (kW k)):=BC;have a7:DR jA false H 80 1 [(0,.agg (kW k))]=some (.sl .full 4 [kW k],H):=BC;obtain⟨j,H',a1,a2,K,a4,a5,a6⟩:=ho.append (P:=jA) Rg dK Ra BAS U (by rw[List.length_range];omega) i k;have l2:=AY e;have c:=K _ _ g0 (fun q=>by have:=sep _ q;omega);have B:=K _ _ f (fun q=>by have:=sep _ q;omega);have Q:=K _ _ e (fun q=>by have:=sep _ q;omega)
  have V:JI j=some [j]:=by
   rcases a2 with⟨_,rfl⟩|⟨_,o,_,rfl,_⟩<;>rfl
  have s5:D7 jA H' 80 (.ptr (h.length+1) 0 5) j=some (H'.set (h.length+1) (qH 6 [jb j])):=by
   rw[JV (cs:=[j]) V (BC:da jA 80=some 1) B (jF 6)];rfl
  refine AB ?_;refine DI BC ?_;simp only[vQ,List.contains_cons,List.contains_nil,Nat.reduceBEq,Bool.or_false,O8,X8,JK,PU,CP,OA,↓reduceIte,jC,jO,b_,JW,jQ,f1,f2,f3,e5,Om H (h.length+2) k g,ln,AK,x9,N,a7,a1,s5,CZ k];refine⟨n-1,U,k+1,j,U,AO,AO,AO,AO,by rw[zY U];exact c,CO B,by rw[zY U];exact Q,a4.set U _,?_,fun b S=>by have:=a6 b S;omega⟩;rw[List.range_succ];exact a2.keep fun b S=>by rw[zY (by have:=a6 b S;omega)]
 .have g:¬k<4:=fun q=>by rw[decide_eq_true U] at T;cases T
  obtain rfl:k=4:=U;rcases ho with⟨q,_⟩|⟨_,o,aa,rfl,q3⟩
  .cases q
  have l6:BR jA H 82 (.ptr (h.length+1) 0 0)=some (.agg (jb (.own o 0 4))):=by rw[EK lD cK f rfl (jF 6)];rfl
  have Z:DR jA true H 28 1 [(0,.agg (jb (.own o 0 4)))]=some (.own H.length 0 1,H++[qH 6 [jb (.own o 0 4)]]):=BC;have L:IY jA 31 [(0,.own H.length 0 1)]=some (.agg [.own H.length 0 1,.sl .nil 0 []]):=BC;have c:=AU (x:=qH 6 [jb (.own o 0 4)]) g0;have X:=AU (x:=qH 6 [jb (.own o 0 4)]) q3;have gb:=A8 H (qH 6 [jb (.own o 0 4)]);have I:=i.app [qH 6 [jb (.own o 0 4)]];have l0:=AY g0;have a9:=sep o rfl;have Y:=AY q3;refine G7 O f1 l6 Z L ?_
  generalize H++[qH 6 [jb (.own o 0 4)]]=H1 at c X gb I|-
  generalize H.length=rb at gb l0 Y|-
  have a0:D7 jA H1 31 (.ptr h.length 0 0) (.agg [.own rb 0 1,.sl .nil 0 []])=some (H1.set h.length (qH 2 [[.own rb 0 1,.sl .nil 0 []]])):=by
   rw[JV (cs:=[.own rb 0 1,.sl .nil 0 []]) rfl sn c (jF 2)];rfl
  refine AZ a0 O ?_;rw[IU (b:=h.length) (x:=.agg [.own rb 0 1,.sl .nil 0 []]) (DY O) (by rw[EK ya sn (CO c) rfl (jF 2)];rfl)];refine⟨I.set (jF _) _,?_⟩;have q4:(H1.set h.length (qH 2 [[.own rb 0 1,.sl .nil 0 []]]))[o]?=some (qH 4 ((zL 4).map kW)):=by grind
  have C:(H1.set h.length (qH 2 [[.own rb 0 1,.sl .nil 0 []]]))[rb]?=some (qH 6 [jb (.own o 0 4)]):=by grind
  generalize H1.set h.length (qH 2 [[.own rb 0 1,.sl .nil 0 []]])=H2 at q4 C;have z1:FK h.length H2 3 (.own o 0 4)=.sl .any 4 ((zL 4).map kW):=Cov.ew NO (n:=h.length) (d:=1) (h:=H2) (xs:=zL 4) U q4
  have z2:FK h.length H2 4 (.own rb 0 1)=.sl .any 6 [jb (.sl .any 4 ((zL 4).map kW))]:=by
   have E:((([jb (.own o 0 4)]:List (List AV)).drop 0).take 1).map (·.map (FK h.length H2 3))=[jb (.sl .any 4 ((zL 4).map kW))]:=by
    show [[AV.str aN,.n 2,.n 0,.str aN,.sl .nil 0 [],FK h.length H2 3 (.own o 0 4)]]=_;rw[z1]
   rw[Cov.ez _ _ 3 rb 0 1 6 _ U C,E];rfl
  show AV.agg [FK h.length H2 4 (.own rb 0 1),FK h.length H2 4 (.sl .nil 0 [])]=_;rw[z2];rfl
end
end Bd.Cl
namespace Ho
open Sm Bins Cov Go.RowKit
theorem cl4:Tryz.prog.cellsOf 4=1:=BC
theorem BAK:Tryz.prog.cellsOf 34=3:=BC
def x0 (x:Hl)(b:Nat):Prop:=e_ okI x.bins b
theorem Rz:Rd Tryz.prog 34 FH x0:=by
 intro n
 match n with
 | 0=>exact c7.zero
 | 1=>exact dV Tryz.underlying34
 | n+2 =>
   refine c7.map (fun x:Bool×Int×Is×Unit=>(⟨x.1,x.2.1,x.2.2.1.m,x.2.2.1.l⟩:Hl))
    (MH Tryz.underlying34 (EY rfl cl4 (fun _=>rfl) (Gr Tryz.underlying4 _) (EY rfl jy (fun _=>rfl) (j7 _) (EY rfl ta gQ (wg _) PZ)))) (fun x=>rfl) ?_
   rintro⟨a,b,c,_⟩ N ⟨_,E,g,h,F,B,i,j,e,C,q,A,f,d,_⟩;exact d.mono U
theorem AY3 {x:Hl}{b:Nat}(h:x0 x b)(c:b<=1048576):x.bins.length<=1048576:=Nat.le_trans (e_.length h) c
end Ho
namespace Cov
open Sm Bins Bd Go.RowKit
theorem BAI:Tryz.prog.cellsOf 4=1:=BC
theorem BAQ:Tryz.prog.cellsOf 22=1:=BC
theorem BAP:Tryz.prog.cellsOf 24=1:=BC
theorem BAO:Tryz.prog.cellsOf 27=5:=BC
theorem Pl:Tryz.prog.cellsOf 120=1:=BC
theorem Pj:Tryz.prog.cellsOf 140=2:=BC
theorem Pk:Tryz.prog.cellsOf 131=4:=BC
theorem Pg:Tryz.prog.cellsOf 240=4:=BC
def v8 (v:Vr)(b:Nat):Prop:=v.name.size<=b
theorem Rx:Rd jA 131 Bd.bt v8:=by
 intro n
 cases n with
 | zero=>exact c7.zero
 | succ n =>
   refine c7.map (fun x:ByteArray×Int×Int×Int×Unit=>(⟨x.1,x.2.1,x.2.2.1,x.2.2.2.1⟩:Vr)) (MH Tryz.underlying131 (EY rfl q_ (fun _=>rfl) (rdStr n) (EY rfl jy (fun _=>rfl) (j7 n) (EY rfl jy (fun _=>rfl) (j7 n) (EY rfl jy (fun _=>rfl) (j7 n) PZ))))) (fun _=>rfl) ?_;rintro⟨a,b,c,d,_⟩ N ⟨_,h,f,g,i,e,_⟩;unfold okS at e;show a.size<=N;simp only at e;omega
theorem Rw:Rd jA 240 JE (fun _ _=>True):=by
 intro n
 cases n with
 | zero=>exact c7.zero
 | succ n=>exact c7.map (fun x:Int×Int×Int×Bool×Unit=>(⟨x.1,x.2.1,x.2.2.1,x.2.2.2.1⟩:Wg)) (MH Tryz.underlying240 (EY rfl jy (fun _=>rfl) (j7 n) (EY rfl jy (fun _=>rfl) (j7 n) (EY rfl jy (fun _=>rfl) (j7 n) (EY rfl BAI (fun _=>rfl) (Gr Tryz.underlying4 n) PZ))))) (fun _=>rfl) (fun _ _ _=>trivial)
def wo (d:Ds)(b:Nat):Prop:=d.ws.length<=b
theorem Qs:Rd jA 140 I9 wo:=by
 intro n
 match n with
 | 0=>exact c7.zero
 | 1=>exact dV Tryz.underlying140
 | n+2 =>
   have c:c7 jA (n+1) 120 (fun x:SM×List Wg=>[.sl x.1 4 (x.2.map JE)]) (fun x b=>∃d,d+1<=b/\e_ (fun _ _=>True) x.2 d):=ML Tryz.underlying120 Pg DX kL (Rw n);refine c7.map (fun x:Int×(SM×List Wg)×Unit=>(⟨x.1,x.2.1.1,x.2.1.2⟩:Ds)) (MH Tryz.underlying140 (EY rfl jy (fun _=>rfl) (j7 _) (EY rfl Pl (fun _=>rfl) c PZ))) (fun _=>rfl) ?_;rintro⟨a,b,_⟩ N ⟨_,A,g,h,B,q,i,j,f,e,_⟩;have:=(QB e).length;show b.2.length<=N;simp only at this;omega
def sq (g:Gp)(b:Nat):Prop:=g.l.length<=b
theorem Qr:Rd jA 32 UM sq:=by
 intro n
 cases n with
 | zero=>exact c7.zero
 | succ n=>exact c7.map (fun x:SM×List Int=>(⟨x.1,x.2⟩:Gp)) (ML Tryz.underlying32 jy DX (fun _=>rfl) (j7 n)) (fun _=>rfl) (fun x b h=>(QB h).length)
theorem xC:∀ {l:List Gp} {b:Nat},e_ sq l b->(dg l).length<=b
 | [],b,_=>Nat.zero_le _
 | x::xs,b,⟨e,f,g,_,c,d⟩=>by
   have:=xC d;unfold sq at c;show((x::xs).flatMap Gp.l).length<=b;rw[List.flatMap_cons,List.length_append];unfold dg at this;omega
def xz (p:Pr)(b:Nat):Prop:=∃c d e f g,c+d+e+f+g<=b/\e_ v8 p.vars c/\e_ lz p.hard d/\e_ lz p.soft e/\e_ wo p.dists f/\e_ sq p.groups g
theorem Ry:Rd jA 27 CW xz:=by
 intro n
 match n with
 | 0=>exact c7.zero
 | 1=>exact dV Tryz.underlying27
 | n+2 =>
   have O:c7 jA (n+1) 22 (fun x:SM×List Vr=>[.sl x.1 4 (x.2.map Bd.bt)]) (fun x b=>∃f,f+1<=b/\e_ v8 x.2 f):=ML Tryz.underlying22 Pk DX Bd.dz (Rx n);have g:c7 jA (n+1) 23 (fun x:SM×List Ex=>[.sl x.1 4 (x.2.map AQ)]) (fun x b=>∃f,f+1<=b/\e_ lz x.2 f):=ML Tryz.underlying23 yg DX EF (Kg n);have P:c7 jA (n+1) 24 (fun x:SM×List Ds=>[.sl x.1 2 (x.2.map I9)]) (fun x b=>∃f,f+1<=b/\e_ wo x.2 f):=ML Tryz.underlying24 Pj DX RU (Qs n);have Q:c7 jA (n+1) 25 (fun x:SM×List Gp=>[.sl x.1 1 (x.2.map UM)]) (fun x b=>∃f,f+1<=b/\e_ sq x.2 f):=ML Tryz.underlying25 ta DX (fun _=>rfl) (Qr n)
   refine c7.map (fun x:(SM×List Vr)×(SM×List Ex)×(SM×List Ex)×(SM×List Ds)×(SM×List Gp)×Unit=>(⟨x.1.1,x.1.2,x.2.1.1,x.2.1.2,x.2.2.1.1,x.2.2.1.2,x.2.2.2.1.1,x.2.2.2.1.2,x.2.2.2.2.1.1,x.2.2.2.2.1.2⟩:Pr))
    (MH Tryz.underlying27 (EY rfl BAQ (fun _=>rfl) O (EY rfl yh (fun _=>rfl) g (EY rfl yh (fun _=>rfl) g (EY rfl BAP (fun _=>rfl) P (EY rfl tx (fun _=>rfl) Q PZ)))))) (fun _=>rfl) ?_
   rintro⟨a,b,c,d,e,_⟩ N ⟨_,Y,h,S,Z,C,j,T,J,E,q,V,K,F,A,X,L,H,B,i,M,I,_⟩;exact⟨h,j,q,A,B,U,QB C,QB E,QB F,QB H,QB I⟩
theorem LB {p:Pr}{b:Nat}(h:xz p b)(N:b<=1048576):fp p:=by
 obtain⟨H,I,J,K,L,M,j,q,A,B,C⟩:=h;have O:=j.length;have P:=q.length;have Q:=A.length;have S:=B.length;have T:=C.length;have V:=xC C;refine⟨U,fun v F=>?_,U,fun e f=>?_,U,fun d E=>?_,U,U⟩
 .obtain⟨g,i,c⟩:=j.each v F
  unfold v8 at c;omega
 .rcases List.mem_append.1 f with f|f
  .obtain⟨g,i,c⟩:=q.each e f
   unfold lz at c;omega
  .obtain⟨g,i,c⟩:=A.each e f
   unfold lz at c;omega
 .obtain⟨g,i,c⟩:=B.each d E
  unfold wo at c;omega
end Cov
namespace Cov
open Sm Bins Go.RowKit
noncomputable def s8 (z:Int):Nat->AV:=fun n=>if n=0 then .fptr 1 [[.sl .any 1 (kw.map cu)]] 0 0 else if n=1 then .fptr 1 [[.int .i64 z]] 0 0 else .junk
theorem Oi (z:Int):fm (s8 z):=⟨⟨.any,rfl⟩,z,rfl⟩
theorem ATT {H:Type}:(Rows.laid_testbench_lexer_keywords:DataW H)=.slice (kw.map fun s=>.lit (.string s.data.toList)) []:=rfl
theorem AXB {w:World}{g:Nat}{k:IntKind}{z:Int}(h:w.cell? ⟨g,0,none⟩=some (.int k z)):cw (M0 w) (.fptr 1 [[.int k z]] 0 0) (.pointer (some ⟨g,0,none⟩)):=by
 simp only[World.cell?] at h;split at h
 case h_2=>simp at h
 rename_i f C q B;have e:f[0]?=some (.int k z):=BQ h;refine .fptr 1 [[.int k z]] 0 0 g 0 f C q (fun _ _=>.int k z) B ?_ ?_ ?_
 .intro i row c
  cases i with
  | zero =>
    simp at c;subst c;refine⟨rfl,fun j v d=>?_⟩
    cases j with
    | zero=>simp at d;subst d;rfl
    | succ j=>simp at d
  | succ i=>simp at c
 .intro i j A E
  obtain rfl:i=0:=BQ A;obtain rfl:j=0:=U;exact e
 .intro i j row v c d
  cases i with
  | zero =>
    simp at c;subst c
    cases j with
    | zero=>simp at d;subst d;exact .int _ _
    | succ j=>simp at d
  | succ i=>simp at c
theorem Q2 {W:World}(h:laidMetH jA [("math/bits.deBruijn32tab",Rows.laid_math_bits_deBruijn32tab),("math/bits.deBruijn64tab",Rows.laid_math_bits_deBruijn64tab),("internal/strconv.uint64pow10",Rows.laid_internal_strconv_uint64pow10),("testbench/lexer.keywords",Rows.laid_testbench_lexer_keywords)] W) (hsh:W.ShapedOpen jA) :
  ∃z,∀n,cw (M0 W) (s8 z n) (.pointer (some ⟨n,0,none⟩)):=by
 rw[MakeChecks.laidMetH_plain _ _ _ BC] at h;obtain⟨ps,⟨_,_,_,_,_,_,_,_,_,_,⟨_,_,_,_,_,_,_,_,_,_,⟨_,_,_,_,_,_,_,_,_,_,⟨g3,t3,cs3,f3,p3,q3,hg3,ht3,hv3,hd3,_,_⟩,_⟩,_⟩,_⟩,_,_⟩:=h
 have hgk:Tryz.prog.globalNamed "testbench/lexer.keywords" = some 0:=BC
 have htk:(Tryz.prog.globals[0]?).map (·.type)=some 121:=BC;obtain rfl:=Option.some.inj (hgk.symm.trans hg3);obtain rfl:=Option.some.inj (htk.symm.trans ht3);obtain⟨c,h1,h2⟩:=Zd Tryz.underlying121 Tryz.underlying9 q_ ATT hd3;obtain⟨z,hz⟩:=cell_of_shapedOpen_int (P:=jA) (g:=1) (t:=3) (zero := #[.int .i64 0]) hsh (of_decide_eq_true BC) BC rfl BC BC Tryz.underlying3;refine⟨z,fun n=>?_⟩;unfold s8;split
 .rename_i hn; subst hn
  exact AXA hg3 hv3 h1 h2 rfl
 .split
  .rename_i hn; subst hn
   exact AXB hz
  .exact .junk _
end Cov
namespace Bd.Cl
open Sm Bins Cov Xe Wd Bl Ho Go.RowKit
variable {A:Hp} {u v w:bO}
abbrev gW (i:Int):List AV:=[.bool false,.n 0,.sl .full 1 [[.n i]]]
theorem Rc:nw sM c6 FT RP VA (hol 2)=.tup [.sl .any 1 [[.sl .any 1 [[.n 2]]]],.n 0]:=by unfold nw;rw[CN.2,CN.1];rfl
theorem Rf:v7 c6 FT RP VA (hol 3)=.tup [.bool true,.n 0]:=by unfold v7;rw[Rb];rfl
def yb (v:eu):Prop:=my RP VA v 9=0/\(XN c6 FT RP VA v 9).1.map (fun g=>(g.cross,g.idx,g.bm,g.bins))=[(false,0,.full,[0]),(false,0,.full,[1]),(false,0,.full,[2])]/\(XN c6 FT RP VA v 9).2.map (fun g=>(g.cross,g.idx,g.bm,g.bins))=[(false,0,.full,[3])]
theorem Fu (L:List Gl):L.map Cov.dr=(L.map (fun g=>(g.cross,g.idx,g.bm,g.bins))).map fun x=>[AV.bool x.1,.n ((x.2.1:Nat):Int),.sl x.2.2.1 1 (x.2.2.2.map Bins.bu)]:=by rw[List.map_map];rfl
theorem Iy {α β:Type}(f:α->β)(L:List α):Cov.nm (L.map f)=Cov.nm L:=by cases L<;>rfl
theorem Re {v:eu}(h:yb v):mw c6 FT RP VA v 9=.tup [.sl .any 3 [gW 0,gW 1,gW 2],.sl .any 3 [gW 3],.n 0]:=by
 obtain⟨c,d,e⟩:=h;unfold mw;rw[<-Iy (fun g:Gl=>(g.cross,g.idx,g.bm,g.bins)),<-Iy (fun g:Gl=>(g.cross,g.idx,g.bm,g.bins)) (XN c6 FT RP VA v 9).2,Fu,Fu,d,e,c];rfl
theorem w_m:F6 VA=0:=by decide +kernel
theorem Dp (n:Int):IY jA 34 [(2,.sl .full 1 [Bins.bu n])]=some (.agg (FH (hol n))):=BC
abbrev oq:List AV:=[.sl .nil 0 [],.sl .nil 0 [],.n 0,.n 0]
theorem Cw (h:Hp):H9 jA h 46=some (.ptr h.length 0 0,h++[qH 4 [oq]]):=FZ (row:=oq) BC
theorem P_ (h:Hp):H9 jA h 94=some (.ptr h.length 0 0,h++[qH 1 [[.sl .nil 0 []]]]):=FZ (row:=[.sl .nil 0 []]) BC
section
variable (G:Nat->AV)
theorem ARY (q:fm G)(v:eu)(t:Tk)(i:yb v)(d:∀h,a_ (En G) 17 [.agg (CW RP),.agg (C9 VA),.agg (Cov.bt v),.n 9] h (mw c6 FT RP VA v 9))(I:∀h,a_ (En G) 39 [.agg (C9 VA)] h (.tup [.agg (Cov.bt v),.agg (TK t),.n 0]))(h:Hp):a_ (En G) 11 [] h (.bool true):=by
 refine ACalls.pure0 rfl ?_;refine cn Tryz.func11 0 ?_;have B:=eS G q RP yv yw VA nN (hol 2) DX h;have C:=Ue G q RP yv yw VA nN (hol 3) DX h;rw[Rc] at B;rw[Rf] at C;refine AB ?_;refine(Z8 G h).uu ?_;refine(bQ G h).use ?_;refine AZ @q9 Dp ?_;refine B.uu ?_;refine(Z8 G h).uu ?_;refine(bQ G h).use ?_;refine AZ @q9 Dp ?_;refine C.uu ?_;refine(bQ G h).uu ?_;refine(I h).use ?_;have e:=AU (x:=qH 1 [[.sl .nil 0 []]]) (A8 h (qH 4 [oq]));have g:=A8 (h++[qH 4 [oq]]) (qH 1 [[.sl .nil 0 []]]);have E:Sm.ext h (h++[qH 4 [oq]]++[qH 1 [[.sl .nil 0 []]]]):=((ext.rfl' h).app _).app _;have F:(h++[qH 4 [oq]]).length=h.length+1:=BA;refine AZ @Cw @P_ ?_
 rw[F] at g|-
 generalize h++[qH 4 [oq]]++[qH 1 [[.sl .nil 0 []]]]=H at e g E|-
 have s5:D7 jA H 46 (.ptr h.length 0 0) (.agg (Cov.bt v))=some (H.set h.length (qH 4 [Cov.bt v])):=by
  rw[JV (cs:=Cov.bt v) rfl nu e (jF 4)];rfl
 have f:(H.set h.length (qH 4 [Cov.bt v]))[h.length+1]?=some (qH 1 [[.sl .nil 0 []]]):=by rw[zY U];exact g
 have s6:D7 jA (H.set h.length (qH 4 [Cov.bt v])) 94 (.ptr (h.length+1) 0 0) (.agg (TK t))=some ((H.set h.length (qH 4 [Cov.bt v])).set (h.length+1) (qH 1 [TK t])):=by
  rw[JV (cs:=TK t) rfl qh f (jF 1)];rfl
 have j:((H.set h.length (qH 4 [Cov.bt v])).set (h.length+1) (qH 1 [TK t]))[h.length]?=some (qH 4 [Cov.bt v]):=by rw[zY U];exact CO e
 have c:=(E.set (jF h.length) (qH 4 [Cov.bt v])).set (b:=h.length+1) U (qH 1 [TK t]);refine AZ s5 s6 ?_
 generalize (H.set h.length (qH 4 [Cov.bt v])).set (h.length+1) (qH 1 [TK t])=H2 at j c|-
 have d:=d H2;rw[Re i] at d;refine DI BC ?_;refine AB ?_;refine⟨_,Z8 G H2,_,bQ G H2,?_⟩;refine A7 (Cov.jo j) ?_;refine⟨_,d,?_⟩;have Y:((0:Int) != 0)=false:=rfl;have Z:(((1:Nat):Int) != 1)=false:=rfl;have n3:(((3:Nat):Int) != 3)=false:=rfl;have X:(((1:Nat):Int)==1)=true:=rfl;have J:JJ 1 H2 (.sl .any 1 [[.sl .any 1 [[.n 2]]]]) (.n 0)=some (.fptr 1 [[.sl .any 1 [[.n 2]]]] 0 0):=BC;have P:BR jA H2 32 (.fptr 1 [[.sl .any 1 [[.n 2]]]] 0 0)=some (.sl .any 1 [[.n 2]]):=BC;have K:JJ 1 H2 (.sl .any 1 [[.n 2]]) (.n 0)=some (.fptr 1 [[.n 2]] 0 0):=BC;have Q:BR jA H2 3 (.fptr 1 [[.n 2]] 0 0)=some (.n 2):=BC;have L:JJ 3 H2 (.sl .any 3 [gW 0,gW 1,gW 2]) (.n 1)=some (.fptr 3 [gW 0,gW 1,gW 2] 1 0):=BC;have lc:BR jA H2 32 (.fptr 3 [gW 0,gW 1,gW 2] 1 2)=some (.sl .full 1 [[.n 1]]):=BC;have M:JJ 1 H2 (.sl .full 1 [[.n 1]]) (.n 0)=some (.fptr 1 [[.n 1]] 0 0):=BC;have S:BR jA H2 3 (.fptr 1 [[.n 1]] 0 0)=some (.n 1):=BC;have N:JJ 3 H2 (.sl .any 3 [gW 3]) (.n 0)=some (.fptr 3 [gW 3] 0 0):=BC;have T:BR jA H2 32 (.fptr 3 [gW 3] 0 2)=some (.sl .full 1 [[.n 3]]):=BC;have O:JJ 1 H2 (.sl .full 1 [[.n 3]]) (.n 0)=some (.fptr 1 [[.n 3]] 0 0):=BC;have V:BR jA H2 3 (.fptr 1 [[.n 3]] 0 0)=some (.n 3):=BC;have q2:((2:Int)==2)=true:=rfl;have q1:((1:Int)==1)=true:=rfl;have q3:((3:Int)==3)=true:=rfl;simp only[vQ,wL,wR,JX,XG,EM,SX,CP,OV,VD,↓reduceIte,jC,jO,om,b_,V6,qn,J8,UF,VU,qi,nz,Y,Z,n3,X,J,P,K,Q,L,lc,M,S,N,T,O,V,q1,q2,q3,List.length_cons,List.length_nil];exact⟨AO,c⟩
theorem XI (c:fm G)(h:Hp):a_ (En G) 11 [] h (.bool true):=by
 refine ARY G c (th VA) (w_ VA) (by unfold yb;decide +kernel) (Dw G c RP yv yw VA nN _ AZT 9) (fun h=>?_) h;have d:=Xd G c VA nN h;rw[w_m] at d;exact d
end
structure m_ where
 p:Pr
 m:Mo
 x:Hl
 v:eu
 most:Int
def TM (c:m_):List AV:=CW c.p++(C9 c.m++(FH c.x++(Cov.bt c.v++[.n c.most])))
theorem eK (c:m_):(TM c).length=15:=by unfold TM;simp only[List.length_append,LD,sI,kN,Cov.dz];rfl
def pZ:List AV:=[.sl .nil 0 [],.sl .nil 0 [],.sl .nil 0 [],.sl .nil 0 [],.sl .nil 0 []]
def mZ:List AV:=[.sl .nil 0 [],.sl .nil 0 []]
theorem Qe (h:Hp):H9 jA h 27=some (.ptr h.length 0 0,h++[qH 5 [pZ]]):=FZ (row:=pZ) BC
theorem Qd (h:Hp):H9 jA h 31=some (.ptr h.length 0 0,h++[qH 2 [mZ]]):=FZ (row:=mZ) BC
section
variable (G:Nat->AV)
theorem Po (h:Hp)(c:m_):OU h (.agg (TM c))=some (.ptr h.length 0 0,h++[qH 15 [TM c]]):=rfl
end
theorem BBD:Tryz.prog.cellsOf 48=15:=BC
def ub (c:m_)(b:Nat):Prop:=∃d e f g,d+e+f+g<=b/\xz c.p d/\Bc c.m e/\x0 c.x f/\okV c.v g
theorem BBB:Rd jA 48 TM ub:=by
 intro n
 match n with
 | 0=>exact c7.zero
 | n+1 =>
   refine c7.map (fun x:Pr×Mo×Hl×eu×Int×Unit=>(⟨x.1,x.2.1,x.2.2.1,x.2.2.2.1,x.2.2.2.2.1⟩:m_))
    (MH Tryz.underlying48 (EY rfl BAO LD (Ry _) (EY rfl BAL sI (rdM _) (EY rfl BAK kN (Rz _) (EY rfl BAJ Cov.dz (rdV _) (EY rfl jy (fun _=>rfl) (j7 _) PZ)))))) (fun x=>rfl) ?_
   rintro⟨a,b,c,d,e,_⟩ N ⟨_,M,f,I,O,j,g,J,E,q,h,K,F,B,i,L,H,C,_⟩;exact⟨f,g,h,i,U,j,q,B,C⟩
theorem Pd {c:m_}{b:Nat}(h:ub c b)(E:b<=1048576):fp c.p/\dt c.m/\c.x.bins.length<=1048576/\jc c.v:=by
 obtain⟨i,j,q,B,C,d,e,f,g⟩:=h;exact⟨LB d U,AYM e U,AY3 f U,AZX g U⟩
theorem l9 {t:TypeId}{row r:List AV}{cs:AV}(g:da jA t=some r.length)(d:JI cs=some r)(f:row.length=r.length)(A:Hp):D7 jA (A++[qH r.length [row]]) t (.ptr A.length 0 0) cs=some (A++[qH r.length [r]]) /\
  (∀x,D7 jA (A++[qH r.length [row]]++[x]) t (.ptr A.length 0 0) cs=some (A++[qH r.length [r]]++[x])) /\
  ∀x y,D7 jA (A++[qH r.length [row]]++[x]++[y]) t (.ptr A.length 0 0) cs=some (A++[qH r.length [r]]++[x]++[y]):=by
 have c:splice row 0 r=r:=by unfold splice;simp [f]
 have key:∀l:Hp,D7 jA (A++[qH r.length [row]]++l) t (.ptr A.length 0 0) cs=some (A++[qH r.length [r]]++l):=fun l=>by
  have e:(A++[qH r.length [row]]++l)[A.length]?=some (qH r.length [row]):=BA;rw[JV d g e U,c];simp [List.set_append]
 refine⟨by simpa using key [],fun x=>key [x],fun x y=>?_⟩;have:=key ([x]++[y])
 rwa [<-zA,<-zA] at this
def tj:PT:=.ones [8,9,10,11] .done
def tk:PT:=.ones [7,9,10,11] .done
def g72:PT:=.ones [6,9,10,11] .done
def Ba:PT:=.alt 5 (.ones [10,11] .done) (.alt 10 (.ones [5,11] .done) .non)
def tl:PT:=.alt 3 (.ones [9,10,11] .done) (.alt 9 (.ones [3,10,11] .done) .non)
def xa:PT:=.alt 7 tj (.alt 8 tk .non)
def xc:PT:=.alt 6 tj (.alt 8 g72 .non)
def xd:PT:=.alt 6 tk (.alt 7 g72 .non)
def tm:PT:=.alt 5 (.ones [9,10,11] .done) (.alt 9 Ba .non)
def xe:PT:=.alt 3 tj (.alt 8 tl .non)
def wY:PT:=.alt 3 tk (.alt 7 tl .non)
def wX:PT:=.alt 3 g72 (.alt 6 tl .non)
def wz:PT:=.alt 5 tj (.alt 8 tm .non)
def wy:PT:=.alt 5 tk (.alt 7 tm .non)
def wx:PT:=.alt 5 g72 (.alt 6 tm .non)
def yd:PT:=.alt 6 xa (.alt 7 xc (.alt 8 xd .non))
def wv:PT:=.alt 3 tm (.alt 5 tl (.alt 9 (.ones [3] Ba) .non))
def yc:PT:=.alt 3 xa (.alt 7 xe (.alt 8 wY .non))
def xy:PT:=.alt 3 xc (.alt 6 xe (.alt 8 wX .non))
def xx:PT:=.alt 3 xd (.alt 6 wY (.alt 7 wX .non))
def xw:PT:=.alt 5 xa (.alt 7 wz (.alt 8 wy .non))
def xv:PT:=.alt 5 xc (.alt 6 wz (.alt 8 wx .non))
def xu:PT:=.alt 5 xd (.alt 6 wy (.alt 7 wx .non))
def xt:PT:=.alt 3 wz (.alt 5 xe (.alt 8 wv .non))
def xr:PT:=.alt 3 wy (.alt 5 wY (.alt 7 wv .non))
def xq:PT:=.alt 3 wx (.alt 5 wX (.alt 6 wv .non))
section
variable (G:Nat->AV)
theorem BA1:(A++[u]++[v]++[w])[A.length]?=some u:=AU (AU (A8 _ _))
theorem BA0:(A++[u]++[v]++[w])[A.length+1]?=some v:=BA
theorem BAZ:(A++[u]++[v]++[w])[A.length+2]?=some w:=BA
end
def Dn (A:Hp)(x y z:bO)(F:Fr)(H:Hp):Prop:=∃a b c,F 3=.ptr a 0 0/\F 4=.ptr b 0 0/\F 5=.ptr c 0 0/\H[a]?=some x/\H[b]?=some y/\H[c]?=some z/\Sm.ext A H
theorem AX5 (f:Gl->Int)(most:Int)(L:List Gl):∀g,(g∈(UU f most L).1\/g∈(UU f most L).2)->g∈L:=by
 have:∀(L:List Gl) (s:List Gl×List Gl) (g:Gl),(g∈(L.foldl (dM f most) s).1\/g∈(L.foldl (dM f most) s).2)->g∈s.1\/g∈s.2\/g∈L:=by
  intro L
  induction L with
  | nil=>intro s g h;rcases h with h|h<;>simp_all
  | cons a L c =>
    intro s g h;have:=c _ g h;unfold dM at this;split at this
    .simp_all;grind
    .split at this<;>(simp_all;try grind)
 intro g h;have:=this L ([],[]) g h;simpa using this
theorem AX4 {p:Pr}{m:Mo}{v:eu}{most:Int}{s:Bw}{ins:Ex->List cp->Ex}:(∀g,(g∈(XN s ins p m v most).1\/g∈(XN s ins p m v most).2)->g∈KA m v)/\(XN s ins p m v most).1.length<=8192/\(XN s ins p m v most).2.length<=8192:=by
 unfold XN;split
 .have h:=pQ (fun g=>NE s ins p m (PX g)) most (KA m v)
  have c:=Aa m v;exact⟨AX5 _ _ _,U,U⟩
 .simp
section
variable (G:Nat->AV)
theorem AX2 {x y z:bO}{F:Fr}(q:∃i,F 3=.ptr i 0 0/\(A++[u]++[v]++[w])[i]?=some x)(B:∃i,F 4=.ptr i 0 0/\(A++[u]++[v]++[w])[i]?=some y)(C:∃i,F 5=.ptr i 0 0/\(A++[u]++[v]++[w])[i]?=some z):Dn A x y z F (A++[u]++[v]++[w]):=by
 obtain⟨a,d,e⟩:=q;obtain⟨b,f,g⟩:=B;obtain⟨c,h,j⟩:=C;exact⟨a,b,c,d,f,h,e,g,j,(((ext.rfl' A).app _).app _).app _⟩
theorem Nb (C:fm G)(c:m_)(hs:fp c.p)(P:dt c.m)(hv:jc c.v)(h:Hp):a_ (En G) 4 [.agg (TM c)] h (.bool true):=by
 refine ACalls.pure0 rfl ?_;refine II (H:=hint [3,4,5] []) (ji G) Tryz.func4 rfl (by kernel_rfl) (by kernel_rfl) (jB (by kernel_rfl)) ?_;show dh _ _ _ _ _ (MW _ [.tmp 2] _);have B:=A8 h (qH 15 [TM c]);have f:=Sm.ext.r1 h (qH 15 [TM c]);refine A7 @Po ?_
 generalize h++[qH 15 [TM c]]=A at B f|-
 generalize h.length=cb at B|-
 have lp:∀ {H:Hp},Sm.ext A H->BR jA H 27 (.ptr cb 0 0)=some (.agg (CW c.p)):=fun q=>by rw[EK eP ZU (DZ q B) (row:=TM c) rfl (by rw[eK];decide)];rfl
 have lm:∀ {H:Hp},Sm.ext A H->BR jA H 31 (.ptr cb 0 5)=some (.agg (C9 c.m)):=fun q=>by rw[EK ya sn (DZ q B) (row:=TM c) rfl (by rw[eK];decide)];rfl
 have lv:∀ {H:Hp},Sm.ext A H->BR jA H 46 (.ptr cb 0 10)=some (.agg (Cov.bt c.v)):=fun q=>by rw[EK x_ nu (DZ q B) (row:=TM c) rfl (by rw[eK];decide)];rfl
 have ln:∀ {H:Hp},Sm.ext A H->BR jA H 3 (.ptr cb 0 14)=some (.n c.most):=fun q=>by rw[BJ ct (DZ q B) (row:=TM c) rfl];rfl
 have S:=fun A=>l9 (t:=27) (row:=pZ) (r:=CW c.p) (cs:=.agg (CW c.p)) ZU rfl rfl A
 have Q:=fun A=>l9 (t:=31) (row:=mZ) (r:=C9 c.m) (cs:=.agg (C9 c.m)) sn rfl rfl A
 have sv:=fun A=>l9 (t:=46) (row:=oq) (r:=Cov.bt c.v) (cs:=.agg (Cov.bt c.v)) nu rfl rfl A
 rw[show(CW c.p).length=5 from rfl] at S;rw[show(C9 c.m).length=2 from rfl] at Q;rw[show(Cov.bt c.v).length=4 from rfl] at sv;have k1:∀x:bO,(A++[x]).length=A.length+1:=fun x=>BA
 have k2:∀x y:bO,(A++[x]++[y]).length=A.length+2:=fun x y=>BA
 have J:=fun x=>S (A++[x])
 have K:=fun x y=>(S (A++[x]++[y])).1
 have E:=fun x=>Q (A++[x])
 have I:=fun x y=>(Q (A++[x]++[y])).1
 have L:=fun x=>sv (A++[x])
 have M:=fun x y=>(sv (A++[x]++[y])).1
 simp only[k1,k2] at J K E I L M;have e0:=ext.rfl' A;have e1:∀x:bO,Sm.ext A (A++[x]):=fun x=>e0.app _
 have e2:∀x y:bO,Sm.ext A (A++[x]++[y]):=fun x y=>(e1 x).app _
 have e3:∀x y z:bO,Sm.ext A (A++[x]++[y]++[z]):=fun x y z=>(e2 x y).app _
 refine oC (fun F H=>Dn A (qH 5 [CW c.p]) (qH 2 [C9 c.m]) (qH 4 [Cov.bt c.v]) F H/\F 1=.ptr cb 0 0) (fun _ _=>False) ?_ ?_ (fun _ _ q=>q.elim)
 .refine yV (.ones [0,1,2,4] (.alt 3 (.alt 5 yd (.alt 6 xw (.alt 7 xv (.alt 8 xu .non)))) (.alt 5 (.alt 3 yd (.alt 6 yc (.alt 7 xy (.alt 8 xx .non)))) (.alt 6 (.alt 3 xw (.alt 5 yc (.alt 7 xt (.alt 8 xr .non)))) (.alt 7 (.alt 3 xv (.alt 5 xy (.alt 6 xt (.alt 8 xq .non)))) (.alt 8 (.alt 3 xu (.alt 5 xx (.alt 6 xr (.alt 7 xq .non)))) .non)))))) BC ?_
  simp only[DN,O6,wR,wL,tj,tk,g72,Ba,tl,xa,xc,xd,tm,xe,wY,wX,wz,wy,wx,yd,wv,yc,xy,xx,xw,xv,xu,xt,xr,xq]
  repeat' first
   | with_reducible exact trivial
   | with_reducible refine And.intro (AX2 ?_ ?_ ?_) ?_
   | exact⟨_,rfl,BA1⟩
   | exact⟨_,rfl,BA0⟩
   | exact⟨_,rfl,BAZ⟩
   | with_reducible refine And.intro ?_ ?_
   | simp only[vQ,List.contains_cons,List.contains_nil,Nat.reduceBEq,Bool.or_false,Bool.or_true,O8,eY,PU,vf,↓reduceIte,jC,jO,Nat.add_zero,b_,Mj,Mi,Mh,Option.getD_none,Qe,Qd,Cw,lp,lm,lv,e0,e1,e2,e3,k1,k2,S A,Q A,sv A,J,K,E,I,L,M,x6,x7]
   | rfl
 rintro F H ⟨⟨pb,mb,vb,T,V,N,Y,X,O,j⟩,f1⟩;have f:=f.trans j;refine AZ T (UW Y) ?_;refine(AZL G c.p hs 6 H).use ?_;rintro r ⟨b,rfl,Z⟩;cases b
 .refine AB ?_
  refine(XI G C H).uu ?_;exact⟨AO,f⟩
 have hb:=(Z rfl).sm U;refine AZ V (dk X) ?_;refine(Zb G c.m P H).use fun b=>?_
 cases b
 .refine AB ?_
  refine(XI G C H).uu ?_;exact⟨AO,f⟩
 have l0:BR jA H 25 (.ptr vb 0 0)=some (.sl c.v.pm 1 (c.v.pts.map LW)):=by rw[BJ XF O (row:=Cov.bt c.v) rfl];rfl
 have l1:BR jA H 25 (.ptr vb 0 1)=some (.sl c.v.cm 1 (c.v.crs.map LW)):=by rw[BJ XF O (row:=Cov.bt c.v) rfl];rfl
 refine DC N l0 l1 ?_;cases h8:decide (((c.v.pts.length:Nat):Int)>8)
 rotate_left
 .refine A7 h8 ?_
  refine(XI G C H).uu ?_;exact⟨AO,f⟩
 refine DC h8 N l1 ?_;cases h9:decide (((c.v.crs.length:Nat):Int)>8)
 rotate_left
 .refine A7 h9 ?_
  refine(XI G C H).uu ?_;exact⟨AO,f⟩
 refine Y9 @Jh h9 f1 T V N (UW Y) (dk X) (Cov.jo O) (ln j) ?_;refine(Dw G C c.p hs hb c.m P c.v hv c.most H).use ?_;unfold mw;refine U3 @Jh f1 T V N (UW Y) (dk X) (Cov.jo O) (ln j) ?_;refine(AWO G c.p hs hb c.m P c.v hv c.most H).use ?_;unfold mw;rw[LI];obtain⟨i,n1,n2⟩:=AX4 (p:=c.p) (m:=c.m) (v:=c.v) (most:=c.most) (s:=c6) (ins:=FT);have d:=y6 (v:=c.v) P
 generalize XN c6 FT c.p c.m c.v c.most=ab at i n1 n2|-
 generalize my c.p c.m c.v c.most=e;refine AB ?_;refine(oX G _ _ ab.1 U (fun g hg=>d g (i g (.inl hg))) H).uu ?_;refine(oX G _ _ ab.2 U (fun g hg=>d g (i g (.inr hg))) H).use ?_;refine A7 (BA:(e==e)=true) ?_;refine(XI G C H).uu ?_;exact⟨AO,f⟩
end
end Bd.Cl
end Go.Proofs.YtiihpnicbekebaaGreatDoor
