/- Part 4 of the proof; no condition. -/
import Derived.Shelf.Spec.SlicesGrow
import Derived.Test.YtiihpnicbekebaaGreatDoorCL3
set_option linter.unusedVariables false
set_option linter.unusedSimpArgs false
set_option maxRecDepth 8000
set_option maxHeartbeats 4000000
open Go.Proofs.YtiihpnicbekebaaGreatDoor.Sm.bO renaming live→qH
open Bool renaming and_eq_true→jY,eq_iff_iff→wJ,false_eq_true→zZ,false_or→wF,not_false→jE,not_true→qL,or_false→zK,or_true→zN,true_and→qX
open Go.Proofs.Tryz renaming prog→jA
open Int renaming eq_ofNat_of_zero_le→wK,le_refl→yC,natCast_mul→wU,reduceBEq→qV,toNat_natCast→qI
open List renaming any_eq_false→qP,any_eq_true→qK,append_assoc→zA,append_nil→jL,cons_append→zG,contains_cons→jZ,contains_nil→jU,drop_eq_getElem_cons→zU,drop_eq_nil_of_le→jS,drop_zero→zI,eq_nil_of_length_eq_zero→qY,getD_eq_getElem?_getD→wQ,getElem?_append_left→qF,getElem?_cons_succ→wR,getElem?_cons_zero→wL,getElem?_eq_getElem→jP,getElem?_eq_none→wC,getElem?_set→zW,getElem_mem→jH,getElem_of_mem→qR,length_append→jX,length_cons→zF,length_map→jI,length_pos_iff→qQ,length_take→jT,length→qJ,map_append→qE,map_cons→jJ,map_nil→jM,mem_append→zQ,mem_cons→zM,mem_map→zO,mem_of_getElem?→qC,mem_singleton→wH,nil_append→zX,range→zL,replicate→zD,take_append_drop→wE,take_of_length_le→jK,take_succ_eq_append_getElem→jW,take_zero→qA
open Nat renaming add_zero→jR,le_of_ble_eq_true→jB,le_refl→jF,le_trans→qW,lt_or_ge→zC,mod_lt→wI,reduceAdd→jO,reduceBEq→jV,reduceEqDiff→jC,zero_add→jG
open Option renaming getD_none→jQ,getD_some→jD,map_none→qB,map_some→zS
namespace Go.Proofs.YtiihpnicbekebaaGreatDoor
namespace Cov
open Sm Bins Go.RowKit
variable {m:Mo} {l:List Is} {a b ba i k t:Nat} {v:eu} {H h:Hp} {P:Program} {R:AV->Hp->Prop} {F:Fr} {x:AV} {row:List AV} (G:Nat->AV )
theorem dI (m:Mo)(i:Nat)(q:i<m.crs.length)(p:dw m m.crs[i])(h:Hp):a_ (En G) 198 [.agg (C9 m),.n (i:Int)] h (.bool true):=by
 refine ACalls.pure0 rfl ?_;have e:=p.four;have d:=A8 h (qH 2 [C9 m]);have A:∃x,h++[qH 2 [C9 m]]=h++x:=⟨_,rfl⟩;refine cn Tryz.func198 4 ?_;have B:decide ((i:Int)<0)=false:=BA;have C:decide ((i:Int)≥(m.crs.length:Int))=false:=by simp;omega
 simp only[vQ,EM,CP,V8,↓reduceIte,jC,b_,UG,sQ,MN,LQ,er,B,ZM d,jI,C,CE q,BK MB q,U1]
 generalize h++[qH 2 [C9 m]]=H at d A|-
 refine BB (fun n F f=>∃k,n+k=m.crs[i].pts.length/\F 2=.ptr h.length 0 0/\F 5=.sl m.crs[i].pm 1 (m.crs[i].pts.map bu)/\F 6=.n (k:Nat)/\f=H) m.crs[i].pts.length ⟨0,BA,AL,AL,AL,rfl⟩ ?_;rintro n F f ⟨k,hk,J,g,j,rfl⟩;refine AZ g j ?_;refine BL ?_ ?_<;>intro K
 .have c:k<m.crs[i].pts.length:=BQ K
  have L:=p.here _ (jH c);have E:decide (m.crs[i].pts[k]<0)=false:=by simp;omega
  have I:decide (m.crs[i].pts[k]≥(m.pts.length:Int))=false:=by simp;omega
  refine AB ?_;refine DI BC ?_;refine U3 J g j c @cy E (VC d) I (CZ k) ?_;exact⟨n-1,U,k+1,U,trivial,trivial,rfl,trivial⟩
 .refine AB ?_
  exact⟨trivial,A⟩
theorem Y5 (m:Mo)(i:Nat)(e:i<m.crs.length)(d:dw m m.crs[i])(k:Nat)(hk:k<m.crs[i].pts.length)(h:Hp):a_ (En G) 199 [.agg (C9 m),.n (i:Int),.n (k:Int)] h (.n ((IV m m.crs[i].pts[k]).length:Int)):=by
 refine ACalls.pure0 rfl ?_;have c:=A8 h (qH 2 [C9 m]);obtain⟨s,f⟩:=d.here.ld hk (h++[qH 2 [C9 m]]);refine cn Tryz.func199 6 ?_;refine A7 @er ?_;refine DI BC ?_;simp only[vQ,JX,↓reduceIte,jC,jO,b_,QJ,UG,J5,MN,J8,aF,JW,LQ,VC c,ZM c,CE e,BK MB e,U1,CE hk,BK ct hk,cy,d.here.ix hk,f,jI];exact⟨trivial,_,rfl⟩
theorem oS (m:Mo)(i:Nat)(j:i<m.crs.length)(g:dw m m.crs[i])(N:Full m)(h:Hp):a_ (En G) 213 [.agg (C9 m),.n (i:Int)] h (.n (GN (szs m m.crs[i].pts))):=by
 refine ACalls.pure0 rfl ?_;have C:=g.four;have K:=N.szs g.here;have I:=KT m m.crs[i].pts;have c:=YI m m.crs[i].pts;have f:=A8 h (qH 2 [C9 m]);have L:∃x,h++[qH 2 [C9 m]]=h++x:=⟨_,rfl⟩;refine cn Tryz.func213 4 ?_;refine AZ @er (dk f) ?_;refine(dI G m i j g _).uu ?_
 generalize h++[qH 2 [C9 m]]=H at f L|-
 generalize szs m m.crs[i].pts=l at K I c|-
 have Q:∀k,GN (l.take k)<=16777216:=fun k=>by
  have:=pM (l.take k) 4 (fun n O=>(K n (List.mem_of_mem_take O)).2) (by rw[List.length_take];omega);simpa using this
 refine BB (fun n F J=>∃k,n+k=l.length/\F 1=.n (i:Nat)/\F 2=.ptr h.length 0 0/\F 5=.n (GN (l.take k))/\F 6=.n (k:Nat)/\J=H) l.length ⟨0,BA,AL,AL,AL,AL,rfl⟩ ?_;rintro n F J ⟨k,hk,p,q,A,B,rfl⟩;simp only[vQ,CP,↓reduceIte,jC,b_,UG,MN,UF,LQ,p,q,B,ZM f,CE j,BK MB j,U1,jI];refine DV (fun e=>?_) (fun d=>?_)
 .have d:k<l.length:=U
  have M:=Q (k+1);rw[QT l k d] at M;have E:l[k]=(IV m m.crs[i].pts[k]).length:=GK (c k e)
  have S:IntKind.i64.wrap ((GN (l.take k):Int)*((IV m m.crs[i].pts[k]).length:Int))=((GN (l.take (k+1)):Nat):Int):=by
   rw[<-E,QT l k d,<-Int.natCast_mul,ND U]
  refine G7 p q A B (dk f) ?_;refine(Y5 G m i j g k e _).use ?_;refine DC B S (CZ k) ?_;exact⟨n-1,U,k+1,U,p,q,rfl,rfl,trivial⟩
 .rw[jK U] at A
  refine A7 A ?_;exact⟨trivial,L⟩
theorem SR (m:Mo)(i:Nat)(O:i<m.crs.length)(C:dw m m.crs[i])(hf:Full m)(K:Nat)(hK:K<GN (szs m m.crs[i].pts))(h:Hp):a_ (En G) 214 [.agg (C9 m),.n (i:Int),.n (K:Int)] h (.tup [.sl .any 1 ((TA (szs m m.crs[i].pts) K).map bu),.bool true]):=by
 have g:=C.prod;have hs:=hf.szs C.here;have L:=KT m m.crs[i].pts;have e:=YI m m.crs[i].pts;have S:=C.four;show a_ (En G) 214 _ h (.tup [.sl .any 1 (((dp (szs m m.crs[i].pts) K).1.map fun n:Nat=>(n:Int)).map bu),.bool true]);rw[<-zf];refine xA ?_;rw[QG];have N:=A8 h (qH 2 [C9 m]);refine e7 Tryz.func214 [.tmp 6,.tmp 7] ?_;have d0:decide ((K:Int)<0)=false:=BA;refine DC @er d0 (dk N) ?_;refine(oS G m i O C hf _).use ?_;have V:decide ((K:Int)≥((GN (szs m m.crs[i].pts):Nat):Int))=false:=by simp;omega
 simp only[vQ,EM,CP,V7,↓reduceIte,jC,b_,UG,MN,UF,LQ,V,ZM N,CE O,BK MB O,U1,jI];clear V;rw[<-L]
 generalize szs m m.crs[i].pts=ns at hs L hK g e|-
 have d:h.length<(h++[qH 2 [C9 m]]).length:=BA;have B:=Sm.ext.r1 h (qH 2 [C9 m])
 generalize h++[qH 2 [C9 m]]=H at d B N|-
 refine A7 (x5 H ns.length U) ?_;rw[wrap_i64 (n:=(ns.length:Int)-1) U U];refine BB (fun n F M=>∃j,n=j/\j<=ns.length/\F 1=.n (i:Nat)/\F 3=.ptr h.length 0 0/\F 8=.own H.length 0 ns.length/\F 9=.n ((j:Int)-1)/\F 2=.n ((dp (ns.drop j) K).2:Nat)/\M[h.length]?=some (qH 2 [C9 m])/\ext h M/\M[H.length]?=some (qH 1 (((zD ns.length 0).take j++(dp (ns.drop j) K).1).map KD))) ns.length ⟨ns.length,rfl,jF _,FB,FB,FB,FB,by simp only[vQ,↓reduceIte,jC];rw[jS (jF _)];rfl,AU N,B.app _,?_⟩ ?_
 .rw[jS (jF _),jK BA]
  simp only[dp,jL];exact A8 _ _
 rintro n F M ⟨j,rfl,hj,Y,f3,f8,Q,Z,A,he,q⟩;refine A7 Q ?_
 cases n with
 | zero =>
   have:decide ((((0:Nat):Int)-1)≥0)=false:=by decide
   refine AZ @this f8 ?_;rw[qA,List.nil_append,zI] at q;exact⟨he,H.length,Nat.le_of_lt d,rfl,q⟩
 | succ j =>
   have hd:decide ((((j+1:Nat):Int)-1)≥0)=true:=BA;have c:j<ns.length:=U;have E:j<m.crs[i].pts.length:=U;have T:ns[j]=(IV m m.crs[i].pts[j]).length:=GK (e j E);have h1:=(hs _ (jH c)).1;have X:(((j+1:Nat):Int)-1)=(j:Int):=U;have p:=iw (K:=K) c;have hle:=nG (ns.drop (j+1)) K;generalize hr:(dp (ns.drop (j+1)) K)=r at q Z p hle
   have I:∃v,(((zD ns.length 0).take (j+1)++r.1).map KD)[j]?=some [v]:=by
    refine⟨.n 0,?_⟩;rw[List.getElem?_map,List.getElem?_append_left NI,List.getElem?_take_of_lt U,List.getElem?_replicate_of_lt c];rfl
   have J:=oU (f:=KD) (pre:=zD ns.length 0) (out:=r.1) (j:=j) (x:=r.2%ns[j]) (by simpa using c);refine G7 hd Y f3 Q (dk A) ?_;rw[X];refine(Y5 G m i O C j E _).use ?_;rw[<-T];simp only[vQ,CP,L9,↓reduceIte,jC,b_,J8,jQ,Z,f8,Q,X,GR q c,nJ _ _ h1,nK _ _ h1 (U:r.2<=9223372036854775807),zq q I,J];refine⟨j,U,j,rfl,U,Y,f3,trivial,?_,?_,DU A (Nat.ne_of_lt d),he.set (Nat.le_of_lt d) _,?_⟩
   .rw[wrap_i64 U U]
   .rw[p]
   .rw[p];exact CO q
theorem Tv (m:Mo)(i:Nat)(B:i<m.crs.length)(J:dw m m.crs[i])(l:List Int)(s:SM)(g:JZ (szs m m.crs[i].pts) l=true)(h:Hp):a_ (En G) 110 [.agg (C9 m),.n (i:Int),.sl s 1 (l.map bu)] h (.tup [.n (eB (szs m m.crs[i].pts) l 0),.bool true]):=by
 have I:=J.four;have q:=KT m m.crs[i].pts;have d:=YI m m.crs[i].pts;have f:=QL g;refine ACalls.pure 2 (R:=fun v H=>v=.tup [.n (eB (szs m m.crs[i].pts) l 0),.bool true]/\∃x,H=h++x) ?_ (fun v Y ⟨e,x⟩=>⟨x,by subst e;rfl⟩);have A:=A8 h (qH 2 [C9 m]);have T:∃x,h++[qH 2 [C9 m]]=h++x:=⟨_,rfl⟩;refine e7 Tryz.func110 [.tmp 6,.tmp 7] ?_;refine AZ @er (dk A) ?_;refine(dI G m i B J _).use ?_;have L:((l.length:Int) != (m.crs[i].pts.length:Int))=false:=by rw[<-q,f];simp
 simp only[vQ,EM,CP,iF,WX,↓reduceIte,jC,qL,b_,UG,MN,UF,LQ,ZM A,CE B,BK MB B,U1,jI,L]
 generalize h++[qH 2 [C9 m]]=H at A T|-
 generalize szs m m.crs[i].pts=ns at g q f d|-
 refine BB (fun n F M=>∃k,n+k=l.length/\F 1=.n (i:Nat)/\F 2=.sl s 1 (l.map bu)/\F 3=.ptr h.length 0 0/\(∃z,F 8=.n z/\eB ns l 0=eB (ns.drop k) (l.drop k) z)/\F 9=.n (k:Nat)/\M=H) l.length ⟨0,BA,by simp only[vQ,↓reduceIte,jC],by simp only[vQ,↓reduceIte,jC],by simp only[AX,↓reduceIte,jC],⟨0,rfl,rfl⟩,by simp only[AX,↓reduceIte];rfl,rfl⟩ ?_;rintro n F M ⟨k,hk,N,O,Q,⟨z,S,C⟩,E,rfl⟩;refine AZ O E ?_;refine DV ?_ ?_<;>intro c
 .have p:k<ns.length:=U
  have j:k<m.crs[i].pts.length:=U;have K:ns[k]=(IV m m.crs[i].pts[k]).length:=GK (d k j);obtain⟨Z,h1⟩:=rD g k c p;have V:decide (l[k]<0)=false:=by simp;omega
  have X:decide (l[k]≥(ns[k]:Int))=false:=by simp;omega
  rw[zU c,zU p] at C;refine EH N Q E (dk A) ?_;refine(Y5 G m i B J k j _).use ?_;rw[<-K];simp only[vQ,EM,CP,Y6,↓reduceIte,jC,b_,J8,O,S,E,CE c,BK ct c,cy,V,X,CZ k];exact⟨n-1,U,k+1,U,N,trivial,Q,⟨_,rfl,C⟩,rfl,trivial⟩
 .rw[jS (U:l.length<=k),fX] at C
  refine AZ S C ?_;exact⟨trivial,T⟩
theorem gL (m:Mo)(i:Nat)(J:i<m.crs.length)(C:dw m m.crs[i])(l:List Int)(s:SM)(A:JZ (szs m m.crs[i].pts) l=true)(h:Hp):a_ (En G) 111 [.agg (C9 m),.n (i:Int),.sl s 1 (l.map bu)] h (.bool (!RS m m.crs[i] l)):=by
 refine ACalls.pure0 rfl ?_;have Q:=C.here;have E:=C.four;have T:=C.num;have S:l.length=m.crs[i].pts.length:=by have:=QL A;rw[KT] at this;omega
 refine cn Tryz.func111 6 ?_;have t:=Two.mk' h m m.crs[i];refine AZ @er (dk (A8 h (qH 2 [C9 m]))) ?_;refine(Tv G m i J C l s A _).use ?_;simp only[vQ,List.getElem?_cons_zero,List.getElem?_cons_succ,CP,iF,OV,VD,WX,↓reduceIte,jC,qL,b_,UG,MN,jQ,ZM (A8 h (qH 2 [C9 m])),CE J,DL vF mN NF J,ua,v_ _ _ [.str ⟨#[]⟩,.sl .nil 0 [],.sl .nil 0 []] rfl]
 generalize h++[qH 2 [C9 m]]++[qH 3 [IM m.crs[i]]]=H at t|-
 generalize (h++[qH 2 [C9 m]]).length=cb at t|-
 have K:=WH m m.crs[i].pts l;refine EG 0 (fun F e=>F 2=.sl s 1 (l.map bu)/\F 3=.ptr h.length 0 0/\F 9=.ptr cb 0 0/\e=H/\(m.crs[i].excl.any fun x=>gr x.l l)=false) (fun F e=>F 6=.bool true/\e=H/\(m.crs[i].excl.any fun x=>gr x.l l)=true) ?_ ?_ ?_
 .refine BB (fun n F e=>∃k,n+k=m.crs[i].excl.length/\F 2=.sl s 1 (l.map bu)/\F 3=.ptr h.length 0 0/\F 9=.ptr cb 0 0/\F 10=.n (k:Nat)/\e=H/\(m.crs[i].excl.any fun x=>gr x.l l)=((m.crs[i].excl.drop k).any fun x=>gr x.l l)) m.crs[i].excl.length ⟨0,BA,FB,FB,FB,FB,rfl,rfl⟩ ?_
  rintro n F e ⟨k,hk,f,p,g,f10,rfl,q⟩;refine DC g f10 @t.l2 ?_;refine DV ?_ ?_<;>intro c
  .have V:=NH (fun x:Is=>gr x.l l) m.crs[i].excl k c
   simp only[vQ,CP,↓reduceIte,jC,b_,V6,eF,f,g,f10,t.l2,CE c,BK MB c,SQ];refine(Va G m.crs[i].excl[k].l l _ s _ U).uu ?_;cases O:gr m.crs[i].excl[k].l l
   .refine AZ f10 (CZ k) ?_
    exact⟨n-1,U,k+1,U,f,p,g,rfl,trivial,by rw[q,V,O];rfl⟩
   .refine AB ?_
    exact⟨trivial,trivial,by rw[q,V,O];rfl⟩
  .refine AB ?_
   exact⟨f,p,g,trivial,by rw[q,jS U];rfl⟩
 .rintro F e ⟨f,p,g,rfl,q⟩
  have I:RS m m.crs[i] l=OE m m.crs[i].pts l:=by unfold RS;rw[q];simp
  rw[I];refine AB ?_;refine BB (fun n F H=>∃k,n+k=l.length/\F 2=.sl s 1 (l.map bu)/\F 3=.ptr h.length 0 0/\F 9=.ptr cb 0 0/\F 11=.n (k:Nat)/\H=e/\OE m m.crs[i].pts l=OE m (m.crs[i].pts.drop k) (l.drop k)) l.length ⟨0,BA,UT f,UT p,UT g,FB,rfl,rfl⟩ ?_;clear f p g;rintro n F e ⟨k,hk,f,p,g,f11,rfl,j⟩;refine AZ f f11 ?_;refine DV ?_ ?_<;>intro c
  .have d:k<m.crs[i].pts.length:=U
   rw[K k d c] at j;obtain⟨M,N⟩:=YT A k c d;obtain⟨Z,Y⟩:=Q.ld d e;have L:l[k].toNat<(IV m m.crs[i].pts[k]).length:=U;refine AB ?_;refine DI BC ?_;simp only[vQ,↓reduceIte,jC,jO,b_,QJ,J5,J8,XB,JW,UX,LQ,bne,f,p,g,f11,t.lm,t.l1,CE d,BK ct d,CE c,BK ct c,cy,Q.ix d,Y,u3 M N,BK ct L,SV,gZ M N];cases B:(aH m m.crs[i].pts[k] l[k]==0)
   .refine AB ?_
    exact⟨by rw[j,B];rfl,t.hx⟩
   .refine AZ f11 (CZ k) ?_
    exact⟨n-1,U,k+1,U,f,p,g,rfl,trivial,by rw[j,B];rfl⟩
  .refine AB ?_
   exact⟨by rw[j,jS (U:l.length<=k),YS];rfl,t.hx⟩
 .rintro F e ⟨X,rfl,q⟩
  refine A7 X ?_;exact⟨by unfold RS;rw[q];simp,t.hx⟩
structure Gl where
 cross:Bool
 idx:Nat
 bm:SM
 bins:List Int
 at_:Nat
def JB (g:Gl):List AV:=[.bool g.cross,.n (g.idx:Int),.sl g.bm 1 (g.bins.map bu),.n (g.at_:Int)]
def dr (g:Gl):List AV:=[.bool g.cross,.n (g.idx:Int),.sl g.bm 1 (g.bins.map bu)]
theorem UN (g:Gl):(JB g).length=4:=rfl
theorem C0:jd JB:=fun _ _ _ _=>⟨rfl,rfl⟩
theorem k7:jd dr:=fun _ _ _ _=>⟨rfl,rfl⟩
def nq (i k:Nat):Gl:=⟨false,i,.full,[(k:Int)],k⟩
def nn (m:Mo)(i k:Nat)(c:Cr):Gl:=⟨true,i,.any,TA (szs m c.pts) k,k⟩
def ja (i:Nat)(p:Pt):Nat->List Gl
 | 0=>[]
 | k+1=>ja i p k++(if(kindOf p k==0)=true then [nq i k] else [])
def gP (m:Mo):Nat->List Gl
 | 0=>[]
 | i+1=>gP m i++(match m.pts[i]? with|some p=>ja i p p.bins.length|none=>[])
def i_ (m:Mo)(i:Nat)(c:Cr):Nat->List Gl
 | 0=>[]
 | k+1=>i_ m i c k++(if RS m c (TA (szs m c.pts) k)=true then [nn m i k c] else [])
def gC (m:Mo):Nat->List Gl
 | 0=>gP m m.pts.length
 | i+1=>gC m i++(match m.crs[i]? with|some c=>i_ m i c (GN (szs m c.pts))|none=>[])
def goals (m:Mo):List Gl:=gC m m.crs.length
theorem nO (i:Nat)(p:Pt):∀k,(ja i p k).length<=k
 | 0=>jF _
 | k+1=>by
   have:=nO i p k;simp only[ja,jX];split<;>simp<;>omega
theorem uq {m:Mo}(c:Full m):∀i,(gP m i).length<=64*i
 | 0=>jF _
 | i+1=>by
   have e:=uq c i;simp only[gP,jX];split
   .rename_i p d
    have f:=nO i p p.bins.length;have g:=(c p (qC d)).2;omega
   .simp;omega
theorem nP (m:Mo)(i:Nat)(c:Cr):∀k,(i_ m i c k).length<=k
 | 0=>jF _
 | k+1=>by
   have:=nP m i c k;simp only[i_,jX];split<;>simp<;>omega
theorem ug {m:Mo}(d:Good m):∀i,(gC m i).length<=64*m.pts.length+256*i
 | 0=>uq d.full _
 | i+1=>by
   have f:=ug d i;simp only[gC,jX];split
   .rename_i c e
    have g:=nP m i c (GN (szs m c.pts));have j:=(d.crs c (qC e)).prod;omega
   .simp;omega
theorem kC (c:Good m):(goals m).length<=8192:=by
 have d:=ug c m.crs.length;have e:=c.num;unfold goals;omega
theorem Cs (i:Int)(xs:List (List AV)):IY jA 34 [(1,.n i),(2,.sl .full 1 xs)]=some (.agg [.bool false,.n i,.sl .full 1 xs]):=BC
theorem Ct (i:Int)(xs:List (List AV)):IY jA 34 [(0,.bool true),(1,.n i),(2,.sl .any 1 xs)]=some (.agg [.bool true,.n i,.sl .any 1 xs]):=BC
theorem ON (i k:Int)(xs:List (List AV)):IY jA 118 [(0,.agg [.bool false,.n i,.sl .full 1 xs]),(1,.n k)]=some (.agg [.bool false,.n i,.sl .full 1 xs,.n k]):=BC
theorem OP (i k:Int)(xs:List (List AV)):IY jA 118 [(0,.agg [.bool true,.n i,.sl .any 1 xs]),(1,.n k)]=some (.agg [.bool true,.n i,.sl .any 1 xs,.n k]):=BC
theorem Di (h:Hp)(g:Gl)(e:(JB g).all AV.frozen=true):DR jA false h 115 1 [(0,.agg (JB g))]=some (.sl .full 4 [JB g],h):=by
 have c:Tryz.prog.underlying 115=some (.slice 118):=Am;unfold DR;simp only[c,oP,Ap];have d:cW 4 0 [(0,AV.agg (JB g))]=some [JB g]:=rfl;simp [d,e]
theorem V_ (m:Mo)(hm:dt m)(Q:Good m)(h:Hp):a_ (En G) 61 [.agg (C9 m)] h (.sl (nm (goals m)) 4 ((goals m).map JB)):=by
 refine JL C0 ?_;have af:=hm.np;have ag:=hm.nc;have ac:=Q.num;refine cn Tryz.func61 2 ?_;refine AZ @er (VC (A8 h (qH 2 [C9 m]))) ?_;refine EG 0 (fun F H=>F 1=.ptr h.length 0 0/\H[h.length]?=some (qH 2 [C9 m])/\ext h H/\(∀b,db (F 3) b->h.length<b)/\bw 4 JB h (gC m 0) (F 3) H) (fun _ _=>False) ?_ ?_ (fun _ _ hh=>hh.elim)
 .refine BB (fun n F H=>∃i,n+i=m.pts.length/\F 1=.ptr h.length 0 0/\F 13=.sl m.pm 6 (m.pts.map GL)/\F 14=.n m.pts.length/\F 15=.n (i:Nat)/\H[h.length]?=some (qH 2 [C9 m])/\ext h H/\(∀b,db (F 3) b->h.length<b)/\bw 4 JB h (gP m i) (F 3) H) m.pts.length ⟨0,BA,AL,AL,AL,AL,A8 _ _,(ext.rfl' h).app _,fun b hb=>hb.elim,bw.nil _ _ _ _⟩ ?_
  rintro n F H ⟨i,hi,j,f13,f14,f15,f,A,c,B⟩;refine AZ f14 f15 ?_;refine DV ?_ ?_<;>intro p
  .have aa:gP m (i+1)=gP m i++ja i m.pts[i] m.pts[i].bins.length:=by
    simp only[gP];rw[jP p]
   have ad:=(Q.full _ (jH p)).2;have ah:=uq Q.full i;simp only[vQ,CP,↓reduceIte,jC,b_,QJ,aF,JW,jQ,f13,f15,CE p,DL lD cK JH p,tu,wa _ _ [.str ⟨#[]⟩,.n 0,.n 0,.str ⟨#[]⟩,.sl .nil 0 [],.sl .nil 0 []] rfl,EN PS,OQ,jI];refine EG 2 (fun d g=>d 1=.ptr h.length 0 0/\d 13=.sl m.pm 6 (m.pts.map GL)/\d 14=.n m.pts.length/\d 15=.n (i:Nat)/\g[h.length]?=some (qH 2 [C9 m])/\ext h g/\(∀b,db (d 3) b->h.length<b)/\bw 4 JB h (gP m (i+1)) (d 3) g) (fun _ _=>False) ?_ ?_ (fun _ _ hh=>hh.elim)
   .refine BB (fun n d g=>∃k,n+k=m.pts[i].bins.length/\d 1=.ptr h.length 0 0/\d 13=.sl m.pm 6 (m.pts.map GL)/\d 14=.n m.pts.length/\d 15=.n (i:Nat)/\d 4=.n (i:Nat)/\d 21=.sl m.pts[i].bm 4 (m.pts[i].bins.map JD)/\d 22=.n m.pts[i].bins.length/\d 23=.n (k:Nat)/\g[h.length]?=some (qH 2 [C9 m])/\ext h g/\(∀b,db (d 3) b->h.length<b)/\bw 4 JB h (gP m i++ja i m.pts[i] k) (d 3) g) m.pts[i].bins.length ⟨0,BA,DY j,DY f13,DY f14,DY f15,AL,AL,AL,AL,AU f,A.app _,c,by rw[show ja i m.pts[i] 0=[] from rfl,jL];exact B.app _⟩ ?_
    clear j f13 f14 f15 f A c B;rintro n' F H ⟨k,hk,j,f13,f14,f15,f4,f21,f22,f23,f,A,c,B⟩;refine AZ f22 f23 ?_;refine DV ?_ ?_<;>intro M
    .have a1:kindOf m.pts[i] k=(m.pts[i].bins[k]).kind:=by unfold kindOf;rw[jP M]
     have ab:=nO i m.pts[i] k;have a2:=B.app [qH 4 [JD m.pts[i].bins[k]]];have a0:ext h (H++[qH 4 [JD m.pts[i].bins[k]]]):=A.app _;simp only[vQ,CP,↓reduceIte,jC,b_,XB,UX,jQ,f21,f23,CE M,DL nD dK MP M,e9,gg _ _ [.str ⟨#[]⟩,.n 0,.sl .nil 0 [],.sl .nil 0 []] rfl,EN ct,SV];cases hz:(m.pts[i].bins[k].kind==0)
     .have I:ja i m.pts[i] (k+1)=ja i m.pts[i] k:=by
       simp only[ja];rw[a1,hz];simp
      refine AZ f23 (CZ k) ?_;refine⟨n'-1,U,k+1,U,j,f13,f14,f15,f4,f21,f22,rfl,AU f,a0,c,?_⟩;rw[I];exact a2
     .have I:gP m i++ja i m.pts[i] (k+1)=(gP m i++ja i m.pts[i] k)++[nq i k]:=by
       simp only[ja];rw[a1,hz,if_pos rfl,zA]
      obtain⟨v',g,ha,K,J,E,hle,V⟩:=a2.append Am oP Ap Cm U (by rw[jX];omega) a0 (nq i k);refine EH f4 od @Cs @ON ?_;rw[show [AV.bool false,AV.int .i64 ((i:Nat):Int),AV.sl .full 1 [[.n ((k:Nat):Int)]],AV.int .i64 ((k:Nat):Int)]=JB (nq i k) from rfl];simp only[vQ,CP,↓reduceIte,jC,b_,Di _ _ (show(JB (nq i k)).all AV.frozen=true from rfl)];refine KG (v:=v') (h:=g) ha ?_;refine AZ f23 (CZ k) ?_;refine⟨n'-1,U,k+1,U,j,f13,f14,f15,f4,f21,f22,rfl,J _ _ (AU f) (fun e=>by have:=c _ e;omega),E,fun b X=>?_,?_⟩
      .have h1:=V b X;have h2:=AY f;rw[h1];simp;omega
      .rw[I];exact K
    .have Z:k=m.pts[i].bins.length:=U
     refine AB ?_;refine⟨j,f13,f14,f15,f,A,c,?_⟩;rw[aa,<-Z];exact B
   .rintro d g ⟨g1,a3,a4,a5,T,E,N,K⟩
    refine AZ a5 (CZ i) ?_;exact⟨n-1,U,i+1,U,g1,a3,a4,rfl,T,E,N,K⟩
  .have Y:i=m.pts.length:=U
   subst Y;refine AB ?_;exact⟨j,f,A,c,B⟩
 .rintro F H ⟨j,f,A,c,B⟩
  refine AZ j (ZM f) ?_;refine BB (fun n F H=>∃i,n+i=m.crs.length/\F 1=.ptr h.length 0 0/\F 44=.n m.crs.length/\F 45=.n (i:Nat)/\H[h.length]?=some (qH 2 [C9 m])/\ext h H/\(∀b,db (F 3) b->h.length<b)/\bw 4 JB h (gC m i) (F 3) H) m.crs.length ⟨0,BA,DY j,AL,AL,f,A,c,B⟩ ?_;clear j f A c B;rintro n F H ⟨i,hi,j,C,q,f,A,c,B⟩;refine AZ C q ?_;refine DV ?_ ?_<;>intro p
  .have L:=Q.crs _ (jH p)
   have a8:=Q.full.szs L.here
   have a9:gC m (i+1)=gC m i++i_ m i m.crs[i] (GN (szs m m.crs[i].pts)):=by
    simp only[gC];rw[jP p]
   have ai:=L.prod;have ae:=ug Q i;refine DC j q (dk f) ?_;refine(lN G m i p L Q.full _).uu ?_;refine EG 6 (fun d g=>d 1=.ptr h.length 0 0/\d 44=.n m.crs.length/\d 45=.n (i:Nat)/\g[h.length]?=some (qH 2 [C9 m])/\ext h g/\(∀b,db (d 3) b->h.length<b)/\bw 4 JB h (gC m (i+1)) (d 3) g) (fun _ _=>False) ?_ ?_ (fun _ _ hh=>hh.elim)
   .refine BB (fun n d g=>∃k,n+k=GN (szs m m.crs[i].pts)/\d 1=.ptr h.length 0 0/\d 44=.n m.crs.length/\d 45=.n (i:Nat)/\d 8=.n (i:Nat)/\d 50=.n (GN (szs m m.crs[i].pts):Nat)/\d 51=.n (k:Nat)/\g[h.length]?=some (qH 2 [C9 m])/\ext h g/\(∀b,db (d 3) b->h.length<b)/\bw 4 JB h (gC m i++i_ m i m.crs[i] k) (d 3) g) (GN (szs m m.crs[i].pts)) ⟨0,BA,DY j,DY C,DY q,AL,AL,AL,f,A,c,by rw[show i_ m i m.crs[i] 0=[] from rfl,jL];exact B⟩ ?_
    clear j C q f A c B;rintro n' F H ⟨k,hk,j,C,q,f8,S,O,f,A,c,B⟩;refine AZ S O ?_;refine DV ?_ ?_<;>intro M
    .have ab:=nP m i m.crs[i] k
     refine EH j f8 O (dk f) ?_;refine(RL G m i p L Q.full k M _).use ?_;refine DC j f8 (dk f) ?_;refine(dD G m i p L _ _ (ZT _ _ fun n hn=>(a8 n hn).1) _).uu ?_;cases hz:RS m m.crs[i] (TA (szs m m.crs[i].pts) k)
     .have I:i_ m i m.crs[i] (k+1)=i_ m i m.crs[i] k:=by
       simp only[i_];rw[hz];simp
      refine AZ O (CZ k) ?_;refine⟨n'-1,U,k+1,U,j,C,q,f8,S,rfl,f,A,c,?_⟩;rw[I];exact B
     .have I:gC m i++i_ m i m.crs[i] (k+1)=(gC m i++i_ m i m.crs[i] k)++[nn m i k m.crs[i]]:=by
       simp only[i_];rw[hz,if_pos rfl,zA]
      obtain⟨v',g,ha,K,J,E,hle,V⟩:=B.append Am oP Ap Cm U (by rw[jX];omega) A (nn m i k m.crs[i]);refine DC f8 @Ct @OP ?_;rw[show [AV.bool true,AV.int .i64 ((i:Nat):Int),AV.sl .any 1 ((TA (szs m m.crs[i].pts) k).map bu),AV.int .i64 ((k:Nat):Int)]=JB (nn m i k m.crs[i]) from rfl];simp only[vQ,CP,↓reduceIte,jC,b_,Di _ _ (show(JB (nn m i k m.crs[i])).all AV.frozen=true from rfl)];refine KG (v:=v') (h:=g) ha ?_;refine AZ O (CZ k) ?_;refine⟨n'-1,U,k+1,U,j,C,q,f8,S,rfl,J _ _ f (fun e=>by have:=c _ e;omega),E,fun b X=>?_,?_⟩
      .have h1:=V b X;have h2:=AY f;omega
      .rw[I];exact K
    .have Z:k=GN (szs m m.crs[i].pts):=U
     refine AB ?_;refine⟨j,C,q,f,A,c,?_⟩;rw[a9,<-Z];exact B
   .rintro d g ⟨g1,a6,a7,T,E,N,K⟩
    refine AZ a7 (CZ i) ?_;exact⟨n-1,U,i+1,U,g1,a6,rfl,T,E,N,K⟩
  .have Y:i=m.crs.length:=U
   subst Y;refine AB ?_;exact⟨A,B⟩
theorem OF (i k:Int)(xs:List (List AV)):IY jA 185 [(0,.agg [.bool false,.n i,.sl .full 1 xs]),(1,.n k)]=some (.agg [.bool false,.n i,.sl .full 1 xs,.n k]):=BC
theorem OK (i k:Int)(xs:List (List AV)):IY jA 185 [(0,.agg [.bool true,.n i,.sl .any 1 xs]),(1,.n k)]=some (.agg [.bool true,.n i,.sl .any 1 xs,.n k]):=BC
theorem nh (h:Hp)(g:Gl)(e:(JB g).all AV.frozen=true):DR jA false h 181 1 [(0,.agg (JB g))]=some (.sl .full 4 [JB g],h):=by
 have c:Tryz.prog.underlying 181=some (.slice 185):=Ak;unfold DR;simp only[c,rp,An];have d:cW 4 0 [(0,AV.agg (JB g))]=some [JB g]:=rfl;simp [d,e]
theorem Zl (m:Mo)(hm:dt m)(O:Good m)(h:Hp):a_ (En G) 122 [.agg (C9 m)] h (.sl (nm (goals m)) 4 ((goals m).map JB)):=by
 refine JL C0 ?_;have a8:=hm.np;have a9:=hm.nc;have a5:=O.num;refine cn Tryz.func122 2 ?_;refine A7 @er ?_;refine EG 0 (fun F H=>F 1=.ptr h.length 0 0/\H[h.length]?=some (qH 2 [C9 m])/\ext h H/\(∀b,db (F 3) b->h.length<b)/\bw 4 JB h (gC m 0) (F 3) H) (fun _ _=>False) ?_ ?_ (fun _ _ hh=>hh.elim)
 .refine BB (fun n F H=>∃i,n+i=m.pts.length/\F 1=.ptr h.length 0 0/\F 4=.n (i:Nat)/\H[h.length]?=some (qH 2 [C9 m])/\ext h H/\(∀b,db (F 3) b->h.length<b)/\bw 4 JB h (gP m i) (F 3) H) m.pts.length ⟨0,BA,AL,AL,A8 _ _,(ext.rfl' h).app _,fun b hb=>hb.elim,bw.nil _ _ _ _⟩ ?_
  rintro n F H ⟨i,hi,g,N,d,q,c,A⟩;refine DC g N (VC d) ?_;refine DV ?_ ?_<;>intro f
  .have a3:gP m (i+1)=gP m i++ja i m.pts[i] m.pts[i].bins.length:=by
    simp only[gP];rw[jP f]
   have a6:=(O.full _ (jH f)).2;have aa:=uq O.full i;refine AB ?_;refine EG 2 (fun j p=>j 1=.ptr h.length 0 0/\j 4=.n (i:Nat)/\p[h.length]?=some (qH 2 [C9 m])/\ext h p/\(∀b,db (j 3) b->h.length<b)/\bw 4 JB h (gP m (i+1)) (j 3) p) (fun _ _=>False) ?_ ?_ (fun _ _ hh=>hh.elim)
   .refine BB (fun n j p=>∃k,n+k=m.pts[i].bins.length/\j 1=.ptr h.length 0 0/\j 4=.n (i:Nat)/\j 5=.n (k:Nat)/\p[h.length]?=some (qH 2 [C9 m])/\ext h p/\(∀b,db (j 3) b->h.length<b)/\bw 4 JB h (gP m i++ja i m.pts[i] k) (j 3) p) m.pts[i].bins.length ⟨0,BA,DY g,DY N,AL,d,q,c,by rw[show ja i m.pts[i] 0=[] from rfl,jL];exact A⟩ ?_
    clear g N d q c A;rintro n' F H ⟨k,hk,g,N,Y,d,q,c,A⟩;simp only[vQ,CP,↓reduceIte,jC,b_,QJ,J5,aF,JW,g,N,Y,VC d,CE f,BK PS f,OQ,jI];refine DV ?_ ?_<;>intro L
    .have a0:kindOf m.pts[i] k=(m.pts[i].bins[k]).kind:=by unfold kindOf;rw[jP L]
     have a4:=nO i m.pts[i] k;simp only[vQ,CP,↓reduceIte,jC,b_,QJ,J5,XB,JW,UX,g,N,Y,VC d,CE f,BK PS f,OQ,CE L,BK ct L,SV];cases hz:(m.pts[i].bins[k].kind==0)
     .have C:ja i m.pts[i] (k+1)=ja i m.pts[i] k:=by
       simp only[ja];rw[a0,hz];simp
      refine AZ Y (CZ k) ?_;refine⟨n'-1,U,k+1,U,g,N,rfl,d,q,c,?_⟩;rw[C];exact A
     .have C:gP m i++ja i m.pts[i] (k+1)=(gP m i++ja i m.pts[i] k)++[nq i k]:=by
       simp only[ja];rw[a0,hz,if_pos rfl,zA]
      obtain⟨v',p,ha,I,E,B,hle,S⟩:=A.append Ak rp An Ci U (by rw[jX];omega) q (nq i k);refine G7 N Y od @Cs @OF ?_;rw[show [AV.bool false,AV.int .i64 ((i:Nat):Int),AV.sl .full 1 [[.n ((k:Nat):Int)]],AV.int .i64 ((k:Nat):Int)]=JB (nq i k) from rfl];simp only[vQ,CP,↓reduceIte,jC,b_,nh _ _ (show(JB (nq i k)).all AV.frozen=true from rfl)];refine KG (v:=v') (h:=p) ha ?_;refine AZ Y (CZ k) ?_;refine⟨n'-1,U,k+1,U,g,N,rfl,E _ _ d (fun e=>by have:=c _ e;omega),B,fun b T=>?_,?_⟩
      .have h1:=S b T;have h2:=AY d;omega
      .rw[C];exact I
    .have X:k=m.pts[i].bins.length:=U
     refine AB ?_;refine⟨g,N,d,q,c,?_⟩;rw[a3,<-X];exact A
   .rintro j p ⟨g1,g4,Q,B,M,I⟩
    refine AZ g4 (CZ i) ?_;exact⟨n-1,U,i+1,U,g1,rfl,Q,B,M,I⟩
  .have V:i=m.pts.length:=U
   subst V;refine AB ?_;exact⟨g,d,q,c,A⟩
 .rintro F H ⟨g,d,q,c,A⟩
  refine AB ?_;refine BB (fun n F H=>∃i,n+i=m.crs.length/\F 1=.ptr h.length 0 0/\F 6=.n (i:Nat)/\H[h.length]?=some (qH 2 [C9 m])/\ext h H/\(∀b,db (F 3) b->h.length<b)/\bw 4 JB h (gC m i) (F 3) H) m.crs.length ⟨0,BA,DY g,AL,d,q,c,A⟩ ?_;clear g d q c A;rintro n F H ⟨i,hi,g,J,d,q,c,A⟩;refine DC g J (ZM d) ?_;refine DV ?_ ?_<;>intro f
  .have K:=O.crs _ (jH f)
   have a1:=O.full.szs K.here
   have a2:gC m (i+1)=gC m i++i_ m i m.crs[i] (GN (szs m m.crs[i].pts)):=by
    simp only[gC];rw[jP f]
   have ab:=K.prod;have a7:=ug O i;refine AB ?_;refine EG 6 (fun j p=>j 1=.ptr h.length 0 0/\j 6=.n (i:Nat)/\p[h.length]?=some (qH 2 [C9 m])/\ext h p/\(∀b,db (j 3) b->h.length<b)/\bw 4 JB h (gC m (i+1)) (j 3) p) (fun _ _=>False) ?_ ?_ (fun _ _ hh=>hh.elim)
   .refine BB (fun n j p=>∃k,n+k=GN (szs m m.crs[i].pts)/\j 1=.ptr h.length 0 0/\j 6=.n (i:Nat)/\j 7=.n (k:Nat)/\p[h.length]?=some (qH 2 [C9 m])/\ext h p/\(∀b,db (j 3) b->h.length<b)/\bw 4 JB h (gC m i++i_ m i m.crs[i] k) (j 3) p) (GN (szs m m.crs[i].pts)) ⟨0,BA,DY g,DY J,AL,d,q,c,by rw[show i_ m i m.crs[i] 0=[] from rfl,jL];exact A⟩ ?_
    clear g J d q c A;rintro n' F H ⟨k,hk,g,J,Z,d,q,c,A⟩;refine EH g J Z (dk d) ?_;refine(oS G m i f K O.full _).uu ?_;refine DV ?_ ?_<;>intro L
    .have a4:=nP m i m.crs[i] k
     refine EH g J Z (dk d) ?_;refine(SR G m i f K O.full k L _).use ?_;refine DC g J (dk d) ?_;refine(gL G m i f K _ _ (ZT _ _ fun n hn=>(a1 n hn).1) _).uu ?_;cases hz:RS m m.crs[i] (TA (szs m m.crs[i].pts) k)
     .have C:i_ m i m.crs[i] (k+1)=i_ m i m.crs[i] k:=by
       simp only[i_];rw[hz];simp
      refine AZ Z (CZ k) ?_;refine⟨n'-1,U,k+1,U,g,J,rfl,d,q,c,?_⟩;rw[C];exact A
     .have C:gC m i++i_ m i m.crs[i] (k+1)=(gC m i++i_ m i m.crs[i] k)++[nn m i k m.crs[i]]:=by
       simp only[i_];rw[hz,if_pos rfl,zA]
      obtain⟨v',p,ha,I,E,B,hle,S⟩:=A.append Ak rp An Ci U (by rw[jX];omega) q (nn m i k m.crs[i]);refine EH J Z @Ct @OK ?_;rw[show [AV.bool true,AV.int .i64 ((i:Nat):Int),AV.sl .any 1 ((TA (szs m m.crs[i].pts) k).map bu),AV.int .i64 ((k:Nat):Int)]=JB (nn m i k m.crs[i]) from rfl];simp only[vQ,CP,↓reduceIte,jC,b_,nh _ _ (show(JB (nn m i k m.crs[i])).all AV.frozen=true from rfl)];refine KG (v:=v') (h:=p) ha ?_;refine AZ Z (CZ k) ?_;refine⟨n'-1,U,k+1,U,g,J,rfl,E _ _ d (fun e=>by have:=c _ e;omega),B,fun b T=>?_,?_⟩
      .have h1:=S b T;have h2:=AY d;omega
      .rw[C];exact I
    .have X:k=GN (szs m m.crs[i].pts):=U
     refine AB ?_;refine⟨g,J,d,q,c,?_⟩;rw[a2,<-X];exact A
   .rintro j p ⟨g1,g6,Q,B,M,I⟩
    refine AZ g6 (CZ i) ?_;exact⟨n-1,U,i+1,U,g1,rfl,Q,B,M,I⟩
  .have V:i=m.crs.length:=U
   subst V;refine AB ?_;exact⟨q,A⟩
def cellAt (l:List Is)(i k:Nat):Int:=match l[i]? with
 | some x=>(match x.l[k]? with|some z=>z|none=>0)
 | none=>0
def LU (v:eu)(g:Gl):Int:=if g.cross then cellAt v.crs g.idx g.at_ else cellAt v.pts g.idx g.at_
def w7 (l:List Is)(i k:Nat):Prop:=∃c:i<l.length,k<(l[i]'c).l.length
def oh (v:eu)(g:Gl):Prop:=if g.cross=true then w7 v.crs g.idx g.at_ else w7 v.pts g.idx g.at_
theorem cF (h:w7 l i k):∃(c:i<l.length) (hk:k<l[i].l.length),cellAt l i k=l[i].l[k]:=by
 obtain⟨c,hk⟩:=h;refine⟨c,hk,?_⟩;unfold cellAt;rw[jP c];simp only;rw[jP hk]
def Jy (m:Mo)(g:Gl):Prop:=(g.cross=false/\∃p,m.pts[g.idx]?=some p/\g.at_<p.bins.length)\/(g.cross=true/\∃c,m.crs[g.idx]?=some c/\g.at_<GN (szs m c.pts))
theorem Jb {i:Nat}{p:Pt}:∀ {k:Nat} {g:Gl},g∈ja i p k->g.cross=false/\g.idx=i/\g.at_<k
 | 0,g,h=>by cases h
 | k+1,g,h=>by
   simp only[ja,zQ] at h;rcases h with h|h
   .obtain⟨c,d,e⟩:=Jb h;exact⟨c,d,U⟩
   .split at h
    .simp at h;subst h;exact⟨rfl,rfl,Nat.lt_succ_self k⟩
    .cases h
theorem Bh {m:Mo}:∀ {i:Nat} {g:Gl},g∈gP m i->Jy m g
 | 0,g,h=>by cases h
 | i+1,g,h=>by
   simp only[gP,zQ] at h;rcases h with h|h
   .exact Bh h
   .split at h
    .rename_i p f
     obtain⟨c,d,e⟩:=Jb h;exact .inl ⟨c,p,by rw[d];exact f,e⟩
    .cases h
theorem Jc {m:Mo}{i:Nat}{c:Cr}:∀ {k:Nat} {g:Gl},g∈i_ m i c k->g.cross=true/\g.idx=i/\g.at_<k
 | 0,g,h=>by cases h
 | k+1,g,h=>by
   simp only[i_,zQ] at h;rcases h with h|h
   .obtain⟨d,e,f⟩:=Jc h;exact⟨d,e,U⟩
   .split at h
    .simp at h;subst h;exact⟨rfl,rfl,Nat.lt_succ_self k⟩
    .cases h
theorem AH {m:Mo}:∀ {i:Nat} {g:Gl},g∈gC m i->Jy m g
 | 0,g,h=>Bh h
 | i+1,g,h=>by
   simp only[gC,zQ] at h;rcases h with h|h
   .exact AH h
   .split at h
    .rename_i c j
     obtain⟨d,e,f⟩:=Jc h;exact .inr ⟨d,c,by rw[e];exact j,f⟩
    .cases h
theorem aR {α:Type}{d:α->Is->Bool}:∀ {ws:List α} {xs:List Is},QX d ws xs=true->∀(i:Nat) (a:α),ws[i]?=some a->∃x,xs[i]?=some x/\d a x=true
 | [],[],_,i,a,h=>by simp at h
 | w::ws,x::xs,h,i,a,c=>by
   simp only[QX,jY] at h
   cases i with
   | zero=>simp at c;subst c;exact⟨x,rfl,h.1⟩
   | succ i=>exact aR h.2 i a (BQ c)
 | [],_::_,h,_,_,_=>by cases h
 | _::_,[],h,_,_,_=>by cases h
theorem Ix {n:Nat}{x:Is}(d:l[i]?=some x)(f:x.l.length=n)(hk:k<n):w7 l i k:=by
 obtain⟨c,e⟩:=List.getElem?_eq_some_iff.1 d;exact⟨c,by rw[e];omega⟩
theorem Iu (j:MC m v=true){g:Gl}(C:g∈goals m):oh v g:=by
 unfold MC at j;simp only[jY] at j;obtain⟨⟨⟨⟨_,A⟩,B⟩,_⟩,_⟩:=j;unfold oh;rcases AH C with⟨e,p,E,hk⟩|⟨e,c,f,hk⟩
 .rw[if_neg (by simp [e])]
  obtain⟨x,q,d⟩:=aR A _ _ E;unfold ia at d;simp only[jY,beq_iff_eq] at d;exact Ix q d.1 hk
 .rw[if_pos e]
  obtain⟨x,q,d⟩:=aR B _ _ f;unfold ie at d;simp only[jY,beq_iff_eq] at d;exact Ix q d.1 hk
theorem Cd (g:Gl):(JB g)[0]?=some (.bool g.cross):=rfl
theorem Bp (g:Gl):(JB g)[1]?=some (.n (g.idx:Int)):=rfl
theorem Bo (g:Gl):(JB g)[3]?=some (.n (g.at_:Int)):=rfl
theorem J0 (h:Hp)(g:Gl):OU h (.agg (JB g))=some (.ptr h.length 0 0,h++[qH 4 [JB g]]):=rfl
theorem uJ (v:eu)(g:Gl)(f:oh v g)(h:Hp):a_ (En G) 62 [.agg (JB g),.agg (bt v)] h (.bool (decide (LU v g>0))):=by
 refine ACalls.pure0 rfl ?_;refine cn Tryz.func62 4 ?_;have j:(h++[qH 4 [JB g]]++[qH 4 [bt v]])[h.length]?=some (qH 4 [JB g]):=AU (A8 _ _);have p:=A8 (h++[qH 4 [JB g]]) (qH 4 [bt v]);have B:∃x,h++[qH 4 [JB g]]++[qH 4 [bt v]]=h++x:=⟨_,zA _ _ _⟩;refine DC @nV @J0 @k6 ?_
 generalize h++[qH 4 [JB g]]++[qH 4 [bt v]]=H at j p B|-
 generalize (h++[qH 4 [JB g]]).length=vb at p|-
 have K:BR jA H 4 (.ptr h.length 0 0)=some (.bool g.cross):=by rw[BJ po j (row:=JB g) rfl,Cd]
 have I:BR jA H 3 (.ptr h.length 0 1)=some (.n (g.idx:Int)):=by rw[BJ ct j (row:=JB g) rfl,Bp]
 have J:BR jA H 3 (.ptr h.length 0 3)=some (.n (g.at_:Int)):=by rw[BJ ct j (row:=JB g) rfl,Bo]
 have C:BR jA H 25 (.ptr vb 0 0)=some (.sl v.pm 1 (v.pts.map LW)):=by rw[BJ XF p (row:=bt v) rfl,ir]
 have E:BR jA H 25 (.ptr vb 0 1)=some (.sl v.cm 1 (v.crs.map LW)):=by rw[BJ XF p (row:=bt v) rfl,i6]
 refine A7 K ?_;unfold oh at f;cases q:g.cross
 .rw[if_neg (by simp [q])] at f
  obtain⟨d,e,A⟩:=cF f;have c:LU v g=v.pts[g.idx].l[g.at_]:=by unfold LU;rw[q,if_neg BA,A]
  refine AB ?_;refine DI BC ?_;simp only[vQ,JX,↓reduceIte,jC,jO,b_,V6,J8,UZ,YW,nV,HL,I,J,C,CE d,BK MB d,SQ,CE e,BK ct e,cy];exact⟨by rw[c],B⟩
 .rw[if_pos q] at f
  obtain⟨d,e,A⟩:=cF f;have c:LU v g=v.crs[g.idx].l[g.at_]:=by unfold LU;rw[q,if_pos rfl,A]
  refine AB ?_;refine DI BC ?_;simp only[vQ,JX,↓reduceIte,jC,jO,b_,V6,J8,UZ,YV,nV,HL,I,J,E,CE d,BK MB d,SQ,CE e,BK ct e,cy];exact⟨by rw[c],B⟩
theorem Wq (v:eu)(g:Gl)(j:oh v g)(h:Hp):a_ (En G) 123 [.agg (bt v),.agg (JB g)] h (.n (LU v g)):=by
 refine ACalls.pure0 rfl ?_;refine cn Tryz.func123 4 ?_;have q:(h++[qH 4 [bt v]]++[qH 4 [JB g]])[h.length]?=some (qH 4 [bt v]):=AU (A8 _ _);have d:=A8 (h++[qH 4 [bt v]]) (qH 4 [JB g]);have B:∃x,h++[qH 4 [bt v]]++[qH 4 [JB g]]=h++x:=⟨_,zA _ _ _⟩;refine DC @nT @J0 @k6 ?_
 generalize h++[qH 4 [bt v]]++[qH 4 [JB g]]=H at d q B|-
 generalize (h++[qH 4 [bt v]]).length=gb at d|-
 have K:BR jA H 4 (.ptr gb 0 0)=some (.bool g.cross):=by rw[BJ po d (row:=JB g) rfl,Cd]
 have I:BR jA H 3 (.ptr gb 0 1)=some (.n (g.idx:Int)):=by rw[BJ ct d (row:=JB g) rfl,Bp]
 have J:BR jA H 3 (.ptr gb 0 3)=some (.n (g.at_:Int)):=by rw[BJ ct d (row:=JB g) rfl,Bo]
 have C:BR jA H 25 (.ptr h.length 0 0)=some (.sl v.pm 1 (v.pts.map LW)):=by rw[BJ XF q (row:=bt v) rfl,ir]
 have E:BR jA H 25 (.ptr h.length 0 1)=some (.sl v.cm 1 (v.crs.map LW)):=by rw[BJ XF q (row:=bt v) rfl,i6]
 refine A7 K ?_;unfold oh at j;cases p:g.cross
 .rw[if_neg (by simp [p])] at j
  obtain⟨e,f,A⟩:=cF j;have c:LU v g=v.pts[g.idx].l[g.at_]:=by unfold LU;rw[p,if_neg BA,A]
  refine AB ?_;refine DI BC ?_;simp only[vQ,JX,↓reduceIte,jC,jO,b_,V6,J8,UZ,YW,nT,HK,I,J,C,CE e,BK MB e,SQ,CE f,BK ct f,cy];exact⟨by rw[c],B⟩
 .rw[if_pos p] at j
  obtain⟨e,f,A⟩:=cF j;have c:LU v g=v.crs[g.idx].l[g.at_]:=by unfold LU;rw[p,if_pos rfl,A]
  refine AB ?_;refine DI BC ?_;simp only[vQ,JX,↓reduceIte,jC,jO,b_,V6,J8,UZ,YV,nT,HK,I,J,E,CE e,BK MB e,SQ,CE f,BK ct f,cy];exact⟨by rw[c],B⟩
theorem Zx (g:Gl):(JB g).all AV.leaf=true:=rfl
theorem AU3 (g:Gl):(dr g).all AV.frozen=true:=rfl
theorem BA3 (h:Hp):H9 jA h 118=some (.ptr h.length 0 0,h++[qH 4 [[.bool false,.n 0,.sl .nil 0 [],.n 0]]]):=FZ (row:=[.bool false,.n 0,.sl .nil 0 [],.n 0]) BC
theorem Rp (h:Hp)(g:Gl)(row:List AV)(c:row.length=4):D7 jA (h++[qH 4 [row]]) 118 (.ptr h.length 0 0) (.agg (JB g))=some (h++[qH 4 [JB g]]):=by
 rw[VH (SC (Zx g)) (by rw[UN];exact oP) (by rw[UN,c];exact jF _)];have:splice row 0 (JB g)=JB g:=by unfold splice;simp [UN,c]
 rw[this]
theorem ldG {g:Gl}(c:h[b]?=some (qH 4 [JB g])):BR jA h 118 (.ptr b 0 0)=some (.agg (JB g)):=by
 rw[EK CC oP c rfl (by rw[UN];exact jF 4)];rfl
theorem kl {g:Gl}(c:h[b]?=some (qH 4 [JB g])):BR jA h 34 (.ptr b 0 0)=some (.agg (dr g)):=by
 rw[EK qu dL c rfl (by rw[UN];omega)];rfl
theorem Qz {xs:List Gl}(hk:k<xs.length):BR jA h 34 (.fptr 4 (xs.map JB) k 0)=some (.agg (dr xs[k])):=by
 have c:=UN xs[k];simp [BR,Sm.rowAt,hk,qu,dL,c];rfl
theorem Dk (h:Hp)(g:Gl):DR jA false h 49 1 [(0,.agg (dr g))]=some (.sl .full 3 [dr g],h):=by
 have c:Tryz.prog.underlying 49=some (.slice 34):=pa;unfold DR;simp only[c,dL,o8];have d:cW 3 0 [(0,AV.agg (dr g))]=some [dr g]:=rfl;simp [d,AU3]
theorem eE (c:MC m v=true):F6 m=0:=by
 unfold MC at c;simp only[jY,beq_iff_eq] at c;exact c.1.1.1.1
theorem lW {α:Type}(p:α->Bool)(xs:List α)(k:Nat)(hk:k<xs.length):(xs.take (k+1)).filter p=(xs.take k).filter p++(if p xs[k]=true then [xs[k]] else []):=by
 rw[List.take_succ_eq_append_getElem hk,List.filter_append];simp [List.filter_cons]
def KA (m:Mo)(v:eu):List Gl:=if MC m v=true then (goals m).filter (fun g => !decide (LU v g>0)) else []
theorem AT7 (m:Mo)(v:eu)(hF:∀h,a_ (En G) 55 [.agg (C9 m),.agg (bt v)] h (.bool (MC m v)))(hL:Good m->∀h,a_ (En G) 61 [.agg (C9 m)] h (.sl (nm (goals m)) 4 ((goals m).map JB)))(h:Hp):a_ (En G) 21 [.agg (C9 m),.agg (bt v)] h (.sl (nm (KA m v)) 3 ((KA m v).map dr)):=by
 refine JL k7 ?_;refine cn Tryz.func21 4 ?_;have t:=i7.mk' h m v;have T:h.length<(h++[qH 2 [C9 m]]).length:=BA;refine AZ @er @k6 ?_
 generalize h++[qH 2 [C9 m]]++[qH 4 [bt v]]=H at t|-
 generalize (h++[qH 2 [C9 m]]).length=vb at t T|-
 refine AZ (dk t.gm) (jo t.gv) ?_;refine(hF _).uu ?_;cases E:MC m v
 .refine AB ?_
  have:KA m v=[]:=by unfold KA;rw[E];rfl
  rw[this];exact⟨t.hx,bw.nil _ _ _ _⟩
 have X:=TY (eE E);have N:=kC X;have q:∀g∈goals m,oh v g:=fun g M=>Iu E M
 refine A7 (dk t.gm) ?_;refine(hL X _).use ?_;have S:KA m v=(goals m).filter (fun g => !decide (LU v g>0)):=by unfold KA;rw[if_pos E]
 rw[S]
 generalize goals m=gs at N q|-
 refine A7 Og ?_;refine BB (fun n F d=>∃k,n+k=gs.length/\F 3=.ptr vb 0 0/\F 13=.sl (nm gs) 4 (gs.map JB)/\F 14=.n gs.length/\F 15=.n (k:Nat)/\d[vb]?=some (qH 4 [bt v])/\ext h d/\(∀b,db (F 5) b->vb<b)/\bw 3 dr h ((gs.take k).filter (fun g => !decide (LU v g>0))) (F 5) d) gs.length ⟨0,BA,AL,AL,AL,AL,t.gv,t.hx,fun b hb=>hb.elim,bw.nil _ _ _ _⟩ ?_;rintro n F d ⟨k,hk,I,f13,f14,f15,C,V,A,O⟩;refine AZ f14 f15 ?_;refine DV ?_ ?_<;>intro c
 .have a0:((gs.take k).filter (fun g => !decide (LU v g>0))).length<=k:=qW (List.length_filter_le _ _) NI
  have j:=lW (fun g => !decide (LU v g>0)) gs k c;have B:=O.app [qH 4 [JB gs[k]]];have p:ext h (d++[qH 4 [JB gs[k]]]):=V.app _;simp only[vQ,CP,↓reduceIte,jC,b_,On,jQ,I,f13,f15,CE c,DL CC oP UN c,BA3,Rp _ _ [.bool false,.n 0,.sl .nil 0 [],.n 0] rfl,ldG (A8 d _),jo (AU (x:=qH 4 [JB gs[k]]) C)];refine(uJ G v gs[k] (q _ (jH c)) _).uu ?_;cases Y:decide (LU v gs[k]>0)
  .obtain⟨v',Z,ha,Q,f,L,hle,J⟩:=B.append pa dL o8 qq U U p gs[k]
   refine DC @nV (kl (A8 d (qH 4 [JB gs[k]]))) Dk ?_;refine KG (v:=v') (h:=Z) ha ?_;refine AZ f15 (CZ k) ?_;refine⟨n-1,U,k+1,U,I,f13,f14,rfl,f _ _ (AU C) (fun e=>by have:=A _ e;omega),L,fun b K=>?_,?_⟩
   .have h1:=J b K;have h2:=AY C;rw[h1];simp;omega
   .rw[j,Y];exact Q
  .refine AZ f15 (CZ k) ?_
   refine⟨n-1,U,k+1,U,I,f13,f14,rfl,AU C,p,A,?_⟩;rw[j,Y];simp only[qL,zZ,if_false,jL];exact B
 .rw[jK U] at O
  refine AB ?_;exact⟨V,O⟩
theorem V0 (d:fm G)(e:oF G)(m:Mo)(v:eu)(c:dt m)(f:jc v)(h:Hp):a_ (En G) 21 [.agg (C9 m),.agg (bt v)] h (.sl (nm (KA m v)) 3 ((KA m v).map dr)) :=
 AT7 G m v (gx G d e m v c f) (V_ G m c) h
theorem pF {p:Nat->Bool}:∀ {l:List Int} {j:Nat},c_ p j l=true->∀z∈l,0<=z
 | [],_,_,_,h=>by cases h
 | n::ns,j,h,z,c=>by
   simp only[c_,jY] at h
   cases List.mem_cons.1 c with
   | inl e =>
     subst e;have:=h.1;unfold countB NM at this;simp only[jY,decide_eq_true_eq] at this;exact this.1.1
   | inr e=>exact pF h.2 z e
theorem Fl (h:∀x,l[i]?=some x->∀z∈x.l,0<=z):0<=cellAt l i k:=by
 unfold cellAt;split
 .rename_i x c
  split
  .rename_i z d;exact h x c z (qC d)
  .omega
 .omega
theorem Z3 (q:MC m v=true){g:Gl}(E:g∈goals m):0<=LU v g:=by
 unfold MC at q;simp only[jY] at q;obtain⟨⟨⟨⟨_,B⟩,C⟩,_⟩,_⟩:=q;unfold LU;rcases AH E with⟨f,p,I,hk⟩|⟨f,c,j,hk⟩
 .rw[if_neg (by simp [f])]
  refine Fl fun x A=>?_
  obtain⟨J,d,e⟩:=aR B _ _ I;rw[A] at d;cases d;unfold ia at e;simp only[jY] at e;exact pF e.2
 .rw[if_pos f]
  refine Fl fun x A=>?_
  obtain⟨J,d,e⟩:=aR C _ _ j;rw[A] at d;cases d;unfold ie at e;simp only[jY] at e;exact pF e.2
theorem ARP {z:Int}(h:0<=z):(z==0) = !decide (z>0):=by
 rw[Bool.eq_iff_iff];simp;omega
theorem Ym (m:Mo)(v:eu)(T:dt m)(hv:jc v)(h:Hp):a_ (En G) 56 [.agg (C9 m),.agg (bt v)] h (.sl (nm (KA m v)) 3 ((KA m v).map dr)):=by
 refine JL k7 ?_;refine cn Tryz.func56 4 ?_;have t:=i7.mk' h m v;have Y:h.length<(h++[qH 2 [C9 m]]).length:=BA;refine AZ @er @k6 ?_
 generalize h++[qH 2 [C9 m]]++[qH 4 [bt v]]=H at t|-
 generalize (h++[qH 2 [C9 m]]).length=vb at t Y|-
 refine A7 (dk t.gm) ?_;refine(XP G m T _).use ?_;simp only[vQ,EM,CP,↓reduceIte,b_,bne];cases Z:(F6 m==0)
 .refine AB ?_
  have:KA m v=[]:=by unfold KA MC;rw[Z];rfl
  rw[this];exact⟨t.hx,bw.nil _ _ _ _⟩
 refine AZ (dk t.gm) (jo t.gv) ?_;refine(Fm G m v T hv _).uu ?_;cases B:MC m v
 .refine AB ?_
  have:KA m v=[]:=by unfold KA;rw[B];rfl
  rw[this];exact⟨t.hx,bw.nil _ _ _ _⟩
 have hg:=TY (eE B);have S:=kC hg;have C:∀g∈goals m,oh v g:=fun g f=>Iu B f
 have d:∀g∈goals m,0<=LU v g:=fun g f=>Z3 B f
 refine A7 (dk t.gm) ?_;refine(Zl G m T hg _).use ?_;have X:KA m v=(goals m).filter (fun g => !decide (LU v g>0)):=by unfold KA;rw[if_pos B]
 rw[X]
 generalize goals m=gs at S C d|-
 refine AB ?_;refine BB (fun n F I=>∃k,n+k=gs.length/\F 3=.ptr vb 0 0/\F 6=.sl (nm gs) 4 (gs.map JB)/\F 7=.n (k:Nat)/\I[vb]?=some (qH 4 [bt v])/\ext h I/\(∀b,db (F 5) b->vb<b)/\bw 3 dr h ((gs.take k).filter (fun g => !decide (LU v g>0))) (F 5) I) gs.length ⟨0,BA,AL,AL,AL,t.gv,t.hx,fun b hb=>hb.elim,bw.nil _ _ _ _⟩ ?_;rintro n F I ⟨k,hk,L,p,q,J,O,E,K⟩;refine DC Of p q ?_;refine DV ?_ ?_<;>intro c
 .have a0:((gs.take k).filter (fun g => !decide (LU v g>0))).length<=k:=qW (List.length_filter_le _ _) NI
  have A:=lW (fun g => !decide (LU v g>0)) gs k c;refine AB ?_;refine DI BC ?_;simp only[vQ,KU,KE,↓reduceIte,jC,jO,b_,Bf,L,p,q,CE c,DL Qo rp UN c,jo J];refine⟨_,Wq G v gs[k] (C _ (jH c)) _,?_⟩
  try refine AB ?_
  rw[ARP (d _ (jH c))];cases hp:decide (LU v gs[k]>0)
  .obtain⟨v',H2,ha,V,j,Q,hle,M⟩:=K.append pa dL o8 qq U U O gs[k]
   simp only[vQ,CP,↓reduceIte,jC,b_,Bf,nT,p,q,CE c,Qz c,Dk];refine KG (v:=v') (h:=H2) ha ?_;refine AZ q (CZ k) ?_;refine⟨n-1,U,k+1,U,L,p,rfl,j _ _ J (fun e=>by have:=E _ e;omega),Q,fun b N=>?_,?_⟩
   .have Z:=M b N;have h2:=AY J;omega
   .rw[A,hp];exact V
  .refine AZ q (CZ k) ?_
   refine⟨n-1,U,k+1,U,L,p,rfl,J,O,E,?_⟩;rw[A,hp];simp only[qL,zZ,if_false,jL];exact K
 .rw[jK U] at K
  refine AB ?_;exact⟨O,K⟩
def zeros (n:Nat):List Int:=zD n 0
def rh (n:Nat):Is:=⟨.full,zeros n⟩
def ko (m:Mo):List Is:=m.pts.map fun p=>rh p.bins.length
def lj (m:Mo):List Is:=m.crs.map fun c=>rh (GN (szs m c.pts))
def sN (m:Mo):eu:=⟨nm (ko m),ko m,nm (lj m),lj m,0,0⟩
theorem KZ (h:Hp)(x y:bO):(h++[x]).set h.length y=h++[y]:=BA
theorem Cq (h:Hp)(m:SM)(xs:List (List AV)):DR jA false h 25 1 [(0,.sl m 1 xs)]=some (.sl .full 1 [[.sl m 1 xs]],h):=BC
theorem CT:jd LW:=fun _ _ _ _=>⟨rfl,rfl⟩
theorem IU (d:F a=.ptr b 0 0)(c:BR P h t (.ptr b 0 0)=some x):MW P [.cell a t] R .ret F h=R x h:=by simp [MW,hZ,X0,d,c]
theorem Mm {u:Nat}{y:AV}{bb:Nat}(d:F a=.ptr ba 0 0)(e:F b=.ptr bb 0 0)(c:BR P h t (.ptr ba 0 0)=some x)(h2:BR P h u (.ptr bb 0 0)=some y):MW P [.cell a t,.cell b u] R .ret F h=R (.tup [x,y]) h:=by simp [MW,hZ,U2,X0,d,e,c,h2]
theorem HQ {u c:Nat}{y:AV}{bb:Nat}(e:F a=.ptr ba 0 0)(f:F b=.ptr bb 0 0)(d:BR P h t (.ptr ba 0 0)=some x)(h2:BR P h u (.ptr bb 0 0)=some y):MW P [.cell a t,.cell b u,.tmp c] R .ret F h=R (.tup [x,y,F c]) h:=by simp [MW,hZ,U2,X0,e,f,d,h2]
theorem cC {c:Nat}(e:F a=.ptr ba 0 0)(d:BR P h t (.ptr ba 0 0)=some x):MW P [.cell a t,.tmp c] R .ret F h=R (.tup [x,F c]) h:=by simp [MW,hZ,U2,X0,e,d]
def gn {α:Type}(k:Nat)(f:α->List AV)(ys:List α):AV:=match ys with
 | []=>.sl .nil 0 []
 | _=>.sl .any k (ys.map f)
theorem KC {α:Type}{f:α->List AV}{ys:List α}{v:AV}(j:jd f)(q:bw k f h ys v H)(n d:Nat)(p:n<=h.length):FK n H (d+2) v=gn k f ys:=by
 rcases q with⟨rfl,rfl⟩|⟨c,o,e,rfl,g⟩
 .rfl
 .rw[ew j (qW p e) g]
  cases ys with
  | nil=>exact absurd rfl c
  | cons _ _=>rfl
theorem XC {α:Type}{f:α->List AV}{ys:List α}:cz (gn k f ys) (.sl (nm ys) k (ys.map f)):=by
 cases ys with
 | nil=>exact cz.sl (Cv.nil 0 k)
 | cons y ys=>exact cz.refl _
theorem bw.app2 {t e:TypeId}{α:Type}{q:Nat}{f:α->List AV}{ys:List α}{v:AV}(Q:bw k f h ys v H)(I:P.underlying t=some (.slice e))(E:da P e=some k)(J:U5 P e=some k)(c:L8 P e=some q)(hbs:q<=4194304)(C:ys.length<8388608)(B:h.length<=H.length)(y:α):
  ∃g d,EJ P true H t t v (.sl .full k [f y])=some (g,d)/\bw k f h (ys++[y]) g d/\(∀b x,H[b]?=some x->¬db v b->d[b]?=some x)/\d.length=H.length+1/\(∀b,db g b->b=H.length)/\(∃o l,g=.own o 0 l)/\∀e:Hp,e.length<=h.length->ext e H->ext e d:=by
 have A:([f y]:List (List AV))≠[]:=BA;rcases Q with⟨rfl,rfl⟩|⟨O,o,K,rfl,L⟩
 .exact⟨_,_,WS I E J c (H6 H .full k [f y]) A (JF BA hbs),.inr ⟨BA,H.length,B,rfl,BA⟩,fun b x c _=>JM c,BA,fun b c=>c.symm,⟨_,_,rfl⟩,fun e _ p=>p.app _⟩
 .have M:JR H (.own o 0 ys.length)=some (k,ys.map f):=by
   rw[KH L BA,zI,jK BA]
  refine⟨_,_,VG I E J c M (H6 H .full k [f y]) A (JF NI hbs),.inr ⟨BA,H.length,B,BA,BA⟩,fun b x c N=>?_,BA,fun b c=>c.symm,⟨_,_,rfl⟩,fun e C p=>(p.set (qW C K) _).app _⟩;have j:¬o=b:=N;refine JM ?_;rw[List.getElem?_set,if_neg j];exact c
theorem JV {j:Nat}{cs:List AV}{v:AV}(d:JI v=some cs)(f:da P t=some cs.length)(c:H[b]?=some (qH k [row]))(e:j+cs.length<=row.length):D7 P H t (.ptr b 0 j) v=some (H.set b (qH k [splice row j cs])):=by
 rw[IE (i:=0) d f c rfl e];rfl
theorem Ke (h:Hp)(n:Nat)(e:n<=1048576):IX jA false h 32 (.n (n:Int)) (.n (n:Int))=some (.sl .full 1 ((zeros n).map bu),h):=by
 have d:N9 jA 3=some [.n 0]:=BC;have c:room n 8:=JF U U;unfold IX;simp only[dJ,iz,nA,d,Int.toNat_natCast];rw[if_pos ⟨U,Int.le_refl _,c,rfl⟩];simp [zeros,bu]
structure Tk where
 m:SM
 last:List Is
def TK (t:Tk):List AV:=[.sl t.m 1 (t.last.map LW)]
theorem Fs (t:Tk):(TK t).length=1:=rfl
def zT:Tk:=⟨.nil,[]⟩
def zV:eu:=⟨.nil,[],.nil,[],0,0⟩
def lu (m:Mo):List Is:=m.pts.map fun _=>⟨.nil,[]⟩
def NL:List AV:=[.sl .nil 0 []]
theorem Mf {α:Type}:jd (fun _:α=>NL):=fun _ _ _ _=>⟨rfl,rfl⟩
theorem AYJ:cf NL (LW ⟨.nil,[]⟩):=cf.cons rfl (Cv.nil 0 1) cf.nil
theorem AYI {α:Type}{s:SM}(xs:List α):Cv (.sl s 1 (xs.map fun _=>NL)) (.sl s 1 ((xs.map fun _=>(⟨.nil,[]⟩:Is)).map LW)):=by
 rw[List.map_map];exact Cv.map fun _ _=>AYJ
theorem Nd:cz (.agg [.sl .nil 0 [],.sl .nil 0 [],.n 0,.n 0]) (.agg (bt zV)):=cz.agg (cq.cons (cz.sl (Cv.nil 0 1)) (cq.cons (cz.sl (Cv.nil 0 1)) (cq.cons (cz.refl _) (cq.cons (cz.refl _) cq.nil))))
theorem Nf:cz (.agg [.sl .nil 0 []]) (.agg (TK zT)):=cz.agg (cq.cons (cz.sl (Cv.nil 0 1)) cq.nil)
def MK:List AV:=[.sl .nil 0 [],.sl .nil 0 [],.n 0,.n 0]
theorem vp (h:Hp):H9 jA h 46=some (.ptr h.length 0 0,h++[qH 4 [MK]]):=FZ (row:=MK) BC
theorem tv (h:Hp):H9 jA h 94=some (.ptr h.length 0 0,h++[qH 1 [NL]]):=FZ (row:=NL) BC
theorem PF:IY jA 46 []=some (.agg MK):=BC
theorem PC:IY jA 94 []=some (.agg NL):=BC
theorem Ki (d:H[b]?=some (qH 4 [row]))(c:row.length=4):D7 jA H 46 (.ptr b 0 0) (.agg (bt v))=some (H.set b (qH 4 [bt v])):=by
 rw[JV (cs:=bt v) rfl nu d (by rw[c];exact jF 4)];have:splice row 0 (bt v)=bt v:=by unfold splice;simp [dz,c]
 rw[this]
theorem o6 (d:H[b]?=some (qH 4 [row]))(c:row.length=4):D7 jA H 46 (.ptr b 0 0) (.agg MK)=some (H.set b (qH 4 [MK])):=by
 rw[JV (cs:=MK) rfl nu d (by rw[c];exact jF 4)];have:splice row 0 MK=MK:=by unfold splice;simp [MK,c]
 rw[this]
theorem stT {H:Hp}{b:Nat}{row:List AV}{t:Tk}(c:H[b]?=some (qH 1 [row]))(d:row.length=1):D7 jA H 94 (.ptr b 0 0) (.agg (TK t))=some (H.set b (qH 1 [TK t])):=by
 rw[JV (cs:=TK t) rfl qh c (by rw[d];exact jF 1)];have:splice row 0 (TK t)=TK t:=by unfold splice;rw[Fs,qA,jS U];simp
 rw[this]
theorem Ns (d:H[b]?=some (qH 1 [row]))(c:row.length=1):D7 jA H 94 (.ptr b 0 0) (.agg NL)=some (H.set b (qH 1 [NL])):=by
 rw[JV (cs:=NL) rfl qh d (by rw[c];exact jF 1)];have:splice row 0 NL=NL:=by unfold splice;rw[qA,jS (by rw[c];exact jF 1)];simp
 rw[this]
theorem Ka {t:Tk}(c:h[b]?=some (qH 1 [TK t])):BR jA h 94 (.ptr b 0 0)=some (.agg (TK t)):=by
 rw[EK Dr qh c rfl (by rw[Fs];exact jF 1)];rfl
theorem y3 (c:h[b]?=some (qH 4 [row]))(d:row.length=4):BR jA h 46 (.ptr b 0 0)=some (.agg row):=by
 rw[EK x_ nu c rfl (by rw[d];exact jF 4),zI,jK U]
theorem y0 (c:h[b]?=some (qH 1 [row]))(d:row.length=1):BR jA h 94 (.ptr b 0 0)=some (.agg row):=by
 rw[EK Dr qh c rfl (by rw[d];exact jF 1),zI,jK U]
end Cov
namespace Rk
open Sm Bins Cov Go.RowKit
def hit (v:eu)(g:Gl):Bool:=decide (LU v g>0)
def hits (l:List eu)(i:Nat)(g:Gl):Bool:=match l[i]? with
 | some v=>hit v g
 | none=>false
def row (m:Mo)(v:eu):List Bool:=(goals m).map (hit v)
def left (a:List Gl)(v:eu)(k:Nat):List Gl:=(a.drop k).filter fun g => !hit v g
def il (E:Env)(f:FuncId)(args:List AV)(h:Hp):Prop:=ACalls E f args h fun v H=>(∃b:Bool,v=.bool b)/\H=h
theorem il.of {E:Env}{f:FuncId}{args:List AV}{h:Hp}(d:ACalls E f args h fun v H=>(∃b:Bool,v=.bool b)/\ext h H):il E f args h :=
 d.trunc fun v H c=>by
  obtain⟨⟨b,rfl⟩,x,rfl⟩:=c;exact⟨1,h,rfl,fun b a=>.inr (.inl ⟨by rw[qF a],by rw[qF a]⟩),⟨b,rfl⟩,rfl⟩
theorem il.use {E:Env}{f:FuncId}{args:List AV}{h:Hp}{K:AV->Hp->Prop}(c:il E f args h)(hk:∀b:Bool,K (.bool b) h):ACalls E f args h K :=
 ACalls.mono c fun v H ⟨⟨b,e⟩,a⟩=>by rw[e,a];exact hk b
theorem mc {e:Ex}{k:Nat}(hk:k<e.args.length):wt e.args[k]<wt e:=by
 have a:=YA (List.getElem_mem hk);have b:=OI e;omega
theorem tp {H:Hp}{b:Nat}{e:Ex}(a:H[b]?=some (qH 4 [AQ e])):BR jA H 23 (.ptr b 0 3)=some (.sl e.m 4 (e.args.map AQ)):=by
 rw[BJ MQ a (row:=AQ e) rfl,ZE]
theorem Bb {H:Hp}{l:List Pt}{i:Nat}(b:i<l.length):BR jA H 79 (.fptr 6 (l.map GL) i 1)=some (.agg (AQ l[i].ex)):=by
 have a:=JH l[i];simp only[BR,Sm.rowAt,List.getElem?_map,List.getElem?_eq_getElem b,Option.map_some,NU,G9];rw[if_pos (by rw[a];omega),ze]
end Rk
namespace Cov
open Sm Bins Go.RowKit
variable {b k:Nat} {H h:Hp} {v:AV} {m:Mo}
theorem bw.setB {α:Type}{f:α->List AV}{ys:List α}(c:bw k f h ys v H)(e:b<h.length)(y:bO):bw k f h ys v (H.set b y) :=
 c.keep fun d a=>by
  have:=c.lt a;rw[List.getElem?_set_ne U]
theorem bw.keepA {α:Type}{f:α->List AV}{c:Hp}{ys:List α}{u:AV}(i:bw k f h ys v H)(hk:∀b x,H[b]?=some x->¬db u b->c[b]?=some x)(g:∀b,db v b->¬db u b):bw k f h ys v c:=by
 rcases i with a|⟨a,o,d,rfl,e⟩
 .exact .inl a
 .exact .inr ⟨a,o,d,rfl,hk _ _ e (g o rfl)⟩
theorem bw.leaf {α:Type}{k:Nat}{f:α->List AV}{h H:Hp}{ys:List α}{v:AV}(a:bw k f h ys v H):v.leaf=true:=by
 rcases a with⟨_,rfl⟩|⟨_,o,_,rfl,_⟩<;>rfl
theorem bw.base {α:Type}{f:α->List AV}{c:Hp}{ys:List α}(i:bw k f h ys v H)(g:c.length<=h.length):bw k f c ys v H:=by
 rcases i with a|⟨a,o,d,rfl,e⟩
 .exact .inl a
 .exact .inr ⟨a,o,Nat.le_trans g d,rfl,e⟩
def UC (a c:AV):List AV:=[a,c,.n 0,.n 0]
structure Em (h H:Hp) (m:Mo) (b2 b3 b4 b5:Nat) (v1 v2 v3:AV):Prop where
 gm:H[h.length]?=some (qH 2 [C9 m])
 g2:H[b2]?=some (qH 4 [MK])
 g3:H[b3]?=some (qH 1 [NL])
 g4:H[b4]?=some (qH 4 [UC v1 v2])
 g5:H[b5]?=some (qH 1 [[v3]])
 o2:h.length<b2
 o3:b2<b3
 o4:b3<b4
 o5:b4<b5
 hx:ext h H
section
variable {h H:Hp} {m:Mo} {b2 b3 b4 b5:Nat} {v1 v2 v3:AV} (E:Em h H m b2 b3 b4 b5 v1 v2 v3)
include E
theorem Em.m0:BR jA H 28 (.ptr h.length 0 0)=some (.sl m.pm 6 (m.pts.map GL)):=by rw[BJ lE E.gm (row:=C9 m) rfl,XT]
theorem Em.m1:BR jA H 29 (.ptr h.length 0 1)=some (.sl m.cm 3 (m.crs.map IM)):=by rw[BJ nE E.gm (row:=C9 m) rfl,ZC]
theorem Em.l4:BR jA H 25 (.ptr b4 0 0)=some v1:=by rw[BJ XF E.g4 (row:=UC v1 v2) rfl];rfl
theorem Em.l4':BR jA H 25 (.ptr b4 0 1)=some v2:=by rw[BJ XF E.g4 (row:=UC v1 v2) rfl];rfl
theorem Em.l5:BR jA H 25 (.ptr b5 0 0)=some v3:=by rw[BJ XF E.g5 (row:=[v3]) rfl];rfl
theorem Em.app (x:Hp):Em h (H++x) m b2 b3 b4 b5 v1 v2 v3:=⟨JM E.gm,JM E.g2,JM E.g3,JM E.g4,JM E.g5,E.o2,E.o3,E.o4,E.o5,E.hx.app _⟩
theorem Em.keep {c:Hp}{u:AV}(hk:∀b x,H[b]?=some x->¬db u b->c[b]?=some x)(a:∀b,db u b->b5<b)(d:ext h H->ext h c):Em h c m b2 b3 b4 b5 v1 v2 v3:=by
 have f:=E.o2;have g:=E.o3;have i:=E.o4;have j:=E.o5;exact⟨hk _ _ E.gm (fun e=>by have:=a _ e;omega),hk _ _ E.g2 (fun e=>by have:=a _ e;omega),hk _ _ E.g3 (fun e=>by have:=a _ e;omega),hk _ _ E.g4 (fun e=>by have:=a _ e;omega),hk _ _ E.g5 (fun e=>by have:=a _ e;omega),f,g,i,j,d E.hx⟩
theorem Em.set4 (a c:AV):Em h (H.set b4 (qH 4 [UC a c])) m b2 b3 b4 b5 a c v3:=by
 have d:=E.o2;have e:=E.o3;have f:=E.o4;have g:=E.o5;exact⟨DU E.gm U,DU E.g2 U,DU E.g3 U,CO E.g4,DU E.g5 U,d,e,f,g,E.hx.set U _⟩
theorem Em.set5 (a:AV):Em h (H.set b5 (qH 1 [[a]])) m b2 b3 b4 b5 v1 v2 a:=by
 have c:=E.o2;have d:=E.o3;have e:=E.o4;have f:=E.o5;exact⟨DU E.gm U,DU E.g2 U,DU E.g3 U,DU E.g4 U,CO E.g5,c,d,e,f,E.hx.set U _⟩
theorem Em.s4 {o l:Nat}:D7 jA H 25 (.ptr b4 0 0) (.own o 0 l)=some (H.set b4 (qH 4 [UC (.own o 0 l) v2])):=JV (row:=UC v1 v2) (Ae _ _ _) xp E.g4 (by simp [UC])
theorem Em.s4' {o l:Nat}:D7 jA H 25 (.ptr b4 0 1) (.own o 0 l)=some (H.set b4 (qH 4 [UC v1 (.own o 0 l)])):=JV (row:=UC v1 v2) (Ae _ _ _) xp E.g4 (by simp [UC])
theorem Em.s5 {o l:Nat}:D7 jA H 25 (.ptr b5 0 0) (.own o 0 l)=some (H.set b5 (qH 1 [[.own o 0 l]])):=JV (row:=[v3]) (Ae _ _ _) xp E.g5 BA
theorem Em.lt:b5<H.length:=AY E.g5
end
theorem Em.mk' (h:Hp)(m:Mo):Em h (h++[qH 2 [C9 m]]++[qH 4 [MK]]++[qH 1 [NL]]++[qH 4 [MK]]++[qH 1 [NL]]) m (h++[qH 2 [C9 m]]).length (h++[qH 2 [C9 m]]++[qH 4 [MK]]).length
  (h++[qH 2 [C9 m]]++[qH 4 [MK]]++[qH 1 [NL]]).length (h++[qH 2 [C9 m]]++[qH 4 [MK]]++[qH 1 [NL]]++[qH 4 [MK]]).length (.sl .nil 0 []) (.sl .nil 0 []) (.sl .nil 0 []) :=
 ⟨AU (AU (AU (AU (A8 _ _)))),AU (AU (AU (A8 _ _))),AU (AU (A8 _ _)),AU (A8 _ _),A8 _ _,BA,BA,BA,BA,((((ext.rfl' h).app _).app _).app _).app _ |>.app _⟩
theorem Ow (h:Hp):DR jA false h 25 1 [(0,.sl .nil 0 [])]=some (.sl .full 1 [NL],h):=BC
theorem ARQ (m:Mo)(i:Nat)(a:i<m.pts.length):(ko m).take (i+1)=(ko m).take i++[rh m.pts[i].bins.length]:=by
 have c:i<(ko m).length:=by unfold ko;simpa using a
 rw[jW c];simp [ko]
theorem ARR (m:Mo)(i:Nat)(a:i<m.crs.length):(lj m).take (i+1)=(lj m).take i++[rh (GN (szs m m.crs[i].pts))]:=by
 have c:i<(lj m).length:=by unfold lj;simpa using a
 rw[jW c];simp [lj]
theorem Gt (m:Mo):(ko m).length=m.pts.length:=by simp [ko]
theorem Gu (m:Mo):(lj m).length=m.crs.length:=by simp [lj]
theorem Vh {E:Env}{f:FuncId}{args:List AV}(hc:ACalls E f args h fun v H=>ext h H/\∃v1 v2 v3,v=.tup [.agg (UC v1 v2),.agg [v3]]/\bw 1 LW h (ko m) v1 H/\bw 1 LW h (lj m) v2 H/\bw 1 (fun _:Pt=>NL) h m.pts v3 H)(hX:E.nox=E:=by rfl):
  a_ E f args h (.tup [.agg (bt (sN m)),.agg (TK ⟨nm (lu m),lu m⟩)]):=by
 have hp:a_ E f args h (.tup [.agg (UC (gn 1 LW (ko m)) (gn 1 LW (lj m))),.agg [gn 1 (fun _:Pt=>NL) m.pts]]):=by
  refine ACalls.pure 4 hc ?_ hX;rintro v H ⟨he,v1,v2,v3,rfl,o1,o2,o3⟩;refine⟨he,?_⟩;have e1:=KC CT o1 h.length 0 (jF _);have e2:=KC CT o2 h.length 0 (jF _);have e3:=KC Mf o3 h.length 0 (jF _);show AV.tup [.agg [FK h.length H 2 v1,FK h.length H 2 v2,.n 0,.n 0],.agg [FK h.length H 2 v3]]=_;rw[e1,e2,e3];rfl
 refine hp.res (cz.tup (cq.cons (cz.agg (cq.cons XC (cq.cons XC (cq.refl _)))) (cq.cons (cz.agg (cq.cons ?_ cq.nil)) cq.nil)));have h1:cz (gn 1 (fun _:Pt=>NL) m.pts) (.sl (nm m.pts) 1 (m.pts.map fun _=>NL)):=XC;have h2:=cz.sl (AYI (s:=nm m.pts) m.pts);have h3:nm (lu m)=nm m.pts:=by unfold lu;cases m.pts<;>rfl
 intro g cv hr;have:=h2 g cv (h1 g cv hr);rw[h3];exact this
theorem Nv {row:List AV}{v1 v2:AV}(d:H[b]?=some (qH 4 [row]))(a:row.length=4)(c:v1.leaf=true)(h2:v2.leaf=true):D7 jA H 46 (.ptr b 0 0) (.agg (UC v1 v2))=some (H.set b (qH 4 [UC v1 v2])):=by
 rw[JV (cs:=UC v1 v2) (SC (by simp [UC,c,h2];rfl)) nu d (by rw[a];exact jF 4)];have:splice row 0 (UC v1 v2)=UC v1 v2:=by unfold splice;rw[qA,jS (by rw[a];exact jF 4)];simp
 rw[this]
theorem Nu {row:List AV}{v3:AV}(d:H[b]?=some (qH 1 [row]))(a:row.length=1)(c:v3.leaf=true):D7 jA H 94 (.ptr b 0 0) (.agg [v3])=some (H.set b (qH 1 [[v3]])):=by
 rw[JV (cs:=[v3]) (SC (by simp [c])) qh d (by rw[a];exact jF 1)];have:splice row 0 [v3]=[v3]:=by unfold splice;rw[qA,jS (by rw[a];exact jF 1)];simp
 rw[this]
theorem Vi (G:Nat->AV)(m:Mo)(hm:dt m)(hg:Good m)(h:Hp):a_ (En G) 75 [.agg (C9 m)] h (.tup [.agg (bt (sN m)),.agg (TK ⟨nm (lu m),lu m⟩)]):=by
 refine Vh ?_;have ak:=hm.np;have al:=hm.nc;have ah:=hg.num;refine II (H:=hint [24,47] []) (ji G) Tryz.func75 rfl (by kernel_rfl) (by kernel_rfl) (jB (by kernel_rfl)) ?_;show dh _ _ _ _ _ (MW _ [.cell 2 46,.cell 3 94] _);have E:=Em.mk' h m;refine DC @er vp tv ?_
 generalize h++[qH 2 [C9 m]]++[qH 4 [MK]]++[qH 1 [NL]]++[qH 4 [MK]]++[qH 1 [NL]]=H0 at E|-
 generalize (h++[qH 2 [C9 m]]++[qH 4 [MK]]++[qH 1 [NL]]++[qH 4 [MK]]).length=b5 at E|-
 generalize (h++[qH 2 [C9 m]]++[qH 4 [MK]]++[qH 1 [NL]]).length=b4 at E|-
 generalize (h++[qH 2 [C9 m]]++[qH 4 [MK]]).length=b3 at E|-
 generalize (h++[qH 2 [C9 m]]).length=b2 at E|-
 have o2:=E.o2;have o3:=E.o3;have o4:=E.o4;have o5:=E.o5;have ag:=E.lt;refine A7 @E.m0 ?_;refine EG 0 (fun F H=>∃v1 v3,F 1=.ptr h.length 0 0/\F 2=.ptr b2 0 0/\F 3=.ptr b3 0 0/\F 4=.ptr b4 0 0/\F 5=.ptr b5 0 0/\Em h H m b2 b3 b4 b5 v1 (.sl .nil 0 []) v3/\bw 1 LW H0 (ko m) v1 H/\bw 1 (fun _:Pt=>NL) H0 m.pts v3 H/\(∀b,db v1 b->¬db v3 b)/\H0.length<=H.length) (fun _ _=>False) ?_ ?_ (fun _ _ hh=>hh.elim)
 .refine BB (fun n F H=>∃i v1 v3,n+i=m.pts.length/\F 1=.ptr h.length 0 0/\F 2=.ptr b2 0 0/\F 3=.ptr b3 0 0/\F 4=.ptr b4 0 0/\F 5=.ptr b5 0 0/\F 11=.sl m.pm 6 (m.pts.map GL)/\F 12=.n m.pts.length/\F 13=.n (i:Nat)/\Em h H m b2 b3 b4 b5 v1 (.sl .nil 0 []) v3/\bw 1 LW H0 ((ko m).take i) v1 H/\bw 1 (fun _:Pt=>NL) H0 (m.pts.take i) v3 H/\(∀b,db v1 b->¬db v3 b)/\H0.length<=H.length) m.pts.length
   ⟨0,_,_,BA,AL,AL,AL,AL,AL,AL,AL,AL,E,by rw[qA];exact bw.nil _ _ _ _,by rw[qA];exact bw.nil _ _ _ _,fun b d=>d.elim,jF _⟩ ?_
  clear E;rintro n F H ⟨i,v1,v3,hi,K,O,P,A,L,f11,f12,f13,E,a,c,B,hle⟩;refine AZ f12 f13 ?_;refine DV ?_ ?_<;>intro e
  .have ai:=(hg.full _ (jH e)).2
   have hP:=ARQ m i e;simp only[vQ,jZ,jU,jV,zK,CP,↓reduceIte,jC,b_,QJ,jQ,f11,f13,CE e,DL lD cK JH e,tu,wa _ _ [.str ⟨#[]⟩,.n 0,.n 0,.str ⟨#[]⟩,.sl .nil 0 [],.sl .nil 0 []] rfl];have E1:=E.app [qH 6 [GL m.pts[i]]];obtain⟨ap,H2,S,j,a4,ac,ae,⟨o,l,rfl⟩,Z⟩:=(a.app [qH 6 [GL m.pts[i]]]).app2 kn nv kp kh U (by rw[jT,Gt];omega) NI (rh m.pts[i].bins.length);rw[<-hP] at j;have E2:=E1.keep a4 (fun b d=>by have:=a.lt d;omega) (Z h U);have E3:=E2.set4 (.own o 0 l) (.sl .nil 0 []);have g:=((c.app [qH 6 [GL m.pts[i]]]).keepA a4 (fun b d h1=>B b h1 d)).setB (b:=b4) U (qH 4 [UC (.own o 0 l) (.sl .nil 0 [])]);have C:=j.setB (b:=b4) U (qH 4 [UC (.own o 0 l) (.sl .nil 0 [])])
   have T:∀b,db (.own o 0 l) b->¬db v3 b:=fun b d h3=>by
    have h1:=ae b d;have h2:=c.lt h3;simp at h1;omega
   refine DI BC ?_;simp only[vQ,jZ,jU,jV,zK,JK,ZP,V7,↓reduceIte,jC,jO,Nat.add_zero,b_,YW,aF,JW,A,E1.l4,EN PS,OQ,List.length_map,Ke _ _ (U:m.pts[i].bins.length<=1048576),Cq];refine KG (v:=.own o 0 l) (h:=H2) S ?_;refine EH @Jg A L @E2.s4 ?_;have ad:(H2.set b4 (qH 4 [UC (.own o 0 l) (.sl .nil 0 [])])).length=H.length+2:=by simp_all
   generalize H2.set b4 (qH 4 [UC (.own o 0 l) (.sl .nil 0 [])])=H3 at E3 g C ad|-
   obtain⟨ar,H4,a2,I,a5,aj,am,⟨J,l3,rfl⟩,af⟩:=g.app2 kn nv kp kh U (by rw[jT];omega) U m.pts[i];rw[<-jW e] at I;have E4:=E3.keep a5 (fun b d=>by have:=g.lt d;omega) (af h U);have E5:=E4.set5 (.own J 0 l3);have a7:=(C.keepA a5 T).setB (b:=b5) U (qH 1 [[.own J 0 l3]]);have a8:=I.setB (b:=b5) U (qH 1 [[.own J 0 l3]]);refine LM @E3.l5 @Ow ?_;refine KG (v:=.own J 0 l3) (h:=H4) a2 ?_;refine G7 @Jg L @E4.s5 f13 (CZ i) ?_;refine⟨n-1,U,i+1,.own o 0 l,.own J 0 l3,U,K,O,P,A,trivial,f11,f12,rfl,E5,a7,a8,fun b d h3=>?_,?_⟩
   .grind
   .rw[List.length_set];omega
  .rw[jK (by rw[Gt];omega)] at a
   rw[jK U] at c;refine AB ?_;exact⟨v1,v3,K,O,P,A,L,E,a,c,B,hle⟩
 .rintro F H ⟨v1,v3,K,O,P,A,L,E,a,c,B,hle⟩
  refine AZ K @E.m1 ?_;refine EG 2 (fun F H=>∃v2,F 2=.ptr b2 0 0/\F 3=.ptr b3 0 0/\F 4=.ptr b4 0 0/\F 5=.ptr b5 0 0/\Em h H m b2 b3 b4 b5 v1 v2 v3/\bw 1 LW H0 (ko m) v1 H/\bw 1 LW H0 (lj m) v2 H/\bw 1 (fun _:Pt=>NL) H0 m.pts v3 H) (fun _ _=>False) ?_ ?_ (fun _ _ hh=>hh.elim)
  .refine BB (fun n F H=>∃i v2,n+i=m.crs.length/\F 1=.ptr h.length 0 0/\F 2=.ptr b2 0 0/\F 3=.ptr b3 0 0/\F 4=.ptr b4 0 0/\F 5=.ptr b5 0 0/\F 33=.sl m.cm 3 (m.crs.map IM)/\F 34=.n m.crs.length/\F 35=.n (i:Nat)/\Em h H m b2 b3 b4 b5 v1 v2 v3/\bw 1 LW H0 (ko m) v1 H/\bw 1 LW H0 ((lj m).take i) v2 H/\bw 1 (fun _:Pt=>NL) H0 m.pts v3 H/\(∀b,db v2 b->¬db v1 b/\¬db v3 b)/\H0.length<=H.length) m.crs.length
    ⟨0,_,BA,DY K,DY O,DY P,DY A,DY L,AL,AL,AL,E,a,by rw[qA];exact bw.nil _ _ _ _,c,fun b d=>d.elim,hle⟩ ?_
   clear K O P A L E a c hle;rintro n F H ⟨i,v2,hi,K,O,P,A,L,a0,a1,R,E,a,N,c,a3,hle⟩;refine AZ a1 R ?_;refine DV ?_ ?_<;>intro e
   .have M:=hg.crs _ (jH e)
    have ab:=hg.full.szs M.here;have ao:=KT m m.crs[i].pts;have aa:=M.four;have an:=M.prod;have hC:=ARR m i e;have E1:=E.app [qH 3 [IM m.crs[i]]];have a9:=A8 H (qH 3 [IM m.crs[i]]);obtain⟨aq,H2,S,Q,V,ac,a6,⟨o,l,rfl⟩,Z⟩:=(N.app [qH 3 [IM m.crs[i]]]).app2 kn nv kp kh U (by rw[jT,Gu];omega) NI (rh (GN (szs m m.crs[i].pts)));rw[<-hC] at Q;have E2:=E1.keep V (fun b d=>by have:=N.lt d;omega) (Z h U);have E3:=E2.set4 v1 (.own o 0 l);have j:=((a.app [qH 3 [IM m.crs[i]]]).keepA V (fun b d h2=>(a3 b h2).1 d)).setB (b:=b4) U (qH 4 [UC v1 (.own o 0 l)]);have g:=((c.app [qH 3 [IM m.crs[i]]]).keepA V (fun b d h2=>(a3 b h2).2 d)).setB (b:=b4) U (qH 4 [UC v1 (.own o 0 l)]);have X:=Q.setB (b:=b4) U (qH 4 [UC v1 (.own o 0 l)]);simp only[vQ,jZ,jU,jV,zK,CP,↓reduceIte,jC,b_,UG,jQ,a0,R,CE e,DL vF mN NF e,ua,v_ _ _ [.str ⟨#[]⟩,.sl .nil 0 [],.sl .nil 0 []] rfl];refine DI BC ?_;refine LP @ZP K A @E1.l4' (dk E1.gm) (ow a9) ?_;refine⟨_,dP G m _ _ M.here U,?_⟩
    try refine AB ?_
    refine⟨_,YL G _ _ _ (fun n hn=>(ab n hn).2) U,?_⟩
    try simp only[vQ,jZ,jU,jV,zK,Bool.or_true,JK,↓reduceIte,jC,jO,b_,Ke _ _ (U:GN (szs m m.crs[i].pts)<=1048576),Cq]
    refine KG (v:=.own o 0 l) (h:=H2) S ?_;simp only[vQ,jZ,jU,jV,zK,O8,PU,CP,↓reduceIte,jC,jO,b_,YV,jQ,A,E2.s4',R,CZ i];refine⟨n-1,by omega,i+1,.own o 0 l,by omega,K,O,P,trivial,L,a0,a1,rfl,E3,j,X,g,fun b d=>⟨fun h1=>?_,fun h3=>?_⟩,?_⟩
    .have h0:=a6 b d
     have h2:=a.lt h1;rw[jX] at h0;simp at h0;omega
    .have h0:=a6 b d
     have h2:=c.lt h3;rw[jX] at h0;simp at h0;omega
    .grind
   .rw[jK (by rw[Gu];omega)] at N
    refine AB ?_;exact⟨v2,O,P,A,L,E,a,N,c⟩
  .rintro F' H' ⟨v2,g2,g3,g4,g5,p,q1,q2,q3⟩
   refine AB ?_;have p2:=p.o2;have p3:=p.o3;have p4:=p.o4;have p5:=p.o5;refine yX [(5,2)] BC ?_ ?_
   .refine LP g2 g5 @Dv @FG @DA @and_true ?_
    omega
   simp only[vQ,jZ,jU,jV,zK,O8,PU,↓reduceIte,jC,jO,b_,jQ,g2,g3,g4,g5,y3 p.g4 rfl,y0 p.g5 rfl,Nv p.g2 rfl q1.leaf q2.leaf,Nu (DU p.g3 (U:b3≠b2)) rfl q3.leaf];rw[Mm (ba:=b2) (bb:=b3) (DY g2) (DY g3) (y3 (DU (CO p.g2) (U:b2≠b3)) rfl) (y0 (CO (DU p.g3 (U:b3≠b2))) rfl)];have Y:∀ {α:Type} {f:α->List AV} {ys:List α} {v:AV},bw 1 f H0 ys v H'->bw 1 f h ys v ((H'.set b2 (qH 4 [UC v1 v2])).set b3 (qH 1 [[v3]])):=fun q=>((q.setB (b:=b2) U _).setB (b:=b3) U _).base U
   exact⟨(p.hx.set U _).set U _,v1,v2,v3,rfl,Y q1,Y q2,Y q3⟩
theorem RN {E:Env}{f:FuncId}{args:List AV}{r:AV}(d:Nat)(hr:∀n H,FK n H d r=r)(hc:ACalls E f args h fun v H=>v=r/\ext h H)(hX:E.nox=E:=by rfl):a_ E f args h r :=
 ACalls.pure d hc (fun v H ⟨e,he⟩=>⟨he,by rw[e];exact hr _ _⟩) hX
def th (m:Mo):eu:=if F6 m=0 then sN m else zV
def w_ (m:Mo):Tk:=if F6 m=0 then ⟨nm (lu m),lu m⟩ else zT
structure Ee (h H:Hp) (m:Mo) (b2 b3:Nat):Prop where
 gm:H[h.length]?=some (qH 2 [C9 m])
 g2:H[b2]?=some (qH 4 [MK])
 g3:H[b3]?=some (qH 1 [NL])
 o2:h.length<b2
 o3:b2<b3
 hx:ext h H
theorem Ee.mk' (h:Hp)(m:Mo):Ee h (h++[qH 2 [C9 m]]++[qH 4 [MK]]++[qH 1 [NL]]) m (h++[qH 2 [C9 m]]).length (h++[qH 2 [C9 m]]++[qH 4 [MK]]).length :=
 ⟨AU (AU (A8 _ _)),AU (A8 _ _),A8 _ _,BA,BA,(((ext.rfl' h).app _).app _).app _⟩
theorem Ee.lt {b2 b3:Nat}(E:Ee h H m b2 b3):b3<H.length:=AY E.g3
theorem Ee.m0 {b2 b3:Nat}(E:Ee h H m b2 b3):BR jA H 28 (.ptr h.length 0 0)=some (.sl m.pm 6 (m.pts.map GL)):=by rw[BJ lE E.gm (row:=C9 m) rfl,XT]
theorem Q0 (a:Hp)(c:eu)(t:Tk):
  D7 jA (a++[qH 4 [MK]]++[qH 1 [NL]]) 46 (.ptr a.length 0 0) (.agg (bt c))=some ((a++[qH 4 [MK]]++[qH 1 [NL]]).set a.length (qH 4 [bt c])) /\
  D7 jA ((a++[qH 4 [MK]]++[qH 1 [NL]]).set a.length (qH 4 [bt c])) 94 (.ptr (a++[qH 4 [MK]]).length 0 0) (.agg (TK t))=some (((a++[qH 4 [MK]]++[qH 1 [NL]]).set a.length (qH 4 [bt c])).set (a++[qH 4 [MK]]).length (qH 1 [TK t])) /\
  (((a++[qH 4 [MK]]++[qH 1 [NL]]).set a.length (qH 4 [bt c])).set (a++[qH 4 [MK]]).length (qH 1 [TK t]))[a.length]?=some (qH 4 [bt c]) /\
  (((a++[qH 4 [MK]]++[qH 1 [NL]]).set a.length (qH 4 [bt c])).set (a++[qH 4 [MK]]).length (qH 1 [TK t]))[(a++[qH 4 [MK]]).length]?=some (qH 1 [TK t]) /\
  ext a (((a++[qH 4 [MK]]++[qH 1 [NL]]).set a.length (qH 4 [bt c])).set (a++[qH 4 [MK]]).length (qH 1 [TK t])) :=
 ⟨Ki (AU (A8 _ _)) rfl,stT (DU (A8 _ _) BA) rfl,DU (CO (AU (A8 _ _))) BA,CO (DU (A8 _ _) BA),((((ext.rfl' a).app _).app _).set (jF _) _).set BA _⟩
theorem DZ {x:bO}(c:ext h H)(a:h[b]?=some x):H[b]?=some x:=by
 obtain⟨y,rfl⟩:=c;exact JM a
theorem Mk (e:Int):cz (.tup [.agg MK,.agg NL,.n e]) (.tup [.agg (bt zV),.agg (TK zT),.n e]):=cz.tup (cq.cons Nd (cq.cons Nf (cq.refl _)))
theorem Xd (G:Nat->AV)(l:fm G)(m:Mo)(i:dt m)(h:Hp):a_ (En G) 39 [.agg (C9 m)] h (.tup [.agg (bt (th m)),.agg (TK (w_ m)),.n (F6 m)]):=by
 by_cases h0:F6 m=0
 .have f:(F6 m==0)=true:=BQ h0
  unfold th w_;rw[if_pos h0,if_pos h0];have A:=TY h0;refine RN 3 (fun n H=>rfl) ?_;refine e7 Tryz.func39 [.cell 2 46,.cell 3 94,.tmp 4] ?_;have E:=Ee.mk' h m;refine DC @er vp tv ?_
  generalize h++[qH 2 [C9 m]]++[qH 4 [MK]]++[qH 1 [NL]]=H0 at E|-
  generalize (h++[qH 2 [C9 m]]++[qH 4 [MK]]).length=b3 at E|-
  generalize (h++[qH 2 [C9 m]]).length=b2 at E|-
  have B:=E.o2;have C:=E.o3;have g:=E.lt;refine A7 (dk E.gm) ?_;refine(TE G l m i _).use ?_;simp only[vQ,CP,List.map_cons,List.map_nil,List.append_nil,↓reduceIte,jC,Bool.not_true,b_,bne,f,dk E.gm];refine(Vi G m i A _).use ?_;obtain⟨F,I,j,e,a⟩:=Q0 H0 (sN m) ⟨nm (lu m),lu m⟩;have c:=DZ a E.g2;have d:=DZ a E.g3;have p:=E.hx.trans a;have q:b2<(H0++[qH 4 [MK]]).length:=by simp;omega
  refine EH vp tv F I ?_
  generalize ((H0++[qH 4 [MK]]++[qH 1 [NL]]).set H0.length (qH 4 [bt (sN m)])).set (H0++[qH 4 [MK]]).length (qH 1 [TK ⟨nm (lu m),lu m⟩])=H5 at j e c d p|-
  generalize (H0++[qH 4 [MK]]).length=b7 at e q|-
  refine yX [(7,2)] BC ?_ ?_
  .refine EH @Dv @FG @DA @and_true ?_
   omega
  simp only[vQ,O8,JX,PU,↓reduceIte,jC,jO,b_,jQ,jo j,Ka e,Ki c rfl,stT (DU d (U:b3≠b2)) rfl];rw[HQ (ba:=b2) (bb:=b3) AL AL (jo (DU (CO c) (U:b2≠b3))) (Ka (CO (DU d (U:b3≠b2))))];exact⟨DY h0,(p.set U _).set U _⟩
 .have f:(F6 m==0)=false:=BQ h0
  unfold th w_;rw[if_neg h0,if_neg h0];refine a_.res ?_ (Mk _);refine RN 3 (fun n H=>rfl) ?_;refine e7 Tryz.func39 [.cell 2 46,.cell 3 94,.tmp 4] ?_;have E:=Ee.mk' h m;refine DC @er vp tv ?_
  generalize h++[qH 2 [C9 m]]++[qH 4 [MK]]++[qH 1 [NL]]=H0 at E|-
  generalize (h++[qH 2 [C9 m]]++[qH 4 [MK]]).length=b3 at E|-
  generalize (h++[qH 2 [C9 m]]).length=b2 at E|-
  have B:=E.o2;have C:=E.o3;have g:=E.lt;refine A7 (dk E.gm) ?_;refine(TE G l m i _).use ?_;simp only[vQ,CP,OA,↓reduceIte,jC,b_,jQ,bne,f,PF,PC,o6 E.g2 rfl,Ns (DU E.g3 (U:b3≠b2)) rfl];rw[HQ (ba:=b2) (bb:=b3) AL AL (y3 (DU (CO E.g2) (U:b2≠b3)) rfl) (y0 (CO (DU E.g3 (U:b3≠b2))) rfl)];exact⟨AL,(E.hx.set U _).set U _⟩
end Cov
namespace Bins
open Sm
instance:Inhabited Rs:=⟨⟨.nil,[]⟩⟩
def setAt (b:Bin)(i:Nat):List cp:=((sets b)[i]?.getD default).l
def Nm (a:List Int)(n:Nat)(v:Int)(i:Nat):Int:=if i+1<n then a[a.length+1-n+i]?.getD 0 else v
def BAA (b:Bin)(a:List Int)(v:Int)(k:Nat):Bool:=(List.range k).all fun i=>inside (setAt b i) (Nm a (sets b).length v i)
def hit (b:Bin)(a:List Int)(v:Int):Bool:=decide (I5 b=0)&&decide ((sets b).length<=a.length+1)&&BAA b a v (sets b).length
end Bins
namespace Wd
open Sm Bins Cov Go.RowKit
variable {a:Nat} {n:Int} (G:Nat->AV )
def wW (z:Int):Nat:=(z%65536).toNat
theorem u7 (z:Int):wW z<65536:=by unfold wW;omega
theorem WV (h:a<65536):wW (a:Int)=a:=by unfold wW;omega
theorem AW9 (z:Int):((wW z:Nat):Int)=z%65536:=by unfold wW;omega
def NG (a i:Nat):Nat:=a/2^i%2
def LX (a:Nat):Nat->Nat
 | 0=>0
 | k+1=>LX a k+NG a k
def Z9 (a:Nat):Nat:=LX a 16
def iO (a:Nat)(n:Int):Nat:=if n<0\/n≥16 then 0 else a*2^n.toNat%65536
def dR (a:Nat)(n:Int):Nat:=if n<0\/n≥16 then 0 else a/2^n.toNat
theorem oB (a i:Nat):NG a i<2:=wI _ U
theorem TD (a:Nat):∀k,LX a k<=k
 | 0=>jF 0
 | k+1=>by have:=TD a k;have:=oB a k;unfold LX;omega
theorem WQ (a i:Nat)(c:i<8):NG (a%256) i=NG a i:=by
 unfold NG;have:i=0\/i=1\/i=2\/i=3\/i=4\/i=5\/i=6\/i=7:=U;rcases this with rfl|rfl|rfl|rfl|rfl|rfl|rfl|rfl<;>simp only[Nat.reducePow]<;>omega
theorem AVZ (a i:Nat):NG (a/256) i=NG a (8+i):=by
 unfold NG;rw[Nat.div_div_eq_div_mul,Nat.pow_add]
theorem AS5 (a:Nat):Z9 a=LX (a/256) 8+LX (a%256) 8:=by
 unfold Z9;simp only[LX,AVZ,WQ a 0 U,WQ a 1 U,WQ a 2 U,WQ a 3 U,WQ a 4 U,WQ a 5 U,WQ a 6 U,WQ a 7 U,Nat.reduceAdd,jR];omega
theorem As (c:0<=n)(d:n<65536):IntKind.u16.wrap n=n:=by
 have e:IntKind.u16.wrap n=n%65536:=by simp [IntKind.wrap,IntKind.bits,IntKind.signed]
 rw[e];omega
theorem XH (n:Int):IntKind.u16.wrap n=n%65536:=by simp [IntKind.wrap,IntKind.bits,IntKind.signed]
theorem La (z:Int):IZ jA 3 .and (.n z) (.n 65535)=some (.n ((wW z:Nat):Int)):=by
 have e:IZ jA 3 .and (.n z) (.n 65535)=some (.n (IntKind.i64.wrap ((BitVec.ofInt 64 z &&& BitVec.ofInt 64 65535).toNat:Int))):=rfl;rw[e,BitVec.toNat_and];have c:(BitVec.ofInt 64 65535).toNat=2^16-1:=by decide
 rw[c,Nat.and_two_pow_sub_one_eq_mod,BitVec.toNat_ofInt]
 have d:((z%((2^64:Nat):Int)).toNat%2^16)=wW z:=by
  unfold wW;simp only[Nat.reducePow];omega
 rw[d,ND (by have:=u7 z;omega)]
theorem qs (a:Nat)(h:a<65536):(BitVec.ofInt 64 (a:Int)).toNat=a:=by grind
theorem P4 (a b:Nat)(c:a<65536)(d:b<65536):IZ jA 3 .and (.n (a:Nat)) (.n (b:Nat))=some (.n ((a &&& b:Nat):Int)):=by
 have e:IZ jA 3 .and (.n (a:Nat)) (.n (b:Nat))=some (.n (IntKind.i64.wrap ((BitVec.ofInt 64 (a:Int) &&& BitVec.ofInt 64 (b:Int)).toNat:Int))):=rfl;have f:a &&& b<2^16:=Nat.and_lt_two_pow _ U;rw[e,BitVec.toNat_and,qs a c,qs b d,ND U]
theorem Qu (a b:Nat)(c:a<65536)(d:b<65536):IZ jA 3 .or (.n (a:Nat)) (.n (b:Nat))=some (.n ((a ||| b:Nat):Int)):=by
 have e:IZ jA 3 .or (.n (a:Nat)) (.n (b:Nat))=some (.n (IntKind.i64.wrap ((BitVec.ofInt 64 (a:Int) ||| BitVec.ofInt 64 (b:Int)).toNat:Int))):=rfl
 have f:a ||| b<2^16:=Nat.or_lt_two_pow U U
 rw[e,BitVec.toNat_or,qs a c,qs b d,ND U]
theorem Ni (a b:Nat)(c:a<65536)(d:b<65536):IZ jA 3 .xor (.n (a:Nat)) (.n (b:Nat))=some (.n ((a ^^^ b:Nat):Int)):=by
 have e:IZ jA 3 .xor (.n (a:Nat)) (.n (b:Nat))=some (.n (IntKind.i64.wrap ((BitVec.ofInt 64 (a:Int) ^^^ BitVec.ofInt 64 (b:Int)).toNat:Int))):=rfl;have f:a ^^^ b<2^16:=Nat.xor_lt_two_pow U U;rw[e,BitVec.toNat_xor,qs a c,qs b d,ND U]
theorem kS (E:Env)(d:FuncId)(a:AV)(l args c:List AV)(h:Hp)(K:AV->Hp->Prop):sa E (.fn (.func d) (a::l) c) args h K=ACalls E d ((a::l)++(args++c)) h K:=rfl
theorem TU (z:Int)(h:Hp):a_ (En G) 340 [.n z] h (.int .u16 ((wW z:Nat):Int)):=by
 have:=u7 z;refine cn Tryz.func340 2 ?_;refine DC @AZY @La (As (n:=((wW z:Nat):Int)) U U) ?_;exact H7
theorem YH (a:Nat)(c:a<65536)(h:Hp):a_ (En G) 341 [.int .u16 (a:Nat)] h (.n (a:Nat)):=by
 refine cn Tryz.func341 2 ?_;refine AZ @AZZ (ND (n:=a) U) ?_;exact H7
theorem Xr (z:Int)(h:Hp):a_ (En G) 316 [.n z] h (.n ((wW z:Nat):Int)):=by
 refine cn Tryz.func316 2 ?_;refine AB ?_;refine(TU G z h).uu ?_;refine(YH G _ (u7 z) h).uu ?_;exact H7
theorem oN (k:FuncId)(a b r:Nat)(d:b<65536)(f:r<65536)(h:Hp)(e:a_ (En G) k [.int .u16 (a:Nat),.int .u16 (b:Nat)] h (.int .u16 (r:Nat))):
  a_ (En G) 342 [.fn (.func k) [.int .u16 (a:Nat)] [],.n (b:Nat)] h (.n (r:Nat)):=by
 have c:=TU G (b:Nat) h;rw[WV d] at c;refine cn Tryz.func342 4 ?_;refine AB ?_;refine c.use ?_;refine A7 @kS ?_;refine e.uu ?_;refine(YH G r f h).uu ?_;exact H7
theorem D' (k:FuncId)(a r:Nat)(d:r<65536)(h:Hp)(c:a_ (En G) k [.int .u16 (a:Nat)] h (.int .u16 (r:Nat))):
  a_ (En G) 383 [.fn (.func k) [.int .u16 (a:Nat)] []] h (.n (r:Nat)):=by
 refine cn Tryz.func383 2 ?_;refine A7 @kS ?_;refine c.uu ?_;refine(YH G r d h).uu ?_;exact H7
theorem CD (a b:Nat)(d:a<65536)(f:b<65536)(h:Hp):a_ (En G) 317 [.n (a:Nat),.n (b:Nat)] h (.n (((a+b)%65536:Nat):Int)):=by
 have g:a_ (En G) 343 [.int .u16 (a:Nat),.int .u16 (b:Nat)] h (.int .u16 (((a+b)%65536:Nat):Int)):=by
  have e:IntKind.u16.wrap ((a:Int)+(b:Int))=(((a+b)%65536:Nat):Int):=by rw[XH];omega
  refine cn Tryz.func343 4 ?_;refine A7 e ?_;exact H7
 have c:=TU G (a:Nat) h;rw[WV d] at c;refine cn Tryz.func317 4 ?_;refine AB ?_;refine c.uu ?_;refine(oN G 343 a b _ f (wI _ U) h g).uu ?_;exact H7
theorem Nq (a b:Nat)(d:a<65536)(f:b<65536)(h:Hp):a_ (En G) 348 [.n (a:Nat),.n (b:Nat)] h (.n (((a+65536-b)%65536:Nat):Int)):=by
 have g:a_ (En G) 387 [.int .u16 (a:Nat),.int .u16 (b:Nat)] h (.int .u16 (((a+65536-b)%65536:Nat):Int)):=by
  have e:IntKind.u16.wrap ((a:Int)-(b:Int))=(((a+65536-b)%65536:Nat):Int):=by rw[XH];omega
  refine cn Tryz.func387 4 ?_;refine A7 e ?_;exact H7
 have c:=TU G (a:Nat) h;rw[WV d] at c;refine cn Tryz.func348 4 ?_;refine AB ?_;refine c.uu ?_;refine(oN G 387 a b _ f (wI _ U) h g).uu ?_;exact H7
theorem Ob (a b:Nat)(d:a<65536)(f:b<65536)(h:Hp):a_ (En G) 349 [.n (a:Nat),.n (b:Nat)] h (.n ((a*b%65536:Nat):Int)):=by
 have g:a_ (En G) 388 [.int .u16 (a:Nat),.int .u16 (b:Nat)] h (.int .u16 ((a*b%65536:Nat):Int)):=by
  have e:IntKind.u16.wrap ((a:Int)*(b:Int))=((a*b%65536:Nat):Int):=by rw[XH];rw[<-wU];rfl
  refine cn Tryz.func388 4 ?_;refine A7 e ?_;exact H7
 have c:=TU G (a:Nat) h;rw[WV d] at c;refine cn Tryz.func349 4 ?_;refine AB ?_;refine c.uu ?_;refine(oN G 388 a b _ f (wI _ U) h g).uu ?_;exact H7
theorem Oo (a:Nat)(g:a<65536)(h:Hp):a_ (En G) 345 [.n (a:Nat)] h (.n ((65535-a:Nat):Int)):=by
 have j:oi .xor (.int .u16 (a:Nat))=some (.int .u16 ((65535-a:Nat):Int)):=by
  have e:oi .xor (.int .u16 (a:Nat))=some (.int .u16 (IntKind.u16.wrap ((BitVec.ofInt 16 65535 ^^^ BitVec.ofInt 16 (a:Int)).toNat:Int))):=rfl;have d:BitVec.ofInt 16 65535=BitVec.allOnes 16:=by decide
  have f:(BitVec.ofInt 16 (a:Int)).toNat=a:=by simp_all
  rw[e,d,BitVec.allOnes_xor,BitVec.toNat_not,f,As U (by simp only[Nat.reducePow];omega)]
 have i:a_ (En G) 384 [.int .u16 (a:Nat)] h (.int .u16 ((65535-a:Nat):Int)):=by
  refine cn Tryz.func384 2 ?_;refine A7 j ?_;exact H7
 have c:=TU G (a:Nat) h;rw[WV g] at c;refine cn Tryz.func345 2 ?_;refine AB ?_;refine c.uu ?_;refine(D' G 384 a _ U h i).uu ?_;exact H7
theorem Na (a:Nat)(d:a<65536)(h:Hp):a_ (En G) 346 [.n (a:Nat)] h (.n (((65536-a)%65536:Nat):Int)):=by
 have f:a_ (En G) 385 [.int .u16 (a:Nat)] h (.int .u16 (((65536-a)%65536:Nat):Int)):=by
  have e:IntKind.u16.wrap (0-(a:Int))=(((65536-a)%65536:Nat):Int):=by rw[XH];omega
  refine cn Tryz.func385 2 ?_;refine AZ @zp e ?_;exact H7
 have c:=TU G (a:Nat) h;rw[WV d] at c;refine cn Tryz.func346 2 ?_;refine AB ?_;refine c.uu ?_;refine(D' G 385 a _ (wI _ U) h f).uu ?_;exact H7
theorem oT (k:FuncId)(a r:Nat)(n:Int)(j:r<65536)(h:Hp)(i:¬(n<0\/n≥16)->a_ (En G) k [.int .u16 (a:Nat),.n n] h (.int .u16 (r:Nat)))(f:n<0\/n≥16->r=0):
  a_ (En G) 389 [.fn (.func k) [.int .u16 (a:Nat)] [],.n n] h (.n (r:Nat)):=by
 refine cn Tryz.func389 4 ?_;refine AB ?_;cases g:decide (n<0)
 .have c:¬n<0:=BQ g
  cases e:decide (n≥16)
  .have d:¬n≥16:=BQ e
   refine AZ e @kS ?_;refine(i U).uu ?_;refine(YH G r j h).uu ?_;exact H7
  .have d:n≥16:=BQ e
   refine A7 e ?_;exact⟨by rw[f (.inr d)];rfl,trivial⟩
 .have c:n<0:=BQ g
  refine AB ?_;exact⟨by rw[f (.inl c)];rfl,trivial⟩
theorem Gg:iO a n<65536:=by
 unfold iO;split
 .omega
 .exact wI _ U
theorem GJ (c:a<65536):dR a n<65536:=by
 unfold dR;split
 .omega
 .exact Nat.lt_of_le_of_lt (Nat.div_le_self _ _) c
theorem ku (a:Nat)(n:Int)(f:a<65536)(h:Hp):a_ (En G) 350 [.n (a:Nat),.n n] h (.n (iO a n:Nat)):=by
 have i:¬(n<0\/n≥16)->a_ (En G) 390 [.int .u16 (a:Nat),.n n] h (.int .u16 (iO a n:Nat)):=fun l=>by
  have g:IZ jA 348 .shl (.int .u16 (a:Nat)) (.n n)=some (.int .u16 (iO a n:Nat)):=by
   have e:IZ jA 348 .shl (.int .u16 (a:Nat)) (.n n)=if n<0 then none else some (.int .u16 (IntKind.u16.wrap ((a:Int)*2^(min n.toNat 16)))):=rfl
   have d:min n.toNat 16=n.toNat:=U;rw[e,if_neg U,d,XH];unfold iO;rw[if_neg l,Int.natCast_emod,wU,Int.natCast_pow];rfl
  refine cn Tryz.func390 4 ?_;refine A7 g ?_;exact H7
 have c:=TU G (a:Nat) h;rw[WV f] at c;refine cn Tryz.func350 4 ?_;refine AB ?_;refine c.uu ?_;refine(oT G 390 a _ n Gg h i (fun j=>by unfold iO;rw[if_pos j])).uu ?_;exact H7
theorem MD (a:Nat)(n:Int)(c:a<65536)(h:Hp):a_ (En G) 351 [.n (a:Nat),.n n] h (.n (dR a n:Nat)):=by
 have i:¬(n<0\/n≥16)->a_ (En G) 391 [.int .u16 (a:Nat),.n n] h (.int .u16 (dR a n:Nat)):=fun l=>by
  have g:IZ jA 348 .shr (.int .u16 (a:Nat)) (.n n)=some (.int .u16 (dR a n:Nat)):=by
   have e:IZ jA 348 .shr (.int .u16 (a:Nat)) (.n n)=if n<0 then none else some (.int .u16 ((a:Int).fdiv (2^(min n.toNat 16)))):=rfl
   have f:min n.toNat 16=n.toNat:=U;rw[e,if_neg U,f];unfold dR;rw[if_neg l,Int.fdiv_eq_ediv_of_nonneg _ (by exact Int.le_of_lt (Int.pow_pos DX)),Int.natCast_ediv,Int.natCast_pow];rfl
  refine cn Tryz.func391 4 ?_;refine A7 g ?_;exact H7
 have d:=TU G (a:Nat) h;rw[WV c] at d;refine cn Tryz.func351 4 ?_;refine AB ?_;refine d.uu ?_;refine(oT G 391 a _ n (GJ c) h i (fun j=>by unfold dR;rw[if_pos j])).uu ?_;exact H7
def u9 (fn:Func):ByteArray:=match fn.body with
 | some (.seq _ (.seq (.region _ ops _) _))=>match ops[2]? with
   | some o=>match o.op with
     | .index _ (.const (.string s)) _=>s
     | _=>⟨#[]⟩
   | none=>⟨#[]⟩
 | _=>⟨#[]⟩
theorem AXE:(List.range 256).all (fun y=>(u9 Tryz.f386)[y]? == some (UInt8.ofNat (LX y 8)))=true:=BC
theorem Ib {y:Nat}(g:y<256)(h:Hp):f_ h (QY jA 9 (.str (u9 Tryz.f386)) (.int .u16 (y:Nat)))=some (.int .u8 (LX y 8:Nat),h):=by
 have c:=List.all_eq_true.1 AXE y (BQ g);have d:(u9 Tryz.f386)[y]?=some (UInt8.ofNat (LX y 8)):=BQ c;have hle:=TD y 8;have f:Tryz.prog.underlying 9=some .string:=BC
 have e:QY jA 9 (.str (u9 Tryz.f386)) (.int .u16 (y:Nat))=some (.int .u8 (LX y 8:Nat)):=by
  unfold QY;simp only[f,qI,d];rw[if_pos U];simp;omega
 rw[e];rfl
theorem Yw (a:Nat)(q:a<65536)(h:Hp):a_ (En G) 347 [.n (a:Nat)] h (.n (Z9 a:Nat)):=by
 have i:IZ jA 347 .shr (.int .u16 (a:Nat)) (.int .u64 8)=some (.int .u16 ((a/256:Nat):Int)):=by
  have e:IZ jA 347 .shr (.int .u16 (a:Nat)) (.int .u64 8)=some (.int .u16 ((a:Int).fdiv (2^8))):=rfl;rw[e,Int.fdiv_eq_ediv_of_nonneg _ DX];rfl
 have f:IZ jA 347 .and (.int .u16 (a:Nat)) (.int .u16 255)=some (.int .u16 ((a%256:Nat):Int)):=by
  have e:IZ jA 347 .and (.int .u16 (a:Nat)) (.int .u16 255)=some (.int .u16 (IntKind.u16.wrap ((BitVec.ofInt 16 (a:Int) &&& BitVec.ofInt 16 255).toNat:Int))):=rfl;have l:(BitVec.ofInt 16 255).toNat=2^8-1:=by decide
  have p:(BitVec.ofInt 16 (a:Int)).toNat=a:=by simp_all
  rw[e,BitVec.toNat_and,l,Nat.and_two_pow_sub_one_eq_mod,p,As U (by simp only[Nat.reducePow];omega)]
 have C:=TD (a/256) 8;have E:=TD (a%256) 8
 have c:IZ jA 5 .add (.int .u8 (LX (a/256) 8:Nat)) (.int .u8 (LX (a%256) 8:Nat))=some (.int .u8 (Z9 a:Nat)):=by
  have e:IZ jA 5 .add (.int .u8 (LX (a/256) 8:Nat)) (.int .u8 (LX (a%256) 8:Nat))=some (.int .u8 (IntKind.u8.wrap ((LX (a/256) 8:Int)+(LX (a%256) 8:Int)))):=rfl;have j:∀n:Int,IntKind.u8.wrap n=n%256:=fun n=>by simp [IntKind.wrap,IntKind.bits,IntKind.signed]
  have B:=AS5 a;rw[e,j];congr 2;omega
 have d:IntKind.i64.wrap ((Z9 a:Nat):Int)=((Z9 a:Nat):Int):=ND (by have:=TD a 16;unfold Z9;omega)
 have A:a_ (En G) 386 [.int .u16 (a:Nat)] h (.n (Z9 a:Nat)):=by
  refine cn Tryz.func386 2 ?_;refine AB ?_;refine DI BC ?_;refine DC @yl i f ?_;refine KG (v:=.int .u8 (LX (a/256) 8:Nat)) (h:=h) (Ib U h) ?_;refine DC @yl i f ?_;refine KG (v:=.int .u8 (LX (a%256) 8:Nat)) (h:=h) (Ib U h) ?_;refine EH @Ih @AE @c d ?_;exact H7
 have g:=TU G (a:Nat) h;rw[WV q] at g;refine cn Tryz.func347 2 ?_;refine AB ?_;refine g.uu ?_;refine A.uu ?_;exact H7
theorem VL (z:Int)(h:Hp)(q : -9223372036854775808<=z/\z<=9223372036854775807):a_ (En G) 370 [.n z] h (.n (wW z:Nat)):=by
 have l:IZ jA 3 .rem (.n z) (.n 65536)=some (.n (z.tmod 65536)):=cH _ _ _ _ _ DX
 have d:z.tmod 65536=if z<0 then -((-z)%65536) else z%65536:=by
  split
  .have j:z = -(-z):=U
   conv=>lhs;rw[j]
   rw[Int.neg_tmod,Int.tmod_eq_emod_of_nonneg U]
  .rw[Int.tmod_eq_emod_of_nonneg U]
 have g:=AW9 z;refine cn Tryz.func370 2 ?_;refine A7 l ?_
 generalize z.tmod 65536=t at d|-
 have p : -65536<t/\t<65536:=by
  rw[d];split<;>omega
 cases c:decide (t<0)
 .have f:¬t<0:=BQ c
  have e:t=((wW z:Nat):Int):=by
   rw[g];split at d<;>omega
  refine A7 c ?_;exact⟨by rw[e],trivial⟩
 .have f:t<0:=BQ c
  have e:IntKind.i64.wrap (IntKind.i64.wrap (t+65535)+1)=((wW z:Nat):Int):=by
   have i:IntKind.i64.wrap (t+65535)=t+65535:=wrap_i64 U U;rw[g,i,wrap_i64 U U];split at d<;>omega
  refine AZ c e ?_;exact H7
theorem OW (a:Nat)(c:a<65536)(h:Hp):a_ (En G) 370 [.n (a:Nat)] h (.n (a:Nat)):=by
 have:=VL G (a:Nat) h U
 rwa [WV c] at this
theorem wA (n:Nat)(q:n<=16)(h:Hp):a_ (En G) 407 [.n (n:Nat)] h (.n ((2^n:Nat):Int)):=by
 refine cn Tryz.func407 2 ?_;refine AB ?_;refine BB (fun k F H=>∃i,k+i=n/\F 0=.n (n:Nat)/\F 3=.n ((2^i:Nat):Int)/\F 4=.n (i:Nat)/\H=h) n ⟨0,BA,AL,AL,AL,rfl⟩ ?_;rintro k F H ⟨i,p,d,f,g,rfl⟩;refine AZ d g ?_;refine BL ?_ ?_<;>intro j
 .have c:i<n:=BQ j
  have l:2^i<=2^16:=Nat.pow_le_pow_right U U
  have e:IntKind.i64.wrap (2*((2^i:Nat):Int))=((2^(i+1):Nat):Int):=by
   simp only[Nat.reducePow] at l;rw[show(2:Int)*((2^i:Nat):Int)=((2^i*2:Nat):Int) by rw[wU,Int.mul_comm];rfl,Nat.pow_succ];exact ND U
  refine EH f g e (CZ i) ?_;exact⟨k-1,U,i+1,U,d,AO,AO,trivial⟩
 .have c:i=n:=by
   have:¬i<n:=BQ j;omega
  subst c;refine A7 f ?_;exact⟨AO,trivial⟩
theorem CF (a b:Nat)(d:a<65536)(f:b<65536)(h:Hp):a_ (En G) 337 [.n (a:Nat),.n (b:Nat)] h (.n (((a+b)%65536:Nat):Int)):=by
 have e:IntKind.i64.wrap ((a:Int)+(b:Int))=(a:Int)+(b:Int):=wrap_i64 U U;have c:wW ((a:Int)+(b:Int))=(a+b)%65536:=by unfold wW;omega
 refine cn Tryz.func337 4 ?_;refine AB ?_;refine(OW G a d h).uu ?_;refine(OW G b f h).use ?_;refine A7 e ?_;refine(VL G _ h U).use ?_;refine A7 c ?_;exact H7
theorem Nr (a b:Nat)(d:a<65536)(f:b<65536)(h:Hp):a_ (En G) 376 [.n (a:Nat),.n (b:Nat)] h (.n (((a+65536-b)%65536:Nat):Int)):=by
 have e:IntKind.i64.wrap ((a:Int)-(b:Int))=(a:Int)-(b:Int):=wrap_i64 U U;have c:wW ((a:Int)-(b:Int))=(a+65536-b)%65536:=by unfold wW;omega
 refine cn Tryz.func376 4 ?_;refine AB ?_;refine(OW G a d h).uu ?_;refine(OW G b f h).use ?_;refine A7 e ?_;refine(VL G _ h U).use ?_;refine A7 c ?_;exact H7
theorem mul_lt {b:Nat}(d:a<65536)(c:b<=65536):a*b<=65535*65536:=Nat.mul_le_mul U c
theorem Oc (a b:Nat)(c:a<65536)(d:b<65536)(h:Hp):a_ (En G) 377 [.n (a:Nat),.n (b:Nat)] h (.n ((a*b%65536:Nat):Int)):=by
 have g:=mul_lt c (Nat.le_of_lt d);have e:IntKind.i64.wrap ((a:Int)*(b:Int))=((a*b:Nat):Int):=by rw[<-wU];exact ND U
 have f:wW ((a*b:Nat):Int)=a*b%65536:=by unfold wW;omega
 refine cn Tryz.func377 4 ?_;refine AB ?_;refine(OW G a c h).uu ?_;refine(OW G b d h).use ?_;refine A7 e ?_;refine(VL G _ h U).use ?_;refine A7 f ?_;exact H7
theorem Oq (a:Nat)(c:a<65536)(h:Hp):a_ (En G) 373 [.n (a:Nat)] h (.n ((65535-a:Nat):Int)):=by
 have e:IntKind.i64.wrap (65535-(a:Int))=((65535-a:Nat):Int):=by rw[wrap_i64 U U];omega
 refine cn Tryz.func373 2 ?_;refine AB ?_;refine(OW G a c h).use ?_;refine A7 e ?_;exact H7
theorem Oa (a:Nat)(d:a<65536)(h:Hp):a_ (En G) 374 [.n (a:Nat)] h (.n (((65536-a)%65536:Nat):Int)):=by
 have e:IntKind.i64.wrap (0-(a:Int))=0-(a:Int):=wrap_i64 U U;have c:wW (0-(a:Int))=(65536-a)%65536:=by unfold wW;omega
 refine cn Tryz.func374 2 ?_;refine AB ?_;refine(OW G a d h).use ?_;refine A7 e ?_;refine(VL G _ h U).use ?_;refine A7 c ?_;exact H7
theorem ME (a:Nat)(n:Int)(i:a<65536)(h:Hp):a_ (En G) 381 [.n (a:Nat),.n n] h (.n (iO a n:Nat)):=by
 refine cn Tryz.func381 4 ?_;refine AB ?_;cases g:decide (n<0)
 .have d:¬n<0:=BQ g
  cases c:decide (n>15)
  .have f:¬n>15:=BQ c
   obtain⟨k,rfl⟩:=wK (U:0<=n);have l:2^k<=2^16:=Nat.pow_le_pow_right U U;have p:=mul_lt i l;have e:IntKind.i64.wrap ((a:Int)*((2^k:Nat):Int))=((a*2^k:Nat):Int):=by rw[<-wU];exact ND U
   have j:wW ((a*2^k:Nat):Int)=iO a (k:Nat):=by
    unfold iO wW;rw[if_neg U,qI];omega
   refine A7 c ?_;refine(OW G a i h).uu ?_;refine(wA G k U h).use ?_;refine A7 e ?_;refine(VL G _ h U).use ?_;refine A7 j ?_;exact H7
  .have f:n>15:=BQ c
   refine A7 c ?_;exact⟨by unfold iO;rw[if_pos U];rfl,trivial⟩
 .have d:n<0:=BQ g
  refine AB ?_;exact⟨by unfold iO;rw[if_pos U];rfl,trivial⟩
theorem BT (a:Nat)(n:Int)(i:a<65536)(h:Hp):a_ (En G) 382 [.n (a:Nat),.n n] h (.n (dR a n:Nat)):=by
 refine cn Tryz.func382 4 ?_;refine AB ?_;cases f:decide (n<0)
 .have d:¬n<0:=BQ f
  cases c:decide (n>15)
  .have e:¬n>15:=BQ c
   obtain⟨k,rfl⟩:=wK (U:0<=n);have j:0<2^k:=Nat.pow_pos U
   have g:a/2^k=dR a (k:Nat):=by
    unfold dR;rw[if_neg U,qI]
   refine A7 c ?_;refine(OW G a i h).uu ?_;refine(wA G k U h).use ?_;refine AZ (nK a (2^k) j U) g ?_;exact H7
  .have e:n>15:=BQ c
   refine A7 c ?_;exact⟨by unfold dR;rw[if_pos U];rfl,trivial⟩
 .have d:n<0:=BQ f
  refine AB ?_;exact⟨by unfold dR;rw[if_pos U];rfl,trivial⟩
theorem zj (a i:Nat)(d:a<65536)(g:i<16)(h:Hp):a_ (En G) 405 [.n (a:Nat),.n (i:Nat)] h (.n (NG a i:Nat)):=by
 have e:dR a (i:Nat)=a/2^i:=by
  unfold dR;rw[if_neg U,qI]
 refine cn Tryz.func405 4 ?_;have f:=nJ (a/2^i) 2 U;have c:IZ jA 3 .rem (.n ((a/2^i:Nat):Int)) (.n 2)=some (.n (NG a i:Nat)):=f;refine AB ?_;refine(BT G a i d h).use ?_;refine AZ e c ?_;exact H7
theorem LN (a:Nat)(l:a<65536)(h:Hp):a_ (En G) 375 [.n (a:Nat)] h (.n (Z9 a:Nat)):=by
 refine cn Tryz.func375 2 ?_;refine AB ?_;refine BB (fun k F H=>∃i,k+i=16/\F 0=.n (a:Nat)/\F 3=.n (LX a i:Nat)/\F 4=.n (i:Nat)/\H=h) 16 ⟨0,BA,AL,AL,AL,rfl⟩ ?_;rintro k F H ⟨i,p,g,d,f,rfl⟩;refine A7 f ?_;refine BL ?_ ?_<;>intro j
 .have c:i<16:=by simp at j;omega
  have hle:=TD a (i+1)
  have e:IntKind.i64.wrap (((LX a i:Nat):Int)+((NG a i:Nat):Int))=((LX a (i+1):Nat):Int):=by
   have:LX a (i+1)=LX a i+NG a i:=rfl;rw[wrap_i64 U U];omega
  refine DC g d f ?_;refine(zj G a i l c H).use ?_;refine EH d f e (CZ i) ?_;exact⟨k-1,U,i+1,U,g,AO,AO,trivial⟩
 .have c:i=16:=by simp at j;omega
  subst c;refine A7 d ?_;exact⟨AO,trivial⟩
def PP (lo c a b:Nat):Nat->Nat
 | 0=>0
 | k+1=>2*PP lo c a b k+(if lo<=NG a (15-k)+NG b (15-k)/\NG a (15-k)+NG b (15-k)<=c then 1 else 0)
theorem yT (lo c a b:Nat):∀k,PP lo c a b k<2^k
 | 0=>by simp [PP]
 | k+1=>by
   have:=yT lo c a b k;unfold PP;rw[Nat.pow_succ];split<;>omega
theorem oA (lo c a b x:Nat)(e:x<65536)(d:∀i,i<16->NG x i=if lo<=NG a i+NG b i/\NG a i+NG b i<=c then 1 else 0):∀k,k<=16->PP lo c a b k=x/2^(16-k)
 | 0,_=>by
   unfold PP;rw[Nat.div_eq_of_lt (BQ e)]
 | k+1,hk=>by
   unfold PP;rw[oA lo c a b x e d k U,<-d (15-k) U];unfold NG;rw[show 16-(k+1)=15-k by omega,show 16-k=(15-k)+1 by omega,Nat.pow_succ,<-Nat.div_div_eq_div_mul];omega
theorem RX (x i:Nat):NG x i=if x.testBit i=true then 1 else 0:=by
 have:=oB x i;rw[Nat.testBit_eq_decide_div_mod_eq];unfold NG at *;simp only[decide_eq_true_eq];split<;>omega
theorem AVY (a b:Nat)(c:a<65536):PP 2 2 a b 16=a &&& b:=by
 rw[oA 2 2 a b (a &&& b) (Nat.lt_of_le_of_lt Nat.and_le_left c) (fun i _=>?_) 16 (jF _)]
 .simp
 .rw[RX,RX,RX,Nat.testBit_and]
  cases a.testBit i<;>cases b.testBit i<;>simp
theorem K1 (a b:Nat)(c:a<65536)(d:b<65536):PP 1 2 a b 16=a ||| b:=by
 rw[oA 1 2 a b (a ||| b) (Nat.or_lt_two_pow (n:=16) U U) (fun i _=>?_) 16 (jF _)]
 .simp
 .rw[RX,RX,RX,Nat.testBit_or]
  cases a.testBit i<;>cases b.testBit i<;>simp
theorem AVX (a b:Nat)(c:a<65536)(d:b<65536):PP 1 1 a b 16=a ^^^ b:=by
 rw[oA 1 1 a b (a ^^^ b) (Nat.xor_lt_two_pow (n:=16) U U) (fun i _=>?_) 16 (jF _)]
 .simp
 .rw[RX,RX,RX,Nat.testBit_xor]
  cases a.testBit i<;>cases b.testBit i<;>simp
theorem gq (lo c a b:Nat)(M:a<65536)(N:b<65536)(h:Hp):a_ (En G) 406 [.n (a:Nat),.n (b:Nat),.n (lo:Nat),.n (c:Nat)] h (.n (PP lo c a b 16:Nat)):=by
 refine cn Tryz.func406 8 ?_;refine AB ?_
 refine BB (fun n F H=>∃k,n+k=16/\F 0=.n (a:Nat)/\F 1=.n (b:Nat)/\F 2=.n (lo:Nat)/\F 3=.n (c:Nat)/\F 9=.n (PP lo c a b k:Nat)/\F 10=.n (15-(k:Int))/\H=h) 16
  ⟨0,BA,AL,AL,AL,AL,AL,AL,rfl⟩ ?_
 rintro n F H ⟨k,hk,l,p,A,B,I,f10,rfl⟩;refine A7 f10 ?_;refine BL ?_ ?_<;>intro J
 .have j:k<16:=by simp at J;omega
  have g:(15-(k:Int))=((15-k:Nat):Int):=U;have P:=oB a (15-k);have Q:=oB b (15-k);have R:=yT lo c a b k;have O:2^k<=2^15:=Nat.pow_le_pow_right U U;simp only[Nat.reducePow] at O;have L:IntKind.i64.wrap (((NG a (15-k):Nat):Int)+((NG b (15-k):Nat):Int))=((NG a (15-k)+NG b (15-k):Nat):Int):=by rw[wrap_i64 U U];omega
  have K:IntKind.i64.wrap (2*((PP lo c a b k:Nat):Int))=((2*PP lo c a b k:Nat):Int):=by rw[wrap_i64 U U];omega
  have E:IntKind.i64.wrap (((15-k:Nat):Int)-1)=15-((k+1:Nat):Int):=by rw[wrap_i64 U U];omega
  have d:PP lo c a b (k+1)=2*PP lo c a b k+(if lo<=NG a (15-k)+NG b (15-k)/\NG a (15-k)+NG b (15-k)<=c then 1 else 0):=rfl;refine DC l f10 g ?_;refine(zj G a (15-k) M U H).use ?_;refine DC p f10 g ?_;refine(zj G b (15-k) N U H).use ?_;refine G7 A B I L K ?_;cases i:decide (((NG a (15-k)+NG b (15-k):Nat):Int)≥((lo:Nat):Int))
  .have e:¬lo<=NG a (15-k)+NG b (15-k):=by simp at i;omega
   rw[if_neg (fun q=>e q.1),jR] at d;refine EH i f10 g E ?_;exact⟨n-1,U,k+1,U,l,p,A,B,by rw[d]<;>rfl,AO,trivial⟩
  .have e:lo<=NG a (15-k)+NG b (15-k):=by simp at i;omega
   cases C:decide (((NG a (15-k)+NG b (15-k):Nat):Int)<=((c:Nat):Int))
   .have f:¬NG a (15-k)+NG b (15-k)<=c:=by simp at C;omega
    rw[if_neg (fun q=>f q.2),jR] at d;refine LP i C B f10 g E ?_;exact⟨n-1,U,k+1,U,l,p,A,AO,by rw[d]<;>rfl,AO,trivial⟩
   .have f:NG a (15-k)+NG b (15-k)<=c:=by simp at C;omega
    rw[if_pos ⟨e,f⟩] at d;refine LJ i C B f10 g E (wrap_succ (U:2*PP lo c a b k<9223372036854775807)) ?_;exact⟨n-1,U,k+1,U,l,p,A,AO,by rw[d]<;>rfl,AO,trivial⟩
 .have j:k=16:=by simp at J;omega
  subst j;refine A7 I ?_;exact⟨AO,trivial⟩
theorem P' (a b:Nat)(d:a<65536)(f:b<65536)(h:Hp):a_ (En G) 378 [.n (a:Nat),.n (b:Nat)] h (.n ((a &&& b:Nat):Int)):=by
 have e:=gq G 2 2 a b d f h;rw[AVY a b d] at e;have c:a_ (En G) 406 [.n (a:Nat),.n (b:Nat),.n 2,.n 2] h (.n ((a &&& b:Nat):Int)):=e;refine cn Tryz.func378 4 ?_;refine AB ?_;refine c.uu ?_;exact H7
theorem Qv (a b:Nat)(d:a<65536)(e:b<65536)(h:Hp):a_ (En G) 379 [.n (a:Nat),.n (b:Nat)] h (.n ((a ||| b:Nat):Int)):=by
 have f:=gq G 1 2 a b d e h;rw[K1 a b d e] at f;have c:a_ (En G) 406 [.n (a:Nat),.n (b:Nat),.n 1,.n 2] h (.n ((a ||| b:Nat):Int)):=f;refine cn Tryz.func379 4 ?_;refine AB ?_;refine c.uu ?_;exact H7
theorem Nj (a b:Nat)(d:a<65536)(e:b<65536)(h:Hp):a_ (En G) 380 [.n (a:Nat),.n (b:Nat)] h (.n ((a ^^^ b:Nat):Int)):=by
 have f:=gq G 1 1 a b d e h;rw[AVX a b d e] at f;have c:a_ (En G) 406 [.n (a:Nat),.n (b:Nat),.n 1,.n 1] h (.n ((a ^^^ b:Nat):Int)):=f;refine cn Tryz.func380 4 ?_;refine AB ?_;refine c.uu ?_;exact H7
end Wd
namespace Xe
open Sm Bins Cov Wd Go.RowKit
variable (G:Nat->AV )
def tr (b:Bool):Nat:=if b then 1 else 0
def sgW (op:Int)(a:Nat):Nat:=if op=4 then tr (a==0) else if op=5 then 65535-a else if op=6 then (65536-a)%65536 else Z9 a
def dbW (op:Int)(a b:Nat):Nat :=
 if op=7 then (a+b)%65536 else if op=8 then (a+65536-b)%65536 else if op=9 then a*b%65536 else if op=10 then a &&& b else if op=11 then a ||| b else if op=12 then a ^^^ b
 else if op=13 then iO a (b:Nat) else if op=14 then dR a (b:Nat) else if op=15 then tr (a==b) else if op=16 then tr (!(a==b)) else if op=17 then tr (decide (a<b)) else if op=18 then tr (decide (a<=b))
 else if op=19 then tr (!(a==0) && !(b==0)) else if op=20 then tr (!(a==0) || !(b==0)) else tr ((a==0) || !(b==0))
theorem fD (b:Bool):tr b<65536:=by cases b<;>decide
theorem Ll {op:Int}{a:Nat}(c:a<65536):sgW op a<65536:=by
 unfold sgW;by_cases h4:op=4
 .rw[if_pos h4];exact fD _
 by_cases h5:op=5
 .rw[if_neg h4,if_pos h5];omega
 by_cases h6:op=6
 .grind
 .rw[if_neg h4,if_neg h5,if_neg h6]
  have:=TD a 16;unfold Z9;omega
theorem Mt {op:Int}{a b:Nat}(c:a<65536)(d:b<65536):dbW op a b<65536:=by
 unfold dbW;by_cases h7:op=7
 .rw[if_pos h7];exact wI _ U
 by_cases h8:op=8
 .grind
 by_cases h9:op=9
 .grind
 by_cases h10:op=10
 .rw[if_neg h7,if_neg h8,if_neg h9,if_pos h10];exact Nat.lt_of_le_of_lt Nat.and_le_left c
 by_cases h11:op=11
 .rw[if_neg h7,if_neg h8,if_neg h9,if_neg h10,if_pos h11];exact Nat.or_lt_two_pow (n:=16) U U
 by_cases h12:op=12
 .rw[if_neg h7,if_neg h8,if_neg h9,if_neg h10,if_neg h11,if_pos h12];exact Nat.xor_lt_two_pow (n:=16) U U
 by_cases h13:op=13
 .rw[if_neg h7,if_neg h8,if_neg h9,if_neg h10,if_neg h11,if_neg h12,if_pos h13];exact Gg
 by_cases h14:op=14
 .rw[if_neg h7,if_neg h8,if_neg h9,if_neg h10,if_neg h11,if_neg h12,if_neg h13,if_pos h14];exact GJ c
 by_cases h15:op=15
 .rw[if_neg h7,if_neg h8,if_neg h9,if_neg h10,if_neg h11,if_neg h12,if_neg h13,if_neg h14,if_pos h15];exact fD _
 by_cases h16:op=16
 .rw[if_neg h7,if_neg h8,if_neg h9,if_neg h10,if_neg h11,if_neg h12,if_neg h13,if_neg h14,if_neg h15,if_pos h16];exact fD _
 by_cases h17:op=17
 .rw[if_neg h7,if_neg h8,if_neg h9,if_neg h10,if_neg h11,if_neg h12,if_neg h13,if_neg h14,if_neg h15,if_neg h16,if_pos h17];exact fD _
 by_cases h18:op=18
 .rw[if_neg h7,if_neg h8,if_neg h9,if_neg h10,if_neg h11,if_neg h12,if_neg h13,if_neg h14,if_neg h15,if_neg h16,if_neg h17,if_pos h18];exact fD _
 by_cases h19:op=19
 .rw[if_neg h7,if_neg h8,if_neg h9,if_neg h10,if_neg h11,if_neg h12,if_neg h13,if_neg h14,if_neg h15,if_neg h16,if_neg h17,if_neg h18,if_pos h19];exact fD _
 by_cases h20:op=20
 .rw[if_neg h7,if_neg h8,if_neg h9,if_neg h10,if_neg h11,if_neg h12,if_neg h13,if_neg h14,if_neg h15,if_neg h16,if_neg h17,if_neg h18,if_neg h19,if_pos h20];exact fD _
 .rw[if_neg h7,if_neg h8,if_neg h9,if_neg h10,if_neg h11,if_neg h12,if_neg h13,if_neg h14,if_neg h15,if_neg h16,if_neg h17,if_neg h18,if_neg h19,if_neg h20];exact fD _
theorem mi (a b:Nat):((a:Int)==(b:Int))=(a==b):=by grind
theorem mj (a:Nat):((a:Int)==0)=(a==0):=mi a 0
theorem nr (a b:Nat):((a:Int) != (b:Int)) = !(a==b):=congrArg not (mi a b)
theorem kt (a:Nat):((a:Int) != 0) = !(a==0):=nr a 0
theorem oz (a b:Nat):decide ((a:Int)<(b:Int))=decide (a<b):=by simp_all
theorem km (a b:Nat):decide ((a:Int)<=(b:Int))=decide (a<=b):=by simp_all
theorem PG (b:Bool)(h:Hp):a_ (En G) 344 [.bool b] h (.n (tr b:Nat)):=by
 refine cn Tryz.func344 2 ?_;cases b
 all_goals
  refine AB ?_;exact⟨rfl,trivial⟩
theorem SD (op:Int)(a:Nat)(d:a<65536)(h:Hp):a_ (En G) 318 [.n op,.n (a:Nat)] h (.n (sgW op a:Nat)):=by
 refine cn Tryz.func318 4 ?_;have c:op=4\/op=5\/op=6\/(op≠4/\op≠5/\op≠6):=U;rcases c with rfl|rfl|rfl|⟨e,f,g⟩
 .refine U4 mj ?_
  refine(PG G _ h).uu ?_;exact⟨rfl,trivial⟩
 .refine QA ?_
  refine(Oo G a d h).uu ?_;exact⟨rfl,trivial⟩
 .refine QA ?_
  refine(Na G a d h).uu ?_;exact⟨rfl,trivial⟩
 .refine DC (beq_eq_false_iff_ne.2 e) (beq_eq_false_iff_ne.2 f) (beq_eq_false_iff_ne.2 g) ?_
  refine(Yw G a d h).uu ?_;exact⟨by unfold sgW;rw[if_neg e,if_neg f,if_neg g],trivial⟩
theorem Ub (op:Int)(a b:Nat)(d:a<65536)(i:b<65536)(h:Hp):a_ (En G) 319 [.n op,.n (a:Nat),.n (b:Nat)] h (.n (dbW op a b:Nat)):=by
 refine cn Tryz.func319 6 ?_;have g:op=7\/op=8\/op=9\/op=10\/op=11\/op=12\/op=13\/op=14\/op=15\/op=16\/op=17\/op=18\/op=19\/op=20\/(op<7\/20<op):=U;rcases g with rfl|rfl|rfl|rfl|rfl|rfl|rfl|rfl|rfl|rfl|rfl|rfl|rfl|rfl|l
 .refine QA ?_
  refine(CD G a b d i h).uu ?_;exact⟨rfl,trivial⟩
 .refine QA ?_
  refine(Nq G a b d i h).uu ?_;exact⟨rfl,trivial⟩
 .refine QA ?_
  refine(Ob G a b d i h).uu ?_;exact⟨rfl,trivial⟩
 .refine U4 (P4 a b d i) ?_
  exact⟨rfl,trivial⟩
 .refine U4 (Qu a b d i) ?_
  exact⟨rfl,trivial⟩
 .refine U4 (Ni a b d i) ?_
  exact⟨rfl,trivial⟩
 .refine QA ?_
  refine(ku G a (b:Nat) d h).uu ?_;exact⟨rfl,trivial⟩
 .refine QA ?_
  refine(MD G a (b:Nat) d h).uu ?_;exact⟨rfl,trivial⟩
 .refine N8 mi nr oz km ?_
  refine(PG G _ h).uu ?_;exact⟨rfl,trivial⟩
 .refine N8 mi nr oz km ?_
  refine(PG G _ h).uu ?_;exact⟨rfl,trivial⟩
 .refine N8 mi nr oz km ?_
  refine(PG G _ h).uu ?_;exact⟨rfl,trivial⟩
 .refine N8 mi nr oz km ?_
  refine(PG G _ h).uu ?_;exact⟨rfl,trivial⟩
 .refine LM mj kt ?_
  cases e:(a==0)<;>cases f:(b==0)
  all_goals
   refine DC e f kt ?_;refine(PG G _ h).uu ?_;exact⟨by unfold dbW;rw[e,f];rfl,trivial⟩
 .refine LM mj kt ?_
  cases e:(a==0)<;>cases f:(b==0)
  all_goals
   refine DC e f kt ?_;refine(PG G _ h).uu ?_;exact⟨by unfold dbW;rw[e,f];rfl,trivial⟩
 .have c:∀k:Int,7<=k->k<=20->(op==k)=false:=fun k _ _=>beq_eq_false_iff_ne.2 U
  have j:dbW op a b=tr ((a==0) || !(b==0)):=by
   unfold dbW;rw[if_neg (U:¬op=7),if_neg (U:¬op=8),if_neg (U:¬op=9),if_neg (U:¬op=10),if_neg (U:¬op=11),if_neg (U:¬op=12),if_neg (U:¬op=13),if_neg (U:¬op=14),if_neg (U:¬op=15),if_neg (U:¬op=16),if_neg (U:¬op=17),if_neg (U:¬op=18),if_neg (U:¬op=19),if_neg (U:¬op=20)]
  rw[j];simp only[vQ,EM,CP,↓reduceIte,jC,mh,b_,c 7 DX DX,c 8 DX DX,c 9 DX DX,c 10 DX DX,c 11 DX DX,c 12 DX DX,c 13 DX DX,c 14 DX DX,c 15 DX DX,c 16 DX DX,c 17 DX DX,c 18 DX DX,c 19 DX DX,c 20 DX DX,mj,kt];cases e:(a==0)<;>cases f:(b==0)
  all_goals
   refine DC e f kt ?_;refine(PG G _ h).uu ?_;exact⟨AO,trivial⟩
theorem Q3 (b:Bool)(h:Hp):a_ (En G) 372 [.bool b] h (.n (tr b:Nat)):=by
 refine cn Tryz.func372 2 ?_;cases b
 all_goals
  refine AB ?_;exact⟨rfl,trivial⟩
theorem UP (op:Int)(a:Nat)(d:a<65536)(h:Hp):a_ (En G) 338 [.n op,.n (a:Nat)] h (.n (sgW op a:Nat)):=by
 refine cn Tryz.func338 4 ?_;have c:op=4\/op=5\/op=6\/(op≠4/\op≠5/\op≠6):=U;rcases c with rfl|rfl|rfl|⟨e,f,g⟩
 .refine U4 mj ?_
  refine(Q3 G _ h).uu ?_;exact⟨rfl,trivial⟩
 .refine QA ?_
  refine(Oq G a d h).uu ?_;exact⟨rfl,trivial⟩
 .refine QA ?_
  refine(Oa G a d h).uu ?_;exact⟨rfl,trivial⟩
 .refine DC (beq_eq_false_iff_ne.2 e) (beq_eq_false_iff_ne.2 f) (beq_eq_false_iff_ne.2 g) ?_
  refine(LN G a d h).uu ?_;exact⟨by unfold sgW;rw[if_neg e,if_neg f,if_neg g],trivial⟩
theorem Wj (op:Int)(a b:Nat)(d:a<65536)(i:b<65536)(h:Hp):a_ (En G) 339 [.n op,.n (a:Nat),.n (b:Nat)] h (.n (dbW op a b:Nat)):=by
 refine cn Tryz.func339 6 ?_;have g:op=7\/op=8\/op=9\/op=10\/op=11\/op=12\/op=13\/op=14\/op=15\/op=16\/op=17\/op=18\/op=19\/op=20\/(op<7\/20<op):=U;rcases g with rfl|rfl|rfl|rfl|rfl|rfl|rfl|rfl|rfl|rfl|rfl|rfl|rfl|rfl|l
 .refine QA ?_
  refine(CF G a b d i h).uu ?_;exact⟨rfl,trivial⟩
 .refine QA ?_
  refine(Nr G a b d i h).uu ?_;exact⟨rfl,trivial⟩
 .refine QA ?_
  refine(Oc G a b d i h).uu ?_;exact⟨rfl,trivial⟩
 .refine QA ?_
  refine(P' G a b d i h).uu ?_;exact⟨rfl,trivial⟩
 .refine QA ?_
  refine(Qv G a b d i h).uu ?_;exact⟨rfl,trivial⟩
 .refine QA ?_
  refine(Nj G a b d i h).uu ?_;exact⟨rfl,trivial⟩
 .refine QA ?_
  refine(ME G a (b:Nat) d h).uu ?_;exact⟨rfl,trivial⟩
 .refine QA ?_
  refine(BT G a (b:Nat) d h).uu ?_;exact⟨rfl,trivial⟩
 .refine N8 mi nr oz km ?_
  refine(Q3 G _ h).uu ?_;exact⟨rfl,trivial⟩
 .refine N8 mi nr oz km ?_
  refine(Q3 G _ h).uu ?_;exact⟨rfl,trivial⟩
 .refine N8 mi nr oz km ?_
  refine(Q3 G _ h).uu ?_;exact⟨rfl,trivial⟩
 .refine N8 mi nr oz km ?_
  refine(Q3 G _ h).uu ?_;exact⟨rfl,trivial⟩
 .refine LM mj kt ?_
  cases e:(a==0)<;>cases f:(b==0)
  all_goals
   refine DC e f kt ?_;refine(Q3 G _ h).uu ?_;exact⟨by unfold dbW;rw[e,f];rfl,trivial⟩
 .refine LM mj kt ?_
  cases e:(a==0)<;>cases f:(b==0)
  all_goals
   refine DC e f kt ?_;refine(Q3 G _ h).uu ?_;exact⟨by unfold dbW;rw[e,f];rfl,trivial⟩
 .have c:∀k:Int,7<=k->k<=20->(op==k)=false:=fun k _ _=>beq_eq_false_iff_ne.2 U
  have j:dbW op a b=tr ((a==0) || !(b==0)):=by
   unfold dbW;rw[if_neg (U:¬op=7),if_neg (U:¬op=8),if_neg (U:¬op=9),if_neg (U:¬op=10),if_neg (U:¬op=11),if_neg (U:¬op=12),if_neg (U:¬op=13),if_neg (U:¬op=14),if_neg (U:¬op=15),if_neg (U:¬op=16),if_neg (U:¬op=17),if_neg (U:¬op=18),if_neg (U:¬op=19),if_neg (U:¬op=20)]
  rw[j];simp only[vQ,EM,CP,↓reduceIte,jC,mh,b_,c 7 DX DX,c 8 DX DX,c 9 DX DX,c 10 DX DX,c 11 DX DX,c 12 DX DX,c 13 DX DX,c 14 DX DX,c 15 DX DX,c 16 DX DX,c 17 DX DX,c 18 DX DX,c 19 DX DX,c 20 DX DX,mj,kt];cases e:(a==0)<;>cases f:(b==0)
  all_goals
   refine DC e f kt ?_;refine(Q3 G _ h).uu ?_;exact⟨AO,trivial⟩
abbrev Sg:=ByteArray×Int
def FY (s:Sg):List AV:=[.str s.1,.n s.2]
theorem Zw (s:Sg):(FY s).length=2:=rfl
def pn (s:Sg):Prop := -9223372036854775808<=s.2/\s.2<=9223372036854775807
def NK:List Sg->ByteArray->Nat×Bool
 | [],_=>(0,false)
 | s::l,n=>if(s.1.toList==n.toList)=true then (wW s.2,true) else NK l n
theorem rT:∀(l:List Sg) (n:ByteArray),(NK l n).1<65536
 | [],_=>by simp [NK]
 | s::l,n=>by unfold NK;split;exact u7 _;exact rT l n
theorem rS (l:List Sg)(n:ByteArray)(k:Nat)(hk:k<l.length):NK (l.drop k) n=if(l[k].1.toList==n.toList)=true then (wW l[k].2,true) else NK (l.drop (k+1)) n:=by
 rw[zU hk];rfl
def WF (p:Nat×Bool):AV:=.tup [.n (p.1:Nat),.bool p.2]
theorem Et (p:Nat×Bool)(n:Nat)(H:Hp):FK n H 2 (WF p)=WF p:=rfl
theorem Qh (h:Hp):H9 jA h 209=some (.ptr h.length 0 0,h++[qH 2 [[.str ⟨#[]⟩,.n 0]]]):=FZ (row:=[.str ⟨#[]⟩,.n 0]) BC
theorem Ny (h:Hp)(s:Sg):D7 jA (h++[qH 2 [[.str ⟨#[]⟩,.n 0]]]) 209 (.ptr h.length 0 0) (.agg (FY s))=some (h++[qH 2 [FY s]]):=by
 rw[JV (cs:=FY s) (row:=[.str ⟨#[]⟩,.n 0]) rfl Au (A8 _ _) (by exact jF 2),KZ];rfl
theorem se (h:Hp)(u:AV)(a:u.leaf=true):OU h (.agg [u])=some (.ptr h.length 0 0,h++[qH 1 [[u]]]):=cG (by simp only[List.all_cons,a,List.all_nil];rfl)
theorem cY {h:Hp}{b:Nat}{u:AV}(a:h[b]?=some (qH 1 [[u]])):BR jA h 277 (.ptr b 0 0)=some (.agg [u]):=by
 rw[EK Qk Bz a rfl (by exact jF 1)];rfl
theorem PQ {P:Program}{t:TypeId}{a b:ByteArray}(h:a.size+b.size<=9223372036854775807):IZ P t .add (.str a) (.str b)=some (.str (a++b)):=by
 show td .add a b=_;unfold td
 have:((a.size+b.size:Nat):Int)<=IntKind.i64.max:=by
  show _<=(9223372036854775807:Int);omega
 simp only[if_pos this]
section
variable (G:Nat->AV)
theorem kG (l:List Sg)(m:SM)(n:ByteArray)(h:Hp)(B:l.length<=1099511627776):a_ (En G) 280 [.agg [.sl m 2 (l.map FY)],.str n] h (WF (NK l n)):=by
 refine RN 2 (Et _) ?_;refine e7 Tryz.func280 [.tmp 4,.tmp 5] ?_;refine EH B' @AZM (se h (.sl m 2 (l.map FY)) rfl) (IA Qq (A8 h (qH 1 [[.sl m 2 (l.map FY)]]))) ?_;refine BB (fun k F H=>∃j,k+j=l.length/\F 1=.str n/\F 9=.sl m 2 (l.map FY)/\F 10=.n (l.length:Nat)/\F 11=.n (j:Nat)/\ext h H/\NK l n=NK (l.drop j) n) l.length ⟨0,BA,AL,AL,AL,AL,(ext.rfl' h).app _,rfl⟩ ?_;rintro k F H ⟨j,A,f,i,f10,f11,d,c⟩;refine AZ f10 f11 ?_;refine DV ?_ ?_<;>intro a
 .have g:=A8 H (qH 2 [FY l[j]])
  have p:BR jA (H++[qH 2 [FY l[j]]]) 9 (.ptr H.length 0 0)=some (.str l[j].1):=by rw[BJ eo g (row:=FY l[j]) rfl];rfl
  have q:BR jA (H++[qH 2 [FY l[j]]]) 3 (.ptr H.length 0 1)=some (.n l[j].2):=by rw[BJ ct g (row:=FY l[j]) rfl];rfl
  rw[rS l n j a] at c;simp only[vQ,CP,QN,↓reduceIte,jC,Nat.add_zero,b_,va,HJ,Option.getD_none,f,i,f11,CE a,DL Qn Au Zw a,Qh,Ny,p];refine BL ?_ ?_<;>intro e
  .refine AZ @za q ?_
   refine(Xr G _ _).uu ?_;exact⟨by rw[c,if_pos e];rfl,d.app _⟩
  .refine AZ f11 (CZ j) ?_
   exact⟨k-1,U,j+1,U,AO,AO,AO,rfl,d.app _,by rw[c,if_neg (by rw[e];decide)]⟩
 .refine AB ?_
  exact⟨by rw[c,jS U];rfl,d⟩
theorem rR (l:List Sg)(m:SM)(n:ByteArray)(h:Hp)(B:l.length<=1099511627776)(f:∀s∈l,pn s):a_ (En G) 334 [.sl m 2 (l.map FY),.str n] h (WF (NK l n)):=by
 refine e7 Tryz.func334 [.tmp 4,.tmp 5] ?_;refine AB ?_;refine BB (fun k F H=>∃j,k+j=l.length/\F 0=.sl m 2 (l.map FY)/\F 1=.str n/\F 6=.n (j:Nat)/\H=h/\NK l n=NK (l.drop j) n) l.length ⟨0,BA,AL,AL,AL,rfl,rfl⟩ ?_;rintro k F H ⟨j,A,e,i,c,rfl,d⟩;refine DC B' e c ?_;refine DV ?_ ?_<;>intro a
 .rw[rS l n j a] at d
  have p:BR jA H 9 (.fptr 2 (l.map FY) j 0)=some (.str l[j].1):=by rw[BK eo a];rfl
  have q:BR jA H 3 (.fptr 2 (l.map FY) j 1)=some (.n l[j].2):=by rw[BK ct a];rfl
  refine LJ va @HJ e i c a p ?_;refine BL ?_ ?_<;>intro g
  .refine WU va @za e c a q ?_
   refine(VL G _ _ (f _ (jH a))).uu ?_;exact⟨by rw[d,if_pos g];rfl,trivial⟩
  .refine AZ c (CZ j) ?_
   exact⟨k-1,U,j+1,U,AO,AO,rfl,trivial,by rw[d,if_neg (by rw[g];decide)]⟩
 .refine AB ?_
  exact⟨by rw[d,jS U];rfl,trivial⟩
def elN (a:ByteArray)(i:Nat):ByteArray:=a++(⟨#[91]⟩:ByteArray)++(⟨#[UInt8.ofNat (48+i)]⟩:ByteArray)++(⟨#[93]⟩:ByteArray)
def jw (l:List Sg)(a:ByteArray)(i:Int):Nat×Bool:=if i<0\/i≥8 then (0,false) else NK l (elN a i.toNat)
theorem Aj (l:List Sg)(a:ByteArray)(i:Int):(jw l a i).1<65536:=by unfold jw;split;decide;exact rT _ _
theorem Fx:∀i:Nat,i<8->ZH jA 334 9 (.sl .full 1 [[.int .u8 (IntKind.u8.wrap (IntKind.i64.wrap (48+(i:Int))))]])=some (.str ⟨#[UInt8.ofNat (48+i)]⟩)
 | 0,_=>BC
 | 1,_=>BC
 | 2,_=>BC
 | 3,_=>BC
 | 4,_=>BC
 | 5,_=>BC
 | 6,_=>BC
 | 7,_=>BC
 | n+8,h=>absurd h U
theorem AS (h:Hp)(v:Int):DR jA false h 334 1 [(0,.int .u8 v)]=some (.sl .full 1 [[.int .u8 v]],h):=BC
theorem VF (a b:ByteArray):(a++b).size=a.size+b.size:=ByteArray.size_append
theorem zm (l:List Sg)(m:SM)(a:ByteArray)(i:Int)(h:Hp)(A:l.length<=1099511627776)(B:a.size<=1048576):a_ (En G) 281 [.agg [.sl m 2 (l.map FY)],.str a,.n i] h (WF (jw l a i)):=by
 refine RN 2 (Et _) ?_;refine e7 Tryz.func281 [.tmp 6,.tmp 7] ?_;have f:=Sm.ext.r1 h (qH 1 [[.sl m 2 (l.map FY)]]);refine A7 (se h (.sl m 2 (l.map FY)) rfl) ?_;cases g:decide (i<0)
 .cases e:decide (i≥8)
  .have c:¬i<0:=BQ g
   have d:¬i≥8:=BQ e;obtain⟨k,rfl⟩:=wK (U:0<=i);have hk:k<8:=U;have j:IZ jA 9 .add (.str a) (.str ⟨#[91]⟩)=_:=PQ (by show a.size+1<=_;omega);have p:IZ jA 9 .add (.str (a++(⟨#[91]⟩:ByteArray))) (.str ⟨#[UInt8.ofNat (48+k)]⟩)=_:=PQ (by rw[VF];show a.size+1+1<=_;omega);have q:IZ jA 9 .add (.str (a++(⟨#[91]⟩:ByteArray)++(⟨#[UInt8.ofNat (48+k)]⟩:ByteArray))) (.str ⟨#[93]⟩)=_:=PQ (by rw[VF,VF];show a.size+1+1+1<=_;omega);refine N7 @AF e (cY (A8 h (qH 1 [[.sl m 2 (l.map FY)]]))) j AS (Fx k hk) p q ?_;refine(kG G l m _ _ A).use ?_;unfold WF;refine AB ?_;exact⟨by unfold jw;rw[if_neg U];rfl,f⟩
  .refine A7 e ?_
   have d:i≥8:=BQ e;exact⟨by unfold jw;rw[if_pos (.inr d)];rfl,f⟩
 .refine AB ?_
  have c:i<0:=BQ g;exact⟨by unfold jw;rw[if_pos (.inl c)];rfl,f⟩
theorem AU6:∀(k:Nat),k<8->∀h:Hp,IW jA h 9 (.str ⟨#[48,49,50,51,52,53,54,55,56,57]⟩) (some (.n (k:Nat))) (some (.n ((k+1:Nat):Int))) none=some (.str ⟨#[UInt8.ofNat (48+k)]⟩)
 | 0,_,h=>BC
 | 1,_,h=>BC
 | 2,_,h=>BC
 | 3,_,h=>BC
 | 4,_,h=>BC
 | 5,_,h=>BC
 | 6,_,h=>BC
 | 7,_,h=>BC
 | n+8,q,_=>absurd q U
theorem iX (k:Nat)(hk:k<8)(h:Hp):a_ (En G) 371 [.n (k:Nat)] h (.str ⟨#[UInt8.ofNat (48+k)]⟩):=by
 refine cn Tryz.func371 2 ?_;refine AZ (CZ k) (AU6 k hk) ?_;exact H7
theorem mM (a:ByteArray)(k:Nat)(hk:k<8)(h:Hp)(f:a.size<=1048576):a_ (En G) 335 [.str a,.n (k:Nat)] h (.str (elN a k)):=by
 refine cn Tryz.func335 4 ?_;have c:IZ jA 9 .add (.str a) (.str ⟨#[91]⟩)=_:=PQ (by show a.size+1<=_;omega);have d:IZ jA 9 .add (.str (a++(⟨#[91]⟩:ByteArray))) (.str ⟨#[UInt8.ofNat (48+k)]⟩)=_:=PQ (by rw[VF];show a.size+1+1<=_;omega);have e:IZ jA 9 .add (.str (a++(⟨#[91]⟩:ByteArray)++(⟨#[UInt8.ofNat (48+k)]⟩:ByteArray))) (.str ⟨#[93]⟩)=_:=PQ (by rw[VF,VF];show a.size+1+1+1<=_;omega);refine A7 c ?_;refine(iX G k hk h).use ?_;refine AZ d e ?_;exact⟨rfl,trivial⟩
theorem lY (l:List Sg)(m:SM)(a:ByteArray)(i:Int)(h:Hp)(p:l.length<=1099511627776)(f:∀s∈l,pn s)(j:a.size<=1048576):a_ (En G) 336 [.sl m 2 (l.map FY),.str a,.n i] h (.n ((jw l a i).1:Nat)):=by
 refine cn Tryz.func336 6 ?_;refine AB ?_;cases g:decide (i<0)
 .cases e:decide (i≥8)
  .have c:¬i<0:=BQ g
   have d:¬i≥8:=BQ e;obtain⟨k,rfl⟩:=wK (U:0<=i);refine A7 e ?_;refine(mM G a k U h j).uu ?_;refine(rR G l m _ h p f).use ?_;unfold WF;refine AB ?_;exact⟨by unfold jw;rw[if_neg U];rfl,trivial⟩
  .refine A7 e ?_
   have d:i≥8:=BQ e;exact⟨by unfold jw;rw[if_pos (.inr d)];rfl,trivial⟩
 .refine AB ?_
  have c:i<0:=BQ g;exact⟨by unfold jw;rw[if_pos (.inl c)];rfl,trivial⟩
def sumTo (l:List Sg)(a:ByteArray):Nat->Nat
 | 0=>0
 | k+1=>(sumTo l a k+(jw l a (k:Nat)).1)%65536
theorem oQ (l:List Sg)(a:ByteArray)(k:Nat):sumTo l a k<65536:=by
 cases k with
 | zero=>show 0<65536;decide
 | succ k=>exact wI _ U
theorem ASE (l:List Sg)(m:SM)(a:ByteArray)(h:Hp)(C:l.length<=1099511627776)(B:a.size<=1048576):a_ (En G) 282 [.agg [.sl m 2 (l.map FY)],.str a] h (.n (sumTo l a 8:Nat)):=by
 refine ACalls.pure0 rfl ?_;refine cn Tryz.func282 4 ?_;have g:=A8 h (qH 1 [[.sl m 2 (l.map FY)]]);refine A7 (se h (.sl m 2 (l.map FY)) rfl) ?_
 generalize A:h++[qH 1 [[.sl m 2 (l.map FY)]]]=H at g|-
 refine BB (fun k F d=>∃j,k+j=8/\F 1=.str a/\F 2=.ptr h.length 0 0/\F 5=.n (sumTo l a j:Nat)/\F 9=.n (j:Nat)/\d=H) 8 ⟨0,BA,AL,AL,AL,AL,rfl⟩ ?_;rintro k F d ⟨j,E,f,i,p,e,rfl⟩;refine A7 e ?_;refine BL ?_ ?_<;>intro q
 .have c:j<8:=by simp at q;omega
  refine EH f i e (cY g) ?_;refine(zm G l m a (j:Nat) d C B).use ?_;unfold WF;refine A7 p ?_;refine(CD G _ _ (oQ l a j) (Aj l a (j:Nat)) d).use ?_;refine EH f i e (CZ j) ?_;exact⟨k-1,U,j+1,U,AO,AO,AO,AO,trivial⟩
 .have c:j=8:=by simp at q;omega
  subst c;refine A7 p ?_;exact⟨trivial,_,A.symm⟩
end
def g_ (x:Nat):List Nat->Bool
 | a::b::r=>(decide (a<=x)&&decide (x<=b))||g_ x r
 | _=>false
def opW (op:Int)(a:List Nat):Nat :=
 if op=22 then (if a.getD 0 0≠0 then a.getD 1 0 else a.getD 2 0) else if op=23 then tr (g_ (a.getD 0 0) (a.drop 1))
 else if a.length=1 then sgW op (a.getD 0 0) else dbW op (a.getD 0 0) (a.getD 1 0)
theorem getD_lt {a:List Nat}(c:∀x∈a,x<65536)(k:Nat):a.getD k 0<65536:=by
 rw[List.getD_eq_getElem?_getD];rcases Nat.lt_or_ge k a.length with h|h
 .simp_all
 .rw[List.getElem?_eq_none h];decide
theorem LL (op:Int){d:List Nat}(a:∀x∈d,x<65536):opW op d<65536:=by
 unfold opW;have c:=getD_lt a 0;have e:=getD_lt a 1;have f:=getD_lt a 2;split
 .split<;>assumption
 split
 .exact fD _
 split
 .exact Ll c
 .exact Mt c e
theorem xU (x:Nat)(l:List Nat)(k:Nat)(hk:k+1<l.length):g_ x (l.drop k)=((decide (l[k]<=x)&&decide (x<=l[k+1]))||g_ x (l.drop (k+2))):=by
 rw[zU (U:k<l.length),zU hk];rfl
theorem Fg (x:Nat)(l:List Nat)(k:Nat)(hk:l.length<=k+1):g_ x (l.drop k)=false:=by
 have:(l.drop k).length<=1:=by simp;omega
 match hm:l.drop k,this with
 | [],_=>rfl
 | [a],_=>rfl
theorem J_ (a b:Nat):decide ((a:Int)≥(b:Int))=decide (b<=a):=km b a
def r_ (op:Int)(n:Nat):Prop:=(op=22->n=3)/\(op=23->n%2=1/\3<=n)/\(op≠22->op≠23->n=1\/n=2)
theorem Yv (op:Int)(d:List Nat)(o:Nat)(H:Hp)(X:H[o]?=some (qH 1 (d.map KD)))(Z:∀x∈d,x<65536)(hl:d.length<=1048576)(f:r_ op d.length):
  a_ (En G) 283 [.n op,.own o 0 d.length] H (.n (opW op d:Nat)):=by
 have g:∀k:Nat,k<d.length->JJ 1 H (.own o 0 d.length) (.n (k:Nat))=some (.ptr o k 0):=fun k hk=>by rw[GR X hk,jG]
 have i:∀(k:Nat) (hk:k<d.length),BR jA H 3 (.ptr o k 0)=some (.n (d[k]:Nat)):=fun k hk=>by rw[BJ ct X (row:=KD d[k]) (c8 hk)];rfl
 have V:1<=d.length:=by
  obtain⟨a,b,c⟩:=f;by_cases e:op=22
  .have:=a e;omega
  by_cases e':op=23
  .have:=b e';omega
  .have:=c e e';omega
 have J:JJ 1 H (.own o 0 d.length) (.n 0)=some (.ptr o 0 0):=g 0 V;have E:=i 0 V;have g0:d.getD 0 0=d[0]:=by grind
 have v0:d[0]<65536:=Z _ (jH _);refine cn Tryz.func283 4 ?_;by_cases e22:op=22
 .subst e22
  have a1:d.length=3:=f.1 rfl;have R:JJ 1 H (.own o 0 d.length) (.n 1)=some (.ptr o 1 0):=g 1 U;have i2:JJ 1 H (.own o 0 d.length) (.n 2)=some (.ptr o 2 0):=g 2 U;have O:=i 1 U;have d2:=i 2 U;have Q:d.getD 1 0=d[1]:=by simp_all
  have g2:d.getD 2 0=d[2]:=by simp_all
  refine N8 J E mj kt ?_;cases hz:(d[0]==0)
  .refine AZ R O ?_
   have:d[0]≠0:=BQ hz;exact⟨by unfold opW;rw[if_pos rfl,g0,if_pos this,Q],trivial⟩
  .refine AZ i2 d2 ?_
   have:¬d[0]≠0:=BQ hz;exact⟨by unfold opW;rw[if_pos rfl,g0,if_neg this,g2],trivial⟩
 by_cases e23:op=23
 .subst e23
  obtain⟨Y,h3⟩:=f.2.1 rfl;refine QA ?_;have q:opW 23 d=tr (g_ d[0] (d.drop 1)):=by unfold opW;rw[if_neg DX,if_pos rfl,g0]
  rw[q];refine BB (fun n F S=>∃j,n+j=d.length/\j%2=1/\F 1=.own o 0 d.length/\F 5=.n (j:Nat)/\S=H/\g_ d[0] (d.drop 1)=g_ d[0] (d.drop j)) (d.length-1) ⟨1,U,rfl,AL,AL,rfl,rfl⟩ ?_;rintro n F S ⟨j,hj,a0,M,K,rfl,p⟩;refine DC M K (CZ j) ?_;refine BL ?_ ?_<;>intro L
  .have l:j+1<d.length:=by simp at L;omega
   have ij:=g j U;have C:=g (j+1) l;have dj:=i j U;have A:=i (j+1) l;rw[xU _ _ _ l] at p;have T:IntKind.i64.wrap (((j:Nat):Int)+2)=((j+2:Nat):Int):=by rw[wrap_i64 U U];omega
   have P:IntKind.i64.wrap (((j:Nat):Int)+1)=((j+1:Nat):Int):=wrap_succ (U:j<9223372036854775807);refine AB ?_;refine DI BC ?_;refine V3 M K J E ij dj P C A km J_ ?_;cases I:decide (d[j]<=d[0])
   .refine DC I K T ?_
    exact⟨n-2,U,j+2,U,U,AO,AO,trivial,by rw[p,I];rfl⟩
   .cases N:decide (d[0]<=d[j+1])
    .refine V3 I N M K P C A km J E T ?_
     exact⟨n-2,U,j+2,U,U,AO,AO,trivial,by rw[p,I,N];rfl⟩
    .refine Y9 I N M K P C A km J E ?_
     exact⟨by rw[p,I,N];rfl,trivial⟩
  .have l:d.length<=j+1:=by simp at L;omega
   refine AB ?_;exact⟨by rw[p,Fg _ _ _ l];rfl,trivial⟩
 .have a2:=f.2.2 e22 e23
  have c1:(op==22)=false:=beq_eq_false_iff_ne.2 e22;have c2:(op==23)=false:=beq_eq_false_iff_ne.2 e23;have q:opW op d=if d.length=1 then sgW op (d.getD 0 0) else dbW op (d.getD 0 0) (d.getD 1 0):=by unfold opW;rw[if_neg e22,if_neg e23]
  rw[q];refine AZ c1 c2 ?_;refine BL ?_ ?_<;>intro L
  .have B:d.length=1:=by simp at L;omega
   refine AZ J E ?_;refine(SD G op _ v0 H).uu ?_;exact⟨by rw[if_pos B,g0],trivial⟩
  .have B:d.length≠1:=by simp at L;omega
   have R:JJ 1 H (.own o 0 d.length) (.n 1)=some (.ptr o 1 0):=g 1 U;have O:=i 1 U;have Q:d.getD 1 0=d[1]:=by simp_all
   have v1:d[1]<65536:=Z _ (jH _);refine AB ?_;refine DI BC ?_;refine EH J E R O ?_;refine⟨_,Ub G op _ _ v0 v1 H,?_⟩;exact⟨by rw[if_neg B,g0,Q],trivial⟩
theorem AS4 (op:Int)(d:List Nat)(o:Nat)(H:Hp)(X:H[o]?=some (qH 1 (d.map KD)))(Z:∀x∈d,x<65536)(hl:d.length<=1048576)(f:r_ op d.length):
  a_ (En G) 314 [.n op,.own o 0 d.length] H (.n (opW op d:Nat)):=by
 have g:∀k:Nat,k<d.length->JJ 1 H (.own o 0 d.length) (.n (k:Nat))=some (.ptr o k 0):=fun k hk=>by rw[GR X hk,jG]
 have i:∀(k:Nat) (hk:k<d.length),BR jA H 3 (.ptr o k 0)=some (.n (d[k]:Nat)):=fun k hk=>by rw[BJ ct X (row:=KD d[k]) (c8 hk)];rfl
 have V:1<=d.length:=by
  obtain⟨a,b,c⟩:=f;by_cases e:op=22
  .have:=a e;omega
  by_cases e':op=23
  .have:=b e';omega
  .have:=c e e';omega
 have J:JJ 1 H (.own o 0 d.length) (.n 0)=some (.ptr o 0 0):=g 0 V;have E:=i 0 V;have g0:d.getD 0 0=d[0]:=by grind
 have v0:d[0]<65536:=Z _ (jH _);refine cn Tryz.func314 4 ?_;by_cases e22:op=22
 .subst e22
  have a1:d.length=3:=f.1 rfl;have R:JJ 1 H (.own o 0 d.length) (.n 1)=some (.ptr o 1 0):=g 1 U;have i2:JJ 1 H (.own o 0 d.length) (.n 2)=some (.ptr o 2 0):=g 2 U;have O:=i 1 U;have d2:=i 2 U;have Q:d.getD 1 0=d[1]:=by simp_all
  have g2:d.getD 2 0=d[2]:=by simp_all
  refine N8 J E mj kt ?_;cases hz:(d[0]==0)
  .refine AZ R O ?_
   have:d[0]≠0:=BQ hz;exact⟨by unfold opW;rw[if_pos rfl,g0,if_pos this,Q],trivial⟩
  .refine AZ i2 d2 ?_
   have:¬d[0]≠0:=BQ hz;exact⟨by unfold opW;rw[if_pos rfl,g0,if_neg this,g2],trivial⟩
 by_cases e23:op=23
 .subst e23
  obtain⟨Y,h3⟩:=f.2.1 rfl;refine QA ?_;have q:opW 23 d=tr (g_ d[0] (d.drop 1)):=by unfold opW;rw[if_neg DX,if_pos rfl,g0]
  rw[q];refine BB (fun n F S=>∃j,n+j=d.length/\j%2=1/\F 1=.own o 0 d.length/\F 5=.n (j:Nat)/\S=H/\g_ d[0] (d.drop 1)=g_ d[0] (d.drop j)) (d.length-1) ⟨1,U,rfl,AL,AL,rfl,rfl⟩ ?_;rintro n F S ⟨j,hj,a0,M,K,rfl,p⟩;refine DC M K (CZ j) ?_;refine BL ?_ ?_<;>intro L
  .have l:j+1<d.length:=by simp at L;omega
   have ij:=g j U;have C:=g (j+1) l;have dj:=i j U;have A:=i (j+1) l;rw[xU _ _ _ l] at p;have T:IntKind.i64.wrap (((j:Nat):Int)+2)=((j+2:Nat):Int):=by rw[wrap_i64 U U];omega
   have P:IntKind.i64.wrap (((j:Nat):Int)+1)=((j+1:Nat):Int):=wrap_succ (U:j<9223372036854775807);refine AB ?_;refine DI BC ?_;refine V3 M K J E ij dj P C A km J_ ?_;cases I:decide (d[j]<=d[0])
   .refine DC I K T ?_
    exact⟨n-2,U,j+2,U,U,AO,AO,trivial,by rw[p,I];rfl⟩
   .cases N:decide (d[0]<=d[j+1])
    .refine V3 I N M K P C A km J E T ?_
     exact⟨n-2,U,j+2,U,U,AO,AO,trivial,by rw[p,I,N];rfl⟩
    .refine Y9 I N M K P C A km J E ?_
     exact⟨by rw[p,I,N];rfl,trivial⟩
  .have l:d.length<=j+1:=by simp at L;omega
   refine AB ?_;exact⟨by rw[p,Fg _ _ _ l];rfl,trivial⟩
 .have a2:=f.2.2 e22 e23
  have c1:(op==22)=false:=beq_eq_false_iff_ne.2 e22;have c2:(op==23)=false:=beq_eq_false_iff_ne.2 e23;have q:opW op d=if d.length=1 then sgW op (d.getD 0 0) else dbW op (d.getD 0 0) (d.getD 1 0):=by unfold opW;rw[if_neg e22,if_neg e23]
  rw[q];refine AZ c1 c2 ?_;refine BL ?_ ?_<;>intro L
  .have B:d.length=1:=by simp at L;omega
   refine AZ J E ?_;refine(UP G op _ v0 H).uu ?_;exact⟨by rw[if_pos B,g0],trivial⟩
  .have B:d.length≠1:=by simp at L;omega
   have R:JJ 1 H (.own o 0 d.length) (.n 1)=some (.ptr o 1 0):=g 1 U;have O:=i 1 U;have Q:d.getD 1 0=d[1]:=by simp_all
   have v1:d[1]<65536:=Z _ (jH _);refine AB ?_;refine DI BC ?_;refine EH J E R O ?_;refine⟨_,Wj G op _ _ v0 v1 H,?_⟩;exact⟨by rw[if_neg B,g0,Q],trivial⟩
end Xe
namespace Rk
open Sm Bins Cov Go.RowKit
theorem ACalls.args {E:Env}{f:FuncId}{c d:List AV}{h:Hp}{R:AV->Hp->Prop}(e:ACalls E f d h R)(i:∀g a,cS g c a->cS g d a):ACalls E f c h R :=
 ⟨e.1,fun g w a S j=>e.2 g w a S (i g a j)⟩
def hasB (xs:List Int)(z:Int):Bool:=xs.any fun x=>x==z
theorem Vx (G:Nat->AV)(xs:List Int)(s:SM)(z:Int)(h:Hp)(N:xs.length<=1048576):∃k:Int,a_ (En G) 322 [.sl s 1 (xs.map bu),.n z] h (.n k)/\decide (k≥0)=hasB xs z:=by
 by_cases hb:hasB xs z=true
 .obtain⟨i,K⟩:∃i,xs.findIdx? (fun x=>x==z)=some i:=by
   cases C:xs.findIdx? (fun x=>x==z) with
   | some i=>exact⟨i,rfl⟩
   | none =>
     rw[List.findIdx?_eq_none_iff] at C;unfold hasB at hb;rw[List.any_eq_true] at hb;obtain⟨x,M,E⟩:=hb;rw[C x M] at E;cases E
  refine⟨(i:Int),?_,by rw[hb];simp⟩;obtain⟨L,q,g⟩:=List.findIdx?_eq_some_iff_getElem.1 K;refine cn Tryz.func322 4 ?_;refine AB ?_;refine BB (fun n F H=>∃k,n+k=xs.length/\k<=i/\F 0=.sl s 1 (xs.map bu)/\F 1=.n z/\F 7=.n (xs.length:Nat)/\F 8=.n (k:Nat)/\H=h) xs.length ⟨0,BA,U,AL,AL,AL,AL,rfl⟩ ?_;rintro n F H ⟨k,hk,A,l,p,j,f,rfl⟩;have a:k<xs.length:=U;have J:decide (((k:Nat):Int)<((xs.length:Nat):Int))=true:=by simp;omega
  simp only[vQ,CP,↓reduceIte,Nat.reduceEqDiff,Option.getD_some,om,b_,J8,j,f,J,l,p,CE a,BK ct a,Cov.cy];rcases Nat.eq_or_lt_of_le A with e|B
  .subst e
   have c:(z==xs[k])=true:=by rw[BEq.comm];exact q
   refine AZ c f ?_;exact H7
  .have c:(z==xs[k])=false:=by
    have:=g k B;rw[BEq.comm];simpa using this
   refine DC c f (CZ k) ?_;exact⟨n-1,U,k+1,U,U,AO,AO,AO,rfl,trivial⟩
 .have d:hasB xs z=false:=BQ hb
  refine⟨-1,?_,by rw[d];decide⟩;refine cn Tryz.func322 4 ?_;refine AB ?_;refine BB (fun n F H=>∃k,n+k=xs.length/\F 0=.sl s 1 (xs.map bu)/\F 1=.n z/\F 7=.n (xs.length:Nat)/\F 8=.n (k:Nat)/\H=h) xs.length ⟨0,BA,AL,AL,AL,AL,rfl⟩ ?_;rintro n F H ⟨k,hk,l,p,j,f,rfl⟩;refine AZ j f ?_;refine BL ?_ ?_<;>intro I
  .have a:k<xs.length:=BQ I
   have c:(z==xs[k])=false:=by
    rw[<-Bool.not_eq_true];intro e;unfold hasB at d;rw[List.any_eq_false] at d;exact d xs[k] (List.getElem_mem a) (by rw[BEq.comm];exact e)
   refine LJ l p f a @Cov.cy c (CZ k) ?_;exact⟨n-1,U,k+1,U,AO,AO,j,rfl,trivial⟩
  .refine AB ?_
   exact H7
theorem jm (G:Nat->AV)(xs:List Int)(s:SM)(z:Int)(h:Hp)(c:xs.length<=1048576):a_ (En G) 286 [.sl s 1 (xs.map bu),.n z] h (.bool (hasB xs z)):=by
 obtain⟨k,hk,a⟩:=Vx G xs s z h c;refine cn Tryz.func286 4 ?_;refine AB ?_;refine hk.use ?_;refine A7 a ?_;exact H7
end Rk
namespace Xe
open Sm Bins Cov Go.RowKit
variable {h h0:Hp} {ns:List ByteArray} {c:Nat} {v:AV} (G:Nat->AV )
theorem Me:jd cu:=fun _ _ _ _=>⟨rfl,rfl⟩
theorem iq (s:ByteArray):(cu s)[0]?=some (.str s):=rfl
theorem Yk (xs:List ByteArray)(b:Nat)(v:ByteArray)(h:Hp)(B:h[b]?=some (qH 1 (xs.map cu)))(T:xs.length<=1099511627776):
  ∃k:Int,a_ (En G) 279 [.own b 0 xs.length,.str v] h (.n k)/\decide (k≥0)=JC xs v:=by
 have key:∀r:Int,(∀i (E:i<xs.length),(∀j (l:j<i),(v.toList==xs[j].toList)=false)->(v.toList==xs[i].toList)=true->r=(i:Int))->(JC xs v=false->r = -1)->a_ (En G) 279 [.own b 0 xs.length,.str v] h (.n r):=by
  intro r Q A;refine cn Tryz.func279 4 ?_;refine AB ?_;refine BB (fun n F H=>∃k,n+k=xs.length/\F 0=.own b 0 xs.length/\F 1=.str v/\F 7=.n (xs.length:Nat)/\F 8=.n (k:Nat)/\H=h/\(∀j (l:j<xs.length),j<k->(v.toList==xs[j].toList)=false)/\JC xs v=JC (xs.drop k) v) xs.length ⟨0,BA,AL,AL,AL,AL,rfl,fun j _ l=>U,rfl⟩ ?_;rintro n F H ⟨k,hk,J,K,L,q,rfl,a,p⟩;refine AZ L q ?_;refine DV ?_ ?_<;>intro e
  .have R:JC (xs.drop k) v=((v.toList==xs[k].toList)||JC (xs.drop (k+1)) v):=NH _ xs k e
   have S:BR jA H 9 (.ptr b k 0)=some (.str xs[k]):=by rw[BJ eo B (row:=cu xs[k]) (c8 e)];rfl
   simp only[vQ,CP,QN,↓reduceIte,jC,Nat.zero_add,b_,cZ,J,K,q,GR B e,S];refine BL ?_ ?_<;>intro f
   .refine AB ?_
    exact⟨by rw[Q k e (fun j l=>a j U l) f],trivial⟩
   .refine AZ q (CZ k) ?_
    refine⟨n-1,U,k+1,U,AO,AO,AO,rfl,trivial,fun j l P=>?_,by rw[p,R,f,Bool.false_or]⟩;rcases Nat.lt_or_ge j k with g|g
    .exact a j l g
    .grind
  .refine AB ?_
   refine⟨?_,trivial⟩;rw[A (by rw[p,List.drop_eq_nil_of_le U];rfl)]
 by_cases hh:JC xs v=true
 .obtain⟨i,E⟩:∃i,xs.findIdx? (fun u=>v.toList==u.toList)=some i:=by
   cases C:xs.findIdx? (fun u=>v.toList==u.toList) with
   | some i=>exact⟨i,rfl⟩
   | none =>
     rw[List.findIdx?_eq_none_iff] at C;unfold JC at hh;rw[List.any_eq_true] at hh;obtain⟨x,f,I⟩:=hh;rw[C x f] at I;cases I
  obtain⟨N,O,a⟩:=List.findIdx?_eq_some_iff_getElem.1 E;refine⟨(i:Int),key i (fun k hk M f=>?_) (fun h0=>by rw[hh] at h0;cases h0),by rw[hh];simp⟩;rcases Nat.lt_trichotomy i k with g|g|g
  .simp_all
  .rw[g]
  .simp_all
 .have d:JC xs v=false:=BQ hh
  refine⟨-1,key (-1) (fun k hk _ f=>?_) (fun _=>rfl),by rw[d];decide⟩;unfold JC at d;rw[List.any_eq_false] at d;exact absurd f (d xs[k] (jH hk))
theorem Yl (k:Nat)(v:ByteArray)(h:Hp):a_ (En G) 279 [.sl .nil k [],.str v] h (.n (-1)):=by
 refine cn Tryz.func279 4 ?_;refine QA ?_;refine BB (fun n F H=>F 7=.n 0/\F 8=.n 0/\H=h) 0 ⟨AL,AL,rfl⟩ ?_;rintro n F H ⟨a,d,rfl⟩;have e:((0:Int)<0)=False:=BA;refine G7 @decide_false a d e @decide_false ?_;exact⟨AO,trivial⟩
theorem Pf {u:AV}(f:bw 1 cu h0 ns u h)(v:ByteArray)(g:ns.length<=8388608):a_ (En G) 219 [u,.str v] h (.bool (JC ns v)):=by
 have e:∃k:Int,a_ (En G) 279 [u,.str v] h (.n k)/\decide (k≥0)=JC ns v:=by
  rcases f with⟨rfl,rfl⟩|⟨_,o,_,rfl,a⟩
  .exact⟨-1,Yl G 0 v h,rfl⟩
  .exact Yk G ns o v h a U
 obtain⟨k,hk,d⟩:=e;refine cn Tryz.func219 4 ?_;refine AB ?_;refine hk.use ?_;refine A7 d ?_;exact H7
def kc (ops:List Int)(ns:List ByteArray)(e:Ex):List ByteArray:=if(Rk.hasB ops e.op && !JC ns e.name)=true then ns++[e.name] else ns
def gj (ops:List Int)(ns:List ByteArray)(l:List Ex):List ByteArray:=l.foldl (kc ops) ns
theorem Hi (ops:List Int)(ns:List ByteArray)(e:Ex):(kc ops ns e).length<=ns.length+1:=by
 unfold kc;split<;>simp
theorem bM (ops:List Int):∀(l:List Ex) (ns:List ByteArray),(gj ops ns l).length<=ns.length+l.length
 | [],ns=>by simp [gj]
 | e::l,ns=>by
   have a:=bM ops l (kc ops ns e);have d:=Hi ops ns e
   simp only[gj,List.foldl_cons,List.length_cons] at a|-
   omega
theorem AYH (ops:List Int)(ns:List ByteArray)(l r:List Ex):gj ops ns (l++r)=gj ops (gj ops ns l) r:=List.foldl_append
structure kd (h0:Hp) (c:Nat) (ns:List ByteArray) (v:AV) (h:Hp):Prop where
 cell:h[c]?=some (qH 1 [[v]])
 out:bw 1 cu h0 ns v h
 base:h0.length<=c
 ex:ext h0 h
abbrev Cn (c:Nat)(v:AV)(h:Hp)(v':AV)(h':Hp):Prop:=Ch c v .nilfn h v' .nilfn h'
theorem kd.ne {b k:Nat}{row:List AV}(s:kd h0 c ns v h)(f:h[b]?=some (qH k [row]))(a:k≠1\/∀x,row≠[.str x]):¬db v b:=by
 intro g;rcases s.out with⟨_,rfl⟩|⟨i,o,_,rfl,j⟩
 .exact g
 .have e:o=b:=g
  subst e;rw[j] at f
  injection Option.some.inj f with e1 d
  rcases a with a|a
  .exact a e1.symm
  .match ns,d with
   | [x],d=>simp [cu] at d;exact a x d.symm
theorem kd.app {h0 h:Hp}{c:Nat}{ns:List ByteArray}{v:AV}(s:kd h0 c ns v h)(x:Hp):kd h0 c ns v (h++x):=⟨JM s.cell,s.out.app x,s.base,s.ex.app x⟩
theorem kd.cne (s:kd h0 c ns v h):¬db v c:=by
 refine s.ne s.cell (.inr fun x e=>?_);rcases s.out with⟨_,rfl⟩|⟨_,o,_,rfl,_⟩<;>simp at e
theorem Cn.keep {b:Nat}{d:Hp}{j:AV}{x:bO}(g:Cn c v h j d)(f:h[b]?=some x)(a:b≠c)(i:¬db v b):d[b]?=some x:=by
 rw[g.get b (AY f) a i (fun e=>e)];exact f
theorem SJ (ops:List Int)(A:ops.length<=1048576)(h0:Hp)(c K:Nat)(Q:SM)(e:Ex)(h:Hp)(ns:List ByteArray)(v:AV)(S:kd h0 c ns v h)(J:h[K]?=some (qH 1 [[.sl Q 1 (ops.map bu)]]))(hn:ns.length<8388608):
  ACalls (En G) 289 [.agg (AQ e),.ptr K 0 0,.ptr c 0 0] h fun r L=>r=.bool true/\∃j,Cn c v h j L/\kd h0 c (kc ops ns e) j L:=by
 refine cn Tryz.func289 4 ?_;have a:=S.app [qH 4 [AQ e]];have g:(h++[qH 4 [AQ e]])[K]?=_:=AU J;have d:Cn c v h v (h++[qH 4 [AQ e]]):=Ch.app c v .nilfn h _;have E:=A8 h (qH 4 [AQ e]);have a1:=AY S.cell;refine A7 @fa ?_
 generalize h++[qH 4 [AQ e]]=H at a g d E|-
 have l0:BR jA H 3 (.ptr h.length 0 0)=some (.n e.op):=by rw[BJ ct E (row:=AQ e) rfl,KQ]
 have O:BR jA H 9 (.ptr h.length 0 2)=some (.str e.name):=by rw[BJ eo E (row:=AQ e) rfl,SS]
 refine AZ (IA MB g) l0 ?_;refine(Rk.jm G ops Q e.op H A).uu ?_
 have key:∀B C:Bool,Rk.hasB ops e.op=B->JC ns e.name=C->(B && !C)=false->kc ops ns e=ns:=fun B C T V X=>by
  unfold kc;rw[T,V,X];simp
 cases i:Rk.hasB ops e.op
 .refine AB ?_
  exact⟨trivial,v,d,by rw[key _ _ i rfl rfl];exact a⟩
 refine AZ (IA p' a.cell) O ?_;refine(Pf G a.out e.name U).uu ?_;cases p:JC ns e.name
 .have hu:kc ops ns e=ns++[e.name]:=by unfold kc;rw[i,p];rfl
  obtain⟨j,R,Y,N,hk,hex,hle,f⟩:=a.out.append (P:=jA) Al tt Ao AN U hn a.ex e.name;have F:EJ jA true H 121 121 v (.sl .full 1 [[.str e.name]])=some (j,R):=Y;have q:=hk c _ a.cell a.cne;have M:=AY a.cell
  have I:JI j=some [j]:=by
   rcases N with⟨_,rfl⟩|⟨_,o,_,rfl,_⟩<;>rfl
  refine G7 (IA p' a.cell) O AW F (WC Av I q) ?_;refine⟨trivial,j,d.trans ⟨BQ hle,fun b l Z a0 _=>?_,fun b l=>.inr (by rw[f b l];exact Nat.le_refl _),fun b l=>l.elim⟩,?_⟩
  .grind
  .rw[hu]
   exact⟨CO q,N.keep fun b l=>by rw[zW,if_neg (fun e=>by have:=f b l;omega)],a.base,hex.set a.base _⟩
 .refine AB ?_
  exact⟨trivial,v,d,by rw[key _ _ i p rfl];exact a⟩
theorem ATC (ops:List Int)(ns:List ByteArray)(e:Ex):gj ops ns (pre e)=gj ops (kc ops ns e) (FV e.args):=by rw[pre_eq];rfl
theorem Vj (ops:List Int)(Y:ops.length<=1048576)(h0:Hp)(c M K B:Nat)(s0:SM)(hv:K≠c)(hd:B≠c)(X:M≠c)(e:Ex):
  wt e<=1099511627776->∀(h:Hp) (ns:List ByteArray) (v:AV),kd h0 c ns v h->h[M]?=some (qH 1 [[.sl s0 1 (ops.map bu)]])->ns.length+(pre e).length<=8388608 ->
   h[K]?=some (qH 1 [[.fn (.func 289) [] [.ptr M 0 0,.ptr c 0 0]]])->h[B]?=some (qH 1 [[.fn (.func 248) [] [.ptr K 0 0,.ptr B 0 0]]]) ->
   ACalls (En G) 248 [.agg (AQ e),.ptr K 0 0,.ptr B 0 0] h fun r h'=>r=.bool true/\∃i,Cn c v h i h'/\kd h0 c (gj ops ns (pre e)) i h':=by
 induction e using Ex.induct with|h e ih=>?_
 intro hw h ns v S E a5 J Q;have a7:=AY S.cell;have a6:e.args.length<=1099511627776:=by have:=YB e.args;have:=OI e;omega
 have ab:(pre e).length=(FV e.args).length+1:=by rw[pre_eq];rfl
 have p:∀(k:FuncId) (a b:List AV) (x:ByteArray),[AV.fn (.func k) a b]≠[.str x]:=fun _ _ _ _ q=>by simp at q
 have Z:∀(xs:List (List AV)) (x:ByteArray),[AV.sl s0 1 xs]≠[.str x]:=fun _ _ q=>by simp at q
 refine cn Tryz.func248 4 ?_;have S0:=S.app [qH 4 [AQ e]];simp only[vQ,CP,V8,zX,zG,↓reduceIte,jC,b_,fa,IA Sm.je (AU J),ka];refine(SJ G ops Y h0 c M s0 e _ ns v S0 (AU E) U).mono ?_;rintro r h1 ⟨rfl,v1,N,S1⟩;have f:Cn c v h v1 h1:=(Ch.app c v .nilfn h _).trans N;have a4:h1[h.length]?=some (qH 4 [AQ e]):=N.keep (A8 _ _) U (S0.ne (A8 _ _) (.inl DX));have a1:=f.keep J hv (S.ne J (.inr (p _ _ _)));have R:=f.keep Q hd (S.ne Q (.inr (p _ _ _)));have V:=f.keep E X (S.ne E (.inr (Z _)));have l3:BR jA h1 23 (.ptr h.length 0 3)=some (.sl e.m 4 (e.args.map AQ)):=by rw[BJ MQ a4 (row:=AQ e) rfl,ZE]
 have aa:=Hi ops ns e;refine A7 l3 ?_
 refine BB (fun n F H=>∃j i,n+j=e.args.length/\F 1=.ptr K 0 0/\F 2=.ptr B 0 0/\F 12=.sl e.m 4 (e.args.map AQ)/\F 13=.n e.args.length/\F 14=.n (j:Nat)/\Cn c v h i H/\kd h0 c (gj ops (kc ops ns e) (FV (e.args.take j))) i H/\H[K]?=some (qH 1 [[.fn (.func 289) [] [.ptr M 0 0,.ptr c 0 0]]])/\H[B]?=some (qH 1 [[.fn (.func 248) [] [.ptr K 0 0,.ptr B 0 0]]])/\H[M]?=some (qH 1 [[.sl s0 1 (ops.map bu)]])) e.args.length
  ⟨0,v1,BA,FB,FB,FB,FB,FB,f,S1,a1,R,V⟩ ?_
 rintro n F H ⟨j,i,hj,f1,f2,f12,f13,f14,hC,L,I,l,C⟩;refine AZ f13 f14 ?_;refine DV ?_ ?_<;>intro g
 .have A:e.args[j]∈e.args:=jH g
  have a2:FV e.args=FV (e.args.take j)++(pre e.args[j]++FV (e.args.drop (j+1))):=by
   rw[<-List.append_assoc,<-MI _ _ g,<-NY,List.take_append_drop]
  have a8:=bM ops (FV (e.args.take j)) (kc ops ns e);have a9:(FV e.args).length=(FV (e.args.take j)).length+((pre e.args[j]).length+(FV (e.args.drop (j+1))).length):=by simp_all
  simp only[vQ,CP,zX,zG,↓reduceIte,jC,b_,P5,Option.getD_none,f12,f14,CE g,DL NU G9 EF g,OH,iN _ _ [.n 0,.n 0,.str ⟨#[]⟩,.sl .nil 0 []] rfl,f2,IA Sm.je (AU l),ka];have a3:=L.app [qH 4 [AQ e.args[j]]];refine(ih e.args[j] A (by have:=YA A;have:=OI e;omega) _ _ i a3 (AU C) U (AU I) (AU l)).mono ?_;rintro r h2 ⟨rfl,v2,O,S2⟩;have d:Cn c i H v2 h2:=(Ch.app c i .nilfn H _).trans O;have a0:=d.keep I hv (L.ne I (.inr (p _ _ _)));have P:=d.keep l hd (L.ne l (.inr (p _ _ _)));have T:=d.keep C X (L.ne C (.inr (Z _)));refine LP f1 f2 f12 f13 f14 (CZ j) ?_;refine⟨n-1,U,j+1,v2,U,trivial,trivial,trivial,trivial,rfl,hC.trans d,?_,a0,P,T⟩;rw[MI _ _ g,AYH];exact S2
 .refine AB ?_
  rw[List.take_of_length_le U,<-ATC] at L;exact⟨trivial,i,hC,L⟩
theorem Uv (ops:List Int)(l:ops.length<=1048576)(h0:Hp)(c a:Nat)(p:SM)(O:a≠c)(e:Ex)(hw:wt e<=1048576)(h:Hp)(ns:List ByteArray)(v:AV)(S:kd h0 c ns v h)(j:h[a]?=some (qH 1 [[.sl p 1 (ops.map bu)]]))(hn:ns.length<=1048576):
  ACalls (En G) 170 [.agg (AQ e),.fn (.func 289) [] [.ptr a 0 0,.ptr c 0 0]] h fun _ C=>∃A,Cn c v h A C/\kd h0 c (gj ops ns (pre e)) A C:=by
 have a1:=AY S.cell;have hol:=AY j;refine e7 Tryz.func170 [] ?_;generalize i:AV.fn (.func 289) [] [.ptr a 0 0,.ptr c 0 0]=fv;have K:∀H:Hp,OU H fv=some (.ptr H.length 0 0,H++[qH 1 [[fv]]]):=fun H=>by rw[<-i];rfl
 refine DC @fa K Cy ?_;have g0:(h++[qH 4 [AQ e]]++[qH 1 [[fv]]]++[qH 1 [[AV.nilfn]]])[(h++[qH 4 [AQ e]]++[qH 1 [[fv]]]).length]?=some (qH 1 [[.nilfn]]):=A8 _ _;simp only[vQ,CP,↓reduceIte,jC,b_,WC Sm.l_ (CH _ _ _) g0];have d:=((S.app [qH 4 [AQ e]]).app [qH 1 [[fv]]]).app [qH 1 [[AV.nilfn]]];have B:Cn c v h v (h++[qH 4 [AQ e]]++[qH 1 [[fv]]]++[qH 1 [[AV.nilfn]]]):=((Ch.app c v .nilfn h _).trans (Ch.app _ _ _ _ _)).trans (Ch.app _ _ _ _ _);have Q:(h++[qH 4 [AQ e]]++[qH 1 [[fv]]]++[qH 1 [[AV.nilfn]]])[(h++[qH 4 [AQ e]]).length]?=some (qH 1 [[fv]]):=AU (A8 _ _);have R:(h++[qH 4 [AQ e]]++[qH 1 [[fv]]]++[qH 1 [[AV.nilfn]]])[h.length]?=some (qH 4 [AQ e]):=AU (AU (A8 _ _));have X:(h++[qH 4 [AQ e]]++[qH 1 [[fv]]]++[qH 1 [[AV.nilfn]]])[a]?=some (qH 1 [[.sl p 1 (ops.map bu)]]):=AU (AU (AU j));have M:(h++[qH 4 [AQ e]]++[qH 1 [[fv]]]).length=h.length+2:=BA;have P:(h++[qH 4 [AQ e]]).length=h.length+1:=BA
 generalize (h++[qH 4 [AQ e]]++[qH 1 [[fv]]]).length=f at g0 M|-
 generalize (h++[qH 4 [AQ e]]).length=vb at Q P|-
 generalize h++[qH 4 [AQ e]]++[qH 1 [[fv]]]++[qH 1 [[AV.nilfn]]]=H at g0 d B Q R X|-
 have N:¬db v f:=d.ne g0 (.inr fun x q=>by simp at q);generalize g:H.set f (qH 1 [[AV.fn (.func 248) [] [.ptr vb 0 0,.ptr f 0 0]]])=H';have T:H'[f]?=some (qH 1 [[.fn (.func 248) [] [.ptr vb 0 0,.ptr f 0 0]]]):=by rw[<-g];exact CO g0
 have V:H'[vb]?=some (qH 1 [[fv]]):=by rw[<-g];exact DU Q U
 have ge:H'[h.length]?=some (qH 4 [AQ e]):=by rw[<-g];exact DU R U
 have go:H'[a]?=some (qH 1 [[.sl p 1 (ops.map bu)]]):=by rw[<-g];exact DU X U
 have a0:=S.ex.le
 have Y:kd h0 c ns v H':=by
  rw[<-g];exact⟨DU d.cell U,d.out.keep fun b E=>by rw[zW,if_neg (fun q=>N (by rw[q];exact E))],d.base,d.ex.set U _⟩
 have c4:Cn c v h v H':=by
  rw[<-g];exact⟨by have:=B.len;simpa using this,fun b E F J I=>by rw[zW,if_neg U];exact B.get b E F J I,fun _ q=>.inl q,fun _ q=>.inl q⟩
 simp only[vQ,CP,zX,zG,↓reduceIte,jC,b_,IA Sm.je T,IL ge];rw[<-i] at V;have hp:=YM e;refine(Vj G ops l h0 c a vb f p U U O e U H' ns v Y go U V T).mono ?_;rintro r C ⟨rfl,A,L,Z⟩;refine A7 @sF ?_;exact⟨A,c4.trans L,Z⟩
theorem Qi (h:Hp):H9 jA h 121=some (.ptr h.length 0 0,h++[qH 1 [[.sl .nil 0 []]]]):=FZ (row:=[.sl .nil 0 []]) BC
theorem pW (ops:List Int)(d:ops.length<=1048576)(a:SM)(e:Ex)(A:wt e<=1048576)(h:Hp):a_ (En G) 235 [.agg (AQ e),.sl a 1 (ops.map bu)] h (.sl (nm (gj ops [] (pre e))) 1 ((gj ops [] (pre e)).map cu)):=by
 refine JL Me ?_;refine cn Tryz.func235 4 ?_;have l:=AU (x:=qH 1 [[.sl .nil 0 []]]) (AU (x:=qH 1 [[AV.sl a 1 (ops.map bu)]]) (A8 h (qH 4 [AQ e])));have i:=AU (x:=qH 1 [[.sl .nil 0 []]]) (A8 (h++[qH 4 [AQ e]]) (qH 1 [[AV.sl a 1 (ops.map bu)]]));have g:=A8 (h++[qH 4 [AQ e]]++[qH 1 [[AV.sl a 1 (ops.map bu)]]]) (qH 1 [[.sl .nil 0 []]]);have p:ext h (h++[qH 4 [AQ e]]++[qH 1 [[AV.sl a 1 (ops.map bu)]]]++[qH 1 [[.sl .nil 0 []]]]):=(((ext.rfl' h).app _).app _).app _;have hol:(h++[qH 4 [AQ e]]).length=h.length+1:=BA;have j:(h++[qH 4 [AQ e]]++[qH 1 [[AV.sl a 1 (ops.map bu)]]]).length=h.length+2:=BA;refine DC @tF @fa Qi ?_
 generalize h++[qH 4 [AQ e]]++[qH 1 [[AV.sl a 1 (ops.map bu)]]]++[qH 1 [[.sl .nil 0 []]]]=H at l i g p|-
 generalize (h++[qH 4 [AQ e]]++[qH 1 [[AV.sl a 1 (ops.map bu)]]]).length=c at g j|-
 generalize (h++[qH 4 [AQ e]]).length=ob at i hol|-
 refine A7 (IL l) ?_;have S:kd h c [] (.sl .nil 0 []) H:=⟨g,bw.nil _ _ _ _,U,p⟩;refine(Uv G ops d h c ob a U e A H [] _ S i BA).mono ?_;rintro r B ⟨C,q,f⟩;refine A7 (IA p' f.cell) ?_;exact⟨f.ex,f.out⟩
theorem Pq (h:Hp)(a b:Int):DR jA false h 32 2 [(0,.n a),(1,.n b)]=some (.sl .full 1 [[.n a],[.n b]],h):=BC
theorem eU (e:Ex)(a:wt e<=1048576)(h:Hp):a_ (En G) 156 [.agg (AQ e)] h (.sl (nm (gj [2] [] (pre e))) 1 ((gj [2] [] (pre e)).map cu)):=by
 refine ACalls.pure0 rfl ?_;refine cn Tryz.func156 2 ?_;refine DC @fa @ka od ?_;refine(pW G [2] DX .full e a _).uu ?_;exact⟨trivial,_,rfl⟩
theorem bA (e:Ex)(a:wt e<=1048576)(h:Hp):a_ (En G) 154 [.agg (AQ e)] h (.sl (nm (gj [3,24] [] (pre e))) 1 ((gj [3,24] [] (pre e)).map cu)):=by
 refine ACalls.pure0 rfl ?_;refine cn Tryz.func154 2 ?_;refine DC @fa @ka @Pq ?_;refine(pW G [3,24] DX .full e a _).uu ?_;exact⟨trivial,_,rfl⟩
end Xe
namespace Xe
open Sm Bins Cov Wd Go.RowKit
def fC (l:List Sg)(op n:Int)(a:ByteArray)(c:List Nat):Nat :=
 if op=1 then n.toNat%65536 else if op=2 then (NK l a).1 else if op=3 then (jw l a (c.getD 0 0:Nat)).1 else if op=24 then sumTo l a 8 else opW op c
mutual
def UB (l:List Sg):Ex->Nat
 | .mk d n c _ a=>fC l d n c (NJ l a)
def NJ (l:List Sg):List Ex->List Nat
 | []=>[]
 | e::es=>UB l e::NJ l es
end
theorem bE (l:List Sg)(e:Ex):UB l e=fC l e.op e.n e.name (NJ l e.args):=by cases e;simp [UB,Ex.op,Ex.n,Ex.name,Ex.args]
theorem QZ (l:List Sg):∀xs:List Ex,NJ l xs=xs.map (UB l)
 | []=>by simp [NJ]
 | e::es=>by simp [NJ,QZ l es]
theorem bD (l:List Sg)(xs:List Ex):(NJ l xs).length=xs.length:=by rw[QZ,List.length_map]
theorem oL (l:List Sg)(xs:List Ex)(j:Nat)(a:j<xs.length):NJ l (xs.take (j+1))=NJ l (xs.take j)++[UB l xs[j]]:=by
 rw[QZ,QZ,List.take_succ_eq_append_getElem a,List.map_append];rfl
theorem AXC (l:List Sg)(e:Ex):UB l e<65536:=by
 induction e using Ex.induct with|h e ih=>?_
 rw[bE]
 have f:∀x∈NJ l e.args,x<65536:=by
  intro x c;rw[QZ] at c;obtain⟨a,d,rfl⟩:=zO.1 c;exact ih a d
 unfold fC;split
 .exact Nat.mod_lt _ U
 split
 .exact rT _ _
 split
 .exact Aj _ _ _
 split
 .exact oQ _ _ _
 .exact LL _ f
theorem DG (l:List Sg)(xs:List Ex):∀x∈NJ l xs,x<65536:=by
 intro x c;rw[QZ] at c;obtain⟨a,_,rfl⟩:=zO.1 c;exact AXC l a
def iu (l:List Sg)(e:Ex):Bool:=if e.op=2 then (NK l e.name).2 else if e.op=3\/e.op=24 then (jw l e.name 0).2 else true
theorem fg {e:Ex}(h:IQ e=0):(e.op=1->0<=e.n/\e.n<=65535)/\(e.op=3->e.args.length=1)/\(e.op≠1->e.op≠2->e.op≠3->e.op≠24->r_ e.op e.args.length):=by
 unfold IQ at h;have p:dy e=false:=by grind
 have l:eN e=false:=by grind
 have g:XZ e=false:=by grind
 have a:YP e.op e.args.length=true:=by
  unfold XZ at g;rw[Bool.or_eq_false_iff] at g;simpa using g.2
 have j:1<=e.op/\e.op<=25:=by unfold dy at p;simp at p;omega
 refine⟨fun j=>?_,fun q=>?_,fun E F I A=>⟨fun d=>?_,fun f=>?_,fun i c=>?_⟩⟩
 .unfold eN at l;simp [j] at l;omega
 .unfold YP at a;rw[q] at a;simp [arity] at a;omega
 .unfold YP at a;rw[d] at a;simp [arity] at a;omega
 .unfold YP at a;rw[f] at a;simp at a;omega
 .unfold YP at a
  rw[if_neg (BQ c)] at a
  have B:arity e.op=1\/arity e.op=2:=by
   by_cases hq:e.op=3\/e.op=4\/e.op=5\/e.op=6\/e.op=25
   .left;unfold arity;rw[if_neg U,if_neg U,if_pos hq]
   .right;unfold arity;rw[if_neg U,if_neg U,if_neg hq,if_neg i,if_neg c]
  have C:((e.args.length:Nat):Int)=arity e.op:=BQ a;omega
theorem str_eq {a b:ByteArray}(h:(a.toList==b.toList)=true):a=b:=by
 rw[ByteArray.toList_eq,ByteArray.toList_eq] at h;exact ByteArray.ext (Array.toList_inj.1 (beq_iff_eq.1 h))
theorem AYG (P:ByteArray->Bool)(ops:List Int)(ns:List ByteArray)(e:Ex):(kc ops ns e).all P=(ns.all P&&(!Rk.hasB ops e.op||P e.name)):=by
 unfold kc;cases g:Rk.hasB ops e.op
 .simp
 cases a:JC ns e.name
 .simp
 .simp
  intro c;unfold JC at a;rw[List.any_eq_true] at a;obtain⟨u,f,d⟩:=a;rw[str_eq d];exact c u f
theorem fP (P:ByteArray->Bool)(ops:List Int):∀(xs:List Ex) (ns:List ByteArray),(gj ops ns xs).all P=(ns.all P&&xs.all fun e => !Rk.hasB ops e.op||P e.name)
 | [],ns=>by simp [gj]
 | e::xs,ns=>by
   have:=fP P ops xs (kc ops ns e)
   simp only[gj,List.foldl_cons,List.all_cons] at this|-
   rw[this,AYG,Bool.and_assoc]
theorem Ze (l:List Sg)(xs:List Ex):((gj [2] [] xs).all (fun n=>(NK l n).2)&&(gj [3,24] [] xs).all fun n=>(jw l n 0).2)=xs.all (iu l):=by
 rw[fP,fP,Bool.eq_iff_iff];simp only[List.all_nil,qX,Bool.and_eq_true,List.all_eq_true];constructor
 .rintro⟨d,e⟩ x c
  have a:=d x c;have b:=e x c;unfold iu;unfold Rk.hasB at a b;by_cases e2:x.op=2
  .rw[if_pos e2];simpa [e2] using a
  by_cases e3:x.op=3\/x.op=24
  .grind
  .rw[if_neg e2,if_neg e3]
 .intro h
  refine⟨fun x c=>?_,fun x c=>?_⟩
  .have a:=h x c
   unfold iu at a;unfold Rk.hasB;by_cases e2:x.op=2
   .rw[if_pos e2] at a;simp [e2,a]
   .grind
  .have a:=h x c
   unfold iu at a;unfold Rk.hasB;by_cases e3:x.op=3\/x.op=24
   .grind
   .grind
theorem Ge {α:Type}(P:α->Bool)(xs:List α)(k:Nat)(hk:k<xs.length):(xs.drop k).all P=(P xs[k]&&(xs.drop (k+1)).all P):=by
 rw[List.drop_eq_getElem_cons hk];rfl
theorem Hj (ops:List Int):∀(xs:List Ex) (ns:List ByteArray) (n:ByteArray),n∈gj ops ns xs->n∈ns\/∃x∈xs,n=x.name
 | [],ns,n,h=>.inl h
 | e::xs,ns,n,h=>by
   rcases Hj ops xs (kc ops ns e) n h with a|⟨x,d,c⟩
   .unfold kc at a
    split at a
    .grind
    .exact .inl a
   .grind
section
variable (G:Nat->AV)
theorem ic (l:List Sg)(m:SM)(e:Ex)(h:Hp)(Q:l.length<=1099511627776)(R:wt e<=1048576):a_ (En G) 225 [.agg [.sl m 2 (l.map FY)],.agg (AQ e)] h (.bool ((pre e).all (iu l))):=by
 refine ACalls.pure0 rfl ?_;rw[<-Ze];have Y:=YM e;have E:=bM [2] (pre e) [];have I:=bM [3,24] (pre e) []
 have C:∀n∈gj [3,24] [] (pre e),n.size<=1048576:=fun n X=>by
  rcases Hj _ _ _ n X with T|⟨x,i,rfl⟩
  .cases T
  .have:=Eo i;omega
 have P:=eU G e R;have O:=bA G e R;simp only[List.length_nil,jG] at E I
 generalize gj [2] [] (pre e)=ns at E P|-
 generalize gj [3,24] [] (pre e)=ars at I O C|-
 refine cn Tryz.func225 4 ?_;have M:=AU (x:=qH 4 [AQ e]) (A8 h (qH 1 [[.sl m 2 (l.map FY)]]));have K:=A8 (h++[qH 1 [[.sl m 2 (l.map FY)]]]) (qH 4 [AQ e]);have i:ext h (h++[qH 1 [[.sl m 2 (l.map FY)]]]++[qH 4 [AQ e]]):=((ext.rfl' h).app _).app _;refine AZ (se h (.sl m 2 (l.map FY)) rfl) @fa ?_
 generalize h++[qH 1 [[.sl m 2 (l.map FY)]]]++[qH 4 [AQ e]]=H at M K i|-
 generalize (h++[qH 1 [[.sl m 2 (l.map FY)]]]).length=eb at K|-
 refine A7 (IL K) ?_;refine(P H).uu ?_;refine EG 0 (fun F f=>F 2=.ptr h.length 0 0/\F 3=.ptr eb 0 0/\f=H/\ns.all (fun n=>(NK l n).2)=true) (fun F f=>F 4=.bool false/\f=H/\ns.all (fun n=>(NK l n).2)=false) ?_ ?_ ?_
 .refine BB (fun k F f=>∃j,k+j=ns.length/\F 2=.ptr h.length 0 0/\F 3=.ptr eb 0 0/\F 14=.sl (nm ns) 1 (ns.map cu)/\F 15=.n (ns.length:Nat)/\F 16=.n (j:Nat)/\f=H/\ns.all (fun n=>(NK l n).2)=(ns.drop j).all fun n=>(NK l n).2) ns.length ⟨0,BA,AL,AL,AL,AL,AL,rfl,rfl⟩ ?_
  rintro k F f ⟨j,V,q,J,f14,f15,f16,rfl,a⟩;refine AZ f15 f16 ?_;refine DV ?_ ?_<;>intro d
  .rw[Ge _ ns j d] at a
   simp only[vQ,CP,↓reduceIte,jC,b_,cZ,q,f14,f16,CE d,BK eo d,iq,cY M];refine(kG G l m _ f Q).use ?_;unfold WF;refine AB ?_;cases hk:(NK l ns[j]).2
   .refine AB ?_
    exact⟨trivial,trivial,by rw[a,hk];rfl⟩
   .refine LP q J f14 f15 f16 (CZ j) ?_
    exact⟨k-1,U,j+1,U,AO,AO,AO,AO,AO,trivial,by rw[a,hk];rfl⟩
  .refine AB ?_
   exact⟨q,J,trivial,by rw[a,jS U];rfl⟩
 .rintro F f ⟨q,J,rfl,a⟩
  rw[a,qX];refine AZ J (IL K) ?_;refine(O f).uu ?_;refine BB (fun k p L=>∃j,k+j=ars.length/\p 2=.ptr h.length 0 0/\p 30=.sl (nm ars) 1 (ars.map cu)/\p 31=.n (ars.length:Nat)/\p 32=.n (j:Nat)/\L=f/\ars.all (fun n=>(jw l n 0).2)=(ars.drop j).all fun n=>(jw l n 0).2) ars.length ⟨0,BA,DY q,AL,AL,AL,rfl,rfl⟩ ?_;rintro k p L ⟨j,V,N,A,B,g,rfl,c⟩;refine AZ B g ?_;refine DV ?_ ?_<;>intro d
  .rw[Ge _ ars j d] at c
   simp only[vQ,CP,↓reduceIte,jC,b_,cZ,N,A,g,CE d,BK eo d,iq,cY M];refine(zm G l m _ 0 L Q (C _ (jH d))).use ?_;unfold WF;refine AB ?_;cases hk:(jw l ars[j] 0).2
   .refine AB ?_
    exact⟨by rw[c,hk];rfl,i⟩
   .refine G7 N A B g (CZ j) ?_
    exact⟨k-1,U,j+1,U,AO,AO,AO,AO,trivial,by rw[c,hk];rfl⟩
  .refine AB ?_
   exact⟨by rw[c,jS U];rfl,i⟩
 .rintro F f ⟨S,rfl,a⟩
  refine A7 S ?_;exact⟨by rw[a];rfl,i⟩
theorem SO (l:List Sg)(m:SM)(hl:l.length<=1099511627776)(e:Ex):wt e<=1048576->(∀x∈pre e,IQ x=0)->∀h:Hp,a_ (En G) 226 [.agg [.sl m 2 (l.map FY)],.agg (AQ e)] h (.n (UB l e:Nat)):=by
 induction e using Ex.induct with|h e ih=>?_
 intro hw I h;have a7:e.args.length<=1048576:=by have:=YB e.args;have:=OI e;omega
 have S:e.name.size<=1048576:=by have:=OI e;omega
 obtain⟨o1,o3,oo⟩:=fg (I e (by rw[pre_eq];simp));refine ACalls.pure0 rfl ?_;refine cn Tryz.func226 4 ?_;have Z:=AU (x:=qH 4 [AQ e]) (A8 h (qH 1 [[.sl m 2 (l.map FY)]]));have X:=A8 (h++[qH 1 [[.sl m 2 (l.map FY)]]]) (qH 4 [AQ e]);have Y:ext h (h++[qH 1 [[.sl m 2 (l.map FY)]]]++[qH 4 [AQ e]]):=((ext.rfl' h).app _).app _;refine AZ (se h (.sl m 2 (l.map FY)) rfl) @fa ?_
 generalize h++[qH 1 [[.sl m 2 (l.map FY)]]]++[qH 4 [AQ e]]=H1 at Z X Y|-
 generalize (h++[qH 1 [[.sl m 2 (l.map FY)]]]).length=eb at X|-
 have l3:BR jA H1 23 (.ptr eb 0 3)=some (.sl e.m 4 (e.args.map AQ)):=by rw[BJ MQ X (row:=AQ e) rfl,ZE]
 refine A7 l3 ?_;refine EG 0 (fun F H=>∃v,F 2=.ptr h.length 0 0/\F 3=.ptr eb 0 0/\F 5=v/\ext H1 H/\bw 1 KD H1 (NJ l e.args) v H) (fun _ _=>False) ?_ ?_ (fun _ _ hh=>hh.elim)
 .refine BB (fun k F H=>∃j v,k+j=e.args.length/\F 2=.ptr h.length 0 0/\F 3=.ptr eb 0 0/\F 5=v/\F 13=.sl e.m 4 (e.args.map AQ)/\F 14=.n (e.args.length:Nat)/\F 15=.n (j:Nat)/\ext H1 H/\bw 1 KD H1 (NJ l (e.args.take j)) v H) e.args.length
   ⟨0,.sl .nil 0 [],BA,AL,AL,AL,AL,AL,AL,ext.rfl' H1,bw.nil _ _ _ _⟩ ?_
  rintro k F H ⟨j,v,hj,K,p,O,f13,f14,f15,d,Q⟩;refine AZ f14 f15 ?_;refine DV ?_ ?_<;>intro A
  .have f:e.args[j]∈e.args:=jH A
   have a3:=Q.app [qH 4 [AQ e.args[j]]];have T:=d.app [qH 4 [AQ e.args[j]]];have a5:(NJ l (e.args.take j)).length<8388608:=by rw[bD];simp;omega
   obtain⟨v',H',ha,a2,_,a6,_,_⟩:=a3.append (P:=jA) dJ iz mr nA U a5 T (UB l e.args[j]);have a0:EJ jA true (H++[qH 4 [AQ e.args[j]]]) 32 32 v (.sl .full 1 [[.n ((UB l e.args[j]:Nat):Int)]])=some (v',H'):=ha;simp only[vQ,CP,↓reduceIte,jC,b_,P5,Option.getD_none,f13,f15,CE A,DL NU G9 EF A,OH,iN _ _ [.n 0,.n 0,.str ⟨#[]⟩,.sl .nil 0 []] rfl,K,O,cY (DZ T Z),ka];refine(ih e.args[j] f (by have:=YA f;have:=OI e;omega) (fun x Y=>I x (by rw[pre_eq];exact List.mem_cons_of_mem _ (WE f x Y))) _).use ?_;refine U3 O od a0 K p f13 f14 f15 (CZ j) ?_;exact⟨k-1,U,j+1,v',U,AO,AO,AO,AO,AO,AO,a6,by rw[oL _ _ _ A];exact a2⟩
  .rw[jK U] at Q
   refine AB ?_;exact⟨v,K,p,O,d,Q⟩
 .rintro F H ⟨v,K,p,O,d,Q⟩
  have M:=DZ d Z;have L:=DZ d X;have i:=Y.trans d;have l0:BR jA H 3 (.ptr eb 0 0)=some (.n e.op):=by rw[BJ ct L (row:=AQ e) rfl,KQ]
  have l1:BR jA H 3 (.ptr eb 0 1)=some (.n e.n):=by rw[BJ ct L (row:=AQ e) rfl,dE]
  have l2:BR jA H 9 (.ptr eb 0 2)=some (.str e.name):=by rw[BJ eo L (row:=AQ e) rfl,SS]
  have C:=bD l e.args;rw[bE];refine AZ p l0 ?_;by_cases e1:e.op=1
  .have N:(e.op==1)=true:=BQ e1
   refine DC N p l1 ?_;have:=o1 e1;exact⟨by unfold fC;rw[if_pos e1];congr 1;omega,i⟩
  have N:(e.op==1)=false:=BQ e1;by_cases e2:e.op=2
  .have R:(e.op==2)=true:=BQ e2
   refine LP N R K p l2 (cY M) ?_;refine(kG G l m _ H hl).use ?_;unfold WF;refine AB ?_;exact⟨by unfold fC;rw[if_neg e1,if_pos e2],i⟩
  have R:(e.op==2)=false:=BQ e2;by_cases e3:e.op=3
  .have V:(e.op==3)=true:=BQ e3
   have a1:=o3 e3
   obtain⟨o,rfl,B⟩:∃o,v=.own o 0 1/\H[o]?=some (qH 1 ((NJ l e.args).map KD)):=by
    rcases Q with⟨h0,_⟩|⟨_,o,_,rfl,hb⟩
    .rw[h0] at C;simp at C;omega
    .exact⟨o,by rw[C,a1],hb⟩
   have E:0<(NJ l e.args).length:=U;have i0:JJ 1 H (.own o 0 1) (.n 0)=some (.ptr o 0 0):=GR (n:=0) B DX
   have d0:BR jA H 3 (.ptr o 0 0)=some (.n ((NJ l e.args).getD 0 0:Nat)):=by
    rw[BJ ct B (row:=KD (NJ l e.args)[0]) (c8 E),wQ,jP E];rfl
   refine DC N R V ?_;refine DI BC ?_;refine LJ K p O l2 (cY M) i0 d0 ?_;refine⟨_,zm G l m _ _ H hl S,?_⟩;unfold WF;refine AB ?_;exact⟨by unfold fC;rw[if_neg e1,if_neg e2,if_pos e3],i⟩
  have V:(e.op==3)=false:=BQ e3;by_cases e24:e.op=24
  .have J:(e.op==24)=true:=BQ e24
   refine N7 N R V J K p l2 (cY M) ?_;refine(ASE G l m _ H hl S).uu ?_;exact⟨by unfold fC;rw[if_neg e1,if_neg e2,if_neg e3,if_pos e24],i⟩
  have J:(e.op==24)=false:=BQ e24;have a4:=oo e1 e2 e3 e24;have g:r_ e.op (NJ l e.args).length:=by rw[C];exact a4
  obtain⟨o,rfl,B⟩:∃o,v=.own o 0 (NJ l e.args).length/\H[o]?=some (qH 1 ((NJ l e.args).map KD)):=by
   rcases Q with⟨h0,_⟩|⟨_,o,_,rfl,hb⟩
   .exfalso
    rw[h0] at g;obtain⟨a,b,c⟩:=g;by_cases q:e.op=22
    .have:=a q;simp at this
    by_cases q':e.op=23
    .have:=b q';simp at this
    .have:=c q q';simp at this
   .exact⟨o,rfl,hb⟩
  refine LJ N R V J p l0 O ?_;refine(Yv G e.op _ o H B (DG l _) U g).uu ?_;exact⟨by unfold fC;rw[if_neg e1,if_neg e2,if_neg e3,if_neg e24],i⟩
end
theorem AUW {xs:List Ex}(h:errs xs=0):∀x∈xs,IQ x=0:=by
 induction xs with
 | nil=>intro x a;cases a
 | cons y g f =>
   have c:g.foldl (fun z e=>if z=0 then IQ e else z) (IQ y)=0:=h
   have d:IQ y=0:=by
    rcases Classical.em (IQ y=0) with q|q
    .exact q
    .rw[zc _ _ q] at c;exact c
   rw[d] at c;intro x a;rcases zM.1 a with rfl|a
   .exact d
   .exact f c x a
theorem cA {e:Ex}(h:c9 e=0):∀x∈pre e,IQ x=0:=by
 unfold c9 at h;split at h
 .cases h
 .exact AUW h
def kr (l:List Sg)(e:Ex):Nat×Int:=if c9 e≠0 then (0,1) else if(pre e).all (iu l)=true then (UB l e,0) else (0,7)
def kj (p:Nat×Int):AV:=.tup [.n (p.1:Nat),.n p.2]
theorem uy (p:Nat×Int)(n:Nat)(H:Hp):FK n H 2 (kj p)=kj p:=rfl
theorem Qg (h:Hp):H9 jA h 277=some (.ptr h.length 0 0,h++[qH 1 [[.sl .nil 0 []]]]):=FZ (row:=[.sl .nil 0 []]) BC
theorem P0 (s:SM)(k:Nat)(xs:List (List AV)):IY jA 277 [(0,.sl s k xs)]=some (.agg [.sl s k xs]):=BC
theorem Nx (h:Hp)(s:SM)(k:Nat)(xs:List (List AV)):D7 jA (h++[qH 1 [[.sl .nil 0 []]]]) 277 (.ptr h.length 0 0) (.agg [.sl s k xs])=some (h++[qH 1 [[.sl s k xs]]]):=by
 rw[JV (cs:=[.sl s k xs]) (row:=[.sl .nil 0 []]) rfl Bz (A8 _ _) (by exact Nat.le_refl 1),KZ];rfl
section
variable (G:Nat->AV)
theorem Dx (q:fm G)(l:List Sg)(m:SM)(e:Ex)(h:Hp)(p:l.length<=1099511627776)(j:wt e<=1048576):a_ (En G) 143 [.agg (AQ e),.sl m 2 (l.map FY)] h (kj (kr l e)):=by
 refine RN 2 (uy _) ?_;refine e7 Tryz.func143 [.tmp 4,.tmp 5] ?_;have a:=AU (x:=qH 1 [[.sl m 2 (l.map FY)]]) (A8 h (qH 4 [AQ e]));have c:=A8 (h++[qH 4 [AQ e]]) (qH 1 [[.sl m 2 (l.map FY)]]);have f:ext h (h++[qH 4 [AQ e]]++[qH 1 [[.sl m 2 (l.map FY)]]]):=((ext.rfl' h).app _).app _;refine EH @fa P0 Qg Nx ?_
 generalize h++[qH 4 [AQ e]]++[qH 1 [[.sl m 2 (l.map FY)]]]=H at a c f|-
 generalize (h++[qH 4 [AQ e]]).length=sb at c|-
 refine A7 (IL a) ?_;refine(P8 G q e H j).uu ?_;cases d:(c9 e==0)
 .have i:c9 e≠0:=BQ d
  simp only[vQ,tH,sE,CP,↓reduceIte,jC,bne,d];exact⟨by unfold kr;rw[if_pos i];rfl,f⟩
 have g:c9 e=0:=BQ d;simp only[vQ,CP,↓reduceIte,jC,qL,b_,bne,d,IL a,cY c];refine(ic G l m e H p j).uu ?_;cases hk:(pre e).all (iu l)
 .refine AB ?_
  exact⟨by unfold kr;rw[if_neg (BQ g),if_neg (by rw[hk];decide)];rfl,f⟩
 refine AZ (IL a) (cY c) ?_;refine(SO G l m p e j (cA g) H).uu ?_;exact⟨by unfold kr;rw[if_neg (BQ g),if_pos hk];rfl,f⟩
theorem AWC (op:Int)(h:Hp):a_ (En G) 312 [.n op] h (.bool ((op==1)||LZ op)):=by
 refine cn Tryz.func312 2 ?_;refine AB ?_;cases a:(op==1)
 .refine AZ @Bool.false_or a ?_
  refine(bN G op h).uu ?_;exact⟨AO,trivial⟩
 .refine A7 a ?_
  exact⟨AO,trivial⟩
def nk (l:List Sg)(e:Ex)(a:List Nat):Nat×Int:=if iu l e=true then (fC l e.op e.n e.name a,0) else (0,7)
theorem ATO (l:List Sg)(m:SM)(e:Ex)(f:List Nat)(v:AV)(R h:Hp)(M:l.length<=1099511627776)(c:∀s∈l,pn s)(p:e.name.size<=1048576)(i:IQ e=0)(X:e.op=1\/e.op=2\/e.op=3\/e.op=24)(S:f.length=e.args.length)(ho:bw 1 KD R f v h) :
  a_ (En G) 313 [.agg (AQ e),.sl m 2 (l.map FY),v] h (kj (nk l e f)):=by
 refine RN 2 (uy _) ?_;obtain⟨o1,o3,_⟩:=fg i;refine e7 Tryz.func313 [.tmp 6,.tmp 7] ?_;have L:=A8 h (qH 4 [AQ e]);have q:=Sm.ext.r1 h (qH 4 [AQ e]);have C:=ho.app [qH 4 [AQ e]];refine A7 @fa ?_
 generalize h++[qH 4 [AQ e]]=H at L q C|-
 have I:BR jA H 3 (.ptr h.length 0 0)=some (.n e.op):=by rw[BJ ct L (row:=AQ e) rfl,KQ]
 have l1:BR jA H 3 (.ptr h.length 0 1)=some (.n e.n):=by rw[BJ ct L (row:=AQ e) rfl,dE]
 have N:BR jA H 9 (.ptr h.length 0 2)=some (.str e.name):=by rw[BJ eo L (row:=AQ e) rfl,SS]
 refine A7 I ?_;by_cases e1:e.op=1
 .have K:(e.op==1)=true:=BQ e1
  have hk:iu l e=true:=by unfold iu;rw[if_neg U,if_neg U]
  have:=o1 e1;refine AZ K l1 ?_;refine⟨?_,q⟩;unfold nk fC kj;rw[if_pos hk,if_pos e1];congr 3;show e.n=((e.n.toNat%65536:Nat):Int);omega
 have K:(e.op==1)=false:=BQ e1;by_cases e2:e.op=2
 .have O:(e.op==2)=true:=BQ e2
  have a:iu l e=(NK l e.name).2:=by unfold iu;rw[if_pos e2]
  refine EH K O I N ?_;refine(rR G l m _ H M c).use ?_;unfold WF;refine AB ?_;cases hk:(NK l e.name).2
  .refine AB ?_
   exact⟨by unfold nk;rw[if_neg (by rw[a,hk];decide)];rfl,q⟩
  .refine AB ?_
   exact⟨by unfold nk fC;rw[if_pos (by rw[a,hk]),if_neg e1,if_pos e2];rfl,q⟩
 have O:(e.op==2)=false:=BQ e2
 have a:iu l e=(NK l (elN e.name 0)).2:=by
  unfold iu;rw[if_neg e2,if_pos U];unfold jw;rw[if_neg U];rfl
 refine EH K O I N ?_;refine(mM G e.name 0 U H p).uu ?_;refine(rR G l m _ H M c).use ?_;unfold WF;refine AB ?_;cases hk:(NK l (elN e.name 0)).2
 .refine AB ?_
  exact⟨by unfold nk;rw[if_neg (by rw[a,hk];decide)];rfl,q⟩
 have B:iu l e=true:=by rw[a,hk]
 by_cases e3:e.op=3
 .have P:(e.op==3)=true:=BQ e3
  have g:f.length=1:=by rw[S,o3 e3]
  obtain⟨o,rfl,E⟩:∃o,v=.own o 0 1/\H[o]?=some (qH 1 (f.map KD)):=by
   rcases C with⟨R,_⟩|⟨_,o,_,rfl,hb⟩
   .rw[R] at g;simp at g
   .exact⟨o,by rw[g],hb⟩
  have d:0<f.length:=U;have i0:JJ 1 H (.own o 0 1) (.n 0)=some (.ptr o 0 0):=GR (n:=0) E DX
  have Z:BR jA H 3 (.ptr o 0 0)=some (.n (f.getD 0 0:Nat)):=by
   rw[BJ ct E (row:=KD f[0]) (c8 d),wQ,jP d];rfl
  refine AZ I P ?_;refine DI BC ?_;refine DC N i0 Z ?_;refine⟨_,lY G l m _ _ H M c p,?_⟩
  try refine AB ?_
  exact⟨by unfold nk fC;rw[if_pos B,if_neg e1,if_neg e2,if_pos e3];rfl,q⟩
 have P:(e.op==3)=false:=BQ e3;have Q:e.op=24:=U;refine AZ I P ?_;refine BB (fun k F J=>∃j,k+j=8/\F 1=.sl m 2 (l.map FY)/\F 3=.ptr h.length 0 0/\F 12=.n (sumTo l e.name j:Nat)/\F 13=.n (j:Nat)/\J=H) 8 ⟨0,BA,AL,AL,AL,AL,rfl⟩ ?_;rintro k F J ⟨j,hj,T,V,f12,f13,rfl⟩;refine A7 f13 ?_;refine BL ?_ ?_<;>intro Y
 .have A:j<8:=by simp at Y;omega
  refine G7 T V f12 f13 N ?_;refine(lY G l m _ _ J M c p).uu ?_;refine(CF G _ _ (oQ l _ j) (Aj l _ (j:Nat)) J).use ?_;refine G7 T V f12 f13 (CZ j) ?_;exact⟨k-1,U,j+1,U,AO,AO,AO,AO,trivial⟩
 .have A:j=8:=by simp at Y;omega
  subst A;refine A7 f12 ?_;exact⟨by unfold nk fC;rw[if_pos B,if_neg e1,if_neg e2,if_neg e3,if_pos Q];rfl,q⟩
def o7 (l:List Sg)(e:Ex):Nat×Int:=if(pre e).all (iu l)=true then (UB l e,0) else (0,7)
theorem XM:∀xs:List Ex,xs.length<=(FV xs).length
 | []=>by simp [FV]
 | x::xs=>by
   have:=XM xs;simp only[FV,jX,zF,pre_eq x];omega
theorem Q5 {a:Ex}:∀ {xs:List Ex},a∈xs->(pre a).length<=(FV xs).length
 | x::xs,h=>by
   simp only[FV,jX];rcases zM.1 h with rfl|h
   .omega
   .have:=Q5 h;omega
theorem G_ (l:List Sg)(e:Ex):(pre e).all (iu l)=(iu l e&&(FV e.args).all (iu l)):=by rw[pre_eq];rfl
theorem Xx (l:List Sg)(m:SM)(hl:l.length<=1099511627776)(a5:∀s∈l,pn s)(e:Ex):(pre e).length<=1048576->(∀x∈pre e,x.name.size<=1048576)->(∀x∈pre e,IQ x=0)->∀h:Hp,a_ (En G) 275 [.agg (AQ e),.sl m 2 (l.map FY)] h (kj (o7 l e)):=by
 induction e using Ex.induct with|h e ih=>?_
 intro hw Q I h;have a6:=congrArg List.length (pre_eq e);rw[zF] at a6;have a9:e.args.length<=1048576:=by have:=XM e.args;omega
 have p:=I e (by rw[pre_eq];simp);obtain⟨o1,o3,oo⟩:=fg p;refine RN 2 (uy _) ?_;refine e7 Tryz.func275 [.tmp 4,.tmp 5] ?_;have V:=A8 h (qH 4 [AQ e]);have J:=Sm.ext.r1 h (qH 4 [AQ e]);refine A7 @fa ?_
 generalize h++[qH 4 [AQ e]]=H1 at V J|-
 generalize h.length=eb at V|-
 refine EG 0 (fun F H=>∃v,F 1=.sl m 2 (l.map FY)/\F 2=.ptr eb 0 0/\F 6=v/\ext H1 H/\bw 1 KD H1 (NJ l e.args) v H/\(FV e.args).all (iu l)=true) (fun F H=>F 4=.n 0/\F 5=.n 7/\ext H1 H/\(FV e.args).all (iu l)=false) ?_ ?_ ?_
 .refine BB (fun k F H=>∃j v,k+j=e.args.length/\F 1=.sl m 2 (l.map FY)/\F 2=.ptr eb 0 0/\F 6=v/\F 7=.n (j:Nat)/\ext H1 H/\bw 1 KD H1 (NJ l (e.args.take j)) v H/\(FV (e.args.take j)).all (iu l)=true) e.args.length
   ⟨0,.sl .nil 0 [],BA,AL,AL,AL,AL,ext.rfl' H1,bw.nil _ _ _ _,rfl⟩ ?_
  rintro k F H ⟨j,v,hj,M,E,N,Z,d,K,f⟩;have B:=DZ d V;have l3:BR jA H 23 (.ptr eb 0 3)=some (.sl e.m 4 (e.args.map AQ)):=by rw[BJ MQ B (row:=AQ e) rfl,ZE]
  refine DC E Z l3 ?_;refine DV ?_ ?_<;>intro i
  .have g:e.args[j]∈e.args:=jH i
   have a7:(NJ l (e.args.take j)).length<8388608:=by rw[bD];simp;omega
   have C:FV e.args=FV (e.args.take j)++(pre e.args[j]++FV (e.args.drop (j+1))):=by
    rw[<-List.append_assoc,<-MI _ _ i,<-NY,List.take_append_drop]
   obtain⟨v',H',ha,a3,_,a8,_,_⟩:=K.append (P:=jA) dJ iz mr nA U a7 d (UB l e.args[j]);have a0:EJ jA true H 32 32 v (.sl .full 1 [[.n ((UB l e.args[j]:Nat):Int)]])=some (v',H'):=ha;simp only[vQ,CP,↓reduceIte,jC,b_,P5,UY,M,E,Z,l3,CE i,DL NU G9 EF i];refine(ih e.args[j] g (by have:=Q5 g;omega) (fun x J=>Q x (by rw[pre_eq];exact List.mem_cons_of_mem _ (WE g x J))) (fun x J=>I x (by rw[pre_eq];exact List.mem_cons_of_mem _ (WE g x J))) _).use ?_;unfold o7;cases hk:(pre e.args[j]).all (iu l)
   .simp only[Bool.false_eq_true,if_false,kj]
    simp only[vQ,wL,wR,tH,wu,u5,CP,OV,VD,↓reduceIte,jC,b_,Int.reduceBNe,qV];exact⟨AO,AO,d,by rw[C,List.all_append,List.all_append,hk];simp⟩
   .simp only[if_true,kj]
    simp only[vQ,wL,wR,CP,OV,VD,↓reduceIte,jC,b_,Int.reduceBNe,qV,bne_self_eq_false,N,od,a0,M,E,Z,CZ j];exact⟨k-1,U,j+1,v',U,AO,AO,AO,AO,a8,by rw[oL _ _ _ i];exact a3,by rw[MI _ _ i,List.all_append,f,hk];rfl⟩
  .rw[jK U] at K f
   refine AB ?_;exact⟨v,M,E,N,d,K,f⟩
 .rintro F H ⟨v,M,E,N,d,K,f⟩
  have B:=DZ d V;have T:=J.trans d;have l0:BR jA H 3 (.ptr eb 0 0)=some (.n e.op):=by rw[BJ ct B (row:=AQ e) rfl,KQ]
  have S:=bD l e.args;have R:(pre e).all (iu l)=iu l e:=by rw[G_,f,Bool.and_true]
  refine AZ E l0 ?_;refine(AWC G e.op H).uu ?_;cases X:((e.op==1)||LZ e.op)
  .have a2:e.op≠1/\e.op≠2/\e.op≠3/\e.op≠24:=by
    unfold LZ at X;simp at X;omega
   obtain⟨e1,Y,e3,L⟩:=a2;have A:r_ e.op (NJ l e.args).length:=by rw[S];exact oo e1 Y e3 L
   obtain⟨o,rfl,a4⟩:∃o,v=.own o 0 (NJ l e.args).length/\H[o]?=some (qH 1 ((NJ l e.args).map KD)):=by
    rcases K with⟨h0,_⟩|⟨_,o,_,rfl,hb⟩
    .exfalso
     rw[h0] at A;obtain⟨a,b,c⟩:=A;by_cases q:e.op=22
     .have:=a q;simp at this
     by_cases q':e.op=23
     .have:=b q';simp at this
     .have:=c q q';simp at this
    .exact⟨o,rfl,hb⟩
   refine DC E l0 N ?_;refine(AS4 G e.op _ o H a4 (DG l _) U A).uu ?_;have hk:iu l e=true:=by unfold iu;rw[if_neg Y,if_neg U]
   refine⟨?_,T⟩;unfold o7;rw[R,if_pos hk,bE];unfold fC;rw[if_neg e1,if_neg Y,if_neg e3,if_neg L];rfl
  .have O:e.op=1\/e.op=2\/e.op=3\/e.op=24:=by
    unfold LZ at X;simp at X;omega
   refine EH M E N (IL B) ?_;refine(ATO G l m e _ v H1 H hl a5 (Q e (by rw[pre_eq];simp)) p O S K).use ?_;have a1:nk l e (NJ l e.args)=o7 l e:=by unfold nk o7;rw[R,bE]
   rw[a1];unfold kj;refine AB ?_;exact⟨AO,T⟩
 .rintro F H ⟨f4,f5,d,f⟩
  refine AZ f4 f5 ?_;exact⟨by unfold o7;rw[G_,f,Bool.and_false];rfl,J.trans d⟩
theorem ARI (l:List Sg)(m:SM)(e:Ex)(h:Hp)(A:l.length<=1099511627776)(i:∀s∈l,pn s)(p:WN e):a_ (En G) 209 [.agg (AQ e),.sl m 2 (l.map FY)] h (kj (kr l e)):=by
 refine RN 2 (uy _) ?_;refine e7 Tryz.func209 [.tmp 4,.tmp 5] ?_;have f:=A8 h (qH 4 [AQ e]);have j:=Sm.ext.r1 h (qH 4 [AQ e]);refine A7 @fa ?_
 generalize h++[qH 4 [AQ e]]=H at f j|-
 refine A7 (IL f) ?_;refine(YZ G e H p).uu ?_;cases d:(c9 e==0)
 .have g:c9 e≠0:=BQ d
  simp only[vQ,sE,CP,↓reduceIte,jC,bne,d];exact⟨by unfold kr;rw[if_pos g];rfl,j⟩
 have a:c9 e=0:=BQ d;simp only[vQ,CP,↓reduceIte,jC,qL,b_,bne,d,IL f]
 have c:(pre e).length<=1048576:=by
  unfold c9 at a;split at a
  .cases a
  .omega
 refine(Xx G l m A i e c p.2 (cA a) H).use ?_;have q:kr l e=o7 l e:=by unfold kr o7;rw[if_neg (BQ a)]
 rw[q];unfold kj;refine AB ?_;exact⟨AO,j⟩
theorem AWV (l:List Sg)(m:SM)(e:Ex)(h:Hp)(c:l.length<=1099511627776)(a:∀s∈l,pn s)(d:wt e<=1048576):a_ (En G) 209 [.agg (AQ e),.sl m 2 (l.map FY)] h (kj (kr l e)):=ARI G l m e h c a (r9 d)
end
end Xe
namespace Bd
open Sm Bins Cov Xe Go.RowKit
variable {h:Hp} {i j k n:Nat} {a s:ByteArray} {x:Int} (G:Nat->AV )
structure Vr where
 name:ByteArray
 width:Int
 mode:Int
 value:Int
def bt (v:Vr):List AV:=[.str v.name,.n v.width,.n v.mode,.n v.value]
theorem dz (v:Vr):(bt v).length=4:=rfl
theorem ir (v:Vr):(bt v)[0]?=some (.str v.name):=rfl
theorem i6 (v:Vr):(bt v)[1]?=some (.n v.width):=rfl
theorem jq (v:Vr):(bt v)[2]?=some (.n v.mode):=rfl
theorem j9 (v:Vr):(bt v)[3]?=some (.n v.value):=rfl
structure Wg where
 lo:Int
 hi:Int
 w:Int
 each:Bool
def JE (x:Wg):List AV:=[.n x.lo,.n x.hi,.n x.w,.bool x.each]
theorem kL (x:Wg):(JE x).length=4:=rfl
structure Ds where
 var:Int
 wm:SM
 ws:List Wg
def I9 (d:Ds):List AV:=[.n d.var,.sl d.wm 4 (d.ws.map JE)]
theorem RU (d:Ds):(I9 d).length=2:=rfl
structure Gp where
 m:SM
 l:List Int
def UM (g:Gp):List AV:=[.sl g.m 1 (g.l.map bu)]
structure Pr where
 vm:SM
 vars:List Vr
 hm:SM
 hard:List Ex
 sm:SM
 soft:List Ex
 dm:SM
 dists:List Ds
 gm:SM
 groups:List Gp
def CW (p:Pr):List AV:=[.sl p.vm 4 (p.vars.map bt),.sl p.hm 4 (p.hard.map AQ),.sl p.sm 4 (p.soft.map AQ),.sl p.dm 2 (p.dists.map I9),.sl p.gm 1 (p.groups.map UM)]
theorem LD (p:Pr):(CW p).length=5:=rfl
theorem k6 (h:Hp)(v:Vr):OU h (.agg (bt v))=some (.ptr h.length 0 0,h++[qH 4 [bt v]]):=rfl
theorem Dg (h:Hp)(v:Wg):OU h (.agg (JE v))=some (.ptr h.length 0 0,h++[qH 4 [JE v]]):=rfl
theorem A9 (h:Hp)(v:Ds):OU h (.agg (I9 v))=some (.ptr h.length 0 0,h++[qH 2 [I9 v]]):=rfl
theorem QE (h:Hp)(p:Pr):OU h (.agg (CW p))=some (.ptr h.length 0 0,h++[qH 5 [CW p]]):=rfl
def P6 {α:Type}(p:α->Bool):List α->Int
 | [] => -1
 | x::r=>if p x=true then 0 else if P6 p r<0 then -1 else P6 p r+1
theorem UH {α:Type}(p:α->Bool):∀(xs:List α) (k:Nat) (hk:k<xs.length),(∀(j:Nat) (e:j<k),p (xs[j]'U)=false)->p xs[k]=true->P6 p xs=k
 | x::r,0,_,_,h=>by
   have h:p x=true:=h;simp [P6,h]
 | x::r,k+1,hk,c,h=>by
   have d:p x=false:=c 0 U;have f:=UH p r k (BQ hk) (fun j e=>c (j+1) U) h;simp only[P6,d,f,Bool.false_eq_true,if_false];rw[if_neg U];omega
theorem TF {α:Type}(p:α->Bool):∀(xs:List α),(∀(j:Nat) (d:j<xs.length),p xs[j]=false)->P6 p xs = -1
 | [],_=>rfl
 | x::r,c=>by
   have e:p x=false:=c 0 BA;have f:=TF p r (fun j d=>c (j+1) (BQ d));simp [P6,e,f]
theorem UI {α:Type}(p:α->Bool):∀xs:List α,decide (P6 p xs≥0)=xs.any p
 | []=>rfl
 | x::r=>by
   have e:=UI p r;rw[List.any_cons,<-e];rcases Bool.eq_false_or_eq_true (p x) with c|c
   .have d:P6 p (x::r)=0:=by simp [P6,c]
    rw[d,c];rfl
   .have d:P6 p (x::r)=if P6 p r<0 then -1 else P6 p r+1:=by simp [P6,c]
    rw[d,c,wF];by_cases h:P6 p r<0
    .rw[if_pos h,decide_eq_false U,decide_eq_false U]
    .rw[if_neg h,decide_eq_true U,decide_eq_true U]
theorem aL {α:Type}(p:α->Bool):∀(xs:List α),0<=P6 p xs->∃k,∃hk:k<xs.length,P6 p xs=(k:Nat)/\p xs[k]=true/\∀(j:Nat) (d:j<k),p (xs[j]'U)=false
 | [],h=>by simp [P6] at h
 | x::r,h=>by
   cases c:p x with
   | true=>exact⟨0,BA,by simp [P6,c],c,fun j d=>absurd d U⟩
   | false =>
     have g:P6 p (x::r)=if P6 p r<0 then -1 else P6 p r+1:=by simp [P6,c]
     rw[g] at h|-
     split at h
     .omega
     .rename_i l
      rw[if_neg l];obtain⟨k,hk,q,e,f⟩:=aL p r U;refine⟨k+1,BQ hk,U,e,fun j d=>?_⟩
      cases j with
      | zero=>exact c
      | succ j=>exact f j U
theorem kB {α:Type}(p:α->Bool)(xs:List α)(h:P6 p xs<0):∀x∈xs,p x=false:=by
 intro x c;have:=UI p xs;rw[decide_eq_false U] at this;have:=qP.1 this.symm x c;simpa using this
theorem xW (xs:List Vr)(m:SM)(e:FuncId)(c:List AV)(p:Vr->Bool)(h:Hp)(L:xs.length<=1099511627776)(K:∀x∈xs,a_ (En G) e ([.agg (bt x)]++c) h (.bool (p x))):
  a_ (En G) 101 [.sl m 4 (xs.map bt),.fn (.func e) [] c] h (.n (P6 p xs)):=by
 refine cn Tryz.func101 4 ?_;refine AB ?_;refine BB (fun n F H=>∃k,n+k=xs.length/\(∀(j:Nat) (f:j<k) (B:j<xs.length),p xs[j]=false)/\F 0=.sl m 4 (xs.map bt)/\F 1=.fn (.func e) [] c/\F 7=.n (xs.length:Nat)/\F 8=.n (k:Nat)/\H=h) xs.length ⟨0,BA,fun j f=>absurd f U,AL,AL,AL,AL,rfl⟩ ?_;rintro n F H ⟨k,hk,l,E,I,J,g,rfl⟩;refine AZ J g ?_;refine BL ?_ ?_<;>intro A
 .have d:k<xs.length:=BQ A
  simp only[vQ,CP,zX,zG,↓reduceIte,jC,b_,cM,E,I,g,CE d,DL CA rq dz d];refine(K _ (jH d)).uu ?_;refine BL ?_ ?_<;>intro C
  .refine A7 g ?_
   exact⟨by rw[UH p xs k d (fun j f=>l j f U) C],trivial⟩
  .refine AZ g (CZ k) ?_
   refine⟨n-1,U,k+1,U,fun j f B=>?_,AO,AO,AO,rfl,trivial⟩;rcases zC j k with q|q
   .exact l j q B
   .obtain rfl:j=k:=U
    exact C
 .refine AB ?_
  have d:¬k<xs.length:=BQ A;exact⟨by rw[TF p xs fun j f=>l j U f],trivial⟩
theorem GQ (xs:List Vr)(m:SM)(d:FuncId)(c:List AV)(p:Vr->Bool)(h:Hp)(f:xs.length<=1099511627776)(e:∀x∈xs,a_ (En G) d ([.agg (bt x)]++c) h (.bool (p x))):
  a_ (En G) 151 [.sl m 4 (xs.map bt),.fn (.func d) [] c] h (.bool (xs.any p)):=by
 refine cn Tryz.func151 4 ?_;refine AB ?_;refine(xW G xs m d c p h f e).use ?_;refine A7 @UI ?_;exact H7
theorem Vy (xs:List Ds)(m:SM)(e:FuncId)(c:List AV)(p:Ds->Bool)(h:Hp)(L:xs.length<=1099511627776)(K:∀x∈xs,a_ (En G) e ([.agg (I9 x)]++c) h (.bool (p x))):
  a_ (En G) 237 [.sl m 2 (xs.map I9),.fn (.func e) [] c] h (.n (P6 p xs)):=by
 refine cn Tryz.func237 4 ?_;refine AB ?_;refine BB (fun n F H=>∃k,n+k=xs.length/\(∀(j:Nat) (f:j<k) (B:j<xs.length),p xs[j]=false)/\F 0=.sl m 2 (xs.map I9)/\F 1=.fn (.func e) [] c/\F 7=.n (xs.length:Nat)/\F 8=.n (k:Nat)/\H=h) xs.length ⟨0,BA,fun j f=>absurd f U,AL,AL,AL,AL,rfl⟩ ?_;rintro n F H ⟨k,hk,l,E,I,J,g,rfl⟩;refine AZ J g ?_;refine BL ?_ ?_<;>intro A
 .have d:k<xs.length:=BQ A
  simp only[vQ,CP,zX,zG,↓reduceIte,jC,b_,ph,E,I,g,CE d,DL sh fG RU d];refine(K _ (jH d)).uu ?_;refine BL ?_ ?_<;>intro C
  .refine A7 g ?_
   exact⟨by rw[UH p xs k d (fun j f=>l j f U) C],trivial⟩
  .refine AZ g (CZ k) ?_
   refine⟨n-1,U,k+1,U,fun j f B=>?_,AO,AO,AO,rfl,trivial⟩;rcases zC j k with q|q
   .exact l j q B
   .obtain rfl:j=k:=U
    exact C
 .refine AB ?_
  have d:¬k<xs.length:=BQ A;exact⟨by rw[TF p xs fun j f=>l j U f],trivial⟩
theorem AUB (xs:List Ds)(m:SM)(d:FuncId)(c:List AV)(p:Ds->Bool)(h:Hp)(f:xs.length<=1099511627776)(e:∀x∈xs,a_ (En G) d ([.agg (I9 x)]++c) h (.bool (p x))):
  a_ (En G) 159 [.sl m 2 (xs.map I9),.fn (.func d) [] c] h (.bool (xs.any p)):=by
 refine cn Tryz.func159 4 ?_;refine AB ?_;refine(Vy G xs m d c p h f e).use ?_;refine A7 @UI ?_;exact H7
theorem Fi (xs:List Wg)(m:SM)(e:FuncId)(c:List AV)(p:Wg->Bool)(h:Hp)(L:xs.length<=1099511627776)(K:∀x∈xs,a_ (En G) e ([.agg (JE x)]++c) h (.bool (p x))):
  a_ (En G) 178 [.sl m 4 (xs.map JE),.fn (.func e) [] c] h (.n (P6 p xs)):=by
 refine cn Tryz.func178 4 ?_;refine A7 xK ?_;refine BB (fun n F H=>∃k,n+k=xs.length/\(∀(j:Nat) (f:j<k) (B:j<xs.length),p xs[j]=false)/\F 0=.sl m 4 (xs.map JE)/\F 1=.fn (.func e) [] c/\F 7=.n (xs.length:Nat)/\F 8=.n (k:Nat)/\H=h) xs.length ⟨0,BA,fun j f=>absurd f U,AL,AL,AL,AL,rfl⟩ ?_;rintro n F H ⟨k,hk,l,E,I,J,g,rfl⟩;refine AZ J g ?_;refine BL ?_ ?_<;>intro A
 .have d:k<xs.length:=BQ A
  simp only[vQ,CP,zX,zG,↓reduceIte,jC,b_,xP,E,I,g,CE d,DL Cz u_ kL d];refine(K _ (jH d)).uu ?_;refine BL ?_ ?_<;>intro C
  .refine A7 g ?_
   exact⟨by rw[UH p xs k d (fun j f=>l j f U) C],trivial⟩
  .refine AZ g (CZ k) ?_
   refine⟨n-1,U,k+1,U,fun j f B=>?_,AO,AO,AO,rfl,trivial⟩;rcases zC j k with q|q
   .exact l j q B
   .obtain rfl:j=k:=U
    exact C
 .refine AB ?_
  have d:¬k<xs.length:=BQ A;exact⟨by rw[TF p xs fun j f=>l j U f],trivial⟩
theorem L4 (xs:List Wg)(m:SM)(d:FuncId)(c:List AV)(p:Wg->Bool)(h:Hp)(f:xs.length<=1099511627776)(e:∀x∈xs,a_ (En G) d ([.agg (JE x)]++c) h (.bool (p x))):
  a_ (En G) 238 [.sl m 4 (xs.map JE),.fn (.func d) [] c] h (.bool (xs.any p)):=by
 refine cn Tryz.func238 4 ?_;refine AB ?_;refine(Fi G xs m d c p h f e).use ?_;refine A7 @UI ?_;exact H7
theorem Cb {xs:List ByteArray}(hk:k<xs.length):BR jA h 9 (.fptr 1 (xs.map cu) k 0)=some (.str xs[k]):=by rw[BK eo hk];rfl
theorem Yj (xs:List ByteArray)(m:SM)(e:FuncId)(c:List AV)(p:ByteArray->Bool)(h:Hp)(L:xs.length<=1099511627776)(K:∀x∈xs,a_ (En G) e ([.str x]++c) h (.bool (p x))):
  a_ (En G) 236 [.sl m 1 (xs.map cu),.fn (.func e) [] c] h (.n (P6 p xs)):=by
 refine cn Tryz.func236 4 ?_;refine AB ?_;refine BB (fun n F H=>∃k,n+k=xs.length/\(∀(j:Nat) (f:j<k) (B:j<xs.length),p xs[j]=false)/\F 0=.sl m 1 (xs.map cu)/\F 1=.fn (.func e) [] c/\F 7=.n (xs.length:Nat)/\F 8=.n (k:Nat)/\H=h) xs.length ⟨0,BA,fun j f=>absurd f U,AL,AL,AL,AL,rfl⟩ ?_;rintro n F H ⟨k,hk,l,E,I,J,g,rfl⟩;refine AZ J g ?_;refine BL ?_ ?_<;>intro A
 .have d:k<xs.length:=BQ A
  simp only[vQ,CP,zX,zG,↓reduceIte,jC,b_,cZ,E,I,g,CE d,Cb d];refine(K _ (jH d)).uu ?_;refine BL ?_ ?_<;>intro C
  .refine A7 g ?_
   exact⟨by rw[UH p xs k d (fun j f=>l j f U) C],trivial⟩
  .refine AZ g (CZ k) ?_
   refine⟨n-1,U,k+1,U,fun j f B=>?_,AO,AO,AO,rfl,trivial⟩;rcases zC j k with q|q
   .exact l j q B
   .obtain rfl:j=k:=U
    exact C
 .refine AB ?_
  have d:¬k<xs.length:=BQ A;exact⟨by rw[TF p xs fun j f=>l j U f],trivial⟩
theorem AY4 (xs:List ByteArray)(m:SM)(d:FuncId)(c:List AV)(p:ByteArray->Bool)(h:Hp)(f:xs.length<=1099511627776)(e:∀x∈xs,a_ (En G) d ([.str x]++c) h (.bool (p x))):
  a_ (En G) 155 [.sl m 1 (xs.map cu),.fn (.func d) [] c] h (.bool (xs.any p)):=by
 refine cn Tryz.func155 4 ?_;refine AB ?_;refine(Yj G xs m d c p h f e).use ?_;refine A7 @UI ?_;exact H7
def jn (k:Nat):ByteArray:=⟨#[UInt8.ofNat (48+k)]⟩
def vo:ByteArray:=⟨#[48,49,50,51,52,53,54,55,56,57,97,98,99,100,101,102,103,104,105,106,107,108,109,110,111,112,113,114,115,116,117,118,119,120,121,122]⟩
theorem sl36:∀(k:Nat),k<8->∀h:Hp,IW jA h 9 (.str vo) (some (.n (k:Nat))) (some (.n ((k+1:Nat):Int))) none=some (.str (jn k))
 | 0,_,h=>BC
 | 1,_,h=>BC
 | 2,_,h=>BC
 | 3,_,h=>BC
 | 4,_,h=>BC
 | 5,_,h=>BC
 | 6,_,h=>BC
 | 7,_,h=>BC
 | n+8,q,_=>absurd q U
theorem Uy (k:Nat)(hk:k<8)(h:Hp):a_ (En G) 396 [.n (k:Nat)] h (.str (jn k)):=by
 refine cn Tryz.func396 2 ?_;have c:decide (((k:Nat):Int)<10)=true:=by simp;omega
 have:=sl36 k hk h;unfold vo at this;refine DC c (CZ k) @this ?_;exact H7
theorem ARF (k:Nat)(hk:k<8)(h:Hp):a_ (En G) 288 [.n (k:Nat)] h (.str (jn k)):=by
 have f:a_ (En G) 358 [.n (k:Nat),.n 10] h (.str (jn k)):=by
  refine cn Tryz.func358 4 ?_;have c:((10:Int)==10)=true:=rfl;have d:decide ((0:Int)<=((k:Nat):Int))=true:=BA;have e:decide (((k:Nat):Int)<100)=true:=by simp;omega
  refine DC c d e ?_;refine(Uy G k hk h).uu ?_;exact H7
 have g:a_ (En G) 324 [.n (k:Nat)] h (.str (jn k)):=by
  refine cn Tryz.func324 2 ?_;refine AB ?_;refine f.uu ?_;exact H7
 refine cn Tryz.func288 2 ?_;refine AB ?_;refine g.uu ?_;exact H7
theorem Zg (k:Nat)(hk:k<8)(h:Hp):a_ (En G) 330 [.n (k:Nat)] h (.n (-(k:Int))):=by
 refine cn Tryz.func330 2 ?_;refine AB ?_;refine BL ?_ ?_<;>intro c
 .have e:IntKind.i64.wrap (0-((k:Nat):Int)) = -(k:Int):=by rw[wrap_i64 U U];omega
  refine AZ @zp e ?_;exact H7
 .have e:((k:Nat):Int) = -(k:Int):=by
   have:¬((k:Nat):Int)>0:=BQ c;omega
  refine AB ?_;exact⟨by rw[<-e],trivial⟩
theorem Xb (k:Nat)(hk:k<8)(h:Hp):a_ (En G) 307 [.n (k:Nat)] h (.str (jn k)):=by
 refine cn Tryz.func307 2 ?_;refine AB ?_;refine(Zg G k hk h).uu ?_;refine BB (fun n F H=>n=0/\F 0=.n (k:Nat)/\F 3=.str ⟨#[]⟩/\F 4=.n (-(k:Int))/\H=h) 0 ⟨rfl,AL,AL,AL,rfl⟩ ?_;rintro n F H ⟨rfl,g,l,p,rfl⟩;have d:(-(k:Int)).tmod 10 = -(k:Int):=by grind
 have e:(-(k:Int)).tdiv 10=0:=by grind
 have f:(48:Int) - -(k:Int)=48+(k:Int):=U;have A:IZ jA 3 .rem (.n (-(k:Int))) (.n 10)=some (.n (-(k:Int))):=by rw[cH _ _ _ _ _ DX,d]
 have B:IZ jA 3 .quo (.n (-(k:Int))) (.n 10)=some (.n 0):=by rw[zl _ _ _ _ _ DX,e];rfl
 have c:IZ jA 9 .add (.str (jn k)) (.str ⟨#[]⟩)=some (.str (jn k)):=by
  rw[PQ (by show 1+0<=_;omega)];congr 2
 have z:((0:Int)==0)=true:=rfl;have dc:=Fx k hk;change _=some (AV.str (jn k)) at dc;have q:decide (((k:Nat):Int)<0)=false:=BA;simp only[vQ,RY,VY,lO,CP,ue,L9,↓reduceIte,jC,b_,AF,g,l,p,A,B,f,AS,dc,c,z,q];exact H7
theorem t_ (a:ByteArray)(k:Nat)(c:a.size<=1048576):IZ jA 9 .add (.str a) (.str ⟨#[91]⟩)=some (.str (a++(⟨#[91]⟩:ByteArray)))/\IZ jA 9 .add (.str (a++(⟨#[91]⟩:ByteArray))) (.str (jn k))=some (.str (a++(⟨#[91]⟩:ByteArray)++jn k)) /\
  IZ jA 9 .add (.str (a++(⟨#[91]⟩:ByteArray)++jn k)) (.str ⟨#[93]⟩)=some (.str (elN a k)) :=
 ⟨PQ (by show a.size+1<=_;omega),PQ (by rw[VF];show a.size+1+1<=_;omega),PQ (by rw[VF,VF];show a.size+1+1+1<=_;omega)⟩
theorem kO (a:ByteArray)(k:Nat)(hk:k<8)(h:Hp)(f:a.size<=1048576):a_ (En G) 233 [.str a,.n (k:Nat)] h (.str (elN a k)):=by
 refine cn Tryz.func233 4 ?_;obtain⟨c,d,e⟩:=t_ a k f;refine A7 c ?_;refine(ARF G k hk h).use ?_;refine AZ d e ?_;exact H7
theorem sO (a:ByteArray)(k:Nat)(hk:k<8)(h:Hp)(f:a.size<=1048576):a_ (En G) 263 [.str a,.n (k:Nat)] h (.str (elN a k)):=by
 refine cn Tryz.func263 4 ?_;obtain⟨c,d,e⟩:=t_ a k f;refine A7 c ?_;refine(Xb G k hk h).use ?_;refine AZ d e ?_;exact H7
theorem RV (a:ByteArray)(k:Nat):(elN a k).data.toList=a.data.toList++[91,UInt8.ofNat (48+k),93]:=by
 unfold elN;simp [ByteArray.data_append]
theorem tP {b:ByteArray}(h:a.data.toList=b.data.toList):a=b:=by
 obtain⟨⟨x⟩⟩:=a;obtain⟨⟨y⟩⟩:=b;have:x=y:=h;rw[this]
theorem sg (a:ByteArray):(⟨a.data.toList.toArray⟩:ByteArray)=a:=by obtain⟨⟨x⟩⟩:=a;rfl
theorem Ag (hk:k<8):(UInt8.ofNat (48+k)).toNat=48+k:=by
 rw[UInt8.toNat_ofNat'];omega
theorem HR (c:i<8)(d:j<8)(h:elN a i=elN a j):i=j:=by
 have:=congrArg (fun x=>x.data.toList) h;simp only[RV,List.append_cancel_left_eq,List.cons.injEq,and_true,true_and] at this;have:=congrArg UInt8.toNat this;rw[Ag c,Ag d] at this;omega
theorem yM (hk:k<8)(d:FN a=true):KR (elN a k)=some (a.data.toList,UInt8.ofNat (48+k)):=by
 have e:elN a k=⟨(a.data.toList++[91,UInt8.ofNat (48+k),93]).toArray⟩:=tP (RV a k);have c:a.data.toList≠[]:=(U9 (l:=a.data.toList) (by rw[sg];exact d)).1;rw[e,gR c,sg,d,Ag hk];simp;omega
theorem PN {a:List UInt8}{d:UInt8}(h:KR s=some (a,d)):48<=d.toNat/\d.toNat-48<8/\FN ⟨a.toArray⟩=true/\s=elN ⟨a.toArray⟩ (d.toNat-48)/\a.length+3=s.size:=by
 unfold KR at h;split at h
 case isFalse=>cases h
 rename_i A;split at h
 case h_2=>cases h
 rename_i x q y l;split at h
 case isFalse=>cases h
 rename_i c;cases h;simp only[jY,beq_iff_eq,decide_eq_true_eq] at c;obtain⟨⟨⟨⟨rfl,rfl⟩,f⟩,p⟩,g⟩:=c;refine⟨f,U,g,tP ?_,?_⟩
 .rw[RV]
  have e:UInt8.ofNat (48+(d.toNat-48))=d:=by simp_all
  rw[e,<-l];simp
 .have:s.size=s.data.toList.length:=(Array.length_toList (xs:=s.data)).symm
  rw[this,jT];omega
theorem oe (a b:ByteArray):(a.toList==b.toList)=true↔a=b:=by
 rw[beq_iff_eq,ByteArray.toList_eq,ByteArray.toList_eq];exact⟨tP,fun h=>by rw[h]⟩
def PH (n:ByteArray)(v:Vr):Bool:=v.name.toList==n.toList
def d' (l:List Vr)(n:ByteArray):Int:=P6 (PH n) l
theorem O' (v:Vr)(n:ByteArray)(c:Nat)(h:Hp)(e:h[c]?=some (qH 1 [[.str n]])):a_ (En G) 234 ([.agg (bt v)]++[.ptr c 0 0]) h (.bool (PH n v)):=by
 refine ACalls.pure0 rfl ?_;refine cn Tryz.func234 3 ?_;have d:(h++[qH 4 [bt v]])[c]?=_:=AU e;refine MF @k6 @ir (IA eo d) ?_;exact⟨rfl,_,rfl⟩
theorem d_ (l:List Vr)(m:SM)(n:ByteArray)(h:Hp)(c:l.length<=1099511627776):a_ (En G) 150 [.sl m 4 (l.map bt),.str n] h (.n (d' l n)):=by
 refine ACalls.pure0 rfl ?_;refine cn Tryz.func150 4 ?_;refine A7 @KV ?_;refine(xW G l m 234 [.ptr h.length 0 0] (PH n) _ c fun x _=>O' G x n h.length _ (A8 _ _)).uu ?_;exact⟨rfl,_,rfl⟩
theorem VT (l:List Vr)(m:SM)(n:ByteArray)(h:Hp)(g:l.length<=1099511627776):a_ (En G) 192 [.sl m 4 (l.map bt),.str n] h (.n (d' l n)):=by
 refine cn Tryz.func192 4 ?_;refine AB ?_;refine BB (fun k F H=>∃j,k+j=l.length/\(∀(i:Nat) (d:i<j) (g:i<l.length),PH n l[i]=false)/\F 0=.sl m 4 (l.map bt)/\F 1=.str n/\F 5=.n (j:Nat)/\H=h) l.length ⟨0,BA,fun i d=>absurd d U,AL,AL,AL,rfl⟩ ?_;rintro k F H ⟨j,I,f,p,C,e,rfl⟩;refine AZ p e ?_;refine BL ?_ ?_<;>intro A
 .have c:j<l.length:=BQ A
  have E:BR jA H 9 (.fptr 4 (l.map bt) j 0)=some (.str l[j].name):=by rw[BK eo c];rfl
  refine aZ p C e c E ?_;refine BL ?_ ?_<;>intro B
  .refine A7 e ?_
   exact⟨by rw[d',UH (PH n) l j c (fun i d=>f i d U) B],trivial⟩
  .refine AZ e (CZ j) ?_
   refine⟨k-1,U,j+1,U,fun i d g=>?_,AO,AO,rfl,trivial⟩;rcases zC i j with q|q
   .exact f i q g
   .obtain rfl:i=j:=U
    exact B
 .refine AB ?_
  have c:¬j<l.length:=BQ A;exact⟨by rw[d',TF (PH n) l fun i d=>f i U d],trivial⟩
theorem Mu (s:ByteArray):(Lib.cut s.data.toList [91]).1.length<=s.size:=by
 have:=Hy s.data.toList;have e:s.data.toList.length=s.size:=Array.length_toList;omega
theorem Vo (A:fm G)(s:ByteArray)(h:Hp)(S:s.size<=1048576):a_ (En G) 149 [.str s] h (.bool (GG s)):=by
 refine cn Tryz.func149 2 ?_;refine AB ?_;refine(NZ G A.kw s h U).use ?_;cases B:FN s
 case true =>
  refine AB ?_;exact⟨by unfold GG;rw[B,zN],trivial⟩
 have M:GG s=(KR s).isSome:=by unfold GG;rw[B,zK]
 rw[M];clear B M;refine AB ?_;refine(sW G A s h S).use ?_;have q:=sR s;have p:=Mu s;unfold cutV
 generalize Lib.cut s.data.toList [91]=c at q p|-
 obtain⟨a,b,f⟩:=c;simp only at q p;refine AB ?_;cases f
 .refine AB ?_
  exact⟨by rw[q];rfl,trivial⟩
 refine AB ?_;refine(NZ G A.kw ⟨a.toArray⟩ h (by rw[lf];omega)).uu ?_;cases l:FN ⟨a.toArray⟩
 .refine AB ?_
  exact⟨by rw[q,l];rfl,trivial⟩
 refine AB ?_;refine BB (fun n F H=>∃k,n+k=8/\(∀j,j<k->j<8->s≠elN ⟨a.toArray⟩ j)/\F 0=.str s/\F 3=.str ⟨a.toArray⟩/\F 22=.n (k:Nat)/\H=h) 8 ⟨0,BA,fun j L=>absurd L U,AL,AL,AL,rfl⟩ ?_;rintro n F H ⟨k,hk,J,E,Q,f22,rfl⟩;refine A7 f22 ?_;refine BL ?_ ?_<;>intro K
 .have g:k<8:=by simp at K;omega
  refine DC E Q f22 ?_;refine(kO G ⟨a.toArray⟩ k g H (by rw[lf];omega)).use ?_;refine A7 E ?_;refine BL ?_ ?_<;>intro C
  .refine AB ?_
   exact⟨by rw[(oe _ _).1 C,yM g l];rfl,trivial⟩
  .refine AZ f22 (CZ k) ?_
   refine⟨n-1,U,k+1,U,fun j L R=>?_,AO,AO,rfl,trivial⟩;rcases zC j k with I|I
   .exact J j I R
   .obtain rfl:j=k:=U
    intro e;rw[(oe _ _).2 e] at C;cases C
 .refine AB ?_
  have g:8<=k:=by simp at K;omega
  refine⟨?_,trivial⟩;rcases hcase:KR s with _|⟨N,d⟩
  .rfl
  .exfalso
   obtain⟨T,O,V,P,_⟩:=PN hcase;rw[q,l] at hcase
   have:N=a:=by
    simp only[Bool.and_true,if_true] at hcase;split at hcase
    .split at hcase
     .cases hcase;rfl
     .cases hcase
    .cases hcase
   subst this;exact J _ U O P
theorem Mn (f:i<(elN a k).size)(h:i=a.size):(elN a k)[i]=91:=by
 subst h
 have e:(elN a k).data.toList[a.size]?=some 91:=by
  rw[RV,List.getElem?_append_right (by show a.data.toList.length<=a.data.size;simp)];have:a.size-a.data.toList.length=0:=by show a.data.size-a.data.toList.length=0;simp
  rw[this];rfl
 have d:(elN a k).data[a.size]?=some 91:=by rw[<-Array.getElem?_toList];exact e
 have c:a.size<(elN a k).data.size:=f;rw[Array.getElem?_eq_getElem c] at d;exact Option.some.inj d
theorem ACM (a:ByteArray)(k:Nat):(elN a k).extract 0 a.size=a:=by
 refine tP ?_;have:(elN a k)=⟨(a.data.toList++[91,UInt8.ofNat (48+k),93]).toArray⟩:=tP (RV a k);rw[this];have e:a.size=a.data.toList.length:=(Array.length_toList (xs:=a.data)).symm;rw[e,HN]
theorem ARD (s:ByteArray)(h:Hp)(hl:s.size<=1048576):a_ (En G) 262 [.str s] h (.bool (GG s)):=by
 refine cn Tryz.func262 2 ?_;refine AB ?_;refine(PI G s h).use ?_;cases S:FN s
 case true =>
  refine AB ?_;exact⟨by unfold GG;rw[S,zN],trivial⟩
 have hv:GG s=(KR s).isSome:=by unfold GG;rw[S,zK]
 rw[hv];clear S hv;refine AB ?_;refine BB (fun n F H=>∃k,1<=k/\n+k=s.size+1/\(∀a j,j<8->FN a=true->a.size<k->s≠elN a j)/\F 0=.str s/\F 3=.n (k:Nat)/\H=h) s.size ⟨1,U,U,fun a j p C J e=>?_,AL,AL,rfl⟩ ?_
 .have:=(U9 (l:=a.data.toList) (by rw[sg];exact C)).1
  have L:a.data.toList.length=a.size:=Array.length_toList;have:=qQ.2 this;omega
 rintro n F H ⟨k,a0,hk,hb,A,g,rfl⟩;refine AZ A g ?_;refine DV ?_ ?_<;>intro B
 .have f:∀c:Fr,c 0=.str s->c 3=.n (k:Nat)->(∀a j,j<8->FN a=true->a.size=k->s≠elN a j)->∃m,m<n/\∃K,1<=K/\m+K=s.size+1/\(∀a j,j<8->FN a=true->a.size<K->s≠elN a j)/\K=k+1:=fun c _ _ R =>
   ⟨n-1,U,k+1,U,U,fun a j p C J=>by
    rcases zC a.size k with q|q
    .exact hb a j p C q
    .exact R a j p C U,rfl⟩
  refine DC A g (tn s k .i64 B) ?_;refine I8 ?_ ?_<;>intro P
  .refine DC P g (CZ k) ?_
   obtain⟨m,O,K,q,L,M,rfl⟩:=f F A g (fun a j p C J e=>by
    subst e;rw[Mn B J.symm] at P
    revert P;decide)
   exact⟨m,O,k+1,q,L,M,AO,rfl,trivial⟩
  simp only[vQ,zS,qB,EM,CP,U6,↓reduceIte,jC,b_,P,A,g,oR (Nat.le_of_lt B)];refine(PI G (s.extract 0 k) _).use ?_;refine A7 P ?_;refine BL ?_ ?_<;>intro Y
  .refine AZ g (CZ k) ?_
   obtain⟨m,O,K,q,L,M,rfl⟩:=f F A g (fun a j p C J e=>by
    subst e;subst J;rw[ACM,C] at Y
    cases Y)
   exact⟨m,O,k+1,q,L,M,AO,rfl,trivial⟩
  have T:FN (s.extract 0 k)=true:=BQ Y;refine AB ?_;refine EG 2 (fun c E=>c 0=.str s/\c 3=.n (k:Nat)/\E=H/\∀j,j<8->s≠elN (s.extract 0 k) j) (fun c E=>c 2=.bool (KR s).isSome/\E=H) ?_ ?_ ?_
  .refine BB (fun Z c E=>∃i,Z+i=8/\(∀j,j<i->j<8->s≠elN (s.extract 0 k) j)/\c 0=.str s/\c 3=.n (k:Nat)/\c 4=.n (i:Nat)/\E=H) 8 ⟨0,BA,fun j p=>absurd p U,DY A,DY g,AL,rfl⟩ ?_
   clear A g;rintro Z F H ⟨i,hi,N,A,g,Q,rfl⟩;refine A7 Q ?_;refine BL ?_ ?_<;>intro hc
   .have I:i<8:=by simp at hc;omega
    simp only[vQ,zS,qB,CP,U6,↓reduceIte,jC,b_,A,g,Q,oR (Nat.le_of_lt B)];refine(sO G (s.extract 0 k) i I _ (by simp [ByteArray.size_extract];omega)).uu ?_;refine BL ?_ ?_<;>intro X
    .refine AB ?_
     refine⟨?_,trivial⟩;have:=(oe _ _).1 X;rw[this,yM I T];rfl
    .refine AZ Q (CZ i) ?_
     refine⟨Z-1,U,i+1,U,fun j p h8=>?_,AO,AO,rfl,trivial⟩;rcases zC j i with q|q
     .exact N j q h8
     .obtain rfl:j=i:=U
      intro e;rw[(oe _ _).2 e] at X;cases X
   .have I:8<=i:=by simp at hc;omega
    refine AB ?_;exact⟨A,g,trivial,fun j p=>N j U p⟩
  .rintro c E ⟨g0,g3,rfl,V⟩
   refine AZ g3 (CZ k) ?_
   obtain⟨m,O,K,q,L,M,rfl⟩:=f c g0 g3 (fun a j p C J e=>by
    refine V j p ?_
    rw[e,<-J,ACM])
   exact⟨m,O,k+1,q,L,M,AO,rfl,trivial⟩
  .rintro c E ⟨g2,rfl⟩
   refine A7 g2 ?_;exact H7
 .refine AB ?_
  refine⟨?_,trivial⟩;rcases hcase:KR s with _|⟨a,d⟩
  .rfl
  .exfalso
   obtain⟨c1,c2,c3,c4,c5⟩:=PN hcase;refine hb ⟨a.toArray⟩ _ c2 c3 ?_ c4;rw[lf];omega
def TG (l:List Vr)(s:ByteArray):Bool:=match KR s with
 | some (a,d)=>decide (1<=d.toNat-48)&&decide (d' l (elN ⟨a.toArray⟩ (d.toNat-48-1))<0)
 | none=>false
theorem AVA (h:FN s=true):(Lib.cut s.data.toList [91]).2.2=false:=by
 obtain⟨_,c⟩:=U9 (l:=s.data.toList) (by rw[sg];exact h)
 have:Lib.index s.data.toList [91] = -1:=Lib.index_none fun j _=>by
  rw[<-Bool.not_eq_true];intro d;have:=Lib.occAt_head rfl d;exact c 91 (qC this) rfl
 unfold Lib.cut;rw[this,if_neg U]
theorem AVB {a:List UInt8}{d:UInt8}(h:KR s=some (a,d)):(Lib.cut s.data.toList [91]).1=a/\(Lib.cut s.data.toList [91]).2.2=true:=by
 rw[sR] at h;split at h
 case isFalse=>cases h
 rename_i c;split at h
 case h_2=>cases h
 split at h
 case isFalse=>cases h
 cases h;exact⟨rfl,(Bool.and_eq_true_iff.1 c).1⟩
theorem AUE (S:fm G)(l:List Vr)(m:SM)(s:ByteArray)(h:Hp)(T:l.length<=1099511627776)(Y:s.size<=1048576)(E:GG s=true):a_ (En G) 153 [.sl m 4 (l.map bt),.str s] h (.bool (TG l s)):=by
 refine cn Tryz.func153 4 ?_;refine AB ?_;refine(sW G S s h Y).use ?_;unfold cutV;rcases hcase:KR s with _|⟨a,d⟩
 .have V:FN s=true:=by
   unfold GG at E;rw[hcase] at E;simpa using E
  have p:TG l s=false:=by unfold TG;rw[hcase]
  rw[AVA V,p];refine AB ?_;exact H7
 obtain⟨J,K⟩:=AVB hcase;obtain⟨c1,I,c3,A,c5⟩:=PN hcase;have p:TG l s=(decide (1<=d.toNat-48)&&decide (d' l (elN ⟨a.toArray⟩ (d.toNat-48-1))<0)):=by unfold TG;rw[hcase]
 rw[J,K,p];clear p hcase J K
 generalize d.toNat-48=q at I A|-
 refine AB ?_;refine BB (fun n F H=>∃k,n+k=8/\1<=k/\(∀j,1<=j->j<k->j≠q)/\F 0=.sl m 4 (l.map bt)/\F 1=.str s/\F 5=.str ⟨a.toArray⟩/\F 8=.n (k:Nat)/\H=h) 7 ⟨1,BA,U,fun j g O=>absurd O U,AL,AL,AL,AL,rfl⟩ ?_;rintro n F H ⟨k,hk,B,Q,L,M,N,f,rfl⟩;refine A7 f ?_;refine BL ?_ ?_<;>intro R
 .have c:k<8:=by simp at R;omega
  refine DC M N f ?_;refine(kO G ⟨a.toArray⟩ k c H (by rw[lf];omega)).use ?_;refine A7 M ?_;refine BL ?_ ?_<;>intro C
  .have X:k=q:=by
    have:=(oe _ _).1 C;rw[A] at this;exact(HR I c this).symm
   have Z:IntKind.i64.wrap (((k:Nat):Int)-1)=((k-1:Nat):Int):=by rw[wrap_i64 U U];omega
   refine EH L N f Z ?_;refine(kO G ⟨a.toArray⟩ (k-1) U H (by rw[lf];omega)).use ?_;refine A7 L ?_;refine(d_ G l m _ H T).uu ?_;refine⟨?_,trivial⟩;rw[<-X,decide_eq_true B,qX]
  .refine AZ f (CZ k) ?_
   refine⟨n-1,U,k+1,U,U,fun j g O=>?_,AO,AO,AO,rfl,trivial⟩;rcases zC j k with P|P
   .exact Q j g P
   .obtain rfl:j=k:=U
    intro e;rw[(oe _ _).2 (by rw[A,e])] at C;cases C
 .refine AB ?_
  have c:8<=k:=by simp at R;omega
  refine⟨?_,trivial⟩;have:¬1<=q:=fun g=>Q q g U rfl
  rw[decide_eq_false this,Bool.false_and]
theorem Jt (hk:k<s.size):s.data.toList[k]?=some s[k]:=by
 have c:s.data[k]?=some s[k]:=Array.getElem?_eq_getElem hk;rw[Array.getElem?_toList];exact c
theorem Oy (g:GG s=true)(hk:k<s.size)(A:s[k]=91):∃a d,KR s=some (a,d)/\k=a.length/\s.extract 0 k=⟨a.toArray⟩:=by
 have c:=Jt hk;rw[A] at c;rcases hcase:KR s with _|⟨a,d⟩
 .exfalso
  have C:FN s=true:=by unfold GG at g;rw[hcase] at g;simpa using g
  exact(U9 (l:=s.data.toList) (by rw[sg];exact C)).2 91 (qC c) rfl
 .obtain⟨F,I,q,p,J⟩:=PN hcase
  refine⟨a,d,rfl,?_⟩;have E:=(U9 q).2;rw[p,RV] at c
  have e:k=a.length:=by
   rcases Nat.lt_trichotomy k a.length with f|f|f
   .grind
   .exact f
   .exfalso
    rw[List.getElem?_append_right NI] at c;simp only at c;obtain⟨j,B⟩:∃j,k-a.length=j+1:=⟨k-a.length-1,U⟩;rw[B,List.getElem?_cons_succ] at c;have:j=0\/j=1:=U;rcases this with rfl|rfl
    .simp_all
    .simp_all
  refine⟨e,?_⟩;have:=ACM ⟨a.toArray⟩ (d.toNat-48);rw[lf,<-p,<-e] at this;exact this
theorem AZA (l:List Vr)(m:SM)(h:Hp)(hl:l.length<=1048576)(hv:∀v∈l,GG v.name=true/\v.name.size<=1048576):a_ (En G) 193 [.sl m 4 (l.map bt)] h (.bool (l.any fun v=>TG l v.name)):=by
 refine cn Tryz.func193 2 ?_;refine AB ?_;refine BB (fun n F H=>∃i,n+i=l.length/\(∀(j:Nat) (hj:j<i) (hl:j<l.length),TG l l[j].name=false)/\F 0=.sl m 4 (l.map bt)/\F 3=.n (i:Nat)/\H=h) l.length ⟨0,BA,fun j hj=>absurd hj U,AL,AL,rfl⟩ ?_;rintro n F H ⟨i,hi,hb,g,p,rfl⟩;refine AZ g p ?_;refine BL ?_ ?_<;>intro Z
 .have f:i<l.length:=BQ Z
  obtain⟨a1,a4⟩:=hv _ (jH f);have l0:BR jA H 9 (.fptr 4 (l.map bt) i 0)=some (.str l[i].name):=by rw[BK eo f];rfl
  have J:TG l l[i].name=true->(l.any fun v=>TG l v.name)=true:=fun hg=>qK.2 ⟨_,jH f,hg⟩
  generalize hs:l[i].name=s at a1 a4 l0 J;refine AB ?_;refine EG 2 (fun c A=>c 0=.sl m 4 (l.map bt)/\c 3=.n (i:Nat)/\A=H/\TG l s=false) (fun c A=>c 2=.bool (l.any fun v=>TG l v.name)/\A=H) ?_ ?_ ?_
  .refine BB (fun n' c A=>∃k,1<=k/\n'+k=s.size+1/\(∀a d,KR s=some (a,d)->a.length<k->TG l s=false)/\c 0=.sl m 4 (l.map bt)/\c 3=.n (i:Nat)/\c 4=.n (k:Nat)/\A=H) s.size ⟨1,U,U,fun a d M B=>?_,DY g,DY p,AL,rfl⟩ ?_
   .exfalso
    have:=(U9 (PN M).2.2.1).1;have:=qQ.2 this;omega
   clear g p;rintro n' F H ⟨k,a6,hk,X,g,p,C,rfl⟩;refine aZ g p C f l0 ?_;refine DV ?_ ?_<;>intro E
   .refine WU g p C f l0 (tn s k .i64 E) ?_
    refine BL ?_ ?_<;>intro hx
    .refine AZ C (CZ k) ?_
     refine⟨n'-1,U,k+1,U,U,fun a d M B=>?_,g,p,rfl,trivial⟩;rcases zC a.length k with I|I
     .exact X a d M I
     .exfalso
      obtain⟨c1,c2,c3,S,c5⟩:=PN M
      have V:s[k]=91:=by
       have h4:s.data.toList[k]?=some 91:=by
        rw[S,RV,List.getElem?_append_right NI];have:k-(⟨a.toArray⟩:ByteArray).data.toList.length=0:=by simp;omega
        rw[this];rfl
       rw[Jt E] at h4;exact Option.some.inj h4
      rw[V] at hx
      revert hx;decide
    have a3:s[k]=91:=by
     have h0:((s[k].toNat:Int)==91)=true:=by
      simpa [bne] using hx
     have B:(s[k].toNat:Int)=91:=BQ h0;exact UInt8.toNat_inj.1 (by show _=91;omega)
    obtain⟨a,d,M,a7,L⟩:=Oy a1 E a3;obtain⟨c1,c2,c3,S,c5⟩:=PN M;have N:TG l s=(decide (1<=d.toNat-48)&&decide (d' l (elN ⟨a.toArray⟩ (d.toNat-48-1))<0)):=by unfold TG;rw[M]
    have K:(⟨a.toArray⟩:ByteArray).size<=1048576:=by rw[lf];omega
    generalize d.toNat-48=q at c2 S N;refine AB ?_;refine EG 4 (fun c A=>c 0=.sl m 4 (l.map bt)/\c 3=.n (i:Nat)/\c 4=.n (k:Nat)/\A=H/\TG l s=false) (fun c A=>c 2=.bool (l.any fun v=>TG l v.name)/\A=H) ?_ ?_ ?_
    .refine BB (fun n2 c A=>∃t,1<=t/\n2+t=8/\(1<=q->q<t->TG l s=false)/\c 0=.sl m 4 (l.map bt)/\c 3=.n (i:Nat)/\c 4=.n (k:Nat)/\c 5=.n (t:Nat)/\A=H) 7 ⟨1,U,U,fun B I=>absurd I U,DY g,DY p,DY C,AL,rfl⟩ ?_
     clear g p C;rintro n2 F H ⟨t,a5,ht,Y,g,p,C,T,rfl⟩;refine A7 T ?_;refine BL ?_ ?_<;>intro Z
     .have P:t<8:=by simp at Z;omega
      have hw:IntKind.i64.wrap (((t:Nat):Int)-1)=((t-1:Nat):Int):=by rw[wrap_i64 U U];omega
      refine AB ?_;refine DI BC ?_;simp only[vQ,zS,qB,X6,KU,KE,U6,↓reduceIte,jC,jO,b_,cM,WL,g,p,C,T,CE f,l0,oR (Nat.le_of_lt E),L];refine⟨_,sO G ⟨a.toArray⟩ t P _ K,?_⟩;refine AB ?_
      have a2:TG l s=false\/t≠q->∃Q,Q<n2/\∃R,1<=R/\Q+R=8/\(1<=q->q<R->TG l s=false)/\R=t+1:=fun hh =>
       ⟨n2-1,U,t+1,U,U,fun B I=>by
        rcases hh with hh|hh
        .exact hh
        .exact Y B U,rfl⟩
      refine mL ?_ ?_<;>intro O
      .have hq:t=q:=by
        have:=(oe _ _).1 O;rw[S] at this;exact(HR c2 P this).symm
       simp only[vQ,zS,qB,JA,KW,ZI,X6,KU,KE,EM,U6,L9,↓reduceIte,jC,jO,b_,cM,WL,O,g,p,C,T,CE f,l0,oR (Nat.le_of_lt E),L,hw];refine⟨_,sO G ⟨a.toArray⟩ (t-1) U _ K,?_⟩
       try refine A7 O ?_
       refine⟨_,VT G l m _ _ U,?_⟩;refine A7 O ?_;refine BL ?_ ?_<;>intro hz
       .refine AB ?_
        refine⟨?_,trivial⟩;rw[J];rw[N,<-hq,decide_eq_true a5,hz];rfl
       .refine AZ T (CZ t) ?_
        obtain⟨Q,hm,R,B,I,V,rfl⟩:=a2 (.inl (by rw[N,<-hq,hz,Bool.and_false]));exact⟨Q,hm,t+1,B,I,V,g,p,C,rfl,trivial⟩
      .refine DC O T (CZ t) ?_
       obtain⟨Q,hm,R,B,I,V,rfl⟩:=a2 (.inr (fun e=>by
        rw[(oe _ _).2 (by rw[S,e])] at O
        cases O))
       exact⟨Q,hm,t+1,B,I,V,g,p,C,rfl,trivial⟩
     .have P:8<=t:=by simp at Z;omega
      refine AB ?_;refine⟨g,p,C,trivial,?_⟩;rcases zC q 1 with B|B
      .simp_all
      .exact Y B U
    .rintro c A ⟨g0,g3,g4,rfl,a0⟩
     refine AZ g4 (CZ k) ?_;exact⟨n'-1,U,k+1,U,U,fun _ _ _ _=>a0,g0,g3,rfl,trivial⟩
    .rintro c A ⟨g2,rfl⟩
     refine A7 g2 ?_;exact H7
   .refine AB ?_
    refine⟨g,p,trivial,?_⟩;rcases hcase:KR s with _|⟨a,d⟩
    .unfold TG;rw[hcase]
    .exact X a d hcase (by have:=(PN hcase).2.2.2.2;omega)
  .rintro c A ⟨g0,g3,rfl,a0⟩
   refine AZ g3 (CZ i) ?_;refine⟨n-1,U,i+1,U,fun j hj hl=>?_,g0,rfl,trivial⟩;rcases zC j i with B|B
   .exact hb j B hl
   .grind
  .rintro c A ⟨g2,rfl⟩
   refine A7 g2 ?_;exact H7
 .refine AB ?_
  have f:¬i<l.length:=BQ Z;refine⟨?_,trivial⟩
  have:(l.any fun v=>TG l v.name)=false:=by
   rw[qP];intro v hv;obtain⟨j,hj,rfl⟩:=qR hv;rw[hb j U hj];decide
  rw[this]
def cr {α:Type}(f:α->Int):List α->Int
 | []=>0
 | x::r=>if f x≠0 then f x else cr f r
theorem VS {α:Type}(f:α->Int):∀(xs:List α) (k:Nat) (hk:k<xs.length),(∀(j:Nat) (e:j<k),f (xs[j]'U)=0)->f xs[k]≠0->cr f xs=f xs[k]
 | x::r,0,_,_,h=>by
   have h:f x≠0:=h;show(if f x≠0 then f x else cr f r)=f x;rw[if_pos h]
 | x::r,k+1,hk,c,h=>by
   have d:f x=0:=c 0 U;have g:=VS f r k (BQ hk) (fun j e=>c (j+1) U) h;show(if f x≠0 then f x else cr f r)=f (r[k]'(BQ hk));rw[if_neg (by simp [d]),g]
theorem TI {α:Type}(f:α->Int):∀xs:List α,(∀(j:Nat) (d:j<xs.length),f xs[j]=0)->cr f xs=0
 | [],_=>rfl
 | x::r,c=>by
   have e:f x=0:=c 0 BA;show(if f x≠0 then f x else cr f r)=0;rw[if_neg (by simp [e]),TI f r fun j d=>c (j+1) (BQ d)]
theorem ea {α:Type}{f:α->Int}:∀ {xs:List α},cr f xs=0->∀x∈xs,f x=0
 | y::r,h,x,d=>by
   have c:(if f y≠0 then f y else cr f r)=0:=h;split at c
   .rename_i e;exact absurd c e
   .rename_i e
    rcases List.mem_cons.1 d with rfl|d
    .simpa using e
    .exact ea c x d
def P9 (v:Vr):Bool:=decide (v.width<1)||decide (v.width>8)||decide (v.mode<0)||decide (v.mode>2)||decide (v.value<0)||decide (v.value≥2^v.width.toNat)||(!(v.mode==0) && !(v.value==0))
def gy (v:Vr):Int:=if GG v.name=true then if P9 v=true then 1 else 0 else 7
theorem MT:∀n:Nat,n<=8->IZ jA 3 .shl (.n 1) (.n (n:Nat))=some (.n (2^n))
 | 0,_=>BC
 | 1,_=>BC
 | 2,_=>BC
 | 3,_=>BC
 | 4,_=>BC
 | 5,_=>BC
 | 6,_=>BC
 | 7,_=>BC
 | 8,_=>BC
 | n+9,h=>absurd h U
theorem ku {w:Int}(c:¬w<1)(d:¬w>8):IZ jA 3 .shl (.n 1) (.n w)=some (.n (2^w.toNat)):=by
 obtain⟨n,rfl⟩:=wK (U:0<=w);exact MT n U
theorem RK (v:Vr)(h:Hp)(J:v.name.size<=1048576):a_ (En G) 191 [.agg (bt v)] h (.n (gy v)):=by
 refine ACalls.pure0 rfl ?_;refine cn Tryz.func191 2 ?_;refine LM @k6 @ir ?_;refine(ARD G v.name _ J).use ?_;cases I:GG v.name
 .refine AB ?_
  exact⟨by unfold gy;rw[I];rfl,_,rfl⟩
 refine U4 @i6 ?_;have fin:∀b,P9 v=b->gy v=if b=true then 1 else 0:=fun b A=>by unfold gy;rw[I,A];rfl
 cases c:decide (v.width<1)
 case true =>
  refine A7 c ?_;exact⟨by rw[fin true (by unfold P9;rw[c];simp)];rfl,_,rfl⟩
 refine LM c @i6 ?_;cases d:decide (v.width>8)
 case true =>
  refine A7 d ?_;exact⟨by rw[fin true (by unfold P9;rw[d];simp)];rfl,_,rfl⟩
 refine LM d @jq ?_;cases g:decide (v.mode<0)
 case true =>
  refine A7 g ?_;exact⟨by rw[fin true (by unfold P9;rw[g];simp)];rfl,_,rfl⟩
 refine LM g @jq ?_;cases l:decide (v.mode>2)
 case true =>
  refine A7 l ?_;exact⟨by rw[fin true (by unfold P9;rw[l];simp)];rfl,_,rfl⟩
 refine LM l @j9 ?_;cases e:decide (v.value<0)
 case true =>
  refine A7 e ?_;exact⟨by rw[fin true (by unfold P9;rw[e];simp)];rfl,_,rfl⟩
 refine A7 e ?_;have C:¬v.width<1:=BQ c;have E:¬v.width>8:=BQ d;have K:¬v.value<0:=BQ e;have B:=ku C E;have f:∀b,(decide (v.value≥2^v.width.toNat)||(!(v.mode==0) && !(v.value==0)))=b->gy v=if b=true then 1 else 0:=fun b A=>fin b (by unfold P9;rw[c,d,g,l,e];simpa using A)
 refine DI BC ?_;have L:(0:Int)<2^v.width.toNat:=Int.pow_pos DX;cases F:(v.mode==0)<;>cases p:(v.value==0)<;>cases q:decide (v.value≥2^v.width.toNat)
 all_goals
  simp only[vQ,JA,KW,ZI,ZJ,qd,A3,te,RD,EM,CP,GV,↓reduceIte,jC,jO,qL,b_,WJ,YY,bZ,EN ct,i6,jq,j9,B,F,p,q,bne];refine⟨?_,_,rfl⟩;rw[f _ rfl,F,p,q]
  first
   | rfl
   | (exfalso
      simp at p q
      omega)
def n9 (l:List Vr):Bool:=decide (∃i:Fin l.length,0<=d' (l.take i.1) (l[i.1]).name)
def LG (l:List Vr):Int:=(l.map fun v=>if v.mode=0 then 0 else v.width).sum
def NP (l:List Vr):Int:=if l.length>16 then 2 else if cr gy l≠0 then cr gy l else if n9 l=true then 8 else if(l.any fun v=>TG l v.name)=true then 10 else if LG l>20 then 2 else 0
theorem Tr (v:Vr):PH v.name v=true:=by unfold PH;simp
theorem Ep {l:List Vr}(A:i<l.length):(d' l l[i].name≠(i:Int))↔0<=d' (l.take i) l[i].name:=by
 constructor
 .intro h
  rcases Classical.em (0<=d' (l.take i) l[i].name) with c|c
  .exact c
  .exfalso
   refine h (UH _ l i A (fun j E=>?_) (Tr _));refine kB (PH l[i].name) (l.take i) (by unfold d' at c;omega) _ ?_;have:(l.take i)[j]'(by rw[jT];omega)=l[j]:=List.getElem_take;rw[<-this];exact jH _
 .intro h e
  obtain⟨k,hk,_,d,C⟩:=aL (PH l[i].name) (l.take i) h;rw[jT] at hk;rw[List.getElem_take] at d;have q:0<=d' l l[i].name:=by rw[e];omega
  obtain⟨g,B,f,_,p⟩:=aL (PH l[i].name) l q
  have:g=i:=by
   have f:d' l l[i].name=(g:Int):=f;omega
  have:=p k U;rw[this] at d;cases d
theorem Fv {l:List Vr}(c:i<l.length)(h:0<=d' (l.take i) l[i].name):n9 l=true:=decide_eq_true ⟨⟨i,c⟩,h⟩
theorem yN {l:List Vr}(h:∀(i:Nat) (c:i<l.length),d' (l.take i) l[i].name<0):n9 l=false:=decide_eq_false fun⟨i,c⟩=>by have:=h i.1 i.2;omega
theorem eM {l:List Vr}(c:i<l.length):LG (l.take (i+1))=LG (l.take i)+(if l[i].mode=0 then 0 else l[i].width):=by
 unfold LG;rw[jW c,qE,List.sum_append];simp
theorem tI (l:List Vr)(c:∀v∈l,gy v=0):∀i,i<=l.length->0<=LG (l.take i)/\LG (l.take i)<=8*i
 | 0,_=>by simp [LG]
 | i+1,h=>by
   have e:=tI l c i U;rw[eM (U:i<l.length)];have:=c _ (jH (U:i<l.length));unfold gy at this;split at this
   .split at this
    .cases this
    .rename_i d
     have:P9 l[i]=false:=BQ d;unfold P9 at this;simp only[Bool.or_eq_false_iff,decide_eq_false_iff_not] at this;split<;>omega
   .cases this
theorem ky (h:Hp):H9 jA h 131=some (.ptr h.length 0 0,h++[qH 4 [[.str ⟨#[]⟩,.n 0,.n 0,.n 0]]]):=FZ (row:=[.str ⟨#[]⟩,.n 0,.n 0,.n 0]) BC
theorem k_ (h:Hp)(v:Vr):D7 jA (h++[qH 4 [[.str ⟨#[]⟩,.n 0,.n 0,.n 0]]]) 131 (.ptr h.length 0 0) (.agg (bt v))=some (h++[qH 4 [bt v]]):=by
 rw[JV (cs:=bt v) (row:=[.str ⟨#[]⟩,.n 0,.n 0,.n 0]) rfl rq (A8 _ _) (by exact jF 4),KZ];rfl
theorem jo {l:List Vr}(c:i<l.length):BR jA h 131 (.fptr 4 (l.map bt) i 0)=some (.agg (bt l[i])):=DL CA rq dz c
theorem Rl {l:List Vr}{m:SM}(c:i<=l.length):∃m',IW jA h 22 (.sl m 4 (l.map bt)) none (some (.n (i:Nat))) none=some (.sl m' 4 ((l.take i).map bt)):=by
 have d:da jA 131=some 4:=rq;exact⟨vB m i (l.map bt).length,by rw[rj Ri d (by rw[jI];exact c),List.map_take]⟩
theorem uE (l:List Vr)(m:SM)(h:Hp)(A:l.length<=1048576)(Y:∀v∈l,v.name.size<=1048576):a_ (En G) 104 [.sl m 4 (l.map bt)] h (.n (NP l)):=by
 refine cn Tryz.func104 2 ?_;refine AB ?_;refine BL ?_ ?_<;>intro V
 .refine AB ?_
  exact⟨by unfold NP;rw[if_pos (by simp at V;omega)],trivial⟩
 have B:¬l.length>16:=by simp at V;omega
 refine AB ?_;refine EG 0 (fun F H=>F 0=.sl m 4 (l.map bt)/\F 3=.n (LG l)/\H=h/\cr gy l=0) (fun F H=>F 2=.n (NP l)/\H=h) ?_ ?_ ?_
 .refine BB (fun n F H=>∃i,n+i=l.length/\(∀(j:Nat) (d:j<i) (A:j<l.length),gy l[j]=0)/\F 0=.sl m 4 (l.map bt)/\F 3=.n (LG (l.take i))/\F 4=.n (i:Nat)/\H=h) l.length ⟨0,BA,fun j d=>absurd d U,AL,AL,AL,rfl⟩ ?_
  rintro n F H ⟨i,hi,q,e,g,L,rfl⟩;refine AZ e L ?_;refine DV ?_ ?_<;>intro c
  .simp only[vQ,CP,↓reduceIte,jC,b_,cM,e,L,CE c,jo c]
   refine(RK G l[i] H (Y _ (jH c))).uu ?_;refine BL ?_ ?_<;>intro P
   .refine AB ?_
    have I:gy l[i]≠0:=by simpa [bne] using P
    refine⟨?_,trivial⟩;have:=VS gy l i c (fun j d=>q j d U) I;unfold NP;rw[if_neg B,this,if_pos I]
   .have I:gy l[i]=0:=by simpa [bne] using P
    have E:∀(j:Nat) (d:j<i+1) (A:j<l.length),gy l[j]=0:=fun j d A=>by
     rcases zC j i with M|M
     .exact q j M A
     .grind
    have p:=eM c
    have a0:0<=LG (l.take (i+1))/\LG (l.take (i+1))<=8*((i+1:Nat):Int):=by
     have:=tI (l.take (i+1)) (fun v Q=>by
      obtain⟨j,d,rfl⟩:=qR Q;rw[jT] at d
      rw[List.getElem_take];exact E j U U) (i+1) (by rw[jT];omega)
     rw[List.take_take,Nat.min_self] at this;exact this
    have l2:BR jA H 3 (.fptr 4 (l.map bt) i 2)=some (.n l[i].mode):=by rw[BK ct c];rfl
    have l1:BR jA H 3 (.fptr 4 (l.map bt) i 1)=some (.n l[i].width):=by rw[BK ct c];rfl
    refine N8 e L c l2 ?_;refine BL ?_ ?_<;>intro X
    .have J:¬l[i].mode=0:=by simpa [bne] using X
     rw[if_neg J] at p;have hw:IntKind.i64.wrap (LG (l.take i)+l[i].width)=LG (l.take (i+1)):=by rw[p,wrap_i64 U U]
     refine LJ e g L c l1 hw (CZ i) ?_;refine⟨n-1,U,i+1,U,E,AO,rfl,rfl,trivial⟩
    .have J:l[i].mode=0:=by simpa [bne] using X
     rw[if_pos J,Int.add_zero] at p;refine AZ L (CZ i) ?_;refine⟨n-1,U,i+1,U,E,AO,by rw[p];exact g,rfl,trivial⟩
  .refine AB ?_
   refine⟨e,?_,trivial,TI gy l fun j d=>q j U d⟩;rw[jK U] at g;exact g
 .rintro F H ⟨e,g,rfl,hz⟩
  have N:=ea hz
  have T:∀v∈l,GG v.name=true/\v.name.size<=1048576:=by
   intro v Q;have:=N v Q;unfold gy at this;split at this
   .rename_i hn;exact⟨hn,Y v Q⟩
   .cases this
  have O:∀b,n9 l=b->NP l=if b=true then 8 else if(l.any fun v=>TG l v.name)=true then 10 else if LG l>20 then 2 else 0:=fun b q=>by
   unfold NP;rw[if_neg B,if_neg (by simp [hz]),q]
  refine AB ?_;refine EG 2 (fun f C=>f 0=.sl m 4 (l.map bt)/\f 3=.n (LG l)/\C=H/\n9 l=false) (fun f C=>f 2=.n (NP l)/\C=H) ?_ ?_ ?_
  .refine BB (fun n f C=>∃i,n+i=l.length/\(∀(j:Nat) (d:j<i) (A:j<l.length),d' (l.take j) l[j].name<0)/\f 0=.sl m 4 (l.map bt)/\f 3=.n (LG l)/\f 6=.n (i:Nat)/\C=H) l.length ⟨0,BA,fun j d=>absurd d U,DY e,DY g,AL,rfl⟩ ?_
   clear e g;rintro n F H ⟨i,hi,q,e,g,R,rfl⟩;refine AZ e R ?_;refine DV ?_ ?_<;>intro c
   .have l0:BR jA H 9 (.fptr 4 (l.map bt) i 0)=some (.str l[i].name):=by rw[BK eo c];rfl
    obtain⟨m',ht⟩:=Rl (h:=H) (m:=m) (Nat.le_of_lt c);refine AB ?_;refine DI BC ?_;refine WU @X6 e R ht c l0 ?_;refine⟨_,VT G (l.take i) m' l[i].name _ (by rw[jT];omega),?_⟩;refine AB ?_;refine BL ?_ ?_<;>intro P
    .refine AB ?_
     refine⟨?_,trivial⟩;rw[O true (Fv c (BQ P))];rfl
    .refine AZ R (CZ i) ?_
     refine⟨n-1,U,i+1,U,fun j d A=>?_,e,g,rfl,trivial⟩;rcases zC j i with M|M
     .exact q j M A
     .grind
   .refine AB ?_
    exact⟨e,g,trivial,yN fun j d=>q j U d⟩
  .rintro f C ⟨g0,g3,rfl,hd⟩
   have K:=O _ hd;refine A7 g0 ?_;refine(AZA G l m _ A T).uu ?_;refine BL ?_ ?_<;>intro S
   .refine AB ?_
    exact⟨by rw[K,S];rfl,trivial⟩
   refine A7 g3 ?_;refine BL ?_ ?_<;>intro Z
   .refine AB ?_
    refine⟨?_,trivial⟩;rw[K,S,if_neg DX,if_neg DX,if_pos (BQ Z)]
   .refine AB ?_
    refine⟨?_,trivial⟩;rw[K,S,if_neg DX,if_neg DX,if_neg (BQ Z)]
  .rintro f C ⟨g2,rfl⟩
   refine A7 g2 ?_;exact H7
 .rintro F H ⟨f2,rfl⟩
  refine A7 f2 ?_;exact H7
theorem Pb (e:fm G)(l:List Vr)(m:SM)(v:Vr)(c:Nat)(h:Hp)(f:h[c]?=some (qH 1 [[.sl m 4 (l.map bt)]]))(q:l.length<=1048576)(g:v.name.size<=1048576)(p:GG v.name=true):
  a_ (En G) 152 ([.agg (bt v)]++[.ptr c 0 0]) h (.bool (TG l v.name)):=by
 refine ACalls.pure0 rfl ?_;refine cn Tryz.func152 3 ?_;have d:(h++[qH 4 [bt v]])[c]?=_:=AU f;refine MF @k6 @ir (IA aW d) ?_;refine(AUE G e l m v.name _ U g p).uu ?_;exact⟨trivial,_,rfl⟩
theorem Xw (hG:fm G)(l:List Vr)(m:SM)(h:Hp)(P:l.length<=1048576)(hs:∀v∈l,v.name.size<=1048576):a_ (En G) 78 [.sl m 4 (l.map bt)] h (.n (NP l)):=by
 refine ACalls.pure0 rfl ?_;refine cn Tryz.func78 2 ?_;have a0:(h++[qH 1 [[.sl m 4 (l.map bt)]]])[h.length]?=some (qH 1 [[.sl m 4 (l.map bt)]]):=A8 _ _;refine DC @tF @tF (IA aW a0) ?_;refine BL ?_ ?_<;>intro hc
 .refine AB ?_
  exact⟨by unfold NP;rw[if_pos (by simp at hc;omega)],_,rfl⟩
 have X:¬l.length>16:=by simp at hc;omega
 refine A7 (IA aW a0) ?_;refine EG 0 (fun F H=>F 1=.ptr h.length 0 0/\H[h.length]?=some (qH 1 [[.sl m 4 (l.map bt)]])/\ext h H/\cr gy l=0) (fun F H=>F 2=.n (NP l)/\ext h H) ?_ ?_ ?_
 .refine BB (fun n F H=>∃i,n+i=l.length/\(∀(j:Nat) (f:j<i) (P:j<l.length),gy l[j]=0)/\F 1=.ptr h.length 0 0/\F 11=.sl m 4 (l.map bt)/\F 12=.n (l.length:Nat)/\F 13=.n (i:Nat)/\H[h.length]?=some (qH 1 [[.sl m 4 (l.map bt)]])/\ext h H) l.length ⟨0,BA,fun j f=>absurd f U,AL,AL,AL,AL,a0,⟨_,rfl⟩⟩ ?_
  rintro n F H ⟨i,hi,p,T,f11,f12,f13,N,K⟩;refine AZ f12 f13 ?_;refine DV ?_ ?_<;>intro d
  .have e:(H++[qH 4 [bt l[i]]])[h.length]?=_:=AU N
   have c:ext h (H++[qH 4 [bt l[i]]]):=K.app _;have J:=A8 H (qH 4 [bt l[i]]);have a7:=hs _ (jH d)
   have Y:∀(n':Nat),gy l[i]=0->∃m',m'<n/\∃k,m'+k=l.length/\(∀(j:Nat) (f:j<k) (P:j<l.length),gy l[j]=0)/\k=i+1:=fun _ Q =>
    ⟨n-1,U,i+1,U,fun j f P=>by
     rcases zC j i with M|M
     .exact p j M P
     .obtain rfl:j=i:=U
      exact Q,rfl⟩
   have A:gy l[i]≠0->NP l=gy l[i]:=fun Q=>by
    have:=VS gy l i d (fun j f=>p j f U) Q;unfold NP;rw[if_neg X,this,if_pos Q]
   simp only[vQ,CP,↓reduceIte,jC,b_,cM,WL,jQ,f11,f13,CE d,jo d,ky,k_]
   generalize H++[qH 4 [bt l[i]]]=H1 at e c J|-
   have l0:BR jA H1 9 (.ptr H.length 0 0)=some (.str l[i].name):=by rw[BJ eo J (row:=bt l[i]) rfl];rfl
   have C:BR jA H1 3 (.ptr H.length 0 1)=some (.n l[i].width):=by rw[BJ ct J (row:=bt l[i]) rfl];rfl
   have R:BR jA H1 3 (.ptr H.length 0 2)=some (.n l[i].mode):=by rw[BJ ct J (row:=bt l[i]) rfl];rfl
   have l3:BR jA H1 3 (.ptr H.length 0 3)=some (.n l[i].value):=by rw[BJ ct J (row:=bt l[i]) rfl];rfl
   generalize hv:l[i]=v at a7 Y A l0 C R l3;refine A7 l0 ?_;refine(Vo G hG v.name _ a7).use ?_;cases hn:GG v.name
   .refine AB ?_
    have:gy v=7:=by unfold gy;rw[hn];rfl
    exact⟨by rw[A (by rw[this];decide),this],c⟩
   have fin:∀b,P9 v=b->gy v=if b=true then 1 else 0:=fun b p=>by unfold gy;rw[hn,p];rfl
   have yes:P9 v=true->AV.int .i64 1=AV.int .i64 (NP l):=fun p=>by
    have:=fin true p;rw[A (by rw[this];decide),this];rfl
   refine AB ?_;refine DI BC ?_;cases q:decide (v.width<1)
   case true =>
    refine AZ C q ?_;exact⟨yes (by unfold P9;rw[q];simp),c⟩
   cases I:decide (v.width>8)
   case true =>
    refine DC C q I ?_;exact⟨yes (by unfold P9;rw[I];simp),c⟩
   cases S:decide (v.mode<0)
   case true =>
    refine G7 C R q I S ?_;exact⟨yes (by unfold P9;rw[S];simp),c⟩
   cases Z:decide (v.mode>2)
   case true =>
    refine LP C R q I S Z ?_;exact⟨yes (by unfold P9;rw[Z];simp),c⟩
   cases b5:decide (v.value<0)
   case true =>
    refine N7 C R l3 q I S Z b5 ?_;exact⟨yes (by unfold P9;rw[b5];simp),c⟩
   have a2:=ku (BQ q) (BQ I);cases b6:decide (v.value≥2^v.width.toNat)
   case true =>
    refine Y9 C R l3 a2 q I S Z b5 b6 ?_;exact⟨yes (by unfold P9;rw[b6];simp),c⟩
   cases b7:(v.mode==0)<;>cases b8:(v.value==0)
   case false.false =>
    simp only[vQ,JA,KW,ZI,ZJ,RD,tH,wu,u5,EM,CP,↓reduceIte,jC,jO,b_,WJ,YY,bZ,C,R,l3,a2,q,I,S,Z,b5,b6,b7,b8,bne];exact⟨yes (by unfold P9;rw[b7,b8];simp),c⟩
   all_goals
    have Q:=fin false (by unfold P9;rw[q,I,S,Z,b5,b6,b7,b8];rfl);obtain⟨m',hm,k,k1,k2,rfl⟩:=Y 0 Q;simp only[vQ,JA,KW,ZI,ZJ,qd,RD,EM,CP,GV,↓reduceIte,jC,jO,qL,b_,WJ,YY,bZ,C,R,l3,a2,q,I,S,Z,b5,b6,b7,b8,bne,f13,CZ i];exact⟨m',hm,i+1,k1,k2,AO,AO,AO,rfl,e,c⟩
  .refine AB ?_
   exact⟨T,N,K,TI gy l fun j f=>p j U f⟩
 .rintro F H ⟨T,N,K,Q⟩
  have V:=ea Q
  have a6:∀v∈l,GG v.name=true/\v.name.size<=1048576:=by
   intro v hv;have:=V v hv;unfold gy at this;split at this
   .rename_i hn;exact⟨hn,hs v hv⟩
   .cases this
  have a8:∀b,n9 l=b->NP l=if b=true then 8 else if(l.any fun v=>TG l v.name)=true then 10 else if LG l>20 then 2 else 0:=fun b p=>by
   unfold NP;rw[if_neg X,if_neg (by simp [Q]),p]
  refine AZ T (IA aW N) ?_;refine EG 2 (fun g E=>g 1=.ptr h.length 0 0/\g 5=.n (LG l)/\E[h.length]?=some (qH 1 [[.sl m 4 (l.map bt)]])/\ext h E/\n9 l=false) (fun g E=>g 2=.n (NP l)/\ext h E) ?_ ?_ ?_
  .refine BB (fun n g E=>∃i,n+i=l.length/\(∀(j:Nat) (f:j<i) (P:j<l.length),d' (l.take j) l[j].name<0)/\g 1=.ptr h.length 0 0/\g 5=.n (LG (l.take i))/\g 63=.sl m 4 (l.map bt)/\g 64=.n (l.length:Nat)/\g 65=.n (i:Nat)/\E[h.length]?=some (qH 1 [[.sl m 4 (l.map bt)]])/\ext h E) l.length ⟨0,BA,fun j f=>absurd f U,DY T,AL,AL,AL,AL,N,K⟩ ?_
   clear T N K;rintro n F H ⟨i,hi,p,T,f5,a9,f64,L,N,K⟩;refine AZ f64 L ?_;refine DV ?_ ?_<;>intro d
   .have e:(H++[qH 4 [bt l[i]]])[h.length]?=_:=AU N
    have c:ext h (H++[qH 4 [bt l[i]]]):=K.app _;have J:=A8 H (qH 4 [bt l[i]]);simp only[vQ,CP,↓reduceIte,jC,b_,cM,jQ,a9,L,CE d,jo d,ky,k_]
    generalize H++[qH 4 [bt l[i]]]=H1 at e c J|-
    have l0:BR jA H1 9 (.ptr H.length 0 0)=some (.str l[i].name):=by rw[BJ eo J (row:=bt l[i]) rfl];rfl
    have C:BR jA H1 3 (.ptr H.length 0 1)=some (.n l[i].width):=by rw[BJ ct J (row:=bt l[i]) rfl];rfl
    have R:BR jA H1 3 (.ptr H.length 0 2)=some (.n l[i].mode):=by rw[BJ ct J (row:=bt l[i]) rfl];rfl
    refine DC T (IA aW e) l0 ?_;refine(d_ G l m l[i].name _ U).uu ?_;refine BL ?_ ?_<;>intro hd
    .refine AB ?_
     refine⟨?_,c⟩;rw[a8 true (Fv d ((Ep d).1 (by simpa [bne] using hd)))];rfl
    have aa:d' (l.take i) l[i].name<0:=by
     rcases Int.lt_or_le (d' (l.take i) l[i].name) 0 with M|M
     .exact M
     .exact absurd (by simpa [bne] using hd) ((Ep d).2 M)
    have a5:∀(j:Nat) (f:j<i+1) (P:j<l.length),d' (l.take j) l[j].name<0:=fun j f P=>by
     rcases zC j i with M|M
     .exact p j M P
     .obtain rfl:j=i:=U
      exact aa
    have O:=eM d;have ab:=tI l V (i+1) U;refine A7 R ?_;refine BL ?_ ?_<;>intro hm
    .have a1:¬l[i].mode=0:=by simpa [bne] using hm
     rw[if_neg a1] at O;have hw:IntKind.i64.wrap (LG (l.take i)+l[i].width)=LG (l.take (i+1)):=by rw[O,wrap_i64 U U]
     refine G7 f5 L C hw (CZ i) ?_;exact⟨n-1,U,i+1,U,a5,AO,rfl,AO,AO,rfl,e,c⟩
    .have a1:l[i].mode=0:=by simpa [bne] using hm
     rw[if_pos a1,Int.add_zero] at O;refine AZ L (CZ i) ?_;exact⟨n-1,U,i+1,U,a5,AO,by rw[O];exact f5,AO,AO,rfl,e,c⟩
   .refine AB ?_
    refine⟨T,?_,N,K,yN fun j f=>p j U f⟩;rw[jK U] at f5;exact f5
  .rintro g E ⟨g1,g5,a4,B,hd⟩
   have a3:=a8 _ hd;refine AZ g1 (IA aW a4) ?_;refine(GQ G l m 152 [.ptr h.length 0 0] (fun v=>TG l v.name) E U fun v hv=>Pb G hG l m v _ _ a4 P (a6 v hv).2 (a6 v hv).1).uu ?_;refine BL ?_ ?_<;>intro hg
   .refine AB ?_
    exact⟨by rw[a3,hg];rfl,B⟩
   refine A7 g5 ?_;refine BL ?_ ?_<;>intro hx
   .refine AB ?_
    refine⟨?_,B⟩;rw[a3,hg,if_neg DX,if_neg DX,if_pos (BQ hx)]
   .refine AB ?_
    refine⟨?_,B⟩;rw[a3,hg,if_neg DX,if_neg DX,if_neg (BQ hx)]
  .rintro g E ⟨g2,B⟩
   refine A7 g2 ?_;exact⟨trivial,B⟩
 .rintro F H ⟨f2,K⟩
  refine A7 f2 ?_;exact⟨trivial,K⟩
theorem et (i:Nat):decide ((i:Int)<0)=false:=by rw[decide_eq_false_iff_not];omega
theorem fr:jd AQ:=fun n h d x=>by
 rw[FP];exact⟨rfl,rfl⟩
def dv:Go.Shelf.Ren:=⟨fun|4=>98|n=>n,fun|22=>23|25=>79|3=>3|4=>4|9=>9|20=>20|0=>0|n=>n,fun|n=>n⟩
theorem j_:Go.Proofs.Lays8.n4 jA dv := {
 mixed:=BC,
 f4:=⟨Tryz.f98.name,by decide,Tryz.func98.trans (congrArg some BC)⟩,
 t0:=Tryz.underlying0,
 a0:=Tryz.isAgg0,
 z0:=Tryz.sizeOf0,
 v0:=Tryz.zeroValue0,
 t3:=Tryz.underlying3,
 a3:=Tryz.isAgg3,
 z3:=Tryz.sizeOf3,
 v3:=Tryz.zeroValue3,
 t4:=Tryz.underlying4,
 a4:=Tryz.isAgg4,
 z4:=Tryz.sizeOf4,
 v4:=Tryz.zeroValue4,
 t9:=Tryz.underlying9,
 a9:=Tryz.isAgg9,
 z9:=Tryz.sizeOf9,
 v9:=Tryz.zeroValue9,
 t20:=Tryz.underlying20,
 a20:=Tryz.isAgg20,
 z20:=Tryz.sizeOf20,
 v20:=Tryz.zeroValue20,
 t22:=Tryz.underlying23,
 a22:=Tryz.isAgg23,
 z22:=Tryz.sizeOf23,
 v22:=Tryz.zeroValue23 }
theorem jv (z:Array Value)(n:Nat):(Builtin.zeroCells z n).size=n*z.size:=by simp [Builtin.zeroCells]
theorem i4 (n:Nat)(V:n<=1048576)(h:Hp):ACalls (En G) 98 [.sl .nil 0 [],.n (n:Nat)] h fun v H=>(n=0/\v=.sl .nil 0 []/\H=h)\/(0<n/\v=.own h.length 0 0/\H=h++[qH 4 []]):=by
 refine⟨pq 98 G BC,fun g w d S Q=>?_⟩;obtain⟨K,p⟩:=Q
 obtain⟨A,I,rfl⟩:∃a b,d = #[a,b]:=by
  obtain⟨l⟩:=d
  match l,K with
  | [a,b],_=>exact⟨a,b,rfl⟩
 have Z:=(p 0 _ A rfl rfl).sl_inv;obtain rfl:=(p 1 _ I rfl rfl).int_inv
 have E:A=.slice none 0 0:=by
  cases Z with
  | nil=>rfl
  | empty _ _ _ _ q=>exact absurd rfl q
  | sl _ _ _ _ _ _ _ _ _ _ _ q=>exact absurd rfl q
 subst E;rcases Nat.eq_zero_or_pos n with J|J
 .subst J
  refine(Any8.slices_Grow_room j_ none 0 0 0 w (jF _) U U (jF _)).mono ?_;rintro e w' ⟨rfl,rfl⟩;exact .inl ⟨_,_,g,h,rfl,.inl ⟨rfl,rfl,rfl⟩,Gh.le.refl g,S,.fro (.nil 0)⟩
 .have Y:Tryz.prog.info? 79=some Tryz.t79:=BC
  have F:Tryz.t79.zero.isSome=true:=BC;obtain⟨z,F⟩:=Option.isSome_iff_exists.1 F;have X:Tryz.t79.size=4:=BC;have R:Tryz.t79.bytes<=64:=jB BC;have N:n*Tryz.t79.bytes<=1048576*64:=Nat.mul_le_mul V R
  have L:z.cells.size=4:=by
   have M:(Tryz.t79.zero.map fun z=>z.cells.size)=some 4:=BC;rw[F] at M;simpa using M
  have T:=Any8.slices_Grow_grow j_ Tryz.t79 z Y F (by rw[X];omega) none 0 0 n [] w (jF _) U (by rw[jG];omega) U BA (fun _=>rfl) (fun a q=>by cases q);refine T.mono ?_;rintro e w' ⟨rfl,rfl⟩;generalize P:grownCap w (0+n) 0 (dv.t 25)=cap;have hle:0+n<=cap:=P▸grownCap_ge w _ _ _;have B:Grew w (w.drew.alloc (.cells ((#[]:Array Value)++Builtin.zeroCells z.cells (0+n-0)++Builtin.zeroCells z.cells (cap-(0+n))) (dv.t 25))) (.cells ((#[]:Array Value)++Builtin.zeroCells z.cells (0+n-0)++Builtin.zeroCells z.cells (cap-(0+n))) (dv.t 25) (0,0)):=⟨rfl,rfl,rfl,rfl⟩
  have f:((#[]:Array Value)++Builtin.zeroCells z.cells (0+n-0)++Builtin.zeroCells z.cells (cap-(0+n))).size=cap*4:=by
   simp only[Array.size_append,jv,L,List.size_toArray,List.length_nil];omega
  generalize ((#[]:Array Value)++Builtin.zeroCells z.cells (0+n-0)++Builtin.zeroCells z.cells (cap-(0+n)))=c at B f;obtain⟨O,C⟩:=S.new (k:=4) (xs:=[]) B ⟨BA,fun i row h=>by simp at h,fun i j row v h=>by simp at h⟩;refine .inl ⟨_,_,_,_,rfl,.inr ⟨J,rfl,rfl⟩,C,O,?_⟩;exact Rep.own h.length 0 0 cap ⟨w.heap.size,0,4,c.size⟩ (by simp [Gh.adopt]) (Nat.zero_le _) (by simp only[f];omega)
structure Yx where
 m:SM
 l:List Ex
def yJ (y:Yx):List AV:=[.sl y.m 4 (y.l.map AQ)]
theorem I' (y:Yx):(yJ y)[0]?=some (.sl y.m 4 (y.l.map AQ)):=rfl
def fl (R:List Yx):List Ex:=(R.map Yx.l).flatten
theorem fq {R:List Yx}(c:i<R.length):fl (R.take (i+1))=fl (R.take i)++R[i].l:=by
 unfold fl;rw[jW c,qE,List.flatten_append];simp
theorem ef (R:List Yx)(i:Nat):(fl (R.take i)).length<=(fl R).length:=by
 have:fl R=fl (R.take i)++fl (R.drop i):=by unfold fl;rw[<-List.flatten_append,<-qE,wE]
 rw[this,jX];omega
def ju (h:Hp)(ys:List Ex)(v:AV)(H:Hp):Prop:=(v=.sl .nil 0 []/\ys=[])\/∃o,h.length<=o/\v=.own o 0 ys.length/\H[o]?=some (qH 4 (ys.map AQ))
theorem jf {H:Hp}{xs ys:List Ex}{v:AV}(s:SM)(l:ju h xs v H)(d:ext h H)(C:xs.length+ys.length<=8388608):
  ∃p e,EJ jA true H 23 23 v (.sl s 4 (ys.map AQ))=some (p,e)/\ju h (xs++ys) p e/\ext h e/\(v=.sl .nil 0 []->ys=[]->p=.sl .nil 0 []):=by
 cases ys with
 | nil =>
   refine⟨v,H,?_,by rw[jL];exact l,d,fun q _=>q⟩;have c:JR H (.sl s 4 [])=some (4,[]):=H6 H s 4 [];rcases l with⟨rfl,rfl⟩|⟨o,B,rfl,f⟩
   .simp [EJ,NV,G9,TC,c,bump]
   .have g:JR H (.own o 0 xs.length)=some (4,xs.map AQ):=by rw[KH f BA,zI,jK BA]
    simp [EJ,NV,G9,TC,g,c,bump]
 | cons y ys =>
   have A:(y::ys).map AQ≠[]:=BA;rcases l with⟨rfl,rfl⟩|⟨o,B,rfl,f⟩
   .exact⟨_,_,WS NV G9 QF QD (H6 H s 4 ((y::ys).map AQ)) A (JF (by simp at C|-;omega) U),.inr ⟨H.length,d.le,BA,BA⟩,d.app _,fun _ q=>by cases q⟩
   .have g:JR H (.own o 0 xs.length)=some (4,xs.map AQ):=by rw[KH f BA,zI,jK BA]
    exact⟨_,_,VG NV G9 QF QD g (H6 H s 4 ((y::ys).map AQ)) A (JF (by simp at C|-;omega) U),.inr ⟨H.length,d.le,BA,BA⟩,(d.set B _).app _,fun q=>by cases q⟩
section
variable (G:Nat->AV)
theorem ey (R:List Yx)(s:SM)(hR:R.length<=1048576)(hl:(fl R).length<=1048576)(h:Hp):a_ (En G) 45 [.sl s 1 (R.map yJ)] h (.sl (Cov.nm (fl R)) 4 ((fl R).map AQ)):=by
 refine JL fr ?_;refine cn Tryz.func45 2 ?_;refine AB ?_;refine EG 0 (fun F e=>F 0=.sl s 1 (R.map yJ)/\F 3=.n ((fl R).length:Nat)/\e=h) (fun _ _=>False) ?_ ?_ (fun _ _ q=>q.elim)
 .refine BB (fun n F e=>∃i,n+i=R.length/\F 0=.sl s 1 (R.map yJ)/\F 3=.n ((fl (R.take i)).length:Nat)/\F 9=.sl s 1 (R.map yJ)/\F 10=.n (R.length:Nat)/\F 11=.n (i:Nat)/\e=h) R.length
   ⟨0,BA,AL,AL,AL,AL,AL,rfl⟩ ?_
  rintro n F H ⟨i,hi,C,g,V,f10,f11,rfl⟩;refine AZ f10 f11 ?_;refine DV ?_ ?_<;>intro d
  .have c:=fq d
   have hle:=ef R (i+1);rw[c,jX] at hle;have hw:IntKind.i64.wrap ((((fl (R.take i)).length:Nat):Int)+((R[i].l.length:Nat):Int))=(((fl (R.take (i+1))).length:Nat):Int):=by rw[c,jX,wrap_i64 U U];omega
   refine N7 g V f11 d @I' hw @et (CZ i) ?_;exact⟨n-1,U,i+1,U,AO,AO,AO,AO,AO,AO⟩
  .rw[jK U] at g
   refine AB ?_;exact⟨AO,AO,AO⟩
 rintro F H ⟨C,g,rfl⟩;refine A7 g ?_;refine(i4 G (fl R).length hl H).mono ?_;intro N O Q
 have B:ju H [] N O/\Sm.ext H O/\((fl R).length=0->N=.sl .nil 0 []):=by
  rcases Q with⟨X,rfl,rfl⟩|⟨X,rfl,rfl⟩
  .exact⟨.inl ⟨rfl,rfl⟩,ext.rfl' _,fun _=>rfl⟩
  .exact⟨.inr ⟨H.length,jF _,rfl,A8 _ _⟩,(ext.rfl' H).app _,fun q=>U⟩
 refine A7 C ?_
 refine BB (fun n F e=>∃i v,n+i=R.length/\F 6=v/\F 25=.sl s 1 (R.map yJ)/\F 26=.n (R.length:Nat)/\F 27=.n (i:Nat)/\ju H (fl (R.take i)) v e/\Sm.ext H e/\((fl R).length=0->v=.sl .nil 0 [])) R.length
  ⟨0,N,BA,AL,AL,AL,AL,by rw[qA];exact B.1,B.2.1,B.2.2⟩ ?_
 clear B Q C g;rintro n F e ⟨i,v,hi,P,E,I,f,L,S,T⟩;refine AZ I f ?_;refine DV ?_ ?_<;>intro d
 .have c:=fq d
  have hle:=ef R (i+1);rw[c,jX] at hle;obtain⟨v',H2,Z,A,M,K⟩:=jf R[i].m L S (ys:=R[i].l) U;rw[<-c] at A;refine LJ P E f d @I' Z (CZ i) ?_;exact⟨n-1,U,i+1,v',U,AO,AO,AO,AO,A,M,fun q=>K (T q) (List.length_eq_zero_iff.1 U)⟩
 .rw[jK U] at L
  refine A7 P ?_;refine⟨S,?_⟩;rcases L with⟨J,p⟩|⟨o,J,p,Y⟩
  .exact .inl ⟨p,J⟩
  .refine .inr ⟨fun q=>?_,o,J,p,Y⟩
   have:=T (by rw[q];rfl);rw[this] at p;cases p
end
def O7 (x:Ex):Bool:=(x.op==3)||(x.op==24)
def PK (l:List Vr)(x:Ex):Bool:=(x.op==2)&&decide (d' l x.name<0)
def kZ (e:Ex):Bool:=(pre e).any O7
def gD (l:List Vr)(e:Ex):Bool:=(pre e).any (PK l)
def jl (l:List Vr)(e:Ex):Int:=if kZ e=true then 9 else if gD l e=true then 7 else 0
def eh (l:List Vr)(e:Ex):Int:=if c9 e≠0 then c9 e else jl l e
def L6 (l:List Vr)(xs:List Ex):Int:=cr (eh l) xs
theorem ff {α:Type}(f:α->Int):∀xs ys:List α,cr f (xs++ys)=if cr f xs≠0 then cr f xs else cr f ys
 | [],ys=>by simp [cr]
 | x::xs,ys=>by
   have c:=ff f xs ys;show(if f x≠0 then f x else cr f (xs++ys))=if(if f x≠0 then f x else cr f xs)≠0 then (if f x≠0 then f x else cr f xs) else cr f ys
   rw[c];by_cases h:f x≠0
   .rw[if_pos h,if_pos h,if_pos h]
   .rw[if_neg h,if_neg h]
section
variable (G:Nat->AV)
theorem WD (e:Ex):(pre e).length<=1048576->∀h:Hp,a_ (En G) 264 [.agg (AQ e)] h (.bool (kZ e)):=by
 induction e using Ex.induct with|h e ih=>?_
 intro P h;have I:=congrArg qJ (pre_eq e);rw[zF] at I;have N:e.args.length<=1048576:=by have:=XM e.args;omega
 have E:kZ e=(O7 e||(FV e.args).any O7):=by unfold kZ;rw[pre_eq,List.any_cons]
 rw[E];refine ACalls.pure0 rfl ?_;refine cn Tryz.func264 2 ?_;have B:=A8 h (qH 4 [AQ e]);have q:=Sm.ext.r1 h (qH 4 [AQ e]);refine A7 @fa ?_
 generalize h++[qH 4 [AQ e]]=H1 at B q|-
 generalize h.length=eb at B|-
 have K:BR jA H1 3 (.ptr eb 0 0)=some (.n e.op):=by rw[BJ ct B (row:=AQ e) rfl,KQ]
 have L:BR jA H1 23 (.ptr eb 0 3)=some (.sl e.m 4 (e.args.map AQ)):=by rw[BJ MQ B (row:=AQ e) rfl,ZE]
 refine A7 K ?_;cases p:(e.op==3)
 case true =>
  refine A7 p ?_;exact⟨by unfold O7;rw[p];rfl,q⟩
 refine AZ p K ?_;cases A:(e.op==24)
 case true =>
  refine A7 A ?_;exact⟨by unfold O7;rw[p,A];rfl,q⟩
 have M:O7 e=false:=by unfold O7;rw[p,A];rfl
 rw[M,wF];refine A7 A ?_;refine BB (fun k F H=>∃j,k+j=e.args.length/\F 1=.ptr eb 0 0/\F 3=.n (j:Nat)/\H=H1/\(FV (e.args.take j)).any O7=false) e.args.length ⟨0,BA,AL,AL,rfl,rfl⟩ ?_;rintro k F H ⟨j,O,J,C,rfl,g⟩;refine DC J C L ?_;refine DV ?_ ?_<;>intro c
 .have f:e.args[j]∈e.args:=jH c
  have d:FV e.args=FV (e.args.take j)++(pre e.args[j]++FV (e.args.drop (j+1))):=by
   rw[<-zA,<-MI _ _ c,<-NY,wE]
  simp only[vQ,CP,↓reduceIte,jC,b_,P5,UY,J,C,L,CE c,DL NU G9 EF c];refine(ih e.args[j] f (by have:=Q5 f;omega) H).uu ?_;refine BL ?_ ?_<;>intro l
  .refine AB ?_
   refine⟨?_,q⟩;have l:(pre e.args[j]).any O7=true:=l;rw[d,List.any_append,List.any_append,l];simp
  .refine AZ C (CZ j) ?_
   have l:(pre e.args[j]).any O7=false:=l;exact⟨k-1,U,j+1,U,AO,rfl,trivial,by rw[MI _ _ c,List.any_append,g,l];rfl⟩
 .rw[jK U] at g
  refine AB ?_;exact⟨by rw[g],q⟩
theorem Tp (l:List Vr)(m:SM)(R:l.length<=1048576)(e:Ex):(pre e).length<=1048576->∀h:Hp,a_ (En G) 265 [.sl m 4 (l.map bt),.agg (AQ e)] h (.bool (gD l e)):=by
 induction e using Ex.induct with|h e ih=>?_
 intro S h;have K:=congrArg qJ (pre_eq e);rw[zF] at K;have N:e.args.length<=1048576:=by have:=XM e.args;omega
 have J:gD l e=(PK l e||(FV e.args).any (PK l)):=by unfold gD;rw[pre_eq,List.any_cons]
 rw[J];refine ACalls.pure0 rfl ?_;refine cn Tryz.func265 4 ?_;have B:=A8 h (qH 4 [AQ e]);have E:=Sm.ext.r1 h (qH 4 [AQ e]);refine A7 @fa ?_
 generalize h++[qH 4 [AQ e]]=H1 at B E|-
 generalize h.length=eb at B|-
 have O:BR jA H1 3 (.ptr eb 0 0)=some (.n e.op):=by rw[BJ ct B (row:=AQ e) rfl,KQ]
 have P:BR jA H1 9 (.ptr eb 0 2)=some (.str e.name):=by rw[BJ eo B (row:=AQ e) rfl,SS]
 have L:BR jA H1 23 (.ptr eb 0 3)=some (.sl e.m 4 (e.args.map AQ)):=by rw[BJ MQ B (row:=AQ e) rfl,ZE]
 refine A7 O ?_;refine SI (fun F H=>F 0=.sl m 4 (l.map bt)/\F 3=.ptr eb 0 0/\F 15=.bool (PK l e)/\H=H1) ?_ ?_
 .cases q:(e.op==2)
  .refine A7 q ?_
   exact⟨trivial,trivial,by unfold PK;rw[q];rfl,trivial⟩
  .refine AZ q P ?_
   refine(VT G l m e.name H1 U).use ?_;refine A7 q ?_;exact⟨trivial,trivial,by unfold PK;rw[q];rfl,trivial⟩
 rintro F H ⟨C,A,f15,rfl⟩;refine A7 f15 ?_;refine BL ?_ ?_<;>intro d
 .refine AB ?_
  exact⟨by rw[d];rfl,E⟩
 rw[d,wF];refine AB ?_;refine BB (fun k F M=>∃j,k+j=e.args.length/\F 0=.sl m 4 (l.map bt)/\F 3=.ptr eb 0 0/\F 5=.n (j:Nat)/\M=H/\(FV (e.args.take j)).any (PK l)=false) e.args.length ⟨0,BA,DY C,DY A,AL,rfl,rfl⟩ ?_;clear C A f15;rintro k F H ⟨j,Q,C,A,I,rfl,p⟩;refine DC A I L ?_;refine DV ?_ ?_<;>intro c
 .have g:e.args[j]∈e.args:=jH c
  have f:FV e.args=FV (e.args.take j)++(pre e.args[j]++FV (e.args.drop (j+1))):=by
   rw[<-zA,<-MI _ _ c,<-NY,wE]
  simp only[vQ,CP,↓reduceIte,jC,b_,P5,UY,C,A,I,L,CE c,DL NU G9 EF c];refine(ih e.args[j] g (by have:=Q5 g;omega) H).uu ?_;refine BL ?_ ?_<;>intro d
  .refine AB ?_
   refine⟨?_,E⟩;have d:(pre e.args[j]).any (PK l)=true:=d;rw[f,List.any_append,List.any_append,d];simp
  .refine AZ I (CZ j) ?_
   have d:(pre e.args[j]).any (PK l)=false:=d;exact⟨k-1,U,j+1,U,AO,AO,rfl,trivial,by rw[MI _ _ c,List.any_append,p,d];rfl⟩
 .rw[jK U] at p
  refine AB ?_;exact⟨by rw[p],E⟩
theorem Ys (l:List Vr)(m:SM)(g:l.length<=1048576)(e:Ex)(f:(pre e).length<=1048576)(h:Hp):a_ (En G) 194 [.sl m 4 (l.map bt),.agg (AQ e)] h (.n (jl l e)):=by
 refine ACalls.pure0 rfl ?_;refine cn Tryz.func194 4 ?_;refine AZ @fa @ka ?_;refine(WD G e f _).uu ?_;refine BL ?_ ?_<;>intro c
 .refine AB ?_
  exact⟨by unfold jl;rw[c];rfl,_,rfl⟩
 refine A7 @ka ?_;refine(Tp G l m g e f _).uu ?_;refine BL ?_ ?_<;>intro d
 .refine AB ?_
  exact⟨by unfold jl;rw[c,d];rfl,_,rfl⟩
 .refine AB ?_
  exact⟨by unfold jl;rw[c,d];rfl,_,rfl⟩
theorem ZB (l:List Vr)(m:SM)(B:l.length<=1048576)(xs:List Ex)(s:SM)(Q:xs.length<=1048576)(N:∀e∈xs,wt e<=1048576)(h:Hp):a_ (En G) 105 [.sl m 4 (l.map bt),.sl s 4 (xs.map AQ)] h (.n (L6 l xs)):=by
 refine cn Tryz.func105 4 ?_;refine AB ?_;refine BB (fun n F H=>∃i,n+i=xs.length/\(∀(j:Nat) (p:j<i) (B:j<xs.length),eh l xs[j]=0)/\F 0=.sl m 4 (l.map bt)/\F 1=.sl s 4 (xs.map AQ)/\F 5=.n (i:Nat)/\H=h) xs.length ⟨0,BA,fun j p=>absurd p U,AL,AL,AL,rfl⟩ ?_;rintro n F H ⟨i,P,E,M,C,A,rfl⟩;refine AZ C A ?_;refine DV ?_ ?_<;>intro c
 .have I:=N _ (jH c)
  have g:eh l xs[i]≠0->L6 l xs=eh l xs[i]:=fun O=>VS (eh l) xs i c (fun j p=>E j p U) O
  simp only[vQ,CP,↓reduceIte,jC,b_,P5,C,A,CE c,DL NU G9 EF c];refine(WM G xs[i] H I).uu ?_;refine BL ?_ ?_<;>intro K
  .have f:c9 xs[i]≠0:=by simpa [bne] using K
   have d:eh l xs[i]=c9 xs[i]:=by unfold eh;rw[if_pos f]
   refine AB ?_;exact⟨by rw[g (by rw[d];exact f),d],trivial⟩
  have f:c9 xs[i]=0:=by simpa [bne] using K
  have d:eh l xs[i]=jl l xs[i]:=by unfold eh;rw[if_neg (by simp [f])]
  simp only[vQ,CP,↓reduceIte,jC,b_,P5,M,C,A,CE c,DL NU G9 EF c];refine(Ys G l m B xs[i] (by have:=YM xs[i];omega) H).uu ?_;refine BL ?_ ?_<;>intro L
  .have q:jl l xs[i]≠0:=by simpa [bne] using L
   refine AB ?_;exact⟨by rw[g (by rw[d];exact q),d],trivial⟩
  .have q:jl l xs[i]=0:=by simpa [bne] using L
   refine AZ A (CZ i) ?_;refine⟨n-1,U,i+1,U,fun j p B=>?_,AO,AO,rfl,trivial⟩;rcases zC j i with J|J
   .exact E j J B
   .obtain rfl:j=i:=U
    rw[d];exact q
 .refine AB ?_
  exact⟨by rw[L6,TI (eh l) xs fun j p=>E j U p],trivial⟩
end
theorem Ju (e:Ex):decide (((gj [3,24] [] (pre e)).length:Int)>0)=kZ e:=by
 have h:=fP (fun _=>false) [3,24] (pre e) []
 have c:(gj [3,24] [] (pre e)).all (fun _=>false)=decide ((gj [3,24] [] (pre e)).length=0):=by
  cases gj [3,24] [] (pre e)<;>simp
 rw[c] at h;unfold kZ
 have d:(pre e).any O7 = !((pre e).all fun e => !Rk.hasB [3,24] e.op||false):=by
  rw[List.not_all_eq_any_not];congr 1;funext x;unfold O7 Rk.hasB;rw[wJ];simp;constructor
  .rintro (h|h)<;>simp [h]
  .rintro (h|h)<;>simp [h]
 rw[d];simp only[List.all_nil,qX] at h;rw[<-h];cases gj [3,24] [] (pre e)<;>simp
theorem Je (l:List Vr)(e:Ex):(gj [2] [] (pre e)).any (fun n=>decide (d' l n<0))=gD l e:=by
 have h:=fP (fun n => !decide (d' l n<0)) [2] (pre e) [];simp only[List.all_nil,qX] at h;rw[<-Bool.not_inj_iff,List.not_any_eq_all_not,h];unfold gD;rw[List.not_any_eq_all_not];congr 1;funext x;unfold PK Rk.hasB;rw[wJ];simp;constructor
 .omega
 .omega
theorem AT (h:Hp)(a b:SM)(x y:List (List AV)):DR jA false h 100 2 [(0,.sl a 4 x),(1,.sl b 4 y)]=some (.sl .full 1 [[.sl a 4 x],[.sl b 4 y]],h):=BC
section
variable (G:Nat->AV)
theorem Pa (p:Pr)(n:ByteArray)(c:Nat)(h:Hp)(d:h[c]?=some (qH 5 [CW p]))(f:p.vars.length<=1048576):a_ (En G) 157 ([.str n]++[.ptr c 0 0]) h (.bool (decide (d' p.vars n<0))):=by
 refine cn Tryz.func157 3 ?_;have e:BR jA h 22 (.ptr c 0 0)=some (.sl p.vm 4 (p.vars.map bt)):=by rw[BJ aW d (row:=CW p) rfl];rfl
 refine A7 e ?_;refine(d_ G p.vars p.vm n h U).uu ?_;exact H7
theorem Vg (hG:fm G)(p:Pr)(P:p.vars.length<=1048576)(hx:p.hard.length+p.soft.length<=1048576)(X:∀e∈p.hard++p.soft,wt e<=1048576)(h:Hp):a_ (En G) 80 [.agg (CW p)] h (.n (L6 p.vars (p.hard++p.soft))):=by
 refine ACalls.pure0 rfl ?_;refine cn Tryz.func80 2 ?_;have B:=A8 h (qH 5 [CW p]);have f:=Sm.ext.r1 h (qH 5 [CW p]);refine AZ @eH @QE ?_
 generalize h++[qH 5 [CW p]]=H1 at B f|-
 generalize h.length=eb at B|-
 have Y:BR jA H1 23 (.ptr eb 0 1)=some (.sl p.hm 4 (p.hard.map AQ)):=by rw[BJ MQ B (row:=CW p) rfl];rfl
 have Z:BR jA H1 23 (.ptr eb 0 2)=some (.sl p.sm 4 (p.soft.map AQ)):=by rw[BJ MQ B (row:=CW p) rfl];rfl
 refine EH @sA Y Z AT ?_;have L:fl [⟨p.hm,p.hard⟩,⟨p.sm,p.soft⟩]=p.hard++p.soft:=by simp [fl]
 have K:=ey G [⟨p.hm,p.hard⟩,⟨p.sm,p.soft⟩] .full BA (by rw[L,jX];omega) H1;rw[L] at K;refine K.use ?_;have S:(p.hard++p.soft).length<=1048576:=by rw[jX];omega
 generalize p.hard++p.soft=xs at X S|-
 refine AB ?_;refine BB (fun n F H=>∃i,n+i=xs.length/\(∀(j:Nat) (E:j<i) (P:j<xs.length),eh p.vars xs[j]=0)/\F 1=.ptr eb 0 0/\F 11=.sl (nm xs) 4 (xs.map AQ)/\F 12=.n (xs.length:Nat)/\F 13=.n (i:Nat)/\H[eb]?=some (qH 5 [CW p])/\ext h H) xs.length ⟨0,BA,fun j E=>absurd E U,AL,AL,AL,AL,B,f⟩ ?_;clear B f Y Z;rintro n F H ⟨i,hi,R,f1,f11,f12,f13,B,f⟩;refine AZ f12 f13 ?_;refine DV ?_ ?_<;>intro A
 .have I:=X _ (jH A)
  have g:eh p.vars xs[i]≠0->L6 p.vars xs=eh p.vars xs[i]:=fun hz=>VS (eh p.vars) xs i A (fun j E=>R j E U) hz
  have C:(H++[qH 4 [AQ xs[i]]])[eb]?=_:=AU B;have l:ext h (H++[qH 4 [AQ xs[i]]]):=f.app _;have N:=A8 H (qH 4 [AQ xs[i]]);have J:H9 jA H 79=some (.ptr H.length 0 0,H++[qH 4 [[.n 0,.n 0,.str ⟨#[]⟩,.sl .nil 0 []]]]):=FZ (row:=[.n 0,.n 0,.str ⟨#[]⟩,.sl .nil 0 []]) BC
  have M:D7 jA (H++[qH 4 [[.n 0,.n 0,.str ⟨#[]⟩,.sl .nil 0 []]]]) 79 (.ptr H.length 0 0) (.agg (AQ xs[i]))=some (H++[qH 4 [AQ xs[i]]]):=by
   have hle:(AQ xs[i]).length=4:=EF _;rw[JV (cs:=AQ xs[i]) (row:=[.n 0,.n 0,.str ⟨#[]⟩,.sl .nil 0 []]) (SC (by rw[FP];rfl)) (by rw[hle];exact G9) (A8 _ _) (by rw[hle];exact jF 4),KZ]
   have:splice [.n 0,.n 0,.str ⟨#[]⟩,.sl .nil 0 []] 0 (AQ xs[i])=AQ xs[i]:=by
    unfold splice;rw[qA,List.drop_eq_nil_of_le (by rw[hle];exact jF 4)];simp
   rw[this]
  simp only[vQ,CP,↓reduceIte,jC,b_,P5,jQ,f11,f13,CE A,DL NU G9 EF A,J,M]
  generalize H++[qH 4 [AQ xs[i]]]=H1 at C l N|-
  refine A7 (IL N) ?_;refine(P8 G hG xs[i] _ I).uu ?_;refine BL ?_ ?_<;>intro T
  .have q:c9 xs[i]≠0:=by simpa [bne] using T
   have c:eh p.vars xs[i]=c9 xs[i]:=by unfold eh;rw[if_pos q]
   refine AB ?_;exact⟨by rw[g (by rw[c];exact q),c],l⟩
  have q:c9 xs[i]=0:=by simpa [bne] using T
  have c:eh p.vars xs[i]=jl p.vars xs[i]:=by unfold eh;rw[if_neg (by simp [q])]
  refine A7 (IL N) ?_;refine(bA G xs[i] I _).use ?_;refine A7 @Ju ?_;refine BL ?_ ?_<;>intro Q
  .have d:jl p.vars xs[i]=9:=by unfold jl;rw[if_pos Q]
   refine AB ?_;exact⟨by rw[g (by rw[c,d];decide),c,d],l⟩
  refine A7 (IL N) ?_;refine(eU G xs[i] I _).use ?_;refine A7 f1 ?_
  have a0:(gj [2] [] (pre xs[i])).length<=1048576:=by
   have O:=bM [2] (pre xs[i]) [];have h2:=YM xs[i];simp at O;omega
  refine(AY4 G (gj [2] [] (pre xs[i])) (nm (gj [2] [] (pre xs[i]))) 157 [.ptr eb 0 0] (fun n=>decide (d' p.vars n<0)) H1 U fun n _=>Pa G p n eb _ C P).use ?_;refine A7 @Je ?_;refine BL ?_ ?_<;>intro V
  .have d:jl p.vars xs[i]=7:=by unfold jl;rw[Q,V];rfl
   refine AB ?_;exact⟨by rw[g (by rw[c,d];decide),c,d],l⟩
  .have d:jl p.vars xs[i]=0:=by unfold jl;rw[Q,V];rfl
   refine AZ f13 (CZ i) ?_;refine⟨n-1,U,i+1,U,fun j E P=>?_,AO,AO,AO,rfl,C,l⟩;rcases zC j i with O|O
   .exact R j O P
   .grind
 .refine AB ?_
  exact⟨by rw[L6,TI (eh p.vars) xs fun j E=>R j U E],f⟩
end
def Q9 (l:List Vr)(i:Int):Bool:=decide (0<=i)&&(decide (i<l.length)&&(match l[i.toNat]? with|some v => !(v.mode==0)|none=>false))
def tM (x:Wg):Bool:=decide (x.lo<0)||decide (x.lo>x.hi)||decide (x.hi>65535)||decide (x.w<0)||decide (x.w>1000)
def i9 (l:List Vr)(ds:List Ds)(d:Ds):Int:=if Q9 l d.var=true then if ds.any (fun x=>x.var==d.var)=true then 8 else if d.ws.length>16 then 2 else if d.ws.any tM=true then 1 else 0 else 1
def ot (l:List Vr)(ds:List Ds)(i:Nat):Int:=match ds[i]? with|some d=>i9 l (ds.take i) d|none=>0
def PO (l:List Vr)(ds:List Ds):Int:=cr (ot l ds) (zL ds.length)
theorem sT {l:List Vr}{ds:List Ds}(c:i<ds.length):ot l ds i=i9 l (ds.take i) ds[i]:=by unfold ot;rw[jP c]
theorem sU {l:List Vr}{ds:List Ds}(c:i<ds.length)(d:∀j,j<i->ot l ds j=0)(h:i9 l (ds.take i) ds[i]≠0):PO l ds=i9 l (ds.take i) ds[i]:=by
 have:=VS (ot l ds) (zL ds.length) i (BQ c) (fun j e=>by rw[List.getElem_range];exact d j e) (by rw[List.getElem_range,sT c];exact h);rw[List.getElem_range,sT c] at this;exact this
theorem lZ {l:List Vr}{ds:List Ds}(c:∀j,j<ds.length->ot l ds j=0):PO l ds=0 :=
 TI _ _ fun j d=>by rw[List.getElem_range];exact c j (BQ d)
theorem bJ {l:List Vr}(c:n<l.length):Q9 l (n:Nat) = !(l[n].mode==0):=by
 unfold Q9;rw[decide_eq_true U,decide_eq_true U,qI,jP c];rfl
theorem BA5 (h:Hp):H9 jA h 140=some (.ptr h.length 0 0,h++[qH 2 [[.n 0,.sl .nil 0 []]]]):=FZ (row:=[.n 0,.sl .nil 0 []]) BC
theorem Rq (h:Hp)(v:Ds):D7 jA (h++[qH 2 [[.n 0,.sl .nil 0 []]]]) 140 (.ptr h.length 0 0) (.agg (I9 v))=some (h++[qH 2 [I9 v]]):=by
 rw[JV (cs:=I9 v) (row:=[.n 0,.sl .nil 0 []]) rfl fG (A8 _ _) (by exact jF 2),KZ];rfl
theorem BA2 (h:Hp):H9 jA h 240=some (.ptr h.length 0 0,h++[qH 4 [[.n 0,.n 0,.n 0,.bool false]]]):=FZ (row:=[.n 0,.n 0,.n 0,.bool false]) BC
theorem Ro (h:Hp)(v:Wg):D7 jA (h++[qH 4 [[.n 0,.n 0,.n 0,.bool false]]]) 240 (.ptr h.length 0 0) (.agg (JE v))=some (h++[qH 4 [JE v]]):=by
 rw[JV (cs:=JE v) (row:=[.n 0,.n 0,.n 0,.bool false]) rfl u_ (A8 _ _) (by exact jF 4),KZ];rfl
theorem Rj {l:List Ds}{m:SM}(c:i<=l.length):∃m',IW jA h 24 (.sl m 2 (l.map I9)) none (some (.n (i:Nat))) none=some (.sl m' 2 ((l.take i).map I9)) :=
 ⟨vB m i (l.map I9).length,by rw[rj Rh fG (by rw[jI];exact c),List.map_take]⟩
section
variable (G:Nat->AV)
theorem Z7 (p:Pr)(i:Int)(_:p.vars.length<=1048576)(h:Hp):a_ (En G) 158 [.agg (CW p),.n i] h (.bool (Q9 p.vars i)):=by
 refine ACalls.pure0 rfl ?_;refine cn Tryz.func158 4 ?_;have f:BR jA (h++[qH 5 [CW p]]) 22 (.ptr h.length 0 0)=some (.sl p.vm 4 (p.vars.map bt)):=by rw[BJ aW (A8 _ _) (row:=CW p) rfl];rfl
 refine A7 @QE ?_;cases c:decide (i≥0)
 .refine A7 c ?_
  refine⟨?_,_,rfl⟩;unfold Q9;rw[show decide (0<=i)=false from c];rfl
 have g:0<=i:=BQ c;obtain⟨n,rfl⟩:=wK g;refine AZ c f ?_;cases d:decide (((n:Nat):Int)<((p.vars.length:Nat):Int))
 .refine A7 d ?_
  refine⟨?_,_,rfl⟩;unfold Q9;rw[d];simp
 have e:n<p.vars.length:=BQ d;have l:BR jA (h++[qH 5 [CW p]]) 3 (.fptr 4 (p.vars.map bt) n 2)=some (.n p.vars[n].mode):=by rw[BK ct e];rfl
 simp only[vQ,EM,SX,CP,↓reduceIte,jC,b_,cM,kI,YY,d,f,CE e,l,bne];exact⟨by rw[bJ e],_,rfl⟩
theorem O_ (x d:Ds)(c:Nat)(h:Hp)(f:h[c]?=some (qH 2 [I9 d])):a_ (En G) 160 ([.agg (I9 x)]++[.ptr c 0 0]) h (.bool (x.var==d.var)):=by
 refine ACalls.pure0 rfl ?_;refine cn Tryz.func160 3 ?_;have e:(h++[qH 2 [I9 x]])[c]?=_:=AU f;have g:BR jA (h++[qH 2 [I9 x]]) 3 (.ptr h.length 0 0)=some (.n x.var):=by rw[BJ ct (A8 _ _) (row:=I9 x) rfl];rfl
 have l:BR jA (h++[qH 2 [I9 x]]) 3 (.ptr c 0 0)=some (.n d.var):=by rw[BJ ct e (row:=I9 d) rfl];rfl
 refine DC @A9 g l ?_;exact⟨trivial,_,rfl⟩
theorem OS (x:Wg)(h:Hp):a_ (En G) 239 ([.agg (JE x)]++[]) h (.bool (tM x)):=by
 refine ACalls.pure0 rfl ?_;refine cn Tryz.func239 2 ?_;have d:BR jA (h++[qH 4 [JE x]]) 3 (.ptr h.length 0 0)=some (.n x.lo):=by rw[BJ ct (A8 _ _) (row:=JE x) rfl];rfl
 have f:BR jA (h++[qH 4 [JE x]]) 3 (.ptr h.length 0 1)=some (.n x.hi):=by rw[BJ ct (A8 _ _) (row:=JE x) rfl];rfl
 have p:BR jA (h++[qH 4 [JE x]]) 3 (.ptr h.length 0 2)=some (.n x.w):=by rw[BJ ct (A8 _ _) (row:=JE x) rfl];rfl
 refine A7 @Dg ?_;unfold tM;cases c:decide (x.lo<0)
 case true =>
  refine AZ d c ?_;exact⟨trivial,_,rfl⟩
 cases e:decide (x.lo>x.hi)
 case true =>
  refine EH d f c e ?_;exact⟨trivial,_,rfl⟩
 cases g:decide (x.hi>65535)
 case true =>
  refine G7 d f c e g ?_;exact⟨trivial,_,rfl⟩
 cases l:decide (x.w<0)
 case true =>
  refine N7 @bY d f p c e g l ?_;exact⟨trivial,_,rfl⟩
 cases q:decide (x.w>1000)
 all_goals
  refine U3 @bY d f p c e g l q ?_;exact⟨trivial,_,rfl⟩
theorem RE (xs:List Wg)(m:SM)(c:xs.length<=1048576)(h:Hp):a_ (En G) 161 [.sl m 4 (xs.map JE)] h (.bool (!(xs.any tM))):=by
 refine cn Tryz.func161 2 ?_;refine AB ?_;refine(L4 G xs m 239 [] tM h U fun x _=>OS G x h).uu ?_;exact H7
theorem Wk (p:Pr)(Z:p.vars.length<=1048576)(hd:p.dists.length<=1048576)(hw:∀d∈p.dists,d.ws.length<=1048576)(h:Hp):a_ (En G) 82 [.agg (CW p)] h (.n (PO p.vars p.dists)):=by
 refine ACalls.pure0 rfl ?_;refine cn Tryz.func82 2 ?_;have B:=A8 h (qH 5 [CW p]);have g:=Sm.ext.r1 h (qH 5 [CW p]);refine A7 @QE ?_
 generalize h++[qH 5 [CW p]]=H1 at B g|-
 generalize h.length=eb at B|-
 have J:BR jA H1 24 (.ptr eb 0 3)=some (.sl p.dm 2 (p.dists.map I9)):=by rw[BJ qw B (row:=CW p) rfl];rfl
 refine A7 J ?_;refine BB (fun n F H=>∃i,n+i=p.dists.length/\(∀(j:Nat),j<i->ot p.vars p.dists j=0)/\F 1=.ptr eb 0 0/\F 6=.sl p.dm 2 (p.dists.map I9)/\F 7=.n (p.dists.length:Nat)/\F 8=.n (i:Nat)/\H[eb]?=some (qH 5 [CW p])/\ext h H) p.dists.length ⟨0,BA,fun j N=>absurd N U,AL,AL,AL,AL,B,g⟩ ?_;clear B g J;rintro n F H ⟨i,hi,M,R,V,X,L,B,g⟩;refine AZ X L ?_;refine DV ?_ ?_<;>intro e
 .have O:=hw _ (jH e)
  have c:=sU e M;have Y:=sT (l:=p.vars) e;have A:(H++[qH 2 [I9 p.dists[i]]])[eb]?=_:=AU B;have f:ext h (H++[qH 2 [I9 p.dists[i]]]):=g.app _;have I:=A8 H (qH 2 [I9 p.dists[i]]);simp only[vQ,CP,↓reduceIte,jC,b_,ph,jQ,V,L,CE e,DL sh fG RU e,BA5,Rq]
  generalize H++[qH 2 [I9 p.dists[i]]]=H1 at A f I|-
  have lp:BR jA H1 27 (.ptr eb 0 0)=some (.agg (CW p)):=by rw[EK eP ZU A (row:=CW p) rfl (by rw[LD];exact jF 5)];rfl
  have J:BR jA H1 24 (.ptr eb 0 3)=some (.sl p.dm 2 (p.dists.map I9)):=by rw[BJ qw A (row:=CW p) rfl];rfl
  have T:BR jA H1 3 (.ptr H.length 0 0)=some (.n p.dists[i].var):=by rw[BJ ct I (row:=I9 p.dists[i]) rfl];rfl
  have Q:BR jA H1 120 (.ptr H.length 0 1)=some (.sl p.dists[i].wm 4 (p.dists[i].ws.map JE)):=by rw[BJ si I (row:=I9 p.dists[i]) rfl];rfl
  obtain⟨m',ht⟩:=Rj (h:=H1) (m:=p.dm) (Nat.le_of_lt e);refine DC R lp T ?_;refine(Z7 G p _ Z _).use ?_;cases C:Q9 p.vars p.dists[i].var
  .have q:i9 p.vars (p.dists.take i) p.dists[i]=1:=by unfold i9;rw[C];rfl
   refine AB ?_;exact⟨by rw[c (by rw[q];decide),q],f⟩
  refine DC R J ht ?_;refine(AUB G (p.dists.take i) m' 160 [.ptr H.length 0 0] (fun x=>x.var==p.dists[i].var) H1 (by rw[jT];omega) fun x _=>O_ G x p.dists[i] _ _ I).use ?_;cases E:(p.dists.take i).any fun x=>x.var==p.dists[i].var
  case true =>
   have q:i9 p.vars (p.dists.take i) p.dists[i]=8:=by unfold i9;rw[C,E];rfl
   refine AB ?_;exact⟨by rw[c (by rw[q];decide),q],f⟩
  refine AZ xK Q ?_;refine BL ?_ ?_<;>intro K
  .have q:i9 p.vars (p.dists.take i) p.dists[i]=2:=by unfold i9;rw[C,E,if_pos rfl,if_neg DX,if_pos (by simp at K;omega)]
   refine AB ?_;exact⟨by rw[c (by rw[q];decide),q],f⟩
  refine A7 Q ?_;refine(RE G p.dists[i].ws p.dists[i].wm O _).use ?_;cases P:p.dists[i].ws.any tM
  case true =>
   have q:i9 p.vars (p.dists.take i) p.dists[i]=1:=by unfold i9;rw[C,E,if_pos rfl,if_neg DX,if_neg (by simp at K;omega),P];rfl
   refine AB ?_;exact⟨by rw[c (by rw[q];decide),q],f⟩
  have q:i9 p.vars (p.dists.take i) p.dists[i]=0:=by unfold i9;rw[C,E,if_pos rfl,if_neg DX,if_neg (by simp at K;omega),P];rfl
  refine AZ L (CZ i) ?_;refine⟨n-1,U,i+1,U,fun j N=>?_,AO,AO,AO,rfl,A,f⟩;rcases zC j i with S|S
  .exact M j S
  .grind
 .refine AB ?_
  exact⟨by rw[lZ fun j N=>M j U],g⟩
end
section
variable (G:Nat->AV)
theorem ZD (l:List Vr)(m:SM)(ds:List Ds)(s:SM)(hl:l.length<=1048576)(hd:ds.length<=1048576)(hw:∀d∈ds,d.ws.length<=1048576)(h:Hp):a_ (En G) 106 [.sl m 4 (l.map bt),.sl s 2 (ds.map I9)] h (.n (PO l ds)):=by
 refine ACalls.pure0 rfl ?_;refine cn Tryz.func106 4 ?_;refine AB ?_;refine BB (fun n F H=>∃i,n+i=ds.length/\(∀(j:Nat),j<i->ot l ds j=0)/\F 0=.sl m 4 (l.map bt)/\F 1=.sl s 2 (ds.map I9)/\F 5=.n (i:Nat)/\ext h H) ds.length ⟨0,BA,fun j C=>absurd C U,AL,AL,AL,ext.rfl' h⟩ ?_;rintro n F H ⟨i,hi,hb,q,f,e,A⟩;refine AZ f e ?_;refine DV ?_ ?_<;>intro c
 .have a3:=hw _ (jH c)
  have I:=sU c hb;have a2:=sT (l:=l) c;have d0:∀ {k:Nat} (hk:k<ds.length) (H:Hp),BR jA H 3 (.fptr 2 (ds.map I9) k 0)=some (.n ds[k].var):=fun hk H=>by rw[BK ct hk];rfl
  have d1:∀H:Hp,BR jA H 120 (.fptr 2 (ds.map I9) i 1)=some (.sl ds[i].wm 4 (ds[i].ws.map JE)):=fun H=>by rw[BK si c];rfl
  refine aZ q f e c (d0 c) ?_;refine SI (fun g M=>g 0=.sl m 4 (l.map bt)/\g 1=.sl s 2 (ds.map I9)/\g 5=.n (i:Nat)/\g 42=.bool (!Q9 l ds[i].var)/\M=H) ?_ ?_
  .cases B:decide (ds[i].var<0)
   case true =>
    refine EH B q f e ?_;refine⟨trivial,trivial,trivial,?_,trivial⟩;have:Q9 l ds[i].var=false:=by unfold Q9;rw[decide_eq_false (by simp at B;omega)];rfl
    rw[this];rfl
   have h0:0<=ds[i].var:=BQ B;obtain⟨k,hk⟩:=wK h0
   rw[hk] at B|-
   have V:=d0 c H;rw[hk] at V;cases J:decide (((k:Nat):Int)≥((l.length:Nat):Int))
   case true =>
    refine LJ B J q f e c V ?_;refine⟨trivial,trivial,trivial,?_,trivial⟩;have:Q9 l ((k:Nat):Int)=false:=by unfold Q9;rw[decide_eq_false (p:=((k:Nat):Int)<(l.length:Int)) (by simp at J;omega)];simp
    rw[this];rfl
   have E:k<l.length:=by simp at J;omega
   have l2:BR jA H 3 (.fptr 4 (l.map bt) k 2)=some (.n l[k].mode):=by rw[BK ct E];rfl
   refine U3 B J q f e c V E l2 ?_;exact⟨trivial,trivial,trivial,by rw[bJ E,Bool.not_not],trivial⟩
  clear q f e;rintro F H0 ⟨q,f,e,X,rfl⟩;refine A7 X ?_;cases B:Q9 l ds[i].var
  .have K:i9 l (ds.take i) ds[i]=1:=by unfold i9;rw[B];rfl
   refine AB ?_;exact⟨by rw[I (by rw[K];decide),K],A⟩
  refine AB ?_;refine EG 2 (fun g M=>g 0=.sl m 4 (l.map bt)/\g 1=.sl s 2 (ds.map I9)/\g 5=.n (i:Nat)/\M=H0/\((ds.take i).any fun x=>x.var==ds[i].var)=false) (fun g M=>g 4=.n (PO l ds)/\M=H0) ?_ ?_ ?_
  .refine BB (fun n' g M=>∃k,n'+k=i/\(∀(j:Nat) (C:j<k) (hl:j<ds.length),(ds[j].var==ds[i].var)=false)/\g 0=.sl m 4 (l.map bt)/\g 1=.sl s 2 (ds.map I9)/\g 5=.n (i:Nat)/\g 6=.n (k:Nat)/\M=H0) i ⟨0,BA,fun j C=>absurd C U,DY q,DY f,DY e,AL,rfl⟩ ?_
   clear q f e X;rintro n' F H ⟨k,hk,O,q,f,e,f6,rfl⟩;refine AZ e f6 ?_;refine DV ?_ ?_<;>intro E
   .have a1:k<ds.length:=U
    refine AB ?_;refine DI BC ?_;refine LJ f e f6 a1 c (d0 a1) (d0 c) ?_;refine BL ?_ ?_<;>intro K
    .have N:((ds.take i).any fun x=>x.var==ds[i].var)=true:=qK.2 ⟨ds[k],by
      have:(ds.take i)[k]'(by rw[jT];omega)=ds[k]:=List.getElem_take
      rw[<-this];exact jH _,K⟩
     have hz:i9 l (ds.take i) ds[i]=8:=by unfold i9;rw[B,N];rfl
     refine AB ?_;exact⟨by rw[I (by rw[hz];decide),hz],trivial⟩
    .refine AZ f6 (CZ k) ?_
     refine⟨n'-1,U,k+1,U,fun j C hl=>?_,AO,AO,AO,rfl,trivial⟩;rcases zC j k with R|R
     .exact O j R hl
     .obtain rfl:j=k:=U
      exact K
   .refine AB ?_
    refine⟨q,f,e,trivial,?_⟩;rw[qP];intro x hx;obtain⟨j,C,rfl⟩:=qR hx;rw[jT] at C;rw[List.getElem_take,O j U U];decide
  .rintro g M ⟨g0,g1,g5,rfl,J⟩
   refine aZ xK g1 g5 c d1 ?_;refine BL ?_ ?_<;>intro S
   .have K:i9 l (ds.take i) ds[i]=2:=by unfold i9;rw[B,J,if_pos rfl,if_neg DX,if_pos (by simp at S;omega)]
    refine AB ?_;exact⟨by rw[I (by rw[K];decide),K],A⟩
   refine AB ?_;refine EG 4 (fun L Q=>L 0=.sl m 4 (l.map bt)/\L 1=.sl s 2 (ds.map I9)/\L 5=.n (i:Nat)/\ext h Q/\ds[i].ws.any tM=false) (fun L Q=>L 4=.n (PO l ds)/\ext h Q) ?_ ?_ ?_
   .refine BB (fun n' L Q=>∃k,n'+k=ds[i].ws.length/\(∀(j:Nat) (C:j<k) (hl:j<ds[i].ws.length),tM ds[i].ws[j]=false)/\L 0=.sl m 4 (l.map bt)/\L 1=.sl s 2 (ds.map I9)/\L 5=.n (i:Nat)/\L 7=.n (k:Nat)/\ext h Q) ds[i].ws.length ⟨0,BA,fun j C=>absurd C U,DY g0,DY g1,DY g5,AL,A⟩ ?_
    clear q f e X g0 g1 g5 A;rintro n' F H ⟨k,hk,O,q,f,e,P,A⟩;refine WU xK f e P c d1 ?_;refine DV ?_ ?_<;>intro E
    .have Y:ext h (H++[qH 4 [JE ds[i].ws[k]]]):=A.app _
     have gE:=A8 H (qH 4 [JE ds[i].ws[k]]);simp only[vQ,CP,↓reduceIte,jC,b_,ph,xP,zb,gK,jQ,f,e,P,CE c,d1,CE E,DL Cz u_ kL E,BA2,Ro]
     generalize H++[qH 4 [JE ds[i].ws[k]]]=H1 at Y gE|-
     generalize hx:ds[i].ws[k]=x at gE;have l0:BR jA H1 3 (.ptr H.length 0 0)=some (.n x.lo):=by rw[BJ ct gE (row:=JE x) rfl];rfl
     have l1:BR jA H1 3 (.ptr H.length 0 1)=some (.n x.hi):=by rw[BJ ct gE (row:=JE x) rfl];rfl
     have l2:BR jA H1 3 (.ptr H.length 0 2)=some (.n x.w):=by rw[BJ ct gE (row:=JE x) rfl];rfl
     refine A7 l0 ?_;refine SI (fun g M=>g 0=.sl m 4 (l.map bt)/\g 1=.sl s 2 (ds.map I9)/\g 5=.n (i:Nat)/\g 7=.n (k:Nat)/\g 108=.bool (tM x)/\M=H1) ?_ ?_
     .unfold tM
      cases B:decide (x.lo<0)
      case true =>
       refine G7 B q f e P ?_;exact⟨trivial,trivial,trivial,trivial,trivial,trivial⟩
      cases J:decide (x.lo>x.hi)
      case true =>
       refine N7 l0 l1 B J q f e P ?_;exact⟨trivial,trivial,trivial,trivial,trivial,trivial⟩
      cases S:decide (x.hi>65535)
      case true =>
       refine U3 l0 l1 B J S q f e P ?_;exact⟨trivial,trivial,trivial,trivial,trivial,trivial⟩
      cases T:decide (x.w<0)
      case true =>
       simp only[vQ,zK,zN,Bool.true_or,EM,iE,CP,GV,↓reduceIte,jC,b_,gK,nS,bY,l0,l1,l2,B,J,S,T,q,f,e,P];exact⟨trivial,trivial,trivial,trivial,trivial,trivial⟩
      cases b5:decide (x.w>1000)
      all_goals
       simp only[vQ,zK,zN,EM,CP,↓reduceIte,jC,b_,gK,nS,bY,l0,l1,l2,B,J,S,T,b5,q,f,e,P];exact⟨trivial,trivial,trivial,trivial,trivial,trivial⟩
     clear q f e P;rintro F Q ⟨q,f,e,P,a0,rfl⟩;refine A7 a0 ?_;refine BL ?_ ?_<;>intro T
     .have N:ds[i].ws.any tM=true:=qK.2 ⟨x,by rw[<-hx];exact jH _,T⟩
      have K:i9 l (ds.take i) ds[i]=1:=by unfold i9;rw[B,J,if_pos rfl,if_neg DX,if_neg (by simp at S;omega),N];rfl
      refine AB ?_;exact⟨by rw[I (by rw[K];decide),K],Y⟩
     .refine AZ P (CZ k) ?_
      refine⟨n'-1,U,k+1,U,fun j C hl=>?_,AO,AO,AO,rfl,Y⟩;rcases zC j k with R|R
      .exact O j R hl
      .obtain rfl:j=k:=U
       rw[hx];exact T
    .refine AB ?_
     refine⟨q,f,e,A,?_⟩;rw[qP];intro x hx;obtain⟨j,C,rfl⟩:=qR hx;rw[O j U C];decide
   .rintro L Q ⟨g0,g1,g5,Z,T⟩
    have K:i9 l (ds.take i) ds[i]=0:=by unfold i9;rw[B,J,if_pos rfl,if_neg DX,if_neg (by simp at S;omega),T];rfl
    refine AZ g5 (CZ i) ?_;refine⟨n-1,U,i+1,U,fun j C=>?_,AO,AO,rfl,Z⟩;rcases zC j i with R|R
    .exact hb j R
    .obtain rfl:j=i:=U
     rw[a2,K]
   .rintro L Q ⟨g4,Z⟩
    refine A7 g4 ?_;exact⟨trivial,Z⟩
  .rintro g M ⟨g4,rfl⟩
   refine A7 g4 ?_;exact⟨trivial,A⟩
 .refine AB ?_
  exact⟨by rw[lZ fun j C=>hb j U],A⟩
end
def dg (c:List Gp):List Int:=c.flatMap Gp.l
theorem EV {c:List Gp}(d:i<c.length):dg (c.take (i+1))=dg (c.take i)++c[i].l:=by
 unfold dg;rw[jW d,List.flatMap_append];simp
theorem yD {c:List Gp}(p:i<c.length)(q:j<c[i].l.length):dg c=(dg (c.take i)++c[i].l.take j)++c[i].l[j]::(c[i].l.drop (j+1)++dg (c.drop (i+1))):=by
 have d:c=c.take i++c[i]::c.drop (i+1):=by simp_all
 have e:dg c=dg (c.take i)++(c[i].l++dg (c.drop (i+1))):=by
  unfold dg
  conv=>lhs;rw[d]
  rw[List.flatMap_append,List.flatMap_cons]
 have f:c[i].l=c[i].l.take j++c[i].l[j]::c[i].l.drop (j+1):=by simp_all
 have g:c[i].l++dg (c.drop (i+1))=(c[i].l.take j++c[i].l[j]::c[i].l.drop (j+1))++dg (c.drop (i+1)):=by rw[<-f]
 rw[e,g];simp only[zA,zG]
def jj (l:List Vr)(c:List Gp):Bool:=decide ((∀g∈c,g.l≠[])/\(∀x∈dg c,0<=x/\x<l.length)/\∀i:Fin l.length,(dg c).count ((i.1:Nat):Int)=if l[i.1].mode=0 then 0 else 1)
theorem G3 {l:List Vr}{c:List Gp}{g:Gp}(d:g∈c)(h:g.l=[]):jj l c=false:=decide_eq_false fun⟨h1,_⟩=>h1 g d h
theorem y8 {l:List Vr}{c:List Gp}(d:x∈dg c)(h:¬(0<=x/\x<l.length)):jj l c=false:=decide_eq_false fun⟨_,h1,_⟩=>h (h1 x d)
theorem fY {l:List Vr}{c:List Gp}(d:i<l.length)(h:(dg c).count ((i:Nat):Int)≠if l[i].mode=0 then 0 else 1):jj l c=false:=decide_eq_false fun⟨_,_,h1⟩=>h (h1 ⟨i,d⟩)
theorem XL {l:List Vr}(h:Q9 l x=true):∃k,∃hk:k<l.length,x=(k:Nat)/\¬l[k].mode=0:=by
 unfold Q9 at h;simp only[jY,decide_eq_true_eq] at h;obtain⟨d,e,c⟩:=h;have hk:x.toNat<l.length:=U;rw[jP hk] at c;exact⟨x.toNat,hk,U,BQ c⟩
theorem AZB {l:List Vr}{c:List Gp}(d:x∈dg c)(h:Q9 l x=false):jj l c=false:=by
 by_cases hr:0<=x/\x<l.length
 .obtain⟨k,rfl⟩:=wK hr.1
  have hk:k<l.length:=U;rw[bJ hk] at h;refine fY hk ?_;rw[if_pos (BQ h)];have:=List.count_pos_iff.2 d;omega
 .exact y8 d hr
def bR (done:List Int)(n:Nat):List (List AV):=(zL n).map fun i=>[AV.bool (decide (((i:Nat):Int)∈done))]
def cR (done:List Int)(n:Nat):List (List AV):=(zL n).map fun i=>[AV.int .i64 ((done.count ((i:Nat):Int):Nat):Int)]
theorem u4 (done:List Int)(n:Nat):(bR done n).length=n:=by simp [bR]
theorem tD (done:List Int)(n:Nat):(cR done n).length=n:=by simp [cR]
theorem eO (done:List Int)(c:i<n):(bR done n)[i]?=some [AV.bool (decide (((i:Nat):Int)∈done))]:=by simp [bR,c]
theorem aS (done:List Int)(c:i<n):(cR done n)[i]?=some [AV.int .i64 ((done.count ((i:Nat):Int):Nat):Int)]:=by simp [cR,c]
theorem L_ (done:List Int)(hk:k<n):(bR done n).set k [.bool true]=bR (done++[(k:Int)]) n:=by
 apply List.ext_getElem?;intro i;rw[zW];by_cases hi:i<n
 .by_cases e:k=i
  .subst e
   rw[if_pos rfl,if_pos (by rw[u4];exact hi),eO _ hi];simp
  .rw[if_neg e,eO _ hi,eO _ hi]
   congr 3;simp;rintro h;omega
 .rw[wC (by rw[u4];omega)]
  split
  .simp_all
  .rw[wC (by rw[u4];omega)]
theorem L5 (done:List Int)(hk:k<n):(cR done n).set k [.n ((done.count ((k:Nat):Int)+1:Nat):Int)]=cR (done++[(k:Int)]) n:=by
 apply List.ext_getElem?;intro i;rw[zW];by_cases hi:i<n
 .by_cases e:k=i
  .subst e
   rw[if_pos rfl,if_pos (by rw[tD];exact hi),aS _ hi,List.count_append];simp
  .rw[if_neg e,aS _ hi,aS _ hi,List.count_append]
   have:((k:Nat):Int)≠((i:Nat):Int):=U;simp [this]
 .rw[wC (by rw[tD];omega)]
  split
  .simp_all
  .rw[wC (by rw[tD];omega)]
theorem Od (h:Hp)(n:Nat)(e:n<=1048576):IX jA true h 221 (.n (n:Int)) (.n (n:Int))=some (.own h.length 0 n,h++[qH 1 (bR [] n)]):=by
 have d:N9 jA 4=some [.bool false]:=BC;have c:room n 1:=JF U U;unfold IX;simp only[Nn,xl,Pm,d,qI];rw[if_pos ⟨U,yC _,c,rfl⟩]
 have:bR [] n=zD n [.bool false]:=by
  apply List.ext_getElem?;intro i;by_cases hi:i<n
  .rw[eO _ hi,List.getElem?_replicate,if_pos hi];simp
  .rw[wC (by rw[u4];omega),wC NI]
 rw[this];simp
theorem C7 (h:Hp)(n:Nat)(e:n<=1048576):IX jA true h 32 (.n (n:Int)) (.n (n:Int))=some (.own h.length 0 n,h++[qH 1 (cR [] n)]):=by
 have d:N9 jA 3=some [.n 0]:=BC;have c:room n 8:=JF U U;unfold IX;simp only[dJ,iz,nA,d,qI];rw[if_pos ⟨U,yC _,c,rfl⟩]
 have:cR [] n=zD n [.n 0]:=by
  apply List.ext_getElem?;intro i;by_cases hi:i<n
  .rw[aS _ hi,List.getElem?_replicate,if_pos hi];simp
  .rw[wC (by rw[tD];omega),wC NI]
 rw[this];simp
theorem l9 {o:Nat}{c:List (List AV)}(e:h[o]?=some (qH 1 c))(d:∃v,c[j]?=some [v])(b:Bool):D7 jA h 4 (.ptr o j 0) (.bool b)=some (h.set o (qH 1 (c.set j [.bool b]))):=by
 obtain⟨v,f⟩:=d;rw[IE (cs:=[.bool b]) rfl xl e f BA];rfl
theorem Rm {o:Nat}{c:List (List AV)}(e:h[o]?=some (qH 1 c))(d:∃v,c[j]?=some [v]):D7 jA h 3 (.ptr o j 0) (.n x)=some (h.set o (qH 1 (c.set j [.n x]))):=by
 obtain⟨v,f⟩:=d;rw[IE (cs:=[.n x]) rfl iz e f BA];rfl
section
variable (G:Nat->AV)
theorem V' (l:List Vr)(m:SM)(c:List Gp)(s:SM)(hl:l.length<=1048576)(T:c.length<=1048576)(hw:(dg c).length<=1048576)(h:Hp):a_ (En G) 107 [.sl m 4 (l.map bt),.sl s 1 (c.map UM)] h (.bool (jj l c)):=by
 refine ACalls.pure0 rfl ?_;refine cn Tryz.func107 4 ?_;refine A7 (C7 h l.length hl) ?_;refine EG 0 (fun F H=>F 0=.sl m 4 (l.map bt)/\F 5=.own h.length 0 l.length/\H=h++[qH 1 (cR (dg c) l.length)]/\(∀g∈c,g.l≠[])/\∀x∈dg c,0<=x/\x<l.length) (fun F H=>F 4=.bool (jj l c)/\ext h H) ?_ ?_ ?_
 .refine BB (fun n F H=>∃i,n+i=c.length/\F 0=.sl m 4 (l.map bt)/\F 1=.sl s 1 (c.map UM)/\F 5=.own h.length 0 l.length/\F 6=.n (i:Nat)/\H=h++[qH 1 (cR (dg (c.take i)) l.length)]/\(∀g∈c.take i,g.l≠[])/\∀x∈dg (c.take i),0<=x/\x<l.length) c.length ⟨0,BA,AL,AL,AL,AL,rfl,BA,by simp [dg]⟩ ?_
  rintro n F H ⟨i,hi,B,N,C,O,rfl,I,E⟩;refine AZ N O ?_;refine DV ?_ ?_<;>intro d
  .have lg:∀H:Hp,BR jA H 32 (.fptr 1 (c.map UM) i 0)=some (.sl c[i].m 1 (c[i].l.map bu)):=fun H=>by rw[BK MB d];rfl
   refine N8 N O d lg ?_;refine BL ?_ ?_<;>intro hz
   .refine AB ?_
    exact⟨by rw[G3 (jH d) (qY (BQ hz))],_,rfl⟩
   have a5:c[i].l≠[]:=by simp_all
   refine AB ?_;refine EG 2 (fun q Q=>q 0=.sl m 4 (l.map bt)/\q 1=.sl s 1 (c.map UM)/\q 5=.own h.length 0 l.length/\q 6=.n (i:Nat)/\Q=h++[qH 1 (cR (dg (c.take i)++c[i].l) l.length)]/\∀x∈dg (c.take i)++c[i].l,0<=x/\x<l.length) (fun q Q=>q 4=.bool (jj l c)/\ext h Q) ?_ ?_ ?_
   .refine BB (fun n' q Q=>∃j,n'+j=c[i].l.length/\q 0=.sl m 4 (l.map bt)/\q 1=.sl s 1 (c.map UM)/\q 5=.own h.length 0 l.length/\q 6=.n (i:Nat)/\q 7=.n (j:Nat)/\Q=h++[qH 1 (cR (dg (c.take i)++c[i].l.take j) l.length)]/\∀x∈dg (c.take i)++c[i].l.take j,0<=x/\x<l.length) c[i].l.length ⟨0,BA,DY B,DY N,DY C,DY O,AL,by rw[qA,jL],by rw[qA,jL];exact E⟩ ?_
    clear B N C O;rintro n' F H ⟨j,Z,B,N,C,O,f7,rfl,p⟩;refine aZ N O f7 d lg ?_;refine DV ?_ ?_<;>intro J
    .have a2:=yD d J
     have P:c[i].l[j]∈dg c:=by rw[a2];simp
     have l3:∀H:Hp,BR jA H 3 (.fptr 1 (c[i].l.map bu) j 0)=some (.n c[i].l[j]):=fun H=>by rw[BK ct J];rfl
     refine LJ N O f7 d lg J l3 ?_;cases R:decide (c[i].l[j]<0)
     case true =>
      refine A7 R ?_;exact⟨by rw[y8 P (by simp at R;omega)],_,rfl⟩
     refine AZ R B ?_;refine BL ?_ ?_<;>intro A
     .refine AB ?_
      exact⟨by rw[y8 P (by simp at A;omega)],_,rfl⟩
     have h0:0<=c[i].l[j]:=BQ R;obtain⟨k,hk⟩:=wK h0;have K:k<l.length:=by rw[hk] at A;simp at A;omega
     have f:=A8 h (qH 1 (cR (dg (c.take i)++c[i].l.take j) l.length));have a3:(dg (c.take i)++c[i].l.take j).count ((k:Nat):Int)<=1048576:=by grind
     have a4:j<=1048576:=by grind
     have lc:BR jA (h++[qH 1 (cR (dg (c.take i)++c[i].l.take j) l.length)]) 3 (.ptr h.length k 0)=some (.n (((dg (c.take i)++c[i].l.take j).count ((k:Nat):Int):Nat):Int)):=by
      rw[BJ ct f (aS _ K)];rfl
     have a0:=Rm (x:=(((dg (c.take i)++c[i].l.take j).count ((k:Nat):Int)+1:Nat):Int)) f (j:=k) ⟨_,aS _ K⟩;rw[L5 _ K,KZ] at a0
     have V:(dg (c.take i)++c[i].l.take j)++[((k:Nat):Int)]=dg (c.take i)++c[i].l.take (j+1):=by
      rw[jW J,hk,zA]
     simp only[vQ,CP,↓reduceIte,jC,b_,J8,jQ,C,hk,GR f K,lc,wrap_succ (U:(dg (c.take i)++c[i].l.take j).count ((k:Nat):Int)<9223372036854775807),a0,f7,CZ j];refine⟨n'-1,U,j+1,U,AO,AO,AO,AO,rfl,by rw[<-V],fun x L=>?_⟩;rw[<-V] at L;rcases zQ.1 L with L|L
     .exact p x L
     .simp_all
    .have e:c[i].l.take j=c[i].l:=jK U
     rw[e] at p;refine AB ?_;exact⟨B,N,C,O,by rw[e],p⟩
   .rintro q Q ⟨g0,g1,g5,g6,rfl,p⟩
    refine AZ g6 (CZ i) ?_;have Y:=EV d;refine⟨n-1,U,i+1,U,AO,AO,AO,rfl,by rw[Y],fun g T=>?_,by rw[Y];exact p⟩;rw[jW d] at T;rcases zQ.1 T with T|T
    .exact I g T
    .grind
   .rintro q Q ⟨g4,L⟩
    refine A7 g4 ?_;exact⟨trivial,L⟩
  .rw[jK U] at I E
   refine AB ?_;exact⟨B,C,by rw[jK U],I,E⟩
 .rintro F H ⟨B,C,rfl,I,E⟩
  have f:=A8 h (qH 1 (cR (dg c) l.length));have M:ext h (h++[qH 1 (cR (dg c) l.length)]):=⟨_,rfl⟩
  generalize h++[qH 1 (cR (dg c) l.length)]=H0 at f M|-
  refine AB ?_;refine BB (fun n F H=>∃i,n+i=l.length/\(∀(j:Nat),j<i->∀Z:j<l.length,(dg c).count ((j:Nat):Int)=if l[j].mode=0 then 0 else 1)/\F 0=.sl m 4 (l.map bt)/\F 5=.own h.length 0 l.length/\F 9=.n (i:Nat)/\H=H0) l.length ⟨0,BA,fun j Z=>absurd Z U,DY B,DY C,AL,rfl⟩ ?_;clear B C;rintro n F H ⟨i,hi,hb,B,C,S,rfl⟩;refine AZ B S ?_;refine DV ?_ ?_<;>intro d
  .have l2:BR jA H 3 (.fptr 4 (l.map bt) i 2)=some (.n l[i].mode):=by rw[BK ct d];rfl
   have lc:BR jA H 3 (.ptr h.length i 0)=some (.n (((dg c).count ((i:Nat):Int):Nat):Int)):=by
    rw[BJ ct f (aS _ d)];rfl
   have a1:(dg c).count ((i:Nat):Int)=(if l[i].mode=0 then 0 else 1)->∀(j:Nat),j<i+1->∀Z:j<l.length,(dg c).count ((j:Nat):Int)=if l[j].mode=0 then 0 else 1:=fun X j Z hl=>by
    rcases zC j i with h1|h1
    .exact hb j h1 hl
    .obtain rfl:j=i:=U
     exact X
   refine N8 B S d l2 ?_;refine BL ?_ ?_<;>intro R
   .have hm:l[i].mode=0:=BQ R
    simp only[vQ,CP,↓reduceIte,jC,b_,J8,C,S,GR f d,lc];refine BL ?_ ?_<;>intro A
    .refine AB ?_
     refine⟨?_,M⟩;rw[fY d (by rw[if_pos hm];simp [bne] at A;exact fun e=>A e)]
    .have X:=a1 (by rw[if_pos hm];simp [bne] at A;exact A)
     refine AZ S (CZ i) ?_;exact⟨n-1,U,i+1,U,X,AO,AO,rfl,trivial⟩
   .have hm:¬l[i].mode=0:=BQ R
    simp only[vQ,CP,↓reduceIte,jC,b_,J8,C,S,GR f d,lc];refine BL ?_ ?_<;>intro A
    .refine AB ?_
     refine⟨?_,M⟩;rw[fY d (by rw[if_neg hm];intro e;rw[e] at A;exact absurd A DX)]
    .have X:=a1 (by rw[if_neg hm];simp [bne] at A;omega)
     refine AZ S (CZ i) ?_;exact⟨n-1,U,i+1,U,X,AO,AO,rfl,trivial⟩
  .refine AB ?_
   refine⟨?_,M⟩;rw[show jj l c=true from decide_eq_true ⟨I,E,fun i=>hb i.1 U i.2⟩]
 .rintro F H ⟨f4,L⟩
  refine A7 f4 ?_;exact⟨trivial,L⟩
end
section
variable (G:Nat->AV)
theorem Ty (p:Pr)(hl:p.vars.length<=1048576)(S:p.groups.length<=1048576)(hw:(dg p.groups).length<=1048576)(h:Hp):a_ (En G) 84 [.agg (CW p)] h (.n (if jj p.vars p.groups=true then 0 else 1)):=by
 refine ACalls.pure0 rfl ?_;refine cn Tryz.func84 2 ?_;have ge:=A8 h (qH 5 [CW p]);have a7:=Sm.ext.r1 h (qH 5 [CW p]);refine A7 @QE ?_
 generalize h++[qH 5 [CW p]]=hb at ge a7|-
 generalize h.length=eb at ge|-
 have nb:jj p.vars p.groups=false->(AV.int .i64 1=AV.int .i64 (if jj p.vars p.groups=true then 0 else 1)):=fun hh=>by rw[hh];rfl
 have l0:BR jA hb 22 (.ptr eb 0 0)=some (.sl p.vm 4 (p.vars.map bt)):=by rw[BJ aW ge (row:=CW p) rfl];rfl
 refine DC @rZ l0 (Od hb p.vars.length hl) ?_;have Y:∀x:bO,(hb++[x])[eb]?=some (qH 5 [CW p]):=fun x=>AU ge
 have l4:∀x:bO,BR jA (hb++[x]) 25 (.ptr eb 0 4)=some (.sl p.gm 1 (p.groups.map UM)):=fun x=>by rw[BJ XF (Y x) (row:=CW p) rfl];rfl
 have lp:∀x:bO,BR jA (hb++[x]) 27 (.ptr eb 0 0)=some (.agg (CW p)):=fun x=>by rw[EK eP ZU (Y x) (row:=CW p) rfl (by rw[LD];exact jF 5)];rfl
 have af:∀x:bO,BR jA (hb++[x]) 22 (.ptr eb 0 0)=some (.sl p.vm 4 (p.vars.map bt)):=fun x=>by rw[BJ aW (Y x) (row:=CW p) rfl];rfl
 have R:∀x:bO,ext h (hb++[x]):=fun x=>a7.app _
 refine A7 l4 ?_;refine EG 0 (fun F H=>F 1=.ptr eb 0 0/\F 3=.own hb.length 0 p.vars.length/\H=hb++[qH 1 (bR (dg p.groups) p.vars.length)]/\(∀g∈p.groups,g.l≠[])/\(∀x∈dg p.groups,Q9 p.vars x=true)/\∀x:Int,(dg p.groups).count x<=1) (fun F H=>F 2=.n (if jj p.vars p.groups=true then 0 else 1)/\ext h H) ?_ ?_ ?_
 .refine BB (fun n F H=>∃i,n+i=p.groups.length/\F 1=.ptr eb 0 0/\F 3=.own hb.length 0 p.vars.length/\F 14=.sl p.gm 1 (p.groups.map UM)/\F 15=.n (p.groups.length:Nat)/\F 16=.n (i:Nat)/\H=hb++[qH 1 (bR (dg (p.groups.take i)) p.vars.length)]/\(∀g∈p.groups.take i,g.l≠[])/\(∀x∈dg (p.groups.take i),Q9 p.vars x=true)/\∀x:Int,(dg (p.groups.take i)).count x<=1) p.groups.length ⟨0,BA,AL,AL,AL,AL,AL,rfl,BA,by simp [dg],by simp [dg]⟩ ?_
  rintro n F H ⟨i,hi,J,K,f14,f15,f16,rfl,O,C,N⟩;refine AZ f15 f16 ?_;refine DV ?_ ?_<;>intro c
  .have lg:∀H:Hp,BR jA H 32 (.fptr 1 (p.groups.map UM) i 0)=some (.sl p.groups[i].m 1 (p.groups[i].l.map bu)):=fun H=>by rw[BK MB c];rfl
   refine N8 f14 f16 c lg ?_;refine BL ?_ ?_<;>intro hz
   .refine AB ?_
    exact⟨nb (G3 (jH c) (qY (BQ hz))),R _⟩
   have ae:p.groups[i].l≠[]:=by
    intro e;rw[e] at hz;simp at hz
   refine AB ?_;refine EG 2 (fun d T=>d 1=.ptr eb 0 0/\d 3=.own hb.length 0 p.vars.length/\d 14=.sl p.gm 1 (p.groups.map UM)/\d 15=.n (p.groups.length:Nat)/\d 16=.n (i:Nat)/\T=hb++[qH 1 (bR (dg (p.groups.take i)++p.groups[i].l) p.vars.length)]/\(∀x∈dg (p.groups.take i)++p.groups[i].l,Q9 p.vars x=true)/\∀x:Int,(dg (p.groups.take i)++p.groups[i].l).count x<=1) (fun d T=>d 2=.n (if jj p.vars p.groups=true then 0 else 1)/\ext h T) ?_ ?_ ?_
   .refine BB (fun n' d T=>∃j,n'+j=p.groups[i].l.length/\d 1=.ptr eb 0 0/\d 3=.own hb.length 0 p.vars.length/\d 14=.sl p.gm 1 (p.groups.map UM)/\d 15=.n (p.groups.length:Nat)/\d 16=.n (i:Nat)/\d 23=.sl p.groups[i].m 1 (p.groups[i].l.map bu)/\d 24=.n (p.groups[i].l.length:Nat)/\d 25=.n (j:Nat)/\T=hb++[qH 1 (bR (dg (p.groups.take i)++p.groups[i].l.take j) p.vars.length)]/\(∀x∈dg (p.groups.take i)++p.groups[i].l.take j,Q9 p.vars x=true)/\∀x:Int,(dg (p.groups.take i)++p.groups[i].l.take j).count x<=1) p.groups[i].l.length
     ⟨0,BA,DY J,DY K,DY f14,DY f15,DY f16,AL,AL,AL,by rw[qA,jL],by rw[qA,jL];exact C,by rw[qA,jL];exact N⟩ ?_
    clear J K f14 f15 f16;rintro n' F H ⟨j,hj,J,K,f14,f15,f16,f23,ab,X,rfl,B,A⟩;refine AZ ab X ?_;refine DV ?_ ?_<;>intro P
    .have a1:=yD c P
     have a4:p.groups[i].l[j]∈dg p.groups:=by rw[a1];simp
     have l3:∀H:Hp,BR jA H 3 (.fptr 1 (p.groups[i].l.map bu) j 0)=some (.n p.groups[i].l[j]):=fun H=>by rw[BK ct P];rfl
     refine WU f23 X P l3 J lp ?_;refine(Z7 G p _ hl _).use ?_;cases V:Q9 p.vars p.groups[i].l[j]
     .refine AB ?_
      exact⟨nb (AZB a4 V),R _⟩
     obtain⟨k,E,hk,hm⟩:=XL V;have f:=A8 hb (qH 1 (bR (dg (p.groups.take i)++p.groups[i].l.take j) p.vars.length))
     have lc:BR jA (hb++[qH 1 (bR (dg (p.groups.take i)++p.groups[i].l.take j) p.vars.length)]) 4 (.ptr hb.length k 0)=some (.bool (decide (((k:Nat):Int)∈dg (p.groups.take i)++p.groups[i].l.take j))):=by
      rw[BJ po f (eO _ E)];rfl
     have a6:=l9 f (j:=k) ⟨_,eO _ E⟩ true;rw[L_ _ E,KZ] at a6
     have Z:(dg (p.groups.take i)++p.groups[i].l.take j)++[((k:Nat):Int)]=dg (p.groups.take i)++p.groups[i].l.take (j+1):=by
      rw[jW P,hk,zA]
     have ai:j<=1048576:=by
      have h2:p.groups[i].l.length<=(dg p.groups).length:=by
       rw[a1];simp only[jX,zF,jT,List.length_drop];omega
      omega
     simp only[vQ,EM,CP,iF,WX,↓reduceIte,jC,qL,b_,Az,K,hk,GR f E,lc];refine BL ?_ ?_<;>intro b2
     .refine AB ?_
      refine⟨nb (fY E ?_),R _⟩;have M:0<(dg (p.groups.take i)++p.groups[i].l.take j).count ((k:Nat):Int):=List.count_pos_iff.2 (BQ b2);rw[if_neg hm,a1,List.count_append,hk,List.count_cons_self];omega
     .have a5:¬((k:Nat):Int)∈dg (p.groups.take i)++p.groups[i].l.take j:=BQ b2
      simp only[vQ,CP,↓reduceIte,jC,b_,Az,jQ,K,GR f E,a6,X,CZ j];refine⟨n'-1,U,j+1,U,AO,AO,AO,AO,AO,AO,AO,rfl,by rw[<-Z],fun x I=>?_,fun x=>?_⟩
      .rw[<-Z] at I
       rcases zQ.1 I with I|I
       .exact B x I
       .rw[wH] at I
        rw[I,<-hk];exact V
      .rw[<-Z,List.count_append]
       have M:=A x;by_cases hxk:((k:Nat):Int)=x
       .subst hxk
        rw[List.count_eq_zero.2 a5];simp
       .rw[List.count_append] at M
        simp [hxk];exact M
    .have e:p.groups[i].l.take j=p.groups[i].l:=jK U
     rw[e] at B A;refine AB ?_;exact⟨J,K,f14,f15,f16,by rw[e],B,A⟩
   .rintro d T ⟨g1,g3,ag,ah,ad,rfl,B,A⟩
    refine AZ ad (CZ i) ?_;have a0:=EV c;refine⟨n-1,U,i+1,U,AO,AO,AO,AO,rfl,by rw[a0],fun g S=>?_,by rw[a0];exact B,by rw[a0];exact A⟩;rw[jW c] at S;rcases zQ.1 S with S|S
    .exact O g S
    .rw[wH] at S;rw[S];exact ae
   .rintro d T ⟨g2,I⟩
    refine A7 g2 ?_;exact⟨trivial,I⟩
  .rw[jK U] at O C N
   refine AB ?_;exact⟨J,K,by rw[jK U],O,C,N⟩
 .rintro F H ⟨J,K,rfl,O,C,N⟩
  have f:=A8 hb (qH 1 (bR (dg p.groups) p.vars.length));have a8:=af (qH 1 (bR (dg p.groups) p.vars.length));have a9:=lp (qH 1 (bR (dg p.groups) p.vars.length));have a2:=R (qH 1 (bR (dg p.groups) p.vars.length))
  generalize hb++[qH 1 (bR (dg p.groups) p.vars.length)]=H0 at f a2 a8 a9|-
  refine AZ J a8 ?_;refine BB (fun n F H=>∃i,n+i=p.vars.length/\(∀(j:Nat),j<i->j<p.vars.length->Q9 p.vars (j:Nat)=true->((j:Nat):Int)∈dg p.groups)/\F 1=.ptr eb 0 0/\F 3=.own hb.length 0 p.vars.length/\F 46=.n (p.vars.length:Nat)/\F 47=.n (i:Nat)/\H=H0) p.vars.length ⟨0,BA,fun j hj=>absurd hj U,DY J,DY K,AL,AL,rfl⟩ ?_;clear J K;rintro n F H ⟨i,hi,a3,J,K,ac,L,rfl⟩;refine AZ ac L ?_;refine DV ?_ ?_<;>intro c
  .have lc:BR jA H 4 (.ptr hb.length i 0)=some (.bool (decide (((i:Nat):Int)∈dg p.groups))):=by
    rw[BJ po f (eO _ c)];rfl
   refine DC J L a9 ?_;refine(Z7 G p _ hl _).use ?_
   have aa:(Q9 p.vars (i:Nat)=true->((i:Nat):Int)∈dg p.groups)->∀(j:Nat),j<i+1->j<p.vars.length->Q9 p.vars (j:Nat)=true->((j:Nat):Int)∈dg p.groups:=fun he j hj hl Q=>by
    rcases zC j i with M|M
    .exact a3 j M hl Q
    .obtain rfl:j=i:=U
     exact he Q
   cases V:Q9 p.vars ((i:Nat):Int)
   .have he:=aa (fun q=>by rw[V] at q;cases q)
    refine AZ L (CZ i) ?_;exact⟨n-1,U,i+1,U,he,AO,AO,AO,rfl,trivial⟩
   simp only[vQ,EM,SX,CP,iF,WX,↓reduceIte,jC,b_,Az,K,L,GR f c,lc];refine BL ?_ ?_<;>intro b2
   .refine AB ?_
    refine⟨nb (fY c ?_),a2⟩;have M:¬((i:Nat):Int)∈dg p.groups:=BQ b2;have h2:¬p.vars[i].mode=0:=by rw[bJ c] at V;simpa using V
    rw[if_neg h2,List.count_eq_zero.2 M];decide
   .have he:=aa (fun _=>BQ b2)
    refine AZ L (CZ i) ?_;exact⟨n-1,U,i+1,U,he,AO,AO,AO,rfl,trivial⟩
  .refine AB ?_
   refine⟨?_,a2⟩
   have:jj p.vars p.groups=true:=decide_eq_true ⟨O,fun x I=>by
    obtain⟨k,hk,rfl,_⟩:=XL (C x I);omega,fun j=>by
    by_cases Q:Q9 p.vars ((j.1:Nat):Int)=true
    .have M:=List.count_pos_iff.2 (a3 j.1 U j.2 Q)
     have h2:=N ((j.1:Nat):Int);rw[bJ j.2] at Q;rw[if_neg (BQ Q)];omega
    .have M:¬((j.1:Nat):Int)∈dg p.groups:=fun hm=>Q (C _ hm)
     rw[bJ j.2] at Q;rw[if_pos (BQ Q)]
     exact List.count_eq_zero.2 M⟩
   rw[this];rfl
 .rintro F H ⟨f2,I⟩
  refine A7 f2 ?_;exact⟨trivial,I⟩
end
end Bd
end Go.Proofs.YtiihpnicbekebaaGreatDoor
