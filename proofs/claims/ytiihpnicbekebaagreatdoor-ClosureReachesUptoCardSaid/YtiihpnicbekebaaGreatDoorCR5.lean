/- Part 5 of the proof (O3, O4, O6, O11, O12, O13, O14, P1, C1, C2, C3, Bs, Bt, C4, O15, O16, O18, Sy, O21, O22, O23, S1, S2, O25, P2, O32, O26, O27, O28, O29, O30, O24, O31, O33, S3, S4, W4, W5, S7, J1, J2, J3, O34, O35, O36, O42);no condition. -/
import Derived.Shelf.SlSortCmp.WholeK
import Derived.Shelf.SlSortCmp.NoneTotal
import Derived.Shelf.SlicesG.Cmp
import Derived.Shelf.Spec.SlicesGrow
import Derived.Test.YtiihpnicbekebaaGreatDoorCR4
set_option linter.unusedVariables false
set_option linter.unusedSimpArgs false
set_option maxRecDepth 8000
set_option maxHeartbeats 8000000
open Go.Proofs.YtiihpnicbekebaaGreatDoor.Sm.ABlk renaming live→qG
open Bool renaming and_eq_true→jX,eq_iff_iff→wP,false_and→wK,false_eq_true→zZ,false_or→wF,not_false→jE,not_true→qN,or_eq_false_iff→wG,or_eq_true→qP,or_false→zN,true_and→qZ
open Go.Proofs.Tryz renaming prog→jA
open Int renaming toNat_natCast→qM
open List renaming all_cons→wS,all_eq_true→zJ,any_eq_false→qQ,any_eq_true→qJ,append_assoc→zD,append_nil→jM,cons_append→zG,contains_cons→jZ,contains_nil→jS,drop_eq_nil_of_le→jY,drop_zero→zI,eq_nil_of_length_eq_zero→qY,findIdx?_eq_none_iff→wU,findIdx?_eq_some_iff_getElem→wR,foldl_cons→qU,getElem?_append_left→qH,getElem?_eq_getElem→jO,getElem?_map→zB,getElem?_set_ne→zW,getElem?_set→zU,getElem_mem→jH,getElem_of_mem→qO,length_append→jW,length_cons→zF,length_drop→wV,length_eq_zero_iff→wM,length_map→jI,length_nil→zH,length_pos_iff→qR,length_set→qV,length_take→jR,length→qL,map_append→qC,map_congr_left→wB,map_cons→jJ,map_map→qE,map_nil→jL,mem_append→zM,mem_cons→zO,mem_map→zQ,mem_singleton→wH,range→zL,replicate→zK,take_of_length_le→jK,take_succ_eq_append_getElem→jV,take_zero→qA
open Nat renaming add_mul→qK,add_zero→jT,le_of_ble_eq_true→jB,le_refl→jF,lt_or_ge→zA,reduceAdd→jP,reduceBEq→jU,reduceEqDiff→jC,zero_add→jG,zero_le→qF
open Option renaming getD_none→jQ,getD_some→jD
namespace Go.Proofs.YtiihpnicbekebaaGreatDoor.Ho
open Sm Bins Cov Go.RowKit
section
variable (G:Nat->AV)
theorem valid_prog (b:GOk G)(m:Mo)(d:MoOk m)(x:Hl)(e:x.bins.length<=1048576)(h:Hp):PCall (En G) 42 [.agg (DT m),.agg (FM x)] h (.bool (OA m x)):=by
 refine ACalls.pure0 rfl ?_;refine acT Tryz.func42 4 ?_;have t:=Hb.mk' h m x;refine A7 @bxM @bxH ?_
 generalize h++[qG 2 [DT m]]++[qG 3 [FM x]]=H at t|-
 generalize (h++[qG 2 [DT m]]).length=hb at t|-
 refine AY (ldM t.gm) ?_;refine(U5 G b m d H).use ?_;unfold OA;cases a:(GH m==0)
 .refine AY a ?_
  exact⟨by rw[wK],t.hx⟩
 .have c:Cov.Good m:=VT (BL a)
  refine DC a (ldM t.gm) (ldH t.gh) ?_;refine(AON G m c x e H).uu ?_;exact⟨by rw[qZ],t.hx⟩
theorem valid_ref (m:Mo)(M:MoOk m)(x:Hl)(N:x.bins.length<=1048576)(h:Hp):PCall (En G) 50 [.agg (DT m),.agg (FM x)] h (.bool (OA m x)):=by
 refine ACalls.pure0 rfl ?_;refine acT Tryz.func50 4 ?_;have t:=Hb.mk' h m x;refine A7 @bxM @bxH ?_
 generalize h++[qG 2 [DT m]]++[qG 3 [FM x]]=H at t|-
 generalize (h++[qG 2 [DT m]]).length=hb at t|-
 refine AY (ldM t.gm) ?_;refine(uY G m M H).use ?_;unfold OA;cases B:(GH m==0)
 .simp only[vQ,CQ,↓reduceIte,enP,bne,B]
  exact⟨by rw[wK],t.hx⟩
 have L:Cov.Good m:=VT (BL B);rw[qZ];simp only[vQ,CQ,↓reduceIte,jC,qN,enP,AIL,bne,B,AN8 t.gh];cases K:x.cross
 case true =>
  have a:WZ m x=crF m x (AFM m x.idx):=by unfold WZ;rw[if_pos K]
  refine DC (ldM t.gm) (tF t.gh) (tE t.gh) ?_;rcases RQ x.idx m.crs.length with c|⟨i,d,c⟩
  .rw[rF c] at a;change WZ m x=false at a
   refine(tI G m x.idx c x.bins x.bm H).uu ?_;exact⟨by rw[a],t.hx⟩
  .rw[c,bD d] at a
   change WZ m x=(J6 (szs m m.crs[i].pts) x.bins&&eX m m.crs[i] x.bins) at a;have l:=L.crs _ (List.getElem_mem d);rw[c];refine(tJ G m i d l x.bins x.bm N H).use ?_;cases f:J6 (szs m m.crs[i].pts) x.bins
   .refine AB ?_
    exact⟨by rw[a,f,wK],t.hx⟩
   .refine DC (ldM t.gm) (tF t.gh) (tE t.gh) ?_
    rw[c];refine(AA3 G m i d l x.bins x.bm f H).uu ?_;exact⟨by rw[a,f,qZ,Bool.not_not],t.hx⟩
 have a:WZ m x=ptF x (AHN m x.idx):=by unfold WZ;rw[if_neg (by rw[K];decide)]
 have p:=tF t.gh;have q:=tE t.gh;rcases RQ x.idx m.pts.length with c|⟨i,d,c⟩
 .rw[oA c] at a;change WZ m x=false at a
  cases e:decide (x.idx<0)
  .have A:decide (x.idx≥(m.pts.length:Int))=true:=by rw[decide_eq_true_eq];rw[decide_eq_false_iff_not] at e;omega
   refine EG p e (WH t.gm) A ?_;exact⟨by rw[a],t.hx⟩
  .refine A7 p e ?_
   exact⟨by rw[a],t.hx⟩
 rw[c,yX d] at a;change WZ m x=pI m.pts[i] x.bins at a;rw[c] at p;rcases Classical.em (x.bins.length=1) with F|F
 case inr =>
  have g:((x.bins.length:Int)==1)=false:=by simp;omega
  simp only[vQ,EP,CQ,↓reduceIte,jC,enP,AN4,LZ,YT,WL,VA,p,q,ltz_false,WH t.gm,jI,aX d,bne,g];exact⟨by rw[a,pG F],t.hx⟩
 obtain⟨b,C⟩:=cJ F;rw[C] at q a;have j:0<([b]:List Int).length:=BA;have I:JD 1 H (.sl x.bm 1 [qencI b]) (.n 0)=some (.fptr 1 [qencI b] 0 0):=CP (k:=1) j;have g:(((([qencI b]:List (List AV)).length:Nat):Int)==1)=true:=rfl;have J:BO Tryz.prog H 3 (.fptr 1 [qencI b] 0 0)=some (.n b):=(BR ag3 j).trans rfl;simp only[vQ,EP,CQ,↓reduceIte,jC,qN,enP,UF,AN4,LZ,LJ,YT,WL,VA,KX,p,q,ltz_false,WH t.gm,jI,aX d,bne,g,CP d,BR QQ d,QE,I,J];rcases RQ b m.pts[i].bins.length with E|⟨k,hk,rfl⟩
 .rw[iG E] at a
  cases e:decide (b≥0)
  .refine AY e ?_
   exact⟨by rw[a],t.hx⟩
  .have A:decide (b<(m.pts[i].bins.length:Int))=false:=by rw[decide_eq_false_iff_not];rw[decide_eq_true_eq] at e;omega
   refine H7 e q I J A ?_;exact⟨by rw[a],t.hx⟩
 .rw[pH hk] at a
  simp only[vQ,EP,UL,CQ,↓reduceIte,jC,enP,LJ,VA,ZL,eO,X5,oZ,q,I,J,jI,AD7 hk,CP hk,BR ag3 hk,VD];exact⟨by rw[a],t.hx⟩
end
theorem gG {m:Mo}{x:Hl}(d:OA m x=true)(f:x.cross=true):∃i,∃c:i<m.crs.length,x.idx=(i:Int)/\J6 (szs m m.crs[i].pts) x.bins=true/\eX m m.crs[i] x.bins=true/\Cov.Good m:=by
 unfold OA at d;rw[jX] at d;obtain⟨e,a⟩:=d;unfold WZ at a;rw[if_pos f] at a;rcases RQ x.idx m.crs.length with b|⟨i,c,b⟩
 .rw[rF b] at a;exact Bool.noConfusion (show false=true from a)
 .rw[b,bD c] at a
  change (J6 (szs m m.crs[i].pts) x.bins&&eX m m.crs[i] x.bins)=true at a;rw[jX] at a;exact⟨i,c,b,a.1,a.2,VT (BL e)⟩
theorem gD {m:Mo}{x:Hl}(g:OA m x=true)(l:x.cross=false):∃i,∃e:i<m.pts.length,∃k,∃hk:k<m.pts[i].bins.length,x.idx=(i:Int)/\x.bins=[(k:Int)]/\m.pts[i].bins[k].kind=0/\Cov.Good m:=by
 unfold OA at g;rw[jX] at g;obtain⟨j,a⟩:=g;unfold WZ at a;rw[if_neg (by rw[l];decide)] at a;rcases RQ x.idx m.pts.length with c|⟨i,e,c⟩
 .rw[oA c] at a;exact Bool.noConfusion (show false=true from a)
 .rw[c,yX e] at a
  change pI m.pts[i] x.bins=true at a;rcases Classical.em (x.bins.length=1) with f|f
  .obtain⟨b,h⟩:=cJ f
   rw[h] at a;rcases RQ b m.pts[i].bins.length with d|⟨k,hk,rfl⟩
   .rw[iG d] at a;exact Bool.noConfusion (show false=true from a)
   .rw[pH hk] at a
    exact⟨i,e,k,hk,c,h,BL a,VT (BL j)⟩
  .rw[pG f] at a;exact Bool.noConfusion (show false=true from a)
end Go.Proofs.YtiihpnicbekebaaGreatDoor.Ho
namespace Go.Proofs.YtiihpnicbekebaaGreatDoor.Ho
open Sm Bins Cov Xe Go.RowKit
structure H3 (h H:Hp) (m:Mo) (x:Hl) (c:Cvr) (hb cb:Nat):Prop where
 gm:H[h.length]?=some (qG 2 [DT m])
 gh:H[hb]?=some (qG 3 [FM x])
 gc:H[cb]?=some (qG 4 [encV c])
 hx:ext h H
end Go.Proofs.YtiihpnicbekebaaGreatDoor.Ho
namespace Go.Proofs.YtiihpnicbekebaaGreatDoor.Ho
open Sm Bins Cov Go.RowKit
variable {H:Hp} {b k:Nat} (G:Nat->AV )
theorem AN7 {p:Pt}(a:H[b]?=some (qG 6 [F8 p])):BO jA H 80 (.ptr b 0 5)=some (.sl p.bm 4 (p.bins.map I7)):=by
 rw[BK QQ a (row:=F8 p) rfl,QE]
theorem AD9 {p:Pt}(a:H[b]?=some (qG 6 [F8 p])):BO jA H 79 (.ptr b 0 1)=some (.agg (AQ p.ex)):=by
 rw[EN NI GZ a rfl (by rw[JB];exact jB rfl),AA9]
theorem MB {P:Program}{t e:TypeId}{α:Type}{C:Nat}{f:α->List AV}{h:Hp}{xs ys:List α}{v:AV}(s:SM)(A:outG k f h xs v H)(i:P.underlying t=some (.slice e))(g:szO P e=some k)(J:UZ P e=some k)(a:LQ P e=some C)(hbs:C<=4194304)(I:xs.length+ys.length<=8388608)(d:ext h H):
  ∃B H',EH P true H t t v (.sl s k (ys.map f))=some (B,H')/\outG k f h (xs++ys) B H'/\(∀b x,H[b]?=some x->¬isB v b->H'[b]?=some x)/\ext h H'/\H.length<=H'.length/\(∀b,isB B b->isB v b\/b=H.length):=by
 cases ys with
 | nil =>
   refine⟨v,H,?_,by rw[jM];exact A,fun _ _ L _=>L,d,jF _,fun b a=>.inl a⟩;have c:JJ H (.sl s k [])=some (k,[]):=H6 H s k [];rcases A with⟨rfl,rfl⟩|⟨q,o,F,rfl,j⟩
   .simp [EH,i,g,SN,c,bump]
   .have l:JJ H (.own o 0 xs.length)=some (k,xs.map f):=by rw[JK j BA,zI,jK BA]
    simp [EH,i,g,SN,l,c,bump]
 | cons y ys =>
   have E:(y::ys).map f≠[]:=BA;rcases A with⟨rfl,rfl⟩|⟨q,o,F,rfl,j⟩
   .refine⟨_,_,UU i g J a (H6 H s k ((y::ys).map f)) E (I5 (by simp at I|-;omega) hbs),.inr ⟨BA,H.length,d.le,BA,BA⟩,fun b x a _=>IA a,d.app _,BA,fun b a=>.inr a.symm⟩
   .have l:JJ H (.own o 0 xs.length)=some (k,xs.map f):=by rw[JK j BA,zI,jK BA]
    refine⟨_,_,TM i g J a l (H6 H s k ((y::ys).map f)) E (I5 (by simp at I|-;omega) hbs),.inr ⟨BA,H.length,d.le,BA,BA⟩,fun b x a K=>?_,(d.set F _).app _,BA,fun b a=>.inr a.symm⟩;have p:¬o=b:=K;refine IA ?_;rw[List.getElem?_set,if_neg p];exact a
def KH:List Bin->List Rng
 | []=>[]
 | b::r=>(if b.kind≠0 then b.ranges.l else [])++KH r
theorem xF {l:List Bin}(hk:k<l.length):KH (l.take (k+1))=KH (l.take k)++(if l[k].kind≠0 then l[k].ranges.l else []):=by
 induction l generalizing k with
 | nil=>simp at hk
 | cons b r a =>
   cases k with
   | zero=>simp [KH]
   | succ k =>
     have:=a (k:=k) (BL hk);simp only[List.take_succ_cons,List.getElem_cons_succ];show _++KH (r.take (k+1))=(_++KH (r.take k))++_;rw[this,List.append_assoc]
theorem AGA {l:List Bin}(k:Nat):(KH (l.take k)).length<=(KH l).length:=by
 induction l generalizing k with
 | nil=>simp
 | cons b r a =>
   cases k with
   | zero=>simp [KH]
   | succ k =>
     have:=a k;show(_++KH (r.take k)).length<=(_++KH r).length;rw[jW,jW];omega
theorem AZ4:Frz encR:=fun _ _ _ _=>⟨rfl,rfl⟩
theorem ALA {x:Bin}(a:H[b]?=some (qG 4 [I7 x])):BO jA H 84 (.ptr b 0 2)=some (.sl x.ranges.m 2 (x.ranges.l.map encR)):=by
 rw[BK TB a (row:=I7 x) rfl,cD]
theorem A36 {x:Bin}(a:H[b]?=some (qG 4 [I7 x])):BO jA H 3 (.ptr b 0 1)=some (.n x.kind):=by
 rw[BK ag3 a (row:=I7 x) rfl,VD]
theorem AYK (h:Hp)(p:Pt):OU h (.agg (F8 p))=some (.ptr h.length 0 0,h++[qG 6 [F8 p]]):=by
 rw[bE (iO p),JB]
section
variable (G:Nat->AV)
theorem AUM (p:Pt)(R:p.bins.length<=1048576)(Q:(KH p.bins).length<=1048576)(h:Hp):PCall (En G) 169 [.agg (F8 p)] h (.sl (Cov.nm (KH p.bins)) 2 ((KH p.bins).map encR)):=by
 refine JZ AZ4 ?_;refine acT Tryz.func169 2 ?_;have I:=AZ h (qG 6 [F8 p]);have C:=Sm.ext.r1 h (qG 6 [F8 p]);refine AY @AYK ?_
 generalize h++[qG 6 [F8 p]]=H0 at I C|-
 refine AY (AN7 I) ?_
 refine BB (fun n F H=>∃k u,n+k=p.bins.length/\F 3=u/\F 7=.sl p.bm 4 (p.bins.map I7)/\F 8=.n (p.bins.length:Nat)/\F 9=.n (k:Nat)/\ext H0 H/\outG 2 encR H0 (KH (p.bins.take k)) u H) p.bins.length
  ⟨0,.sl .nil 0 [],BA,AO,AO,AO,AO,ext.rfl' _,outG.nil _ _ _ _⟩ ?_
 rintro n F H ⟨k,u,hk,E,L,M,i,J,B⟩;refine A7 M i ?_;refine DX ?_ ?_<;>intro e
 .have a:=xF e
  have q:=AGA (l:=p.bins) (k+1);have j:=AZ H (qG 4 [I7 p.bins[k]]);have d:=J.app [qG 4 [I7 p.bins[k]]];have c:=B.app [qG 4 [I7 p.bins[k]]];simp only[vQ,CQ,↓reduceIte,jC,enP,ZL,X5,jQ,L,i,CP e,DL sC dX MM e,al79,st79 _ _ [.str ⟨#[]⟩,.n 0,.sl .nil 0 [],.sl .nil 0 []] rfl]
  generalize H++[qG 4 [I7 p.bins[k]]]=H1 at j d c|-
  simp only[vQ,CQ,↓reduceIte,enP,A36 j,bne];cases K:(p.bins[k].kind==0)
  .have f:p.bins[k].kind≠0:=BL K
   rw[if_pos f] at a;rw[a,jW] at q;obtain⟨O,P,N,g,_,A,_,_⟩:=MB p.bins[k].ranges.m c WB J8 xX ABH U (ys:=p.bins[k].ranges.l) U d;rw[<-a] at g;refine H7 E (ALA j) N i (C9 k) ?_;exact⟨n-1,U,k+1,O,U,AC,AC,AC,AC,A,g⟩
  .have f:¬p.bins[k].kind≠0:=BL K
   rw[if_neg f,jM] at a;rw[<-a] at c;refine A7 i (C9 k) ?_;exact⟨n-1,U,k+1,u,U,AC,AC,AC,AC,d,c⟩
 .rw[jK U] at B
  refine AY E ?_;exact⟨C.trans J,B.base C.le⟩
theorem AYU (p:Pt)(O:p.bins.length<=1048576)(N:(KH p.bins).length<=1048576)(h:Hp):PCall (En G) 269 [.agg (F8 p)] h (.sl (Cov.nm (KH p.bins)) 2 ((KH p.bins).map encR)):=by
 refine JZ AZ4 ?_;refine acT Tryz.func269 2 ?_;have I:=AZ h (qG 6 [F8 p]);have C:=Sm.ext.r1 h (qG 6 [F8 p]);refine AY @AYK ?_
 generalize h++[qG 6 [F8 p]]=H0 at I C|-
 refine BB (fun n F H=>∃k u,n+k=p.bins.length/\F 1=.ptr h.length 0 0/\F 3=u/\F 4=.n (k:Nat)/\ext H0 H/\outG 2 encR H0 (KH (p.bins.take k)) u H) p.bins.length
  ⟨0,.sl .nil 0 [],BA,AO,AO,AO,ext.rfl' _,outG.nil _ _ _ _⟩ ?_
 rintro n F H ⟨k,u,hk,q,E,i,j,f⟩;have d:=DW j I;refine DC q i (AN7 d) ?_;refine DX ?_ ?_<;>intro c
 .have a:=xF c
  have A:=AGA (l:=p.bins) (k+1);simp only[vQ,CQ,↓reduceIte,jC,enP,ZL,KX,X5,q,i,AN7 d,CP c,BR ag3 c,VD,bne];cases J:(p.bins[k].kind==0)
  .have e:p.bins[k].kind≠0:=BL J
   rw[if_pos e] at a;rw[a,jW] at A;obtain⟨L,M,K,g,_,B,_,_⟩:=MB p.bins[k].ranges.m f WB J8 xX ABH U (ys:=p.bins[k].ranges.l) U j;rw[<-a] at g;refine OZ q E i (AN7 d) c @cD K (C9 k) ?_;exact⟨n-1,U,k+1,L,U,AC,AC,AC,B,g⟩
  .have e:¬p.bins[k].kind≠0:=BL J
   rw[if_neg e,jM] at a;rw[<-a] at f;refine A7 i (C9 k) ?_;exact⟨n-1,U,k+1,u,U,AC,AC,AC,j,f⟩
 .rw[jK U] at f
  refine AY E ?_;exact⟨C.trans j,f.base C.le⟩
end
def cE (n:Int):Ex:=.mk 1 n ⟨#[]⟩ .nil []
def SB (op n:Int):List AV:=[.n op,.n n,.str ⟨#[]⟩,.sl .nil 0 []]
theorem rS (n:Int):JC jA 79 [(0,.n 1),(1,.n n)]=some (.agg (SB 1 n)):=BC
theorem mT (n:Int):CvRow (SB 1 n) (AQ (cE n)):=by
 rw[FK];exact CvRow.cons rfl (Cv.refl _) (CvRow.cons rfl (Cv.refl _) (CvRow.cons rfl (Cv.refl _) (CvRow.cons rfl (Cv.nil 0 4) CvRow.nil)))
def cpE:Ex->Ex
 | .mk d n c _ a=>.mk d n c (match a with|[]=>.nil|_=>.any) (cpEs a)
 where cpEs:List Ex->List Ex
 | []=>[]
 | e::es=>cpE e::cpEs es
theorem AFN:∀l:List Ex,cpE.cpEs l=l.map cpE
 | []=>rfl
 | e::es=>by show cpE e::cpE.cpEs es=_;rw[AFN es];rfl
theorem TA (e:Ex):cpE e=.mk e.op e.n e.name (Cov.nm (e.args.map cpE)) (e.args.map cpE):=by
 cases e with
 | mk op n a m args =>
   show Ex.mk op n a _ (cpE.cpEs args)=Ex.mk op n a _ (args.map cpE);rw[AFN];cases args<;>rfl
theorem frzEx:Frz AQ:=fun n h d x=>by
 rw[FK];exact⟨rfl,rfl⟩
def cpW (e:Ex):List AV:=[.n e.op,.n e.n,.str e.name,fzG 4 AQ (e.args.map cpE)]
theorem ATS (e:Ex):CvR (.agg (cpW e)) (.agg (AQ (cpE e))):=by
 rw[FK,TA];exact CvR.agg (CvRL.cons (CvR.refl _) (CvRL.cons (CvR.refl _) (CvRL.cons (CvR.refl _) (CvRL.cons WJ CvRL.nil))))
theorem XE (n:Int):CvR (.agg (SB 1 n)) (.agg (AQ (cE n))):=by
 rw[FK];exact CvR.agg (CvRL.cons (CvR.refl _) (CvRL.cons (CvR.refl _) (CvRL.cons (CvR.refl _) (CvRL.cons (CvR.sl (Cv.nil 0 4)) CvRL.nil))))
theorem OW {row cs:List AV}(d:H[b]?=some (qG 4 [row]))(c:row.length=4)(a:cs.length=4)(e:cs.all AV.leaf=true):D8 jA H 79 (.ptr b 0 0) (.agg cs)=some (H.set b (qG 4 [cs])):=by
 rw[JU (cs:=cs) (RV e) (by rw[a];exact GZ) d (by rw[c,a];exact jF 4)];have:splice row 0 cs=cs:=by unfold splice;rw[qA,List.drop_eq_nil_of_le (by rw[c,a];exact jF 4)];simp
 rw[this]
theorem G5 {h:Hp}{row:List AV}(c:h[b]?=some (qG 4 [row]))(a:row.length=4):BO jA h 79 (.ptr b 0 0)=some (.agg row):=by
 rw[EN NI GZ c rfl (by rw[a];exact jF 4),zI,<-a,List.take_length]
theorem ZG (n:Int)(h:Hp):PCall (En G) 247 [.n n] h (.agg (AQ (cE n))):=by
 refine PCall.res ?_ (XE n);refine SE 3 (fun n H=>rfl) ?_;refine acL Tryz.func247 [.cell 2 79] ?_;have a:=AZ h (qG 4 [[.n 0,.n 0,.str ⟨#[]⟩,.sl .nil 0 []]]);have c:=Sm.ext.r1 h (qG 4 [[.n 0,.n 0,.str ⟨#[]⟩,.sl .nil 0 []]]);refine AY NY ?_
 generalize h++[qG 4 [[.n 0,.n 0,.str ⟨#[]⟩,.sl .nil 0 []]]]=H at a c|-
 refine A7 @rS (OW (cs:=SB 1 n) a rfl rfl rfl) ?_;rw[IM (b:=h.length) AO (G5 (CJ a) rfl)];exact⟨rfl,c.set (jF _) _⟩
theorem AFS:∀(w:Nat) (e:Ex) (h:Hp),wt e<=w->wt e<=1048576->PCall (En G) 246 [.agg (AQ e)] h (.agg (AQ (cpE e))):=by
 intro w
 induction w with
 | zero=>intro e h h1 _;have:=N7 e;omega
 | succ w ih =>
   intro e h h1 h2;have Y:=XQ e.args;have a1:=N7 e;refine PCall.res (r:=.agg (cpW e)) ?_ (ATS e);refine ACalls.pure (R:=fun v H=>ext h H/\FH h.length H 4 v=.agg (cpW e)) 4 ?_ (fun v H ⟨a,b⟩=>⟨a,b⟩);refine acL Tryz.func246 [.cell 2 79] ?_;have L:=AU (x:=qG 4 [[.n 0,.n 0,.str ⟨#[]⟩,.sl .nil 0 []]]) (AZ h (qG 4 [AQ e]));have E:=AZ (h++[qG 4 [AQ e]]) (qG 4 [[.n 0,.n 0,.str ⟨#[]⟩,.sl .nil 0 []]]);have T:ext h (h++[qG 4 [AQ e]]++[qG 4 [[.n 0,.n 0,.str ⟨#[]⟩,.sl .nil 0 []]]]):=((ext.rfl' h).app _).app _;have N:h.length<(h++[qG 4 [AQ e]]).length:=BA;refine A7 @bxE NY ?_
   generalize h++[qG 4 [AQ e]]++[qG 4 [[.n 0,.n 0,.str ⟨#[]⟩,.sl .nil 0 []]]]=H0 at L E T|-
   generalize (h++[qG 4 [AQ e]]).length=b2 at E N|-
   have l2:=AX E;refine AY (Rk.ldE' L) ?_
   refine BB (fun n F H=>∃k u,n+k=e.args.length/\F 1=.ptr h.length 0 0/\F 2=.ptr b2 0 0/\F 3=u/\F 7=.sl e.m 4 (e.args.map AQ)/\F 8=.n (e.args.length:Nat)/\F 9=.n (k:Nat)/\ext H0 H/\outG 4 AQ H0 ((e.args.take k).map cpE) u H) e.args.length
    ⟨0,.sl .nil 0 [],BA,AO,AO,AO,AO,AO,AO,ext.rfl' _,outG.nil _ _ _ _⟩ ?_
   rintro n F H ⟨k,u,hk,V,I,X,f7,f8,J,i,p⟩;refine A7 f8 J ?_;refine DX ?_ ?_<;>intro d
   .have a0:=Rk.wt_arg d
    have j:=i.app [qG 4 [AQ e.args[k]]];have q:=p.app [qG 4 [AQ e.args[k]]];have gT:=ldE H e.args[k];simp only[vQ,CQ,List.map_cons,List.map_nil,↓reduceIte,jC,enP,PU,jQ,f7,J,CP d,DL NI GZ EC d,NY,gQ _ _ [.n 0,.n 0,.str ⟨#[]⟩,.sl .nil 0 []] rfl,gT]
    generalize H++[qG 4 [AQ e.args[k]]]=H1 at j q|-
    refine(ih e.args[k] H1 U U).use ?_
    have hbs:DJ jA false H1 23 1 [(0,.agg (AQ (cpE e.args[k])))]=some (.sl .full 4 [AQ (cpE e.args[k])],H1):=by
     rw[FK];exact(BC:DJ jA false H1 23 1 [(0,.agg [.n (cpE e.args[k]).op,.n (cpE e.args[k]).n,.str (cpE e.args[k]).name,.sl (cpE e.args[k]).m 4 ((cpE e.args[k]).args.map AQ)])]=_)
    obtain⟨v',H2,ha,A,_,O,_,_⟩:=q.append NJ GZ QA P9 U NZ j (cpE e.args[k]);have Z:(e.args.take k).map cpE++[cpE e.args[k]]=(e.args.take (k+1)).map cpE:=by rw[jV d,List.map_append];rfl
    rw[Z] at A;refine H7 X hbs ha J (C9 k) ?_;exact⟨n-1,U,k+1,v',U,AC,AC,AC,AC,AC,AC,O,A⟩
   .rw[jK U] at p
    have c:=DW i L;have K:=DW i E;have hle:=i.le;have P:=p.leaf;have M:h.length<H0.length:=U
    have S:D8 jA H 23 (.ptr h.length 0 3) u=some (H.set h.length (qG 4 [[.n e.op,.n e.n,.str e.name,u]])):=by
     rw[FK] at c;rcases p with⟨_,rfl⟩|⟨_,o,_,rfl,_⟩
     .rw[JU (cs:=[.sl .nil 0 []]) rfl (BC:szO jA 23=some 1) c BA];rfl
     .rw[JU (cs:=[.own o 0 _]) rfl (BC:szO jA 23=some 1) c BA];rfl
    have g:(H.set h.length (qG 4 [[.n e.op,.n e.n,.str e.name,u]]))[h.length]?=some (qG 4 [[.n e.op,.n e.n,.str e.name,u]]):=CJ c;have f:(H.set h.length (qG 4 [[.n e.op,.n e.n,.str e.name,u]]))[b2]?=_:=DF K U;have B:outG 4 AQ H0 (e.args.map cpE) u (H.set h.length (qG 4 [[.n e.op,.n e.n,.str e.name,u]])):=p.setB M _;have C:ext h (H.set h.length (qG 4 [[.n e.op,.n e.n,.str e.name,u]])):=(T.trans i).set (jF _) _;refine EG V I X S ?_
    generalize H.set h.length (qG 4 [[.n e.op,.n e.n,.str e.name,u]])=H3 at g f B C|-
    have l:([.n e.op,.n e.n,.str e.name,u]:List AV).all AV.leaf=true:=by simp [P];exact⟨rfl,rfl,rfl⟩
    refine EG V I (G5 g rfl) (OW f rfl rfl l) ?_;rw[IM (b:=b2) (D7 I) (G5 (CJ f) rfl)];refine⟨C.set U _,?_⟩;have Q:=B.setB (b:=b2) l2 (qG 4 [[.n e.op,.n e.n,.str e.name,u]]);have hz:=LP frzEx Q h.length 1 (by have:=T.le;omega);show AV.agg [.n e.op,.n e.n,.str e.name,FH h.length _ 3 u]=.agg (cpW e);rw[hz];rfl
abbrev It:=Sum Ex Int
def ALD:It->List AV
 | .inl e=>AQ e
 | .inr n=>SB 1 n
def AXD:It->Ex
 | .inl e=>e
 | .inr n=>cE n
theorem ASE:∀x:It,CvRow (ALD x) (AQ (AXD x))
 | .inl e=>by
   show CvRow (AQ e) (AQ e);rw[FK];exact CvRow.cons rfl (Cv.refl _) (CvRow.cons rfl (Cv.refl _) (CvRow.cons rfl (Cv.refl _) (CvRow.cons rfl (Cv.refl _) CvRow.nil)))
 | .inr n=>mT n
theorem A4M:Frz ALD:=fun n h d x=>by
 cases x with
 | inl e=>exact frzEx n h d e
 | inr k=>exact⟨rfl,rfl⟩
def AEE (l:List Rng):List It:=l.flatMap fun r=>[.inr r.lo,.inr r.hi]
def bZ (e:Ex)(l:List Rng):List It:=.inl e::AEE l
def IU (e:Ex)(l:List Rng):Ex:=.mk 23 0 ⟨#[]⟩ .any ((bZ e l).map AXD)
def insW (e:Ex)(l:List Rng):List AV:=[.n 23,.n 0,.str ⟨#[]⟩,.sl .any 4 ((bZ e l).map ALD)]
theorem AXE (e:Ex)(l:List Rng):CvR (.agg (insW e l)) (.agg (AQ (IU e l))):=by
 rw[FK];show CvR _ (.agg [.n 23,.n 0,.str ⟨#[]⟩,.sl .any 4 (((bZ e l).map AXD).map AQ)]);rw[List.map_map];exact CvR.agg (CvRL.cons (CvR.refl _) (CvRL.cons (CvR.refl _) (CvRL.cons (CvR.refl _) (CvRL.cons (CvR.sl (Cv.map fun x _=>ASE x)) CvRL.nil))))
theorem AOD {l:List Rng}(hk:k<l.length):AEE (l.take (k+1))=AEE (l.take k)++[.inr l[k].lo,.inr l[k].hi]:=by
 unfold AEE;rw[jV hk,List.flatMap_append];rfl
theorem vI (a:Rng)(l:List Rng):AEE (a::l)=.inr a.lo :: .inr a.hi::AEE l:=rfl
theorem AED:∀l:List Rng,(AEE l).length=2*l.length
 | []=>rfl
 | a::l=>by
   rw[vI,zF,zF,AED l,zF];omega
theorem AYL (h:Hp)(a b:Int)(s:ByteArray)(m:SM)(xs:List (List AV)):DJ jA true h 23 1 [(0,.agg [.n a,.n b,.str s,.sl m 4 xs])]=some (.own h.length 0 1,h++[qG 4 [[.n a,.n b,.str s,.sl m 4 xs]]]):=BC
theorem A0G (h:Hp)(e:Ex):DJ jA true h 23 1 [(0,.agg (AQ e))]=some (.own h.length 0 1,h++[qG 4 [AQ e]]):=by
 rw[FK];exact AYL h _ _ _ _ _
theorem AYM (h:Hp)(a b:Int):DJ jA false h 23 2 [(0,.agg (SB 1 a)),(1,.agg (SB 1 b))]=some (.sl .full 4 [SB 1 a,SB 1 b],h):=BC
theorem AUK (o n:Nat):JC jA 79 [(0,.n 23),(3,.own o 0 n)]=some (.agg [.n 23,.n 0,.str ⟨#[]⟩,.own o 0 n]):=BC
structure Iw (h0 h H:Hp) (e:Ex) (l:List Rng) (b4 cb:Nat) (v:AV):Prop where
 ge:H[h0.length]?=some (qG 4 [AQ e])
 g4:H[b4]?=some (qG 4 [[.n 0,.n 0,.str ⟨#[]⟩,.sl .nil 0 []]])
 gc:H[cb]?=some (qG 4 [[.n 23,.n 0,.str ⟨#[]⟩,v]])
 ho:outG 4 ALD h (bZ e l) v H
 hx:ext h H
 ne:∀b,isB v b->b≠cb
theorem A7Q {cb:Nat}{v:AV}(a:H[cb]?=some (qG 4 [[.n 23,.n 0,.str ⟨#[]⟩,v]])):BO jA H 23 (.ptr cb 0 3)=some v:=by
 rw[BK LU a (row:=[.n 23,.n 0,.str ⟨#[]⟩,v]) rfl];rfl
theorem kY (e:Ex)(l:List Rng)(s:SM)(hl:l.length<=1048576)(h:Hp):PCall (En G) 309 [.agg (AQ e),.sl s 2 (l.map encR)] h (.agg (AQ (IU e l))):=by
 refine PCall.res (r:=.agg (insW e l)) ?_ (AXE e l);refine ACalls.pure (R:=fun v H=>ext h H/\FH h.length H 4 v=.agg (insW e l)) 4 ?_ (fun v H ⟨a,b⟩=>⟨a,b⟩);refine IK (H:=hint [8,31] []) (enM G) Tryz.func309 rfl (by kernel_rfl) (by kernel_rfl) (jB (by kernel_rfl)) ?_;show awp _ _ _ _ _ (ML _ [.cell 4 79] _);have P:=AU (x:=qG 4 [[.n 0,.n 0,.str ⟨#[]⟩,.sl .nil 0 []]]) (AZ h (qG 4 [AQ e]));have N:=AZ (h++[qG 4 [AQ e]]) (qG 4 [[.n 0,.n 0,.str ⟨#[]⟩,.sl .nil 0 []]]);have hx:ext h (h++[qG 4 [AQ e]]++[qG 4 [[.n 0,.n 0,.str ⟨#[]⟩,.sl .nil 0 []]]]):=((ext.rfl' h).app _).app _;have T:h.length<(h++[qG 4 [AQ e]]).length:=BA;refine A7 @bxE NY ?_
 generalize h++[qG 4 [AQ e]]++[qG 4 [[.n 0,.n 0,.str ⟨#[]⟩,.sl .nil 0 []]]]=H0 at P N hx|-
 generalize (h++[qG 4 [AQ e]]).length=b4 at N T|-
 have l4:=AX N;have hle:=hx.le;have a1:BO jA H0 79 (.ptr h.length 0 0)=some (.agg (AQ e)):=G5 P (EC e);have B:(H0++[qG 4 [AQ e]]++[qG 4 [[.n 0,.n 0,.str ⟨#[]⟩,.sl .nil 0 []]]])[(H0++[qG 4 [AQ e]]).length]?=some (qG 4 [[.n 0,.n 0,.str ⟨#[]⟩,.sl .nil 0 []]]):=AZ _ _;have a2:=OW (cs:=[.n 23,.n 0,.str ⟨#[]⟩,.own H0.length 0 1]) B rfl rfl rfl
 have A:Iw h H0 ((H0++[qG 4 [AQ e]]++[qG 4 [[.n 0,.n 0,.str ⟨#[]⟩,.sl .nil 0 []]]]).set (H0++[qG 4 [AQ e]]).length (qG 4 [[.n 23,.n 0,.str ⟨#[]⟩,.own H0.length 0 1]])) e (l.take 0) b4 (H0++[qG 4 [AQ e]]).length (.own H0.length 0 1) :=
  ⟨DF (AU (AU P)) NZ,DF (AU (AU N)) NZ,CJ B,
   .inr ⟨by rw[qA];exact List.cons_ne_nil _ _,H0.length,jF _,rfl,DF (AU (AZ _ _)) BA⟩,
   (((ext.rfl' H0).app _).app _).set BA _,fun b i=>by cases i;simp⟩
 refine H7 a1 @A0G @AUK NY a2 ?_
 generalize ((H0++[qG 4 [AQ e]]++[qG 4 [[.n 0,.n 0,.str ⟨#[]⟩,.sl .nil 0 []]]]).set (H0++[qG 4 [AQ e]]).length (qG 4 [[.n 23,.n 0,.str ⟨#[]⟩,.own H0.length 0 1]]))=H1 at A|-
 have V:H0.length<(H0++[qG 4 [AQ e]]).length:=BA
 generalize (H0++[qG 4 [AQ e]]).length=g at A V|-
 generalize AV.own H0.length 0 1=v0 at A
 refine BB (fun n F H=>∃k v,n+k=l.length/\F 1=.sl s 2 (l.map encR)/\F 4=.ptr b4 0 0/\F 5=.ptr g 0 0/\F 6=.n (k:Nat)/\Iw h H0 H e (l.take k) b4 g v) l.length
  ⟨0,v0,BA,AO,AO,AO,AO,A⟩ ?_
 clear A;rintro n F H ⟨k,v,hk,f1,f4,f5,f6,I⟩;refine A7 f1 f6 ?_;refine DX ?_ ?_<;>intro j
 .have E:(bZ e (l.take k)).length+2<=8388608:=by
   unfold bZ;rw[zF,AED,List.length_take];omega
  obtain⟨p,M,ha,d,c,X,a3,a0⟩:=MB .full I.ho NJ GZ QA P9 U (ys:=[.inr l[k].lo,.inr l[k].hi]) E I.hx;have S:EH jA true H 23 23 v (.sl .full 4 [SB 1 l[k].lo,SB 1 l[k].hi])=some (p,M):=ha
  have hits:bZ e (l.take k)++[.inr l[k].lo,.inr l[k].hi]=bZ e (l.take (k+1)):=by
   unfold bZ;rw[AOD j];rfl
  rw[hits] at d;have a4:=AX I.gc;have C:=c _ _ I.gc (fun q=>I.ne _ q rfl);have L:∀b,isB v b->H0.length<=b:=fun b i=>(I.ho.lt i).1
  have Q:=c _ _ I.ge (fun q=>by have:=L _ q;omega);have O:=c _ _ I.g4 (fun q=>by have:=L _ q;omega);have J:=d.leaf
  have Z:D8 jA M 23 (.ptr g 0 3) p=some (M.set g (qG 4 [[.n 23,.n 0,.str ⟨#[]⟩,p]])):=by
   rcases d with⟨e1,_⟩|⟨_,o,_,rfl,_⟩
   .exact absurd e1 (List.cons_ne_nil _ _)
   .rw[JU (cs:=[.own o 0 _]) rfl (BC:szO jA 23=some 1) C BA];rfl
  have f:∀b,isB p b->b≠g:=fun b i=>by
   rcases a0 b i with q|q
   .exact I.ne b q
   .omega
  have I2:Iw h H0 (M.set g (qG 4 [[.n 23,.n 0,.str ⟨#[]⟩,p]])) e (l.take (k+1)) b4 g p :=
   ⟨DF Q U,DF O U,CJ C,d.keep (fun b i=>by rw[List.getElem?_set_ne (fun q=>f b i q.symm)]),X.set U _,f⟩
  refine AB ?_;refine DR BC ?_;simp only[vQ,List.contains_cons,List.contains_nil,Nat.reduceBEq,Bool.or_false,Bool.or_true,QK,XN,JF,QZ,JE,CQ,NS,↓reduceIte,jC,Nat.reduceAdd,Nat.add_zero,enP,UG,VI,QI,QH,jQ,f1,f5,f6,A7Q I.gc,CP j,BR ag3 j,VC,TY,rS,AYM,S,Z,C9 k];exact⟨n-1,U,k+1,p,U,AC,AC,AC,AC,I2⟩
 .rw[jK U] at I
  have J:=I.ho.leaf;have K:([.n 23,.n 0,.str ⟨#[]⟩,v]:List AV).all AV.leaf=true:=by simp [J];exact⟨rfl,rfl,rfl⟩
  refine EG f4 f5 (G5 I.gc rfl) (OW I.g4 rfl rfl K) ?_;rw[IM (b:=b4) (D7 f4) (G5 (CJ I.g4) rfl)];refine⟨(hx.trans I.hx).set U _,?_⟩;have Y:=I.ho.setB (b:=b4) l4 (qG 4 [[.n 23,.n 0,.str ⟨#[]⟩,v]]);have hz:=LP A4M Y h.length 1 U;show AV.agg [.n 23,.n 0,.str ⟨#[]⟩,FH h.length _ 3 v]=.agg (insW e l);rw[hz];rfl
end Go.Proofs.YtiihpnicbekebaaGreatDoor.Ho
namespace Go.Proofs.YtiihpnicbekebaaGreatDoor.Bins
open Sm
variable {ys:List Rng} {h:Hp} (G:Nat->AV )
def full (r:Rng):Bool:=decide (r.lo<=r.hi)
def glue (t r:Rng):Bool:=decide (r.lo<=t.hi)||decide (IntKind.i64.wrap (r.lo-1)=t.hi)
def join (out:List Rng)(r:Rng):List Rng:=match out.getLast? with
 | some t=>if glue t r then out.dropLast++[⟨t.lo,max t.hi r.hi⟩] else out++[r]
 | none=>out++[r]
def aV (xs:List Rng):List Rng:=xs.foldl join []
def iU (a b:Rng):Bool:=decide (a.lo<=b.lo)
def normal (xs:List Rng):List Rng:=aV ((xs.filter full).mergeSort iU)
theorem AOC {out:List Rng}{a b:Rng}(h:a.lo=b.lo)(l:full a=true)(p:full b=true):join (join out a) b=join (join out b) a:=by
 simp only[full,decide_eq_true_eq] at l p
 have key:∀(c:List Rng) (t r s:Rng),glue t s=true->(join (c++[t]) s)=c++[⟨t.lo,max t.hi s.hi⟩]:=by
  intro c t r s f;simp [join,f]
 cases j:out.getLast? with
 | none =>
   have:out=[]:=BL j;subst this;have g:join [] a=[]++[a]:=rfl;have i:join [] b=[]++[b]:=rfl;rw[g,i,key [] a a b (by simp [glue];omega),key [] b b a (by simp [glue];omega)];simp [h,Int.max_comm]
 | some t =>
   obtain⟨c,rfl⟩:∃c,out=c++[t]:=by
    have:=List.getLast?_eq_some_iff.1 j;exact this
   have f:glue t a=glue t b:=by unfold glue;rw[h]
   cases e:glue t a with
   | true =>
     have d:glue t b=true:=by rw[<-f];exact e
     rw[key c t a a e,key c t b b d,key c _ a b (by simp [glue];omega),key c _ b a (by simp [glue];omega)];simp only[Int.max_assoc,Int.max_comm a.hi b.hi]
   | false =>
     have d:glue t b=false:=by rw[<-f];exact e
     have g:join (c++[t]) a=(c++[t])++[a]:=by simp [join,e]
     have i:join (c++[t]) b=(c++[t])++[b]:=by simp [join,d]
     rw[g,i,key (c++[t]) a a b (by simp [glue];omega),key (c++[t]) b b a (by simp [glue];omega)];simp [h,Int.max_comm]
theorem A3J {a:Rng}(d:full a=true):∀(pre:List Rng) (c out:List Rng),(∀x∈pre,x.lo=a.lo/\full x=true)->(pre++a::c).foldl join out=(a::(pre++c)).foldl join out
 | [],c,out,_=>rfl
 | p::pre,c,out,h=>by
   have e:=h p BA;have f:=A3J d pre c (join out p) (fun x g=>h x (by simp [g]))
   simp only[zG,qU] at f|-
   rw[f,AOC e.1 e.2 d]
theorem vF:∀(xs ys:List Rng) (out:List Rng),xs.Perm ys->xs.Pairwise (fun a b=>a.lo<=b.lo)->ys.Pairwise (fun a b=>a.lo<=b.lo)->(∀x∈xs,full x=true)->xs.foldl join out=ys.foldl join out
 | [],ys,out,f,_,_,_=>by rw[List.nil_perm.1 f]
 | a::xs,ys,out,f,q,A,j=>by
   have e:a∈ys:=f.subset BA;obtain⟨pre,c,rfl⟩:=List.append_of_mem e
   have g:∀x∈pre,x.lo=a.lo/\full x=true:=by
    intro x i;have p:x.lo<=a.lo:=(List.pairwise_append.1 A).2.2 x i a BA;have d:x∈a::xs:=f.symm.subset (by simp [i])
    have B:a.lo<=x.lo:=by
     rcases List.mem_cons.1 d with rfl|d
     .exact Int.le_refl _
     .exact(List.pairwise_cons.1 q).1 x d
    exact⟨U,j x d⟩
   rw[A3J (j a BA) pre c out g];simp only[qU];have l:xs.Perm (pre++c):=(List.perm_cons a).1 (f.trans (List.perm_middle));refine vF xs (pre++c) _ l (List.pairwise_cons.1 q).2 ?_ (fun x h=>j x (by simp [h]));have:=List.pairwise_append.1 A;rw[List.pairwise_append];exact⟨this.1,(List.pairwise_cons.1 this.2.1).2,fun x p y d=>this.2.2 x p y (by simp [d])⟩
theorem uT {xs:List Rng}(d:ys.Perm (xs.filter full))(e:ys.Pairwise (fun a b=>a.lo<=b.lo)):aV ys=normal xs:=by
 unfold normal aV;refine vF _ _ _ (d.trans (List.mergeSort_perm _ _).symm) e ?_ (fun x f=>by have:=d.subset f;simp at this;exact this.2);have:=List.pairwise_mergeSort (le:=iU) (fun a b c g i=>by simp [iU] at *;omega) (fun a b=>by simp [iU];omega) (xs.filter full);exact this.imp (by simp [iU])
theorem row_map {α:Type}{f:α->List AV}{xs:List α}{k:Nat}(h:k<xs.length):(xs.map f)[k]?=some (f xs[k]):=by simp [h]
theorem kQ {row cs:List AV}(h:row.length=cs.length):splice row 0 cs=cs:=by simp [splice,h]
theorem tK (G:Nat->AV)(xs:List Rng)(b:Nat)(e:FuncId)(a:List AV)(p:Rng->Bool)(h:Hp)(I:xs.length<=1099511627776)(f:h[b]?=some (qG 2 (xs.map encR)))
  (C:∀r,PCall (En G) e (.agg (encR r)::a) h (.bool (p r))) :
  PCall (En G) 326 [.own b 0 xs.length,.fn (.func e) [] a] h (.n (match xs.findIdx? p with|some i=>(i:Int)|none => -1)):=by
 refine acT Tryz.func326 4 ?_;refine AB ?_;refine BB (fun n F H=>∃k,n+k=xs.length/\F 0=.own b 0 xs.length/\F 1=.fn (.func e) [] a/\F 7=.n xs.length/\F 8=.n (k:Nat)/\H=h/\(xs.take k).all (fun r => !p r)=true) xs.length ⟨0,BA,rfl,rfl,rfl,rfl,rfl,rfl⟩ ?_;rintro n F H ⟨k,hk,g,l,q,A,rfl,c⟩;refine EG g l q A ?_;refine DX ?_ ?_<;>intro d
 .have B:BO jA H 145 (.ptr b k 0)=some (.agg (encR xs[k])):=by
   rw[EN Z8 J8 f (row_map d) (by simp [encR])];rfl
  simp only[vQ,CQ,List.nil_append,zG,↓reduceIte,jC,enP,VI,g,l,q,A,GN f d,B];refine(C _).uu ?_;refine BH ?_ ?_<;>intro f
  .refine AB ?_
   refine⟨?_,trivial⟩
   rw[wR.2 ⟨d,f,fun j E=>by
    rw[zJ] at c;have:=c xs[j] (by rw[List.mem_take_iff_getElem];exact⟨j,U,rfl⟩)
    simpa using this⟩]
  .refine A7 A (C9 k) ?_
   refine⟨n-1,U,k+1,U,g,l,q,rfl,trivial,?_⟩;rw[jV d,List.all_append,c];simp only[List.all_cons,List.all_nil,f];rfl
 .refine AB ?_
  refine⟨?_,trivial⟩;rw[jK U] at c;rw[wU.2 (BL c)]
theorem AFD (r:Rng)(h:Hp):PCall (En G) 295 [.agg (encR r)] h (.bool (!full r)):=by
 refine ACalls.pure0 rfl ?_;refine acT Tryz.func295 2 ?_;refine LC @bxR @VC @TY ?_;refine⟨?_,_,rfl⟩;congr 1;unfold full;rw[Bool.eq_iff_iff];simp
theorem AIW (G:Nat->AV)(xs:List Rng)(b:Nat)(d:FuncId)(p:Rng->Bool)(Q h:Hp)(hl:xs.length<=1099511627776)(he:ext Q h)(C:Q.length<=b)(Y:h[b]?=some (qG 2 (xs.map encR)))
  (hf:∀r H,PCall (En G) d [.agg (encR r)] H (.bool (p r))) :
  ACalls (En G) 293 [.own b 0 xs.length,.fn (.func d) [] []] h fun v H=>v=.own b 0 (xs.filter fun r => !p r).length/\ext Q H/\∃O,H[b]?=some (qG 2 ((xs.filter fun r => !p r).map encR++O)):=by
 refine acT Tryz.func293 4 ?_;refine AB ?_;refine(tK G xs b d [] p h hl Y (fun r=>hf r h)).uu ?_
 cases hi:xs.findIdx? p with
 | none =>
   refine AB ?_;refine BH ?_ ?_<;>intro Z
   .refine AB ?_
    have:xs.filter (fun r => !p r)=xs:=by
     rw[wU] at hi;rw[List.filter_eq_self];intro x S;simp [hi x S]
    rw[this];exact⟨rfl,he,[],BL Y⟩
   .simp at Z
 | some T =>
   refine AB ?_;obtain⟨a1,a2,a3⟩:=wR.1 hi;refine BH ?_ ?_<;>intro Z
   .simp at Z
   refine AY (C9 T) ?_;refine BB (fun n F H=>∃i j a,n+j=xs.length/\i<j/\F 0=.own b 0 xs.length/\F 1=.fn (.func d) [] []/\F 5=.n (i:Nat)/\F 6=.n (j:Nat)/\ext Q H/\H[b]?=some (qG 2 (a.map encR))/\a.length=xs.length/\a.take i=(xs.take j).filter (fun r => !p r)/\a.drop j=xs.drop j) (xs.length-(T+1)) ⟨T,T+1,xs,U,U,AO,AO,AO,AO,he,Y,rfl,?_,rfl⟩ ?_
   .rw[jV a1,List.filter_append]
    simp [a2];refine(List.filter_eq_self.2 ?_).symm;intro x S;rw[List.mem_take_iff_getElem] at S;obtain⟨j,hj,rfl⟩:=S;have:=a3 j U;simpa using this
   rintro n F H ⟨i,j,a,hn,a8,B,V,X,P,hex,q,N,A,M⟩;refine A7 B P ?_;refine DX ?_ ?_<;>intro f
   .have E:j<a.length:=U
    have e0:a[j]=xs[j]:=by
     have h1:(a.drop j)[0]?=(xs.drop j)[0]? := by rw[M]
     rw[List.getElem?_drop,List.getElem?_drop,jT,jO E,jO f] at h1;exact Option.some.inj h1
    have e1:BO jA H 145 (.ptr b j 0)=some (.agg (encR xs[j])):=by
     rw[EN Z8 J8 q (row_map E) (by simp [encR]),e0];rfl
    have ld:BO jA (H++[qG 2 [encR xs[j]]]) 145 (.ptr (qL H) 0 0)=some (.agg (encR xs[j])):=aT Z8 J8 (by simp [encR]);simp only[vQ,CQ,List.append_nil,↓reduceIte,jC,enP,VI,jQ,B,V,P,GN q f,e1,AJJ,AG5 _ _ [.n 0,.n 0] rfl,ld];refine(hf _ _).uu ?_
    have L:(xs.take (j+1)).filter (fun r => !p r)=(xs.take j).filter (fun r => !p r)++(if p xs[j] then [] else [xs[j]]):=by
     rw[jV f,List.filter_append];cases R:p xs[j]<;>simp [R]
    have e:(H++[qG 2 [encR xs[j]]])[b]?=some (qG 2 (a.map encR)):=AU q
    have c:a.drop (j+1)=xs.drop (j+1):=by
     have:=congrArg (List.drop 1) M;simpa [Nat.add_comm] using this
    refine BH ?_ ?_<;>intro R
    .have g:p xs[j]=false:=BL R
     have J:i<a.length:=U;have a4:i<xs.length:=U
     have st:D8 jA (H++[qG 2 [encR xs[j]]]) 145 (.ptr b i 0) (.agg (encR xs[j]))=some ((H++[qG 2 [encR xs[j]]]).set b (qG 2 ((a.set i xs[j]).map encR))):=by
      rw[IJ (cs:=encR xs[j]) rfl J8 e (row_map J) (by simp [encR]),kQ (by simp [encR]),List.map_set]
     simp only[vQ,CQ,↓reduceIte,jC,enP,VI,jQ,B,X,ld,GN e a4,st,C9 i,P,C9 j];refine⟨n-1,U,i+1,j+1,a.set i xs[j],U,U,trivial,V,rfl,rfl,(hex.app _).set C _,CJ e,BL N,?_,?_⟩
     .rw[L,g,<-A,jV (BL J),List.take_set,List.set_eq_of_length_le NZ]
      simp
     .rw[List.drop_set_of_lt U];exact c
    .have g:p xs[j]=true:=BL R
     refine A7 P (C9 j) ?_;refine⟨n-1,U,i,j+1,a,U,U,B,V,X,rfl,hex.app _,e,N,?_,c⟩;rw[L,g,A];simp
   .have aa:j=xs.length:=U
    have I:(xs.filter fun r => !p r)=a.take i:=by
     rw[A,jK U]
    have a9:i<=a.length:=U;have K:(xs.filter fun r => !p r).length=i:=by rw[I];simp;omega
    have a5:IP jA H 84 (.own b 0 xs.length) (some (.n (i:Int))) none none=some (.own b i (xs.length-i)):=by
     have:=ADQ WB J8 (kk:=.i64) (off:=0) (len:=xs.length) (l:=i) q U;rw[jG] at this;exact this
    have a0:kI jA H 84 (.own b i (xs.length-i))=some (IB,H.set b (qG 2 (Sm.rowsSet (a.map encR) i (zK (xs.length-i) [.n 0,.n 0])))):=by
     have a7:OV jA 145=some [.n 0,.n 0]:=BC;simp only[kI,WB,a7,q];rw[if_pos];refine⟨rfl,?_⟩;simp;omega
    have a6:IP jA (H.set b (qG 2 (Sm.rowsSet (a.map encR) i (zK (xs.length-i) [.n 0,.n 0])))) 84 (.own b 0 xs.length) none (some (.n (i:Int))) none=some (.own b 0 i):=AQ9 WB J8 (CJ q) U;refine KO @AVM B X a5 a0 a6 ?_;refine⟨by rw[K],hex.set C _,?_⟩;rw[CJ q,I];refine⟨zK (xs.length-i) [.n 0,.n 0]++(a.map encR).drop (i+(xs.length-i)),?_⟩;simp [Sm.rowsSet,List.map_take]
theorem AYG (xs:List Rng)(m:SM)(h:Hp)(e:xs.length<=16777216):
  ACalls (En G) 294 [.sl m 2 (xs.map encR)] h (A2E 2 (xs.map encR) h):=by
 refine ACalls.of_rep (cok _ _ BC) fun⟨g,cargs,ha⟩=>?_
 refine acT Tryz.func294 2 ?_;refine AY A3Q ?_;refine BH ?_ ?_<;>intro d
 .have f:m=.nil:=BL d
  subst f;refine AY @decide_true ?_;exact .inl ⟨AHX ha (i:=0) rfl,⟨_,rfl⟩,rfl⟩
 .refine AY @AT5 ?_
  rcases Classical.em (xs=[]) with a|a
  .subst a
   simp only[vQ,CQ,↓reduceIte,AGE WB J8 (.inr rfl)];exact .inr (.inl ⟨rfl,rfl,rfl⟩)
  .have j:room (([]:List (List AV)).length+(xs.map encR).length) 16:=I5 (BL e) U
   have c:xs.map encR≠[]:=BL a;refine AY (ZZ WB J8 xX ABH (H6 h m 2 (xs.map encR)) c j) ?_;exact .inr (.inr ⟨BL a,BA,BA⟩)
theorem oY (m:SM)(k:Nat)(d:AV)(h:Hp):PCall (En G) 326 [.sl m k [],d] h (.n (-1)):=by
 refine acT Tryz.func326 4 ?_;refine P6 ?_;refine BB (fun n F H=>F 7=.n ((0:Nat):Int)/\F 8=.n 0/\H=h) 0 ⟨rfl,rfl,rfl⟩ ?_;rintro n F H ⟨a,c,rfl⟩;refine A7 a c ?_;refine BH ?_ ?_<;>intro e
 .simp at e
 .refine AB ?_
  exact G7
theorem lE (m:SM)(k:Nat)(a:AV)(h:Hp):PCall (En G) 293 [.sl m k [],a] h (.sl m k []):=by
 refine acT Tryz.func293 4 ?_;refine AB ?_;refine(oY G m k a h).uu ?_;refine BH ?_ ?_<;>intro c
 .refine AB ?_
  exact G7
 .simp at c
structure SortOk (G:Nat->AV):Prop where
 own:∀(xs:List Rng) (b:Nat) (tail:List (List AV)) (h0 h:Hp),xs.length<=16777216->ext h0 h->h0.length<=b->h[b]?=some (qG 2 (xs.map encR++tail)) ->
  ACalls (En G) 296 [.own b 0 xs.length,.fn (.func 297) [] []] h fun _ H=>ext h0 H/\∃ys:List Rng,ys.Perm xs/\ys.Pairwise (fun a b=>a.lo<=b.lo)/\H[b]?=some (qG 2 (ys.map encR++tail))
 none:∀(m:SM) (k:Nat) (h:Hp),PCall (En G) 296 [.sl m k [],.fn (.func 297) [] []] h (.tup [])
def nm (ys:List Rng):SM:=if ys=[] then .nil else .any
def ANT (h:Hp)(out:List Rng)(b:Nat)(v:AV)(H:Hp):Prop :=
 (out=[]/\v=.sl .nil 0 [])\/(out≠[]/\∃o,h.length<=o/\o≠b/\v=.own o 0 out.length/\H[o]?=some (qG 2 (out.map encR)))
theorem ABJ (h:Hp)(r:Rng):DJ jA false h 84 1 [(0,.agg (encR r))]=some (.sl .full 2 [encR r],h):=BC
def srcR (h:Hp)(ys:List Rng)(b:Nat)(v:AV)(H:Hp):Prop :=
 (ys=[]/\∃m k,v=.sl m k [])\/(h.length<=b/\v=.own b 0 ys.length/\∃a,H[b]?=some (qG 2 (ys.map encR++a)))
theorem ASA (out:List Rng)(r:Rng):(join out r).length<=out.length+1:=by
 unfold join;split
 .split
  .simp
  .simp
 .simp
theorem aU:∀(xs out:List Rng),(xs.foldl join out).length<=out.length+xs.length
 | [],out=>BA
 | x::xs,out=>by
   have a:=aU xs (join out x);have c:=ASA out x;simp only[qU,List.length_cons];omega
theorem srcR.app {b:Nat}{v:AV}{H:Hp}(f:srcR h ys b v H)(x:ABlk):srcR h ys b v (H++[x]):=by
 rcases f with c|⟨c,d,a,e⟩
 .exact .inl c
 .exact .inr ⟨c,d,a,AU e⟩
theorem srcR.set {h:Hp}{ys:List Rng}{b o:Nat}{v:AV}{H:Hp}(g:srcR h ys b v H)(x:ABlk)(f:o≠b):srcR h ys b v (H.set o x):=by
 rcases g with c|⟨c,d,a,e⟩
 .exact .inl c
 .exact .inr ⟨c,d,a,DF e f.symm⟩
theorem AAB (hS:SortOk G)(xs:List Rng)(m:SM)(h:Hp)(hl:xs.length<=8388608):
  ACalls (En G) 245 [.sl m 2 (xs.map encR)] h fun v H=>ext h H/\∃b,ANT h (normal xs) b v H:=by
 refine acT Tryz.func245 2 ?_;refine AB ?_;refine(AYG G xs m h U).mono fun vv H' a4=>?_
 have a5:(xs.filter full).length<=xs.length:=List.length_filter_le _ _;refine AMT (fun F H=>ext h H/\((xs.filter full=[]/\∃m k,F 3=.sl m k [])\/∃b,h.length<=b/\F 3=.own b 0 (xs.filter full).length/\∃d,H[b]?=some (qG 2 ((xs.filter full).map encR++d)))) ?_ ?_
 .rcases a4 with⟨hx,⟨k0,rfl⟩,rfl⟩|⟨hx,rfl,rfl⟩|⟨hx,rfl,rfl⟩
  .have N:xs=[]:=BL hx
   refine AB ?_;refine(lE G _ _ _ _).uu ?_;exact⟨ext.rfl' _,.inl ⟨by rw[N];rfl,_,_,rfl⟩⟩
  .have N:xs=[]:=BL hx
   refine AB ?_;refine(lE G _ _ _ _).uu ?_;exact⟨ext.rfl' _,.inl ⟨by rw[N];rfl,_,_,rfl⟩⟩
  .refine AB ?_
   refine(AIW G xs h.length 295 (fun r => !full r) h (h++[qG 2 (xs.map encR)]) U ⟨_,rfl⟩ (jF _) (AZ _ _) (fun r H=>AFD G r H)).mono ?_;rintro v H ⟨rfl,hex,d,A⟩;refine AB ?_;have e:(xs.filter fun r => !!full r)=xs.filter full:=BA
   rw[e] at A|-
   exact⟨hex,.inr ⟨h.length,jF _,rfl,d,A⟩⟩
 rintro F H ⟨hex,I⟩;rw[BU,BX];refine ABO (fun F H=>ext h H/\∃ys:List Rng,ys.Perm (xs.filter full)/\ys.Pairwise (fun a b=>a.lo<=b.lo)/\∃b,srcR h ys b (F 3) H) (fun _ _=>False) ?_ ?_ (fun _ _ hh=>hh.elim)
 .rcases I with⟨hz,m0,k0,S⟩|⟨b,hb,S,d,A⟩
  .refine AY S ?_
   refine(hS.none m0 k0 H).uu ?_;exact⟨hex,[],by rw[hz],.nil,0,.inl ⟨rfl,m0,k0,S⟩⟩
  .refine AY S ?_
   refine(hS.own (xs.filter full) b d h H U hex hb A).mono ?_;rintro v H' ⟨T,ys,Y,hs,hy⟩;refine AB ?_;refine⟨T,ys,Y,hs,b,.inr ⟨hb,?_,d,hy⟩⟩;rw[Y.length_eq];exact S
 rintro F H ⟨hex,ys,Y,hs,b,f⟩;have a7:ys.length<=8388608:=by rw[Y.length_eq];omega
 have hN:aV ys=normal xs:=uT Y hs;generalize Z:F 3=sv at f
 have V:KA jA 84 sv=some (.n ys.length):=by
  rcases f with⟨rfl,m0,k0,rfl⟩|⟨_,rfl,_⟩
  .exact ZJ.1 _ _ _
  .exact ZJ.2 _ _ _
 refine A7 Z @V ?_;refine BB (fun n F H=>∃k,n+k=ys.length/\F 13=sv/\F 14=.n ys.length/\F 15=.n (k:Nat)/\ext h H/\srcR h ys b sv H/\ANT h ((ys.take k).foldl join []) b (F 4) H) ys.length ⟨0,BA,AO,AO,AO,hex,f,.inl ⟨rfl,AO⟩⟩ ?_;clear hex f Z;rintro n F H ⟨k,hk,f13,f14,f15,hex,f,g⟩;refine A7 f14 f15 ?_;refine DX ?_ ?_<;>intro p
 .have B:(ys.take (k+1)).foldl join []=join ((ys.take k).foldl join []) ys[k]:=by
   rw[jV p,List.foldl_append];rfl
  have E:((ys.take k).foldl join []).length<=8388608:=by
   have:=aU (ys.take k) [];simp at this;omega
  generalize (ys.take k).foldl join []=out at g B E;have l:=f;rcases f with⟨rfl,_⟩|⟨hb,rfl,d,A⟩
  .simp at p
  have e1:BO jA H 145 (.ptr b k 0)=some (.agg (encR ys[k])):=by
   rw[EN Z8 J8 A (row:=encR ys[k]) (by rw[List.getElem?_append_left (by simpa using p)];exact row_map p) (by simp [encR])];rfl
  have a6:(H++[qG 2 [encR ys[k]]])[b]?=some (qG 2 (ys.map encR++d)):=AU A;have ld:BO jA (H++[qG 2 [encR ys[k]]]) 145 (.ptr (qL H) 0 0)=some (.agg (encR ys[k])):=aT Z8 J8 (by simp [encR]);rcases g with⟨rfl,q⟩|⟨X,o,L,M,q,ho⟩
  .have Q:decide ((IntKind.i64.wrap (((0:Nat):Int)-1))≥0)=false:=by rw[wrap_i64 U U];simp
   simp only[vQ,CQ,MR,↓reduceIte,jC,enP,VI,ZJ,jQ,f13,f15,GN A p,e1,AJJ,AG5 _ _ [.n 0,.n 0] rfl,q,List.length_nil];refine DR BC ?_;have h1:([encR ys[k]]:List (List AV))≠[]:=BA;simp only[vQ,JA,KP,xV,AU7,Q3,EP,CQ,GI,↓reduceIte,jC,jP,enP,Q,ld,q,ABJ,UU WB J8 xX ABH (H6 (H++[qG 2 [encR ys[k]]]) .full 2 [encR ys[k]]) h1 (I5 BA U),f15,C9 k];refine⟨n-1,U,k+1,U,f13,f14,rfl,(hex.app _).app _,(l.app _).app _,?_⟩;rw[B];have a2:=AX A;exact .inr ⟨by simp [join],_,by simp;have:=hex.le;omega,by simp;omega,rfl,by simp [join]⟩
  .obtain⟨c,t,rfl⟩:∃c t,out=c++[t]:=⟨out.dropLast,out.getLast X,(List.dropLast_concat_getLast X).symm⟩
   have hol:=AX ho;have a2:=AX A
   have K:(IntKind.i64.wrap (((c++[t]).length:Int)-1))=((c.length:Nat):Int):=by
    rw[wrap_i64 U U];simp
   have R:decide (((c.length:Nat):Int)≥0)=true:=BA;have i:(H++[qG 2 [encR ys[k]]])[o]?=some (qG 2 ((c++[t]).map encR)):=AU ho;have J:c.length<(c++[t]).length:=BA;have C:((c++[t]).map encR)[c.length]?=some (encR t):=BA;have O:BO jA (H++[qG 2 [encR ys[k]]]) 3 (.ptr o c.length 1)=some (.n t.hi):=by rw[BK ag3 i C];rfl
   simp only[vQ,CQ,MR,↓reduceIte,jC,enP,VI,ZJ,jQ,f13,f15,GN A p,e1,AJJ,AG5 _ _ [.n 0,.n 0] rfl,q,K];refine DR BC ?_;simp only[vQ,JA,KP,aB,EP,bG,↓reduceIte,jC,jP,enP,VI,QI,QH,R,EI ag3,VC,TY,q,GN i J,O];refine AU8 (fun F H'=>F 44=.bool (glue t ys[k])/\F 13=.own b 0 ys.length/\F 14=.n ys.length/\F 15=.n (k:Nat)/\F 4=.own o 0 (c++[t]).length/\F 6=.ptr H.length 0 0/\F 7=.n (c.length:Nat)/\H'=H++[qG 2 [encR ys[k]]]) ?_ ?_
   .refine lO ?_ ?_<;>intro ha
    .refine H7 ha q f13 f14 f15 ?_
     exact⟨by unfold glue;rw[ha];rfl,trivial,trivial,trivial,trivial,trivial,trivial,trivial⟩
    .simp only[vQ,JA,KP,aB,YQ,Q3,EP,MR,↓reduceIte,jC,jP,enP,VI,QI,QH,ha,EI ag3,VC,TY,q,f13,f14,f15,GN i J,O]
     exact⟨by unfold glue;rw[ha];rfl,trivial,trivial,trivial,trivial,trivial,trivial,trivial⟩
   clear f13 f14 f15 q;rintro F H' ⟨a0,f13,f14,f15,q,f6,f7,rfl⟩;refine AY a0 ?_;refine BH ?_ ?_<;>intro hg
   .have st:∀v:Int,D8 jA (H++[qG 2 [encR ys[k]]]) 3 (.ptr o c.length 1) (.n v)=some ((H++[qG 2 [encR ys[k]]]).set o (qG 2 ((c++[Rng.mk t.lo v]).map encR))):=by
     intro v;have h2:=IJ (P:=jA) (t:=3) (j:=1) (v:=.n v) (cs:=[.n v]) rfl sz3 i C (by simp [encR]);have h3:((c++[t]).map encR).set c.length (splice (encR t) 1 [.n v])=(c++[Rng.mk t.lo v]).map encR:=by simp [encR,splice]
     rw[h2,h3]
    refine AB ?_;refine DR BC ?_;simp only[vQ,QK,QZ,JE,RP,cM,VF,CQ,AB1,oL,↓reduceIte,jC,jP,enP,VI,QH,jQ,q,f6,f7,GN i J,O,EI ag3,TY,st,f15,C9 k];refine⟨n-1,U,k+1,U,f13,f14,rfl,(hex.app _).set L _,(l.app _).set _ M,?_⟩;rw[B];have hj:join (c++[t]) ys[k]=c++[⟨t.lo,max t.hi ys[k].hi⟩]:=by simp [join,hg]
    rw[hj];exact .inr ⟨BA,o,L,M,BA,CJ i⟩
   .have h1:([encR ys[k]]:List (List AV))≠[]:=BA
    have a3:JJ (H++[qG 2 [encR ys[k]]]) (.own o 0 (c++[t]).length)=some (2,(c++[t]).map encR):=by
     rw[JK i BA,zI,jK BA]
    refine KZ ld q f6 @ABJ (TM WB J8 xX ABH a3 (H6 (H++[qG 2 [encR ys[k]]]) .full 2 [encR ys[k]]) h1 (I5 (by simp at E|-;omega) U)) f15 (C9 k) ?_;refine⟨n-1,U,k+1,U,f13,f14,rfl,((hex.app _).set L _).app _,((l.app _).set _ M).app _,?_⟩;rw[B];have hj:join (c++[t]) ys[k]=(c++[t])++[ys[k]]:=by simp [join,hg]
    rw[hj];exact .inr ⟨BA,(H++[qG 2 [encR ys[k]]]).length,by simp;have:=hex.le;omega,by simp;omega,BA,BA⟩
 .have:k=ys.length:=U
  subst this;rw[List.take_length] at g;have a1:ys.foldl join []=normal xs:=hN;rw[a1] at g;refine AB ?_;exact⟨hex,b,g⟩
theorem frz_rows (n:Nat)(h:Hp)(d:Nat)(xs:List Rng):(xs.map encR).map (·.map (FH n h (d+1)))=xs.map encR:=by
 rw[List.map_map];congr 1
theorem frzF_own (n:Nat)(h:Hp)(d b off len k:Nat)(xs:List (List AV))(c:¬b<n)(a:h[b]?=some (qG k xs)):FH n h (d+1) (.own b off len)=if off+len<=xs.length/\(((xs.drop off).take len).map (·.map (FH n h d))).all (·.all AV.leaf)=true then .sl .any k (((xs.drop off).take len).map (·.map (FH n h d))) else .junk:=by
 rw[FH];simp only[c,if_false,a]
theorem frz_own {n d:Nat}{o:Nat}{xs:List Rng}(e:n<=o)(a:h[o]?=some (qG 2 (xs.map encR))):FH n h (d+2) (.own o 0 xs.length)=.sl .any 2 (xs.map encR):=by
 rw[frzF_own n h (d+1) o 0 xs.length 2 _ U a,zI,jK BA,frz_rows n h d xs];rw[if_pos];refine⟨BA,?_⟩;rw[zJ];intro row c;obtain⟨x,_,rfl⟩:=List.mem_map.1 c;rfl
theorem uR {G:Nat->AV}{f:FuncId}{args:List AV}(l:ACalls (En G) f args h fun v H=>ext h H/\∃b,ANT h ys b v H):PCall (En G) f args h (.sl (nm ys) 2 (ys.map encR)):=by
 have j:PCall (En G) f args h (if ys=[] then AV.sl .nil 0 [] else .sl .any 2 (ys.map encR)):=by
  refine ACalls.pure 2 l ?_;rintro v H ⟨hex,b,a⟩;refine⟨hex,?_⟩;rcases a with⟨rfl,rfl⟩|⟨c,o,d,_,rfl,p⟩
  .rfl
  .rw[if_neg c];exact frz_own d p
 refine ACalls.conv j ?_;rintro v H ⟨rfl,rfl⟩;refine⟨_,⟨rfl,rfl⟩,?_⟩;intro g q e;unfold nm;split at e
 .rename_i i;subst i;exact AD2 e
 .rename_i i;rw[if_neg i];exact e
theorem ADZ (a:SortOk G)(xs:List Rng)(m:SM)(h:Hp)(c:xs.length<=8388608):PCall (En G) 245 [.sl m 2 (xs.map encR)] h (.sl (nm (normal xs)) 2 ((normal xs).map encR)) :=
 uR (AAB G a xs m h c)
end Go.Proofs.YtiihpnicbekebaaGreatDoor.Bins
namespace Go.Proofs.YtiihpnicbekebaaGreatDoor.Bins
open Sm Go.Shelf Go.RowKit Go.Lib Go.Sort
variable (G:Nat->AV )
def AM2:Go.Shelf.Ren:=⟨fun|6=>296|15=>328|14=>327|28=>367|29=>368|20=>359|21=>360|22=>361|23=>362|24=>363|25=>364|26=>365|27=>366|46=>400|47=>401|48=>402|49=>403|50=>404|57=>414|n=>n,fun|22=>84|24=>145|25=>326|3=>3|39=>344|0=>0|53=>364|55=>366|4=>4|46=>358|45=>357|50=>135|5=>5|9=>9|66=>379|70=>281|76=>388|77=>389|n=>n,fun|n=>n⟩
theorem AQO:Go.Proofs.SlLaysF0.n6 jA AM2 := {
 mixed:=BC,
 f6:=⟨Tryz.f296.name,by decide,Tryz.func296.trans (congrArg some BC)⟩,
 f14:=⟨Tryz.f327.name,by decide,Tryz.func327.trans (congrArg some BC)⟩,
 f15:=Tryz.func328.trans (congrArg some BC),
 f20:=⟨Tryz.f359.name,by decide,Tryz.func359.trans (congrArg some BC)⟩,
 f21:=⟨Tryz.f360.name,by decide,Tryz.func360.trans (congrArg some BC)⟩,
 f22:=⟨Tryz.f361.name,by decide,Tryz.func361.trans (congrArg some BC)⟩,
 f23:=⟨Tryz.f362.name,by decide,Tryz.func362.trans (congrArg some BC)⟩,
 f24:=⟨Tryz.f363.name,by decide,Tryz.func363.trans (congrArg some BC)⟩,
 f25:=⟨Tryz.f364.name,by decide,Tryz.func364.trans (congrArg some BC)⟩,
 f26:=⟨Tryz.f365.name,by decide,Tryz.func365.trans (congrArg some BC)⟩,
 f27:=⟨Tryz.f366.name,by decide,Tryz.func366.trans (congrArg some BC)⟩,
 f28:=Tryz.func367.trans (congrArg some BC),
 f29:=Tryz.func368.trans (congrArg some BC),
 f46:=⟨Tryz.f400.name,by decide,Tryz.func400.trans (congrArg some BC)⟩,
 f47:=Tryz.func401.trans (congrArg some BC),
 f48:=Tryz.func402.trans (congrArg some BC),
 f49:=⟨Tryz.f403.name,by decide,Tryz.func403.trans (congrArg some BC)⟩,
 f50:=⟨Tryz.f404.name,by decide,Tryz.func404.trans (congrArg some BC)⟩,
 f57:=⟨Tryz.f414.name,by decide,Tryz.func414.trans (congrArg some BC)⟩,
 t0:=Tryz.underlying0,
 a0:=Tryz.isAgg0,
 z0:=Tryz.sizeOf0,
 v0:=Tryz.zeroValue0,
 t3:=Tryz.underlying3,
 a3:=Tryz.isAgg3,
 z3:=Tryz.sizeOf3,
 v3:=Tryz.zeroValue3,
 t4:=Tryz.underlying4,
 a4:=Tryz.isAgg4,
 z4:=Tryz.sizeOf4,
 v4:=Tryz.zeroValue4,
 t5:=Tryz.underlying5,
 a5:=Tryz.isAgg5,
 z5:=Tryz.sizeOf5,
 v5:=Tryz.zeroValue5,
 t9:=Tryz.underlying9,
 a9:=Tryz.isAgg9,
 z9:=Tryz.sizeOf9,
 v9:=Tryz.zeroValue9,
 t22:=Tryz.underlying84,
 a22:=Tryz.isAgg84,
 z22:=Tryz.sizeOf84,
 v22:=Tryz.zeroValue84,
 t25:=Tryz.underlying326,
 a25:=Tryz.isAgg326,
 z25:=Tryz.sizeOf326,
 v25:=Tryz.zeroValue326,
 t39:=Tryz.underlying344,
 a39:=Tryz.isAgg344,
 z39:=Tryz.sizeOf344,
 v39:=Tryz.zeroValue344,
 t45:=Tryz.underlying357,
 a45:=Tryz.isAgg357,
 z45:=Tryz.sizeOf357,
 v45:=Tryz.zeroValue357,
 t46:=Tryz.underlying358,
 a46:=Tryz.isAgg358,
 z46:=Tryz.sizeOf358,
 v46:=Tryz.zeroValue358,
 t50:=Tryz.underlying135,
 a50:=Tryz.isAgg135,
 z50:=Tryz.sizeOf135,
 v50:=Tryz.zeroValue135,
 t53:=Tryz.underlying364,
 a53:=Tryz.isAgg364,
 z53:=Tryz.sizeOf364,
 v53:=Tryz.zeroValue364,
 t55:=Tryz.underlying366,
 a55:=Tryz.isAgg366,
 z55:=Tryz.sizeOf366,
 v55:=Tryz.zeroValue366,
 t66:=Tryz.underlying379,
 a66:=Tryz.isAgg379,
 z66:=Tryz.sizeOf379,
 v66:=Tryz.zeroValue379,
 t70:=Tryz.underlying281,
 a70:=Tryz.isAgg281,
 z70:=Tryz.sizeOf281,
 v70:=Tryz.zeroValue281,
 t76:=Tryz.underlying388,
 a76:=Tryz.isAgg388,
 z76:=Tryz.sizeOf388,
 v76:=Tryz.zeroValue388,
 t77:=Tryz.underlying389,
 a77:=Tryz.isAgg389,
 z77:=Tryz.sizeOf389,
 v77:=Tryz.zeroValue389 }
def AFV:Go.Shelf.Ren:=⟨fun|5=>298|7=>329|n=>n,fun|22=>3|3=>3|4=>4|n=>n,fun|n=>n⟩
theorem AYB:Go.Proofs.SlLaysC2.n5 jA AFV := {
 mixed:=BC,
 f5:=⟨Tryz.f298.name,by decide,Tryz.func298.trans (congrArg some BC)⟩,
 f7:=⟨Tryz.f329.name,by decide,Tryz.func329.trans (congrArg some BC)⟩,
 t3:=Tryz.underlying3,
 a3:=Tryz.isAgg3,
 z3:=Tryz.sizeOf3,
 v3:=Tryz.zeroValue3,
 t4:=Tryz.underlying4,
 a4:=Tryz.isAgg4,
 z4:=Tryz.sizeOf4,
 v4:=Tryz.zeroValue4,
 t22:=Tryz.underlying3,
 a22:=Tryz.isAgg3,
 z22:=Tryz.sizeOf3,
 v22:=Tryz.zeroValue3 }
def encV (x:Rng):List Value:=[.int .i64 x.lo,.int .i64 x.hi]
instance:Inhabited Rng:=⟨⟨0,0⟩⟩
theorem AO8 (x y:Rng)(W:World):Calls jA 297 #[.agg #[.int .i64 x.lo,.int .i64 x.hi],.agg #[.int .i64 y.lo,.int .i64 y.hi]] W fun e w'=>e=.returned (.int .i64 (Lib.compareInt x.lo y.lo))/\∃q c,w'=grow (W.drewN q) c:=by
 have a:=fun d=>AnyG.cmp_Compare_int AYB x.lo y.lo d
 change ∀d,Calls jA 298 _ _ _ at a
 generalize Lib.compareInt x.lo y.lo=r at a|-
 go_enter Tryz.func297,Tryz.ntmps297
 go_wp2_with (go_at_call 298;refine(a _).mono ?_;rintro e w' ⟨rfl,rfl⟩)
 go_ret
 exact⟨rfl,0,_,by rw[alloc_eq_grow,alloc_eq_grow,grow_grow];rfl⟩
theorem AO7 (c off a:Nat)(w:World):CmpLays jA 297 #[] encV 2 (fun x y=>Lib.compareInt x.lo y.lo) c off a w :=
 fun _ _ _ _ x y=>AO8 x y _
theorem ltLo (x y:Rng):ltOf (fun x y:Rng=>Lib.compareInt x.lo y.lo) x y=decide (x.lo<y.lo):=by
 unfold ltOf Lib.compareInt;by_cases h1:x.lo<y.lo
 .simp [h1]
 .by_cases h2:y.lo<x.lo<;>simp [h1,h2]
theorem swoLo:SWO (ltOf fun x y:Rng=>Lib.compareInt x.lo y.lo) where
 irrefl x:=by rw[ltLo];simp
 trans x y z h1 h2:=by rw[ltLo] at *;simp at *;omega
 ntrans x y z h1 h2:=by rw[ltLo] at *;simp at *;omega
theorem encV_len (x:Rng):(encV x).length=2:=rfl
theorem AE8 (x:Rng)(j:Nat)(a:AV)(h:(encR x)[j]?=some a)(g:Gh):∃v,(encV x)[j]?=some v/\(encV x)[j]! = v/\Rep g a v/\∀c,Rep g a c->c=v:=by
 match j,h with
 | 0,h=>simp [encR] at h;subst h;exact⟨_,rfl,rfl,.int _ _ _,fun c d=>d.int_inv⟩
 | 1,h=>simp [encR] at h;subst h;exact⟨_,rfl,rfl,.int _ _ _,fun c d=>d.int_inv⟩
 | n+2,h=>simp [encR] at h
theorem ACQ:∀args w,(callFunc 297 args).run jA w=.ok (.enter 297 args) w:=enters_of Tryz.func297 BC rfl
theorem AXZ {t n:Nat}(h:t<n*2):t/2<n:=U
theorem AVW (xs:List Rng)(b:Nat)(C:List (List AV))(h0 h:Hp)(hl:xs.length<=16777216)(he:ext h0 h)(a3:h0.length<=b)(hb:h[b]?=some (qG 2 (xs.map encR++C))):
  ACalls (En G) 296 [.own b 0 xs.length,.fn (.func 297) [] []] h fun _ H=>ext h0 H/\∃ys:List Rng,ys.Perm xs/\ys.Pairwise (fun a b=>a.lo<=b.lo)/\H[b]?=some (qG 2 (ys.map encR++C)):=by
 refine⟨cok 296 G BC,fun g w L S ha=>?_⟩;obtain⟨a8,O⟩:=ha
 obtain⟨a0,a1,rfl⟩:∃a b,L = #[a,b]:=by
  obtain⟨l⟩:=L
  match l,a8 with
  | [a,b],_=>exact⟨a,b,rfl⟩
 have r0:=O 0 _ a0 rfl rfl;have r1:=O 1 _ a1 rfl rfl;obtain⟨f1,f2,rfl,q1,q2,_⟩:=r1.fn_inv;obtain rfl:f1 = #[]:=Array.eq_empty_of_size_eq_zero (BL q1);obtain rfl:f2 = #[]:=Array.eq_empty_of_size_eq_zero (BL q2)
 have I:∀(p:Option Addr) (cap:Nat),xs=[]->Calls jA 296 #[.slice p 0 cap,.func (.func 297) #[] #[]] w fun e w'=>∃v cv g' h',e=.returned cv/\(ext h0 h'/\∃ys:List Rng,ys.Perm xs/\ys.Pairwise (fun a b=>a.lo<=b.lo)/\h'[b]?=some (qG 2 (ys.map encR++C)))/\g.le g'/\SimH (En G) g' h' w'/\Rep g' v cv:=by
  intro p cap hx;have B:=AnyF.slices_SortFunc_none AQO p cap (.func (.func 297) #[] #[]) w;change Calls jA 296 _ _ _ at B;refine B.mono ?_;rintro e w' ⟨rfl,rfl⟩;exact⟨.tup [],_,g,h,rfl,⟨he,xs,.refl _,by rw[hx];exact .nil,hb⟩,Gh.le.refl g,S,Rep.undef g⟩
 rcases r0.own_inv with⟨l,cap,Y,a9,a7,rfl⟩|⟨hn,a,rfl⟩
 case inr =>
  have hx:xs=[]:=List.length_eq_zero_iff.1 hn;have:=I (some a) 0 hx;exact this.mono fun _ _ q=>.inl q
 obtain⟨l',c,a2,p1,p2,p3,p4,p5,p6,p7,p8⟩:=S.live b 2 _ hb;rw[Y] at p1;cases p1;obtain⟨K,E,k,sz⟩:=l;simp only at p2 p3 p4 p5 p6 p8 a7;subst p2;simp only[Nat.zero_mul,Nat.add_zero];have V:K<w.heap.size:=by grind
 -- the row's cells
 have P:∀t,t<xs.length*2->c[E+t]?=some ((encV (xs.toArray[t/2]!))[t%2]!):=by
  intro t Z;have J:=AXZ Z;have e1:(xs.map encR++C)[t/2]?=some (encR xs[t/2]):=by grind
  have M:t%2<2:=Nat.mod_lt _ DU;have e2:(encR xs[t/2])[t%2]?=some ((encR xs[t/2])[t%2]'M):=List.getElem?_eq_getElem _;obtain⟨cv,s1,s2⟩:=p8 (t/2) (t%2) _ _ e1 e2;obtain⟨v,_,t2,_,t4⟩:=AE8 _ _ _ e2 g;rw[show E+t/2*2+t%2=E+t by omega] at s1;rw[s1,t4 cv s2];have:xs.toArray[t/2]! = xs[t/2]:=by simp [J]
  rw[this,t2]
 have hH:HoldsK encV 2 w K E xs.toArray:=by
  intro t Z;simp only[size_flatK,List.size_toArray] at Z;refine⟨?_,?_⟩
  .rw[get_flatK _ _ _ _ (BL Z)]
   simp only[World.cell?,p4];exact P t Z
  .simp [World.frozen?,p4]
 have B:=AnyQ.slices_SortFunc AQO 2 Tryz.isAgg145 Tryz.sizeOf145 encV encV_len (fun x v F=>by simp [encV] at F;rcases F with rfl|rfl<;>rfl) (fun x y=>Lib.compareInt x.lo y.lo) swoLo 297 #[] K E cap xs.toArray w
  ACQ (AO7 K E _ w) hH V NZ
 simp only[List.size_toArray] at B;change Calls jA 296 _ _ _ at B;refine B.mono ?_;rintro e w' ⟨rfl,A,m,os,hp,hs,rfl⟩;have f:A.size=xs.length:=by simpa using hp.1
 have Q:A.toList.Perm xs:=by
  have:=hp.2.2;simpa [Array.extract_eq_self_of_le,f] using this
 have a6:A.toList.Pairwise (fun a b=>a.lo<=b.lo):=by
  rw[List.pairwise_iff_getElem];intro i j J M a5;have:=hs i j (Nat.zero_le _) a5 (by simpa [f] using M);rw[ltLo] at this;simp at J M;rw[getElem!_pos A i J,getElem!_pos A j M] at this;simpa using this
 -- the written world
 have T:Wrote w (putRowK encV 2 (Sort.ahead w m) K E A) K a2 c (putCells id E (flatK encV 2 A) c) E (flatK encV 2 A).toList:=by
  refine⟨rfl,rfl,rfl,?_,?_,?_,?_⟩
  .show(w.heap.modify K _)[K]?=_
   rw[Array.getElem?_modify,if_pos rfl,p4];rfl
  .simp [putCells]
  .intro j
   simp only[putCells,Array.getElem?_mapIdx,Array.length_toList];rcases zA j c.size with M|M
   .grind
   .rw[Array.getElem?_eq_none M,if_neg ?_]
    .rfl
    .simp only[size_flatK,f]
     have:E+xs.length*2<=c.size:=by omega
     omega
  .intro k hk
   show(w.heap.modify K _)[k]?=_;rw[Array.getElem?_modify,if_neg (fun e=>hk e.symm)]
 have R:QW g (putCells id E (flatK encV 2 A) c) E 2 (A.toList.map encR++C):=by
  refine⟨?_,?_,?_⟩
  .have:(putCells id E (flatK encV 2 A) c).size=c.size:=T.size
   rw[this,p5]
   simp only[List.length_append,List.length_map,Array.length_toList,f] at p6|-
   exact p6
  .intro i row d
   rcases zA i xs.length with J|J
   .rw[qH (by simpa [f] using J),List.getElem?_map,Option.map_eq_some_iff] at d
    obtain⟨x,_,rfl⟩:=d;refine⟨rfl,fun j v F=>?_⟩
    match j,F with
    | 0,F=>simp [encR] at F;subst F;rfl
    | 1,F=>simp [encR] at F;subst F;rfl
    | n+2,F=>simp [encR] at F
   .rw[List.getElem?_append_right (by simpa [f] using J)] at d
    refine p7 i row ?_;rw[List.getElem?_append_right (BL J)];simpa [f] using d
  .intro i j row v d F
   rw[T.cells];rcases zA i xs.length with J|J
   .have X:i<A.toList.length:=by simpa [f] using J
    rw[qH (by simpa using X),row_map X] at d;cases d;have M:j<2:=(List.getElem?_eq_some_iff.1 F).1;obtain⟨v',t1,t2,t3,_⟩:=AE8 _ _ _ F g;refine⟨v',?_,t3⟩;have N:i*2+j<A.size*2:=U;rw[if_pos (by simp only[Array.length_toList,size_flatK];omega),show E+i*2+j-E=i*2+j by omega,Array.getElem?_toList,Array.getElem?_eq_getElem (BL N)];rw[<-getElem!_pos,get_flatK _ _ _ _ N,show(i*2+j)/2=i by omega,show(i*2+j)%2=j by omega];rw[getElem!_pos A i U];rw[show A[i]=A.toList[i] by simp,t2]
   .rw[if_neg (by simp only[Array.length_toList,size_flatK,f];omega)]
    rw[List.getElem?_append_right (by simpa [f] using J)] at d;refine p8 i j row v ?_ F;rw[List.getElem?_append_right (BL J)];simpa [f] using d
 have S1:=S.write hb Y T p5 R
 have S2:SimH (En G) g (h.set b (qG 2 (A.toList.map encR++C))) (sortWorldK encV 2 w K E m A os):=by
  refine S1.world rfl rfl rfl fun k hk=>?_
  show((putRowK encV 2 (Sort.ahead w m) K E A).heap++os)[k]?=_;rcases zA k (putRowK encV 2 (Sort.ahead w m) K E A).heap.size with N|a4
  .rw[Array.getElem?_append_left N]
  .exfalso
   obtain⟨u1,u2⟩:=S1.unowned_new a4;rcases hk with⟨o,ho⟩|hk
   .rw[u2] at ho;cases ho
   .exact hk u1
 refine .inl ⟨.tup [],_,g,_,rfl,⟨he.set a3 _,A.toList,Q,a6,CJ hb⟩,Gh.le.refl g,S2,Rep.undef g⟩
theorem AQP (m:SM)(k:Nat)(h:Hp):PCall (En G) 296 [.sl m k [],.fn (.func 297) [] []] h (.tup []):=by
 refine⟨cok 296 G BC,fun g w d S M=>?_⟩;obtain⟨C,i⟩:=M
 obtain⟨j,A,rfl⟩:∃a b,d = #[a,b]:=by
  obtain⟨l⟩:=d
  match l,C with
  | [a,b],_=>exact⟨a,b,rfl⟩
 have I:=(i 0 _ j rfl rfl).sl_inv;have Q:=i 1 _ A rfl rfl;obtain⟨K,L,rfl,O,P,_⟩:=Q.fn_inv;obtain rfl:K = #[]:=Array.eq_empty_of_size_eq_zero (BL O);obtain rfl:L = #[]:=Array.eq_empty_of_size_eq_zero (BL P)
 have c:∀(p:Option Addr) (cap:Nat),Calls jA 296 #[.slice p 0 cap,.func (.func 297) #[] #[]] w fun e J=>∃v E B F,e=.returned E/\(v=.tup []/\F=h)/\g.le B/\SimH (En G) B F J/\Rep B v E:=by
  intro p cap;have f:=AnyF.slices_SortFunc_none AQO p cap (.func (.func 297) #[] #[]) w;change Calls jA 296 _ _ _ at f;refine f.mono ?_;rintro e J ⟨rfl,rfl⟩;exact⟨.tup [],_,g,h,rfl,⟨rfl,rfl⟩,Gh.le.refl g,S,Rep.undef g⟩
 generalize N:AV.sl m k []=v at I
 cases I<;>first|(cases N;done)|skip
 .exact(c _ _).mono fun _ _ q=>.inl q
 .exact(c _ _).mono fun _ _ q=>.inl q
 .simp_all
theorem A02:SortOk G:=⟨fun i b a d h g f c e=>AVW G i b a d h g f c e,fun m k h=>AQP G m k h⟩
theorem AAC (xs:List Rng)(m:SM)(h:Hp)(a:xs.length<=8388608):PCall (En G) 245 [.sl m 2 (xs.map encR)] h (.sl (nm (normal xs)) 2 ((normal xs).map encR)):=ADZ G (A02 G) xs m h a
end Go.Proofs.YtiihpnicbekebaaGreatDoor.Bins
namespace Go.Proofs.YtiihpnicbekebaaGreatDoor.Bins
open Sm
variable {b:Nat}
structure Sel (xs dn cur:List Rng):Prop where
 perm:(dn++cur).Perm xs
 sorted:dn.Pairwise (fun a b=>a.lo<=b.lo)
 below:∀d∈dn,∀c∈cur,d.lo<=c.lo
theorem AQH {cur:List Rng}(d:b<cur.length):(cur[b]::(cur.set b (cur[cur.length-1]'U)).take (cur.length-1)).Perm cur:=by
 obtain⟨a,t,rfl⟩:∃a t,cur=a++[t]:=⟨cur.dropLast,cur.getLast (by intro e;subst e;simp at d),(List.dropLast_concat_getLast _).symm⟩;have f:(a++[t]).length-1=a.length:=BA;have c:(a++[t])[(a++[t]).length-1]'BA=t:=BA;rw[c,f];rcases zA b a.length with h|h
 .grind
 .grind
theorem Sel.step {xs j cur:List Rng}(h:Sel xs j cur)(p:b<cur.length)(g:∀c∈cur,cur[b].lo<=c.lo):
  Sel xs (j++[cur[b]]) ((cur.set b (cur[cur.length-1]'U)).take (cur.length-1)):=by
 have l:=AQH p;generalize (cur.set b (cur[cur.length-1]'U)).take (cur.length-1)=nx at l;refine⟨?_,?_,?_⟩
 .rw[zD]
  exact(List.Perm.append_left j l).trans h.perm
 .rw[List.pairwise_append]
  refine⟨h.sorted,BA,?_⟩;intro a q c i;simp at i;subst i;exact h.below a q _ (List.getElem_mem p)
 .intro d e c i
  have f:c∈cur:=l.mem_iff.1 (List.mem_cons_of_mem _ i);rw[List.mem_append] at e;rcases e with e|e
  .exact h.below d e c f
  .simp at e;subst e;exact g c f
theorem Sel.done {xs a:List Rng}(h:Sel xs a []):(a.filter full).foldl join []=normal xs:=by
 have c:=h.perm;rw[List.append_nil] at c;exact uT (c.filter full) (h.sorted.filter full)
theorem srcR.nil_or {h:Hp}{ys:List Rng}{v:AV}{H:Hp}(f:srcR h ys b v H)(c:ys≠[]):h.length<=b/\v=.own b 0 ys.length/\∃a,H[b]?=some (qG 2 (ys.map encR++a)):=by
 rcases f with⟨d,_⟩|e
 .exact absurd d c
 .exact e
theorem AVV {h:Hp}{ys:List Rng}{v:AV}{H:Hp}(a:srcR h ys b v H):KA jA 84 v=some (.n ys.length):=by
 rcases a with⟨rfl,d,c,rfl⟩|⟨_,rfl,_⟩
 .exact ZJ.1 _ _ _
 .exact ZJ.2 _ _ _
theorem ADY (G:Nat->AV)(xs:List Rng)(m:SM)(h:Hp)(hl:xs.length<=8388608):
  ACalls (En G) 308 [.sl m 2 (xs.map encR)] h fun v H=>ext h H/\∃b,ANT h (normal xs) b v H:=by
 refine acT Tryz.func308 2 ?_
 obtain⟨v0,H0,aq,am,ac⟩:∃v0 H0,EH jA true h 84 84 (.sl .full 2 []) (.sl m 2 (xs.map encR))=some (v0,H0)/\ext h H0/\srcR h xs h.length v0 H0:=by
  rcases Classical.em (xs=[]) with hx|hx
  .subst hx
   exact⟨_,_,AGE Tryz.underlying84 J8 (.inr rfl),ext.rfl' _,.inl ⟨rfl,_,_,rfl⟩⟩
  .have a0:xs.map encR≠[]:=BL hx
   refine⟨_,_,ZZ (xs:=[]) WB J8 xX ABH (H6 h m 2 (xs.map encR)) a0 (I5 NZ U),⟨_,rfl⟩,.inr ⟨jF _,BA,[],BA⟩⟩
 refine A7 @AT5 aq ?_
 refine BB (fun n F H=>∃A cur b,n=cur.length/\Sel xs A cur/\ext h H/\srcR h cur b (F 4) H/\ANT h ((A.filter full).foldl join []) b (F 3) H) xs.length
  ⟨[],xs,h.length,rfl,⟨BA,.nil,BA⟩,am,by refine AB ?_;exact ac,.inl ⟨rfl,AO⟩⟩ ?_
 rintro n F H ⟨A,cur,b,rfl,M,hex,N,B⟩;have az:cur.length<=8388608:=by have:=M.perm.length_eq;simp at this;omega
 generalize Q:F 4=v4 at N;refine A7 Q (AVV N) ?_;refine BH ?_ ?_<;>intro R
 .have a0:cur≠[]:=by intro e;subst e;simp at R
  obtain⟨aj,rfl,f,ht⟩:=N.nil_or a0;generalize C:F 3=v3 at B;have al:0<cur.length:=List.length_pos_iff.2 a0
  have ld:∀j (E:j<cur.length),BO jA H 3 (.ptr b j 0)=some (.n cur[j].lo):=fun j E=>by
   rw[BK ag3 ht (row:=encR cur[j]) (by rw[qH (BL E)];exact row_map E)];rfl
  have ad:∀j (E:j<cur.length),BO jA H 145 (.ptr b j 0)=some (.agg (encR cur[j])):=fun j E=>by
   rw[EN Z8 J8 ht (row:=encR cur[j]) (by rw[qH (BL E)];exact row_map E) (by simp [encR])];rfl
  refine AB ?_
  refine BB (fun n2 F l=>∃i a,∃hb:a<cur.length,n2+i=cur.length/\a<i/\(∀j,j<i->∀c,cur[j]?=some c->(cur[a]'hb).lo<=c.lo)/\F 3=v3/\F 4=.own b 0 cur.length/\F 5=.n (a:Nat)/\F 6=.n (i:Nat)/\l=H) (cur.length-1)
   ⟨1,0,al,U,U,fun j E c R=>by
    have:j=0:=U
    subst this;rw[jO al] at R;cases R;exact Int.le_refl _,D7 C,D7 Q,AO,AO,rfl⟩ ?_
  clear C Q;rintro n2 F l ⟨i,a,p,hi,ay,L,C,Q,f5,f6,rfl⟩;refine DC Q f6 @ZJ.2 ?_;refine DX ?_ ?_<;>intro a9
  .refine AB ?_
   refine DR BC ?_;simp only[vQ,↓reduceIte,jC,jP,enP,VI,QI,Q,f5,f6,GN ht a9,GN ht p,ld i a9,ld a p];refine BH ?_ ?_<;>intro he
   .refine A7 f6 (C9 i) ?_
    refine⟨n2-1,U,i+1,i,a9,U,U,fun j E c R=>?_,C,Q,rfl,rfl,trivial⟩;have au:cur[i].lo<cur[a].lo:=BL he;rcases zA j i with I|I
    .have:=L j I c R;omega
    .grind
   .refine A7 f6 (C9 i) ?_
    refine⟨n2-1,U,i+1,a,p,U,U,fun j E c R=>?_,C,Q,f5,rfl,trivial⟩;have au:¬cur[i].lo<cur[a].lo:=BL he;rcases zA j i with I|I
    .exact L j I c R
    .grind
  .have T:∀c∈cur,cur[a].lo<=c.lo:=by
    intro c R;obtain⟨j,E,rfl⟩:=List.mem_iff_getElem.1 R;exact L j U _ (jO E)
   have K:=M.step p T;have ae:=ad a p;generalize hr:cur[a]=r at K ae;have a6:cur.length-1<cur.length:=U;have S:(IntKind.i64.wrap ((cur.length:Int)-1))=((cur.length-1:Nat):Int):=by rw[wrap_i64 U U];omega
   have V:(l++[qG 2 [encR r]])[b]?=some (qG 2 (cur.map encR++f)):=AU ht;have aw:=AX ht;have ixl:JD 2 (l++[qG 2 [encR r]]) (.own b 0 cur.length) (.n ((cur.length-1:Nat):Int))=some (.ptr b (cur.length-1) 0):=by rw[GN V a6,jG]
   have af:BO jA (l++[qG 2 [encR r]]) 145 (.ptr b (cur.length-1) 0)=some (.agg (encR cur[cur.length-1])):=ARW (ad _ a6);generalize ax:cur[cur.length-1]=lst at K af
   have st:D8 jA (l++[qG 2 [encR r]]) 145 (.ptr b a 0) (.agg (encR lst))=some ((l++[qG 2 [encR r]]).set b (qG 2 ((cur.set a lst).map encR++f))):=by
    have h2:=IJ (P:=jA) (t:=145) (j:=0) (v:=.agg (encR lst)) (cs:=encR lst) rfl J8 V (i:=a) (row:=encR r) (by rw[qH (BL p),row_map p,hr]) (by simp [encR]);have h3:(cur.map encR++f).set a (encR lst)=(cur.set a lst).map encR++f:=by simp_all
    rw[h2,kQ (by simp [encR]),h3]
   have a2:((l++[qG 2 [encR r]]).set b (qG 2 ((cur.set a lst).map encR++f)))[b]?=some (qG 2 ((cur.set a lst).map encR++f)):=CJ V;have a1:((l++[qG 2 [encR r]]).set b (qG 2 ((cur.set a lst).map encR++f)))[qL l]?=some (qG 2 [encR r]):=DF (AZ _ _) U;have g:ext h ((l++[qG 2 [encR r]]).set b (qG 2 ((cur.set a lst).map encR++f))):=(hex.app _).set aj _
   have q:ANT h ((A.filter full).foldl join []) b v3 ((l++[qG 2 [encR r]]).set b (qG 2 ((cur.set a lst).map encR++f))):=by
    rcases B with I|⟨I,o,h2,h3,h4,h5⟩
    .exact .inl I
    .exact .inr ⟨I,o,h2,h3,h4,DF (AU h5) h3⟩
   have a5:qL ((l++[qG 2 [encR r]]).set b (qG 2 ((cur.set a lst).map encR++f)))=qL l+1:=BA
   have J:∀ {O},O[b]?=some (qG 2 ((cur.set a lst).map encR++f))->srcR h ((cur.set a lst).take (cur.length-1)) b (.own b 0 (cur.length-1)) O:=by
    intro O hh;refine .inr ⟨aj,?_,((cur.set a lst).drop (cur.length-1)).map encR++f,?_⟩
    .simp
    .rw[hh,<-zD,<-List.map_append,List.take_append_drop]
   have ak:((cur.set a lst).take (cur.length-1)).length=cur.length-1:=BA;simp only[vQ,Option.map_some,Option.map_none,RP,cM,VF,kR,CQ,UM,MR,↓reduceIte,jC,enP,VI,jQ,Q,f5,GN ht p,ae,AJJ,AG5 _ _ [.n 0,.n 0] rfl,S,ZJ.2,ixl,af,GN V p,st];generalize ap:(l++[qG 2 [encR r]]).set b (qG 2 ((cur.set a lst).map encR++f))=H3 at a2 a1 g q a5;generalize (cur.set a lst).take (cur.length-1)=nx at K J ak;clear ap N hex ht B V st ixl af ld ad ae L T;have a3:∀j,BO jA H3 3 (.ptr (qL l) 0 j)=(encR r)[j]? := fun j=>BK ag3 a1 rfl
   simp only[vQ,CQ,↓reduceIte,jC,enP,QI,QH,Q,ZJ.2,S,AQ9 Tryz.underlying84 J8 a2 (U:cur.length-1<=cur.length),a3,VC,TY];refine BH ?_ ?_<;>intro hg
   .refine AB ?_
    refine⟨cur.length-1,U,A++[r],nx,b,U,K,g,J a2,?_⟩
    have:(A++[r]).filter full=A.filter full:=by
     rw[List.filter_append]
     have:full r=false:=by simp [full] at hg|-;exact hg
     simp [this]
    rw[this,C];exact q
   .have b0:full r=true:=by simp [full] at hg|-;exact hg
    have Y:((A++[r]).filter full).foldl join []=join ((A.filter full).foldl join []) r:=by simp_all
    have a8:((A.filter full).foldl join []).length<=8388608:=by
     have I:=aU (A.filter full) [];have h2:(A.filter full).length<=A.length:=List.length_filter_le _ _;have h3:=M.perm.length_eq;simp at I h3;omega
    generalize (A.filter full).foldl join []=out at Y a8 q;rcases q with⟨rfl,rfl⟩|⟨a7,o,ab,av,rfl,ho⟩
    .have ah:decide ((IntKind.i64.wrap (((0:Nat):Int)-1))≥0)=false:=by rw[wrap_i64 U U];simp
     refine UK C ?_;refine DR BC ?_;have I:([encR r]:List (List AV))≠[]:=BA;have X:BO jA H3 145 (.ptr (qL l) 0 0)=some (.agg (encR r)):=by rw[EN Z8 J8 a1 rfl (jF 2)];rfl
     simp only[vQ,JA,KP,xV,AU7,Q3,EP,CQ,GI,↓reduceIte,jC,jP,enP,ah,X,C,ABJ,UU WB J8 xX ABH (H6 H3 .full 2 [encR r]) I (I5 BA U)];refine⟨cur.length-1,U,A++[r],nx,b,U,K,g.app _,J (AU a2),?_⟩;rw[Y];exact .inr ⟨by simp [join],_,by rw[a5];have:=g.le;omega,U,rfl,by simp [join]⟩
    .obtain⟨d,t,rfl⟩:∃d t,out=d++[t]:=⟨out.dropLast,out.getLast a7,(List.dropLast_concat_getLast a7).symm⟩
     have hol:=AX ho
     have Z:(IntKind.i64.wrap (((d++[t]).length:Int)-1))=((d.length:Nat):Int):=by
      rw[wrap_i64 U U];simp
     have ai:decide (((d.length:Nat):Int)≥0)=true:=BA;have aa:d.length<(d++[t]).length:=BA;have a4:((d++[t]).map encR)[d.length]?=some (encR t):=BA;have ag:BO jA H3 3 (.ptr o d.length 1)=some (.n t.hi):=by rw[BK ag3 ho a4];rfl
     refine DC C @ZJ.2 @Z ?_;refine DR BC ?_;simp only[vQ,JA,KP,aB,EP,bG,↓reduceIte,jC,jP,enP,VI,QI,QH,ai,a3,VC,TY,C,GN ho aa,ag];refine AU8 (fun F O=>F 81=.bool (glue t r)/\F 4=.own b 0 (cur.length-1)/\F 3=.own o 0 (d++[t]).length/\F 7=.ptr (qL l) 0 0/\F 8=.n (d.length:Nat)/\O=H3) ?_ ?_
     .refine lO ?_ ?_<;>intro ha
      .refine A7 ha C ?_
       exact⟨by unfold glue;rw[ha];rfl,trivial,trivial,trivial,trivial,trivial⟩
      .simp only[vQ,JA,KP,aB,YQ,Q3,EP,MR,↓reduceIte,jC,jP,enP,VI,QI,QH,ha,a3,VC,TY,C,GN ho aa,ag]
       exact⟨by unfold glue;rw[ha];rfl,trivial,trivial,trivial,trivial,trivial⟩
     clear C Q f5 f6;rintro F O ⟨ao,Q,C,f7,f8,rfl⟩;refine AY ao ?_;refine BH ?_ ?_<;>intro an
     .have st:∀v:Int,D8 jA O 3 (.ptr o d.length 1) (.n v)=some (O.set o (qG 2 ((d++[Rng.mk t.lo v]).map encR))):=by
       intro v;have h2:=IJ (P:=jA) (t:=3) (j:=1) (v:=.n v) (cs:=[.n v]) rfl sz3 ho a4 (by simp [encR]);have h3:((d++[t]).map encR).set d.length (splice (encR t) 1 [.n v])=(d++[Rng.mk t.lo v]).map encR:=by simp [encR,splice]
       rw[h2,h3]
      refine DR BC ?_;simp only[vQ,QK,QZ,JE,AB1,oL,↓reduceIte,jC,jP,enP,VI,QH,jQ,C,f7,f8,GN ho aa,ag,a3,TY,st];refine⟨cur.length-1,U,A++[r],nx,b,U,K,g.set ab _,?_,?_⟩
      .simp_all
      .rw[Y]
       have E:join (d++[t]) r=d++[⟨t.lo,max t.hi r.hi⟩]:=by simp [join,an]
       rw[E];exact .inr ⟨BA,o,ab,av,BA,CJ ho⟩
     .have I:([encR r]:List (List AV))≠[]:=BA
      have X:BO jA O 145 (.ptr (qL l) 0 0)=some (.agg (encR r)):=by rw[EN Z8 J8 a1 rfl (jF 2)];rfl
      have ar:JJ O (.own o 0 (d++[t]).length)=some (2,(d++[t]).map encR):=by
       rw[JK ho BA,List.drop_zero,List.take_of_length_le BA]
      refine KO X C f7 f8 @ABJ (TM WB J8 xX ABH ar (H6 O .full 2 [encR r]) I (I5 (by simp at a8|-;omega) U)) ?_;refine⟨cur.length-1,U,A++[r],nx,b,U,K,(g.set ab _).app _,?_,?_⟩
      .grind
      .rw[Y]
       have E:join (d++[t]) r=(d++[t])++[r]:=by simp [join,an]
       rw[E];exact .inr ⟨BA,O.length,by have:=g.le;omega,U,BA,BA⟩
 .have hn:cur=[]:=BL R
  subst hn;rw[M.done] at B;refine AB ?_;exact⟨hex,b,B⟩
end Go.Proofs.YtiihpnicbekebaaGreatDoor.Bins
namespace Go.Proofs.YtiihpnicbekebaaGreatDoor.Ho
open Sm Bins Cov Go.RowKit
variable {e:Ex}
theorem AVX {P:Program}{t e:TypeId}{k:Nat}(g:P.underlying t=some (.slice e))(f:szO P e=some k){h:Hp}{m:SM}{xs:List (List AV)}{l u:Nat}(d:l<=u)(h2:u<=xs.length):
  IP P h t (.sl m k xs) (some (.n (l:Int))) (some (.n (u:Int))) none=some (.sl (tR m u xs.length) k ((xs.drop l).take (u-l))):=by
 have a:GU (some (.n (u:Int))) (some xs.length)=some u:=by simp [GU]
 have c:GU (some (.n (l:Int))) (some 0)=some l:=by simp [GU]
 simp only[IP,g,a,c,f,true_and];rw[if_pos ⟨d,h2⟩];cases m<;>simp [tR]
def orE (a b:Ex):Ex:=.mk 20 0 ⟨#[]⟩ .full [a,b]
def uX (e:Ex)(l:List Rng):Nat->Nat->Ex->Ex
 | 0,_,out=>out
 | f+1,i,out=>if i<l.length then uX e l f (i+16) (orE out (IU e ((l.drop i).take (min l.length (i+16)-i)))) else out
def TJ (e:Ex)(l:List Rng):Ex:=uX e l l.length 16 (IU e (l.take (min l.length 16)))
theorem AN2 {l:List Rng}{n i:Nat}{out:Ex}(h:¬i<l.length):uX e l n i out=out:=by
 cases n with
 | zero=>rfl
 | succ n=>show(if i<l.length then _ else out)=out;rw[if_neg h]
theorem ZY (h:Hp)(a b:Ex):DJ jA false h 23 2 [(0,.agg (AQ a)),(1,.agg (AQ b))]=some (.sl .full 4 [AQ a,AQ b],h):=by
 rw[FK a,FK b];generalize a.args.map AQ=xs;generalize b.args.map AQ=ys
 kernel_rfl
theorem AME (xs:List (List AV)):JC jA 79 [(0,.n 20),(3,.sl .full 4 xs)]=some (.agg [.n 20,.n 0,.str ⟨#[]⟩,.sl .full 4 xs]):=BC
theorem eI (a b:Ex):AQ (orE a b)=[.n 20,.n 0,.str ⟨#[]⟩,.sl .full 4 [AQ a,AQ b]]:=by rw[FK];rfl
theorem X0 (xs:List Rng):(normal xs).length<=xs.length:=by
 unfold normal aV;have a:=aU ((xs.filter full).mergeSort iU) [];have c:=List.length_filter_le full xs;rw[List.length_mergeSort] at a;simp only[List.length_nil,Nat.zero_add] at a;omega
theorem ADX (G:Nat->AV)(xs:List Rng)(m:SM)(h:Hp)(a:xs.length<=8388608):PCall (En G) 308 [.sl m 2 (xs.map encR)] h (.sl (Bins.nm (normal xs)) 2 ((normal xs).map encR)):=uR (ADY G xs m h a)
structure Io (h H:Hp) (e out:Ex) (b4 cb:Nat):Prop where
 ge:H[h.length]?=some (qG 4 [AQ e])
 g4:H[b4]?=some (qG 4 [[.n 0,.n 0,.str ⟨#[]⟩,.sl .nil 0 []]])
 gc:H[cb]?=some (qG 4 [AQ out])
 o4:h.length<b4
 oc:b4<cb
 hx:ext h H
theorem LX {H:Hp}{b:Nat}(a:H[b]?=some (qG 4 [AQ e])):BO jA H 79 (.ptr b 0 0)=some (.agg (AQ e)):=G5 a (EC e)
theorem OX {H:Hp}{b:Nat}{row:List AV}(a:H[b]?=some (qG 4 [row]))(c:row.length=4):D8 jA H 79 (.ptr b 0 0) (.agg (AQ e))=some (H.set b (qG 4 [AQ e])):=OW a c (EC e) (S9 e)
theorem dO (G:Nat->AV)(e:Ex)(xs:List Rng)(s:SM)(hl:xs.length<=1048576)(h:Hp):PCall (En G) 268 [.agg (AQ e),.sl s 2 (xs.map encR)] h (.agg (AQ (TJ e (normal xs)))):=by
 refine ACalls.pure (R:=fun v H=>ext h H/\FH h.length H 3 v=.agg (AQ (TJ e (normal xs)))) 3 ?_ (fun v H ⟨a,b⟩=>⟨a,b⟩);refine IK (H:=hint [17,33] []) (enM G) Tryz.func268 rfl (by kernel_rfl) (by kernel_rfl) (Nat.le_of_ble_eq_true (by kernel_rfl)) ?_;show awp _ _ _ _ _ (ML _ [.cell 4 79] _);have E:=AU (x:=qG 4 [[.n 0,.n 0,.str ⟨#[]⟩,.sl .nil 0 []]]) (AZ h (qG 4 [AQ e]));have f:=AZ (h++[qG 4 [AQ e]]) (qG 4 [[.n 0,.n 0,.str ⟨#[]⟩,.sl .nil 0 []]]);have Q:ext h (h++[qG 4 [AQ e]]++[qG 4 [[.n 0,.n 0,.str ⟨#[]⟩,.sl .nil 0 []]]]):=((ext.rfl' h).app _).app _;have g:h.length<(h++[qG 4 [AQ e]]).length:=BA;refine A7 @bxE NY ?_
 generalize h++[qG 4 [AQ e]]++[qG 4 [[.n 0,.n 0,.str ⟨#[]⟩,.sl .nil 0 []]]]=H0 at E f Q|-
 generalize (h++[qG 4 [AQ e]]).length=b4 at f g|-
 have Y:=AX f;refine(ADX G xs s H0 U).use ?_;have N:=X0 xs
 generalize normal xs=L at N|-
 generalize Bins.nm L=sL;have e1:min ((L.length:Nat):Int) 16=((min L.length 16:Nat):Int):=U
 have P:∀H:Hp,IP jA H 84 (.sl sL 2 (L.map encR)) none (some (.n ((min L.length 16:Nat):Int))) none=some (.sl (tR sL (min L.length 16) L.length) 2 ((L.take (min L.length 16)).map encR)):=fun H=>by
  have:=ACT WB J8 (h:=H) (m:=sL) (kk:=.i64) (xs:=L.map encR) (u:=min L.length 16) NZ;rw[<-List.map_take,jI] at this;exact this
 have C:Io h (H0++[qG 4 [AQ (IU e (L.take (min L.length 16)))]]) e (IU e (L.take (min L.length 16))) b4 H0.length:=⟨AU E,AU f,AZ _ _,g,Y,Q.app _⟩;have B:=gQ H0 (IU e (L.take (min L.length 16))) [.n 0,.n 0,.str ⟨#[]⟩,.sl .nil 0 []] rfl;refine AB ?_;refine DR BC ?_;refine KO @mE @XL @iS (LX E) e1 P ?_;refine⟨_,fun x=>kY G e (L.take (min L.length 16)) _ (by rw[jR];omega) _,?_⟩
 try refine A7 NY B ?_
 generalize H0++[qG 4 [AQ (IU e (L.take (min L.length 16)))]]=H1 at C|-
 generalize H0.length=d at C|-
 clear B E f Q Y
 refine BB (fun n F H=>∃i out,L.length<=i+n/\i<=1048608/\F 2=.ptr h.length 0 0/\F 4=.ptr b4 0 0/\F 5=.sl sL 2 (L.map encR)/\F 6=.ptr d 0 0/\F 7=.n (i:Nat)/\Io h H e out b4 d/\TJ e L=uX e L n i out) L.length
  ⟨16,_,U,U,AO,AO,AO,AO,AO,C,rfl⟩ ?_
 clear C;rintro n F H ⟨i,out,hi,a0,f2,T,V,X,K,I,O⟩;refine A7 V K ?_;refine DX ?_ ?_<;>intro j
 .obtain⟨J,rfl⟩:∃J,n=J+1:=⟨n-1,U⟩
  have q:TJ e L=uX e L J (i+16) (orE out (IU e ((L.drop i).take (min L.length (i+16)-i)))):=by
   rw[O];show(if i<L.length then _ else _)=_;rw[if_pos j]
  have w1:IntKind.i64.wrap (((i:Nat):Int)+16)=((i+16:Nat):Int):=by rw[wrap_i64 U U];omega
  have e2:min ((L.length:Nat):Int) ((i+16:Nat):Int)=((min L.length (i+16):Nat):Int):=U
  have A:∀H:Hp,IP jA H 84 (.sl sL 2 (L.map encR)) (some (.n (i:Nat))) (some (.n ((min L.length (i+16):Nat):Int))) none=some (.sl (tR sL (min L.length (i+16)) L.length) 2 (((L.drop i).take (min L.length (i+16)-i)).map encR)):=fun H=>by
   have:=AVX WB J8 (h:=H) (m:=sL) (xs:=L.map encR) (l:=i) (u:=min L.length (i+16)) U NZ;rw[<-List.map_drop,<-List.map_take,jI] at this;exact this
  have p:((L.drop i).take (min L.length (i+16)-i)).length<=1048576:=by rw[jR,List.length_drop];omega
  generalize (L.drop i).take (min L.length (i+16)-i)=M at q A p;have oc:=I.oc;have Z:=I.o4;have a1:=AX I.gc;have c:=AU (x:=qG 4 [AQ (IU e M)]) I.gc;have gT:=LX (AZ H (qG 4 [AQ (IU e M)]));have st2:=gQ H (IU e M) [.n 0,.n 0,.str ⟨#[]⟩,.sl .nil 0 []] rfl
  have S:D8 jA (H++[qG 4 [AQ (IU e M)]]) 79 (.ptr d 0 0) (.agg [.n 20,.n 0,.str ⟨#[]⟩,.sl .full 4 [AQ out,AQ (IU e M)]])=some ((H++[qG 4 [AQ (IU e M)]]).set d (qG 4 [AQ (orE out (IU e M))])):=by
   have:=OX (e:=orE out (IU e M)) c (EC _)
   rw[eI] at this|-
   exact this
  have I2:Io h ((H++[qG 4 [AQ (IU e M)]]).set d (qG 4 [AQ (orE out (IU e M))])) e (orE out (IU e M)) b4 d:=⟨DF (AU I.ge) U,DF (AU I.g4) U,CJ c,Z,oc,(I.hx.app _).set U _⟩;refine AB ?_;refine DR BC ?_;refine aA @mE @XL @iS f2 V K (LX I.ge) w1 e2 A ?_;refine⟨_,fun x=>kY G e M _ p _,?_⟩
  try refine aA NY st2 X (LX c) @gT @ZY @AME S K w1 ?_
  exact⟨J,U,i+16,_,U,U,AC,AC,AC,AC,AC,I2,q⟩
 .rw[AN2 j] at O
  have Z:=I.o4;simp only[vQ,List.contains_cons,List.contains_nil,Nat.reduceBEq,Bool.or_false,RP,cM,VF,kR,CQ,↓reduceIte,Nat.reduceEqDiff,Option.getD_some,bNf,enP,Option.getD_none,T,X,LX I.gc,OX I.g4 rfl];rw[IM (b:=b4) (D7 T) (LX (CJ I.g4))];refine⟨I.hx.set U _,?_⟩;rw[O,FK];rfl
end Go.Proofs.YtiihpnicbekebaaGreatDoor.Ho
namespace Go.Proofs.YtiihpnicbekebaaGreatDoor.Ho
open Sm Bins Cov Wd Xe Go.RowKit
structure Xs where
 m:SM
 l:List Ex
def AZ8 (x:Xs):List AV:=[.sl x.m 4 (x.l.map AQ)]
end Go.Proofs.YtiihpnicbekebaaGreatDoor.Ho
namespace Go.Proofs.YtiihpnicbekebaaGreatDoor.Ho
open Sm Bins Cov Go.RowKit
section
variable (G:Nat->AV)
theorem ADL (m:Mo)(x:Hl)(e:x.cross=true)(i:Nat)(a:i<m.crs.length)(f:x.idx=(i:Int))(h:Hp):PCall (En G) 94 [.agg (DT m),.agg (FM x)] h (.sl m.crs[i].pm 1 (m.crs[i].pts.map qencI)):=by
 refine ACalls.pure0 rfl ?_;refine acT Tryz.func94 4 ?_;have t:=Hb.mk' h m x;refine A7 @bxM @bxH ?_
 generalize h++[qG 2 [DT m]]++[qG 3 [FM x]]=H at t|-
 generalize (h++[qG 2 [DT m]]).length=hb at t|-
 have c:=AN8 t.gh;have d:=tF t.gh;rw[e] at c;rw[f] at d;simp only[vQ,CQ,↓reduceIte,Nat.reduceEqDiff,Nat.zero_add,Option.getD_some,bNf,enP,WI,NW,WL,NF,c,d,cV t.gm,CP a,BR O4 a,VY];exact⟨AC,t.hx⟩
theorem ADK (m:Mo)(x:Hl)(c:x.cross=false)(h:Hp):PCall (En G) 94 [.agg (DT m),.agg (FM x)] h (.sl .full 1 ([x.idx].map qencI)):=by
 refine ACalls.pure0 rfl ?_;refine acT Tryz.func94 4 ?_;have t:=Hb.mk' h m x;refine A7 @bxM @bxH ?_
 generalize h++[qG 2 [DT m]]++[qG 3 [FM x]]=H at t|-
 generalize (h++[qG 2 [DT m]]).length=hb at t|-
 have a:=AN8 t.gh;rw[c] at a;refine DC a (tF t.gh) AI7 ?_;exact⟨AC,t.hx⟩
end
end Go.Proofs.YtiihpnicbekebaaGreatDoor.Ho
namespace Go.Proofs.YtiihpnicbekebaaGreatDoor.Sm

theorem GSt.refl (E:Env)(h:Hp):GSt E h h:=fun g _ S=>⟨g,Gh.le.refl g,S⟩
theorem GSt.trans {E:Env}{a b c:Hp}(d:GSt E a b)(h2:GSt E b c):GSt E a c:=fun g w S =>
 let ⟨g1,l1,S1⟩:=d g w S;let ⟨g2,l2,S2⟩:=h2 g1 w S1;⟨g2,l1.trans l2,S2⟩
theorem GSt.kill (E:Env)(h:Hp)(b:Nat):GSt E h (h.set b .dead):=fun g _ S=>⟨g,Gh.le.refl g,S.kill b⟩
theorem GSt.frz {E:Env}{h:Hp}{b k i j o off len k':Nat}{xs ys:List (List AV)}{row:List AV}(hb:h[b]?=some (qG k xs))(J:xs[i]?=some row)(hj:row[j]?=some (.own o off len))(Z:h[o]?=some (qG k' ys))
  (Y:o≠b) (hle:off+len<=ys.length) (C:KN ((ys.drop off).take len)=true) :
  GSt E h ((h.set o .dead).set b (qG k (xs.set i (row.set j (.sl .any k' ((ys.drop off).take len)))))):=by
 intro g w S;obtain⟨R,N,O,p1,p2,p3,p4,p5,p6,p7,p8⟩:=S.live o k' ys Z;have S1:=S.kill o;have u:=PP S Z BA p1;have L:=S1.freeze p4 p3 u;have P:g.le (g.freeze R.cb (.cells N O (0,0))):=Gh.freeze_le p3;have hM:(g.freeze R.cb (.cells N O (0,0))).M R.cb=some (.cells N O (0,0)):=by simp [Gh.freeze]
 refine⟨_,P,?_⟩
 generalize g.freeze R.cb (.cells N O (0,0))=g' at L P hM|-
 obtain⟨l,c,e,q1,q2,q3,q4,q5,q6,q7,q8⟩:=S.live b k xs hb;have I:(h.set o .dead)[b]?=some (qG k xs):=by rw[List.getElem?_set_ne Y];exact hb
 obtain⟨l',c',e',r1,r2,r3,r4,r5,r6,r7,r8⟩:=L.live b k xs I;have hl:l=l':=by have:=P.μ _ _ q1;rw[r1] at this;cases this;rfl
 subst hl;have hc:c=c':=by rw[q4] at r4;cases r4;rfl
 subst hc;simp only[KN,List.all_eq_true] at C
 have key:∀B,Rep g (.own o off len) B->Rep g' (.sl .any k' ((ys.drop off).take len)) B:=by
  intro B hr
  have:=cQ (φ:=id) S Z p1 p4 hM hle hr (fun row f v d=>by
   obtain⟨i,J,rfl⟩:=qO f;obtain⟨Q,a0,rfl⟩:=qO d;refine⟨?_,fun B V=>(AV.frozen_rep (C _ f _ d) V).mono P.M⟩;have:=C _ f _ d
   revert this
   generalize (((ys.drop off).take len)[i])[Q]=y;intro this
   cases y<;>simp_all [AV.frozen,AV.leaf])
  have X:((ys.drop off).take len).map (·.map id)=(ys.drop off).take len:=by
   have:(fun x:List AV=>x.map id)=id:=by funext x;simp
   rw[this,List.map_id]
  rw[X] at this;exact .fro this
 have S3:=L.kill b;have u2:=PP L I BA r1;have:=S3.revive (xs:=xs.set i (row.set j (.sl .any k' ((ys.drop off).take len)))) r1 r4 r5 r3 u2 ?_
 .rw[List.set_set,r2] at this;exact this
 rw[r2]
 have K:∀(A:Nat) (a:List AV),(xs.set i (row.set j (.sl .any k' ((ys.drop off).take len))))[A]?=some a->(A=i/\a=row.set j (.sl .any k' ((ys.drop off).take len)))\/(A≠i/\xs[A]?=some a):=by
  intro A a p;rw[zU] at p;split at p
  .rename_i F
   split at p<;>simp at p;exact .inl ⟨F.symm,p.symm⟩
  .rename_i F;exact .inr ⟨fun q=>F q.symm,p⟩
 refine⟨by rw[qV,r5];exact r6,?_,?_⟩
 .intro A a p
  rcases K A a p with⟨rfl,rfl⟩|⟨_,T⟩
  .refine⟨by rw[qV];exact(r7 _ _ J).1,fun Q v d=>?_⟩
   rw[zU] at d;split at d
   .split at d<;>simp at d
    subst d;rfl
   .exact(r7 _ _ J).2 Q v d
  .exact r7 _ _ T
 .intro A Q a v p d
  rcases K A a p with⟨rfl,rfl⟩|⟨_,T⟩
  .rw[zU] at d
   split at d
   .rename_i F
    split at d<;>simp at d;subst d;subst F;obtain⟨B,s1,s2⟩:=q8 _ _ _ _ J hj;exact⟨B,s1,key B s2⟩
   .exact r8 _ _ _ _ J d
  .exact r8 _ _ _ _ T d
end Go.Proofs.YtiihpnicbekebaaGreatDoor.Sm
namespace Go.Proofs.YtiihpnicbekebaaGreatDoor.Ho
open Sm Bins Cov Go.RowKit
variable {k:Nat} {H h:Hp} {v:AV}
theorem knP (E:Env)(g:Gh):(E.know g).P=E.P:=rfl
theorem knG (E:Env)(g:Gh):(E.know g).G=E.G:=rfl
def vR (m:SM):SM:=match m with|.nil=>.nil|_=>.full
theorem A7D {P:Program}{t e:TypeId}(i:P.underlying t=some (.slice e))(g:szO P e=some k){m:SM}{xs:List (List AV)}{l u:Nat}(f:l<=u)(h2:u<=xs.length):
  IP P h t (.sl m k xs) (some (.n (l:Int))) (some (.n (u:Int))) (some (.n (u:Int)))=some (.sl (vR m) k ((xs.drop l).take (u-l))):=by
 have a:GU (some (.n (u:Int))) (some xs.length)=some u:=by simp [GU]
 have c:GU (some (.n (l:Int))) (some 0)=some l:=by simp [GU]
 have d:GU (some (.n (u:Int))) none=some u:=by simp [GU]
 simp only[IP,i,a,c,d,g,true_and];rw[if_pos ⟨f,jF _,h2,rfl⟩];cases m<;>simp [vR]
def part (L:List Rng)(k:Nat):List Rng:=(L.drop (16*k)).take 16
def parts (L:List Rng):Nat:=(L.length+15)/16
theorem AI3 (G:Nat->AV)(L:List Rng)(m:SM)(Z:L.length<=1048576)(g c:Nat)(I:Nat->Hp->Prop)(O:∀k h,I k h->h[g]?=some (qG 1 [[.sl m 2 (L.map encR)]])/\h[c]?=some (qG 1 [[.n 16]])):
  Iter (En G) 292 [.ptr g 0 0,.ptr c 0 0] (parts L) (fun k=>[.sl (vR m) 2 ((part L k).map encR)]) I:=by
 intro l g0 V h T;refine IK (H:=Hint.none) (enM G) Tryz.func292 rfl (by kernel_rfl) (by kernel_rfl) (jB (by kernel_rfl)) ?_;show awp _ _ _ _ _ (ML _ [] _);refine A7 @knP @knG ?_
 refine BB (fun n F H=>∃k,n+k=parts L/\F 0=.fn (.yield l) [] []/\F 1=.ptr g 0 0/\F 2=.ptr c 0 0/\F 4=.n ((16*k:Nat):Int)/\I k H) (parts L)
  ⟨0,BA,AO,AO,AO,AO,T⟩ ?_
 rintro n F H ⟨k,hk,P,j,p,i,a⟩;obtain⟨Q,S⟩:=O k H a;have K:BO jA H 84 (.ptr g 0 0)=some (.sl m 2 (L.map encR)):=by rw[BK TB Q (row:=[.sl m 2 (L.map encR)]) rfl];rfl
 have Y:BO jA H 3 (.ptr c 0 0)=some (.n 16):=by rw[BK ag3 S (row:=[.n 16]) rfl];rfl
 have hp:parts L=(L.length+15)/16:=rfl;refine H7 @knP @knG j i K ?_;refine DX ?_ ?_<;>intro X
 .have A:k<parts L:=U
  have B:IP jA H 84 (.sl m 2 (L.map encR)) (some (.n ((16*k:Nat):Int))) none none=some (.sl m 2 ((L.drop (16*k)).map encR)):=by
   rw[yN WB J8 NZ,List.map_drop]
  have E:IntKind.i64.wrap (((16*k:Nat):Int)+((min 16 (L.length-16*k):Nat):Int))=((16*k+min 16 (L.length-16*k):Nat):Int):=by rw[wrap_i64 U U];omega
  have J:IntKind.i64.wrap (((16*k:Nat):Int)+16)=((16*(k+1):Nat):Int):=by rw[wrap_i64 U U];omega
  have C:IP jA H 84 (.sl m 2 (L.map encR)) (some (.n ((16*k:Nat):Int))) (some (.n ((16*k+min 16 (L.length-16*k):Nat):Int))) (some (.n ((16*k+min 16 (L.length-16*k):Nat):Int)))=some (.sl (vR m) 2 ((part L k).map encR)):=by
   rw[A7D WB J8 U NZ,<-List.map_drop,<-List.map_take]
   have e:(L.drop (16*k)).take (16*k+min 16 (L.length-16*k)-16*k)=part L k:=by
    unfold part;rw[List.take_eq_take_iff,wV];omega
   rw[e]
  refine A7 @knP @knG ?_;refine DR BC ?_;simp only[vQ,Option.map_some,Option.map_none,KQ,XL,JE,CQ,UM,AJ0,AAE,↓reduceIte,jC,jP,enP,ZJ,knP,knG,j,p,i,K,Y,B,jI,wV];have f:min (16:Int) ((L.length-16*k:Nat):Int)=((min 16 (L.length-16*k):Nat):Int):=U;simp only[vQ,CQ,AYJ,↓reduceIte,jC,knP,knG,f,P,j,p,i,K,E,C];refine(V k H A a).mono ?_;rintro v N ⟨rfl,d⟩;obtain⟨R,q⟩:=O (k+1) N d;have M:BO jA N 3 (.ptr c 0 0)=some (.n 16):=by rw[BK ag3 q (row:=[.n 16]) rfl];rfl
  refine KO @knP @knG p i M J ?_;exact⟨n-1,U,k+1,U,AC,AC,AC,AC,d⟩
 .have:k=parts L:=U
  subst this;refine DC @pU @knP @knG ?_;exact a
theorem AI2 (G:Nat->AV)(s:AV)(d:JH s=some [s])(h:Hp):ACalls (En G) 244 [s,.n 16] h fun v a=>v=.fn (.func 292) [] [.ptr h.length 0 0,.ptr (h.length+1) 0 0]/\a=h++[qG 1 [[s]]]++[qG 1 [[.n 16]]]:=by
 refine acT Tryz.func244 4 ?_;have c:OU h s=some (.ptr h.length 0 0,h++[qG 1 [[s]]]):=by simp [OU,d]
 have e:BO jA (h++[qG 1 [[s]]]++[qG 1 [[.n 16]]]) 3 (.ptr (h++[qG 1 [[s]]]).length 0 0)=some (.n 16):=by rw[BK ag3 (AZ _ _) (row:=[.n 16]) rfl];rfl
 have d16:decide ((16:Int)<1)=false:=rfl;refine H7 @AYO @AUO c e d16 ?_;exact⟨BA,AC⟩
def cEs (l:List Rng):List Ex:=l.flatMap fun r=>[cE r.lo,cE r.hi]
def insL (e:Ex)(l:List Rng):List Ex:=e::cEs l
theorem UC (a:Rng)(l:List Rng):cEs (a::l)=cE a.lo::cE a.hi::cEs l:=rfl
theorem AEC:∀l:List Rng,(AEE l).map AXD=cEs l
 | []=>rfl
 | a::l=>by rw[vI,UC,jJ,jJ,AEC l];rfl
theorem VS (e:Ex)(l:List Rng):IU e l=.mk 23 0 ⟨#[]⟩ .any (insL e l):=by
 unfold IU bZ insL;rw[jJ,AEC];rfl
theorem AF1 {l:List Rng}(hk:k<l.length):cEs (l.take (k+1))=cEs (l.take k)++[cE l[k].lo,cE l[k].hi]:=by
 unfold cEs;rw[List.take_succ_eq_append_getElem hk,List.flatMap_append];rfl
theorem V3:∀l:List Rng,(cEs l).length=2*l.length
 | []=>rfl
 | a::l=>by rw[UC,zF,zF,V3 l,zF];omega
def nodes (e:Ex)(L:List Rng)(k:Nat):List Ex:=(List.range k).map fun i=>IU e (part L i)
theorem MC (e:Ex)(L:List Rng)(k:Nat):(nodes e L k).length=k:=by simp [nodes]
theorem oJ (e:Ex)(L:List Rng)(k:Nat):nodes e L (k+1)=nodes e L k++[IU e (part L k)]:=by simp [nodes,List.range_succ]
theorem ANZ (e:Ex)(L:List Rng)(k i:Nat)(h:i<(nodes e L k).length):(nodes e L k)[i]=IU e (part L i):=by simp [nodes]
def O1 (e:Ex)(L:List Rng):Nat->Ex
 | 0=>IU e (part L 0)
 | k+1=>orE (O1 e L k) (IU e (part L (k+1)))
def TI (e:Ex)(L:List Rng):Ex:=if L=[] then cE 0 else TJ (cpE e) L
theorem parts_eq (L:List Rng):parts L=(L.length+15)/16:=rfl
theorem ADM (L:List Rng)(i:Nat):(L.drop (16*i)).take (min L.length (16*i+16)-16*i)=part L i:=by
 unfold part;rw[List.take_eq_take_iff,wV];omega
theorem uW (e:Ex)(L:List Rng):∀(n k:Nat),L.length<=16*(k+1)+n->k<parts L->uX e L n (16*(k+1)) (O1 e L k)=O1 e L (parts L-1)
 | 0,k,h,hk=>by
   have a:=parts_eq L;have:parts L-1=k:=U;rw[this];rfl
 | n+1,k,h,hk=>by
   have a:=parts_eq L;show(if 16*(k+1)<L.length then _ else _)=_;by_cases hc:16*(k+1)<L.length
   .rw[if_pos hc,ADM]
    exact uW e L n (k+1) U U
   .rw[if_neg hc]
    have:parts L-1=k:=U;rw[this]
theorem ZN (e:Ex)(L:List Rng)(h:L≠[]):TJ e L=O1 e L (parts L-1):=by
 have c:0<L.length:=qR.2 h;have d:=parts_eq L;unfold TJ;have:=uW e L L.length 0 U U
 have a:IU e (L.take (min L.length 16))=O1 e L 0:=by
  show _=IU e (part L 0);have:=ADM L 0;simp only[Nat.mul_zero,jG,Nat.sub_zero,zI] at this;rw[<-this]
 rw[a];exact this
theorem ZM (e:Ex)(L:List Rng)(h:L≠[]):TI e L=O1 (cpE e) L (parts L-1):=by
 unfold TI;rw[if_neg h,ZN _ _ h]
theorem A0V (F:Fr)(p:Nat)(ps:List Nat)(v:AV)(a:List AV):yE F (p::ps) (v::a)=yE (upd F p v) ps a:=rfl
theorem A0U (F:Fr)(a:List AV):yE F [] a=F:=by cases a<;>rfl
theorem A8J (h:Hp):IG jA h 23=some (.ptr h.length 0 0,h++[qG 1 [[.sl .nil 0 []]]]):=F9 (row:=[.sl .nil 0 []]) BC
abbrev EQ:List AV:=[.n 0,.n 0,.str ⟨#[]⟩,.sl .nil 0 []]
structure Ic (h hb H:Hp) (e:Ex) (L:List Rng) (m:SM) (b4 b5 c2 c3 k:Nat) (v:AV):Prop where
 ge:H[h.length]?=some (qG 4 [AQ e])
 g4:H[b4]?=some (qG 4 [EQ])
 g5:H[b5]?=some (qG 1 [[v]])
 g2:H[c2]?=some (qG 1 [[.sl m 2 (L.map encR)]])
 g3:H[c3]?=some (qG 1 [[.n 16]])
 ho:outG 4 AQ hb (nodes (cpE e) L k) v H
 hx:ext h H
 hy:hb.length<=H.length
structure In (hb H1 H:Hp) (e:Ex) (l:List Rng) (b7:Nat) (v:AV):Prop where
 g7:H[b7]?=some (qG 4 [[.n 23,.n 0,.str ⟨#[]⟩,v]])
 ho:outG 4 AQ H1 (insL e l) v H
 hx:ext H1 H
 ne:∀b,isB v b->b≠b7
theorem AWM {α:Type}{f:α->List AV}{ys:List α}(e:outG k f h ys v H):outG k id h (ys.map f) v H:=by
 rcases e with⟨rfl,rfl⟩|⟨a,o,c,rfl,d⟩
 .exact .inl ⟨rfl,rfl⟩
 .exact .inr ⟨BL a,o,c,by rw[jI],by rw[List.map_id];exact d⟩
theorem A0F (h:Hp):DJ jA false h 23 1 [(0,.agg EQ)]=some (.sl .full 4 [EQ],h):=BC
theorem A5Y:YV (Value.agg #[.int .i64 0,.int .i64 0,.string ⟨#[]⟩,.slice none 0 0])=.agg EQ:=rfl
theorem NH (l:List Ex):KN (l.map AQ)=true:=by
 unfold KN;rw[List.all_eq_true];intro row a;obtain⟨x,_,rfl⟩:=List.mem_map.1 a;rw[FK];rfl
theorem outG_ext {α:Type}{f:α->List AV}{H':Hp}{ys:List α}(a:outG k f h ys v H)(c:Sm.ext H H'):outG k f h ys v H':=by
 obtain⟨x,rfl⟩:=c;exact a.app x
theorem Ic.ext {i H':Hp}{e:Ex}{L:List Rng}{m:SM}{c d f g:Nat}(I:Ic h i H e L m c d f g k v)(a:Sm.ext H H'):Ic h i H' e L m c d f g k v :=
 ⟨DW a I.ge,DW a I.g4,DW a I.g5,DW a I.g2,DW a I.g3,outG_ext I.ho a,I.hx.trans a,Nat.le_trans I.hy a.le⟩
theorem oV (e:Ex)(l:List Rng):AQ (IU e l)=[.n 23,.n 0,.str ⟨#[]⟩,.sl .any 4 ((insL e l).map AQ)]:=by rw[VS,FK];rfl
section
variable (G:Nat->AV)
theorem inside_prog (e:Ex)(xs:List Rng)(s:SM)(hl:xs.length<=1048576)(hw:wt e<=1048576)(h:Hp):PCall (En G) 168 [.agg (AQ e),.sl s 2 (xs.map encR)] h (.agg (AQ (TI e (normal xs)))):=by
 refine ACalls.pure (R:=fun v H=>Sm.ext h H/\FH h.length H 3 v=.agg (AQ (TI e (normal xs)))) 3 ?_ (fun v H ⟨a,b⟩=>⟨a,b⟩);refine IK (H:=hint [19,36,43] []) (enM G) Tryz.func168 rfl (by kernel_rfl) (by kernel_rfl) (jB (by kernel_rfl)) ?_;show awp _ _ _ _ _ (ML _ [.cell 4 79] _);have ge:=AU (x:=qG 1 [[.sl .nil 0 []]]) (AU (x:=qG 4 [EQ]) (AZ h (qG 4 [AQ e])));have Y:=AU (x:=qG 1 [[.sl .nil 0 []]]) (AZ (h++[qG 4 [AQ e]]) (qG 4 [EQ]));have g5:=AZ (h++[qG 4 [AQ e]]++[qG 4 [EQ]]) (qG 1 [[.sl .nil 0 []]]);have hx:Sm.ext h (h++[qG 4 [AQ e]]++[qG 4 [EQ]]++[qG 1 [[.sl .nil 0 []]]]):=(((ext.rfl' h).app _).app _).app _;have o4:h.length<(h++[qG 4 [AQ e]]).length:=BA;have o5:(h++[qG 4 [AQ e]]).length<(h++[qG 4 [AQ e]]++[qG 4 [EQ]]).length:=BA;have b1:=X0 xs;refine DC @bxE NY A8J ?_
 generalize h++[qG 4 [AQ e]]++[qG 4 [EQ]]++[qG 1 [[.sl .nil 0 []]]]=H0 at ge Y g5 hx|-
 generalize (h++[qG 4 [AQ e]]++[qG 4 [EQ]]).length=f at g5 o5|-
 generalize (h++[qG 4 [AQ e]]).length=b4 at Y o4 o5|-
 have l5:=AX g5;refine(AAC G xs s _ U).use ?_
 generalize normal xs=L at b1|-
 have hL:L.length<=1048576:=U;generalize Bins.nm L=m;refine AB ?_;refine(AI2 G _ rfl _).mono ?_;rintro v H ⟨rfl,rfl⟩
 have I0:Ic h (H0++[qG 1 [[.sl m 2 (L.map encR)]]]++[qG 1 [[.n 16]]]) (H0++[qG 1 [[.sl m 2 (L.map encR)]]]++[qG 1 [[.n 16]]]) e L m b4 f H0.length (H0.length+1) 0 (.sl .nil 0 []) :=
  ⟨AU (AU ge),AU (AU Y),AU (AU g5),AU (AZ _ _),BA,outG.nil _ _ _ _,(hx.app _).app _,jF _⟩
 generalize H0++[qG 1 [[.sl m 2 (L.map encR)]]]++[qG 1 [[.n 16]]]=H1 at I0|-
 have k2:f<H0.length:=l5;have k3:H0.length<H0.length+1:=Nat.lt_succ_self _
 generalize H0.length+1=c3 at I0 k3|-
 generalize H0.length=c2 at I0 k2 k3|-
 have l3:=AX I0.g3;clear ge Y g5 hx l5;refine AB ?_;refine A2N BC AO (parts L) (fun k=>[.sl (vR m) 2 ((part L k).map encR)]) (fun k H=>∃v,Ic h H1 H e L m b4 f c2 c3 k v) (AI3 G L m hL c2 c3 _ (fun k H ⟨v,I⟩=>⟨I.g2,I.g3⟩)) ⟨_,I0⟩ ?_ ?_
 .clear I0
  rintro k H hk ⟨v,I⟩;refine⟨rfl,?_⟩;have hy:=I.hy;have lb:=LX I.ge;have a4:(H++[qG 4 [AQ (cpE e)]]++[qG 4 [EQ]])[(H++[qG 4 [AQ (cpE e)]]).length]?=some (qG 4 [EQ]):=AZ _ _;have ap:=OW (cs:=[.n 23,.n 0,.str ⟨#[]⟩,.own H.length 0 1]) a4 rfl rfl rfl
  have N0:In H1 H ((H++[qG 4 [AQ (cpE e)]]++[qG 4 [EQ]]).set (H++[qG 4 [AQ (cpE e)]]).length (qG 4 [[.n 23,.n 0,.str ⟨#[]⟩,.own H.length 0 1]])) (cpE e) ((part L k).take 0) (H++[qG 4 [AQ (cpE e)]]).length (.own H.length 0 1) :=
   ⟨CJ a4,.inr ⟨by rw[qA];exact List.cons_ne_nil _ _,H.length,jF _,by rw[qA];rfl,by rw[qA];exact DF (AU (AZ _ _)) BA⟩,(((ext.rfl' H).app _).app _).set BA _,fun b hb=>by cases hb;simp⟩
  refine DC @A0V @A0U lb ?_;refine(AFS G (wt e) e H (jF _) hw).use ?_;refine EG @A0G @AUK NY ap ?_
  generalize ((H++[qG 4 [AQ (cpE e)]]++[qG 4 [EQ]]).set (H++[qG 4 [AQ (cpE e)]]).length (qG 4 [[.n 23,.n 0,.str ⟨#[]⟩,.own H.length 0 1]]))=H2 at N0|-
  have av:H.length<(H++[qG 4 [AQ (cpE e)]]).length:=BA
  generalize (H++[qG 4 [AQ (cpE e)]]).length=J at N0 av|-
  generalize AV.own H.length 0 1=u0 at N0;clear a4 ap lb;refine EK 2 (fun F d=>F 5=.ptr f 0 0/\F 7=.ptr J 0 0/\∃u,In H1 H d (cpE e) (part L k) J u) (fun _ _=>False) ?_ ?_ (fun _ _ q=>q.elim)
  .refine BB (fun n F d=>∃j u,n+j=(part L k).length/\F 5=.ptr f 0 0/\F 7=.ptr J 0 0/\F 21=.sl (vR m) 2 ((part L k).map encR)/\F 22=.n ((part L k).length:Nat)/\F 23=.n (j:Nat)/\In H1 H d (cpE e) ((part L k).take j) J u) (part L k).length
    ⟨0,u0,BA,AO,AO,AO,AO,AO,N0⟩ ?_
   clear N0;rintro n F d ⟨j,u,hj,f5,f7,f21,f22,f23,N⟩;refine A7 f22 f23 ?_;refine DX ?_ ?_<;>intro a7
   .have b8:(part L k).length<=16:=by unfold part;rw[jR];omega
    have X:In H1 H (d++[qG 2 [encR (part L k)[j]]]) (cpE e) ((part L k).take j) J u:=⟨AU N.g7,N.ho.app _,N.hx.app _,N.ne⟩;simp only[vQ,jZ,jS,jU,zN,CQ,↓reduceIte,jC,enP,VI,jQ,f21,f23,CP a7,DL Z8 J8 fH a7,AJJ,AG5 _ _ [.n 0,.n 0] rfl];have q0:BO jA (d++[qG 2 [encR (part L k)[j]]]) 3 (.ptr d.length 0 0)=some (.n (part L k)[j].lo):=by rw[EI ag3,VC]
    have q1:BO jA (d++[qG 2 [encR (part L k)[j]]]) 3 (.ptr d.length 0 1)=some (.n (part L k)[j].hi):=by rw[EI ag3,TY]
    generalize d++[qG 2 [encR (part L k)[j]]]=H3 at X q0 q1|-
    have am:(insL (cpE e) ((part L k).take j)).length+2<=8388608:=by
     unfold insL;rw[zF,V3,jR];omega
    obtain⟨v',H4,ha,p,A,aw,bl,bc⟩:=MB .full X.ho NJ GZ QA P9 U (ys:=[cE (part L k)[j].lo,cE (part L k)[j].hi]) am X.hx;have a6:EH jA true H3 23 23 u (.sl .full 4 [AQ (cE (part L k)[j].lo),AQ (cE (part L k)[j].hi)])=some (v',H4):=ha
    have hits:insL (cpE e) ((part L k).take j)++[cE (part L k)[j].lo,cE (part L k)[j].hi]=insL (cpE e) ((part L k).take (j+1)):=by
     unfold insL;rw[AF1 a7];rfl
    rw[hits] at p;have ag:=A _ _ X.g7 (fun q=>X.ne _ q rfl);have l7:BO jA H3 23 (.ptr J 0 3)=some u:=by rw[BK LU X.g7 (row:=[.n 23,.n 0,.str ⟨#[]⟩,u]) rfl];rfl
    have bq:=AX X.g7
    have ba:D8 jA H4 23 (.ptr J 0 3) v'=some (H4.set J (qG 4 [[.n 23,.n 0,.str ⟨#[]⟩,v']])):=by
     rcases p with⟨e1,_⟩|⟨_,o,_,rfl,_⟩
     .exact absurd e1 (List.cons_ne_nil _ _)
     .rw[JU (cs:=[.own o 0 _]) rfl (BC:szO jA 23=some 1) ag BA];rfl
    have a1:∀b,isB v' b->b≠J:=fun b hb=>by
     rcases bc b hb with q|q
     .exact X.ne b q
     .omega
    have N2:In H1 H (H4.set J (qG 4 [[.n 23,.n 0,.str ⟨#[]⟩,v']])) (cpE e) ((part L k).take (j+1)) J v' :=
     ⟨CJ ag,p.keep (fun b hb=>by rw[List.getElem?_set_ne (fun q=>a1 b hb q.symm)]),aw.set U _,a1⟩
    refine DR BC ?_;refine EG f7 l7 q0 q1 ?_;refine⟨_,ZG G _ _,_,ZG G _ _,?_⟩
    try refine V7 f5 f7 f21 f22 f23 @ZY a6 ba (C9 j) ?_
    exact⟨n-1,U,j+1,v',U,AC,AC,AC,AC,AC,N2⟩
   .rw[jK U] at N
    refine AB ?_;exact⟨AC,AC,u,N⟩
  .rintro F d ⟨f5,f7,u,N⟩
   have K:=I.ext N.hx;have b8:(part L k).length<=16:=by unfold part;rw[jR];omega
   obtain⟨o,n0,hu,b2,p⟩:∃o n0,u=.own o 0 n0/\H.length<=o/\(n0=(insL (cpE e) (part L k)).length/\d[o]?=some (qG 4 ((insL (cpE e) (part L k)).map AQ))):=by
    rcases N.ho with⟨e1,_⟩|⟨_,o,h1,h2,Z⟩
    .exact absurd e1 (List.cons_ne_nil _ _)
    .exact⟨o,_,h2,h1,rfl,Z⟩
   subst hu;obtain⟨rfl,p⟩:=p;have ay:(nodes (cpE e) L k).length<8388608:=by rw[MC];unfold parts at hk;omega
   obtain⟨v',H3,ha,b3,A,bm,bd,⟨c,n1,bb⟩,ak⟩:=(AWM K.ho).app2 NJ GZ QA P9 U (by rw[jI];exact ay) K.hy EQ;subst bb;have Q:c=d.length:=bd c rfl
   obtain⟨b0,O⟩:n1=k+1/\H3[c]?=some (qG 4 ((nodes (cpE e) L k).map AQ++[EQ])):=by
    rcases b3 with⟨e1,_⟩|⟨_,o',_,h2,Z⟩
    .simp at e1
    .cases h2
     refine⟨by simp [MC],?_⟩;rw[List.map_id] at Z;exact Z
   subst b0;have az:∀b,isB v b->H1.length<=b/\b<H.length:=fun b hb=>I.ho.lt hb
   have nb:∀b x,d[b]?=some x->b<H1.length\/H.length<=b->H3[b]?=some x:=fun b x hx hb=>A b x hx fun q=>by have:=az b q;omega
   have l5:f<H1.length:=U;have br:=AX p;have bp:=AX N.g7;have hle:=N.hx.le
   have S:∀a b:List AV,((nodes (cpE e) L k).map AQ++[a]).set k b=(nodes (cpE e) L k).map AQ++[b]:=fun a b=>by
    rw[List.set_append_right _ _ (by simp [MC])];simp [MC]
   have P:∀a:List AV,((nodes (cpE e) L k).map AQ++[a])[k]?=some a:=fun a=>by
    rw[List.getElem?_append_right (by simp [MC])];simp [MC]
   have d5:BO jA d 23 (.ptr f 0 0)=some v:=by rw[BK LU K.g5 (row:=[v]) rfl];rfl
   have d7:BO jA d 79 (.ptr J 0 0)=some (.agg [.n 23,.n 0,.str ⟨#[]⟩,.own o 0 (insL (cpE e) (part L k)).length]):=G5 N.g7 rfl;have dl:KA jA 23 v=some (.n (k:Nat)):=by rw[K.ho.len AAG,MC]
   have a6:EH jA true d 23 23 v (.sl .full 4 [EQ])=some (.own c 0 (k+1),H3):=ha;have di:JD 4 H3 (.own c 0 (k+1)) (.n (k:Nat))=some (.ptr c k 0):=by rw[GN O (Nat.lt_succ_self k),jG]
   have s1:D8 jA H3 79 (.ptr c k 0) (.agg [.n 23,.n 0,.str ⟨#[]⟩,.own o 0 (insL (cpE e) (part L k)).length])=some (H3.set c (qG 4 ((nodes (cpE e) L k).map AQ++[[.n 23,.n 0,.str ⟨#[]⟩,.own o 0 (insL (cpE e) (part L k)).length]]))):=by
    rw[IJ (RV rfl) GZ O (P EQ) (jF 4),S];rfl
   have a3:=nb _ _ K.g5 (.inl l5)
   have s2:D8 jA (H3.set c (qG 4 ((nodes (cpE e) L k).map AQ++[[.n 23,.n 0,.str ⟨#[]⟩,.own o 0 (insL (cpE e) (part L k)).length]]))) 23 (.ptr f 0 0) (.own c 0 (k+1)) =
     some ((H3.set c (qG 4 ((nodes (cpE e) L k).map AQ++[[.n 23,.n 0,.str ⟨#[]⟩,.own o 0 (insL (cpE e) (part L k)).length]]))).set f (qG 1 [[.own c 0 (k+1)]])):=by
    rw[JU (cs:=[.own c 0 (k+1)]) rfl (BC:szO jA 23=some 1) (DF a3 U) BA];rfl
   have a0:H1.length<=c:=by have:=K.hy;omega
   have a9:o≠c:=U;have ac:c≠f:=U;have be:o≠f:=U;have bs:=AX O
   have t2:D8 jA H3 23 (.ptr f 0 0) (.own c 0 (k+1))=some (H3.set f (qG 1 [[.own c 0 (k+1)]])):=by
    rw[JU (cs:=[.own c 0 (k+1)]) rfl (BC:szO jA 23=some 1) a3 BA];rfl
   have t1:D8 jA (H3.set f (qG 1 [[.own c 0 (k+1)]])) 79 (.ptr c k 0) (.agg [.int .i64 23,.int .i64 0,.str ⟨#[]⟩,.own o 0 (insL (cpE e) (part L k)).length])=some ((H3.set c (qG 4 ((nodes (cpE e) L k).map AQ++[[.int .i64 23,.int .i64 0,.str ⟨#[]⟩,.own o 0 (insL (cpE e) (part L k)).length]]))).set f (qG 1 [[.own c 0 (k+1)]])):=by
    rw[IJ (RV rfl) GZ (DF O ac) (P EQ) (jF 4),S,List.set_comm _ _ ac];rfl
   refine AB ?_;refine AGD [] [0,1,2,3,4,5] 6 7 [] BC trivial ?_;simp only[O7,List.getElem?_cons_succ,List.getElem?_cons_zero];simp only[vQ,jZ,jS,jU,zN,Bool.or_true,QK,JF,QZ,JE,ARS,↓reduceIte,jC,jP,enP,PU,jQ,f5,f7,d5,d7,dl,A5Y,A0F,a6,di,s1,s2,t1,t2];rw[and_self_iff];clear t1 t2 s1 s2;generalize an : [AV.int .i64 23,.n 0,.str ⟨#[]⟩,.own o 0 (insL (cpE e) (part L k)).length]=rowN at *;have au:(H3.set c (qG 4 ((nodes (cpE e) L k).map AQ++[rowN])))[c]?=some (qG 4 ((nodes (cpE e) L k).map AQ++[rowN])):=CJ O;have ai:((H3.set c (qG 4 ((nodes (cpE e) L k).map AQ++[rowN]))).set f (qG 1 [[.own c 0 (k+1)]]))[c]?=some (qG 4 ((nodes (cpE e) L k).map AQ++[rowN])):=DF au ac;have b6:((H3.set c (qG 4 ((nodes (cpE e) L k).map AQ++[rowN]))).set f (qG 1 [[.own c 0 (k+1)]]))[o]?=some (qG 4 ((insL (cpE e) (part L k)).map AQ)):=DF (DF (nb _ _ p (.inr b2)) a9) be;have ah:=GSt.frz (E:=En G) ai (P rowN) (j:=3) (by rw[<-an];rfl) b6 a9 BA (by rw[zI,jK BA];exact NH _)
   have b9:((nodes (cpE e) L k).map AQ++[rowN]).set k (rowN.set 3 (.sl .any 4 ((((insL (cpE e) (part L k)).map AQ).drop 0).take (insL (cpE e) (part L k)).length)))=(nodes (cpE e) L (k+1)).map AQ:=by
    rw[S,oJ,List.map_append,jJ,jL,oV,<-an,zI,jK BA];rfl
   rw[b9] at ah;refine⟨_,ah,.own c 0 (k+1),?_⟩
   have C:∀b x,b<H1.length->b≠f->d[b]?=some x->(((((H3.set c (qG 4 ((nodes (cpE e) L k).map AQ++[rowN]))).set f (qG 1 [[.own c 0 (k+1)]])).set o .dead).set c (qG 4 ((nodes (cpE e) L (k+1)).map AQ)))[b]?=some x):=fun b x h1 h2 Z =>
    DF (DF (DF (DF (nb b x Z (.inl h1)) U) h2) U) U
   have hex:=ak h U K.hx;refine⟨C _ _ U U K.ge,C _ _ U U K.g4,DF (DF (CJ (DF a3 U)) U) U,C _ _ U U K.g2,C _ _ U U K.g3,.inr ⟨by rw[oJ];simp,c,a0,by rw[MC],CJ (DF ai a9.symm)⟩,(((hex.set U _).set U _).set U _).set U _,by simp;omega⟩
 .rintro H ⟨v,I⟩
  have hn:=I.ho.len AAG;rw[MC] at hn;have d5:BO jA H 23 (.ptr f 0 0)=some v:=by rw[BK LU I.g5 (row:=[v]) rfl];rfl
  have bo:=parts_eq L;rcases Classical.em (L=[]) with M|M
  .have hz:(((parts L:Nat):Int)==0)=true:=by rw[M];rfl
   refine DC d5 hn hz ?_;refine(ZG G 0 H).use ?_;simp only[vQ,jZ,jS,jU,zN,CQ,↓reduceIte,jC,enP,jQ,OX I.g4 rfl];rw[IM (b:=b4) AO (LX (CJ I.g4))];refine⟨I.hx.set U _,?_⟩;rw[show TI e L=cE 0 by unfold TI;rw[if_pos M],FK];rfl
  have bn:0<L.length:=qR.2 M;have aa:0<parts L:=U;have hz:(((parts L:Nat):Int)==0)=false:=by simp;omega
  obtain⟨c,rfl,a0,Q⟩:∃c,v=.own c 0 (parts L)/\H1.length<=c/\H[c]?=some (qG 4 ((nodes (cpE e) L (parts L)).map AQ)):=by
   rcases I.ho with⟨e1,_⟩|⟨_,o,h1,h2,Z⟩
   .have:=congrArg List.length e1
    rw[MC,List.length_nil] at this;omega
   .exact⟨o,by rw[h2,MC],h1,Z⟩
  have ao:∀i,i<parts L->((nodes (cpE e) L (parts L)).map AQ)[i]?=some (AQ (IU (cpE e) (part L i))):=fun i hi=>by
   have ax:i<(nodes (cpE e) L (parts L)).length:=by rw[MC];exact hi
   rw[List.getElem?_map,List.getElem?_eq_getElem ax,ANZ];rfl
  have al:∀(d:Hp) i,d[c]?=some (qG 4 ((nodes (cpE e) L (parts L)).map AQ))->i<parts L->BO jA d 79 (.ptr c i 0)=some (.agg (AQ (IU (cpE e) (part L i)))):=fun d i h' hi=>by
   rw[EN NI GZ h' (ao i hi) (by rw[EC];exact jF 4),zI,<-EC (IU (cpE e) (part L i)),List.take_length]
  have i0:JD 4 H (.own c 0 (parts L)) (.n 0)=some (.ptr c 0 0):=GN (n:=0) Q aa;have aj:∀d:Hp,d[c]?=some (qG 4 ((nodes (cpE e) L (parts L)).map AQ))->IP jA d 23 (.own c 0 (parts L)) (some (.n 1)) none none=some (.own c 1 (parts L-1)):=fun d h'=>ADQ (l:=1) NJ GZ h' aa
  have bj:=AX Q;have V:=gQ H (IU (cpE e) (part L 0)) EQ rfl;have g:(H++[qG 4 [AQ (IU (cpE e) (part L 0))]])[H.length]?=some (qG 4 [AQ (O1 (cpE e) L 0)]):=AZ H _;refine KZ d5 hn hz i0 (al H 0 Q aa) NY V ?_;have I3:=I.ext (Sm.ext.app (Sm.ext.rfl' H) [qG 4 [AQ (IU (cpE e) (part L 0))]]);have B:=AU (x:=qG 4 [AQ (IU (cpE e) (part L 0))]) Q;have ae:BO jA (H++[qG 4 [AQ (IU (cpE e) (part L 0))]]) 23 (.ptr f 0 0)=some (.own c 0 (parts L)):=by rw[BK LU I3.g5 (row:=[.own c 0 (parts L)]) rfl];rfl
  refine A7 ae (aj _ B) ?_;have l3:H.length=H.length:=rfl
  generalize bh:H.length=T at g|-
  have ab:=I3.hx;have a2:=I3.g4
  generalize H++[qG 4 [AQ (IU (cpE e) (part L 0))]]=H3 at g B ab a2|-
  have bi:=I.hy;clear I3 I d5 ae hn i0 V
  refine BB (fun n F d=>∃k,n+k=parts L-1/\F 4=.ptr b4 0 0/\F 10=.ptr T 0 0/\F 53=.own c 1 (parts L-1)/\F 54=.n ((parts L-1:Nat):Int)/\F 55=.n (k:Nat)/\d[T]?=some (qG 4 [AQ (O1 (cpE e) L k)])/\d[c]?=some (qG 4 ((nodes (cpE e) L (parts L)).map AQ))/\d[b4]?=some (qG 4 [EQ])/\Sm.ext h d) (parts L-1)
   ⟨0,BA,AO,AO,AO,AO,AO,g,B,a2,ab⟩ ?_
  clear g B a2 ab;rintro n F d ⟨k,hk,f4,f10,aq,ar,af,g,a5,Y,hx⟩;refine A7 ar af ?_;refine BH ?_ ?_<;>intro hc
  .have a8:k<parts L-1:=BL hc
   have ik:JD 4 d (.own c 1 (parts L-1)) (.n (k:Nat))=some (.ptr c (k+1) 0):=by rw[GN a5 a8,Nat.add_comm]
   have bg:=gQ d (IU (cpE e) (part L (k+1))) EQ rfl;have ad:=AU (x:=qG 4 [AQ (IU (cpE e) (part L (k+1)))]) g;have bf:=LX (AZ d (qG 4 [AQ (IU (cpE e) (part L (k+1)))]));have bk:=AX g
   have V:D8 jA (d++[qG 4 [AQ (IU (cpE e) (part L (k+1)))]]) 79 (.ptr T 0 0) (.agg [.n 20,.n 0,.str ⟨#[]⟩,.sl .full 4 [AQ (O1 (cpE e) L k),AQ (IU (cpE e) (part L (k+1)))]])=some ((d++[qG 4 [AQ (IU (cpE e) (part L (k+1)))]]).set T (qG 4 [AQ (O1 (cpE e) L (k+1))])):=by
    have:=OX (e:=O1 (cpE e) L (k+1)) ad (EC _);change D8 _ _ _ _ (.agg (AQ (orE (O1 (cpE e) L k) (IU (cpE e) (part L (k+1))))))=some (List.set _ _ (qG 4 [AQ (orE (O1 (cpE e) L k) (IU (cpE e) (part L (k+1))))])) at this;show _=some (List.set _ _ (qG 4 [AQ (orE (O1 (cpE e) L k) (IU (cpE e) (part L (k+1))))]))
    rw[eI] at this|-
    exact this
   simp only[vQ,jZ,jS,jU,zN,CQ,NS,↓reduceIte,jC,enP,PU,jQ,f10,aq,af,ik,al d (k+1) a5 U,NY,bg,LX ad,bf,ZY,AME,V,C9 k];exact⟨n-1,U,k+1,U,AC,AC,AC,AC,AC,CJ ad,DF (AU a5) U,DF (AU Y) U,(hx.app _).set U _⟩
  .have a8:k=parts L-1:=by have:¬k<parts L-1:=BL hc
                           omega
   subst a8;simp only[vQ,jZ,jS,jU,zN,RP,cM,VF,kR,CQ,↓reduceIte,jC,enP,jQ,f4,f10,LX g,OX Y rfl];rw[IM (b:=b4) (D7 f4) (LX (CJ Y))];refine⟨hx.set U _,?_⟩;rw[ZM e L M,FK];rfl
end
end Go.Proofs.YtiihpnicbekebaaGreatDoor.Ho
namespace Go.Proofs.YtiihpnicbekebaaGreatDoor.Bd.Cl
open Sm Bins Cov Xe Wd Bl Ho Go.RowKit
variable {ws:List Wg} {k:Nat}
def JV (n:ByteArray):Ex:=.mk 2 0 n .nil []
def MW (n:ByteArray):List AV:=[.n 2,.n 0,.str n,.sl .nil 0 []]
theorem AB9 (n:ByteArray):CvRow (MW n) (AQ (JV n)):=by
 rw[FK];exact CvRow.cons rfl (Cv.refl _) (CvRow.cons rfl (Cv.refl _) (CvRow.cons rfl (Cv.refl _) (CvRow.cons rfl (Cv.nil 0 4) CvRow.nil)))
abbrev Iv:=Sum ByteArray Ex
def YJ:Iv->List AV
 | .inl n=>MW n
 | .inr e=>AQ e
def AXC:Iv->Ex
 | .inl n=>JV n
 | .inr e=>e
theorem AEB:∀x:Iv,CvRow (YJ x) (AQ (AXC x))
 | .inl n=>AB9 n
 | .inr e=>CvRow.refl fun v a=>by
   have:=S9 e;rw[List.all_eq_true] at this;exact this v a
theorem A4L:Frz YJ:=fun n h d x=>by
 cases x with
 | inl k=>exact⟨rfl,rfl⟩
 | inr e=>exact Ho.frzEx n h d e
def ivL (n:ByteArray)(l:List Rng):List Iv:=.inl n::(cEs l).map .inr
theorem ASD (n:ByteArray)(l:List Rng):(ivL n l).map AXC=insL (JV n) l:=by
 unfold ivL insL;rw[List.map_cons,qE];show JV n::(cEs l).map (AXC ∘ .inr)=_;rw[show(AXC ∘ Sum.inr:Ex->Ex)=id from rfl,List.map_id]
def ivW (n:ByteArray)(l:List Rng):List AV:=[.n 23,.n 0,.str ⟨#[]⟩,.sl .any 4 ((ivL n l).map YJ)]
theorem ASC (n:ByteArray)(l:List Rng):CvR (.agg (ivW n l)) (.agg (AQ (IU (JV n) l))):=by
 rw[oV,<-ASD,qE];exact CvR.agg (CvRL.cons (CvR.refl _) (CvRL.cons (CvR.refl _) (CvRL.cons (CvR.refl _) (CvRL.cons (CvR.sl (Cv.map fun x _=>AEB x)) CvRL.nil))))
theorem APE (n:ByteArray):JC jA 79 [(0,.n 2),(2,.str n)]=some (.agg (MW n)):=BC
theorem A78 (h:Hp)(n:ByteArray):DJ jA true h 23 1 [(0,.agg (MW n))]=some (.own h.length 0 1,h++[qG 4 [MW n]]):=BC
section
variable (G:Nat->AV)
theorem ZF (n:Int)(h:Hp):PCall (En G) 257 [.n n] h (.agg (AQ (cE n))):=by
 refine PCall.res ?_ (XE n);refine SE 3 (fun n H=>rfl) ?_;refine acL Tryz.func257 [.cell 2 79] ?_;have a:=AZ h (qG 4 [EQ]);have c:=OW (cs:=SB 1 n) a rfl rfl rfl;refine A7 NY @rS ?_;rw[show([AV.int .i64 0,.n 0,.str ⟨#[]⟩,.sl .nil 0 []]:List AV)=EQ from rfl];refine AY c ?_;rw[IM (b:=h.length) AO (G5 (CJ a) rfl)];exact⟨rfl,((ext.rfl' h).app _).set (jF _) _⟩
theorem kX (nm:ByteArray)(l:List Rng)(s:SM)(hl:l.length<=1048576)(h:Hp):PCall (En G) 258 [.str nm,.sl s 2 (l.map encR)] h (.agg (AQ (IU (JV nm) l))):=by
 refine PCall.res (r:=.agg (ivW nm l)) ?_ (ASC nm l);refine ACalls.pure (R:=fun v H=>Sm.ext h H/\FH h.length H 4 v=.agg (ivW nm l)) 4 ?_ (fun v H ⟨a,b⟩=>⟨a,b⟩);refine IK (H:=hint [10,25] []) (enM G) Tryz.func258 rfl (by kernel_rfl) (by kernel_rfl) (jB (by kernel_rfl)) ?_;show awp _ _ _ _ _ (ML _ [.cell 4 79] _);have e:=AU (x:=qG 4 [MW nm]) (AZ h (qG 4 [EQ]));have S:=AZ (h++[qG 4 [EQ]]) (qG 4 [MW nm]);have f:Sm.ext h (h++[qG 4 [EQ]]++[qG 4 [MW nm]]):=((ext.rfl' h).app _).app _
 have d:outG 4 YJ (h++[qG 4 [EQ]]) (ivL nm (l.take 0)) (.own (h++[qG 4 [EQ]]).length 0 1) (h++[qG 4 [EQ]]++[qG 4 [MW nm]]) :=
  .inr ⟨List.cons_ne_nil _ _,_,jF _,by rw[qA];rfl,by rw[qA];exact S⟩
 have B:h.length<(h++[qG 4 [EQ]]).length:=BA;have c:Sm.ext (h++[qG 4 [EQ]]) (h++[qG 4 [EQ]]++[qG 4 [MW nm]]):=(ext.rfl' _).app _;refine A7 NY @APE ?_;rw[show([AV.int .i64 0,.n 0,.str ⟨#[]⟩,.sl .nil 0 []]:List AV)=EQ from rfl];refine AY @A78 ?_
 generalize h++[qG 4 [EQ]]++[qG 4 [MW nm]]=H1 at e f d c|-
 generalize AV.own (h++[qG 4 [EQ]]).length 0 1=u0 at d
 generalize h++[qG 4 [EQ]]=H0 at d B c|-
 clear S;refine EK 0 (fun F H=>∃u,F 4=.ptr h.length 0 0/\F 5=u/\H[h.length]?=some (qG 4 [EQ])/\Sm.ext h H/\outG 4 YJ H0 (ivL nm l) u H) (fun _ _=>False) ?_ ?_ (fun _ _ q=>q.elim)
 .refine BB (fun n F H=>∃i u,n+i=l.length/\F 4=.ptr h.length 0 0/\F 5=u/\F 11=.sl s 2 (l.map encR)/\F 12=.n (l.length:Nat)/\F 13=.n (i:Nat)/\H[h.length]?=some (qG 4 [EQ])/\Sm.ext h H/\Sm.ext H0 H/\outG 4 YJ H0 (ivL nm (l.take i)) u H) l.length
   ⟨0,u0,BA,AO,AO,AO,AO,AO,e,f,c,d⟩ ?_
  clear e f c d;rintro n F H ⟨i,u,hi,I,J,f11,f12,f13,e,f,c,d⟩;refine A7 f12 f13 ?_;refine DX ?_ ?_<;>intro j
  .simp only[vQ,List.contains_cons,List.contains_nil,Nat.reduceBEq,Bool.or_false,CQ,↓reduceIte,Nat.reduceEqDiff,Option.getD_some,bNf,enP,VI,Option.getD_none,f11,f13,CP j,DL Z8 J8 fH j,AJJ,AG5 _ _ [.n 0,.n 0] rfl]
   have T:BO jA (H++[qG 2 [encR l[i]]]) 3 (.ptr H.length 0 0)=some (.n l[i].lo):=by rw[EI ag3,VC]
   have V:BO jA (H++[qG 2 [encR l[i]]]) 3 (.ptr H.length 0 1)=some (.n l[i].hi):=by rw[EI ag3,TY]
   have e:=AU (x:=qG 2 [encR l[i]]) e;have f:=f.app [qG 2 [encR l[i]]];have c:=c.app [qG 2 [encR l[i]]];have d:=d.app [qG 2 [encR l[i]]]
   generalize H++[qG 2 [encR l[i]]]=H3 at e f c d T V|-
   have p:(ivL nm (l.take i)).length+2<=8388608:=by
    unfold ivL;rw[zF,jI,V3,List.length_take];omega
   obtain⟨X,Q,ha,C,g,M,a0,a1⟩:=MB .full d NJ GZ QA P9 U (ys:=[.inr (cE l[i].lo),.inr (cE l[i].hi)]) p c;have L:EH jA true H3 23 23 u (.sl .full 4 [AQ (cE l[i].lo),AQ (cE l[i].hi)])=some (X,Q):=ha
   have hits:ivL nm (l.take i)++[.inr (cE l[i].lo),.inr (cE l[i].hi)]=ivL nm (l.take (i+1)):=by
    unfold ivL;rw[AF1 j,qC];rfl
   rw[hits] at C;have E:∀b,isB u b->H0.length<=b:=fun b hb=>(d.lt hb).1
   have K:=g _ _ e (fun q=>by have:=E _ q;omega);have P:Sm.ext h Q:=AS7 (fun k y q=>g _ _ (DW f q) (fun q'=>by have:=E _ q';have:=AX q;omega)) (by have:=f.le;omega);refine DR BC ?_;refine A7 T V ?_;refine⟨_,ZF G _ _,_,ZF G _ _,?_⟩
   try refine KO I J @ZY L f13 (C9 i) ?_
   exact⟨n-1,U,i+1,X,U,AC,AC,AC,AC,AC,K,P,M,C⟩
  .rw[List.take_of_length_le U] at d
   refine AB ?_;exact⟨u,AC,AC,e,f,d⟩
 .rintro F H ⟨u,I,J,e,f,d⟩
  have N:=d.leaf;have A:([.n 23,.n 0,.str ⟨#[]⟩,u]:List AV).all AV.leaf=true:=by simp [N];exact⟨rfl,rfl,rfl⟩
  have Y:JC jA 79 [(0,.n 23),(3,u)]=some (.agg [.n 23,.n 0,.str ⟨#[]⟩,u]):=by
   rcases d with⟨Z,_⟩|⟨_,o,_,rfl,_⟩
   .exact absurd Z (List.cons_ne_nil _ _)
   .exact AUK _ _
  refine EG I J Y (OW e rfl rfl A) ?_;rw[IM (b:=h.length) (D7 I) (G5 (CJ e) rfl)];refine⟨f.set (jF _) _,?_⟩;have O:=d.setB (b:=h.length) B (qG 4 [[.n 23,.n 0,.str ⟨#[]⟩,u]]);have hz:=LP A4L O h.length 1 U;show AV.agg [.n 23,.n 0,.str ⟨#[]⟩,FH h.length _ 3 u]=.agg (ivW nm l);rw[hz];rfl
end
def U6 (n:Int)(w:Wg):Bool:=decide (w.lo<=n)&&decide (n<=w.hi)
def LM (n:Int):List Wg->Bool
 | []=>false
 | w::ws=>if U6 n w=true then decide (w.w>0) else LM n ws
theorem zR {n:Int}:∀ {ws:List Wg} {k:Nat} (hk:k<ws.length),(∀(j:Nat) (d:j<k),U6 n (ws[j]'U)=false)->U6 n ws[k]=true->LM n ws=decide (ws[k].w>0)
 | [],k,hk,_,_=>by simp at hk
 | w::ws,0,_,_,h=>by
   have h:U6 n w=true:=h;unfold LM;rw[if_pos h];rfl
 | w::ws,k+1,hk,c,h=>by
   have a:=c 0 U;simp only[List.getElem_cons_zero] at a;unfold LM;rw[if_neg (by rw[a];decide)];exact zR (BL hk) (fun j d=>by have:=c (j+1) U;simpa using this) (BL h)
theorem zE {n:Int}:∀ {ws:List Wg},(∀w∈ws,U6 n w=false)->LM n ws=false
 | [],_=>rfl
 | w::ws,h=>by unfold LM;rw[if_neg (by rw[h w BA];decide)];exact zE fun x a=>h x (by simp [a])
def bS (out:List Rng)(n:Int):List Rng:=match out.getLast? with
 | some r=>if r.hi=n-1 then out.dropLast++[⟨r.lo,n⟩] else out++[⟨n,n⟩]
 | none=>[⟨n,n⟩]
def TP (l:List Int):List Rng:=l.foldl bS []
theorem nW (l:List Int)(n:Int):TP (l++[n])=bS (TP l) n:=by unfold TP;rw[List.foldl_append];rfl
def UO (ws:List Wg):Nat->List Int
 | 0=>[]
 | k+1=>UO ws k++(if LM (k:Int) ws=true then [(k:Int)] else [])
theorem eG (ws:List Wg):∀k,(UO ws k).length<=k
 | 0=>jF 0
 | k+1=>by
   have:=eG ws k;simp only[UO,jW];split<;>simp<;>omega
def runs (ws:List Wg)(k:Nat):List Rng:=TP (UO ws k)
def bQ (ws:List Wg)(k:Nat):Bool:=match k with
 | 0=>false
 | k+1=>LM (k:Int) ws
theorem aL (ws:List Wg)(k:Nat):runs ws (k+1)=if LM (k:Int) ws=true then bS (runs ws k) k else runs ws k:=by
 unfold runs;simp only[UO];split
 .rw[nW]
 .rw[jM]
theorem gU (ws:List Wg):∀k,(bQ ws k=true->∃r,(runs ws k).getLast?=some r/\r.hi=(k:Int)-1)/\(bQ ws k=false->∀r,(runs ws k).getLast?=some r->r.hi<(k:Int)-1)
 | 0=>⟨(fun h=>by cases h),fun _ r h=>by cases h⟩
 | k+1=>by
   obtain⟨e,f⟩:=gU ws k;rw[aL];constructor
   .intro h
    have h:LM (k:Int) ws=true:=h;rw[if_pos h];unfold bS
    cases i:(runs ws k).getLast? with
    | none=>exact⟨⟨k,k⟩,rfl,by show(k:Int)=_;omega⟩
    | some r =>
      simp only;split
      .simp_all
      .simp_all
   .intro h r a
    have h:LM (k:Int) ws=false:=h;rw[if_neg (by rw[h];decide)] at a
    cases c:bQ ws k with
    | true=>obtain⟨j,d,g⟩:=e c;rw[d] at a;cases a;omega
    | false=>have:=f c r a;omega
theorem yS (e:LM (k:Int) ws=true)(d:bQ ws k=true):∃r,(runs ws k).getLast?=some r/\runs ws (k+1)=(runs ws k).dropLast++[⟨r.lo,k⟩]:=by
 obtain⟨r,a,c⟩:=(gU ws k).1 d;refine⟨r,a,?_⟩;rw[aL,if_pos e];unfold bS;rw[a];simp only;rw[if_pos c]
theorem nP (d:LM (k:Int) ws=true)(c:bQ ws k=false):runs ws (k+1)=runs ws k++[⟨k,k⟩]:=by
 rw[aL,if_pos d];unfold bS
 cases a:(runs ws k).getLast? with
 | none=>rw[List.getLast?_eq_none_iff.1 a];rfl
 | some r =>
   have:=(gU ws k).2 c r a;simp only;rw[if_neg U]
theorem yR (a:LM (k:Int) ws=false):runs ws (k+1)=runs ws k:=by rw[aL,if_neg (by rw[a];decide)]
theorem AKJ (ws:List Wg):∀k,∀r∈runs ws k,0<=r.lo/\r.lo<=r.hi/\r.hi<(k:Int)
 | 0,r,h=>by cases h
 | k+1,r,h=>by
   have c:=AKJ ws k
   cases a:LM (k:Int) ws with
   | false=>rw[yR a] at h;have:=c r h;omega
   | true =>
     cases d:bQ ws k with
     | false =>
       rw[nP a d] at h;rcases zM.1 h with h|h
       .have:=c r h;omega
       .grind
     | true =>
       obtain⟨g,f,e⟩:=yS a d;rw[e] at h;rcases zM.1 h with h|h
       .have:=c r (List.dropLast_subset _ h);omega
       .grind
def AI9 (ws:List Wg):List Int:=0::ws.flatMap fun w=>[w.lo,w.hi+1]
theorem AUH (ws:List Wg):(AI9 ws).length=1+2*ws.length:=by
 unfold AI9
 have:∀l:List Wg,(l.flatMap fun w=>[w.lo,w.hi+1]).length=2*l.length:=fun l=>by
  induction l with
  | nil=>rfl
  | cons a l c=>rw[List.flatMap_cons,jW,c];simp;omega
 rw[zF,this];omega
theorem uQ {n m:Int}:∀ {ws:List Wg},(∀w∈ws,U6 n w=U6 m w)->LM n ws=LM m ws
 | [],_=>rfl
 | w::ws,h=>by
   unfold LM;rw[h w BA,uQ fun x a=>h x (by simp [a])]
theorem AYT (d:LM (k:Int) ws=true)(a:bQ ws k=false):(k:Int)∈AI9 ws:=by
 cases k with
 | zero=>simp [AI9]
 | succ k =>
   have a:LM (k:Int) ws=false:=a;apply Classical.byContradiction;intro c
   have:LM ((k+1:Nat):Int) ws=LM (k:Int) ws:=uQ fun w f=>by
    unfold U6;have j:((k+1:Nat):Int)≠w.lo:=fun e=>c (by unfold AI9;rw[zO,List.mem_flatMap];exact .inr ⟨w,f,by rw[e];simp⟩)
    have l:((k+1:Nat):Int)≠w.hi+1:=fun e=>c (by unfold AI9;rw[zO,List.mem_flatMap];exact .inr ⟨w,f,by rw[e];simp⟩)
    have g:decide (w.lo<=((k+1:Nat):Int))=decide (w.lo<=(k:Int)):=by rw[decide_eq_decide];omega
    have i:decide (((k+1:Nat):Int)<=w.hi)=decide ((k:Int)<=w.hi):=by rw[decide_eq_decide];omega
    rw[g,i]
   rw[this,a] at d;cases d
theorem AD0 {α:Type} [DecidableEq α]:∀ {l m:List α},l.Nodup->(∀x∈l,x∈m)->l.length<=m.length
 | [],m,_,_=>Nat.zero_le _
 | a::l,m,h,d=>by
   have c:a∈m:=d a BA;rw[List.nodup_cons] at h;have g:=AD0 (m:=m.erase a) h.2 fun x f=>(List.mem_erase_of_ne (fun e=>h.1 (by rw[<-e];exact f))).2 (d x (by simp [f]))
   rw[List.length_erase_of_mem c] at g;have:=List.length_pos_of_mem c;simp;omega
theorem nQ (ws:List Wg):∀k,((runs ws k).map Rng.lo).Nodup/\∀x∈(runs ws k).map Rng.lo,x∈AI9 ws/\x<(k:Int)
 | 0=>⟨List.nodup_nil,fun x h=>by cases h⟩
 | k+1=>by
   obtain⟨p,g⟩:=nQ ws k
   cases f:LM (k:Int) ws with
   | false=>rw[yR f];exact⟨p,fun x c=>⟨(g x c).1,by have:=(g x c).2;omega⟩⟩
   | true =>
     cases i:bQ ws k with
     | false =>
       rw[nP f i,qC];refine⟨List.nodup_append.2 ⟨p,BA,fun a F b B=>?_⟩,fun x c=>?_⟩
       .grind
       .rcases zM.1 c with h|h
        .grind
        .have e:x=(k:Int):=BL h
         rw[e];exact⟨AYT f i,U⟩
     | true =>
       obtain⟨r,d,E⟩:=yS f i
       have I:(runs ws k).dropLast++[r]=runs ws k:=by
        obtain⟨j,C⟩:∃h:runs ws k≠[],(runs ws k).getLast h=r:=by
         cases q:runs ws k with
         | nil=>rw[q] at d;cases d
         | cons a l=>rw[q] at d;exact⟨BA,by rw[List.getLast?_eq_some_getLast BA] at d;exact Option.some.inj d⟩
        rw[<-C];exact List.dropLast_concat_getLast j
       have A:(runs ws (k+1)).map Rng.lo=(runs ws k).map Rng.lo:=by grind
       rw[A];exact⟨p,fun x c=>⟨(g x c).1,by have:=(g x c).2;omega⟩⟩
theorem AQX (ws:List Wg)(k:Nat):(runs ws k).length<=1+2*ws.length:=by
 have h:=AD0 (nQ ws k).1 fun x a=>((nQ ws k).2 x a).1
 rw[jI,AUH] at h;exact h
def cY (R:List Rng):List Int:=R.flatMap fun r=>[r.lo,r.hi]
def fP (ws:List Wg)(W:Nat):Nat->List Int
 | 0=>[]
 | k+1=>fP ws W k++(if LM (k:Int) ws=true then (if k=0\/LM ((k:Int)-1) ws=false then [(k:Int)] else [])++(if k+1=W\/LM ((k:Int)+1) ws=false then [(k:Int)] else []) else [])
theorem xD (ws:List Wg)(W:Nat):∀k,k<=W->fP ws W k=if bQ ws k=true/\k<W/\LM (k:Int) ws=true then cY (runs ws k).dropLast++[((runs ws k).getLast?.map Rng.lo).getD 0] else cY (runs ws k)
 | 0,_=>by rw[if_neg (by simp [bQ])];rfl
 | k+1,hk=>by
   have f:=xD ws W k U;unfold fP;have l:((k:Int)+1)=((k+1:Nat):Int):=U
   cases e:LM (k:Int) ws with
   | false =>
     have hbs:bQ ws (k+1)=false:=e;rw[f,if_neg (by simp [e]),if_neg DU,if_neg (by simp [hbs]),yR e,jM]
   | true =>
     have hbs:bQ ws (k+1)=true:=e;rw[if_pos rfl,l];have a:(k+1=W\/LM ((k+1:Nat):Int) ws=false)↔¬(bQ ws (k+1)=true/\k+1<W/\LM ((k+1:Nat):Int) ws=true):=by grind
     have c:(k=0\/LM ((k:Int)-1) ws=false)↔bQ ws k=false:=by
      cases k with
      | zero=>simp [bQ]
      | succ j =>
        have:(((j+1:Nat):Int)-1)=(j:Int):=U;rw[this];show(j+1=0\/LM (j:Int) ws=false)↔LM (j:Int) ws=false;simp
     cases d:bQ ws k with
     | false =>
       rw[f,if_neg (by simp [d]),if_pos (c.2 d),nP e d];by_cases he:k+1=W\/LM ((k+1:Nat):Int) ws=false
       .rw[if_pos he,if_neg (a.1 he)]
        unfold cY;rw[List.flatMap_append];rfl
       .simp_all
     | true =>
       obtain⟨r,g,i⟩:=yS e d;rw[f,if_pos ⟨d,U,e⟩,if_neg (fun q=>by rw[c.1 q] at d;cases d),i,g];by_cases he:k+1=W\/LM ((k+1:Nat):Int) ws=false
       .rw[if_pos he,if_neg (a.1 he)]
        unfold cY;rw[List.flatMap_append];simp
       .simp_all
theorem AT9 (ws:List Wg)(W:Nat):fP ws W W=cY (runs ws W):=by rw[xD ws W W (jF _),if_neg U]
def gK (nm:ByteArray)(R:List Rng):Ex:=if R=[] then cE 0 else O1 (JV nm) R (parts R-1)
def gL (p:Pr)(d:Ds):Ex:=match p.vars[d.var.toNat]? with
 | some v=>gK v.name (runs d.ws (2^v.width.toNat))
 | none=>cE 0
def SL (p:Pr):List Ex:=p.dists.map (gL p)
end Go.Proofs.YtiihpnicbekebaaGreatDoor.Bd.Cl
namespace Go.Proofs.YtiihpnicbekebaaGreatDoor.Ho
open Sm Bins Cov Go.RowKit
variable {a b:List (List Ex)}
theorem ARU {α β:Type}(l:List α)(f:α->β):Cov.nm (l.map f)=Cov.nm l:=by cases l<;>rfl
theorem dD (op n:Int)(c:ByteArray)(m:SM)(args:List Ex):cpE (.mk op n c m args)=.mk op n c (Cov.nm args) (args.map cpE):=by
 rw[TA];show Ex.mk op n c (Cov.nm (args.map cpE)) (args.map cpE)=_;rw[ARU]
theorem AX5 (e:Ex):cpE (cpE e)=cpE e:=by
 induction e using Ex.induct with|h e ih=>?_
 rw[TA e,dD];simp only[ARU];rw[qE];congr 1;exact wB fun x c=>ih x c
theorem ATT (e:Ex)(l:List Rng):(insL (cpE e) l).map cpE=(insL e l).map cpE:=by
 unfold insL;rw[jJ,jJ,AX5]
theorem AFP (e:Ex)(l:List Rng):cpE (IU (cpE e) l)=cpE (IU e l):=by
 rw[VS,VS,dD,dD,ATT];rfl
theorem AX4 {a b c d:Ex}(e:cpE a=cpE c)(h2:cpE b=cpE d):cpE (orE a b)=cpE (orE c d):=by
 unfold orE;rw[dD,dD,jJ,jJ,jJ,jJ,e,h2];rfl
theorem AFO (e:Ex)(L:List Rng):∀k,cpE (O1 (cpE e) L k)=cpE (O1 e L k)
 | 0=>AFP e _
 | k+1=>AX4 (AFO e L k) (AFP e _)
theorem rG {e:Ex}{L:List Rng}(h:L≠[]):cpE (TI e L)=cpE (TJ e L):=by
 rw[ZM e L h,ZN e L h,AFO]
def FO (e:Ex)(l:List Rng):Ex:=TI e (normal l)
def GV (e:Ex)(l:List Rng):Ex:=TJ e (normal l)
def notE (e:Ex):Ex:=.mk 4 0 ⟨#[]⟩ .full [e]
def KC (b:Bin):List Rs:=if b.ranges.l=[] then b.steps else [b.ranges]
def AN1 (x:Option Ex)(c:List (List Ex)):List (List Ex):=match x with
 | none=>c
 | some y=>c.set (c.length-1) (c[c.length-1]?.getD []++[notE y])
def badO (ins:Ex->List Rng->Ex)(p:Pt):Option Ex:=if KH p.bins=[] then none else some (ins p.ex (KH p.bins))
def YM (ins:Ex->List Rng->Ex)(p:Pt)(b:Bin):List (List Ex):=AN1 (badO ins p) ((KC b).map fun s=>[ins p.ex s.l])
def QO (cs:List (List (List Ex))):Nat:=cs.foldl (fun n c=>max n c.length) 0
def XW (n t:Nat)(c:List (List Ex)):List Ex:=if n-c.length<=t then c[t-(n-c.length)]?.getD [] else []
def rowA (n:Nat)(cs:List (List (List Ex)))(t:Nat):List Ex:=cs.flatMap (XW n t)
def OT (cs:List (List (List Ex))):List (List Ex):=(List.range (QO cs)).map (rowA (QO cs) cs)
theorem AK8:∀(cs:List (List (List Ex))) (a:Nat),a<=cs.foldl (fun n c=>max n c.length) a/\∀c∈cs,c.length<=cs.foldl (fun n c=>max n c.length) a
 | [],a=>⟨Nat.le_refl _,fun c d=>by cases d⟩
 | x::cs,a=>by
   obtain⟨f,e⟩:=AK8 cs (max a x.length);rw[qU];refine⟨U,fun c d=>?_⟩;rcases List.mem_cons.1 d with rfl|d
   .omega
   .exact e c d
theorem oP {cs:List (List (List Ex))}{c:List (List Ex)}(h:c∈cs):c.length<=QO cs:=(AK8 cs 0).2 c h
theorem X4:∀(cs:List (List (List Ex))) (a b:Nat),a<=b->(∀c∈cs,c.length<=b)->cs.foldl (fun n c=>max n c.length) a<=b
 | [],_,_,h,_=>h
 | x::cs,a,b,h,d=>by
   rw[qU];exact X4 cs _ b (by have:=d x BA;omega) fun c e=>d c (by simp [e])
theorem vC (cs:List (List (List Ex)))(k:Nat)(hk:k<cs.length):QO (cs.take (k+1))=max (QO (cs.take k)) cs[k].length:=by
 unfold QO;rw[List.take_succ_eq_append_getElem hk,List.foldl_append];rfl
def eqC (a b:List (List Ex)):Prop:=a.map (·.map cpE)=b.map (·.map cpE)
theorem mS (h:eqC a b):a.length=b.length:=by have:=congrArg List.length h;simpa using this
theorem AA8 (h:eqC a b)(i:Nat):(a[i]?.getD []).map cpE=(b[i]?.getD []).map cpE:=by
 have c:(a.map (·.map cpE))[i]?=(b.map (·.map cpE))[i]? := by rw[show a.map (·.map cpE)=b.map (·.map cpE) from h]
 rw[zB,zB] at c
 cases d:a[i]? <;> cases e:b[i]? <;> rw[d,e] at c<;>simp at c|-
 exact c
theorem AD3 (x:Option Ex)(c:List (List Ex)):(AN1 x c).length=c.length:=by cases x<;>simp [AN1]
theorem AXV {x y:Option Ex}(h:eqC a b)(c:x.map cpE=y.map cpE):eqC (AN1 x a) (AN1 y b):=by
 cases x with
 | none=>cases y with
   | none=>exact h
   | some y=>cases c
 | some x=>cases y with
   | none=>cases c
   | some y =>
     have d:cpE x=cpE y:=BL c;have e:=mS h;show(a.set (a.length-1) _).map _=(b.set (b.length-1) _).map _;rw[List.map_set,List.map_set,show a.map (·.map cpE)=b.map (·.map cpE) from h,e,qC,qC,AA8 h]
     have:cpE (notE x)=cpE (notE y):=by
      unfold notE;rw[dD,dD,jJ,jJ,d];rfl
     rw[jJ,jJ,this]
theorem ATA {p:Pt}{b:Bin}(e:∀s∈KC b,normal s.l≠[])(d:KH p.bins≠[]->normal (KH p.bins)≠[]):eqC (YM FO p b) (YM GV p b):=by
 unfold YM;refine AXV ?_ ?_
 .show List.map _ (List.map _ _)=List.map _ (List.map _ _)
  rw[qE,qE];refine wB fun s c=>?_
  show [cpE (FO p.ex s.l)]=[cpE (GV p.ex s.l)];unfold FO GV;rw[rG (e s c)]
 .unfold badO
  split
  .rfl
  .rename_i h
   show some (cpE _)=some (cpE _);unfold FO GV;rw[rG (d h)]
theorem AV8 (h:eqC a b)(n t:Nat):(XW n t a).map cpE=(XW n t b).map cpE:=by
 unfold XW;rw[mS h];split
 .exact AA8 h _
 .rfl
theorem AOT {e d:List (List (List Ex))}(h:e.length=d.length)(f:∀i (g:i<e.length) (h2:i<d.length),eqC e[i] d[i]):eqC (OT e) (OT d):=by
 have gen:∀(e d:List (List (List Ex))),e.length=d.length->(∀i (g:i<e.length) (h2:i<d.length),eqC e[i] d[i])->(∀a,e.foldl (fun n c=>max n c.length) a=d.foldl (fun n c=>max n c.length) a)/\∀n t,(e.flatMap (XW n t)).map cpE=(d.flatMap (XW n t)).map cpE:=by
  intro e
  induction e with
  | nil=>intro d h _;cases d with
    | nil=>exact⟨fun _=>rfl,fun _ _=>rfl⟩
    | cons y l=>simp at h
  | cons x F E =>
    intro d h f
    cases d with
    | nil=>simp at h
    | cons y l =>
      obtain⟨B,C⟩:=E l (BL h) fun i g h2=>f (i+1) (BL g) (BL h2)
      have j:eqC x y:=f 0 BA BA;refine⟨fun a=>?_,fun n t=>?_⟩
      .rw[qU,qU,mS j,B]
      .rw[List.flatMap_cons,List.flatMap_cons,qC,qC,C,AV8 j]
 obtain⟨p,q⟩:=gen e d h f;have A:QO e=QO d:=p 0;show(List.map _ _).map _=(List.map _ _).map _;rw[A,qE,qE];exact wB fun t _=>q _ _
end Go.Proofs.YtiihpnicbekebaaGreatDoor.Ho
namespace Go.Proofs.YtiihpnicbekebaaGreatDoor.Bins
open Sm
variable {xs:List Rng}
def inI (r:Rng):Prop:=(-9223372036854775808<=r.lo/\r.lo<=9223372036854775807)/\-9223372036854775808<=r.hi/\r.hi<=9223372036854775807
structure Inv (ps out:List Rng):Prop where
 f:∀r∈out,full r=true/\inI r
 pw:out.Pairwise (fun a b=>a.lo<=b.lo)
 gap:∀(i:Nat) (a b:Rng),out[i]?=some a->out[i+1]?=some b->glue a b=false
 ins:∀v,inside out v=inside ps v
 low:∀r∈out,∃p∈ps,r.lo=p.lo
theorem QC (xs ys:List Rng)(v:Int):inside (xs++ys) v=(inside xs v||inside ys v):=by simp [inside]
theorem AIF {t r:Rng}(g:full t=true/\inI t)(f:full r=true/\inI r)(e:t.lo<=r.lo)(a:glue t r=true)(v:Int):
  (decide (t.lo<=v)&&decide (v<=max t.hi r.hi))=((decide (t.lo<=v)&&decide (v<=t.hi))||(decide (r.lo<=v)&&decide (v<=r.hi))):=by
 obtain⟨c,⟨j,l⟩,p,q⟩:=g;obtain⟨i,⟨A,B⟩,C,E⟩:=f;simp only[full,decide_eq_true_eq] at c i
 have d:r.lo<=t.hi+1:=by
  simp only[glue,qP,decide_eq_true_eq] at a;rcases a with a|a
  .omega
  .rcases (U : -9223372036854775808<r.lo\/r.lo<=-9223372036854775808) with h|h
   .rw[wrap_i64 U U] at a;omega
   .omega
 rw[wP];simp only[jX,qP,decide_eq_true_eq];omega
theorem Inv.step {ps out:List Rng}(h:Inv ps out){r:Rng}(M:full r=true/\inI r)(L:∀p∈ps,p.lo<=r.lo):Inv (ps++[r]) (join out r):=by
 have q:∀x∈out,x.lo<=r.lo:=fun x c=>by obtain⟨p,l,e⟩:=h.low x c;have:=L p l;omega
 have C:∀v,inside [r] v=(decide (r.lo<=v)&&decide (v<=r.hi)):=fun v=>by simp [inside]
 have plain:(∀t,out.getLast?=some t->glue t r=false)->Inv (ps++[r]) (out++[r]):=by
  intro Q;refine⟨?_,?_,?_,?_,?_⟩
  .intro x c
   rw[zM] at c;rcases c with c|c
   .exact h.f x c
   .simp at c;subst c;exact M
  .rw[List.pairwise_append]
   exact⟨h.pw,BA,fun a j b d=>by simp at d;subst d;exact q a j⟩
  .intro i a b j d
   rcases zA (i+1) out.length with A|A
   .rw[qH U] at j d
    exact h.gap i a b j d
   .grind
  .intro v;rw[QC,QC,h.ins]
  .intro x c
   rw[zM] at c;rcases c with c|c
   .obtain⟨p,l,e⟩:=h.low x c;exact⟨p,by simp [l],e⟩
   .simp_all
 unfold join
 cases K:out.getLast? with
 | none=>exact plain (fun t B=>by rw[K] at B;cases B)
 | some t =>
   obtain⟨g,rfl⟩:∃g,out=g++[t]:=by
    obtain⟨g,P⟩:=List.getLast?_eq_some_iff.1 K;exact⟨g,P⟩
   cases I:glue t r with
   | false=>simp only[I,Bool.false_eq_true,if_false];exact plain (fun Z E=>by rw[K] at E;cases E;exact I)
   | true =>
     simp only[I,if_true,List.dropLast_concat];have B:=h.f t BA;have N:=q t BA
     have J:full ⟨t.lo,max t.hi r.hi⟩=true:=by
      have A:=B.1
      simp only[full,decide_eq_true_eq] at A|-
      omega
     refine⟨?_,?_,?_,?_,?_⟩
     .intro x c
      rw[zM] at c;rcases c with c|c
      .exact h.f x (by simp [c])
      .simp at c;subst c
       refine⟨J,?_⟩;obtain⟨_,⟨F,O⟩,R,S⟩:=B;obtain⟨_,⟨T,V⟩,X,Y⟩:=M;exact⟨⟨F,O⟩,by show _<=max t.hi r.hi;omega,by show max t.hi r.hi<=_;omega⟩
     .have l:=h.pw
      rw[List.pairwise_append] at l|-
      exact⟨l.1,BA,fun a j b d=>by simp at d;subst d;exact l.2.2 a j t BA⟩
     .intro i a b j d
      rcases zA (i+1) g.length with A|A
      .rw[qH U] at j d
       exact h.gap i a b (by rw[qH U];exact j) (by rw[qH U];exact d)
      .have F:i+1=g.length:=by
        have:=AX d;simp at this;omega
       rw[List.getElem?_append_right A,F] at d;rw[qH U] at j;simp at d;subst d;have:=h.gap i a t (by rw[qH U];exact j) (by rw[List.getElem?_append_right A,F];simp)
       unfold glue at this|-
       exact this
     .intro v
      rw[QC,QC,<-h.ins,QC,C,Bool.or_assoc];congr 1;have:=AIF B M N I v;simp only[inside,List.any_cons,List.any_nil,Bool.or_false];exact this
     .intro x c
      rw[zM] at c;rcases c with c|c
      .obtain⟨p,l,e⟩:=h.low x (by simp [c]);exact⟨p,by simp [l],e⟩
      .simp at c;subst c
       obtain⟨p,l,e⟩:=h.low t BA;exact⟨p,by simp [l],e⟩
theorem Inv.fold:∀(xs ps out:List Rng),Inv ps out->(ps++xs).Pairwise (fun a b=>a.lo<=b.lo)->(∀r∈xs,full r=true/\inI r)->Inv (ps++xs) (xs.foldl join out)
 | [],ps,out,h,_,_=>BL h
 | x::xs,ps,out,h,c,g=>by
   have e:ps++x::xs=(ps++[x])++xs:=BA
   rw[e] at c|-
   have d:=(List.pairwise_append.1 c).1;exact Inv.fold xs (ps++[x]) (join out x) (h.step (g x BA) fun p f=>(List.pairwise_append.1 d).2.2 p f x BA) c (fun r i=>g r (by simp [i]))
theorem AHV (f:∀r∈xs,inI r):Inv ((xs.filter full).mergeSort iU) (normal xs):=by
 have e:((xs.filter full).mergeSort iU).Pairwise (fun a b=>a.lo<=b.lo):=by
  have:=List.pairwise_mergeSort (le:=iU) (fun a b c g i=>by simp [iU] at *;omega) (fun a b=>by simp [iU];omega) (xs.filter full);exact this.imp fun {a b} h=>by simpa [iU] using h
 have:=Inv.fold ((xs.filter full).mergeSort iU) [] [] ⟨BA,.nil,BA,fun _=>rfl,BA⟩ (BL e) (fun r d=>by
  rw[List.mem_mergeSort,List.mem_filter] at d
  exact⟨d.2,f r d.1⟩)
 unfold normal aV;simpa using this
theorem AEF {ys:List Rng}(h:xs.Perm ys)(v:Int):inside xs v=inside ys v:=by
 unfold inside;rw[wP,qJ,qJ];exact⟨fun⟨r,h1,h2⟩=>⟨r,h.mem_iff.1 h1,h2⟩,fun⟨r,h1,h2⟩=>⟨r,h.mem_iff.2 h1,h2⟩⟩
theorem AEG (xs:List Rng)(v:Int):inside (xs.filter full) v=inside xs v:=by
 unfold inside;rw[wP,qJ,qJ];constructor
 .grind
 .rintro⟨r,c,a⟩
  refine⟨r,List.mem_filter.2 ⟨c,?_⟩,a⟩;simp only[jX,decide_eq_true_eq] at a;simp only[full,decide_eq_true_eq];omega
theorem tC (a:∀r∈xs,inI r)(v:Int):inside (normal xs) v=inside xs v:=by
 rw[(AHV a).ins,AEF (List.mergeSort_perm _ _),AEG]
end Go.Proofs.YtiihpnicbekebaaGreatDoor.Bins
namespace Go.Proofs.YtiihpnicbekebaaGreatDoor.Ho
open Sm Bins Cov Go.RowKit
variable {b:Bin} {p:Pt} {X:List Ex} {N n ob t:Nat} {H h:Hp} {v:Nat->AV} {c:List (List Ex)} {e:Ex}
theorem AHB (b:Bin):sets b=KC b:=by
 unfold sets KC
 cases h:b.ranges.l with
 | nil=>rfl
 | cons x a=>rw[if_pos BA,if_neg BA]
structure VB (b:Bin):Prop where
 one:b.steps=[]\/b.ranges.l=[]
 ne:KC b≠[]
 few:(KC b).length<=8
 k0:0<=b.kind
 k2:b.kind<=2
 sk:b.kind≠0->b.steps=[]
 each:∀s∈KC b,s.l≠[]/\s.l.length<=64/\∀r∈s.l,0<=r.lo/\r.lo<=r.hi/\r.hi<=65535
theorem A21 (h:IR b=0):VB b:=by
 unfold IR at h;split at h
 case isFalse=>cases h
 split at h
 case isTrue=>cases h
 rename_i K B;split at h
 case isTrue=>cases h
 rename_i C;split at h
 case isTrue=>cases h
 rename_i L;split at h
 case isTrue=>cases h
 rename_i E;have f:JX b=false:=BL B;unfold JX at f;simp only[wG,decide_eq_false_iff_not,Bool.and_eq_false_iff] at f;obtain⟨⟨⟨⟨⟨O,P⟩,Q⟩,R⟩,S⟩,J⟩:=f
 have A:∀s∈b.steps,s.l≠[]:=fun s a e=>by
  have:b.steps.any (fun l=>decide (l.l.length=0))=true:=qJ.2 ⟨s,a,by rw[e];rfl⟩;exact C this
 have g:∀s∈sets b,s.l.length<=64:=fun s a=>by
  rcases Nat.lt_or_ge 64 s.l.length with q|q
  .simp_all
  .exact q
 have d:∀s∈sets b,∀r∈s.l,bad r=false:=fun s a r j=>by
  cases F:bad r with
  | false=>rfl
  | true=>exact absurd (qJ.2 ⟨s,a,qJ.2 ⟨r,j,F⟩⟩) E
 have i:b.steps=[]\/b.ranges.l=[]:=by
  rcases Classical.em (b.steps=[]) with q|q
  .exact .inl q
  .refine .inr ?_
   have M:0<b.steps.length:=qR.2 q;rcases Classical.em (b.ranges.l=[]) with r|r
   .exact r
   .simp_all
 have I:b.steps≠[]\/b.ranges.l≠[]:=by grind
 rw[AHB] at g d;refine⟨i,?_,?_,U,U,fun hk=>?_,fun s a=>⟨?_,g s a,fun r j=>?_⟩⟩
 .unfold KC
  split
  .simp_all
  .exact List.cons_ne_nil _ _
 .unfold KC
  split
  .simp at J;omega
  .simp
 .simp_all
 .unfold KC at a
  split at a
  .exact A s a
  .simp_all
 .have:=d s a r j
  unfold bad at this;simp only[wG,decide_eq_false_iff_not] at this;omega
structure VP (p:Pt):Prop where
 n1:1<=p.bins.length
 n64:p.bins.length<=64
 ex:exE p.ex=0
 bins:∀b∈p.bins,VB b
theorem A20 (h:G9 p=0):VP p:=by
 obtain⟨a,d⟩:=kV h;unfold G9 at h;split at h
 .cases h
 split at h
 .rename_i q;exact absurd h q
 rename_i g;split at h
 .cases h
 split at h
 .cases h
 split at h
 .rename_i q;exact absurd h q
 rename_i i;exact⟨a,d,BL g,fun b f=>A21 (ZR _ (BL i) b f)⟩
theorem nD {m:Mo}(h:GH m=0):∀p∈m.pts,VP p:=by
 unfold GH at h;split at h
 .cases h
 split at h
 .rename_i q;exact absurd h q
 rename_i q;exact fun p a=>A20 (ZR _ (BL q) p a)
theorem rX {n:Nat}:∀ {l:List Bin},(∀b∈l,b.kind≠0->b.ranges.l.length<=n)->(KH l).length<=n*l.length
 | [],_=>by simp [KH]
 | b::l,h=>by
   have d:=rX (l:=l) fun b a=>h b (by simp [a])
   show((if b.kind≠0 then b.ranges.l else [])++KH l).length<=n*(l.length+1);rw[jW,Nat.mul_add];by_cases hk:b.kind≠0
   .grind
   .rw[if_neg hk,zH];omega
theorem VB.ranges {b:Bin}(v:VB b)(hk:b.kind≠0):KC b=[b.ranges]:=by
 rcases Classical.em (b.ranges.l=[]) with q|q
 .have d:=setsB_nil' q
  have a:=v.ne;rw[d,v.sk hk] at a;exact absurd rfl a
 .unfold KC;rw[if_neg q]
 where setsB_nil' {b:Bin} (h:b.ranges.l=[]):KC b=b.steps:=by unfold KC;rw[if_pos h]
theorem VP.badLen (v:VP p):(KH p.bins).length<=4096:=by
 have:=rX (n:=64) (l:=p.bins) fun b a hk=>((v.bins b a).each b.ranges (by rw[(v.bins b a).ranges hk];simp)).2.1
 have:=v.n64;omega
theorem AF9 {r:Rng}:∀ {l:List Bin},r∈KH l->∃b∈l,b.kind≠0/\r∈b.ranges.l
 | b::l,h=>by
   rcases List.mem_append.1 (show r∈(if b.kind≠0 then b.ranges.l else [])++KH l from h) with h|h
   .simp_all
   .obtain⟨a,d,f⟩:=AF9 h;exact⟨a,by simp [d],f⟩
theorem VP.badOk (v:VP p):∀r∈KH p.bins,0<=r.lo/\r.lo<=r.hi/\r.hi<=65535:=fun r a=>by
 obtain⟨b,d,hk,a⟩:=AF9 a;exact((v.bins b d).each b.ranges (by rw[(v.bins b d).ranges hk];simp)).2.2 r a
theorem ADW {xs:List Rng}(h:∀r∈xs,0<=r.lo/\r.lo<=r.hi/\r.hi<=65535)(v:Int):inside (normal xs) v=inside xs v:=tC (fun r a=>by have:=h r a;unfold inI;omega) v
theorem uU {xs:List Rng}(h:∀r∈xs,0<=r.lo/\r.lo<=r.hi/\r.hi<=65535)(f:xs≠[]):normal xs≠[]:=by
 intro e
 cases xs with
 | nil=>exact f rfl
 | cons r g =>
   have a:=ADW h r.lo;rw[e] at a;have d:inside (r::g) r.lo=true:=qJ.2 ⟨r,BA,by have:=h r BA;simp;omega⟩;rw[d] at a;cases a
def dC (l:List Ex):List AV:=AZ8 ⟨.any,l⟩
def rowF (x:Ex):List AV:=[.sl .full 4 [AQ x]]
def J5 (X:List Ex):Ex:=X[X.length-1]?.getD (cE 0)
def Y2 (X:List Ex):Option Ex->List (List AV)
 | none=>X.map rowF
 | some y=>(X.map rowF).set (X.length-1) [.sl .any 4 [AQ (J5 X),AQ (notE y)]]
theorem uL (X:List Ex)(y:Option Ex):(Y2 X y).length=X.length:=by cases y<;>simp [Y2]
theorem AKK (x:Ex):CvRow (rowF x) (dC [x]):=CvRow.cons rfl (Cv.any BA 4 _) CvRow.nil
theorem AC6 (X:List Ex)(y:Option Ex):Cv (.sl .any 1 (Y2 X y)) (.sl .any 1 ((AN1 y (X.map fun x=>[x])).map dC)):=by
 refine Cv.rows (by rw[jI,AD3,jI,uL]) fun i r j a d=>?_
 cases y with
 | none =>
   change ((X.map fun x=>[x]).map dC)[i]?=some j at d;change (X.map rowF)[i]?=some r at a;rw[qE,zB] at d;rw[zB] at a
   cases g:X[i]? with
   | none=>rw[g] at a;cases a
   | some x =>
     rw[g] at a d;cases a;cases d;exact AKK x
 | some y =>
   change (((X.map fun x=>[x]).set ((X.map fun x=>[x]).length-1) ((X.map fun x=>[x])[(X.map fun x=>[x]).length-1]?.getD []++[notE y])).map dC)[i]?=some j at d;change ((X.map rowF).set (X.length-1) [.sl .any 4 [AQ (J5 X),AQ (notE y)]])[i]?=some r at a;have f:i<X.length:=by have:=AX a;simpa using this
   rw[zU] at a;rw[zB,zU] at d;by_cases e:X.length-1=i
   .have l:(X.map fun x=>[x])[X.length-1]?.getD []=[J5 X]:=by
     unfold J5;rw[zB,jO U];rfl
    rw[if_pos e,if_pos (by simpa using U)] at a;rw[jI,if_pos e,if_pos U,l] at d;cases a;cases d;exact CvRow.cons rfl (Cv.refl _) CvRow.nil
   .rw[if_neg e] at a
    rw[jI,if_neg e,zB] at d;rw[zB,jO f] at a;rw[jO f] at d;cases a;cases d;exact AKK _
theorem vE (h:X≠[]):X[X.length-1]?=some (J5 X):=by
 have:0<X.length:=qR.2 h;unfold J5;rw[jO U];rfl
theorem mL:Frz rowF:=fun _ _ _ _=>⟨rfl,rfl⟩
theorem AOJ {n:Nat}{H:Hp}{ob a:Nat}{X:List Ex}{y:Ex}(q:n<=ob)(h2:n<=a)(_:X≠[])(g:H[ob]?=some (qG 1 ((X.map rowF).set (X.length-1) [.own a 0 2])))
  (l:H[a]?=some (qG 4 [AQ (J5 X),AQ (notE y)])):FH n H 4 (.own ob 0 X.length)=.sl .any 1 (Y2 X (some y)):=by
 have j:FH n H 3 (.own a 0 2)=.sl .any 4 [AQ (J5 X),AQ (notE y)]:=frz_own (f:=AQ) (xs:=[J5 X,notE y]) (d:=1) frzEx h2 l;rw[Cov.frzF_own n H 3 ob 0 X.length 1 _ U g,zI,jK BA,List.map_set,jJ,jL,j,frz_rows mL n H 2 X];rw[if_pos]
 .rfl
 refine⟨BA,?_⟩;rw[zJ];intro row i;rcases List.mem_or_eq_of_mem_set i with i|rfl
 .obtain⟨x,_,rfl⟩:=zQ.1 i;rfl
 .rfl
theorem AOK {y:Ex}(f:n<=ob)(g:H[ob]?=some (qG 1 (Y2 X (some y)))):FH n H 4 (.own ob 0 X.length)=.sl .any 1 (Y2 X (some y)):=by
 have i:=uL X (some y)
 have d:(Y2 X (some y)).map (·.map (FH n H 3))=Y2 X (some y):=by
  show((X.map rowF).set (X.length-1) _).map _=_;rw[List.map_set,frz_rows mL n H 2 X];rfl
 rw[Cov.frzF_own n H 3 ob 0 X.length 1 _ U g,zI,jK U,d];rw[if_pos];refine⟨U,?_⟩;rw[zJ];intro row a;rcases List.mem_or_eq_of_mem_set a with a|rfl
 .obtain⟨x,_,rfl⟩:=zQ.1 a;rfl
 .rfl
structure BdB (p:Pt) (b:Bin):Prop where
 hs:KC b≠[]
 hl:(KC b).length<=1048576
 hr:∀s∈KC b,s.l.length<=1048576
 hb:(KH p.bins).length<=1048576
 hn:p.bins.length<=1048576
 hw:wt p.ex<=1048576
theorem A79 (h:Hp)(m:SM)(xs:List (List AV)):DJ jA false h 85 1 [(0,.sl m 2 xs)]=some (.sl .full 1 [[.sl m 2 xs]],h):=BC
theorem AT2 (h:Hp)(a b:Int)(s:ByteArray)(m:SM)(xs:List (List AV)):DJ jA false h 23 1 [(0,.agg [.n a,.n b,.str s,.sl m 4 xs])]=some (.sl .full 4 [[.n a,.n b,.str s,.sl m 4 xs]],h):=BC
theorem QX (h:Hp)(e:Ex):DJ jA false h 23 1 [(0,.agg (AQ e))]=some (.sl .full 4 [AQ e],h):=by
 rw[FK];exact AT2 h _ _ _ _ _
theorem AF5 (h:Hp)(m:SM)(xs:List (List AV)):DJ jA false h 100 1 [(0,.sl m 4 xs)]=some (.sl .full 1 [[.sl m 4 xs]],h):=BC
theorem A0H (xs:List (List AV)):JC jA 79 [(0,.n 4),(3,.sl .full 4 xs)]=some (.agg [.n 4,.n 0,.str ⟨#[]⟩,.sl .full 4 xs]):=BC
theorem ADV (e:Ex):AQ (notE e)=[.n 4,.n 0,.str ⟨#[]⟩,.sl .full 4 [AQ e]]:=by rw[FK];rfl
theorem AK9 {b:Nat}{x:Bin}(a:H[b]?=some (qG 4 [I7 x])):BO jA H 85 (.ptr b 0 3)=some (.sl x.sm 1 (x.steps.map encS)):=by
 rw[BK YG a (row:=I7 x) rfl,XC]
theorem A35 {b:Nat}(a:H[b]?=some (qG 6 [F8 p])):BO jA H 82 (.ptr b 0 0)=some (.agg (F8 p)):=by
 rw[EN kF bI a rfl (by rw[JB];exact jF 6),zI,<-JB p,List.take_length]
theorem WS (h:b.ranges.l=[]):KC b=b.steps:=by unfold KC;rw[if_pos h]
theorem cL (h:b.ranges.l≠[]):KC b=[b.ranges]:=by unfold KC;rw[if_neg h]
section
variable (G:Nat->AV)
theorem rI (p:Pt)(k:Nat)(hk:k<p.bins.length)(B:BdB p p.bins[k])(h:Hp):PCall (En G) 93 [.agg (F8 p),.n (k:Nat)] h (.sl .any 1 ((YM FO p p.bins[k]).map dC)):=by
 have a3:=AC6 ((KC p.bins[k]).map fun s=>FO p.ex s.l) (badO FO p);have aa:(((KC p.bins[k]).map fun s=>FO p.ex s.l).map fun x=>[x])=(KC p.bins[k]).map fun s=>[FO p.ex s.l]:=by rw[qE];rfl
 rw[aa] at a3;refine PCall.res ?_ (CvR.sl a3);clear a3 aa;refine ACalls.pure (R:=fun v H=>Sm.ext h H/\FH h.length H 4 v=.sl .any 1 (Y2 ((KC p.bins[k]).map fun s=>FO p.ex s.l) (badO FO p))) 4 ?_ (fun v H ⟨a,b⟩=>⟨a,b⟩);have E:=B.hs;have a7:=B.hl;have a1:=B.hr;have a8:=B.hb;have ai:=B.hn;have a9:=B.hw;refine IK (H:=hint [61] []) (enM G) Tryz.func93 rfl (by kernel_rfl) (by kernel_rfl) (jB (by kernel_rfl)) ?_;show awp _ _ _ _ _ (ML _ [.tmp 4] _);have gp:=AU (x:=qG 4 [I7 p.bins[k]]) (AZ h (qG 6 [F8 p]));have gb:=AZ (h++[qG 6 [F8 p]]) (qG 4 [I7 p.bins[k]]);have hx:Sm.ext h (h++[qG 6 [F8 p]]++[qG 4 [I7 p.bins[k]]]):=((ext.rfl' h).app _).app _;simp only[vQ,jZ,jS,jU,zN,CQ,WO,U0,↓reduceIte,jC,enP,ZL,KX,pO,jQ,AYK,AN7 (AZ h (qG 6 [F8 p])),CP hk,DL sC dX MM hk,al79,st79 _ _ [.str ⟨#[]⟩,.n 0,.sl .nil 0 [],.sl .nil 0 []] rfl]
 generalize h++[qG 6 [F8 p]]++[qG 4 [I7 p.bins[k]]]=H0 at gp gb hx|-
 generalize (h++[qG 6 [F8 p]]).length=b5 at gb|-
 generalize p.bins[k]=b at gb E a7 a1|-
 refine A7 (AK9 gb) (ALA gb) ?_;refine UB (fun F H=>∃s,F 2=.ptr h.length 0 0/\F 6=.sl s 1 ((KC b).map encS)/\H=H0) (fun _ _=>False) (fun T=>?_) (fun T=>?_) ?_ (fun _ _ q=>q.elim)
 .have al:b.ranges.l≠[]:=by
   intro q;rw[q] at T;exact absurd T DU
  refine A7 (ALA gb) A79 ?_;exact⟨_,AC,by rw[cL al];exact rfl,AC⟩
 .have he:b.ranges.l=[]:=by
   have:=of_decide_eq_false T;exact wM.1 U
  refine AB ?_;exact⟨_,AC,by rw[WS he],AC⟩
 rintro F H ⟨s,V,f6,rfl⟩
 generalize KC b=S at f6 E a7 a1|-
 refine AY f6 ?_;refine EK 0 (fun F f=>∃v,F 2=.ptr h.length 0 0/\F 7=v/\Sm.ext H f/\outG 1 rowF H (S.map fun s=>FO p.ex s.l) v f) (fun _ _=>False) ?_ ?_ (fun _ _ q=>q.elim)
 .refine BB (fun n F f=>∃i v,n+i=S.length/\F 2=.ptr h.length 0 0/\F 7=v/\F 26=.sl s 1 (S.map encS)/\F 27=.n (S.length:Nat)/\F 28=.n (i:Nat)/\Sm.ext H f/\outG 1 rowF H ((S.take i).map fun s=>FO p.ex s.l) v f) S.length
   ⟨0,.sl .nil 0 [],BA,UD V,EZ,UD f6,EZ,EZ,ext.rfl' _,by rw[qA];exact outG.nil _ _ _ _⟩ ?_
  clear V f6;rintro n F f ⟨i,v,hi,V,Z,ad,ae,Y,A,ho⟩;refine A7 ae Y ?_;refine DX ?_ ?_<;>intro M
  .have L:=DW A gp
   have ac:((S.take i).map fun s=>FO p.ex s.l).length<8388608:=by rw[jI,jR];omega
   obtain⟨v',Q,ha,am,_,aj,_,_⟩:=ho.append (P:=jA) kO lQ mZ lH U ac A (FO p.ex S[i].l);have ah:EH jA true f 100 100 v (.sl .full 1 [[.sl .full 4 [AQ (FO p.ex S[i].l)]]])=some (v',Q):=ha
   have an:(S.take (i+1)).map (fun s=>FO p.ex s.l)=(S.take i).map (fun s=>FO p.ex s.l)++[FO p.ex S[i].l]:=by
    rw[jV M,qC];rfl
   simp only[vQ,jZ,jS,jU,zN,CQ,↓reduceIte,jC,enP,cZ,tG,V,Z,ad,Y,CP M,BR TB M,lB,AD9 L];have O:PCall (En G) 168 [.agg (AQ p.ex),.sl S[i].m 2 (S[i].l.map encR)] f (.agg (AQ (FO p.ex S[i].l))):=inside_prog G p.ex S[i].l S[i].m (a1 _ (jH M)) a9 f;refine O.use ?_;refine KO Z Y @QX @AF5 ah (C9 i) ?_;exact⟨n-1,U,i+1,v',U,AC,AC,AC,AC,AC,aj,by rw[an];exact am⟩
  .rw[jK U] at ho
   refine AB ?_;exact⟨v,AC,AC,A,ho⟩
 rintro F f ⟨v,V,Z,A,ho⟩;clear f6;have L:=DW A gp;refine A7 V (A35 L) ?_;refine(AUM G p ai a8 f).uu ?_;have ar:0<S.length:=qR.2 E
 obtain⟨ob,rfl,aq,j⟩:∃ob,v=.own ob 0 S.length/\H.length<=ob/\f[ob]?=some (qG 1 ((S.map fun s=>FO p.ex s.l).map rowF)):=by
  rcases ho with⟨e1,_⟩|⟨_,o,h1,h2,h3⟩
  .exact absurd (BL e1) E
  .exact⟨o,by rw[h2,jI],h1,h3⟩
 have C:(S.map fun s=>FO p.ex s.l).length=S.length:=BA;have a0:(S.map fun s=>FO p.ex s.l)≠[]:=BL E;have ab:=hx.trans A;have au:=hx.le
 generalize (S.map fun s=>FO p.ex s.l)=X at j C a0|-
 refine BH ?_ ?_<;>intro T
 .have I:KH p.bins≠[]:=by
   intro q;rw[q] at T;exact absurd T DU
  have a2:badO FO p=some (FO p.ex (KH p.bins)):=by unfold badO;rw[if_neg I]
  rw[a2];have ao:IntKind.i64.wrap (((S.length:Nat):Int)-1)=((S.length-1:Nat):Int):=by rw[wrap_i64 U U];omega
  have O:PCall (En G) 168 [.agg (AQ p.ex),.sl (Cov.nm (KH p.bins)) 2 ((KH p.bins).map encR)] f (.agg (AQ (FO p.ex (KH p.bins)))):=inside_prog G p.ex (KH p.bins) (Cov.nm (KH p.bins)) a8 a9 f
  generalize FO p.ex (KH p.bins)=y at O|-
  have J:(X.map rowF)[S.length-1]?=some (rowF (J5 X)):=by
   rw[zB,<-C,vE a0];rfl
  have i1:JD 1 f (.own ob 0 S.length) (.n ((S.length-1:Nat):Int))=some (.ptr ob (S.length-1) 0):=by rw[GN j U,jG]
  have d1:BO jA f 23 (.ptr ob (S.length-1) 0)=some (.sl .full 4 [AQ (J5 X)]):=by rw[BK LU j J];rfl
  have ha:EH jA true f 23 23 (.sl .full 4 [AQ (J5 X)]) (.sl .full 4 [EQ])=some (.own f.length 0 2,f++[qG 4 ([AQ (J5 X)]++[EQ])]) :=
   ZZ NJ GZ QA P9 (H6 f .full 4 [EQ]) BA (I5 BA U)
  have gN:=AZ f (qG 4 ([AQ (J5 X)]++[EQ]));have gO:=AU (x:=qG 4 ([AQ (J5 X)]++[EQ])) j;have ap:=AX j;have i2:JD 4 (f++[qG 4 ([AQ (J5 X)]++[EQ])]) (.own f.length 0 2) (.n ((1:Nat):Int))=some (.ptr f.length 1 0):=GN (n:=1) gN DU;have i3:JD 1 (f++[qG 4 ([AQ (J5 X)]++[EQ])]) (.own ob 0 S.length) (.n ((S.length-1:Nat):Int))=some (.ptr ob (S.length-1) 0):=by rw[GN gO U,jG]
  have a6:=ab.app [qG 4 ([AQ (J5 X)]++[EQ])];generalize f++[qG 4 ([AQ (J5 X)]++[EQ])]=Q at gN gO i2 i3 ha a6;generalize av:f.length=g at gN i2 ha ap
  have a4:∀K:Hp,K[g]?=some (qG 4 ([AQ (J5 X)]++[EQ]))->D8 jA K 79 (.ptr g 1 0) (.agg [.n 4,.n 0,.str ⟨#[]⟩,.sl .full 4 [AQ y]])=some (K.set g (qG 4 [AQ (J5 X),AQ (notE y)])):=fun K hq=>by
   rw[IJ (i:=1) (RV rfl) GZ hq rfl (jF 4),ADV];rfl
  have a5:∀K:Hp,K[ob]?=some (qG 1 (X.map rowF))->D8 jA K 23 (.ptr ob (S.length-1) 0) (.own g 0 2)=some (K.set ob (qG 1 ((X.map rowF).set (X.length-1) [.own g 0 2]))):=fun K hq=>by
   rw[IJ (cs:=[.own g 0 2]) rfl lQ hq J (by exact jF 1),C];rfl
  have q1:=a4 Q gN;have q2:=a5 (Q.set g (qG 4 [AQ (J5 X),AQ (notE y)])) (DF gO U);have q3:=a5 Q gO;have q4:=a4 (Q.set ob (qG 1 ((X.map rowF).set (X.length-1) [.own g 0 2]))) (DF gN U);rw[List.set_comm _ _ (U:ob≠g)] at q4;clear a4 a5;have af:((Q.set g (qG 4 [AQ (J5 X),AQ (notE y)])).set ob (qG 1 ((X.map rowF).set (X.length-1) [.own g 0 2])))[ob]?=some (qG 1 ((X.map rowF).set (X.length-1) [.own g 0 2])):=CJ (DF gO U);have ag:((Q.set g (qG 4 [AQ (J5 X),AQ (notE y)])).set ob (qG 1 ((X.map rowF).set (X.length-1) [.own g 0 2])))[g]?=some (qG 4 [AQ (J5 X),AQ (notE y)]):=DF (CJ gN) U;have hF:=(a6.set (U:h.length<=g) (qG 4 [AQ (J5 X),AQ (notE y)])).set (U:h.length<=ob) (qG 1 ((X.map rowF).set (X.length-1) [.own g 0 2]));have ak:=AOJ (n:=h.length) (y:=y) U U a0 af ag;refine DC Z @VR.2 ao ?_;refine AGD [] [0,1,2,3,4,5,6,7,8,9,10,11,12,13,15] 14 16 [] BC trivial ?_;simp only[O7,List.getElem?_cons_succ,List.getElem?_cons_zero];refine H7 V Z i1 d1 (AD9 L) ?_;refine⟨_,O,?_⟩
  try simp only[vQ,jZ,jS,jU,zN,QK,XN,JF,QZ,JE,CQ,NS,↓reduceIte,jC,jP,enP,PU,AAG,vH,jQ,QX,A0H,A5Y,A0F,ha,i2,i3,zF,zH,q1,q2,q3,q4]
  rw[Z,<-C,ak];exact⟨⟨hF,rfl⟩,hF,rfl⟩
 .have I:KH p.bins=[]:=by
   have:=of_decide_eq_false T;exact wM.1 U
  have a2:badO FO p=none:=by unfold badO;rw[if_pos I]
  rw[a2];refine AY Z ?_;refine⟨ab,?_⟩;have:=frz_own (d:=2) mL (n:=h.length) (U:h.length<=ob) j;rw[C] at this;exact this
end
section
variable (G:Nat->AV)
theorem AYQ (p:Pt)(k:Nat)(hk:k<p.bins.length)(B:BdB p p.bins[k])(C:p.bins[k].steps=[]\/p.bins[k].ranges.l=[])(h:Hp):PCall (En G) 201 [.agg (F8 p),.n (k:Nat)] h (.sl .any 1 ((YM GV p p.bins[k]).map dC)):=by
 have a2:=AC6 ((KC p.bins[k]).map fun s=>GV p.ex s.l) (badO GV p);have a7:(((KC p.bins[k]).map fun s=>GV p.ex s.l).map fun x=>[x])=(KC p.bins[k]).map fun s=>[GV p.ex s.l]:=by rw[qE];rfl
 rw[a7] at a2;refine PCall.res ?_ (CvR.sl a2);clear a2 a7;refine ACalls.pure (R:=fun v H=>Sm.ext h H/\FH h.length H 4 v=.sl .any 1 (Y2 ((KC p.bins[k]).map fun s=>GV p.ex s.l) (badO GV p))) 4 ?_ (fun v H ⟨a,b⟩=>⟨a,b⟩);have A:=B.hs;have V:=B.hl;have I:=B.hr;have a6:=B.hb;have ac:=B.hn;have ai:=B.hw;refine IK (H:=hint [33,66] []) (enM G) Tryz.func201 rfl (by kernel_rfl) (by kernel_rfl) (jB (by kernel_rfl)) ?_;show awp _ _ _ _ _ (ML _ [.tmp 4] _);have gp:=AU (x:=qG 4 [I7 p.bins[k]]) (AZ h (qG 6 [F8 p]));have gb:=AZ (h++[qG 6 [F8 p]]) (qG 4 [I7 p.bins[k]]);have hx:Sm.ext h (h++[qG 6 [F8 p]]++[qG 4 [I7 p.bins[k]]]):=((ext.rfl' h).app _).app _;simp only[vQ,jZ,jS,jU,zN,CQ,WO,U0,↓reduceIte,jC,enP,ZL,KX,jQ,AYK,AN7 (AZ h (qG 6 [F8 p])),CP hk,DL sC dX MM hk,al79,st79 _ _ [.str ⟨#[]⟩,.n 0,.sl .nil 0 [],.sl .nil 0 []] rfl]
 generalize h++[qG 6 [F8 p]]++[qG 4 [I7 p.bins[k]]]=H0 at gp gb hx|-
 generalize (h++[qG 6 [F8 p]]).length=b6 at gb|-
 generalize p.bins[k]=b at gb A V I C|-
 have aa:b.steps.length<=1048576:=by
  rcases C with q|q
  .rw[q];simp
  .rw[WS q] at V;exact V
 have af:∀s∈b.steps,s.l.length<=1048576:=by
  rcases C with q|q
  .rw[q];intro s hs;cases hs
  .rw[WS q] at I;exact I
 refine EK 0 (fun F f=>∃v,F 2=.ptr h.length 0 0/\F 6=.ptr b6 0 0/\F 5=v/\Sm.ext H0 f/\outG 1 rowF H0 (b.steps.map fun s=>GV p.ex s.l) v f) (fun _ _=>False) ?_ ?_ (fun _ _ q=>q.elim)
 .refine BB (fun n F f=>∃i v,n+i=b.steps.length/\F 2=.ptr h.length 0 0/\F 6=.ptr b6 0 0/\F 5=v/\F 7=.n (i:Nat)/\Sm.ext H0 f/\outG 1 rowF H0 ((b.steps.take i).map fun s=>GV p.ex s.l) v f) b.steps.length
   ⟨0,.sl .nil 0 [],BA,EZ,EZ,EZ,EZ,ext.rfl' _,by rw[qA];exact outG.nil _ _ _ _⟩ ?_
  rintro n F f ⟨i,v,hi,Z,f6,T,f7,g,Q⟩;have E:=DW g gb;refine DC f6 f7 (AK9 E) ?_;refine DX ?_ ?_<;>intro Y
  .have j:=DW g gp
   have a9:((b.steps.take i).map fun s=>GV p.ex s.l).length<8388608:=by rw[jI,jR];omega
   obtain⟨v',H2,ha,a4,_,a3,_,_⟩:=Q.append (P:=jA) kO lQ mZ lH U a9 g (GV p.ex b.steps[i].l);have a0:EH jA true f 100 100 v (.sl .full 1 [[.sl .full 4 [AQ (GV p.ex b.steps[i].l)]]])=some (v',H2):=ha
   have aa:(b.steps.take (i+1)).map (fun s=>GV p.ex s.l)=(b.steps.take i).map (fun s=>GV p.ex s.l)++[GV p.ex b.steps[i].l]:=by
    rw[jV Y,qC];rfl
   have J:PCall (En G) 268 [.agg (AQ p.ex),.sl b.steps[i].m 2 (b.steps[i].l.map encR)] f (.agg (AQ (GV p.ex b.steps[i].l))):=dO G p.ex b.steps[i].l b.steps[i].m (af _ (jH Y)) f;refine AB ?_;refine DR BC ?_;simp only[vQ,jZ,jS,jU,zN,JF,MS,MN,↓reduceIte,jC,jP,enP,cZ,tG,pO,Z,T,f6,f7,CP Y,BR TB Y,lB,AD9 j,AK9 E];refine⟨_,J,?_⟩
   try simp only[vQ,jZ,jS,jU,zN,KQ,JF,JE,CQ,↓reduceIte,jC,jP,enP,f7,QX,AF5,a0,C9 i]
   exact⟨n-1,U,i+1,v',U,AC,AC,AC,AC,a3,by rw[aa];exact a4⟩
  .rw[jK U] at Q
   refine AB ?_;exact⟨v,AC,AC,AC,g,Q⟩
 rintro F f ⟨v,Z,f6,T,g,Q⟩;have j:=DW g gp;have E:=DW g gb;refine A7 f6 (AK9 E) ?_;refine UB (fun F H=>∃v,F 2=.ptr h.length 0 0/\F 5=v/\Sm.ext H0 H/\outG 1 rowF H0 ((KC b).map fun s=>GV p.ex s.l) v H) (fun _ _=>False) (fun hc=>?_) (fun hc=>?_) ?_ (fun _ _ q=>q.elim)
 .have he:b.steps=[]:=by
   have:((b.steps.length:Nat):Int)=0:=BL hc;exact wM.1 U
  have hr:b.ranges.l≠[]:=by
   intro q;rw[WS q,he] at A;exact A rfl
  rw[cL hr] at I;rw[he] at Q
  have hv:v=.sl .nil 0 []:=by
   rcases Q with⟨_,q⟩|⟨q,_⟩
   .exact q
   .exact absurd rfl q
  subst hv;have J:PCall (En G) 268 [.agg (AQ p.ex),.sl b.ranges.m 2 (b.ranges.l.map encR)] f (.agg (AQ (GV p.ex b.ranges.l))):=dO G p.ex b.ranges.l b.ranges.m (I _ BA) f;obtain⟨v',H2,ha,a4,_,a3,_,_⟩:=(outG.nil (α:=Ex) 1 rowF H0 f).append (P:=jA) kO lQ mZ lH U BA g (GV p.ex b.ranges.l);have a0:EH jA true f 100 100 (.sl .nil 0 []) (.sl .full 1 [[.sl .full 4 [AQ (GV p.ex b.ranges.l)]]])=some (v',H2):=ha;refine H7 Z T f6 (AD9 j) (ALA E) ?_;refine J.use ?_;refine H7 Z T @QX @AF5 a0 ?_;exact⟨v',AC,AC,a3,by rw[cL hr];exact a4⟩
 .have he:b.steps≠[]:=by
   intro q;rw[q] at hc;exact absurd hc DU
  have hr:b.ranges.l=[]:=C.resolve_left he;refine AB ?_;exact⟨v,AC,AC,g,by rw[WS hr];exact Q⟩
 clear Z f6 T Q j E g;rintro F f ⟨v,Z,T,g,Q⟩
 generalize KC b=S at A V I Q|-
 have j:=DW g gp;refine A7 Z (A35 j) ?_;refine(AYU G p ac a6 f).uu ?_;have ah:0<S.length:=qR.2 A
 obtain⟨ob,rfl,ag,K⟩:∃ob,v=.own ob 0 S.length/\H0.length<=ob/\f[ob]?=some (qG 1 ((S.map fun s=>GV p.ex s.l).map rowF)):=by
  rcases Q with⟨e1,_⟩|⟨_,o,h1,h2,h3⟩
  .exact absurd (BL e1) A
  .exact⟨o,by rw[h2,jI],h1,h3⟩
 have L:(S.map fun s=>GV p.ex s.l).length=S.length:=BA;have a5:(S.map fun s=>GV p.ex s.l)≠[]:=BL A;have a8:=hx.trans g;have aj:=hx.le
 generalize (S.map fun s=>GV p.ex s.l)=X at K L a5|-
 refine BH ?_ ?_<;>intro hc
 .have M:KH p.bins≠[]:=by
   intro q;rw[q] at hc;exact absurd hc DU
  have a1:badO GV p=some (GV p.ex (KH p.bins)):=by unfold badO;rw[if_neg M]
  rw[a1];have ab:IntKind.i64.wrap (((S.length:Nat):Int)-1)=((S.length-1:Nat):Int):=by rw[wrap_i64 U U];omega
  have J:PCall (En G) 268 [.agg (AQ p.ex),.sl (Cov.nm (KH p.bins)) 2 ((KH p.bins).map encR)] f (.agg (AQ (GV p.ex (KH p.bins)))):=dO G p.ex (KH p.bins) (Cov.nm (KH p.bins)) a6 f
  generalize GV p.ex (KH p.bins)=y at J|-
  have O:(X.map rowF)[S.length-1]?=some (rowF (J5 X)):=by
   rw[zB,<-L,vE a5];rfl
  have i1:JD 1 f (.own ob 0 S.length) (.n ((S.length-1:Nat):Int))=some (.ptr ob (S.length-1) 0):=by rw[GN K U,jG]
  have d1:BO jA f 23 (.ptr ob (S.length-1) 0)=some (.sl .full 4 [AQ (J5 X)]):=by rw[BK LU K O];rfl
  have ae:NV jA f 23 23 (.sl .full 4 [AQ (J5 X)]) (.sl .full 4 [AQ (notE y)])=true:=tN NJ GZ (H6 _ _ _ _) (H6 _ _ _ _) (NH [J5 X,notE y])
  have ha:EH jA false f 23 23 (.sl .full 4 [AQ (J5 X)]) (.sl .full 4 [AQ (notE y)])=some (.sl .any 4 [AQ (J5 X),AQ (notE y)],f) :=
   AJF (xs:=[AQ (J5 X)]) NJ GZ QA P9 (H6 f .full 4 [AQ (notE y)]) BA (I5 BA U)
  have q1:D8 jA f 23 (.ptr ob (S.length-1) 0) (.sl .any 4 [AQ (J5 X),AQ (notE y)])=some (f.set ob (qG 1 ((X.map rowF).set (X.length-1) [.sl .any 4 [AQ (J5 X),AQ (notE y)]]))):=by
   rw[IJ (cs:=[.sl .any 4 [AQ (J5 X),AQ (notE y)]]) rfl lQ K O (by exact jF 1),L];rfl
  have gF:(f.set ob (qG 1 ((X.map rowF).set (X.length-1) [.sl .any 4 [AQ (J5 X),AQ (notE y)]])))[ob]?=some (qG 1 (Y2 X (some y))):=CJ K;have hF:=a8.set (U:h.length<=ob) (qG 1 ((X.map rowF).set (X.length-1) [.sl .any 4 [AQ (J5 X),AQ (notE y)]]));refine KZ Z T @VR.2 ab i1 d1 (AD9 j) ?_;refine J.use ?_;have ad:∀H:Hp,DJ jA false H 23 1 [(0,.agg [.n 4,.n 0,.str ⟨#[]⟩,.sl .full 4 [AQ y]])]=some (.sl .full 4 [AQ (notE y)],H):=fun H=>by rw[ADV,AT2]
  simp only[vQ,jZ,jS,jU,zN,Bool.or_true,CQ,NS,tZ,MR,↓reduceIte,jC,Bool.not_true,enP,vH,jQ,QX,A0H,ad,tZ,ae,ha,T,VR.2,ab,i1,q1];refine⟨hF,?_⟩;rw[<-L];exact AOK U gF
 .have M:KH p.bins=[]:=by
   have:=of_decide_eq_false hc;exact wM.1 U
  have a1:badO GV p=none:=by unfold badO;rw[if_pos M]
  rw[a1];refine AY T ?_;refine⟨a8,?_⟩;have:=frz_own (d:=2) mL (n:=h.length) (U:h.length<=ob) K;rw[L] at this;exact this
end
def P8 (l:List Ex):List AV:=AZ8 ⟨Cov.nm l,l⟩
def PH (c:List (List Ex)):List AV:=[.sl .any 1 (c.map dC)]
theorem pZ (c:List (List Ex)):(PH c)[0]?=some (.sl .any 1 (c.map dC)):=rfl
theorem AZ9 (l:List Ex):(dC l)[0]?=some (.sl .any 4 (l.map AQ)):=rfl
structure OL (n0:Nat) (H:Hp) (ob n:Nat) (v:Nat->AV) (X:Nat->List Ex):Prop where
 gob:H[ob]?=some (qG 1 ((zL n).map fun t=>[v t]))
 lo:n0<=ob
 each:∀t,t<n->(X t=[]/\v t=.sl .nil 0 [])\/(X t≠[]/\∃o,n0<=o/\v t=.own o 0 (X t).length/\H[o]?=some (qG 4 ((X t).map AQ)))
 ap:∀t u b,t<n->u<n->isB (v t) b->isB (v u) b->t=u
 ne:∀t b,t<n->isB (v t) b->b≠ob
def eE {α:Type}(f:Nat->α)(a:Nat)(x:α)(t:Nat):α:=if t=a then x else f t
theorem ANK {a:Nat}{x:AV}(_ha:a<n):((zL n).map fun t=>[v t]).set a [x]=(zL n).map fun t=>[eE v a x t]:=by
 apply List.ext_getElem
 .simp
 intro i d f;rw[List.getElem_set];simp only[List.getElem_map,List.getElem_range,eE];by_cases e:a=i
 .rw[if_pos e,if_pos e.symm]
 .rw[if_neg e,if_neg (Ne.symm e)]
theorem hQ {a:Nat}{v:AV}(d:a=h.length):((X=[]/\v=.sl .nil 0 [])\/(X≠[]/\∃o,a<=o/\v=.own o 0 X.length/\H[o]?=some (qG 4 (X.map AQ))))↔outG 4 AQ h X v H:=by subst d;exact Iff.rfl
theorem OL.app {a:Nat}{X:Nat->List Ex}(O:OL h.length H ob n v X)(A:a<n)(S:ext h H)(s:SM)(ys:List Ex)(R:(X a).length+ys.length<=8388608):
  ∃ g H',EH jA true H 23 23 (v a) (.sl s 4 (ys.map AQ))=some (g,H')/\H'[ob]?=some (qG 1 ((zL n).map fun t=>[v t]))/\JH g=some [g] /\
    OL h.length (H'.set ob (qG 1 ((zL n).map fun t=>[eE v a g t]))) ob n (eE v a g) (eE X a (X a++ys))/\ext h (H'.set ob (qG 1 ((zL n).map fun t=>[eE v a g t]))):=by
 obtain⟨g,H',M,J,K,Q,Y,C⟩:=MB (P:=jA) s ((hQ rfl).1 (O.each a A)) NJ GZ QA P9 U (ys:=ys) R S;have T:=AX O.gob;have I:=K _ _ O.gob (fun q=>O.ne a _ A q rfl)
 have B:∀t b,t<n->isB (v t) b->b<H.length:=fun t b f d=>((hQ rfl).1 (O.each t f)).lt d |>.2
 have l:∀b,isB g b->b≠ob:=fun b d=>by
  rcases C b d with q|q
  .exact O.ne a b A q
  .omega
 have E:JH g=some [g]:=by
  rcases J with⟨_,rfl⟩|⟨_,o,_,rfl,_⟩<;>rfl
 refine⟨g,H',M,I,E,⟨CJ I,O.lo,fun t f=>?_,fun t u b f F i j=>?_,fun t b f d=>?_⟩,Q.set O.lo _⟩
 .by_cases e:t=a
  .subst e
   simp only[eE,if_true];exact(hQ rfl).2 (J.keep fun b d=>by rw[zW (Ne.symm (l b d))])
  .simp only[eE,if_neg e]
   refine(hQ rfl).2 (((hQ rfl).1 (O.each t f)).keep fun b d=>?_);rw[zW (Ne.symm (O.ne t b f d))];rcases O.each t f with⟨_,q⟩|⟨_,o,_,q,L⟩
   .rw[q] at d;exact d.elim
   .rw[q] at d;cases d
    rw[L];exact K _ _ L fun V=>e (O.ap t a _ f A (by rw[q];rfl) V)
 .simp only[eE] at i j
  by_cases e1:t=a<;>by_cases e2:u=a
  .rw[e1,e2]
  .rw[if_pos e1] at i;rw[if_neg e2] at j
   rcases C b i with q|q
   .exact e1.trans (O.ap a u b A F q j)
   .have:=B u b F j;omega
  .rw[if_neg e1] at i;rw[if_pos e2] at j
   rcases C b j with q|q
   .exact(O.ap t a b f A i q).trans e2.symm
   .have:=B t b f i;omega
  .rw[if_neg e1] at i;rw[if_neg e2] at j
   exact O.ap t u b f F i j
 .simp only[eE] at d
  by_cases e1:t=a
  .rw[if_pos e1] at d;exact l b d
  .rw[if_neg e1] at d;exact O.ne t b f d
theorem OL.frz {d:Nat}{X:Nat->List Ex}(O:OL d H ob n v X)(h:Hp)(f:d=h.length):FH h.length H 4 (.own ob 0 n)=.sl .any 1 ((zL n).map fun t=>[fzG 4 AQ (X t)]):=by
 subst f
 have g:((zL n).map fun t=>[v t]).map (·.map (FH h.length H 3))=(zL n).map fun t=>[fzG 4 AQ (X t)]:=by
  rw[qE];refine wB fun t j=>?_
  have a:t<n:=BL j;show [FH h.length H 3 (v t)]=_;rw[LP frzEx ((hQ rfl).1 (O.each t a)) h.length 1 (jF _)]
 rw[Cov.frzF_own h.length H 3 ob 0 n 1 _ (by have:=O.lo;omega) O.gob,zI,jK BA,g];rw[if_pos];refine⟨BA,?_⟩;rw[zJ];intro row i;obtain⟨t,_,rfl⟩:=zQ.1 i;cases X t<;>rfl
theorem ASX (l:List Ex):CvRow [fzG 4 AQ l] (P8 l):=by
 cases l with
 | nil=>exact CvRow.cons rfl (Cv.nil 0 4) CvRow.nil
 | cons x a=>exact CvRow.cons rfl (Cv.refl _) CvRow.nil
def rowP (n i t:Nat)(c:List (List Ex)):List Ex:=if n-c.length<=t/\t<n-c.length+i then c[t-(n-c.length)]?.getD [] else []
theorem ANC (n t:Nat)(c:List (List Ex)):rowP n 0 t c=[]:=by unfold rowP;rw[if_neg U]
theorem ANE (d:t<n)(a:c.length<=n):rowP n c.length t c=XW n t c:=by
 unfold rowP XW;by_cases h:n-c.length<=t
 .rw[if_pos ⟨h,U⟩,if_pos h]
 .rw[if_neg U,if_neg h]
theorem uN (n t:Nat)(cs:List (List (List Ex)))(j:Nat)(a:j<cs.length):rowA n (cs.take (j+1)) t=rowA n (cs.take j) t++XW n t cs[j]:=by
 unfold rowA;rw[jV a,List.flatMap_append];simp
theorem AQY {B:Nat}(h:∀r∈c,r.length<=B):(XW n t c).length<=B:=by
 unfold XW;split
 .cases a:c[t-(n-c.length)]? with
  | none=>exact qF _
  | some r=>exact h r (List.mem_of_getElem? a)
 .exact qF _
theorem Y4 {n t B:Nat}:∀ {cs:List (List (List Ex))},(∀c∈cs,∀r∈c,r.length<=B)->(rowA n cs t).length<=B*cs.length
 | [],_=>by simp [rowA]
 | c::cs,h=>by
   have d:=AQY (n:=n) (t:=t) (h c BA);have f:=Y4 (n:=n) (t:=t) (cs:=cs) fun c a=>h c (by simp [a])
   show(XW n t c++rowA n cs t).length<=_;rw[jW,zF,Nat.mul_add];omega
theorem A7P (h:Hp)(n:Nat)(f:n<=1048576):I4 jA true h 100 (.n (n:Int)) (.n (n:Int))=some (.own h.length 0 n,h++[qG 1 ((zL n).map fun _=>[.sl .nil 0 []])]):=by
 have d:OV jA 23=some [.sl .nil 0 []]:=BC;have a:room n 24:=I5 U U;unfold I4;simp only[kO,lQ,lH,d,Int.toNat_natCast];rw[if_pos ⟨U,Int.le_refl _,a,rfl⟩];have e:(zL n).map (fun _=>[AV.sl .nil 0 []])=List.replicate n [.sl .nil 0 []]:=by rw[List.map_const',List.length_range]
 rw[e];rfl
theorem rowP_step {i:Nat}(d:c.length<=n)(a:i<c.length)(_ht:t<n):rowP n (i+1) t c=if t=n-c.length+i then c[i] else rowP n i t c:=by
 unfold rowP;by_cases e:t=n-c.length+i
 .rw[if_pos e,if_pos U,show t-(n-c.length)=i by omega,jO a];rfl
 .rw[if_neg e]
  by_cases h:n-c.length<=t/\t<n-c.length+i
  .rw[if_pos h,if_pos U]
  .rw[if_neg h,if_neg U]
section
variable (G:Nat->AV)
theorem ABS (cs:List (List (List Ex)))(s:SM)(ac:cs.length<=1048576)(hl:∀c∈cs,c.length<=1048576)(hr:∀c∈cs,∀r∈c,r.length<=2)(h:Hp):PCall (En G) 95 [.sl s 1 (cs.map PH)] h (.sl .any 1 ((OT cs).map P8)):=by
 have Y:Cv (.sl .any 1 ((zL (QO cs)).map fun t=>[fzG 4 AQ (rowA (QO cs) cs t)])) (.sl .any 1 ((OT cs).map P8)):=by
  unfold OT;rw[qE];exact Cv.map fun t _=>ASX _
 refine PCall.res ?_ (CvR.sl Y);clear Y;refine ACalls.pure (R:=fun v H=>Sm.ext h H/\FH h.length H 4 v=.sl .any 1 ((zL (QO cs)).map fun t=>[fzG 4 AQ (rowA (QO cs) cs t)])) 4 ?_ (fun v H ⟨a,b⟩=>⟨a,b⟩);have a7:QO cs<=1048576:=X4 cs 0 _ (qF _) hl;refine acT Tryz.func95 2 ?_;refine AY AK5 ?_;refine EK 0 (fun F E=>F 0=.sl s 1 (cs.map PH)/\F 3=.n (QO cs:Nat)/\E=h) (fun _ _=>False) ?_ ?_ (fun _ _ q=>q.elim)
 .refine BB (fun n F E=>∃i,n+i=cs.length/\F 0=.sl s 1 (cs.map PH)/\F 3=.n (QO (cs.take i):Nat)/\F 12=.sl s 1 (cs.map PH)/\F 13=.n (cs.length:Nat)/\F 14=.n (i:Nat)/\E=h) cs.length
   ⟨0,BA,AO,AO,AO,AO,AO,rfl⟩ ?_
  rintro n F H ⟨i,hi,f0,C,f12,f13,f14,rfl⟩;refine A7 f13 f14 ?_;refine DX ?_ ?_<;>intro d
  .have hm:max ((QO (cs.take i):Nat):Int) ((cs[i].length:Nat):Int)=((QO (cs.take (i+1)):Nat):Int):=by rw[vC cs i d];omega
   simp only[vQ,CQ,AB1,oL,↓reduceIte,jC,enP,VR,AEA,C,f12,f14,CP d,BR AGL d,pZ,jI,hm,C9 i];exact⟨n-1,U,i+1,U,AC,AC,AC,AC,AC,AC⟩
  .rw[jK U] at C
   refine AB ?_;exact⟨AC,AC,AC⟩
 rintro F H ⟨f0,C,rfl⟩;generalize hN:QO cs=N at *;have g0:=AZ H (qG 1 ((zL N).map fun _=>[AV.sl .nil 0 []]))
 have O0:OL H.length (H++[qG 1 ((zL N).map fun _=>[AV.sl .nil 0 []])]) H.length N (fun _=>.sl .nil 0 []) (fun _=>[]) :=
  ⟨g0,jF _,fun t _=>.inl ⟨rfl,rfl⟩,fun t u b _ _ q=>q.elim,fun t b _ q=>q.elim⟩
 have T:Sm.ext H (H++[qG 1 ((zL N).map fun _=>[AV.sl .nil 0 []])]):=(ext.rfl' H).app _;refine EG AK5 f0 C (A7P H N a7) ?_
 generalize H++[qG 1 ((zL N).map fun _=>[AV.sl .nil 0 []])]=H0 at O0 T|-
 refine BB (fun n F E=>∃j v X,n+j=cs.length/\F 3=.n (N:Nat)/\F 6=.own H.length 0 N/\F 25=.sl s 1 (cs.map PH)/\F 26=.n (cs.length:Nat)/\F 27=.n (j:Nat)/\OL H.length E H.length N v X/\(∀t,t<N->X t=rowA N (cs.take j) t)/\Sm.ext H E) cs.length
  ⟨0,_,_,BA,D7 C,AO,AO,AO,AO,O0,fun t _=>by rw[qA];rfl,T⟩ ?_
 clear O0 T f0 C g0;rintro n F H1 ⟨j,v,X,hj,C,P,l,A,g,O,I,L⟩;refine A7 A g ?_;refine DX ?_ ?_<;>intro J
 .have S:cs[j].length<=N:=by rw[<-hN];exact oP (jH J)
  have a0:=hr _ (jH J)
  have a8:∀t,(rowA N (cs.take j) t).length<=2*j:=fun t=>by
   have:=Y4 (n:=N) (t:=t) (B:=2) (cs:=cs.take j) fun c hc=>hr c (List.mem_of_mem_take hc)
   rw[jR,Nat.min_eq_left U] at this;exact this
  have a4:∀t,rowA N (cs.take (j+1)) t=rowA N (cs.take j) t++XW N t cs[j]:=fun t=>uN N t cs j J
  simp only[vQ,CQ,↓reduceIte,jC,enP,VR,AEA,l,g,CP J,BR AGL J,pZ,jI]
  generalize cs[j]=c at S a0 a4|-
  refine EK 4 (fun F E=>∃v X,F 3=.n (N:Nat)/\F 6=.own H.length 0 N/\F 25=.sl s 1 (cs.map PH)/\F 26=.n (cs.length:Nat)/\F 27=.n (j:Nat)/\OL H.length E H.length N v X/\(∀t,t<N->X t=rowA N (cs.take (j+1)) t)/\Sm.ext H E) (fun _ _=>False) ?_ ?_ (fun _ _ q=>q.elim)
  .refine BB (fun n F E=>∃i v X,n+i=c.length/\F 3=.n (N:Nat)/\F 6=.own H.length 0 N/\F 8=.sl .any 1 (c.map dC)/\F 25=.sl s 1 (cs.map PH)/\F 26=.n (cs.length:Nat)/\F 27=.n (j:Nat)/\F 31=.sl .any 1 (c.map dC)/\F 32=.n (c.length:Nat)/\F 33=.n (i:Nat)/\OL H.length E H.length N v X/\(∀t,t<N->X t=rowA N (cs.take j) t++rowP N i t c)/\Sm.ext H E) c.length
    ⟨0,v,X,BA,D7 C,D7 P,AO,D7 l,D7 A,D7 g,AO,AO,AO,O,fun t K=>by rw[ANC,jM];exact I t K,L⟩ ?_
   clear C P l A g O I L;rintro n2 F H2 ⟨i,v,X,hi,C,P,f8,l,A,g,a5,f32,V,O,I,L⟩;refine A7 f32 V ?_;refine BH ?_ ?_<;>intro hd
   .have d:i<c.length:=BL hd
    have Q:N-c.length+i<N:=U
    have Z:(X (N-c.length+i)).length+c[i].length<=8388608:=by
     have h1:=a8 (N-c.length+i);have h2:=a0 _ (jH d);rw[I _ Q,jW];have h3:rowP N i (N-c.length+i) c=[]:=by unfold rowP;rw[if_neg U]
     rw[h3,zH];omega
    obtain⟨v',H3,a1,a2,a3,O2,ab⟩:=O.app Q L .any c[i] Z;have a9:IntKind.i64.wrap (((N:Nat):Int)-((c.length:Nat):Int))=((N-c.length:Nat):Int):=by rw[wrap_i64 U U];omega
    have aa:IntKind.i64.wrap (((N-c.length:Nat):Int)+((i:Nat):Int))=((N-c.length+i:Nat):Int):=by rw[wrap_i64 U U];omega
    have i1:JD 1 H2 (.own H.length 0 N) (.n ((N-c.length+i:Nat):Int))=some (.ptr H.length (N-c.length+i) 0):=by rw[GN O.gob Q,jG]
    have M:∀f:Nat->AV,((zL N).map fun t=>[f t])[N-c.length+i]?=some [f (N-c.length+i)]:=fun f=>by
     rw[zB,List.getElem?_range Q];rfl
    have d1:BO jA H2 23 (.ptr H.length (N-c.length+i) 0)=some (v (N-c.length+i)):=by rw[BK LU O.gob (M v)];rfl
    have i2:JD 1 H3 (.own H.length 0 N) (.n ((N-c.length+i:Nat):Int))=some (.ptr H.length (N-c.length+i) 0):=by rw[GN a2 Q,jG]
    have s1:D8 jA H3 23 (.ptr H.length (N-c.length+i) 0) v'=some (H3.set H.length (qG 1 ((zL N).map fun t=>[eE v (N-c.length+i) v' t]))):=by
     rw[IJ (cs:=[v']) a3 lQ a2 (M v) (by exact jF 1),<-ANK Q];rfl
    have a6:∀t,t<N->eE X (N-c.length+i) (X (N-c.length+i)++c[i]) t=rowA N (cs.take j) t++rowP N (i+1) t c:=fun t K=>by
     rw[rowP_step S d K];by_cases e:t=N-c.length+i
     .rw[if_pos e]
      simp only[eE,if_pos e];rw[I _ Q,<-e];have h3:rowP N i t c=[]:=by unfold rowP;rw[if_neg U]
      rw[h3,jM]
     .rw[if_neg e]
      simp only[eE,if_neg e];exact I t K
    simp only[vQ,CQ,MR,↓reduceIte,jC,enP,vH,VR,jQ,C,P,f8,a5,V,CP d,BR LU d,AZ9,jI,a9,aa,i1,d1,a1,i2,s1,C9 i];exact⟨n2-1,U,i+1,_,_,U,AC,AC,AC,AC,AC,AC,AC,AC,AC,O2,a6,ab⟩
   .have d:i=c.length:=by have:¬i<c.length:=BL hd
                          omega
    subst d;refine AB ?_;exact⟨v,X,AC,AC,AC,AC,AC,O,fun t K=>by rw[I t K,a4,ANE K S],L⟩
  .clear C P l A g O I L
   rintro F H2 ⟨v,X,C,P,l,A,g,O,I,L⟩;refine A7 g (C9 j) ?_;exact⟨n-1,U,j+1,v,X,U,AC,AC,AC,AC,AC,O,I,L⟩
 .rw[jK U] at I
  refine AY P ?_;refine⟨L,?_⟩;rw[O.frz H rfl];congr 1;refine wB fun t K=>?_
  rw[I t (BL K)]
end
def growR_ren:Go.Shelf.Ren:=⟨fun|4=>98|n=>n,fun|22=>23|25=>79|3=>3|4=>4|9=>9|20=>20|0=>0|n=>n,fun|n=>n⟩
theorem growR:Go.Proofs.Lays8.n4 jA growR_ren := {
 mixed:=BC,
 f4:=⟨Tryz.f98.name,by decide,Tryz.func98.trans (congrArg some BC)⟩,
 t0:=Tryz.underlying0,
 a0:=Tryz.isAgg0,
 z0:=Tryz.sizeOf0,
 v0:=Tryz.zeroValue0,
 t3:=Tryz.underlying3,
 a3:=Tryz.isAgg3,
 z3:=Tryz.sizeOf3,
 v3:=Tryz.zeroValue3,
 t4:=Tryz.underlying4,
 a4:=Tryz.isAgg4,
 z4:=Tryz.sizeOf4,
 v4:=Tryz.zeroValue4,
 t9:=Tryz.underlying9,
 a9:=Tryz.isAgg9,
 z9:=Tryz.sizeOf9,
 v9:=Tryz.zeroValue9,
 t20:=Tryz.underlying20,
 a20:=Tryz.isAgg20,
 z20:=Tryz.sizeOf20,
 v20:=Tryz.zeroValue20,
 t22:=Tryz.underlying23,
 a22:=Tryz.isAgg23,
 z22:=Tryz.sizeOf23,
 v22:=Tryz.zeroValue23 }
theorem zc_size (z:Array Value)(n:Nat):(Builtin.zeroCells z n).size=n*z.size:=by simp [Builtin.zeroCells]
theorem grow_prog (G:Nat->AV)(n:Nat)(Z:n<=1048576)(h:Hp):ACalls (En G) 98 [.sl .nil 0 [],.n (n:Nat)] h fun v H=>(n=0/\v=.sl .nil 0 []/\H=h)\/(0<n/\v=.own h.length 0 0/\H=h++[qG 4 []]):=by
 refine⟨cok 98 G BC,fun g w d S T=>?_⟩;obtain⟨L,A⟩:=T
 obtain⟨B,J,rfl⟩:∃a b,d = #[a,b]:=by
  obtain⟨l⟩:=d
  match l,L with
  | [a,b],_=>exact⟨a,b,rfl⟩
 have r0:=(A 0 _ B rfl rfl).sl_inv;obtain rfl:=(A 1 _ J rfl rfl).int_inv
 have F:B=.slice none 0 0:=by
  cases r0 with
  | nil=>rfl
  | empty _ _ _ _ q=>exact absurd rfl q
  | sl _ _ _ _ _ _ _ _ _ _ _ q=>exact absurd rfl q
 subst F;rcases Nat.eq_zero_or_pos n with K|K
 .subst K
  refine(Any8.slices_Grow_room growR none 0 0 0 w (jF _) U U (jF _)).mono ?_;rintro e w' ⟨rfl,rfl⟩;exact .inl ⟨_,_,g,h,rfl,.inl ⟨rfl,rfl,rfl⟩,Gh.le.refl g,S,.fro (.nil 0)⟩
 .have i0:Tryz.prog.info? 79=some Tryz.t79:=BC
  have I:Tryz.t79.zero.isSome=true:=BC;obtain⟨z,I⟩:=Option.isSome_iff_exists.1 I;have hs:Tryz.t79.size=4:=BC;have V:Tryz.t79.bytes<=64:=jB BC;have P:n*Tryz.t79.bytes<=1048576*64:=Nat.mul_le_mul Z V
  have M:z.cells.size=4:=by
   have O:(Tryz.t79.zero.map fun z=>z.cells.size)=some 4:=BC;rw[I] at O;simpa using O
  have Y:=Any8.slices_Grow_grow growR Tryz.t79 z i0 I (by rw[hs];omega) none 0 0 n [] w (jF _) U (by rw[jG];omega) U BA (fun _=>rfl) (fun a q=>by cases q);refine Y.mono ?_;rintro e w' ⟨rfl,rfl⟩;generalize R:grownCap w (0+n) 0 (growR_ren.t 25)=cap;have hle:0+n<=cap:=R▸grownCap_ge w _ _ _;have C:Grew w (w.drew.alloc (.cells ((#[]:Array Value)++Builtin.zeroCells z.cells (0+n-0)++Builtin.zeroCells z.cells (cap-(0+n))) (growR_ren.t 25))) (.cells ((#[]:Array Value)++Builtin.zeroCells z.cells (0+n-0)++Builtin.zeroCells z.cells (cap-(0+n))) (growR_ren.t 25) (0,0)):=⟨rfl,rfl,rfl,rfl⟩
  have f:((#[]:Array Value)++Builtin.zeroCells z.cells (0+n-0)++Builtin.zeroCells z.cells (cap-(0+n))).size=cap*4:=by
   simp only[Array.size_append,zc_size,M,List.size_toArray,zH];omega
  generalize ((#[]:Array Value)++Builtin.zeroCells z.cells (0+n-0)++Builtin.zeroCells z.cells (cap-(0+n)))=c at C f;obtain⟨Q,E⟩:=S.new (k:=4) (xs:=[]) C ⟨BA,fun i row h=>by simp at h,fun i j row v h=>by simp at h⟩;refine .inl ⟨_,_,_,_,rfl,.inr ⟨K,rfl,rfl⟩,E,Q,?_⟩;exact Rep.own h.length 0 0 cap ⟨w.heap.size,0,4,c.size⟩ (by simp [Gh.adopt]) (qF _) (by simp only[f];omega)
theorem AZ7 (l:List Ex):(P8 l)[0]?=some (.sl (Cov.nm l) 4 (l.map AQ)):=rfl
theorem flat_take {R:List (List Ex)}{i:Nat}(a:i<R.length):(R.take (i+1)).flatten=(R.take i).flatten++R[i]:=by
 rw[jV a,List.flatten_append];simp
theorem flat_take_le (R:List (List Ex))(i:Nat):(R.take i).flatten.length<=R.flatten.length:=by
 have:R.flatten=(R.take i).flatten++(R.drop i).flatten:=by rw[<-List.flatten_append,List.take_append_drop]
 rw[this,jW];omega
def outK (h:Hp)(ys:List Ex)(v:AV)(H:Hp):Prop:=(v=.sl .nil 0 []/\ys=[])\/∃o,h.length<=o/\v=.own o 0 ys.length/\H[o]?=some (qG 4 (ys.map AQ))
theorem outK_app {xs ys:List Ex}{v:AV}(s:SM)(i:outK h xs v H)(d:ext h H)(B:xs.length+ys.length<=8388608):
  ∃j H',EH jA true H 23 23 v (.sl s 4 (ys.map AQ))=some (j,H')/\outK h (xs++ys) j H'/\ext h H'/\(v=.sl .nil 0 []->ys=[]->j=.sl .nil 0 []):=by
 cases ys with
 | nil =>
   refine⟨v,H,?_,by rw[jM];exact i,d,fun q _=>q⟩;have a:JJ H (.sl s 4 [])=some (4,[]):=H6 H s 4 [];rcases i with⟨rfl,rfl⟩|⟨o,A,rfl,f⟩
   .simp [EH,NJ,GZ,SN,a,bump]
   .have g:JJ H (.own o 0 xs.length)=some (4,xs.map AQ):=by rw[JK f BA,zI,jK BA]
    simp [EH,NJ,GZ,SN,g,a,bump]
 | cons y ys =>
   have l:(y::ys).map AQ≠[]:=BA;rcases i with⟨rfl,rfl⟩|⟨o,A,rfl,f⟩
   .exact⟨_,_,UU NJ GZ QA P9 (H6 H s 4 ((y::ys).map AQ)) l (I5 (by simp at B|-;omega) U),.inr ⟨H.length,d.le,BA,BA⟩,d.app _,fun _ q=>by cases q⟩
   .have g:JJ H (.own o 0 xs.length)=some (4,xs.map AQ):=by rw[JK f BA,zI,jK BA]
    exact⟨_,_,TM NJ GZ QA P9 g (H6 H s 4 ((y::ys).map AQ)) l (I5 (by simp at B|-;omega) U),.inr ⟨H.length,d.le,BA,BA⟩,(d.set A _).app _,fun q=>by cases q⟩
section
variable (G:Nat->AV)
theorem concat_prog (R:List (List Ex))(s:SM)(hR:R.length<=1048576)(hl:R.flatten.length<=1048576)(h:Hp):PCall (En G) 45 [.sl s 1 (R.map P8)] h (.sl (Cov.nm R.flatten) 4 (R.flatten.map AQ)):=by
 refine JZ frzEx ?_;refine acT Tryz.func45 2 ?_;refine AB ?_;refine EK 0 (fun F f=>F 0=.sl s 1 (R.map P8)/\F 3=.n (R.flatten.length:Nat)/\f=h) (fun _ _=>False) ?_ ?_ (fun _ _ q=>q.elim)
 .refine BB (fun n F f=>∃i,n+i=R.length/\F 0=.sl s 1 (R.map P8)/\F 3=.n ((R.take i).flatten.length:Nat)/\F 9=.sl s 1 (R.map P8)/\F 10=.n (R.length:Nat)/\F 11=.n (i:Nat)/\f=h) R.length
   ⟨0,BA,AO,AO,AO,AO,AO,rfl⟩ ?_
  rintro n F H ⟨i,hi,C,j,Y,f10,f11,rfl⟩;refine A7 f10 f11 ?_;refine DX ?_ ?_<;>intro d
  .have a:=flat_take d
   have hle:=flat_take_le R (i+1);rw[a,jW] at hle;have hw:IntKind.i64.wrap ((((R.take i).flatten.length:Nat):Int)+((R[i].length:Nat):Int))=(((R.take (i+1)).flatten.length:Nat):Int):=by rw[a,jW,wrap_i64 U U];omega
   refine OZ j Y f11 d @AZ7 hw @ltz_false (C9 i) ?_;exact⟨n-1,U,i+1,U,AC,AC,AC,AC,AC,AC⟩
  .rw[jK U] at j
   refine AB ?_;exact⟨AC,AC,AC⟩
 rintro F H ⟨C,j,rfl⟩;refine AY j ?_;refine(grow_prog G R.flatten.length hl H).mono ?_;intro O P S
 have B:outK H [] O P/\Sm.ext H P/\(R.flatten.length=0->O=.sl .nil 0 []):=by
  rcases S with⟨Z,rfl,rfl⟩|⟨Z,rfl,rfl⟩
  .exact⟨.inl ⟨rfl,rfl⟩,ext.rfl' _,fun _=>rfl⟩
  .exact⟨.inr ⟨H.length,jF _,rfl,AZ _ _⟩,(ext.rfl' H).app _,fun q=>U⟩
 refine AY C ?_
 refine BB (fun n F f=>∃i v,n+i=R.length/\F 6=v/\F 25=.sl s 1 (R.map P8)/\F 26=.n (R.length:Nat)/\F 27=.n (i:Nat)/\outK H (R.take i).flatten v f/\Sm.ext H f/\(R.flatten.length=0->v=.sl .nil 0 [])) R.length
  ⟨0,O,BA,AO,AO,AO,AO,by rw[qA];exact B.1,B.2.1,B.2.2⟩ ?_
 clear B S C j;rintro n F f ⟨i,v,hi,Q,E,I,g,L,T,V⟩;refine A7 I g ?_;refine DX ?_ ?_<;>intro d
 .have a:=flat_take d
  have hle:=flat_take_le R (i+1);rw[a,jW] at hle;obtain⟨v',H2,ha,A,M,K⟩:=outK_app (Cov.nm R[i]) L T (ys:=R[i]) U;rw[<-a] at A;refine KZ Q E g d @AZ7 ha (C9 i) ?_;exact⟨n-1,U,i+1,v',U,AC,AC,AC,AC,A,M,fun q=>K (V q) (wM.1 U)⟩
 .rw[jK U] at L
  refine AY Q ?_;refine⟨T,?_⟩;rcases L with⟨J,l⟩|⟨o,J,l,h3⟩
  .exact .inl ⟨l,J⟩
  .refine .inr ⟨fun q=>?_,o,J,l,h3⟩
   have:=V (by rw[q];rfl);rw[this] at l;cases l
end
theorem AB3 (op n:Int)(a:ByteArray)(m:SM)(args:List Ex):wt (.mk op n a m args)=a.size+1+wts args:=N7 _
theorem nsz:(⟨#[]⟩:ByteArray).size=0:=rfl
theorem AP0 (n:Int):wt (cE n)=1:=by unfold cE;rw[AB3,nsz];rfl
theorem AJ2:∀l:List Rng,wts (cEs l)=2*l.length
 | []=>rfl
 | a::l=>by
   rw[UC];simp only[wts,AP0,AJ2 l,zF];omega
theorem mF (e:Ex)(l:List Rng):wt (IU e l)=1+wt e+2*l.length:=by
 rw[VS,AB3,nsz];unfold insL;simp only[wts,AJ2];omega
theorem A0S (a b:Ex):wt (orE a b)=1+wt a+wt b:=by
 unfold orE;rw[AB3,nsz];simp only[wts];omega
theorem AJ3 (a:Ex):wt (notE a)=1+wt a:=by
 unfold notE;rw[AB3,nsz];simp only[wts];omega
theorem RF (L:List Rng)(k:Nat):(part L k).length<=16:=by unfold part;rw[jR];omega
theorem yB (e:Ex)(L:List Rng):∀k,wt (O1 e L k)<=(k+1)*(wt e+34)
 | 0=>by
   have:=RF L 0;show wt (IU e (part L 0))<=_;rw[mF];omega
 | k+1=>by
   have:=RF L (k+1);have a:=yB e L k;show wt (orE (O1 e L k) (IU e (part L (k+1))))<=_;rw[A0S,mF,Nat.add_mul (k+1) 1];omega
theorem nB:∀l:List Ex,(∀e∈l,wt (cpE e)=wt e)->wts (l.map cpE)=wts l
 | [],_=>rfl
 | e::l,h=>by
   simp only[jJ,wts];rw[h e BA,nB l fun e a=>h e (by simp [a])]
theorem A0T (e:Ex):wt (cpE e)=wt e:=by
 induction e using Ex.induct with|h e ih=>?_
 rw[TA,AB3,nB _ ih,N7 e]
theorem mem_pres {x:Ex}:∀ {xs:List Ex},x∈FT xs↔∃a∈xs,x∈pre a
 | []=>by simp [FT]
 | a::xs=>by simp [FT,mem_pres (xs:=xs)]
def NmB (N:Nat)(e:Ex):Prop:=∀x∈pre e,x.name.size<=N
theorem NmB.mk {N:Nat}{op n:Int}{d:ByteArray}{m:SM}{args:List Ex}(h:d.size<=N)(j:∀a∈args,NmB N a):NmB N (.mk op n d m args):=fun x f=>by
 rw[pre_eq] at f;rcases zO.1 f with rfl|f
 .exact h
 .obtain⟨a,g,i⟩:=mem_pres.1 f
  exact j a g x i
theorem dM (N:Nat)(n:Int):NmB N (cE n):=NmB.mk (qF _) fun a h=>by cases h
theorem sK (h:NmB N e)(l:List Rng):NmB N (IU e l):=by
 rw[VS];refine NmB.mk (qF _) fun a d=>?_
 rcases zO.1 d with rfl|d
 .exact h
 .unfold cEs at d
  obtain⟨r,_,f⟩:=List.mem_flatMap.1 d;rcases zO.1 f with rfl|f
  .exact dM N _
  .rw[wH.1 f];exact dM N _
theorem AY6 {a b:Ex}(f:NmB N a)(h2:NmB N b):NmB N (orE a b):=NmB.mk (qF _) fun x d=>by
 rcases zO.1 d with rfl|d
 .exact f
 .rw[wH.1 d];exact h2
theorem AU4 {a:Ex}(d:NmB N a):NmB N (notE a):=NmB.mk (qF _) fun x f=>by rw[wH.1 f];exact d
theorem sJ {N:Nat}{e:Ex}(h:NmB N e)(L:List Rng):∀k,NmB N (O1 e L k)
 | 0=>sK h _
 | k+1=>AY6 (sJ h L k) (sK h _)
theorem AMO (e:Ex)(h:NmB N e):NmB N (cpE e):=by
 induction e using Ex.induct with|h e ih=>?_
 rw[TA];refine NmB.mk (h e (by rw[pre_eq];simp)) fun a f=>?_
 obtain⟨b,d,rfl⟩:=zQ.1 f;exact ih b d fun x g=>h x (by rw[pre_eq];exact List.mem_cons_of_mem _ (mem_pres.2 ⟨b,d,g⟩))
theorem AML {l:List Rng}(h:wt e<=1048576)(i:l.length<=4096):WN (FO e l)/\wt (FO e l)<=269000000:=by
 have d:NmB 1048576 e:=(AGQ h).2;have f:=X0 l;have j:parts (normal l)<=256:=by rw[parts_eq];omega
 unfold FO;rcases Classical.em (normal l=[]) with q|q
 .have:TI e (normal l)=cE 0:=by unfold TI;rw[if_pos q]
  rw[this];exact⟨⟨by rw[AP0];omega,dM _ _⟩,by rw[AP0];omega⟩
 .rw[ZM e _ q]
  have a:=yB (cpE e) (normal l) (parts (normal l)-1);rw[A0T] at a;have g:(parts (normal l)-1+1)*(wt e+34)<=256*(1048576+34):=Nat.mul_le_mul U U;exact⟨⟨U,sJ (AMO e d) _ _⟩,U⟩
theorem AMK {l:List Rng}(h:wt e<=1048576)(i:l.length<=4096):WN (GV e l)/\wt (GV e l)<=269000000:=by
 have a:NmB 1048576 e:=(AGQ h).2;have d:=X0 l;have j:parts (normal l)<=256:=by rw[parts_eq];omega
 unfold GV;rcases Classical.em (normal l=[]) with q|q
 .have:TJ e (normal l)=IU e []:=by rw[q];rfl
  rw[this];exact⟨⟨by rw[mF,zH];omega,sK a _⟩,by rw[mF,zH];omega⟩
 .rw[ZN e _ q]
  have f:=yB e (normal l) (parts (normal l)-1);have g:(parts (normal l)-1+1)*(wt e+34)<=256*(1048576+34):=Nat.mul_le_mul U U;exact⟨⟨U,sJ a _ _⟩,U⟩
theorem AMJ (h:WN e/\wt e<=269000000):WN (notE e)/\wt (notE e)<=269000001:=⟨⟨by rw[AJ3];omega,AU4 h.1.2⟩,by rw[AJ3];omega⟩
theorem AO6 {P:Ex->Prop}{ins:Ex->List Rng->Ex}(g:∀s∈KC b,P (ins p.ex s.l))(h2:KH p.bins≠[]->P (notE (ins p.ex (KH p.bins)))):∀r∈YM ins p b,r.length<=2/\∀e∈r,P e:=by
 have f:∀r∈(KC b).map (fun s=>[ins p.ex s.l]),r.length=1/\∀e∈r,P e:=fun r d=>by
  obtain⟨s,j,rfl⟩:=zQ.1 d;exact⟨rfl,fun e i=>by rw[wH.1 i];exact g s j⟩
 intro r d;unfold YM badO at d;by_cases q:KH p.bins=[]
 .rw[if_pos q] at d
  obtain⟨a,b⟩:=f r d;exact⟨U,b⟩
 .rw[if_neg q] at d
  rcases List.mem_or_eq_of_mem_set (show r∈List.set _ _ _ from d) with d|rfl
  .grind
  .grind
theorem ATU (ins:Ex->List Rng->Ex)(p:Pt)(b:Bin):(YM ins p b).length=(KC b).length:=by unfold YM;rw[AD3,jI]
def bN (m:Mo)(x:Hl):List Int:=if x.cross=true then (match AFM m x.idx with|some c=>c.pts|none=>[]) else [x.idx]
structure Prt (m:Mo) (x:Hl) (L:List (Nat×Nat)):Prop where
 pts:bN m x=L.map fun q=>(q.1:Int)
 bins:x.bins=L.map fun q=>(q.2:Int)
 ok:∀q∈L,∃h:q.1<m.pts.length,q.2<m.pts[q.1].bins.length
 n1:1<=L.length
 n4:L.length<=4
def cdQ (ins:Ex->List Rng->Ex)(m:Mo)(q:Nat×Nat):List (List Ex):=match m.pts[q.1]? with
 | some p=>(match p.bins[q.2]? with|some b=>YM ins p b|none=>[])
 | none=>[]
theorem iR (ins:Ex->List Rng->Ex){m:Mo}{q:Nat×Nat}(h:q.1<m.pts.length)(h2:q.2<m.pts[q.1].bins.length):cdQ ins m q=YM ins m.pts[q.1] m.pts[q.1].bins[q.2]:=by
 unfold cdQ;rw[jO h];show(match m.pts[q.1].bins[q.2]? with|some b=>YM ins m.pts[q.1] b|none=>[])=_;rw[jO h2]
def A0A (ins:Ex->List Rng->Ex)(m:Mo)(L:List (Nat×Nat)):List (List Ex):=OT (L.map (cdQ ins m))
end Go.Proofs.YtiihpnicbekebaaGreatDoor.Ho
namespace Go.Proofs.YtiihpnicbekebaaGreatDoor.Bd.Cl
open Sm Bins Cov Xe Wd Bl Ho Go.RowKit
variable {n:Int} {H:Hp}
theorem ADN (L:List Rng)(k n:Nat)(h:n=min 16 (L.length-16*k)):(L.drop (16*k)).take n=Ho.part L k:=by
 unfold Ho.part;rw[List.take_eq_take_iff,wV];omega
theorem PG (n:Nat)(H:Hp)(d:Nat)(e:Ex):FH n H (d+3) (.agg (AQ e))=.agg (AQ e):=by rw[FK];rfl
section
variable (G:Nat->AV)
theorem AG2 (nm:ByteArray)(L:List Rng)(s:SM)(hl:L.length<=1048576)(h:Hp):PCall (En G) 180 [.str nm,.sl s 2 (L.map encR)] h (.agg (AQ (gK nm L))):=by
 refine ACalls.pure (R:=fun v H=>v=.agg (AQ (gK nm L))/\Sm.ext h H) 3 ?_ (fun v H ⟨a,b⟩=>⟨b,by rw[a];exact PG _ _ 0 _⟩);refine acL Tryz.func180 [.cell 4 79] ?_;have d:=AZ h (qG 4 [EQ]);have g:=Sm.ext.r1 h (qG 4 [EQ]);have j:h.length<(h++[qG 4 [EQ]]).length:=BA;refine AY NY ?_;rw[show([AV.int .i64 0,.n 0,.str ⟨#[]⟩,.sl .nil 0 []]:List AV)=EQ from rfl]
 generalize h++[qG 4 [EQ]]=H0 at d g j|-
 refine BH ?_ ?_<;>intro B
 .have B:L=[]:=List.eq_nil_of_length_eq_zero (BL B)
  refine AB ?_;refine(ZF G 0 _).use ?_;simp only[vQ,CQ,↓reduceIte,jC,enP,jQ,OX d rfl];rw[IM (b:=h.length) AO (LX (CJ d))];exact⟨by rw[B];rfl,g.set (jF _) _⟩
 have A:L≠[]:=by intro e;rw[e] at B;simp at B
 have T:0<L.length:=qR.2 A;have V:min (16:Int) ((L.length:Nat):Int)=((min 16 L.length:Nat):Int):=U
 have J:∀H:Hp,IP jA H 84 (.sl s 2 (L.map encR)) none (some (.n ((min 16 L.length:Nat):Int))) none=some (.sl (tR s (min 16 L.length) L.length) 2 ((Ho.part L 0).map encR)):=fun H=>by
  have:=ACT WB J8 (h:=H) (m:=s) (kk:=.i64) (xs:=L.map encR) (u:=min 16 L.length) NZ;rw[<-List.map_take,jI] at this;have e:=ADN L 0 (min 16 L.length) U;rw[Nat.mul_zero,zI] at e;rw[<-e];exact this
 have K:∀H:Hp,IP jA H 84 (.sl s 2 (L.map encR)) (some (.n ((min 16 L.length:Nat):Int))) none none=some (.sl s 2 ((L.drop (16*1)).map encR)):=fun H=>by
  rw[yN WB J8 NZ,<-List.map_drop];have:L.drop (min 16 L.length)=L.drop (16*1):=by simp_all
  rw[this]
 refine A7 V J ?_;refine(kX G nm (Ho.part L 0) _ (by have:=RF L 0;omega) _).use ?_;have f:=AZ H0 (qG 4 [AQ (IU (JV nm) (Ho.part L 0))]);have P:=gQ H0 (IU (JV nm) (Ho.part L 0)) EQ rfl;refine AY NY ?_;rw[show([AV.int .i64 0,.n 0,.str ⟨#[]⟩,.sl .nil 0 []]:List AV)=EQ from rfl];refine A7 P K ?_;have d:=AU (x:=qG 4 [AQ (IU (JV nm) (Ho.part L 0))]) d;have g:=g.app [qG 4 [AQ (IU (JV nm) (Ho.part L 0))]]
 generalize H0++[qG 4 [AQ (IU (JV nm) (Ho.part L 0))]]=H1 at f d g|-
 generalize H0.length=i at f j|-
 have hsum:IU (JV nm) (Ho.part L 0)=O1 (JV nm) L 0:=rfl;rw[hsum] at f;refine EK 0 (fun F H=>F 4=.ptr h.length 0 0/\F 6=.ptr i 0 0/\H[h.length]?=some (qG 4 [EQ])/\H[i]?=some (qG 4 [AQ (gK nm L)])/\Sm.ext h H) (fun _ _=>False) ?_ ?_ (fun _ _ q=>q.elim)
 .refine BB (fun n F H=>∃k,n=L.length-16*(k+1)/\16*k<L.length/\F 0=.str nm/\F 1=.sl s 2 ((L.drop (16*(k+1))).map encR)/\F 4=.ptr h.length 0 0/\F 6=.ptr i 0 0/\H[h.length]?=some (qG 4 [EQ])/\H[i]?=some (qG 4 [AQ (O1 (JV nm) L k)])/\Sm.ext h H) (L.length-16)
   ⟨0,U,U,AO,AO,AO,AO,d,f,g⟩ ?_
  clear d f g;rintro n F H ⟨k,rfl,hk,f0,C,I,E,d,f,g⟩;have Z:decide ((((L.drop (16*(k+1))).length:Nat):Int)>0)=decide (16*(k+1)<L.length):=by grind
  refine A7 C Z ?_;refine BH ?_ ?_<;>intro S
  .have l:16*(k+1)<L.length:=BL S
   have Y:min (16:Int) (((L.drop (16*(k+1))).length:Nat):Int)=((min 16 (L.length-16*(k+1)):Nat):Int):=by rw[wV];omega
   have M:∀H:Hp,IP jA H 84 (.sl s 2 ((L.drop (16*(k+1))).map encR)) none (some (.n ((min 16 (L.length-16*(k+1)):Nat):Int))) none=some (.sl (tR s (min 16 (L.length-16*(k+1))) (L.drop (16*(k+1))).length) 2 ((Ho.part L (k+1)).map encR)):=fun H=>by
    have:=ACT WB J8 (h:=H) (m:=s) (kk:=.i64) (xs:=(L.drop (16*(k+1))).map encR) (u:=min 16 (L.length-16*(k+1))) NZ;rw[<-List.map_take,jI,ADN L (k+1) _ rfl] at this;exact this
   have O:∀H:Hp,IP jA H 84 (.sl s 2 ((L.drop (16*(k+1))).map encR)) (some (.n ((min 16 (L.length-16*(k+1)):Nat):Int))) none none=some (.sl s 2 ((L.drop (16*(k+1+1))).map encR)):=fun H=>by
    rw[yN WB J8 NZ,<-List.map_drop,List.drop_drop]
    have:L.drop (16*(k+1)+min 16 (L.length-16*(k+1)))=L.drop (16*(k+1+1)):=by
     by_cases q:L.length<=16*(k+1+1)
     .rw[jY U,jY U]
     .grind
    rw[this]
   have Q:D8 jA H 79 (.ptr i 0 0) (.agg [.n 20,.n 0,.str ⟨#[]⟩,.sl .full 4 [AQ (O1 (JV nm) L k),AQ (IU (JV nm) (Ho.part L (k+1)))]])=some (H.set i (qG 4 [AQ (O1 (JV nm) L (k+1))])):=by
    have:=OX (e:=orE (O1 (JV nm) L k) (IU (JV nm) (Ho.part L (k+1)))) f (EC _);rw[eI] at this;exact this
   have a0:=AX f;refine A7 C Y ?_;refine DR BC ?_;refine KO @XL f0 C E (LX f) M ?_;refine⟨_,kX G nm (Ho.part L (k+1)) _ (by have:=RF L (k+1);omega) _,?_⟩
   try refine KO @ZY @AME Q E C O ?_
   exact⟨_,U,k+1,rfl,l,AC,AC,AC,AC,DF d U,CJ f,g.set U _⟩
  .have l:¬16*(k+1)<L.length:=BL S
   have he:gK nm L=O1 (JV nm) L k:=by
    unfold gK;rw[if_neg A,show parts L-1=k by unfold parts;omega]
   refine AB ?_;exact⟨AC,AC,d,by rw[he];exact f,g⟩
 .rintro F H ⟨I,E,d,f,g⟩
  simp only[vQ,VF,CQ,↓reduceIte,jC,enP,jQ,I,E,LX f,OX d rfl];rw[IM (b:=h.length) (D7 I) (LX (CJ d))];exact⟨rfl,g.set (jF _) _⟩
theorem AUL (a b:Int):JC jA 145 [(0,.n a),(1,.n b)]=some (.agg (encR ⟨a,b⟩)):=BC
theorem A2K (h:Hp)(r:Rng):DJ jA false h 84 1 [(0,.agg (encR r))]=some (.sl .full 2 [encR r],h):=BC
theorem A4J:Frz encR:=fun _ _ _ _=>⟨rfl,rfl⟩
theorem gX (l:List Int):(TP l).length<=l.length:=by
 have:∀(l:List Int) (o:List Rng),(l.foldl bS o).length<=o.length+l.length:=fun l=>by
  induction l with
  | nil=>intro o;simp
  | cons a l f =>
    intro o;have g:=f (bS o a)
    have i:(bS o a).length<=o.length+1:=by
     unfold bS
     cases d:o.getLast? with
     | none=>simp
     | some r =>
       have j:0<o.length:=by cases o<;>simp at d|-
       simp only;split<;>simp<;>omega
    rw[List.foldl_cons,List.length_cons];omega
 have:=this l [];simpa [TP] using this
theorem AUW (n:Int):bS [] n=[⟨n,n⟩]:=rfl
theorem AY1 {R:List Rng}(a:R≠[])(h:(R[R.length-1]'(by have:=qR.2 a;omega)).hi=n-1):bS R n=R.set (R.length-1) ⟨(R[R.length-1]'(by have:=qR.2 a;omega)).lo,n⟩:=by
 have d:=qR.2 a;have e:R.getLast?=some R[R.length-1]:=by grind
 unfold bS;rw[e];simp only;rw[if_pos h];apply List.ext_getElem?;intro j;rw[List.getElem?_set,List.dropLast_eq_take,List.getElem?_append,jR,Nat.min_eq_left U];by_cases q:R.length-1=j
 .grind
 .grind
theorem AUX {R:List Rng}(a:R≠[])(h:¬(R[R.length-1]'(by have:=qR.2 a;omega)).hi=n-1):bS R n=R++[⟨n,n⟩]:=by
 have d:=qR.2 a;have e:R.getLast?=some R[R.length-1]:=by grind
 unfold bS;rw[e];simp only;rw[if_neg h]
theorem AC9 (l:List Int)(v:AV)(h0 h:Hp)(hv:outG 1 Bins.qencI h0 l v h)(hl:l.length<=1048576)(hr:∀z∈l,-1048576<=z/\z<=1048576):PCall (En G) 181 [v] h (.sl (Cov.nm (TP l)) 2 ((TP l).map encR)):=by
 refine JZ A4J ?_;refine acT Tryz.func181 2 ?_;rcases hv with⟨rfl,rfl⟩|⟨a0,o,_,rfl,Z⟩
 .refine P6 ?_
  refine BB (fun n F H=>F 3=.sl .nil 0 []/\F 8=.n 0/\F 9=.n 0/\H=h) 0 ⟨AO,AO,AO,rfl⟩ ?_;rintro n F H ⟨q,Y,A,rfl⟩;refine EG Y A (show decide ((0:Int)<0)=false by decide) q ?_;exact⟨ext.rfl' _,.inl ⟨rfl,rfl⟩⟩
 have Z:isI h o l:=Z;refine AB ?_
 refine BB (fun n F H=>∃i u,n+i=l.length/\F 3=u/\F 7=.own o 0 l.length/\F 8=.n (l.length:Nat)/\F 9=.n (i:Nat)/\Sm.ext h H/\outG 2 encR h (TP (l.take i)) u H) l.length
  ⟨0,.sl .nil 0 [],BA,AO,AO,AO,AO,ext.rfl' _,outG.nil _ _ _ _⟩ ?_
 rintro n F H ⟨i,u,hi,q,f7,Y,A,V,M⟩;refine A7 Y A ?_;refine DX ?_ ?_<;>intro a
 .have B:isI H o l:=DW V Z
  have ld:BO jA H 3 (.ptr o i 0)=some (.n l[i]):=by rw[B.ld a,List.getD_eq_getElem?_getD,jO a];rfl
  obtain⟨r0,r1⟩:=hr _ (jH a);have d:TP (l.take (i+1))=bS (TP (l.take i)) l[i]:=by rw[jV a,nW]
  have K:=gX (l.take i);rw[jR] at K
  have app:∀ {R:List Rng},TP (l.take i)=R->∃g f,EH jA true H 84 84 u (.sl .full 2 [encR ⟨l[i],l[i]⟩])=some (g,f)/\outG 2 encR h (R++[⟨l[i],l[i]⟩]) g f/\Sm.ext h f:=fun {R} C=>by
   subst C;obtain⟨g,f,I,j,_,J,_,_⟩:=M.append (P:=jA) WB J8 xX ABH U U V ⟨l[i],l[i]⟩;exact⟨g,f,I,j,J⟩
  generalize TP (l.take i)=R at M d K app;have fin:∀ {g:AV} {f:Hp} (O:outG 2 encR h (TP (l.take (i+1))) g f) (Q:Sm.ext h f) (n:Nat),n+i=l.length->∃m,m<n/\∃i' u,m+i'=l.length/\g=u/\(.own o 0 l.length:AV)=.own o 0 l.length/\Sm.ext h f/\outG 2 encR h (TP (l.take i')) u f:=fun O Q n hn=>⟨n-1,U,i+1,_,U,rfl,rfl,Q,O⟩
  rcases M with⟨rfl,rfl⟩|⟨C,ob,L,rfl,T⟩
  .obtain⟨g,f,I,j,J⟩:=app rfl
   rw[AUW] at d;rw[List.nil_append,<-d] at j;simp only[vQ,EP,fY,CQ,GI,NS,MR,↓reduceIte,jC,enP,LJ,ZJ,q,f7,A,B.ix a,ld,List.length_nil,show IntKind.i64.wrap (((0:Nat):Int)-1) = -1 by decide,show decide ((-1:Int)≥0)=false by decide,AUL,A2K,I,C9 i];exact⟨n-1,U,i+1,g,U,AC,AC,AC,AC,J,j⟩
  .have hp:=qR.2 C
   have hk:R.length-1<R.length:=U;have zk:IntKind.i64.wrap (((R.length:Nat):Int)-1)=((R.length-1:Nat):Int):=by rw[wrap_i64 U U];omega
   have zn:IntKind.i64.wrap (l[i]-1)=l[i]-1:=wrap_i64 U U;have S:JD 2 H (.own ob 0 R.length) (.n ((R.length-1:Nat):Int))=some (.ptr ob (R.length-1) 0):=by rw[GN T hk,jG]
   have lh:BO jA H 3 (.ptr ob (R.length-1) 1)=some (.n R[R.length-1].hi):=by rw[BK ag3 T (Cov.row_map hk)];rfl
   refine WP q f7 A @B.ix a ld zk @oZ S lh zn ?_;refine BH ?_ ?_<;>intro E
   .have E:R[R.length-1].hi=l[i]-1:=BL E
    have st:D8 jA H 3 (.ptr ob (R.length-1) 1) (.n l[i])=some (H.set ob (qG 2 ((R.set (R.length-1) ⟨R[R.length-1].lo,l[i]⟩).map encR))):=by
     rw[IJ (cs:=[.n l[i]]) rfl sz3 T (Cov.row_map hk) (by simp [encR]),List.map_set];rfl
    refine H7 q S st A (C9 i) ?_;refine⟨n-1,U,i+1,_,U,AC,AC,AC,AC,V.set L _,?_⟩;rw[d,AY1 C E];exact .inr ⟨fun e=>by have:=congrArg List.length e;simp at this;exact C this,ob,L,by rw[List.length_set],CJ T⟩
   .have E:¬R[R.length-1].hi=l[i]-1:=BL E
    obtain⟨g,f,I,j,J⟩:=app rfl;rw[AUX C E] at d;rw[<-d] at j;refine KO q AUL A2K I A (C9 i) ?_;exact⟨n-1,U,i+1,g,U,AC,AC,AC,AC,J,j⟩
 .rw[jK U] at M
  refine AY q ?_;exact⟨V,M⟩
theorem A4T (n:Int)(w:Wg)(c:Nat)(h:Hp)(i:h[c]?=some (qG 1 [[.n n]])):PCall (En G) 179 ([.agg (I9 w)]++[.ptr c 0 0]) h (.bool (U6 n w)):=by
 refine ACalls.pure0 rfl ?_;refine acT Tryz.func179 3 ?_;have d:(h++[qG 4 [I9 w]])[c]?=_:=AU i;have j:BO jA (h++[qG 4 [I9 w]]) 3 (.ptr h.length 0 0)=some (.n w.lo):=by rw[BK ag3 (AZ _ _) (row:=I9 w) rfl];rfl
 have f:BO jA (h++[qG 4 [I9 w]]) 3 (.ptr h.length 0 1)=some (.n w.hi):=by rw[BK ag3 (AZ _ _) (row:=I9 w) rfl];rfl
 have g:BO jA (h++[qG 4 [I9 w]]) 3 (.ptr c 0 0)=some (.n n):=IL ag3 d;refine EG @A5E j f g ?_;cases a:decide (w.lo<=n)
 .refine DC a f g ?_
  exact⟨by unfold U6;rw[a];rfl,_,rfl⟩
 .refine DC a f g ?_
  exact⟨by unfold U6;rw[a];rfl,_,rfl⟩
end
theorem al3 (h:Hp):IG jA h 3=some (.ptr h.length 0 0,h++[qG 1 [[.n 0]]]):=F9 (row:=[.n 0]) BC
theorem A7B (h:Hp)(n:Int):D8 jA (h++[qG 1 [[.n 0]]]) 3 (.ptr h.length 0 0) (.n n)=some (h++[qG 1 [[.n n]]]):=by
 rw[JU (cs:=[.n n]) (row:=[.n 0]) rfl sz3 (AZ _ _) (jF 1),KI];rfl
theorem bsI (h:Hp)(n:Int):DJ jA false h 32 1 [(0,.n n)]=some (.sl .full 1 [Bins.qencI n],h):=BC
theorem AKR (ws:List Wg):∀k,∀z∈UO ws k,0<=z/\z<(k:Int)
 | 0,z,h=>by cases h
 | k+1,z,h=>by
   rcases List.mem_append.1 h with h|h
   .have:=AKR ws k z h;omega
   .grind
theorem AQ6 {ws:List Wg}:(PW (U6 n) ws<0->LM n ws=false)/\(0<=PW (U6 n) ws->∃k,∃hk:k<ws.length,PW (U6 n) ws=(k:Nat)/\LM n ws=decide (ws[k].w>0)):=by
 constructor
 .intro h
  exact zE (iD _ _ h)
 .intro h
  obtain⟨k,hk,e,a,d⟩:=ZP _ _ h;exact⟨k,hk,e,zR hk d a⟩
theorem A1N {b:Nat}{d:Ds}(a:H[b]?=some (qG 2 [IY d])):BO jA H 140 (.ptr b 0 0)=some (.agg (IY d)):=by
 rw[EN AGJ dY a rfl (by rw[RI];exact jF 2),zI,jK (by rw[RI];exact jF 2)]
section
variable (G:Nat->AV)
theorem yK (p:Pr)(hs:PrS p)(P:PV p)(d:Ds)(hr:QY p.vars d.var=true)(ac:d.ws.length<=1048576)(h:Hp):PCall (En G) 99 [.agg (CW p),.agg (IY d)] h (.agg (AQ (gL p d))):=by
 obtain⟨k,hk,L,hm⟩:=WT hr;obtain⟨_,w1,w8,_⟩:=U2 (P.vr _ (jH hk));obtain⟨w,hw⟩:=Int.eq_ofNat_of_zero_le (U:0<=p.vars[k].width)
 have M:gL p d=gK p.vars[k].name (runs d.ws (2^w)):=by
  unfold gL;rw[L,qM,jO hk];simp only;rw[hw,qM]
 have hW:(2:Nat)^w<=256:=by
  have:w<=8:=U
  calc (2:Nat)^w<=2^8:=Nat.pow_le_pow_right DU this
   _=256:=rfl
 have e2:(2:Int)^w=((2^w:Nat):Int):=by rw[Int.natCast_pow];rfl
 rw[M];refine ACalls.pure (R:=fun v H=>v=.agg (AQ (gK p.vars[k].name (runs d.ws (2^w))))/\Sm.ext h H) 3 ?_ (fun v H ⟨a,b⟩=>⟨b,by rw[a];exact PG _ _ 0 _⟩);refine acL Tryz.func99 [.cell 4 79] ?_;have J:=AU (x:=qG 4 [EQ]) (AU (x:=qG 2 [IY d]) (AZ h (qG 5 [CW p])));have B:=AU (x:=qG 4 [EQ]) (AZ (h++[qG 5 [CW p]]) (qG 2 [IY d]));have A:=AZ (h++[qG 5 [CW p]]++[qG 2 [IY d]]) (qG 4 [EQ]);have O:Sm.ext h (h++[qG 5 [CW p]]++[qG 2 [IY d]]++[qG 4 [EQ]]):=(((ext.rfl' h).app _).app _).app _;have e4:(h++[qG 5 [CW p]]++[qG 2 [IY d]]).length=h.length+2:=BA;have e3:(h++[qG 5 [CW p]]).length=h.length+1:=BA;refine DC @PZ @bxD NY ?_;rw[show([AV.int .i64 0,.n 0,.str ⟨#[]⟩,.sl .nil 0 []]:List AV)=EQ from rfl]
 rw[e4] at A|-
 rw[e3] at B|-
 generalize h++[qG 5 [CW p]]++[qG 2 [IY d]]++[qG 4 [EQ]]=H0 at J B A O|-
 have Q:BO jA H0 3 (.ptr (h.length+1) 0 0)=some (.n (k:Nat)):=by rw[BK ag3 B (row:=IY d) rfl];show some (AV.int .i64 d.var)=_;rw[L]
 have J:=AU (x:=qG 4 [encV p.vars[k]]) J;have B:=AU (x:=qG 4 [encV p.vars[k]]) B;have K:=AZ H0 (qG 4 [encV p.vars[k]]);have a5:=AX A;simp only[vQ,CQ,WO,↓reduceIte,jC,Nat.add_zero,enP,bM,VU,mO,jQ,YU (show H0[h.length]?=some (qG 5 [CW p]) by rw[<-List.getElem?_append_left (l₂:=[qG 4 [encV p.vars[k]]]) U];exact J),Q,CP hk,Bd.ldV hk,Bd.al61,Bd.st61];have A:=AU (x:=qG 4 [encV p.vars[k]]) A;have O:=O.app [qG 4 [encV p.vars[k]]];have a7:Sm.ext H0 (H0++[qG 4 [encV p.vars[k]]]):=(ext.rfl' _).app _
 generalize H0++[qG 4 [encV p.vars[k]]]=H1 at J B A K O a7|-
 generalize H0.length=vb at K a5|-
 clear Q e3 e4;have lw:BO jA H1 3 (.ptr vb 0 1)=some (.n (w:Nat)):=by rw[BK ag3 K rfl];show some (AV.int .i64 p.vars[k].width)=_;rw[hw]
 have ab:=AX K;refine A7 lw (AVY w (by omega)) ?_;refine EK 0 (fun F H=>∃u,F 4=.ptr (h.length+2) 0 0/\F 5=.ptr vb 0 0/\F 6=u/\Sm.ext H1 H/\outG 1 Bins.qencI H1 (UO d.ws (2^w)) u H) (fun _ _=>False) ?_ ?_ (fun _ _ q=>q.elim)
 .refine BB (fun n F H=>∃i u,n+i=2^w/\F 3=.ptr (h.length+1) 0 0/\F 4=.ptr (h.length+2) 0 0/\F 5=.ptr vb 0 0/\F 6=u/\F 17=.n ((2^w:Nat):Int)/\F 18=.n (i:Nat)/\Sm.ext H1 H/\outG 1 Bins.qencI H1 (UO d.ws i) u H) (2^w)
   ⟨0,.sl .nil 0 [],BA,AO,AO,AO,AO,by refine AB ?_;rw[e2],AO,ext.rfl' _,outG.nil _ _ _ _⟩ ?_
  rintro n F H ⟨i,u,hi,f3,Y,f5,Z,f17,f18,f,g⟩;refine A7 f17 f18 ?_;refine DX ?_ ?_<;>intro a9
  .have T:=AZ H (qG 1 [[.n (i:Nat)]])
   have f:=f.app [qG 1 [[.n (i:Nat)]]];have g:=g.app [qG 1 [[.n (i:Nat)]]];refine DC f18 al3 @A7B ?_
   generalize H++[qG 1 [[.n (i:Nat)]]]=H2 at T f g|-
   generalize H.length=ib at T|-
   have a0:=DW f B;have S:BO jA H2 120 (.ptr (h.length+1) 0 1)=some (.sl d.wm 4 (d.ws.map I9)):=by rw[BK AGK a0 rfl];rfl
   have li:BO jA H2 3 (.ptr ib 0 0)=some (.n (i:Nat)):=by rw[BK ag3 T rfl];rfl
   refine A7 f3 S ?_;refine(AEJ G d.ws d.wm 179 [.ptr ib 0 0] (U6 (i:Nat)) H2 U fun x _=>A4T G (i:Nat) x ib H2 T).use ?_;have fin:∀(u':AV) (C:Hp),Sm.ext H1 C->outG 1 Bins.qencI H1 (UO d.ws (i+1)) u' C->Sm.ext H1 C/\outG 1 Bins.qencI H1 (UO d.ws (i+1)) u' C:=fun _ _ a b=>⟨a,b⟩
   have hl:=eG d.ws i;obtain⟨c1,c2⟩:=AQ6 (n:=(i:Nat)) (ws:=d.ws);cases E:decide (PW (U6 ((i:Nat):Int)) d.ws≥0)
   .have V:=c1 (by have:=of_decide_eq_false E;omega)
    have l:UO d.ws (i+1)=UO d.ws i:=by simp only[UO];rw[if_neg (by rw[V];decide),jM]
    rw[<-l] at g;refine DC E f18 (C9 i) ?_;exact⟨n-1,U,i+1,u,U,AC,AC,AC,AC,AC,AC,f,g⟩
   .obtain⟨j,hj,ej,V⟩:=c2 (by have:=of_decide_eq_true E;omega)
    rw[ej] at E|-
    have a8:BO jA H2 3 (.fptr 4 (d.ws.map I9) j 2)=some (.n d.ws[j].w):=by rw[BR ag3 hj];rfl
    refine KZ vG @aY E f3 S hj a8 ?_;refine BH ?_ ?_<;>intro hq
    .have l:UO d.ws (i+1)=UO d.ws i++[((i:Nat):Int)]:=by simp only[UO];rw[if_pos (by rw[V];exact hq)]
     obtain⟨v',C,a1,a2,_,a3,_,_⟩:=g.append (P:=jA) gH sz3 xY rM U U f ((i:Nat):Int);rw[<-l] at a2;refine KO Z li @bsI a1 f18 (C9 i) ?_;exact⟨n-1,U,i+1,v',U,AC,AC,AC,AC,AC,AC,a3,a2⟩
    .have l:UO d.ws (i+1)=UO d.ws i:=by simp only[UO];rw[if_neg (by rw[V,hq];decide),jM]
     rw[<-l] at g;refine A7 f18 (C9 i) ?_;exact⟨n-1,U,i+1,u,U,AC,AC,AC,AC,AC,AC,f,g⟩
  .have ei:i=2^w:=U
   rw[ei] at g;refine AB ?_;exact⟨u,AC,AC,AC,f,g⟩
 .rintro F H ⟨u,Y,f5,Z,f,g⟩
  have a4:=DW f K;have I:=DW f A;have ln:BO jA H 9 (.ptr vb 0 0)=some (.str p.vars[k].name):=by rw[BK ag9 a4 rfl];rfl
  have aa:=eG d.ws (2^w);have a6:=AKR d.ws (2^w);refine AB ?_;refine DR BC ?_;refine DC f5 Z ln ?_;refine⟨_,AC9 G (UO d.ws (2^w)) u H1 _ g U (fun z hz=>by have:=a6 z hz;omega),_,AG2 G p.vars[k].name (runs d.ws (2^w)) _ (by have:=gX (UO d.ws (2^w));show(TP (UO d.ws (2^w))).length<=_;omega) _,?_⟩;simp only[vQ,QK,Y,OX I rfl];rw[IM (b:=h.length+2) (D7 Y) (LX (CJ I))];exact⟨rfl,(O.trans f).set U _⟩
def lU (h:Hp)(ys:List Ex)(v:AV)(H:Hp):Prop:=∃o a,h.length<=o/\v=.own o 0 ys.length/\H[o]?=some (qG 4 (ys.map AQ++a))
theorem ADS {h:Hp}{xs:List Ex}{v:AV}(A:lU h xs v H)(f:Sm.ext h H)(B:xs.length+1<=8388608)(y:Ex):
  ∃d H',EH jA true H 23 23 v (.sl .full 4 [AQ y])=some (d,H')/\lU h (xs++[y]) d H'/\Sm.ext h H'/\(∀b x,H[b]?=some x->¬isB v b->H'[b]?=some x)/\∀b,isB d b->b=H.length:=by
 obtain⟨o,g,i,rfl,j⟩:=A;have l:JJ H (.own o 0 xs.length)=some (4,xs.map AQ):=by rw[JK j BA,zI,List.take_append_of_le_length BA,jK BA]
 refine⟨_,_,TM NJ GZ QA P9 l (H6 H .full 4 [AQ y]) BA (I5 NZ U),⟨H.length,[],f.le,BA,BA⟩,(f.set i _).app _,fun b x a q=>?_,fun b a=>a.symm⟩;exact AU (by rw[List.getElem?_set_ne (fun e=>q e)];exact a)
theorem ADR {h:Hp}{ys:List Ex}{v:AV}(g:lU h ys v H)(d:Nat):FH h.length H (d+2) v=.sl .any 4 (ys.map AQ):=by
 obtain⟨o,a,j,rfl,f⟩:=g;have e:((ys.map AQ++a).drop 0).take ys.length=ys.map AQ:=by simp_all
 rw[Cov.frzF_own _ _ (d+1) o 0 ys.length 4 _ U f,e,frz_rows Ho.frzEx _ _ d _,if_pos];refine⟨BA,?_⟩;rw[List.all_eq_true];intro row i;obtain⟨x,_,rfl⟩:=List.mem_map.1 i;exact S9 x
theorem A3X (h:Hp)(n:Nat)(f:n<=1048576):I4 jA true h 23 (.n 0) (.n (n:Int))=some (.own h.length 0 0,h++[qG 4 (zK n EQ)]):=by
 have d:OV jA 79=some EQ:=BC;have a:room n 56:=I5 U U;unfold I4;simp only[NJ,GZ,P9,d];rw[if_pos ⟨U,U,by rw[qM];exact a,rfl⟩];simp
theorem ABD {p:Pr}(g:JS p=0):∀d∈p.dists,QY p.vars d.var=true/\d.ws.length<=16:=by
 have f:PL p.vars p.dists=0:=by
  unfold JS at g;by_cases h1:MV p.vars≠0
  .simp_all
  rw[if_neg h1] at g;by_cases h2:KY p.vars (p.hard++p.soft)≠0
  .simp_all
  rw[if_neg h2] at g;by_cases f:PL p.vars p.dists≠0
  .simp_all
  simpa using f
 intro d q;obtain⟨i,j,rfl⟩:=List.getElem_of_mem q;unfold PL at f;have a:=Bd.fstE_zero f i (BL j);rw[rB j] at a;unfold dsE at a
 cases l:QY p.vars p.dists[i].var with
 | false=>rw[if_neg (by rw[l];decide)] at a;exact absurd a DU
 | true =>
   rw[if_pos l] at a;refine⟨rfl,?_⟩;split at a
   .exact absurd a DU
   .omega
theorem ABY (hG:GOk G)(p:Pr)(L:PrS p)(M:JS p=0)(h:Hp):PCall (En G) 46 [.agg (CW p)] h (.sl .any 4 ((SL p).map AQ)):=by
 have P:=PV.of M;refine ACalls.pure (R:=fun v H=>lU h (SL p) v H/\Sm.ext h H) 2 ?_ (fun v H ⟨a,b⟩=>⟨b,ADR a 0⟩);refine acT Tryz.func46 2 ?_;have d:=AZ h (qG 5 [CW p]);have f:=Sm.ext.r1 h (qG 5 [CW p]);have K:=L.dists;refine AY @PZ ?_
 generalize h++[qG 5 [CW p]]=H0 at d f|-
 have ldP:∀ {H:Hp},H[h.length]?=some (qG 5 [CW p])->BO jA H 27 (.ptr h.length 0 0)=some (.agg (CW p)):=fun q=>by rw[EN fU cH q (row:=CW p) rfl (by rw[MG];exact jF 5)];rfl
 have B:∀ {H:Hp},H[h.length]?=some (qG 5 [CW p])->BO jA H 24 (.ptr h.length 0 3)=some (.sl p.dm 2 (p.dists.map IY)):=fun q=>by rw[BK APL q (row:=CW p) rfl];rfl
 refine AY (ldP d) ?_;refine(Bd.valid_prog G hG p L H0).use ?_;refine DC (show(JS p != 0)=false by rw[M];rfl) (B d) (A3X H0 p.dists.length K) ?_;have T:=AX d;have j:lU h ((SL p).take 0) (.own H0.length 0 0) (H0++[qG 4 (zK p.dists.length EQ)]):=⟨H0.length,zK p.dists.length EQ,f.le,rfl,BA⟩;have d:=AU (x:=qG 4 (zK p.dists.length EQ)) d;have f:=f.app [qG 4 (zK p.dists.length EQ)];have g:∀b,isB (.own H0.length 0 0) b->b≠h.length:=fun b J=>by cases J;omega
 generalize H0++[qG 4 (zK p.dists.length EQ)]=H1 at d f j|-
 refine AY (B d) ?_;generalize AV.own H0.length 0 0=v0 at j g;have a0:(SL p).length=p.dists.length:=by unfold SL;rw[jI]
 refine BB (fun n F H=>∃i v,n+i=p.dists.length/\F 1=.ptr h.length 0 0/\F 3=v/\F 14=.sl p.dm 2 (p.dists.map IY)/\F 15=.n (p.dists.length:Nat)/\F 16=.n (i:Nat)/\H[h.length]?=some (qG 5 [CW p])/\Sm.ext h H/\lU h ((SL p).take i) v H/\∀b,isB v b->b≠h.length) p.dists.length
  ⟨0,v0,BA,AO,AO,AO,AO,AO,d,f,j,g⟩ ?_
 clear d f j g;rintro n F H ⟨i,v,hi,f1,S,f14,f15,f16,d,f,j,g⟩;refine A7 f15 f16 ?_;refine DX ?_ ?_<;>intro l
 .obtain⟨d1,d2⟩:=ABD M _ (jH l)
  have lt:=AX d;have d:=AU (x:=qG 2 [IY p.dists[i]]) d;have f:=f.app [qG 2 [IY p.dists[i]]];have I:=AZ H (qG 2 [IY p.dists[i]])
  have j:lU h ((SL p).take i) v (H++[qG 2 [IY p.dists[i]]]):=by
   obtain⟨o,C,q1,q2,q3⟩:=j;exact⟨o,C,q1,q2,AU q3⟩
  have E:IG jA H 140=some (.ptr H.length 0 0,H++[qG 2 [[.n 0,.sl .nil 0 []]]]):=F9 (row:=[.n 0,.sl .nil 0 []]) BC
  have O:D8 jA (H++[qG 2 [[.n 0,.sl .nil 0 []]]]) 140 (.ptr H.length 0 0) (.agg (IY p.dists[i]))=some (H++[qG 2 [IY p.dists[i]]]):=by
   rw[JU (cs:=IY p.dists[i]) (row:=[.n 0,.sl .nil 0 []]) rfl (by rw[RI];exact dY) (AZ _ _) (by rw[RI];exact jF 2),KI];rfl
  simp only[vQ,CQ,↓reduceIte,jC,enP,AH7,jQ,f14,f16,CP l,DL AGJ dY RI l,E,O]
  generalize H++[qG 2 [IY p.dists[i]]]=H2 at d f I j|-
  refine EG f1 S (ldP d) (A1N I) ?_;refine(yK G p L P p.dists[i] d1 U H2).use ?_;obtain⟨v',H',V,Q,Y,Z,a5⟩:=ADS j f (by rw[jR];omega) (gL p p.dists[i]);have hit:i<(SL p).length:=U;have A:(SL p)[i]=gL p p.dists[i]:=by simp [SL]
  rw[<-A,<-jV hit] at Q;refine EG @QX V f16 (C9 i) ?_;refine⟨n-1,U,i+1,v',U,AC,AC,AC,AC,AC,Z _ _ d (fun q=>g _ q rfl),Y,Q,fun b J=>by have:=a5 b J;have:=AX d;have:=AX I;omega⟩
 .rw[jK U] at j
  refine AY S ?_;exact⟨j,f⟩
end
end Go.Proofs.YtiihpnicbekebaaGreatDoor.Bd.Cl
namespace Go.Proofs.YtiihpnicbekebaaGreatDoor.Bd.Cl
open Sm Bins Cov Xe Wd Bl Go.RowKit
variable {H h:Hp} {u v:AV} {a b c:List Int} {i:Nat} {e:Ex} {p:Pr}
theorem A7N (o off len:Nat):IQ jA 32 .eql (.own o off len) (.sl .nil 0 [])=some (.bool false):=BC
def cpO (h H:Hp)(xs:List Int)(v:AV):Prop:=(xs=[]/\v=.sl .full 1 [])\/(xs≠[]/\∃o,h.length<=o/\v=.own o 0 xs.length/\isI H o xs)
theorem cpO.app {xs:List Int}(q:cpO h H xs v)(x:ABlk):cpO h (H++[x]) xs v:=q.imp id fun⟨a,o,b,c,d⟩=>⟨a,o,b,c,AU d⟩
theorem cpO.keep {h H H':Hp}{B:List Nat}{xs:List Int}{v:AV}(q:cpO h H xs v)(k:KB B H H')(f:∀b∈B,b<h.length):cpO h H' xs v :=
 q.imp id fun⟨a,o,b,c,d⟩=>⟨a,o,b,c,k.keep _ _ d fun g=>by have:=f _ g;omega⟩
section
variable (G:Nat->AV)
theorem AI1 {o:Nat}{xs:List Int}(d:isI h o xs)(g:xs.length<=1048576):ACalls (En G) 189 [.own o 0 xs.length] h fun v H=>ext h H/\cpO h H xs v:=by
 by_cases hz:xs.length=0
 .have e:xs=[]:=qY hz
  subst e;refine acT Tryz.func189 2 ?_
  have f:EH jA true h 32 32 (.sl .full 1 []) (.own o 0 0)=some (.sl .full 1 [],h):=by
   unfold EH;have j:SN jA h 1 32 (.own o 0 0)=some []:=by unfold SN;simp only[gH,JK d (BA:0+0<=(([]:List Int).map Bins.qencI).length)];rfl
   simp only[gH,sz3,H6,j];rfl
  refine LC A7N @AT4 f ?_;exact⟨ext.rfl' _,.inl ⟨rfl,rfl⟩⟩
 .refine(AO9 G d (U:0+xs.length=xs.length) U g).mono ?_
  rintro v H ⟨rfl,rfl⟩;exact⟨(ext.rfl' h).app _,.inr ⟨fun e=>hz (by rw[e];rfl),h.length,jF _,rfl,by rw[List.drop_zero];exact AZ _ _⟩⟩
theorem AVB (f:GOk G)(l:List Sg)(v:AV)(q h:Hp)(E:outG 2 FV q l v h)(e:Ex)(F:l.length<=1048576)(j:wt e<=1048576):PCall (En G) 143 [.agg (AQ e),v] h (evV (evE l e)):=by
 rcases E with⟨rfl,rfl⟩|⟨B,o,I,rfl,A⟩
 .exact ACalls.args (xW G f [] .nil e h BA j) (CvRL.cons (CvR.refl _) (CvRL.cons (CvR.sl (Cv.nil 0 2)) CvRL.nil))
 .refine PCall.thaw (args':=[.agg (AQ e),.sl .any 2 (l.map FV)]) (xW G f l .any e _ U j) rfl (fun i J d=>?_) rfl
  match i,d with
  | 0,d=>exact⟨_,rfl,by cases d;exact .same _⟩
  | 1,d =>
    refine⟨_,rfl,?_⟩;cases d;refine .own o 2 l.length (l.map FV) A (by rw[List.length_map]) fun row C u g=>?_
    obtain⟨s,_,rfl⟩:=List.mem_map.1 C;simp only[FV,List.mem_cons,List.not_mem_nil,or_false] at g;rcases g with rfl|rfl<;>exact⟨rfl,rfl⟩
  | i+2,d=>cases d
theorem ATB {vars:List Vr}(z:Int)(g:i<vars.length)(h2:i<a.length):(L6 vars a).set i (vars[i].name,z)=L6 vars (a.set i z):=by
 apply List.ext_getElem?;intro j;have d:∀ {b:List Int},j<(L6 vars b).length↔j<vars.length/\j<b.length:=fun {b}=>by unfold L6;simp;omega
 by_cases hj:j<vars.length/\j<a.length
 .have f:j<(L6 vars (a.set i z)).length:=d.2 ⟨hj.1,by rw[qV];exact hj.2⟩
  rw[List.getElem?_set,jO f,bB hj.1 (by rw[qV];exact hj.2) f,List.getElem_set];by_cases e:i=j
  .simp_all
  .rw[if_neg e,if_neg e,jO (d.2 hj),bB hj.1 hj.2 (d.2 hj)]
 .simp_all
def lV (c b:List Int)(i:Nat):List Int:=c.take i++b.drop i
theorem ARR (h:c.length=b.length)(i:Nat):(lV c b i).length=b.length:=by unfold lV;simp;omega
theorem ARQ (h:c.length=b.length)(d:i<c.length):(lV c b i).set i (c.getD i 0)=lV c b (i+1):=by
 unfold lV;rw[List.set_append_right _ _ (by rw[jR];omega),jR,Nat.min_eq_left U,Nat.sub_self,List.drop_eq_getElem_cons (U:i<b.length),List.set_cons_zero,jV d,List.append_assoc];rw[List.getD_eq_getElem?_getD,jO d];rfl
theorem vV:∀(vars:List Vr) (a:List Int),a.length=vars.length->∀n:ByteArray,(MQ (L6 vars a) n).2=decide (0<=plc vars n)
 | [],[],_,n=>rfl
 | [],_::_,d,_=>by simp at d
 | _::_,[],d,_=>by simp at d
 | v::vs,z::a,d,n=>by
   have e:MQ (L6 (v::vs) (z::a)) n=if(v.name.toList==n.toList)=true then (wW z,true) else MQ (L6 vs a) n:=rfl
   have f:plc (v::vs) n=if(v.name.toList==n.toList)=true then 0 else if plc vs n<0 then -1 else plc vs n+1:=rfl
   rw[e,f];by_cases q:(v.name.toList==n.toList)=true
   .rw[if_pos q,if_pos q];rfl
   .rw[if_neg q,if_neg q,vV vs a (BL d) n,decide_eq_decide]
    split<;>omega
theorem APY {l:List Vr}(h:xpE l e=0):exE e=0/\kB e=false/\fC l e=false:=by
 unfold xpE at h;by_cases he:exE e≠0
 .rw[if_pos he] at h;exact absurd h he
 rw[if_neg he] at h;unfold plE at h;refine⟨BL he,?_,?_⟩
 .grind
 .grind
theorem A4A (h:xpE p.vars e=0)(A:a.length=p.vars.length):(pre e).all (knE (L6 p.vars a))=true:=by
 obtain⟨_,f,g⟩:=APY h;rw[zJ];intro x l
 have j:OY x=false:=by
  cases q:OY x
  .rfl
  .unfold kB at f;rw[qQ] at f;exact absurd q (f x l)
 have d:PD p.vars x=false:=by
  cases q:PD p.vars x
  .rfl
  .unfold fC at g;rw[qQ] at g;exact absurd q (g x l)
 unfold knE;by_cases e2:x.op=2
 .rw[if_pos e2,vV p.vars a A,decide_eq_true_eq]
  unfold PD at d;simp [e2] at d;exact d
 .rw[if_neg e2]
  unfold OY at j;rw[if_neg];intro q;rcases q with q|q<;>simp [q] at j
theorem AZ6 (h:xpE p.vars e=0)(d:a.length=p.vars.length):evE (L6 p.vars a) e=(TN (L6 p.vars a) e,0):=by
 unfold evE;rw[if_neg (by simpa using (APY h).1),if_pos (A4A h d)]
def Dh (h:Hp)(p:Pr)(c b:List Int)(u v:AV)(H:Hp):Prop :=
 (p.vars.length=0/\u=.sl .full 1 []/\v=.sl .nil 0 [])\/(p.vars.length≠0/\∃d o,h.length<=d/\d<o/\v=.own d 0 p.vars.length/\u=.own o 0 p.vars.length/\H[d]?=some (qG 2 ((L6 p.vars b).map FV))/\isI H o c)
theorem Dh.kb {H':Hp}(d:Dh h p c b u v H){B:List Nat}(k:KB B H H')(g:∀x∈B,x<h.length):Dh h p c b u v H' :=
 d.imp id fun⟨a,eb,o,q1,q2,q3,q4,q5,q6⟩=>⟨a,eb,o,q1,q2,q3,q4,k.keep _ _ q5 fun f=>by have:=g _ f;omega,k.keep _ _ q6 fun f=>by have:=g _ f;omega⟩
theorem Dh.env (d:Dh h p c b u v H)(j:b.length=p.vars.length):outG 2 FV h (L6 p.vars b) v H:=by
 have f:=TW j;rcases d with⟨z,_,rfl⟩|⟨z,g,o,l,A,rfl,B,q,C⟩
 .exact .inl ⟨qY U,rfl⟩
 .exact .inr ⟨fun e=>z (by rw[<-f,e];rfl),g,l,by rw[f],q⟩
theorem Dh.cpy (d:Dh h p c b u v H)(f:c.length=p.vars.length):cpO h H c u:=by
 rcases d with⟨z,rfl,_⟩|⟨z,j,o,l,q,_,rfl,A,g⟩
 .exact .inl ⟨qY U,rfl⟩
 .exact .inr ⟨fun e=>z (by rw[<-f,e];rfl),o,U,by rw[f],g⟩
theorem A67 {b:Nat}{l:List Sg}(d:H[b]?=some (qG 2 (l.map FV)))(f:i<l.length)(z:Int):D8 jA H 3 (.ptr b i 1) (.n z)=some (H.set b (qG 2 ((l.set i (l[i].1,z)).map FV))):=by
 rw[IJ (cs:=[.n z]) rfl sz3 d (Cov.row_map f) (by simp [FV]),List.map_set];rfl
theorem ASN (hG:GOk G)(p:Pr)(hs:PrS p)(P:PV p)(I:SM)(l:List Ex)(hl:l.length<=1048576)(hw:∀e∈l,wt e<=1048576)(hk:∀e∈l,xpE p.vars e=0)(j:Int)(a:List Int)(ok:AOk p a)(f d:Nat)(aw:f≠d)(h:Hp)(b3:(lft p a:Int)<=j)(af:j<=262144)
  (S:isF h f p I l d p.vars.length false j) (hb:isI h d a):ACalls (En G) 183 [.ptr f 0 0] h fun v H=>KB [f,d] h H/\match Y0 p l (lft p a) a with
  | some b=>∃u,v=.tup [u,.bool true]/\cpO h H b u
  | none=>v=.tup [.sl .nil 0 [],.bool false]/\∃a5,isF H f p I l d p.vars.length true a5:=by
 generalize hR:Y0 p l (lft p a) a=R;have bd:=hs.vars;have a6:=ok.len;have b8:=AX S;have ba:=AX hb;have hB:∀x∈[f,d],x<h.length:=fun x hx=>by simp at hx;omega
 refine acL Tryz.func183 [.tmp 2,.tmp 3] ?_;refine A7 @xG @bH ?_;refine APF (.ones [0,1,2,3,4,5,6,7] (.alt 8 (.ones [9] .done) .non)) BC ?_;simp only[DN,O7,List.getElem?_cons_succ,List.getElem?_cons_zero];refine EG @AA0 @X7 @S.pr @S.as ?_;have hE:=AY9 G p hs a d a6 h hb;rw[a6] at hE;refine⟨ACalls.mono hE ?_,trivial⟩;rintro v0 H1 ⟨a4,al⟩;have k1:KB [f,d] h H1:=⟨a4.le,fun i y q _=>DW a4 q⟩;have aq:isF H1 f p I l d p.vars.length false j:=DW a4 S;have an:isI H1 d a:=DW a4 hb;refine DC @A37 @A38 @bH ?_;refine EK 0 (fun F H=>KB [f,d] h H/\R=none/\∃a5,isF H f p I l d p.vars.length true a5) (fun F H=>KB [f,d] h H/\∃b,R=some b/\F 3=.bool true/\cpO h H b (F 2)) ?_ ?_ ?_
 .refine BB (fun n F H=>∃ov c b j,F 0=.ptr f 0 0/\KB [f,d] h H/\b.length=p.vars.length/\outG 2 FV h (L6 p.vars b) (F 4) H/\isF H f p I l d p.vars.length ov j/\c.length=p.vars.length/\isI H d c/\(ov=true->R=none)/\(ov=false->n=lft p c/\AOk p c/\Y0 p l (lft p c) c=R/\(lft p c:Int)<=j/\j<=262144)) (lft p a)
   ⟨false,a,a,j,AO,k1,a6,by refine AB ?_;exact al,aq,a6,an,(fun q=>by cases q),fun _=>⟨rfl,ok,hR,b3,af⟩⟩ ?_
  clear S hb aq an k1 al a4 b3 af;rintro n F H ⟨ov,c,b,j,Z,k1,b6,ho,S,g,hb,az,ax⟩
  cases ov with
  | true =>
    refine DC @mM Z @S.ovd ?_;exact⟨k1,az rfl,j,S⟩
  | false =>
    obtain⟨rfl,ad,hS,b2,bc⟩:=ax rfl;have b0:=AK7 ad;have z1:IntKind.i64.wrap (j-1)=j-1:=wrap_i64 U U;have b1:decide (j>0)=true:=by rw[decide_eq_true_eq];omega
    have k2:=k1.set (b:=f) BA (qG 9 [fdr p I l d p.vars.length false (j-1)]);have aa:isF (H.set f (qG 9 [fdr p I l d p.vars.length false (j-1)])) f p I l d p.vars.length false (j-1):=CJ S;have a7:isI (H.set f (qG 9 [fdr p I l d p.vars.length false (j-1)])) d c:=by unfold isI;rw[zW aw];exact hb
    have Y:outG 2 FV h (L6 p.vars b) (F 4) (H.set f (qG 9 [fdr p I l d p.vars.length false (j-1)])):=ho.setB b8 _;refine V7 @X7 @mM @AXR Z @S.ovd @S.std b1 z1 @S.setSt ?_
    generalize H.set f (qG 9 [fdr p I l d p.vars.length false (j-1)])=H2 at k2 aa a7 Y|-
    refine A7 Z @aa.as ?_;have hC:=AI1 G a7 U;rw[g] at hC;refine hC.mono ?_;rintro u H3 ⟨T,ao⟩;have k3:KB [f,d] h H3:=k2.trans ⟨T.le,fun i y q _=>DW T q⟩;have M:isF H3 f p I l d p.vars.length false (j-1):=DW T aa;have L:isI H3 d c:=DW T a7;have ay:=Ho.outG_ext Y T
    have B:Dh h p c (lV c b 0) u (F 4) H3:=by
     have e0:lV c b 0=b:=by simp [lV]
     rw[e0];have ap:=TW b6;rcases ao with⟨z,rfl⟩|⟨z,o,q1,rfl,q2⟩
     .have hz:p.vars.length=0:=by rw[<-g,z];rfl
      rcases ay with⟨_,w⟩|⟨w,_⟩
      .exact .inl ⟨hz,rfl,w⟩
      .simp_all
     .have hz:p.vars.length≠0:=fun q=>z (qY U)
      rcases Y with⟨w,_⟩|⟨w,eb,p1,p2,p3⟩
      .simp_all
      .exact .inr ⟨hz,eb,o,p1,by have:=AX p3;omega,by rw[p2,ap],by rw[g],DW T p3,q2⟩
    have av:KA jA 32 u=some (.n (p.vars.length:Nat)):=by
     rcases B with⟨z,rfl,z3⟩|⟨z,eb,o,q1,q2,q3,rfl,q5,q6⟩
     .simp only[YT,z];rfl
     .simp only[YT]
    refine AY @av ?_;refine EK 2 (fun K A=>K 0=.ptr f 0 0/\K 4=F 4/\K 5=u/\KB [f,d] h A/\isF A f p I l d p.vars.length false (j-1)/\isI A d c/\Dh h p c c u (F 4) A) (fun _ _=>False) ?_ ?_ (fun _ _ q=>q.elim)
    .refine BB (fun n K A=>∃i,n+i=p.vars.length/\K 0=.ptr f 0 0/\K 4=F 4/\K 5=u/\K 45=u/\K 46=.n (p.vars.length:Nat)/\K 47=.n (i:Nat)/\KB [f,d] h A/\isF A f p I l d p.vars.length false (j-1)/\isI A d c/\Dh h p c (lV c b i) u (F 4) A) p.vars.length
      ⟨0,BA,D7 Z,AO,AO,AO,AO,AO,k3,M,L,B⟩ ?_
     clear k3 M L B;rintro n F2 A ⟨i,hi,Z,f4,f5,ag,b4,am,k3,M,L,B⟩;refine A7 b4 am ?_;refine DX ?_ ?_<;>intro C
     .have ar:i<c.length:=U
      rcases B with⟨z,_⟩|⟨z,eb,o,q1,q2,q3,q4,q5,q6⟩
      .omega
      have bb:=ARR (c:=c) (b:=b) U i;have au:i<(L6 p.vars (lV c b i)).length:=by rw[TW U];exact C
      have ss:=A67 q5 au (c.getD i 0);rw[bB C U au,ATB _ C U,ARQ U ar] at ss;have b9:JD 2 A (.own eb 0 p.vars.length) (.n (i:Nat))=some (.ptr eb i 0):=by rw[GN q5 C,jG]
      rw[q4] at ag;rw[q3] at f4;simp only[vQ,CQ,↓reduceIte,jC,enP,LJ,ALC,AA1,jQ,Z,f4,ag,am,q6.ix C,q6.ld ar,b9,ss,C9 i];refine⟨n-1,U,i+1,U,AC,by first|exact True.intro|(rw[q3];exact f4)|exact q3.symm,AC,by first|exact True.intro|(rw[q4];exact ag)|exact q4.symm,AC,AC,⟨by rw[qV];exact k3.len,fun k y q hm=>?_⟩,?_,?_,.inr ⟨z,eb,o,q1,q2,q3,q4,CJ q5,?_⟩⟩
      .rw[zW (by have:=AX q;omega)];exact k3.keep k y q hm
      .grind
      .grind
      .grind
     .have e1:lV c b i=c:=by unfold lV;rw[jK U,List.drop_eq_nil_of_le U,List.append_nil]
      rw[e1] at B;refine AB ?_;exact⟨AC,AC,AC,k3,M,L,B⟩
    clear k3 M L B ay ao T Y a7 aa k2 ho S hb az ax k1;rintro F2 A ⟨Z,f4,f5,k3,M,L,B⟩;have hA:=ABT G p hs P I l (j-1) c ad f d aw A (by rw[g];exact M) L;rw[g] at hA;refine AY Z ?_;refine hA.mono ?_;rintro _ H4 ⟨kA,V⟩;have k4:=k3.trans kA;have a0:=B.kb kA hB;generalize hN:nxK p.vars p.vars.length c=O at V
    obtain⟨J,E,a1,ae,a8,al,Y⟩:∃J E,isF H4 f p I l d p.vars.length J (j-1)/\E.length=p.vars.length/\isI H4 d E/\(J=true->O=none)/\(J=false->O=some E):=by
     cases O with
     | none =>
       obtain⟨q1,E,q2,q3⟩:=V;exact⟨true,E,q1,U,q3,fun _=>rfl,fun q=>by cases q⟩
     | some E =>
       obtain⟨q1,q2⟩:=V;exact⟨false,E,q1,(eP ad hN).1.len,q2,(fun q=>by cases q),fun _=>rfl⟩
    clear V hA
    have go:WF p l c≠true->(J=true->R=none)/\(J=false->AOk p E/\lft p E+1=lft p c/\Y0 p l (lft p E) E=R):=fun ak=>by
     obtain⟨k,aj⟩:∃k,lft p c=k+1:=⟨lft p c-1,U⟩;rw[aj] at hS;unfold Y0 at hS;rw[if_neg ak,hN] at hS;constructor
     .grind
     .intro q
      rw[Y q] at hN hS;have hS:Y0 p l k E=R:=hS;obtain⟨n1,n2⟩:=eP ad hN;refine⟨n1,n2,?_⟩;rw[<-hS,show lft p E=k by omega]
    have ai:WF p l c=true->R=some c:=fun q=>by
     obtain⟨k,aj⟩:∃k,lft p c=k+1:=⟨lft p c-1,U⟩;rw[aj] at hS;unfold Y0 at hS;rw[if_pos q] at hS;exact hS.symm
    refine DC @AXS Z @a1.es ?_
    refine BB (fun n K A=>∃i,n+i=l.length/\K 0=.ptr f 0 0/\K 4=F 4/\K 5=u/\K 63=.sl I 4 (l.map AQ)/\K 64=.n (l.length:Nat)/\K 65=.n (i:Nat)/\KB [f,d] h A/\isF A f p I l d p.vars.length J (j-1)/\isI A d E/\Dh h p c c u (F 4) A/\∀e∈l.take i,TN (L6 p.vars c) e≠0) l.length
     ⟨0,BA,D7 Z,D7 f4,D7 f5,AO,AO,AO,k4,a1,a8,a0,BA⟩ ?_
    clear Z f4 f5 k3 M L B k4 a1 a8 a0 kA;rintro n F2 A ⟨i,hi,Z,f4,f5,b5,f64,ah,k4,a1,a8,a0,a3⟩;refine A7 f64 ah ?_;refine DX ?_ ?_<;>intro C
    .have a2:=List.getElem_mem C
     have k5:=k4.app (qG 4 [AQ l[i]]);have ac:isF (A++[qG 4 [AQ l[i]]]) f p I l d p.vars.length J (j-1):=AU a1;have a9:isI (A++[qG 4 [AQ l[i]]]) d E:=AU a8;have Q:=a0.kb ((KB.rfl' [f,d] A).app (qG 4 [AQ l[i]])) hB;have gE:=AZ A (qG 4 [AQ l[i]]);simp only[vQ,CQ,↓reduceIte,jC,enP,PU,jQ,b5,ah,CP C,DL NI GZ EC C,al79,st79]
     generalize A++[qG 4 [AQ l[i]]]=H5 at k5 ac a9 Q gE|-
     refine A7 (IC gE) f4 ?_;have ap:=TW (vars:=p.vars) g;refine(AVB G hG (L6 p.vars c) (F 4) h H5 (Q.env g) l[i] U (hw _ a2)).use ?_;have b7:evV (evE (L6 p.vars c) l[i])=.tup [.n (TN (L6 p.vars c) l[i]:Nat),.n 0]:=by rw[AZ6 (hk _ a2) g];rfl
     rw[b7];refine AB ?_;refine BH ?_ ?_<;>intro hz
     .have hz:TN (L6 p.vars c) l[i]=0:=BL hz
      have ak:WF p l c≠true:=fun q=>by
       unfold WF at q;rw[zJ] at q;have:=q _ a2;rw[hz] at this;simp at this
      obtain⟨g1,g2⟩:=go ak;refine AB ?_
      cases hq:J with
      | true =>
        refine⟨0,b0,true,E,c,j-1,AC,k5,g,?_,by rw[<-hq];exact ac,ae,a9,fun _=>g1 hq,fun q=>by cases q⟩
        first|(rw[f4];exact Q.env g)|exact Q.env g
      | false =>
        obtain⟨n1,n2,n3⟩:=g2 hq;refine⟨lft p E,U,false,E,c,j-1,AC,k5,g,?_,by rw[<-hq];exact ac,ae,a9,(fun q=>by cases q),fun _=>⟨rfl,n1,n3,U,U⟩⟩
        first|(rw[f4];exact Q.env g)|exact Q.env g
     .have hz:TN (L6 p.vars c) l[i]≠0:=BL hz
      refine A7 ah (C9 i) ?_;refine⟨n-1,U,i+1,U,AC,AC,AC,AC,AC,AC,k5,ac,a9,Q,fun e he=>?_⟩;rw[jV C] at he;rcases List.mem_append.1 he with h1|h1
      .exact a3 e h1
      .rw[List.mem_singleton.1 h1];exact hz
    .rw[jK U] at a3
     have b2:WF p l c=true:=by
      unfold WF;rw[zJ];intro e he;have:=a3 e he;simpa using this
     refine AY f5 ?_;exact⟨k4,c,ai b2,AC,a0.cpy g⟩
 .rintro F H ⟨k1,ho,a5,S⟩
  refine AB ?_;refine⟨k1,?_⟩;rw[ho];exact⟨AC,a5,S⟩
 .rintro F H ⟨k1,b,ho,f3,hc⟩
  refine AY f3 ?_;refine⟨k1,?_⟩;rw[ho];exact⟨_,AC,hc⟩
end
def FstQ (r:Option (List Int))(v:AV):Prop:=match r with
 | some a=>∃m,m≠.nil/\v=.tup [.sl m 1 (a.map Bins.qencI),.n 0]
 | none=>v=.tup [.sl .nil 0 [],.n 11]
theorem KB.ext {h H H':Hp}{B:List Nat}(d:Sm.ext h H)(k:KB B H H')(f:∀b∈B,h.length<=b):Sm.ext h H' :=
 AS7 (fun i y q=>k.keep i y (DW d q) (fun g=>by have:=f _ g;have:=AX q;omega)) (Nat.le_trans d.le k.len)
section
variable (G:Nat->AV)
theorem AJX (L:GOk G)(p:Pr)(S:PrS p)(T:JS p=0)(I:SM)(l:List Ex)(M:l.length<=1048576)(V:∀e∈l,wt e<=1048576)(hk:∀e∈l,xpE p.vars e=0)(a2:lft p (NM p)<=262144)(h:Hp):
  QCall (En G) 100 [.agg (CW p),.sl I 4 (l.map AQ),.n 262144] h (FstQ (QP p l)):=by
 have P:=PV.of T;have J:=AAR P;refine ACalls.pureQ (R:=fun v H=>Sm.ext h H/\FstQ (QP p l) (FH h.length H 3 v)) 3 ?_ (fun v H ⟨a,b⟩=>⟨a,b⟩);refine acL Tryz.func100 [.tmp 6,.tmp 7] ?_;have K:=AZ h (qG 5 [CW p]);have E:=Sm.ext.r1 h (qG 5 [CW p]);refine AY @PZ ?_
 generalize h++[qG 5 [CW p]]=H0 at K E|-
 have lp:BO jA H0 27 (.ptr h.length 0 0)=some (.agg (CW p)):=by rw[EN fU cH K (row:=CW p) rfl (by rw[MG];exact jF 5)];rfl
 refine AY lp ?_;refine(AJA G L p S T I l M V hk H0).mono ?_;rintro v Y ⟨F,fb,Z,a1,a0,C,rfl,hf,q⟩;have f:=E.trans F;have a3:=E.le;refine AY (show((0:Int) != 0)=false from rfl) ?_;refine(ASN G L p S P I l M V hk 262144 (NM p) J fb Z C Y U U hf q).mono ?_;rintro v j ⟨k,d⟩;have g:Sm.ext h j:=KB.ext f k (fun b q=>by simp at q;omega);have a4:=f.le;unfold QP
 cases Q:Y0 p l (lft p (NM p)) (NM p) with
 | some a =>
   rw[Q] at d;obtain⟨u,rfl,hc⟩:=d;refine AB ?_;refine⟨g,?_⟩;rcases hc with⟨rfl,rfl⟩|⟨O,o,ho,rfl,A⟩
   .exact⟨.full,by decide,rfl⟩
   .refine⟨.any,by decide,?_⟩
    show AV.tup [FH h.length j 2 (.own o 0 a.length),FH h.length j 2 (.n 0)]=_;rw[Cov.frz_own Cov.frzI (U:h.length<=o) A];rfl
 | none =>
   rw[Q] at d;obtain⟨rfl,a5,B⟩:=d;refine A7 @mM @B.ovd ?_;exact⟨g,rfl⟩
def AIH (r:Option (List Int)):AV:=match r with
 | some a=>.tup [.sl .any 1 (a.map Bins.qencI),.n 0]
 | none=>.tup [.sl .nil 0 [],.n 11]
theorem FstQ.cv {r:Option (List Int)}(h:FstQ r v):CvR v (AIH r):=by
 cases r with
 | none=>rw[show v=_ from h];exact CvR.refl _
 | some a =>
   obtain⟨m,d,rfl⟩:=h;exact CvR.tup (CvRL.cons (CvR.sl (Cv.any d 1 _)) (CvRL.cons (CvR.refl _) CvRL.nil))
theorem AY7 (g:GOk G)(p:Pr)(A:PrS p)(B:JS p=0)(f:SM)(l:List Ex)(j:l.length<=1048576)(C:∀e∈l,wt e<=1048576)(hk:∀e∈l,xpE p.vars e=0)(d:lft p (NM p)<=262144)(h:Hp):
  PCall (En G) 100 [.agg (CW p),.sl f 4 (l.map AQ),.n 262144] h (AIH (QP p l)) :=
 ACalls.conv (AJX G g p A B f l j C hk d h) fun _ _ ⟨q,e⟩=>⟨_,⟨rfl,e⟩,q.cv⟩
end
end Go.Proofs.YtiihpnicbekebaaGreatDoor.Bd.Cl
namespace Go.Proofs.YtiihpnicbekebaaGreatDoor.Bd.Cl
open Sm Bins Cov Xe Wd Bl Ho Go.RowKit
variable {s:ByteArray} {a e:Ex} {vs:List Vr} {H:Hp} {b:Nat} {c d:Int} (G:Nat->AV )
theorem aR (h:FI s=true):s.size<=16:=by
 unfold FI at h;have:=(Bool.and_eq_true_iff.1 (Bool.and_eq_true_iff.1 h).1).2;simpa using this
theorem yH (s:ByteArray):s.size=s.data.toList.length:=(Array.length_toList).symm
theorem AOY (h:(KE s).isSome=true):s.size<=19:=by
 unfold KE at h;split at h
 .rename_i f
  split at h
  .split at h
   .rename_i g
    have j:=(Bool.and_eq_true_iff.1 g).2;have:=aR j
    rw[yH] at this|-
    simp at this
    simp at f|-
    omega
   .cases h
  .cases h
 .cases h
theorem AP3 (h:F7 s=true):s.size<=19:=by
 unfold F7 at h;rcases Bool.or_eq_true_iff.1 h with q|q
 .exact AOY q
 .have:=aR q;omega
theorem AD1 (h:QN s=true):s.size=0:=by
 unfold QN at h;have:=str_eq h;rw[this];rfl
theorem uV (h:II e=0):e.name.size<=19:=by
 unfold II at h;have E:badO e=false:=by grind
 have C:dG e=false:=by grind
 have j:XG e=false:=by grind
 have l:XF e=false:=by simp_all
 unfold XG at j;rw[wG] at j;have f:=j.1;unfold XF at l;rw[wG] at l;obtain⟨B,g⟩:=l;cases A:QN e.name
 .rw[A] at f
  have f:KW e.op=true:=BL f;unfold KW at f;simp only[Bool.or_eq_true,beq_iff_eq] at f;rcases f with (q|q)|q
  .rw[q] at B
   exact AP3 (BL B)
  .rw[q] at g
   have:=aR (s:=e.name) (BL g);omega
  .rw[q] at g
   have:=aR (s:=e.name) (BL g);omega
 .rw[AD1 A];omega
theorem AZI (B:Nat)(e:Ex):(∀x∈pre e,x.name.size<=B)->wt e<=(pre e).length*(B+1):=by
 induction e using Ex.induct with|h e ih=>?_
 intro h
 have C:∀f:List Ex,(∀a∈f,wt a<=(pre a).length*(B+1))->wts f<=(FT f).length*(B+1):=by
  intro f
  induction f with
  | nil=>intro _;simp [wts]
  | cons x f l =>
    intro j;have q:=j x BA;have A:=l fun a g=>j a (by simp [g])
    simp only[wts,FT,jW,qK];omega
 have q:=C e.args fun a g=>ih a g fun x j=>h x (by rw[pre_eq];exact List.mem_cons_of_mem _ (VO g x j))
 have A:=h e (by rw[pre_eq];simp);rw[N7,pre_eq,zF,qK];omega
theorem AXT (f:exE e=0):(pre e).length<=400:=by
 unfold exE at f;split at f
 .cases f
 .simp_all
theorem AIO (h:exE e=0):wt e<=8000:=by
 have g:=AZI 19 e fun x f=>uV (bA h x f)
 have j:=AXT h;omega
theorem AOS {xs:List Ex}(h:∀x∈xs,II x=0):errs xs=0:=by
 induction xs with
 | nil=>rfl
 | cons y j g =>
   show j.foldl (fun z e=>if z=0 then II e else z) (II y)=0;rw[h y BA];exact g fun x f=>h x (by simp [f])
def Gd (vs:List Vr)(x:Ex):Prop:=II x=0/\OY x=false/\PD vs x=false
theorem AZ1 (h:∀x∈pre e,Gd vs x)(q:dep e<=24)(A:(pre e).length<=400):xpE vs e=0:=by
 have g:exE e=0:=by
  unfold exE;rw[AOS fun x f=>(h x f).1,if_neg U]
 have j:kB e=false:=qQ.2 fun x f=>by rw[(h x f).2.1];simp
 have l:fC vs e=false:=qQ.2 fun x f=>by rw[(h x f).2.2];simp
 unfold xpE;rw[if_neg (by rw[g];simp)];unfold plE;rw[j,l];rfl
theorem AAD:QN (⟨#[]⟩:ByteArray)=true:=by unfold QN;exact beq_self_eq_true _
theorem ASS {n:Int}(h:0<=n/\n<=65535):∀x∈pre (cE n),Gd vs x:=by
 intro x g;have e:x=cE n:=by simpa [cE,pre,FT] using g
 subst e;refine⟨?_,rfl,rfl⟩
 have b:dG (cE n)=false:=by
  have:dG (cE n)=((true&&(decide (n<0)||decide (n>65535)))||(false && !(n==0))):=rfl;rw[this];simp;omega
 have f:XG (cE n)=false:=by
  have:XG (cE n)=((!KW 1 && !QN (⟨#[]⟩:ByteArray)) || !XZ 1 0):=rfl;rw[this,AAD];rfl
 unfold II;rw[b,f];rfl
theorem ALG {n:ByteArray}(h:F7 n=true)(g:0<=plc vs n):∀x∈pre (JV n),Gd vs x:=by
 intro x f;have e:x=JV n:=by simpa [JV,pre,FT] using f
 subst e;refine⟨?_,rfl,?_⟩
 .have b:XF (JV n)=false:=by
   have:XF (JV n)=((true && !F7 n)||((false||false) && !FI n)):=rfl;rw[this,h];rfl
  unfold II;rw[b];rfl
 .have:PD vs (JV n)=(true&&decide (plc vs n<0)):=rfl
  rw[this];simp;omega
theorem uZ {x:Ex}{xs:List Ex}(h:x∈FT xs):∃a∈xs,x∈pre a:=mem_pres.1 h
theorem ALI {l:List Rng}(E:∀x∈pre e,Gd vs x)(B:l≠[])(C:l.length<=16)(F:∀r∈l,0<=r.lo/\r.lo<=65535/\0<=r.hi/\r.hi<=65535):∀x∈pre (IU e l),Gd vs x:=by
 intro x q;rw[VS,pre_eq] at q;rcases zO.1 q with rfl|q
 .have j:(insL e l).length=1+2*l.length:=by unfold insL;rw[zF,V3];omega
  have J:0<l.length:=qR.2 B;refine⟨?_,rfl,rfl⟩
  have b:XG (.mk 23 0 ⟨#[]⟩ .any (insL e l))=false:=by
   have:XG (.mk 23 0 ⟨#[]⟩ .any (insL e l))=((!KW 23 && !QN (⟨#[]⟩:ByteArray)) || !XZ 23 (insL e l).length):=rfl;rw[this,j,AAD];unfold XZ;simp;omega
  unfold II;rw[b];rfl
 .obtain⟨a,f,g⟩:=uZ q
  have f:a∈insL e l:=f;unfold insL at f;rcases zO.1 f with rfl|f
  .exact E x g
  .unfold cEs at f
   obtain⟨r,I,A⟩:=List.mem_flatMap.1 f;have:=F r I;simp only[zO,List.not_mem_nil,or_false] at A;rcases A with rfl|rfl
   .exact ASS U x g
   .exact ASS U x g
theorem A1T {b:Ex}(q:∀x∈pre a,Gd vs x)(A:∀x∈pre b,Gd vs x):∀x∈pre (orE a b),Gd vs x:=by
 intro x f;unfold orE at f;rw[pre_eq] at f;rcases zO.1 f with rfl|f
 .refine⟨?_,rfl,rfl⟩
  have l:XG (.mk 20 0 ⟨#[]⟩ .full [a,b])=false:=by
   have:XG (.mk 20 0 ⟨#[]⟩ .full [a,b])=((!KW 20 && !QN (⟨#[]⟩:ByteArray)) || !XZ 20 2):=rfl;rw[this,AAD];rfl
  unfold II;rw[l];rfl
 .obtain⟨c,j,g⟩:=uZ f
  have j:c∈[a,b]:=j;simp only[zO,List.not_mem_nil,or_false] at j;rcases j with rfl|rfl
  .exact q x g
  .exact A x g
theorem oE:∀l:List Rng,(FT (cEs l)).length=2*l.length
 | []=>rfl
 | r::l=>by
   rw[UC];have:=oE l;simp only[FT,jW,this,zF];simp [cE,pre,FT];omega
theorem rD:∀l:List Rng,deps (cEs l)<=1
 | []=>qF _
 | r::l=>by
   rw[UC];have:=rD l;simp only[deps];simp [cE,dep,deps];omega
theorem AD8 (n:ByteArray)(R:List Rng):∀k,(pre (O1 (JV n) R k)).length<=35*(k+1)/\dep (O1 (JV n) R k)<=k+2
 | 0=>by
   have j:=RF R 0;show(pre (IU (JV n) (Ho.part R 0))).length<=_/\dep (IU (JV n) (Ho.part R 0))<=_;rw[VS,pre_eq,YA];show(_::FT (insL (JV n) (Ho.part R 0))).length<=_/\deps (insL (JV n) (Ho.part R 0))+1<=_;have f:=oE (Ho.part R 0);have g:=rD (Ho.part R 0);unfold insL;simp only[FT,deps,zF,jW,f];simp [JV,pre,FT,dep,deps];omega
 | k+1=>by
   have q:=AD8 n R k;have j:=RF R (k+1);have f:=oE (Ho.part R (k+1));have g:=rD (Ho.part R (k+1))
   have l:(pre (IU (JV n) (Ho.part R (k+1)))).length<=34/\dep (IU (JV n) (Ho.part R (k+1)))<=2:=by
    rw[VS,pre_eq,YA];show(_::FT (insL (JV n) (Ho.part R (k+1)))).length<=_/\deps (insL (JV n) (Ho.part R (k+1)))+1<=_;unfold insL;simp only[FT,deps,zF,jW,f];simp [JV,pre,FT,dep,deps];omega
   show(pre (orE (O1 (JV n) R k) (IU (JV n) (Ho.part R (k+1))))).length<=_/\dep (orE (O1 (JV n) R k) (IU (JV n) (Ho.part R (k+1))))<=_;unfold orE;rw[pre_eq,YA];show(_::FT [O1 (JV n) R k,IU (JV n) (Ho.part R (k+1))]).length<=_/\deps [O1 (JV n) R k,IU (JV n) (Ho.part R (k+1))]+1<=_;simp only[FT,deps,zF,jW,jM];omega
theorem ALH {vs:List Vr}{n:ByteArray}(h:F7 n=true)(j:0<=plc vs n){R:List Rng}(g:∀r∈R,0<=r.lo/\r.lo<=65535/\0<=r.hi/\r.hi<=65535):∀k,16*k<R.length->∀x∈pre (O1 (JV n) R k),Gd vs x
 | 0,hk=>by
   show ∀x∈pre (IU (JV n) (Ho.part R 0)),_;refine ALI (ALG h j) ?_ (RF R 0) fun r f=>g r ?_
   .unfold Ho.part;intro e
    have:=congrArg qL e;rw[jR,wV,zH] at this;omega
   .unfold Ho.part at f;exact List.mem_of_mem_drop (List.mem_of_mem_take f)
 | k+1,hk=>by
   show ∀x∈pre (orE (O1 (JV n) R k) (IU (JV n) (Ho.part R (k+1)))),_;refine A1T (ALH h j g k U) (ALI (ALG h j) ?_ (RF R (k+1)) fun r f=>g r ?_)
   .unfold Ho.part;intro e
    have:=congrArg qL e;rw[jR,wV,zH] at this;omega
   .unfold Ho.part at f;exact List.mem_of_mem_drop (List.mem_of_mem_take f)
theorem AWK {v:Vr}(h:v∈vs):0<=plc vs v.name:=by
 apply Classical.byContradiction;intro q;have:=iD (O8 v.name) vs (by unfold plc at q;omega) v h;unfold O8 at this;simp at this
theorem A00 {p:Pr}(B:JS p=0):∀e∈SL p,xpE p.vars e=0:=by
 intro e l;have P:=PV.of B;unfold SL at l;obtain⟨d,E,rfl⟩:=List.mem_map.1 l;obtain⟨C,J⟩:=ABD B d E;obtain⟨k,hk,g,L⟩:=WT C;obtain⟨I,S,T,_⟩:=U2 (P.vr _ (jH hk))
 have f:gL p d=gK p.vars[k].name (runs d.ws (2^p.vars[k].width.toNat)):=by
  unfold gL;rw[g,Int.toNat_natCast,List.getElem?_eq_getElem hk]
 have K:(2:Nat)^p.vars[k].width.toNat<=256:=by
  have:p.vars[k].width.toNat<=8:=U
  calc (2:Nat)^p.vars[k].width.toNat<=2^8:=Nat.pow_le_pow_right DU this
   _=256:=rfl
 have j:=AQX d.ws (2^p.vars[k].width.toNat);have A:=AKJ d.ws (2^p.vars[k].width.toNat);rw[f];generalize runs d.ws (2^p.vars[k].width.toNat)=R at j A;unfold gK;by_cases q:R=[]
 .rw[if_pos q]
  exact AZ1 (ASS U) (by simp [cE,dep,deps]) (by simp [cE,pre,FT])
 .rw[if_neg q]
  have M:0<R.length:=qR.2 q;have F:parts R-1<=2:=by unfold parts;omega
  obtain⟨O,Q⟩:=AD8 p.vars[k].name R (parts R-1);exact AZ1 (ALH I (AWK (jH hk)) (fun r j=>by have:=A r j;omega) _ (by unfold parts;omega)) U U
theorem AZH (h:xpE vs e=0):wt e<=8000:=AIO (APY h).1
theorem AO1:∀i:Nat,i<9->YP jA 334 9 (.sl .full 1 [[.int .u8 (IntKind.u8.wrap (IntKind.i64.wrap (48+(i:Int))))]])=some (.str ⟨#[UInt8.ofNat (48+i)]⟩)
 | 0,_=>BC
 | 1,_=>BC
 | 2,_=>BC
 | 3,_=>BC
 | 4,_=>BC
 | 5,_=>BC
 | 6,_=>BC
 | 7,_=>BC
 | 8,_=>BC
 | n+9,h=>absurd h U
theorem A3E:∀(k:Nat),k<9->∀h:Hp,IP jA h 9 (.str AMG) (some (.n (k:Nat))) (some (.n ((k+1:Nat):Int))) none=some (.str (dgS k))
 | 0,_,h=>BC
 | 1,_,h=>BC
 | 2,_,h=>BC
 | 3,_,h=>BC
 | 4,_,h=>BC
 | 5,_,h=>BC
 | 6,_,h=>BC
 | 7,_,h=>BC
 | 8,_,h=>BC
 | n+9,q,_=>absurd q U
theorem ACR (k:Nat)(hk:k<9)(h:Hp):PCall (En G) 396 [.n (k:Nat)] h (.str (dgS k)):=by
 refine acT Tryz.func396 2 ?_;have f:decide (((k:Nat):Int)<10)=true:=by simp;omega
 have:=A3E k hk h;unfold AMG at this;refine DC f (C9 k) @this ?_;exact G7
theorem AJV (k:Nat)(hk:k<9)(h:Hp):PCall (En G) 288 [.n (k:Nat)] h (.str (dgS k)):=by
 have l:PCall (En G) 358 [.n (k:Nat),.n 10] h (.str (dgS k)):=by
  refine acT Tryz.func358 4 ?_;have f:((10:Int)==10)=true:=rfl;have g:decide ((0:Int)<=((k:Nat):Int))=true:=BA;have j:decide (((k:Nat):Int)<100)=true:=by simp;omega
  refine DC f g j ?_;refine(ACR G k hk h).uu ?_;exact G7
 have q:PCall (En G) 324 [.n (k:Nat)] h (.str (dgS k)):=by
  refine acT Tryz.func324 2 ?_;refine AB ?_;refine l.uu ?_;exact G7
 refine acT Tryz.func288 2 ?_;refine AB ?_;refine q.uu ?_;exact G7
theorem AI8 (k:Nat)(hk:k<9)(h:Hp):PCall (En G) 330 [.n (k:Nat)] h (.n (-(k:Int))):=by
 refine acT Tryz.func330 2 ?_;refine AB ?_;refine BH ?_ ?_<;>intro f
 .have e:IntKind.i64.wrap (0-((k:Nat):Int)) = -(k:Int):=by rw[wrap_i64 U U];omega
  refine A7 @AG3 e ?_;exact G7
 .have e:((k:Nat):Int) = -(k:Int):=by
   have:¬((k:Nat):Int)>0:=BL f;omega
  refine AB ?_;exact⟨by rw[<-e],trivial⟩
theorem AGX (k:Nat)(hk:k<9)(h:Hp):PCall (En G) 307 [.n (k:Nat)] h (.str (dgS k)):=by
 refine acT Tryz.func307 2 ?_;refine AB ?_;refine(AI8 G k hk h).uu ?_;refine BB (fun n F H=>n=0/\F 0=.n (k:Nat)/\F 3=.str ⟨#[]⟩/\F 4=.n (-(k:Int))/\H=h) 0 ⟨rfl,AO,AO,AO,rfl⟩ ?_;rintro n F H ⟨rfl,q,A,B,rfl⟩;have g:(-(k:Int)).tmod 10 = -(k:Int):=by grind
 have j:(-(k:Int)).tdiv 10=0:=by grind
 have l:(48:Int) - -(k:Int)=48+(k:Int):=U;have E:IQ jA 3 .rem (.n (-(k:Int))) (.n 10)=some (.n (-(k:Int))):=by rw[bF _ _ _ _ _ DU,g]
 have I:IQ jA 3 .quo (.n (-(k:Int))) (.n 10)=some (.n 0):=by rw[ABM _ _ _ _ _ DU,j];rfl
 have f:IQ jA 9 .add (.str (dgS k)) (.str ⟨#[]⟩)=some (.str (dgS k)):=by
  rw[PN (by show 1+0<=_;omega)];congr 2
 have z:((0:Int)==0)=true:=rfl;have dc:=AO1 k hk;change _=some (AV.str (dgS k)) at dc;have C:decide (((k:Nat):Int)<0)=false:=BA;simp only[vQ,RP,VF,kR,CQ,yA,MR,↓reduceIte,jC,enP,ATO,q,A,B,E,I,l,AT6,dc,f,z,C];exact G7
theorem qS (a:ByteArray)(k:Nat)(hk:k<9)(h:Hp)(l:a.size<=1048576):PCall (En G) 233 [.str a,.n (k:Nat)] h (.str (elN a k)):=by
 refine acT Tryz.func233 4 ?_;obtain⟨f,g,j⟩:=AYS a k l;refine AY f ?_;refine(AJV G k hk h).use ?_;refine A7 g j ?_;exact G7
theorem wD (a:ByteArray)(k:Nat)(hk:k<9)(h:Hp)(l:a.size<=1048576):PCall (En G) 263 [.str a,.n (k:Nat)] h (.str (elN a k)):=by
 refine acT Tryz.func263 4 ?_;obtain⟨f,g,j⟩:=AYS a k l;refine AY f ?_;refine(AGX G k hk h).use ?_;refine A7 g j ?_;exact G7
theorem ARL (a:ByteArray):F7 (elN a 8)=false:=by
 have f:=RJ a 8;unfold F7
 have j:KE (elN a 8)=none:=by
  unfold KE;rw[f];have e:(a.data.toList++[91,UInt8.ofNat (48+8),93]).length-3=a.data.toList.length:=BA;rw[e,List.drop_left];split
  .simp_all
  .rfl
 have l:FI (elN a 8)=false:=by
  cases g:FI (elN a 8)
  .rfl
  .have e:elN a 8=⟨(elN a 8).data.toList.toArray⟩:=BA
   rw[e] at g;have:=(UQ g).2 91 (by rw[f];simp);exact absurd rfl this
 rw[j,l];rfl
theorem AKS (j:∀v∈vs,F7 v.name=true)(a:ByteArray):plc vs (elN a 8)<0:=by
 apply Classical.byContradiction;intro q;obtain⟨k,hk,_,g,_⟩:=ZP (O8 (elN a 8)) vs (by unfold plc at q;omega);have:=str_eq g;have f:=j _ (jH hk);rw[this,ARL] at f;cases f
def szF (vs:List Vr)(a:ByteArray):Nat->Nat->Nat
 | 0,n=>n
 | f+1,n=>if plc vs (elN a n)<0 then n else szF vs a f (n+1)
def szA (vs:List Vr)(a:ByteArray):Nat:=szF vs a 8 0
theorem AQA (vs:List Vr)(a:ByteArray):∀f n,n<=szF vs a f n/\szF vs a f n<=n+f
 | 0,n=>⟨jF _,jF _⟩
 | f+1,n=>by
   unfold szF;split
   .omega
   .have:=AQA vs a f (n+1);omega
theorem gJ (vs:List Vr)(a:ByteArray):szA vs a<=8:=by have:=(AQA vs a 8 0).2;unfold szA;omega
theorem AQB (vs:List Vr)(a:ByteArray):∀f n k,n<=k->k<szF vs a f n->0<=plc vs (elN a k)
 | 0,n,k,j,g=>by unfold szF at g;omega
 | f+1,n,k,j,g=>by
   unfold szF at g;split at g
   .omega
   .rename_i q
    by_cases e:n=k
    .subst e;omega
    .exact AQB vs a f (n+1) k U g
theorem AG4 {a:ByteArray}{k:Nat}(h:k<szA vs a):0<=plc vs (elN a k):=AQB vs a 8 0 k (qF _) h
theorem dW {a:ByteArray}{f n:Nat}:(plc vs (elN a n)<0->szF vs a (f+1) n=n)/\(¬plc vs (elN a n)<0->szF vs a (f+1) n=szF vs a f (n+1)):=by
 constructor<;>intro h<;>(conv=>lhs;unfold szF)
 .rw[if_pos h]
 .rw[if_neg h]
section
variable (G:Nat->AV)
theorem size_prog (vs:List Vr)(m:SM)(L:vs.length<=1048576)(J:∀v∈vs,F7 v.name=true)(a:ByteArray)(I:a.size<=1048576)(h:Hp):PCall (En G) 252 [.agg [.sl m 4 (vs.map encV)],.str a] h (.n (szA vs a:Nat)):=by
 refine ACalls.pure0 rfl ?_;refine acT Tryz.func252 4 ?_;have q:=AZ h (qG 1 [[.sl m 4 (vs.map encV)]]);have A:=Sm.ext.r1 h (qG 1 [[.sl m 4 (vs.map encV)]]);have B:OU h (.agg [.sl m 4 (vs.map encV)])=some (.ptr h.length 0 0,h++[qG 1 [[.sl m 4 (vs.map encV)]]]):=rfl;refine AY B ?_
 generalize h++[qG 1 [[.sl m 4 (vs.map encV)]]]=H0 at q A|-
 have K:BO jA H0 22 (.ptr h.length 0 0)=some (.sl m 4 (vs.map encV)):=by rw[BK Z7 q rfl];rfl
 refine BB (fun k F H=>∃n,k+n=8/\szF vs a k n=szA vs a/\F 1=.str a/\F 2=.ptr h.length 0 0/\F 5=.n (n:Nat)/\H=H0) 8
  ⟨0,rfl,rfl,AO,AO,AO,rfl⟩ ?_
 rintro k F H ⟨n,M,l,C,E,g,rfl⟩
 try refine AB ?_
 refine DR BC ?_;refine H7 @ALW C E g K ?_;refine⟨_,qS G a n U H I,_,index_prog G vs m (elN a n) H U,?_⟩;refine AB ?_;refine BH ?_ ?_<;>intro f
 .have f:¬plc vs (elN a n)<0:=BL f
  obtain⟨j,rfl⟩:∃j,k=j+1:=⟨k-1,by
   have:k≠0:=fun e=>f (by have:n=8:=U
                          rw[this];exact AKS J a)
   omega⟩
  rw[dW.2 f] at l;refine A7 g (C9 n) ?_;exact⟨j,U,n+1,U,l,AC,AC,AC,AC⟩
 .have f:plc vs (elN a n)<0:=by
   have:=of_decide_eq_false f;omega
  have e:szA vs a=n:=by
   rw[<-l]
   cases k with
   | zero=>rfl
   | succ k=>exact dW.1 f
  refine AY g ?_;exact⟨by rw[e],A⟩
theorem U3 (vs:List Vr)(m:SM)(E:vs.length<=1048576)(C:∀v∈vs,F7 v.name=true)(a:ByteArray)(B:a.size<=1048576)(h:Hp):PCall (En G) 271 [.sl m 4 (vs.map encV),.str a] h (.n (szA vs a:Nat)):=by
 refine acT Tryz.func271 4 ?_;refine AB ?_
 refine BB (fun k F H=>∃n,k+n=8/\szF vs a k n=szA vs a/\F 0=.sl m 4 (vs.map encV)/\F 1=.str a/\F 5=.n (n:Nat)/\H=h) 8
  ⟨0,rfl,rfl,AO,AO,AO,rfl⟩ ?_
 rintro k F H ⟨n,I,l,q,A,g,rfl⟩;have d16:decide (((n:Nat):Int)<16)=true:=by rw[decide_eq_true_eq];omega
 refine EG q A g d16 ?_;refine(wD G a n U H B).uu ?_;refine(U9 G vs m (elN a n) H U).uu ?_;refine BH ?_ ?_<;>intro f
 .have f:¬plc vs (elN a n)<0:=BL f
  obtain⟨j,rfl⟩:∃j,k=j+1:=⟨k-1,by
   have:k≠0:=fun e=>f (by have:n=8:=U
                          rw[this];exact AKS C a)
   omega⟩
  rw[dW.2 f] at l;refine A7 g (C9 n) ?_;exact⟨j,U,n+1,U,l,AC,AC,AC,AC⟩
 .have f:plc vs (elN a n)<0:=by
   have:=of_decide_eq_false f;omega
  have e:szA vs a=n:=by
   rw[<-l]
   cases k with
   | zero=>rfl
   | succ k=>exact dW.1 f
  refine AY g ?_;exact⟨by rw[e],AC⟩
end
theorem node_ops (h:II e=0):XZ e.op e.args.length=true:=by
 unfold II at h;have j:badO e=false:=by grind
 have g:dG e=false:=by grind
 have f:XG e=false:=by grind
 unfold XG at f;rw[wG] at f;simpa using f.2
theorem fS (h:II e=0)(g:e.op=1\/e.op=2\/e.op=24):e.args=[]:=by
 have f:=node_ops h;unfold XZ at f;rw[if_neg (by rcases g with q|q|q<;>rw[q]<;>decide)] at f
 have j:arity e.op=0:=by rcases g with q|q|q<;>rw[q]<;>rfl
 rw[j] at f;exact List.eq_nil_of_length_eq_zero (BL f)
theorem RS (h:II e=0)(j:e.op=3):∃a,e.args=[a]:=by
 have f:=node_ops h;unfold XZ at f;rw[if_neg (by rw[j];decide)] at f;have l:arity e.op=1:=by rw[j];rfl
 rw[l] at f;have g:((e.args.length:Nat):Int)=1:=BL f;have g:e.args.length=1:=U
 match hq:e.args,g with
 | [a],_=>exact⟨a,rfl⟩
theorem AHW (h:II e=0)(g:e.op=1):0<=e.n/\e.n<=65535:=by
 unfold II at h;have j:badO e=false:=by grind
 have f:dG e=false:=by grind
 unfold dG at f;rw[g] at f;simp at f;omega
theorem A3T (n:Nat):(((n:Nat):Int)==0)=(n==0):=by rw[Bool.eq_iff_iff];simp
def OE (vs:List Vr)(e:Ex):Bool:=(e.op==2&&decide (plc vs e.name<0))||((e.op==3||e.op==24)&&(szA vs e.name==0))
def OC (vs:List Vr)(e:Ex):Bool:=(pre e).any (OE vs)
theorem VM (vs:List Vr)(e:Ex):OC vs e=(OE vs e||e.args.any (OC vs)):=by
 unfold OC;rw[pre_eq,List.any_cons];congr 1
 have:∀f:List Ex,(FT f).any (OE vs)=f.any fun e=>(pre e).any (OE vs):=by
  intro f
  induction f with
  | nil=>rfl
  | cons x f g=>simp only[FT,List.any_append,List.any_cons,g]
 exact this e.args
def NdOk (e:Ex):Prop:=∀x∈pre e,II x=0
theorem NdOk.arg (h:NdOk e)(f:a∈e.args):NdOk a:=fun x g=>h x (by rw[pre_eq];exact List.mem_cons_of_mem _ (VO f x g))
theorem NdOk.self (h:NdOk e):II e=0:=h e (by rw[pre_eq];simp)
theorem NdOk.name {e:Ex}(h:NdOk e):e.name.size<=19:=uV h.self
theorem NdOk.of (h:exE e=0):NdOk e:=bA h
theorem NdOk.len (h:NdOk e):e.args.length<=33:=by
 have f:=node_ops h.self;unfold XZ at f;split at f
 .simp at f;omega
 .have:arity e.op<=3:=by
   unfold arity
   repeat' split
   all_goals omega
  have:((e.args.length:Nat):Int)=arity e.op:=BL f;omega
abbrev isS (H:Hp)(b:Nat)(m:SM)(vs:List Vr):Prop:=H[b]?=some (qG 1 [[.sl m 4 (vs.map encV)]])
theorem isS.ld {H:Hp}{b:Nat}{m:SM}{vs:List Vr}(h:isS H b m vs):BO jA H 233 (.ptr b 0 0)=some (.agg [.sl m 4 (vs.map encV)]):=by
 rw[EN A6D AZO h rfl (jF 1)];rfl
theorem isS.l {m:SM}(h:isS H b m vs):BO jA H 22 (.ptr b 0 0)=some (.sl m 4 (vs.map encV)):=by rw[BK Z7 h rfl];rfl
theorem bxS (h:Hp)(m:SM)(vs:List Vr):OU h (.agg [.sl m 4 (vs.map encV)])=some (.ptr h.length 0 0,h++[qG 1 [[.sl m 4 (vs.map encV)]]]):=rfl
section
variable {H:Hp} {b:Nat} {e:Ex}
theorem W9 (h:H[b]?=some (qG 4 [AQ e])):BO jA H 3 (.ptr b 0 0)=some (.n e.op):=by rw[BK ag3 h (row:=AQ e) rfl,KD]
theorem exN (h:H[b]?=some (qG 4 [AQ e])):BO jA H 3 (.ptr b 0 1)=some (.n e.n):=by rw[BK ag3 h (row:=AQ e) rfl,cC]
theorem OO (h:H[b]?=some (qG 4 [AQ e])):BO jA H 9 (.ptr b 0 2)=some (.str e.name):=by rw[BK ag9 h (row:=AQ e) rfl,SG]
theorem OQ (h:H[b]?=some (qG 4 [AQ e])):BO jA H 23 (.ptr b 0 3)=some (.sl e.m 4 (e.args.map AQ)):=by rw[BK LU h (row:=AQ e) rfl,YL]
end
section
variable (G:Nat->AV)
theorem ASJ (xs:List Ex)(m:SM)(l:FuncId)(f:List AV)(p:Ex->Bool)(h:Hp)(P:xs.length<=1099511627776)(M:∀x∈xs,PCall (En G) l ([.agg (AQ x)]++f) h (.bool (p x))):
  PCall (En G) 301 [.sl m 4 (xs.map AQ),.fn (.func l) [] f] h (.n (PW p xs)):=by
 refine acT Tryz.func301 4 ?_;refine AB ?_;refine BB (fun n F H=>∃k,n+k=xs.length/\(∀(j:Nat) (q:j<k) (I:j<xs.length),p xs[j]=false)/\F 0=.sl m 4 (xs.map AQ)/\F 1=.fn (.func l) [] f/\F 7=.n (xs.length:Nat)/\F 8=.n (k:Nat)/\H=h) xs.length ⟨0,BA,fun j q=>absurd q U,AO,AO,AO,AO,rfl⟩ ?_;rintro n F H ⟨k,hk,B,J,K,L,A,rfl⟩;refine A7 L A ?_;refine BH ?_ ?_<;>intro E
 .have g:k<xs.length:=BL E
  simp only[vQ,CQ,List.nil_append,List.cons_append,↓reduceIte,jC,enP,PU,J,K,A,CP g,DL NI GZ EC g];refine(M _ (jH g)).uu ?_;refine BH ?_ ?_<;>intro O
  .refine AY A ?_
   exact⟨by rw[TT p xs k g (fun j q=>B j q U) O],trivial⟩
  .refine A7 A (C9 k) ?_
   refine⟨n-1,U,k+1,U,fun j q I=>?_,AC,AC,AC,rfl,trivial⟩;rcases Nat.lt_or_ge j k with C|C
   .exact B j C I
   .grind
 .refine AB ?_
  have g:¬k<xs.length:=BL E;exact⟨by rw[SS p xs fun j q=>B j U q],trivial⟩
theorem AID (xs:List Ex)(m:SM)(g:FuncId)(f:List AV)(p:Ex->Bool)(h:Hp)(l:xs.length<=1099511627776)(j:∀x∈xs,PCall (En G) g ([.agg (AQ x)]++f) h (.bool (p x))):
  PCall (En G) 253 [.sl m 4 (xs.map AQ),.fn (.func g) [] f] h (.bool (xs.any p)):=by
 refine acT Tryz.func253 4 ?_;refine AB ?_;refine(ASJ G xs m g f p h l j).use ?_;refine AY @TU ?_;exact G7
theorem A4S (vs:List Vr)(m:SM)(a:Ex)(c:Nat)(h:Hp)(g:isS h c m vs)(r:Bool)(j:∀H,PCall (En G) 175 [.agg [.sl m 4 (vs.map encV)],.agg (AQ a)] H (.bool r)):PCall (En G) 254 ([.agg (AQ a)]++[.ptr c 0 0]) h (.bool (!r)):=by
 refine ACalls.pure0 rfl ?_;refine acT Tryz.func254 3 ?_;have f:isS (h++[qG 4 [AQ a]]) c m vs:=AU g;refine DC @bxE @f.ld @ldE ?_;refine(j _).uu ?_;exact⟨AC,_,rfl⟩
theorem AR9 (vs:List Vr)(m:SM)(K:vs.length<=1048576)(M:∀v∈vs,F7 v.name=true)(e:Ex):NdOk e->∀h:Hp,PCall (En G) 175 [.agg [.sl m 4 (vs.map encV)],.agg (AQ e)] h (.bool (!OC vs e)):=by
 induction e using Ex.induct with|h e ih=>?_
 intro J h;have P:=J.name;have O:=J.len;refine ACalls.pure0 rfl ?_;refine acT Tryz.func175 4 ?_;have E:isS (h++[qG 1 [[.sl m 4 (vs.map encV)]]]++[qG 4 [AQ e]]) h.length m vs:=AU (AZ _ _);have B:=AZ (h++[qG 1 [[.sl m 4 (vs.map encV)]]]) (qG 4 [AQ e]);have A:Sm.ext h (h++[qG 1 [[.sl m 4 (vs.map encV)]]]++[qG 4 [AQ e]]):=((ext.rfl' h).app _).app _;refine A7 @bxS @bxE ?_
 generalize h++[qG 1 [[.sl m 4 (vs.map encV)]]]++[qG 4 [AQ e]]=H1 at E B A|-
 generalize (h++[qG 1 [[.sl m 4 (vs.map encV)]]]).length=eb at B|-
 generalize h.length=sb at E|-
 have j:OE vs e=false->OC vs e=e.args.any (OC vs):=fun q=>by rw[VM,q,wF]
 have fin:∀x∈e.args,PCall (En G) 254 ([.agg (AQ x)]++[.ptr sb 0 0]) H1 (.bool (OC vs x)):=fun x A=>by
  have:=A4S G vs m x sb H1 E (!OC vs x) (ih x A (J.arg A))
  rwa [Bool.not_not] at this
 refine AY (W9 B) ?_;cases C:(e.op==2)
 case true =>
  have L:e.op=2:=BL C;refine EG @ALW C (isS.l E) (OO B) ?_;refine(index_prog G vs m e.name H1 U).uu ?_;refine⟨?_,A⟩
  have:OC vs e=decide (plc vs e.name<0):=by
   rw[VM,fS J.self (.inr (.inl L))];unfold OE;rw[L];simp
  rw[this,<-decide_not];congr 1;rw[decide_eq_decide];omega
 cases f:(e.op==24)
 case true =>
  refine EG C f (isS.ld E) (OO B) ?_;refine(size_prog G vs m K M e.name U H1).uu ?_;refine BH ?_ ?_<;>intro g
  .refine AB ?_
   refine⟨?_,A⟩;have g:szA vs e.name=0:=BL g;have:OC vs e=true:=by rw[VM];unfold OE;rw[f,g];simp
   rw[this];rfl
  .have g:¬szA vs e.name=0:=BL g
   have I:OE vs e=false:=by unfold OE;rw[C,f];simp [g]
   refine AY (OQ B) ?_;refine(AID G e.args e.m 254 [.ptr sb 0 0] (OC vs) H1 U fin).uu ?_;exact⟨by rw[j I],A⟩
 cases F:(e.op==3)
 case true =>
  refine H7 C f F (isS.ld E) (OO B) ?_;refine(size_prog G vs m K M e.name U H1).uu ?_;refine BH ?_ ?_<;>intro g
  .refine AB ?_
   refine⟨?_,A⟩;have g:szA vs e.name=0:=BL g;have:OC vs e=true:=by rw[VM];unfold OE;rw[F,g];simp
   rw[this];rfl
  .have g:¬szA vs e.name=0:=BL g
   have I:OE vs e=false:=by unfold OE;rw[C,F];simp [g]
   refine AY (OQ B) ?_;refine(AID G e.args e.m 254 [.ptr sb 0 0] (OC vs) H1 U fin).uu ?_;exact⟨by rw[j I],A⟩
 have I:OE vs e=false:=by unfold OE;rw[C,f,F];rfl
 refine EG C f F (OQ B) ?_;refine(AID G e.args e.m 254 [.ptr sb 0 0] (OC vs) H1 U fin).uu ?_;exact⟨by rw[j I],A⟩
theorem ACA (vs:List Vr)(m:SM)(Q:vs.length<=1048576)(R:∀v∈vs,F7 v.name=true)(e:Ex):NdOk e->∀h:Hp,PCall (En G) 203 [.sl m 4 (vs.map encV),.agg (AQ e)] h (.bool (OC vs e)):=by
 induction e using Ex.induct with|h e ih=>?_
 intro P h;have V:=P.name;have T:=P.len;rw[VM];refine ACalls.pure0 rfl ?_;refine acT Tryz.func203 4 ?_;have g:=AZ h (qG 4 [AQ e]);have M:=Sm.ext.r1 h (qG 4 [AQ e]);refine AY @bxE ?_
 generalize h++[qG 4 [AQ e]]=H1 at g M|-
 generalize h.length=eb at g|-
 refine AY (W9 g) ?_;refine RZ (fun F H=>F 0=.sl m 4 (vs.map encV)/\F 3=.ptr eb 0 0/\F 32=.bool (OE vs e)/\H=H1) ?_ ?_
 .cases f:(e.op==2)
  .cases B:(e.op==3)
   .cases l:(e.op==24)
    .refine EG f B l (W9 g) ?_
     exact⟨trivial,trivial,by unfold OE;rw[f,B,l];rfl,trivial⟩
    .refine H7 f B l (W9 g) (OO g) ?_
     refine(U3 G vs m Q R e.name U H1).use ?_;refine DC f B l ?_;exact⟨trivial,trivial,by unfold OE;rw[f,B,l,A3T];simp,trivial⟩
   .refine EG f B (W9 g) (OO g) ?_
    refine(U3 G vs m Q R e.name U H1).use ?_;refine A7 f B ?_;exact⟨trivial,trivial,by unfold OE;rw[f,B,A3T];simp,trivial⟩
  .have L:e.op=2:=BL f
   refine A7 f (OO g) ?_;refine(U9 G vs m e.name H1 U).use ?_;refine AY f ?_;cases J:decide (plc vs e.name<0)
   .refine H7 f J (W9 g) (show(e.op==3)=false by rw[L];rfl) (show(e.op==24)=false by rw[L];rfl) ?_
    exact⟨trivial,trivial,by unfold OE;rw[J,L];rfl,trivial⟩
   .refine A7 f J ?_
    exact⟨trivial,trivial,by unfold OE;rw[J,L];rfl,trivial⟩
 rintro F H ⟨K,E,f15,rfl⟩;refine AY f15 ?_;refine BH ?_ ?_<;>intro I
 .refine AB ?_
  exact⟨by rw[I];rfl,M⟩
 rw[I,wF];refine AB ?_;refine BB (fun k F S=>∃j,k+j=e.args.length/\F 0=.sl m 4 (vs.map encV)/\F 3=.ptr eb 0 0/\F 5=.n (j:Nat)/\S=H/\(e.args.take j).any (OC vs)=false) e.args.length ⟨0,BA,D7 K,D7 E,AO,rfl,rfl⟩ ?_;clear K E f15;rintro k F H ⟨j,Y,K,E,O,rfl,C⟩;refine DC E O (OQ g) ?_;refine DX ?_ ?_<;>intro A
 .have q:e.args[j]∈e.args:=jH A
  simp only[vQ,CQ,↓reduceIte,jC,enP,PU,UG,K,E,O,OQ g,CP A,DL NI GZ EC A];refine(ih e.args[j] q (P.arg q) H).uu ?_;refine BH ?_ ?_<;>intro I
  .refine AB ?_
   exact⟨by rw[List.any_eq_true.2 ⟨_,q,I⟩],M⟩
  .refine A7 O (C9 j) ?_
   exact⟨k-1,U,j+1,U,AC,AC,rfl,trivial,by rw[jV A,List.any_append,C];simp [I]⟩
 .rw[jK U] at C
  refine AB ?_;exact⟨by rw[C],M⟩
end
def WC (l:List (Nat×Int)):Nat:=l.foldl (fun s x=>min (s+x.1) 401) 1
def UI (l:List (Nat×Int)):Nat×Int:=l.getLast?.getD (0,-1)
def xtF (vs:List Vr)(op n:Int)(f:ByteArray)(l:List (Nat×Int)):Nat×Int :=
 if op=1 then (1,n) else if op=24 then (2*szA vs f-1,-1) else if op≠3 then (WC l,-1) else if(szA vs f:Int)<=(UI l).2 then (1,0) else if 0<=(UI l).2 then (1,-1) else (min (szA vs f*((UI l).1+4)+1) 401,-1)
mutual
def FU (vs:List Vr):Ex->Nat×Int
 | .mk j n g _ f=>xtF vs j n g (AE3 vs f)
def AE3 (vs:List Vr):List Ex->List (Nat×Int)
 | []=>[]
 | e::es=>FU vs e::AE3 vs es
end
theorem vX (vs:List Vr):∀l:List Ex,AE3 vs l=l.map (FU vs)
 | []=>by simp [AE3]
 | e::es=>by simp [AE3,vX vs es]
theorem QJ (vs:List Vr)(e:Ex):FU vs e=xtF vs e.op e.n e.name (e.args.map (FU vs)):=by
 cases e;simp only[FU,vX];rfl
theorem gM (l:List (Nat×Int))(x:Nat×Int):WC (l++[x])=min (WC l+x.1) 401:=by unfold WC;rw[List.foldl_append];rfl
theorem AH6 (l:List (Nat×Int))(x:Nat×Int):UI (l++[x])=x:=by unfold UI;simp
theorem yL (l:List (Nat×Int)):WC l<=401:=by
 rcases List.eq_nil_or_concat l with rfl|⟨f,x,rfl⟩
 .decide
 .rw[List.concat_eq_append,gM];omega
theorem mR (vs:List Vr)(e:Ex):(FU vs e).1<=401:=by
 have:=gJ vs e.name;have:=yL (e.args.map (FU vs));rw[QJ];unfold xtF;split
 .show(1:Nat)<=401;omega
 split
 .omega
 split
 .assumption
 split
 .show(1:Nat)<=401;omega
 split
 .show(1:Nat)<=401;omega
 .show min _ 401<=401;omega
theorem ALZ (h:0<=(FU vs e).2):(FU vs e).1=1:=by
 have f:∀x:Nat,¬(0:Int)<=(x,(-1:Int)).2:=fun x=>by show ¬(0:Int)<=-1;decide
 rw[QJ] at h|-
 unfold xtF at h|-
 by_cases c1:e.op=1
 .rw[if_pos c1]
 rw[if_neg c1] at h|-
 by_cases c2:e.op=24
 .simp_all
 rw[if_neg c2] at h|-
 by_cases c3:e.op≠3
 .simp_all
 rw[if_neg c3] at h|-
 by_cases c4:(szA vs e.name:Int)<=(UI (e.args.map (FU vs))).2
 .rw[if_pos c4]
 rw[if_neg c4] at h|-
 by_cases c5:0<=(UI (e.args.map (FU vs))).2
 .rw[if_pos c5]
 rw[if_neg c5] at h;exact absurd h (f _)
def exR (x:Nat×Int):List AV:=[.n (x.1:Nat),.n x.2]
theorem A0I (h:Hp):IG jA h 235=some (.ptr h.length 0 0,h++[qG 2 [[.n 0,.n 0]]]):=F9 (row:=[.n 0,.n 0]) BC
theorem rT (a b:Int):JC jA 235 [(0,.n a),(1,.n b)]=some (.agg [.n a,.n b]):=BC
theorem kP (f:H[b]?=some (qG 2 [[.n c,.n d]]))(x y:Int):D8 jA H 235 (.ptr b 0 0) (.agg [.n x,.n y])=some (H.set b (qG 2 [[.n x,.n y]])):=by
 rw[JU (cs:=[.n x,.n y]) rfl AZN f (jF 2)];rfl
theorem vD (f:H[b]?=some (qG 2 [[.n c,.n d]])):BO jA H 235 (.ptr b 0 0)=some (.agg [.n c,.n d]):=by
 rw[EN A6C AZN f rfl (jF 2)];rfl
theorem ALB (f:H[b]?=some (qG 2 [[.n c,.n d]])):BO jA H 3 (.ptr b 0 0)=some (.n c):=by rw[BK ag3 f rfl];rfl
theorem AW9 (f:H[b]?=some (qG 2 [[.n c,.n d]])):BO jA H 3 (.ptr b 0 1)=some (.n d):=by rw[BK ag3 f rfl];rfl
theorem NT (h:OC vs e=false)(f:a∈e.args):OC vs a=false:=by
 rw[VM,wG] at h;have:=qQ.1 h.2 a f;simpa using this
theorem SK (h:OC vs e=false)(g:e.op=3\/e.op=24):1<=szA vs e.name:=by
 rw[VM,wG] at h;have f:=h.1;unfold OE at f;rcases g with q|q<;>rw[q] at f<;>simp at f<;>omega
section
variable (G:Nat->AV)
theorem AOR (vs:List Vr)(m:SM)(hl:vs.length<=1048576)(hv:∀v∈vs,F7 v.name=true)(e:Ex):NdOk e->OC vs e=false->∀h:Hp,PCall (En G) 176 [.agg [.sl m 4 (vs.map encV)],.agg (AQ e)] h (.agg (exR (FU vs e))):=by
 induction e using Ex.induct with|h e ih=>?_
 intro hn hu h;have ac:=hn.name;have a9:=hn.len;have a6:=gJ vs e.name;refine ACalls.pure (R:=fun v H=>v=.agg (exR (FU vs e))/\Sm.ext h H) 2 ?_ (fun v H ⟨a,b⟩=>⟨b,by rw[a];rfl⟩);refine acL Tryz.func176 [.cell 4 235] ?_;have C:isS (h++[qG 1 [[.sl m 4 (vs.map encV)]]]++[qG 4 [AQ e]]++[qG 2 [[.n 0,.n 0]]]) h.length m vs:=AU (AU (AZ _ _));have l:=AU (x:=qG 2 [[.n 0,.n 0]]) (AZ (h++[qG 1 [[.sl m 4 (vs.map encV)]]]) (qG 4 [AQ e]));have g:=AZ (h++[qG 1 [[.sl m 4 (vs.map encV)]]]++[qG 4 [AQ e]]) (qG 2 [[.n 0,.n 0]]);have A:Sm.ext h (h++[qG 1 [[.sl m 4 (vs.map encV)]]]++[qG 4 [AQ e]]++[qG 2 [[.n 0,.n 0]]]):=(((ext.rfl' h).app _).app _).app _;have e1:(h++[qG 1 [[.sl m 4 (vs.map encV)]]]).length=h.length+1:=BA;have e2:(h++[qG 1 [[.sl m 4 (vs.map encV)]]]++[qG 4 [AQ e]]).length=h.length+2:=BA;refine DC @bxS @bxE A0I ?_
 rw[e1] at l|-
 rw[e2] at g|-
 generalize h++[qG 1 [[.sl m 4 (vs.map encV)]]]++[qG 4 [AQ e]]++[qG 2 [[.n 0,.n 0]]]=H1 at C l g A|-
 clear e1 e2;refine AY (W9 l) ?_;cases Y:(e.op==1)
 case true =>
  have V:e.op=1:=BL Y;refine EG Y (exN l) rT (kP g) ?_;rw[IM (b:=h.length+2) AO (vD (CJ g))];exact⟨by rw[QJ];unfold xtF;rw[if_pos V];rfl,A.set U _⟩
 have o1:¬e.op=1:=BL Y;cases J:(e.op==24)
 case true =>
  have V:e.op=24:=BL J;have h1:=SK hu (.inr V);have w1:IntKind.i64.wrap (2*((szA vs e.name:Nat):Int))=2*((szA vs e.name:Nat):Int):=wrap_i64 U U;have w2:IntKind.i64.wrap (2*((szA vs e.name:Nat):Int)-1)=((2*szA vs e.name-1:Nat):Int):=by rw[wrap_i64 U U];omega
  refine EG Y J (isS.ld C) (OO l) ?_;refine(size_prog G vs m hl hv e.name U H1).use ?_;refine EG w1 w2 rT (kP g) ?_;rw[IM (b:=h.length+2) AO (vD (CJ g))];exact⟨by rw[QJ];unfold xtF;rw[if_neg o1,if_pos V];rfl,A.set U _⟩
 have a7:¬e.op=24:=BL J;have C:=AU (x:=qG 2 [[.n 0,.n (-1)]]) C;have l:=AU (x:=qG 2 [[.n 0,.n (-1)]]) l;have lr:=AX g;have g:=AU (x:=qG 2 [[.n 0,.n (-1)]]) g;have B:=AZ H1 (qG 2 [[.n 0,.n (-1)]]);have A:=A.app [qG 2 [[.n 0,.n (-1)]]];have T:D8 jA (H1++[qG 2 [[.n 0,.n 0]]]) 235 (.ptr H1.length 0 0) (.agg [.n 0,.n (-1)])=some (H1++[qG 2 [[.n 0,.n (-1)]]]):=by rw[kP (AZ _ _),KI]
 refine H7 Y J rT A0I T ?_
 generalize H1++[qG 2 [[.n 0,.n (-1)]]]=H2 at C l g B A|-
 generalize H1.length=E at B lr|-
 refine AY (OQ l) ?_;have a8:(e.args.map (FU vs)).length=e.args.length:=jI _;refine EK 1 (fun F H=>F 2=.ptr h.length 0 0/\F 3=.ptr (h.length+1) 0 0/\F 4=.ptr (h.length+2) 0 0/\F 5=.n (WC (e.args.map (FU vs)):Nat)/\F 6=.ptr E 0 0/\isS H h.length m vs/\H[h.length+1]?=some (qG 4 [AQ e])/\H[h.length+2]?=some (qG 2 [[.n 0,.n 0]])/\H[E]?=some (qG 2 [exR (UI (e.args.map (FU vs)))])/\Sm.ext h H) (fun _ _=>False) ?_ ?_ (fun _ _ q=>q.elim)
 .refine BB (fun n F H=>∃j,n+j=e.args.length/\F 2=.ptr h.length 0 0/\F 3=.ptr (h.length+1) 0 0/\F 4=.ptr (h.length+2) 0 0/\F 5=.n (WC ((e.args.map (FU vs)).take j):Nat)/\F 6=.ptr E 0 0/\F 28=.sl e.m 4 (e.args.map AQ)/\F 29=.n (e.args.length:Nat)/\F 30=.n (j:Nat)/\isS H h.length m vs/\H[h.length+1]?=some (qG 4 [AQ e])/\H[h.length+2]?=some (qG 2 [[.n 0,.n 0]])/\H[E]?=some (qG 2 [exR (UI ((e.args.map (FU vs)).take j))])/\Sm.ext h H) e.args.length
   ⟨0,BA,AO,AO,AO,AO,AO,AO,AO,AO,C,l,g,B,A⟩ ?_
  clear C l g B A;rintro n F H ⟨j,hj,f2,f3,K,f5,O,a4,a5,M,C,l,g,B,A⟩;refine A7 a5 M ?_;refine DX ?_ ?_<;>intro S
  .have I:e.args[j]∈e.args:=jH S
   have C:=AU (x:=qG 4 [AQ e.args[j]]) C;have l:=AU (x:=qG 4 [AQ e.args[j]]) l;have g:=AU (x:=qG 4 [AQ e.args[j]]) g;have B:=AU (x:=qG 4 [AQ e.args[j]]) B;have A:=A.app [qG 4 [AQ e.args[j]]];have ga:=AZ H (qG 4 [AQ e.args[j]]);simp only[vQ,CQ,↓reduceIte,jC,enP,PU,Option.getD_none,a4,M,CP S,DL NI GZ EC S,al79,st79]
   generalize H++[qG 4 [AQ e.args[j]]]=H3 at C l g B A ga|-
   generalize H.length=ab at ga|-
   refine EG f2 O (isS.ld C) (IC ga) ?_;refine(ih e.args[j] I (hn.arg I) (NT hu I) H3).use ?_;have a2:j<(e.args.map (FU vs)).length:=U;have L:(e.args.map (FU vs))[j]=FU vs e.args[j]:=BA;have ss:D8 jA H3 235 (.ptr E 0 0) (.agg (exR (FU vs e.args[j])))=some (H3.set E (qG 2 [exR (FU vs e.args[j])])):=kP B _ _;have a1:isS (H3.set E (qG 2 [exR (FU vs e.args[j])])) h.length m vs:=by grind
   have Z:(H3.set E (qG 2 [exR (FU vs e.args[j])]))[h.length+1]?=some (qG 4 [AQ e]):=by grind
   have a0:(H3.set E (qG 2 [exR (FU vs e.args[j])]))[h.length+2]?=some (qG 2 [[.n 0,.n 0]]):=by grind
   have P:(H3.set E (qG 2 [exR (FU vs e.args[j])]))[E]?=some (qG 2 [exR (FU vs e.args[j])]):=CJ B;have a3:=A.set (b:=E) U (qG 2 [exR (FU vs e.args[j])]);refine DC @ALV O ss ?_
   generalize H3.set E (qG 2 [exR (FU vs e.args[j])])=H4 at a1 Z a0 P a3|-
   have s1:=yL ((e.args.map (FU vs)).take j);have s2:=mR vs e.args[j];have w1:IntKind.i64.wrap (((WC ((e.args.map (FU vs)).take j):Nat):Int)+(((FU vs e.args[j]).1:Nat):Int))=((WC ((e.args.map (FU vs)).take j)+(FU vs e.args[j]).1:Nat):Int):=by rw[wrap_i64 U U];omega
   have mn:min (((WC ((e.args.map (FU vs)).take j)+(FU vs e.args[j]).1:Nat):Int)) 401=((WC ((e.args.map (FU vs)).take (j+1)):Nat):Int):=by
    rw[jV a2,gM,L];omega
   refine KZ f5 O M (ALB P) w1 mn (C9 j) ?_;refine⟨n-1,U,j+1,U,AC,AC,AC,AC,AC,AC,AC,AC,a1,Z,a0,?_,a3⟩;rw[jV a2,AH6,L];exact P
  .rw[jK U] at f5 B
   refine AB ?_;exact⟨AC,AC,AC,AC,AC,C,l,g,B,A⟩
 clear C l g B A;rintro F H ⟨f2,f3,K,f5,O,C,l,g,B,A⟩;have f:=QJ vs e;unfold xtF at f;rw[if_neg o1,if_neg a7] at f;refine EG f2 f3 (isS.ld C) (OO l) ?_;refine(size_prog G vs m hl hv e.name U H).use ?_;refine A7 f3 (W9 l) ?_;cases b3:(e.op != 3)
 case true =>
  have V:e.op≠3:=BL b3;refine H7 b3 K f5 rT (kP g) ?_;rw[IM (b:=h.length+2) (D7 K) (vD (CJ g))];exact⟨by rw[f,if_pos V];rfl,A.set U _⟩
 have o3:e.op=3:=BL b3;rw[if_neg (fun q=>q o3)] at f;have hz:=SK hu (.inl o3);obtain⟨a,Q⟩:=RS hn.self o3;have hle:(UI (e.args.map (FU vs))).1<=401:=by rw[Q];exact mR vs a
 generalize UI (e.args.map (FU vs))=x at B f hle;have g0:=ALB B;have g1:=AW9 B;refine EG @ALU b3 O g1 ?_;cases c1:decide (x.2≥((szA vs e.name:Nat):Int))
 case true =>
  have q:=of_decide_eq_true c1;refine EG c1 K rT (kP g) ?_;rw[IM (b:=h.length+2) (D7 K) (vD (CJ g))];exact⟨by rw[f,if_pos q];rfl,A.set U _⟩
 have q:=of_decide_eq_false c1;rw[if_neg q] at f;refine EG @ALU c1 O g1 ?_;cases c2:decide (x.2≥(0:Int))
 case true =>
  have q:=of_decide_eq_true c2;refine EG c2 K rT (kP g) ?_;rw[IM (b:=h.length+2) (D7 K) (vD (CJ g))];exact⟨by rw[f,if_pos q];rfl,A.set U _⟩
 have q2:=of_decide_eq_false c2;rw[if_neg q2] at f;have w1:IntKind.i64.wrap (((x.1:Nat):Int)+4)=((x.1+4:Nat):Int):=by rw[wrap_i64 U U];omega
 have aa:szA vs e.name*(x.1+4)<=8*405:=Nat.mul_le_mul a6 U;have w2:IntKind.i64.wrap (((szA vs e.name:Nat):Int)*((x.1+4:Nat):Int))=((szA vs e.name*(x.1+4):Nat):Int):=by rw[<-Int.natCast_mul,wrap_i64 U U]
 have w3:IntKind.i64.wrap (((szA vs e.name*(x.1+4):Nat):Int)+1)=((szA vs e.name*(x.1+4)+1:Nat):Int):=by rw[wrap_i64 U U];omega
 have mn:min (((szA vs e.name*(x.1+4)+1:Nat):Int)) 401=((min (szA vs e.name*(x.1+4)+1) 401:Nat):Int):=U;refine WP @ALV c2 K O g0 w1 w2 w3 mn rT (kP g) ?_;rw[IM (b:=h.length+2) (D7 K) (vD (CJ g))];exact⟨by rw[f];rfl,A.set U _⟩
def fxV (z:Int):AV:=.tup [.n (if 0<=z then z else 0),.bool (decide (0<=z))]
theorem vU (vs:List Vr)(m:SM)(T:vs.length<=1048576)(Y:∀v∈vs,F7 v.name=true)(e:Ex):NdOk e->OC vs e=false->∀h:Hp,PCall (En G) 272 [.sl m 4 (vs.map encV),.agg (AQ e)] h (fxV (FU vs e).2):=by
 induction e using Ex.induct with|h e ih=>?_
 intro L S h;have V:=L.name;refine ACalls.pure (R:=fun v H=>v=fxV (FU vs e).2/\Sm.ext h H) 2 ?_ (fun v H ⟨a,b⟩=>⟨b,by rw[a];rfl⟩);refine acL Tryz.func272 [.tmp 4,.tmp 5] ?_;have A:=AZ h (qG 4 [AQ e]);have J:=Sm.ext.r1 h (qG 4 [AQ e]);refine AY @bxE ?_
 generalize h++[qG 4 [AQ e]]=H1 at A J|-
 generalize h.length=eb at A|-
 have f:=QJ vs e;unfold xtF at f;refine AY (W9 A) ?_;cases E:(e.op==1)
 case true =>
  have Q:e.op=1:=BL E;have:=(AHW L.self Q).1;refine A7 E (exN A) ?_;exact⟨by rw[f,if_pos Q];unfold fxV;rw[if_pos this,decide_eq_true this],J⟩
 have Z:¬e.op=1:=BL E;rw[if_neg Z] at f;cases K:(e.op==3)
 case false =>
  have C:e.op≠3:=BL K;refine DC E K (W9 A) ?_;refine⟨?_,J⟩;rw[f,if_pos C];split<;>rfl
 have C:e.op=3:=BL K;rw[if_neg (by rw[C];decide),if_neg (fun q=>q C)] at f;obtain⟨a,g⟩:=RS L.self C;have j:a∈e.args:=by rw[g];simp
 have B:UI (e.args.map (FU vs))=FU vs a:=by rw[g];rfl
 rw[B] at f;have hz:=SK S (.inl C);have I:0<e.args.length:=by rw[g];exact Nat.one_pos
 have M:e.args[0]=a:=by simp [g]
 have O:JD 4 H1 (.sl e.m 4 (e.args.map AQ)) (.n 0)=some (.fptr 4 (e.args.map AQ) 0 0):=CP I;have P:BO jA H1 79 (.fptr 4 (e.args.map AQ) 0 0)=some (.agg (AQ a)):=by rw[DL NI GZ EC I,M]
 refine KO E K (W9 A) (OQ A) O P ?_;refine(ih a j (L.arg j) (NT S j) H1).use ?_
 generalize (FU vs a)=x at f|-
 rw[show fxV x.2=.tup [.n (if 0<=x.2 then x.2 else 0),.bool (decide (0<=x.2))] from rfl];refine AB ?_;cases F:decide (0<=x.2)
 .have q:=of_decide_eq_false F
  have l:(FU vs e).2 = -1:=by rw[f,if_neg U,if_neg q]
  refine AY F ?_;exact⟨by rw[l];rfl,J⟩
 .have q:=of_decide_eq_true F
  refine A7 F (OO A) ?_;refine(U3 G vs m T Y e.name U H1).use ?_;refine A7 F q ?_;refine⟨?_,J⟩;by_cases q2:((szA vs e.name:Nat):Int)<=x.2
  .have l:(FU vs e).2=0:=by rw[f,if_pos q2]
   rw[l,decide_eq_true (show x.2≥((szA vs e.name:Nat):Int) from q2)];rfl
  .have l:(FU vs e).2 = -1:=by rw[f,if_neg q2,if_pos q]
   rw[l,decide_eq_false (show ¬x.2≥((szA vs e.name:Nat):Int) from q2)];rfl
theorem ATZ (vs:List Vr)(m:SM)(Z:vs.length<=1048576)(hv:∀v∈vs,F7 v.name=true)(e:Ex):NdOk e->OC vs e=false->∀h:Hp,PCall (En G) 204 [.sl m 4 (vs.map encV),.agg (AQ e)] h (.n ((FU vs e).1:Nat)):=by
 induction e using Ex.induct with|h e ih=>?_
 intro J Q h;have a9:=J.name;have a7:=J.len;have a2:=gJ vs e.name;refine ACalls.pure0 rfl ?_;refine acT Tryz.func204 4 ?_;have A:=AZ h (qG 4 [AQ e]);have M:=Sm.ext.r1 h (qG 4 [AQ e]);refine AY @bxE ?_
 generalize h++[qG 4 [AQ e]]=H1 at A M|-
 generalize h.length=eb at A|-
 have f:=QJ vs e;unfold xtF at f;refine AY (IC A) ?_;refine(vU G vs m Z hv e J Q H1).use ?_;unfold fxV;refine AB ?_;cases T:decide (0<=(FU vs e).2)
 case true =>
  have q:=of_decide_eq_true T;refine AY T ?_;exact⟨by rw[ALZ q];rfl,M⟩
 have q:=of_decide_eq_false T;refine A7 T (W9 A) ?_
 have o1:¬e.op=1:=fun K=>by
  rw[if_pos K] at f;rw[f] at q;exact q (AHW J.self K).1
 rw[if_neg o1] at f;cases B:(e.op==24)
 case true =>
  have K:e.op=24:=BL B;have h1:=SK Q (.inr K);rw[if_pos K] at f;have R:IntKind.i64.wrap (2*((szA vs e.name:Nat):Int))=2*((szA vs e.name:Nat):Int):=wrap_i64 U U;have w2:IntKind.i64.wrap (2*((szA vs e.name:Nat):Int)-1)=((2*szA vs e.name-1:Nat):Int):=by rw[wrap_i64 U U];omega
  refine A7 B (OO A) ?_;refine(U3 G vs m Z hv e.name U H1).use ?_;refine A7 R w2 ?_;exact⟨by rw[f],M⟩
 have a5:¬e.op=24:=BL B;rw[if_neg a5] at f;refine AY B ?_;have a6:(e.args.map (FU vs)).length=e.args.length:=jI _;refine EK 0 (fun F H=>F 0=.sl m 4 (vs.map encV)/\F 3=.ptr eb 0 0/\F 7=.n (WC (e.args.map (FU vs)):Nat)/\H=H1) (fun _ _=>False) ?_ ?_ (fun _ _ q=>q.elim)
 .refine BB (fun n F H=>∃j,n+j=e.args.length/\F 0=.sl m 4 (vs.map encV)/\F 3=.ptr eb 0 0/\F 7=.n (WC ((e.args.map (FU vs)).take j):Nat)/\F 8=.n (j:Nat)/\H=H1) e.args.length
   ⟨0,BA,AO,AO,AO,AO,rfl⟩ ?_
  rintro n F H ⟨j,hj,Y,L,C,f8,rfl⟩;refine DC L f8 (OQ A) ?_;refine DX ?_ ?_<;>intro E
  .have l:e.args[j]∈e.args:=jH E
   have a1:j<(e.args.map (FU vs)).length:=U;have O:(e.args.map (FU vs))[j]=FU vs e.args[j]:=BA;have s1:=yL ((e.args.map (FU vs)).take j);have s2:=mR vs e.args[j];have R:IntKind.i64.wrap (((WC ((e.args.map (FU vs)).take j):Nat):Int)+(((FU vs e.args[j]).1:Nat):Int))=((WC ((e.args.map (FU vs)).take j)+(FU vs e.args[j]).1:Nat):Int):=by rw[wrap_i64 U U];omega
   have mn:min 401 (((WC ((e.args.map (FU vs)).take j)+(FU vs e.args[j]).1:Nat):Int))=((WC ((e.args.map (FU vs)).take (j+1)):Nat):Int):=by
    rw[jV a1,gM,O];omega
   simp only[vQ,CQ,↓reduceIte,jC,enP,PU,UG,Y,L,C,f8,OQ A,CP E,DL NI GZ EC E];refine(ih e.args[j] l (J.arg l) (NT Q l) H).use ?_;refine H7 C f8 R mn (C9 j) ?_;exact⟨n-1,U,j+1,U,AC,AC,AC,AC,AC⟩
  .rw[jK U] at C
   refine AB ?_;exact⟨AC,AC,AC,AC⟩
 rintro F H ⟨Y,L,C,rfl⟩;refine A7 L (W9 A) ?_;cases S:(e.op != 3)
 case true =>
  have K:e.op≠3:=BL S;refine A7 S C ?_;exact⟨by rw[f,if_pos K],M⟩
 have o3:e.op=3:=BL S;rw[if_neg (fun q=>q o3)] at f;have hz:=SK Q (.inl o3);obtain⟨a,g⟩:=RS J.self o3;have l:a∈e.args:=by rw[g];simp
 have I:UI (e.args.map (FU vs))=FU vs a:=by rw[g];rfl
 have hsum:WC (e.args.map (FU vs))=min (1+(FU vs a).1) 401:=by rw[g];rfl
 have hle:=mR vs a;rw[I] at f;rw[hsum] at C;have P:0<e.args.length:=by rw[g];exact Nat.one_pos
 have a0:e.args[0]=a:=by simp [g]
 have a3:JD 4 H (.sl e.m 4 (e.args.map AQ)) (.n 0)=some (.fptr 4 (e.args.map AQ) 0 0):=CP P;have a4:BO jA H 79 (.fptr 4 (e.args.map AQ) 0 0)=some (.agg (AQ a)):=by rw[DL NI GZ EC P,a0]
 refine KO S Y L (OQ A) a3 a4 ?_;refine(vU G vs m Z hv a (J.arg l) (NT Q l) H).use ?_;unfold fxV;generalize FU vs a=x at f C hle;refine AB ?_;cases V:decide (0<=x.2)
 case true =>
  have q:=of_decide_eq_true V;refine AY V ?_;refine⟨?_,M⟩;rw[f,if_pos q];split<;>rfl
 have q2:=of_decide_eq_false V;rw[if_neg U,if_neg q2] at f;refine EG V Y L (OO A) ?_;refine(U3 G vs m Z hv e.name U H).use ?_;have R:IntKind.i64.wrap (((min (1+x.1) 401:Nat):Int)+3)=((min (1+x.1) 401+3:Nat):Int):=by rw[wrap_i64 U U];omega
 have a8:szA vs e.name*(min (1+x.1) 401+3)<=8*404:=Nat.mul_le_mul a2 U;have w2:IntKind.i64.wrap (((szA vs e.name:Nat):Int)*((min (1+x.1) 401+3:Nat):Int))=((szA vs e.name*(min (1+x.1) 401+3):Nat):Int):=by rw[<-Int.natCast_mul,wrap_i64 U U]
 have w3:IntKind.i64.wrap (((szA vs e.name*(min (1+x.1) 401+3):Nat):Int)+1)=((szA vs e.name*(min (1+x.1) 401+3)+1:Nat):Int):=by rw[wrap_i64 U U];omega
 have mn:min 401 (((szA vs e.name*(min (1+x.1) 401+3)+1:Nat):Int))=((min (szA vs e.name*(x.1+4)+1) 401:Nat):Int):=by grind
 refine H7 C R w2 w3 mn ?_;exact⟨by rw[f],M⟩
end
end Go.Proofs.YtiihpnicbekebaaGreatDoor.Bd.Cl
namespace Go.Proofs.YtiihpnicbekebaaGreatDoor.Ho
open Sm Bins Cov Go.RowKit
variable {m:Mo} {x:Hl} {ins:Ex->List Rng->Ex}
def UN (m:Mo)(x:Hl):List (Nat×Nat):=((bN m x).map Int.toNat).zip (x.bins.map Int.toNat)
theorem AKY (l:List Int)(h:∀z∈l,0<=z):(l.map Int.toNat).map (fun n:Nat=>(n:Int))=l:=by
 rw[qE]
 conv=>rhs;rw[<-List.map_id l]
 exact List.map_congr_left fun z f=>by have:=h z f;show((z.toNat:Nat):Int)=z;omega
theorem oB (T:OA m x=true):Prt m x (UN m x):=by
 have mk:∀(f g:List Int),bN m x=f->x.bins=g->f.length=g.length->(∀z∈f,0<=z)->(∀z∈g,0<=z)->1<=f.length->f.length<=4 ->
   (∀k (A:k<f.length) (B:k<g.length),∃h:f[k].toNat<m.pts.length,g[k].toNat<m.pts[f[k].toNat].bins.length)->Prt m x (UN m x):=by
  intro f g O E I p0 Y l1 l4 M
  have J:(UN m x).map Prod.fst=f.map Int.toNat:=by
   unfold UN;rw[O,E,List.map_fst_zip (by simp [I])]
  have Q:(UN m x).map Prod.snd=g.map Int.toNat:=by
   unfold UN;rw[O,E,List.map_snd_zip (by simp [I])]
  have S:(UN m x).length=f.length:=by have:=congrArg qL J;simpa using this
  refine⟨?_,?_,fun q hq=>?_,U,U⟩
  .have:=congrArg (List.map fun n:Nat=>(n:Int)) J
   rw[AKY f p0,qE] at this;rw[O];exact this.symm
  .have:=congrArg (List.map fun n:Nat=>(n:Int)) Q
   rw[AKY g Y,qE] at this;rw[E];exact this.symm
  .obtain⟨k,hk,rfl⟩:=qO hq
   have A:k<f.length:=U;have B:k<g.length:=U
   have Z:(UN m x)[k].1=f[k].toNat:=by
    have:((UN m x).map Prod.fst)[k]?=(f.map Int.toNat)[k]? := by rw[J]
    rw[zB,zB,jO hk,jO A] at this;simpa using this
   have g2:(UN m x)[k].2=g[k].toNat:=by
    have:((UN m x).map Prod.snd)[k]?=(g.map Int.toNat)[k]? := by rw[Q]
    rw[zB,zB,jO hk,jO B] at this;simpa using this
   obtain⟨P,V⟩:=M k A B;rw[<-Z] at P;refine⟨P,?_⟩;rw[g2];have:m.pts[(UN m x)[k].1]=m.pts[f[k].toNat]:=by congr 1
   rw[this];exact V
 cases F:x.cross
 .obtain⟨i,K,k,hk,l,E,a0,R⟩:=gD T F
  refine mk [(i:Int)] [(k:Int)] ?_ E rfl (fun z l=>?_) (fun z l=>?_) BA BA fun k' A B=>?_
  .unfold bN;rw[if_neg (by rw[F];decide),l]
  .rw[wH.1 l];omega
  .rw[wH.1 l];omega
  .simp_all
 .obtain⟨i,K,l,C,hh,R⟩:=gG T F
  have j:=R.crs _ (jH K);have I:=TS C;have L:m.crs[i].pts.length=x.bins.length:=by rw[<-I];unfold szs;rw[jI]
  have B:=j.two;have h4:=j.four;refine mk m.crs[i].pts x.bins ?_ rfl L (fun z l=>(j.here z l).1) (fun z l=>?_) U U fun k A B=>?_
  .unfold bN;rw[if_pos F,l,bD K]
  .obtain⟨k,hk,rfl⟩:=qO l
   exact(eV C k hk U).1
  .obtain⟨P,V⟩:=eV C k B A
   refine⟨j.here.toNat A,?_⟩;have:=j.here.bins A;rw[this];omega
theorem AUJ (q:MoOk m)(j:GH m=0){p:Pt}(g:p∈m.pts){b:Bin}(l:b∈p.bins):BdB p b:=by
 have v:=nD j p g;have f:=v.bins b l;have B:=v.n64;have C:=f.few;have E:=v.badLen;exact⟨f.ne,U,fun s A=>by have:=(f.each s A).2.1;omega,U,U,(q.pts p g).ex⟩
theorem rJ {P:Ex->Prop}{ins:Ex->List Rng->Ex}{m:Mo}(g:GH m=0){q:Nat×Nat}(h:q.1<m.pts.length)(h2:q.2<m.pts[q.1].bins.length)
  (f:∀l:List Rng,l.length<=4096->P (ins m.pts[q.1].ex l)/\P (notE (ins m.pts[q.1].ex l))):∀r∈cdQ ins m q,r.length<=2/\∀e∈r,P e:=by
 rw[iR ins h h2];have v:=nD g _ (jH h);have A:=v.bins _ (jH h2);exact AO6 (fun s j=>(f s.l (by have:=(A.each s j).2.1;omega)).1) fun _=>(f _ v.badLen).2
theorem ABG (g:GH m=0){q:Nat×Nat}(h:q.1<m.pts.length)(h2:q.2<m.pts[q.1].bins.length):1<=(cdQ ins m q).length/\(cdQ ins m q).length<=8:=by
 rw[iR ins h h2,ATU];have f:=(nD g _ (jH h)).bins _ (jH h2);exact⟨List.length_pos_iff.2 f.ne,f.few⟩
theorem AJI {P:Ex->Prop}{cs:List (List (List Ex))}(h:∀c∈cs,∀r∈c,∀e∈r,P e):∀r∈OT cs,∀e∈r,P e:=by
 intro r j e f;unfold OT at j;obtain⟨t,_,rfl⟩:=zQ.1 j;unfold rowA at f;obtain⟨c,l,f⟩:=List.mem_flatMap.1 f;unfold XW at f;split at f
 .cases g:c[t-(QO cs-c.length)]? with
  | none=>rw[g] at f;cases f
  | some q=>rw[g] at f;exact h c l q (List.mem_of_getElem? g) e f
 .cases f
theorem AEU {B:Nat}:∀ {R:List (List Ex)},(∀r∈R,r.length<=B)->R.flatten.length<=B*R.length
 | [],_=>BA
 | r::R,h=>by
   have g:=h r BA;have j:=AEU (R:=R) fun r f=>h r (by simp [f])
   rw[List.flatten_cons,List.length_append,List.length_cons,Nat.mul_add];omega
theorem xN {cs:List (List (List Ex))}(l:cs.length<=4)(g:∀c∈cs,c.length<=8)(h2:∀c∈cs,∀r∈c,r.length<=2):(OT cs).length<=8/\(∀r∈OT cs,r.length<=8)/\(OT cs).flatten.length<=64:=by
 have j:QO cs<=8:=X4 cs 0 _ (Nat.zero_le _) g;have a:(OT cs).length<=8:=by unfold OT;simpa using j
 have b:∀r∈OT cs,r.length<=8:=fun r f=>by
  unfold OT at f;obtain⟨t,_,rfl⟩:=zQ.1 f;have:=Y4 (n:=QO cs) (t:=t) h2;omega
 refine⟨a,b,?_⟩;have:=AEU b;omega
def cnL (ins:Ex->List Rng->Ex)(m:Mo)(x:Hl):List (List Ex):=A0A ins m (UN m x)
def cnE (ins:Ex->List Rng->Ex)(m:Mo)(x:Hl):Int:=if OA m x=true then (if(cnL ins m x).flatten.all (fun e=>exE e==0)=true then 0 else 2) else 1
def cnV (ins:Ex->List Rng->Ex)(m:Mo)(x:Hl):AV:=.tup [if cnE ins m x=0 then .sl .any 1 ((cnL ins m x).map P8) else .sl .nil 0 [],.n (cnE ins m x)]
theorem ANR (G:Nat->AV)(m:Mo)(x:Hl)(l:OA m x=true)(h:Hp):∃s,PCall (En G) 94 [.agg (DT m),.agg (FM x)] h (.sl s 1 ((bN m x).map Bins.qencI)):=by
 cases f:x.cross
 .obtain⟨i,g,k,hk,j,C,B,q⟩:=gD l f
  exact⟨_,by have:=ADK G m x f h;unfold bN;rw[if_neg (by rw[f];decide)];exact this⟩
 .obtain⟨i,g,j,A,E,q⟩:=gG l f
  exact⟨_,by have:=ADL G m x f i g j h;unfold bN;rw[if_pos f,j,bD g];exact this⟩
section
variable (G:Nat->AV)
theorem AI6 (m:Mo)(O:MoOk m)(M:GH m=0)(x:Hl)(L:List (Nat×Nat))(l:Prt m x L)(j:Nat)(E:j<L.length)(F I:Nat)(h:Hp)(K:h[F]?=some (qG 2 [DT m]))(J:h[I]?=some (qG 3 [FM x])):
  PCall (En G) 92 [.n (j:Nat),.n (L[j].1:Nat),.ptr F 0 0,.ptr I 0 0] h (.sl .any 1 ((cdQ FO m L[j]).map dC)):=by
 obtain⟨f,g⟩:=l.ok _ (jH E);have B:=AUJ O M (jH f) (jH g);have A:j<x.bins.length:=by rw[l.bins,jI];exact E
 have C:x.bins[j]=((L[j].2:Nat):Int):=by
  have:x.bins[j]?=(L.map fun q=>((q.2:Nat):Int))[j]? := by rw[<-l.bins]
  rw[jO A,zB,jO E] at this;simpa using this
 rw[iR FO f g];refine acT Tryz.func92 6 ?_;refine AB ?_;refine DR BC ?_;simp only[vQ,KQ,MS,MN,↓reduceIte,jC,jP,enP,UF,LZ,LJ,VA,WH K,CP f,DL kF bI JB f,tE J,CP A,BR ag3 A,Cov.encI0,C];refine⟨_,rI G m.pts[L[j].1] L[j].2 g B h,?_⟩
 try refine AB ?_
 exact⟨AC,AC⟩
end
theorem AT1 (h:Hp)(xs:List (List AV)):DJ jA false h 159 1 [(0,.sl .any 1 xs)]=some (.sl .full 1 [[.sl .any 1 xs]],h):=BC
theorem A4N:∀l:List (List (List Ex)),KN (l.map PH)=true:=fun l=>by
 unfold KN;rw[List.all_eq_true];intro row f;obtain⟨c,_,rfl⟩:=zQ.1 f;rfl
theorem AX9 (ins:Ex->List Rng->Ex)(m:Mo)(x:Hl)(n:Nat)(H:Hp):FH n H 3 (cnV ins m x)=cnV ins m x:=by
 unfold cnV;split<;>rfl
theorem AYA (h:OA m x=false):cnV ins m x=.tup [.sl .nil 0 [],.n 1]:=by
 have:cnE ins m x=1:=by unfold cnE;rw[if_neg (by rw[h];decide)]
 unfold cnV;rw[this];rfl
theorem AX8 (h:OA m x=true)(f:(cnL ins m x).flatten.all (fun e=>exE e==0)=false):cnV ins m x=.tup [.sl .nil 0 [],.n 2]:=by
 have:cnE ins m x=2:=by unfold cnE;rw[if_pos h,if_neg (by rw[f];decide)]
 unfold cnV;rw[this];rfl
theorem A2C (h:OA m x=true)(f:(cnL ins m x).flatten.all (fun e=>exE e==0)=true):cnV ins m x=.tup [.sl .any 1 ((cnL ins m x).map P8),.n 0]:=by
 have:cnE ins m x=0:=by unfold cnE;rw[if_pos h,if_pos f]
 unfold cnV;rw[this];rfl
theorem aG (h:OA m x=true):GH m=0:=by
 unfold OA at h;rw[Bool.and_eq_true] at h;simpa using h.1
section
variable (G:Nat->AV)
theorem sP (hG:GOk G)(m:Mo)(hm:MoOk m)(x:Hl)(hn:x.bins.length<=1048576)(h:Hp):PCall (En G) 43 [.agg (DT m),.agg (FM x)] h (cnV FO m x):=by
 refine ACalls.pure (R:=fun v H=>v=cnV FO m x/\Sm.ext h H) 3 ?_ (fun v H ⟨a,b⟩=>⟨b,by rw[a,AX9]⟩);refine IK (H:=hint [] [(36,[35])]) (enM G) Tryz.func43 rfl (by kernel_rfl) (by kernel_rfl) (jB (by kernel_rfl)) ?_;show awp _ _ _ _ _ (ML _ [.tmp 4,.tmp 5] _);have t:=Hb.mk' h m x;refine A7 @bxM @bxH ?_
 generalize h++[qG 2 [DT m]]++[qG 3 [FM x]]=H at t|-
 generalize (h++[qG 2 [DT m]]).length=hb at t|-
 refine A7 (ldM t.gm) (ldH t.gh) ?_;refine(valid_prog G hG m hm x hn H).use ?_;cases hv:OA m x
 .refine AB ?_
  exact⟨by rw[AYA hv],t.hx⟩
 have h0:=aG hv;have Y:=oB hv;obtain⟨s,hp⟩:=ANR G m x hv H;rw[Y.pts] at hp;refine A7 (ldM t.gm) (ldH t.gh) ?_;refine hp.use ?_;have C:cnL FO m x=OT ((UN m x).map (cdQ FO m)):=rfl;have a4:=Y.n4;have ae:=Y.n1
 have B:∀q∈UN m x,(∀r∈cdQ FO m q,r.length<=2/\∀e∈r,WN e)/\1<=(cdQ FO m q).length/\(cdQ FO m q).length<=8:=fun q f=>by
  obtain⟨a,b⟩:=Y.ok q f;have hw:=(hm.pts _ (jH a)).ex;exact⟨rJ h0 a b fun l hl=>⟨(AML hw hl).1,(AMJ (AML hw hl)).1⟩,ABG h0 a b⟩
 generalize UN m x=L at Y C a4 ae B;refine AB ?_;refine EK 0 (fun F g=>∃v,F 7=v/\Sm.ext H g/\outG 1 PH H (L.map (cdQ FO m)) v g) (fun _ _=>False) ?_ ?_ (fun _ _ q=>q.elim)
 .refine BB (fun n F g=>∃j v,n+j=L.length/\F 6=.fn (.func 92) [] [.ptr h.length 0 0,.ptr hb 0 0]/\F 7=v/\F 20=.sl s 1 ((L.map fun q=>((q.1:Nat):Int)).map Bins.qencI)/\F 21=.n (L.length:Nat)/\F 22=.n (j:Nat)/\Sm.ext H g/\outG 1 PH H ((L.take j).map (cdQ FO m)) v g) L.length
   ⟨0,.sl .nil 0 [],BA,AO,AO,AO,AO,AO,ext.rfl' _,by rw[qA];exact outG.nil _ _ _ _⟩ ?_
  rintro n F g ⟨j,v,hj,f6,f7,f20,f21,f22,hx,Z⟩;refine A7 f21 f22 ?_;refine DX ?_ ?_<;>intro V
  .have a2:j<(L.map fun q=>((q.1:Nat):Int)).length:=by rw[jI];exact V
   have hg:(L.map fun q=>((q.1:Nat):Int))[j]=((L[j].1:Nat):Int):=BA;have a3:((L.take j).map (cdQ FO m)).length<8388608:=by rw[jI,jR];omega
   obtain⟨v',H2,ha,ag,_,ac,_,_⟩:=Z.append (P:=jA) AZJ AQG AZE A0C U a3 hx (cdQ FO m L[j]);have a9:EH jA true g 159 159 v (.sl .full 1 [[.sl .any 1 ((cdQ FO m L[j]).map dC)]])=some (v',H2):=ha
   have ai:(L.take (j+1)).map (cdQ FO m)=(L.take j).map (cdQ FO m)++[cdQ FO m L[j]]:=by
    rw[jV V,qC];rfl
   simp only[vQ,jS,jU,CQ,List.nil_append,List.cons_append,↓reduceIte,jC,enP,LJ,zZ,ND,f6,f7,f20,f22,CP a2,BR ag3 a2,Cov.encI0,hg];refine(AI6 G m hm h0 x L Y j V h.length hb g (DW hx t.gm) (DW hx t.gh)).use ?_;refine H7 f7 f22 @AT1 a9 (C9 j) ?_;exact⟨n-1,U,j+1,v',U,AC,AC,AC,AC,AC,ac,by rw[ai];exact ag⟩
  .rw[jK U] at Z
   refine AB ?_;exact⟨v,AC,hx,Z⟩
 rintro F g ⟨v,f7,hx,Z⟩;have K:(L.map (cdQ FO m)).length<=4:=by rw[jI];exact a4
 have J:L.map (cdQ FO m)≠[]:=by intro q;have:=congrArg qL q;rw[jI,List.length_nil] at this;omega
 have T:∀c∈L.map (cdQ FO m),c.length<=8:=fun c Q=>by
  obtain⟨q,f,rfl⟩:=zQ.1 Q;exact(B q f).2.2
 have S:∀c∈L.map (cdQ FO m),∀r∈c,r.length<=2:=fun c Q r hr=>by
  obtain⟨q,f,rfl⟩:=zQ.1 Q;exact((B q f).1 r hr).1
 have a1:∀c∈L.map (cdQ FO m),∀r∈c,∀e∈r,WN e:=fun c Q r hr=>by
  obtain⟨q,f,rfl⟩:=zQ.1 Q;exact((B q f).1 r hr).2
 generalize L.map (cdQ FO m)=cs at Z C K J T S a1;clear B hp
 obtain⟨o,rfl,af,ah⟩:∃o,v=.own o 0 cs.length/\H.length<=o/\g[o]?=some (qG 1 (cs.map PH)):=by
  rcases Z with⟨e1,_⟩|⟨_,o,h1,h2,h3⟩
  .exact absurd e1 J
  .exact⟨o,h2,h1,h3⟩
 have hz:=fA (i:=35) (off:=0) (len:=cs.length) ah BA (by rw[zI,jK BA];exact A4N cs);rw[zI,jK BA] at hz;have a6:=hx.set af .dead;refine DC f7 @TV hz ?_
 generalize g.set o .dead=H2 at a6|-
 refine(ABS G cs .any U (fun c Q=>by have:=T c Q;omega) S H2).use ?_;obtain⟨aa,ab,a0⟩:=xN K T S
 have O:∀e∈(OT cs).flatten,WN e:=fun e he=>by
  obtain⟨r,hr,he⟩:=List.mem_flatten.1 he;exact AJI a1 r hr e he
 rw[<-C] at aa ab a0 O|-
 clear C;refine AB ?_;refine(concat_prog G (cnL FO m x) .any U U H2).uu ?_
 generalize hE:(cnL FO m x).flatten=E at a0 O|-
 have a5:∀b,E.all (fun e=>exE e==0)=b->(cnL FO m x).flatten.all (fun e=>exE e==0)=b:=fun b hb=>by rw[hE];exact hb
 have ad:=t.hx.trans a6;refine EK 2 (fun F g=>F 10=.sl .any 1 ((cnL FO m x).map P8)/\Sm.ext h g/\E.all (fun e=>exE e==0)=true) (fun F g=>F 4=.sl .nil 0 []/\F 5=.n 2/\Sm.ext h g/\E.all (fun e=>exE e==0)=false) ?_ ?_ ?_
 .refine BB (fun n F g=>∃i,n+i=E.length/\F 10=.sl .any 1 ((cnL FO m x).map P8)/\F 38=.sl (Cov.nm E) 4 (E.map AQ)/\F 39=.n (E.length:Nat)/\F 40=.n (i:Nat)/\Sm.ext h g/\E.all (fun e=>exE e==0)=(E.drop i).all (fun e=>exE e==0)) E.length
   ⟨0,BA,AO,AO,AO,AO,ad,rfl⟩ ?_
  rintro n F H3 ⟨i,hi,f10,a7,a8,M,A,f⟩;refine A7 a8 M ?_;refine DX ?_ ?_<;>intro I
  .rw[List.drop_eq_getElem_cons I,wS] at f
   simp only[vQ,jS,jU,CQ,↓reduceIte,jC,enP,PU,Option.getD_none,zZ,ND,a7,M,CP I,DL NI GZ EC I,NY,gQ _ _ [.n 0,.n 0,.str ⟨#[]⟩,.sl .nil 0 []] rfl,ldE];refine(cB G hG E[i] _ (O _ (jH I))).use ?_;simp only[vQ,jS,jU,CQ,↓reduceIte,enP,zZ,ND,bne];cases hz:(exE E[i]==0)
   .rw[hz,Bool.false_and] at f
    refine AB ?_;exact⟨AC,AC,A.app _,f⟩
   .rw[hz,Bool.true_and] at f
    refine A7 M (C9 i) ?_;exact⟨n-1,U,i+1,U,AC,AC,AC,AC,A.app _,f⟩
  .rw[List.drop_eq_nil_of_le U] at f
   refine AB ?_;exact⟨AC,A,f⟩
 .rintro F H3 ⟨f10,A,f⟩
  refine AY f10 ?_;exact⟨by rw[A2C hv (a5 _ f)],A⟩
 .rintro F H3 ⟨f4,f5,A,f⟩
  refine A7 f4 f5 ?_;exact⟨by rw[AX8 hv (a5 _ f)],A⟩
end
section
variable (G:Nat->AV)
theorem AF6 (m:Mo)(j:MoOk m)(g:GH m=0)(q:Nat×Nat)(f:q.1<m.pts.length)(h2:q.2<m.pts[q.1].bins.length)(h:Hp):PCall (En G) 201 [.agg (F8 m.pts[q.1]),.n (q.2:Nat)] h (.sl .any 1 ((cdQ GV m q).map dC)):=by
 rw[iR GV f h2];exact AYQ G m.pts[q.1] q.2 h2 (AUJ j g (jH f) (jH h2)) ((nD g _ (jH f)).bins _ (jH h2)).one h
theorem AWH {L:List (Nat×Nat)}(g:Prt m x L){j:Nat}(l:j<L.length):∃f:j<x.bins.length,x.bins[j]=((L[j].2:Nat):Int):=by
 have f:j<x.bins.length:=by rw[g.bins,jI];exact l
 refine⟨f,?_⟩;have:x.bins[j]?=(L.map fun q=>((q.2:Nat):Int))[j]? := by rw[<-g.bins]
 rw[jO f,zB,jO l] at this;simpa using this
theorem A1E {L:List (Nat×Nat)}(g:Prt m x L){j:Nat}(l:j<L.length):∃f:j<(bN m x).length,(bN m x)[j]=((L[j].1:Nat):Int):=by
 have f:j<(bN m x).length:=by rw[g.pts,jI];exact l
 refine⟨f,?_⟩;have:(bN m x)[j]?=(L.map fun q=>((q.1:Nat):Int))[j]? := by rw[<-g.pts]
 rw[jO f,zB,jO l] at this;simpa using this
theorem ANQ (m:Mo)(hm:MoOk m)(x:Hl)(V:OA m x=true)(h:Hp):∃s,PCall (En G) 112 [.agg (DT m),.agg (FM x)] h (.sl s 1 (((UN m x).map (cdQ GV m)).map PH)):=by
 have h0:=aG V;have l:=oB V;have a5:=l.n4;have a4:=l.n1;cases E:x.cross
 .obtain⟨i,C,k,hk,R,K,aa,hg⟩:=gD V E
  have B:bN m x=[(i:Int)]:=by unfold bN;rw[if_neg (by rw[E];decide),R]
  have f:=l.pts;have g:=l.bins;rw[B] at f;rw[K] at g
  have hl:(UN m x)=[(i,k)]:=by
   generalize UN m x=L at f g
   match L,f,g with
   | [q],f,g =>
     simp at f g;obtain⟨a,b⟩:=q;simp at f g;obtain rfl:a=i:=U;obtain rfl:b=k:=U;rfl
  refine⟨.full,?_⟩;rw[hl];refine ACalls.pure0 rfl ?_;refine acT Tryz.func112 4 ?_;have t:=Hb.mk' h m x;refine A7 @bxM @bxH ?_
  generalize h++[qG 2 [DT m]]++[qG 3 [FM x]]=H at t|-
  generalize (h++[qG 2 [DT m]]).length=b3 at t|-
  have S:=AN8 t.gh;have T:=tF t.gh;have l2:=tE t.gh;rw[E] at S;rw[R] at T;rw[K] at l2;have J:0<([(k:Int)]:List Int).length:=BA;have i0:JD 1 H (.sl x.bm 1 (([(k:Int)]:List Int).map Bins.qencI)) (.n 0)=some (.fptr 1 (([(k:Int)]:List Int).map Bins.qencI) 0 0):=CP (k:=1) J;have lb:BO jA H 3 (.fptr 1 (([(k:Int)]:List Int).map Bins.qencI) 0 0)=some (.n (k:Int)):=(BR ag3 J).trans rfl;refine AY S ?_;refine DR BC ?_;simp only[vQ,↓reduceIte,jC,jP,enP,UF,LZ,LJ,WL,VA,WH t.gm,T,l2,CP C,DL kF bI JB C]
  try simp only[jJ,jL] at i0 lb
  try refine A7 i0 lb ?_
  refine⟨_,AF6 G m hm h0 (i,k) C hk H,?_⟩
  try refine AY @AT1 ?_
  exact⟨AC,t.hx⟩
 .obtain⟨i,C,R,a9,hh,hg⟩:=gG V E
  have B:bN m x=m.crs[i].pts:=by unfold bN;rw[if_pos E,R,bD C]
  generalize UN m x=L at l a5 a4|-
  refine⟨_,JZ (enc:=PH) (fun _ _ _ _=>⟨rfl,rfl⟩) ?_⟩;refine acT Tryz.func112 4 ?_;have t:=Hb.mk' h m x;refine A7 @bxM @bxH ?_
  generalize h++[qG 2 [DT m]]++[qG 3 [FM x]]=H at t|-
  generalize (h++[qG 2 [DT m]]).length=b3 at t|-
  have S:=AN8 t.gh;rw[E] at S;refine AY S ?_
  refine BB (fun n F I=>∃j v,n+j=L.length/\F 2=.ptr h.length 0 0/\F 3=.ptr b3 0 0/\F 5=v/\F 6=.n (j:Nat)/\Sm.ext H I/\outG 1 PH H ((L.take j).map (cdQ GV m)) v I) L.length
   ⟨0,.sl .nil 0 [],BA,AO,AO,AO,AO,ext.rfl' _,by rw[qA];exact outG.nil _ _ _ _⟩ ?_
  rintro n F I ⟨j,v,hj,f2,f3,f5,Z,Y,ho⟩;have gm:=DW Y t.gm;have gh:=DW Y t.gh;have a2:x.bins.length=L.length:=by rw[l.bins,jI]
  refine EG f3 Z (tE gh) a2 ?_;refine DX ?_ ?_<;>intro A
  .obtain⟨K,a1⟩:=AWH l A
   obtain⟨hp,a7⟩:=A1E l A;obtain⟨q1,q2⟩:=l.ok _ (jH A);have T:=tF gh;rw[R] at T;have O:j<m.crs[i].pts.length:=by rw[<-B];exact hp
   have Q:m.crs[i].pts[j]=((L[j].1:Nat):Int):=by
    rw[<-a7];congr 1;exact B.symm
   have M:((L.take j).map (cdQ GV m)).length<8388608:=by rw[jI,jR];omega
   obtain⟨v',H2,ha,a6,_,a3,_,_⟩:=ho.append (P:=jA) AZJ AQG AZE A0C U M Y (cdQ GV m L[j]);have a0:EH jA true I 159 159 v (.sl .full 1 [[.sl .any 1 ((cdQ GV m L[j]).map dC)]])=some (v',H2):=ha
   have a8:(L.take (j+1)).map (cdQ GV m)=(L.take j).map (cdQ GV m)++[cdQ GV m L[j]]:=by
    rw[jV A,qC];rfl
   refine AB ?_;refine DR BC ?_;simp only[vQ,KQ,MS,MN,CQ,↓reduceIte,jC,jP,enP,UF,WI,LZ,NW,LJ,WL,VA,NF,f2,f3,Z,WH gm,cV gm,T,CP C,BR O4 C,VY,CP O,BR ag3 O,Cov.encI0,Q,CP q1,DL kF bI JB q1,tE gh,CP K,BR ag3 K,a1];refine⟨_,AF6 G m hm h0 L[j] q1 q2 I,?_⟩
   try refine H7 f5 Z @AT1 a0 (C9 j) ?_
   exact⟨n-1,U,j+1,v',U,AC,AC,AC,AC,a3,by rw[a8];exact a6⟩
  .rw[jK U] at ho
   refine AY f5 ?_;exact⟨t.hx.trans Y,ho.base t.hx.le⟩
end
theorem XD (e:Ex):(cpE e).op=e.op:=by rw[TA];rfl
theorem ABE (e:Ex):(cpE e).n=e.n:=by rw[TA];rfl
theorem VZ (e:Ex):(cpE e).name=e.name:=by rw[TA];rfl
theorem YB (e:Ex):(cpE e).args=e.args.map cpE:=by rw[TA];rfl
theorem ARJ (e:Ex):II (cpE e)=II e:=by
 unfold II Cov.badO dG XG XF;rw[XD,ABE,VZ,YB,jI]
theorem ADG:∀l:List Ex,(∀e∈l,pre (cpE e)=(pre e).map cpE)->FT (l.map cpE)=(FT l).map cpE
 | [],_=>rfl
 | e::l,h=>by
   show pre (cpE e)++FT (l.map cpE)=(pre e++FT l).map cpE;rw[qC,h e BA,ADG l fun x f=>h x (by simp [f])]
theorem hJ (e:Ex):pre (cpE e)=(pre e).map cpE:=by
 induction e using Ex.induct with|h e ih=>?_
 rw[pre_eq,pre_eq e,YB,ADG _ ih,jJ]
theorem AFJ:∀l:List Ex,(∀e∈l,dep (cpE e)=dep e)->deps (l.map cpE)=deps l
 | [],_=>rfl
 | e::l,h=>by
   show max (dep (cpE e)) (deps (l.map cpE))=max (dep e) (deps l);rw[h e BA,AFJ l fun x f=>h x (by simp [f])]
theorem A14 (e:Ex):dep (cpE e)=dep e:=by
 induction e using Ex.induct with|h e ih=>?_
 rw[YA,YA e,YB,AFJ _ ih]
theorem AS8 (l:List Ex):errs (l.map cpE)=errs l:=by
 unfold errs;rw[List.foldl_map];congr 1;funext z e;rw[ARJ]
theorem AA4 (e:Ex):exE (cpE e)=exE e:=by
 unfold exE;rw[hJ,AS8,A14,jI]
theorem AFU (g:OA m x=true):eqC (cnL FO m x) (cnL GV m x):=by
 have B:=oB g;have q:=aG g;unfold cnL A0A;refine AOT BA fun i A E=>?_
 rw[List.getElem_map,List.getElem_map];obtain⟨a,b⟩:=B.ok _ (jH (BL A));rw[iR _ a b,iR _ a b];have l:=nD q _ (jH a);have j:=l.bins _ (jH b);exact ATA (fun s f=>uU (j.each s f).2.2 (j.each s f).1) (fun C=>uU l.badOk C)
theorem AJH {P:Ex->Bool}(f:∀e,P (cpE e)=P e):∀ {a b:List Ex},a.map cpE=b.map cpE->a.all P=b.all P
 | [],[],_=>rfl
 | [],_::_,h=>by cases h
 | _::_,[],h=>by cases h
 | x::xs,y::ys,h=>by
   simp only[jJ,List.cons.injEq] at h;rw[wS,wS,AJH f h.2,<-f x,h.1,f y]
theorem AE7 {a b:List (List Ex)}(h:eqC a b):a.flatten.map cpE=b.flatten.map cpE:=by
 have:=congrArg List.flatten (show a.map (·.map cpE)=b.map (·.map cpE) from h);rw[List.map_flatten,List.map_flatten];exact this
theorem A2D (m:Mo)(x:Hl):cnE FO m x=cnE GV m x:=by
 unfold cnE;split
 .rename_i f
  rw[AJH (P:=fun e=>exE e==0) (fun e=>by simp only[AA4]) (AE7 (AFU f))]
 .rfl
end Go.Proofs.YtiihpnicbekebaaGreatDoor.Ho
