/- Part 9 of the proof (A1, Q1, Q2, Q3, A2, Q4, Q5, Q6, Q7, Q8); no condition. -/
import Derived.Test.YtocilianjfhifaaGreatDoorYD8
set_option linter.unusedVariables false
namespace Go.Proofs.YtocilianjfhifaaGreatDoor.Cov
open Sm Bins Go.RowKit
open Bool renaming and_eq_true→jV
open List renaming mem_cons→qR,map_cons→jD,mem_map→zM
def Q8 (a b:Int):Int:=min (a+b) 1099511627776
theorem J6 {n:Int}:G9 n=true↔0<=n∧n<=1099511627776:=by unfold G9; simp
theorem WX {a b:Int}(ha:G9 a=true)(hb:G9 b=true):G9 (Q8 a b)=true:=by
 rw[J6] at *; unfold Q8; omega
theorem ABK (a b:Int):Q8 a b=Q8 b a:=by unfold Q8; rw[Int.add_comm]
theorem Y7 {a b c:Int}(ha:G9 a=true)(hb:G9 b=true)(hc:G9 c=true):Q8 (Q8 a b) c=Q8 a (Q8 b c):=by
 rw[J6] at *; unfold Q8; omega
theorem ABJ {a:Int}(ha:G9 a=true):Q8 0 a=a:=by
 rw[J6] at *; unfold Q8; omega
theorem YF {n:Int}{p:Bool}(h:countB n p=true):G9 n=true:=by unfold countB at h; simp only[jV] at h; exact h.1
theorem ANT {a b:Int}{p:Bool}(ha:countB a p=true)(hb:countB b p=true):countB (Q8 a b) p=true:=by
 unfold countB at *;simp only[jV] at *;refine⟨WX ha.1 hb.1,?_⟩;cases p
 .have h1:=ha.2; have h2:=hb.2
  simp only[Bool.false_or,beq_iff_eq] at h1 h2;subst h1; subst h2; rfl
 .rfl
def OL (x y:List Int):List Int:=List.zipWith Q8 x y
def AFN (x y:Is):Is:=⟨nm (OL x.l y.l),OL x.l y.l⟩
def OD (a b:List Is):List Is:=List.zipWith AFN a b
def SS (a b:Cvr):Cvr:=⟨nm (OD a.pts b.pts),OD a.pts b.pts,nm (OD a.crs b.crs),OD a.crs b.crs,Q8 a.sam b.sam,Q8 a.ill b.ill⟩
def WL (x:List Int):Prop:=∀n∈x,G9 n=true
theorem QF:∀ {x:List Int} {p:Nat->Bool} {k:Nat},PP p k x=true->WL x
 | [],_,_,_=>fun _ h=>by cases h
 | n::x,p,k,h=>by
   simp only[PP,jV] at h;intro m hm;rcases qR.1 hm with rfl|hm
   .exact YF h.1
   .exact QF h.2 m hm
theorem ADY:∀ {x y:List Int} {p:Nat->Bool} {k:Nat},PP p k x=true->PP p k y=true->PP p k (OL x y)=true
 | [],_,_,_,_,_=>by simp [OL,PP]
 | _::_,[],_,_,_,_=>by simp [OL,PP]
 | a::x,b::y,p,k,ha,hb=>by
   simp only[PP,jV] at ha hb;have ih:=ADY ha.2 hb.2;simp only[OL,List.zipWith_cons_cons,PP,jV];exact⟨ANT ha.1 hb.1,ih⟩
theorem AX4 {p:Pt}{x y:Is}(hx:okP p x=true)(hy:okP p y=true):okP p (AFN x y)=true:=by
 unfold okP at *;simp only[jV,beq_iff_eq] at *;refine⟨?_,ADY hx.2 hy.2⟩;show(OL x.l y.l).length=_;unfold OL; rw[List.length_zipWith]; omega
theorem AX6 {m:Mo}{c:Cr}{x y:Is}(hx:okC m c x=true)(hy:okC m c y=true):okC m c (AFN x y)=true:=by
 unfold okC at *;simp only[jV,beq_iff_eq] at *;refine⟨?_,ADY hx.2 hy.2⟩;show(OL x.l y.l).length=_;unfold OL; rw[List.length_zipWith]; omega
theorem AEP {α:Type}{ok:α->Is->Bool}(hok:∀a x y,ok a x=true->ok a y=true->ok a (AFN x y)=true):∀ {ws:List α} {xs ys:List Is},JY ok ws xs=true->JY ok ws ys=true->JY ok ws (OD xs ys)=true
 | [],[],[],_,_=>rfl
 | a::ws,x::xs,y::ys,hx,hy=>by
   simp only[JY,jV] at hx hy;simp only[OD,List.zipWith_cons_cons,JY,jV];exact⟨hok _ _ _ hx.1 hy.1,AEP hok hx.2 hy.2⟩
 | [],_::_,_,h,_=>by cases h
 | [],[],_::_,_,h=>by cases h
 | _::_,[],_,h,_=>by cases h
 | _::_,_::_,[],_,h=>by cases h
theorem J5 {m:Mo}{v:Cvr}:G5 m v=true↔EY m=0∧JY okP m.pts v.pts=true∧JY (okC m) m.crs v.crs=true∧G9 v.sam=true∧G9 v.ill=true:=by
 unfold G5;simp only[jV,beq_iff_eq];exact⟨fun⟨⟨⟨⟨a,b⟩,c⟩,d⟩,e⟩=>⟨a,b,c,d,e⟩,fun⟨a,b,c,d,e⟩=>⟨⟨⟨⟨a,b⟩,c⟩,d⟩,e⟩⟩
theorem UL {m:Mo}{a b:Cvr}(ha:G5 m a=true)(hb:G5 m b=true):G5 m (SS a b)=true:=by
 rw[J5] at *;obtain⟨h1,h2,h3,h4,h5⟩:=ha;obtain⟨_,k2,k3,k4,k5⟩:=hb;exact⟨h1,AEP (fun _ _ _=>AX4) h2 k2,AEP (fun _ _ _=>AX6) h3 k3,WX h4 k4,WX h5 k5⟩
def zeros (n:Nat):List Int:=List.replicate n 0
def zIs (n:Nat):Is:=⟨.full,zeros n⟩
def zPs (m:Mo):List Is:=m.pts.map fun p=>zIs p.bins.length
def zCs (m:Mo):List Is:=m.crs.map fun c=>zIs (GK (szs m c.pts))
def JJ (m:Mo):Cvr:=⟨nm (zPs m),zPs m,nm (zCs m),zCs m,0,0⟩
theorem UF:∀(n:Nat) {p:Nat->Bool} {k:Nat},PP p k (zeros n)=true
 | 0,_,_=>rfl
 | n+1,p,k=>by
   have ih:=UF n (p:=p) (k:=k+1);unfold zeros at *;simp only[List.replicate_succ,PP,ih,Bool.and_true];unfold countB; cases p k<;>rfl
theorem WJ {α:Type}{ok:α->Is->Bool}(f:α->Is)(hf:∀a,ok a (f a)=true):∀ws:List α,JY ok ws (ws.map f)=true
 | []=>rfl
 | a::ws=>by simp only[jD,JY,hf,WJ f hf ws,Bool.and_true]
theorem MO {m:Mo}(h:EY m=0):G5 m (JJ m)=true:=by
 rw[J5];refine⟨h,WJ _ (fun p=>?_) _,WJ _ (fun c=>?_) _,rfl,rfl⟩
 .unfold okP; simp [zIs,UF]; simp [zeros]
 .unfold okC; simp [zIs,UF]; simp [zeros]
structure Dat where
 pts:List (List Int)
 crs:List (List Int)
 sam:Int
 ill:Int
def OA (v:Cvr):Dat:=⟨v.pts.map (·.l),v.crs.map (·.l),v.sam,v.ill⟩
def PH (a b:List (List Int)):List (List Int):=List.zipWith OL a b
def X4 (a b:Dat):Dat:=⟨PH a.pts b.pts,PH a.crs b.crs,Q8 a.sam b.sam,Q8 a.ill b.ill⟩
theorem AQF:∀a b:List Is,(OD a b).map (·.l)=PH (a.map (·.l)) (b.map (·.l))
 | [],_=>by simp [OD,PH]
 | _::_,[]=>by simp [OD,PH]
 | x::a,y::b=>by
   have:=AQF a b;unfold OD PH at *;simp only[List.zipWith_cons_cons,jD,this]; rfl
theorem Z9 (a b:Cvr):OA (SS a b)=X4 (OA a) (OA b):=by
 unfold OA X4 SS; simp only[AQF]
theorem ASJ (x y:List Int):OL x y=OL y x:=by unfold OL; exact List.zipWith_comm_of_comm ABK
theorem AFM (x y:List (List Int)):PH x y=PH y x:=by unfold PH; exact List.zipWith_comm_of_comm ASJ
theorem ASL (a b:Dat):X4 a b=X4 b a:=by
 unfold X4; rw[AFM a.pts,AFM a.crs,ABK a.sam,ABK a.ill]
theorem AFL:∀ {x y z:List Int},WL x->WL y->WL z->OL (OL x y) z=OL x (OL y z)
 | [],_,_,_,_,_=>by simp [OL]
 | _::_,[],_,_,_,_=>by simp [OL]
 | _::_,_::_,[],_,_,_=>by simp [OL]
 | a::x,b::y,c::z,h1,h2,h3=>by
   have ih:=AFL (x:=x) (y:=y) (z:=z) (fun n hn=>h1 n (by simp [hn])) (fun n hn=>h2 n (by simp [hn])) (fun n hn=>h3 n (by simp [hn]));unfold OL at *;simp only[List.zipWith_cons_cons,ih];rw[Y7 (h1 a (by simp)) (h2 b (by simp)) (h3 c (by simp))]
def WLL (x:List (List Int)):Prop:=∀l∈x,WL l
theorem WY:∀ {x y z:List (List Int)},WLL x->WLL y->WLL z->PH (PH x y) z=PH x (PH y z)
 | [],_,_,_,_,_=>by simp [PH]
 | _::_,[],_,_,_,_=>by simp [PH]
 | _::_,_::_,[],_,_,_=>by simp [PH]
 | a::x,b::y,c::z,h1,h2,h3=>by
   have ih:=WY (x:=x) (y:=y) (z:=z) (fun n hn=>h1 n (by simp [hn])) (fun n hn=>h2 n (by simp [hn])) (fun n hn=>h3 n (by simp [hn]));unfold PH at *;simp only[List.zipWith_cons_cons,ih];rw[AFL (h1 a (by simp)) (h2 b (by simp)) (h3 c (by simp))]
structure WD (d:Dat):Prop where
 pts:WLL d.pts
 crs:WLL d.crs
 sam:G9 d.sam=true
 ill:G9 d.ill=true
theorem AN6 {a b c:Dat}(ha:WD a)(hb:WD b)(hc:WD c):X4 (X4 a b) c=X4 a (X4 b c):=by
 unfold X4;simp only[WY ha.pts hb.pts hc.pts,WY ha.crs hb.crs hc.crs,Y7 ha.sam hb.sam hc.sam,Y7 ha.ill hb.ill hc.ill]
theorem YQ {p:Pt}{x:Is}(h:okP p x=true):WL x.l:=by
 unfold okP at h; simp only[jV] at h; exact QF h.2
theorem YR {m:Mo}{c:Cr}{x:Is}(h:okC m c x=true):WL x.l:=by
 unfold okC at h; simp only[jV] at h; exact QF h.2
theorem AEO {α:Type}{ok:α->Is->Bool}{Q:Is->Prop}(hq:∀a x,ok a x=true->Q x):∀ {ws:List α} {xs:List Is},JY ok ws xs=true->∀x∈xs,Q x
 | _,[],_=>fun _ h=>by cases h
 | a::ws,x::xs,h=>by
   simp only[JY,jV] at h;intro y hy;rcases qR.1 hy with rfl|hy
   .exact hq _ _ h.1
   .exact AEO hq h.2 y hy
 | [],_::_,h=>by cases h
theorem AEN {m:Mo}{v:Cvr}(h:G5 m v=true):WD (OA v):=by
 rw[J5] at h;obtain⟨_,h2,h3,h4,h5⟩:=h;refine⟨fun l hl=>?_,fun l hl=>?_,h4,h5⟩
 .obtain⟨x,hx,rfl⟩:=zM.1 hl
  exact AEO (ok:=okP) (fun _ _ h=>YQ h) h2 x hx
 .obtain⟨x,hx,rfl⟩:=zM.1 hl
  exact AEO (ok:=okC m) (fun _ _ h=>YR h) h3 x hx
theorem AHI:∀ {n:Nat} {x:List Int},WL x->x.length=n->OL (zeros n) x=x
 | 0,[],_,_=>rfl
 | n+1,a::x,h,e=>by
   have ih:=AHI (n:=n) (x:=x) (fun n hn=>h n (by simp [hn])) (by simpa using e);unfold OL zeros at *;simp only[List.replicate_succ,List.zipWith_cons_cons,ih,ABJ (h a (by simp))]
theorem Y8 {α:Type}{ok:α->Is->Bool}(f:α->Nat)(hok:∀a x,ok a x=true->x.l.length=f a∧WL x.l):∀ {ws:List α} {xs:List Is},JY ok ws xs=true->PH ((ws.map fun a=>zIs (f a)).map (·.l)) (xs.map (·.l))=xs.map (·.l)
 | [],[],_=>rfl
 | a::ws,x::xs,h=>by
   simp only[JY,jV] at h;have ih:=Y8 f hok h.2;unfold PH at *;simp only[jD,List.zipWith_cons_cons,ih];rw[show OL (zIs (f a)).l x.l=x.l from AHI (hok _ _ h.1).2 (hok _ _ h.1).1]
 | [],_::_,h=>by cases h
 | _::_,[],h=>by cases h
theorem AH3 {p:Pt}{x:Is}(h:okP p x=true):x.l.length=p.bins.length:=by
 unfold okP at h; simp only[jV,beq_iff_eq] at h; exact h.1
theorem AH4 {m:Mo}{c:Cr}{x:Is}(h:okC m c x=true):x.l.length=GK (szs m c.pts):=by
 unfold okC at h; simp only[jV,beq_iff_eq] at h; exact h.1
theorem XW {m:Mo}{v:Cvr}(h:G5 m v=true):X4 (OA (JJ m)) (OA v)=OA v:=by
 rw[J5] at h;obtain⟨_,h2,h3,h4,h5⟩:=h;unfold X4 OA JJ zPs zCs;simp only[ABJ h4,ABJ h5];rw[Y8 (ok:=okP) (fun p=>p.bins.length) (fun _ _ h=>⟨AH3 h,YQ h⟩) h2,Y8 (ok:=okC m) (fun c=>GK (szs m c.pts)) (fun _ _ h=>⟨AH4 h,YR h⟩) h3]
theorem WM {α:Type}{ok:α->Is->Bool}(hok:∀a x y,x.l=y.l->ok a x=ok a y):∀(ws:List α) (xs ys:List Is),xs.map (·.l)=ys.map (·.l)->JY ok ws xs=JY ok ws ys
 | [],[],[],_=>rfl
 | a::ws,x::xs,y::ys,h=>by
   simp only[jD,List.cons.injEq] at h;simp only[JY,hok a x y h.1,WM hok ws xs ys h.2]
 | [],x::xs,y::ys,h=>rfl
 | a::ws,[],[],h=>rfl
 | _,[],_::_,h=>by simp at h
 | _,_::_,[],h=>by simp at h
end Go.Proofs.YtocilianjfhifaaGreatDoor.Cov
set_option linter.unusedSimpArgs false
set_option maxRecDepth 8000
namespace Go.Proofs.YtocilianjfhifaaGreatDoor.Cov
open Sm Bins Go.RowKit
open Bool renaming not_false→jC,false_eq_true→jY,and_eq_true→jV,not_true→jR,or_false→jT,or_true→qY
open Int renaming toNat_natCast→wE
open List renaming take_succ_eq_append_getElem→zL,map_cons→jD,map_nil→jE,append_assoc→zA,getElem?_eq_getElem→jS,all_eq_true→zI,contains_nil→jJ,length_map→jI,take_zero→zQ,getElem_mem→jQ,append_nil→jF,drop_zero→qE,take_of_length_le→jX,length_take→zD,drop_eq_getElem_cons→zK,drop_eq_nil_of_le→jW,contains_cons→jU,length_set→qI,length_append→zW,getElem?_cons_zero→zB,getElem?_cons_succ→zG
open Nat renaming le_of_ble_eq_true→jH,reduceEqDiff→jA,reduceBEq→jO,reduceAdd→jM,zero_add→jG,add_zero→jK,le_trans→zY,le_refl→jL
open Option renaming getD_some→jB,getD_none→jP
theorem AFK (G:Nat->AV)(a b:Int)(h:Hp)(ha:G9 a=true)(hb:G9 b=true):PCall (En G) 147 [.int .i64 a,.int .i64 b] h (.int .i64 (Q8 a b)):=by
 have h1:=J6.1 ha;have h2:=J6.1 hb;refine acN Tryz.func147 rfl ?_;show awp _ _ _ _ _ (EN _ [.tmp 4] _);simp -implicitDefEqProofs only[BC,BA,BK,A8,CG,AY,BB,AO,AQ,AL,BD,AX,AC,AA,AZ,AU,BH,BG,A7,BR,AF9,AB,C9,AAY,BF,BN,↓reduceIte,jA,jB,jC,enP,wrap_i64 (n:=a+b) (by omega) (by omega)];exact⟨rfl,trivial⟩
structure Sh2 (a b:List Is):Prop where
 len:a.length=b.length
 row:∀i (ha:i<a.length) (hb:i<b.length),a[i].l.length=b[i].l.length∧a[i].l≠[]∧WL a[i].l∧WL b[i].l∧a[i].l.length<=1048576
 num:a.length<=1048576
theorem ARU (g:List Int)(k:Nat)(hk:k<g.length):((g.take k++zeros (g.length-k)).map encI).set k (encI g[k])=(g.take (k+1)++zeros (g.length-(k+1))).map encI:=by
 have hz:zeros (g.length-k)=0::zeros (g.length-(k+1)):=by
  unfold zeros;rw[show g.length-k=(g.length-(k+1))+1 by omega,List.replicate_succ]
 rw[hz,zL hk];simp only[List.map_append,jD,jE,zA,List.singleton_append];rw[List.set_append_right _ _ (by simp; omega)];simp [Nat.min_eq_left (Nat.le_of_lt hk)]
theorem AU5 (g:List Int):(g.take g.length++zeros (g.length-g.length)).map encI=g.map encI:=by
 rw[List.take_length,Nat.sub_self]; simp [zeros]
theorem AU4 (g:List Int)(k:Nat)(hk:k<=g.length):(g.take k++zeros (g.length-k)).length=g.length:=by
 simp [zeros]; omega
theorem mkI (h:Hp)(n:Nat)(hn:n<=1048576):I8 Tryz.prog true h 57 (.int .i64 (n:Int)) (.int .i64 (n:Int))=some (.own h.length 0 n,h++[.live 1 ((zeros n).map encI)]):=by
 rw[A1Q h n hn,AI1];simp [zeros]
theorem AXF {h:Hp}{o j:Nat}{rows:List (List AV)}{x:Int}(ho:h[o]?=some (.live 1 rows))(hj:∃v,rows[j]?=some [v]):FX Tryz.prog h 3 (.ptr o j 0) (.int .i64 x)=some (h.set o (.live 1 (rows.set j (encI x)))):=by
 obtain⟨v,hv⟩:=hj;rw[KY (P6 _ _) sz3 ho hv (by simp)]; rfl
theorem O7 (h:Hp)(x y:ABlk):(h++[x]).set h.length y=h++[y]:=by simp
theorem ATN {g:List Int}{j:Nat}(hj:j<g.length):∃v,(g.map encI)[j]?=some [v]:=⟨_,by rw[List.getElem?_map,jS hj]; rfl⟩
theorem AHB (h:Hp)(m:SM)(xs:List (List AV)):FO Tryz.prog false h 26 1 [(0,.sl m 1 xs)]=some (.sl .full 1 [[.sl m 1 xs]],h):=by kernel_rfl
theorem AU2:Frz encL:=fun _ _ _ _=>⟨rfl,rfl⟩
theorem A3V (g:List Int):PZ (g.map encI)=true:=by
 unfold PZ;rw[zI];intro r hr;obtain⟨x,_,rfl⟩:=List.mem_map.1 hr;rfl
theorem A1N {α:Type}{ys:List α}(h:ys≠[]):nm ys=.any:=by cases ys with
 | nil=>exact absurd rfl h
 | cons _ _=>rfl
theorem ASH (a b:List Is)(h:a.length=b.length):(OD a b).length=a.length:=by unfold OD; rw[List.length_zipWith]; omega
theorem AWR (x y:List Int)(h:x.length=y.length):(OL x y).length=x.length:=by unfold OL; rw[List.length_zipWith]; omega
theorem ASI (a b:List Is)(i:Nat)(ha:i<a.length)(hb:i<b.length)(hi:i<(OD a b).length):(OD a b)[i]=AFN a[i] b[i]:=List.getElem_zipWith
theorem AWS (x y:List Int)(i:Nat)(ha:i<x.length)(hb:i<y.length)(hi:i<(OL x y).length):(OL x y)[i]=Q8 x[i] y[i]:=List.getElem_zipWith
set_option maxHeartbeats 1000000 in
theorem AED (G:Nat->AV)(a b:List Is)(s t:SM)(h:Hp)(hs:Sh2 a b):PCall (En G) 146 [.sl s 1 (a.map encL),.sl t 1 (b.map encL)] h (.sl (nm (OD a b)) 1 ((OD a b).map encL)):=by
 refine N7 AU2 ?_;have hl:=hs.len;have hn:=hs.num;have hsl:=ASH a b hl;refine ND (H:=hint [] [(43,[42])]) (enM G) Tryz.func146 rfl (by kernel_rfl) (by kernel_rfl) (jH (by kernel_rfl)) ?_;show awp _ _ _ _ _ (EN _ [.tmp 4] _);simp -implicitDefEqProofs only[DC,jJ,jO,BC,BP,BA,A8,AY,BB,AL,BD,AX,AC,AA,AZ,AU,BH,IY,BG,A7,DZ,AB,BF,↓reduceIte,jA,jB,jC,enP,YU,jY,F8,jI];refine DK (fun n F H=>∃i,n+i=a.length∧F 1=.sl t 1 (b.map encL)∧F 10=.sl s 1 (a.map encL)∧F 11=.int .i64 a.length∧F 12=.int .i64 (i:Nat)∧ext h H∧outG 1 encL h ((OD a b).take i) (F 5) H) a.length ⟨0,by simp,by simp -implicitDefEqProofs only[AA,BF,BN,↓reduceIte,jA],by simp -implicitDefEqProofs only[AA,↓reduceIte,jA],by simp -implicitDefEqProofs only[AA,↓reduceIte,jA],by simp -implicitDefEqProofs only[AA,↓reduceIte]; rfl,ext.rfl' h,by rw[zQ]; exact outG.nil _ _ _ _⟩ ?_;rintro n F H ⟨i,hi,f1,f10,f11,f12,he,ho⟩;simp -implicitDefEqProofs only[DC,jJ,jO,BC,BA,BI,A8,AY,BB,AL,BD,AX,AC,AA,AZ,BR,AB,CZ,↓reduceIte,jB,jC,enP,jY,F8,f11,f12];refine CV (fun hc=>?_) (fun hc=>?_)
 .have ha:i<a.length:=by simpa using hc
  have hb:i<b.length:=by omega
  obtain⟨r1,r2,r3,r4,r5⟩:=hs.row i ha hb;have hSi:i<(OD a b).length:=by omega
  have hget:=ASI a b i ha hb hSi;have htk:=zL hSi;rw[hget] at htk;have hgl:=AWR _ _ r1;have hgi:=AWS a[i].l b[i].l;have hgne:OL a[i].l b[i].l≠[]:=fun e=>r2 (List.eq_nil_of_length_eq_zero (by rw[<-hgl,e]; rfl))
  have hadd:AFN a[i] b[i]=⟨.any,OL a[i].l b[i].l⟩:=by unfold AFN; rw[A1N hgne]
  rw[hadd] at htk;generalize OL a[i].l b[i].l=g at hgl hgi hgne htk;simp -implicitDefEqProofs only[DC,jJ,jO,BC,BP,BA,BO,A8,AY,BB,AL,BD,AX,AC,AA,AZ,AU,BH,BG,A7,BQ,JH,CE,DZ,BX,AB,↓reduceIte,jA,jB,jC,enP,OI,JD,jY,F8,f10,f12,DU ha,DF KP ha,OC,jI,mkI _ _ r5];refine GM 2 (fun F' H'=>F' 1=.sl t 1 (b.map encL)∧F' 10=.sl s 1 (a.map encL)∧F' 11=.int .i64 a.length∧F' 12=.int .i64 (i:Nat)∧F' 5=F 5∧F' 8=.own H.length 0 g.length∧H'=H++[.live 1 (g.map encI)]) (fun _ _=>False) ?_ ?_ (fun _ _ hh=>hh.elim)
  .refine DK (fun n F' H'=>∃k,n+k=g.length∧F' 1=.sl t 1 (b.map encL)∧F' 10=.sl s 1 (a.map encL)∧F' 11=.int .i64 a.length∧F' 12=.int .i64 (i:Nat)∧F' 5=F 5∧F' 8=.own H.length 0 g.length∧F' 7=.sl a[i].m 1 (a[i].l.map encI)∧F' 6=.int .i64 (i:Nat)∧F' 21=.int .i64 g.length∧F' 22=.int .i64 (k:Nat)∧H'=H++[.live 1 ((g.take k++zeros (g.length-k)).map encI)]) g.length ⟨0,by simp,by simp -implicitDefEqProofs only[AA,↓reduceIte,jA,f1],by simp -implicitDefEqProofs only[AA,↓reduceIte,jA,f10],by simp -implicitDefEqProofs only[AA,↓reduceIte,jA,f11],by simp -implicitDefEqProofs only[AA,↓reduceIte,jA,f12],by simp -implicitDefEqProofs only[AA,↓reduceIte,jA],by simp -implicitDefEqProofs only[AA,↓reduceIte,jA]; rw[hgl],by simp -implicitDefEqProofs only[AA,↓reduceIte,jA],by simp -implicitDefEqProofs only[AA,↓reduceIte,jA],by simp -implicitDefEqProofs only[AA,↓reduceIte,jA]; rw[hgl],by simp -implicitDefEqProofs only[AA,↓reduceIte]; rfl,by rw[zQ,List.nil_append,Nat.sub_zero,hgl]⟩ ?_
   rintro n' F' H' ⟨k,hk,g1,g10,g11,g12,g5,g8,g7,g6,g21,g22,rfl⟩;simp -implicitDefEqProofs only[DC,jJ,jO,BC,BA,BI,A8,AY,BB,AL,BD,AX,AC,AA,AZ,BR,AB,CZ,↓reduceIte,jB,jC,enP,jY,F8,g21,g22];refine CV (fun hc=>?_) (fun hc=>?_)
   .have hk':k<g.length:=by simpa using hc
    have hka:k<a[i].l.length:=by omega
    have hkb:k<b[i].l.length:=by omega
    have hw:=AFK G _ _ (H++[.live 1 ((g.take k++zeros (g.length-k)).map encI)]) (r3 _ (jQ hka)) (r4 _ (jQ hkb));rw[<-hgi k hka hkb hk'] at hw;have hrow:=ATN (g:=g.take k++zeros (g.length-k)) (j:=k) (by rw[AU4 g k (by omega)]; exact hk');simp -implicitDefEqProofs only[DC,jJ,jO,BC,BP,BA,BO,A8,AY,BB,AL,BD,AX,AC,AA,AZ,BG,A7,↓reduceIte,jA,jB,jC,jY,F8,g22];refine E8 (by kernel_rfl) ?_;simp -implicitDefEqProofs only[F6,DC,jJ,EH,DT,EI,FT,FH,EF,GU,F9,AA,AZ,BZ,BQ,CE,AB,jD,jE,jF,↓reduceIte,jA,jM,jB,enP,OI,JF,g1,g6,g7,g8,DU hka,DF ag3 hka,encI0,DU hb,DF KP hb,OC,DU hkb,DF ag3 hkb];refine⟨_,hw,?_⟩
    try simp -implicitDefEqProofs only[F6,DC,jJ,jO,EH,DT,JZ,FB,EI,JV,BA,A8,EJ,EQ,AY,BB,AL,BD,AX,AC,AA,AZ,AU,BH,BG,D6,BR,AB,CY,C9,↓reduceIte,jA,jG,jB,jC,enP,jP,jY,F8,g22,LZ (CX H _) hk',jG,AXF (CX H _) hrow,O7,ARU g k hk',wrap_succ (show k<9223372036854775807 by omega)]
    exact⟨n'-1,by omega,k+1,by omega,g1,g10,g11,g12,g5,g8,g7,g6,g21,rfl,rfl⟩
   .have hk':¬k<g.length:=by simpa using hc
    obtain rfl:k=g.length:=by omega
    simp -implicitDefEqProofs only[DJ,EG,KC,ET,AA,↓reduceIte,jA];exact⟨g1,g10,g11,g12,g5,g8,by rw[AU5]⟩
  .rintro F' H' ⟨g1,g10,g11,g12,g5,g8,rfl⟩
   have hz:=AK9 (H:=H++[.live 1 (g.map encI)]) (i:=42) (off:=0) (len:=g.length) (CX H _) (by simp) (by rw[qE,jX (by simp)]; exact A3V g);rw[qE,jX (by simp),O7] at hz;obtain⟨v',H2,hap,ho',_,he',_,_⟩:=(ho.app [.dead]).append AAO VY ADC ABB (by omega) (by rw[zD]; omega) (he.app [.dead]) ⟨.any,g⟩;simp -implicitDefEqProofs only[EZ,FW,DC,jJ,jO,BA,A8,EU,AY,AL,BD,AX,AC,AA,AZ,BG,EP,GR,BX,↓reduceIte,jA,jB,jC,enP,jY,F8,g5,g8,ALA,AL,hz,AHB];refine H9 (v:=v') (h:=H2) hap ?_;simp -implicitDefEqProofs only[DC,jJ,jO,BA,A8,EJ,EQ,AY,BB,AL,BD,AX,AC,AA,AZ,AU,BH,BG,A7,BR,AB,C9,↓reduceIte,jA,jB,jC,enP,jY,F8,g12,wrap_succ (show i<9223372036854775807 by omega)];refine⟨n-1,by omega,i+1,by omega,g1,g10,g11,rfl,he',?_⟩;rw[htk]; exact ho'
 .have ha:¬i<a.length:=by simpa using hc
  rw[jX (by omega)] at ho;simp -implicitDefEqProofs only[DC,jJ,jO,BC,BA,BK,DJ,A8,EG,EU,ET,CG,AY,BB,AL,BD,AX,AC,AA,AZ,BG,A7,↓reduceIte,jA,jB,jC,jY,F8];exact⟨he,ho⟩
def WO:List Is->List Is->Bool
 | [],[]=>true
 | a::ws,b::bs=>eqL a.l b.l&&WO ws bs
 | _,_=>false
theorem AEW:∀ {a b:List Is},WO a b=true↔a.map (·.l)=b.map (·.l)
 | [],[]=>by simp [WO]
 | x::a,y::b=>by
   have ih:=AEW (a:=a) (b:=b);simp only[WO,jV,ih,jD,List.cons.injEq,eqL,decide_eq_true_eq]
 | [],_::_=>by simp [WO]
 | _::_,[]=>by simp [WO]
theorem AVD {a b:List Is}(h:WO a b=true):a.length=b.length:=by
 have:=congrArg List.length (AEW.1 h);simpa using this
theorem ARV (a b:List Is)(k:Nat)(ha:k<a.length)(hb:k<b.length):WO (a.drop k) (b.drop k)=(eqL a[k].l b[k].l&&WO (a.drop (k+1)) (b.drop (k+1))):=by
 rw[zK ha,zK hb]; rfl
theorem ABY (G:Nat->AV)(a b:List Is)(s t:SM)(h:Hp)(hl:a.length<=1048576)(hb:∀x∈b,x.l.length<=1048576):PCall (En G) 86 [.sl s 1 (a.map encL),.sl t 1 (b.map encL)] h (.bool (WO a b)):=by
 refine acN Tryz.func86 rfl ?_;show awp _ _ _ _ _ (EN _ [.tmp 4] _);simp -implicitDefEqProofs only[BC,BA,BI,A8,AY,BB,AO,AQ,AL,BD,AX,AC,AA,AZ,AU,BM,BG,A7,BR,DZ,AB,EK,BF,BN,↓reduceIte,jA,jB,jC,enP,YU,jI];refine CV (fun h1=>?_) (fun h1=>?_)
 .simp -implicitDefEqProofs only[BC,BA,BK,A8,CP,CG,AY,BB,AO,AQ,AL,BD,AX,AC,AA,AU,BM,A7,↓reduceIte,jB,jC]
  have:WO a b=false:=by
   rw[<-Bool.not_eq_true]; intro e;have:=AVD e;simp [this] at h1
  exact⟨by rw[this],trivial⟩
 have hab:a.length=b.length:=by simp at h1; omega
 simp -implicitDefEqProofs only[BC,BP,BA,BO,A8,AY,BB,AO,AQ,AL,BD,AX,AC,AU,BH,A7,jB,jC];refine DK (fun n F H=>∃i,n+i=a.length∧F 0=.sl s 1 (a.map encL)∧F 1=.sl t 1 (b.map encL)∧F 5=.int .i64 (i:Nat)∧H=h∧WO a b=WO (a.drop i) (b.drop i)) a.length ⟨0,by simp,by simp -implicitDefEqProofs only[AA,BF,↓reduceIte,jA],by simp -implicitDefEqProofs only[AA,BF,BN,↓reduceIte,jA],by simp -implicitDefEqProofs only[AA,↓reduceIte]; rfl,rfl,rfl⟩ ?_;rintro n F H ⟨i,hi,f0,f1,f5,rfl,hf⟩;simp -implicitDefEqProofs only[BC,BA,BI,A8,AY,BB,AO,AQ,AL,BD,AX,AC,AA,AZ,BG,BR,DZ,AB,CZ,↓reduceIte,jA,jB,jC,enP,YU,f0,f5,jI];refine CV (fun hc=>?_) (fun hc=>?_)
 .have ha:i<a.length:=by simpa using hc
  have hbi:i<b.length:=by omega
  have hbl:=hb _ (jQ hbi);rw[ARV a b i ha hbi] at hf;simp -implicitDefEqProofs only[BC,BP,BO,A8];refine E8 (by kernel_rfl) ?_;simp -implicitDefEqProofs only[F6,EH,DT,EI,FT,FH,ADE,EF,GU,F9,AO,AA,AZ,BZ,BQ,IG,CE,AB,jD,jE,jF,↓reduceIte,jA,jM,jB,enP,OI,f0,f1,f5,DU ha,DF KP ha,OC,DU hbi,DF KP hbi];refine⟨_,ADU G a[i].l b[i].l _ _ _ (by omega),?_⟩
  try simp -implicitDefEqProofs only[DT,FB,BI,A8,AA,AZ,AB,FI,↓reduceIte]
  cases he:eqL a[i].l b[i].l
  .simp -implicitDefEqProofs only[BC,BA,BK,A8,CP,EE,FQ,CG,DI,AY,BB,AO,AQ,AL,BD,AX,AC,AA,AU,BM,A7,↓reduceIte,jB,jC]
   exact⟨by rw[hf,he]; rfl,trivial⟩
  .simp -implicitDefEqProofs only[BA,BO,A8,EJ,EQ,DR,AY,BB,AO,AQ,AL,BD,AX,AC,AA,AZ,AU,BH,BG,A7,BR,AB,C9,↓reduceIte,jA,jB,jR,jC,enP,f5,wrap_succ (show i<9223372036854775807 by omega)]
   exact⟨n-1,by omega,i+1,by omega,f0,f1,rfl,trivial,by rw[hf,he]; rfl⟩
 .have ha:¬i<a.length:=by simpa using hc
  simp -implicitDefEqProofs only[BC,BA,BK,DJ,A8,EG,EU,ET,CG,AY,BB,AO,AQ,AL,BD,AX,AC,AA,AU,BM,A7,↓reduceIte,jB,jC];exact⟨by rw[hf,jW (by omega),jW (by omega)]; rfl,trivial⟩
def eqV (a b:Cvr):Bool:=WO a.pts b.pts&&WO a.crs b.crs&&(a.sam==b.sam)&&(a.ill==b.ill)
theorem AP0 {a b:Cvr}:eqV a b=true↔OA a=OA b:=by
 unfold eqV OA;simp only[jV,AEW,beq_iff_eq,Dat.mk.injEq];exact⟨fun⟨⟨⟨h1,h2⟩,h3⟩,h4⟩=>⟨h1,h2,h3,h4⟩,fun⟨h1,h2,h3,h4⟩=>⟨⟨⟨h1,h2⟩,h3⟩,h4⟩⟩
structure VV (h H:Hp) (a b:Cvr) (bb:Nat):Prop where
 ga:H[h.length]?=some (.live 4 [ER a])
 gb:H[bb]?=some (.live 4 [ER b])
 hx:∃x,H=h++x
theorem VV.mk' (h:Hp)(a b:Cvr):VV h (h++[.live 4 [ER a]]++[.live 4 [ER b]]) a b (h++[ABlk.live 4 [ER a]]).length:=⟨CU (CX _ _),CX _ _,⟨_,zA _ _ _⟩⟩
section
variable {H:Hp} {v:Cvr} {vb:Nat} (gv:H[vb]?=some (.live 4 [ER v]))
include gv
theorem lv0:ED Tryz.prog H 26 (.ptr vb 0 0)=some (.sl v.pm 1 (v.pts.map encL)):=by rw[DX Q7 gv (row:=ER v) rfl,ALM]
theorem lv1:ED Tryz.prog H 26 (.ptr vb 0 1)=some (.sl v.cm 1 (v.crs.map encL)):=by rw[DX Q7 gv (row:=ER v) rfl,ALK]
theorem lv2:ED Tryz.prog H 3 (.ptr vb 0 2)=some (.int .i64 v.sam):=by rw[DX ag3 gv (row:=ER v) rfl,AP3]
theorem lv3:ED Tryz.prog H 3 (.ptr vb 0 3)=some (.int .i64 v.ill):=by rw[DX ag3 gv (row:=ER v) rfl,AP2]
end
theorem ATH (G:Nat->AV)(a b:Cvr)(h:Hp)(ha:CvOk a)(hb:CvOk b):PCall (En G) 36 [.agg (ER a),.agg (ER b)] h (.bool (eqV a b)):=by
 refine ACalls.pure0 rfl ?_;refine acN Tryz.func36 rfl ?_;show awp _ _ _ _ _ (EN _ [.tmp 4] _);have t:=VV.mk' h a b;simp -implicitDefEqProofs only[BC,BA,A8,AY,BB,AO,AQ,AL,BD,AX,AC,AA,AZ,AU,BM,A7,FU,BQ,BJ,BX,AB,BF,BN,↓reduceIte,jA,jK,jB,jC,enP,MJ,bxV]
 generalize h++[ABlk.live 4 [ER a]]++[ABlk.live 4 [ER b]]=H at t|-
 generalize (h++[ABlk.live 4 [ER a]]).length=bb at t|-
 simp -implicitDefEqProofs only[AY,AO,AQ,AL,BD,AX,AC,AA,AZ,BZ,BQ,BJ,CB,BU,AB,jD,jE,jF,↓reduceIte,jA,jK,jB,jC,enP,MJ,lv0 t.ga,lv0 t.gb];refine(ABY G _ _ _ _ _ ha.pts hb.eachP).use ?_;simp -implicitDefEqProofs only[AY,BL,BV,CO,AO,AQ,AL,BD,AX,AC,AA,AZ,BG,↓reduceIte,jB,jC];cases h1:WO a.pts b.pts
 .simp -implicitDefEqProofs only[BK,A8,CG,AY,BB,BL,BV,CO,IU,AO,AQ,AL,BD,AX,AC,AA,EW,AZ,AU,BM,BG,A7,CQ,DW,↓reduceIte,jA,jB,jC]
  exact⟨by unfold eqV; rw[h1]; rfl,t.hx⟩
 simp -implicitDefEqProofs only[BL,BV,CO,GH,AO,AQ,AL,BD,AX,AC,AA,AZ,BZ,BQ,BJ,CB,BU,AB,jD,jE,jF,↓reduceIte,jA,jG,jB,jC,enP,L6,lv1 t.ga,lv1 t.gb];refine(ABY G _ _ _ _ _ ha.crs hb.eachC).use ?_;simp -implicitDefEqProofs only[AY,BL,BV,CO,AO,AQ,AL,BD,AX,AC,AA,AZ,AU,BM,BG,CQ,DY,↓reduceIte,jA,jB,jC];cases h2:WO a.crs b.crs
 .simp -implicitDefEqProofs only[BK,A8,CG,AY,BB,BL,BV,CO,IU,AO,AQ,AL,BD,AX,AC,AA,EW,AZ,AU,BM,BG,A7,CQ,DW,↓reduceIte,jA,jB,jC]
  exact⟨by unfold eqV; rw[h1,h2]; rfl,t.hx⟩
 simp -implicitDefEqProofs only[AY,BL,BV,CO,GH,AO,AQ,AL,BD,AX,AC,AA,AZ,AU,BM,BG,CQ,DY,BQ,BR,BJ,AB,D7,↓reduceIte,jA,jG,jB,jC,enP,U9,lv2 t.ga,lv2 t.gb];cases h3:(a.sam==b.sam)
 .simp -implicitDefEqProofs only[BK,A8,CG,AY,BB,BL,BV,CO,IU,AO,AQ,AL,BD,AX,AC,AA,EW,AZ,AU,BM,A7,CQ,DW,↓reduceIte,jA,jB,jC]
  exact⟨by unfold eqV; rw[h1,h2,h3]; rfl,t.hx⟩
 simp -implicitDefEqProofs only[BK,A8,CG,AY,BB,BL,BV,CO,GH,AO,AQ,AL,BD,AX,AC,AA,AZ,AU,BM,A7,CQ,DY,BQ,BR,BJ,AB,D7,↓reduceIte,jA,jG,jB,jC,enP,WN,lv3 t.ga,lv3 t.gb];exact⟨by unfold eqV; rw[h1,h2,h3]; rfl,t.hx⟩
theorem ANJ {P:Program}{a t:Nat}{R:AV->Hp->Prop}{F:Fr}{h:Hp}{x:AV}{b:Nat}(hF:F a=.ptr b 0 0)(h1:ED P h t (.ptr b 0 0)=some x):EN P [.cell a t] R .ret F h=R x h:=by simp [EN,ABE,TM,hF,h1]
theorem AVF {P:Program}{a t b u:Nat}{R:AV->Hp->Prop}{F:Fr}{h:Hp}{x y:AV}{ba bb:Nat}(hF:F a=.ptr ba 0 0)(hG:F b=.ptr bb 0 0)(h1:ED P h t (.ptr ba 0 0)=some x)(h2:ED P h u (.ptr bb 0 0)=some y):EN P [.cell a t,.cell b u] R .ret F h=R (.tup [x,y]) h:=by simp [EN,ABE,QU,TM,hF,hG,h1,h2]
theorem TI {P:Program}{a t b u c:Nat}{R:AV->Hp->Prop}{F:Fr}{h:Hp}{x y:AV}{ba bb:Nat}(hF:F a=.ptr ba 0 0)(hG:F b=.ptr bb 0 0)(h1:ED P h t (.ptr ba 0 0)=some x)(h2:ED P h u (.ptr bb 0 0)=some y):EN P [.cell a t,.cell b u,.tmp c] R .ret F h=R (.tup [x,y,F c]) h:=by simp [EN,ABE,QU,TM,hF,hG,h1,h2]
theorem N9 {P:Program}{a t c:Nat}{R:AV->Hp->Prop}{F:Fr}{h:Hp}{x:AV}{ba:Nat}(hF:F a=.ptr ba 0 0)(h1:ED P h t (.ptr ba 0 0)=some x):EN P [.cell a t,.tmp c] R .ret F h=R (.tup [x,F c]) h:=by simp [EN,ABE,QU,TM,hF,h1]
def fzG {α:Type}(k:Nat)(f:α->List AV)(ys:List α):AV:=match ys with
 | []=>.sl .nil 0 []
 | _=>.sl .any k (ys.map f)
theorem SC {α:Type}{k:Nat}{f:α->List AV}{h H:Hp}{ys:List α}{v:AV}(hf:Frz f)(ho:outG k f h ys v H)(n d:Nat)(hn:n<=h.length):IX n H (d+2) v=fzG k f ys:=by
 rcases ho with⟨rfl,rfl⟩|⟨hne,o,h2,rfl,h3⟩
 .rfl
 .rw[ZV hf (zY hn h2) h3]
  cases ys with
  | nil=>exact absurd rfl hne
  | cons _ _=>rfl
theorem TT {α:Type}{k:Nat}{f:α->List AV}{ys:List α}:CvR (fzG k f ys) (.sl (nm ys) k (ys.map f)):=by
 cases ys with
 | nil=>exact CvR.sl (Cv.nil 0 k)
 | cons y ys=>exact CvR.refl _
theorem outG.app2 {P:Program}{t e:TypeId}{α:Type}{k bs:Nat}{f:α->List AV}{h H:Hp}{ys:List α}{v:AV}(ho:outG k f h ys v H)(hu:P.underlying t=some (.slice e))(hs:szO P e=some k)(hz:TW P e=some k)(hb:NE P e=some bs)(hbs:bs<=4194304)(hl:ys.length<8388608)(he:h.length<=H.length)(y:α) :
  ∃v' H',G8 P true H t t v (.sl .full k [f y])=some (v',H')∧outG k f h (ys++[y]) v' H'∧(∀b x,H[b]?=some x->¬isB v b->H'[b]?=some x)∧H'.length=H.length+1∧(∀b,isB v' b->b=H.length)∧(∃o l,v'=.own o 0 l)∧∀e:Hp,e.length<=h.length->ext e H->ext e H':=by
 have h1:([f y]:List (List AV))≠[]:=by simp
 rcases ho with⟨rfl,rfl⟩|⟨hne,o,h2,rfl,h3⟩
 .exact⟨_,_,VE hu hs hz hb (J3 H .full k [f y]) h1 (JM (by simp) hbs),.inr ⟨by simp,H.length,he,rfl,by simp⟩,fun b x hb _=>FZ hb,by simp,fun b hb=>hb.symm,⟨_,_,rfl⟩,fun e _ hx=>hx.app _⟩
 .have hc:KI H (.own o 0 ys.length)=some (k,ys.map f):=by
   rw[O0 h3 (by simp),qE,jX (by simp)]
  refine⟨_,_,VD hu hs hz hb hc (J3 H .full k [f y]) h1 (JM (by simp; omega) hbs),.inr ⟨by simp,H.length,he,by simp,by simp⟩,fun b x hb hn=>?_,by simp,fun b hb=>hb.symm,⟨_,_,rfl⟩,fun e hl hx=>(hx.set (zY hl h2) _).app _⟩;have hn':¬o=b:=hn;refine FZ ?_;rw[List.getElem?_set,if_neg hn']; exact hb
theorem O6 {P:Program}{H:Hp}{t b k j:Nat}{row cs:List AV}{v:AV}(hc:JU v=some cs)(hs:szO P t=some cs.length)(hb:H[b]?=some (.live k [row]))(hl:j+cs.length<=row.length):FX P H t (.ptr b 0 j) v=some (H.set b (.live k [splice row j cs])):=by
 rw[KY (i:=0) hc hs hb rfl hl]; rfl
theorem mkF (h:Hp)(n:Nat)(hn:n<=1048576):I8 Tryz.prog false h 57 (.int .i64 (n:Int)) (.int .i64 (n:Int))=some (.sl .full 1 ((zeros n).map encI),h):=by
 have hz:NY Tryz.prog 3=some [.int .i64 0]:=by kernel_rfl
 have hr:room n 8:=JM (by omega) (by omega);unfold I8;simp only[UA,sz3,WS,hz,wE];rw[if_pos ⟨by omega,Int.le_refl _,hr,rfl⟩];simp [zeros,encI]
structure Tk where
 m:SM
 last:List Is
def KL (t:Tk):List AV:=[.sl t.m 1 (t.last.map encL)]
theorem ALN (t:Tk):(KL t).length=1:=rfl
def zT:Tk:=⟨.nil,[]⟩
def zV:Cvr:=⟨.nil,[],.nil,[],0,0⟩
def zLs (m:Mo):List Is:=m.pts.map fun _=>⟨.nil,[]⟩
def FY:List AV:=[.sl .nil 0 []]
theorem A1Z {α:Type}:Frz (fun _:α=>FY):=fun _ _ _ _=>⟨rfl,rfl⟩
theorem AYB:CvRow FY (encL ⟨.nil,[]⟩):=CvRow.cons rfl (Cv.nil 0 1) CvRow.nil
theorem APD {α:Type}{s:SM}(xs:List α):Cv (.sl s 1 (xs.map fun _=>FY)) (.sl s 1 ((xs.map fun _=>(⟨.nil,[]⟩:Is)).map encL)):=by
 rw[List.map_map];exact Cv.map fun _ _=>AYB
theorem AJL:CvR (.agg [.sl .nil 0 [],.sl .nil 0 [],.int .i64 0,.int .i64 0]) (.agg (ER zV)):=CvR.agg (CvRL.cons (CvR.sl (Cv.nil 0 1)) (CvRL.cons (CvR.sl (Cv.nil 0 1)) (CvRL.cons (CvR.refl _) (CvRL.cons (CvR.refl _) CvRL.nil))))
theorem A2K:CvR (.agg [.sl .nil 0 []]) (.agg (KL zT)):=CvR.agg (CvRL.cons (CvR.sl (Cv.nil 0 1)) CvRL.nil)
def FD:List AV:=[.sl .nil 0 [],.sl .nil 0 [],.int .i64 0,.int .i64 0]
theorem KF (h:Hp):KQ Tryz.prog h 28=some (.ptr h.length 0 0,h++[.live 4 [FD]]):=KE (row:=FD) (by kernel_rfl)
theorem VS (h:Hp):KQ Tryz.prog h 47=some (.ptr h.length 0 0,h++[.live 1 [FY]]):=KE (row:=FY) (by kernel_rfl)
theorem QL:LQ Tryz.prog 28 []=some (.agg FD):=by kernel_rfl
theorem ACB:LQ Tryz.prog 47 []=some (.agg FY):=by kernel_rfl
theorem stV {H:Hp}{b:Nat}{row:List AV}{v:Cvr}(hb:H[b]?=some (.live 4 [row]))(hr:row.length=4):FX Tryz.prog H 28 (.ptr b 0 0) (.agg (ER v))=some (H.set b (.live 4 [ER v])):=by
 rw[O6 (cs:=ER v) rfl ACK hb (by rw[hr]; exact jL 4)];have:splice row 0 (ER v)=ER v:=by unfold splice; simp [Z4,hr]
 rw[this]
theorem stZ {H:Hp}{b:Nat}{row:List AV}(hb:H[b]?=some (.live 4 [row]))(hr:row.length=4):FX Tryz.prog H 28 (.ptr b 0 0) (.agg FD)=some (H.set b (.live 4 [FD])):=by
 rw[O6 (cs:=FD) rfl ACK hb (by rw[hr]; exact jL 4)];have:splice row 0 FD=FD:=by unfold splice; simp [FD,hr]
 rw[this]
theorem stT {H:Hp}{b:Nat}{row:List AV}{t:Tk}(hb:H[b]?=some (.live 1 [row]))(hr:row.length=1):FX Tryz.prog H 47 (.ptr b 0 0) (.agg (KL t))=some (H.set b (.live 1 [KL t])):=by
 rw[O6 (cs:=KL t) rfl AS8 hb (by rw[hr]; exact jL 1)];have:splice row 0 (KL t)=KL t:=by unfold splice; rw[ALN,zQ,jW (by omega)]; simp
 rw[this]
theorem ABR {H:Hp}{b:Nat}{row:List AV}(hb:H[b]?=some (.live 1 [row]))(hr:row.length=1):FX Tryz.prog H 47 (.ptr b 0 0) (.agg FY)=some (H.set b (.live 1 [FY])):=by
 rw[O6 (cs:=FY) rfl AS8 hb (by rw[hr]; exact jL 1)];have:splice row 0 FY=FY:=by unfold splice; rw[zQ,jW (by rw[hr]; exact jL 1)]; simp
 rw[this]
theorem ldT {h:Hp}{b:Nat}{t:Tk}(hb:h[b]?=some (.live 1 [KL t])):ED Tryz.prog h 47 (.ptr b 0 0)=some (.agg (KL t)):=by
 rw[J4 A43 AS8 hb rfl (by rw[ALN]; exact jL 1)]; rfl
theorem JI {h:Hp}{b:Nat}{row:List AV}(hb:h[b]?=some (.live 4 [row]))(hr:row.length=4):ED Tryz.prog h 28 (.ptr b 0 0)=some (.agg row):=by
 rw[J4 AWP ACK hb rfl (by rw[hr]; exact jL 4),qE,jX (by omega)]
theorem N8 {h:Hp}{b:Nat}{row:List AV}(hb:h[b]?=some (.live 1 [row]))(hr:row.length=1):ED Tryz.prog h 47 (.ptr b 0 0)=some (.agg row):=by
 rw[J4 A43 AS8 hb rfl (by rw[hr]; exact jL 1),qE,jX (by omega)]
theorem AQ4 {ns:List Nat}(h:∀n∈ns,1<=n):1<=GK ns:=AD2 ns 0 h
theorem AIM {α:Type}{ok:α->Is->Bool}:∀ {ws:List α} {xs:List Is},JY ok ws xs=true->∀x∈xs,∃a∈ws,ok a x=true
 | [],[],_,x,hx=>by cases hx
 | a::ws,y::xs,h,x,hx=>by
   simp only[JY,jV] at h;rcases List.mem_cons.1 hx with rfl|hx
   .exact⟨a,by simp,h.1⟩
   .obtain⟨b,hb,hk⟩:=AIM h.2 x hx
    exact⟨b,by simp [hb],hk⟩
 | [],_::_,h,_,_=>by cases h
 | _::_,[],h,_,_=>by cases h
theorem AHW {m:Mo}{v:Cvr}(h:G5 m v=true):v.pts.length=m.pts.length∧v.crs.length=m.crs.length∧(∀x∈v.pts,1<=x.l.length∧x.l.length<=64)∧(∀x∈v.crs,1<=x.l.length∧x.l.length<=256):=by
 have hg:=LV (NS h);rw[J5] at h;obtain⟨_,h2,h3,_,_⟩:=h;refine⟨(NT h2).symm,(NT h3).symm,fun x hx=>?_,fun x hx=>?_⟩
 .obtain⟨p,hp,hk⟩:=AIM h2 x hx
  have:=hg.full p hp;rw[AH3 hk]; exact this
 .obtain⟨c,hc,hk⟩:=AIM h3 x hx
  have hcg:=hg.crs c hc;have hs:=hg.full.szs hcg.here;rw[AH4 hk];exact⟨AQ4 fun n hn=>(hs n hn).1,hcg.prod⟩
theorem XR {m:Mo}{v:Cvr}(h:G5 m v=true):CvOk v:=by
 have hn:=(LV (NS h)).num;obtain⟨h1,h2,h3,h4⟩:=AHW h;exact⟨by omega,by omega,fun x hx=>by have:=h3 x hx; omega,fun x hx=>by have:=h4 x hx; omega⟩
theorem ATG {α:Type}{ok:α->Is->Bool}{n:α->Nat}(hok:∀a x,ok a x=true->x.l.length=n a∧WL x.l){ws:List α}{a b:List Is}(ha:JY ok ws a=true)(hb:JY ok ws b=true)(hr:∀x∈a,1<=x.l.length∧x.l.length<=256)(hl:a.length<=1048576):Sh2 a b:=by
 have h1:=NT ha;have h2:=NT hb;refine⟨by omega,fun i hi hj=>?_,hl⟩;have hw:i<ws.length:=by omega
 obtain⟨x,hx,kx⟩:=UN ha i ws[i] (jS hw);obtain⟨y,hy,ky⟩:=UN hb i ws[i] (jS hw);rw[jS hi] at hx;rw[jS hj] at hy;cases hx; cases hy;have q:=hr _ (jQ hi);refine⟨by rw[(hok _ _ kx).1,(hok _ _ ky).1],fun e=>?_,(hok _ _ kx).2,(hok _ _ ky).2,by omega⟩;rw[e] at q; simp at q
theorem AXN {m:Mo}{a b:Cvr}(ha:G5 m a=true)(hb:G5 m b=true):Sh2 a.pts b.pts:=by
 have hr:=AHW ha;have hn:=(LV (NS ha)).num;exact ATG (n:=fun p:Pt=>p.bins.length) (fun _ _ h=>⟨AH3 h,YQ h⟩) (J5.1 ha).2.1 (J5.1 hb).2.1 (fun x hx=>by have:=hr.2.2.1 x hx; omega) (by omega)
theorem AXO {m:Mo}{a b:Cvr}(ha:G5 m a=true)(hb:G5 m b=true):Sh2 a.crs b.crs:=by
 have hr:=AHW ha;have hn:=(LV (NS ha)).num;exact ATG (n:=fun c:Cr=>GK (szs m c.pts)) (fun _ _ h=>⟨AH4 h,YR h⟩) (J5.1 ha).2.2.1 (J5.1 hb).2.2.1 (fun x hx=>hr.2.2.2 x hx) (by omega)
def AZW (m:Mo)(l:List Cvr):Cvr:=l.foldl SS (JJ m)
def VR (m:Mo)(l:List Cvr):Int:=if EY m=0 then (if l.all (G5 m)=true then 0 else 1) else EY m
def Y6 (m:Mo)(l:List Cvr):Cvr:=if VR m l=0 then AZW m l else zV
theorem XV {m:Mo}{l:List Cvr}:VR m l=0↔EY m=0∧∀v∈l,G5 m v=true:=by
 unfold VR;split
 .rename_i h
  split
  .rename_i h2
   exact⟨fun _=>⟨h,zI.1 h2⟩,fun _=>rfl⟩
  .rename_i h2
   exact⟨fun e=>by omega,fun e=>absurd (zI.2 e.2) h2⟩
 .rename_i h
  exact⟨fun e=>absurd e h,fun e=>absurd e.1 h⟩
theorem AA3 {m:Mo}:∀(l:List Cvr) (c:Cvr),G5 m c=true->(∀v∈l,G5 m v=true)->G5 m (l.foldl SS c)=true
 | [],_,h,_=>h
 | v::l,c,h,hl=>AA3 l (SS c v) (UL h (hl v (by simp))) fun w hw=>hl w (by simp [hw])
theorem ASE {m:Mo}{l:List Cvr}(h:VR m l=0):G5 m (Y6 m l)=true:=by
 have:=XV.1 h;unfold Y6;rw[if_pos h];exact AA3 l _ (MO this.1) this.2
theorem AZE {m:Mo}{a b:Cvr}(h:VR m [a,b]=0):OA (Y6 m [a,b])=X4 (OA a) (OA b):=by
 have h1:=(XV.1 h).2 a (by simp);unfold Y6 AZW;rw[if_pos h];simp only[List.foldl_cons,List.foldl_nil,Z9,XW h1]
theorem AWL {m:Mo}{a b:Cvr}(ha:G5 m a=true)(hb:G5 m b=true):VR m [a,b]=0:=XV.2 ⟨NS ha,fun v hv=>by
 simp at hv; rcases hv with rfl|rfl<;>assumption⟩
theorem outG.setB {α:Type}{k:Nat}{f:α->List AV}{h H:Hp}{ys:List α}{v:AV}{b:Nat}(ho:outG k f h ys v H)(hb:b<h.length)(y:ABlk):outG k f h ys v (H.set b y) :=
 ho.keep fun b' hb'=>by
  have:=ho.lt hb';rw[List.getElem?_set_ne (by omega)]
theorem outG.keepA {α:Type}{k:Nat}{f:α->List AV}{h H H':Hp}{ys:List α}{v u:AV}(ho:outG k f h ys v H)(hk:∀b x,H[b]?=some x->¬isB u b->H'[b]?=some x)(hd:∀b,isB v b->¬isB u b):outG k f h ys v H':=by
 rcases ho with h1|⟨h1,o,h2,rfl,h3⟩
 .exact .inl h1
 .exact .inr ⟨h1,o,h2,rfl,hk _ _ h3 (hd o rfl)⟩
theorem outG.leaf {α:Type}{k:Nat}{f:α->List AV}{h H:Hp}{ys:List α}{v:AV}(ho:outG k f h ys v H):v.leaf=true:=by
 rcases ho with⟨_,rfl⟩|⟨_,o,_,rfl,_⟩<;>rfl
theorem outG.base {α:Type}{k:Nat}{f:α->List AV}{h h' H:Hp}{ys:List α}{v:AV}(ho:outG k f h ys v H)(hl:h'.length<=h.length):outG k f h' ys v H:=by
 rcases ho with h1|⟨h1,o,h2,rfl,h3⟩
 .exact .inl h1
 .exact .inr ⟨h1,o,zY hl h2,rfl,h3⟩
def IB (v1 v2:AV):List AV:=[v1,v2,.int .i64 0,.int .i64 0]
structure Em (h H:Hp) (m:Mo) (b2 b3 b4 b5:Nat) (v1 v2 v3:AV):Prop where
 gm:H[h.length]?=some (.live 2 [D5 m])
 g2:H[b2]?=some (.live 4 [FD])
 g3:H[b3]?=some (.live 1 [FY])
 g4:H[b4]?=some (.live 4 [IB v1 v2])
 g5:H[b5]?=some (.live 1 [[v3]])
 o2:h.length<b2
 o3:b2<b3
 o4:b3<b4
 o5:b4<b5
 hx:ext h H
section
variable {h H:Hp} {m:Mo} {b2 b3 b4 b5:Nat} {v1 v2 v3:AV} (E:Em h H m b2 b3 b4 b5 v1 v2 v3)
include E
theorem Em.m0:ED Tryz.prog H 22 (.ptr h.length 0 0)=some (.sl m.pm 6 (m.pts.map GL)):=by rw[DX WV E.gm (row:=D5 m) rfl,QJ]
theorem Em.m1:ED Tryz.prog H 23 (.ptr h.length 0 1)=some (.sl m.cm 3 (m.crs.map GG)):=by rw[DX ABH E.gm (row:=D5 m) rfl,UO]
theorem Em.l4:ED Tryz.prog H 26 (.ptr b4 0 0)=some v1:=by rw[DX Q7 E.g4 (row:=IB v1 v2) rfl]; rfl
theorem Em.l4':ED Tryz.prog H 26 (.ptr b4 0 1)=some v2:=by rw[DX Q7 E.g4 (row:=IB v1 v2) rfl]; rfl
theorem Em.l5:ED Tryz.prog H 26 (.ptr b5 0 0)=some v3:=by rw[DX Q7 E.g5 (row:=[v3]) rfl]; rfl
theorem Em.app (x:Hp):Em h (H++x) m b2 b3 b4 b5 v1 v2 v3:=⟨FZ E.gm,FZ E.g2,FZ E.g3,FZ E.g4,FZ E.g5,E.o2,E.o3,E.o4,E.o5,E.hx.app _⟩
theorem Em.keep {H':Hp}{u:AV}(hk:∀b x,H[b]?=some x->¬isB u b->H'[b]?=some x)(hu:∀b,isB u b->b5<b)(hx:ext h H->ext h H'):Em h H' m b2 b3 b4 b5 v1 v2 v3:=by
 have o2:=E.o2; have o3:=E.o3; have o4:=E.o4; have o5:=E.o5;exact⟨hk _ _ E.gm (fun e=>by have:=hu _ e; omega),hk _ _ E.g2 (fun e=>by have:=hu _ e; omega),hk _ _ E.g3 (fun e=>by have:=hu _ e; omega),hk _ _ E.g4 (fun e=>by have:=hu _ e; omega),hk _ _ E.g5 (fun e=>by have:=hu _ e; omega),o2,o3,o4,o5,hx E.hx⟩
theorem Em.set4 (w1 w2:AV):Em h (H.set b4 (.live 4 [IB w1 w2])) m b2 b3 b4 b5 w1 w2 v3:=by
 have o2:=E.o2; have o3:=E.o3; have o4:=E.o4; have o5:=E.o5;exact⟨CW E.gm (by omega),CW E.g2 (by omega),CW E.g3 (by omega),EC E.g4,CW E.g5 (by omega),o2,o3,o4,o5,E.hx.set (by omega) _⟩
theorem Em.set5 (w3:AV):Em h (H.set b5 (.live 1 [[w3]])) m b2 b3 b4 b5 v1 v2 w3:=by
 have o2:=E.o2; have o3:=E.o3; have o4:=E.o4; have o5:=E.o5;exact⟨CW E.gm (by omega),CW E.g2 (by omega),CW E.g3 (by omega),CW E.g4 (by omega),EC E.g5,o2,o3,o4,o5,E.hx.set (by omega) _⟩
theorem Em.s4 {o l:Nat}:FX Tryz.prog H 26 (.ptr b4 0 0) (.own o 0 l)=some (H.set b4 (.live 4 [IB (.own o 0 l) v2])):=O6 (row:=IB v1 v2) (Y9 _ _ _) AMJ E.g4 (by simp [IB])
theorem Em.s4' {o l:Nat}:FX Tryz.prog H 26 (.ptr b4 0 1) (.own o 0 l)=some (H.set b4 (.live 4 [IB v1 (.own o 0 l)])):=O6 (row:=IB v1 v2) (Y9 _ _ _) AMJ E.g4 (by simp [IB])
theorem Em.s5 {o l:Nat}:FX Tryz.prog H 26 (.ptr b5 0 0) (.own o 0 l)=some (H.set b5 (.live 1 [[.own o 0 l]])):=O6 (row:=[v3]) (Y9 _ _ _) AMJ E.g5 (by simp)
theorem Em.lt:b5<H.length:=CJ E.g5
end
theorem Em.mk' (h:Hp)(m:Mo):Em h (h++[ABlk.live 2 [D5 m]]++[ABlk.live 4 [FD]]++[ABlk.live 1 [FY]]++[ABlk.live 4 [FD]]++[ABlk.live 1 [FY]]) m (h++[ABlk.live 2 [D5 m]]).length (h++[ABlk.live 2 [D5 m]]++[ABlk.live 4 [FD]]).length
  (h++[ABlk.live 2 [D5 m]]++[ABlk.live 4 [FD]]++[ABlk.live 1 [FY]]).length (h++[ABlk.live 2 [D5 m]]++[ABlk.live 4 [FD]]++[ABlk.live 1 [FY]]++[ABlk.live 4 [FD]]).length (.sl .nil 0 []) (.sl .nil 0 []) (.sl .nil 0 []) :=
 ⟨CU (CU (CU (CU (CX _ _)))),CU (CU (CU (CX _ _))),CU (CU (CX _ _)),CU (CX _ _),CX _ _,by simp,by simp,by simp,by simp,((((ext.rfl' h).app _).app _).app _).app _ |>.app _⟩
theorem A0T (h:Hp):FO Tryz.prog false h 26 1 [(0,.sl .nil 0 [])]=some (.sl .full 1 [FY],h):=by kernel_rfl
theorem AJM (m:Mo)(i:Nat)(hi:i<m.pts.length):(zPs m).take (i+1)=(zPs m).take i++[zIs m.pts[i].bins.length]:=by
 have hl:i<(zPs m).length:=by unfold zPs; simpa using hi
 rw[zL hl]; simp [zPs]
theorem AJN (m:Mo)(i:Nat)(hi:i<m.crs.length):(zCs m).take (i+1)=(zCs m).take i++[zIs (GK (szs m m.crs[i].pts))]:=by
 have hl:i<(zCs m).length:=by unfold zCs; simpa using hi
 rw[zL hl]; simp [zCs]
theorem ACT (m:Mo):(zPs m).length=m.pts.length:=by simp [zPs]
theorem ACU (m:Mo):(zCs m).length=m.crs.length:=by simp [zCs]
theorem ANK {E:Env}{f:FuncId}{args:List AV}{h:Hp}{m:Mo}(hc:ACalls E f args h fun v H=>ext h H∧∃v1 v2 v3,v=.tup [.agg (IB v1 v2),.agg [v3]]∧outG 1 encL h (zPs m) v1 H∧outG 1 encL h (zCs m) v2 H∧outG 1 (fun _:Pt=>FY) h m.pts v3 H) :
  PCall E f args h (.tup [.agg (ER (JJ m)),.agg (KL ⟨nm (zLs m),zLs m⟩)]):=by
 have hp:PCall E f args h (.tup [.agg (IB (fzG 1 encL (zPs m)) (fzG 1 encL (zCs m))),.agg [fzG 1 (fun _:Pt=>FY) m.pts]]):=by
  refine ACalls.pure 4 hc ?_;rintro v H ⟨he,v1,v2,v3,rfl,o1,o2,o3⟩;refine⟨he,?_⟩;have e1:=SC AU2 o1 h.length 0 (jL _);have e2:=SC AU2 o2 h.length 0 (jL _);have e3:=SC A1Z o3 h.length 0 (jL _);show AV.tup [.agg [IX h.length H 2 v1,IX h.length H 2 v2,.int .i64 0,.int .i64 0],.agg [IX h.length H 2 v3]]=_;rw[e1,e2,e3]; rfl
 refine hp.res (CvR.tup (CvRL.cons (CvR.agg (CvRL.cons TT (CvRL.cons TT (CvRL.refl _)))) (CvRL.cons (CvR.agg (CvRL.cons ?_ CvRL.nil)) CvRL.nil)));have h1:CvR (fzG 1 (fun _:Pt=>FY) m.pts) (.sl (nm m.pts) 1 (m.pts.map fun _=>FY)):=TT;have h2:=CvR.sl (APD (s:=nm m.pts) m.pts);have h3:nm (zLs m)=nm m.pts:=by unfold zLs; cases m.pts<;>rfl
 intro g cv hr;have:=h2 g cv (h1 g cv hr);rw[h3]; exact this
theorem ADQ {H:Hp}{b:Nat}{row:List AV}{v1 v2:AV}(hb:H[b]?=some (.live 4 [row]))(hr:row.length=4)(h1:v1.leaf=true)(h2:v2.leaf=true):FX Tryz.prog H 28 (.ptr b 0 0) (.agg (IB v1 v2))=some (H.set b (.live 4 [IB v1 v2])):=by
 rw[O6 (cs:=IB v1 v2) (TV (by simp [IB,h1,h2]; rfl)) ACK hb (by rw[hr]; exact jL 4)];have:splice row 0 (IB v1 v2)=IB v1 v2:=by unfold splice; rw[zQ,jW (by rw[hr]; exact jL 4)]; simp
 rw[this]
theorem AGF {H:Hp}{b:Nat}{row:List AV}{v3:AV}(hb:H[b]?=some (.live 1 [row]))(hr:row.length=1)(h3:v3.leaf=true):FX Tryz.prog H 47 (.ptr b 0 0) (.agg [v3])=some (H.set b (.live 1 [[v3]])):=by
 rw[O6 (cs:=[v3]) (TV (by simp [h3])) AS8 hb (by rw[hr]; exact jL 1)];have:splice row 0 [v3]=[v3]:=by unfold splice; rw[zQ,jW (by rw[hr]; exact jL 1)]; simp
 rw[this]
set_option maxHeartbeats 2000000 in
theorem ANL (G:Nat->AV)(m:Mo)(hm:MoOk m)(hg:Good m)(h:Hp):PCall (En G) 127 [.agg (D5 m)] h (.tup [.agg (ER (JJ m)),.agg (KL ⟨nm (zLs m),zLs m⟩)]):=by
 refine ANK ?_;have hm1:=hm.np;have hm2:=hm.nc;have hnum:=hg.num;refine ND (H:=hint [24,47] []) (enM G) Tryz.func127 rfl (by kernel_rfl) (by kernel_rfl) (jH (by kernel_rfl)) ?_;show awp _ _ _ _ _ (EN _ [.cell 2 28,.cell 3 47] _);have E:=Em.mk' h m;simp -implicitDefEqProofs only[DC,jU,jJ,jO,jT,BC,BA,A8,AY,BB,AL,BD,AX,AC,AA,AZ,EX,FU,BQ,BJ,BX,AB,BF,↓reduceIte,jA,jK,jB,jC,enP,IP,D8,bxM,KF,VS]
 generalize h++[ABlk.live 2 [D5 m]]++[ABlk.live 4 [FD]]++[ABlk.live 1 [FY]]++[ABlk.live 4 [FD]]++[ABlk.live 1 [FY]]=H0 at E|-
 generalize (h++[ABlk.live 2 [D5 m]]++[ABlk.live 4 [FD]]++[ABlk.live 1 [FY]]++[ABlk.live 4 [FD]]).length=b5 at E|-
 generalize (h++[ABlk.live 2 [D5 m]]++[ABlk.live 4 [FD]]++[ABlk.live 1 [FY]]).length=b4 at E|-
 generalize (h++[ABlk.live 2 [D5 m]]++[ABlk.live 4 [FD]]).length=b3 at E|-
 generalize (h++[ABlk.live 2 [D5 m]]).length=b2 at E|-
 have o2:=E.o2; have o3:=E.o3; have o4:=E.o4; have o5:=E.o5;have hlt0:=E.lt;simp -implicitDefEqProofs only[DC,jU,jJ,jO,jT,BP,A8,AY,BB,AL,BD,AX,AC,AA,AZ,AU,BH,BG,DZ,AB,↓reduceIte,jB,jC,enP,QZ,D8,E.m0,jI];refine GM 0 (fun F H=>∃v1 v3,F 1=.ptr h.length 0 0∧F 2=.ptr b2 0 0∧F 3=.ptr b3 0 0∧F 4=.ptr b4 0 0∧F 5=.ptr b5 0 0∧Em h H m b2 b3 b4 b5 v1 (.sl .nil 0 []) v3∧outG 1 encL H0 (zPs m) v1 H∧outG 1 (fun _:Pt=>FY) H0 m.pts v3 H∧(∀b,isB v1 b->¬isB v3 b)∧H0.length<=H.length) (fun _ _=>False) ?_ ?_ (fun _ _ hh=>hh.elim)
 .refine DK (fun n F H=>∃i v1 v3,n+i=m.pts.length∧F 1=.ptr h.length 0 0∧F 2=.ptr b2 0 0∧F 3=.ptr b3 0 0∧F 4=.ptr b4 0 0∧F 5=.ptr b5 0 0∧F 11=.sl m.pm 6 (m.pts.map GL)∧F 12=.int .i64 m.pts.length∧F 13=.int .i64 (i:Nat)∧Em h H m b2 b3 b4 b5 v1 (.sl .nil 0 []) v3∧outG 1 encL H0 ((zPs m).take i) v1 H∧outG 1 (fun _:Pt=>FY) H0 (m.pts.take i) v3 H∧(∀b,isB v1 b->¬isB v3 b)∧H0.length<=H.length) m.pts.length
   ⟨0,_,_,by simp,by simp -implicitDefEqProofs only[AA,↓reduceIte,jA],by simp -implicitDefEqProofs only[AA,↓reduceIte,jA],by simp -implicitDefEqProofs only[AA,↓reduceIte,jA],by simp -implicitDefEqProofs only[AA,↓reduceIte,jA],by simp -implicitDefEqProofs only[AA,↓reduceIte,jA],by simp -implicitDefEqProofs only[AA,↓reduceIte,jA],by simp -implicitDefEqProofs only[AA,↓reduceIte,jA],by simp -implicitDefEqProofs only[AA,↓reduceIte]; rfl,E,by rw[zQ]; exact outG.nil _ _ _ _,by rw[zQ]; exact outG.nil _ _ _ _,fun b hb=>hb.elim,jL _⟩ ?_
  clear E;rintro n F H ⟨i,v1,v3,hi,f1,f2,f3,f4,f5,f11,f12,f13,E,ho1,ho3,hdis,hle⟩;simp -implicitDefEqProofs only[DC,jU,jJ,jO,jT,BC,BA,BI,A8,AY,BB,AL,BD,AX,AC,AA,AZ,BR,AB,CZ,↓reduceIte,jB,jC,enP,D8,f12,f13];refine CV (fun hc=>?_) (fun hc=>?_)
  .have hi':i<m.pts.length:=by simpa using hc
   have h64:=(hg.full _ (jQ hi')).2;have hP:=AJM m i hi';simp -implicitDefEqProofs only[DC,jU,jJ,jO,jT,BC,BP,BA,BO,A8,AY,BB,AL,BD,AX,AC,EM,AA,AZ,EX,BQ,D6,CE,BX,AB,CY,↓reduceIte,jA,jB,jC,enP,S9,D8,jP,f11,f13,DU hi',FM ACR ZH JR hi',ASG,AQQ _ _ [.str ⟨#[]⟩,.int .i64 0,.int .i64 0,.str ⟨#[]⟩,.sl .nil 0 [],.sl .nil 0 []] rfl];have E1:=E.app [.live 6 [GL m.pts[i]]];obtain⟨v1',H2,hap,ho1',hk1,hl2,hn1,⟨o,l,rfl⟩,hx2⟩:=(ho1.app [.live 6 [GL m.pts[i]]]).app2 AAO VY ADC ABB (by omega) (by rw[zD,ACT]; omega) (by simp; omega) (zIs m.pts[i].bins.length);rw[<-hP] at ho1';have E2:=E1.keep hk1 (fun b hb=>by have:=ho1.lt hb; omega) (hx2 h (by omega));have E3:=E2.set4 (.own o 0 l) (.sl .nil 0 []);have ho3':=((ho3.app [.live 6 [GL m.pts[i]]]).keepA hk1 (fun b hb h1=>hdis b h1 hb)).setB (b:=b4) (by omega) (.live 4 [IB (.own o 0 l) (.sl .nil 0 [])]);have ho1'':=ho1'.setB (b:=b4) (by omega) (.live 4 [IB (.own o 0 l) (.sl .nil 0 [])])
   have hdis':∀b,isB (.own o 0 l) b->¬isB v3 b:=fun b hb h3=>by
    have h1:=hn1 b hb;have h2:=ho3.lt h3;simp at h1; omega
   refine E8 (by kernel_rfl) ?_;simp -implicitDefEqProofs only[F6,EZ,FW,DC,jU,jJ,jO,jT,EH,DT,EI,KH,FH,LU,D9,IW,AA,AZ,EP,BQ,JH,BJ,DZ,GR,BX,AB,↓reduceIte,jA,jM,jK,jG,jB,enP,MJ,RZ,I9,f4,E1.l4,DL SQ,NU,jI,mkF _ _ (show m.pts[i].bins.length<=1048576 by omega),AHB];refine H9 (v:=.own o 0 l) (h:=H2) hap ?_;simp -implicitDefEqProofs only[F6,DC,jU,jJ,jO,jT,EH,DT,JZ,FB,EI,JV,D9,BA,A8,AY,AL,BD,AX,AC,AA,AZ,BQ,D6,BJ,AB,CY,↓reduceIte,jA,jM,jK,jG,jB,jC,enP,MJ,SG,D8,jP,f4,f5,E2.s4];have hl3:(H2.set b4 (.live 4 [IB (.own o 0 l) (.sl .nil 0 [])])).length=H.length+2:=by rw[qI,hl2,zW]; rfl
   generalize H2.set b4 (.live 4 [IB (.own o 0 l) (.sl .nil 0 [])])=H3 at E3 ho3' ho1'' hl3|-
   obtain⟨v3',H4,hap3,ho3'',hk3,hl4,hn3,⟨o3',l3,rfl⟩,hx4⟩:=ho3'.app2 AAO VY ADC ABB (by omega) (by rw[zD]; omega) (by omega) m.pts[i];rw[<-zL hi'] at ho3'';have E4:=E3.keep hk3 (fun b hb=>by have:=ho3'.lt hb; omega) (hx4 h (by omega));have E5:=E4.set5 (.own o3' 0 l3);have ho1f:=(ho1''.keepA hk3 hdis').setB (b:=b5) (by omega) (.live 1 [[.own o3' 0 l3]]);have ho3f:=ho3''.setB (b:=b5) (by omega) (.live 1 [[.own o3' 0 l3]]);simp -implicitDefEqProofs only[EZ,FW,DC,jU,jJ,jO,jT,AY,AL,BD,AX,AC,AA,AZ,AU,IY,EP,GR,BX,AB,↓reduceIte,jA,jB,jC,enP,D8,E3.l5,A0T];refine H9 (v:=.own o3' 0 l3) (h:=H4) hap3 ?_;simp -implicitDefEqProofs only[DC,jU,jJ,jO,jT,BA,A8,EJ,EQ,AY,BB,AL,BD,AX,AC,EM,AA,AZ,AU,BH,BG,D6,BR,BJ,AB,CY,C9,↓reduceIte,jA,jK,jB,jC,enP,SG,D8,jP,f5,E4.s5,f13,wrap_succ (show i<9223372036854775807 by omega)];refine⟨n-1,by omega,i+1,.own o 0 l,.own o3' 0 l3,by omega,f1,f2,f3,f4,trivial,f11,f12,rfl,E5,ho1f,ho3f,fun b hb h3=>?_,?_⟩
   .have h1:=hn1 b hb
    have h2:=hn3 b h3;rw[zW] at h1;simp at h1; omega
   .rw[qI]; omega
  .have hi':¬i<m.pts.length:=by simpa using hc
   rw[jX (by rw[ACT]; omega)] at ho1;rw[jX (by omega)] at ho3;simp -implicitDefEqProofs only[DJ,EG,KC,ET,AA,↓reduceIte,jA];exact⟨v1,v3,f1,f2,f3,f4,f5,E,ho1,ho3,hdis,hle⟩
 .rintro F H ⟨v1,v3,f1,f2,f3,f4,f5,E,ho1,ho3,hdis,hle⟩
  simp -implicitDefEqProofs only[DC,jU,jJ,jO,jT,BC,BP,BA,A8,EU,AY,BB,AL,BD,AX,AC,AA,AZ,AU,BH,BG,BQ,BJ,DZ,AB,↓reduceIte,jG,jB,jC,enP,VQ,J8,D8,f1,E.m1,jI];refine GM 2 (fun F H=>∃v2,F 2=.ptr b2 0 0∧F 3=.ptr b3 0 0∧F 4=.ptr b4 0 0∧F 5=.ptr b5 0 0∧Em h H m b2 b3 b4 b5 v1 v2 v3∧outG 1 encL H0 (zPs m) v1 H∧outG 1 encL H0 (zCs m) v2 H∧outG 1 (fun _:Pt=>FY) H0 m.pts v3 H) (fun _ _=>False) ?_ ?_ (fun _ _ hh=>hh.elim)
  .refine DK (fun n F H=>∃i v2,n+i=m.crs.length∧F 1=.ptr h.length 0 0∧F 2=.ptr b2 0 0∧F 3=.ptr b3 0 0∧F 4=.ptr b4 0 0∧F 5=.ptr b5 0 0∧F 33=.sl m.cm 3 (m.crs.map GG)∧F 34=.int .i64 m.crs.length∧F 35=.int .i64 (i:Nat)∧Em h H m b2 b3 b4 b5 v1 v2 v3∧outG 1 encL H0 (zPs m) v1 H∧outG 1 encL H0 ((zCs m).take i) v2 H∧outG 1 (fun _:Pt=>FY) H0 m.pts v3 H∧(∀b,isB v2 b->¬isB v1 b∧¬isB v3 b)∧H0.length<=H.length) m.crs.length
    ⟨0,_,by simp,by simp -implicitDefEqProofs only[AA,↓reduceIte,jA,f1],by simp -implicitDefEqProofs only[AA,↓reduceIte,jA,f2],by simp -implicitDefEqProofs only[AA,↓reduceIte,jA,f3],by simp -implicitDefEqProofs only[AA,↓reduceIte,jA,f4],by simp -implicitDefEqProofs only[AA,↓reduceIte,jA,f5],by simp -implicitDefEqProofs only[AA,↓reduceIte,jA],by simp -implicitDefEqProofs only[AA,↓reduceIte,jA],by simp -implicitDefEqProofs only[AA,↓reduceIte]; rfl,E,ho1,by rw[zQ]; exact outG.nil _ _ _ _,ho3,fun b hb=>hb.elim,hle⟩ ?_
   clear f1 f2 f3 f4 f5 E ho1 ho3 hle;rintro n F H ⟨i,v2,hi,f1,f2,f3,f4,f5,f33,f34,f35,E,ho1,ho2,ho3,hd2,hle⟩;simp -implicitDefEqProofs only[DC,jU,jJ,jO,jT,BC,BA,BI,A8,AY,BB,AL,BD,AX,AC,AA,AZ,BR,AB,CZ,↓reduceIte,jB,jC,enP,D8,f34,f35];refine CV (fun hc=>?_) (fun hc=>?_)
   .have hi':i<m.crs.length:=by simpa using hc
    have hcg:=hg.crs _ (jQ hi');have hfs:=hg.full.szs hcg.here;have hsl:=LJ m m.crs[i].pts;have hfour:=hcg.four;have hpr:=hcg.prod;have hC:=AJN m i hi';have E1:=E.app [.live 3 [GG m.crs[i]]];have gc1:=CX H (.live 3 [GG m.crs[i]]);obtain⟨v2',H2,hap,ho2',hk2,hl2,hn2,⟨o,l,rfl⟩,hx2⟩:=(ho2.app [.live 3 [GG m.crs[i]]]).app2 AAO VY ADC ABB (by omega) (by rw[zD,ACU]; omega) (by simp; omega) (zIs (GK (szs m m.crs[i].pts)));rw[<-hC] at ho2';have E2:=E1.keep hk2 (fun b hb=>by have:=ho2.lt hb; omega) (hx2 h (by omega));have E3:=E2.set4 v1 (.own o 0 l);have ho1':=((ho1.app [.live 3 [GG m.crs[i]]]).keepA hk2 (fun b hb h2=>(hd2 b h2).1 hb)).setB (b:=b4) (by omega) (.live 4 [IB v1 (.own o 0 l)]);have ho3':=((ho3.app [.live 3 [GG m.crs[i]]]).keepA hk2 (fun b hb h2=>(hd2 b h2).2 hb)).setB (b:=b4) (by omega) (.live 4 [IB v1 (.own o 0 l)]);have ho2'':=ho2'.setB (b:=b4) (by omega) (.live 4 [IB v1 (.own o 0 l)]);simp -implicitDefEqProofs only[DC,jU,jJ,jO,jT,BC,BP,BA,BO,A8,AY,BB,AL,BD,AX,AC,EM,AA,AZ,EX,BQ,D6,CE,BX,AB,CY,↓reduceIte,jA,jB,jC,enP,WF,D8,jP,f33,f35,DU hi',FM AAD XY KD hi',ASF,AQP _ _ [.str ⟨#[]⟩,.sl .nil 0 [],.sl .nil 0 []] rfl];refine E8 (by kernel_rfl) ?_;simp -implicitDefEqProofs only[F6,DC,jU,jJ,jO,jT,EH,DT,EI,FH,LU,D9,GU,F9,AA,AZ,BZ,BQ,JH,BJ,AB,jD,jE,jF,↓reduceIte,jA,jM,jG,jB,enP,L6,f1,f4,E1.l4',ldM E1.gm,ldC gc1];refine⟨_,RS G m _ _ hcg.here (by omega),?_⟩
    try simp -implicitDefEqProofs only[]
    refine⟨_,QX G _ _ _ (fun n hn=>(hfs n hn).2) (by omega),?_⟩
    try simp -implicitDefEqProofs only[F6,EZ,FW,DC,jU,jJ,jO,jT,qY,EH,DT,EI,KH,IW,AA,AZ,EP,GR,BX,↓reduceIte,jA,jM,jB,enP,mkF _ _ (show GK (szs m m.crs[i].pts)<=1048576 by omega),AHB]
    refine H9 (v:=.own o 0 l) (h:=H2) hap ?_;simp -implicitDefEqProofs only[F6,DC,jU,jJ,jO,jT,EH,DT,JZ,FB,EI,JV,D9,BA,A8,EJ,EQ,AY,BB,AL,BD,AX,AC,AA,AZ,AU,BH,BG,D6,BR,BJ,AB,CY,C9,↓reduceIte,jA,jM,jG,jB,jC,enP,L6,D8,jP,f4,E2.s4',f35,wrap_succ (show i<9223372036854775807 by omega)];refine⟨n-1,by omega,i+1,.own o 0 l,by omega,f1,f2,f3,trivial,f5,f33,f34,rfl,E3,ho1',ho2'',ho3',fun b hb=>⟨fun h1=>?_,fun h3=>?_⟩,?_⟩
    .have h0:=hn2 b hb
     have h2:=ho1.lt h1;rw[zW] at h0;simp at h0; omega
    .have h0:=hn2 b hb
     have h2:=ho3.lt h3;rw[zW] at h0;simp at h0; omega
    .rw[qI,hl2,zW]; simp; omega
   .have hi':¬i<m.crs.length:=by simpa using hc
    rw[jX (by rw[ACU]; omega)] at ho2;simp -implicitDefEqProofs only[DJ,EG,KC,ET,AA,↓reduceIte,jA];exact⟨v2,f2,f3,f4,f5,E,ho1,ho2,ho3⟩
  .rintro F' H' ⟨v2,g2,g3,g4,g5,E',q1,q2,q3⟩
   simp -implicitDefEqProofs only[BC,A8,EU,↓reduceIte];have p2:=E'.o2; have p3:=E'.o3; have p4:=E'.o4; have p5:=E'.o5;refine RH [(5,2)] (by kernel_rfl) ?_ ?_
   .simp -implicitDefEqProofs only[g2,g5,RI,UU,UE,and_true]
    omega
   simp -implicitDefEqProofs only[F6,DC,jU,jJ,jO,jT,EH,DT,JZ,FB,EI,FH,JV,BK,A8,AA,AZ,BQ,D6,AB,CY,↓reduceIte,jA,jM,jG,jB,enP,jP,g2,g3,g4,g5,JI E'.g4 rfl,N8 E'.g5 rfl,ADQ E'.g2 rfl q1.leaf q2.leaf,AGF (CW E'.g3 (show b3≠b2 by omega)) rfl q3.leaf];rw[AVF (ba:=b2) (bb:=b3) (by simp -implicitDefEqProofs only[AA,↓reduceIte,jA,g2]) (by simp -implicitDefEqProofs only[AA,↓reduceIte,jA,g3]) (JI (CW (EC E'.g2) (show b2≠b3 by omega)) rfl) (N8 (EC (CW E'.g3 (show b3≠b2 by omega))) rfl)];have hs1:∀ {α:Type} {f:α->List AV} {ys:List α} {v:AV},outG 1 f H0 ys v H'->outG 1 f h ys v ((H'.set b2 (.live 4 [IB v1 v2])).set b3 (.live 1 [[v3]])):=fun q=>((q.setB (b:=b2) (by omega) _).setB (b:=b3) (by omega) _).base (by omega)
   exact⟨(E'.hx.set (by omega) _).set (by omega) _,v1,v2,v3,rfl,hs1 q1,hs1 q2,hs1 q3⟩
structure Er (h H:Hp) (m:Mo) (b2 b3:Nat) (v1 v2:AV):Prop where
 gm:H[h.length]?=some (.live 2 [D5 m])
 g2:H[b2]?=some (.live 4 [FD])
 g3:H[b3]?=some (.live 4 [IB v1 v2])
 o2:h.length<b2
 o3:b2<b3
 hx:ext h H
section
variable {h H:Hp} {m:Mo} {b2 b3:Nat} {v1 v2:AV} (E:Er h H m b2 b3 v1 v2)
include E
theorem Er.m0:ED Tryz.prog H 22 (.ptr h.length 0 0)=some (.sl m.pm 6 (m.pts.map GL)):=by rw[DX WV E.gm (row:=D5 m) rfl,QJ]
theorem Er.m1:ED Tryz.prog H 23 (.ptr h.length 0 1)=some (.sl m.cm 3 (m.crs.map GG)):=by rw[DX ABH E.gm (row:=D5 m) rfl,UO]
theorem Er.l3:ED Tryz.prog H 26 (.ptr b3 0 0)=some v1:=by rw[DX Q7 E.g3 (row:=IB v1 v2) rfl]; rfl
theorem Er.l3':ED Tryz.prog H 26 (.ptr b3 0 1)=some v2:=by rw[DX Q7 E.g3 (row:=IB v1 v2) rfl]; rfl
theorem Er.keep {H':Hp}{u:AV}(hk:∀b x,H[b]?=some x->¬isB u b->H'[b]?=some x)(hu:∀b,isB u b->b3<b)(hx:ext h H->ext h H'):Er h H' m b2 b3 v1 v2:=by
 have o2:=E.o2; have o3:=E.o3;exact⟨hk _ _ E.gm (fun e=>by have:=hu _ e; omega),hk _ _ E.g2 (fun e=>by have:=hu _ e; omega),hk _ _ E.g3 (fun e=>by have:=hu _ e; omega),o2,o3,hx E.hx⟩
theorem Er.set3 (w1 w2:AV):Er h (H.set b3 (.live 4 [IB w1 w2])) m b2 b3 w1 w2:=by
 have o2:=E.o2; have o3:=E.o3;exact⟨CW E.gm (by omega),CW E.g2 (by omega),EC E.g3,o2,o3,E.hx.set (by omega) _⟩
theorem Er.s3 {o l:Nat}:FX Tryz.prog H 26 (.ptr b3 0 0) (.own o 0 l)=some (H.set b3 (.live 4 [IB (.own o 0 l) v2])):=O6 (row:=IB v1 v2) (Y9 _ _ _) AMJ E.g3 (by simp [IB])
theorem Er.s3' {o l:Nat}:FX Tryz.prog H 26 (.ptr b3 0 1) (.own o 0 l)=some (H.set b3 (.live 4 [IB v1 (.own o 0 l)])):=O6 (row:=IB v1 v2) (Y9 _ _ _) AMJ E.g3 (by simp [IB])
theorem Er.lt:b3<H.length:=CJ E.g3
end
theorem Er.mk' (h:Hp)(m:Mo):Er h (h++[ABlk.live 2 [D5 m]]++[ABlk.live 4 [FD]]++[ABlk.live 4 [FD]]) m (h++[ABlk.live 2 [D5 m]]).length (h++[ABlk.live 2 [D5 m]]++[ABlk.live 4 [FD]]).length (.sl .nil 0 []) (.sl .nil 0 []) :=
 ⟨CU (CU (CX _ _)),CU (CX _ _),CX _ _,by simp,by simp,(((ext.rfl' h).app _).app _).app _⟩
theorem ATE (h:Hp):FX Tryz.prog (h++[.live 4 [FD]]) 28 (.ptr h.length 0 0) (.agg FD)=some (h++[.live 4 [FD]]):=by rw[stZ (CX _ _) rfl,O7]
theorem A09 (h:Hp):FX Tryz.prog (h++[.live 1 [FY]]) 47 (.ptr h.length 0 0) (.agg FY)=some (h++[.live 1 [FY]]):=by rw[ABR (CX _ _) rfl,O7]
theorem ALQ {E:Env}{f:FuncId}{args:List AV}{h:Hp}{m:Mo}(hc:ACalls E f args h fun v H=>ext h H∧∃v1 v2,v=.agg (IB v1 v2)∧outG 1 encL h (zPs m) v1 H∧outG 1 encL h (zCs m) v2 H) :
  PCall E f args h (.agg (ER (JJ m))):=by
 have hp:PCall E f args h (.agg (IB (fzG 1 encL (zPs m)) (fzG 1 encL (zCs m)))):=by
  refine ACalls.pure 3 hc ?_;rintro v H ⟨he,v1,v2,rfl,o1,o2⟩;refine⟨he,?_⟩;have e1:=SC AU2 o1 h.length 0 (jL _);have e2:=SC AU2 o2 h.length 0 (jL _);show AV.agg [IX h.length H 2 v1,IX h.length H 2 v2,.int .i64 0,.int .i64 0]=_;rw[e1,e2]; rfl
 exact hp.res (CvR.agg (CvRL.cons TT (CvRL.cons TT (CvRL.refl _))))
set_option maxHeartbeats 2000000 in
theorem ARX (G:Nat->AV)(m:Mo)(hm:MoOk m)(hg:Good m)(h:Hp):PCall (En G) 92 [.agg (D5 m)] h (.agg (ER (JJ m))):=by
 refine ALQ ?_;have hm1:=hm.np;have hm2:=hm.nc;have hnum:=hg.num;refine ND (H:=hint [25,45] []) (enM G) Tryz.func92 rfl (by kernel_rfl) (by kernel_rfl) (jH (by kernel_rfl)) ?_;show awp _ _ _ _ _ (EN _ [.cell 2 28] _);have E:=Er.mk' h m;simp -implicitDefEqProofs only[EZ,DC,jU,jJ,jO,jT,BC,BP,BA,A8,AY,BB,AL,BD,AX,AC,EM,AA,AZ,AU,BH,A7,EX,FU,IV,D6,BX,AB,CY,BF,↓reduceIte,jA,jB,jC,enP,D8,jP,bxM,KF,QL,ATE]
 generalize h++[ABlk.live 2 [D5 m]]++[ABlk.live 4 [FD]]++[ABlk.live 4 [FD]]=H0 at E|-
 generalize (h++[ABlk.live 2 [D5 m]]++[ABlk.live 4 [FD]]).length=b3 at E|-
 generalize (h++[ABlk.live 2 [D5 m]]).length=b2 at E|-
 have o2:=E.o2; have o3:=E.o3;have hlt0:=E.lt;refine GM 0 (fun F H=>∃v1,F 1=.ptr h.length 0 0∧F 2=.ptr b2 0 0∧F 3=.ptr b3 0 0∧Er h H m b2 b3 v1 (.sl .nil 0 [])∧outG 1 encL H0 (zPs m) v1 H∧H0.length<=H.length) (fun _ _=>False) ?_ ?_ (fun _ _ hh=>hh.elim)
 .refine DK (fun n F H=>∃i v1,n+i=m.pts.length∧F 1=.ptr h.length 0 0∧F 2=.ptr b2 0 0∧F 3=.ptr b3 0 0∧F 4=.int .i64 (i:Nat)∧Er h H m b2 b3 v1 (.sl .nil 0 [])∧outG 1 encL H0 ((zPs m).take i) v1 H∧H0.length<=H.length) m.pts.length
   ⟨0,_,by simp,by simp -implicitDefEqProofs only[AA,↓reduceIte,jA],by simp -implicitDefEqProofs only[AA,↓reduceIte,jA],by simp -implicitDefEqProofs only[AA,↓reduceIte,jA],by simp -implicitDefEqProofs only[AA,↓reduceIte]; rfl,E,by rw[zQ]; exact outG.nil _ _ _ _,jL _⟩ ?_
  clear E;rintro n F H ⟨i,v1,hi,f1,f2,f3,f4,E,ho1,hle⟩;simp -implicitDefEqProofs only[DC,jU,jJ,jO,jT,BC,BA,BI,A8,AY,BB,AL,BD,AX,AC,AA,AZ,BG,BQ,BR,BJ,DZ,AB,CZ,↓reduceIte,jA,jK,jB,jC,enP,QZ,IP,D8,f1,f4,E.m0,jI];refine CV (fun hc=>?_) (fun hc=>?_)
  .have hi':i<m.pts.length:=by simpa using hc
   have h64:=(hg.full _ (jQ hi')).2;have hP:=AJM m i hi';have hH:=E.lt;obtain⟨v1',H2,hap,ho1',hk1,hl2,hn1,⟨o,l,rfl⟩,hx2⟩:=ho1.app2 AAO VY ADC ABB (by omega) (by rw[zD,ACT]; omega) hle (zIs m.pts[i].bins.length);rw[<-hP] at ho1';have E2:=E.keep hk1 (fun b hb=>by have:=ho1.lt hb; omega) (hx2 h (by omega));have E3:=E2.set3 (.own o 0 l) (.sl .nil 0 []);have ho1'':=ho1'.setB (b:=b3) (by omega) (.live 4 [IB (.own o 0 l) (.sl .nil 0 [])]);simp -implicitDefEqProofs only[BC,BP,BO,A8];refine E8 (by kernel_rfl) ?_;simp -implicitDefEqProofs only[F6,EZ,FW,DC,jU,jJ,jO,jT,EH,DT,EI,FT,KH,FH,LU,D9,EF,IW,AA,AZ,EP,BQ,JH,BJ,CE,DZ,GR,BX,AB,↓reduceIte,jA,jM,jK,jG,jB,enP,S9,IP,MJ,RZ,I9,f1,f3,f4,E.l3,E.m0,DU hi',DF SQ hi',NU,jI,mkF _ _ (show m.pts[i].bins.length<=1048576 by omega),AHB];refine H9 (v:=.own o 0 l) (h:=H2) hap ?_;simp -implicitDefEqProofs only[F6,DC,jU,jJ,jO,jT,EH,DT,JZ,FB,EI,JV,D9,BA,A8,EJ,EQ,AY,BB,AL,BD,AX,AC,AA,AZ,AU,BH,BG,A7,D6,BR,BJ,AB,CY,C9,↓reduceIte,jA,jM,jK,jG,jB,jC,enP,MJ,D8,jP,f3,E2.s3,f4,wrap_succ (show i<9223372036854775807 by omega)];exact⟨n-1,by omega,i+1,.own o 0 l,by omega,f1,f2,trivial,rfl,E3,ho1'',by rw[qI]; omega⟩
  .have hi':¬i<m.pts.length:=by simpa using hc
   rw[jX (by rw[ACT]; omega)] at ho1;simp -implicitDefEqProofs only[DJ,EG,KC,ET,AA,↓reduceIte,jA];exact⟨v1,f1,f2,f3,E,ho1,hle⟩
 .rintro F H ⟨v1,f1,f2,f3,E,ho1,hle⟩
  simp -implicitDefEqProofs only[DC,jU,jJ,jO,jT,BC,BP,BA,A8,EU,AY,BB,AL,BD,AX,AC,AU,BH,A7,↓reduceIte,jB,jC,D8];refine GM 2 (fun F H=>∃v2,F 2=.ptr b2 0 0∧F 3=.ptr b3 0 0∧Er h H m b2 b3 v1 v2∧outG 1 encL H0 (zPs m) v1 H∧outG 1 encL H0 (zCs m) v2 H) (fun _ _=>False) ?_ ?_ (fun _ _ hh=>hh.elim)
  .refine DK (fun n F H=>∃i v2,n+i=m.crs.length∧F 1=.ptr h.length 0 0∧F 2=.ptr b2 0 0∧F 3=.ptr b3 0 0∧F 5=.int .i64 (i:Nat)∧Er h H m b2 b3 v1 v2∧outG 1 encL H0 (zPs m) v1 H∧outG 1 encL H0 ((zCs m).take i) v2 H∧(∀b,isB v2 b->¬isB v1 b)∧H0.length<=H.length) m.crs.length
    ⟨0,_,by simp,by simp -implicitDefEqProofs only[AA,↓reduceIte,jA,f1],by simp -implicitDefEqProofs only[AA,↓reduceIte,jA,f2],by simp -implicitDefEqProofs only[AA,↓reduceIte,jA,f3],by simp -implicitDefEqProofs only[AA,↓reduceIte]; rfl,E,ho1,by rw[zQ]; exact outG.nil _ _ _ _,fun b hb=>hb.elim,hle⟩ ?_
   clear f1 f2 f3 E ho1 hle;rintro n F H ⟨i,v2,hi,f1,f2,f3,f5,E,ho1,ho2,hd2,hle⟩;simp -implicitDefEqProofs only[DC,jU,jJ,jO,jT,BC,BA,BI,A8,AY,BB,AL,BD,AX,AC,AA,AZ,BG,BQ,BR,BJ,DZ,AB,CZ,↓reduceIte,jA,jG,jB,jC,enP,VQ,J8,D8,f1,f5,E.m1,jI];refine CV (fun hc=>?_) (fun hc=>?_)
   .have hi':i<m.crs.length:=by simpa using hc
    have hcg:=hg.crs _ (jQ hi');have hpr:=hcg.prod;have hfour:=hcg.four;have hmin:min ((GK (szs m m.crs[i].pts):Nat):Int) 1000=((GK (szs m m.crs[i].pts):Nat):Int):=by omega
    have hcall:=XT G m m.crs[i] H hcg.here hg.full (by omega);rw[hmin] at hcall;have hC:=AJN m i hi';have hH:=E.lt;obtain⟨v2',H2,hap,ho2',hk2,hl2,hn2,⟨o,l,rfl⟩,hx2⟩:=ho2.app2 AAO VY ADC ABB (by omega) (by rw[zD,ACU]; omega) hle (zIs (GK (szs m m.crs[i].pts)));rw[<-hC] at ho2';have E2:=E.keep hk2 (fun b hb=>by have:=ho2.lt hb; omega) (hx2 h (by omega));have E3:=E2.set3 v1 (.own o 0 l);have ho1':=(ho1.keepA hk2 (fun b hb h2=>hd2 b h2 hb)).setB (b:=b3) (by omega) (.live 4 [IB v1 (.own o 0 l)]);have ho2'':=ho2'.setB (b:=b3) (by omega) (.live 4 [IB v1 (.own o 0 l)]);simp -implicitDefEqProofs only[BC,BP,BO,A8];refine E8 (by kernel_rfl) ?_;simp -implicitDefEqProofs only[F6,DC,jU,jJ,jO,jT,EH,DT,EI,FT,FH,LU,D9,EF,GU,F9,AA,AZ,BZ,BQ,JH,BJ,CE,AB,jD,jE,jF,↓reduceIte,jA,jM,jG,jB,enP,WF,J8,L6,f1,f3,f5,E.l3',E.m1,ldM E.gm,DU hi',FM AAD XY KD hi'];refine⟨_,hcall,?_⟩
    try simp -implicitDefEqProofs only[F6,EZ,FW,DC,jU,jJ,jO,jT,qY,EH,DT,EI,KH,IW,AA,AZ,EP,GR,BX,↓reduceIte,jA,jM,jB,enP,mkF _ _ (show GK (szs m m.crs[i].pts)<=1048576 by omega),AHB]
    refine H9 (v:=.own o 0 l) (h:=H2) hap ?_;simp -implicitDefEqProofs only[F6,DC,jU,jJ,jO,jT,EH,DT,JZ,FB,EI,JV,D9,BA,A8,EJ,EQ,AY,BB,AL,BD,AX,AC,AA,AZ,AU,BH,BG,A7,D6,BR,BJ,AB,CY,C9,↓reduceIte,jA,jM,jG,jB,jC,enP,L6,D8,jP,f3,E2.s3',f5,wrap_succ (show i<9223372036854775807 by omega)];refine⟨n-1,by omega,i+1,.own o 0 l,by omega,f1,f2,trivial,rfl,E3,ho1',ho2'',fun b hb h1=>?_,by rw[qI]; omega⟩;have h0:=hn2 b hb;have h2:=ho1.lt h1;omega
   .have hi':¬i<m.crs.length:=by simpa using hc
    rw[jX (by rw[ACU]; omega)] at ho2;simp -implicitDefEqProofs only[DJ,EG,KC,ET,AA,↓reduceIte,jA];exact⟨v2,f2,f3,E,ho1,ho2⟩
  .rintro F' H' ⟨v2,g2,g3,E',q1,q2⟩
   have hp:=E'.o2; have hq:=E'.o3;simp -implicitDefEqProofs only[DC,jU,jJ,jO,jT,BC,BA,BK,A8,EU,AY,BB,AL,BD,AX,AC,EM,AA,AZ,BQ,D6,AB,CY,↓reduceIte,jA,jB,jC,enP,D8,jP,g2,g3,JI E'.g3 rfl,ADQ E'.g2 rfl q1.leaf q2.leaf];rw[ANJ (b:=b2) (by simp -implicitDefEqProofs only[AA,↓reduceIte,jA,g2]) (JI (EC E'.g2) rfl)];have hs1:∀ {α:Type} {f:α->List AV} {ys:List α} {v:AV},outG 1 f H0 ys v H'->outG 1 f h ys v (H'.set b2 (.live 4 [IB v1 v2])):=fun q=>(q.setB (b:=b2) (by omega) _).base (by omega)
   exact⟨E'.hx.set (by omega) _,v1,v2,rfl,hs1 q1,hs1 q2⟩
theorem RV {E:Env}{f:FuncId}{args:List AV}{h:Hp}{r:AV}(d:Nat)(hr:∀n H,IX n H d r=r)(hc:ACalls E f args h fun v H=>v=r∧ext h H):PCall E f args h r :=
 ACalls.pure d hc fun v H ⟨e,he⟩=>⟨he,by rw[e]; exact hr _ _⟩
def emV (m:Mo):Cvr:=if EY m=0 then JJ m else zV
def emT (m:Mo):Tk:=if EY m=0 then ⟨nm (zLs m),zLs m⟩ else zT
def X0 (m:Mo):Tk:=if EY m=0 then ⟨.full,zLs m⟩ else zT
structure Ee (h H:Hp) (m:Mo) (b2 b3:Nat):Prop where
 gm:H[h.length]?=some (ABlk.live 2 [D5 m])
 g2:H[b2]?=some (ABlk.live 4 [FD])
 g3:H[b3]?=some (ABlk.live 1 [FY])
 o2:h.length<b2
 o3:b2<b3
 hx:ext h H
theorem Ee.mk' (h:Hp)(m:Mo):Ee h (h++[ABlk.live 2 [D5 m]]++[ABlk.live 4 [FD]]++[ABlk.live 1 [FY]]) m (h++[ABlk.live 2 [D5 m]]).length (h++[ABlk.live 2 [D5 m]]++[ABlk.live 4 [FD]]).length :=
 ⟨CU (CU (CX _ _)),CU (CX _ _),CX _ _,by simp,by simp,(((ext.rfl' h).app _).app _).app _⟩
theorem Ee.lt {h H:Hp}{m:Mo}{b2 b3:Nat}(E:Ee h H m b2 b3):b3<H.length:=CJ E.g3
theorem Ee.m0 {h H:Hp}{m:Mo}{b2 b3:Nat}(E:Ee h H m b2 b3):ED Tryz.prog H 22 (.ptr h.length 0 0)=some (.sl m.pm 6 (m.pts.map GL)):=by rw[DX WV E.gm (row:=D5 m) rfl,QJ]
theorem AYQ (H0:Hp)(c:Cvr)(t:Tk) :
  FX Tryz.prog (H0++[ABlk.live 4 [FD]]++[ABlk.live 1 [FY]]) 28 (.ptr H0.length 0 0) (.agg (ER c))=some ((H0++[ABlk.live 4 [FD]]++[ABlk.live 1 [FY]]).set H0.length (ABlk.live 4 [ER c])) ∧
  FX Tryz.prog ((H0++[ABlk.live 4 [FD]]++[ABlk.live 1 [FY]]).set H0.length (ABlk.live 4 [ER c])) 47 (.ptr (H0++[ABlk.live 4 [FD]]).length 0 0) (.agg (KL t))=some (((H0++[ABlk.live 4 [FD]]++[ABlk.live 1 [FY]]).set H0.length (ABlk.live 4 [ER c])).set (H0++[ABlk.live 4 [FD]]).length (ABlk.live 1 [KL t])) ∧
  (((H0++[ABlk.live 4 [FD]]++[ABlk.live 1 [FY]]).set H0.length (ABlk.live 4 [ER c])).set (H0++[ABlk.live 4 [FD]]).length (ABlk.live 1 [KL t]))[H0.length]?=some (ABlk.live 4 [ER c]) ∧
  (((H0++[ABlk.live 4 [FD]]++[ABlk.live 1 [FY]]).set H0.length (ABlk.live 4 [ER c])).set (H0++[ABlk.live 4 [FD]]).length (ABlk.live 1 [KL t]))[(H0++[ABlk.live 4 [FD]]).length]?=some (ABlk.live 1 [KL t]) ∧
  ext H0 (((H0++[ABlk.live 4 [FD]]++[ABlk.live 1 [FY]]).set H0.length (ABlk.live 4 [ER c])).set (H0++[ABlk.live 4 [FD]]).length (ABlk.live 1 [KL t])) :=
 ⟨stV (CU (CX _ _)) rfl,stT (CW (CX _ _) (by simp)) rfl,CW (EC (CU (CX _ _))) (by simp),EC (CW (CX _ _) (by simp)),((((ext.rfl' H0).app _).app _).set (jL _) _).set (by simp) _⟩
theorem FP {h H:Hp}{b:Nat}{x:ABlk}(he:ext h H)(hb:h[b]?=some x):H[b]?=some x:=by
 obtain⟨y,rfl⟩:=he;exact FZ hb
theorem ANI (e:Int):CvR (.tup [.agg FD,.agg FY,.int .i64 e]) (.tup [.agg (ER zV),.agg (KL zT),.int .i64 e]):=CvR.tup (CvRL.cons AJL (CvRL.cons A2K (CvRL.refl _)))
set_option maxHeartbeats 1000000 in
theorem AFS (G:Nat->AV)(hG:GOk G)(m:Mo)(hm:MoOk m)(h:Hp):PCall (En G) 67 [.agg (D5 m)] h (.tup [.agg (ER (emV m)),.agg (KL (emT m)),.int .i64 (EY m)]):=by
 by_cases h0:EY m=0
 .have hb:(EY m==0)=true:=by simpa using h0
  unfold emV emT;rw[if_pos h0,if_pos h0];have hg:=LV h0;refine RV 3 (fun n H=>rfl) ?_;refine acN Tryz.func67 rfl ?_;show awp _ _ _ _ _ (EN _ [.cell 2 28,.cell 3 47,.tmp 4] _);have E:=Ee.mk' h m;simp -implicitDefEqProofs only[BC,BA,A8,AY,BB,AO,AQ,AL,BD,AX,AC,AA,AZ,AU,BH,A7,EX,FU,BQ,BX,BF,↓reduceIte,jA,jB,jC,enP,bxM,KF,VS]
  generalize h++[ABlk.live 2 [D5 m]]++[ABlk.live 4 [FD]]++[ABlk.live 1 [FY]]=H0 at E|-
  generalize (h++[ABlk.live 2 [D5 m]]++[ABlk.live 4 [FD]]).length=b3 at E|-
  generalize (h++[ABlk.live 2 [D5 m]]).length=b2 at E|-
  have o2:=E.o2; have o3:=E.o3; have hlt:=E.lt;simp -implicitDefEqProofs only[AY,AO,AQ,AL,BD,AX,AC,AA,AZ,BZ,CB,BU,AB,jD,jE,jF,↓reduceIte,jB,jC,ldM E.gm];refine(RY G hG m hm _).use ?_;simp -implicitDefEqProofs only[BC,BA,BO,BI,A8,DR,AY,BB,AO,AQ,AL,BD,AX,AC,AA,AZ,AU,BZ,BH,BG,A7,BQ,BR,CB,BU,AB,EK,jD,jE,jF,↓reduceIte,jA,jB,jR,jC,enP,bne,hb,ldM E.gm];refine(ANL G m hm hg _).use ?_;obtain⟨s1,s2,g6,g7,hx5⟩:=AYQ H0 (JJ m) ⟨nm (zLs m),zLs m⟩;have g2:=FP hx5 E.g2;have g3:=FP hx5 E.g3;have hx:=E.hx.trans hx5;have h7:b2<(H0++[ABlk.live 4 [FD]]).length:=by simp; omega
  simp -implicitDefEqProofs only[zB,zG,BC,A8,AY,BB,AO,AQ,AL,BD,AX,AC,EM,AA,AZ,BG,EX,D6,FK,GN,BX,AB,CY,↓reduceIte,jA,jB,jC,enP,jP,KF,VS,s1,s2]
  generalize ((H0++[ABlk.live 4 [FD]]++[ABlk.live 1 [FY]]).set H0.length (ABlk.live 4 [ER (JJ m)])).set (H0++[ABlk.live 4 [FD]]).length (ABlk.live 1 [KL ⟨nm (zLs m),zLs m⟩])=H5 at g6 g7 g2 g3 hx|-
  generalize (H0++[ABlk.live 4 [FD]]).length=b7 at g7 h7|-
  refine RH [(7,2)] (by kernel_rfl) ?_ ?_
  .simp -implicitDefEqProofs only[AA,↓reduceIte,jA,RI,UU,UE,and_true]
   omega
  simp -implicitDefEqProofs only[F6,EH,DT,JZ,FB,EI,JW,FH,JV,BK,A8,AO,AA,AZ,AU,BH,BQ,D6,AB,CY,↓reduceIte,jA,jM,jG,jB,enP,jP,ldV g6,ldT g7,stV g2 rfl,stT (CW g3 (show b3≠b2 by omega)) rfl];rw[TI (ba:=b2) (bb:=b3) (by simp -implicitDefEqProofs only[AA,↓reduceIte,jA]) (by simp -implicitDefEqProofs only[AA,↓reduceIte,jA]) (ldV (CW (EC g2) (show b2≠b3 by omega))) (ldT (EC (CW g3 (show b3≠b2 by omega))))];exact⟨by simp -implicitDefEqProofs only[AA,↓reduceIte,h0],(hx.set (by omega) _).set (by omega) _⟩
 .have hb:(EY m==0)=false:=by simpa using h0
  unfold emV emT;rw[if_neg h0,if_neg h0];refine PCall.res ?_ (ANI _);refine RV 3 (fun n H=>rfl) ?_;refine acN Tryz.func67 rfl ?_;show awp _ _ _ _ _ (EN _ [.cell 2 28,.cell 3 47,.tmp 4] _);have E:=Ee.mk' h m;simp -implicitDefEqProofs only[BC,BA,A8,AY,BB,AO,AQ,AL,BD,AX,AC,AA,AZ,AU,BH,A7,EX,FU,BQ,BX,BF,↓reduceIte,jA,jB,jC,enP,bxM,KF,VS]
  generalize h++[ABlk.live 2 [D5 m]]++[ABlk.live 4 [FD]]++[ABlk.live 1 [FY]]=H0 at E|-
  generalize (h++[ABlk.live 2 [D5 m]]++[ABlk.live 4 [FD]]).length=b3 at E|-
  generalize (h++[ABlk.live 2 [D5 m]]).length=b2 at E|-
  have o2:=E.o2; have o3:=E.o3; have hlt:=E.lt;simp -implicitDefEqProofs only[AY,AO,AQ,AL,BD,AX,AC,AA,AZ,BZ,CB,BU,AB,jD,jE,jF,↓reduceIte,jB,jC,ldM E.gm];refine(RY G hG m hm _).use ?_;simp -implicitDefEqProofs only[EZ,BC,BA,BK,BI,A8,CP,DI,AY,BB,AO,AQ,AL,BD,AX,AC,EM,AA,AZ,AU,BH,BG,A7,IV,D6,BR,AB,CY,EK,↓reduceIte,jA,jB,jC,enP,jP,bne,hb,QL,ACB,stZ E.g2 rfl,ABR (CW E.g3 (show b3≠b2 by omega)) rfl];rw[TI (ba:=b2) (bb:=b3) (by simp -implicitDefEqProofs only[AA,↓reduceIte,jA]) (by simp -implicitDefEqProofs only[AA,↓reduceIte,jA]) (JI (CW (EC E.g2) (show b2≠b3 by omega)) rfl) (N8 (EC (CW E.g3 (show b3≠b2 by omega))) rfl)];exact⟨by simp -implicitDefEqProofs only[AA,↓reduceIte],(E.hx.set (by omega) _).set (by omega) _⟩
theorem A3I (h:Hp)(m:Mo)(hn:m.pts.length<=1048576):I8 Tryz.prog false h 26 (.int .i64 (m.pts.length:Int)) (.int .i64 (m.pts.length:Int))=some (.sl .full 1 (m.pts.map fun _=>FY),h):=by
 have hz:NY Tryz.prog 57=some FY:=by kernel_rfl
 have hr:room m.pts.length 24:=JM (by omega) (by omega);unfold I8;simp only[AAO,VY,ABB,hz,wE];rw[if_pos ⟨by omega,Int.le_refl _,hr,rfl⟩];simp [List.map_const']
theorem A4P (xs:List (List AV)):LQ Tryz.prog 47 [(0,.sl .full 1 xs)]=some (.agg [.sl .full 1 xs]):=by kernel_rfl
set_option maxHeartbeats 1000000 in
theorem ASP (G:Nat->AV)(m:Mo)(hm:MoOk m)(h:Hp):PCall (En G) 40 [.agg (D5 m)] h (.tup [.agg (ER (emV m)),.agg (KL (X0 m)),.int .i64 (EY m)]):=by
 by_cases h0:EY m=0
 .have hb:(EY m==0)=true:=by simpa using h0
  unfold emV X0;rw[if_pos h0,if_pos h0];have hg:=LV h0;refine PCall.res (r:=.tup [.agg (ER (JJ m)),.agg [.sl .full 1 (m.pts.map fun _=>FY)],.int .i64 (EY m)]) ?_ (CvR.tup (CvRL.cons (CvR.refl _) (CvRL.cons (CvR.agg (CvRL.cons (CvR.sl (APD m.pts)) CvRL.nil)) (CvRL.refl _))));refine RV 3 (fun n H=>rfl) ?_;refine acN Tryz.func40 rfl ?_;show awp _ _ _ _ _ (EN _ [.cell 2 28,.cell 3 47,.tmp 4] _);have E:=Ee.mk' h m;simp -implicitDefEqProofs only[BC,BA,A8,AY,BB,AO,AQ,AL,BD,AX,AC,AA,AZ,AU,BH,A7,EX,FU,BQ,BX,BF,↓reduceIte,jA,jB,jC,enP,bxM,KF,VS]
  generalize h++[ABlk.live 2 [D5 m]]++[ABlk.live 4 [FD]]++[ABlk.live 1 [FY]]=H0 at E|-
  generalize (h++[ABlk.live 2 [D5 m]]++[ABlk.live 4 [FD]]).length=b3 at E|-
  generalize (h++[ABlk.live 2 [D5 m]]).length=b2 at E|-
  have o2:=E.o2; have o3:=E.o3; have hlt:=E.lt;simp -implicitDefEqProofs only[AY,AO,AQ,AL,BD,AX,AC,AA,AZ,BZ,CB,BU,AB,jD,jE,jF,↓reduceIte,jB,jC,ldM E.gm];refine(UH G m hm _).use ?_;simp -implicitDefEqProofs only[BC,BA,BO,BI,A8,DR,AY,BB,AO,AQ,AL,BD,AX,AC,AA,AZ,AU,BH,BG,A7,BR,AB,EK,↓reduceIte,jB,jR,jC,enP,bne,hb];refine RH [(15,2),(1,2)] (by kernel_rfl) ?_ ?_
  .simp -implicitDefEqProofs only[AA,BN,ALB,↓reduceIte,jA,RI,UU,UE,A1D,and_true,true_and]
   omega
  simp -implicitDefEqProofs only[F6,EH,DT,EI,FH,D9,GU,F9,AO,AA,AZ,BZ,BQ,BJ,AB,jD,jE,jF,↓reduceIte,jA,jM,jK,jB,enP,IP,ldM E.gm];refine⟨_,ARX G m hm hg _,?_⟩
  try simp -implicitDefEqProofs only[F6,EZ,FW,EH,DT,JZ,FB,EI,JW,AOP,JV,LU,IW,BK,A8,AO,AA,AZ,AU,BH,IV,D6,JH,DZ,BX,AB,CY,↓reduceIte,jA,jM,jG,jB,enP,QZ,jP,E.m0,jI,A3I _ m hm.np,A4P,stV E.g2 rfl,AGF (v3:=.sl .full 1 (m.pts.map fun _=>FY)) (CW E.g3 (show b3≠b2 by omega)) rfl rfl]
  rw[TI (ba:=b2) (bb:=b3) (by simp -implicitDefEqProofs only[AA,↓reduceIte,jA]) (by simp -implicitDefEqProofs only[AA,↓reduceIte,jA]) (ldV (CW (EC E.g2) (show b2≠b3 by omega))) (N8 (EC (CW E.g3 (show b3≠b2 by omega))) rfl)];exact⟨by simp -implicitDefEqProofs only[AA,↓reduceIte,h0],(E.hx.set (by omega) _).set (by omega) _⟩
 .have hb:(EY m==0)=false:=by simpa using h0
  unfold emV X0;rw[if_neg h0,if_neg h0];refine PCall.res ?_ (ANI _);refine RV 3 (fun n H=>rfl) ?_;refine acN Tryz.func40 rfl ?_;show awp _ _ _ _ _ (EN _ [.cell 2 28,.cell 3 47,.tmp 4] _);have E:=Ee.mk' h m;simp -implicitDefEqProofs only[BC,BA,A8,AY,BB,AO,AQ,AL,BD,AX,AC,AA,AZ,AU,BH,A7,EX,FU,BQ,BX,BF,↓reduceIte,jA,jB,jC,enP,bxM,KF,VS]
  generalize h++[ABlk.live 2 [D5 m]]++[ABlk.live 4 [FD]]++[ABlk.live 1 [FY]]=H0 at E|-
  generalize (h++[ABlk.live 2 [D5 m]]++[ABlk.live 4 [FD]]).length=b3 at E|-
  generalize (h++[ABlk.live 2 [D5 m]]).length=b2 at E|-
  have o2:=E.o2; have o3:=E.o3; have hlt:=E.lt;simp -implicitDefEqProofs only[AY,AO,AQ,AL,BD,AX,AC,AA,AZ,BZ,CB,BU,AB,jD,jE,jF,↓reduceIte,jB,jC,ldM E.gm];refine(UH G m hm _).use ?_;simp -implicitDefEqProofs only[EZ,BC,BA,BK,BI,A8,CP,DI,AY,BB,AO,AQ,AL,BD,AX,AC,EM,AA,AZ,AU,BH,BG,A7,IV,D6,BR,AB,CY,EK,↓reduceIte,jA,jB,jC,enP,jP,bne,hb,QL,ACB,stZ E.g2 rfl,ABR (CW E.g3 (show b3≠b2 by omega)) rfl];rw[TI (ba:=b2) (bb:=b3) (by simp -implicitDefEqProofs only[AA,↓reduceIte,jA]) (by simp -implicitDefEqProofs only[AA,↓reduceIte,jA]) (JI (CW (EC E.g2) (show b2≠b3 by omega)) rfl) (N8 (EC (CW E.g3 (show b3≠b2 by omega))) rfl)];exact⟨by simp -implicitDefEqProofs only[AA,↓reduceIte],(E.hx.set (by omega) _).set (by omega) _⟩
theorem AAP (h:Hp)(v:Cvr):FX Tryz.prog (h++[ABlk.live 4 [FD]]) 28 (.ptr h.length 0 0) (.agg (ER v))=some (h++[ABlk.live 4 [ER v]]):=by rw[stV (CX _ _) rfl,O7]
theorem A6E (s t:SM)(xs ys:List (List AV))(a b:Int):LQ Tryz.prog 28 [(0,.sl s 1 xs),(1,.sl t 1 ys),(2,.int .i64 a),(3,.int .i64 b)]=some (.agg [.sl s 1 xs,.sl t 1 ys,.int .i64 a,.int .i64 b]):=by kernel_rfl
theorem A59 (h:Hp)(a b:Cvr):FO Tryz.prog false h 37 2 [(0,.agg (ER a)),(1,.agg (ER b))]=some (.sl .full 4 ([a,b].map ER),h):=by
 have h1:Tryz.prog.underlying 37=some (.slice 28):=by kernel_rfl
 have h3:TW Tryz.prog 28=some 4:=by kernel_rfl
 unfold FO;simp only[h1,ACK,h3];have h2:V6 4 0 [(0,AV.agg (ER a)),(1,AV.agg (ER b))]=some [ER a,ER b]:=rfl;have fr:∀x:Cvr,(ER x).all AV.frozen=true:=fun _=>rfl
 simp [h2,fr]
theorem ARQ (l:List Cvr)(e:Cvr)(i:Nat)(hi:i<l.length):(l.take (i+1)).foldl SS e=SS ((l.take i).foldl SS e) l[i]:=by
 rw[zL hi,List.foldl_append]; rfl
structure Mg (h H:Hp) (b4 b5:Nat) (c:Cvr):Prop where
 g4:H[b4]?=some (ABlk.live 4 [FD])
 g5:H[b5]?=some (ABlk.live 4 [ER c])
 o4:h.length<b4
 o5:b4<b5
 hx:ext h H
set_option maxHeartbeats 2000000 in
theorem AD9 (G:Nat->AV)(m:Mo)(e:Cvr)(l:List Cvr)(s:SM)(h:Hp)(he:G5 m e=true)(hl:∀v∈l,G5 m v=true)(hn:l.length<=1048576):PCall (En G) 85 [.agg (ER e),.sl s 4 (l.map ER)] h (.agg (ER (l.foldl SS e))):=by
 refine RV 2 (fun n H=>rfl) ?_;refine acN Tryz.func85 rfl ?_;show awp _ _ _ _ _ (EN _ [.cell 4 28] _)
 have E:Mg h (h++[ABlk.live 4 [ER e]]++[ABlk.live 4 [FD]]++[ABlk.live 4 [ER e]]) (h++[ABlk.live 4 [ER e]]).length (h++[ABlk.live 4 [ER e]]++[ABlk.live 4 [FD]]).length e :=
  ⟨CU (CX _ _),CX _ _,by simp,by simp,(((ext.rfl' h).app _).app _).app _⟩
 have g1:(h++[ABlk.live 4 [ER e]]++[ABlk.live 4 [FD]])[h.length]?=some (ABlk.live 4 [ER e]):=CU (CX _ _);simp -implicitDefEqProofs only[BC,BP,BA,A8,AY,BB,AO,AQ,AL,BD,AX,AC,EM,AA,AZ,AU,BH,BG,EX,FU,BQ,D6,DZ,BX,AB,CY,BF,BN,↓reduceIte,jA,jB,jC,enP,A3L,jP,bxV,KF,ldV g1,AAP,jI]
 generalize h++[ABlk.live 4 [ER e]]++[ABlk.live 4 [FD]]++[ABlk.live 4 [ER e]]=H0 at E|-
 generalize (h++[ABlk.live 4 [ER e]]++[ABlk.live 4 [FD]]).length=b5 at E|-
 generalize (h++[ABlk.live 4 [ER e]]).length=b4 at E|-
 refine DK (fun n F H=>∃i,n+i=l.length∧F 4=.ptr b4 0 0∧F 5=.ptr b5 0 0∧F 9=.sl s 4 (l.map ER)∧F 10=.int .i64 l.length∧F 11=.int .i64 (i:Nat)∧Mg h H b4 b5 ((l.take i).foldl SS e)) l.length ⟨0,by simp,by simp -implicitDefEqProofs only[AA,↓reduceIte,jA],by simp -implicitDefEqProofs only[AA,↓reduceIte,jA],by simp -implicitDefEqProofs only[AA,↓reduceIte,jA],by simp -implicitDefEqProofs only[AA,↓reduceIte,jA],by simp -implicitDefEqProofs only[AA,↓reduceIte]; rfl,by rw[zQ]; exact E⟩ ?_;clear E g1;rintro n F H ⟨i,hi,f4,f5,f9,f10,f11,E⟩;have o4:=E.o4; have o5:=E.o5;simp -implicitDefEqProofs only[BC,BA,BI,A8,AY,BB,AO,AQ,AL,BD,AX,AC,AA,AZ,BR,AB,CZ,↓reduceIte,jB,jC,enP,f10,f11];refine CV (fun hc=>?_) (fun hc=>?_)
 .have hi':i<l.length:=by simpa using hc
  have hs:=ARQ l e i hi';have hc1:=AA3 (l.take i) e he (fun v hv=>hl v (List.mem_of_mem_take hv));have hv1:=hl _ (jQ hi');generalize (l.take i).foldl SS e=c at hs hc1 E;have gc:(H++[ABlk.live 4 [ER l[i]]])[b5]?=some (ABlk.live 4 [ER c]):=CU E.g5;have gv:=CX H (ABlk.live 4 [ER l[i]]);have w1:=J6.1 (J5.1 hc1).2.2.2.1;simp -implicitDefEqProofs only[BC,BP,BA,BO,A8,AY,BB,AO,AQ,AL,BD,AX,AC,EM,AA,AZ,EX,BQ,D6,CE,BX,AB,CY,↓reduceIte,jA,jB,jC,enP,A3Q,jP,f9,f11,DU hi',FM AWP ACK Z4 hi',KF,AAP];refine E8 (by kernel_rfl) ?_;simp -implicitDefEqProofs only[F6,EH,DT,EI,FH,D9,GU,F9,AO,AA,AZ,BZ,BQ,BJ,AB,jD,jE,jF,↓reduceIte,jA,jM,jK,jG,jB,enP,MJ,L6,f5,lv0 gc,lv0 gv];refine⟨_,AED G _ _ _ _ _ (AXN hc1 hv1),?_⟩
  try simp -implicitDefEqProofs only[F6,EH,DT,EI,FH,D9,GU,F9,AO,AA,AZ,BZ,BQ,BJ,AB,jD,jE,jF,↓reduceIte,jA,jM,jG,jB,enP,L6,U9,f5,lv1 gc,lv1 gv]
  refine⟨_,AED G _ _ _ _ _ (AXO hc1 hv1),?_⟩
  try simp -implicitDefEqProofs only[F6,EH,DT,EI,FH,D9,GU,F9,AO,AA,AZ,BZ,BQ,BJ,AB,jD,jE,jF,↓reduceIte,jA,jM,jG,jB,enP,U9,WN,f5,lv2 gc,lv2 gv]
  refine⟨_,AFK G _ _ _ (J5.1 hc1).2.2.2.1 (J5.1 hv1).2.2.2.1,?_⟩
  try simp -implicitDefEqProofs only[F6,EZ,FW,EH,DT,EI,AOP,FH,D9,GU,F9,AO,AA,AZ,BZ,IV,BQ,BJ,AB,jD,jE,jF,↓reduceIte,jA,jM,jG,jB,enP,WN,f5,lv3 gc,lv3 gv]
  refine⟨_,AFK G _ _ _ (J5.1 hc1).2.2.2.2 (J5.1 hv1).2.2.2.2,?_⟩;have hst:=stV (v:=SS c l[i]) gc rfl;have hst':FX Tryz.prog (H++[ABlk.live 4 [ER l[i]]]) 28 (.ptr b5 0 0) (.agg [.sl (nm (OD c.pts l[i].pts)) 1 ((OD c.pts l[i].pts).map encL),.sl (nm (OD c.crs l[i].crs)) 1 ((OD c.crs l[i].crs).map encL),.int .i64 (Q8 c.sam l[i].sam),.int .i64 (Q8 c.ill l[i].ill)])=some ((H++[ABlk.live 4 [ER l[i]]]).set b5 (ABlk.live 4 [ER (SS c l[i])])):=hst
  try simp -implicitDefEqProofs only[F6,EH,DT,JZ,FB,EI,JV,BA,A8,EJ,EQ,AY,BB,AO,AQ,AL,BD,AX,AC,AA,AZ,AU,BH,BG,D6,BR,AB,CY,C9,↓reduceIte,jA,jG,jB,jC,enP,jP,A6E,f5,hst',f11,wrap_succ (show i<9223372036854775807 by omega)]
  refine⟨n-1,by omega,i+1,by omega,f4,trivial,f9,f10,rfl,?_⟩;rw[hs];exact⟨CW (CU E.g4) (by omega),EC gc,o4,o5,(E.hx.app _).set (by omega) _⟩
 .have hi':¬i<l.length:=by simpa using hc
  rw[jX (by omega)] at E;simp -implicitDefEqProofs only[BC,BA,BK,DJ,A8,EG,EU,ET,AY,BB,AO,AQ,AL,BD,AX,AC,EM,AA,AZ,BQ,D6,AB,CY,↓reduceIte,jA,jB,jC,enP,jP,f4,f5,ldV E.g5,stV E.g4 rfl];rw[ANJ (b:=b4) (by simp -implicitDefEqProofs only[AA,↓reduceIte,jA,f4]) (ldV (EC E.g4))];exact⟨rfl,E.hx.set (by omega) _⟩
theorem AWN {m:Mo}{l:List Cvr}(h:EY m≠0):VR m l=EY m:=by unfold VR; rw[if_neg h]
theorem AWM {m:Mo}{l:List Cvr}(h:EY m=0){v:Cvr}(hv:v∈l)(hf:G5 m v=false):VR m l=1:=by
 unfold VR;rw[if_pos h,if_neg];intro e;rw[zI.1 e v hv] at hf;cases hf
structure Mr (h H:Hp) (m:Mo) (a b:Cvr) (b4 b5 b6:Nat):Prop where
 gm:H[h.length]?=some (ABlk.live 2 [D5 m])
 ga:H[b4]?=some (ABlk.live 4 [ER a])
 gb:H[b5]?=some (ABlk.live 4 [ER b])
 g6:H[b6]?=some (ABlk.live 4 [FD])
 o4:h.length<b4
 o5:b4<b5
 o6:b5<b6
 hx:ext h H
theorem Mr.mk' (h:Hp)(m:Mo)(a b:Cvr):Mr h (h++[ABlk.live 2 [D5 m]]++[ABlk.live 4 [ER a]]++[ABlk.live 4 [ER b]]++[ABlk.live 4 [FD]]) m a b (h++[ABlk.live 2 [D5 m]]).length (h++[ABlk.live 2 [D5 m]]++[ABlk.live 4 [ER a]]).length (h++[ABlk.live 2 [D5 m]]++[ABlk.live 4 [ER a]]++[ABlk.live 4 [ER b]]).length :=
 ⟨CU (CU (CU (CX _ _))),CU (CU (CX _ _)),CU (CX _ _),CX _ _,by simp,by simp,by simp,((((ext.rfl' h).app _).app _).app _).app _⟩
def AKJ (m:Mo)(l:List Cvr):List AV:=if VR m l=0 then ER (AZW m l) else FD
theorem AXY (m:Mo)(l:List Cvr)(e:Int):CvR (.tup [.agg (AKJ m l),.int .i64 e]) (.tup [.agg (ER (Y6 m l)),.int .i64 e]):=by
 unfold AKJ Y6;split
 .exact CvR.refl _
 .exact CvR.tup (CvRL.cons AJL (CvRL.refl _))
theorem ATQ (m:Mo)(l:List Cvr)(e:Int)(n:Nat)(H:Hp):IX n H 3 (.tup [.agg (AKJ m l),.int .i64 e])=.tup [.agg (AKJ m l),.int .i64 e]:=by
 unfold AKJ; split<;>rfl
theorem AKI {m:Mo}{l:List Cvr}(h:VR m l≠0):AKJ m l=FD:=by unfold AKJ; rw[if_neg h]
structure Al (h H:Hp) (m:Mo) (c:Cvr) (b4 b6:Nat):Prop where
 gm:H[h.length]?=some (ABlk.live 2 [D5 m])
 g4:H[b4]?=some (ABlk.live 4 [FD])
 g6:H[b6]?=some (ABlk.live 4 [ER c])
 o4:h.length<b4
 o6:b4<b6
 hx:ext h H
theorem Al.app {h H:Hp}{m:Mo}{c:Cvr}{b4 b6:Nat}(E:Al h H m c b4 b6)(x:Hp):Al h (H++x) m c b4 b6:=⟨FZ E.gm,FZ E.g4,FZ E.g6,E.o4,E.o6,E.hx.app _⟩
theorem Al.up {h H H':Hp}{m:Mo}{c:Cvr}{b4 b6:Nat}(E:Al h H m c b4 b6)(hx:ext H H'):Al h H' m c b4 b6:=by
 obtain⟨x,rfl⟩:=hx; exact E.app x
theorem Al.put6 {h H:Hp}{m:Mo}{c:Cvr}{b4 b6:Nat}(E:Al h H m c b4 b6)(v:Cvr):Al h (H.set b6 (ABlk.live 4 [ER v])) m v b4 b6:=by
 have o4:=E.o4; have o6:=E.o6;exact⟨CW E.gm (by omega),CW E.g4 (by omega),EC E.g6,o4,o6,E.hx.set (by omega) _⟩
theorem A3N {h H0:Hp}{m:Mo}{b4:Nat}(c:Cvr)(t:Tk)(gm:H0[h.length]?=some (ABlk.live 2 [D5 m]))(g4:H0[b4]?=some (ABlk.live 4 [FD]))(o4:h.length<b4)(hx:ext h H0) :
  FX Tryz.prog (H0++[ABlk.live 4 [FD]]++[ABlk.live 1 [FY]]) 28 (.ptr H0.length 0 0) (.agg (ER c))=some ((H0++[ABlk.live 4 [FD]]++[ABlk.live 1 [FY]]).set H0.length (ABlk.live 4 [ER c])) ∧
  FX Tryz.prog ((H0++[ABlk.live 4 [FD]]++[ABlk.live 1 [FY]]).set H0.length (ABlk.live 4 [ER c])) 47 (.ptr (H0++[ABlk.live 4 [FD]]).length 0 0) (.agg (KL t))=some (((H0++[ABlk.live 4 [FD]]++[ABlk.live 1 [FY]]).set H0.length (ABlk.live 4 [ER c])).set (H0++[ABlk.live 4 [FD]]).length (ABlk.live 1 [KL t])) ∧
  Al h (((H0++[ABlk.live 4 [FD]]++[ABlk.live 1 [FY]]).set H0.length (ABlk.live 4 [ER c])).set (H0++[ABlk.live 4 [FD]]).length (ABlk.live 1 [KL t])) m c b4 H0.length:=by
 obtain⟨s1,s2,g6,_,hx5⟩:=AYQ H0 c t;exact⟨s1,s2,FP hx5 gm,FP hx5 g4,g6,o4,CJ g4,hx.trans hx5⟩
set_option maxHeartbeats 2000000 in
theorem AW8 (G:Nat->AV)(hG:GOk G)(hT:OB G)(m:Mo)(l:List Cvr)(s:SM)(hm:MoOk m)(hl:∀v∈l,CvOk v)(hn:l.length<=1048576)(h:Hp):PCall (En G) 34 [.agg (D5 m),.sl s 4 (l.map ER)] h (.tup [.agg (ER (Y6 m l)),.int .i64 (VR m l)]):=by
 refine PCall.res ?_ (AXY m l _);refine RV 3 (ATQ m l _) ?_;refine acN Tryz.func34 rfl ?_;show awp _ _ _ _ _ (EN _ [.cell 4 28,.tmp 5] _);have gm:(h++[ABlk.live 2 [D5 m]]++[ABlk.live 4 [FD]])[h.length]?=some (ABlk.live 2 [D5 m]):=CU (CX _ _);have g4:(h++[ABlk.live 2 [D5 m]]++[ABlk.live 4 [FD]])[(h++[ABlk.live 2 [D5 m]]).length]?=some (ABlk.live 4 [FD]):=CX _ _;have o4:h.length<(h++[ABlk.live 2 [D5 m]]).length:=by simp
 have hx:ext h (h++[ABlk.live 2 [D5 m]]++[ABlk.live 4 [FD]]):=((ext.rfl' h).app _).app _;simp -implicitDefEqProofs only[BC,BA,A8,AY,BB,AO,AQ,AL,BD,AX,AC,AA,AZ,AU,BH,A7,EX,FU,BQ,BX,BF,↓reduceIte,jA,jB,jC,enP,bxM,KF]
 generalize h++[ABlk.live 2 [D5 m]]++[ABlk.live 4 [FD]]=H0 at gm g4 hx|-
 generalize (h++[ABlk.live 2 [D5 m]]).length=b4 at g4 o4|-
 obtain⟨s1,s2,E⟩:=A3N (emV m) (emT m) gm g4 o4 hx;have l4:=CJ g4;simp -implicitDefEqProofs only[AY,AO,AQ,AL,BD,AX,AC,AA,AZ,BZ,CB,BU,AB,jD,jE,jF,↓reduceIte,jB,jC,ldM gm];refine(AFS G hG m hm _).use ?_;simp -implicitDefEqProofs only[zB,zG,BC,BA,BI,A8,AY,BB,AO,AQ,AL,BD,AX,AC,EM,AA,AZ,AU,BH,BG,A7,EX,D6,BR,FK,GN,BX,AB,CY,EK,↓reduceIte,jA,jB,jC,enP,jP,KF,VS,s1,s2,bne]
 generalize ((H0++[ABlk.live 4 [FD]]++[ABlk.live 1 [FY]]).set H0.length (ABlk.live 4 [ER (emV m)])).set (H0++[ABlk.live 4 [FD]]).length (ABlk.live 1 [KL (emT m)])=H1 at E|-
 generalize H0.length=b6 at E l4|-
 clear s1 s2 gm g4 hx;cases h1:(EY m==0)
 .have h1':EY m≠0:=by simpa using h1
  have hne:=AWN (l:=l) h1';simp -implicitDefEqProofs only[EZ,BC,BA,BK,A8,CP,DI,AY,BB,AO,AQ,AL,BD,AX,AC,EM,AA,AZ,BG,A7,IV,D6,AB,CY,↓reduceIte,jA,jB,jC,enP,jP,QL,stZ E.g4 rfl];rw[N9 (ba:=b4) (by simp -implicitDefEqProofs only[AA,↓reduceIte,jA]) (JI (EC E.g4) rfl)];exact⟨by simp -implicitDefEqProofs only[AA,↓reduceIte,hne]; rw[AKI (by rw[hne]; exact h1')],E.hx.set (by omega) _⟩
 have h1':EY m=0:=by simpa using h1
 have hem:emV m=JJ m:=by unfold emV; rw[if_pos h1']
 rw[hem] at E;simp -implicitDefEqProofs only[BC,BP,BA,BO,A8,DR,AY,BB,AO,AQ,AL,BD,AX,AC,AA,AZ,AU,BH,BG,DZ,AB,BF,BN,↓reduceIte,jA,jB,jR,jC,enP,A3L,jI];refine GM 0 (fun F H=>F 1=.sl s 4 (l.map ER)∧F 4=.ptr b4 0 0∧F 6=.ptr b6 0 0∧Al h H m (JJ m) b4 b6∧∀v∈l,G5 m v=true) (fun F H=>F 4=.ptr b4 0 0∧F 5=.int .i64 1∧H[b4]?=some (ABlk.live 4 [FD])∧Sm.ext h H∧VR m l=1) ?_ ?_ ?_
 .refine DK (fun n F H=>∃i,n+i=l.length∧F 1=.sl s 4 (l.map ER)∧F 2=.ptr h.length 0 0∧F 4=.ptr b4 0 0∧F 6=.ptr b6 0 0∧F 21=.sl s 4 (l.map ER)∧F 22=.int .i64 l.length∧F 23=.int .i64 (i:Nat)∧Al h H m (JJ m) b4 b6∧∀v∈l.take i,G5 m v=true) l.length ⟨0,by simp,by simp -implicitDefEqProofs only[AA,BF,BN,↓reduceIte,jA],by simp -implicitDefEqProofs only[AA,↓reduceIte,jA],by simp -implicitDefEqProofs only[AA,↓reduceIte,jA],by simp -implicitDefEqProofs only[AA,↓reduceIte,jA],by simp -implicitDefEqProofs only[AA,↓reduceIte,jA],by simp -implicitDefEqProofs only[AA,↓reduceIte,jA],by simp -implicitDefEqProofs only[AA,↓reduceIte]; rfl,E,by simp⟩ ?_
  clear E;rintro n F H ⟨i,hi,f1,f2,f4,f6,f21,f22,f23,E,hf⟩;simp -implicitDefEqProofs only[BC,BA,BI,A8,AY,BB,AO,AQ,AL,BD,AX,AC,AA,AZ,BR,AB,CZ,↓reduceIte,jB,jC,enP,f22,f23];refine CV (fun hc=>?_) (fun hc=>?_)
  .have hi':i<l.length:=by simpa using hc
   have E1:=E.app [ABlk.live 4 [ER l[i]]];have gT:=ldV (CX H (ABlk.live 4 [ER l[i]]));simp -implicitDefEqProofs only[BC,BP,BA,BO,A8,AY,BB,AO,AQ,AL,BD,AX,AC,EM,AA,AZ,BZ,EX,BQ,D6,CE,CB,BU,BX,AB,CY,jD,jE,jF,↓reduceIte,jA,jB,jC,enP,A3Q,jP,f2,f21,f23,DU hi',FM AWP ACK Z4 hi',KF,AAP,ldM E1.gm,gT];refine(XN G hG hT m l[i] hm (hl _ (jQ hi')) _).use ?_;simp -implicitDefEqProofs only[BI,A8,AY,BB,AO,AQ,AL,BD,AX,AC,AA,AZ,IG,AB,FI,↓reduceIte,jB,jC];cases hv:G5 m l[i]
   .simp -implicitDefEqProofs only[EZ,BC,BA,BK,A8,CP,EE,NM,FQ,DI,AY,BB,AO,AQ,AL,BD,AX,AC,EM,AA,AZ,AU,BH,A7,IV,D6,AB,CY,↓reduceIte,jA,jB,jC,enP,jP,QL,f4,stZ E1.g4 rfl]
    exact⟨trivial,trivial,EC E1.g4,E1.hx.set (by have:=E1.o4; omega) _,AWM h1' (jQ hi') hv⟩
   .simp -implicitDefEqProofs only[BA,BO,A8,EJ,EQ,DR,AY,BB,AO,AQ,AL,BD,AX,AC,AA,AZ,AU,BH,BG,BR,AB,C9,↓reduceIte,jA,jB,jR,jC,enP,f23,wrap_succ (show i<9223372036854775807 by omega)]
    refine⟨n-1,by omega,i+1,by omega,f1,f2,f4,f6,f21,f22,rfl,E1,fun v hv'=>?_⟩;rw[zL hi'] at hv';rcases List.mem_append.1 hv' with hv'|hv'
    .exact hf v hv'
    .simp at hv'; rw[hv']; exact hv
  .have hi':¬i<l.length:=by simpa using hc
   rw[jX (by omega)] at hf;simp -implicitDefEqProofs only[DJ,EG,KC,ET,AA,↓reduceIte,jA];exact⟨f1,f4,f6,E,hf⟩
 .rintro F H ⟨f1,f4,f6,E,hf⟩
  have hz:VR m l=0:=XV.2 ⟨h1',hf⟩;have o6:=E.o6;simp -implicitDefEqProofs only[BC,BA,A8,EU,AY,AO,AQ,AL,BD,AX,AC,AA,AZ,BZ,BG,BQ,CB,BU,AB,jD,jE,jF,↓reduceIte,jA,jB,jC,enP,f1,f4,f6,ldV E.g6];refine(AD9 G m (JJ m) l s _ (MO h1') hf hn).use ?_;simp -implicitDefEqProofs only[BK,A8,AY,BB,AO,AQ,AL,BD,AX,AC,EM,AA,AZ,AU,BH,A7,D6,CY,↓reduceIte,jA,jB,jC,enP,jP,f4,stV E.g4 rfl];rw[N9 (ba:=b4) (by simp -implicitDefEqProofs only[AA,↓reduceIte,jA,f4]) (ldV (EC E.g4))];exact⟨by simp -implicitDefEqProofs only[AA,↓reduceIte]; unfold AKJ AZW; rw[hz]; rfl,E.hx.set (by omega) _⟩
 .rintro F H ⟨f4,f5,g4,hx,he⟩
  simp -implicitDefEqProofs only[CP,EE];rw[N9 (ba:=b4) f4 (JI g4 rfl)];exact⟨by rw[f5,he,AKI (by rw[he]; decide)],hx⟩
set_option maxHeartbeats 1000000 in
theorem AOI (G:Nat->AV)(hG:GOk G)(hT:OB G)(m:Mo)(a b:Cvr)(hm:MoOk m)(ha:CvOk a)(hb:CvOk b)(h:Hp):PCall (En G) 37 [.agg (D5 m),.agg (ER a),.agg (ER b)] h (.tup [.agg (ER (Y6 m [a,b])),.int .i64 (VR m [a,b])]):=by
 refine RV 3 (fun n H=>rfl) ?_;refine acN Tryz.func37 rfl ?_;show awp _ _ _ _ _ (EN _ [.cell 6 28,.tmp 7] _);have t:=Mr.mk' h m a b;simp -implicitDefEqProofs only[BC,BA,A8,AY,BB,AO,AQ,AL,BD,AX,AC,AA,AZ,AU,BH,A7,EX,FU,BQ,BX,BF,BN,↓reduceIte,jA,jB,jC,enP,bxM,bxV,KF]
 generalize h++[ABlk.live 2 [D5 m]]++[ABlk.live 4 [ER a]]++[ABlk.live 4 [ER b]]++[ABlk.live 4 [FD]]=H at t|-
 generalize (h++[ABlk.live 2 [D5 m]]++[ABlk.live 4 [ER a]]++[ABlk.live 4 [ER b]]).length=b6 at t|-
 generalize (h++[ABlk.live 2 [D5 m]]++[ABlk.live 4 [ER a]]).length=b5 at t|-
 generalize (h++[ABlk.live 2 [D5 m]]).length=b4 at t|-
 have o4:=t.o4; have o5:=t.o5; have o6:=t.o6;simp -implicitDefEqProofs only[EZ,FW,AY,AO,AQ,AL,BD,AX,AC,AA,AZ,BZ,EP,BQ,CB,BU,BX,AB,jD,jE,jF,↓reduceIte,jA,jB,jC,enP,ldM t.gm,ldV t.ga,ldV t.gb,A59];refine(AW8 G hG hT m [a,b] .full hm (fun v hv=>by simp at hv; rcases hv with rfl|rfl<;>assumption) (by simp) _).use ?_;simp -implicitDefEqProofs only[zB,zG,BK,A8,AY,BB,AO,AQ,AL,BD,AX,AC,EM,AA,AZ,A7,D6,FK,GN,AB,CY,↓reduceIte,jA,jB,jC,enP,jP,stV t.g6 rfl];rw[N9 (ba:=b6) (by simp -implicitDefEqProofs only[AA,↓reduceIte,jA]) (ldV (EC t.g6))];exact⟨by simp -implicitDefEqProofs only[AA,↓reduceIte],t.hx.set (by omega) _⟩
end Go.Proofs.YtocilianjfhifaaGreatDoor.Cov
