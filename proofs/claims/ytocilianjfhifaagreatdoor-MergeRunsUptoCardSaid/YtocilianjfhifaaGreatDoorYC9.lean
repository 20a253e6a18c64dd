/- Part 9 of the proof (A1, Q1, Q2, Q3, A2, Q4, Q5, Q6, Q7, Q8); no condition. -/
import Derived.Test.YtocilianjfhifaaGreatDoorYC8
set_option linter.unusedVariables false
namespace Go.Proofs.YtocilianjfhifaaGreatDoor.Cov
open Sm Bins Go.RowKit
open Bool renaming and_eq_true→jV
open List renaming map_cons→jD
def ACH (a b:Int):Int:=min (a+b) 1099511627776
theorem IZ {n:Int}:II n=true↔0<=n∧n<=1099511627776:=by unfold II; simp
theorem WO {a b:Int}(ha:II a=true)(hb:II b=true):II (ACH a b)=true:=by
 rw[IZ] at *; unfold ACH; omega
theorem XV {n:Int}{p:Bool}(h:countB n p=true):II n=true:=by unfold countB at h; simp only[jV] at h; exact h.1
theorem ANE {a b:Int}{p:Bool}(ha:countB a p=true)(hb:countB b p=true):countB (ACH a b) p=true:=by
 unfold countB at *;simp only[jV] at *;refine⟨WO ha.1 hb.1,?_⟩;cases p
 .have h1:=ha.2; have h2:=hb.2
  simp only[Bool.false_or,beq_iff_eq] at h1 h2;subst h1; subst h2; rfl
 .rfl
def TV (x y:List Int):List Int:=List.zipWith ACH x y
def ZW (x y:Is):Is:=⟨nm (TV x.l y.l),TV x.l y.l⟩
def LG (a b:List Is):List Is:=List.zipWith ZW a b
def O6 (a b:Cvr):Cvr:=⟨nm (LG a.pts b.pts),LG a.pts b.pts,nm (LG a.crs b.crs),LG a.crs b.crs,ACH a.sam b.sam,ACH a.ill b.ill⟩
def WL (x:List Int):Prop:=∀n∈x,II n=true
theorem P7:∀ {x:List Int} {p:Nat->Bool} {k:Nat},PH p k x=true->WL x
 | [],_,_,_=>fun _ h=>by cases h
 | n::x,p,k,h=>by
   simp only[PH,jV] at h;intro m hm;rcases List.mem_cons.1 hm with rfl|hm
   .exact XV h.1
   .exact P7 h.2 m hm
theorem ADM:∀ {x y:List Int} {p:Nat->Bool} {k:Nat},PH p k x=true->PH p k y=true->PH p k (TV x y)=true
 | [],_,_,_,_,_=>by simp [TV,PH]
 | _::_,[],_,_,_,_=>by simp [TV,PH]
 | a::x,b::y,p,k,ha,hb=>by
   simp only[PH,jV] at ha hb;have ih:=ADM ha.2 hb.2;simp only[TV,List.zipWith_cons_cons,PH,jV];exact⟨ANE ha.1 hb.1,ih⟩
theorem AXD {p:Pt}{x y:Is}(hx:okP p x=true)(hy:okP p y=true):okP p (ZW x y)=true:=by
 unfold okP at *;simp only[jV,beq_iff_eq] at *;refine⟨?_,ADM hx.2 hy.2⟩;show(TV x.l y.l).length=_;unfold TV; rw[List.length_zipWith]; omega
theorem AXF {m:Mo}{c:Cr}{x y:Is}(hx:okC m c x=true)(hy:okC m c y=true):okC m c (ZW x y)=true:=by
 unfold okC at *;simp only[jV,beq_iff_eq] at *;refine⟨?_,ADM hx.2 hy.2⟩;show(TV x.l y.l).length=_;unfold TV; rw[List.length_zipWith]; omega
theorem AEB {α:Type}{ok:α->Is->Bool}(hok:∀a x y,ok a x=true->ok a y=true->ok a (ZW x y)=true):∀ {ws:List α} {xs ys:List Is},KA ok ws xs=true->KA ok ws ys=true->KA ok ws (LG xs ys)=true
 | [],[],[],_,_=>rfl
 | a::ws,x::xs,y::ys,hx,hy=>by
   simp only[KA,jV] at hx hy;simp only[LG,List.zipWith_cons_cons,KA,jV];exact⟨hok _ _ _ hx.1 hy.1,AEB hok hx.2 hy.2⟩
 | [],_::_,_,h,_=>by cases h
 | [],[],_::_,_,h=>by cases h
 | _::_,[],_,h,_=>by cases h
 | _::_,_::_,[],_,h=>by cases h
theorem JK {m:Mo}{v:Cvr}:GK m v=true↔EU m=0∧KA okP m.pts v.pts=true∧KA (okC m) m.crs v.crs=true∧II v.sam=true∧II v.ill=true:=by
 unfold GK;simp only[jV,beq_iff_eq];exact⟨fun⟨⟨⟨⟨a,b⟩,c⟩,d⟩,e⟩=>⟨a,b,c,d,e⟩,fun⟨a,b,c,d,e⟩=>⟨⟨⟨⟨a,b⟩,c⟩,d⟩,e⟩⟩
theorem AAS {m:Mo}{a b:Cvr}(ha:GK m a=true)(hb:GK m b=true):GK m (O6 a b)=true:=by
 rw[JK] at *;obtain⟨h1,h2,h3,h4,h5⟩:=ha;obtain⟨_,k2,k3,k4,k5⟩:=hb;exact⟨h1,AEB (fun _ _ _=>AXD) h2 k2,AEB (fun _ _ _=>AXF) h3 k3,WO h4 k4,WO h5 k5⟩
def zeros (n:Nat):List Int:=List.replicate n 0
def zIs (n:Nat):Is:=⟨.full,zeros n⟩
def zPs (m:Mo):List Is:=m.pts.map fun p=>zIs p.bins.length
def zCs (m:Mo):List Is:=m.crs.map fun c=>zIs (GL (szs m c.pts))
def KR (m:Mo):Cvr:=⟨nm (zPs m),zPs m,nm (zCs m),zCs m,0,0⟩
theorem UD:∀(n:Nat) {p:Nat->Bool} {k:Nat},PH p k (zeros n)=true
 | 0,_,_=>rfl
 | n+1,p,k=>by
   have ih:=UD n (p:=p) (k:=k+1);unfold zeros at *;simp only[List.replicate_succ,PH,ih,Bool.and_true];unfold countB; cases p k<;>rfl
theorem WB {α:Type}{ok:α->Is->Bool}(f:α->Is)(hf:∀a,ok a (f a)=true):∀ws:List α,KA ok ws (ws.map f)=true
 | []=>rfl
 | a::ws=>by simp only[jD,KA,hf,WB f hf ws,Bool.and_true]
theorem OQ {m:Mo}(h:EU m=0):GK m (KR m)=true:=by
 rw[JK];refine⟨h,WB _ (fun p=>?_) _,WB _ (fun c=>?_) _,rfl,rfl⟩
 .unfold okP; simp [zIs,UD]; simp [zeros]
 .unfold okC; simp [zIs,UD]; simp [zeros]
structure Dat where
 pts:List (List Int)
 crs:List (List Int)
 sam:Int
 ill:Int
def QC (v:Cvr):Dat:=⟨v.pts.map (·.l),v.crs.map (·.l),v.sam,v.ill⟩
def AG3 (a b:List (List Int)):List (List Int):=List.zipWith TV a b
def A4G (a b:Dat):Dat:=⟨AG3 a.pts b.pts,AG3 a.crs b.crs,ACH a.sam b.sam,ACH a.ill b.ill⟩
theorem AP0:∀a b:List Is,(LG a b).map (·.l)=AG3 (a.map (·.l)) (b.map (·.l))
 | [],_=>by simp [LG,AG3]
 | _::_,[]=>by simp [LG,AG3]
 | x::a,y::b=>by
   have:=AP0 a b;unfold LG AG3 at *;simp only[List.zipWith_cons_cons,jD,this]; rfl
theorem AK5 (a b:Cvr):QC (O6 a b)=A4G (QC a) (QC b):=by
 unfold QC A4G O6; simp only[AP0]
theorem AMG {p:Pt}{x:Is}(h:okP p x=true):WL x.l:=by
 unfold okP at h; simp only[jV] at h; exact P7 h.2
theorem AMH {m:Mo}{c:Cr}{x:Is}(h:okC m c x=true):WL x.l:=by
 unfold okC at h; simp only[jV] at h; exact P7 h.2
theorem AOW {p:Pt}{x:Is}(h:okP p x=true):x.l.length=p.bins.length:=by
 unfold okP at h; simp only[jV,beq_iff_eq] at h; exact h.1
theorem AOY {m:Mo}{c:Cr}{x:Is}(h:okC m c x=true):x.l.length=GL (szs m c.pts):=by
 unfold okC at h; simp only[jV,beq_iff_eq] at h; exact h.1
theorem RY {α:Type}{ok:α->Is->Bool}(hok:∀a x y,x.l=y.l->ok a x=ok a y):∀(ws:List α) (xs ys:List Is),xs.map (·.l)=ys.map (·.l)->KA ok ws xs=KA ok ws ys
 | [],[],[],_=>rfl
 | a::ws,x::xs,y::ys,h=>by
   simp only[jD,List.cons.injEq] at h;simp only[KA,hok a x y h.1,RY hok ws xs ys h.2]
 | [],x::xs,y::ys,h=>rfl
 | a::ws,[],[],h=>rfl
 | _,[],_::_,h=>by simp at h
 | _,_::_,[],h=>by simp at h
theorem ARC {m:Mo}{a b:Cvr}(h:QC a=QC b):GK m a=GK m b:=by
 unfold QC at h;simp only[Dat.mk.injEq] at h;obtain⟨h1,h2,h3,h4⟩:=h;unfold GK;rw[RY (fun p x y e=>by unfold okP; rw[e]) m.pts a.pts b.pts h1,RY (fun c x y e=>by unfold okC; rw[e]) m.crs a.crs b.crs h2,h3,h4]
end Go.Proofs.YtocilianjfhifaaGreatDoor.Cov
set_option linter.unusedSimpArgs false
set_option maxRecDepth 8000
namespace Go.Proofs.YtocilianjfhifaaGreatDoor.Cov
open Sm Bins Go.RowKit
open Bool renaming not_false→jC,false_eq_true→jY,or_false→jQ,and_eq_true→jV,not_true→jT,or_true→qZ
open Int renaming toNat_natCast→wF
open List renaming take_succ_eq_append_getElem→zL,map_cons→jD,map_nil→jE,append_assoc→zA,getElem?_eq_getElem→jU,all_eq_true→zI,contains_nil→jJ,length_map→jI,take_zero→zN,eq_nil_of_length_eq_zero→qY,getElem_mem→jS,append_nil→jF,drop_zero→qC,take_of_length_le→jX,length_take→zD,contains_cons→jR,getElem?_set_ne→zU,drop_eq_getElem_cons→zJ,drop_eq_nil_of_le→jW,length_set→qI,length_append→qB,getElem?_cons_zero→zB,getElem?_cons_succ→zG
open Nat renaming le_of_ble_eq_true→jH,reduceEqDiff→jA,reduceBEq→jO,reduceAdd→jK,zero_add→jG,le_trans→zZ,add_zero→jL,le_refl→jM
open Option renaming getD_some→jB,getD_none→jP
theorem AE6 (G:Nat->AV)(a b:Int)(h:Hp)(ha:II a=true)(hb:II b=true):PCall (En G) 147 [.int .i64 a,.int .i64 b] h (.int .i64 (ACH a b)):=by
 have h1:=IZ.1 ha;have h2:=IZ.1 hb;refine acN Tryz.func147 rfl ?_;show awp _ _ _ _ _ (EN _ [.tmp 4] _);simp -implicitDefEqProofs only[BC,BA,BK,A8,CG,AY,BB,AO,AQ,AL,BD,AX,AC,AA,AZ,AU,BH,BG,A7,BR,AA8,AB,CZ,V5,BF,BN,↓reduceIte,jA,jB,jC,enP,wrap_i64 (n:=a+b) (by omega) (by omega)];exact⟨rfl,trivial⟩
structure Sh2 (a b:List Is):Prop where
 len:a.length=b.length
 row:∀i (ha:i<a.length) (hb:i<b.length),a[i].l.length=b[i].l.length∧a[i].l≠[]∧WL a[i].l∧WL b[i].l∧a[i].l.length<=1048576
 num:a.length<=1048576
theorem ARI (g:List Int)(k:Nat)(hk:k<g.length):((g.take k++zeros (g.length-k)).map encI).set k (encI g[k])=(g.take (k+1)++zeros (g.length-(k+1))).map encI:=by
 have hz:zeros (g.length-k)=0::zeros (g.length-(k+1)):=by
  unfold zeros;rw[show g.length-k=(g.length-(k+1))+1 by omega,List.replicate_succ]
 rw[hz,zL hk];simp only[List.map_append,jD,jE,zA,List.singleton_append];rw[List.set_append_right _ _ (by simp; omega)];simp [Nat.min_eq_left (Nat.le_of_lt hk)]
theorem AUI (g:List Int):(g.take g.length++zeros (g.length-g.length)).map encI=g.map encI:=by
 rw[List.take_length,Nat.sub_self]; simp [zeros]
theorem AUH (g:List Int)(k:Nat)(hk:k<=g.length):(g.take k++zeros (g.length-k)).length=g.length:=by
 simp [zeros]; omega
theorem mkI (h:Hp)(n:Nat)(hn:n<=1048576):I9 Tryz.prog true h 57 (.int .i64 (n:Int)) (.int .i64 (n:Int))=some (.own h.length 0 n,h++[.live 1 ((zeros n).map encI)]):=by
 rw[A0W h n hn,AII];simp [zeros]
theorem AWL {h:Hp}{o j:Nat}{rows:List (List AV)}{x:Int}(ho:h[o]?=some (.live 1 rows))(hj:∃v,rows[j]?=some [v]):FW Tryz.prog h 3 (.ptr o j 0) (.int .i64 x)=some (h.set o (.live 1 (rows.set j (encI x)))):=by
 obtain⟨v,hv⟩:=hj;rw[KU (PV _ _) sz3 ho hv (by simp)]; rfl
theorem OZ (h:Hp)(x y:ABlk):(h++[x]).set h.length y=h++[y]:=by simp
theorem AS2 {g:List Int}{j:Nat}(hj:j<g.length):∃v,(g.map encI)[j]?=some [v]:=⟨_,by rw[List.getElem?_map,jU hj]; rfl⟩
theorem AEU (h:Hp)(m:SM)(xs:List (List AV)):FY Tryz.prog false h 26 1 [(0,.sl m 1 xs)]=some (.sl .full 1 [[.sl m 1 xs]],h):=by kernel_rfl
theorem ARA:Frz encL:=fun _ _ _ _=>⟨rfl,rfl⟩
theorem AZU (g:List Int):PT (g.map encI)=true:=by
 unfold PT;rw[zI];intro r hr;obtain⟨x,_,rfl⟩:=List.mem_map.1 hr;rfl
theorem ATL {α:Type}{ys:List α}(h:ys≠[]):nm ys=.any:=by cases ys with
 | nil=>exact absurd rfl h
 | cons _ _=>rfl
theorem AG1 (a b:List Is)(h:a.length=b.length):(LG a b).length=a.length:=by unfold LG; rw[List.length_zipWith]; omega
theorem ALP (x y:List Int)(h:x.length=y.length):(TV x y).length=x.length:=by unfold TV; rw[List.length_zipWith]; omega
theorem AG2 (a b:List Is)(i:Nat)(ha:i<a.length)(hb:i<b.length)(hi:i<(LG a b).length):(LG a b)[i]=ZW a[i] b[i]:=List.getElem_zipWith
theorem ALQ (x y:List Int)(i:Nat)(ha:i<x.length)(hb:i<y.length)(hi:i<(TV x y).length):(TV x y)[i]=ACH x[i] y[i]:=List.getElem_zipWith
set_option maxHeartbeats 1000000 in
theorem ADZ (G:Nat->AV)(a b:List Is)(s t:SM)(h:Hp)(hs:Sh2 a b):PCall (En G) 146 [.sl s 1 (a.map encL),.sl t 1 (b.map encL)] h (.sl (nm (LG a b)) 1 ((LG a b).map encL)):=by
 refine MW ARA ?_;have hl:=hs.len;have hn:=hs.num;have hsl:=AG1 a b hl;refine LV (H:=hint [] [(43,[42])]) (enM G) Tryz.func146 rfl (by kernel_rfl) (by kernel_rfl) (jH (by kernel_rfl)) ?_;show awp _ _ _ _ _ (EN _ [.tmp 4] _);simp -implicitDefEqProofs only[C9,jJ,jO,BC,BP,BA,A8,AY,BB,AL,BD,AX,AC,AA,AZ,AU,BH,IK,BG,A7,D7,AB,BF,↓reduceIte,jA,jB,jC,enP,XI,jY,G8,jI];refine DK (fun n F H=>∃i,n+i=a.length∧F 1=.sl t 1 (b.map encL)∧F 10=.sl s 1 (a.map encL)∧F 11=.int .i64 a.length∧F 12=.int .i64 (i:Nat)∧ext h H∧outG 1 encL h ((LG a b).take i) (F 5) H) a.length ⟨0,by simp,by simp -implicitDefEqProofs only[AA,BF,BN,↓reduceIte,jA],by simp -implicitDefEqProofs only[AA,↓reduceIte,jA],by simp -implicitDefEqProofs only[AA,↓reduceIte,jA],by simp -implicitDefEqProofs only[AA,↓reduceIte]; rfl,ext.rfl' h,by rw[zN]; exact outG.nil _ _ _ _⟩ ?_;rintro n F H ⟨i,hi,f1,f10,f11,f12,he,ho⟩;simp -implicitDefEqProofs only[C9,jJ,jO,BC,BA,BI,A8,AY,BB,AL,BD,AX,AC,AA,AZ,BR,AB,DC,↓reduceIte,jB,jC,enP,jY,G8,f11,f12];refine CU (fun hc=>?_) (fun hc=>?_)
 .have ha:i<a.length:=by simpa using hc
  have hb:i<b.length:=by omega
  obtain⟨r1,r2,r3,r4,r5⟩:=hs.row i ha hb;have hSi:i<(LG a b).length:=by omega
  have hget:=AG2 a b i ha hb hSi;have htk:=zL hSi;rw[hget] at htk;have hgl:=ALP _ _ r1;have hgi:=ALQ a[i].l b[i].l;have hgne:TV a[i].l b[i].l≠[]:=fun e=>r2 (qY (by rw[<-hgl,e]; rfl))
  have hadd:ZW a[i] b[i]=⟨.any,TV a[i].l b[i].l⟩:=by unfold ZW; rw[ATL hgne]
  rw[hadd] at htk;generalize TV a[i].l b[i].l=g at hgl hgi hgne htk;simp -implicitDefEqProofs only[C9,jJ,jO,BC,BP,BA,BO,A8,AY,BB,AL,BD,AX,AC,AA,AZ,AU,BH,BG,A7,BQ,JI,CE,D7,BZ,AB,↓reduceIte,jA,jB,jC,enP,N7,JA,jY,G8,f10,f12,DU ha,DF KC ha,NE,jI,mkI _ _ r5];refine GN 2 (fun F' H'=>F' 1=.sl t 1 (b.map encL)∧F' 10=.sl s 1 (a.map encL)∧F' 11=.int .i64 a.length∧F' 12=.int .i64 (i:Nat)∧F' 5=F 5∧F' 8=.own H.length 0 g.length∧H'=H++[.live 1 (g.map encI)]) (fun _ _=>False) ?_ ?_ (fun _ _ hh=>hh.elim)
  .refine DK (fun n F' H'=>∃k,n+k=g.length∧F' 1=.sl t 1 (b.map encL)∧F' 10=.sl s 1 (a.map encL)∧F' 11=.int .i64 a.length∧F' 12=.int .i64 (i:Nat)∧F' 5=F 5∧F' 8=.own H.length 0 g.length∧F' 7=.sl a[i].m 1 (a[i].l.map encI)∧F' 6=.int .i64 (i:Nat)∧F' 21=.int .i64 g.length∧F' 22=.int .i64 (k:Nat)∧H'=H++[.live 1 ((g.take k++zeros (g.length-k)).map encI)]) g.length ⟨0,by simp,by simp -implicitDefEqProofs only[AA,↓reduceIte,jA,f1],by simp -implicitDefEqProofs only[AA,↓reduceIte,jA,f10],by simp -implicitDefEqProofs only[AA,↓reduceIte,jA,f11],by simp -implicitDefEqProofs only[AA,↓reduceIte,jA,f12],by simp -implicitDefEqProofs only[AA,↓reduceIte,jA],by simp -implicitDefEqProofs only[AA,↓reduceIte,jA]; rw[hgl],by simp -implicitDefEqProofs only[AA,↓reduceIte,jA],by simp -implicitDefEqProofs only[AA,↓reduceIte,jA],by simp -implicitDefEqProofs only[AA,↓reduceIte,jA]; rw[hgl],by simp -implicitDefEqProofs only[AA,↓reduceIte]; rfl,by rw[zN,List.nil_append,Nat.sub_zero,hgl]⟩ ?_
   rintro n' F' H' ⟨k,hk,g1,g10,g11,g12,g5,g8,g7,g6,g21,g22,rfl⟩;simp -implicitDefEqProofs only[C9,jJ,jO,BC,BA,BI,A8,AY,BB,AL,BD,AX,AC,AA,AZ,BR,AB,DC,↓reduceIte,jB,jC,enP,jY,G8,g21,g22];refine CU (fun hc=>?_) (fun hc=>?_)
   .have hk':k<g.length:=by simpa using hc
    have hka:k<a[i].l.length:=by omega
    have hkb:k<b[i].l.length:=by omega
    have hw:=AE6 G _ _ (H++[.live 1 ((g.take k++zeros (g.length-k)).map encI)]) (r3 _ (jS hka)) (r4 _ (jS hkb));rw[<-hgi k hka hkb hk'] at hw;have hrow:=AS2 (g:=g.take k++zeros (g.length-k)) (j:=k) (by rw[AUH g k (by omega)]; exact hk');simp -implicitDefEqProofs only[C9,jJ,jO,BC,BP,BA,BO,A8,AY,BB,AL,BD,AX,AC,AA,AZ,BG,A7,↓reduceIte,jA,jB,jC,jY,G8,g22];refine EZ (by kernel_rfl) ?_;simp -implicitDefEqProofs only[FZ,C9,jJ,ED,DN,EF,FO,FB,EE,GH,F8,AA,AZ,BX,BQ,CE,AB,jD,jE,jF,↓reduceIte,jA,jK,jB,enP,N7,JF,g1,g6,g7,g8,DU hka,DF ag3 hka,encI0,DU hb,DF KC hb,NE,DU hkb,DF ag3 hkb];refine⟨_,hw,?_⟩
    try simp -implicitDefEqProofs only[FZ,C9,jJ,jO,ED,DN,JJ,E8,EF,JH,BA,A8,EJ,EQ,AY,BB,AL,BD,AX,AC,AA,AZ,AU,BH,BG,D5,BR,AB,CX,CZ,↓reduceIte,jA,jG,jB,jC,enP,jP,jY,G8,g22,L6 (CY H _) hk',jG,AWL (CY H _) hrow,OZ,ARI g k hk',wrap_succ (show k<9223372036854775807 by omega)]
    exact⟨n'-1,by omega,k+1,by omega,g1,g10,g11,g12,g5,g8,g7,g6,g21,rfl,rfl⟩
   .have hk':¬k<g.length:=by simpa using hc
    obtain rfl:k=g.length:=by omega
    simp -implicitDefEqProofs only[DJ,EI,J3,ET,AA,↓reduceIte,jA];exact⟨g1,g10,g11,g12,g5,g8,by rw[AUI]⟩
  .rintro F' H' ⟨g1,g10,g11,g12,g5,g8,rfl⟩
   have hz:=AD5 (H:=H++[.live 1 (g.map encI)]) (i:=42) (off:=0) (len:=g.length) (CY H _) (by simp) (by rw[qC,jX (by simp)]; exact AZU g);rw[qC,jX (by simp),OZ] at hz;obtain⟨v',H2,hap,ho',_,he',_,_⟩:=(ho.app [.dead]).append YU VJ AB6 ZQ (by omega) (by rw[zD]; omega) (he.app [.dead]) ⟨.any,g⟩;simp -implicitDefEqProofs only[EY,FT,C9,jJ,jO,BA,A8,EW,AY,AL,BD,AX,AC,AA,AZ,BG,EP,GR,BZ,↓reduceIte,jA,jB,jC,enP,jY,G8,g5,g8,ZG,AL,hz,AEU];refine HY (v:=v') (h:=H2) hap ?_;simp -implicitDefEqProofs only[C9,jJ,jO,BA,A8,EJ,EQ,AY,BB,AL,BD,AX,AC,AA,AZ,AU,BH,BG,A7,BR,AB,CZ,↓reduceIte,jA,jB,jC,enP,jY,G8,g12,wrap_succ (show i<9223372036854775807 by omega)];refine⟨n-1,by omega,i+1,by omega,g1,g10,g11,rfl,he',?_⟩;rw[htk]; exact ho'
 .have ha:¬i<a.length:=by simpa using hc
  rw[jX (by omega)] at ho;simp -implicitDefEqProofs only[C9,jJ,jO,BC,BA,BK,DJ,A8,EI,EW,ET,CG,AY,BB,AL,BD,AX,AC,AA,AZ,BG,A7,↓reduceIte,jA,jB,jC,jY,G8];exact⟨he,ho⟩
set_option maxHeartbeats 1000000 in
theorem AJC (G:Nat->AV)(a b:List Is)(s t:SM)(h:Hp)(hs:Sh2 a b):PCall (En G) 87 [.sl s 1 (a.map encL),.sl t 1 (b.map encL)] h (.sl (nm (LG a b)) 1 ((LG a b).map encL)):=by
 refine MW ARA ?_;have hl:=hs.len;have hn:=hs.num;have hsl:=AG1 a b hl;refine LV (H:=hint [42] [(45,[44])]) (enM G) Tryz.func87 rfl (by kernel_rfl) (by kernel_rfl) (jH (by kernel_rfl)) ?_;show awp _ _ _ _ _ (EN _ [.tmp 4] _);simp -implicitDefEqProofs only[C9,jR,jJ,jO,jQ,BC,BP,BA,A8,AY,BB,AL,BD,AX,AC,AU,BH,IK,A7,↓reduceIte,jB,jC,enP,jY,G8,jI];refine DK (fun n F H=>∃i,n+i=a.length∧F 0=.sl s 1 (a.map encL)∧F 1=.sl t 1 (b.map encL)∧F 6=.int .i64 (i:Nat)∧ext h H∧outG 1 encL h ((LG a b).take i) (F 5) H) a.length ⟨0,by simp,by simp -implicitDefEqProofs only[AA,BF,↓reduceIte,jA],by simp -implicitDefEqProofs only[AA,BF,BN,↓reduceIte,jA],by simp -implicitDefEqProofs only[AA,↓reduceIte]; rfl,ext.rfl' h,by rw[zN]; exact outG.nil _ _ _ _⟩ ?_;rintro n F H ⟨i,hi,f0,f1,f6,he,ho⟩;simp -implicitDefEqProofs only[C9,jR,jJ,jO,jQ,BC,BA,BI,A8,AY,BB,AL,BD,AX,AC,AA,AZ,BG,BR,D7,AB,DC,↓reduceIte,jA,jB,jC,enP,XI,jY,G8,f0,f6,jI];refine CU (fun hc=>?_) (fun hc=>?_)
 .have ha:i<a.length:=by simpa using hc
  have hb:i<b.length:=by omega
  obtain⟨r1,r2,r3,r4,r5⟩:=hs.row i ha hb;have hSi:i<(LG a b).length:=by omega
  have hget:=AG2 a b i ha hb hSi;have htk:=zL hSi;rw[hget] at htk;have hgl:=ALP _ _ r1;have hgi:=ALQ a[i].l b[i].l;have hgne:TV a[i].l b[i].l≠[]:=fun e=>r2 (qY (by rw[<-hgl,e]; rfl))
  have hadd:ZW a[i] b[i]=⟨.any,TV a[i].l b[i].l⟩:=by unfold ZW; rw[ATL hgne]
  rw[hadd] at htk;generalize TV a[i].l b[i].l=g at hgl hgi hgne htk;simp -implicitDefEqProofs only[C9,jR,jJ,jO,jQ,BC,BP,BA,BO,A8,AY,BB,AL,BD,AX,AC,AU,BH,IK,A7,↓reduceIte,jB,jC,jY,G8];refine GN 2 (fun F' H'=>F' 0=.sl s 1 (a.map encL)∧F' 1=.sl t 1 (b.map encL)∧F' 6=.int .i64 (i:Nat)∧F' 5=F 5∧ext H H'∧outG 1 encI H g (F' 7) H') (fun _ _=>False) ?_ ?_ (fun _ _ hh=>hh.elim)
  .refine DK (fun n F' H'=>∃k,n+k=g.length∧F' 0=.sl s 1 (a.map encL)∧F' 1=.sl t 1 (b.map encL)∧F' 6=.int .i64 (i:Nat)∧F' 5=F 5∧F' 8=.int .i64 (k:Nat)∧ext H H'∧outG 1 encI H (g.take k) (F' 7) H') g.length ⟨0,by simp,by simp -implicitDefEqProofs only[AA,↓reduceIte,jA,f0],by simp -implicitDefEqProofs only[AA,↓reduceIte,jA,f1],by simp -implicitDefEqProofs only[AA,↓reduceIte,jA,f6],by simp -implicitDefEqProofs only[AA,↓reduceIte,jA],by simp -implicitDefEqProofs only[AA,↓reduceIte]; rfl,ext.rfl' H,by rw[zN]; exact outG.nil _ _ _ _⟩ ?_
   rintro n' F' H' ⟨k,hk,g0,g1,g6,g5,g8,ge,go⟩;simp -implicitDefEqProofs only[C9,jR,jJ,jO,jQ,BC,BA,BI,A8,AY,BB,AL,BD,AX,AC,AA,AZ,BG,BQ,BR,CE,D7,AB,DC,↓reduceIte,jA,jB,jC,enP,N7,JA,jY,G8,g0,g6,g8,DU ha,DF KC ha,NE,jI];refine CU (fun hc=>?_) (fun hc=>?_)
   .have hka:k<a[i].l.length:=by simpa using hc
    have hk':k<g.length:=by omega
    have hkb:k<b[i].l.length:=by omega
    have w1:=IZ.1 (r3 _ (jS hka));have w2:=IZ.1 (r4 _ (jS hkb));have hw:min (a[i].l[k]+b[i].l[k]) 1099511627776=g[k]:=(hgi k hka hkb hk').symm;obtain⟨v',H2,hap,ho',_,he',_,_⟩:=go.append TN sz3 XG VN (by omega) (by rw[zD]; omega) ge g[k];rw[<-zL hk'] at ho';simp -implicitDefEqProofs only[BC,BP,BO,A8];refine EZ (by kernel_rfl) ?_;simp -implicitDefEqProofs only[FZ,EY,FT,C9,jR,jJ,jO,jQ,ED,DN,EF,FO,JV,FB,IY,EE,IC,AA,AZ,AU,BH,EP,BQ,BR,CE,AA8,GR,BZ,AB,CZ,V5,↓reduceIte,jA,jK,jB,enP,N7,JF,g0,g1,g6,g8,DU ha,DF KC ha,NE,DU hka,DF ag3 hka,encI0,DU hb,DF KC hb,DU hkb,DF ag3 hkb,wrap_i64 (n:=a[i].l[k]+b[i].l[k]) (by omega) (by omega),hw,ACE];refine HY (v:=v') (h:=H2) hap ?_;simp -implicitDefEqProofs only[FZ,C9,jR,jJ,jO,jQ,ED,DN,E8,EF,I7,BA,A8,EJ,EQ,AY,BB,AL,BD,AX,AC,AA,AZ,AU,BH,BG,A7,BR,AB,CZ,↓reduceIte,jA,jK,jB,jC,enP,jY,G8,g8,wrap_succ (show k<9223372036854775807 by omega)];exact⟨n'-1,by omega,k+1,by omega,g0,g1,g6,g5,rfl,he',ho'⟩
   .have hk':¬k<a[i].l.length:=by simpa using hc
    rw[jX (by omega)] at go;simp -implicitDefEqProofs only[DJ,EI,J3,ET,AA,↓reduceIte,jA];exact⟨g0,g1,g6,g5,ge,go⟩
  .rintro F' H' ⟨g0,g1,g6,g5,ge,go⟩
   rcases go with⟨e,_⟩|⟨_,o,o1,g7,o3⟩
   .exact absurd e hgne
   have hz:=AD5 (H:=H') (i:=44) (off:=0) (len:=g.length) o3 (by simp) (by rw[qC,jX (by simp)]; exact AZU g);rw[qC,jX (by simp)] at hz
   have ho1:outG 1 encL h ((LG a b).take i) (F 5) (H'.set o .dead):=by
    obtain⟨x,rfl⟩:=ge;refine ho.keep fun b' hb'=>?_
    have:=ho.lt hb';rw[zU (by omega),List.getElem?_append_left this.2]
   have he1:ext h (H'.set o .dead):=(he.trans ge).set (zZ he.le o1) _;obtain⟨v',H2,hap,ho',_,he',_,_⟩:=ho1.append YU VJ AB6 ZQ (by omega) (by rw[zD]; omega) he1 ⟨.any,g⟩;simp -implicitDefEqProofs only[EY,FT,C9,jR,jJ,jO,jQ,BA,A8,EW,AY,AL,BD,AX,AC,AA,AZ,BG,EP,GR,BZ,↓reduceIte,jA,jB,jC,enP,jY,G8,g5,g7,ZG,AL,hz,AEU];refine HY (v:=v') (h:=H2) hap ?_;simp -implicitDefEqProofs only[C9,jR,jJ,jO,jQ,BA,A8,EJ,EQ,AY,BB,AL,BD,AX,AC,AA,AZ,AU,BH,BG,A7,BR,AB,CZ,↓reduceIte,jA,jB,jC,enP,jY,G8,g6,wrap_succ (show i<9223372036854775807 by omega)];refine⟨n-1,by omega,i+1,by omega,g0,g1,rfl,he',?_⟩;rw[htk]; exact ho'
 .have ha:¬i<a.length:=by simpa using hc
  rw[jX (by omega)] at ho;simp -implicitDefEqProofs only[C9,jR,jJ,jO,jQ,BC,BA,BK,DJ,A8,EI,EW,ET,CG,AY,BB,AL,BD,AX,AC,AA,AZ,BG,A7,↓reduceIte,jA,jB,jC,jY,G8];exact⟨he,ho⟩
def WC:List Is->List Is->Bool
 | [],[]=>true
 | a::ws,b::bs=>eqL a.l b.l&&WC ws bs
 | _,_=>false
theorem AEI:∀ {a b:List Is},WC a b=true↔a.map (·.l)=b.map (·.l)
 | [],[]=>by simp [WC]
 | x::a,y::b=>by
   have ih:=AEI (a:=a) (b:=b);simp only[WC,jV,ih,jD,List.cons.injEq,eqL,decide_eq_true_eq]
 | [],_::_=>by simp [WC]
 | _::_,[]=>by simp [WC]
theorem AUQ {a b:List Is}(h:WC a b=true):a.length=b.length:=by
 have:=congrArg List.length (AEI.1 h);simpa using this
theorem ARJ (a b:List Is)(k:Nat)(ha:k<a.length)(hb:k<b.length):WC (a.drop k) (b.drop k)=(eqL a[k].l b[k].l&&WC (a.drop (k+1)) (b.drop (k+1))):=by
 rw[zJ ha,zJ hb]; rfl
theorem ABL (G:Nat->AV)(a b:List Is)(s t:SM)(h:Hp)(hl:a.length<=1048576)(hb:∀x∈b,x.l.length<=1048576):PCall (En G) 86 [.sl s 1 (a.map encL),.sl t 1 (b.map encL)] h (.bool (WC a b)):=by
 refine acN Tryz.func86 rfl ?_;show awp _ _ _ _ _ (EN _ [.tmp 4] _);simp -implicitDefEqProofs only[BC,BA,BI,A8,AY,BB,AO,AQ,AL,BD,AX,AC,AA,AZ,AU,BM,BG,A7,BR,D7,AB,EK,BF,BN,↓reduceIte,jA,jB,jC,enP,XI,jI];refine CU (fun h1=>?_) (fun h1=>?_)
 .simp -implicitDefEqProofs only[BC,BA,BK,A8,CP,CG,AY,BB,AO,AQ,AL,BD,AX,AC,AA,AU,BM,A7,↓reduceIte,jB,jC]
  have:WC a b=false:=by
   rw[<-Bool.not_eq_true]; intro e;have:=AUQ e;simp [this] at h1
  exact⟨by rw[this],trivial⟩
 have hab:a.length=b.length:=by simp at h1; omega
 simp -implicitDefEqProofs only[BC,BP,BA,BO,A8,AY,BB,AO,AQ,AL,BD,AX,AC,AU,BH,A7,jB,jC];refine DK (fun n F H=>∃i,n+i=a.length∧F 0=.sl s 1 (a.map encL)∧F 1=.sl t 1 (b.map encL)∧F 5=.int .i64 (i:Nat)∧H=h∧WC a b=WC (a.drop i) (b.drop i)) a.length ⟨0,by simp,by simp -implicitDefEqProofs only[AA,BF,↓reduceIte,jA],by simp -implicitDefEqProofs only[AA,BF,BN,↓reduceIte,jA],by simp -implicitDefEqProofs only[AA,↓reduceIte]; rfl,rfl,rfl⟩ ?_;rintro n F H ⟨i,hi,f0,f1,f5,rfl,hf⟩;simp -implicitDefEqProofs only[BC,BA,BI,A8,AY,BB,AO,AQ,AL,BD,AX,AC,AA,AZ,BG,BR,D7,AB,DC,↓reduceIte,jA,jB,jC,enP,XI,f0,f5,jI];refine CU (fun hc=>?_) (fun hc=>?_)
 .have ha:i<a.length:=by simpa using hc
  have hbi:i<b.length:=by omega
  have hbl:=hb _ (jS hbi);rw[ARJ a b i ha hbi] at hf;simp -implicitDefEqProofs only[BC,BP,BO,A8];refine EZ (by kernel_rfl) ?_;simp -implicitDefEqProofs only[FZ,ED,DN,EF,FO,FB,AC2,EE,GH,F8,AO,AA,AZ,BX,BQ,IE,CE,AB,jD,jE,jF,↓reduceIte,jA,jK,jB,enP,N7,f0,f1,f5,DU ha,DF KC ha,NE,DU hbi,DF KC hbi];refine⟨_,ADI G a[i].l b[i].l _ _ _ (by omega),?_⟩
  try simp -implicitDefEqProofs only[DN,E8,BI,A8,AA,AZ,AB,FK,↓reduceIte]
  cases he:eqL a[i].l b[i].l
  .simp -implicitDefEqProofs only[BC,BA,BK,A8,CP,EG,FQ,CG,DI,AY,BB,AO,AQ,AL,BD,AX,AC,AA,AU,BM,A7,↓reduceIte,jB,jC]
   exact⟨by rw[hf,he]; rfl,trivial⟩
  .simp -implicitDefEqProofs only[BA,BO,A8,EJ,EQ,DT,AY,BB,AO,AQ,AL,BD,AX,AC,AA,AZ,AU,BH,BG,A7,BR,AB,CZ,↓reduceIte,jA,jB,jT,jC,enP,f5,wrap_succ (show i<9223372036854775807 by omega)]
   exact⟨n-1,by omega,i+1,by omega,f0,f1,rfl,trivial,by rw[hf,he]; rfl⟩
 .have ha:¬i<a.length:=by simpa using hc
  simp -implicitDefEqProofs only[BC,BA,BK,DJ,A8,EI,EW,ET,CG,AY,BB,AO,AQ,AL,BD,AX,AC,AA,AU,BM,A7,↓reduceIte,jB,jC];exact⟨by rw[hf,jW (by omega),jW (by omega)]; rfl,trivial⟩
def eqV (a b:Cvr):Bool:=WC a.pts b.pts&&WC a.crs b.crs&&(a.sam==b.sam)&&(a.ill==b.ill)
theorem AYG {a b:Cvr}:eqV a b=true↔QC a=QC b:=by
 unfold eqV QC;simp only[jV,AEI,beq_iff_eq,Dat.mk.injEq];exact⟨fun⟨⟨⟨h1,h2⟩,h3⟩,h4⟩=>⟨h1,h2,h3,h4⟩,fun⟨h1,h2,h3,h4⟩=>⟨⟨⟨h1,h2⟩,h3⟩,h4⟩⟩
structure VV (h H:Hp) (a b:Cvr) (bb:Nat):Prop where
 ga:H[h.length]?=some (.live 4 [ER a])
 gb:H[bb]?=some (.live 4 [ER b])
 hx:∃x,H=h++x
theorem VV.mk' (h:Hp)(a b:Cvr):VV h (h++[.live 4 [ER a]]++[.live 4 [ER b]]) a b (h++[ABlk.live 4 [ER a]]).length:=⟨CV (CY _ _),CY _ _,⟨_,zA _ _ _⟩⟩
section
variable {H:Hp} {v:Cvr} {vb:Nat} (gv:H[vb]?=some (.live 4 [ER v]))
include gv
theorem lv0:EH Tryz.prog H 26 (.ptr vb 0 0)=some (.sl v.pm 1 (v.pts.map encL)):=by rw[DW QX gv (row:=ER v) rfl,AKY]
theorem lv1:EH Tryz.prog H 26 (.ptr vb 0 1)=some (.sl v.cm 1 (v.crs.map encL)):=by rw[DW QX gv (row:=ER v) rfl,AKX]
theorem lv2:EH Tryz.prog H 3 (.ptr vb 0 2)=some (.int .i64 v.sam):=by rw[DW ag3 gv (row:=ER v) rfl,APR]
theorem lv3:EH Tryz.prog H 3 (.ptr vb 0 3)=some (.int .i64 v.ill):=by rw[DW ag3 gv (row:=ER v) rfl,APQ]
end
theorem A0K (G:Nat->AV)(a b:Cvr)(h:Hp)(ha:CvOk a)(hb:CvOk b):PCall (En G) 36 [.agg (ER a),.agg (ER b)] h (.bool (eqV a b)):=by
 refine ACalls.pure0 rfl ?_;refine acN Tryz.func36 rfl ?_;show awp _ _ _ _ _ (EN _ [.tmp 4] _);have t:=VV.mk' h a b;simp -implicitDefEqProofs only[BC,BA,A8,AY,BB,AO,AQ,AL,BD,AX,AC,AA,AZ,AU,BM,A7,FU,BQ,BJ,BZ,AB,BF,BN,↓reduceIte,jA,jL,jB,jC,enP,L8,bxV]
 generalize h++[ABlk.live 4 [ER a]]++[ABlk.live 4 [ER b]]=H at t|-
 generalize (h++[ABlk.live 4 [ER a]]).length=bb at t|-
 simp -implicitDefEqProofs only[AY,AO,AQ,AL,BD,AX,AC,AA,AZ,BX,BQ,BJ,CB,BU,AB,jD,jE,jF,↓reduceIte,jA,jL,jB,jC,enP,L8,lv0 t.ga,lv0 t.gb];refine(ABL G _ _ _ _ _ ha.pts hb.eachP).use ?_;simp -implicitDefEqProofs only[AY,BL,BV,CO,AO,AQ,AL,BD,AX,AC,AA,AZ,BG,↓reduceIte,jB,jC];cases h1:WC a.pts b.pts
 .simp -implicitDefEqProofs only[BK,A8,CG,AY,BB,BL,BV,CO,IX,AO,AQ,AL,BD,AX,AC,AA,EX,AZ,AU,BM,BG,A7,CQ,DX,↓reduceIte,jA,jB,jC]
  exact⟨by unfold eqV; rw[h1]; rfl,t.hx⟩
 simp -implicitDefEqProofs only[BL,BV,CO,F9,AO,AQ,AL,BD,AX,AC,AA,AZ,BX,BQ,BJ,CB,BU,AB,jD,jE,jF,↓reduceIte,jA,jG,jB,jC,enP,KX,lv1 t.ga,lv1 t.gb];refine(ABL G _ _ _ _ _ ha.crs hb.eachC).use ?_;simp -implicitDefEqProofs only[AY,BL,BV,CO,AO,AQ,AL,BD,AX,AC,AA,AZ,AU,BM,BG,CQ,DY,↓reduceIte,jA,jB,jC];cases h2:WC a.crs b.crs
 .simp -implicitDefEqProofs only[BK,A8,CG,AY,BB,BL,BV,CO,IX,AO,AQ,AL,BD,AX,AC,AA,EX,AZ,AU,BM,BG,A7,CQ,DX,↓reduceIte,jA,jB,jC]
  exact⟨by unfold eqV; rw[h1,h2]; rfl,t.hx⟩
 simp -implicitDefEqProofs only[AY,BL,BV,CO,F9,AO,AQ,AL,BD,AX,AC,AA,AZ,AU,BM,BG,CQ,DY,BQ,BR,BJ,AB,EC,↓reduceIte,jA,jG,jB,jC,enP,TU,lv2 t.ga,lv2 t.gb];cases h3:(a.sam==b.sam)
 .simp -implicitDefEqProofs only[BK,A8,CG,AY,BB,BL,BV,CO,IX,AO,AQ,AL,BD,AX,AC,AA,EX,AZ,AU,BM,A7,CQ,DX,↓reduceIte,jA,jB,jC]
  exact⟨by unfold eqV; rw[h1,h2,h3]; rfl,t.hx⟩
 simp -implicitDefEqProofs only[BK,A8,CG,AY,BB,BL,BV,CO,F9,AO,AQ,AL,BD,AX,AC,AA,AZ,AU,BM,A7,CQ,DY,BQ,BR,BJ,AB,EC,↓reduceIte,jA,jG,jB,jC,enP,U6,lv3 t.ga,lv3 t.gb];exact⟨by unfold eqV; rw[h1,h2,h3]; rfl,t.hx⟩
theorem AM3 {P:Program}{a t:Nat}{R:AV->Hp->Prop}{F:Fr}{h:Hp}{x:AV}{b:Nat}(hF:F a=.ptr b 0 0)(h1:EH P h t (.ptr b 0 0)=some x):EN P [.cell a t] R .ret F h=R x h:=by simp [EN,AA2,TK,hF,h1]
theorem AUS {P:Program}{a t b u:Nat}{R:AV->Hp->Prop}{F:Fr}{h:Hp}{x y:AV}{ba bb:Nat}(hF:F a=.ptr ba 0 0)(hG:F b=.ptr bb 0 0)(h1:EH P h t (.ptr ba 0 0)=some x)(h2:EH P h u (.ptr bb 0 0)=some y):EN P [.cell a t,.cell b u] R .ret F h=R (.tup [x,y]) h:=by simp [EN,AA2,QO,TK,hF,hG,h1,h2]
theorem TE {P:Program}{a t b u c:Nat}{R:AV->Hp->Prop}{F:Fr}{h:Hp}{x y:AV}{ba bb:Nat}(hF:F a=.ptr ba 0 0)(hG:F b=.ptr bb 0 0)(h1:EH P h t (.ptr ba 0 0)=some x)(h2:EH P h u (.ptr bb 0 0)=some y):EN P [.cell a t,.cell b u,.tmp c] R .ret F h=R (.tup [x,y,F c]) h:=by simp [EN,AA2,QO,TK,hF,hG,h1,h2]
theorem KG {P:Program}{a t c:Nat}{R:AV->Hp->Prop}{F:Fr}{h:Hp}{x:AV}{ba:Nat}(hF:F a=.ptr ba 0 0)(h1:EH P h t (.ptr ba 0 0)=some x):EN P [.cell a t,.tmp c] R .ret F h=R (.tup [x,F c]) h:=by simp [EN,AA2,QO,TK,hF,h1]
def fzG {α:Type}(k:Nat)(f:α->List AV)(ys:List α):AV:=match ys with
 | []=>.sl .nil 0 []
 | _=>.sl .any k (ys.map f)
theorem RV {α:Type}{k:Nat}{f:α->List AV}{h H:Hp}{ys:List α}{v:AV}(hf:Frz f)(ho:outG k f h ys v H)(n d:Nat)(hn:n<=h.length):IV n H (d+2) v=fzG k f ys:=by
 rcases ho with⟨rfl,rfl⟩|⟨hne,o,h2,rfl,h3⟩
 .rfl
 .rw[ZF hf (zZ hn h2) h3]
  cases ys with
  | nil=>exact absurd rfl hne
  | cons _ _=>rfl
theorem TS {α:Type}{k:Nat}{f:α->List AV}{ys:List α}:CvR (fzG k f ys) (.sl (nm ys) k (ys.map f)):=by
 cases ys with
 | nil=>exact CvR.sl (Cv.nil 0 k)
 | cons y ys=>exact CvR.refl _
theorem outG.app2 {P:Program}{t e:TypeId}{α:Type}{k bs:Nat}{f:α->List AV}{h H:Hp}{ys:List α}{v:AV}(ho:outG k f h ys v H)(hu:P.underlying t=some (.slice e))(hs:szO P e=some k)(hz:UR P e=some k)(hb:MZ P e=some bs)(hbs:bs<=4194304)(hl:ys.length<8388608)(he:h.length<=H.length)(y:α) :
  ∃v' H',H7 P true H t t v (.sl .full k [f y])=some (v',H')∧outG k f h (ys++[y]) v' H'∧(∀b x,H[b]?=some x->¬isB v b->H'[b]?=some x)∧H'.length=H.length+1∧(∀b,isB v' b->b=H.length)∧(∃o l,v'=.own o 0 l)∧∀e:Hp,e.length<=h.length->ext e H->ext e H':=by
 have h1:([f y]:List (List AV))≠[]:=by simp
 rcases ho with⟨rfl,rfl⟩|⟨hne,o,h2,rfl,h3⟩
 .exact⟨_,_,VA hu hs hz hb (KO H .full k [f y]) h1 (JW (by simp) hbs),.inr ⟨by simp,H.length,he,rfl,by simp⟩,fun b x hb _=>FX hb,by simp,fun b hb=>hb.symm,⟨_,_,rfl⟩,fun e _ hx=>hx.app _⟩
 .have hc:KZ H (.own o 0 ys.length)=some (k,ys.map f):=by
   rw[Q5 h3 (by simp),qC,jX (by simp)]
  refine⟨_,_,XF hu hs hz hb hc (KO H .full k [f y]) h1 (JW (by simp; omega) hbs),.inr ⟨by simp,H.length,he,by simp,by simp⟩,fun b x hb hn=>?_,by simp,fun b hb=>hb.symm,⟨_,_,rfl⟩,fun e hl hx=>(hx.set (zZ hl h2) _).app _⟩;have hn':¬o=b:=hn;refine FX ?_;rw[List.getElem?_set,if_neg hn']; exact hb
theorem OY {P:Program}{H:Hp}{t b k j:Nat}{row cs:List AV}{v:AV}(hc:JU v=some cs)(hs:szO P t=some cs.length)(hb:H[b]?=some (.live k [row]))(hl:j+cs.length<=row.length):FW P H t (.ptr b 0 j) v=some (H.set b (.live k [splice row j cs])):=by
 rw[KU (i:=0) hc hs hb rfl hl]; rfl
theorem mkF (h:Hp)(n:Nat)(hn:n<=1048576):I9 Tryz.prog false h 57 (.int .i64 (n:Int)) (.int .i64 (n:Int))=some (.sl .full 1 ((zeros n).map encI),h):=by
 have hz:NV Tryz.prog 3=some [.int .i64 0]:=by kernel_rfl
 have hr:room n 8:=JW (by omega) (by omega);unfold I9;simp only[TN,sz3,VN,hz,wF];rw[if_pos ⟨by omega,Int.le_refl _,hr,rfl⟩];simp [zeros,encI]
structure Tk where
 m:SM
 last:List Is
def KF (t:Tk):List AV:=[.sl t.m 1 (t.last.map encL)]
theorem AKZ (t:Tk):(KF t).length=1:=rfl
def zT:Tk:=⟨.nil,[]⟩
def zV:Cvr:=⟨.nil,[],.nil,[],0,0⟩
def zLs (m:Mo):List Is:=m.pts.map fun _=>⟨.nil,[]⟩
def F5:List AV:=[.sl .nil 0 []]
theorem A07 {α:Type}:Frz (fun _:α=>F5):=fun _ _ _ _=>⟨rfl,rfl⟩
theorem AXK:CvRow F5 (encL ⟨.nil,[]⟩):=CvRow.cons rfl (Cv.nil 0 1) CvRow.nil
theorem AO3 {α:Type}{s:SM}(xs:List α):Cv (.sl s 1 (xs.map fun _=>F5)) (.sl s 1 ((xs.map fun _=>(⟨.nil,[]⟩:Is)).map encL)):=by
 rw[List.map_map];exact Cv.map fun _ _=>AXK
theorem AFR:CvR (.agg [.sl .nil 0 [],.sl .nil 0 [],.int .i64 0,.int .i64 0]) (.agg (ER zV)):=CvR.agg (CvRL.cons (CvR.sl (Cv.nil 0 1)) (CvRL.cons (CvR.sl (Cv.nil 0 1)) (CvRL.cons (CvR.refl _) (CvRL.cons (CvR.refl _) CvRL.nil))))
theorem A1S:CvR (.agg [.sl .nil 0 []]) (.agg (KF zT)):=CvR.agg (CvRL.cons (CvR.sl (Cv.nil 0 1)) CvRL.nil)
def FC:List AV:=[.sl .nil 0 [],.sl .nil 0 [],.int .i64 0,.int .i64 0]
theorem KE (h:Hp):KJ Tryz.prog h 28=some (.ptr h.length 0 0,h++[.live 4 [FC]]):=J8 (row:=FC) (by kernel_rfl)
theorem VO (h:Hp):KJ Tryz.prog h 47=some (.ptr h.length 0 0,h++[.live 1 [F5]]):=J8 (row:=F5) (by kernel_rfl)
theorem N8:LQ Tryz.prog 28 []=some (.agg FC):=by kernel_rfl
theorem ABY:LQ Tryz.prog 47 []=some (.agg F5):=by kernel_rfl
theorem stV {H:Hp}{b:Nat}{row:List AV}{v:Cvr}(hb:H[b]?=some (.live 4 [row]))(hr:row.length=4):FW Tryz.prog H 28 (.ptr b 0 0) (.agg (ER v))=some (H.set b (.live 4 [ER v])):=by
 rw[OY (cs:=ER v) rfl AB8 hb (by rw[hr]; exact jM 4)];have:splice row 0 (ER v)=ER v:=by unfold splice; simp [ZL,hr]
 rw[this]
theorem stZ {H:Hp}{b:Nat}{row:List AV}(hb:H[b]?=some (.live 4 [row]))(hr:row.length=4):FW Tryz.prog H 28 (.ptr b 0 0) (.agg FC)=some (H.set b (.live 4 [FC])):=by
 rw[OY (cs:=FC) rfl AB8 hb (by rw[hr]; exact jM 4)];have:splice row 0 FC=FC:=by unfold splice; simp [FC,hr]
 rw[this]
theorem stT {H:Hp}{b:Nat}{row:List AV}{t:Tk}(hb:H[b]?=some (.live 1 [row]))(hr:row.length=1):FW Tryz.prog H 47 (.ptr b 0 0) (.agg (KF t))=some (H.set b (.live 1 [KF t])):=by
 rw[OY (cs:=KF t) rfl ASR hb (by rw[hr]; exact jM 1)];have:splice row 0 (KF t)=KF t:=by unfold splice; rw[AKZ,zN,jW (by omega)]; simp
 rw[this]
theorem ABD {H:Hp}{b:Nat}{row:List AV}(hb:H[b]?=some (.live 1 [row]))(hr:row.length=1):FW Tryz.prog H 47 (.ptr b 0 0) (.agg F5)=some (H.set b (.live 1 [F5])):=by
 rw[OY (cs:=F5) rfl ASR hb (by rw[hr]; exact jM 1)];have:splice row 0 F5=F5:=by unfold splice; rw[zN,jW (by rw[hr]; exact jM 1)]; simp
 rw[this]
theorem ldT {h:Hp}{b:Nat}{t:Tk}(hb:h[b]?=some (.live 1 [KF t])):EH Tryz.prog h 47 (.ptr b 0 0)=some (.agg (KF t)):=by
 rw[JY A4A ASR hb rfl (by rw[AKZ]; exact jM 1)]; rfl
theorem IM {h:Hp}{b:Nat}{row:List AV}(hb:h[b]?=some (.live 4 [row]))(hr:row.length=4):EH Tryz.prog h 28 (.ptr b 0 0)=some (.agg row):=by
 rw[JY AV1 AB8 hb rfl (by rw[hr]; exact jM 4),qC,jX (by omega)]
theorem NZ {h:Hp}{b:Nat}{row:List AV}(hb:h[b]?=some (.live 1 [row]))(hr:row.length=1):EH Tryz.prog h 47 (.ptr b 0 0)=some (.agg row):=by
 rw[JY A4A ASR hb rfl (by rw[hr]; exact jM 1),qC,jX (by omega)]
theorem AQP {ns:List Nat}(h:∀n∈ns,1<=n):1<=GL ns:=ADQ ns 0 h
theorem AH4 {α:Type}{ok:α->Is->Bool}:∀ {ws:List α} {xs:List Is},KA ok ws xs=true->∀x∈xs,∃a∈ws,ok a x=true
 | [],[],_,x,hx=>by cases hx
 | a::ws,y::xs,h,x,hx=>by
   simp only[KA,jV] at h;rcases List.mem_cons.1 hx with rfl|hx
   .exact⟨a,by simp,h.1⟩
   .obtain⟨b,hb,hk⟩:=AH4 h.2 x hx
    exact⟨b,by simp [hb],hk⟩
 | [],_::_,h,_,_=>by cases h
 | _::_,[],h,_,_=>by cases h
theorem AHG {m:Mo}{v:Cvr}(h:GK m v=true):v.pts.length=m.pts.length∧v.crs.length=m.crs.length∧(∀x∈v.pts,1<=x.l.length∧x.l.length<=64)∧(∀x∈v.crs,1<=x.l.length∧x.l.length<=256):=by
 have hg:=LX (NQ h);rw[JK] at h;obtain⟨_,h2,h3,_,_⟩:=h;refine⟨(NR h2).symm,(NR h3).symm,fun x hx=>?_,fun x hx=>?_⟩
 .obtain⟨p,hp,hk⟩:=AH4 h2 x hx
  have:=hg.full p hp;rw[AOW hk]; exact this
 .obtain⟨c,hc,hk⟩:=AH4 h3 x hx
  have hcg:=hg.crs c hc;have hs:=hg.full.szs hcg.here;rw[AOY hk];exact⟨AQP fun n hn=>(hs n hn).1,hcg.prod⟩
theorem UL {m:Mo}{v:Cvr}(h:GK m v=true):CvOk v:=by
 have hn:=(LX (NQ h)).num;obtain⟨h1,h2,h3,h4⟩:=AHG h;exact⟨by omega,by omega,fun x hx=>by have:=h3 x hx; omega,fun x hx=>by have:=h4 x hx; omega⟩
theorem ASZ {α:Type}{ok:α->Is->Bool}{n:α->Nat}(hok:∀a x,ok a x=true->x.l.length=n a∧WL x.l){ws:List α}{a b:List Is}(ha:KA ok ws a=true)(hb:KA ok ws b=true)(hr:∀x∈a,1<=x.l.length∧x.l.length<=256)(hl:a.length<=1048576):Sh2 a b:=by
 have h1:=NR ha;have h2:=NR hb;refine⟨by omega,fun i hi hj=>?_,hl⟩;have hw:i<ws.length:=by omega
 obtain⟨x,hx,kx⟩:=UH ha i ws[i] (jU hw);obtain⟨y,hy,ky⟩:=UH hb i ws[i] (jU hw);rw[jU hi] at hx;rw[jU hj] at hy;cases hx; cases hy;have q:=hr _ (jS hi);refine⟨by rw[(hok _ _ kx).1,(hok _ _ ky).1],fun e=>?_,(hok _ _ kx).2,(hok _ _ ky).2,by omega⟩;rw[e] at q; simp at q
theorem AOL {m:Mo}{a b:Cvr}(ha:GK m a=true)(hb:GK m b=true):Sh2 a.pts b.pts:=by
 have hr:=AHG ha;have hn:=(LX (NQ ha)).num;exact ASZ (n:=fun p:Pt=>p.bins.length) (fun _ _ h=>⟨AOW h,AMG h⟩) (JK.1 ha).2.1 (JK.1 hb).2.1 (fun x hx=>by have:=hr.2.2.1 x hx; omega) (by omega)
theorem AOM {m:Mo}{a b:Cvr}(ha:GK m a=true)(hb:GK m b=true):Sh2 a.crs b.crs:=by
 have hr:=AHG ha;have hn:=(LX (NQ ha)).num;exact ASZ (n:=fun c:Cr=>GL (szs m c.pts)) (fun _ _ h=>⟨AOY h,AMH h⟩) (JK.1 ha).2.2.1 (JK.1 hb).2.2.1 (fun x hx=>hr.2.2.2 x hx) (by omega)
def A1J (m:Mo)(l:List Cvr):Cvr:=l.foldl O6 (KR m)
def QD (m:Mo)(l:List Cvr):Int:=if EU m=0 then (if l.all (GK m)=true then 0 else 1) else EU m
def ACF (m:Mo)(l:List Cvr):Cvr:=if QD m l=0 then A1J m l else zV
theorem Q8 {m:Mo}{l:List Cvr}:QD m l=0↔EU m=0∧∀v∈l,GK m v=true:=by
 unfold QD;split
 .rename_i h
  split
  .rename_i h2
   exact⟨fun _=>⟨h,zI.1 h2⟩,fun _=>rfl⟩
  .rename_i h2
   exact⟨fun e=>by omega,fun e=>absurd (zI.2 e.2) h2⟩
 .rename_i h
  exact⟨fun e=>absurd e h,fun e=>absurd e.1 h⟩
theorem W9 {m:Mo}:∀(l:List Cvr) (c:Cvr),GK m c=true->(∀v∈l,GK m v=true)->GK m (l.foldl O6 c)=true
 | [],_,h,_=>h
 | v::l,c,h,hl=>W9 l (O6 c v) (AAS h (hl v (by simp))) fun w hw=>hl w (by simp [hw])
theorem AR2 {m:Mo}{l:List Cvr}(h:QD m l=0):GK m (ACF m l)=true:=by
 have:=Q8.1 h;unfold ACF;rw[if_pos h];exact W9 l _ (OQ this.1) this.2
def AQV (m:Mo)(a b:Cvr):Cvr:=if QD m [a,b]=0 then O6 a b else zV
theorem ALK {m:Mo}{a b:Cvr}(ha:GK m a=true)(hb:GK m b=true):QD m [a,b]=0:=Q8.2 ⟨NQ ha,fun v hv=>by
 simp at hv; rcases hv with rfl|rfl<;>assumption⟩
theorem outG.setB {α:Type}{k:Nat}{f:α->List AV}{h H:Hp}{ys:List α}{v:AV}{b:Nat}(ho:outG k f h ys v H)(hb:b<h.length)(y:ABlk):outG k f h ys v (H.set b y) :=
 ho.keep fun b' hb'=>by
  have:=ho.lt hb';rw[zU (by omega)]
theorem outG.keepA {α:Type}{k:Nat}{f:α->List AV}{h H H':Hp}{ys:List α}{v u:AV}(ho:outG k f h ys v H)(hk:∀b x,H[b]?=some x->¬isB u b->H'[b]?=some x)(hd:∀b,isB v b->¬isB u b):outG k f h ys v H':=by
 rcases ho with h1|⟨h1,o,h2,rfl,h3⟩
 .exact .inl h1
 .exact .inr ⟨h1,o,h2,rfl,hk _ _ h3 (hd o rfl)⟩
theorem outG.leaf {α:Type}{k:Nat}{f:α->List AV}{h H:Hp}{ys:List α}{v:AV}(ho:outG k f h ys v H):v.leaf=true:=by
 rcases ho with⟨_,rfl⟩|⟨_,o,_,rfl,_⟩<;>rfl
theorem outG.base {α:Type}{k:Nat}{f:α->List AV}{h h' H:Hp}{ys:List α}{v:AV}(ho:outG k f h ys v H)(hl:h'.length<=h.length):outG k f h' ys v H:=by
 rcases ho with h1|⟨h1,o,h2,rfl,h3⟩
 .exact .inl h1
 .exact .inr ⟨h1,o,zZ hl h2,rfl,h3⟩
def H9 (v1 v2:AV):List AV:=[v1,v2,.int .i64 0,.int .i64 0]
structure Em (h H:Hp) (m:Mo) (b2 b3 b4 b5:Nat) (v1 v2 v3:AV):Prop where
 gm:H[h.length]?=some (.live 2 [D6 m])
 g2:H[b2]?=some (.live 4 [FC])
 g3:H[b3]?=some (.live 1 [F5])
 g4:H[b4]?=some (.live 4 [H9 v1 v2])
 g5:H[b5]?=some (.live 1 [[v3]])
 o2:h.length<b2
 o3:b2<b3
 o4:b3<b4
 o5:b4<b5
 hx:ext h H
section
variable {h H:Hp} {m:Mo} {b2 b3 b4 b5:Nat} {v1 v2 v3:AV} (E:Em h H m b2 b3 b4 b5 v1 v2 v3)
include E
theorem Em.m0:EH Tryz.prog H 22 (.ptr h.length 0 0)=some (.sl m.pm 6 (m.pts.map GM)):=by rw[DW WN E.gm (row:=D6 m) rfl,QA]
theorem Em.m1:EH Tryz.prog H 23 (.ptr h.length 0 1)=some (.sl m.cm 3 (m.crs.map GG)):=by rw[DW AA5 E.gm (row:=D6 m) rfl,UI]
theorem Em.l4:EH Tryz.prog H 26 (.ptr b4 0 0)=some v1:=by rw[DW QX E.g4 (row:=H9 v1 v2) rfl]; rfl
theorem Em.l4':EH Tryz.prog H 26 (.ptr b4 0 1)=some v2:=by rw[DW QX E.g4 (row:=H9 v1 v2) rfl]; rfl
theorem Em.l5:EH Tryz.prog H 26 (.ptr b5 0 0)=some v3:=by rw[DW QX E.g5 (row:=[v3]) rfl]; rfl
theorem Em.app (x:Hp):Em h (H++x) m b2 b3 b4 b5 v1 v2 v3:=⟨FX E.gm,FX E.g2,FX E.g3,FX E.g4,FX E.g5,E.o2,E.o3,E.o4,E.o5,E.hx.app _⟩
theorem Em.keep {H':Hp}{u:AV}(hk:∀b x,H[b]?=some x->¬isB u b->H'[b]?=some x)(hu:∀b,isB u b->b5<b)(hx:ext h H->ext h H'):Em h H' m b2 b3 b4 b5 v1 v2 v3:=by
 have o2:=E.o2; have o3:=E.o3; have o4:=E.o4; have o5:=E.o5;exact⟨hk _ _ E.gm (fun e=>by have:=hu _ e; omega),hk _ _ E.g2 (fun e=>by have:=hu _ e; omega),hk _ _ E.g3 (fun e=>by have:=hu _ e; omega),hk _ _ E.g4 (fun e=>by have:=hu _ e; omega),hk _ _ E.g5 (fun e=>by have:=hu _ e; omega),o2,o3,o4,o5,hx E.hx⟩
theorem Em.set4 (w1 w2:AV):Em h (H.set b4 (.live 4 [H9 w1 w2])) m b2 b3 b4 b5 w1 w2 v3:=by
 have o2:=E.o2; have o3:=E.o3; have o4:=E.o4; have o5:=E.o5;exact⟨CW E.gm (by omega),CW E.g2 (by omega),CW E.g3 (by omega),D8 E.g4,CW E.g5 (by omega),o2,o3,o4,o5,E.hx.set (by omega) _⟩
theorem Em.set5 (w3:AV):Em h (H.set b5 (.live 1 [[w3]])) m b2 b3 b4 b5 v1 v2 w3:=by
 have o2:=E.o2; have o3:=E.o3; have o4:=E.o4; have o5:=E.o5;exact⟨CW E.gm (by omega),CW E.g2 (by omega),CW E.g3 (by omega),CW E.g4 (by omega),D8 E.g5,o2,o3,o4,o5,E.hx.set (by omega) _⟩
theorem Em.s4 {o l:Nat}:FW Tryz.prog H 26 (.ptr b4 0 0) (.own o 0 l)=some (H.set b4 (.live 4 [H9 (.own o 0 l) v2])):=OY (row:=H9 v1 v2) (YM _ _ _) ALZ E.g4 (by simp [H9])
theorem Em.s4' {o l:Nat}:FW Tryz.prog H 26 (.ptr b4 0 1) (.own o 0 l)=some (H.set b4 (.live 4 [H9 v1 (.own o 0 l)])):=OY (row:=H9 v1 v2) (YM _ _ _) ALZ E.g4 (by simp [H9])
theorem Em.s5 {o l:Nat}:FW Tryz.prog H 26 (.ptr b5 0 0) (.own o 0 l)=some (H.set b5 (.live 1 [[.own o 0 l]])):=OY (row:=[v3]) (YM _ _ _) ALZ E.g5 (by simp)
theorem Em.lt:b5<H.length:=CJ E.g5
end
theorem Em.mk' (h:Hp)(m:Mo):Em h (h++[ABlk.live 2 [D6 m]]++[ABlk.live 4 [FC]]++[ABlk.live 1 [F5]]++[ABlk.live 4 [FC]]++[ABlk.live 1 [F5]]) m (h++[ABlk.live 2 [D6 m]]).length (h++[ABlk.live 2 [D6 m]]++[ABlk.live 4 [FC]]).length
  (h++[ABlk.live 2 [D6 m]]++[ABlk.live 4 [FC]]++[ABlk.live 1 [F5]]).length (h++[ABlk.live 2 [D6 m]]++[ABlk.live 4 [FC]]++[ABlk.live 1 [F5]]++[ABlk.live 4 [FC]]).length (.sl .nil 0 []) (.sl .nil 0 []) (.sl .nil 0 []) :=
 ⟨CV (CV (CV (CV (CY _ _)))),CV (CV (CV (CY _ _))),CV (CV (CY _ _)),CV (CY _ _),CY _ _,by simp,by simp,by simp,by simp,((((ext.rfl' h).app _).app _).app _).app _ |>.app _⟩
theorem AZY (h:Hp):FY Tryz.prog false h 26 1 [(0,.sl .nil 0 [])]=some (.sl .full 1 [F5],h):=by kernel_rfl
theorem AI1 (m:Mo)(i:Nat)(hi:i<m.pts.length):(zPs m).take (i+1)=(zPs m).take i++[zIs m.pts[i].bins.length]:=by
 have hl:i<(zPs m).length:=by unfold zPs; simpa using hi
 rw[zL hl]; simp [zPs]
theorem AI2 (m:Mo)(i:Nat)(hi:i<m.crs.length):(zCs m).take (i+1)=(zCs m).take i++[zIs (GL (szs m m.crs[i].pts))]:=by
 have hl:i<(zCs m).length:=by unfold zCs; simpa using hi
 rw[zL hl]; simp [zCs]
theorem ACJ (m:Mo):(zPs m).length=m.pts.length:=by simp [zPs]
theorem ACK (m:Mo):(zCs m).length=m.crs.length:=by simp [zCs]
theorem AM5 {E:Env}{f:FuncId}{args:List AV}{h:Hp}{m:Mo}(hc:ACalls E f args h fun v H=>ext h H∧∃v1 v2 v3,v=.tup [.agg (H9 v1 v2),.agg [v3]]∧outG 1 encL h (zPs m) v1 H∧outG 1 encL h (zCs m) v2 H∧outG 1 (fun _:Pt=>F5) h m.pts v3 H) :
  PCall E f args h (.tup [.agg (ER (KR m)),.agg (KF ⟨nm (zLs m),zLs m⟩)]):=by
 have hp:PCall E f args h (.tup [.agg (H9 (fzG 1 encL (zPs m)) (fzG 1 encL (zCs m))),.agg [fzG 1 (fun _:Pt=>F5) m.pts]]):=by
  refine ACalls.pure 4 hc ?_;rintro v H ⟨he,v1,v2,v3,rfl,o1,o2,o3⟩;refine⟨he,?_⟩;have e1:=RV ARA o1 h.length 0 (jM _);have e2:=RV ARA o2 h.length 0 (jM _);have e3:=RV A07 o3 h.length 0 (jM _);show AV.tup [.agg [IV h.length H 2 v1,IV h.length H 2 v2,.int .i64 0,.int .i64 0],.agg [IV h.length H 2 v3]]=_;rw[e1,e2,e3]; rfl
 refine hp.res (CvR.tup (CvRL.cons (CvR.agg (CvRL.cons TS (CvRL.cons TS (CvRL.refl _)))) (CvRL.cons (CvR.agg (CvRL.cons ?_ CvRL.nil)) CvRL.nil)));have h1:CvR (fzG 1 (fun _:Pt=>F5) m.pts) (.sl (nm m.pts) 1 (m.pts.map fun _=>F5)):=TS;have h2:=CvR.sl (AO3 (s:=nm m.pts) m.pts);have h3:nm (zLs m)=nm m.pts:=by unfold zLs; cases m.pts<;>rfl
 intro g cv hr;have:=h2 g cv (h1 g cv hr);rw[h3]; exact this
theorem ADE {H:Hp}{b:Nat}{row:List AV}{v1 v2:AV}(hb:H[b]?=some (.live 4 [row]))(hr:row.length=4)(h1:v1.leaf=true)(h2:v2.leaf=true):FW Tryz.prog H 28 (.ptr b 0 0) (.agg (H9 v1 v2))=some (H.set b (.live 4 [H9 v1 v2])):=by
 rw[OY (cs:=H9 v1 v2) (TW (by simp [H9,h1,h2]; rfl)) AB8 hb (by rw[hr]; exact jM 4)];have:splice row 0 (H9 v1 v2)=H9 v1 v2:=by unfold splice; rw[zN,jW (by rw[hr]; exact jM 4)]; simp
 rw[this]
theorem AFX {H:Hp}{b:Nat}{row:List AV}{v3:AV}(hb:H[b]?=some (.live 1 [row]))(hr:row.length=1)(h3:v3.leaf=true):FW Tryz.prog H 47 (.ptr b 0 0) (.agg [v3])=some (H.set b (.live 1 [[v3]])):=by
 rw[OY (cs:=[v3]) (TW (by simp [h3])) ASR hb (by rw[hr]; exact jM 1)];have:splice row 0 [v3]=[v3]:=by unfold splice; rw[zN,jW (by rw[hr]; exact jM 1)]; simp
 rw[this]
set_option maxHeartbeats 2000000 in
theorem AM6 (G:Nat->AV)(m:Mo)(hm:MoOk m)(hg:Good m)(h:Hp):PCall (En G) 127 [.agg (D6 m)] h (.tup [.agg (ER (KR m)),.agg (KF ⟨nm (zLs m),zLs m⟩)]):=by
 refine AM5 ?_;have hm1:=hm.np;have hm2:=hm.nc;have hnum:=hg.num;refine LV (H:=hint [24,47] []) (enM G) Tryz.func127 rfl (by kernel_rfl) (by kernel_rfl) (jH (by kernel_rfl)) ?_;show awp _ _ _ _ _ (EN _ [.cell 2 28,.cell 3 47] _);have E:=Em.mk' h m;simp -implicitDefEqProofs only[C9,jR,jJ,jO,jQ,BC,BA,A8,AY,BB,AL,BD,AX,AC,AA,AZ,FD,FU,BQ,BJ,BZ,AB,BF,↓reduceIte,jA,jL,jB,jC,enP,IR,DZ,bxM,KE,VO]
 generalize h++[ABlk.live 2 [D6 m]]++[ABlk.live 4 [FC]]++[ABlk.live 1 [F5]]++[ABlk.live 4 [FC]]++[ABlk.live 1 [F5]]=H0 at E|-
 generalize (h++[ABlk.live 2 [D6 m]]++[ABlk.live 4 [FC]]++[ABlk.live 1 [F5]]++[ABlk.live 4 [FC]]).length=b5 at E|-
 generalize (h++[ABlk.live 2 [D6 m]]++[ABlk.live 4 [FC]]++[ABlk.live 1 [F5]]).length=b4 at E|-
 generalize (h++[ABlk.live 2 [D6 m]]++[ABlk.live 4 [FC]]).length=b3 at E|-
 generalize (h++[ABlk.live 2 [D6 m]]).length=b2 at E|-
 have o2:=E.o2; have o3:=E.o3; have o4:=E.o4; have o5:=E.o5;have hlt0:=E.lt;simp -implicitDefEqProofs only[C9,jR,jJ,jO,jQ,BP,A8,AY,BB,AL,BD,AX,AC,AA,AZ,AU,BH,BG,D7,AB,↓reduceIte,jB,jC,enP,QS,DZ,E.m0,jI];refine GN 0 (fun F H=>∃v1 v3,F 1=.ptr h.length 0 0∧F 2=.ptr b2 0 0∧F 3=.ptr b3 0 0∧F 4=.ptr b4 0 0∧F 5=.ptr b5 0 0∧Em h H m b2 b3 b4 b5 v1 (.sl .nil 0 []) v3∧outG 1 encL H0 (zPs m) v1 H∧outG 1 (fun _:Pt=>F5) H0 m.pts v3 H∧(∀b,isB v1 b->¬isB v3 b)∧H0.length<=H.length) (fun _ _=>False) ?_ ?_ (fun _ _ hh=>hh.elim)
 .refine DK (fun n F H=>∃i v1 v3,n+i=m.pts.length∧F 1=.ptr h.length 0 0∧F 2=.ptr b2 0 0∧F 3=.ptr b3 0 0∧F 4=.ptr b4 0 0∧F 5=.ptr b5 0 0∧F 11=.sl m.pm 6 (m.pts.map GM)∧F 12=.int .i64 m.pts.length∧F 13=.int .i64 (i:Nat)∧Em h H m b2 b3 b4 b5 v1 (.sl .nil 0 []) v3∧outG 1 encL H0 ((zPs m).take i) v1 H∧outG 1 (fun _:Pt=>F5) H0 (m.pts.take i) v3 H∧(∀b,isB v1 b->¬isB v3 b)∧H0.length<=H.length) m.pts.length
   ⟨0,_,_,by simp,by simp -implicitDefEqProofs only[AA,↓reduceIte,jA],by simp -implicitDefEqProofs only[AA,↓reduceIte,jA],by simp -implicitDefEqProofs only[AA,↓reduceIte,jA],by simp -implicitDefEqProofs only[AA,↓reduceIte,jA],by simp -implicitDefEqProofs only[AA,↓reduceIte,jA],by simp -implicitDefEqProofs only[AA,↓reduceIte,jA],by simp -implicitDefEqProofs only[AA,↓reduceIte,jA],by simp -implicitDefEqProofs only[AA,↓reduceIte]; rfl,E,by rw[zN]; exact outG.nil _ _ _ _,by rw[zN]; exact outG.nil _ _ _ _,fun b hb=>hb.elim,jM _⟩ ?_
  clear E;rintro n F H ⟨i,v1,v3,hi,f1,f2,f3,f4,f5,f11,f12,f13,E,ho1,ho3,hdis,hle⟩;simp -implicitDefEqProofs only[C9,jR,jJ,jO,jQ,BC,BA,BI,A8,AY,BB,AL,BD,AX,AC,AA,AZ,BR,AB,DC,↓reduceIte,jB,jC,enP,DZ,f12,f13];refine CU (fun hc=>?_) (fun hc=>?_)
  .have hi':i<m.pts.length:=by simpa using hc
   have h64:=(hg.full _ (jS hi')).2;have hP:=AI1 m i hi';simp -implicitDefEqProofs only[C9,jR,jJ,jO,jQ,BC,BP,BA,BO,A8,AY,BB,AL,BD,AX,AC,EM,AA,AZ,FD,BQ,D5,CE,BZ,AB,CX,↓reduceIte,jA,jB,jC,enP,SS,DZ,jP,f11,f13,DU hi',FM ACG YW JR hi',AR4,AQB _ _ [.str ⟨#[]⟩,.int .i64 0,.int .i64 0,.str ⟨#[]⟩,.sl .nil 0 [],.sl .nil 0 []] rfl];have E1:=E.app [.live 6 [GM m.pts[i]]];obtain⟨v1',H2,hap,ho1',hk1,hl2,hn1,⟨o,l,rfl⟩,hx2⟩:=(ho1.app [.live 6 [GM m.pts[i]]]).app2 YU VJ AB6 ZQ (by omega) (by rw[zD,ACJ]; omega) (by simp; omega) (zIs m.pts[i].bins.length);rw[<-hP] at ho1';have E2:=E1.keep hk1 (fun b hb=>by have:=ho1.lt hb; omega) (hx2 h (by omega));have E3:=E2.set4 (.own o 0 l) (.sl .nil 0 []);have ho3':=((ho3.app [.live 6 [GM m.pts[i]]]).keepA hk1 (fun b hb h1=>hdis b h1 hb)).setB (b:=b4) (by omega) (.live 4 [H9 (.own o 0 l) (.sl .nil 0 [])]);have ho1'':=ho1'.setB (b:=b4) (by omega) (.live 4 [H9 (.own o 0 l) (.sl .nil 0 [])])
   have hdis':∀b,isB (.own o 0 l) b->¬isB v3 b:=fun b hb h3=>by
    have h1:=hn1 b hb;have h2:=ho3.lt h3;simp at h1; omega
   refine EZ (by kernel_rfl) ?_;simp -implicitDefEqProofs only[FZ,EY,FT,C9,jR,jJ,jO,jQ,ED,DN,EF,JV,FB,LW,D9,IC,AA,AZ,EP,BQ,JI,BJ,D7,GR,BZ,AB,↓reduceIte,jA,jK,jL,jG,jB,enP,L8,RQ,JB,f4,E1.l4,DL SG,NS,jI,mkF _ _ (show m.pts[i].bins.length<=1048576 by omega),AEU];refine HY (v:=.own o 0 l) (h:=H2) hap ?_;simp -implicitDefEqProofs only[FZ,C9,jR,jJ,jO,jQ,ED,DN,JJ,E8,EF,JH,D9,BA,A8,AY,AL,BD,AX,AC,AA,AZ,BQ,D5,BJ,AB,CX,↓reduceIte,jA,jK,jL,jG,jB,jC,enP,L8,RZ,DZ,jP,f4,f5,E2.s4];have hl3:(H2.set b4 (.live 4 [H9 (.own o 0 l) (.sl .nil 0 [])])).length=H.length+2:=by rw[qI,hl2,qB]; rfl
   generalize H2.set b4 (.live 4 [H9 (.own o 0 l) (.sl .nil 0 [])])=H3 at E3 ho3' ho1'' hl3|-
   obtain⟨v3',H4,hap3,ho3'',hk3,hl4,hn3,⟨o3',l3,rfl⟩,hx4⟩:=ho3'.app2 YU VJ AB6 ZQ (by omega) (by rw[zD]; omega) (by omega) m.pts[i];rw[<-zL hi'] at ho3'';have E4:=E3.keep hk3 (fun b hb=>by have:=ho3'.lt hb; omega) (hx4 h (by omega));have E5:=E4.set5 (.own o3' 0 l3);have ho1f:=(ho1''.keepA hk3 hdis').setB (b:=b5) (by omega) (.live 1 [[.own o3' 0 l3]]);have ho3f:=ho3''.setB (b:=b5) (by omega) (.live 1 [[.own o3' 0 l3]]);simp -implicitDefEqProofs only[EY,FT,C9,jR,jJ,jO,jQ,AY,AL,BD,AX,AC,AA,AZ,AU,IK,EP,GR,BZ,AB,↓reduceIte,jA,jB,jC,enP,DZ,E3.l5,AZY];refine HY (v:=.own o3' 0 l3) (h:=H4) hap3 ?_;simp -implicitDefEqProofs only[C9,jR,jJ,jO,jQ,BA,A8,EJ,EQ,AY,BB,AL,BD,AX,AC,EM,AA,AZ,AU,BH,BG,D5,BR,BJ,AB,CX,CZ,↓reduceIte,jA,jL,jB,jC,enP,RZ,DZ,jP,f5,E4.s5,f13,wrap_succ (show i<9223372036854775807 by omega)];refine⟨n-1,by omega,i+1,.own o 0 l,.own o3' 0 l3,by omega,f1,f2,f3,f4,trivial,f11,f12,rfl,E5,ho1f,ho3f,fun b hb h3=>?_,?_⟩
   .have h1:=hn1 b hb
    have h2:=hn3 b h3;rw[qB] at h1;simp at h1; omega
   .rw[qI]; omega
  .have hi':¬i<m.pts.length:=by simpa using hc
   rw[jX (by rw[ACJ]; omega)] at ho1;rw[jX (by omega)] at ho3;simp -implicitDefEqProofs only[DJ,EI,J3,ET,AA,↓reduceIte,jA];exact⟨v1,v3,f1,f2,f3,f4,f5,E,ho1,ho3,hdis,hle⟩
 .rintro F H ⟨v1,v3,f1,f2,f3,f4,f5,E,ho1,ho3,hdis,hle⟩
  simp -implicitDefEqProofs only[C9,jR,jJ,jO,jQ,BC,BP,BA,A8,EW,AY,BB,AL,BD,AX,AC,AA,AZ,AU,BH,BG,BQ,BJ,D7,AB,↓reduceIte,jG,jB,jC,enP,VL,J4,DZ,f1,E.m1,jI];refine GN 2 (fun F H=>∃v2,F 2=.ptr b2 0 0∧F 3=.ptr b3 0 0∧F 4=.ptr b4 0 0∧F 5=.ptr b5 0 0∧Em h H m b2 b3 b4 b5 v1 v2 v3∧outG 1 encL H0 (zPs m) v1 H∧outG 1 encL H0 (zCs m) v2 H∧outG 1 (fun _:Pt=>F5) H0 m.pts v3 H) (fun _ _=>False) ?_ ?_ (fun _ _ hh=>hh.elim)
  .refine DK (fun n F H=>∃i v2,n+i=m.crs.length∧F 1=.ptr h.length 0 0∧F 2=.ptr b2 0 0∧F 3=.ptr b3 0 0∧F 4=.ptr b4 0 0∧F 5=.ptr b5 0 0∧F 33=.sl m.cm 3 (m.crs.map GG)∧F 34=.int .i64 m.crs.length∧F 35=.int .i64 (i:Nat)∧Em h H m b2 b3 b4 b5 v1 v2 v3∧outG 1 encL H0 (zPs m) v1 H∧outG 1 encL H0 ((zCs m).take i) v2 H∧outG 1 (fun _:Pt=>F5) H0 m.pts v3 H∧(∀b,isB v2 b->¬isB v1 b∧¬isB v3 b)∧H0.length<=H.length) m.crs.length
    ⟨0,_,by simp,by simp -implicitDefEqProofs only[AA,↓reduceIte,jA,f1],by simp -implicitDefEqProofs only[AA,↓reduceIte,jA,f2],by simp -implicitDefEqProofs only[AA,↓reduceIte,jA,f3],by simp -implicitDefEqProofs only[AA,↓reduceIte,jA,f4],by simp -implicitDefEqProofs only[AA,↓reduceIte,jA,f5],by simp -implicitDefEqProofs only[AA,↓reduceIte,jA],by simp -implicitDefEqProofs only[AA,↓reduceIte,jA],by simp -implicitDefEqProofs only[AA,↓reduceIte]; rfl,E,ho1,by rw[zN]; exact outG.nil _ _ _ _,ho3,fun b hb=>hb.elim,hle⟩ ?_
   clear f1 f2 f3 f4 f5 E ho1 ho3 hle;rintro n F H ⟨i,v2,hi,f1,f2,f3,f4,f5,f33,f34,f35,E,ho1,ho2,ho3,hd2,hle⟩;simp -implicitDefEqProofs only[C9,jR,jJ,jO,jQ,BC,BA,BI,A8,AY,BB,AL,BD,AX,AC,AA,AZ,BR,AB,DC,↓reduceIte,jB,jC,enP,DZ,f34,f35];refine CU (fun hc=>?_) (fun hc=>?_)
   .have hi':i<m.crs.length:=by simpa using hc
    have hcg:=hg.crs _ (jS hi');have hfs:=hg.full.szs hcg.here;have hsl:=LJ m m.crs[i].pts;have hfour:=hcg.four;have hpr:=hcg.prod;have hC:=AI2 m i hi';have E1:=E.app [.live 3 [GG m.crs[i]]];have gc1:=CY H (.live 3 [GG m.crs[i]]);obtain⟨v2',H2,hap,ho2',hk2,hl2,hn2,⟨o,l,rfl⟩,hx2⟩:=(ho2.app [.live 3 [GG m.crs[i]]]).app2 YU VJ AB6 ZQ (by omega) (by rw[zD,ACK]; omega) (by simp; omega) (zIs (GL (szs m m.crs[i].pts)));rw[<-hC] at ho2';have E2:=E1.keep hk2 (fun b hb=>by have:=ho2.lt hb; omega) (hx2 h (by omega));have E3:=E2.set4 v1 (.own o 0 l);have ho1':=((ho1.app [.live 3 [GG m.crs[i]]]).keepA hk2 (fun b hb h2=>(hd2 b h2).1 hb)).setB (b:=b4) (by omega) (.live 4 [H9 v1 (.own o 0 l)]);have ho3':=((ho3.app [.live 3 [GG m.crs[i]]]).keepA hk2 (fun b hb h2=>(hd2 b h2).2 hb)).setB (b:=b4) (by omega) (.live 4 [H9 v1 (.own o 0 l)]);have ho2'':=ho2'.setB (b:=b4) (by omega) (.live 4 [H9 v1 (.own o 0 l)]);simp -implicitDefEqProofs only[C9,jR,jJ,jO,jQ,BC,BP,BA,BO,A8,AY,BB,AL,BD,AX,AC,EM,AA,AZ,FD,BQ,D5,CE,BZ,AB,CX,↓reduceIte,jA,jB,jC,enP,V7,DZ,jP,f33,f35,DU hi',FM ZV XH J7 hi',AR3,AQA _ _ [.str ⟨#[]⟩,.sl .nil 0 [],.sl .nil 0 []] rfl];refine EZ (by kernel_rfl) ?_;simp -implicitDefEqProofs only[FZ,C9,jR,jJ,jO,jQ,ED,DN,EF,FB,LW,D9,GH,F8,AA,AZ,BX,BQ,JI,BJ,AB,jD,jE,jF,↓reduceIte,jA,jK,jG,jB,enP,KX,f1,f4,E1.l4',ldM E1.gm,ldC gc1];refine⟨_,RG G m _ _ hcg.here (by omega),?_⟩
    try simp -implicitDefEqProofs only[]
    refine⟨_,QQ G _ _ _ (fun n hn=>(hfs n hn).2) (by omega),?_⟩
    try simp -implicitDefEqProofs only[FZ,EY,FT,C9,jR,jJ,jO,jQ,qZ,ED,DN,EF,JV,IC,AA,AZ,EP,GR,BZ,↓reduceIte,jA,jK,jB,enP,mkF _ _ (show GL (szs m m.crs[i].pts)<=1048576 by omega),AEU]
    refine HY (v:=.own o 0 l) (h:=H2) hap ?_;simp -implicitDefEqProofs only[FZ,C9,jR,jJ,jO,jQ,ED,DN,JJ,E8,EF,JH,D9,BA,A8,EJ,EQ,AY,BB,AL,BD,AX,AC,AA,AZ,AU,BH,BG,D5,BR,BJ,AB,CX,CZ,↓reduceIte,jA,jK,jG,jB,jC,enP,KX,DZ,jP,f4,E2.s4',f35,wrap_succ (show i<9223372036854775807 by omega)];refine⟨n-1,by omega,i+1,.own o 0 l,by omega,f1,f2,f3,trivial,f5,f33,f34,rfl,E3,ho1',ho2'',ho3',fun b hb=>⟨fun h1=>?_,fun h3=>?_⟩,?_⟩
    .have h0:=hn2 b hb
     have h2:=ho1.lt h1;rw[qB] at h0;simp at h0; omega
    .have h0:=hn2 b hb
     have h2:=ho3.lt h3;rw[qB] at h0;simp at h0; omega
    .rw[qI,hl2,qB]; simp; omega
   .have hi':¬i<m.crs.length:=by simpa using hc
    rw[jX (by rw[ACK]; omega)] at ho2;simp -implicitDefEqProofs only[DJ,EI,J3,ET,AA,↓reduceIte,jA];exact⟨v2,f2,f3,f4,f5,E,ho1,ho2,ho3⟩
  .rintro F' H' ⟨v2,g2,g3,g4,g5,E',q1,q2,q3⟩
   simp -implicitDefEqProofs only[BC,A8,EW,↓reduceIte];have p2:=E'.o2; have p3:=E'.o3; have p4:=E'.o4; have p5:=E'.o5;refine Q7 [(5,2)] (by kernel_rfl) ?_ ?_
   .simp -implicitDefEqProofs only[g2,g5,Q9,UN,UB,and_true]
    omega
   simp -implicitDefEqProofs only[FZ,C9,jR,jJ,jO,jQ,ED,DN,JJ,E8,EF,FB,JH,BK,A8,AA,AZ,BQ,D5,AB,CX,↓reduceIte,jA,jK,jG,jB,enP,jP,g2,g3,g4,g5,IM E'.g4 rfl,NZ E'.g5 rfl,ADE E'.g2 rfl q1.leaf q2.leaf,AFX (CW E'.g3 (show b3≠b2 by omega)) rfl q3.leaf];rw[AUS (ba:=b2) (bb:=b3) (by simp -implicitDefEqProofs only[AA,↓reduceIte,jA,g2]) (by simp -implicitDefEqProofs only[AA,↓reduceIte,jA,g3]) (IM (CW (D8 E'.g2) (show b2≠b3 by omega)) rfl) (NZ (D8 (CW E'.g3 (show b3≠b2 by omega))) rfl)];have hs1:∀ {α:Type} {f:α->List AV} {ys:List α} {v:AV},outG 1 f H0 ys v H'->outG 1 f h ys v ((H'.set b2 (.live 4 [H9 v1 v2])).set b3 (.live 1 [[v3]])):=fun q=>((q.setB (b:=b2) (by omega) _).setB (b:=b3) (by omega) _).base (by omega)
   exact⟨(E'.hx.set (by omega) _).set (by omega) _,v1,v2,v3,rfl,hs1 q1,hs1 q2,hs1 q3⟩
structure Er (h H:Hp) (m:Mo) (b2 b3:Nat) (v1 v2:AV):Prop where
 gm:H[h.length]?=some (.live 2 [D6 m])
 g2:H[b2]?=some (.live 4 [FC])
 g3:H[b3]?=some (.live 4 [H9 v1 v2])
 o2:h.length<b2
 o3:b2<b3
 hx:ext h H
section
variable {h H:Hp} {m:Mo} {b2 b3:Nat} {v1 v2:AV} (E:Er h H m b2 b3 v1 v2)
include E
theorem Er.m0:EH Tryz.prog H 22 (.ptr h.length 0 0)=some (.sl m.pm 6 (m.pts.map GM)):=by rw[DW WN E.gm (row:=D6 m) rfl,QA]
theorem Er.m1:EH Tryz.prog H 23 (.ptr h.length 0 1)=some (.sl m.cm 3 (m.crs.map GG)):=by rw[DW AA5 E.gm (row:=D6 m) rfl,UI]
theorem Er.l3:EH Tryz.prog H 26 (.ptr b3 0 0)=some v1:=by rw[DW QX E.g3 (row:=H9 v1 v2) rfl]; rfl
theorem Er.l3':EH Tryz.prog H 26 (.ptr b3 0 1)=some v2:=by rw[DW QX E.g3 (row:=H9 v1 v2) rfl]; rfl
theorem Er.keep {H':Hp}{u:AV}(hk:∀b x,H[b]?=some x->¬isB u b->H'[b]?=some x)(hu:∀b,isB u b->b3<b)(hx:ext h H->ext h H'):Er h H' m b2 b3 v1 v2:=by
 have o2:=E.o2; have o3:=E.o3;exact⟨hk _ _ E.gm (fun e=>by have:=hu _ e; omega),hk _ _ E.g2 (fun e=>by have:=hu _ e; omega),hk _ _ E.g3 (fun e=>by have:=hu _ e; omega),o2,o3,hx E.hx⟩
theorem Er.set3 (w1 w2:AV):Er h (H.set b3 (.live 4 [H9 w1 w2])) m b2 b3 w1 w2:=by
 have o2:=E.o2; have o3:=E.o3;exact⟨CW E.gm (by omega),CW E.g2 (by omega),D8 E.g3,o2,o3,E.hx.set (by omega) _⟩
theorem Er.s3 {o l:Nat}:FW Tryz.prog H 26 (.ptr b3 0 0) (.own o 0 l)=some (H.set b3 (.live 4 [H9 (.own o 0 l) v2])):=OY (row:=H9 v1 v2) (YM _ _ _) ALZ E.g3 (by simp [H9])
theorem Er.s3' {o l:Nat}:FW Tryz.prog H 26 (.ptr b3 0 1) (.own o 0 l)=some (H.set b3 (.live 4 [H9 v1 (.own o 0 l)])):=OY (row:=H9 v1 v2) (YM _ _ _) ALZ E.g3 (by simp [H9])
theorem Er.lt:b3<H.length:=CJ E.g3
end
theorem Er.mk' (h:Hp)(m:Mo):Er h (h++[ABlk.live 2 [D6 m]]++[ABlk.live 4 [FC]]++[ABlk.live 4 [FC]]) m (h++[ABlk.live 2 [D6 m]]).length (h++[ABlk.live 2 [D6 m]]++[ABlk.live 4 [FC]]).length (.sl .nil 0 []) (.sl .nil 0 []) :=
 ⟨CV (CV (CY _ _)),CV (CY _ _),CY _ _,by simp,by simp,(((ext.rfl' h).app _).app _).app _⟩
theorem ASX (h:Hp):FW Tryz.prog (h++[.live 4 [FC]]) 28 (.ptr h.length 0 0) (.agg FC)=some (h++[.live 4 [FC]]):=by rw[stZ (CY _ _) rfl,OZ]
theorem A0F (h:Hp):FW Tryz.prog (h++[.live 1 [F5]]) 47 (.ptr h.length 0 0) (.agg F5)=some (h++[.live 1 [F5]]):=by rw[ABD (CY _ _) rfl,OZ]
theorem AK2 {E:Env}{f:FuncId}{args:List AV}{h:Hp}{m:Mo}(hc:ACalls E f args h fun v H=>ext h H∧∃v1 v2,v=.agg (H9 v1 v2)∧outG 1 encL h (zPs m) v1 H∧outG 1 encL h (zCs m) v2 H) :
  PCall E f args h (.agg (ER (KR m))):=by
 have hp:PCall E f args h (.agg (H9 (fzG 1 encL (zPs m)) (fzG 1 encL (zCs m)))):=by
  refine ACalls.pure 3 hc ?_;rintro v H ⟨he,v1,v2,rfl,o1,o2⟩;refine⟨he,?_⟩;have e1:=RV ARA o1 h.length 0 (jM _);have e2:=RV ARA o2 h.length 0 (jM _);show AV.agg [IV h.length H 2 v1,IV h.length H 2 v2,.int .i64 0,.int .i64 0]=_;rw[e1,e2]; rfl
 exact hp.res (CvR.agg (CvRL.cons TS (CvRL.cons TS (CvRL.refl _))))
set_option maxHeartbeats 2000000 in
theorem ARL (G:Nat->AV)(m:Mo)(hm:MoOk m)(hg:Good m)(h:Hp):PCall (En G) 92 [.agg (D6 m)] h (.agg (ER (KR m))):=by
 refine AK2 ?_;have hm1:=hm.np;have hm2:=hm.nc;have hnum:=hg.num;refine LV (H:=hint [25,45] []) (enM G) Tryz.func92 rfl (by kernel_rfl) (by kernel_rfl) (jH (by kernel_rfl)) ?_;show awp _ _ _ _ _ (EN _ [.cell 2 28] _);have E:=Er.mk' h m;simp -implicitDefEqProofs only[EY,C9,jR,jJ,jO,jQ,BC,BP,BA,A8,AY,BB,AL,BD,AX,AC,EM,AA,AZ,AU,BH,A7,FD,FU,G9,D5,BZ,AB,CX,BF,↓reduceIte,jA,jB,jC,enP,DZ,jP,bxM,KE,N8,ASX]
 generalize h++[ABlk.live 2 [D6 m]]++[ABlk.live 4 [FC]]++[ABlk.live 4 [FC]]=H0 at E|-
 generalize (h++[ABlk.live 2 [D6 m]]++[ABlk.live 4 [FC]]).length=b3 at E|-
 generalize (h++[ABlk.live 2 [D6 m]]).length=b2 at E|-
 have o2:=E.o2; have o3:=E.o3;have hlt0:=E.lt;refine GN 0 (fun F H=>∃v1,F 1=.ptr h.length 0 0∧F 2=.ptr b2 0 0∧F 3=.ptr b3 0 0∧Er h H m b2 b3 v1 (.sl .nil 0 [])∧outG 1 encL H0 (zPs m) v1 H∧H0.length<=H.length) (fun _ _=>False) ?_ ?_ (fun _ _ hh=>hh.elim)
 .refine DK (fun n F H=>∃i v1,n+i=m.pts.length∧F 1=.ptr h.length 0 0∧F 2=.ptr b2 0 0∧F 3=.ptr b3 0 0∧F 4=.int .i64 (i:Nat)∧Er h H m b2 b3 v1 (.sl .nil 0 [])∧outG 1 encL H0 ((zPs m).take i) v1 H∧H0.length<=H.length) m.pts.length
   ⟨0,_,by simp,by simp -implicitDefEqProofs only[AA,↓reduceIte,jA],by simp -implicitDefEqProofs only[AA,↓reduceIte,jA],by simp -implicitDefEqProofs only[AA,↓reduceIte,jA],by simp -implicitDefEqProofs only[AA,↓reduceIte]; rfl,E,by rw[zN]; exact outG.nil _ _ _ _,jM _⟩ ?_
  clear E;rintro n F H ⟨i,v1,hi,f1,f2,f3,f4,E,ho1,hle⟩;simp -implicitDefEqProofs only[C9,jR,jJ,jO,jQ,BC,BA,BI,A8,AY,BB,AL,BD,AX,AC,AA,AZ,BG,BQ,BR,BJ,D7,AB,DC,↓reduceIte,jA,jL,jB,jC,enP,QS,IR,DZ,f1,f4,E.m0,jI];refine CU (fun hc=>?_) (fun hc=>?_)
  .have hi':i<m.pts.length:=by simpa using hc
   have h64:=(hg.full _ (jS hi')).2;have hP:=AI1 m i hi';have hH:=E.lt;obtain⟨v1',H2,hap,ho1',hk1,hl2,hn1,⟨o,l,rfl⟩,hx2⟩:=ho1.app2 YU VJ AB6 ZQ (by omega) (by rw[zD,ACJ]; omega) hle (zIs m.pts[i].bins.length);rw[<-hP] at ho1';have E2:=E.keep hk1 (fun b hb=>by have:=ho1.lt hb; omega) (hx2 h (by omega));have E3:=E2.set3 (.own o 0 l) (.sl .nil 0 []);have ho1'':=ho1'.setB (b:=b3) (by omega) (.live 4 [H9 (.own o 0 l) (.sl .nil 0 [])]);simp -implicitDefEqProofs only[BC,BP,BO,A8];refine EZ (by kernel_rfl) ?_;simp -implicitDefEqProofs only[FZ,EY,FT,C9,jR,jJ,jO,jQ,ED,DN,EF,FO,JV,FB,LW,D9,EE,IC,AA,AZ,EP,BQ,JI,BJ,CE,D7,GR,BZ,AB,↓reduceIte,jA,jK,jL,jG,jB,enP,SS,IR,L8,RQ,JB,f1,f3,f4,E.l3,E.m0,DU hi',DF SG hi',NS,jI,mkF _ _ (show m.pts[i].bins.length<=1048576 by omega),AEU];refine HY (v:=.own o 0 l) (h:=H2) hap ?_;simp -implicitDefEqProofs only[FZ,C9,jR,jJ,jO,jQ,ED,DN,JJ,E8,EF,JH,D9,BA,A8,EJ,EQ,AY,BB,AL,BD,AX,AC,AA,AZ,AU,BH,BG,A7,D5,BR,BJ,AB,CX,CZ,↓reduceIte,jA,jK,jL,jG,jB,jC,enP,L8,DZ,jP,f3,E2.s3,f4,wrap_succ (show i<9223372036854775807 by omega)];exact⟨n-1,by omega,i+1,.own o 0 l,by omega,f1,f2,trivial,rfl,E3,ho1'',by rw[qI]; omega⟩
  .have hi':¬i<m.pts.length:=by simpa using hc
   rw[jX (by rw[ACJ]; omega)] at ho1;simp -implicitDefEqProofs only[DJ,EI,J3,ET,AA,↓reduceIte,jA];exact⟨v1,f1,f2,f3,E,ho1,hle⟩
 .rintro F H ⟨v1,f1,f2,f3,E,ho1,hle⟩
  simp -implicitDefEqProofs only[C9,jR,jJ,jO,jQ,BC,BP,BA,A8,EW,AY,BB,AL,BD,AX,AC,AU,BH,A7,↓reduceIte,jB,jC,DZ];refine GN 2 (fun F H=>∃v2,F 2=.ptr b2 0 0∧F 3=.ptr b3 0 0∧Er h H m b2 b3 v1 v2∧outG 1 encL H0 (zPs m) v1 H∧outG 1 encL H0 (zCs m) v2 H) (fun _ _=>False) ?_ ?_ (fun _ _ hh=>hh.elim)
  .refine DK (fun n F H=>∃i v2,n+i=m.crs.length∧F 1=.ptr h.length 0 0∧F 2=.ptr b2 0 0∧F 3=.ptr b3 0 0∧F 5=.int .i64 (i:Nat)∧Er h H m b2 b3 v1 v2∧outG 1 encL H0 (zPs m) v1 H∧outG 1 encL H0 ((zCs m).take i) v2 H∧(∀b,isB v2 b->¬isB v1 b)∧H0.length<=H.length) m.crs.length
    ⟨0,_,by simp,by simp -implicitDefEqProofs only[AA,↓reduceIte,jA,f1],by simp -implicitDefEqProofs only[AA,↓reduceIte,jA,f2],by simp -implicitDefEqProofs only[AA,↓reduceIte,jA,f3],by simp -implicitDefEqProofs only[AA,↓reduceIte]; rfl,E,ho1,by rw[zN]; exact outG.nil _ _ _ _,fun b hb=>hb.elim,hle⟩ ?_
   clear f1 f2 f3 E ho1 hle;rintro n F H ⟨i,v2,hi,f1,f2,f3,f5,E,ho1,ho2,hd2,hle⟩;simp -implicitDefEqProofs only[C9,jR,jJ,jO,jQ,BC,BA,BI,A8,AY,BB,AL,BD,AX,AC,AA,AZ,BG,BQ,BR,BJ,D7,AB,DC,↓reduceIte,jA,jG,jB,jC,enP,VL,J4,DZ,f1,f5,E.m1,jI];refine CU (fun hc=>?_) (fun hc=>?_)
   .have hi':i<m.crs.length:=by simpa using hc
    have hcg:=hg.crs _ (jS hi');have hpr:=hcg.prod;have hfour:=hcg.four;have hmin:min ((GL (szs m m.crs[i].pts):Nat):Int) 1000=((GL (szs m m.crs[i].pts):Nat):Int):=by omega
    have hcall:=XD G m m.crs[i] H hcg.here hg.full (by omega);rw[hmin] at hcall;have hC:=AI2 m i hi';have hH:=E.lt;obtain⟨v2',H2,hap,ho2',hk2,hl2,hn2,⟨o,l,rfl⟩,hx2⟩:=ho2.app2 YU VJ AB6 ZQ (by omega) (by rw[zD,ACK]; omega) hle (zIs (GL (szs m m.crs[i].pts)));rw[<-hC] at ho2';have E2:=E.keep hk2 (fun b hb=>by have:=ho2.lt hb; omega) (hx2 h (by omega));have E3:=E2.set3 v1 (.own o 0 l);have ho1':=(ho1.keepA hk2 (fun b hb h2=>hd2 b h2 hb)).setB (b:=b3) (by omega) (.live 4 [H9 v1 (.own o 0 l)]);have ho2'':=ho2'.setB (b:=b3) (by omega) (.live 4 [H9 v1 (.own o 0 l)]);simp -implicitDefEqProofs only[BC,BP,BO,A8];refine EZ (by kernel_rfl) ?_;simp -implicitDefEqProofs only[FZ,C9,jR,jJ,jO,jQ,ED,DN,EF,FO,FB,LW,D9,EE,GH,F8,AA,AZ,BX,BQ,JI,BJ,CE,AB,jD,jE,jF,↓reduceIte,jA,jK,jG,jB,enP,V7,J4,KX,f1,f3,f5,E.l3',E.m1,ldM E.gm,DU hi',FM ZV XH J7 hi'];refine⟨_,hcall,?_⟩
    try simp -implicitDefEqProofs only[FZ,EY,FT,C9,jR,jJ,jO,jQ,qZ,ED,DN,EF,JV,IC,AA,AZ,EP,GR,BZ,↓reduceIte,jA,jK,jB,enP,mkF _ _ (show GL (szs m m.crs[i].pts)<=1048576 by omega),AEU]
    refine HY (v:=.own o 0 l) (h:=H2) hap ?_;simp -implicitDefEqProofs only[FZ,C9,jR,jJ,jO,jQ,ED,DN,JJ,E8,EF,JH,D9,BA,A8,EJ,EQ,AY,BB,AL,BD,AX,AC,AA,AZ,AU,BH,BG,A7,D5,BR,BJ,AB,CX,CZ,↓reduceIte,jA,jK,jG,jB,jC,enP,KX,DZ,jP,f3,E2.s3',f5,wrap_succ (show i<9223372036854775807 by omega)];refine⟨n-1,by omega,i+1,.own o 0 l,by omega,f1,f2,trivial,rfl,E3,ho1',ho2'',fun b hb h1=>?_,by rw[qI]; omega⟩;have h0:=hn2 b hb;have h2:=ho1.lt h1;omega
   .have hi':¬i<m.crs.length:=by simpa using hc
    rw[jX (by rw[ACK]; omega)] at ho2;simp -implicitDefEqProofs only[DJ,EI,J3,ET,AA,↓reduceIte,jA];exact⟨v2,f2,f3,E,ho1,ho2⟩
  .rintro F' H' ⟨v2,g2,g3,E',q1,q2⟩
   have hp:=E'.o2; have hq:=E'.o3;simp -implicitDefEqProofs only[C9,jR,jJ,jO,jQ,BC,BA,BK,A8,EW,AY,BB,AL,BD,AX,AC,EM,AA,AZ,BQ,D5,AB,CX,↓reduceIte,jA,jB,jC,enP,DZ,jP,g2,g3,IM E'.g3 rfl,ADE E'.g2 rfl q1.leaf q2.leaf];rw[AM3 (b:=b2) (by simp -implicitDefEqProofs only[AA,↓reduceIte,jA,g2]) (IM (D8 E'.g2) rfl)];have hs1:∀ {α:Type} {f:α->List AV} {ys:List α} {v:AV},outG 1 f H0 ys v H'->outG 1 f h ys v (H'.set b2 (.live 4 [H9 v1 v2])):=fun q=>(q.setB (b:=b2) (by omega) _).base (by omega)
   exact⟨E'.hx.set (by omega) _,v1,v2,rfl,hs1 q1,hs1 q2⟩
theorem QL {E:Env}{f:FuncId}{args:List AV}{h:Hp}{r:AV}(d:Nat)(hr:∀n H,IV n H d r=r)(hc:ACalls E f args h fun v H=>v=r∧ext h H):PCall E f args h r :=
 ACalls.pure d hc fun v H ⟨e,he⟩=>⟨he,by rw[e]; exact hr _ _⟩
def emV (m:Mo):Cvr:=if EU m=0 then KR m else zV
def emT (m:Mo):Tk:=if EU m=0 then ⟨nm (zLs m),zLs m⟩ else zT
def VM (m:Mo):Tk:=if EU m=0 then ⟨.full,zLs m⟩ else zT
structure Ee (h H:Hp) (m:Mo) (b2 b3:Nat):Prop where
 gm:H[h.length]?=some (ABlk.live 2 [D6 m])
 g2:H[b2]?=some (ABlk.live 4 [FC])
 g3:H[b3]?=some (ABlk.live 1 [F5])
 o2:h.length<b2
 o3:b2<b3
 hx:ext h H
theorem Ee.mk' (h:Hp)(m:Mo):Ee h (h++[ABlk.live 2 [D6 m]]++[ABlk.live 4 [FC]]++[ABlk.live 1 [F5]]) m (h++[ABlk.live 2 [D6 m]]).length (h++[ABlk.live 2 [D6 m]]++[ABlk.live 4 [FC]]).length :=
 ⟨CV (CV (CY _ _)),CV (CY _ _),CY _ _,by simp,by simp,(((ext.rfl' h).app _).app _).app _⟩
theorem Ee.lt {h H:Hp}{m:Mo}{b2 b3:Nat}(E:Ee h H m b2 b3):b3<H.length:=CJ E.g3
theorem Ee.m0 {h H:Hp}{m:Mo}{b2 b3:Nat}(E:Ee h H m b2 b3):EH Tryz.prog H 22 (.ptr h.length 0 0)=some (.sl m.pm 6 (m.pts.map GM)):=by rw[DW WN E.gm (row:=D6 m) rfl,QA]
theorem AXY (H0:Hp)(c:Cvr)(t:Tk) :
  FW Tryz.prog (H0++[ABlk.live 4 [FC]]++[ABlk.live 1 [F5]]) 28 (.ptr H0.length 0 0) (.agg (ER c))=some ((H0++[ABlk.live 4 [FC]]++[ABlk.live 1 [F5]]).set H0.length (ABlk.live 4 [ER c])) ∧
  FW Tryz.prog ((H0++[ABlk.live 4 [FC]]++[ABlk.live 1 [F5]]).set H0.length (ABlk.live 4 [ER c])) 47 (.ptr (H0++[ABlk.live 4 [FC]]).length 0 0) (.agg (KF t))=some (((H0++[ABlk.live 4 [FC]]++[ABlk.live 1 [F5]]).set H0.length (ABlk.live 4 [ER c])).set (H0++[ABlk.live 4 [FC]]).length (ABlk.live 1 [KF t])) ∧
  (((H0++[ABlk.live 4 [FC]]++[ABlk.live 1 [F5]]).set H0.length (ABlk.live 4 [ER c])).set (H0++[ABlk.live 4 [FC]]).length (ABlk.live 1 [KF t]))[H0.length]?=some (ABlk.live 4 [ER c]) ∧
  (((H0++[ABlk.live 4 [FC]]++[ABlk.live 1 [F5]]).set H0.length (ABlk.live 4 [ER c])).set (H0++[ABlk.live 4 [FC]]).length (ABlk.live 1 [KF t]))[(H0++[ABlk.live 4 [FC]]).length]?=some (ABlk.live 1 [KF t]) ∧
  ext H0 (((H0++[ABlk.live 4 [FC]]++[ABlk.live 1 [F5]]).set H0.length (ABlk.live 4 [ER c])).set (H0++[ABlk.live 4 [FC]]).length (ABlk.live 1 [KF t])) :=
 ⟨stV (CV (CY _ _)) rfl,stT (CW (CY _ _) (by simp)) rfl,CW (D8 (CV (CY _ _))) (by simp),D8 (CW (CY _ _) (by simp)),((((ext.rfl' H0).app _).app _).set (jM _) _).set (by simp) _⟩
theorem FP {h H:Hp}{b:Nat}{x:ABlk}(he:ext h H)(hb:h[b]?=some x):H[b]?=some x:=by
 obtain⟨y,rfl⟩:=he;exact FX hb
theorem AM2 (e:Int):CvR (.tup [.agg FC,.agg F5,.int .i64 e]) (.tup [.agg (ER zV),.agg (KF zT),.int .i64 e]):=CvR.tup (CvRL.cons AFR (CvRL.cons A1S (CvRL.refl _)))
set_option maxHeartbeats 1000000 in
theorem AN3 (G:Nat->AV)(hG:GOk G)(m:Mo)(hm:MoOk m)(h:Hp):PCall (En G) 67 [.agg (D6 m)] h (.tup [.agg (ER (emV m)),.agg (KF (emT m)),.int .i64 (EU m)]):=by
 by_cases h0:EU m=0
 .have hb:(EU m==0)=true:=by simpa using h0
  unfold emV emT;rw[if_pos h0,if_pos h0];have hg:=LX h0;refine QL 3 (fun n H=>rfl) ?_;refine acN Tryz.func67 rfl ?_;show awp _ _ _ _ _ (EN _ [.cell 2 28,.cell 3 47,.tmp 4] _);have E:=Ee.mk' h m;simp -implicitDefEqProofs only[BC,BA,A8,AY,BB,AO,AQ,AL,BD,AX,AC,AA,AZ,AU,BH,A7,FD,FU,BQ,BZ,BF,↓reduceIte,jA,jB,jC,enP,bxM,KE,VO]
  generalize h++[ABlk.live 2 [D6 m]]++[ABlk.live 4 [FC]]++[ABlk.live 1 [F5]]=H0 at E|-
  generalize (h++[ABlk.live 2 [D6 m]]++[ABlk.live 4 [FC]]).length=b3 at E|-
  generalize (h++[ABlk.live 2 [D6 m]]).length=b2 at E|-
  have o2:=E.o2; have o3:=E.o3; have hlt:=E.lt;simp -implicitDefEqProofs only[AY,AO,AQ,AL,BD,AX,AC,AA,AZ,BX,CB,BU,AB,jD,jE,jF,↓reduceIte,jB,jC,ldM E.gm];refine(RP G hG m hm _).use ?_;simp -implicitDefEqProofs only[BC,BA,BO,BI,A8,DT,AY,BB,AO,AQ,AL,BD,AX,AC,AA,AZ,AU,BX,BH,BG,A7,BQ,BR,CB,BU,AB,EK,jD,jE,jF,↓reduceIte,jA,jB,jT,jC,enP,bne,hb,ldM E.gm];refine(AM6 G m hm hg _).use ?_;obtain⟨s1,s2,g6,g7,hx5⟩:=AXY H0 (KR m) ⟨nm (zLs m),zLs m⟩;have g2:=FP hx5 E.g2;have g3:=FP hx5 E.g3;have hx:=E.hx.trans hx5;have h7:b2<(H0++[ABlk.live 4 [FC]]).length:=by simp; omega
  simp -implicitDefEqProofs only[zB,zG,BC,A8,AY,BB,AO,AQ,AL,BD,AX,AC,EM,AA,AZ,BG,FD,D5,FI,GU,BZ,AB,CX,↓reduceIte,jA,jB,jC,enP,jP,KE,VO,s1,s2]
  generalize ((H0++[ABlk.live 4 [FC]]++[ABlk.live 1 [F5]]).set H0.length (ABlk.live 4 [ER (KR m)])).set (H0++[ABlk.live 4 [FC]]).length (ABlk.live 1 [KF ⟨nm (zLs m),zLs m⟩])=H5 at g6 g7 g2 g3 hx|-
  generalize (H0++[ABlk.live 4 [FC]]).length=b7 at g7 h7|-
  refine Q7 [(7,2)] (by kernel_rfl) ?_ ?_
  .simp -implicitDefEqProofs only[AA,↓reduceIte,jA,Q9,UN,UB,and_true]
   omega
  simp -implicitDefEqProofs only[FZ,ED,DN,JJ,E8,EF,I7,FB,JH,BK,A8,AO,AA,AZ,AU,BH,BQ,D5,AB,CX,↓reduceIte,jA,jK,jG,jB,enP,jP,ldV g6,ldT g7,stV g2 rfl,stT (CW g3 (show b3≠b2 by omega)) rfl];rw[TE (ba:=b2) (bb:=b3) (by simp -implicitDefEqProofs only[AA,↓reduceIte,jA]) (by simp -implicitDefEqProofs only[AA,↓reduceIte,jA]) (ldV (CW (D8 g2) (show b2≠b3 by omega))) (ldT (D8 (CW g3 (show b3≠b2 by omega))))];exact⟨by simp -implicitDefEqProofs only[AA,↓reduceIte,h0],(hx.set (by omega) _).set (by omega) _⟩
 .have hb:(EU m==0)=false:=by simpa using h0
  unfold emV emT;rw[if_neg h0,if_neg h0];refine PCall.res ?_ (AM2 _);refine QL 3 (fun n H=>rfl) ?_;refine acN Tryz.func67 rfl ?_;show awp _ _ _ _ _ (EN _ [.cell 2 28,.cell 3 47,.tmp 4] _);have E:=Ee.mk' h m;simp -implicitDefEqProofs only[BC,BA,A8,AY,BB,AO,AQ,AL,BD,AX,AC,AA,AZ,AU,BH,A7,FD,FU,BQ,BZ,BF,↓reduceIte,jA,jB,jC,enP,bxM,KE,VO]
  generalize h++[ABlk.live 2 [D6 m]]++[ABlk.live 4 [FC]]++[ABlk.live 1 [F5]]=H0 at E|-
  generalize (h++[ABlk.live 2 [D6 m]]++[ABlk.live 4 [FC]]).length=b3 at E|-
  generalize (h++[ABlk.live 2 [D6 m]]).length=b2 at E|-
  have o2:=E.o2; have o3:=E.o3; have hlt:=E.lt;simp -implicitDefEqProofs only[AY,AO,AQ,AL,BD,AX,AC,AA,AZ,BX,CB,BU,AB,jD,jE,jF,↓reduceIte,jB,jC,ldM E.gm];refine(RP G hG m hm _).use ?_;simp -implicitDefEqProofs only[EY,BC,BA,BK,BI,A8,CP,DI,AY,BB,AO,AQ,AL,BD,AX,AC,EM,AA,AZ,AU,BH,BG,A7,G9,D5,BR,AB,CX,EK,↓reduceIte,jA,jB,jC,enP,jP,bne,hb,N8,ABY,stZ E.g2 rfl,ABD (CW E.g3 (show b3≠b2 by omega)) rfl];rw[TE (ba:=b2) (bb:=b3) (by simp -implicitDefEqProofs only[AA,↓reduceIte,jA]) (by simp -implicitDefEqProofs only[AA,↓reduceIte,jA]) (IM (CW (D8 E.g2) (show b2≠b3 by omega)) rfl) (NZ (D8 (CW E.g3 (show b3≠b2 by omega))) rfl)];exact⟨by simp -implicitDefEqProofs only[AA,↓reduceIte],(E.hx.set (by omega) _).set (by omega) _⟩
theorem A2P (h:Hp)(m:Mo)(hn:m.pts.length<=1048576):I9 Tryz.prog false h 26 (.int .i64 (m.pts.length:Int)) (.int .i64 (m.pts.length:Int))=some (.sl .full 1 (m.pts.map fun _=>F5),h):=by
 have hz:NV Tryz.prog 57=some F5:=by kernel_rfl
 have hr:room m.pts.length 24:=JW (by omega) (by omega);unfold I9;simp only[YU,VJ,ZQ,hz,wF];rw[if_pos ⟨by omega,Int.le_refl _,hr,rfl⟩];simp [List.map_const']
theorem A3V (xs:List (List AV)):LQ Tryz.prog 47 [(0,.sl .full 1 xs)]=some (.agg [.sl .full 1 xs]):=by kernel_rfl
set_option maxHeartbeats 1000000 in
theorem AG8 (G:Nat->AV)(m:Mo)(hm:MoOk m)(h:Hp):PCall (En G) 40 [.agg (D6 m)] h (.tup [.agg (ER (emV m)),.agg (KF (VM m)),.int .i64 (EU m)]):=by
 by_cases h0:EU m=0
 .have hb:(EU m==0)=true:=by simpa using h0
  unfold emV VM;rw[if_pos h0,if_pos h0];have hg:=LX h0;refine PCall.res (r:=.tup [.agg (ER (KR m)),.agg [.sl .full 1 (m.pts.map fun _=>F5)],.int .i64 (EU m)]) ?_ (CvR.tup (CvRL.cons (CvR.refl _) (CvRL.cons (CvR.agg (CvRL.cons (CvR.sl (AO3 m.pts)) CvRL.nil)) (CvRL.refl _))));refine QL 3 (fun n H=>rfl) ?_;refine acN Tryz.func40 rfl ?_;show awp _ _ _ _ _ (EN _ [.cell 2 28,.cell 3 47,.tmp 4] _);have E:=Ee.mk' h m;simp -implicitDefEqProofs only[BC,BA,A8,AY,BB,AO,AQ,AL,BD,AX,AC,AA,AZ,AU,BH,A7,FD,FU,BQ,BZ,BF,↓reduceIte,jA,jB,jC,enP,bxM,KE,VO]
  generalize h++[ABlk.live 2 [D6 m]]++[ABlk.live 4 [FC]]++[ABlk.live 1 [F5]]=H0 at E|-
  generalize (h++[ABlk.live 2 [D6 m]]++[ABlk.live 4 [FC]]).length=b3 at E|-
  generalize (h++[ABlk.live 2 [D6 m]]).length=b2 at E|-
  have o2:=E.o2; have o3:=E.o3; have hlt:=E.lt;simp -implicitDefEqProofs only[AY,AO,AQ,AL,BD,AX,AC,AA,AZ,BX,CB,BU,AB,jD,jE,jF,↓reduceIte,jB,jC,ldM E.gm];refine(PM G m hm _).use ?_;simp -implicitDefEqProofs only[BC,BA,BO,BI,A8,DT,AY,BB,AO,AQ,AL,BD,AX,AC,AA,AZ,AU,BH,BG,A7,BR,AB,EK,↓reduceIte,jB,jT,jC,enP,bne,hb];refine Q7 [(15,2),(1,2)] (by kernel_rfl) ?_ ?_
  .simp -implicitDefEqProofs only[AA,BN,AKO,↓reduceIte,jA,Q9,UN,UB,A0J,and_true,true_and]
   omega
  simp -implicitDefEqProofs only[FZ,ED,DN,EF,FB,D9,GH,F8,AO,AA,AZ,BX,BQ,BJ,AB,jD,jE,jF,↓reduceIte,jA,jK,jL,jB,enP,IR,ldM E.gm];refine⟨_,ARL G m hm hg _,?_⟩
  try simp -implicitDefEqProofs only[FZ,EY,FT,ED,DN,JJ,E8,EF,I7,AHA,JH,LW,IC,BK,A8,AO,AA,AZ,AU,BH,G9,D5,JI,D7,BZ,AB,CX,↓reduceIte,jA,jK,jG,jB,enP,QS,jP,E.m0,jI,A2P _ m hm.np,A3V,stV E.g2 rfl,AFX (v3:=.sl .full 1 (m.pts.map fun _=>F5)) (CW E.g3 (show b3≠b2 by omega)) rfl rfl]
  rw[TE (ba:=b2) (bb:=b3) (by simp -implicitDefEqProofs only[AA,↓reduceIte,jA]) (by simp -implicitDefEqProofs only[AA,↓reduceIte,jA]) (ldV (CW (D8 E.g2) (show b2≠b3 by omega))) (NZ (D8 (CW E.g3 (show b3≠b2 by omega))) rfl)];exact⟨by simp -implicitDefEqProofs only[AA,↓reduceIte,h0],(E.hx.set (by omega) _).set (by omega) _⟩
 .have hb:(EU m==0)=false:=by simpa using h0
  unfold emV VM;rw[if_neg h0,if_neg h0];refine PCall.res ?_ (AM2 _);refine QL 3 (fun n H=>rfl) ?_;refine acN Tryz.func40 rfl ?_;show awp _ _ _ _ _ (EN _ [.cell 2 28,.cell 3 47,.tmp 4] _);have E:=Ee.mk' h m;simp -implicitDefEqProofs only[BC,BA,A8,AY,BB,AO,AQ,AL,BD,AX,AC,AA,AZ,AU,BH,A7,FD,FU,BQ,BZ,BF,↓reduceIte,jA,jB,jC,enP,bxM,KE,VO]
  generalize h++[ABlk.live 2 [D6 m]]++[ABlk.live 4 [FC]]++[ABlk.live 1 [F5]]=H0 at E|-
  generalize (h++[ABlk.live 2 [D6 m]]++[ABlk.live 4 [FC]]).length=b3 at E|-
  generalize (h++[ABlk.live 2 [D6 m]]).length=b2 at E|-
  have o2:=E.o2; have o3:=E.o3; have hlt:=E.lt;simp -implicitDefEqProofs only[AY,AO,AQ,AL,BD,AX,AC,AA,AZ,BX,CB,BU,AB,jD,jE,jF,↓reduceIte,jB,jC,ldM E.gm];refine(PM G m hm _).use ?_;simp -implicitDefEqProofs only[EY,BC,BA,BK,BI,A8,CP,DI,AY,BB,AO,AQ,AL,BD,AX,AC,EM,AA,AZ,AU,BH,BG,A7,G9,D5,BR,AB,CX,EK,↓reduceIte,jA,jB,jC,enP,jP,bne,hb,N8,ABY,stZ E.g2 rfl,ABD (CW E.g3 (show b3≠b2 by omega)) rfl];rw[TE (ba:=b2) (bb:=b3) (by simp -implicitDefEqProofs only[AA,↓reduceIte,jA]) (by simp -implicitDefEqProofs only[AA,↓reduceIte,jA]) (IM (CW (D8 E.g2) (show b2≠b3 by omega)) rfl) (NZ (D8 (CW E.g3 (show b3≠b2 by omega))) rfl)];exact⟨by simp -implicitDefEqProofs only[AA,↓reduceIte],(E.hx.set (by omega) _).set (by omega) _⟩
theorem XZ (h:Hp)(v:Cvr):FW Tryz.prog (h++[ABlk.live 4 [FC]]) 28 (.ptr h.length 0 0) (.agg (ER v))=some (h++[ABlk.live 4 [ER v]]):=by rw[stV (CY _ _) rfl,OZ]
theorem A3W (s t:SM)(xs ys:List (List AV))(a b:Int):LQ Tryz.prog 28 [(0,.sl s 1 xs),(1,.sl t 1 ys),(2,.int .i64 a),(3,.int .i64 b)]=some (.agg [.sl s 1 xs,.sl t 1 ys,.int .i64 a,.int .i64 b]):=by kernel_rfl
theorem AGH (l:List Cvr)(e:Cvr)(i:Nat)(hi:i<l.length):(l.take (i+1)).foldl O6 e=O6 ((l.take i).foldl O6 e) l[i]:=by
 rw[zL hi,List.foldl_append]; rfl
structure Mg (h H:Hp) (b4 b5:Nat) (c:Cvr):Prop where
 g4:H[b4]?=some (ABlk.live 4 [FC])
 g5:H[b5]?=some (ABlk.live 4 [ER c])
 o4:h.length<b4
 o5:b4<b5
 hx:ext h H
set_option maxHeartbeats 2000000 in
theorem AMM (G:Nat->AV)(m:Mo)(e:Cvr)(l:List Cvr)(s:SM)(h:Hp)(he:GK m e=true)(hl:∀v∈l,GK m v=true)(hn:l.length<=1048576):PCall (En G) 85 [.agg (ER e),.sl s 4 (l.map ER)] h (.agg (ER (l.foldl O6 e))):=by
 refine QL 2 (fun n H=>rfl) ?_;refine acN Tryz.func85 rfl ?_;show awp _ _ _ _ _ (EN _ [.cell 4 28] _)
 have E:Mg h (h++[ABlk.live 4 [ER e]]++[ABlk.live 4 [FC]]++[ABlk.live 4 [ER e]]) (h++[ABlk.live 4 [ER e]]).length (h++[ABlk.live 4 [ER e]]++[ABlk.live 4 [FC]]).length e :=
  ⟨CV (CY _ _),CY _ _,by simp,by simp,(((ext.rfl' h).app _).app _).app _⟩
 have g1:(h++[ABlk.live 4 [ER e]]++[ABlk.live 4 [FC]])[h.length]?=some (ABlk.live 4 [ER e]):=CV (CY _ _);simp -implicitDefEqProofs only[BC,BP,BA,A8,AY,BB,AO,AQ,AL,BD,AX,AC,EM,AA,AZ,AU,BH,BG,FD,FU,BQ,D5,D7,BZ,AB,CX,BF,BN,↓reduceIte,jA,jB,jC,enP,A2S,jP,bxV,KE,ldV g1,XZ,jI]
 generalize h++[ABlk.live 4 [ER e]]++[ABlk.live 4 [FC]]++[ABlk.live 4 [ER e]]=H0 at E|-
 generalize (h++[ABlk.live 4 [ER e]]++[ABlk.live 4 [FC]]).length=b5 at E|-
 generalize (h++[ABlk.live 4 [ER e]]).length=b4 at E|-
 refine DK (fun n F H=>∃i,n+i=l.length∧F 4=.ptr b4 0 0∧F 5=.ptr b5 0 0∧F 9=.sl s 4 (l.map ER)∧F 10=.int .i64 l.length∧F 11=.int .i64 (i:Nat)∧Mg h H b4 b5 ((l.take i).foldl O6 e)) l.length ⟨0,by simp,by simp -implicitDefEqProofs only[AA,↓reduceIte,jA],by simp -implicitDefEqProofs only[AA,↓reduceIte,jA],by simp -implicitDefEqProofs only[AA,↓reduceIte,jA],by simp -implicitDefEqProofs only[AA,↓reduceIte,jA],by simp -implicitDefEqProofs only[AA,↓reduceIte]; rfl,by rw[zN]; exact E⟩ ?_;clear E g1;rintro n F H ⟨i,hi,f4,f5,f9,f10,f11,E⟩;have o4:=E.o4; have o5:=E.o5;simp -implicitDefEqProofs only[BC,BA,BI,A8,AY,BB,AO,AQ,AL,BD,AX,AC,AA,AZ,BR,AB,DC,↓reduceIte,jB,jC,enP,f10,f11];refine CU (fun hc=>?_) (fun hc=>?_)
 .have hi':i<l.length:=by simpa using hc
  have hs:=AGH l e i hi';have hc1:=W9 (l.take i) e he (fun v hv=>hl v (List.mem_of_mem_take hv));have hv1:=hl _ (jS hi');generalize (l.take i).foldl O6 e=c at hs hc1 E;have gc:(H++[ABlk.live 4 [ER l[i]]])[b5]?=some (ABlk.live 4 [ER c]):=CV E.g5;have gv:=CY H (ABlk.live 4 [ER l[i]]);have w1:=IZ.1 (JK.1 hc1).2.2.2.1;simp -implicitDefEqProofs only[BC,BP,BA,BO,A8,AY,BB,AO,AQ,AL,BD,AX,AC,EM,AA,AZ,FD,BQ,D5,CE,BZ,AB,CX,↓reduceIte,jA,jB,jC,enP,A2X,jP,f9,f11,DU hi',FM AV1 AB8 ZL hi',KE,XZ];refine EZ (by kernel_rfl) ?_;simp -implicitDefEqProofs only[FZ,ED,DN,EF,FB,D9,GH,F8,AO,AA,AZ,BX,BQ,BJ,AB,jD,jE,jF,↓reduceIte,jA,jK,jL,jG,jB,enP,L8,KX,f5,lv0 gc,lv0 gv];refine⟨_,ADZ G _ _ _ _ _ (AOL hc1 hv1),?_⟩
  try simp -implicitDefEqProofs only[FZ,ED,DN,EF,FB,D9,GH,F8,AO,AA,AZ,BX,BQ,BJ,AB,jD,jE,jF,↓reduceIte,jA,jK,jG,jB,enP,KX,TU,f5,lv1 gc,lv1 gv]
  refine⟨_,ADZ G _ _ _ _ _ (AOM hc1 hv1),?_⟩
  try simp -implicitDefEqProofs only[FZ,ED,DN,EF,FB,D9,GH,F8,AO,AA,AZ,BX,BQ,BJ,AB,jD,jE,jF,↓reduceIte,jA,jK,jG,jB,enP,TU,U6,f5,lv2 gc,lv2 gv]
  refine⟨_,AE6 G _ _ _ (JK.1 hc1).2.2.2.1 (JK.1 hv1).2.2.2.1,?_⟩
  try simp -implicitDefEqProofs only[FZ,EY,FT,ED,DN,EF,AHA,FB,D9,GH,F8,AO,AA,AZ,BX,G9,BQ,BJ,AB,jD,jE,jF,↓reduceIte,jA,jK,jG,jB,enP,U6,f5,lv3 gc,lv3 gv]
  refine⟨_,AE6 G _ _ _ (JK.1 hc1).2.2.2.2 (JK.1 hv1).2.2.2.2,?_⟩;have hst:=stV (v:=O6 c l[i]) gc rfl;have hst':FW Tryz.prog (H++[ABlk.live 4 [ER l[i]]]) 28 (.ptr b5 0 0) (.agg [.sl (nm (LG c.pts l[i].pts)) 1 ((LG c.pts l[i].pts).map encL),.sl (nm (LG c.crs l[i].crs)) 1 ((LG c.crs l[i].crs).map encL),.int .i64 (ACH c.sam l[i].sam),.int .i64 (ACH c.ill l[i].ill)])=some ((H++[ABlk.live 4 [ER l[i]]]).set b5 (ABlk.live 4 [ER (O6 c l[i])])):=hst
  try simp -implicitDefEqProofs only[FZ,ED,DN,JJ,E8,EF,JH,BA,A8,EJ,EQ,AY,BB,AO,AQ,AL,BD,AX,AC,AA,AZ,AU,BH,BG,D5,BR,AB,CX,CZ,↓reduceIte,jA,jG,jB,jC,enP,jP,A3W,f5,hst',f11,wrap_succ (show i<9223372036854775807 by omega)]
  refine⟨n-1,by omega,i+1,by omega,f4,trivial,f9,f10,rfl,?_⟩;rw[hs];exact⟨CW (CV E.g4) (by omega),D8 gc,o4,o5,(E.hx.app _).set (by omega) _⟩
 .have hi':¬i<l.length:=by simpa using hc
  rw[jX (by omega)] at E;simp -implicitDefEqProofs only[BC,BA,BK,DJ,A8,EI,EW,ET,AY,BB,AO,AQ,AL,BD,AX,AC,EM,AA,AZ,BQ,D5,AB,CX,↓reduceIte,jA,jB,jC,enP,jP,f4,f5,ldV E.g5,stV E.g4 rfl];rw[AM3 (b:=b4) (by simp -implicitDefEqProofs only[AA,↓reduceIte,jA,f4]) (ldV (D8 E.g4))];exact⟨rfl,E.hx.set (by omega) _⟩
def AHJ (m:Mo)(a b:Cvr):List AV:=if QD m [a,b]=0 then ER (O6 a b) else FC
theorem AW6 (m:Mo)(a b:Cvr)(e:Int):CvR (.tup [.agg (AHJ m a b),.int .i64 e]) (.tup [.agg (ER (AQV m a b)),.int .i64 e]):=by
 unfold AHJ AQV;split
 .exact CvR.refl _
 .exact CvR.tup (CvRL.cons AFR (CvRL.refl _))
theorem ALM {m:Mo}{l:List Cvr}(h:EU m≠0):QD m l=EU m:=by unfold QD; rw[if_neg h]
theorem ZU {m:Mo}{l:List Cvr}(h:EU m=0){v:Cvr}(hv:v∈l)(hf:GK m v=false):QD m l=1:=by
 unfold QD;rw[if_pos h,if_neg];intro e;rw[zI.1 e v hv] at hf;cases hf
structure Mr (h H:Hp) (m:Mo) (a b:Cvr) (b4 b5 b6:Nat):Prop where
 gm:H[h.length]?=some (ABlk.live 2 [D6 m])
 ga:H[b4]?=some (ABlk.live 4 [ER a])
 gb:H[b5]?=some (ABlk.live 4 [ER b])
 g6:H[b6]?=some (ABlk.live 4 [FC])
 o4:h.length<b4
 o5:b4<b5
 o6:b5<b6
 hx:ext h H
theorem Mr.mk' (h:Hp)(m:Mo)(a b:Cvr):Mr h (h++[ABlk.live 2 [D6 m]]++[ABlk.live 4 [ER a]]++[ABlk.live 4 [ER b]]++[ABlk.live 4 [FC]]) m a b (h++[ABlk.live 2 [D6 m]]).length (h++[ABlk.live 2 [D6 m]]++[ABlk.live 4 [ER a]]).length (h++[ABlk.live 2 [D6 m]]++[ABlk.live 4 [ER a]]++[ABlk.live 4 [ER b]]).length :=
 ⟨CV (CV (CV (CY _ _))),CV (CV (CY _ _)),CV (CY _ _),CY _ _,by simp,by simp,by simp,((((ext.rfl' h).app _).app _).app _).app _⟩
theorem AS6 (m:Mo)(a b:Cvr)(e:Int)(n:Nat)(H:Hp):IV n H 3 (.tup [.agg (AHJ m a b),.int .i64 e])=.tup [.agg (AHJ m a b),.int .i64 e]:=by
 unfold AHJ; split<;>rfl
set_option maxHeartbeats 1000000 in
theorem AR8 (G:Nat->AV)(m:Mo)(a b:Cvr)(hm:MoOk m)(ha:CvOk a)(hb:CvOk b)(h:Hp):PCall (En G) 38 [.agg (D6 m),.agg (ER a),.agg (ER b)] h (.tup [.agg (ER (AQV m a b)),.int .i64 (QD m [a,b])]):=by
 refine PCall.res ?_ (AW6 m a b _);refine QL 3 (AS6 m a b _) ?_;refine acN Tryz.func38 rfl ?_;show awp _ _ _ _ _ (EN _ [.cell 6 28,.tmp 7] _);have t:=Mr.mk' h m a b;simp -implicitDefEqProofs only[BC,BA,A8,AY,BB,AO,AQ,AL,BD,AX,AC,AA,AZ,AU,BH,A7,FD,FU,BQ,BZ,BF,BN,↓reduceIte,jA,jB,jC,enP,bxM,bxV,KE]
 generalize h++[ABlk.live 2 [D6 m]]++[ABlk.live 4 [ER a]]++[ABlk.live 4 [ER b]]++[ABlk.live 4 [FC]]=H at t|-
 generalize (h++[ABlk.live 2 [D6 m]]++[ABlk.live 4 [ER a]]++[ABlk.live 4 [ER b]]).length=b6 at t|-
 generalize (h++[ABlk.live 2 [D6 m]]++[ABlk.live 4 [ER a]]).length=b5 at t|-
 generalize (h++[ABlk.live 2 [D6 m]]).length=b4 at t|-
 have o4:=t.o4; have o5:=t.o5; have o6:=t.o6;simp -implicitDefEqProofs only[AY,AO,AQ,AL,BD,AX,AC,AA,AZ,BX,CB,BU,AB,jD,jE,jF,↓reduceIte,jB,jC,ldM t.gm];refine(PM G m hm _).use ?_;simp -implicitDefEqProofs only[BC,BA,BI,A8,AY,BB,AO,AQ,AL,BD,AX,AC,AA,AZ,AU,BH,BG,A7,BR,AB,EK,↓reduceIte,jB,jC,enP,bne];cases h1:(EU m==0)
 .have h1':EU m≠0:=by simpa using h1
  have hne:=ALM (l:=[a,b]) h1';simp -implicitDefEqProofs only[EY,BC,BA,BK,A8,CP,DI,AY,BB,AO,AQ,AL,BD,AX,AC,EM,AA,AZ,BG,A7,G9,D5,AB,CX,↓reduceIte,jA,jB,jC,enP,jP,N8,stZ t.g6 rfl];rw[KG (ba:=b6) (by simp -implicitDefEqProofs only[AA,↓reduceIte,jA]) (IM (D8 t.g6) rfl)];exact⟨by simp -implicitDefEqProofs only[AA,↓reduceIte,hne]; unfold AHJ; rw[hne,if_neg h1'],t.hx.set (by omega) _⟩
 have h1':EU m=0:=by simpa using h1
 have bad:GK m a=false∨GK m b=false->QD m [a,b]=1:=fun hh=>by
  rcases hh with hh|hh
  .exact ZU h1' (v:=a) (by simp) hh
  .exact ZU h1' (v:=b) (by simp) hh
 have badR:GK m a=false∨GK m b=false->AHJ m a b=FC:=fun hh=>by
  unfold AHJ; rw[bad hh]; rfl
 simp -implicitDefEqProofs only[BC,BA,BO,A8,DT,AY,AO,AQ,AL,BD,AX,AC,AA,AZ,BX,BQ,CB,BU,AB,jD,jE,jF,↓reduceIte,jA,jB,jT,jC,enP,ldM t.gm,ldV t.ga];refine(AEA G m a hm ha _).use ?_;simp -implicitDefEqProofs only[AY,BL,BV,CO,AO,AQ,AL,BD,AX,AC,AA,AZ,BG,IE,AB,FK,↓reduceIte,jB,jC];cases h2:GK m a
 .simp -implicitDefEqProofs only[EY,BC,BA,BK,BI,A8,CP,DI,AY,BB,BL,BV,CO,F7,AO,AQ,AL,BD,AX,AC,EM,AA,EX,AZ,AU,BH,BM,A7,CQ,DY,G9,D5,AB,CX,↓reduceIte,jA,jB,jC,enP,jP,N8,stZ t.g6 rfl]
  rw[KG (ba:=b6) (by simp -implicitDefEqProofs only[AA,↓reduceIte,jA]) (IM (D8 t.g6) rfl)];exact⟨by simp -implicitDefEqProofs only[AA,↓reduceIte]; rw[bad (.inl h2),badR (.inl h2)],t.hx.set (by omega) _⟩
 simp -implicitDefEqProofs only[BL,BV,CO,ES,AO,AQ,AL,BD,AX,AC,AA,AZ,BX,BQ,CB,BU,AB,jD,jE,jF,↓reduceIte,jA,jB,jT,jC,enP,ldM t.gm,ldV t.gb];refine(AEA G m b hm hb _).use ?_;simp -implicitDefEqProofs only[BI,A8,AY,BB,BL,BV,CO,ES,AO,AQ,AL,BD,AX,AC,AA,AZ,AU,BM,CQ,DX,IE,AB,FK,↓reduceIte,jA,jB,jC];cases h3:GK m b
 .simp -implicitDefEqProofs only[EY,BC,BA,BK,A8,CP,DI,AY,BB,AO,AQ,AL,BD,AX,AC,EM,AA,AZ,AU,BH,A7,G9,D5,AB,CX,↓reduceIte,jA,jB,jC,enP,jP,N8,stZ t.g6 rfl]
  rw[KG (ba:=b6) (by simp -implicitDefEqProofs only[AA,↓reduceIte,jA]) (IM (D8 t.g6) rfl)];exact⟨by simp -implicitDefEqProofs only[AA,↓reduceIte]; rw[bad (.inr h3),badR (.inr h3)],t.hx.set (by omega) _⟩
 have hz:=ALK h2 h3;have w1:=IZ.1 (JK.1 h2).2.2.2.1;have w2:=IZ.1 (JK.1 h3).2.2.2.1;have w3:=IZ.1 (JK.1 h2).2.2.2.2;have w4:=IZ.1 (JK.1 h3).2.2.2.2;have hst:=stV (v:=O6 a b) t.g6 rfl;have hst':FW Tryz.prog H 28 (.ptr b6 0 0) (.agg [.sl (nm (LG a.pts b.pts)) 1 ((LG a.pts b.pts).map encL),.sl (nm (LG a.crs b.crs)) 1 ((LG a.crs b.crs).map encL),.int .i64 (min (a.sam+b.sam) 1099511627776),.int .i64 (min (a.ill+b.ill) 1099511627776)])=some (H.set b6 (ABlk.live 4 [ER (O6 a b)])):=hst;simp -implicitDefEqProofs only[BC,BO,A8,DT,jT];refine EZ (by kernel_rfl) ?_;simp -implicitDefEqProofs only[FZ,ED,DN,EF,FB,D9,GH,F8,AO,AA,AZ,BX,BQ,BJ,AB,jD,jE,jF,↓reduceIte,jA,jK,jL,jG,jB,enP,L8,KX,lv0 t.ga,lv0 t.gb];refine⟨_,AJC G _ _ _ _ _ (AOL h2 h3),?_⟩
 try simp -implicitDefEqProofs only[FZ,ED,DN,EF,FB,D9,GH,F8,AO,AA,AZ,BX,BQ,BJ,AB,jD,jE,jF,↓reduceIte,jA,jK,jG,jB,enP,KX,TU,lv1 t.ga,lv1 t.gb]
 refine⟨_,AJC G _ _ _ _ _ (AOM h2 h3),?_⟩
 try simp -implicitDefEqProofs only[FZ,EY,FT,ED,DN,JJ,E8,EF,I7,AHA,FB,JH,IY,D9,IC,BK,A8,AO,AA,AZ,AU,BH,G9,BQ,D5,BR,BJ,AA8,AB,CX,CZ,V5,↓reduceIte,jA,jK,jG,jB,enP,TU,U6,jP,lv2 t.ga,lv2 t.gb,lv3 t.ga,lv3 t.gb,wrap_i64 (n:=a.sam+b.sam) (by omega) (by omega),wrap_i64 (n:=a.ill+b.ill) (by omega) (by omega),A3W,hst']
 rw[KG (ba:=b6) (by simp -implicitDefEqProofs only[AA,↓reduceIte,jA]) (ldV (D8 t.g6))];exact⟨by simp -implicitDefEqProofs only[AA,↓reduceIte]; unfold AHJ; rw[hz]; rfl,t.hx.set (by omega) _⟩
def AJY (m:Mo)(l:List Cvr):List AV:=if QD m l=0 then ER (A1J m l) else FC
theorem AW5 (m:Mo)(l:List Cvr)(e:Int):CvR (.tup [.agg (AJY m l),.int .i64 e]) (.tup [.agg (ER (ACF m l)),.int .i64 e]):=by
 unfold AJY ACF;split
 .exact CvR.refl _
 .exact CvR.tup (CvRL.cons AFR (CvRL.refl _))
theorem AS5 (m:Mo)(l:List Cvr)(e:Int)(n:Nat)(H:Hp):IV n H 3 (.tup [.agg (AJY m l),.int .i64 e])=.tup [.agg (AJY m l),.int .i64 e]:=by
 unfold AJY; split<;>rfl
theorem AJX {m:Mo}{l:List Cvr}(h:QD m l≠0):AJY m l=FC:=by unfold AJY; rw[if_neg h]
structure Al (h H:Hp) (m:Mo) (c:Cvr) (b4 b6:Nat):Prop where
 gm:H[h.length]?=some (ABlk.live 2 [D6 m])
 g4:H[b4]?=some (ABlk.live 4 [FC])
 g6:H[b6]?=some (ABlk.live 4 [ER c])
 o4:h.length<b4
 o6:b4<b6
 hx:ext h H
theorem Al.app {h H:Hp}{m:Mo}{c:Cvr}{b4 b6:Nat}(E:Al h H m c b4 b6)(x:Hp):Al h (H++x) m c b4 b6:=⟨FX E.gm,FX E.g4,FX E.g6,E.o4,E.o6,E.hx.app _⟩
theorem Al.up {h H H':Hp}{m:Mo}{c:Cvr}{b4 b6:Nat}(E:Al h H m c b4 b6)(hx:ext H H'):Al h H' m c b4 b6:=by
 obtain⟨x,rfl⟩:=hx; exact E.app x
theorem Al.put6 {h H:Hp}{m:Mo}{c:Cvr}{b4 b6:Nat}(E:Al h H m c b4 b6)(v:Cvr):Al h (H.set b6 (ABlk.live 4 [ER v])) m v b4 b6:=by
 have o4:=E.o4; have o6:=E.o6;exact⟨CW E.gm (by omega),CW E.g4 (by omega),D8 E.g6,o4,o6,E.hx.set (by omega) _⟩
theorem A2U {h H0:Hp}{m:Mo}{b4:Nat}(c:Cvr)(t:Tk)(gm:H0[h.length]?=some (ABlk.live 2 [D6 m]))(g4:H0[b4]?=some (ABlk.live 4 [FC]))(o4:h.length<b4)(hx:ext h H0) :
  FW Tryz.prog (H0++[ABlk.live 4 [FC]]++[ABlk.live 1 [F5]]) 28 (.ptr H0.length 0 0) (.agg (ER c))=some ((H0++[ABlk.live 4 [FC]]++[ABlk.live 1 [F5]]).set H0.length (ABlk.live 4 [ER c])) ∧
  FW Tryz.prog ((H0++[ABlk.live 4 [FC]]++[ABlk.live 1 [F5]]).set H0.length (ABlk.live 4 [ER c])) 47 (.ptr (H0++[ABlk.live 4 [FC]]).length 0 0) (.agg (KF t))=some (((H0++[ABlk.live 4 [FC]]++[ABlk.live 1 [F5]]).set H0.length (ABlk.live 4 [ER c])).set (H0++[ABlk.live 4 [FC]]).length (ABlk.live 1 [KF t])) ∧
  Al h (((H0++[ABlk.live 4 [FC]]++[ABlk.live 1 [F5]]).set H0.length (ABlk.live 4 [ER c])).set (H0++[ABlk.live 4 [FC]]).length (ABlk.live 1 [KF t])) m c b4 H0.length:=by
 obtain⟨s1,s2,g6,_,hx5⟩:=AXY H0 c t;exact⟨s1,s2,FP hx5 gm,FP hx5 g4,g6,o4,CJ g4,hx.trans hx5⟩
set_option maxHeartbeats 2000000 in
theorem AP2 (G:Nat->AV)(m:Mo)(l:List Cvr)(s:SM)(hm:MoOk m)(hl:∀v∈l,CvOk v)(hn:l.length<=1048576)(h:Hp):PCall (En G) 35 [.agg (D6 m),.sl s 4 (l.map ER)] h (.tup [.agg (ER (ACF m l)),.int .i64 (QD m l)]):=by
 refine PCall.res ?_ (AW5 m l _);refine QL 3 (AS5 m l _) ?_;refine LV (H:=hint [35] []) (enM G) Tryz.func35 rfl (by kernel_rfl) (by kernel_rfl) (jH (by kernel_rfl)) ?_;show awp _ _ _ _ _ (EN _ [.cell 4 28,.tmp 5] _);have gm:(h++[ABlk.live 2 [D6 m]]++[ABlk.live 4 [FC]])[h.length]?=some (ABlk.live 2 [D6 m]):=CV (CY _ _);have g4:(h++[ABlk.live 2 [D6 m]]++[ABlk.live 4 [FC]])[(h++[ABlk.live 2 [D6 m]]).length]?=some (ABlk.live 4 [FC]):=CY _ _;have o4:h.length<(h++[ABlk.live 2 [D6 m]]).length:=by simp
 have hx:ext h (h++[ABlk.live 2 [D6 m]]++[ABlk.live 4 [FC]]):=((ext.rfl' h).app _).app _;simp -implicitDefEqProofs only[C9,jR,jJ,jO,jQ,BC,BA,A8,AY,BB,AL,BD,AX,AC,AA,AZ,AU,BH,A7,FD,FU,BQ,BZ,BF,↓reduceIte,jA,jB,jC,enP,DZ,bxM,KE]
 generalize h++[ABlk.live 2 [D6 m]]++[ABlk.live 4 [FC]]=H0 at gm g4 hx|-
 generalize (h++[ABlk.live 2 [D6 m]]).length=b4 at g4 o4|-
 obtain⟨s1,s2,E⟩:=A2U (emV m) (VM m) gm g4 o4 hx;have l4:=CJ g4;simp -implicitDefEqProofs only[C9,jR,jJ,jO,jQ,AY,AL,BD,AX,AC,AA,AZ,BX,CB,BU,AB,jD,jE,jF,↓reduceIte,jB,jC,DZ,ldM gm];refine(AG8 G m hm _).use ?_;simp -implicitDefEqProofs only[zB,zG,C9,jR,jJ,jO,jQ,BC,BA,BI,A8,AY,BB,AL,BD,AX,AC,EM,AA,AZ,AU,BH,BG,A7,FD,D5,BR,FI,GU,BZ,AB,CX,EK,↓reduceIte,jA,jB,jC,enP,DZ,jP,KE,VO,s1,s2,bne]
 generalize ((H0++[ABlk.live 4 [FC]]++[ABlk.live 1 [F5]]).set H0.length (ABlk.live 4 [ER (emV m)])).set (H0++[ABlk.live 4 [FC]]).length (ABlk.live 1 [KF (VM m)])=H1 at E|-
 generalize H0.length=b6 at E l4|-
 clear s1 s2 gm g4 hx;cases h1:(EU m==0)
 .have h1':EU m≠0:=by simpa using h1
  have hne:=ALM (l:=l) h1';simp -implicitDefEqProofs only[EY,C9,jR,jJ,jO,jQ,BC,BA,BK,A8,CP,DI,AY,BB,AL,BD,AX,AC,EM,AA,AZ,BG,A7,G9,D5,AB,CX,↓reduceIte,jA,jB,jC,enP,DZ,jP,N8,stZ E.g4 rfl];rw[KG (ba:=b4) (by simp -implicitDefEqProofs only[AA,↓reduceIte,jA]) (IM (D8 E.g4) rfl)];exact⟨by simp -implicitDefEqProofs only[AA,↓reduceIte,hne]; rw[AJX (by rw[hne]; exact h1')],E.hx.set (by omega) _⟩
 have h1':EU m=0:=by simpa using h1
 have hem:emV m=KR m:=by unfold emV; rw[if_pos h1']
 rw[hem] at E;simp -implicitDefEqProofs only[C9,jR,jJ,jO,jQ,BC,BP,BA,BO,A8,DT,AY,BB,AL,BD,AX,AC,AU,BH,A7,jB,jT,jC,DZ];refine GN 0 (fun F H=>F 4=.ptr b4 0 0∧F 6=.ptr b6 0 0∧Al h H m (A1J m l) b4 b6∧∀v∈l,GK m v=true) (fun F H=>F 4=.ptr b4 0 0∧F 5=.int .i64 1∧H[b4]?=some (ABlk.live 4 [FC])∧Sm.ext h H∧QD m l=1) ?_ ?_ ?_
 .refine DK (fun n F H=>∃i,n+i=l.length∧F 1=.sl s 4 (l.map ER)∧F 2=.ptr h.length 0 0∧F 4=.ptr b4 0 0∧F 6=.ptr b6 0 0∧F 9=.int .i64 (i:Nat)∧Al h H m ((l.take i).foldl O6 (KR m)) b4 b6∧∀v∈l.take i,GK m v=true) l.length ⟨0,by simp,by simp -implicitDefEqProofs only[AA,BF,BN,↓reduceIte,jA],by simp -implicitDefEqProofs only[AA,↓reduceIte,jA],by simp -implicitDefEqProofs only[AA,↓reduceIte,jA],by simp -implicitDefEqProofs only[AA,↓reduceIte,jA],by simp -implicitDefEqProofs only[AA,↓reduceIte]; rfl,E,by simp⟩ ?_
  clear E;rintro n F H ⟨i,hi,f1,f2,f4,f6,f9,E,hf⟩;simp -implicitDefEqProofs only[C9,jR,jJ,jO,jQ,BC,BA,BI,A8,AY,BB,AL,BD,AX,AC,AA,AZ,BG,BR,D7,AB,DC,↓reduceIte,jA,jB,jC,enP,A2S,DZ,f1,f9,jI];refine CU (fun hc=>?_) (fun hc=>?_)
  .have hi':i<l.length:=by simpa using hc
   have hs:=AGH l (KR m) i hi';have hc1:=W9 (l.take i) (KR m) (OQ h1') hf;generalize (l.take i).foldl O6 (KR m)=c at hs hc1 E;have o4:=E.o4; have o6:=E.o6; have l6:=CJ E.g6;have E2:=E.app [ABlk.live 4 [ER (AQV m c l[i])]];simp -implicitDefEqProofs only[BC,BP,BO,A8];refine EZ (by kernel_rfl) ?_;simp -implicitDefEqProofs only[FZ,C9,jR,jJ,jO,jQ,ED,DN,EF,FO,FB,EE,LU,GH,AAY,AA,AZ,BX,BQ,CE,FI,AB,jD,jE,jF,↓reduceIte,jA,jK,jB,enP,A2X,f1,f2,f6,f9,ldM E.gm,ldV E.g6,DU hi',FM AV1 AB8 ZL hi'];refine⟨_,fun x=>AR8 G m c l[i] hm (UL hc1) (hl _ (jS hi')) _,?_⟩
   try simp -implicitDefEqProofs only[FZ,zB,zG,C9,jR,jJ,jO,jQ,ED,DN,JJ,E8,EF,I7,YQ,JH,LU,BC,BA,BI,A8,AY,BB,AL,BD,AX,AC,AA,AZ,AU,BH,BG,FD,D5,BR,FI,GU,BZ,AB,CX,EK,↓reduceIte,jA,jK,jG,jB,jC,enP,DZ,jP,KE,XZ,bne]
   cases hv:GK m l[i]
   .have h2:QD m [c,l[i]]=1:=ZU h1' (by simp) hv
    have z1:((1:Int)==0)=false:=rfl;simp -implicitDefEqProofs only[EY,C9,jR,jJ,jO,jQ,BC,BA,BK,A8,CP,EG,NG,FQ,DI,AY,BB,AL,BD,AX,AC,EM,AA,AZ,BG,A7,G9,D5,AB,CX,↓reduceIte,jA,jB,jC,enP,DZ,jP,h2,z1,N8,f4,stZ E2.g4 rfl];exact⟨trivial,trivial,D8 E2.g4,E2.hx.set (by omega) _,ZU h1' (jS hi') hv⟩
   .have h2:QD m [c,l[i]]=0:=ALK hc1 hv
    have h3:AQV m c l[i]=O6 c l[i]:=by unfold AQV; rw[if_pos h2]
    rw[h3] at E2;have E3:=E2.put6 (O6 c l[i]);have gT:=ldV (CY H (ABlk.live 4 [ER (O6 c l[i])]));have z0:((0:Int)==0)=true:=rfl;simp -implicitDefEqProofs only[C9,jR,jJ,jO,jQ,BA,BO,A8,EJ,EQ,DT,AY,BB,AL,BD,AX,AC,EM,AA,AZ,AU,BH,BG,A7,BQ,D5,BR,AB,CX,CZ,↓reduceIte,jA,jB,jT,jC,enP,DZ,jP,h2,h3,z0,f6,gT,stV E2.g6 rfl,f9,wrap_succ (show i<9223372036854775807 by omega)];refine⟨n-1,by omega,i+1,by omega,f1,f2,f4,trivial,rfl,?_,fun v hv'=>?_⟩
    .rw[hs]; exact E3
    rw[zL hi'] at hv';rcases List.mem_append.1 hv' with hv'|hv'
    .exact hf v hv'
    .simp at hv'; rw[hv']; exact hv
  .have hi':¬i<l.length:=by simpa using hc
   rw[jX (by omega)] at hf E;simp -implicitDefEqProofs only[DJ,EI,J3,ET,AA,↓reduceIte,jA];exact⟨f4,f6,E,hf⟩
 .rintro F H ⟨f4,f6,E,hf⟩
  have hz:QD m l=0:=Q8.2 ⟨h1',hf⟩;have o4:=E.o4;simp -implicitDefEqProofs only[C9,jR,jJ,jO,jQ,BC,BA,BK,A8,EW,AY,BB,AL,BD,AX,AC,EM,AA,AZ,AU,BH,A7,BQ,D5,AB,CX,↓reduceIte,jA,jB,jC,enP,DZ,jP,f4,f6,ldV E.g6,stV E.g4 rfl];rw[KG (ba:=b4) (by simp -implicitDefEqProofs only[AA,↓reduceIte,jA,f4]) (ldV (D8 E.g4))];exact⟨by simp -implicitDefEqProofs only[AA,↓reduceIte]; unfold AJY; rw[hz]; rfl,E.hx.set (by omega) _⟩
 .rintro F H ⟨f4,f5,g4,hx,he⟩
  simp -implicitDefEqProofs only[CP,EG];rw[KG (ba:=b4) f4 (IM g4 rfl)];exact⟨by rw[f5,he,AJX (by rw[he]; decide)],hx⟩
end Go.Proofs.YtocilianjfhifaaGreatDoor.Cov
