/- Part 6 of the proof (L1, M4, M5, M6, M7, M8, M9, M10, M11, M12); no condition. -/
import Derived.Test.YtocilianjfhifaaGreatDoorYC5
set_option linter.unusedVariables false
namespace Go.Proofs.YtocilianjfhifaaGreatDoor.Cov
open Sm Bins Go.RowKit
open List renaming drop_zero→qC,take_of_length_le→jX
def outG {α:Type}(k:Nat)(f:α->List AV)(h:Hp)(ys:List α)(v:AV)(H:Hp):Prop :=
 (ys=[]∧v=.sl .nil 0 [])∨(ys≠[]∧∃o,h.length<=o∧v=.own o 0 ys.length∧H[o]?=some (.live k (ys.map f)))
theorem outG.nil {α:Type}(k:Nat)(f:α->List AV)(h H:Hp):outG k f h [] (.sl .nil 0 []) H:=.inl ⟨rfl,rfl⟩
theorem outG.keep {α:Type}{k:Nat}{f:α->List AV}{h H H':Hp}{ys:List α}{v:AV}(ho:outG k f h ys v H)(hk:∀b,isB v b->H'[b]?=H[b]?):outG k f h ys v H':=by
 rcases ho with h1|⟨h1,o,h2,rfl,h3⟩
 .exact .inl h1
 .exact .inr ⟨h1,o,h2,rfl,by rw[hk o rfl]; exact h3⟩
theorem outG.lt {α:Type}{k:Nat}{f:α->List AV}{h H:Hp}{ys:List α}{v:AV}{b:Nat}(ho:outG k f h ys v H)(hb:isB v b):h.length<=b∧b<H.length:=by
 rcases ho with⟨_,rfl⟩|⟨_,o,h2,rfl,h3⟩
 .exact hb.elim
 .cases hb; exact⟨h2,CJ h3⟩
theorem outG.app {α:Type}{k:Nat}{f:α->List AV}{h H:Hp}{ys:List α}{v:AV}(ho:outG k f h ys v H)(x:Hp):outG k f h ys v (H++x) :=
 ho.keep fun _ hb=>List.getElem?_append_left (ho.lt hb).2
theorem outG.append {P:Program}{t e:TypeId}{α:Type}{k bs:Nat}{f:α->List AV}{h H:Hp}{ys:List α}{v:AV}(ho:outG k f h ys v H)(hu:P.underlying t=some (.slice e))(hs:szO P e=some k)(hz:UR P e=some k)(hb:MZ P e=some bs)(hbs:bs<=4194304)(hl:ys.length<8388608)(he:ext h H)(y:α) :
  ∃v' H',H7 P true H t t v (.sl .full k [f y])=some (v',H')∧outG k f h (ys++[y]) v' H'∧(∀b x,H[b]?=some x->¬isB v b->H'[b]?=some x)∧ext h H'∧H.length<=H'.length∧∀b,isB v' b->b=H.length:=by
 have h1:([f y]:List (List AV))≠[]:=by simp
 rcases ho with⟨rfl,rfl⟩|⟨hne,o,h2,rfl,h3⟩
 .exact⟨_,_,VA hu hs hz hb (KO H .full k [f y]) h1 (JW (by simp) hbs),.inr ⟨by simp,H.length,he.le,rfl,by simp⟩,fun b x hb _=>FX hb,he.app _,by simp,fun b hb=>hb.symm⟩
 .have hc:KZ H (.own o 0 ys.length)=some (k,ys.map f):=by
   rw[Q5 h3 (by simp),qC,jX (by simp)]
  refine⟨_,_,XF hu hs hz hb hc (KO H .full k [f y]) h1 (JW (by simp; omega) hbs),.inr ⟨by simp,H.length,he.le,by simp,by simp⟩,fun b x hb hn=>?_,(he.set h2 _).app _,by simp,fun b hb=>hb.symm⟩;have hn':¬o=b:=hn;refine FX ?_;rw[List.getElem?_set,if_neg hn']; exact hb
theorem outG.len {P:Program}{t:TypeId}{α:Type}{k:Nat}{f:α->List AV}{h H:Hp}{ys:List α}{v:AV}(ho:outG k f h ys v H)(hl:(∀m k xs,LH P t (.sl m k xs)=some (.int .i64 xs.length))∧∀b off len,LH P t (.own b off len)=some (.int .i64 len)):LH P t v=some (.int .i64 ys.length):=by
 rcases ho with⟨rfl,rfl⟩|⟨_,o,_,rfl,_⟩
 .exact hl.1 _ _ _
 .exact hl.2 _ _ _
def nm {α:Type}(ys:List α):SM:=match ys with
 | []=>.nil
 | _=>.any
theorem AD6 (n:Nat)(h:Hp)(d b off len k:Nat)(xs:List (List AV))(hn:¬b<n)(hb:h[b]?=some (.live k xs)):IV n h (d+1) (.own b off len)=if off+len<=xs.length∧(((xs.drop off).take len).map (·.map (IV n h d))).all (·.all AV.leaf)=true then .sl .any k (((xs.drop off).take len).map (·.map (IV n h d))) else .junk:=by
 rw[IV];simp only[hn,if_false,hb]
def Frz {α:Type}(f:α->List AV):Prop:=∀(n:Nat) (h:Hp) (d:Nat) (x:α),(f x).map (IV n h (d+1))=f x∧(f x).all AV.leaf=true
theorem AKN {α:Type}{f:α->List AV}(hf:Frz f)(n:Nat)(h:Hp)(d:Nat)(xs:List α):(xs.map f).map (·.map (IV n h (d+1)))=xs.map f:=by
 rw[List.map_map];exact List.map_congr_left fun x _=>(hf n h d x).1
theorem ZF {α:Type}{f:α->List AV}(hf:Frz f){n d k:Nat}{h:Hp}{o:Nat}{xs:List α}(hn:n<=o)(ho:h[o]?=some (.live k (xs.map f))):IV n h (d+2) (.own o 0 xs.length)=.sl .any k (xs.map f):=by
 rw[AD6 n h (d+1) o 0 xs.length k _ (by omega) ho,qC,jX (by simp),AKN hf n h d xs];rw[if_pos];refine⟨by simp,?_⟩;rw[List.all_eq_true];intro row hr;obtain⟨x,_,rfl⟩:=List.mem_map.1 hr;exact(hf n h d x).2
theorem MW {E:Env}{f:FuncId}{args:List AV}{h:Hp}{α:Type}{k:Nat}{enc:α->List AV}(hf:Frz enc){ys:List α}(hc:ACalls E f args h fun v H=>ext h H∧outG k enc h ys v H):PCall E f args h (.sl (nm ys) k (ys.map enc)):=by
 have h1:ACalls E f args h fun v H=>v=(if ys.length=0 then AV.sl .nil 0 [] else .sl .any k (ys.map enc))∧H=h:=by
  refine ACalls.pure 2 hc ?_;rintro v H ⟨hex,hout⟩;refine⟨hex,?_⟩;rcases hout with⟨rfl,rfl⟩|⟨hne,o,ho1,rfl,ho⟩
  .rfl
  .rw[if_neg (by simpa using hne)]; exact ZF hf ho1 ho
 refine h1.conv ?_;rintro v H ⟨rfl,rfl⟩;refine⟨_,⟨rfl,rfl⟩,?_⟩;intro g cv hr
 cases ys with
 | nil=>exact ATN hr
 | cons y ys=>exact hr
end Go.Proofs.YtocilianjfhifaaGreatDoor.Cov
set_option linter.unusedSimpArgs false
set_option maxRecDepth 8000
namespace Go.Proofs.YtocilianjfhifaaGreatDoor.Cov
open Sm Bins Go.RowKit
open Bool renaming not_false→jC,and_eq_true→jV,not_true→jT,true_and→wC,not_eq_true→qN,false_eq_true→jY
open List renaming getElem_mem→jS,getElem?_eq_getElem→jU,length_map→jI,take_succ_eq_append_getElem→zL,take_of_length_le→jX,length_take→zD,drop_eq_getElem_cons→zJ,drop_eq_nil_of_le→jW,map_cons→jD,map_nil→jE,nil_append→zY,findIdx?_eq_some_iff_getElem→qU,findIdx?_eq_none_iff→qV,append_nil→jF,mem_cons→qR,append_assoc→zA,getElem?_map→zH,drop_zero→qC,replicate→jZ
open Nat renaming le_of_ble_eq_true→jH,reduceEqDiff→jA,zero_add→jG,add_zero→jL,le_trans→zZ,le_refl→jM,reduceAdd→jK
open Option renaming getD_some→jB,getD_none→jP
def JL (m:Mo)(p:Int):List Bin:=match m.pts[p.toNat]? with
 | some q=>q.bins
 | none=>[]
def szs (m:Mo)(l:List Int):List Nat:=l.map fun p=>(JL m p).length
def Here (m:Mo)(l:List Int):Prop:=∀p∈l,0<=p∧p<(m.pts.length:Int)
theorem Here.toNat {m:Mo}{l:List Int}(hh:Here m l){k:Nat}(hk:k<l.length):(l[k]).toNat<m.pts.length:=by
 have:=hh _ (jS hk); omega
theorem Here.bins {m:Mo}{l:List Int}(hh:Here m l){k:Nat}(hk:k<l.length):(m.pts[(l[k]).toNat]'(hh.toNat hk)).bins=JL m l[k]:=by
 unfold JL; rw[jU (hh.toNat hk)]
theorem Here.ix {m:Mo}{l:List Int}(hh:Here m l){k:Nat}(hk:k<l.length)(h:Hp)(s:SM):KH 6 h (.sl s 6 (m.pts.map GM)) (.int .i64 l[k])=some (.fptr 6 (m.pts.map GM) (l[k]).toNat 0):=by
 have:=hh _ (jS hk);exact AZQ this.1 (by rw[jI]; exact this.2)
theorem Here.ld {m:Mo}{l:List Int}(hh:Here m l){k:Nat}(hk:k<l.length)(h:Hp):∃s,EH Tryz.prog h 54 (.fptr 6 (m.pts.map GM) (l[k]).toNat 5)=some (.sl s 4 ((JL m l[k]).map GV)):=by
 rw[DF SG (hh.toNat hk),NS,hh.bins hk];exact⟨_,rfl⟩
theorem AX6:Frz encI:=fun _ _ _ _=>⟨rfl,rfl⟩
theorem ACE (h:Hp)(v:Int):FY Tryz.prog false h 57 1 [(0,.int .i64 v)]=some (.sl .full 1 [[.int .i64 v]],h):=by kernel_rfl
def IG (n:Nat):List AV:=[.int .i64 (n:Int)]
theorem AQ9:Frz IG:=fun _ _ _ _=>⟨rfl,rfl⟩
theorem encN0 (n:Nat):(IG n)[0]?=some (.int .i64 (n:Int)):=rfl
theorem encI0 (n:Int):(encI n)[0]?=some (.int .i64 n):=rfl
theorem AJB (m:Mo)(l:List Int)(k:Nat)(hk:k<l.length):szs m (l.take (k+1))=szs m (l.take k)++[(JL m l[k]).length]:=by
 unfold szs; rw[zL hk,List.map_append]; rfl
theorem RG (G:Nat->AV)(m:Mo)(c:Cr)(h:Hp)(hh:Here m c.pts)(hl:c.pts.length<=1048576):PCall (En G) 167 [.agg (D6 m),.agg (GG c)] h (.sl (nm (szs m c.pts)) 1 ((szs m c.pts).map IG)):=by
 refine MW AQ9 ?_;refine acN Tryz.func167 rfl ?_;show awp _ _ _ _ _ (EN _ [.tmp 4] _);simp -implicitDefEqProofs only[BC,BP,BA,A8,AY,BB,AO,AQ,AL,BD,AX,AC,AA,AZ,AU,BH,IK,BG,A7,FU,BQ,BJ,D7,BZ,AB,BF,BN,↓reduceIte,jA,jG,jB,jC,enP,JA,KI,bxM,bxC,DL KC,ABT,jI];have hb0:(h++[ABlk.live 2 [D6 m]]++[ABlk.live 3 [GG c]])[h.length]?=some (.live 2 [D6 m]):=CV (CY _ _);refine DK (fun n F H=>∃k,n+k=c.pts.length∧F 2=.ptr h.length 0 0∧F 9=.sl c.pm 1 (c.pts.map encI)∧F 10=.int .i64 c.pts.length∧F 11=.int .i64 (k:Nat)∧H[h.length]?=some (.live 2 [D6 m])∧ext h H∧(∀b,isB (F 5) b->h.length<b)∧outG 1 IG h (szs m (c.pts.take k)) (F 5) H) c.pts.length ⟨0,by simp,by simp -implicitDefEqProofs only[AA,↓reduceIte,jA],by simp -implicitDefEqProofs only[AA,↓reduceIte,jA],by simp -implicitDefEqProofs only[AA,↓reduceIte,jA],by simp -implicitDefEqProofs only[AA,↓reduceIte]; rfl,hb0,((ext.rfl' h).app _).app _,fun b hb=>hb.elim,outG.nil _ _ _ _⟩ ?_;rintro n F H ⟨k,hk,f2,f9,f10,f11,hb,he,hlt,ho⟩;simp -implicitDefEqProofs only[BC,BA,BI,A8,AY,BB,AO,AQ,AL,BD,AX,AC,AA,AZ,BR,AB,DC,↓reduceIte,jB,jC,enP,f10,f11];refine CU (fun hc=>?_) (fun hc=>?_)
 .have hk':k<c.pts.length:=by simpa using hc
  have lm:EH Tryz.prog H 22 (.ptr h.length 0 0)=some (.sl m.pm 6 (m.pts.map GM)):=by rw[DW WN hb (row:=D6 m) rfl,QA]
  obtain⟨s,ls⟩:=hh.ld hk' H;have hzl:(szs m (c.pts.take k)).length<8388608:=by unfold szs; simp; omega
  obtain⟨v',H',ha,ho',hkeep,he',hle,hb'⟩:=ho.append TN sz3 XG VN (by omega) hzl he (JL m c.pts[k]).length;simp -implicitDefEqProofs only[EY,FT,BC,BP,BA,BO,A8,AY,BB,AO,AQ,AL,BD,AX,AC,AA,AZ,BG,A7,EP,BQ,BJ,CE,D7,GR,BZ,AB,↓reduceIte,jA,jL,jG,jB,jC,enP,SS,IR,RQ,JB,JF,f2,f9,f11,DU hk',DF ag3 hk',encI0,lm,hh.ix hk',ls,jI,ACE];refine HY (v:=v') (h:=H') (by rw[show [[AV.int .i64 ((JL m c.pts[k]).length:Int)]]=[IG (JL m c.pts[k]).length] from rfl,ha]) ?_;simp -implicitDefEqProofs only[BA,A8,EJ,EQ,AY,BB,AO,AQ,AL,BD,AX,AC,AA,AZ,AU,BH,BG,A7,BR,AB,CZ,↓reduceIte,jA,jB,jC,enP,f11,wrap_succ (show k<9223372036854775807 by omega)];refine⟨n-1,by omega,k+1,by omega,f2,f9,f10,rfl,hkeep _ _ hb (fun e=>by have:=hlt _ e; omega),he',fun b hbb=>?_,?_⟩
  .have:=hb' b hbb; have:=CJ hb; omega
  .rw[AJB m c.pts k hk']; exact ho'
 .have hk':¬k<c.pts.length:=by simpa using hc
  rw[jX (by omega)] at ho;simp -implicitDefEqProofs only[BC,BA,BK,DJ,A8,EI,EW,ET,CG,AY,BB,AO,AQ,AL,BD,AX,AC,AA,AZ,BG,A7,↓reduceIte,jA,jB,jC];exact⟨he,ho⟩
def GL (l:List Nat):Nat:=l.foldl (· * ·) 1
theorem RJ (l:List Nat)(k:Nat)(hk:k<l.length):GL (l.take (k+1))=GL (l.take k)*l[k]:=by
 unfold GL; rw[zL hk,List.foldl_append]; rfl
theorem AJ2 (l:List Nat)(k:Nat)(h:∀n∈l,n<=64)(hk:l.length<=k):GL l<=64^k:=by
 have gen:∀(l:List Nat) (a:Nat) (j:Nat),(∀n∈l,n<=64)->a<=64^j->l.foldl (· * ·) a<=64^(j+l.length):=by
  intro l
  induction l with
  | nil=>intro a j _ ha; exact ha
  | cons x l ih =>
    intro a j hl ha;rw[List.foldl_cons,List.length_cons,show j+(l.length+1)=(j+1)+l.length by omega];refine ih _ _ (fun n hn=>hl n (by simp [hn])) ?_;rw[Nat.pow_succ];exact Nat.mul_le_mul ha (hl x (by simp))
 have:=gen l 1 0 h (by simp);rw[jG] at this;exact zZ this (Nat.pow_le_pow_right (by omega) hk)
theorem ADQ (l:List Nat)(k:Nat)(h:∀n∈l,1<=n):GL (l.take k)<=GL l:=by
 have gen:∀(l:List Nat) (a:Nat),(∀n∈l,1<=n)->a<=l.foldl (· * ·) a:=by
  intro l
  induction l with
  | nil=>intro a _; exact jM _
  | cons x l ih =>
    intro a hl;rw[List.foldl_cons];refine zZ ?_ (ih _ (fun n hn=>hl n (by simp [hn])));exact Nat.le_mul_of_pos_right a (hl x (by simp))
 have h2:GL l=(l.drop k).foldl (· * ·) (GL (l.take k)):=by
  unfold GL
  conv=>lhs; rw[<-List.take_append_drop k l,List.foldl_append]
 rw[h2];exact gen _ _ (fun n hn=>h n (List.mem_of_mem_drop hn))
theorem QQ (G:Nat->AV)(l:List Nat)(s:SM)(h:Hp)(hl:∀n∈l,n<=64)(hk:l.length<=4):PCall (En G) 180 [.sl s 1 (l.map IG)] h (.int .i64 (GL l)):=by
 refine acN Tryz.func180 rfl ?_;show awp _ _ _ _ _ (EN _ [.tmp 2] _);simp -implicitDefEqProofs only[BC,BP,BA,A8,AY,BB,AO,AQ,AL,BD,AX,AC,AA,AZ,AU,BH,BG,A7,D7,AB,BF,↓reduceIte,jA,jB,jC,enP,JA,jI]
 have hp:∀k,GL (l.take k)<=16777216:=fun k=>by
  have:=AJ2 (l.take k) 4 (fun n hn=>hl n (List.mem_of_mem_take hn)) (by rw[zD]; omega);simpa using this
 refine DK (fun n F H=>∃k,n+k=l.length∧F 3=.int .i64 (GL (l.take k))∧F 6=.sl s 1 (l.map IG)∧F 7=.int .i64 l.length∧F 8=.int .i64 (k:Nat)∧H=h) l.length ⟨0,by simp,by simp -implicitDefEqProofs only[AA,↓reduceIte,jA]; rfl,by simp -implicitDefEqProofs only[AA,↓reduceIte,jA],by simp -implicitDefEqProofs only[AA,↓reduceIte,jA],by simp -implicitDefEqProofs only[AA,↓reduceIte]; rfl,rfl⟩ ?_;rintro n F H ⟨k,hk,f3,f6,f7,f8,rfl⟩;simp -implicitDefEqProofs only[BC,BA,BI,A8,AY,BB,AO,AQ,AL,BD,AX,AC,AA,AZ,BR,AB,DC,↓reduceIte,jB,jC,enP,f7,f8];refine CU (fun hc=>?_) (fun hc=>?_)
 .have hk':k<l.length:=by simpa using hc
  have h1:=hp (k+1);rw[RJ l k hk'] at h1
  have hw:IntKind.i64.wrap ((GL (l.take k):Int)*(l[k]:Int))=((GL (l.take (k+1)):Nat):Int):=by
   rw[RJ l k hk',<-Int.natCast_mul,MF (by omega)]
  simp -implicitDefEqProofs only[BC,BP,BA,BO,A8,EJ,EQ,AY,BB,AO,AQ,AL,BD,AX,AC,AA,AZ,AU,BH,BG,A7,BQ,BR,CE,AB,CZ,PZ,↓reduceIte,jA,jB,jC,enP,JF,f3,f6,f8,DU hk',DF ag3 hk',encN0,hw,wrap_succ (show k<9223372036854775807 by omega)];exact⟨n-1,by omega,k+1,by omega,rfl,trivial,f7,rfl,trivial⟩
 .have hk':¬k<l.length:=by simpa using hc
  rw[jX (by omega)] at f3;simp -implicitDefEqProofs only[BC,BA,BK,DJ,A8,EI,EW,ET,CG,AY,BB,AO,AQ,AL,BD,AX,AC,AA,AZ,BG,A7,↓reduceIte,jA,jB,jC,f3];exact⟨trivial,trivial⟩
def MQ:List Nat->List Int->Bool
 | [],[]=>true
 | n::ns,x::xs=>decide (0<=x)&&decide (x<(n:Int))&&MQ ns xs
 | _,_=>false
theorem AT3 (ns:List Nat):MQ ns []=(ns.length==0):=by cases ns<;>rfl
theorem P9:∀ {ns:List Nat} {xs:List Int},MQ ns xs=true->ns.length=xs.length
 | [],[],_=>rfl
 | n::ns,x::xs,h=>by
   simp only[MQ,jV] at h;simp [P9 h.2]
 | [],_::_,h=>by cases h
 | _::_,[],h=>by cases h
theorem inside_prog (G:Nat->AV)(ns:List Nat)(xs:List Int)(s t:SM)(h:Hp)(hn:ns.length<=1048576):PCall (En G) 182 [.sl s 1 (ns.map IG),.sl t 1 (xs.map encI)] h (.bool (MQ ns xs)):=by
 refine acN Tryz.func182 rfl ?_;show awp _ _ _ _ _ (EN _ [.tmp 4] _);simp -implicitDefEqProofs only[BC,BP,BA,A8,AY,BB,AO,AQ,AL,BD,AX,AC,AA,AZ,AU,BH,BM,BG,A7,D7,AB,BF,BN,↓reduceIte,jA,jB,jC,enP,JA,jI];refine DK (fun n F H=>∃k,n+k=xs.length∧k<=ns.length∧F 0=.sl s 1 (ns.map IG)∧F 1=.sl t 1 (xs.map encI)∧F 7=.sl t 1 (xs.map encI)∧F 8=.int .i64 xs.length∧F 9=.int .i64 (k:Nat)∧H=h∧MQ ns xs=MQ (ns.drop k) (xs.drop k)) xs.length ⟨0,by simp,by simp,by simp -implicitDefEqProofs only[AA,BF,↓reduceIte,jA],by simp -implicitDefEqProofs only[AA,BF,BN,↓reduceIte,jA],by simp -implicitDefEqProofs only[AA,↓reduceIte,jA],by simp -implicitDefEqProofs only[AA,↓reduceIte,jA],by simp -implicitDefEqProofs only[AA,↓reduceIte]; rfl,rfl,rfl⟩ ?_;rintro n F H ⟨k,hk,hkn,f0,f1,f7,f8,f9,rfl,hi⟩;simp -implicitDefEqProofs only[BC,BA,BI,A8,AY,BB,AO,AQ,AL,BD,AX,AC,AA,AZ,BR,AB,DC,↓reduceIte,jB,jC,enP,f8,f9];refine CU (fun hc=>?_) (fun hc=>?_)
 .have hk':k<xs.length:=by simpa using hc
  rw[zJ hk'] at hi;simp -implicitDefEqProofs only[BC,BP,BA,BO,A8,AY,BB,BL,BV,CO,AO,AQ,AL,BD,AX,AC,AA,AZ,BG,A7,BQ,BR,CE,D7,AB,G5,↓reduceIte,jA,jB,jC,enP,JF,JA,f0,f7,f9,DU hk',DF ag3 hk',encI0,jI];refine IL (fun ha=>?_) (fun ha=>?_)
  .simp -implicitDefEqProofs only[BC,BA,BK,BI,A8,CP,EG,FQ,CG,DI,AY,BB,BL,BV,CO,F7,AO,AQ,AL,BD,AX,AC,AA,EX,AZ,AU,BM,BG,A7,CQ,DY,↓reduceIte,jA,jB,jC,ha]
   have:ns.length<=k:=by simp at ha; omega
   rw[jW this] at hi;exact⟨by rw[hi]; rfl,trivial⟩
  have hkn':k<ns.length:=by simp at ha; omega
  rw[zJ hkn'] at hi;simp -implicitDefEqProofs only[AY,BL,BV,CO,ES,AO,AQ,AL,BD,AX,AC,AA,AZ,AU,BH,BM,BG,CQ,DX,BR,AB,DC,↓reduceIte,jA,jB,jC,enP,ha];refine IL (fun hb=>?_) (fun hb=>?_)
  .simp -implicitDefEqProofs only[BC,BA,BK,BI,A8,CP,EG,FQ,CG,DI,AY,BB,BL,BV,CO,F7,AO,AQ,AL,BD,AX,AC,AA,EX,AZ,AU,BM,A7,CQ,DY,↓reduceIte,jA,jB,jC,hb]
   have:decide (0<=xs[k])=false:=by simp at hb|-; omega
   exact⟨by rw[hi]; unfold MQ; rw[this]; rfl,trivial⟩
  have h0:decide (0<=xs[k])=true:=by simp at hb|-; omega
  simp -implicitDefEqProofs only[BI,A8,AY,BB,BL,BV,CO,ES,AO,AQ,AL,BD,AX,AC,AA,AZ,AU,BM,BG,CQ,DX,BQ,BR,CE,AB,G5,↓reduceIte,jA,jB,jC,enP,JF,hb,f0,DU hkn',DF ag3 hkn',encN0];refine CU (fun hd=>?_) (fun hd=>?_)
  .simp -implicitDefEqProofs only[BC,BA,BK,A8,CP,EG,FQ,CG,AY,BB,AO,AQ,AL,BD,AX,AC,AA,AU,BM,A7,↓reduceIte,jB,jC]
   have:decide (xs[k]<(ns[k]:Int))=false:=by simp at hd|-; omega
   exact⟨by rw[hi]; unfold MQ; rw[this,h0]; rfl,trivial⟩
  have h1:decide (xs[k]<(ns[k]:Int))=true:=by simp at hd|-; omega
  simp -implicitDefEqProofs only[BA,BO,A8,EJ,EQ,AY,BB,AO,AQ,AL,BD,AX,AC,AA,AZ,AU,BH,BG,BR,AB,CZ,↓reduceIte,jA,jB,jC,enP,f9,wrap_succ (show k<9223372036854775807 by omega)];refine⟨n-1,by omega,k+1,by omega,by omega,f0,f1,f7,f8,rfl,trivial,?_⟩;rw[hi]
  conv=>lhs; unfold MQ
  rw[h0,h1]; rfl
 .have hk':¬k<xs.length:=by simpa using hc
  simp -implicitDefEqProofs only[BC,BA,BK,DJ,A8,EI,EW,ET,CG,AY,BB,AO,AQ,AL,BD,AX,AC,AA,AZ,BG,A7,BR,D7,AB,EC,↓reduceIte,jA,jB,jC,enP,JA,f0,f1,jI];refine⟨?_,trivial⟩;rw[hi,jW (show xs.length<=k by omega),AT3,List.length_drop];congr 1;rw[Bool.eq_iff_iff]; simp; omega
theorem AKL (G:Nat->AV)(xs:List Is)(m:SM)(fid:FuncId)(caps:List AV)(p:Is->Bool)(h:Hp)(hl:xs.length<=1099511627776)
  (hf:∀r,PCall (En G) fid (.sl r.m 1 (r.l.map encI)::caps) h (.bool (p r))) :
  PCall (En G) 183 [.sl m 1 (xs.map encL),.fn (.func fid) [] caps] h (.int .i64 (match xs.findIdx? p with|some i=>(i:Int)|none => -1)):=by
 refine acN Tryz.func183 rfl ?_;show awp _ _ _ _ _ (EN _ [.tmp 4] _);simp -implicitDefEqProofs only[BC,BP,BA,A8,AY,BB,AO,AQ,AL,BD,AX,AC,AA,AZ,AU,BH,BG,A7,D7,AB,BF,↓reduceIte,jA,jB,jC,enP,XI,jI];refine DK (fun n F H=>∃k,n+k=xs.length∧F 0=.sl m 1 (xs.map encL)∧F 1=.fn (.func fid) [] caps∧F 7=.int .i64 xs.length∧F 8=.int .i64 (k:Nat)∧H=h∧(xs.take k).all (fun r => !p r)=true) xs.length ⟨0,by simp,rfl,rfl,rfl,rfl,rfl,rfl⟩ ?_;rintro n F H ⟨k,hk,f0,f1,f7,f8,rfl,hin⟩;simp -implicitDefEqProofs only[BC,BA,BI,A8,AY,BB,AO,AQ,AL,BD,AX,AC,AA,AZ,BR,AB,DC,↓reduceIte,jB,jC,enP,f0,f1,f7,f8,jI];refine CU (fun hc=>?_) (fun hc=>?_)
 .have hc':k<xs.length:=by simpa using hc
  simp -implicitDefEqProofs only[BC,BP,BA,BO,A8,AY,BB,AO,AQ,AL,BD,AX,AC,AA,AZ,BG,A7,BQ,CE,CB,BU,AB,jD,jE,zY,List.cons_append,↓reduceIte,jA,jB,jC,enP,N7,f0,f1,f7,f8,DU hc',DF KC hc',NE];refine(hf _).use ?_;simp -implicitDefEqProofs only[BI,A8,BB,AC,AA,AZ,↓reduceIte];refine CU (fun hb=>?_) (fun hb=>?_)
  .simp -implicitDefEqProofs only[BC,BA,BK,A8,CP,EG,FQ,CG,AY,BB,AO,AQ,AL,BD,AX,AC,AA,AZ,BG,A7,↓reduceIte,jA,jB,jC]
   refine⟨?_,trivial⟩
   rw[qU.2 ⟨hc',hb,fun j hj=>by
    rw[List.all_eq_true] at hin;have:=hin xs[j] (by rw[List.mem_take_iff_getElem]; exact⟨j,by omega,rfl⟩)
    simpa using this⟩]
  .simp -implicitDefEqProofs only[BA,BO,A8,EJ,EQ,AY,BB,AO,AQ,AL,BD,AX,AC,AA,AZ,AU,BH,BG,BR,AB,CZ,↓reduceIte,jA,jB,jC,enP,f8,wrap_succ (show k<9223372036854775807 by omega)]
   refine⟨n-1,by omega,k+1,by omega,f0,f1,f7,rfl,trivial,?_⟩;rw[zL hc',List.all_append,hin];simp only[List.all_cons,List.all_nil,hb]; rfl
 .have hc':¬k<xs.length:=by simpa using hc
  simp -implicitDefEqProofs only[BC,BA,BK,DJ,A8,EI,EW,ET,CG,AY,BB,AO,AQ,AL,BD,AX,AC,AA,AU,BH,A7,↓reduceIte,jB,jC];refine⟨?_,trivial⟩;rw[jX (by omega)] at hin;rw[qV.2 (by simpa using hin)]
theorem SC (G:Nat->AV)(xs:List Is)(m:SM)(fid:FuncId)(caps:List AV)(p:Is->Bool)(h:Hp)(hl:xs.length<=1099511627776)
  (hf:∀r,PCall (En G) fid (.sl r.m 1 (r.l.map encI)::caps) h (.bool (p r))) :
  PCall (En G) 133 [.sl m 1 (xs.map encL),.fn (.func fid) [] caps] h (.bool (xs.any p)):=by
 refine acN Tryz.func133 rfl ?_;show awp _ _ _ _ _ (EN _ [.tmp 4] _);simp -implicitDefEqProofs only[BC,BA,A8,AY,BB,AO,AQ,AL,BD,AX,AC,AA,AZ,AU,BX,BM,BG,A7,CB,BU,BF,BN,jD,jE,jF,↓reduceIte,jA,jB,jC,enP];refine(AKL G xs m fid caps p h hl hf).use ?_;simp -implicitDefEqProofs only[BK,A8,CG,AY,BB,AO,AQ,AL,BD,AX,AC,AA,AZ,AU,BH,A7,BR,AB,G5,↓reduceIte,jB,jC,enP];refine⟨?_,trivial⟩
 cases hx:xs.findIdx? p with
 | some i =>
   obtain⟨h1,h2,_⟩:=qU.1 hx;have:xs.any p=true:=List.any_eq_true.2 ⟨xs[i],by simp,h2⟩;simp [this]
 | none =>
   have:xs.any p=false:=by
    rw[qV] at hx;rw[List.any_eq_false]; intro x hx2; simp [hx x hx2]
   simp [this]
theorem AHO (G:Nat->AV)(ns:List Nat)(s:SM)(b:Nat)(r:Is)(h:Hp)(hb:h[b]?=some (.live 1 [[.sl s 1 (ns.map IG)]]))(hn:ns.length<=1048576) :
  PCall (En G) 181 [.sl r.m 1 (r.l.map encI),.ptr b 0 0] h (.bool (!MQ ns r.l)):=by
 refine acN Tryz.func181 rfl ?_;show awp _ _ _ _ _ (EN _ [.tmp 3] _);simp -implicitDefEqProofs only[BC,BA,A8,AY,BB,AO,AQ,AL,BD,AX,AC,AA,AZ,AU,BX,BM,BG,A7,BQ,CB,BU,AB,BF,BN,jD,jE,jF,↓reduceIte,jA,jB,jC,enP,JS KC hb];refine(inside_prog G ns r.l s r.m h hn).use ?_;simp -implicitDefEqProofs only[BK,A8,CG,AY,BB,AO,AQ,AL,BD,AX,AC,AA,AZ,A7,IE,AB,FK,↓reduceIte,jB,jC];exact⟨trivial,trivial⟩
def V8 (n:Nat):Option Int->List Int->Bool
 | _,[]=>true
 | o,p::ps=>(decide (0<=p)&&decide (p<(n:Int))&&(match o with|some q=>decide (q<p)|none=>true))&&V8 n (some p) ps
def prev (l:List Int)(k:Nat):Option Int:=match k with
 | 0=>none
 | k+1=>l[k]?
theorem AGD (n:Nat)(l:List Int)(k:Nat)(hk:k<l.length):V8 n (prev l k) (l.drop k)=((decide (0<=l[k])&&decide (l[k]<(n:Int))&&(match prev l k with|some q=>decide (q<l[k])|none=>true))&&V8 n (prev l (k+1)) (l.drop (k+1))):=by
 rw[zJ hk];have:prev l (k+1)=some l[k]:=by unfold prev; exact jU hk
 rw[this]; rfl
theorem WY {m:Mo}:∀ {l:List Int} {o:Option Int},V8 m.pts.length o l=true->Here m l
 | [],_,_=>fun p hp=>by cases hp
 | x::l,o,h=>by
   simp only[V8,jV,decide_eq_true_eq] at h;intro p hp
   cases qR.1 hp with
   | inl e=>subst e; exact⟨h.1.1.1,h.1.1.2⟩
   | inr e=>exact WY h.2 p e
def IJ (m:Mo)(c:Cr):Int :=
 if IB c.name=false then 7 else if c.pts.length<2∨4<c.pts.length then 1 else if V8 m.pts.length none c.pts=false then 1 else
  if 256<GL (szs m c.pts)∨256<c.excl.length then 2 else if(c.excl.any fun x => !MQ (szs m c.pts) x.l) then 1 else 0
structure CrOk (c:Cr):Prop where
 name:c.name.size<=1048576
 pts:c.pts.length<=1048576
 excl:c.excl.length<=1048576
 each:∀x∈c.excl,x.l.length<=1048576
def Full (m:Mo):Prop:=∀p∈m.pts,1<=p.bins.length∧p.bins.length<=64
theorem Full.szs {m:Mo}{l:List Int}(hf:Full m)(hh:Here m l):∀n∈szs m l,1<=n∧n<=64:=by
 intro n hn;obtain⟨p,hp,rfl⟩:=List.mem_map.1 hn;obtain⟨h0,h1⟩:=hh p hp;have hlt:p.toNat<m.pts.length:=by omega
 have:JL m p=(m.pts[p.toNat]).bins:=by unfold JL; rw[jU hlt]
 rw[this];exact hf _ (jS hlt)
theorem A5T (h:Hp):KJ Tryz.prog h 57=some (.ptr h.length 0 0,h++[.live 1 [[.sl .nil 0 []]]]):=J8 (row:=[.sl .nil 0 []]) (by kernel_rfl)
theorem ldM {h:Hp}{b:Nat}{m:Mo}(hb:h[b]?=some (.live 2 [D6 m])):EH Tryz.prog h 25 (.ptr b 0 0)=some (.agg (D6 m)):=by
 rw[JY A4B AWK hb rfl (by rw[ZM]; exact jM 2)]; rfl
theorem ldC {h:Hp}{b:Nat}{c:Cr}(hb:h[b]?=some (.live 3 [GG c])):EH Tryz.prog h 71 (.ptr b 0 0)=some (.agg (GG c)):=by
 rw[JY ZV XH hb rfl (by rw[J7]; exact jM 3)]; rfl
theorem ANC (G:Nat->AV)(hG:GOk G)(m:Mo)(c:Cr)(hc:CrOk c)(hf:Full m)(h:Hp):PCall (En G) 130 [.agg (D6 m),.agg (GG c)] h (.int .i64 (IJ m c)):=by
 refine ACalls.pure0 rfl ?_;have hc1:=hc.name;have hc2:=hc.pts;have hc3:=hc.excl;refine acN Tryz.func130 rfl ?_;show awp _ _ _ _ _ (EN _ [.tmp 4] _);have gm:(h++[ABlk.live 2 [D6 m]]++[ABlk.live 3 [GG c]])[h.length]?=some (.live 2 [D6 m]):=CV (CY _ _);have gc:(h++[ABlk.live 2 [D6 m]]++[ABlk.live 3 [GG c]])[(h++[ABlk.live 2 [D6 m]]).length]?=some (.live 3 [GG c]):=CY _ _;have hx:∃x,h++[ABlk.live 2 [D6 m]]++[ABlk.live 3 [GG c]]=h++x:=⟨_,zA _ _ _⟩;have hlt:h.length<(h++[ABlk.live 2 [D6 m]]).length:=by simp
 simp -implicitDefEqProofs only[BC,BA,A8,AY,BB,AO,AQ,AL,BD,AX,AC,AA,AZ,AU,BH,A7,FU,BQ,BJ,BZ,AB,BF,BN,↓reduceIte,jA,jL,jB,jC,enP,AH6,bxM,bxC]
 generalize h++[ABlk.live 2 [D6 m]]++[ABlk.live 3 [GG c]]=H at gm gc hx|-
 generalize (h++[ABlk.live 2 [D6 m]]).length=cb at gc hlt|-
 have lm:EH Tryz.prog H 22 (.ptr h.length 0 0)=some (.sl m.pm 6 (m.pts.map GM)):=by rw[DW WN gm (row:=D6 m) rfl,QA]
 have lc0:EH Tryz.prog H 9 (.ptr cb 0 0)=some (.str c.name):=by rw[DW ag9 gc (row:=GG c) rfl,APU]
 have lc1:EH Tryz.prog H 57 (.ptr cb 0 1)=some (.sl c.pm 1 (c.pts.map encI)):=by rw[DW KC gc (row:=GG c) rfl,ABT]
 have lc2:EH Tryz.prog H 26 (.ptr cb 0 2)=some (.sl c.xm 1 (c.excl.map encL)):=by rw[DW QX gc (row:=GG c) rfl,APT]
 simp -implicitDefEqProofs only[AY,AO,AQ,AL,BD,AX,AC,AA,AZ,BX,CB,BU,AB,jD,jE,jF,↓reduceIte,jB,jC,lc0];refine(OM G hG.kw c.name _ (by omega)).use ?_;simp -implicitDefEqProofs only[BI,A8,AY,BB,AO,AQ,AL,BD,AX,AC,AA,AZ,IE,AB,FK,↓reduceIte,jB,jC];cases h1:IB c.name
 .simp -implicitDefEqProofs only[BC,BA,BK,A8,CP,CG,DI,AY,BB,AO,AQ,AL,BD,AX,AC,AA,AU,BH,A7,↓reduceIte,jB,jC]
  exact⟨by unfold IJ; rw[if_pos h1],hx⟩
 have h1':¬IB c.name=false:=by rw[h1]; decide
 simp -implicitDefEqProofs only[BC,BA,BO,A8,DT,AY,BL,BV,CO,AO,AQ,AL,BD,AX,AC,AA,AZ,AU,BH,BG,BQ,BR,BJ,D7,AB,DC,↓reduceIte,jA,jG,jB,jT,jC,enP,JA,KI,lc1,jI];refine IL (fun h2=>?_) (fun h2=>?_)
 .simp -implicitDefEqProofs only[BC,BA,BK,BI,A8,CP,CG,DI,AY,BB,BL,BV,CO,F7,AO,AQ,AL,BD,AX,AC,AA,EX,AZ,AU,BH,BM,A7,CQ,DY,↓reduceIte,jA,jB,jC,h2]
  exact⟨by unfold IJ; rw[if_neg h1',if_pos (.inl (by simp at h2; omega))],hx⟩
 simp -implicitDefEqProofs only[BI,A8,AY,BB,BL,BV,CO,ES,AO,AQ,AL,BD,AX,AC,AA,AZ,AU,BH,BM,CQ,DX,BQ,BR,BJ,D7,AB,FV,↓reduceIte,jA,jG,jB,jC,enP,JA,KI,h2,lc1,jI];refine CU (fun h3=>?_) (fun h3=>?_)
 .simp -implicitDefEqProofs only[BC,BA,BK,A8,CP,CG,AY,BB,AO,AQ,AL,BD,AX,AC,AA,AU,BH,A7,↓reduceIte,jB,jC]
  exact⟨by unfold IJ; rw[if_neg h1',if_pos (.inr (by simp at h3; omega))],hx⟩
 have h23:¬(c.pts.length<2∨4<c.pts.length):=by simp at h2 h3; omega
 simp -implicitDefEqProofs only[BC,BP,BA,BO,A8,AY,BB,AO,AQ,AL,BD,AX,AC,AA,AZ,AU,BH,BG,BQ,BJ,D7,AB,↓reduceIte,jA,jG,jB,jC,enP,JA,KI,lc1,jI];refine GN 0 (fun F H'=>F 2=.ptr h.length 0 0∧F 3=.ptr cb 0 0∧H'=H∧V8 m.pts.length none c.pts=true) (fun F H'=>F 4=.int .i64 1∧H'=H∧V8 m.pts.length none c.pts=false) ?_ ?_ ?_
 .refine DK (fun n F H'=>∃k,n+k=c.pts.length∧F 2=.ptr h.length 0 0∧F 3=.ptr cb 0 0∧F 23=.sl c.pm 1 (c.pts.map encI)∧F 24=.int .i64 c.pts.length∧F 25=.int .i64 (k:Nat)∧H'=H∧V8 m.pts.length none c.pts=V8 m.pts.length (prev c.pts k) (c.pts.drop k)) c.pts.length ⟨0,by simp,by simp -implicitDefEqProofs only[AA,↓reduceIte,jA],by simp -implicitDefEqProofs only[AA,↓reduceIte,jA],by simp -implicitDefEqProofs only[AA,↓reduceIte,jA],by simp -implicitDefEqProofs only[AA,↓reduceIte,jA],by simp -implicitDefEqProofs only[AA,↓reduceIte]; rfl,rfl,rfl⟩ ?_
  rintro n F H' ⟨k,hk,f2,f3,f23,f24,f25,rfl,hi⟩;simp -implicitDefEqProofs only[BC,BA,BI,A8,AY,BB,AO,AQ,AL,BD,AX,AC,AA,AZ,BR,AB,DC,↓reduceIte,jB,jC,enP,f24,f25];refine CU (fun hlt=>?_) (fun hlt=>?_)
  .have hk':k<c.pts.length:=by simpa using hlt
   rw[AGD _ _ _ hk'] at hi;simp -implicitDefEqProofs only[BC,BP,BA,BO,A8,AY,BB,BL,BV,CO,AO,AQ,AL,BD,AX,AC,AA,AZ,AU,BH,BG,A7,BQ,BR,CE,AB,DC,↓reduceIte,jA,jB,jC,enP,JF,f2,f3,f23,f25,DU hk',DF ag3 hk',encI0];refine IL (fun ha=>?_) (fun ha=>?_)
   .simp -implicitDefEqProofs only[BC,BA,BK,BI,A8,CP,EG,NG,FQ,DI,AY,BB,BL,BV,CO,F7,SI,AO,AQ,AL,BD,AX,AC,AA,EX,AZ,AU,BH,BM,BG,A7,CQ,DY,↓reduceIte,jA,jB,jC,ha]
    have:decide (0<=c.pts[k])=false:=by simp at ha|-; omega
    exact⟨trivial,trivial,by rw[hi,this]; rfl⟩
   have ha':decide (0<=c.pts[k])=true:=by simp at ha|-; omega
   simp -implicitDefEqProofs only[AY,BL,BV,CO,ES,AO,AQ,AL,BD,AX,AC,AA,AZ,AU,BM,BG,CQ,DX,BQ,BR,BJ,D7,AB,G5,↓reduceIte,jA,jL,jB,jC,enP,QS,IR,ha,f2,lm,jI];refine IL (fun hb=>?_) (fun hb=>?_)
   .simp -implicitDefEqProofs only[BC,BA,BK,BI,A8,CP,EG,NG,FQ,DI,AY,BB,BL,BV,CO,F7,SI,AO,AQ,AL,BD,AX,AC,AA,EX,AZ,AU,BH,BM,A7,CQ,DY,↓reduceIte,jA,jB,jC,hb]
    have:decide (c.pts[k]<(m.pts.length:Int))=false:=by simp at hb|-; omega
    exact⟨trivial,trivial,by rw[hi,this,ha']; rfl⟩
   have hb':decide (c.pts[k]<(m.pts.length:Int))=true:=by simp at hb|-; omega
   rw[ha',hb'] at hi;simp only[wC] at hi
   cases k with
   | zero =>
     have hz:decide ((((0:Nat):Int))>0)=false:=by decide
     simp -implicitDefEqProofs only[BA,BO,BI,A8,EJ,EQ,DT,AY,BB,BL,BV,CO,ES,IX,AO,AQ,AL,BD,AX,AC,AA,EX,AZ,AU,BH,BM,BG,CQ,DX,BR,AB,CZ,FV,↓reduceIte,jA,jG,jB,jC,enP,hb,hz,f25,wrap_succ (show 0<9223372036854775807 by omega)];exact⟨n-1,by omega,1,by omega,f2,f3,f23,f24,rfl,trivial,by rw[hi]; rfl⟩
   | succ k =>
     have hz:decide ((((k+1:Nat):Int))>0)=true:=by simp
     have hw:IntKind.i64.wrap (((k+1:Nat):Int)-1)=(k:Int):=by rw[wrap_i64 (by omega) (by omega)]; omega
     have hk2:k<c.pts.length:=by omega
     have hpv:prev c.pts (k+1)=some c.pts[k]:=by unfold prev; exact jU hk2
     rw[hpv] at hi;simp -implicitDefEqProofs only[BI,A8,AY,BB,BL,BV,CO,F9,ES,AO,AQ,AL,BD,AX,AC,AA,AZ,AU,BH,BM,BG,CQ,DY,DX,BQ,BR,BJ,CE,AB,J5,JC,FV,↓reduceIte,jA,jG,jB,jC,enP,JF,KI,hb,hz,f3,lc1,hw,DU hk2,DF ag3 hk2,encI0];refine CU (fun hd=>?_) (fun hd=>?_)
     .simp -implicitDefEqProofs only[BC,BA,BK,A8,CP,EG,NG,FQ,AY,BB,AO,AQ,AL,BD,AX,AC,AA,AU,BH,A7,↓reduceIte,jB,jC]
      have:decide (c.pts[k]<c.pts[k+1])=false:=by simp at hd|-; omega
      exact⟨trivial,trivial,by rw[hi]; simp only[this]; rfl⟩
     .simp -implicitDefEqProofs only[BA,BO,A8,EJ,EQ,AY,BB,AO,AQ,AL,BD,AX,AC,AA,AZ,AU,BH,BG,BR,AB,CZ,↓reduceIte,jA,jB,jC,enP,f25,wrap_succ (show k+1<9223372036854775807 by omega)]
      have:decide (c.pts[k]<c.pts[k+1])=true:=by simp at hd|-; omega
      exact⟨n-1,by omega,k+1+1,by omega,f2,f3,f23,f24,rfl,trivial,by rw[hi]; simp only[this]; rfl⟩
  .have hk':¬k<c.pts.length:=by simpa using hlt
   simp -implicitDefEqProofs only[DJ,EI,J3,ET,AA,↓reduceIte,jA];exact⟨f2,f3,trivial,by rw[hi,jW (by omega)]; rfl⟩
 .rintro F H' ⟨f2,f3,rfl,hi⟩
  have hh:=WY hi;have hi':¬V8 m.pts.length none c.pts=false:=by rw[hi]; decide
  simp -implicitDefEqProofs only[BC,BA,A8,EW,AY,AO,AQ,AL,BD,AX,AC,AA,AZ,BX,BQ,CB,BU,AB,jD,jE,jF,↓reduceIte,jA,jB,jC,enP,f2,f3,ldM gm,ldC gc];refine(RG G m c _ hh (by omega)).use ?_;have hsz:(szs m c.pts).length<=4:=by unfold szs; simp; omega
  have hst:=SY (t:=57) (v:=.sl .nil 0 []) (u:=.sl (nm (szs m c.pts)) 1 ((szs m c.pts).map IG)) VJ (AV3 _ _ _) (CY H' (.live 1 [[.sl .nil 0 []]]));rw[ACN] at hst;simp -implicitDefEqProofs only[BC,BP,BA,A8,AY,BB,AO,AQ,AL,BD,AX,AC,EM,AA,AZ,BX,FD,BQ,D5,CB,BU,BZ,AB,CX,jD,jE,jF,↓reduceIte,jA,jB,jC,enP,jP,A5T,hst,JS KC (CY H' _)];refine(QQ G _ _ _ (fun n hn=>(hf.szs hh n hn).2) hsz).use ?_
  have hx2:∃x,H'++[ABlk.live 1 [[AV.sl (nm (szs m c.pts)) 1 ((szs m c.pts).map IG)]]]=h++x:=by
   obtain⟨x,hx⟩:=hx;exact⟨x++_,by rw[hx,zA]⟩
  have lc2':∀x,EH Tryz.prog (H'++[x]) 26 (.ptr cb 0 2)=some (.sl c.xm 1 (c.excl.map encL)):=fun x=>by rw[DW QX (CV gc) (row:=GG c) rfl,APT]
  simp -implicitDefEqProofs only[AY,BL,BV,CO,AO,AQ,AL,BD,AX,AC,AA,AZ,AU,BH,BG,BR,AB,FV,↓reduceIte,jB,jC,enP];refine IL (fun ha=>?_) (fun ha=>?_)
  .simp -implicitDefEqProofs only[BC,BA,BK,BI,A8,CP,EG,CG,DI,AY,BB,BL,BV,CO,F7,AO,AQ,AL,BD,AX,AC,AA,EX,AZ,AU,BH,BM,A7,CQ,DY,↓reduceIte,jA,jB,jC,ha]
   exact⟨by unfold IJ; rw[if_neg h1',if_neg h23,if_neg hi',if_pos (.inl (by simp at ha; omega))],hx2⟩
  simp -implicitDefEqProofs only[BI,A8,AY,BB,BL,BV,CO,ES,AO,AQ,AL,BD,AX,AC,AA,AZ,AU,BH,BM,A7,CQ,DX,BQ,BR,BJ,D7,AB,FV,↓reduceIte,jA,jG,jB,jC,enP,XI,U5,ha,f3,lc2',jI];refine CU (fun hb=>?_) (fun hb=>?_)
  .simp -implicitDefEqProofs only[BC,BA,BK,A8,CP,EG,CG,AY,BB,AO,AQ,AL,BD,AX,AC,AA,AU,BH,A7,↓reduceIte,jB,jC]
   exact⟨by unfold IJ; rw[if_neg h1',if_neg h23,if_neg hi',if_pos (.inr (by simp at hb; omega))],hx2⟩
  have hab:¬(256<GL (szs m c.pts)∨256<c.excl.length):=by simp at ha hb; omega
  simp -implicitDefEqProofs only[BC,BA,AY,AO,AQ,AL,BD,AX,AC,AA,AZ,BX,BQ,I8,BJ,CB,BU,AB,jD,jE,jF,↓reduceIte,jA,jG,jB,jC,enP,U5,f3,lc2'];refine(SC G c.excl c.xm 181 _ (fun x => !MQ (szs m c.pts) x.l) _ (by omega) fun r=>AHO G _ _ _ r _ (CY H' _) (by omega)).use ?_;simp -implicitDefEqProofs only[BI,A8,AY,BB,AO,AQ,AL,BD,AX,AC,AA,AZ,A7,↓reduceIte,jB,jC];cases he:c.excl.any fun x => !MQ (szs m c.pts) x.l
  .simp -implicitDefEqProofs only[BC,BA,BO,BK,A8,EJ,CG,DT,AY,BB,AO,AQ,AL,BD,AX,AC,AA,AU,BH,A7,↓reduceIte,jB,jC]
   exact⟨by unfold IJ; rw[if_neg h1',if_neg h23,if_neg hi',if_neg hab,he]; rfl,hx2⟩
  .simp -implicitDefEqProofs only[BC,BA,BK,A8,CP,EG,CG,DI,AY,BB,AO,AQ,AL,BD,AX,AC,AA,AU,BH,A7,↓reduceIte,jB,jC]
   exact⟨by unfold IJ; rw[if_neg h1',if_neg h23,if_neg hi',if_neg hab,he]; rfl,hx2⟩
 .rintro F H' ⟨f4,rfl,hi⟩
  simp -implicitDefEqProofs only[CP,EG,CG,f4];exact⟨by unfold IJ; rw[if_neg h1',if_neg h23,if_pos hi],hx⟩
theorem AHD (m:Mo)(l:List Int)(k:Nat)(hk:k<l.length):(szs m l)[k]?=some (JL m l[k]).length:=by
 unfold szs; rw[zH,jU hk]; rfl
theorem LJ (m:Mo)(l:List Int):(szs m l).length=l.length:=by unfold szs; simp
structure Two (h H:Hp) (m:Mo) (c:Cr) (cb:Nat):Prop where
 gm:H[h.length]?=some (.live 2 [D6 m])
 gc:H[cb]?=some (.live 3 [GG c])
 hx:∃x,H=h++x
theorem Two.lm {h H:Hp}{m:Mo}{c:Cr}{cb:Nat}(t:Two h H m c cb):EH Tryz.prog H 22 (.ptr h.length 0 0)=some (.sl m.pm 6 (m.pts.map GM)):=by rw[DW WN t.gm (row:=D6 m) rfl,QA]
theorem Two.l0 {h H:Hp}{m:Mo}{c:Cr}{cb:Nat}(t:Two h H m c cb):EH Tryz.prog H 9 (.ptr cb 0 0)=some (.str c.name):=by rw[DW ag9 t.gc (row:=GG c) rfl,APU]
theorem Two.l1 {h H:Hp}{m:Mo}{c:Cr}{cb:Nat}(t:Two h H m c cb):EH Tryz.prog H 57 (.ptr cb 0 1)=some (.sl c.pm 1 (c.pts.map encI)):=by rw[DW KC t.gc (row:=GG c) rfl,ABT]
theorem Two.l2 {h H:Hp}{m:Mo}{c:Cr}{cb:Nat}(t:Two h H m c cb):EH Tryz.prog H 26 (.ptr cb 0 2)=some (.sl c.xm 1 (c.excl.map encL)):=by rw[DW QX t.gc (row:=GG c) rfl,APT]
theorem Two.mk' (h:Hp)(m:Mo)(c:Cr):Two h (h++[.live 2 [D6 m]]++[.live 3 [GG c]]) m c (h++[ABlk.live 2 [D6 m]]).length:=⟨CV (CY _ _),CY _ _,⟨_,zA _ _ _⟩⟩
theorem XD (G:Nat->AV)(m:Mo)(c:Cr)(h:Hp)(hh:Here m c.pts)(hf:Full m)(hl:c.pts.length<=1048576):PCall (En G) 89 [.agg (D6 m),.agg (GG c)] h (.int .i64 (min (GL (szs m c.pts)) 1000)):=by
 refine ACalls.pure0 rfl ?_;refine acN Tryz.func89 rfl ?_;show awp _ _ _ _ _ (EN _ [.tmp 4] _);have t:=Two.mk' h m c;simp -implicitDefEqProofs only[BC,BP,BA,A8,AY,BB,AO,AQ,AL,BD,AX,AC,AA,AZ,AU,BH,A7,FU,BZ,BF,BN,↓reduceIte,jA,jB,jC,enP,bxM,bxC]
 generalize h++[ABlk.live 2 [D6 m]]++[ABlk.live 3 [GG c]]=H at t|-
 generalize (h++[ABlk.live 2 [D6 m]]).length=cb at t|-
 have hs:=hf.szs hh;refine GN 0 (fun F H'=>(F 5=.int .i64 (GL (szs m c.pts):Nat)∨∃n:Nat,1000<=n∧n<=GL (szs m c.pts)∧F 5=.int .i64 n)∧H'=H) (fun _ _=>False) ?_ ?_ (fun _ _ hh=>hh.elim)
 .refine DK (fun n F H'=>∃k,n+k=c.pts.length∧F 2=.ptr h.length 0 0∧F 3=.ptr cb 0 0∧F 5=.int .i64 (GL ((szs m c.pts).take k):Nat)∧F 6=.int .i64 (k:Nat)∧H'=H) c.pts.length ⟨0,by simp,by simp -implicitDefEqProofs only[AA,↓reduceIte,jA],by simp -implicitDefEqProofs only[AA,↓reduceIte,jA],by simp -implicitDefEqProofs only[AA,↓reduceIte,jA]; rfl,by simp -implicitDefEqProofs only[AA,↓reduceIte]; rfl,rfl⟩ ?_
  rintro n F H' ⟨k,hk,f2,f3,f5,f6,rfl⟩;simp -implicitDefEqProofs only[BC,BA,AY,BL,BV,CO,AO,AQ,AL,BD,AX,AC,AA,AZ,BG,BQ,BR,BJ,D7,AB,DC,↓reduceIte,jA,jG,jB,jC,enP,JA,KI,f3,f6,t.l1,jI];refine IL (fun ha=>?_) (fun ha=>?_)
  .have hk':k<c.pts.length:=by simpa using ha
   simp -implicitDefEqProofs only[BI,A8,AY,BB,BL,BV,CO,F9,AO,AQ,AL,BD,AX,AC,AA,AZ,AU,BH,BM,BG,CQ,DY,BR,AB,DC,↓reduceIte,jA,jB,jC,enP,ha,f5];refine CU (fun hb=>?_) (fun hb=>?_)
   .have hb':GL ((szs m c.pts).take k)<1000:=by simp at hb; omega
    obtain⟨s,ls⟩:=hh.ld hk' H';have hks:k<(szs m c.pts).length:=by rw[LJ]; exact hk'
    have hgt:(szs m c.pts)[k]=(JL m c.pts[k]).length:=IQ (AHD m c.pts k hk');have h64:=(hs _ (jS hks)).2;rw[hgt] at h64;have hpt:=RJ (szs m c.pts) k hks;rw[hgt] at hpt;have hmul:GL ((szs m c.pts).take k)*(JL m c.pts[k]).length<=1000*64:=Nat.mul_le_mul (by omega) h64
    have hw:IntKind.i64.wrap ((GL ((szs m c.pts).take k):Int)*((JL m c.pts[k]).length:Int))=((GL ((szs m c.pts).take (k+1)):Nat):Int):=by
     rw[hpt,<-Int.natCast_mul,MF (by omega)]
    simp -implicitDefEqProofs only[BC,BP,BO,A8];refine EZ (by kernel_rfl) ?_;simp -implicitDefEqProofs only[FZ,ED,DN,E8,EF,FO,I7,FB,IY,D9,EE,IC,BA,A8,EJ,EQ,AY,BB,AO,AQ,AL,BD,AX,AC,AA,AZ,AU,BH,BG,A7,BQ,BR,BJ,CE,D7,AB,CZ,PZ,↓reduceIte,jA,jK,jL,jG,jB,jC,enP,SS,IR,RQ,JB,JF,KI,f2,f3,f5,f6,t.lm,t.l1,DU hk',DF ag3 hk',encI0,hh.ix hk',ls,jI,hw,wrap_succ (show k<9223372036854775807 by omega)];exact⟨n-1,by omega,k+1,by omega,trivial,trivial,rfl,rfl,trivial⟩
   .simp -implicitDefEqProofs only[DJ,EI,J3,ET,AA,↓reduceIte,jA]
    exact⟨.inr ⟨_,by simp at hb; omega,ADQ _ _ (fun n hn=>(hs n hn).1),f5⟩,trivial⟩
  .have hk':¬k<c.pts.length:=by simpa using ha
   simp -implicitDefEqProofs only[DJ,BI,A8,EI,J3,ET,DT,AY,BB,BL,BV,CO,IX,AO,AQ,AL,BD,AX,AC,AA,EX,AZ,AU,BM,CQ,DX,↓reduceIte,jA,jB,jC,ha];refine⟨.inl ?_,trivial⟩;rw[jX (by rw[LJ]; omega)] at f5;exact f5
 .rintro F H' ⟨f5,rfl⟩
  rcases f5 with f5|⟨n,h1,h2,f5⟩
  .simp -implicitDefEqProofs only[BC,BA,BK,A8,EW,CG,AY,BB,AO,AQ,AL,BD,AX,AC,AA,AZ,AU,BH,BG,A7,AA8,AB,V5,↓reduceIte,jB,jC,f5]
   exact⟨trivial,t.hx⟩
  .simp -implicitDefEqProofs only[BC,BA,BK,A8,EW,CG,AY,BB,AO,AQ,AL,BD,AX,AC,AA,AZ,AU,BH,BG,A7,AA8,AB,V5,↓reduceIte,jB,jC,f5]
   exact⟨by congr 1; omega,t.hx⟩
def placed (m:Mo)(c:Cr):Bool:=decide (2<=c.pts.length)&&decide (c.pts.length<=4)&&V8 m.pts.length none c.pts
theorem AMC (G:Nat->AV)(m:Mo)(c:Cr)(h:Hp)(hl:c.pts.length<=1048576):PCall (En G) 171 [.agg (D6 m),.agg (GG c)] h (.bool (placed m c)):=by
 refine ACalls.pure0 rfl ?_;refine acN Tryz.func171 rfl ?_;show awp _ _ _ _ _ (EN _ [.tmp 4] _);have t:=Two.mk' h m c;simp -implicitDefEqProofs only[BC,BA,A8,AY,BB,AO,AQ,AL,BD,AX,AC,AA,AZ,AU,BM,A7,FU,BQ,BJ,BZ,AB,BF,BN,↓reduceIte,jA,jG,jB,jC,enP,KI,bxM,bxC]
 generalize h++[ABlk.live 2 [D6 m]]++[ABlk.live 3 [GG c]]=H at t|-
 generalize (h++[ABlk.live 2 [D6 m]]).length=cb at t|-
 simp -implicitDefEqProofs only[AY,BL,BV,CO,AO,AQ,AL,BD,AX,AC,AA,AZ,AU,BH,BG,BR,D7,AB,DC,↓reduceIte,jB,jC,enP,JA,t.l1,jI];refine IL (fun h2=>?_) (fun h2=>?_)
 .simp -implicitDefEqProofs only[BC,BA,BK,BI,A8,CP,CG,DI,AY,BB,BL,BV,CO,F7,AO,AQ,AL,BD,AX,AC,AA,EX,AZ,AU,BM,A7,CQ,DY,↓reduceIte,jA,jB,jC,h2]
  have:decide (2<=c.pts.length)=false:=by simp at h2|-; omega
  exact⟨by unfold placed; rw[this]; rfl,t.hx⟩
 have d2:decide (2<=c.pts.length)=true:=by simp at h2|-; omega
 simp -implicitDefEqProofs only[BI,A8,AY,BB,BL,BV,CO,ES,AO,AQ,AL,BD,AX,AC,AA,AZ,AU,BH,BM,CQ,DX,BQ,BR,BJ,D7,AB,FV,↓reduceIte,jA,jG,jB,jC,enP,JA,KI,h2,t.l1,jI];refine CU (fun h3=>?_) (fun h3=>?_)
 .simp -implicitDefEqProofs only[BC,BA,BK,A8,CP,CG,AY,BB,AO,AQ,AL,BD,AX,AC,AA,AU,BM,A7,↓reduceIte,jB,jC]
  have:decide (c.pts.length<=4)=false:=by simp at h3|-; omega
  exact⟨by unfold placed; rw[this]; simp,t.hx⟩
 have d3:decide (c.pts.length<=4)=true:=by simp at h3|-; omega
 have hpl:placed m c=V8 m.pts.length none c.pts:=by unfold placed; rw[d2,d3]; rfl
 rw[hpl];simp -implicitDefEqProofs only[BC,BP,BA,BO,A8,AY,BB,AO,AQ,AL,BD,AX,AC,AU,BH,A7,jB,jC];refine DK (fun n F H'=>∃k,n+k=c.pts.length∧F 2=.ptr h.length 0 0∧F 3=.ptr cb 0 0∧F 5=.int .i64 (k:Nat)∧H'=H∧V8 m.pts.length none c.pts=V8 m.pts.length (prev c.pts k) (c.pts.drop k)) c.pts.length ⟨0,by simp,by simp -implicitDefEqProofs only[AA,↓reduceIte,jA],by simp -implicitDefEqProofs only[AA,↓reduceIte,jA],by simp -implicitDefEqProofs only[AA,↓reduceIte]; rfl,rfl,rfl⟩ ?_;rintro n F H' ⟨k,hk,f2,f3,f5,rfl,hi⟩;simp -implicitDefEqProofs only[BC,BA,BI,A8,AY,BB,AO,AQ,AL,BD,AX,AC,AA,AZ,BG,BQ,BR,BJ,D7,AB,DC,↓reduceIte,jA,jG,jB,jC,enP,JA,KI,f3,f5,t.l1,jI];refine CU (fun hlt=>?_) (fun hlt=>?_)
 .have hk':k<c.pts.length:=by simpa using hlt
  rw[AGD _ _ _ hk'] at hi;simp -implicitDefEqProofs only[BC,BP,BO,A8];refine EZ (by kernel_rfl) ?_;simp -implicitDefEqProofs only[FZ,ED,DN,EF,FN,GI,FO,FB,IY,D9,EE,CO,AO,AA,AZ,AU,BH,BQ,BR,BJ,CE,AB,DC,↓reduceIte,jA,jK,jG,jB,enP,JF,KI,f2,f3,f5,t.l1,DU hk',DF ag3 hk',encI0];refine ALT (fun ha=>?_) (fun ha=>?_)
  .simp -implicitDefEqProofs only[FZ,ED,DN,E8,EF,FN,GI,Z4,A1N,FO,I5,BC,BA,BK,BI,A8,CP,EG,FQ,CG,DI,AY,BB,CO,AO,AQ,AL,BD,AX,AC,AA,EX,AZ,AU,BM,A7,CQ,DY,↓reduceIte,jA,jK,jB,jC,ha]
   have:decide (0<=c.pts[k])=false:=by simp at ha|-; omega
   exact⟨by rw[hi,this]; rfl,t.hx⟩
  have ha':decide (0<=c.pts[k])=true:=by simp at ha|-; omega
  simp -implicitDefEqProofs only[FZ,ED,DN,EF,FN,GI,UO,FO,I5,FB,IY,D9,EE,IC,CO,AO,AA,AZ,AU,BM,CQ,DX,BQ,BR,BJ,CE,D7,AB,G5,↓reduceIte,jA,jK,jL,jG,jB,enP,QS,IR,JF,KI,ha,f2,f3,f5,t.lm,t.l1,DU hk',DF ag3 hk',encI0,jI];refine ALT (fun hb=>?_) (fun hb=>?_)
  .simp -implicitDefEqProofs only[FZ,ED,DN,E8,EF,FN,GI,Z4,A1N,I5,BC,BA,BK,BI,A8,CP,EG,FQ,CG,DI,AY,BB,CO,AO,AQ,AL,BD,AX,AC,AA,EX,AZ,AU,BM,A7,CQ,DY,↓reduceIte,jA,jK,jB,jC,hb]
   have:decide (c.pts[k]<(m.pts.length:Int))=false:=by simp at hb|-; omega
   exact⟨by rw[hi,this,ha']; rfl,t.hx⟩
  have hb':decide (c.pts[k]<(m.pts.length:Int))=true:=by simp at hb|-; omega
  rw[ha',hb'] at hi;simp only[wC] at hi
  cases k with
  | zero =>
    have hz:decide ((((0:Nat):Int))>0)=false:=by decide
    simp -implicitDefEqProofs only[FZ,ED,DN,E8,EF,FN,GI,UO,AB4,FO,I5,IY,BA,BO,BI,A8,EJ,EQ,DT,AY,BB,CO,AO,AQ,AL,BD,AX,AC,AA,EX,AZ,AU,BH,BM,BG,A7,CQ,DX,BR,AB,CZ,FV,↓reduceIte,jA,jK,jG,jB,jC,enP,hb,hz,f5,wrap_succ (show 0<9223372036854775807 by omega)];exact⟨n-1,by omega,1,by omega,f2,f3,rfl,trivial,by rw[hi]; rfl⟩
  | succ k =>
    have hz:decide ((((k+1:Nat):Int))>0)=true:=by simp
    have hw:IntKind.i64.wrap (((k+1:Nat):Int)-1)=(k:Int):=by rw[wrap_i64 (by omega) (by omega)]; omega
    have hk2:k<c.pts.length:=by omega
    have hpv:prev c.pts (k+1)=some c.pts[k]:=by unfold prev; exact jU hk2
    rw[hpv] at hi;simp -implicitDefEqProofs only[FZ,ED,DN,E8,EF,FN,GI,VI,UO,FO,I5,FB,IY,D9,EE,BI,A8,CO,AO,AA,AZ,AU,BH,BM,CQ,DY,DX,BQ,BR,BJ,CE,AB,J5,JC,FV,↓reduceIte,jA,jK,jG,jB,enP,JF,KI,hb,hz,f3,f5,t.l1,hw,DU hk',DU hk2,DF ag3 hk',DF ag3 hk2,encI0];refine CU (fun hd=>?_) (fun hd=>?_)
    .simp -implicitDefEqProofs only[BC,BA,BK,A8,CP,EG,FQ,CG,AY,BB,AO,AQ,AL,BD,AX,AC,AA,AU,BM,A7,↓reduceIte,jB,jC]
     have:decide (c.pts[k]<c.pts[k+1])=false:=by simp at hd|-; omega
     exact⟨by rw[hi]; simp only[this]; rfl,t.hx⟩
    .simp -implicitDefEqProofs only[BA,BO,A8,EJ,EQ,AY,BB,AO,AQ,AL,BD,AX,AC,AA,AZ,AU,BH,BG,A7,BR,AB,CZ,↓reduceIte,jA,jB,jC,enP,f5,wrap_succ (show k+1<9223372036854775807 by omega)]
     have:decide (c.pts[k]<c.pts[k+1])=true:=by simp at hd|-; omega
     exact⟨n-1,by omega,k+1+1,by omega,f2,f3,rfl,trivial,by rw[hi]; simp only[this]; rfl⟩
 .have hk':¬k<c.pts.length:=by simpa using hlt
  simp -implicitDefEqProofs only[BC,BA,BK,DJ,A8,EI,EW,ET,CG,AY,BB,AO,AQ,AL,BD,AX,AC,AA,AU,BM,A7,↓reduceIte,jB,jC];exact⟨by rw[hi,jW (by omega)]; rfl,t.hx⟩
theorem ACD (G:Nat->AV)(m:Mo)(c:Cr)(x:Is)(h:Hp)(hh:Here m c.pts)(hl:c.pts.length<=1048576):PCall (En G) 172 [.agg (D6 m),.agg (GG c),.sl x.m 1 (x.l.map encI)] h (.bool (MQ (szs m c.pts) x.l)):=by
 refine ACalls.pure0 rfl ?_;refine acN Tryz.func172 rfl ?_;show awp _ _ _ _ _ (EN _ [.tmp 6] _);have t:=Two.mk' h m c;simp -implicitDefEqProofs only[BC,BA,A8,AY,BB,AO,AQ,AL,BD,AX,AC,AA,AZ,AU,BM,BG,A7,FU,BQ,BJ,D7,BZ,AB,BF,BN,↓reduceIte,jA,jG,jB,jC,enP,JA,KI,bxM,bxC]
 generalize h++[ABlk.live 2 [D6 m]]++[ABlk.live 3 [GG c]]=H at t|-
 generalize (h++[ABlk.live 2 [D6 m]]).length=cb at t|-
 simp -implicitDefEqProofs only[BI,A8,AY,BB,AO,AQ,AL,BD,AX,AC,AA,AZ,BR,D7,AB,EK,↓reduceIte,jA,jB,jC,enP,JA,t.l1,jI];refine CU (fun h2=>?_) (fun h2=>?_)
 .simp -implicitDefEqProofs only[BC,BA,BK,A8,CP,CG,AY,BB,AO,AQ,AL,BD,AX,AC,AA,AU,BM,A7,↓reduceIte,jB,jC]
  have:MQ (szs m c.pts) x.l=false:=by
   rw[<-qN]; intro e;have:=P9 e;rw[LJ] at this;simp at h2; omega
  exact⟨by rw[this],t.hx⟩
 have hlen:x.l.length=c.pts.length:=by simp at h2; omega
 simp -implicitDefEqProofs only[BC,BP,BA,BO,A8,AY,BB,AO,AQ,AL,BD,AX,AC,AU,BH,A7,jB,jC];refine DK (fun n F H'=>∃k,n+k=x.l.length∧F 2=.sl x.m 1 (x.l.map encI)∧F 3=.ptr h.length 0 0∧F 4=.ptr cb 0 0∧F 7=.int .i64 (k:Nat)∧H'=H∧MQ (szs m c.pts) x.l=MQ ((szs m c.pts).drop k) (x.l.drop k)) x.l.length ⟨0,by simp,by simp -implicitDefEqProofs only[AA,BF,BN,↓reduceIte,jA],by simp -implicitDefEqProofs only[AA,↓reduceIte,jA],by simp -implicitDefEqProofs only[AA,↓reduceIte,jA],by simp -implicitDefEqProofs only[AA,↓reduceIte]; rfl,rfl,rfl⟩ ?_;rintro n F H' ⟨k,hk,f2,f3,f4,f7,rfl,hi⟩;simp -implicitDefEqProofs only[BC,BA,BI,A8,AY,BB,AO,AQ,AL,BD,AX,AC,AA,AZ,BG,BR,D7,AB,DC,↓reduceIte,jA,jB,jC,enP,JA,f2,f7,jI];refine CU (fun hlt=>?_) (fun hlt=>?_)
 .have hk':k<x.l.length:=by simpa using hlt
  have hkc:k<c.pts.length:=by omega
  have hks:k<(szs m c.pts).length:=by rw[LJ]; exact hkc
  have hgt:(szs m c.pts)[k]=(JL m c.pts[k]).length:=IQ (AHD m c.pts k hkc);rw[zJ hk',zJ hks,hgt] at hi;obtain⟨s,ls⟩:=hh.ld hkc H';simp -implicitDefEqProofs only[BC,BP,BO,A8];refine EZ (by kernel_rfl) ?_;simp -implicitDefEqProofs only[FZ,ED,DN,EF,FN,GI,FO,FB,IY,EE,CO,AO,AA,AZ,AU,BH,BQ,BR,CE,AB,DC,↓reduceIte,jA,jK,jB,enP,JF,f2,f3,f4,f7,DU hk',DF ag3 hk',encI0];refine ALT (fun ha=>?_) (fun ha=>?_)
  .simp -implicitDefEqProofs only[FZ,ED,DN,E8,EF,FN,GI,Z4,I5,BC,BA,BK,BI,A8,CP,EG,FQ,CG,DI,AY,BB,CO,AO,AQ,AL,BD,AX,AC,AA,EX,AZ,AU,BM,A7,CQ,DY,↓reduceIte,jA,jK,jB,jC,ha]
   have:decide (0<=x.l[k])=false:=by simp at ha|-; omega
   exact⟨by rw[hi]; unfold MQ; rw[this]; rfl,t.hx⟩
  have h0:decide (0<=x.l[k])=true:=by simp at ha|-; omega
  simp -implicitDefEqProofs only[FZ,ED,DN,E8,EF,FN,GI,UO,FO,I5,FB,IY,D9,EE,IC,BI,A8,CO,AO,AA,AZ,AU,BM,CQ,DX,BQ,BR,BJ,CE,D7,AB,G5,↓reduceIte,jA,jK,jL,jG,jB,enP,SS,IR,RQ,JB,JF,KI,ha,f2,f3,f4,f7,t.lm,t.l1,DU hk',DF ag3 hk',DU hkc,DF ag3 hkc,encI0,hh.ix hkc,ls,jI];refine CU (fun hd=>?_) (fun hd=>?_)
  .simp -implicitDefEqProofs only[BC,BA,BK,A8,CP,EG,FQ,CG,AY,BB,AO,AQ,AL,BD,AX,AC,AA,AU,BM,A7,↓reduceIte,jB,jC]
   have:decide (x.l[k]<((JL m c.pts[k]).length:Int))=false:=by simp at hd|-; omega
   exact⟨by rw[hi]; unfold MQ; rw[this,h0]; rfl,t.hx⟩
  .simp -implicitDefEqProofs only[BA,BO,A8,EJ,EQ,AY,BB,AO,AQ,AL,BD,AX,AC,AA,AZ,AU,BH,BG,A7,BR,AB,CZ,↓reduceIte,jA,jB,jC,enP,f7,wrap_succ (show k<9223372036854775807 by omega)]
   have h1:decide (x.l[k]<((JL m c.pts[k]).length:Int))=true:=by simp at hd|-; omega
   refine⟨n-1,by omega,k+1,by omega,f2,f3,f4,rfl,trivial,?_⟩;rw[hi]
   conv=>lhs; unfold MQ
   rw[h0,h1]; rfl
 .have hk':¬k<x.l.length:=by simpa using hlt
  simp -implicitDefEqProofs only[BC,BA,BK,DJ,A8,EI,EW,ET,CG,AY,BB,AO,AQ,AL,BD,AX,AC,AA,AU,BM,A7,↓reduceIte,jB,jC];exact⟨by rw[hi,jW (show x.l.length<=k by omega),jW (by rw[LJ]; omega)]; rfl,t.hx⟩
theorem ARQ (G:Nat->AV)(m:Mo)(c:Cr)(hc:CrOk c)(hf:Full m)(h:Hp):PCall (En G) 108 [.agg (D6 m),.agg (GG c)] h (.int .i64 (IJ m c)):=by
 refine ACalls.pure0 rfl ?_;have hc2:=hc.pts;have hc3:=hc.excl;refine acN Tryz.func108 rfl ?_;show awp _ _ _ _ _ (EN _ [.tmp 4] _);have t:=Two.mk' h m c;simp -implicitDefEqProofs only[BC,BA,A8,AY,BB,AO,AQ,AL,BD,AX,AC,AA,AZ,AU,BH,A7,FU,BQ,BJ,BZ,AB,BF,BN,↓reduceIte,jA,jL,jB,jC,enP,AH6,bxM,bxC]
 generalize h++[ABlk.live 2 [D6 m]]++[ABlk.live 3 [GG c]]=H at t|-
 generalize (h++[ABlk.live 2 [D6 m]]).length=cb at t|-
 simp -implicitDefEqProofs only[AY,AO,AQ,AL,BD,AX,AC,AA,AZ,BX,CB,BU,AB,jD,jE,jF,↓reduceIte,jB,jC,t.l0];refine(PN G c.name _).use ?_;simp -implicitDefEqProofs only[BI,A8,AY,BB,AO,AQ,AL,BD,AX,AC,AA,AZ,IE,AB,FK,↓reduceIte,jB,jC];cases h1:IB c.name
 .simp -implicitDefEqProofs only[BC,BA,BK,A8,CP,CG,DI,AY,BB,AO,AQ,AL,BD,AX,AC,AA,AU,BH,A7,↓reduceIte,jB,jC]
  exact⟨by unfold IJ; rw[if_pos h1],t.hx⟩
 have h1':¬IB c.name=false:=by rw[h1]; decide
 simp -implicitDefEqProofs only[BC,BA,BO,A8,DT,AY,AO,AQ,AL,BD,AX,AC,AA,AZ,BX,BQ,CB,BU,AB,jD,jE,jF,↓reduceIte,jA,jB,jT,jC,enP,ldM t.gm,ldC t.gc];refine(AMC G m c _ (by omega)).use ?_;simp -implicitDefEqProofs only[BI,A8,AY,BB,AO,AQ,AL,BD,AX,AC,AA,AZ,IE,AB,FK,↓reduceIte,jB,jC];cases h2:placed m c
 .simp -implicitDefEqProofs only[BC,BA,BK,A8,CP,CG,DI,AY,BB,AO,AQ,AL,BD,AX,AC,AA,AU,BH,A7,↓reduceIte,jB,jC]
  refine⟨?_,t.hx⟩;unfold IJ; rw[if_neg h1'];unfold placed at h2;split
  .rfl
  .rename_i h3
   have d2:decide (2<=c.pts.length)=true:=by simp; omega
   have d3:decide (c.pts.length<=4)=true:=by simp; omega
   rw[d2,d3] at h2;rw[if_pos (by simpa using h2)]
 unfold placed at h2;simp only[jV,decide_eq_true_eq] at h2;obtain⟨⟨h3,h4⟩,h5⟩:=h2;have h23:¬(c.pts.length<2∨4<c.pts.length):=by omega
 have hi':¬V8 m.pts.length none c.pts=false:=by rw[h5]; decide
 have hh:=WY h5;simp -implicitDefEqProofs only[BC,BA,BO,A8,DT,AY,AO,AQ,AL,BD,AX,AC,AA,AZ,BX,BQ,CB,BU,AB,jD,jE,jF,↓reduceIte,jA,jB,jT,jC,enP,ldM t.gm,ldC t.gc];refine(XD G m c _ hh hf (by omega)).use ?_;simp -implicitDefEqProofs only[AY,BL,BV,CO,AO,AQ,AL,BD,AX,AC,AA,AZ,AU,BH,BG,BR,AB,FV,↓reduceIte,jB,jC,enP];refine IL (fun ha=>?_) (fun ha=>?_)
 .simp -implicitDefEqProofs only[BC,BA,BK,BI,A8,CP,CG,DI,AY,BB,BL,BV,CO,F7,AO,AQ,AL,BD,AX,AC,AA,EX,AZ,AU,BH,BM,A7,CQ,DY,↓reduceIte,jA,jB,jC,ha]
  exact⟨by unfold IJ; rw[if_neg h1',if_neg h23,if_neg hi',if_pos (.inl (by simp at ha; omega))],t.hx⟩
 simp -implicitDefEqProofs only[BI,A8,AY,BB,BL,BV,CO,ES,AO,AQ,AL,BD,AX,AC,AA,AZ,AU,BH,BM,CQ,DX,BQ,BR,BJ,D7,AB,FV,↓reduceIte,jA,jG,jB,jC,enP,XI,U5,ha,t.l2,jI];refine CU (fun hb=>?_) (fun hb=>?_)
 .simp -implicitDefEqProofs only[BC,BA,BK,A8,CP,CG,AY,BB,AO,AQ,AL,BD,AX,AC,AA,AU,BH,A7,↓reduceIte,jB,jC]
  exact⟨by unfold IJ; rw[if_neg h1',if_neg h23,if_neg hi',if_pos (.inr (by simp at hb; omega))],t.hx⟩
 have hab:¬(256<GL (szs m c.pts)∨256<c.excl.length):=by simp at ha hb; omega
 have hce:IJ m c=if(c.excl.any fun x => !MQ (szs m c.pts) x.l) then 1 else 0:=by
  unfold IJ; rw[if_neg h1',if_neg h23,if_neg hi',if_neg hab]
 simp -implicitDefEqProofs only[BC,BP,BA,BO,A8,AY,BB,AO,AQ,AL,BD,AX,AC,AU,BH,A7,jB,jC];refine DK (fun n F H'=>∃k,n+k=c.excl.length∧F 2=.ptr h.length 0 0∧F 3=.ptr cb 0 0∧F 5=.int .i64 (k:Nat)∧H'=H∧(c.excl.any fun x => !MQ (szs m c.pts) x.l)=((c.excl.drop k).any fun x => !MQ (szs m c.pts) x.l)) c.excl.length ⟨0,by simp,by simp -implicitDefEqProofs only[AA,↓reduceIte,jA],by simp -implicitDefEqProofs only[AA,↓reduceIte,jA],by simp -implicitDefEqProofs only[AA,↓reduceIte]; rfl,rfl,rfl⟩ ?_;rintro n F H' ⟨k,hk,f2,f3,f5,rfl,hi⟩;simp -implicitDefEqProofs only[BC,BA,BI,A8,AY,BB,AO,AQ,AL,BD,AX,AC,AA,AZ,BG,BQ,BR,BJ,D7,AB,DC,↓reduceIte,jA,jG,jB,jC,enP,XI,U5,f3,f5,t.l2,jI];refine CU (fun hlt=>?_) (fun hlt=>?_)
 .have hk':k<c.excl.length:=by simpa using hlt
  have hs:=LD (fun x:Is => !MQ (szs m c.pts) x.l) c.excl k hk';simp -implicitDefEqProofs only[BC,BP,BO,A8];refine EZ (by kernel_rfl) ?_;simp -implicitDefEqProofs only[FZ,ED,DN,EF,FO,FB,AC2,D9,EE,GH,F8,AO,AA,AZ,BX,BQ,IE,BJ,CE,AB,jD,jE,jF,↓reduceIte,jA,jK,jG,jB,enP,N7,U5,f2,f3,f5,ldM t.gm,ldC t.gc,t.l2,DU hk',DF KC hk',NE];refine⟨_,ACD G m c c.excl[k] _ hh (by omega),?_⟩
  try simp -implicitDefEqProofs only[DN,E8,BI,A8,AA,AZ,AB,FK,↓reduceIte]
  cases hx:MQ (szs m c.pts) c.excl[k].l
  .simp -implicitDefEqProofs only[BC,BA,BK,A8,CP,EG,FQ,CG,DI,AY,BB,AO,AQ,AL,BD,AX,AC,AA,AU,BH,A7,↓reduceIte,jB,jC]
   exact⟨by rw[hce,hi,hs,hx]; rfl,t.hx⟩
  .simp -implicitDefEqProofs only[BA,BO,A8,EJ,EQ,DT,AY,BB,AO,AQ,AL,BD,AX,AC,AA,AZ,AU,BH,BG,A7,BR,AB,CZ,↓reduceIte,jA,jB,jT,jC,enP,f5,wrap_succ (show k<9223372036854775807 by omega)]
   refine⟨n-1,by omega,k+1,by omega,f2,f3,rfl,trivial,?_⟩;rw[hi,hs,hx]; rfl
 .have hk':¬k<c.excl.length:=by simpa using hlt
  simp -implicitDefEqProofs only[BC,BA,BK,DJ,A8,EI,EW,ET,CG,AY,BB,AO,AQ,AL,BD,AX,AC,AA,AU,BH,A7,↓reduceIte,jB,jC];exact⟨by rw[hce,hi,jW (by omega)]; rfl,t.hx⟩
structure MoOk (m:Mo):Prop where
 np:m.pts.length<=1048576
 nc:m.crs.length<=1048576
 pts:∀p∈m.pts,PtOk p
 crs:∀c∈m.crs,CrOk c
def EU (m:Mo):Int :=
 if 16<m.pts.length+m.crs.length then 2 else if JX GZ m.pts≠0 then JX GZ m.pts else if O8 (m.pts.map (·.name)) then 8 else
  if JX (IJ m) m.crs≠0 then JX (IJ m) m.crs else if O8 (m.crs.map (·.name)) then 8 else 0
theorem ZE {α:Type}(f:α->Int):∀ {xs:List α},JX f xs=0->∀x∈xs,f x=0
 | [],_,_,hx=>by cases hx
 | y::ys,h,x,hx=>by
   simp only[JX] at h;split at h
   .rename_i h0
    cases qR.1 hx with
    | inl e=>subst e; exact h0
    | inr e=>exact ZE f h x e
   .rename_i h0; exact absurd h h0
theorem AJ5 {p:Pt}(h:GZ p=0):1<=p.bins.length∧p.bins.length<=64:=by
 unfold GZ at h;split at h
 .cases h
 .split at h
  .rename_i h2; exact absurd h h2
  .split at h
   .cases h
   .split at h
    .cases h
    .omega
theorem full_of {m:Mo}(h:JX GZ m.pts=0):Full m:=fun p hp=>AJ5 (ZE _ h p hp)
theorem AR4 (h:Hp):KJ Tryz.prog h 56=some (.ptr h.length 0 0,h++[.live 6 [[.str ⟨#[]⟩,.int .i64 0,.int .i64 0,.str ⟨#[]⟩,.sl .nil 0 [],.sl .nil 0 []]]]):=J8 (row:=[.str ⟨#[]⟩,.int .i64 0,.int .i64 0,.str ⟨#[]⟩,.sl .nil 0 [],.sl .nil 0 []]) (by kernel_rfl)
theorem AQB (h:Hp)(p:Pt)(row:List AV)(hr:row.length=6):FW Tryz.prog (h++[.live 6 [row]]) 56 (.ptr h.length 0 0) (.agg (GM p))=some (h++[.live 6 [GM p]]):=by
 rw[MV (TW (AGM p)) (by rw[JR]; exact YW) (by rw[JR,hr]; exact jM _)];have:splice row 0 (GM p)=GM p:=by unfold splice; simp [JR,hr]
 rw[this]
theorem ldP {h:Hp}{b:Nat}{p:Pt}(hb:h[b]?=some (.live 6 [GM p])):EH Tryz.prog h 56 (.ptr b 0 0)=some (.agg (GM p)):=by
 rw[JY ACG YW hb rfl (by rw[JR]; exact jM 6),qC,jX (by rw[JR]; exact jM 6)]
theorem AR3 (h:Hp):KJ Tryz.prog h 71=some (.ptr h.length 0 0,h++[.live 3 [[.str ⟨#[]⟩,.sl .nil 0 [],.sl .nil 0 []]]]):=J8 (row:=[.str ⟨#[]⟩,.sl .nil 0 [],.sl .nil 0 []]) (by kernel_rfl)
theorem AQA (h:Hp)(c:Cr)(row:List AV)(hr:row.length=3):FW Tryz.prog (h++[.live 3 [row]]) 71 (.ptr h.length 0 0) (.agg (GG c))=some (h++[.live 3 [GG c]]):=by
 rw[MV (TW rfl) (by rw[J7]; exact XH) (by rw[J7,hr]; exact jM _)];have:splice row 0 (GG c)=GG c:=by unfold splice; simp [J7,hr]
 rw[this]
theorem RP (G:Nat->AV)(hG:GOk G)(m:Mo)(hm:MoOk m)(h:Hp):PCall (En G) 68 [.agg (D6 m)] h (.int .i64 (EU m)):=by
 refine ACalls.pure0 rfl ?_;have hm1:=hm.np;have hm2:=hm.nc;refine acN Tryz.func68 rfl ?_;show awp _ _ _ _ _ (EN _ [.tmp 2] _);have hw:IntKind.i64.wrap ((m.pts.length:Int)+(m.crs.length:Int))=(m.pts.length:Int)+(m.crs.length:Int):=wrap_i64 (by omega) (by omega);simp -implicitDefEqProofs only[BC,BA,BI,A8,AY,BB,AO,AQ,AL,BD,AX,AC,AA,AZ,AU,BH,A7,FU,BQ,BR,BJ,D7,BZ,AB,CZ,FV,BF,↓reduceIte,jA,jL,jG,jB,jC,enP,QS,VL,IR,J4,bxM,DL WN,DL AA5,QA,UI,jI,hw];refine CU (fun h1=>?_) (fun h1=>?_)
 .simp -implicitDefEqProofs only[BC,BA,BK,A8,CP,CG,AY,BB,AO,AQ,AL,BD,AX,AC,AA,AU,BH,A7,↓reduceIte,jB,jC]
  exact⟨by unfold EU; rw[if_pos (by simp at h1; omega)],_,rfl⟩
 have h1':¬16<m.pts.length+m.crs.length:=by simp at h1; omega
 have hme:EU m=if JX GZ m.pts≠0 then JX GZ m.pts else if O8 (m.pts.map (·.name)) then 8 else if JX (IJ m) m.crs≠0 then JX (IJ m) m.crs else if O8 (m.crs.map (·.name)) then 8 else 0:=by
  unfold EU; rw[if_neg h1']
 have lm0:∀H:Hp,H[h.length]?=some (.live 2 [D6 m])->EH Tryz.prog H 22 (.ptr h.length 0 0)=some (.sl m.pm 6 (m.pts.map GM)):=fun H hH=>by rw[DW WN hH (row:=D6 m) rfl,QA]
 have lm1:∀H:Hp,H[h.length]?=some (.live 2 [D6 m])->EH Tryz.prog H 23 (.ptr h.length 0 1)=some (.sl m.cm 3 (m.crs.map GG)):=fun H hH=>by rw[DW AA5 hH (row:=D6 m) rfl,UI]
 simp -implicitDefEqProofs only[BC,BP,BA,BO,A8,AY,BB,AO,AQ,AL,BD,AX,AC,AA,AZ,AU,BH,BG,BQ,BJ,D7,AB,↓reduceIte,jA,jL,jB,jC,enP,QS,IR,DL WN,QA,jI];refine GN 0 (fun F H=>F 1=.ptr h.length 0 0∧H[h.length]?=some (.live 2 [D6 m])∧(∃x,H=h++x)∧JX GZ m.pts=0) (fun F H=>F 2=.int .i64 (EU m)∧∃x,H=h++x) ?_ ?_ ?_
 .refine DK (fun n F H=>∃k,n+k=m.pts.length∧F 1=.ptr h.length 0 0∧F 18=.sl m.pm 6 (m.pts.map GM)∧F 19=.int .i64 m.pts.length∧F 20=.int .i64 (k:Nat)∧H[h.length]?=some (.live 2 [D6 m])∧(∃x,H=h++x)∧JX GZ m.pts=JX GZ (m.pts.drop k)) m.pts.length ⟨0,by simp,by simp -implicitDefEqProofs only[AA,↓reduceIte,jA],by simp -implicitDefEqProofs only[AA,↓reduceIte,jA],by simp -implicitDefEqProofs only[AA,↓reduceIte,jA],by simp -implicitDefEqProofs only[AA,↓reduceIte]; rfl,CY _ _,⟨_,rfl⟩,rfl⟩ ?_
  rintro n F H ⟨k,hk,f1,f18,f19,f20,hb,⟨x,hx⟩,hf⟩;simp -implicitDefEqProofs only[BC,BA,BI,A8,AY,BB,AO,AQ,AL,BD,AX,AC,AA,AZ,BR,AB,DC,↓reduceIte,jB,jC,enP,f19,f20];refine CU (fun hc=>?_) (fun hc=>?_)
  .have hk':k<m.pts.length:=by simpa using hc
   have hs:=OO GZ m.pts k hk';simp -implicitDefEqProofs only[BC,BP,BA,BO,A8,AY,BB,AO,AQ,AL,BD,AX,AC,EM,AA,AZ,BX,FD,BQ,D5,CE,CB,BU,BZ,AB,CX,jD,jE,jF,↓reduceIte,jA,jB,jC,enP,SS,jP,f18,f20,DU hk',FM ACG YW JR hk',AR4,AQB _ _ [.str ⟨#[]⟩,.int .i64 0,.int .i64 0,.str ⟨#[]⟩,.sl .nil 0 [],.sl .nil 0 []] rfl,ldP (CY H (.live 6 [GM m.pts[k]]))];refine(ADR G hG m.pts[k] (hm.pts _ (jS hk')) _).use ?_;simp -implicitDefEqProofs only[BC,BA,BI,A8,AY,BB,AO,AQ,AL,BD,AX,AC,AA,AZ,AU,BH,BG,A7,BR,AB,EK,↓reduceIte,jB,jC,enP];refine CU (fun hv=>?_) (fun hv=>?_)
   .simp -implicitDefEqProofs only[BC,BA,BK,A8,CP,EG,NG,FQ,AY,BB,AO,AQ,AL,BD,AX,AC,AA,AZ,BG,A7,↓reduceIte,jA,jB,jC]
    have hv':GZ m.pts[k]≠0:=by simpa using hv
    have:JX GZ m.pts=GZ m.pts[k]:=by rw[hf,hs,if_neg hv']
    exact⟨by rw[hme,this,if_pos hv'],x++_,by rw[hx,zA]⟩
   .have hv':GZ m.pts[k]=0:=by simpa using hv
    simp -implicitDefEqProofs only[BA,BO,A8,EJ,EQ,AY,BB,AO,AQ,AL,BD,AX,AC,AA,AZ,AU,BH,BG,BR,AB,CZ,↓reduceIte,jA,jB,jC,enP,f20,wrap_succ (show k<9223372036854775807 by omega)];exact⟨n-1,by omega,k+1,by omega,f1,f18,f19,rfl,CV hb,⟨x++_,by rw[hx,zA]⟩,by rw[hf,hs,if_pos hv']⟩
  .have hk':¬k<m.pts.length:=by simpa using hc
   simp -implicitDefEqProofs only[DJ,EI,J3,ET,AA,↓reduceIte,jA];exact⟨f1,hb,⟨x,hx⟩,by rw[hf,jW (by omega)]; rfl⟩
 .rintro F H ⟨f1,hb,hx0,hf⟩
  have hfull:=full_of hf;rw[hf,if_neg (fun hh=>hh rfl)] at hme;simp -implicitDefEqProofs only[BC,BA,A8,EW,AY,AO,AQ,AL,BD,AX,AC,AA,AZ,BX,BQ,BJ,CB,BU,AB,jD,jE,jF,↓reduceIte,jL,jB,jC,enP,IR,f1,lm0 _ hb];refine(AQL G m.pts m.pm H (by omega)).use ?_;simp -implicitDefEqProofs only[BI,A8,BB,AC,AA,AZ,↓reduceIte];cases hd:O8 (m.pts.map (·.name))
  case true =>
   simp -implicitDefEqProofs only[BC,BA,BK,A8,CP,CG,DI,AY,BB,AO,AQ,AL,BD,AX,AC,AA,AU,BH,A7,↓reduceIte,jB,jC];exact⟨by rw[hme,hd]; rfl,hx0⟩
  rw[hd] at hme;simp only[jY,if_false] at hme;simp -implicitDefEqProofs only[BC,BP,BA,BO,A8,DT,AY,BB,AO,AQ,AL,BD,AX,AC,AA,AZ,AU,BH,BG,BQ,BJ,D7,AB,↓reduceIte,jA,jG,jB,jC,enP,VL,J4,f1,lm1 _ hb,jI];refine GN 2 (fun F H=>F 1=.ptr h.length 0 0∧H[h.length]?=some (.live 2 [D6 m])∧(∃x,H=h++x)∧JX (IJ m) m.crs=0) (fun F H=>F 2=.int .i64 (EU m)∧∃x,H=h++x) ?_ ?_ ?_
  .refine DK (fun n F H=>∃k,n+k=m.crs.length∧F 1=.ptr h.length 0 0∧F 34=.sl m.cm 3 (m.crs.map GG)∧F 35=.int .i64 m.crs.length∧F 36=.int .i64 (k:Nat)∧H[h.length]?=some (.live 2 [D6 m])∧(∃x,H=h++x)∧JX (IJ m) m.crs=JX (IJ m) (m.crs.drop k)) m.crs.length ⟨0,by simp,by simp -implicitDefEqProofs only[AA,↓reduceIte,jA,f1],by simp -implicitDefEqProofs only[AA,↓reduceIte,jA],by simp -implicitDefEqProofs only[AA,↓reduceIte,jA],by simp -implicitDefEqProofs only[AA,↓reduceIte]; rfl,hb,hx0,rfl⟩ ?_
   clear f1 hb hx0;rintro n F H ⟨k,hk,f1,f34,f35,f36,hb,⟨x,hx⟩,hf⟩;simp -implicitDefEqProofs only[BC,BA,BI,A8,AY,BB,AO,AQ,AL,BD,AX,AC,AA,AZ,BR,AB,DC,↓reduceIte,jB,jC,enP,f35,f36];refine CU (fun hc=>?_) (fun hc=>?_)
   .have hk':k<m.crs.length:=by simpa using hc
    have hs:=OO (IJ m) m.crs k hk';simp -implicitDefEqProofs only[BC,BP,BA,BO,A8,AY,BB,AO,AQ,AL,BD,AX,AC,EM,AA,AZ,BX,FD,BQ,D5,CE,CB,BU,BZ,AB,CX,jD,jE,jF,↓reduceIte,jA,jB,jC,enP,V7,jP,f1,f34,f36,DU hk',FM ZV XH J7 hk',AR3,AQA _ _ [.str ⟨#[]⟩,.sl .nil 0 [],.sl .nil 0 []] rfl,ldC (CY H (.live 3 [GG m.crs[k]])),ldM (CV (x:=.live 3 [GG m.crs[k]]) hb)];refine(ANC G hG m m.crs[k] (hm.crs _ (jS hk')) hfull _).use ?_;simp -implicitDefEqProofs only[BC,BA,BI,A8,AY,BB,AO,AQ,AL,BD,AX,AC,AA,AZ,AU,BH,BG,A7,BR,AB,EK,↓reduceIte,jB,jC,enP];refine CU (fun hv=>?_) (fun hv=>?_)
    .simp -implicitDefEqProofs only[BC,BA,BK,A8,CP,EG,NG,FQ,AY,BB,AO,AQ,AL,BD,AX,AC,AA,AZ,BG,A7,↓reduceIte,jA,jB,jC]
     have hv':IJ m m.crs[k]≠0:=by simpa using hv
     have:JX (IJ m) m.crs=IJ m m.crs[k]:=by rw[hf,hs,if_neg hv']
     exact⟨by rw[hme,this,if_pos hv'],x++_,by rw[hx,zA]⟩
    .have hv':IJ m m.crs[k]=0:=by simpa using hv
     simp -implicitDefEqProofs only[BA,BO,A8,EJ,EQ,AY,BB,AO,AQ,AL,BD,AX,AC,AA,AZ,AU,BH,BG,BR,AB,CZ,↓reduceIte,jA,jB,jC,enP,f36,wrap_succ (show k<9223372036854775807 by omega)];exact⟨n-1,by omega,k+1,by omega,f1,f34,f35,rfl,CV hb,⟨x++_,by rw[hx,zA]⟩,by rw[hf,hs,if_pos hv']⟩
   .have hk':¬k<m.crs.length:=by simpa using hc
    simp -implicitDefEqProofs only[DJ,EI,J3,ET,AA,↓reduceIte,jA];exact⟨f1,hb,⟨x,hx⟩,by rw[hf,jW (by omega)]; rfl⟩
  .rintro F H ⟨f1,hb,hx,hf⟩
   rw[hf,if_neg (fun hh=>hh rfl)] at hme;simp -implicitDefEqProofs only[BC,BA,A8,EW,AY,AO,AQ,AL,BD,AX,AC,AA,AZ,BX,BQ,BJ,CB,BU,AB,jD,jE,jF,↓reduceIte,jG,jB,jC,enP,J4,f1,lm1 _ hb];refine(AQM G m.crs m.cm H (by omega)).use ?_;simp -implicitDefEqProofs only[BI,A8,BB,AC,AA,AZ,↓reduceIte];cases hd:O8 (m.crs.map (·.name))
   .simp -implicitDefEqProofs only[BC,BA,BO,BK,A8,CG,DT,AY,BB,AO,AQ,AL,BD,AX,AC,AA,AU,BH,A7,↓reduceIte,jB,jC]
    exact⟨by rw[hme,hd]; rfl,hx⟩
   .simp -implicitDefEqProofs only[BC,BA,BK,A8,CP,CG,DI,AY,BB,AO,AQ,AL,BD,AX,AC,AA,AU,BH,A7,↓reduceIte,jB,jC]
    exact⟨by rw[hme,hd]; rfl,hx⟩
  .rintro F H ⟨f2,hx⟩
   simp -implicitDefEqProofs only[CP,EG,CG,f2];exact⟨trivial,hx⟩
 .rintro F H ⟨f2,hx⟩
  simp -implicitDefEqProofs only[CP,EG,CG,f2];exact⟨trivial,hx⟩
theorem PM (G:Nat->AV)(m:Mo)(hm:MoOk m)(h:Hp):PCall (En G) 50 [.agg (D6 m)] h (.int .i64 (EU m)):=by
 refine ACalls.pure0 rfl ?_;have hm1:=hm.np;have hm2:=hm.nc;refine acN Tryz.func50 rfl ?_;show awp _ _ _ _ _ (EN _ [.tmp 2] _);have hw:IntKind.i64.wrap ((m.pts.length:Int)+(m.crs.length:Int))=(m.pts.length:Int)+(m.crs.length:Int):=wrap_i64 (by omega) (by omega);have gm:=CY h (.live 2 [D6 m]);have hx:∃x,h++[ABlk.live 2 [D6 m]]=h++x:=⟨_,rfl⟩;simp -implicitDefEqProofs only[BC,BA,A8,AY,BB,AO,AQ,AL,BD,AX,AC,AA,AZ,AU,BH,A7,FU,BQ,BJ,BZ,AB,BF,↓reduceIte,jA,jL,jB,jC,enP,IR,bxM]
 generalize h++[ABlk.live 2 [D6 m]]=H at gm hx|-
 have lm0:EH Tryz.prog H 22 (.ptr h.length 0 0)=some (.sl m.pm 6 (m.pts.map GM)):=by rw[DW WN gm (row:=D6 m) rfl,QA]
 have lm1:EH Tryz.prog H 23 (.ptr h.length 0 1)=some (.sl m.cm 3 (m.crs.map GG)):=by rw[DW AA5 gm (row:=D6 m) rfl,UI]
 simp -implicitDefEqProofs only[BI,A8,AY,BB,AO,AQ,AL,BD,AX,AC,AA,AZ,AU,BH,BQ,BR,BJ,D7,AB,CZ,FV,↓reduceIte,jA,jG,jB,jC,enP,QS,VL,J4,lm0,lm1,jI,hw];refine CU (fun h1=>?_) (fun h1=>?_)
 .simp -implicitDefEqProofs only[BC,BA,BK,A8,CP,CG,AY,BB,AO,AQ,AL,BD,AX,AC,AA,AU,BH,A7,↓reduceIte,jB,jC]
  exact⟨by unfold EU; rw[if_pos (by simp at h1; omega)],hx⟩
 have h1':¬16<m.pts.length+m.crs.length:=by simp at h1; omega
 have hme:EU m=if JX GZ m.pts≠0 then JX GZ m.pts else if O8 (m.pts.map (·.name)) then 8 else if JX (IJ m) m.crs≠0 then JX (IJ m) m.crs else if O8 (m.crs.map (·.name)) then 8 else 0:=by
  unfold EU; rw[if_neg h1']
 simp -implicitDefEqProofs only[BC,BP,BA,BO,A8,AY,BB,AO,AQ,AL,BD,AX,AC,AU,BH,A7,jB,jC];refine GN 0 (fun F H'=>F 1=.ptr h.length 0 0∧H'=H∧JX GZ m.pts=0) (fun F H'=>F 2=.int .i64 (EU m)∧H'=H) ?_ ?_ ?_
 .refine DK (fun n F H'=>∃k,n+k=m.pts.length∧F 1=.ptr h.length 0 0∧F 3=.int .i64 (k:Nat)∧H'=H∧JX GZ m.pts=JX GZ (m.pts.drop k)) m.pts.length ⟨0,by simp,by simp -implicitDefEqProofs only[AA,↓reduceIte,jA],by simp -implicitDefEqProofs only[AA,↓reduceIte]; rfl,rfl,rfl⟩ ?_
  rintro n F H' ⟨k,hk,f1,f3,rfl,hf⟩;simp -implicitDefEqProofs only[BC,BA,BI,A8,AY,BB,AO,AQ,AL,BD,AX,AC,AA,AZ,BG,BQ,BR,BJ,D7,AB,DC,↓reduceIte,jA,jL,jB,jC,enP,QS,IR,f1,f3,lm0,jI];refine CU (fun hc=>?_) (fun hc=>?_)
  .have hk':k<m.pts.length:=by simpa using hc
   have hs:=OO GZ m.pts k hk';simp -implicitDefEqProofs only[BC,BP,BA,BO,A8,AY,AO,AQ,AL,BD,AX,AC,AA,AZ,BX,BG,BQ,BJ,CE,CB,BU,AB,jD,jE,jF,↓reduceIte,jA,jL,jB,jC,enP,SS,IR,f1,f3,lm0,DU hk',FM ACG YW JR hk'];refine(AF6 G m.pts[k] (hm.pts _ (jS hk')) _).use ?_;simp -implicitDefEqProofs only[BC,BA,BI,A8,AY,BB,AO,AQ,AL,BD,AX,AC,AA,AZ,AU,BH,BG,A7,BR,AB,EK,↓reduceIte,jB,jC,enP];refine CU (fun hv=>?_) (fun hv=>?_)
   .simp -implicitDefEqProofs only[BC,BA,BK,A8,CP,EG,NG,FQ,AY,BB,AO,AQ,AL,BD,AX,AC,AA,AZ,BG,A7,↓reduceIte,jA,jB,jC]
    have hv':GZ m.pts[k]≠0:=by simpa using hv
    have:JX GZ m.pts=GZ m.pts[k]:=by rw[hf,hs,if_neg hv']
    exact⟨by rw[hme,this,if_pos hv'],trivial⟩
   .have hv':GZ m.pts[k]=0:=by simpa using hv
    simp -implicitDefEqProofs only[BA,BO,A8,EJ,EQ,AY,BB,AO,AQ,AL,BD,AX,AC,AA,AZ,AU,BH,BG,A7,BR,AB,CZ,↓reduceIte,jA,jB,jC,enP,f3,wrap_succ (show k<9223372036854775807 by omega)];exact⟨n-1,by omega,k+1,by omega,f1,rfl,trivial,by rw[hf,hs,if_pos hv']⟩
  .have hk':¬k<m.pts.length:=by simpa using hc
   simp -implicitDefEqProofs only[DJ,EI,J3,ET,AA,↓reduceIte,jA];exact⟨f1,trivial,by rw[hf,jW (by omega)]; rfl⟩
 .rintro F H' ⟨f1,rfl,hf⟩
  have hfull:=full_of hf;rw[hf,if_neg (fun hh=>hh rfl)] at hme;simp -implicitDefEqProofs only[BC,BP,BA,A8,EW,AY,BB,AO,AQ,AL,BD,AX,AC,AU,BH,A7,↓reduceIte,jB,jC,f1];refine GN 2 (fun F H=>F 1=.ptr h.length 0 0∧H=H'∧O8 (m.pts.map (·.name))=false) (fun F H=>F 2=.int .i64 (EU m)∧H=H') ?_ ?_ ?_
  .generalize hN:m.pts.map (·.name)=N at hme|-
   have hNl:N.length=m.pts.length:=by rw[<-hN]; simp
   have hNi:∀i (hi:i<m.pts.length),N[i]?=some m.pts[i].name:=fun i hi=>by rw[<-hN,zH,jU hi]; rfl
   refine DK (fun n F H=>∃i,n+i=m.pts.length∧F 1=.ptr h.length 0 0∧F 5=.int .i64 (i:Nat)∧H=H'∧O8 N=AFL (N.take i) (N.drop i)) m.pts.length ⟨0,by simp,by simp -implicitDefEqProofs only[AA,↓reduceIte,jA,f1],by simp -implicitDefEqProofs only[AA,↓reduceIte]; rfl,rfl,rfl⟩ ?_;clear f1;rintro n F H' ⟨i,hi,f1,f5,rfl,hd⟩;simp -implicitDefEqProofs only[BC,BA,BI,A8,AY,BB,AO,AQ,AL,BD,AX,AC,AA,AZ,BG,BQ,BR,BJ,D7,AB,DC,↓reduceIte,jA,jL,jB,jC,enP,QS,IR,f1,f5,lm0,jI];refine CU (fun hc=>?_) (fun hc=>?_)
   .have hi':i<m.pts.length:=by simpa using hc
    have hdrop:=Q4 N i (by omega);rw[IQ (hNi i hi')] at hdrop;simp -implicitDefEqProofs only[BC,BP,BA,BO,A8,AY,BB,AO,AQ,AL,BD,AX,AC,AU,BH,A7,jB,jC,f5];refine GN 4 (fun F' H=>F' 1=.ptr h.length 0 0∧F' 5=.int .i64 (i:Nat)∧H=H'∧I4 (N.take i) m.pts[i].name=false) (fun F' H=>F' 2=.int .i64 8∧H=H'∧O8 N=true) ?_ ?_ ?_
    .refine DK (fun n F' H=>∃k,n+k=i∧F' 1=.ptr h.length 0 0∧F' 5=.int .i64 (i:Nat)∧F' 6=.int .i64 (k:Nat)∧H=H'∧I4 (N.take i) m.pts[i].name=I4 ((N.take i).drop k) m.pts[i].name) i ⟨0,by simp,by simp -implicitDefEqProofs only[AA,↓reduceIte,jA,f1],by simp -implicitDefEqProofs only[AA,↓reduceIte,jA,f5],by simp -implicitDefEqProofs only[AA,↓reduceIte]; rfl,rfl,rfl⟩ ?_
     clear f1 f5;rintro n' F H' ⟨k,hk,f1,f5,f6,rfl,hin⟩;simp -implicitDefEqProofs only[BC,BA,BI,A8,AY,BB,AO,AQ,AL,BD,AX,AC,AA,AZ,BG,BR,AB,DC,↓reduceIte,jA,jB,jC,enP,f5,f6];refine CU (fun hc=>?_) (fun hc=>?_)
     .have hk':k<i:=by simpa using hc
      have hk2:k<m.pts.length:=by omega
      have hs:=LD (fun u=>m.pts[i].name.toList==u.toList) (N.take i) k (by rw[zD]; omega)
      have hx:(N.take i)[k]'(by rw[zD]; omega)=m.pts[k].name:=by
       rw[List.getElem_take]; exact IQ (hNi k hk2)
      rw[hx] at hs;simp -implicitDefEqProofs only[BC,BP,BO,A8];refine EZ (by kernel_rfl) ?_;simp -implicitDefEqProofs only[FZ,ED,DN,E8,EF,FO,FB,IY,D9,EE,BI,A8,AO,AA,AZ,BQ,BR,BJ,CE,AB,ML,↓reduceIte,jA,jK,jL,jB,enP,SS,IR,AH8,f1,f5,f6,lm0,DU hi',DU hk2,DF ag9 hi',DF ag9 hk2,APS];refine CU (fun hb=>?_) (fun hb=>?_)
      .simp -implicitDefEqProofs only[BC,BA,BK,A8,CP,EG,NG,FQ,AY,BB,AO,AQ,AL,BD,AX,AC,AA,AU,BH,A7,↓reduceIte,jB,jC]
       have:I4 (N.take i) m.pts[i].name=true:=by
        rw[hin]; unfold I4; rw[hs,BEq.comm,hb]; rfl
       exact⟨trivial,trivial,by rw[hd,hdrop,this]; rfl⟩
      .simp -implicitDefEqProofs only[BA,BO,A8,EJ,EQ,AY,BB,AO,AQ,AL,BD,AX,AC,AA,AZ,AU,BH,BG,A7,BR,AB,CZ,↓reduceIte,jA,jB,jC,enP,f6,wrap_succ (show k<9223372036854775807 by omega)]
       refine⟨n'-1,by omega,k+1,by omega,f1,f5,rfl,trivial,?_⟩;rw[hin]; unfold I4; rw[hs,BEq.comm,hb]; rfl
     .have hk':¬k<i:=by simpa using hc
      simp -implicitDefEqProofs only[DJ,EI,J3,ET,AA,↓reduceIte,jA];refine⟨f1,f5,trivial,?_⟩;rw[hin,jW (by rw[zD]; omega)]; rfl
    .rintro F' H' ⟨g1,g5,rfl,hn⟩
     simp -implicitDefEqProofs only[BA,A8,EJ,EW,EQ,AY,BB,AO,AQ,AL,BD,AX,AC,AA,AZ,AU,BH,BG,A7,BR,AB,CZ,↓reduceIte,jA,jB,jC,enP,g5,wrap_succ (show i<9223372036854775807 by omega)];refine⟨n-1,by omega,i+1,by omega,g1,rfl,trivial,?_⟩;rw[hd,hdrop,hn]; rfl
    .rintro F' H' ⟨g2,rfl,hdd⟩
     simp -implicitDefEqProofs only[CP,EG,NG,FQ,g2];exact⟨by rw[hme,hdd]; rfl,trivial⟩
   .have hi':¬i<m.pts.length:=by simpa using hc
    simp -implicitDefEqProofs only[DJ,EI,J3,ET,AA,↓reduceIte,jA];exact⟨f1,trivial,by rw[hd,jW (by omega)]; rfl⟩
  .clear f1
   rintro F H ⟨f1,rfl,hd⟩;rw[hd] at hme;simp only[jY,if_false] at hme;simp -implicitDefEqProofs only[BC,BP,BA,A8,EW,AY,BB,AO,AQ,AL,BD,AX,AC,AU,BH,A7,↓reduceIte,jB,jC];refine GN 6 (fun F H'=>F 1=.ptr h.length 0 0∧H'=H∧JX (IJ m) m.crs=0) (fun F H'=>F 2=.int .i64 (EU m)∧H'=H) ?_ ?_ ?_
   .refine DK (fun n F H'=>∃k,n+k=m.crs.length∧F 1=.ptr h.length 0 0∧F 7=.int .i64 (k:Nat)∧H'=H∧JX (IJ m) m.crs=JX (IJ m) (m.crs.drop k)) m.crs.length ⟨0,by simp,by simp -implicitDefEqProofs only[AA,↓reduceIte,jA,f1],by simp -implicitDefEqProofs only[AA,↓reduceIte]; rfl,rfl,rfl⟩ ?_
    clear f1;rintro n F H' ⟨k,hk,f1,f7,rfl,hf⟩;simp -implicitDefEqProofs only[BC,BA,BI,A8,AY,BB,AO,AQ,AL,BD,AX,AC,AA,AZ,BG,BQ,BR,BJ,D7,AB,DC,↓reduceIte,jA,jG,jB,jC,enP,VL,J4,f1,f7,lm1,jI];refine CU (fun hc=>?_) (fun hc=>?_)
    .have hk':k<m.crs.length:=by simpa using hc
     have hs:=OO (IJ m) m.crs k hk';simp -implicitDefEqProofs only[BC,BP,BO,A8];refine EZ (by kernel_rfl) ?_;simp -implicitDefEqProofs only[FZ,ED,DN,E8,EF,FO,I7,FB,D9,EE,GH,F8,BC,BA,A8,AY,AO,AQ,AL,BD,AX,AC,AA,AZ,AU,BX,BH,BG,BQ,BR,BJ,CE,AB,jD,jE,jF,↓reduceIte,jA,jK,jG,jB,jC,enP,V7,J4,f1,f7,lm1,ldM gm,DU hk',FM ZV XH J7 hk'];refine⟨_,ARQ G m m.crs[k] (hm.crs _ (jS hk')) hfull _,?_⟩
     try simp -implicitDefEqProofs only[BI,A8,BB,AC,AA,AZ,AB,EK,↓reduceIte]
     refine CU (fun hv=>?_) (fun hv=>?_)
     .simp -implicitDefEqProofs only[BC,BA,BK,A8,CP,EG,NG,FQ,AY,BB,AO,AQ,AL,BD,AX,AC,AA,AZ,BG,A7,↓reduceIte,jA,jB,jC]
      have hv':IJ m m.crs[k]≠0:=by simpa using hv
      have:JX (IJ m) m.crs=IJ m m.crs[k]:=by rw[hf,hs,if_neg hv']
      exact⟨by rw[hme,this,if_pos hv'],trivial⟩
     .have hv':IJ m m.crs[k]=0:=by simpa using hv
      simp -implicitDefEqProofs only[BA,BO,A8,EJ,EQ,AY,BB,AO,AQ,AL,BD,AX,AC,AA,AZ,AU,BH,BG,A7,BR,AB,CZ,↓reduceIte,jA,jB,jC,enP,f7,wrap_succ (show k<9223372036854775807 by omega)];exact⟨n-1,by omega,k+1,by omega,f1,rfl,trivial,by rw[hf,hs,if_pos hv']⟩
    .have hk':¬k<m.crs.length:=by simpa using hc
     simp -implicitDefEqProofs only[DJ,EI,J3,ET,AA,↓reduceIte,jA];exact⟨f1,trivial,by rw[hf,jW (by omega)]; rfl⟩
   .rintro F H' ⟨f1,rfl,hf⟩
    rw[hf,if_neg (fun hh=>hh rfl)] at hme;simp -implicitDefEqProofs only[BC,BP,BA,A8,EW,AY,BB,AO,AQ,AL,BD,AX,AC,AU,BH,A7,↓reduceIte,jB,jC];generalize hN:m.crs.map (·.name)=N at hme;have hNl:N.length=m.crs.length:=by rw[<-hN]; simp
    have hNi:∀i (hi:i<m.crs.length),N[i]?=some m.crs[i].name:=fun i hi=>by rw[<-hN,zH,jU hi]; rfl
    refine DK (fun n F H=>∃i,n+i=m.crs.length∧F 1=.ptr h.length 0 0∧F 9=.int .i64 (i:Nat)∧H=H'∧O8 N=AFL (N.take i) (N.drop i)) m.crs.length ⟨0,by simp,by simp -implicitDefEqProofs only[AA,↓reduceIte,jA,f1],by simp -implicitDefEqProofs only[AA,↓reduceIte]; rfl,rfl,rfl⟩ ?_;clear f1;rintro n F H' ⟨i,hi,f1,f9,rfl,hd⟩;simp -implicitDefEqProofs only[BC,BA,BI,A8,AY,BB,AO,AQ,AL,BD,AX,AC,AA,AZ,BG,BQ,BR,BJ,D7,AB,DC,↓reduceIte,jA,jG,jB,jC,enP,VL,J4,f1,f9,lm1,jI];refine CU (fun hc=>?_) (fun hc=>?_)
    .have hi':i<m.crs.length:=by simpa using hc
     have hdrop:=Q4 N i (by omega);rw[IQ (hNi i hi')] at hdrop;simp -implicitDefEqProofs only[BC,BP,BA,BO,A8,AY,BB,AO,AQ,AL,BD,AX,AC,AU,BH,A7,jB,jC,f9];refine GN 10 (fun F' H=>F' 1=.ptr h.length 0 0∧F' 9=.int .i64 (i:Nat)∧H=H'∧I4 (N.take i) m.crs[i].name=false) (fun F' H=>F' 2=.int .i64 8∧H=H'∧O8 N=true) ?_ ?_ ?_
     .refine DK (fun n F' H=>∃k,n+k=i∧F' 1=.ptr h.length 0 0∧F' 9=.int .i64 (i:Nat)∧F' 10=.int .i64 (k:Nat)∧H=H'∧I4 (N.take i) m.crs[i].name=I4 ((N.take i).drop k) m.crs[i].name) i ⟨0,by simp,by simp -implicitDefEqProofs only[AA,↓reduceIte,jA,f1],by simp -implicitDefEqProofs only[AA,↓reduceIte,jA,f9],by simp -implicitDefEqProofs only[AA,↓reduceIte]; rfl,rfl,rfl⟩ ?_
      clear f1 f9;rintro n' F H' ⟨k,hk,f1,f9,f10,rfl,hin⟩;simp -implicitDefEqProofs only[BC,BA,BI,A8,AY,BB,AO,AQ,AL,BD,AX,AC,AA,AZ,BG,BR,AB,DC,↓reduceIte,jA,jB,jC,enP,f9,f10];refine CU (fun hc=>?_) (fun hc=>?_)
      .have hk':k<i:=by simpa using hc
       have hk2:k<m.crs.length:=by omega
       have hs:=LD (fun u=>m.crs[i].name.toList==u.toList) (N.take i) k (by rw[zD]; omega)
       have hx:(N.take i)[k]'(by rw[zD]; omega)=m.crs[k].name:=by
        rw[List.getElem_take]; exact IQ (hNi k hk2)
       rw[hx] at hs;simp -implicitDefEqProofs only[BC,BP,BO,A8];refine EZ (by kernel_rfl) ?_;simp -implicitDefEqProofs only[FZ,ED,DN,E8,EF,FO,FB,IY,D9,EE,BI,A8,AO,AA,AZ,BQ,BR,BJ,CE,AB,ML,↓reduceIte,jA,jK,jL,jG,jB,enP,V7,J4,AH6,f1,f9,f10,lm1,DU hi',DU hk2,DF ag9 hi',DF ag9 hk2,APU];refine CU (fun hb=>?_) (fun hb=>?_)
       .simp -implicitDefEqProofs only[BC,BA,BK,A8,CP,EG,NG,FQ,AY,BB,AO,AQ,AL,BD,AX,AC,AA,AU,BH,A7,↓reduceIte,jB,jC]
        have:I4 (N.take i) m.crs[i].name=true:=by
         rw[hin]; unfold I4; rw[hs,BEq.comm,hb]; rfl
        exact⟨trivial,trivial,by rw[hd,hdrop,this]; rfl⟩
       .simp -implicitDefEqProofs only[BA,BO,A8,EJ,EQ,AY,BB,AO,AQ,AL,BD,AX,AC,AA,AZ,AU,BH,BG,A7,BR,AB,CZ,↓reduceIte,jA,jB,jC,enP,f10,wrap_succ (show k<9223372036854775807 by omega)]
        refine⟨n'-1,by omega,k+1,by omega,f1,f9,rfl,trivial,?_⟩;rw[hin]; unfold I4; rw[hs,BEq.comm,hb]; rfl
      .have hk':¬k<i:=by simpa using hc
       simp -implicitDefEqProofs only[DJ,EI,J3,ET,AA,↓reduceIte,jA];refine⟨f1,f9,trivial,?_⟩;rw[hin,jW (by rw[zD]; omega)]; rfl
     .rintro F' H' ⟨g1,g9,rfl,hn⟩
      simp -implicitDefEqProofs only[BA,A8,EJ,EW,EQ,AY,BB,AO,AQ,AL,BD,AX,AC,AA,AZ,AU,BH,BG,A7,BR,AB,CZ,↓reduceIte,jA,jB,jC,enP,g9,wrap_succ (show i<9223372036854775807 by omega)];refine⟨n-1,by omega,i+1,by omega,g1,rfl,trivial,?_⟩;rw[hd,hdrop,hn]; rfl
     .rintro F' H' ⟨g2,rfl,hdd⟩
      simp -implicitDefEqProofs only[CP,EG,FQ,CG,g2];exact⟨by rw[hme,hdd]; rfl,hx⟩
    .have hi':¬i<m.crs.length:=by simpa using hc
     simp -implicitDefEqProofs only[BC,BA,BK,DJ,A8,EI,EW,ET,CG,AY,BB,AO,AQ,AL,BD,AX,AC,AA,AU,BH,A7,↓reduceIte,jB,jC];exact⟨by rw[hme,hd,jW (by omega)]; rfl,hx⟩
   .rintro F H' ⟨f2,rfl⟩
    simp -implicitDefEqProofs only[CP,EG,CG,f2];exact⟨trivial,hx⟩
  .rintro F H ⟨f2,rfl⟩
   simp -implicitDefEqProofs only[CP,EG,CG,f2];exact⟨trivial,hx⟩
 .rintro F H' ⟨f2,rfl⟩
  simp -implicitDefEqProofs only[CP,EG,CG,f2];exact⟨trivial,hx⟩
def eqL (a b:List Int):Bool:=decide (a=b)
theorem AEJ {a b:List Int}{k:Nat}(ha:k<a.length)(hb:k<b.length):eqL (a.drop k) (b.drop k)=(decide (a[k]=b[k])&&eqL (a.drop (k+1)) (b.drop (k+1))):=by
 rw[zJ ha,zJ hb];unfold eqL;rw[decide_eq_decide.2 (Iff.of_eq (List.cons.injEq _ _ _ _)),Bool.decide_and]
theorem AEH (G:Nat->AV)(a b:List Int)(s t:SM)(h:Hp)(hl:b.length<=1099511627776):PCall (En G) 188 [.sl s 1 (a.map encI),.sl t 1 (b.map encI)] h (.bool (eqL a b)):=by
 refine acN Tryz.func188 rfl ?_;show awp _ _ _ _ _ (EN _ [.tmp 4] _);simp -implicitDefEqProofs only[BC,BA,BI,A8,AY,BB,AO,AQ,AL,BD,AX,AC,AA,AZ,AU,BM,BG,A7,BR,D7,AB,EK,BF,BN,↓reduceIte,jA,jB,jC,enP,JA,jI];refine CU (fun h1=>?_) (fun h1=>?_)
 .simp -implicitDefEqProofs only[BC,BA,BK,A8,CP,CG,AY,BB,AO,AQ,AL,BD,AX,AC,AA,AU,BM,A7,↓reduceIte,jB,jC]
  have:eqL a b=false:=by
   unfold eqL; rw[decide_eq_false_iff_not]; intro e; subst e; simp at h1
  exact⟨by rw[this],trivial⟩
 have hab:a.length=b.length:=by simp at h1; omega
 simp -implicitDefEqProofs only[BC,BP,BA,BO,A8,AY,BB,AO,AQ,AL,BD,AX,AC,AA,AZ,AU,BH,BG,D7,AB,BF,↓reduceIte,jA,jB,jC,enP,JA,jI];refine DK (fun n F H=>∃k,n+k=a.length∧F 0=.sl s 1 (a.map encI)∧F 1=.sl t 1 (b.map encI)∧F 12=.int .i64 a.length∧F 13=.int .i64 (k:Nat)∧H=h∧eqL a b=eqL (a.drop k) (b.drop k)) a.length ⟨0,by simp,by simp -implicitDefEqProofs only[AA,BF,↓reduceIte,jA],by simp -implicitDefEqProofs only[AA,BF,BN,↓reduceIte,jA],by simp -implicitDefEqProofs only[AA,↓reduceIte,jA],by simp -implicitDefEqProofs only[AA,↓reduceIte]; rfl,rfl,rfl⟩ ?_;rintro n F H ⟨k,hk,f0,f1,f12,f13,rfl,hi⟩;simp -implicitDefEqProofs only[BC,BA,BI,A8,AY,BB,AO,AQ,AL,BD,AX,AC,AA,AZ,BR,AB,DC,↓reduceIte,jB,jC,enP,f12,f13];refine CU (fun hc=>?_) (fun hc=>?_)
 .have hk':k<a.length:=by simpa using hc
  have hkb:k<b.length:=by omega
  rw[AEJ hk' hkb] at hi;simp -implicitDefEqProofs only[BC,BP,BA,BO,A8,AY,BB,AO,AQ,AL,BD,AX,AC,AA,AZ,BG,A7,↓reduceIte,jA,jB,jC,f13];refine EZ (by kernel_rfl) ?_;simp -implicitDefEqProofs only[FZ,ED,DN,E8,EF,FO,FB,IY,EE,BI,A8,AO,AA,AZ,BQ,BR,CE,AB,EK,↓reduceIte,jA,jK,jB,enP,JF,f0,f1,f13,DU hk',DU hkb,DF ag3 hk',DF ag3 hkb,encI0];refine CU (fun hd=>?_) (fun hd=>?_)
  .simp -implicitDefEqProofs only[BC,BA,BK,A8,CP,EG,FQ,CG,AY,BB,AO,AQ,AL,BD,AX,AC,AA,AU,BM,A7,↓reduceIte,jB,jC]
   have:decide (a[k]=b[k])=false:=by simpa using hd
   exact⟨by rw[hi,this]; rfl,trivial⟩
  .simp -implicitDefEqProofs only[BA,BO,A8,EJ,EQ,AY,BB,AO,AQ,AL,BD,AX,AC,AA,AZ,AU,BH,BG,BR,AB,CZ,↓reduceIte,jA,jB,jC,enP,f13,wrap_succ (show k<9223372036854775807 by omega)]
   have:decide (a[k]=b[k])=true:=by simpa using hd
   exact⟨n-1,by omega,k+1,by omega,f0,f1,f12,rfl,trivial,by rw[hi,this]; rfl⟩
 .have hk':¬k<a.length:=by simpa using hc
  simp -implicitDefEqProofs only[BC,BA,BK,DJ,A8,EI,EW,ET,CG,AY,BB,AO,AQ,AL,BD,AX,AC,AA,AU,BM,A7,↓reduceIte,jB,jC];exact⟨by rw[hi,jW (by omega),jW (by omega)]; rfl,trivial⟩
theorem ADI (G:Nat->AV)(a b:List Int)(s t:SM)(h:Hp)(hl:b.length<=1099511627776):PCall (En G) 148 [.sl s 1 (a.map encI),.sl t 1 (b.map encI)] h (.bool (eqL a b)):=by
 refine acN Tryz.func148 rfl ?_;show awp _ _ _ _ _ (EN _ [.tmp 4] _);simp -implicitDefEqProofs only[BC,BA,BI,A8,AY,BB,AO,AQ,AL,BD,AX,AC,AA,AZ,AU,BM,BG,A7,BR,D7,AB,EK,BF,BN,↓reduceIte,jA,jB,jC,enP,JA,jI];refine CU (fun h1=>?_) (fun h1=>?_)
 .simp -implicitDefEqProofs only[BC,BA,BK,A8,CP,CG,AY,BB,AO,AQ,AL,BD,AX,AC,AA,AU,BM,A7,↓reduceIte,jB,jC]
  have:eqL a b=false:=by
   unfold eqL; rw[decide_eq_false_iff_not]; intro e; subst e; simp at h1
  exact⟨by rw[this],trivial⟩
 have hab:a.length=b.length:=by simp at h1; omega
 simp -implicitDefEqProofs only[BC,BP,BA,BO,A8,AY,BB,AO,AQ,AL,BD,AX,AC,AU,BH,A7,jB,jC];refine DK (fun n F H=>∃k,n+k=a.length∧F 0=.sl s 1 (a.map encI)∧F 1=.sl t 1 (b.map encI)∧F 5=.int .i64 (k:Nat)∧H=h∧eqL a b=eqL (a.drop k) (b.drop k)) a.length ⟨0,by simp,by simp -implicitDefEqProofs only[AA,BF,↓reduceIte,jA],by simp -implicitDefEqProofs only[AA,BF,BN,↓reduceIte,jA],by simp -implicitDefEqProofs only[AA,↓reduceIte]; rfl,rfl,rfl⟩ ?_;rintro n F H ⟨k,hk,f0,f1,f5,rfl,hi⟩;simp -implicitDefEqProofs only[BC,BA,BI,A8,AY,BB,AO,AQ,AL,BD,AX,AC,AA,AZ,BG,BR,D7,AB,DC,↓reduceIte,jA,jB,jC,enP,JA,f0,f5,jI];refine CU (fun hc=>?_) (fun hc=>?_)
 .have hk':k<a.length:=by simpa using hc
  have hkb:k<b.length:=by omega
  rw[AEJ hk' hkb] at hi;simp -implicitDefEqProofs only[BC,BP,BO,A8];refine EZ (by kernel_rfl) ?_;simp -implicitDefEqProofs only[FZ,ED,DN,E8,EF,FO,FB,IY,EE,BI,A8,AO,AA,AZ,BQ,BR,CE,AB,EK,↓reduceIte,jA,jK,jB,enP,JF,f0,f1,f5,DU hk',DU hkb,DF ag3 hk',DF ag3 hkb,encI0];refine CU (fun hd=>?_) (fun hd=>?_)
  .simp -implicitDefEqProofs only[BC,BA,BK,A8,CP,EG,FQ,CG,AY,BB,AO,AQ,AL,BD,AX,AC,AA,AU,BM,A7,↓reduceIte,jB,jC]
   have:decide (a[k]=b[k])=false:=by simpa using hd
   exact⟨by rw[hi,this]; rfl,trivial⟩
  .simp -implicitDefEqProofs only[BA,BO,A8,EJ,EQ,AY,BB,AO,AQ,AL,BD,AX,AC,AA,AZ,AU,BH,BG,A7,BR,AB,CZ,↓reduceIte,jA,jB,jC,enP,f5,wrap_succ (show k<9223372036854775807 by omega)]
   have:decide (a[k]=b[k])=true:=by simpa using hd
   exact⟨n-1,by omega,k+1,by omega,f0,f1,rfl,trivial,by rw[hi,this]; rfl⟩
 .have hk':¬k<a.length:=by simpa using hc
  simp -implicitDefEqProofs only[BC,BA,BK,DJ,A8,EI,EW,ET,CG,AY,BB,AO,AQ,AL,BD,AX,AC,AA,AU,BM,A7,↓reduceIte,jB,jC];exact⟨by rw[hi,jW (by omega),jW (by omega)]; rfl,trivial⟩
def II (n:Int):Bool:=decide (0<=n)&&decide (n<=1099511627776)
def countB (n:Int)(may:Bool):Bool:=II n&&(may||n==0)
theorem UY (G:Nat->AV)(n:Int)(h:Hp):PCall (En G) 88 [.int .i64 n] h (.bool (II n)):=by
 refine acN Tryz.func88 rfl ?_;show awp _ _ _ _ _ (EN _ [.tmp 2] _);simp -implicitDefEqProofs only[BC,BA,A8,AY,BB,BL,BV,CO,AO,AQ,AL,BD,AX,AC,AA,AZ,AU,BH,BM,BG,A7,BR,AB,G5,BF,↓reduceIte,jA,jB,jC,enP];cases ha:decide (n≥0)
 all_goals
  simp -implicitDefEqProofs only[BK,A8,CG,AY,BB,BL,BV,CO,F9,IX,AO,AQ,AL,BD,AX,AC,AA,EX,AZ,AU,BH,BM,BG,A7,CQ,DY,DX,BR,AB,JC,BF,↓reduceIte,jA,jB,jC,enP,ha];exact⟨by unfold II; rw[show decide (0<=n)=decide (n≥0) from rfl,ha]; rfl,trivial⟩
theorem U7 (G:Nat->AV)(n:Int)(may:Bool)(h:Hp):PCall (En G) 126 [.int .i64 n,.bool may] h (.bool (countB n may)):=by
 refine acN Tryz.func126 rfl ?_;show awp _ _ _ _ _ (EN _ [.tmp 4] _);simp -implicitDefEqProofs only[BC,BA,A8,AY,BB,BL,BV,CO,AO,AQ,AL,BD,AX,AC,AA,AZ,AU,BH,BM,BG,A7,BR,AB,G5,BF,↓reduceIte,jA,jB,jC,enP];cases ha:decide (n≥0)<;>cases hb:decide (n<=1099511627776)<;>cases may
 all_goals
  simp -implicitDefEqProofs only[BK,A8,CG,AY,BB,BL,BV,CO,F9,ES,IX,F7,SI,AO,AQ,AL,BD,AX,AC,AA,EX,AZ,AU,BH,BM,BG,A7,CQ,DY,DX,BR,AB,EC,JC,BF,BN,↓reduceIte,jA,jB,jC,enP,ha,hb];exact⟨by unfold countB II; rw[show decide (0<=n)=decide (n≥0) from rfl,ha,hb]; rfl,trivial⟩
theorem ABW (G:Nat->AV)(b:Bin)(h:Hp):PCall (En G) 179 [.agg (GV b)] h (.bool (b.kind==0)):=by
 refine ACalls.pure0 rfl ?_;refine acN Tryz.func179 rfl ?_;show awp _ _ _ _ _ (EN _ [.tmp 2] _);simp -implicitDefEqProofs only[BC,BA,BK,A8,CG,AY,BB,AO,AQ,AL,BD,AX,AC,AA,AZ,AU,BH,BM,A7,FU,BQ,BR,BJ,BZ,AB,EC,BF,↓reduceIte,jA,jG,jB,jC,enP,MP,bxB,DL ag3,UK];exact⟨trivial,_,rfl⟩
def YC (m:Mo)(p b:Int):Int:=match (JL m p)[b.toNat]? with
 | some x=>x.kind
 | none=>0
def OA (m:Mo):List Int->List Int->Bool
 | p::ps,b::bs=>(YC m p b==0)&&OA m ps bs
 | _,_=>true
def QT (m:Mo)(c:Cr)(l:List Int):Bool:=OA m c.pts l && !(c.excl.any fun x=>eqL x.l l)
theorem ACS {m:Mo}:∀ {ps l:List Int},MQ (szs m ps) l=true->∀(k:Nat) (hk:k<l.length) (hp:k<ps.length),0<=l[k]∧l[k]<((JL m ps[k]).length:Int)
 | p::ps,b::bs,h,k,hk,hp=>by
   simp only[szs,jD,MQ,jV,decide_eq_true_eq] at h
   cases k with
   | zero=>exact h.1
   | succ k=>exact ACS (m:=m) (ps:=ps) h.2 k (by simpa using hk) (by simpa using hp)
 | [],b::bs,h,k,hk,hp=>by simp at hp
 | _,[],h,k,hk,hp=>by simp at hk
theorem V6 (m:Mo)(ps l:List Int)(k:Nat)(hp:k<ps.length)(hk:k<l.length):OA m (ps.drop k) (l.drop k)=((YC m ps[k] l[k]==0)&&OA m (ps.drop (k+1)) (l.drop (k+1))):=by
 rw[zJ hp,zJ hk]; rfl
theorem YB (m:Mo)(ps:List Int):OA m ps []=true:=by cases ps<;>rfl
theorem ANL {m:Mo}{p b:Int}(h0:0<=b)(h1:b<((JL m p).length:Int))(h:Hp)(s:SM):KH 4 h (.sl s 4 ((JL m p).map GV)) (.int .i64 b)=some (.fptr 4 ((JL m p).map GV) b.toNat 0) :=
 AZQ h0 (by rw[jI]; exact h1)
theorem AEY {m:Mo}{p b:Int}(h0:0<=b)(h1:b<((JL m p).length:Int)):((JL m p)[b.toNat]'(by omega)).kind=YC m p b:=by
 unfold YC; rw[jU (by omega)]
theorem AYB (G:Nat->AV)(l:List Int)(s:SM)(b:Nat)(r:Is)(h:Hp)(hb:h[b]?=some (.live 1 [[.sl s 1 (l.map encI)]]))(hl:l.length<=1099511627776) :
  PCall (En G) 221 [.sl r.m 1 (r.l.map encI),.ptr b 0 0] h (.bool (eqL r.l l)):=by
 refine acN Tryz.func221 rfl ?_;show awp _ _ _ _ _ (EN _ [.tmp 3] _);simp -implicitDefEqProofs only[BC,BA,A8,AY,BB,AO,AQ,AL,BD,AX,AC,AA,AZ,AU,BX,BM,BG,A7,BQ,CB,BU,AB,BF,BN,jD,jE,jF,↓reduceIte,jA,jB,jC,enP,JS KC hb];refine(AEH G r.l l r.m s h hl).use ?_;simp -implicitDefEqProofs only[BK,A8,CG,AY,BB,AO,AQ,AL,BD,AX,AC,AA,AZ,A7,↓reduceIte,jB,jC];exact⟨trivial,trivial⟩
theorem Two.app {h H:Hp}{m:Mo}{c:Cr}{cb:Nat}(t:Two h H m c cb)(x:Hp):Two h (H++x) m c cb:=by
 obtain⟨y,hy⟩:=t.hx;exact⟨FX t.gm,FX t.gc,⟨y++x,by rw[hy,zA]⟩⟩
theorem XQ (G:Nat->AV)(m:Mo)(c:Cr)(l:List Int)(s:SM)(h:Hp)(hh:Here m c.pts)(hi:MQ (szs m c.pts) l=true)(hl:c.pts.length<=1048576)(hx:c.excl.length<=1048576):PCall (En G) 169 [.agg (D6 m),.agg (GG c),.sl s 1 (l.map encI)] h (.bool (QT m c l)):=by
 refine ACalls.pure0 rfl ?_;have hlen:l.length=c.pts.length:=by have:=P9 hi; rw[LJ] at this; omega
 refine acN Tryz.func169 rfl ?_;show awp _ _ _ _ _ (EN _ [.tmp 6] _);have t:=(Two.mk' h m c).app [.live 1 [[.sl s 1 (l.map encI)]]];have gl:=CY (h++[ABlk.live 2 [D6 m]]++[ABlk.live 3 [GG c]]) (.live 1 [[.sl s 1 (l.map encI)]]);simp -implicitDefEqProofs only[ANK,BC,BA,A8,AY,BB,AO,AQ,AL,BD,AX,AC,AA,AZ,AU,BM,A7,FU,BQ,BZ,BF,BN,↓reduceIte,jA,jB,jC,enP,bxM,bxC]
 generalize h++[ABlk.live 2 [D6 m]]++[ABlk.live 3 [GG c]]++[ABlk.live 1 [[.sl s 1 (l.map encI)]]]=H at t gl|-
 generalize (h++[ABlk.live 2 [D6 m]]++[ABlk.live 3 [GG c]]).length=lb at gl|-
 generalize (h++[ABlk.live 2 [D6 m]]).length=cb at t|-
 simp -implicitDefEqProofs only[BP,A8,AY,BB,AO,AQ,AL,BD,AX,AC,AA,AZ,AU,BH,BG,D7,AB,↓reduceIte,jB,jC,enP,JA,JS KC gl,jI];have hkb:=V6 m c.pts l;refine GN 0 (fun F H'=>F 4=.ptr cb 0 0∧F 5=.ptr lb 0 0∧H'=H∧OA m c.pts l=true) (fun F H'=>F 6=.bool false∧H'=H∧OA m c.pts l=false) ?_ ?_ ?_
 .refine DK (fun n F H'=>∃k,n+k=l.length∧F 3=.ptr h.length 0 0∧F 4=.ptr cb 0 0∧F 5=.ptr lb 0 0∧F 9=.sl s 1 (l.map encI)∧F 10=.int .i64 l.length∧F 11=.int .i64 (k:Nat)∧H'=H∧OA m c.pts l=OA m (c.pts.drop k) (l.drop k)) l.length ⟨0,by simp,by simp -implicitDefEqProofs only[AA,↓reduceIte,jA],by simp -implicitDefEqProofs only[AA,↓reduceIte,jA],by simp -implicitDefEqProofs only[AA,↓reduceIte,jA],by simp -implicitDefEqProofs only[AA,↓reduceIte,jA],by simp -implicitDefEqProofs only[AA,↓reduceIte,jA],by simp -implicitDefEqProofs only[AA,↓reduceIte]; rfl,rfl,rfl⟩ ?_
  rintro n F H' ⟨k,hk,f3,f4,f5,f9,f10,f11,rfl,hk0⟩;simp -implicitDefEqProofs only[BC,BA,BI,A8,AY,BB,AO,AQ,AL,BD,AX,AC,AA,AZ,BR,AB,DC,↓reduceIte,jB,jC,enP,f10,f11];refine CU (fun hc=>?_) (fun hc=>?_)
  .have hk':k<l.length:=by simpa using hc
   have hkc:k<c.pts.length:=by omega
   rw[hkb k hkc hk'] at hk0;obtain⟨h0,h1⟩:=ACS hi k hk' hkc;obtain⟨s2,ls⟩:=hh.ld hkc H';simp -implicitDefEqProofs only[BC,BP,BA,BO,A8,AY,BB,AO,AQ,AL,BD,AX,AC,AA,AZ,BG,A7,BQ,CE,AB,↓reduceIte,jA,jB,jC,enP,JF,f9,f11,DU hk',DF ag3 hk',encI0];refine EZ (by kernel_rfl) ?_;simp -implicitDefEqProofs only[FZ,ED,DN,EF,FO,FB,AC2,D9,EE,GH,F8,AO,AA,AZ,BX,BQ,IE,BJ,CE,AB,jD,jE,jF,↓reduceIte,jA,jK,jL,jG,jB,enP,SS,IR,YD,JB,JF,KI,f3,f4,f11,t.lm,t.l1,DU hkc,DF ag3 hkc,encI0,hh.ix hkc,ls,ANL h0 h1,FM VF QK MJ (show l[k].toNat<(JL m c.pts[k]).length by omega)];refine⟨_,ABW G _ _,?_⟩
   try simp -implicitDefEqProofs only[DN,E8,BI,A8,AA,AZ,AB,FK,↓reduceIte]
   rw[AEY h0 h1];cases hkd:(YC m c.pts[k] l[k]==0)
   .simp -implicitDefEqProofs only[BC,BA,BK,A8,CP,EG,NG,FQ,DI,AY,BB,AO,AQ,AL,BD,AX,AC,AA,AU,BM,A7,↓reduceIte,jB,jC]
    exact⟨trivial,trivial,by rw[hk0,hkd]; rfl⟩
   .simp -implicitDefEqProofs only[BA,BO,A8,EJ,EQ,DT,AY,BB,AO,AQ,AL,BD,AX,AC,AA,AZ,AU,BH,BG,BR,AB,CZ,↓reduceIte,jA,jB,jT,jC,enP,f11,wrap_succ (show k<9223372036854775807 by omega)]
    exact⟨n-1,by omega,k+1,by omega,f3,f4,f5,f9,f10,rfl,trivial,by rw[hk0,hkd]; rfl⟩
  .have hk':¬k<l.length:=by simpa using hc
   simp -implicitDefEqProofs only[DJ,EI,J3,ET,AA,↓reduceIte,jA];exact⟨f4,f5,trivial,by rw[hk0,jW (show l.length<=k by omega),YB]⟩
 .rintro F H' ⟨f4,f5,rfl,hk⟩
  simp -implicitDefEqProofs only[BC,BA,A8,EW,AY,AO,AQ,AL,BD,AX,AC,AA,AZ,BX,BQ,I8,BJ,CB,BU,AB,jD,jE,jF,↓reduceIte,jA,jG,jB,jC,enP,U5,f4,f5,t.l2];refine(SC G c.excl c.xm 221 _ (fun x=>eqL x.l l) _ (by omega) fun r=>AYB G l s _ r _ gl (by omega)).use ?_;simp -implicitDefEqProofs only[BK,A8,CG,AY,BB,AO,AQ,AL,BD,AX,AC,AA,AZ,A7,IE,AB,FK,↓reduceIte,jB,jC];exact⟨by unfold QT; rw[hk]; rfl,t.hx⟩
 .rintro F H' ⟨f6,rfl,hk⟩
  simp -implicitDefEqProofs only[CP,EG,CG,f6];exact⟨by unfold QT; rw[hk]; rfl,t.hx⟩
theorem AEO (G:Nat->AV)(m:Mo)(c:Cr)(l:List Int)(s:SM)(h:Hp)(hh:Here m c.pts)(hi:MQ (szs m c.pts) l=true)(hl:c.pts.length<=1048576)(hx:c.excl.length<=1048576):PCall (En G) 90 [.agg (D6 m),.agg (GG c),.sl s 1 (l.map encI)] h (.bool (QT m c l)):=by
 refine ACalls.pure0 rfl ?_;have hlen:l.length=c.pts.length:=by have:=P9 hi; rw[LJ] at this; omega
 refine acN Tryz.func90 rfl ?_;show awp _ _ _ _ _ (EN _ [.tmp 6] _);have t:=Two.mk' h m c;simp -implicitDefEqProofs only[BC,BP,BA,A8,AY,BB,AO,AQ,AL,BD,AX,AC,AA,AZ,AU,BH,BM,A7,FU,BZ,BF,BN,↓reduceIte,jA,jB,jC,enP,bxM,bxC]
 generalize h++[ABlk.live 2 [D6 m]]++[ABlk.live 3 [GG c]]=H at t|-
 generalize (h++[ABlk.live 2 [D6 m]]).length=cb at t|-
 have hkb:=V6 m c.pts l;refine GN 0 (fun F H'=>F 2=.sl s 1 (l.map encI)∧F 3=.ptr h.length 0 0∧F 4=.ptr cb 0 0∧H'=H∧(c.excl.any fun x=>eqL x.l l)=false) (fun F H'=>F 6=.bool false∧H'=H∧(c.excl.any fun x=>eqL x.l l)=true) ?_ ?_ ?_
 .refine DK (fun n F H'=>∃k,n+k=c.excl.length∧F 2=.sl s 1 (l.map encI)∧F 3=.ptr h.length 0 0∧F 4=.ptr cb 0 0∧F 7=.int .i64 (k:Nat)∧H'=H∧(c.excl.any fun x=>eqL x.l l)=((c.excl.drop k).any fun x=>eqL x.l l)) c.excl.length ⟨0,by simp,by simp -implicitDefEqProofs only[AA,BF,BN,↓reduceIte,jA],by simp -implicitDefEqProofs only[AA,↓reduceIte,jA],by simp -implicitDefEqProofs only[AA,↓reduceIte,jA],by simp -implicitDefEqProofs only[AA,↓reduceIte]; rfl,rfl,rfl⟩ ?_
  rintro n F H' ⟨k,hk,f2,f3,f4,f7,rfl,ha⟩;simp -implicitDefEqProofs only[BC,BA,BI,A8,AY,BB,AO,AQ,AL,BD,AX,AC,AA,AZ,BG,BQ,BR,BJ,D7,AB,DC,↓reduceIte,jA,jG,jB,jC,enP,XI,U5,f4,f7,t.l2,jI];refine CU (fun hc=>?_) (fun hc=>?_)
  .have hk':k<c.excl.length:=by simpa using hc
   have hs:=LD (fun x:Is=>eqL x.l l) c.excl k hk';simp -implicitDefEqProofs only[BC,BP,BA,BO,A8,AY,AO,AQ,AL,BD,AX,AC,AA,AZ,BX,BG,BQ,BJ,CE,CB,BU,AB,jD,jE,jF,↓reduceIte,jA,jG,jB,jC,enP,N7,U5,f2,f4,f7,t.l2,DU hk',DF KC hk',NE];refine(ADI G c.excl[k].l l _ s _ (by omega)).use ?_;simp -implicitDefEqProofs only[BI,A8,BB,AC,AA,AZ,↓reduceIte];cases he:eqL c.excl[k].l l
   .simp -implicitDefEqProofs only[BA,BO,A8,EJ,EQ,DT,AY,BB,AO,AQ,AL,BD,AX,AC,AA,AZ,AU,BH,BG,A7,BR,AB,CZ,↓reduceIte,jA,jB,jC,enP,f7,wrap_succ (show k<9223372036854775807 by omega)]
    exact⟨n-1,by omega,k+1,by omega,f2,f3,f4,rfl,trivial,by rw[ha,hs,he]; rfl⟩
   .simp -implicitDefEqProofs only[BC,BA,BK,A8,CP,EG,NG,FQ,DI,AY,BB,AO,AQ,AL,BD,AX,AC,AA,AU,BM,A7,↓reduceIte,jB,jC]
    exact⟨trivial,trivial,by rw[ha,hs,he]; rfl⟩
  .have hk':¬k<c.excl.length:=by simpa using hc
   simp -implicitDefEqProofs only[DJ,EI,J3,ET,AA,↓reduceIte,jA];exact⟨f2,f3,f4,trivial,by rw[ha,jW (by omega)]; rfl⟩
 .rintro F H' ⟨f2,f3,f4,rfl,ha⟩
  have hhb:QT m c l=OA m c.pts l:=by unfold QT; rw[ha]; simp
  rw[hhb];simp -implicitDefEqProofs only[BC,BP,BA,A8,EW,AY,BB,AO,AQ,AL,BD,AX,AC,AU,BH,A7,↓reduceIte,jB,jC];refine DK (fun n F H=>∃k,n+k=l.length∧F 2=.sl s 1 (l.map encI)∧F 3=.ptr h.length 0 0∧F 4=.ptr cb 0 0∧F 8=.int .i64 (k:Nat)∧H=H'∧OA m c.pts l=OA m (c.pts.drop k) (l.drop k)) l.length ⟨0,by simp,by simp -implicitDefEqProofs only[AA,↓reduceIte,jA,f2],by simp -implicitDefEqProofs only[AA,↓reduceIte,jA,f3],by simp -implicitDefEqProofs only[AA,↓reduceIte,jA,f4],by simp -implicitDefEqProofs only[AA,↓reduceIte]; rfl,rfl,rfl⟩ ?_;clear f2 f3 f4;rintro n F H' ⟨k,hk,f2,f3,f4,f8,rfl,hk0⟩;simp -implicitDefEqProofs only[BC,BA,BI,A8,AY,BB,AO,AQ,AL,BD,AX,AC,AA,AZ,BG,BR,D7,AB,DC,↓reduceIte,jA,jB,jC,enP,JA,f2,f8,jI];refine CU (fun hc=>?_) (fun hc=>?_)
  .have hk':k<l.length:=by simpa using hc
   have hkc:k<c.pts.length:=by omega
   rw[hkb k hkc hk'] at hk0;obtain⟨h0,h1⟩:=ACS hi k hk' hkc;obtain⟨s2,ls⟩:=hh.ld hkc H';have hlt:l[k].toNat<(JL m c.pts[k]).length:=by omega
   simp -implicitDefEqProofs only[BC,BP,BO,A8];refine EZ (by kernel_rfl) ?_;simp -implicitDefEqProofs only[FZ,ED,DN,E8,EF,FO,FB,IY,D9,EE,BI,A8,AO,AA,AZ,AU,BH,BQ,BR,BJ,CE,AB,EK,↓reduceIte,jA,jK,jL,jG,jB,enP,SS,IR,YD,JB,JF,KI,MP,bne,f2,f3,f4,f8,t.lm,t.l1,DU hkc,DF ag3 hkc,DU hk',DF ag3 hk',encI0,hh.ix hkc,ls,ANL h0 h1,DF ag3 hlt,UK,AEY h0 h1];cases hkd:(YC m c.pts[k] l[k]==0)
   .simp -implicitDefEqProofs only[BC,BA,BK,A8,CP,EG,FQ,CG,DI,AY,BB,AO,AQ,AL,BD,AX,AC,AA,AU,BM,A7,↓reduceIte,jB,jC]
    exact⟨by rw[hk0,hkd]; rfl,t.hx⟩
   .simp -implicitDefEqProofs only[BA,BO,A8,EJ,EQ,DT,AY,BB,AO,AQ,AL,BD,AX,AC,AA,AZ,AU,BH,BG,A7,BR,AB,CZ,↓reduceIte,jA,jB,jT,jC,enP,f8,wrap_succ (show k<9223372036854775807 by omega)]
    exact⟨n-1,by omega,k+1,by omega,f2,f3,f4,rfl,trivial,by rw[hk0,hkd]; rfl⟩
  .have hk':¬k<l.length:=by simpa using hc
   simp -implicitDefEqProofs only[BC,BA,BK,DJ,A8,EI,EW,ET,CG,AY,BB,AO,AQ,AL,BD,AX,AC,AA,AU,BM,A7,↓reduceIte,jB,jC];exact⟨by rw[hk0,jW (show l.length<=k by omega),YB],t.hx⟩
 .rintro F H' ⟨f6,rfl,ha⟩
  simp -implicitDefEqProofs only[CP,EG,CG,f6];exact⟨by unfold QT; rw[ha]; simp,t.hx⟩
theorem AII (xs:List Nat):xs.map IG=(xs.map fun n:Nat=>(n:Int)).map encI:=by
 rw[List.map_map]; rfl
def tupF:List Nat->Nat->List Nat×Nat
 | [],k=>([],k)
 | n::ns,k=>(((tupF ns k).2%n)::(tupF ns k).1,(tupF ns k).2/n)
def NF (ns:List Nat)(k:Nat):List Int:=(tupF ns k).1.map fun n:Nat=>(n:Int)
theorem P6:∀(ns:List Nat) (k:Nat),(tupF ns k).1.length=ns.length
 | [],_=>rfl
 | n::ns,k=>by simp [tupF,P6 ns k]
theorem AHC:∀(ns:List Nat) (k:Nat),(tupF ns k).2<=k
 | [],_=>jM _
 | _::ns,k=>zZ (Nat.div_le_self _ _) (AHC ns k)
theorem UA:∀(ns:List Nat) (k:Nat),(∀n∈ns,1<=n)->MQ ns (NF ns k)=true
 | [],_,_=>rfl
 | n::ns,k,h=>by
   have h1:=h n (by simp);have ih:=UA ns k (fun x hx=>h x (by simp [hx]));have h2:(tupF ns k).2%n<n:=Nat.mod_lt _ (by omega);show MQ (n::ns) (((tupF ns k).2%n:Nat)::NF ns k)=true;unfold MQ;rw[ih];simp; omega
theorem tup_step {ns:List Nat}{K j:Nat}(hj:j<ns.length):tupF (ns.drop j) K=(((tupF (ns.drop (j+1)) K).2%ns[j])::(tupF (ns.drop (j+1)) K).1,(tupF (ns.drop (j+1)) K).2/ns[j]):=by
 rw[zJ hj]; rfl
theorem AJL {α:Type}{f:α->List AV}{pre out:List α}{j:Nat}{x:α}(hj:j<pre.length):((pre.take (j+1)++out).map f).set j (f x)=(pre.take j++x::out).map f:=by
 rw[zL hj,zA];simp only[List.map_append,jD,jE,List.singleton_append];rw[List.set_append_right _ _ (by simp; omega)];simp [Nat.min_eq_left (Nat.le_of_lt hj)]
theorem A0W (h:Hp)(n:Nat)(hn:n<=1048576):I9 Tryz.prog true h 57 (.int .i64 (n:Int)) (.int .i64 (n:Int))=some (.own h.length 0 n,h++[.live 1 ((jZ n 0).map IG)]):=by
 have hz:NV Tryz.prog 3=some [.int .i64 0]:=by kernel_rfl
 have hr:room n 8:=JW (by omega) (by omega);unfold I9;simp only[TN,sz3,VN,hz,Int.toNat_natCast];rw[if_pos ⟨by omega,Int.le_refl _,hr,rfl⟩];simp [IG]
theorem ASW {h:Hp}{o j:Nat}{rows:List (List AV)}{x:Nat}(ho:h[o]?=some (.live 1 rows))(hj:∃v,rows[j]?=some [v]):FW Tryz.prog h 3 (.ptr o j 0) (.int .i64 (x:Int))=some (h.set o (.live 1 (rows.set j (IG x)))):=by
 obtain⟨v,hv⟩:=hj;rw[KU (PV _ _) sz3 ho hv (by simp)]; rfl
theorem AHH (a b:Nat)(hb:0<b):JG Tryz.prog 3 .rem (.int .i64 (a:Int)) (.int .i64 (b:Int))=some (.int .i64 ((a%b:Nat):Int)):=by
 rw[AC0 _ _ _ _ _ (by omega),Int.tmod_eq_emod_of_nonneg (by omega)]; rfl
theorem ACO (a b:Nat)(hb:0<b)(ha:a<=9223372036854775807):JG Tryz.prog 3 .quo (.int .i64 (a:Int)) (.int .i64 (b:Int))=some (.int .i64 ((a/b:Nat):Int)):=by
 have h1:((a:Int).tdiv (b:Int))=((a/b:Nat):Int):=by rw[Int.tdiv_eq_ediv_of_nonneg (by omega)]; rfl
 have h2:=Nat.div_le_self a b;rw[AYV _ _ _ _ _ (by omega),h1,MF (by omega)]
theorem AFV (G:Nat->AV)(m:Mo)(c:Cr)(K:Nat)(h:Hp)(hh:Here m c.pts)(hf:Full m)(h0:0<c.pts.length)(hl:c.pts.length<=1048576)(hK:K<=1048576):PCall (En G) 91 [.agg (D6 m),.agg (GG c),.int .i64 (K:Int)] h (.sl .any 1 ((NF (szs m c.pts) K).map encI)):=by
 have hs:=hf.szs hh;have hsl:=LJ m c.pts
 have hgo:ACalls (En G) 91 [.agg (D6 m),.agg (GG c),.int .i64 (K:Int)] h fun v H=>ext h H∧outG 1 IG h (tupF (szs m c.pts) K).1 v H:=by
  refine acN Tryz.func91 rfl ?_;show awp _ _ _ _ _ (EN _ [.tmp 6] _);have t:=Two.mk' h m c;have hlt:h.length<=(h++[ABlk.live 2 [D6 m]]++[ABlk.live 3 [GG c]]).length:=by simp
  have he0:ext h (h++[ABlk.live 2 [D6 m]]++[ABlk.live 3 [GG c]]):=((ext.rfl' h).app _).app _;simp -implicitDefEqProofs only[BC,BA,A8,AY,BB,AO,AQ,AL,BD,AX,AC,AA,AZ,AU,IK,A7,FU,BQ,BJ,BZ,AB,BF,BN,↓reduceIte,jA,jG,jB,jC,enP,KI,bxM,bxC]
  generalize h++[ABlk.live 2 [D6 m]]++[ABlk.live 3 [GG c]]=H at t hlt he0|-
  generalize (h++[ABlk.live 2 [D6 m]]).length=cb at t|-
  have t2:Two h (H++[.live 1 ((jZ c.pts.length 0).map IG)]) m c cb:=t.app _;simp -implicitDefEqProofs only[BC,BP,BA,A8,AY,BB,AO,AQ,AL,BD,AX,AC,AA,AZ,AU,BH,A7,BQ,BR,JI,BJ,D7,BZ,AB,J5,↓reduceIte,jA,jG,jB,jC,enP,JA,KI,t.l1,jI,A0W _ _ hl,t2.l1];rw[wrap_i64 (n:=(c.pts.length:Int)-1) (by omega) (by omega)];refine DK (fun n F H'=>∃j,n=j∧j<=c.pts.length∧F 3=.ptr h.length 0 0∧F 4=.ptr cb 0 0∧F 7=.own H.length 0 c.pts.length∧F 8=.int .i64 ((j:Int)-1)∧F 2=.int .i64 ((tupF ((szs m c.pts).drop j) K).2:Nat)∧Two h H' m c cb∧ext h H'∧H'[H.length]?=some (.live 1 (((jZ c.pts.length 0).take j++(tupF ((szs m c.pts).drop j) K).1).map IG))) c.pts.length ⟨c.pts.length,rfl,jM _,by simp -implicitDefEqProofs only[AA,↓reduceIte,jA],by simp -implicitDefEqProofs only[AA,↓reduceIte,jA],by simp -implicitDefEqProofs only[AA,↓reduceIte,jA],by simp -implicitDefEqProofs only[AA,↓reduceIte],by simp -implicitDefEqProofs only[AA,BF,BN,↓reduceIte,jA]; rw[jW (by omega)]; rfl,t2,he0.app _,?_⟩ ?_
  .rw[jW (by omega),jX (by simp)]
   simp only[tupF,jF];exact CY _ _
  rintro n F H' ⟨j,rfl,hj,f3,f4,f7,f8,f2,t',he,ho⟩;simp -implicitDefEqProofs only[BC,BA,BI,A8,AY,BB,AO,AQ,AL,BD,AX,AC,AA,AZ,AU,BH,BG,BR,AB,G5,↓reduceIte,jB,jC,enP,f8]
  cases n with
  | zero =>
    have:decide ((((0:Nat):Int)-1)≥0)=false:=by decide
    simp -implicitDefEqProofs only[BC,BA,BK,DJ,A8,EI,EW,ET,CG,DT,AY,BB,AO,AQ,AL,BD,AX,AC,AA,AZ,BG,A7,↓reduceIte,jA,jB,jC,this,f7];rw[List.take_zero,zY,qC] at ho;refine⟨he,.inr ⟨?_,H.length,hlt,by rw[P6,hsl],ho⟩⟩;intro e;have:=P6 (szs m c.pts) K;rw[e] at this; simp at this; omega
  | succ j =>
    have hd:decide ((((j+1:Nat):Int)-1)≥0)=true:=by simp
    have hj':j<c.pts.length:=by omega
    have hjs:j<(szs m c.pts).length:=by omega
    have hgt:(szs m c.pts)[j]=(JL m c.pts[j]).length:=IQ (AHD m c.pts j hj');have h1:=(hs _ (jS hjs)).1;rw[hgt] at h1;obtain⟨s,ls⟩:=hh.ld hj' H';have e1:(((j+1:Nat):Int)-1)=(j:Int):=by omega
    have hst:=tup_step (K:=K) hjs;rw[hgt] at hst;have hle:=AHC ((szs m c.pts).drop (j+1)) K;generalize hr:(tupF ((szs m c.pts).drop (j+1)) K)=r at ho f2 hst hle
    have hrow:∃v,(((jZ c.pts.length 0).take (j+1)++r.1).map IG)[j]?=some [v]:=by
     refine⟨.int .i64 0,?_⟩;rw[zH,List.getElem?_append_left (by simp; omega),List.getElem?_take_of_lt (by omega),List.getElem?_replicate_of_lt hj'];rfl
    have hset:=AJL (f:=IG) (pre:=jZ c.pts.length 0) (out:=r.1) (j:=j) (x:=r.2%(JL m c.pts[j]).length) (by simpa using hj');have hlo:=CJ ho;simp -implicitDefEqProofs only[BC,BP,BO,A8,DI,hd];refine EZ (by kernel_rfl) ?_;simp -implicitDefEqProofs only[FZ,ED,DN,E8,EF,FO,I7,FB,D9,EE,IC,BC,BA,A8,EJ,EQ,AY,BB,AO,AQ,AL,BD,AX,AC,EM,AA,AZ,AU,BH,BG,A7,BQ,D5,BR,BJ,CE,D7,AB,CX,J5,↓reduceIte,jA,jK,jL,jG,jB,jC,enP,SS,IR,RQ,JB,JF,KI,jP,f2,f3,f4,f7,f8,e1,t'.lm,t'.l1,DU hj',DF ag3 hj',encI0,hh.ix hj',ls,jI,L6 ho hj',AHH _ _ h1,ACO _ _ h1 (show r.2<=9223372036854775807 by omega),ASW ho hrow,hset];refine⟨j,by omega,j,rfl,by omega,trivial,trivial,trivial,?_,?_,⟨CW t'.gm ?_,CW t'.gc ?_,?_⟩,he.set hlt _,?_⟩
    .rw[wrap_i64 (by omega) (by omega)]
    .rw[hst]
    .exact Nat.ne_of_lt (CJ t.gm)
    .exact Nat.ne_of_lt (CJ t.gc)
    .exact he.set hlt _
    .rw[hst]; exact D8 ho
 have hp:=MW AQ9 hgo
 have hne:(tupF (szs m c.pts) K).1≠[]:=by
  intro e;have:=P6 (szs m c.pts) K;rw[e] at this; simp at this; omega
 rw[AII] at hp
 have hnm:nm (tupF (szs m c.pts) K).1=SM.any:=by
  cases hx:(tupF (szs m c.pts) K).1 with
  | nil=>exact absurd hx hne
  | cons a l=>rfl
 rw[hnm] at hp;exact hp
structure Cvr where
 pm:SM
 pts:List Is
 cm:SM
 crs:List Is
 sam:Int
 ill:Int
def ER (v:Cvr):List AV:=[.sl v.pm 1 (v.pts.map encL),.sl v.cm 1 (v.crs.map encL),.int .i64 v.sam,.int .i64 v.ill]
theorem AKY (v:Cvr):(ER v)[0]?=some (.sl v.pm 1 (v.pts.map encL)):=rfl
theorem AKX (v:Cvr):(ER v)[1]?=some (.sl v.cm 1 (v.crs.map encL)):=rfl
theorem APR (v:Cvr):(ER v)[2]?=some (.int .i64 v.sam):=rfl
theorem APQ (v:Cvr):(ER v)[3]?=some (.int .i64 v.ill):=rfl
theorem ZL (v:Cvr):(ER v).length=4:=rfl
theorem bxV (h:Hp)(v:Cvr):PW h (.agg (ER v))=some (.ptr h.length 0 0,h++[.live 4 [ER v]]):=rfl
theorem ldV {h:Hp}{b:Nat}{v:Cvr}(hb:h[b]?=some (.live 4 [ER v])):EH Tryz.prog h 28 (.ptr b 0 0)=some (.agg (ER v)):=by
 rw[JY AV1 AB8 hb rfl (by rw[ZL]; exact jM 4)]; rfl
def PH (p:Nat->Bool):Nat->List Int->Bool
 | _,[]=>true
 | k,n::ns=>countB n (p k)&&PH p (k+1) ns
theorem WT (p:Nat->Bool)(l:List Int)(k:Nat)(hk:k<l.length):PH p k (l.drop k)=(countB l[k] (p k)&&PH p (k+1) (l.drop (k+1))):=by
 rw[zJ hk]; rfl
def KA {α:Type}(ok:α->Is->Bool):List α->List Is->Bool
 | [],[]=>true
 | a::ws,x::xs=>ok a x&&KA ok ws xs
 | _,_=>false
theorem NR {α:Type}{ok:α->Is->Bool}:∀ {ws:List α} {xs:List Is},KA ok ws xs=true->ws.length=xs.length
 | [],[],_=>rfl
 | a::ws,x::xs,h=>by
   simp only[KA,jV] at h;simp [NR h.2]
 | [],_::_,h=>by cases h
 | _::_,[],h=>by cases h
theorem XA {α:Type}(ok:α->Is->Bool)(ws:List α)(xs:List Is)(k:Nat)(ha:k<ws.length)(hx:k<xs.length):KA ok (ws.drop k) (xs.drop k)=(ok ws[k] xs[k]&&KA ok (ws.drop (k+1)) (xs.drop (k+1))):=by
 rw[zJ ha,zJ hx]; rfl
theorem ZI {α:Type}(ok:α->Is->Bool)(ws:List α)(xs:List Is)(k:Nat)(ha:ws.length<=k)(hx:xs.length<=k):KA ok (ws.drop k) (xs.drop k)=true:=by
 rw[jW ha,jW hx]; rfl
def kindOf (p:Pt)(k:Nat):Int:=match p.bins[k]? with
 | some b=>b.kind
 | none=>0
def okP (p:Pt)(x:Is):Bool:=(x.l.length==p.bins.length)&&PH (fun k=>kindOf p k==0) 0 x.l
def okC (m:Mo)(c:Cr)(x:Is):Bool:=(x.l.length==GL (szs m c.pts))&&PH (fun k=>QT m c (NF (szs m c.pts) k)) 0 x.l
structure CvOk (v:Cvr):Prop where
 pts:v.pts.length<=1048576
 crs:v.crs.length<=1048576
 eachP:∀x∈v.pts,x.l.length<=1048576
 eachC:∀x∈v.crs,x.l.length<=1048576
theorem ARD (G:Nat->AV)(m:Mo)(l:List Is)(s:SM)(h:Hp)(hm:MoOk m)(hl:∀x∈l,x.l.length<=1048576):PCall (En G) 124 [.agg (D6 m),.sl s 1 (l.map encL)] h (.bool (KA okP m.pts l)):=by
 refine ACalls.pure0 rfl ?_;have hm1:=hm.np;refine acN Tryz.func124 rfl ?_;show awp _ _ _ _ _ (EN _ [.tmp 4] _);simp -implicitDefEqProofs only[BC,BA,BI,A8,AY,BB,AO,AQ,AL,BD,AX,AC,AA,AZ,AU,BM,BG,A7,FU,BQ,BR,BJ,D7,BZ,AB,EK,BF,BN,↓reduceIte,jA,jL,jB,jC,enP,QS,IR,XI,bxM,DL WN,QA,jI];refine CU (fun h1=>?_) (fun h1=>?_)
 .simp -implicitDefEqProofs only[BC,BA,BK,A8,CP,CG,AY,BB,AO,AQ,AL,BD,AX,AC,AA,AU,BM,A7,↓reduceIte,jB,jC]
  have:KA okP m.pts l=false:=by
   rw[<-qN]; intro e;have:=NR e;simp at h1; omega
  exact⟨by rw[this],_,rfl⟩
 have hlen:l.length=m.pts.length:=by simp at h1; omega
 simp -implicitDefEqProofs only[BC,BP,BA,BO,A8,AY,BB,AO,AQ,AL,BD,AX,AC,AA,AZ,AU,BH,BG,BQ,BJ,D7,AB,↓reduceIte,jA,jL,jB,jC,enP,QS,IR,DL WN,QA,jI];refine DK (fun n F H=>∃i,n+i=m.pts.length∧F 1=.sl s 1 (l.map encL)∧F 16=.sl m.pm 6 (m.pts.map GM)∧F 17=.int .i64 m.pts.length∧F 18=.int .i64 (i:Nat)∧(∃x,H=h++x)∧KA okP m.pts l=KA okP (m.pts.drop i) (l.drop i)) m.pts.length ⟨0,by simp,by simp -implicitDefEqProofs only[AA,BF,BN,↓reduceIte,jA],by simp -implicitDefEqProofs only[AA,↓reduceIte,jA],by simp -implicitDefEqProofs only[AA,↓reduceIte,jA],by simp -implicitDefEqProofs only[AA,↓reduceIte]; rfl,⟨_,rfl⟩,rfl⟩ ?_;rintro n F H ⟨i,hi,f1,f16,f17,f18,hx,hf⟩;simp -implicitDefEqProofs only[BC,BA,BI,A8,AY,BB,AO,AQ,AL,BD,AX,AC,AA,AZ,BR,AB,DC,↓reduceIte,jB,jC,enP,f17,f18];refine CU (fun hc=>?_) (fun hc=>?_)
 .have hi':i<m.pts.length:=by simpa using hc
  have hil:i<l.length:=by omega
  rw[XA okP m.pts l i hi' hil] at hf
  have hx1:∃x,H++[ABlk.live 6 [GM m.pts[i]]]=h++x:=by
   obtain⟨x,rfl⟩:=hx;exact⟨_,zA _ _ _⟩
  have hxl:=hl _ (jS hil);simp -implicitDefEqProofs only[BC,BP,BA,BO,A8,AY,BB,AO,AQ,AL,BD,AX,AC,EM,AA,AZ,BG,A7,FD,BQ,D5,CE,BZ,AB,CX,↓reduceIte,jA,jB,jC,enP,SS,jP,f16,f18,DU hi',FM ACG YW JR hi',AR4,AQB _ _ [.str ⟨#[]⟩,.int .i64 0,.int .i64 0,.str ⟨#[]⟩,.sl .nil 0 [],.sl .nil 0 []] rfl];refine EZ (by kernel_rfl) ?_;simp -implicitDefEqProofs only[FZ,ED,DN,E8,EF,FO,FB,IY,D9,EE,IC,BI,A8,AO,AA,AZ,BQ,BR,BJ,CE,D7,AB,EK,↓reduceIte,jA,jK,jG,jB,enP,N7,RQ,JB,JA,f1,DU hil,DF KC hil,NE,DL SG,NS,jI];refine CU (fun h2=>?_) (fun h2=>?_)
  .simp -implicitDefEqProofs only[BC,BA,BK,A8,CP,EG,FQ,CG,AY,BB,AO,AQ,AL,BD,AX,AC,AA,AU,BM,A7,↓reduceIte,jB,jC]
   have:okP m.pts[i] l[i]=false:=by
    have:(l[i].l.length==m.pts[i].bins.length)=false:=by
     rw[beq_eq_false_iff_ne]; intro e; simp [e] at h2
    unfold okP; rw[this]; rfl
   exact⟨by rw[hf,this]; rfl,hx1⟩
  have hbl:l[i].l.length=m.pts[i].bins.length:=by simp at h2; omega
  have hok:okP m.pts[i] l[i]=PH (fun k=>kindOf m.pts[i] k==0) 0 l[i].l:=by
   unfold okP; rw[beq_iff_eq.2 hbl]; rfl
  simp -implicitDefEqProofs only[BC,BP,BA,BO,A8,AY,BB,AO,AQ,AL,BD,AX,AC,AA,AZ,AU,BH,BG,BQ,CE,D7,AB,↓reduceIte,jA,jB,jC,enP,N7,JA,f1,DU hil,DF KC hil,NE,jI];refine GN 2 (fun F' H'=>F' 1=.sl s 1 (l.map encL)∧F' 16=.sl m.pm 6 (m.pts.map GM)∧F' 17=.int .i64 m.pts.length∧F' 18=.int .i64 (i:Nat)∧H'=H++[.live 6 [GM m.pts[i]]]∧okP m.pts[i] l[i]=true) (fun F' H'=>F' 4=.bool false∧H'=H++[.live 6 [GM m.pts[i]]]∧okP m.pts[i] l[i]=false) ?_ ?_ ?_
  .refine DK (fun n F' H'=>∃k,n+k=l[i].l.length∧F' 1=.sl s 1 (l.map encL)∧F' 16=.sl m.pm 6 (m.pts.map GM)∧F' 17=.int .i64 m.pts.length∧F' 18=.int .i64 (i:Nat)∧F' 6=.ptr H.length 0 0∧F' 35=.sl l[i].m 1 (l[i].l.map encI)∧F' 36=.int .i64 l[i].l.length∧F' 37=.int .i64 (k:Nat)∧H'=H++[.live 6 [GM m.pts[i]]]∧okP m.pts[i] l[i]=PH (fun k=>kindOf m.pts[i] k==0) k (l[i].l.drop k)) l[i].l.length ⟨0,by simp,by simp -implicitDefEqProofs only[AA,↓reduceIte,jA,f1],by simp -implicitDefEqProofs only[AA,↓reduceIte,jA,f16],by simp -implicitDefEqProofs only[AA,↓reduceIte,jA,f17],by simp -implicitDefEqProofs only[AA,↓reduceIte,jA,f18],by simp -implicitDefEqProofs only[AA,↓reduceIte,jA],by simp -implicitDefEqProofs only[AA,↓reduceIte,jA],by simp -implicitDefEqProofs only[AA,↓reduceIte,jA],by simp -implicitDefEqProofs only[AA,↓reduceIte]; rfl,rfl,hok⟩ ?_
   clear f1 f16 f17 f18;rintro n' F H' ⟨k,hk,f1,f16,f17,f18,f6,f35,f36,f37,rfl,hr⟩;simp -implicitDefEqProofs only[BC,BA,BI,A8,AY,BB,AO,AQ,AL,BD,AX,AC,AA,AZ,BR,AB,DC,↓reduceIte,jB,jC,enP,f36,f37];refine CU (fun hc=>?_) (fun hc=>?_)
   .have hk':k<l[i].l.length:=by simpa using hc
    have hkb:k<m.pts[i].bins.length:=by omega
    have hkd:kindOf m.pts[i] k=(m.pts[i].bins[k]).kind:=by unfold kindOf; rw[jU hkb]
    rw[WT _ _ _ hk',hkd] at hr;simp -implicitDefEqProofs only[BC,BP,BA,BO,A8,AY,BB,AO,AQ,AL,BD,AX,AC,AA,AZ,BX,BG,A7,BQ,BJ,CE,CB,BU,AB,jD,jE,jF,↓reduceIte,jA,jG,jB,jC,enP,YD,JB,JF,f6,f35,f37,DU hk',DF ag3 hk',encI0,DL SG,NS,DU hkb,FM VF QK MJ hkb];refine(ABW G _ _).use ?_;simp -implicitDefEqProofs only[AY,AO,AQ,AL,BD,AX,AC,AA,AZ,BX,CB,BU,jD,jE,jF,↓reduceIte,jA,jB,jC];refine(U7 G _ _ _).use ?_;simp -implicitDefEqProofs only[BI,A8,AY,BB,AO,AQ,AL,BD,AX,AC,AA,AZ,IE,AB,FK,↓reduceIte,jB,jC];cases hcb:countB l[i].l[k] (m.pts[i].bins[k].kind==0)
    .simp -implicitDefEqProofs only[BC,BA,BK,A8,CP,EG,NG,FQ,DI,AY,BB,AO,AQ,AL,BD,AX,AC,AA,AU,BM,A7,↓reduceIte,jB,jC]
     exact⟨trivial,trivial,by rw[hr,hcb]; rfl⟩
    .simp -implicitDefEqProofs only[BA,BO,A8,EJ,EQ,DT,AY,BB,AO,AQ,AL,BD,AX,AC,AA,AZ,AU,BH,BG,BR,AB,CZ,↓reduceIte,jA,jB,jT,jC,enP,f37,wrap_succ (show k<9223372036854775807 by omega)]
     exact⟨n'-1,by omega,k+1,by omega,f1,f16,f17,f18,f6,f35,f36,rfl,trivial,by rw[hr,hcb]; rfl⟩
   .have hk':¬k<l[i].l.length:=by simpa using hc
    simp -implicitDefEqProofs only[DJ,EI,J3,ET,AA,↓reduceIte,jA];exact⟨f1,f16,f17,f18,trivial,by rw[hr,jW (by omega)]; rfl⟩
  .rintro F' H' ⟨g1,g16,g17,g18,rfl,hr⟩
   simp -implicitDefEqProofs only[BA,A8,EJ,EW,EQ,AY,BB,AO,AQ,AL,BD,AX,AC,AA,AZ,AU,BH,BG,BR,AB,CZ,↓reduceIte,jA,jB,jC,enP,g18,wrap_succ (show i<9223372036854775807 by omega)];exact⟨n-1,by omega,i+1,by omega,g1,g16,g17,rfl,hx1,by rw[hf,hr]; rfl⟩
  .rintro F' H' ⟨g4,rfl,hr⟩
   simp -implicitDefEqProofs only[CP,EG,FQ,CG,g4];exact⟨by rw[hf,hr]; rfl,hx1⟩
 .have hi':¬i<m.pts.length:=by simpa using hc
  simp -implicitDefEqProofs only[BC,BA,BK,DJ,A8,EI,EW,ET,CG,AY,BB,AO,AQ,AL,BD,AX,AC,AA,AU,BM,A7,↓reduceIte,jB,jC];exact⟨by rw[hf,ZI okP _ _ i (by omega) (by omega)],hx⟩
end Go.Proofs.YtocilianjfhifaaGreatDoor.Cov
