/- Part 6 of the proof (L1, M4, M5, M6, M7, M8, M9, M10, M11, M12); no condition. -/
import Derived.Test.YtocilianjfhifaaGreatDoorYD5
set_option linter.unusedVariables false
namespace Go.Proofs.YtocilianjfhifaaGreatDoor.Cov
open Sm Bins Go.RowKit
open List renaming drop_zero→qE,take_of_length_le→jX
def outG {α:Type}(k:Nat)(f:α->List AV)(h:Hp)(ys:List α)(v:AV)(H:Hp):Prop :=
 (ys=[]∧v=.sl .nil 0 [])∨(ys≠[]∧∃o,h.length<=o∧v=.own o 0 ys.length∧H[o]?=some (.live k (ys.map f)))
theorem outG.nil {α:Type}(k:Nat)(f:α->List AV)(h H:Hp):outG k f h [] (.sl .nil 0 []) H:=.inl ⟨rfl,rfl⟩
theorem outG.keep {α:Type}{k:Nat}{f:α->List AV}{h H H':Hp}{ys:List α}{v:AV}(ho:outG k f h ys v H)(hk:∀b,isB v b->H'[b]?=H[b]?):outG k f h ys v H':=by
 rcases ho with h1|⟨h1,o,h2,rfl,h3⟩
 .exact .inl h1
 .exact .inr ⟨h1,o,h2,rfl,by rw[hk o rfl]; exact h3⟩
theorem outG.lt {α:Type}{k:Nat}{f:α->List AV}{h H:Hp}{ys:List α}{v:AV}{b:Nat}(ho:outG k f h ys v H)(hb:isB v b):h.length<=b∧b<H.length:=by
 rcases ho with⟨_,rfl⟩|⟨_,o,h2,rfl,h3⟩
 .exact hb.elim
 .cases hb; exact⟨h2,CJ h3⟩
theorem outG.app {α:Type}{k:Nat}{f:α->List AV}{h H:Hp}{ys:List α}{v:AV}(ho:outG k f h ys v H)(x:Hp):outG k f h ys v (H++x) :=
 ho.keep fun _ hb=>List.getElem?_append_left (ho.lt hb).2
theorem outG.append {P:Program}{t e:TypeId}{α:Type}{k bs:Nat}{f:α->List AV}{h H:Hp}{ys:List α}{v:AV}(ho:outG k f h ys v H)(hu:P.underlying t=some (.slice e))(hs:szO P e=some k)(hz:TW P e=some k)(hb:NE P e=some bs)(hbs:bs<=4194304)(hl:ys.length<8388608)(he:ext h H)(y:α) :
  ∃v' H',G8 P true H t t v (.sl .full k [f y])=some (v',H')∧outG k f h (ys++[y]) v' H'∧(∀b x,H[b]?=some x->¬isB v b->H'[b]?=some x)∧ext h H'∧H.length<=H'.length∧∀b,isB v' b->b=H.length:=by
 have h1:([f y]:List (List AV))≠[]:=by simp
 rcases ho with⟨rfl,rfl⟩|⟨hne,o,h2,rfl,h3⟩
 .exact⟨_,_,VE hu hs hz hb (J3 H .full k [f y]) h1 (JM (by simp) hbs),.inr ⟨by simp,H.length,he.le,rfl,by simp⟩,fun b x hb _=>FZ hb,he.app _,by simp,fun b hb=>hb.symm⟩
 .have hc:KI H (.own o 0 ys.length)=some (k,ys.map f):=by
   rw[O0 h3 (by simp),qE,jX (by simp)]
  refine⟨_,_,VD hu hs hz hb hc (J3 H .full k [f y]) h1 (JM (by simp; omega) hbs),.inr ⟨by simp,H.length,he.le,by simp,by simp⟩,fun b x hb hn=>?_,(he.set h2 _).app _,by simp,fun b hb=>hb.symm⟩;have hn':¬o=b:=hn;refine FZ ?_;rw[List.getElem?_set,if_neg hn']; exact hb
theorem outG.len {P:Program}{t:TypeId}{α:Type}{k:Nat}{f:α->List AV}{h H:Hp}{ys:List α}{v:AV}(ho:outG k f h ys v H)(hl:(∀m k xs,LH P t (.sl m k xs)=some (.int .i64 xs.length))∧∀b off len,LH P t (.own b off len)=some (.int .i64 len)):LH P t v=some (.int .i64 ys.length):=by
 rcases ho with⟨rfl,rfl⟩|⟨_,o,_,rfl,_⟩
 .exact hl.1 _ _ _
 .exact hl.2 _ _ _
def nm {α:Type}(ys:List α):SM:=match ys with
 | []=>.nil
 | _=>.any
theorem AEJ (n:Nat)(h:Hp)(d b off len k:Nat)(xs:List (List AV))(hn:¬b<n)(hb:h[b]?=some (.live k xs)):IX n h (d+1) (.own b off len)=if off+len<=xs.length∧(((xs.drop off).take len).map (·.map (IX n h d))).all (·.all AV.leaf)=true then .sl .any k (((xs.drop off).take len).map (·.map (IX n h d))) else .junk:=by
 rw[IX];simp only[hn,if_false,hb]
def Frz {α:Type}(f:α->List AV):Prop:=∀(n:Nat) (h:Hp) (d:Nat) (x:α),(f x).map (IX n h (d+1))=f x∧(f x).all AV.leaf=true
theorem AK8 {α:Type}{f:α->List AV}(hf:Frz f)(n:Nat)(h:Hp)(d:Nat)(xs:List α):(xs.map f).map (·.map (IX n h (d+1)))=xs.map f:=by
 rw[List.map_map];exact List.map_congr_left fun x _=>(hf n h d x).1
theorem ZV {α:Type}{f:α->List AV}(hf:Frz f){n d k:Nat}{h:Hp}{o:Nat}{xs:List α}(hn:n<=o)(ho:h[o]?=some (.live k (xs.map f))):IX n h (d+2) (.own o 0 xs.length)=.sl .any k (xs.map f):=by
 rw[AEJ n h (d+1) o 0 xs.length k _ (by omega) ho,qE,jX (by simp),AK8 hf n h d xs];rw[if_pos];refine⟨by simp,?_⟩;rw[List.all_eq_true];intro row hr;obtain⟨x,_,rfl⟩:=List.mem_map.1 hr;exact(hf n h d x).2
theorem N7 {E:Env}{f:FuncId}{args:List AV}{h:Hp}{α:Type}{k:Nat}{enc:α->List AV}(hf:Frz enc){ys:List α}(hc:ACalls E f args h fun v H=>ext h H∧outG k enc h ys v H):PCall E f args h (.sl (nm ys) k (ys.map enc)):=by
 have h1:ACalls E f args h fun v H=>v=(if ys.length=0 then AV.sl .nil 0 [] else .sl .any k (ys.map enc))∧H=h:=by
  refine ACalls.pure 2 hc ?_;rintro v H ⟨hex,hout⟩;refine⟨hex,?_⟩;rcases hout with⟨rfl,rfl⟩|⟨hne,o,ho1,rfl,ho⟩
  .rfl
  .rw[if_neg (by simpa using hne)]; exact ZV hf ho1 ho
 refine h1.conv ?_;rintro v H ⟨rfl,rfl⟩;refine⟨_,⟨rfl,rfl⟩,?_⟩;intro g cv hr
 cases ys with
 | nil=>exact AT4 hr
 | cons y ys=>exact hr
end Go.Proofs.YtocilianjfhifaaGreatDoor.Cov
set_option linter.unusedSimpArgs false
set_option maxRecDepth 8000
namespace Go.Proofs.YtocilianjfhifaaGreatDoor.Cov
open Sm Bins Go.RowKit
open Bool renaming not_false→jC,and_eq_true→jV,not_true→jR,true_and→wB,not_eq_true→qO,false_eq_true→jY
open List renaming getElem_mem→jQ,getElem?_eq_getElem→jS,length_map→jI,take_succ_eq_append_getElem→zL,map_append→wI,take_of_length_le→jX,length_take→zD,drop_eq_getElem_cons→zK,drop_eq_nil_of_le→jW,map_cons→jD,map_nil→jE,nil_append→zU,findIdx?_eq_some_iff_getElem→qV,findIdx?_eq_none_iff→qW,append_nil→jF,mem_cons→qR,append_assoc→zA,getElem?_map→zH,drop_zero→qE,replicate→jZ
open Nat renaming le_of_ble_eq_true→jH,reduceEqDiff→jA,zero_add→jG,add_zero→jK,le_trans→zY,le_refl→jL,reduceAdd→jM
open Option renaming getD_some→jB,getD_none→jP
def JK (m:Mo)(p:Int):List Bin:=match m.pts[p.toNat]? with
 | some q=>q.bins
 | none=>[]
def szs (m:Mo)(l:List Int):List Nat:=l.map fun p=>(JK m p).length
def Here (m:Mo)(l:List Int):Prop:=∀p∈l,0<=p∧p<(m.pts.length:Int)
theorem Here.toNat {m:Mo}{l:List Int}(hh:Here m l){k:Nat}(hk:k<l.length):(l[k]).toNat<m.pts.length:=by
 have:=hh _ (jQ hk); omega
theorem Here.bins {m:Mo}{l:List Int}(hh:Here m l){k:Nat}(hk:k<l.length):(m.pts[(l[k]).toNat]'(hh.toNat hk)).bins=JK m l[k]:=by
 unfold JK; rw[jS (hh.toNat hk)]
theorem Here.ix {m:Mo}{l:List Int}(hh:Here m l){k:Nat}(hk:k<l.length)(h:Hp)(s:SM):KN 6 h (.sl s 6 (m.pts.map GL)) (.int .i64 l[k])=some (.fptr 6 (m.pts.map GL) (l[k]).toNat 0):=by
 have:=hh _ (jQ hk);exact A0M this.1 (by rw[jI]; exact this.2)
theorem Here.ld {m:Mo}{l:List Int}(hh:Here m l){k:Nat}(hk:k<l.length)(h:Hp):∃s,ED Tryz.prog h 54 (.fptr 6 (m.pts.map GL) (l[k]).toNat 5)=some (.sl s 4 ((JK m l[k]).map GV)):=by
 rw[DF SQ (hh.toNat hk),NU,hh.bins hk];exact⟨_,rfl⟩
theorem AYZ:Frz encI:=fun _ _ _ _=>⟨rfl,rfl⟩
theorem AE8 (h:Hp)(v:Int):FO Tryz.prog false h 57 1 [(0,.int .i64 v)]=some (.sl .full 1 [[.int .i64 v]],h):=by kernel_rfl
def II (n:Nat):List AV:=[.int .i64 (n:Int)]
theorem ARO:Frz II:=fun _ _ _ _=>⟨rfl,rfl⟩
theorem encN0 (n:Nat):(II n)[0]?=some (.int .i64 (n:Int)):=rfl
theorem encI0 (n:Int):(encI n)[0]?=some (.int .i64 n):=rfl
theorem AJW (m:Mo)(l:List Int)(k:Nat)(hk:k<l.length):szs m (l.take (k+1))=szs m (l.take k)++[(JK m l[k]).length]:=by
 unfold szs; rw[zL hk,wI]; rfl
theorem RS (G:Nat->AV)(m:Mo)(c:Cr)(h:Hp)(hh:Here m c.pts)(hl:c.pts.length<=1048576):PCall (En G) 167 [.agg (D5 m),.agg (GG c)] h (.sl (nm (szs m c.pts)) 1 ((szs m c.pts).map II)):=by
 refine N7 ARO ?_;refine acN Tryz.func167 rfl ?_;show awp _ _ _ _ _ (EN _ [.tmp 4] _);simp -implicitDefEqProofs only[BC,BP,BA,A8,AY,BB,AO,AQ,AL,BD,AX,AC,AA,AZ,AU,BH,IY,BG,A7,FU,BQ,BJ,DZ,BX,AB,BF,BN,↓reduceIte,jA,jG,jB,jC,enP,JD,KO,bxM,bxC,DL KP,AB6,jI];have hb0:(h++[ABlk.live 2 [D5 m]]++[ABlk.live 3 [GG c]])[h.length]?=some (.live 2 [D5 m]):=CU (CX _ _);refine DK (fun n F H=>∃k,n+k=c.pts.length∧F 2=.ptr h.length 0 0∧F 9=.sl c.pm 1 (c.pts.map encI)∧F 10=.int .i64 c.pts.length∧F 11=.int .i64 (k:Nat)∧H[h.length]?=some (.live 2 [D5 m])∧ext h H∧(∀b,isB (F 5) b->h.length<b)∧outG 1 II h (szs m (c.pts.take k)) (F 5) H) c.pts.length ⟨0,by simp,by simp -implicitDefEqProofs only[AA,↓reduceIte,jA],by simp -implicitDefEqProofs only[AA,↓reduceIte,jA],by simp -implicitDefEqProofs only[AA,↓reduceIte,jA],by simp -implicitDefEqProofs only[AA,↓reduceIte]; rfl,hb0,((ext.rfl' h).app _).app _,fun b hb=>hb.elim,outG.nil _ _ _ _⟩ ?_;rintro n F H ⟨k,hk,f2,f9,f10,f11,hb,he,hlt,ho⟩;simp -implicitDefEqProofs only[BC,BA,BI,A8,AY,BB,AO,AQ,AL,BD,AX,AC,AA,AZ,BR,AB,CZ,↓reduceIte,jB,jC,enP,f10,f11];refine CV (fun hc=>?_) (fun hc=>?_)
 .have hk':k<c.pts.length:=by simpa using hc
  have lm:ED Tryz.prog H 22 (.ptr h.length 0 0)=some (.sl m.pm 6 (m.pts.map GL)):=by rw[DX WV hb (row:=D5 m) rfl,QJ]
  obtain⟨s,ls⟩:=hh.ld hk' H;have hzl:(szs m (c.pts.take k)).length<8388608:=by unfold szs; simp; omega
  obtain⟨v',H',ha,ho',hkeep,he',hle,hb'⟩:=ho.append UA sz3 YG WS (by omega) hzl he (JK m c.pts[k]).length;simp -implicitDefEqProofs only[EZ,FW,BC,BP,BA,BO,A8,AY,BB,AO,AQ,AL,BD,AX,AC,AA,AZ,BG,A7,EP,BQ,BJ,CE,DZ,GR,BX,AB,↓reduceIte,jA,jK,jG,jB,jC,enP,S9,IP,RZ,I9,JF,f2,f9,f11,DU hk',DF ag3 hk',encI0,lm,hh.ix hk',ls,jI,AE8];refine H9 (v:=v') (h:=H') (by rw[show [[AV.int .i64 ((JK m c.pts[k]).length:Int)]]=[II (JK m c.pts[k]).length] from rfl,ha]) ?_;simp -implicitDefEqProofs only[BA,A8,EJ,EQ,AY,BB,AO,AQ,AL,BD,AX,AC,AA,AZ,AU,BH,BG,A7,BR,AB,C9,↓reduceIte,jA,jB,jC,enP,f11,wrap_succ (show k<9223372036854775807 by omega)];refine⟨n-1,by omega,k+1,by omega,f2,f9,f10,rfl,hkeep _ _ hb (fun e=>by have:=hlt _ e; omega),he',fun b hbb=>?_,?_⟩
  .have:=hb' b hbb; have:=CJ hb; omega
  .rw[AJW m c.pts k hk']; exact ho'
 .have hk':¬k<c.pts.length:=by simpa using hc
  rw[jX (by omega)] at ho;simp -implicitDefEqProofs only[BC,BA,BK,DJ,A8,EG,EU,ET,CG,AY,BB,AO,AQ,AL,BD,AX,AC,AA,AZ,BG,A7,↓reduceIte,jA,jB,jC];exact⟨he,ho⟩
def GK (l:List Nat):Nat:=l.foldl (· * ·) 1
theorem RX (l:List Nat)(k:Nat)(hk:k<l.length):GK (l.take (k+1))=GK (l.take k)*l[k]:=by
 unfold GK; rw[zL hk,List.foldl_append]; rfl
theorem AKN (l:List Nat)(k:Nat)(h:∀n∈l,n<=64)(hk:l.length<=k):GK l<=64^k:=by
 have gen:∀(l:List Nat) (a:Nat) (j:Nat),(∀n∈l,n<=64)->a<=64^j->l.foldl (· * ·) a<=64^(j+l.length):=by
  intro l
  induction l with
  | nil=>intro a j _ ha; exact ha
  | cons x l ih =>
    intro a j hl ha;rw[List.foldl_cons,List.length_cons,show j+(l.length+1)=(j+1)+l.length by omega];refine ih _ _ (fun n hn=>hl n (by simp [hn])) ?_;rw[Nat.pow_succ];exact Nat.mul_le_mul ha (hl x (by simp))
 have:=gen l 1 0 h (by simp);rw[jG] at this;exact zY this (Nat.pow_le_pow_right (by omega) hk)
theorem AD2 (l:List Nat)(k:Nat)(h:∀n∈l,1<=n):GK (l.take k)<=GK l:=by
 have gen:∀(l:List Nat) (a:Nat),(∀n∈l,1<=n)->a<=l.foldl (· * ·) a:=by
  intro l
  induction l with
  | nil=>intro a _; exact jL _
  | cons x l ih =>
    intro a hl;rw[List.foldl_cons];refine zY ?_ (ih _ (fun n hn=>hl n (by simp [hn])));exact Nat.le_mul_of_pos_right a (hl x (by simp))
 have h2:GK l=(l.drop k).foldl (· * ·) (GK (l.take k)):=by
  unfold GK
  conv=>lhs; rw[<-List.take_append_drop k l,List.foldl_append]
 rw[h2];exact gen _ _ (fun n hn=>h n (List.mem_of_mem_drop hn))
theorem QX (G:Nat->AV)(l:List Nat)(s:SM)(h:Hp)(hl:∀n∈l,n<=64)(hk:l.length<=4):PCall (En G) 180 [.sl s 1 (l.map II)] h (.int .i64 (GK l)):=by
 refine acN Tryz.func180 rfl ?_;show awp _ _ _ _ _ (EN _ [.tmp 2] _);simp -implicitDefEqProofs only[BC,BP,BA,A8,AY,BB,AO,AQ,AL,BD,AX,AC,AA,AZ,AU,BH,BG,A7,DZ,AB,BF,↓reduceIte,jA,jB,jC,enP,JD,jI]
 have hp:∀k,GK (l.take k)<=16777216:=fun k=>by
  have:=AKN (l.take k) 4 (fun n hn=>hl n (List.mem_of_mem_take hn)) (by rw[zD]; omega);simpa using this
 refine DK (fun n F H=>∃k,n+k=l.length∧F 3=.int .i64 (GK (l.take k))∧F 6=.sl s 1 (l.map II)∧F 7=.int .i64 l.length∧F 8=.int .i64 (k:Nat)∧H=h) l.length ⟨0,by simp,by simp -implicitDefEqProofs only[AA,↓reduceIte,jA]; rfl,by simp -implicitDefEqProofs only[AA,↓reduceIte,jA],by simp -implicitDefEqProofs only[AA,↓reduceIte,jA],by simp -implicitDefEqProofs only[AA,↓reduceIte]; rfl,rfl⟩ ?_;rintro n F H ⟨k,hk,f3,f6,f7,f8,rfl⟩;simp -implicitDefEqProofs only[BC,BA,BI,A8,AY,BB,AO,AQ,AL,BD,AX,AC,AA,AZ,BR,AB,CZ,↓reduceIte,jB,jC,enP,f7,f8];refine CV (fun hc=>?_) (fun hc=>?_)
 .have hk':k<l.length:=by simpa using hc
  have h1:=hp (k+1);rw[RX l k hk'] at h1
  have hw:IntKind.i64.wrap ((GK (l.take k):Int)*(l[k]:Int))=((GK (l.take (k+1)):Nat):Int):=by
   rw[RX l k hk',<-Int.natCast_mul,MC (by omega)]
  simp -implicitDefEqProofs only[BC,BP,BA,BO,A8,EJ,EQ,AY,BB,AO,AQ,AL,BD,AX,AC,AA,AZ,AU,BH,BG,A7,BQ,BR,CE,AB,C9,QB,↓reduceIte,jA,jB,jC,enP,JF,f3,f6,f8,DU hk',DF ag3 hk',encN0,hw,wrap_succ (show k<9223372036854775807 by omega)];exact⟨n-1,by omega,k+1,by omega,rfl,trivial,f7,rfl,trivial⟩
 .have hk':¬k<l.length:=by simpa using hc
  rw[jX (by omega)] at f3;simp -implicitDefEqProofs only[BC,BA,BK,DJ,A8,EG,EU,ET,CG,AY,BB,AO,AQ,AL,BD,AX,AC,AA,AZ,BG,A7,↓reduceIte,jA,jB,jC,f3];exact⟨trivial,trivial⟩
def MS:List Nat->List Int->Bool
 | [],[]=>true
 | n::ns,x::xs=>decide (0<=x)&&decide (x<(n:Int))&&MS ns xs
 | _,_=>false
theorem AUN (ns:List Nat):MS ns []=(ns.length==0):=by cases ns<;>rfl
theorem QI:∀ {ns:List Nat} {xs:List Int},MS ns xs=true->ns.length=xs.length
 | [],[],_=>rfl
 | n::ns,x::xs,h=>by
   simp only[MS,jV] at h;simp [QI h.2]
 | [],_::_,h=>by cases h
 | _::_,[],h=>by cases h
theorem inside_prog (G:Nat->AV)(ns:List Nat)(xs:List Int)(s t:SM)(h:Hp)(hn:ns.length<=1048576):PCall (En G) 182 [.sl s 1 (ns.map II),.sl t 1 (xs.map encI)] h (.bool (MS ns xs)):=by
 refine acN Tryz.func182 rfl ?_;show awp _ _ _ _ _ (EN _ [.tmp 4] _);simp -implicitDefEqProofs only[BC,BP,BA,A8,AY,BB,AO,AQ,AL,BD,AX,AC,AA,AZ,AU,BH,BM,BG,A7,DZ,AB,BF,BN,↓reduceIte,jA,jB,jC,enP,JD,jI];refine DK (fun n F H=>∃k,n+k=xs.length∧k<=ns.length∧F 0=.sl s 1 (ns.map II)∧F 1=.sl t 1 (xs.map encI)∧F 7=.sl t 1 (xs.map encI)∧F 8=.int .i64 xs.length∧F 9=.int .i64 (k:Nat)∧H=h∧MS ns xs=MS (ns.drop k) (xs.drop k)) xs.length ⟨0,by simp,by simp,by simp -implicitDefEqProofs only[AA,BF,↓reduceIte,jA],by simp -implicitDefEqProofs only[AA,BF,BN,↓reduceIte,jA],by simp -implicitDefEqProofs only[AA,↓reduceIte,jA],by simp -implicitDefEqProofs only[AA,↓reduceIte,jA],by simp -implicitDefEqProofs only[AA,↓reduceIte]; rfl,rfl,rfl⟩ ?_;rintro n F H ⟨k,hk,hkn,f0,f1,f7,f8,f9,rfl,hi⟩;simp -implicitDefEqProofs only[BC,BA,BI,A8,AY,BB,AO,AQ,AL,BD,AX,AC,AA,AZ,BR,AB,CZ,↓reduceIte,jB,jC,enP,f8,f9];refine CV (fun hc=>?_) (fun hc=>?_)
 .have hk':k<xs.length:=by simpa using hc
  rw[zK hk'] at hi;simp -implicitDefEqProofs only[BC,BP,BA,BO,A8,AY,BB,BL,BV,CO,AO,AQ,AL,BD,AX,AC,AA,AZ,BG,A7,BQ,BR,CE,DZ,AB,G6,↓reduceIte,jA,jB,jC,enP,JF,JD,f0,f7,f9,DU hk',DF ag3 hk',encI0,jI];refine IK (fun ha=>?_) (fun ha=>?_)
  .simp -implicitDefEqProofs only[BC,BA,BK,BI,A8,CP,EE,FQ,CG,DI,AY,BB,BL,BV,CO,F7,AO,AQ,AL,BD,AX,AC,AA,EW,AZ,AU,BM,BG,A7,CQ,DY,↓reduceIte,jA,jB,jC,ha]
   have:ns.length<=k:=by simp at ha; omega
   rw[jW this] at hi;exact⟨by rw[hi]; rfl,trivial⟩
  have hkn':k<ns.length:=by simp at ha; omega
  rw[zK hkn'] at hi;simp -implicitDefEqProofs only[AY,BL,BV,CO,ES,AO,AQ,AL,BD,AX,AC,AA,AZ,AU,BH,BM,BG,CQ,DW,BR,AB,CZ,↓reduceIte,jA,jB,jC,enP,ha];refine IK (fun hb=>?_) (fun hb=>?_)
  .simp -implicitDefEqProofs only[BC,BA,BK,BI,A8,CP,EE,FQ,CG,DI,AY,BB,BL,BV,CO,F7,AO,AQ,AL,BD,AX,AC,AA,EW,AZ,AU,BM,A7,CQ,DY,↓reduceIte,jA,jB,jC,hb]
   have:decide (0<=xs[k])=false:=by simp at hb|-; omega
   exact⟨by rw[hi]; unfold MS; rw[this]; rfl,trivial⟩
  have h0:decide (0<=xs[k])=true:=by simp at hb|-; omega
  simp -implicitDefEqProofs only[BI,A8,AY,BB,BL,BV,CO,ES,AO,AQ,AL,BD,AX,AC,AA,AZ,AU,BM,BG,CQ,DW,BQ,BR,CE,AB,G6,↓reduceIte,jA,jB,jC,enP,JF,hb,f0,DU hkn',DF ag3 hkn',encN0];refine CV (fun hd=>?_) (fun hd=>?_)
  .simp -implicitDefEqProofs only[BC,BA,BK,A8,CP,EE,FQ,CG,AY,BB,AO,AQ,AL,BD,AX,AC,AA,AU,BM,A7,↓reduceIte,jB,jC]
   have:decide (xs[k]<(ns[k]:Int))=false:=by simp at hd|-; omega
   exact⟨by rw[hi]; unfold MS; rw[this,h0]; rfl,trivial⟩
  have h1:decide (xs[k]<(ns[k]:Int))=true:=by simp at hd|-; omega
  simp -implicitDefEqProofs only[BA,BO,A8,EJ,EQ,AY,BB,AO,AQ,AL,BD,AX,AC,AA,AZ,AU,BH,BG,BR,AB,C9,↓reduceIte,jA,jB,jC,enP,f9,wrap_succ (show k<9223372036854775807 by omega)];refine⟨n-1,by omega,k+1,by omega,by omega,f0,f1,f7,f8,rfl,trivial,?_⟩;rw[hi]
  conv=>lhs; unfold MS
  rw[h0,h1]; rfl
 .have hk':¬k<xs.length:=by simpa using hc
  simp -implicitDefEqProofs only[BC,BA,BK,DJ,A8,EG,EU,ET,CG,AY,BB,AO,AQ,AL,BD,AX,AC,AA,AZ,BG,A7,BR,DZ,AB,D7,↓reduceIte,jA,jB,jC,enP,JD,f0,f1,jI];refine⟨?_,trivial⟩;rw[hi,jW (show xs.length<=k by omega),AUN,List.length_drop];congr 1;rw[Bool.eq_iff_iff]; simp; omega
theorem AK6 (G:Nat->AV)(xs:List Is)(m:SM)(fid:FuncId)(caps:List AV)(p:Is->Bool)(h:Hp)(hl:xs.length<=1099511627776)
  (hf:∀r,PCall (En G) fid (.sl r.m 1 (r.l.map encI)::caps) h (.bool (p r))) :
  PCall (En G) 183 [.sl m 1 (xs.map encL),.fn (.func fid) [] caps] h (.int .i64 (match xs.findIdx? p with|some i=>(i:Int)|none => -1)):=by
 refine acN Tryz.func183 rfl ?_;show awp _ _ _ _ _ (EN _ [.tmp 4] _);simp -implicitDefEqProofs only[BC,BP,BA,A8,AY,BB,AO,AQ,AL,BD,AX,AC,AA,AZ,AU,BH,BG,A7,DZ,AB,BF,↓reduceIte,jA,jB,jC,enP,YU,jI];refine DK (fun n F H=>∃k,n+k=xs.length∧F 0=.sl m 1 (xs.map encL)∧F 1=.fn (.func fid) [] caps∧F 7=.int .i64 xs.length∧F 8=.int .i64 (k:Nat)∧H=h∧(xs.take k).all (fun r => !p r)=true) xs.length ⟨0,by simp,rfl,rfl,rfl,rfl,rfl,rfl⟩ ?_;rintro n F H ⟨k,hk,f0,f1,f7,f8,rfl,hin⟩;simp -implicitDefEqProofs only[BC,BA,BI,A8,AY,BB,AO,AQ,AL,BD,AX,AC,AA,AZ,BR,AB,CZ,↓reduceIte,jB,jC,enP,f0,f1,f7,f8,jI];refine CV (fun hc=>?_) (fun hc=>?_)
 .have hc':k<xs.length:=by simpa using hc
  simp -implicitDefEqProofs only[BC,BP,BA,BO,A8,AY,BB,AO,AQ,AL,BD,AX,AC,AA,AZ,BG,A7,BQ,CE,CB,BU,AB,jD,jE,zU,List.cons_append,↓reduceIte,jA,jB,jC,enP,OI,f0,f1,f7,f8,DU hc',DF KP hc',OC];refine(hf _).use ?_;simp -implicitDefEqProofs only[BI,A8,BB,AC,AA,AZ,↓reduceIte];refine CV (fun hb=>?_) (fun hb=>?_)
  .simp -implicitDefEqProofs only[BC,BA,BK,A8,CP,EE,FQ,CG,AY,BB,AO,AQ,AL,BD,AX,AC,AA,AZ,BG,A7,↓reduceIte,jA,jB,jC]
   refine⟨?_,trivial⟩
   rw[qV.2 ⟨hc',hb,fun j hj=>by
    rw[List.all_eq_true] at hin;have:=hin xs[j] (by rw[List.mem_take_iff_getElem]; exact⟨j,by omega,rfl⟩)
    simpa using this⟩]
  .simp -implicitDefEqProofs only[BA,BO,A8,EJ,EQ,AY,BB,AO,AQ,AL,BD,AX,AC,AA,AZ,AU,BH,BG,BR,AB,C9,↓reduceIte,jA,jB,jC,enP,f8,wrap_succ (show k<9223372036854775807 by omega)]
   refine⟨n-1,by omega,k+1,by omega,f0,f1,f7,rfl,trivial,?_⟩;rw[zL hc',List.all_append,hin];simp only[List.all_cons,List.all_nil,hb]; rfl
 .have hc':¬k<xs.length:=by simpa using hc
  simp -implicitDefEqProofs only[BC,BA,BK,DJ,A8,EG,EU,ET,CG,AY,BB,AO,AQ,AL,BD,AX,AC,AA,AU,BH,A7,↓reduceIte,jB,jC];refine⟨?_,trivial⟩;rw[jX (by omega)] at hin;rw[qW.2 (by simpa using hin)]
theorem SL (G:Nat->AV)(xs:List Is)(m:SM)(fid:FuncId)(caps:List AV)(p:Is->Bool)(h:Hp)(hl:xs.length<=1099511627776)
  (hf:∀r,PCall (En G) fid (.sl r.m 1 (r.l.map encI)::caps) h (.bool (p r))) :
  PCall (En G) 133 [.sl m 1 (xs.map encL),.fn (.func fid) [] caps] h (.bool (xs.any p)):=by
 refine acN Tryz.func133 rfl ?_;show awp _ _ _ _ _ (EN _ [.tmp 4] _);simp -implicitDefEqProofs only[BC,BA,A8,AY,BB,AO,AQ,AL,BD,AX,AC,AA,AZ,AU,BZ,BM,BG,A7,CB,BU,BF,BN,jD,jE,jF,↓reduceIte,jA,jB,jC,enP];refine(AK6 G xs m fid caps p h hl hf).use ?_;simp -implicitDefEqProofs only[BK,A8,CG,AY,BB,AO,AQ,AL,BD,AX,AC,AA,AZ,AU,BH,A7,BR,AB,G6,↓reduceIte,jB,jC,enP];refine⟨?_,trivial⟩
 cases hx:xs.findIdx? p with
 | some i =>
   obtain⟨h1,h2,_⟩:=qV.1 hx;have:xs.any p=true:=List.any_eq_true.2 ⟨xs[i],by simp,h2⟩;simp [this]
 | none =>
   have:xs.any p=false:=by
    rw[qW] at hx;rw[List.any_eq_false]; intro x hx2; simp [hx x hx2]
   simp [this]
theorem AH6 (G:Nat->AV)(ns:List Nat)(s:SM)(b:Nat)(r:Is)(h:Hp)(hb:h[b]?=some (.live 1 [[.sl s 1 (ns.map II)]]))(hn:ns.length<=1048576) :
  PCall (En G) 181 [.sl r.m 1 (r.l.map encI),.ptr b 0 0] h (.bool (!MS ns r.l)):=by
 refine acN Tryz.func181 rfl ?_;show awp _ _ _ _ _ (EN _ [.tmp 3] _);simp -implicitDefEqProofs only[BC,BA,A8,AY,BB,AO,AQ,AL,BD,AX,AC,AA,AZ,AU,BZ,BM,BG,A7,BQ,CB,BU,AB,BF,BN,jD,jE,jF,↓reduceIte,jA,jB,jC,enP,JS KP hb];refine(inside_prog G ns r.l s r.m h hn).use ?_;simp -implicitDefEqProofs only[BK,A8,CG,AY,BB,AO,AQ,AL,BD,AX,AC,AA,AZ,A7,IG,AB,FI,↓reduceIte,jB,jC];exact⟨trivial,trivial⟩
def WG (n:Nat):Option Int->List Int->Bool
 | _,[]=>true
 | o,p::ps=>(decide (0<=p)&&decide (p<(n:Int))&&(match o with|some q=>decide (q<p)|none=>true))&&WG n (some p) ps
def prev (l:List Int)(k:Nat):Option Int:=match k with
 | 0=>none
 | k+1=>l[k]?
theorem AGU (n:Nat)(l:List Int)(k:Nat)(hk:k<l.length):WG n (prev l k) (l.drop k)=((decide (0<=l[k])&&decide (l[k]<(n:Int))&&(match prev l k with|some q=>decide (q<l[k])|none=>true))&&WG n (prev l (k+1)) (l.drop (k+1))):=by
 rw[zK hk];have:prev l (k+1)=some l[k]:=by unfold prev; exact jS hk
 rw[this]; rfl
theorem XL {m:Mo}:∀ {l:List Int} {o:Option Int},WG m.pts.length o l=true->Here m l
 | [],_,_=>fun p hp=>by cases hp
 | x::l,o,h=>by
   simp only[WG,jV,decide_eq_true_eq] at h;intro p hp
   cases qR.1 hp with
   | inl e=>subst e; exact⟨h.1.1.1,h.1.1.2⟩
   | inr e=>exact XL h.2 p e
def IJ (m:Mo)(c:Cr):Int :=
 if IE c.name=false then 7 else if c.pts.length<2∨4<c.pts.length then 1 else if WG m.pts.length none c.pts=false then 1 else
  if 256<GK (szs m c.pts)∨256<c.excl.length then 2 else if(c.excl.any fun x => !MS (szs m c.pts) x.l) then 1 else 0
structure CrOk (c:Cr):Prop where
 name:c.name.size<=1048576
 pts:c.pts.length<=1048576
 excl:c.excl.length<=1048576
 each:∀x∈c.excl,x.l.length<=1048576
def Full (m:Mo):Prop:=∀p∈m.pts,1<=p.bins.length∧p.bins.length<=64
theorem Full.szs {m:Mo}{l:List Int}(hf:Full m)(hh:Here m l):∀n∈szs m l,1<=n∧n<=64:=by
 intro n hn;obtain⟨p,hp,rfl⟩:=List.mem_map.1 hn;obtain⟨h0,h1⟩:=hh p hp;have hlt:p.toNat<m.pts.length:=by omega
 have:JK m p=(m.pts[p.toNat]).bins:=by unfold JK; rw[jS hlt]
 rw[this];exact hf _ (jQ hlt)
theorem A6I (h:Hp):KQ Tryz.prog h 57=some (.ptr h.length 0 0,h++[.live 1 [[.sl .nil 0 []]]]):=KE (row:=[.sl .nil 0 []]) (by kernel_rfl)
theorem ldM {h:Hp}{b:Nat}{m:Mo}(hb:h[b]?=some (.live 2 [D5 m])):ED Tryz.prog h 25 (.ptr b 0 0)=some (.agg (D5 m)):=by
 rw[J4 A44 AXE hb rfl (by rw[Z5]; exact jL 2)]; rfl
theorem ldC {h:Hp}{b:Nat}{c:Cr}(hb:h[b]?=some (.live 3 [GG c])):ED Tryz.prog h 71 (.ptr b 0 0)=some (.agg (GG c)):=by
 rw[J4 AAD XY hb rfl (by rw[KD]; exact jL 3)]; rfl
theorem ANR (G:Nat->AV)(hG:GOk G)(m:Mo)(c:Cr)(hc:CrOk c)(hf:Full m)(h:Hp):PCall (En G) 130 [.agg (D5 m),.agg (GG c)] h (.int .i64 (IJ m c)):=by
 refine ACalls.pure0 rfl ?_;have hc1:=hc.name;have hc2:=hc.pts;have hc3:=hc.excl;refine acN Tryz.func130 rfl ?_;show awp _ _ _ _ _ (EN _ [.tmp 4] _);have gm:(h++[ABlk.live 2 [D5 m]]++[ABlk.live 3 [GG c]])[h.length]?=some (.live 2 [D5 m]):=CU (CX _ _);have gc:(h++[ABlk.live 2 [D5 m]]++[ABlk.live 3 [GG c]])[(h++[ABlk.live 2 [D5 m]]).length]?=some (.live 3 [GG c]):=CX _ _;have hx:∃x,h++[ABlk.live 2 [D5 m]]++[ABlk.live 3 [GG c]]=h++x:=⟨_,zA _ _ _⟩;have hlt:h.length<(h++[ABlk.live 2 [D5 m]]).length:=by simp
 simp -implicitDefEqProofs only[BC,BA,A8,AY,BB,AO,AQ,AL,BD,AX,AC,AA,AZ,AU,BH,A7,FU,BQ,BJ,BX,AB,BF,BN,↓reduceIte,jA,jK,jB,jC,enP,AIO,bxM,bxC]
 generalize h++[ABlk.live 2 [D5 m]]++[ABlk.live 3 [GG c]]=H at gm gc hx|-
 generalize (h++[ABlk.live 2 [D5 m]]).length=cb at gc hlt|-
 have lm:ED Tryz.prog H 22 (.ptr h.length 0 0)=some (.sl m.pm 6 (m.pts.map GL)):=by rw[DX WV gm (row:=D5 m) rfl,QJ]
 have lc0:ED Tryz.prog H 9 (.ptr cb 0 0)=some (.str c.name):=by rw[DX ag9 gc (row:=GG c) rfl,AP6]
 have lc1:ED Tryz.prog H 57 (.ptr cb 0 1)=some (.sl c.pm 1 (c.pts.map encI)):=by rw[DX KP gc (row:=GG c) rfl,AB6]
 have lc2:ED Tryz.prog H 26 (.ptr cb 0 2)=some (.sl c.xm 1 (c.excl.map encL)):=by rw[DX Q7 gc (row:=GG c) rfl,AP5]
 simp -implicitDefEqProofs only[AY,AO,AQ,AL,BD,AX,AC,AA,AZ,BZ,CB,BU,AB,jD,jE,jF,↓reduceIte,jB,jC,lc0];refine(OY G hG.kw c.name _ (by omega)).use ?_;simp -implicitDefEqProofs only[BI,A8,AY,BB,AO,AQ,AL,BD,AX,AC,AA,AZ,IG,AB,FI,↓reduceIte,jB,jC];cases h1:IE c.name
 .simp -implicitDefEqProofs only[BC,BA,BK,A8,CP,CG,DI,AY,BB,AO,AQ,AL,BD,AX,AC,AA,AU,BH,A7,↓reduceIte,jB,jC]
  exact⟨by unfold IJ; rw[if_pos h1],hx⟩
 have h1':¬IE c.name=false:=by rw[h1]; decide
 simp -implicitDefEqProofs only[BC,BA,BO,A8,DR,AY,BL,BV,CO,AO,AQ,AL,BD,AX,AC,AA,AZ,AU,BH,BG,BQ,BR,BJ,DZ,AB,CZ,↓reduceIte,jA,jG,jB,jR,jC,enP,JD,KO,lc1,jI];refine IK (fun h2=>?_) (fun h2=>?_)
 .simp -implicitDefEqProofs only[BC,BA,BK,BI,A8,CP,CG,DI,AY,BB,BL,BV,CO,F7,AO,AQ,AL,BD,AX,AC,AA,EW,AZ,AU,BH,BM,A7,CQ,DY,↓reduceIte,jA,jB,jC,h2]
  exact⟨by unfold IJ; rw[if_neg h1',if_pos (.inl (by simp at h2; omega))],hx⟩
 simp -implicitDefEqProofs only[BI,A8,AY,BB,BL,BV,CO,ES,AO,AQ,AL,BD,AX,AC,AA,AZ,AU,BH,BM,CQ,DW,BQ,BR,BJ,DZ,AB,FV,↓reduceIte,jA,jG,jB,jC,enP,JD,KO,h2,lc1,jI];refine CV (fun h3=>?_) (fun h3=>?_)
 .simp -implicitDefEqProofs only[BC,BA,BK,A8,CP,CG,AY,BB,AO,AQ,AL,BD,AX,AC,AA,AU,BH,A7,↓reduceIte,jB,jC]
  exact⟨by unfold IJ; rw[if_neg h1',if_pos (.inr (by simp at h3; omega))],hx⟩
 have h23:¬(c.pts.length<2∨4<c.pts.length):=by simp at h2 h3; omega
 simp -implicitDefEqProofs only[BC,BP,BA,BO,A8,AY,BB,AO,AQ,AL,BD,AX,AC,AA,AZ,AU,BH,BG,BQ,BJ,DZ,AB,↓reduceIte,jA,jG,jB,jC,enP,JD,KO,lc1,jI];refine GM 0 (fun F H'=>F 2=.ptr h.length 0 0∧F 3=.ptr cb 0 0∧H'=H∧WG m.pts.length none c.pts=true) (fun F H'=>F 4=.int .i64 1∧H'=H∧WG m.pts.length none c.pts=false) ?_ ?_ ?_
 .refine DK (fun n F H'=>∃k,n+k=c.pts.length∧F 2=.ptr h.length 0 0∧F 3=.ptr cb 0 0∧F 23=.sl c.pm 1 (c.pts.map encI)∧F 24=.int .i64 c.pts.length∧F 25=.int .i64 (k:Nat)∧H'=H∧WG m.pts.length none c.pts=WG m.pts.length (prev c.pts k) (c.pts.drop k)) c.pts.length ⟨0,by simp,by simp -implicitDefEqProofs only[AA,↓reduceIte,jA],by simp -implicitDefEqProofs only[AA,↓reduceIte,jA],by simp -implicitDefEqProofs only[AA,↓reduceIte,jA],by simp -implicitDefEqProofs only[AA,↓reduceIte,jA],by simp -implicitDefEqProofs only[AA,↓reduceIte]; rfl,rfl,rfl⟩ ?_
  rintro n F H' ⟨k,hk,f2,f3,f23,f24,f25,rfl,hi⟩;simp -implicitDefEqProofs only[BC,BA,BI,A8,AY,BB,AO,AQ,AL,BD,AX,AC,AA,AZ,BR,AB,CZ,↓reduceIte,jB,jC,enP,f24,f25];refine CV (fun hlt=>?_) (fun hlt=>?_)
  .have hk':k<c.pts.length:=by simpa using hlt
   rw[AGU _ _ _ hk'] at hi;simp -implicitDefEqProofs only[BC,BP,BA,BO,A8,AY,BB,BL,BV,CO,AO,AQ,AL,BD,AX,AC,AA,AZ,AU,BH,BG,A7,BQ,BR,CE,AB,CZ,↓reduceIte,jA,jB,jC,enP,JF,f2,f3,f23,f25,DU hk',DF ag3 hk',encI0];refine IK (fun ha=>?_) (fun ha=>?_)
   .simp -implicitDefEqProofs only[BC,BA,BK,BI,A8,CP,EE,NM,FQ,DI,AY,BB,BL,BV,CO,F7,SV,AO,AQ,AL,BD,AX,AC,AA,EW,AZ,AU,BH,BM,BG,A7,CQ,DY,↓reduceIte,jA,jB,jC,ha]
    have:decide (0<=c.pts[k])=false:=by simp at ha|-; omega
    exact⟨trivial,trivial,by rw[hi,this]; rfl⟩
   have ha':decide (0<=c.pts[k])=true:=by simp at ha|-; omega
   simp -implicitDefEqProofs only[AY,BL,BV,CO,ES,AO,AQ,AL,BD,AX,AC,AA,AZ,AU,BM,BG,CQ,DW,BQ,BR,BJ,DZ,AB,G6,↓reduceIte,jA,jK,jB,jC,enP,QZ,IP,ha,f2,lm,jI];refine IK (fun hb=>?_) (fun hb=>?_)
   .simp -implicitDefEqProofs only[BC,BA,BK,BI,A8,CP,EE,NM,FQ,DI,AY,BB,BL,BV,CO,F7,SV,AO,AQ,AL,BD,AX,AC,AA,EW,AZ,AU,BH,BM,A7,CQ,DY,↓reduceIte,jA,jB,jC,hb]
    have:decide (c.pts[k]<(m.pts.length:Int))=false:=by simp at hb|-; omega
    exact⟨trivial,trivial,by rw[hi,this,ha']; rfl⟩
   have hb':decide (c.pts[k]<(m.pts.length:Int))=true:=by simp at hb|-; omega
   rw[ha',hb'] at hi;simp only[wB] at hi
   cases k with
   | zero =>
     have hz:decide ((((0:Nat):Int))>0)=false:=by decide
     simp -implicitDefEqProofs only[BA,BO,BI,A8,EJ,EQ,DR,AY,BB,BL,BV,CO,ES,IU,AO,AQ,AL,BD,AX,AC,AA,EW,AZ,AU,BH,BM,BG,CQ,DW,BR,AB,C9,FV,↓reduceIte,jA,jG,jB,jC,enP,hb,hz,f25,wrap_succ (show 0<9223372036854775807 by omega)];exact⟨n-1,by omega,1,by omega,f2,f3,f23,f24,rfl,trivial,by rw[hi]; rfl⟩
   | succ k =>
     have hz:decide ((((k+1:Nat):Int))>0)=true:=by simp
     have hw:IntKind.i64.wrap (((k+1:Nat):Int)-1)=(k:Int):=by rw[wrap_i64 (by omega) (by omega)]; omega
     have hk2:k<c.pts.length:=by omega
     have hpv:prev c.pts (k+1)=some c.pts[k]:=by unfold prev; exact jS hk2
     rw[hpv] at hi;simp -implicitDefEqProofs only[BI,A8,AY,BB,BL,BV,CO,GH,ES,AO,AQ,AL,BD,AX,AC,AA,AZ,AU,BH,BM,BG,CQ,DY,DW,BQ,BR,BJ,CE,AB,J9,JA,FV,↓reduceIte,jA,jG,jB,jC,enP,JF,KO,hb,hz,f3,lc1,hw,DU hk2,DF ag3 hk2,encI0];refine CV (fun hd=>?_) (fun hd=>?_)
     .simp -implicitDefEqProofs only[BC,BA,BK,A8,CP,EE,NM,FQ,AY,BB,AO,AQ,AL,BD,AX,AC,AA,AU,BH,A7,↓reduceIte,jB,jC]
      have:decide (c.pts[k]<c.pts[k+1])=false:=by simp at hd|-; omega
      exact⟨trivial,trivial,by rw[hi]; simp only[this]; rfl⟩
     .simp -implicitDefEqProofs only[BA,BO,A8,EJ,EQ,AY,BB,AO,AQ,AL,BD,AX,AC,AA,AZ,AU,BH,BG,BR,AB,C9,↓reduceIte,jA,jB,jC,enP,f25,wrap_succ (show k+1<9223372036854775807 by omega)]
      have:decide (c.pts[k]<c.pts[k+1])=true:=by simp at hd|-; omega
      exact⟨n-1,by omega,k+1+1,by omega,f2,f3,f23,f24,rfl,trivial,by rw[hi]; simp only[this]; rfl⟩
  .have hk':¬k<c.pts.length:=by simpa using hlt
   simp -implicitDefEqProofs only[DJ,EG,KC,ET,AA,↓reduceIte,jA];exact⟨f2,f3,trivial,by rw[hi,jW (by omega)]; rfl⟩
 .rintro F H' ⟨f2,f3,rfl,hi⟩
  have hh:=XL hi;have hi':¬WG m.pts.length none c.pts=false:=by rw[hi]; decide
  simp -implicitDefEqProofs only[BC,BA,A8,EU,AY,AO,AQ,AL,BD,AX,AC,AA,AZ,BZ,BQ,CB,BU,AB,jD,jE,jF,↓reduceIte,jA,jB,jC,enP,f2,f3,ldM gm,ldC gc];refine(RS G m c _ hh (by omega)).use ?_;have hsz:(szs m c.pts).length<=4:=by unfold szs; simp; omega
  have hst:=TB (t:=57) (v:=.sl .nil 0 []) (u:=.sl (nm (szs m c.pts)) 1 ((szs m c.pts).map II)) VY (AWT _ _ _) (CX H' (.live 1 [[.sl .nil 0 []]]));rw[ACW] at hst;simp -implicitDefEqProofs only[BC,BP,BA,A8,AY,BB,AO,AQ,AL,BD,AX,AC,EM,AA,AZ,BZ,EX,BQ,D6,CB,BU,BX,AB,CY,jD,jE,jF,↓reduceIte,jA,jB,jC,enP,jP,A6I,hst,JS KP (CX H' _)];refine(QX G _ _ _ (fun n hn=>(hf.szs hh n hn).2) hsz).use ?_
  have hx2:∃x,H'++[ABlk.live 1 [[AV.sl (nm (szs m c.pts)) 1 ((szs m c.pts).map II)]]]=h++x:=by
   obtain⟨x,hx⟩:=hx;exact⟨x++_,by rw[hx,zA]⟩
  have lc2':∀x,ED Tryz.prog (H'++[x]) 26 (.ptr cb 0 2)=some (.sl c.xm 1 (c.excl.map encL)):=fun x=>by rw[DX Q7 (CU gc) (row:=GG c) rfl,AP5]
  simp -implicitDefEqProofs only[AY,BL,BV,CO,AO,AQ,AL,BD,AX,AC,AA,AZ,AU,BH,BG,BR,AB,FV,↓reduceIte,jB,jC,enP];refine IK (fun ha=>?_) (fun ha=>?_)
  .simp -implicitDefEqProofs only[BC,BA,BK,BI,A8,CP,EE,CG,DI,AY,BB,BL,BV,CO,F7,AO,AQ,AL,BD,AX,AC,AA,EW,AZ,AU,BH,BM,A7,CQ,DY,↓reduceIte,jA,jB,jC,ha]
   exact⟨by unfold IJ; rw[if_neg h1',if_neg h23,if_neg hi',if_pos (.inl (by simp at ha; omega))],hx2⟩
  simp -implicitDefEqProofs only[BI,A8,AY,BB,BL,BV,CO,ES,AO,AQ,AL,BD,AX,AC,AA,AZ,AU,BH,BM,A7,CQ,DW,BQ,BR,BJ,DZ,AB,FV,↓reduceIte,jA,jG,jB,jC,enP,YU,U8,ha,f3,lc2',jI];refine CV (fun hb=>?_) (fun hb=>?_)
  .simp -implicitDefEqProofs only[BC,BA,BK,A8,CP,EE,CG,AY,BB,AO,AQ,AL,BD,AX,AC,AA,AU,BH,A7,↓reduceIte,jB,jC]
   exact⟨by unfold IJ; rw[if_neg h1',if_neg h23,if_neg hi',if_pos (.inr (by simp at hb; omega))],hx2⟩
  have hab:¬(256<GK (szs m c.pts)∨256<c.excl.length):=by simp at ha hb; omega
  simp -implicitDefEqProofs only[BC,BA,AY,AO,AQ,AL,BD,AX,AC,AA,AZ,BZ,BQ,I7,BJ,CB,BU,AB,jD,jE,jF,↓reduceIte,jA,jG,jB,jC,enP,U8,f3,lc2'];refine(SL G c.excl c.xm 181 _ (fun x => !MS (szs m c.pts) x.l) _ (by omega) fun r=>AH6 G _ _ _ r _ (CX H' _) (by omega)).use ?_;simp -implicitDefEqProofs only[BI,A8,AY,BB,AO,AQ,AL,BD,AX,AC,AA,AZ,A7,↓reduceIte,jB,jC];cases he:c.excl.any fun x => !MS (szs m c.pts) x.l
  .simp -implicitDefEqProofs only[BC,BA,BO,BK,A8,EJ,CG,DR,AY,BB,AO,AQ,AL,BD,AX,AC,AA,AU,BH,A7,↓reduceIte,jB,jC]
   exact⟨by unfold IJ; rw[if_neg h1',if_neg h23,if_neg hi',if_neg hab,he]; rfl,hx2⟩
  .simp -implicitDefEqProofs only[BC,BA,BK,A8,CP,EE,CG,DI,AY,BB,AO,AQ,AL,BD,AX,AC,AA,AU,BH,A7,↓reduceIte,jB,jC]
   exact⟨by unfold IJ; rw[if_neg h1',if_neg h23,if_neg hi',if_neg hab,he]; rfl,hx2⟩
 .rintro F H' ⟨f4,rfl,hi⟩
  simp -implicitDefEqProofs only[CP,EE,CG,f4];exact⟨by unfold IJ; rw[if_neg h1',if_neg h23,if_pos hi],hx⟩
theorem AHR (m:Mo)(l:List Int)(k:Nat)(hk:k<l.length):(szs m l)[k]?=some (JK m l[k]).length:=by
 unfold szs; rw[zH,jS hk]; rfl
theorem LJ (m:Mo)(l:List Int):(szs m l).length=l.length:=by unfold szs; simp
structure Two (h H:Hp) (m:Mo) (c:Cr) (cb:Nat):Prop where
 gm:H[h.length]?=some (.live 2 [D5 m])
 gc:H[cb]?=some (.live 3 [GG c])
 hx:∃x,H=h++x
theorem Two.lm {h H:Hp}{m:Mo}{c:Cr}{cb:Nat}(t:Two h H m c cb):ED Tryz.prog H 22 (.ptr h.length 0 0)=some (.sl m.pm 6 (m.pts.map GL)):=by rw[DX WV t.gm (row:=D5 m) rfl,QJ]
theorem Two.l0 {h H:Hp}{m:Mo}{c:Cr}{cb:Nat}(t:Two h H m c cb):ED Tryz.prog H 9 (.ptr cb 0 0)=some (.str c.name):=by rw[DX ag9 t.gc (row:=GG c) rfl,AP6]
theorem Two.l1 {h H:Hp}{m:Mo}{c:Cr}{cb:Nat}(t:Two h H m c cb):ED Tryz.prog H 57 (.ptr cb 0 1)=some (.sl c.pm 1 (c.pts.map encI)):=by rw[DX KP t.gc (row:=GG c) rfl,AB6]
theorem Two.l2 {h H:Hp}{m:Mo}{c:Cr}{cb:Nat}(t:Two h H m c cb):ED Tryz.prog H 26 (.ptr cb 0 2)=some (.sl c.xm 1 (c.excl.map encL)):=by rw[DX Q7 t.gc (row:=GG c) rfl,AP5]
theorem Two.mk' (h:Hp)(m:Mo)(c:Cr):Two h (h++[.live 2 [D5 m]]++[.live 3 [GG c]]) m c (h++[ABlk.live 2 [D5 m]]).length:=⟨CU (CX _ _),CX _ _,⟨_,zA _ _ _⟩⟩
theorem XT (G:Nat->AV)(m:Mo)(c:Cr)(h:Hp)(hh:Here m c.pts)(hf:Full m)(hl:c.pts.length<=1048576):PCall (En G) 89 [.agg (D5 m),.agg (GG c)] h (.int .i64 (min (GK (szs m c.pts)) 1000)):=by
 refine ACalls.pure0 rfl ?_;refine acN Tryz.func89 rfl ?_;show awp _ _ _ _ _ (EN _ [.tmp 4] _);have t:=Two.mk' h m c;simp -implicitDefEqProofs only[BC,BP,BA,A8,AY,BB,AO,AQ,AL,BD,AX,AC,AA,AZ,AU,BH,A7,FU,BX,BF,BN,↓reduceIte,jA,jB,jC,enP,bxM,bxC]
 generalize h++[ABlk.live 2 [D5 m]]++[ABlk.live 3 [GG c]]=H at t|-
 generalize (h++[ABlk.live 2 [D5 m]]).length=cb at t|-
 have hs:=hf.szs hh;refine GM 0 (fun F H'=>(F 5=.int .i64 (GK (szs m c.pts):Nat)∨∃n:Nat,1000<=n∧n<=GK (szs m c.pts)∧F 5=.int .i64 n)∧H'=H) (fun _ _=>False) ?_ ?_ (fun _ _ hh=>hh.elim)
 .refine DK (fun n F H'=>∃k,n+k=c.pts.length∧F 2=.ptr h.length 0 0∧F 3=.ptr cb 0 0∧F 5=.int .i64 (GK ((szs m c.pts).take k):Nat)∧F 6=.int .i64 (k:Nat)∧H'=H) c.pts.length ⟨0,by simp,by simp -implicitDefEqProofs only[AA,↓reduceIte,jA],by simp -implicitDefEqProofs only[AA,↓reduceIte,jA],by simp -implicitDefEqProofs only[AA,↓reduceIte,jA]; rfl,by simp -implicitDefEqProofs only[AA,↓reduceIte]; rfl,rfl⟩ ?_
  rintro n F H' ⟨k,hk,f2,f3,f5,f6,rfl⟩;simp -implicitDefEqProofs only[BC,BA,AY,BL,BV,CO,AO,AQ,AL,BD,AX,AC,AA,AZ,BG,BQ,BR,BJ,DZ,AB,CZ,↓reduceIte,jA,jG,jB,jC,enP,JD,KO,f3,f6,t.l1,jI];refine IK (fun ha=>?_) (fun ha=>?_)
  .have hk':k<c.pts.length:=by simpa using ha
   simp -implicitDefEqProofs only[BI,A8,AY,BB,BL,BV,CO,GH,AO,AQ,AL,BD,AX,AC,AA,AZ,AU,BH,BM,BG,CQ,DY,BR,AB,CZ,↓reduceIte,jA,jB,jC,enP,ha,f5];refine CV (fun hb=>?_) (fun hb=>?_)
   .have hb':GK ((szs m c.pts).take k)<1000:=by simp at hb; omega
    obtain⟨s,ls⟩:=hh.ld hk' H';have hks:k<(szs m c.pts).length:=by rw[LJ]; exact hk'
    have hgt:(szs m c.pts)[k]=(JK m c.pts[k]).length:=IM (AHR m c.pts k hk');have h64:=(hs _ (jQ hks)).2;rw[hgt] at h64;have hpt:=RX (szs m c.pts) k hks;rw[hgt] at hpt;have hmul:GK ((szs m c.pts).take k)*(JK m c.pts[k]).length<=1000*64:=Nat.mul_le_mul (by omega) h64
    have hw:IntKind.i64.wrap ((GK ((szs m c.pts).take k):Int)*((JK m c.pts[k]).length:Int))=((GK ((szs m c.pts).take (k+1)):Nat):Int):=by
     rw[hpt,<-Int.natCast_mul,MC (by omega)]
    simp -implicitDefEqProofs only[BC,BP,BO,A8];refine E8 (by kernel_rfl) ?_;simp -implicitDefEqProofs only[F6,EH,DT,FB,EI,FT,JW,FH,I4,D9,EF,IW,BA,A8,EJ,EQ,AY,BB,AO,AQ,AL,BD,AX,AC,AA,AZ,AU,BH,BG,A7,BQ,BR,BJ,CE,DZ,AB,C9,QB,↓reduceIte,jA,jM,jK,jG,jB,jC,enP,S9,IP,RZ,I9,JF,KO,f2,f3,f5,f6,t.lm,t.l1,DU hk',DF ag3 hk',encI0,hh.ix hk',ls,jI,hw,wrap_succ (show k<9223372036854775807 by omega)];exact⟨n-1,by omega,k+1,by omega,trivial,trivial,rfl,rfl,trivial⟩
   .simp -implicitDefEqProofs only[DJ,EG,KC,ET,AA,↓reduceIte,jA]
    exact⟨.inr ⟨_,by simp at hb; omega,AD2 _ _ (fun n hn=>(hs n hn).1),f5⟩,trivial⟩
  .have hk':¬k<c.pts.length:=by simpa using ha
   simp -implicitDefEqProofs only[DJ,BI,A8,EG,KC,ET,DR,AY,BB,BL,BV,CO,IU,AO,AQ,AL,BD,AX,AC,AA,EW,AZ,AU,BM,CQ,DW,↓reduceIte,jA,jB,jC,ha];refine⟨.inl ?_,trivial⟩;rw[jX (by rw[LJ]; omega)] at f5;exact f5
 .rintro F H' ⟨f5,rfl⟩
  rcases f5 with f5|⟨n,h1,h2,f5⟩
  .simp -implicitDefEqProofs only[BC,BA,BK,A8,EU,CG,AY,BB,AO,AQ,AL,BD,AX,AC,AA,AZ,AU,BH,BG,A7,AF9,AB,AAY,↓reduceIte,jB,jC,f5]
   exact⟨trivial,t.hx⟩
  .simp -implicitDefEqProofs only[BC,BA,BK,A8,EU,CG,AY,BB,AO,AQ,AL,BD,AX,AC,AA,AZ,AU,BH,BG,A7,AF9,AB,AAY,↓reduceIte,jB,jC,f5]
   exact⟨by congr 1; omega,t.hx⟩
def placed (m:Mo)(c:Cr):Bool:=decide (2<=c.pts.length)&&decide (c.pts.length<=4)&&WG m.pts.length none c.pts
theorem AMU (G:Nat->AV)(m:Mo)(c:Cr)(h:Hp)(hl:c.pts.length<=1048576):PCall (En G) 171 [.agg (D5 m),.agg (GG c)] h (.bool (placed m c)):=by
 refine ACalls.pure0 rfl ?_;refine acN Tryz.func171 rfl ?_;show awp _ _ _ _ _ (EN _ [.tmp 4] _);have t:=Two.mk' h m c;simp -implicitDefEqProofs only[BC,BA,A8,AY,BB,AO,AQ,AL,BD,AX,AC,AA,AZ,AU,BM,A7,FU,BQ,BJ,BX,AB,BF,BN,↓reduceIte,jA,jG,jB,jC,enP,KO,bxM,bxC]
 generalize h++[ABlk.live 2 [D5 m]]++[ABlk.live 3 [GG c]]=H at t|-
 generalize (h++[ABlk.live 2 [D5 m]]).length=cb at t|-
 simp -implicitDefEqProofs only[AY,BL,BV,CO,AO,AQ,AL,BD,AX,AC,AA,AZ,AU,BH,BG,BR,DZ,AB,CZ,↓reduceIte,jB,jC,enP,JD,t.l1,jI];refine IK (fun h2=>?_) (fun h2=>?_)
 .simp -implicitDefEqProofs only[BC,BA,BK,BI,A8,CP,CG,DI,AY,BB,BL,BV,CO,F7,AO,AQ,AL,BD,AX,AC,AA,EW,AZ,AU,BM,A7,CQ,DY,↓reduceIte,jA,jB,jC,h2]
  have:decide (2<=c.pts.length)=false:=by simp at h2|-; omega
  exact⟨by unfold placed; rw[this]; rfl,t.hx⟩
 have d2:decide (2<=c.pts.length)=true:=by simp at h2|-; omega
 simp -implicitDefEqProofs only[BI,A8,AY,BB,BL,BV,CO,ES,AO,AQ,AL,BD,AX,AC,AA,AZ,AU,BH,BM,CQ,DW,BQ,BR,BJ,DZ,AB,FV,↓reduceIte,jA,jG,jB,jC,enP,JD,KO,h2,t.l1,jI];refine CV (fun h3=>?_) (fun h3=>?_)
 .simp -implicitDefEqProofs only[BC,BA,BK,A8,CP,CG,AY,BB,AO,AQ,AL,BD,AX,AC,AA,AU,BM,A7,↓reduceIte,jB,jC]
  have:decide (c.pts.length<=4)=false:=by simp at h3|-; omega
  exact⟨by unfold placed; rw[this]; simp,t.hx⟩
 have d3:decide (c.pts.length<=4)=true:=by simp at h3|-; omega
 have hpl:placed m c=WG m.pts.length none c.pts:=by unfold placed; rw[d2,d3]; rfl
 rw[hpl];simp -implicitDefEqProofs only[BC,BP,BA,BO,A8,AY,BB,AO,AQ,AL,BD,AX,AC,AU,BH,A7,jB,jC];refine DK (fun n F H'=>∃k,n+k=c.pts.length∧F 2=.ptr h.length 0 0∧F 3=.ptr cb 0 0∧F 5=.int .i64 (k:Nat)∧H'=H∧WG m.pts.length none c.pts=WG m.pts.length (prev c.pts k) (c.pts.drop k)) c.pts.length ⟨0,by simp,by simp -implicitDefEqProofs only[AA,↓reduceIte,jA],by simp -implicitDefEqProofs only[AA,↓reduceIte,jA],by simp -implicitDefEqProofs only[AA,↓reduceIte]; rfl,rfl,rfl⟩ ?_;rintro n F H' ⟨k,hk,f2,f3,f5,rfl,hi⟩;simp -implicitDefEqProofs only[BC,BA,BI,A8,AY,BB,AO,AQ,AL,BD,AX,AC,AA,AZ,BG,BQ,BR,BJ,DZ,AB,CZ,↓reduceIte,jA,jG,jB,jC,enP,JD,KO,f3,f5,t.l1,jI];refine CV (fun hlt=>?_) (fun hlt=>?_)
 .have hk':k<c.pts.length:=by simpa using hlt
  rw[AGU _ _ _ hk'] at hi;simp -implicitDefEqProofs only[BC,BP,BO,A8];refine E8 (by kernel_rfl) ?_;simp -implicitDefEqProofs only[F6,EH,DT,EI,FN,GI,FT,FH,I4,D9,EF,CO,AO,AA,AZ,AU,BH,BQ,BR,BJ,CE,AB,CZ,↓reduceIte,jA,jM,jG,jB,enP,JF,KO,f2,f3,f5,t.l1,DU hk',DF ag3 hk',encI0];refine AMC (fun ha=>?_) (fun ha=>?_)
  .simp -implicitDefEqProofs only[F6,EH,DT,FB,EI,FN,GI,AAH,A2G,FT,I5,BC,BA,BK,BI,A8,CP,EE,FQ,CG,DI,AY,BB,CO,AO,AQ,AL,BD,AX,AC,AA,EW,AZ,AU,BM,A7,CQ,DY,↓reduceIte,jA,jM,jB,jC,ha]
   have:decide (0<=c.pts[k])=false:=by simp at ha|-; omega
   exact⟨by rw[hi,this]; rfl,t.hx⟩
  have ha':decide (0<=c.pts[k])=true:=by simp at ha|-; omega
  simp -implicitDefEqProofs only[F6,EH,DT,EI,FN,GI,UW,FT,I5,FH,I4,D9,EF,IW,CO,AO,AA,AZ,AU,BM,CQ,DW,BQ,BR,BJ,CE,DZ,AB,G6,↓reduceIte,jA,jM,jK,jG,jB,enP,QZ,IP,JF,KO,ha,f2,f3,f5,t.lm,t.l1,DU hk',DF ag3 hk',encI0,jI];refine AMC (fun hb=>?_) (fun hb=>?_)
  .simp -implicitDefEqProofs only[F6,EH,DT,FB,EI,FN,GI,AAH,A2G,I5,BC,BA,BK,BI,A8,CP,EE,FQ,CG,DI,AY,BB,CO,AO,AQ,AL,BD,AX,AC,AA,EW,AZ,AU,BM,A7,CQ,DY,↓reduceIte,jA,jM,jB,jC,hb]
   have:decide (c.pts[k]<(m.pts.length:Int))=false:=by simp at hb|-; omega
   exact⟨by rw[hi,this,ha']; rfl,t.hx⟩
  have hb':decide (c.pts[k]<(m.pts.length:Int))=true:=by simp at hb|-; omega
  rw[ha',hb'] at hi;simp only[wB] at hi
  cases k with
  | zero =>
    have hz:decide ((((0:Nat):Int))>0)=false:=by decide
    simp -implicitDefEqProofs only[F6,EH,DT,FB,EI,FN,GI,UW,ACH,FT,I5,I4,BA,BO,BI,A8,EJ,EQ,DR,AY,BB,CO,AO,AQ,AL,BD,AX,AC,AA,EW,AZ,AU,BH,BM,BG,A7,CQ,DW,BR,AB,C9,FV,↓reduceIte,jA,jM,jG,jB,jC,enP,hb,hz,f5,wrap_succ (show 0<9223372036854775807 by omega)];exact⟨n-1,by omega,1,by omega,f2,f3,rfl,trivial,by rw[hi]; rfl⟩
  | succ k =>
    have hz:decide ((((k+1:Nat):Int))>0)=true:=by simp
    have hw:IntKind.i64.wrap (((k+1:Nat):Int)-1)=(k:Int):=by rw[wrap_i64 (by omega) (by omega)]; omega
    have hk2:k<c.pts.length:=by omega
    have hpv:prev c.pts (k+1)=some c.pts[k]:=by unfold prev; exact jS hk2
    rw[hpv] at hi;simp -implicitDefEqProofs only[F6,EH,DT,FB,EI,FN,GI,VN,UW,FT,I5,FH,I4,D9,EF,BI,A8,CO,AO,AA,AZ,AU,BH,BM,CQ,DY,DW,BQ,BR,BJ,CE,AB,J9,JA,FV,↓reduceIte,jA,jM,jG,jB,enP,JF,KO,hb,hz,f3,f5,t.l1,hw,DU hk',DU hk2,DF ag3 hk',DF ag3 hk2,encI0];refine CV (fun hd=>?_) (fun hd=>?_)
    .simp -implicitDefEqProofs only[BC,BA,BK,A8,CP,EE,FQ,CG,AY,BB,AO,AQ,AL,BD,AX,AC,AA,AU,BM,A7,↓reduceIte,jB,jC]
     have:decide (c.pts[k]<c.pts[k+1])=false:=by simp at hd|-; omega
     exact⟨by rw[hi]; simp only[this]; rfl,t.hx⟩
    .simp -implicitDefEqProofs only[BA,BO,A8,EJ,EQ,AY,BB,AO,AQ,AL,BD,AX,AC,AA,AZ,AU,BH,BG,A7,BR,AB,C9,↓reduceIte,jA,jB,jC,enP,f5,wrap_succ (show k+1<9223372036854775807 by omega)]
     have:decide (c.pts[k]<c.pts[k+1])=true:=by simp at hd|-; omega
     exact⟨n-1,by omega,k+1+1,by omega,f2,f3,rfl,trivial,by rw[hi]; simp only[this]; rfl⟩
 .have hk':¬k<c.pts.length:=by simpa using hlt
  simp -implicitDefEqProofs only[BC,BA,BK,DJ,A8,EG,EU,ET,CG,AY,BB,AO,AQ,AL,BD,AX,AC,AA,AU,BM,A7,↓reduceIte,jB,jC];exact⟨by rw[hi,jW (by omega)]; rfl,t.hx⟩
theorem ACQ (G:Nat->AV)(m:Mo)(c:Cr)(x:Is)(h:Hp)(hh:Here m c.pts)(hl:c.pts.length<=1048576):PCall (En G) 172 [.agg (D5 m),.agg (GG c),.sl x.m 1 (x.l.map encI)] h (.bool (MS (szs m c.pts) x.l)):=by
 refine ACalls.pure0 rfl ?_;refine acN Tryz.func172 rfl ?_;show awp _ _ _ _ _ (EN _ [.tmp 6] _);have t:=Two.mk' h m c;simp -implicitDefEqProofs only[BC,BA,A8,AY,BB,AO,AQ,AL,BD,AX,AC,AA,AZ,AU,BM,BG,A7,FU,BQ,BJ,DZ,BX,AB,BF,BN,↓reduceIte,jA,jG,jB,jC,enP,JD,KO,bxM,bxC]
 generalize h++[ABlk.live 2 [D5 m]]++[ABlk.live 3 [GG c]]=H at t|-
 generalize (h++[ABlk.live 2 [D5 m]]).length=cb at t|-
 simp -implicitDefEqProofs only[BI,A8,AY,BB,AO,AQ,AL,BD,AX,AC,AA,AZ,BR,DZ,AB,EK,↓reduceIte,jA,jB,jC,enP,JD,t.l1,jI];refine CV (fun h2=>?_) (fun h2=>?_)
 .simp -implicitDefEqProofs only[BC,BA,BK,A8,CP,CG,AY,BB,AO,AQ,AL,BD,AX,AC,AA,AU,BM,A7,↓reduceIte,jB,jC]
  have:MS (szs m c.pts) x.l=false:=by
   rw[<-qO]; intro e;have:=QI e;rw[LJ] at this;simp at h2; omega
  exact⟨by rw[this],t.hx⟩
 have hlen:x.l.length=c.pts.length:=by simp at h2; omega
 simp -implicitDefEqProofs only[BC,BP,BA,BO,A8,AY,BB,AO,AQ,AL,BD,AX,AC,AU,BH,A7,jB,jC];refine DK (fun n F H'=>∃k,n+k=x.l.length∧F 2=.sl x.m 1 (x.l.map encI)∧F 3=.ptr h.length 0 0∧F 4=.ptr cb 0 0∧F 7=.int .i64 (k:Nat)∧H'=H∧MS (szs m c.pts) x.l=MS ((szs m c.pts).drop k) (x.l.drop k)) x.l.length ⟨0,by simp,by simp -implicitDefEqProofs only[AA,BF,BN,↓reduceIte,jA],by simp -implicitDefEqProofs only[AA,↓reduceIte,jA],by simp -implicitDefEqProofs only[AA,↓reduceIte,jA],by simp -implicitDefEqProofs only[AA,↓reduceIte]; rfl,rfl,rfl⟩ ?_;rintro n F H' ⟨k,hk,f2,f3,f4,f7,rfl,hi⟩;simp -implicitDefEqProofs only[BC,BA,BI,A8,AY,BB,AO,AQ,AL,BD,AX,AC,AA,AZ,BG,BR,DZ,AB,CZ,↓reduceIte,jA,jB,jC,enP,JD,f2,f7,jI];refine CV (fun hlt=>?_) (fun hlt=>?_)
 .have hk':k<x.l.length:=by simpa using hlt
  have hkc:k<c.pts.length:=by omega
  have hks:k<(szs m c.pts).length:=by rw[LJ]; exact hkc
  have hgt:(szs m c.pts)[k]=(JK m c.pts[k]).length:=IM (AHR m c.pts k hkc);rw[zK hk',zK hks,hgt] at hi;obtain⟨s,ls⟩:=hh.ld hkc H';simp -implicitDefEqProofs only[BC,BP,BO,A8];refine E8 (by kernel_rfl) ?_;simp -implicitDefEqProofs only[F6,EH,DT,EI,FN,GI,FT,FH,I4,EF,CO,AO,AA,AZ,AU,BH,BQ,BR,CE,AB,CZ,↓reduceIte,jA,jM,jB,enP,JF,f2,f3,f4,f7,DU hk',DF ag3 hk',encI0];refine AMC (fun ha=>?_) (fun ha=>?_)
  .simp -implicitDefEqProofs only[F6,EH,DT,FB,EI,FN,GI,AAH,I5,BC,BA,BK,BI,A8,CP,EE,FQ,CG,DI,AY,BB,CO,AO,AQ,AL,BD,AX,AC,AA,EW,AZ,AU,BM,A7,CQ,DY,↓reduceIte,jA,jM,jB,jC,ha]
   have:decide (0<=x.l[k])=false:=by simp at ha|-; omega
   exact⟨by rw[hi]; unfold MS; rw[this]; rfl,t.hx⟩
  have h0:decide (0<=x.l[k])=true:=by simp at ha|-; omega
  simp -implicitDefEqProofs only[F6,EH,DT,FB,EI,FN,GI,UW,FT,I5,FH,I4,D9,EF,IW,BI,A8,CO,AO,AA,AZ,AU,BM,CQ,DW,BQ,BR,BJ,CE,DZ,AB,G6,↓reduceIte,jA,jM,jK,jG,jB,enP,S9,IP,RZ,I9,JF,KO,ha,f2,f3,f4,f7,t.lm,t.l1,DU hk',DF ag3 hk',DU hkc,DF ag3 hkc,encI0,hh.ix hkc,ls,jI];refine CV (fun hd=>?_) (fun hd=>?_)
  .simp -implicitDefEqProofs only[BC,BA,BK,A8,CP,EE,FQ,CG,AY,BB,AO,AQ,AL,BD,AX,AC,AA,AU,BM,A7,↓reduceIte,jB,jC]
   have:decide (x.l[k]<((JK m c.pts[k]).length:Int))=false:=by simp at hd|-; omega
   exact⟨by rw[hi]; unfold MS; rw[this,h0]; rfl,t.hx⟩
  .simp -implicitDefEqProofs only[BA,BO,A8,EJ,EQ,AY,BB,AO,AQ,AL,BD,AX,AC,AA,AZ,AU,BH,BG,A7,BR,AB,C9,↓reduceIte,jA,jB,jC,enP,f7,wrap_succ (show k<9223372036854775807 by omega)]
   have h1:decide (x.l[k]<((JK m c.pts[k]).length:Int))=true:=by simp at hd|-; omega
   refine⟨n-1,by omega,k+1,by omega,f2,f3,f4,rfl,trivial,?_⟩;rw[hi]
   conv=>lhs; unfold MS
   rw[h0,h1]; rfl
 .have hk':¬k<x.l.length:=by simpa using hlt
  simp -implicitDefEqProofs only[BC,BA,BK,DJ,A8,EG,EU,ET,CG,AY,BB,AO,AQ,AL,BD,AX,AC,AA,AU,BM,A7,↓reduceIte,jB,jC];exact⟨by rw[hi,jW (show x.l.length<=k by omega),jW (by rw[LJ]; omega)]; rfl,t.hx⟩
theorem AR1 (G:Nat->AV)(m:Mo)(c:Cr)(hc:CrOk c)(hf:Full m)(h:Hp):PCall (En G) 108 [.agg (D5 m),.agg (GG c)] h (.int .i64 (IJ m c)):=by
 refine ACalls.pure0 rfl ?_;have hc2:=hc.pts;have hc3:=hc.excl;refine acN Tryz.func108 rfl ?_;show awp _ _ _ _ _ (EN _ [.tmp 4] _);have t:=Two.mk' h m c;simp -implicitDefEqProofs only[BC,BA,A8,AY,BB,AO,AQ,AL,BD,AX,AC,AA,AZ,AU,BH,A7,FU,BQ,BJ,BX,AB,BF,BN,↓reduceIte,jA,jK,jB,jC,enP,AIO,bxM,bxC]
 generalize h++[ABlk.live 2 [D5 m]]++[ABlk.live 3 [GG c]]=H at t|-
 generalize (h++[ABlk.live 2 [D5 m]]).length=cb at t|-
 simp -implicitDefEqProofs only[AY,AO,AQ,AL,BD,AX,AC,AA,AZ,BZ,CB,BU,AB,jD,jE,jF,↓reduceIte,jB,jC,t.l0];refine(PV G c.name _).use ?_;simp -implicitDefEqProofs only[BI,A8,AY,BB,AO,AQ,AL,BD,AX,AC,AA,AZ,IG,AB,FI,↓reduceIte,jB,jC];cases h1:IE c.name
 .simp -implicitDefEqProofs only[BC,BA,BK,A8,CP,CG,DI,AY,BB,AO,AQ,AL,BD,AX,AC,AA,AU,BH,A7,↓reduceIte,jB,jC]
  exact⟨by unfold IJ; rw[if_pos h1],t.hx⟩
 have h1':¬IE c.name=false:=by rw[h1]; decide
 simp -implicitDefEqProofs only[BC,BA,BO,A8,DR,AY,AO,AQ,AL,BD,AX,AC,AA,AZ,BZ,BQ,CB,BU,AB,jD,jE,jF,↓reduceIte,jA,jB,jR,jC,enP,ldM t.gm,ldC t.gc];refine(AMU G m c _ (by omega)).use ?_;simp -implicitDefEqProofs only[BI,A8,AY,BB,AO,AQ,AL,BD,AX,AC,AA,AZ,IG,AB,FI,↓reduceIte,jB,jC];cases h2:placed m c
 .simp -implicitDefEqProofs only[BC,BA,BK,A8,CP,CG,DI,AY,BB,AO,AQ,AL,BD,AX,AC,AA,AU,BH,A7,↓reduceIte,jB,jC]
  refine⟨?_,t.hx⟩;unfold IJ; rw[if_neg h1'];unfold placed at h2;split
  .rfl
  .rename_i h3
   have d2:decide (2<=c.pts.length)=true:=by simp; omega
   have d3:decide (c.pts.length<=4)=true:=by simp; omega
   rw[d2,d3] at h2;rw[if_pos (by simpa using h2)]
 unfold placed at h2;simp only[jV,decide_eq_true_eq] at h2;obtain⟨⟨h3,h4⟩,h5⟩:=h2;have h23:¬(c.pts.length<2∨4<c.pts.length):=by omega
 have hi':¬WG m.pts.length none c.pts=false:=by rw[h5]; decide
 have hh:=XL h5;simp -implicitDefEqProofs only[BC,BA,BO,A8,DR,AY,AO,AQ,AL,BD,AX,AC,AA,AZ,BZ,BQ,CB,BU,AB,jD,jE,jF,↓reduceIte,jA,jB,jR,jC,enP,ldM t.gm,ldC t.gc];refine(XT G m c _ hh hf (by omega)).use ?_;simp -implicitDefEqProofs only[AY,BL,BV,CO,AO,AQ,AL,BD,AX,AC,AA,AZ,AU,BH,BG,BR,AB,FV,↓reduceIte,jB,jC,enP];refine IK (fun ha=>?_) (fun ha=>?_)
 .simp -implicitDefEqProofs only[BC,BA,BK,BI,A8,CP,CG,DI,AY,BB,BL,BV,CO,F7,AO,AQ,AL,BD,AX,AC,AA,EW,AZ,AU,BH,BM,A7,CQ,DY,↓reduceIte,jA,jB,jC,ha]
  exact⟨by unfold IJ; rw[if_neg h1',if_neg h23,if_neg hi',if_pos (.inl (by simp at ha; omega))],t.hx⟩
 simp -implicitDefEqProofs only[BI,A8,AY,BB,BL,BV,CO,ES,AO,AQ,AL,BD,AX,AC,AA,AZ,AU,BH,BM,CQ,DW,BQ,BR,BJ,DZ,AB,FV,↓reduceIte,jA,jG,jB,jC,enP,YU,U8,ha,t.l2,jI];refine CV (fun hb=>?_) (fun hb=>?_)
 .simp -implicitDefEqProofs only[BC,BA,BK,A8,CP,CG,AY,BB,AO,AQ,AL,BD,AX,AC,AA,AU,BH,A7,↓reduceIte,jB,jC]
  exact⟨by unfold IJ; rw[if_neg h1',if_neg h23,if_neg hi',if_pos (.inr (by simp at hb; omega))],t.hx⟩
 have hab:¬(256<GK (szs m c.pts)∨256<c.excl.length):=by simp at ha hb; omega
 have hce:IJ m c=if(c.excl.any fun x => !MS (szs m c.pts) x.l) then 1 else 0:=by
  unfold IJ; rw[if_neg h1',if_neg h23,if_neg hi',if_neg hab]
 simp -implicitDefEqProofs only[BC,BP,BA,BO,A8,AY,BB,AO,AQ,AL,BD,AX,AC,AU,BH,A7,jB,jC];refine DK (fun n F H'=>∃k,n+k=c.excl.length∧F 2=.ptr h.length 0 0∧F 3=.ptr cb 0 0∧F 5=.int .i64 (k:Nat)∧H'=H∧(c.excl.any fun x => !MS (szs m c.pts) x.l)=((c.excl.drop k).any fun x => !MS (szs m c.pts) x.l)) c.excl.length ⟨0,by simp,by simp -implicitDefEqProofs only[AA,↓reduceIte,jA],by simp -implicitDefEqProofs only[AA,↓reduceIte,jA],by simp -implicitDefEqProofs only[AA,↓reduceIte]; rfl,rfl,rfl⟩ ?_;rintro n F H' ⟨k,hk,f2,f3,f5,rfl,hi⟩;simp -implicitDefEqProofs only[BC,BA,BI,A8,AY,BB,AO,AQ,AL,BD,AX,AC,AA,AZ,BG,BQ,BR,BJ,DZ,AB,CZ,↓reduceIte,jA,jG,jB,jC,enP,YU,U8,f3,f5,t.l2,jI];refine CV (fun hlt=>?_) (fun hlt=>?_)
 .have hk':k<c.excl.length:=by simpa using hlt
  have hs:=LG (fun x:Is => !MS (szs m c.pts) x.l) c.excl k hk';simp -implicitDefEqProofs only[BC,BP,BO,A8];refine E8 (by kernel_rfl) ?_;simp -implicitDefEqProofs only[F6,EH,DT,EI,FT,FH,ADE,D9,EF,GU,F9,AO,AA,AZ,BZ,BQ,IG,BJ,CE,AB,jD,jE,jF,↓reduceIte,jA,jM,jG,jB,enP,OI,U8,f2,f3,f5,ldM t.gm,ldC t.gc,t.l2,DU hk',DF KP hk',OC];refine⟨_,ACQ G m c c.excl[k] _ hh (by omega),?_⟩
  try simp -implicitDefEqProofs only[DT,FB,BI,A8,AA,AZ,AB,FI,↓reduceIte]
  cases hx:MS (szs m c.pts) c.excl[k].l
  .simp -implicitDefEqProofs only[BC,BA,BK,A8,CP,EE,FQ,CG,DI,AY,BB,AO,AQ,AL,BD,AX,AC,AA,AU,BH,A7,↓reduceIte,jB,jC]
   exact⟨by rw[hce,hi,hs,hx]; rfl,t.hx⟩
  .simp -implicitDefEqProofs only[BA,BO,A8,EJ,EQ,DR,AY,BB,AO,AQ,AL,BD,AX,AC,AA,AZ,AU,BH,BG,A7,BR,AB,C9,↓reduceIte,jA,jB,jR,jC,enP,f5,wrap_succ (show k<9223372036854775807 by omega)]
   refine⟨n-1,by omega,k+1,by omega,f2,f3,rfl,trivial,?_⟩;rw[hi,hs,hx]; rfl
 .have hk':¬k<c.excl.length:=by simpa using hlt
  simp -implicitDefEqProofs only[BC,BA,BK,DJ,A8,EG,EU,ET,CG,AY,BB,AO,AQ,AL,BD,AX,AC,AA,AU,BH,A7,↓reduceIte,jB,jC];exact⟨by rw[hce,hi,jW (by omega)]; rfl,t.hx⟩
structure MoOk (m:Mo):Prop where
 np:m.pts.length<=1048576
 nc:m.crs.length<=1048576
 pts:∀p∈m.pts,PtOk p
 crs:∀c∈m.crs,CrOk c
def EY (m:Mo):Int :=
 if 16<m.pts.length+m.crs.length then 2 else if JX GZ m.pts≠0 then JX GZ m.pts else if PK (m.pts.map (·.name)) then 8 else
  if JX (IJ m) m.crs≠0 then JX (IJ m) m.crs else if PK (m.crs.map (·.name)) then 8 else 0
theorem ZU {α:Type}(f:α->Int):∀ {xs:List α},JX f xs=0->∀x∈xs,f x=0
 | [],_,_,hx=>by cases hx
 | y::ys,h,x,hx=>by
   simp only[JX] at h;split at h
   .rename_i h0
    cases qR.1 hx with
    | inl e=>subst e; exact h0
    | inr e=>exact ZU f h x e
   .rename_i h0; exact absurd h h0
theorem AKQ {p:Pt}(h:GZ p=0):1<=p.bins.length∧p.bins.length<=64:=by
 unfold GZ at h;split at h
 .cases h
 .split at h
  .rename_i h2; exact absurd h h2
  .split at h
   .cases h
   .split at h
    .cases h
    .omega
theorem full_of {m:Mo}(h:JX GZ m.pts=0):Full m:=fun p hp=>AKQ (ZU _ h p hp)
theorem ASG (h:Hp):KQ Tryz.prog h 56=some (.ptr h.length 0 0,h++[.live 6 [[.str ⟨#[]⟩,.int .i64 0,.int .i64 0,.str ⟨#[]⟩,.sl .nil 0 [],.sl .nil 0 []]]]):=KE (row:=[.str ⟨#[]⟩,.int .i64 0,.int .i64 0,.str ⟨#[]⟩,.sl .nil 0 [],.sl .nil 0 []]) (by kernel_rfl)
theorem AQQ (h:Hp)(p:Pt)(row:List AV)(hr:row.length=6):FX Tryz.prog (h++[.live 6 [row]]) 56 (.ptr h.length 0 0) (.agg (GL p))=some (h++[.live 6 [GL p]]):=by
 rw[MX (TV (AG2 p)) (by rw[JR]; exact ZH) (by rw[JR,hr]; exact jL _)];have:splice row 0 (GL p)=GL p:=by unfold splice; simp [JR,hr]
 rw[this]
theorem ldP {h:Hp}{b:Nat}{p:Pt}(hb:h[b]?=some (.live 6 [GL p])):ED Tryz.prog h 56 (.ptr b 0 0)=some (.agg (GL p)):=by
 rw[J4 ACR ZH hb rfl (by rw[JR]; exact jL 6),qE,jX (by rw[JR]; exact jL 6)]
theorem ASF (h:Hp):KQ Tryz.prog h 71=some (.ptr h.length 0 0,h++[.live 3 [[.str ⟨#[]⟩,.sl .nil 0 [],.sl .nil 0 []]]]):=KE (row:=[.str ⟨#[]⟩,.sl .nil 0 [],.sl .nil 0 []]) (by kernel_rfl)
theorem AQP (h:Hp)(c:Cr)(row:List AV)(hr:row.length=3):FX Tryz.prog (h++[.live 3 [row]]) 71 (.ptr h.length 0 0) (.agg (GG c))=some (h++[.live 3 [GG c]]):=by
 rw[MX (TV rfl) (by rw[KD]; exact XY) (by rw[KD,hr]; exact jL _)];have:splice row 0 (GG c)=GG c:=by unfold splice; simp [KD,hr]
 rw[this]
theorem RY (G:Nat->AV)(hG:GOk G)(m:Mo)(hm:MoOk m)(h:Hp):PCall (En G) 68 [.agg (D5 m)] h (.int .i64 (EY m)):=by
 refine ACalls.pure0 rfl ?_;have hm1:=hm.np;have hm2:=hm.nc;refine acN Tryz.func68 rfl ?_;show awp _ _ _ _ _ (EN _ [.tmp 2] _);have hw:IntKind.i64.wrap ((m.pts.length:Int)+(m.crs.length:Int))=(m.pts.length:Int)+(m.crs.length:Int):=wrap_i64 (by omega) (by omega);simp -implicitDefEqProofs only[BC,BA,BI,A8,AY,BB,AO,AQ,AL,BD,AX,AC,AA,AZ,AU,BH,A7,FU,BQ,BR,BJ,DZ,BX,AB,C9,FV,BF,↓reduceIte,jA,jK,jG,jB,jC,enP,QZ,VQ,IP,J8,bxM,DL WV,DL ABH,QJ,UO,jI,hw];refine CV (fun h1=>?_) (fun h1=>?_)
 .simp -implicitDefEqProofs only[BC,BA,BK,A8,CP,CG,AY,BB,AO,AQ,AL,BD,AX,AC,AA,AU,BH,A7,↓reduceIte,jB,jC]
  exact⟨by unfold EY; rw[if_pos (by simp at h1; omega)],_,rfl⟩
 have h1':¬16<m.pts.length+m.crs.length:=by simp at h1; omega
 have hme:EY m=if JX GZ m.pts≠0 then JX GZ m.pts else if PK (m.pts.map (·.name)) then 8 else if JX (IJ m) m.crs≠0 then JX (IJ m) m.crs else if PK (m.crs.map (·.name)) then 8 else 0:=by
  unfold EY; rw[if_neg h1']
 have lm0:∀H:Hp,H[h.length]?=some (.live 2 [D5 m])->ED Tryz.prog H 22 (.ptr h.length 0 0)=some (.sl m.pm 6 (m.pts.map GL)):=fun H hH=>by rw[DX WV hH (row:=D5 m) rfl,QJ]
 have lm1:∀H:Hp,H[h.length]?=some (.live 2 [D5 m])->ED Tryz.prog H 23 (.ptr h.length 0 1)=some (.sl m.cm 3 (m.crs.map GG)):=fun H hH=>by rw[DX ABH hH (row:=D5 m) rfl,UO]
 simp -implicitDefEqProofs only[BC,BP,BA,BO,A8,AY,BB,AO,AQ,AL,BD,AX,AC,AA,AZ,AU,BH,BG,BQ,BJ,DZ,AB,↓reduceIte,jA,jK,jB,jC,enP,QZ,IP,DL WV,QJ,jI];refine GM 0 (fun F H=>F 1=.ptr h.length 0 0∧H[h.length]?=some (.live 2 [D5 m])∧(∃x,H=h++x)∧JX GZ m.pts=0) (fun F H=>F 2=.int .i64 (EY m)∧∃x,H=h++x) ?_ ?_ ?_
 .refine DK (fun n F H=>∃k,n+k=m.pts.length∧F 1=.ptr h.length 0 0∧F 18=.sl m.pm 6 (m.pts.map GL)∧F 19=.int .i64 m.pts.length∧F 20=.int .i64 (k:Nat)∧H[h.length]?=some (.live 2 [D5 m])∧(∃x,H=h++x)∧JX GZ m.pts=JX GZ (m.pts.drop k)) m.pts.length ⟨0,by simp,by simp -implicitDefEqProofs only[AA,↓reduceIte,jA],by simp -implicitDefEqProofs only[AA,↓reduceIte,jA],by simp -implicitDefEqProofs only[AA,↓reduceIte,jA],by simp -implicitDefEqProofs only[AA,↓reduceIte]; rfl,CX _ _,⟨_,rfl⟩,rfl⟩ ?_
  rintro n F H ⟨k,hk,f1,f18,f19,f20,hb,⟨x,hx⟩,hf⟩;simp -implicitDefEqProofs only[BC,BA,BI,A8,AY,BB,AO,AQ,AL,BD,AX,AC,AA,AZ,BR,AB,CZ,↓reduceIte,jB,jC,enP,f19,f20];refine CV (fun hc=>?_) (fun hc=>?_)
  .have hk':k<m.pts.length:=by simpa using hc
   have hs:=OZ GZ m.pts k hk';simp -implicitDefEqProofs only[BC,BP,BA,BO,A8,AY,BB,AO,AQ,AL,BD,AX,AC,EM,AA,AZ,BZ,EX,BQ,D6,CE,CB,BU,BX,AB,CY,jD,jE,jF,↓reduceIte,jA,jB,jC,enP,S9,jP,f18,f20,DU hk',FM ACR ZH JR hk',ASG,AQQ _ _ [.str ⟨#[]⟩,.int .i64 0,.int .i64 0,.str ⟨#[]⟩,.sl .nil 0 [],.sl .nil 0 []] rfl,ldP (CX H (.live 6 [GL m.pts[k]]))];refine(AD3 G hG m.pts[k] (hm.pts _ (jQ hk')) _).use ?_;simp -implicitDefEqProofs only[BC,BA,BI,A8,AY,BB,AO,AQ,AL,BD,AX,AC,AA,AZ,AU,BH,BG,A7,BR,AB,EK,↓reduceIte,jB,jC,enP];refine CV (fun hv=>?_) (fun hv=>?_)
   .simp -implicitDefEqProofs only[BC,BA,BK,A8,CP,EE,NM,FQ,AY,BB,AO,AQ,AL,BD,AX,AC,AA,AZ,BG,A7,↓reduceIte,jA,jB,jC]
    have hv':GZ m.pts[k]≠0:=by simpa using hv
    have:JX GZ m.pts=GZ m.pts[k]:=by rw[hf,hs,if_neg hv']
    exact⟨by rw[hme,this,if_pos hv'],x++_,by rw[hx,zA]⟩
   .have hv':GZ m.pts[k]=0:=by simpa using hv
    simp -implicitDefEqProofs only[BA,BO,A8,EJ,EQ,AY,BB,AO,AQ,AL,BD,AX,AC,AA,AZ,AU,BH,BG,BR,AB,C9,↓reduceIte,jA,jB,jC,enP,f20,wrap_succ (show k<9223372036854775807 by omega)];exact⟨n-1,by omega,k+1,by omega,f1,f18,f19,rfl,CU hb,⟨x++_,by rw[hx,zA]⟩,by rw[hf,hs,if_pos hv']⟩
  .have hk':¬k<m.pts.length:=by simpa using hc
   simp -implicitDefEqProofs only[DJ,EG,KC,ET,AA,↓reduceIte,jA];exact⟨f1,hb,⟨x,hx⟩,by rw[hf,jW (by omega)]; rfl⟩
 .rintro F H ⟨f1,hb,hx0,hf⟩
  have hfull:=full_of hf;rw[hf,if_neg (fun hh=>hh rfl)] at hme;simp -implicitDefEqProofs only[BC,BA,A8,EU,AY,AO,AQ,AL,BD,AX,AC,AA,AZ,BZ,BQ,BJ,CB,BU,AB,jD,jE,jF,↓reduceIte,jK,jB,jC,enP,IP,f1,lm0 _ hb];refine(AQ0 G m.pts m.pm H (by omega)).use ?_;simp -implicitDefEqProofs only[BI,A8,BB,AC,AA,AZ,↓reduceIte];cases hd:PK (m.pts.map (·.name))
  case true =>
   simp -implicitDefEqProofs only[BC,BA,BK,A8,CP,CG,DI,AY,BB,AO,AQ,AL,BD,AX,AC,AA,AU,BH,A7,↓reduceIte,jB,jC];exact⟨by rw[hme,hd]; rfl,hx0⟩
  rw[hd] at hme;simp only[jY,if_false] at hme;simp -implicitDefEqProofs only[BC,BP,BA,BO,A8,DR,AY,BB,AO,AQ,AL,BD,AX,AC,AA,AZ,AU,BH,BG,BQ,BJ,DZ,AB,↓reduceIte,jA,jG,jB,jC,enP,VQ,J8,f1,lm1 _ hb,jI];refine GM 2 (fun F H=>F 1=.ptr h.length 0 0∧H[h.length]?=some (.live 2 [D5 m])∧(∃x,H=h++x)∧JX (IJ m) m.crs=0) (fun F H=>F 2=.int .i64 (EY m)∧∃x,H=h++x) ?_ ?_ ?_
  .refine DK (fun n F H=>∃k,n+k=m.crs.length∧F 1=.ptr h.length 0 0∧F 34=.sl m.cm 3 (m.crs.map GG)∧F 35=.int .i64 m.crs.length∧F 36=.int .i64 (k:Nat)∧H[h.length]?=some (.live 2 [D5 m])∧(∃x,H=h++x)∧JX (IJ m) m.crs=JX (IJ m) (m.crs.drop k)) m.crs.length ⟨0,by simp,by simp -implicitDefEqProofs only[AA,↓reduceIte,jA,f1],by simp -implicitDefEqProofs only[AA,↓reduceIte,jA],by simp -implicitDefEqProofs only[AA,↓reduceIte,jA],by simp -implicitDefEqProofs only[AA,↓reduceIte]; rfl,hb,hx0,rfl⟩ ?_
   clear f1 hb hx0;rintro n F H ⟨k,hk,f1,f34,f35,f36,hb,⟨x,hx⟩,hf⟩;simp -implicitDefEqProofs only[BC,BA,BI,A8,AY,BB,AO,AQ,AL,BD,AX,AC,AA,AZ,BR,AB,CZ,↓reduceIte,jB,jC,enP,f35,f36];refine CV (fun hc=>?_) (fun hc=>?_)
   .have hk':k<m.crs.length:=by simpa using hc
    have hs:=OZ (IJ m) m.crs k hk';simp -implicitDefEqProofs only[BC,BP,BA,BO,A8,AY,BB,AO,AQ,AL,BD,AX,AC,EM,AA,AZ,BZ,EX,BQ,D6,CE,CB,BU,BX,AB,CY,jD,jE,jF,↓reduceIte,jA,jB,jC,enP,WF,jP,f1,f34,f36,DU hk',FM AAD XY KD hk',ASF,AQP _ _ [.str ⟨#[]⟩,.sl .nil 0 [],.sl .nil 0 []] rfl,ldC (CX H (.live 3 [GG m.crs[k]])),ldM (CU (x:=.live 3 [GG m.crs[k]]) hb)];refine(ANR G hG m m.crs[k] (hm.crs _ (jQ hk')) hfull _).use ?_;simp -implicitDefEqProofs only[BC,BA,BI,A8,AY,BB,AO,AQ,AL,BD,AX,AC,AA,AZ,AU,BH,BG,A7,BR,AB,EK,↓reduceIte,jB,jC,enP];refine CV (fun hv=>?_) (fun hv=>?_)
    .simp -implicitDefEqProofs only[BC,BA,BK,A8,CP,EE,NM,FQ,AY,BB,AO,AQ,AL,BD,AX,AC,AA,AZ,BG,A7,↓reduceIte,jA,jB,jC]
     have hv':IJ m m.crs[k]≠0:=by simpa using hv
     have:JX (IJ m) m.crs=IJ m m.crs[k]:=by rw[hf,hs,if_neg hv']
     exact⟨by rw[hme,this,if_pos hv'],x++_,by rw[hx,zA]⟩
    .have hv':IJ m m.crs[k]=0:=by simpa using hv
     simp -implicitDefEqProofs only[BA,BO,A8,EJ,EQ,AY,BB,AO,AQ,AL,BD,AX,AC,AA,AZ,AU,BH,BG,BR,AB,C9,↓reduceIte,jA,jB,jC,enP,f36,wrap_succ (show k<9223372036854775807 by omega)];exact⟨n-1,by omega,k+1,by omega,f1,f34,f35,rfl,CU hb,⟨x++_,by rw[hx,zA]⟩,by rw[hf,hs,if_pos hv']⟩
   .have hk':¬k<m.crs.length:=by simpa using hc
    simp -implicitDefEqProofs only[DJ,EG,KC,ET,AA,↓reduceIte,jA];exact⟨f1,hb,⟨x,hx⟩,by rw[hf,jW (by omega)]; rfl⟩
  .rintro F H ⟨f1,hb,hx,hf⟩
   rw[hf,if_neg (fun hh=>hh rfl)] at hme;simp -implicitDefEqProofs only[BC,BA,A8,EU,AY,AO,AQ,AL,BD,AX,AC,AA,AZ,BZ,BQ,BJ,CB,BU,AB,jD,jE,jF,↓reduceIte,jG,jB,jC,enP,J8,f1,lm1 _ hb];refine(AQ1 G m.crs m.cm H (by omega)).use ?_;simp -implicitDefEqProofs only[BI,A8,BB,AC,AA,AZ,↓reduceIte];cases hd:PK (m.crs.map (·.name))
   .simp -implicitDefEqProofs only[BC,BA,BO,BK,A8,CG,DR,AY,BB,AO,AQ,AL,BD,AX,AC,AA,AU,BH,A7,↓reduceIte,jB,jC]
    exact⟨by rw[hme,hd]; rfl,hx⟩
   .simp -implicitDefEqProofs only[BC,BA,BK,A8,CP,CG,DI,AY,BB,AO,AQ,AL,BD,AX,AC,AA,AU,BH,A7,↓reduceIte,jB,jC]
    exact⟨by rw[hme,hd]; rfl,hx⟩
  .rintro F H ⟨f2,hx⟩
   simp -implicitDefEqProofs only[CP,EE,CG,f2];exact⟨trivial,hx⟩
 .rintro F H ⟨f2,hx⟩
  simp -implicitDefEqProofs only[CP,EE,CG,f2];exact⟨trivial,hx⟩
theorem UH (G:Nat->AV)(m:Mo)(hm:MoOk m)(h:Hp):PCall (En G) 50 [.agg (D5 m)] h (.int .i64 (EY m)):=by
 refine ACalls.pure0 rfl ?_;have hm1:=hm.np;have hm2:=hm.nc;refine acN Tryz.func50 rfl ?_;show awp _ _ _ _ _ (EN _ [.tmp 2] _);have hw:IntKind.i64.wrap ((m.pts.length:Int)+(m.crs.length:Int))=(m.pts.length:Int)+(m.crs.length:Int):=wrap_i64 (by omega) (by omega);have gm:=CX h (.live 2 [D5 m]);have hx:∃x,h++[ABlk.live 2 [D5 m]]=h++x:=⟨_,rfl⟩;simp -implicitDefEqProofs only[BC,BA,A8,AY,BB,AO,AQ,AL,BD,AX,AC,AA,AZ,AU,BH,A7,FU,BQ,BJ,BX,AB,BF,↓reduceIte,jA,jK,jB,jC,enP,IP,bxM]
 generalize h++[ABlk.live 2 [D5 m]]=H at gm hx|-
 have lm0:ED Tryz.prog H 22 (.ptr h.length 0 0)=some (.sl m.pm 6 (m.pts.map GL)):=by rw[DX WV gm (row:=D5 m) rfl,QJ]
 have lm1:ED Tryz.prog H 23 (.ptr h.length 0 1)=some (.sl m.cm 3 (m.crs.map GG)):=by rw[DX ABH gm (row:=D5 m) rfl,UO]
 simp -implicitDefEqProofs only[BI,A8,AY,BB,AO,AQ,AL,BD,AX,AC,AA,AZ,AU,BH,BQ,BR,BJ,DZ,AB,C9,FV,↓reduceIte,jA,jG,jB,jC,enP,QZ,VQ,J8,lm0,lm1,jI,hw];refine CV (fun h1=>?_) (fun h1=>?_)
 .simp -implicitDefEqProofs only[BC,BA,BK,A8,CP,CG,AY,BB,AO,AQ,AL,BD,AX,AC,AA,AU,BH,A7,↓reduceIte,jB,jC]
  exact⟨by unfold EY; rw[if_pos (by simp at h1; omega)],hx⟩
 have h1':¬16<m.pts.length+m.crs.length:=by simp at h1; omega
 have hme:EY m=if JX GZ m.pts≠0 then JX GZ m.pts else if PK (m.pts.map (·.name)) then 8 else if JX (IJ m) m.crs≠0 then JX (IJ m) m.crs else if PK (m.crs.map (·.name)) then 8 else 0:=by
  unfold EY; rw[if_neg h1']
 simp -implicitDefEqProofs only[BC,BP,BA,BO,A8,AY,BB,AO,AQ,AL,BD,AX,AC,AU,BH,A7,jB,jC];refine GM 0 (fun F H'=>F 1=.ptr h.length 0 0∧H'=H∧JX GZ m.pts=0) (fun F H'=>F 2=.int .i64 (EY m)∧H'=H) ?_ ?_ ?_
 .refine DK (fun n F H'=>∃k,n+k=m.pts.length∧F 1=.ptr h.length 0 0∧F 3=.int .i64 (k:Nat)∧H'=H∧JX GZ m.pts=JX GZ (m.pts.drop k)) m.pts.length ⟨0,by simp,by simp -implicitDefEqProofs only[AA,↓reduceIte,jA],by simp -implicitDefEqProofs only[AA,↓reduceIte]; rfl,rfl,rfl⟩ ?_
  rintro n F H' ⟨k,hk,f1,f3,rfl,hf⟩;simp -implicitDefEqProofs only[BC,BA,BI,A8,AY,BB,AO,AQ,AL,BD,AX,AC,AA,AZ,BG,BQ,BR,BJ,DZ,AB,CZ,↓reduceIte,jA,jK,jB,jC,enP,QZ,IP,f1,f3,lm0,jI];refine CV (fun hc=>?_) (fun hc=>?_)
  .have hk':k<m.pts.length:=by simpa using hc
   have hs:=OZ GZ m.pts k hk';simp -implicitDefEqProofs only[BC,BP,BA,BO,A8,AY,AO,AQ,AL,BD,AX,AC,AA,AZ,BZ,BG,BQ,BJ,CE,CB,BU,AB,jD,jE,jF,↓reduceIte,jA,jK,jB,jC,enP,S9,IP,f1,f3,lm0,DU hk',FM ACR ZH JR hk'];refine(AGN G m.pts[k] (hm.pts _ (jQ hk')) _).use ?_;simp -implicitDefEqProofs only[BC,BA,BI,A8,AY,BB,AO,AQ,AL,BD,AX,AC,AA,AZ,AU,BH,BG,A7,BR,AB,EK,↓reduceIte,jB,jC,enP];refine CV (fun hv=>?_) (fun hv=>?_)
   .simp -implicitDefEqProofs only[BC,BA,BK,A8,CP,EE,NM,FQ,AY,BB,AO,AQ,AL,BD,AX,AC,AA,AZ,BG,A7,↓reduceIte,jA,jB,jC]
    have hv':GZ m.pts[k]≠0:=by simpa using hv
    have:JX GZ m.pts=GZ m.pts[k]:=by rw[hf,hs,if_neg hv']
    exact⟨by rw[hme,this,if_pos hv'],trivial⟩
   .have hv':GZ m.pts[k]=0:=by simpa using hv
    simp -implicitDefEqProofs only[BA,BO,A8,EJ,EQ,AY,BB,AO,AQ,AL,BD,AX,AC,AA,AZ,AU,BH,BG,A7,BR,AB,C9,↓reduceIte,jA,jB,jC,enP,f3,wrap_succ (show k<9223372036854775807 by omega)];exact⟨n-1,by omega,k+1,by omega,f1,rfl,trivial,by rw[hf,hs,if_pos hv']⟩
  .have hk':¬k<m.pts.length:=by simpa using hc
   simp -implicitDefEqProofs only[DJ,EG,KC,ET,AA,↓reduceIte,jA];exact⟨f1,trivial,by rw[hf,jW (by omega)]; rfl⟩
 .rintro F H' ⟨f1,rfl,hf⟩
  have hfull:=full_of hf;rw[hf,if_neg (fun hh=>hh rfl)] at hme;simp -implicitDefEqProofs only[BC,BP,BA,A8,EU,AY,BB,AO,AQ,AL,BD,AX,AC,AU,BH,A7,↓reduceIte,jB,jC,f1];refine GM 2 (fun F H=>F 1=.ptr h.length 0 0∧H=H'∧PK (m.pts.map (·.name))=false) (fun F H=>F 2=.int .i64 (EY m)∧H=H') ?_ ?_ ?_
  .generalize hN:m.pts.map (·.name)=N at hme|-
   have hNl:N.length=m.pts.length:=by rw[<-hN]; simp
   have hNi:∀i (hi:i<m.pts.length),N[i]?=some m.pts[i].name:=fun i hi=>by rw[<-hN,zH,jS hi]; rfl
   refine DK (fun n F H=>∃i,n+i=m.pts.length∧F 1=.ptr h.length 0 0∧F 5=.int .i64 (i:Nat)∧H=H'∧PK N=AF3 (N.take i) (N.drop i)) m.pts.length ⟨0,by simp,by simp -implicitDefEqProofs only[AA,↓reduceIte,jA,f1],by simp -implicitDefEqProofs only[AA,↓reduceIte]; rfl,rfl,rfl⟩ ?_;clear f1;rintro n F H' ⟨i,hi,f1,f5,rfl,hd⟩;simp -implicitDefEqProofs only[BC,BA,BI,A8,AY,BB,AO,AQ,AL,BD,AX,AC,AA,AZ,BG,BQ,BR,BJ,DZ,AB,CZ,↓reduceIte,jA,jK,jB,jC,enP,QZ,IP,f1,f5,lm0,jI];refine CV (fun hc=>?_) (fun hc=>?_)
   .have hi':i<m.pts.length:=by simpa using hc
    have hdrop:=RG N i (by omega);rw[IM (hNi i hi')] at hdrop;simp -implicitDefEqProofs only[BC,BP,BA,BO,A8,AY,BB,AO,AQ,AL,BD,AX,AC,AU,BH,A7,jB,jC,f5];refine GM 4 (fun F' H=>F' 1=.ptr h.length 0 0∧F' 5=.int .i64 (i:Nat)∧H=H'∧IZ (N.take i) m.pts[i].name=false) (fun F' H=>F' 2=.int .i64 8∧H=H'∧PK N=true) ?_ ?_ ?_
    .refine DK (fun n F' H=>∃k,n+k=i∧F' 1=.ptr h.length 0 0∧F' 5=.int .i64 (i:Nat)∧F' 6=.int .i64 (k:Nat)∧H=H'∧IZ (N.take i) m.pts[i].name=IZ ((N.take i).drop k) m.pts[i].name) i ⟨0,by simp,by simp -implicitDefEqProofs only[AA,↓reduceIte,jA,f1],by simp -implicitDefEqProofs only[AA,↓reduceIte,jA,f5],by simp -implicitDefEqProofs only[AA,↓reduceIte]; rfl,rfl,rfl⟩ ?_
     clear f1 f5;rintro n' F H' ⟨k,hk,f1,f5,f6,rfl,hin⟩;simp -implicitDefEqProofs only[BC,BA,BI,A8,AY,BB,AO,AQ,AL,BD,AX,AC,AA,AZ,BG,BR,AB,CZ,↓reduceIte,jA,jB,jC,enP,f5,f6];refine CV (fun hc=>?_) (fun hc=>?_)
     .have hk':k<i:=by simpa using hc
      have hk2:k<m.pts.length:=by omega
      have hs:=LG (fun u=>m.pts[i].name.toList==u.toList) (N.take i) k (by rw[zD]; omega)
      have hx:(N.take i)[k]'(by rw[zD]; omega)=m.pts[k].name:=by
       rw[List.getElem_take]; exact IM (hNi k hk2)
      rw[hx] at hs;simp -implicitDefEqProofs only[BC,BP,BO,A8];refine E8 (by kernel_rfl) ?_;simp -implicitDefEqProofs only[F6,EH,DT,FB,EI,FT,FH,I4,D9,EF,BI,A8,AO,AA,AZ,BQ,BR,BJ,CE,AB,MM,↓reduceIte,jA,jM,jK,jB,enP,S9,IP,AIQ,f1,f5,f6,lm0,DU hi',DU hk2,DF ag9 hi',DF ag9 hk2,AP4];refine CV (fun hb=>?_) (fun hb=>?_)
      .simp -implicitDefEqProofs only[BC,BA,BK,A8,CP,EE,NM,FQ,AY,BB,AO,AQ,AL,BD,AX,AC,AA,AU,BH,A7,↓reduceIte,jB,jC]
       have:IZ (N.take i) m.pts[i].name=true:=by
        rw[hin]; unfold IZ; rw[hs,BEq.comm,hb]; rfl
       exact⟨trivial,trivial,by rw[hd,hdrop,this]; rfl⟩
      .simp -implicitDefEqProofs only[BA,BO,A8,EJ,EQ,AY,BB,AO,AQ,AL,BD,AX,AC,AA,AZ,AU,BH,BG,A7,BR,AB,C9,↓reduceIte,jA,jB,jC,enP,f6,wrap_succ (show k<9223372036854775807 by omega)]
       refine⟨n'-1,by omega,k+1,by omega,f1,f5,rfl,trivial,?_⟩;rw[hin]; unfold IZ; rw[hs,BEq.comm,hb]; rfl
     .have hk':¬k<i:=by simpa using hc
      simp -implicitDefEqProofs only[DJ,EG,KC,ET,AA,↓reduceIte,jA];refine⟨f1,f5,trivial,?_⟩;rw[hin,jW (by rw[zD]; omega)]; rfl
    .rintro F' H' ⟨g1,g5,rfl,hn⟩
     simp -implicitDefEqProofs only[BA,A8,EJ,EU,EQ,AY,BB,AO,AQ,AL,BD,AX,AC,AA,AZ,AU,BH,BG,A7,BR,AB,C9,↓reduceIte,jA,jB,jC,enP,g5,wrap_succ (show i<9223372036854775807 by omega)];refine⟨n-1,by omega,i+1,by omega,g1,rfl,trivial,?_⟩;rw[hd,hdrop,hn]; rfl
    .rintro F' H' ⟨g2,rfl,hdd⟩
     simp -implicitDefEqProofs only[CP,EE,NM,FQ,g2];exact⟨by rw[hme,hdd]; rfl,trivial⟩
   .have hi':¬i<m.pts.length:=by simpa using hc
    simp -implicitDefEqProofs only[DJ,EG,KC,ET,AA,↓reduceIte,jA];exact⟨f1,trivial,by rw[hd,jW (by omega)]; rfl⟩
  .clear f1
   rintro F H ⟨f1,rfl,hd⟩;rw[hd] at hme;simp only[jY,if_false] at hme;simp -implicitDefEqProofs only[BC,BP,BA,A8,EU,AY,BB,AO,AQ,AL,BD,AX,AC,AU,BH,A7,↓reduceIte,jB,jC];refine GM 6 (fun F H'=>F 1=.ptr h.length 0 0∧H'=H∧JX (IJ m) m.crs=0) (fun F H'=>F 2=.int .i64 (EY m)∧H'=H) ?_ ?_ ?_
   .refine DK (fun n F H'=>∃k,n+k=m.crs.length∧F 1=.ptr h.length 0 0∧F 7=.int .i64 (k:Nat)∧H'=H∧JX (IJ m) m.crs=JX (IJ m) (m.crs.drop k)) m.crs.length ⟨0,by simp,by simp -implicitDefEqProofs only[AA,↓reduceIte,jA,f1],by simp -implicitDefEqProofs only[AA,↓reduceIte]; rfl,rfl,rfl⟩ ?_
    clear f1;rintro n F H' ⟨k,hk,f1,f7,rfl,hf⟩;simp -implicitDefEqProofs only[BC,BA,BI,A8,AY,BB,AO,AQ,AL,BD,AX,AC,AA,AZ,BG,BQ,BR,BJ,DZ,AB,CZ,↓reduceIte,jA,jG,jB,jC,enP,VQ,J8,f1,f7,lm1,jI];refine CV (fun hc=>?_) (fun hc=>?_)
    .have hk':k<m.crs.length:=by simpa using hc
     have hs:=OZ (IJ m) m.crs k hk';simp -implicitDefEqProofs only[BC,BP,BO,A8];refine E8 (by kernel_rfl) ?_;simp -implicitDefEqProofs only[F6,EH,DT,FB,EI,FT,JW,FH,D9,EF,GU,F9,BC,BA,A8,AY,AO,AQ,AL,BD,AX,AC,AA,AZ,AU,BZ,BH,BG,BQ,BR,BJ,CE,AB,jD,jE,jF,↓reduceIte,jA,jM,jG,jB,jC,enP,WF,J8,f1,f7,lm1,ldM gm,DU hk',FM AAD XY KD hk'];refine⟨_,AR1 G m m.crs[k] (hm.crs _ (jQ hk')) hfull _,?_⟩
     try simp -implicitDefEqProofs only[BI,A8,BB,AC,AA,AZ,AB,EK,↓reduceIte]
     refine CV (fun hv=>?_) (fun hv=>?_)
     .simp -implicitDefEqProofs only[BC,BA,BK,A8,CP,EE,NM,FQ,AY,BB,AO,AQ,AL,BD,AX,AC,AA,AZ,BG,A7,↓reduceIte,jA,jB,jC]
      have hv':IJ m m.crs[k]≠0:=by simpa using hv
      have:JX (IJ m) m.crs=IJ m m.crs[k]:=by rw[hf,hs,if_neg hv']
      exact⟨by rw[hme,this,if_pos hv'],trivial⟩
     .have hv':IJ m m.crs[k]=0:=by simpa using hv
      simp -implicitDefEqProofs only[BA,BO,A8,EJ,EQ,AY,BB,AO,AQ,AL,BD,AX,AC,AA,AZ,AU,BH,BG,A7,BR,AB,C9,↓reduceIte,jA,jB,jC,enP,f7,wrap_succ (show k<9223372036854775807 by omega)];exact⟨n-1,by omega,k+1,by omega,f1,rfl,trivial,by rw[hf,hs,if_pos hv']⟩
    .have hk':¬k<m.crs.length:=by simpa using hc
     simp -implicitDefEqProofs only[DJ,EG,KC,ET,AA,↓reduceIte,jA];exact⟨f1,trivial,by rw[hf,jW (by omega)]; rfl⟩
   .rintro F H' ⟨f1,rfl,hf⟩
    rw[hf,if_neg (fun hh=>hh rfl)] at hme;simp -implicitDefEqProofs only[BC,BP,BA,A8,EU,AY,BB,AO,AQ,AL,BD,AX,AC,AU,BH,A7,↓reduceIte,jB,jC];generalize hN:m.crs.map (·.name)=N at hme;have hNl:N.length=m.crs.length:=by rw[<-hN]; simp
    have hNi:∀i (hi:i<m.crs.length),N[i]?=some m.crs[i].name:=fun i hi=>by rw[<-hN,zH,jS hi]; rfl
    refine DK (fun n F H=>∃i,n+i=m.crs.length∧F 1=.ptr h.length 0 0∧F 9=.int .i64 (i:Nat)∧H=H'∧PK N=AF3 (N.take i) (N.drop i)) m.crs.length ⟨0,by simp,by simp -implicitDefEqProofs only[AA,↓reduceIte,jA,f1],by simp -implicitDefEqProofs only[AA,↓reduceIte]; rfl,rfl,rfl⟩ ?_;clear f1;rintro n F H' ⟨i,hi,f1,f9,rfl,hd⟩;simp -implicitDefEqProofs only[BC,BA,BI,A8,AY,BB,AO,AQ,AL,BD,AX,AC,AA,AZ,BG,BQ,BR,BJ,DZ,AB,CZ,↓reduceIte,jA,jG,jB,jC,enP,VQ,J8,f1,f9,lm1,jI];refine CV (fun hc=>?_) (fun hc=>?_)
    .have hi':i<m.crs.length:=by simpa using hc
     have hdrop:=RG N i (by omega);rw[IM (hNi i hi')] at hdrop;simp -implicitDefEqProofs only[BC,BP,BA,BO,A8,AY,BB,AO,AQ,AL,BD,AX,AC,AU,BH,A7,jB,jC,f9];refine GM 10 (fun F' H=>F' 1=.ptr h.length 0 0∧F' 9=.int .i64 (i:Nat)∧H=H'∧IZ (N.take i) m.crs[i].name=false) (fun F' H=>F' 2=.int .i64 8∧H=H'∧PK N=true) ?_ ?_ ?_
     .refine DK (fun n F' H=>∃k,n+k=i∧F' 1=.ptr h.length 0 0∧F' 9=.int .i64 (i:Nat)∧F' 10=.int .i64 (k:Nat)∧H=H'∧IZ (N.take i) m.crs[i].name=IZ ((N.take i).drop k) m.crs[i].name) i ⟨0,by simp,by simp -implicitDefEqProofs only[AA,↓reduceIte,jA,f1],by simp -implicitDefEqProofs only[AA,↓reduceIte,jA,f9],by simp -implicitDefEqProofs only[AA,↓reduceIte]; rfl,rfl,rfl⟩ ?_
      clear f1 f9;rintro n' F H' ⟨k,hk,f1,f9,f10,rfl,hin⟩;simp -implicitDefEqProofs only[BC,BA,BI,A8,AY,BB,AO,AQ,AL,BD,AX,AC,AA,AZ,BG,BR,AB,CZ,↓reduceIte,jA,jB,jC,enP,f9,f10];refine CV (fun hc=>?_) (fun hc=>?_)
      .have hk':k<i:=by simpa using hc
       have hk2:k<m.crs.length:=by omega
       have hs:=LG (fun u=>m.crs[i].name.toList==u.toList) (N.take i) k (by rw[zD]; omega)
       have hx:(N.take i)[k]'(by rw[zD]; omega)=m.crs[k].name:=by
        rw[List.getElem_take]; exact IM (hNi k hk2)
       rw[hx] at hs;simp -implicitDefEqProofs only[BC,BP,BO,A8];refine E8 (by kernel_rfl) ?_;simp -implicitDefEqProofs only[F6,EH,DT,FB,EI,FT,FH,I4,D9,EF,BI,A8,AO,AA,AZ,BQ,BR,BJ,CE,AB,MM,↓reduceIte,jA,jM,jK,jG,jB,enP,WF,J8,AIO,f1,f9,f10,lm1,DU hi',DU hk2,DF ag9 hi',DF ag9 hk2,AP6];refine CV (fun hb=>?_) (fun hb=>?_)
       .simp -implicitDefEqProofs only[BC,BA,BK,A8,CP,EE,NM,FQ,AY,BB,AO,AQ,AL,BD,AX,AC,AA,AU,BH,A7,↓reduceIte,jB,jC]
        have:IZ (N.take i) m.crs[i].name=true:=by
         rw[hin]; unfold IZ; rw[hs,BEq.comm,hb]; rfl
        exact⟨trivial,trivial,by rw[hd,hdrop,this]; rfl⟩
       .simp -implicitDefEqProofs only[BA,BO,A8,EJ,EQ,AY,BB,AO,AQ,AL,BD,AX,AC,AA,AZ,AU,BH,BG,A7,BR,AB,C9,↓reduceIte,jA,jB,jC,enP,f10,wrap_succ (show k<9223372036854775807 by omega)]
        refine⟨n'-1,by omega,k+1,by omega,f1,f9,rfl,trivial,?_⟩;rw[hin]; unfold IZ; rw[hs,BEq.comm,hb]; rfl
      .have hk':¬k<i:=by simpa using hc
       simp -implicitDefEqProofs only[DJ,EG,KC,ET,AA,↓reduceIte,jA];refine⟨f1,f9,trivial,?_⟩;rw[hin,jW (by rw[zD]; omega)]; rfl
     .rintro F' H' ⟨g1,g9,rfl,hn⟩
      simp -implicitDefEqProofs only[BA,A8,EJ,EU,EQ,AY,BB,AO,AQ,AL,BD,AX,AC,AA,AZ,AU,BH,BG,A7,BR,AB,C9,↓reduceIte,jA,jB,jC,enP,g9,wrap_succ (show i<9223372036854775807 by omega)];refine⟨n-1,by omega,i+1,by omega,g1,rfl,trivial,?_⟩;rw[hd,hdrop,hn]; rfl
     .rintro F' H' ⟨g2,rfl,hdd⟩
      simp -implicitDefEqProofs only[CP,EE,FQ,CG,g2];exact⟨by rw[hme,hdd]; rfl,hx⟩
    .have hi':¬i<m.crs.length:=by simpa using hc
     simp -implicitDefEqProofs only[BC,BA,BK,DJ,A8,EG,EU,ET,CG,AY,BB,AO,AQ,AL,BD,AX,AC,AA,AU,BH,A7,↓reduceIte,jB,jC];exact⟨by rw[hme,hd,jW (by omega)]; rfl,hx⟩
   .rintro F H' ⟨f2,rfl⟩
    simp -implicitDefEqProofs only[CP,EE,CG,f2];exact⟨trivial,hx⟩
  .rintro F H ⟨f2,rfl⟩
   simp -implicitDefEqProofs only[CP,EE,CG,f2];exact⟨trivial,hx⟩
 .rintro F H' ⟨f2,rfl⟩
  simp -implicitDefEqProofs only[CP,EE,CG,f2];exact⟨trivial,hx⟩
def eqL (a b:List Int):Bool:=decide (a=b)
theorem AEX {a b:List Int}{k:Nat}(ha:k<a.length)(hb:k<b.length):eqL (a.drop k) (b.drop k)=(decide (a[k]=b[k])&&eqL (a.drop (k+1)) (b.drop (k+1))):=by
 rw[zK ha,zK hb];unfold eqL;rw[decide_eq_decide.2 (Iff.of_eq (List.cons.injEq _ _ _ _)),Bool.decide_and]
theorem AEV (G:Nat->AV)(a b:List Int)(s t:SM)(h:Hp)(hl:b.length<=1099511627776):PCall (En G) 188 [.sl s 1 (a.map encI),.sl t 1 (b.map encI)] h (.bool (eqL a b)):=by
 refine acN Tryz.func188 rfl ?_;show awp _ _ _ _ _ (EN _ [.tmp 4] _);simp -implicitDefEqProofs only[BC,BA,BI,A8,AY,BB,AO,AQ,AL,BD,AX,AC,AA,AZ,AU,BM,BG,A7,BR,DZ,AB,EK,BF,BN,↓reduceIte,jA,jB,jC,enP,JD,jI];refine CV (fun h1=>?_) (fun h1=>?_)
 .simp -implicitDefEqProofs only[BC,BA,BK,A8,CP,CG,AY,BB,AO,AQ,AL,BD,AX,AC,AA,AU,BM,A7,↓reduceIte,jB,jC]
  have:eqL a b=false:=by
   unfold eqL; rw[decide_eq_false_iff_not]; intro e; subst e; simp at h1
  exact⟨by rw[this],trivial⟩
 have hab:a.length=b.length:=by simp at h1; omega
 simp -implicitDefEqProofs only[BC,BP,BA,BO,A8,AY,BB,AO,AQ,AL,BD,AX,AC,AA,AZ,AU,BH,BG,DZ,AB,BF,↓reduceIte,jA,jB,jC,enP,JD,jI];refine DK (fun n F H=>∃k,n+k=a.length∧F 0=.sl s 1 (a.map encI)∧F 1=.sl t 1 (b.map encI)∧F 12=.int .i64 a.length∧F 13=.int .i64 (k:Nat)∧H=h∧eqL a b=eqL (a.drop k) (b.drop k)) a.length ⟨0,by simp,by simp -implicitDefEqProofs only[AA,BF,↓reduceIte,jA],by simp -implicitDefEqProofs only[AA,BF,BN,↓reduceIte,jA],by simp -implicitDefEqProofs only[AA,↓reduceIte,jA],by simp -implicitDefEqProofs only[AA,↓reduceIte]; rfl,rfl,rfl⟩ ?_;rintro n F H ⟨k,hk,f0,f1,f12,f13,rfl,hi⟩;simp -implicitDefEqProofs only[BC,BA,BI,A8,AY,BB,AO,AQ,AL,BD,AX,AC,AA,AZ,BR,AB,CZ,↓reduceIte,jB,jC,enP,f12,f13];refine CV (fun hc=>?_) (fun hc=>?_)
 .have hk':k<a.length:=by simpa using hc
  have hkb:k<b.length:=by omega
  rw[AEX hk' hkb] at hi;simp -implicitDefEqProofs only[BC,BP,BA,BO,A8,AY,BB,AO,AQ,AL,BD,AX,AC,AA,AZ,BG,A7,↓reduceIte,jA,jB,jC,f13];refine E8 (by kernel_rfl) ?_;simp -implicitDefEqProofs only[F6,EH,DT,FB,EI,FT,FH,I4,EF,BI,A8,AO,AA,AZ,BQ,BR,CE,AB,EK,↓reduceIte,jA,jM,jB,enP,JF,f0,f1,f13,DU hk',DU hkb,DF ag3 hk',DF ag3 hkb,encI0];refine CV (fun hd=>?_) (fun hd=>?_)
  .simp -implicitDefEqProofs only[BC,BA,BK,A8,CP,EE,FQ,CG,AY,BB,AO,AQ,AL,BD,AX,AC,AA,AU,BM,A7,↓reduceIte,jB,jC]
   have:decide (a[k]=b[k])=false:=by simpa using hd
   exact⟨by rw[hi,this]; rfl,trivial⟩
  .simp -implicitDefEqProofs only[BA,BO,A8,EJ,EQ,AY,BB,AO,AQ,AL,BD,AX,AC,AA,AZ,AU,BH,BG,BR,AB,C9,↓reduceIte,jA,jB,jC,enP,f13,wrap_succ (show k<9223372036854775807 by omega)]
   have:decide (a[k]=b[k])=true:=by simpa using hd
   exact⟨n-1,by omega,k+1,by omega,f0,f1,f12,rfl,trivial,by rw[hi,this]; rfl⟩
 .have hk':¬k<a.length:=by simpa using hc
  simp -implicitDefEqProofs only[BC,BA,BK,DJ,A8,EG,EU,ET,CG,AY,BB,AO,AQ,AL,BD,AX,AC,AA,AU,BM,A7,↓reduceIte,jB,jC];exact⟨by rw[hi,jW (by omega),jW (by omega)]; rfl,trivial⟩
theorem ADU (G:Nat->AV)(a b:List Int)(s t:SM)(h:Hp)(hl:b.length<=1099511627776):PCall (En G) 148 [.sl s 1 (a.map encI),.sl t 1 (b.map encI)] h (.bool (eqL a b)):=by
 refine acN Tryz.func148 rfl ?_;show awp _ _ _ _ _ (EN _ [.tmp 4] _);simp -implicitDefEqProofs only[BC,BA,BI,A8,AY,BB,AO,AQ,AL,BD,AX,AC,AA,AZ,AU,BM,BG,A7,BR,DZ,AB,EK,BF,BN,↓reduceIte,jA,jB,jC,enP,JD,jI];refine CV (fun h1=>?_) (fun h1=>?_)
 .simp -implicitDefEqProofs only[BC,BA,BK,A8,CP,CG,AY,BB,AO,AQ,AL,BD,AX,AC,AA,AU,BM,A7,↓reduceIte,jB,jC]
  have:eqL a b=false:=by
   unfold eqL; rw[decide_eq_false_iff_not]; intro e; subst e; simp at h1
  exact⟨by rw[this],trivial⟩
 have hab:a.length=b.length:=by simp at h1; omega
 simp -implicitDefEqProofs only[BC,BP,BA,BO,A8,AY,BB,AO,AQ,AL,BD,AX,AC,AU,BH,A7,jB,jC];refine DK (fun n F H=>∃k,n+k=a.length∧F 0=.sl s 1 (a.map encI)∧F 1=.sl t 1 (b.map encI)∧F 5=.int .i64 (k:Nat)∧H=h∧eqL a b=eqL (a.drop k) (b.drop k)) a.length ⟨0,by simp,by simp -implicitDefEqProofs only[AA,BF,↓reduceIte,jA],by simp -implicitDefEqProofs only[AA,BF,BN,↓reduceIte,jA],by simp -implicitDefEqProofs only[AA,↓reduceIte]; rfl,rfl,rfl⟩ ?_;rintro n F H ⟨k,hk,f0,f1,f5,rfl,hi⟩;simp -implicitDefEqProofs only[BC,BA,BI,A8,AY,BB,AO,AQ,AL,BD,AX,AC,AA,AZ,BG,BR,DZ,AB,CZ,↓reduceIte,jA,jB,jC,enP,JD,f0,f5,jI];refine CV (fun hc=>?_) (fun hc=>?_)
 .have hk':k<a.length:=by simpa using hc
  have hkb:k<b.length:=by omega
  rw[AEX hk' hkb] at hi;simp -implicitDefEqProofs only[BC,BP,BO,A8];refine E8 (by kernel_rfl) ?_;simp -implicitDefEqProofs only[F6,EH,DT,FB,EI,FT,FH,I4,EF,BI,A8,AO,AA,AZ,BQ,BR,CE,AB,EK,↓reduceIte,jA,jM,jB,enP,JF,f0,f1,f5,DU hk',DU hkb,DF ag3 hk',DF ag3 hkb,encI0];refine CV (fun hd=>?_) (fun hd=>?_)
  .simp -implicitDefEqProofs only[BC,BA,BK,A8,CP,EE,FQ,CG,AY,BB,AO,AQ,AL,BD,AX,AC,AA,AU,BM,A7,↓reduceIte,jB,jC]
   have:decide (a[k]=b[k])=false:=by simpa using hd
   exact⟨by rw[hi,this]; rfl,trivial⟩
  .simp -implicitDefEqProofs only[BA,BO,A8,EJ,EQ,AY,BB,AO,AQ,AL,BD,AX,AC,AA,AZ,AU,BH,BG,A7,BR,AB,C9,↓reduceIte,jA,jB,jC,enP,f5,wrap_succ (show k<9223372036854775807 by omega)]
   have:decide (a[k]=b[k])=true:=by simpa using hd
   exact⟨n-1,by omega,k+1,by omega,f0,f1,rfl,trivial,by rw[hi,this]; rfl⟩
 .have hk':¬k<a.length:=by simpa using hc
  simp -implicitDefEqProofs only[BC,BA,BK,DJ,A8,EG,EU,ET,CG,AY,BB,AO,AQ,AL,BD,AX,AC,AA,AU,BM,A7,↓reduceIte,jB,jC];exact⟨by rw[hi,jW (by omega),jW (by omega)]; rfl,trivial⟩
def G9 (n:Int):Bool:=decide (0<=n)&&decide (n<=1099511627776)
def countB (n:Int)(may:Bool):Bool:=G9 n&&(may||n==0)
theorem U2 (G:Nat->AV)(n:Int)(h:Hp):PCall (En G) 88 [.int .i64 n] h (.bool (G9 n)):=by
 refine acN Tryz.func88 rfl ?_;show awp _ _ _ _ _ (EN _ [.tmp 2] _);simp -implicitDefEqProofs only[BC,BA,A8,AY,BB,BL,BV,CO,AO,AQ,AL,BD,AX,AC,AA,AZ,AU,BH,BM,BG,A7,BR,AB,G6,BF,↓reduceIte,jA,jB,jC,enP];cases ha:decide (n≥0)
 all_goals
  simp -implicitDefEqProofs only[BK,A8,CG,AY,BB,BL,BV,CO,GH,IU,AO,AQ,AL,BD,AX,AC,AA,EW,AZ,AU,BH,BM,BG,A7,CQ,DY,DW,BR,AB,JA,BF,↓reduceIte,jA,jB,jC,enP,ha];exact⟨by unfold G9; rw[show decide (0<=n)=decide (n≥0) from rfl,ha]; rfl,trivial⟩
theorem VA (G:Nat->AV)(n:Int)(may:Bool)(h:Hp):PCall (En G) 126 [.int .i64 n,.bool may] h (.bool (countB n may)):=by
 refine acN Tryz.func126 rfl ?_;show awp _ _ _ _ _ (EN _ [.tmp 4] _);simp -implicitDefEqProofs only[BC,BA,A8,AY,BB,BL,BV,CO,AO,AQ,AL,BD,AX,AC,AA,AZ,AU,BH,BM,BG,A7,BR,AB,G6,BF,↓reduceIte,jA,jB,jC,enP];cases ha:decide (n≥0)<;>cases hb:decide (n<=1099511627776)<;>cases may
 all_goals
  simp -implicitDefEqProofs only[BK,A8,CG,AY,BB,BL,BV,CO,GH,ES,IU,F7,SV,AO,AQ,AL,BD,AX,AC,AA,EW,AZ,AU,BH,BM,BG,A7,CQ,DY,DW,BR,AB,D7,JA,BF,BN,↓reduceIte,jA,jB,jC,enP,ha,hb];exact⟨by unfold countB G9; rw[show decide (0<=n)=decide (n≥0) from rfl,ha,hb]; rfl,trivial⟩
theorem AB9 (G:Nat->AV)(b:Bin)(h:Hp):PCall (En G) 179 [.agg (GV b)] h (.bool (b.kind==0)):=by
 refine ACalls.pure0 rfl ?_;refine acN Tryz.func179 rfl ?_;show awp _ _ _ _ _ (EN _ [.tmp 2] _);simp -implicitDefEqProofs only[BC,BA,BK,A8,CG,AY,BB,AO,AQ,AL,BD,AX,AC,AA,AZ,AU,BH,BM,A7,FU,BQ,BR,BJ,BX,AB,D7,BF,↓reduceIte,jA,jG,jB,jC,enP,MR,bxB,DL ag3,UR];exact⟨trivial,_,rfl⟩
def YW (m:Mo)(p b:Int):Int:=match (JK m p)[b.toNat]? with
 | some x=>x.kind
 | none=>0
def OG (m:Mo):List Int->List Int->Bool
 | p::ps,b::bs=>(YW m p b==0)&&OG m ps bs
 | _,_=>true
def Q3 (m:Mo)(c:Cr)(l:List Int):Bool:=OG m c.pts l && !(c.excl.any fun x=>eqL x.l l)
theorem AC2 {m:Mo}:∀ {ps l:List Int},MS (szs m ps) l=true->∀(k:Nat) (hk:k<l.length) (hp:k<ps.length),0<=l[k]∧l[k]<((JK m ps[k]).length:Int)
 | p::ps,b::bs,h,k,hk,hp=>by
   simp only[szs,jD,MS,jV,decide_eq_true_eq] at h
   cases k with
   | zero=>exact h.1
   | succ k=>exact AC2 (m:=m) (ps:=ps) h.2 k (by simpa using hk) (by simpa using hp)
 | [],b::bs,h,k,hk,hp=>by simp at hp
 | _,[],h,k,hk,hp=>by simp at hk
theorem WE (m:Mo)(ps l:List Int)(k:Nat)(hp:k<ps.length)(hk:k<l.length):OG m (ps.drop k) (l.drop k)=((YW m ps[k] l[k]==0)&&OG m (ps.drop (k+1)) (l.drop (k+1))):=by
 rw[zK hp,zK hk]; rfl
theorem YV (m:Mo)(ps:List Int):OG m ps []=true:=by cases ps<;>rfl
theorem AN1 {m:Mo}{p b:Int}(h0:0<=b)(h1:b<((JK m p).length:Int))(h:Hp)(s:SM):KN 4 h (.sl s 4 ((JK m p).map GV)) (.int .i64 b)=some (.fptr 4 ((JK m p).map GV) b.toNat 0) :=
 A0M h0 (by rw[jI]; exact h1)
theorem AFC {m:Mo}{p b:Int}(h0:0<=b)(h1:b<((JK m p).length:Int)):((JK m p)[b.toNat]'(by omega)).kind=YW m p b:=by
 unfold YW; rw[jS (by omega)]
theorem AY4 (G:Nat->AV)(l:List Int)(s:SM)(b:Nat)(r:Is)(h:Hp)(hb:h[b]?=some (.live 1 [[.sl s 1 (l.map encI)]]))(hl:l.length<=1099511627776) :
  PCall (En G) 221 [.sl r.m 1 (r.l.map encI),.ptr b 0 0] h (.bool (eqL r.l l)):=by
 refine acN Tryz.func221 rfl ?_;show awp _ _ _ _ _ (EN _ [.tmp 3] _);simp -implicitDefEqProofs only[BC,BA,A8,AY,BB,AO,AQ,AL,BD,AX,AC,AA,AZ,AU,BZ,BM,BG,A7,BQ,CB,BU,AB,BF,BN,jD,jE,jF,↓reduceIte,jA,jB,jC,enP,JS KP hb];refine(AEV G r.l l r.m s h hl).use ?_;simp -implicitDefEqProofs only[BK,A8,CG,AY,BB,AO,AQ,AL,BD,AX,AC,AA,AZ,A7,↓reduceIte,jB,jC];exact⟨trivial,trivial⟩
theorem Two.app {h H:Hp}{m:Mo}{c:Cr}{cb:Nat}(t:Two h H m c cb)(x:Hp):Two h (H++x) m c cb:=by
 obtain⟨y,hy⟩:=t.hx;exact⟨FZ t.gm,FZ t.gc,⟨y++x,by rw[hy,zA]⟩⟩
theorem YA (G:Nat->AV)(m:Mo)(c:Cr)(l:List Int)(s:SM)(h:Hp)(hh:Here m c.pts)(hi:MS (szs m c.pts) l=true)(hl:c.pts.length<=1048576)(hx:c.excl.length<=1048576):PCall (En G) 169 [.agg (D5 m),.agg (GG c),.sl s 1 (l.map encI)] h (.bool (Q3 m c l)):=by
 refine ACalls.pure0 rfl ?_;have hlen:l.length=c.pts.length:=by have:=QI hi; rw[LJ] at this; omega
 refine acN Tryz.func169 rfl ?_;show awp _ _ _ _ _ (EN _ [.tmp 6] _);have t:=(Two.mk' h m c).app [.live 1 [[.sl s 1 (l.map encI)]]];have gl:=CX (h++[ABlk.live 2 [D5 m]]++[ABlk.live 3 [GG c]]) (.live 1 [[.sl s 1 (l.map encI)]]);simp -implicitDefEqProofs only[AN0,BC,BA,A8,AY,BB,AO,AQ,AL,BD,AX,AC,AA,AZ,AU,BM,A7,FU,BQ,BX,BF,BN,↓reduceIte,jA,jB,jC,enP,bxM,bxC]
 generalize h++[ABlk.live 2 [D5 m]]++[ABlk.live 3 [GG c]]++[ABlk.live 1 [[.sl s 1 (l.map encI)]]]=H at t gl|-
 generalize (h++[ABlk.live 2 [D5 m]]++[ABlk.live 3 [GG c]]).length=lb at gl|-
 generalize (h++[ABlk.live 2 [D5 m]]).length=cb at t|-
 simp -implicitDefEqProofs only[BP,A8,AY,BB,AO,AQ,AL,BD,AX,AC,AA,AZ,AU,BH,BG,DZ,AB,↓reduceIte,jB,jC,enP,JD,JS KP gl,jI];have hkb:=WE m c.pts l;refine GM 0 (fun F H'=>F 4=.ptr cb 0 0∧F 5=.ptr lb 0 0∧H'=H∧OG m c.pts l=true) (fun F H'=>F 6=.bool false∧H'=H∧OG m c.pts l=false) ?_ ?_ ?_
 .refine DK (fun n F H'=>∃k,n+k=l.length∧F 3=.ptr h.length 0 0∧F 4=.ptr cb 0 0∧F 5=.ptr lb 0 0∧F 9=.sl s 1 (l.map encI)∧F 10=.int .i64 l.length∧F 11=.int .i64 (k:Nat)∧H'=H∧OG m c.pts l=OG m (c.pts.drop k) (l.drop k)) l.length ⟨0,by simp,by simp -implicitDefEqProofs only[AA,↓reduceIte,jA],by simp -implicitDefEqProofs only[AA,↓reduceIte,jA],by simp -implicitDefEqProofs only[AA,↓reduceIte,jA],by simp -implicitDefEqProofs only[AA,↓reduceIte,jA],by simp -implicitDefEqProofs only[AA,↓reduceIte,jA],by simp -implicitDefEqProofs only[AA,↓reduceIte]; rfl,rfl,rfl⟩ ?_
  rintro n F H' ⟨k,hk,f3,f4,f5,f9,f10,f11,rfl,hk0⟩;simp -implicitDefEqProofs only[BC,BA,BI,A8,AY,BB,AO,AQ,AL,BD,AX,AC,AA,AZ,BR,AB,CZ,↓reduceIte,jB,jC,enP,f10,f11];refine CV (fun hc=>?_) (fun hc=>?_)
  .have hk':k<l.length:=by simpa using hc
   have hkc:k<c.pts.length:=by omega
   rw[hkb k hkc hk'] at hk0;obtain⟨h0,h1⟩:=AC2 hi k hk' hkc;obtain⟨s2,ls⟩:=hh.ld hkc H';simp -implicitDefEqProofs only[BC,BP,BA,BO,A8,AY,BB,AO,AQ,AL,BD,AX,AC,AA,AZ,BG,A7,BQ,CE,AB,↓reduceIte,jA,jB,jC,enP,JF,f9,f11,DU hk',DF ag3 hk',encI0];refine E8 (by kernel_rfl) ?_;simp -implicitDefEqProofs only[F6,EH,DT,EI,FT,FH,ADE,D9,EF,GU,F9,AO,AA,AZ,BZ,BQ,IG,BJ,CE,AB,jD,jE,jF,↓reduceIte,jA,jM,jK,jG,jB,enP,S9,IP,YX,I9,JF,KO,f3,f4,f11,t.lm,t.l1,DU hkc,DF ag3 hkc,encI0,hh.ix hkc,ls,AN1 h0 h1,FM VK QR MK (show l[k].toNat<(JK m c.pts[k]).length by omega)];refine⟨_,AB9 G _ _,?_⟩
   try simp -implicitDefEqProofs only[DT,FB,BI,A8,AA,AZ,AB,FI,↓reduceIte]
   rw[AFC h0 h1];cases hkd:(YW m c.pts[k] l[k]==0)
   .simp -implicitDefEqProofs only[BC,BA,BK,A8,CP,EE,NM,FQ,DI,AY,BB,AO,AQ,AL,BD,AX,AC,AA,AU,BM,A7,↓reduceIte,jB,jC]
    exact⟨trivial,trivial,by rw[hk0,hkd]; rfl⟩
   .simp -implicitDefEqProofs only[BA,BO,A8,EJ,EQ,DR,AY,BB,AO,AQ,AL,BD,AX,AC,AA,AZ,AU,BH,BG,BR,AB,C9,↓reduceIte,jA,jB,jR,jC,enP,f11,wrap_succ (show k<9223372036854775807 by omega)]
    exact⟨n-1,by omega,k+1,by omega,f3,f4,f5,f9,f10,rfl,trivial,by rw[hk0,hkd]; rfl⟩
  .have hk':¬k<l.length:=by simpa using hc
   simp -implicitDefEqProofs only[DJ,EG,KC,ET,AA,↓reduceIte,jA];exact⟨f4,f5,trivial,by rw[hk0,jW (show l.length<=k by omega),YV]⟩
 .rintro F H' ⟨f4,f5,rfl,hk⟩
  simp -implicitDefEqProofs only[BC,BA,A8,EU,AY,AO,AQ,AL,BD,AX,AC,AA,AZ,BZ,BQ,I7,BJ,CB,BU,AB,jD,jE,jF,↓reduceIte,jA,jG,jB,jC,enP,U8,f4,f5,t.l2];refine(SL G c.excl c.xm 221 _ (fun x=>eqL x.l l) _ (by omega) fun r=>AY4 G l s _ r _ gl (by omega)).use ?_;simp -implicitDefEqProofs only[BK,A8,CG,AY,BB,AO,AQ,AL,BD,AX,AC,AA,AZ,A7,IG,AB,FI,↓reduceIte,jB,jC];exact⟨by unfold Q3; rw[hk]; rfl,t.hx⟩
 .rintro F H' ⟨f6,rfl,hk⟩
  simp -implicitDefEqProofs only[CP,EE,CG,f6];exact⟨by unfold Q3; rw[hk]; rfl,t.hx⟩
theorem AE2 (G:Nat->AV)(m:Mo)(c:Cr)(l:List Int)(s:SM)(h:Hp)(hh:Here m c.pts)(hi:MS (szs m c.pts) l=true)(hl:c.pts.length<=1048576)(hx:c.excl.length<=1048576):PCall (En G) 90 [.agg (D5 m),.agg (GG c),.sl s 1 (l.map encI)] h (.bool (Q3 m c l)):=by
 refine ACalls.pure0 rfl ?_;have hlen:l.length=c.pts.length:=by have:=QI hi; rw[LJ] at this; omega
 refine acN Tryz.func90 rfl ?_;show awp _ _ _ _ _ (EN _ [.tmp 6] _);have t:=Two.mk' h m c;simp -implicitDefEqProofs only[BC,BP,BA,A8,AY,BB,AO,AQ,AL,BD,AX,AC,AA,AZ,AU,BH,BM,A7,FU,BX,BF,BN,↓reduceIte,jA,jB,jC,enP,bxM,bxC]
 generalize h++[ABlk.live 2 [D5 m]]++[ABlk.live 3 [GG c]]=H at t|-
 generalize (h++[ABlk.live 2 [D5 m]]).length=cb at t|-
 have hkb:=WE m c.pts l;refine GM 0 (fun F H'=>F 2=.sl s 1 (l.map encI)∧F 3=.ptr h.length 0 0∧F 4=.ptr cb 0 0∧H'=H∧(c.excl.any fun x=>eqL x.l l)=false) (fun F H'=>F 6=.bool false∧H'=H∧(c.excl.any fun x=>eqL x.l l)=true) ?_ ?_ ?_
 .refine DK (fun n F H'=>∃k,n+k=c.excl.length∧F 2=.sl s 1 (l.map encI)∧F 3=.ptr h.length 0 0∧F 4=.ptr cb 0 0∧F 7=.int .i64 (k:Nat)∧H'=H∧(c.excl.any fun x=>eqL x.l l)=((c.excl.drop k).any fun x=>eqL x.l l)) c.excl.length ⟨0,by simp,by simp -implicitDefEqProofs only[AA,BF,BN,↓reduceIte,jA],by simp -implicitDefEqProofs only[AA,↓reduceIte,jA],by simp -implicitDefEqProofs only[AA,↓reduceIte,jA],by simp -implicitDefEqProofs only[AA,↓reduceIte]; rfl,rfl,rfl⟩ ?_
  rintro n F H' ⟨k,hk,f2,f3,f4,f7,rfl,ha⟩;simp -implicitDefEqProofs only[BC,BA,BI,A8,AY,BB,AO,AQ,AL,BD,AX,AC,AA,AZ,BG,BQ,BR,BJ,DZ,AB,CZ,↓reduceIte,jA,jG,jB,jC,enP,YU,U8,f4,f7,t.l2,jI];refine CV (fun hc=>?_) (fun hc=>?_)
  .have hk':k<c.excl.length:=by simpa using hc
   have hs:=LG (fun x:Is=>eqL x.l l) c.excl k hk';simp -implicitDefEqProofs only[BC,BP,BA,BO,A8,AY,AO,AQ,AL,BD,AX,AC,AA,AZ,BZ,BG,BQ,BJ,CE,CB,BU,AB,jD,jE,jF,↓reduceIte,jA,jG,jB,jC,enP,OI,U8,f2,f4,f7,t.l2,DU hk',DF KP hk',OC];refine(ADU G c.excl[k].l l _ s _ (by omega)).use ?_;simp -implicitDefEqProofs only[BI,A8,BB,AC,AA,AZ,↓reduceIte];cases he:eqL c.excl[k].l l
   .simp -implicitDefEqProofs only[BA,BO,A8,EJ,EQ,DR,AY,BB,AO,AQ,AL,BD,AX,AC,AA,AZ,AU,BH,BG,A7,BR,AB,C9,↓reduceIte,jA,jB,jC,enP,f7,wrap_succ (show k<9223372036854775807 by omega)]
    exact⟨n-1,by omega,k+1,by omega,f2,f3,f4,rfl,trivial,by rw[ha,hs,he]; rfl⟩
   .simp -implicitDefEqProofs only[BC,BA,BK,A8,CP,EE,NM,FQ,DI,AY,BB,AO,AQ,AL,BD,AX,AC,AA,AU,BM,A7,↓reduceIte,jB,jC]
    exact⟨trivial,trivial,by rw[ha,hs,he]; rfl⟩
  .have hk':¬k<c.excl.length:=by simpa using hc
   simp -implicitDefEqProofs only[DJ,EG,KC,ET,AA,↓reduceIte,jA];exact⟨f2,f3,f4,trivial,by rw[ha,jW (by omega)]; rfl⟩
 .rintro F H' ⟨f2,f3,f4,rfl,ha⟩
  have hhb:Q3 m c l=OG m c.pts l:=by unfold Q3; rw[ha]; simp
  rw[hhb];simp -implicitDefEqProofs only[BC,BP,BA,A8,EU,AY,BB,AO,AQ,AL,BD,AX,AC,AU,BH,A7,↓reduceIte,jB,jC];refine DK (fun n F H=>∃k,n+k=l.length∧F 2=.sl s 1 (l.map encI)∧F 3=.ptr h.length 0 0∧F 4=.ptr cb 0 0∧F 8=.int .i64 (k:Nat)∧H=H'∧OG m c.pts l=OG m (c.pts.drop k) (l.drop k)) l.length ⟨0,by simp,by simp -implicitDefEqProofs only[AA,↓reduceIte,jA,f2],by simp -implicitDefEqProofs only[AA,↓reduceIte,jA,f3],by simp -implicitDefEqProofs only[AA,↓reduceIte,jA,f4],by simp -implicitDefEqProofs only[AA,↓reduceIte]; rfl,rfl,rfl⟩ ?_;clear f2 f3 f4;rintro n F H' ⟨k,hk,f2,f3,f4,f8,rfl,hk0⟩;simp -implicitDefEqProofs only[BC,BA,BI,A8,AY,BB,AO,AQ,AL,BD,AX,AC,AA,AZ,BG,BR,DZ,AB,CZ,↓reduceIte,jA,jB,jC,enP,JD,f2,f8,jI];refine CV (fun hc=>?_) (fun hc=>?_)
  .have hk':k<l.length:=by simpa using hc
   have hkc:k<c.pts.length:=by omega
   rw[hkb k hkc hk'] at hk0;obtain⟨h0,h1⟩:=AC2 hi k hk' hkc;obtain⟨s2,ls⟩:=hh.ld hkc H';have hlt:l[k].toNat<(JK m c.pts[k]).length:=by omega
   simp -implicitDefEqProofs only[BC,BP,BO,A8];refine E8 (by kernel_rfl) ?_;simp -implicitDefEqProofs only[F6,EH,DT,FB,EI,FT,FH,I4,D9,EF,BI,A8,AO,AA,AZ,AU,BH,BQ,BR,BJ,CE,AB,EK,↓reduceIte,jA,jM,jK,jG,jB,enP,S9,IP,YX,I9,JF,KO,MR,bne,f2,f3,f4,f8,t.lm,t.l1,DU hkc,DF ag3 hkc,DU hk',DF ag3 hk',encI0,hh.ix hkc,ls,AN1 h0 h1,DF ag3 hlt,UR,AFC h0 h1];cases hkd:(YW m c.pts[k] l[k]==0)
   .simp -implicitDefEqProofs only[BC,BA,BK,A8,CP,EE,FQ,CG,DI,AY,BB,AO,AQ,AL,BD,AX,AC,AA,AU,BM,A7,↓reduceIte,jB,jC]
    exact⟨by rw[hk0,hkd]; rfl,t.hx⟩
   .simp -implicitDefEqProofs only[BA,BO,A8,EJ,EQ,DR,AY,BB,AO,AQ,AL,BD,AX,AC,AA,AZ,AU,BH,BG,A7,BR,AB,C9,↓reduceIte,jA,jB,jR,jC,enP,f8,wrap_succ (show k<9223372036854775807 by omega)]
    exact⟨n-1,by omega,k+1,by omega,f2,f3,f4,rfl,trivial,by rw[hk0,hkd]; rfl⟩
  .have hk':¬k<l.length:=by simpa using hc
   simp -implicitDefEqProofs only[BC,BA,BK,DJ,A8,EG,EU,ET,CG,AY,BB,AO,AQ,AL,BD,AX,AC,AA,AU,BM,A7,↓reduceIte,jB,jC];exact⟨by rw[hk0,jW (show l.length<=k by omega),YV],t.hx⟩
 .rintro F H' ⟨f6,rfl,ha⟩
  simp -implicitDefEqProofs only[CP,EE,CG,f6];exact⟨by unfold Q3; rw[ha]; simp,t.hx⟩
theorem AI1 (xs:List Nat):xs.map II=(xs.map fun n:Nat=>(n:Int)).map encI:=by
 rw[List.map_map]; rfl
def tupF:List Nat->Nat->List Nat×Nat
 | [],k=>([],k)
 | n::ns,k=>(((tupF ns k).2%n)::(tupF ns k).1,(tupF ns k).2/n)
def NG (ns:List Nat)(k:Nat):List Int:=(tupF ns k).1.map fun n:Nat=>(n:Int)
theorem QD:∀(ns:List Nat) (k:Nat),(tupF ns k).1.length=ns.length
 | [],_=>rfl
 | n::ns,k=>by simp [tupF,QD ns k]
theorem AHQ:∀(ns:List Nat) (k:Nat),(tupF ns k).2<=k
 | [],_=>jL _
 | _::ns,k=>zY (Nat.div_le_self _ _) (AHQ ns k)
theorem UB:∀(ns:List Nat) (k:Nat),(∀n∈ns,1<=n)->MS ns (NG ns k)=true
 | [],_,_=>rfl
 | n::ns,k,h=>by
   have h1:=h n (by simp);have ih:=UB ns k (fun x hx=>h x (by simp [hx]));have h2:(tupF ns k).2%n<n:=Nat.mod_lt _ (by omega);show MS (n::ns) (((tupF ns k).2%n:Nat)::NG ns k)=true;unfold MS;rw[ih];simp; omega
theorem tup_step {ns:List Nat}{K j:Nat}(hj:j<ns.length):tupF (ns.drop j) K=(((tupF (ns.drop (j+1)) K).2%ns[j])::(tupF (ns.drop (j+1)) K).1,(tupF (ns.drop (j+1)) K).2/ns[j]):=by
 rw[zK hj]; rfl
theorem AJ6 {α:Type}{f:α->List AV}{pre out:List α}{j:Nat}{x:α}(hj:j<pre.length):((pre.take (j+1)++out).map f).set j (f x)=(pre.take j++x::out).map f:=by
 rw[zL hj,zA];simp only[wI,jD,jE,List.singleton_append];rw[List.set_append_right _ _ (by simp; omega)];simp [Nat.min_eq_left (Nat.le_of_lt hj)]
theorem A1Q (h:Hp)(n:Nat)(hn:n<=1048576):I8 Tryz.prog true h 57 (.int .i64 (n:Int)) (.int .i64 (n:Int))=some (.own h.length 0 n,h++[.live 1 ((jZ n 0).map II)]):=by
 have hz:NY Tryz.prog 3=some [.int .i64 0]:=by kernel_rfl
 have hr:room n 8:=JM (by omega) (by omega);unfold I8;simp only[UA,sz3,WS,hz,Int.toNat_natCast];rw[if_pos ⟨by omega,Int.le_refl _,hr,rfl⟩];simp [II]
theorem ATD {h:Hp}{o j:Nat}{rows:List (List AV)}{x:Nat}(ho:h[o]?=some (.live 1 rows))(hj:∃v,rows[j]?=some [v]):FX Tryz.prog h 3 (.ptr o j 0) (.int .i64 (x:Int))=some (h.set o (.live 1 (rows.set j (II x)))):=by
 obtain⟨v,hv⟩:=hj;rw[KY (P6 _ _) sz3 ho hv (by simp)]; rfl
theorem AHX (a b:Nat)(hb:0<b):JG Tryz.prog 3 .rem (.int .i64 (a:Int)) (.int .i64 (b:Int))=some (.int .i64 ((a%b:Nat):Int)):=by
 rw[ADA _ _ _ _ _ (by omega),Int.tmod_eq_emod_of_nonneg (by omega)]; rfl
theorem ACX (a b:Nat)(hb:0<b)(ha:a<=9223372036854775807):JG Tryz.prog 3 .quo (.int .i64 (a:Int)) (.int .i64 (b:Int))=some (.int .i64 ((a/b:Nat):Int)):=by
 have h1:((a:Int).tdiv (b:Int))=((a/b:Nat):Int):=by rw[Int.tdiv_eq_ediv_of_nonneg (by omega)]; rfl
 have h2:=Nat.div_le_self a b;rw[AZN _ _ _ _ _ (by omega),h1,MC (by omega)]
theorem AGD (G:Nat->AV)(m:Mo)(c:Cr)(K:Nat)(h:Hp)(hh:Here m c.pts)(hf:Full m)(h0:0<c.pts.length)(hl:c.pts.length<=1048576)(hK:K<=1048576):PCall (En G) 91 [.agg (D5 m),.agg (GG c),.int .i64 (K:Int)] h (.sl .any 1 ((NG (szs m c.pts) K).map encI)):=by
 have hs:=hf.szs hh;have hsl:=LJ m c.pts
 have hgo:ACalls (En G) 91 [.agg (D5 m),.agg (GG c),.int .i64 (K:Int)] h fun v H=>ext h H∧outG 1 II h (tupF (szs m c.pts) K).1 v H:=by
  refine acN Tryz.func91 rfl ?_;show awp _ _ _ _ _ (EN _ [.tmp 6] _);have t:=Two.mk' h m c;have hlt:h.length<=(h++[ABlk.live 2 [D5 m]]++[ABlk.live 3 [GG c]]).length:=by simp
  have he0:ext h (h++[ABlk.live 2 [D5 m]]++[ABlk.live 3 [GG c]]):=((ext.rfl' h).app _).app _;simp -implicitDefEqProofs only[BC,BA,A8,AY,BB,AO,AQ,AL,BD,AX,AC,AA,AZ,AU,IY,A7,FU,BQ,BJ,BX,AB,BF,BN,↓reduceIte,jA,jG,jB,jC,enP,KO,bxM,bxC]
  generalize h++[ABlk.live 2 [D5 m]]++[ABlk.live 3 [GG c]]=H at t hlt he0|-
  generalize (h++[ABlk.live 2 [D5 m]]).length=cb at t|-
  have t2:Two h (H++[.live 1 ((jZ c.pts.length 0).map II)]) m c cb:=t.app _;simp -implicitDefEqProofs only[BC,BP,BA,A8,AY,BB,AO,AQ,AL,BD,AX,AC,AA,AZ,AU,BH,A7,BQ,BR,JH,BJ,DZ,BX,AB,J9,↓reduceIte,jA,jG,jB,jC,enP,JD,KO,t.l1,jI,A1Q _ _ hl,t2.l1];rw[wrap_i64 (n:=(c.pts.length:Int)-1) (by omega) (by omega)];refine DK (fun n F H'=>∃j,n=j∧j<=c.pts.length∧F 3=.ptr h.length 0 0∧F 4=.ptr cb 0 0∧F 7=.own H.length 0 c.pts.length∧F 8=.int .i64 ((j:Int)-1)∧F 2=.int .i64 ((tupF ((szs m c.pts).drop j) K).2:Nat)∧Two h H' m c cb∧ext h H'∧H'[H.length]?=some (.live 1 (((jZ c.pts.length 0).take j++(tupF ((szs m c.pts).drop j) K).1).map II))) c.pts.length ⟨c.pts.length,rfl,jL _,by simp -implicitDefEqProofs only[AA,↓reduceIte,jA],by simp -implicitDefEqProofs only[AA,↓reduceIte,jA],by simp -implicitDefEqProofs only[AA,↓reduceIte,jA],by simp -implicitDefEqProofs only[AA,↓reduceIte],by simp -implicitDefEqProofs only[AA,BF,BN,↓reduceIte,jA]; rw[jW (by omega)]; rfl,t2,he0.app _,?_⟩ ?_
  .rw[jW (by omega),jX (by simp)]
   simp only[tupF,jF];exact CX _ _
  rintro n F H' ⟨j,rfl,hj,f3,f4,f7,f8,f2,t',he,ho⟩;simp -implicitDefEqProofs only[BC,BA,BI,A8,AY,BB,AO,AQ,AL,BD,AX,AC,AA,AZ,AU,BH,BG,BR,AB,G6,↓reduceIte,jB,jC,enP,f8]
  cases n with
  | zero =>
    have:decide ((((0:Nat):Int)-1)≥0)=false:=by decide
    simp -implicitDefEqProofs only[BC,BA,BK,DJ,A8,EG,EU,ET,CG,DR,AY,BB,AO,AQ,AL,BD,AX,AC,AA,AZ,BG,A7,↓reduceIte,jA,jB,jC,this,f7];rw[List.take_zero,zU,qE] at ho;refine⟨he,.inr ⟨?_,H.length,hlt,by rw[QD,hsl],ho⟩⟩;intro e;have:=QD (szs m c.pts) K;rw[e] at this; simp at this; omega
  | succ j =>
    have hd:decide ((((j+1:Nat):Int)-1)≥0)=true:=by simp
    have hj':j<c.pts.length:=by omega
    have hjs:j<(szs m c.pts).length:=by omega
    have hgt:(szs m c.pts)[j]=(JK m c.pts[j]).length:=IM (AHR m c.pts j hj');have h1:=(hs _ (jQ hjs)).1;rw[hgt] at h1;obtain⟨s,ls⟩:=hh.ld hj' H';have e1:(((j+1:Nat):Int)-1)=(j:Int):=by omega
    have hst:=tup_step (K:=K) hjs;rw[hgt] at hst;have hle:=AHQ ((szs m c.pts).drop (j+1)) K;generalize hr:(tupF ((szs m c.pts).drop (j+1)) K)=r at ho f2 hst hle
    have hrow:∃v,(((jZ c.pts.length 0).take (j+1)++r.1).map II)[j]?=some [v]:=by
     refine⟨.int .i64 0,?_⟩;rw[zH,List.getElem?_append_left (by simp; omega),List.getElem?_take_of_lt (by omega),List.getElem?_replicate_of_lt hj'];rfl
    have hset:=AJ6 (f:=II) (pre:=jZ c.pts.length 0) (out:=r.1) (j:=j) (x:=r.2%(JK m c.pts[j]).length) (by simpa using hj');have hlo:=CJ ho;simp -implicitDefEqProofs only[BC,BP,BO,A8,DI,hd];refine E8 (by kernel_rfl) ?_;simp -implicitDefEqProofs only[F6,EH,DT,FB,EI,FT,JW,FH,D9,EF,IW,BC,BA,A8,EJ,EQ,AY,BB,AO,AQ,AL,BD,AX,AC,EM,AA,AZ,AU,BH,BG,A7,BQ,D6,BR,BJ,CE,DZ,AB,CY,J9,↓reduceIte,jA,jM,jK,jG,jB,jC,enP,S9,IP,RZ,I9,JF,KO,jP,f2,f3,f4,f7,f8,e1,t'.lm,t'.l1,DU hj',DF ag3 hj',encI0,hh.ix hj',ls,jI,LZ ho hj',AHX _ _ h1,ACX _ _ h1 (show r.2<=9223372036854775807 by omega),ATD ho hrow,hset];refine⟨j,by omega,j,rfl,by omega,trivial,trivial,trivial,?_,?_,⟨CW t'.gm ?_,CW t'.gc ?_,?_⟩,he.set hlt _,?_⟩
    .rw[wrap_i64 (by omega) (by omega)]
    .rw[hst]
    .exact Nat.ne_of_lt (CJ t.gm)
    .exact Nat.ne_of_lt (CJ t.gc)
    .exact he.set hlt _
    .rw[hst]; exact EC ho
 have hp:=N7 ARO hgo
 have hne:(tupF (szs m c.pts) K).1≠[]:=by
  intro e;have:=QD (szs m c.pts) K;rw[e] at this; simp at this; omega
 rw[AI1] at hp
 have hnm:nm (tupF (szs m c.pts) K).1=SM.any:=by
  cases hx:(tupF (szs m c.pts) K).1 with
  | nil=>exact absurd hx hne
  | cons a l=>rfl
 rw[hnm] at hp;exact hp
structure Cvr where
 pm:SM
 pts:List Is
 cm:SM
 crs:List Is
 sam:Int
 ill:Int
def ER (v:Cvr):List AV:=[.sl v.pm 1 (v.pts.map encL),.sl v.cm 1 (v.crs.map encL),.int .i64 v.sam,.int .i64 v.ill]
theorem ALM (v:Cvr):(ER v)[0]?=some (.sl v.pm 1 (v.pts.map encL)):=rfl
theorem ALK (v:Cvr):(ER v)[1]?=some (.sl v.cm 1 (v.crs.map encL)):=rfl
theorem AP3 (v:Cvr):(ER v)[2]?=some (.int .i64 v.sam):=rfl
theorem AP2 (v:Cvr):(ER v)[3]?=some (.int .i64 v.ill):=rfl
theorem Z4 (v:Cvr):(ER v).length=4:=rfl
theorem bxV (h:Hp)(v:Cvr):P7 h (.agg (ER v))=some (.ptr h.length 0 0,h++[.live 4 [ER v]]):=rfl
theorem ldV {h:Hp}{b:Nat}{v:Cvr}(hb:h[b]?=some (.live 4 [ER v])):ED Tryz.prog h 28 (.ptr b 0 0)=some (.agg (ER v)):=by
 rw[J4 AWP ACK hb rfl (by rw[Z4]; exact jL 4)]; rfl
def PP (p:Nat->Bool):Nat->List Int->Bool
 | _,[]=>true
 | k,n::ns=>countB n (p k)&&PP p (k+1) ns
theorem XG (p:Nat->Bool)(l:List Int)(k:Nat)(hk:k<l.length):PP p k (l.drop k)=(countB l[k] (p k)&&PP p (k+1) (l.drop (k+1))):=by
 rw[zK hk]; rfl
def JY {α:Type}(ok:α->Is->Bool):List α->List Is->Bool
 | [],[]=>true
 | a::ws,x::xs=>ok a x&&JY ok ws xs
 | _,_=>false
theorem NT {α:Type}{ok:α->Is->Bool}:∀ {ws:List α} {xs:List Is},JY ok ws xs=true->ws.length=xs.length
 | [],[],_=>rfl
 | a::ws,x::xs,h=>by
   simp only[JY,jV] at h;simp [NT h.2]
 | [],_::_,h=>by cases h
 | _::_,[],h=>by cases h
theorem XO {α:Type}(ok:α->Is->Bool)(ws:List α)(xs:List Is)(k:Nat)(ha:k<ws.length)(hx:k<xs.length):JY ok (ws.drop k) (xs.drop k)=(ok ws[k] xs[k]&&JY ok (ws.drop (k+1)) (xs.drop (k+1))):=by
 rw[zK ha,zK hx]; rfl
theorem ZX {α:Type}(ok:α->Is->Bool)(ws:List α)(xs:List Is)(k:Nat)(ha:ws.length<=k)(hx:xs.length<=k):JY ok (ws.drop k) (xs.drop k)=true:=by
 rw[jW ha,jW hx]; rfl
def kindOf (p:Pt)(k:Nat):Int:=match p.bins[k]? with
 | some b=>b.kind
 | none=>0
def okP (p:Pt)(x:Is):Bool:=(x.l.length==p.bins.length)&&PP (fun k=>kindOf p k==0) 0 x.l
def okC (m:Mo)(c:Cr)(x:Is):Bool:=(x.l.length==GK (szs m c.pts))&&PP (fun k=>Q3 m c (NG (szs m c.pts) k)) 0 x.l
structure CvOk (v:Cvr):Prop where
 pts:v.pts.length<=1048576
 crs:v.crs.length<=1048576
 eachP:∀x∈v.pts,x.l.length<=1048576
 eachC:∀x∈v.crs,x.l.length<=1048576
theorem ARR (G:Nat->AV)(m:Mo)(l:List Is)(s:SM)(h:Hp)(hm:MoOk m)(hl:∀x∈l,x.l.length<=1048576):PCall (En G) 124 [.agg (D5 m),.sl s 1 (l.map encL)] h (.bool (JY okP m.pts l)):=by
 refine ACalls.pure0 rfl ?_;have hm1:=hm.np;refine acN Tryz.func124 rfl ?_;show awp _ _ _ _ _ (EN _ [.tmp 4] _);simp -implicitDefEqProofs only[BC,BA,BI,A8,AY,BB,AO,AQ,AL,BD,AX,AC,AA,AZ,AU,BM,BG,A7,FU,BQ,BR,BJ,DZ,BX,AB,EK,BF,BN,↓reduceIte,jA,jK,jB,jC,enP,QZ,IP,YU,bxM,DL WV,QJ,jI];refine CV (fun h1=>?_) (fun h1=>?_)
 .simp -implicitDefEqProofs only[BC,BA,BK,A8,CP,CG,AY,BB,AO,AQ,AL,BD,AX,AC,AA,AU,BM,A7,↓reduceIte,jB,jC]
  have:JY okP m.pts l=false:=by
   rw[<-qO]; intro e;have:=NT e;simp at h1; omega
  exact⟨by rw[this],_,rfl⟩
 have hlen:l.length=m.pts.length:=by simp at h1; omega
 simp -implicitDefEqProofs only[BC,BP,BA,BO,A8,AY,BB,AO,AQ,AL,BD,AX,AC,AA,AZ,AU,BH,BG,BQ,BJ,DZ,AB,↓reduceIte,jA,jK,jB,jC,enP,QZ,IP,DL WV,QJ,jI];refine DK (fun n F H=>∃i,n+i=m.pts.length∧F 1=.sl s 1 (l.map encL)∧F 16=.sl m.pm 6 (m.pts.map GL)∧F 17=.int .i64 m.pts.length∧F 18=.int .i64 (i:Nat)∧(∃x,H=h++x)∧JY okP m.pts l=JY okP (m.pts.drop i) (l.drop i)) m.pts.length ⟨0,by simp,by simp -implicitDefEqProofs only[AA,BF,BN,↓reduceIte,jA],by simp -implicitDefEqProofs only[AA,↓reduceIte,jA],by simp -implicitDefEqProofs only[AA,↓reduceIte,jA],by simp -implicitDefEqProofs only[AA,↓reduceIte]; rfl,⟨_,rfl⟩,rfl⟩ ?_;rintro n F H ⟨i,hi,f1,f16,f17,f18,hx,hf⟩;simp -implicitDefEqProofs only[BC,BA,BI,A8,AY,BB,AO,AQ,AL,BD,AX,AC,AA,AZ,BR,AB,CZ,↓reduceIte,jB,jC,enP,f17,f18];refine CV (fun hc=>?_) (fun hc=>?_)
 .have hi':i<m.pts.length:=by simpa using hc
  have hil:i<l.length:=by omega
  rw[XO okP m.pts l i hi' hil] at hf
  have hx1:∃x,H++[ABlk.live 6 [GL m.pts[i]]]=h++x:=by
   obtain⟨x,rfl⟩:=hx;exact⟨_,zA _ _ _⟩
  have hxl:=hl _ (jQ hil);simp -implicitDefEqProofs only[BC,BP,BA,BO,A8,AY,BB,AO,AQ,AL,BD,AX,AC,EM,AA,AZ,BG,A7,EX,BQ,D6,CE,BX,AB,CY,↓reduceIte,jA,jB,jC,enP,S9,jP,f16,f18,DU hi',FM ACR ZH JR hi',ASG,AQQ _ _ [.str ⟨#[]⟩,.int .i64 0,.int .i64 0,.str ⟨#[]⟩,.sl .nil 0 [],.sl .nil 0 []] rfl];refine E8 (by kernel_rfl) ?_;simp -implicitDefEqProofs only[F6,EH,DT,FB,EI,FT,FH,I4,D9,EF,IW,BI,A8,AO,AA,AZ,BQ,BR,BJ,CE,DZ,AB,EK,↓reduceIte,jA,jM,jG,jB,enP,OI,RZ,I9,JD,f1,DU hil,DF KP hil,OC,DL SQ,NU,jI];refine CV (fun h2=>?_) (fun h2=>?_)
  .simp -implicitDefEqProofs only[BC,BA,BK,A8,CP,EE,FQ,CG,AY,BB,AO,AQ,AL,BD,AX,AC,AA,AU,BM,A7,↓reduceIte,jB,jC]
   have:okP m.pts[i] l[i]=false:=by
    have:(l[i].l.length==m.pts[i].bins.length)=false:=by
     rw[beq_eq_false_iff_ne]; intro e; simp [e] at h2
    unfold okP; rw[this]; rfl
   exact⟨by rw[hf,this]; rfl,hx1⟩
  have hbl:l[i].l.length=m.pts[i].bins.length:=by simp at h2; omega
  have hok:okP m.pts[i] l[i]=PP (fun k=>kindOf m.pts[i] k==0) 0 l[i].l:=by
   unfold okP; rw[beq_iff_eq.2 hbl]; rfl
  simp -implicitDefEqProofs only[BC,BP,BA,BO,A8,AY,BB,AO,AQ,AL,BD,AX,AC,AA,AZ,AU,BH,BG,BQ,CE,DZ,AB,↓reduceIte,jA,jB,jC,enP,OI,JD,f1,DU hil,DF KP hil,OC,jI];refine GM 2 (fun F' H'=>F' 1=.sl s 1 (l.map encL)∧F' 16=.sl m.pm 6 (m.pts.map GL)∧F' 17=.int .i64 m.pts.length∧F' 18=.int .i64 (i:Nat)∧H'=H++[.live 6 [GL m.pts[i]]]∧okP m.pts[i] l[i]=true) (fun F' H'=>F' 4=.bool false∧H'=H++[.live 6 [GL m.pts[i]]]∧okP m.pts[i] l[i]=false) ?_ ?_ ?_
  .refine DK (fun n F' H'=>∃k,n+k=l[i].l.length∧F' 1=.sl s 1 (l.map encL)∧F' 16=.sl m.pm 6 (m.pts.map GL)∧F' 17=.int .i64 m.pts.length∧F' 18=.int .i64 (i:Nat)∧F' 6=.ptr H.length 0 0∧F' 35=.sl l[i].m 1 (l[i].l.map encI)∧F' 36=.int .i64 l[i].l.length∧F' 37=.int .i64 (k:Nat)∧H'=H++[.live 6 [GL m.pts[i]]]∧okP m.pts[i] l[i]=PP (fun k=>kindOf m.pts[i] k==0) k (l[i].l.drop k)) l[i].l.length ⟨0,by simp,by simp -implicitDefEqProofs only[AA,↓reduceIte,jA,f1],by simp -implicitDefEqProofs only[AA,↓reduceIte,jA,f16],by simp -implicitDefEqProofs only[AA,↓reduceIte,jA,f17],by simp -implicitDefEqProofs only[AA,↓reduceIte,jA,f18],by simp -implicitDefEqProofs only[AA,↓reduceIte,jA],by simp -implicitDefEqProofs only[AA,↓reduceIte,jA],by simp -implicitDefEqProofs only[AA,↓reduceIte,jA],by simp -implicitDefEqProofs only[AA,↓reduceIte]; rfl,rfl,hok⟩ ?_
   clear f1 f16 f17 f18;rintro n' F H' ⟨k,hk,f1,f16,f17,f18,f6,f35,f36,f37,rfl,hr⟩;simp -implicitDefEqProofs only[BC,BA,BI,A8,AY,BB,AO,AQ,AL,BD,AX,AC,AA,AZ,BR,AB,CZ,↓reduceIte,jB,jC,enP,f36,f37];refine CV (fun hc=>?_) (fun hc=>?_)
   .have hk':k<l[i].l.length:=by simpa using hc
    have hkb:k<m.pts[i].bins.length:=by omega
    have hkd:kindOf m.pts[i] k=(m.pts[i].bins[k]).kind:=by unfold kindOf; rw[jS hkb]
    rw[XG _ _ _ hk',hkd] at hr;simp -implicitDefEqProofs only[BC,BP,BA,BO,A8,AY,BB,AO,AQ,AL,BD,AX,AC,AA,AZ,BZ,BG,A7,BQ,BJ,CE,CB,BU,AB,jD,jE,jF,↓reduceIte,jA,jG,jB,jC,enP,YX,I9,JF,f6,f35,f37,DU hk',DF ag3 hk',encI0,DL SQ,NU,DU hkb,FM VK QR MK hkb];refine(AB9 G _ _).use ?_;simp -implicitDefEqProofs only[AY,AO,AQ,AL,BD,AX,AC,AA,AZ,BZ,CB,BU,jD,jE,jF,↓reduceIte,jA,jB,jC];refine(VA G _ _ _).use ?_;simp -implicitDefEqProofs only[BI,A8,AY,BB,AO,AQ,AL,BD,AX,AC,AA,AZ,IG,AB,FI,↓reduceIte,jB,jC];cases hcb:countB l[i].l[k] (m.pts[i].bins[k].kind==0)
    .simp -implicitDefEqProofs only[BC,BA,BK,A8,CP,EE,NM,FQ,DI,AY,BB,AO,AQ,AL,BD,AX,AC,AA,AU,BM,A7,↓reduceIte,jB,jC]
     exact⟨trivial,trivial,by rw[hr,hcb]; rfl⟩
    .simp -implicitDefEqProofs only[BA,BO,A8,EJ,EQ,DR,AY,BB,AO,AQ,AL,BD,AX,AC,AA,AZ,AU,BH,BG,BR,AB,C9,↓reduceIte,jA,jB,jR,jC,enP,f37,wrap_succ (show k<9223372036854775807 by omega)]
     exact⟨n'-1,by omega,k+1,by omega,f1,f16,f17,f18,f6,f35,f36,rfl,trivial,by rw[hr,hcb]; rfl⟩
   .have hk':¬k<l[i].l.length:=by simpa using hc
    simp -implicitDefEqProofs only[DJ,EG,KC,ET,AA,↓reduceIte,jA];exact⟨f1,f16,f17,f18,trivial,by rw[hr,jW (by omega)]; rfl⟩
  .rintro F' H' ⟨g1,g16,g17,g18,rfl,hr⟩
   simp -implicitDefEqProofs only[BA,A8,EJ,EU,EQ,AY,BB,AO,AQ,AL,BD,AX,AC,AA,AZ,AU,BH,BG,BR,AB,C9,↓reduceIte,jA,jB,jC,enP,g18,wrap_succ (show i<9223372036854775807 by omega)];exact⟨n-1,by omega,i+1,by omega,g1,g16,g17,rfl,hx1,by rw[hf,hr]; rfl⟩
  .rintro F' H' ⟨g4,rfl,hr⟩
   simp -implicitDefEqProofs only[CP,EE,FQ,CG,g4];exact⟨by rw[hf,hr]; rfl,hx1⟩
 .have hi':¬i<m.pts.length:=by simpa using hc
  simp -implicitDefEqProofs only[BC,BA,BK,DJ,A8,EG,EU,ET,CG,AY,BB,AO,AQ,AL,BD,AX,AC,AA,AU,BM,A7,↓reduceIte,jB,jC];exact⟨by rw[hf,ZX okP _ _ i (by omega) (by omega)],hx⟩
end Go.Proofs.YtocilianjfhifaaGreatDoor.Cov
