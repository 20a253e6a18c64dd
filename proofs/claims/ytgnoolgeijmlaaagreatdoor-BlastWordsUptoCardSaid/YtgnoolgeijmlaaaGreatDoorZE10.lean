/- Part 10 of the proof (D1, D2, G1, Kd, G2, G3, G4, G5, G6, G7, G8); no condition. -/
import Derived.Test.YtgnoolgeijmlaaaGreatDoorZE9
set_option linter.unusedVariables false
namespace Go.Proofs.YtgnoolgeijmlaaaGreatDoor.Bl
open Bool renaming eq_iff_iff→qH,true_and→qF
open List renaming getElem?_eq_none→zO,getElem?_eq_getElem→jX,getElem?_append_left→zS,replicate→jJ,length_cons→zZ,eq_nil_of_length_eq_zero→qI,getD_eq_getElem?_getD→zM
open Nat renaming lt_or_ge→jY,le_refl→jP,mod_lt→qR,mul_comm→qX,add_zero→jL,zero_add→jG
open Option renaming getD_none→jO

structure Nd where
 lv:Nat
 lo:Nat
 hi:Nat
 deriving DecidableEq
abbrev Dg:=List Nd
def nF:Nd:=⟨20,0,0⟩
def nT:Nd:=⟨20,1,1⟩
def nth (l:Dg)(f:Nat):Nd:=(l[f]?).getD nF
structure VD (l:Dg):Prop where
 z:l[0]?=some nF
 o:l[1]?=some nT
 mx:l.length<=8192
 pl:∀(i:Nat) (n:Nd),l[i]?=some n->2<=i->n.lv<20∧n.lo<i∧n.hi<i∧n.lo≠n.hi∧n.lv<(nth l n.lo).lv∧n.lv<(nth l n.hi).lv
 nd:∀(i j:Nat) (n:Nd),l[i]?=some n->l[j]?=some n->i=j
theorem QZ {α:Type}{l:List α}{i:Nat}{x:α}(h:l[i]?=some x):i<l.length:=by
 rcases jY i l.length with h1|h1
 .exact h1
 .rw[zO h1] at h; cases h
theorem QN {l:Dg}{f:Nat}(h:f<l.length):l[f]?=some (nth l f):=by unfold nth; rw[jX h]; rfl
theorem UG {l:Dg}{f:Nat}{n:Nd}(h:l[f]?=some n):nth l f=n:=by unfold nth; rw[h]; rfl
theorem VD.two {l:Dg}(v:VD l):2<=l.length:=by have:=QZ v.o; omega
theorem VD.at {l:Dg}(v:VD l){f:Nat}(h2:2<=f)(hf:f<l.length):(nth l f).lv<20∧(nth l f).lo<f∧(nth l f).hi<f∧(nth l f).lo≠(nth l f).hi∧(nth l f).lv<(nth l (nth l f).lo).lv∧(nth l f).lv<(nth l (nth l f).hi).lv:=v.pl f _ (QN hf) h2
theorem VD.n0 {l:Dg}(v:VD l):nth l 0=nF:=UG v.z
theorem VD.n1 {l:Dg}(v:VD l):nth l 1=nT:=UG v.o
theorem VD.lv_le {l:Dg}(v:VD l){f:Nat}(hf:f<l.length):(nth l f).lv<=20:=by
 rcases f with _|_|f
 .rw[v.n0]; exact jP 20
 .rw[v.n1]; exact jP 20
 .have:=(v.at (by omega) hf).1; omega
theorem VD.lv_end {l:Dg}(v:VD l){f:Nat}(hf:f<l.length)(h:(nth l f).lv=20):f<=1:=by
 rcases f with _|_|f
 .omega
 .omega
 .have:=(v.at (by omega) hf).1; omega
theorem VD.lv_low {l:Dg}(v:VD l){f:Nat}(h:f<=1):(nth l f).lv=20:=by
 rcases f with _|_|f
 .rw[v.n0]; rfl
 .rw[v.n1]; rfl
 .omega
def Xt (l l':Dg):Prop:=∃t,l'=l++t
theorem Xt.rfl' (l:Dg):Xt l l:=⟨[],by simp⟩
theorem Xt.trans {a b c:Dg}(h1:Xt a b)(h2:Xt b c):Xt a c:=by obtain⟨t,rfl⟩:=h1; obtain⟨u,rfl⟩:=h2; exact⟨t++u,by simp⟩
theorem Xt.len {a b:Dg}(h:Xt a b):a.length<=b.length:=by obtain⟨t,rfl⟩:=h; simp
theorem Xt.get {a b:Dg}(h:Xt a b){i:Nat}{n:Nd}(hi:a[i]?=some n):b[i]?=some n:=by
 obtain⟨t,rfl⟩:=h;rw[zS (QZ hi)]; exact hi
theorem Xt.nth {a b:Dg}(h:Xt a b){i:Nat}(hi:i<a.length):nth b i=nth a i:=UG (h.get (QN hi))
def evk (l:Dg)(β:Nat->Bool):Nat->Nat->Bool
 | 0,f=>f==1
 | k+1,f=>if f<=1 then f==1 else if β (nth l f).lv=true then evk l β k (nth l f).hi else evk l β k (nth l f).lo
def ev (l:Dg)(β:Nat->Bool)(f:Nat):Bool:=evk l β f f
theorem A2F {l:Dg}(v:VD l)(β:Nat->Bool):∀(n y:Nat),y<l.length->y<=n->evk l β (n+1) y=evk l β n y:=by
 intro n
 induction n with
 | zero => intro y _ hy; have:y=0:=by omega
           subst this; rfl
 | succ n ihn =>
   intro y hy hyn;by_cases hy1:y<=1
   .simp only[evk]; rw[if_pos hy1,if_pos hy1]
   .obtain⟨_,g1,g2,_⟩:=v.at (show 2<=y by omega) hy
    rw[show evk l β (n+1+1) y=if y<=1 then y==1 else if β (nth l y).lv=true then evk l β (n+1) (nth l y).hi else evk l β (n+1) (nth l y).lo from rfl,
     show evk l β (n+1) y=if y<=1 then y==1 else if β (nth l y).lv=true then evk l β n (nth l y).hi else evk l β n (nth l y).lo from rfl,
     ihn _ (by omega) (by omega),ihn _ (by omega) (by omega)]
theorem ALZ {l:Dg}(v:VD l)(β:Nat->Bool)(f:Nat)(hf:f<l.length):∀k,evk l β (f+k) f=ev l β f
 | 0=>rfl
 | k+1=>by rw[show f+(k+1)=f+k+1 by omega,A2F v β _ f hf (by omega)]; exact ALZ v β f hf k
theorem UL (l:Dg)(β:Nat->Bool):ev l β 0=false:=rfl
theorem AS8 (l:Dg)(β:Nat->Bool):ev l β 1=true:=rfl
theorem AAW (l:Dg)(β:Nat->Bool){f:Nat}(h:f<=1):ev l β f=(f==1):=by
 rcases f with _|_|f
 .rfl
 .rfl
 .omega
theorem WM {l:Dg}(v:VD l)(β:Nat->Bool){f:Nat}(h2:2<=f)(hf:f<l.length):ev l β f=if β (nth l f).lv=true then ev l β (nth l f).hi else ev l β (nth l f).lo:=by
 obtain⟨k,rfl⟩:∃k,f=k+1:=⟨f-1,by omega⟩
 obtain⟨_,h1,h2',_⟩:=v.at h2 hf;have a1:=ALZ v β _ (show(nth l (k+1)).hi<l.length by omega) (k-(nth l (k+1)).hi);have a2:=ALZ v β _ (show(nth l (k+1)).lo<l.length by omega) (k-(nth l (k+1)).lo);rw[show(nth l (k+1)).hi+(k-(nth l (k+1)).hi)=k by omega] at a1;rw[show(nth l (k+1)).lo+(k-(nth l (k+1)).lo)=k by omega] at a2;show evk l β (k+1) (k+1)=_;rw[<-a1,<-a2];simp only[evk];rw[if_neg (by omega)]
theorem AZ1 {l l':Dg}(v:VD l)(v':VD l')(x:Xt l l')(β:Nat->Bool):∀(n f:Nat),f<n->f<l.length->ev l' β f=ev l β f:=by
 intro n
 induction n with
 | zero=>intro f h; omega
 | succ n ih =>
   intro f hn hf;by_cases h:f<=1
   .rw[AAW _ _ h,AAW _ _ h]
   .obtain⟨_,h1,h2,_⟩:=v.at (show 2<=f by omega) hf
    have:=x.len;rw[WM v β (by omega) hf,WM v' β (by omega) (by omega),x.nth hf,ih _ (by omega) (by omega),ih _ (by omega) (by omega)]
theorem Xt.ev {l l':Dg}(x:Xt l l')(v:VD l)(v':VD l')(β:Nat->Bool){f:Nat}(hf:f<l.length):ev l' β f=Bl.ev l β f:=AZ1 v v' x β (f+1) f (by omega) hf
def setB (β:Nat->Bool)(i:Nat)(b:Bool):Nat->Bool:=fun j=>if j=i then b else β j
def fnd (n:Nd):Dg->Option Nat
 | []=>none
 | m::r=>if m=n then some 0 else (fnd n r).map (·+1)
theorem TN {n:Nd}:∀ {l:Dg} {i:Nat},fnd n l=some i->l[i]?=some n
 | m::r,i,h=>by
   unfold fnd at h;split at h
   .rename_i e; cases h; rw[<-e]; rfl
   .cases hr:fnd n r with
    | none=>rw[hr] at h; cases h
    | some j=>rw[hr] at h; cases h; show r[j]?=_; exact TN (l:=r) hr
theorem ZG {n:Nd}:∀ {l:Dg},fnd n l=none->∀i:Nat,l[i]?≠some n
 | [],_,i=>by simp
 | m::r,h,i=>by
   unfold fnd at h;split at h
   .cases h
   .rename_i e
    cases hr:fnd n r with
    | some j=>rw[hr] at h; cases h
    | none =>
      cases i with
      | zero=>intro q; exact e (by simpa using q)
      | succ i=>exact ZG (l:=r) hr i
theorem VD.fnd {l:Dg}(v:VD l){n:Nd}{i:Nat}(h:l[i]?=some n):fnd n l=some i:=by
 cases hr:Bl.fnd n l with
 | none=>exact absurd h (ZG hr i)
 | some j=>rw[v.nd i j n h (TN hr)]
def M (α:Type):Type:=Dg->Option (α×Dg)
def ret {α:Type}(a:α):M α:=fun l=>some (a,l)
def M.bnd {α β:Type}(m:M α)(k:α->M β):M β:=fun l=>match m l with
 | some (a,l1)=>k a l1
 | none=>none
theorem NZ {α β:Type}{m:M α}{k:α->M β}{l l1:Dg}{a:α}(h:m l=some (a,l1)):m.bnd k l=k a l1:=by unfold M.bnd; rw[h]
theorem RJ {α β:Type}{m:M α}{k:α->M β}{l:Dg}(h:m l=none):m.bnd k l=none:=by unfold M.bnd; rw[h]
theorem G9 {α β γ:Type}(m:M α)(k:α->M β)(j:β->M γ):(m.bnd k).bnd j=m.bnd fun a=>(k a).bnd j:=by
 funext l;unfold M.bnd
 cases m l with
 | none=>rfl
 | some p=>rfl
def Sp {α:Type}(l:Dg)(m:M α)(Q:α->Dg->Prop):Prop:=∀a l',m l=some (a,l')->VD l'∧Xt l l'∧(∀l'',VD l''->Xt l' l''->m l''=some (a,l''))∧Q a l'
theorem Sp.ret {α:Type}{l:Dg}(v:VD l){a:α}{Q:α->Dg->Prop}(h:Q a l):Sp l (ret a) Q:=fun b l' e=>by
 cases e;exact⟨v,Xt.rfl' l,fun _ _ _=>rfl,h⟩
theorem Sp.bnd {α β:Type}{l:Dg}{m:M α}{k:α->M β}{Q:α->Dg->Prop}{R:β->Dg->Prop}(hm:Sp l m Q)(hk:∀a l1,VD l1->Xt l l1->Q a l1->Sp l1 (k a) R):Sp l (m.bnd k) R:=fun b l2 e=>by
 cases h1:m l with
 | none=>rw[RJ h1] at e; cases e
 | some p =>
   obtain⟨a,l1⟩:=p;rw[NZ h1] at e;obtain⟨v1,x1,s1,q1⟩:=hm a l1 h1;obtain⟨v2,x2,s2,q2⟩:=hk a l1 v1 x1 q1 b l2 e;exact⟨v2,x1.trans x2,fun l'' v'' x''=>by rw[NZ (s1 l'' v'' (x2.trans x''))]; exact s2 l'' v'' x'',q2⟩
theorem Sp.mono {α:Type}{l:Dg}{m:M α}{Q R:α->Dg->Prop}(h:Sp l m Q)(hq:∀a l',VD l'->Xt l l'->Q a l'->R a l'):Sp l m R:=fun a l' e=>by
 obtain⟨v,x,s,q⟩:=h a l' e;exact⟨v,x,s,hq a l' v x q⟩
def mk (lv lo hi:Nat):M Nat:=fun l=>if lo=hi then some (lo,l) else match fnd ⟨lv,lo,hi⟩ l with
 | some i=>some (i,l)
 | none=>if 8192<=l.length then none else some (l.length,l++[⟨lv,lo,hi⟩])
theorem YZ {l:Dg}{n:Nd}{i:Nat}(hi:i<l.length):nth (l++[n]) i=nth l i:=Xt.nth ⟨[n],rfl⟩ hi
theorem VD.app {l:Dg}(v:VD l){n:Nd}(hl:l.length<8192)(h1:n.lv<20)(h2:n.lo<l.length)(h3:n.hi<l.length)(h4:n.lo≠n.hi)(h5:n.lv<(nth l n.lo).lv)(h6:n.lv<(nth l n.hi).lv)(hf:Bl.fnd n l=none):VD (l++[n]):=by
 have x:Xt l (l++[n]):=⟨[n],rfl⟩
 have cut:∀i m,(l++[n])[i]?=some m->l[i]?=some m∨(i=l.length∧m=n):=by
  intro i m h;rcases jY i l.length with q|q
  .rw[zS q] at h; exact .inl h
  .rw[List.getElem?_append_right q] at h
   have:i-l.length<1:=QZ h;have e:i=l.length:=by omega
   subst e;simp at h;exact .inr ⟨rfl,h.symm⟩
 refine⟨x.get v.z,x.get v.o,by simp; omega,fun i m h hi=>?_,fun i j m h h'=>?_⟩
 .rcases cut i m h with q|⟨rfl,rfl⟩
  .obtain⟨p1,p2,p3,p4,p5,p6⟩:=v.pl i m q hi
   have:=QZ q;rw[YZ (by omega),YZ (by omega)];exact⟨p1,p2,p3,p4,p5,p6⟩
  .rw[YZ h2,YZ h3]
   exact⟨h1,h2,h3,h4,h5,h6⟩
 .rcases cut i m h with q|⟨rfl,rfl⟩
  .rcases cut j m h' with q'|⟨rfl,rfl⟩
   .exact v.nd i j m q q'
   .exact absurd q (ZG hf i)
  .rcases cut j m h' with q'|⟨rfl,_⟩
   .exact absurd q' (ZG hf j)
   .rfl
theorem ANN {l:Dg}(v:VD l){lv lo hi:Nat}(h1:lv<20)(h2:lo<l.length)(h3:hi<l.length)(h5:lv<(nth l lo).lv)(h6:lv<(nth l hi).lv) :
  Sp l (mk lv lo hi) fun r l'=>r<l'.length∧lv<=(nth l' r).lv∧∀β,ev l' β r=if β lv=true then ev l β hi else ev l β lo:=fun r l' e=>by
 unfold mk at e;split at e
 .rename_i h4
  cases e;subst h4;refine⟨v,Xt.rfl' _,fun l'' _ _=>by unfold mk; rw[if_pos rfl],h2,by omega,fun β=>by split<;>rfl⟩
 .rename_i h4
  split at e
  .rename_i i hi'
   cases e;have hg:=TN hi';have hlt:=QZ hg;have hn:nth l r=⟨lv,lo,hi⟩:=UG hg
   have h2':2<=r:=by
    rcases jY r 2 with q|q
    .have:=v.lv_low (show r<=1 by omega)
     rw[hn] at this; simp at this; omega
    .exact q
   refine⟨v,Xt.rfl' _,fun l'' v'' x''=>?_,hlt,by rw[hn]; exact jP _,fun β=>?_⟩
   .unfold mk; rw[if_neg h4,v''.fnd (x''.get hg)]
   .rw[WM v β h2' hlt,hn]
  .rename_i hnone
   split at e
   .cases e
   .rename_i hl
    cases e;have v':VD (l++[⟨lv,lo,hi⟩]):=v.app (by omega) h1 h2 h3 h4 h5 h6 hnone;have x:Xt l (l++[⟨lv,lo,hi⟩]):=⟨_,rfl⟩;have hg:(l++[(⟨lv,lo,hi⟩:Nd)])[l.length]?=some ⟨lv,lo,hi⟩:=by simp
    have hn:nth (l++[⟨lv,lo,hi⟩]) l.length=⟨lv,lo,hi⟩:=UG hg;refine⟨v',x,fun l'' v'' x''=>?_,by simp,by rw[hn]; exact jP _,fun β=>?_⟩
    .unfold mk; rw[if_neg h4,v''.fnd (x''.get hg)]
    .rw[WM v' β v.two (by simp),hn]
     simp only;rw[x.ev v v' β h3,x.ev v v' β h2]
def half (l:Dg)(f lv:Nat)(one:Bool):Nat:=if(nth l f).lv≠lv then f else if one=true then (nth l f).hi else (nth l f).lo
def II (l:Dg)(f g h:Nat):Nat:=min (min (nth l f).lv (nth l g).lv) (nth l h).lv
def tn (b:Bool):Nat:=if b then 1 else 0
def app (op:Bool->Bool->Bool->Bool):Nat->Nat->Nat->Nat->M Nat
 | 0,_,_,_=>fun _=>none
 | k+1,f,g,h=>fun l=>if II l f g h=20 then some (tn (op (f==1) (g==1) (h==1)),l) else
   ((app op k (half l f (II l f g h) false) (half l g (II l f g h) false) (half l h (II l f g h) false)).bnd fun lo =>
     (app op k (half l f (II l f g h) true) (half l g (II l f g h) true) (half l h (II l f g h) true)).bnd fun hi=>mk (II l f g h) lo hi) l
theorem OB {l:Dg}(v:VD l){f lv:Nat}(hf:f<l.length)(one:Bool)(hlv:lv<20)(hle:lv<=(nth l f).lv):half l f lv one<l.length∧lv<(nth l (half l f lv one)).lv:=by
 unfold half;by_cases h:(nth l f).lv≠lv
 .rw[if_pos h]; exact⟨hf,by omega⟩
 .rw[if_neg h]
  have h2:2<=f:=by
   rcases jY f 2 with q|q
   .have:=v.lv_low (show f<=1 by omega); omega
   .exact q
  obtain⟨_,a1,a2,_,a3,a4⟩:=v.at h2 hf;cases one
  .rw[if_neg (by simp)]; exact⟨by omega,by omega⟩
  .rw[if_pos rfl]; exact⟨by omega,by omega⟩
theorem AG7 {l:Dg}(v:VD l){f lv:Nat}(hf:f<l.length)(hlv:lv<20)(β:Nat->Bool):ev l β f=if β lv=true then ev l β (half l f lv true) else ev l β (half l f lv false):=by
 unfold half;by_cases h:(nth l f).lv≠lv
 .rw[if_pos h,if_pos h]; split<;>rfl
 .simp only[if_neg h,↓reduceIte,Bool.false_eq_true]
  have h2:2<=f:=by
   rcases jY f 2 with q|q
   .have:=v.lv_low (show f<=1 by omega); omega
   .exact q
  rw[WM v β h2 hf];rw[show(nth l f).lv=lv by omega]
theorem A0Z (l:Dg)(β:Nat->Bool)(b:Bool):ev l β (tn b)=b:=by cases b<;>rfl
theorem AMJ (op:Bool->Bool->Bool->Bool):∀(k:Nat) (l:Dg) (f g h:Nat),VD l->f<l.length->g<l.length->h<l.length->20<II l f g h+k ->
  Sp l (app op k f g h) fun r l'=>r<l'.length∧II l f g h<=(nth l' r).lv∧∀β,ev l' β r=op (ev l β f) (ev l β g) (ev l β h):=by
 intro k
 induction k with
 | zero=>intro l f g h _ _ _ _ _ a l' e; cases e
 | succ k ih =>
   intro l f g h v hf hg hh hk a l' e;have lf:=v.lv_le hf;have lg:=v.lv_le hg;have lh:=v.lv_le hh;generalize hm:II l f g h=lv at *;have m1:lv<=(nth l f).lv∧lv<=(nth l g).lv∧lv<=(nth l h).lv:=by rw[<-hm]; unfold II; omega
   by_cases h20:lv=20
   .have f1:=v.lv_end hf (by omega)
    have g1:=v.lv_end hg (by omega);have h1:=v.lv_end hh (by omega);have e':app op (k+1) f g h l=some (tn (op (f==1) (g==1) (h==1)),l):=by simp only[app]; rw[hm,if_pos h20]
    rw[e'] at e;cases e;have t1:tn (op (f==1) (g==1) (h==1))<=1:=by cases op (f==1) (g==1) (h==1)<;>decide
    refine⟨v,Xt.rfl' _,fun l'' v'' x''=>?_,by have:=v.two; omega,by rw[v.lv_low t1]; omega,fun β=>?_⟩
    .simp only[app]
     have:II l'' f g h=20:=by unfold II; rw[x''.nth hf,x''.nth hg,x''.nth hh]; unfold II at hm; omega
     rw[this,if_pos rfl]
    .rw[A0Z,AAW _ _ f1,AAW _ _ g1,AAW _ _ h1]
   .have h20':lv<20:=by omega
    have hl0:∀one,half l f lv one<l.length∧lv<(nth l (half l f lv one)).lv:=fun one=>OB v hf one h20' m1.1
    have hl1:∀one,half l g lv one<l.length∧lv<(nth l (half l g lv one)).lv:=fun one=>OB v hg one h20' m1.2.1
    have hl2:∀one,half l h lv one<l.length∧lv<(nth l (half l h lv one)).lv:=fun one=>OB v hh one h20' m1.2.2
    have e':∀l'',Xt l l''->app op (k+1) f g h l''=((app op k (half l f lv false) (half l g lv false) (half l h lv false)).bnd fun lo =>
      (app op k (half l f lv true) (half l g lv true) (half l h lv true)).bnd fun hi=>mk lv lo hi) l'':=fun l'' x''=>by
     have q:II l'' f g h=lv:=by rw[<-hm]; unfold II; rw[x''.nth hf,x''.nth hg,x''.nth hh]
     simp only[app];rw[q,if_neg h20];simp only[half,x''.nth hf,x''.nth hg,x''.nth hh]
    rw[e' l (Xt.rfl' l)] at e
    have key:Sp l ((app op k (half l f lv false) (half l g lv false) (half l h lv false)).bnd fun lo =>
      (app op k (half l f lv true) (half l g lv true) (half l h lv true)).bnd fun hi=>mk lv lo hi) fun r l'=>r<l'.length∧lv<=(nth l' r).lv∧∀β,ev l' β r=op (ev l β f) (ev l β g) (ev l β h):=by
     have m2:∀one,lv<II l (half l f lv one) (half l g lv one) (half l h lv one):=fun one=>by
      have:=(hl0 one).2; have:=(hl1 one).2; have:=(hl2 one).2;unfold II; omega
     refine(ih l _ _ _ v (hl0 false).1 (hl1 false).1 (hl2 false).1 (by have:=m2 false; omega)).bnd ?_;rintro lo l1 v1 x1 ⟨r1,s1,t1⟩
     have n1:II l1 (half l f lv true) (half l g lv true) (half l h lv true)=II l (half l f lv true) (half l g lv true) (half l h lv true):=by
      unfold II; rw[x1.nth (hl0 true).1,x1.nth (hl1 true).1,x1.nth (hl2 true).1]
     have hx:=x1.len;refine(ih l1 _ _ _ v1 (by have:=(hl0 true).1; omega) (by have:=(hl1 true).1; omega) (by have:=(hl2 true).1; omega) (by have:=m2 true; omega)).bnd ?_;rintro hi l2 v2 x2 ⟨r2,s2,t2⟩;have hx2:=x2.len;refine(ANN v2 (lv:=lv) (lo:=lo) (hi:=hi) h20' (by omega) r2 (by rw[x2.nth r1]; have:=m2 false; omega) (by have:=m2 true; omega)).mono ?_;rintro r l3 v3 x3 ⟨r3,s3,t3⟩;refine⟨r3,s3,fun β=>?_⟩;rw[t3,x2.ev v1 v2 β r1,t1,t2,x1.ev v v1 β (hl0 true).1,x1.ev v v1 β (hl1 true).1,x1.ev v v1 β (hl2 true).1];rw[AG7 v hf h20' β,AG7 v hg h20' β,AG7 v hh h20' β];cases β lv<;>rfl
    obtain⟨v',x',s',q'⟩:=key a l' e;exact⟨v',x',fun l'' v'' x''=>by rw[e' l'' (x'.trans x'')]; exact s' l'' v'' x'',q'⟩
def ap (op:Bool->Bool->Bool->Bool)(f g h:Nat):M Nat:=app op 21 f g h
theorem AYJ (op:Bool->Bool->Bool->Bool){l:Dg}{f g h:Nat}(v:VD l)(hf:f<l.length)(hg:g<l.length)(hh:h<l.length):Sp l (ap op f g h) fun r l'=>r<l'.length∧∀β,ev l' β r=op (ev l β f) (ev l β g) (ev l β h) :=
 (AMJ op 21 l f g h v hf hg hh (by omega)).mono fun _ _ _ _ q=>⟨q.1,q.2.2⟩

def Pw (l:Dg)(P:Dg->Prop):Prop:=∀L,VD L->Xt l L->P L
theorem Pw.go {l l':Dg}{P:Dg->Prop}(h:Pw l P)(x:Xt l l'):Pw l' P:=fun L v y=>h L v (x.trans y)
theorem Xt.lt {l l':Dg}(x:Xt l l'){f:Nat}(h:f<l.length):f<l'.length:=Nat.lt_of_lt_of_le h x.len
abbrev B3:Type:=Bool->Bool->Bool->Bool
def ATX:B3:=fun f _ _ => !f
def AKC:B3:=fun f g _=>f&&g
def bOr:B3:=fun f g _=>f||g
def AKB:B3:=fun f g _=>f != g
def bCh:B3:=fun f g h=>f&&g || !f&&h
def LQ (f:Nat):M Nat:=ap ATX f f f
def KA (f g:Nat):M Nat:=ap AKC f g g
def oOr (f g:Nat):M Nat:=ap bOr f g g
def NS (f g:Nat):M Nat:=ap AKB f g g
def oCh (f g h:Nat):M Nat:=ap bCh f g h
theorem UX (op:B3){l:Dg}{f g h:Nat}(v:VD l)(hf:f<l.length)(hg:g<l.length)(hh:h<l.length):Sp l (ap op f g h) fun r l'=>r<l'.length∧Pw l' fun L=>∀β,ev L β r=op (ev L β f) (ev L β g) (ev L β h) :=
 (AYJ op v hf hg hh).mono fun r l' v' x' q=>⟨q.1,fun L vL xL β=>by
  have xx:=x'.trans xL
  rw[xL.ev v' vL β q.1,q.2,xx.ev v vL β hf,xx.ev v vL β hg,xx.ev v vL β hh]⟩
section
variable {l:Dg} (v:VD l) {f g h:Nat}
include v
theorem OE (hf:f<l.length):Sp l (LQ f) fun r l'=>r<l'.length∧Pw l' fun L=>∀β,ev L β r = !ev L β f:=UX ATX v hf hf hf
theorem O8 (hf:f<l.length)(hg:g<l.length):Sp l (KA f g) fun r l'=>r<l'.length∧Pw l' fun L=>∀β,ev L β r=(ev L β f&&ev L β g):=UX AKC v hf hg hg
theorem U0 (hf:f<l.length)(hg:g<l.length):Sp l (oOr f g) fun r l'=>r<l'.length∧Pw l' fun L=>∀β,ev L β r=(ev L β f||ev L β g):=UX bOr v hf hg hg
theorem ACP (hf:f<l.length)(hg:g<l.length):Sp l (NS f g) fun r l'=>r<l'.length∧Pw l' fun L=>∀β,ev L β r=(ev L β f != ev L β g):=UX AKB v hf hg hg
theorem A2V (hf:f<l.length)(hg:g<l.length)(hh:h<l.length):Sp l (oCh f g h) fun r l'=>r<l'.length∧Pw l' fun L=>∀β,ev L β r=(ev L β f&&ev L β g || !ev L β f&&ev L β h):=UX bCh v hf hg hh
end
abbrev Wrd:Type:=List Nat
def cst (n:Nat):Wrd:=(List.range 16).map fun k=>n/2^k%2
def sgl (t:Nat):Wrd:=t::jJ 15 0
def trL:List Nat->Nat->M Nat
 | [],t=>ret t
 | f::r,t=>(oOr t f).bnd fun u=>trL r u
def PI:List Nat->List Nat->Nat->M Wrd
 | x :: xs,y::ys,c=>(NS x y).bnd fun h=>(NS h c).bnd fun o=>if xs=[] then ret [o] else
     (KA x y).bnd fun g=>(KA h c).bnd fun k=>(oOr g k).bnd fun c'=>(PI xs ys c').bnd fun r=>ret (o::r)
 | _,_,_=>ret []
def cmpL:List Nat->M Wrd
 | []=>ret []
 | f::r=>(LQ f).bnd fun g=>(cmpL r).bnd fun s=>ret (g::s)
def AA3 (x y:Wrd):M Wrd:=(cmpL y).bnd fun n=>PI x n 1
def eqL:List Nat->List Nat->Nat->M Nat
 | x::xs,y::ys,t=>(NS x y).bnd fun a=>(LQ a).bnd fun b=>(KA t b).bnd fun u=>eqL xs ys u
 | _,_,t=>ret t
def lsL:List Nat->List Nat->Nat->M Nat
 | x::xs,y::ys,t=>(LQ x).bnd fun n=>(KA n y).bnd fun u=>(NS x y).bnd fun a=>(LQ a).bnd fun b=>(KA b t).bnd fun w=>(oOr u w).bnd fun z=>lsL xs ys z
 | _,_,t=>ret t
def AEG:List Nat->Nat->M Wrd
 | [],_=>ret []
 | f::r,g=>(KA f g).bnd fun a=>(AEG r g).bnd fun s=>ret (a::s)
def XN (x:Wrd):Nat->List Nat->Wrd->M Wrd
 | _,[],s=>ret s
 | k,y::ys,s=>(AEG (x.take (16-k)) y).bnd fun p=>(PI s (jJ k 0++p) 0).bnd fun s'=>XN x (k+1) ys s'
def frL (left:Bool)(s i:Nat):Option Nat:=if left=true then if s<=i then some (i-s) else none else if i+s<16 then some (i+s) else none
def shI (t:Nat)(x:Wrd)(fr:Nat->Option Nat):List Nat->Nat->M Wrd
 | [],_=>ret []
 | o::r,i=>match fr i with
   | some j=>(KA t (x.getD j 0)).bnd fun a=>(oOr o a).bnd fun b=>(shI t x fr r (i+1)).bnd fun s=>ret (b::s)
   | none=>(shI t x fr r (i+1)).bnd fun s=>ret (o::s)
def shS (left:Bool)(x y:Wrd):Nat->Nat->Wrd->M Wrd
 | 0,_,out=>ret out
 | n+1,s,out=>(eqL y (cst s) 1).bnd fun t=>(shI t x (frL left s) out 0).bnd fun out'=>shS left x y n (s+1) out'
def pr2 (op:Nat->Nat->M Nat):List Nat->List Nat->M Wrd
 | x::xs,y::ys=>(op x y).bnd fun a=>(pr2 op xs ys).bnd fun s=>ret (a::s)
 | _,_=>ret []
def onL:List Nat->Wrd->M Wrd
 | [],s=>ret s
 | f::r,s=>(PI s (sgl f) 0).bnd fun s'=>onL r s'
def insL (x:Wrd):List Wrd->Nat->M Nat
 | a::b::r,t=>(lsL x a 0).bnd fun m=>(LQ m).bnd fun n=>(lsL b x 0).bnd fun o=>(LQ o).bnd fun q=>(KA n q).bnd fun u=>(oOr t u).bnd fun t'=>insL x r t'
 | _,t=>ret t
def val (L:Dg)(β:Nat->Bool):List Nat->Nat
 | []=>0
 | f::r=>tn (ev L β f)+2*val L β r
def LOk (l:Dg)(xs:List Nat):Prop:=∀f∈xs,f<l.length
theorem LOk.go {l l':Dg}{xs:List Nat}(h:LOk l xs)(x:Xt l l'):LOk l' xs:=fun f hf=>x.lt (h f hf)
theorem LOk.hd {l:Dg}{f:Nat}{xs:List Nat}(h:LOk l (f::xs)):f<l.length:=h f (List.mem_cons_self ..)
theorem LOk.tl {l:Dg}{f:Nat}{xs:List Nat}(h:LOk l (f::xs)):LOk l xs:=fun g hg=>h g (List.mem_cons_of_mem _ hg)
theorem LOk.nil (l:Dg):LOk l []:=fun _ h=>(by cases h)
theorem LOk.cons {l:Dg}{f:Nat}{xs:List Nat}(h:f<l.length)(hs:LOk l xs):LOk l (f::xs):=fun g hg=>by
 rcases List.mem_cons.1 hg with rfl|hg
 .exact h
 .exact hs g hg
theorem LOk.app {l:Dg}{xs ys:List Nat}(h:LOk l xs)(hs:LOk l ys):LOk l (xs++ys):=fun g hg=>by
 rcases List.mem_append.1 hg with q|q
 .exact h g q
 .exact hs g q
theorem LOk.take {l:Dg}{xs:List Nat}(h:LOk l xs)(n:Nat):LOk l (xs.take n):=fun g hg=>h g (List.mem_of_mem_take hg)
theorem LOk.zeros {l:Dg}(v:VD l)(n:Nat):LOk l (jJ n 0):=fun g hg=>by
 rw[List.mem_replicate] at hg; have:=v.two; omega
theorem VD.p0 {l:Dg}(v:VD l):0<l.length:=by have:=v.two; omega
theorem VD.p1 {l:Dg}(v:VD l):1<l.length:=v.two
theorem LOk.cst {l:Dg}(v:VD l)(n:Nat):LOk l (cst n):=fun g hg=>by
 unfold Bl.cst at hg;rw[List.mem_map] at hg;obtain⟨k,_,rfl⟩:=hg;have:=v.two;have:n/2^k%2<2:=qR _ (by decide);omega
theorem LOk.sgl {l:Dg}(v:VD l){t:Nat}(h:t<l.length):LOk l (sgl t):=LOk.cons h (LOk.zeros v 15)
theorem H8 (n:Nat):(cst n).length=16:=by unfold cst; simp
theorem JQ (n:Nat):(sgl n).length=16:=rfl
theorem AIF (b:Bool):tn b<2:=by cases b<;>decide
theorem QV (L:Dg)(β:Nat->Bool):∀xs:List Nat,val L β xs<2^xs.length
 | []=>by simp [val]
 | f::r=>by
   have:=QV L β r;have:=AIF (ev L β f);simp only[val,zZ,Nat.pow_succ];omega
theorem V6 (L:Dg)(β:Nat->Bool):∀n:Nat,val L β (jJ n 0)=0
 | 0=>rfl
 | n+1=>by
   rw[List.replicate_succ];simp only[val];rw[V6 L β n,UL]; rfl
theorem AM3 (L:Dg)(β:Nat->Bool)(t:Nat):val L β (sgl t)=tn (ev L β t):=by
 unfold sgl;simp only[val];rw[V6]; omega
theorem AGO (L:Dg)(β:Nat->Bool):∀xs ys:List Nat,val L β (xs++ys)=val L β xs+2^xs.length*val L β ys
 | [],ys=>by simp [val]
 | f::r,ys=>by
   rw[List.cons_append];simp only[val];rw[AGO L β r ys,zZ,Nat.pow_succ,Nat.mul_add,<-Nat.mul_assoc,qX 2 (2^r.length)];omega
theorem SG (L:Dg)(β:Nat->Bool):∀(xs:List Nat) (i:Nat),(val L β xs).testBit i=ev L β (xs.getD i 0)
 | [],i=>by simp [val,UL]
 | f::r,0=>by
   simp only[val];rw[Nat.testBit_zero,List.getD_cons_zero];cases ev L β f<;>simp [tn]<;>omega
 | f::r,i+1=>by
   simp only[val];rw[Nat.testBit_succ,List.getD_cons_succ,<-SG L β r i];congr 1;have:=AIF (ev L β f);omega
theorem AZ2 (L:Dg)(β:Nat->Bool){n:Nat}(h:n<2):tn (ev L β n)=n:=by
 rcases n with _|_|n
 .rfl
 .rfl
 .omega
theorem ACW (L:Dg)(β:Nat->Bool):∀(k n:Nat),val L β ((List.range k).map fun i=>n/2^i%2)=n%2^k
 | 0,n=>by simp [val,Nat.mod_one]
 | k+1,n=>by
   rw[List.range_succ_eq_map,List.map_cons,List.map_map];simp only[val]
   have e:((fun i=>n/2^i%2) ∘ Nat.succ)=fun i=>(n/2)/2^i%2:=by
    funext i;simp only[Function.comp];rw[Nat.pow_succ,qX,<-Nat.div_div_eq_div_mul]
   rw[e,ACW L β k (n/2),AZ2 L β (by simp; omega)];simp only[Nat.pow_zero,Nat.div_one];rw[Nat.pow_succ,qX (2^k) 2,Nat.mod_mul]
theorem V7 (L:Dg)(β:Nat->Bool)(n:Nat):val L β (cst n)=n%65536:=ACW L β 16 n
theorem QI:∀(xs:List Nat) (l:Dg) (t:Nat),VD l->LOk l xs->t<l.length->Sp l (trL xs t) fun r l'=>r<l'.length∧Pw l' fun L=>∀β,ev L β r=(ev L β t || !(val L β xs==0))
 | [],l,t,v,_,ht=>Sp.ret v ⟨ht,fun L _ _ β=>by simp [val]⟩
 | f::r,l,t,v,hx,ht=>by
   refine(U0 v ht hx.hd).bnd ?_;rintro u l1 v1 x1 ⟨h1,e1⟩;refine(QI r l1 u v1 (hx.tl.go x1) h1).mono ?_;rintro z l2 v2 x2 ⟨h2,e2⟩;refine⟨h2,fun L vL xL β=>?_⟩;rw[e2 L vL xL,e1 L vL (x2.trans xL)];simp only[val];rw[qH];cases ev L β t<;>cases ev L β f<;>simp [tn]<;>omega
theorem AKM (o m p:Nat)(h:o<2)(hp:0<p):(o+2*m)%(2*p)=o+2*(m%p):=by
 have e:=Nat.div_add_mod m p;have hr:=qR m hp;generalize m/p=q at e;generalize m%p=r at e hr;rw[<-e,Nat.mul_add,show o+(2*(p*q)+2*r)=(o+2*r)+2*p*q by rw[Nat.mul_assoc]; omega,Nat.add_mul_mod_self_left];exact Nat.mod_eq_of_lt (by omega)
theorem PY:∀(xs ys:List Nat) (l:Dg) (c:Nat),VD l->xs.length=ys.length->LOk l xs->LOk l ys->c<l.length ->
  Sp l (PI xs ys c) fun r l'=>(r.length=xs.length∧LOk l' r)∧Pw l' fun L=>∀β,val L β r=(val L β xs+val L β ys+tn (ev L β c))%2^xs.length
 | [],ys,l,c,v,hl,_,_,_=>by
   have:ys=[]:=qI hl.symm;subst this;exact Sp.ret v ⟨⟨rfl,LOk.nil l⟩,fun L _ _ β=>by simp [val,Nat.mod_one]⟩
 | x::xs,[],l,c,v,hl,_,_,_=>by cases hl
 | x::xs,y::ys,l,c,v,hl,hx,hy,hc=>by
   have hl:xs.length=ys.length:=by simpa using hl
   unfold PI;refine(ACP v hx.hd hy.hd).bnd ?_;rintro h l1 v1 x1 ⟨h1,e1⟩;refine(ACP v1 h1 (x1.lt hc)).bnd ?_;rintro o l2 v2 x2 ⟨h2,e2⟩;by_cases hn:xs=[]
   .subst hn
    have:ys=[]:=qI hl.symm;subst this;rw[if_pos rfl];refine Sp.ret v2 ⟨⟨rfl,LOk.cons h2 (LOk.nil l2)⟩,fun L vL xL β=>?_⟩;simp only[val];rw[e2 L vL xL,e1 L vL (x2.trans xL)];cases ev L β x<;>cases ev L β y<;>cases ev L β c<;>simp [tn]
   .rw[if_neg hn]
    have x12:=x1.trans x2;refine(O8 v2 (x12.lt hx.hd) (x12.lt hy.hd)).bnd ?_;rintro g l3 v3 x3 ⟨h3,e3⟩;refine(O8 v3 ((x2.trans x3).lt h1) ((x12.trans x3).lt hc)).bnd ?_;rintro k l4 v4 x4 ⟨h4,e4⟩;refine(U0 v4 (x4.lt h3) h4).bnd ?_;rintro c' l5 v5 x5 ⟨h5,e5⟩;have x15:=x12.trans (x3.trans (x4.trans x5));refine(PY xs ys l5 c' v5 hl (hx.tl.go x15) (hy.tl.go x15) h5).bnd ?_;rintro r l6 v6 x6 ⟨⟨h6,h6'⟩,e6⟩;refine Sp.ret v6 ⟨⟨by simp [h6],LOk.cons ((x3.trans (x4.trans (x5.trans x6))).lt h2) h6'⟩,fun L vL xL β=>?_⟩;have X5:=x6.trans xL;have X4:=x5.trans X5;have X3:=x4.trans X4;have X2:=x3.trans X3;have X1:=x2.trans X2;simp only[val,zZ];rw[e6 L vL xL,e2 L vL X2,e1 L vL X1,e5 L vL X5,e4 L vL X4,e3 L vL X3,e1 L vL X1,Nat.pow_succ,qX (2^xs.length) 2,<-AKM _ _ _ (AIF _) (Nat.pow_pos (by decide))];congr 1;cases ev L β x<;>cases ev L β y<;>cases ev L β c<;>simp [tn]<;>omega
theorem ZW:∀(xs:List Nat) (l:Dg),VD l->LOk l xs->Sp l (cmpL xs) fun r l'=>(r.length=xs.length∧LOk l' r)∧Pw l' fun L=>∀β,val L β r+val L β xs=2^xs.length-1
 | [],l,v,_=>Sp.ret v ⟨⟨rfl,LOk.nil l⟩,fun L _ _ β=>rfl⟩
 | x::xs,l,v,hx=>by
   unfold cmpL;refine(OE v hx.hd).bnd ?_;rintro g l1 v1 x1 ⟨h1,e1⟩;refine(ZW xs l1 v1 (hx.tl.go x1)).bnd ?_;rintro s l2 v2 x2 ⟨⟨h2,h2'⟩,e2⟩;refine Sp.ret v2 ⟨⟨by simp [h2],LOk.cons (x2.lt h1) h2'⟩,fun L vL xL β=>?_⟩;have a:=e2 L vL xL β;have b:=e1 L vL (x2.trans xL) β;simp only[val,zZ,Nat.pow_succ];rw[b];have:0<2^xs.length:=Nat.pow_pos (by decide);cases ev L β x<;>simp [tn]<;>omega
theorem ACK {l:Dg}{x y:Wrd}(v:VD l)(hx:x.length=16)(hy:y.length=16)(ox:LOk l x)(oy:LOk l y):Sp l (AA3 x y) fun r l'=>(r.length=16∧LOk l' r)∧Pw l' fun L=>∀β,val L β r=(val L β x+65536-val L β y)%65536:=by
 unfold AA3;refine(ZW y l v oy).bnd ?_;rintro n l1 v1 x1 ⟨⟨h1,h1'⟩,e1⟩;refine(PY x n l1 1 v1 (by omega) (ox.go x1) h1' v1.p1).mono ?_;rintro r l2 v2 x2 ⟨⟨h2,h2'⟩,e2⟩;refine⟨⟨by omega,h2'⟩,fun L vL xL β=>?_⟩;have a:=e1 L vL (x2.trans xL) β;rw[e2 L vL xL,AS8,hx];rw[hy] at a;have:val L β y<65536:=by have:=QV L β y; rw[hy] at this; exact this
 simp only[tn];have:2^16=65536:=rfl;rw[this] at *;congr 1;simp;omega
theorem VP:∀(xs ys:List Nat) (l:Dg) (t:Nat),VD l->xs.length=ys.length->LOk l xs->LOk l ys->t<l.length->Sp l (eqL xs ys t) fun r l'=>r<l'.length∧Pw l' fun L=>∀β,ev L β r=(ev L β t&&val L β xs==val L β ys)
 | [],ys,l,t,v,hl,_,_,ht=>by
   have:ys=[]:=qI hl.symm;subst this;exact Sp.ret v ⟨ht,fun L _ _ β=>by simp [val]⟩
 | x::xs,[],l,c,v,hl,_,_,_=>by cases hl
 | x::xs,y::ys,l,t,v,hl,hx,hy,ht=>by
   have hl:xs.length=ys.length:=by simpa using hl
   unfold eqL;refine(ACP v hx.hd hy.hd).bnd ?_;rintro a l1 v1 x1 ⟨h1,e1⟩;refine(OE v1 h1).bnd ?_;rintro b l2 v2 x2 ⟨h2,e2⟩;have x12:=x1.trans x2;refine(O8 v2 (x12.lt ht) h2).bnd ?_;rintro u l3 v3 x3 ⟨h3,e3⟩;have x13:=x12.trans x3;refine(VP xs ys l3 u v3 hl (hx.tl.go x13) (hy.tl.go x13) h3).mono ?_;rintro r l4 v4 x4 ⟨h4,e4⟩;refine⟨h4,fun L vL xL β=>?_⟩;have X3:=x4.trans xL;have X2:=x3.trans X3;have X1:=x2.trans X2;rw[e4 L vL xL,e3 L vL X3,e2 L vL X2,e1 L vL X1];simp only[val];rw[qH];cases ev L β x<;>cases ev L β y<;>cases ev L β t<;>simp [tn]<;>omega
theorem UJ:∀(xs ys:List Nat) (l:Dg) (t:Nat),VD l->xs.length=ys.length->LOk l xs->LOk l ys->t<l.length->Sp l (lsL xs ys t) fun r l'=>r<l'.length∧Pw l' fun L=>∀β,ev L β r=(decide (val L β xs<val L β ys)||(val L β xs==val L β ys&&ev L β t))
 | [],ys,l,t,v,hl,_,_,ht=>by
   have:ys=[]:=qI hl.symm;subst this;exact Sp.ret v ⟨ht,fun L _ _ β=>by simp [val]⟩
 | x::xs,[],l,c,v,hl,_,_,_=>by cases hl
 | x::xs,y::ys,l,t,v,hl,hx,hy,ht=>by
   have hl:xs.length=ys.length:=by simpa using hl
   unfold lsL;refine(OE v hx.hd).bnd ?_;rintro n l1 v1 x1 ⟨h1,e1⟩;refine(O8 v1 h1 (x1.lt hy.hd)).bnd ?_;rintro u l2 v2 x2 ⟨h2,e2⟩;have y2:=x1.trans x2;refine(ACP v2 (y2.lt hx.hd) (y2.lt hy.hd)).bnd ?_;rintro a l3 v3 x3 ⟨h3,e3⟩;refine(OE v3 h3).bnd ?_;rintro b l4 v4 x4 ⟨h4,e4⟩;have y4:=y2.trans (x3.trans x4);refine(O8 v4 h4 (y4.lt ht)).bnd ?_;rintro w l5 v5 x5 ⟨h5,e5⟩;refine(U0 v5 ((x3.trans (x4.trans x5)).lt h2) h5).bnd ?_;rintro z l6 v6 x6 ⟨h6,e6⟩;have y6:=y4.trans (x5.trans x6);refine(UJ xs ys l6 z v6 hl (hx.tl.go y6) (hy.tl.go y6) h6).mono ?_;rintro r l7 v7 x7 ⟨h7,e7⟩;refine⟨h7,fun L vL xL β=>?_⟩;have X6:=x7.trans xL;have X5:=x6.trans X6;have X4:=x5.trans X5;have X3:=x4.trans X4;have X2:=x3.trans X3;have X1:=x2.trans X2;rw[e7 L vL xL,e6 L vL X6,e5 L vL X5,e4 L vL X4,e3 L vL X3,e2 L vL X2,e1 L vL X1];simp only[val];obtain⟨bx,hbx⟩:∃b,ev L β x=b:=⟨_,rfl⟩
   obtain⟨by',hby⟩:∃b,ev L β y=b:=⟨_,rfl⟩
   obtain⟨bt,hbt⟩:∃b,ev L β t=b:=⟨_,rfl⟩
   rw[qH];simp only[hbx,hby,hbt,Bool.or_eq_true,Bool.and_eq_true,decide_eq_true_eq,beq_iff_eq];cases bx<;>cases by'<;>cases bt<;>simp [tn]<;>omega
theorem AOQ:∀(xs:List Nat) (l:Dg) (g:Nat),VD l->LOk l xs->g<l.length->Sp l (AEG xs g) fun r l'=>(r.length=xs.length∧LOk l' r)∧Pw l' fun L=>∀β,val L β r=tn (ev L β g)*val L β xs
 | [],l,g,v,_,_=>Sp.ret v ⟨⟨rfl,LOk.nil l⟩,fun L _ _ β=>by simp [val]⟩
 | x::xs,l,g,v,hx,hg=>by
   unfold AEG;refine(O8 v hx.hd hg).bnd ?_;rintro a l1 v1 x1 ⟨h1,e1⟩;refine(AOQ xs l1 g v1 (hx.tl.go x1) (x1.lt hg)).bnd ?_;rintro s l2 v2 x2 ⟨⟨h2,h2'⟩,e2⟩;refine Sp.ret v2 ⟨⟨by simp [h2],LOk.cons (x2.lt h1) h2'⟩,fun L vL xL β=>?_⟩;simp only[val];rw[e2 L vL xL,e1 L vL (x2.trans xL)];cases ev L β g<;>cases ev L β x<;>simp [tn]
theorem AIC (L:Dg)(β:Nat->Bool):∀(k:Nat) (xs:List Nat),val L β (xs.take k)=val L β xs%2^k
 | 0,xs=>by simp [val,Nat.mod_one]
 | k+1,[]=>by simp [val]
 | k+1,f::r=>by
   rw[List.take_succ_cons];simp only[val];rw[AIC L β k r,Nat.pow_succ,qX (2^k) 2,AKM _ _ _ (AIF _) (Nat.pow_pos (by decide))]
theorem ACC (x:Wrd)(hx:x.length=16):∀(ys:List Nat) (k:Nat) (l:Dg) (s:Wrd),VD l->k+ys.length=16->LOk l x->LOk l ys->s.length=16->LOk l s ->
  Sp l (XN x k ys s) fun r l'=>(r.length=16∧LOk l' r)∧Pw l' fun L=>∀β,val L β r=(val L β s+val L β x*(2^k*val L β ys))%65536
 | [],k,l,s,v,hk,ox,oy,hs,os=>Sp.ret v ⟨⟨hs,os⟩,fun L _ _ β=>by
  have:=QV L β s;rw[hs] at this;simp only[val]
  rw[Nat.mul_zero,Nat.mul_zero,jL,Nat.mod_eq_of_lt this]⟩
 | y::ys,k,l,s,v,hk,ox,oy,hs,os=>by
   have hk':k+1+ys.length=16:=by simp at hk; omega
   unfold XN;refine(AOQ (x.take (16-k)) l y v (ox.take _) oy.hd).bnd ?_;rintro p l1 v1 x1 ⟨⟨h1,h1'⟩,e1⟩;have hp:p.length=16-k:=by rw[h1,List.length_take]; omega
   refine(PY s (jJ k 0++p) l1 0 v1 (by simp [hp,hs]; omega) (os.go x1) ((LOk.zeros v1 k).app h1') v1.p0).bnd ?_;rintro s' l2 v2 x2 ⟨⟨h2,h2'⟩,e2⟩;have y2:=x1.trans x2;refine(ACC x hx ys (k+1) l2 s' v2 hk' (ox.go y2) (oy.tl.go y2) (by omega) h2').mono ?_;rintro r l3 v3 x3 ⟨h3,e3⟩;refine⟨h3,fun L vL xL β=>?_⟩;have X2:=x3.trans xL;have X1:=x2.trans X2;rw[e3 L vL xL,e2 L vL X2,hs,UL]
   have ep:val L β (jJ k 0++p)=2^k*(tn (ev L β y)*(val L β x%2^(16-k))):=by
    rw[AGO,V6,List.length_replicate,jG,e1 L vL X1,AIC]
   rw[ep];simp only[val];show((val L β s+2^k*(tn (ev L β y)*(val L β x%2^(16-k)))+0)%65536+val L β x*(2^(k+1)*val L β ys))%65536=_;rw[jL,Nat.mod_add_mod]
   have key:(2^k*(tn (ev L β y)*(val L β x%2^(16-k))))%65536=(val L β x*(2^k*tn (ev L β y)))%65536:=by
    have h65:(65536:Nat)=2^k*2^(16-k):=by rw[<-Nat.pow_add,show k+(16-k)=16 by omega]
    rw[show val L β x*(2^k*tn (ev L β y))=2^k*(tn (ev L β y)*val L β x) by rw[Nat.mul_left_comm,qX (val L β x)],h65,Nat.mul_mod_mul_left,Nat.mul_mod_mul_left,Nat.mul_mod_mod]
   have e:val L β s+val L β x*(2^k*(tn (ev L β y)+2*val L β ys))=(val L β s+val L β x*(2^(k+1)*val L β ys))+val L β x*(2^k*tn (ev L β y)):=by
    rw[Nat.mul_add,Nat.mul_add,Nat.pow_succ,Nat.mul_assoc (2^k) 2]; omega
   rw[e,show val L β s+2^k*(tn (ev L β y)*(val L β x%2^(16-k)))+val L β x*(2^(k+1)*val L β ys)=(val L β s+val L β x*(2^(k+1)*val L β ys))+2^k*(tn (ev L β y)*(val L β x%2^(16-k))) by omega];rw[Nat.add_mod,key,<-Nat.add_mod]
theorem AK0 (t:Nat)(x:Wrd)(fr:Nat->Option Nat):∀(outs:List Nat) (i:Nat) (l:Dg),VD l->t<l.length->LOk l x->LOk l outs->Sp l (shI t x fr outs i) fun r l'=>(r.length=outs.length∧LOk l' r) ∧
  Pw l' fun L=>∀β k,ev L β (r.getD k 0)=(ev L β (outs.getD k 0)||(decide (k<outs.length)&&match fr (i+k) with|some j=>ev L β t&&ev L β (x.getD j 0)|none=>false))
 | [],i,l,v,_,_,_=>Sp.ret v ⟨⟨rfl,LOk.nil l⟩,fun L _ _ β k=>by simp⟩
 | o::outs,i,l,v,ht,ox,oo=>by
   have hxj:∀j,x.getD j 0<l.length:=fun j=>by
    rcases jY j x.length with h|h
    .rw[zM,jX h]; exact ox _ (List.getElem_mem h)
    .rw[zM,zO h]; exact v.p0
   unfold shI
   cases hfr:fr i with
   | none =>
     refine(AK0 t x fr outs (i+1) l v ht ox oo.tl).bnd ?_;rintro s l1 v1 x1 ⟨⟨h1,h1'⟩,e1⟩;refine Sp.ret v1 ⟨⟨by simp [h1],LOk.cons (x1.lt oo.hd) h1'⟩,fun L vL xL β k=>?_⟩
     cases k with
     | zero=>simp [hfr]
     | succ k=>rw[List.getD_cons_succ,List.getD_cons_succ,e1 L vL xL,show i+1+k=i+(k+1) by omega]; simp
   | some j =>
     refine(O8 v ht (hxj j)).bnd ?_;rintro a l1 v1 x1 ⟨h1,e1⟩;refine(U0 v1 (x1.lt oo.hd) h1).bnd ?_;rintro b l2 v2 x2 ⟨h2,e2⟩;have y2:=x1.trans x2;refine(AK0 t x fr outs (i+1) l2 v2 (y2.lt ht) (ox.go y2) (oo.tl.go y2)).bnd ?_;rintro s l3 v3 x3 ⟨⟨h3,h3'⟩,e3⟩;refine Sp.ret v3 ⟨⟨by simp [h3],LOk.cons (x3.lt h2) h3'⟩,fun L vL xL β k=>?_⟩;have X2:=x3.trans xL;have X1:=x2.trans X2
     cases k with
     | zero=>rw[List.getD_cons_zero,List.getD_cons_zero,e2 L vL X2,e1 L vL X1]; simp [hfr]
     | succ k=>rw[List.getD_cons_succ,List.getD_cons_succ,e3 L vL xL,show i+1+k=i+(k+1) by omega]; simp
def shB (L:Dg)(β:Nat->Bool)(left:Bool)(x:Wrd)(y k:Nat)(a b:Nat):Bool:=decide (a<=y)&&decide (y<b)&&match frL left y k with|some j=>ev L β (x.getD j 0)|none=>false
theorem AQ8 (left:Bool)(x y:Wrd)(hx:x.length=16)(hy:y.length=16):∀(n s:Nat) (out:Wrd) (l:Dg),VD l->s+n<=16->LOk l x->LOk l y->out.length=16->LOk l out ->
  Sp l (shS left x y n s out) fun r l'=>(r.length=16∧LOk l' r)∧Pw l' fun L=>∀β k,k<16->ev L β (r.getD k 0)=(ev L β (out.getD k 0)||shB L β left x (val L β y) k s (s+n))
 | 0,s,out,l,v,_,_,_,ho,oo=>Sp.ret v ⟨⟨ho,oo⟩,fun L _ _ β k _=>by
  unfold shB;by_cases h:s<=val L β y
  .rw[decide_eq_false (show ¬val L β y<s+0 by omega)]; simp
  .rw[decide_eq_false h]; simp⟩
 | n+1,s,out,l,v,hs,ox,oy,ho,oo=>by
   unfold shS;refine(VP y (cst s) l 1 v (by rw[hy,H8]) oy (LOk.cst v s) v.p1).bnd ?_;rintro t l1 v1 x1 ⟨h1,e1⟩;refine(AK0 t x (frL left s) out 0 l1 v1 h1 (ox.go x1) (oo.go x1)).bnd ?_;rintro out' l2 v2 x2 ⟨⟨h2,h2'⟩,e2⟩;have y2:=x1.trans x2;refine(AQ8 left x y hx hy n (s+1) out' l2 v2 (by omega) (ox.go y2) (oy.go y2) (by omega) h2').mono ?_;rintro r l3 v3 x3 ⟨h3,e3⟩;refine⟨h3,fun L vL xL β k hk=>?_⟩;have X2:=x3.trans xL;have X1:=x2.trans X2;rw[e3 L vL xL β k hk,e2 L vL X2,e1 L vL X1,AS8,V7,Nat.mod_eq_of_lt (show s<65536 by omega),jG,ho,decide_eq_true hk];simp only[qF];unfold shB;generalize val L β y=Y;rcases Nat.lt_trichotomy Y s with q|q|q
   .rw[decide_eq_false (show ¬s+1<=Y by omega),decide_eq_false (show ¬s<=Y by omega),show(Y==s)=false by simp; omega]
    cases frL left s k<;>simp
   .subst q
    rw[decide_eq_false (show ¬Y+1<=Y by omega),decide_eq_true (jP Y),decide_eq_true (show Y<Y+(n+1) by omega),show(Y==Y)=true by simp];cases frL left Y k<;>simp
   .rw[decide_eq_true (show s+1<=Y by omega),decide_eq_true (show s<=Y by omega),show(Y==s)=false by simp; omega,show s+1+n=s+(n+1) by omega]
    cases frL left s k<;>simp
theorem ALT (n k:Nat):(jJ n (0:Nat)).getD k 0=0:=by
 rw[zM,List.getElem?_replicate]; split<;>rfl
theorem AWT:cst 0=jJ 16 0:=by decide
theorem QW {L:Dg}{β:Nat->Bool}{xs:List Nat}{n:Nat}(hl:xs.length=16)(hn:n<65536)(h:∀k,k<16->ev L β (xs.getD k 0)=n.testBit k):val L β xs=n:=by
 apply Nat.eq_of_testBit_eq;intro i;rw[SG];by_cases hi:i<16
 .exact h i hi
 .rw[zM,zO (by omega),jO,UL]
  exact(Nat.testBit_lt_two_pow (Nat.lt_of_lt_of_le hn (Nat.pow_le_pow_right (n:=2) (i:=16) (by decide) (by omega)))).symm
def AKZ (left:Bool)(a b:Nat):Nat:=if b<16 then if left=true then a*2^b%65536 else a/2^b else 0
theorem VB (left:Bool){x y:Wrd}{l:Dg}(v:VD l)(hx:x.length=16)(hy:y.length=16)(ox:LOk l x)(oy:LOk l y):Sp l (shS left x y 16 0 (cst 0)) fun r l'=>(r.length=16∧LOk l' r)∧Pw l' fun L=>∀β,val L β r=AKZ left (val L β x) (val L β y):=by
 refine(AQ8 left x y hx hy 16 0 (cst 0) l v (by omega) ox oy (H8 0) (LOk.cst v 0)).mono ?_;rintro r l1 v1 x1 ⟨h1,e1⟩;refine⟨h1,fun L vL xL β=>?_⟩;have hX:val L β x<65536:=by have:=QV L β x; rw[hx] at this; exact this
 have hb:=fun k hk=>e1 L vL xL β k hk
 generalize val L β y=Y at hb;refine QW h1.1 ?_ fun k hk=>?_
 .unfold AKZ
  split
  .split
   .exact qR _ (by decide)
   .exact Nat.lt_of_le_of_lt (Nat.div_le_self _ _) hX
  .decide
 .rw[hb k hk,AWT,ALT,UL,Bool.false_or]
  unfold shB AKZ;rw[decide_eq_true (Nat.zero_le Y),qF];by_cases hY:Y<16
  .rw[if_pos hY,decide_eq_true (show Y<0+16 by omega),qF]
   cases left with
   | true =>
     rw[if_pos rfl,show(65536:Nat)=2^16 from rfl,Nat.testBit_mod_two_pow,decide_eq_true hk,qF,<-Nat.shiftLeft_eq,Nat.testBit_shiftLeft];unfold frL;rw[if_pos rfl];by_cases q:Y<=k
     .rw[if_pos q,decide_eq_true (show k≥Y from q),SG]; rfl
     .rw[if_neg q,decide_eq_false (show ¬k≥Y from q)]; rfl
   | false =>
     rw[if_neg (by simp),<-Nat.shiftRight_eq_div_pow,Nat.testBit_shiftRight];unfold frL;rw[if_neg (by simp),SG];by_cases q:k+Y<16
     .rw[if_pos q,Nat.add_comm]
     .rw[if_neg q,zM,zO (by omega),jO,UL]
  .rw[if_neg hY,decide_eq_false (show ¬Y<0+16 by omega),Nat.zero_testBit]; rfl
theorem AC9 (op:Nat->Nat->M Nat)(b:Dg->(Nat->Bool)->Bool->Bool->Bool)(l0:Dg)(hop:∀(l:Dg) (f g:Nat),VD l->Xt l0 l->f<l.length->g<l.length->Sp l (op f g) fun r l'=>r<l'.length∧Pw l' fun L=>∀β,ev L β r=b L β (ev L β f) (ev L β g)) :
  ∀(xs ys:List Nat) (l:Dg),VD l->Xt l0 l->xs.length=ys.length->LOk l xs->LOk l ys->Sp l (pr2 op xs ys) fun r l'=>(r.length=xs.length∧LOk l' r)∧Pw l' fun L=>∀β k,k<xs.length->ev L β (r.getD k 0)=b L β (ev L β (xs.getD k 0)) (ev L β (ys.getD k 0))
 | [],ys,l,v,_,hl,_,_=>by
   have:ys=[]:=qI hl.symm;subst this;exact Sp.ret v ⟨⟨rfl,LOk.nil l⟩,fun L _ _ β k hk=>absurd hk (Nat.not_lt_zero k)⟩
 | x::xs,[],l,v,_,hl,_,_=>by cases hl
 | x::xs,y::ys,l,v,x0,hl,hx,hy=>by
   have hl:xs.length=ys.length:=by simpa using hl
   unfold pr2;refine(hop l x y v x0 hx.hd hy.hd).bnd ?_;rintro a l1 v1 x1 ⟨h1,e1⟩;refine(AC9 op b l0 hop xs ys l1 v1 (x0.trans x1) hl (hx.tl.go x1) (hy.tl.go x1)).bnd ?_;rintro s l2 v2 x2 ⟨⟨h2,h2'⟩,e2⟩;refine Sp.ret v2 ⟨⟨by simp [h2],LOk.cons (x2.lt h1) h2'⟩,fun L vL xL β k hk=>?_⟩
   cases k with
   | zero=>rw[List.getD_cons_zero,List.getD_cons_zero,List.getD_cons_zero]; exact e1 L vL (x2.trans xL) β
   | succ k=>rw[List.getD_cons_succ,List.getD_cons_succ,List.getD_cons_succ]; exact e2 L vL xL β k (by simpa using hk)
def onV (L:Dg)(β:Nat->Bool):List Nat->Nat
 | []=>0
 | f::r=>tn (ev L β f)+onV L β r
theorem ARU:∀(xs:List Nat) (l:Dg) (s:Wrd),VD l->LOk l xs->s.length=16->LOk l s->Sp l (onL xs s) fun r l'=>(r.length=16∧LOk l' r)∧Pw l' fun L=>∀β,val L β r=(val L β s+onV L β xs)%65536
 | [],l,s,v,_,hs,os=>Sp.ret v ⟨⟨hs,os⟩,fun L _ _ β=>by
  have:=QV L β s;rw[hs] at this;simp only[onV]
  rw[jL,Nat.mod_eq_of_lt this]⟩
 | x::xs,l,s,v,hx,hs,os=>by
   unfold onL;refine(PY s (sgl x) l 0 v (by rw[hs]; rfl) os (LOk.sgl v hx.hd) v.p0).bnd ?_;rintro s' l1 v1 x1 ⟨⟨h1,h1'⟩,e1⟩;refine(ARU xs l1 s' v1 (hx.tl.go x1) (by omega) h1').mono ?_;rintro r l2 v2 x2 ⟨h2,e2⟩;refine⟨h2,fun L vL xL β=>?_⟩;rw[e2 L vL xL,e1 L vL (x2.trans xL),hs,AM3,UL];simp only[onV];show((val L β s+tn (ev L β x)+0)%65536+onV L β xs)%65536=_;rw[Nat.mod_add_mod];congr 1; omega
def ALN (L:Dg)(β:Nat->Bool)(x:Nat):List Wrd->Bool
 | a::b::r=>(decide (val L β a<=x)&&decide (x<=val L β b))||ALN L β x r
 | _=>false
theorem AG3 (x:Wrd)(hx:x.length=16):∀(n:Nat) (ws:List Wrd) (l:Dg) (t:Nat),ws.length<=n->VD l->LOk l x->(∀w∈ws,w.length=16∧LOk l w)->t<l.length->Sp l (insL x ws t) fun r l'=>r<l'.length∧Pw l' fun L=>∀β,ev L β r=(ev L β t||ALN L β (val L β x) ws)
 | _,[],l,t,_,v,_,_,ht=>by unfold insL; exact Sp.ret v ⟨ht,fun L _ _ β=>by simp [ALN]⟩
 | _,[_],l,t,_,v,_,_,ht=>by unfold insL; exact Sp.ret v ⟨ht,fun L _ _ β=>by simp [ALN]⟩
 | 0,_::_::_,l,t,hn,_,_,_,_=>by simp at hn
 | n+1,a::b::r,l,t,hn,v,ox,ow,ht=>by
   have wa:=ow a (by simp);have wb:=ow b (by simp);unfold insL;refine(UJ x a l 0 v (by rw[hx,wa.1]) ox wa.2 v.p0).bnd ?_;rintro m l1 v1 x1 ⟨h1,e1⟩;refine(OE v1 h1).bnd ?_;rintro n' l2 v2 x2 ⟨h2,e2⟩;have y2:=x1.trans x2;refine(UJ b x l2 0 v2 (by rw[hx,wb.1]) (wb.2.go y2) (ox.go y2) v2.p0).bnd ?_;rintro o l3 v3 x3 ⟨h3,e3⟩;refine(OE v3 h3).bnd ?_;rintro q l4 v4 x4 ⟨h4,e4⟩;refine(O8 v4 ((x3.trans x4).lt h2) h4).bnd ?_;rintro u l5 v5 x5 ⟨h5,e5⟩;have y5:=y2.trans (x3.trans (x4.trans x5));refine(U0 v5 (y5.lt ht) h5).bnd ?_;rintro z l6 v6 x6 ⟨h6,e6⟩;have y6:=y5.trans x6;refine(AG3 x hx n r l6 z (by simp at hn; omega) v6 (ox.go y6) (fun w hw=>⟨(ow w (by simp [hw])).1,(ow w (by simp [hw])).2.go y6⟩) h6).mono ?_;rintro r' l7 v7 x7 ⟨h7,e7⟩;refine⟨h7,fun L vL xL β=>?_⟩;have X6:=x7.trans xL;have X5:=x6.trans X6;have X4:=x5.trans X5;have X3:=x4.trans X4;have X2:=x3.trans X3;have X1:=x2.trans X2;rw[e7 L vL xL,e6 L vL X6,e5 L vL X5,e4 L vL X4,e3 L vL X3,e2 L vL X2,e1 L vL X1,UL];simp only[ALN];rw[qH];simp [Bool.or_assoc]
end Go.Proofs.YtgnoolgeijmlaaaGreatDoor.Bl
namespace Go.Proofs.YtgnoolgeijmlaaaGreatDoor.Bl
open Sm Bins Cov Go.RowKit
open Bool renaming eq_iff_iff→qH
def i3 (a b c:Int):List AV:=[.int .i64 a,.int .i64 b,.int .i64 c]
structure Rn where
 lv:Int
 lo:Int
 hi:Int
 deriving DecidableEq
def ER (r:Rn):List AV:=i3 r.lv r.lo r.hi
def Nd.raw (n:Nd):Rn:=⟨n.lv,n.lo,n.hi⟩
def DY (n:Nd):List AV:=i3 n.lv n.lo n.hi
theorem WE (l:Dg):(l.map Nd.raw).map ER=l.map DY:=by rw[List.map_map]; rfl
theorem ANG {m n:Nd}(h:m.raw=n.raw):m=n:=by
 cases m; cases n;unfold Nd.raw at h
 injection h with h1 h2 h3
 simp only at h1 h2 h3;congr 1<;>omega
theorem KH (r:Rn):(ER r).length=3:=rfl
theorem AFX (r:Nd):(DY r).length=3:=rfl
theorem AX9:Frz DY:=fun _ _ _ _=>⟨rfl,rfl⟩
theorem ASE {P:Program}{t:TypeId}(hs:P.stoodInHeld t=false)(hst:(match P.underlying t with|some (.struct _)=>true|_=>false)=true)
  (h1:∀a b c a' b' c':Int,eqF P (i3 a b c) (i3 a' b' c') (match P.underlying t with|some (.struct fs)=>fs.toList|_=>[])=some ((a==a')&&((b==b')&&((c==c')&&true)))) (a b c a' b' c':Int) :
  MW P t (.agg (i3 a b c)) (.agg (i3 a' b' c'))=some (decide (a=a'∧b=b'∧c=c')):=by
 have h1:=h1 a b c a' b' c';unfold MW
 cases hu:P.underlying t with
 | none=>rw[hu] at hst; cases hst
 | some d =>
   cases d<;>first|(rw[hu] at hst; cases hst; done)|skip
   rename_i fs;rw[hu] at h1;simp only at h1;have e1:U3 (i3 a b c)=some [(.i64,a),(.i64,b),(.i64,c)]:=rfl;have e2:U3 (i3 a' b' c')=some [(.i64,a'),(.i64,b'),(.i64,c')]:=rfl
   have e3:([(IntKind.i64,a),(.i64,b),(.i64,c)] == [(IntKind.i64,a'),(.i64,b'),(.i64,c')])=((a==a')&&((b==b')&&((c==c')&&true))):=by
    rw[qH]; simp
   have e4:((a==a')&&((b==b')&&((c==c')&&true)))=decide (a=a'∧b=b'∧c=c'):=by
    rw[qH]; simp
   simp only[e1,e2,hs,h1,e3,e4,and_self,if_true]
theorem AX4 (a b c a' b' c':Int):MW Tryz.prog 61 (.agg (i3 a b c)) (.agg (i3 a' b' c'))=some (decide (a=a'∧b=b'∧c=c')) :=
 ASE (by kernel_rfl) (by kernel_rfl) (fun _ _ _ _ _ _=>by kernel_rfl) a b c a' b' c'
theorem AZP (a b c a' b' c':Int):MW Tryz.prog 132 (.agg (i3 a b c)) (.agg (i3 a' b' c'))=some (decide (a=a'∧b=b'∧c=c')) :=
 ASE (by kernel_rfl) (by kernel_rfl) (fun _ _ _ _ _ _=>by kernel_rfl) a b c a' b' c'
theorem A1Z (a b c:Int):Q3 Tryz.prog 61 (.agg (i3 a b c))=true:=by kernel_rfl
theorem A10 (a b c:Int):Q3 Tryz.prog 132 (.agg (i3 a b c))=true:=by kernel_rfl
theorem AXU:Tryz.prog.underlying 161=some (.map 61 4):=by kernel_rfl
theorem AXT:Tryz.prog.underlying 173=some (.map 132 3):=by kernel_rfl
theorem AQ0:Tryz.prog.underlying 197=some (.map 61 3):=by kernel_rfl
theorem zr3:P6 Tryz.prog 3=some (.int .i64 0):=by kernel_rfl
theorem zr4:P6 Tryz.prog 4=some (.bool false):=by kernel_rfl
def fk {κ:Type} [DecidableEq κ] (x:κ):List (κ×AV)->Option Nat
 | []=>none
 | e::r=>if x=e.1 then some 0 else (fk x r).map (·+1)
theorem ACH {κ:Type} [DecidableEq κ] {x:κ}:∀ {es:List (κ×AV)} {i:Nat},fk x es=some i->∃v,es[i]?=some (x,v)
 | e::r,i,h=>by
   unfold fk at h;split at h
   .rename_i he; cases h; exact⟨e.2,by rw[he]; rfl⟩
   .cases hr:fk x r with
    | none=>rw[hr] at h; cases h
    | some j=>rw[hr] at h; cases h; obtain⟨v,hv⟩:=ACH hr; exact⟨v,hv⟩
theorem ADQ {P:Program}{kt:TypeId}{κ:Type} [DecidableEq κ] {ec:κ->AV}(hk:∀x y,MW P kt (ec x) (ec y)=some (decide (x=y)))(x:κ):∀es:List (κ×AV),RD P kt (ec x) (es.map fun e=>(ec e.1,e.2))=some (fk x es)
 | []=>rfl
 | e::r=>by
   have ih:=ADQ hk x r;simp only[List.map_cons,RD,hk,fk];by_cases h:x=e.1
   .rw[decide_eq_true h,if_pos h]
   .rw[decide_eq_false h,if_neg h]
    simp only[ih];cases fk x r<;>rfl
def upK {κ:Type} [DecidableEq κ] (es:List (κ×AV))(x:κ)(v:AV):List (κ×AV):=match fk x es with
 | some i=>es.set i (x,v)
 | none=>es++[(x,v)]
theorem Y2 {P:Program}{t kt et:TypeId}{κ:Type} [DecidableEq κ] {ec:κ->AV}(hu:P.underlying t=some (.map kt et))(hk:∀x y,MW P kt (ec x) (ec y)=some (decide (x=y)))(ht:∀x,Q3 P kt (ec x)=true){h:Hp}{b:Nat}{es:List (κ×AV)}(hb:h[b]?=some (.map (es.map fun e=>(ec e.1,e.2))))(x:κ)(v:AV) :
  J5 P h t (.mp b) (ec x) v=some (h.set b (.map ((upK es x v).map fun e=>(ec e.1,e.2)))):=by
 have hf:=ADQ hk x es;unfold J5 upK;simp only[hu,hb,ht,if_true,hf]
 cases fk x es with
 | none=>simp
 | some i=>simp [List.map_set]
theorem AGZ {P:Program}{t kt et:TypeId}{κ:Type} [DecidableEq κ] {ec:κ->AV}{z:Value}(hu:P.underlying t=some (.map kt et))(hk:∀x y,MW P kt (ec x) (ec y)=some (decide (x=y)))(ht:∀x,Q3 P kt (ec x)=true)(hz:P6 P et=some z){h:Hp}{b:Nat}{es:List (κ×AV)}(hb:h[b]?=some (.map (es.map fun e=>(ec e.1,e.2))))(x:κ)(ok:Bool) :
  JZ P h t (.mp b) (ec x) ok=some (match (fk x es).bind (fun i=>es[i]?) with|some e=>if ok then .tup [e.2,.bool true] else e.2|none=>if ok then .tup [QL z,.bool false] else QL z):=by
 have hf:=ADQ hk x es;unfold JZ;simp only[hu,hb,ht,if_true,hf,hz]
 cases hx:fk x es with
 | none=>simp
 | some i =>
   obtain⟨v,hv⟩:=ACH hx;simp [hv]
def ecR (r:Rn):AV:=.agg (ER r)
def ecN (n:Nd):AV:=.agg (DY n)
theorem A13 (x y:Rn):MW Tryz.prog 61 (ecR x) (ecR y)=some (decide (x=y)):=by
 unfold ecR ER;rw[AX4];cases x; cases y;simp
theorem AZO (x y:Nd):MW Tryz.prog 61 (ecN x) (ecN y)=some (decide (x=y)):=by
 obtain⟨a,b,c⟩:=x;obtain⟨d,e,f⟩:=y;unfold ecN DY;rw[AX4];congr 1;rw[decide_eq_decide,Nd.mk.injEq];simp only;omega
theorem ktR (x:Rn):Q3 Tryz.prog 61 (ecR x)=true:=A1Z _ _ _
theorem ktN (x:Nd):Q3 Tryz.prog 61 (ecN x)=true:=A1Z _ _ _
structure T3 where
 f:Nat
 g:Nat
 h:Nat
 deriving DecidableEq
def TA (x:T3):List AV:=i3 x.f x.g x.h
def ecT (x:T3):AV:=.agg (TA x)
theorem A12 (x y:T3):MW Tryz.prog 132 (ecT x) (ecT y)=some (decide (x=y)):=by
 obtain⟨a,b,c⟩:=x;obtain⟨d,e,f⟩:=y;unfold ecT TA;rw[AZP];congr 1;rw[decide_eq_decide,T3.mk.injEq];simp only;omega
theorem ktT (x:T3):Q3 Tryz.prog 132 (ecT x)=true:=A10 _ _ _
def atE:Dg->Nat->List (Nd×AV)
 | [],_=>[]
 | n::r,i=>(n,.int .i64 (i:Nat))::atE r (i+1)
theorem AON (l:Dg)(n:Nd):∀i,atE (l++[n]) i=atE l i++[(n,.int .i64 ((i+l.length:Nat):Int))]:=by
 induction l with
 | nil=>intro i; simp [atE]
 | cons m r ih=>intro i; simp only[List.cons_append,atE,List.length_cons]; rw[ih (i+1),show i+1+r.length=i+(r.length+1) by omega]
theorem AOM:∀(l:Dg) (i k:Nat),(atE l i)[k]?=(l[k]?).map fun n=>(n,.int .i64 ((i+k:Nat):Int))
 | [],i,k=>by simp [atE]
 | n::r,i,0=>by simp [atE]
 | n::r,i,k+1=>by
   simp only[atE,List.getElem?_cons_succ];rw[AOM r (i+1) k,show i+1+k=i+(k+1) by omega]
theorem AHB (n:Nd):∀(l:Dg) (i:Nat),fk n (atE l i)=fnd n l
 | [],i=>rfl
 | m::r,i=>by
   simp only[atE,fk,fnd];rw[AHB n r (i+1)];by_cases h:n=m
   .rw[if_pos h,if_pos h.symm]
   .rw[if_neg h,if_neg (fun q=>h q.symm)]
theorem AV0 {h:Hp}{b:Nat}{l:Dg}(hb:h[b]?=some (.map ((atE l 0).map fun e=>(ecN e.1,e.2))))(n:Nd) :
  JZ Tryz.prog h 197 (.mp b) (ecN n) true=some (match fnd n l with|some i=>.tup [.int .i64 (i:Nat),.bool true]|none=>.tup [.int .i64 0,.bool false]):=by
 rw[AGZ AQ0 AZO ktN zr3 hb n true,AHB]
 cases hx:fnd n l with
 | none=>rfl
 | some i =>
   have:=TN hx;simp [AOM,this]
end Go.Proofs.YtgnoolgeijmlaaaGreatDoor.Bl
namespace Go.Proofs.YtgnoolgeijmlaaaGreatDoor.Cov
open Sm Bins Go.Proofs.YtgnoolgeijmlaaaGreatDoor.Bd Go.Proofs.YtgnoolgeijmlaaaGreatDoor.Bl Go.RowKit
theorem A5E:Tryz.prog.cellsOf 33=1:=by kernel_rfl
theorem A56:Tryz.prog.cellsOf 35=1:=by kernel_rfl
theorem A5D:Tryz.prog.cellsOf 61=3:=by kernel_rfl
structure Dr where
 m:SM
 l:List Rn
def AYC (d:Dr):List AV:=[.sl d.m 3 (d.l.map ER)]
theorem A0M (d:Dr):(AYC d).length=1:=rfl
def A4Y (d:Dr)(b:Nat):Prop:=d.l.length<=b
theorem A4S:Rd Tryz.prog 61 ER (fun _ _=>True):=by
 intro n
 cases n with
 | zero=>exact RdAt.zero
 | succ n=>exact RdAt.map (fun x:Int×Int×Int×Unit=>(⟨x.1,x.2.1,x.2.2.1⟩:Rn)) (PK Tryz.underlying61 (I7 rfl cl3 (fun _=>rfl) (rdI n) (I7 rfl cl3 (fun _=>rfl) (rdI n) (I7 rfl cl3 (fun _=>rfl) (rdI n) UC)))) (fun _=>rfl) (fun _ _ _=>trivial)
theorem A55:Rd Tryz.prog 35 AYC A4Y:=by
 intro n
 match n with
 | 0=>exact RdAt.zero
 | 1=>exact AGV Tryz.underlying35
 | n+2 =>
   have r1:RdAt Tryz.prog (n+1) 33 (fun x:SM×List Rn=>[.sl x.1 3 (x.2.map ER)]) (fun x b=>∃b',b'+1<=b∧okL (fun _ _=>True) x.2 b'):=P9 Tryz.underlying33 A5D (by decide) KH (A4S n);refine RdAt.map (fun x:(SM×List Rn)×Unit=>(⟨x.1.1,x.1.2⟩:Dr)) (PK Tryz.underlying35 (I7 rfl A5E (fun _=>rfl) r1 UC)) (fun _=>rfl) ?_;rintro⟨a,_⟩ N ⟨_,hN,b1,b2,hb,h1,_⟩;have:=(VH h1).length;show a.2.length<=N;simp only at this;omega
end Go.Proofs.YtgnoolgeijmlaaaGreatDoor.Cov
set_option linter.unusedSimpArgs false
set_option maxRecDepth 8000
namespace Go.Proofs.YtgnoolgeijmlaaaGreatDoor.Bl
open Sm Bins Cov Go.RowKit
open Bool renaming true_and→qF,and_eq_true→zB,not_false→jC,not_true→jZ
open List renaming getElem?_eq_getElem→jX,all_eq_true→zQ,getElem?_map→zL,length_map→jR,map_cons→jF,drop_eq_nil_of_le→zF,map_nil→jE,append_nil→jD
open Nat renaming le_refl→jP,le_of_ble_eq_true→jH,reduceEqDiff→jA,add_zero→jL,zero_add→jG,reduceAdd→jM
open Option renaming getD_some→jB,getD_none→jO,map_some→qU,map_none→qZ
def gR (l:List Rn)(i:Nat):Rn:=(l[i]?).getD ⟨0,0,0⟩
theorem MP {l:List Rn}{i:Nat}(h:i<l.length):gR l i=l[i]:=by unfold gR; rw[jX h]; rfl
def ADK (i:Nat)(n:Rn):Bool:=decide (n.lv≥0)&&decide (n.lv<20)&&decide (n.lo≥0)&&decide (n.lo<(i:Nat))&&decide (n.hi≥0)&&decide (n.hi<(i:Nat))
def plR (l:List Rn)(i:Nat)(n:Rn):Bool:=ADK i n&&(n.lo != n.hi)&&decide (n.lv<min (gR l n.lo.toNat).lv (gR l n.hi.toNat).lv)
def rF:Rn:=⟨20,0,0⟩
def rT:Rn:=⟨20,1,1⟩
def okR (l:List Rn)(i:Nat):Bool:=plR l i (gR l i) && !((l.take i).contains (gR l i))
def enR (l:List Rn):Bool:=decide (2<=l.length)&&decide (l.length<=8192)&&decide (gR l 0=rF)&&decide (gR l 1=rT)
def vdR (l:List Rn):Bool:=enR l&&(List.range l.length).all fun i=>decide (i<2)||okR l i
theorem AGM {l:List Rn}(he:enR l=true)(h:∀i,i<l.length->2<=i->okR l i=true):vdR l=true:=by
 unfold vdR;rw[he,qF,zQ];intro i hi;rw[List.mem_range] at hi;by_cases h2:i<2
 .rw[decide_eq_true h2]; rfl
 .rw[h i hi (by omega)]; simp
theorem AGL {l:List Rn}{i:Nat}(hi:i<l.length)(h2:2<=i)(h:okR l i=false):vdR l=false:=by
 cases hv:vdR l with
 | false=>rfl
 | true =>
   unfold vdR at hv;rw[zB,zQ] at hv;have:=hv.2 i (List.mem_range.2 hi);rw[decide_eq_false (show ¬i<2 by omega),h] at this; cases this
theorem AM0 {l:List Rn}(h:enR l=false):vdR l=false:=by unfold vdR; rw[h]; rfl
def Rn.nd (r:Rn):Nd:=⟨r.lv.toNat,r.lo.toNat,r.hi.toNat⟩
theorem AXR {l:List Rn}(h:vdR l=true):∃d:Dg,VD d∧l=d.map Nd.raw:=by
 unfold vdR at h;rw[zB,zQ] at h;obtain⟨he,h⟩:=h;unfold enR at he;simp only[zB,decide_eq_true_eq] at he;obtain⟨⟨⟨h1,h2⟩,h3⟩,h4⟩:=he
 have ok:∀i,i<l.length->2<=i->okR l i=true:=fun i hi hi2=>by
  have:=h i (List.mem_range.2 hi);rw[decide_eq_false (show ¬i<2 by omega)] at this;simpa using this
 have pos:∀i (hi:i<l.length),0<=l[i].lv∧0<=l[i].lo∧0<=l[i].hi:=fun i hi=>by
  rcases i with _|_|i
  .rw[MP hi] at h3; rw[h3]; decide
  .rw[MP hi] at h4; rw[h4]; decide
  .have:=ok _ hi (by omega)
   unfold okR plR ADK at this;rw[MP hi] at this;simp only[zB,decide_eq_true_eq] at this;omega
 have back:∀i (hi:i<l.length),(l[i].nd).raw=l[i]:=fun i hi=>by
  obtain⟨a,b,c⟩:=pos i hi;unfold Rn.nd Nd.raw
  cases hx:l[i] with
  | mk x y z =>
    rw[hx] at a b c;simp only at a b c;simp only[Rn.mk.injEq];omega
 have el:l=(l.map Rn.nd).map Nd.raw:=by
  rw[List.map_map];apply List.ext_getElem
  .simp
  .intro i hi hi2
   rw[List.getElem_map];exact(back i hi).symm
 have get:∀i (n:Nd),(l.map Rn.nd)[i]?=some n->∃hi:i<l.length,n=l[i].nd:=fun i n hn=>by
  rw[zL] at hn
  cases hq:l[i]? with
  | none=>rw[hq] at hn; cases hn
  | some r =>
    rw[hq] at hn; cases hn;have hi:=QZ hq;rw[jX hi] at hq;cases hq;exact⟨hi,rfl⟩
 refine⟨l.map Rn.nd,⟨?_,?_,by simpa using h2,fun i n hn hi2=>?_,fun i j n hn hm=>?_⟩,el⟩
 .rw[zL,jX (show 0<l.length by omega)]
  rw[MP (show 0<l.length by omega)] at h3;rw[h3]; rfl
 .rw[zL,jX (show 1<l.length by omega)]
  rw[MP (show 1<l.length by omega)] at h4;rw[h4]; rfl
 .obtain⟨hi,rfl⟩:=get i n hn
  have:=ok i hi hi2;unfold okR plR ADK at this;rw[MP hi] at this;simp only[zB,decide_eq_true_eq,bne_iff_ne] at this;obtain⟨⟨⟨hr,hne⟩,hmin⟩,_⟩:=this;have a1:l[i].lo.toNat<l.length:=by omega
  have a2:l[i].hi.toNat<l.length:=by omega
  have lvs:∀f (hf:f<l.length),(nth (l.map Rn.nd) f).lv=l[f].lv.toNat:=fun f hf=>by
   have:(l.map Rn.nd)[f]?=some l[f].nd:=by rw[zL,jX hf]; rfl
   rw[UG this]; rfl
  rw[MP a1,MP a2] at hmin;have p1:=(pos _ a1).1;have p2:=(pos _ a2).1;show l[i].lv.toNat<20∧l[i].lo.toNat<i∧l[i].hi.toNat<i∧l[i].lo.toNat≠l[i].hi.toNat∧l[i].lv.toNat<(nth (l.map Rn.nd) l[i].lo.toNat).lv∧l[i].lv.toNat<(nth (l.map Rn.nd) l[i].hi.toNat).lv;rw[lvs _ a1,lvs _ a2];omega
 .obtain⟨hi,rfl⟩:=get i n hn
  obtain⟨hj,e⟩:=get j _ hm;have e:l[i]=l[j]:=by rw[<-back i hi,<-back j hj,e]
  have no:∀i j (hi:i<l.length) (hj:j<l.length),l[i]=l[j]->i<j->False:=fun i j hi hj e hij=>by
   by_cases h2:2<=j
   .have:=ok j hj h2
    unfold okR at this;rw[MP hj,zB,Bool.not_eq_true'] at this;have hc:=this.2;rw[List.contains_eq_mem,decide_eq_false_iff_not] at hc;refine hc ?_;rw[<-e,List.mem_take_iff_getElem];exact⟨i,by omega,rfl⟩
   .obtain rfl:i=0:=by omega
    obtain rfl:j=1:=by omega
    rw[MP hi] at h3;rw[MP hj] at h4;rw[h3,h4] at e;cases e
  rcases Nat.lt_trichotomy i j with q|q|q
  .exact(no i j hi hj e q).elim
  .exact q
  .exact(no j i hj hi e.symm q).elim
theorem AQT {d:Dg}(v:VD d):vdR (d.map Nd.raw)=true:=by
 have g:∀i,i<d.length->gR (d.map Nd.raw) i=(nth d i).raw:=fun i hi=>by
  unfold gR;rw[zL,QN hi]; rfl
 refine AGM ?_ fun i hi h2=>?_
 .unfold enR
  rw[jR,g 0 v.p0,g 1 v.p1,v.n0,v.n1,decide_eq_true v.two,decide_eq_true v.mx]; rfl
 .rw[jR] at hi
  obtain⟨a1,a2,a3,a4,a5,a6⟩:=v.at h2 hi;unfold okR plR ADK;rw[g i hi];have e1:((nth d i).raw.lo).toNat=(nth d i).lo:=by unfold Nd.raw; simp
  have e2:((nth d i).raw.hi).toNat=(nth d i).hi:=by unfold Nd.raw; simp
  rw[e1,e2,g _ (by omega),g _ (by omega)];simp only[zB,decide_eq_true_eq,bne_iff_ne,Bool.not_eq_true',List.contains_eq_mem,decide_eq_false_iff_not];refine⟨⟨⟨?_,?_⟩,?_⟩,?_⟩
  .unfold Nd.raw; simp only; omega
  .unfold Nd.raw; simp only; omega
  .unfold Nd.raw; simp only; omega
  .intro hm
   rw[List.mem_take_iff_getElem] at hm;obtain⟨j,hj,e⟩:=hm;rw[jR] at hj;rw[List.getElem_map] at e;have e:=ANG e;have:d[j]?=some (nth d i):=by rw[jX (by omega),e]
   have:=v.nd j i _ this (QN hi);omega
theorem al61 (h:Hp):J6 Tryz.prog h 61=some (.ptr h.length 0 0,h++[.live 3 [i3 0 0 0]]):=JU (row:=i3 0 0 0) (by kernel_rfl)
theorem st61 (h:Hp)(a b c:Int):FO Tryz.prog (h++[.live 3 [i3 0 0 0]]) 61 (.ptr h.length 0 0) (.agg (i3 a b c))=some (h++[.live 3 [i3 a b c]]):=by
 rw[AAH (cs:=i3 a b c) rfl P7 (by exact jP 3)]; rfl
theorem ldi {h:Hp}{b:Nat}{a c d:Int}(hb:h[b]?=some (.live 3 [i3 a c d])):DF Tryz.prog h 3 (.ptr b 0 0)=some (.int .i64 a)∧DF Tryz.prog h 3 (.ptr b 0 1)=some (.int .i64 c)∧DF Tryz.prog h 3 (.ptr b 0 2)=some (.int .i64 d):=by
 refine⟨?_,?_,?_⟩<;>rw[DJ ag3 hb (row:=i3 a c d) rfl]<;>rfl
theorem VJ {h:Hp}{b:Nat}{a c d:Int}(hb:h[b]?=some (.live 3 [i3 a c d])):DF Tryz.prog h 61 (.ptr b 0 0)=some (.agg (i3 a c d)):=by
 rw[GV VW P7 hb (row:=i3 a c d) rfl (jP 3)]; rfl
theorem AV2 {l:List Rn}{h:Hp}{k:Nat}(hk:k<l.length):DF Tryz.prog h 3 (.fptr 3 (l.map ER) k 0)=some (.int .i64 l[k].lv):=by rw[FX ag3 hk]; rfl
theorem AL1 (r:Rn):ER r=i3 r.lv r.lo r.hi:=rfl
section
variable (G:Nat->AV)
theorem AI2 (l:List Rn)(m:SM)(i:Nat)(hi:i<l.length)(h:Hp):PCall (En G) 132 [.sl m 3 (l.map ER),.int .i64 (i:Nat)] h (.bool (plR l i l[i])):=by
 refine ACalls.pure0 rfl ?_;refine acN Tryz.func132 rfl ?_;show awp _ _ _ _ _ (EK _ [.tmp 4] _);have l0:=fun a b c=>ldi (h:=h++[.live 3 [i3 a b c]]) (CU _ _)
 simp -implicitDefEqProofs only[vQ,CV,BD,↓reduceIte,jA,enP,SA,OG,jO,EZ hi,GM VW P7 KH hi,al61,AL1,st61,l0 _ _ _];generalize hn:l[i]=n;refine RU (fun F H=>F 6=.bool (ADK i n)∧F 0=.sl m 3 (l.map ER)∧F 5=.ptr h.length 0 0∧H=h++[.live 3 [i3 n.lv n.lo n.hi]]) ?_ ?_
 .unfold ADK
  cases b1:decide (n.lv≥0)
  .simp -implicitDefEqProofs only[vQ,CV,BD,EY,↓reduceIte,jA,b1]; exact⟨rfl,trivial,trivial,trivial⟩
  simp -implicitDefEqProofs only[vQ,CV,BD,↓reduceIte,jA,enP,OG,b1,(l0 _ _ _).1];cases b2:decide (n.lv<20)
  .simp -implicitDefEqProofs only[vQ,CV,BD,EY,↓reduceIte,jA,b2]; exact⟨rfl,trivial,trivial,trivial⟩
  simp -implicitDefEqProofs only[vQ,CV,BD,↓reduceIte,jA,enP,QK,b2,(l0 _ _ _).2.1];cases b3:decide (n.lo≥0)
  .simp -implicitDefEqProofs only[vQ,CV,BD,EY,↓reduceIte,jA,b3]; exact⟨rfl,trivial,trivial,trivial⟩
  simp -implicitDefEqProofs only[vQ,CV,BD,↓reduceIte,jA,enP,QK,b3,(l0 _ _ _).2.1];cases b4:decide (n.lo<(i:Nat))
  .simp -implicitDefEqProofs only[vQ,CV,BD,EY,↓reduceIte,jA,b4]; exact⟨rfl,trivial,trivial,trivial⟩
  simp -implicitDefEqProofs only[vQ,CV,BD,↓reduceIte,jA,enP,QJ,b4,(l0 _ _ _).2.2];cases b5:decide (n.hi≥0)
  .simp -implicitDefEqProofs only[vQ,CV,BD,EY,↓reduceIte,jA,b5]; exact⟨rfl,trivial,trivial,trivial⟩
  simp -implicitDefEqProofs only[vQ,CV,BD,↓reduceIte,jA,enP,QJ,b5,(l0 _ _ _).2.2];exact⟨rfl,trivial,trivial,trivial⟩
 .rintro F H ⟨f6,f0,f5,rfl⟩
  simp -implicitDefEqProofs only[vQ];refine GL (by kernel_rfl) ?_;unfold plR;cases b0:ADK i n
  .rw[b0] at f6
   simp -implicitDefEqProofs only[vQ,U6,CV,EY,↓reduceIte,jA,jM,f6,f0,f5];exact⟨rfl,_,rfl⟩
  rw[b0] at f6;simp -implicitDefEqProofs only[vQ,QM,CV,↓reduceIte,jA,jM,enP,QK,QJ,f6,f0,f5,(l0 _ _ _).1,(l0 _ _ _).2.1,(l0 _ _ _).2.2];cases b1:n.lo != n.hi
  .simp -implicitDefEqProofs only[vQ,U6,CV,EY,↓reduceIte,jA,jM,b1]
   exact⟨rfl,_,rfl⟩
  have hr:ADK i n=true:=b0;unfold ADK at hr;simp only[zB,decide_eq_true_eq] at hr;have a1:n.lo.toNat<l.length:=by omega
  have a2:n.hi.toNat<l.length:=by omega
  simp -implicitDefEqProofs only[vQ,QM,JJ,CV,AXQ,AR3,↓reduceIte,jA,jM,enP,SA,OG,QK,QJ,b1,f0,f5,(l0 _ _ _).1,(l0 _ _ _).2.1,(l0 _ _ _).2.2,ANZ (xs:=l.map ER) (show 0<=n.lo by omega) (by rw[jR]; omega),ANZ (xs:=l.map ER) (show 0<=n.hi by omega) (by rw[jR]; omega),AV2 a1,AV2 a2];rw[MP a1,MP a2];exact⟨by simp,_,rfl⟩
end
theorem A2H (a b c a' b' c':Int):JD Tryz.prog 61 .eql (.agg (i3 a b c)) (.agg (i3 a' b' c'))=some (.bool ((a==a')&&((b==b')&&((c==c')&&true)))):=by kernel_rfl
theorem AX0 (a b c a' b' c':Int):JD Tryz.prog 61 .neq (.agg (i3 a b c)) (.agg (i3 a' b' c'))=some (.bool (!((a==a')&&((b==b')&&((c==c')&&true))))):=by kernel_rfl
theorem A2G (x y:Rn):((x.lv==y.lv)&&((x.lo==y.lo)&&((x.hi==y.hi)&&true)))=decide (x=y):=by
 obtain⟨a,b,c⟩:=x;obtain⟨d,e,f⟩:=y;rw[Bool.eq_iff_iff];simp
theorem A48 (x y:Rn):JD Tryz.prog 61 .eql (.agg (ER x)) (.agg (ER y))=some (.bool (decide (x=y))):=by rw[<-A2G]; exact A2H _ _ _ _ _ _
theorem AVU (x y:Rn):JD Tryz.prog 61 .neq (.agg (ER x)) (.agg (ER y))=some (.bool (!decide (x=y))):=by rw[<-A2G]; exact AX0 _ _ _ _ _ _
def snE (xs:List Rn):List (Rn×AV):=xs.map fun r=>(r,.bool true)
theorem AS1 (x:Rn):∀xs:List Rn,(fk x (snE xs)).isSome=xs.contains x
 | []=>rfl
 | y::r=>by
   have ih:=AS1 x r;simp only[snE,jF,fk,List.contains_cons] at ih|-;by_cases h:x=y
   .rw[if_pos h,h]; simp
   .rw[if_neg h,show(x==y)=false by simpa using h,Bool.false_or,<-ih]
    cases fk x (r.map fun r=>(r,AV.bool true))<;>rfl
theorem AVZ {h:Hp}{b:Nat}{xs:List Rn}(hb:h[b]?=some (.map ((snE xs).map fun e=>(ecR e.1,e.2))))(x:Rn):JZ Tryz.prog h 161 (.mp b) (ecR x) false=some (.bool (xs.contains x)):=by
 rw[AGZ AXU A13 ktR zr4 hb x false,<-AS1]
 cases hx:fk x (snE xs) with
 | none=>rfl
 | some i =>
   obtain⟨v,hv⟩:=ACH hx
   have:v=.bool true:=by
    unfold snE at hv;rw[zL] at hv
    cases hq:xs[i]? with
    | none=>rw[hq] at hv; cases hv
    | some r=>rw[hq] at hv; cases hv; rfl
   rw[this] at hv;simp [hv]
theorem A0T {h:Hp}{b:Nat}{xs:List Rn}(hb:h[b]?=some (.map ((snE xs).map fun e=>(ecR e.1,e.2)))){x:Rn}(hx:xs.contains x=false) :
  J5 Tryz.prog h 161 (.mp b) (ecR x) (.bool true)=some (h.set b (.map ((snE (xs++[x])).map fun e=>(ecR e.1,e.2)))):=by
 rw[Y2 AXU A13 ktR hb x]
 have:fk x (snE xs)=none:=by
  have:=AS1 x xs;rw[hx] at this
  cases hq:fk x (snE xs) with
  | none=>rfl
  | some i=>rw[hq] at this; cases this
 unfold upK;rw[this];simp [snE]
theorem A3K (a:Int):KD Tryz.prog 61 [(0,.int .i64 a)]=some (.agg (i3 a 0 0)):=by kernel_rfl
theorem AOL (a b c:Int):KD Tryz.prog 61 [(0,.int .i64 a),(1,.int .i64 b),(2,.int .i64 c)]=some (.agg (i3 a b c)):=by kernel_rfl
theorem A26 (h:Hp)(a b c d e f:Int):GG Tryz.prog false h 33 2 [(0,.agg (i3 a b c)),(1,.agg (i3 d e f))]=some (.sl .full 3 [i3 a b c,i3 d e f],h):=by kernel_rfl
theorem A3M (m:SM)(xs:List (List AV)):KD Tryz.prog 35 [(0,.sl m 3 xs)]=some (.agg [.sl m 3 xs]):=by kernel_rfl
theorem AYH (b n:Nat):KD Tryz.prog 35 [(0,.own b 0 n)]=some (.agg [.own b 0 n]):=by kernel_rfl
theorem VV:KD Tryz.prog 35 []=some (.agg [.sl .nil 0 []]):=by kernel_rfl
theorem TB (h:Hp):J6 Tryz.prog h 35=some (.ptr h.length 0 0,h++[.live 1 [[.sl .nil 0 []]]]):=JU (row:=[.sl .nil 0 []]) (by kernel_rfl)
theorem AIM {h:Hp}{b:Nat}{x v:AV}(hb:h[b]?=some (.live 1 [[x]]))(hv:v.leaf=true):FO Tryz.prog h 35 (.ptr b 0 0) (.agg [v])=some (h.set b (.live 1 [[v]])):=by
 rw[G7 (cs:=[v]) (TC (by simp [hv])) AO1 hb rfl (by simp)]; rfl
theorem LZ {h:Hp}{b:Nat}{x:AV}(hb:h[b]?=some (.live 1 [[x]]))(m:SM)(k:Nat)(xs:List (List AV)):FO Tryz.prog h 35 (.ptr b 0 0) (.agg [.sl m k xs])=some (h.set b (.live 1 [[.sl m k xs]])):=AIM hb rfl
theorem ANA {h:Hp}{b:Nat}{x:AV}(hb:h[b]?=some (.live 1 [[x]]))(c n:Nat):FO Tryz.prog h 35 (.ptr b 0 0) (.agg [.own c 0 n])=some (h.set b (.live 1 [[.own c 0 n]])):=AIM hb rfl
theorem JK {h:Hp}{b:Nat}{x:AV}(hb:h[b]?=some (.live 1 [[x]])):DF Tryz.prog h 35 (.ptr b 0 0)=some (.agg [x]):=by
 rw[GV AXH AO1 hb (row:=[x]) rfl (jP 1)]; rfl
theorem AJB {h:Hp}{b:Nat}{x:AV}(hb:h[b]?=some (.live 1 [[x]])):DF Tryz.prog h 33 (.ptr b 0 0)=some x:=by
 rw[DJ AE5 hb (row:=[x]) rfl]; rfl
theorem UO (h:Hp)(m:SM)(xs:List (List AV)):MG h (.agg [.sl m 3 xs])=some (.ptr h.length 0 0,h++[.live 1 [[.sl m 3 xs]]]):=rfl
section
variable (G:Nat->AV)
theorem AL0 (xs ys:List Rn)(m m':SM)(hl:xs.length<=1048576)(_:ys.length<=1048576)(h:Hp):PCall (En G) 181 [.sl m 3 (xs.map ER),.sl m' 3 (ys.map ER)] h (.bool (decide (xs=ys))):=by
 refine ACalls.pure0 rfl ?_;refine acN Tryz.func181 rfl ?_;show awp _ _ _ _ _ (EK _ [.tmp 4] _);simp -implicitDefEqProofs only[vQ,BD,↓reduceIte,jA,enP,SX,jR,bne];cases b1:((xs.length:Nat):Int)==((ys.length:Nat):Int)
 .simp -implicitDefEqProofs only[vQ,BD,↓reduceIte]
  exact⟨by rw[decide_eq_false]; intro e; rw[e] at b1; simp at b1,[],by simp⟩
 have hlen:xs.length=ys.length:=by have:=b1; simp at this; omega
 simp -implicitDefEqProofs only[vQ,BD,↓reduceIte,jA,jZ,enP,SX,jR];refine D7 (fun n F H=>∃i,n+i=xs.length∧decide (xs=ys)=decide (xs.drop i=ys.drop i)∧F 0=.sl m 3 (xs.map ER)∧F 1=.sl m' 3 (ys.map ER)∧F 12=.int .i64 (xs.length:Nat)∧F 13=.int .i64 (i:Nat)∧H=h) xs.length ⟨0,by simp,by simp,by simp -implicitDefEqProofs only[vQ,↓reduceIte,jA],by simp -implicitDefEqProofs only[vQ,↓reduceIte,jA],by simp -implicitDefEqProofs only[AA,↓reduceIte,jA],by simp -implicitDefEqProofs only[AA,↓reduceIte]; rfl,rfl⟩ ?_;rintro n F H ⟨i,hi,he,f0,f1,f12,f13,rfl⟩;simp -implicitDefEqProofs only[vQ,BD,↓reduceIte,enP,f12,f13];refine C9 (fun hc=>?_) (fun hc=>?_)
 .have hx:i<xs.length:=by simpa using hc
  have hy:i<ys.length:=by omega
  rw[AWQ hx hy] at he;simp -implicitDefEqProofs only[vQ,BD,↓reduceIte,jA,f0,f1,f13];refine GL (by kernel_rfl) ?_;simp -implicitDefEqProofs only[vQ,↓reduceIte,jA,jM,enP,SA,f0,f1,f13,EZ hx,EZ hy,GM VW P7 KH hx,GM VW P7 KH hy,AVU];cases b2:decide (xs[i]=ys[i])
  .simp -implicitDefEqProofs only[vQ,BD,↓reduceIte]
   rw[b2,Bool.false_and] at he;exact⟨by rw[he],[],by simp⟩
  .simp -implicitDefEqProofs only[vQ,BD,↓reduceIte,jA,jZ,enP,f13,wrap_succ (show i<9223372036854775807 by omega)]
   rw[b2,qF] at he;exact⟨n-1,by omega,i+1,by omega,he,by trivial,by trivial,by trivial,by trivial,by trivial⟩
 .have hx:¬i<xs.length:=by simpa using hc
  simp -implicitDefEqProofs only[vQ,BD,↓reduceIte];rw[zF (show xs.length<=i by omega),zF (show ys.length<=i by omega)] at he;exact⟨by rw[he]; rfl,[],by simp⟩
theorem AI7 (h:Hp):PCall (En G) 23 [] h (.agg [.sl .full 3 [ER rF,ER rT]]):=by
 refine ACalls.pure 2 (R:=fun v H=>v=.agg [.sl .full 3 [ER rF,ER rT]]∧ext h H) ?_ ?_
 .refine acN Tryz.func23 rfl ?_
  show awp _ _ _ _ _ (EK _ [.cell 0 35] _);simp -implicitDefEqProofs only[vQ,BD,↓reduceIte,jA,enP,jO,TB,A3K,AOL,A26,A3M,LZ (CU h _),JP];rw[I8 _ _ _ _ _ _ _ _ _ (show _=AV.ptr h.length 0 0 by simp -implicitDefEqProofs only[AA,↓reduceIte,jA]),JK (CU _ _)];exact⟨_,rfl,rfl,(ext.rfl' h).app _⟩
 .rintro v H ⟨rfl,he⟩
  exact⟨he,rfl⟩
end
theorem take2 {l:List Rn}(h:2<=l.length):decide (l.take 2=[rF,rT])=(decide (gR l 0=rF)&&decide (gR l 1=rT)):=by
 match l,h with
 | a::b::r,_ =>
   have e0:gR (a::b::r) 0=a:=rfl;have e1:gR (a::b::r) 1=b:=rfl;rw[e0,e1];simp
theorem AM8 {l:List Rn}{i:Nat}(hi:i<l.length):l.take (i+1)=l.take i++[l[i]]:=List.take_succ_eq_append_getElem hi
section
variable (G:Nat->AV)
theorem AP0 (l:List Rn)(m:SM)(hl:l.length<=1048576)(h:Hp):PCall (En G) 131 [.sl m 3 (l.map ER)] h (.bool (enR l)):=by
 refine ACalls.pure0 rfl ?_;refine acN Tryz.func131 rfl ?_;show awp _ _ _ _ _ (EK _ [.tmp 2] _);simp -implicitDefEqProofs only[vQ,BD,enP];refine GL (by kernel_rfl) ?_;unfold enR;have e1:decide (((l.length:Nat):Int)≥2)=decide (2<=l.length):=by rw[decide_eq_decide]; omega
 have e2:decide (((l.length:Nat):Int)<=8192)=decide (l.length<=8192):=by rw[decide_eq_decide]; omega
 simp -implicitDefEqProofs only[vQ,JJ,CV,↓reduceIte,jA,jM,enP,SX,jR,e1,e2];cases b1:decide (2<=l.length)
 .simp -implicitDefEqProofs only[vQ,U6,CV,EY,↓reduceIte,jA,jM]
  exact⟨rfl,[],by simp⟩
 simp -implicitDefEqProofs only[vQ,QM,JJ,CV,NM,↓reduceIte,jA,jM,enP,SX,jR,e1,e2];cases b2:decide (l.length<=8192)
 .simp -implicitDefEqProofs only[vQ,U6,CV,EY,↓reduceIte,jA,jM]
  exact⟨rfl,[],by simp⟩
 have h2:2<=l.length:=by simpa using b1
 have hs:MK Tryz.prog h 33 (.sl m 3 (l.map ER)) none (some (.int .i64 2)) none=some (.sl (AP5 m 2 l.length) 3 ((l.take 2).map ER)):=by
  have:=ANB (P:=Tryz.prog) (t:=33) (h:=h) (m:=m) (kk:=.i64) (u:=2) AOX P7 (xs:=l.map ER) (by rw[jR]; exact h2);rw[jR,<-List.map_take] at this;exact this
 simp -implicitDefEqProofs only[vQ,qU,qZ,QM,VZ,AUO,CV,OV,AMX,↓reduceIte,jA,jM,enP,qU,qZ,hs];refine⟨_,AI7 G h,?_⟩;have hf:ABF Tryz.prog 35 (.agg [.sl .full 3 [ER rF,ER rT]]) 0=some (.sl .full 3 ([rF,rT].map ER)):=by kernel_rfl
 simp -implicitDefEqProofs only[vQ,QM,CV,↓reduceIte,jA,jM,hf];refine⟨_,AL0 G (l.take 2) [rF,rT] _ _ (by simp; omega) (by simp) h,?_⟩;exact⟨by rw[take2 h2,qF,qF],[],by simp⟩
theorem YM (l:List Rn)(m:SM)(hl:l.length<=1048576)(h:Hp):PCall (En G) 69 [.agg [.sl m 3 (l.map ER)]] h (.bool (vdR l)):=by
 refine ACalls.pure0 rfl ?_;refine acN Tryz.func69 rfl ?_;show awp _ _ _ _ _ (EK _ [.tmp 2] _);have gb:=CU h (ABlk.live 1 [[.sl m 3 (l.map ER)]]);simp -implicitDefEqProofs only[vQ,BD,↓reduceIte,jA,enP,NR,UO,AJB gb];refine(AP0 G l m hl _).use ?_;simp -implicitDefEqProofs only[vQ,BD,↓reduceIte];cases b1:enR l
 .simp -implicitDefEqProofs only[vQ,BD,↓reduceIte]
  exact⟨by rw[AM0 b1],_,rfl⟩
 simp -implicitDefEqProofs only[vQ,BD,V3,↓reduceIte,jA,jZ,enP,NR];have he:=b1;unfold enR at he;simp only[zB,decide_eq_true_eq] at he;obtain⟨⟨⟨h1,h2⟩,h3⟩,h4⟩:=he;generalize hb0:h++[ABlk.live 1 [[.sl m 3 (l.map ER)]]]=hb at gb|-;have hbl:hb.length=h.length+1:=by rw[<-hb0]; simp
 have gb1:∀x:ABlk,(hb++[x])[h.length]?=some (ABlk.live 1 [[.sl m 3 (l.map ER)]]):=fun x=>BO gb
 simp -implicitDefEqProofs only[vQ,BD,↓reduceIte,enP,SX,AJB (gb1 _),jR]
 refine D7 (fun n F H=>∃i,n+i=l.length∧(∀j,j<i->2<=j->okR l j=true)∧F 1=.ptr h.length 0 0∧F 3=.mp hb.length∧F 12=.sl m 3 (l.map ER)∧F 13=.int .i64 (l.length:Nat)∧F 14=.int .i64 (i:Nat)∧ext h H∧H[h.length]?=some (ABlk.live 1 [[.sl m 3 (l.map ER)]])∧H[hb.length]?=some (.map ((snE (l.take i)).map fun e=>(ecR e.1,e.2)))) l.length
  ⟨0,by simp,fun j hj=>absurd hj (Nat.not_lt_zero j),by simp -implicitDefEqProofs only[AA,↓reduceIte,jA],by simp -implicitDefEqProofs only[AA,↓reduceIte,jA],by simp -implicitDefEqProofs only[AA,↓reduceIte,jA],by simp -implicitDefEqProofs only[AA,↓reduceIte,jA],by simp -implicitDefEqProofs only[AA,↓reduceIte]; rfl,⟨[ABlk.live 1 [[.sl m 3 (l.map ER)]],.map []],by rw[<-hb0]; simp⟩,gb1 _,by rw[CU]; rfl⟩ ?_
 rintro n F H ⟨i,hi,hok,f1,f3,f12,f13,f14,hx,gB,gM⟩;simp -implicitDefEqProofs only[vQ,BD,↓reduceIte,enP,f13,f14];refine C9 (fun hc=>?_) (fun hc=>?_)
 .have hi':i<l.length:=by simpa using hc
  have gN:∀a b c:Int,(H++[.live 3 [i3 a b c]])[H.length]?=some (ABlk.live 3 [i3 a b c]):=fun a b c=>CU _ _
  have gB':∀x:ABlk,(H++[x])[h.length]?=_:=fun x=>BO gB
  have gM':∀x:ABlk,(H++[x])[hb.length]?=_:=fun x=>BO gM
  have e2:decide ((i:Int)≥2)=decide (2<=i):=by rw[decide_eq_decide]; omega
  simp -implicitDefEqProofs only[vQ,CV,BD,↓reduceIte,jA,enP,SA,jO,f12,f14,EZ hi',GM VW P7 KH hi',al61,AL1,st61,e2]
  have go:okR l i=true∨i<2->∃H',J5 Tryz.prog (H++[.live 3 [i3 l[i].lv l[i].lo l[i].hi]]) 161 (.mp hb.length) (.agg (i3 l[i].lv l[i].lo l[i].hi)) (.bool true)=some H'∧ext h H'∧H'[h.length]?=some (ABlk.live 1 [[.sl m 3 (l.map ER)]])∧H'[hb.length]?=some (.map ((snE (l.take (i+1))).map fun e=>(ecR e.1,e.2))):=by
   intro hor
   have hn:(l.take i).contains l[i]=false:=by
    rcases hor with ho|ho
    .unfold okR at ho
     rw[MP hi',zB,Bool.not_eq_true'] at ho;exact ho.2
    .rcases i with _|_|i
     .rfl
     .rw[MP (show 0<l.length by omega)] at h3
      rw[MP (show 1<l.length by omega)] at h4;rw[AM8 (show 0<l.length by omega)];simp only[h3,h4];show([]++[rF]).contains rT=false;decide
     .omega
   have hup:=A0T (h:=H++[.live 3 [i3 l[i].lv l[i].lo l[i].hi]]) (gM' _) hn;rw[<-AM8 hi'] at hup;refine⟨_,hup,(hx.app _).set (by omega) _,?_,DX (gM' _)⟩;rw[List.getElem?_set_ne (by omega)];exact gB' _
  cases b2:decide (2<=i)
  .have hi2:i<2:=by
    rw[decide_eq_false_iff_not] at b2; omega
   obtain⟨H',hm,hx',gB2,gM2⟩:=go (.inr hi2);simp -implicitDefEqProofs only[vQ,CV,VA,BD,EY,OM,↓reduceIte,jA,enP,jO,f3,f14,VJ (gN _ _ _),hm,wrap_succ (show i<9223372036854775807 by omega)];refine⟨n-1,by omega,i+1,by omega,fun j hj hj2=>by omega,by trivial,by trivial,by trivial,by trivial,by trivial,hx',gB2,gM2⟩
  have hi2:2<=i:=by simpa using b2
  simp -implicitDefEqProofs only[vQ,CV,BD,↓reduceIte,jA,enP,NR,f1,f3,AJB (gB' _)];refine(AI2 G l m i hi' _).use ?_;simp -implicitDefEqProofs only[vQ,CV,BD,↓reduceIte,jA];cases b3:plR l i l[i]
  .simp -implicitDefEqProofs only[vQ,CV,BD,EY,↓reduceIte,jA]
   refine⟨by rw[AGL hi' hi2]; unfold okR; rw[MP hi',b3]; rfl,?_⟩;exact hx.app _
  simp -implicitDefEqProofs only[vQ,CV,BD,TD,↓reduceIte,jA,jZ,enP,f3,VJ (gN _ _ _),show JZ Tryz.prog (H++[.live 3 [i3 l[i].lv l[i].lo l[i].hi]]) 161 (.mp hb.length) (.agg (i3 l[i].lv l[i].lo l[i].hi)) false=some (.bool ((l.take i).contains l[i])) from AVZ (gM' _) l[i]];cases b4:(l.take i).contains l[i]
  .have hoki:okR l i=true:=by unfold okR; rw[MP hi',b3,b4]; rfl
   obtain⟨H',hm,hx',gB2,gM2⟩:=go (.inl hoki);simp -implicitDefEqProofs only[vQ,BD,OM,↓reduceIte,jA,enP,jO,f3,f14,VJ (gN _ _ _),hm,wrap_succ (show i<9223372036854775807 by omega)];refine⟨n-1,by omega,i+1,by omega,fun j hj hj2=>?_,by trivial,by trivial,by trivial,by trivial,by trivial,hx',gB2,gM2⟩;rcases Nat.lt_or_ge j i with q|q
   .exact hok j q hj2
   .obtain rfl:j=i:=by omega
    exact hoki
  .simp -implicitDefEqProofs only[vQ,BD,↓reduceIte]
   refine⟨by rw[AGL hi' hi2]; unfold okR; rw[MP hi',b4]; simp,?_⟩;exact hx.app _
 .have hi':¬i<l.length:=by simpa using hc
  simp -implicitDefEqProofs only[vQ,BD,↓reduceIte];exact⟨by rw[AGM b1 fun j hj hj2=>hok j (by omega) hj2],hx⟩
end
end Go.Proofs.YtgnoolgeijmlaaaGreatDoor.Bl
set_option linter.unusedSimpArgs false
set_option maxRecDepth 8000
namespace Go.Proofs.YtgnoolgeijmlaaaGreatDoor.Bl
open Sm Bins Cov Xe Wd Go.Proofs.YtgnoolgeijmlaaaGreatDoor.Bd Go.RowKit
open Bool renaming not_false→jC,not_true→jZ,true_and→qF,eq_iff_iff→qH,false_eq_true→jQ,or_false→jV
open List renaming map_cons→jF,map_nil→jE,append_nil→jD,length_map→jR,getElem?_set_ne→jS,length_set→zY,contains_cons→jW,contains_nil→jI,getElem?_cons_zero→jT,getElem?_cons_succ→jU,take_of_length_le→zH,length_append→zT,length_take→zX
open Nat renaming le_of_ble_eq_true→jH,reduceEqDiff→jA,add_zero→jL,reduceAdd→jM,lt_or_ge→jY,zero_add→jG,le_refl→jP,reduceBEq→jK
open Option renaming getD_some→jB,getD_none→jO,map_some→qU,map_none→qZ
def AWC (l:List Rn)(fs:List Int):Bool:=fs.all fun f=>decide (0<=f)&&decide (f<l.length)
theorem all_drop {α:Type}(p:α->Bool){xs:List α}{k:Nat}(h:k<xs.length):(xs.drop k).all p=(p xs[k]&&(xs.drop (k+1)).all p):=by
 rw[List.drop_eq_getElem_cons h,List.all_cons]
section
variable (G:Nat->AV)
theorem ASO (l:List Rn)(m:SM)(hl:l.length<=1048576)(fs:List Int)(m':SM)(hf:fs.length<=1048576)(h:Hp):PCall (En G) 67 [.agg [.sl m 3 (l.map ER)],.sl m' 1 (fs.map qencI)] h (.bool (vdR l&&AWC l fs)):=by
 refine ACalls.pure0 rfl ?_;refine acN Tryz.func67 rfl ?_;show awp _ _ _ _ _ (EK _ [.tmp 4] _);have gb:=CU h (ABlk.live 1 [[.sl m 3 (l.map ER)]]);simp -implicitDefEqProofs only[vQ,BD,↓reduceIte,jA,enP,UO,JK gb];refine(YM G l m hl _).use ?_;simp -implicitDefEqProofs only[vQ,BD,↓reduceIte];cases b1:vdR l
 .simp -implicitDefEqProofs only[vQ,BD,↓reduceIte]
  exact⟨rfl,_,rfl⟩
 simp -implicitDefEqProofs only[vQ,BD,↓reduceIte,jA,jZ,enP,Y7,jR];refine D7 (fun n F H=>∃i,n+i=fs.length∧AWC l fs=(fs.drop i).all (fun f=>decide (0<=f)&&decide (f<l.length))∧F 2=.ptr h.length 0 0∧F 10=.sl m' 1 (fs.map qencI)∧F 11=.int .i64 (fs.length:Nat)∧F 12=.int .i64 (i:Nat)∧H=h++[ABlk.live 1 [[.sl m 3 (l.map ER)]]]) fs.length ⟨0,by simp,rfl,by simp -implicitDefEqProofs only[AA,↓reduceIte,jA],by simp -implicitDefEqProofs only[AA,↓reduceIte,jA],by simp -implicitDefEqProofs only[AA,↓reduceIte,jA],by simp -implicitDefEqProofs only[AA,↓reduceIte]; rfl,rfl⟩ ?_;rintro n F H ⟨i,hi,he,f2,f10,f11,f12,rfl⟩;simp -implicitDefEqProofs only[vQ,BD,↓reduceIte,enP,f11,f12];refine C9 (fun hc=>?_) (fun hc=>?_)
 .have hi':i<fs.length:=by simpa using hc
  rw[all_drop _ hi'] at he;have ld:DF Tryz.prog (h++[ABlk.live 1 [[.sl m 3 (l.map ER)]]]) 3 (.fptr 1 (fs.map qencI) i 0)=some (.int .i64 fs[i]):=by rw[FX ag3 hi']; rfl
  simp -implicitDefEqProofs only[vQ,CV,BD,↓reduceIte,jA,enP,KT,f10,f12,EZ hi',ld];cases b2:decide (fs[i]<0)
  .have p0:0<=fs[i]:=by simpa using b2
   rw[decide_eq_true p0,qF] at he;simp -implicitDefEqProofs only[vQ,CV,BD,↓reduceIte,jA,enP,SX,NR,f2,AJB gb,jR];have e3:decide (fs[i]≥((l.length:Nat):Int)) = !decide (fs[i]<(l.length:Nat)):=by rw[<-decide_not]; rw[decide_eq_decide]; omega
   simp -implicitDefEqProofs only[e3];cases b3:decide (fs[i]<((l.length:Nat):Int))
   .rw[b3,Bool.false_and] at he
    simp -implicitDefEqProofs only[vQ,BD,↓reduceIte];exact⟨by rw[he]; rfl,_,rfl⟩
   .rw[b3,qF] at he
    simp -implicitDefEqProofs only[vQ,BD,↓reduceIte,jA,jZ,enP,f12,wrap_succ (show i<9223372036854775807 by omega)];exact⟨n-1,by omega,i+1,by omega,he,by trivial,by trivial,by trivial,by trivial,by trivial⟩
  .have p0:¬0<=fs[i]:=by have:=b2; simp at this; omega
   rw[decide_eq_false p0,Bool.false_and,Bool.false_and] at he;simp -implicitDefEqProofs only[vQ,CV,BD,EY,↓reduceIte,jA];exact⟨by rw[he]; rfl,_,rfl⟩
 .have hi':¬i<fs.length:=by simpa using hc
  simp -implicitDefEqProofs only[vQ,BD,↓reduceIte];rw[List.drop_eq_nil_of_le (by omega)] at he;exact⟨by rw[he]; rfl,_,rfl⟩
theorem ALJ (n:Int)(h:Hp):PCall (En G) 222 [.int .i64 n] h (.bool (decide (n≥0)&&decide (n<20))):=by
 refine ACalls.pure0 rfl ?_;refine acN Tryz.func222 rfl ?_;show awp _ _ _ _ _ (EK _ [.tmp 2] _);simp -implicitDefEqProofs only[vQ,CV,BD,↓reduceIte,jA,enP];cases b1:decide (n≥0)
 .simp -implicitDefEqProofs only[vQ,CV,BD,EY,↓reduceIte,jA]
  exact⟨rfl,[],by simp⟩
 .simp -implicitDefEqProofs only[vQ,CV,BD,↓reduceIte,jA,enP]
  exact⟨by simp,[],by simp⟩
theorem find_ref (l:List Rn)(m:SM)(hl:l.length<=1048576)(x:Rn)(h:Hp):PCall (En G) 115 [.sl m 3 (l.map ER),.agg (ER x)] h (.int .i64 (MF (fun y=>decide (y=x)) l)):=by
 refine ACalls.pure0 rfl ?_;refine acN Tryz.func115 rfl ?_;show awp _ _ _ _ _ (EK _ [.tmp 4] _);have bx:MG h (.agg (ER x))=some (.ptr h.length 0 0,h++[.live 3 [ER x]]):=rfl;have gN:=CU h (ABlk.live 3 [ER x]);simp -implicitDefEqProofs only[vQ,BD,enP,bx];refine D7 (fun n F H=>∃i,n+i=l.length∧(∀(j:Nat) (hj:j<i) (hl:j<l.length),decide (l[j]=x)=false)∧F 0=.sl m 3 (l.map ER)∧F 3=.ptr h.length 0 0∧F 5=.int .i64 (i:Nat)∧H=h++[.live 3 [ER x]]) l.length ⟨0,by simp,fun j hj=>absurd hj (Nat.not_lt_zero j),by simp -implicitDefEqProofs only[vQ,↓reduceIte,jA],by simp -implicitDefEqProofs only[AA,↓reduceIte,jA],by simp -implicitDefEqProofs only[AA,↓reduceIte]; rfl,rfl⟩ ?_;rintro n F H ⟨i,hi,hb,f0,f3,f5,rfl⟩;simp -implicitDefEqProofs only[vQ,BD,↓reduceIte,jA,enP,SX,f0,f5,jR];refine C9 (fun hc=>?_) (fun hc=>?_)
 .have hi':i<l.length:=by simpa using hc
  simp -implicitDefEqProofs only[vQ];refine GL (by kernel_rfl) ?_;simp -implicitDefEqProofs only[vQ,↓reduceIte,jA,jM,enP,SA,f0,f3,f5,EZ hi',GM VW P7 KH hi',show DF Tryz.prog (h++[.live 3 [ER x]]) 61 (.ptr h.length 0 0)=some (.agg (ER x)) from VJ gN,A48];refine C9 (fun hq=>?_) (fun hq=>?_)
  .simp -implicitDefEqProofs only[vQ,BD,↓reduceIte,jA,f5]
   exact⟨by rw[QD _ l i hi' (fun j hj=>hb j hj (by omega)) hq],_,rfl⟩
  .simp -implicitDefEqProofs only[vQ,BD,↓reduceIte,jA,enP,f5,wrap_succ (show i<9223372036854775807 by omega)]
   refine⟨n-1,by omega,i+1,by omega,fun j hj hl=>?_,by trivial,by trivial,by trivial,by trivial⟩;rcases jY j i with q|q
   .exact hb j q hl
   .obtain rfl:j=i:=by omega
    exact hq
 .have hi':¬i<l.length:=by simpa using hc
  simp -implicitDefEqProofs only[vQ,BD,↓reduceIte];exact⟨by rw[PP _ l fun j hj=>hb j (by omega) hj],_,rfl⟩
end
theorem AV7 (x:Rn)(l:List Rn):decide (MF (fun y=>decide (y=x)) l<0) = !(l.contains x):=by
 have h:=Q7 (fun y=>decide (y=x)) l
 have e:(l.any fun y=>decide (y=x))=l.contains x:=by
  rw[qH,List.any_eq_true,List.contains_iff_mem];constructor
  .rintro⟨y,h1,h2⟩
   have:y=x:=by simpa using h2
   rw[<-this]; exact h1
  .intro hm
   exact⟨x,hm,by simp⟩
 rw[e] at h;rw[<-h,<-decide_not,decide_eq_decide];omega
theorem right_eq (i:Nat)(n:Rn)(p q:Int):(!(decide (n.lv<0)) && !(decide (n.lv≥20)) && !(decide (n.lo<0)) && !(decide (n.lo≥(i:Nat))) && !(decide (n.hi<0)) && !(decide (n.hi≥(i:Nat))) && !(n.lo==n.hi) && !(decide (n.lv≥p)) && !(decide (n.lv≥q))) =
  (ADK i n&&(n.lo != n.hi)&&decide (n.lv<min p q)):=by
 unfold ADK bne;have a:∀x y:Int,(!decide (x<y))=decide (x≥y):=fun x y=>by rw[<-decide_not,decide_eq_decide]; omega
 have b:∀x y:Int,(!decide (x≥y))=decide (x<y):=fun x y=>by rw[<-decide_not,decide_eq_decide]; omega
 rw[a,a,a,b,b,b,b,b,Bool.and_assoc,<-Bool.decide_and];congr 1;rw[qH]; simp; omega
section
variable (G:Nat->AV)
theorem APB (l:List Rn)(m:SM)(hl:l.length<=1048576)(i:Nat)(hi:i<l.length)(h:Hp):PCall (En G) 56 [.sl m 3 (l.map ER),.int .i64 (i:Nat)] h (.bool (okR l i)):=by
 refine ACalls.pure0 rfl ?_;refine acN Tryz.func56 rfl ?_;show awp _ _ _ _ _ (EK _ [.tmp 4] _);have l0:=fun a b c=>ldi (h:=h++[.live 3 [i3 a b c]]) (CU _ _)
 unfold okR;rw[MP hi];have hR:∀p q:Int,_:=fun p q=>right_eq i l[i] p q
 simp -implicitDefEqProofs only[vQ,BD,↓reduceIte,jA,enP,SA,jO,EZ hi,GM VW P7 KH hi,al61,AL1,st61];have hn2:(.agg (i3 l[i].lv l[i].lo l[i].hi):AV)=.agg (ER l[i]):=rfl;generalize hn:l[i]=n at hR hn2|-;refine UU (fun F H=>F 68=.bool (!(plR l i n))∧F 0=.sl m 3 (l.map ER)∧F 1=.int .i64 (i:Nat)∧F 5=.ptr h.length 0 0∧H=h++[.live 3 [i3 n.lv n.lo n.hi]]) (fun _ _=>False) ?_ ?_ (fun _ _ q=>q.elim)
 .refine GL (by kernel_rfl) ?_
  simp -implicitDefEqProofs only[vQ,CV,↓reduceIte,jM,enP,OG,(l0 _ _ _).1];unfold plR;cases b1:decide (n.lv<0)
  case true =>
   simp -implicitDefEqProofs only[vQ,CV,EY,↓reduceIte,jA,jM]; exact⟨by rw[<-right_eq,b1]; rfl,trivial,trivial,trivial,trivial⟩
  simp -implicitDefEqProofs only[vQ,CV,↓reduceIte,jA,jM,enP,OG,(l0 _ _ _).1];cases b2:decide (n.lv≥20)
  case true =>
   simp -implicitDefEqProofs only[vQ,CV,EY,↓reduceIte,jA,jM]; exact⟨by rw[<-right_eq,b1,b2]; rfl,trivial,trivial,trivial,trivial⟩
  simp -implicitDefEqProofs only[vQ,CV,↓reduceIte,jA,jM,enP,QK,(l0 _ _ _).2.1];cases b3:decide (n.lo<0)
  case true =>
   simp -implicitDefEqProofs only[vQ,CV,EY,↓reduceIte,jA,jM]; exact⟨by rw[<-right_eq,b1,b2,b3]; rfl,trivial,trivial,trivial,trivial⟩
  simp -implicitDefEqProofs only[vQ,CV,↓reduceIte,jA,jM,enP,QK,(l0 _ _ _).2.1];cases b4:decide (n.lo≥(i:Nat))
  case true =>
   simp -implicitDefEqProofs only[vQ,CV,EY,↓reduceIte,jA,jM]; exact⟨by rw[<-right_eq,b1,b2,b3,b4]; rfl,trivial,trivial,trivial,trivial⟩
  simp -implicitDefEqProofs only[vQ,CV,↓reduceIte,jA,jM,enP,QJ,(l0 _ _ _).2.2];cases b5:decide (n.hi<0)
  case true =>
   simp -implicitDefEqProofs only[vQ,CV,EY,↓reduceIte,jA,jM]; exact⟨by rw[<-right_eq,b1,b2,b3,b4,b5]; rfl,trivial,trivial,trivial,trivial⟩
  simp -implicitDefEqProofs only[vQ,CV,↓reduceIte,jA,jM,enP,QJ,(l0 _ _ _).2.2];cases b6:decide (n.hi≥(i:Nat))
  case true =>
   simp -implicitDefEqProofs only[vQ,CV,EY,↓reduceIte,jA,jM]; exact⟨by rw[<-right_eq,b1,b2,b3,b4,b5,b6]; rfl,trivial,trivial,trivial,trivial⟩
  simp -implicitDefEqProofs only[vQ,CV,↓reduceIte,jA,jM,enP,QK,QJ,(l0 _ _ _).2.1,(l0 _ _ _).2.2];cases b7:n.lo==n.hi
  case true =>
   simp -implicitDefEqProofs only[vQ,CV,EY,↓reduceIte,jA,jM]; exact⟨by rw[<-right_eq,b1,b2,b3,b4,b5,b6,b7]; rfl,trivial,trivial,trivial,trivial⟩
  simp only[decide_eq_false_iff_not] at b3 b4 b5 b6;have a1:n.lo.toNat<l.length:=by omega
  have a2:n.hi.toNat<l.length:=by omega
  rw[MP a1,MP a2];have ix1:=ANZ (k:=3) (h:=h++[.live 3 [i3 n.lv n.lo n.hi]]) (m:=m) (kk:=.i64) (xs:=l.map ER) (show 0<=n.lo by omega) (by rw[jR]; omega);have ix2:=ANZ (k:=3) (h:=h++[.live 3 [i3 n.lv n.lo n.hi]]) (m:=m) (kk:=.i64) (xs:=l.map ER) (show 0<=n.hi by omega) (by rw[jR]; omega);have c3:decide (n.lo<0)=false:=decide_eq_false b3;have c4:decide (n.lo≥(i:Nat))=false:=decide_eq_false b4;have c5:decide (n.hi<0)=false:=decide_eq_false b5;have c6:decide (n.hi≥(i:Nat))=false:=decide_eq_false b6;simp -implicitDefEqProofs only[vQ,CV,↓reduceIte,jA,jM,enP,SA,OG,QK,(l0 _ _ _).1,(l0 _ _ _).2.1,ix1,AV2 a1];cases b8:decide (n.lv≥l[n.lo.toNat].lv)
  case true =>
   simp -implicitDefEqProofs only[vQ,CV,EY,↓reduceIte,jA,jM]; exact⟨by rw[<-right_eq,b1,b2,c3,c4,c5,c6,b7,b8]; rfl,trivial,trivial,trivial,trivial⟩
  simp -implicitDefEqProofs only[vQ,CV,↓reduceIte,jA,jM,enP,SA,OG,QJ,(l0 _ _ _).1,(l0 _ _ _).2.2,ix2,AV2 a2];exact⟨by rw[<-right_eq,b1,b2,c3,c4,c5,c6,b7,b8]; simp,trivial,trivial,trivial,trivial⟩
 .rintro F H ⟨f68,f0,f1,f5,rfl⟩
  simp -implicitDefEqProofs only[vQ,f68];cases b0:plR l i n
  .simp -implicitDefEqProofs only[vQ,BD,↓reduceIte]
   exact⟨rfl,_,rfl⟩
  .simp -implicitDefEqProofs only[vQ,jZ]
   refine GL (by kernel_rfl) ?_
   have hs:MK Tryz.prog (h++[.live 3 [i3 n.lv n.lo n.hi]]) 33 (.sl m 3 (l.map ER)) none (some (.int .i64 (i:Nat))) none=some (.sl (AP5 m i l.length) 3 ((l.take i).map ER)):=by
    have:=ANB (P:=Tryz.prog) (t:=33) (h:=h++[.live 3 [i3 n.lv n.lo n.hi]]) (m:=m) (kk:=.i64) (u:=i) AOX P7 (xs:=l.map ER) (by rw[jR]; omega);rw[jR,<-List.map_take] at this;exact this
   simp -implicitDefEqProofs only[vQ,qU,qZ,VZ,OV,↓reduceIte,jA,jM,enP,f0,f1,f5,qU,qZ,hs,VJ (CU h (.live 3 [i3 n.lv n.lo n.hi]))];refine⟨_,find_ref G (l.take i) _ (by simp; omega) n _,?_⟩;simp -implicitDefEqProofs only[vQ,↓reduceIte,jM];exact⟨by rw[AV7,qF],_,rfl⟩
theorem AVT (h:Hp):PCall (En G) 47 [] h (.agg [.sl .full 3 [ER rF,ER rT]]):=by
 refine ACalls.pure 2 (R:=fun v H=>v=.agg [.sl .full 3 [ER rF,ER rT]]∧ext h H) ?_ ?_
 .refine acN Tryz.func47 rfl ?_
  show awp _ _ _ _ _ (EK _ [.cell 0 35] _);simp -implicitDefEqProofs only[vQ,BD,↓reduceIte,jA,enP,jO,TB,A3K,AOL,A26,A3M,LZ (CU h _),JP];rw[I8 _ _ _ _ _ _ _ _ _ (show _=AV.ptr h.length 0 0 by simp -implicitDefEqProofs only[AA,↓reduceIte,jA]),JK (CU _ _)];exact⟨_,rfl,rfl,(ext.rfl' h).app _⟩
 .rintro v H ⟨rfl,he⟩
  exact⟨he,rfl⟩
theorem AIB (l:List Rn)(m:SM)(hl:l.length<=1048576)(h:Hp):PCall (En G) 30 [.agg [.sl m 3 (l.map ER)]] h (.bool (vdR l)):=by
 refine ACalls.pure0 rfl ?_;refine acN Tryz.func30 rfl ?_;show awp _ _ _ _ _ (EK _ [.tmp 2] _);have gb:=CU h (ABlk.live 1 [[.sl m 3 (l.map ER)]]);simp -implicitDefEqProofs only[vQ,BD,↓reduceIte,jA,enP,NR,UO,AJB gb];refine(AVT G _).use ?_;have hf:ABF Tryz.prog 35 (.agg [.sl .full 3 [ER rF,ER rT]]) 0=some (.sl .full 3 ([rF,rT].map ER)):=by kernel_rfl
 simp -implicitDefEqProofs only[vQ,BD,AMX,↓reduceIte,enP,hf];refine UU (fun F H=>F 35=.bool (!enR l)∧F 3=.sl m 3 (l.map ER)∧H=h++[ABlk.live 1 [[.sl m 3 (l.map ER)]]]) (fun _ _=>False) ?_ ?_ (fun _ _ q=>q.elim)
 .refine GL (by kernel_rfl) ?_
  unfold enR;have e1:decide (((l.length:Nat):Int)<2) = !decide (2<=l.length):=by rw[<-decide_not,decide_eq_decide]; omega
  have e2:decide (((l.length:Nat):Int)>8192) = !decide (l.length<=8192):=by rw[<-decide_not,decide_eq_decide]; omega
  simp -implicitDefEqProofs only[vQ,JJ,CV,↓reduceIte,jA,jM,enP,SX,jR,e1,e2];cases b1:decide (2<=l.length)
  .simp -implicitDefEqProofs only[vQ,CV,EY,↓reduceIte,jA,jM]
   exact⟨rfl,trivial,trivial⟩
  have h2:2<=l.length:=by simpa using b1
  simp -implicitDefEqProofs only[vQ,JJ,CV,↓reduceIte,jA,jM,jZ,enP,SX,jR,e2];cases b2:decide (l.length<=8192)
  .simp -implicitDefEqProofs only[vQ,CV,EY,↓reduceIte,jA,jM]
   exact⟨rfl,trivial,trivial⟩
  have i0:∀(H:Hp) (m:SM) (l:List Rn),2<=l.length->J8 3 H (.sl m 3 (l.map ER)) (.int .i64 0)=some (.fptr 3 (l.map ER) 0 0):=fun H m l hl=>EZ (n:=0) (by omega)
  have i1:∀(H:Hp) (m:SM) (l:List Rn),2<=l.length->J8 3 H (.sl m 3 (l.map ER)) (.int .i64 1)=some (.fptr 3 (l.map ER) 1 0):=fun H m l hl=>EZ (n:=1) (by omega)
  rw[MP (show 0<l.length by omega),MP (show 1<l.length by omega)];have k0:∀H:Hp,J8 3 H (.sl .full 3 [ER rF,ER rT]) (.int .i64 0)=some (.fptr 3 [ER rF,ER rT] 0 0):=fun H=>i0 H .full [rF,rT] (by simp)
  have k1:∀H:Hp,J8 3 H (.sl .full 3 [ER rF,ER rT]) (.int .i64 1)=some (.fptr 3 [ER rF,ER rT] 1 0):=fun H=>i1 H .full [rF,rT] (by simp)
  have q0:∀H:Hp,DF Tryz.prog H 61 (.fptr 3 [ER rF,ER rT] 0 0)=some (.agg (ER rF)):=fun H=>GM (xs:=[rF,rT]) VW P7 KH (show 0 < [rF,rT].length by simp)
  have q1:∀H:Hp,DF Tryz.prog H 61 (.fptr 3 [ER rF,ER rT] 1 0)=some (.agg (ER rT)):=fun H=>GM (xs:=[rF,rT]) VW P7 KH (show 1 < [rF,rT].length by simp)
  simp -implicitDefEqProofs only[vQ,CV,↓reduceIte,jA,jM,jZ,enP,SA,i0 _ m l h2,k0,GM (xs:=l) VW P7 KH (show 0<l.length by omega),q0,AVU];cases b3:decide (l[0]=rF)
  .simp -implicitDefEqProofs only[vQ,CV,EY,↓reduceIte,jA,jM]
   exact⟨rfl,trivial,trivial⟩
  simp -implicitDefEqProofs only[vQ,CV,↓reduceIte,jA,jM,jZ,enP,SA,i1 _ m l h2,k1,GM (xs:=l) VW P7 KH (show 1<l.length by omega),q1,AVU];exact⟨by rw[qF,qF,qF],trivial,trivial⟩
 .rintro F H ⟨f35,f3,rfl⟩
  simp -implicitDefEqProofs only[vQ,f35];cases b1:enR l
  .simp -implicitDefEqProofs only[vQ,BD,↓reduceIte]
   exact⟨by rw[AM0 b1],_,rfl⟩
  simp -implicitDefEqProofs only[vQ,BD,jZ];refine D7 (fun n F H=>∃i:Nat,n=l.length-i∧2<=i∧(∀j,j<l.length->j<i->2<=j->okR l j=true)∧F 3=.sl m 3 (l.map ER)∧F 5=.int .i64 (i:Nat)∧H=h++[ABlk.live 1 [[.sl m 3 (l.map ER)]]]) (l.length-2) ⟨2,rfl,jP 2,fun j _ hj hj2=>by omega,by first|exact f3|(simp -implicitDefEqProofs only[f3]),by simp -implicitDefEqProofs only[AA,↓reduceIte]; rfl,rfl⟩ ?_;rintro n F H ⟨i,hi,hi2,hok,f3,f5,rfl⟩;simp -implicitDefEqProofs only[vQ,BD,↓reduceIte,jA,enP,SX,f3,f5,jR];refine C9 (fun hc=>?_) (fun hc=>?_)
  .have hi':i<l.length:=by simpa using hc
   simp -implicitDefEqProofs only[vQ,BD,↓reduceIte,jA,f3,f5];refine(APB G l m hl i hi' _).use ?_;simp -implicitDefEqProofs only[vQ,BD,↓reduceIte];cases b4:okR l i
   .simp -implicitDefEqProofs only[vQ,BD,↓reduceIte]
    exact⟨by rw[AGL hi' hi2 b4],_,rfl⟩
   .simp -implicitDefEqProofs only[vQ,BD,↓reduceIte,jA,jZ,enP,f5,wrap_succ (show i<9223372036854775807 by omega)]
    refine⟨n-1,by omega,i+1,by omega,by omega,fun j hj hji hj2=>?_,by trivial,by trivial,by trivial⟩;rcases jY j i with q|q
    .exact hok j hj q hj2
    .obtain rfl:j=i:=by omega
     exact b4
  .have hi':¬i<l.length:=by simpa using hc
   simp -implicitDefEqProofs only[vQ,BD,↓reduceIte];exact⟨by rw[AGM b1 fun j hj hj2=>hok j hj (by omega) hj2],_,rfl⟩
end
structure BS (bb nb ab:Nat) (l:Dg) (full:Bool) (H:Hp):Prop where
 b:H[bb]?=some (.live 3 [[.own nb 0 l.length,.mp ab,.bool full]])
 n:H[nb]?=some (.live 3 (l.map DY))
 a:H[ab]?=some (.map ((atE l 0).map fun e=>(ecN e.1,e.2)))
 ne:bb≠nb
 v:VD l
 f:full=true->8192<=l.length
theorem BS.ab_ne {bb nb ab:Nat}{l:Dg}{full:Bool}{H:Hp}(s:BS bb nb ab l full H):bb≠ab∧nb≠ab :=
 ⟨fun e=>(by have:=s.b; rw[e,s.a] at this; cases this),fun e=>(by have:=s.n; rw[e,s.a] at this; cases this)⟩
theorem BS.app {bb nb ab:Nat}{l:Dg}{full:Bool}{H:Hp}(s:BS bb nb ab l full H)(x:ABlk):BS bb nb ab l full (H++[x]):=⟨BO s.b,BO s.n,BO s.a,s.ne,s.v,s.f⟩
theorem BS.ext {bb nb ab:Nat}{l:Dg}{full:Bool}{H H':Hp}(s:BS bb nb ab l full H)(h:Sm.ext H H'):BS bb nb ab l full H':=⟨F8 h s.b,F8 h s.n,F8 h s.a,s.ne,s.v,s.f⟩
theorem BS.set {bb nb ab:Nat}{l:Dg}{full:Bool}{H:Hp}(s:BS bb nb ab l full H){c:Nat}(h1:c≠bb)(h2:c≠nb)(h3:c≠ab)(x:ABlk):BS bb nb ab l full (H.set c x) :=
 ⟨by rw[jS h1]; exact s.b,by rw[jS h2]; exact s.n,by rw[jS h3]; exact s.a,s.ne,s.v,s.f⟩
theorem BS.ldN {bb nb ab:Nat}{l:Dg}{full:Bool}{H:Hp}(s:BS bb nb ab l full H):DF Tryz.prog H 33 (.ptr bb 0 0)=some (.own nb 0 l.length):=by rw[DJ AE5 s.b rfl]; rfl
theorem ag197:JO Tryz.prog 197=some false:=by kernel_rfl
theorem BS.ldA {bb nb ab:Nat}{l:Dg}{full:Bool}{H:Hp}(s:BS bb nb ab l full H):DF Tryz.prog H 197 (.ptr bb 0 1)=some (.mp ab):=by rw[DJ ag197 s.b rfl]; rfl
theorem BS.ldF {bb nb ab:Nat}{l:Dg}{full:Bool}{H:Hp}(s:BS bb nb ab l full H):DF Tryz.prog H 4 (.ptr bb 0 2)=some (.bool full):=by rw[DJ ag4 s.b rfl]; rfl
theorem BS.at {bb nb ab:Nat}{l:Dg}{full:Bool}{H:Hp}(s:BS bb nb ab l full H){f:Nat}(hf:f<l.length):J8 3 H (.own nb 0 l.length) (.int .i64 (f:Nat))=some (.ptr nb f 0)∧DF Tryz.prog H 61 (.ptr nb f 0)=some (.agg (DY (nth l f))) ∧
  DF Tryz.prog H 3 (.ptr nb f 0)=some (.int .i64 ((nth l f).lv:Nat)):=by
 have hr:(l.map DY)[f]?=some (DY (nth l f)):=by rw[List.getElem?_map,QN hf]; rfl
 refine⟨?_,?_,?_⟩
 .have:=OZ (k:=3) (b:=nb) (off:=0) (len:=l.length) (kk:=.i64) s.n hf
  rw[jG] at this;exact this
 .rw[GV VW P7 s.n hr (jP 3)]; rfl
 .rw[DJ ag3 s.n hr]; rfl
structure Kd (S:List Nat) (nb nb':Nat) (H H':Hp):Prop where
 len:H.length<=H'.length
 nn:nb'=nb∨H.length<=nb'
 keep:∀(k:Nat) (y:ABlk),H[k]?=some y->k ∉ S->k≠nb->H'[k]?=some y
theorem Kd.rfl' (S:List Nat)(nb:Nat)(H:Hp):Kd S nb nb H H:=⟨jP _,.inl rfl,fun _ _ h _ _=>h⟩
theorem Kd.trans {S:List Nat}{a b c:Nat}{A B C:Hp}(h1:Kd S a b A B)(h2:Kd S b c B C):Kd S a c A C :=
 ⟨Nat.le_trans h1.len h2.len,h2.nn.elim (fun e=>by rw[e]; exact h1.nn) (fun e=>.inr (Nat.le_trans h1.len e)),fun k y hk hS hn=>h2.keep k y (h1.keep k y hk hS hn) hS (h1.nn.elim (fun e=>by rw[e]; exact hn) (fun e=>by have:=CB hk; omega))⟩
theorem Kd.app {S:List Nat}{a b:Nat}{A B:Hp}(h:Kd S a b A B)(x:ABlk):Kd S a b A (B++[x]):=⟨by simp; have:=h.len; omega,h.nn,fun k y hk hS hn=>BO (h.keep k y hk hS hn)⟩
theorem Kd.ext {S:List Nat}{a b:Nat}{A B C:Hp}(h:Kd S a b A B)(e:Sm.ext B C):Kd S a b A C:=⟨Nat.le_trans h.len e.le,h.nn,fun k y hk hS hn=>F8 e (h.keep k y hk hS hn)⟩
theorem Kd.setS {S:List Nat}{a b:Nat}{A B:Hp}(h:Kd S a b A B){c:Nat}(hc:c∈S∨A.length<=c)(x:ABlk):Kd S a b A (B.set c x):=⟨by rw[zY]; exact h.len,h.nn,fun k y hk hS hn=>by
 rw[jS (fun e=>by
  rcases hc with hc|hc
  .exact hS (e▸hc)
  .have:=CB hk; omega)]
 exact h.keep k y hk hS hn⟩
theorem Kd.sub {S T:List Nat}{a b:Nat}{A B:Hp}(h:Kd S a b A B)(hs:∀x∈S,x∈T):Kd T a b A B:=⟨h.len,h.nn,fun k y hk hS hn=>h.keep k y hk (fun q=>hS (hs k q)) hn⟩
def NP (bb ab:Nat)(S:List Nat)(nb:Nat)(H:Hp)(full:Bool)(l:Dg)(o:Option (Nat×Dg))(v:AV)(H':Hp):Prop :=
 ∃nb',Kd S nb nb' H H'∧((full=false∧∃r l',o=some (r,l')∧v=.int .i64 (r:Nat)∧BS bb nb' ab l' false H')∨((full=true∨o=none)∧(∃n:Nat,v=.int .i64 (n:Nat))∧∃l',Xt l l'∧BS bb nb' ab l' true H'))
theorem AYF (h:Hp)(n:Nd):GG Tryz.prog false h 33 1 [(0,.agg (DY n))]=some (.sl .full 3 [DY n],h):=by kernel_rfl
theorem X7 (a b:Nat):(((a:Nat):Int)==((b:Nat):Int))=decide (a=b):=by rw[qH]; simp; omega
section
variable (G:Nat->AV)
theorem QS (bb nb ab:Nat)(l:Dg)(full:Bool)(H:Hp)(s:BS bb nb ab l full H)(f lv:Nat)(hf:f<l.length)(one:Bool):PCall (En G) 193 [.ptr bb 0 0,.int .i64 (f:Nat),.int .i64 (lv:Nat),.bool one] H (.int .i64 (half l f lv one:Nat)):=by
 refine ACalls.pure0 rfl ?_;refine acN Tryz.func193 rfl ?_;show awp _ _ _ _ _ (EK _ [.tmp 8] _);obtain⟨i1,i2,_⟩:=s.at hf;have sN:FO Tryz.prog (H++[.live 3 [i3 0 0 0]]) 61 (.ptr H.length 0 0) (.agg (DY (nth l f)))=some (H++[.live 3 [DY (nth l f)]]):=st61 _ _ _ _;have l0:=ldi (a:=(nth l f).lv) (c:=(nth l f).lo) (d:=(nth l f).hi) (CU H (.live 3 [DY (nth l f)]));unfold half;simp -implicitDefEqProofs only[vQ,BD,↓reduceIte,jA,enP,SA,OG,WJ,jO,s.ldN,i1,i2,al61,sN,l0.1,l0.2.1,l0.2.2,bne,X7];by_cases h1:(nth l f).lv=lv
 .rw[decide_eq_true h1,if_neg (show ¬(nth l f).lv≠lv from fun q=>q h1)]
  simp -implicitDefEqProofs only[vQ,BD,↓reduceIte,jA,jZ];cases one
  .simp -implicitDefEqProofs only[vQ,BD,↓reduceIte,jA,enP,QK,jQ,l0.2.1]
   exact⟨by trivial,_,rfl⟩
  .simp -implicitDefEqProofs only[vQ,BD,↓reduceIte,jA,enP,QJ,l0.2.2]
   exact⟨by trivial,_,rfl⟩
 .rw[decide_eq_false h1,if_pos (show(nth l f).lv≠lv from h1)]
  simp -implicitDefEqProofs only[vQ,BD,↓reduceIte,jA];exact⟨trivial,_,rfl⟩
set_option maxHeartbeats 1000000 in
theorem node_prog (bb nb ab:Nat)(l:Dg)(full:Bool)(H:Hp)(s:BS bb nb ab l full H)(lv lo hi:Nat)(hok:full=false->lv<20∧lo<l.length∧hi<l.length∧lv<(nth l lo).lv∧lv<(nth l hi).lv) :
  ACalls (En G) 194 [.ptr bb 0 0,.int .i64 (lv:Nat),.int .i64 (lo:Nat),.int .i64 (hi:Nat)] H (NP bb ab [bb,ab] nb H full l (mk lv lo hi l)):=by
 refine IV (H:=hint [57] []) (enM G) Tryz.func194 rfl (by kernel_rfl) (by kernel_rfl) (jH (by kernel_rfl)) ?_;show awp _ _ _ _ _ (EK _ [.tmp 8] _);simp -implicitDefEqProofs only[vQ,jW,jI,jK,jV,BD,↓reduceIte,jA,enP,X7];by_cases h1:lo=hi
 .rw[decide_eq_true h1]
  simp -implicitDefEqProofs only[vQ,jW,jI,jK,jV,BD,↓reduceIte,jA];refine⟨nb,Kd.rfl' _ _ _,?_⟩;cases full
  .exact .inl ⟨rfl,lo,l,by unfold mk; rw[if_pos h1],rfl,s⟩
  .exact .inr ⟨.inl rfl,⟨lo,rfl⟩,l,Xt.rfl' l,s⟩
 .rw[decide_eq_false h1]
  have sN:FO Tryz.prog (H++[ABlk.live 3 [i3 0 0 0]]) 61 (.ptr H.length 0 0) (.agg (i3 lv lo hi))=some (H++[ABlk.live 3 [i3 lv lo hi]]):=st61 _ _ _ _;have s1:=s.app (ABlk.live 3 [i3 lv lo hi]);have k1:Kd [bb,ab] nb nb H (H++[ABlk.live 3 [i3 lv lo hi]]):=(Kd.rfl' _ _ _).app _;have lN:=VJ (CU H (ABlk.live 3 [i3 lv lo hi]));have hlk:JZ Tryz.prog (H++[ABlk.live 3 [i3 lv lo hi]]) 197 (.mp ab) (.agg (i3 lv lo hi)) true=_:=AV0 s1.a (Nd.mk lv lo hi);simp -implicitDefEqProofs only[vQ,jW,jI,jK,jV,BD,↓reduceIte,jA,enP,jO,AOL,al61,sN];generalize hH1:H++[ABlk.live 3 [i3 lv lo hi]]=H1 at s1 k1 lN hlk|-;refine GL (by kernel_rfl) ?_;simp -implicitDefEqProofs only[vQ,jW,jI,jK,jV,MH,TD,ACO,↓reduceIte,jA,jM,enP,AHE,s1.ldA,lN,hlk]
  cases hf:fnd (Nd.mk lv lo hi) l with
  | some i =>
    simp -implicitDefEqProofs only[vQ,jT,jU,jW,jI,jK,jV,MH,BD,↓reduceIte,jA,jM];refine⟨nb,k1,?_⟩;cases full
    .exact .inl ⟨rfl,i,l,by unfold mk; rw[if_neg h1,hf],rfl,s1⟩
    .exact .inr ⟨.inl rfl,⟨i,rfl⟩,l,Xt.rfl' l,s1⟩
  | none =>
    have e1:decide (((l.length:Nat):Int)≥8192)=decide (8192<=l.length):=by rw[decide_eq_decide]; omega
    simp -implicitDefEqProofs only[vQ,jT,jU,jW,jI,jK,jV,MH,BD,↓reduceIte,jA,jM,enP,SX,WJ,s1.ldN,e1];by_cases h8:8192<=l.length
    .rw[decide_eq_true h8]
     have hst:FO Tryz.prog H1 4 (.ptr bb 0 2) (.bool true)=some (H1.set bb (ABlk.live 3 [[.own nb 0 l.length,.mp ab,.bool true]])):=by
      rw[G7 (cs:=[.bool true]) rfl sz4 s1.b rfl (by simp)]; rfl
     have s2:BS bb nb ab l true (H1.set bb (ABlk.live 3 [[.own nb 0 l.length,.mp ab,.bool true]])) :=
      ⟨DX s1.b,by rw[jS s.ne]; exact s1.n,by rw[jS s1.ab_ne.1]; exact s1.a,s.ne,s.v,fun _=>h8⟩
     simp -implicitDefEqProofs only[vQ,jW,jI,jK,jV,BD,↓reduceIte,jA,enP,ACI,jO,hst];refine⟨nb,k1.setS (.inl (by simp)) _,.inr ⟨?_,⟨0,rfl⟩,l,Xt.rfl' l,s2⟩⟩;cases full
     .right; unfold mk; rw[if_neg h1,hf]; simp only; rw[if_pos h8]
     .left; rfl
    .rw[decide_eq_false h8]
     have hfull:full=false:=by
      cases full
      .rfl
      .exact absurd (s.f rfl) h8
     obtain⟨o1,o2,o3,o4,o5⟩:=hok hfull;subst hfull;have hmk:mk lv lo hi l=some (l.length,l++[Nd.mk lv lo hi]):=by unfold mk; rw[if_neg h1,hf]; simp only; rw[if_neg h8]
     have hup:J5 Tryz.prog H1 197 (.mp ab) (.agg (i3 lv lo hi)) (.int .i64 (l.length:Nat))=some (H1.set ab (.map ((atE (l++[Nd.mk lv lo hi]) 0).map fun e=>(ecN e.1,e.2)))):=by
      have:=Y2 AQ0 AZO ktN s1.a (Nd.mk lv lo hi) (.int .i64 (l.length:Nat));have hfk:fk ((Nd.mk lv lo hi):Nd) (atE l 0)=none:=by rw[AHB,hf]
      unfold upK at this;rw[hfk] at this;rw[AON,jG];exact this
     have s2:H1.set ab (.map ((atE (l++[Nd.mk lv lo hi]) 0).map fun e=>(ecN e.1,e.2)))=H1.set ab (.map ((atE (l++[Nd.mk lv lo hi]) 0).map fun e=>(ecN e.1,e.2))):=rfl;have k2:=k1.setS (c:=ab) (.inl (by simp)) (.map ((atE (l++[Nd.mk lv lo hi]) 0).map fun e=>(ecN e.1,e.2)));have b2:(H1.set ab (.map ((atE (l++[Nd.mk lv lo hi]) 0).map fun e=>(ecN e.1,e.2))))[bb]?=some (ABlk.live 3 [[.own nb 0 l.length,.mp ab,.bool false]]):=by rw[jS (Ne.symm s1.ab_ne.1)]; exact s1.b
     have n2:(H1.set ab (.map ((atE (l++[Nd.mk lv lo hi]) 0).map fun e=>(ecN e.1,e.2))))[nb]?=some (ABlk.live 3 (l.map DY)):=by rw[jS (Ne.symm s1.ab_ne.2)]; exact s1.n
     have a2:(H1.set ab (.map ((atE (l++[Nd.mk lv lo hi]) 0).map fun e=>(ecN e.1,e.2))))[ab]?=some (.map ((atE (l++[Nd.mk lv lo hi]) 0).map fun e=>(ecN e.1,e.2))):=DX s1.a
     have lN2:DF Tryz.prog (H1.set ab (.map ((atE (l++[Nd.mk lv lo hi]) 0).map fun e=>(ecN e.1,e.2)))) 61 (.ptr H.length 0 0)=some (.agg (i3 lv lo hi)):=VJ (by
      rw[jS (show ab≠H.length by have:=CB s.a; omega),<-hH1]; exact CU _ _)
     simp -implicitDefEqProofs only[vQ];refine GL (by kernel_rfl) ?_;simp -implicitDefEqProofs only[vQ,jW,jI,jK,jV,JJ,OM,↓reduceIte,jA,jM,enP,SX,WJ,AHE,jO,s1.ldA,s1.ldN,lN,SB,hup];generalize hH2:H1.set ab (.map ((atE (l++[Nd.mk lv lo hi]) 0).map fun e=>(ecN e.1,e.2)))=H2 at k2 b2 n2 a2 lN2|-;have ld2:DF Tryz.prog H2 33 (.ptr bb 0 0)=some (.own nb 0 l.length):=by rw[DJ AE5 b2 rfl]; rfl
     refine GL (by kernel_rfl) ?_;have hne:nb≠bb:=Ne.symm s.ne;have lt1:=CB b2;have lt2:=CB n2;have lt3:=CB a2
     have hap:IP Tryz.prog true H2 33 33 (.own nb 0 l.length) (.sl .full 3 [DY (Nd.mk lv lo hi)])=some (.own H2.length 0 (l.length+1),H2.set nb .dead++[ABlk.live 3 ((l++[Nd.mk lv lo hi]).map DY)]):=by
      have h1:KQ H2 (.own nb 0 l.length)=some (3,l.map DY):=by
       rw[OQ n2 (by simp)];rw[List.drop_zero,zH (by simp)]
      have:=UW (P:=Tryz.prog) (t:=33) (x:=.sl .full 3 [DY (Nd.mk lv lo hi)]) AOX P7 AUL AWZ h1 (KJ _ _ _ _) (by simp) ⟨by simp; omega,by simp; omega⟩;rw[jR] at this;rw[this];simp
     have st2:FO Tryz.prog (H2.set nb .dead++[ABlk.live 3 ((l++[Nd.mk lv lo hi]).map DY)]) 33 (.ptr bb 0 0) (.own H2.length 0 (l.length+1))=some ((H2.set nb .dead++[ABlk.live 3 ((l++[Nd.mk lv lo hi]).map DY)]).set bb (ABlk.live 3 [[.own H2.length 0 (l.length+1),.mp ab,.bool false]])):=by
      rw[G7 (cs:=[.own H2.length 0 (l.length+1)]) rfl A01 (BO (by rw[jS hne]; exact b2)) rfl (by simp)]; rfl
     have s3:BS bb H2.length ab (l++[Nd.mk lv lo hi]) false ((H2.set nb .dead++[ABlk.live 3 ((l++[Nd.mk lv lo hi]).map DY)]).set bb (ABlk.live 3 [[.own H2.length 0 (l.length+1),.mp ab,.bool false]])):=by
      refine⟨?_,?_,?_,by omega,?_,fun q=>by cases q⟩
      .rw[zT]
       exact DX (BO (by rw[jS hne]; exact b2))
      .rw[jS (by omega)]
       have:=CU (H2.set nb .dead) (ABlk.live 3 ((l++[Nd.mk lv lo hi]).map DY));rw[zY] at this;exact this
      .rw[jS s1.ab_ne.1]
       refine BO ?_;rw[jS s1.ab_ne.2]; exact a2
      .exact(ANN s.v o1 o2 o3 o4 o5 _ _ hmk).1
     have k3:Kd [bb,ab] nb H2.length H ((H2.set nb .dead++[ABlk.live 3 ((l++[Nd.mk lv lo hi]).map DY)]).set bb (ABlk.live 3 [[.own H2.length 0 (l.length+1),.mp ab,.bool false]])):=by
      refine Kd.setS ?_ (.inl (by simp)) _;refine Kd.app ?_ _;refine⟨by rw[zY]; exact k2.len,.inr k2.len,fun k y hk hS hn=>?_⟩;rw[jS (Ne.symm hn)];exact k2.keep k y hk hS hn
     simp -implicitDefEqProofs only[vQ,jW,jI,jK,jV,KZ,JJ,BD,MC,↓reduceIte,jA,jM,enP,WJ,jO,ld2,lN2,show GG Tryz.prog false H2 33 1 [(0,.agg (i3 lv lo hi))]=some (.sl .full 3 [DY (Nd.mk lv lo hi)],H2) from AYF H2 (Nd.mk lv lo hi),hap,st2];have ld3:=s3.ldN;rw[zT] at ld3;generalize (H2.set nb .dead++[ABlk.live 3 ((l++[Nd.mk lv lo hi]).map DY)]).set bb (ABlk.live 3 [[.own H2.length 0 (l.length+1),.mp ab,.bool false]])=H3 at s3 k3 ld3|-
     have hw:IntKind.i64.wrap ((((l.length+1:Nat)):Int)-1)=((l.length:Nat):Int):=by
      rw[wrap_i64 (by omega) (by have:=s.v.mx; omega)]; omega
     simp -implicitDefEqProofs only[vQ,jW,jI,jK,jV,BD,LG,↓reduceIte,enP,SX,show DF Tryz.prog H3 33 (.ptr bb 0 0)=some (.own H2.length 0 (l.length+1)) from ld3,hw];exact⟨H2.length,k3,.inl ⟨rfl,l.length,_,hmk,rfl,s3⟩⟩
end
theorem A1N (m:SM)(k:Nat)(xs:List (List AV)):JD Tryz.prog 33 .eql (.sl m k xs) (.sl .nil 0 [])=some (.bool (decide (m=.nil))):=by cases m<;>kernel_rfl
theorem ATS (h:Hp):GG Tryz.prog false h 33 0 []=some (.sl .full 3 [],h):=by kernel_rfl
theorem A3N (b n m:Nat):KD Tryz.prog 199 [(0,.own b 0 n),(1,.mp m)]=some (.agg [.own b 0 n,.mp m,.bool false]):=by kernel_rfl
theorem A21 (h:Hp)(b n m:Nat):MG h (.agg [.own b 0 n,.mp m,.bool false])=some (.ptr h.length 0 0,h++[.live 3 [[.own b 0 n,.mp m,.bool false]]]):=rfl
section
variable (G:Nat->AV)
theorem AL9 (l:Dg)(m:SM)(h2:2<=l.length)(hl:l.length<=8192)(h:Hp):ACalls (En G) 192 [.sl m 3 (l.map DY)] h fun v H=>v=.own h.length 0 l.length∧H=h++[.live 3 (l.map DY)]:=by
 refine ACalls.of_rep (cok 192 G (by kernel_rfl)) ?_;rintro⟨g,cargs,ha⟩
 have hm:m≠.nil:=fun e=>by
  subst e;have:=ALA ha (i:=0) rfl;rw[List.map_eq_nil_iff] at this;rw[this] at h2; simp at h2
 refine acN Tryz.func192 rfl ?_;show awp _ _ _ _ _ (EK _ [.tmp 2] _)
 have hap:IP Tryz.prog true h 33 33 (.sl .full 3 []) (.sl m 3 (l.map DY))=some (.own h.length 0 l.length,h++[.live 3 (l.map DY)]):=by
  have:=AKF (P:=Tryz.prog) (t:=33) (h:=h) (xs:=[]) (x:=.sl m 3 (l.map DY)) AOX P7 AUL AWZ (KJ _ _ _ _) (by intro e; rw[List.map_eq_nil_iff] at e; rw[e] at h2; simp at h2) ⟨by simp; omega,by simp; omega⟩;rw[this]; simp
 simp -implicitDefEqProofs only[vQ,BD,MC,↓reduceIte,jA,enP,A1N,decide_eq_false hm,ATS,hap];exact⟨trivial,trivial⟩
theorem AA2 (bb nb ab:Nat)(l:Dg)(full:Bool)(H:Hp)(s:BS bb nb ab l full H)(f:Nat):ACalls (En G) 154 [.ptr bb 0 0,.int .i64 (f:Nat)] H fun v H'=>ext H H'∧v=if full=true then .tup [.agg [.sl .nil 0 []],.int .i64 0,.int .i64 2] else .tup [.agg [.own nb 0 l.length],.int .i64 (f:Nat),.int .i64 0]:=by
 refine acN Tryz.func154 rfl ?_;show awp _ _ _ _ _ (EK _ [.cell 4 35,.tmp 5,.tmp 6] _);have s1:=s.app (.live 1 [[.sl .nil 0 []]]);have g1:=CU H (.live 1 [[.sl .nil 0 []]]);simp -implicitDefEqProofs only[vQ,BD,↓reduceIte,jA,enP,ACI,TB,s1.ldF];cases full
 .simp -implicitDefEqProofs only[vQ,BD,↓reduceIte,jA,enP,WJ,jO,jQ,s1.ldN,AYH,ANA g1,JP]
  rw[JG _ _ _ _ _ _ _ _ _ _ _ (show _=AV.ptr H.length 0 0 by simp -implicitDefEqProofs only[AA,↓reduceIte,jA]),show DF Tryz.prog (H++[.live 1 [[.own nb 0 l.length]]]) 35 (.ptr H.length 0 0)=_ from JK (CU H _)];simp -implicitDefEqProofs only[AA,↓reduceIte,jA];exact⟨_,rfl,(ext.rfl' H).app _,rfl⟩
 .simp -implicitDefEqProofs only[vQ,BD,↓reduceIte,jA,enP,jO,VV,LZ g1,JP]
  rw[JG _ _ _ _ _ _ _ _ _ _ _ (show _=AV.ptr H.length 0 0 by simp -implicitDefEqProofs only[AA,↓reduceIte,jA]),show DF Tryz.prog (H++[.live 1 [[.sl .nil 0 []]]]) 35 (.ptr H.length 0 0)=_ from JK (CU H _)];simp -implicitDefEqProofs only[AA,↓reduceIte,jA];exact⟨_,rfl,(ext.rfl' H).app _,rfl⟩
theorem AD7 (l:Dg)(m:SM)(v:VD l)(h:Hp):ACalls (En G) 153 [.agg [.sl m 3 (l.map DY)]] h fun r H=>ext h H∧∃bb nb ab,r=.ptr bb 0 0∧h.length<=bb∧h.length<=nb∧h.length<=ab∧BS bb nb ab l false H:=by
 have h2:=v.two;have hx:=v.mx;refine acN Tryz.func153 rfl ?_;show awp _ _ _ _ _ (EK _ [.tmp 2] _);have gb:=CU h (ABlk.live 1 [[.sl m 3 (l.map DY)]]);simp -implicitDefEqProofs only[vQ,BD,SQ,↓reduceIte,jA,enP,NR,UO,AJB gb];refine ACalls.mono (AL9 G l m h2 hx _) ?_;rintro r H ⟨rfl,rfl⟩;generalize hb0:h++[ABlk.live 1 [[.sl m 3 (l.map DY)]]]=hb at gb|-;have hbl:hb.length=h.length+1:=by rw[<-hb0]; simp
 have ex0:ext h hb:=⟨_,hb0.symm⟩;simp -implicitDefEqProofs only[vQ,BD,V3,↓reduceIte,jA,enP,NR,A3N,A21];generalize hX:hb++[ABlk.live 3 (l.map DY)]++[ABlk.map []]++[ABlk.live 3 [[.own hb.length 0 l.length,.mp (hb++[ABlk.live 3 (l.map DY)]).length,.bool false]]]=X;have gX:X[h.length]?=some (ABlk.live 1 [[.sl m 3 (l.map DY)]]):=by rw[<-hX]; exact BO (BO (BO gb))
 have exX:ext h X:=by rw[<-hX]; exact((ex0.app _).app _).app _
 have g1:X[hb.length]?=some (ABlk.live 3 (l.map DY)):=by rw[<-hX]; exact BO (BO (CU _ _))
 have g2:X[hb.length+1]?=some (ABlk.map []):=by rw[<-hX]; refine BO ?_; simp
 have g3:X[hb.length+2]?=some (ABlk.live 3 [[.own hb.length 0 l.length,.mp (hb.length+1),.bool false]]):=by
  rw[<-hX]; simp
 have hl1:(hb++[ABlk.live 3 (l.map DY)]++[ABlk.map []]).length=hb.length+2:=by simp
 have hl2:(hb++[ABlk.live 3 (l.map DY)]).length=hb.length+1:=by simp
 rw[hl1];simp -implicitDefEqProofs only[vQ,BD,↓reduceIte,enP,SX,AJB gX,jR]
 refine D7 (fun n F H=>∃i,n+i=l.length∧F 3=.ptr (hb.length+2) 0 0∧F 13=.sl m 3 (l.map DY)∧F 14=.int .i64 (l.length:Nat)∧F 15=.int .i64 (i:Nat)∧ext h H∧H[hb.length]?=some (ABlk.live 3 (l.map DY))∧H[hb.length+2]?=some (ABlk.live 3 [[.own hb.length 0 l.length,.mp (hb.length+1),.bool false]])∧H[hb.length+1]?=some (.map ((atE (l.take i) 0).map fun e=>(ecN e.1,e.2)))) l.length
  ⟨0,by simp,by simp -implicitDefEqProofs only[AA,↓reduceIte,jA],by simp -implicitDefEqProofs only[AA,↓reduceIte,jA],by simp -implicitDefEqProofs only[AA,↓reduceIte,jA],by simp -implicitDefEqProofs only[AA,↓reduceIte]; rfl,exX,g1,g3,g2⟩ ?_
 clear g1 g2 g3 gX exX hX;rintro n F H ⟨i,hi,f3,f13,f14,f15,ex,g1,g3,g2⟩;simp -implicitDefEqProofs only[vQ,BD,↓reduceIte,enP,f14,f15];refine C9 (fun hc=>?_) (fun hc=>?_)
 .have hi':i<l.length:=by simpa using hc
  have sN:FO Tryz.prog (H++[.live 3 [i3 0 0 0]]) 61 (.ptr H.length 0 0) (.agg (DY l[i]))=some (H++[.live 3 [DY l[i]]]):=st61 _ _ _ _;simp -implicitDefEqProofs only[vQ,BD,↓reduceIte,jA,enP,SA,jO,f13,f15,EZ hi',GM VW P7 AFX hi',al61,sN];refine GL (by kernel_rfl) ?_;have l1:DF Tryz.prog (H++[.live 3 [DY l[i]]]) 197 (.ptr (hb.length+2) 0 1)=some (.mp (hb.length+1)):=by rw[DJ ag197 (BO g3) rfl]; rfl
  have l2:DF Tryz.prog (H++[.live 3 [DY l[i]]]) 61 (.ptr H.length 0 0)=some (.agg (DY l[i])):=VJ (CU _ _)
  have hup:J5 Tryz.prog (H++[ABlk.live 3 [DY l[i]]]) 197 (.mp (hb.length+1)) (.agg (DY l[i])) (.int .i64 (i:Nat))=some ((H++[ABlk.live 3 [DY l[i]]]).set (hb.length+1) (ABlk.map ((atE (l.take (i+1)) 0).map fun e=>(ecN e.1,e.2)))):=by
   have:=Y2 AQ0 AZO ktN (BO (x:=.live 3 [DY l[i]]) g2) l[i] (.int .i64 (i:Nat))
   have hfk:fk l[i] (atE (l.take i) 0)=none:=by
    rw[AHB]
    cases hq:fnd l[i] (l.take i) with
    | none=>rfl
    | some j =>
      have hj:=TN hq;have hlt:j<i:=by have:=QZ hj; rw[zX] at this; omega
      rw[List.getElem?_take,if_pos hlt] at hj;have:=v.nd j i l[i] hj (List.getElem?_eq_getElem hi');omega
   unfold upK at this;rw[hfk] at this;rw[List.take_succ_eq_append_getElem hi',AON,jG,zX,Nat.min_eq_left (by omega)];exact this
  simp -implicitDefEqProofs only[vQ,BD,OM,↓reduceIte,jA,jM,enP,AHE,jO,f3,l1,l2,SB,hup,f15,wrap_succ (show i<9223372036854775807 by omega)];refine⟨n-1,by omega,i+1,by omega,by trivial,by trivial,by trivial,by trivial,(ex.app _).set (by omega) _,?_,?_,DX (BO g2)⟩
  .rw[jS (by omega)]; exact BO g1
  .rw[jS (by omega)]; exact BO g3
 .have hi':¬i<l.length:=by simpa using hc
  rw[zH (by omega)] at g2;simp -implicitDefEqProofs only[vQ,BD,↓reduceIte,jA,f3];exact⟨ex,hb.length+2,hb.length,hb.length+1,rfl,by omega,by omega,by omega,g3,g1,g2,by omega,v,fun q=>by cases q⟩
end
end Go.Proofs.YtgnoolgeijmlaaaGreatDoor.Bl
