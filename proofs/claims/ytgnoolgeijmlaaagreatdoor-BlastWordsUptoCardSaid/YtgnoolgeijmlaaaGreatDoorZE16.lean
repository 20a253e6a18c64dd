/- Part 16 of the proof (D7, Ia, Ib, Ic, Id, Ie, If, Ig); no condition. -/
import Derived.Test.YtgnoolgeijmlaaaGreatDoorZE15
set_option linter.unusedVariables false
namespace Go.Proofs.YtgnoolgeijmlaaaGreatDoor.Bl
open List renaming replicate→jJ,getD_eq_getElem?_getD→zM,length_set→zY
open Nat renaming mod_lt→qR,lt_or_ge→jY

theorem AZF:∀(m n:Nat) (f:Nat->Nat),(∀i,i<n->f i<m)->(∀i j,i<n->j<n->f i=f j->i=j)->n<=m:=by
 intro m
 induction m with
 | zero =>
   intro n f h _;rcases n with _|n
   .exact Nat.le_refl 0
   .exact absurd (h 0 (by omega)) (by omega)
 | succ m ih =>
   intro n f h inj;rcases n with _|n
   .omega
   .have hn:=h n (by omega)
    have:n<=m:=ih n (fun i=>if f i=m then f n else f i) (fun i hi=>by
     have h1:=h i (by omega);show(if f i=m then f n else f i)<m;split
     .rename_i e
      have:f n≠m:=fun q=>by have:=inj i n (by omega) (by omega) (by omega); omega
      omega
     .omega) (fun i j hi hj e=>by
     have e':(if f i=m then f n else f i)=(if f j=m then f n else f j):=e;split at e'<;>split at e'
     .rename_i a b; exact inj i j (by omega) (by omega) (by omega)
     .rename_i a b; have:=inj n j (by omega) (by omega) e'; omega
     .rename_i a b; have:=inj i n (by omega) (by omega) e'; omega
     .exact inj i j (by omega) (by omega) e')
    omega
def hsh (n:Nd):Nat:=(n.lv*7919+n.lo*104729+n.hi*15485863)%32768
theorem ASL (n:Nd):hsh n<32768:=qR _ (by decide)
structure AtI (l:Dg) (m:Nat) (A:List Nat):Prop where
 len:A.length=32768
 rg:∀j,A.getD j 0≠0->2<=A.getD j 0∧A.getD j 0<m
 inj:∀j j',A.getD j 0≠0->A.getD j 0=A.getD j' 0->j=j'
 fd:∀i,2<=i->i<m->∃s,A.getD ((hsh (nth l i)+s)%32768) 0=i∧∀t,t<s->A.getD ((hsh (nth l i)+t)%32768) 0≠0
def stp (l:Dg)(A:List Nat)(n:Nd)(j:Nat):Prop:=A.getD j 0=0∨nth l (A.getD j 0)=n
theorem AtI.zero (l:Dg):AtI l 2 (jJ 32768 0):=by
 have z:∀j,(jJ 32768 (0:Nat)).getD j 0=0:=fun j=>by
  rw[zM,List.getElem?_replicate]; split<;>rfl
 exact⟨by rw[List.length_replicate],fun j h=>absurd (z j) h,fun j j' h=>absurd (z j) h,fun i h2 h=>by omega⟩
theorem AtI.free {l:Dg}{m:Nat}{A:List Nat}(a:AtI l m A)(hm:m<=8192):∃j,j<32768∧A.getD j 0=0:=by
 rcases Classical.em (∃j,j<32768∧A.getD j 0=0) with h|h
 .exact h
 .have h':∀j,j<32768->A.getD j 0≠0:=fun j hj q=>h ⟨j,hj,q⟩
  have:=AZF 8192 32768 (fun j=>A.getD j 0) (fun i hi=>by have:=(a.rg i (h' i hi)).2; show A.getD i 0<8192; omega) (fun i j hi _ e=>a.inj i j (h' i hi) e);omega
theorem AtI.ends {l:Dg}{m:Nat}{A:List Nat}(a:AtI l m A)(hm:m<=8192)(n:Nd):∃s,s<32768∧stp l A n ((hsh n+s)%32768):=by
 obtain⟨j,hj,e⟩:=a.free hm;have:=ASL n;refine⟨(j+32768-hsh n)%32768,qR _ (by decide),.inl ?_⟩;rw[show(hsh n+(j+32768-hsh n)%32768)%32768=j by omega];exact e
theorem AtI.no {l:Dg}{m:Nat}{A:List Nat}(a:AtI l m A){n:Nd}{s:Nat}(hs:∀t,t<s->¬stp l A n ((hsh n+t)%32768))(h0:A.getD ((hsh n+s)%32768) 0=0):∀i,2<=i->i<m->nth l i≠n:=by
 intro i h2 hi e;obtain⟨s0,e0,q⟩:=a.fd i h2 hi;rw[e] at e0 q;rcases Nat.lt_trichotomy s0 s with h|h|h
 .exact hs s0 h (.inr (by rw[e0]; exact e))
 .subst h; omega
 .exact q s h h0
theorem AFS {A:List Nat}{k:Nat}(v j:Nat)(hk:k<A.length):(A.set k v).getD j 0=if j=k then v else A.getD j 0:=by
 rw[zM,zM,List.getElem?_set];by_cases h:k=j
 .subst h; simp [hk]
 .rw[if_neg h,if_neg (Ne.symm h)]
theorem AtI.put {l:Dg}{m:Nat}{A:List Nat}(a:AtI l m A)(h2:2<=m){n:Nd}{s:Nat}(hs:∀t,t<s->¬stp l A n ((hsh n+t)%32768))(h0:A.getD ((hsh n+s)%32768) 0=0)(hn:nth l m=n):AtI l (m+1) (A.set ((hsh n+s)%32768) m):=by
 have hk:(hsh n+s)%32768<A.length:=by rw[a.len]; exact qR _ (by decide)
 generalize hkk:(hsh n+s)%32768=k at h0 hk;have g:∀j,(A.set k m).getD j 0=if j=k then m else A.getD j 0:=fun j=>AFS m j hk
 refine⟨by rw[zY]; exact a.len,fun j h=>?_,fun j j' h e=>?_,fun i hi him=>?_⟩
 .rw[g] at h|-
  split at h
  .rename_i q; rw[if_pos q]; omega
  .rename_i q; rw[if_neg q]; have:=a.rg j h; omega
 .rw[g] at h e
  rw[g] at e;by_cases q:j=k
  .by_cases q':j'=k
   .rw[q,q']
   .rw[if_pos q,if_neg q'] at e
    have:=a.rg j' (by omega); omega
  .rw[if_neg q] at h e
   by_cases q':j'=k
   .rw[if_pos q'] at e
    have:=a.rg j h; omega
   .rw[if_neg q'] at e
    exact a.inj j j' h e
 .rcases jY i m with q|q
  .obtain⟨s0,e0,q0⟩:=a.fd i hi q
   refine⟨s0,?_,fun t ht=>?_⟩
   .rw[g,if_neg (fun z=>by rw[z] at e0; omega)]; exact e0
   .rw[g]
    split
    .omega
    .exact q0 t ht
  .have:i=m:=by omega
   subst this;rw[hn];refine⟨s,by rw[hkk,g,if_pos rfl],fun t ht=>?_⟩;rw[g];split
   .omega
   .intro z; exact hs t ht (.inl z)
theorem AtI.go {l l':Dg}{m:Nat}{A:List Nat}(a:AtI l m A)(hm:m<=l.length)(x:Xt l l'):AtI l' m A :=
 ⟨a.len,a.rg,a.inj,fun i h2 hi=>by rw[x.nth (by omega)]; exact a.fd i h2 hi⟩
theorem AWG {l:Dg}(v:VD l){n:Nd}(hn:n.lv<20)(h:∀i,2<=i->i<l.length->nth l i≠n):fnd n l=none:=by
 cases e:fnd n l with
 | none=>rfl
 | some i =>
   have hg:=TN e;have hi:=QZ hg;have hi':=UG hg;rcases jY i 2 with q|q
   .have:=v.lv_low (show i<=1 by omega)
    rw[hi'] at this; omega
   .exact absurd hi' (h i q hi)
theorem AZU {l:Dg}(v:VD l){n:Nd}{i:Nat}(hi:i<l.length)(h:nth l i=n):fnd n l=some i:=v.fnd (by rw[QN hi,h])
structure Kn where
 f:Nat
 g:Nat
 h:Nat
 tb:Nat
 is:Nat
def tOp (tb:Nat):B3:=fun f g h=>tb.testBit (4*tn f+2*tn g+tn h)
def KI (l:Dg)(K:List Kn):Prop:=K.length=32768∧∀x∈K,x.tb≠0->x.f<l.length∧x.g<l.length∧x.h<l.length∧ap (tOp x.tb) x.f x.g x.h l=some (x.is,l)
theorem KI.zero (l:Dg):KI l (jJ 32768 ⟨0,0,0,0,0⟩):=⟨by rw[List.length_replicate],fun x hx h=>by rw[List.eq_of_mem_replicate hx] at h; exact absurd rfl h⟩
theorem KI.go {l l':Dg}{K:List Kn}(k:KI l K)(v:VD l)(v':VD l')(x:Xt l l'):KI l' K:=⟨k.1,fun y hy h=>by
 obtain⟨a,b,c,d⟩:=k.2 y hy h
 exact⟨x.lt a,x.lt b,x.lt c,(AYJ (tOp y.tb) v a b c _ _ d).2.2.1 l' v' x⟩⟩
theorem KI.put {l:Dg}{K:List Kn}(k:KI l K)(j:Nat){y:Kn}(h:y.f<l.length∧y.g<l.length∧y.h<l.length∧ap (tOp y.tb) y.f y.g y.h l=some (y.is,l)):KI l (K.set j y):=⟨by rw[zY]; exact k.1,fun x hx hne=>by
 rcases List.mem_or_eq_of_mem_set hx with q|rfl
 .exact k.2 x q hne
 .exact h⟩
theorem ZZ (op op':B3)(h:∀f g,op f g g=op' f g g):∀(k f g:Nat),app op k f g g=app op' k f g g
 | 0,_,_=>rfl
 | k+1,f,g=>by funext l; simp only[app]; rw[ZZ op op' h k]; simp only[ZZ op op' h k,h]
theorem AHV (op op':B3)(h:∀f,op f f f=op' f f f):∀(k f:Nat),app op k f f f=app op' k f f f
 | 0,_=>rfl
 | k+1,f=>by funext l; simp only[app]; rw[AHV op op' h k]; simp only[AHV op op' h k,h]
theorem AXC (op op':B3)(h:∀f g k,op f g k=op' f g k):op=op':=by funext f g k; exact h f g k
theorem A4E (f:Nat):ap (tOp 1) f f f=LQ f:=AHV _ _ (fun f=>by cases f<;>decide) 21 f
theorem A4F (f g:Nat):ap (tOp 128) f g g=KA f g:=ZZ _ _ (fun f g=>by cases f<;>cases g<;>decide) 21 f g
theorem tOr (f g:Nat):ap (tOp 254) f g g=oOr f g:=ZZ _ _ (fun f g=>by cases f<;>cases g<;>decide) 21 f g
theorem A4D (f g:Nat):ap (tOp 24) f g g=NS f g:=ZZ _ _ (fun f g=>by cases f<;>cases g<;>decide) 21 f g
theorem tCh (f g h:Nat):ap (tOp 202) f g h=oCh f g h:=by
 unfold oCh;rw[AXC (tOp 202) bCh (fun f g h=>by cases f<;>cases g<;>cases h<;>decide)]
end Go.Proofs.YtgnoolgeijmlaaaGreatDoor.Bl
set_option linter.unusedSimpArgs false
set_option maxRecDepth 8000
namespace Go.Proofs.YtgnoolgeijmlaaaGreatDoor.Bl
open Sm Bins Cov Xe Wd Go.Proofs.YtgnoolgeijmlaaaGreatDoor.Bd Go.RowKit
open Bool renaming not_false→jC,not_true→jZ,false_eq_true→jQ,or_false→jV
open List renaming getD_eq_getElem?_getD→zM,getElem?_map→zL,replicate→jJ,getElem?_set_ne→jS,length_map→jR,contains_cons→jW,contains_nil→jI,map_cons→jF,map_nil→jE,append_nil→jD,drop_zero→qL,take_of_length_le→zH,length_set→zY,length_append→zT,getElem?_eq_getElem→jX,length_take→zX,all_eq_true→zQ,drop_eq_nil_of_le→zF,take_succ_cons→wJ,take_zero→qC,append_assoc→zJ,getElem?_cons_succ→jU,getElem?_cons_zero→jT
open Nat renaming zero_add→jG,le_refl→jP,le_of_ble_eq_true→jH,reduceEqDiff→jA,add_zero→jL,mod_lt→qR,lt_or_ge→jY,reduceAdd→jM,reduceBEq→jK,eq_zero_or_pos→qQ
open Option renaming getD_some→jB,getD_none→jO
def KF (x:Kn):List AV:=[iA x.f,iA x.g,iA x.h,iA x.tb,iA x.is]
def cB (ba bk nb n:Nat)(rest:List AV)(e:Bool):List AV:=.own nb 0 n :: .own ba 0 32768 :: .own bk 0 32768::(rest++[.int .i64 (if e=true then 2 else 0)])
structure RS (bb ba bk:Nat) (rest:List AV) (nb:Nat) (l:Dg) (e:Bool) (H:Hp):Prop where
 b:H[bb]?=some (.live 10 [cB ba bk nb l.length rest e])
 n:H[nb]?=some (.live 3 (l.map DY))
 a:∃A:List Nat,isI H ba (wI A)∧A.length=32768∧(e=false->AtI l l.length A)
 k:∃K:List Kn,H[bk]?=some (.live 5 (K.map KF))∧K.length=32768∧(e=false->KI l K)
 v:VD l
 r:rest.length=6
theorem AYN:JO Tryz.prog 29=some false:=by kernel_rfl
theorem ag84:JO Tryz.prog 84=some false:=by kernel_rfl
theorem ag39:JO Tryz.prog 39=some false:=by kernel_rfl
theorem sz39:szO Tryz.prog 39=some 1:=by kernel_rfl
theorem AAE (w:Wrd)(i:Nat):(wI w).getD i 0=((w.getD i 0:Nat):Int):=by
 unfold wI;rw[zM,zM,zL];cases w[i]? <;> rfl
theorem AKT (w:Wrd)(i n:Nat):(wI w).set i ((n:Nat):Int)=wI (w.set i n):=by unfold wI; rw[List.map_set]
theorem AH9 (n:Nat):wI (jJ n 0)=jJ n 0:=by unfold wI; simp
section
variable {H:Hp} {bb ba bk nb n:Nat} {rest:List AV} {e:Bool}
theorem AJ4 (h:H[bb]?=some (.live 10 [cB ba bk nb n rest e])):DF Tryz.prog H 33 (.ptr bb 0 0)=some (.own nb 0 n):=by rw[DJ AE5 h rfl]; rfl
theorem AOG (h:H[bb]?=some (.live 10 [cB ba bk nb n rest e])):DF Tryz.prog H 29 (.ptr bb 0 1)=some (.own ba 0 32768):=by rw[DJ AYN h rfl]; rfl
theorem A2W (h:H[bb]?=some (.live 10 [cB ba bk nb n rest e])):DF Tryz.prog H 84 (.ptr bb 0 2)=some (.own bk 0 32768):=by rw[DJ ag84 h rfl]; rfl
theorem A2X (h:H[bb]?=some (.live 10 [cB ba bk nb n rest e]))(hr:rest.length=6):DF Tryz.prog H 39 (.ptr bb 0 9)=some (.int .i64 (if e=true then 2 else 0)):=by
 rw[DJ ag39 h rfl];unfold cB;show(rest++[AV.int .i64 (if e=true then 2 else 0)])[6]?=_;rw[List.getElem?_append_right (by omega),hr]; rfl
theorem AR1 {l:Dg}(hn:H[nb]?=some (.live 3 (l.map DY))){f:Nat}(hf:f<l.length):J8 3 H (.own nb 0 l.length) (.int .i64 (f:Nat))=some (.ptr nb f 0)∧DF Tryz.prog H 61 (.ptr nb f 0)=some (.agg (DY (nth l f))) ∧
  DF Tryz.prog H 3 (.ptr nb f 0)=some (iA (nth l f).lv)∧DF Tryz.prog H 3 (.ptr nb f 1)=some (iA (nth l f).lo)∧DF Tryz.prog H 3 (.ptr nb f 2)=some (iA (nth l f).hi):=by
 have hr:(l.map DY)[f]?=some (DY (nth l f)):=by rw[zL,QN hf]; rfl
 refine⟨?_,?_,?_,?_,?_⟩
 .have:=OZ (k:=3) (b:=nb) (off:=0) (len:=l.length) (kk:=.i64) hn hf
  rw[jG] at this;exact this
 .rw[GV VW P7 hn hr (jP 3)]; rfl
 .rw[DJ ag3 hn hr]; rfl
 .rw[DJ ag3 hn hr]; rfl
 .rw[DJ ag3 hn hr]; rfl
end
section
variable {bb ba bk:Nat} {rest:List AV} {nb:Nat} {l:Dg} {e:Bool} {H:Hp}
theorem RS.ll (s:RS bb ba bk rest nb l e H):DF Tryz.prog H 33 (.ptr bb 0 0)=some (.own nb 0 l.length):=AJ4 s.b
theorem RS.la (s:RS bb ba bk rest nb l e H):DF Tryz.prog H 29 (.ptr bb 0 1)=some (.own ba 0 32768):=AOG s.b
theorem RS.lk (s:RS bb ba bk rest nb l e H):DF Tryz.prog H 84 (.ptr bb 0 2)=some (.own bk 0 32768):=A2W s.b
theorem RS.le (s:RS bb ba bk rest nb l e H):DF Tryz.prog H 39 (.ptr bb 0 9)=some (.int .i64 (if e=true then 2 else 0)):=A2X s.b s.r
theorem RS.nd (s:RS bb ba bk rest nb l e H){f:Nat}(hf:f<l.length):J8 3 H (.own nb 0 l.length) (.int .i64 (f:Nat))=some (.ptr nb f 0)∧DF Tryz.prog H 61 (.ptr nb f 0)=some (.agg (DY (nth l f))) ∧
 DF Tryz.prog H 3 (.ptr nb f 0)=some (iA (nth l f).lv)∧DF Tryz.prog H 3 (.ptr nb f 1)=some (iA (nth l f).lo)∧DF Tryz.prog H 3 (.ptr nb f 2)=some (iA (nth l f).hi):=AR1 s.n hf
theorem RS.ne (s:RS bb ba bk rest nb l e H):bb≠ba∧bb≠bk∧bb≠nb∧ba≠bk∧ba≠nb∧bk≠nb:=by
 obtain⟨A,ha,_⟩:=s.a;obtain⟨K,hk,_⟩:=s.k;have ha:H[ba]?=some (.live 1 ((wI A).map qencI)):=ha;refine⟨fun e=>?_,fun e=>?_,fun e=>?_,fun e=>?_,fun e=>?_,fun e=>?_⟩
 .have:=s.b; rw[e,ha] at this; cases this
 .have:=s.b; rw[e,hk] at this; cases this
 .have:=s.b; rw[e,s.n] at this; cases this
 .rw[e,hk] at ha; cases ha
 .rw[e,s.n] at ha; cases ha
 .rw[e,s.n] at hk; cases hk
theorem RS.lt (s:RS bb ba bk rest nb l e H):bb<H.length∧ba<H.length∧bk<H.length∧nb<H.length:=by
 obtain⟨A,ha,_⟩:=s.a;obtain⟨K,hk,_⟩:=s.k;exact⟨CB s.b,CB ha,CB hk,CB s.n⟩
theorem RS.ext {H':Hp}(s:RS bb ba bk rest nb l e H)(x:Sm.ext H H'):RS bb ba bk rest nb l e H':=by
 obtain⟨A,ha,q⟩:=s.a;obtain⟨K,hk,q'⟩:=s.k;exact⟨F8 x s.b,F8 x s.n,⟨A,F8 x ha,q⟩,⟨K,F8 x hk,q'⟩,s.v,s.r⟩
theorem RS.app (s:RS bb ba bk rest nb l e H)(x:ABlk):RS bb ba bk rest nb l e (H++[x]):=s.ext ⟨[x],rfl⟩
theorem RS.set (s:RS bb ba bk rest nb l e H){c:Nat}(h1:c≠bb)(h2:c≠ba)(h3:c≠bk)(h4:c≠nb)(x:ABlk):RS bb ba bk rest nb l e (H.set c x):=by
 obtain⟨A,ha,q⟩:=s.a;obtain⟨K,hk,q'⟩:=s.k;have ha:H[ba]?=some (.live 1 ((wI A).map qencI)):=ha;exact⟨by rw[jS h1]; exact s.b,by rw[jS h4]; exact s.n,⟨A,show(H.set c x)[ba]?=_ by rw[jS h2]; exact ha,q⟩,⟨K,by rw[jS h3]; exact hk,q'⟩,s.v,s.r⟩
theorem RS.nw (s:RS bb ba bk rest nb l e H){b:Nat}{xs:List Int}(hb:isI H b xs)(hl:xs.length≠32768):b≠bb∧b≠ba∧b≠bk∧b≠nb:=by
 obtain⟨A,ha,hA,_⟩:=s.a;obtain⟨K,hk,_⟩:=s.k;have ha:H[ba]?=some (.live 1 ((wI A).map qencI)):=ha;have hb:H[b]?=some (.live 1 (xs.map qencI)):=hb;refine⟨fun e=>?_,fun e=>?_,fun e=>?_,fun e=>?_⟩
 .rw[e,s.b] at hb; cases hb
 .rw[e,ha] at hb
  have:(wI A).map qencI=xs.map qencI:=by injection hb with h1; injection h1
  have:=congrArg List.length this;rw[jR,jR,MJ] at this; omega
 .rw[e,hk] at hb; cases hb
 .rw[e,s.n] at hb; cases hb
end
theorem A1P (x y:Nd):JD Tryz.prog 61 .neq (.agg (DY x)) (.agg (DY y))=some (.bool (!decide (x=y))):=by
 rw[show JD Tryz.prog 61 .neq (.agg (DY x)) (.agg (DY y))=_ from AX0 _ _ _ _ _ _];congr 3;obtain⟨a,b,c⟩:=x;obtain⟨a',b',c'⟩:=y;rw[Bool.eq_iff_iff];simp;omega
theorem AU3 (a s:Nat):((a+s)%32768+1)%32768=(a+(s+1))%32768:=by omega
theorem AK6 (a:Nat):JD Tryz.prog 3 .rem (.int .i64 (a:Nat)) (.int .i64 32768)=some (.int .i64 ((a%32768:Nat):Int)):=ANF a 32768 (by decide)
section
variable (G:Nat->AV)
set_option maxHeartbeats 1000000 in
theorem AFJ {bb ba bk nb:Nat}{rest:List AV}{e:Bool}{l:Dg}{m:Nat}{A:List Nat}{H:Hp}(hb:H[bb]?=some (.live 10 [cB ba bk nb l.length rest e]))(hn:H[nb]?=some (.live 3 (l.map DY)))(ha:isI H ba (wI A))(a:AtI l m A)(hm:m<=l.length)(hl:l.length<=8192)
  (n:Nd) (n1:n.lv<=20) (n2:n.lo<=8192) (n3:n.hi<=8192):QCall (En G) 88 [.ptr bb 0 0,.agg (DY n)] H fun v=>∃s,v=iA ((hsh n+s)%32768)∧(∀t,t<s->¬stp l A n ((hsh n+t)%32768))∧stp l A n ((hsh n+s)%32768):=by
 refine ACalls.pureQ 1 (R:=fun v H'=>ext H H'∧∃s,v=iA ((hsh n+s)%32768)∧(∀t,t<s->¬stp l A n ((hsh n+t)%32768))∧stp l A n ((hsh n+s)%32768)) ?_ (fun v H' ⟨q1,s,q2,q3⟩=>⟨q1,s,by rw[q2]; rfl,q3⟩);refine acN Tryz.func88 rfl ?_;show awp _ _ _ _ _ (EK _ [.tmp 4] _);have bx:MG H (.agg (DY n))=some (.ptr H.length 0 0,H++[.live 3 [DY n]]):=rfl;have gn:=CU H (ABlk.live 3 [DY n]);have hb:=BO (x:=ABlk.live 3 [DY n]) hb;have hn:=BO (x:=ABlk.live 3 [DY n]) hn;have ha:isI (H++[ABlk.live 3 [DY n]]) ba (wI A):=BO ha;have hx:ext H (H++[ABlk.live 3 [DY n]]):=(ext.rfl' H).app _;simp -implicitDefEqProofs only[vQ,BD,↓reduceIte,jA,enP,OG,bx];generalize H++[ABlk.live 3 [DY n]]=H1 at gn hb hn ha hx|-;generalize H.length=nn at gn|-;have l0:=ldi (show H1[nn]?=some (.live 3 [i3 n.lv n.lo n.hi]) from gn);have lA:DF Tryz.prog H1 61 (.ptr nn 0 0)=some (.agg (DY n)):=VJ gn;have z1:IntKind.i64.wrap ((n.lv:Nat)*7919)=((n.lv*7919:Nat):Int):=by rw[wrap_i64 (by omega) (by omega)]; omega
 have z2:IntKind.i64.wrap ((n.lo:Nat)*104729)=((n.lo*104729:Nat):Int):=by rw[wrap_i64 (by omega) (by omega)]; omega
 have z3:IntKind.i64.wrap ((n.hi:Nat)*15485863)=((n.hi*15485863:Nat):Int):=by rw[wrap_i64 (by omega) (by omega)]; omega
 have z4:IntKind.i64.wrap (((n.lv*7919:Nat):Int)+((n.lo*104729:Nat):Int))=((n.lv*7919+n.lo*104729:Nat):Int):=by rw[wrap_i64 (by omega) (by omega)]; omega
 have z5:IntKind.i64.wrap (((n.lv*7919+n.lo*104729:Nat):Int)+((n.hi*15485863:Nat):Int))=((n.lv*7919+n.lo*104729+n.hi*15485863:Nat):Int):=by rw[wrap_i64 (by omega) (by omega)]; omega
 simp -implicitDefEqProofs only[vQ,BD,UR,↓reduceIte,jA,enP,QK,QJ,l0.1,l0.2.1,l0.2.2,z1,z2,z3,z4,z5,AK6];rw[show(n.lv*7919+n.lo*104729+n.hi*15485863)%32768=hsh n from rfl];obtain⟨s0,hs0,st0⟩:=a.ends (by omega) n;have la:=AOG hb;have ll:=AJ4 hb;refine GI 0 (fun F H'=>H'=H1∧∃s,F 5=iA ((hsh n+s)%32768)∧(∀t,t<s->¬stp l A n ((hsh n+t)%32768))∧stp l A n ((hsh n+s)%32768)) (fun _ _=>False) ?_ ?_ (fun _ _ q=>q.elim)
 .refine D7 (fun mm F H'=>H'=H1∧F 0=.ptr bb 0 0∧F 3=.ptr nn 0 0∧∃s,mm+s=s0∧F 5=iA ((hsh n+s)%32768)∧∀t,t<s->¬stp l A n ((hsh n+t)%32768)) s0
   ⟨rfl,by simp -implicitDefEqProofs only[vQ,↓reduceIte,jA],by simp -implicitDefEqProofs only[AA,↓reduceIte,jA],0,rfl,by simp -implicitDefEqProofs only[vQ,↓reduceIte]; exact congrArg iA (by rw[Nat.mod_eq_of_lt (ASL n)]),fun t h=>absurd h (Nat.not_lt_zero t)⟩ ?_
  rintro mm F H' ⟨rfl,f0,f3,s,hms,f5,hs⟩;have hj:(hsh n+s)%32768<32768:=qR _ (by decide);have hsc:=AU3 (hsh n) s
  have hlt:¬stp l A n ((hsh n+s)%32768)->s<s0:=fun q=>by
   rcases jY s s0 with h|h
   .exact h
   .exact absurd (show stp l A n ((hsh n+s)%32768) by rw[show s=s0 by omega]; exact st0) q
  generalize hjj:(hsh n+s)%32768=j at hj hsc hlt f5;unfold iA at f5;have hw:j<(wI A).length:=by rw[MJ,a.len]; exact hj
  have gI:=ha.ix (n:=32768) (i:=j) (kk:=.i64) hj;have gL:=ha.ld (i:=j) hw;rw[AAE] at gL;have gt0:decide (((A.getD j 0:Nat):Int)>0)=decide (A.getD j 0>0):=by rw[decide_eq_decide]; omega
  simp -implicitDefEqProofs only[BC];refine GL (by kernel_rfl) ?_;simp -implicitDefEqProofs only[vQ,CV,↓reduceIte,jA,jM,enP,KT,XX,f0,f5,la,gI,gL,gt0];by_cases h0:A.getD j 0>0
  .have hr:=a.rg j (by omega)
   have hn':=AR1 hn (f:=A.getD j 0) (by omega);rw[decide_eq_true h0];simp -implicitDefEqProofs only[vQ,QM,CV,↓reduceIte,jA,jM,enP,KT,SA,RF,XX,f0,f3,f5,la,ll,gI,gL,hn'.1,hn'.2.1,lA,A1P];by_cases he:nth l (A.getD j 0)=n
   .rw[decide_eq_true he]
    simp -implicitDefEqProofs only[vQ,↓reduceIte,jA,jZ];exact⟨trivial,s,by rw[hjj]; exact f5,hs,by rw[hjj]; exact .inr he⟩
   .rw[decide_eq_false he]
    have hno:¬stp l A n j:=fun q=>by
     rcases q with q|q
     .omega
     .exact he q
    simp -implicitDefEqProofs only[vQ,BD,↓reduceIte,jA,enP,f5,wrap_succ (show j<9223372036854775807 by omega),AK6];refine⟨s0-(s+1),by have:=hlt hno; omega,trivial,by trivial,by trivial,s+1,by have:=hlt hno; omega,by rw[hsc]; rfl,fun t ht=>?_⟩;rcases jY t s with q|q
    .exact hs t q
    .rw[show t=s by omega,hjj]; exact hno
  .rw[decide_eq_false h0]
   simp -implicitDefEqProofs only[vQ,U6,CV,EY,↓reduceIte,jA,jM];exact⟨trivial,s,by rw[hjj]; exact f5,hs,by rw[hjj]; exact .inl (by omega)⟩
 .rintro F H' ⟨rfl,s,f5,q⟩
  simp -implicitDefEqProofs only[vQ,BD,↓reduceIte,f5];exact⟨hx,s,by trivial,q⟩
end
def rn {α:Type}(m:M α)(l:Dg)(e:Bool):Option (α×Dg):=if e=true then none else m l
theorem AK2 {α β:Type}{m:M α}{k:α->M β}{l l':Dg}{e e':Bool}{a:α}(h:rn m l e=rn (ret a) l' e'):rn (m.bnd k) l e=rn (k a) l' e':=by
 cases e with
 | true => cases e' with
           | true=>rfl
           | false=>cases h
 | false => cases e' with
            | true=>exact RJ h
            | false=>exact NZ h
theorem ARD {α:Type}{m:M α}{l l':Dg}{e:Bool}{a:α}(h:rn m l e=rn (ret a) l' false):e=false∧m l=some (a,l'):=by
 cases e with
 | true=>cases h
 | false=>exact⟨rfl,h⟩
theorem AZA {α:Type}{m:M α}{l l':Dg}{e e':Bool}{a:α}(h:rn m l e=rn (ret a) l' e')(he:e'=false):e=false∧m l=some (a,l'):=by subst he; exact ARD h
def Cr0 (G:Nat->AV)(bb ba bk:Nat)(rest:List AV)(nb:Nat)(f:FuncId)(args:List AV)(H:Hp)(l:Dg)(e:Bool){α:Type}(m:M α)(VAL:α->AV->Prop):Prop :=
 ACalls (En G) f args H fun v H'=>∃a l' e' nb',rn m l e=rn (ret a) l' e'∧Xt l l'∧VAL a v∧RS bb ba bk rest nb' l' e' H'∧Kd [bb,ba,bk] nb nb' H H'
def Cr (G:Nat->AV)(bb ba bk:Nat)(rest:List AV)(nb:Nat)(f:FuncId)(args:List AV)(H:Hp)(l:Dg)(e:Bool){α:Type}(m:M α)(VAL:α->AV->Prop)(OK:α->Dg->Prop):Prop :=
 ACalls (En G) f args H fun v H'=>∃a l' e' nb',rn m l e=rn (ret a) l' e'∧Xt l l'∧VAL a v∧(e'=false->OK a l')∧RS bb ba bk rest nb' l' e' H'∧Kd [bb,ba,bk] nb nb' H H'
section
variable {G:Nat->AV} {bb ba bk:Nat} {rest:List AV} {nb:Nat} {f:FuncId} {args:List AV} {H:Hp} {l:Dg} {e:Bool} {α β:Type} {m:M α} {VAL:α->AV->Prop} {OK:α->Dg->Prop}
theorem Cr.of {R:α->Dg->Prop}(c:Cr0 G bb ba bk rest nb f args H l e m VAL)(sp:e=false->Sp l m R)(h:∀a l',R a l'->OK a l'):Cr G bb ba bk rest nb f args H l e m VAL OK :=
 ACalls.mono c fun _ _ ⟨a,l',e',nb',hr,x,hv,s,kd⟩=>⟨a,l',e',nb',hr,x,hv,fun he=>h a l' (by obtain⟨q,w⟩:=AZA hr he; exact(sp q a l' w).2.2.2),s,kd⟩
theorem Cr.use {k:α->M β}{TOT:Option (β×Dg)}{K:AV->Hp->Prop}(c:Cr G bb ba bk rest nb f args H l e m VAL OK)(hS:rn (m.bnd k) l e=TOT)
  (hc:∀a l' e' nb' v H',(e'=false->e=false)->Xt l l'->VAL a v->(e'=false->OK a l')->rn (k a) l' e'=TOT->RS bb ba bk rest nb' l' e' H'->Kd [bb,ba,bk] nb nb' H H'->K v H'):ACalls (En G) f args H K :=
 ACalls.mono c fun v H' ⟨a,l',e',nb',hr,x,hv,ho,s,kd⟩=>hc a l' e' nb' v H' (fun q=>(AZA hr q).1) x hv ho (by rw[<-hS,AK2 hr]) s kd
end
def vI (n:Nat)(v:AV):Prop:=v=iA n
def okN (n:Nat)(l:Dg):Prop:=n<l.length
def wS (w:Wrd):AV:=.sl .any 1 ((wI w).map qencI)
def vW (w:Wrd)(v:AV):Prop:=v=wS w∧w.length=16
def oW (w:Wrd)(l:Dg):Prop:=LOk l w
theorem A41 (e:Bool):((if e=true then (2:Int) else 0) != 0)=e:=by cases e<;>rfl
section
variable (G:Nat->AV) {bb ba bk:Nat} {rest:List AV} {nb:Nat} {l:Dg} {e:Bool} {H:Hp}
theorem AJH (s:RS bb ba bk rest nb l e H)(f lv one:Nat)(hf:f<l.length):PCall (En G) 156 [.ptr bb 0 0,iA f,iA lv,iA one] H (iA (half l f lv (one==1))):=by
 refine ACalls.pure0 rfl ?_;refine acN Tryz.func156 rfl ?_;show awp _ _ _ _ _ (EK _ [.tmp 8] _);obtain⟨i1,i2,i3,i4,i5⟩:=s.nd hf;unfold half iA at *;simp -implicitDefEqProofs only[vQ,BD,↓reduceIte,jA,enP,SA,OG,RF,s.ll,i1,i3,bne,X7];by_cases h1:(nth l f).lv=lv
 .rw[decide_eq_true h1,if_neg (show ¬(nth l f).lv≠lv from fun q=>q h1)]
  simp -implicitDefEqProofs only[vQ,BD,↓reduceIte,jA,jZ,enP,eq1];by_cases h2:one=1
  .rw[h2]
   simp -implicitDefEqProofs only[vQ,jK,BD,↓reduceIte,jA,enP,SA,QJ,RF,s.ll,i1,i5];exact⟨by trivial,ext.rfl' _⟩
  .rw[show(one==1)=false by simpa using h2]
   simp -implicitDefEqProofs only[vQ,BD,↓reduceIte,jA,enP,SA,QK,RF,jQ,s.ll,i1,i4];exact⟨by trivial,ext.rfl' _⟩
 .rw[decide_eq_false h1,if_pos (show(nth l f).lv≠lv from h1)]
  simp -implicitDefEqProofs only[vQ,BD,↓reduceIte,jA];exact⟨trivial,ext.rfl' _⟩
end
theorem AU2 {l:Dg}{A:List Nat}{m:Nat}(a:AtI l m A)(hm:m<=l.length){n n':Nd}{j:Nat}(h:stp (l++[n']) A n j):stp l A n j:=by
 rcases qQ (A.getD j 0) with q|q
 .exact .inl q
 .rcases h with h|h
  .exact .inl h
  .right; rw[<-h,YZ (by have:=(a.rg j (by omega)).2; omega)]
section
variable (G:Nat->AV) {bb ba bk:Nat} {rest:List AV} {nb:Nat} {l:Dg} {e:Bool} {H:Hp}
set_option maxHeartbeats 2000000 in
theorem AI6 (s:RS bb ba bk rest nb l e H)(lv lo hi:Nat)(hok:e=false->lv<20∧lo<l.length∧hi<l.length∧lv<(nth l lo).lv∧lv<(nth l hi).lv) :
  Cr0 G bb ba bk rest nb 151 [.ptr bb 0 0,iA lv,iA lo,iA hi] H l e (mk lv lo hi) vI:=by
 refine IV (H:=hint [64] []) (enM G) Tryz.func151 rfl (by kernel_rfl) (by kernel_rfl) (jH (by kernel_rfl)) ?_;show awp _ _ _ _ _ (EK _ [.tmp 8] _);unfold iA;simp -implicitDefEqProofs only[vQ,jW,jI,jK,jV,CV,BD,↓reduceIte,jA,enP,X7];by_cases h1:lo=hi
 .rw[decide_eq_true h1]
  simp -implicitDefEqProofs only[vQ,jW,jI,jK,jV,CV,BD,EY,↓reduceIte,jA];refine⟨lo,l,e,nb,?_,Xt.rfl' l,rfl,s,Kd.rfl' _ _ _⟩;cases e
  .show mk lv lo hi l=_
   unfold mk; rw[if_pos h1]; rfl
  .rfl
 rw[decide_eq_false h1];simp -implicitDefEqProofs only[vQ,jW,jI,jK,jV,CV,BD,↓reduceIte,jA,enP,XW,s.le,A41]
 cases e with
 | true =>
   simp -implicitDefEqProofs only[vQ,jW,jI,jK,jV,BD,↓reduceIte,jA];exact⟨lo,l,true,nb,rfl,Xt.rfl' l,rfl,s,Kd.rfl' _ _ _⟩
 | false =>
 obtain⟨o1,o2,o3,o4,o5⟩:=hok rfl;have mx:=s.v.mx;have sN:FO Tryz.prog (H++[ABlk.live 3 [i3 0 0 0]]) 61 (.ptr H.length 0 0) (.agg (i3 lv lo hi))=some (H++[ABlk.live 3 [i3 lv lo hi]]):=st61 _ _ _ _;have s1:=s.app (ABlk.live 3 [i3 lv lo hi]);have k1:Kd [bb,ba,bk] nb nb H (H++[ABlk.live 3 [i3 lv lo hi]]):=(Kd.rfl' _ _ _).app _;have gN:=CU H (ABlk.live 3 [i3 lv lo hi]);simp -implicitDefEqProofs only[vQ,jW,jI,jK,jV,BD,↓reduceIte,jA,enP,jO,jQ,AOL,al61,sN];generalize hH1:H++[ABlk.live 3 [i3 lv lo hi]]=H1 at s1 k1 gN|-;have lN:=VJ gN;have hlt:=s.lt;obtain⟨A,ha,hA,hat⟩:=s1.a;have at':=hat rfl;simp -implicitDefEqProofs only[vQ,jW,jI,jK,jV,BD,↓reduceIte,jA,lN];refine(show QCall (En G) 88 [.ptr bb 0 0,.agg (i3 lv lo hi)] H1 _ from AFJ G s1.b s1.n ha at' (jP _) mx ⟨lv,lo,hi⟩ (by show lv<=20; omega) (by show lo<=8192; omega) (by show hi<=8192; omega)).use ?_;rintro _ ⟨t,rfl,hs,hst⟩;generalize hj:(hsh ⟨lv,lo,hi⟩+t)%32768=j at hst;have hjl:j<32768:=by rw[<-hj]; exact qR _ (by decide)
 have hw:j<(wI A).length:=by rw[MJ,hA]; exact hjl
 have gI:=ha.ix (n:=32768) (i:=j) (kk:=.i64) hjl;have gL:=ha.ld (i:=j) hw;rw[AAE] at gL;unfold iA;simp -implicitDefEqProofs only[vQ,jW,jI,jK,jV,BD,↓reduceIte,jA,enP,KT,XX,s1.la,gI,gL,show(((A.getD j 0:Nat):Int)==0)=decide (A.getD j 0=0) from X7 _ 0];by_cases h0:A.getD j 0=0
 .rw[decide_eq_true h0]
  have hno:fnd ⟨lv,lo,hi⟩ l=none:=AWG s.v o1 (at'.no hs (by rw[hj]; exact h0));have e1:decide (((l.length:Nat):Int)≥8192)=decide (8192<=l.length):=by rw[decide_eq_decide]; omega
  simp -implicitDefEqProofs only[vQ,jW,jI,jK,jV,BD,↓reduceIte,jA,enP,SX,RF,s1.ll,e1];by_cases h8:8192<=l.length
  .rw[decide_eq_true h8]
   have hst:FO Tryz.prog H1 39 (.ptr bb 0 9) (.int .i64 2)=some (H1.set bb (ABlk.live 10 [cB ba bk nb l.length rest true])):=by
    rw[G7 (cs:=[.int .i64 2]) rfl sz39 s1.b rfl (by unfold cB; simp [s.r]),AGR _ (by unfold cB; simp [s.r])]
    have hset:(cB ba bk nb l.length rest false).set 9 (.int .i64 2)=cB ba bk nb l.length rest true:=by
     unfold cB;show AV.own nb 0 l.length :: .own ba 0 32768 :: .own bk 0 32768::((rest++[AV.int .i64 0]).set 6 (.int .i64 2))=_;rw[List.set_append_right _ _ (by rw[s.r]; exact jP 6),s.r]; rfl
    rw[hset]; rfl
   simp -implicitDefEqProofs only[vQ,jW,jI,jK,jV,BD,↓reduceIte,jA,enP,XW,jO,hst];have ne:=s1.ne;obtain⟨K,hk,hK,hki⟩:=s1.k;refine⟨0,l,true,nb,?_,Xt.rfl' l,rfl,⟨DX s1.b,by rw[jS ne.2.2.1]; exact s1.n,⟨A,by show(H1.set bb _)[ba]?=_; rw[jS ne.1]; exact ha,hA,fun q=>by cases q⟩,⟨K,by rw[jS ne.2.1]; exact hk,hK,fun q=>by cases q⟩,s.v,s.r⟩,k1.setS (.inl (by simp)) _⟩;show mk lv lo hi l=none;unfold mk; rw[if_neg h1,hno]; simp only; rw[if_pos h8]
  .rw[decide_eq_false h8]
   have hmk:mk lv lo hi l=some (l.length,l++[Nd.mk lv lo hi]):=by unfold mk; rw[if_neg h1,hno]; simp only; rw[if_neg h8]
   have hv:=(ANN s.v o1 o2 o3 o4 o5 _ _ hmk).1;have ne:=s1.ne;have hst:=ha.st (i:=j) hw ((l.length:Nat):Int);rw[AKT] at hst;have b2:(H1.set ba (.live 1 ((wI (A.set j l.length)).map qencI)))[bb]?=some (.live 10 [cB ba bk nb l.length rest false]):=by rw[jS (Ne.symm ne.1)]; exact s1.b
   have n2:(H1.set ba (.live 1 ((wI (A.set j l.length)).map qencI)))[nb]?=some (.live 3 (l.map DY)):=by rw[jS ne.2.2.2.2.1]; exact s1.n
   have a2:isI (H1.set ba (.live 1 ((wI (A.set j l.length)).map qencI))) ba (wI (A.set j l.length)):=DX ha;obtain⟨K,hk,hK,hki⟩:=s1.k;have c2:(H1.set ba (.live 1 ((wI (A.set j l.length)).map qencI)))[bk]?=some (.live 5 (K.map KF)):=by rw[jS ne.2.2.2.1]; exact hk
   have g2:(H1.set ba (.live 1 ((wI (A.set j l.length)).map qencI)))[H.length]?=some (.live 3 [i3 lv lo hi]):=by rw[jS (by omega)]; exact gN
   have k2:=k1.setS (c:=ba) (.inl (by simp)) (.live 1 ((wI (A.set j l.length)).map qencI));simp -implicitDefEqProofs only[vQ];refine GL (by kernel_rfl) ?_;simp -implicitDefEqProofs only[vQ,jW,jI,jK,jV,JJ,↓reduceIte,jA,jM,enP,KT,SX,RF,XX,jO,s1.la,s1.ll,gI,hst];generalize hH2:H1.set ba (.live 1 ((wI (A.set j l.length)).map qencI))=H2 at b2 n2 a2 c2 g2 k2|-;have lN2:=VJ g2;have ll2:=AJ4 b2;refine GL (by kernel_rfl) ?_;have lt1:=CB b2;have lt2:=CB n2;have lt3:=CB a2;have lt4:=CB c2
   have hap:IP Tryz.prog true H2 33 33 (.own nb 0 l.length) (.sl .full 3 [DY (Nd.mk lv lo hi)])=some (.own H2.length 0 (l.length+1),H2.set nb .dead++[ABlk.live 3 ((l++[Nd.mk lv lo hi]).map DY)]):=by
    have h1:KQ H2 (.own nb 0 l.length)=some (3,l.map DY):=by
     rw[OQ n2 (by simp)];rw[qL,zH (by simp)]
    have:=UW (P:=Tryz.prog) (t:=33) (x:=.sl .full 3 [DY (Nd.mk lv lo hi)]) AOX P7 AUL AWZ h1 (KJ _ _ _ _) (by simp) ⟨by simp; omega,by simp; omega⟩;rw[jR] at this;rw[this];simp
   have b2':(H2.set nb .dead++[ABlk.live 3 ((l++[Nd.mk lv lo hi]).map DY)])[bb]?=some (.live 10 [cB ba bk nb l.length rest false]):=BO (by rw[jS (Ne.symm ne.2.2.1)]; exact b2)
   have st2:FO Tryz.prog (H2.set nb .dead++[ABlk.live 3 ((l++[Nd.mk lv lo hi]).map DY)]) 33 (.ptr bb 0 0) (.own H2.length 0 (l.length+1))=some ((H2.set nb .dead++[ABlk.live 3 ((l++[Nd.mk lv lo hi]).map DY)]).set bb (ABlk.live 10 [cB ba bk H2.length (l.length+1) rest false])):=by
    rw[G7 (cs:=[.own H2.length 0 (l.length+1)]) rfl A01 b2' rfl (by unfold cB; simp),AGR _ (by unfold cB; simp)]; rfl
   have s3:RS bb ba bk rest H2.length (l++[Nd.mk lv lo hi]) false ((H2.set nb .dead++[ABlk.live 3 ((l++[Nd.mk lv lo hi]).map DY)]).set bb (ABlk.live 10 [cB ba bk H2.length (l.length+1) rest false])):=by
    refine⟨?_,?_,⟨A.set j l.length,?_,by rw[zY]; exact hA,fun _=>?_⟩,⟨K,?_,hK,fun _=>(hki rfl).go s.v hv ⟨_,rfl⟩⟩,hv,s.r⟩
    .rw[zT]
     exact DX b2'
    .rw[jS (by omega)]
     have:=CU (H2.set nb .dead) (ABlk.live 3 ((l++[Nd.mk lv lo hi]).map DY));rw[zY] at this;exact this
    .show(List.set _ _ _)[ba]?=_
     rw[jS ne.1];exact BO (by rw[jS (Ne.symm ne.2.2.2.2.1)]; exact a2)
    .rw[zT]
     have:=(at'.go (jP _) (l':=l++[Nd.mk lv lo hi]) ⟨_,rfl⟩).put (n:=⟨lv,lo,hi⟩) (s:=t) s.v.two (fun q hq w=>hs q hq (AU2 at' (jP _) w)) (by rw[hj]; exact h0) (UG (by simp));rw[hj] at this;exact this
    .rw[jS ne.2.1]
     exact BO (by rw[jS (Ne.symm ne.2.2.2.2.2)]; exact c2)
   have k3:Kd [bb,ba,bk] nb H2.length H ((H2.set nb .dead++[ABlk.live 3 ((l++[Nd.mk lv lo hi]).map DY)]).set bb (ABlk.live 10 [cB ba bk H2.length (l.length+1) rest false])):=by
    refine Kd.setS ?_ (.inl (by simp)) _;refine Kd.app ?_ _;refine⟨by rw[zY]; exact k2.len,.inr k2.len,fun k y hk hS hn=>?_⟩;rw[jS (Ne.symm hn)];exact k2.keep k y hk hS hn
   simp -implicitDefEqProofs only[vQ,jW,jI,jK,jV,KZ,JJ,BD,MC,↓reduceIte,jA,jM,enP,RF,XX,jO,ll2,lN2,show GG Tryz.prog false H2 33 1 [(0,.agg (i3 lv lo hi))]=some (.sl .full 3 [DY (Nd.mk lv lo hi)],H2) from AYF H2 (Nd.mk lv lo hi),hap,st2]
   have a3:isI ((H2.set nb .dead++[ABlk.live 3 ((l++[Nd.mk lv lo hi]).map DY)]).set bb (ABlk.live 10 [cB ba bk H2.length (l.length+1) rest false])) ba (wI (A.set j l.length)):=by
    show(List.set _ _ _)[ba]?=_;rw[jS ne.1];exact BO (by rw[jS (Ne.symm ne.2.2.2.2.1)]; exact a2)
   generalize (H2.set nb .dead++[ABlk.live 3 ((l++[Nd.mk lv lo hi]).map DY)]).set bb (ABlk.live 10 [cB ba bk H2.length (l.length+1) rest false])=H3 at s3 k3 a3|-;have hw3:j<(wI (A.set j l.length)).length:=by rw[MJ,zY,hA]; exact hjl
   have gI3:=a3.ix (n:=32768) (i:=j) (kk:=.i64) hjl;have gL3:=a3.ld (i:=j) hw3;rw[AAE,AFS _ _ (by rw[hA]; exact hjl),if_pos rfl] at gL3;simp -implicitDefEqProofs only[vQ,jW,jI,jK,jV,BD,↓reduceIte,jA,enP,KT,s3.la,gI3,gL3];exact⟨l.length,_,false,H2.length,hmk,⟨_,rfl⟩,rfl,s3,k3⟩
 .rw[decide_eq_false h0]
  have hr:=at'.rg j h0
  have he:nth l (A.getD j 0)=⟨lv,lo,hi⟩:=by
   rcases hst with q|q
   .exact absurd q h0
   .exact q
  simp -implicitDefEqProofs only[vQ,jW,jI,jK,jV,BD,↓reduceIte,jA,enP,KT,XX,s1.la,gI,gL];refine⟨A.getD j 0,l,false,nb,?_,Xt.rfl' l,rfl,s1,k1⟩;show mk lv lo hi l=_;unfold mk; rw[if_neg h1,AZU s.v hr.2 he]; rfl
end
theorem AKV {n:Nat}(h:n<=1):tn (n==1)=n:=by
 rcases qQ n with q|q
 .subst q; rfl
 .rw[show n=1 by omega]; rfl
theorem AU1 (tb:Nat){f g h:Nat}(hf:f<=1)(hg:g<=1)(hh:h<=1):tb/2^(4*f+2*g+h)%2=tn (tOp tb (f==1) (g==1) (h==1)):=by
 unfold tOp;rw[AKV hf,AKV hg,AKV hh,Nat.testBit_eq_decide_div_mod_eq];generalize tb/2^(4*f+2*g+h)=q;have:=qR q (show 0<2 by decide);by_cases h1:q%2=1
 .rw[decide_eq_true h1]; exact h1
 .rw[decide_eq_false h1]; show _=0; omega
theorem al179 (h:Hp):J6 Tryz.prog h 179=some (.ptr h.length 0 0,h++[.live 5 [KF ⟨0,0,0,0,0⟩]]):=JU (row:=KF ⟨0,0,0,0,0⟩) (by kernel_rfl)
theorem A06 (h:Hp)(x:Kn):FO Tryz.prog (h++[.live 5 [KF ⟨0,0,0,0,0⟩]]) 179 (.ptr h.length 0 0) (.agg (KF x))=some (h++[.live 5 [KF x]]):=by
 rw[AAH (cs:=KF x) rfl AIG (by exact jP 5)]; rfl
theorem ldk {h:Hp}{b:Nat}{x:Kn}(hb:h[b]?=some (.live 5 [KF x])):DF Tryz.prog h 3 (.ptr b 0 0)=some (iA x.f)∧DF Tryz.prog h 3 (.ptr b 0 1)=some (iA x.g)∧DF Tryz.prog h 3 (.ptr b 0 2)=some (iA x.h)∧DF Tryz.prog h 3 (.ptr b 0 3)=some (iA x.tb)∧DF Tryz.prog h 3 (.ptr b 0 4)=some (iA x.is):=by
 refine⟨?_,?_,?_,?_,?_⟩<;>rw[DJ ag3 hb (row:=KF x) rfl]<;>rfl
theorem A3O (f g h t i:Nat):KD Tryz.prog 179 [(0,.int .i64 (f:Nat)),(1,.int .i64 (g:Nat)),(2,.int .i64 (h:Nat)),(3,.int .i64 (t:Nat)),(4,.int .i64 (i:Nat))]=some (.agg (KF ⟨f,g,h,t,i⟩)):=by kernel_rfl
theorem AX3 {H:Hp}{b:Nat}{K:List Kn}(hk:H[b]?=some (.live 5 (K.map KF))){j:Nat}(hj:j<K.length):J8 5 H (.own b 0 32768) (.int .i64 (j:Nat))=(if j<32768 then some (.ptr b j 0) else none)∧DF Tryz.prog H 179 (.ptr b j 0)=some (.agg (KF K[j])):=by
 have hr:(K.map KF)[j]?=some (KF K[j]):=by rw[zL,jX hj]; rfl
 refine⟨?_,?_⟩
 .split
  .rename_i h
   have:=OZ (k:=5) (b:=b) (off:=0) (len:=32768) (kk:=.i64) hk h;rw[jG] at this;exact this
  .rename_i h
   simp [J8,hk]; omega
 .rw[GV A3V AIG hk hr (jP 5)]; rfl
theorem A11 {H:Hp}{b:Nat}{K:List Kn}(hk:H[b]?=some (.live 5 (K.map KF))){j:Nat}(hj:j<K.length)(x:Kn):FO Tryz.prog H 179 (.ptr b j 0) (.agg (KF x))=some (H.set b (.live 5 ((K.set j x).map KF))):=by
 have hr:(K.map KF)[j]?=some (KF K[j]):=by rw[zL,jX hj]; rfl
 rw[G7 (cs:=KF x) (TC rfl) AIG hk hr (by exact jP 5),List.map_set]; rfl
section
variable (G:Nat->AV) {bb ba bk:Nat} {rest:List AV}
theorem ASR {nb:Nat}{l:Dg}{e:Bool}{H:Hp}(s:RS bb ba bk rest nb l e H)(f lv:Nat)(hf:f<l.length):PCall (En G) 156 [.ptr bb 0 0,.int .i64 (f:Nat),.int .i64 (lv:Nat),.int .i64 0] H (.int .i64 ((half l f lv false:Nat):Int)):=AJH G s f lv 0 hf
theorem ASQ {nb:Nat}{l:Dg}{e:Bool}{H:Hp}(s:RS bb ba bk rest nb l e H)(f lv:Nat)(hf:f<l.length):PCall (En G) 156 [.ptr bb 0 0,.int .i64 (f:Nat),.int .i64 (lv:Nat),.int .i64 1] H (.int .i64 ((half l f lv true:Nat):Int)):=AJH G s f lv 1 hf
theorem AF9 {nb:Nat}{l:Dg}{H:Hp}(s:RS bb ba bk rest nb l true H)(tb f g h:Nat):Cr0 G bb ba bk rest nb 107 [.ptr bb 0 0,iA tb,iA f,iA g,iA h] H l true (ap (tOp tb) f g h) vI:=by
 refine acN Tryz.func107 rfl ?_;show awp _ _ _ _ _ (EK _ [.tmp 10] _);unfold iA;simp -implicitDefEqProofs only[vQ,BD,↓reduceIte,jA,enP,XW,s.le,show((2:Int) != 0)=true from rfl];exact⟨0,l,true,nb,rfl,Xt.rfl' l,rfl,s,Kd.rfl' _ _ _⟩
set_option maxHeartbeats 4000000 in
theorem AT0 (tb:Nat)(ht:tb<256)(ht0:tb≠0):∀(k nb:Nat) (l:Dg) (H:Hp) (f g h:Nat),RS bb ba bk rest nb l false H->f<l.length->g<l.length->h<l.length->20<II l f g h+k ->
  Cr0 G bb ba bk rest nb 107 [.ptr bb 0 0,iA tb,iA f,iA g,iA h] H l false (ap (tOp tb) f g h) vI:=by
 intro k
 induction k with
 | zero =>
   intro nb l H f g h s hf hg hh hk;have:=s.v.lv_le hf;unfold II at hk;omega
 | succ k ih =>
 intro nb l H f g h s hf hg hh hk;have v:=s.v;have mx:=v.mx;have lf:=v.lv_le hf;have lg:=v.lv_le hg;have lh:=v.lv_le hh;refine acN Tryz.func107 rfl ?_;show awp _ _ _ _ _ (EK _ [.tmp 10] _);unfold iA;have ixf:=(s.nd hf).1;have ixg:=(s.nd hg).1;have ixh:=(s.nd hh).1;have lvf:=(s.nd hf).2.2.1;have lvg:=(s.nd hg).2.2.1;have lvh:=(s.nd hh).2.2.1;unfold iA at lvf lvg lvh;simp -implicitDefEqProofs only[vQ,BD,↓reduceIte,jA,enP,XW,jQ,s.le,show((0:Int) != 0)=false from rfl];refine GL (by kernel_rfl) ?_;simp -implicitDefEqProofs only[vQ,JJ,BD,↓reduceIte,jA,jM,enP,SA,OG,RF,s.ll,ixf,ixg,ixh,lvf,lvg,lvh,AQO,ANP,AFN];rw[show min (min (nth l f).lv (nth l g).lv) (nth l h).lv=II l f g h from rfl];generalize hm:II l f g h=lv at hk|-;have m1:lv<=(nth l f).lv∧lv<=(nth l g).lv∧lv<=(nth l h).lv:=by rw[<-hm]; unfold II; omega
 simp -implicitDefEqProofs only[A2I];by_cases h20:lv=20
 .rw[decide_eq_true h20]
  have hap:ap (tOp tb) f g h l=some (tn (tOp tb (f==1) (g==1) (h==1)),l):=AT4 _ (by omega);have f1:=v.lv_end hf (by omega);have g1:=v.lv_end hg (by omega);have h1:=v.lv_end hh (by omega);have w1:IntKind.i64.wrap (4*((f:Nat):Int))=((4*f:Nat):Int):=by rw[wrap_i64 (by omega) (by omega)]; omega
  have w2:IntKind.i64.wrap (2*((g:Nat):Int))=((2*g:Nat):Int):=by rw[wrap_i64 (by omega) (by omega)]; omega
  have w3:IntKind.i64.wrap (((4*f:Nat):Int)+((2*g:Nat):Int))=((4*f+2*g:Nat):Int):=by rw[wrap_i64 (by omega) (by omega)]; omega
  have w4:IntKind.i64.wrap (((4*f+2*g:Nat):Int)+((h:Nat):Int))=((4*f+2*g+h:Nat):Int):=by rw[wrap_i64 (by omega) (by omega)]; omega
  have hlt:tb/2^(4*f+2*g+h)<4294967296:=Nat.lt_of_le_of_lt (Nat.div_le_self _ _) (by omega);simp -implicitDefEqProofs only[vQ,BD,UR,↓reduceIte,jA,enP,w1,w2,w3,w4,AQ7 tb (4*f+2*g+h) (by omega),and1 _ hlt];exact⟨_,l,false,nb,hap,Xt.rfl' l,by unfold vI iA; rw[AU1 tb f1 g1 h1],s,Kd.rfl' _ _ _⟩
 rw[decide_eq_false h20];have h20':lv<20:=by omega
 have z1:IntKind.i64.wrap ((f:Nat)*7919)=((f*7919:Nat):Int):=by rw[wrap_i64 (by omega) (by omega)]; omega
 have z2:IntKind.i64.wrap ((g:Nat)*104729)=((g*104729:Nat):Int):=by rw[wrap_i64 (by omega) (by omega)]; omega
 have z3:IntKind.i64.wrap ((h:Nat)*15485863)=((h*15485863:Nat):Int):=by rw[wrap_i64 (by omega) (by omega)]; omega
 have z4:IntKind.i64.wrap (((f*7919:Nat):Int)+((g*104729:Nat):Int))=((f*7919+g*104729:Nat):Int):=by rw[wrap_i64 (by omega) (by omega)]; omega
 have z5:IntKind.i64.wrap (((f*7919+g*104729:Nat):Int)+((h*15485863:Nat):Int))=((f*7919+g*104729+h*15485863:Nat):Int):=by rw[wrap_i64 (by omega) (by omega)]; omega
 have z6:IntKind.i64.wrap ((tb:Nat)*31)=((tb*31:Nat):Int):=by rw[wrap_i64 (by omega) (by omega)]; omega
 have z7:IntKind.i64.wrap (((f*7919+g*104729+h*15485863:Nat):Int)+((tb*31:Nat):Int))=((f*7919+g*104729+h*15485863+tb*31:Nat):Int):=by rw[wrap_i64 (by omega) (by omega)]; omega
 simp -implicitDefEqProofs only[vQ,BD,UR,↓reduceIte,jA,enP,AS5,z1,z2,z3,z4,z5,z6,z7,AK6];generalize hj:(f*7919+g*104729+h*15485863+tb*31)%32768=j;have hjl:j<32768:=by rw[<-hj]; exact qR _ (by decide)
 clear z1 z2 z3 z4 z5 z6 z7;obtain⟨K,hK,hKl,hKI⟩:=s.k;have hKI:=hKI rfl;have kn:=AX3 hK (j:=j) (by omega);rw[if_pos hjl] at kn;generalize hx:K[j]'(by omega)=x at kn;have hxm:x∈K:=by rw[<-hx]; exact List.getElem_mem _
 have s1:=s.app (ABlk.live 5 [KF x]);have k1:Kd [bb,ba,bk] nb nb H (H++[ABlk.live 5 [KF x]]):=(Kd.rfl' _ _ _).app _;have gx:=CU H (ABlk.live 5 [KF x]);simp -implicitDefEqProofs only[vQ,BD,↓reduceIte,jA,enP,A14,AWI,jO,s.lk,kn.1,kn.2,al179,A06];have slt:=s.lt;have bl:(H++[ABlk.live 5 [KF x]]).length=H.length+1:=by simp
 generalize hH1:H++[ABlk.live 5 [KF x]]=H1 at s1 k1 gx bl|-;have xl:=ldk gx;unfold iA at xl;simp -implicitDefEqProofs only[vQ,CV,BD,↓reduceIte,jA,enP,xl.1,xl.2.1,xl.2.2.1,xl.2.2.2.1,X7];refine RU (fun F H'=>F 99=.bool (decide (x.tb=tb∧x.f=f∧x.g=g∧x.h=h))∧F 0=.ptr bb 0 0∧F 1=iA tb∧F 2=iA f∧F 3=iA g∧F 4=iA h∧F 11=iA lv∧F 12=iA j∧F 13=.ptr H.length 0 0∧H'=H1) ?_ ?_
 .by_cases q1:x.tb=tb<;>by_cases q2:x.f=f<;>by_cases q3:x.g=g<;>by_cases q4:x.h=h
  all_goals
   simp -implicitDefEqProofs only[vQ,CV,BD,EY,↓reduceIte,jA,decide_true,decide_false,enP,AWL,AWK,AWJ,q1,q2,q3,q4,xl.1,xl.2.1,xl.2.2.1,X7,decide_true,decide_false];refine⟨by first|trivial|(simp [q1,q2,q3,q4]),?_⟩
   first|trivial|exact⟨rfl,rfl,rfl,rfl,rfl,rfl,rfl,rfl,rfl⟩
 rintro F H' ⟨f99,f0,f1,f2,f3,f4,f11,f12,f13,rfl⟩;unfold iA at f1 f2 f3 f4 f11 f12;simp -implicitDefEqProofs only[vQ,f99];refine C9 (fun hq=>?_) (fun hq=>?_)
 .obtain⟨q1,q2,q3,q4⟩:=of_decide_eq_true hq
  have hap:=(hKI.2 x hxm (by rw[q1]; exact ht0)).2.2.2;rw[q1,q2,q3,q4] at hap;simp -implicitDefEqProofs only[vQ,BD,↓reduceIte,enP,AWH,f13,xl.2.2.2.2];exact⟨x.is,l,false,nb,hap,Xt.rfl' l,rfl,s1,k1⟩
 -- both branches
 have hl0:∀one,half l f lv one<l.length∧lv<(nth l (half l f lv one)).lv:=fun one=>OB v hf one h20' m1.1
 have hl1:∀one,half l g lv one<l.length∧lv<(nth l (half l g lv one)).lv:=fun one=>OB v hg one h20' m1.2.1
 have hl2:∀one,half l h lv one<l.length∧lv<(nth l (half l h lv one)).lv:=fun one=>OB v hh one h20' m1.2.2
 have m2:∀one,lv<II l (half l f lv one) (half l g lv one) (half l h lv one):=fun one=>by
  have:=(hl0 one).2; have:=(hl1 one).2; have:=(hl2 one).2;unfold II; omega
 have hstep:=AOO (tOp tb) v hf hg hh hm h20;simp -implicitDefEqProofs only[vQ,BD,↓reduceIte,jA,f0,f1,f2,f11];refine(ASR G s1 f lv hf).use ?_;simp -implicitDefEqProofs only[vQ,BD,↓reduceIte,jA,f0,f3,f11];refine(ASR G s1 g lv hg).use ?_;simp -implicitDefEqProofs only[vQ,BD,↓reduceIte,jA,f0,f4,f11];refine(ASR G s1 h lv hh).use ?_;simp -implicitDefEqProofs only[vQ,BD,↓reduceIte,jA,f0,f1];refine ACalls.mono (ih nb l _ _ _ _ s1 (hl0 false).1 (hl1 false).1 (hl2 false).1 (by have:=m2 false; omega)) ?_;rintro _ H2 ⟨n1,l2,e2,nb2,hr1,x2,rfl,s2,k2⟩;have v2:=s2.v;have hv2:∀f one,f<l.length->half l2 f lv one=half l f lv one:=fun f one hfl=>by unfold half; rw[x2.nth hfl]
 have k12:=k1.trans k2;unfold iA;simp -implicitDefEqProofs only[vQ,BD,↓reduceIte,jA,f0,f1,f2,f11];refine(ASQ G s2 f lv (x2.lt hf)).use ?_;simp -implicitDefEqProofs only[vQ,BD,↓reduceIte,jA,f0,f3,f11];refine(ASQ G s2 g lv (x2.lt hg)).use ?_;simp -implicitDefEqProofs only[vQ,BD,↓reduceIte,jA,f0,f4,f11];refine(ASQ G s2 h lv (x2.lt hh)).use ?_;simp -implicitDefEqProofs only[vQ,BD,↓reduceIte,jA,f0,f1,hv2 _ _ hf,hv2 _ _ hg,hv2 _ _ hh]
 have hcall:Cr0 G bb ba bk rest nb2 107 [.ptr bb 0 0,iA tb,iA (half l f lv true),iA (half l g lv true),iA (half l h lv true)] H2 l2 e2 (ap (tOp tb) (half l f lv true) (half l g lv true) (half l h lv true)) vI:=by
  cases e2 with
  | true=>exact AF9 G s2 tb _ _ _
  | false =>
    refine ih nb2 l2 H2 _ _ _ s2 (x2.lt (hl0 true).1) (x2.lt (hl1 true).1) (x2.lt (hl2 true).1) ?_
    have:II l2 (half l f lv true) (half l g lv true) (half l h lv true)=II l (half l f lv true) (half l g lv true) (half l h lv true):=by
     unfold II; rw[x2.nth (hl0 true).1,x2.nth (hl1 true).1,x2.nth (hl2 true).1]
    rw[this]; have:=m2 true; omega
 refine ACalls.mono hcall ?_;rintro _ H3 ⟨n2,l3,e3,nb3,hr2,x3,rfl,s3,k3⟩;have v3:=s3.v;have x13:=x2.trans x3;have k13:=k12.trans k3;unfold iA;simp -implicitDefEqProofs only[vQ,BD,↓reduceIte,jA,f0,f11]
 have hnode:=AI6 G s3 lv n1 n2 (fun he3=>by
  subst he3;obtain⟨rfl,ha2⟩:=ARD hr2;obtain⟨_,ha1⟩:=ARD hr1;obtain⟨_,_,_,p1,p2⟩:=MB _ v (hl0 false).1 (hl1 false).1 (hl2 false).1 ha1;obtain⟨_,_,_,p3,p4⟩:=MB _ v2 (x2.lt (hl0 true).1) (x2.lt (hl1 true).1) (x2.lt (hl2 true).1) ha2
  have e:II l2 (half l f lv true) (half l g lv true) (half l h lv true)=II l (half l f lv true) (half l g lv true) (half l h lv true):=by
   unfold II; rw[x2.nth (hl0 true).1,x2.nth (hl1 true).1,x2.nth (hl2 true).1]
  rw[e] at p4;refine⟨h20',x3.lt p1,p3,?_,?_⟩
  .rw[x3.nth p1]; have:=m2 false; omega
  .have:=m2 true; omega)
 refine ACalls.mono hnode ?_;rintro _ H4 ⟨n3,l4,e4,nb4,hr3,x4,rfl,s4,k4⟩;have x14:=x13.trans x4;have k14:=k13.trans k4
 have hall:rn (ap (tOp tb) f g h) l false=rn (ret n3) l4 e4:=by
  have h0:rn (ap (tOp tb) f g h) l false=rn ((ap (tOp tb) (half l f lv false) (half l g lv false) (half l h lv false)).bnd fun lo=>(ap (tOp tb) (half l f lv true) (half l g lv true) (half l h lv true)).bnd fun hi=>mk lv lo hi) l false:=hstep;rw[h0,AK2 hr1,AK2 hr2,hr3]
 obtain⟨K4,hK4,hKl4,hKI4⟩:=s4.k;have kn4:=AX3 hK4 (j:=j) (by omega);rw[if_pos hjl] at kn4;unfold iA;simp -implicitDefEqProofs only[vQ,BD,↓reduceIte,jA,enP,A14,AS5,jO,f0,f1,f2,f3,f4,f12,s4.lk,A3O,kn4.1,A11 hK4 (show j<K4.length by omega)];have ne:=s4.ne;obtain⟨A4,hA4,qA4⟩:=s4.a
 refine⟨n3,l4,e4,nb4,hall,x14,rfl,⟨by rw[jS (Ne.symm ne.2.1)]; exact s4.b,by rw[jS ne.2.2.2.2.2]; exact s4.n,⟨A4,by show(List.set _ _ _)[ba]?=_; rw[jS (Ne.symm ne.2.2.2.1)]; exact hA4,qA4⟩,
  ⟨K4.set j ⟨f,g,h,tb,n3⟩,DX hK4,by rw[zY]; exact hKl4,fun he4=>?_⟩,s4.v,s4.r⟩,k14.setS (.inl (by simp)) _⟩
 refine(hKI4 he4).put j ⟨x14.lt hf,x14.lt hg,x14.lt hh,?_⟩;have:=(AZA hall he4).2;exact(MB _ v hf hg hh this).2.2.1 l4 s4.v (Xt.rfl' _)
theorem TS {nb:Nat}{l:Dg}{e:Bool}{H:Hp}(s:RS bb ba bk rest nb l e H)(tb:Nat)(ht:tb<256)(ht0:tb≠0)(f g h:Nat)(hok:e=false->f<l.length∧g<l.length∧h<l.length) :
  Cr0 G bb ba bk rest nb 107 [.ptr bb 0 0,iA tb,iA f,iA g,iA h] H l e (ap (tOp tb) f g h) vI:=by
 cases e with
 | true=>exact AF9 G s tb f g h
 | false=>obtain⟨a,b,c⟩:=hok rfl; exact AT0 G tb ht ht0 21 nb l H f g h s a b c (by omega)
end
theorem Cr0.eq {G:Nat->AV}{bb ba bk:Nat}{rest:List AV}{nb:Nat}{f:FuncId}{args:List AV}{H:Hp}{l:Dg}{e:Bool}{α:Type}{m m':M α}{VAL:α->AV->Prop}(c:Cr0 G bb ba bk rest nb f args H l e m VAL)(h:m=m'):Cr0 G bb ba bk rest nb f args H l e m' VAL:=h▸c
section
variable (G:Nat->AV) {bb ba bk:Nat} {rest:List AV} {nb:Nat} {l:Dg} {e:Bool} {H:Hp}
theorem AEU (s:RS bb ba bk rest nb l e H)(f:Nat)(hf:e=false->f<l.length):Cr G bb ba bk rest nb 92 [.ptr bb 0 0,iA f] H l e (LQ f) vI okN:=by
 refine Cr.of ?_ (fun he=>OE s.v (hf he)) (fun a l' q=>q.1);refine acN Tryz.func92 rfl ?_;show awp _ _ _ _ _ (EK _ [.tmp 4] _);simp -implicitDefEqProofs only[vQ,BD,↓reduceIte,jA,enP];refine ACalls.mono ((TS G s 1 (by decide) (by decide) f f f fun he=>⟨hf he,hf he,hf he⟩).eq (A4E f)) ?_;intro v H' q;simp -implicitDefEqProofs only[vQ,BD,↓reduceIte];exact q
theorem rand (s:RS bb ba bk rest nb l e H)(f g:Nat)(hf:e=false->f<l.length)(hg:e=false->g<l.length):Cr G bb ba bk rest nb 48 [.ptr bb 0 0,iA f,iA g] H l e (KA f g) vI okN:=by
 refine Cr.of ?_ (fun he=>O8 s.v (hf he) (hg he)) (fun a l' q=>q.1);refine acN Tryz.func48 rfl ?_;show awp _ _ _ _ _ (EK _ [.tmp 6] _);simp -implicitDefEqProofs only[vQ,BD,↓reduceIte,jA,enP];refine ACalls.mono ((TS G s 128 (by decide) (by decide) f g g fun he=>⟨hf he,hg he,hg he⟩).eq (A4F f g)) ?_;intro v H' q;simp -implicitDefEqProofs only[vQ,BD,↓reduceIte];exact q
theorem ror (s:RS bb ba bk rest nb l e H)(f g:Nat)(hf:e=false->f<l.length)(hg:e=false->g<l.length):Cr G bb ba bk rest nb 104 [.ptr bb 0 0,iA f,iA g] H l e (oOr f g) vI okN:=by
 refine Cr.of ?_ (fun he=>U0 s.v (hf he) (hg he)) (fun a l' q=>q.1);refine acN Tryz.func104 rfl ?_;show awp _ _ _ _ _ (EK _ [.tmp 6] _);simp -implicitDefEqProofs only[vQ,BD,↓reduceIte,jA,enP];refine ACalls.mono ((TS G s 254 (by decide) (by decide) f g g fun he=>⟨hf he,hg he,hg he⟩).eq (tOr f g)) ?_;intro v H' q;simp -implicitDefEqProofs only[vQ,BD,↓reduceIte];exact q
theorem ARB (s:RS bb ba bk rest nb l e H)(f g:Nat)(hf:e=false->f<l.length)(hg:e=false->g<l.length):Cr G bb ba bk rest nb 152 [.ptr bb 0 0,iA f,iA g] H l e (NS f g) vI okN:=by
 refine Cr.of ?_ (fun he=>ACP s.v (hf he) (hg he)) (fun a l' q=>q.1);refine acN Tryz.func152 rfl ?_;show awp _ _ _ _ _ (EK _ [.tmp 6] _);simp -implicitDefEqProofs only[vQ,BD,↓reduceIte,jA,enP];refine ACalls.mono ((TS G s 24 (by decide) (by decide) f g g fun he=>⟨hf he,hg he,hg he⟩).eq (A4D f g)) ?_;intro v H' q;simp -implicitDefEqProofs only[vQ,BD,↓reduceIte];exact q
theorem rch (s:RS bb ba bk rest nb l e H)(f g h:Nat)(hf:e=false->f<l.length)(hg:e=false->g<l.length)(hh:e=false->h<l.length):Cr G bb ba bk rest nb 102 [.ptr bb 0 0,iA f,iA g,iA h] H l e (oCh f g h) vI okN:=by
 refine Cr.of ?_ (fun he=>A2V s.v (hf he) (hg he) (hh he)) (fun a l' q=>q.1);refine acN Tryz.func102 rfl ?_;show awp _ _ _ _ _ (EK _ [.tmp 8] _);simp -implicitDefEqProofs only[vQ,BD,↓reduceIte,jA,enP];refine ACalls.mono ((TS G s 202 (by decide) (by decide) f g h fun he=>⟨hf he,hg he,hh he⟩).eq (tCh f g h)) ?_;intro v H' q;simp -implicitDefEqProofs only[vQ,BD,↓reduceIte];exact q
theorem AR2 (h:Hp):IX Tryz.prog true h 29 (.int .i64 16) (.int .i64 16)=some (.own h.length 0 16,h++[.live 1 ((wI (jJ 16 0)).map qencI)]):=by
 rw[AH9]; exact ANO h 16 (by decide)
theorem UE {h:Hp}{b:Nat}{w:Wrd}(hb:isI h b (wI w)){i:Nat}(hi:i<w.length)(n:Nat):FO Tryz.prog h 3 (.ptr b i 0) (.int .i64 (n:Nat))=some (h.set b (.live 1 ((wI (w.set i n)).map qencI))):=by
 have:=hb.st (i:=i) (by rw[MJ]; exact hi) ((n:Nat):Int);rw[AKT] at this;exact this
theorem QY (n:Nat)(hn:n<=65535)(h:Hp):ACalls (En G) 89 [.int .i64 (n:Nat)] h fun v H'=>v=.own h.length 0 16∧H'=h++[.live 1 ((wI (cst n)).map qencI)]:=by
 refine acN Tryz.func89 rfl ?_;show awp _ _ _ _ _ (EK _ [.tmp 2] _);simp -implicitDefEqProofs only[vQ,BD,JV,↓reduceIte,enP,AR2];refine GI 0 (fun F H'=>F 3=.own h.length 0 16∧H'=h++[.live 1 ((wI (cst n)).map qencI)]) (fun _ _=>False) ?_ ?_ (fun _ _ q=>q.elim)
 .refine D7 (fun m F H'=>∃k,m+k=16∧F 0=.int .i64 (n:Nat)∧F 3=.own h.length 0 16∧F 4=.int .i64 (k:Nat)∧H'=h++[.live 1 ((wI ((cst n).take k++jJ (16-k) 0)).map qencI)]) 16 ⟨0,rfl,by simp -implicitDefEqProofs only[vQ,↓reduceIte,jA],by simp -implicitDefEqProofs only[AA,↓reduceIte,jA],by simp -implicitDefEqProofs only[AA,↓reduceIte]; rfl,rfl⟩ ?_
  rintro m F H' ⟨k,hk,f0,f3,f4,rfl⟩;simp -implicitDefEqProofs only[vQ,BD,↓reduceIte,enP,f4,MN];refine C9 (fun hc=>?_) (fun hc=>?_)
  .have hk':k<16:=by simpa using hc
   have hd:((cst n).take k).length=k:=by rw[zX,H8]; omega
   have hb:isI (h++[.live 1 ((wI ((cst n).take k++jJ (16-k) 0)).map qencI)]) h.length (wI ((cst n).take k++jJ (16-k) 0)):=CU _ _;have hst:=UE hb (i:=k) (by rw[IL hd (by omega)]; exact hk') (n/2^k%2);have hlt:n/2^k<4294967296:=Nat.lt_of_le_of_lt (Nat.div_le_self _ _) (by omega)
   have hck:(cst n).take k++[n/2^k%2]=(cst n).take (k+1):=by
    rw[List.take_succ_eq_append_getElem (by rw[H8]; exact hk')];congr 2;unfold cst; simp
   rw[MX hd hk',JP,hck] at hst;simp -implicitDefEqProofs only[vQ,BD,↓reduceIte,jA,enP,KT,jO,f0,f3,f4,AQ7 _ _ hk',and1 _ hlt,hb.ix (n:=16) hk',hst,wrap_succ (show k<9223372036854775807 by omega)];exact⟨m-1,by omega,k+1,by omega,by trivial,by trivial,by trivial,by trivial⟩
  .have hk':k=16:=by have:=hc; simp at this; omega
   subst hk';simp -implicitDefEqProofs only[vQ,↓reduceIte,jA];refine⟨f3,?_⟩;rw[zH (by rw[H8]; exact jP 16),grow_end (H8 n)]
 .rintro F H' ⟨f3,rfl⟩
  simp -implicitDefEqProofs only[vQ,BD,↓reduceIte,f3]
  first|done|exact⟨rfl,rfl⟩|trivial
theorem ASU (h:Hp)(w:Wrd)(hw:w.length=16):JS h.length (h++[.live 1 ((wI w).map qencI)]) 2 (.own h.length 0 16)=wS w:=by
 unfold wS;have h16:16<=((wI w).map qencI).length:=by rw[jR,MJ,hw]; exact jP 16
 have e1:(((wI w).map qencI).drop 0).take 16=(wI w).map qencI:=by rw[qL,zH (by rw[jR,MJ,hw]; exact jP 16)]
 have e2:((wI w).map qencI).map (·.map (JS h.length (h++[.live 1 ((wI w).map qencI)]) 1))=(wI w).map qencI:=by
  rw[List.map_map];congr 1
 have e3:((wI w).map qencI).all (·.all AV.leaf)=true:=by
  rw[List.all_map,zQ]; intro x _; rfl
 show(if h.length<h.length then AV.junk else match (h++[ABlk.live 1 ((wI w).map qencI)])[h.length]? with
  | some (.live k xs)=>if 0+16<=xs.length∧(((xs.drop 0).take 16).map (·.map (JS h.length (h++[.live 1 ((wI w).map qencI)]) 1))).all (·.all AV.leaf)=true then AV.sl .any k (((xs.drop 0).take 16).map (·.map (JS h.length (h++[.live 1 ((wI w).map qencI)]) 1))) else .junk
  | _=>.junk)=_
 rw[if_neg (Nat.lt_irrefl _),CU];simp only;rw[e1,e2,if_pos ⟨by omega,e3⟩]
theorem PM (n:Nat)(hn:n<=65535)(h:Hp):PCall (En G) 89 [.int .i64 (n:Nat)] h (wS (cst n)):=by
 refine ACalls.pure 2 (QY G n hn h) ?_;rintro v H' ⟨rfl,rfl⟩;exact⟨⟨_,rfl⟩,ASU h (cst n) (H8 n)⟩
theorem single_ref (t:Nat)(h:Hp):PCall (En G) 91 [.int .i64 (t:Nat)] h (wS (sgl t)):=by
 refine ACalls.pure 2 (R:=fun v H'=>v=.own h.length 0 16∧H'=h++[.live 1 ((wI (sgl t)).map qencI)]) ?_ ?_
 .refine acN Tryz.func91 rfl ?_
  show awp _ _ _ _ _ (EK _ [.tmp 2] _);have hb:isI (h++[.live 1 ((wI (jJ 16 0)).map qencI)]) h.length (wI (jJ 16 0)):=CU _ _;have hst:=UE hb (i:=0) (by decide) t;rw[JP] at hst;have hix:J8 1 (h++[.live 1 ((wI (jJ 16 0)).map qencI)]) (.own h.length 0 16) (.int .i64 0)=some (.ptr h.length 0 0):=hb.ix (n:=16) (i:=0) (by decide);simp -implicitDefEqProofs only[vQ,BD,JV,↓reduceIte,jA,enP,KT,jO,AR2,hix,hst]
  first|done|exact⟨rfl,rfl⟩|trivial
 .rintro v H' ⟨rfl,rfl⟩
  exact⟨⟨_,rfl⟩,ASU h (sgl t) (JQ t)⟩
end
structure Wk (bb ba bk:Nat) (rest:List AV) (nb:Nat) (l:Dg) (e:Bool) (H:Hp) (nb':Nat) (l':Dg) (e':Bool) (H':Hp):Prop where
 s:RS bb ba bk rest nb' l' e' H'
 k:Kd [bb,ba,bk] nb nb' H H'
 x:Xt l l'
 e:e'=false->e=false
section
variable {bb ba bk:Nat} {rest:List AV} {nb:Nat} {l:Dg} {e:Bool} {H:Hp} {nb':Nat} {l':Dg} {e':Bool} {H':Hp}
theorem Wk.rfl' (s:RS bb ba bk rest nb l e H):Wk bb ba bk rest nb l e H nb l e H:=⟨s,Kd.rfl' _ _ _,Xt.rfl' l,id⟩
theorem Wk.app (w:Wk bb ba bk rest nb l e H nb' l' e' H')(y:ABlk):Wk bb ba bk rest nb l e H nb' l' e' (H'++[y]):=⟨w.s.app y,w.k.app y,w.x,w.e⟩
theorem Wk.go {nb2:Nat}{l2:Dg}{e2:Bool}{H2:Hp}(w:Wk bb ba bk rest nb l e H nb' l' e' H')(he:e2=false->e'=false)(x:Xt l' l2)(s:RS bb ba bk rest nb2 l2 e2 H2)(k:Kd [bb,ba,bk] nb' nb2 H' H2):Wk bb ba bk rest nb l e H nb2 l2 e2 H2:=⟨s,w.k.trans k,w.x.trans x,fun q=>w.e (he q)⟩
theorem Wk.ok (w:Wk bb ba bk rest nb l e H nb' l' e' H'){xs:List Nat}(h:e=false->LOk l xs):e'=false->LOk l' xs:=fun q=>(h (w.e q)).go w.x
theorem Wk.lt (w:Wk bb ba bk rest nb l e H nb' l' e' H'){c:Nat}(h:e=false->c<l.length):e'=false->c<l'.length:=fun q=>w.x.lt (h (w.e q))
theorem Wk.st (w:Wk bb ba bk rest nb l e H nb' l' e' H'){b:Nat}{d:Wrd}(hb:isI H' b (wI d))(hd:d.length=16)(hl:H.length<=b)(y:ABlk):Wk bb ba bk rest nb l e H nb' l' e' (H'.set b y):=by
 obtain⟨n1,n2,n3,n4⟩:=w.s.nw hb (by rw[MJ,hd]; decide);exact⟨w.s.set n1 n2 n3 n4 y,w.k.setS (.inr hl) y,w.x,w.e⟩
theorem RS.own (s:RS bb ba bk rest nb l e H){b:Nat}{d:Wrd}(hb:isI H b (wI d))(hd:d.length=16)(k:Kd [bb,ba,bk] nb nb' H H'):isI H' b (wI d):=by
 obtain⟨n1,n2,n3,n4⟩:=s.nw hb (by rw[MJ,hd]; decide);exact k.keep b _ hb (by simp; exact⟨n1,n2,n3⟩) n4
end
theorem VE {α:Type}(m:M α)(l:Dg)(e:Bool):rn (m.bnd fun a=>ret a) l e=rn m l e:=by unfold rn; rw[J4]
theorem MM (H:Hp){w:Wrd}{k:Nat}(hw:w.length=16)(hk:k<16):J8 1 H (wS w) (.int .i64 (k:Nat))=some (.fptr 1 ((wI w).map qencI) k 0):=by
 unfold wS;simp [J8,MJ,hw];omega
theorem ML (H:Hp){w:Wrd}{k:Nat}(hk:k<w.length):DF Tryz.prog H 3 (.fptr 1 ((wI w).map qencI) k 0)=some (.int .i64 ((w.getD k 0:Nat):Int)):=by
 have hk':k<(wI w).length:=by rw[MJ]; exact hk
 rw[FX ag3 hk',<-AAE,zM,jX hk']; rfl
theorem MO {l:Dg}{e:Bool}{xs:List Nat}(h:e=false->LOk l xs){k:Nat}(hk:k<xs.length):e=false->xs.getD k 0<l.length:=fun q=>(h q).getD hk
theorem UF {H:Hp}{b:Nat}{d:Wrd}(hb:isI H b (wI d))(hd:d.length=16)(i:Nat):∀F:Fr,F i=.own b 0 16->O0 (F,H) i=(upd F i (wS d),H.set b .dead):=by
 intro F hF;have hb':H[b]?=some (.live 1 ((wI d).map qencI)):=hb;have e1:(((wI d).map qencI).drop 0).take 16=(wI d).map qencI:=by rw[qL,zH (by rw[jR,MJ,hd]; exact jP 16)]
 have hfz:PW ((wI d).map qencI)=true:=by
  unfold PW;rw[List.all_map,zQ]; intro x _; rfl
 unfold O0;simp only[hF,hb'];rw[if_pos ⟨by rw[jR,MJ,hd]; exact jP _,by rw[e1]; exact hfz⟩,e1]; rfl
section
variable (G:Nat->AV) {bb ba bk:Nat} {rest:List AV} {nb:Nat} {l:Dg} {e:Bool} {H:Hp}
theorem AGU (s:RS bb ba bk rest nb l e H)(w:Wrd)(hw:w.length=16)(ow:e=false->LOk l w):Cr G bb ba bk rest nb 45 [.ptr bb 0 0,wS w] H l e (trL w 0) vI okN:=by
 refine Cr.of ?_ (fun he=>QI w l 0 s.v (ow he) s.v.p0) (fun a l' q=>q.1);generalize hT:trL w 0=TM;refine acN Tryz.func45 rfl ?_;show awp _ _ _ _ _ (EK _ [.tmp 4] _);simp -implicitDefEqProofs only[vQ,BD,enP];refine GI 0 (fun F H'=>∃t l' e' nb',rn TM l e=rn (ret t) l' e'∧Wk bb ba bk rest nb l e H nb' l' e' H'∧F 5=iA t) (fun _ _=>False) ?_ ?_ (fun _ _ q=>q.elim)
 .refine D7 (fun m F H'=>∃k t l' e' nb',m+k=16∧rn (trL (w.drop k) t) l' e'=rn TM l e∧(e'=false->t<l'.length)∧Wk bb ba bk rest nb l e H nb' l' e' H'∧F 0=.ptr bb 0 0∧F 1=wS w∧F 5=iA t∧F 6=.int .i64 (k:Nat)) 16
   ⟨0,0,l,e,nb,rfl,by rw[<-hT]; rfl,fun _=>s.v.p0,Wk.rfl' s,by simp -implicitDefEqProofs only[vQ,↓reduceIte,jA],by simp -implicitDefEqProofs only[vQ,↓reduceIte,jA],by simp -implicitDefEqProofs only[AA,↓reduceIte,jA]; rfl,by simp -implicitDefEqProofs only[AA,↓reduceIte]; rfl⟩ ?_
  rintro m F H' ⟨k,t,l',e',nb',hm,hS,ht,W,f0,f1,f5,f6⟩;simp -implicitDefEqProofs only[vQ,BD,↓reduceIte,enP,f6,MN];refine C9 (fun hc=>?_) (fun hc=>?_)
  .have hk':k<16:=by simpa using hc
   have hkw:k<w.length:=by omega
   rw[IU hkw] at hS;simp -implicitDefEqProofs only[vQ,BD,↓reduceIte,jA,enP,KT,f0,f1,f5,f6,MM H' hw hk',ML H' hkw];refine(ror G W.s t (w.getD k 0) ht (MO (W.ok ow) hkw)).use (k:=fun u=>trL (w.drop (k+1)) u) hS ?_;rintro a l1 e1 nb1 _ H1 he x1 rfl ho hS1 s1 k1;simp -implicitDefEqProofs only[vQ,BD,↓reduceIte,jA,enP,f6,wrap_succ (show k<9223372036854775807 by omega)];exact⟨m-1,by omega,k+1,a,l1,e1,nb1,by omega,hS1,ho,W.go he x1 s1 k1,by trivial,by trivial,by trivial,by trivial⟩
  .have hk':k=16:=by have:=hc; simp at this; omega
   subst hk';rw[zF (by omega)] at hS;simp -implicitDefEqProofs only[vQ,↓reduceIte,jA];exact⟨t,l',e',nb',hS.symm,W,f5⟩
 .rintro F H' ⟨t,l',e',nb',hr,W,f5⟩
  simp -implicitDefEqProofs only[vQ,BD,↓reduceIte,f5];exact⟨t,l',e',nb',hr,W.x,rfl,W.s,W.k⟩
set_option maxHeartbeats 2000000 in
theorem AVB (s:RS bb ba bk rest nb l e H)(x y:Wrd)(c:Nat)(hx:x.length=16)(hy:y.length=16)(ox:e=false->LOk l x)(oy:e=false->LOk l y)(oc:e=false->c<l.length) :
  Cr G bb ba bk rest nb 95 [.ptr bb 0 0,wS x,wS y,iA c] H l e (PI x y c) vW oW:=by
 refine Cr.of ?_ (fun he=>PY x y l c s.v (by omega) (ox he) (oy he) (oc he)) (fun a l' q=>q.1.2);generalize hT:PI x y c=TM;refine IV (H:=hint [] [(56,[9])]) (enM G) Tryz.func95 rfl (by kernel_rfl) (by kernel_rfl) (jH (by kernel_rfl)) ?_;show awp _ _ _ _ _ (EK _ [.tmp 8] _);simp -implicitDefEqProofs only[vQ,jI,jK,BD,JV,↓reduceIte,enP,jQ,AR2];have q0:isI (H++[ABlk.live 1 ((wI (jJ 16 0)).map qencI)]) H.length (wI (jJ 16 0)):=CU _ _;refine GI 0 (fun F H'=>∃d l' e' nb',d.length=16∧rn TM l e=rn (ret d) l' e'∧Wk bb ba bk rest nb l e H nb' l' e' H'∧isI H' H.length (wI d)∧F 9=.own H.length 0 16) (fun _ _=>False) ?_ ?_ (fun _ _ q=>q.elim)
 .refine D7 (fun m F H'=>∃k d c l' e' nb',m+k=16∧d.length=k∧rn ((PI (x.drop k) (y.drop k) c).bnd fun r=>ret (d++r)) l' e'=rn TM l e∧(e'=false->c<l'.length)∧Wk bb ba bk rest nb l e H nb' l' e' H'∧isI H' H.length (wI (d++jJ (16-k) 0)) ∧
   F 0=.ptr bb 0 0∧F 1=wS x∧F 2=wS y∧F 3=iA c∧F 9=.own H.length 0 16∧F 10=.int .i64 (k:Nat)) 16
   ⟨0,[],c,l,e,nb,rfl,rfl,by rw[<-hT]; exact VE _ _ _,oc,(Wk.rfl' s).app _,q0,by simp -implicitDefEqProofs only[vQ,↓reduceIte,jA],by simp -implicitDefEqProofs only[vQ,↓reduceIte,jA],by simp -implicitDefEqProofs only[vQ,↓reduceIte,jA],by simp -implicitDefEqProofs only[vQ,↓reduceIte,jA],by simp -implicitDefEqProofs only[AA,↓reduceIte,jA],by simp -implicitDefEqProofs only[AA,↓reduceIte]; rfl⟩ ?_
  clear q0;rintro m F H' ⟨k,d,c,l',e',nb',hm,hd,hS,oc',W,q9,f0,f1,f2,f3,f9,f10⟩;simp -implicitDefEqProofs only[vQ,jI,jK,BD,↓reduceIte,enP,jQ,f10,MN];refine C9 (fun hc=>?_) (fun hc=>?_)
  .have hk':k<16:=by simpa using hc
   have hkx:k<x.length:=by omega
   have hky:k<y.length:=by omega
   rw[AII hx hy d c k hk'] at hS;simp -implicitDefEqProofs only[vQ,f10];refine OT 9 _ _ (by kernel_rfl) rfl rfl rfl rfl ?_;simp only[wJ,qC];simp -implicitDefEqProofs only[vQ,jI,jK,BD,↓reduceIte,jA,jM,enP,KT,jQ,f0,f1,f2,f10,MM H' hx hk',MM H' hy hk',ML H' hkx,ML H' hky];refine(ARB G W.s _ _ (MO (W.ok ox) hkx) (MO (W.ok oy) hky)).use hS ?_;rintro h l1 e1 nb1 _ H1 he1 x1 rfl oh hS1 s1 k1;have q9:=W.s.own q9 (IL hd (by omega)) k1;have W1:=W.go he1 x1 s1 k1;have oc1:e1=false->c<l1.length:=fun q=>x1.lt (oc' (he1 q))
   simp -implicitDefEqProofs only[vQ,↓reduceIte,jA,f0,f3,f9,f10];refine(ARB G s1 _ _ oh oc1).use hS1 ?_;rintro o l2 e2 nb2 _ H2 he2 x2 rfl oo hS2 s2 k2;have q9:=s1.own q9 (IL hd (by omega)) k2;have W2:=W1.go he2 x2 s2 k2;have hst:=UE q9 (i:=k) (by rw[IL hd (by omega)]; exact hk') o;rw[MX hd hk'] at hst;have hix:=q9.ix (n:=16) (i:=k) (kk:=.i64) hk';have W3:=W2.st q9 (IL hd (by omega)) (jP _) (.live 1 ((wI ((d++[o])++jJ (16-(k+1)) 0)).map qencI));have q9:isI (H2.set H.length (.live 1 ((wI ((d++[o])++jJ (16-(k+1)) 0)).map qencI))) H.length (wI ((d++[o])++jJ (16-(k+1)) 0)):=DX q9;have hd1:(d++[o]).length=k+1:=by simp [hd]
   have e15:decide (((k:Nat):Int)<15)=decide (k<15):=by rw[decide_eq_decide]; omega
   unfold iA;simp -implicitDefEqProofs only[vQ,jI,jK,BD,↓reduceIte,jA,enP,KT,jO,jQ,f9,hix,hst,f10,e15];generalize H2.set H.length (.live 1 ((wI ((d++[o])++jJ (16-(k+1)) 0)).map qencI))=H3 at W3 q9|-;refine C9 (fun h15=>?_) (fun h15=>?_)
   .have h15:k<15:=by simpa using h15
    rw[if_neg (by omega)] at hS2;simp -implicitDefEqProofs only[BC];refine OT 9 _ _ (by kernel_rfl) rfl rfl rfl rfl ?_;simp only[wJ,qC];simp -implicitDefEqProofs only[vQ,jI,jK,BD,↓reduceIte,jA,jM,enP,KT,jQ,f0,f1,f2,f10,MM H3 hx hk',MM H3 hy hk',ML H3 hkx,ML H3 hky];refine(rand G W3.s _ _ (MO (W3.ok ox) hkx) (MO (W3.ok oy) hky)).use hS2 ?_;rintro g l4 e4 nb4 _ H4 he4 x4 rfl og hS4 s4 k4;have q9:=W3.s.own q9 (IL hd1 (by omega)) k4;have W4:=W3.go he4 x4 s4 k4;simp -implicitDefEqProofs only[vQ,↓reduceIte,jA,f0,f3];refine(rand G s4 _ _ (fun q=>(x2.trans x4).lt (oh (he2 (he4 q)))) (fun q=>(x2.trans x4).lt (oc1 (he2 (he4 q))))).use hS4 ?_;rintro r l5 e5 nb5 _ H5 he5 x5 rfl or hS5 s5 k5;have q9:=s4.own q9 (IL hd1 (by omega)) k5;have W5:=W4.go he5 x5 s5 k5;simp -implicitDefEqProofs only[vQ,jI,jK,BD,↓reduceIte,jA,jQ,f0];refine(ror G s5 _ _ (fun q=>x5.lt (og (he5 q))) or).use hS5 ?_;rintro c' l6 e6 nb6 _ H6 he6 x6 rfl oc6 hS6 s6 k6;have q9:=s5.own q9 (IL hd1 (by omega)) k6;have W6:=W5.go he6 x6 s6 k6;simp -implicitDefEqProofs only[vQ,jI,jK,BD,↓reduceIte,jA,enP,jQ,f10,wrap_succ (show k<9223372036854775807 by omega)];exact⟨m-1,by omega,k+1,d++[o],c',l6,e6,nb6,by omega,hd1,hS6,oc6,W6,q9,by trivial,by trivial,by trivial,by trivial,by trivial,by trivial⟩
   .have h15:k=15:=by have:=h15; simp at this; omega
    rw[if_pos h15] at hS2;simp -implicitDefEqProofs only[vQ,jI,jK,BD,↓reduceIte,jA,enP,jQ,f10,wrap_succ (show k<9223372036854775807 by omega)];refine⟨m-1,by omega,k+1,d++[o],c,l2,e2,nb2,by omega,hd1,?_,fun q=>x2.lt (oc1 (he2 q)),W3,q9,by trivial,by trivial,by trivial,by trivial,by trivial,by trivial⟩;rw[<-hS2,zF (show x.length<=k+1 by omega)];show rn (ret ((d++[o])++[])) l2 e2=_;rw[jD]
  .have hk':k=16:=by have:=hc; simp at this; omega
   subst hk';rw[zF (show x.length<=16 by omega)] at hS;have hS:rn (ret (d++[])) l' e'=rn TM l e:=hS;rw[jD] at hS;rw[grow_end hd] at q9;simp -implicitDefEqProofs only[vQ,↓reduceIte,jA];exact⟨d,l',e',nb',hd,hS.symm,W,q9,f9⟩
 .rintro F H' ⟨d,l',e',nb',hd,hr,W,q9,f9⟩
  have W2:=W.st q9 hd (jP _) .dead;simp -implicitDefEqProofs only[vQ,jI,jK,BD,↓reduceIte,jQ,f9,UF q9 hd 9];exact⟨d,l',e',nb',hr,W2.x,⟨by trivial,hd⟩,W2.s,W2.k⟩
end
theorem ATN {w:Wrd}{k:Nat}(hk:k<w.length)(d:Wrd):((cmpL (w.drop k)).bnd fun r=>ret (d++r))=(LQ (w.getD k 0)).bnd fun g=>(cmpL (w.drop (k+1))).bnd fun r=>ret ((d++[g])++r):=by
 rw[IU hk];show(((LQ (w.getD k 0)).bnd fun g=>(cmpL (w.drop (k+1))).bnd fun s=>ret (g::s)).bnd fun r=>ret (d++r))=_;rw[G9];refine congrArg (M.bnd _) (funext fun g=>?_);rw[G9];refine congrArg (M.bnd _) (funext fun r=>?_);show ret (d++(g::r))=ret ((d++[g])++r);rw[zJ]; rfl
theorem AI0 (op:Nat->Nat->M Nat){x y:Wrd}{k:Nat}(hx:k<x.length)(hy:k<y.length)(d:Wrd):((pr2 op (x.drop k) (y.drop k)).bnd fun r=>ret (d++r))=(op (x.getD k 0) (y.getD k 0)).bnd fun g=>(pr2 op (x.drop (k+1)) (y.drop (k+1))).bnd fun r=>ret ((d++[g])++r):=by
 rw[IU hx,IU hy];show(((op (x.getD k 0) (y.getD k 0)).bnd fun g=>(pr2 op (x.drop (k+1)) (y.drop (k+1))).bnd fun s=>ret (g::s)).bnd fun r=>ret (d++r))=_;rw[G9];refine congrArg (M.bnd _) (funext fun g=>?_);rw[G9];refine congrArg (M.bnd _) (funext fun r=>?_);show ret (d++(g::r))=ret ((d++[g])++r);rw[zJ]; rfl
section
variable (G:Nat->AV) {bb ba bk:Nat} {rest:List AV} {nb:Nat} {l:Dg} {e:Bool} {H:Hp}
theorem A1F (s:RS bb ba bk rest nb l e H)(w:Wrd)(hw:w.length=16)(ow:e=false->LOk l w):Cr G bb ba bk rest nb 93 [.ptr bb 0 0,wS w] H l e (cmpL w) vW oW:=by
 refine Cr.of ?_ (fun he=>ZW w l s.v (ow he)) (fun a l' q=>q.1.2);generalize hT:cmpL w=TM;refine IV (H:=hint [] [(21,[5])]) (enM G) Tryz.func93 rfl (by kernel_rfl) (by kernel_rfl) (jH (by kernel_rfl)) ?_;show awp _ _ _ _ _ (EK _ [.tmp 4] _);simp -implicitDefEqProofs only[vQ,jI,jK,BD,JV,↓reduceIte,enP,jQ,AR2];have q0:isI (H++[ABlk.live 1 ((wI (jJ 16 0)).map qencI)]) H.length (wI (jJ 16 0)):=CU _ _;refine GI 0 (fun F H'=>∃d l' e' nb',d.length=16∧rn TM l e=rn (ret d) l' e'∧Wk bb ba bk rest nb l e H nb' l' e' H'∧isI H' H.length (wI d)∧F 5=.own H.length 0 16) (fun _ _=>False) ?_ ?_ (fun _ _ q=>q.elim)
 .refine D7 (fun m F H'=>∃k d l' e' nb',m+k=16∧d.length=k∧rn ((cmpL (w.drop k)).bnd fun r=>ret (d++r)) l' e'=rn TM l e∧Wk bb ba bk rest nb l e H nb' l' e' H'∧isI H' H.length (wI (d++jJ (16-k) 0)) ∧
   F 0=.ptr bb 0 0∧F 1=wS w∧F 5=.own H.length 0 16∧F 6=.int .i64 (k:Nat)) 16
   ⟨0,[],l,e,nb,rfl,rfl,by rw[<-hT]; exact VE _ _ _,(Wk.rfl' s).app _,q0,by simp -implicitDefEqProofs only[vQ,↓reduceIte,jA],by simp -implicitDefEqProofs only[vQ,↓reduceIte,jA],by simp -implicitDefEqProofs only[AA,↓reduceIte,jA],by simp -implicitDefEqProofs only[AA,↓reduceIte]; rfl⟩ ?_
  clear q0;rintro m F H' ⟨k,d,l',e',nb',hm,hd,hS,W,q9,f0,f1,f5,f6⟩;simp -implicitDefEqProofs only[vQ,jI,jK,BD,↓reduceIte,enP,jQ,f6,MN];refine C9 (fun hc=>?_) (fun hc=>?_)
  .have hk':k<16:=by simpa using hc
   have hkw:k<w.length:=by omega
   rw[ATN hkw] at hS;simp -implicitDefEqProofs only[vQ,jI,jK,BD,↓reduceIte,jA,enP,KT,jQ,f0,f1,f5,f6,MM H' hw hk',ML H' hkw];refine(AEU G W.s _ (MO (W.ok ow) hkw)).use hS ?_;rintro o l2 e2 nb2 _ H2 he2 x2 rfl oo hS2 s2 k2;have q9:=W.s.own q9 (IL hd (by omega)) k2;have W2:=W.go he2 x2 s2 k2;have hst:=UE q9 (i:=k) (by rw[IL hd (by omega)]; exact hk') o;rw[MX hd hk'] at hst;have hix:=q9.ix (n:=16) (i:=k) (kk:=.i64) hk';have W3:=W2.st q9 (IL hd (by omega)) (jP _) (.live 1 ((wI ((d++[o])++jJ (16-(k+1)) 0)).map qencI));unfold iA;simp -implicitDefEqProofs only[vQ,jI,jK,BD,↓reduceIte,jA,enP,KT,jO,jQ,f5,f6,hix,hst,wrap_succ (show k<9223372036854775807 by omega)];exact⟨m-1,by omega,k+1,d++[o],l2,e2,nb2,by omega,by simp [hd],hS2,W3,DX q9,by trivial,by trivial,by trivial,by trivial⟩
  .have hk':k=16:=by have:=hc; simp at this; omega
   subst hk';rw[zF (show w.length<=16 by omega)] at hS;have hS:rn (ret (d++[])) l' e'=rn TM l e:=hS;rw[jD] at hS;rw[grow_end hd] at q9;simp -implicitDefEqProofs only[vQ,↓reduceIte,jA];exact⟨d,l',e',nb',hd,hS.symm,W,q9,f5⟩
 .rintro F H' ⟨d,l',e',nb',hd,hr,W,q9,f5⟩
  have W2:=W.st q9 hd (jP _) .dead;simp -implicitDefEqProofs only[vQ,jI,jK,BD,↓reduceIte,jQ,f5,UF q9 hd 5];exact⟨d,l',e',nb',hr,W2.x,⟨by trivial,hd⟩,W2.s,W2.k⟩
theorem A1E (s:RS bb ba bk rest nb l e H)(x y:Wrd)(hx:x.length=16)(hy:y.length=16)(ox:e=false->LOk l x)(oy:e=false->LOk l y):Cr G bb ba bk rest nb 94 [.ptr bb 0 0,wS x,wS y] H l e (AA3 x y) vW oW:=by
 refine Cr.of ?_ (fun he=>ACK s.v hx hy (ox he) (oy he)) (fun a l' q=>q.1.2);refine acN Tryz.func94 rfl ?_;show awp _ _ _ _ _ (EK _ [.tmp 6] _);simp -implicitDefEqProofs only[vQ,BD,↓reduceIte,jA,enP];refine(A1F G s y hy oy).use (k:=fun n=>PI x n 1) (TOT:=rn (AA3 x y) l e) rfl ?_;rintro n l2 e2 nb2 _ H2 he2 x2 ⟨rfl,hn⟩ on hS2 s2 k2;have W2:=(Wk.rfl' s).go he2 x2 s2 k2;simp -implicitDefEqProofs only[vQ,BD,↓reduceIte,jA];refine(AVB G s2 x n 1 hx hn (W2.ok ox) on (fun _=>s2.v.p1)).use (k:=fun r=>ret r) (TOT:=rn (AA3 x y) l e) (by rw[VE]; exact hS2) ?_;rintro r l3 e3 nb3 _ H3 he3 x3 ⟨rfl,hr⟩ or hS3 s3 k3;have W3:=W2.go he3 x3 s3 k3;simp -implicitDefEqProofs only[vQ,BD,↓reduceIte];exact⟨r,l3,e3,nb3,hS3.symm,W3.x,⟨by trivial,hr⟩,W3.s,W3.k⟩
theorem AK5 (s:RS bb ba bk rest nb l e H)(x y:Wrd)(hx:x.length=16)(hy:y.length=16)(ox:e=false->LOk l x)(oy:e=false->LOk l y):Cr G bb ba bk rest nb 99 [.ptr bb 0 0,wS x,wS y] H l e (eqL x y 1) vI okN:=by
 refine Cr.of ?_ (fun he=>VP x y l 1 s.v (by omega) (ox he) (oy he) s.v.p1) (fun a l' q=>q.1);generalize hT:eqL x y 1=TM;refine acN Tryz.func99 rfl ?_;show awp _ _ _ _ _ (EK _ [.tmp 6] _);simp -implicitDefEqProofs only[vQ,BD,enP];refine GI 0 (fun F H'=>∃t l' e' nb',rn TM l e=rn (ret t) l' e'∧Wk bb ba bk rest nb l e H nb' l' e' H'∧F 7=iA t) (fun _ _=>False) ?_ ?_ (fun _ _ q=>q.elim)
 .refine D7 (fun m F H'=>∃k t l' e' nb',m+k=16∧rn (eqL (x.drop k) (y.drop k) t) l' e'=rn TM l e∧(e'=false->t<l'.length)∧Wk bb ba bk rest nb l e H nb' l' e' H'∧F 0=.ptr bb 0 0∧F 1=wS x∧F 2=wS y∧F 7=iA t∧F 8=.int .i64 (k:Nat)) 16
   ⟨0,1,l,e,nb,rfl,by rw[<-hT]; rfl,fun _=>s.v.p1,Wk.rfl' s,by simp -implicitDefEqProofs only[vQ,↓reduceIte,jA],by simp -implicitDefEqProofs only[vQ,↓reduceIte,jA],by simp -implicitDefEqProofs only[vQ,↓reduceIte,jA],by simp -implicitDefEqProofs only[AA,↓reduceIte,jA]; rfl,by simp -implicitDefEqProofs only[AA,↓reduceIte]; rfl⟩ ?_
  rintro m F H' ⟨k,t,l',e',nb',hm,hS,ht,W,f0,f1,f2,f7,f8⟩;simp -implicitDefEqProofs only[vQ,BD,↓reduceIte,enP,f8,MN];refine C9 (fun hc=>?_) (fun hc=>?_)
  .have hk':k<16:=by simpa using hc
   have hkx:k<x.length:=by omega
   have hky:k<y.length:=by omega
   rw[IU hkx,IU hky] at hS;simp -implicitDefEqProofs only[vQ,f8];refine OT 9 _ _ (by kernel_rfl) rfl rfl rfl rfl ?_;simp only[wJ,qC];simp -implicitDefEqProofs only[vQ,BD,↓reduceIte,jA,jM,enP,KT,f0,f1,f2,f8,MM H' hx hk',MM H' hy hk',ML H' hkx,ML H' hky];refine(ARB G W.s _ _ (MO (W.ok ox) hkx) (MO (W.ok oy) hky)).use (k:=fun a=>(LQ a).bnd fun b=>(KA t b).bnd fun u=>eqL (x.drop (k+1)) (y.drop (k+1)) u) hS ?_;rintro a l1 e1 nb1 _ H1 he1 x1 rfl oa hS1 s1 k1;have W1:=W.go he1 x1 s1 k1;simp -implicitDefEqProofs only[vQ,↓reduceIte,jA,f0];refine(AEU G s1 a oa).use hS1 ?_;rintro b l2 e2 nb2 _ H2 he2 x2 rfl ob hS2 s2 k2;have W2:=W1.go he2 x2 s2 k2;simp -implicitDefEqProofs only[vQ,BD,↓reduceIte,jA,f0,f7];refine(rand G s2 t b (fun q=>(x1.trans x2).lt (ht (he1 (he2 q)))) ob).use hS2 ?_;rintro u l3 e3 nb3 _ H3 he3 x3 rfl ou hS3 s3 k3;have W3:=W2.go he3 x3 s3 k3;simp -implicitDefEqProofs only[vQ,BD,↓reduceIte,jA,enP,f8,wrap_succ (show k<9223372036854775807 by omega)];exact⟨m-1,by omega,k+1,u,l3,e3,nb3,by omega,hS3,ou,W3,by trivial,by trivial,by trivial,by trivial,by trivial⟩
  .have hk':k=16:=by have:=hc; simp at this; omega
   subst hk';rw[zF (show x.length<=16 by omega)] at hS;simp -implicitDefEqProofs only[vQ,↓reduceIte,jA];exact⟨t,l',e',nb',hS.symm,W,f7⟩
 .rintro F H' ⟨t,l',e',nb',hr,W,f7⟩
  simp -implicitDefEqProofs only[vQ,BD,↓reduceIte,f7];exact⟨t,l',e',nb',hr,W.x,rfl,W.s,W.k⟩
theorem ANE (s:RS bb ba bk rest nb l e H)(x y:Wrd)(hx:x.length=16)(hy:y.length=16)(ox:e=false->LOk l x)(oy:e=false->LOk l y):Cr G bb ba bk rest nb 100 [.ptr bb 0 0,wS x,wS y] H l e (lsL x y 0) vI okN:=by
 refine Cr.of ?_ (fun he=>UJ x y l 0 s.v (by omega) (ox he) (oy he) s.v.p0) (fun a l' q=>q.1);generalize hT:lsL x y 0=TM;refine acN Tryz.func100 rfl ?_;show awp _ _ _ _ _ (EK _ [.tmp 6] _);simp -implicitDefEqProofs only[vQ,BD,enP];refine GI 0 (fun F H'=>∃t l' e' nb',rn TM l e=rn (ret t) l' e'∧Wk bb ba bk rest nb l e H nb' l' e' H'∧F 7=iA t) (fun _ _=>False) ?_ ?_ (fun _ _ q=>q.elim)
 .refine D7 (fun m F H'=>∃k t l' e' nb',m+k=16∧rn (lsL (x.drop k) (y.drop k) t) l' e'=rn TM l e∧(e'=false->t<l'.length)∧Wk bb ba bk rest nb l e H nb' l' e' H'∧F 0=.ptr bb 0 0∧F 1=wS x∧F 2=wS y∧F 7=iA t∧F 8=.int .i64 (k:Nat)) 16
   ⟨0,0,l,e,nb,rfl,by rw[<-hT]; rfl,fun _=>s.v.p0,Wk.rfl' s,by simp -implicitDefEqProofs only[vQ,↓reduceIte,jA],by simp -implicitDefEqProofs only[vQ,↓reduceIte,jA],by simp -implicitDefEqProofs only[vQ,↓reduceIte,jA],by simp -implicitDefEqProofs only[AA,↓reduceIte,jA]; rfl,by simp -implicitDefEqProofs only[AA,↓reduceIte]; rfl⟩ ?_
  rintro m F H' ⟨k,t,l',e',nb',hm,hS,ht,W,f0,f1,f2,f7,f8⟩;simp -implicitDefEqProofs only[vQ,BD,↓reduceIte,enP,f8,MN];refine C9 (fun hc=>?_) (fun hc=>?_)
  .have hk':k<16:=by simpa using hc
   have hkx:k<x.length:=by omega
   have hky:k<y.length:=by omega
   rw[IU hkx,IU hky] at hS;simp -implicitDefEqProofs only[vQ,BD,↓reduceIte,jA,enP,KT,f0,f1,f8,MM H' hx hk',ML H' hkx];refine(AEU G W.s _ (MO (W.ok ox) hkx)).use (k:=fun n=>(KA n (y.getD k 0)).bnd fun u=>(NS (x.getD k 0) (y.getD k 0)).bnd fun a=>(LQ a).bnd fun b=>(KA b t).bnd fun w=>(oOr u w).bnd fun z=>lsL (x.drop (k+1)) (y.drop (k+1)) z) hS ?_;rintro n l1 e1 nb1 _ H1 he1 x1 rfl on hS1 s1 k1;have W1:=W.go he1 x1 s1 k1;simp -implicitDefEqProofs only[vQ,BD,↓reduceIte,jA,enP,KT,f0,f2,f8,MM H1 hy hk',ML H1 hky];refine(rand G s1 n _ on (MO (W1.ok oy) hky)).use hS1 ?_;rintro u l2 e2 nb2 _ H2 he2 x2 rfl ou hS2 s2 k2;have W2:=W1.go he2 x2 s2 k2;simp -implicitDefEqProofs only[vQ,BD,↓reduceIte,f8];refine OT 9 _ _ (by kernel_rfl) rfl rfl rfl rfl ?_;simp only[wJ,qC];simp -implicitDefEqProofs only[vQ,BD,↓reduceIte,jA,jM,enP,KT,f0,f1,f2,f8,MM H2 hx hk',MM H2 hy hk',ML H2 hkx,ML H2 hky];refine(ARB G s2 _ _ (MO (W2.ok ox) hkx) (MO (W2.ok oy) hky)).use hS2 ?_;rintro a l3 e3 nb3 _ H3 he3 x3 rfl oa hS3 s3 k3;have W3:=W2.go he3 x3 s3 k3;simp -implicitDefEqProofs only[vQ,↓reduceIte,jA,f0];refine(AEU G s3 a oa).use hS3 ?_;rintro b l4 e4 nb4 _ H4 he4 x4 rfl ob hS4 s4 k4;have W4:=W3.go he4 x4 s4 k4;simp -implicitDefEqProofs only[vQ,BD,↓reduceIte,jA,f0,f7];refine(rand G s4 b t ob (fun q=>(x1.trans (x2.trans (x3.trans x4))).lt (ht (he1 (he2 (he3 (he4 q))))))).use hS4 ?_;rintro w l5 e5 nb5 _ H5 he5 x5 rfl ow hS5 s5 k5;have W5:=W4.go he5 x5 s5 k5;simp -implicitDefEqProofs only[vQ,BD,↓reduceIte,jA,f0];refine(ror G s5 u w (fun q=>(x3.trans (x4.trans x5)).lt (ou (he3 (he4 (he5 q))))) ow).use hS5 ?_;rintro z l6 e6 nb6 _ H6 he6 x6 rfl oz hS6 s6 k6;have W6:=W5.go he6 x6 s6 k6;simp -implicitDefEqProofs only[vQ,BD,↓reduceIte,jA,enP,f8,wrap_succ (show k<9223372036854775807 by omega)];exact⟨m-1,by omega,k+1,z,l6,e6,nb6,by omega,hS6,oz,W6,by trivial,by trivial,by trivial,by trivial,by trivial⟩
  .have hk':k=16:=by have:=hc; simp at this; omega
   subst hk';rw[zF (show x.length<=16 by omega)] at hS;simp -implicitDefEqProofs only[vQ,↓reduceIte,jA];exact⟨t,l',e',nb',hS.symm,W,f7⟩
 .rintro F H' ⟨t,l',e',nb',hr,W,f7⟩
  simp -implicitDefEqProofs only[vQ,BD,↓reduceIte,f7];exact⟨t,l',e',nb',hr,W.x,rfl,W.s,W.k⟩
end
section
variable (G:Nat->AV) {bb ba bk:Nat} {rest:List AV} {nb:Nat} {l:Dg} {e:Bool} {H:Hp}
set_option maxHeartbeats 2000000 in
theorem A1B (s:RS bb ba bk rest nb l e H)(x y:Wrd)(hx:x.length=16)(hy:y.length=16)(ox:e=false->LOk l x)(oy:e=false->LOk l y):Cr G bb ba bk rest nb 96 [.ptr bb 0 0,wS x,wS y] H l e (XN x 0 y (cst 0)) vW oW:=by
 refine Cr.of ?_ (fun he=>ACC x hx y 0 l (cst 0) s.v (by omega) (ox he) (oy he) (H8 0) (LOk.cst s.v 0)) (fun a l' q=>q.1.2);generalize hT:XN x 0 y (cst 0)=TM;refine IV (H:=hint [] [(39,[9])]) (enM G) Tryz.func96 rfl (by kernel_rfl) (by kernel_rfl) (jH (by kernel_rfl)) ?_;show awp _ _ _ _ _ (EK _ [.tmp 6] _);simp -implicitDefEqProofs only[vQ,jI,jK,BD,↓reduceIte,enP,jQ];refine(show PCall (En G) 89 [.int .i64 0] H (wS (cst 0)) from PM G 0 (by omega) H).use ?_;simp -implicitDefEqProofs only[vQ,jI,jK,BD,↓reduceIte,jQ];refine GI 0 (fun F H'=>∃d l' e' nb',d.length=16∧rn TM l e=rn (ret d) l' e'∧Wk bb ba bk rest nb l e H nb' l' e' H'∧F 7=wS d) (fun _ _=>False) ?_ ?_ (fun _ _ q=>q.elim)
 .refine D7 (fun m F H'=>∃k d l' e' nb',m+k=16∧d.length=16∧(e'=false->LOk l' d)∧rn (XN x k (y.drop k) d) l' e'=rn TM l e∧Wk bb ba bk rest nb l e H nb' l' e' H'∧F 0=.ptr bb 0 0∧F 1=wS x∧F 2=wS y∧F 7=wS d∧F 8=.int .i64 (k:Nat)) 16
   ⟨0,cst 0,l,e,nb,rfl,H8 0,fun _=>LOk.cst s.v 0,by rw[<-hT]; rfl,Wk.rfl' s,by simp -implicitDefEqProofs only[vQ,↓reduceIte,jA],by simp -implicitDefEqProofs only[vQ,↓reduceIte,jA],by simp -implicitDefEqProofs only[vQ,↓reduceIte,jA],by simp -implicitDefEqProofs only[AA,↓reduceIte,jA],by simp -implicitDefEqProofs only[AA,↓reduceIte]; rfl⟩ ?_
  rintro m F H0 ⟨k,s0,l0,e0,nb0,hm,hd,od,hS,W,f0,f1,f2,f7,f8⟩;simp -implicitDefEqProofs only[vQ,jI,jK,BD,↓reduceIte,enP,jQ,f8,MN];refine C9 (fun hc=>?_) (fun hc=>?_)
  .have hk':k<16:=by simpa using hc
   have hky:k<y.length:=by omega
   rw[IU hky] at hS
   let K:Wrd->M Wrd:=fun p=>(PI s0 (jJ k 0++p) 0).bnd fun s'=>XN x (k+1) (y.drop (k+1)) s'
   have hS:rn ((AEG ((x.take (16-k)).drop 0) (y.getD k 0)).bnd fun r=>K ([]++r)) l0 e0=rn TM l e:=hS;simp -implicitDefEqProofs only[vQ,jI,jK,BD,↓reduceIte,jQ];refine ACalls.mono (show ACalls (En G) 89 [.int .i64 0] H0 _ from QY G 0 (by omega) H0) ?_;rintro _ _ ⟨rfl,rfl⟩;rw[AWT];have q9:isI (H0++[.live 1 ((wI (jJ 16 0)).map qencI)]) H0.length (wI (jJ 16 0)):=CU _ _;have WB:=(Wk.rfl' W.s).app (.live 1 ((wI (jJ 16 0)).map qencI));generalize H0++[.live 1 ((wI (jJ 16 0)).map qencI)]=B at q9 WB|-;simp -implicitDefEqProofs only[vQ,jI,jK,BD,↓reduceIte,jA,jQ,f8]
   refine GI 2 (fun F H'=>∃d l1 e1 nb1,d.length=16-k∧rn (K d) l1 e1=rn TM l e∧(e1=false->LOk l1 d)∧Wk bb ba bk rest nb0 l0 e0 H0 nb1 l1 e1 H'∧isI H' H0.length (wI (jJ k 0++d)) ∧
    F 0=.ptr bb 0 0∧F 1=wS x∧F 2=wS y∧F 7=wS s0∧F 8=.int .i64 (k:Nat)∧F 9=.own H0.length 0 16) (fun _ _=>False) ?_ ?_ (fun _ _ q=>q.elim)
   .refine D7 (fun m F H'=>∃j d l1 e1 nb1,m+(k+j)=16∧d.length=j∧(e1=false->LOk l1 d)∧rn ((AEG ((x.take (16-k)).drop j) (y.getD k 0)).bnd fun r=>K (d++r)) l1 e1=rn TM l e∧Wk bb ba bk rest nb0 l0 e0 H0 nb1 l1 e1 H' ∧
      isI H' H0.length (wI ((jJ k 0++d)++jJ (16-(k+j)) 0)) ∧
      F 0=.ptr bb 0 0∧F 1=wS x∧F 2=wS y∧F 7=wS s0∧F 8=.int .i64 (k:Nat)∧F 9=.own H0.length 0 16∧F 10=.int .i64 ((k+j:Nat):Int)) (16-k)
     ⟨0,[],l0,e0,nb0,by omega,rfl,fun _=>LOk.nil _,hS,WB,by rw[jD,List.replicate_append_replicate,show k+(16-(k+0))=16 by omega]; exact q9,by simp -implicitDefEqProofs only[AA,↓reduceIte,jA]; exact f0,by simp -implicitDefEqProofs only[AA,↓reduceIte,jA]; exact f1,by simp -implicitDefEqProofs only[AA,↓reduceIte,jA]; exact f2,by simp -implicitDefEqProofs only[AA,↓reduceIte,jA]; exact f7,by simp -implicitDefEqProofs only[AA,↓reduceIte,jA]; exact f8,by simp -implicitDefEqProofs only[AA,↓reduceIte,jA],by simp -implicitDefEqProofs only[vQ,↓reduceIte]<;>rfl⟩ ?_
    clear q9 WB f0 f1 f2 f7 f8 hS;rintro m F H1 ⟨j,d,l1,e1,nb1,hm,hdj,od1,hS,W1,q9,f0,f1,f2,f7,f8,f9,f10⟩;simp -implicitDefEqProofs only[vQ,jI,jK,BD,↓reduceIte,enP,jQ,f10,MN];refine C9 (fun hc=>?_) (fun hc=>?_)
    .have hj:k+j<16:=by simpa using hc
     have hj':j<(x.take (16-k)).length:=by rw[zX]; omega
     rw[AKI _ _ _ hj',AFE _ _ _ (by omega)] at hS;have hjx:j<x.length:=by omega
     have hDl:(jJ k 0++d).length=k+j:=by simp [hdj]
     have hsub:IntKind.i64.wrap (((k+j:Nat):Int)-(k:Nat))=((j:Nat):Int):=by rw[wrap_i64 (by omega) (by omega)]; omega
     simp -implicitDefEqProofs only[vQ,f10];refine EW (.ones [0,1,2,3,4,5,6,7,8,9,10,11,12] (.alt 13 (.ones [14,15] .done) .non)) (by kernel_rfl) ?_;simp only[DN,IE,jU,jT];simp -implicitDefEqProofs only[vQ,jI,jK,BD,LG,↓reduceIte,jA,jM,enP,KT,jQ,f0,f1,f2,f8,f9,f10,hsub,MM H1 hx (show j<16 by omega),ML H1 hjx,MM H1 hy hk',ML H1 hky];refine⟨(rand G W1.s _ _ (MO (W1.ok (W.ok ox)) hjx) (MO (W1.ok (W.ok oy)) hky)).use hS ?_,trivial⟩;rintro a l2 e2 nb2 _ H2 he2 x2 rfl oa hS2 s2 k2;have q9:=W1.s.own q9 (IL hDl (by omega)) k2;have W2:=W1.go he2 x2 s2 k2;have hst:=UE q9 (i:=k+j) (by rw[IL hDl (by omega)]; exact hj) a;rw[MX hDl hj] at hst;have hix:=q9.ix (n:=16) (i:=k+j) (kk:=.i64) hj;have W3:=W2.st q9 (IL hDl (by omega)) (jP _) (.live 1 ((wI (((jJ k 0++d)++[a])++jJ (16-(k+j+1)) 0)).map qencI));unfold iA;simp -implicitDefEqProofs only[vQ,jI,jK,BD,↓reduceIte,jA,enP,jO,jQ,f9,f10,hix,hst,wrap_succ (show k+j<9223372036854775807 by omega)];refine⟨m-1,by omega,j+1,d++[a],l2,e2,nb2,by omega,by simp [hdj],fun q=>((od1 (he2 q)).go x2).app (LOk.cons (oa q) (LOk.nil _)),hS2,W3,?_,by trivial,by trivial,by trivial,by trivial,by trivial,by trivial,by trivial⟩;rw[<-zJ,<-Nat.add_assoc];exact DX q9
    .have hj:k+j=16:=by have:=hc; simp at this; omega
     rw[zF (show(x.take (16-k)).length<=j by rw[zX]; omega)] at hS;have hS:rn (K (d++[])) l1 e1=rn TM l e:=hS;rw[jD] at hS;rw[hj,Nat.sub_self,List.replicate_zero,jD] at q9;simp -implicitDefEqProofs only[vQ,↓reduceIte,jA];exact⟨d,l1,e1,nb1,by omega,hS,od1,W1,q9,f0,f1,f2,f7,f8,f9⟩
   .clear q9 WB f0 f1 f2 f7 f8 hS
    rintro F H1 ⟨d,l1,e1,nb1,hdj,hS,od1,W1,q9,f0,f1,f2,f7,f8,f9⟩;have hDl:(jJ k 0++d).length=16:=by simp [hdj]; omega
    have W2:=W1.st q9 hDl (jP _) .dead;simp -implicitDefEqProofs only[vQ,jI,jK,BD,↓reduceIte,jA,jQ,f0,f7,f9,UF q9 hDl 9];refine(AVB G W2.s s0 _ 0 hd hDl (W1.ok od) (fun q=>(LOk.zeros W1.s.v k).app (od1 q)) (fun _=>W1.s.v.p0)).use hS ?_;rintro r l2 e2 nb2 _ H2 he2 x2 ⟨rfl,hr⟩ or hS2 s2 k2;have W3:=(W.go W2.e W2.x W2.s W2.k).go he2 x2 s2 k2;simp -implicitDefEqProofs only[vQ,jI,jK,BD,↓reduceIte,jA,enP,jQ,f8,wrap_succ (show k<9223372036854775807 by omega)];exact⟨m-1,by omega,k+1,r,l2,e2,nb2,by omega,hr,or,hS2,W3,by trivial,by trivial,by trivial,by trivial,by trivial⟩
  .have hk':k=16:=by have:=hc; simp at this; omega
   subst hk';rw[zF (show y.length<=16 by omega)] at hS;simp -implicitDefEqProofs only[vQ,↓reduceIte,jA];exact⟨s0,l0,e0,nb0,hd,hS.symm,W,f7⟩
 .rintro F H' ⟨d,l',e',nb',hd,hr,W,f7⟩
  simp -implicitDefEqProofs only[vQ,jI,jK,BD,↓reduceIte,jQ,f7];exact⟨d,l',e',nb',hr,W.x,⟨by trivial,hd⟩,W.s,W.k⟩
def VT (op:Int):Nat->Nat->M Nat:=if op=10 then KA else if op=11 then oOr else NS
theorem AOJ:VT 10=KA:=by unfold VT; rw[if_pos rfl]
theorem AOI:VT 11=oOr:=by unfold VT; rw[if_neg (by decide),if_pos rfl]
theorem AOH:VT 12=NS:=by unfold VT; rw[if_neg (by decide),if_neg (by decide)]
theorem AZD (op:Int)(x y:Wrd)(hx:x.length=16)(hy:y.length=16){l:Dg}(v:VD l)(ox:LOk l x)(oy:LOk l y):Sp l (pr2 (VT op) x y) fun r l'=>LOk l' r:=by
 have key:∀b:B3,(∀f g,VT op f g=ap b f g g)->Sp l (pr2 (VT op) x y) fun r l'=>LOk l' r:=fun b hb =>
  (AC9 (VT op) (fun _ _ p q=>b p q q) l (fun l' f g v' _ hf hg=>by rw[hb]; exact UX b v' hf hg hg) x y l v (Xt.rfl' l) (by omega) ox oy).mono fun r _ _ _ q=>q.1.2
 unfold VT at key|-;split at key
 .rw[if_pos (by assumption)]; exact key AKC fun _ _=>rfl
 .split at key
  .rw[if_neg (by assumption),if_pos (by assumption)]; exact key bOr fun _ _=>rfl
  .rw[if_neg (by assumption),if_neg (by assumption)]; exact key AKB fun _ _=>rfl
set_option maxHeartbeats 2000000 in
theorem ARI (s:RS bb ba bk rest nb l e H)(op:Int)(hop:op=10∨op=11∨op=12)(x y:Wrd)(hx:x.length=16)(hy:y.length=16)(ox:e=false->LOk l x)(oy:e=false->LOk l y):Cr G bb ba bk rest nb 97 [.ptr bb 0 0,.int .i64 op,wS x,wS y] H l e (pr2 (VT op) x y) vW oW:=by
 refine Cr.of ?_ (fun he=>AZD op x y hx hy s.v (ox he) (oy he)) (fun a l' q=>q);generalize hT:pr2 (VT op) x y=TM;refine IV (H:=hint [] [(60,[9])]) (enM G) Tryz.func97 rfl (by kernel_rfl) (by kernel_rfl) (jH (by kernel_rfl)) ?_;show awp _ _ _ _ _ (EK _ [.tmp 8] _);simp -implicitDefEqProofs only[vQ,jI,jK,BD,JV,↓reduceIte,enP,jQ,AR2];have q0:isI (H++[ABlk.live 1 ((wI (jJ 16 0)).map qencI)]) H.length (wI (jJ 16 0)):=CU _ _;refine GI 0 (fun F H'=>∃d l' e' nb',d.length=16∧rn TM l e=rn (ret d) l' e'∧Wk bb ba bk rest nb l e H nb' l' e' H'∧isI H' H.length (wI d)∧F 9=.own H.length 0 16) (fun _ _=>False) ?_ ?_ (fun _ _ q=>q.elim)
 .refine D7 (fun m F H'=>∃k d l' e' nb',m+k=16∧d.length=k∧rn ((pr2 (VT op) (x.drop k) (y.drop k)).bnd fun r=>ret (d++r)) l' e'=rn TM l e∧Wk bb ba bk rest nb l e H nb' l' e' H'∧isI H' H.length (wI (d++jJ (16-k) 0)) ∧
   F 0=.ptr bb 0 0∧F 1=.int .i64 op∧F 2=wS x∧F 3=wS y∧F 9=.own H.length 0 16∧F 10=.int .i64 (k:Nat)) 16
   ⟨0,[],l,e,nb,rfl,rfl,by rw[<-hT]; exact VE _ _ _,(Wk.rfl' s).app _,q0,by simp -implicitDefEqProofs only[vQ,↓reduceIte,jA],by simp -implicitDefEqProofs only[vQ,↓reduceIte,jA],by simp -implicitDefEqProofs only[vQ,↓reduceIte,jA],by simp -implicitDefEqProofs only[vQ,↓reduceIte,jA],by simp -implicitDefEqProofs only[AA,↓reduceIte,jA],by simp -implicitDefEqProofs only[AA,↓reduceIte]; rfl⟩ ?_
  clear q0;rintro m F H' ⟨k,d,l',e',nb',hm,hd,hS,W,q9,f0,f1,f2,f3,f9,f10⟩;simp -implicitDefEqProofs only[vQ,jI,jK,BD,↓reduceIte,enP,jQ,f10,MN];refine C9 (fun hc=>?_) (fun hc=>?_)
  .have hk':k<16:=by simpa using hc
   have hkx:k<x.length:=by omega
   have hky:k<y.length:=by omega
   rw[AI0 _ hkx hky] at hS
   have fin:∀(o:Nat) (l2:Dg) (e2:Bool) (nb2:Nat) (H2:Hp),(e2=false->e'=false)->Xt l' l2->RS bb ba bk rest nb2 l2 e2 H2->Kd [bb,ba,bk] nb' nb2 H' H2->J8 1 H2 (.own H.length 0 16) (.int .i64 (k:Nat))=some (.ptr H.length k 0)∧FO Tryz.prog H2 3 (.ptr H.length k 0) (.int .i64 (o:Nat))=some (H2.set H.length (.live 1 ((wI ((d++[o])++jJ (16-(k+1)) 0)).map qencI))) ∧
     Wk bb ba bk rest nb l e H nb2 l2 e2 (H2.set H.length (.live 1 ((wI ((d++[o])++jJ (16-(k+1)) 0)).map qencI)))∧isI (H2.set H.length (.live 1 ((wI ((d++[o])++jJ (16-(k+1)) 0)).map qencI))) H.length (wI ((d++[o])++jJ (16-(k+1)) 0)):=by
    intro o l2 e2 nb2 H2 he2 x2 s2 k2;have q9:=W.s.own q9 (IL hd (by omega)) k2;have W2:=W.go he2 x2 s2 k2;have hst:=UE q9 (i:=k) (by rw[IL hd (by omega)]; exact hk') o;rw[MX hd hk'] at hst;exact⟨q9.ix (n:=16) (i:=k) (kk:=.i64) hk',hst,W2.st q9 (IL hd (by omega)) (jP _) _,DX q9⟩
   rcases hop with rfl|rfl|rfl
   .have hS:rn ((KA (x.getD k 0) (y.getD k 0)).bnd fun g=>(pr2 (VT 10) (x.drop (k+1)) (y.drop (k+1))).bnd fun r=>ret ((d++[g])++r)) l' e'=rn TM l e:=by rw[<-hS,AOJ]
    simp -implicitDefEqProofs only[vQ,jI,jK,BD,↓reduceIte,jA,enP,jQ,f1,show((10:Int)==10)=true from rfl,show((11:Int)==10)=false from rfl,show((11:Int)==11)=true from rfl,show((12:Int)==10)=false from rfl,show((12:Int)==11)=false from rfl];refine EW (.ones [0,1,2,3,4,5,6,7,8,9,10] (.alt 11 (.ones [12,13] .done) .non)) (by kernel_rfl) ?_;simp only[DN,IE,jU,jT];simp -implicitDefEqProofs only[vQ,jI,jK,BD,↓reduceIte,jA,jM,enP,KT,jQ,f0,f2,f3,f9,f10,MM H' hx hk',ML H' hkx,MM H' hy hk',ML H' hky];refine⟨(rand G W.s _ _ (MO (W.ok ox) hkx) (MO (W.ok oy) hky)).use hS ?_,trivial⟩;rintro o l2 e2 nb2 _ H2 he2 x2 rfl oo hS2 s2 k2;obtain⟨hix,hst,W3,q9⟩:=fin o l2 e2 nb2 H2 he2 x2 s2 k2;unfold iA;simp -implicitDefEqProofs only[vQ,jI,jK,BD,↓reduceIte,jA,enP,jO,jQ,f9,f10,hix,hst,wrap_succ (show k<9223372036854775807 by omega)];exact⟨m-1,by omega,k+1,d++[o],l2,e2,nb2,by omega,by simp [hd],hS2,W3,q9,by trivial,by trivial,by trivial,by trivial,by trivial,by trivial⟩
   .have hS:rn ((oOr (x.getD k 0) (y.getD k 0)).bnd fun g=>(pr2 (VT 11) (x.drop (k+1)) (y.drop (k+1))).bnd fun r=>ret ((d++[g])++r)) l' e'=rn TM l e:=by rw[<-hS,AOI]
    simp -implicitDefEqProofs only[vQ,jI,jK,BD,↓reduceIte,jA,enP,jQ,f1,show((10:Int)==10)=true from rfl,show((11:Int)==10)=false from rfl,show((11:Int)==11)=true from rfl,show((12:Int)==10)=false from rfl,show((12:Int)==11)=false from rfl];refine EW (.ones [0,1,2,3,4,5,6,7,8,9,10] (.alt 11 (.ones [12,13] .done) .non)) (by kernel_rfl) ?_;simp only[DN,IE,jU,jT];simp -implicitDefEqProofs only[vQ,jI,jK,BD,↓reduceIte,jA,jM,enP,KT,jQ,f0,f2,f3,f9,f10,MM H' hx hk',ML H' hkx,MM H' hy hk',ML H' hky];refine⟨(ror G W.s _ _ (MO (W.ok ox) hkx) (MO (W.ok oy) hky)).use hS ?_,trivial⟩;rintro o l2 e2 nb2 _ H2 he2 x2 rfl oo hS2 s2 k2;obtain⟨hix,hst,W3,q9⟩:=fin o l2 e2 nb2 H2 he2 x2 s2 k2;unfold iA;simp -implicitDefEqProofs only[vQ,jI,jK,BD,↓reduceIte,jA,enP,jO,jQ,f9,f10,hix,hst,wrap_succ (show k<9223372036854775807 by omega)];exact⟨m-1,by omega,k+1,d++[o],l2,e2,nb2,by omega,by simp [hd],hS2,W3,q9,by trivial,by trivial,by trivial,by trivial,by trivial,by trivial⟩
   .have hS:rn ((NS (x.getD k 0) (y.getD k 0)).bnd fun g=>(pr2 (VT 12) (x.drop (k+1)) (y.drop (k+1))).bnd fun r=>ret ((d++[g])++r)) l' e'=rn TM l e:=by rw[<-hS,AOH]
    simp -implicitDefEqProofs only[vQ,jI,jK,BD,↓reduceIte,jA,enP,jQ,f1,show((10:Int)==10)=true from rfl,show((11:Int)==10)=false from rfl,show((11:Int)==11)=true from rfl,show((12:Int)==10)=false from rfl,show((12:Int)==11)=false from rfl];refine EW (.ones [0,1,2,3,4,5,6,7,8,9,10] (.alt 11 (.ones [12,13] .done) .non)) (by kernel_rfl) ?_;simp only[DN,IE,jU,jT];simp -implicitDefEqProofs only[vQ,jI,jK,BD,↓reduceIte,jA,jM,enP,KT,jQ,f0,f2,f3,f9,f10,MM H' hx hk',ML H' hkx,MM H' hy hk',ML H' hky];refine⟨(ARB G W.s _ _ (MO (W.ok ox) hkx) (MO (W.ok oy) hky)).use hS ?_,trivial⟩;rintro o l2 e2 nb2 _ H2 he2 x2 rfl oo hS2 s2 k2;obtain⟨hix,hst,W3,q9⟩:=fin o l2 e2 nb2 H2 he2 x2 s2 k2;unfold iA;simp -implicitDefEqProofs only[vQ,jI,jK,BD,↓reduceIte,jA,enP,jO,jQ,f9,f10,hix,hst,wrap_succ (show k<9223372036854775807 by omega)];exact⟨m-1,by omega,k+1,d++[o],l2,e2,nb2,by omega,by simp [hd],hS2,W3,q9,by trivial,by trivial,by trivial,by trivial,by trivial,by trivial⟩
  .have hk':k=16:=by have:=hc; simp at this; omega
   subst hk';rw[zF (show x.length<=16 by omega)] at hS;have hS:rn (ret (d++[])) l' e'=rn TM l e:=hS;rw[jD] at hS;rw[grow_end hd] at q9;simp -implicitDefEqProofs only[vQ,↓reduceIte,jA];exact⟨d,l',e',nb',hd,hS.symm,W,q9,f9⟩
 .rintro F H' ⟨d,l',e',nb',hd,hr,W,q9,f9⟩
  have W2:=W.st q9 hd (jP _) .dead;simp -implicitDefEqProofs only[vQ,jI,jK,BD,↓reduceIte,jQ,f9,UF q9 hd 9];exact⟨d,l',e',nb',hr,W2.x,⟨by trivial,hd⟩,W2.s,W2.k⟩
end
end Go.Proofs.YtgnoolgeijmlaaaGreatDoor.Bl
