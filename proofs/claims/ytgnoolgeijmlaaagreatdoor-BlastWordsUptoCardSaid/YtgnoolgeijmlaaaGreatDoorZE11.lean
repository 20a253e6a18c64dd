/- Part 11 of the proof (G9, Ga, Gb, Gc, Gd, Ge, Gf, Gg, Gh); no condition. -/
import Derived.Test.YtgnoolgeijmlaaaGreatDoorZE10
set_option linter.unusedVariables false
namespace Go.Proofs.YtgnoolgeijmlaaaGreatDoor.Bl
open Sm Bins Cov Xe Wd Go.Proofs.YtgnoolgeijmlaaaGreatDoor.Bd Go.RowKit
open Bool renaming eq_iff_iff→qH
theorem AT3 (op:B3):∀(k:Nat) (l:Dg) (f g h:Nat),VD l->f<l.length->g<l.length->h<l.length->20<II l f g h+k->app op (k+1) f g h l=app op k f g h l:=by
 intro k
 induction k with
 | zero =>
   intro l f g h v hf hg hh hk;have:=v.lv_le hf;unfold II at hk;omega
 | succ k ih =>
   intro l f g h v hf hg hh hk;have lf:=v.lv_le hf;have lg:=v.lv_le hg;have lh:=v.lv_le hh
   rw[show app op (k+1+1) f g h l=if II l f g h=20 then some (tn (op (f==1) (g==1) (h==1)),l) else
    ((app op (k+1) (half l f (II l f g h) false) (half l g (II l f g h) false) (half l h (II l f g h) false)).bnd fun lo =>
      (app op (k+1) (half l f (II l f g h) true) (half l g (II l f g h) true) (half l h (II l f g h) true)).bnd fun hi=>mk (II l f g h) lo hi) l from rfl,
    show app op (k+1) f g h l=if II l f g h=20 then some (tn (op (f==1) (g==1) (h==1)),l) else
    ((app op k (half l f (II l f g h) false) (half l g (II l f g h) false) (half l h (II l f g h) false)).bnd fun lo =>
      (app op k (half l f (II l f g h) true) (half l g (II l f g h) true) (half l h (II l f g h) true)).bnd fun hi=>mk (II l f g h) lo hi) l from rfl]
   generalize hm:II l f g h=lv at *;by_cases h20:lv=20
   .rw[if_pos h20,if_pos h20]
   rw[if_neg h20,if_neg h20];have m1:lv<=(nth l f).lv∧lv<=(nth l g).lv∧lv<=(nth l h).lv:=by rw[<-hm]; unfold II; omega
   have h20':lv<20:=by omega
   have hl0:∀one,half l f lv one<l.length∧lv<(nth l (half l f lv one)).lv:=fun one=>OB v hf one h20' m1.1
   have hl1:∀one,half l g lv one<l.length∧lv<(nth l (half l g lv one)).lv:=fun one=>OB v hg one h20' m1.2.1
   have hl2:∀one,half l h lv one<l.length∧lv<(nth l (half l h lv one)).lv:=fun one=>OB v hh one h20' m1.2.2
   have m2:∀one,lv<II l (half l f lv one) (half l g lv one) (half l h lv one):=fun one=>by
    have:=(hl0 one).2; have:=(hl1 one).2; have:=(hl2 one).2;unfold II; omega
   have e0:=ih l _ _ _ v (hl0 false).1 (hl1 false).1 (hl2 false).1 (by have:=m2 false; omega);unfold M.bnd;rw[e0]
   cases hq:app op k (half l f lv false) (half l g lv false) (half l h lv false) l with
   | none=>rfl
   | some p =>
     obtain⟨r1,l1⟩:=p;obtain⟨v1,x1,_,_⟩:=AMJ op k l _ _ _ v (hl0 false).1 (hl1 false).1 (hl2 false).1 (by have:=m2 false; omega) r1 l1 hq
     have e1:=ih l1 (half l f lv true) (half l g lv true) (half l h lv true) v1 (x1.lt (hl0 true).1) (x1.lt (hl1 true).1) (x1.lt (hl2 true).1) (by
      have:II l1 (half l f lv true) (half l g lv true) (half l h lv true)=II l (half l f lv true) (half l g lv true) (half l h lv true):=by
       unfold II; rw[x1.nth (hl0 true).1,x1.nth (hl1 true).1,x1.nth (hl2 true).1]
      rw[this]; have:=m2 true; omega)
     simp only;rw[e1]
theorem AT4 (op:B3){l:Dg}{f g h:Nat}(h20:II l f g h=20):ap op f g h l=some (tn (op (f==1) (g==1) (h==1)),l):=by
 unfold ap app;rw[if_pos h20]
theorem AOO (op:B3){l:Dg}{f g h lv:Nat}(v:VD l)(hf:f<l.length)(hg:g<l.length)(hh:h<l.length)(hm:II l f g h=lv)(h20:lv≠20) :
  ap op f g h l=((ap op (half l f lv false) (half l g lv false) (half l h lv false)).bnd fun lo=>(ap op (half l f lv true) (half l g lv true) (half l h lv true)).bnd fun hi=>mk lv lo hi) l:=by
 have lf:=v.lv_le hf;have e:=(AT3 op 21 l f g h v hf hg hh (by omega)).symm;unfold ap;rw[e]
 rw[show app op (21+1) f g h l=if II l f g h=20 then some (tn (op (f==1) (g==1) (h==1)),l) else
    ((app op 21 (half l f (II l f g h) false) (half l g (II l f g h) false) (half l h (II l f g h) false)).bnd fun lo =>
      (app op 21 (half l f (II l f g h) true) (half l g (II l f g h) true) (half l h (II l f g h) true)).bnd fun hi=>mk (II l f g h) lo hi) l from rfl,hm,if_neg h20]
theorem MB (op:B3){l l':Dg}{f g h r:Nat}(v:VD l)(hf:f<l.length)(hg:g<l.length)(hh:h<l.length)(e:ap op f g h l=some (r,l')):VD l'∧Xt l l'∧(∀l'',VD l''->Xt l' l''->ap op f g h l''=some (r,l''))∧r<l'.length∧II l f g h<=(nth l' r).lv:=by
 obtain⟨a,b,c,d⟩:=AMJ op 21 l f g h v hf hg hh (by omega) r l' e;exact⟨a,b,c,d.1,d.2.1⟩
def Mem (op:B3)(l:Dg)(e:T3×AV):Prop:=∃r:Nat,e.2=.int .i64 (r:Nat)∧e.1.f<l.length∧e.1.g<l.length∧e.1.h<l.length∧ap op e.1.f e.1.g e.1.h l=some (r,l)
theorem Mem.go {op:B3}{l l':Dg}{e:T3×AV}(h:Mem op l e)(v:VD l)(v':VD l')(x:Xt l l'):Mem op l' e:=by
 obtain⟨r,h1,h2,h3,h4,h5⟩:=h;exact⟨r,h1,x.lt h2,x.lt h3,x.lt h4,(MB op v h2 h3 h4 h5).2.2.1 l' v' x⟩
structure OS (ob bb nb ab kb:Nat) (fo:FuncId) (op:B3) (l:Dg) (full:Bool) (H:Hp):Prop where
 s:BS bb nb ab l full H
 o:H[ob]?=some (.live 3 [[.ptr bb 0 0,.fn (.func fo) [] [],.mp kb]])
 k:∃es:List (T3×AV),H[kb]?=some (.map (es.map fun e=>(ecT e.1,e.2)))∧(∀e∈es,∃n:Nat,e.2=.int .i64 (n:Nat))∧(full=false->∀e∈es,Mem op l e)
 on:ob≠nb
 kn:kb≠ab
theorem ag171:JO Tryz.prog 171=some false:=by kernel_rfl
theorem ag133:JO Tryz.prog 133=some false:=by kernel_rfl
theorem ag173:JO Tryz.prog 173=some false:=by kernel_rfl
section
variable {ob bb nb ab kb:Nat} {fo:FuncId} {op:B3} {l:Dg} {full:Bool} {H:Hp}
theorem OS.ob_ne (s:OS ob bb nb ab kb fo op l full H):ob≠bb∧ob≠ab∧ob≠kb:=by
 obtain⟨es,hk,_⟩:=s.k;exact⟨fun e=>(by have:=s.o; rw[e,s.s.b] at this; cases this),fun e=>(by have:=s.o; rw[e,s.s.a] at this; cases this),fun e=>(by have:=s.o; rw[e,hk] at this; cases this)⟩
theorem OS.kb_ne (s:OS ob bb nb ab kb fo op l full H):kb≠bb∧kb≠nb:=by
 obtain⟨es,hk,_⟩:=s.k;exact⟨fun e=>(by have:=s.s.b; rw[<-e,hk] at this; cases this),fun e=>(by have:=s.s.n; rw[<-e,hk] at this; cases this)⟩
theorem OS.app (s:OS ob bb nb ab kb fo op l full H)(x:ABlk):OS ob bb nb ab kb fo op l full (H++[x]):=by
 obtain⟨es,hk,hr⟩:=s.k;exact⟨s.s.app x,BO s.o,⟨es,BO hk,hr⟩,s.on,s.kn⟩
theorem OS.ext {H':Hp}(s:OS ob bb nb ab kb fo op l full H)(x:Sm.ext H H'):OS ob bb nb ab kb fo op l full H':=by
 obtain⟨es,hk,hr⟩:=s.k;exact⟨s.s.ext x,F8 x s.o,⟨es,F8 x hk,hr⟩,s.on,s.kn⟩
theorem OS.ld0 (s:OS ob bb nb ab kb fo op l full H):DF Tryz.prog H 171 (.ptr ob 0 0)=some (.ptr bb 0 0):=by rw[DJ ag171 s.o rfl]; rfl
theorem OS.ld1 (s:OS ob bb nb ab kb fo op l full H):DF Tryz.prog H 133 (.ptr ob 0 1)=some (.fn (.func fo) [] []):=by rw[DJ ag133 s.o rfl]; rfl
theorem OS.ld2 (s:OS ob bb nb ab kb fo op l full H):DF Tryz.prog H 173 (.ptr ob 0 2)=some (.mp kb):=by rw[DJ ag173 s.o rfl]; rfl
theorem OS.lt (s:OS ob bb nb ab kb fo op l full H):ob<H.length∧bb<H.length∧nb<H.length∧ab<H.length∧kb<H.length:=by
 obtain⟨es,hk,_⟩:=s.k;exact⟨CB s.o,CB s.s.b,CB s.s.n,CB s.s.a,CB hk⟩
end
theorem AM5 {κ:Type} [DecidableEq κ] {es:List (κ×AV)}{x:κ}{v:AV}{e:κ×AV}(h:e∈upK es x v):e∈es∨e=(x,v):=by
 unfold upK at h;split at h
 .exact(List.mem_or_eq_of_mem_set h).imp id id
 .rcases List.mem_append.1 h with h|h
  .exact .inl h
  .exact .inr (List.mem_singleton.1 h)
def AP (ob bb ab kb:Nat)(fo:FuncId)(op:B3)(nb:Nat)(H:Hp)(full:Bool)(l:Dg)(o:Option (Nat×Dg))(v:AV)(H':Hp):Prop :=
 ∃nb',Kd [bb,ab,kb] nb nb' H H'∧((full=false∧∃r l',o=some (r,l')∧v=.int .i64 (r:Nat)∧OS ob bb nb' ab kb fo op l' false H')∨((full=true∨o=none)∧(∃n:Nat,v=.int .i64 (n:Nat))∧∃l',Xt l l'∧OS ob bb nb' ab kb fo op l' true H'))
theorem A23 (h:Hp)(a b c:Int):MG h (.agg (i3 a b c))=some (.ptr h.length 0 0,h++[.live 3 [i3 a b c]]):=rfl
theorem AD8 (a b c:Int):KD Tryz.prog 132 [(0,.int .i64 a),(1,.int .i64 b),(2,.int .i64 c)]=some (.agg (i3 a b c)):=by kernel_rfl
theorem AG0 {h:Hp}{b:Nat}{a c d:Int}(hb:h[b]?=some (.live 3 [i3 a c d])):DF Tryz.prog h 132 (.ptr b 0 0)=some (.agg (i3 a c d)):=by
 rw[GV A3W A02 hb (row:=i3 a c d) rfl (Nat.le_refl 3)]; rfl
theorem AFN (a b c:Nat):min (min (a:Int) (b:Int)) (c:Int)=((min (min a b) c:Nat):Int):=by omega
theorem eq1 (f:Nat):(((f:Nat):Int)==1)=(f==1):=by rw[qH]; simp; omega
theorem A2I (f:Nat):(((f:Nat):Int)==20)=decide (f=20):=by rw[qH]; simp; omega
end Go.Proofs.YtgnoolgeijmlaaaGreatDoor.Bl
set_option linter.unusedSimpArgs false
set_option maxRecDepth 8000
namespace Go.Proofs.YtgnoolgeijmlaaaGreatDoor.Bl
open Sm Bins Cov Xe Wd Go.Proofs.YtgnoolgeijmlaaaGreatDoor.Bd Go.RowKit
open Bool renaming not_false→jC,and_eq_true→zB,not_true→jZ
open List renaming map_cons→jF,map_nil→jE,append_nil→jD,getElem?_cons_zero→jT,getElem?_cons_succ→jU,take_succ_cons→wJ,take_zero→qC,getElem?_set_ne→jS,all_eq_true→zQ,length_map→jR,getElem?_append_left→zS,getElem?_eq_getElem→jX,getElem?_drop→wF,length_set→zY,getD_eq_getElem?_getD→zM,replicate→jJ,take_of_length_le→zH,drop_eq_nil_of_le→zF,drop_eq_getElem_cons→zU,append_assoc→zJ
open Nat renaming le_of_ble_eq_true→jH,reduceEqDiff→jA,add_zero→jL,zero_add→jG,reduceAdd→jM,lt_or_ge→jY,le_refl→jP
open Option renaming getD_some→jB,getD_none→jO
theorem AZJ {h:Hp}{b:Nat}{es:List (T3×AV)}(hb:h[b]?=some (.map (es.map fun e=>(ecT e.1,e.2))))(x:T3) :
  (fk x es=none∧JZ Tryz.prog h 173 (.mp b) (.agg (TA x)) true=some (.tup [.int .i64 0,.bool false]))∨∃v,(x,v)∈es∧JZ Tryz.prog h 173 (.mp b) (.agg (TA x)) true=some (.tup [v,.bool true]):=by
 have e:JZ Tryz.prog h 173 (.mp b) (.agg (TA x)) true=_:=AGZ AXT A12 ktT zr3 hb x true
 cases hx:fk x es with
 | none=>rw[hx] at e; exact .inl ⟨rfl,e⟩
 | some i =>
   obtain⟨v,hv⟩:=ACH hx;rw[hx] at e;simp only[Option.bind_some,hv] at e;exact .inr ⟨v,List.mem_of_getElem? hv,e⟩
section
variable (G:Nat->AV) {ob bb ab kb:Nat} {fo:FuncId} {op:B3}
theorem AMI (nb:Nat)(l:Dg)(H:Hp)(x:T3)(s:OS ob bb nb ab kb fo op l true H):ACalls (En G) 155 [.ptr ob 0 0,.agg (TA x)] H (AP ob bb ab kb fo op nb H true l (ap op x.f x.g x.h l)):=by
 refine acN Tryz.func155 rfl ?_;show awp _ _ _ _ _ (EK _ [.tmp 4] _);have s1:=s.app (.live 3 [TA x]);have bx:MG H (.agg (TA x))=some (.ptr H.length 0 0,H++[.live 3 [TA x]]):=rfl;simp -implicitDefEqProofs only[vQ,BD,↓reduceIte,jA,enP,QQ,ACI,bx,s1.ld0,s1.s.ldF];exact⟨nb,(Kd.rfl' _ _ _).app _,.inr ⟨.inl rfl,⟨0,rfl⟩,l,Xt.rfl' l,s1⟩⟩
set_option maxHeartbeats 4000000 in
theorem AMH (hfo:∀(a b c:Bool) (H:Hp),PCall (En G) fo [.bool a,.bool b,.bool c] H (.bool (op a b c))):∀(k nb:Nat) (l:Dg) (H:Hp) (x:T3),OS ob bb nb ab kb fo op l false H->x.f<l.length->x.g<l.length->x.h<l.length->20<II l x.f x.g x.h+k ->
  ACalls (En G) 155 [.ptr ob 0 0,.agg (TA x)] H (AP ob bb ab kb fo op nb H false l (ap op x.f x.g x.h l)):=by
 intro k
 induction k with
 | zero =>
   intro nb l H x s hf hg hh hk;have:=s.s.v.lv_le hf;unfold II at hk;omega
 | succ k ih =>
 intro nb l H x s hf hg hh hk;have v:=s.s.v;have lf:=v.lv_le hf;have lg:=v.lv_le hg;have lh:=v.lv_le hh;refine acN Tryz.func155 rfl ?_;show awp _ _ _ _ _ (EK _ [.tmp 4] _);have s1:=s.app (.live 3 [TA x]);have k1:Kd [bb,ab,kb] nb nb H (H++[.live 3 [TA x]]):=(Kd.rfl' _ _ _).app _;have bx:MG H (.agg (TA x))=some (.ptr H.length 0 0,H++[.live 3 [TA x]]):=rfl;have gx:=CU H (ABlk.live 3 [TA x]);simp -implicitDefEqProofs only[vQ,BD,↓reduceIte,jA,enP,QQ,ACI,bx,s1.ld0,s1.s.ldF];have olt:=s.lt;have bl:(H++[ABlk.live 3 [TA x]]).length=H.length+1:=by simp
 generalize hH1:H++[ABlk.live 3 [TA x]]=H1 at s1 k1 gx bl|-;have xl:=ldi gx;refine GL (by kernel_rfl) ?_;simp -implicitDefEqProofs only[vQ,JJ,BD,↓reduceIte,jA,jM,enP,SA,OG,ZN,ZM,ZL,QQ,WJ,s1.ld0,s1.s.ldN,xl.1,xl.2.1,xl.2.2,(s1.s.at hf).1,(s1.s.at hf).2.2,(s1.s.at hg).1,(s1.s.at hg).2.2,(s1.s.at hh).1,(s1.s.at hh).2.2,AQO,ANP,AFN];rw[show min (min (nth l x.f).lv (nth l x.g).lv) (nth l x.h).lv=II l x.f x.g x.h from rfl];generalize hm:II l x.f x.g x.h=lv at hk|-;have m1:lv<=(nth l x.f).lv∧lv<=(nth l x.g).lv∧lv<=(nth l x.h).lv:=by rw[<-hm]; unfold II; omega
 simp -implicitDefEqProofs only[A2I];by_cases h20:lv=20
 .rw[decide_eq_true h20]
  have hap:ap op x.f x.g x.h l=some (tn (op (x.f==1) (x.g==1) (x.h==1)),l):=AT4 op (by omega);simp -implicitDefEqProofs only[vQ];refine GL (by kernel_rfl) ?_;simp -implicitDefEqProofs only[vQ,↓reduceIte,jA,jM,enP,ZN,ZM,ZL,AWM,s1.ld1,xl.1,xl.2.1,xl.2.2,eq1];refine⟨_,hfo _ _ _ _,?_⟩;cases hb:op (x.f==1) (x.g==1) (x.h==1)
  .rw[hb] at hap
   simp -implicitDefEqProofs only[vQ,BD,↓reduceIte];exact⟨nb,k1,.inl ⟨rfl,0,l,hap,rfl,s1⟩⟩
  .rw[hb] at hap
   simp -implicitDefEqProofs only[vQ,BD,↓reduceIte];exact⟨nb,k1,.inl ⟨rfl,1,l,hap,rfl,s1⟩⟩
 rw[decide_eq_false h20];have h20':lv<20:=by omega
 simp -implicitDefEqProofs only[vQ];refine GL (by kernel_rfl) ?_;obtain⟨es,hes,hev,hem⟩:=s1.k;rcases AZJ hes x with⟨hfk,hlk⟩|⟨w,hw,hlk⟩
 case inr =>
  obtain⟨r,hr,_,_,_,hap⟩:=hem rfl _ hw;have hr:w=.int .i64 (r:Nat):=hr;subst hr;simp -implicitDefEqProofs only[vQ,jT,jU,MH,BD,TD,ACO,↓reduceIte,jA,jM,enP,AHF,s1.ld2,AG0 gx,show JZ Tryz.prog H1 173 (.mp kb) (.agg (i3 x.f x.g x.h)) true=_ from hlk];exact⟨nb,k1,.inl ⟨rfl,r,l,hap,rfl,s1⟩⟩
 simp -implicitDefEqProofs only[vQ,jT,jU,MH,BD,TD,ACO,↓reduceIte,jA,jM,enP,AHF,s1.ld2,AG0 gx,show JZ Tryz.prog H1 173 (.mp kb) (.agg (i3 x.f x.g x.h)) true=_ from hlk]
 -- both branches
 have hl0:∀one,half l x.f lv one<l.length∧lv<(nth l (half l x.f lv one)).lv:=fun one=>OB v hf one h20' m1.1
 have hl1:∀one,half l x.g lv one<l.length∧lv<(nth l (half l x.g lv one)).lv:=fun one=>OB v hg one h20' m1.2.1
 have hl2:∀one,half l x.h lv one<l.length∧lv<(nth l (half l x.h lv one)).lv:=fun one=>OB v hh one h20' m1.2.2
 have m2:∀one,lv<II l (half l x.f lv one) (half l x.g lv one) (half l x.h lv one):=fun one=>by
  have:=(hl0 one).2; have:=(hl1 one).2; have:=(hl2 one).2;unfold II; omega
 have hstep:=AOO op v hf hg hh hm h20;refine OT 26 _ _ (by kernel_rfl) rfl rfl rfl rfl ?_;simp only[wJ,qC];simp -implicitDefEqProofs only[vQ,↓reduceIte,jA,jM,enP,ZN,ZM,QQ,s1.ld0,xl.1];refine⟨_,QS G bb nb ab l false H1 s1.s x.f lv hf false,?_⟩;simp -implicitDefEqProofs only[vQ,↓reduceIte,jA,jM,enP,ZL,QQ,s1.ld0,xl.2.1];refine⟨_,QS G bb nb ab l false H1 s1.s x.g lv hg false,?_⟩;simp -implicitDefEqProofs only[vQ,YJ,↓reduceIte,jA,jM,enP,s1.ld0,xl.2.2];refine⟨_,QS G bb nb ab l false H1 s1.s x.h lv hh false,?_⟩;simp -implicitDefEqProofs only[vQ,↓reduceIte,jA,AD8];refine ACalls.mono (ih nb l H1 ⟨half l x.f lv false,half l x.g lv false,half l x.h lv false⟩ s1 (hl0 false).1 (hl1 false).1 (hl2 false).1 (by have:=m2 false; show 20<II l (half l x.f lv false) (half l x.g lv false) (half l x.h lv false)+k; omega)) ?_;rintro r1 H2 ⟨nb2,k2,hcase⟩;have gx2:H2[H.length]?=some (ABlk.live 3 [TA x]):=k2.keep _ _ gx (by simp; omega) (by omega);have k12:=k1.trans k2;have xl2:=ldi gx2
 -- behind the first branch: the diagram and whether it is full
 obtain⟨l2,full2,n1,e1,s2,x2,hsp⟩:∃(l2:Dg) (full2:Bool) (n1:Nat),r1=.int .i64 (n1:Nat)∧OS ob bb nb2 ab kb fo op l2 full2 H2∧Xt l l2∧((full2=false∧ap op (half l x.f lv false) (half l x.g lv false) (half l x.h lv false) l=some (n1,l2))∨(full2=true∧ap op (half l x.f lv false) (half l x.g lv false) (half l x.h lv false) l=none)):=by
  rcases hcase with⟨_,r,l',ha,hr,s'⟩|⟨ha,⟨n,hn⟩,l',x',s'⟩
  .exact⟨l',false,r,hr,s',(MB op v (hl0 false).1 (hl1 false).1 (hl2 false).1 ha).2.1,.inl ⟨rfl,ha⟩⟩
  .rcases ha with ha|ha
   .cases ha
   .exact⟨l',true,n,hn,s',x',.inr ⟨rfl,ha⟩⟩
 subst e1;have v2:=s2.s.v;have hv2:∀f one,f<l.length->half l2 f lv one=half l f lv one:=fun f one hfl=>by unfold half; rw[x2.nth hfl]
 simp -implicitDefEqProofs only[vQ,↓reduceIte];refine OT 26 _ _ (by kernel_rfl) rfl rfl rfl rfl ?_;simp only[wJ,qC];simp -implicitDefEqProofs only[vQ,↓reduceIte,jA,jM,enP,ZN,ZM,QQ,s2.ld0,xl2.1];refine⟨_,QS G bb nb2 ab l2 full2 H2 s2.s x.f lv (x2.lt hf) true,?_⟩;simp -implicitDefEqProofs only[vQ,↓reduceIte,jA,jM,enP,ZL,QQ,s2.ld0,xl2.2.1];refine⟨_,QS G bb nb2 ab l2 full2 H2 s2.s x.g lv (x2.lt hg) true,?_⟩;simp -implicitDefEqProofs only[vQ,YJ,↓reduceIte,jA,jM,enP,s2.ld0,xl2.2.2];refine⟨_,QS G bb nb2 ab l2 full2 H2 s2.s x.h lv (x2.lt hh) true,?_⟩;simp -implicitDefEqProofs only[vQ,BD,↓reduceIte,jA,AD8,hv2 _ _ hf,hv2 _ _ hg,hv2 _ _ hh]
 have hcall:ACalls (En G) 155 [.ptr ob 0 0,.agg (TA ⟨half l x.f lv true,half l x.g lv true,half l x.h lv true⟩)] H2 (AP ob bb ab kb fo op nb2 H2 full2 l2 (ap op (half l x.f lv true) (half l x.g lv true) (half l x.h lv true) l2)):=by
  cases full2 with
  | true=>exact AMI G nb2 l2 H2 ⟨half l x.f lv true,half l x.g lv true,half l x.h lv true⟩ s2
  | false =>
    refine ih nb2 l2 H2 ⟨half l x.f lv true,half l x.g lv true,half l x.h lv true⟩ s2 (x2.lt (hl0 true).1) (x2.lt (hl1 true).1) (x2.lt (hl2 true).1) ?_;show 20<II l2 (half l x.f lv true) (half l x.g lv true) (half l x.h lv true)+k
    have:II l2 (half l x.f lv true) (half l x.g lv true) (half l x.h lv true)=II l (half l x.f lv true) (half l x.g lv true) (half l x.h lv true):=by
     unfold II; rw[x2.nth (hl0 true).1,x2.nth (hl1 true).1,x2.nth (hl2 true).1]
    rw[this]; have:=m2 true; omega
 refine ACalls.mono hcall ?_;rintro r2 H3 ⟨nb3,k3,hcase2⟩;have gx3:H3[H.length]?=some (ABlk.live 3 [TA x]):=k3.keep _ _ gx2 (by simp; omega) (by rcases k2.nn with e|e<;>omega);have k13:=k12.trans k3;have xl3:=ldi gx3
 obtain⟨l3,full3,n2,e2,s3,x3,hsp2⟩:∃(l3:Dg) (full3:Bool) (n2:Nat),r2=.int .i64 (n2:Nat)∧OS ob bb nb3 ab kb fo op l3 full3 H3∧Xt l2 l3∧((full3=false∧full2=false∧ap op (half l x.f lv true) (half l x.g lv true) (half l x.h lv true) l2=some (n2,l3))∨(full3=true∧(full2=true∨ap op (half l x.f lv true) (half l x.g lv true) (half l x.h lv true) l2=none))):=by
  rcases hcase2 with⟨hf2,r,l',ha,hr,s'⟩|⟨ha,⟨n,hn⟩,l',x',s'⟩
  .exact⟨l',false,r,hr,s',(MB op v2 (x2.lt (hl0 true).1) (x2.lt (hl1 true).1) (x2.lt (hl2 true).1) ha).2.1,.inl ⟨rfl,hf2,ha⟩⟩
  .exact⟨l',true,n,hn,s',x',.inr ⟨rfl,ha⟩⟩
 subst e2;have v3:=s3.s.v;have x13:=x2.trans x3;simp -implicitDefEqProofs only[vQ,BD,↓reduceIte,jA,enP,QQ,s3.ld0]
 -- the node
 have hnode:=node_prog G bb nb3 ab l3 full3 H3 s3.s lv n1 n2 (fun hf3=>by
  rcases hsp2 with⟨_,hf2,ha2⟩|⟨q,_⟩
  .rcases hsp with⟨_,ha1⟩|⟨q,_⟩
   .obtain⟨_,_,_,p1,p2⟩:=MB op v (hl0 false).1 (hl1 false).1 (hl2 false).1 ha1
    obtain⟨_,_,_,p3,p4⟩:=MB op v2 (x2.lt (hl0 true).1) (x2.lt (hl1 true).1) (x2.lt (hl2 true).1) ha2
    have e:II l2 (half l x.f lv true) (half l x.g lv true) (half l x.h lv true)=II l (half l x.f lv true) (half l x.g lv true) (half l x.h lv true):=by
     unfold II; rw[x2.nth (hl0 true).1,x2.nth (hl1 true).1,x2.nth (hl2 true).1]
    rw[e] at p4;refine⟨h20',x3.lt p1,p3,?_,?_⟩
    .rw[x3.nth p1]; have:=m2 false; omega
    .have:=m2 true; omega
   .rw[hf2] at q; cases q
  .rw[hf3] at q; cases q)
 refine ACalls.mono hnode ?_;rintro r3 H4 ⟨nb4,k4,hcase3⟩;have gx4:H4[H.length]?=some (ABlk.live 3 [TA x]):=k4.keep _ _ gx3 (by simp; omega) (by have:=k2.len; rcases k3.nn with e|e<;>rcases k2.nn with e'|e'<;>omega);have k14:=k13.trans (k4.sub (T:=[bb,ab,kb]) (by simp))
 -- what lies beside the builder is as it was
 have ho4:H4[ob]?=some (.live 3 [[.ptr bb 0 0,.fn (.func fo) [] [],.mp kb]]):=k4.keep _ _ s3.o (by simp; exact⟨s3.ob_ne.1,s3.ob_ne.2.1⟩) s3.on;obtain⟨es3,hes3,hev3,hem3⟩:=s3.k;have hk4:H4[kb]?=some (.map (es3.map fun e=>(ecT e.1,e.2))):=k4.keep _ _ hes3 (by simp; exact⟨s3.kb_ne.1,s3.kn⟩) s3.kb_ne.2
 have hon4:ob≠nb4:=by
  rcases k4.nn with e|e
  .rw[e]; exact s3.on
  .have:=s3.lt.1; omega
 have hkn4:kb≠nb4:=by
  rcases k4.nn with e|e
  .rw[e]; exact s3.kb_ne.2
  .have:=s3.lt.2.2.2.2; omega
 obtain⟨l4,full4,n3,e3,b4,x4,hsp3⟩:∃(l4:Dg) (full4:Bool) (n3:Nat),r3=.int .i64 (n3:Nat)∧BS bb nb4 ab l4 full4 H4∧Xt l3 l4∧((full4=false∧full3=false∧mk lv n1 n2 l3=some (n3,l4))∨(full4=true∧(full3=true∨mk lv n1 n2 l3=none))):=by
  rcases hcase3 with⟨hf3,r,l',ha,hr,s'⟩|⟨ha,⟨n,hn⟩,l',x',s'⟩
  .refine⟨l',false,r,hr,s',?_,.inl ⟨rfl,hf3,ha⟩⟩
   unfold mk at ha;split at ha
   .cases ha; exact Xt.rfl' _
   .split at ha
    .cases ha; exact Xt.rfl' _
    .split at ha
     .cases ha
     .cases ha; exact⟨_,rfl⟩
  .exact⟨l',true,n,hn,s',x',.inr ⟨rfl,ha⟩⟩
 subst e3;have x14:=x13.trans x4
 -- the whole operation
 have hall:(full4=false->ap op x.f x.g x.h l=some (n3,l4))∧(full4=true->ap op x.f x.g x.h l=none):=by
  constructor
  .intro q
   rcases hsp3 with⟨_,hf3,ha3⟩|⟨q',_⟩
   .rcases hsp2 with⟨_,hf2,ha2⟩|⟨q',_⟩
    .rcases hsp with⟨_,ha1⟩|⟨q',_⟩
     .rw[hstep,NZ ha1,NZ ha2]; exact ha3
     .rw[hf2] at q'; cases q'
    .rw[hf3] at q'; cases q'
   .rw[q] at q'; cases q'
  .intro q
   rcases hsp3 with⟨q',_⟩|⟨_,hor⟩
   .rw[q] at q'; cases q'
   .rw[hstep]
    rcases hsp with⟨hf2,ha1⟩|⟨_,ha1⟩
    .rw[NZ ha1]
     rcases hsp2 with⟨hf3,_,ha2⟩|⟨hf3,hor2⟩
     .rw[NZ ha2]
      rcases hor with h|h
      .rw[hf3] at h; cases h
      .exact h
     .rcases hor2 with h|h
      .rw[hf2] at h; cases h
      .exact RJ h
    .exact RJ ha1
 simp -implicitDefEqProofs only[vQ,BD,↓reduceIte];refine GL (by kernel_rfl) ?_;have l4o:DF Tryz.prog H4 173 (.ptr ob 0 2)=some (.mp kb):=by rw[DJ ag173 ho4 rfl]; rfl
 have hup:J5 Tryz.prog H4 173 (.mp kb) (.agg (i3 x.f x.g x.h)) (.int .i64 (n3:Nat))=some (H4.set kb (.map ((upK es3 x (.int .i64 (n3:Nat))).map fun e=>(ecT e.1,e.2)))):=Y2 AXT A12 ktT hk4 x _;simp -implicitDefEqProofs only[vQ,BD,OM,↓reduceIte,jA,jM,enP,AHF,jO,l4o,AG0 gx4,SB,hup];have hkb:=CB hk4
 have s5:OS ob bb nb4 ab kb fo op l4 full4 (H4.set kb (.map ((upK es3 x (.int .i64 (n3:Nat))).map fun e=>(ecT e.1,e.2)))):=by
  refine⟨b4.set s3.kb_ne.1 hkn4 s3.kn _,by rw[jS (Ne.symm s3.ob_ne.2.2)]; exact ho4,⟨_,DX hk4,fun e he=>?_,fun hf4 e he=>?_⟩,hon4,s3.kn⟩
  .rcases AM5 he with he|rfl
   .exact hev3 e he
   .exact⟨n3,rfl⟩
  .rcases AM5 he with he|rfl
   .have hf3:full3=false:=by
     rcases hsp3 with⟨_,hf3,_⟩|⟨q,_⟩
     .exact hf3
     .rw[hf4] at q; cases q
    exact(hem3 hf3 e he).go v3 b4.v x4
   .have:=hall.1 hf4
    exact⟨n3,rfl,x14.lt hf,x14.lt hg,x14.lt hh,(MB op v hf hg hh this).2.2.1 l4 b4.v (Xt.rfl' _)⟩
 refine⟨nb4,k14.setS (.inl (by simp)) _,?_⟩
 cases full4 with
 | false=>exact .inl ⟨rfl,n3,l4,hall.1 rfl,rfl,s5⟩
 | true=>exact .inr ⟨.inr (hall.2 rfl),⟨n3,rfl⟩,l4,x14,s5⟩
end
def dgA (m:SM)(l:Dg):AV:=.agg [.sl m 3 (l.map DY)]
def dgV (o:Option (Nat×Dg)):AV:=match o with
 | some (r,l)=>.tup [dgA .any l,.int .i64 (r:Nat),.int .i64 0]
 | none=>.tup [.agg [.sl .nil 0 []],.int .i64 0,.int .i64 2]
theorem AWB {l:Dg}{fs:List Nat}(h:∀f∈fs,f<l.length):AWC (l.map Nd.raw) (fs.map fun f:Nat=>(f:Int))=true:=by
 unfold AWC;rw[List.all_map,zQ];intro f hf;have:=h f hf;rw[jR];simp only[Function.comp,zB,decide_eq_true_eq];omega
theorem AZ9 (h:Hp)(a b c:Int):GG Tryz.prog false h 29 3 [(0,.int .i64 a),(1,.int .i64 b),(2,.int .i64 c)]=some (.sl .full 1 [[.int .i64 a],[.int .i64 b],[.int .i64 c]],h):=by kernel_rfl
theorem A0A (h:Hp)(a b:Int):GG Tryz.prog false h 29 2 [(0,.int .i64 a),(1,.int .i64 b)]=some (.sl .full 1 [[.int .i64 a],[.int .i64 b]],h):=by kernel_rfl
theorem A3P (b:Nat)(fo:FuncId)(m:Nat):KD Tryz.prog 175 [(0,.ptr b 0 0),(1,.fn (.func fo) [] []),(2,.mp m)]=some (.agg [.ptr b 0 0,.fn (.func fo) [] [],.mp m]):=by kernel_rfl
theorem A22 (h:Hp)(b:Nat)(fo:FuncId)(m:Nat):MG h (.agg [.ptr b 0 0,.fn (.func fo) [] [],.mp m])=some (.ptr h.length 0 0,h++[.live 3 [[.ptr b 0 0,.fn (.func fo) [] [],.mp m]]]):=rfl
theorem ASY {n:Nat}{h:Hp}{b:Nat}{l:Dg}{x y:Int}(hn:n<=b)(hb:h[b]?=some (.live 3 (l.map DY))):JS n h 4 (.tup [.agg [.own b 0 l.length],.int .i64 x,.int .i64 y])=.tup [dgA .any l,.int .i64 x,.int .i64 y]:=by
 have e:=UK (d:=0) AX9 hn hb;show AV.tup [.agg [JS n h 2 (.own b 0 l.length)],.int .i64 x,.int .i64 y]=_;rw[e]; rfl
section
variable (G:Nat->AV)
theorem ALR (l:Dg)(m:SM)(v:VD l)(fs:List Nat)(m':SM)(hf:∀f∈fs,f<l.length)(hfl:fs.length<=1048576)(h:Hp):PCall (En G) 67 [dgA m l,.sl m' 1 ((fs.map fun f:Nat=>(f:Int)).map qencI)] h (.bool true):=by
 have:=ASO G (l.map Nd.raw) m (by rw[jR]; have:=v.mx; omega) (fs.map fun f:Nat=>(f:Int)) m' (by rw[jR]; exact hfl) h;rw[WE,AQT v,AWB hf] at this;exact this
set_option maxHeartbeats 1000000 in
theorem QF {fo:FuncId}{op:B3}(hfo:∀(a b c:Bool) (H:Hp),PCall (En G) fo [.bool a,.bool b,.bool c] H (.bool (op a b c)))(l:Dg)(m:SM)(v:VD l)(f g k:Nat)(hf:f<l.length)(hg:g<l.length)(hk:k<l.length)(h:Hp) :
  PCall (En G) 105 [dgA m l,.agg (i3 f g k),.fn (.func fo) [] []] h (dgV (ap op f g k l)):=by
 refine ACalls.pure 4 (R:=fun r H=>ext h H∧((∃n l' b,ap op f g k l=some (n,l')∧h.length<=b∧r=.tup [.agg [.own b 0 l'.length],.int .i64 (n:Nat),.int .i64 0]∧H[b]?=some (.live 3 (l'.map DY)))∨(ap op f g k l=none∧r=.tup [.agg [.sl .nil 0 []],.int .i64 0,.int .i64 2]))) ?_ ?_
 .refine acN Tryz.func105 rfl ?_
  show awp _ _ _ _ _ (EK _ [.cell 6 35,.tmp 7,.tmp 8] _);unfold dgA;have g0:=CU h (ABlk.live 1 [[.sl m 3 (l.map DY)]]);simp -implicitDefEqProofs only[vQ,BD,↓reduceIte,jA,enP,UO,A23,TB];generalize hA:h++[ABlk.live 1 [[.sl m 3 (l.map DY)]]]=A at g0|-;have exA:ext h A:=⟨_,hA.symm⟩;have lA:A.length=h.length+1:=by rw[<-hA]; simp
  have g1:=CU A (ABlk.live 3 [i3 f g k]);have g0:=BO (x:=ABlk.live 3 [i3 f g k]) g0;have exB:=exA.app [ABlk.live 3 [i3 f g k]];have lB:(A++[ABlk.live 3 [i3 f g k]]).length=h.length+2:=by simp; omega
  generalize A++[ABlk.live 3 [i3 f g k]]=B at g0 g1 exB lB|-;have g2:=CU B (ABlk.live 1 [[.sl .nil 0 []]]);have g1:=BO (x:=ABlk.live 1 [[.sl .nil 0 []]]) g1;have g0:=BO (x:=ABlk.live 1 [[.sl .nil 0 []]]) g0;have exC:=exB.app [ABlk.live 1 [[.sl .nil 0 []]]];have lC:(B++[ABlk.live 1 [[.sl .nil 0 []]]]).length=h.length+3:=by simp; omega
  generalize B++[ABlk.live 1 [[.sl .nil 0 []]]]=C at g0 g1 g2 exC lC|-;rw[lA] at g1|-;rw[lB] at g2|-;have xl:=ldi g1;simp -implicitDefEqProofs only[vQ,BD,↓reduceIte,jA,enP,ZN,ZM,ZL,JK g0,xl.1,xl.2.1,xl.2.2,AZ9];refine(ALR G l m v [f,g,k] .full (by intro q hq; simp at hq; rcases hq with rfl|rfl|rfl<;>assumption) (by simp) C).use ?_;simp -implicitDefEqProofs only[vQ,BD,↓reduceIte,jA,jZ,enP,JK g0];refine ACalls.mono (AD7 G l m v C) ?_;rintro r D ⟨exD,bb,nb,ab,rfl,o1,o2,o3,sD⟩;have g0:=F8 exD g0;have g1:=F8 exD g1;have g2:=F8 exD g2;have exCD:=exC.trans exD;have lD:=exD.le;simp -implicitDefEqProofs only[vQ,BD,V3,↓reduceIte,jA,enP,A3P,A22];have sE:=sD.ext ((((ext.rfl' D).app [ABlk.map []])).app [ABlk.live 3 [[.ptr bb 0 0,.fn (.func fo) [] [],.mp D.length]]]);have exE:ext D (D++[ABlk.map []]++[ABlk.live 3 [[.ptr bb 0 0,.fn (.func fo) [] [],.mp D.length]]]):=((ext.rfl' D).app _).app _;have gE:=CU (D++[ABlk.map []]) (ABlk.live 3 [[.ptr bb 0 0,.fn (.func fo) [] [],.mp D.length]]);have gK:=BO (x:=ABlk.live 3 [[.ptr bb 0 0,.fn (.func fo) [] [],.mp D.length]]) (CU D (ABlk.map []));have lE:(D++[ABlk.map []]).length=D.length+1:=by simp
  rw[lE] at gE|-;generalize D++[ABlk.map []]++[ABlk.live 3 [[.ptr bb 0 0,.fn (.func fo) [] [],.mp D.length]]]=E at sE exE gE gK|-;have g0:=F8 exE g0;have g1:=F8 exE g1;have g2:=F8 exE g2;have hb:=CB sD.b;have hn:=CB sD.n;have ha:=CB sD.a;have sO:OS (D.length+1) bb nb ab D.length fo op l false E:=⟨sE,gE,⟨[],gK,⟨fun e he=>(by cases he),fun _ e he=>(by cases he)⟩⟩,by omega,by omega⟩;have lCE:h.length+3<=E.length:=by have:=exE.le; omega
  have lEE:=CB gE;refine EW (.ones [0,1,2,4,5] (.alt 3 (.alt 6 (.alt 7 (.ones [8,9,10,11,12,13] .done) .non) .non) (.alt 6 (.alt 3 (.alt 7 (.ones [8,9,10,11,12,13] .done) .non) .non) .non))) (by kernel_rfl) ?_;simp only[DN,IE,jU,jT]
  have call:∀(K:AV->Hp->Prop),(∀r H,AP (D.length+1) bb ab D.length fo op nb E false l (ap op f g k l) r H->K r H)->ACalls (En G) 155 [.ptr (D.length+1) 0 0,.agg (i3 f g k)] E K:=fun K hK =>
   ACalls.mono (AMH G hfo 21 nb l E ⟨f,g,k⟩ sO hf hg hk (by omega)) hK
  have fin:∀(r:AV) (H:Hp),AP (D.length+1) bb ab D.length fo op nb E false l (ap op f g k l) r H->∃(n nb':Nat) (l':Dg) (full:Bool),r=.int .i64 (n:Nat)∧BS bb nb' ab l' full H∧h.length<=nb'∧DF Tryz.prog H 171 (.ptr (D.length+1) 0 0)=some (.ptr bb 0 0)∧ext h H∧(∃x,H[h.length+2]?=some (ABlk.live 1 [[x]]))∧((full=false∧ap op f g k l=some (n,l'))∨(full=true∧ap op f g k l=none)):=by
   rintro r H ⟨nb',kd,hc⟩
   have eH:ext h H:=by
    obtain⟨y,hy⟩:=exCD.trans exE;refine⟨H.drop h.length,?_⟩;apply List.ext_getElem?;intro i;rcases jY i h.length with q|q
    .rw[zS q,jX q]
     refine kd.keep i _ ?_ (by simp; omega) (by omega);rw[hy,zS q,jX q]
    .rw[List.getElem?_append_right q,wF]
     congr 1; omega
   have g2':∃x,H[h.length+2]?=some (ABlk.live 1 [[x]]):=⟨_,kd.keep _ _ g2 (by simp; omega) (by omega)⟩
   have nn:h.length<=nb':=by rcases kd.nn with e|e<;>omega
   rcases hc with⟨_,n,l',e,hr,s'⟩|⟨e,⟨n,hr⟩,l',x',s'⟩
   .exact⟨n,nb',l',false,hr,s'.s,nn,s'.ld0,eH,g2',.inl ⟨rfl,e⟩⟩
   .rcases e with e|e
    .cases e
    .exact⟨n,nb',l',true,hr,s'.s,nn,s'.ld0,eH,g2',.inr ⟨rfl,e⟩⟩
  -- the end: what done returns is stored and returned
  have last:∀(n nb':Nat) (l':Dg) (full:Bool) (H H':Hp) (r:AV),BS bb nb' ab l' full H->h.length<=nb'->ext h H->(∃x,H[h.length+2]?=some (ABlk.live 1 [[x]]))->((full=false∧ap op f g k l=some (n,l'))∨(full=true∧ap op f g k l=none))->ext H H' ->
    r = (if full=true then AV.tup [.agg [.sl .nil 0 []],.int .i64 0,.int .i64 2] else .tup [.agg [.own nb' 0 l'.length],.int .i64 (n:Nat),.int .i64 0])->∃(x:AV) (y z:Int),r=.tup [.agg [x],.int .i64 y,.int .i64 z]∧∃H2,FO Tryz.prog H' 35 (.ptr (h.length+2) 0 0) (.agg [x])=some H2∧DF Tryz.prog H2 35 (.ptr (h.length+2) 0 0)=some (.agg [x])∧ext h H2 ∧
      ((∃n l' b,ap op f g k l=some (n,l')∧h.length<=b∧AV.tup [.agg [x],.int .i64 y,.int .i64 z]=.tup [.agg [.own b 0 l'.length],.int .i64 (n:Nat),.int .i64 0]∧H2[b]?=some (.live 3 (l'.map DY)))∨(ap op f g k l=none∧AV.tup [.agg [x],.int .i64 y,.int .i64 z]=.tup [.agg [.sl .nil 0 []],.int .i64 0,.int .i64 2])):=by
   rintro n nb' l' full H H' r sH nn eH ⟨x,gx⟩ hor e' hr;have gx':=F8 e' gx;have s':=sH.ext e';rcases hor with⟨rfl,e⟩|⟨rfl,e⟩
   .rw[if_neg (by simp)] at hr
    refine⟨.own nb' 0 l'.length,n,0,hr,_,ANA gx' _ _,JK (DX gx'),(eH.trans e').set (by omega) _,.inl ⟨n,l',nb',e,nn,rfl,?_⟩⟩;rw[jS (fun q=>by rw[q] at gx'; rw[s'.n] at gx'; cases gx')];exact s'.n
   .rw[if_pos rfl] at hr
    exact⟨.sl .nil 0 [],0,2,hr,_,LZ gx' _ _ _,JK (DX gx'),(eH.trans e').set (by omega) _,.inr ⟨e,rfl⟩⟩
  simp -implicitDefEqProofs only[vQ,MH,↓reduceIte,jA,jM,enP,QQ,AG0 g1,sO.ld0];refine⟨?_,?_,trivial⟩
  .refine⟨call _ ?_,trivial⟩
   intro r H hap;obtain⟨n,nb',l',full,rfl,sH,nn,l0,eH,g2',hor⟩:=fin r H hap;simp -implicitDefEqProofs only[vQ,↓reduceIte,jA];refine⟨ACalls.mono (AA2 G bb nb' ab l' full H sH n) ?_,trivial⟩;rintro r H' ⟨e',hr⟩;obtain⟨x,y,z,hr2,H2,hst,hld,eH2,hend⟩:=last n nb' l' full H H' r sH nn eH g2' hor e' hr;subst hr2;simp -implicitDefEqProofs only[vQ,jT,jU,MH,↓reduceIte,jA,jM,enP,jO,hst];rw[JG _ _ _ _ _ _ _ _ _ _ _ (show _=AV.ptr (h.length+2) 0 0 by simp -implicitDefEqProofs only[AA,↓reduceIte,jA])];simp -implicitDefEqProofs only[AA,↓reduceIte,jA];exact⟨_,hld,eH2,hend⟩
  .refine call _ ?_
   intro r H hap;obtain⟨n,nb',l',full,rfl,sH,nn,l0,eH,g2',hor⟩:=fin r H hap;simp -implicitDefEqProofs only[vQ,↓reduceIte,jA,l0];refine⟨⟨ACalls.mono (AA2 G bb nb' ab l' full H sH n) ?_,trivial⟩,trivial⟩;rintro r H' ⟨e',hr⟩;obtain⟨x,y,z,hr2,H2,hst,hld,eH2,hend⟩:=last n nb' l' full H H' r sH nn eH g2' hor e' hr;subst hr2;simp -implicitDefEqProofs only[vQ,jT,jU,MH,↓reduceIte,jA,jM,enP,jO,hst];rw[JG _ _ _ _ _ _ _ _ _ _ _ (show _=AV.ptr (h.length+2) 0 0 by simp -implicitDefEqProofs only[AA,↓reduceIte,jA])];simp -implicitDefEqProofs only[AA,↓reduceIte,jA];exact⟨_,hld,eH2,hend⟩
 .rintro r H ⟨he,hc⟩
  refine⟨he,?_⟩;rcases hc with⟨n,l',b,e,hb,rfl,hH⟩|⟨e,rfl⟩
  .rw[e]; exact ASY hb hH
  .rw[e]; rfl
end
theorem QT (o:Option (Nat×Dg)):∃(x:AV) (y z:Int),dgV o=.tup [.agg [x],.int .i64 y,.int .i64 z]∧x.leaf=true:=by
 cases o with
 | none=>exact⟨_,_,_,rfl,rfl⟩
 | some p=>exact⟨_,_,_,rfl,rfl⟩
theorem WI (o:Option (Nat×Dg))(n:Nat)(H:Hp):JS n H 4 (dgV o)=dgV o:=by
 cases o with
 | none=>rfl
 | some p=>rfl
section
variable (G:Nat->AV)
theorem A2P (a b c:Bool)(h:Hp):PCall (En G) 188 [.bool a,.bool b,.bool c] h (.bool (ATX a b c)):=by
 refine ACalls.pure0 rfl ?_;refine acN Tryz.func188 rfl ?_;show awp _ _ _ _ _ (EK _ [.tmp 6] _);have hx:∀p q:Bool,JD Tryz.prog 4 .neq (.bool p) (.bool q)=some (.bool (!(p==q))):=fun p q=>by cases p<;>cases q<;>kernel_rfl
 cases a<;>cases b<;>cases c<;>(first|(simp -implicitDefEqProofs only[vQ,BD,↓reduceIte,jA,jZ,enP]; exact⟨rfl,[],by simp⟩)|(simp -implicitDefEqProofs only[hx]; exact⟨rfl,[],by simp⟩))
theorem A2U (a b c:Bool)(h:Hp):PCall (En G) 106 [.bool a,.bool b,.bool c] h (.bool (AKC a b c)):=by
 refine ACalls.pure0 rfl ?_;refine acN Tryz.func106 rfl ?_;show awp _ _ _ _ _ (EK _ [.tmp 6] _);have hx:∀p q:Bool,JD Tryz.prog 4 .neq (.bool p) (.bool q)=some (.bool (!(p==q))):=fun p q=>by cases p<;>cases q<;>kernel_rfl
 cases a<;>cases b<;>cases c<;>(first|(simp -implicitDefEqProofs only[vQ,CV,BD,EY,↓reduceIte,jA,enP]; exact⟨rfl,[],by simp⟩)|(simp -implicitDefEqProofs only[hx]; exact⟨rfl,[],by simp⟩))
theorem A2Q (a b c:Bool)(h:Hp):PCall (En G) 186 [.bool a,.bool b,.bool c] h (.bool (bOr a b c)):=by
 refine ACalls.pure0 rfl ?_;refine acN Tryz.func186 rfl ?_;show awp _ _ _ _ _ (EK _ [.tmp 6] _);have hx:∀p q:Bool,JD Tryz.prog 4 .neq (.bool p) (.bool q)=some (.bool (!(p==q))):=fun p q=>by cases p<;>cases q<;>kernel_rfl
 cases a<;>cases b<;>cases c<;>(first|(simp -implicitDefEqProofs only[vQ,CV,BD,EY,↓reduceIte,jA,enP]; exact⟨rfl,[],by simp⟩)|(simp -implicitDefEqProofs only[hx]; exact⟨rfl,[],by simp⟩))
theorem A2N (a b c:Bool)(h:Hp):PCall (En G) 223 [.bool a,.bool b,.bool c] h (.bool (AKB a b c)):=by
 refine ACalls.pure0 rfl ?_;refine acN Tryz.func223 rfl ?_;show awp _ _ _ _ _ (EK _ [.tmp 6] _);have hx:∀p q:Bool,JD Tryz.prog 4 .neq (.bool p) (.bool q)=some (.bool (!(p==q))):=fun p q=>by cases p<;>cases q<;>kernel_rfl
 cases a<;>cases b<;>cases c<;>(first|(simp -implicitDefEqProofs only[vQ,BD,↓reduceIte,jA,enP,bn4]; exact⟨rfl,[],by simp⟩)|(simp -implicitDefEqProofs only[hx]; exact⟨rfl,[],by simp⟩))
theorem A2O (a b c:Bool)(h:Hp):PCall (En G) 189 [.bool a,.bool b,.bool c] h (.bool (bCh a b c)):=by
 refine ACalls.pure0 rfl ?_;refine acN Tryz.func189 rfl ?_;show awp _ _ _ _ _ (EK _ [.tmp 6] _);have hx:∀p q:Bool,JD Tryz.prog 4 .neq (.bool p) (.bool q)=some (.bool (!(p==q))):=fun p q=>by cases p<;>cases q<;>kernel_rfl
 cases a<;>cases b<;>cases c<;>(first|(simp -implicitDefEqProofs only[vQ,CV,VA,BD,EY,↓reduceIte,jA,jZ,enP]; exact⟨rfl,[],by simp⟩)|(simp -implicitDefEqProofs only[hx]; exact⟨rfl,[],by simp⟩))
theorem ARW (l:Dg)(m:SM)(v:VD l)(f:Nat)(hf:f<l.length)(h:Hp):PCall (En G) 141 [dgA m l,.int .i64 (f:Nat)] h (dgV (LQ f l)):=by
 refine ABM 4 (WI _) ?_;refine acN Tryz.func141 rfl ?_;show awp _ _ _ _ _ (EK _ [.cell 4 35,.tmp 5,.tmp 6] _);unfold dgA;have g0:=CU h (ABlk.live 1 [[.sl m 3 (l.map DY)]]);simp -implicitDefEqProofs only[vQ,BD,↓reduceIte,jA,enP,UO,TB];generalize hA:h++[ABlk.live 1 [[.sl m 3 (l.map DY)]]]=A at g0|-;have exA:ext h A:=⟨_,hA.symm⟩;have lA:A.length=h.length+1:=by rw[<-hA]; simp
 have g1:=CU A (ABlk.live 1 [[.sl .nil 0 []]]);have g0:=BO (x:=ABlk.live 1 [[.sl .nil 0 []]]) g0;simp -implicitDefEqProofs only[vQ,BD,↓reduceIte,jA,enP,JK g0,AD8];refine(QF G (A2P G) l m v f f f hf hf hf _).use ?_;obtain⟨x,y,z,e,hx⟩:=QT (LQ f l);rw[show ap ATX f f f l=LQ f l from rfl,e];simp -implicitDefEqProofs only[vQ,jT,jU,BD,↓reduceIte,jA,enP,jO,AIM g1 hx,JP];rw[JG _ _ _ _ _ _ _ _ _ _ _ (show _=AV.ptr A.length 0 0 by simp -implicitDefEqProofs only[AA,↓reduceIte,jA]),JK (CU A _)];simp -implicitDefEqProofs only[AA,↓reduceIte,jA];exact⟨_,rfl,rfl,exA.app _⟩
theorem AKJ (l:Dg)(m:SM)(v:VD l)(f g:Nat)(hf:f<l.length)(hg:g<l.length)(h:Hp):PCall (En G) 46 [dgA m l,.int .i64 (f:Nat),.int .i64 (g:Nat)] h (dgV (KA f g l)):=by
 refine ABM 4 (WI _) ?_;refine acN Tryz.func46 rfl ?_;show awp _ _ _ _ _ (EK _ [.cell 6 35,.tmp 7,.tmp 8] _);unfold dgA;have g0:=CU h (ABlk.live 1 [[.sl m 3 (l.map DY)]]);simp -implicitDefEqProofs only[vQ,BD,↓reduceIte,jA,enP,UO,TB];generalize hA:h++[ABlk.live 1 [[.sl m 3 (l.map DY)]]]=A at g0|-;have exA:ext h A:=⟨_,hA.symm⟩;have lA:A.length=h.length+1:=by rw[<-hA]; simp
 have g1:=CU A (ABlk.live 1 [[.sl .nil 0 []]]);have g0:=BO (x:=ABlk.live 1 [[.sl .nil 0 []]]) g0;simp -implicitDefEqProofs only[vQ,BD,↓reduceIte,jA,enP,JK g0,AD8];refine(QF G (A2U G) l m v f g g hf hg hg _).use ?_;obtain⟨x,y,z,e,hx⟩:=QT (KA f g l);rw[show ap AKC f g g l=KA f g l from rfl,e];simp -implicitDefEqProofs only[vQ,jT,jU,BD,↓reduceIte,jA,enP,jO,AIM g1 hx,JP];rw[JG _ _ _ _ _ _ _ _ _ _ _ (show _=AV.ptr A.length 0 0 by simp -implicitDefEqProofs only[AA,↓reduceIte,jA]),JK (CU A _)];simp -implicitDefEqProofs only[AA,↓reduceIte,jA];exact⟨_,rfl,rfl,exA.app _⟩
theorem AVK (l:Dg)(m:SM)(v:VD l)(f g:Nat)(hf:f<l.length)(hg:g<l.length)(h:Hp):PCall (En G) 139 [dgA m l,.int .i64 (f:Nat),.int .i64 (g:Nat)] h (dgV (oOr f g l)):=by
 refine ABM 4 (WI _) ?_;refine acN Tryz.func139 rfl ?_;show awp _ _ _ _ _ (EK _ [.cell 6 35,.tmp 7,.tmp 8] _);unfold dgA;have g0:=CU h (ABlk.live 1 [[.sl m 3 (l.map DY)]]);simp -implicitDefEqProofs only[vQ,BD,↓reduceIte,jA,enP,UO,TB];generalize hA:h++[ABlk.live 1 [[.sl m 3 (l.map DY)]]]=A at g0|-;have exA:ext h A:=⟨_,hA.symm⟩;have lA:A.length=h.length+1:=by rw[<-hA]; simp
 have g1:=CU A (ABlk.live 1 [[.sl .nil 0 []]]);have g0:=BO (x:=ABlk.live 1 [[.sl .nil 0 []]]) g0;simp -implicitDefEqProofs only[vQ,BD,↓reduceIte,jA,enP,JK g0,AD8];refine(QF G (A2Q G) l m v f g g hf hg hg _).use ?_;obtain⟨x,y,z,e,hx⟩:=QT (oOr f g l);rw[show ap bOr f g g l=oOr f g l from rfl,e];simp -implicitDefEqProofs only[vQ,jT,jU,BD,↓reduceIte,jA,enP,jO,AIM g1 hx,JP];rw[JG _ _ _ _ _ _ _ _ _ _ _ (show _=AV.ptr A.length 0 0 by simp -implicitDefEqProofs only[AA,↓reduceIte,jA]),JK (CU A _)];simp -implicitDefEqProofs only[AA,↓reduceIte,jA];exact⟨_,rfl,rfl,exA.app _⟩
theorem AQM (l:Dg)(m:SM)(v:VD l)(f g:Nat)(hf:f<l.length)(hg:g<l.length)(h:Hp):PCall (En G) 190 [dgA m l,.int .i64 (f:Nat),.int .i64 (g:Nat)] h (dgV (NS f g l)):=by
 refine ABM 4 (WI _) ?_;refine acN Tryz.func190 rfl ?_;show awp _ _ _ _ _ (EK _ [.cell 6 35,.tmp 7,.tmp 8] _);unfold dgA;have g0:=CU h (ABlk.live 1 [[.sl m 3 (l.map DY)]]);simp -implicitDefEqProofs only[vQ,BD,↓reduceIte,jA,enP,UO,TB];generalize hA:h++[ABlk.live 1 [[.sl m 3 (l.map DY)]]]=A at g0|-;have exA:ext h A:=⟨_,hA.symm⟩;have lA:A.length=h.length+1:=by rw[<-hA]; simp
 have g1:=CU A (ABlk.live 1 [[.sl .nil 0 []]]);have g0:=BO (x:=ABlk.live 1 [[.sl .nil 0 []]]) g0;simp -implicitDefEqProofs only[vQ,BD,↓reduceIte,jA,enP,JK g0,AD8];refine(QF G (A2N G) l m v f g g hf hg hg _).use ?_;obtain⟨x,y,z,e,hx⟩:=QT (NS f g l);rw[show ap AKB f g g l=NS f g l from rfl,e];simp -implicitDefEqProofs only[vQ,jT,jU,BD,↓reduceIte,jA,enP,jO,AIM g1 hx,JP];rw[JG _ _ _ _ _ _ _ _ _ _ _ (show _=AV.ptr A.length 0 0 by simp -implicitDefEqProofs only[AA,↓reduceIte,jA]),JK (CU A _)];simp -implicitDefEqProofs only[AA,↓reduceIte,jA];exact⟨_,rfl,rfl,exA.app _⟩
theorem AJ1 (l:Dg)(m:SM)(v:VD l)(f g k:Nat)(hf:f<l.length)(hg:g<l.length)(hk:k<l.length)(h:Hp):PCall (En G) 145 [dgA m l,.int .i64 (f:Nat),.int .i64 (g:Nat),.int .i64 (k:Nat)] h (dgV (oCh f g k l)):=by
 refine ABM 4 (WI _) ?_;refine acN Tryz.func145 rfl ?_;show awp _ _ _ _ _ (EK _ [.cell 8 35,.tmp 9,.tmp 10] _);unfold dgA;have g0:=CU h (ABlk.live 1 [[.sl m 3 (l.map DY)]]);simp -implicitDefEqProofs only[vQ,BD,↓reduceIte,jA,enP,UO,TB];generalize hA:h++[ABlk.live 1 [[.sl m 3 (l.map DY)]]]=A at g0|-;have exA:ext h A:=⟨_,hA.symm⟩;have lA:A.length=h.length+1:=by rw[<-hA]; simp
 have g1:=CU A (ABlk.live 1 [[.sl .nil 0 []]]);have g0:=BO (x:=ABlk.live 1 [[.sl .nil 0 []]]) g0;simp -implicitDefEqProofs only[vQ,BD,↓reduceIte,jA,enP,JK g0,AD8];refine(QF G (A2O G) l m v f g k hf hg hk _).use ?_;obtain⟨x,y,z,e,hx⟩:=QT (oCh f g k l);rw[show ap bCh f g k l=oCh f g k l from rfl,e];simp -implicitDefEqProofs only[vQ,jT,jU,BD,↓reduceIte,jA,enP,jO,AIM g1 hx,JP];rw[JG _ _ _ _ _ _ _ _ _ _ _ (show _=AV.ptr A.length 0 0 by simp -implicitDefEqProofs only[AA,↓reduceIte,jA]),JK (CU A _)];simp -implicitDefEqProofs only[AA,↓reduceIte,jA];exact⟨_,rfl,rfl,exA.app _⟩
theorem APK (l:Dg)(m:SM)(v:VD l)(lv:Nat)(hlv:lv<20)(h:Hp):PCall (En G) 187 [dgA m l,.int .i64 (lv:Nat),.int .i64 0,.int .i64 1] h (dgV (mk lv 0 1 l)):=by
 refine ACalls.pure 4 (R:=fun r H=>ext h H∧((∃n l' b,mk lv 0 1 l=some (n,l')∧h.length<=b∧r=.tup [.agg [.own b 0 l'.length],.int .i64 (n:Nat),.int .i64 0]∧H[b]?=some (.live 3 (l'.map DY)))∨(mk lv 0 1 l=none∧r=.tup [.agg [.sl .nil 0 []],.int .i64 0,.int .i64 2]))) ?_ ?_
 .refine acN Tryz.func187 rfl ?_
  show awp _ _ _ _ _ (EK _ [.cell 8 35,.tmp 9,.tmp 10] _);unfold dgA;have g0:=CU h (ABlk.live 1 [[.sl m 3 (l.map DY)]]);simp -implicitDefEqProofs only[vQ,BD,enP,UO,TB];generalize hA:h++[ABlk.live 1 [[.sl m 3 (l.map DY)]]]=A at g0|-;have exA:ext h A:=⟨_,hA.symm⟩;have lA:A.length=h.length+1:=by rw[<-hA]; simp
  have g1:=CU A (ABlk.live 1 [[.sl .nil 0 []]]);have g0:=BO (x:=ABlk.live 1 [[.sl .nil 0 []]]) g0;have exC:=exA.app [ABlk.live 1 [[.sl .nil 0 []]]];have lC:(A++[ABlk.live 1 [[.sl .nil 0 []]]]).length=h.length+2:=by simp; omega
  generalize A++[ABlk.live 1 [[.sl .nil 0 []]]]=C at g0 g1 exC lC|-;rw[lA] at g1|-;refine GL (by kernel_rfl) ?_;simp -implicitDefEqProofs only[vQ,KZ,AH3,↓reduceIte,jA,jM,enP,JK g0,A0A];refine⟨_,ALR G l m v [0,1] .full (by intro q hq; simp at hq; rcases hq with rfl|rfl<;>first|exact v.p0|exact v.p1) (by simp) C,?_⟩;simp -implicitDefEqProofs only[vQ,AH3,CV,↓reduceIte,jA,jM,jZ];refine⟨_,ALJ G _ C,?_⟩
  have e1:(decide (((lv:Nat):Int)≥0)&&decide (((lv:Nat):Int)<20))=true:=by
   rw[zB,decide_eq_true_eq,decide_eq_true_eq]; omega
  rw[e1];have i0:J8 3 C (.sl m 3 (l.map DY)) (.int .i64 0)=some (.fptr 3 (l.map DY) 0 0):=EZ (n:=0) v.p0;have i1:J8 3 C (.sl m 3 (l.map DY)) (.int .i64 1)=some (.fptr 3 (l.map DY) 1 0):=EZ (n:=1) v.p1
  have q0:DF Tryz.prog C 3 (.fptr 3 (l.map DY) 0 0)=some (.int .i64 20):=by
   rw[FX ag3 v.p0];have:l[0]'v.p0=nF:=by have:=v.z; rw[jX v.p0] at this; exact Option.some.inj this
   rw[this]; rfl
  have q1:DF Tryz.prog C 3 (.fptr 3 (l.map DY) 1 0)=some (.int .i64 20):=by
   rw[FX ag3 v.p1];have:l[1]'v.p1=nT:=by have:=v.o; rw[jX v.p1] at this; exact Option.some.inj this
   rw[this]; rfl
  have e2:decide (((lv:Nat):Int)≥20)=false:=by rw[decide_eq_false_iff_not]; omega
  simp -implicitDefEqProofs only[vQ,JJ,CV,BD,AXQ,AR3,↓reduceIte,jA,jM,jZ,enP,SA,NR,OG,AJB g0,i0,i1,q0,q1,show min (20:Int) 20=20 from rfl,e2];simp -implicitDefEqProofs only[vQ,BD,↓reduceIte,JK g0];refine ACalls.mono (AD7 G l m v C) ?_;rintro r D ⟨exD,bb,nb,ab,rfl,o1,o2,o3,sD⟩;have g1:=F8 exD g1;have exCD:=exC.trans exD;have lD:=exD.le;simp -implicitDefEqProofs only[vQ,BD,↓reduceIte,jA];refine ACalls.mono (node_prog G bb nb ab l false D sD lv 0 1 (fun _=>⟨hlv,v.p0,v.p1,by rw[v.lv_low (Nat.zero_le 1)]; exact hlv,by rw[v.lv_low (jP 1)]; exact hlv⟩)) ?_;rintro r H ⟨nb',kd,hc⟩
  have eH:ext h H:=by
   obtain⟨y,hy⟩:=exCD;refine⟨H.drop h.length,?_⟩;apply List.ext_getElem?;intro i;rcases jY i h.length with q|q
   .rw[zS q,jX q]
    refine kd.keep i _ ?_ (by simp; omega) (by omega);rw[hy,zS q,jX q]
   .rw[List.getElem?_append_right q,wF]
    congr 1; omega
  have g1:H[h.length+1]?=some (ABlk.live 1 [[.sl .nil 0 []]]):=kd.keep _ _ g1 (by simp; omega) (by omega)
  have nn:h.length<=nb':=by rcases kd.nn with e|e<;>omega
  obtain⟨n,l',full,rfl,sH,hor⟩:∃(n:Nat) (l':Dg) (full:Bool),r=.int .i64 (n:Nat)∧BS bb nb' ab l' full H∧((full=false∧mk lv 0 1 l=some (n,l'))∨(full=true∧mk lv 0 1 l=none)):=by
   rcases hc with⟨_,n,l',e,hr,s'⟩|⟨e,⟨n,hr⟩,l',x',s'⟩
   .exact⟨n,l',false,hr,s',.inl ⟨rfl,e⟩⟩
   .rcases e with e|e
    .cases e
    .exact⟨n,l',true,hr,s',.inr ⟨rfl,e⟩⟩
  simp -implicitDefEqProofs only[vQ,BD,↓reduceIte,jA];refine ACalls.mono (AA2 G bb nb' ab l' full H sH n) ?_;rintro r H' ⟨e',hr⟩;have g1:=F8 e' g1;have s':=sH.ext e';rcases hor with⟨rfl,e⟩|⟨rfl,e⟩
  .rw[if_neg (by simp)] at hr
   subst hr;simp -implicitDefEqProofs only[vQ,jT,jU,BD,↓reduceIte,jA,enP,jO,ANA g1];rw[JG _ _ _ _ _ _ _ _ _ _ _ (show _=AV.ptr (h.length+1) 0 0 by simp -implicitDefEqProofs only[AA,↓reduceIte,jA])];simp -implicitDefEqProofs only[AA,↓reduceIte,jA];refine⟨_,JK (DX g1),(eH.trans e').set (by omega) _,.inl ⟨n,l',nb',e,nn,rfl,?_⟩⟩;rw[jS (fun q=>by rw[q] at g1; rw[s'.n] at g1; cases g1)];exact s'.n
  .rw[if_pos rfl] at hr
   subst hr;simp -implicitDefEqProofs only[vQ,jT,jU,BD,↓reduceIte,jA,enP,jO,LZ g1];rw[JG _ _ _ _ _ _ _ _ _ _ _ (show _=AV.ptr (h.length+1) 0 0 by simp -implicitDefEqProofs only[AA,↓reduceIte,jA])];simp -implicitDefEqProofs only[AA,↓reduceIte,jA];exact⟨_,JK (DX g1),(eH.trans e').set (by omega) _,.inr ⟨e,rfl⟩⟩
 .rintro r H ⟨he,hc⟩
  refine⟨he,?_⟩;rcases hc with⟨n,l',b,e,hb,rfl,hH⟩|⟨e,rfl⟩
  .rw[e]; exact ASY hb hH
  .rw[e]; rfl
theorem ATT (l:Dg)(m:SM)(v:VD l)(lv:Nat)(hlv:lv<20)(h:Hp):PCall (En G) 140 [dgA m l,.int .i64 (lv:Nat)] h (dgV (mk lv 0 1 l)):=by
 refine ABM 4 (WI _) ?_;refine acN Tryz.func140 rfl ?_;show awp _ _ _ _ _ (EK _ [.cell 4 35,.tmp 5,.tmp 6] _);unfold dgA;have g0:=CU h (ABlk.live 1 [[.sl m 3 (l.map DY)]]);simp -implicitDefEqProofs only[vQ,BD,↓reduceIte,jA,enP,UO,TB];generalize hA:h++[ABlk.live 1 [[.sl m 3 (l.map DY)]]]=A at g0|-;have exA:ext h A:=⟨_,hA.symm⟩;have g1:=CU A (ABlk.live 1 [[.sl .nil 0 []]]);have g0:=BO (x:=ABlk.live 1 [[.sl .nil 0 []]]) g0;simp -implicitDefEqProofs only[vQ,BD,↓reduceIte,jA,JK g0];refine(APK G l m v lv hlv _).use ?_;obtain⟨x,y,z,e,hx⟩:=QT (mk lv 0 1 l);rw[e];simp -implicitDefEqProofs only[vQ,jT,jU,BD,↓reduceIte,jA,enP,jO,AIM g1 hx,JP];rw[JG _ _ _ _ _ _ _ _ _ _ _ (show _=AV.ptr A.length 0 0 by simp -implicitDefEqProofs only[AA,↓reduceIte,jA]),JK (CU A _)];simp -implicitDefEqProofs only[AA,↓reduceIte,jA];exact⟨_,rfl,rfl,exA.app _⟩
end
structure PS (bb:Nat) (rest:List AV) (l:Dg) (H:Hp):Prop where
 b:∃m,H[bb]?=some (.live 8 [.sl m 3 (l.map DY)::rest])
 v:VD l
 n:rest.length=7
structure Kb (bb:Nat) (H H':Hp):Prop where
 len:H.length<=H'.length
 keep:∀(k:Nat) (y:ABlk),H[k]?=some y->k≠bb->H'[k]?=some y
theorem Kb.rfl' (bb:Nat)(H:Hp):Kb bb H H:=⟨jP _,fun _ _ h _=>h⟩
theorem Kb.trans {bb:Nat}{A B C:Hp}(h1:Kb bb A B)(h2:Kb bb B C):Kb bb A C:=⟨Nat.le_trans h1.len h2.len,fun k y hk hn=>h2.keep k y (h1.keep k y hk hn) hn⟩
theorem Kb.app {bb:Nat}{A B:Hp}(h:Kb bb A B)(x:ABlk):Kb bb A (B++[x]):=⟨by simp; have:=h.len; omega,fun k y hk hn=>BO (h.keep k y hk hn)⟩
theorem Kb.ofExt {bb:Nat}{A B:Hp}(h:Sm.ext A B):Kb bb A B:=⟨h.le,fun _ _ q _=>F8 h q⟩
theorem Kb.ext {bb:Nat}{A B C:Hp}(h:Kb bb A B)(e:Sm.ext B C):Kb bb A C:=h.trans (Kb.ofExt e)
theorem Kb.setB {bb:Nat}{A B:Hp}(h:Kb bb A B)(x:ABlk):Kb bb A (B.set bb x):=⟨by rw[zY]; exact h.len,fun k y hk hn=>by rw[jS (Ne.symm hn)]; exact h.keep k y hk hn⟩
theorem Kb.setN {bb:Nat}{A B:Hp}(h:Kb bb A B){c:Nat}(hc:A.length<=c)(x:ABlk):Kb bb A (B.set c x):=⟨by rw[zY]; exact h.len,fun k y hk hn=>by
 rw[jS (fun e=>by have:=CB hk; omega)]; exact h.keep k y hk hn⟩
theorem PS.lt {bb:Nat}{rest:List AV}{l:Dg}{H:Hp}(s:PS bb rest l H):bb<H.length:=by obtain⟨m,h⟩:=s.b; exact CB h
theorem PS.ext {bb:Nat}{rest:List AV}{l:Dg}{H H':Hp}(s:PS bb rest l H)(e:Sm.ext H H'):PS bb rest l H':=by obtain⟨m,h⟩:=s.b; exact⟨⟨m,F8 e h⟩,s.v,s.n⟩
theorem PS.app {bb:Nat}{rest:List AV}{l:Dg}{H:Hp}(s:PS bb rest l H)(x:ABlk):PS bb rest l (H++[x]):=s.ext ⟨[x],rfl⟩
theorem PS.set {bb:Nat}{rest:List AV}{l:Dg}{H:Hp}(s:PS bb rest l H){c:Nat}(hc:c≠bb)(x:ABlk):PS bb rest l (H.set c x):=by
 obtain⟨m,h⟩:=s.b;exact⟨⟨m,by rw[jS hc]; exact h⟩,s.v,s.n⟩
theorem PS.ld {bb:Nat}{rest:List AV}{l:Dg}{H:Hp}(s:PS bb rest l H):∃m,DF Tryz.prog H 35 (.ptr bb 0 0)=some (dgA m l):=by
 obtain⟨m,h⟩:=s.b;exact⟨m,by rw[GV AXH AO1 h (row:=.sl m 3 (l.map DY)::rest) rfl (by simp)]; rfl⟩
def ATA:Value:=.iface 107 (.agg #[.int .i64 2])
def X0 (bb:Nat)(base:Hp)(Bad:Prop):Value->Hp->Prop:=fun u H=>u=ATA∧Kb bb base H∧Bad
theorem pcX {G:Nat->AV}{X:Value->Hp->Prop}{f:FuncId}{args:List AV}{h:Hp}{r:AV}(hc:PCall (En G) f args h r):PCall ((En G).wx X) f args h r:=hc
def Ct (G:Nat->AV)(bb:Nat)(rest:List AV)(f:FuncId)(args:List AV)(H:Hp)(l:Dg){α:Type}(m:M α)(enc:α->AV):Prop :=
 ∀(base:Hp) (Bad:Prop),Kb bb base H->(m l=none->Bad)->ACalls ((En G).wx (X0 bb base Bad)) f args H fun v H'=>∃a l',m l=some (a,l')∧v=enc a∧PS bb rest l' H'∧Kb bb H H'
theorem Ct.use {G:Nat->AV}{bb:Nat}{rest:List AV}{f:FuncId}{args:List AV}{H:Hp}{l:Dg}{α β:Type}{m:M α}{k:α->M β}{enc:α->AV}{TOT:Option (β×Dg)}{base:Hp}{Bad:Prop}{K:AV->Hp->Prop}
  (c:Ct G bb rest f args H l m enc) (hS:(m.bnd k) l=TOT) (hb:TOT=none->Bad) (hk:Kb bb base H) (hc:∀a l' H',m l=some (a,l')->k a l'=TOT->PS bb rest l' H'->Kb bb H H'->K (enc a) H'):ACalls ((En G).wx (X0 bb base Bad)) f args H K :=
 ACalls.mono (c base Bad hk fun e=>hb (by rw[<-hS,RJ e])) fun v H' ⟨a,l',e,hv,s,k'⟩=>by rw[hv]; exact hc a l' H' e (by rw[<-hS,NZ e]) s k'
theorem J4 {α:Type}(m:M α)(l:Dg):(m.bnd fun a=>ret a) l=m l:=by
 unfold M.bnd ret
 cases m l with
 | none=>rfl
 | some p=>rfl
def iA (n:Nat):AV:=.int .i64 (n:Nat)
theorem A0X:∃fs,Tryz.prog.underlying 107=some (.struct fs):=by
 have h:(match Tryz.prog.underlying 107 with|some (.struct _)=>true|_=>false)=true:=by kernel_rfl
 cases hu:Tryz.prog.underlying 107 with
 | none=>rw[hu] at h; cases h
 | some d=>cases d<;>first|(rw[hu] at h; cases h; done)|exact⟨_,rfl⟩
theorem A1T (h:Hp)(n:Int):mkI Tryz.prog 107 (.agg [.int .i64 n]) h=some (.ifc 107 (.agg #[.int .i64 n]),h):=by obtain⟨fs,hu⟩:=A0X; exact AVV hu h _ _
theorem A3Q (n:Int):KD Tryz.prog 107 [(0,.int .i64 n)]=some (.agg [.int .i64 n]):=by kernel_rfl
section
variable (G:Nat->AV) {bb:Nat} {rest:List AV}
theorem ASG {base:Hp}{Bad:Prop}{H:Hp}(hk:Kb bb base H)(hb:Bad)(K:AV->Hp->Prop):ACalls ((En G).wx (X0 bb base Bad)) 138 [.ptr bb 0 0,.agg [.sl .nil 0 []],.int .i64 0,.int .i64 2] H K:=by
 refine IV (H:=Hint.none) (enM G) Tryz.func138 rfl (by kernel_rfl) (by kernel_rfl) (jH (by kernel_rfl)) ?_;show awp _ _ _ _ _ (EK _ [.tmp 8] _);have bx:MG H (.agg [.sl .nil 0 []])=some (.ptr H.length 0 0,H++[.live 1 [[.sl .nil 0 []]]]):=rfl;simp -implicitDefEqProofs only[vQ,BD,wxX,AUR,ARN,A0P,↓reduceIte,jA,enP,jO,bx,show((2:Int) != 0)=true from rfl,A3Q,A1T];exact⟨rfl,hk.app _,hb⟩
theorem AV4 {X:Value->Hp->Prop}{H:Hp}{l l':Dg}(s:PS bb rest l H)(v':VD l')(r:Nat):ACalls ((En G).wx X) 138 [.ptr bb 0 0,dgA .any l',.int .i64 (r:Nat),.int .i64 0] H fun v H'=>v=iA r∧PS bb rest l' H'∧Kb bb H H':=by
 refine acN Tryz.func138 rfl ?_;show awp _ _ _ _ _ (EK _ [.tmp 8] _);unfold dgA;obtain⟨m,hb⟩:=s.b;have g0:=CU H (ABlk.live 1 [[.sl .any 3 (l'.map DY)]]);have hb':=BO (x:=ABlk.live 1 [[.sl .any 3 (l'.map DY)]]) hb
 have st:FO Tryz.prog (H++[ABlk.live 1 [[.sl .any 3 (l'.map DY)]]]) 35 (.ptr bb 0 0) (.agg [.sl .any 3 (l'.map DY)])=some ((H++[ABlk.live 1 [[.sl .any 3 (l'.map DY)]]]).set bb (.live 8 [.sl .any 3 (l'.map DY)::rest])):=by
  rw[G7 (cs:=[.sl .any 3 (l'.map DY)]) rfl AO1 hb' rfl (by simp)]; rfl
 simp -implicitDefEqProofs only[vQ,BD,↓reduceIte,jA,enP,S9,jO,UO,show((0:Int) != 0)=false from rfl,JK g0,st];exact⟨rfl,⟨⟨.any,DX hb'⟩,v',s.n⟩,((Kb.rfl' bb H).app _).setB _⟩
theorem kept {H:Hp}{l:Dg}(s:PS bb rest l H){m:M Nat}(hm:∀r l',m l=some (r,l')->VD l'){base:Hp}{Bad:Prop}(hk:Kb bb base H)(hb:m l=none->Bad){K:AV->Hp->Prop}(hK:∀r l' H',m l=some (r,l')->PS bb rest l' H'->Kb bb H H'->K (iA r) H') :
  ∃(x:AV) (y z:Int),dgV (m l)=.tup [.agg [x],.int .i64 y,.int .i64 z]∧ACalls ((En G).wx (X0 bb base Bad)) 138 [.ptr bb 0 0,.agg [x],.int .i64 y,.int .i64 z] H K:=by
 cases e:m l with
 | none=>exact⟨_,_,_,rfl,ASG G hk (hb e) K⟩
 | some p =>
   obtain⟨r,l'⟩:=p;refine⟨_,_,_,rfl,ACalls.mono (AV4 G s (hm r l' e) r) ?_⟩;rintro v H' ⟨rfl,s',k'⟩;exact hK r l' H' e s' k'
theorem LW {H:Hp}{l:Dg}(s:PS bb rest l H)(f:Nat)(hf:f<l.length):Ct G bb rest 77 [.ptr bb 0 0,iA f] H l (LQ f) iA:=by
 intro base Bad hk hb;refine acN Tryz.func77 rfl ?_;show awp _ _ _ _ _ (EK _ [.tmp 4] _);obtain⟨m,hl⟩:=s.ld;unfold iA;simp -implicitDefEqProofs only[vQ,BD,↓reduceIte,jA,enP,S9,hl];refine(pcX (ARW G l m s.v f hf H)).use ?_;obtain⟨x,y,z,e,hc⟩:=kept G s (m:=LQ f) (fun r l' e=>(MB ATX s.v hf hf hf e).1) (K:=fun v H'=>∃a l',LQ f l=some (a,l')∧v=iA a∧PS bb rest l' H'∧Kb bb H H') hk hb fun r l' H' e s' k'=>⟨r,l',e,rfl,s',k'⟩
 rw[e];simp -implicitDefEqProofs only[vQ,jT,jU,BD,↓reduceIte,jA];exact ACalls.mono hc fun v H' q=>by simp -implicitDefEqProofs only[vQ,BD,↓reduceIte]; exact q
theorem KX {H:Hp}{l:Dg}(s:PS bb rest l H)(f g:Nat)(hf:f<l.length)(hg:g<l.length):Ct G bb rest 144 [.ptr bb 0 0,iA f,iA g] H l (KA f g) iA:=by
 intro base Bad hk hb;refine acN Tryz.func144 rfl ?_;show awp _ _ _ _ _ (EK _ [.tmp 6] _);obtain⟨m,hl⟩:=s.ld;unfold iA;simp -implicitDefEqProofs only[vQ,BD,↓reduceIte,jA,enP,S9,hl];refine(pcX (AKJ G l m s.v f g hf hg H)).use ?_;obtain⟨x,y,z,e,hc⟩:=kept G s (m:=KA f g) (fun r l' e=>(MB AKC s.v hf hg hg e).1) (K:=fun v H'=>∃a l',KA f g l=some (a,l')∧v=iA a∧PS bb rest l' H'∧Kb bb H H') hk hb fun r l' H' e s' k'=>⟨r,l',e,rfl,s',k'⟩
 rw[e];simp -implicitDefEqProofs only[vQ,jT,jU,BD,↓reduceIte,jA];exact ACalls.mono hc fun v H' q=>by simp -implicitDefEqProofs only[vQ,BD,↓reduceIte]; exact q
theorem NY {H:Hp}{l:Dg}(s:PS bb rest l H)(f g:Nat)(hf:f<l.length)(hg:g<l.length):Ct G bb rest 73 [.ptr bb 0 0,iA f,iA g] H l (oOr f g) iA:=by
 intro base Bad hk hb;refine acN Tryz.func73 rfl ?_;show awp _ _ _ _ _ (EK _ [.tmp 6] _);obtain⟨m,hl⟩:=s.ld;unfold iA;simp -implicitDefEqProofs only[vQ,BD,↓reduceIte,jA,enP,S9,hl];refine(pcX (AVK G l m s.v f g hf hg H)).use ?_;obtain⟨x,y,z,e,hc⟩:=kept G s (m:=oOr f g) (fun r l' e=>(MB bOr s.v hf hg hg e).1) (K:=fun v H'=>∃a l',oOr f g l=some (a,l')∧v=iA a∧PS bb rest l' H'∧Kb bb H H') hk hb fun r l' H' e s' k'=>⟨r,l',e,rfl,s',k'⟩
 rw[e];simp -implicitDefEqProofs only[vQ,jT,jU,BD,↓reduceIte,jA];exact ACalls.mono hc fun v H' q=>by simp -implicitDefEqProofs only[vQ,BD,↓reduceIte]; exact q
theorem TQ {H:Hp}{l:Dg}(s:PS bb rest l H)(f g:Nat)(hf:f<l.length)(hg:g<l.length):Ct G bb rest 147 [.ptr bb 0 0,iA f,iA g] H l (NS f g) iA:=by
 intro base Bad hk hb;refine acN Tryz.func147 rfl ?_;show awp _ _ _ _ _ (EK _ [.tmp 6] _);obtain⟨m,hl⟩:=s.ld;unfold iA;simp -implicitDefEqProofs only[vQ,BD,↓reduceIte,jA,enP,S9,hl];refine(pcX (AQM G l m s.v f g hf hg H)).use ?_;obtain⟨x,y,z,e,hc⟩:=kept G s (m:=NS f g) (fun r l' e=>(MB AKB s.v hf hg hg e).1) (K:=fun v H'=>∃a l',NS f g l=some (a,l')∧v=iA a∧PS bb rest l' H'∧Kb bb H H') hk hb fun r l' H' e s' k'=>⟨r,l',e,rfl,s',k'⟩
 rw[e];simp -implicitDefEqProofs only[vQ,jT,jU,BD,↓reduceIte,jA];exact ACalls.mono hc fun v H' q=>by simp -implicitDefEqProofs only[vQ,BD,↓reduceIte]; exact q
theorem ATV {H:Hp}{l:Dg}(s:PS bb rest l H)(f g k:Nat)(hf:f<l.length)(hg:g<l.length)(hh:k<l.length):Ct G bb rest 84 [.ptr bb 0 0,iA f,iA g,iA k] H l (oCh f g k) iA:=by
 intro base Bad hk hb;refine acN Tryz.func84 rfl ?_;show awp _ _ _ _ _ (EK _ [.tmp 8] _);obtain⟨m,hl⟩:=s.ld;unfold iA;simp -implicitDefEqProofs only[vQ,BD,↓reduceIte,jA,enP,S9,hl];refine(pcX (AJ1 G l m s.v f g k hf hg hh H)).use ?_;obtain⟨x,y,z,e,hc⟩:=kept G s (m:=oCh f g k) (fun r l' e=>(MB bCh s.v hf hg hh e).1) (K:=fun v H'=>∃a l',oCh f g k l=some (a,l')∧v=iA a∧PS bb rest l' H'∧Kb bb H H') hk hb fun r l' H' e s' k'=>⟨r,l',e,rfl,s',k'⟩
 rw[e];simp -implicitDefEqProofs only[vQ,jT,jU,BD,↓reduceIte,jA];exact ACalls.mono hc fun v H' q=>by simp -implicitDefEqProofs only[vQ,BD,↓reduceIte]; exact q
end
def cW (w:Wrd):List AV:=w.map iA
def wA (w:Wrd):AV:=.agg (cW w)
theorem NG (w:Wrd):(cW w).length=w.length:=by unfold cW; simp
theorem AHR (w:Wrd):(cW w).all AV.leaf=true:=by
 unfold cW;rw[List.all_map,zQ];intro x _; rfl
theorem ATP {w:Wrd}{i:Nat}(h:i<w.length):(cW w)[i]?=some (iA (w.getD i 0)):=by
 unfold cW;rw[List.getElem?_map,jX h,zM,jX h]; rfl
theorem ag74:JO Tryz.prog 74=some true:=by kernel_rfl
theorem sz74:szO Tryz.prog 74=some 16:=by kernel_rfl
theorem AY1:Tryz.prog.underlying 74=some (.array 16 3):=by kernel_rfl
theorem TT (h:Hp):J6 Tryz.prog h 74=some (.ptr h.length 0 0,h++[.live 16 [cW (jJ 16 0)]]):=JU (row:=cW (jJ 16 0)) (by kernel_rfl)
theorem QR (h:Hp){w:Wrd}(hw:w.length=16):MG h (wA w)=some (.ptr h.length 0 0,h++[.live 16 [cW w]]):=by
 have:=WO (h:=h) (AHR w);rw[NG,hw] at this;exact this
theorem QO {H:Hp}{b:Nat}{kk:IntKind}{i:Nat}(hi:i<16):GN Tryz.prog H 74 (.ptr b 0 0) (.int kk (i:Nat))=some (.ptr b 0 i):=by
 unfold GN;simp only[AY1,sz3];rw[if_pos ⟨by omega,by omega⟩];simp
theorem IJ {H:Hp}{b:Nat}{w:Wrd}(hb:H[b]?=some (.live 16 [cW w]))(hw:w.length=16):DF Tryz.prog H 74 (.ptr b 0 0)=some (wA w):=by
 rw[GV ag74 sz74 hb (row:=cW w) rfl (by rw[NG,hw]; exact jP 16),List.drop_zero,zH (by rw[NG,hw]; exact jP 16)]; rfl
theorem ldW {H:Hp}{b i:Nat}{w:Wrd}(hb:H[b]?=some (.live 16 [cW w]))(hi:i<w.length):DF Tryz.prog H 3 (.ptr b 0 i)=some (iA (w.getD i 0)):=by
 rw[DJ ag3 hb (row:=cW w) rfl,ATP hi]
theorem AY9 (w:Wrd)(i n:Nat):(cW w).set i (iA n)=cW (w.set i n):=by unfold cW; rw[List.map_set]
theorem AGR {row:List AV}{i:Nat}(v:AV)(hi:i<row.length):splice row i [v]=row.set i v:=by
 unfold splice;rw[List.set_eq_take_append_cons_drop,if_pos hi];simp
theorem stW {H:Hp}{b i n:Nat}{w:Wrd}(hb:H[b]?=some (.live 16 [cW w]))(hi:i<w.length):FO Tryz.prog H 3 (.ptr b 0 i) (iA n)=some (H.set b (.live 16 [cW (w.set i n)])):=by
 have hl:i<(cW w).length:=by rw[NG]; exact hi
 rw[G7 (cs:=[iA n]) rfl sz3 hb (row:=cW w) rfl (by simp; omega),AGR _ hl,AY9]; rfl
theorem U7 {H:Hp}{b:Nat}{w w':Wrd}(hb:H[b]?=some (.live 16 [cW w]))(hw:w.length=16)(hw':w'.length=16):FO Tryz.prog H 74 (.ptr b 0 0) (wA w')=some (H.set b (.live 16 [cW w'])):=by
 rw[show wA w'=.agg (cW w') from rfl,G7 (cs:=cW w') (TC (AHR w')) (by rw[NG,hw']; exact sz74) hb (row:=cW w) rfl (by rw[NG,NG]; omega)];unfold splice;rw[NG,hw',qC,zF (by rw[NG]; omega)];simp
theorem A18 {w:Wrd}{kk:IntKind}{i:Nat}(hi:i<16)(hw:w.length=16):O9 Tryz.prog 74 (wA w) (.int kk (i:Nat))=some (iA (w.getD i 0)):=by
 unfold O9 wA;simp only[AY1,sz3];have h3:JO Tryz.prog 3=some false:=ag3;have:=ATP (w:=w) (i:=i) (by omega);simp [h3,this];omega
theorem A5U (n:Nat):KD Tryz.prog 74 [(0,.int .i64 (n:Nat))]=some (wA (sgl n)):=by kernel_rfl
theorem MX {d:List Nat}{k n:Nat}(hd:d.length=k)(hk:k<16):(d++jJ (16-k) 0).set k n=(d++[n])++jJ (16-(k+1)) 0:=by
 subst hd;rw[List.set_append_right _ _ (jP _),Nat.sub_self,show 16-d.length=(16-(d.length+1))+1 by omega,List.replicate_succ];simp
theorem IL {d:List Nat}{k:Nat}(hd:d.length=k)(hk:k<=16):(d++jJ (16-k) 0).length=16:=by simp; omega
theorem grow_end {d:List Nat}(_:d.length=16):d++jJ (16-16) 0=d:=by simp
theorem and1 (x:Nat)(hx:x<4294967296):JD Tryz.prog 3 .and (.int .i64 (x:Nat)) (.int .i64 1)=some (.int .i64 ((x%2:Nat):Int)):=by
 rw[AW8];congr 2
 have e:(BitVec.ofInt IntKind.i64.bits (x:Int) &&& BitVec.ofInt IntKind.i64.bits 1).toNat=x%2:=by
  rw[BitVec.toNat_and]
  have h1:(BitVec.ofInt IntKind.i64.bits (x:Int)).toNat=x:=by
   show(BitVec.ofInt 64 (x:Int)).toNat=x;rw[BitVec.toNat_ofInt];omega
  have h2:(BitVec.ofInt IntKind.i64.bits 1).toNat=1:=rfl;rw[h1,h2,Nat.and_one_is_mod]
 rw[e];exact ACS (by omega)
theorem AQ7 (x k:Nat)(hk:k<16):JD Tryz.prog 3 .shr (.int .i64 (x:Nat)) (.int .i64 (k:Nat))=some (.int .i64 ((x/2^k:Nat):Int)):=by
 rw[AW7 _ _ _ _ _ _ (by omega)];congr 2;have:min (k:Int).toNat IntKind.i64.bits=k:=by show min (k:Int).toNat 64=k; omega
 rw[this,Int.fdiv_eq_ediv_of_nonneg _ (by have:(0:Int)<2^k:=Int.pow_pos (by decide); omega),Int.natCast_ediv,Int.natCast_pow]; rfl
section
variable (G:Nat->AV) {bb:Nat} {rest:List AV}
theorem AX8 (w:Wrd)(n:Nat)(H:Hp):JS n H 2 (wA w)=wA w:=by
 unfold wA cW;show AV.agg _=_;congr 1;rw[List.map_map];rfl
theorem OI (n:Nat)(hn:n<=65535)(h:Hp):PCall (En G) 74 [.int .i64 (n:Nat)] h (wA (cst n)):=by
 refine ABM 2 (AX8 _) ?_;refine acN Tryz.func74 rfl ?_;show awp _ _ _ _ _ (EK _ [.cell 2 74] _);simp -implicitDefEqProofs only[vQ,BD,enP,TT];generalize hA:h++[ABlk.live 16 [cW (jJ 16 0)]]=A;have gA:A[h.length]?=some (.live 16 [cW (jJ 16 0)]):=by rw[<-hA]; exact CU _ _
 have exA:ext h A:=⟨_,hA.symm⟩;have lA:A.length=h.length+1:=by rw[<-hA]; simp
 refine GI 0 (fun F H=>F 2=.ptr h.length 0 0∧F 3=.ptr A.length 0 0∧H=A++[.live 16 [cW (cst n)]]) (fun _ _=>False) ?_ ?_ (fun _ _ q=>q.elim)
 .refine D7 (fun m F H=>∃k,m+k=16∧F 0=.int .i64 (n:Nat)∧F 2=.ptr h.length 0 0∧F 3=.ptr A.length 0 0∧F 5=.int .i64 (k:Nat)∧H=A++[.live 16 [cW ((cst n).take k++jJ (16-k) 0)]]) 16 ⟨0,rfl,by simp -implicitDefEqProofs only[vQ,↓reduceIte,jA],by simp -implicitDefEqProofs only[AA,↓reduceIte,jA],by simp -implicitDefEqProofs only[AA,↓reduceIte,jA],by simp -implicitDefEqProofs only[AA,↓reduceIte]; rfl,rfl⟩ ?_
  rintro m F H ⟨k,hk,f0,f2,f3,f5,rfl⟩;simp -implicitDefEqProofs only[vQ,BD,↓reduceIte,enP,f5];refine C9 (fun hc=>?_) (fun hc=>?_)
  .have hk':k<16:=by have:=hc; simp at this; omega
   have hd:((cst n).take k).length=k:=by rw[List.length_take,H8]; omega
   have hb:=CU A (ABlk.live 16 [cW ((cst n).take k++jJ (16-k) 0)]);have hst:=stW (n:=n/2^k%2) hb (i:=k) (by rw[IL hd (by omega)]; exact hk');have hlt:n/2^k<4294967296:=Nat.lt_of_le_of_lt (Nat.div_le_self _ _) (by omega)
   have hck:(cst n).take k++[n/2^k%2]=(cst n).take (k+1):=by
    rw[List.take_succ_eq_append_getElem (by rw[H8]; exact hk')];congr 2;unfold cst; simp
   rw[MX hd hk',JP,hck] at hst;simp -implicitDefEqProofs only[vQ,BD,↓reduceIte,jA,enP,jO,f0,f3,f5,AQ7 _ _ hk',and1 _ hlt,QO hk',show FO Tryz.prog (A++[ABlk.live 16 [cW ((cst n).take k++jJ (16-k) 0)]]) 3 (.ptr A.length 0 k) (.int .i64 ((n/2^k%2:Nat):Int))=_ from hst,wrap_succ (show k<9223372036854775807 by omega)];exact⟨m-1,by omega,k+1,by omega,by trivial,by trivial,by trivial,by trivial,by trivial⟩
  .have hk':k=16:=by have:=hc; simp at this; omega
   subst hk';simp -implicitDefEqProofs only[vQ,↓reduceIte,jA];refine⟨f2,f3,?_⟩;rw[zH (by rw[H8]; exact jP 16),grow_end (H8 n)]
 .rintro F H ⟨f2,f3,rfl⟩
  have gT:=CU A (ABlk.live 16 [cW (cst n)]);simp -implicitDefEqProofs only[vQ,BD,↓reduceIte,jA,enP,jO,f2,f3,IJ gT (H8 n),U7 (BO gA) (by simp) (H8 n)];rw[I8 _ _ _ _ _ _ _ _ _ (show _=AV.ptr h.length 0 0 by first|exact f2|(simp -implicitDefEqProofs only[f2])),IJ (DX (BO gA)) (H8 n)];exact⟨_,rfl,rfl,(exA.app _).set (jP _) _⟩
theorem J7 (t:Nat)(h:Hp):PCall (En G) 76 [iA t] h (wA (sgl t)):=by
 refine ABM 2 (AX8 _) ?_;refine acN Tryz.func76 rfl ?_;show awp _ _ _ _ _ (EK _ [.cell 2 74] _);have gT:=CU h (ABlk.live 16 [cW (jJ 16 0)]);unfold iA;simp -implicitDefEqProofs only[vQ,BD,↓reduceIte,jA,enP,jO,TT,A5U,U7 gT (by simp) (JQ t),JP];rw[I8 _ _ _ _ _ _ _ _ _ (show _=AV.ptr h.length 0 0 by simp -implicitDefEqProofs only[AA,↓reduceIte,jA]),IJ (CU h _) (JQ t)];exact⟨_,rfl,rfl,(ext.rfl' h).app _⟩
end
theorem apX {op:B3}{l l':Dg}{f g h r:Nat}(v:VD l)(hf:f<l.length)(hg:g<l.length)(hh:h<l.length)(e:ap op f g h l=some (r,l')):Xt l l'∧r<l'.length:=by
 obtain⟨_,b,_,d,_⟩:=MB op v hf hg hh e;exact⟨b,d⟩
theorem LOk.drop {l:Dg}{xs:List Nat}(h:LOk l xs)(n:Nat):LOk l (xs.drop n):=fun g hg=>h g (List.mem_of_mem_drop hg)
theorem LOk.at {l:Dg}{xs:List Nat}(h:LOk l xs){n:Nat}(hn:n<xs.length):xs[n]<l.length:=h _ (List.getElem_mem hn)
theorem getD_at {xs:List Nat}{n:Nat}(hn:n<xs.length):xs.getD n 0=xs[n]:=by rw[zM,jX hn]; rfl
theorem MN (k:Nat):decide (((k:Nat):Int)<16)=decide (k<16):=by rw[decide_eq_decide]; omega
theorem HY {A:Hp}{x:ABlk}{n:Nat}(e:A.length=n):(A++[x])[n]?=some x:=by rw[<-e]; exact CU _ _
abbrev isW (H:Hp)(b:Nat)(w:Wrd):Prop:=H[b]?=some (.live 16 [cW w])
theorem AO2 (x:Nat)(xs:List Nat)(y:Nat)(ys:List Nat)(c:Nat):PI (x::xs) (y::ys) c=(NS x y).bnd fun h=>(NS h c).bnd fun o=>if xs=[] then ret [o] else
 (KA x y).bnd fun g=>(KA h c).bnd fun k=>(oOr g k).bnd fun c'=>(PI xs ys c').bnd fun r=>ret (o::r):=rfl
theorem AII {x y:Wrd}(hx:x.length=16)(hy:y.length=16)(d:Wrd)(c k:Nat)(hk:k<16):((PI (x.drop k) (y.drop k) c).bnd fun r=>ret (d++r)) =
  (NS (x.getD k 0) (y.getD k 0)).bnd fun h=>(NS h c).bnd fun o=>if k=15 then ret (d++[o]) else (KA (x.getD k 0) (y.getD k 0)).bnd fun g=>(KA h c).bnd fun q=>(oOr g q).bnd fun c'=>(PI (x.drop (k+1)) (y.drop (k+1)) c').bnd fun r=>ret ((d++[o])++r):=by
 rw[zU (show k<x.length by omega),zU (show k<y.length by omega),getD_at (by omega),getD_at (by omega)];rw[AO2,G9];congr 1;funext h;rw[G9];congr 1;funext o;by_cases h15:k=15
 .rw[if_pos h15,if_pos (zF (by omega))]
  rfl
 .rw[if_neg h15,if_neg (by rw[List.drop_eq_nil_iff]; omega),G9]
  congr 1;funext g;rw[G9];congr 1;funext q;rw[G9];congr 1;funext c';rw[G9];refine congrArg (M.bnd _) (funext fun r=>?_);show ret (d++(o::r))=ret ((d++[o])++r);rw[zJ]; rfl
section
variable (G:Nat->AV) {bb:Nat} {rest:List AV}
theorem OD {H:Hp}{l:Dg}(s:PS bb rest l H)(w:Wrd)(hw:w.length=16)(ow:LOk l w):Ct G bb rest 40 [.ptr bb 0 0,wA w] H l (trL w 0) iA:=by
 intro base Bad hk hb;generalize hT:trL w 0 l=TOT at hb;refine acN Tryz.func40 rfl ?_;show awp _ _ _ _ _ (EK _ [.tmp 4] _);have g3:=CU H (ABlk.live 16 [cW w]);simp -implicitDefEqProofs only[vQ,BD,↓reduceIte,jA,enP,QR _ hw,IJ g3 hw];refine GI 0 (fun F H'=>∃t l',TOT=some (t,l')∧PS bb rest l' H'∧Kb bb H H'∧F 5=iA t) (fun _ _=>False) ?_ ?_ (fun _ _ q=>q.elim)
 .refine D7 (fun m F H'=>∃k t l',m+k=16∧trL (w.drop k) t l'=TOT∧LOk l' w∧t<l'.length∧PS bb rest l' H'∧Kb bb H H'∧F 0=.ptr bb 0 0∧F 5=iA t∧F 8=wA w∧F 9=.int .i64 (k:Nat)) 16
   ⟨0,0,l,rfl,hT,ow,s.v.p0,s.app _,(Kb.rfl' _ _).app _,by simp -implicitDefEqProofs only[vQ,↓reduceIte,jA],by simp -implicitDefEqProofs only[AA,↓reduceIte,jA]; rfl,by simp -implicitDefEqProofs only[AA,↓reduceIte,jA],by simp -implicitDefEqProofs only[AA,↓reduceIte]; rfl⟩ ?_
  rintro m F H' ⟨k,t,l',hm,hS,ow',ht,s',k',f0,f5,f8,f9⟩;simp -implicitDefEqProofs only[vQ,BD,↓reduceIte,enP,f9,MN];refine C9 (fun hc=>?_) (fun hc=>?_)
  .have hk':k<16:=by simpa using hc
   rw[zU (by omega)] at hS;have hwk:w.getD k 0<l'.length:=by rw[getD_at (by omega)]; exact ow'.at (by omega)
   rw[<-getD_at (show k<w.length by omega)] at hS;simp -implicitDefEqProofs only[vQ,BD,NI,↓reduceIte,jA,enP,f0,f5,f8,f9,A18 hk' hw];refine(NY G s' t (w.getD k 0) ht hwk).use (k:=fun u=>trL (w.drop (k+1)) u) hS hb (hk.trans k') ?_;intro a l1 H1 e hS1 s1 k1;obtain⟨x1,a1⟩:=apX s'.v ht hwk hwk e;simp -implicitDefEqProofs only[vQ,BD,↓reduceIte,jA,enP,f9,wrap_succ (show k<9223372036854775807 by omega)];exact⟨m-1,by omega,k+1,a,l1,by omega,hS1,ow'.go x1,a1,s1,k'.trans k1,by trivial,by trivial,by trivial,by trivial⟩
  .have hk':k=16:=by have:=hc; simp at this; omega
   subst hk';rw[zF (by omega)] at hS;simp -implicitDefEqProofs only[vQ,↓reduceIte,jA];exact⟨t,l',hS.symm,s',k',f5⟩
 .rintro F H' ⟨t,l',e,s',k',f5⟩
  simp -implicitDefEqProofs only[vQ,BD,↓reduceIte,f5];exact⟨t,l',e,rfl,s',k'⟩
set_option maxHeartbeats 2000000 in
theorem YP {H:Hp}{l:Dg}(s:PS bb rest l H)(x y:Wrd)(c:Nat)(hx:x.length=16)(hy:y.length=16)(ox:LOk l x)(oy:LOk l y)(oc:c<l.length):Ct G bb rest 142 [.ptr bb 0 0,wA x,wA y,iA c] H l (PI x y c) wA:=by
 intro base Bad hk hb;generalize hT:PI x y c l=TOT at hb;refine acN Tryz.func142 rfl ?_;show awp _ _ _ _ _ (EK _ [.cell 8 74] _);simp -implicitDefEqProofs only[vQ,BD,↓reduceIte,jA,enP,QR _ hx,QR _ hy,TT];generalize hX:H++[ABlk.live 16 [cW x]]++[ABlk.live 16 [cW y]]++[ABlk.live 16 [cW (jJ 16 0)]]++[ABlk.live 16 [cW (jJ 16 0)]]=X;have hxe:ext H X:=by rw[<-hX]; exact((((ext.rfl' H).app _).app _).app _).app _
 have q5:isW X H.length x:=by rw[<-hX]; exact BO (BO (BO (CU _ _)))
 have q6:isW X (H.length+1) y:=by rw[<-hX]; exact BO (BO (HY (by simp)))
 have q8:isW X (H.length+2) (jJ 16 0):=by rw[<-hX]; exact BO (HY (by simp))
 have q9:isW X (H.length+3) (jJ 16 0):=by rw[<-hX]; exact HY (by simp)
 have sX:=s.ext hxe;have kX:=Kb.ofExt (bb:=bb) hxe;have e1:(H++[ABlk.live 16 [cW x]]).length=H.length+1:=by simp
 have e2:(H++[ABlk.live 16 [cW x]]++[ABlk.live 16 [cW y]]).length=H.length+2:=by simp
 have e3:(H++[ABlk.live 16 [cW x]]++[ABlk.live 16 [cW y]]++[ABlk.live 16 [cW (jJ 16 0)]]).length=H.length+3:=by simp
 rw[e1,e2,e3];have sl:=s.lt;refine GI 0 (fun F H'=>∃d l',d.length=16∧TOT=some (d,l')∧PS bb rest l' H'∧Kb bb H H'∧isW H' (H.length+3) d∧(∃z:Wrd,z.length=16∧isW H' (H.length+2) z)∧F 8=.ptr (H.length+2) 0 0∧F 9=.ptr (H.length+3) 0 0) (fun _ _=>False) ?_ ?_ (fun _ _ q=>q.elim)
 .refine D7 (fun m F H'=>∃k d c l',m+k=16∧d.length=k∧((PI (x.drop k) (y.drop k) c).bnd fun r=>ret (d++r)) l'=TOT∧LOk l' x∧LOk l' y∧c<l'.length∧PS bb rest l' H'∧Kb bb H H'∧isW H' H.length x∧isW H' (H.length+1) y∧(∃z:Wrd,z.length=16∧isW H' (H.length+2) z)∧isW H' (H.length+3) (d++jJ (16-k) 0) ∧
   F 0=.ptr bb 0 0∧F 3=iA c∧F 5=.ptr H.length 0 0∧F 6=.ptr (H.length+1) 0 0∧F 8=.ptr (H.length+2) 0 0∧F 9=.ptr (H.length+3) 0 0∧F 14=.int .i64 (k:Nat)) 16
   ⟨0,[],c,l,rfl,rfl,by rw[<-hT]; exact J4 _ _,ox,oy,oc,sX,kX,q5,q6,⟨_,by simp,q8⟩,q9,by simp -implicitDefEqProofs only[vQ,↓reduceIte,jA],by simp -implicitDefEqProofs only[vQ,↓reduceIte,jA],by simp -implicitDefEqProofs only[AA,↓reduceIte,jA],by simp -implicitDefEqProofs only[AA,↓reduceIte,jA],by simp -implicitDefEqProofs only[AA,↓reduceIte,jA],by simp -implicitDefEqProofs only[AA,↓reduceIte,jA],by simp -implicitDefEqProofs only[AA,↓reduceIte]; rfl⟩ ?_
  clear q5 q6 q8 q9 sX kX;rintro m F H' ⟨k,d,c,l',hm,hd,hS,ox',oy',oc',s',k',q5,q6,⟨z,hz,q8⟩,q9,f0,f3,f5,f6,f8,f9,f14⟩;simp -implicitDefEqProofs only[vQ,BD,↓reduceIte,enP,f14,MN];refine C9 (fun hc=>?_) (fun hc=>?_)
  .have hk':k<16:=by simpa using hc
   rw[AII hx hy d c k hk'] at hS;have hxk:x.getD k 0<l'.length:=by rw[getD_at (by omega)]; exact ox'.at (by omega)
   have hyk:y.getD k 0<l'.length:=by rw[getD_at (by omega)]; exact oy'.at (by omega)
   simp -implicitDefEqProofs only[vQ,BD,↓reduceIte,jA,f14];refine OT 7 _ _ (by kernel_rfl) rfl rfl rfl rfl ?_;simp only[wJ,qC];simp -implicitDefEqProofs only[vQ,BD,↓reduceIte,jA,jM,enP,f0,f5,f6,QO hk',ldW q5 (show k<x.length by omega),ldW q6 (show k<y.length by omega)];refine(TQ G s' _ _ hxk hyk).use hS hb (hk.trans k') ?_;intro h l1 H1 eh hS1 s1 k1;obtain⟨x1,h1⟩:=apX s'.v hxk hyk hyk eh;have b1:=s'.lt;have q5:=k1.keep _ _ q5 (by omega);have q6:=k1.keep _ _ q6 (by omega);have q8:=k1.keep _ _ q8 (by omega);have q9:=k1.keep _ _ q9 (by omega);simp -implicitDefEqProofs only[vQ,↓reduceIte,jA,f0,f3];refine(TQ G s1 _ _ h1 (x1.lt oc')).use hS1 hb (hk.trans (k'.trans k1)) ?_;intro o l2 H2 eo hS2 s2 k2;obtain⟨x2,o2⟩:=apX s1.v h1 (x1.lt oc') (x1.lt oc') eo;have q5:=k2.keep _ _ q5 (by omega);have q6:=k2.keep _ _ q6 (by omega);have q8:=k2.keep _ _ q8 (by omega);have q9:=k2.keep _ _ q9 (by omega);have hst:=stW (n:=o) q9 (i:=k) (by rw[IL hd (by omega)]; exact hk');rw[MX hd hk'] at hst;have hlt9:=CB q9;have s3:=s2.set (c:=H.length+3) (by omega) (.live 16 [cW ((d++[o])++jJ (16-(k+1)) 0)]);have k3:=((k'.trans k1).trans k2).setN (c:=H.length+3) (by omega) (.live 16 [cW ((d++[o])++jJ (16-(k+1)) 0)]);have r5:isW (H2.set (H.length+3) (.live 16 [cW ((d++[o])++jJ (16-(k+1)) 0)])) H.length x:=by unfold isW; rw[jS (by omega)]; exact q5
   have r6:isW (H2.set (H.length+3) (.live 16 [cW ((d++[o])++jJ (16-(k+1)) 0)])) (H.length+1) y:=by unfold isW; rw[jS (by omega)]; exact q6
   have r8:isW (H2.set (H.length+3) (.live 16 [cW ((d++[o])++jJ (16-(k+1)) 0)])) (H.length+2) z:=by unfold isW; rw[jS (by omega)]; exact q8
   have r9:isW (H2.set (H.length+3) (.live 16 [cW ((d++[o])++jJ (16-(k+1)) 0)])) (H.length+3) ((d++[o])++jJ (16-(k+1)) 0):=DX q9;have xx:=x1.trans x2;have e15:decide (((k:Nat):Int)<15)=decide (k<15):=by rw[decide_eq_decide]; omega
   simp -implicitDefEqProofs only[vQ,BD,↓reduceIte,jA,enP,jO,f9,QO hk',hst,f14,e15];generalize H2.set (H.length+3) (.live 16 [cW ((d++[o])++jJ (16-(k+1)) 0)])=H3 at s3 k3 r5 r6 r8 r9|-;refine C9 (fun h15=>?_) (fun h15=>?_)
   .have h15:k<15:=by simpa using h15
    rw[if_neg (by omega)] at hS2;have hx2:=xx.lt hxk;have hy2:=xx.lt hyk;simp -implicitDefEqProofs only[BC];refine OT 7 _ _ (by kernel_rfl) rfl rfl rfl rfl ?_;simp only[wJ,qC];simp -implicitDefEqProofs only[vQ,BD,↓reduceIte,jA,jM,enP,f0,f5,f6,QO hk',ldW r5 (show k<x.length by omega),ldW r6 (show k<y.length by omega)];refine(KX G s3 _ _ hx2 hy2).use hS2 hb (hk.trans k3) ?_;intro g l4 H4 eg hS4 s4 k4;obtain⟨x4,g4⟩:=apX s3.v hx2 hy2 hy2 eg;have b3:=s3.lt;have l3:=k3.len;have r5:=k4.keep _ _ r5 (by omega);have r6:=k4.keep _ _ r6 (by omega);have r8:=k4.keep _ _ r8 (by omega);have r9:=k4.keep _ _ r9 (by omega);simp -implicitDefEqProofs only[vQ,↓reduceIte,jA,f0,f3];refine(KX G s4 _ _ ((x2.trans x4).lt h1) ((xx.trans x4).lt oc')).use hS4 hb (hk.trans (k3.trans k4)) ?_;intro q l5 H5 eq hS5 s5 k5;obtain⟨x5,q5'⟩:=apX s4.v ((x2.trans x4).lt h1) ((xx.trans x4).lt oc') ((xx.trans x4).lt oc') eq;have r5:=k5.keep _ _ r5 (by omega);have r6:=k5.keep _ _ r6 (by omega);have r8:=k5.keep _ _ r8 (by omega);have r9:=k5.keep _ _ r9 (by omega);simp -implicitDefEqProofs only[vQ,BD,↓reduceIte,jA,f0];refine(NY G s5 _ _ (x5.lt g4) q5').use hS5 hb (hk.trans ((k3.trans k4).trans k5)) ?_;intro c' l6 H6 ec hS6 s6 k6;obtain⟨x6,c6⟩:=apX s5.v (x5.lt g4) q5' q5' ec;have r5:=k6.keep _ _ r5 (by omega);have r6:=k6.keep _ _ r6 (by omega);have r8:=k6.keep _ _ r8 (by omega);have r9:=k6.keep _ _ r9 (by omega);have xz:=xx.trans (x4.trans (x5.trans x6));simp -implicitDefEqProofs only[vQ,BD,↓reduceIte,jA,enP,f14,wrap_succ (show k<9223372036854775807 by omega)];exact⟨m-1,by omega,k+1,d++[o],c',l6,by omega,by simp [hd],hS6,ox'.go xz,oy'.go xz,c6,s6,((k3.trans k4).trans k5).trans k6,r5,r6,⟨z,hz,r8⟩,r9,by trivial,by trivial,by trivial,by trivial,by trivial,by trivial,by trivial⟩
   .have h15:k=15:=by have:=h15; simp at this; omega
    rw[if_pos h15] at hS2;simp -implicitDefEqProofs only[vQ,BD,↓reduceIte,jA,enP,f14,wrap_succ (show k<9223372036854775807 by omega)];refine⟨m-1,by omega,k+1,d++[o],c,l2,by omega,by simp [hd],?_,ox'.go xx,oy'.go xx,xx.lt oc',s3,k3,r5,r6,⟨z,hz,r8⟩,r9,by trivial,by trivial,by trivial,by trivial,by trivial,by trivial,by trivial⟩;rw[<-hS2,zF (show x.length<=k+1 by omega)];show ret ((d++[o])++[]) l2=_;rw[jD]
  .have hk':k=16:=by have:=hc; simp at this; omega
   subst hk';rw[zF (show x.length<=16 by omega)] at hS;have hS:ret (d++[]) l'=TOT:=hS;rw[jD] at hS;rw[grow_end hd] at q9;simp -implicitDefEqProofs only[vQ,↓reduceIte,jA];exact⟨d,l',hd,hS.symm,s',k',q9,⟨z,hz,q8⟩,f8,f9⟩
 .rintro F H' ⟨d,l',hd,e,s',k',q9,⟨z,hz,q8⟩,f8,f9⟩
  simp -implicitDefEqProofs only[vQ,BD,↓reduceIte,jA,enP,jO,f8,f9,IJ q9 hd,U7 q8 hz hd];rw[I8 _ _ _ _ _ _ _ _ _ (show _=AV.ptr (H.length+2) 0 0 by first|exact f8|(simp -implicitDefEqProofs only[f8])),IJ (DX q8) hd];exact⟨_,rfl,d,l',e,rfl,s'.set (by omega) _,k'.setN (by omega) _⟩
end
theorem set_mid {d r:List Nat}{k a n:Nat}(hd:d.length=k):(d++a::r).set k n=(d++[n])++r:=by
 subst hd;rw[List.set_append_right _ _ (jP _),Nat.sub_self];simp
theorem QE {d r:List Nat}{k a:Nat}(hd:d.length=k):(d++a::r).getD k 0=a:=by
 subst hd;rw[zM,List.getElem?_append_right (jP _),Nat.sub_self]; rfl
theorem IU {xs:List Nat}{k:Nat}(hk:k<xs.length):xs.drop k=xs.getD k 0::xs.drop (k+1):=by rw[zU hk,getD_at hk]
theorem LOk.getD {l:Dg}{xs:List Nat}(h:LOk l xs){k:Nat}(hk:k<xs.length):xs.getD k 0<l.length:=by rw[getD_at hk]; exact h.at hk
section
variable (G:Nat->AV) {bb:Nat} {rest:List AV}
theorem XZ {H:Hp}{l:Dg}(s:PS bb rest l H)(w:Wrd)(hw:w.length=16)(ow:LOk l w):Ct G bb rest 78 [.ptr bb 0 0,wA w] H l (cmpL w) wA:=by
 intro base Bad hk hb;generalize hT:cmpL w l=TOT at hb;refine acN Tryz.func78 rfl ?_;show awp _ _ _ _ _ (EK _ [.cell 4 74] _);simp -implicitDefEqProofs only[vQ,BD,enP,QR _ hw,TT];generalize hX:H++[ABlk.live 16 [cW w]]++[ABlk.live 16 [cW (jJ 16 0)]]=X;have hxe:ext H X:=by rw[<-hX]; exact((ext.rfl' H).app _).app _
 have q3:isW X H.length w:=by rw[<-hX]; exact BO (CU _ _)
 have q4:isW X (H.length+1) (jJ 16 0):=by rw[<-hX]; exact HY (by simp)
 have sX:=s.ext hxe;have kX:=Kb.ofExt (bb:=bb) hxe;have e1:(H++[ABlk.live 16 [cW w]]).length=H.length+1:=by simp
 rw[e1];have sl:=s.lt;refine GI 0 (fun F H'=>∃d l',d.length=16∧TOT=some (d,l')∧PS bb rest l' H'∧Kb bb H H'∧isW H' H.length d∧(∃z:Wrd,z.length=16∧isW H' (H.length+1) z)∧F 3=.ptr H.length 0 0∧F 4=.ptr (H.length+1) 0 0) (fun _ _=>False) ?_ ?_ (fun _ _ q=>q.elim)
 .refine D7 (fun m F H'=>∃k d l',m+k=16∧d.length=k∧((cmpL (w.drop k)).bnd fun r=>ret (d++r)) l'=TOT∧LOk l' w∧PS bb rest l' H'∧Kb bb H H'∧isW H' H.length (d++w.drop k)∧(∃z:Wrd,z.length=16∧isW H' (H.length+1) z) ∧
   F 0=.ptr bb 0 0∧F 3=.ptr H.length 0 0∧F 4=.ptr (H.length+1) 0 0∧F 6=.int .i64 (k:Nat)) 16
   ⟨0,[],l,rfl,rfl,by rw[<-hT]; exact J4 _ _,ow,sX,kX,q3,⟨_,by simp,q4⟩,by simp -implicitDefEqProofs only[vQ,↓reduceIte,jA],by simp -implicitDefEqProofs only[AA,↓reduceIte,jA],by simp -implicitDefEqProofs only[AA,↓reduceIte,jA],by simp -implicitDefEqProofs only[AA,↓reduceIte]; rfl⟩ ?_
  clear q3 q4 sX kX;rintro m F H' ⟨k,d,l',hm,hd,hS,ow',s',k',q3,⟨z,hz,q4⟩,f0,f3,f4,f6⟩;simp -implicitDefEqProofs only[vQ,BD,↓reduceIte,enP,f6,MN];refine C9 (fun hc=>?_) (fun hc=>?_)
  .have hk':k<16:=by simpa using hc
   have hwl:k<w.length:=by omega
   have hwk:=ow'.getD hwl;rw[IU hwl] at hS q3
   have hS:((LQ (w.getD k 0)).bnd fun g=>(cmpL (w.drop (k+1))).bnd fun r=>ret ((d++[g])++r)) l'=TOT:=by
    rw[<-hS];show _=(((LQ (w.getD k 0)).bnd fun g=>(cmpL (w.drop (k+1))).bnd fun s=>ret (g::s)).bnd fun r=>ret (d++r)) l';rw[G9];refine congrFun (congrArg (M.bnd _) (funext fun g=>?_)) l';rw[G9];refine congrArg (M.bnd _) (funext fun r=>?_);show ret ((d++[g])++r)=ret (d++(g::r));rw[zJ]; rfl
   have hlq:k<(d++w.getD k 0::w.drop (k+1)).length:=by simp [hd]
   have hld:=ldW q3 (i:=k) hlq;rw[QE hd] at hld;simp -implicitDefEqProofs only[vQ,BD,↓reduceIte,jA,enP,f0,f3,f6,QO hk',hld];refine(LW G s' _ hwk).use hS hb (hk.trans k') ?_;intro g l1 H1 eg hS1 s1 k1;obtain⟨x1,g1⟩:=apX s'.v hwk hwk hwk eg;have b1:=s'.lt;have q3:=k1.keep _ _ q3 (by omega);have q4:=k1.keep _ _ q4 (by omega);have hst:=stW (n:=g) q3 (i:=k) hlq;rw[set_mid hd] at hst;simp -implicitDefEqProofs only[vQ,BD,↓reduceIte,jA,enP,jO,f3,f6,QO hk',hst,wrap_succ (show k<9223372036854775807 by omega)];refine⟨m-1,by omega,k+1,d++[g],l1,by omega,by simp [hd],hS1,ow'.go x1,s1.set (by omega) _,(k'.trans k1).setN (by omega) _,DX q3,⟨z,hz,?_⟩,by trivial,by trivial,by trivial,by trivial⟩;unfold isW; rw[jS (by omega)]; exact q4
  .have hk':k=16:=by have:=hc; simp at this; omega
   subst hk';rw[zF (show w.length<=16 by omega)] at hS q3;have hS:ret (d++[]) l'=TOT:=hS;rw[jD] at hS q3;simp -implicitDefEqProofs only[vQ,↓reduceIte,jA];exact⟨d,l',hd,hS.symm,s',k',q3,⟨z,hz,q4⟩,f3,f4⟩
 .rintro F H' ⟨d,l',hd,e,s',k',q3,⟨z,hz,q4⟩,f3,f4⟩
  simp -implicitDefEqProofs only[vQ,BD,↓reduceIte,jA,enP,jO,f3,f4,IJ q3 hd,U7 q4 hz hd];rw[I8 _ _ _ _ _ _ _ _ _ (show _=AV.ptr (H.length+1) 0 0 by first|exact f4|(simp -implicitDefEqProofs only[f4])),IJ (DX q4) hd];exact⟨_,rfl,d,l',e,rfl,s'.set (by omega) _,k'.setN (by omega) _⟩
theorem AJU {H:Hp}{l:Dg}(s:PS bb rest l H)(x y:Wrd)(hx:x.length=16)(hy:y.length=16)(ox:LOk l x)(oy:LOk l y):Ct G bb rest 79 [.ptr bb 0 0,wA x,wA y] H l (AA3 x y) wA:=by
 intro base Bad hk hb;generalize hT:AA3 x y l=TOT at hb;have hS:((cmpL y).bnd fun n=>PI x n 1) l=TOT:=hT;refine IV (H:=Hint.none) (enM G) Tryz.func79 rfl (by kernel_rfl) (by kernel_rfl) (jH (by kernel_rfl)) ?_;show awp _ _ _ _ _ (EK _ [.cell 6 74] _);simp -implicitDefEqProofs only[vQ,BD,↓reduceIte,jA,enP,QR _ hx,QR _ hy,TT];generalize hX:H++[ABlk.live 16 [cW x]]++[ABlk.live 16 [cW y]]++[ABlk.live 16 [cW (jJ 16 0)]]=X;have hxe:ext H X:=by rw[<-hX]; exact(((ext.rfl' H).app _).app _).app _
 have q4:isW X H.length x:=by rw[<-hX]; exact BO (BO (CU _ _))
 have q5:isW X (H.length+1) y:=by rw[<-hX]; exact BO (HY (by simp))
 have q6:isW X (H.length+2) (jJ 16 0):=by rw[<-hX]; exact HY (by simp)
 have sX:=s.ext hxe;have kX:=Kb.ofExt (bb:=bb) hxe;have e1:(H++[ABlk.live 16 [cW x]]).length=H.length+1:=by simp
 have e2:(H++[ABlk.live 16 [cW x]]++[ABlk.live 16 [cW y]]).length=H.length+2:=by simp
 rw[e1,e2];have sl:=s.lt;refine EW (.ones [0,2,3] (.alt 1 (.alt 4 (.alt 5 (.alt 6 .done .non) .non) .non) (.alt 4 (.alt 1 (.alt 5 (.alt 6 .done .non) .non) .non) .non))) (by kernel_rfl) ?_;simp only[DN,IE,jU,jT];simp -implicitDefEqProofs only[vQ,↓reduceIte,jA,jM,enP,jO,IJ q4 hx,IJ q5 hy]
 have tail:∀(n:Wrd) (l1:Dg) (H1:Hp),cmpL y l=some (n,l1)->PI x n 1 l1=TOT->PS bb rest l1 H1->Kb bb X H1->∀K:AV->Hp->Prop,(∀(r:Wrd) (H2:Hp),r.length=16->isW H2 (H.length+2) (jJ 16 0)->(∃a l',TOT=some (a,l')∧wA r=wA a∧PS bb rest l' (H2.set (H.length+2) (.live 16 [cW r]))∧Kb bb H (H2.set (H.length+2) (.live 16 [cW r])))->K (wA r) H2) ->
   ACalls ((En G).wx (X0 bb base Bad)) 142 [.ptr bb 0 0,wA x,wA n,iA 1] H1 K:=by
  intro n l1 H1 en hS1 s1 k1 K hK;obtain⟨v1,x1,_,⟨n1,n2⟩,_⟩:=ZW y l s.v oy n l1 en;have b1:=sX.lt;have q6:=k1.keep _ _ q6 (by omega);have hS1:((PI x n 1).bnd fun a=>ret a) l1=TOT:=by rw[J4]; exact hS1
  refine(YP G s1 x n 1 hx (by omega) (ox.go x1) n2 v1.p1).use hS1 hb (hk.trans (kX.trans k1)) ?_;intro r l2 H2 er hS2 s2 k2;obtain⟨v2,x2,_,⟨r1,r2⟩,_⟩:=PY x n l1 1 v1 (by omega) (ox.go x1) n2 v1.p1 r l2 er;have b2:=s1.lt;have l1':=k1.len;exact hK r H2 (by omega) (k2.keep _ _ q6 (by omega)) ⟨r,l2,hS2.symm,rfl,s2.set (by omega) _,((kX.trans k1).trans k2).setN (by omega) _⟩
 refine⟨⟨(XZ G sX y hy oy).use hS hb (hk.trans kX) ?_,trivial⟩,(XZ G sX y hy oy).use hS hb (hk.trans kX) ?_,trivial⟩
 .intro n l1 H1 en hS1 s1 k1
  simp -implicitDefEqProofs only[vQ,↓reduceIte,jA];refine⟨tail n l1 H1 en hS1 s1 k1 _ ?_,trivial⟩;intro r H2 hr q6 hend;simp -implicitDefEqProofs only[vQ,↓reduceIte,jA,U7 q6 (by simp) hr];refine⟨?_,trivial⟩;rw[I8 _ _ _ _ _ _ _ _ _ (show _=AV.ptr (H.length+2) 0 0 by simp -implicitDefEqProofs only[AA,↓reduceIte,jA]),IJ (DX q6) hr];exact⟨_,rfl,hend⟩
 .intro n l1 H1 en hS1 s1 k1
  have q4:=k1.keep _ _ q4 (by have:=sX.lt; omega);simp -implicitDefEqProofs only[vQ,↓reduceIte,jA,IJ q4 hx];refine⟨⟨tail n l1 H1 en hS1 s1 k1 _ ?_,trivial⟩,trivial⟩;intro r H2 hr q6 hend;simp -implicitDefEqProofs only[vQ,↓reduceIte,jA,U7 q6 (by simp) hr];refine⟨?_,trivial⟩;rw[I8 _ _ _ _ _ _ _ _ _ (show _=AV.ptr (H.length+2) 0 0 by simp -implicitDefEqProofs only[AA,↓reduceIte,jA]),IJ (DX q6) hr];exact⟨_,rfl,hend⟩
theorem VO {H:Hp}{l:Dg}(s:PS bb rest l H)(x y:Wrd)(hx:x.length=16)(hy:y.length=16)(ox:LOk l x)(oy:LOk l y):Ct G bb rest 191 [.ptr bb 0 0,wA x,wA y] H l (eqL x y 1) iA:=by
 intro base Bad hk hb;generalize hT:eqL x y 1 l=TOT at hb;refine acN Tryz.func191 rfl ?_;show awp _ _ _ _ _ (EK _ [.tmp 6] _);simp -implicitDefEqProofs only[vQ,BD,↓reduceIte,jA,enP,QR _ hx,QR _ hy];generalize hX:H++[ABlk.live 16 [cW x]]++[ABlk.live 16 [cW y]]=X;have hxe:ext H X:=by rw[<-hX]; exact((ext.rfl' H).app _).app _
 have q4:isW X H.length x:=by rw[<-hX]; exact BO (CU _ _)
 have q5:isW X (H.length+1) y:=by rw[<-hX]; exact HY (by simp)
 have sX:=s.ext hxe;have kX:=Kb.ofExt (bb:=bb) hxe;have e1:(H++[ABlk.live 16 [cW x]]).length=H.length+1:=by simp
 rw[e1];have sl:=s.lt;refine GI 0 (fun F H'=>∃t l',TOT=some (t,l')∧PS bb rest l' H'∧Kb bb H H'∧F 7=iA t) (fun _ _=>False) ?_ ?_ (fun _ _ q=>q.elim)
 .refine D7 (fun m F H'=>∃k t l',m+k=16∧eqL (x.drop k) (y.drop k) t l'=TOT∧LOk l' x∧LOk l' y∧t<l'.length∧PS bb rest l' H'∧Kb bb H H'∧isW H' H.length x∧isW H' (H.length+1) y ∧
   F 0=.ptr bb 0 0∧F 4=.ptr H.length 0 0∧F 5=.ptr (H.length+1) 0 0∧F 7=iA t∧F 9=.int .i64 (k:Nat)) 16
   ⟨0,1,l,rfl,hT,ox,oy,s.v.p1,sX,kX,q4,q5,by simp -implicitDefEqProofs only[vQ,↓reduceIte,jA],by simp -implicitDefEqProofs only[AA,↓reduceIte,jA],by simp -implicitDefEqProofs only[AA,↓reduceIte,jA],by simp -implicitDefEqProofs only[AA,↓reduceIte,jA]; rfl,by simp -implicitDefEqProofs only[AA,↓reduceIte]; rfl⟩ ?_
  clear q4 q5 sX kX;rintro m F H' ⟨k,t,l',hm,hS,ox',oy',ht,s',k',q4,q5,f0,f4,f5,f7,f9⟩;simp -implicitDefEqProofs only[vQ,BD,↓reduceIte,enP,f9,MN];refine C9 (fun hc=>?_) (fun hc=>?_)
  .have hk':k<16:=by simpa using hc
   have hxl:k<x.length:=by omega
   have hyl:k<y.length:=by omega
   have hxk:=ox'.getD hxl;have hyk:=oy'.getD hyl;rw[IU hxl,IU hyl] at hS;have hS:((NS (x.getD k 0) (y.getD k 0)).bnd fun a=>(LQ a).bnd fun b=>(KA t b).bnd fun u=>eqL (x.drop (k+1)) (y.drop (k+1)) u) l'=TOT:=hS;simp -implicitDefEqProofs only[vQ,BD,↓reduceIte,jA,f9];refine EW (.ones [0,1,2,3,4,5,6,7,8,9] (.alt 10 (.alt 11 (.alt 12 (.ones [13] .done) .non) .non) .non)) (by kernel_rfl) ?_;simp only[DN,IE,jU,jT];simp -implicitDefEqProofs only[vQ,BD,↓reduceIte,jA,jM,enP,f0,f4,f5,f7,QO hk',ldW q4 hxl,ldW q5 hyl];refine⟨(TQ G s' _ _ hxk hyk).use hS hb (hk.trans k') ?_,trivial⟩;intro a l1 H1 ea hS1 s1 k1;obtain⟨x1,a1⟩:=apX s'.v hxk hyk hyk ea;simp -implicitDefEqProofs only[vQ,↓reduceIte,jA];refine⟨(LW G s1 _ a1).use hS1 hb (hk.trans (k'.trans k1)) ?_,trivial⟩;intro b l2 H2 eb hS2 s2 k2;obtain⟨x2,b2⟩:=apX s1.v a1 a1 a1 eb;simp -implicitDefEqProofs only[vQ,↓reduceIte,jA];refine⟨(KX G s2 _ _ ((x1.trans x2).lt ht) b2).use hS2 hb (hk.trans ((k'.trans k1).trans k2)) ?_,trivial⟩;intro u l3 H3 eu hS3 s3 k3;obtain⟨x3,u3⟩:=apX s2.v ((x1.trans x2).lt ht) b2 b2 eu;have xx:=x1.trans (x2.trans x3);have kk:=(k1.trans k2).trans k3;have b1:=s'.lt;simp -implicitDefEqProofs only[vQ,BD,↓reduceIte,jA,f9,wrap_succ (show k<9223372036854775807 by omega)];exact⟨m-1,by omega,k+1,u,l3,by omega,hS3,ox'.go xx,oy'.go xx,u3,s3,k'.trans kk,kk.keep _ _ q4 (by omega),kk.keep _ _ q5 (by omega),by trivial,by trivial,by trivial,by trivial,by trivial⟩
  .have hk':k=16:=by have:=hc; simp at this; omega
   subst hk';rw[zF (show x.length<=16 by omega)] at hS;simp -implicitDefEqProofs only[vQ,↓reduceIte,jA];exact⟨t,l',hS.symm,s',k',f7⟩
 .rintro F H' ⟨t,l',e,s',k',f7⟩
  simp -implicitDefEqProofs only[vQ,BD,↓reduceIte,f7];exact⟨t,l',e,rfl,s',k'⟩
set_option maxHeartbeats 1000000 in
theorem WG {H:Hp}{l:Dg}(s:PS bb rest l H)(x y:Wrd)(hx:x.length=16)(hy:y.length=16)(ox:LOk l x)(oy:LOk l y):Ct G bb rest 143 [.ptr bb 0 0,wA x,wA y] H l (lsL x y 0) iA:=by
 intro base Bad hk hb;generalize hT:lsL x y 0 l=TOT at hb;refine IV (H:=Hint.none) (enM G) Tryz.func143 rfl (by kernel_rfl) (by kernel_rfl) (jH (by kernel_rfl)) ?_;show awp _ _ _ _ _ (EK _ [.tmp 6] _);simp -implicitDefEqProofs only[vQ,BD,↓reduceIte,jA,enP,QR _ hx,QR _ hy];generalize hX:H++[ABlk.live 16 [cW x]]++[ABlk.live 16 [cW y]]=X;have hxe:ext H X:=by rw[<-hX]; exact((ext.rfl' H).app _).app _
 have q4:isW X H.length x:=by rw[<-hX]; exact BO (CU _ _)
 have q5:isW X (H.length+1) y:=by rw[<-hX]; exact HY (by simp)
 have sX:=s.ext hxe;have kX:=Kb.ofExt (bb:=bb) hxe;have e1:(H++[ABlk.live 16 [cW x]]).length=H.length+1:=by simp
 rw[e1];have sl:=s.lt;refine GI 0 (fun F H'=>∃t l',TOT=some (t,l')∧PS bb rest l' H'∧Kb bb H H'∧F 7=iA t) (fun _ _=>False) ?_ ?_ (fun _ _ q=>q.elim)
 .refine D7 (fun m F H'=>∃k t l',m+k=16∧lsL (x.drop k) (y.drop k) t l'=TOT∧LOk l' x∧LOk l' y∧t<l'.length∧PS bb rest l' H'∧Kb bb H H'∧isW H' H.length x∧isW H' (H.length+1) y ∧
   F 0=.ptr bb 0 0∧F 4=.ptr H.length 0 0∧F 5=.ptr (H.length+1) 0 0∧F 7=iA t∧F 11=.int .i64 (k:Nat)) 16
   ⟨0,0,l,rfl,hT,ox,oy,s.v.p0,sX,kX,q4,q5,by simp -implicitDefEqProofs only[vQ,↓reduceIte,jA],by simp -implicitDefEqProofs only[AA,↓reduceIte,jA],by simp -implicitDefEqProofs only[AA,↓reduceIte,jA],by simp -implicitDefEqProofs only[AA,↓reduceIte,jA]; rfl,by simp -implicitDefEqProofs only[AA,↓reduceIte]; rfl⟩ ?_
  clear q4 q5 sX kX;rintro m F H' ⟨k,t,l',hm,hS,ox',oy',ht,s',k',q4,q5,f0,f4,f5,f7,f11⟩;simp -implicitDefEqProofs only[vQ,BD,↓reduceIte,enP,f11,MN];refine C9 (fun hc=>?_) (fun hc=>?_)
  .have hk':k<16:=by simpa using hc
   have hxl:k<x.length:=by omega
   have hyl:k<y.length:=by omega
   have hxk:=ox'.getD hxl;have hyk:=oy'.getD hyl;rw[IU hxl,IU hyl] at hS;have hS:((LQ (x.getD k 0)).bnd fun n=>(KA n (y.getD k 0)).bnd fun u=>(NS (x.getD k 0) (y.getD k 0)).bnd fun a=>(LQ a).bnd fun b=>(KA b t).bnd fun w=>(oOr u w).bnd fun z=>lsL (x.drop (k+1)) (y.drop (k+1)) z) l'=TOT:=hS;have b1:=s'.lt;have kl:=k'.len;simp -implicitDefEqProofs only[vQ,BD,↓reduceIte,jA,f11]
   refine UU (fun F H2=>∃u l2,((NS (x.getD k 0) (y.getD k 0)).bnd fun a=>(LQ a).bnd fun b=>(KA b t).bnd fun w=>(oOr u w).bnd fun z=>lsL (x.drop (k+1)) (y.drop (k+1)) z) l2=TOT∧u<l2.length∧Xt l' l2∧PS bb rest l2 H2∧Kb bb H' H2 ∧
    F 0=.ptr bb 0 0∧F 4=.ptr H.length 0 0∧F 5=.ptr (H.length+1) 0 0∧F 7=iA t∧F 8=.int .i64 (k:Nat)∧F 9=iA u∧F 11=.int .i64 (k:Nat)) (fun _ _=>False) ?_ ?_ (fun _ _ q=>q.elim)
   .refine EW (.ones [0,1,2,3,4,6] (.alt 5 (.ones [7,8] (.alt 9 (.ones [10] .done) (.non))) (.alt 7 (.alt 5 (.ones [8] (.alt 9 (.ones [10] .done) (.non))) (.alt 8 (.alt 5 (.alt 9 (.ones [10] .done) (.non)) (.non)) (.non))) (.non)))) (by kernel_rfl) ?_
    simp only[DN,IE,jU,jT];simp -implicitDefEqProofs only[vQ,↓reduceIte,jA,jM,enP,f0,f4,f5,f7,QO hk',ldW q4 hxl,ldW q5 hyl]
    have go:∀K:AV->Hp->Prop,(∀n H1,(isW H1 (H.length+1) y∧∀K2:AV->Hp->Prop,(∀u l2 H2,((NS (x.getD k 0) (y.getD k 0)).bnd fun a=>(LQ a).bnd fun b=>(KA b t).bnd fun w=>(oOr u w).bnd fun z=>lsL (x.drop (k+1)) (y.drop (k+1)) z) l2=TOT->u<l2.length->Xt l' l2->PS bb rest l2 H2->Kb bb H' H2->K2 (iA u) H2)->ACalls ((En G).wx (X0 bb base Bad)) 144 [.ptr bb 0 0,iA n,iA (y.getD k 0)] H1 K2)->K (iA n) H1)->ACalls ((En G).wx (X0 bb base Bad)) 77 [.ptr bb 0 0,iA (x.getD k 0)] H' K:=by
     intro K hK;refine(LW G s' _ hxk).use hS hb (hk.trans k') ?_;intro n l1 H1 en hS1 s1 k1;obtain⟨x1,n1⟩:=apX s'.v hxk hxk hxk en;refine hK n H1 ⟨k1.keep _ _ q5 (by omega),fun K2 hK2=>?_⟩;refine(KX G s1 _ _ n1 (x1.lt hyk)).use hS1 hb (hk.trans (k'.trans k1)) ?_;intro u l2 H2 eu hS2 s2 k2;obtain⟨x2,u2⟩:=apX s1.v n1 (x1.lt hyk) (x1.lt hyk) eu;exact hK2 u l2 H2 hS2 u2 (x1.trans x2) s2 (k1.trans k2)
    refine⟨go _ ?_,⟨go _ ?_,⟨go _ ?_,trivial⟩,trivial⟩,trivial⟩
    all_goals
     rintro n H1 ⟨q5,hc2⟩;simp -implicitDefEqProofs only[vQ,↓reduceIte,jA,jM,enP,f5,QO hk',ldW q5 hyl];refine⟨hc2 _ ?_,trivial⟩;intro u l2 H2 hS2 u2 x2 s2 k2;simp -implicitDefEqProofs only[vQ,↓reduceIte,jA];exact⟨u,l2,hS2,u2,x2,s2,k2,by trivial,by trivial,by trivial,by trivial,by trivial,by trivial,by trivial⟩
   clear f0 f4 f5 f7 f11;rintro F H2 ⟨u,l2,hS2,u2,x2,s2,k2,f0,f4,f5,f7,f8,f9,f11⟩;have q4:=k2.keep _ _ q4 (by omega);have q5:=k2.keep _ _ q5 (by omega);have hx2:=x2.lt hxk;have hy2:=x2.lt hyk;simp -implicitDefEqProofs only[vQ];refine EW (.ones [0,1,2,3,4,5,6,7,8,11] (.alt 9 (.alt 10 (.alt 12 (.ones [13] .done) .non) .non) .non)) (by kernel_rfl) ?_;simp only[DN,IE,jU,jT];simp -implicitDefEqProofs only[vQ,BD,↓reduceIte,jA,jM,enP,f0,f4,f5,f7,f8,QO hk',ldW q4 hxl,ldW q5 hyl];refine⟨(TQ G s2 _ _ hx2 hy2).use hS2 hb (hk.trans (k'.trans k2)) ?_,trivial⟩;intro a l3 H3 ea hS3 s3 k3;obtain⟨x3,a3⟩:=apX s2.v hx2 hy2 hy2 ea;simp -implicitDefEqProofs only[vQ,↓reduceIte,jA];refine⟨(LW G s3 _ a3).use hS3 hb (hk.trans ((k'.trans k2).trans k3)) ?_,trivial⟩;intro b l4 H4 eb hS4 s4 k4;obtain⟨x4,b4⟩:=apX s3.v a3 a3 a3 eb;have t4:=(x2.trans (x3.trans x4)).lt ht;simp -implicitDefEqProofs only[vQ,↓reduceIte,jA];refine⟨(KX G s4 _ _ b4 t4).use hS4 hb (hk.trans (((k'.trans k2).trans k3).trans k4)) ?_,trivial⟩;intro w l5 H5 ew hS5 s5 k5;obtain⟨x5,w5⟩:=apX s4.v b4 t4 t4 ew;have u5:=(x3.trans (x4.trans x5)).lt u2;simp -implicitDefEqProofs only[vQ,↓reduceIte,jA,f0,f9];refine(NY G s5 _ _ u5 w5).use hS5 hb (hk.trans ((((k'.trans k2).trans k3).trans k4).trans k5)) ?_;intro z l6 H6 ez hS6 s6 k6;obtain⟨x6,z6⟩:=apX s5.v u5 w5 w5 ez;have xx:=x2.trans (x3.trans (x4.trans (x5.trans x6)));have kk:=((k3.trans k4).trans k5).trans k6;have b2:=s2.lt;simp -implicitDefEqProofs only[vQ,BD,↓reduceIte,jA,enP,f11,wrap_succ (show k<9223372036854775807 by omega)];exact⟨m-1,by omega,k+1,z,l6,by omega,hS6,ox'.go xx,oy'.go xx,z6,s6,(k'.trans k2).trans kk,kk.keep _ _ q4 (by omega),kk.keep _ _ q5 (by omega),by trivial,by trivial,by trivial,by trivial,by trivial⟩
  .have hk':k=16:=by have:=hc; simp at this; omega
   subst hk';rw[zF (show x.length<=16 by omega)] at hS;simp -implicitDefEqProofs only[vQ,↓reduceIte,jA];exact⟨t,l',hS.symm,s',k',f7⟩
 .rintro F H' ⟨t,l',e,s',k',f7⟩
  simp -implicitDefEqProofs only[vQ,BD,↓reduceIte,f7];exact⟨t,l',e,rfl,s',k'⟩
end
theorem AMB {E:Env}{f:AV}{args:List AV}{h:Hp}{K K':AV->Hp->Prop}(hk:∀v h',K v h'->K' v h')(hc:ABP E f args h K):ABP E f args h K':=by
 unfold ABP at *;split at hc
 .exact hc.mono hk
 .exact hc.mono hk
 .exact hc.elim
def CtV (G:Nat->AV)(bb:Nat)(rest:List AV)(fv:AV)(args:List AV)(H:Hp)(l:Dg){α:Type}(m:M α)(enc:α->AV):Prop :=
 ∀(base:Hp) (Bad:Prop),Kb bb base H->(m l=none->Bad)->ABP ((En G).wx (X0 bb base Bad)) fv args H fun v H'=>∃a l',m l=some (a,l')∧v=enc a∧PS bb rest l' H'∧Kb bb H H'
theorem CtV.use {G:Nat->AV}{bb:Nat}{rest:List AV}{f:AV}{args:List AV}{H:Hp}{l:Dg}{α β:Type}{m:M α}{k:α->M β}{enc:α->AV}{TOT:Option (β×Dg)}{base:Hp}{Bad:Prop}{K:AV->Hp->Prop}
  (c:CtV G bb rest f args H l m enc) (hS:(m.bnd k) l=TOT) (hb:TOT=none->Bad) (hk:Kb bb base H) (hc:∀a l' H',m l=some (a,l')->k a l'=TOT->PS bb rest l' H'->Kb bb H H'->K (enc a) H'):ABP ((En G).wx (X0 bb base Bad)) f args H K :=
 AMB (fun v H' ⟨a,l',e,hv,s,k'⟩=>by rw[hv]; exact hc a l' H' e (by rw[<-hS,NZ e]) s k') (c base Bad hk fun e=>hb (by rw[<-hS,RJ e]))
section
variable (G:Nat->AV) {bb:Nat} {rest:List AV}
theorem UD {H:Hp}{l:Dg}(s:PS bb rest l H)(x y:Wrd)(hx:x.length=16)(hy:y.length=16)(ox:LOk l x)(oy:LOk l y)(fv:AV)(op:Nat->Nat->M Nat)
  (hop:∀(l':Dg) (f g r:Nat) (l'':Dg),VD l'->Xt l l'->f<l'.length->g<l'.length->op f g l'=some (r,l'')->Xt l' l''∧r<l''.length)
  (hfv:∀(l':Dg) (H':Hp) (f g:Nat),PS bb rest l' H'->Xt l l'->Kb bb H H'->f<l'.length->g<l'.length->CtV G bb rest fv [iA f,iA g] H' l' (op f g) iA):Ct G bb rest 82 [wA x,wA y,fv] H l (pr2 op x y) wA:=by
 intro base Bad hk hb;generalize hT:pr2 op x y l=TOT at hb;refine acN Tryz.func82 rfl ?_;show awp _ _ _ _ _ (EK _ [.cell 6 74] _);simp -implicitDefEqProofs only[vQ,BD,↓reduceIte,jA,enP,QR _ hx,QR _ hy,TT];generalize hX:H++[ABlk.live 16 [cW x]]++[ABlk.live 16 [cW y]]++[ABlk.live 16 [cW (jJ 16 0)]]=X;have hxe:ext H X:=by rw[<-hX]; exact(((ext.rfl' H).app _).app _).app _
 have q3:isW X H.length x:=by rw[<-hX]; exact BO (BO (CU _ _))
 have q4:isW X (H.length+1) y:=by rw[<-hX]; exact BO (HY (by simp))
 have q6:isW X (H.length+2) (jJ 16 0):=by rw[<-hX]; exact HY (by simp)
 have sX:=s.ext hxe;have kX:=Kb.ofExt (bb:=bb) hxe;have e1:(H++[ABlk.live 16 [cW x]]).length=H.length+1:=by simp
 have e2:(H++[ABlk.live 16 [cW x]]++[ABlk.live 16 [cW y]]).length=H.length+2:=by simp
 rw[e1,e2];have sl:=s.lt;refine GI 0 (fun F H'=>∃d l',d.length=16∧TOT=some (d,l')∧PS bb rest l' H'∧Kb bb H H'∧isW H' H.length d∧(∃z:Wrd,z.length=16∧isW H' (H.length+2) z)∧F 3=.ptr H.length 0 0∧F 6=.ptr (H.length+2) 0 0) (fun _ _=>False) ?_ ?_ (fun _ _ q=>q.elim)
 .refine D7 (fun m F H'=>∃k d l',m+k=16∧d.length=k∧((pr2 op (x.drop k) (y.drop k)).bnd fun r=>ret (d++r)) l'=TOT∧Xt l l'∧PS bb rest l' H'∧Kb bb H H'∧isW H' H.length (d++x.drop k)∧isW H' (H.length+1) y∧(∃z:Wrd,z.length=16∧isW H' (H.length+2) z) ∧
   F 2=fv∧F 3=.ptr H.length 0 0∧F 4=.ptr (H.length+1) 0 0∧F 6=.ptr (H.length+2) 0 0∧F 8=.int .i64 (k:Nat)) 16
   ⟨0,[],l,rfl,rfl,by rw[<-hT]; exact J4 _ _,Xt.rfl' l,sX,kX,q3,q4,⟨_,by simp,q6⟩,by simp -implicitDefEqProofs only[vQ,↓reduceIte,jA],by simp -implicitDefEqProofs only[AA,↓reduceIte,jA],by simp -implicitDefEqProofs only[AA,↓reduceIte,jA],by simp -implicitDefEqProofs only[AA,↓reduceIte,jA],by simp -implicitDefEqProofs only[AA,↓reduceIte]; rfl⟩ ?_
  clear q3 q4 q6 sX kX;rintro m F H' ⟨k,d,l',hm,hd,hS,xl,s',k',q3,q4,⟨z,hz,q6⟩,f2,f3,f4,f6,f8⟩;simp -implicitDefEqProofs only[vQ,BD,↓reduceIte,enP,f8,MN];refine C9 (fun hc=>?_) (fun hc=>?_)
  .have hk':k<16:=by simpa using hc
   have hxl:k<x.length:=by omega
   have hyl:k<y.length:=by omega
   have hxk:=(ox.go xl).getD hxl;have hyk:=(oy.go xl).getD hyl;rw[IU hxl] at hS q3;rw[IU hyl] at hS
   have hS:((op (x.getD k 0) (y.getD k 0)).bnd fun g=>(pr2 op (x.drop (k+1)) (y.drop (k+1))).bnd fun r=>ret ((d++[g])++r)) l'=TOT:=by
    rw[<-hS];show _=(((op (x.getD k 0) (y.getD k 0)).bnd fun g=>(pr2 op (x.drop (k+1)) (y.drop (k+1))).bnd fun s=>ret (g::s)).bnd fun r=>ret (d++r)) l';rw[G9];refine congrFun (congrArg (M.bnd _) (funext fun g=>?_)) l';rw[G9];refine congrArg (M.bnd _) (funext fun r=>?_);show ret ((d++[g])++r)=ret (d++(g::r));rw[zJ]; rfl
   have hlq:k<(d++x.getD k 0::x.drop (k+1)).length:=by simp [hd]
   have hld:=ldW q3 (i:=k) hlq;rw[QE hd] at hld;simp -implicitDefEqProofs only[vQ,BD,↓reduceIte,jA,f8];refine EW (.ones [0,1,2,3,4,5,6,7] (.alt 8 (.ones [9,10] .done) .non)) (by kernel_rfl) ?_;simp only[DN,IE,jU,jT];simp -implicitDefEqProofs only[vQ,BD,↓reduceIte,jA,jM,enP,f2,f3,f4,QO hk',hld,ldW q4 hyl];refine⟨(hfv l' H' _ _ s' xl k' hxk hyk).use hS hb (hk.trans k') ?_,trivial⟩;intro g l1 H1 eg hS1 s1 k1;obtain⟨x1,g1⟩:=hop l' _ _ g l1 s'.v xl hxk hyk eg;have b1:=s'.lt;have kl:=k'.len;have q3:=k1.keep _ _ q3 (by omega);have q4:=k1.keep _ _ q4 (by omega);have q6:=k1.keep _ _ q6 (by omega);have hst:=stW (n:=g) q3 (i:=k) hlq;rw[set_mid hd] at hst;simp -implicitDefEqProofs only[vQ,BD,↓reduceIte,jA,enP,jO,f3,f8,QO hk',hst,wrap_succ (show k<9223372036854775807 by omega)];refine⟨m-1,by omega,k+1,d++[g],l1,by omega,by simp [hd],hS1,xl.trans x1,s1.set (by omega) _,(k'.trans k1).setN (by omega) _,DX q3,?_,⟨z,hz,?_⟩,by trivial,by trivial,by trivial,by trivial,by trivial⟩
   .unfold isW; rw[jS (by omega)]; exact q4
   .unfold isW; rw[jS (by omega)]; exact q6
  .have hk':k=16:=by have:=hc; simp at this; omega
   subst hk';rw[zF (show x.length<=16 by omega)] at hS q3;have hS:ret (d++[]) l'=TOT:=hS;rw[jD] at hS q3;simp -implicitDefEqProofs only[vQ,↓reduceIte,jA];exact⟨d,l',hd,hS.symm,s',k',q3,⟨z,hz,q6⟩,f3,f6⟩
 .rintro F H' ⟨d,l',hd,e,s',k',q3,⟨z,hz,q6⟩,f3,f6⟩
  simp -implicitDefEqProofs only[vQ,BD,↓reduceIte,jA,enP,jO,f3,f6,IJ q3 hd,U7 q6 hz hd];rw[I8 _ _ _ _ _ _ _ _ _ (show _=AV.ptr (H.length+2) 0 0 by first|exact f6|(simp -implicitDefEqProofs only[f6])),IJ (DX q6) hd];exact⟨_,rfl,d,l',e,rfl,s'.set (by omega) _,k'.setN (by omega) _⟩
theorem APG {H:Hp}{l:Dg}(s:PS bb rest l H)(x:Wrd)(hx:x.length=16)(ox:LOk l x):Ct G bb rest 80 [.ptr bb 0 0,wA x] H l (onL x (cst 0)) wA:=by
 intro base Bad hk hb;generalize hT:onL x (cst 0) l=TOT at hb;refine acN Tryz.func80 rfl ?_;show awp _ _ _ _ _ (EK _ [.cell 4 74] _);simp -implicitDefEqProofs only[vQ,BD,enP,QR _ hx,TT];refine(pcX (OI G 0 (by omega) _)).use ?_;simp -implicitDefEqProofs only[vQ,BD,↓reduceIte,jA,enP,jO,TT];generalize hX0:H++[ABlk.live 16 [cW x]]++[ABlk.live 16 [cW (jJ 16 0)]]=X0';have e1:(H++[ABlk.live 16 [cW x]]).length=H.length+1:=by simp
 have e2:X0'.length=H.length+2:=by rw[<-hX0]; simp
 rw[e1,e2];have q30:isW X0' H.length x:=by rw[<-hX0]; exact BO (CU _ _)
 have q40:isW X0' (H.length+1) (jJ 16 0):=by rw[<-hX0]; exact HY (by simp)
 have hx0:ext H X0':=by rw[<-hX0]; exact((ext.rfl' H).app _).app _
 have hst0:FO Tryz.prog (X0'++[ABlk.live 16 [cW (jJ 16 0)]]) 74 (.ptr (H.length+2) 0 0) (wA (cst 0))=some (X0'++[ABlk.live 16 [cW (cst 0)]]):=by
  rw[U7 (HY e2) (by simp) (H8 0),<-e2,JP]
 simp -implicitDefEqProofs only[vQ,BD,↓reduceIte,jA,enP,hst0,IJ (BO q30) hx];generalize hX:X0'++[ABlk.live 16 [cW (cst 0)]]=X;have hxe:ext H X:=by rw[<-hX]; exact hx0.app _
 have q3:isW X H.length x:=by rw[<-hX]; exact BO q30
 have q4:isW X (H.length+1) (jJ 16 0):=by rw[<-hX]; exact BO q40
 have q5:isW X (H.length+2) (cst 0):=by rw[<-hX]; exact HY e2
 have sX:=s.ext hxe;have kX:=Kb.ofExt (bb:=bb) hxe;have sl:=s.lt;refine GI 0 (fun F H'=>∃d l',d.length=16∧TOT=some (d,l')∧PS bb rest l' H'∧Kb bb H H'∧isW H' (H.length+2) d∧(∃z:Wrd,z.length=16∧isW H' (H.length+1) z)∧F 4=.ptr (H.length+1) 0 0∧F 5=.ptr (H.length+2) 0 0) (fun _ _=>False) ?_ ?_ (fun _ _ q=>q.elim)
 .refine D7 (fun m F H'=>∃k d l',m+k=16∧d.length=16∧LOk l' d∧onL (x.drop k) d l'=TOT∧LOk l' x∧PS bb rest l' H'∧Kb bb H H'∧isW H' (H.length+2) d∧(∃z:Wrd,z.length=16∧isW H' (H.length+1) z) ∧
   F 0=.ptr bb 0 0∧F 4=.ptr (H.length+1) 0 0∧F 5=.ptr (H.length+2) 0 0∧F 9=wA x∧F 10=.int .i64 (k:Nat)) 16
   ⟨0,cst 0,l,rfl,H8 0,LOk.cst s.v 0,hT,ox,sX,kX,q5,⟨_,by simp,q4⟩,by simp -implicitDefEqProofs only[vQ,↓reduceIte,jA],by simp -implicitDefEqProofs only[AA,↓reduceIte,jA],by simp -implicitDefEqProofs only[AA,↓reduceIte,jA],by simp -implicitDefEqProofs only[AA,↓reduceIte,jA],by simp -implicitDefEqProofs only[AA,↓reduceIte]; rfl⟩ ?_
  clear q3 q4 q5 sX kX;rintro m F H' ⟨k,d,l',hm,hd,od,hS,ox',s',k',q5,⟨z,hz,q4⟩,f0,f4,f5,f9,f10⟩;simp -implicitDefEqProofs only[vQ,BD,↓reduceIte,enP,f10,MN];refine C9 (fun hc=>?_) (fun hc=>?_)
  .have hk':k<16:=by simpa using hc
   have hxl:k<x.length:=by omega
   have hxk:=ox'.getD hxl;rw[IU hxl] at hS;have hS:((PI d (sgl (x.getD k 0)) 0).bnd fun s'=>onL (x.drop (k+1)) s') l'=TOT:=hS;simp -implicitDefEqProofs only[vQ,BD,NI,↓reduceIte,jA,enP,f9,f10,A18 hk' hx];refine EW (.ones [0,2,3,1] (.alt 4 (.ones [5] .done) (.non))) (by kernel_rfl) ?_;simp only[DN,IE,jU,jT];simp -implicitDefEqProofs only[vQ,BD,↓reduceIte,jA,jM,enP,jO,f0,f5,IJ q5 hd];refine⟨_,pcX (J7 G (x.getD k 0) H'),?_⟩;refine⟨(YP G s' d (sgl (x.getD k 0)) 0 hd (JQ _) od (LOk.sgl s'.v hxk) s'.v.p0).use hS hb (hk.trans k') ?_,trivial⟩;intro r l1 H1 er hS1 s1 k1;obtain⟨v1,x1,_,⟨r1,r2⟩,_⟩:=PY d (sgl (x.getD k 0)) l' 0 s'.v (by rw[hd]; rfl) od (LOk.sgl s'.v hxk) s'.v.p0 r l1 er;have b1:=s'.lt;have kl:=k'.len;have q5:=k1.keep _ _ q5 (by omega);have q4:=k1.keep _ _ q4 (by omega);simp -implicitDefEqProofs only[vQ,BD,↓reduceIte,jA,f5,U7 q5 hd (show r.length=16 by omega),f10,wrap_succ (show k<9223372036854775807 by omega)];refine⟨m-1,by omega,k+1,r,l1,by omega,by omega,r2,hS1,ox'.go x1,s1.set (by omega) _,(k'.trans k1).setN (by omega) _,DX q5,⟨z,hz,?_⟩,by trivial,by trivial,by trivial,by trivial,by trivial⟩;unfold isW; rw[jS (by omega)]; exact q4
  .have hk':k=16:=by have:=hc; simp at this; omega
   subst hk';rw[zF (show x.length<=16 by omega)] at hS;simp -implicitDefEqProofs only[vQ,↓reduceIte,jA];exact⟨d,l',hd,hS.symm,s',k',q5,⟨z,hz,q4⟩,f4,f5⟩
 .rintro F H' ⟨d,l',hd,e,s',k',q5,⟨z,hz,q4⟩,f4,f5⟩
  simp -implicitDefEqProofs only[vQ,BD,↓reduceIte,jA,enP,jO,f4,f5,IJ q5 hd,U7 q4 hz hd];rw[I8 _ _ _ _ _ _ _ _ _ (show _=AV.ptr (H.length+1) 0 0 by first|exact f4|(simp -implicitDefEqProofs only[f4])),IJ (DX q4) hd];exact⟨_,rfl,d,l',e,rfl,s'.set (by omega) _,k'.setN (by omega) _⟩
end
end Go.Proofs.YtgnoolgeijmlaaaGreatDoor.Bl
