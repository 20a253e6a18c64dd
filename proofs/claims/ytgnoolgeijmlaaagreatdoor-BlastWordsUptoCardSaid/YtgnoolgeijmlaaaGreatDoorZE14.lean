/- Part 14 of the proof (D4, Gp, Gq, Gr, Gs, Gt, Gu, Gv, Gw, Gx, Gy, Gz); no condition. -/
import Derived.Test.YtgnoolgeijmlaaaGreatDoorZE13
set_option linter.unusedVariables false
namespace Go.Proofs.YtgnoolgeijmlaaaGreatDoor.Bl
open Sm Bins Cov Xe Wd Go.Proofs.YtgnoolgeijmlaaaGreatDoor.Bd Go.RowKit
open Int renaming eq_ofNat_of_zero_le→qM,toNat_natCast→qV
open List renaming getD_eq_getElem?_getD→zM,mem_append→qE,mem_singleton→wB,getElem?_eq_getElem→jX
theorem AGK {v:Vr}(h:vrE v=0):JI v.name=true∧1<=v.width∧v.width<=8∧0<=v.mode∧v.mode<=2∧0<=v.value∧v.value<2^v.width.toNat∧(v.mode≠0->v.value=0):=by
 unfold vrE at h;by_cases hv:JI v.name=true
 .rw[if_pos hv] at h
  have hb:NH v=false:=by
   cases hb:NH v
   .rfl
   .rw[hb] at h; simp at h
  unfold NH at hb;simp only[Bool.or_eq_false_iff,decide_eq_false_iff_not,Bool.and_eq_false_iff] at hb;obtain⟨⟨⟨⟨⟨⟨h1,h2⟩,h3⟩,h4⟩,h5⟩,h6⟩,h7⟩:=hb;refine⟨hv,by omega,by omega,by omega,by omega,by omega,by omega,fun hm=>?_⟩;rcases h7 with q|q
  .simp at q; omega
  .simpa using q
 .rw[if_neg hv] at h; exact absurd h (by decide)
structure PV (p:Pr):Prop where
 len:p.vars.length<=16
 vr:∀v∈p.vars,vrE v=0
 nd:∀(i:Nat) (hi:i<p.vars.length),plc (p.vars.take i) p.vars[i].name<0
 bits:L6 p.vars<=20
 g:gOK p.vars p.groups=true
theorem PV.of {p:Pr}(h:NJ p=0):PV p:=by
 unfold NJ at h
 have h1:LY p.vars=0:=by
  by_cases q:LY p.vars=0
  .exact q
  .rw[if_pos q] at h; exact absurd h q
 rw[if_neg (by simpa using h1)] at h
 have h2:LP p.vars (p.hard++p.soft)=0:=by
  by_cases q:LP p.vars (p.hard++p.soft)=0
  .exact q
  .rw[if_pos q] at h; exact absurd h q
 rw[if_neg (by simpa using h2)] at h
 have h3:OH p.vars p.dists=0:=by
  by_cases q:OH p.vars p.dists=0
  .exact q
  .rw[if_pos q] at h; exact absurd h q
 rw[if_neg (by simpa using h3)] at h
 have h4:gOK p.vars p.groups=true:=by
  cases q:gOK p.vars p.groups
  .rw[q] at h; simp at h
  .rfl
 unfold LY at h1;have a1:¬p.vars.length>16:=fun q=>by rw[if_pos q] at h1; exact absurd h1 (by decide)
 rw[if_neg a1] at h1
 have a2:PG vrE p.vars=0:=by
  by_cases q:PG vrE p.vars=0
  .exact q
  .rw[if_pos q] at h1; exact absurd h1 q
 rw[if_neg (by simpa using a2)] at h1
 have a3:AHN p.vars=false:=by
  cases q:AHN p.vars
  .rfl
  .rw[q] at h1; simp at h1
 rw[if_neg (by rw[a3]; decide)] at h1
 have a4:(p.vars.any fun v=>PE p.vars v.name)=false:=by
  cases q:(p.vars.any fun v=>PE p.vars v.name)
  .rfl
  .rw[if_pos q] at h1; exact absurd h1 (by decide)
 rw[if_neg (by rw[a4]; decide)] at h1;have a5:¬L6 p.vars>20:=fun q=>by rw[if_pos q] at h1; exact absurd h1 (by decide)
 refine⟨by omega,fun v hv=>WH a2 v hv,fun i hi=>?_,by omega,h4⟩;have:=of_decide_eq_false a3;have q:¬0<=plc (p.vars.take i) p.vars[i].name:=fun q=>this ⟨⟨i,hi⟩,q⟩
 omega
def wd (vs:List Vr)(x:Int):Int:=match vs[x.toNat]? with|some v=>v.width|none=>0
def lvP (vs:List Vr)(s:List Int×Int)(x:Int):List Int×Int:=(s.1.set x.toNat s.2,s.2+wd vs x)
def lvS (vs:List Vr)(xs:List Int):List Int×Int:=xs.foldl (lvP vs) (List.replicate vs.length (-1),0)
def KN (p:Pr):List Int:=(lvS p.vars (flG p.groups)).1
theorem Y4 (vs:List Vr)(xs:List Int)(x:Int):lvS vs (xs++[x])=lvP vs (lvS vs xs) x:=by unfold lvS; rw[List.foldl_append]; rfl
theorem ACG (vs:List Vr)(xs:List Int):(lvS vs xs).1.length=vs.length:=by
 have:∀(xs:List Int) (s:List Int×Int),(xs.foldl (lvP vs) s).1.length=s.1.length:=by
  intro xs
  induction xs with
  | nil=>intro s; rfl
  | cons x xs ih=>intro s; rw[List.foldl_cons,ih]; unfold lvP; simp
 unfold lvS;rw[this]; simp
theorem AQ5 {α:Type}{P:List α->Prop}(h0:P [])(h1:∀xs x,P xs->P (xs++[x]))(xs:List α):P xs:=by
 have:∀n (xs:List α),xs.length=n->P xs:=by
  intro n
  induction n with
  | zero=>intro xs h; rw[List.eq_nil_of_length_eq_zero h]; exact h0
  | succ n ih =>
    intro xs h;have hne:xs≠[]:=fun e=>by rw[e] at h; simp at h
    rw[<-List.dropLast_concat_getLast hne];exact h1 _ _ (ih _ (by simp; omega))
 exact this _ _ rfl
structure LvI (vs:List Vr) (xs:List Int):Prop where
 nx:(lvS vs xs).2=(xs.map (wd vs)).sum
 n0:0<=(lvS vs xs).2
 ins:∀x∈xs,0<=(lvS vs xs).1.getD x.toNat 0∧(lvS vs xs).1.getD x.toNat 0+wd vs x<=(lvS vs xs).2
 apart:∀x∈xs,∀y∈xs,x≠y->(lvS vs xs).1.getD x.toNat 0+wd vs x<=(lvS vs xs).1.getD y.toNat 0∨(lvS vs xs).1.getD y.toNat 0+wd vs y<=(lvS vs xs).1.getD x.toNat 0
theorem AJJ {l:List Int}{i:Nat}(h:i<l.length)(x:Int):(l.set i x).getD i 0=x:=by
 rw[zM,List.getElem?_set,if_pos rfl,if_pos h]; rfl
theorem getD_set_ne {l:List Int}{i j:Nat}(h:i≠j)(x:Int):(l.set i x).getD j 0=l.getD j 0:=by
 rw[zM,zM,List.getElem?_set_ne h]
theorem lvI (vs:List Vr)(hw:∀x,0<=wd vs x)(xs:List Int):(∀x∈xs,0<=x∧x<vs.length)->(∀x,xs.count x<=1)->LvI vs xs:=by
 refine AQ5 (P:=fun xs:List Int=>(∀x∈xs,0<=x∧x<vs.length)->(∀x,xs.count x<=1)->LvI vs xs) ?_ ?_ xs
 .intro _ _
  exact⟨rfl,Int.le_refl _,fun _ h=>(by cases h),fun _ h=>(by cases h)⟩
 .intro xs x ih hin hct
  have hin':∀y∈xs,0<=y∧y<vs.length:=fun y hy=>hin y (List.mem_append_left _ hy)
  have I:=ih hin' fun y=>by have:=hct y; rw[List.count_append] at this; omega
  have hx:=hin x (by simp)
  have hnx:x ∉ xs:=fun q=>by
   have:=hct x;rw[List.count_append] at this;have h1:=List.count_pos_iff.2 q;simp at this; omega
  have hl:x.toNat<(lvS vs xs).1.length:=by rw[ACG]; omega
  have hne:∀y∈xs,x.toNat≠y.toNat:=fun y hy e=>by
   have:=(hin' y hy).1;have:x=y:=by omega
   exact hnx (this▸hy)
  have e1:(lvS vs (xs++[x])).2=(lvS vs xs).2+wd vs x:=by rw[Y4]; rfl
  have e2:(lvS vs (xs++[x])).1.getD x.toNat 0=(lvS vs xs).2:=by rw[Y4]; exact AJJ hl _
  have e3:∀y∈xs,(lvS vs (xs++[x])).1.getD y.toNat 0=(lvS vs xs).1.getD y.toNat 0:=fun y hy=>by rw[Y4]; exact getD_set_ne (hne y hy) _
  have hwx:=hw x;refine⟨?_,?_,?_,?_⟩
  .rw[e1,I.nx,List.map_append,List.sum_append]; simp
  .rw[e1]; have:=I.n0; omega
  .intro y hy
   rcases qE.1 hy with q|q
   .rw[e3 y q,e1]; have:=I.ins y q; omega
   .rw[wB] at q; subst q; rw[e2,e1]; have:=I.n0; omega
  .intro y hy z hz hyz
   rcases qE.1 hy with q|q<;>rcases qE.1 hz with r|r
   .rw[e3 y q,e3 z r]; exact I.apart y q z r hyz
   .rw[wB] at r; subst r
    rw[e3 y q,e2]; exact .inl (I.ins y q).2
   .rw[wB] at q; subst q
    rw[e3 z r,e2]; exact .inr (I.ins z r).2
   .rw[wB] at q r; exact absurd (q.trans r.symm) hyz
def TG (g:Nat->Int):Nat->Int
 | 0=>0
 | k+1=>TG g k+g k
theorem AIK (g h:Nat->Int):∀n,TG (fun i=>g i+h i) n=TG g n+TG h n
 | 0=>rfl
 | k+1=>by simp only[TG]; rw[AIK g h k]; omega
theorem XI {g h:Nat->Int}:∀n,(∀i,i<n->g i=h i)->TG g n=TG h n
 | 0,_=>rfl
 | k+1,e=>by simp only[TG]; rw[XI k (fun i hi=>e i (by omega)),e k (by omega)]
theorem AIJ (f:Nat->Int)(x:Nat):∀n,TG (fun i=>if i=x then f i else 0) n=if x<n then f x else 0
 | 0=>by simp [TG]
 | k+1=>by
   simp only[TG];rw[AIJ f x k];by_cases h:x<k
   .rw[if_pos h,if_neg (by omega),if_pos (by omega)]; omega
   .rw[if_neg h]
    by_cases h2:k=x
    .rw[if_pos h2,if_pos (by omega),h2]; omega
    .rw[if_neg h2,if_neg (by omega)]; omega
theorem AFF (f:Int->Int)(n:Nat):∀xs:List Int,(∀x∈xs,0<=x∧x<n)->(xs.map f).sum=TG (fun i=>(xs.count ((i:Nat):Int):Int)*f (i:Nat)) n
 | [],_=>by
   have:∀n,TG (fun i=>((([]:List Int).count ((i:Nat):Int):Nat):Int)*f (i:Nat)) n=0:=fun n=>by
    induction n with
    | zero=>rfl
    | succ n ih=>simp only[TG]; rw[ih]; simp
   rw[this]; rfl
 | x::xs,h=>by
   have ih:=AFF f n xs fun y hy=>h y (List.mem_cons_of_mem _ hy)
   obtain⟨h0,h1⟩:=h x (by simp);obtain⟨k,rfl⟩:=qM h0
   have e:TG (fun i=>((((k:Nat):Int)::xs).count ((i:Nat):Int):Int)*f (i:Nat)) n=TG (fun i=>((xs.count ((i:Nat):Int):Int)*f (i:Nat))+(if i=k then f (i:Nat) else 0)) n:=by
    refine XI n fun i _=>?_
    rw[List.count_cons];by_cases q:i=k
    .subst q
     rw[if_pos rfl];simp only[beq_self_eq_true,if_true];rw[Int.natCast_add,Int.add_mul]; simp
    .rw[if_neg q,if_neg (by simpa using fun e:(k:Int)=i=>q (by omega))]; simp
   rw[e,AIK,AIJ (fun i=>f (i:Nat)) k n,if_pos (by omega),<-ih,List.map_cons,List.sum_cons]; omega
theorem AF6 (vs:List Vr):∀n,n<=vs.length->L6 (vs.take n)=TG (fun i=>match vs[i]? with|some v=>if v.mode=0 then 0 else v.width|none=>0) n
 | 0,_=>by simp [L6,TG]
 | k+1,h=>by
   rw[UQ (show k<vs.length by omega),AF6 vs k (by omega)];simp only[TG,jX (show k<vs.length by omega)]
theorem AAP {l:List Vr}{gs:List Gp}(h:gOK l gs=true):(∀x∈flG gs,0<=x∧x<l.length)∧∀(i:Nat) (hi:i<l.length),(flG gs).count ((i:Nat):Int)=if l[i].mode=0 then 0 else 1:=by
 obtain⟨_,h2,h3⟩:=of_decide_eq_true h;exact⟨h2,fun i hi=>h3 ⟨i,hi⟩⟩
theorem PV.wd {p:Pr}(h:PV p)(x:Int):0<=Bl.wd p.vars x:=by
 unfold Bl.wd;split
 .rename_i v hv
  have:=(AGK (h.vr v (List.mem_of_getElem? hv))).2.1;omega
 .exact Int.le_refl _
theorem PV.ct {p:Pr}(h:PV p)(x:Int):(flG p.groups).count x<=1:=by
 obtain⟨h1,h2⟩:=AAP h.g;by_cases hx:x∈flG p.groups
 .obtain⟨a,b⟩:=h1 x hx
  obtain⟨k,rfl⟩:=qM a;rw[h2 k (by omega)]; split<;>omega
 .rw[List.count_eq_zero.2 hx]; omega
theorem PV.lv {p:Pr}(h:PV p):LvI p.vars (flG p.groups):=lvI p.vars h.wd _ (AAP h.g).1 h.ct
theorem PV.tot {p:Pr}(h:PV p):(lvS p.vars (flG p.groups)).2<=20:=by
 obtain⟨h1,h2⟩:=AAP h.g;rw[h.lv.nx,AFF (Bl.wd p.vars) p.vars.length _ h1];have:=AF6 p.vars p.vars.length (Nat.le_refl _);rw[List.take_length] at this
 have e:TG (fun i=>((flG p.groups).count ((i:Nat):Int):Int)*Bl.wd p.vars (i:Nat)) p.vars.length=L6 p.vars:=by
  rw[this];refine XI _ fun i hi=>?_
  rw[h2 i hi];unfold Bl.wd;simp only[qV,jX hi];split<;>simp
 rw[e];exact h.bits
theorem PV.mem {p:Pr}(h:PV p){i:Nat}(hi:i<p.vars.length)(hm:p.vars[i].mode≠0):((i:Nat):Int)∈flG p.groups:=by
 refine List.count_pos_iff.1 ?_;rw[(AAP h.g).2 i hi,if_neg hm]; omega
theorem AZE {a:Nat}(h:a<=8):(2:Int)^a<=256:=by
 have:a=0∨a=1∨a=2∨a=3∨a=4∨a=5∨a=6∨a=7∨a=8:=by omega
 rcases this with rfl|rfl|rfl|rfl|rfl|rfl|rfl|rfl|rfl<;>decide
theorem PV.pok {p:Pr}(h:PV p):POk p (KN p):=fun i hi=>by
 obtain⟨_,w1,w8,_,_,v0,v1,_⟩:=AGK (h.vr _ (List.getElem_mem hi));refine⟨fun _=>⟨v0,?_⟩,fun hm=>?_⟩
 .have:=AZE (show p.vars[i].width.toNat<=8 by omega); omega
 .have hin:=h.lv.ins _ (h.mem hi hm)
  have ht:=h.tot;have e:Bl.wd p.vars ((i:Nat):Int)=p.vars[i].width:=by unfold Bl.wd; simp only[qV,jX hi]
  rw[e] at hin;simp only[qV] at hin;refine⟨w1,w8,hin.1,?_⟩;have:=hin.2;unfold KN; omega
theorem Y3 (p:Pr):(KN p).length=p.vars.length:=ACG _ _
end Go.Proofs.YtgnoolgeijmlaaaGreatDoor.Bl
set_option linter.unusedSimpArgs false
set_option maxRecDepth 8000
namespace Go.Proofs.YtgnoolgeijmlaaaGreatDoor.Bl
open Sm Bins Cov Xe Wd Go.Proofs.YtgnoolgeijmlaaaGreatDoor.Bd Go.RowKit
open Bool renaming not_false→jC,not_true→jZ,or_false→jV
open Int renaming eq_ofNat_of_zero_le→qM,toNat_natCast→qV
open List renaming getD_eq_getElem?_getD→zM,getElem?_eq_getElem→jX,replicate→jJ,getElem?_eq_none→zO,map_cons→jF,map_nil→jE,append_nil→jD,length_map→jR,getElem?_set_ne→jS,take_zero→qC,take_succ_eq_append_getElem→qK,append_assoc→zJ,getElem_mem→zC,length_append→zT,length_cons→zZ,length_take→zX,take_of_length_le→zH,getElem?_cons_zero→jT,getElem?_cons_succ→jU,getElem?_append_left→zS,nil_append→qA,length_set→zY,contains_cons→jW,contains_nil→jI,drop_eq_getElem_cons→zU,drop_eq_nil_of_le→zF,mem_singleton→wB
open Nat renaming zero_add→jG,le_of_ble_eq_true→jH,reduceEqDiff→jA,le_refl→jP,add_zero→jL,reduceAdd→jM,reduceBEq→jK
open Option renaming getD_some→jB,getD_none→jO
abbrev isI (H:Hp)(b:Nat)(xs:List Int):Prop:=H[b]?=some (.live 1 (xs.map qencI))
theorem isI.ix {H:Hp}{b:Nat}{xs:List Int}(h:isI H b xs){n i:Nat}{kk:IntKind}(hi:i<n):J8 1 H (.own b 0 n) (.int kk (i:Nat))=some (.ptr b i 0):=by rw[OZ h hi,jG]
theorem isI.ld {H:Hp}{b:Nat}{xs:List Int}(h:isI H b xs){i:Nat}(hi:i<xs.length):DF Tryz.prog H 3 (.ptr b i 0)=some (.int .i64 (xs.getD i 0)):=by
 rw[DJ ag3 h (row:=qencI xs[i]) (ACB hi),zM,jX hi]; rfl
theorem isI.st {H:Hp}{b:Nat}{xs:List Int}(h:isI H b xs){i:Nat}(hi:i<xs.length)(z:Int):FO Tryz.prog H 3 (.ptr b i 0) (.int .i64 z)=some (H.set b (.live 1 ((xs.set i z).map qencI))):=by
 rw[G7 (cs:=[.int .i64 z]) rfl sz3 h (ACB hi) (by simp [qencI]),List.map_set]; rfl
theorem cR0 (n:Nat):cR [] n=(jJ n (0:Int)).map qencI:=by
 apply List.ext_getElem?;intro i;by_cases hi:i<n
 .rw[VS _ hi,List.getElem?_map,List.getElem?_replicate,if_pos hi]; rfl
 .rw[zO (by rw[X8]; omega),zO (by simp; omega)]
theorem ANO (h:Hp)(n:Nat)(hn:n<=1048576):IX Tryz.prog true h 29 (.int .i64 (n:Int)) (.int .i64 (n:Int))=some (.own h.length 0 n,h++[.live 1 ((jJ n (0:Int)).map qencI)]):=by
 rw[A1Q h n hn,cR0]
def lvV (p:Pr):AV:=if NJ p=0 then .sl .any 1 ((KN p).map qencI) else .sl .nil 0 []
theorem AJE {n k:Nat}(hk:k<n):(jJ k (-1:Int)++jJ (n-k) 0).set k (-1)=jJ (k+1) (-1)++jJ (n-(k+1)) 0:=by
 rw[List.set_append_right _ _ (by simp),show n-k=(n-(k+1))+1 by omega,List.replicate_succ,List.replicate_succ' (n:=k)];simp
theorem PV.member {p:Pr}(h:PV p){i j:Nat}(hi:i<p.groups.length)(hj:j<p.groups[i].l.length):∃k,∃_:k<p.vars.length,p.groups[i].l[j]=(k:Nat):=by
 have hm:p.groups[i].l[j]∈flG p.groups:=by rw[TP hi hj]; simp
 obtain⟨a,b⟩:=(AAP h.g).1 _ hm;obtain⟨k,hk⟩:=qM a;exact⟨k,by omega,hk⟩
theorem PV.nx {p:Pr}(h:PV p)(xs ys:List Int)(e:flG p.groups=xs++ys):0<=(lvS p.vars xs).2∧(lvS p.vars xs).2<=20:=by
 have I:LvI p.vars xs:=lvI p.vars h.wd xs (fun x hx=>(AAP h.g).1 x (by rw[e]; exact List.mem_append_left _ hx)) fun x=>by
  have:=h.ct x;rw[e,List.count_append] at this; omega
 refine⟨I.n0,?_⟩;have t:=h.tot;rw[h.lv.nx,e,List.map_append,List.sum_append] at t;rw[I.nx]
 have:∀zs:List Int,0<=(zs.map (Bl.wd p.vars)).sum:=fun zs=>by
  induction zs with
  | nil=>exact Int.le_refl _
  | cons z zs ih=>rw[jF,List.sum_cons]; have:=h.wd z; omega
 have:=this ys;omega
section
variable (G:Nat->AV)
set_option maxHeartbeats 4000000 in
theorem VI (hG:GOk G)(p:Pr)(hs:PrS p)(h:Hp):PCall (En G) 11 [.agg (EE p)] h (lvV p):=by
 refine ACalls.pure 2 (R:=fun v H=>ext h H∧((NJ p≠0∧v=.sl .nil 0 [])∨(NJ p=0∧∃b,h.length<=b∧v=.own b 0 (KN p).length∧isI H b (KN p)))) ?_ ?H
 case H =>
  rintro v H ⟨hx,⟨h1,rfl⟩|⟨h1,b,hb,rfl,q⟩⟩
  .exact⟨hx,by unfold lvV; rw[if_neg h1]; rfl⟩
  .exact⟨hx,by unfold lvV; rw[if_pos h1]; exact UK (d:=0) AWF hb q⟩
 refine acN Tryz.func11 rfl ?_;show awp _ _ _ _ _ (EK _ [.tmp 2] _);have ge:=CU h (ABlk.live 5 [EE p]);have hxx:ext h (h++[ABlk.live 5 [EE p]]):=(ext.rfl' h).app _;simp -implicitDefEqProofs only[vQ,BD,↓reduceIte,jA,enP,UN];have hge:h.length<(h++[ABlk.live 5 [EE p]]).length:=by simp
 generalize h++[ABlk.live 5 [EE p]]=hb at ge hxx hge|-;have ldp:DF Tryz.prog hb 27 (.ptr h.length 0 0)=some (.agg (EE p)):=by rw[GV UY TF ge (row:=EE p) rfl (by rw[JE]; exact jP 5)]; rfl
 simp -implicitDefEqProofs only[vQ,BD,↓reduceIte,ldp];refine(ACV G hG p hs hb).use ?_;simp -implicitDefEqProofs only[vQ,BD,↓reduceIte,enP];refine C9 (fun hc=>?_) (fun hc=>?_)
 .simp -implicitDefEqProofs only[vQ,BD,↓reduceIte]
  exact⟨hxx,.inl ⟨by simpa using hc,by trivial⟩⟩
 have h0:NJ p=0:=by simpa using hc
 have P:=PV.of h0;have l0:∀ {H:Hp},H[h.length]?=some (.live 5 [EE p])->DF Tryz.prog H 22 (.ptr h.length 0 0)=some (.sl p.vm 4 (p.vars.map FI)):=fun q=>by rw[DJ TU q (row:=EE p) rfl]; rfl
 have l4:∀ {H:Hp},H[h.length]?=some (.live 5 [EE p])->DF Tryz.prog H 25 (.ptr h.length 0 4)=some (.sl p.gm 1 (p.groups.map NV)):=fun q=>by rw[DJ AXI q (row:=EE p) rfl]; rfl
 simp -implicitDefEqProofs only[vQ,BD,JV,↓reduceIte,jA,enP,RZ,KC,Y7,l0 ge,jR,ANO hb p.vars.length hs.vars];have qa:isI (hb++[ABlk.live 1 ((jJ p.vars.length (0:Int)).map qencI)]) hb.length (jJ p.vars.length 0):=CU _ _;have ge':(hb++[ABlk.live 1 ((jJ p.vars.length (0:Int)).map qencI)])[h.length]?=some (.live 5 [EE p]):=BO ge;have hx1:ext h (hb++[ABlk.live 1 ((jJ p.vars.length (0:Int)).map qencI)]):=hxx.app _;generalize hb++[ABlk.live 1 ((jJ p.vars.length (0:Int)).map qencI)]=X at qa ge' hx1|-;generalize hb.length=ob at qa hge|-;refine GI 0 (fun F H=>isI H ob (jJ p.vars.length (-1))∧H[h.length]?=some (.live 5 [EE p])∧ext h H∧F 1=.ptr h.length 0 0∧F 3=.own ob 0 p.vars.length) (fun _ _=>False) ?_ ?_ (fun _ _ q=>q.elim)
 .refine D7 (fun n F H=>∃k,n+k=p.vars.length∧isI H ob (jJ k (-1)++jJ (p.vars.length-k) 0)∧H[h.length]?=some (.live 5 [EE p])∧ext h H∧F 1=.ptr h.length 0 0∧F 3=.own ob 0 p.vars.length∧F 18=.int .i64 (p.vars.length:Nat)∧F 19=.int .i64 (k:Nat)) p.vars.length
   ⟨0,rfl,qa,ge',hx1,by simp -implicitDefEqProofs only[AA,↓reduceIte,jA],by simp -implicitDefEqProofs only[AA,↓reduceIte,jA],by simp -implicitDefEqProofs only[AA,↓reduceIte,jA],by simp -implicitDefEqProofs only[AA,↓reduceIte]; rfl⟩ ?_
  clear qa ge' hx1 ge hxx ldp;rintro n F H ⟨k,hn,qa,ge,hx,f1,f3,f18,f19⟩;have ec:decide (((k:Nat):Int)<(p.vars.length:Nat))=decide (k<p.vars.length):=by rw[decide_eq_decide]; omega
  simp -implicitDefEqProofs only[vQ,BD,↓reduceIte,enP,f18,f19,ec];refine C9 (fun hc=>?_) (fun hc=>?_)
  .have hk:k<p.vars.length:=by simpa using hc
   have hst:=qa.st (i:=k) (by simp; omega) (-1);rw[AJE hk] at hst;simp -implicitDefEqProofs only[vQ,BD,↓reduceIte,jA,enP,KT,jO,f3,f19,qa.ix hk,hst,wrap_succ (show k<9223372036854775807 by have:=hs.vars; omega)];exact⟨n-1,by omega,k+1,by omega,DX qa,by rw[jS (by omega)]; exact ge,hx.set (by omega) _,by trivial,by trivial,by trivial,by trivial⟩
  .have hc':¬k<p.vars.length:=fun q=>by rw[decide_eq_true q] at hc; cases hc
   have hk:k=p.vars.length:=by omega
   subst hk;rw[Nat.sub_self,List.replicate_zero,jD] at qa;simp -implicitDefEqProofs only[vQ,↓reduceIte,jA];exact⟨qa,ge,hx,f1,f3⟩
 clear qa ge' hx1 ge hxx ldp;rintro F H ⟨qa,ge,hx,f1,f3⟩;simp -implicitDefEqProofs only[vQ,BD,↓reduceIte,jA,enP,AR8,AAT,f1,l4 ge,jR];refine GI 2 (fun F H=>isI H ob (KN p)∧ext h H∧F 3=.own ob 0 p.vars.length) (fun _ _=>False) ?_ ?_ (fun _ _ q=>q.elim)
 .refine D7 (fun n F H=>∃i,n+i=p.groups.length∧isI H ob (lvS p.vars (flG (p.groups.take i))).1∧H[h.length]?=some (.live 5 [EE p])∧ext h H∧F 1=.ptr h.length 0 0∧F 3=.own ob 0 p.vars.length∧F 5=.int .i64 (lvS p.vars (flG (p.groups.take i))).2∧F 27=.sl p.gm 1 (p.groups.map NV)∧F 28=.int .i64 (p.groups.length:Nat)∧F 29=.int .i64 (i:Nat)) p.groups.length
   ⟨0,rfl,qa,ge,hx,by simp -implicitDefEqProofs only[AA,↓reduceIte,jA]; exact f1,by simp -implicitDefEqProofs only[AA,↓reduceIte,jA]; exact f3,by simp -implicitDefEqProofs only[AA,↓reduceIte,jA]; rfl,by simp -implicitDefEqProofs only[AA,↓reduceIte,jA],by simp -implicitDefEqProofs only[AA,↓reduceIte,jA],by simp -implicitDefEqProofs only[AA,↓reduceIte]; rfl⟩ ?_
  clear qa ge hx f1 f3;rintro n F H ⟨i,hn,qa,ge,hx,f1,f3,f5,f27,f28,f29⟩;have ec:decide (((i:Nat):Int)<(p.groups.length:Nat))=decide (i<p.groups.length):=by rw[decide_eq_decide]; omega
  simp -implicitDefEqProofs only[vQ,BD,↓reduceIte,enP,f28,f29,ec];refine C9 (fun hc=>?_) (fun hc=>?_)
  .have hi:i<p.groups.length:=by simpa using hc
   have lg:∀H:Hp,DF Tryz.prog H 29 (.fptr 1 (p.groups.map NV) i 0)=some (.sl p.groups[i].m 1 (p.groups[i].l.map qencI)):=fun H=>by rw[FX AQD hi]; rfl
   simp -implicitDefEqProofs only[vQ,BD,↓reduceIte,jA,enP,OU,Y7,f27,f29,EZ hi,lg,jR];refine GI 4 (fun F H=>isI H ob (lvS p.vars (flG (p.groups.take (i+1)))).1∧H[h.length]?=some (.live 5 [EE p])∧ext h H∧F 1=.ptr h.length 0 0∧F 3=.own ob 0 p.vars.length∧F 5=.int .i64 (lvS p.vars (flG (p.groups.take (i+1)))).2∧F 27=.sl p.gm 1 (p.groups.map NV)∧F 28=.int .i64 (p.groups.length:Nat)∧F 29=.int .i64 (i:Nat)) (fun _ _=>False) ?_ ?_ (fun _ _ q=>q.elim)
   .refine D7 (fun m F H=>∃j,m+j=p.groups[i].l.length∧isI H ob (lvS p.vars (flG (p.groups.take i)++p.groups[i].l.take j)).1∧H[h.length]?=some (.live 5 [EE p])∧ext h H∧F 1=.ptr h.length 0 0∧F 3=.own ob 0 p.vars.length∧F 5=.int .i64 (lvS p.vars (flG (p.groups.take i)++p.groups[i].l.take j)).2∧F 27=.sl p.gm 1 (p.groups.map NV)∧F 28=.int .i64 (p.groups.length:Nat)∧F 29=.int .i64 (i:Nat) ∧
     F 33=.sl p.groups[i].m 1 (p.groups[i].l.map qencI)∧F 34=.int .i64 (p.groups[i].l.length:Nat)∧F 35=.int .i64 (j:Nat)) p.groups[i].l.length
     ⟨0,rfl,by rw[qC,jD]; exact qa,ge,hx,by simp -implicitDefEqProofs only[AA,↓reduceIte,jA]; exact f1,by simp -implicitDefEqProofs only[AA,↓reduceIte,jA]; exact f3,by rw[qC,jD]; simp -implicitDefEqProofs only[AA,↓reduceIte,jA]; exact f5,by simp -implicitDefEqProofs only[AA,↓reduceIte,jA]; exact f27,by simp -implicitDefEqProofs only[AA,↓reduceIte,jA]; exact f28,by simp -implicitDefEqProofs only[AA,↓reduceIte,jA]; exact f29,by simp -implicitDefEqProofs only[AA,↓reduceIte,jA],by simp -implicitDefEqProofs only[AA,↓reduceIte,jA],by simp -implicitDefEqProofs only[AA,↓reduceIte]; rfl⟩ ?_
    clear qa ge hx f1 f3 f5 f27 f28 f29;rintro m F H ⟨j,hm,qa,ge,hx,f1,f3,f5,f27,f28,f29,f33,f34,f35⟩;have ec2:decide (((j:Nat):Int)<(p.groups[i].l.length:Nat))=decide (j<p.groups[i].l.length):=by rw[decide_eq_decide]; omega
    simp -implicitDefEqProofs only[vQ,BD,↓reduceIte,enP,f34,f35,ec2];refine C9 (fun hc=>?_) (fun hc=>?_)
    .have hj:j<p.groups[i].l.length:=by simpa using hc
     obtain⟨k,hk,ek⟩:=P.member hi hj;have hsp:=TP hi hj;obtain⟨x0,x20⟩:=P.nx _ _ hsp
     have hap:(flG (p.groups.take i)++p.groups[i].l.take j)++[((k:Nat):Int)]=flG (p.groups.take i)++p.groups[i].l.take (j+1):=by
      rw[qK hj,ek,zJ]
     have e1:=Y4 p.vars (flG (p.groups.take i)++p.groups[i].l.take j) (k:Nat);rw[hap] at e1;have hlen:=ACG p.vars (flG (p.groups.take i)++p.groups[i].l.take j);generalize lvS p.vars (flG (p.groups.take i)++p.groups[i].l.take j)=S at qa f5 x0 x20 hlen e1;have l3:∀H:Hp,DF Tryz.prog H 3 (.fptr 1 (p.groups[i].l.map qencI) j 0)=some (.int .i64 (k:Nat)):=fun H=>by rw[FX ag3 hj,ek]; rfl
     have lw:∀H:Hp,DF Tryz.prog H 3 (.fptr 4 (p.vars.map FI) k 1)=some (.int .i64 p.vars[k].width):=fun H=>by rw[FX ag3 hk]; rfl
     have ewd:wd p.vars (k:Nat)=p.vars[k].width:=by unfold wd; simp only[qV,jX hk]
     obtain⟨_,w1,w8,_⟩:=AGK (P.vr _ (zC hk));have hst:=qa.st (i:=k) (by omega) S.2
     have jl:j<9223372036854775807:=by
      have h2:p.groups[i].l.length<=(flG p.groups).length:=by
       rw[hsp]; simp only[zT,zZ,zX,List.length_drop]; omega
      have:=hs.members; omega
     have ge':(H.set ob (.live 1 ((S.1.set k S.2).map qencI)))[h.length]?=some (.live 5 [EE p]):=by rw[jS (by omega)]; exact ge
     simp -implicitDefEqProofs only[vQ,BD,↓reduceIte,jA,enP,KT,f33,f35,EZ hj,l3];simp -implicitDefEqProofs only[vQ,BD,↓reduceIte,jA,enP,jO,f3,f5,qa.ix (show k<p.vars.length from hk),hst];simp -implicitDefEqProofs only[vQ,BD,↓reduceIte,jA,enP,QP,KC,LV,f1,f5,l0 ge',EZ hk,lw,f35,wrap_succ jl,wrap_i64 (show(-9223372036854775808:Int)<=S.2+p.vars[k].width by omega) (show S.2+p.vars[k].width<=9223372036854775807 by omega)];refine⟨m-1,by omega,j+1,by omega,?_,ge',hx.set (by omega) _,by trivial,by trivial,?_,by trivial,by trivial,by trivial,by trivial,by trivial,by trivial⟩
     .rw[e1]; unfold lvP; exact DX qa
     .rw[e1]; unfold lvP; rw[ewd]; try simp -implicitDefEqProofs only[]
    .have hc':¬j<p.groups[i].l.length:=fun q=>by rw[decide_eq_true q] at hc; cases hc
     have tk:p.groups[i].l.take j=p.groups[i].l:=zH (by omega);rw[tk,<-ZI hi] at qa f5;simp -implicitDefEqProofs only[vQ,↓reduceIte,jA];exact⟨qa,ge,hx,f1,f3,f5,f27,f28,f29⟩
   .clear qa ge hx f1 f3 f5 f27 f28 f29
    rintro F H ⟨qa,ge,hx,f1,f3,f5,f27,f28,f29⟩;simp -implicitDefEqProofs only[vQ,BD,↓reduceIte,jA,enP,f29,wrap_succ (show i<9223372036854775807 by have:=hs.groups; omega)];exact⟨n-1,by omega,i+1,by omega,qa,ge,hx,by trivial,by trivial,by trivial,by trivial,by trivial,by trivial⟩
  .have hc':¬i<p.groups.length:=fun q=>by rw[decide_eq_true q] at hc; cases hc
   rw[zH (by omega)] at qa;simp -implicitDefEqProofs only[vQ,↓reduceIte,jA];exact⟨qa,hx,f3⟩
 .clear qa ge hx f1 f3
  rintro F H ⟨qa,hx,f3⟩;simp -implicitDefEqProofs only[vQ,BD,↓reduceIte,f3];exact⟨hx,.inr ⟨h0,ob,by omega,by rw[Y3],qa⟩⟩
set_option maxHeartbeats 4000000 in
theorem ALI (p:Pr)(hs:PrS p)(h:Hp):PCall (En G) 12 [.agg (EE p)] h (lvV p):=by
 refine ACalls.pure 2 (R:=fun v H=>ext h H∧((NJ p≠0∧v=.sl .nil 0 [])∨(NJ p=0∧∃b,h.length<=b∧v=.own b 0 (KN p).length∧isI H b (KN p)))) ?_ ?H
 case H =>
  rintro v H ⟨hx,⟨h1,rfl⟩|⟨h1,b,hb,rfl,q⟩⟩
  .exact⟨hx,by unfold lvV; rw[if_neg h1]; rfl⟩
  .exact⟨hx,by unfold lvV; rw[if_pos h1]; exact UK (d:=0) AWF hb q⟩
 refine acN Tryz.func12 rfl ?_;show awp _ _ _ _ _ (EK _ [.tmp 2] _);have ge:=CU h (ABlk.live 5 [EE p]);have hxx:ext h (h++[ABlk.live 5 [EE p]]):=(ext.rfl' h).app _;simp -implicitDefEqProofs only[vQ,BD,↓reduceIte,jA,enP,UN];have hge:h.length<(h++[ABlk.live 5 [EE p]]).length:=by simp
 generalize h++[ABlk.live 5 [EE p]]=hb at ge hxx hge|-;have ldp:DF Tryz.prog hb 27 (.ptr h.length 0 0)=some (.agg (EE p)):=by rw[GV UY TF ge (row:=EE p) rfl (by rw[JE]; exact jP 5)]; rfl
 simp -implicitDefEqProofs only[vQ,BD,↓reduceIte,ldp];refine(AAG G p hs hb).use ?_;simp -implicitDefEqProofs only[vQ,BD,↓reduceIte,enP];refine C9 (fun hc=>?_) (fun hc=>?_)
 .simp -implicitDefEqProofs only[vQ,BD,↓reduceIte]
  exact⟨hxx,.inl ⟨by simpa using hc,by trivial⟩⟩
 have h0:NJ p=0:=by simpa using hc
 have P:=PV.of h0;have l0:∀ {H:Hp},H[h.length]?=some (.live 5 [EE p])->DF Tryz.prog H 22 (.ptr h.length 0 0)=some (.sl p.vm 4 (p.vars.map FI)):=fun q=>by rw[DJ TU q (row:=EE p) rfl]; rfl
 have l4:∀ {H:Hp},H[h.length]?=some (.live 5 [EE p])->DF Tryz.prog H 25 (.ptr h.length 0 4)=some (.sl p.gm 1 (p.groups.map NV)):=fun q=>by rw[DJ AXI q (row:=EE p) rfl]; rfl
 simp -implicitDefEqProofs only[vQ,BD,JV,↓reduceIte,jA,enP,RZ,KC,l0 ge,jR,ANO hb p.vars.length hs.vars];have qa:isI (hb++[ABlk.live 1 ((jJ p.vars.length (0:Int)).map qencI)]) hb.length (jJ p.vars.length 0):=CU _ _;have ge':(hb++[ABlk.live 1 ((jJ p.vars.length (0:Int)).map qencI)])[h.length]?=some (.live 5 [EE p]):=BO ge;have hx1:ext h (hb++[ABlk.live 1 ((jJ p.vars.length (0:Int)).map qencI)]):=hxx.app _;generalize hb++[ABlk.live 1 ((jJ p.vars.length (0:Int)).map qencI)]=X at qa ge' hx1|-;generalize hb.length=ob at qa hge|-;refine GI 0 (fun F H=>isI H ob (jJ p.vars.length (-1))∧H[h.length]?=some (.live 5 [EE p])∧ext h H∧F 1=.ptr h.length 0 0∧F 3=.own ob 0 p.vars.length) (fun _ _=>False) ?_ ?_ (fun _ _ q=>q.elim)
 .refine D7 (fun n F H=>∃k,n+k=p.vars.length∧isI H ob (jJ k (-1)++jJ (p.vars.length-k) 0)∧H[h.length]?=some (.live 5 [EE p])∧ext h H∧F 1=.ptr h.length 0 0∧F 3=.own ob 0 p.vars.length∧F 4=.int .i64 (k:Nat)) p.vars.length
   ⟨0,rfl,qa,ge',hx1,by simp -implicitDefEqProofs only[AA,↓reduceIte,jA],by simp -implicitDefEqProofs only[AA,↓reduceIte,jA],by simp -implicitDefEqProofs only[AA,↓reduceIte]; rfl⟩ ?_
  clear qa ge' hx1 ge hxx ldp;rintro n F H ⟨k,hn,qa,ge,hx,f1,f3,f4⟩;have ec:decide (((k:Nat):Int)<(p.vars.length:Nat))=decide (k<p.vars.length):=by rw[decide_eq_decide]; omega
  simp -implicitDefEqProofs only[vQ,BD,↓reduceIte,jA,enP,Y7,f3,f4,ec];refine C9 (fun hc=>?_) (fun hc=>?_)
  .have hk:k<p.vars.length:=by simpa using hc
   have hst:=qa.st (i:=k) (by simp; omega) (-1);rw[AJE hk] at hst;simp -implicitDefEqProofs only[vQ,BD,↓reduceIte,jA,enP,KT,jO,f3,f4,qa.ix hk,hst,wrap_succ (show k<9223372036854775807 by have:=hs.vars; omega)];exact⟨n-1,by omega,k+1,by omega,DX qa,by rw[jS (by omega)]; exact ge,hx.set (by omega) _,by trivial,by trivial,by trivial⟩
  .have hc':¬k<p.vars.length:=fun q=>by rw[decide_eq_true q] at hc; cases hc
   have hk:k=p.vars.length:=by omega
   subst hk;rw[Nat.sub_self,List.replicate_zero,jD] at qa;simp -implicitDefEqProofs only[vQ,↓reduceIte,jA];exact⟨qa,ge,hx,f1,f3⟩
 clear qa ge' hx1 ge hxx ldp;rintro F H ⟨qa,ge,hx,f1,f3⟩;simp -implicitDefEqProofs only[vQ,BD,↓reduceIte];refine GI 2 (fun F H=>isI H ob (KN p)∧ext h H∧F 3=.own ob 0 p.vars.length) (fun _ _=>False) ?_ ?_ (fun _ _ q=>q.elim)
 .refine D7 (fun n F H=>∃i,n+i=p.groups.length∧isI H ob (lvS p.vars (flG (p.groups.take i))).1∧H[h.length]?=some (.live 5 [EE p])∧ext h H∧F 1=.ptr h.length 0 0∧F 3=.own ob 0 p.vars.length∧F 5=.int .i64 (lvS p.vars (flG (p.groups.take i))).2∧F 6=.int .i64 (i:Nat)) p.groups.length
   ⟨0,rfl,qa,ge,hx,by simp -implicitDefEqProofs only[AA,↓reduceIte,jA]; exact f1,by simp -implicitDefEqProofs only[AA,↓reduceIte,jA]; exact f3,by simp -implicitDefEqProofs only[AA,↓reduceIte,jA]; rfl,by simp -implicitDefEqProofs only[AA,↓reduceIte]; rfl⟩ ?_
  clear qa ge hx f1 f3;rintro n F H ⟨i,hn,qa,ge,hx,f1,f3,f5,f6⟩;have ec:decide (((i:Nat):Int)<(p.groups.length:Nat))=decide (i<p.groups.length):=by rw[decide_eq_decide]; omega
  simp -implicitDefEqProofs only[vQ,BD,↓reduceIte,jA,enP,AR8,AAT,f1,f6,l4 ge,jR,ec];refine C9 (fun hc=>?_) (fun hc=>?_)
  .have hi:i<p.groups.length:=by simpa using hc
   have lg:∀H:Hp,DF Tryz.prog H 29 (.fptr 1 (p.groups.map NV) i 0)=some (.sl p.groups[i].m 1 (p.groups[i].l.map qencI)):=fun H=>by rw[FX AQD hi]; rfl
   simp -implicitDefEqProofs only[vQ,BD];refine GI 4 (fun F H=>isI H ob (lvS p.vars (flG (p.groups.take (i+1)))).1∧H[h.length]?=some (.live 5 [EE p])∧ext h H∧F 1=.ptr h.length 0 0∧F 3=.own ob 0 p.vars.length∧F 5=.int .i64 (lvS p.vars (flG (p.groups.take (i+1)))).2∧F 6=.int .i64 (i:Nat)) (fun _ _=>False) ?_ ?_ (fun _ _ q=>q.elim)
   .refine D7 (fun m F H=>∃j,m+j=p.groups[i].l.length∧isI H ob (lvS p.vars (flG (p.groups.take i)++p.groups[i].l.take j)).1∧H[h.length]?=some (.live 5 [EE p])∧ext h H∧F 1=.ptr h.length 0 0∧F 3=.own ob 0 p.vars.length∧F 5=.int .i64 (lvS p.vars (flG (p.groups.take i)++p.groups[i].l.take j)).2∧F 6=.int .i64 (i:Nat)∧F 7=.int .i64 (j:Nat)) p.groups[i].l.length
     ⟨0,rfl,by rw[qC,jD]; exact qa,ge,hx,by simp -implicitDefEqProofs only[AA,↓reduceIte,jA]; exact f1,by simp -implicitDefEqProofs only[AA,↓reduceIte,jA]; exact f3,by rw[qC,jD]; simp -implicitDefEqProofs only[AA,↓reduceIte,jA]; exact f5,by simp -implicitDefEqProofs only[AA,↓reduceIte,jA]; exact f6,by simp -implicitDefEqProofs only[AA,↓reduceIte]; rfl⟩ ?_
    clear qa ge hx f1 f3 f5 f6;rintro m F H ⟨j,hm,qa,ge,hx,f1,f3,f5,f6,f7⟩;have ec2:decide (((j:Nat):Int)<(p.groups[i].l.length:Nat))=decide (j<p.groups[i].l.length):=by rw[decide_eq_decide]; omega
    simp -implicitDefEqProofs only[vQ,BD,↓reduceIte,jA,enP,OU,AAT,Y7,f1,f6,f7,l4 ge,EZ hi,lg,jR,ec2];refine C9 (fun hc=>?_) (fun hc=>?_)
    .have hj:j<p.groups[i].l.length:=by simpa using hc
     obtain⟨k,hk,ek⟩:=P.member hi hj;have hsp:=TP hi hj;obtain⟨x0,x20⟩:=P.nx _ _ hsp
     have hap:(flG (p.groups.take i)++p.groups[i].l.take j)++[((k:Nat):Int)]=flG (p.groups.take i)++p.groups[i].l.take (j+1):=by
      rw[qK hj,ek,zJ]
     have e1:=Y4 p.vars (flG (p.groups.take i)++p.groups[i].l.take j) (k:Nat);rw[hap] at e1;have hlen:=ACG p.vars (flG (p.groups.take i)++p.groups[i].l.take j);generalize lvS p.vars (flG (p.groups.take i)++p.groups[i].l.take j)=S at qa f5 x0 x20 hlen e1;have l3:∀H:Hp,DF Tryz.prog H 3 (.fptr 1 (p.groups[i].l.map qencI) j 0)=some (.int .i64 (k:Nat)):=fun H=>by rw[FX ag3 hj,ek]; rfl
     have lw:∀H:Hp,DF Tryz.prog H 3 (.fptr 4 (p.vars.map FI) k 1)=some (.int .i64 p.vars[k].width):=fun H=>by rw[FX ag3 hk]; rfl
     have ewd:wd p.vars (k:Nat)=p.vars[k].width:=by unfold wd; simp only[qV,jX hk]
     obtain⟨_,w1,w8,_⟩:=AGK (P.vr _ (zC hk));have hst:=qa.st (i:=k) (by omega) S.2
     have jl:j<9223372036854775807:=by
      have h2:p.groups[i].l.length<=(flG p.groups).length:=by
       rw[hsp]; simp only[zT,zZ,zX,List.length_drop]; omega
      have:=hs.members; omega
     have ge':(H.set ob (.live 1 ((S.1.set k S.2).map qencI)))[h.length]?=some (.live 5 [EE p]):=by rw[jS (by omega)]; exact ge
     simp -implicitDefEqProofs only[vQ,BD,↓reduceIte,jA,enP,OU,AAT,KT,f1,f6,f7,l4 ge,EZ hi,lg,EZ hj,l3];simp -implicitDefEqProofs only[vQ,BD,↓reduceIte,jA,enP,jO,f3,f5,qa.ix (show k<p.vars.length from hk),hst];simp -implicitDefEqProofs only[vQ,BD,↓reduceIte,jA,enP,QP,KC,LV,f1,f5,l0 ge',EZ hk,lw,f7,wrap_succ jl,wrap_i64 (show(-9223372036854775808:Int)<=S.2+p.vars[k].width by omega) (show S.2+p.vars[k].width<=9223372036854775807 by omega)];refine⟨m-1,by omega,j+1,by omega,?_,ge',hx.set (by omega) _,by trivial,by trivial,?_,by trivial,by trivial⟩
     .rw[e1]; unfold lvP; exact DX qa
     .rw[e1]; unfold lvP; rw[ewd]; try simp -implicitDefEqProofs only[]
    .have hc':¬j<p.groups[i].l.length:=fun q=>by rw[decide_eq_true q] at hc; cases hc
     have tk:p.groups[i].l.take j=p.groups[i].l:=zH (by omega);rw[tk,<-ZI hi] at qa f5;simp -implicitDefEqProofs only[vQ,↓reduceIte,jA];exact⟨qa,ge,hx,f1,f3,f5,f6⟩
   .clear qa ge hx f1 f3 f5 f6
    rintro F H ⟨qa,ge,hx,f1,f3,f5,f6⟩;simp -implicitDefEqProofs only[vQ,BD,↓reduceIte,jA,enP,f6,wrap_succ (show i<9223372036854775807 by have:=hs.groups; omega)];exact⟨n-1,by omega,i+1,by omega,qa,ge,hx,by trivial,by trivial,by trivial,by trivial⟩
  .have hc':¬i<p.groups.length:=fun q=>by rw[decide_eq_true q] at hc; cases hc
   rw[zH (by omega)] at qa;simp -implicitDefEqProofs only[vQ,↓reduceIte,jA];exact⟨qa,hx,f3⟩
 .clear qa ge hx f1 f3
  rintro F H ⟨qa,hx,f3⟩;simp -implicitDefEqProofs only[vQ,BD,↓reduceIte,f3];exact⟨hx,.inr ⟨h0,ob,by omega,by rw[Y3],qa⟩⟩
end
theorem look_ok {H:Hp}{b:Nat}{l:List Vr}(hb:H[b]?=some (.map (nmR l 0)))(x:ByteArray):∃z:Nat,JZ Tryz.prog H 76 (.mp b) (.str x) true=some (.tup [.int .i64 (z:Nat),.bool (!decide (plc l x<0))]):=by
 have h1:=ANV hb x true;have h2:=ZF x l
 cases hx:fnm x l with
 | none =>
   rw[hx] at h1 h2;have h2:plc l x<0:=h2;exact⟨0,by rw[h1,decide_eq_true h2]; rfl⟩
 | some i =>
   rw[hx] at h1 h2;have h2:plc l x=(i:Nat):=h2.1;exact⟨i,by rw[h1,decide_eq_false (by omega)]; rfl⟩
section
variable (G:Nat->AV)
theorem AOW (p:Pr)(mb:Nat)(e:Ex)(hw:wt e<=1048576)(h:Hp)(hmb:h[mb]?=some (.map (nmR p.vars 0))):PCall (En G) 71 [.mp mb,.agg (EF e)] h (.int .i64 (plE p.vars e)):=by
 refine ACalls.pure0 rfl ?_;refine acN Tryz.func71 rfl ?_;show awp _ _ _ _ _ (EK _ [.tmp 4] _);have ge:=CU h (ABlk.live 4 [EF e]);have hmb:=BO (x:=ABlk.live 4 [EF e]) hmb;have hxx:ext h (h++[ABlk.live 4 [EF e]]):=(ext.rfl' h).app _;simp -implicitDefEqProofs only[vQ,BD,↓reduceIte,jA,enP,bxE];generalize h++[ABlk.live 4 [EF e]]=H1 at ge hxx hmb|-;generalize h.length=eb at ge|-;simp -implicitDefEqProofs only[vQ,BD,↓reduceIte,JH ge];refine(ABV G e hw _).use ?_;simp -implicitDefEqProofs only[vQ,BD,↓reduceIte,enP,Y6,jR,ATY];refine C9 (fun ha=>?_) (fun ha=>?_)
 .simp -implicitDefEqProofs only[vQ,BD,↓reduceIte]
  exact⟨by unfold plE; rw[if_pos ha],hxx⟩
 simp -implicitDefEqProofs only[vQ,BD,↓reduceIte,jA,enP,JH ge];refine(AEM G e hw _).use ?_
 have hnl:(nmL [2] [] (pre e)).length<=1048576:=by
  have h1:=ACF [2] (pre e) [];have h2:=XM e;simp at h1; omega
 have hfr:=AS0 p.vars e;generalize nmL [2] [] (pre e)=ns at hnl hfr|-;simp -implicitDefEqProofs only[vQ,BD,↓reduceIte,enP,Y6,jR];refine GI 0 (fun F H=>H=H1∧∀(j:Nat) (hj:j<ns.length),¬plc p.vars ns[j]<0) (fun F H=>F 4=.int .i64 7∧H=H1∧AAQ p.vars e=true) ?_ ?_ ?_
 .refine D7 (fun n F H=>∃i,n+i=ns.length∧F 0=.mp mb∧F 14=.sl (nm ns) 1 (ns.map encStr)∧F 15=.int .i64 (ns.length:Nat)∧F 16=.int .i64 (i:Nat)∧H=H1∧∀(j:Nat) (hj:j<ns.length),j<i->¬plc p.vars ns[j]<0) ns.length
   ⟨0,rfl,by simp -implicitDefEqProofs only[vQ,↓reduceIte,jA],by simp -implicitDefEqProofs only[AA,↓reduceIte,jA],by simp -implicitDefEqProofs only[AA,↓reduceIte,jA],by simp -implicitDefEqProofs only[AA,↓reduceIte]; rfl,rfl,fun j _ q=>by omega⟩ ?_
  rintro n F H ⟨i,hn,f0,f14,f15,f16,rfl,hall⟩;have ec:decide (((i:Nat):Int)<(ns.length:Nat))=decide (i<ns.length):=by rw[decide_eq_decide]; omega
  simp -implicitDefEqProofs only[vQ,BD,↓reduceIte,enP,f15,f16,ec];refine C9 (fun hc=>?_) (fun hc=>?_)
  .have hi:i<ns.length:=by simpa using hc
   have l9:DF Tryz.prog H 9 (.fptr 1 (ns.map encStr) i 0)=some (.str ns[i]):=by rw[FX ag9 hi]; rfl
   obtain⟨z,lk⟩:=look_ok hmb ns[i];simp -implicitDefEqProofs only[vQ,jT,jU,BD,TD,↓reduceIte,jA,enP,ALK,f0,f14,f16,EZ hi,l9,lk];refine C9 (fun hd=>?_) (fun hd=>?_)
   .simp -implicitDefEqProofs only[vQ,BD,↓reduceIte]
    refine⟨by trivial,by trivial,?_⟩;rw[<-hfr,List.any_eq_true];exact⟨ns[i],zC hi,by simpa using hd⟩
   .simp -implicitDefEqProofs only[vQ,BD,↓reduceIte,jA,enP,f16,wrap_succ (show i<9223372036854775807 by omega)]
    refine⟨n-1,by omega,i+1,by omega,by trivial,by trivial,by trivial,by trivial,by trivial,fun j hj q=>?_⟩;rcases Nat.lt_or_ge j i with q1|q1
    .exact hall j hj q1
    .obtain rfl:j=i:=by omega
     simpa using hd
  .have hc':¬i<ns.length:=fun q=>by rw[decide_eq_true q] at hc; cases hc
   simp -implicitDefEqProofs only[vQ,↓reduceIte];exact⟨by trivial,fun j hj=>hall j hj (by omega)⟩
 .rintro F H ⟨rfl,hall⟩
  simp -implicitDefEqProofs only[vQ,BD,↓reduceIte];refine⟨?_,hxx⟩
  have:AAQ p.vars e=false:=by
   rw[<-hfr,List.any_eq_false];intro x hx;obtain⟨j,hj,rfl⟩:=List.mem_iff_getElem.1 hx;simpa using hall j hj
  unfold plE; rw[ha,this]; rfl
 .rintro F H ⟨f4,rfl,hf⟩
  simp -implicitDefEqProofs only[vQ,f4];exact⟨by unfold plE; rw[ha,hf]; rfl,hxx⟩
end
def stE (R:List Rn)(p:Pr)(e:Ex):Int:=if vdR R=true then if NJ p=0 then if exE e=0 then plE p.vars e else 1 else 1 else 1
theorem A5T (m:SM)(xs:List (List AV))(p:Pr)(lm:SM)(ls:List (List AV))(mb:Nat):KD Tryz.prog 78 [(0,.agg [.sl m 3 xs]),(1,.agg (EE p)),(2,.sl lm 1 ls),(3,.mp mb)]=some (.agg (.sl m 3 xs::(EE p++[.sl lm 1 ls,.mp mb]))):=by kernel_rfl
theorem AL2 (p:Pr):(EE p).all AV.leaf=true:=rfl
structure Stt (R:List Rn) (p:Pr) (h:Hp) (bb mb:Nat) (rest:List AV) (l:Dg) (H:Hp):Prop where
 b0:h.length<=bb
 m0:h.length<=mb
 ne:mb≠bb
 r:R=l.map Nd.raw
 s:PS bb rest l H
 k:Pk p (KN p) .any mb rest
 mp:H[mb]?=some (.map (nmR p.vars 0))
section
variable (G:Nat->AV)
set_option maxHeartbeats 4000000 in
theorem ACY (hG:GOk G)(R:List Rn)(m:SM)(hR:R.length<=1048576)(p:Pr)(hs:PrS p)(e:Ex)(hw:wt e<=1048576)(h:Hp):ACalls (En G) 37 [.agg [.sl m 3 (R.map ER)],.agg (EE p),.agg (EF e)] h fun v H=>ext h H ∧
  ((stE R p e≠0∧∃u,(u=.nilp∨∃b,u=.ptr b 0 0)∧v=.tup [u,.int .i64 (stE R p e)])∨(stE R p e=0∧∃bb mb rest l,v=.tup [.ptr bb 0 0,.int .i64 0]∧Stt R p h bb mb rest l H)):=by
 refine acN Tryz.func37 rfl ?_;show awp _ _ _ _ _ (EK _ [.tmp 6,.tmp 7] _);simp -implicitDefEqProofs only[vQ,BD,SQ,↓reduceIte,jA,enP,UO,UN,bxE];generalize hX:h++[ABlk.live 1 [[.sl m 3 (R.map ER)]]]++[ABlk.live 5 [EE p]]++[ABlk.live 4 [EF e]]=X;have hx:ext h X:=by rw[<-hX]; exact(((ext.rfl' h).app _).app _).app _
 have q3:X[h.length]?=some (.live 1 [[.sl m 3 (R.map ER)]]):=by rw[<-hX]; exact BO (BO (CU _ _))
 have q4:X[h.length+1]?=some (.live 5 [EE p]):=by rw[<-hX]; exact BO (HY (by simp))
 have q5:X[h.length+2]?=some (.live 4 [EF e]):=by rw[<-hX]; exact HY (by simp)
 have e1:(h++[ABlk.live 1 [[AV.sl m 3 (R.map ER)]]]).length=h.length+1:=by simp
 have e2:(h++[ABlk.live 1 [[AV.sl m 3 (R.map ER)]]]++[ABlk.live 5 [EE p]]).length=h.length+2:=by simp
 have e3:X.length=h.length+3:=by rw[<-hX]; simp
 rw[e1,e2];clear hX;have ldp:∀ {H:Hp},H[h.length+1]?=some (.live 5 [EE p])->DF Tryz.prog H 27 (.ptr (h.length+1) 0 0)=some (.agg (EE p)):=fun q=>by rw[GV UY TF q (row:=EE p) rfl (by rw[JE]; exact jP 5)]; rfl
 simp -implicitDefEqProofs only[vQ,BD,↓reduceIte,JK q3];refine(YM G R m hR X).use ?_;cases hv:vdR R
 .have hst:stE R p e=1:=by unfold stE; rw[if_neg (by rw[hv]; decide)]
  simp -implicitDefEqProofs only[vQ,AAY,CV,BD,EY,SQ,↓reduceIte,jA];refine⟨hx,.inl ⟨by rw[hst]; decide,_,.inl rfl,by rw[hst]⟩⟩
 simp -implicitDefEqProofs only[vQ,CV,BD,↓reduceIte,jA,jZ,enP,ldp q4];refine(ACV G hG p hs X).use ?_;simp -implicitDefEqProofs only[vQ,CV,BD,↓reduceIte,jA,enP];by_cases hp0:NJ p=0
 case neg =>
  have hp:(NJ p != 0)=true:=by simpa using hp0
  have hst:stE R p e=1:=by unfold stE; rw[if_pos hv,if_neg hp0]
  simp -implicitDefEqProofs only[vQ,AAY,CV,BD,EY,SQ,↓reduceIte,jA,hp];exact⟨hx,.inl ⟨by rw[hst]; decide,_,.inl rfl,by rw[hst]⟩⟩
 have hp:(NJ p != 0)=false:=by simpa using hp0
 simp -implicitDefEqProofs only[vQ,BD,↓reduceIte,jA,enP,hp];simp -implicitDefEqProofs only[vQ,CV,BD,↓reduceIte,jA,JH q5];refine(ZO G hG e X hw).use ?_;simp -implicitDefEqProofs only[vQ,CV,BD,↓reduceIte,jA,enP];by_cases he0:exE e=0
 case neg =>
  have he:(exE e != 0)=true:=by simpa using he0
  have hst:stE R p e=1:=by unfold stE; rw[if_pos hv,if_pos hp0,if_neg he0]
  simp -implicitDefEqProofs only[vQ,AAY,BD,SQ,↓reduceIte,jA,he];exact⟨hx,.inl ⟨by rw[hst]; decide,_,.inl rfl,by rw[hst]⟩⟩
 have he:(exE e != 0)=false:=by simpa using he0
 have hst:stE R p e=plE p.vars e:=by unfold stE; rw[if_pos hv,if_pos hp0,if_pos he0]
 simp -implicitDefEqProofs only[vQ,he];have lvl0:lvV p=.sl .any 1 ((KN p).map qencI):=by unfold lvV; rw[if_pos hp0]
 obtain⟨l,vl,rfl⟩:=AXR hv;have hRm:(l.map Nd.raw).map ER=l.map DY:=WE l;rw[hRm] at q3;generalize hrest:EE p++[AV.sl .any 1 ((KN p).map qencI),.mp X.length]=rest
 have hbd:KD Tryz.prog 78 [(0,.agg [.sl m 3 (l.map DY)]),(1,.agg (EE p)),(2,.sl .any 1 ((KN p).map qencI)),(3,.mp X.length)]=some (.agg (.sl m 3 (l.map DY)::rest)):=by
  rw[<-hrest]; exact A5T _ _ _ _ _ _
 have hrl:rest.length=7:=by rw[<-hrest]; rfl
 have hbx:∀H:Hp,MG H (.agg (.sl m 3 (l.map DY)::rest))=some (.ptr H.length 0 0,H++[.live 8 [.sl m 3 (l.map DY)::rest]]):=fun H=>by
  rw[<-hrest]; exact WO (h:=H) (cs:=.sl m 3 (l.map DY)::(EE p++[AV.sl .any 1 ((KN p).map qencI),.mp X.length])) rfl
 have mkm:AEI X=some (.mp X.length,X++[.map []]):=rfl;have eX1:(X++[ABlk.map []]).length=X.length+1:=by simp
 refine UU (fun F' H'=>H'=X++[.map []]++[.live 8 [.sl m 3 (l.map DY)::rest]]∧F' 4=.ptr (h.length+1) 0 0∧F' 5=.ptr (h.length+2) 0 0∧F' 8=.ptr (X.length+1) 0 0) (fun _ _=>False) ?_ ?_ (fun _ _ q=>q.elim)
 .refine EW (.ones [2] (.alt 0 (.alt 1 (.alt 3 (.alt 4 (.ones [5,6,7] .done) (.non)) (.alt 4 (.ones [3,5,6,7] .done) (.non))) (.alt 3 (.ones [1] (.alt 4 (.ones [5,6,7] .done) (.non))) (.alt 4 (.ones [3,1,5,6,7] .done) (.non)))) (.alt 1 (.alt 0 (.alt 3 (.alt 4 (.ones [5,6,7] .done) (.non)) (.alt 4 (.ones [3,5,6,7] .done) (.non))) (.alt 3 (.ones [0] (.alt 4 (.ones [5,6,7] .done) (.non))) (.alt 4 (.ones [3,0,5,6,7] .done) (.non)))) (.alt 3 (.ones [0,1] (.alt 4 (.ones [5,6,7] .done) (.non))) (.alt 4 (.ones [3,0,1,5,6,7] .done) (.non)))))) (by kernel_rfl) ?_
  simp only[DN,IE,jU,jT];simp -implicitDefEqProofs only[vQ,YJ,V3,↓reduceIte,jA,jM,enP,ldp q4,ldp (BO q4),JK q3,JK (BO q3),mkm,AAB]
  repeat' first|exact trivial|(refine(VI G hG p hs _).use ?_; simp -implicitDefEqProofs only[vQ,AQL,↓reduceIte,jA,jM,enP,ldp q4,ldp (BO q4),JK q3,JK (BO q3),mkm,AAB,lvl0,hbd,hbx,eX1])|(refine⟨_,VI G hG p hs _,?_⟩; simp -implicitDefEqProofs only[vQ,AQL,↓reduceIte,jA,jM,ldp q4,ldp (BO q4),JK q3,JK (BO q3),mkm,AAB,lvl0,hbd,hbx,eX1])|apply And.intro
 rintro F H0 ⟨hH0,f4,f5,f8⟩;have mH0:H0[X.length]?=some (.map (nmR (p.vars.take 0) 0)):=by rw[hH0]; exact BO (CU _ _)
 have bH0:H0[X.length+1]?=some (.live 8 [.sl m 3 (l.map DY)::rest]):=by rw[hH0]; exact HY eX1
 have pH0:H0[h.length+1]?=some (.live 5 [EE p]):=by rw[hH0]; exact BO (BO q4)
 have eH0:H0[h.length+2]?=some (.live 4 [EF e]):=by rw[hH0]; exact BO (BO q5)
 have xH0:ext h H0:=by rw[hH0]; exact(hx.app _).app _
 clear hH0;have P:=PV.of hp0;have l0:∀ {H:Hp},H[h.length+1]?=some (.live 5 [EE p])->DF Tryz.prog H 22 (.ptr (h.length+1) 0 0)=some (.sl p.vm 4 (p.vars.map FI)):=fun q=>by rw[DJ TU q (row:=EE p) rfl]; rfl
 have l7:∀ {H:Hp},H[X.length+1]?=some (.live 8 [.sl m 3 (l.map DY)::rest])->DF Tryz.prog H 76 (.ptr (X.length+1) 0 7)=some (.mp X.length):=fun q=>by rw[DJ A3S q (row:=.sl m 3 (l.map DY)::rest) rfl,<-hrest]; rfl
 simp -implicitDefEqProofs only[vQ,BD,↓reduceIte,enP,RZ,KC,f4,l0 pH0,jR];refine GI 0 (fun F H=>H[X.length]?=some (.map (nmR p.vars 0))∧H[X.length+1]?=some (.live 8 [.sl m 3 (l.map DY)::rest])∧H[h.length+2]?=some (.live 4 [EF e])∧ext h H∧F 5=.ptr (h.length+2) 0 0∧F 8=.ptr (X.length+1) 0 0) (fun _ _=>False) ?_ ?_ (fun _ _ q=>q.elim)
 .refine D7 (fun n F H=>∃i,n+i=p.vars.length∧H[X.length]?=some (.map (nmR (p.vars.take i) 0))∧H[X.length+1]?=some (.live 8 [.sl m 3 (l.map DY)::rest])∧H[h.length+2]?=some (.live 4 [EF e])∧ext h H∧F 5=.ptr (h.length+2) 0 0∧F 8=.ptr (X.length+1) 0 0∧F 32=.sl p.vm 4 (p.vars.map FI)∧F 33=.int .i64 (p.vars.length:Nat)∧F 34=.int .i64 (i:Nat)) p.vars.length
   ⟨0,rfl,mH0,bH0,eH0,xH0,by simp -implicitDefEqProofs only[AA,↓reduceIte,jA]; exact f5,by simp -implicitDefEqProofs only[AA,↓reduceIte,jA]; exact f8,by simp -implicitDefEqProofs only[AA,↓reduceIte,jA],by simp -implicitDefEqProofs only[AA,↓reduceIte,jA],by simp -implicitDefEqProofs only[AA,↓reduceIte]; rfl⟩ ?_
  clear mH0 bH0 pH0 eH0 xH0 f4 f5 f8;rintro n F H ⟨i,hn,mH,bH,eH,xH,f5,f8,f32,f33,f34⟩;have ec:decide (((i:Nat):Int)<(p.vars.length:Nat))=decide (i<p.vars.length):=by rw[decide_eq_decide]; omega
  simp -implicitDefEqProofs only[vQ,BD,↓reduceIte,enP,f33,f34,ec];refine C9 (fun hc=>?_) (fun hc=>?_)
  .have hi:i<p.vars.length:=by simpa using hc
   have hlt:(p.vars.take i).length=i:=by rw[zX]; omega
   have hno:fnm p.vars[i].name (p.vars.take i)=none:=by
    have h1:=ZF p.vars[i].name (p.vars.take i);have h2:=P.nd i hi
    cases hq:fnm p.vars[i].name (p.vars.take i) with
    | none=>rfl
    | some k=>rw[hq] at h1; have:=h1.1; omega
   have qv:=CU H (ABlk.live 4 [FI p.vars[i]]);have mH':=BO (x:=ABlk.live 4 [FI p.vars[i]]) mH;have bH':=BO (x:=ABlk.live 4 [FI p.vars[i]]) bH;have eH':=BO (x:=ABlk.live 4 [FI p.vars[i]]) eH;have xH':=xH.app [ABlk.live 4 [FI p.vars[i]]];have hup:=AR4 mH' p.vars[i] hno;rw[hlt,<-qK hi] at hup;have l9:DF Tryz.prog (H++[ABlk.live 4 [FI p.vars[i]]]) 9 (.ptr H.length 0 0)=some (.str p.vars[i].name):=by rw[DJ ag9 qv rfl]; rfl
   simp -implicitDefEqProofs only[vQ,BD,↓reduceIte,jA,enP,QP,jO,f32,f34,EZ hi,ldV hi,Bd.al61,Bd.st61];refine EW (.ones [0,1,2,3,4,5,6] (.alt 7 (.done) (.non))) (by kernel_rfl) ?_;simp only[DN,IE,jU,jT];simp -implicitDefEqProofs only[vQ,BD,OM,↓reduceIte,jA,jM,enP,O1,ALW,jO,f8,f34,l7 bH',l9,hup,SB,wrap_succ (show i<9223372036854775807 by have:=hs.vars; omega)];refine⟨⟨n-1,by omega,i+1,by omega,DX mH',by rw[jS (by omega)]; exact bH',by rw[jS (by omega)]; exact eH',xH'.set (by omega) _,by trivial,by trivial,by trivial,by trivial,by trivial⟩,trivial⟩
  .have hc':¬i<p.vars.length:=fun q=>by rw[decide_eq_true q] at hc; cases hc
   rw[zH (by omega)] at mH;simp -implicitDefEqProofs only[vQ,↓reduceIte,jA];exact⟨mH,bH,eH,xH,f5,f8⟩
 .clear mH0 bH0 pH0 eH0 xH0 f4 f5 f8
  rintro F H ⟨mH,bH,eH,xH,f5,f8⟩;simp -implicitDefEqProofs only[vQ,↓reduceIte];refine GL (by kernel_rfl) ?_;simp -implicitDefEqProofs only[vQ,AAY,↓reduceIte,jA,jM,enP,ALW,f5,f8,l7 bH,JH eH];refine⟨_,AOW G p X.length e hw H mH,?_⟩;refine⟨xH,?_⟩;rw[hst];by_cases hz:plE p.vars e=0
  .refine .inr ⟨hz,X.length+1,X.length,rest,l,by rw[hz],⟨by omega,by omega,by omega,rfl,⟨⟨m,bH⟩,vl,hrl⟩,⟨hrest.symm,P.pok,Y3 p⟩,mH⟩⟩
  .exact .inl ⟨hz,_,.inr ⟨_,rfl⟩,rfl⟩
end
theorem AYM (h:Hp):J6 Tryz.prog h 107=some (.ptr h.length 0 0,h++[ABlk.live 1 [[.int .i64 0]]]):=JU (row:=[.int .i64 0]) (by kernel_rfl)
theorem A5Y (h:Hp):J6 Tryz.prog h 39=some (.ptr h.length 0 0,h++[ABlk.live 1 [[.int .i64 0]]]):=JU (row:=[.int .i64 0]) (by kernel_rfl)
theorem AXX (h:Hp)(n:Int):FO Tryz.prog (h++[ABlk.live 1 [[.int .i64 0]]]) 107 (.ptr h.length 0 0) (.agg [.int .i64 n])=some (h++[ABlk.live 1 [[.int .i64 n]]]):=by
 rw[ACZ (cs:=[.int .i64 n]) (TC rfl) A03 (CU _ _) (jP 1),OA]; rfl
theorem A0E (n:Int):WQ Tryz.prog (.ifc 107 (.agg #[.int .i64 n])) 107 true=some (.tup [.agg [.int .i64 n],.bool true]):=by kernel_rfl
theorem A0F:WQ Tryz.prog .nilifc 107 true=some (.tup [.agg [.int .i64 0],.bool false]):=by kernel_rfl
theorem A40:JD Tryz.prog 20 .neq .nilifc .nilifc=some (.bool false):=by kernel_rfl
theorem AZN {H:Hp}{b:Nat}{n:Int}(hb:H[b]?=some (.live 1 [[.int .i64 n]])):DF Tryz.prog H 39 (.ptr b 0 0)=some (.int .i64 n):=by rw[DJ ag39 hb rfl]; rfl
theorem AXW {H:Hp}{c:Nat}{v:AV}(hc:H[c]?=some (.live 1 [[v]]))(n:Int):FO Tryz.prog H 39 (.ptr c 0 0) (.int .i64 n)=some (H.set c (.live 1 [[.int .i64 n]])):=by
 rw[G7 (cs:=[.int .i64 n]) rfl sz39 hc rfl (by simp)]; rfl
def cZ:ABlk:=.live 1 [[.int .i64 0]]
def cE:ABlk:=.live 1 [[.int .i64 2]]
section
variable (G:Nat->AV)
theorem ARH (c:Nat)(h:Hp)(v:AV)(_:h[c]?=some (.live 1 [[v]])):ABH (En G) 72 [.ptr c 0 0] h none fun H=>H=h++[cZ]:=by
 refine AF3 (H:=Hint.none) (enM G) Tryz.func72 rfl (by kernel_rfl) (by kernel_rfl) (jH (by kernel_rfl)) (jH (by kernel_rfl)) rfl (jH (by kernel_rfl)) ?_;have e0:(upd (upd (L9 [AV.ptr c 0 0]) 4 (AG5 none)) 1 (AG5 none)) 0=.ptr c 0 0:=rfl;have ei:AG5 none=.nilifc:=rfl;rw[ei] at e0|-;show awp _ _ _ _ _ (fun e _ h'=>(match e with|.exit _=>False|_=>True)∧h'=h++[cZ]);simp -implicitDefEqProofs only[vQ,jT,jU,BD,AXB,AH5,↓reduceIte,jA,enP,jO,A0F,AYM,AXX,A40];exact⟨trivial,rfl⟩
theorem AVG (c:Nat)(h:Hp)(v:AV)(hc:h[c]?=some (.live 1 [[v]])):ABH (En G) 72 [.ptr c 0 0] h (some ATA) fun H=>H=(h++[cE]).set c cE:=by
 refine AF3 (H:=Hint.none) (enM G) Tryz.func72 rfl (by kernel_rfl) (by kernel_rfl) (jH (by kernel_rfl)) (jH (by kernel_rfl)) rfl (jH (by kernel_rfl)) ?_;have hc':=BO (x:=cE) hc;have ht:=CU h cE;have e0:(upd (upd (L9 [AV.ptr c 0 0]) 4 (AG5 (some ATA))) 1 (AG5 (some ATA))) 0=.ptr c 0 0:=rfl;have ei:AG5 (some ATA)=.ifc 107 (.agg #[.int .i64 2]):=rfl;rw[ei] at e0|-;show awp _ _ _ _ _ (fun e _ h'=>(match e with|.exit _=>False|_=>True)∧h'=(h++[cE]).set c cE);unfold cE at hc' ht|-;simp -implicitDefEqProofs only[vQ,jT,jU,BD,AH5,↓reduceIte,jA,enP,AWN,jO,A0E,AYM,AXX,AZN ht,AXW hc'];exact⟨trivial,trivial⟩
theorem AKE {fid:FuncId}{caps:List AV}{h:Hp}{bb:Nat}{Bad:Prop}{R1:Hp->Prop}(hlt:bb<h.length)(hdo:ACalls ((En G).wx (X0 bb (h++[cZ]) Bad)) fid caps (h++[cZ]) fun _ H=>R1 H)(hR1:∀H,R1 H->H[h.length]?=some cZ) :
  ACalls (En G) 38 [.fn (.func fid) [] caps] h fun v H=>(v=.int .i64 0∧∃H',R1 H'∧H=H'.set h.length cZ++[cZ])∨(v=.int .i64 2∧Bad∧∃H',Kb bb (h++[cZ]) H'∧H=(H'++[cE]).set h.length cE):=by
 have gc:=CU h cZ
 refine AMF (E:=En G) (X:=X0 bb (h++[cZ]) Bad) (R1:=R1) Tryz.func38 rfl (by kernel_rfl) ⟨rfl,rfl,rfl,rfl,rfl⟩ rfl
  ⟨rfl,rfl,rfl⟩ ⟨rfl,rfl,rfl⟩ ⟨rfl,rfl,rfl⟩ ⟨rfl,rfl,rfl⟩ ⟨rfl,rfl,rfl⟩ ⟨rfl,rfl,rfl⟩ (A5Y h) hdo ?_ ?_
 .intro h' r1
  have g':h'[h.length]?=some (.live 1 [[.int .i64 0]]):=hR1 h' r1;have g2:(h'.set h.length cZ)[h.length]?=some (.live 1 [[.int .i64 0]]):=DX g';refine⟨h'.set h.length cZ,AXW g' 0,?_⟩;have hd:=ARH G h.length (h'.set h.length cZ) _ g2;refine⟨hd.1,fun g w cargs S ha=>(hd.2 g w cargs S ha).mono ?_⟩;rintro e' u w' ⟨q1,q2,g3,h3,rfl,q3,q4⟩;exact⟨q1,q2,g3,_,⟨.int .i64 0,AZN (BO g2),.inl ⟨rfl,h',r1,rfl⟩⟩,q3,q4⟩
 .rintro u h' ⟨rfl,k',hb⟩
  have g':h'[h.length]?=some (.live 1 [[.int .i64 0]]):=k'.keep _ _ gc (by omega);have hd:=AVG G h.length h' _ g';refine⟨hd.1,fun g w cargs S ha=>(hd.2 g w cargs S ha).mono ?_⟩;rintro e' u w' ⟨q1,q2,g3,h3,rfl,q3,q4⟩;exact⟨q1,q2,g3,_,⟨.int .i64 2,AZN (DX (BO g')),.inr ⟨rfl,hb,h',k',rfl⟩⟩,q3,q4⟩
end
theorem EOk.of {p:Pr}{e:Ex}(h1:exE e=0)(h2:plE p.vars e=0):EOk p e:=by
 unfold plE at h2
 have ha:AB7 e=false:=by
  cases q:AB7 e
  .rfl
  .rw[q] at h2; simp at h2
 rw[ha] at h2
 have hf:AAQ p.vars e=false:=by
  cases q:AAQ p.vars e
  .rfl
  .rw[q] at h2; simp at h2
 unfold AB7 at ha;unfold AAQ at hf;rw[List.any_eq_false] at ha hf;intro x hx;have a:=ha x hx;have f:=hf x hx;unfold NT at a;unfold U2 at f;refine⟨APZ h1 x hx,?_,fun h=>?_⟩
 .simp at a; exact a
 .have:=ZF x.name p.vars
  cases hq:fnm x.name p.vars with
  | some i=>exact⟨i,rfl⟩
  | none =>
    rw[hq] at this;exact absurd (by simp [h]; exact this) f
theorem AHH {e:Ex}(h0:exE e=0):(pre e).length<=1048576:=by
 unfold exE at h0;split at h0
 .cases h0
 .rename_i q; rw[h0] at q; simp at q; omega
def QCall (E:Env)(f:FuncId)(args:List AV)(h:Hp)(Q:AV->Prop):Prop:=ACalls E.nox f args h fun v h'=>Q v∧h'=h
theorem QCall.use {E:Env}{f:FuncId}{args:List AV}{h:Hp}{Q:AV->Prop}{K:AV->Hp->Prop}(hc:QCall E f args h Q)(hk:∀r,Q r->K r h):ACalls E f args h K :=
 ACalls.mono (ACalls.ofNox hc) fun r _ ⟨e1,e2⟩=>by rw[e2]; exact hk r e1
theorem ACalls.pureQ {E:Env}{f:FuncId}{args:List AV}{h:Hp}{R:AV->Hp->Prop}{Q:AV->Prop}(d:Nat)(hc:ACalls E f args h R)
  (hk:∀v h',R v h'->ext h h'∧Q (JS h.length h' d v)) (hX:E.nox=E:=by rfl):QCall E f args h Q:=by
 unfold QCall;rw[hX];refine hc.trunc fun v h' hR=>?_
 obtain⟨⟨x,rfl⟩,hr⟩:=hk v h' hR;exact⟨d,h,rfl,fun b hb=>.inr (.inl ⟨by rw[zS hb],by rw[zS hb]⟩),hr,rfl⟩
def zD:AV:=.agg [.sl .nil 0 []]
def wI (w:Wrd):List Int:=w.map fun n:Nat=>(n:Int)
def Z9 (R:List Rn)(p:Pr)(e:Ex)(v:AV):Prop:=(stE R p e≠0∧v=.tup [zD,.sl .nil 0 [],.int .i64 (stE R p e)]) ∨
 (stE R p e=0∧∃l,R=l.map Nd.raw∧VD l∧((RV p (KN p) e l=none∧v=.tup [zD,.sl .nil 0 [],.int .i64 2])∨∃w l' m,RV p (KN p) e l=some (w,l')∧v=.tup [dgA m l',.sl .any 1 ((wI w).map qencI),.int .i64 0]))
def AUE (R:List Rn)(p:Pr)(e:Ex)(v:AV):Prop:=(stE R p e≠0∧v=.tup [zD,.int .i64 0,.int .i64 (stE R p e)]) ∨
 (stE R p e=0∧∃l,R=l.map Nd.raw∧VD l∧((AGP p (KN p) e l=none∧v=.tup [zD,.int .i64 0,.int .i64 2])∨∃t l' m,AGP p (KN p) e l=some (t,l')∧v=.tup [dgA m l',iA t,.int .i64 0]))
theorem AGQ {R:List Rn}{p:Pr}{e:Ex}(h:stE R p e=0):NJ p=0∧exE e=0∧EOk p e:=by
 unfold stE at h;split at h
 .split at h
  .split at h
   .rename_i a b c; exact⟨b,c,EOk.of c h⟩
   .cases h
  .cases h
 .cases h
structure K2 (bb wb:Nat) (H H':Hp):Prop where
 len:H.length<=H'.length
 keep:∀(k:Nat) (y:ABlk),H[k]?=some y->k≠bb->k≠wb->H'[k]?=some y
section
variable (G:Nat->AV)
theorem ldB {H:Hp}{b bb:Nat}(hb:H[b]?=some (.live 1 [[.ptr bb 0 0]])):DF Tryz.prog H 68 (.ptr b 0 0)=some (.ptr bb 0 0):=by rw[DJ AXG hb rfl]; rfl
theorem A49 {p:Pr}{e:Ex}(he:EOk p e)(hlen:(pre e).length<=1048576){bb mb:Nat}{rest:List AV}{l:Dg}{h:Hp}(s:PS bb rest l h)(hP:Pk p (KN p) .any mb rest)(hmb:h[mb]?=some (.map (nmR p.vars 0)))(nmb:mb≠bb){cb eb wb:Nat}
  (hcb:h[cb]?=some (.live 1 [[.ptr bb 0 0]])) (heb:h[eb]?=some (.live 4 [EF e])) (hwb:isW h wb zW) (nw:wb≠bb) :
  ACalls ((En G).wx (X0 bb h (RV p (KN p) e l=none))) 49 ([]++[.ptr cb 0 0,.ptr eb 0 0,.ptr wb 0 0]) h fun _ H=>∃w l',RV p (KN p) e l=some (w,l')∧w.length=16∧PS bb rest l' H∧isW H wb w∧K2 bb wb h H:=by
 refine IV (H:=Hint.none) (enM G) Tryz.func49 rfl (by kernel_rfl) (by kernel_rfl) (jH (by kernel_rfl)) ?_;show awp _ _ _ _ _ (EK _ [] _);simp -implicitDefEqProofs only[vQ,BD,qA,↓reduceIte,jA,enP,ldB hcb,JH heb];refine(word_prog G hP nmb e he hlen s hmb).use (k:=fun r=>ret r) (TOT:=RV p (KN p) e l) (J4 _ _) id (Kb.rfl' _ _) ?_;intro w l1 H1 ew _ s1 k1;have w16:=((TY (p:=p) (lvs:=KN p) hP.ok e he l s.v) w l1 ew).2.2.2.1.1;have qw:=k1.keep _ _ hwb nw;simp -implicitDefEqProofs only[vQ,AAZ,BD,↓reduceIte,jA,enP,jO,U7 qw (by rfl) w16];exact⟨w,l1,ew,w16,s1.set nw _,DX qw,⟨by rw[zY]; exact k1.len,fun k y hk n1 n2=>by rw[jS (Ne.symm n2)]; exact k1.keep k y hk n1⟩⟩
theorem A5A {p:Pr}{e:Ex}(he:EOk p e)(hlen:(pre e).length<=1048576){bb mb:Nat}{rest:List AV}{l:Dg}{h:Hp}(s:PS bb rest l h)(hP:Pk p (KN p) .any mb rest)(hmb:h[mb]?=some (.map (nmR p.vars 0)))(nmb:mb≠bb){cb eb tb:Nat}
  (hcb:h[cb]?=some (.live 1 [[.ptr bb 0 0]])) (heb:h[eb]?=some (.live 4 [EF e])) (htb:h[tb]?=some cZ) (nt:tb≠bb) (nc:cb≠bb) :
  ACalls ((En G).wx (X0 bb h (AGP p (KN p) e l=none))) 39 ([]++[.ptr cb 0 0,.ptr eb 0 0,.ptr tb 0 0]) h fun _ H=>∃t l',AGP p (KN p) e l=some (t,l')∧PS bb rest l' H∧H[tb]?=some (.live 1 [[iA t]])∧K2 bb tb h H:=by
 refine IV (H:=Hint.none) (enM G) Tryz.func39 rfl (by kernel_rfl) (by kernel_rfl) (jH (by kernel_rfl)) ?_;show awp _ _ _ _ _ (EK _ [] _);generalize hT:AGP p (KN p) e l=TOT;have hS:((RV p (KN p) e).bnd fun w=>trL w 0) l=TOT:=hT
 have fin:∀(w:Wrd) (l1:Dg) (H1:Hp),RV p (KN p) e l=some (w,l1)->PS bb rest l1 H1->Kb bb h H1->(w.length=16∧LOk l1 w)∧H1[cb]?=some (.live 1 [[.ptr bb 0 0]])∧H1[tb]?=some cZ:=fun w l1 H1 ew _ k1 =>
  ⟨((TY (p:=p) (lvs:=KN p) hP.ok e he l s.v) w l1 ew).2.2.2.1,k1.keep _ _ hcb nc,k1.keep _ _ htb nt⟩
 simp -implicitDefEqProofs only[vQ,qA,enP];refine EW (.ones [1,2] (.alt 0 (.alt 3 (.alt 4 (.ones [5] .done) .non) .non) (.alt 3 (.ones [0] (.alt 4 (.ones [5] .done) .non)) .non))) (by kernel_rfl) ?_;simp only[DN,IE,jU,jT];simp -implicitDefEqProofs only[vQ,AAZ,↓reduceIte,jA,jM,enP,jO,ldB hcb,JH heb];refine⟨⟨?_,trivial⟩,?_,trivial⟩
 all_goals
  refine(word_prog G hP nmb e he hlen s hmb).use hS (fun q=>q) (Kb.rfl' _ _) ?_;intro w l1 H1 ew hS1 s1 k1;obtain⟨⟨w16,ow⟩,hc1,ht1⟩:=fin w l1 H1 ew s1 k1;simp -implicitDefEqProofs only[vQ,↓reduceIte,jA,ldB hc1];refine⟨(OD G s1 w w16 ow).use (k:=fun r=>ret r) (by rw[J4]; exact hS1) (fun q=>q) k1 ?_,trivial⟩;intro t l2 H2 et hS2 s2 k2;have ht2:H2[tb]?=some (.live 1 [[.int .i64 0]]):=k2.keep _ _ ht1 nt
  have st3:FO Tryz.prog H2 3 (.ptr tb 0 0) (iA t)=some (H2.set tb (.live 1 [[iA t]])):=by
   rw[G7 (cs:=[iA t]) rfl sz3 ht2 rfl (by simp)]; rfl
  simp -implicitDefEqProofs only[vQ,↓reduceIte,jA,st3];have k12:=k1.trans k2;exact⟨t,l2,hS2.symm,s2.set nt _,DX ht2,⟨by rw[zY]; exact k12.len,fun k y hk n1 n2=>by rw[jS (Ne.symm n2)]; exact k12.keep k y hk n1⟩⟩
end
theorem ADV {h H:Hp}(hk:∀(k:Nat) (y:ABlk),h[k]?=some y->H[k]?=some y)(_:h.length<=H.length):ext h H:=by
 refine⟨H.drop h.length,?_⟩;apply List.ext_getElem?;intro i;by_cases hi:i<h.length
 .rw[zS hi,jX hi]
  exact hk i _ (jX hi)
 .rw[List.getElem?_append_right (by omega),List.getElem?_drop,show h.length+(i-h.length)=i by omega]
theorem AXF (h:Hp):J6 Tryz.prog h 68=some (.ptr h.length 0 0,h++[ABlk.live 1 [[.nilp]]]):=JU (row:=[.nilp]) (by kernel_rfl)
theorem AU5 (h:Hp){u:AV}(hu:u=.nilp∨∃b,u=.ptr b 0 0):FO Tryz.prog (h++[ABlk.live 1 [[.nilp]]]) 68 (.ptr h.length 0 0) u=some (h++[ABlk.live 1 [[u]]]):=by
 rcases hu with rfl|⟨b,rfl⟩
 .rw[G7 (cs:=[.nilp]) rfl A00 (CU _ _) rfl (by simp),OA]; rfl
 .rw[G7 (cs:=[.ptr b 0 0]) rfl A00 (CU _ _) rfl (by simp),OA]; rfl
theorem slA {H:Hp}{b:Nat}{w:Wrd}(hb:isW H b w)(hw:w.length=16):WP Tryz.prog H 74 (.ptr b 0 0) none none none=some (.own H.length 0 16,H.set b .dead++[.live 1 ((wI w).map qencI)]):=by
 have e:(cW w).map (fun v=>[v])=(wI w).map qencI:=by unfold cW wI; rw[List.map_map,List.map_map]; rfl
 unfold WP;simp only[AY1,hb,sz3];rw[if_pos ⟨trivial,by rw[NG,hw],by omega⟩,e]
theorem MJ (w:Wrd):(wI w).length=w.length:=by unfold wI; simp
section
variable (G:Nat->AV)
set_option maxHeartbeats 8000000 in
theorem AQF (hG:GOk G)(R:List Rn)(m:SM)(hR:R.length<=1048576)(p:Pr)(hs:PrS p)(e:Ex)(hw:wt e<=1048576)(h:Hp):QCall (En G) 20 [.agg [.sl m 3 (R.map ER)],.agg (EE p),.agg (EF e)] h (Z9 R p e):=by
 refine ACalls.pureQ 4 (R:=fun v H=>ext h H∧((Z9 R p e v∧∃k,v=.tup [zD,.sl .nil 0 [],.int .i64 k])∨(stE R p e=0∧∃l,R=l.map Nd.raw∧VD l∧∃w l' m ob,RV p (KN p) e l=some (w,l')∧h.length<=ob∧H[ob]?=some (.live 1 ((wI w).map qencI))∧v=.tup [dgA m l',.own ob 0 (wI w).length,.int .i64 0]))) ?_ ?H
 case H =>
  rintro v H ⟨hx,⟨hq,k,rfl⟩|⟨h0,l,hl,vl,w,l',m',ob,hw,ho,hb,rfl⟩⟩
  .exact⟨hx,hq⟩
  .refine⟨hx,.inr ⟨h0,l,hl,vl,.inr ⟨w,l',m',hw,?_⟩⟩⟩
   have:=UK (d:=1) (n:=h.length) AWF ho hb;show AV.tup [_,JS h.length H 3 (.own ob 0 (wI w).length),_]=_;rw[this]; rfl
 refine IV (H:=hint [34] []) (enM G) Tryz.func20 rfl (by kernel_rfl) (by kernel_rfl) (jH (by kernel_rfl)) ?_;show awp _ _ _ _ _ (EK _ [.cell 6 35,.tmp 7,.tmp 8] _);simp -implicitDefEqProofs only[vQ,jW,jI,jK,jV,BD,↓reduceIte,jA,enP,UO,UN,bxE,TB];generalize hX:h++[ABlk.live 1 [[.sl m 3 (R.map ER)]]]++[ABlk.live 5 [EE p]]++[ABlk.live 4 [EF e]]++[ABlk.live 1 [[.sl .nil 0 []]]]=X;have hx:ext h X:=by rw[<-hX]; exact((((ext.rfl' h).app _).app _).app _).app _
 have q3:X[h.length]?=some (.live 1 [[.sl m 3 (R.map ER)]]):=by rw[<-hX]; exact BO (BO (BO (CU _ _)))
 have q4:X[h.length+1]?=some (.live 5 [EE p]):=by rw[<-hX]; exact BO (BO (HY (by simp)))
 have q5:X[h.length+2]?=some (.live 4 [EF e]):=by rw[<-hX]; exact BO (HY (by simp))
 have q6:X[h.length+3]?=some (.live 1 [[.sl .nil 0 []]]):=by rw[<-hX]; exact HY (by simp)
 have e1:(h++[ABlk.live 1 [[AV.sl m 3 (R.map ER)]]]).length=h.length+1:=by simp
 have e2:(h++[ABlk.live 1 [[AV.sl m 3 (R.map ER)]]]++[ABlk.live 5 [EE p]]).length=h.length+2:=by simp
 have e3:(h++[ABlk.live 1 [[AV.sl m 3 (R.map ER)]]]++[ABlk.live 5 [EE p]]++[ABlk.live 4 [EF e]]).length=h.length+3:=by simp
 have e4:X.length=h.length+4:=by rw[<-hX]; simp
 rw[e1,e2,e3];clear hX;have ldp:DF Tryz.prog X 27 (.ptr (h.length+1) 0 0)=some (.agg (EE p)):=by rw[GV UY TF q4 (row:=EE p) rfl (by rw[JE]; exact jP 5)]; rfl
 simp -implicitDefEqProofs only[vQ,jW,jI,jK,jV,BD,↓reduceIte,jA,enP,JK q3,ldp,JH q5];refine ACalls.mono (ACY G hG R m hR p hs e hw X) ?_;rintro v H1 ⟨hx1,⟨hne,u,hu,rfl⟩|⟨h0,bb,mb,rest,l,rfl,S⟩⟩
 .have q6':=BO (x:=ABlk.live 1 [[u]]) (F8 hx1 q6)
  have hc:(stE R p e != 0)=true:=by simpa using hne
  simp -implicitDefEqProofs only[vQ,jT,jU,jW,jI,jK,jV,BD,↓reduceIte,jA,enP,jO,AXF,AU5 H1 hu,hc,VV,LZ q6'];rw[JG _ _ _ _ _ _ _ _ _ _ _ (show _=AV.ptr (h.length+3) 0 0 by simp -implicitDefEqProofs only[AA,↓reduceIte,jA]),JK (DX q6')];simp -implicitDefEqProofs only[AA,↓reduceIte,jA];exact⟨_,rfl,((hx.trans hx1).app _).set (by omega) _,.inl ⟨.inl ⟨hne,rfl⟩,_,rfl⟩⟩
 obtain⟨hv0,hx0,hok⟩:=AGQ h0;have q6:=F8 hx1 q6;have q5:=F8 hx1 q5;have l1:=CB q6;simp -implicitDefEqProofs only[vQ,jT,jU,jW,jI,jK,jV,BD,I5,↓reduceIte,jA,enP,jO,AXF,AU5 H1 (.inr ⟨bb,rfl⟩),bne_self_eq_false,TT];have hb0:=S.b0;have hm0:=S.m0;have bl:=S.s.lt;have ml:=CB S.mp;generalize hY:H1++[ABlk.live 1 [[.ptr bb 0 0]]]++[ABlk.live 16 [cW (jJ 16 0)]]=Y;have yx:ext H1 Y:=by rw[<-hY]; exact((ext.rfl' H1).app _).app _
 have q9:Y[H1.length]?=some (.live 1 [[.ptr bb 0 0]]):=by rw[<-hY]; exact BO (CU _ _)
 have q11:isW Y (H1.length+1) zW:=by rw[<-hY]; exact HY (by simp)
 have y1:(H1++[ABlk.live 1 [[AV.ptr bb 0 0]]]).length=H1.length+1:=by simp
 have y2:Y.length=H1.length+2:=by rw[<-hY]; simp
 rw[y1];clear hY;have q6:=F8 yx q6;have q5:=F8 yx q5;have sY:=S.s.ext yx;have mY:=F8 yx S.mp;refine ACalls.mono (AKE G (bb:=bb) (by omega) (A49 G hok (AHH hx0) (sY.app cZ) S.k (BO mY) S.ne (BO q9) (BO q5) (BO q11) (by omega)) ?_) ?_
 .rintro H ⟨w,l',_,_,_,_,k2⟩
  exact k2.keep _ _ (CU _ _) (by omega) (by omega)
 have hkY:∀(k:Nat) (y:ABlk),h[k]?=some y->k<h.length∧(Y++[cZ])[k]?=some y:=fun k y q=>⟨CB q,BO (F8 yx (F8 hx1 (F8 hx q)))⟩
 rintro v H (⟨rfl,H',⟨w,l',ew,w16,s',qw,k2⟩,rfl⟩|⟨rfl,hbad,H',kb,rfl⟩)
 .have q6':(H'.set Y.length cZ++[cZ])[h.length+3]?=some (.live 1 [[.sl .nil 0 []]]):=BO (by rw[jS (by omega)]; exact k2.keep _ _ (BO q6) (by omega) (by omega))
  have q9':(H'.set Y.length cZ++[cZ])[H1.length]?=some (.live 1 [[.ptr bb 0 0]]):=BO (by rw[jS (by omega)]; exact k2.keep _ _ (BO q9) (by omega) (by omega));have qw':isW (H'.set Y.length cZ++[cZ]) (H1.length+1) w:=BO (by rw[jS (by omega)]; exact qw);have s':=(s'.set (c:=Y.length) (by omega) cZ).app cZ
  have hkH:∀(k:Nat) (y:ABlk),h[k]?=some y->(H'.set Y.length cZ++[cZ])[k]?=some y:=fun k y q=>by
   obtain⟨a,b⟩:=hkY k y q;exact BO (by rw[jS (by omega)]; exact k2.keep _ _ b (by omega) (by omega))
  have hlH:h.length<(H'.set Y.length cZ++[cZ]).length:=by have:=CB q6'; omega
  generalize H'.set Y.length cZ++[cZ]=Z at q6' q9' qw' s' hkH hlH|-;obtain⟨m',hbb⟩:=s'.b
  have ldd:∀ {H:Hp},H[bb]?=some (.live 8 [.sl m' 3 (l'.map DY)::rest])->DF Tryz.prog H 35 (.ptr bb 0 0)=some (.agg [.sl m' 3 (l'.map DY)]):=fun q=>by
   rw[GV AXH AO1 q (row:=.sl m' 3 (l'.map DY)::rest) rfl (by simp)]; rfl
  have hld:=ldd hbb;have zl:=CB q6';have zw:=CB qw';simp -implicitDefEqProofs only[vQ,jW,jI,jK,jV,BD,↓reduceIte,enP,bne_self_eq_false];refine EW (.alt 0 (.ones [1,2] (.alt 3 (.alt 4 (.ones [5,6,7] .done) (.alt 5 (.alt 4 (.ones [6,7] .done) .non) .non)) (.alt 4 (.ones [3,5,6,7] .done) (.non)))) (.alt 4 (.ones [0,1,2,3,5,6,7] .done) (.non))) (by kernel_rfl) ?_;simp only[DN,IE,jU,jT];simp -implicitDefEqProofs only[vQ,Option.map_none,jW,jI,jK,jV,↓reduceIte,jA,jM,enP,S9,jO,ldB q9',hld,slA qw' w16,AH4];have qs:∀ {c:Nat} {y B:ABlk},Z[c]?=some y->c≠H1.length+1->(Z.set (H1.length+1) ABlk.dead++[B])[c]?=some y:=fun q hne=>BO (by rw[jS (Ne.symm hne)]; exact q)
  have q6a:=qs (B:=.live 1 ((wI w).map qencI)) q6' (by omega);have q9a:=qs (B:=.live 1 ((wI w).map qencI)) q9' (by omega);have hlda:=ldd (qs (B:=.live 1 ((wI w).map qencI)) hbb (by omega));have st0:=LZ q6' m' 3 (l'.map DY);have st1:=LZ q6a m' 3 (l'.map DY);have sl1:=slA (H:=Z.set (h.length+3) (.live 1 [[.sl m' 3 (l'.map DY)]])) (b:=H1.length+1) (w:=w) (by unfold isW; rw[jS (by omega)]; exact qw') w16
  have fin:∀Z':Hp,(∀(k:Nat) (y:ABlk),k<h.length->Z[k]?=some y->Z'[k]?=some y)->Z.length<Z'.length->Z'[Z.length]?=some (.live 1 ((wI w).map qencI)) ->
    ext h Z'∧((Z9 R p e (.tup [.agg [.sl m' 3 (l'.map DY)],.own Z.length 0 16,.int .i64 0])∧∃k,AV.tup [.agg [.sl m' 3 (l'.map DY)],.own Z.length 0 16,.int .i64 0]=.tup [zD,.sl .nil 0 [],.int .i64 k])∨(stE R p e=0∧∃l,R=l.map Nd.raw∧VD l∧∃w l'' m ob,RV p (KN p) e l=some (w,l'')∧h.length<=ob∧Z'[ob]?=some (.live 1 ((wI w).map qencI))∧AV.tup [.agg [.sl m' 3 (l'.map DY)],.own Z.length 0 16,.int .i64 0]=.tup [dgA m l'',.own ob 0 (wI w).length,.int .i64 0])):=by
   intro Z' hk hl ho;refine⟨ADV (fun k y q=>hk k y (CB q) (hkH k y q)) (by omega),.inr ⟨h0,l,S.r,S.s.v,w,l',m',Z.length,ew,by omega,ho,?_⟩⟩;rw[MJ,w16]; rfl
  have dl:(Z.set (H1.length+1) ABlk.dead).length=Z.length:=zY;have el:(Z.set (h.length+3) (.live 1 [[.sl m' 3 (l'.map DY)]])).length=Z.length:=zY;rw[el] at sl1;simp -implicitDefEqProofs only[vQ,jW,jI,jK,jV,↓reduceIte,jA,jM,enP,S9,jO,ldB q9',ldB q9a,hld,hlda,st0,st1,slA qw' w16,sl1,AH4,and_true]
  have kA:∀(k:Nat) (y:ABlk),k<h.length->Z[k]?=some y->((Z.set (H1.length+1) ABlk.dead++[ABlk.live 1 ((wI w).map qencI)]).set (h.length+3) (.live 1 [[.sl m' 3 (l'.map DY)]]))[k]?=some y:=fun k y hk q=>by
   rw[jS (by omega)]; exact qs q (by omega)
  have oA:((Z.set (H1.length+1) ABlk.dead++[ABlk.live 1 ((wI w).map qencI)]).set (h.length+3) (.live 1 [[.sl m' 3 (l'.map DY)]]))[Z.length]?=some (.live 1 ((wI w).map qencI)):=by
   rw[jS (by omega)]; exact HY dl
  have kB:∀(k:Nat) (y:ABlk),k<h.length->Z[k]?=some y->((Z.set (h.length+3) (.live 1 [[.sl m' 3 (l'.map DY)]])).set (H1.length+1) ABlk.dead++[ABlk.live 1 ((wI w).map qencI)])[k]?=some y:=fun k y hk q=>BO (by
   rw[jS (by omega),jS (by omega)]; exact q)
  have oB:((Z.set (h.length+3) (.live 1 [[.sl m' 3 (l'.map DY)]])).set (H1.length+1) ABlk.dead++[ABlk.live 1 ((wI w).map qencI)])[Z.length]?=some (.live 1 ((wI w).map qencI)):=HY (by simp);have rB:((Z.set (h.length+3) (.live 1 [[.sl m' 3 (l'.map DY)]])).set (H1.length+1) ABlk.dead++[ABlk.live 1 ((wI w).map qencI)])[h.length+3]?=some (.live 1 [[.sl m' 3 (l'.map DY)]]):=BO (by rw[jS (by omega)]; exact DX q6');refine⟨⟨⟨?_,?_⟩,?_⟩,?_⟩
  case refine_2 =>
   rw[JG _ _ _ _ _ _ _ _ _ _ _ (show _=AV.ptr (h.length+3) 0 0 by simp -implicitDefEqProofs only[AA,↓reduceIte,jA]),JK rB];simp -implicitDefEqProofs only[AA,↓reduceIte,jA];exact⟨_,rfl,fin _ kB (by simp) oB⟩
  all_goals
   rw[JG _ _ _ _ _ _ _ _ _ _ _ (show _=AV.ptr (h.length+3) 0 0 by simp -implicitDefEqProofs only[AA,↓reduceIte,jA]),JK (DX q6a)];simp -implicitDefEqProofs only[AA,↓reduceIte,jA];exact⟨_,rfl,fin _ kA (by simp) oA⟩
 .have q6':((H'++[cE]).set Y.length cE)[h.length+3]?=some (.live 1 [[.sl .nil 0 []]]):=by
   rw[jS (by omega)]; exact BO (kb.keep _ _ (BO q6) (by omega))
  have hkH:∀(k:Nat) (y:ABlk),h[k]?=some y->((H'++[cE]).set Y.length cE)[k]?=some y:=fun k y q=>by
   obtain⟨a,b⟩:=hkY k y q;rw[jS (by omega)]; exact BO (kb.keep _ _ b (by omega))
  have hlH:h.length<((H'++[cE]).set Y.length cE).length:=by have:=CB q6'; omega
  generalize (H'++[cE]).set Y.length cE=Z at q6' hkH hlH|-;simp -implicitDefEqProofs only[vQ,jW,jI,jK,jV,BD,↓reduceIte,jA,enP,jO,show((2:Int) != 0)=true from rfl,VV,LZ q6'];rw[JG _ _ _ _ _ _ _ _ _ _ _ (show _=AV.ptr (h.length+3) 0 0 by simp -implicitDefEqProofs only[AA,↓reduceIte,jA]),JK (DX q6')];simp -implicitDefEqProofs only[AA,↓reduceIte,jA];refine⟨_,rfl,ADV (fun k y q=>by rw[jS (by have:=CB q; omega)]; exact hkH k y q) (by rw[zY]; omega),.inl ⟨.inr ⟨h0,l,S.r,S.s.v,.inl ⟨hbad,rfl⟩⟩,_,rfl⟩⟩
end
theorem A4M (h:Hp):FO Tryz.prog (h++[ABlk.live 1 [[.int .i64 0]]]) 3 (.ptr h.length 0 0) (.int .i64 0)=some (h++[ABlk.live 1 [[.int .i64 0]]]):=by
 rw[G7 (cs:=[.int .i64 0]) rfl sz3 (CU _ _) rfl (by simp),OA]; rfl
section
variable (G:Nat->AV)
set_option maxHeartbeats 8000000 in
theorem AEK (hG:GOk G)(R:List Rn)(m:SM)(hR:R.length<=1048576)(p:Pr)(hs:PrS p)(e:Ex)(hw:wt e<=1048576)(h:Hp):QCall (En G) 15 [.agg [.sl m 3 (R.map ER)],.agg (EE p),.agg (EF e)] h (AUE R p e):=by
 refine ACalls.pureQ 4 (R:=fun v H=>ext h H∧(AUE R p e v∧((∃k,v=.tup [zD,.int .i64 0,.int .i64 k])∨∃m l t,v=.tup [dgA m l,iA t,.int .i64 0]))) ?_ ?H
 case H =>
  rintro v H ⟨hx,hq,⟨k,rfl⟩|⟨m,l,t,rfl⟩⟩
  .exact⟨hx,hq⟩
  .exact⟨hx,hq⟩
 refine acN Tryz.func15 rfl ?_;show awp _ _ _ _ _ (EK _ [.cell 6 35,.tmp 7,.tmp 8] _);simp -implicitDefEqProofs only[vQ,BD,↓reduceIte,jA,enP,UO,UN,bxE,TB];generalize hX:h++[ABlk.live 1 [[.sl m 3 (R.map ER)]]]++[ABlk.live 5 [EE p]]++[ABlk.live 4 [EF e]]++[ABlk.live 1 [[.sl .nil 0 []]]]=X;have hx:ext h X:=by rw[<-hX]; exact((((ext.rfl' h).app _).app _).app _).app _
 have q3:X[h.length]?=some (.live 1 [[.sl m 3 (R.map ER)]]):=by rw[<-hX]; exact BO (BO (BO (CU _ _)))
 have q4:X[h.length+1]?=some (.live 5 [EE p]):=by rw[<-hX]; exact BO (BO (HY (by simp)))
 have q5:X[h.length+2]?=some (.live 4 [EF e]):=by rw[<-hX]; exact BO (HY (by simp))
 have q6:X[h.length+3]?=some (.live 1 [[.sl .nil 0 []]]):=by rw[<-hX]; exact HY (by simp)
 have e1:(h++[ABlk.live 1 [[AV.sl m 3 (R.map ER)]]]).length=h.length+1:=by simp
 have e2:(h++[ABlk.live 1 [[AV.sl m 3 (R.map ER)]]]++[ABlk.live 5 [EE p]]).length=h.length+2:=by simp
 have e3:(h++[ABlk.live 1 [[AV.sl m 3 (R.map ER)]]]++[ABlk.live 5 [EE p]]++[ABlk.live 4 [EF e]]).length=h.length+3:=by simp
 have e4:X.length=h.length+4:=by rw[<-hX]; simp
 rw[e1,e2,e3];clear hX;have ldp:DF Tryz.prog X 27 (.ptr (h.length+1) 0 0)=some (.agg (EE p)):=by rw[GV UY TF q4 (row:=EE p) rfl (by rw[JE]; exact jP 5)]; rfl
 simp -implicitDefEqProofs only[vQ,BD,↓reduceIte,jA,enP,JK q3,ldp,JH q5];refine ACalls.mono (ACY G hG R m hR p hs e hw X) ?_;rintro v H1 ⟨hx1,⟨hne,u,hu,rfl⟩|⟨h0,bb,mb,rest,l,rfl,S⟩⟩
 .have q6':=BO (x:=ABlk.live 1 [[u]]) (F8 hx1 q6)
  have hc:(stE R p e != 0)=true:=by simpa using hne
  simp -implicitDefEqProofs only[vQ,jT,jU,BD,↓reduceIte,jA,enP,jO,AXF,AU5 H1 hu,hc,VV,LZ q6'];rw[JG _ _ _ _ _ _ _ _ _ _ _ (show _=AV.ptr (h.length+3) 0 0 by simp -implicitDefEqProofs only[AA,↓reduceIte,jA]),JK (DX q6')];simp -implicitDefEqProofs only[AA,↓reduceIte,jA];exact⟨_,rfl,((hx.trans hx1).app _).set (by omega) _,.inl ⟨hne,rfl⟩,.inl ⟨_,rfl⟩⟩
 obtain⟨hv0,hx0,hok⟩:=AGQ h0;have q6:=F8 hx1 q6;have q5:=F8 hx1 q5;have l1:=CB q6;simp -implicitDefEqProofs only[vQ,jT,jU,BD,I5,↓reduceIte,jA,enP,jO,AXF,AU5 H1 (.inr ⟨bb,rfl⟩),bne_self_eq_false,al3,A4M];have hb0:=S.b0;have hm0:=S.m0;have bl:=S.s.lt;have ml:=CB S.mp;generalize hY:H1++[ABlk.live 1 [[.ptr bb 0 0]]]++[ABlk.live 1 [[.int .i64 0]]]=Y;have yx:ext H1 Y:=by rw[<-hY]; exact((ext.rfl' H1).app _).app _
 have q9:Y[H1.length]?=some (.live 1 [[.ptr bb 0 0]]):=by rw[<-hY]; exact BO (CU _ _)
 have q11:Y[H1.length+1]?=some cZ:=by rw[<-hY]; exact HY (by simp)
 have y1:(H1++[ABlk.live 1 [[AV.ptr bb 0 0]]]).length=H1.length+1:=by simp
 have y2:Y.length=H1.length+2:=by rw[<-hY]; simp
 rw[y1];clear hY;have q6:=F8 yx q6;have q5:=F8 yx q5;have sY:=S.s.ext yx;have mY:=F8 yx S.mp;refine ACalls.mono (AKE G (bb:=bb) (by omega) (A5A G hok (AHH hx0) (sY.app cZ) S.k (BO mY) S.ne (BO q9) (BO q5) (BO q11) (by omega) (by omega)) ?_) ?_
 .rintro H ⟨t,l',_,_,_,k2⟩
  exact k2.keep _ _ (CU _ _) (by omega) (by omega)
 have hkY:∀(k:Nat) (y:ABlk),h[k]?=some y->k<h.length∧(Y++[cZ])[k]?=some y:=fun k y q=>⟨CB q,BO (F8 yx (F8 hx1 (F8 hx q)))⟩
 rintro v H (⟨rfl,H',⟨t,l',ew,s',qw,k2⟩,rfl⟩|⟨rfl,hbad,H',kb,rfl⟩)
 .have q6':(H'.set Y.length cZ++[cZ])[h.length+3]?=some (.live 1 [[.sl .nil 0 []]]):=BO (by rw[jS (by omega)]; exact k2.keep _ _ (BO q6) (by omega) (by omega))
  have q9':(H'.set Y.length cZ++[cZ])[H1.length]?=some (.live 1 [[.ptr bb 0 0]]):=BO (by rw[jS (by omega)]; exact k2.keep _ _ (BO q9) (by omega) (by omega));have qw':(H'.set Y.length cZ++[cZ])[H1.length+1]?=some (.live 1 [[iA t]]):=BO (by rw[jS (by omega)]; exact qw);have s':=(s'.set (c:=Y.length) (by omega) cZ).app cZ
  have hkH:∀(k:Nat) (y:ABlk),h[k]?=some y->(H'.set Y.length cZ++[cZ])[k]?=some y:=fun k y q=>by
   obtain⟨a,b⟩:=hkY k y q;exact BO (by rw[jS (by omega)]; exact k2.keep _ _ b (by omega) (by omega))
  have hlH:h.length<(H'.set Y.length cZ++[cZ]).length:=by have:=CB q6'; omega
  generalize H'.set Y.length cZ++[cZ]=Z at q6' q9' qw' s' hkH hlH|-;obtain⟨m',hbb⟩:=s'.b
  have ldd:∀ {H:Hp},H[bb]?=some (.live 8 [.sl m' 3 (l'.map DY)::rest])->DF Tryz.prog H 35 (.ptr bb 0 0)=some (.agg [.sl m' 3 (l'.map DY)]):=fun q=>by
   rw[GV AXH AO1 q (row:=.sl m' 3 (l'.map DY)::rest) rfl (by simp)]; rfl
  have hld:=ldd hbb;have zl:=CB q6';have zw:=CB qw';simp -implicitDefEqProofs only[vQ,BD,↓reduceIte,enP,bne_self_eq_false];have lt3:∀ {H:Hp},H[H1.length+1]?=some (.live 1 [[iA t]])->DF Tryz.prog H 3 (.ptr (H1.length+1) 0 0)=some (iA t):=fun q=>by rw[DJ ag3 q rfl]; rfl
  have st0:=LZ q6' m' 3 (l'.map DY);have qa:(Z.set (h.length+3) (ABlk.live 1 [[.sl m' 3 (l'.map DY)]]))[H1.length+1]?=some (.live 1 [[iA t]]):=by rw[jS (by omega)]; exact qw'
  refine EW (.ones [0,1,2,3] (.alt 4 (.ones [5,6,7] .done) (.alt 5 (.ones [4,6,7] .done) (.non)))) (by kernel_rfl) ?_;simp only[DN,IE,jU,jT];simp -implicitDefEqProofs only[vQ,↓reduceIte,jA,jM,enP,S9,jO,ldB q9',hld,st0,lt3 qw',lt3 qa,and_true];refine⟨?_,?_⟩
  all_goals
   rw[JG _ _ _ _ _ _ _ _ _ _ _ (show _=AV.ptr (h.length+3) 0 0 by simp -implicitDefEqProofs only[AA,↓reduceIte,jA]),JK (DX q6')];simp -implicitDefEqProofs only[AA,↓reduceIte,jA];exact⟨_,rfl,ADV (fun k y q=>by rw[jS (by have:=CB q; omega)]; exact hkH k y q) (by rw[zY]; omega),.inr ⟨h0,l,S.r,S.s.v,.inr ⟨t,l',m',ew,rfl⟩⟩,.inr ⟨m',l',t,rfl⟩⟩
 .have q6':((H'++[cE]).set Y.length cE)[h.length+3]?=some (.live 1 [[.sl .nil 0 []]]):=by
   rw[jS (by omega)]; exact BO (kb.keep _ _ (BO q6) (by omega))
  have hkH:∀(k:Nat) (y:ABlk),h[k]?=some y->((H'++[cE]).set Y.length cE)[k]?=some y:=fun k y q=>by
   obtain⟨a,b⟩:=hkY k y q;rw[jS (by omega)]; exact BO (kb.keep _ _ b (by omega))
  have hlH:h.length<((H'++[cE]).set Y.length cE).length:=by have:=CB q6'; omega
  generalize (H'++[cE]).set Y.length cE=Z at q6' hkH hlH|-;simp -implicitDefEqProofs only[vQ,BD,↓reduceIte,jA,enP,jO,show((2:Int) != 0)=true from rfl,VV,LZ q6'];rw[JG _ _ _ _ _ _ _ _ _ _ _ (show _=AV.ptr (h.length+3) 0 0 by simp -implicitDefEqProofs only[AA,↓reduceIte,jA]),JK (DX q6')];simp -implicitDefEqProofs only[AA,↓reduceIte,jA];refine⟨_,rfl,ADV (fun k y q=>by rw[jS (by have:=CB q; omega)]; exact hkH k y q) (by rw[zY]; omega),.inr ⟨h0,l,S.r,S.s.v,.inl ⟨hbad,rfl⟩⟩,.inl ⟨_,rfl⟩⟩
end
def sE (p:Pr)(e:Ex):Int:=if NJ p=0 then if exE e=0 then plE p.vars e else 1 else 1
theorem YQ {l:Dg}(v:VD l)(p:Pr)(e:Ex):stE (l.map Nd.raw) p e=sE p e:=by unfold stE sE; rw[if_pos (AQT v)]
def AB9 (p:Pr):List Ex->Nat->Dg->Except Int (Nat×Dg)
 | [],t,l=>.ok (t,l)
 | e::es,t,l=>if sE p e≠0 then .error (sE p e) else match AGP p (KN p) e l with
   | none=>.error 2
   | some (f,l1)=>match KA t f l1 with
     | none=>.error 2
     | some (u,l2)=>AB9 p es u l2
def A0J (o:Except Int (Nat×Dg))(v:AV):Prop:=match o with
 | .error k=>v=.tup [zD,.int .i64 0,.int .i64 k]
 | .ok (t,l)=>∃m,v=.tup [dgA m l,iA t,.int .i64 0]
theorem TI:∀ {a b:Dg},a.map Nd.raw=b.map Nd.raw->a=b
 | [],[],_=>rfl
 | [],_::_,h=>by cases h
 | _::_,[],h=>by cases h
 | x::a,y::b,h=>by
   simp only[jF,List.cons.injEq] at h;rw[ANG h.1,TI h.2]
def dg0:Dg:=[nF,nT]
theorem vd0:VD dg0:=by
 refine⟨rfl,rfl,by decide,fun i n h hi=>?_,fun i j n h1 h2=>?_⟩
 .have:i<2:=QZ h
  omega
 .have a:i<2:=QZ h1
  have b:j<2:=QZ h2;rcases i with _|_|i<;>rcases j with _|_|j<;>first|rfl|omega|skip
  .cases h1; cases h2
  .cases h1; cases h2
section
variable (G:Nat->AV)
theorem AR0 (h:Hp):PCall (En G) 23 [] h (dgA .full dg0):=AI7 G h
set_option maxHeartbeats 8000000 in
theorem AUK (hG:GOk G)(p:Pr)(hs:PrS p)(es:List Ex)(sm:SM)(hl:es.length<=1048576)(hw:∀e∈es,wt e<=1048576)(h:Hp):QCall (En G) 18 [.agg (EE p),.sl sm 4 (es.map EF)] h (A0J (AB9 p es 1 dg0)):=by
 refine ACalls.pureQ 4 (R:=fun v H=>ext h H∧A0J (AB9 p es 1 dg0) v) ?_ ?H
 case H =>
  rintro v H ⟨hx,hq⟩;refine⟨hx,?_⟩;unfold A0J at hq|-
  cases ho:AB9 p es 1 dg0 with
  | error k=>rw[ho] at hq; simp only at hq|-; rw[hq]; rfl
  | ok q =>
    rw[ho] at hq;obtain⟨m,hm⟩:=hq;exact⟨m,by rw[hm]; rfl⟩
 refine acN Tryz.func18 rfl ?_;show awp _ _ _ _ _ (EK _ [.cell 4 35,.tmp 5,.tmp 6] _);generalize hO:AB9 p es 1 dg0=O;simp -implicitDefEqProofs only[vQ,BD,enP,UN,TB];refine(AR0 G _).use ?_;unfold dgA;generalize hX:h++[ABlk.live 5 [EE p]]++[ABlk.live 1 [[.sl .nil 0 []]]]=X;have hx:ext h X:=by rw[<-hX]; exact((ext.rfl' h).app _).app _
 have q2:X[h.length]?=some (.live 5 [EE p]):=by rw[<-hX]; exact BO (CU _ _)
 have q4:X[h.length+1]?=some (.live 1 [[.sl .nil 0 []]]):=by rw[<-hX]; exact HY (by simp)
 have e1:(h++[ABlk.live 5 [EE p]]).length=h.length+1:=by simp
 have e4:X.length=h.length+2:=by rw[<-hX]; simp
 rw[e1];clear hX
 have st7:FO Tryz.prog (X++[ABlk.live 1 [[.sl .nil 0 []]]]) 35 (.ptr (h.length+2) 0 0) (.agg [.sl .full 3 (dg0.map DY)])=some (X++[ABlk.live 1 [[.sl .full 3 (dg0.map DY)]]]):=by
  rw[<-e4,LZ (CU X _),JP]
 simp -implicitDefEqProofs only[vQ,BD,↓reduceIte,jA,enP,WT,jO,TB,e4,st7,jR];have q2:(X++[ABlk.live 1 [[.sl .full 3 (dg0.map DY)]]])[h.length]?=some (.live 5 [EE p]):=BO q2;have q4:(X++[ABlk.live 1 [[.sl .full 3 (dg0.map DY)]]])[h.length+1]?=some (.live 1 [[.sl .nil 0 []]]):=BO q4;have q7:(X++[ABlk.live 1 [[.sl .full 3 (dg0.map DY)]]])[h.length+2]?=some (.live 1 [[.sl .full 3 (dg0.map DY)]]):=HY e4;have hx:ext h (X++[ABlk.live 1 [[.sl .full 3 (dg0.map DY)]]]):=hx.app _;generalize X++[ABlk.live 1 [[.sl .full 3 (dg0.map DY)]]]=X at q2 q4 q7 hx|-;clear e4
 refine GI 0 (fun F H=>∃t l m,O=.ok (t,l)∧H[h.length+1]?=some (.live 1 [[.sl .nil 0 []]])∧H[h.length+2]?=some (.live 1 [[.sl m 3 (l.map DY)]])∧ext h H∧F 4=.ptr (h.length+1) 0 0∧F 7=.ptr (h.length+2) 0 0∧F 8=iA t)
  (fun F H=>∃k,O=.error k∧H[h.length+1]?=some (.live 1 [[.sl .nil 0 []]])∧ext h H∧F 4=.ptr (h.length+1) 0 0∧F 5=.int .i64 0∧F 6=.int .i64 k) ?_ ?_ ?_
 .refine D7 (fun n F H=>∃i t l m,n+i=es.length∧AB9 p (es.drop i) t l=O∧VD l∧t<l.length∧H[h.length]?=some (.live 5 [EE p])∧H[h.length+1]?=some (.live 1 [[.sl .nil 0 []]])∧H[h.length+2]?=some (.live 1 [[.sl m 3 (l.map DY)]])∧ext h H ∧
    F 2=.ptr h.length 0 0∧F 4=.ptr (h.length+1) 0 0∧F 7=.ptr (h.length+2) 0 0∧F 8=iA t∧F 15=.sl sm 4 (es.map EF)∧F 16=.int .i64 (es.length:Nat)∧F 17=.int .i64 (i:Nat)) es.length
   ⟨0,1,dg0,.full,rfl,hO,vd0,by decide,q2,q4,q7,hx,by simp -implicitDefEqProofs only[AA,↓reduceIte,jA],by simp -implicitDefEqProofs only[AA,↓reduceIte,jA],by simp -implicitDefEqProofs only[AA,↓reduceIte,jA],by simp -implicitDefEqProofs only[AA,↓reduceIte,jA]; rfl,by simp -implicitDefEqProofs only[AA,↓reduceIte,jA],by simp -implicitDefEqProofs only[AA,↓reduceIte,jA],by simp -implicitDefEqProofs only[AA,↓reduceIte]; rfl⟩ ?_
  clear q2 q4 q7 hx;rintro n F H ⟨i,t,l,m,hn,hS,vl,ht,q2,q4,q7,hx,f2,f4,f7,f8,f15,f16,f17⟩;have ec:decide (((i:Nat):Int)<(es.length:Nat))=decide (i<es.length):=by rw[decide_eq_decide]; omega
  have hl2:=CB q7;simp -implicitDefEqProofs only[vQ,BD,↓reduceIte,enP,f16,f17,ec];refine C9 (fun hc=>?_) (fun hc=>?_)
  .have hi:i<es.length:=by simpa using hc
   have hwi:=hw _ (zC hi);rw[zU hi] at hS;have mE:=GM (P:=Tryz.prog) (k:=4) (h:=H) YB RX IZ hi;generalize es[i]=e at hS hwi mE;have qe:=CU H (ABlk.live 4 [EF e]);have q2:=BO (x:=ABlk.live 4 [EF e]) q2;have q4:=BO (x:=ABlk.live 4 [EF e]) q4;have q7:=BO (x:=ABlk.live 4 [EF e]) q7;have hx:=hx.app [ABlk.live 4 [EF e]];simp -implicitDefEqProofs only[vQ,BD,↓reduceIte,jA,enP,AAO,jO,f15,f17,EZ hi,mE,AT6,AQ4 _ _ _ (show List.length [AV.int .i64 0,AV.int .i64 0,AV.str ⟨#[]⟩,AV.sl .nil 0 []]=4 from rfl)];have hl3:h.length+2<(H++[ABlk.live 4 [EF e]]).length:=by simp; omega
   have ldp:DF Tryz.prog (H++[ABlk.live 4 [EF e]]) 27 (.ptr h.length 0 0)=some (.agg (EE p)):=by rw[GV UY TF q2 (row:=EE p) rfl (by rw[JE]; exact jP 5)]; rfl
   simp -implicitDefEqProofs only[vQ,BD,↓reduceIte,jA,enP,f2,f7,JK q7,ldp,JH qe];generalize H++[ABlk.live 4 [EF e]]=H1 at qe q2 q4 q7 hx hl3 ldp|-;have hT:=AEK G hG (l.map Nd.raw) m (by rw[jR]; have:=vl.mx; omega) p hs e hwi H1;rw[WE] at hT;refine hT.use ?_
   have hS:(if sE p e≠0 then Except.error (sE p e) else match AGP p (KN p) e l with
    | none=>.error 2
    | some (f,l1)=>match KA t f l1 with
      | none=>.error 2
      | some (u,l2)=>AB9 p (es.drop (i+1)) u l2)=O:=hS
   have al:=TB H1;have sx:∀(mm:SM) (kk:Nat) (xs:List (List AV)),FO Tryz.prog (H1++[ABlk.live 1 [[.sl .nil 0 []]]]) 35 (.ptr H1.length 0 0) (.agg [.sl mm kk xs])=some (H1++[ABlk.live 1 [[.sl mm kk xs]]]):=fun mm kk xs=>by rw[LZ (CU H1 _),JP]
   rintro v (⟨hne,rfl⟩|⟨h0,l0,hl0,_,⟨hN,rfl⟩|⟨f,l1,m1,hF,rfl⟩⟩)
   .rw[YQ vl] at hne|-
    rw[if_pos hne] at hS;have hb:(sE p e != 0)=true:=by simpa using hne
    unfold zD;have q4:=BO (x:=ABlk.live 1 [[.sl .nil 0 []]]) q4;simp -implicitDefEqProofs only[vQ,jT,jU,BD,↓reduceIte,jA,enP,jO,al,sx,hb,f4,VV,LZ q4];exact⟨_,hS.symm,DX q4,(hx.app _).set (by omega) _,by trivial,by trivial,by trivial⟩
   .obtain rfl:=TI hl0
    rw[YQ vl] at h0;rw[if_neg (by simpa using h0),hN] at hS;unfold zD;have q4:=BO (x:=ABlk.live 1 [[.sl .nil 0 []]]) q4;simp -implicitDefEqProofs only[vQ,jT,jU,BD,↓reduceIte,jA,enP,jO,al,sx,show((2:Int) != 0)=true from rfl,f4,VV,LZ q4];exact⟨_,hS.symm,DX q4,(hx.app _).set (by omega) _,by trivial,by trivial,by trivial⟩
   .obtain rfl:=TI hl0
    rw[YQ vl] at h0;rw[if_neg (by simpa using h0),hF] at hS
    have hS:(match KA t f l1 with
     | none=>Except.error 2
     | some (u,l2)=>AB9 p (es.drop (i+1)) u l2)=O:=hS
    have hok:EOk p e∧NJ p=0:=by
     unfold sE at h0;split at h0
     .split at h0
      .rename_i a b; exact⟨EOk.of b h0,a⟩
      .cases h0
     .cases h0
    obtain⟨v1,x1,_,r1,_⟩:=AM7 (lvs:=KN p) (PV.of hok.2).pok hok.1 vl f l1 hF;have q2:=BO (x:=ABlk.live 1 [[.sl m1 3 (l1.map DY)]]) q2;have q4:=BO (x:=ABlk.live 1 [[.sl m1 3 (l1.map DY)]]) q4;have q7:=BO (x:=ABlk.live 1 [[.sl m1 3 (l1.map DY)]]) q7;have q11:=CU H1 (ABlk.live 1 [[.sl m1 3 (l1.map DY)]]);have hx:=hx.app [ABlk.live 1 [[.sl m1 3 (l1.map DY)]]];have hl4:h.length+2<(H1++[ABlk.live 1 [[.sl m1 3 (l1.map DY)]]]).length:=by simp; omega
    unfold dgA iA;simp -implicitDefEqProofs only[vQ,jT,jU,BD,↓reduceIte,jA,enP,jO,al,sx,bne_self_eq_false,f8,JK q11];refine(AKJ G l1 m1 v1 t f (x1.lt ht) r1 _).use ?_;generalize hM:H1++[ABlk.live 1 [[.sl m1 3 (l1.map DY)]]]=H2 at q2 q4 q7 q11 hx hl4|-
    cases hA:KA t f l1 with
    | none =>
      rw[hA] at hS;have e1:dgV none=.tup [.agg [.sl .nil 0 []],.int .i64 0,.int .i64 2]:=rfl;rw[e1];have q4':(H2.set H1.length (.live 1 [[.sl .nil 0 []]]))[h.length+1]?=some (.live 1 [[.sl .nil 0 []]]):=by rw[jS (by omega)]; exact q4
      simp -implicitDefEqProofs only[vQ,jT,jU,BD,↓reduceIte,jA,enP,jO,LZ q11,show((2:Int) != 0)=true from rfl,f4,VV,LZ q4'];exact⟨_,hS.symm,DX q4',(hx.set (by omega) _).set (by omega) _,by trivial,by trivial,by trivial⟩
    | some q =>
      obtain⟨u,l2⟩:=q;rw[hA] at hS;have e1:dgV (some (u,l2))=.tup [.agg [.sl .any 3 (l2.map DY)],.int .i64 (u:Nat),.int .i64 0]:=rfl;rw[e1];obtain⟨v2,x2,_,r2,_⟩:=O8 v1 (x1.lt ht) r1 u l2 hA;have qs:∀ {c:Nat} {y:ABlk},H2[c]?=some y->c≠H1.length->(H2.set H1.length (.live 1 [[.sl .any 3 (l2.map DY)]]))[c]?=some y:=fun q hne=>by rw[jS (Ne.symm hne)]; exact q
      have q7':=qs q7 (by omega);have q11':(H2.set H1.length (.live 1 [[.sl .any 3 (l2.map DY)]]))[H1.length]?=some (.live 1 [[.sl .any 3 (l2.map DY)]]):=DX q11;simp -implicitDefEqProofs only[vQ,jT,jU,BD,↓reduceIte,jA,enP,jO,LZ q11,bne_self_eq_false,f7,JK q11',LZ q7',f17,wrap_succ (show i<9223372036854775807 by omega)];exact⟨n-1,by omega,i+1,u,l2,.any,by omega,hS,v2,r2,by rw[jS (by omega)]; exact qs q2 (by omega),by rw[jS (by omega)]; exact qs q4 (by omega),DX q7',(hx.set (by omega) _).set (by omega) _,by trivial,by trivial,by trivial,by trivial,by trivial,by trivial,by trivial⟩
  .have hc':¬i<es.length:=fun q=>by rw[decide_eq_true q] at hc; cases hc
   rw[zF (by omega)] at hS;simp -implicitDefEqProofs only[vQ,↓reduceIte,jA];exact⟨t,l,m,hS.symm,q4,q7,hx,f4,f7,f8⟩
 .rintro F H ⟨t,l,m,ho,q4,q7,hx,f4,f7,f8⟩
  simp -implicitDefEqProofs only[vQ,BD,↓reduceIte,jA,enP,jO,f4,f7,f8,JK q7,LZ q4];rw[JG _ _ _ _ _ _ _ _ _ _ _ (show _=AV.ptr (h.length+1) 0 0 by first|exact f4|simp -implicitDefEqProofs only[f4]),JK (DX q4)];simp -implicitDefEqProofs only[AA,↓reduceIte,jA];exact⟨_,rfl,hx.set (by omega) _,by rw[ho]; exact⟨m,rfl⟩⟩
 .rintro F H ⟨k,ho,q4,hx,f4,f5,f6⟩
  simp -implicitDefEqProofs only[vQ];rw[JG _ _ _ _ _ _ _ _ _ _ _ (show _=AV.ptr (h.length+1) 0 0 by first|exact f4|simp -implicitDefEqProofs only[f4]),JK q4];simp -implicitDefEqProofs only[f5,f6];exact⟨_,rfl,hx,by rw[ho]; rfl⟩
end
def isS (v:AV)(xs:List Int):Prop:=∃m k,v=.sl m k (xs.map qencI)∧(xs≠[]->k=1)
theorem isS.of (m:SM)(xs:List Int):isS (.sl m 1 (xs.map qencI)) xs:=⟨m,1,rfl,fun _=>rfl⟩
theorem isS.nil (m:SM)(k:Nat):isS (.sl m k []) []:=⟨m,k,rfl,fun q=>absurd rfl q⟩
def isD (v:AV)(R:List Rn):Prop:=∃m k,v=.agg [.sl m k (R.map ER)]∧(R≠[]->k=3)
theorem isD.of (m:SM)(R:List Rn):isD (.agg [.sl m 3 (R.map ER)]) R:=⟨m,3,rfl,fun _=>rfl⟩
theorem isD.dg (m:SM)(l:Dg):isD (dgA m l) (l.map Nd.raw):=⟨m,3,by rw[WE]; rfl,fun _=>rfl⟩
theorem isD.nil:isD zD []:=⟨.nil,0,rfl,fun q=>absurd rfl q⟩
theorem ALC {xs:List Int}{i:Nat}(h:i<xs.length):xs≠[]:=fun e=>by rw[e] at h; simp at h
theorem ANM {xs:List Rn}{i:Nat}(h:i<xs.length):xs≠[]:=fun e=>by rw[e] at h; simp at h
section
variable (G:Nat->AV)
theorem YT {a b:AV}{xs ys:List Int}(ha:isS a xs)(hb:isS b ys)(hx:xs.length<=1048576)(_:ys.length<=1048576)(h:Hp):PCall (En G) 10 [a,b] h (.bool (decide (xs=ys))):=by
 obtain⟨m,k,rfl,hk⟩:=ha;obtain⟨m',k',rfl,hk'⟩:=hb;refine ACalls.pure0 rfl ?_;refine acN Tryz.func10 rfl ?_;show awp _ _ _ _ _ (EK _ [.tmp 4] _);simp -implicitDefEqProofs only[vQ,BD,↓reduceIte,jA,enP,Y7,jR];refine C9 (fun hc=>?_) (fun hc=>?_)
 .have hne:xs≠ys:=fun e=>by rw[e] at hc; simp at hc
  simp -implicitDefEqProofs only[vQ,BD,↓reduceIte];exact⟨by rw[decide_eq_false hne],[],by simp⟩
 have hlen:xs.length=ys.length:=by have:=hc; simp at this; omega
 simp -implicitDefEqProofs only[vQ,BD];refine D7 (fun n F H=>∃i,n+i=xs.length∧decide (xs=ys)=decide (xs.drop i=ys.drop i)∧F 0=.sl m k (xs.map qencI)∧F 1=.sl m' k' (ys.map qencI)∧F 5=.int .i64 (i:Nat)∧H=h) xs.length ⟨0,by simp,rfl,by simp -implicitDefEqProofs only[vQ,↓reduceIte,jA],by simp -implicitDefEqProofs only[vQ,↓reduceIte,jA],by simp -implicitDefEqProofs only[AA,↓reduceIte]; rfl,rfl⟩ ?_;rintro n F H ⟨i,hn,he,f0,f1,f5,rfl⟩;have ec:decide (((i:Nat):Int)<(xs.length:Nat))=decide (i<xs.length):=by rw[decide_eq_decide]; omega
 simp -implicitDefEqProofs only[vQ,BD,↓reduceIte,jA,enP,Y7,f0,f5,jR,ec];refine C9 (fun hc=>?_) (fun hc=>?_)
 .have hi:i<xs.length:=by simpa using hc
  have hi':i<ys.length:=by omega
  obtain rfl:=hk (ALC hi);obtain rfl:=hk' (ALC hi');rw[zU hi,zU hi'] at he;have l1:DF Tryz.prog H 3 (.fptr 1 (xs.map qencI) i 0)=some (.int .i64 xs[i]):=by rw[FX ag3 hi]; rfl
  have l2:DF Tryz.prog H 3 (.fptr 1 (ys.map qencI) i 0)=some (.int .i64 ys[i]):=by rw[FX ag3 hi']; rfl
  simp -implicitDefEqProofs only[vQ];refine GL (by kernel_rfl) ?_;simp -implicitDefEqProofs only[vQ,↓reduceIte,jA,jM,enP,KT,f0,f1,f5,EZ hi,EZ hi',l1,l2];refine C9 (fun hd=>?_) (fun hd=>?_)
  .have hne:xs[i]≠ys[i]:=by simpa using hd
   simp -implicitDefEqProofs only[vQ,BD,↓reduceIte];exact⟨by rw[he,decide_eq_false (fun q=>hne (List.cons.inj q).1)],[],by simp⟩
  .have heq:xs[i]=ys[i]:=by simpa using hd
   simp -implicitDefEqProofs only[vQ,BD,↓reduceIte,jA,enP,f5,wrap_succ (show i<9223372036854775807 by omega)];refine⟨n-1,by omega,i+1,by omega,?_,by trivial,by trivial,by trivial,by trivial⟩;rw[he,heq,decide_eq_decide];exact⟨fun q=>(List.cons.inj q).2,fun q=>by rw[q]⟩
 .have hi:¬i<xs.length:=fun q=>by rw[decide_eq_true q] at hc; cases hc
  simp -implicitDefEqProofs only[vQ,BD,↓reduceIte];rw[zF (show xs.length<=i by omega),zF (show ys.length<=i by omega)] at he;exact⟨by rw[he]; rfl,[],by simp⟩
theorem ARA {a b:AV}{xs ys:List Rn}(ha:isD a xs)(hb:isD b ys)(hx:xs.length<=1048576)(_:ys.length<=1048576)(h:Hp):PCall (En G) 17 [a,b] h (.bool (decide (xs=ys))):=by
 obtain⟨m,k,rfl,hk⟩:=ha;obtain⟨m',k',rfl,hk'⟩:=hb;refine ACalls.pure0 rfl ?_;refine acN Tryz.func17 rfl ?_;show awp _ _ _ _ _ (EK _ [.tmp 4] _);have bx:∀(H:Hp) (m:SM) (k:Nat) (r:List (List AV)),MG H (.agg [.sl m k r])=some (.ptr H.length 0 0,H++[.live 1 [[.sl m k r]]]):=fun _ _ _ _=>rfl
 simp -implicitDefEqProofs only[vQ,BD,↓reduceIte,jA,enP,NR,bx];have e1:(h++[ABlk.live 1 [[AV.sl m k (xs.map ER)]]]).length=h.length+1:=by simp
 rw[e1];generalize hX:h++[ABlk.live 1 [[AV.sl m k (xs.map ER)]]]++[ABlk.live 1 [[AV.sl m' k' (ys.map ER)]]]=X;have hx0:ext h X:=by rw[<-hX]; exact((ext.rfl' h).app _).app _
 have q2:X[h.length]?=some (.live 1 [[.sl m k (xs.map ER)]]):=by rw[<-hX]; exact BO (CU _ _)
 have q3:X[h.length+1]?=some (.live 1 [[.sl m' k' (ys.map ER)]]):=by rw[<-hX]; exact HY e1
 clear hX;have g2:DF Tryz.prog X 33 (.ptr h.length 0 0)=some (.sl m k (xs.map ER)):=by rw[DJ AE5 q2 rfl]; rfl
 have g3:DF Tryz.prog X 33 (.ptr (h.length+1) 0 0)=some (.sl m' k' (ys.map ER)):=by rw[DJ AE5 q3 rfl]; rfl
 simp -implicitDefEqProofs only[vQ,BD,↓reduceIte,jA,enP,SX,NR,g2,g3,jR];refine C9 (fun hc=>?_) (fun hc=>?_)
 .have hne:xs≠ys:=fun e=>by rw[e] at hc; simp at hc
  simp -implicitDefEqProofs only[vQ,BD,↓reduceIte];exact⟨by rw[decide_eq_false hne],hx0⟩
 have hlen:xs.length=ys.length:=by have:=hc; simp at this; omega
 simp -implicitDefEqProofs only[vQ,BD];refine D7 (fun n F H=>∃i,n+i=xs.length∧decide (xs=ys)=decide (xs.drop i=ys.drop i)∧F 2=.ptr h.length 0 0∧F 3=.ptr (h.length+1) 0 0∧F 5=.int .i64 (i:Nat)∧H=X) xs.length ⟨0,by simp,rfl,by simp -implicitDefEqProofs only[AA,↓reduceIte,jA],by simp -implicitDefEqProofs only[AA,↓reduceIte,jA],by simp -implicitDefEqProofs only[AA,↓reduceIte]; rfl,rfl⟩ ?_;rintro n F H ⟨i,hn,he,f2,f3,f5,rfl⟩;have ec:decide (((i:Nat):Int)<(xs.length:Nat))=decide (i<xs.length):=by rw[decide_eq_decide]; omega
 simp -implicitDefEqProofs only[vQ,BD,↓reduceIte,jA,enP,SX,NR,f2,f5,g2,jR,ec];refine C9 (fun hc=>?_) (fun hc=>?_)
 .have hi:i<xs.length:=by simpa using hc
  have hi':i<ys.length:=by omega
  obtain rfl:=hk (ANM hi);obtain rfl:=hk' (ANM hi');rw[zU hi,zU hi'] at he;simp -implicitDefEqProofs only[vQ];refine GL (by kernel_rfl) ?_;simp -implicitDefEqProofs only[vQ,↓reduceIte,jA,jM,enP,SA,NR,f2,f3,f5,g2,g3,EZ hi,EZ hi',GM VW P7 KH hi,GM VW P7 KH hi',AVU];refine C9 (fun hd=>?_) (fun hd=>?_)
  .have hne:xs[i]≠ys[i]:=by simpa using hd
   simp -implicitDefEqProofs only[vQ,BD,↓reduceIte];exact⟨by rw[he,decide_eq_false (fun q=>hne (List.cons.inj q).1)],hx0⟩
  .have heq:xs[i]=ys[i]:=by simpa using hd
   simp -implicitDefEqProofs only[vQ,BD,↓reduceIte,jA,enP,f5,wrap_succ (show i<9223372036854775807 by omega)];refine⟨n-1,by omega,i+1,by omega,?_,by trivial,by trivial,by trivial,by trivial⟩;rw[he,heq,decide_eq_decide];exact⟨fun q=>(List.cons.inj q).2,fun q=>by rw[q]⟩
 .have hi:¬i<xs.length:=fun q=>by rw[decide_eq_true q] at hc; cases hc
  simp -implicitDefEqProofs only[vQ,BD,↓reduceIte];rw[zF (show xs.length<=i by omega),zF (show ys.length<=i by omega)] at he;exact⟨by rw[he]; rfl,hx0⟩
theorem AQ6 (e:Ex)(hw:wt e<=1048576)(h:Hp):PCall (En G) 31 [.agg (EF e)] h (.int .i64 (pre e).length):=by
 refine ACalls.pure0 rfl ?_;refine acN Tryz.func31 rfl ?_;show awp _ _ _ _ _ (EK _ [.tmp 2] _);simp -implicitDefEqProofs only[vQ,BD,↓reduceIte,jA,enP,bxE,ldE];refine(AI4 G e (AOS hw) _).mono ?_;rintro v h' ⟨c,m,u1,u2,rfl,s,x,rfl⟩;simp -implicitDefEqProofs only[vQ,BD,↓reduceIte,enP,AHD,s.l0];exact⟨trivial,_,by rw[zJ]⟩
end
def AF0 (b:Bool):List AV:=[.bool b]
def bA (bs:List Bool):Nat->Bool:=fun i=>bs.getD i false
theorem A3R (h:Hp):J6 Tryz.prog h 61=some (.ptr h.length 0 0,h++[ABlk.live 3 [i3 0 0 0]]):=JU (row:=i3 0 0 0) (by kernel_rfl)
theorem A05 (h:Hp)(n:Nd):FO Tryz.prog (h++[ABlk.live 3 [i3 0 0 0]]) 61 (.ptr h.length 0 0) (.agg (DY n))=some (h++[ABlk.live 3 [DY n]]):=by
 rw[ACZ (cs:=DY n) (TC rfl) P7 (CU _ _) (jP 3),OA]; rfl
theorem A29 (h:Hp)(v:Int):GG Tryz.prog false h 29 1 [(0,.int .i64 v)]=some (.sl .full 1 [[.int .i64 v]],h):=by kernel_rfl
section
variable (G:Nat->AV)
theorem ZT (l:Dg)(m:SM)(v:VD l)(f:Nat)(hf:f<l.length)(bs:List Bool)(m':SM)(h:Hp):PCall (En G) 35 [dgA m l,.int .i64 (f:Nat),.sl m' 1 (bs.map AF0)] h (.bool (ev l (bA bs) f)):=by
 refine ACalls.pure0 rfl ?_;refine acN Tryz.func35 rfl ?_;show awp _ _ _ _ _ (EK _ [.tmp 6] _);unfold dgA;have q3:=CU h (ABlk.live 1 [[.sl m 3 (l.map DY)]]);have hx:=(ext.rfl' h).app [ABlk.live 1 [[.sl m 3 (l.map DY)]]];simp -implicitDefEqProofs only[vQ,BD,↓reduceIte,jA,enP,UO,JK q3,A29];generalize h++[ABlk.live 1 [[.sl m 3 (l.map DY)]]]=X at q3 hx|-;have hd:=ALR G l m v [f] .full (fun g hg=>by rw[wB] at hg; rw[hg]; exact hf) (by simp) X;refine(show PCall (En G) 67 [.agg [.sl m 3 (l.map DY)],.sl .full 1 [[.int .i64 (f:Nat)]]] X (.bool true) from hd).use ?_;simp -implicitDefEqProofs only[vQ,BD,↓reduceIte,jZ];refine GI 0 (fun F H=>ext h H∧∃g:Nat,g<=1∧ev l (bA bs) f=(g==1)∧F 1=.int .i64 (g:Nat)) (fun _ _=>False) ?_ ?_ (fun _ _ q=>q.elim)
 .refine D7 (fun n F H=>∃g,g<=n∧g<l.length∧ev l (bA bs) f=ev l (bA bs) g∧H[h.length]?=some (.live 1 [[.sl m 3 (l.map DY)]])∧ext h H∧F 1=.int .i64 (g:Nat)∧F 2=.sl m' 1 (bs.map AF0)∧F 3=.ptr h.length 0 0) f
   ⟨f,jP _,hf,rfl,q3,hx,by simp -implicitDefEqProofs only[vQ,↓reduceIte,jA],by simp -implicitDefEqProofs only[vQ,↓reduceIte,jA],by simp -implicitDefEqProofs only[AA,↓reduceIte,jA]⟩ ?_
  clear q3 hx;rintro n F H ⟨g,hg,hgl,he,q3,hx,f1,f2,f3⟩;have ec:decide (((g:Nat):Int)>1)=decide (1<g):=by rw[decide_eq_decide]; omega
  simp -implicitDefEqProofs only[vQ,BD,↓reduceIte,enP,f1,ec];refine C9 (fun hc=>?_) (fun hc=>?_)
  .have h1:1<g:=by simpa using hc
   obtain⟨a1,a2,a3,_⟩:=v.at (by omega) hgl;have es:=WM v (bA bs) (show 2<=g by omega) hgl
   have lN:DF Tryz.prog H 61 (.fptr 3 (l.map DY) g 0)=some (.agg (DY (nth l g))):=by
    have:=GM (P:=Tryz.prog) (k:=3) (h:=H) VW P7 AFX hgl;rw[this,UG (jX hgl)]
   generalize nth l g=nd at a1 a2 a3 es lN;have l33:DF Tryz.prog H 33 (.ptr h.length 0 0)=some (.sl m 3 (l.map DY)):=by rw[DJ AE5 q3 rfl]; rfl
   simp -implicitDefEqProofs only[vQ,BD,↓reduceIte,jA,enP,SA,NR,QK,jO,f1,f3,l33,EZ hgl,lN,A3R,A05];have qn:=CU H (ABlk.live 3 [DY nd]);have q3:=BO (x:=ABlk.live 3 [DY nd]) q3;have hx:=hx.app [ABlk.live 3 [DY nd]];generalize H++[ABlk.live 3 [DY nd]]=H1 at qn q3 hx|-;have c0:DF Tryz.prog H1 3 (.ptr H.length 0 0)=some (.int .i64 (nd.lv:Nat)):=by rw[DJ ag3 qn rfl]; rfl
   have c1:DF Tryz.prog H1 3 (.ptr H.length 0 1)=some (.int .i64 (nd.lo:Nat)):=by rw[DJ ag3 qn rfl]; rfl
   have c2:DF Tryz.prog H1 3 (.ptr H.length 0 2)=some (.int .i64 (nd.hi:Nat)):=by rw[DJ ag3 qn rfl]; rfl
   have ec2:decide (((nd.lv:Nat):Int)<(bs.length:Nat))=decide (nd.lv<bs.length):=by rw[decide_eq_decide]; omega
   simp -implicitDefEqProofs only[vQ,CV,BD,↓reduceIte,jA,enP,A43,OG,c0,c1,f2,jR,ec2];refine KR (fun hb=>?_) (fun hb=>?_)
   .have hlb:nd.lv<bs.length:=by simpa using hb
    have lb:DF Tryz.prog H1 4 (.fptr 1 (bs.map AF0) nd.lv 0)=some (.bool bs[nd.lv]):=by rw[FX ag4 hlb]; rfl
    have eb:bA bs nd.lv=bs[nd.lv]:=by unfold bA; rw[zM,jX hlb]; rfl
    simp -implicitDefEqProofs only[vQ,CV,BD,↓reduceIte,jA,enP,AV5,OG,hb,c0,f2,EZ hlb,lb];refine C9 (fun hd=>?_) (fun hd=>?_)
    .simp -implicitDefEqProofs only[vQ,BD,↓reduceIte,jA,enP,QJ,c2]
     exact⟨n-1,by omega,nd.hi,by omega,by omega,by rw[he,es,if_pos (by rw[eb]; exact hd)],q3,hx,by trivial,by trivial,by trivial⟩
    .simp -implicitDefEqProofs only[vQ,↓reduceIte,jA]
     exact⟨n-1,by omega,nd.lo,by omega,by omega,by rw[he,es,if_neg (by rw[eb,hd]; decide)],q3,hx,by trivial,by trivial,by trivial⟩
   .have hlb:¬nd.lv<bs.length:=fun q=>by rw[decide_eq_true q] at hb; cases hb
    have eb:bA bs nd.lv=false:=by unfold bA; rw[zM,zO (by omega)]; rfl
    simp -implicitDefEqProofs only[vQ,CV,BD,EY,↓reduceIte,jA,hb];exact⟨n-1,by omega,nd.lo,by omega,by omega,by rw[he,es,if_neg (by rw[eb]; decide)],q3,hx,by trivial,by trivial,by trivial⟩
  .have h1:¬1<g:=fun q=>by rw[decide_eq_true q] at hc; cases hc
   simp -implicitDefEqProofs only[vQ,↓reduceIte,jA];exact⟨hx,g,by omega,by rw[he,AAW _ _ (by omega)],f1⟩
 .rintro F H ⟨hx,g,hg,he,f1⟩
  simp -implicitDefEqProofs only[vQ,BD,↓reduceIte,enP,f1];refine⟨?_,hx⟩;rw[he];have:g=0∨g=1:=by omega
  rcases this with rfl|rfl<;>rfl
end
theorem ARQ {h H:Hp}{ys:List Int}{v:AV}{n d:Nat}(ho:outG 1 qencI h ys v H)(hn:n<=h.length):isS (JS n H (d+2) v) ys:=by
 rcases ho with⟨rfl,rfl⟩|⟨_,o,ho1,rfl,ho⟩
 .exact isS.nil .nil 0
 .rw[UK AWF (by omega) ho]; exact isS.of .any ys
section
variable (G:Nat->AV)
def A52 (p:Pr)(v:AV):Prop:=∃xs,isS v xs∧xs.length<=p.vars.length∧∀x∈xs,0<=x∧x<p.vars.length
set_option maxHeartbeats 1000000 in
theorem AK7 (p:Pr)(hs:PrS p)(h:Hp):QCall (En G) 68 [.agg (EE p)] h (A52 p):=by
 have hvl:=hs.vars;refine ACalls.pureQ 2 (R:=fun v H=>ext h H∧∃xs,outG 1 qencI h xs v H∧xs.length<=p.vars.length∧∀x∈xs,0<=x∧x<p.vars.length) ?_ (fun v H ⟨hx,xs,ho,h1,h2⟩=>⟨hx,xs,ARQ (d:=0) ho (jP _),h1,h2⟩);refine acN Tryz.func68 rfl ?_;show awp _ _ _ _ _ (EK _ [.tmp 2] _);have ge:=CU h (ABlk.live 5 [EE p]);have hx:ext h (h++[ABlk.live 5 [EE p]]):=(ext.rfl' h).app _;simp -implicitDefEqProofs only[vQ,BD,↓reduceIte,jA,enP,UN];generalize h++[ABlk.live 5 [EE p]]=H0 at ge hx|-;generalize hpb:h.length=pb at ge|-;have l22:∀ {H:Hp},Sm.ext H0 H->DF Tryz.prog H 22 (.ptr pb 0 0)=some (.sl p.vm 4 (p.vars.map FI)):=fun q=>by rw[DJ TU (F8 q ge) (row:=EE p) rfl]; rfl
 have ldp:DF Tryz.prog H0 27 (.ptr pb 0 0)=some (.agg (EE p)):=by rw[GV UY TF ge (row:=EE p) rfl (by rw[JE]; exact jP 5)]; rfl
 simp -implicitDefEqProofs only[vQ,BD,↓reduceIte,ldp];refine(AAG G p hs H0).use ?_;simp -implicitDefEqProofs only[vQ,BD,↓reduceIte,enP];refine C9 (fun hc=>?_) (fun hc=>?_)
 .simp -implicitDefEqProofs only[vQ,BD,↓reduceIte]
  exact⟨hx,[],.inl ⟨by trivial,rfl⟩,by simp,by simp⟩
 simp -implicitDefEqProofs only[vQ,BD]
 refine D7 (fun n F H=>∃i u xs,n+i=p.vars.length∧F 1=.ptr pb 0 0∧F 3=u∧F 4=.int .i64 (i:Nat)∧ext H0 H∧outG 1 qencI H0 xs u H∧xs.length<=i∧∀x∈xs,0<=x∧x<p.vars.length) p.vars.length
  ⟨0,.sl .nil 0 [],[],by simp,by simp -implicitDefEqProofs only[AA,↓reduceIte,jA],by simp -implicitDefEqProofs only[AA,↓reduceIte,jA],by simp -implicitDefEqProofs only[AA,↓reduceIte]; rfl,ext.rfl' _,outG.nil _ _ _ _,by simp,by simp⟩ ?_
 rintro n F H ⟨i,u,xs,hi,f1,f3,f4,hxH,ho,hle,hin⟩;have ec:decide (((i:Nat):Int)<(p.vars.length:Nat))=decide (i<p.vars.length):=by rw[decide_eq_decide]; omega
 simp -implicitDefEqProofs only[vQ,BD,↓reduceIte,jA,enP,RZ,KC,f1,f4,l22 hxH,jR,ec];refine C9 (fun hc=>?_) (fun hc=>?_)
 .have hi':i<p.vars.length:=by simpa using hc
  have lm:DF Tryz.prog H 3 (.fptr 4 (p.vars.map FI) i 2)=some (.int .i64 p.vars[i].mode):=by rw[FX ag3 hi']; rfl
  simp -implicitDefEqProofs only[vQ,BD,↓reduceIte,jA,enP,QP,KC,NC,f1,f4,l22 hxH,EZ hi',lm];refine C9 (fun hd=>?_) (fun hd=>?_)
  .obtain⟨v',H',ha,ho',_,hx',_,_⟩:=ho.append (P:=Tryz.prog) A0V (by kernel_rfl) A36 A2Y (by omega) (by omega) hxH ((i:Nat):Int)
   have ha':IP Tryz.prog true H 29 29 u (.sl .full 1 [[.int .i64 ((i:Nat):Int)]])=some (v',H'):=ha;simp -implicitDefEqProofs only[vQ,BD,MC,↓reduceIte,jA,enP,f3,f4,A29,ha',wrap_succ (show i<9223372036854775807 by omega)];refine⟨n-1,by omega,i+1,v',xs++[((i:Nat):Int)],by omega,by trivial,by trivial,by trivial,hx',ho',by simp; omega,fun x hx=>?_⟩;rcases List.mem_append.1 hx with q|q
   .exact hin x q
   .rw[wB] at q; omega
  .simp -implicitDefEqProofs only[vQ,BD,↓reduceIte,jA,enP,f4,wrap_succ (show i<9223372036854775807 by omega)]
   exact⟨n-1,by omega,i+1,u,xs,by omega,by trivial,by trivial,by trivial,hxH,ho,by omega,hin⟩
 .have hi':¬i<p.vars.length:=fun q=>by rw[decide_eq_true q] at hc; cases hc
  simp -implicitDefEqProofs only[vQ,BD,↓reduceIte,jA,f3];refine⟨hx.trans hxH,xs,?_,by omega,hin⟩;rcases ho with⟨a,b⟩|⟨a,o,b,c,d⟩
  .exact .inl ⟨a,b⟩
  .exact .inr ⟨a,o,Nat.le_trans hx.le b,c,d⟩
theorem AMD (p:Pr)(hs:PrS p)(h:Hp):QCall (En G) 36 [.agg (EE p)] h (fun v=>∃z:Int,v=.int .i64 z):=by
 refine ACalls.pureQ 1 (R:=fun v H=>ext h H∧∃z:Int,v=.int .i64 z) ?_ (fun v H ⟨hx,z,e⟩=>⟨hx,z,by rw[e]; rfl⟩);refine acN Tryz.func36 rfl ?_;show awp _ _ _ _ _ (EK _ [.tmp 2] _);have ge:=CU h (ABlk.live 5 [EE p]);have hx:ext h (h++[ABlk.live 5 [EE p]]):=(ext.rfl' h).app _;simp -implicitDefEqProofs only[vQ,BD,↓reduceIte,jA,enP,UN];generalize h++[ABlk.live 5 [EE p]]=H0 at ge hx|-;generalize hpb:h.length=pb at ge|-;have l22:DF Tryz.prog H0 22 (.ptr pb 0 0)=some (.sl p.vm 4 (p.vars.map FI)):=by rw[DJ TU ge (row:=EE p) rfl]; rfl
 have ldp:DF Tryz.prog H0 27 (.ptr pb 0 0)=some (.agg (EE p)):=by rw[GV UY TF ge (row:=EE p) rfl (by rw[JE]; exact jP 5)]; rfl
 simp -implicitDefEqProofs only[vQ,BD,↓reduceIte,ldp];refine(AK7 G p hs H0).use ?_;rintro r ⟨xs,⟨m,k,rfl,hk⟩,hl,hin⟩;have hvl:=hs.vars;simp -implicitDefEqProofs only[vQ,BD,↓reduceIte];refine D7 (fun n F H=>∃i,∃z:Int,n+i=xs.length∧F 1=.ptr pb 0 0∧F 3=.sl m k (xs.map qencI)∧F 4=.int .i64 z∧F 5=.int .i64 (i:Nat)∧H=H0) xs.length ⟨0,0,by simp,by simp -implicitDefEqProofs only[AA,↓reduceIte,jA],by simp -implicitDefEqProofs only[AA,↓reduceIte,jA],by simp -implicitDefEqProofs only[AA,↓reduceIte,jA],by simp -implicitDefEqProofs only[AA,↓reduceIte]; rfl,rfl⟩ ?_;rintro n F H ⟨i,z,hi,f1,f3,f4,f5,rfl⟩;have ec:decide (((i:Nat):Int)<(xs.length:Nat))=decide (i<xs.length):=by rw[decide_eq_decide]; omega
 simp -implicitDefEqProofs only[vQ,BD,↓reduceIte,jA,enP,Y7,f3,f5,jR,ec];refine C9 (fun hc=>?_) (fun hc=>?_)
 .have hi':i<xs.length:=by simpa using hc
  obtain rfl:=hk (ALC hi');obtain⟨a,b⟩:=hin _ (zC hi');obtain⟨j,hj⟩:=qM a;have hj':j<p.vars.length:=by omega
  have l3:DF Tryz.prog H 3 (.fptr 1 (xs.map qencI) i 0)=some (.int .i64 (j:Nat)):=by rw[FX ag3 hi',hj]; rfl
  have lw:DF Tryz.prog H 3 (.fptr 4 (p.vars.map FI) j 1)=some (.int .i64 p.vars[j].width):=by rw[FX ag3 hj']; rfl
  simp -implicitDefEqProofs only[vQ];refine GL (by kernel_rfl) ?_;simp -implicitDefEqProofs only[vQ,BD,↓reduceIte,jA,jM,enP,QP,KC,KT,LV,f1,f3,f4,f5,l22,EZ hi',l3,EZ hj',lw,wrap_succ (show i<9223372036854775807 by omega)];exact⟨n-1,by omega,i+1,_,by omega,by trivial,by trivial,by trivial,by trivial,by trivial⟩
 .simp -implicitDefEqProofs only[vQ,BD,↓reduceIte,jA,f4]
  exact⟨hx,z,rfl⟩
theorem AO4 (p:Pr)(hs:PrS p)(e:Ex)(hw:wt e<=1048576){d:AV}{R:List Rn}(hd:isD d R)(h:Hp):QCall (En G) 14 [.agg (EE p),.agg (EF e),d] h (fun v=>∃b,v=.bool b):=by
 obtain⟨m,k,rfl,hk⟩:=hd;refine ACalls.pureQ 1 (R:=fun v H=>ext h H∧∃b,v=.bool b) ?_ (fun v H ⟨hx,z,e⟩=>⟨hx,z,by rw[e]; rfl⟩);refine acN Tryz.func14 rfl ?_;show awp _ _ _ _ _ (EK _ [.tmp 6] _);have bx:∀(H:Hp) (m:SM) (k:Nat) (r:List (List AV)),MG H (.agg [.sl m k r])=some (.ptr H.length 0 0,H++[.live 1 [[.sl m k r]]]):=fun _ _ _ _=>rfl
 simp -implicitDefEqProofs only[vQ,BD,↓reduceIte,jA,enP,UN,bxE,bx];generalize hX:h++[ABlk.live 5 [EE p]]++[ABlk.live 4 [EF e]]++[ABlk.live 1 [[AV.sl m k (R.map ER)]]]=X;have hx:ext h X:=by rw[<-hX]; exact(((ext.rfl' h).app _).app _).app _
 have q3:X[h.length]?=some (.live 5 [EE p]):=by rw[<-hX]; exact BO (BO (CU _ _))
 have q4:X[h.length+1]?=some (.live 4 [EF e]):=by rw[<-hX]; exact BO (HY (by simp))
 have q5:X[h.length+2]?=some (.live 1 [[.sl m k (R.map ER)]]):=by rw[<-hX]; exact HY (by simp)
 have e1:(h++[ABlk.live 5 [EE p]]).length=h.length+1:=by simp
 have e2:(h++[ABlk.live 5 [EE p]]++[ABlk.live 4 [EF e]]).length=h.length+2:=by simp
 rw[e1,e2];clear hX;have ldp:DF Tryz.prog X 27 (.ptr h.length 0 0)=some (.agg (EE p)):=by rw[GV UY TF q3 (row:=EE p) rfl (by rw[JE]; exact jP 5)]; rfl
 have g5:DF Tryz.prog X 33 (.ptr (h.length+2) 0 0)=some (.sl m k (R.map ER)):=by rw[DJ AE5 q5 rfl]; rfl
 simp -implicitDefEqProofs only[vQ,BD,↓reduceIte,ldp];refine(AMD G p hs X).use ?_;rintro r ⟨z,rfl⟩;simp -implicitDefEqProofs only[vQ,CV,BD,NM,↓reduceIte,enP];cases b1:decide (z<=10)
 .simp -implicitDefEqProofs only[vQ,CV,BD,EY,↓reduceIte,jA]
  exact⟨hx,_,rfl⟩
 simp -implicitDefEqProofs only[vQ,CV,BD,↓reduceIte,jA,enP,JH q4];refine(AQ6 G e hw X).use ?_;simp -implicitDefEqProofs only[vQ,CV,BD,NM,↓reduceIte,jA,enP];cases b2:decide (((pre e).length:Int)<=40)
 .simp -implicitDefEqProofs only[vQ,CV,BD,EY,↓reduceIte,jA,b2]
  exact⟨hx,_,rfl⟩
 simp -implicitDefEqProofs only[vQ,CV,BD,NM,↓reduceIte,jA,enP,SX,NR,b2,g5,jR];exact⟨hx,_,rfl⟩
end
end Go.Proofs.YtgnoolgeijmlaaaGreatDoor.Bl
