/- Part 6 of the proof (E7, E8, E9, E10); no condition. -/
import Derived.Test.YtgnoolgeijmlaaaGreatDoorZE5
set_option linter.unusedVariables false
set_option linter.unusedSimpArgs false
set_option maxRecDepth 8000
namespace Go.Proofs.YtgnoolgeijmlaaaGreatDoor.Cov
open Sm Bins Go.RowKit
open Bool renaming not_false→jC,or_false→jV
open List renaming map_cons→jF,map_nil→jE,append_nil→jD,length_cons→zZ,length_map→jR,getElem_mem→zC,append_assoc→zJ,take_of_length_le→zH,getElem?_append_left→zS,getElem?_set→zI,length_append→zT,take_succ_cons→wJ,contains_cons→jW,contains_nil→jI
open Nat renaming le_of_ble_eq_true→jH,reduceEqDiff→jA,zero_add→jG,le_refl→jP,reduceBEq→jK,add_zero→jL,reduceAdd→jM
open Option renaming getD_some→jB,getD_none→jO
theorem AKY (G:Nat->AV)(e:Ex):AOT G 185 (fun _ z=>IntKind.i64.wrap (z+1)) (fun _=>true) e:=by
 intro h c z hc;have hcl:=CB hc;refine acN Tryz.func185 rfl ?_;show awp _ _ _ _ _ (EK _ [.tmp 3] _);simp -implicitDefEqProofs only[vQ,BD,↓reduceIte,jA,enP,jO,bxE,JR ag3 (BO hc),UA sz3 (YF _ _) (BO hc)];exact⟨trivial,(Chg.app c h _).trans (Chg.set c _ _),DX (BO hc)⟩
theorem AJO (G:Nat->AV)(hG:GOk G)(e:Ex)(hl:e.name.size<=1048576):AOT G 134 (fun e _=>JW e) (fun z=>z==0) e:=by
 intro h c z hc;have hcl:=CB hc;refine acN Tryz.func134 rfl ?_;show awp _ _ _ _ _ (EK _ [.tmp 3] _);simp -implicitDefEqProofs only[vQ,BD,↓reduceIte,jA,enP,bxE,ldE];refine(node_prog G hG e _ hl).use ?_;have hs:=DX (y:=.live 1 [[.int .i64 (JW e)]]) (BO (x:=.live 4 [EF e]) hc);simp -implicitDefEqProofs only[vQ,BD,↓reduceIte,jA,enP,jO,UA sz39 (YF _ _) (BO hc),JR ag39 hs];exact⟨trivial,(Chg.app c h _).trans (Chg.set c _ _),hs⟩
theorem AIR:∀(xs:List Ex) (n:Nat),n+xs.length<=1099511627776->run (fun _ z=>IntKind.i64.wrap (z+1)) (fun _=>true) xs (n:Int)=(((n+xs.length:Nat):Int),true)
 | [],n,_=>rfl
 | x::xs,n,h=>by
   simp only[zZ] at h;simp only[run,if_true];rw[wrap_succ (by omega),AIR xs (n+1) (by omega),zZ];congr 1; omega
def errs (xs:List Ex):Int:=xs.foldl (fun z e=>if z=0 then JW e else z) 0
theorem AHJ:∀(xs:List Ex) (z:Int),z≠0->xs.foldl (fun z e=>if z=0 then JW e else z) z=z
 | [],_,_=>rfl
 | x::xs,z,h=>by rw[List.foldl_cons,if_neg h]; exact AHJ xs z h
theorem AIS:∀(xs:List Ex),(run (fun e _=>JW e) (fun z=>z==0) xs 0).1=errs xs
 | []=>rfl
 | x::xs=>by
   simp only[run,errs,List.foldl_cons,if_true];rcases hn:(JW x==0) with _|_
   .have:JW x≠0:=by simpa using hn
    rw[AHJ _ _ this]; rfl
   .have:JW x=0:=by simpa using hn
    rw[this]; simp only[if_true]; exact AIS xs
theorem ARJ {x e:Ex}(hx:x∈pre e):x.name.size<=wt e:=by
 induction e using Ex.induct with|h e ih=>?_
 rw[pre_eq] at hx;have hw:=QU e;rcases List.mem_cons.1 hx with rfl|hx
 .omega
 have:∀l:List Ex,(∀a∈l,x∈pre a->x.name.size<=wt a)->x∈IR l->x.name.size<=wts l:=by
  intro l
  induction l with
  | nil=>intro _ h; simp [IR] at h
  | cons y l ih2 =>
    intro hh h;simp only[IR,List.mem_append] at h;simp only[wts];rcases h with h|h
    .have:=hh y (by simp) h; omega
    .have:=ih2 (fun a ha=>hh a (by simp [ha])) h; omega
 have:=this e.args (fun a ha=>ih a ha) hx;omega
theorem AO5 (G:Nat->AV)(e:Ex)(h:Hp)(hw:wt e<=1099511627776):PCall (En G) 137 [.agg (EF e)] h (.int .i64 (pre e).length):=by
 refine ACalls.pure0 rfl ?_;refine acN Tryz.func137 rfl ?_;show awp _ _ _ _ _ (EK _ [.tmp 2] _);have hg:=CU (h++[ABlk.live 4 [EF e]]) (.live 1 [[.int .i64 0]]);have hs:(h++[ABlk.live 4 [EF e]]++[ABlk.live 1 [[.int .i64 0]]]).set (h++[ABlk.live 4 [EF e]]).length (.live 1 [[.int .i64 0]])=h++[ABlk.live 4 [EF e]]++[ABlk.live 1 [[.int .i64 0]]]:=JP _ _ _;simp -implicitDefEqProofs only[vQ,BD,I5,↓reduceIte,jA,enP,jO,bxE,al3,UA sz3 (YF _ _) hg,hs,JH (BO (CU h _))];refine(AE9 G 185 _ _ _ e hw (fun x _=>AKY G x) _ 0 hg).mono ?_;rintro v h' ⟨hch,hc1⟩;simp -implicitDefEqProofs only[vQ,BD,↓reduceIte,jA,enP,JR ag3 hc1];have:=AIR (pre e) 0 (by have:=XM e; omega);simp only[jG] at this;exact⟨by rw[show(0:Int)=((0:Nat):Int) from rfl,this],(((Chg.app _ h _).trans (Chg.app _ _ _)).trans hch).above (by simp)⟩
theorem AL6 (G:Nat->AV)(e:Ex):wt e<=1099511627776->∀h:Hp,PCall (En G) 136 [.agg (EF e)] h (.int .i64 (dep e)):=by
 induction e using Ex.induct with|h e ih=>?_
 intro hw h;have hal:e.args.length<=1099511627776:=by have:=YK e.args; have:=QU e; omega
 refine ACalls.pure0 rfl ?_;refine acN Tryz.func136 rfl ?_;show awp _ _ _ _ _ (EK _ [.tmp 2] _);simp -implicitDefEqProofs only[vQ,BD,↓reduceIte,jA,enP,WT,ND,bxE,E5 VX,VQ,jR];have hdw:dep e<=1099511627776:=Nat.le_trans (ATJ e) hw;refine D7 (fun n F H=>∃j,n+j=e.args.length∧F 3=.int .i64 (deps (e.args.take j):Nat)∧F 7=.sl e.m 4 (e.args.map EF)∧F 8=.int .i64 e.args.length∧F 9=.int .i64 (j:Nat)∧∃x,H=h++x) e.args.length ⟨0,by simp,by simp -implicitDefEqProofs only[AA,↓reduceIte,jA]; rfl,by simp -implicitDefEqProofs only[AA,↓reduceIte,jA],by simp -implicitDefEqProofs only[AA,↓reduceIte,jA],by simp -implicitDefEqProofs only[AA,↓reduceIte]; rfl,⟨_,rfl⟩⟩ ?_;rintro n F H ⟨j,hj,f3,f7,f8,f9,x,rfl⟩;simp -implicitDefEqProofs only[vQ,BD,↓reduceIte,enP,f8,f9];refine C9 (fun hlt=>?_) (fun hlt=>?_)
 .have hj':j<e.args.length:=by simpa using hlt
  have hmem:e.args[j]∈e.args:=zC hj';simp -implicitDefEqProofs only[vQ,BD,↓reduceIte,jA,enP,AAO,jO,f3,f7,f9,EZ hj',GM YB RX IZ hj',AT6,AQ4 _ _ [.int .i64 0,.int .i64 0,.str ⟨#[]⟩,.sl .nil 0 []] rfl,ldE];refine(ih e.args[j] hmem (by have:=V4 hmem; have:=QU e; omega) _).use ?_;simp -implicitDefEqProofs only[vQ,BD,A0Q,AZI,↓reduceIte,jA,enP,f7,f8,f9,wrap_succ (show j<9223372036854775807 by omega)];refine⟨n-1,by omega,j+1,by omega,?_,trivial,trivial,rfl,_,by rw[zJ]⟩;rw[AA4 _ _ hj'];congr 1;omega
 .have hj':¬j<e.args.length:=by simpa using hlt
  rw[zH (by omega)] at f3;rw[AA5] at hdw|-;simp -implicitDefEqProofs only[vQ,BD,↓reduceIte,jA,enP,f3,wrap_succ (show deps e.args<9223372036854775807 by omega)];exact⟨trivial,x,rfl⟩
def exE (e:Ex):Int:=if errs (pre e)=0∧(24<dep e∨400<(pre e).length) then 2 else errs (pre e)
def WN (e:Ex):Prop:=wt e<=274877906944∧∀x∈pre e,x.name.size<=1048576
theorem AOS {e:Ex}(hw:wt e<=1048576):WN e:=⟨by omega,fun x hx=>by have:=ARJ hx; omega⟩
theorem AE2 (G:Nat->AV)(hG:GOk G)(e:Ex)(h:Hp)(hn:WN e):PCall (En G) 70 [.agg (EF e)] h (.int .i64 (exE e)):=by
 refine ACalls.pure0 rfl ?_;refine acN Tryz.func70 rfl ?_;show awp _ _ _ _ _ (EK _ [.tmp 2] _);have hg:=CU (h++[ABlk.live 4 [EF e]]) (.live 1 [[.int .i64 0]]);have hs:(h++[ABlk.live 4 [EF e]]++[ABlk.live 1 [[.int .i64 0]]]).set (h++[ABlk.live 4 [EF e]]).length (.live 1 [[.int .i64 0]])=h++[ABlk.live 4 [EF e]]++[ABlk.live 1 [[.int .i64 0]]]:=JP _ _ _;have hb:=BO (x:=ABlk.live 1 [[.int .i64 0]]) (CU h (.live 4 [EF e]));have hw:=hn.1;simp -implicitDefEqProofs only[vQ,BD,I5,↓reduceIte,jA,enP,jO,bxE,A5Z,UA sz39 (YF _ _) hg,hs,JH hb];refine(AE9 G 134 _ _ _ e (by omega) (fun x hx=>AJO G hG x (hn.2 x hx)) _ 0 hg).mono ?_;rintro v h' ⟨hch,hc1⟩;rw[AIS] at hc1;have hb':=hch.get hb (by simp);have hab:=(((Chg.app _ h _).trans (Chg.app _ _ _)).trans hch).above (show h.length<=(h++[ABlk.live 4 [EF e]]).length by simp);simp -implicitDefEqProofs only[vQ,CV,BD,↓reduceIte,jA,enP,JR ag39 hc1];rcases he:(errs (pre e)==0) with _|_
 .simp -implicitDefEqProofs only[vQ,CV,VA,BD,EY,↓reduceIte,jA,enP,JR ag39 hc1]
  have:errs (pre e)≠0:=by simpa using he
  exact⟨by unfold exE; rw[if_neg (fun hh=>this hh.1)],hab⟩
 have he0:errs (pre e)=0:=by simpa using he
 simp -implicitDefEqProofs only[vQ,CV,BD,↓reduceIte,jA,enP,JH hb'];refine(AL6 G e (by omega) _).use ?_;simp -implicitDefEqProofs only[vQ,CV,BD,↓reduceIte,jA,enP];refine KR (fun hd=>?_) (fun hd=>?_)
 .simp -implicitDefEqProofs only[vQ,CV,BD,EY,↓reduceIte,jA,hd]
  exact⟨by unfold exE; rw[if_pos ⟨he0,.inl (by simp at hd; omega)⟩],hab⟩
 simp -implicitDefEqProofs only[vQ,CV,BD,↓reduceIte,jA,enP,hd,JH hb'];refine(AO5 G e _ (by omega)).use ?_;simp -implicitDefEqProofs only[vQ,CV,BD,↓reduceIte,jA,enP];refine C9 (fun hn=>?_) (fun hn=>?_)
 .simp -implicitDefEqProofs only[vQ,BD,↓reduceIte]
  exact⟨by unfold exE; rw[if_pos ⟨he0,.inr (by simp at hn; omega)⟩],hab⟩
 .simp -implicitDefEqProofs only[vQ,BD,↓reduceIte,jA,enP,JR ag39 hc1]
  exact⟨by unfold exE; rw[if_neg (fun hh=>by simp at hn hd; omega)],hab⟩
theorem ZO (G:Nat->AV)(hG:GOk G)(e:Ex)(h:Hp)(hw:wt e<=1048576):PCall (En G) 70 [.agg (EF e)] h (.int .i64 (exE e)):=AE2 G hG e h (AOS hw)
theorem QG {E:Env}{H:Hint}{x y:Code}{F:Fr}{h:Hp}{Q:AEx->Fr->Hp->Prop}{b:Bool}(N R:Fr->Hp->Prop)(h1:b=true->awp E H x F h (AVW N R))(h2:b=false->awp E H y F h (AVW N R))(hn:∀F h,N F h->Q .normal F h)(hr:∀F h,R F h->Q .ret F h) :
 AD4 E H x y F h Q (.bool b):=⟨fun e=>UU N R (h1 e) hn hr,fun e=>UU N R (h2 e) hn hr⟩
def isB (v:AV)(b:Nat):Prop:=match v with
 | .own b' _ _=>b'=b
 | _=>False
def sv (h:Hp)(m:Nat)(v:AV):Prop:=∃vs:List ByteArray,vs.length<=m∧((vs=[]∧∃k,v=.sl .nil k [])∨∃b,v=.own b 0 vs.length∧h[b]?=some (.live 1 (vs.map encStr)))
theorem AN1 (G:Nat->AV)(k:Nat)(v:ByteArray)(h:Hp):PCall (En G) 169 [.sl .nil k [],.str v] h (.bool false):=by
 refine acN Tryz.func169 rfl ?_;show awp _ _ _ _ _ (EK _ [.tmp 4] _);simp -implicitDefEqProofs only[vQ,BD,enX,enP];refine D7 (fun n F H=>F 0=.sl .nil k []∧F 5=.int .i64 0∧H=h) 0 ⟨rfl,rfl,rfl⟩ ?_;rintro n F H ⟨f0,f5,rfl⟩;simp -implicitDefEqProofs only[vQ,BD,↓reduceIte,jA,enP,Y6,f0,f5,List.length_nil];have:decide ((0:Int)<((0:Nat):Int))=false:=by simp
 simp -implicitDefEqProofs only[vQ,BD,↓reduceIte,this];exact⟨trivial,trivial⟩
theorem ACB {α:Type}{f:α->List AV}{xs:List α}{k:Nat}(hk:k<xs.length):(xs.map f)[k]?=some (f xs[k]):=by
 rw[List.getElem?_map,List.getElem?_eq_getElem hk]; rfl
theorem RN {h x:Hp}{y:ABlk}{b:Nat}(hb:h[b]?=some y):(h++x)[b]?=some y:=by
 rw[zS (CB hb)]; exact hb
theorem AN0 (G:Nat->AV)(xs:List ByteArray)(b:Nat)(v:ByteArray)(h:Hp)(hb:h[b]?=some (.live 1 (xs.map encStr)))(hl:xs.length<=1099511627776) :
  PCall (En G) 169 [.own b 0 xs.length,.str v] h (.bool (LJ xs v)):=by
 refine acN Tryz.func169 rfl ?_;show awp _ _ _ _ _ (EK _ [.tmp 4] _);simp -implicitDefEqProofs only[vQ,BD,enX,enP];refine D7 (fun n F H=>∃k,n+k=xs.length∧F 0=.own b 0 xs.length∧F 1=.str v∧F 5=.int .i64 (k:Nat)∧H=h∧LJ xs v=LJ (xs.drop k) v) xs.length ⟨0,by simp,rfl,rfl,rfl,rfl,rfl⟩ ?_;rintro n F H ⟨k,hk,f0,f1,f5,rfl,hin⟩;simp -implicitDefEqProofs only[vQ,BD,↓reduceIte,jA,enP,Y6,f0,f1,f5];refine C9 (fun hc=>?_) (fun hc=>?_)
 .have hc':k<xs.length:=by simpa using hc
  have hs:LJ (xs.drop k) v=((v.toList==xs[k].toList)||LJ (xs.drop (k+1)) v):=AEE _ xs k hc';have l1:DF Tryz.prog H 9 (.ptr b k 0)=some (.str xs[k]):=by rw[DJ ag9 hb (row:=encStr xs[k]) (ACB hc')]; rfl
  simp -implicitDefEqProofs only[vQ,BD,LH,↓reduceIte,jA,enP,ALK,f0,f1,f5,OZ hb hc',l1];refine C9 (fun hb=>?_) (fun hb=>?_)
  .simp -implicitDefEqProofs only[vQ,BD,↓reduceIte]
   refine⟨?_,trivial⟩;rw[hin,hs,show(v.toList==xs[k].toList)=true by rw[BEq.comm]; exact hb]; rfl
  .simp -implicitDefEqProofs only[vQ,BD,↓reduceIte,jA,enP,f5,wrap_succ (show k<9223372036854775807 by omega)]
   refine⟨n-1,by omega,k+1,by omega,f0,f1,rfl,trivial,?_⟩;rw[hin,hs,show(v.toList==xs[k].toList)=false by rw[BEq.comm]; exact hb]; rfl
 .have hc':¬k<xs.length:=by simpa using hc
  simp -implicitDefEqProofs only[vQ,BD,↓reduceIte];exact⟨by rw[hin,List.drop_eq_nil_of_le (by omega)]; rfl,trivial⟩
theorem ASN (G:Nat->AV){h:Hp}{m:Nat}{v:AV}(s:ByteArray)(hv:sv h m v)(hm:m<=1099511627776):∃r,PCall (En G) 169 [v,.str s] h (.bool r):=by
 obtain⟨vs,hl,⟨_,k,rfl⟩|⟨b,rfl,hb⟩⟩:=hv
 .exact⟨_,AN1 G k s h⟩
 .exact⟨_,AN0 G vs b s h hb (by omega)⟩
theorem AJ6 (h:Hp)(s:ByteArray):GG Tryz.prog false h 97 1 [(0,.str s)]=some (.sl .full 1 [[.str s]],h):=by kernel_rfl
theorem AT2 {h:Hp}{m:Nat}{v:AV}(s:ByteArray)(hv:sv h m v)(hm:m<=1099511627776):∃v' h',IP Tryz.prog true h 97 97 v (.sl .full 1 [[.str s]])=some (v',h')∧sv h' (m+1) v'∧(∀b,isB v' b->b=h.length) ∧
  h.length<=h'.length∧∀b,b<h.length->¬isB v b->h'[b]?=h[b]? := by
 obtain⟨vs,hl,⟨rfl,k,rfl⟩|⟨b,rfl,hb⟩⟩:=hv
 .refine⟨_,_,Z4 AQZ sz9 AQK ATQ (KJ h .full 1 [[.str s]]) (by simp) (OX (by simp) (by omega)),⟨[s],by simp,.inr ⟨h.length,rfl,CU _ _⟩⟩,fun b hb=>hb.symm,by simp,fun b hb _=>zS hb⟩
 .have hc:KQ h (.own b 0 vs.length)=some (1,vs.map encStr):=by
   rw[OQ hb (by simp),List.drop_zero,zH (by simp)]
  refine⟨_,_,UW AQZ sz9 AQK ATQ hc (KJ h .full 1 [[.str s]]) (by simp) (by unfold room; simp; omega),⟨vs++[s],by simp; omega,.inr ⟨h.length,by simp,by simp [encStr]⟩⟩,fun b hb=>hb.symm,by simp,fun o ho hn=>?_⟩;rw[zS (by simpa using ho)];have hn':¬b=o:=hn;rw[zI,if_neg hn']
def wRow (n dd:Nat)(f:Int)(v1 v2:AV):List AV:=[.int .i64 n,.int .i64 dd,.int .i64 f,v1,v2]
structure St (h:Hp) (c m1 m2 n dd:Nat) (f:Int) (v1 v2:AV):Prop where
 w:h[c]?=some (.live 5 [wRow n dd f v1 v2])
 s1:sv h m1 v1
 s2:sv h m2 v2
 ap:∀b,isB v1 b->¬isB v2 b
theorem sv.b {h:Hp}{m:Nat}{v:AV}{b:Nat}(hs:sv h m v)(hb:isB v b):∃vs:List ByteArray,h[b]?=some (.live 1 (vs.map encStr)):=by
 obtain⟨vs,_,⟨_,k,rfl⟩|⟨b',rfl,h'⟩⟩:=hs
 .exact hb.elim
 .cases hb; exact⟨vs,h'⟩
theorem sv.ne {h:Hp}{m b c:Nat}{v:AV}{row:List AV}(hs:sv h m v)(hc:h[c]?=some (.live 5 [row]))(hb:isB v b):b≠c:=by
 intro e; subst e;obtain⟨vs,h'⟩:=hs.b hb;rw[h'] at hc; cases hc
theorem sv.keep {h h':Hp}{m m':Nat}{v:AV}(hs:sv h m v)(hm:m<=m')(hk:∀b,isB v b->h'[b]?=h[b]?):sv h' m' v:=by
 obtain⟨vs,hl,⟨e,k,rfl⟩|⟨b,rfl,hb⟩⟩:=hs
 .exact⟨vs,by omega,.inl ⟨e,k,rfl⟩⟩
 .exact⟨vs,by omega,.inr ⟨b,rfl,by rw[hk b rfl]; exact hb⟩⟩
structure Ch (c:Nat) (v1 v2:AV) (h:Hp) (v1' v2':AV) (h':Hp):Prop where
 len:h.length<=h'.length
 get:∀b,b<h.length->b≠c->¬isB v1 b->¬isB v2 b->h'[b]?=h[b]?
 n1:∀b,isB v1' b->isB v1 b∨h.length<=b
 n2:∀b,isB v2' b->isB v2 b∨h.length<=b
theorem Ch.refl (c:Nat)(v1 v2:AV)(h:Hp):Ch c v1 v2 h v1 v2 h:=⟨jP _,fun _ _ _ _ _=>rfl,fun _ h=>.inl h,fun _ h=>.inl h⟩
theorem Ch.trans {c:Nat}{v1 v2 u1 u2 w1 w2:AV}{a b d:Hp}(h1:Ch c v1 v2 a u1 u2 b)(h2:Ch c u1 u2 b w1 w2 d):Ch c v1 v2 a w1 w2 d:=by
 refine⟨Nat.le_trans h1.len h2.len,fun i hi hc hv hu=>?_,fun i hi=>?_,fun i hi=>?_⟩
 .rw[h2.get i (Nat.lt_of_lt_of_le hi h1.len) hc (fun e=>(h1.n1 i e).elim hv (fun e=>by omega)) (fun e=>(h1.n2 i e).elim hu (fun e=>by omega)),h1.get i hi hc hv hu]
 .rcases h2.n1 i hi with h|h
  .exact h1.n1 i h
  .exact .inr (Nat.le_trans h1.len h)
 .rcases h2.n2 i hi with h|h
  .exact h1.n2 i h
  .exact .inr (Nat.le_trans h1.len h)
theorem Ch.app (c:Nat)(v1 v2:AV)(h x:Hp):Ch c v1 v2 h v1 v2 (h++x):=⟨by simp,fun _ hi _ _ _=>zS hi,fun _ h=>.inl h,fun _ h=>.inl h⟩
theorem Ch.set (c:Nat)(v1 v2:AV)(h:Hp)(x:ABlk):Ch c v1 v2 h v1 v2 (h.set c x):=⟨by simp,fun _ _ hc _ _=>by rw[zI,if_neg (fun e=>hc e.symm)],fun _ h=>.inl h,fun _ h=>.inl h⟩
theorem St.app {h:Hp}{c m1 m2 n dd:Nat}{f:Int}{v1 v2:AV}(s:St h c m1 m2 n dd f v1 v2)(x:Hp):St (h++x) c m1 m2 n dd f v1 v2:=by
 have keep:∀v m,sv h m v->sv (h++x) m v:=fun v m hv=>hv.keep (jP _) fun b hb=>by
  obtain⟨vs,h'⟩:=hv.b hb;exact zS (CB h')
 exact⟨RN s.w,keep _ _ s.s1,keep _ _ s.s2,s.ap⟩
theorem St.set {h:Hp}{c m1 m2 n dd:Nat}{f:Int}{v1 v2:AV}(s:St h c m1 m2 n dd f v1 v2)(n' dd':Nat)(f':Int):St (h.set c (.live 5 [wRow n' dd' f' v1 v2])) c m1 m2 n' dd' f' v1 v2:=by
 have keep:∀v m,sv h m v->sv (h.set c (.live 5 [wRow n' dd' f' v1 v2])) m v:=fun v m hv=>hv.keep (jP _) fun b hb=>by
  rw[zI,if_neg (fun e=>hv.ne s.w hb e.symm)]
 exact⟨DX s.w,keep _ _ s.s1,keep _ _ s.s2,s.ap⟩
section
variable {h:Hp} {c m1 m2 n dd:Nat} {f:Int} {v1 v2:AV} (s:St h c m1 m2 n dd f v1 v2)
include s
theorem St.l0:DF Tryz.prog h 3 (.ptr c 0 0)=some (.int .i64 n):=by rw[DJ ag3 s.w (row:=wRow n dd f v1 v2) rfl]; rfl
theorem St.l1:DF Tryz.prog h 3 (.ptr c 0 1)=some (.int .i64 dd):=by rw[DJ ag3 s.w (row:=wRow n dd f v1 v2) rfl]; rfl
theorem St.l2:DF Tryz.prog h 39 (.ptr c 0 2)=some (.int .i64 f):=by rw[DJ ag39 s.w (row:=wRow n dd f v1 v2) rfl]; rfl
theorem St.l3:DF Tryz.prog h 97 (.ptr c 0 3)=some v1:=by rw[DJ AQC s.w (row:=wRow n dd f v1 v2) rfl]; rfl
theorem St.l4:DF Tryz.prog h 97 (.ptr c 0 4)=some v2:=by rw[DJ AQC s.w (row:=wRow n dd f v1 v2) rfl]; rfl
theorem St.t0 (x:Nat):FO Tryz.prog h 3 (.ptr c 0 0) (.int .i64 x)=some (h.set c (.live 5 [wRow x dd f v1 v2])):=by
 rw[G7 (YF _ _) sz3 s.w (row:=wRow n dd f v1 v2) rfl (by simp [wRow])]; rfl
theorem St.t1 (x:Nat):FO Tryz.prog h 3 (.ptr c 0 1) (.int .i64 x)=some (h.set c (.live 5 [wRow n x f v1 v2])):=by
 rw[G7 (YF _ _) sz3 s.w (row:=wRow n dd f v1 v2) rfl (by simp [wRow])]; rfl
theorem St.t2 (x:Int):FO Tryz.prog h 39 (.ptr c 0 2) (.int .i64 x)=some (h.set c (.live 5 [wRow n dd x v1 v2])):=by
 rw[G7 (YF _ _) sz39 s.w (row:=wRow n dd f v1 v2) rfl (by simp [wRow])]; rfl
end
theorem St.app3 {h:Hp}{c m1 m2 n dd:Nat}{f:Int}{v1 v2:AV}(s:St h c m1 m2 n dd f v1 v2)(x:ByteArray)(hm:m1<=1099511627776) :
  ∃ v' h',IP Tryz.prog true h 97 97 v1 (.sl .full 1 [[.str x]])=some (v',h')∧FO Tryz.prog h' 97 (.ptr c 0 3) v'=some (h'.set c (.live 5 [wRow n dd f v' v2])) ∧
    St (h'.set c (.live 5 [wRow n dd f v' v2])) c (m1+1) m2 n dd f v' v2∧Ch c v1 v2 h v' v2 (h'.set c (.live 5 [wRow n dd f v' v2])):=by
 obtain⟨v',h',ha,hs,hb,hl,hk⟩:=AT2 x s.s1 hm;have hc1:¬isB v1 c:=fun e=>s.s1.ne s.w e rfl
 have hc2:¬isB v2 c:=fun e=>s.s2.ne s.w e rfl
 have hcl:=CB s.w;have hw:h'[c]?=some (.live 5 [wRow n dd f v1 v2]):=by rw[hk c hcl hc1]; exact s.w
 have hvc:∀b,isB v' b->b≠c:=fun b hb' e=>by have:=hb b hb'; omega
 have hac:JM v'=some [v']:=by
  obtain⟨vs,_,⟨_,k,rfl⟩|⟨b,rfl,_⟩⟩:=hs<;>rfl
 refine⟨v',h',ha,by rw[G7 hac AQ2 hw (row:=wRow n dd f v1 v2) rfl (by simp [wRow])]; rfl,⟨DX hw,hs.keep (jP _) fun b hb'=>?_,s.s2.keep (jP _) fun b hb'=>?_,fun b h1 h2=>?_⟩,⟨by simpa using hl,fun b hbl hne h1 h2=>?_,fun b hb'=>.inr (by rw[hb b hb']; exact jP _),fun b hb'=>.inl hb'⟩⟩
 .rw[zI,if_neg (fun e=>hvc b hb' e.symm)]
 .obtain⟨_,hx⟩:=s.s2.b hb'
  rw[zI,if_neg (fun e=>hc2 (by rw[e]; exact hb')),hk b (CB hx) (fun e=>s.ap b e hb')]
 .obtain⟨_,hx⟩:=s.s2.b h2
  have:=hb b h1; have:=CB hx; omega
 .rw[zI,if_neg (fun e=>hne e.symm),hk b hbl h1]
theorem St.app4 {h:Hp}{c m1 m2 n dd:Nat}{f:Int}{v1 v2:AV}(s:St h c m1 m2 n dd f v1 v2)(x:ByteArray)(hm:m2<=1099511627776) :
  ∃ v' h',IP Tryz.prog true h 97 97 v2 (.sl .full 1 [[.str x]])=some (v',h')∧FO Tryz.prog h' 97 (.ptr c 0 4) v'=some (h'.set c (.live 5 [wRow n dd f v1 v'])) ∧
    St (h'.set c (.live 5 [wRow n dd f v1 v'])) c m1 (m2+1) n dd f v1 v'∧Ch c v1 v2 h v1 v' (h'.set c (.live 5 [wRow n dd f v1 v'])):=by
 obtain⟨v',h',ha,hs,hb,hl,hk⟩:=AT2 x s.s2 hm;have hc1:¬isB v1 c:=fun e=>s.s1.ne s.w e rfl
 have hc2:¬isB v2 c:=fun e=>s.s2.ne s.w e rfl
 have hcl:=CB s.w;have hw:h'[c]?=some (.live 5 [wRow n dd f v1 v2]):=by rw[hk c hcl hc2]; exact s.w
 have hvc:∀b,isB v' b->b≠c:=fun b hb' e=>by have:=hb b hb'; omega
 have hac:JM v'=some [v']:=by
  obtain⟨vs,_,⟨_,k,rfl⟩|⟨b,rfl,_⟩⟩:=hs<;>rfl
 refine⟨v',h',ha,by rw[G7 hac AQ2 hw (row:=wRow n dd f v1 v2) rfl (by simp [wRow])]; rfl,⟨DX hw,s.s1.keep (jP _) fun b hb'=>?_,hs.keep (jP _) fun b hb'=>?_,fun b h1 h2=>?_⟩,⟨by simpa using hl,fun b hbl hne h1 h2=>?_,fun b hb'=>.inl hb',fun b hb'=>.inr (by rw[hb b hb']; exact jP _)⟩⟩
 .obtain⟨_,hx⟩:=s.s1.b hb'
  rw[zI,if_neg (fun e=>hc1 (by rw[e]; exact hb')),hk b (CB hx) (fun e=>s.ap b hb' e)]
 .rw[zI,if_neg (fun e=>hvc b hb' e.symm)]
 .obtain⟨_,hx⟩:=s.s1.b h1
  have:=hb b h2; have:=CB hx; omega
 .rw[zI,if_neg (fun e=>hne e.symm),hk b hbl h2]
def O3 (z:Int)(xs:List Ex):Int:=xs.foldl (fun z e=>if z=0 then JW e else z) z
theorem ZP (z:Int)(xs ys:List Ex):O3 z (xs++ys)=O3 (O3 z xs) ys:=List.foldl_append
theorem St.weak {h:Hp}{c m1 m2 m1' m2' n dd:Nat}{f:Int}{v1 v2:AV}(s:St h c m1 m2 n dd f v1 v2)(h1:m1<=m1')(h2:m2<=m2'):St h c m1' m2' n dd f v1 v2 :=
 ⟨s.w,s.s1.keep h1 fun _ _=>rfl,s.s2.keep h2 fun _ _=>rfl,s.ap⟩
def Md (e:Ex)(c d:Nat)(v1 v2:AV)(h:Hp)(m1 m2 n dd:Nat)(f:Int)(F:Nat->AV)(H:Hp):Prop :=
 F 0=.ptr c 0 0∧F 2=.int .i64 (d:Nat)∧F 4=.ptr h.length 0 0∧∃u1 u2,St H c m1 m2 n dd f u1 u2∧Ch c v1 v2 (h++[.live 4 [EF e]]) u1 u2 H
theorem YW (xs:List Ex):(IR xs).length<=wts xs:=by
 induction xs with
 | nil=>simp [IR,wts]
 | cons x xs ih=>have:=XM x; simp only[IR,wts,zT]; omega
theorem ACQ:∀(xs:List Ex) (j:Nat) (hj:j<xs.length),wts (xs.take j)+wt xs[j]<=wts xs
 | x::xs,0,_=>by simp [wts]
 | x::xs,j+1,h=>by
   have:=ACQ xs j (by simpa using h);simp only[wJ,wts,List.getElem_cons_succ]; omega
theorem UM:∀(xs:List Ex) (j:Nat),deps (xs.take j)<=wts xs
 | [],j=>by simp [deps,wts]
 | x::xs,0=>by simp [deps]
 | x::xs,j+1=>by
   have h1:=UM xs j;have h2:=ATJ x;simp only[wJ,deps,wts]; omega
theorem AVA (G:Nat->AV)(c:Nat)(e:Ex):WN e->∀(h:Hp) (d n dd:Nat) (f:Int) (v1 v2:AV),d+wt e<=549755813888->n+wt e<=549755813888->dd<=1099511627776->St h c n n n dd f v1 v2 ->
  ACalls (En G) 116 [.ptr c 0 0,.agg (EF e),.int .i64 (d:Nat)] h fun _ h'=>∃u1 u2,St h' c (n+(pre e).length) (n+(pre e).length) (n+(pre e).length) (max dd (d+deps e.args)) (O3 f (pre e)) u1 u2∧Ch c v1 v2 h u1 u2 h':=by
 induction e using Ex.induct with|h e ih=>?_
 intro hwn h d n dd f v1 v2 hd hn hdd s;have hw:=hwn.1;have hnm:e.name.size<=1048576:=hwn.2 e (by rw[pre_eq]; simp);have hal:e.args.length<=wts e.args:=YK e.args;have hwe:=QU e;have hcl:=CB s.w
 have hbox:∀(u1 u2:AV) (H:Hp),Ch c v1 v2 (h++[.live 4 [EF e]]) u1 u2 H->H[h.length]?=some (.live 4 [EF e]):=by
  intro u1 u2 H hC;rw[hC.get h.length (by simp) (by omega) (fun hb=>?_) (fun hb=>?_)]
  .exact CU _ _
  .obtain⟨_,hx⟩:=s.s1.b hb
   have:=CB hx; omega
  .obtain⟨_,hx⟩:=s.s2.b hb
   have:=CB hx; omega
 have lb0:∀H:Hp,H[h.length]?=some (.live 4 [EF e])->DF Tryz.prog H 3 (.ptr h.length 0 0)=some (.int .i64 e.op):=fun H hH=>by rw[DJ ag3 hH (row:=EF e) rfl,J9]
 have lb2:∀H:Hp,H[h.length]?=some (.live 4 [EF e])->DF Tryz.prog H 9 (.ptr h.length 0 2)=some (.str e.name):=fun H hH=>by rw[DJ ag9 hH (row:=EF e) rfl,PH]
 have lb3:∀H:Hp,H[h.length]?=some (.live 4 [EF e])->DF Tryz.prog H 23 (.ptr h.length 0 3)=some (.sl e.m 4 (e.args.map EF)):=fun H hH=>by rw[DJ VX hH (row:=EF e) rfl,VQ]
 refine IV (H:=hint [56,85] []) (enM G) Tryz.func116 rfl (by kernel_rfl) (by kernel_rfl) (jH (by kernel_rfl)) ?_;show awp _ _ _ _ _ (EK _ [] _);have s0:=s.app [.live 4 [EF e]];have c0:=Ch.app c v1 v2 h [.live 4 [EF e]];simp -implicitDefEqProofs only[vQ,jW,jI,jK,jV,BD,↓reduceIte,jA,enP,AHD,ADU,jO,bxE,s0.l0,wrap_succ (show n<9223372036854775807 by omega),s0.t0];have s1:=s0.set (n+1) dd f;have c1:=Ch.set c v1 v2 (h++[.live 4 [EF e]]) (.live 5 [wRow (n+1) dd f v1 v2]);clear s0;generalize (h++[ABlk.live 4 [EF e]]).set c (.live 5 [wRow (n+1) dd f v1 v2])=H1 at s1 c1|-;simp -implicitDefEqProofs only[vQ,jW,jI,jK,jV,BD,↓reduceIte,jA,enP,s1.l1];refine QG (Md e c d v1 v2 h n n (n+1) (max dd d) f) (fun _ _=>False) (fun hb=>?_) (fun hb=>?_) ?_ (fun _ _ hh=>hh.elim)
 .simp -implicitDefEqProofs only[vQ,jW,jI,jK,jV,BD,↓reduceIte,jA,enP,ADU,jO,s1.t1]
  refine⟨rfl,rfl,rfl,v1,v2,?_,c1.trans (Ch.set c _ _ _ _)⟩;have:max dd d=d:=by simp at hb; omega
  rw[this];exact s1.set (n+1) d f
 .simp -implicitDefEqProofs only[vQ]
  refine⟨rfl,rfl,rfl,v1,v2,?_,c1⟩;have:max dd d=dd:=by simp at hb; omega
  rw[this];exact s1
 clear s1 c1;rintro F H ⟨f0,f2,f4,u1,u2,s,hC⟩;simp -implicitDefEqProofs only[vQ,jW,jI,jK,jV,BD,↓reduceIte,enP,XV,f0,s.l2];refine QG (Md e c d v1 v2 h n n (n+1) (max dd d) (O3 f [e])) (fun _ _=>False) (fun hb=>?_) (fun hb=>?_) ?_ (fun _ _ hh=>hh.elim)
 .simp -implicitDefEqProofs only[vQ,jW,jI,jK,jV,BD,↓reduceIte,jA,enP,f0,f2,f4,JH (hbox _ _ _ hC)]
  refine(AE7 G e _ hnm).use ?_;simp -implicitDefEqProofs only[vQ,jW,jI,jK,jV,BD,↓reduceIte,jA,enP,XV,jO,s.t2,f0,f2,f4];refine⟨f0,f2,f4,u1,u2,?_,hC.trans (Ch.set c _ _ _ _)⟩
  have:O3 f [e]=JW e:=by
   have:f=0:=by simpa using hb
   subst this; rfl
  rw[this];exact s.set _ _ _
 .simp -implicitDefEqProofs only[vQ]
  refine⟨f0,f2,f4,u1,u2,?_,hC⟩
  have:O3 f [e]=f:=by
   have:f≠0:=by simpa using hb
   show(if f=0 then JW e else f)=f;rw[if_neg this]
  rw[this]; exact s
 clear f0 f2 f4 s hC;rintro F H ⟨f0,f2,f4,u1,u2,s,hC⟩;simp -implicitDefEqProofs only[vQ];refine GL (by kernel_rfl) ?_;have hB:=hbox _ _ _ hC;refine AH2 (fun F H=>(∃b,F 47=.bool b)∧Md e c d v1 v2 h n n (n+1) (max dd d) (O3 f [e]) F H) ?_ ?_
 .cases b2:(e.op==2)
  .simp -implicitDefEqProofs only[vQ,jW,jI,jK,jV,U6,CV,EY,↓reduceIte,jA,jM,enP,F7,f0,f2,f4,lb0 _ hB,b2]
   exact⟨⟨_,rfl⟩,f0,f2,f4,u1,u2,s,hC⟩
  .obtain⟨r,hr⟩:=ASN G e.name s.s1 (by omega)
   simp -implicitDefEqProofs only[vQ,jW,jI,jK,jV,QM,AH3,CV,↓reduceIte,jA,jM,enP,F7,LM,ADT,f0,f2,f4,lb0 _ hB,lb2 _ hB,b2,s.l3];refine⟨_,hr,?_⟩;simp -implicitDefEqProofs only[vQ,jW,jI,jK,jV,↓reduceIte,jA,jM,f0,f2,f4];exact⟨⟨_,rfl⟩,f0,f2,f4,u1,u2,s,hC⟩
 clear f0 f2 f4 s hC hB;rintro F H ⟨⟨b,f47⟩,f0,f2,f4,u1,u2,s,hC⟩;have hB:=hbox _ _ _ hC;simp -implicitDefEqProofs only[vQ,f47];refine QG (Md e c d v1 v2 h (n+1) n (n+1) (max dd d) (O3 f [e])) (fun _ _=>False) (fun hb=>?_) (fun hb=>?_) ?_ (fun _ _ hh=>hh.elim)
 .obtain⟨v',H',ha,ht,s',hC'⟩:=s.app3 e.name (by omega)
  refine GL (by kernel_rfl) ?_;simp -implicitDefEqProofs only[vQ,jW,jI,jK,jV,KZ,JJ,MC,↓reduceIte,jA,jM,enP,LM,ADT,jO,f0,f2,f4,lb2 _ hB,s.l3,AJ6,ha,ht];exact⟨f0,f2,f4,_,_,s',hC.trans hC'⟩
 .simp -implicitDefEqProofs only[vQ]
  exact⟨f0,f2,f4,_,_,s.weak (by omega) (by omega),hC⟩
 clear f0 f2 f4 s hC hB;rintro F H ⟨f0,f2,f4,u1,u2,s,hC⟩;have hB:=hbox _ _ _ hC;simp -implicitDefEqProofs only[vQ];refine GL (by kernel_rfl) ?_;refine AH2 (fun F H=>(∃b,F 76=.bool b)∧Md e c d v1 v2 h (n+1) n (n+1) (max dd d) (O3 f [e]) F H) ?_ ?_
 .obtain⟨r,hr⟩:=ASN G e.name s.s2 (by omega)
  cases b2:(e.op==3)
  .cases b3:(e.op==24)
   .simp -implicitDefEqProofs only[vQ,jW,jI,jK,jV,U6,CV,EY,↓reduceIte,jA,jM,enP,F7,f0,f2,f4,lb0 _ hB,b2,b3]
    exact⟨⟨_,rfl⟩,f0,f2,f4,u1,u2,s,hC⟩
   .simp -implicitDefEqProofs only[vQ,jW,jI,jK,jV,QM,AH3,CV,↓reduceIte,jA,jM,enP,F7,LM,XU,f0,f2,f4,lb0 _ hB,lb2 _ hB,b2,b3,s.l4]
    refine⟨_,hr,?_⟩;simp -implicitDefEqProofs only[vQ,jW,jI,jK,jV,↓reduceIte,jA,jM,f0,f2,f4];exact⟨⟨_,rfl⟩,f0,f2,f4,u1,u2,s,hC⟩
  .simp -implicitDefEqProofs only[vQ,jW,jI,jK,jV,QM,AH3,CV,EY,↓reduceIte,jA,jM,enP,F7,LM,XU,f0,f2,f4,lb0 _ hB,lb2 _ hB,b2,s.l4]
   refine⟨_,hr,?_⟩;simp -implicitDefEqProofs only[vQ,jW,jI,jK,jV,↓reduceIte,jA,jM,f0,f2,f4];exact⟨⟨_,rfl⟩,f0,f2,f4,u1,u2,s,hC⟩
 clear f0 f2 f4 s hC hB f47;rintro F H ⟨⟨b,f76⟩,f0,f2,f4,u1,u2,s,hC⟩;have hB:=hbox _ _ _ hC;simp -implicitDefEqProofs only[vQ,f76];refine QG (Md e c d v1 v2 h (n+1) (n+1) (n+1) (max dd d) (O3 f [e])) (fun _ _=>False) (fun hb=>?_) (fun hb=>?_) ?_ (fun _ _ hh=>hh.elim)
 .obtain⟨v',H',ha,ht,s',hC'⟩:=s.app4 e.name (by omega)
  refine GL (by kernel_rfl) ?_;simp -implicitDefEqProofs only[vQ,jW,jI,jK,jV,Bool.or_true,KZ,JJ,MC,↓reduceIte,jA,jM,enP,LM,XU,jO,f0,f2,f4,lb2 _ hB,s.l4,AJ6,ha,ht];exact⟨f0,f2,f4,_,_,s',hC.trans hC'⟩
 .simp -implicitDefEqProofs only[vQ]
  exact⟨f0,f2,f4,_,_,s.weak (by omega) (by omega),hC⟩
 clear f0 f2 f4 s hC hB f76;rintro F H ⟨f0,f2,f4,u1,u2,s,hC⟩;simp -implicitDefEqProofs only[vQ,jW,jI,jK,jV,BD];refine D7 (fun k F H=>∃j,k+j=e.args.length∧F 6=.int .i64 (j:Nat)∧Md e c d v1 v2 h (n+1+(IR (e.args.take j)).length) (n+1+(IR (e.args.take j)).length) (n+1+(IR (e.args.take j)).length) (max dd (d+deps (e.args.take j))) (O3 (O3 f [e]) (IR (e.args.take j))) F H) e.args.length ⟨0,by simp,rfl,f0,f2,f4,u1,u2,s,hC⟩ ?_;clear f0 f2 f4 s hC;rintro k F H ⟨j,hj,f6,f0,f2,f4,u1,u2,s,hC⟩;have hB:=hbox _ _ _ hC;simp -implicitDefEqProofs only[vQ,jW,jI,jK,jV,BD,↓reduceIte,jA,enP,WT,ND,f6,f4,lb3 _ hB,jR];refine C9 (fun hlt=>?_) (fun hlt=>?_)
 .have hj':j<e.args.length:=by simpa using hlt
  have hmem:e.args[j]∈e.args:=zC hj';have hwa:=V4 hmem
  have hpl:(IR (e.args.take j)).length+(pre e.args[j]).length<=wts e.args:=by
   have h1:=YW e.args
   have h2:IR e.args=IR (e.args.take j)++(pre e.args[j]++IR (e.args.drop (j+1))):=by
    rw[<-zJ,<-KW _ _ hj',<-MS,List.take_append_drop]
   rw[h2] at h1; simp at h1; omega
  have hsp:(IR (e.args.take j)).length+wt e.args[j]<=wts e.args:=by
   have h1:=YW (e.args.take j);have h2:=ACQ e.args j hj';omega
  have hdt:deps (e.args.take j)<=wts e.args:=UM e.args j;simp -implicitDefEqProofs only[vQ,jW,jI,jK,jV,BD,↓reduceIte,jA,enP,AAO,ND,f0,f2,f4,f6,lb3 _ hB,EZ hj',GM YB RX IZ hj',wrap_succ (show d<9223372036854775807 by omega)];refine(ih e.args[j] hmem ⟨by omega,fun x hx=>hwn.2 x (by rw[pre_eq]; exact List.mem_cons_of_mem _ (YX hmem x hx))⟩ H (d+1) _ _ _ u1 u2 (by omega) (by omega) (by omega) s).mono ?_;rintro v H' ⟨w1,w2,s',hC'⟩;simp -implicitDefEqProofs only[vQ,jW,jI,jK,jV,BD,↓reduceIte,jA,enP,f6,wrap_succ (show j<9223372036854775807 by omega)];refine⟨k-1,by omega,j+1,by omega,rfl,f0,f2,f4,w1,w2,?_,hC.trans hC'⟩;rw[KW _ _ hj',AA4 _ _ hj',ZP,zT]
  have e1:max (max dd (d+deps (e.args.take j))) (d+1+deps e.args[j].args)=max dd (d+max (deps (e.args.take j)) (dep e.args[j])):=by
   rw[AA5]; omega
  rw[e1,Nat.add_assoc (n+1)] at s';exact s'
 .have hj':¬j<e.args.length:=by simpa using hlt
  rw[zH (by omega)] at s;simp -implicitDefEqProofs only[vQ,AAZ,↓reduceIte];refine⟨u1,u2,?_,c0.trans hC⟩;have e1:n+1+(IR e.args).length=n+(pre e).length:=by rw[pre_eq]; simp; omega
  have e2:O3 (O3 f [e]) (IR e.args)=O3 f (pre e):=by rw[pre_eq,<-ZP]; rfl
  rw[e1,e2] at s;exact s
theorem AYI:KD Tryz.prog 99 []=some (.agg [.int .i64 0,.int .i64 0,.int .i64 0,.sl .nil 0 [],.sl .nil 0 []]):=by kernel_rfl
theorem AYE (h:Hp):MG h (.agg [.int .i64 0,.int .i64 0,.int .i64 0,.sl .nil 0 [],.sl .nil 0 []])=some (.ptr h.length 0 0,h++[.live 5 [wRow 0 0 0 (.sl .nil 0 []) (.sl .nil 0 [])]]):=WO rfl
theorem AI4 (G:Nat->AV)(e:Ex)(hwn:WN e)(h:Hp) :
  ACalls (En G) 57 [.agg (EF e)] h fun v h'=>∃c m u1 u2,v=.ptr c 0 0∧St h' c m m (pre e).length (dep e) (errs (pre e)) u1 u2∧∃x,h'=h++x:=by
 refine acN Tryz.func57 rfl ?_;show awp _ _ _ _ _ (EK _ [.tmp 2] _);simp -implicitDefEqProofs only[vQ,BD,SQ,↓reduceIte,jA,enP,bxE,AYI,AYE,JH (BO (CU h _))];have nb:∀b,¬isB (.sl .nil 0 []) b:=fun b hb=>hb
 have hw:=hwn.1;refine(AVA G _ e hwn _ 1 0 0 0 (.sl .nil 0 []) (.sl .nil 0 []) (by omega) (by omega) (by omega) ⟨CU _ _,⟨[],by simp,.inl ⟨rfl,_,rfl⟩⟩,⟨[],by simp,.inl ⟨rfl,_,rfl⟩⟩,fun b hb=>(nb b hb).elim⟩).mono ?_;rintro v h' ⟨u1,u2,s,hC⟩;simp -implicitDefEqProofs only[vQ,BD,↓reduceIte,jA];have e1:0+(pre e).length=(pre e).length:=jG _;have e2:max 0 (1+deps e.args)=dep e:=by rw[AA5]; omega
 rw[e1,e2] at s;refine⟨_,_,u1,u2,rfl,s,?_⟩;have hC2:=((Ch.app (h++[ABlk.live 4 [EF e]]).length (.sl .nil 0 []) (.sl .nil 0 []) h [.live 4 [EF e]]).trans (Ch.app _ _ _ _ [.live 5 [wRow 0 0 0 (.sl .nil 0 []) (.sl .nil 0 [])]])).trans hC;refine Chg.above (c:=(h++[ABlk.live 4 [EF e]]).length) ⟨hC2.len,fun b hb hne=>hC2.get b hb hne (nb b) (nb b)⟩ (by simp)
theorem AHG (G:Nat->AV)(e:Ex)(h:Hp)(hw:WN e):PCall (En G) 32 [.agg (EF e)] h (.int .i64 (exE e)):=by
 refine ACalls.pure0 rfl ?_;refine acN Tryz.func32 rfl ?_;show awp _ _ _ _ _ (EK _ [.tmp 2] _);simp -implicitDefEqProofs only[vQ,BD,↓reduceIte,jA,enP,bxE,ldE];refine(AI4 G e hw _).mono ?_;rintro v h' ⟨c,m,u1,u2,rfl,s,x,rfl⟩;simp -implicitDefEqProofs only[vQ,CV,BD,↓reduceIte,enP,XV,s.l2];rcases he:(errs (pre e)==0) with _|_
 .simp -implicitDefEqProofs only[vQ,CV,VA,BD,EY,↓reduceIte,jA,enP,XV,s.l2]
  have:errs (pre e)≠0:=by simpa using he
  exact⟨by unfold exE; rw[if_neg (fun hh=>this hh.1)],_,by rw[zJ]⟩
 have he0:errs (pre e)=0:=by simpa using he
 simp -implicitDefEqProofs only[vQ,CV,BD,↓reduceIte,jA,enP,ADU,s.l1];refine KR (fun hd=>?_) (fun hd=>?_)
 .simp -implicitDefEqProofs only[vQ,CV,BD,EY,↓reduceIte,jA,hd]
  exact⟨by unfold exE; rw[if_pos ⟨he0,.inl (by simp at hd; omega)⟩],_,by rw[zJ]⟩
 simp -implicitDefEqProofs only[vQ,CV,BD,↓reduceIte,jA,enP,AHD,hd,s.l0];refine C9 (fun hn=>?_) (fun hn=>?_)
 .simp -implicitDefEqProofs only[vQ,BD,↓reduceIte]
  exact⟨by unfold exE; rw[if_pos ⟨he0,.inr (by simp at hn; omega)⟩],_,by rw[zJ]⟩
 .simp -implicitDefEqProofs only[vQ,BD,↓reduceIte,jA,enP,XV,s.l2]
  exact⟨by unfold exE; rw[if_neg (fun hh=>by simp at hn hd; omega)],_,by rw[zJ]⟩
theorem ABN (G:Nat->AV)(e:Ex)(h:Hp)(hw:wt e<=1048576):PCall (En G) 32 [.agg (EF e)] h (.int .i64 (exE e)):=AHG G e h (AOS hw)
end Go.Proofs.YtgnoolgeijmlaaaGreatDoor.Cov
