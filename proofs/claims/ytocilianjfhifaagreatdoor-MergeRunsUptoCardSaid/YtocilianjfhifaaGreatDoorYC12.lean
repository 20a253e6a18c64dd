/- Part 12 of the proof (X2, X3, X4, X5, X6); no condition. -/
import Derived.Test.YtocilianjfhifaaGreatDoorYC11
set_option linter.unusedVariables false
set_option linter.unusedSimpArgs false
set_option maxRecDepth 8000
namespace Go.Proofs.YtocilianjfhifaaGreatDoor.Xe
open Sm Bins Cov Go.RowKit
open Bool renaming not_false→jC,not_true→jT
open List renaming getElem_mem→jS,map_cons→jD,map_nil→jE,append_nil→jF,getElem?_set→zK,getElem?_eq_getElem→jU,nil_append→zY,cons_append→qK,length_append→qB
open Nat renaming le_of_ble_eq_true→jH,reduceEqDiff→jA,zero_add→jG
open Option renaming getD_some→jB,getD_none→jP
theorem A06:Frz encStr:=fun _ _ _ _=>⟨rfl,rfl⟩
theorem encStr0 (s:ByteArray):(encStr s)[0]?=some (.str s):=rfl
theorem AQ5 (G:Nat->AV)(xs:List ByteArray)(b:Nat)(v:ByteArray)(h:Hp)(hb:h[b]?=some (.live 1 (xs.map encStr)))(hl:xs.length<=1099511627776) :
  ∃k:Int,PCall (En G) 257 [.own b 0 xs.length,.str v] h (.int .i64 k)∧decide (k≥0)=I4 xs v:=by
 have key:∀r:Int,(∀i (hi:i<xs.length),(∀j (hj:j<i),(v.toList==xs[j].toList)=false)->(v.toList==xs[i].toList)=true->r=(i:Int))->(I4 xs v=false->r = -1)->PCall (En G) 257 [.own b 0 xs.length,.str v] h (.int .i64 r):=by
  intro r hr hr0;refine acN Tryz.func257 rfl ?_;show awp _ _ _ _ _ (EN _ [.tmp 4] _);simp -implicitDefEqProofs only[BC,BP,BA,A8,AY,BB,AO,AQ,AL,BD,AX,AC,AA,AZ,AU,BH,BG,A7,D7,AB,BF,↓reduceIte,jA,jB,jC,enP,ABK];refine DK (fun n F H=>∃k,n+k=xs.length∧F 0=.own b 0 xs.length∧F 1=.str v∧F 7=.int .i64 (xs.length:Nat)∧F 8=.int .i64 (k:Nat)∧H=h∧(∀j (hj:j<xs.length),j<k->(v.toList==xs[j].toList)=false)∧I4 xs v=I4 (xs.drop k) v) xs.length ⟨0,by simp,by simp -implicitDefEqProofs only[AA,BF,↓reduceIte,jA],by simp -implicitDefEqProofs only[AA,BF,BN,↓reduceIte,jA],by simp -implicitDefEqProofs only[AA,↓reduceIte,jA],by simp -implicitDefEqProofs only[AA,↓reduceIte]; rfl,rfl,fun j _ hj=>by omega,rfl⟩ ?_;rintro n F H ⟨k,hk,f0,f1,f7,f8,rfl,hbef,hin⟩;simp -implicitDefEqProofs only[BC,BA,BI,A8,AY,BB,AO,AQ,AL,BD,AX,AC,AA,AZ,BR,AB,DC,↓reduceIte,jB,jC,enP,f7,f8];refine CU (fun hc=>?_) (fun hc=>?_)
  .have hk':k<xs.length:=by simpa using hc
   have hs:I4 (xs.drop k) v=((v.toList==xs[k].toList)||I4 (xs.drop (k+1)) v):=LD _ xs k hk';have l1:EH Tryz.prog H 9 (.ptr b k 0)=some (.str xs[k]):=by rw[DW ag9 hb (row:=encStr xs[k]) (ND hk')]; rfl
   simp -implicitDefEqProofs only[BC,BP,BA,BO,BI,A8,AY,BB,AO,AQ,AL,BD,AX,AC,AA,AZ,BG,A7,BQ,BR,CE,AB,ML,↓reduceIte,jA,jG,jB,jC,enP,AGA,f0,f1,f8,L6 hb hk',l1];refine CU (fun hx=>?_) (fun hx=>?_)
   .simp -implicitDefEqProofs only[BC,BA,BK,A8,CP,EG,FQ,CG,AY,BB,AO,AQ,AL,BD,AX,AC,AA,AZ,BG,A7,↓reduceIte,jA,jB,jC]
    exact⟨by rw[hr k hk' (fun j hj=>hbef j (by omega) hj) hx],trivial⟩
   .simp -implicitDefEqProofs only[BA,BO,A8,EJ,EQ,AY,BB,AO,AQ,AL,BD,AX,AC,AA,AZ,AU,BH,BG,BR,AB,CZ,↓reduceIte,jA,jB,jC,enP,f8,wrap_succ (show k<9223372036854775807 by omega)]
    refine⟨n-1,by omega,k+1,by omega,by trivial,by trivial,by trivial,rfl,trivial,fun j hj hjk=>?_,by rw[hin,hs,hx,Bool.false_or]⟩;rcases Nat.lt_or_ge j k with h1|h1
    .exact hbef j hj h1
    .have:j=k:=by omega
     subst this; exact hx
  .have hk':¬k<xs.length:=by simpa using hc
   simp -implicitDefEqProofs only[BC,BA,BK,DJ,A8,EI,EW,ET,CG,AY,BB,AO,AQ,AL,BD,AX,AC,AA,AU,BH,A7,↓reduceIte,jB,jC];refine⟨?_,trivial⟩;rw[hr0 (by rw[hin,List.drop_eq_nil_of_le (by omega)]; rfl)]
 by_cases hh:I4 xs v=true
 .obtain⟨i,hi⟩:∃i,xs.findIdx? (fun u=>v.toList==u.toList)=some i:=by
   cases he:xs.findIdx? (fun u=>v.toList==u.toList) with
   | some i=>exact⟨i,rfl⟩
   | none =>
     rw[List.findIdx?_eq_none_iff] at he;unfold I4 at hh;rw[List.any_eq_true] at hh;obtain⟨x,hx,hz⟩:=hh;rw[he x hx] at hz; cases hz
  obtain⟨hil,hiz,hbef⟩:=List.findIdx?_eq_some_iff_getElem.1 hi;refine⟨(i:Int),key i (fun k hk hb' hx=>?_) (fun h0=>by rw[hh] at h0; cases h0),by rw[hh]; simp⟩;rcases Nat.lt_trichotomy i k with h1|h1|h1
  .have:=hb' i h1; rw[hiz] at this; cases this
  .rw[h1]
  .have:=hbef k h1; rw[hx] at this; simp at this
 .have hh':I4 xs v=false:=by simpa using hh
  refine⟨-1,key (-1) (fun k hk _ hx=>?_) (fun _=>rfl),by rw[hh']; decide⟩;unfold I4 at hh';rw[List.any_eq_false] at hh';exact absurd hx (hh' xs[k] (jS hk))
theorem AQ6 (G:Nat->AV)(k:Nat)(v:ByteArray)(h:Hp):PCall (En G) 257 [.sl .nil k [],.str v] h (.int .i64 (-1)):=by
 refine acN Tryz.func257 rfl ?_;show awp _ _ _ _ _ (EN _ [.tmp 4] _);simp -implicitDefEqProofs only[BC,BP,BA,A8,AY,BB,AO,AQ,AL,BD,AX,AC,AA,AZ,AU,BH,BG,A7,D7,AB,BF,↓reduceIte,jA,jB,jC,enP,ABK,List.length_nil];refine DK (fun n F H=>F 7=.int .i64 0∧F 8=.int .i64 0∧H=h) 0 ⟨by simp -implicitDefEqProofs only[AA,↓reduceIte,jA]<;>rfl,by simp -implicitDefEqProofs only[AA,↓reduceIte],rfl⟩ ?_;rintro n F H ⟨f7,f8,rfl⟩;have hc:((0:Int)<0)=False:=by simp
 simp -implicitDefEqProofs only[BC,BA,BK,DJ,BI,A8,EI,EW,ET,CG,DT,AY,BB,AO,AQ,AL,BD,AX,AC,AA,AZ,AU,BH,A7,BR,AB,DC,↓reduceIte,jB,jC,decide_false,enP,f7,f8,hc,decide_false];exact⟨by trivial,trivial⟩
theorem A3B (G:Nat->AV){h0 h:Hp}{ns:List ByteArray}{u:AV}(ho:outG 1 encStr h0 ns u h)(v:ByteArray)(hl:ns.length<=8388608):PCall (En G) 229 [u,.str v] h (.bool (I4 ns v)):=by
 have hi:∃k:Int,PCall (En G) 257 [u,.str v] h (.int .i64 k)∧decide (k≥0)=I4 ns v:=by
  rcases ho with⟨rfl,rfl⟩|⟨_,o,_,rfl,hb⟩
  .exact⟨-1,AQ6 G 0 v h,rfl⟩
  .exact AQ5 G ns o v h hb (by omega)
 obtain⟨k,hk,hd⟩:=hi;refine acN Tryz.func229 rfl ?_;show awp _ _ _ _ _ (EN _ [.tmp 4] _);simp -implicitDefEqProofs only[BC,BA,A8,AY,BB,AO,AQ,AL,BD,AX,AC,AA,AZ,AU,BX,BM,BG,A7,CB,BU,BF,BN,jD,jE,jF,↓reduceIte,jA,jB,jC,enP];refine hk.use ?_;simp -implicitDefEqProofs only[BK,A8,CG,AY,BB,AO,AQ,AL,BD,AX,AC,AA,AZ,AU,BH,A7,BR,AB,G5,↓reduceIte,jB,jC,enP,hd];exact⟨trivial,trivial⟩
def nmU (ops:List Int)(ns:List ByteArray)(e:Ex):List ByteArray:=if(Rk.hasB ops e.op && !I4 ns e.name)=true then ns++[e.name] else ns
def nmL (ops:List Int)(ns:List ByteArray)(l:List Ex):List ByteArray:=l.foldl (nmU ops) ns
theorem AO0 (ops:List Int)(ns:List ByteArray)(e:Ex):(nmU ops ns e).length<=ns.length+1:=by
 unfold nmU; split<;>simp
theorem ACR (ops:List Int):∀(l:List Ex) (ns:List ByteArray),(nmL ops ns l).length<=ns.length+l.length
 | [],ns=>by simp [nmL]
 | e::l,ns=>by
   have h1:=ACR ops l (nmU ops ns e);have h2:=AO0 ops ns e
   simp only[nmL,List.foldl_cons,List.length_cons] at h1|-
   omega
theorem AXJ (ops:List Int)(ns:List ByteArray)(l r:List Ex):nmL ops ns (l++r)=nmL ops (nmL ops ns l) r:=List.foldl_append
structure NSt (h0:Hp) (c:Nat) (ns:List ByteArray) (v:AV) (h:Hp):Prop where
 cell:h[c]?=some (.live 1 [[v]])
 out:outG 1 encStr h0 ns v h
 base:h0.length<=c
 ex:ext h0 h
abbrev Cn (c:Nat)(v:AV)(h:Hp)(v':AV)(h':Hp):Prop:=Ch c v .nilfn h v' .nilfn h'
theorem NSt.ne {h0 h:Hp}{c b k:Nat}{ns:List ByteArray}{v:AV}{row:List AV}(s:NSt h0 c ns v h)(hb:h[b]?=some (.live k [row]))(hr:k≠1∨∀x,row≠[.str x]):¬isB v b:=by
 intro hi;rcases s.out with⟨_,rfl⟩|⟨hne,o,_,rfl,ho⟩
 .exact hi
 .have e:o=b:=hi
  subst e;rw[ho] at hb
  injection Option.some.inj hb with e1 e2
  rcases hr with hr|hr
  .exact hr e1.symm
  .match ns,e2 with
   | [x],e2=>simp [encStr] at e2; exact hr x e2.symm
theorem NSt.app {h0 h:Hp}{c:Nat}{ns:List ByteArray}{v:AV}(s:NSt h0 c ns v h)(x:Hp):NSt h0 c ns v (h++x):=⟨FX s.cell,s.out.app x,s.base,s.ex.app x⟩
theorem NSt.cne {h0 h:Hp}{c:Nat}{ns:List ByteArray}{v:AV}(s:NSt h0 c ns v h):¬isB v c:=by
 refine s.ne s.cell (.inr fun x e=>?_);rcases s.out with⟨_,rfl⟩|⟨_,o,_,rfl,_⟩<;>simp at e
theorem Cn.keep {c b:Nat}{h h':Hp}{v v':AV}{x:ABlk}(hc:Cn c v h v' h')(hb:h[b]?=some x)(hne:b≠c)(hn:¬isB v b):h'[b]?=some x:=by
 rw[hc.get b (CJ hb) hne hn (fun e=>e)]; exact hb
theorem AI6 (G:Nat->AV)(ops:List Int)(hops:ops.length<=1048576)(h0:Hp)(c ob:Nat)(s0:SM)(e:Ex)(h:Hp)(ns:List ByteArray)(v:AV)(S:NSt h0 c ns v h)(hob:h[ob]?=some (.live 1 [[.sl s0 1 (ops.map encI)]]))(hn:ns.length<8388608) :
  ACalls (En G) 261 [.agg (FH e),.ptr ob 0 0,.ptr c 0 0] h fun r h'=>r=.bool true∧∃v',Cn c v h v' h'∧NSt h0 c (nmU ops ns e) v' h':=by
 refine acN Tryz.func261 rfl ?_;show awp _ _ _ _ _ (EN _ [.tmp 4] _);have S1:=S.app [ABlk.live 4 [FH e]];have hob1:(h++[ABlk.live 4 [FH e]])[ob]?=_:=CV hob;have hC1:Cn c v h v (h++[ABlk.live 4 [FH e]]):=Ch.app c v .nilfn h _;have ge:=CY h (ABlk.live 4 [FH e]);have hcl:=CJ S.cell;simp -implicitDefEqProofs only[BC,BA,A8,AY,BB,AO,AQ,AL,BD,AX,AC,AA,AZ,AU,BM,A7,FU,BQ,BZ,BF,BN,↓reduceIte,jA,jB,jC,enP,bxE]
 generalize h++[ABlk.live 4 [FH e]]=H at S1 hob1 hC1 ge|-
 have l0:EH Tryz.prog H 3 (.ptr h.length 0 0)=some (.int .i64 e.op):=by rw[DW ag3 ge (row:=FH e) rfl,KN]
 have l2:EH Tryz.prog H 9 (.ptr h.length 0 2)=some (.str e.name):=by rw[DW ag9 ge (row:=FH e) rfl,QN]
 simp -implicitDefEqProofs only[AY,AO,AQ,AL,BD,AX,AC,AA,AZ,BX,BQ,BJ,CB,BU,AB,jD,jE,jF,↓reduceIte,jA,Nat.add_zero,jB,jC,enP,IW,JS KC hob1,l0];refine(Rk.contains_rank G ops s0 e.op H hops).use ?_;simp -implicitDefEqProofs only[AY,BL,BV,CO,AO,AQ,AL,BD,AX,AC,AA,AZ,BG,↓reduceIte,jB,jC]
 have key:∀b1 b2:Bool,Rk.hasB ops e.op=b1->I4 ns e.name=b2->(b1 && !b2)=false->nmU ops ns e=ns:=fun b1 b2 e1 e2 e3=>by
  unfold nmU; rw[e1,e2,e3]; simp
 cases hb1:Rk.hasB ops e.op
 .simp -implicitDefEqProofs only[BC,BA,BO,BK,BI,A8,CG,DT,AY,BB,BL,BV,CO,IX,AO,AQ,AL,BD,AX,AC,AA,EX,AZ,AU,BM,A7,CQ,DX,↓reduceIte,jA,jB,jC]
  exact⟨trivial,v,hC1,by rw[key _ _ hb1 rfl rfl]; exact S1⟩
 simp -implicitDefEqProofs only[BL,BV,CO,F9,AO,AQ,AL,BD,AX,AC,AA,AZ,BX,BQ,BJ,CB,BU,AB,BF,BN,jD,jE,jF,↓reduceIte,jA,jG,jB,jC,enP,MI,JS AG0 S1.cell,l2];refine(A3B G S1.out e.name (by omega)).use ?_;simp -implicitDefEqProofs only[BI,A8,AY,BB,BL,BV,CO,F9,AO,AQ,AL,BD,AX,AC,AA,AZ,AU,BM,CQ,DY,IE,AB,FK,↓reduceIte,jA,jB,jC];cases hb2:I4 ns e.name
 .have hu:nmU ops ns e=ns++[e.name]:=by unfold nmU; rw[hb1,hb2]; rfl
  obtain⟨v',H',ha,ho,hk,hex,hle,hnew⟩:=S1.out.append (P:=Tryz.prog) ASN sz9 ASD AVF (by omega) hn S1.ex e.name;have ha':H7 Tryz.prog true H 179 179 v (.sl .full 1 [[.str e.name]])=some (v',H'):=ha;have hc':=hk c _ S1.cell S1.cne;have hcl2:=CJ S1.cell
  have hac:JU v'=some [v']:=by
   rcases ho with⟨_,rfl⟩|⟨_,o,_,rfl,_⟩<;>rfl
  simp -implicitDefEqProofs only[EY,FT,BC,BA,BK,A8,CG,DI,AY,BB,AO,AQ,AL,BD,AX,AC,EM,AA,AZ,AU,BM,A7,EP,BQ,D5,BJ,GR,BZ,AB,CX,BF,BN,↓reduceIte,jA,jG,jB,jC,enP,MI,jP,JS AG0 S1.cell,l2,AVL,ha',SY AST hac hc'];refine⟨trivial,v',hC1.trans ⟨by simpa using hle,fun b hb hbc hbv _=>?_,fun b hb=>.inr (by rw[hnew b hb]; exact Nat.le_refl _),fun b hb=>hb.elim⟩,?_⟩
  .rw[zK,if_neg (fun e=>hbc e.symm),jU hb]
   exact hk b _ (jU hb) hbv
  .rw[hu]
   exact⟨D8 hc',ho.keep fun b hb=>by rw[zK,if_neg (fun e=>by have:=hnew b hb; omega)],S1.base,hex.set S1.base _⟩
 .simp -implicitDefEqProofs only[BC,BA,BO,BK,A8,CG,DT,AY,BB,AO,AQ,AL,BD,AX,AC,AA,AU,BM,A7,↓reduceIte,jB,jT,jC]
  exact⟨trivial,v,hC1,by rw[key _ _ hb1 hb2 rfl]; exact S1⟩
theorem ATM (ops:List Int)(ns:List ByteArray)(e:Ex):nmL ops ns (pre e)=nmL ops (nmU ops ns e) (J9 e.args):=by rw[pre_eq]; rfl
theorem AM8 (G:Nat->AV)(ops:List Int)(hops:ops.length<=1048576)(h0:Hp)(c ob vb db:Nat)(s0:SM)(hv:vb≠c)(hd:db≠c)(hoc:ob≠c)(e:Ex) :
  wt e<=1099511627776->∀(h:Hp) (ns:List ByteArray) (v:AV),NSt h0 c ns v h->h[ob]?=some (.live 1 [[.sl s0 1 (ops.map encI)]])->ns.length+(pre e).length<=8388608 ->
   h[vb]?=some (.live 1 [[.fn (.func 261) [] [.ptr ob 0 0,.ptr c 0 0]]])->h[db]?=some (.live 1 [[.fn (.func 230) [] [.ptr vb 0 0,.ptr db 0 0]]]) ->
   ACalls (En G) 230 [.agg (FH e),.ptr vb 0 0,.ptr db 0 0] h fun r h'=>r=.bool true∧∃v',Cn c v h v' h'∧NSt h0 c (nmL ops ns (pre e)) v' h':=by
 induction e using Ex.induct with|h e ih=>?_
 intro hw h ns v S hob hlen hvb hdb;have hcl:=CJ S.cell;have hal:e.args.length<=1099511627776:=by have:=WQ e.args; have:=OI e; omega
 have hpe:(pre e).length=(J9 e.args).length+1:=by rw[pre_eq]; rfl
 have hfn:∀(k:FuncId) (a b:List AV) (x:ByteArray),[AV.fn (.func k) a b]≠[.str x]:=fun _ _ _ _ q=>by simp at q
 have hsl:∀(xs:List (List AV)) (x:ByteArray),[AV.sl s0 1 xs]≠[.str x]:=fun _ _ q=>by simp at q
 refine acN Tryz.func230 rfl ?_;show awp _ _ _ _ _ (EN _ [.tmp 4] _);have S0:=S.app [ABlk.live 4 [FH e]];simp -implicitDefEqProofs only[BC,BA,A8,AY,BB,AO,AQ,AL,BD,AX,AC,AA,AZ,AU,BM,A7,FU,BQ,CB,BU,BZ,AB,BF,BN,jD,jE,zY,qK,↓reduceIte,jA,jB,jC,enP,bxE,JS AGZ (CV hvb),ldE];refine(AI6 G ops hops h0 c ob s0 e _ ns v S0 (CV hob) (by omega)).mono ?_;rintro r h1 ⟨rfl,v1,hch,S1⟩;have hch0:Cn c v h v1 h1:=(Ch.app c v .nilfn h _).trans hch;have hb3:h1[h.length]?=some (.live 4 [FH e]):=hch.keep (CY _ _) (by omega) (S0.ne (CY _ _) (.inl (by decide)));have hvb1:=hch0.keep hvb hv (S.ne hvb (.inr (hfn _ _ _)));have hdb1:=hch0.keep hdb hd (S.ne hdb (.inr (hfn _ _ _)));have hob1:=hch0.keep hob hoc (S.ne hob (.inr (hsl _)));have l3:EH Tryz.prog h1 51 (.ptr h.length 0 3)=some (.sl e.m 4 (e.args.map FH)):=by rw[DW ALO hb3 (row:=FH e) rfl,ABS]
 have hn1:=AO0 ops ns e;simp -implicitDefEqProofs only[BC,BP,BA,BO,BI,A8,DT,AY,BB,AO,AQ,AL,BD,AX,AC,AA,AZ,AU,BH,BG,BQ,IE,BJ,D7,AB,FK,↓reduceIte,jA,jG,jB,jT,jC,enP,AKG,TT,l3,List.length_map]
 refine DK (fun n F H=>∃j v',n+j=e.args.length∧F 1=.ptr vb 0 0∧F 2=.ptr db 0 0∧F 12=.sl e.m 4 (e.args.map FH)∧F 13=.int .i64 e.args.length∧F 14=.int .i64 (j:Nat)∧Cn c v h v' H∧NSt h0 c (nmL ops (nmU ops ns e) (J9 (e.args.take j))) v' H∧H[vb]?=some (.live 1 [[.fn (.func 261) [] [.ptr ob 0 0,.ptr c 0 0]]])∧H[db]?=some (.live 1 [[.fn (.func 230) [] [.ptr vb 0 0,.ptr db 0 0]]])∧H[ob]?=some (.live 1 [[.sl s0 1 (ops.map encI)]])) e.args.length
  ⟨0,v1,by simp,by simp -implicitDefEqProofs only[AA,BF,BN,↓reduceIte,jA],by simp -implicitDefEqProofs only[AA,BF,BN,↓reduceIte,jA],by simp -implicitDefEqProofs only[AA,↓reduceIte,jA],by simp -implicitDefEqProofs only[AA,↓reduceIte,jA],by simp -implicitDefEqProofs only[AA,↓reduceIte]; rfl,hch0,S1,hvb1,hdb1,hob1⟩ ?_
 rintro n F H ⟨j,v',hj,f1,f2,f12,f13,f14,hC,SH,hvH,hdH,hoH⟩;simp -implicitDefEqProofs only[BC,BA,BI,A8,AY,BB,AO,AQ,AL,BD,AX,AC,AA,AZ,BR,AB,DC,↓reduceIte,jB,jC,enP,f13,f14];refine CU (fun hlt=>?_) (fun hlt=>?_)
 .have hj':j<e.args.length:=by simpa using hlt
  have hmem:e.args[j]∈e.args:=jS hj'
  have hsplit:J9 e.args=J9 (e.args.take j)++(pre e.args[j]++J9 (e.args.drop (j+1))):=by
   rw[<-List.append_assoc,<-OL _ _ hj',<-P8,List.take_append_drop]
  have hln:=ACR ops (J9 (e.args.take j)) (nmU ops ns e);have hls:(J9 e.args).length=(J9 (e.args.take j)).length+((pre e.args[j]).length+(J9 (e.args.drop (j+1))).length):=by rw[hsplit,qB,qB]
  simp -implicitDefEqProofs only[BC,BP,BA,BO,A8,AY,BB,AO,AQ,AL,BD,AX,AC,EM,AA,AZ,FD,BQ,D5,CE,CB,BU,BZ,AB,CX,jD,jE,zY,qK,↓reduceIte,jA,jB,jC,enP,AQ1,jP,f12,f14,DU hj',FM AIV ADB KL hj',AY4,AWM _ _ [.int .i64 0,.int .i64 0,.str ⟨#[]⟩,.sl .nil 0 []] rfl,f2,JS AGZ (CV hdH),ldE];have SH1:=SH.app [ABlk.live 4 [FH e.args[j]]];refine(ih e.args[j] hmem (by have:=UW hmem; have:=OI e; omega) _ _ v' SH1 (CV hoH) (by omega) (CV hvH) (CV hdH)).mono ?_;rintro r h2 ⟨rfl,v2,hch2,S2⟩;have hch2':Cn c v' H v2 h2:=(Ch.app c v' .nilfn H _).trans hch2;have hvH2:=hch2'.keep hvH hv (SH.ne hvH (.inr (hfn _ _ _)));have hdH2:=hch2'.keep hdH hd (SH.ne hdH (.inr (hfn _ _ _)));have hoH2:=hch2'.keep hoH hoc (SH.ne hoH (.inr (hsl _)));simp -implicitDefEqProofs only[BA,BO,BI,A8,EJ,EQ,DT,AY,BB,AO,AQ,AL,BD,AX,AC,AA,AZ,AU,BH,BG,BR,IE,AB,CZ,FK,↓reduceIte,jA,jB,jT,jC,enP,f1,f2,f12,f13,f14,wrap_succ (show j<9223372036854775807 by omega)];refine⟨n-1,by omega,j+1,v2,by omega,trivial,trivial,trivial,trivial,rfl,hC.trans hch2',?_,hvH2,hdH2,hoH2⟩;rw[OL _ _ hj',AXJ]; exact S2
 .have hj':¬j<e.args.length:=by simpa using hlt
  simp -implicitDefEqProofs only[BC,BA,BK,DJ,A8,EI,EW,ET,CG,AY,BB,AO,AQ,AL,BD,AX,AC,AA,AU,BM,A7,↓reduceIte,jB,jC];rw[List.take_of_length_le (by omega),<-ATM] at SH;exact⟨trivial,v',hC,SH⟩
theorem ALY (G:Nat->AV)(ops:List Int)(hops:ops.length<=1048576)(h0:Hp)(c ob:Nat)(s0:SM)(hoc:ob≠c)(e:Ex)(hw:wt e<=1048576)(h:Hp)(ns:List ByteArray)(v:AV)(S:NSt h0 c ns v h)(hob:h[ob]?=some (.live 1 [[.sl s0 1 (ops.map encI)]]))(hn:ns.length<=1048576) :
  ACalls (En G) 196 [.agg (FH e),.fn (.func 261) [] [.ptr ob 0 0,.ptr c 0 0]] h fun _ h'=>∃v',Cn c v h v' h'∧NSt h0 c (nmL ops ns (pre e)) v' h':=by
 have hcl:=CJ S.cell;have hol:=CJ hob;refine acN Tryz.func196 rfl ?_;show awp _ _ _ _ _ (EN _ [] _);generalize hfv:AV.fn (.func 261) [] [.ptr ob 0 0,.ptr c 0 0]=fv;have hbx:∀H:Hp,PW H fv=some (.ptr H.length 0 0,H++[.live 1 [[fv]]]):=fun H=>by rw[<-hfv]; rfl
 simp -implicitDefEqProofs only[BC,BA,A8,AY,BB,AO,AQ,AL,BD,AX,AC,AA,AZ,FD,FU,D5,I8,BZ,BF,BN,jD,jE,↓reduceIte,jA,jB,jC,enP,jP,bxE,hbx,AZZ];have g0:(h++[ABlk.live 4 [FH e]]++[ABlk.live 1 [[fv]]]++[ABlk.live 1 [[AV.nilfn]]])[(h++[ABlk.live 4 [FH e]]++[ABlk.live 1 [[fv]]]).length]?=some (.live 1 [[.nilfn]]):=CY _ _;simp -implicitDefEqProofs only[BA,A8,AY,BB,AO,AQ,AL,BD,AX,EM,AA,AZ,BQ,CX,↓reduceIte,jA,jB,jC,enP,SY AZH (AZ3 _ _ _) g0];have S3:=((S.app [ABlk.live 4 [FH e]]).app [ABlk.live 1 [[fv]]]).app [ABlk.live 1 [[AV.nilfn]]];have c3:Cn c v h v (h++[ABlk.live 4 [FH e]]++[ABlk.live 1 [[fv]]]++[ABlk.live 1 [[AV.nilfn]]]):=((Ch.app c v .nilfn h _).trans (Ch.app _ _ _ _ _)).trans (Ch.app _ _ _ _ _);have v3:(h++[ABlk.live 4 [FH e]]++[ABlk.live 1 [[fv]]]++[ABlk.live 1 [[AV.nilfn]]])[(h++[ABlk.live 4 [FH e]]).length]?=some (.live 1 [[fv]]):=CV (CY _ _);have e3:(h++[ABlk.live 4 [FH e]]++[ABlk.live 1 [[fv]]]++[ABlk.live 1 [[AV.nilfn]]])[h.length]?=some (.live 4 [FH e]):=CV (CV (CY _ _));have o3:(h++[ABlk.live 4 [FH e]]++[ABlk.live 1 [[fv]]]++[ABlk.live 1 [[AV.nilfn]]])[ob]?=some (.live 1 [[.sl s0 1 (ops.map encI)]]):=CV (CV (CV hob));have hdl:(h++[ABlk.live 4 [FH e]]++[ABlk.live 1 [[fv]]]).length=h.length+2:=by simp
 have hvl:(h++[ABlk.live 4 [FH e]]).length=h.length+1:=by simp
 generalize (h++[ABlk.live 4 [FH e]]++[ABlk.live 1 [[fv]]]).length=db at g0 hdl|-
 generalize (h++[ABlk.live 4 [FH e]]).length=vb at v3 hvl|-
 generalize h++[ABlk.live 4 [FH e]]++[ABlk.live 1 [[fv]]]++[ABlk.live 1 [[AV.nilfn]]]=H at g0 S3 c3 v3 e3 o3|-
 have hdn:¬isB v db:=S3.ne g0 (.inr fun x q=>by simp at q);generalize hH:H.set db (.live 1 [[AV.fn (.func 230) [] [.ptr vb 0 0,.ptr db 0 0]]])=H';have gd:H'[db]?=some (.live 1 [[.fn (.func 230) [] [.ptr vb 0 0,.ptr db 0 0]]]):=by rw[<-hH]; exact D8 g0
 have gv:H'[vb]?=some (.live 1 [[fv]]):=by rw[<-hH]; exact CW v3 (by omega)
 have ge:H'[h.length]?=some (.live 4 [FH e]):=by rw[<-hH]; exact CW e3 (by omega)
 have go:H'[ob]?=some (.live 1 [[.sl s0 1 (ops.map encI)]]):=by rw[<-hH]; exact CW o3 (by omega)
 have hb0:=S.ex.le
 have S4:NSt h0 c ns v H':=by
  rw[<-hH];exact⟨CW S3.cell (by omega),S3.out.keep fun b hb=>by rw[zK,if_neg (fun q=>hdn (by rw[q]; exact hb))],S3.base,S3.ex.set (by omega) _⟩
 have c4:Cn c v h v H':=by
  rw[<-hH];exact⟨by have:=c3.len; simpa using this,fun b hb hbc hbv hbu=>by rw[zK,if_neg (by omega)]; exact c3.get b hb hbc hbv hbu,fun _ q=>.inl q,fun _ q=>.inl q⟩
 simp -implicitDefEqProofs only[AY,AO,AQ,AL,BD,AX,AC,AA,AZ,BQ,CB,BU,AB,jD,jE,zY,qK,↓reduceIte,jA,jB,jC,enP,JS AGZ gd,NK ge];rw[<-hfv] at gv;have hp:=AHM e;refine(AM8 G ops hops h0 c ob vb db s0 (by omega) (by omega) hoc e (by omega) H' ns v S4 go (by omega) gv gd).mono ?_;rintro r h' ⟨rfl,v',hch,S5⟩;simp -implicitDefEqProofs only[AIH,BB,AC];exact⟨v',c4.trans hch,S5⟩
theorem A38 (h:Hp):KJ Tryz.prog h 179=some (.ptr h.length 0 0,h++[.live 1 [[.sl .nil 0 []]]]):=J8 (row:=[.sl .nil 0 []]) (by kernel_rfl)
theorem ADU (G:Nat->AV)(ops:List Int)(hops:ops.length<=1048576)(s0:SM)(e:Ex)(hw:wt e<=1048576)(h:Hp):PCall (En G) 236 [.agg (FH e),.sl s0 1 (ops.map encI)] h (.sl (nm (nmL ops [] (pre e))) 1 ((nmL ops [] (pre e)).map encStr)):=by
 refine MW A06 ?_;refine acN Tryz.func236 rfl ?_;show awp _ _ _ _ _ (EN _ [.tmp 4] _);have ge:=CV (x:=ABlk.live 1 [[.sl .nil 0 []]]) (CV (x:=ABlk.live 1 [[AV.sl s0 1 (ops.map encI)]]) (CY h (.live 4 [FH e])));have go:=CV (x:=ABlk.live 1 [[.sl .nil 0 []]]) (CY (h++[ABlk.live 4 [FH e]]) (ABlk.live 1 [[AV.sl s0 1 (ops.map encI)]]));have gc:=CY (h++[ABlk.live 4 [FH e]]++[ABlk.live 1 [[AV.sl s0 1 (ops.map encI)]]]) (ABlk.live 1 [[.sl .nil 0 []]]);have hx:ext h (h++[ABlk.live 4 [FH e]]++[ABlk.live 1 [[AV.sl s0 1 (ops.map encI)]]]++[ABlk.live 1 [[.sl .nil 0 []]]]):=(((ext.rfl' h).app _).app _).app _;have hol:(h++[ABlk.live 4 [FH e]]).length=h.length+1:=by simp
 have hcl:(h++[ABlk.live 4 [FH e]]++[ABlk.live 1 [[AV.sl s0 1 (ops.map encI)]]]).length=h.length+2:=by simp
 simp -implicitDefEqProofs only[ANK,BC,BA,A8,AY,BB,AO,AQ,AL,BD,AX,AC,AA,AZ,AU,IK,A7,FD,FU,BQ,BZ,BF,BN,↓reduceIte,jA,jB,jC,enP,bxE,A38]
 generalize h++[ABlk.live 4 [FH e]]++[ABlk.live 1 [[AV.sl s0 1 (ops.map encI)]]]++[ABlk.live 1 [[.sl .nil 0 []]]]=H at ge go gc hx|-
 generalize (h++[ABlk.live 4 [FH e]]++[ABlk.live 1 [[AV.sl s0 1 (ops.map encI)]]]).length=c at gc hcl|-
 generalize (h++[ABlk.live 4 [FH e]]).length=ob at go hol|-
 simp -implicitDefEqProofs only[AY,AO,AQ,AL,BD,AX,AC,AA,AZ,BX,I8,CB,BU,AB,jD,jE,jF,↓reduceIte,jA,jB,jC,NK ge];have S:NSt h c [] (.sl .nil 0 []) H:=⟨gc,outG.nil _ _ _ _,by omega,hx⟩;refine(ALY G ops hops h c ob s0 (by omega) e hw H [] _ S go (by simp)).mono ?_;rintro r h' ⟨v',hch,S5⟩;simp -implicitDefEqProofs only[BC,BA,BK,A8,CG,AY,BB,AO,AQ,AL,BD,AX,AC,AA,AZ,A7,BQ,AB,↓reduceIte,jA,jB,jC,enP,JS AG0 S5.cell];exact⟨S5.ex,S5.out⟩
theorem A3K (h:Hp)(a b:Int):FY Tryz.prog false h 57 2 [(0,.int .i64 a),(1,.int .i64 b)]=some (.sl .full 1 [[.int .i64 a],[.int .i64 b]],h):=by kernel_rfl
theorem AN2 (G:Nat->AV)(e:Ex)(hw:wt e<=1048576)(h:Hp):PCall (En G) 205 [.agg (FH e)] h (.sl (nm (nmL [2] [] (pre e))) 1 ((nmL [2] [] (pre e)).map encStr)):=by
 refine ACalls.pure0 rfl ?_;refine acN Tryz.func205 rfl ?_;show awp _ _ _ _ _ (EN _ [.tmp 2] _);simp -implicitDefEqProofs only[EY,FT,BC,BA,A8,AY,BB,AO,AQ,AL,BD,AX,AC,AA,AZ,AU,BX,BH,IK,A7,FU,EP,BQ,CB,BU,BZ,AB,BF,jD,jE,jF,↓reduceIte,jA,jB,jC,enP,bxE,ldE,ACE];refine(ADU G [2] (by decide) .full e hw _).use ?_;simp -implicitDefEqProofs only[BK,A8,CG,AY,BB,AO,AQ,AL,BD,AX,AC,AA,AZ,A7,↓reduceIte,jB,jC];exact⟨trivial,_,rfl⟩
theorem ALW (G:Nat->AV)(e:Ex)(hw:wt e<=1048576)(h:Hp):PCall (En G) 207 [.agg (FH e)] h (.sl (nm (nmL [3,24] [] (pre e))) 1 ((nmL [3,24] [] (pre e)).map encStr)):=by
 refine ACalls.pure0 rfl ?_;refine acN Tryz.func207 rfl ?_;show awp _ _ _ _ _ (EN _ [.tmp 2] _);simp -implicitDefEqProofs only[EY,FT,BC,BA,A8,AY,BB,AO,AQ,AL,BD,AX,AC,AA,AZ,AU,BX,BH,IK,A7,FU,EP,BQ,CB,BU,BZ,AB,BF,jD,jE,jF,↓reduceIte,jA,jB,jC,enP,bxE,ldE,A3K];refine(ADU G [3,24] (by decide) .full e hw _).use ?_;simp -implicitDefEqProofs only[BK,A8,CG,AY,BB,AO,AQ,AL,BD,AX,AC,AA,AZ,A7,↓reduceIte,jB,jC];exact⟨trivial,_,rfl⟩
end Go.Proofs.YtocilianjfhifaaGreatDoor.Xe
set_option linter.unusedSimpArgs false
set_option maxRecDepth 8000
namespace Go.Proofs.YtocilianjfhifaaGreatDoor.Xe
open Sm Bins Cov Wd Go.RowKit
open Bool renaming not_false→jC,not_true→jT,true_and→wC
open Int renaming reduceBEq→zF
open List renaming drop_eq_getElem_cons→zJ,length_map→jI,map_cons→jD,map_nil→jE,append_nil→jF,drop_eq_nil_of_le→jW,getElem_mem→jS,getElem?_cons_zero→zB,getElem?_cons_succ→zG,getD_eq_getElem?_getD→zQ,getElem?_eq_getElem→jU,mem_map→zO,take_of_length_le→jX
open Nat renaming le_refl→jM,le_of_ble_eq_true→jH,reduceEqDiff→jA,add_zero→jL,zero_add→jG,mod_lt→qJ,reduceAdd→jK
open Option renaming getD_some→jB,getD_none→jP
abbrev Sg:=ByteArray×Int
def G7 (s:Sg):List AV:=[.str s.1,.int .i64 s.2]
theorem AGL (s:Sg):(G7 s).length=2:=rfl
def ACI (s:Sg):Prop := -9223372036854775808<=s.2∧s.2<=9223372036854775807
def MR:List Sg->ByteArray->Nat×Bool
 | [],_=>(0,false)
 | s::l,n=>if(s.1.toList==n.toList)=true then (wW s.2,true) else MR l n
theorem AEE:∀(l:List Sg) (n:ByteArray),(MR l n).1<65536
 | [],_=>by simp [MR]
 | s::l,n=>by unfold MR; split; exact AOA _; exact AEE l n
theorem AED (l:List Sg)(n:ByteArray)(k:Nat)(hk:k<l.length):MR (l.drop k) n=if(l[k].1.toList==n.toList)=true then (wW l[k].2,true) else MR (l.drop (k+1)) n:=by
 rw[zJ hk]; rfl
def TC (p:Nat×Bool):AV:=.tup [.int .i64 (p.1:Nat),.bool p.2]
theorem AJ8 (p:Nat×Bool)(n:Nat)(H:Hp):IV n H 2 (TC p)=TC p:=rfl
theorem A37 (h:Hp):KJ Tryz.prog h 187=some (.ptr h.length 0 0,h++[.live 2 [[.str ⟨#[]⟩,.int .i64 0]]]):=J8 (row:=[.str ⟨#[]⟩,.int .i64 0]) (by kernel_rfl)
theorem A17 (h:Hp)(s:Sg):FW Tryz.prog (h++[.live 2 [[.str ⟨#[]⟩,.int .i64 0]]]) 187 (.ptr h.length 0 0) (.agg (G7 s))=some (h++[.live 2 [G7 s]]):=by
 rw[OY (cs:=G7 s) (row:=[.str ⟨#[]⟩,.int .i64 0]) rfl ASS (CY _ _) (by exact jM 2),OZ];rfl
theorem ALC (h:Hp)(u:AV)(hu:u.leaf=true):PW h (.agg [u])=some (.ptr h.length 0 0,h++[ABlk.live 1 [[u]]]):=ZR (by simp only[List.all_cons,hu,List.all_nil]; rfl)
theorem XP {h:Hp}{b:Nat}{u:AV}(hb:h[b]?=some (.live 1 [[u]])):EH Tryz.prog h 195 (.ptr b 0 0)=some (.agg [u]):=by
 rw[JY A4C AZI hb rfl (by exact jM 1)]; rfl
theorem UM {P:Program}{t:TypeId}{a b:ByteArray}(h:a.size+b.size<=9223372036854775807):JG P t .add (.str a) (.str b)=some (.str (a++b)):=by
 show AV4 .add a b=_;unfold AV4
 have:((a.size+b.size:Nat):Int)<=IntKind.i64.max:=by
  show _<=(9223372036854775807:Int);omega
 simp only[if_pos this]
section
variable (G:Nat->AV)
theorem AAT (l:List Sg)(m:SM)(n:ByteArray)(h:Hp)(hl:l.length<=1099511627776):PCall (En G) 206 [.agg [.sl m 2 (l.map G7)],.str n] h (TC (MR l n)):=by
 refine QL 2 (AJ8 _) ?_;refine acN Tryz.func206 rfl ?_;show awp _ _ _ _ _ (EN _ [.tmp 4,.tmp 5] _);simp -implicitDefEqProofs only[BC,BP,BA,A8,AY,BB,AO,AQ,AL,BD,AX,AC,AA,AZ,AU,BH,BM,BG,A7,FU,BQ,BJ,D7,BZ,AB,BF,↓reduceIte,jA,jL,jB,jC,enP,A2R,AX8,ALC h (.sl m 2 (l.map G7)) rfl,JS A1L (CY h (ABlk.live 1 [[.sl m 2 (l.map G7)]])),jI];refine DK (fun k F H=>∃j,k+j=l.length∧F 1=.str n∧F 9=.sl m 2 (l.map G7)∧F 10=.int .i64 (l.length:Nat)∧F 11=.int .i64 (j:Nat)∧ext h H∧MR l n=MR (l.drop j) n) l.length ⟨0,by simp,by simp -implicitDefEqProofs only[AA,BF,BN,↓reduceIte,jA],by simp -implicitDefEqProofs only[AA,↓reduceIte,jA],by simp -implicitDefEqProofs only[AA,↓reduceIte,jA],by simp -implicitDefEqProofs only[AA,↓reduceIte]; rfl,(ext.rfl' h).app _,rfl⟩ ?_;rintro k F H ⟨j,hj,f1,f9,f10,f11,hx,hf⟩;simp -implicitDefEqProofs only[BC,BA,BI,A8,AY,BB,AO,AQ,AL,BD,AX,AC,AA,AZ,BR,AB,DC,↓reduceIte,jB,jC,enP,f10,f11];refine CU (fun hc=>?_) (fun hc=>?_)
 .have hj':j<l.length:=by simpa using hc
  have g:=CY H (ABlk.live 2 [G7 l[j]]);have l0:EH Tryz.prog (H++[ABlk.live 2 [G7 l[j]]]) 9 (.ptr H.length 0 0)=some (.str l[j].1):=by rw[DW ag9 g (row:=G7 l[j]) rfl]; rfl
  have l1:EH Tryz.prog (H++[ABlk.live 2 [G7 l[j]]]) 3 (.ptr H.length 0 1)=some (.int .i64 l[j].2):=by rw[DW ag3 g (row:=G7 l[j]) rfl]; rfl
  rw[AED l n j hj'] at hf;simp -implicitDefEqProofs only[BC,BP,BA,BO,BI,A8,AY,BB,AO,AQ,AL,BD,AX,AC,EM,AA,AZ,BG,FD,BQ,D5,BR,BJ,CE,BZ,AB,CX,ML,↓reduceIte,jA,jL,jB,jC,enP,A03,APJ,jP,f1,f9,f11,DU hj',FM A4D ASS AGL hj',A37,A17,l0];refine CU (fun hb=>?_) (fun hb=>?_)
  .simp -implicitDefEqProofs only[BC,BA,AY,AO,AQ,AL,BD,AX,AC,AA,AZ,BX,BQ,BJ,CB,BU,AB,jD,jE,jF,↓reduceIte,jA,jG,jB,jC,enP,API,l1]
   refine(AP4 G _ _).use ?_;simp -implicitDefEqProofs only[BK,A8,CP,EG,FQ,KY,AY,BB,AO,AQ,AL,BD,AX,AC,AA,AZ,AU,BM,A7,↓reduceIte,jA,jB,jC];exact⟨by rw[hf,if_pos hb]; rfl,hx.app _⟩
  .simp -implicitDefEqProofs only[BA,BO,A8,EJ,EQ,AY,BB,AO,AQ,AL,BD,AX,AC,AA,AZ,AU,BH,BG,BR,AB,CZ,↓reduceIte,jA,jB,jC,enP,f11,wrap_succ (show j<9223372036854775807 by omega)]
   exact⟨k-1,by omega,j+1,by omega,by trivial,by trivial,by trivial,rfl,hx.app _,by rw[hf,if_neg (by rw[hb]; decide)]⟩
 .have hj':¬j<l.length:=by simpa using hc
  simp -implicitDefEqProofs only[BC,BA,BK,DJ,A8,EI,EW,ET,KY,AY,BB,AO,AQ,AL,BD,AX,AC,AA,AU,BH,BM,A7,↓reduceIte,jA,jB,jC];exact⟨by rw[hf,jW (by omega)]; rfl,hx⟩
theorem AEC (l:List Sg)(m:SM)(n:ByteArray)(h:Hp)(hl:l.length<=1099511627776)(hok:∀s∈l,ACI s):PCall (En G) 247 [.sl m 2 (l.map G7),.str n] h (TC (MR l n)):=by
 refine acN Tryz.func247 rfl ?_;show awp _ _ _ _ _ (EN _ [.tmp 4,.tmp 5] _);simp -implicitDefEqProofs only[BC,BP,BA,A8,AY,BB,AO,AQ,AL,BD,AX,AC,AU,BH,BM,A7,jB,jC,enP];refine DK (fun k F H=>∃j,k+j=l.length∧F 0=.sl m 2 (l.map G7)∧F 1=.str n∧F 6=.int .i64 (j:Nat)∧H=h∧MR l n=MR (l.drop j) n) l.length ⟨0,by simp,by simp -implicitDefEqProofs only[AA,BF,↓reduceIte,jA],by simp -implicitDefEqProofs only[AA,BF,BN,↓reduceIte,jA],by simp -implicitDefEqProofs only[AA,↓reduceIte]; rfl,rfl,rfl⟩ ?_;rintro k F H ⟨j,hj,f0,f1,f6,rfl,hf⟩;simp -implicitDefEqProofs only[BC,BA,BI,A8,AY,BB,AO,AQ,AL,BD,AX,AC,AA,AZ,BG,BR,D7,AB,DC,↓reduceIte,jA,jB,jC,enP,A2R,f0,f6,jI];refine CU (fun hc=>?_) (fun hc=>?_)
 .have hj':j<l.length:=by simpa using hc
  rw[AED l n j hj'] at hf;have l0:EH Tryz.prog H 9 (.fptr 2 (l.map G7) j 0)=some (.str l[j].1):=by rw[DF ag9 hj']; rfl
  have l1:EH Tryz.prog H 3 (.fptr 2 (l.map G7) j 1)=some (.int .i64 l[j].2):=by rw[DF ag3 hj']; rfl
  simp -implicitDefEqProofs only[BC,BP,BA,BO,BI,A8,AY,BB,AO,AQ,AL,BD,AX,AC,AA,AZ,BG,BQ,BR,BJ,CE,AB,ML,↓reduceIte,jA,jL,jB,jC,enP,A03,APJ,f0,f1,f6,DU hj',l0];refine CU (fun hb=>?_) (fun hb=>?_)
  .simp -implicitDefEqProofs only[BC,BA,AY,AO,AQ,AL,BD,AX,AC,AA,AZ,BX,BG,BQ,BJ,CE,CB,BU,AB,jD,jE,jF,↓reduceIte,jA,jG,jB,jC,enP,A03,API,f0,f6,DU hj',l1]
   refine(RD G _ _ (hok _ (jS hj'))).use ?_;simp -implicitDefEqProofs only[BK,A8,CP,EG,FQ,KY,AY,BB,AO,AQ,AL,BD,AX,AC,AA,AZ,AU,BM,A7,↓reduceIte,jA,jB,jC];exact⟨by rw[hf,if_pos hb]; rfl,trivial⟩
  .simp -implicitDefEqProofs only[BA,BO,A8,EJ,EQ,AY,BB,AO,AQ,AL,BD,AX,AC,AA,AZ,AU,BH,BG,A7,BR,AB,CZ,↓reduceIte,jA,jB,jC,enP,f6,wrap_succ (show j<9223372036854775807 by omega)]
   exact⟨k-1,by omega,j+1,by omega,by trivial,by trivial,rfl,trivial,by rw[hf,if_neg (by rw[hb]; decide)]⟩
 .have hj':¬j<l.length:=by simpa using hc
  simp -implicitDefEqProofs only[BC,BA,BK,DJ,A8,EI,EW,ET,KY,AY,BB,AO,AQ,AL,BD,AX,AC,AA,AU,BH,BM,A7,↓reduceIte,jA,jB,jC];exact⟨by rw[hf,jW (by omega)]; rfl,trivial⟩
def elN (a:ByteArray)(i:Nat):ByteArray:=a++(⟨#[91]⟩:ByteArray)++(⟨#[UInt8.ofNat (48+i)]⟩:ByteArray)++(⟨#[93]⟩:ByteArray)
def atG (l:List Sg)(a:ByteArray)(i:Int):Nat×Bool:=if i<0∨i≥8 then (0,false) else MR l (elN a i.toNat)
theorem ANN (l:List Sg)(a:ByteArray)(i:Int):(atG l a i).1<65536:=by unfold atG; split; decide; exact AEE _ _
theorem AU3:∀i:Nat,i<8->WP Tryz.prog 206 9 (.sl .full 1 [[.int .u8 (IntKind.u8.wrap (IntKind.i64.wrap (48+(i:Int))))]])=some (.str ⟨#[UInt8.ofNat (48+i)]⟩)
 | 0,_=>by kernel_rfl
 | 1,_=>by kernel_rfl
 | 2,_=>by kernel_rfl
 | 3,_=>by kernel_rfl
 | 4,_=>by kernel_rfl
 | 5,_=>by kernel_rfl
 | 6,_=>by kernel_rfl
 | 7,_=>by kernel_rfl
 | n+8,h=>absurd h (by omega)
theorem A3P (h:Hp)(v:Int):FY Tryz.prog false h 206 1 [(0,.int .u8 v)]=some (.sl .full 1 [[.int .u8 v]],h):=by kernel_rfl
theorem XE (a b:ByteArray):(a++b).size=a.size+b.size:=ByteArray.size_append
theorem AIT (l:List Sg)(m:SM)(a:ByteArray)(i:Int)(h:Hp)(hl:l.length<=1099511627776)(ha:a.size<=1048576):PCall (En G) 208 [.agg [.sl m 2 (l.map G7)],.str a,.int .i64 i] h (TC (atG l a i)):=by
 refine QL 2 (AJ8 _) ?_;refine acN Tryz.func208 rfl ?_;show awp _ _ _ _ _ (EN _ [.tmp 6,.tmp 7] _);have hx:ext h (h++[ABlk.live 1 [[.sl m 2 (l.map G7)]]]):=(ext.rfl' h).app _;simp -implicitDefEqProofs only[BC,BA,A8,AY,BB,BL,BV,CO,AO,AQ,AL,BD,AX,AC,AA,AZ,AU,BH,BM,BG,A7,FU,BR,BZ,AB,DC,BF,BN,↓reduceIte,jA,jB,jC,enP,ALC h (.sl m 2 (l.map G7)) rfl];cases h1:decide (i<0)
 .cases h2:decide (i≥8)
  .have h1':¬i<0:=by simpa using h1
   have h2':¬i≥8:=by simpa using h2
   obtain⟨k,rfl⟩:=Int.eq_ofNat_of_zero_le (show 0<=i by omega);have hk:k<8:=by omega
   have e1:JG Tryz.prog 9 .add (.str a) (.str ⟨#[91]⟩)=_:=UM (by show a.size+1<=_; omega);have e2:JG Tryz.prog 9 .add (.str (a++(⟨#[91]⟩:ByteArray))) (.str ⟨#[UInt8.ofNat (48+k)]⟩)=_:=UM (by rw[XE]; show a.size+1+1<=_; omega);have e3:JG Tryz.prog 9 .add (.str (a++(⟨#[91]⟩:ByteArray)++(⟨#[UInt8.ofNat (48+k)]⟩:ByteArray))) (.str ⟨#[93]⟩)=_:=UM (by rw[XE,XE]; show a.size+1+1+1<=_; omega);simp -implicitDefEqProofs only[EY,FT,BC,BA,BO,BI,A8,DT,AY,BB,BL,BV,CO,ES,AO,AQ,AL,BD,AX,AC,AA,AZ,AU,BX,BH,BM,JM,BG,CQ,DX,EP,BQ,BR,Z9,CB,BU,BZ,AB,CZ,G5,BF,BN,jD,jE,jF,↓reduceIte,jA,jB,jC,enP,A3A,h2,XP (CY h (ABlk.live 1 [[.sl m 2 (l.map G7)]])),e1,A3P,AU3 k hk,e2,e3];refine(AAT G l m _ _ hl).use ?_;unfold TC;simp -implicitDefEqProofs only[zB,zG,BK,A8,KY,AY,BB,AO,AQ,AL,BD,AX,AC,AA,AZ,A7,FI,GU,AB,↓reduceIte,jA,jB,jC];exact⟨by unfold atG; rw[if_neg (by omega)]; rfl,hx⟩
  .simp -implicitDefEqProofs only[BC,BA,BK,BI,A8,CP,KY,DI,AY,BB,BL,BV,CO,ES,AO,AQ,AL,BD,AX,AC,AA,AZ,AU,BH,BM,BG,A7,CQ,DX,BR,AB,G5,BF,BN,↓reduceIte,jA,jB,jC,enP,h2]
   have h2':i≥8:=by simpa using h2
   exact⟨by unfold atG; rw[if_pos (.inr h2')]; rfl,hx⟩
 .simp -implicitDefEqProofs only[BC,BA,BK,BI,A8,CP,KY,DI,AY,BB,BL,BV,CO,F7,AO,AQ,AL,BD,AX,AC,AA,EX,AZ,AU,BH,BM,A7,CQ,DY,↓reduceIte,jA,jB,jC]
  have h1':i<0:=by simpa using h1
  exact⟨by unfold atG; rw[if_pos (.inl h1')]; rfl,hx⟩
theorem AU2:∀(k:Nat),k<8->∀h:Hp,NU Tryz.prog h 9 (.str ⟨#[48,49,50,51,52,53,54,55,56,57]⟩) (some (.int .i64 (k:Nat))) (some (.int .i64 ((k+1:Nat):Int))) none=some (.str ⟨#[UInt8.ofNat (48+k)]⟩)
 | 0,_,h=>by kernel_rfl
 | 1,_,h=>by kernel_rfl
 | 2,_,h=>by kernel_rfl
 | 3,_,h=>by kernel_rfl
 | 4,_,h=>by kernel_rfl
 | 5,_,h=>by kernel_rfl
 | 6,_,h=>by kernel_rfl
 | 7,_,h=>by kernel_rfl
 | n+8,q,_=>absurd q (by omega)
theorem digit_ref (k:Nat)(hk:k<8)(h:Hp):PCall (En G) 277 [.int .i64 (k:Nat)] h (.str ⟨#[UInt8.ofNat (48+k)]⟩):=by
 refine acN Tryz.func277 rfl ?_;show awp _ _ _ _ _ (EN _ [.tmp 2] _);simp -implicitDefEqProofs only[Option.map_some,Option.map_none,BC,BA,BK,A8,CG,AY,BB,AO,AQ,AL,BD,AX,AC,AA,AZ,AU,BH,JM,BG,A7,BR,UU,AB,CZ,BF,↓reduceIte,jA,jB,jC,enP,wrap_succ (show k<9223372036854775807 by omega),AU2 k hk];exact⟨trivial,trivial⟩
theorem AB5 (a:ByteArray)(k:Nat)(hk:k<8)(h:Hp)(ha:a.size<=1048576):PCall (En G) 248 [.str a,.int .i64 (k:Nat)] h (.str (elN a k)):=by
 refine acN Tryz.func248 rfl ?_;show awp _ _ _ _ _ (EN _ [.tmp 4] _);have e1:JG Tryz.prog 9 .add (.str a) (.str ⟨#[91]⟩)=_:=UM (by show a.size+1<=_; omega);have e2:JG Tryz.prog 9 .add (.str (a++(⟨#[91]⟩:ByteArray))) (.str ⟨#[UInt8.ofNat (48+k)]⟩)=_:=UM (by rw[XE]; show a.size+1+1<=_; omega);have e3:JG Tryz.prog 9 .add (.str (a++(⟨#[91]⟩:ByteArray)++(⟨#[UInt8.ofNat (48+k)]⟩:ByteArray))) (.str ⟨#[93]⟩)=_:=UM (by rw[XE,XE]; show a.size+1+1+1<=_; omega);simp -implicitDefEqProofs only[BC,BA,A8,AY,BB,AO,AQ,AL,BD,AX,AC,AA,AZ,AU,BX,JM,BG,A7,BR,CB,BU,AB,BF,BN,jD,jE,jF,↓reduceIte,jA,jB,jC,enP,e1];refine(digit_ref G k hk h).use ?_;simp -implicitDefEqProofs only[BK,A8,CG,AY,BB,AO,AQ,AL,BD,AX,AC,AA,AZ,AU,JM,A7,BR,AB,↓reduceIte,jA,jB,jC,enP,e2,e3];exact⟨rfl,trivial⟩
theorem ABV (l:List Sg)(m:SM)(a:ByteArray)(i:Int)(h:Hp)(hl:l.length<=1099511627776)(hok:∀s∈l,ACI s)(ha:a.size<=1048576):PCall (En G) 249 [.sl m 2 (l.map G7),.str a,.int .i64 i] h (.int .i64 ((atG l a i).1:Nat)):=by
 refine acN Tryz.func249 rfl ?_;show awp _ _ _ _ _ (EN _ [.tmp 6] _);simp -implicitDefEqProofs only[BC,BA,A8,AY,BB,BL,BV,CO,AO,AQ,AL,BD,AX,AC,AA,AZ,AU,BH,BG,A7,BR,AB,DC,BF,BN,↓reduceIte,jA,jB,jC,enP];cases h1:decide (i<0)
 .cases h2:decide (i≥8)
  .have h1':¬i<0:=by simpa using h1
   have h2':¬i≥8:=by simpa using h2
   obtain⟨k,rfl⟩:=Int.eq_ofNat_of_zero_le (show 0<=i by omega);simp -implicitDefEqProofs only[BC,BA,BO,BI,A8,DT,AY,BB,BL,BV,CO,ES,AO,AQ,AL,BD,AX,AC,AA,AZ,AU,BX,BH,BM,BG,CQ,DX,BR,CB,BU,AB,G5,BF,BN,jD,jE,jF,↓reduceIte,jA,jB,jC,enP,h2];refine(AB5 G a k (by omega) h ha).use ?_;simp -implicitDefEqProofs only[AY,AO,AQ,AL,BD,AX,AC,AA,AZ,BX,CB,BU,jD,jE,jF,↓reduceIte,jA,jB,jC];refine(AEC G l m _ h hl hok).use ?_;unfold TC;simp -implicitDefEqProofs only[zB,zG,BC,BA,BK,A8,CG,AY,BB,AO,AQ,AL,BD,AX,AC,AA,AZ,BG,A7,FI,GU,AB,↓reduceIte,jA,jB,jC];exact⟨by unfold atG; rw[if_neg (by omega)]; rfl,trivial⟩
  .simp -implicitDefEqProofs only[BC,BA,BK,BI,A8,CP,CG,DI,AY,BB,BL,BV,CO,ES,AO,AQ,AL,BD,AX,AC,AA,AZ,AU,BH,BM,BG,A7,CQ,DX,BR,AB,G5,BF,BN,↓reduceIte,jA,jB,jC,enP,h2]
   have h2':i≥8:=by simpa using h2
   exact⟨by unfold atG; rw[if_pos (.inr h2')]; rfl,trivial⟩
 .simp -implicitDefEqProofs only[BC,BA,BK,BI,A8,CP,CG,DI,AY,BB,BL,BV,CO,F7,AO,AQ,AL,BD,AX,AC,AA,EX,AZ,AU,BH,BM,A7,CQ,DY,↓reduceIte,jA,jB,jC]
  have h1':i<0:=by simpa using h1
  exact⟨by unfold atG; rw[if_pos (.inl h1')]; rfl,trivial⟩
def sumTo (l:List Sg)(a:ByteArray):Nat->Nat
 | 0=>0
 | k+1=>(sumTo l a k+(atG l a (k:Nat)).1)%65536
theorem ADC (l:List Sg)(a:ByteArray)(k:Nat):sumTo l a k<65536:=by
 cases k with
 | zero=>show 0<65536; decide
 | succ k=>exact qJ _ (by omega)
theorem ASU (l:List Sg)(m:SM)(a:ByteArray)(h:Hp)(hl:l.length<=1099511627776)(ha:a.size<=1048576):PCall (En G) 209 [.agg [.sl m 2 (l.map G7)],.str a] h (.int .i64 (sumTo l a 8:Nat)):=by
 refine ACalls.pure0 rfl ?_;refine acN Tryz.func209 rfl ?_;show awp _ _ _ _ _ (EN _ [.tmp 4] _);have g:=CY h (ABlk.live 1 [[.sl m 2 (l.map G7)]]);simp -implicitDefEqProofs only[BC,BP,BA,A8,AY,BB,AO,AQ,AL,BD,AX,AC,AZ,AU,BH,BG,A7,FU,BZ,BF,jB,jC,enP,ALC h (.sl m 2 (l.map G7)) rfl]
 generalize hH:h++[ABlk.live 1 [[.sl m 2 (l.map G7)]]]=H at g|-
 refine DK (fun k F H'=>∃j,k+j=8∧F 1=.str a∧F 2=.ptr h.length 0 0∧F 5=.int .i64 (sumTo l a j:Nat)∧F 9=.int .i64 (j:Nat)∧H'=H) 8 ⟨0,by simp,by simp -implicitDefEqProofs only[AA,BF,BN,↓reduceIte,jA],by simp -implicitDefEqProofs only[AA,↓reduceIte,jA],by simp -implicitDefEqProofs only[AA,↓reduceIte,jA]<;>rfl,by simp -implicitDefEqProofs only[AA,↓reduceIte]<;>rfl,rfl⟩ ?_;rintro k F H' ⟨j,hj,f1,f2,f5,f9,rfl⟩;simp -implicitDefEqProofs only[BC,BA,BI,A8,AY,BB,AO,AQ,AL,BD,AX,AC,AA,AZ,AU,BH,BR,AB,DC,↓reduceIte,jB,jC,enP,f9];refine CU (fun hc=>?_) (fun hc=>?_)
 .have hj':j<8:=by simp at hc; omega
  simp -implicitDefEqProofs only[BC,BP,BA,BO,A8,AY,BB,AO,AQ,AL,BD,AX,AC,AA,AZ,BX,BG,A7,BQ,CB,BU,AB,jD,jE,jF,↓reduceIte,jA,jB,jC,enP,f1,f2,f9,XP g];refine(AIT G l m a (j:Nat) H' hl ha).use ?_;unfold TC;simp -implicitDefEqProofs only[zB,zG,BA,A8,AY,BB,AO,AQ,AL,BD,AX,AC,AA,AZ,BX,BG,A7,FI,GU,CB,BU,AB,jD,jE,jF,↓reduceIte,jA,jB,jC,f5];refine(AZ1 G _ _ (ADC l a j) (ANN l a (j:Nat)) H').use ?_;simp -implicitDefEqProofs only[BA,A8,EJ,EQ,AY,BB,AO,AQ,AL,BD,AX,AC,AA,AZ,AU,BH,BG,A7,BR,AB,CZ,↓reduceIte,jA,jB,jC,enP,f1,f2,f9,wrap_succ (show j<9223372036854775807 by omega)];exact⟨k-1,by omega,j+1,by omega,by trivial,by trivial,by trivial,by trivial,trivial⟩
 .have hj':j=8:=by simp at hc; omega
  subst hj';simp -implicitDefEqProofs only[BC,BA,BK,DJ,A8,EI,EW,ET,CG,AY,BB,AO,AQ,AL,BD,AX,AC,AA,AZ,BG,A7,↓reduceIte,jA,jB,jC,f5];exact⟨trivial,_,hH.symm⟩
end
def AD2 (x:Nat):List Nat->Bool
 | a::b::r=>(decide (a<=x)&&decide (x<=b))||AD2 x r
 | _=>false
def opW (op:Int)(vs:List Nat):Nat :=
 if op=22 then (if vs.getD 0 0≠0 then vs.getD 1 0 else vs.getD 2 0) else if op=23 then tr (AD2 (vs.getD 0 0) (vs.drop 1))
 else if vs.length=1 then sgW op (vs.getD 0 0) else dbW op (vs.getD 0 0) (vs.getD 1 0)
theorem getD_lt {vs:List Nat}(hv:∀x∈vs,x<65536)(k:Nat):vs.getD k 0<65536:=by
 rw[zQ];rcases Nat.lt_or_ge k vs.length with h|h
 .rw[jU h]; exact hv _ (jS h)
 .rw[List.getElem?_eq_none h]; decide
theorem A0R (op:Int){vs:List Nat}(hv:∀x∈vs,x<65536):opW op vs<65536:=by
 unfold opW;have h0:=getD_lt hv 0;have h1:=getD_lt hv 1;have h2:=getD_lt hv 2;split
 .split<;>assumption
 split
 .exact YV _
 split
 .exact A0I h0
 .exact A1C h0 h1
theorem AGC (x:Nat)(l:List Nat)(k:Nat)(hk:k+1<l.length):AD2 x (l.drop k)=((decide (l[k]<=x)&&decide (x<=l[k+1]))||AD2 x (l.drop (k+2))):=by
 rw[zJ (by omega:k<l.length),zJ hk]; rfl
theorem AKH (x:Nat)(l:List Nat)(k:Nat)(hk:l.length<=k+1):AD2 x (l.drop k)=false:=by
 have:(l.drop k).length<=1:=by simp; omega
 match hm:l.drop k,this with
 | [],_=>rfl
 | [a],_=>rfl
theorem gec (a b:Nat):decide ((a:Int)≥(b:Int))=decide (b<=a):=lec b a
def ALS (op:Int)(n:Nat):Prop:=(op=22->n=3)∧(op=23->n%2=1∧3<=n)∧(op≠22->op≠23->n=1∨n=2)
set_option maxHeartbeats 2000000 in
theorem AQS (G:Nat->AV)(op:Int)(vs:List Nat)(o:Nat)(H:Hp)(ho:H[o]?=some (.live 1 (vs.map IG)))(hv:∀x∈vs,x<65536)(hl:vs.length<=1048576)(hops:ALS op vs.length) :
  PCall (En G) 210 [.int .i64 op,.own o 0 vs.length] H (.int .i64 (opW op vs:Nat)):=by
 have hix:∀k:Nat,k<vs.length->KH 1 H (.own o 0 vs.length) (.int .i64 (k:Nat))=some (.ptr o k 0):=fun k hk=>by rw[L6 ho hk,jG]
 have hld:∀(k:Nat) (hk:k<vs.length),EH Tryz.prog H 3 (.ptr o k 0)=some (.int .i64 (vs[k]:Nat)):=fun k hk=>by rw[DW ag3 ho (row:=IG vs[k]) (ND hk)]; rfl
 have h1:1<=vs.length:=by
  obtain⟨a,b,c⟩:=hops;by_cases e:op=22
  .have:=a e; omega
  by_cases e':op=23
  .have:=b e'; omega
  .have:=c e e'; omega
 have i0:KH 1 H (.own o 0 vs.length) (.int .i64 0)=some (.ptr o 0 0):=hix 0 h1;have d0:=hld 0 h1;have g0:vs.getD 0 0=vs[0]:=by rw[zQ,jU h1]; rfl
 have v0:vs[0]<65536:=hv _ (jS _);refine acN Tryz.func210 rfl ?_;show awp _ _ _ _ _ (EN _ [.tmp 4] _);by_cases e22:op=22
 .subst e22
  have hl3:vs.length=3:=hops.1 rfl;have i1:KH 1 H (.own o 0 vs.length) (.int .i64 1)=some (.ptr o 1 0):=hix 1 (by omega);have i2:KH 1 H (.own o 0 vs.length) (.int .i64 2)=some (.ptr o 2 0):=hix 2 (by omega);have d1:=hld 1 (by omega);have d2:=hld 2 (by omega);have g1:vs.getD 1 0=vs[1]:=by rw[zQ,jU (by omega)]; rfl
  have g2:vs.getD 2 0=vs[2]:=by rw[zQ,jU (by omega)]; rfl
  simp -implicitDefEqProofs only[BC,BP,BA,BI,A8,DI,AY,BB,AO,AQ,AL,BD,AX,AC,AA,AZ,AU,BH,BG,A7,BQ,BR,CE,AB,EC,EK,BF,BN,↓reduceIte,jA,jB,jC,enP,JF,zF,i0,d0,eqz,nez];cases hz:(vs[0]==0)
  .simp -implicitDefEqProofs only[BC,BA,BK,A8,CP,EG,CG,DI,AY,BB,AO,AQ,AL,BD,AX,AC,AA,AZ,AU,BH,BG,A7,BQ,CE,AB,BF,BN,↓reduceIte,jA,jB,jC,enP,JF,i1,d1]
   have:vs[0]≠0:=by simpa using hz
   exact⟨by unfold opW; rw[if_pos rfl,g0,if_pos this,g1],trivial⟩
  .simp -implicitDefEqProofs only[BC,BA,BO,BK,A8,CP,EG,CG,DT,AY,BB,AO,AQ,AL,BD,AX,AC,AA,AZ,AU,BH,BG,A7,BQ,CE,AB,BF,BN,↓reduceIte,jA,jB,jT,jC,enP,JF,i2,d2]
   have:¬vs[0]≠0:=by simpa using hz
   exact⟨by unfold opW; rw[if_pos rfl,g0,if_neg this,g2],trivial⟩
 by_cases e23:op=23
 .subst e23
  obtain⟨hodd,h3⟩:=hops.2.1 rfl;simp -implicitDefEqProofs only[BC,BP,BA,BI,A8,DI,DT,AY,BB,AO,AQ,AL,BD,AX,AC,AA,AZ,AU,BH,BG,A7,BR,AB,EC,BF,↓reduceIte,jA,jB,jC,enP,zF];have hval:opW 23 vs=tr (AD2 vs[0] (vs.drop 1)):=by unfold opW; rw[if_neg (by decide),if_pos rfl,g0]
  rw[hval];refine DK (fun n F H'=>∃j,n+j=vs.length∧j%2=1∧F 1=.own o 0 vs.length∧F 5=.int .i64 (j:Nat)∧H'=H∧AD2 vs[0] (vs.drop 1)=AD2 vs[0] (vs.drop j)) (vs.length-1) ⟨1,by omega,rfl,by simp -implicitDefEqProofs only[AA,BF,BN,↓reduceIte,jA],by simp -implicitDefEqProofs only[AA,↓reduceIte]<;>rfl,rfl,rfl⟩ ?_;rintro n F H' ⟨j,hj,hj2,f1,f5,rfl,hin⟩;simp -implicitDefEqProofs only[BC,BA,BI,A8,AY,BB,AO,AQ,AL,BD,AX,AC,AA,AZ,AU,BH,BG,BR,D7,AB,CZ,DC,↓reduceIte,jA,jB,jC,enP,JA,f1,f5,wrap_succ (show j<9223372036854775807 by omega)];refine CU (fun hc=>?_) (fun hc=>?_)
  .have hc':j+1<vs.length:=by simp at hc; omega
   have ij:=hix j (by omega);have ij1:=hix (j+1) hc';have dj:=hld j (by omega);have dj1:=hld (j+1) hc';rw[AGC _ _ _ hc'] at hin;have e2:IntKind.i64.wrap (((j:Nat):Int)+2)=((j+2:Nat):Int):=by rw[wrap_i64 (by omega) (by omega)]; omega
   have es:IntKind.i64.wrap (((j:Nat):Int)+1)=((j+1:Nat):Int):=wrap_succ (show j<9223372036854775807 by omega);simp -implicitDefEqProofs only[BC,BP,BO,A8];refine EZ (by kernel_rfl) ?_;simp -implicitDefEqProofs only[FZ,ED,DN,EF,FN,GI,FO,FB,IY,EE,CO,AO,AA,AZ,AU,BH,BQ,BR,CE,AB,JC,↓reduceIte,jA,jK,jB,enP,JF,f1,f5,i0,d0,ij,dj,es,ij1,dj1,lec,gec];cases ha:decide (vs[j]<=vs[0])
   .simp -implicitDefEqProofs only[FZ,ED,DN,E8,EF,FN,GI,AB4,I5,BA,BO,BI,A8,EJ,EQ,DT,AY,BB,CO,AO,AQ,AL,BD,AX,AC,AA,EX,AZ,AU,BH,BM,BG,A7,CQ,DX,BR,AB,CZ,↓reduceIte,jA,jK,jB,jC,enP,ha,f5,e2]
    exact⟨n-2,by omega,j+2,by omega,by omega,by trivial,by first|rfl|trivial,trivial,by rw[hin,ha]; rfl⟩
   .cases hb:decide (vs[0]<=vs[j+1])
    .simp -implicitDefEqProofs only[FZ,ED,DN,E8,EF,FN,GI,VI,FO,I5,FB,IY,EE,BA,BO,BI,A8,EJ,EQ,DT,AY,BB,CO,AO,AQ,AL,BD,AX,AC,AA,AZ,AU,BH,BM,BG,A7,CQ,DY,BQ,BR,CE,AB,CZ,JC,↓reduceIte,jA,jK,jB,jC,enP,JF,ha,hb,f1,f5,es,ij1,dj1,lec,i0,d0,e2]
     exact⟨n-2,by omega,j+2,by omega,by omega,by trivial,by first|rfl|trivial,trivial,by rw[hin,ha,hb]; rfl⟩
    .simp -implicitDefEqProofs only[FZ,ED,DN,E8,EF,FN,GI,VI,FO,I5,FB,IY,EE,BC,BA,BK,BI,A8,CP,EG,FQ,CG,DI,AY,BB,CO,AO,AQ,AL,BD,AX,AC,AA,AZ,AU,BH,BM,A7,CQ,DY,BQ,BR,CE,AB,CZ,JC,↓reduceIte,jA,jK,jB,jC,enP,JF,ha,hb,f1,f5,es,ij1,dj1,lec,i0,d0]
     exact⟨by rw[hin,ha,hb]; rfl,trivial⟩
  .have hc':vs.length<=j+1:=by simp at hc; omega
   simp -implicitDefEqProofs only[BC,BA,BK,DJ,A8,EI,CP,EG,EW,ET,CG,AY,BB,AO,AQ,AL,BD,AX,AC,AA,AU,BH,A7,↓reduceIte,jB,jC];exact⟨by rw[hin,AKH _ _ _ hc']; rfl,trivial⟩
 .have n12:=hops.2.2 e22 e23
  have c1:(op==22)=false:=beq_eq_false_iff_ne.2 e22;have c2:(op==23)=false:=beq_eq_false_iff_ne.2 e23;have hval:opW op vs=if vs.length=1 then sgW op (vs.getD 0 0) else dbW op (vs.getD 0 0) (vs.getD 1 0):=by unfold opW; rw[if_neg e22,if_neg e23]
  rw[hval];simp -implicitDefEqProofs only[BC,BP,BA,BO,BI,A8,EJ,DT,AY,BB,AO,AQ,AL,BD,AX,AC,AA,AZ,AU,BH,BG,A7,BR,D7,AB,EC,BF,BN,↓reduceIte,jA,jB,jC,enP,JA,c1,c2];refine CU (fun hc=>?_) (fun hc=>?_)
  .have hl1:vs.length=1:=by simp at hc; omega
   simp -implicitDefEqProofs only[BC,BA,AY,AO,AQ,AL,BD,AX,AC,AA,AZ,AU,BX,BH,BG,BQ,CE,CB,BU,AB,BF,BN,jD,jE,jF,↓reduceIte,jA,jB,jC,enP,JF,i0,d0];refine(AJI G op _ v0 H).use ?_;simp -implicitDefEqProofs only[BK,A8,CP,CG,AY,BB,AO,AQ,AL,BD,AX,AC,AA,AZ,A7,↓reduceIte,jB,jC];exact⟨by rw[if_pos hl1,g0],trivial⟩
  .have hl1:vs.length≠1:=by simp at hc; omega
   have i1:KH 1 H (.own o 0 vs.length) (.int .i64 1)=some (.ptr o 1 0):=hix 1 (by omega);have d1:=hld 1 (by omega);have g1:vs.getD 1 0=vs[1]:=by rw[zQ,jU (by omega)]; rfl
   have v1:vs[1]<65536:=hv _ (jS _);simp -implicitDefEqProofs only[BC,BO,A8];refine EZ (by kernel_rfl) ?_;simp -implicitDefEqProofs only[FZ,ED,DN,E8,EF,FO,I7,FB,EE,GH,F8,BK,A8,CG,AO,AA,AZ,AU,BX,BH,BQ,CE,AB,BF,BN,jD,jE,jF,↓reduceIte,jA,jK,jB,enP,JF,i0,d0,i1,d1];refine⟨_,AK3 G op _ _ v0 v1 H,?_⟩;exact⟨by rw[if_neg hl1,g0,g1],trivial⟩
set_option maxHeartbeats 2000000 in
theorem ATH (G:Nat->AV)(op:Int)(vs:List Nat)(o:Nat)(H:Hp)(ho:H[o]?=some (.live 1 (vs.map IG)))(hv:∀x∈vs,x<65536)(hl:vs.length<=1048576)(hops:ALS op vs.length) :
  PCall (En G) 219 [.int .i64 op,.own o 0 vs.length] H (.int .i64 (opW op vs:Nat)):=by
 have hix:∀k:Nat,k<vs.length->KH 1 H (.own o 0 vs.length) (.int .i64 (k:Nat))=some (.ptr o k 0):=fun k hk=>by rw[L6 ho hk,jG]
 have hld:∀(k:Nat) (hk:k<vs.length),EH Tryz.prog H 3 (.ptr o k 0)=some (.int .i64 (vs[k]:Nat)):=fun k hk=>by rw[DW ag3 ho (row:=IG vs[k]) (ND hk)]; rfl
 have h1:1<=vs.length:=by
  obtain⟨a,b,c⟩:=hops;by_cases e:op=22
  .have:=a e; omega
  by_cases e':op=23
  .have:=b e'; omega
  .have:=c e e'; omega
 have i0:KH 1 H (.own o 0 vs.length) (.int .i64 0)=some (.ptr o 0 0):=hix 0 h1;have d0:=hld 0 h1;have g0:vs.getD 0 0=vs[0]:=by rw[zQ,jU h1]; rfl
 have v0:vs[0]<65536:=hv _ (jS _);refine acN Tryz.func219 rfl ?_;show awp _ _ _ _ _ (EN _ [.tmp 4] _);by_cases e22:op=22
 .subst e22
  have hl3:vs.length=3:=hops.1 rfl;have i1:KH 1 H (.own o 0 vs.length) (.int .i64 1)=some (.ptr o 1 0):=hix 1 (by omega);have i2:KH 1 H (.own o 0 vs.length) (.int .i64 2)=some (.ptr o 2 0):=hix 2 (by omega);have d1:=hld 1 (by omega);have d2:=hld 2 (by omega);have g1:vs.getD 1 0=vs[1]:=by rw[zQ,jU (by omega)]; rfl
  have g2:vs.getD 2 0=vs[2]:=by rw[zQ,jU (by omega)]; rfl
  simp -implicitDefEqProofs only[BC,BA,BI,A8,DI,AY,BB,AO,AQ,AL,BD,AX,AC,AA,AZ,AU,BH,BG,A7,BQ,BR,CE,AB,EC,EK,BF,BN,↓reduceIte,jA,jB,jC,enP,JF,zF,i0,d0,eqz,nez];cases hz:(vs[0]==0)
  .simp -implicitDefEqProofs only[BC,BA,BK,A8,CP,CG,DI,AY,BB,AO,AQ,AL,BD,AX,AC,AA,AZ,AU,BH,BG,A7,BQ,CE,AB,BF,BN,↓reduceIte,jA,jB,jC,enP,JF,i1,d1]
   have:vs[0]≠0:=by simpa using hz
   exact⟨by unfold opW; rw[if_pos rfl,g0,if_pos this,g1],trivial⟩
  .simp -implicitDefEqProofs only[BC,BA,BO,BK,A8,CP,CG,DT,AY,BB,AO,AQ,AL,BD,AX,AC,AA,AZ,AU,BH,BG,A7,BQ,CE,AB,BF,BN,↓reduceIte,jA,jB,jT,jC,enP,JF,i2,d2]
   have:¬vs[0]≠0:=by simpa using hz
   exact⟨by unfold opW; rw[if_pos rfl,g0,if_neg this,g2],trivial⟩
 by_cases e23:op=23
 .subst e23
  obtain⟨hodd,h3⟩:=hops.2.1 rfl;simp -implicitDefEqProofs only[BC,BP,BA,BO,BI,A8,DI,DT,AY,BB,AO,AQ,AL,BD,AX,AC,AA,AZ,AU,BH,BG,A7,BR,AB,EC,BF,↓reduceIte,jA,jB,jC,enP,zF];have hval:opW 23 vs=tr (AD2 vs[0] (vs.drop 1)):=by unfold opW; rw[if_neg (by decide),if_pos rfl,g0]
  rw[hval];refine DK (fun n F H'=>∃j,n+j=vs.length∧j%2=1∧F 1=.own o 0 vs.length∧F 5=.int .i64 (j:Nat)∧H'=H∧AD2 vs[0] (vs.drop 1)=AD2 vs[0] (vs.drop j)) (vs.length-1) ⟨1,by omega,rfl,by simp -implicitDefEqProofs only[AA,BF,BN,↓reduceIte,jA],by simp -implicitDefEqProofs only[AA,↓reduceIte]<;>rfl,rfl,rfl⟩ ?_;rintro n F H' ⟨j,hj,hj2,f1,f5,rfl,hin⟩;simp -implicitDefEqProofs only[BC,BA,BI,A8,AY,BB,AO,AQ,AL,BD,AX,AC,AA,AZ,AU,BH,BG,BR,D7,AB,CZ,DC,↓reduceIte,jA,jB,jC,enP,JA,f1,f5,wrap_succ (show j<9223372036854775807 by omega)];refine CU (fun hc=>?_) (fun hc=>?_)
  .have hc':j+1<vs.length:=by simp at hc; omega
   have ij:=hix j (by omega);have ij1:=hix (j+1) hc';have dj:=hld j (by omega);have dj1:=hld (j+1) hc';rw[AGC _ _ _ hc'] at hin;have e2:IntKind.i64.wrap (((j:Nat):Int)+2)=((j+2:Nat):Int):=by rw[wrap_i64 (by omega) (by omega)]; omega
   have es:IntKind.i64.wrap (((j:Nat):Int)+1)=((j+1:Nat):Int):=wrap_succ (show j<9223372036854775807 by omega);simp -implicitDefEqProofs only[BC,BP,BO,A8];refine EZ (by kernel_rfl) ?_;simp -implicitDefEqProofs only[FZ,ED,DN,EF,FN,GI,FO,FB,IY,EE,CO,AO,AA,AZ,AU,BH,BQ,BR,CE,AB,G5,↓reduceIte,jA,jK,jB,enP,JF,f1,f5,i0,d0,ij,dj,es,ij1,dj1,lec,gec];cases ha:decide (vs[j]<=vs[0])
   .simp -implicitDefEqProofs only[FZ,ED,DN,E8,EF,FN,GI,AB4,I5,BA,BO,BI,A8,EJ,EQ,DT,AY,BB,CO,AO,AQ,AL,BD,AX,AC,AA,EX,AZ,AU,BH,BM,BG,A7,CQ,DX,BR,AB,CZ,↓reduceIte,jA,jK,jB,jC,enP,ha,f5,e2]
    exact⟨n-2,by omega,j+2,by omega,by omega,by trivial,by first|rfl|trivial,trivial,by rw[hin,ha]; rfl⟩
   .cases hb:decide (vs[0]<=vs[j+1])
    .simp -implicitDefEqProofs only[FZ,ED,DN,E8,EF,FN,GI,VI,FO,I5,FB,IY,EE,BA,BO,BI,A8,EJ,EQ,DT,AY,BB,CO,AO,AQ,AL,BD,AX,AC,AA,AZ,AU,BH,BM,BG,A7,CQ,DY,BQ,BR,CE,AB,CZ,JC,↓reduceIte,jA,jK,jB,jC,enP,JF,ha,hb,f1,f5,es,ij1,dj1,lec,i0,d0,e2]
     exact⟨n-2,by omega,j+2,by omega,by omega,by trivial,by first|rfl|trivial,trivial,by rw[hin,ha,hb]; rfl⟩
    .simp -implicitDefEqProofs only[FZ,ED,DN,E8,EF,FN,GI,VI,FO,I5,FB,IY,EE,BC,BA,BK,BI,A8,CP,EG,FQ,CG,DI,AY,BB,CO,AO,AQ,AL,BD,AX,AC,AA,AZ,AU,BH,BM,A7,CQ,DY,BQ,BR,CE,AB,CZ,JC,↓reduceIte,jA,jK,jB,jC,enP,JF,ha,hb,f1,f5,es,ij1,dj1,lec,i0,d0]
     exact⟨by rw[hin,ha,hb]; rfl,trivial⟩
  .have hc':vs.length<=j+1:=by simp at hc; omega
   simp -implicitDefEqProofs only[BC,BA,BK,DJ,A8,EI,CP,EW,ET,CG,AY,BB,AO,AQ,AL,BD,AX,AC,AA,AU,BH,A7,↓reduceIte,jB,jC];exact⟨by rw[hin,AKH _ _ _ hc']; rfl,trivial⟩
 .have n12:=hops.2.2 e22 e23
  have c1:(op==22)=false:=beq_eq_false_iff_ne.2 e22;have c2:(op==23)=false:=beq_eq_false_iff_ne.2 e23;have hval:opW op vs=if vs.length=1 then sgW op (vs.getD 0 0) else dbW op (vs.getD 0 0) (vs.getD 1 0):=by unfold opW; rw[if_neg e22,if_neg e23]
  rw[hval];simp -implicitDefEqProofs only[BC,BA,BO,BI,A8,DT,AY,BB,AO,AQ,AL,BD,AX,AC,AA,AZ,AU,BH,BG,A7,BR,D7,AB,EC,BF,BN,↓reduceIte,jA,jB,jC,enP,JA,c1,c2];refine CU (fun hc=>?_) (fun hc=>?_)
  .have hl1:vs.length=1:=by simp at hc; omega
   simp -implicitDefEqProofs only[BC,BA,AY,AO,AQ,AL,BD,AX,AC,AA,AZ,AU,BX,BH,BG,BQ,CE,CB,BU,AB,BF,BN,jD,jE,jF,↓reduceIte,jA,jB,jC,enP,JF,i0,d0];refine(AL1 G op _ v0 H).use ?_;simp -implicitDefEqProofs only[BK,A8,CP,CG,AY,BB,AO,AQ,AL,BD,AX,AC,AA,AZ,A7,↓reduceIte,jB,jC];exact⟨by rw[if_pos hl1,g0],trivial⟩
  .have hl1:vs.length≠1:=by simp at hc; omega
   have i1:KH 1 H (.own o 0 vs.length) (.int .i64 1)=some (.ptr o 1 0):=hix 1 (by omega);have d1:=hld 1 (by omega);have g1:vs.getD 1 0=vs[1]:=by rw[zQ,jU (by omega)]; rfl
   have v1:vs[1]<65536:=hv _ (jS _);simp -implicitDefEqProofs only[BC,BO,A8];refine EZ (by kernel_rfl) ?_;simp -implicitDefEqProofs only[FZ,ED,DN,E8,EF,FO,I7,FB,EE,GH,F8,BK,A8,CG,AO,AA,AZ,AU,BX,BH,BQ,CE,AB,BF,BN,jD,jE,jF,↓reduceIte,jA,jK,jB,enP,JF,i0,d0,i1,d1];refine⟨_,AM9 G op _ _ v0 v1 H,?_⟩;exact⟨by rw[if_neg hl1,g0,g1],trivial⟩
def YT (l:List Sg)(op n:Int)(name:ByteArray)(vs:List Nat):Nat :=
 if op=1 then n.toNat%65536 else if op=2 then (MR l name).1 else if op=3 then (atG l name (vs.getD 0 0:Nat)).1 else if op=24 then sumTo l name 8 else opW op vs
mutual
def AAB (l:List Sg):Ex->Nat
 | .mk op n name _ args=>YT l op n name (L9 l args)
def L9 (l:List Sg):List Ex->List Nat
 | []=>[]
 | e::es=>AAB l e::L9 l es
end
theorem ACM (l:List Sg)(e:Ex):AAB l e=YT l e.op e.n e.name (L9 l e.args):=by cases e; simp [AAB,Ex.op,Ex.n,Ex.name,Ex.args]
theorem QZ (l:List Sg):∀xs:List Ex,L9 l xs=xs.map (AAB l)
 | []=>by simp [L9]
 | e::es=>by simp [L9,QZ l es]
theorem WR (l:List Sg)(xs:List Ex):(L9 l xs).length=xs.length:=by rw[QZ,jI]
theorem AC7 (l:List Sg)(xs:List Ex)(j:Nat)(hj:j<xs.length):L9 l (xs.take (j+1))=L9 l (xs.take j)++[AAB l xs[j]]:=by
 rw[QZ,QZ,List.take_succ_eq_append_getElem hj,List.map_append]; rfl
theorem AOB (l:List Sg)(e:Ex):AAB l e<65536:=by
 induction e using Ex.induct with|h e ih=>?_
 rw[ACM]
 have hv:∀x∈L9 l e.args,x<65536:=by
  intro x hx;rw[QZ] at hx;obtain⟨a,ha,rfl⟩:=zO.1 hx;exact ih a ha
 unfold YT;split
 .exact qJ _ (by omega)
 split
 .exact AEE _ _
 split
 .exact ANN _ _ _
 split
 .exact ADC _ _ _
 .exact A0R _ hv
theorem AI9 (l:List Sg)(xs:List Ex):∀x∈L9 l xs,x<65536:=by
 intro x hx;rw[QZ] at hx;obtain⟨a,_,rfl⟩:=zO.1 hx;exact AOB l a
def knE (l:List Sg)(e:Ex):Bool:=if e.op=2 then (MR l e.name).2 else if e.op=3∨e.op=24 then (atG l e.name 0).2 else true
theorem ADT {e:Ex}(h:KT e=0):(e.op=1->0<=e.n∧e.n<=65535)∧(e.op=3->e.args.length=1)∧(e.op≠1->e.op≠2->e.op≠3->e.op≠24->ALS e.op e.args.length):=by
 unfold KT at h
 have hO:YK e=false:=by
  cases hb:YK e
  .rfl
  .rw[hb] at h; simp at h
 have hN:AIR e=false:=by
  cases hb:AIR e
  .rfl
  .rw[hO,hb] at h; simp at h
 have hS:AFP e=false:=by
  cases hb:AFP e
  .rfl
  .rw[hO,hN,hb] at h; simp at h
 have hops:AAK e.op e.args.length=true:=by
  unfold AFP at hS;rw[Bool.or_eq_false_iff] at hS;simpa using hS.2
 have h1:1<=e.op∧e.op<=25:=by unfold YK at hO; simp at hO; omega
 refine⟨fun h1=>?_,fun h3=>?_,fun n1 n2 n3 n24=>⟨fun h22=>?_,fun h23=>?_,fun n22 n23=>?_⟩⟩
 .unfold AIR at hN; simp [h1] at hN; omega
 .unfold AAK at hops; rw[h3] at hops; simp [arity] at hops; omega
 .unfold AAK at hops; rw[h22] at hops; simp [arity] at hops; omega
 .unfold AAK at hops; rw[h23] at hops; simp at hops; omega
 .unfold AAK at hops
  rw[if_neg (by simpa using n23)] at hops
  have h5:arity e.op=1∨arity e.op=2:=by
   by_cases hq:e.op=3∨e.op=4∨e.op=5∨e.op=6∨e.op=25
   .left; unfold arity; rw[if_neg (by omega),if_neg (by omega),if_pos hq]
   .right; unfold arity; rw[if_neg (by omega),if_neg (by omega),if_neg hq,if_neg n22,if_neg n23]
  have h6:((e.args.length:Nat):Int)=arity e.op:=by simpa using hops
  omega
theorem str_eq {a b:ByteArray}(h:(a.toList==b.toList)=true):a=b:=by
 rw[ByteArray.toList_eq,ByteArray.toList_eq] at h;exact ByteArray.ext (Array.toList_inj.1 (beq_iff_eq.1 h))
theorem AXI (P:ByteArray->Bool)(ops:List Int)(ns:List ByteArray)(e:Ex):(nmU ops ns e).all P=(ns.all P&&(!Rk.hasB ops e.op||P e.name)):=by
 unfold nmU;cases hb:Rk.hasB ops e.op
 .simp
 cases hs:I4 ns e.name
 .simp
 .simp
  intro ha;unfold I4 at hs;rw[List.any_eq_true] at hs;obtain⟨u,hu,he⟩:=hs;rw[str_eq he]; exact ha u hu
theorem AHP (P:ByteArray->Bool)(ops:List Int):∀(xs:List Ex) (ns:List ByteArray),(nmL ops ns xs).all P=(ns.all P&&xs.all fun e => !Rk.hasB ops e.op||P e.name)
 | [],ns=>by simp [nmL]
 | e::xs,ns=>by
   have:=AHP P ops xs (nmU ops ns e)
   simp only[nmL,List.foldl_cons,List.all_cons] at this|-
   rw[this,AXI,Bool.and_assoc]
theorem AQ0 (l:List Sg)(xs:List Ex):((nmL [2] [] xs).all (fun n=>(MR l n).2)&&(nmL [3,24] [] xs).all fun n=>(atG l n 0).2)=xs.all (knE l):=by
 rw[AHP,AHP,Bool.eq_iff_iff];simp only[List.all_nil,wC,Bool.and_eq_true,List.all_eq_true];constructor
 .rintro⟨h1,h2⟩ x hx
  have a:=h1 x hx;have b:=h2 x hx;unfold knE;unfold Rk.hasB at a b;by_cases e2:x.op=2
  .rw[if_pos e2]; simpa [e2] using a
  by_cases e3:x.op=3∨x.op=24
  .rw[if_neg e2,if_pos e3]; rcases e3 with e3|e3<;>simpa [e3] using b
  .rw[if_neg e2,if_neg e3]
 .intro h
  refine⟨fun x hx=>?_,fun x hx=>?_⟩
  .have a:=h x hx
   unfold knE at a;unfold Rk.hasB;by_cases e2:x.op=2
   .rw[if_pos e2] at a; simp [e2,a]
   .have:¬2=x.op:=fun q=>e2 q.symm
    simp [this]
  .have a:=h x hx
   unfold knE at a;unfold Rk.hasB;by_cases e3:x.op=3∨x.op=24
   .have e2:¬x.op=2:=by omega
    rw[if_neg e2,if_pos e3] at a; simp [a]
   .have e4:¬3=x.op:=fun q=>e3 (.inl q.symm)
    have e5:¬24=x.op:=fun q=>e3 (.inr q.symm)
    simp [e4,e5]
theorem ALJ {α:Type}(P:α->Bool)(xs:List α)(k:Nat)(hk:k<xs.length):(xs.drop k).all P=(P xs[k]&&(xs.drop (k+1)).all P):=by
 rw[zJ hk]; rfl
theorem AO1 (ops:List Int):∀(xs:List Ex) (ns:List ByteArray) (n:ByteArray),n∈nmL ops ns xs->n∈ns∨∃x∈xs,n=x.name
 | [],ns,n,h=>.inl h
 | e::xs,ns,n,h=>by
   rcases AO1 ops xs (nmU ops ns e) n h with h1|⟨x,hx,hn⟩
   .unfold nmU at h1
    split at h1
    .rcases List.mem_append.1 h1 with h2|h2
     .exact .inl h2
     .exact .inr ⟨e,by simp,by simpa using h2⟩
    .exact .inl h1
   .exact .inr ⟨x,List.mem_cons_of_mem _ hx,hn⟩
section
variable (G:Nat->AV)
theorem AMP (l:List Sg)(m:SM)(e:Ex)(h:Hp)(hl:l.length<=1099511627776)(hw:wt e<=1048576):PCall (En G) 157 [.agg [.sl m 2 (l.map G7)],.agg (FH e)] h (.bool ((pre e).all (knE l))):=by
 refine ACalls.pure0 rfl ?_;rw[<-AQ0];have hpl:=AHM e;have hn1:=ACR [2] (pre e) [];have hn2:=ACR [3,24] (pre e) []
 have hm2:∀n∈nmL [3,24] [] (pre e),n.size<=1048576:=fun n hn=>by
  rcases AO1 _ _ _ n hn with h1|⟨x,hx,rfl⟩
  .cases h1
  .have:=AJ4 hx; omega
 have hN:=AN2 G e hw;have hA:=ALW G e hw;simp only[List.length_nil,jG] at hn1 hn2
 generalize nmL [2] [] (pre e)=ns at hn1 hN|-
 generalize nmL [3,24] [] (pre e)=ars at hn2 hA hm2|-
 refine acN Tryz.func157 rfl ?_;show awp _ _ _ _ _ (EN _ [.tmp 4] _);have gs:=CV (x:=ABlk.live 4 [FH e]) (CY h (ABlk.live 1 [[.sl m 2 (l.map G7)]]));have ge:=CY (h++[ABlk.live 1 [[.sl m 2 (l.map G7)]]]) (ABlk.live 4 [FH e]);have hx:ext h (h++[ABlk.live 1 [[.sl m 2 (l.map G7)]]]++[ABlk.live 4 [FH e]]):=((ext.rfl' h).app _).app _;simp -implicitDefEqProofs only[BC,BA,A8,AY,BB,AO,AQ,AL,BD,AX,AC,AA,AZ,AU,BM,A7,FU,BQ,BZ,BF,BN,↓reduceIte,jA,jB,jC,enP,ALC h (.sl m 2 (l.map G7)) rfl,bxE]
 generalize h++[ABlk.live 1 [[.sl m 2 (l.map G7)]]]++[ABlk.live 4 [FH e]]=H at gs ge hx|-
 generalize (h++[ABlk.live 1 [[.sl m 2 (l.map G7)]]]).length=eb at ge|-
 simp -implicitDefEqProofs only[AY,AO,AQ,AL,BD,AX,AC,AA,AZ,BX,CB,BU,AB,jD,jE,jF,↓reduceIte,jB,jC,NK ge];refine(hN H).use ?_;simp -implicitDefEqProofs only[BP,A8,AY,BB,AO,AQ,AL,BD,AX,AC,AA,AZ,AU,BH,BG,D7,AB,↓reduceIte,jB,jC,enP,ABK,jI];refine GN 0 (fun F H'=>F 2=.ptr h.length 0 0∧F 3=.ptr eb 0 0∧H'=H∧ns.all (fun n=>(MR l n).2)=true) (fun F H'=>F 4=.bool false∧H'=H∧ns.all (fun n=>(MR l n).2)=false) ?_ ?_ ?_
 .refine DK (fun k F H'=>∃j,k+j=ns.length∧F 2=.ptr h.length 0 0∧F 3=.ptr eb 0 0∧F 14=.sl (nm ns) 1 (ns.map encStr)∧F 15=.int .i64 (ns.length:Nat)∧F 16=.int .i64 (j:Nat)∧H'=H∧ns.all (fun n=>(MR l n).2)=(ns.drop j).all fun n=>(MR l n).2) ns.length ⟨0,by simp,by simp -implicitDefEqProofs only[AA,↓reduceIte,jA],by simp -implicitDefEqProofs only[AA,↓reduceIte,jA],by simp -implicitDefEqProofs only[AA,↓reduceIte,jA],by simp -implicitDefEqProofs only[AA,↓reduceIte,jA],by simp -implicitDefEqProofs only[AA,↓reduceIte]; rfl,rfl,rfl⟩ ?_
  rintro k F H' ⟨j,hj,f2,f3,f14,f15,f16,rfl,hall⟩;simp -implicitDefEqProofs only[BC,BA,BI,A8,AY,BB,AO,AQ,AL,BD,AX,AC,AA,AZ,BR,AB,DC,↓reduceIte,jB,jC,enP,f15,f16];refine CU (fun hc=>?_) (fun hc=>?_)
  .have hj':j<ns.length:=by simpa using hc
   rw[ALJ _ ns j hj'] at hall;simp -implicitDefEqProofs only[BC,BP,BA,BO,A8,AY,BB,AO,AQ,AL,BD,AX,AC,AA,AZ,BX,BG,A7,BQ,CE,CB,BU,AB,jD,jE,jF,↓reduceIte,jA,jB,jC,enP,AGA,f2,f14,f16,DU hj',DF ag9 hj',encStr0,XP gs];refine(AAT G l m _ H' hl).use ?_;unfold TC;simp -implicitDefEqProofs only[zB,zG,BC,BA,BI,A8,AY,BB,AO,AQ,AL,BD,AX,AC,AA,AZ,BG,A7,IE,FI,GU,AB,FK,↓reduceIte,jA,jB,jC];cases hk:(MR l ns[j]).2
   .simp -implicitDefEqProofs only[BC,BA,BK,A8,CP,EG,NG,FQ,DI,AY,BB,AO,AQ,AL,BD,AX,AC,AA,AU,BM,A7,↓reduceIte,jB,jC]
    exact⟨trivial,trivial,by rw[hall,hk]; rfl⟩
   .simp -implicitDefEqProofs only[BA,BO,A8,EJ,EQ,DT,AY,BB,AO,AQ,AL,BD,AX,AC,AA,AZ,AU,BH,BG,BR,AB,CZ,↓reduceIte,jA,jB,jT,jC,enP,f2,f3,f14,f15,f16,wrap_succ (show j<9223372036854775807 by omega)]
    exact⟨k-1,by omega,j+1,by omega,by trivial,by trivial,by trivial,by trivial,by trivial,trivial,by rw[hall,hk]; rfl⟩
  .have hj':¬j<ns.length:=by simpa using hc
   simp -implicitDefEqProofs only[DJ,EI,J3,ET,AA,↓reduceIte,jA];exact⟨f2,f3,trivial,by rw[hall,jW (by omega)]; rfl⟩
 .rintro F H' ⟨f2,f3,rfl,hall⟩
  rw[hall,wC];simp -implicitDefEqProofs only[BC,BA,A8,EW,AY,AO,AQ,AL,BD,AX,AC,AA,AZ,BX,BQ,CB,BU,AB,jD,jE,jF,↓reduceIte,jB,jC,enP,f3,NK ge];refine(hA H').use ?_;simp -implicitDefEqProofs only[BP,A8,AY,BB,AO,AQ,AL,BD,AX,AC,AA,AZ,AU,BH,BG,D7,AB,↓reduceIte,jB,jC,enP,ABK,jI];refine DK (fun k F' H2=>∃j,k+j=ars.length∧F' 2=.ptr h.length 0 0∧F' 30=.sl (nm ars) 1 (ars.map encStr)∧F' 31=.int .i64 (ars.length:Nat)∧F' 32=.int .i64 (j:Nat)∧H2=H'∧ars.all (fun n=>(atG l n 0).2)=(ars.drop j).all fun n=>(atG l n 0).2) ars.length ⟨0,by simp,by simp -implicitDefEqProofs only[AA,↓reduceIte,jA,f2],by simp -implicitDefEqProofs only[AA,↓reduceIte,jA],by simp -implicitDefEqProofs only[AA,↓reduceIte,jA],by simp -implicitDefEqProofs only[AA,↓reduceIte]; rfl,rfl,rfl⟩ ?_;rintro k F' H2 ⟨j,hj,g2,g30,g31,g32,rfl,hall2⟩;simp -implicitDefEqProofs only[BC,BA,BI,A8,AY,BB,AO,AQ,AL,BD,AX,AC,AA,AZ,BR,AB,DC,↓reduceIte,jB,jC,enP,g31,g32];refine CU (fun hc=>?_) (fun hc=>?_)
  .have hj':j<ars.length:=by simpa using hc
   rw[ALJ _ ars j hj'] at hall2;simp -implicitDefEqProofs only[BC,BP,BA,BO,A8,AY,BB,AO,AQ,AL,BD,AX,AC,AA,AZ,AU,BX,BH,BG,A7,BQ,CE,CB,BU,AB,jD,jE,jF,↓reduceIte,jA,jB,jC,enP,AGA,g2,g30,g32,DU hj',DF ag9 hj',encStr0,XP gs];refine(AIT G l m _ 0 H2 hl (hm2 _ (jS hj'))).use ?_;unfold TC;simp -implicitDefEqProofs only[zB,zG,BC,BA,BI,A8,AY,BB,AO,AQ,AL,BD,AX,AC,AA,AZ,BG,A7,IE,FI,GU,AB,FK,↓reduceIte,jA,jB,jC];cases hk:(atG l ars[j] 0).2
   .simp -implicitDefEqProofs only[BC,BA,BK,A8,CP,EG,FQ,CG,DI,AY,BB,AO,AQ,AL,BD,AX,AC,AA,AU,BM,A7,↓reduceIte,jB,jC]
    exact⟨by rw[hall2,hk]; rfl,hx⟩
   .simp -implicitDefEqProofs only[BA,BO,A8,EJ,EQ,DT,AY,BB,AO,AQ,AL,BD,AX,AC,AA,AZ,AU,BH,BG,BR,AB,CZ,↓reduceIte,jA,jB,jT,jC,enP,g2,g30,g31,g32,wrap_succ (show j<9223372036854775807 by omega)]
    exact⟨k-1,by omega,j+1,by omega,by first|trivial|exact g2,by first|trivial|exact g30,by first|trivial|exact g31,by trivial,trivial,by rw[hall2,hk]; rfl⟩
  .have hj':¬j<ars.length:=by simpa using hc
   simp -implicitDefEqProofs only[BC,BA,BK,DJ,A8,EI,EW,ET,CG,AY,BB,AO,AQ,AL,BD,AX,AC,AA,AU,BM,A7,↓reduceIte,jB,jC];exact⟨by rw[hall2,jW (by omega)]; rfl,hx⟩
 .rintro F H' ⟨f4,rfl,hall⟩
  simp -implicitDefEqProofs only[CP,EG,CG,f4];exact⟨by rw[hall]; rfl,hx⟩
theorem encN0 (n:Nat):(IG n)[0]?=some (.int .i64 (n:Int)):=rfl
theorem AI7 (l:List Sg)(m:SM)(hl:l.length<=1099511627776)(e:Ex):wt e<=1048576->(∀x∈pre e,KT x=0)->∀h:Hp,PCall (En G) 158 [.agg [.sl m 2 (l.map G7)],.agg (FH e)] h (.int .i64 (AAB l e:Nat)):=by
 induction e using Ex.induct with|h e ih=>?_
 intro hw hval h;have hal:e.args.length<=1048576:=by have:=WQ e.args; have:=OI e; omega
 have hnz:e.name.size<=1048576:=by have:=OI e; omega
 obtain⟨o1,o3,oo⟩:=ADT (hval e (by rw[pre_eq]; simp));refine ACalls.pure0 rfl ?_;refine acN Tryz.func158 rfl ?_;show awp _ _ _ _ _ (EN _ [.tmp 4] _);have gs:=CV (x:=ABlk.live 4 [FH e]) (CY h (ABlk.live 1 [[.sl m 2 (l.map G7)]]));have ge:=CY (h++[ABlk.live 1 [[.sl m 2 (l.map G7)]]]) (ABlk.live 4 [FH e]);have hx:ext h (h++[ABlk.live 1 [[.sl m 2 (l.map G7)]]]++[ABlk.live 4 [FH e]]):=((ext.rfl' h).app _).app _;simp -implicitDefEqProofs only[BC,BA,A8,AY,BB,AO,AQ,AL,BD,AX,AC,AA,AZ,AU,BH,IK,A7,FU,BQ,BJ,BZ,AB,BF,BN,↓reduceIte,jA,jG,jB,jC,enP,TT,ALC h (.sl m 2 (l.map G7)) rfl,bxE]
 generalize h++[ABlk.live 1 [[.sl m 2 (l.map G7)]]]++[ABlk.live 4 [FH e]]=H1 at gs ge hx|-
 generalize (h++[ABlk.live 1 [[.sl m 2 (l.map G7)]]]).length=eb at ge|-
 have l3:EH Tryz.prog H1 51 (.ptr eb 0 3)=some (.sl e.m 4 (e.args.map FH)):=by rw[DW ALO ge (row:=FH e) rfl,ABS]
 simp -implicitDefEqProofs only[BP,A8,AY,BB,AO,AQ,AL,BD,AX,AC,AA,AZ,AU,BH,BG,D7,AB,↓reduceIte,jB,jC,enP,AKG,l3,jI];refine GN 0 (fun F H=>∃v,F 2=.ptr h.length 0 0∧F 3=.ptr eb 0 0∧F 5=v∧ext H1 H∧outG 1 IG H1 (L9 l e.args) v H) (fun _ _=>False) ?_ ?_ (fun _ _ hh=>hh.elim)
 .refine DK (fun k F H=>∃j v,k+j=e.args.length∧F 2=.ptr h.length 0 0∧F 3=.ptr eb 0 0∧F 5=v∧F 13=.sl e.m 4 (e.args.map FH)∧F 14=.int .i64 (e.args.length:Nat)∧F 15=.int .i64 (j:Nat)∧ext H1 H∧outG 1 IG H1 (L9 l (e.args.take j)) v H) e.args.length
   ⟨0,.sl .nil 0 [],by simp,by simp -implicitDefEqProofs only[AA,↓reduceIte,jA],by simp -implicitDefEqProofs only[AA,↓reduceIte,jA],by simp -implicitDefEqProofs only[AA,↓reduceIte,jA],by simp -implicitDefEqProofs only[AA,↓reduceIte,jA],by simp -implicitDefEqProofs only[AA,↓reduceIte,jA],by simp -implicitDefEqProofs only[AA,↓reduceIte]; rfl,ext.rfl' H1,outG.nil _ _ _ _⟩ ?_
  rintro k F H ⟨j,v,hj,f2,f3,f5,f13,f14,f15,hxH,ho⟩;simp -implicitDefEqProofs only[BC,BA,BI,A8,AY,BB,AO,AQ,AL,BD,AX,AC,AA,AZ,BR,AB,DC,↓reduceIte,jB,jC,enP,f14,f15];refine CU (fun hc=>?_) (fun hc=>?_)
  .have hj':j<e.args.length:=by simpa using hc
   have hmem:e.args[j]∈e.args:=jS hj';have ho1:=ho.app [ABlk.live 4 [FH e.args[j]]];have hx1:=hxH.app [ABlk.live 4 [FH e.args[j]]];have htl:(L9 l (e.args.take j)).length<8388608:=by rw[WR]; simp; omega
   obtain⟨v',H',ha,ho',_,hx',_,_⟩:=ho1.append (P:=Tryz.prog) TN sz3 XG VN (by omega) htl hx1 (AAB l e.args[j]);have ha':H7 Tryz.prog true (H++[ABlk.live 4 [FH e.args[j]]]) 57 57 v (.sl .full 1 [[.int .i64 ((AAB l e.args[j]:Nat):Int)]])=some (v',H'):=ha;simp -implicitDefEqProofs only[BC,BP,BA,BO,A8,AY,BB,AO,AQ,AL,BD,AX,AC,EM,AA,AZ,BX,BG,FD,BQ,D5,CE,CB,BU,BZ,AB,CX,jD,jE,jF,↓reduceIte,jA,jB,jC,enP,AQ1,jP,f13,f15,DU hj',FM AIV ADB KL hj',AY4,AWM _ _ [.int .i64 0,.int .i64 0,.str ⟨#[]⟩,.sl .nil 0 []] rfl,f2,f5,XP (FP hx1 gs),ldE];refine(ih e.args[j] hmem (by have:=UW hmem; have:=OI e; omega) (fun x hx=>hval x (by rw[pre_eq]; exact List.mem_cons_of_mem _ (ACP hmem x hx))) _).use ?_;simp -implicitDefEqProofs only[EY,FT,BA,A8,EJ,EQ,AY,BB,AO,AQ,AL,BD,AX,AC,AA,AZ,AU,BH,BG,A7,EP,BR,GR,BZ,AB,CZ,↓reduceIte,jA,jB,jC,enP,f5,ACE,ha',f2,f3,f13,f14,f15,wrap_succ (show j<9223372036854775807 by omega)];exact⟨k-1,by omega,j+1,v',by omega,by trivial,by trivial,by trivial,by trivial,by trivial,by trivial,hx',by rw[AC7 _ _ _ hj']; exact ho'⟩
  .have hj':¬j<e.args.length:=by simpa using hc
   rw[jX (by omega)] at ho;simp -implicitDefEqProofs only[DJ,EI,J3,ET,AA,↓reduceIte,jA];exact⟨v,f2,f3,f5,hxH,ho⟩
 .rintro F H ⟨v,f2,f3,f5,hxH,ho⟩
  have gsH:=FP hxH gs;have geH:=FP hxH ge;have hxx:=hx.trans hxH;have l0:EH Tryz.prog H 3 (.ptr eb 0 0)=some (.int .i64 e.op):=by rw[DW ag3 geH (row:=FH e) rfl,KN]
  have l1:EH Tryz.prog H 3 (.ptr eb 0 1)=some (.int .i64 e.n):=by rw[DW ag3 geH (row:=FH e) rfl,ZN]
  have l2:EH Tryz.prog H 9 (.ptr eb 0 2)=some (.str e.name):=by rw[DW ag9 geH (row:=FH e) rfl,QN]
  have hvl:=WR l e.args;rw[ACM];simp -implicitDefEqProofs only[BC,BP,BA,BI,A8,EW,AY,BB,AO,AQ,AL,BD,AX,AC,AA,AZ,AU,BH,A7,BQ,BR,BJ,AB,EC,↓reduceIte,jL,jB,jC,enP,IW,f3,l0];by_cases e1:e.op=1
  .have c1:(e.op==1)=true:=by simpa using e1
   simp -implicitDefEqProofs only[BC,BA,BK,A8,CP,EG,CG,DI,AY,BB,AO,AQ,AL,BD,AX,AC,AA,AZ,A7,BQ,BJ,AB,↓reduceIte,jA,jG,jB,jC,enP,AAU,c1,f3,l1];have:=o1 e1;exact⟨by unfold YT; rw[if_pos e1]; congr 1; omega,hxx⟩
  have c1:(e.op==1)=false:=by simpa using e1
  by_cases e2:e.op=2
  .have c2:(e.op==2)=true:=by simpa using e2
   simp -implicitDefEqProofs only[BC,BA,BI,A8,DI,DT,AY,BB,AO,AQ,AL,BD,AX,AC,AA,AZ,AU,BX,BH,A7,BQ,BR,BJ,CB,BU,AB,EC,jD,jE,jF,↓reduceIte,jA,jG,jB,jC,enP,MI,c1,c2,f2,f3,l2,XP gsH];refine(AAT G l m _ H hl).use ?_;unfold TC;simp -implicitDefEqProofs only[zB,zG,BC,BA,BK,A8,CP,EG,CG,AY,BB,AO,AQ,AL,BD,AX,AC,AA,AZ,BG,A7,FI,GU,AB,↓reduceIte,jA,jB,jC];exact⟨by unfold YT; rw[if_neg e1,if_pos e2],hxx⟩
  have c2:(e.op==2)=false:=by simpa using e2
  by_cases e3:e.op=3
  .have c3:(e.op==3)=true:=by simpa using e3
   have hl1:=o3 e3
   obtain⟨o,rfl,hob⟩:∃o,v=.own o 0 1∧H[o]?=some (.live 1 ((L9 l e.args).map IG)):=by
    rcases ho with⟨h0,_⟩|⟨_,o,_,rfl,hb⟩
    .rw[h0] at hvl; simp at hvl; omega
    .exact⟨o,by rw[hvl,hl1],hb⟩
   have hlen:0<(L9 l e.args).length:=by omega
   have i0:KH 1 H (.own o 0 1) (.int .i64 0)=some (.ptr o 0 0):=L6 (n:=0) hob (by decide)
   have d0:EH Tryz.prog H 3 (.ptr o 0 0)=some (.int .i64 ((L9 l e.args).getD 0 0:Nat)):=by
    rw[DW ag3 hob (row:=IG (L9 l e.args)[0]) (ND hlen),zQ,jU hlen]; rfl
   simp -implicitDefEqProofs only[BC,BA,BI,A8,DI,DT,AY,BB,AO,AQ,AL,BD,AX,AC,AA,AZ,AU,BH,A7,BR,AB,EC,↓reduceIte,jA,jB,jC,enP,c1,c2,c3];refine EZ (by kernel_rfl) ?_;simp -implicitDefEqProofs only[FZ,ED,DN,EF,FO,FB,D9,EE,LU,GH,F8,AO,AA,AZ,AU,BX,BH,BQ,BJ,CE,FI,AB,jD,jE,jF,↓reduceIte,jA,jK,jG,jB,enP,MI,JF,f2,f3,f5,l2,XP gsH,i0,d0];refine⟨_,AIT G l m _ _ H hl hnz,?_⟩;unfold TC;simp -implicitDefEqProofs only[FZ,zB,zG,ED,DN,E8,EF,I7,LU,BC,BA,BK,A8,CP,EG,CG,AY,BB,AO,AQ,AL,BD,AX,AC,AA,AZ,BG,A7,FI,GU,AB,↓reduceIte,jA,jK,jB,jC];exact⟨by unfold YT; rw[if_neg e1,if_neg e2,if_pos e3],hxx⟩
  have c3:(e.op==3)=false:=by simpa using e3
  by_cases e24:e.op=24
  .have c24:(e.op==24)=true:=by simpa using e24
   simp -implicitDefEqProofs only[BC,BA,BI,A8,DI,DT,AY,BB,AO,AQ,AL,BD,AX,AC,AA,AZ,AU,BX,BH,A7,BQ,BR,BJ,CB,BU,AB,EC,jD,jE,jF,↓reduceIte,jA,jG,jB,jC,enP,MI,c1,c2,c3,c24,f2,f3,l2,XP gsH];refine(ASU G l m _ H hl hnz).use ?_;simp -implicitDefEqProofs only[BK,A8,CP,EG,CG,AY,BB,AO,AQ,AL,BD,AX,AC,AA,AZ,A7,↓reduceIte,jB,jC];exact⟨by unfold YT; rw[if_neg e1,if_neg e2,if_neg e3,if_pos e24],hxx⟩
  have c24:(e.op==24)=false:=by simpa using e24
  have hok:=oo e1 e2 e3 e24;have hok':ALS e.op (L9 l e.args).length:=by rw[hvl]; exact hok
  obtain⟨o,rfl,hob⟩:∃o,v=.own o 0 (L9 l e.args).length∧H[o]?=some (.live 1 ((L9 l e.args).map IG)):=by
   rcases ho with⟨h0,_⟩|⟨_,o,_,rfl,hb⟩
   .exfalso
    rw[h0] at hok';obtain⟨a,b,c⟩:=hok';by_cases q:e.op=22
    .have:=a q; simp at this
    by_cases q':e.op=23
    .have:=b q'; simp at this
    .have:=c q q'; simp at this
   .exact⟨o,rfl,hb⟩
  simp -implicitDefEqProofs only[BC,BA,BO,BI,A8,EJ,DT,AY,BB,AO,AQ,AL,BD,AX,AC,AA,AZ,AU,BX,BH,BG,A7,BQ,BR,BJ,CB,BU,AB,EC,jD,jE,jF,↓reduceIte,jA,jL,jB,jC,enP,IW,c1,c2,c3,c24,f3,l0,f5];refine(AQS G e.op _ o H hob (AI9 l _) (by omega) hok').use ?_;simp -implicitDefEqProofs only[BK,A8,CG,AY,BB,AO,AQ,AL,BD,AX,AC,AA,AZ,A7,↓reduceIte,jB,jC];exact⟨by unfold YT; rw[if_neg e1,if_neg e2,if_neg e3,if_neg e24],hxx⟩
end
theorem AUP {xs:List Ex}(h:errs xs=0):∀x∈xs,KT x=0:=by
 induction xs with
 | nil=>intro x hx; cases hx
 | cons y ys ih =>
   have h1:ys.foldl (fun z e=>if z=0 then KT e else z) (KT y)=0:=h
   have hy:KT y=0:=by
    rcases Classical.em (KT y=0) with q|q
    .exact q
    .rw[AIG _ _ q] at h1; exact h1
   rw[hy] at h1;intro x hx;rcases List.mem_cons.1 hx with rfl|hx
   .exact hy
   .exact ih h1 x hx
theorem AGJ {e:Ex}(h:exE e=0):∀x∈pre e,KT x=0:=by
 unfold exE at h;split at h
 .cases h
 .exact AUP h
def evE (l:List Sg)(e:Ex):Nat×Int:=if exE e≠0 then (0,1) else if(pre e).all (knE l)=true then (AAB l e,0) else (0,7)
def evV (p:Nat×Int):AV:=.tup [.int .i64 (p.1:Nat),.int .i64 p.2]
theorem AIF (p:Nat×Int)(n:Nat)(H:Hp):IV n H 2 (evV p)=evV p:=rfl
theorem A36 (h:Hp):KJ Tryz.prog h 195=some (.ptr h.length 0 0,h++[.live 1 [[.sl .nil 0 []]]]):=J8 (row:=[.sl .nil 0 []]) (by kernel_rfl)
theorem A3X (s:SM)(k:Nat)(xs:List (List AV)):LQ Tryz.prog 195 [(0,.sl s k xs)]=some (.agg [.sl s k xs]):=by kernel_rfl
theorem A16 (h:Hp)(s:SM)(k:Nat)(xs:List (List AV)):FW Tryz.prog (h++[.live 1 [[.sl .nil 0 []]]]) 195 (.ptr h.length 0 0) (.agg [.sl s k xs])=some (h++[.live 1 [[.sl s k xs]]]):=by
 rw[OY (cs:=[.sl s k xs]) (row:=[.sl .nil 0 []]) rfl AZI (CY _ _) (by exact jM 1),OZ];rfl
section
variable (G:Nat->AV)
theorem AR9 (hG:GOk G)(l:List Sg)(m:SM)(e:Ex)(h:Hp)(hl:l.length<=1099511627776)(hw:wt e<=1048576):PCall (En G) 99 [.agg (FH e),.sl m 2 (l.map G7)] h (evV (evE l e)):=by
 refine QL 2 (AIF _) ?_;refine acN Tryz.func99 rfl ?_;show awp _ _ _ _ _ (EN _ [.tmp 4,.tmp 5] _);have ge:=CV (x:=ABlk.live 1 [[.sl m 2 (l.map G7)]]) (CY h (ABlk.live 4 [FH e]));have gs:=CY (h++[ABlk.live 4 [FH e]]) (ABlk.live 1 [[.sl m 2 (l.map G7)]]);have hx:ext h (h++[ABlk.live 4 [FH e]]++[ABlk.live 1 [[.sl m 2 (l.map G7)]]]):=((ext.rfl' h).app _).app _;simp -implicitDefEqProofs only[EY,FT,BC,BP,BA,A8,AY,BB,AO,AQ,AL,BD,AX,AC,EM,AA,AZ,AU,BH,BG,A7,FD,FU,G9,BQ,D5,BZ,AB,CX,BF,BN,↓reduceIte,jA,jB,jC,enP,jP,bxE,A3X,A36,A16]
 generalize h++[ABlk.live 4 [FH e]]++[ABlk.live 1 [[.sl m 2 (l.map G7)]]]=H at ge gs hx|-
 generalize (h++[ABlk.live 4 [FH e]]).length=sb at gs|-
 simp -implicitDefEqProofs only[AY,AO,AQ,AL,BD,AX,AC,AA,AZ,BX,CB,BU,AB,jD,jE,jF,↓reduceIte,jB,jC,NK ge];refine(ZK G hG e H hw).use ?_;simp -implicitDefEqProofs only[BI,A8,AY,BB,AO,AQ,AL,BD,AX,AC,AA,AZ,AU,BH,A7,BR,AB,EK,↓reduceIte,jB,jC,enP];cases hv:(exE e==0)
 .have hne:exE e≠0:=by simpa using hv
  simp -implicitDefEqProofs only[BC,BA,BK,A8,CP,EG,KY,DI,AY,BB,AO,AQ,AL,BD,AX,AC,AA,AU,BH,A7,↓reduceIte,jA,jB,jC,bne,hv];exact⟨by unfold evE; rw[if_pos hne]; rfl,hx⟩
 have h0:exE e=0:=by simpa using hv
 simp -implicitDefEqProofs only[BC,BA,DT,AY,AO,AQ,AL,BD,AX,AC,AA,AZ,BX,BQ,CB,BU,AB,jD,jE,jF,↓reduceIte,jA,jB,jT,jC,enP,bne,hv,NK ge,XP gs];refine(AMP G l m e H hl hw).use ?_;simp -implicitDefEqProofs only[BI,A8,AY,BB,AO,AQ,AL,BD,AX,AC,AA,AZ,A7,IE,AB,FK,↓reduceIte,jB,jC];cases hk:(pre e).all (knE l)
 .simp -implicitDefEqProofs only[BC,BA,BK,A8,CP,EG,KY,DI,AY,BB,AO,AQ,AL,BD,AX,AC,AA,AU,BH,A7,↓reduceIte,jA,jB,jC]
  exact⟨by unfold evE; rw[if_neg (by simpa using h0),if_neg (by rw[hk]; decide)]; rfl,hx⟩
 simp -implicitDefEqProofs only[BC,BA,BO,A8,EJ,DT,AY,AO,AQ,AL,BD,AX,AC,AA,AZ,BX,BQ,CB,BU,AB,jD,jE,jF,↓reduceIte,jA,jB,jT,jC,enP,NK ge,XP gs];refine(AI7 G l m hl e hw (AGJ h0) H).use ?_;simp -implicitDefEqProofs only[BK,A8,KY,AY,BB,AO,AQ,AL,BD,AX,AC,AA,AZ,AU,BH,A7,↓reduceIte,jA,jB,jC];exact⟨by unfold evE; rw[if_neg (by simpa using h0),if_pos hk]; rfl,hx⟩
theorem AVV (op:Int)(h:Hp):PCall (En G) 217 [.int .i64 op] h (.bool ((op==1)||LZ op)):=by
 refine acN Tryz.func217 rfl ?_;show awp _ _ _ _ _ (EN _ [.tmp 2] _);simp -implicitDefEqProofs only[BC,BA,A8,AY,BB,BL,BV,CO,AO,AQ,AL,BD,AX,AC,AA,AZ,AU,BH,BM,BG,A7,BR,AB,EC,BF,↓reduceIte,jA,jB,jC,enP];cases ha:(op==1)
 .simp -implicitDefEqProofs only[Bool.false_or,BL,BV,CO,ES,AO,AQ,AL,BD,AX,AC,AA,AZ,BX,BG,CB,BU,BF,jD,jE,jF,↓reduceIte,jA,jB,jC,ha]
  refine(WV G op h).use ?_;simp -implicitDefEqProofs only[BK,A8,CG,AY,BB,AO,AQ,AL,BD,AX,AC,AA,AZ,AU,BM,A7,CQ,DX,↓reduceIte,jA,jB,jC];exact⟨by trivial,trivial⟩
 .simp -implicitDefEqProofs only[Bool.true_or,BK,A8,CG,AY,BB,BL,BV,CO,F7,AO,AQ,AL,BD,AX,AC,AA,EX,AZ,AU,BM,A7,CQ,DY,↓reduceIte,jA,jB,jC,ha]
  exact⟨by trivial,trivial⟩
def lfE (l:List Sg)(e:Ex)(vs:List Nat):Nat×Int:=if knE l e=true then (YT l e.op e.n e.name vs,0) else (0,7)
theorem ATU (l:List Sg)(m:SM)(e:Ex)(vs:List Nat)(v:AV)(h0 h:Hp)(hl:l.length<=1099511627776)(hok:∀s∈l,ACI s)(hw:wt e<=1048576)(hnode:KT e=0)(hask:e.op=1∨e.op=2∨e.op=3∨e.op=24)(hvs:vs.length=e.args.length)(ho:outG 1 IG h0 vs v h) :
  PCall (En G) 218 [.agg (FH e),.sl m 2 (l.map G7),v] h (evV (lfE l e vs)):=by
 refine QL 2 (AIF _) ?_;have hnz:e.name.size<=1048576:=by have:=OI e; omega
 obtain⟨o1,o3,_⟩:=ADT hnode;refine acN Tryz.func218 rfl ?_;show awp _ _ _ _ _ (EN _ [.tmp 6,.tmp 7] _);have ge:=CY h (ABlk.live 4 [FH e]);have hx:ext h (h++[ABlk.live 4 [FH e]]):=(ext.rfl' h).app _;have ho1:=ho.app [ABlk.live 4 [FH e]];simp -implicitDefEqProofs only[BC,BA,A8,AY,BB,AO,AQ,AL,BD,AX,AC,AA,AZ,AU,BH,A7,FU,BQ,BJ,BZ,AB,BF,↓reduceIte,jA,jL,jB,jC,enP,IW,bxE]
 generalize h++[ABlk.live 4 [FH e]]=H at ge hx ho1|-
 have l0:EH Tryz.prog H 3 (.ptr h.length 0 0)=some (.int .i64 e.op):=by rw[DW ag3 ge (row:=FH e) rfl,KN]
 have l1:EH Tryz.prog H 3 (.ptr h.length 0 1)=some (.int .i64 e.n):=by rw[DW ag3 ge (row:=FH e) rfl,ZN]
 have l2:EH Tryz.prog H 9 (.ptr h.length 0 2)=some (.str e.name):=by rw[DW ag9 ge (row:=FH e) rfl,QN]
 simp -implicitDefEqProofs only[BI,A8,AY,BB,AO,AQ,AL,BD,AX,AC,AA,AZ,AU,BH,BR,AB,EC,↓reduceIte,jB,jC,enP,l0];by_cases e1:e.op=1
 .have c1:(e.op==1)=true:=by simpa using e1
  have hk:knE l e=true:=by unfold knE; rw[if_neg (by omega),if_neg (by omega)]
  have:=o1 e1;simp -implicitDefEqProofs only[BC,BA,BK,A8,CP,KY,DI,AY,BB,AO,AQ,AL,BD,AX,AC,AA,AZ,AU,BH,A7,BQ,BJ,AB,↓reduceIte,jA,jG,jB,jC,enP,AAU,c1,l1];refine⟨?_,hx⟩;unfold lfE YT evV;rw[if_pos hk,if_pos e1];congr 3; show e.n=((e.n.toNat%65536:Nat):Int); omega
 have c1:(e.op==1)=false:=by simpa using e1
 by_cases e2:e.op=2
 .have c2:(e.op==2)=true:=by simpa using e2
  have hkn:knE l e=(MR l e.name).2:=by unfold knE; rw[if_pos e2]
  simp -implicitDefEqProofs only[BC,BA,BO,BI,A8,DI,DT,AY,BB,AO,AQ,AL,BD,AX,AC,AA,AZ,AU,BX,BH,BG,BQ,BR,BJ,CB,BU,AB,EC,BF,BN,jD,jE,jF,↓reduceIte,jA,jL,jG,jB,jC,enP,IW,MI,c1,c2,l0,l2];refine(AEC G l m _ H hl hok).use ?_;unfold TC;simp -implicitDefEqProofs only[zB,zG,BC,BA,BI,A8,AY,BB,AO,AQ,AL,BD,AX,AC,AA,AZ,BG,A7,IE,FI,GU,AB,FK,↓reduceIte,jA,jB,jC];cases hk:(MR l e.name).2
  .simp -implicitDefEqProofs only[BC,BA,BK,A8,CP,KY,DI,AY,BB,AO,AQ,AL,BD,AX,AC,AA,AU,BH,A7,↓reduceIte,jA,jB,jC]
   exact⟨by unfold lfE; rw[if_neg (by rw[hkn,hk]; decide)]; rfl,hx⟩
  .simp -implicitDefEqProofs only[BC,BA,BO,BK,A8,CP,KY,DT,AY,BB,AO,AQ,AL,BD,AX,AC,AA,AZ,AU,BH,BG,A7,↓reduceIte,jA,jB,jT,jC]
   exact⟨by unfold lfE YT; rw[if_pos (by rw[hkn,hk]),if_neg e1,if_pos e2]; rfl,hx⟩
 have c2:(e.op==2)=false:=by simpa using e2
 have hkn:knE l e=(MR l (elN e.name 0)).2:=by
  unfold knE;rw[if_neg e2,if_pos (by omega)];unfold atG;rw[if_neg (by omega)]; rfl
 simp -implicitDefEqProofs only[BC,BA,BO,BI,A8,DT,AY,BB,AO,AQ,AL,BD,AX,AC,AA,AZ,AU,BX,BH,BG,BQ,BR,BJ,CB,BU,AB,EC,BF,BN,jD,jE,jF,↓reduceIte,jA,jL,jG,jB,jC,enP,IW,MI,c1,c2,l0,l2];refine(AB5 G e.name 0 (by omega) H hnz).use ?_;simp -implicitDefEqProofs only[AY,AO,AQ,AL,BD,AX,AC,AA,AZ,BX,CB,BU,jD,jE,jF,↓reduceIte,jA,jB,jC];refine(AEC G l m _ H hl hok).use ?_;unfold TC;simp -implicitDefEqProofs only[zB,zG,BC,BA,BI,A8,AY,BB,AO,AQ,AL,BD,AX,AC,AA,AZ,BG,A7,IE,FI,GU,AB,FK,↓reduceIte,jA,jB,jC];cases hk:(MR l (elN e.name 0)).2
 .simp -implicitDefEqProofs only[BC,BA,BK,A8,CP,KY,DI,AY,BB,AO,AQ,AL,BD,AX,AC,AA,AU,BH,A7,↓reduceIte,jA,jB,jC]
  exact⟨by unfold lfE; rw[if_neg (by rw[hkn,hk]; decide)]; rfl,hx⟩
 have hk':knE l e=true:=by rw[hkn,hk]
 by_cases e3:e.op=3
 .have c3:(e.op==3)=true:=by simpa using e3
  have hl1:vs.length=1:=by rw[hvs,o3 e3]
  obtain⟨o,rfl,hob⟩:∃o,v=.own o 0 1∧H[o]?=some (.live 1 (vs.map IG)):=by
   rcases ho1 with⟨h0,_⟩|⟨_,o,_,rfl,hb⟩
   .rw[h0] at hl1; simp at hl1
   .exact⟨o,by rw[hl1],hb⟩
  have hlen:0<vs.length:=by omega
  have i0:KH 1 H (.own o 0 1) (.int .i64 0)=some (.ptr o 0 0):=L6 (n:=0) hob (by decide)
  have d0:EH Tryz.prog H 3 (.ptr o 0 0)=some (.int .i64 (vs.getD 0 0:Nat)):=by
   rw[DW ag3 hob (row:=IG vs[0]) (ND hlen),zQ,jU hlen]; rfl
  simp -implicitDefEqProofs only[BC,BA,BO,BI,A8,DI,DT,AY,BB,AO,AQ,AL,BD,AX,AC,AA,AZ,AU,BH,BQ,BR,BJ,AB,EC,↓reduceIte,jA,jL,jB,jT,jC,enP,IW,l0,c3];refine EZ (by kernel_rfl) ?_;simp -implicitDefEqProofs only[FZ,ED,DN,E8,EF,FO,I7,FB,D9,EE,GH,F8,BK,A8,CP,KY,AO,AA,AZ,AU,BX,BH,BQ,BJ,CE,AB,BF,BN,jD,jE,jF,↓reduceIte,jA,jK,jG,jB,enP,MI,JF,l2,i0,d0];refine⟨_,ABV G l m _ _ H hl hok hnz,?_⟩
  try simp -implicitDefEqProofs only[]
  exact⟨by unfold lfE YT; rw[if_pos hk',if_neg e1,if_neg e2,if_pos e3]; rfl,hx⟩
 have c3:(e.op==3)=false:=by simpa using e3
 have e24:e.op=24:=by omega
 simp -implicitDefEqProofs only[BC,BP,BA,BO,BI,A8,DT,AY,BB,AO,AQ,AL,BD,AX,AC,AA,AZ,AU,BH,A7,BQ,BR,BJ,AB,EC,↓reduceIte,jA,jL,jB,jT,jC,enP,IW,l0,c3];refine DK (fun k F H'=>∃j,k+j=8∧F 1=.sl m 2 (l.map G7)∧F 3=.ptr h.length 0 0∧F 12=.int .i64 (sumTo l e.name j:Nat)∧F 13=.int .i64 (j:Nat)∧H'=H) 8 ⟨0,by simp,by simp -implicitDefEqProofs only[AA,BF,BN,↓reduceIte,jA],by simp -implicitDefEqProofs only[AA,↓reduceIte,jA],by simp -implicitDefEqProofs only[AA,↓reduceIte,jA]<;>rfl,by simp -implicitDefEqProofs only[AA,↓reduceIte]<;>rfl,rfl⟩ ?_;rintro k F H' ⟨j,hj,f1,f3,f12,f13,rfl⟩;simp -implicitDefEqProofs only[BC,BA,BI,A8,AY,BB,AO,AQ,AL,BD,AX,AC,AA,AZ,AU,BH,BG,BR,AB,DC,↓reduceIte,jB,jC,enP,f13];refine CU (fun hc=>?_) (fun hc=>?_)
 .have hj':j<8:=by simp at hc; omega
  simp -implicitDefEqProofs only[BC,BP,BA,BO,A8,AY,AO,AQ,AL,BD,AX,AC,AA,AZ,BX,BG,BQ,BJ,CB,BU,AB,jD,jE,jF,↓reduceIte,jA,jG,jB,jC,enP,MI,f1,f3,f12,f13,l2];refine(ABV G l m _ _ H' hl hok hnz).use ?_;simp -implicitDefEqProofs only[AY,AO,AQ,AL,BD,AX,AC,AA,AZ,BX,CB,BU,jD,jE,jF,↓reduceIte,jA,jB,jC];refine(AZ2 G _ _ (ADC l _ j) (ANN l _ (j:Nat)) H').use ?_;simp -implicitDefEqProofs only[BA,A8,EJ,EQ,AY,BB,AO,AQ,AL,BD,AX,AC,AA,AZ,AU,BH,BG,A7,BR,AB,CZ,↓reduceIte,jA,jB,jC,enP,f1,f3,f12,f13,wrap_succ (show j<9223372036854775807 by omega)];exact⟨k-1,by omega,j+1,by omega,by trivial,by trivial,by trivial,by trivial,trivial⟩
 .have hj':j=8:=by simp at hc; omega
  subst hj';simp -implicitDefEqProofs only[BC,BA,BK,DJ,A8,EI,EW,ET,KY,AY,BB,AO,AQ,AL,BD,AX,AC,AA,AZ,AU,BH,BG,A7,↓reduceIte,jA,jB,jC,f12];exact⟨by unfold lfE YT; rw[if_pos hk',if_neg e1,if_neg e2,if_neg e3,if_pos e24]; rfl,hx⟩
def vlE (l:List Sg)(e:Ex):Nat×Int:=if(pre e).all (knE l)=true then (AAB l e,0) else (0,7)
theorem AOS (l:List Sg)(e:Ex):(pre e).all (knE l)=(knE l e&&(J9 e.args).all (knE l)):=by rw[pre_eq]; rfl
set_option maxHeartbeats 1000000 in
theorem AP8 (l:List Sg)(m:SM)(hl:l.length<=1099511627776)(hok:∀s∈l,ACI s)(e:Ex):wt e<=1048576->(∀x∈pre e,KT x=0)->∀h:Hp,PCall (En G) 163 [.agg (FH e),.sl m 2 (l.map G7)] h (evV (vlE l e)):=by
 induction e using Ex.induct with|h e ih=>?_
 intro hw hval h;have hal:e.args.length<=1048576:=by have:=WQ e.args; have:=OI e; omega
 have hnode:=hval e (by rw[pre_eq]; simp);obtain⟨o1,o3,oo⟩:=ADT hnode;refine QL 2 (AIF _) ?_;refine acN Tryz.func163 rfl ?_;show awp _ _ _ _ _ (EN _ [.tmp 4,.tmp 5] _);have ge:=CY h (ABlk.live 4 [FH e]);have hx:ext h (h++[ABlk.live 4 [FH e]]):=(ext.rfl' h).app _;simp -implicitDefEqProofs only[BC,BP,BA,A8,AY,BB,AO,AQ,AL,BD,AX,AC,AZ,AU,BH,IK,A7,FU,BZ,BF,jB,jC,enP,bxE]
 generalize h++[ABlk.live 4 [FH e]]=H1 at ge hx|-
 generalize h.length=eb at ge|-
 refine GN 0 (fun F H=>∃v,F 1=.sl m 2 (l.map G7)∧F 2=.ptr eb 0 0∧F 6=v∧ext H1 H∧outG 1 IG H1 (L9 l e.args) v H∧(J9 e.args).all (knE l)=true) (fun F H=>F 4=.int .i64 0∧F 5=.int .i64 7∧ext H1 H∧(J9 e.args).all (knE l)=false) ?_ ?_ ?_
 .refine DK (fun k F H=>∃j v,k+j=e.args.length∧F 1=.sl m 2 (l.map G7)∧F 2=.ptr eb 0 0∧F 6=v∧F 7=.int .i64 (j:Nat)∧ext H1 H∧outG 1 IG H1 (L9 l (e.args.take j)) v H∧(J9 (e.args.take j)).all (knE l)=true) e.args.length
   ⟨0,.sl .nil 0 [],by simp,by simp -implicitDefEqProofs only[AA,BF,BN,↓reduceIte,jA],by simp -implicitDefEqProofs only[AA,↓reduceIte,jA],by simp -implicitDefEqProofs only[AA,↓reduceIte,jA],by simp -implicitDefEqProofs only[AA,↓reduceIte]<;>rfl,ext.rfl' H1,outG.nil _ _ _ _,rfl⟩ ?_
  rintro k F H ⟨j,v,hj,f1,f2,f6,f7,hxH,ho,hkn⟩;have geH:=FP hxH ge;have l3:EH Tryz.prog H 51 (.ptr eb 0 3)=some (.sl e.m 4 (e.args.map FH)):=by rw[DW ALO geH (row:=FH e) rfl,ABS]
  simp -implicitDefEqProofs only[BC,BA,BI,A8,AY,BB,AO,AQ,AL,BD,AX,AC,AA,AZ,BG,BQ,BR,BJ,D7,AB,DC,↓reduceIte,jA,jG,jB,jC,enP,AKG,TT,f2,f7,l3,jI];refine CU (fun hc=>?_) (fun hc=>?_)
  .have hj':j<e.args.length:=by simpa using hc
   have hmem:e.args[j]∈e.args:=jS hj';have htl:(L9 l (e.args.take j)).length<8388608:=by rw[WR]; simp; omega
   have hsplit:J9 e.args=J9 (e.args.take j)++(pre e.args[j]++J9 (e.args.drop (j+1))):=by
    rw[<-List.append_assoc,<-OL _ _ hj',<-P8,List.take_append_drop]
   obtain⟨v',H',ha,ho',_,hx',_,_⟩:=ho.append (P:=Tryz.prog) TN sz3 XG VN (by omega) htl hxH (AAB l e.args[j]);have ha':H7 Tryz.prog true H 57 57 v (.sl .full 1 [[.int .i64 ((AAB l e.args[j]:Nat):Int)]])=some (v',H'):=ha;simp -implicitDefEqProofs only[BC,BP,BA,BO,A8,AY,AO,AQ,AL,BD,AX,AC,AA,AZ,BX,BG,BQ,BJ,CE,CB,BU,AB,jD,jE,jF,↓reduceIte,jA,jG,jB,jC,enP,AQ1,TT,f1,f2,f7,l3,DU hj',FM AIV ADB KL hj'];refine(ih e.args[j] hmem (by have:=UW hmem; have:=OI e; omega) (fun x hx=>hval x (by rw[pre_eq]; exact List.mem_cons_of_mem _ (ACP hmem x hx))) _).use ?_;unfold vlE;cases hk:(pre e.args[j]).all (knE l)
   .simp only[Bool.false_eq_true,if_false,evV]
    simp -implicitDefEqProofs only[zB,zG,BC,BA,BK,BI,A8,CP,EG,NG,FQ,DI,AY,BB,AO,AQ,AL,BD,AX,AC,AA,AZ,AU,BH,BG,A7,BR,FI,GU,AB,EK,↓reduceIte,jA,jB,jC,enP,Int.reduceBNe,zF];exact⟨by trivial,by trivial,hxH,by rw[hsplit,List.all_append,List.all_append,hk]; simp⟩
   .simp only[if_true,evV]
    simp -implicitDefEqProofs only[zB,zG,EY,FT,BC,BA,BO,BI,A8,EJ,EQ,DT,AY,BB,AO,AQ,AL,BD,AX,AC,AA,AZ,AU,BH,BG,A7,EP,BR,FI,GU,GR,BZ,AB,CZ,EK,↓reduceIte,jA,jB,jC,enP,Int.reduceBNe,zF,bne_self_eq_false,f6,ACE,ha',f1,f2,f7,wrap_succ (show j<9223372036854775807 by omega)];exact⟨k-1,by omega,j+1,v',by omega,by trivial,by trivial,by trivial,by trivial,hx',by rw[AC7 _ _ _ hj']; exact ho',by rw[OL _ _ hj',List.all_append,hkn,hk]; rfl⟩
  .have hj':¬j<e.args.length:=by simpa using hc
   rw[jX (by omega)] at ho hkn;simp -implicitDefEqProofs only[DJ,EI,J3,ET,AA,↓reduceIte,jA];exact⟨v,f1,f2,f6,hxH,ho,hkn⟩
 .rintro F H ⟨v,f1,f2,f6,hxH,ho,hkn⟩
  have geH:=FP hxH ge;have hxx:=hx.trans hxH;have l0:EH Tryz.prog H 3 (.ptr eb 0 0)=some (.int .i64 e.op):=by rw[DW ag3 geH (row:=FH e) rfl,KN]
  have hvl:=WR l e.args;have hpa:(pre e).all (knE l)=knE l e:=by rw[AOS,hkn,Bool.and_true]
  simp -implicitDefEqProofs only[BC,BA,A8,EW,AY,AO,AQ,AL,BD,AX,AC,AA,AZ,BX,BQ,BJ,CB,BU,AB,jD,jE,jF,↓reduceIte,jL,jB,jC,enP,IW,f2,l0];refine(AVV G e.op H).use ?_;simp -implicitDefEqProofs only[BI,A8,BB,AC,AA,AZ,↓reduceIte];cases hq:((e.op==1)||LZ e.op)
  .have hne:e.op≠1∧e.op≠2∧e.op≠3∧e.op≠24:=by
    unfold LZ at hq; simp at hq; omega
   obtain⟨e1,e2,e3,e24⟩:=hne;have hok':ALS e.op (L9 l e.args).length:=by rw[hvl]; exact oo e1 e2 e3 e24
   obtain⟨o,rfl,hob⟩:∃o,v=.own o 0 (L9 l e.args).length∧H[o]?=some (.live 1 ((L9 l e.args).map IG)):=by
    rcases ho with⟨h0,_⟩|⟨_,o,_,rfl,hb⟩
    .exfalso
     rw[h0] at hok';obtain⟨a,b,c⟩:=hok';by_cases q:e.op=22
     .have:=a q; simp at this
     by_cases q':e.op=23
     .have:=b q'; simp at this
     .have:=c q q'; simp at this
    .exact⟨o,rfl,hb⟩
   simp -implicitDefEqProofs only[BC,BA,BO,A8,DT,AY,AO,AQ,AL,BD,AX,AC,AA,AZ,BX,BG,BQ,BJ,CB,BU,AB,jD,jE,jF,↓reduceIte,jA,jL,jB,jC,enP,IW,f2,l0,f6];refine(ATH G e.op _ o H hob (AI9 l _) (by omega) hok').use ?_;simp -implicitDefEqProofs only[BK,A8,KY,AY,BB,AO,AQ,AL,BD,AX,AC,AA,AZ,AU,BH,A7,↓reduceIte,jA,jB,jC];have hk:knE l e=true:=by unfold knE; rw[if_neg e2,if_neg (by omega)]
   refine⟨?_,hxx⟩;unfold vlE;rw[hpa,if_pos hk,ACM];unfold YT;rw[if_neg e1,if_neg e2,if_neg e3,if_neg e24]; rfl
  .have hask:e.op=1∨e.op=2∨e.op=3∨e.op=24:=by
    unfold LZ at hq; simp at hq; omega
   simp -implicitDefEqProofs only[BC,BA,DI,AY,AO,AQ,AL,BD,AX,AC,AA,AZ,BX,BG,BQ,CB,BU,AB,jD,jE,jF,↓reduceIte,jA,jB,jC,enP,f1,f2,f6,NK geH];refine(ATU G l m e _ v H1 H hl hok hw hnode hask hvl ho).use ?_;have hlf:lfE l e (L9 l e.args)=vlE l e:=by unfold lfE vlE; rw[hpa,ACM]
   rw[hlf];unfold evV;simp -implicitDefEqProofs only[zB,zG,BK,A8,CP,KY,AY,BB,AO,AQ,AL,BD,AX,AC,AA,AZ,A7,FI,GU,AB,↓reduceIte,jA,jB,jC];exact⟨by trivial,hxx⟩
 .rintro F H ⟨f4,f5,hxH,hkn⟩
  simp -implicitDefEqProofs only[CP,EG,KY,f4,f5];exact⟨by unfold vlE; rw[AOS,hkn,Bool.and_false]; rfl,hx.trans hxH⟩
theorem AV9 (l:List Sg)(m:SM)(e:Ex)(h:Hp)(hl:l.length<=1099511627776)(hok:∀s∈l,ACI s)(hw:wt e<=1048576):PCall (En G) 104 [.agg (FH e),.sl m 2 (l.map G7)] h (evV (evE l e)):=by
 refine QL 2 (AIF _) ?_;refine acN Tryz.func104 rfl ?_;show awp _ _ _ _ _ (EN _ [.tmp 4,.tmp 5] _);have ge:=CY h (ABlk.live 4 [FH e]);have hx:ext h (h++[ABlk.live 4 [FH e]]):=(ext.rfl' h).app _;simp -implicitDefEqProofs only[BC,BA,A8,AY,BB,AO,AQ,AL,BD,AX,AC,AA,AZ,AU,BH,A7,FU,BQ,BZ,BF,↓reduceIte,jA,jB,jC,enP,bxE]
 generalize h++[ABlk.live 4 [FH e]]=H at ge hx|-
 simp -implicitDefEqProofs only[AY,AO,AQ,AL,BD,AX,AC,AA,AZ,BX,CB,BU,AB,jD,jE,jF,↓reduceIte,jB,jC,NK ge];refine(ABQ G e H hw).use ?_;simp -implicitDefEqProofs only[BI,A8,AY,BB,AO,AQ,AL,BD,AX,AC,AA,AZ,AU,BH,BR,AB,EK,↓reduceIte,jB,jC,enP];cases hv:(exE e==0)
 .have hne:exE e≠0:=by simpa using hv
  simp -implicitDefEqProofs only[BC,BA,BK,A8,CP,KY,DI,AY,BB,AO,AQ,AL,BD,AX,AC,AA,AU,BH,A7,↓reduceIte,jA,jB,jC,bne,hv];exact⟨by unfold evE; rw[if_pos hne]; rfl,hx⟩
 have h0:exE e=0:=by simpa using hv
 simp -implicitDefEqProofs only[BC,BA,BO,A8,DT,AY,AO,AQ,AL,BD,AX,AC,AA,AZ,BX,BG,BQ,CB,BU,AB,BF,BN,jD,jE,jF,↓reduceIte,jA,jB,jT,jC,enP,bne,hv,NK ge];refine(AP8 G l m hl hok e hw (AGJ h0) H).use ?_;have he:evE l e=vlE l e:=by unfold evE vlE; rw[if_neg (by simpa using h0)]
 rw[he];unfold evV;simp -implicitDefEqProofs only[zB,zG,BK,A8,KY,AY,BB,AO,AQ,AL,BD,AX,AC,AA,AZ,A7,FI,GU,AB,↓reduceIte,jA,jB,jC];exact⟨by trivial,hx⟩
end
end Go.Proofs.YtocilianjfhifaaGreatDoor.Xe
