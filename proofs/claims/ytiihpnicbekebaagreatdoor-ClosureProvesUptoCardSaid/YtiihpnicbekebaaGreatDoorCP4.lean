/- Part 4 of the proof (X2, X5, X6, U1, U2, U3, U4, U5, U6, U7, U8, V1, V2, V3, V4, V5, V6, V7, V8, Yc, Qc, W1, X7, X8, X9, X10, X11, X13, X14, X15, X19, X21, X24, W2);no condition. -/
import Derived.Shelf.Spec.SlicesGrow
import Derived.Test.YtiihpnicbekebaaGreatDoorCP3
set_option linter.unusedVariables false
set_option linter.unusedSimpArgs false
set_option maxRecDepth 8000
set_option maxHeartbeats 8000000
open Go.Proofs.YtiihpnicbekebaaGreatDoor.Sm.ABlk renaming live→yE
open Bool renaming and_eq_true→jM,eq_iff_iff→wL,false_or→wP,not_false→jE,not_true→qP,or_false→zO,or_true→zY,true_and→wG,true_or→qG
open Go.Proofs.Tryz renaming prog→jA
open Int renaming le_refl→wV,toNat_natCast→qB
open List renaming all_eq_true→zL,all_nil→yC,any_eq_false→qO,any_eq_true→qL,append_assoc→zG,append_nil→jO,cons_append→zF,contains_cons→jY,contains_nil→jS,drop_eq_getElem_cons→qC,drop_eq_nil_of_le→zJ,drop_zero→zU,eq_nil_of_length_eq_zero→qV,ext_getElem?→wU,findIdx?_eq_some_iff_getElem→wM,getD_eq_getElem?_getD→zI,getElem?_append_left→qM,getElem?_append_right→wS,getElem?_cons_succ→wK,getElem?_cons_zero→wC,getElem?_eq_getElem→jI,getElem?_eq_none→qZ,getElem?_map→jW,getElem?_set_ne→zD,getElem?_set→zQ,getElem_mem→jG,getElem_of_mem→qF,length_append→jX,length_cons→zT,length_map→jP,length_pos_iff→qX,length_set→qY,length_take→jZ,length→wH,map_append→qU,map_cons→jK,map_map→qQ,map_nil→jL,mem_append→zK,mem_cons→zN,mem_map→zH,mem_of_getElem?→zZ,mem_singleton→wI,nil_append→qH,range→zM,replicate→jR,take_append_drop→yD,take_of_length_le→jJ,take_succ_eq_append_getElem→jU,take_zero→qI
open Nat renaming add_mul→qE,add_zero→zA,le_of_ble_eq_true→jB,le_refl→jF,le_trans→qJ,lt_or_ge→zB,reduceAdd→jT,reduceBEq→jV,reduceEqDiff→jC,zero_add→jH
open Option renaming getD_none→jQ,getD_some→jD,map_none→qA,map_some→zX
namespace Go.Proofs.YtiihpnicbekebaaGreatDoor.Xe
open Sm Bins Cov Go.RowKit
variable {h h0:Hp} {ns:List ByteArray} {c:Nat} {v:AV} (G:Nat->AV )
theorem A35:Frz qencStr:=fun _ _ _ _=>⟨rfl,rfl⟩
theorem encStr0 (s:ByteArray):(qencStr s)[0]?=some (.str s):=rfl
theorem AOE (xs:List ByteArray)(b:Nat)(v:ByteArray)(h:Hp)(hb:h[b]?=some (yE 1 (xs.map qencStr)))(hl:xs.length<=1099511627776):
  ∃k:Int,PCall (En G) 279 [.own b 0 xs.length,.str v] h (.n k)/\decide (k≥0)=JR xs v:=by
 have key:∀r:Int,(∀i (hi:i<xs.length),(∀j (hj:j<i),(v.toList==xs[j].toList)=false)->(v.toList==xs[i].toList)=true->r=(i:Int))->(JR xs v=false->r = -1)->PCall (En G) 279 [.own b 0 xs.length,.str v] h (.n r):=by
  intro r hr hr0;refine acT Tryz.func279 4 ?_;refine AB ?_;refine BK (fun n F H=>∃k,n+k=xs.length/\F 0=.own b 0 xs.length/\F 1=.str v/\F 7=.n (xs.length:Nat)/\F 8=.n (k:Nat)/\H=h/\(∀j (hj:j<xs.length),j<k->(v.toList==xs[j].toList)=false)/\JR xs v=JR (xs.drop k) v) xs.length ⟨0,BA,AQ,AQ,AQ,AQ,rfl,fun j _ hj=>U,rfl⟩ ?_;rintro n F H ⟨k,hk,f0,f1,f7,f8,rfl,hbef,hin⟩;refine BB f7 f8 ?_;refine D9 ?_ ?_<;>intro hk'
  .have hs:JR (xs.drop k) v=((v.toList==xs[k].toList)||JR (xs.drop (k+1)) v):=UE _ xs k hk'
   have l1:BI jA H 9 (.ptr b k 0)=some (.str xs[k]):=by rw[BC ag9 hb (row:=qencStr xs[k]) (row_map hk')];rfl
   simp only[vQ,CP,UB,↓reduceIte,jC,Nat.zero_add,enP,aJ,f0,f1,f8,GM hb hk',l1];refine BO ?_ ?_<;>intro hx
   .refine AB ?_
    exact⟨by rw[hr k hk' (fun j hj=>hbef j U hj) hx],trivial⟩
   .refine BB f8 (DC k) ?_
    refine⟨n-1,U,k+1,U,AL,AL,AL,rfl,trivial,fun j hj hjk=>?_,by rw[hin,hs,hx,Bool.false_or]⟩;rcases Nat.lt_or_ge j k with h1|h1
    .exact hbef j hj h1
    .grind
  .refine AB ?_
   refine⟨?_,trivial⟩;rw[hr0 (by rw[hin,List.drop_eq_nil_of_le U];rfl)]
 by_cases hh:JR xs v=true
 .obtain⟨i,hi⟩:∃i,xs.findIdx? (fun u=>v.toList==u.toList)=some i:=by
   cases he:xs.findIdx? (fun u=>v.toList==u.toList) with
   | some i=>exact⟨i,rfl⟩
   | none =>
     rw[List.findIdx?_eq_none_iff] at he;unfold JR at hh;rw[List.any_eq_true] at hh;obtain⟨x,hx,hz⟩:=hh;rw[he x hx] at hz;cases hz
  obtain⟨hil,hiz,hbef⟩:=List.findIdx?_eq_some_iff_getElem.1 hi;refine⟨(i:Int),key i (fun k hk hb' hx=>?_) (fun h0=>by rw[hh] at h0;cases h0),by rw[hh];simp⟩;rcases Nat.lt_trichotomy i k with h1|h1|h1
  .simp_all
  .rw[h1]
  .simp_all
 .have hh':JR xs v=false:=BM hh
  refine⟨-1,key (-1) (fun k hk _ hx=>?_) (fun _=>rfl),by rw[hh'];decide⟩;unfold JR at hh';rw[List.any_eq_false] at hh';exact absurd hx (hh' xs[k] (jG hk))
theorem AOF (k:Nat)(v:ByteArray)(h:Hp):PCall (En G) 279 [.sl .nil k [],.str v] h (.n (-1)):=by
 refine acT Tryz.func279 4 ?_;refine Y3 ?_;refine BK (fun n F H=>F 7=.n 0/\F 8=.n 0/\H=h) 0 ⟨AQ,AQ,rfl⟩ ?_;rintro n F H ⟨f7,f8,rfl⟩;have hc:((0:Int)<0)=False:=BA;refine JI @decide_false f7 f8 hc @decide_false ?_;exact⟨AL,trivial⟩
theorem A7X {u:AV}(ho:outG 1 qencStr h0 ns u h)(v:ByteArray)(hl:ns.length<=8388608):PCall (En G) 219 [u,.str v] h (.bool (JR ns v)):=by
 have hi:∃k:Int,PCall (En G) 279 [u,.str v] h (.n k)/\decide (k≥0)=JR ns v:=by
  rcases ho with⟨rfl,rfl⟩|⟨_,o,_,rfl,hb⟩
  .exact⟨-1,AOF G 0 v h,rfl⟩
  .exact AOE G ns o v h hb U
 obtain⟨k,hk,hd⟩:=hi;refine acT Tryz.func219 4 ?_;refine AB ?_;refine hk.use ?_;refine A7 hd ?_;exact H7
def nmU (ops:List Int)(ns:List ByteArray)(e:Ex):List ByteArray:=if(Rk.hasB ops e.op && !JR ns e.name)=true then ns++[e.name] else ns
def nmL (ops:List Int)(ns:List ByteArray)(l:List Ex):List ByteArray:=l.foldl (nmU ops) ns
theorem AJ9 (ops:List Int)(ns:List ByteArray)(e:Ex):(nmU ops ns e).length<=ns.length+1:=by
 unfold nmU;split<;>simp
theorem ZF (ops:List Int):∀(l:List Ex) (ns:List ByteArray),(nmL ops ns l).length<=ns.length+l.length
 | [],ns=>by simp [nmL]
 | e::l,ns=>by
   have h1:=ZF ops l (nmU ops ns e);have h2:=AJ9 ops ns e
   simp only[nmL,List.foldl_cons,List.length_cons] at h1|-
   omega
theorem AXK (ops:List Int)(ns:List ByteArray)(l r:List Ex):nmL ops ns (l++r)=nmL ops (nmL ops ns l) r:=List.foldl_append
structure NSt (h0:Hp) (c:Nat) (ns:List ByteArray) (v:AV) (h:Hp):Prop where
 cell:h[c]?=some (yE 1 [[v]])
 out:outG 1 qencStr h0 ns v h
 base:h0.length<=c
 ex:ext h0 h
abbrev Cn (c:Nat)(v:AV)(h:Hp)(v':AV)(h':Hp):Prop:=Ch c v .nilfn h v' .nilfn h'
theorem NSt.ne {b k:Nat}{row:List AV}(s:NSt h0 c ns v h)(hb:h[b]?=some (yE k [row]))(hr:k≠1\/∀x,row≠[.str x]):¬isB v b:=by
 intro hi;rcases s.out with⟨_,rfl⟩|⟨hne,o,_,rfl,ho⟩
 .exact hi
 .have e:o=b:=hi
  subst e;rw[ho] at hb
  injection Option.some.inj hb with e1 e2
  rcases hr with hr|hr
  .exact hr e1.symm
  .match ns,e2 with
   | [x],e2=>simp [qencStr] at e2;exact hr x e2.symm
theorem NSt.app {h0 h:Hp}{c:Nat}{ns:List ByteArray}{v:AV}(s:NSt h0 c ns v h)(x:Hp):NSt h0 c ns v (h++x):=⟨FO s.cell,s.out.app x,s.base,s.ex.app x⟩
theorem NSt.cne (s:NSt h0 c ns v h):¬isB v c:=by
 refine s.ne s.cell (.inr fun x e=>?_);rcases s.out with⟨_,rfl⟩|⟨_,o,_,rfl,_⟩<;>simp at e
theorem Cn.keep {b:Nat}{h':Hp}{v':AV}{x:ABlk}(hc:Cn c v h v' h')(hb:h[b]?=some x)(hne:b≠c)(hn:¬isB v b):h'[b]?=some x:=by
 rw[hc.get b (AC hb) hne hn (fun e=>e)];exact hb
theorem AAV (ops:List Int)(hops:ops.length<=1048576)(h0:Hp)(c ob:Nat)(s0:SM)(e:Ex)(h:Hp)(ns:List ByteArray)(v:AV)(S:NSt h0 c ns v h)(hob:h[ob]?=some (yE 1 [[.sl s0 1 (ops.map qencI)]]))(hn:ns.length<8388608):
  ACalls (En G) 289 [.agg (A8 e),.ptr ob 0 0,.ptr c 0 0] h fun r h'=>r=.bool true/\∃v',Cn c v h v' h'/\NSt h0 c (nmU ops ns e) v' h':=by
 refine acT Tryz.func289 4 ?_;have S1:=S.app [yE 4 [A8 e]];have hob1:(h++[yE 4 [A8 e]])[ob]?=_:=AO hob;have hC1:Cn c v h v (h++[yE 4 [A8 e]]):=Ch.app c v .nilfn h _;have ge:=AX h (yE 4 [A8 e]);have hcl:=AC S.cell;refine A7 @bxE ?_
 generalize h++[yE 4 [A8 e]]=H at S1 hob1 hC1 ge|-
 have l0:BI jA H 3 (.ptr h.length 0 0)=some (.n e.op):=by rw[BC ag3 ge (row:=A8 e) rfl,J4]
 have l2:BI jA H 9 (.ptr h.length 0 2)=some (.str e.name):=by rw[BC ag9 ge (row:=A8 e) rfl,RI]
 refine BB (GN NF hob1) l0 ?_;refine(Rk.contains_rank G ops s0 e.op H hops).uu ?_
 have key:∀b1 b2:Bool,Rk.hasB ops e.op=b1->JR ns e.name=b2->(b1 && !b2)=false->nmU ops ns e=ns:=fun b1 b2 e1 e2 e3=>by
  unfold nmU;rw[e1,e2,e3];simp
 cases hb1:Rk.hasB ops e.op
 .refine AB ?_
  exact⟨trivial,v,hC1,by rw[key _ _ hb1 rfl rfl];exact S1⟩
 refine BB (GN uX S1.cell) l2 ?_;refine(A7X G S1.out e.name U).uu ?_;cases hb2:JR ns e.name
 .have hu:nmU ops ns e=ns++[e.name]:=by unfold nmU;rw[hb1,hb2];rfl
  obtain⟨v',H',ha,ho,hk,hex,hle,hnew⟩:=S1.out.append (P:=jA) AQB sz9 APV AUC U hn S1.ex e.name;have ha':EQ jA true H 121 121 v (.sl .full 1 [[.str e.name]])=some (v',H'):=ha;have hc':=hk c _ S1.cell S1.cne;have hcl2:=AC S1.cell
  have hac:IB v'=some [v']:=by
   rcases ho with⟨_,rfl⟩|⟨_,o,_,rfl,_⟩<;>rfl
  refine JI (GN uX S1.cell) l2 AUI ha' (UO AQJ hac hc') ?_;refine⟨trivial,v',hC1.trans ⟨BM hle,fun b hb hbc hbv _=>?_,fun b hb=>.inr (by rw[hnew b hb];exact Nat.le_refl _),fun b hb=>hb.elim⟩,?_⟩
  .grind
  .rw[hu]
   exact⟨CV hc',ho.keep fun b hb=>by rw[zQ,if_neg (fun e=>by have:=hnew b hb;omega)],S1.base,hex.set S1.base _⟩
 .refine AB ?_
  exact⟨trivial,v,hC1,by rw[key _ _ hb1 hb2 rfl];exact S1⟩
theorem ARR (ops:List Int)(ns:List ByteArray)(e:Ex):nmL ops ns (pre e)=nmL ops (nmU ops ns e) (FM e.args):=by rw[pre_eq];rfl
theorem AH0 (ops:List Int)(hops:ops.length<=1048576)(h0:Hp)(c ob vb db:Nat)(s0:SM)(hv:vb≠c)(hd:db≠c)(hoc:ob≠c)(e:Ex):
  wt e<=1099511627776->∀(h:Hp) (ns:List ByteArray) (v:AV),NSt h0 c ns v h->h[ob]?=some (yE 1 [[.sl s0 1 (ops.map qencI)]])->ns.length+(pre e).length<=8388608 ->
   h[vb]?=some (yE 1 [[.fn (.func 289) [] [.ptr ob 0 0,.ptr c 0 0]]])->h[db]?=some (yE 1 [[.fn (.func 248) [] [.ptr vb 0 0,.ptr db 0 0]]]) ->
   ACalls (En G) 248 [.agg (A8 e),.ptr vb 0 0,.ptr db 0 0] h fun r h'=>r=.bool true/\∃v',Cn c v h v' h'/\NSt h0 c (nmL ops ns (pre e)) v' h':=by
 induction e using Ex.induct with|h e ih=>?_
 intro hw h ns v S hob hlen hvb hdb;have hcl:=AC S.cell;have hal:e.args.length<=1099511627776:=by have:=V5 e.args;have:=MQ e;omega
 have hpe:(pre e).length=(FM e.args).length+1:=by rw[pre_eq];rfl
 have hfn:∀(k:FuncId) (a b:List AV) (x:ByteArray),[AV.fn (.func k) a b]≠[.str x]:=fun _ _ _ _ q=>by simp at q
 have hsl:∀(xs:List (List AV)) (x:ByteArray),[AV.sl s0 1 xs]≠[.str x]:=fun _ _ q=>by simp at q
 refine acT Tryz.func248 4 ?_;have S0:=S.app [yE 4 [A8 e]];simp only[vQ,CP,TB,qH,zF,↓reduceIte,jC,enP,bxE,GN Sm.ag230 (AO hvb),ldE];refine(AAV G ops hops h0 c ob s0 e _ ns v S0 (AO hob) U).mono ?_;rintro r h1 ⟨rfl,v1,hch,S1⟩;have hch0:Cn c v h v1 h1:=(Ch.app c v .nilfn h _).trans hch;have hb3:h1[h.length]?=some (yE 4 [A8 e]):=hch.keep (AX _ _) U (S0.ne (AX _ _) (.inl DT));have hvb1:=hch0.keep hvb hv (S.ne hvb (.inr (hfn _ _ _)));have hdb1:=hch0.keep hdb hd (S.ne hdb (.inr (hfn _ _ _)));have hob1:=hch0.keep hob hoc (S.ne hob (.inr (hsl _)));have l3:BI jA h1 23 (.ptr h.length 0 3)=some (.sl e.m 4 (e.args.map A8)):=by rw[BC LM hb3 (row:=A8 e) rfl,YU]
 have hn1:=AJ9 ops ns e;refine A7 l3 ?_
 refine BK (fun n F H=>∃j v',n+j=e.args.length/\F 1=.ptr vb 0 0/\F 2=.ptr db 0 0/\F 12=.sl e.m 4 (e.args.map A8)/\F 13=.n e.args.length/\F 14=.n (j:Nat)/\Cn c v h v' H/\NSt h0 c (nmL ops (nmU ops ns e) (FM (e.args.take j))) v' H/\H[vb]?=some (yE 1 [[.fn (.func 289) [] [.ptr ob 0 0,.ptr c 0 0]]])/\H[db]?=some (yE 1 [[.fn (.func 248) [] [.ptr vb 0 0,.ptr db 0 0]]])/\H[ob]?=some (yE 1 [[.sl s0 1 (ops.map qencI)]])) e.args.length
  ⟨0,v1,BA,ER,ER,ER,ER,ER,hch0,S1,hvb1,hdb1,hob1⟩ ?_
 rintro n F H ⟨j,v',hj,f1,f2,f12,f13,f14,hC,SH,hvH,hdH,hoH⟩;refine BB f13 f14 ?_;refine D9 ?_ ?_<;>intro hj'
 .have hmem:e.args[j]∈e.args:=jG hj'
  have hsplit:FM e.args=FM (e.args.take j)++(pre e.args[j]++FM (e.args.drop (j+1))):=by
   rw[<-List.append_assoc,<-LW _ _ hj',<-NS,List.take_append_drop]
  have hln:=ZF ops (FM (e.args.take j)) (nmU ops ns e);have hls:(FM e.args).length=(FM (e.args.take j)).length+((pre e.args[j]).length+(FM (e.args.drop (j+1))).length):=by simp_all
  simp only[vQ,CP,qH,zF,↓reduceIte,jC,enP,PZ,Option.getD_none,f12,f14,CZ hj',DJ O6 JE EG hj',RQ,rF _ _ [.n 0,.n 0,.str ⟨#[]⟩,.sl .nil 0 []] rfl,f2,GN Sm.ag230 (AO hdH),ldE];have SH1:=SH.app [yE 4 [A8 e.args[j]]];refine(ih e.args[j] hmem (by have:=V4 hmem;have:=MQ e;omega) _ _ v' SH1 (AO hoH) U (AO hvH) (AO hdH)).mono ?_;rintro r h2 ⟨rfl,v2,hch2,S2⟩;have hch2':Cn c v' H v2 h2:=(Ch.app c v' .nilfn H _).trans hch2;have hvH2:=hch2'.keep hvH hv (SH.ne hvH (.inr (hfn _ _ _)));have hdH2:=hch2'.keep hdH hd (SH.ne hdH (.inr (hfn _ _ _)));have hoH2:=hch2'.keep hoH hoc (SH.ne hoH (.inr (hsl _)));refine NY f1 f2 f12 f13 f14 (DC j) ?_;refine⟨n-1,U,j+1,v2,U,trivial,trivial,trivial,trivial,rfl,hC.trans hch2',?_,hvH2,hdH2,hoH2⟩;rw[LW _ _ hj',AXK];exact S2
 .refine AB ?_
  rw[List.take_of_length_le U,<-ARR] at SH;exact⟨trivial,v',hC,SH⟩
theorem AGB (ops:List Int)(hops:ops.length<=1048576)(h0:Hp)(c ob:Nat)(s0:SM)(hoc:ob≠c)(e:Ex)(hw:wt e<=1048576)(h:Hp)(ns:List ByteArray)(v:AV)(S:NSt h0 c ns v h)(hob:h[ob]?=some (yE 1 [[.sl s0 1 (ops.map qencI)]]))(hn:ns.length<=1048576):
  ACalls (En G) 170 [.agg (A8 e),.fn (.func 289) [] [.ptr ob 0 0,.ptr c 0 0]] h fun _ h'=>∃v',Cn c v h v' h'/\NSt h0 c (nmL ops ns (pre e)) v' h':=by
 have hcl:=AC S.cell;have hol:=AC hob;refine acL Tryz.func170 [] ?_;generalize hfv:AV.fn (.func 289) [] [.ptr ob 0 0,.ptr c 0 0]=fv;have hbx:∀H:Hp,MP H fv=some (.ptr H.length 0 0,H++[yE 1 [[fv]]]):=fun H=>by rw[<-hfv];rfl
 refine DW @bxE hbx A14 ?_;have g0:(h++[yE 4 [A8 e]]++[yE 1 [[fv]]]++[yE 1 [[AV.nilfn]]])[(h++[yE 4 [A8 e]]++[yE 1 [[fv]]]).length]?=some (yE 1 [[.nilfn]]):=AX _ _;simp only[vQ,CP,↓reduceIte,jC,enP,UO Sm.sz230 (A2A _ _ _) g0];have S3:=((S.app [yE 4 [A8 e]]).app [yE 1 [[fv]]]).app [yE 1 [[AV.nilfn]]];have c3:Cn c v h v (h++[yE 4 [A8 e]]++[yE 1 [[fv]]]++[yE 1 [[AV.nilfn]]]):=((Ch.app c v .nilfn h _).trans (Ch.app _ _ _ _ _)).trans (Ch.app _ _ _ _ _);have v3:(h++[yE 4 [A8 e]]++[yE 1 [[fv]]]++[yE 1 [[AV.nilfn]]])[(h++[yE 4 [A8 e]]).length]?=some (yE 1 [[fv]]):=AO (AX _ _);have e3:(h++[yE 4 [A8 e]]++[yE 1 [[fv]]]++[yE 1 [[AV.nilfn]]])[h.length]?=some (yE 4 [A8 e]):=AO (AO (AX _ _));have o3:(h++[yE 4 [A8 e]]++[yE 1 [[fv]]]++[yE 1 [[AV.nilfn]]])[ob]?=some (yE 1 [[.sl s0 1 (ops.map qencI)]]):=AO (AO (AO hob));have hdl:(h++[yE 4 [A8 e]]++[yE 1 [[fv]]]).length=h.length+2:=BA;have hvl:(h++[yE 4 [A8 e]]).length=h.length+1:=BA
 generalize (h++[yE 4 [A8 e]]++[yE 1 [[fv]]]).length=db at g0 hdl|-
 generalize (h++[yE 4 [A8 e]]).length=vb at v3 hvl|-
 generalize h++[yE 4 [A8 e]]++[yE 1 [[fv]]]++[yE 1 [[AV.nilfn]]]=H at g0 S3 c3 v3 e3 o3|-
 have hdn:¬isB v db:=S3.ne g0 (.inr fun x q=>by simp at q);generalize hH:H.set db (yE 1 [[AV.fn (.func 248) [] [.ptr vb 0 0,.ptr db 0 0]]])=H';have gd:H'[db]?=some (yE 1 [[.fn (.func 248) [] [.ptr vb 0 0,.ptr db 0 0]]]):=by rw[<-hH];exact CV g0
 have gv:H'[vb]?=some (yE 1 [[fv]]):=by rw[<-hH];exact C9 v3 U
 have ge:H'[h.length]?=some (yE 4 [A8 e]):=by rw[<-hH];exact C9 e3 U
 have go:H'[ob]?=some (yE 1 [[.sl s0 1 (ops.map qencI)]]):=by rw[<-hH];exact C9 o3 U
 have hb0:=S.ex.le
 have S4:NSt h0 c ns v H':=by
  rw[<-hH];exact⟨C9 S3.cell U,S3.out.keep fun b hb=>by rw[zQ,if_neg (fun q=>hdn (by rw[q];exact hb))],S3.base,S3.ex.set U _⟩
 have c4:Cn c v h v H':=by
  rw[<-hH];exact⟨by have:=c3.len;simpa using this,fun b hb hbc hbv hbu=>by rw[zQ,if_neg U];exact c3.get b hb hbc hbv hbu,fun _ q=>.inl q,fun _ q=>.inl q⟩
 simp only[vQ,CP,qH,zF,↓reduceIte,jC,enP,GN Sm.ag230 gd,IU ge];rw[<-hfv] at gv;have hp:=WI e;refine(AH0 G ops hops h0 c ob vb db s0 U U hoc e U H' ns v S4 go U gv gd).mono ?_;rintro r h' ⟨rfl,v',hch,S5⟩;refine A7 @gH ?_;exact⟨v',c4.trans hch,S5⟩
theorem A86 (h:Hp):GH jA h 121=some (.ptr h.length 0 0,h++[yE 1 [[.sl .nil 0 []]]]):=FB (row:=[.sl .nil 0 []]) AZ
theorem nG (ops:List Int)(hops:ops.length<=1048576)(s0:SM)(e:Ex)(hw:wt e<=1048576)(h:Hp):PCall (En G) 235 [.agg (A8 e),.sl s0 1 (ops.map qencI)] h (.sl (nm (nmL ops [] (pre e))) 1 ((nmL ops [] (pre e)).map qencStr)):=by
 refine J3 A35 ?_;refine acT Tryz.func235 4 ?_;have ge:=AO (x:=yE 1 [[.sl .nil 0 []]]) (AO (x:=yE 1 [[AV.sl s0 1 (ops.map qencI)]]) (AX h (yE 4 [A8 e])));have go:=AO (x:=yE 1 [[.sl .nil 0 []]]) (AX (h++[yE 4 [A8 e]]) (yE 1 [[AV.sl s0 1 (ops.map qencI)]]));have gc:=AX (h++[yE 4 [A8 e]]++[yE 1 [[AV.sl s0 1 (ops.map qencI)]]]) (yE 1 [[.sl .nil 0 []]]);have hx:ext h (h++[yE 4 [A8 e]]++[yE 1 [[AV.sl s0 1 (ops.map qencI)]]]++[yE 1 [[.sl .nil 0 []]]]):=(((ext.rfl' h).app _).app _).app _;have hol:(h++[yE 4 [A8 e]]).length=h.length+1:=BA;have hcl:(h++[yE 4 [A8 e]]++[yE 1 [[AV.sl s0 1 (ops.map qencI)]]]).length=h.length+2:=BA;refine DW @pF @bxE A86 ?_
 generalize h++[yE 4 [A8 e]]++[yE 1 [[AV.sl s0 1 (ops.map qencI)]]]++[yE 1 [[.sl .nil 0 []]]]=H at ge go gc hx|-
 generalize (h++[yE 4 [A8 e]]++[yE 1 [[AV.sl s0 1 (ops.map qencI)]]]).length=c at gc hcl|-
 generalize (h++[yE 4 [A8 e]]).length=ob at go hol|-
 refine A7 (IU ge) ?_;have S:NSt h c [] (.sl .nil 0 []) H:=⟨gc,outG.nil _ _ _ _,U,hx⟩;refine(AGB G ops hops h c ob s0 U e hw H [] _ S go BA).mono ?_;rintro r h' ⟨v',hch,S5⟩;refine A7 (GN uX S5.cell) ?_;exact⟨S5.ex,S5.out⟩
theorem A8D (h:Hp)(a b:Int):DF jA false h 32 2 [(0,.n a),(1,.n b)]=some (.sl .full 1 [[.n a],[.n b]],h):=AZ
theorem cL (e:Ex)(hw:wt e<=1048576)(h:Hp):PCall (En G) 156 [.agg (A8 e)] h (.sl (nm (nmL [2] [] (pre e))) 1 ((nmL [2] [] (pre e)).map qencStr)):=by
 refine ACalls.pure0 rfl ?_;refine acT Tryz.func156 2 ?_;refine DW @bxE @ldE AFA ?_;refine(nG G [2] DT .full e hw _).uu ?_;exact⟨trivial,_,rfl⟩
theorem Y4 (e:Ex)(hw:wt e<=1048576)(h:Hp):PCall (En G) 154 [.agg (A8 e)] h (.sl (nm (nmL [3,24] [] (pre e))) 1 ((nmL [3,24] [] (pre e)).map qencStr)):=by
 refine ACalls.pure0 rfl ?_;refine acT Tryz.func154 2 ?_;refine DW @bxE @ldE @A8D ?_;refine(nG G [3,24] DT .full e hw _).uu ?_;exact⟨trivial,_,rfl⟩
end Go.Proofs.YtiihpnicbekebaaGreatDoor.Xe
namespace Go.Proofs.YtiihpnicbekebaaGreatDoor.Xe
open Sm Bins Cov Wd Go.RowKit
def XF (l:List Sg)(op n:Int)(name:ByteArray)(vs:List Nat):Nat :=
 if op=1 then n.toNat%65536 else if op=2 then (LJ l name).1 else if op=3 then (atG l name (vs.getD 0 0:Nat)).1 else if op=24 then sumTo l name 8 else opW op vs
mutual
def FV (l:List Sg):Ex->Nat
 | .mk op n name _ args=>XF l op n name (LU l args)
def LU (l:List Sg):List Ex->List Nat
 | []=>[]
 | e::es=>FV l e::LU l es
end
theorem JY (l:List Sg)(e:Ex):FV l e=XF l e.op e.n e.name (LU l e.args):=by cases e;simp [FV,Ex.op,Ex.n,Ex.name,Ex.args]
theorem JJ (l:List Sg):∀xs:List Ex,LU l xs=xs.map (FV l)
 | []=>by simp [LU]
 | e::es=>by simp [LU,JJ l es]
theorem sJ (l:List Sg)(xs:List Ex):(LU l xs).length=xs.length:=by rw[JJ,List.length_map]
theorem AGD (l:List Sg)(xs:List Ex)(j:Nat)(hj:j<xs.length):LU l (xs.take (j+1))=LU l (xs.take j)++[FV l xs[j]]:=by
 rw[JJ,JJ,List.take_succ_eq_append_getElem hj,List.map_append];rfl
theorem AJA (l:List Sg)(e:Ex):FV l e<65536:=by
 induction e using Ex.induct with|h e ih=>?_
 rw[JY]
 have hv:∀x∈LU l e.args,x<65536:=by
  intro x hx;rw[JJ] at hx;obtain⟨a,ha,rfl⟩:=zH.1 hx;exact ih a ha
 unfold XF;split
 .exact Nat.mod_lt _ U
 split
 .exact dZ _ _
 split
 .exact AUW _ _ _
 split
 .exact mC _ _ _
 .exact A25 _ hv
theorem AP8 (l:List Sg)(xs:List Ex):∀x∈LU l xs,x<65536:=by
 intro x hx;rw[JJ] at hx;obtain⟨a,_,rfl⟩:=zH.1 hx;exact AJA l a
def knE (l:List Sg)(e:Ex):Bool:=if e.op=2 then (LJ l e.name).2 else if e.op=3\/e.op=24 then (atG l e.name 0).2 else true
theorem node_ops {e:Ex}(h:HY e=0):(e.op=1->0<=e.n/\e.n<=65535)/\(e.op=3->e.args.length=1)/\(e.op≠1->e.op≠2->e.op≠3->e.op≠24->AVH e.op e.args.length):=by
 unfold HY at h;have hO:badO e=false:=by grind
 have hN:cD e=false:=by grind
 have hS:VT e=false:=by grind
 have hops:WM e.op e.args.length=true:=by
  unfold VT at hS;rw[Bool.or_eq_false_iff] at hS;simpa using hS.2
 have h1:1<=e.op/\e.op<=25:=by unfold badO at hO;simp at hO;omega
 refine⟨fun h1=>?_,fun h3=>?_,fun n1 n2 n3 n24=>⟨fun h22=>?_,fun h23=>?_,fun n22 n23=>?_⟩⟩
 .unfold cD at hN;simp [h1] at hN;omega
 .unfold WM at hops;rw[h3] at hops;simp [arity] at hops;omega
 .unfold WM at hops;rw[h22] at hops;simp [arity] at hops;omega
 .unfold WM at hops;rw[h23] at hops;simp at hops;omega
 .unfold WM at hops
  rw[if_neg (BM n23)] at hops
  have h5:arity e.op=1\/arity e.op=2:=by
   by_cases hq:e.op=3\/e.op=4\/e.op=5\/e.op=6\/e.op=25
   .left;unfold arity;rw[if_neg U,if_neg U,if_pos hq]
   .right;unfold arity;rw[if_neg U,if_neg U,if_neg hq,if_neg n22,if_neg n23]
  have h6:((e.args.length:Nat):Int)=arity e.op:=BM hops;omega
theorem str_eq {a b:ByteArray}(h:(a.toList==b.toList)=true):a=b:=by
 rw[ByteArray.toList_eq,ByteArray.toList_eq] at h;exact ByteArray.ext (Array.toList_inj.1 (beq_iff_eq.1 h))
theorem AXJ (P:ByteArray->Bool)(ops:List Int)(ns:List ByteArray)(e:Ex):(nmU ops ns e).all P=(ns.all P&&(!Rk.hasB ops e.op||P e.name)):=by
 unfold nmU;cases hb:Rk.hasB ops e.op
 .simp
 cases hs:JR ns e.name
 .simp
 .simp
  intro ha;unfold JR at hs;rw[List.any_eq_true] at hs;obtain⟨u,hu,he⟩:=hs;rw[str_eq he];exact ha u hu
theorem dI (P:ByteArray->Bool)(ops:List Int):∀(xs:List Ex) (ns:List ByteArray),(nmL ops ns xs).all P=(ns.all P&&xs.all fun e => !Rk.hasB ops e.op||P e.name)
 | [],ns=>by simp [nmL]
 | e::xs,ns=>by
   have:=dI P ops xs (nmU ops ns e)
   simp only[nmL,List.foldl_cons,List.all_cons] at this|-
   rw[this,AXJ,Bool.and_assoc]
theorem AN3 (l:List Sg)(xs:List Ex):((nmL [2] [] xs).all (fun n=>(LJ l n).2)&&(nmL [3,24] [] xs).all fun n=>(atG l n 0).2)=xs.all (knE l):=by
 rw[dI,dI,Bool.eq_iff_iff];simp only[List.all_nil,wG,Bool.and_eq_true,List.all_eq_true];constructor
 .rintro⟨h1,h2⟩ x hx
  have a:=h1 x hx;have b:=h2 x hx;unfold knE;unfold Rk.hasB at a b;by_cases e2:x.op=2
  .rw[if_pos e2];simpa [e2] using a
  by_cases e3:x.op=3\/x.op=24
  .grind
  .rw[if_neg e2,if_neg e3]
 .intro h
  refine⟨fun x hx=>?_,fun x hx=>?_⟩
  .have a:=h x hx
   unfold knE at a;unfold Rk.hasB;by_cases e2:x.op=2
   .rw[if_pos e2] at a;simp [e2,a]
   .grind
  .have a:=h x hx
   unfold knE at a;unfold Rk.hasB;by_cases e3:x.op=3\/x.op=24
   .grind
   .grind
theorem AFQ {α:Type}(P:α->Bool)(xs:List α)(k:Nat)(hk:k<xs.length):(xs.drop k).all P=(P xs[k]&&(xs.drop (k+1)).all P):=by
 rw[List.drop_eq_getElem_cons hk];rfl
theorem AKA (ops:List Int):∀(xs:List Ex) (ns:List ByteArray) (n:ByteArray),n∈nmL ops ns xs->n∈ns\/∃x∈xs,n=x.name
 | [],ns,n,h=>.inl h
 | e::xs,ns,n,h=>by
   rcases AKA ops xs (nmU ops ns e) n h with h1|⟨x,hx,hn⟩
   .unfold nmU at h1
    split at h1
    .grind
    .exact .inl h1
   .grind
section
variable (G:Nat->AV)
theorem known_prog (l:List Sg)(m:SM)(e:Ex)(h:Hp)(hl:l.length<=1099511627776)(hw:wt e<=1048576):PCall (En G) 225 [.agg [.sl m 2 (l.map FU)],.agg (A8 e)] h (.bool ((pre e).all (knE l))):=by
 refine ACalls.pure0 rfl ?_;rw[<-AN3];have hpl:=WI e;have hn1:=ZF [2] (pre e) [];have hn2:=ZF [3,24] (pre e) []
 have hm2:∀n∈nmL [3,24] [] (pre e),n.size<=1048576:=fun n hn=>by
  rcases AKA _ _ _ n hn with h1|⟨x,hx,rfl⟩
  .cases h1
  .have:=ACE hx;omega
 have hN:=cL G e hw;have hA:=Y4 G e hw;simp only[List.length_nil,Nat.zero_add] at hn1 hn2
 generalize nmL [2] [] (pre e)=ns at hn1 hN|-
 generalize nmL [3,24] [] (pre e)=ars at hn2 hA hm2|-
 refine acT Tryz.func225 4 ?_;have gs:=AO (x:=yE 4 [A8 e]) (AX h (yE 1 [[.sl m 2 (l.map FU)]]));have ge:=AX (h++[yE 1 [[.sl m 2 (l.map FU)]]]) (yE 4 [A8 e]);have hx:ext h (h++[yE 1 [[.sl m 2 (l.map FU)]]]++[yE 4 [A8 e]]):=((ext.rfl' h).app _).app _;refine BB (AE8 h (.sl m 2 (l.map FU)) rfl) @bxE ?_
 generalize h++[yE 1 [[.sl m 2 (l.map FU)]]]++[yE 4 [A8 e]]=H at gs ge hx|-
 generalize (h++[yE 1 [[.sl m 2 (l.map FU)]]]).length=eb at ge|-
 refine A7 (IU ge) ?_;refine(hN H).uu ?_;refine EU 0 (fun F H'=>F 2=.ptr h.length 0 0/\F 3=.ptr eb 0 0/\H'=H/\ns.all (fun n=>(LJ l n).2)=true) (fun F H'=>F 4=.bool false/\H'=H/\ns.all (fun n=>(LJ l n).2)=false) ?_ ?_ ?_
 .refine BK (fun k F H'=>∃j,k+j=ns.length/\F 2=.ptr h.length 0 0/\F 3=.ptr eb 0 0/\F 14=.sl (nm ns) 1 (ns.map qencStr)/\F 15=.n (ns.length:Nat)/\F 16=.n (j:Nat)/\H'=H/\ns.all (fun n=>(LJ l n).2)=(ns.drop j).all fun n=>(LJ l n).2) ns.length ⟨0,BA,AQ,AQ,AQ,AQ,AQ,rfl,rfl⟩ ?_
  rintro k F H' ⟨j,hj,f2,f3,f14,f15,f16,rfl,hall⟩;refine BB f15 f16 ?_;refine D9 ?_ ?_<;>intro hj'
  .rw[AFQ _ ns j hj'] at hall
   simp only[vQ,CP,↓reduceIte,jC,enP,aJ,f2,f14,f16,CZ hj',CW ag9 hj',encStr0,aH gs];refine(fZ G l m _ H' hl).use ?_;unfold aE;refine AB ?_;cases hk:(LJ l ns[j]).2
   .refine AB ?_
    exact⟨trivial,trivial,by rw[hall,hk];rfl⟩
   .refine NY f2 f3 f14 f15 f16 (DC j) ?_
    exact⟨k-1,U,j+1,U,AL,AL,AL,AL,AL,trivial,by rw[hall,hk];rfl⟩
  .refine AB ?_
   exact⟨f2,f3,trivial,by rw[hall,zJ U];rfl⟩
 .rintro F H' ⟨f2,f3,rfl,hall⟩
  rw[hall,wG];refine BB f3 (IU ge) ?_;refine(hA H').uu ?_;refine BK (fun k F' H2=>∃j,k+j=ars.length/\F' 2=.ptr h.length 0 0/\F' 30=.sl (nm ars) 1 (ars.map qencStr)/\F' 31=.n (ars.length:Nat)/\F' 32=.n (j:Nat)/\H2=H'/\ars.all (fun n=>(atG l n 0).2)=(ars.drop j).all fun n=>(atG l n 0).2) ars.length ⟨0,BA,EI f2,AQ,AQ,AQ,rfl,rfl⟩ ?_;rintro k F' H2 ⟨j,hj,g2,g30,g31,g32,rfl,hall2⟩;refine BB g31 g32 ?_;refine D9 ?_ ?_<;>intro hj'
  .rw[AFQ _ ars j hj'] at hall2
   simp only[vQ,CP,↓reduceIte,jC,enP,aJ,g2,g30,g32,CZ hj',CW ag9 hj',encStr0,aH gs];refine(AAC G l m _ 0 H2 hl (hm2 _ (jG hj'))).use ?_;unfold aE;refine AB ?_;cases hk:(atG l ars[j] 0).2
   .refine AB ?_
    exact⟨by rw[hall2,hk];rfl,hx⟩
   .refine JI g2 g30 g31 g32 (DC j) ?_
    exact⟨k-1,U,j+1,U,AL,AL,AL,AL,trivial,by rw[hall2,hk];rfl⟩
  .refine AB ?_
   exact⟨by rw[hall2,zJ U];rfl,hx⟩
 .rintro F H' ⟨f4,rfl,hall⟩
  refine A7 f4 ?_;exact⟨by rw[hall];rfl,hx⟩
theorem encN0 (n:Nat):(KN n)[0]?=some (.n (n:Int)):=rfl
theorem AAW (l:List Sg)(m:SM)(hl:l.length<=1099511627776)(e:Ex):wt e<=1048576->(∀x∈pre e,HY x=0)->∀h:Hp,PCall (En G) 226 [.agg [.sl m 2 (l.map FU)],.agg (A8 e)] h (.n (FV l e:Nat)):=by
 induction e using Ex.induct with|h e ih=>?_
 intro hw hval h;have hal:e.args.length<=1048576:=by have:=V5 e.args;have:=MQ e;omega
 have hnz:e.name.size<=1048576:=by have:=MQ e;omega
 obtain⟨o1,o3,oo⟩:=node_ops (hval e (by rw[pre_eq];simp));refine ACalls.pure0 rfl ?_;refine acT Tryz.func226 4 ?_;have gs:=AO (x:=yE 4 [A8 e]) (AX h (yE 1 [[.sl m 2 (l.map FU)]]));have ge:=AX (h++[yE 1 [[.sl m 2 (l.map FU)]]]) (yE 4 [A8 e]);have hx:ext h (h++[yE 1 [[.sl m 2 (l.map FU)]]]++[yE 4 [A8 e]]):=((ext.rfl' h).app _).app _;refine BB (AE8 h (.sl m 2 (l.map FU)) rfl) @bxE ?_
 generalize h++[yE 1 [[.sl m 2 (l.map FU)]]]++[yE 4 [A8 e]]=H1 at gs ge hx|-
 generalize (h++[yE 1 [[.sl m 2 (l.map FU)]]]).length=eb at ge|-
 have l3:BI jA H1 23 (.ptr eb 0 3)=some (.sl e.m 4 (e.args.map A8)):=by rw[BC LM ge (row:=A8 e) rfl,YU]
 refine A7 l3 ?_;refine EU 0 (fun F H=>∃v,F 2=.ptr h.length 0 0/\F 3=.ptr eb 0 0/\F 5=v/\ext H1 H/\outG 1 KN H1 (LU l e.args) v H) (fun _ _=>False) ?_ ?_ (fun _ _ hh=>hh.elim)
 .refine BK (fun k F H=>∃j v,k+j=e.args.length/\F 2=.ptr h.length 0 0/\F 3=.ptr eb 0 0/\F 5=v/\F 13=.sl e.m 4 (e.args.map A8)/\F 14=.n (e.args.length:Nat)/\F 15=.n (j:Nat)/\ext H1 H/\outG 1 KN H1 (LU l (e.args.take j)) v H) e.args.length
   ⟨0,.sl .nil 0 [],BA,AQ,AQ,AQ,AQ,AQ,AQ,ext.rfl' H1,outG.nil _ _ _ _⟩ ?_
  rintro k F H ⟨j,v,hj,f2,f3,f5,f13,f14,f15,hxH,ho⟩;refine BB f14 f15 ?_;refine D9 ?_ ?_<;>intro hj'
  .have hmem:e.args[j]∈e.args:=jG hj'
   have ho1:=ho.app [yE 4 [A8 e.args[j]]];have hx1:=hxH.app [yE 4 [A8 e.args[j]]];have htl:(LU l (e.args.take j)).length<8388608:=by rw[sJ];simp;omega
   obtain⟨v',H',ha,ho',_,hx',_,_⟩:=ho1.append (P:=jA) U4 sz3 aV YW U htl hx1 (FV l e.args[j]);have ha':EQ jA true (H++[yE 4 [A8 e.args[j]]]) 32 32 v (.sl .full 1 [[.n ((FV l e.args[j]:Nat):Int)]])=some (v',H'):=ha;simp only[vQ,CP,↓reduceIte,jC,enP,PZ,Option.getD_none,f13,f15,CZ hj',DJ O6 JE EG hj',RQ,rF _ _ [.n 0,.n 0,.str ⟨#[]⟩,.sl .nil 0 []] rfl,f2,f5,aH (DI hx1 gs),ldE];refine(ih e.args[j] hmem (by have:=V4 hmem;have:=MQ e;omega) (fun x hx=>hval x (by rw[pre_eq];exact List.mem_cons_of_mem _ (ZB hmem x hx))) _).use ?_;refine Y2 f5 AFA ha' f2 f3 f13 f14 f15 (DC j) ?_;exact⟨k-1,U,j+1,v',U,AL,AL,AL,AL,AL,AL,hx',by rw[AGD _ _ _ hj'];exact ho'⟩
  .rw[List.take_of_length_le U] at ho
   refine AB ?_;exact⟨v,f2,f3,f5,hxH,ho⟩
 .rintro F H ⟨v,f2,f3,f5,hxH,ho⟩
  have gsH:=DI hxH gs;have geH:=DI hxH ge;have hxx:=hx.trans hxH;have l0:BI jA H 3 (.ptr eb 0 0)=some (.n e.op):=by rw[BC ag3 geH (row:=A8 e) rfl,J4]
  have l1:BI jA H 3 (.ptr eb 0 1)=some (.n e.n):=by rw[BC ag3 geH (row:=A8 e) rfl,eE]
  have l2:BI jA H 9 (.ptr eb 0 2)=some (.str e.name):=by rw[BC ag9 geH (row:=A8 e) rfl,RI]
  have hvl:=sJ l e.args;rw[JY];refine BB f3 l0 ?_;by_cases e1:e.op=1
  .have c1:(e.op==1)=true:=BM e1
   refine DW c1 f3 l1 ?_;have:=o1 e1;exact⟨by unfold XF;rw[if_pos e1];congr 1;omega,hxx⟩
  have c1:(e.op==1)=false:=BM e1;by_cases e2:e.op=2
  .have c2:(e.op==2)=true:=BM e2
   refine NY c1 c2 f2 f3 l2 (aH gsH) ?_;refine(fZ G l m _ H hl).use ?_;unfold aE;refine AB ?_;exact⟨by unfold XF;rw[if_neg e1,if_pos e2],hxx⟩
  have c2:(e.op==2)=false:=BM e2;by_cases e3:e.op=3
  .have c3:(e.op==3)=true:=BM e3
   have hl1:=o3 e3
   obtain⟨o,rfl,hob⟩:∃o,v=.own o 0 1/\H[o]?=some (yE 1 ((LU l e.args).map KN)):=by
    rcases ho with⟨h0,_⟩|⟨_,o,_,rfl,hb⟩
    .rw[h0] at hvl;simp at hvl;omega
    .exact⟨o,by rw[hvl,hl1],hb⟩
   have hlen:0<(LU l e.args).length:=U;have i0:IM 1 H (.own o 0 1) (.n 0)=some (.ptr o 0 0):=GM (n:=0) hob DT
   have d0:BI jA H 3 (.ptr o 0 0)=some (.n ((LU l e.args).getD 0 0:Nat)):=by
    rw[BC ag3 hob (row:=KN (LU l e.args)[0]) (row_map hlen),List.getD_eq_getElem?_getD,List.getElem?_eq_getElem hlen];rfl
   refine DW c1 c2 c3 ?_;refine D6 AZ ?_;refine NJ f2 f3 f5 l2 (aH gsH) i0 d0 ?_;refine⟨_,AAC G l m _ _ H hl hnz,?_⟩;unfold aE;refine AB ?_;exact⟨by unfold XF;rw[if_neg e1,if_neg e2,if_pos e3],hxx⟩
  have c3:(e.op==3)=false:=BM e3;by_cases e24:e.op=24
  .have c24:(e.op==24)=true:=BM e24
   refine SE c1 c2 c3 c24 f2 f3 l2 (aH gsH) ?_;refine(AQK G l m _ H hl hnz).uu ?_;exact⟨by unfold XF;rw[if_neg e1,if_neg e2,if_neg e3,if_pos e24],hxx⟩
  have c24:(e.op==24)=false:=BM e24;have hok:=oo e1 e2 e3 e24;have hok':AVH e.op (LU l e.args).length:=by rw[hvl];exact hok
  obtain⟨o,rfl,hob⟩:∃o,v=.own o 0 (LU l e.args).length/\H[o]?=some (yE 1 ((LU l e.args).map KN)):=by
   rcases ho with⟨h0,_⟩|⟨_,o,_,rfl,hb⟩
   .exfalso
    rw[h0] at hok';obtain⟨a,b,c⟩:=hok';by_cases q:e.op=22
    .have:=a q;simp at this
    by_cases q':e.op=23
    .have:=b q';simp at this
    .have:=c q q';simp at this
   .exact⟨o,rfl,hb⟩
  refine NJ c1 c2 c3 c24 f3 l0 f5 ?_;refine(ANI G e.op _ o H hob (AP8 l _) U hok').uu ?_;exact⟨by unfold XF;rw[if_neg e1,if_neg e2,if_neg e3,if_neg e24],hxx⟩
end
theorem ATL {xs:List Ex}(h:errs xs=0):∀x∈xs,HY x=0:=by
 induction xs with
 | nil=>intro x hx;cases hx
 | cons y ys ih =>
   have h1:ys.foldl (fun z e=>if z=0 then HY e else z) (HY y)=0:=h
   have hy:HY y=0:=by
    rcases Classical.em (HY y=0) with q|q
    .exact q
    .rw[yP _ _ q] at h1;exact h1
   rw[hy] at h1;intro x hx;rcases zN.1 hx with rfl|hx
   .exact hy
   .exact ih h1 x hx
theorem gD {e:Ex}(h:exE e=0):∀x∈pre e,HY x=0:=by
 unfold exE at h;split at h
 .cases h
 .exact ATL h
def evE (l:List Sg)(e:Ex):Nat×Int:=if exE e≠0 then (0,1) else if(pre e).all (knE l)=true then (FV l e,0) else (0,7)
def evV (p:Nat×Int):AV:=.tup [.n (p.1:Nat),.n p.2]
theorem A4E (p:Nat×Int)(n:Nat)(H:Hp):FH n H 2 (evV p)=evV p:=rfl
theorem A84 (h:Hp):GH jA h 277=some (.ptr h.length 0 0,h++[yE 1 [[.sl .nil 0 []]]]):=FB (row:=[.sl .nil 0 []]) AZ
theorem A8S (s:SM)(k:Nat)(xs:List (List AV)):I5 jA 277 [(0,.sl s k xs)]=some (.agg [.sl s k xs]):=AZ
theorem A50 (h:Hp)(s:SM)(k:Nat)(xs:List (List AV)):DU jA (h++[yE 1 [[.sl .nil 0 []]]]) 277 (.ptr h.length 0 0) (.agg [.sl s k xs])=some (h++[yE 1 [[.sl s k xs]]]):=by
 rw[IR (cs:=[.sl s k xs]) (row:=[.sl .nil 0 []]) rfl A00 (AX _ _) (by exact Nat.le_refl 1),JZ];rfl
section
variable (G:Nat->AV)
theorem ZV (hG:GOk G)(l:List Sg)(m:SM)(e:Ex)(h:Hp)(hl:l.length<=1099511627776)(hw:wt e<=1048576):PCall (En G) 143 [.agg (A8 e),.sl m 2 (l.map FU)] h (evV (evE l e)):=by
 refine X8 2 (A4E _) ?_;refine acL Tryz.func143 [.tmp 4,.tmp 5] ?_;have ge:=AO (x:=yE 1 [[.sl m 2 (l.map FU)]]) (AX h (yE 4 [A8 e]));have gs:=AX (h++[yE 4 [A8 e]]) (yE 1 [[.sl m 2 (l.map FU)]]);have hx:ext h (h++[yE 4 [A8 e]]++[yE 1 [[.sl m 2 (l.map FU)]]]):=((ext.rfl' h).app _).app _;refine ES @bxE A8S A84 A50 ?_
 generalize h++[yE 4 [A8 e]]++[yE 1 [[.sl m 2 (l.map FU)]]]=H at ge gs hx|-
 generalize (h++[yE 4 [A8 e]]).length=sb at gs|-
 refine A7 (IU ge) ?_;refine(OG G hG e H hw).uu ?_;cases hv:(exE e==0)
 .have hne:exE e≠0:=BM hv
  simp only[vQ,LG,kD,oL,CP,↓reduceIte,jC,bne,hv];exact⟨by unfold evE;rw[if_pos hne];rfl,hx⟩
 have h0:exE e=0:=BM hv;simp only[vQ,CP,↓reduceIte,jC,Bool.not_true,enP,bne,hv,IU ge,aH gs];refine(known_prog G l m e H hl hw).uu ?_;cases hk:(pre e).all (knE l)
 .refine AB ?_
  exact⟨by unfold evE;rw[if_neg (BM h0),if_neg (by rw[hk];decide)];rfl,hx⟩
 refine BB (IU ge) (aH gs) ?_;refine(AAW G l m hl e hw (gD h0) H).uu ?_;exact⟨by unfold evE;rw[if_neg (BM h0),if_pos hk];rfl,hx⟩
theorem YB:∀xs:List Ex,xs.length<=(FM xs).length
 | []=>by simp [FM]
 | x::xs=>by
   have:=YB xs;simp only[FM,jX,List.length_cons,pre_eq x];omega
theorem Q7 {a:Ex}:∀ {xs:List Ex},a∈xs->(pre a).length<=(FM xs).length
 | x::xs,h=>by
   simp only[FM,jX];rcases zN.1 h with rfl|h
   .omega
   .have:=Q7 h;omega
end
end Go.Proofs.YtiihpnicbekebaaGreatDoor.Xe
namespace Go.Proofs.YtiihpnicbekebaaGreatDoor.Bd
open Sm Bins Cov Xe Go.RowKit
variable {h:Hp} {i j k n:Nat} {a s:ByteArray} {x:Int} (G:Nat->AV )
structure Vr where
 name:ByteArray
 width:Int
 mode:Int
 value:Int
def encV (v:Vr):List AV:=[.str v.name,.n v.width,.n v.mode,.n v.value]
theorem encV_len (v:Vr):(encV v).length=4:=rfl
theorem encV0 (v:Vr):(encV v)[0]?=some (.str v.name):=rfl
theorem encV1 (v:Vr):(encV v)[1]?=some (.n v.width):=rfl
theorem encV2 (v:Vr):(encV v)[2]?=some (.n v.mode):=rfl
theorem encV3 (v:Vr):(encV v)[3]?=some (.n v.value):=rfl
structure Wg where
 lo:Int
 hi:Int
 w:Int
 each:Bool
def JC (x:Wg):List AV:=[.n x.lo,.n x.hi,.n x.w,.bool x.each]
theorem gI (x:Wg):(JC x).length=4:=rfl
structure Ds where
 var:Int
 wm:SM
 ws:List Wg
def IK (d:Ds):List AV:=[.n d.var,.sl d.wm 4 (d.ws.map JC)]
theorem RJ (d:Ds):(IK d).length=2:=rfl
structure Gp where
 m:SM
 l:List Int
def OH (g:Gp):List AV:=[.sl g.m 1 (g.l.map qencI)]
structure Pr where
 vm:SM
 vars:List Vr
 hm:SM
 hard:List Ex
 sm:SM
 soft:List Ex
 dm:SM
 dists:List Ds
 gm:SM
 groups:List Gp
def CY (p:Pr):List AV:=[.sl p.vm 4 (p.vars.map encV),.sl p.hm 4 (p.hard.map A8),.sl p.sm 4 (p.soft.map A8),.sl p.dm 2 (p.dists.map IK),.sl p.gm 1 (p.groups.map OH)]
theorem L8 (p:Pr):(CY p).length=5:=rfl
theorem bxV (h:Hp)(v:Vr):MP h (.agg (encV v))=some (.ptr h.length 0 0,h++[yE 4 [encV v]]):=rfl
theorem A78 (h:Hp)(v:Wg):MP h (.agg (JC v))=some (.ptr h.length 0 0,h++[yE 4 [JC v]]):=rfl
theorem bxD (h:Hp)(v:Ds):MP h (.agg (IK v))=some (.ptr h.length 0 0,h++[yE 2 [IK v]]):=rfl
theorem QE (h:Hp)(p:Pr):MP h (.agg (CY p))=some (.ptr h.length 0 0,h++[yE 5 [CY p]]):=rfl
def OC {α:Type}(p:α->Bool):List α->Int
 | [] => -1
 | x::r=>if p x=true then 0 else if OC p r<0 then -1 else OC p r+1
theorem RD {α:Type}(p:α->Bool):∀(xs:List α) (k:Nat) (hk:k<xs.length),(∀(j:Nat) (hj:j<k),p (xs[j]'U)=false)->p xs[k]=true->OC p xs=k
 | x::r,0,_,_,h=>by
   have h:p x=true:=h;simp [OC,h]
 | x::r,k+1,hk,hb,h=>by
   have h0:p x=false:=hb 0 U;have ih:=RD p r k (BM hk) (fun j hj=>hb (j+1) U) h;simp only[OC,h0,ih,Bool.false_eq_true,if_false];rw[if_neg U];omega
theorem QK {α:Type}(p:α->Bool):∀(xs:List α),(∀(j:Nat) (hj:j<xs.length),p xs[j]=false)->OC p xs = -1
 | [],_=>rfl
 | x::r,hb=>by
   have h0:p x=false:=hb 0 BA;have ih:=QK p r (fun j hj=>hb (j+1) (BM hj));simp [OC,h0,ih]
theorem RF {α:Type}(p:α->Bool):∀xs:List α,decide (OC p xs≥0)=xs.any p
 | []=>rfl
 | x::r=>by
   have ih:=RF p r;rw[List.any_cons,<-ih];rcases Bool.eq_false_or_eq_true (p x) with hx|hx
   .have h1:OC p (x::r)=0:=by simp [OC,hx]
    rw[h1,hx];rfl
   .have h1:OC p (x::r)=if OC p r<0 then -1 else OC p r+1:=by simp [OC,hx]
    rw[h1,hx,wP];by_cases h:OC p r<0
    .rw[if_pos h,decide_eq_false U,decide_eq_false U]
    .rw[if_neg h,decide_eq_true U,decide_eq_true U]
theorem VJ {α:Type}(p:α->Bool):∀(xs:List α),0<=OC p xs->∃k,∃hk:k<xs.length,OC p xs=(k:Nat)/\p xs[k]=true/\∀(j:Nat) (hj:j<k),p (xs[j]'U)=false
 | [],h=>by simp [OC] at h
 | x::r,h=>by
   cases hx:p x with
   | true=>exact⟨0,BA,by simp [OC,hx],hx,fun j hj=>absurd hj U⟩
   | false =>
     have h1:OC p (x::r)=if OC p r<0 then -1 else OC p r+1:=by simp [OC,hx]
     rw[h1] at h|-
     split at h
     .omega
     .rename_i hn
      rw[if_neg hn];obtain⟨k,hk,e1,e2,e3⟩:=VJ p r U;refine⟨k+1,BM hk,U,e2,fun j hj=>?_⟩
      cases j with
      | zero=>exact hx
      | succ j=>exact e3 j U
theorem fS {α:Type}(p:α->Bool)(xs:List α)(h:OC p xs<0):∀x∈xs,p x=false:=by
 intro x hx;have:=RF p xs;rw[decide_eq_false U] at this;have:=qO.1 this.symm x hx;simpa using this
theorem tR (xs:List Vr)(m:SM)(fid:FuncId)(caps:List AV)(p:Vr->Bool)(h:Hp)(hn:xs.length<=1099511627776)(hf:∀x∈xs,PCall (En G) fid ([.agg (encV x)]++caps) h (.bool (p x))):
  PCall (En G) 101 [.sl m 4 (xs.map encV),.fn (.func fid) [] caps] h (.n (OC p xs)):=by
 refine acT Tryz.func101 4 ?_;refine AB ?_;refine BK (fun n F H=>∃k,n+k=xs.length/\(∀(j:Nat) (hj:j<k) (hl:j<xs.length),p xs[j]=false)/\F 0=.sl m 4 (xs.map encV)/\F 1=.fn (.func fid) [] caps/\F 7=.n (xs.length:Nat)/\F 8=.n (k:Nat)/\H=h) xs.length ⟨0,BA,fun j hj=>absurd hj U,AQ,AQ,AQ,AQ,rfl⟩ ?_;rintro n F H ⟨k,hk,hb,f0,f1,f7,f8,rfl⟩;refine BB f7 f8 ?_;refine BO ?_ ?_<;>intro hc
 .have hk':k<xs.length:=BM hc
  simp only[vQ,CP,qH,zF,↓reduceIte,jC,enP,ZZ,f0,f1,f8,CZ hk',DJ AFT iL encV_len hk'];refine(hf _ (jG hk')).uu ?_;refine BO ?_ ?_<;>intro hp
  .refine A7 f8 ?_
   exact⟨by rw[RD p xs k hk' (fun j hj=>hb j hj U) hp],trivial⟩
  .refine BB f8 (DC k) ?_
   refine⟨n-1,U,k+1,U,fun j hj hl=>?_,AL,AL,AL,rfl,trivial⟩;rcases zB j k with h1|h1
   .exact hb j h1 hl
   .obtain rfl:j=k:=U
    exact hp
 .refine AB ?_
  have hk':¬k<xs.length:=BM hc;exact⟨by rw[QK p xs fun j hj=>hb j U hj],trivial⟩
theorem AKT (xs:List Vr)(m:SM)(fid:FuncId)(caps:List AV)(p:Vr->Bool)(h:Hp)(hn:xs.length<=1099511627776)(hf:∀x∈xs,PCall (En G) fid ([.agg (encV x)]++caps) h (.bool (p x))):
  PCall (En G) 151 [.sl m 4 (xs.map encV),.fn (.func fid) [] caps] h (.bool (xs.any p)):=by
 refine acT Tryz.func151 4 ?_;refine AB ?_;refine(tR G xs m fid caps p h hn hf).use ?_;refine A7 @RF ?_;exact H7
theorem AHJ (xs:List Ds)(m:SM)(fid:FuncId)(caps:List AV)(p:Ds->Bool)(h:Hp)(hn:xs.length<=1099511627776)(hf:∀x∈xs,PCall (En G) fid ([.agg (IK x)]++caps) h (.bool (p x))):
  PCall (En G) 237 [.sl m 2 (xs.map IK),.fn (.func fid) [] caps] h (.n (OC p xs)):=by
 refine acT Tryz.func237 4 ?_;refine AB ?_;refine BK (fun n F H=>∃k,n+k=xs.length/\(∀(j:Nat) (hj:j<k) (hl:j<xs.length),p xs[j]=false)/\F 0=.sl m 2 (xs.map IK)/\F 1=.fn (.func fid) [] caps/\F 7=.n (xs.length:Nat)/\F 8=.n (k:Nat)/\H=h) xs.length ⟨0,BA,fun j hj=>absurd hj U,AQ,AQ,AQ,AQ,rfl⟩ ?_;rintro n F H ⟨k,hk,hb,f0,f1,f7,f8,rfl⟩;refine BB f7 f8 ?_;refine BO ?_ ?_<;>intro hc
 .have hk':k<xs.length:=BM hc
  simp only[vQ,CP,qH,zF,↓reduceIte,jC,enP,AN6,f0,f1,f8,CZ hk',DJ AL1 iK RJ hk'];refine(hf _ (jG hk')).uu ?_;refine BO ?_ ?_<;>intro hp
  .refine A7 f8 ?_
   exact⟨by rw[RD p xs k hk' (fun j hj=>hb j hj U) hp],trivial⟩
  .refine BB f8 (DC k) ?_
   refine⟨n-1,U,k+1,U,fun j hj hl=>?_,AL,AL,AL,rfl,trivial⟩;rcases zB j k with h1|h1
   .exact hb j h1 hl
   .obtain rfl:j=k:=U
    exact hp
 .refine AB ?_
  have hk':¬k<xs.length:=BM hc;exact⟨by rw[QK p xs fun j hj=>hb j U hj],trivial⟩
theorem ASX (xs:List Ds)(m:SM)(fid:FuncId)(caps:List AV)(p:Ds->Bool)(h:Hp)(hn:xs.length<=1099511627776)(hf:∀x∈xs,PCall (En G) fid ([.agg (IK x)]++caps) h (.bool (p x))):
  PCall (En G) 159 [.sl m 2 (xs.map IK),.fn (.func fid) [] caps] h (.bool (xs.any p)):=by
 refine acT Tryz.func159 4 ?_;refine AB ?_;refine(AHJ G xs m fid caps p h hn hf).use ?_;refine A7 @RF ?_;exact H7
theorem ADH (xs:List Wg)(m:SM)(fid:FuncId)(caps:List AV)(p:Wg->Bool)(h:Hp)(hn:xs.length<=1099511627776)(hf:∀x∈xs,PCall (En G) fid ([.agg (JC x)]++caps) h (.bool (p x))):
  PCall (En G) 178 [.sl m 4 (xs.map JC),.fn (.func fid) [] caps] h (.n (OC p xs)):=by
 refine acT Tryz.func178 4 ?_;refine A7 AC6 ?_;refine BK (fun n F H=>∃k,n+k=xs.length/\(∀(j:Nat) (hj:j<k) (hl:j<xs.length),p xs[j]=false)/\F 0=.sl m 4 (xs.map JC)/\F 1=.fn (.func fid) [] caps/\F 7=.n (xs.length:Nat)/\F 8=.n (k:Nat)/\H=h) xs.length ⟨0,BA,fun j hj=>absurd hj U,AQ,AQ,AQ,AQ,rfl⟩ ?_;rintro n F H ⟨k,hk,hb,f0,f1,f7,f8,rfl⟩;refine BB f7 f8 ?_;refine BO ?_ ?_<;>intro hc
 .have hk':k<xs.length:=BM hc
  simp only[vQ,CP,qH,zF,↓reduceIte,jC,enP,ASJ,f0,f1,f8,CZ hk',DJ A15 AJH gI hk'];refine(hf _ (jG hk')).uu ?_;refine BO ?_ ?_<;>intro hp
  .refine A7 f8 ?_
   exact⟨by rw[RD p xs k hk' (fun j hj=>hb j hj U) hp],trivial⟩
  .refine BB f8 (DC k) ?_
   refine⟨n-1,U,k+1,U,fun j hj hl=>?_,AL,AL,AL,rfl,trivial⟩;rcases zB j k with h1|h1
   .exact hb j h1 hl
   .obtain rfl:j=k:=U
    exact hp
 .refine AB ?_
  have hk':¬k<xs.length:=BM hc;exact⟨by rw[QK p xs fun j hj=>hb j U hj],trivial⟩
theorem A3R (xs:List Wg)(m:SM)(fid:FuncId)(caps:List AV)(p:Wg->Bool)(h:Hp)(hn:xs.length<=1099511627776)(hf:∀x∈xs,PCall (En G) fid ([.agg (JC x)]++caps) h (.bool (p x))):
  PCall (En G) 238 [.sl m 4 (xs.map JC),.fn (.func fid) [] caps] h (.bool (xs.any p)):=by
 refine acT Tryz.func238 4 ?_;refine AB ?_;refine(ADH G xs m fid caps p h hn hf).use ?_;refine A7 @RF ?_;exact H7
theorem A1C {xs:List ByteArray}(hk:k<xs.length):BI jA h 9 (.fptr 1 (xs.map qencStr) k 0)=some (.str xs[k]):=by rw[CW ag9 hk];rfl
theorem AOD (xs:List ByteArray)(m:SM)(fid:FuncId)(caps:List AV)(p:ByteArray->Bool)(h:Hp)(hn:xs.length<=1099511627776)(hf:∀x∈xs,PCall (En G) fid ([.str x]++caps) h (.bool (p x))):
  PCall (En G) 236 [.sl m 1 (xs.map qencStr),.fn (.func fid) [] caps] h (.n (OC p xs)):=by
 refine acT Tryz.func236 4 ?_;refine AB ?_;refine BK (fun n F H=>∃k,n+k=xs.length/\(∀(j:Nat) (hj:j<k) (hl:j<xs.length),p xs[j]=false)/\F 0=.sl m 1 (xs.map qencStr)/\F 1=.fn (.func fid) [] caps/\F 7=.n (xs.length:Nat)/\F 8=.n (k:Nat)/\H=h) xs.length ⟨0,BA,fun j hj=>absurd hj U,AQ,AQ,AQ,AQ,rfl⟩ ?_;rintro n F H ⟨k,hk,hb,f0,f1,f7,f8,rfl⟩;refine BB f7 f8 ?_;refine BO ?_ ?_<;>intro hc
 .have hk':k<xs.length:=BM hc
  simp only[vQ,CP,qH,zF,↓reduceIte,jC,enP,aJ,f0,f1,f8,CZ hk',A1C hk'];refine(hf _ (jG hk')).uu ?_;refine BO ?_ ?_<;>intro hp
  .refine A7 f8 ?_
   exact⟨by rw[RD p xs k hk' (fun j hj=>hb j hj U) hp],trivial⟩
  .refine BB f8 (DC k) ?_
   refine⟨n-1,U,k+1,U,fun j hj hl=>?_,AL,AL,AL,rfl,trivial⟩;rcases zB j k with h1|h1
   .exact hb j h1 hl
   .obtain rfl:j=k:=U
    exact hp
 .refine AB ?_
  have hk':¬k<xs.length:=BM hc;exact⟨by rw[QK p xs fun j hj=>hb j U hj],trivial⟩
theorem AYG (xs:List ByteArray)(m:SM)(fid:FuncId)(caps:List AV)(p:ByteArray->Bool)(h:Hp)(hn:xs.length<=1099511627776)(hf:∀x∈xs,PCall (En G) fid ([.str x]++caps) h (.bool (p x))):
  PCall (En G) 155 [.sl m 1 (xs.map qencStr),.fn (.func fid) [] caps] h (.bool (xs.any p)):=by
 refine acT Tryz.func155 4 ?_;refine AB ?_;refine(AOD G xs m fid caps p h hn hf).use ?_;refine A7 @RF ?_;exact H7
def dgS (k:Nat):ByteArray:=⟨#[UInt8.ofNat (48+k)]⟩
def AL0:ByteArray:=⟨#[48,49,50,51,52,53,54,55,56,57,97,98,99,100,101,102,103,104,105,106,107,108,109,110,111,112,113,114,115,116,117,118,119,120,121,122]⟩
theorem sl36:∀(k:Nat),k<8->∀h:Hp,IE jA h 9 (.str AL0) (some (.n (k:Nat))) (some (.n ((k+1:Nat):Int))) none=some (.str (dgS k))
 | 0,_,h=>AZ
 | 1,_,h=>AZ
 | 2,_,h=>AZ
 | 3,_,h=>AZ
 | 4,_,h=>AZ
 | 5,_,h=>AZ
 | 6,_,h=>AZ
 | 7,_,h=>AZ
 | n+8,q,_=>absurd q U
theorem AGH (k:Nat)(hk:k<8)(h:Hp):PCall (En G) 396 [.n (k:Nat)] h (.str (dgS k)):=by
 refine acT Tryz.func396 2 ?_;have hd:decide (((k:Nat):Int)<10)=true:=by simp;omega
 have:=sl36 k hk h;unfold AL0 at this;refine DW hd (DC k) @this ?_;exact H7
theorem APQ (k:Nat)(hk:k<8)(h:Hp):PCall (En G) 288 [.n (k:Nat)] h (.str (dgS k)):=by
 have h1:PCall (En G) 358 [.n (k:Nat),.n 10] h (.str (dgS k)):=by
  refine acT Tryz.func358 4 ?_;have d1:((10:Int)==10)=true:=rfl;have d2:decide ((0:Int)<=((k:Nat):Int))=true:=BA;have d3:decide (((k:Nat):Int)<100)=true:=by simp;omega
  refine DW d1 d2 d3 ?_;refine(AGH G k hk h).uu ?_;exact H7
 have h2:PCall (En G) 324 [.n (k:Nat)] h (.str (dgS k)):=by
  refine acT Tryz.func324 2 ?_;refine AB ?_;refine h1.uu ?_;exact H7
 refine acT Tryz.func288 2 ?_;refine AB ?_;refine h2.uu ?_;exact H7
theorem APF (k:Nat)(hk:k<8)(h:Hp):PCall (En G) 330 [.n (k:Nat)] h (.n (-(k:Int))):=by
 refine acT Tryz.func330 2 ?_;refine AB ?_;refine BO ?_ ?_<;>intro hc
 .have e:IntKind.i64.wrap (0-((k:Nat):Int)) = -(k:Int):=by rw[wrap_i64 U U];omega
  refine BB @AQA e ?_;exact H7
 .have e:((k:Nat):Int) = -(k:Int):=by
   have:¬((k:Nat):Int)>0:=BM hc;omega
  refine AB ?_;exact⟨by rw[<-e],trivial⟩
theorem AIY (k:Nat)(hk:k<8)(h:Hp):PCall (En G) 307 [.n (k:Nat)] h (.str (dgS k)):=by
 refine acT Tryz.func307 2 ?_;refine AB ?_;refine(APF G k hk h).uu ?_;refine BK (fun n F H=>n=0/\F 0=.n (k:Nat)/\F 3=.str ⟨#[]⟩/\F 4=.n (-(k:Int))/\H=h) 0 ⟨rfl,AQ,AQ,AQ,rfl⟩ ?_;rintro n F H ⟨rfl,f0,f3,f4,rfl⟩;have e1:(-(k:Int)).tmod 10 = -(k:Int):=by grind
 have e2:(-(k:Int)).tdiv 10=0:=by grind
 have e3:(48:Int) - -(k:Int)=48+(k:Int):=U;have r1:IG jA 3 .rem (.n (-(k:Int))) (.n 10)=some (.n (-(k:Int))):=by rw[AAA _ _ _ _ _ DT,e1]
 have r2:IG jA 3 .quo (.n (-(k:Int))) (.n 10)=some (.n 0):=by rw[AZ0 _ _ _ _ _ DT,e2];rfl
 have a1:IG jA 9 .add (.str (dgS k)) (.str ⟨#[]⟩)=some (.str (dgS k)):=by
  rw[UC (by show 1+0<=_;omega)];congr 2
 have z:((0:Int)==0)=true:=rfl;have dc:=AEN k hk;change _=some (AV.str (dgS k)) at dc;have n0:decide (((k:Nat):Int)<0)=false:=BA;simp only[vQ,JH,UD,YX,sY,CP,F6,AGA,P9,J7,↓reduceIte,jC,enP,A1U,f0,f3,f4,r1,r2,e3,A10,dc,a1,z,n0];exact H7
theorem A40 (a:ByteArray)(k:Nat)(ha:a.size<=1048576):IG jA 9 .add (.str a) (.str ⟨#[91]⟩)=some (.str (a++(⟨#[91]⟩:ByteArray)))/\IG jA 9 .add (.str (a++(⟨#[91]⟩:ByteArray))) (.str (dgS k))=some (.str (a++(⟨#[91]⟩:ByteArray)++dgS k)) /\
  IG jA 9 .add (.str (a++(⟨#[91]⟩:ByteArray)++dgS k)) (.str ⟨#[93]⟩)=some (.str (elN a k)) :=
 ⟨UC (by show a.size+1<=_;omega),UC (by rw[ZT];show a.size+1+1<=_;omega),UC (by rw[ZT,ZT];show a.size+1+1+1<=_;omega)⟩
theorem gL (a:ByteArray)(k:Nat)(hk:k<8)(h:Hp)(ha:a.size<=1048576):PCall (En G) 233 [.str a,.n (k:Nat)] h (.str (elN a k)):=by
 refine acT Tryz.func233 4 ?_;obtain⟨b1,b2,b3⟩:=A40 a k ha;refine A7 b1 ?_;refine(APQ G k hk h).use ?_;refine BB b2 b3 ?_;exact H7
theorem oP (a:ByteArray)(k:Nat)(hk:k<8)(h:Hp)(ha:a.size<=1048576):PCall (En G) 263 [.str a,.n (k:Nat)] h (.str (elN a k)):=by
 refine acT Tryz.func263 4 ?_;obtain⟨b1,b2,b3⟩:=A40 a k ha;refine A7 b1 ?_;refine(AIY G k hk h).use ?_;refine BB b2 b3 ?_;exact H7
theorem NU (a:ByteArray)(k:Nat):(elN a k).data.toList=a.data.toList++[91,UInt8.ofNat (48+k),93]:=by
 unfold elN;simp [ByteArray.data_append]
theorem pN {b:ByteArray}(h:a.data.toList=b.data.toList):a=b:=by
 obtain⟨⟨x⟩⟩:=a;obtain⟨⟨y⟩⟩:=b;have:x=y:=h;rw[this]
theorem AFH (a:ByteArray):(⟨a.data.toList.toArray⟩:ByteArray)=a:=by obtain⟨⟨x⟩⟩:=a;rfl
theorem AH3 (hk:k<8):(UInt8.ofNat (48+k)).toNat=48+k:=by
 rw[UInt8.toNat_ofNat'];omega
theorem yS (hi:i<8)(hj:j<8)(h:elN a i=elN a j):i=j:=by
 have:=congrArg (fun x=>x.data.toList) h;simp only[NU,List.append_cancel_left_eq,List.cons.injEq,and_true,true_and] at this;have:=congrArg UInt8.toNat this;rw[AH3 hi,AH3 hj] at this;omega
theorem uI (hk:k<8)(hn:E8 a=true):JQ (elN a k)=some (a.data.toList,UInt8.ofNat (48+k)):=by
 have h1:elN a k=⟨(a.data.toList++[91,UInt8.ofNat (48+k),93]).toArray⟩:=pN (NU a k);have hne:a.data.toList≠[]:=(QV (l:=a.data.toList) (by rw[AFH];exact hn)).1;rw[h1,eG hne,AFH,hn,AH3 hk];simp;omega
theorem MN {a:List UInt8}{d:UInt8}(h:JQ s=some (a,d)):48<=d.toNat/\d.toNat-48<8/\E8 ⟨a.toArray⟩=true/\s=elN ⟨a.toArray⟩ (d.toNat-48)/\a.length+3=s.size:=by
 unfold JQ at h;split at h
 case isFalse=>cases h
 rename_i hl;split at h
 case h_2=>cases h
 rename_i x d' y hm;split at h
 case isFalse=>cases h
 rename_i hc;cases h;simp only[jM,beq_iff_eq,decide_eq_true_eq] at hc;obtain⟨⟨⟨⟨rfl,rfl⟩,c1⟩,c2⟩,c3⟩:=hc;refine⟨c1,U,c3,pN ?_,?_⟩
 .rw[NU]
  have e:UInt8.ofNat (48+(d.toNat-48))=d:=by simp_all
  rw[e,<-hm];simp
 .have:s.size=s.data.toList.length:=(Array.length_toList (xs:=s.data)).symm
  rw[this,jZ];omega
theorem AFD (a b:ByteArray):(a.toList==b.toList)=true↔a=b:=by
 rw[beq_iff_eq,ByteArray.toList_eq,ByteArray.toList_eq];exact⟨pN,fun h=>by rw[h]⟩
def NE (n:ByteArray)(v:Vr):Bool:=v.name.toList==n.toList
def plc (l:List Vr)(n:ByteArray):Int:=OC (NE n) l
theorem A7M (v:Vr)(n:ByteArray)(c:Nat)(h:Hp)(hc:h[c]?=some (yE 1 [[.str n]])):PCall (En G) 234 ([.agg (encV v)]++[.ptr c 0 0]) h (.bool (NE n v)):=by
 refine ACalls.pure0 rfl ?_;refine acT Tryz.func234 3 ?_;have hc':(h++[yE 4 [encV v]])[c]?=_:=AO hc;refine MI @bxV @encV0 (GN ag9 hc') ?_;exact⟨rfl,_,rfl⟩
theorem index_prog (l:List Vr)(m:SM)(n:ByteArray)(h:Hp)(hl:l.length<=1099511627776):PCall (En G) 150 [.sl m 4 (l.map encV),.str n] h (.n (plc l n)):=by
 refine ACalls.pure0 rfl ?_;refine acT Tryz.func150 4 ?_;refine A7 @AZY ?_;refine(tR G l m 234 [.ptr h.length 0 0] (NE n) _ hl fun x _=>A7M G x n h.length _ (AX _ _)).uu ?_;exact⟨rfl,_,rfl⟩
theorem bQ (l:List Vr)(m:SM)(n:ByteArray)(h:Hp)(hl:l.length<=1099511627776):PCall (En G) 192 [.sl m 4 (l.map encV),.str n] h (.n (plc l n)):=by
 refine acT Tryz.func192 4 ?_;refine AB ?_;refine BK (fun k F H=>∃j,k+j=l.length/\(∀(i:Nat) (hi:i<j) (hl:i<l.length),NE n l[i]=false)/\F 0=.sl m 4 (l.map encV)/\F 1=.str n/\F 5=.n (j:Nat)/\H=h) l.length ⟨0,BA,fun i hi=>absurd hi U,AQ,AQ,AQ,rfl⟩ ?_;rintro k F H ⟨j,hj,hb,f0,f1,f5,rfl⟩;refine BB f0 f5 ?_;refine BO ?_ ?_<;>intro hc
 .have hj':j<l.length:=BM hc
  have l0:BI jA H 9 (.fptr 4 (l.map encV) j 0)=some (.str l[j].name):=by rw[CW ag9 hj'];rfl
  refine aT f0 f1 f5 hj' l0 ?_;refine BO ?_ ?_<;>intro hp
  .refine A7 f5 ?_
   exact⟨by rw[plc,RD (NE n) l j hj' (fun i hi=>hb i hi U) hp],trivial⟩
  .refine BB f5 (DC j) ?_
   refine⟨k-1,U,j+1,U,fun i hi hl=>?_,AL,AL,rfl,trivial⟩;rcases zB i j with h1|h1
   .exact hb i h1 hl
   .obtain rfl:i=j:=U
    exact hp
 .refine AB ?_
  have hj':¬j<l.length:=BM hc;exact⟨by rw[plc,QK (NE n) l fun i hi=>hb i U hi],trivial⟩
theorem A4N (s:ByteArray):(Lib.cut s.data.toList [91]).1.length<=s.size:=by
 have:=ALO s.data.toList;have e:s.data.toList.length=s.size:=Array.length_toList;omega
theorem AG4 (hG:GOk G)(s:ByteArray)(h:Hp)(hl:s.size<=1048576):PCall (En G) 149 [.str s] h (.bool (FX s)):=by
 refine acT Tryz.func149 2 ?_;refine AB ?_;refine(MH G hG.kw s h U).use ?_;cases hn:E8 s
 case true =>
  refine AB ?_;exact⟨by unfold FX;rw[hn,zY],trivial⟩
 have hv:FX s=(JQ s).isSome:=by unfold FX;rw[hn,zO]
 rw[hv];clear hn hv;refine AB ?_;refine(oW G hG s h hl).use ?_;have he:=oR s;have hal:=A4N s;unfold cutV
 generalize Lib.cut s.data.toList [91]=c at he hal|-
 obtain⟨a,b,f⟩:=c;simp only at he hal;refine AB ?_;cases f
 .refine AB ?_
  exact⟨by rw[he];rfl,trivial⟩
 refine AB ?_;refine(MH G hG.kw ⟨a.toArray⟩ h (by rw[szl];omega)).uu ?_;cases hna:E8 ⟨a.toArray⟩
 .refine AB ?_
  exact⟨by rw[he,hna];rfl,trivial⟩
 refine AB ?_;refine BK (fun n F H=>∃k,n+k=8/\(∀j,j<k->j<8->s≠elN ⟨a.toArray⟩ j)/\F 0=.str s/\F 3=.str ⟨a.toArray⟩/\F 22=.n (k:Nat)/\H=h) 8 ⟨0,BA,fun j hj=>absurd hj U,AQ,AQ,AQ,rfl⟩ ?_;rintro n F H ⟨k,hk,hb,f0,f3,f22,rfl⟩;refine A7 f22 ?_;refine BO ?_ ?_<;>intro hc
 .have hk':k<8:=by simp at hc;omega
  refine DW f0 f3 f22 ?_;refine(gL G ⟨a.toArray⟩ k hk' H (by rw[szl];omega)).use ?_;refine A7 f0 ?_;refine BO ?_ ?_<;>intro hp
  .refine AB ?_
   exact⟨by rw[(AFD _ _).1 hp,uI hk' hna];rfl,trivial⟩
  .refine BB f22 (DC k) ?_
   refine⟨n-1,U,k+1,U,fun j hj h8=>?_,AL,AL,rfl,trivial⟩;rcases zB j k with h1|h1
   .exact hb j h1 h8
   .obtain rfl:j=k:=U
    intro e;rw[(AFD _ _).2 e] at hp;cases hp
 .refine AB ?_
  have hk':8<=k:=by simp at hc;omega
  refine⟨?_,trivial⟩;rcases hcase:JQ s with _|⟨a',d⟩
  .rfl
  .exfalso
   obtain⟨c1,c2,c3,c4,_⟩:=MN hcase;rw[he,hna] at hcase
   have:a'=a:=by
    simp only[Bool.and_true,if_true] at hcase;split at hcase
    .split at hcase
     .cases hcase;rfl
     .cases hcase
    .cases hcase
   subst this;exact hb _ U c2 c4
theorem A4K (hi:i<(elN a k).size)(h:i=a.size):(elN a k)[i]=91:=by
 subst h
 have h1:(elN a k).data.toList[a.size]?=some 91:=by
  rw[NU,wS (by show a.data.toList.length<=a.data.size;simp)];have:a.size-a.data.toList.length=0:=by show a.data.size-a.data.toList.length=0;simp
  rw[this];rfl
 have h2:(elN a k).data[a.size]?=some 91:=by rw[<-Array.getElem?_toList];exact h1
 have hk':a.size<(elN a k).data.size:=hi;rw[Array.getElem?_eq_getElem hk'] at h2;exact Option.some.inj h2
theorem yT (a:ByteArray)(k:Nat):(elN a k).extract 0 a.size=a:=by
 refine pN ?_;have:(elN a k)=⟨(a.data.toList++[91,UInt8.ofNat (48+k),93]).toArray⟩:=pN (NU a k);rw[this];have e:a.size=a.data.toList.length:=(Array.length_toList (xs:=a.data)).symm;rw[e,ALG]
theorem APP (s:ByteArray)(h:Hp)(hl:s.size<=1048576):PCall (En G) 262 [.str s] h (.bool (FX s)):=by
 refine acT Tryz.func262 2 ?_;refine AB ?_;refine(TK G s h).use ?_;cases hn:E8 s
 case true =>
  refine AB ?_;exact⟨by unfold FX;rw[hn,zY],trivial⟩
 have hv:FX s=(JQ s).isSome:=by unfold FX;rw[hn,zO]
 rw[hv];clear hn hv;refine AB ?_;refine BK (fun n F H=>∃k,1<=k/\n+k=s.size+1/\(∀a j,j<8->E8 a=true->a.size<k->s≠elN a j)/\F 0=.str s/\F 3=.n (k:Nat)/\H=h) s.size ⟨1,U,U,fun a j hj ha hs e=>?_,AQ,AQ,rfl⟩ ?_
 .have:=(QV (l:=a.data.toList) (by rw[AFH];exact ha)).1
  have h2:a.data.toList.length=a.size:=Array.length_toList;have:=qX.2 this;omega
 rintro n F H ⟨k,hk1,hk,hb,f0,f3,rfl⟩;refine BB f0 f3 ?_;refine D9 ?_ ?_<;>intro hk'
 .have hnext:∀F':Fr,F' 0=.str s->F' 3=.n (k:Nat)->(∀a j,j<8->E8 a=true->a.size=k->s≠elN a j)->∃m,m<n/\∃k',1<=k'/\m+k'=s.size+1/\(∀a j,j<8->E8 a=true->a.size<k'->s≠elN a j)/\k'=k+1:=fun F' _ _ hk2 =>
   ⟨n-1,U,k+1,U,U,fun a j hj ha hs=>by
    rcases zB a.size k with h1|h1
    .exact hb a j hj ha h1
    .exact hk2 a j hj ha U,rfl⟩
  refine DW f0 f3 (ix9 s k .i64 hk') ?_;refine IZ ?_ ?_<;>intro hx
  .refine DW hx f3 (DC k) ?_
   obtain⟨m,hm,k',h1,h2,h3,rfl⟩:=hnext F f0 f3 (fun a j hj ha hs e=>by
    subst e;rw[A4K hk' hs.symm] at hx
    revert hx;decide)
   exact⟨m,hm,k+1,h1,h2,h3,AL,rfl,trivial⟩
  simp only[vQ,zX,qA,EM,CP,UK,↓reduceIte,jC,enP,hx,f0,f3,mE (Nat.le_of_lt hk')];refine(TK G (s.extract 0 k) _).use ?_;refine A7 hx ?_;refine BO ?_ ?_<;>intro hy
  .refine BB f3 (DC k) ?_
   obtain⟨m,hm,k',h1,h2,h3,rfl⟩:=hnext F f0 f3 (fun a j hj ha hs e=>by
    subst e;subst hs;rw[yT,ha] at hy
    cases hy)
   exact⟨m,hm,k+1,h1,h2,h3,AL,rfl,trivial⟩
  have hna:E8 (s.extract 0 k)=true:=BM hy;refine AB ?_;refine EU 2 (fun F' H'=>F' 0=.str s/\F' 3=.n (k:Nat)/\H'=H/\∀j,j<8->s≠elN (s.extract 0 k) j) (fun F' H'=>F' 2=.bool (JQ s).isSome/\H'=H) ?_ ?_ ?_
  .refine BK (fun n' F' H'=>∃i,n'+i=8/\(∀j,j<i->j<8->s≠elN (s.extract 0 k) j)/\F' 0=.str s/\F' 3=.n (k:Nat)/\F' 4=.n (i:Nat)/\H'=H) 8 ⟨0,BA,fun j hj=>absurd hj U,EI f0,EI f3,AQ,rfl⟩ ?_
   clear f0 f3;rintro n' F H ⟨i,hi,hbi,f0,f3,f4,rfl⟩;refine A7 f4 ?_;refine BO ?_ ?_<;>intro hc
   .have hi':i<8:=by simp at hc;omega
    simp only[vQ,zX,qA,CP,UK,↓reduceIte,jC,enP,f0,f3,f4,mE (Nat.le_of_lt hk')];refine(oP G (s.extract 0 k) i hi' _ (by simp [ByteArray.size_extract];omega)).uu ?_;refine BO ?_ ?_<;>intro hp
    .refine AB ?_
     refine⟨?_,trivial⟩;have:=(AFD _ _).1 hp;rw[this,uI hi' hna];rfl
    .refine BB f4 (DC i) ?_
     refine⟨n'-1,U,i+1,U,fun j hj h8=>?_,AL,AL,rfl,trivial⟩;rcases zB j i with h1|h1
     .exact hbi j h1 h8
     .obtain rfl:j=i:=U
      intro e;rw[(AFD _ _).2 e] at hp;cases hp
   .have hi':8<=i:=by simp at hc;omega
    refine AB ?_;exact⟨f0,f3,trivial,fun j hj=>hbi j U hj⟩
  .rintro F' H' ⟨g0,g3,rfl,hno⟩
   refine BB g3 (DC k) ?_
   obtain⟨m,hm,k',h1,h2,h3,rfl⟩:=hnext F' g0 g3 (fun a j hj ha hs e=>by
    refine hno j hj ?_
    rw[e,<-hs,yT])
   exact⟨m,hm,k+1,h1,h2,h3,AL,rfl,trivial⟩
  .rintro F' H' ⟨g2,rfl⟩
   refine A7 g2 ?_;exact H7
 .refine AB ?_
  refine⟨?_,trivial⟩;rcases hcase:JQ s with _|⟨a,d⟩
  .rfl
  .exfalso
   obtain⟨c1,c2,c3,c4,c5⟩:=MN hcase;refine hb ⟨a.toArray⟩ _ c2 c3 ?_ c4;rw[szl];omega
def PP (l:List Vr)(s:ByteArray):Bool:=match JQ s with
 | some (a,d)=>decide (1<=d.toNat-48)&&decide (plc l (elN ⟨a.toArray⟩ (d.toNat-48-1))<0)
 | none=>false
theorem AT5 (h:E8 s=true):(Lib.cut s.data.toList [91]).2.2=false:=by
 obtain⟨_,hne⟩:=QV (l:=s.data.toList) (by rw[AFH];exact h)
 have:Lib.index s.data.toList [91] = -1:=Lib.index_none fun j _=>by
  rw[<-Bool.not_eq_true];intro ho;have:=Lib.occAt_head rfl ho;exact hne 91 (zZ this) rfl
 unfold Lib.cut;rw[this,if_neg U]
theorem AT6 {a:List UInt8}{d:UInt8}(h:JQ s=some (a,d)):(Lib.cut s.data.toList [91]).1=a/\(Lib.cut s.data.toList [91]).2.2=true:=by
 rw[oR] at h;split at h
 case isFalse=>cases h
 rename_i hc;split at h
 case h_2=>cases h
 split at h
 case isFalse=>cases h
 cases h;exact⟨rfl,(Bool.and_eq_true_iff.1 hc).1⟩
theorem AS0 (hG:GOk G)(l:List Vr)(m:SM)(s:ByteArray)(h:Hp)(hl:l.length<=1099511627776)(hs:s.size<=1048576)(hv:FX s=true):PCall (En G) 153 [.sl m 4 (l.map encV),.str s] h (.bool (PP l s)):=by
 refine acT Tryz.func153 4 ?_;refine AB ?_;refine(oW G hG s h hs).use ?_;unfold cutV;rcases hcase:JQ s with _|⟨a,d⟩
 .have hn:E8 s=true:=by
   unfold FX at hv;rw[hcase] at hv;simpa using hv
  have hg:PP l s=false:=by unfold PP;rw[hcase]
  rw[AT5 hn,hg];refine AB ?_;exact H7
 obtain⟨e1,e2⟩:=AT6 hcase;obtain⟨c1,c2,c3,c4,c5⟩:=MN hcase;have hg:PP l s=(decide (1<=d.toNat-48)&&decide (plc l (elN ⟨a.toArray⟩ (d.toNat-48-1))<0)):=by unfold PP;rw[hcase]
 rw[e1,e2,hg];clear hg hcase e1 e2
 generalize d.toNat-48=q at c2 c4|-
 refine AB ?_;refine BK (fun n F H=>∃k,n+k=8/\1<=k/\(∀j,1<=j->j<k->j≠q)/\F 0=.sl m 4 (l.map encV)/\F 1=.str s/\F 5=.str ⟨a.toArray⟩/\F 8=.n (k:Nat)/\H=h) 7 ⟨1,BA,U,fun j h1 h2=>absurd h2 U,AQ,AQ,AQ,AQ,rfl⟩ ?_;rintro n F H ⟨k,hk,hk1,hb,f0,f1,f5,f8,rfl⟩;refine A7 f8 ?_;refine BO ?_ ?_<;>intro hc
 .have hk':k<8:=by simp at hc;omega
  refine DW f1 f5 f8 ?_;refine(gL G ⟨a.toArray⟩ k hk' H (by rw[szl];omega)).use ?_;refine A7 f1 ?_;refine BO ?_ ?_<;>intro hp
  .have hq:k=q:=by
    have:=(AFD _ _).1 hp;rw[c4] at this;exact(yS c2 hk' this).symm
   have hw:IntKind.i64.wrap (((k:Nat):Int)-1)=((k-1:Nat):Int):=by rw[wrap_i64 U U];omega
   refine ES f0 f5 f8 hw ?_;refine(gL G ⟨a.toArray⟩ (k-1) U H (by rw[szl];omega)).use ?_;refine A7 f0 ?_;refine(index_prog G l m _ H hl).uu ?_;refine⟨?_,trivial⟩;rw[<-hq,decide_eq_true hk1,wG]
  .refine BB f8 (DC k) ?_
   refine⟨n-1,U,k+1,U,U,fun j h1 h2=>?_,AL,AL,AL,rfl,trivial⟩;rcases zB j k with h3|h3
   .exact hb j h1 h3
   .obtain rfl:j=k:=U
    intro e;rw[(AFD _ _).2 (by rw[c4,e])] at hp;cases hp
 .refine AB ?_
  have hk':8<=k:=by simp at hc;omega
  refine⟨?_,trivial⟩;have:¬1<=q:=fun h1=>hb q h1 U rfl
  rw[decide_eq_false this,Bool.false_and]
theorem AUU (hk:k<s.size):s.data.toList[k]?=some s[k]:=by
 have h2:s.data[k]?=some s[k]:=Array.getElem?_eq_getElem hk;rw[Array.getElem?_toList];exact h2
theorem A8J (hv:FX s=true)(hk:k<s.size)(hb:s[k]=91):∃a d,JQ s=some (a,d)/\k=a.length/\s.extract 0 k=⟨a.toArray⟩:=by
 have hg:=AUU hk;rw[hb] at hg;rcases hcase:JQ s with _|⟨a,d⟩
 .exfalso
  have hn:E8 s=true:=by unfold FX at hv;rw[hcase] at hv;simpa using hv
  exact(QV (l:=s.data.toList) (by rw[AFH];exact hn)).2 91 (zZ hg) rfl
 .obtain⟨c1,c2,c3,c4,c5⟩:=MN hcase
  refine⟨a,d,rfl,?_⟩;have hna:=(QV c3).2;rw[c4,NU] at hg
  have hkk:k=a.length:=by
   rcases Nat.lt_trichotomy k a.length with h1|h1|h1
   .grind
   .exact h1
   .exfalso
    rw[wS LD] at hg;simp only at hg;obtain⟨j,hj⟩:∃j,k-a.length=j+1:=⟨k-a.length-1,U⟩;rw[hj,List.getElem?_cons_succ] at hg;have:j=0\/j=1:=U;rcases this with rfl|rfl
    .simp_all
    .simp_all
  refine⟨hkk,?_⟩;have:=yT ⟨a.toArray⟩ (d.toNat-48);rw[szl,<-c4,<-hkk] at this;exact this
theorem AYM (l:List Vr)(m:SM)(h:Hp)(hl:l.length<=1048576)(hv:∀v∈l,FX v.name=true/\v.name.size<=1048576):PCall (En G) 193 [.sl m 4 (l.map encV)] h (.bool (l.any fun v=>PP l v.name)):=by
 refine acT Tryz.func193 2 ?_;refine AB ?_;refine BK (fun n F H=>∃i,n+i=l.length/\(∀(j:Nat) (hj:j<i) (hl:j<l.length),PP l l[j].name=false)/\F 0=.sl m 4 (l.map encV)/\F 3=.n (i:Nat)/\H=h) l.length ⟨0,BA,fun j hj=>absurd hj U,AQ,AQ,rfl⟩ ?_;rintro n F H ⟨i,hi,hb,f0,f3,rfl⟩;refine BB f0 f3 ?_;refine BO ?_ ?_<;>intro hc
 .have hi':i<l.length:=BM hc
  obtain⟨hvi,hsz⟩:=hv _ (jG hi');have l0:BI jA H 9 (.fptr 4 (l.map encV) i 0)=some (.str l[i].name):=by rw[CW ag9 hi'];rfl
  have hany:PP l l[i].name=true->(l.any fun v=>PP l v.name)=true:=fun hg=>qL.2 ⟨_,jG hi',hg⟩
  generalize hs:l[i].name=s at hvi hsz l0 hany;refine AB ?_;refine EU 2 (fun F' H'=>F' 0=.sl m 4 (l.map encV)/\F' 3=.n (i:Nat)/\H'=H/\PP l s=false) (fun F' H'=>F' 2=.bool (l.any fun v=>PP l v.name)/\H'=H) ?_ ?_ ?_
  .refine BK (fun n' F' H'=>∃k,1<=k/\n'+k=s.size+1/\(∀a d,JQ s=some (a,d)->a.length<k->PP l s=false)/\F' 0=.sl m 4 (l.map encV)/\F' 3=.n (i:Nat)/\F' 4=.n (k:Nat)/\H'=H) s.size ⟨1,U,U,fun a d ha h1=>?_,EI f0,EI f3,AQ,rfl⟩ ?_
   .exfalso
    have:=(QV (MN ha).2.2.1).1;have:=qX.2 this;omega
   clear f0 f3;rintro n' F H ⟨k,hk1,hk,hbk,f0,f3,f4,rfl⟩;refine aT f0 f3 f4 hi' l0 ?_;refine D9 ?_ ?_<;>intro hk'
   .refine aS f0 f3 f4 hi' l0 (ix9 s k .i64 hk') ?_
    refine BO ?_ ?_<;>intro hx
    .refine BB f4 (DC k) ?_
     refine⟨n'-1,U,k+1,U,U,fun a d ha h1=>?_,f0,f3,rfl,trivial⟩;rcases zB a.length k with h2|h2
     .exact hbk a d ha h2
     .exfalso
      obtain⟨c1,c2,c3,c4,c5⟩:=MN ha
      have h3:s[k]=91:=by
       have h4:s.data.toList[k]?=some 91:=by
        rw[c4,NU,wS LD];have:k-(⟨a.toArray⟩:ByteArray).data.toList.length=0:=by simp;omega
        rw[this];rfl
       rw[AUU hk'] at h4;exact Option.some.inj h4
      rw[h3] at hx
      revert hx;decide
    have hbr:s[k]=91:=by
     have h0:((s[k].toNat:Int)==91)=true:=by
      simpa [bne] using hx
     have h1:(s[k].toNat:Int)=91:=BM h0;exact UInt8.toNat_inj.1 (by show _=91;omega)
    obtain⟨a,d,ha,hka,hext⟩:=A8J hvi hk' hbr;obtain⟨c1,c2,c3,c4,c5⟩:=MN ha;have hgv:PP l s=(decide (1<=d.toNat-48)&&decide (plc l (elN ⟨a.toArray⟩ (d.toNat-48-1))<0)):=by unfold PP;rw[ha]
    have hasz:(⟨a.toArray⟩:ByteArray).size<=1048576:=by rw[szl];omega
    generalize d.toNat-48=q at c2 c4 hgv;refine AB ?_;refine EU 4 (fun F' H'=>F' 0=.sl m 4 (l.map encV)/\F' 3=.n (i:Nat)/\F' 4=.n (k:Nat)/\H'=H/\PP l s=false) (fun F' H'=>F' 2=.bool (l.any fun v=>PP l v.name)/\H'=H) ?_ ?_ ?_
    .refine BK (fun n2 F' H'=>∃t,1<=t/\n2+t=8/\(1<=q->q<t->PP l s=false)/\F' 0=.sl m 4 (l.map encV)/\F' 3=.n (i:Nat)/\F' 4=.n (k:Nat)/\F' 5=.n (t:Nat)/\H'=H) 7 ⟨1,U,U,fun h1 h2=>absurd h2 U,EI f0,EI f3,EI f4,AQ,rfl⟩ ?_
     clear f0 f3 f4;rintro n2 F H ⟨t,ht1,ht,hbt,f0,f3,f4,f5,rfl⟩;refine A7 f5 ?_;refine BO ?_ ?_<;>intro hc
     .have ht':t<8:=by simp at hc;omega
      have hw:IntKind.i64.wrap (((t:Nat):Int)-1)=((t-1:Nat):Int):=by rw[wrap_i64 U U];omega
      refine AB ?_;refine D6 AZ ?_;simp only[vQ,zX,qA,OT,cS,O9,NW,UK,↓reduceIte,jC,jT,enP,ZZ,ZN,f0,f3,f4,f5,CZ hi',l0,mE (Nat.le_of_lt hk'),hext];refine⟨_,oP G ⟨a.toArray⟩ t ht' _ hasz,?_⟩;refine AB ?_
      have nxt:PP l s=false\/t≠q->∃m',m'<n2/\∃t',1<=t'/\m'+t'=8/\(1<=q->q<t'->PP l s=false)/\t'=t+1:=fun hh =>
       ⟨n2-1,U,t+1,U,U,fun h1 h2=>by
        rcases hh with hh|hh
        .exact hh
        .exact hbt h1 U,rfl⟩
      refine A2C ?_ ?_<;>intro hp
      .have hq:t=q:=by
        have:=(AFD _ _).1 hp;rw[c4] at this;exact(yS c2 ht' this).symm
       simp only[vQ,zX,qA,ND,Q3,eW,OT,cS,O9,NW,EM,UK,P9,↓reduceIte,jC,jT,enP,ZZ,ZN,hp,f0,f3,f4,f5,CZ hi',l0,mE (Nat.le_of_lt hk'),hext,hw];refine⟨_,oP G ⟨a.toArray⟩ (t-1) U _ hasz,?_⟩
       try refine A7 hp ?_
       refine⟨_,bQ G l m _ _ U,?_⟩;refine A7 hp ?_;refine BO ?_ ?_<;>intro hz
       .refine AB ?_
        refine⟨?_,trivial⟩;rw[hany];rw[hgv,<-hq,decide_eq_true ht1,hz];rfl
       .refine BB f5 (DC t) ?_
        obtain⟨m',hm,t',h1,h2,h3,rfl⟩:=nxt (.inl (by rw[hgv,<-hq,hz,Bool.and_false]));exact⟨m',hm,t+1,h1,h2,h3,f0,f3,f4,rfl,trivial⟩
      .refine DW hp f5 (DC t) ?_
       obtain⟨m',hm,t',h1,h2,h3,rfl⟩:=nxt (.inr (fun e=>by
        rw[(AFD _ _).2 (by rw[c4,e])] at hp
        cases hp))
       exact⟨m',hm,t+1,h1,h2,h3,f0,f3,f4,rfl,trivial⟩
     .have ht':8<=t:=by simp at hc;omega
      refine AB ?_;refine⟨f0,f3,f4,trivial,?_⟩;rcases zB q 1 with h1|h1
      .simp_all
      .exact hbt h1 U
    .rintro F' H' ⟨g0,g3,g4,rfl,hno⟩
     refine BB g4 (DC k) ?_;exact⟨n'-1,U,k+1,U,U,fun _ _ _ _=>hno,g0,g3,rfl,trivial⟩
    .rintro F' H' ⟨g2,rfl⟩
     refine A7 g2 ?_;exact H7
   .refine AB ?_
    refine⟨f0,f3,trivial,?_⟩;rcases hcase:JQ s with _|⟨a,d⟩
    .unfold PP;rw[hcase]
    .exact hbk a d hcase (by have:=(MN hcase).2.2.2.2;omega)
  .rintro F' H' ⟨g0,g3,rfl,hno⟩
   refine BB g3 (DC i) ?_;refine⟨n-1,U,i+1,U,fun j hj hl=>?_,g0,rfl,trivial⟩;rcases zB j i with h1|h1
   .exact hb j h1 hl
   .grind
  .rintro F' H' ⟨g2,rfl⟩
   refine A7 g2 ?_;exact H7
 .refine AB ?_
  have hi':¬i<l.length:=BM hc;refine⟨?_,trivial⟩
  have:(l.any fun v=>PP l v.name)=false:=by
   rw[qO];intro v hv;obtain⟨j,hj,rfl⟩:=qF hv;rw[hb j U hj];decide
  rw[this]
def fstE {α:Type}(f:α->Int):List α->Int
 | []=>0
 | x::r=>if f x≠0 then f x else fstE f r
theorem TP {α:Type}(f:α->Int):∀(xs:List α) (k:Nat) (hk:k<xs.length),(∀(j:Nat) (hj:j<k),f (xs[j]'U)=0)->f xs[k]≠0->fstE f xs=f xs[k]
 | x::r,0,_,_,h=>by
   have h:f x≠0:=h;show(if f x≠0 then f x else fstE f r)=f x;rw[if_pos h]
 | x::r,k+1,hk,hb,h=>by
   have h0:f x=0:=hb 0 U;have ih:=TP f r k (BM hk) (fun j hj=>hb (j+1) U) h;show(if f x≠0 then f x else fstE f r)=f (r[k]'(BM hk));rw[if_neg (by simp [h0]),ih]
theorem QL {α:Type}(f:α->Int):∀xs:List α,(∀(j:Nat) (hj:j<xs.length),f xs[j]=0)->fstE f xs=0
 | [],_=>rfl
 | x::r,hb=>by
   have h0:f x=0:=hb 0 BA;show(if f x≠0 then f x else fstE f r)=0;rw[if_neg (by simp [h0]),QL f r fun j hj=>hb (j+1) (BM hj)]
theorem fstE_zero {α:Type}{f:α->Int}:∀ {xs:List α},fstE f xs=0->∀x∈xs,f x=0
 | y::r,h,x,hx=>by
   have h1:(if f y≠0 then f y else fstE f r)=0:=h;split at h1
   .rename_i hy;exact absurd h1 hy
   .rename_i hy
    rcases zN.1 hx with rfl|hx
    .simpa using hy
    .exact fstE_zero h1 x hx
def OI (v:Vr):Bool:=decide (v.width<1)||decide (v.width>8)||decide (v.mode<0)||decide (v.mode>2)||decide (v.value<0)||decide (v.value≥2^v.width.toNat)||(!(v.mode==0) && !(v.value==0))
def vrE (v:Vr):Int:=if FX v.name=true then if OI v=true then 1 else 0 else 7
theorem A56:∀n:Nat,n<=8->IG jA 3 .shl (.n 1) (.n (n:Nat))=some (.n (2^n))
 | 0,_=>AZ
 | 1,_=>AZ
 | 2,_=>AZ
 | 3,_=>AZ
 | 4,_=>AZ
 | 5,_=>AZ
 | 6,_=>AZ
 | 7,_=>AZ
 | 8,_=>AZ
 | n+9,h=>absurd h U
theorem shl_w {w:Int}(h0:¬w<1)(h1:¬w>8):IG jA 3 .shl (.n 1) (.n w)=some (.n (2^w.toNat)):=by
 obtain⟨n,rfl⟩:=Int.eq_ofNat_of_zero_le (U:0<=w);exact A56 n U
theorem vG (v:Vr)(h:Hp)(hs:v.name.size<=1048576):PCall (En G) 191 [.agg (encV v)] h (.n (vrE v)):=by
 refine ACalls.pure0 rfl ?_;refine acT Tryz.func191 2 ?_;refine O7 @bxV @encV0 ?_;refine(APP G v.name _ hs).use ?_;cases hn:FX v.name
 .refine AB ?_
  exact⟨by unfold vrE;rw[hn];rfl,_,rfl⟩
 refine aU @encV1 ?_;have fin:∀b,OI v=b->vrE v=if b=true then 1 else 0:=fun b hb=>by unfold vrE;rw[hn,hb];rfl
 cases b1:decide (v.width<1)
 case true =>
  refine A7 b1 ?_;exact⟨by rw[fin true (by unfold OI;rw[b1];simp)];rfl,_,rfl⟩
 refine O7 b1 @encV1 ?_;cases b2:decide (v.width>8)
 case true =>
  refine A7 b2 ?_;exact⟨by rw[fin true (by unfold OI;rw[b2];simp)];rfl,_,rfl⟩
 refine O7 b2 @encV2 ?_;cases b3:decide (v.mode<0)
 case true =>
  refine A7 b3 ?_;exact⟨by rw[fin true (by unfold OI;rw[b3];simp)];rfl,_,rfl⟩
 refine O7 b3 @encV2 ?_;cases b4:decide (v.mode>2)
 case true =>
  refine A7 b4 ?_;exact⟨by rw[fin true (by unfold OI;rw[b4];simp)];rfl,_,rfl⟩
 refine O7 b4 @encV3 ?_;cases b5:decide (v.value<0)
 case true =>
  refine A7 b5 ?_;exact⟨by rw[fin true (by unfold OI;rw[b5];simp)];rfl,_,rfl⟩
 refine A7 b5 ?_;have hw1:¬v.width<1:=BM b1;have hw2:¬v.width>8:=BM b2;have hv0:¬v.value<0:=BM b5;have hsh:=shl_w hw1 hw2;have fin2:∀b,(decide (v.value≥2^v.width.toNat)||(!(v.mode==0) && !(v.value==0)))=b->vrE v=if b=true then 1 else 0:=fun b hb=>fin b (by unfold OI;rw[b1,b2,b3,b4,b5];simpa using hb)
 refine D6 AZ ?_;have hp:(0:Int)<2^v.width.toNat:=Int.pow_pos DT;cases b6:(v.mode==0)<;>cases b7:(v.value==0)<;>cases b8:decide (v.value≥2^v.width.toNat)
 all_goals
  simp only[vQ,ND,Q3,eW,pX,AF4,AVM,A0K,XQ,OT,LG,EM,CP,FZ,J7,MO,↓reduceIte,jC,jT,qP,enP,SS,UW,WU,D7 ag3,encV1,encV2,encV3,hsh,b6,b7,b8,bne];refine⟨?_,_,rfl⟩;rw[fin2 _ rfl,b6,b7,b8]
  first
   | rfl
   | (exfalso
      simp at b7 b8
      omega)
def yV (l:List Vr):Bool:=decide (∃i:Fin l.length,0<=plc (l.take i.1) (l[i.1]).name)
def J5 (l:List Vr):Int:=(l.map fun v=>if v.mode=0 then 0 else v.width).sum
def KO (l:List Vr):Int:=if l.length>16 then 2 else if fstE vrE l≠0 then fstE vrE l else if yV l=true then 8 else if(l.any fun v=>PP l v.name)=true then 10 else if J5 l>20 then 2 else 0
theorem AC3 (v:Vr):NE v.name v=true:=by unfold NE;simp
theorem ACH {l:List Vr}(hi:i<l.length):(plc l l[i].name≠(i:Int))↔0<=plc (l.take i) l[i].name:=by
 constructor
 .intro h
  rcases Classical.em (0<=plc (l.take i) l[i].name) with h1|h1
  .exact h1
  .exfalso
   refine h (RD _ l i hi (fun j hj=>?_) (AC3 _));refine fS (NE l[i].name) (l.take i) (by unfold plc at h1;omega) _ ?_;have:(l.take i)[j]'(by rw[jZ];omega)=l[j]:=List.getElem_take;rw[<-this];exact jG _
 .intro h e
  obtain⟨k,hk,_,h2,h3⟩:=VJ (NE l[i].name) (l.take i) h;rw[jZ] at hk;rw[List.getElem_take] at h2;have h0:0<=plc l l[i].name:=by rw[e];omega
  obtain⟨k',hk',e1,_,e3⟩:=VJ (NE l[i].name) l h0
  have:k'=i:=by
   have e1:plc l l[i].name=(k':Int):=e1;omega
  have:=e3 k U;rw[this] at h2;cases h2
theorem AEL {l:List Vr}(hi:i<l.length)(h:0<=plc (l.take i) l[i].name):yV l=true:=decide_eq_true ⟨⟨i,hi⟩,h⟩
theorem uJ {l:List Vr}(h:∀(i:Nat) (hi:i<l.length),plc (l.take i) l[i].name<0):yV l=false:=decide_eq_false fun⟨i,hi⟩=>by have:=h i.1 i.2;omega
theorem cC {l:List Vr}(hi:i<l.length):J5 (l.take (i+1))=J5 (l.take i)+(if l[i].mode=0 then 0 else l[i].width):=by
 unfold J5;rw[jU hi,qU,List.sum_append];simp
theorem pH (l:List Vr)(hw:∀v∈l,vrE v=0):∀i,i<=l.length->0<=J5 (l.take i)/\J5 (l.take i)<=8*i
 | 0,_=>by simp [J5]
 | i+1,h=>by
   have ih:=pH l hw i U;rw[cC (U:i<l.length)];have:=hw _ (jG (U:i<l.length));unfold vrE at this;split at this
   .split at this
    .cases this
    .rename_i hb
     have:OI l[i]=false:=BM hb;unfold OI at this;simp only[Bool.or_eq_false_iff,decide_eq_false_iff_not] at this;split<;>omega
   .cases this
theorem al61 (h:Hp):GH jA h 131=some (.ptr h.length 0 0,h++[yE 4 [[.str ⟨#[]⟩,.n 0,.n 0,.n 0]]]):=FB (row:=[.str ⟨#[]⟩,.n 0,.n 0,.n 0]) AZ
theorem st61 (h:Hp)(v:Vr):DU jA (h++[yE 4 [[.str ⟨#[]⟩,.n 0,.n 0,.n 0]]]) 131 (.ptr h.length 0 0) (.agg (encV v))=some (h++[yE 4 [encV v]]):=by
 rw[IR (cs:=encV v) (row:=[.str ⟨#[]⟩,.n 0,.n 0,.n 0]) rfl iL (AX _ _) (by exact jF 4),JZ];rfl
theorem ldV {l:List Vr}(hi:i<l.length):BI jA h 131 (.fptr 4 (l.map encV) i 0)=some (.agg (encV l[i])):=DJ AFT iL encV_len hi
theorem A92 {l:List Vr}{m:SM}(hi:i<=l.length):∃m',IE jA h 22 (.sl m 4 (l.map encV)) none (some (.n (i:Nat))) none=some (.sl m' 4 ((l.take i).map encV)):=by
 have hs:szO jA 131=some 4:=iL;exact⟨AO4 m i (l.map encV).length,by rw[AJK A90 hs (by rw[jP];exact hi),List.map_take]⟩
theorem rC (l:List Vr)(m:SM)(h:Hp)(hl:l.length<=1048576)(hs:∀v∈l,v.name.size<=1048576):PCall (En G) 104 [.sl m 4 (l.map encV)] h (.n (KO l)):=by
 refine acT Tryz.func104 2 ?_;refine AB ?_;refine BO ?_ ?_<;>intro hc
 .refine AB ?_
  exact⟨by unfold KO;rw[if_pos (by simp at hc;omega)],trivial⟩
 have hlen:¬l.length>16:=by simp at hc;omega
 refine AB ?_;refine EU 0 (fun F H=>F 0=.sl m 4 (l.map encV)/\F 3=.n (J5 l)/\H=h/\fstE vrE l=0) (fun F H=>F 2=.n (KO l)/\H=h) ?_ ?_ ?_
 .refine BK (fun n F H=>∃i,n+i=l.length/\(∀(j:Nat) (hj:j<i) (hl:j<l.length),vrE l[j]=0)/\F 0=.sl m 4 (l.map encV)/\F 3=.n (J5 (l.take i))/\F 4=.n (i:Nat)/\H=h) l.length ⟨0,BA,fun j hj=>absurd hj U,AQ,AQ,AQ,rfl⟩ ?_
  rintro n F H ⟨i,hi,hb,f0,f3,f4,rfl⟩;refine BB f0 f4 ?_;refine D9 ?_ ?_<;>intro hi'
  .simp only[vQ,CP,↓reduceIte,jC,enP,ZZ,f0,f4,CZ hi',ldV hi']
   refine(vG G l[i] H (hs _ (jG hi'))).uu ?_;refine BO ?_ ?_<;>intro he
   .refine AB ?_
    have he':vrE l[i]≠0:=by simpa [bne] using he
    refine⟨?_,trivial⟩;have:=TP vrE l i hi' (fun j hj=>hb j hj U) he';unfold KO;rw[if_neg hlen,this,if_pos he']
   .have he':vrE l[i]=0:=by simpa [bne] using he
    have hb2:∀(j:Nat) (hj:j<i+1) (hl:j<l.length),vrE l[j]=0:=fun j hj hl=>by
     rcases zB j i with h1|h1
     .exact hb j h1 hl
     .grind
    have hbt:=cC hi'
    have hbd:0<=J5 (l.take (i+1))/\J5 (l.take (i+1))<=8*((i+1:Nat):Int):=by
     have:=pH (l.take (i+1)) (fun v hv=>by
      obtain⟨j,hj,rfl⟩:=qF hv;rw[jZ] at hj
      rw[List.getElem_take];exact hb2 j U U) (i+1) (by rw[jZ];omega)
     rw[List.take_take,Nat.min_self] at this;exact this
    have l2:BI jA H 3 (.fptr 4 (l.map encV) i 2)=some (.n l[i].mode):=by rw[CW ag3 hi'];rfl
    have l1:BI jA H 3 (.fptr 4 (l.map encV) i 1)=some (.n l[i].width):=by rw[CW ag3 hi'];rfl
    refine QD f0 f4 hi' l2 ?_;refine BO ?_ ?_<;>intro hm
    .have hm':¬l[i].mode=0:=by simpa [bne] using hm
     rw[if_neg hm'] at hbt;have hw:IntKind.i64.wrap (J5 (l.take i)+l[i].width)=J5 (l.take (i+1)):=by rw[hbt,wrap_i64 U U]
     refine NJ f0 f3 f4 hi' l1 hw (DC i) ?_;refine⟨n-1,U,i+1,U,hb2,AL,rfl,rfl,trivial⟩
    .have hm':l[i].mode=0:=by simpa [bne] using hm
     rw[if_pos hm',Int.add_zero] at hbt;refine BB f4 (DC i) ?_;refine⟨n-1,U,i+1,U,hb2,AL,by rw[hbt];exact f3,rfl,trivial⟩
  .refine AB ?_
   refine⟨f0,?_,trivial,QL vrE l fun j hj=>hb j U hj⟩;rw[jJ U] at f3;exact f3
 .rintro F H ⟨f0,f3,rfl,hz⟩
  have hall:=fstE_zero hz
  have hnm:∀v∈l,FX v.name=true/\v.name.size<=1048576:=by
   intro v hv;have:=hall v hv;unfold vrE at this;split at this
   .rename_i hn;exact⟨hn,hs v hv⟩
   .cases this
  have hv1:∀b,yV l=b->KO l=if b=true then 8 else if(l.any fun v=>PP l v.name)=true then 10 else if J5 l>20 then 2 else 0:=fun b hb=>by
   unfold KO;rw[if_neg hlen,if_neg (by simp [hz]),hb]
  refine AB ?_;refine EU 2 (fun F' H'=>F' 0=.sl m 4 (l.map encV)/\F' 3=.n (J5 l)/\H'=H/\yV l=false) (fun F' H'=>F' 2=.n (KO l)/\H'=H) ?_ ?_ ?_
  .refine BK (fun n F' H'=>∃i,n+i=l.length/\(∀(j:Nat) (hj:j<i) (hl:j<l.length),plc (l.take j) l[j].name<0)/\F' 0=.sl m 4 (l.map encV)/\F' 3=.n (J5 l)/\F' 6=.n (i:Nat)/\H'=H) l.length ⟨0,BA,fun j hj=>absurd hj U,EI f0,EI f3,AQ,rfl⟩ ?_
   clear f0 f3;rintro n F H ⟨i,hi,hb,f0,f3,f6,rfl⟩;refine BB f0 f6 ?_;refine D9 ?_ ?_<;>intro hi'
   .have l0:BI jA H 9 (.fptr 4 (l.map encV) i 0)=some (.str l[i].name):=by rw[CW ag9 hi'];rfl
    obtain⟨m',ht⟩:=A92 (h:=H) (m:=m) (Nat.le_of_lt hi');refine AB ?_;refine D6 AZ ?_;refine aS @cS f0 f6 ht hi' l0 ?_;refine⟨_,bQ G (l.take i) m' l[i].name _ (by rw[jZ];omega),?_⟩;refine AB ?_;refine BO ?_ ?_<;>intro he
    .refine AB ?_
     refine⟨?_,trivial⟩;rw[hv1 true (AEL hi' (BM he))];rfl
    .refine BB f6 (DC i) ?_
     refine⟨n-1,U,i+1,U,fun j hj hl=>?_,f0,f3,rfl,trivial⟩;rcases zB j i with h1|h1
     .exact hb j h1 hl
     .grind
   .refine AB ?_
    exact⟨f0,f3,trivial,uJ fun j hj=>hb j U hj⟩
  .rintro F' H' ⟨g0,g3,rfl,hd⟩
   have hv2:=hv1 _ hd;refine A7 g0 ?_;refine(AYM G l m _ hl hnm).uu ?_;refine BO ?_ ?_<;>intro hg
   .refine AB ?_
    exact⟨by rw[hv2,hg];rfl,trivial⟩
   refine A7 g3 ?_;refine BO ?_ ?_<;>intro hx
   .refine AB ?_
    refine⟨?_,trivial⟩;rw[hv2,hg,if_neg DT,if_neg DT,if_pos (BM hx)]
   .refine AB ?_
    refine⟨?_,trivial⟩;rw[hv2,hg,if_neg DT,if_neg DT,if_neg (BM hx)]
  .rintro F' H' ⟨g2,rfl⟩
   refine A7 g2 ?_;exact H7
 .rintro F H ⟨f2,rfl⟩
  refine A7 f2 ?_;exact H7
theorem A7P (hG:GOk G)(l:List Vr)(m:SM)(v:Vr)(c:Nat)(h:Hp)(hc:h[c]?=some (yE 1 [[.sl m 4 (l.map encV)]]))(hl:l.length<=1048576)(hs:v.name.size<=1048576)(hv:FX v.name=true):
  PCall (En G) 152 ([.agg (encV v)]++[.ptr c 0 0]) h (.bool (PP l v.name)):=by
 refine ACalls.pure0 rfl ?_;refine acT Tryz.func152 3 ?_;have hc':(h++[yE 4 [encV v]])[c]?=_:=AO hc;refine MI @bxV @encV0 (GN WZ hc') ?_;refine(AS0 G hG l m v.name _ U hs hv).uu ?_;exact⟨trivial,_,rfl⟩
theorem AME (hG:GOk G)(l:List Vr)(m:SM)(h:Hp)(hl:l.length<=1048576)(hs:∀v∈l,v.name.size<=1048576):PCall (En G) 78 [.sl m 4 (l.map encV)] h (.n (KO l)):=by
 refine ACalls.pure0 rfl ?_;refine acT Tryz.func78 2 ?_;have hb0:(h++[yE 1 [[.sl m 4 (l.map encV)]]])[h.length]?=some (yE 1 [[.sl m 4 (l.map encV)]]):=AX _ _;refine DW @pF @pF (GN WZ hb0) ?_;refine BO ?_ ?_<;>intro hc
 .refine AB ?_
  exact⟨by unfold KO;rw[if_pos (by simp at hc;omega)],_,rfl⟩
 have hlen:¬l.length>16:=by simp at hc;omega
 refine A7 (GN WZ hb0) ?_;refine EU 0 (fun F H=>F 1=.ptr h.length 0 0/\H[h.length]?=some (yE 1 [[.sl m 4 (l.map encV)]])/\ext h H/\fstE vrE l=0) (fun F H=>F 2=.n (KO l)/\ext h H) ?_ ?_ ?_
 .refine BK (fun n F H=>∃i,n+i=l.length/\(∀(j:Nat) (hj:j<i) (hl:j<l.length),vrE l[j]=0)/\F 1=.ptr h.length 0 0/\F 11=.sl m 4 (l.map encV)/\F 12=.n (l.length:Nat)/\F 13=.n (i:Nat)/\H[h.length]?=some (yE 1 [[.sl m 4 (l.map encV)]])/\ext h H) l.length ⟨0,BA,fun j hj=>absurd hj U,AQ,AQ,AQ,AQ,hb0,⟨_,rfl⟩⟩ ?_
  rintro n F H ⟨i,hi,hb,f1,f11,f12,f13,hH,he⟩;refine BB f12 f13 ?_;refine D9 ?_ ?_<;>intro hi'
  .have hH1:(H++[yE 4 [encV l[i]]])[h.length]?=_:=AO hH
   have hx1:ext h (H++[yE 4 [encV l[i]]]):=he.app _;have ge:=AX H (yE 4 [encV l[i]]);have hsv:=hs _ (jG hi')
   have hstp:∀(n':Nat),vrE l[i]=0->∃m',m'<n/\∃k,m'+k=l.length/\(∀(j:Nat) (hj:j<k) (hl:j<l.length),vrE l[j]=0)/\k=i+1:=fun _ hz =>
    ⟨n-1,U,i+1,U,fun j hj hl=>by
     rcases zB j i with h1|h1
     .exact hb j h1 hl
     .obtain rfl:j=i:=U
      exact hz,rfl⟩
   have hbad:vrE l[i]≠0->KO l=vrE l[i]:=fun hz=>by
    have:=TP vrE l i hi' (fun j hj=>hb j hj U) hz;unfold KO;rw[if_neg hlen,this,if_pos hz]
   simp only[vQ,CP,↓reduceIte,jC,enP,ZZ,ZN,jQ,f11,f13,CZ hi',ldV hi',al61,st61]
   generalize H++[yE 4 [encV l[i]]]=H1 at hH1 hx1 ge|-
   have l0:BI jA H1 9 (.ptr H.length 0 0)=some (.str l[i].name):=by rw[BC ag9 ge (row:=encV l[i]) rfl];rfl
   have l1:BI jA H1 3 (.ptr H.length 0 1)=some (.n l[i].width):=by rw[BC ag3 ge (row:=encV l[i]) rfl];rfl
   have l2:BI jA H1 3 (.ptr H.length 0 2)=some (.n l[i].mode):=by rw[BC ag3 ge (row:=encV l[i]) rfl];rfl
   have l3:BI jA H1 3 (.ptr H.length 0 3)=some (.n l[i].value):=by rw[BC ag3 ge (row:=encV l[i]) rfl];rfl
   generalize hv:l[i]=v at hsv hstp hbad l0 l1 l2 l3;refine A7 l0 ?_;refine(AG4 G hG v.name _ hsv).use ?_;cases hn:FX v.name
   .refine AB ?_
    have:vrE v=7:=by unfold vrE;rw[hn];rfl
    exact⟨by rw[hbad (by rw[this];decide),this],hx1⟩
   have fin:∀b,OI v=b->vrE v=if b=true then 1 else 0:=fun b hb=>by unfold vrE;rw[hn,hb];rfl
   have yes:OI v=true->AV.int .i64 1=AV.int .i64 (KO l):=fun hb=>by
    have:=fin true hb;rw[hbad (by rw[this];decide),this];rfl
   refine AB ?_;refine D6 AZ ?_;cases b1:decide (v.width<1)
   case true =>
    refine BB l1 b1 ?_;exact⟨yes (by unfold OI;rw[b1];simp),hx1⟩
   cases b2:decide (v.width>8)
   case true =>
    refine DW l1 b1 b2 ?_;exact⟨yes (by unfold OI;rw[b2];simp),hx1⟩
   cases b3:decide (v.mode<0)
   case true =>
    refine JI l1 l2 b1 b2 b3 ?_;exact⟨yes (by unfold OI;rw[b3];simp),hx1⟩
   cases b4:decide (v.mode>2)
   case true =>
    refine NY l1 l2 b1 b2 b3 b4 ?_;exact⟨yes (by unfold OI;rw[b4];simp),hx1⟩
   cases b5:decide (v.value<0)
   case true =>
    refine SE l1 l2 l3 b1 b2 b3 b4 b5 ?_;exact⟨yes (by unfold OI;rw[b5];simp),hx1⟩
   have hsh:=shl_w (BM b1) (BM b2);cases b6:decide (v.value≥2^v.width.toNat)
   case true =>
    refine cN l1 l2 l3 hsh b1 b2 b3 b4 b5 b6 ?_;exact⟨yes (by unfold OI;rw[b6];simp),hx1⟩
   cases b7:(v.mode==0)<;>cases b8:(v.value==0)
   case false.false =>
    simp only[vQ,ND,Q3,eW,pX,XQ,OT,LG,kD,AXX,AB0,EM,CP,J6,MO,↓reduceIte,jC,jT,enP,SS,UW,WU,l1,l2,l3,hsh,b1,b2,b3,b4,b5,b6,b7,b8,bne];exact⟨yes (by unfold OI;rw[b7,b8];simp),hx1⟩
   all_goals
    have hz:=fin false (by unfold OI;rw[b1,b2,b3,b4,b5,b6,b7,b8];rfl);obtain⟨m',hm,k,k1,k2,rfl⟩:=hstp 0 hz;simp only[vQ,ND,Q3,eW,pX,AF4,XQ,OT,OW,EM,CP,FZ,J6,MO,↓reduceIte,jC,jT,qP,enP,SS,UW,WU,l1,l2,l3,hsh,b1,b2,b3,b4,b5,b6,b7,b8,bne,f13,DC i];exact⟨m',hm,i+1,k1,k2,AL,AL,AL,rfl,hH1,hx1⟩
  .refine AB ?_
   exact⟨f1,hH,he,QL vrE l fun j hj=>hb j U hj⟩
 .rintro F H ⟨f1,hH,he,hz⟩
  have hall:=fstE_zero hz
  have hnm:∀v∈l,FX v.name=true/\v.name.size<=1048576:=by
   intro v hv;have:=hall v hv;unfold vrE at this;split at this
   .rename_i hn;exact⟨hn,hs v hv⟩
   .cases this
  have hv1:∀b,yV l=b->KO l=if b=true then 8 else if(l.any fun v=>PP l v.name)=true then 10 else if J5 l>20 then 2 else 0:=fun b hb=>by
   unfold KO;rw[if_neg hlen,if_neg (by simp [hz]),hb]
  refine BB f1 (GN WZ hH) ?_;refine EU 2 (fun F' H'=>F' 1=.ptr h.length 0 0/\F' 5=.n (J5 l)/\H'[h.length]?=some (yE 1 [[.sl m 4 (l.map encV)]])/\ext h H'/\yV l=false) (fun F' H'=>F' 2=.n (KO l)/\ext h H') ?_ ?_ ?_
  .refine BK (fun n F' H'=>∃i,n+i=l.length/\(∀(j:Nat) (hj:j<i) (hl:j<l.length),plc (l.take j) l[j].name<0)/\F' 1=.ptr h.length 0 0/\F' 5=.n (J5 (l.take i))/\F' 63=.sl m 4 (l.map encV)/\F' 64=.n (l.length:Nat)/\F' 65=.n (i:Nat)/\H'[h.length]?=some (yE 1 [[.sl m 4 (l.map encV)]])/\ext h H') l.length ⟨0,BA,fun j hj=>absurd hj U,EI f1,AQ,AQ,AQ,AQ,hH,he⟩ ?_
   clear f1 hH he;rintro n F H ⟨i,hi,hb,f1,f5,f63,f64,f65,hH,he⟩;refine BB f64 f65 ?_;refine D9 ?_ ?_<;>intro hi'
   .have hH1:(H++[yE 4 [encV l[i]]])[h.length]?=_:=AO hH
    have hx1:ext h (H++[yE 4 [encV l[i]]]):=he.app _;have ge:=AX H (yE 4 [encV l[i]]);simp only[vQ,CP,↓reduceIte,jC,enP,ZZ,jQ,f63,f65,CZ hi',ldV hi',al61,st61]
    generalize H++[yE 4 [encV l[i]]]=H1 at hH1 hx1 ge|-
    have l0:BI jA H1 9 (.ptr H.length 0 0)=some (.str l[i].name):=by rw[BC ag9 ge (row:=encV l[i]) rfl];rfl
    have l1:BI jA H1 3 (.ptr H.length 0 1)=some (.n l[i].width):=by rw[BC ag3 ge (row:=encV l[i]) rfl];rfl
    have l2:BI jA H1 3 (.ptr H.length 0 2)=some (.n l[i].mode):=by rw[BC ag3 ge (row:=encV l[i]) rfl];rfl
    refine DW f1 (GN WZ hH1) l0 ?_;refine(index_prog G l m l[i].name _ U).uu ?_;refine BO ?_ ?_<;>intro hd
    .refine AB ?_
     refine⟨?_,hx1⟩;rw[hv1 true (AEL hi' ((ACH hi').1 (by simpa [bne] using hd)))];rfl
    have hnd:plc (l.take i) l[i].name<0:=by
     rcases Int.lt_or_le (plc (l.take i) l[i].name) 0 with h1|h1
     .exact h1
     .exact absurd (by simpa [bne] using hd) ((ACH hi').2 h1)
    have hb2:∀(j:Nat) (hj:j<i+1) (hl:j<l.length),plc (l.take j) l[j].name<0:=fun j hj hl=>by
     rcases zB j i with h1|h1
     .exact hb j h1 hl
     .obtain rfl:j=i:=U
      exact hnd
    have hbt:=cC hi';have hbd:=pH l hall (i+1) U;refine A7 l2 ?_;refine BO ?_ ?_<;>intro hm
    .have hm':¬l[i].mode=0:=by simpa [bne] using hm
     rw[if_neg hm'] at hbt;have hw:IntKind.i64.wrap (J5 (l.take i)+l[i].width)=J5 (l.take (i+1)):=by rw[hbt,wrap_i64 U U]
     refine JI f5 f65 l1 hw (DC i) ?_;exact⟨n-1,U,i+1,U,hb2,AL,rfl,AL,AL,rfl,hH1,hx1⟩
    .have hm':l[i].mode=0:=by simpa [bne] using hm
     rw[if_pos hm',Int.add_zero] at hbt;refine BB f65 (DC i) ?_;exact⟨n-1,U,i+1,U,hb2,AL,by rw[hbt];exact f5,AL,AL,rfl,hH1,hx1⟩
   .refine AB ?_
    refine⟨f1,?_,hH,he,uJ fun j hj=>hb j U hj⟩;rw[jJ U] at f5;exact f5
  .rintro F' H' ⟨g1,g5,hH',he',hd⟩
   have hv2:=hv1 _ hd;refine BB g1 (GN WZ hH') ?_;refine(AKT G l m 152 [.ptr h.length 0 0] (fun v=>PP l v.name) H' U fun v hv=>A7P G hG l m v _ _ hH' hl (hnm v hv).2 (hnm v hv).1).uu ?_;refine BO ?_ ?_<;>intro hg
   .refine AB ?_
    exact⟨by rw[hv2,hg];rfl,he'⟩
   refine A7 g5 ?_;refine BO ?_ ?_<;>intro hx
   .refine AB ?_
    refine⟨?_,he'⟩;rw[hv2,hg,if_neg DT,if_neg DT,if_pos (BM hx)]
   .refine AB ?_
    refine⟨?_,he'⟩;rw[hv2,hg,if_neg DT,if_neg DT,if_neg (BM hx)]
  .rintro F' H' ⟨g2,he'⟩
   refine A7 g2 ?_;exact⟨trivial,he'⟩
 .rintro F H ⟨f2,he⟩
  refine A7 f2 ?_;exact⟨trivial,he⟩
theorem ltz_false (i:Nat):decide ((i:Int)<0)=false:=by rw[decide_eq_false_iff_not];omega
theorem frzEx:Frz A8:=fun n h d x=>by
 rw[FI];exact⟨rfl,rfl⟩
def growR_ren:Go.Shelf.Ren:=⟨fun|4=>98|n=>n,fun|22=>23|25=>79|3=>3|4=>4|9=>9|20=>20|0=>0|n=>n,fun|n=>n⟩
theorem growR:Go.Proofs.Lays8.n4 jA growR_ren := {
 mixed:=AZ,
 f4:=⟨Tryz.f98.name,by decide,Tryz.func98.trans (congrArg some AZ)⟩,
 t0:=Tryz.underlying0,
 a0:=Tryz.isAgg0,
 z0:=Tryz.sizeOf0,
 v0:=Tryz.zeroValue0,
 t3:=Tryz.underlying3,
 a3:=Tryz.isAgg3,
 z3:=Tryz.sizeOf3,
 v3:=Tryz.zeroValue3,
 t4:=Tryz.underlying4,
 a4:=Tryz.isAgg4,
 z4:=Tryz.sizeOf4,
 v4:=Tryz.zeroValue4,
 t9:=Tryz.underlying9,
 a9:=Tryz.isAgg9,
 z9:=Tryz.sizeOf9,
 v9:=Tryz.zeroValue9,
 t20:=Tryz.underlying20,
 a20:=Tryz.isAgg20,
 z20:=Tryz.sizeOf20,
 v20:=Tryz.zeroValue20,
 t22:=Tryz.underlying23,
 a22:=Tryz.isAgg23,
 z22:=Tryz.sizeOf23,
 v22:=Tryz.zeroValue23 }
theorem zc_size (z:Array Value)(n:Nat):(Builtin.zeroCells z n).size=n*z.size:=by simp [Builtin.zeroCells]
theorem grow_prog (n:Nat)(hn:n<=1048576)(h:Hp):ACalls (En G) 98 [.sl .nil 0 [],.n (n:Nat)] h fun v H=>(n=0/\v=.sl .nil 0 []/\H=h)\/(0<n/\v=.own h.length 0 0/\H=h++[yE 4 []]):=by
 refine⟨cok 98 G AZ,fun g w cargs S ha=>?_⟩;obtain⟨hsz,hget⟩:=ha
 obtain⟨cv0,cv1,rfl⟩:∃a b,cargs = #[a,b]:=by
  obtain⟨l⟩:=cargs
  match l,hsz with
  | [a,b],_=>exact⟨a,b,rfl⟩
 have r0:=(hget 0 _ cv0 rfl rfl).sl_inv;obtain rfl:=(hget 1 _ cv1 rfl rfl).int_inv
 have hnil:cv0=.slice none 0 0:=by
  cases r0 with
  | nil=>rfl
  | empty _ _ _ _ q=>exact absurd rfl q
  | sl _ _ _ _ _ _ _ _ _ _ _ q=>exact absurd rfl q
 subst hnil;rcases Nat.eq_zero_or_pos n with h0|h0
 .subst h0
  refine(Any8.slices_Grow_room growR none 0 0 0 w (jF _) U U (jF _)).mono ?_;rintro e w' ⟨rfl,rfl⟩;exact .inl ⟨_,_,g,h,rfl,.inl ⟨rfl,rfl,rfl⟩,Gh.le.refl g,S,.fro (.nil 0)⟩
 .have i0:Tryz.prog.info? 79=some Tryz.t79:=AZ
  have hz:Tryz.t79.zero.isSome=true:=AZ;obtain⟨z,hz⟩:=Option.isSome_iff_exists.1 hz;have hs:Tryz.t79.size=4:=AZ;have hb:Tryz.t79.bytes<=64:=jB AZ;have hmul:n*Tryz.t79.bytes<=1048576*64:=Nat.mul_le_mul hn hb
  have hzs:z.cells.size=4:=by
   have h1:(Tryz.t79.zero.map fun z=>z.cells.size)=some 4:=AZ;rw[hz] at h1;simpa using h1
  have hc:=Any8.slices_Grow_grow growR Tryz.t79 z i0 hz (by rw[hs];omega) none 0 0 n [] w (jF _) U (by rw[jH];omega) U BA (fun _=>rfl) (fun a q=>by cases q);refine hc.mono ?_;rintro e w' ⟨rfl,rfl⟩;generalize hG:grownCap w (0+n) 0 (growR_ren.t 25)=cap;have hle:0+n<=cap:=hG▸grownCap_ge w _ _ _;have hgr:Grew w (w.drew.alloc (.cells ((#[]:Array Value)++Builtin.zeroCells z.cells (0+n-0)++Builtin.zeroCells z.cells (cap-(0+n))) (growR_ren.t 25))) (.cells ((#[]:Array Value)++Builtin.zeroCells z.cells (0+n-0)++Builtin.zeroCells z.cells (cap-(0+n))) (growR_ren.t 25) (0,0)):=⟨rfl,rfl,rfl,rfl⟩
  have hsize:((#[]:Array Value)++Builtin.zeroCells z.cells (0+n-0)++Builtin.zeroCells z.cells (cap-(0+n))).size=cap*4:=by
   simp only[Array.size_append,zc_size,hzs,List.size_toArray,List.length_nil];omega
  generalize ((#[]:Array Value)++Builtin.zeroCells z.cells (0+n-0)++Builtin.zeroCells z.cells (cap-(0+n)))=c at hgr hsize;obtain⟨S',hle'⟩:=S.new (k:=4) (xs:=[]) hgr ⟨BA,fun i row h=>by simp at h,fun i j row v h=>by simp at h⟩;refine .inl ⟨_,_,_,_,rfl,.inr ⟨h0,rfl,rfl⟩,hle',S',?_⟩;exact Rep.own h.length 0 0 cap ⟨w.heap.size,0,4,c.size⟩ (by simp [Gh.adopt]) (Nat.zero_le _) (by simp only[hsize];omega)
structure Yx where
 m:SM
 l:List Ex
def uE (y:Yx):List AV:=[.sl y.m 4 (y.l.map A8)]
theorem ATS (y:Yx):(uE y)[0]?=some (.sl y.m 4 (y.l.map A8)):=rfl
def fl (R:List Yx):List Ex:=(R.map Yx.l).flatten
theorem flat_take {R:List Yx}(hi:i<R.length):fl (R.take (i+1))=fl (R.take i)++R[i].l:=by
 unfold fl;rw[jU hi,qU,List.flatten_append];simp
theorem flat_take_le (R:List Yx)(i:Nat):(fl (R.take i)).length<=(fl R).length:=by
 have:fl R=fl (R.take i)++fl (R.drop i):=by unfold fl;rw[<-List.flatten_append,<-qU,yD]
 rw[this,jX];omega
def outK (h:Hp)(ys:List Ex)(v:AV)(H:Hp):Prop:=(v=.sl .nil 0 []/\ys=[])\/∃o,h.length<=o/\v=.own o 0 ys.length/\H[o]?=some (yE 4 (ys.map A8))
theorem outK_app {H:Hp}{xs ys:List Ex}{v:AV}(s:SM)(ho:outK h xs v H)(he:ext h H)(hl:xs.length+ys.length<=8388608):
  ∃v' H',EQ jA true H 23 23 v (.sl s 4 (ys.map A8))=some (v',H')/\outK h (xs++ys) v' H'/\ext h H'/\(v=.sl .nil 0 []->ys=[]->v'=.sl .nil 0 []):=by
 cases ys with
 | nil =>
   refine⟨v,H,?_,by rw[jO];exact ho,he,fun q _=>q⟩;have hcs:I9 H (.sl s 4 [])=some (4,[]):=GK H s 4 [];rcases ho with⟨rfl,rfl⟩|⟨o,h2,rfl,h3⟩
   .simp [EQ,WB,JE,TD,hcs,bump]
   .have hc:I9 H (.own o 0 xs.length)=some (4,xs.map A8):=by rw[JS h3 BA,zU,jJ BA]
    simp [EQ,WB,JE,TD,hc,hcs,bump]
 | cons y ys =>
   have h1:(y::ys).map A8≠[]:=BA;rcases ho with⟨rfl,rfl⟩|⟨o,h2,rfl,h3⟩
   .exact⟨_,_,QZ WB JE eY eM (GK H s 4 ((y::ys).map A8)) h1 (G5 (by simp at hl|-;omega) U),.inr ⟨H.length,he.le,BA,BA⟩,he.app _,fun _ q=>by cases q⟩
   .have hc:I9 H (.own o 0 xs.length)=some (4,xs.map A8):=by rw[JS h3 BA,zU,jJ BA]
    exact⟨_,_,QB WB JE eY eM hc (GK H s 4 ((y::ys).map A8)) h1 (G5 (by simp at hl|-;omega) U),.inr ⟨H.length,he.le,BA,BA⟩,(he.set h2 _).app _,fun q=>by cases q⟩
section
variable (G:Nat->AV)
theorem concat_prog (R:List Yx)(s:SM)(hR:R.length<=1048576)(hl:(fl R).length<=1048576)(h:Hp):PCall (En G) 45 [.sl s 1 (R.map uE)] h (.sl (Cov.nm (fl R)) 4 ((fl R).map A8)):=by
 refine J3 frzEx ?_;refine acT Tryz.func45 2 ?_;refine AB ?_;refine EU 0 (fun F H'=>F 0=.sl s 1 (R.map uE)/\F 3=.n ((fl R).length:Nat)/\H'=h) (fun _ _=>False) ?_ ?_ (fun _ _ q=>q.elim)
 .refine BK (fun n F H'=>∃i,n+i=R.length/\F 0=.sl s 1 (R.map uE)/\F 3=.n ((fl (R.take i)).length:Nat)/\F 9=.sl s 1 (R.map uE)/\F 10=.n (R.length:Nat)/\F 11=.n (i:Nat)/\H'=h) R.length
   ⟨0,BA,AQ,AQ,AQ,AQ,AQ,rfl⟩ ?_
  rintro n F H ⟨i,hi,f0,f3,f9,f10,f11,rfl⟩;refine BB f10 f11 ?_;refine D9 ?_ ?_<;>intro hi'
  .have hfl:=flat_take hi'
   have hle:=flat_take_le R (i+1);rw[hfl,jX] at hle;have hw:IntKind.i64.wrap ((((fl (R.take i)).length:Nat):Int)+((R[i].l.length:Nat):Int))=(((fl (R.take (i+1))).length:Nat):Int):=by rw[hfl,jX,wrap_i64 U U];omega
   refine SE f3 f9 f11 hi' @ATS hw @ltz_false (DC i) ?_;exact⟨n-1,U,i+1,U,AL,AL,AL,AL,AL,AL⟩
  .rw[jJ U] at f3
   refine AB ?_;exact⟨AL,AL,AL⟩
 rintro F H ⟨f0,f3,rfl⟩;refine A7 f3 ?_;refine(grow_prog G (fl R).length hl H).mono ?_;intro v0 H0 hg
 have I0:outK H [] v0 H0/\Sm.ext H H0/\((fl R).length=0->v0=.sl .nil 0 []):=by
  rcases hg with⟨h0,rfl,rfl⟩|⟨h0,rfl,rfl⟩
  .exact⟨.inl ⟨rfl,rfl⟩,ext.rfl' _,fun _=>rfl⟩
  .exact⟨.inr ⟨H.length,jF _,rfl,AX _ _⟩,(ext.rfl' H).app _,fun q=>U⟩
 refine A7 f0 ?_
 refine BK (fun n F H'=>∃i v,n+i=R.length/\F 6=v/\F 25=.sl s 1 (R.map uE)/\F 26=.n (R.length:Nat)/\F 27=.n (i:Nat)/\outK H (fl (R.take i)) v H'/\Sm.ext H H'/\((fl R).length=0->v=.sl .nil 0 [])) R.length
  ⟨0,v0,BA,AQ,AQ,AQ,AQ,by rw[qI];exact I0.1,I0.2.1,I0.2.2⟩ ?_
 clear I0 hg f0 f3;rintro n F H' ⟨i,v,hi,f6,f25,f26,f27,ho,hx,hz⟩;refine BB f26 f27 ?_;refine D9 ?_ ?_<;>intro hi'
 .have hfl:=flat_take hi'
  have hle:=flat_take_le R (i+1);rw[hfl,jX] at hle;obtain⟨v',H2,ha,ho2,hx2,hn2⟩:=outK_app R[i].m ho hx (ys:=R[i].l) U;rw[<-hfl] at ho2;refine NJ f6 f25 f27 hi' @ATS ha (DC i) ?_;exact⟨n-1,U,i+1,v',U,AL,AL,AL,AL,ho2,hx2,fun q=>hn2 (hz q) (List.length_eq_zero_iff.1 U)⟩
 .rw[jJ U] at ho
  refine A7 f6 ?_;refine⟨hx,?_⟩;rcases ho with⟨h1,h2⟩|⟨o,h1,h2,h3⟩
  .exact .inl ⟨h2,h1⟩
  .refine .inr ⟨fun q=>?_,o,h1,h2,h3⟩
   have:=hz (by rw[q];rfl);rw[this] at h2;cases h2
end
def O1 (x:Ex):Bool:=(x.op==3)||(x.op==24)
def PL (l:List Vr)(x:Ex):Bool:=(x.op==2)&&decide (plc l x.name<0)
def sC (e:Ex):Bool:=(pre e).any O1
def nV (l:List Vr)(e:Ex):Bool:=(pre e).any (PL l)
def plE (l:List Vr)(e:Ex):Int:=if sC e=true then 9 else if nV l e=true then 7 else 0
def xpE (l:List Vr)(e:Ex):Int:=if exE e≠0 then exE e else plE l e
def KC (l:List Vr)(xs:List Ex):Int:=fstE (xpE l) xs
theorem fstE_app {α:Type}(f:α->Int):∀xs ys:List α,fstE f (xs++ys)=if fstE f xs≠0 then fstE f xs else fstE f ys
 | [],ys=>by simp [fstE]
 | x::xs,ys=>by
   have ih:=fstE_app f xs ys;show(if f x≠0 then f x else fstE f (xs++ys))=if(if f x≠0 then f x else fstE f xs)≠0 then (if f x≠0 then f x else fstE f xs) else fstE f ys
   rw[ih];by_cases h:f x≠0
   .rw[if_pos h,if_pos h,if_pos h]
   .rw[if_neg h,if_neg h]
section
variable (G:Nat->AV)
theorem AIM (e:Ex):(pre e).length<=1048576->∀h:Hp,PCall (En G) 264 [.agg (A8 e)] h (.bool (sC e)):=by
 induction e using Ex.induct with|h e ih=>?_
 intro hw h;have hpl:=congrArg wH (pre_eq e);rw[zT] at hpl;have hal:e.args.length<=1048576:=by have:=YB e.args;omega
 have hev:sC e=(O1 e||(FM e.args).any O1):=by unfold sC;rw[pre_eq,List.any_cons]
 rw[hev];refine ACalls.pure0 rfl ?_;refine acT Tryz.func264 2 ?_;have ge:=AX h (yE 4 [A8 e]);have hx:=Sm.ext.r1 h (yE 4 [A8 e]);refine A7 @bxE ?_
 generalize h++[yE 4 [A8 e]]=H1 at ge hx|-
 generalize h.length=eb at ge|-
 have l0:BI jA H1 3 (.ptr eb 0 0)=some (.n e.op):=by rw[BC ag3 ge (row:=A8 e) rfl,J4]
 have l3:BI jA H1 23 (.ptr eb 0 3)=some (.sl e.m 4 (e.args.map A8)):=by rw[BC LM ge (row:=A8 e) rfl,YU]
 refine A7 l0 ?_;cases b3:(e.op==3)
 case true =>
  refine A7 b3 ?_;exact⟨by unfold O1;rw[b3];rfl,hx⟩
 refine BB b3 l0 ?_;cases b4:(e.op==24)
 case true =>
  refine A7 b4 ?_;exact⟨by unfold O1;rw[b3,b4];rfl,hx⟩
 have h0:O1 e=false:=by unfold O1;rw[b3,b4];rfl
 rw[h0,wP];refine A7 b4 ?_;refine BK (fun k F H=>∃j,k+j=e.args.length/\F 1=.ptr eb 0 0/\F 3=.n (j:Nat)/\H=H1/\(FM (e.args.take j)).any O1=false) e.args.length ⟨0,BA,AQ,AQ,rfl,rfl⟩ ?_;rintro k F H ⟨j,hj,f1,f3,rfl,hkn⟩;refine DW f1 f3 l3 ?_;refine D9 ?_ ?_<;>intro hj'
 .have hmem:e.args[j]∈e.args:=jG hj'
  have hsplit:FM e.args=FM (e.args.take j)++(pre e.args[j]++FM (e.args.drop (j+1))):=by
   rw[<-zG,<-LW _ _ hj',<-NS,yD]
  simp only[vQ,CP,↓reduceIte,jC,enP,PZ,bS,f1,f3,l3,CZ hj',DJ O6 JE EG hj'];refine(ih e.args[j] hmem (by have:=Q7 hmem;omega) H).uu ?_;refine BO ?_ ?_<;>intro hb
  .refine AB ?_
   refine⟨?_,hx⟩;have hb:(pre e.args[j]).any O1=true:=hb;rw[hsplit,List.any_append,List.any_append,hb];simp
  .refine BB f3 (DC j) ?_
   have hb:(pre e.args[j]).any O1=false:=hb;exact⟨k-1,U,j+1,U,AL,rfl,trivial,by rw[LW _ _ hj',List.any_append,hkn,hb];rfl⟩
 .rw[jJ U] at hkn
  refine AB ?_;exact⟨by rw[hkn],hx⟩
theorem ADU (l:List Vr)(m:SM)(hl:l.length<=1048576)(e:Ex):(pre e).length<=1048576->∀h:Hp,PCall (En G) 265 [.sl m 4 (l.map encV),.agg (A8 e)] h (.bool (nV l e)):=by
 induction e using Ex.induct with|h e ih=>?_
 intro hw h;have hpl:=congrArg wH (pre_eq e);rw[zT] at hpl;have hal:e.args.length<=1048576:=by have:=YB e.args;omega
 have hev:nV l e=(PL l e||(FM e.args).any (PL l)):=by unfold nV;rw[pre_eq,List.any_cons]
 rw[hev];refine ACalls.pure0 rfl ?_;refine acT Tryz.func265 4 ?_;have ge:=AX h (yE 4 [A8 e]);have hx:=Sm.ext.r1 h (yE 4 [A8 e]);refine A7 @bxE ?_
 generalize h++[yE 4 [A8 e]]=H1 at ge hx|-
 generalize h.length=eb at ge|-
 have l0:BI jA H1 3 (.ptr eb 0 0)=some (.n e.op):=by rw[BC ag3 ge (row:=A8 e) rfl,J4]
 have l2:BI jA H1 9 (.ptr eb 0 2)=some (.str e.name):=by rw[BC ag9 ge (row:=A8 e) rfl,RI]
 have l3:BI jA H1 23 (.ptr eb 0 3)=some (.sl e.m 4 (e.args.map A8)):=by rw[BC LM ge (row:=A8 e) rfl,YU]
 refine A7 l0 ?_;refine SA (fun F H=>F 0=.sl m 4 (l.map encV)/\F 3=.ptr eb 0 0/\F 15=.bool (PL l e)/\H=H1) ?_ ?_
 .cases b2:(e.op==2)
  .refine A7 b2 ?_
   exact⟨trivial,trivial,by unfold PL;rw[b2];rfl,trivial⟩
  .refine BB b2 l2 ?_
   refine(bQ G l m e.name H1 U).use ?_;refine A7 b2 ?_;exact⟨trivial,trivial,by unfold PL;rw[b2];rfl,trivial⟩
 rintro F H ⟨f0,f3,f15,rfl⟩;refine A7 f15 ?_;refine BO ?_ ?_<;>intro hb
 .refine AB ?_
  exact⟨by rw[hb];rfl,hx⟩
 rw[hb,wP];refine AB ?_;refine BK (fun k F H'=>∃j,k+j=e.args.length/\F 0=.sl m 4 (l.map encV)/\F 3=.ptr eb 0 0/\F 5=.n (j:Nat)/\H'=H/\(FM (e.args.take j)).any (PL l)=false) e.args.length ⟨0,BA,EI f0,EI f3,AQ,rfl,rfl⟩ ?_;clear f0 f3 f15;rintro k F H ⟨j,hj,f0,f3,f5,rfl,hkn⟩;refine DW f3 f5 l3 ?_;refine D9 ?_ ?_<;>intro hj'
 .have hmem:e.args[j]∈e.args:=jG hj'
  have hsplit:FM e.args=FM (e.args.take j)++(pre e.args[j]++FM (e.args.drop (j+1))):=by
   rw[<-zG,<-LW _ _ hj',<-NS,yD]
  simp only[vQ,CP,↓reduceIte,jC,enP,PZ,bS,f0,f3,f5,l3,CZ hj',DJ O6 JE EG hj'];refine(ih e.args[j] hmem (by have:=Q7 hmem;omega) H).uu ?_;refine BO ?_ ?_<;>intro hb
  .refine AB ?_
   refine⟨?_,hx⟩;have hb:(pre e.args[j]).any (PL l)=true:=hb;rw[hsplit,List.any_append,List.any_append,hb];simp
  .refine BB f5 (DC j) ?_
   have hb:(pre e.args[j]).any (PL l)=false:=hb;exact⟨k-1,U,j+1,U,AL,AL,rfl,trivial,by rw[LW _ _ hj',List.any_append,hkn,hb];rfl⟩
 .rw[jJ U] at hkn
  refine AB ?_;exact⟨by rw[hkn],hx⟩
theorem ANE (l:List Vr)(m:SM)(hl:l.length<=1048576)(e:Ex)(hw:(pre e).length<=1048576)(h:Hp):PCall (En G) 194 [.sl m 4 (l.map encV),.agg (A8 e)] h (.n (plE l e)):=by
 refine ACalls.pure0 rfl ?_;refine acT Tryz.func194 4 ?_;refine BB @bxE @ldE ?_;refine(AIM G e hw _).uu ?_;refine BO ?_ ?_<;>intro hb
 .refine AB ?_
  exact⟨by unfold plE;rw[hb];rfl,_,rfl⟩
 refine A7 @ldE ?_;refine(ADU G l m hl e hw _).uu ?_;refine BO ?_ ?_<;>intro hf
 .refine AB ?_
  exact⟨by unfold plE;rw[hb,hf];rfl,_,rfl⟩
 .refine AB ?_
  exact⟨by unfold plE;rw[hb,hf];rfl,_,rfl⟩
theorem XB (l:List Vr)(m:SM)(hl:l.length<=1048576)(xs:List Ex)(s:SM)(hx:xs.length<=1048576)(hw:∀e∈xs,wt e<=1048576)(h:Hp):PCall (En G) 105 [.sl m 4 (l.map encV),.sl s 4 (xs.map A8)] h (.n (KC l xs)):=by
 refine acT Tryz.func105 4 ?_;refine AB ?_;refine BK (fun n F H=>∃i,n+i=xs.length/\(∀(j:Nat) (hj:j<i) (hl:j<xs.length),xpE l xs[j]=0)/\F 0=.sl m 4 (l.map encV)/\F 1=.sl s 4 (xs.map A8)/\F 5=.n (i:Nat)/\H=h) xs.length ⟨0,BA,fun j hj=>absurd hj U,AQ,AQ,AQ,rfl⟩ ?_;rintro n F H ⟨i,hi,hb,f0,f1,f5,rfl⟩;refine BB f1 f5 ?_;refine D9 ?_ ?_<;>intro hi'
 .have hwi:=hw _ (jG hi')
  have hbad:xpE l xs[i]≠0->KC l xs=xpE l xs[i]:=fun hz=>TP (xpE l) xs i hi' (fun j hj=>hb j hj U) hz
  simp only[vQ,CP,↓reduceIte,jC,enP,PZ,f1,f5,CZ hi',DJ O6 JE EG hi'];refine(AD9 G xs[i] H hwi).uu ?_;refine BO ?_ ?_<;>intro he
  .have he':exE xs[i]≠0:=by simpa [bne] using he
   have hxp:xpE l xs[i]=exE xs[i]:=by unfold xpE;rw[if_pos he']
   refine AB ?_;exact⟨by rw[hbad (by rw[hxp];exact he'),hxp],trivial⟩
  have he':exE xs[i]=0:=by simpa [bne] using he
  have hxp:xpE l xs[i]=plE l xs[i]:=by unfold xpE;rw[if_neg (by simp [he'])]
  simp only[vQ,CP,↓reduceIte,jC,enP,PZ,f0,f1,f5,CZ hi',DJ O6 JE EG hi'];refine(ANE G l m hl xs[i] (by have:=WI xs[i];omega) H).uu ?_;refine BO ?_ ?_<;>intro hp
  .have hp':plE l xs[i]≠0:=by simpa [bne] using hp
   refine AB ?_;exact⟨by rw[hbad (by rw[hxp];exact hp'),hxp],trivial⟩
  .have hp':plE l xs[i]=0:=by simpa [bne] using hp
   refine BB f5 (DC i) ?_;refine⟨n-1,U,i+1,U,fun j hj hl=>?_,AL,AL,rfl,trivial⟩;rcases zB j i with h1|h1
   .exact hb j h1 hl
   .obtain rfl:j=i:=U
    rw[hxp];exact hp'
 .refine AB ?_
  exact⟨by rw[KC,QL (xpE l) xs fun j hj=>hb j U hj],trivial⟩
end
theorem AUX (e:Ex):decide (((nmL [3,24] [] (pre e)).length:Int)>0)=sC e:=by
 have h:=dI (fun _=>false) [3,24] (pre e) []
 have h1:(nmL [3,24] [] (pre e)).all (fun _=>false)=decide ((nmL [3,24] [] (pre e)).length=0):=by
  cases nmL [3,24] [] (pre e)<;>simp
 rw[h1] at h;unfold sC
 have h2:(pre e).any O1 = !((pre e).all fun e => !Rk.hasB [3,24] e.op||false):=by
  rw[List.not_all_eq_any_not];congr 1;funext x;unfold O1 Rk.hasB;rw[wL];simp;constructor
  .rintro (h|h)<;>simp [h]
  .rintro (h|h)<;>simp [h]
 rw[h2];simp only[yC,wG] at h;rw[<-h];cases nmL [3,24] [] (pre e)<;>simp
theorem AS7 (l:List Vr)(e:Ex):(nmL [2] [] (pre e)).any (fun n=>decide (plc l n<0))=nV l e:=by
 have h:=dI (fun n => !decide (plc l n<0)) [2] (pre e) [];simp only[yC,wG] at h;rw[<-Bool.not_inj_iff,List.not_any_eq_all_not,h];unfold nV;rw[List.not_any_eq_all_not];congr 1;funext x;unfold PL Rk.hasB;rw[wL];simp;constructor
 .omega
 .omega
theorem AUH (h:Hp)(a b:SM)(x y:List (List AV)):DF jA false h 100 2 [(0,.sl a 4 x),(1,.sl b 4 y)]=some (.sl .full 1 [[.sl a 4 x],[.sl b 4 y]],h):=AZ
section
variable (G:Nat->AV)
theorem A7O (p:Pr)(n:ByteArray)(c:Nat)(h:Hp)(hc:h[c]?=some (yE 5 [CY p]))(hl:p.vars.length<=1048576):PCall (En G) 157 ([.str n]++[.ptr c 0 0]) h (.bool (decide (plc p.vars n<0))):=by
 refine acT Tryz.func157 3 ?_;have l0:BI jA h 22 (.ptr c 0 0)=some (.sl p.vm 4 (p.vars.map encV)):=by rw[BC WZ hc (row:=CY p) rfl];rfl
 refine A7 l0 ?_;refine(index_prog G p.vars p.vm n h U).uu ?_;exact H7
theorem AHY (hG:GOk G)(p:Pr)(hl:p.vars.length<=1048576)(hx:p.hard.length+p.soft.length<=1048576)(hw:∀e∈p.hard++p.soft,wt e<=1048576)(h:Hp):PCall (En G) 80 [.agg (CY p)] h (.n (KC p.vars (p.hard++p.soft))):=by
 refine ACalls.pure0 rfl ?_;refine acT Tryz.func80 2 ?_;have ge:=AX h (yE 5 [CY p]);have hxx:=Sm.ext.r1 h (yE 5 [CY p]);refine BB @bU @QE ?_
 generalize h++[yE 5 [CY p]]=H1 at ge hxx|-
 generalize h.length=eb at ge|-
 have l1:BI jA H1 23 (.ptr eb 0 1)=some (.sl p.hm 4 (p.hard.map A8)):=by rw[BC LM ge (row:=CY p) rfl];rfl
 have l2:BI jA H1 23 (.ptr eb 0 2)=some (.sl p.sm 4 (p.soft.map A8)):=by rw[BC LM ge (row:=CY p) rfl];rfl
 refine ES @oH l1 l2 AUH ?_;have hfl:fl [⟨p.hm,p.hard⟩,⟨p.sm,p.soft⟩]=p.hard++p.soft:=by simp [fl]
 have hcc:=concat_prog G [⟨p.hm,p.hard⟩,⟨p.sm,p.soft⟩] .full BA (by rw[hfl,jX];omega) H1;rw[hfl] at hcc;refine hcc.use ?_;have hxl:(p.hard++p.soft).length<=1048576:=by rw[jX];omega
 generalize p.hard++p.soft=xs at hw hxl|-
 refine AB ?_;refine BK (fun n F H=>∃i,n+i=xs.length/\(∀(j:Nat) (hj:j<i) (hl:j<xs.length),xpE p.vars xs[j]=0)/\F 1=.ptr eb 0 0/\F 11=.sl (nm xs) 4 (xs.map A8)/\F 12=.n (xs.length:Nat)/\F 13=.n (i:Nat)/\H[eb]?=some (yE 5 [CY p])/\ext h H) xs.length ⟨0,BA,fun j hj=>absurd hj U,AQ,AQ,AQ,AQ,ge,hxx⟩ ?_;clear ge hxx l1 l2;rintro n F H ⟨i,hi,hb,f1,f11,f12,f13,ge,hxx⟩;refine BB f12 f13 ?_;refine D9 ?_ ?_<;>intro hi'
 .have hwi:=hw _ (jG hi')
  have hbad:xpE p.vars xs[i]≠0->KC p.vars xs=xpE p.vars xs[i]:=fun hz=>TP (xpE p.vars) xs i hi' (fun j hj=>hb j hj U) hz
  have ge1:(H++[yE 4 [A8 xs[i]]])[eb]?=_:=AO ge;have hx1:ext h (H++[yE 4 [A8 xs[i]]]):=hxx.app _;have gE:=AX H (yE 4 [A8 xs[i]]);have al40:GH jA H 79=some (.ptr H.length 0 0,H++[yE 4 [[.n 0,.n 0,.str ⟨#[]⟩,.sl .nil 0 []]]]):=FB (row:=[.n 0,.n 0,.str ⟨#[]⟩,.sl .nil 0 []]) AZ
  have st40:DU jA (H++[yE 4 [[.n 0,.n 0,.str ⟨#[]⟩,.sl .nil 0 []]]]) 79 (.ptr H.length 0 0) (.agg (A8 xs[i]))=some (H++[yE 4 [A8 xs[i]]]):=by
   have hle:(A8 xs[i]).length=4:=EG _;rw[IR (cs:=A8 xs[i]) (row:=[.n 0,.n 0,.str ⟨#[]⟩,.sl .nil 0 []]) (PG (by rw[FI];rfl)) (by rw[hle];exact JE) (AX _ _) (by rw[hle];exact jF 4),JZ]
   have:splice [.n 0,.n 0,.str ⟨#[]⟩,.sl .nil 0 []] 0 (A8 xs[i])=A8 xs[i]:=by
    unfold splice;rw[qI,List.drop_eq_nil_of_le (by rw[hle];exact jF 4)];simp
   rw[this]
  simp only[vQ,CP,↓reduceIte,jC,enP,PZ,jQ,f11,f13,CZ hi',DJ O6 JE EG hi',al40,st40]
  generalize H++[yE 4 [A8 xs[i]]]=H1 at ge1 hx1 gE|-
  refine A7 (IU gE) ?_;refine(OG G hG xs[i] _ hwi).uu ?_;refine BO ?_ ?_<;>intro he
  .have he':exE xs[i]≠0:=by simpa [bne] using he
   have hxp:xpE p.vars xs[i]=exE xs[i]:=by unfold xpE;rw[if_pos he']
   refine AB ?_;exact⟨by rw[hbad (by rw[hxp];exact he'),hxp],hx1⟩
  have he':exE xs[i]=0:=by simpa [bne] using he
  have hxp:xpE p.vars xs[i]=plE p.vars xs[i]:=by unfold xpE;rw[if_neg (by simp [he'])]
  refine A7 (IU gE) ?_;refine(Y4 G xs[i] hwi _).use ?_;refine A7 @AUX ?_;refine BO ?_ ?_<;>intro ha
  .have hpl:plE p.vars xs[i]=9:=by unfold plE;rw[if_pos ha]
   refine AB ?_;exact⟨by rw[hbad (by rw[hxp,hpl];decide),hxp,hpl],hx1⟩
  refine A7 (IU gE) ?_;refine(cL G xs[i] hwi _).use ?_;refine A7 f1 ?_
  have hnl:(nmL [2] [] (pre xs[i])).length<=1048576:=by
   have h1:=ZF [2] (pre xs[i]) [];have h2:=WI xs[i];simp at h1;omega
  refine(AYG G (nmL [2] [] (pre xs[i])) (nm (nmL [2] [] (pre xs[i]))) 157 [.ptr eb 0 0] (fun n=>decide (plc p.vars n<0)) H1 U fun n _=>A7O G p n eb _ ge1 hl).use ?_;refine A7 @AS7 ?_;refine BO ?_ ?_<;>intro hf
  .have hpl:plE p.vars xs[i]=7:=by unfold plE;rw[ha,hf];rfl
   refine AB ?_;exact⟨by rw[hbad (by rw[hxp,hpl];decide),hxp,hpl],hx1⟩
  .have hpl:plE p.vars xs[i]=0:=by unfold plE;rw[ha,hf];rfl
   refine BB f13 (DC i) ?_;refine⟨n-1,U,i+1,U,fun j hj hl=>?_,AL,AL,AL,rfl,ge1,hx1⟩;rcases zB j i with h1|h1
   .exact hb j h1 hl
   .grind
 .refine AB ?_
  exact⟨by rw[KC,QL (xpE p.vars) xs fun j hj=>hb j U hj],hxx⟩
end
def PW (l:List Vr)(i:Int):Bool:=decide (0<=i)&&(decide (i<l.length)&&(match l[i.toNat]? with|some v => !(v.mode==0)|none=>false))
def pK (x:Wg):Bool:=decide (x.lo<0)||decide (x.lo>x.hi)||decide (x.hi>65535)||decide (x.w<0)||decide (x.w>1000)
def dsE (l:List Vr)(ds:List Ds)(d:Ds):Int:=if PW l d.var=true then if ds.any (fun x=>x.var==d.var)=true then 8 else if d.ws.length>16 then 2 else if d.ws.any pK=true then 1 else 0 else 1
def dsI (l:List Vr)(ds:List Ds)(i:Nat):Int:=match ds[i]? with|some d=>dsE l (ds.take i) d|none=>0
def NV (l:List Vr)(ds:List Ds):Int:=fstE (dsI l ds) (zM ds.length)
theorem oT {l:List Vr}{ds:List Ds}(hi:i<ds.length):dsI l ds i=dsE l (ds.take i) ds[i]:=by unfold dsI;rw[jI hi]
theorem oU {l:List Vr}{ds:List Ds}(hi:i<ds.length)(hb:∀j,j<i->dsI l ds j=0)(h:dsE l (ds.take i) ds[i]≠0):NV l ds=dsE l (ds.take i) ds[i]:=by
 have:=TP (dsI l ds) (zM ds.length) i (BM hi) (fun j hj=>by rw[List.getElem_range];exact hb j hj) (by rw[List.getElem_range,oT hi];exact h);rw[List.getElem_range,oT hi] at this;exact this
theorem iY {l:List Vr}{ds:List Ds}(hb:∀j,j<ds.length->dsI l ds j=0):NV l ds=0 :=
 QL _ _ fun j hj=>by rw[List.getElem_range];exact hb j (BM hj)
theorem ZA {l:List Vr}(hn:n<l.length):PW l (n:Nat) = !(l[n].mode==0):=by
 unfold PW;rw[decide_eq_true U,decide_eq_true U,qB,jI hn];rfl
theorem BBQ (h:Hp):GH jA h 140=some (.ptr h.length 0 0,h++[yE 2 [[.n 0,.sl .nil 0 []]]]):=FB (row:=[.n 0,.sl .nil 0 []]) AZ
theorem A97 (h:Hp)(v:Ds):DU jA (h++[yE 2 [[.n 0,.sl .nil 0 []]]]) 140 (.ptr h.length 0 0) (.agg (IK v))=some (h++[yE 2 [IK v]]):=by
 rw[IR (cs:=IK v) (row:=[.n 0,.sl .nil 0 []]) rfl iK (AX _ _) (by exact jF 2),JZ];rfl
theorem BBN (h:Hp):GH jA h 240=some (.ptr h.length 0 0,h++[yE 4 [[.n 0,.n 0,.n 0,.bool false]]]):=FB (row:=[.n 0,.n 0,.n 0,.bool false]) AZ
theorem A95 (h:Hp)(v:Wg):DU jA (h++[yE 4 [[.n 0,.n 0,.n 0,.bool false]]]) 240 (.ptr h.length 0 0) (.agg (JC v))=some (h++[yE 4 [JC v]]):=by
 rw[IR (cs:=JC v) (row:=[.n 0,.n 0,.n 0,.bool false]) rfl AJH (AX _ _) (by exact jF 4),JZ];rfl
theorem A91 {l:List Ds}{m:SM}(hi:i<=l.length):∃m',IE jA h 24 (.sl m 2 (l.map IK)) none (some (.n (i:Nat))) none=some (.sl m' 2 ((l.take i).map IK)) :=
 ⟨AO4 m i (l.map IK).length,by rw[AJK A9Z iK (by rw[jP];exact hi),List.map_take]⟩
section
variable (G:Nat->AV)
theorem X7 (p:Pr)(i:Int)(_:p.vars.length<=1048576)(h:Hp):PCall (En G) 158 [.agg (CY p),.n i] h (.bool (PW p.vars i)):=by
 refine ACalls.pure0 rfl ?_;refine acT Tryz.func158 4 ?_;have l0:BI jA (h++[yE 5 [CY p]]) 22 (.ptr h.length 0 0)=some (.sl p.vm 4 (p.vars.map encV)):=by rw[BC WZ (AX _ _) (row:=CY p) rfl];rfl
 refine A7 @QE ?_;cases b1:decide (i≥0)
 .refine A7 b1 ?_
  refine⟨?_,_,rfl⟩;unfold PW;rw[show decide (0<=i)=false from b1];rfl
 have h0:0<=i:=BM b1;obtain⟨n,rfl⟩:=Int.eq_ofNat_of_zero_le h0;refine BB b1 l0 ?_;cases b2:decide (((n:Nat):Int)<((p.vars.length:Nat):Int))
 .refine A7 b2 ?_
  refine⟨?_,_,rfl⟩;unfold PW;rw[b2];simp
 have hn:n<p.vars.length:=BM b2;have l2:BI jA (h++[yE 5 [CY p]]) 3 (.fptr 4 (p.vars.map encV) n 2)=some (.n p.vars[n].mode):=by rw[CW ag3 hn];rfl
 simp only[vQ,EM,QH,CP,↓reduceIte,jC,enP,ZZ,oI,UW,b2,l0,CZ hn,l2,bne];exact⟨by rw[ZA hn],_,rfl⟩
theorem A7N (x d:Ds)(c:Nat)(h:Hp)(hc:h[c]?=some (yE 2 [IK d])):PCall (En G) 160 ([.agg (IK x)]++[.ptr c 0 0]) h (.bool (x.var==d.var)):=by
 refine ACalls.pure0 rfl ?_;refine acT Tryz.func160 3 ?_;have hc':(h++[yE 2 [IK x]])[c]?=_:=AO hc;have l0:BI jA (h++[yE 2 [IK x]]) 3 (.ptr h.length 0 0)=some (.n x.var):=by rw[BC ag3 (AX _ _) (row:=IK x) rfl];rfl
 have l1:BI jA (h++[yE 2 [IK x]]) 3 (.ptr c 0 0)=some (.n d.var):=by rw[BC ag3 hc' (row:=IK d) rfl];rfl
 refine DW @bxD l0 l1 ?_;exact⟨trivial,_,rfl⟩
theorem A7L (x:Wg)(h:Hp):PCall (En G) 239 ([.agg (JC x)]++[]) h (.bool (pK x)):=by
 refine ACalls.pure0 rfl ?_;refine acT Tryz.func239 2 ?_;have l0:BI jA (h++[yE 4 [JC x]]) 3 (.ptr h.length 0 0)=some (.n x.lo):=by rw[BC ag3 (AX _ _) (row:=JC x) rfl];rfl
 have l1:BI jA (h++[yE 4 [JC x]]) 3 (.ptr h.length 0 1)=some (.n x.hi):=by rw[BC ag3 (AX _ _) (row:=JC x) rfl];rfl
 have l2:BI jA (h++[yE 4 [JC x]]) 3 (.ptr h.length 0 2)=some (.n x.w):=by rw[BC ag3 (AX _ _) (row:=JC x) rfl];rfl
 refine A7 @A78 ?_;unfold pK;cases b1:decide (x.lo<0)
 case true =>
  refine BB l0 b1 ?_;exact⟨trivial,_,rfl⟩
 cases b2:decide (x.lo>x.hi)
 case true =>
  refine ES l0 l1 b1 b2 ?_;exact⟨trivial,_,rfl⟩
 cases b3:decide (x.hi>65535)
 case true =>
  refine JI l0 l1 b1 b2 b3 ?_;exact⟨trivial,_,rfl⟩
 cases b4:decide (x.w<0)
 case true =>
  refine SE @eB l0 l1 l2 b1 b2 b3 b4 ?_;exact⟨trivial,_,rfl⟩
 cases b5:decide (x.w>1000)
 all_goals
  refine Y2 @eB l0 l1 l2 b1 b2 b3 b4 b5 ?_;exact⟨trivial,_,rfl⟩
theorem vF (xs:List Wg)(m:SM)(hl:xs.length<=1048576)(h:Hp):PCall (En G) 161 [.sl m 4 (xs.map JC)] h (.bool (!(xs.any pK))):=by
 refine acT Tryz.func161 2 ?_;refine AB ?_;refine(A3R G xs m 239 [] pK h U fun x _=>A7L G x h).uu ?_;exact H7
theorem AH1 (p:Pr)(hl:p.vars.length<=1048576)(hd:p.dists.length<=1048576)(hw:∀d∈p.dists,d.ws.length<=1048576)(h:Hp):PCall (En G) 82 [.agg (CY p)] h (.n (NV p.vars p.dists)):=by
 refine ACalls.pure0 rfl ?_;refine acT Tryz.func82 2 ?_;have ge:=AX h (yE 5 [CY p]);have hxx:=Sm.ext.r1 h (yE 5 [CY p]);refine A7 @QE ?_
 generalize h++[yE 5 [CY p]]=H1 at ge hxx|-
 generalize h.length=eb at ge|-
 have l3:BI jA H1 24 (.ptr eb 0 3)=some (.sl p.dm 2 (p.dists.map IK)):=by rw[BC AU5 ge (row:=CY p) rfl];rfl
 refine A7 l3 ?_;refine BK (fun n F H=>∃i,n+i=p.dists.length/\(∀(j:Nat),j<i->dsI p.vars p.dists j=0)/\F 1=.ptr eb 0 0/\F 6=.sl p.dm 2 (p.dists.map IK)/\F 7=.n (p.dists.length:Nat)/\F 8=.n (i:Nat)/\H[eb]?=some (yE 5 [CY p])/\ext h H) p.dists.length ⟨0,BA,fun j hj=>absurd hj U,AQ,AQ,AQ,AQ,ge,hxx⟩ ?_;clear ge hxx l3;rintro n F H ⟨i,hi,hb,f1,f6,f7,f8,ge,hxx⟩;refine BB f7 f8 ?_;refine D9 ?_ ?_<;>intro hi'
 .have hwi:=hw _ (jG hi')
  have hbad:=oU hi' hb;have hat:=oT (l:=p.vars) hi';have ge1:(H++[yE 2 [IK p.dists[i]]])[eb]?=_:=AO ge;have hx1:ext h (H++[yE 2 [IK p.dists[i]]]):=hxx.app _;have gE:=AX H (yE 2 [IK p.dists[i]]);simp only[vQ,CP,↓reduceIte,jC,enP,AN6,jQ,f6,f8,CZ hi',DJ AL1 iK RJ hi',BBQ,A97]
  generalize H++[yE 2 [IK p.dists[i]]]=H1 at ge1 hx1 gE|-
  have lp:BI jA H1 27 (.ptr eb 0 0)=some (.agg (CY p)):=by rw[ED lC cY ge1 (row:=CY p) rfl (by rw[L8];exact jF 5)];rfl
  have l3:BI jA H1 24 (.ptr eb 0 3)=some (.sl p.dm 2 (p.dists.map IK)):=by rw[BC AU5 ge1 (row:=CY p) rfl];rfl
  have d0:BI jA H1 3 (.ptr H.length 0 0)=some (.n p.dists[i].var):=by rw[BC ag3 gE (row:=IK p.dists[i]) rfl];rfl
  have d1:BI jA H1 120 (.ptr H.length 0 1)=some (.sl p.dists[i].wm 4 (p.dists[i].ws.map JC)):=by rw[BC AL2 gE (row:=IK p.dists[i]) rfl];rfl
  obtain⟨m',ht⟩:=A91 (h:=H1) (m:=p.dm) (Nat.le_of_lt hi');refine DW f1 lp d0 ?_;refine(X7 G p _ hl _).use ?_;cases b1:PW p.vars p.dists[i].var
  .have he:dsE p.vars (p.dists.take i) p.dists[i]=1:=by unfold dsE;rw[b1];rfl
   refine AB ?_;exact⟨by rw[hbad (by rw[he];decide),he],hx1⟩
  refine DW f1 l3 ht ?_;refine(ASX G (p.dists.take i) m' 160 [.ptr H.length 0 0] (fun x=>x.var==p.dists[i].var) H1 (by rw[jZ];omega) fun x _=>A7N G x p.dists[i] _ _ gE).use ?_;cases b2:(p.dists.take i).any fun x=>x.var==p.dists[i].var
  case true =>
   have he:dsE p.vars (p.dists.take i) p.dists[i]=8:=by unfold dsE;rw[b1,b2];rfl
   refine AB ?_;exact⟨by rw[hbad (by rw[he];decide),he],hx1⟩
  refine BB AC6 d1 ?_;refine BO ?_ ?_<;>intro b3
  .have he:dsE p.vars (p.dists.take i) p.dists[i]=2:=by unfold dsE;rw[b1,b2,if_pos rfl,if_neg DT,if_pos (by simp at b3;omega)]
   refine AB ?_;exact⟨by rw[hbad (by rw[he];decide),he],hx1⟩
  refine A7 d1 ?_;refine(vF G p.dists[i].ws p.dists[i].wm hwi _).use ?_;cases b4:p.dists[i].ws.any pK
  case true =>
   have he:dsE p.vars (p.dists.take i) p.dists[i]=1:=by unfold dsE;rw[b1,b2,if_pos rfl,if_neg DT,if_neg (by simp at b3;omega),b4];rfl
   refine AB ?_;exact⟨by rw[hbad (by rw[he];decide),he],hx1⟩
  have he:dsE p.vars (p.dists.take i) p.dists[i]=0:=by unfold dsE;rw[b1,b2,if_pos rfl,if_neg DT,if_neg (by simp at b3;omega),b4];rfl
  refine BB f8 (DC i) ?_;refine⟨n-1,U,i+1,U,fun j hj=>?_,AL,AL,AL,rfl,ge1,hx1⟩;rcases zB j i with h1|h1
  .exact hb j h1
  .grind
 .refine AB ?_
  exact⟨by rw[iY fun j hj=>hb j U],hxx⟩
end
section
variable (G:Nat->AV)
theorem AO1 (l:List Vr)(m:SM)(ds:List Ds)(s:SM)(hl:l.length<=1048576)(hd:ds.length<=1048576)(hw:∀d∈ds,d.ws.length<=1048576)(h:Hp):PCall (En G) 106 [.sl m 4 (l.map encV),.sl s 2 (ds.map IK)] h (.n (NV l ds)):=by
 refine ACalls.pure0 rfl ?_;refine acT Tryz.func106 4 ?_;refine AB ?_;refine BK (fun n F H=>∃i,n+i=ds.length/\(∀(j:Nat),j<i->dsI l ds j=0)/\F 0=.sl m 4 (l.map encV)/\F 1=.sl s 2 (ds.map IK)/\F 5=.n (i:Nat)/\ext h H) ds.length ⟨0,BA,fun j hj=>absurd hj U,AQ,AQ,AQ,ext.rfl' h⟩ ?_;rintro n F H ⟨i,hi,hb,f0,f1,f5,hxx⟩;refine BB f1 f5 ?_;refine D9 ?_ ?_<;>intro hi'
 .have hwi:=hw _ (jG hi')
  have hbad:=oU hi' hb;have hat:=oT (l:=l) hi';have d0:∀ {k:Nat} (hk:k<ds.length) (H:Hp),BI jA H 3 (.fptr 2 (ds.map IK) k 0)=some (.n ds[k].var):=fun hk H=>by rw[CW ag3 hk];rfl
  have d1:∀H:Hp,BI jA H 120 (.fptr 2 (ds.map IK) i 1)=some (.sl ds[i].wm 4 (ds[i].ws.map JC)):=fun H=>by rw[CW AL2 hi'];rfl
  refine aT f0 f1 f5 hi' (d0 hi') ?_;refine SA (fun F' H'=>F' 0=.sl m 4 (l.map encV)/\F' 1=.sl s 2 (ds.map IK)/\F' 5=.n (i:Nat)/\F' 42=.bool (!PW l ds[i].var)/\H'=H) ?_ ?_
  .cases b1:decide (ds[i].var<0)
   case true =>
    refine ES b1 f0 f1 f5 ?_;refine⟨trivial,trivial,trivial,?_,trivial⟩;have:PW l ds[i].var=false:=by unfold PW;rw[decide_eq_false (by simp at b1;omega)];rfl
    rw[this];rfl
   have h0:0<=ds[i].var:=BM b1;obtain⟨k,hk⟩:=Int.eq_ofNat_of_zero_le h0
   rw[hk] at b1|-
   have d0':=d0 hi' H;rw[hk] at d0';cases b2:decide (((k:Nat):Int)≥((l.length:Nat):Int))
   case true =>
    refine NJ b1 b2 f0 f1 f5 hi' d0' ?_;refine⟨trivial,trivial,trivial,?_,trivial⟩;have:PW l ((k:Nat):Int)=false:=by unfold PW;rw[decide_eq_false (p:=((k:Nat):Int)<(l.length:Int)) (by simp at b2;omega)];simp
    rw[this];rfl
   have hk':k<l.length:=by simp at b2;omega
   have l2:BI jA H 3 (.fptr 4 (l.map encV) k 2)=some (.n l[k].mode):=by rw[CW ag3 hk'];rfl
   refine Y2 b1 b2 f0 f1 f5 hi' d0' hk' l2 ?_;exact⟨trivial,trivial,trivial,by rw[ZA hk',Bool.not_not],trivial⟩
  clear f0 f1 f5;rintro F H0 ⟨f0,f1,f5,f42,rfl⟩;refine A7 f42 ?_;cases b1:PW l ds[i].var
  .have he:dsE l (ds.take i) ds[i]=1:=by unfold dsE;rw[b1];rfl
   refine AB ?_;exact⟨by rw[hbad (by rw[he];decide),he],hxx⟩
  refine AB ?_;refine EU 2 (fun F' H'=>F' 0=.sl m 4 (l.map encV)/\F' 1=.sl s 2 (ds.map IK)/\F' 5=.n (i:Nat)/\H'=H0/\((ds.take i).any fun x=>x.var==ds[i].var)=false) (fun F' H'=>F' 4=.n (NV l ds)/\H'=H0) ?_ ?_ ?_
  .refine BK (fun n' F' H'=>∃k,n'+k=i/\(∀(j:Nat) (hj:j<k) (hl:j<ds.length),(ds[j].var==ds[i].var)=false)/\F' 0=.sl m 4 (l.map encV)/\F' 1=.sl s 2 (ds.map IK)/\F' 5=.n (i:Nat)/\F' 6=.n (k:Nat)/\H'=H0) i ⟨0,BA,fun j hj=>absurd hj U,EI f0,EI f1,EI f5,AQ,rfl⟩ ?_
   clear f0 f1 f5 f42;rintro n' F H ⟨k,hk,hbk,f0,f1,f5,f6,rfl⟩;refine BB f5 f6 ?_;refine D9 ?_ ?_<;>intro hk'
   .have hk2:k<ds.length:=U
    refine AB ?_;refine D6 AZ ?_;refine NJ f1 f5 f6 hk2 hi' (d0 hk2) (d0 hi') ?_;refine BO ?_ ?_<;>intro he
    .have hany:((ds.take i).any fun x=>x.var==ds[i].var)=true:=qL.2 ⟨ds[k],by
      have:(ds.take i)[k]'(by rw[jZ];omega)=ds[k]:=List.getElem_take
      rw[<-this];exact jG _,he⟩
     have hz:dsE l (ds.take i) ds[i]=8:=by unfold dsE;rw[b1,hany];rfl
     refine AB ?_;exact⟨by rw[hbad (by rw[hz];decide),hz],trivial⟩
    .refine BB f6 (DC k) ?_
     refine⟨n'-1,U,k+1,U,fun j hj hl=>?_,AL,AL,AL,rfl,trivial⟩;rcases zB j k with h1|h1
     .exact hbk j h1 hl
     .obtain rfl:j=k:=U
      exact he
   .refine AB ?_
    refine⟨f0,f1,f5,trivial,?_⟩;rw[qO];intro x hx;obtain⟨j,hj,rfl⟩:=qF hx;rw[jZ] at hj;rw[List.getElem_take,hbk j U U];decide
  .rintro F' H' ⟨g0,g1,g5,rfl,b2⟩
   refine aT AC6 g1 g5 hi' d1 ?_;refine BO ?_ ?_<;>intro b3
   .have he:dsE l (ds.take i) ds[i]=2:=by unfold dsE;rw[b1,b2,if_pos rfl,if_neg DT,if_pos (by simp at b3;omega)]
    refine AB ?_;exact⟨by rw[hbad (by rw[he];decide),he],hxx⟩
   refine AB ?_;refine EU 4 (fun F2 H2=>F2 0=.sl m 4 (l.map encV)/\F2 1=.sl s 2 (ds.map IK)/\F2 5=.n (i:Nat)/\ext h H2/\ds[i].ws.any pK=false) (fun F2 H2=>F2 4=.n (NV l ds)/\ext h H2) ?_ ?_ ?_
   .refine BK (fun n' F2 H2=>∃k,n'+k=ds[i].ws.length/\(∀(j:Nat) (hj:j<k) (hl:j<ds[i].ws.length),pK ds[i].ws[j]=false)/\F2 0=.sl m 4 (l.map encV)/\F2 1=.sl s 2 (ds.map IK)/\F2 5=.n (i:Nat)/\F2 7=.n (k:Nat)/\ext h H2) ds[i].ws.length ⟨0,BA,fun j hj=>absurd hj U,EI g0,EI g1,EI g5,AQ,hxx⟩ ?_
    clear f0 f1 f5 f42 g0 g1 g5 hxx;rintro n' F H ⟨k,hk,hbk,f0,f1,f5,f7,hxx⟩;refine aS AC6 f1 f5 f7 hi' d1 ?_;refine D9 ?_ ?_<;>intro hk'
    .have hx1:ext h (H++[yE 4 [JC ds[i].ws[k]]]):=hxx.app _
     have gE:=AX H (yE 4 [JC ds[i].ws[k]]);simp only[vQ,CP,↓reduceIte,jC,enP,AN6,ASJ,yK,eC,jQ,f1,f5,f7,CZ hi',d1,CZ hk',DJ A15 AJH gI hk',BBN,A95]
     generalize H++[yE 4 [JC ds[i].ws[k]]]=H1 at hx1 gE|-
     generalize hx:ds[i].ws[k]=x at gE;have l0:BI jA H1 3 (.ptr H.length 0 0)=some (.n x.lo):=by rw[BC ag3 gE (row:=JC x) rfl];rfl
     have l1:BI jA H1 3 (.ptr H.length 0 1)=some (.n x.hi):=by rw[BC ag3 gE (row:=JC x) rfl];rfl
     have l2:BI jA H1 3 (.ptr H.length 0 2)=some (.n x.w):=by rw[BC ag3 gE (row:=JC x) rfl];rfl
     refine A7 l0 ?_;refine SA (fun F' H'=>F' 0=.sl m 4 (l.map encV)/\F' 1=.sl s 2 (ds.map IK)/\F' 5=.n (i:Nat)/\F' 7=.n (k:Nat)/\F' 108=.bool (pK x)/\H'=H1) ?_ ?_
     .unfold pK
      cases b1:decide (x.lo<0)
      case true =>
       refine JI b1 f0 f1 f5 f7 ?_;exact⟨trivial,trivial,trivial,trivial,trivial,trivial⟩
      cases b2:decide (x.lo>x.hi)
      case true =>
       refine SE l0 l1 b1 b2 f0 f1 f5 f7 ?_;exact⟨trivial,trivial,trivial,trivial,trivial,trivial⟩
      cases b3:decide (x.hi>65535)
      case true =>
       refine Y2 l0 l1 b1 b2 b3 f0 f1 f5 f7 ?_;exact⟨trivial,trivial,trivial,trivial,trivial,trivial⟩
      cases b4:decide (x.w<0)
      case true =>
       simp only[vQ,zO,zY,Bool.true_or,EM,XE,CP,FZ,J6,↓reduceIte,jC,enP,eC,lK,eB,l0,l1,l2,b1,b2,b3,b4,f0,f1,f5,f7];exact⟨trivial,trivial,trivial,trivial,trivial,trivial⟩
      cases b5:decide (x.w>1000)
      all_goals
       simp only[vQ,zO,zY,EM,CP,J6,↓reduceIte,jC,enP,eC,lK,eB,l0,l1,l2,b1,b2,b3,b4,b5,f0,f1,f5,f7];exact⟨trivial,trivial,trivial,trivial,trivial,trivial⟩
     clear f0 f1 f5 f7;rintro F H2 ⟨f0,f1,f5,f7,f108,rfl⟩;refine A7 f108 ?_;refine BO ?_ ?_<;>intro b4
     .have hany:ds[i].ws.any pK=true:=qL.2 ⟨x,by rw[<-hx];exact jG _,b4⟩
      have he:dsE l (ds.take i) ds[i]=1:=by unfold dsE;rw[b1,b2,if_pos rfl,if_neg DT,if_neg (by simp at b3;omega),hany];rfl
      refine AB ?_;exact⟨by rw[hbad (by rw[he];decide),he],hx1⟩
     .refine BB f7 (DC k) ?_
      refine⟨n'-1,U,k+1,U,fun j hj hl=>?_,AL,AL,AL,rfl,hx1⟩;rcases zB j k with h1|h1
      .exact hbk j h1 hl
      .obtain rfl:j=k:=U
       rw[hx];exact b4
    .refine AB ?_
     refine⟨f0,f1,f5,hxx,?_⟩;rw[qO];intro x hx;obtain⟨j,hj,rfl⟩:=qF hx;rw[hbk j U hj];decide
   .rintro F2 H2 ⟨g0,g1,g5,hx2,b4⟩
    have he:dsE l (ds.take i) ds[i]=0:=by unfold dsE;rw[b1,b2,if_pos rfl,if_neg DT,if_neg (by simp at b3;omega),b4];rfl
    refine BB g5 (DC i) ?_;refine⟨n-1,U,i+1,U,fun j hj=>?_,AL,AL,rfl,hx2⟩;rcases zB j i with h1|h1
    .exact hb j h1
    .obtain rfl:j=i:=U
     rw[hat,he]
   .rintro F2 H2 ⟨g4,hx2⟩
    refine A7 g4 ?_;exact⟨trivial,hx2⟩
  .rintro F' H' ⟨g4,rfl⟩
   refine A7 g4 ?_;exact⟨trivial,hxx⟩
 .refine AB ?_
  exact⟨by rw[iY fun j hj=>hb j U],hxx⟩
end
def flG (gs:List Gp):List Int:=gs.flatMap Gp.l
theorem AD2 {gs:List Gp}(hi:i<gs.length):flG (gs.take (i+1))=flG (gs.take i)++gs[i].l:=by
 unfold flG;rw[jU hi,List.flatMap_append];simp
theorem tY {gs:List Gp}(hi:i<gs.length)(hj:j<gs[i].l.length):flG gs=(flG (gs.take i)++gs[i].l.take j)++gs[i].l[j]::(gs[i].l.drop (j+1)++flG (gs.drop (i+1))):=by
 have h1:gs=gs.take i++gs[i]::gs.drop (i+1):=by simp_all
 have h2:flG gs=flG (gs.take i)++(gs[i].l++flG (gs.drop (i+1))):=by
  unfold flG
  conv=>lhs;rw[h1]
  rw[List.flatMap_append,List.flatMap_cons]
 have h3:gs[i].l=gs[i].l.take j++gs[i].l[j]::gs[i].l.drop (j+1):=by simp_all
 have h4:gs[i].l++flG (gs.drop (i+1))=(gs[i].l.take j++gs[i].l[j]::gs[i].l.drop (j+1))++flG (gs.drop (i+1)):=by rw[<-h3]
 rw[h2,h4];simp only[zG,zF]
def gOK (l:List Vr)(gs:List Gp):Bool:=decide ((∀g∈gs,g.l≠[])/\(∀x∈flG gs,0<=x/\x<l.length)/\∀i:Fin l.length,(flG gs).count ((i.1:Nat):Int)=if l[i.1].mode=0 then 0 else 1)
theorem AKX {l:List Vr}{gs:List Gp}{g:Gp}(hg:g∈gs)(h:g.l=[]):gOK l gs=false:=decide_eq_false fun⟨h1,_⟩=>h1 g hg h
theorem xU {l:List Vr}{gs:List Gp}(hx:x∈flG gs)(h:¬(0<=x/\x<l.length)):gOK l gs=false:=decide_eq_false fun⟨_,h1,_⟩=>h (h1 x hx)
theorem dW {l:List Vr}{gs:List Gp}(hi:i<l.length)(h:(flG gs).count ((i:Nat):Int)≠if l[i].mode=0 then 0 else 1):gOK l gs=false:=decide_eq_false fun⟨_,_,h1⟩=>h (h1 ⟨i,hi⟩)
theorem Y9 {l:List Vr}(h:PW l x=true):∃k,∃hk:k<l.length,x=(k:Nat)/\¬l[k].mode=0:=by
 unfold PW at h;simp only[jM,decide_eq_true_eq] at h;obtain⟨h0,h1,h2⟩:=h;have hk:x.toNat<l.length:=U;rw[jI hk] at h2;exact⟨x.toNat,hk,U,BM h2⟩
theorem AYN {l:List Vr}{gs:List Gp}(hx:x∈flG gs)(h:PW l x=false):gOK l gs=false:=by
 by_cases hr:0<=x/\x<l.length
 .obtain⟨k,rfl⟩:=Int.eq_ofNat_of_zero_le hr.1
  have hk:k<l.length:=U;rw[ZA hk] at h;refine dW hk ?_;rw[if_pos (BM h)];have:=List.count_pos_iff.2 hx;omega
 .exact xU hx hr
def bR (done:List Int)(n:Nat):List (List AV):=(zM n).map fun i=>[AV.bool (decide (((i:Nat):Int)∈done))]
def cR (done:List Int)(n:Nat):List (List AV):=(zM n).map fun i=>[AV.int .i64 ((done.count ((i:Nat):Int):Nat):Int)]
theorem AAB (done:List Int)(n:Nat):(bR done n).length=n:=by simp [bR]
theorem pC (done:List Int)(n:Nat):(cR done n).length=n:=by simp [cR]
theorem cF (done:List Int)(hi:i<n):(bR done n)[i]?=some [AV.bool (decide (((i:Nat):Int)∈done))]:=by simp [bR,hi]
theorem YV (done:List Int)(hi:i<n):(cR done n)[i]?=some [AV.int .i64 ((done.count ((i:Nat):Int):Nat):Int)]:=by simp [cR,hi]
theorem A42 (done:List Int)(hk:k<n):(bR done n).set k [.bool true]=bR (done++[(k:Int)]) n:=by
 apply wU;intro i;rw[zQ];by_cases hi:i<n
 .by_cases e:k=i
  .subst e
   rw[if_pos rfl,if_pos (by rw[AAB];exact hi),cF _ hi];simp
  .rw[if_neg e,cF _ hi,cF _ hi]
   congr 3;simp;rintro h;omega
 .rw[qZ (by rw[AAB];omega)]
  split
  .simp_all
  .rw[qZ (by rw[AAB];omega)]
theorem A4T (done:List Int)(hk:k<n):(cR done n).set k [.n ((done.count ((k:Nat):Int)+1:Nat):Int)]=cR (done++[(k:Int)]) n:=by
 apply wU;intro i;rw[zQ];by_cases hi:i<n
 .by_cases e:k=i
  .subst e
   rw[if_pos rfl,if_pos (by rw[pC];exact hi),YV _ hi,List.count_append];simp
  .rw[if_neg e,YV _ hi,YV _ hi,List.count_append]
   have:((k:Nat):Int)≠((i:Nat):Int):=U;simp [this]
 .rw[qZ (by rw[pC];omega)]
  split
  .simp_all
  .rw[qZ (by rw[pC];omega)]
theorem A6P (h:Hp)(n:Nat)(hn:n<=1048576):GV jA true h 221 (.n (n:Int)) (.n (n:Int))=some (.own h.length 0 n,h++[yE 1 (bR [] n)]):=by
 have hz:MJ jA 4=some [.bool false]:=AZ;have hr:room n 1:=G5 U U;unfold GV;simp only[A5O,sz4,A75,hz,qB];rw[if_pos ⟨U,wV _,hr,rfl⟩]
 have:bR [] n=jR n [.bool false]:=by
  apply wU;intro i;by_cases hi:i<n
  .rw[cF _ hi,List.getElem?_replicate,if_pos hi];simp
  .rw[qZ (by rw[AAB];omega),qZ LD]
 rw[this];simp
theorem A6M (h:Hp)(n:Nat)(hn:n<=1048576):GV jA true h 32 (.n (n:Int)) (.n (n:Int))=some (.own h.length 0 n,h++[yE 1 (cR [] n)]):=by
 have hz:MJ jA 3=some [.n 0]:=AZ;have hr:room n 8:=G5 U U;unfold GV;simp only[U4,sz3,YW,hz,qB];rw[if_pos ⟨U,wV _,hr,rfl⟩]
 have:cR [] n=jR n [.n 0]:=by
  apply wU;intro i;by_cases hi:i<n
  .rw[YV _ hi,List.getElem?_replicate,if_pos hi];simp
  .rw[qZ (by rw[pC];omega),qZ LD]
 rw[this];simp
theorem st_b {o:Nat}{rows:List (List AV)}(ho:h[o]?=some (yE 1 rows))(hj:∃v,rows[j]?=some [v])(b:Bool):DU jA h 4 (.ptr o j 0) (.bool b)=some (h.set o (yE 1 (rows.set j [.bool b]))):=by
 obtain⟨v,hv⟩:=hj;rw[G8 (cs:=[.bool b]) rfl sz4 ho hv BA];rfl
theorem A93 {o:Nat}{rows:List (List AV)}(ho:h[o]?=some (yE 1 rows))(hj:∃v,rows[j]?=some [v]):DU jA h 3 (.ptr o j 0) (.n x)=some (h.set o (yE 1 (rows.set j [.n x]))):=by
 obtain⟨v,hv⟩:=hj;rw[G8 (cs:=[.n x]) rfl sz3 ho hv BA];rfl
section
variable (G:Nat->AV)
theorem AHN (l:List Vr)(m:SM)(gs:List Gp)(s:SM)(hl:l.length<=1048576)(hg:gs.length<=1048576)(hw:(flG gs).length<=1048576)(h:Hp):PCall (En G) 107 [.sl m 4 (l.map encV),.sl s 1 (gs.map OH)] h (.bool (gOK l gs)):=by
 refine ACalls.pure0 rfl ?_;refine acT Tryz.func107 4 ?_;refine A7 (A6M h l.length hl) ?_;refine EU 0 (fun F H=>F 0=.sl m 4 (l.map encV)/\F 5=.own h.length 0 l.length/\H=h++[yE 1 (cR (flG gs) l.length)]/\(∀g∈gs,g.l≠[])/\∀x∈flG gs,0<=x/\x<l.length) (fun F H=>F 4=.bool (gOK l gs)/\ext h H) ?_ ?_ ?_
 .refine BK (fun n F H=>∃i,n+i=gs.length/\F 0=.sl m 4 (l.map encV)/\F 1=.sl s 1 (gs.map OH)/\F 5=.own h.length 0 l.length/\F 6=.n (i:Nat)/\H=h++[yE 1 (cR (flG (gs.take i)) l.length)]/\(∀g∈gs.take i,g.l≠[])/\∀x∈flG (gs.take i),0<=x/\x<l.length) gs.length ⟨0,BA,AQ,AQ,AQ,AQ,rfl,BA,by simp [flG]⟩ ?_
  rintro n F H ⟨i,hi,f0,f1,f5,f6,rfl,hne,hin⟩;refine BB f1 f6 ?_;refine D9 ?_ ?_<;>intro hi'
  .have lg:∀H:Hp,BI jA H 32 (.fptr 1 (gs.map OH) i 0)=some (.sl gs[i].m 1 (gs[i].l.map qencI)):=fun H=>by rw[CW NF hi'];rfl
   refine QD f1 f6 hi' lg ?_;refine BO ?_ ?_<;>intro hz
   .refine AB ?_
    exact⟨by rw[AKX (jG hi') (qV (BM hz))],_,rfl⟩
   have hnz:gs[i].l≠[]:=by simp_all
   refine AB ?_;refine EU 2 (fun F' H'=>F' 0=.sl m 4 (l.map encV)/\F' 1=.sl s 1 (gs.map OH)/\F' 5=.own h.length 0 l.length/\F' 6=.n (i:Nat)/\H'=h++[yE 1 (cR (flG (gs.take i)++gs[i].l) l.length)]/\∀x∈flG (gs.take i)++gs[i].l,0<=x/\x<l.length) (fun F' H'=>F' 4=.bool (gOK l gs)/\ext h H') ?_ ?_ ?_
   .refine BK (fun n' F' H'=>∃j,n'+j=gs[i].l.length/\F' 0=.sl m 4 (l.map encV)/\F' 1=.sl s 1 (gs.map OH)/\F' 5=.own h.length 0 l.length/\F' 6=.n (i:Nat)/\F' 7=.n (j:Nat)/\H'=h++[yE 1 (cR (flG (gs.take i)++gs[i].l.take j) l.length)]/\∀x∈flG (gs.take i)++gs[i].l.take j,0<=x/\x<l.length) gs[i].l.length ⟨0,BA,EI f0,EI f1,EI f5,EI f6,AQ,by rw[qI,jO],by rw[qI,jO];exact hin⟩ ?_
    clear f0 f1 f5 f6;rintro n' F H ⟨j,hj,f0,f1,f5,f6,f7,rfl,hin2⟩;refine aT f1 f6 f7 hi' lg ?_;refine D9 ?_ ?_<;>intro hj'
    .have hsp:=tY hi' hj'
     have hmem:gs[i].l[j]∈flG gs:=by rw[hsp];simp
     have l3:∀H:Hp,BI jA H 3 (.fptr 1 (gs[i].l.map qencI) j 0)=some (.n gs[i].l[j]):=fun H=>by rw[CW ag3 hj'];rfl
     refine NJ f1 f6 f7 hi' lg hj' l3 ?_;cases b1:decide (gs[i].l[j]<0)
     case true =>
      refine A7 b1 ?_;exact⟨by rw[xU hmem (by simp at b1;omega)],_,rfl⟩
     refine BB b1 f0 ?_;refine BO ?_ ?_<;>intro b2
     .refine AB ?_
      exact⟨by rw[xU hmem (by simp at b2;omega)],_,rfl⟩
     have h0:0<=gs[i].l[j]:=BM b1;obtain⟨k,hk⟩:=Int.eq_ofNat_of_zero_le h0;have hkl:k<l.length:=by rw[hk] at b2;simp at b2;omega
     have hb0:=AX h (yE 1 (cR (flG (gs.take i)++gs[i].l.take j) l.length));have hcnt:(flG (gs.take i)++gs[i].l.take j).count ((k:Nat):Int)<=1048576:=by grind
     have hjb:j<=1048576:=by grind
     have lc:BI jA (h++[yE 1 (cR (flG (gs.take i)++gs[i].l.take j) l.length)]) 3 (.ptr h.length k 0)=some (.n (((flG (gs.take i)++gs[i].l.take j).count ((k:Nat):Int):Nat):Int)):=by
      rw[BC ag3 hb0 (YV _ hkl)];rfl
     have hst:=A93 (x:=(((flG (gs.take i)++gs[i].l.take j).count ((k:Nat):Int)+1:Nat):Int)) hb0 (j:=k) ⟨_,YV _ hkl⟩;rw[A4T _ hkl,JZ] at hst
     have hap:(flG (gs.take i)++gs[i].l.take j)++[((k:Nat):Int)]=flG (gs.take i)++gs[i].l.take (j+1):=by
      rw[jU hj',hk,zG]
     simp only[vQ,OW,CP,↓reduceIte,jC,enP,LY,jQ,f5,hk,GM hb0 hkl,lc,wrap_succ (U:(flG (gs.take i)++gs[i].l.take j).count ((k:Nat):Int)<9223372036854775807),hst,f7,DC j];refine⟨n'-1,U,j+1,U,AL,AL,AL,AL,rfl,by rw[<-hap],fun x hx=>?_⟩;rw[<-hap] at hx;rcases zK.1 hx with hx|hx
     .exact hin2 x hx
     .simp_all
    .have e:gs[i].l.take j=gs[i].l:=jJ U
     rw[e] at hin2;refine AB ?_;exact⟨f0,f1,f5,f6,by rw[e],hin2⟩
   .rintro F' H' ⟨g0,g1,g5,g6,rfl,hin2⟩
    refine BB g6 (DC i) ?_;have hft:=AD2 hi';refine⟨n-1,U,i+1,U,AL,AL,AL,rfl,by rw[hft],fun g hg=>?_,by rw[hft];exact hin2⟩;rw[jU hi'] at hg;rcases zK.1 hg with hg|hg
    .exact hne g hg
    .grind
   .rintro F' H' ⟨g4,hx⟩
    refine A7 g4 ?_;exact⟨trivial,hx⟩
  .rw[jJ U] at hne hin
   refine AB ?_;exact⟨f0,f5,by rw[jJ U],hne,hin⟩
 .rintro F H ⟨f0,f5,rfl,hne,hin⟩
  have hb0:=AX h (yE 1 (cR (flG gs) l.length));have hx0:ext h (h++[yE 1 (cR (flG gs) l.length)]):=⟨_,rfl⟩
  generalize h++[yE 1 (cR (flG gs) l.length)]=H0 at hb0 hx0|-
  refine AB ?_;refine BK (fun n F H=>∃i,n+i=l.length/\(∀(j:Nat),j<i->∀hj:j<l.length,(flG gs).count ((j:Nat):Int)=if l[j].mode=0 then 0 else 1)/\F 0=.sl m 4 (l.map encV)/\F 5=.own h.length 0 l.length/\F 9=.n (i:Nat)/\H=H0) l.length ⟨0,BA,fun j hj=>absurd hj U,EI f0,EI f5,AQ,rfl⟩ ?_;clear f0 f5;rintro n F H ⟨i,hi,hb,f0,f5,f9,rfl⟩;refine BB f0 f9 ?_;refine D9 ?_ ?_<;>intro hi'
  .have l2:BI jA H 3 (.fptr 4 (l.map encV) i 2)=some (.n l[i].mode):=by rw[CW ag3 hi'];rfl
   have lc:BI jA H 3 (.ptr h.length i 0)=some (.n (((flG gs).count ((i:Nat):Int):Nat):Int)):=by
    rw[BC ag3 hb0 (YV _ hi')];rfl
   have nxt:(flG gs).count ((i:Nat):Int)=(if l[i].mode=0 then 0 else 1)->∀(j:Nat),j<i+1->∀hj:j<l.length,(flG gs).count ((j:Nat):Int)=if l[j].mode=0 then 0 else 1:=fun he j hj hl=>by
    rcases zB j i with h1|h1
    .exact hb j h1 hl
    .obtain rfl:j=i:=U
     exact he
   refine QD f0 f9 hi' l2 ?_;refine BO ?_ ?_<;>intro b1
   .have hm:l[i].mode=0:=BM b1
    simp only[vQ,CP,↓reduceIte,jC,enP,LY,f5,f9,GM hb0 hi',lc];refine BO ?_ ?_<;>intro b2
    .refine AB ?_
     refine⟨?_,hx0⟩;rw[dW hi' (by rw[if_pos hm];simp [bne] at b2;exact fun e=>b2 e)]
    .have he:=nxt (by rw[if_pos hm];simp [bne] at b2;exact b2)
     refine BB f9 (DC i) ?_;exact⟨n-1,U,i+1,U,he,AL,AL,rfl,trivial⟩
   .have hm:¬l[i].mode=0:=BM b1
    simp only[vQ,CP,↓reduceIte,jC,enP,LY,f5,f9,GM hb0 hi',lc];refine BO ?_ ?_<;>intro b2
    .refine AB ?_
     refine⟨?_,hx0⟩;rw[dW hi' (by rw[if_neg hm];intro e;rw[e] at b2;exact absurd b2 DT)]
    .have he:=nxt (by rw[if_neg hm];simp [bne] at b2;omega)
     refine BB f9 (DC i) ?_;exact⟨n-1,U,i+1,U,he,AL,AL,rfl,trivial⟩
  .refine AB ?_
   refine⟨?_,hx0⟩;rw[show gOK l gs=true from decide_eq_true ⟨hne,hin,fun i=>hb i.1 U i.2⟩]
 .rintro F H ⟨f4,hx⟩
  refine A7 f4 ?_;exact⟨trivial,hx⟩
end
section
variable (G:Nat->AV)
theorem ADQ (p:Pr)(hl:p.vars.length<=1048576)(hg:p.groups.length<=1048576)(hw:(flG p.groups).length<=1048576)(h:Hp):PCall (En G) 84 [.agg (CY p)] h (.n (if gOK p.vars p.groups=true then 0 else 1)):=by
 refine ACalls.pure0 rfl ?_;refine acT Tryz.func84 2 ?_;have ge:=AX h (yE 5 [CY p]);have hxx:=Sm.ext.r1 h (yE 5 [CY p]);refine A7 @QE ?_
 generalize h++[yE 5 [CY p]]=hb at ge hxx|-
 generalize h.length=eb at ge|-
 have nb:gOK p.vars p.groups=false->(AV.int .i64 1=AV.int .i64 (if gOK p.vars p.groups=true then 0 else 1)):=fun hh=>by rw[hh];rfl
 have l0:BI jA hb 22 (.ptr eb 0 0)=some (.sl p.vm 4 (p.vars.map encV)):=by rw[BC WZ ge (row:=CY p) rfl];rfl
 refine DW @oG l0 (A6P hb p.vars.length hl) ?_;have geA:∀x:ABlk,(hb++[x])[eb]?=some (yE 5 [CY p]):=fun x=>AO ge
 have l4:∀x:ABlk,BI jA (hb++[x]) 25 (.ptr eb 0 4)=some (.sl p.gm 1 (p.groups.map OH)):=fun x=>by rw[BC UJ (geA x) (row:=CY p) rfl];rfl
 have lp:∀x:ABlk,BI jA (hb++[x]) 27 (.ptr eb 0 0)=some (.agg (CY p)):=fun x=>by rw[ED lC cY (geA x) (row:=CY p) rfl (by rw[L8];exact jF 5)];rfl
 have l0A:∀x:ABlk,BI jA (hb++[x]) 22 (.ptr eb 0 0)=some (.sl p.vm 4 (p.vars.map encV)):=fun x=>by rw[BC WZ (geA x) (row:=CY p) rfl];rfl
 have hxA:∀x:ABlk,ext h (hb++[x]):=fun x=>hxx.app _
 refine A7 l4 ?_;refine EU 0 (fun F H=>F 1=.ptr eb 0 0/\F 3=.own hb.length 0 p.vars.length/\H=hb++[yE 1 (bR (flG p.groups) p.vars.length)]/\(∀g∈p.groups,g.l≠[])/\(∀x∈flG p.groups,PW p.vars x=true)/\∀x:Int,(flG p.groups).count x<=1) (fun F H=>F 2=.n (if gOK p.vars p.groups=true then 0 else 1)/\ext h H) ?_ ?_ ?_
 .refine BK (fun n F H=>∃i,n+i=p.groups.length/\F 1=.ptr eb 0 0/\F 3=.own hb.length 0 p.vars.length/\F 14=.sl p.gm 1 (p.groups.map OH)/\F 15=.n (p.groups.length:Nat)/\F 16=.n (i:Nat)/\H=hb++[yE 1 (bR (flG (p.groups.take i)) p.vars.length)]/\(∀g∈p.groups.take i,g.l≠[])/\(∀x∈flG (p.groups.take i),PW p.vars x=true)/\∀x:Int,(flG (p.groups.take i)).count x<=1) p.groups.length ⟨0,BA,AQ,AQ,AQ,AQ,AQ,rfl,BA,by simp [flG],by simp [flG]⟩ ?_
  rintro n F H ⟨i,hi,f1,f3,f14,f15,f16,rfl,hne,hin,hct⟩;refine BB f15 f16 ?_;refine D9 ?_ ?_<;>intro hi'
  .have lg:∀H:Hp,BI jA H 32 (.fptr 1 (p.groups.map OH) i 0)=some (.sl p.groups[i].m 1 (p.groups[i].l.map qencI)):=fun H=>by rw[CW NF hi'];rfl
   refine QD f14 f16 hi' lg ?_;refine BO ?_ ?_<;>intro hz
   .refine AB ?_
    exact⟨nb (AKX (jG hi') (qV (BM hz))),hxA _⟩
   have hnz:p.groups[i].l≠[]:=by
    intro e;rw[e] at hz;simp at hz
   refine AB ?_;refine EU 2 (fun F' H'=>F' 1=.ptr eb 0 0/\F' 3=.own hb.length 0 p.vars.length/\F' 14=.sl p.gm 1 (p.groups.map OH)/\F' 15=.n (p.groups.length:Nat)/\F' 16=.n (i:Nat)/\H'=hb++[yE 1 (bR (flG (p.groups.take i)++p.groups[i].l) p.vars.length)]/\(∀x∈flG (p.groups.take i)++p.groups[i].l,PW p.vars x=true)/\∀x:Int,(flG (p.groups.take i)++p.groups[i].l).count x<=1) (fun F' H'=>F' 2=.n (if gOK p.vars p.groups=true then 0 else 1)/\ext h H') ?_ ?_ ?_
   .refine BK (fun n' F' H'=>∃j,n'+j=p.groups[i].l.length/\F' 1=.ptr eb 0 0/\F' 3=.own hb.length 0 p.vars.length/\F' 14=.sl p.gm 1 (p.groups.map OH)/\F' 15=.n (p.groups.length:Nat)/\F' 16=.n (i:Nat)/\F' 23=.sl p.groups[i].m 1 (p.groups[i].l.map qencI)/\F' 24=.n (p.groups[i].l.length:Nat)/\F' 25=.n (j:Nat)/\H'=hb++[yE 1 (bR (flG (p.groups.take i)++p.groups[i].l.take j) p.vars.length)]/\(∀x∈flG (p.groups.take i)++p.groups[i].l.take j,PW p.vars x=true)/\∀x:Int,(flG (p.groups.take i)++p.groups[i].l.take j).count x<=1) p.groups[i].l.length
     ⟨0,BA,EI f1,EI f3,EI f14,EI f15,EI f16,AQ,AQ,AQ,by rw[qI,jO],by rw[qI,jO];exact hin,by rw[qI,jO];exact hct⟩ ?_
    clear f1 f3 f14 f15 f16;rintro n' F H ⟨j,hj,f1,f3,f14,f15,f16,f23,f24,f25,rfl,hin2,hct2⟩;refine BB f24 f25 ?_;refine D9 ?_ ?_<;>intro hj'
    .have hsp:=tY hi' hj'
     have hmem:p.groups[i].l[j]∈flG p.groups:=by rw[hsp];simp
     have l3:∀H:Hp,BI jA H 3 (.fptr 1 (p.groups[i].l.map qencI) j 0)=some (.n p.groups[i].l[j]):=fun H=>by rw[CW ag3 hj'];rfl
     refine aS f23 f25 hj' l3 f1 lp ?_;refine(X7 G p _ hl _).use ?_;cases b1:PW p.vars p.groups[i].l[j]
     .refine AB ?_
      exact⟨nb (AYN hmem b1),hxA _⟩
     obtain⟨k,hkl,hk,hm⟩:=Y9 b1;have hb0:=AX hb (yE 1 (bR (flG (p.groups.take i)++p.groups[i].l.take j) p.vars.length))
     have lc:BI jA (hb++[yE 1 (bR (flG (p.groups.take i)++p.groups[i].l.take j) p.vars.length)]) 4 (.ptr hb.length k 0)=some (.bool (decide (((k:Nat):Int)∈flG (p.groups.take i)++p.groups[i].l.take j))):=by
      rw[BC ag4 hb0 (cF _ hkl)];rfl
     have hst:=st_b hb0 (j:=k) ⟨_,cF _ hkl⟩ true;rw[A42 _ hkl,JZ] at hst
     have hap:(flG (p.groups.take i)++p.groups[i].l.take j)++[((k:Nat):Int)]=flG (p.groups.take i)++p.groups[i].l.take (j+1):=by
      rw[jU hj',hk,zG]
     have hjb:j<=1048576:=by
      have h2:p.groups[i].l.length<=(flG p.groups).length:=by
       rw[hsp];simp only[jX,zT,jZ,List.length_drop];omega
      omega
     simp only[vQ,EM,CP,rB,XT,↓reduceIte,jC,qP,enP,ASI,f3,hk,GM hb0 hkl,lc];refine BO ?_ ?_<;>intro b2
     .refine AB ?_
      refine⟨nb (dW hkl ?_),hxA _⟩;have h1:0<(flG (p.groups.take i)++p.groups[i].l.take j).count ((k:Nat):Int):=List.count_pos_iff.2 (BM b2);rw[if_neg hm,hsp,List.count_append,hk,List.count_cons_self];omega
     .have hnin:¬((k:Nat):Int)∈flG (p.groups.take i)++p.groups[i].l.take j:=BM b2
      simp only[vQ,OW,CP,↓reduceIte,jC,enP,ASI,jQ,f3,GM hb0 hkl,hst,f25,DC j];refine⟨n'-1,U,j+1,U,AL,AL,AL,AL,AL,AL,AL,rfl,by rw[<-hap],fun x hx=>?_,fun x=>?_⟩
      .rw[<-hap] at hx
       rcases zK.1 hx with hx|hx
       .exact hin2 x hx
       .rw[wI] at hx
        rw[hx,<-hk];exact b1
      .rw[<-hap,List.count_append]
       have h1:=hct2 x;by_cases hxk:((k:Nat):Int)=x
       .subst hxk
        rw[List.count_eq_zero.2 hnin];simp
       .rw[List.count_append] at h1
        simp [hxk];exact h1
    .have e:p.groups[i].l.take j=p.groups[i].l:=jJ U
     rw[e] at hin2 hct2;refine AB ?_;exact⟨f1,f3,f14,f15,f16,by rw[e],hin2,hct2⟩
   .rintro F' H' ⟨g1,g3,g14,g15,g16,rfl,hin2,hct2⟩
    refine BB g16 (DC i) ?_;have hft:=AD2 hi';refine⟨n-1,U,i+1,U,AL,AL,AL,AL,rfl,by rw[hft],fun g hg=>?_,by rw[hft];exact hin2,by rw[hft];exact hct2⟩;rw[jU hi'] at hg;rcases zK.1 hg with hg|hg
    .exact hne g hg
    .rw[wI] at hg;rw[hg];exact hnz
   .rintro F' H' ⟨g2,hx⟩
    refine A7 g2 ?_;exact⟨trivial,hx⟩
  .rw[jJ U] at hne hin hct
   refine AB ?_;exact⟨f1,f3,by rw[jJ U],hne,hin,hct⟩
 .rintro F H ⟨f1,f3,rfl,hne,hin,hct⟩
  have hb0:=AX hb (yE 1 (bR (flG p.groups) p.vars.length));have l0':=l0A (yE 1 (bR (flG p.groups) p.vars.length));have lp':=lp (yE 1 (bR (flG p.groups) p.vars.length));have hx0:=hxA (yE 1 (bR (flG p.groups) p.vars.length))
  generalize hb++[yE 1 (bR (flG p.groups) p.vars.length)]=H0 at hb0 hx0 l0' lp'|-
  refine BB f1 l0' ?_;refine BK (fun n F H=>∃i,n+i=p.vars.length/\(∀(j:Nat),j<i->j<p.vars.length->PW p.vars (j:Nat)=true->((j:Nat):Int)∈flG p.groups)/\F 1=.ptr eb 0 0/\F 3=.own hb.length 0 p.vars.length/\F 46=.n (p.vars.length:Nat)/\F 47=.n (i:Nat)/\H=H0) p.vars.length ⟨0,BA,fun j hj=>absurd hj U,EI f1,EI f3,AQ,AQ,rfl⟩ ?_;clear f1 f3;rintro n F H ⟨i,hi,hbb,f1,f3,f46,f47,rfl⟩;refine BB f46 f47 ?_;refine D9 ?_ ?_<;>intro hi'
  .have lc:BI jA H 4 (.ptr hb.length i 0)=some (.bool (decide (((i:Nat):Int)∈flG p.groups))):=by
    rw[BC ag4 hb0 (cF _ hi')];rfl
   refine DW f1 f47 lp' ?_;refine(X7 G p _ hl _).use ?_
   have nxt:(PW p.vars (i:Nat)=true->((i:Nat):Int)∈flG p.groups)->∀(j:Nat),j<i+1->j<p.vars.length->PW p.vars (j:Nat)=true->((j:Nat):Int)∈flG p.groups:=fun he j hj hl hr=>by
    rcases zB j i with h1|h1
    .exact hbb j h1 hl hr
    .obtain rfl:j=i:=U
     exact he hr
   cases b1:PW p.vars ((i:Nat):Int)
   .have he:=nxt (fun q=>by rw[b1] at q;cases q)
    refine BB f47 (DC i) ?_;exact⟨n-1,U,i+1,U,he,AL,AL,AL,rfl,trivial⟩
   simp only[vQ,EM,QH,CP,rB,XT,↓reduceIte,jC,enP,ASI,f3,f47,GM hb0 hi',lc];refine BO ?_ ?_<;>intro b2
   .refine AB ?_
    refine⟨nb (dW hi' ?_),hx0⟩;have h1:¬((i:Nat):Int)∈flG p.groups:=BM b2;have h2:¬p.vars[i].mode=0:=by rw[ZA hi'] at b1;simpa using b1
    rw[if_neg h2,List.count_eq_zero.2 h1];decide
   .have he:=nxt (fun _=>BM b2)
    refine BB f47 (DC i) ?_;exact⟨n-1,U,i+1,U,he,AL,AL,AL,rfl,trivial⟩
  .refine AB ?_
   refine⟨?_,hx0⟩
   have:gOK p.vars p.groups=true:=decide_eq_true ⟨hne,fun x hx=>by
    obtain⟨k,hk,rfl,_⟩:=Y9 (hin x hx);omega,fun j=>by
    by_cases hr:PW p.vars ((j.1:Nat):Int)=true
    .have h1:=List.count_pos_iff.2 (hbb j.1 U j.2 hr)
     have h2:=hct ((j.1:Nat):Int);rw[ZA j.2] at hr;rw[if_neg (BM hr)];omega
    .have h1:¬((j.1:Nat):Int)∈flG p.groups:=fun hm=>hr (hin _ hm)
     rw[ZA j.2] at hr;rw[if_pos (BM hr)]
     exact List.count_eq_zero.2 h1⟩
   rw[this];rfl
 .rintro F H ⟨f2,hx⟩
  refine A7 f2 ?_;exact⟨trivial,hx⟩
end
structure PrS (p:Pr):Prop where
 vars:p.vars.length<=1048576
 names:∀v∈p.vars,v.name.size<=1048576
 exprs:p.hard.length+p.soft.length<=1048576
 wts:∀e∈p.hard++p.soft,wt e<=1048576
 dists:p.dists.length<=1048576
 ws:∀d∈p.dists,d.ws.length<=1048576
 groups:p.groups.length<=1048576
 members:(flG p.groups).length<=1048576
def IX (p:Pr):Int:=if KO p.vars≠0 then KO p.vars else if KC p.vars (p.hard++p.soft)≠0 then KC p.vars (p.hard++p.soft) else if NV p.vars p.dists≠0 then NV p.vars p.dists else if gOK p.vars p.groups=true then 0 else 1
section
variable (G:Nat->AV)
theorem AE1 (fs:List (FuncId×List AV×Int))(b:Nat)(hn:fs.length<=1048576)(h:Hp)(hb:h[b]?=some (yE 1 (fs.map fun x=>[.fn (.func x.1) [] x.2.1])))(hf:∀x∈fs,PCall (En G) x.1 ([]++x.2.1) h (.n x.2.2)):PCall (En G) 76 [.own b 0 fs.length] h (.n (fstE (fun x=>x.2.2) fs)):=by
 refine ACalls.pure0 rfl ?_;refine acT Tryz.func76 2 ?_;refine A7 A6U ?_;refine EU 0 (fun F H=>H=h/\∀x∈fs,x.2.2=0) (fun F H=>F 2=.n (fstE (fun x=>x.2.2) fs)/\ext h H) ?_ ?_ ?_
 .refine BK (fun n F H=>∃i,n+i=fs.length/\F 6=.own b 0 fs.length/\F 7=.n (fs.length:Nat)/\F 8=.n (i:Nat)/\H=h/\∀(j:Nat) (hj:j<i) (hl:j<fs.length),fs[j].2.2=0) fs.length ⟨0,BA,AQ,AQ,AQ,rfl,by intro j hj;omega⟩ ?_
  rintro n F H ⟨i,hi,f6,f7,f8,rfl,hz⟩;refine BB f7 f8 ?_;refine D9 ?_ ?_<;>intro hi'
  .have lf:BI jA H 150 (.ptr b i 0)=some (.fn (.func fs[i].1) [] fs[i].2.1):=by
    rw[BC (row:=[.fn (.func fs[i].1) [] fs[i].2.1]) A9F hb (by rw[List.getElem?_map,jI hi'];rfl)];rfl
   simp only[vQ,CP,qH,↓reduceIte,jC,enP,A64,f6,f8,GM hb hi',lf];refine(hf _ (jG hi')).uu ?_;refine BO ?_ ?_<;>intro hz'
   .refine AB ?_
    exact⟨by rw[TP (fun x:FuncId×List AV×Int=>x.2.2) fs i hi' (fun j hj=>hz j hj U) (by simpa using hz')],ext.rfl' _⟩
   .refine BB f8 (DC i) ?_
    refine⟨n-1,U,i+1,U,AL,AL,rfl,trivial,fun j hj hl=>?_⟩;rcases zB j i with h1|h1
    .exact hz j h1 hl
    .obtain rfl:j=i:=U
     simpa using hz'
  .refine AB ?_
   refine⟨trivial,fun x hx=>?_⟩;obtain⟨j,hj,rfl⟩:=qF hx;exact hz j U hj
 .rintro F H ⟨rfl,hz⟩
  refine AB ?_;exact⟨by rw[QL _ fs fun j hj=>hz _ (jG hj)],ext.rfl' _⟩
 .rintro F H ⟨f2,hx⟩
  refine A7 f2 ?_;exact⟨trivial,hx⟩
theorem AZP (hG:GOk G)(p:Pr)(hs:PrS p)(b:Nat)(h:Hp)(hb:h[b]?=some (yE 5 [CY p])):PCall (En G) 77 ([]++[.ptr b 0 0]) h (.n (KO p.vars)):=by
 refine acT Tryz.func77 1 ?_;have l0:BI jA h 22 (.ptr b 0 0)=some (.sl p.vm 4 (p.vars.map encV)):=by rw[BC WZ hb (row:=CY p) rfl];rfl
 refine A7 l0 ?_;refine(AME G hG p.vars p.vm h hs.vars hs.names).uu ?_;exact H7
theorem AZO (hG:GOk G)(p:Pr)(hs:PrS p)(b:Nat)(h:Hp)(hb:h[b]?=some (yE 5 [CY p])):PCall (En G) 79 ([]++[.ptr b 0 0]) h (.n (KC p.vars (p.hard++p.soft))):=by
 refine acT Tryz.func79 1 ?_;have lp:BI jA h 27 (.ptr b 0 0)=some (.agg (CY p)):=by rw[ED lC cY hb (row:=CY p) rfl (by rw[L8];exact jF 5)];rfl
 refine A7 lp ?_;refine(AHY G hG p hs.vars hs.exprs hs.wts h).uu ?_;exact H7
theorem AZN (p:Pr)(hs:PrS p)(b:Nat)(h:Hp)(hb:h[b]?=some (yE 5 [CY p])):PCall (En G) 81 ([]++[.ptr b 0 0]) h (.n (NV p.vars p.dists)):=by
 refine acT Tryz.func81 1 ?_;have lp:BI jA h 27 (.ptr b 0 0)=some (.agg (CY p)):=by rw[ED lC cY hb (row:=CY p) rfl (by rw[L8];exact jF 5)];rfl
 refine A7 lp ?_;refine(AH1 G p hs.vars hs.dists hs.ws h).uu ?_;exact H7
theorem AZM (p:Pr)(hs:PrS p)(b:Nat)(h:Hp)(hb:h[b]?=some (yE 5 [CY p])):PCall (En G) 83 ([]++[.ptr b 0 0]) h (.n (if gOK p.vars p.groups=true then 0 else 1)):=by
 refine acT Tryz.func83 1 ?_;have lp:BI jA h 27 (.ptr b 0 0)=some (.agg (CY p)):=by rw[ED lC cY hb (row:=CY p) rfl (by rw[L8];exact jF 5)];rfl
 refine A7 lp ?_;refine(ADQ G p hs.vars hs.groups hs.members h).uu ?_;exact H7
theorem A8I (h:Hp)(a b c d:Fn)(k l m n:List AV):DF jA true h 212 4 [(0,.fn a [] k),(1,.fn b [] l),(2,.fn c [] m),(3,.fn d [] n)]=some (.own h.length 0 4,h++[yE 1 [[.fn a [] k],[.fn b [] l],[.fn c [] m],[.fn d [] n]]]):=AZ
theorem valid_prog (hG:GOk G)(p:Pr)(hs:PrS p)(h:Hp):PCall (En G) 40 [.agg (CY p)] h (.n (IX p)):=by
 refine ACalls.pure0 rfl ?_;refine IP (H:=hint [7] []) (enM G) Tryz.func40 rfl (by kernel_rfl) (by kernel_rfl) (jB (by kernel_rfl)) ?_;show awp _ _ _ _ _ (L6 _ [.tmp 2] _);have ge:=AX h (yE 5 [CY p]);have hxx:=Sm.ext.r1 h (yE 5 [CY p]);refine BB @QE A8I ?_
 generalize h++[yE 5 [CY p]]=hb at ge hxx|-
 generalize h.length=eb at ge|-
 have hx2:=hxx.app [yE 1 [[AV.fn (.func 77) [] [.ptr eb 0 0]],[.fn (.func 79) [] [.ptr eb 0 0]],[.fn (.func 81) [] [.ptr eb 0 0]],[.fn (.func 83) [] [.ptr eb 0 0]]]];have ge2:=AO (x:=yE 1 [[AV.fn (.func 77) [] [.ptr eb 0 0]],[.fn (.func 79) [] [.ptr eb 0 0]],[.fn (.func 81) [] [.ptr eb 0 0]],[.fn (.func 83) [] [.ptr eb 0 0]]]) ge;refine(AE1 G [(77,[.ptr eb 0 0],KO p.vars),(79,[.ptr eb 0 0],KC p.vars (p.hard++p.soft)),(81,[.ptr eb 0 0],NV p.vars p.dists),(83,[.ptr eb 0 0],if gOK p.vars p.groups=true then 0 else 1)] hb.length BA _ (AX _ _) ?_).use ?_
 .intro x hx
  simp only[zN,List.not_mem_nil,or_false] at hx;rcases hx with rfl|rfl|rfl|rfl
  .exact AZP G hG p hs eb _ ge2
  .exact AZO G hG p hs eb _ ge2
  .exact AZN G p hs eb _ ge2
  .exact AZM G p hs eb _ ge2
 .refine AB ?_
  refine⟨?_,hx2⟩;simp only[fstE,IX];by_cases h1:KO p.vars≠0
  .rw[if_pos h1,if_pos h1]
  rw[if_neg h1,if_neg h1];by_cases h2:KC p.vars (p.hard++p.soft)≠0
  .rw[if_pos h2,if_pos h2]
  rw[if_neg h2,if_neg h2];by_cases h3:NV p.vars p.dists≠0
  .rw[if_pos h3,if_pos h3]
  rw[if_neg h3,if_neg h3];cases gOK p.vars p.groups<;>rfl
theorem valid_ref (p:Pr)(hs:PrS p)(h:Hp):PCall (En G) 48 [.agg (CY p)] h (.n (IX p)):=by
 refine ACalls.pure0 rfl ?_;refine acT Tryz.func48 2 ?_;have ge:=AX h (yE 5 [CY p]);have hxx:=Sm.ext.r1 h (yE 5 [CY p]);refine A7 @QE ?_
 generalize h++[yE 5 [CY p]]=hb at ge hxx|-
 generalize h.length=eb at ge|-
 have l0:BI jA hb 22 (.ptr eb 0 0)=some (.sl p.vm 4 (p.vars.map encV)):=by rw[BC WZ ge (row:=CY p) rfl];rfl
 have l1:BI jA hb 23 (.ptr eb 0 1)=some (.sl p.hm 4 (p.hard.map A8)):=by rw[BC LM ge (row:=CY p) rfl];rfl
 have l2:BI jA hb 23 (.ptr eb 0 2)=some (.sl p.sm 4 (p.soft.map A8)):=by rw[BC LM ge (row:=CY p) rfl];rfl
 have l3:BI jA hb 24 (.ptr eb 0 3)=some (.sl p.dm 2 (p.dists.map IK)):=by rw[BC AU5 ge (row:=CY p) rfl];rfl
 have l4:BI jA hb 25 (.ptr eb 0 4)=some (.sl p.gm 1 (p.groups.map OH)):=by rw[BC UJ ge (row:=CY p) rfl];rfl
 have hex:=hs.exprs;have happ:KC p.vars (p.hard++p.soft)=if KC p.vars p.hard≠0 then KC p.vars p.hard else KC p.vars p.soft:=fstE_app _ _ _
 refine A7 l0 ?_;refine(rC G p.vars p.vm hb hs.vars hs.names).uu ?_;refine BO ?_ ?_<;>intro h1
 .refine AB ?_
  have h1:KO p.vars≠0:=BM h1;exact⟨by unfold IX;rw[if_pos h1],hxx⟩
 have h1:¬KO p.vars≠0:=BM h1;refine DW @bU l0 l1 ?_;refine(XB G p.vars p.vm hs.vars p.hard p.hm U (fun e he=>hs.wts e (zK.2 (.inl he))) hb).uu ?_;refine BO ?_ ?_<;>intro h2
 .refine AB ?_
  have h2:KC p.vars p.hard≠0:=BM h2;rw[if_pos h2] at happ;exact⟨by unfold IX;rw[if_neg h1,happ,if_pos h2],hxx⟩
 have h2:¬KC p.vars p.hard≠0:=BM h2;rw[if_neg h2] at happ;refine DW @oH l0 l2 ?_;refine(XB G p.vars p.vm hs.vars p.soft p.sm U (fun e he=>hs.wts e (zK.2 (.inr he))) hb).uu ?_;refine BO ?_ ?_<;>intro h3
 .refine AB ?_
  have h3:KC p.vars p.soft≠0:=BM h3;exact⟨by unfold IX;rw[if_neg h1,happ,if_pos h3],hxx⟩
 have h3:¬KC p.vars p.soft≠0:=BM h3;refine BB l0 l3 ?_;refine(AO1 G p.vars p.vm p.dists p.dm hs.vars hs.dists hs.ws hb).uu ?_;refine BO ?_ ?_<;>intro h4
 .refine AB ?_
  have h4:NV p.vars p.dists≠0:=BM h4;exact⟨by unfold IX;rw[if_neg h1,happ,if_neg h3,if_pos h4],hxx⟩
 have h4:¬NV p.vars p.dists≠0:=BM h4;refine DW @oG l0 l4 ?_;refine(AHN G p.vars p.vm p.groups p.gm hs.vars hs.groups hs.members hb).uu ?_;refine BO ?_ ?_<;>intro h5
 .refine AB ?_
  have h5:¬gOK p.vars p.groups=true:=BM h5;exact⟨by unfold IX;rw[if_neg h1,happ,if_neg h3,if_neg h4,if_neg h5],hxx⟩
 .refine AB ?_
  have h5:gOK p.vars p.groups=true:=BM h5;exact⟨by unfold IX;rw[if_neg h1,happ,if_neg h3,if_neg h4,if_pos h5],hxx⟩
end
end Go.Proofs.YtiihpnicbekebaaGreatDoor.Bd
namespace Go.Proofs.YtiihpnicbekebaaGreatDoor.Bd
open Sm Bins Cov Xe Wd Go.RowKit
def GI (vars:List Vr)(a:List Int):List Sg:=List.zipWith (fun v z=>(v.name,z)) vars a
theorem RG {vars:List Vr}{a:List Int}(h:a.length=vars.length):(GI vars a).length=vars.length:=by unfold GI;simp;omega
theorem ZO {vars:List Vr}{a:List Int}{i:Nat}(h1:i<vars.length)(h2:i<a.length)(h:i<(GI vars a).length):(GI vars a)[i]=(vars[i].name,a[i]):=by simp [GI]
theorem A8L (n:ByteArray)(z:Int):I5 jA 209 [(0,.str n),(1,.n z)]=some (.agg (FU (n,z))):=AZ
theorem A8E (h:Hp)(s:Sg):DF jA false h 137 1 [(0,.agg (FU s))]=some (.sl .full 2 [FU s],h):=AZ
theorem A7B:Frz FU:=fun _ _ _ _=>⟨rfl,rfl⟩
end Go.Proofs.YtiihpnicbekebaaGreatDoor.Bd
namespace Go.Proofs.YtiihpnicbekebaaGreatDoor.Bl
open Sm Bins Cov Xe Wd Bd Go.RowKit
variable {p:Pr} {a:List Int}
def QCall (E:Env)(f:FuncId)(args:List AV)(h:Hp)(Q:AV->Prop):Prop:=ACalls E.nox f args h fun v h'=>Q v/\h'=h
theorem QCall.use {E:Env}{f:FuncId}{args:List AV}{h:Hp}{Q:AV->Prop}{K:AV->Hp->Prop}(hc:QCall E f args h Q)(hk:∀r,Q r->K r h):ACalls E f args h K :=
 ACalls.mono (ACalls.ofNox hc) fun r _ ⟨e1,e2⟩=>by rw[e2];exact hk r e1
theorem ACalls.pureQ {E:Env}{f:FuncId}{args:List AV}{h:Hp}{R:AV->Hp->Prop}{Q:AV->Prop}(d:Nat)(hc:ACalls E f args h R)
  (hk:∀v h',R v h'->ext h h'/\Q (FH h.length h' d v)) (hX:E.nox=E:=by rfl):QCall E f args h Q:=by
 unfold QCall;rw[hX];refine hc.trunc fun v h' hR=>?_
 obtain⟨⟨x,rfl⟩,hr⟩:=hk v h' hR;exact⟨d,h,rfl,fun b hb=>.inr (.inl ⟨by rw[qM hb],by rw[qM hb]⟩),hr,rfl⟩
theorem QCall.args {E:Env}{f:FuncId}{args args':List AV}{h:Hp}{Q:AV->Prop}(hc:QCall E f args' h Q)(ha:CvRL args args'):QCall E f args h Q:=ACalls.args hc ha
theorem ATJ {h H:Hp}(hk:∀(k:Nat) (y:ABlk),h[k]?=some y->H[k]?=some y)(_:h.length<=H.length):ext h H:=by
 refine⟨H.drop h.length,?_⟩;apply List.ext_getElem?;intro i;by_cases hi:i<h.length
 .grind
 .grind
theorem getD_set_eq {l:List Int}{i:Nat}(h:i<l.length)(x:Int):(l.set i x).getD i 0=x:=by simp_all
theorem getD_set_ne {l:List Int}{i j:Nat}(h:i≠j)(x:Int):(l.set i x).getD j 0=l.getD j 0:=by simp_all
theorem A22 {a:Nat}(h:a<=8):(2:Int)^a<=256:=by
 have:a=0\/a=1\/a=2\/a=3\/a=4\/a=5\/a=6\/a=7\/a=8:=U;rcases this with rfl|rfl|rfl|rfl|rfl|rfl|rfl|rfl|rfl<;>decide
theorem PQ {v:Vr}(h:vrE v=0):FX v.name=true/\1<=v.width/\v.width<=8/\0<=v.mode/\v.mode<=2/\0<=v.value/\v.value<2^v.width.toNat/\(v.mode≠0->v.value=0):=by
 unfold vrE at h;by_cases hv:FX v.name=true
 .rw[if_pos hv] at h
  have hb:OI v=false:=by simp_all
  unfold OI at hb;simp only[Bool.or_eq_false_iff,decide_eq_false_iff_not,Bool.and_eq_false_iff] at hb;obtain⟨⟨⟨⟨⟨⟨h1,h2⟩,h3⟩,h4⟩,h5⟩,h6⟩,h7⟩:=hb;refine⟨hv,U,U,U,U,U,U,fun hm=>?_⟩;rcases h7 with q|q
  .simp at q;omega
  .simpa using q
 .simp_all
structure PV (p:Pr):Prop where
 len:p.vars.length<=16
 vr:∀v∈p.vars,vrE v=0
 nd:∀(i:Nat) (hi:i<p.vars.length),plc (p.vars.take i) p.vars[i].name<0
 bits:J5 p.vars<=20
 g:gOK p.vars p.groups=true
theorem PV.of (h:IX p=0):PV p:=by
 unfold IX at h;have h1:KO p.vars=0:=by omega
 rw[if_neg (BM h1)] at h;have h2:KC p.vars (p.hard++p.soft)=0:=by omega
 rw[if_neg (BM h2)] at h;have h3:NV p.vars p.dists=0:=by omega
 rw[if_neg (BM h3)] at h;have h4:gOK p.vars p.groups=true:=by simp_all
 unfold KO at h1;have a1:¬p.vars.length>16:=fun q=>by rw[if_pos q] at h1;exact absurd h1 DT
 rw[if_neg a1] at h1;have a2:Bd.fstE vrE p.vars=0:=by omega
 rw[if_neg (BM a2)] at h1;have a3:yV p.vars=false:=by grind
 rw[if_neg (by rw[a3];decide)] at h1;have a4:(p.vars.any fun v=>PP p.vars v.name)=false:=by grind
 rw[if_neg (by rw[a4];decide)] at h1;have a5:¬J5 p.vars>20:=fun q=>by rw[if_pos q] at h1;exact absurd h1 DT
 refine⟨U,fun v hv=>fstE_zero a2 v hv,fun i hi=>?_,U,h4⟩;have:=of_decide_eq_false a3;have q:¬0<=plc (p.vars.take i) p.vars[i].name:=fun q=>this ⟨⟨i,hi⟩,q⟩
 omega
structure AOk (p:Pr) (a:List Int):Prop where
 len:a.length=p.vars.length
 st:∀(i:Nat) (hi:i<p.vars.length),p.vars[i].mode=0->a.getD i 0=p.vars[i].value
 rn:∀(i:Nat) (hi:i<p.vars.length),p.vars[i].mode≠0->0<=a.getD i 0/\a.getD i 0<2^p.vars[i].width.toNat
theorem AOk.rng (P:PV p)(h:AOk p a)(i:Nat)(hi:i<p.vars.length):0<=a.getD i 0/\a.getD i 0<256:=by
 obtain⟨_,w1,w8,_,_,v0,v1,_⟩:=PQ (P.vr _ (jG hi));have hp:=A22 (U:p.vars[i].width.toNat<=8);by_cases hm:p.vars[i].mode=0
 .rw[h.st i hi hm];omega
 .have:=h.rn i hi hm;omega
def nxK (vs:List Vr):Nat->List Int->Option (List Int)
 | 0,_=>none
 | k+1,a=>match vs[k]? with
   | some v=>if v.mode=0 then nxK vs k a else if a.getD k 0+1<2^v.width.toNat then some (a.set k (a.getD k 0+1)) else nxK vs k (a.set k 0)
   | none=>none
def rkP (vs:List Vr)(a:List Int):Nat->Nat
 | 0=>0
 | k+1=>match vs[k]? with
   | some v=>if v.mode=0 then rkP vs a k else rkP vs a k*2^v.width.toNat+(a.getD k 0).toNat
   | none=>rkP vs a k
def kK (vs:List Vr):Nat->Nat
 | 0=>1
 | k+1=>match vs[k]? with
   | some v=>if v.mode=0 then kK vs k else kK vs k*2^v.width.toNat
   | none=>kK vs k
theorem lF (vs:List Vr)(a:List Int)(z:Int):∀(k i:Nat),k<=i->rkP vs (a.set i z) k=rkP vs a k
 | 0,_,_=>rfl
 | k+1,i,h=>by
   simp only[rkP];rw[lF vs a z k i U,getD_set_ne U]
theorem dH {p:Pr}:∀(k:Nat) (a:List Int),k<=p.vars.length->AOk p a->match nxK p.vars k a with
  | some a'=>AOk p a'/\rkP p.vars a' k=rkP p.vars a k+1/\∀i,k<=i->a'.getD i 0=a.getD i 0
  | none=>True
 | 0,a,_,_=>trivial
 | k+1,a,hk,h=>by
   have hk':k<p.vars.length:=U;have hak:k<a.length:=by rw[h.len];exact hk'
   unfold nxK;simp only[jI hk'];by_cases hm:p.vars[k].mode=0
   .rw[if_pos hm]
    have ih:=dH k a U h
    cases hn:nxK p.vars k a with
    | none=>trivial
    | some a' =>
      rw[hn] at ih;obtain⟨i1,i2,i3⟩:=ih;refine⟨i1,?_,fun i hi=>i3 i U⟩;simp only[rkP,jI hk',if_pos hm];exact i2
   .rw[if_neg hm]
    obtain⟨q0,q1⟩:=h.rn k hk' hm
    have setok:∀z:Int,0<=z->z<2^p.vars[k].width.toNat->AOk p (a.set k z):=fun z z0 z1=>by
     refine⟨by rw[List.length_set];exact h.len,fun i hi hmi=>?_,fun i hi hmi=>?_⟩
     .by_cases e:i=k
      .subst e;exact absurd hmi hm
      .rw[getD_set_ne (fun q=>e q.symm)];exact h.st i hi hmi
     .by_cases e:i=k
      .simp_all
      .rw[getD_set_ne (fun q=>e q.symm)];exact h.rn i hi hmi
    by_cases hz:a.getD k 0+1<2^p.vars[k].width.toNat
    .rw[if_pos hz]
     refine⟨setok _ U hz,?_,fun i hi=>getD_set_ne U _⟩;simp only[rkP,jI hk',if_neg hm];rw[lF _ _ _ _ _ (jF k),getD_set_eq hak];omega
    .rw[if_neg hz]
     have hp:(0:Int)<2^p.vars[k].width.toNat:=Int.pow_pos DT;have ih:=dH k (a.set k 0) U (setok 0 (Int.le_refl 0) hp)
     cases hn:nxK p.vars k (a.set k 0) with
     | none=>trivial
     | some a' =>
       rw[hn] at ih;obtain⟨i1,i2,i3⟩:=ih;refine⟨i1,?_,fun i hi=>by rw[i3 i U];exact getD_set_ne U _⟩;simp only[rkP,jI hk',if_neg hm];rw[i2,i3 k (jF k),getD_set_eq hak,lF _ _ _ _ _ (jF k)];have e:(((2:Nat)^p.vars[k].width.toNat:Nat):Int)=2^p.vars[k].width.toNat:=by rw[Int.natCast_pow];rfl
       have:(a.getD k 0).toNat+1=2^p.vars[k].width.toNat:=U;rw[qE];simp only[Int.toNat_zero];omega
theorem vV {p:Pr}{a:List Int}(h:AOk p a):∀k,k<=p.vars.length->rkP p.vars a k<kK p.vars k
 | 0,_=>by simp [rkP,kK]
 | k+1,hk=>by
   have hk':k<p.vars.length:=U;have ih:=vV h k U;simp only[rkP,kK,jI hk'];by_cases hm:p.vars[k].mode=0
   .rw[if_pos hm,if_pos hm];exact ih
   .rw[if_neg hm,if_neg hm]
    obtain⟨q0,q1⟩:=h.rn k hk' hm;have e:(((2:Nat)^p.vars[k].width.toNat:Nat):Int)=2^p.vars[k].width.toNat:=by rw[Int.natCast_pow];rfl
    have h1:(a.getD k 0).toNat<2^p.vars[k].width.toNat:=U;have h2:(rkP p.vars a k+1)*2^p.vars[k].width.toNat<=kK p.vars k*2^p.vars[k].width.toNat:=Nat.mul_le_mul_right _ ih;rw[qE] at h2;omega
def TE (p:Pr)(l:List Ex)(a:List Int):Bool:=l.all fun e => !(FV (GI p.vars a) e==0)
def kL (p:Pr)(l:List Ex):Nat->List Int->Option (List Int)
 | 0,_=>none
 | n+1,a=>if TE p l a=true then some a else match nxK p.vars p.vars.length a with
   | some b=>kL p l n b
   | none=>none
def lft (p:Pr)(a:List Int):Nat:=kK p.vars p.vars.length-rkP p.vars a p.vars.length
theorem AKL (h:AOk p a):0<lft p a:=by
 have:=vV h p.vars.length (jF _);unfold lft;omega
theorem nL {b:List Int}(h:AOk p a)(hn:nxK p.vars p.vars.length a=some b):AOk p b/\lft p b+1=lft p a:=by
 have hs:=dH p.vars.length a (jF _) h;rw[hn] at hs;obtain⟨h1,h2,_⟩:=hs;have h3:=vV h1 p.vars.length (jF _);exact⟨h1,by unfold lft;omega⟩
def YN (p:Pr):List Int:=p.vars.map Vr.value
theorem AK0 (P:PV p):AOk p (YN p):=by
 have hg:∀(i:Nat) (hi:i<p.vars.length),(YN p).getD i 0=p.vars[i].value:=fun i hi=>by
  unfold YN;rw[List.getD_eq_getElem?_getD,List.getElem?_map,jI hi];rfl
 refine⟨by unfold YN;simp,fun i hi _=>hg i hi,fun i hi hm=>?_⟩;obtain⟨_,_,_,_,_,v0,v1,_⟩:=PQ (P.vr _ (jG hi));rw[hg i hi];exact⟨v0,v1⟩
def TJ (p:Pr)(l:List Ex):Option (List Int):=kL p l (lft p (YN p)) (YN p)
end Go.Proofs.YtiihpnicbekebaaGreatDoor.Bl
namespace Go.Proofs.YtiihpnicbekebaaGreatDoor.Xe
open Sm Bins Cov Wd Go.RowKit
variable {H H' h:Hp} {b co i j k n0 o po q:Nat} {xs:List Int} {p:Pt} {n:Int} {C P xss:List (List Int)} {bs cbs pb:List Nat} {m:Mo} {x y:Is} {l:List (List Sg)} (G:Nat->AV )
def outW (v:Int):Bool:=decide (v<0)||decide (v>65535)
def lastB (xs:List Int):Bool:=decide (xs.length<=7) && !xs.any outW
theorem ATV (n:Int):(qencI n)[0]?=some (.n n):=rfl
section
variable (G:Nat->AV)
theorem AW5 (v:Int)(h:Hp):PCall (En G) 320 [.n v] h (.bool (outW v)):=by
 refine acT Tryz.func320 2 ?_;refine AB ?_;cases h1:decide (v<0)
 .refine A7 h1 ?_
  exact⟨by unfold outW;rw[h1];rfl,trivial⟩
 .refine A7 h1 ?_
  exact⟨by unfold outW;rw[h1];rfl,trivial⟩
theorem A3O (xs:List Int)(m:SM)(fid:FuncId)(p:Int->Bool)(h:Hp)(hl:xs.length<=1099511627776)(hf:∀r,PCall (En G) fid [.n r] h (.bool (p r))):
  PCall (En G) 261 [.sl m 1 (xs.map qencI),.fn (.func fid) [] []] h (.n (match xs.findIdx? p with|some i=>(i:Int)|none => -1)):=by
 refine acT Tryz.func261 4 ?_;refine AB ?_;refine BK (fun n F H=>∃k,n+k=xs.length/\F 0=.sl m 1 (xs.map qencI)/\F 1=.fn (.func fid) [] []/\F 7=.n xs.length/\F 8=.n (k:Nat)/\H=h/\(xs.take k).all (fun r => !p r)=true) xs.length ⟨0,BA,rfl,rfl,rfl,rfl,rfl,rfl⟩ ?_;rintro n F H ⟨k,hk,f0,f1,f7,f8,rfl,hin⟩;refine ES f0 f1 f7 f8 ?_;refine D9 ?_ ?_<;>intro hc'
 .simp only[vQ,CP,↓reduceIte,jC,enP,LY,f0,f1,f7,f8,CZ hc',CW ag3 hc',ATV]
  refine(hf _).uu ?_;refine BO ?_ ?_<;>intro hb
  .refine AB ?_
   refine⟨?_,trivial⟩
   rw[wM.2 ⟨hc',hb,fun j hj=>by
    rw[zL] at hin;have:=hin xs[j] (by rw[List.mem_take_iff_getElem];exact⟨j,U,rfl⟩)
    simpa using this⟩]
  .refine BB f8 (DC k) ?_
   refine⟨n-1,U,k+1,U,f0,f1,f7,rfl,trivial,?_⟩;rw[jU hc',List.all_append,hin];simp only[List.all_cons,List.all_nil,hb];rfl
 .refine AB ?_
  refine⟨?_,trivial⟩;rw[jJ U] at hin;rw[List.findIdx?_eq_none_iff.2 (BM hin)]
theorem AO6 (xs:List Int)(m:SM)(fid:FuncId)(p:Int->Bool)(h:Hp)(hl:xs.length<=1099511627776)(hf:∀r,PCall (En G) fid [.n r] h (.bool (p r))):
  PCall (En G) 231 [.sl m 1 (xs.map qencI),.fn (.func fid) [] []] h (.bool (xs.any p)):=by
 refine acT Tryz.func231 4 ?_;refine AB ?_;refine(A3O G xs m fid p h hl hf).uu ?_;refine⟨?_,trivial⟩
 cases hx:xs.findIdx? p with
 | some i =>
   obtain⟨h1,h2,_⟩:=wM.1 hx;have:xs.any p=true:=List.any_eq_true.2 ⟨xs[i],BA,h2⟩;simp [this]
 | none =>
   have:xs.any p=false:=by simp_all
   simp [this]
theorem xK (xs:List Int)(m:SM)(h:Hp)(hl:xs.length<=1099511627776):PCall (En G) 284 [.sl m 1 (xs.map qencI)] h (.bool (lastB xs)):=by
 refine acT Tryz.func284 2 ?_;refine AB ?_;have e7:decide (((xs.length:Nat):Int)<=7)=decide (xs.length<=7):=lec xs.length 7;rw[e7];cases h7:decide (xs.length<=7)
 .refine AB ?_
  exact⟨by unfold lastB;rw[h7];rfl,trivial⟩
 .refine AB ?_
  refine(AO6 G xs m 320 outW h hl (fun r=>AW5 G r h)).uu ?_;exact⟨by unfold lastB;rw[h7];rfl,trivial⟩
end
def hK (last:List Int)(v kind:Int)(b:Bin):Bool:=(b.kind==kind)&&(if(kind==0)=true then hit b last v else inside b.ranges.l v)
def NH (bins:List Bin)(last:List Int)(v kind:Int):Nat->List Nat
 | 0=>[]
 | k+1=>NH bins last v kind k++(if((bins[k]?.map (hK last v kind)).getD false)=true then [k] else [])
def iU (p:Pt)(last:List Int)(v kind:Int):List Nat:=NH p.bins last v kind p.bins.length
theorem nR (bins:List Bin)(last:List Int)(v kind:Int)(k:Nat)(hk:k<bins.length):NH bins last v kind (k+1)=NH bins last v kind k++(if hK last v kind bins[k]=true then [k] else []):=by
 simp only[NH,jI hk,Option.map_some,jD]
theorem fU (bins:List Bin)(last:List Int)(v kind:Int):∀k,(NH bins last v kind k).length<=k
 | 0=>by simp [NH]
 | k+1=>by
   have:=fU bins last v kind k;simp only[NH,jX];split<;>simp<;>omega
theorem nS (bins:List Bin)(last:List Int)(v kind:Int):∀k,∀x∈NH bins last v kind k,x<k
 | 0,x,hx=>by simp [NH] at hx
 | k+1,x,hx=>by
   simp only[NH] at hx;rcases zK.1 hx with h|h
   .have:=nS bins last v kind k x h;omega
   .simp_all
theorem tT (bins:List Bin)(last:List Int)(v kind:Int):∀k,decide (0<(NH bins last v kind k).length)=(bins.take k).any (hK last v kind)
 | 0=>by simp [NH]
 | k+1=>by
   have ih:=tT bins last v kind k;rcases zB k bins.length with hk|hk
   .rw[nR _ _ _ _ _ hk,jU hk,List.any_append,<-ih,jX,wL]
    simp only[List.any_cons,List.any_nil,zO,Bool.or_eq_true,decide_eq_true_eq];split
    .rename_i h;simp [h]
    .rename_i h;simp [h]
   .rw[jJ U]
    rw[jJ hk] at ih;rw[<-ih];simp only[NH,List.getElem?_eq_none hk,Option.map_none,jQ,Bool.false_eq_true,if_false,jO]
def encX (m:SM)(last:List Int)(v:Int):List AV:=[.sl m 1 (last.map qencI),.n v]
theorem AUE (h:Hp)(m:SM)(last:List Int)(v:Int):MP h (.agg (encX m last v))=some (.ptr h.length 0 0,h++[yE 2 [encX m last v]]):=WX rfl
theorem AKO {m:SM}{last:List Int}{v:Int}(hb:h[b]?=some (yE 2 [encX m last v])):BI jA h 316 (.ptr b 0 0)=some (.agg (encX m last v)):=by
 rw[ED A9A A0Z hb rfl (by exact jF 2)];rfl
theorem AR9 {x:Bin}(hb:h[b]?=some (yE 4 [GG x])):BI jA h 87 (.ptr b 0 0)=some (.agg (GG x)):=by
 rw[ED lA aZ hb rfl (by exact jF 4)];rfl
theorem AM7 {b:Bin}(hb:BinOk b):b.ranges.l.length<=1099511627776:=by
 rcases Nat.eq_zero_or_pos b.ranges.l.length with h|h
 .omega
 .exact hb.sets b.ranges (by unfold sets;rw[if_pos h];simp)
section
variable (G:Nat->AV)
theorem yX (hG:GOk G)(b:Bin)(hb:BinOk b)(last:List Int)(m:SM)(v:Int)(h:Hp)(hl:last.length<=8388608):PCall (En G) 352 [.agg (encX m last v),.agg (GG b)] h (.bool (hit b last v)):=by
 refine ACalls.pure0 rfl ?_;refine acT Tryz.func352 4 ?_;have g1:=AO (x:=yE 4 [GG b]) (AX h (yE 2 [encX m last v]));have g2:=AX (h++[yE 2 [encX m last v]]) (yE 4 [GG b]);have hx:ext h (h++[yE 2 [encX m last v]]++[yE 4 [GG b]]):=((ext.rfl' h).app _).app _;refine BB AUE @bxB ?_
 generalize h++[yE 2 [encX m last v]]++[yE 4 [GG b]]=H at g1 g2 hx|-
 generalize (h++[yE 2 [encX m last v]]).length=bb at g2|-
 have l0:BI jA H 32 (.ptr h.length 0 0)=some (.sl m 1 (last.map qencI)):=by rw[BC NF g1 (row:=encX m last v) rfl];rfl
 have l1:BI jA H 3 (.ptr h.length 0 1)=some (.n v):=by rw[BC ag3 g1 (row:=encX m last v) rfl];rfl
 refine JI @AY0 @AK8 (AR9 g2) l0 l1 ?_;refine(hit_prog G hG.kw b hb last m v H hl).uu ?_;exact⟨trivial,hx⟩
theorem oY (b:Bin)(hb:BinOk b)(last:List Int)(m:SM)(v:Int)(h:Hp):PCall (En G) 353 [.agg (encX m last v),.agg (GG b)] h (.bool (inside b.ranges.l v)):=by
 refine ACalls.pure0 rfl ?_;refine acT Tryz.func353 4 ?_;have g1:=AO (x:=yE 4 [GG b]) (AX h (yE 2 [encX m last v]));have g2:=AX (h++[yE 2 [encX m last v]]) (yE 4 [GG b]);have hx:ext h (h++[yE 2 [encX m last v]]++[yE 4 [GG b]]):=((ext.rfl' h).app _).app _;refine BB AUE @bxB ?_
 generalize h++[yE 2 [encX m last v]]++[yE 4 [GG b]]=H at g1 g2 hx|-
 generalize (h++[yE 2 [encX m last v]]).length=bb at g2|-
 have l2:BI jA H 84 (.ptr bb 0 2)=some (.sl b.ranges.m 2 (b.ranges.l.map encR)):=by rw[BC RZ g2 (row:=GG b) rfl];rfl
 have l1:BI jA H 3 (.ptr h.length 0 1)=some (.n v):=by rw[BC ag3 g1 (row:=encX m last v) rfl];rfl
 refine DW @AK8 l2 l1 ?_;refine(inside_prog G b.ranges.l b.ranges.m v H (AM7 hb)).uu ?_;exact⟨trivial,hx⟩
theorem xH (kind:Int)(h:Hp):PCall (En G) 321 [.n kind] h (.fn (.func (if(kind==0)=true then 352 else 353)) [] []):=by
 refine acT Tryz.func321 2 ?_;refine A7 @AFJ ?_;cases hk:(kind==0)
 .refine AB ?_
  exact⟨BA,trivial⟩
 .refine AB ?_
  exact⟨BA,trivial⟩
theorem fT (hG:GOk G)(p:Pt)(hp:PtOk p)(last:List Int)(m:SM)(v kind:Int)(h:Hp)(hl:last.length<=8388608):
  PCall (En G) 285 [.agg (FK p),.agg (encX m last v),.n kind] h (.sl (nm (iU p last v kind)) 1 ((iU p last v kind).map KN)):=by
 refine J3 A37 ?_;have hnum:=hp.num;refine acT Tryz.func285 6 ?_;have gp:=AO (x:=yE 2 [encX m last v]) (AX h (yE 6 [FK p]));have gx:=AX (h++[yE 6 [FK p]]) (yE 2 [encX m last v]);have hx:ext h (h++[yE 6 [FK p]]++[yE 2 [encX m last v]]):=((ext.rfl' h).app _).app _;have hbl:h.length<=(h++[yE 6 [FK p]]).length:=BA;refine BB @bxP AUE ?_
 generalize h++[yE 6 [FK p]]++[yE 2 [encX m last v]]=H1 at gp gx hx|-
 generalize (h++[yE 6 [FK p]]).length=xb at gx hbl|-
 have l5:BI jA H1 80 (.ptr h.length 0 5)=some (.sl p.bm 4 (p.bins.map GG)):=by rw[BC QC gp (row:=FK p) rfl,TS]
 refine A7 l5 ?_
 refine BK (fun n F H=>∃k u,n+k=p.bins.length/\F 2=.n kind/\F 4=.ptr xb 0 0/\F 7=u/\F 11=.sl p.bm 4 (p.bins.map GG)/\F 12=.n (p.bins.length:Nat)/\F 13=.n (k:Nat)/\ext H1 H/\outG 1 KN H1 (NH p.bins last v kind k) u H) p.bins.length
  ⟨0,.sl .nil 0 [],BA,AQ,AQ,AQ,AQ,AQ,AQ,ext.rfl' _,outG.nil _ _ _ _⟩ ?_
 rintro n F H ⟨k,u,hk,f2,f4,f7,f11,f12,f13,hxH,ho⟩;refine BB f12 f13 ?_;refine BO ?_ ?_<;>intro hc
 .have hk':k<p.bins.length:=BM hc
  have hbok:=hp.bins _ (jG hk');have gxH:=DI (hxH.app [yE 4 [GG p.bins[k]]]) gx;have gb:=AX H (yE 4 [GG p.bins[k]]);have hx1:=hxH.app [yE 4 [GG p.bins[k]]];have ho1:=ho.app [yE 4 [GG p.bins[k]]];have hlen:=fU p.bins last v kind k;have hs:=nR p.bins last v kind k hk';simp only[vQ,CP,↓reduceIte,jC,enP,fO,jQ,f11,f13,CZ hk',DJ lA aZ LC hk',al79,st79 _ _ [.str ⟨#[]⟩,.n 0,.sl .nil 0 [],.sl .nil 0 []] rfl]
  generalize H++[yE 4 [GG p.bins[k]]]=H2 at gxH gb hx1 ho1|-
  have lk:BI jA H2 3 (.ptr H.length 0 1)=some (.n p.bins[k].kind):=by rw[BC ag3 gb (row:=GG p.bins[k]) rfl,aQ]
  refine D6 AZ ?_;refine BB lk f2 ?_;cases hq:(p.bins[k].kind==kind)
  .have hK0:hK last v kind p.bins[k]=false:=by unfold hK;rw[hq];rfl
   rw[hK0] at hs;refine DW hq f13 (DC k) ?_;exact⟨n-1,U,k+1,u,U,AL,AL,AL,AL,AL,AL,hx1,by rw[hs];simpa using ho1⟩
  .have hKv:hK last v kind p.bins[k]=if(kind==0)=true then hit p.bins[k] last v else inside p.bins[k].ranges.l v:=by unfold hK;rw[hq];rfl
   have hcall:PCall (En G) (if(kind==0)=true then 352 else 353) [.agg (encX m last v),.agg (GG p.bins[k])] H2 (.bool (hK last v kind p.bins[k])):=by
    rw[hKv];split
    .exact yX G hG _ hbok last m v H2 hl
    .exact oY G _ hbok last m v H2
   generalize hf:(if(kind==0)=true then 352 else 353:Nat)=fid at hcall;have hm:=xH G kind H2;rw[hf] at hm;refine BB hq f2 ?_;refine⟨_,hm,?_⟩;refine DW f4 (AKO gxH) (AR9 gb) ?_;refine⟨_,hcall,?_⟩;cases hv:hK last v kind p.bins[k]
   .rw[hv] at hs
    refine BB f13 (DC k) ?_;exact⟨n-1,U,k+1,u,U,AL,AL,AL,AL,AL,AL,hx1,by rw[hs];simpa using ho1⟩
   .rw[hv,if_pos rfl] at hs
    obtain⟨u',H3,ha,ho2,_,hx2,_,_⟩:=ho1.append (P:=jA) U4 sz3 aV YW U U hx1 k;have ha':EQ jA true H2 32 32 u (.sl .full 1 [[.n ((k:Nat):Int)]])=some (u',H3):=ha;refine JI f7 f13 AFA ha' (DC k) ?_;exact⟨n-1,U,k+1,u',U,AL,AL,AL,AL,AL,AL,hx2,by rw[hs];exact ho2⟩
 .have hk':k=p.bins.length:=by
   have:¬k<p.bins.length:=BM hc;omega
  subst hk';refine A7 f7 ?_;refine⟨hx.trans hxH,?_⟩;rcases ho with⟨e,hu⟩|⟨e,o,h1,h2,h3⟩
  .exact .inl ⟨e,hu⟩
  .exact .inr ⟨e,o,qJ hx.le h1,h2,h3⟩
def inK (bins:List Bin)(kind v:Int):Bool:=bins.any fun b=>(b.kind==kind)&&inside b.ranges.l v
theorem ADN (p:Pt)(last:List Int)(v kind:Int)(hk:kind≠0):decide (0<(iU p last v kind).length)=inK p.bins kind v:=by
 unfold iU;rw[tT,List.take_length];unfold inK;congr 1;funext b;unfold hK;have:(kind==0)=false:=BM hk;rw[this];rfl
end
structure PtR where
 hit:List Nat
 next:List Int
 bad:Bool
 err:Int
def nextL (last:List Int)(v:Nat):List Int:=(last++[(v:Int)]).drop (last.length+1-7)
def ptE (p:Pt)(last:List Int)(l:List Sg):PtR :=
 if I4 p≠0\/lastB last=false then ⟨[],[],false,1⟩
 else if(evE l p.ex).2≠0 then ⟨[],[],false,(evE l p.ex).2⟩
 else if inK p.bins 2 (evE l p.ex).1=true then ⟨[],nextL last (evE l p.ex).1,true,0⟩
 else if inK p.bins 1 (evE l p.ex).1=true then ⟨[],nextL last (evE l p.ex).1,false,0⟩
 else ⟨iU p last (evE l p.ex).1 0,nextL last (evE l p.ex).1,false,0⟩
def ptV (r:PtR):AV:=.tup [.sl (nm r.hit) 1 (r.hit.map KN),.sl (nm r.next) 1 (r.next.map qencI),.bool r.bad,.n r.err]
def ptW (r:PtR):AV:=.tup [fzG 1 KN r.hit,fzG 1 qencI r.next,.bool r.bad,.n r.err]
theorem A2Z (r:PtR):CvR (ptW r) (ptV r):=CvR.tup (CvRL.cons WR (CvRL.cons WR (CvRL.refl _)))
theorem ART (last:List Int)(v:Nat):nextL last v≠[]:=by
 intro h;have:=congrArg wH h;unfold nextL at this;simp at this;omega
theorem AHQ {α:Type}{f:α->List AV}{ys:List α}(h:ys≠[]):fzG k f ys=.sl .any k (ys.map f):=by
 cases ys with
 | nil=>exact absurd rfl h
 | cons y ys=>rfl
theorem A2Q {n u:Nat}{xs:List (List AV)}(hb:h[o]?=some (yE 1 xs))(hu:u<=n):IE jA h 32 (.own o 0 n) (some (.n (u:Nat))) none none=some (.own o u (n-u)):=by
 simp [IE,Tryz.underlying32,H6,hb,sz3,hu]
theorem A3B (o off len:Nat):IG jA 32 .eql (.own o off len) (.sl .nil 0 [])=some (.bool false):=AZ
theorem uN {off len:Nat}(ho:h[o]?=some (yE 1 (xs.map qencI)))(hl:off+len=xs.length)(h0:0<len)(hm:xs.length<=1048576):
  ACalls (En G) 189 [.own o off len] h fun v H=>v=.own h.length 0 len/\H=h++[yE 1 ((xs.drop off).map qencI)]:=by
 refine acT Tryz.func189 2 ?_
 have hc:I9 h (.own o off len)=some (1,(xs.drop off).map qencI):=by
  rw[JS ho LD,<-List.map_drop,jJ LD]
 have hne:(xs.drop off).map qencI≠[]:=by
  intro e;have:=congrArg wH e;simp at this;omega
 refine BB @A3B @AIG ?_;refine KW (VW U4 sz3 aV YW hc hne (G5 LD U)) ?_;refine AB ?_;exact⟨by simp;omega,BA⟩
theorem APB {h':Hp}{last:List Int}{u:AV}(v:Int)(hc:AIA 1 (last.map qencI) h u h')(hl:last.length<=1048576):
  ∃o H,EQ jA true h' 32 32 u (.sl .full 1 [[.n v]])=some (.own o 0 (last.length+1),H)/\H[o]?=some (yE 1 ((last++[v]).map qencI))/\h.length<=o/\ext h H:=by
 have h1:([[AV.int .i64 v]]:List (List AV))≠[]:=BA;rcases hc with⟨he,⟨k0,rfl⟩,rfl⟩|⟨he,rfl,rfl⟩|⟨hne,rfl,rfl⟩
 .have:last=[]:=BM he
  subst this;exact⟨h'.length,_,QZ U4 sz3 aV YW (GK _ .full 1 [[.n v]]) h1 (G5 BA U),AX _ _,jF _,(ext.rfl' _).app _⟩
 .have:last=[]:=BM he
  subst this;exact⟨h'.length,_,VW U4 sz3 aV YW (GK _ .full 1 [[.n v]]) h1 (G5 BA U),AX _ _,jF _,(ext.rfl' _).app _⟩
 .have hcc:I9 (h++[yE 1 (last.map qencI)]) (.own h.length 0 (last.map qencI).length)=some (1,last.map qencI):=uM
  refine⟨(h++[yE 1 (last.map qencI)]).length,(h++[yE 1 (last.map qencI)]).set h.length .dead++[yE 1 (last.map qencI++[[.n v]])],?_,?_,?_,?_⟩
  .have:=QB U4 sz3 aV YW hcc (GK _ .full 1 [[.n v]]) h1 (G5 LD U)
   rw[this];simp
  .have e:(h++[yE 1 (last.map qencI)]).length=((h++[yE 1 (last.map qencI)]).set h.length .dead).length:=BA
   rw[e,AX];simp [qencI]
  .simp
  .exact(((ext.rfl' h).app _).set (jF _) _).app _
section
variable (G:Nat->AV)
theorem A88 (h:Hp):GH jA h 316=some (.ptr h.length 0 0,h++[yE 2 [[.sl .nil 0 [],.n 0]]]):=FB (row:=[.sl .nil 0 [],.n 0]) AZ
theorem A8U (s:SM)(k:Nat)(xs:List (List AV))(v:Int):I5 jA 316 [(0,.sl s k xs),(1,.n v)]=some (.agg [.sl s k xs,.n v]):=AZ
theorem A52 (h:Hp)(s:SM)(xs:List Int)(v:Int):DU jA (h++[yE 2 [[.sl .nil 0 [],.n 0]]]) 316 (.ptr h.length 0 0) (.agg [.sl s 1 (xs.map qencI),.n v])=some (h++[yE 2 [encX s xs v]]):=by
 rw[IR (cs:=[.sl s 1 (xs.map qencI),.n v]) (row:=[.sl .nil 0 [],.n 0]) rfl A0Z (AX _ _) (by exact jF 2),JZ];rfl
theorem ldP (hb:h[b]?=some (yE 6 [FK p])):BI jA h 82 (.ptr b 0 0)=some (.agg (FK p)):=by
 rw[ED lB bA hb rfl (by rw[H9];exact jF 6),zU,jJ (by rw[H9];exact jF 6)]
theorem pW (hG:GOk G)(p:Pt)(hp:PtOk p)(last:List Int)(lm:SM)(l:List Sg)(m:SM)(h:Hp)(hll:last.length<=1048576)(hl:l.length<=1099511627776):
  PCall (En G) 227 [.agg (FK p),.sl lm 1 (last.map qencI),.sl m 2 (l.map FU)] h (ptV (ptE p last l)):=by
 refine PCall.res (r:=ptW (ptE p last l)) ?_ (A2Z _);have hE:∀(e:Int) (n:Nat) (H:Hp),FH n H 4 (.tup [.sl .nil 0 [],.sl .nil 0 [],.bool false,.n e])=ptW ⟨[],[],false,e⟩:=fun _ _ _=>rfl
 refine ACalls.pure (R:=fun v H=>ext h H/\FH h.length H 4 v=ptW (ptE p last l)) 4 ?_ (fun v H ⟨a,b⟩=>⟨a,b⟩);refine acL Tryz.func227 [.tmp 6,.tmp 7,.tmp 8,.tmp 9] ?_;have gp:=AX h (yE 6 [FK p]);have hx:=Sm.ext.r1 h (yE 6 [FK p]);refine A7 @bxP ?_
 generalize h++[yE 6 [FK p]]=H1 at gp hx|-
 refine A7 (ldP gp) ?_;refine(nA G hG p hp H1).uu ?_;cases h1:(I4 p==0)
 .have hne:I4 p≠0:=BM h1
  simp only[vQ,LG,bX,EM,XE,CP,FZ,WY,↓reduceIte,jC,bne,h1];exact⟨hx,by unfold ptE;rw[if_pos (.inl hne)];rfl⟩
 have hp0:I4 p=0:=BM h1;simp only[vQ,EM,CP,↓reduceIte,jC,qP,bne,h1];refine(xK G last lm H1 U).uu ?_;cases h2:lastB last
 .refine A7 @bX ?_
  exact⟨hx,by unfold ptE;rw[if_pos (.inr h2)];rfl⟩
 have hneg:¬(I4 p≠0\/lastB last=false):=by rw[hp0,h2];simp
 have h7:last.length<=7:=by
  unfold lastB at h2;rw[jM] at h2;simpa using h2.1
 refine A7 (AR6 gp) ?_;refine(ZV G hG l m p.ex H1 hl hp.ex).use ?_;unfold ptE;rw[if_neg hneg];generalize evE l p.ex=ev;obtain⟨v,e⟩:=ev;unfold evV;refine AB ?_;cases h3:(e==0)
 .have hne:e≠0:=BM h3
  simp only[vQ,LG,bX,CP,WY,↓reduceIte,jC,bne,h3];exact⟨hx,by rw[if_pos hne];rfl⟩
 have he0:e=0:=BM h3;rw[if_neg (BM he0)];simp only[vQ,JH,CP,NZ,↓reduceIte,jC,qP,enP,jQ,bne,h3,A8U,A88,A52];have gp2:=AO (x:=yE 2 [encX lm last (v:Nat)]) gp;have gx2:=AX H1 (yE 2 [encX lm last (v:Nat)]);have hx2:=hx.app [yE 2 [encX lm last (v:Nat)]]
 generalize H1++[yE 2 [encX lm last (v:Nat)]]=H2 at gp2 gx2 hx2|-
 refine(ALQ G last lm H2 U).mono ?_;rintro u H2' hcl;obtain⟨o,H3,ha,ho,hol,hx3⟩:=APB (v:Nat) hcl hll;have gp3:=DI hx3 gp2;have gx3:=DI hx3 gx2;have hx4:=hx2.trans hx3;refine ES @AI3 @xG AFA ha ?_;have hsub:IntKind.i64.wrap (((last.length+1:Nat):Int)-7)=((last.length+1:Nat):Int)-7:=wrap_i64 U U;have hmax:max (0:Int) (((last.length+1:Nat):Int)-7)=((last.length+1-7:Nat):Int):=U;have hsl:=A2Q (n:=last.length+1) (u:=last.length+1-7) ho U;refine DW @hsub @hmax hsl ?_;refine(uN G (off:=last.length+1-7) (len:=last.length+1-(last.length+1-7)) ho (by simp<;>omega) U (by simp<;>omega)).mono ?_;rintro u' H4 ⟨rfl,rfl⟩;have hnl:(last++[((v:Nat):Int)]).drop (last.length+1-7)=nextL last v:=rfl;have hlen:last.length+1-(last.length+1-7)=(nextL last v).length:=by grind
 rw[hnl,hlen];have gp5:=AO (x:=yE 1 ((nextL last v).map qencI)) gp3;have gx5:=AO (x:=yE 1 ((nextL last v).map qencI)) gx3;have go5:=AX H3 (yE 1 ((nextL last v).map qencI));have hx5:=hx4.app [yE 1 ((nextL last v).map qencI)];have hle:=hx4.le
 generalize H3++[yE 1 ((nextL last v).map qencI)]=H5 at gp5 gx5 go5 hx5|-
 generalize H3.length=ob at go5 hle|-
 have hne:=ART last v
 have hfz:FH h.length H5 3 (.own ob 0 (nextL last v).length)=fzG 1 qencI (nextL last v):=by
  rw[AHQ hne];exact frz_own (d:=1) frzI hle go5
 have h2K:=ADN p last (v:Nat) 2 DT;have h1K:=ADN p last (v:Nat) 1 DT
 have hgt:∀n:Nat,decide (((n:Nat):Int)>0)=decide (0<n):=fun n=>by
  rw[wL];simp only[decide_eq_true_eq];omega
 refine BB (ldP gp5) (AKO gx5) ?_;refine(fT G hG p hp last lm (v:Nat) 2 H5 U).use ?_;refine BB hgt @h2K ?_
 have hfin:∀(hits:List Nat) (bad:Bool) (s:SM),(hits=[]->s=.nil)->(hits≠[]->s=.any)->FH h.length H5 4 (.tup [.sl s (if hits=[] then 0 else 1) (hits.map KN),.own ob 0 (nextL last v).length,.bool bad,.n 0])=ptW ⟨hits,nextL last v,bad,0⟩:=by
  intro hits bad s e1 e2;have:FH h.length H5 4 (.tup [.sl s (if hits=[] then 0 else 1) (hits.map KN),.own ob 0 (nextL last v).length,.bool bad,.n 0])=.tup [.sl s (if hits=[] then 0 else 1) (hits.map KN),FH h.length H5 3 (.own ob 0 (nextL last v).length),.bool bad,.n 0]:=rfl;rw[this,hfz];unfold ptW
  cases hits with
  | nil=>rw[e1 rfl];rfl
  | cons x xs=>rw[e2 BA];rfl
 cases h2i:inK p.bins 2 (v:Nat)
 .refine BB (ldP gp5) (AKO gx5) ?_
  refine(fT G hG p hp last lm (v:Nat) 1 H5 U).use ?_;refine BB hgt @h1K ?_;cases h1i:inK p.bins 1 (v:Nat)
  .refine BB (ldP gp5) (AKO gx5) ?_
   have hlast:=fT G hG p hp last lm (v:Nat) 0 H5 U
   generalize iU p last (v:Nat) 0=hs at hlast|-
   cases hs with
   | nil =>
     refine(PCall.res hlast (r':=.sl .nil 0 []) (CvR.sl (Cv.nil 1 0))).use ?_;refine A7 @bX ?_;exact⟨hx5,hfin [] false .nil (fun _=>rfl) (fun q=>absurd rfl q)⟩
   | cons x xs =>
     refine hlast.use ?_;refine A7 @bX ?_;exact⟨hx5,hfin (x::xs) false .any (fun q=>by cases q) (fun _=>rfl)⟩
  .refine A7 @bX ?_
   exact⟨hx5,hfin [] false .nil (fun _=>rfl) (fun q=>absurd rfl q)⟩
 .refine A7 @bX ?_
  exact⟨hx5,hfin [] true .nil (fun _=>rfl) (fun q=>absurd rfl q)⟩
end
def rz (n:Int):Int:=min (n+1) 1099511627776
theorem WH {xs:List (List AV)}{row:List AV}(hb:H[b]?=some (yE k xs))(hr:xs[i]?=some row)(hj:row[j]?=some (.n n))(h0 : -9223372036854775808<=n)(h1:n<9223372036854775807):
  ACalls (En G) 228 [.ptr b i j] H fun _ H'=>H'=H.set b (yE k (xs.set i (splice row j [.n (rz n)]))):=by
 refine acL Tryz.func228 [] ?_;have hld:BI jA H 3 (.ptr b i j)=some (.n n):=by rw[BC ag3 hb hr,hj]
 have hst:DU jA H 3 (.ptr b i j) (.n (rz n))=some (H.set b (yE k (xs.set i (splice row j [.n (rz n)])))):=G8 (YZ _ _) sz3 hb hr (by have:=AC hj;simp;omega);have hw:IntKind.i64.wrap (n+1)=n+1:=wrap_i64 U U;have hm:min (n+1) 1099511627776=rz n:=rfl;simp only[vQ,gH,CP,AI2,xF,↓reduceIte,jC,enP,jQ,QI,VI,hld,hw,hm,hst]
def bJ (p:Nat×List Int):List AV:=[.own p.1 0 p.2.length]
structure NL (n0:Nat) (H:Hp) (o:Nat) (bs:List Nat) (xss:List (List Int)):Prop where
 len:bs.length=xss.length
 top:xss≠[]->H[o]?=some (yE 1 ((bs.zip xss).map bJ))
 row:∀(i:Nat) (hb:i<bs.length) (hx:i<xss.length),H[bs[i]]?=some (yE 1 (xss[i].map qencI))
 nodup:bs.Nodup
 out:xss≠[]->o ∉ bs
 lo:∀b∈bs,n0<=b
 lo':xss≠[]->n0<=o
def nlV (o:Nat):List (List Int)->AV
 | []=>.sl .nil 0 []
 | _::xss=>.own o 0 (xss.length+1)
theorem WO (o:Nat)(h:xss≠[]):nlV o xss=.own o 0 xss.length:=by
 cases xss with
 | nil=>exact absurd rfl h
 | cons x xs=>rfl
theorem PY (o:Nat)(xss:List (List Int)):(nlV o xss).leaf=true:=by cases xss<;>rfl
theorem NL.nil (n0:Nat)(H:Hp)(o:Nat):NL n0 H o [] []:=⟨rfl,fun h=>absurd rfl h,fun i hb=>by simp at hb,List.nodup_nil,fun h=>absurd rfl h,fun b hb=>(by cases hb),fun h=>absurd rfl h⟩
section
variable {n0:Nat} {H:Hp} {o:Nat} {bs:List Nat} {xss:List (List Int)} (N:NL n0 H o bs xss)
include N
theorem NL.keep (hk:∀b x,((xss≠[]/\b=o)\/b∈bs)->H[b]?=some x->H'[b]?=some x):NL n0 H' o bs xss :=
 ⟨N.len,fun h=>hk _ _ (.inl ⟨h,rfl⟩) (N.top h),fun i hb hx=>hk _ _ (.inr (jG hb)) (N.row i hb hx),N.nodup,N.out,N.lo,N.lo'⟩
theorem NL.app (x:Hp):NL n0 (H++x) o bs xss:=N.keep fun _ _ _ hb=>FO hb
theorem NL.mem_lt (hb:b∈bs):b<H.length:=by
 obtain⟨i,hi,rfl⟩:=qF hb;exact AC (N.row i hi (by rw[<-N.len];exact hi))
theorem NL.top_lt (h:xss≠[]):o<H.length:=AC (N.top h)
theorem NL.set {i:Nat}(hi:i<bs.length)(ys:List Int)(hl:∀hx:i<xss.length,ys.length=xss[i].length):NL n0 (H.set bs[i] (yE 1 (ys.map qencI))) o bs (xss.set i ys):=by
 have hlen:=N.len;have hix:i<xss.length:=U;have hne:xss≠[]:=by intro e;subst e;simp at hix
 have hob:o≠bs[i]:=fun e=>N.out hne (by rw[e];exact jG hi)
 refine⟨by rw[qY];exact hlen,fun _=>?_,fun j hb hx=>?_,N.nodup,fun _=>N.out hne,N.lo,fun _=>N.lo' hne⟩
 .have e:(bs.zip (xss.set i ys)).map bJ=(bs.zip xss).map bJ:=by
   refine List.ext_getElem BA fun j h1 h2=>?_
   simp only[List.getElem_map,List.getElem_zip,bJ,List.getElem_set];split
   .rename_i e;subst e;rw[hl hix]
   .rfl
  rw[e,zD (Ne.symm hob)];exact N.top hne
 .rcases Nat.decEq i j with h|h
  .have hbb:bs[j]≠bs[i]:=fun e=>h (by
    have:=(List.getElem_inj N.nodup).1 e
    exact this.symm)
   rw[zD (Ne.symm hbb)];have:=N.row j hb (by rw[qY] at hx;exact hx);rw[this];congr 3;rw[List.getElem_set_ne h]
  .subst h
   rw[List.getElem?_set_self (N.mem_lt (jG hi))];congr 3;rw[List.getElem_set_self]
theorem NL.rowAt (hi:i<xss.length):H[o]?=some (yE 1 ((bs.zip xss).map bJ))/\((bs.zip xss).map bJ)[i]?=some [.own (bs[i]'(by rw[N.len];exact hi)) 0 xss[i].length]:=by
 have hne:xss≠[]:=by intro e;subst e;simp at hi
 refine⟨N.top hne,?_⟩;have hlen:=N.len;rw[jW,jI (by rw[List.length_zip];omega),List.getElem_zip];rfl
theorem NL.ld {i:Nat}(hi:i<xss.length):BI jA H 32 (.ptr o i 0)=some (.own (bs[i]'(by rw[N.len];exact hi)) 0 xss[i].length):=by
 obtain⟨h1,h2⟩:=N.rowAt hi;rw[BC NF h1 h2];rfl
theorem NL.ix {i:Nat}(hi:i<xss.length):IM 1 H (nlV o xss) (.n (i:Nat))=some (.ptr o i 0):=by
 have hne:xss≠[]:=by intro e;subst e;simp at hi
 rw[WO o hne,GM (N.top hne) hi,jH]
theorem NL.snoc {t:Nat}(hb:H[b]?=some (yE 1 (xs.map qencI)))(hlo:n0<=b)(hlo':n0<=H.length)(hbn:b ∉ bs)(hbo:xss≠[]->b≠o)(ht:H[t]?=some (yE 1 [[.own b 0 xs.length]]))(hm:xss.length<=1048576):
  ∃H',EQ jA true H 25 25 (nlV o xss) (.own t 0 1)=some (nlV H.length (xss++[xs]),H')/\NL n0 H' H.length (bs++[b]) (xss++[xs])/\(∀q x,H[q]?=some x->¬isB (nlV o xss) q->H'[q]?=some x)/\H'.length=H.length+1/\∀e:Hp,e.length<=n0->ext e H->ext e H':=by
 have hc:I9 H (.own t 0 1)=some (1,[[.own b 0 xs.length]]):=by rw[JS ht BA];rfl
 have hlen:=N.len
 have hzip:((bs++[b]).zip (xss++[xs])).map bJ=(bs.zip xss).map bJ++[[.own b 0 xs.length]]:=by
  rw[List.zip_append hlen,qU];rfl
 have hnd:(bs++[b]).Nodup:=List.nodup_append.2 ⟨N.nodup,BA,fun a ha c hc e=>by simp at hc;subst hc;subst e;exact hbn ha⟩
 have hlos:∀q∈bs++[b],n0<=q:=fun q hq=>by
  rcases zK.1 hq with h|h
  .exact N.lo q h
  .simp at h;omega
 have hlts:∀q∈bs++[b],q<H.length:=fun q hq=>by
  rcases zK.1 hq with h|h
  .exact N.mem_lt h
  .grind
 have hrows:∀(H':Hp),(∀q x,H[q]?=some x->¬isB (nlV o xss) q->H'[q]?=some x)->∀(i:Nat) (h1:i<(bs++[b]).length) (h2:i<(xss++[xs]).length),H'[(bs++[b])[i]]?=some (yE 1 ((xss++[xs])[i].map qencI)):=by
  intro H' hk i h1 h2
  have hnb:∀q,q∈bs++[b]->¬isB (nlV o xss) q:=fun q hq hi=>by
   cases xss with
   | nil=>exact hi
   | cons y ys =>
     have e:o=q:=hi;subst e;rcases zK.1 hq with h|h
     .exact N.out BA h
     .simp at h;exact hbo BA h.symm
  refine hk _ _ ?_ (hnb _ (jG h1));rcases zB i bs.length with h|h
  .rw[List.getElem_append_left h,List.getElem_append_left U]
   exact N.row i h U
  .simp_all
 cases hx:xss with
 | nil =>
   subst hx;have hbs:bs=[]:=List.eq_nil_of_length_eq_zero (BM hlen);subst hbs;refine⟨H++[yE 1 [[.own b 0 xs.length]]],?_,⟨BA,fun _=>AX _ _,hrows _ fun q x hq _=>FO hq,hnd,fun _ hq=>by have:=hlts _ hq;omega,hlos,fun _=>hlo'⟩,fun q x hq _=>FO hq,BA,fun e _ he=>he.app _⟩;exact QZ (k':=0) ud25 vP zs25 by25 hc BA (G5 BA U)
 | cons y ys =>
   have hne:xss≠[]:=by rw[hx];simp
   have htop:=N.top hne
   have hco:I9 H (.own o 0 xss.length)=some (1,(bs.zip xss).map bJ):=by
    rw[JS htop LD,zU,jJ LD]
   have hap:=QB ud25 vP zs25 by25 hco hc BA (G5 LD U)
   have hk:∀q x,H[q]?=some x->¬isB (nlV o xss) q->(H.set o .dead++[yE 1 ((bs.zip xss).map bJ++[[.own b 0 xs.length]])])[q]?=some x:=fun q x hq hn=>by
    rw[WO o hne] at hn;have hn':¬o=q:=hn;refine FO ?_;rw[zQ,if_neg hn'];exact hq
   rw[<-hx];refine⟨H.set o .dead++[yE 1 ((bs.zip xss).map bJ++[[.own b 0 xs.length]])],?_,⟨by simp [hlen],fun _=>?_,hrows _ hk,hnd,fun _ hq=>by have:=hlts _ hq;omega,hlos,fun _=>hlo'⟩,hk,BA,fun e he hex=>(hex.set (by have:=N.lo' hne;omega) _).app _⟩
   .rw[WO o hne,WO H.length BA,hap]
    simp;omega
   .simp_all
end
theorem ALU (h:Hp)(b l:Nat):DF jA true h 25 1 [(0,.own b 0 l)]=some (.own h.length 0 1,h++[yE 1 [[.own b 0 l]]]):=AZ
theorem xM (h:isB (nlV o xss) q):xss≠[]/\q=o:=by
 cases xss with
 | nil=>exact h.elim
 | cons x xs=>exact⟨BA,Eq.symm h⟩
theorem NL.frz (N:NL n0 H o bs xss)(n d:Nat)(hn:n<=n0):FH n H (d+3) (nlV o xss)=fzG 1 encL (xss.map fun xs=>⟨.any,xs⟩):=by
 cases hx:xss with
 | nil=>rfl
 | cons y ys =>
   have hne:xss≠[]:=by rw[hx];simp
   rw[<-hx,WO o hne,frzF_own n H (d+2) o 0 xss.length 1 _ (by have:=N.lo' hne;omega) (N.top hne)]
   have e:(((bs.zip xss).map bJ).drop 0).take xss.length=(bs.zip xss).map bJ:=by
    rw[zU,jJ LD]
   have hlen:=N.len
   have e2:((bs.zip xss).map bJ).map (·.map (FH n H (d+2)))=(xss.map fun xs=>(⟨.any,xs⟩:Is)).map encL:=by
    refine List.ext_getElem LD fun j h1 h2=>?_
    have hj1:j<bs.length:=by simp at h1;omega
    have hj2:j<xss.length:=U;simp only[List.getElem_map,List.getElem_zip,bJ,jK,jL,encL];rw[frz_own (d:=d) frzI (qJ hn (N.lo _ (jG hj1))) (N.row j hj1 hj2)]
   rw[e,e2,if_pos,AHQ (BM hne)];refine⟨by simp;omega,?_⟩;rw[zL];intro row hr;obtain⟨x,_,rfl⟩:=zH.1 hr;rfl
def allB:List Int->List Int->List (List Nat)->Bool
 | p::ps,b::l,hits=>Rk.hasB ((hits.getD p.toNat []).map fun n:Nat=>(n:Int)) b&&allB ps l hits
 | _,_,_=>true
theorem APL (ps l:List Int)(hits:List (List Nat))(k:Nat)(h1:k<ps.length)(h2:k<l.length):allB (ps.drop k) (l.drop k) hits=(Rk.hasB ((hits.getD ps[k].toNat []).map fun n:Nat=>(n:Int)) l[k]&&allB (ps.drop (k+1)) (l.drop (k+1)) hits):=by
 rw[qC h1,qC h2];rfl
theorem AU1 (ps l:List Int)(hits:List (List Nat))(k:Nat)(h2:l.length<=k):allB (ps.drop k) (l.drop k) hits=true:=by
 rw[zJ h2];cases ps.drop k<;>rfl
def TT (x:List Nat):List AV:=[.sl (nm x) 1 (x.map KN)]
theorem A6Q (xs:List Nat):xs.map KN=(xs.map fun n:Nat=>(n:Int)).map qencI:=by rw[qQ];rfl
section
variable (G:Nat->AV)
theorem AU0 (c:Cr)(l:List Int)(s:SM)(hits:List (List Nat))(hb:Nat)(h:Hp)(gh:h[hb]?=some (yE 1 (hits.map TT)))(hp:∀p∈c.pts,0<=p/\p<(hits.length:Int))(hl:l.length=c.pts.length)(h64:∀x∈hits,x.length<=1048576)(hlen:l.length<=1048576):
  PCall (En G) 229 [.agg (IA c),.sl s 1 (l.map qencI),.own hb 0 hits.length] h (.bool (allB c.pts l hits)):=by
 refine ACalls.pure0 rfl ?_;refine acT Tryz.func229 6 ?_;have gc:=AX h (yE 3 [IA c]);have gh1:=AO (x:=yE 3 [IA c]) gh;have hx:=Sm.ext.r1 h (yE 3 [IA c]);simp only[vQ,CP,TB,↓reduceIte,jC,enP,dO,bxC]
 generalize h++[yE 3 [IA c]]=H at gc gh1 hx|-
 have l1:BI jA H 32 (.ptr h.length 0 1)=some (.sl c.pm 1 (c.pts.map qencI)):=by rw[BC NF gc (row:=IA c) rfl,eF]
 simp only[jP];refine BK (fun n F H'=>∃k,n+k=l.length/\F 2=.own hb 0 hits.length/\F 3=.ptr h.length 0 0/\F 9=.sl s 1 (l.map qencI)/\F 10=.n (l.length:Nat)/\F 11=.n (k:Nat)/\H'=H/\allB c.pts l hits=allB (c.pts.drop k) (l.drop k) hits) l.length ⟨0,BA,by simp only[vQ,↓reduceIte,jC],by simp only[AY,↓reduceIte,jC],by simp only[AY,↓reduceIte,jC],by simp only[AY,↓reduceIte,jC],by simp only[AY,↓reduceIte];rfl,rfl,rfl⟩ ?_;rintro n F H' ⟨k,hk,f2,f3,f9,f10,f11,rfl,hin⟩;refine BB f10 f11 ?_;refine D9 ?_ ?_<;>intro hk'
 .have hkp:k<c.pts.length:=U
  obtain⟨hp0,hp1⟩:=hp _ (jG hkp);have hpn:c.pts[k].toNat<hits.length:=U;have ih:=AX6 (kk:=.i64) (off:=0) gh1 hp0 hp1;rw[jH] at ih
  have lh:BI jA H' 32 (.ptr hb c.pts[k].toNat 0)=some (.sl (nm hits[c.pts[k].toNat]) 1 ((hits[c.pts[k].toNat].map fun n:Nat=>(n:Int)).map qencI)):=by
   rw[BC NF gh1 (row:=TT hits[c.pts[k].toNat]) (row_map hpn),<-A6Q];rfl
  rw[APL _ _ _ _ hkp hk'] at hin;have hg:hits.getD c.pts[k].toNat []=hits[c.pts[k].toNat]:=by simp_all
  rw[hg] at hin;simp only[vQ,CP,↓reduceIte,jC,enP,fQ,LY,U7,f2,f3,f9,f11,CZ hk',CW ag3 hk',ATV,l1,CZ hkp,CW ag3 hkp,ih,lh];refine(Rk.contains_rank G _ _ _ H' (by rw[jP];exact h64 _ (jG hpn))).uu ?_;cases hq:Rk.hasB (hits[c.pts[k].toNat].map fun n:Nat=>(n:Int)) l[k]
  .rw[hq,Bool.false_and] at hin
   refine AB ?_;exact⟨by rw[hin],hx⟩
  .rw[hq,wG] at hin
   refine BB f11 (DC k) ?_;exact⟨n-1,U,k+1,U,AL,AL,AL,AL,AL,trivial,hin⟩
 .rw[AU1 _ _ _ _ U] at hin
  refine AB ?_;exact⟨by rw[hin],hx⟩
end
def UY (x:List Int):List AV:=[.sl (nm x) 1 (x.map qencI)]
def RowsL (rows:List (List AV))(ls:List (List Int)):Prop:=rows.length=ls.length/\∀(i:Nat) (r:List AV) (l:List Int),rows[i]?=some r->ls[i]?=some l->∃s k,r=[.sl s k (l.map qencI)]/\(k=1\/l=[])
def TLs (H:Hp)(v:AV)(ls:List (List Int)):Prop:=ls=[]\/(∃s rows,v=.sl s 1 rows/\RowsL rows ls)\/∃q rows,v=.own q 0 ls.length/\H[q]?=some (yE 1 rows)/\RowsL rows ls
theorem TLs.ext {v:AV}{ls:List (List Int)}(t:TLs h v ls)(hx:Sm.ext h H):TLs H v ls:=by
 rcases t with h1|h2|⟨q,rows,rfl,hq,hr⟩
 .exact .inl h1
 .exact .inr (.inl h2)
 .exact .inr (.inr ⟨q,rows,rfl,DI hx hq,hr⟩)
theorem TLs.ld {H:Hp}{v:AV}{ls:List (List Int)}(t:TLs H v ls)(i:Nat)(hi:i<ls.length):∃a s k,IM 1 H v (.n (i:Nat))=some a/\BI jA H 32 a=some (.sl s k (ls[i].map qencI))/\(k=1\/ls[i]=[]):=by
 have hl:ls[i]?=some ls[i]:=jI hi;rcases t with rfl|⟨s,rows,rfl,hlen,hr⟩|⟨q,rows,rfl,hq,hlen,hr⟩
 .simp at hi
 .have hi':i<rows.length:=U
  obtain⟨s',k,e,hk⟩:=hr i rows[i] ls[i] (jI hi') hl;have h1:IM 1 H (.sl s 1 (rows.map id)) (.n (i:Nat))=some (.fptr 1 (rows.map id) i 0):=CZ hi';have h2:BI jA H 32 (.fptr 1 (rows.map id) i 0)=(id rows[i])[0]? := CW NF hi';rw[List.map_id] at h1 h2;exact⟨_,s',k,h1,by rw[h2,e];rfl,hk⟩
 .have hi':i<rows.length:=U
  obtain⟨s',k,e,hk⟩:=hr i rows[i] ls[i] (jI hi') hl;have h1:=GM (kk:=.i64) (off:=0) (len:=ls.length) hq hi;rw[jH] at h1;exact⟨_,s',k,h1,by rw[BC NF hq (jI hi'),e];rfl,hk⟩
theorem RowsL.map (ls:List (List Int)):RowsL (ls.map UY) ls:=by
 refine⟨BA,fun i r l h1 h2=>?_⟩;rw[jW,h2] at h1;cases h1;exact⟨_,1,rfl,.inl rfl⟩
theorem RowsL.encL (ls:List Is):RowsL (ls.map encL) (ls.map (·.l)):=by
 refine⟨BA,fun i r l h1 h2=>?_⟩;rw[jW] at h1 h2
 cases hx:ls[i]? with
 | none=>rw[hx] at h1;cases h1
 | some x=>rw[hx] at h1 h2;cases h1;cases h2;exact⟨_,1,rfl,.inl rfl⟩
theorem RowsL.nils (n:Nat):RowsL (jR n GU) (jR n []):=by
 refine⟨BA,fun i r l h1 h2=>?_⟩;rw[List.getElem?_replicate] at h1 h2;split at h1
 .rename_i hi
  rw[if_pos hi] at h2;cases h1;cases h2;exact⟨_,0,rfl,.inr rfl⟩
 .cases h1
def mix {α:Type}(ys xs:List α)(i:Nat):List α:=ys.take i++xs.drop i
theorem xD {α:Type}{ys xs:List α}(h:ys.length=xs.length)(hi:i<=xs.length):(mix ys xs i).length=xs.length:=by simp [mix];omega
theorem dL {α:Type}{ys xs:List α}(h:ys.length=xs.length):mix ys xs xs.length=ys:=by unfold mix;rw[List.drop_length,jO,jJ U]
theorem xE {α:Type}{ys xs:List α}(h:ys.length=xs.length)(hij:i<=j)(hj:j<xs.length):(mix ys xs i)[j]?=some xs[j]:=by
 unfold mix;have hl:(ys.take i).length=i:=by simp;omega
 rw[wS U,hl,List.getElem?_drop,show i+(j-i)=j by omega,jI hj]
theorem nH {α:Type}{ys xs:List α}(h:ys.length=xs.length)(hij:i<=j)(hj:j<xs.length)(hj':j<(mix ys xs i).length):(mix ys xs i)[j]=xs[j]:=by
 have:=xE h hij hj;rw[jI hj'] at this;exact Option.some.inj this
theorem dK {α:Type}{ys xs:List α}(h:ys.length=xs.length)(hi:i<xs.length)(hy:i<ys.length):(mix ys xs i).set i ys[i]=mix ys xs (i+1):=by
 refine wU fun j=>?_
 have hl:(ys.take i).length=i:=by simp;omega
 have hl':(ys.take (i+1)).length=i+1:=by simp;omega
 rw[zQ];unfold mix;rcases Nat.lt_trichotomy i j with h1|h1|h1
 .grind
 .grind
 .grind
def PN (m:Mo)(ls:List (List Int))(env:List Sg):List PtR:=(m.pts.zip ls).map fun p=>ptE p.1 p.2 env
theorem X9 (m:Mo)(ls:List (List Int))(env:List Sg)(h:ls.length=m.pts.length):(PN m ls env).length=m.pts.length:=by simp [PN,h]
theorem dE (m:Mo)(ls:List (List Int))(env:List Sg)(i:Nat)(h1:i<m.pts.length)(h2:i<ls.length)(h3:i<(PN m ls env).length):(PN m ls env)[i]=ptE m.pts[i] ls[i] env:=by simp [PN]
def raiseAt (xs:List Int)(b:Nat):List Int:=xs.set b (rz (xs.getD b 0))
def rowP (hit:List Nat)(xs:List Int):List Int:=hit.foldl raiseAt xs
theorem UQ (xs:List Int)(b:Nat):(raiseAt xs b).length=xs.length:=by simp [raiseAt]
theorem TG:∀(hit:List Nat) (xs:List Int),(rowP hit xs).length=xs.length
 | [],_=>rfl
 | b::hit,xs=>by
   have:=TG hit (raiseAt xs b);rw[UQ] at this;exact this
theorem rowP_step (hit:List Nat)(xs:List Int)(j:Nat)(hj:j<hit.length):rowP (hit.take (j+1)) xs=raiseAt (rowP (hit.take j) xs) hit[j]:=by
 unfold rowP;rw[jU hj,List.foldl_append];rfl
def Wn (xs:List Int):Prop:=∀x∈xs,0<=x/\x<=1099511627776
theorem AJP (h:0<=n/\n<=1099511627776):0<=rz n/\rz n<=1099511627776:=by unfold rz;omega
theorem Wn.getD {xs:List Int}(h:Wn xs)(b:Nat):0<=xs.getD b 0/\xs.getD b 0<=1099511627776:=by
 rw[zI]
 cases hx:xs[b]? with
 | none=>decide
 | some x=>exact h x (List.mem_of_getElem? hx)
theorem Wn.raiseAt {xs:List Int}(h:Wn xs)(b:Nat):Wn (raiseAt xs b):=by
 intro x hx;rcases List.mem_or_eq_of_mem_set hx with h1|h1
 .exact h x h1
 .rw[h1];exact AJP (h.getD b)
theorem Wn.rowP:∀(hit:List Nat) {xs:List Int},Wn xs->Wn (rowP hit xs)
 | [],_,h=>h
 | b::hit,_,h=>Wn.rowP hit (h.raiseAt b)
def SI (rs:List PtR)(P:List (List Int)):List (List Int):=(rs.zip P).map fun p=>rowP p.1.hit p.2
def crK (m:Mo)(x:Cr)(hits:List (List Nat))(k:Nat):Bool:=Z7 m x (TC (szs m x.pts) k)&&allB x.pts (TC (szs m x.pts) k) hits
def rowC (m:Mo)(x:Cr)(hits:List (List Nat))(xs:List Int):List Int:=(List.range xs.length).map fun k=>if crK m x hits k=true then rz (xs.getD k 0) else xs.getD k 0
def VH (m:Mo)(hits:List (List Nat))(C:List (List Int)):List (List Int):=(m.crs.zip C).map fun p=>rowC m p.1 hits p.2
theorem rowC_len (m:Mo)(x:Cr)(hits:List (List Nat))(xs:List Int):(rowC m x hits xs).length=xs.length:=by simp [rowC]
theorem rowC_get (m:Mo)(x:Cr)(hits:List (List Nat))(xs:List Int)(k:Nat)(hk:k<xs.length)(hk':k<(rowC m x hits xs).length):(rowC m x hits xs)[k]=if crK m x hits k=true then rz xs[k] else xs[k]:=by
 have e:xs.getD k 0=xs[k]:=by simp_all
 simp only[rowC,List.getElem_map,List.getElem_range,e]
theorem Wn.rowC {m:Mo}{x:Cr}{hits:List (List Nat)}{xs:List Int}(h:Wn xs):Wn (rowC m x hits xs):=by
 intro y hy;unfold Xe.rowC at hy;obtain⟨k,_,rfl⟩:=zH.1 hy;split
 .exact AJP (h.getD k)
 .exact h.getD k
theorem XV (rs:List PtR)(P:List (List Int))(h:rs.length=P.length):(SI rs P).length=P.length:=by simp [SI,h]
theorem XW (rs:List PtR)(P:List (List Int))(i:Nat)(h1:i<rs.length)(h2:i<P.length)(h3:i<(SI rs P).length):(SI rs P)[i]=rowP rs[i].hit P[i]:=by simp [SI]
theorem XX (m:Mo)(hits:List (List Nat))(C:List (List Int))(h:C.length=m.crs.length):(VH m hits C).length=C.length:=by simp [VH,h]
theorem XY (m:Mo)(hits:List (List Nat))(C:List (List Int))(i:Nat)(h1:i<m.crs.length)(h2:i<C.length)(h3:i<(VH m hits C).length):(VH m hits C)[i]=rowC m m.crs[i] hits C[i]:=by simp [VH]
theorem AWD {rs:List PtR}(h:∀xs∈P,Wn xs):∀xs∈SI rs P,Wn xs:=by
 intro xs hx;obtain⟨p,hp,rfl⟩:=zH.1 hx;exact Wn.rowP _ (h _ (List.of_mem_zip hp).2)
theorem AWE {hits:List (List Nat)}(h:∀xs∈C,Wn xs):∀xs∈VH m hits C,Wn xs:=by
 intro xs hx;obtain⟨p,hp,rfl⟩:=zH.1 hx;exact Wn.rowC (h _ (List.of_mem_zip hp).2)
theorem AKB (o:Nat)(P:List (List Int))(i:Nat)(ys:List Int):nlV o (P.set i ys)=nlV o P:=by
 cases P with
 | nil=>rfl
 | cons x xs =>
   cases i with
   | zero=>rfl
   | succ i=>simp [nlV]
def cvR (po:Nat)(P:List (List Int))(co:Nat)(C:List (List Int))(sam ill:Int):List AV:=[nlV po P,nlV co C,.n sam,.n ill]
structure CS (n0:Nat) (H:Hp) (cb tb po co:Nat) (pb cbs:List Nat) (P C:List (List Int)) (sam ill:Int) (v3:AV):Prop where
 gc:H[cb]?=some (yE 4 [cvR po P co C sam ill])
 gt:H[tb]?=some (yE 1 [[v3]])
 np:NL n0 H po pb P
 nc:NL n0 H co cbs C
 dis:∀b∈pb,b ∉ cbs
 xcp:cb ∉ pb
 xcc:cb ∉ cbs
 xtp:tb ∉ pb
 xtc:tb ∉ cbs
 xpo:P≠[]->po ∉ cbs/\cb≠po/\tb≠po
 xco:C≠[]->co ∉ pb/\cb≠co/\tb≠co
 ct:cb≠tb
section
variable {n0:Nat} {H:Hp} {cb tb po co:Nat} {pb cbs:List Nat} {P C:List (List Int)} {sam ill:Int} {v3:AV} (S:CS n0 H cb tb po co pb cbs P C sam ill v3)
include S
theorem CS.keep {H':Hp}(hk:∀b x,H[b]?=some x->b<H.length->H'[b]?=some x):CS n0 H' cb tb po co pb cbs P C sam ill v3 :=
 ⟨hk _ _ S.gc (AC S.gc),hk _ _ S.gt (AC S.gt),S.np.keep fun _ _ _ h=>hk _ _ h (AC h),S.nc.keep fun _ _ _ h=>hk _ _ h (AC h),S.dis,S.xcp,S.xcc,S.xtp,S.xtc,S.xpo,S.xco,S.ct⟩
theorem CS.app (x:Hp):CS n0 (H++x) cb tb po co pb cbs P C sam ill v3:=S.keep fun _ _ h _=>FO h
theorem CS.ext (hx:Sm.ext H H'):CS n0 H' cb tb po co pb cbs P C sam ill v3:=S.keep fun _ _ h _=>DI hx h
theorem CS.setP (hi:i<pb.length)(ys:List Int)(hl:∀hx:i<P.length,ys.length=P[i].length):CS n0 (H.set pb[i] (yE 1 (ys.map qencI))) cb tb po co pb cbs (P.set i ys) C sam ill v3:=by
 have hm:=jG hi;have hne:∀b,b ∉ pb->pb[i]≠b:=fun b hb e=>hb (by rw[<-e];exact hm)
 have hPne:P.set i ys≠[]->P≠[]:=fun h e=>h (by rw[e];rfl)
 refine⟨?_,?_,S.np.set hi ys hl,S.nc.keep fun b x hb hx=>?_,S.dis,S.xcp,S.xcc,S.xtp,S.xtc,fun h=>S.xpo (hPne h),S.xco,S.ct⟩
 .rw[zD (hne _ S.xcp),S.gc]
  unfold cvR;rw[AKB]
 .rw[zD (hne _ S.xtp)];exact S.gt
 .rw[zD]
  .exact hx
  .rcases hb with⟨hC,rfl⟩|hb
   .exact hne _ (S.xco hC).1
   .exact fun e=>S.dis _ hm (by rw[e];exact hb)
theorem CS.setC (hi:i<cbs.length)(ys:List Int)(hl:∀hx:i<C.length,ys.length=C[i].length):CS n0 (H.set cbs[i] (yE 1 (ys.map qencI))) cb tb po co pb cbs P (C.set i ys) sam ill v3:=by
 have hm:=jG hi;have hne:∀b,b ∉ cbs->cbs[i]≠b:=fun b hb e=>hb (by rw[<-e];exact hm)
 have hCne:C.set i ys≠[]->C≠[]:=fun h e=>h (by rw[e];rfl)
 refine⟨?_,?_,S.np.keep fun b x hb hx=>?_,S.nc.set hi ys hl,S.dis,S.xcp,S.xcc,S.xtp,S.xtc,S.xpo,fun h=>S.xco (hCne h),S.ct⟩
 .rw[zD (hne _ S.xcc),S.gc]
  unfold cvR;rw[AKB]
 .rw[zD (hne _ S.xtc)];exact S.gt
 .rw[zD]
  .exact hx
  .rcases hb with⟨hP,rfl⟩|hb
   .exact hne _ (S.xpo hP).1
   .exact fun e=>S.dis _ hb (by rw[<-e];exact hm)
theorem CS.setT (w:AV):CS n0 (H.set tb (yE 1 [[w]])) cb tb po co pb cbs P C sam ill w:=by
 refine⟨by rw[zD (Ne.symm S.ct)];exact S.gc,CV S.gt,S.np.keep fun b x hb hx=>?_,S.nc.keep fun b x hb hx=>?_,S.dis,S.xcp,S.xcc,S.xtp,S.xtc,S.xpo,S.xco,S.ct⟩
 .rw[zD]
  .exact hx
  .rcases hb with⟨hP,rfl⟩|hb
   .exact(S.xpo hP).2.2
   .exact fun e=>S.xtp (by rw[e];exact hb)
 .rw[zD]
  .exact hx
  .rcases hb with⟨hC,rfl⟩|hb
   .exact(S.xco hC).2.2
   .exact fun e=>S.xtc (by rw[e];exact hb)
theorem CS.setN (sam' ill':Int):CS n0 (H.set cb (yE 4 [cvR po P co C sam' ill'])) cb tb po co pb cbs P C sam' ill' v3:=by
 refine⟨CV S.gc,by rw[zD S.ct];exact S.gt,S.np.keep fun b x hb hx=>?_,S.nc.keep fun b x hb hx=>?_,S.dis,S.xcp,S.xcc,S.xtp,S.xtc,S.xpo,S.xco,S.ct⟩
 .rw[zD]
  .exact hx
  .rcases hb with⟨hP,rfl⟩|hb
   .exact(S.xpo hP).2.1
   .exact fun e=>S.xcp (by rw[e];exact hb)
 .rw[zD]
  .exact hx
  .rcases hb with⟨hC,rfl⟩|hb
   .exact(S.xco hC).2.1
   .exact fun e=>S.xcc (by rw[e];exact hb)
theorem CS.l0:BI jA H 25 (.ptr cb 0 0)=some (nlV po P):=by rw[BC UJ S.gc (row:=cvR po P co C sam ill) rfl];rfl
theorem CS.l1:BI jA H 25 (.ptr cb 0 1)=some (nlV co C):=by rw[BC UJ S.gc (row:=cvR po P co C sam ill) rfl];rfl
theorem CS.lt0:BI jA H 25 (.ptr tb 0 0)=some v3:=by rw[BC UJ S.gt (row:=[v3]) rfl];rfl
end
theorem A53 (n x:Int):splice [.n n] 0 [.n x]=qencI x:=rfl
theorem tA (xs:List Int)(b:Nat):(xs.map qencI).set b (qencI (rz (xs.getD b 0)))=(raiseAt xs b).map qencI:=by rw[raiseAt,List.map_set]
structure Fr1 (h H:Hp) (cb tb:Nat) (pb cbs:List Nat):Prop where
 le:h.length<=H.length
 get:∀b x,h[b]?=some x->b≠cb->b≠tb->b ∉ pb->b ∉ cbs->H[b]?=some x
theorem Fr1.of_ext {cb tb:Nat}(hx:ext h H):Fr1 h H cb tb pb cbs:=⟨hx.le,fun _ _ hb _ _ _ _=>DI hx hb⟩
theorem Fr1.trans {a b c:Hp}{cb tb:Nat}(h1:Fr1 a b cb tb pb cbs)(h2:Fr1 b c cb tb pb cbs):Fr1 a c cb tb pb cbs :=
 ⟨qJ h1.le h2.le,fun q x hq e1 e2 e3 e4=>h2.get q x (h1.get q x hq e1 e2 e3 e4) e1 e2 e3 e4⟩
theorem Fr1.set {h H:Hp}{cb tb:Nat}{pb cbs:List Nat}(hf:Fr1 h H cb tb pb cbs){q:Nat}(hq:q=cb\/q=tb\/q∈pb\/q∈cbs)(y:ABlk):Fr1 h (H.set q y) cb tb pb cbs:=by
 refine⟨by simpa using hf.le,fun b x hb e1 e2 e3 e4=>?_⟩;rw[zD]
 .exact hf.get b x hb e1 e2 e3 e4
 .grind
theorem A6N (h:Hp)(n:Nat)(hn:n<=1048576):GV jA true h 25 (.n (n:Int)) (.n (n:Int))=some (.own h.length 0 n,h++[yE 1 (jR n GU)]):=by
 have hz:MJ jA 32=some GU:=AZ;have hr:room n 24:=G5 U U;unfold GV;simp only[ud25,vP,by25,hz,Int.toNat_natCast];rw[if_pos ⟨U,wV _,hr,rfl⟩];simp
theorem vZ (p:Pt)(last:List Int)(l:List Sg):∀x∈(ptE p last l).hit,x<p.bins.length:=by
 intro x hx;unfold ptE at hx;split at hx
 .cases hx
 .split at hx
  .cases hx
  .split at hx
   .cases hx
   .split at hx
    .cases hx
    .exact nS _ _ _ _ _ x hx
theorem AWV (p:Pt)(last:List Int)(l:List Sg):(ptE p last l).hit.length<=p.bins.length:=by
 unfold ptE;split
 .simp
 .split
  .simp
  .split
   .simp
   .split
    .simp
    .exact fU _ _ _ _ _
theorem A0H (hG:GOk G)(p:Pt)(hp:PtOk p)(last:List Int)(lm:SM)(k:Nat)(hk:k=1\/last=[])(l:List Sg)(m:SM)(h:Hp)(hll:last.length<=1048576)(hl:l.length<=1099511627776):
  PCall (En G) 227 [.agg (FK p),.sl lm k (last.map qencI),.sl m 2 (l.map FU)] h (ptV (ptE p last l)):=by
 rcases hk with rfl|rfl
 .exact pW G hG p hp last lm l m h hll hl
 .exact PCall.args (pW G hG p hp [] lm l m h hll hl) (CvRL.cons (CvR.refl _) (CvRL.cons (CvR.sl (Cv.empty lm k 1)) (CvRL.refl _)))
def A46 (n0:Nat)(h:Hp)(cb tb po co:Nat)(pb cbs:List Nat)(m:Mo)(P C:List (List Int))(sam ill:Int)(ls:List (List Int))(env:List Sg)(v:AV)(H:Hp):Prop :=
 (∃e,e≠0/\fstE PtR.err (PN m ls env)=e/\v=.n e/\ext h H) \/
 (fstE PtR.err (PN m ls env)=0/\v=.n 0/\∃lb,h.length<=lb/\H[lb]?=some (yE 1 (((PN m ls env).map PtR.next).map UY)) /\
  CS n0 H cb tb po co pb cbs (SI (PN m ls env) P) (VH m ((PN m ls env).map PtR.hit) C) (rz sam) (if(PN m ls env).any PtR.bad=true then rz ill else ill) (.own lb 0 m.pts.length)/\Fr1 h H cb tb pb cbs)
structure Ph (n0:Nat) (h H:Hp) (cb tb po co:Nat) (pb cbs:List Nat) (m:Mo) (mb hb lb:Nat) (P C:List (List Int)) (sam ill:Int) (hits:List (List Nat)) (nexts:List (List Int)):Prop where
 gm:H[mb]?=some (yE 2 [DV m])
 gh:H[hb]?=some (yE 1 (hits.map TT))
 gl:H[lb]?=some (yE 1 (nexts.map UY))
 cs:CS n0 H cb tb po co pb cbs P C sam ill (.own lb 0 m.pts.length)
 fr:Fr1 h H cb tb pb cbs
 wp:∀b∈pb,b<h.length
 wc:∀b∈cbs,b<h.length
 em:h.length<=mb
 eh:h.length<=hb
 el:h.length<=lb
section
variable {n0:Nat} {h H:Hp} {cb tb po co:Nat} {pb cbs:List Nat} {m:Mo} {mb hb lb:Nat} {P C:List (List Int)} {sam ill:Int} {hits:List (List Nat)} {nexts:List (List Int)} (S:Ph n0 h H cb tb po co pb cbs m mb hb lb P C sam ill hits nexts)
include S
theorem Ph.app (x:Hp):Ph n0 h (H++x) cb tb po co pb cbs m mb hb lb P C sam ill hits nexts :=
 ⟨FO S.gm,FO S.gh,FO S.gl,S.cs.app x,⟨by have:=S.fr.le;simp;omega,fun b y hb e1 e2 e3 e4=>FO (S.fr.get b y hb e1 e2 e3 e4)⟩,S.wp,S.wc,S.em,S.eh,S.el⟩
theorem Ph.setP {i:Nat}(hi:i<pb.length)(ys:List Int)(hl:∀hx:i<P.length,ys.length=P[i].length):Ph n0 h (H.set pb[i] (yE 1 (ys.map qencI))) cb tb po co pb cbs m mb hb lb (P.set i ys) C sam ill hits nexts:=by
 have hm:=jG hi;have hw:=S.wp _ hm;have a:=S.em;have b:=S.eh;have c:=S.el;exact⟨by rw[zD U];exact S.gm,by rw[zD U];exact S.gh,by rw[zD U];exact S.gl,S.cs.setP hi ys hl,S.fr.set (.inr (.inr (.inl hm))) _,S.wp,S.wc,S.em,S.eh,S.el⟩
theorem Ph.setC {i:Nat}(hi:i<cbs.length)(ys:List Int)(hl:∀hx:i<C.length,ys.length=C[i].length):Ph n0 h (H.set cbs[i] (yE 1 (ys.map qencI))) cb tb po co pb cbs m mb hb lb P (C.set i ys) sam ill hits nexts:=by
 have hm:=jG hi;have hw:=S.wc _ hm;have a:=S.em;have b:=S.eh;have c:=S.el;exact⟨by rw[zD U];exact S.gm,by rw[zD U];exact S.gh,by rw[zD U];exact S.gl,S.cs.setC hi ys hl,S.fr.set (.inr (.inr (.inr hm))) _,S.wp,S.wc,S.em,S.eh,S.el⟩
theorem Ph.raiseP (hi:i<P.length)(hip:i<pb.length)(b:Nat)(hb:b<P[i].length)(hw:Wn P[i]):
  BI jA H 25 (.ptr cb 0 0)=some (nlV po P)/\IM 1 H (nlV po P) (.n (i:Nat))=some (.ptr po i 0)/\BI jA H 32 (.ptr po i 0)=some (.own pb[i] 0 P[i].length) /\
   IM 1 H (.own pb[i] 0 P[i].length) (.n (b:Nat))=some (.ptr pb[i] b 0)/\ACalls (En G) 228 [.ptr pb[i] b 0] H fun _ H'=>H'=H.set pb[i] (yE 1 ((raiseAt P[i] b).map qencI)):=by
 have N:=S.cs.np;have hrow:=N.row i hip hi;refine⟨S.cs.l0,N.ix hi,N.ld hi,by have:=GM (kk:=.i64) (off:=0) (len:=P[i].length) hrow hb;rw[jH] at this;exact this,?_⟩;have hg:P[i].getD b 0=P[i][b]:=by simp_all
 have hin:=hw.getD b;have hr:(P[i].map qencI)[b]?=some [.n (P[i].getD b 0)]:=by rw[row_map hb,hg];rfl
 refine(WH G hrow hr (n:=P[i].getD b 0) rfl U U).mono ?_;rintro _ H' rfl;rw[A53,tA]
theorem Ph.raiseC (hi:i<C.length)(hip:i<cbs.length)(b:Nat)(hb:b<C[i].length)(hw:Wn C[i]):
  BI jA H 25 (.ptr cb 0 1)=some (nlV co C)/\IM 1 H (nlV co C) (.n (i:Nat))=some (.ptr co i 0)/\BI jA H 32 (.ptr co i 0)=some (.own cbs[i] 0 C[i].length) /\
   IM 1 H (.own cbs[i] 0 C[i].length) (.n (b:Nat))=some (.ptr cbs[i] b 0)/\ACalls (En G) 228 [.ptr cbs[i] b 0] H fun _ H'=>H'=H.set cbs[i] (yE 1 ((raiseAt C[i] b).map qencI)):=by
 have N:=S.cs.nc;have hrow:=N.row i hip hi;refine⟨S.cs.l1,N.ix hi,N.ld hi,by have:=GM (kk:=.i64) (off:=0) (len:=C[i].length) hrow hb;rw[jH] at this;exact this,?_⟩;have hg:C[i].getD b 0=C[i][b]:=by simp_all
 have hin:=hw.getD b;have hr:(C[i].map qencI)[b]?=some [.n (C[i].getD b 0)]:=by rw[row_map hb,hg];rfl
 refine(WH G hrow hr (n:=C[i].getD b 0) rfl U U).mono ?_;rintro _ H' rfl;rw[A53,tA]
end
structure ShapeOk (m:Mo) (P C:List (List Int)):Prop where
 pl:P.length=m.pts.length
 cl:C.length=m.crs.length
 pe:∀i (h1:i<P.length) (h2:i<m.pts.length),P[i].length=m.pts[i].bins.length
 ce:∀i (h1:i<C.length) (h2:i<m.crs.length),C[i].length=JB (szs m m.crs[i].pts)
 wp:∀xs∈P,Wn xs
 wc:∀xs∈C,Wn xs
theorem ABP (G:Nat->AV)(hG:GOk G)(hT:eT G)(m:Mo)(hm:MoOk m)(hg:Cov.Good m){n0:Nat}{h:Hp}{cb tb po co:Nat}{pb cbs:List Nat}{P C:List (List Int)}{sam ill:Int}{v3:AV}(S:CS n0 h cb tb po co pb cbs P C sam ill v3)(hS:ShapeOk m P C)
  (ls:List (List Int)) (hls:ls.length=m.pts.length) (hlen:∀l∈ls,l.length<=1048576) (T:TLs h v3 ls) (env:List Sg) (sm:SM) (henv:env.length<=1099511627776) (hsam:0<=sam/\sam<=1099511627776) (hill:0<=ill/\ill<=1099511627776) :
  ACalls (En G) 144 [.agg (DV m),.ptr cb 0 0,.ptr tb 0 0,.sl sm 2 (env.map FU)] h (A46 n0 h cb tb po co pb cbs m P C sam ill ls env):=by
 have hnp:m.pts.length<=16:=by have:=hg.num;omega
 have hnc:m.crs.length<=16:=by have:=hg.num;omega
 have hrl:=X9 m ls env hls;have hrg:=dE m ls env;refine IP (H:=hint [] []) (enM G) Tryz.func144 rfl (by kernel_rfl) (by kernel_rfl) (jB (by kernel_rfl)) ?_;show awp _ _ _ _ _ (L6 _ [.tmp 8] _);unfold A46
 generalize PN m ls env=rs at hrl hrg|-
 have gm:=AX h (yE 2 [DV m]);have hx:=(ext.rfl' h).app [yE 2 [DV m]];have hl0:(h++[yE 2 [DV m]]).length=h.length+1:=BA;refine A7 @bxM ?_
 generalize h++[yE 2 [DV m]]=H0 at gm hx hl0|-
 have lm0:∀H:Hp,H[h.length]?=some (yE 2 [DV m])->BI jA H 28 (.ptr h.length 0 0)=some (.sl m.pm 6 (m.pts.map FK)):=fun H g=>by rw[BC iD g (row:=DV m) rfl,VN]
 have lm1:∀H:Hp,H[h.length]?=some (yE 2 [DV m])->BI jA H 29 (.ptr h.length 0 1)=some (.sl m.cm 3 (m.crs.map IA)):=fun H g=>by rw[BC sD g (row:=DV m) rfl,aP]
 have gm1:=AO (x:=yE 1 (jR m.pts.length GU)) gm;have gh1:=AX H0 (yE 1 (jR m.pts.length GU));have hx1:=hx.app [yE 1 (jR m.pts.length GU)];have hl1:(H0++[yE 1 (jR m.pts.length GU)]).length=h.length+2:=by simp;omega
 simp only[vQ,jS,CP,Q4,↓reduceIte,jC,enP,AR2,P7,lm0 _ gm,jP,A6N _ _ (U:m.pts.length<=1048576)]
 generalize H0++[yE 1 (jR m.pts.length GU)]=H1 at gm1 gh1 hx1 hl1|-
 rw[hl0] at gh1|-
 have gm2:=AO (x:=yE 1 (jR m.pts.length GU)) gm1;have gh2:=AO (x:=yE 1 (jR m.pts.length GU)) gh1;have gl2:=AX H1 (yE 1 (jR m.pts.length GU));have hx2:=hx1.app [yE 1 (jR m.pts.length GU)];simp only[vQ,jS,CP,Q4,↓reduceIte,jC,enP,AR2,P7,lm0 _ gm1,jP,A6N _ _ (U:m.pts.length<=1048576)]
 generalize H1++[yE 1 (jR m.pts.length GU)]=H2 at gm2 gh2 gl2 hx2|-
 rw[hl1] at gl2|-
 have hhl:(rs.map PtR.hit).length=m.pts.length:=by simp [hrl]
 have hnl:(rs.map PtR.next).length=m.pts.length:=by simp [hrl]
 refine A7 (lm0 _ gm2) ?_
 refine EU 0 (fun F H=>F 1=.ptr cb 0 0/\F 2=.ptr tb 0 0/\F 4=.ptr h.length 0 0/\F 9=.own (h.length+1) 0 m.pts.length/\F 10=.own (h.length+2) 0 m.pts.length/\F 11=.bool (rs.any PtR.bad)/\ext h H/\H[h.length]?=some (yE 2 [DV m]) /\
   H[h.length+1]?=some (yE 1 ((rs.map PtR.hit).map TT))/\H[h.length+2]?=some (yE 1 ((rs.map PtR.next).map UY))/\fstE PtR.err rs=0)
  (fun F H=>∃e,F 8=.n e/\e≠0/\fstE PtR.err rs=e/\ext h H) ?_ ?_ ?_
 .refine BK (fun n F H=>∃i,n+i=m.pts.length/\F 1=.ptr cb 0 0/\F 2=.ptr tb 0 0/\F 3=.sl sm 2 (env.map FU)/\F 4=.ptr h.length 0 0/\F 9=.own (h.length+1) 0 m.pts.length/\F 10=.own (h.length+2) 0 m.pts.length/\F 11=.bool ((rs.take i).any PtR.bad)/\F 36=.sl m.pm 6 (m.pts.map FK)/\F 37=.n (m.pts.length:Nat)/\F 38=.n (i:Nat)/\ext h H/\H[h.length]?=some (yE 2 [DV m]) /\
   H[h.length+1]?=some (yE 1 (mix ((rs.map PtR.hit).map TT) (jR m.pts.length GU) i))/\H[h.length+2]?=some (yE 1 (mix ((rs.map PtR.next).map UY) (jR m.pts.length GU) i))/\fstE PtR.err rs=fstE PtR.err (rs.drop i)) m.pts.length
   ⟨0,BA,ER,ER,ER,ER,ER,ER,ER,ER,ER,ER,hx2,gm2,gh2,gl2,rfl⟩ ?_
  rintro n F H ⟨i,hi,f1,f2,f3,f4,f9,f10,f11,f36,f37,f38,hxH,gmH,ghH,glH,hfst⟩;refine BB f37 f38 ?_;refine BO ?_ ?_<;>intro hc
  .have hi':i<m.pts.length:=BM hc
   have hir:i<rs.length:=U;have hil:i<ls.length:=U;have hp:=hm.pts _ (jG hi');have hri:rs[i]=ptE m.pts[i] ls[i] env:=hrg i hi' hil hir;rw[ZK _ _ _ hir] at hfst;have hbad:(rs.take (i+1)).any PtR.bad=((rs.take i).any PtR.bad||rs[i].bad):=by rw[jU hir,List.any_append];simp
   have hxa:=hxH.app [yE 6 [FK m.pts[i]]];have gma:=AO (x:=yE 6 [FK m.pts[i]]) gmH;have gha:=AO (x:=yE 6 [FK m.pts[i]]) ghH;have gla:=AO (x:=yE 6 [FK m.pts[i]]) glH;have gpa:=AX H (yE 6 [FK m.pts[i]]);simp only[vQ,jS,CP,↓reduceIte,jC,enP,XL,jQ,f36,f38,CZ hi',DJ lB bA H9 hi',AU2,AQO _ _ [.str ⟨#[]⟩,.n 0,.n 0,.str ⟨#[]⟩,.sl .nil 0 [],.sl .nil 0 []] rfl]
   generalize H++[yE 6 [FK m.pts[i]]]=Ha at hxa gma gha gla gpa|-
   have Sa:=S.ext hxa;obtain⟨a,s',k',hix,hld,hk'⟩:=(T.ext hxa).ld i hil;have hcall:=A0H G hG m.pts[i] hp ls[i] s' k' hk' env sm Ha (hlen _ (jG hil)) henv;rw[<-hri] at hcall;unfold ptV at hcall;refine D6 AZ ?_;refine NJ @xY f2 f3 (ldP gpa) @Sa.lt0 hix hld ?_;refine⟨_,hcall,?_⟩;refine AB ?_;cases he:(rs[i].err==0)
   .have hne:rs[i].err≠0:=BM he
    rw[if_neg hne] at hfst;simp only[vQ,jS,LG,kD,AXX,AB0,CP,↓reduceIte,jC,bne,he];exact⟨rs[i].err,AL,hne,hfst,hxa⟩
   .have hz:rs[i].err=0:=BM he
    rw[if_pos hz] at hfst;have hm1:=xE (ys:=(rs.map PtR.hit).map TT) (xs:=jR m.pts.length GU) (i:=i) (j:=i) (by simp [hrl]) (jF _) LD;have hm2:=xE (ys:=(rs.map PtR.next).map UY) (xs:=jR m.pts.length GU) (i:=i) (j:=i) (by simp [hrl]) (jF _) LD;rw[List.getElem_replicate] at hm1 hm2;have hs1:=dK (ys:=(rs.map PtR.hit).map TT) (xs:=jR m.pts.length GU) (i:=i) (by simp [hrl]) LD LD;have hs2:=dK (ys:=(rs.map PtR.next).map UY) (xs:=jR m.pts.length GU) (i:=i) (by simp [hrl]) LD LD;rw[List.getElem_map,List.getElem_map] at hs1 hs2;have hi1:=GM (kk:=.i64) (off:=0) (len:=m.pts.length) gha hi';rw[jH] at hi1
    have hst1:DU jA Ha 32 (.ptr (h.length+1) i 0) (.sl (nm rs[i].hit) 1 (rs[i].hit.map KN))=some (Ha.set (h.length+1) (yE 1 (mix ((rs.map PtR.hit).map TT) (jR m.pts.length GU) (i+1)))):=by
     rw[G8 (AU8 _ _ _) vP gha hm1 (by simp [GU]),<-hs1];rfl
    have gmb:(Ha.set (h.length+1) (yE 1 (mix ((rs.map PtR.hit).map TT) (jR m.pts.length GU) (i+1))))[h.length]?=_:=C9 gma U;have glb:(Ha.set (h.length+1) (yE 1 (mix ((rs.map PtR.hit).map TT) (jR m.pts.length GU) (i+1))))[h.length+2]?=_:=C9 gla U;have ghb:(Ha.set (h.length+1) (yE 1 (mix ((rs.map PtR.hit).map TT) (jR m.pts.length GU) (i+1))))[h.length+1]?=_:=CV gha;have hxb:=hxa.set (b:=h.length+1) U (yE 1 (mix ((rs.map PtR.hit).map TT) (jR m.pts.length GU) (i+1)));have hi1l:=GM (kk:=.i64) (off:=0) (len:=m.pts.length) gla hi';rw[jH] at hi1l;simp only[vQ,jS,CP,↓reduceIte,jC,qP,enP,fQ,jQ,bne,he,f9,f10,hi1,hst1]
    generalize Ha.set (h.length+1) (yE 1 (mix ((rs.map PtR.hit).map TT) (jR m.pts.length GU) (i+1)))=Hb at gmb glb ghb hxb|-
    have hi2:=GM (kk:=.i64) (off:=0) (len:=m.pts.length) glb hi';rw[jH] at hi2
    have hst2:DU jA Hb 32 (.ptr (h.length+2) i 0) (.sl (nm rs[i].next) 1 (rs[i].next.map qencI))=some (Hb.set (h.length+2) (yE 1 (mix ((rs.map PtR.next).map UY) (jR m.pts.length GU) (i+1)))):=by
     rw[G8 (AU8 _ _ _) vP glb hm2 (by simp [GU]),<-hs2];rfl
    refine DW f10 hi2 hst2 ?_;have gmc:(Hb.set (h.length+2) (yE 1 (mix ((rs.map PtR.next).map UY) (jR m.pts.length GU) (i+1))))[h.length]?=_:=C9 gmb U;have ghc:(Hb.set (h.length+2) (yE 1 (mix ((rs.map PtR.next).map UY) (jR m.pts.length GU) (i+1))))[h.length+1]?=_:=C9 ghb U;have glc:(Hb.set (h.length+2) (yE 1 (mix ((rs.map PtR.next).map UY) (jR m.pts.length GU) (i+1))))[h.length+2]?=_:=CV glb;have hxc:=hxb.set (b:=h.length+2) U (yE 1 (mix ((rs.map PtR.next).map UY) (jR m.pts.length GU) (i+1)))
    generalize Hb.set (h.length+2) (yE 1 (mix ((rs.map PtR.next).map UY) (jR m.pts.length GU) (i+1)))=Hc at gmc ghc glc hxc|-
    refine A7 f11 ?_;cases hq:(rs.take i).any PtR.bad
    .rw[hq,Bool.false_or] at hbad
     refine BB f38 (DC i) ?_;exact⟨n-1,U,i+1,U,AL,AL,AL,AL,AL,AL,by first|rw[hbad]|(rw[hbad];rfl),AL,AL,AL,hxc,gmc,ghc,glc,hfst⟩
    .rw[hq,qG] at hbad
     refine BB f38 (DC i) ?_;exact⟨n-1,U,i+1,U,AL,AL,AL,AL,AL,AL,by first|rw[hbad]|(rw[hbad];rfl),AL,AL,AL,hxc,gmc,ghc,glc,hfst⟩
  .have hi':i=m.pts.length:=by
    have:¬i<m.pts.length:=BM hc;omega
   subst hi';have e1:=dL (ys:=(rs.map PtR.hit).map TT) (xs:=jR m.pts.length GU) (by simp [hrl]);have e2:=dL (ys:=(rs.map PtR.next).map UY) (xs:=jR m.pts.length GU) (by simp [hrl]);rw[List.length_replicate] at e1 e2;rw[e1] at ghH;rw[e2] at glH;rw[jJ U] at f11;rw[zJ U] at hfst;refine AB ?_;exact⟨f1,f2,f4,f9,f10,f11,hxH,gmH,ghH,glH,hfst⟩
 .rintro F H ⟨f1,f2,f4,f9,f10,f11,hxH,gmH,ghH,glH,hfst⟩
  have S1:=S.ext hxH;have hwp:∀b∈pb,b<h.length:=fun b hb=>S.np.mem_lt hb
  have hwc:∀b∈cbs,b<h.length:=fun b hb=>S.nc.mem_lt hb
  have htl:=AC S.gt;have hcl:=AC S.gc;have hstT:DU jA H 25 (.ptr tb 0 0) (.own (h.length+2) 0 m.pts.length)=some (H.set tb (yE 1 [[.own (h.length+2) 0 m.pts.length]])):=IR (row:=[v3]) (AAI _ _ _) AV9 S1.gt BA;have S2:=S1.setT (.own (h.length+2) 0 m.pts.length);have fr2:Fr1 h (H.set tb (yE 1 [[.own (h.length+2) 0 m.pts.length]])) cb tb pb cbs:=(Fr1.of_ext hxH).set (.inr (.inl rfl)) _;have gm2:(H.set tb (yE 1 [[.own (h.length+2) 0 m.pts.length]]))[h.length]?=_:=C9 gmH U;have gh2:(H.set tb (yE 1 [[.own (h.length+2) 0 m.pts.length]]))[h.length+1]?=_:=C9 ghH U;have gl2:(H.set tb (yE 1 [[.own (h.length+2) 0 m.pts.length]]))[h.length+2]?=_:=C9 glH U;refine ES @xY f2 f10 @hstT ?_
  generalize H.set tb (yE 1 [[.own (h.length+2) 0 m.pts.length]])=H3 at S2 fr2 gm2 gh2 gl2|-
  refine BB @ATG f1 ?_;refine(WH G S2.gc (i:=0) (j:=2) (n:=sam) rfl rfl U U).mono ?_;intro _ H4 e4;have e4':H4=H3.set cb (yE 4 [cvR po P co C (rz sam) ill]):=e4;have S4:=S2.setN (rz sam) ill;have fr4:=fr2.set (.inl rfl) (yE 4 [cvR po P co C (rz sam) ill]);have gm4:(H3.set cb (yE 4 [cvR po P co C (rz sam) ill]))[h.length]?=_:=C9 gm2 U;have gh4:(H3.set cb (yE 4 [cvR po P co C (rz sam) ill]))[h.length+1]?=_:=C9 gh2 U;have gl4:(H3.set cb (yE 4 [cvR po P co C (rz sam) ill]))[h.length+2]?=_:=C9 gl2 U;rw[<-e4'] at S4 fr4 gm4 gh4 gl4;clear e4 e4';have P4:Ph n0 h H4 cb tb po co pb cbs m h.length (h.length+1) (h.length+2) P C (rz sam) ill (rs.map PtR.hit) (rs.map PtR.next):=⟨gm4,gh4,gl4,S4,fr4,hwp,hwc,jF _,U,U⟩;refine A7 f11 ?_;refine TY (fun F H=>F 1=.ptr cb 0 0/\F 4=.ptr h.length 0 0/\F 9=.own (h.length+1) 0 m.pts.length/\Ph n0 h H cb tb po co pb cbs m h.length (h.length+1) (h.length+2) P C (rz sam) (if rs.any PtR.bad=true then rz ill else ill) (rs.map PtR.hit) (rs.map PtR.next)) (fun _ _=>False) ?_ ?_ ?_ (fun _ _ hh=>hh.elim)
  .intro hb
   refine BB @ATF f1 ?_;refine(WH G S4.gc (i:=0) (j:=3) (n:=ill) rfl rfl U U).mono ?_;intro _ H5 e5;have e5':H5=H4.set cb (yE 4 [cvR po P co C (rz sam) (rz ill)]):=e5;have S5:=S4.setN (rz sam) (rz ill);have fr5:=fr4.set (.inl rfl) (yE 4 [cvR po P co C (rz sam) (rz ill)]);have gm5:(H4.set cb (yE 4 [cvR po P co C (rz sam) (rz ill)]))[h.length]?=_:=C9 gm4 U;have gh5:(H4.set cb (yE 4 [cvR po P co C (rz sam) (rz ill)]))[h.length+1]?=_:=C9 gh4 U;have gl5:(H4.set cb (yE 4 [cvR po P co C (rz sam) (rz ill)]))[h.length+2]?=_:=C9 gl4 U;rw[<-e5'] at S5 fr5 gm5 gh5 gl5;rw[if_pos hb];refine BB f4 f9 ?_;exact⟨AL,AL,AL,gm5,gh5,gl5,S5,fr5,hwp,hwc,jF _,U,U⟩
  .intro hb
   rw[if_neg (by rw[hb];decide)];refine AB ?_;exact⟨f1,f4,f9,P4⟩
  clear P4 S4 fr4 gm4 gh4 gl4 S2 fr2 gm2 gh2 gl2 hstT S1 f1 f2 f4 f9 f10 f11;rintro F H ⟨f1,f4,f9,PS⟩
  generalize (if rs.any PtR.bad=true then rz ill else ill)=ill' at PS|-
  have hbl:=S.np.len;have hcl2:=S.nc.len;have hpl:=hS.pl;have hcll:=hS.cl;have hsl:=XV rs P U;have hscl:=XX m (rs.map PtR.hit) C hcll
  have h64:∀x∈rs.map PtR.hit,x.length<=1048576:=by
   intro x hx;obtain⟨r,hr,rfl⟩:=zH.1 hx;obtain⟨i,hi,rfl⟩:=qF hr;rw[hrg i U U hi];have h1:=AWV m.pts[i] ls[i] env;have h2:=(hg.full _ (jG (U:i<m.pts.length))).2;omega
  refine A7 f9 ?_;refine EU 2 (fun F H=>F 1=.ptr cb 0 0/\F 4=.ptr h.length 0 0/\F 9=.own (h.length+1) 0 m.pts.length/\Ph n0 h H cb tb po co pb cbs m h.length (h.length+1) (h.length+2) (SI rs P) C (rz sam) ill' (rs.map PtR.hit) (rs.map PtR.next)) (fun _ _=>False) ?_ ?_ (fun _ _ hh=>hh.elim)
  .refine BK (fun n F H=>∃i,n+i=m.pts.length/\F 1=.ptr cb 0 0/\F 4=.ptr h.length 0 0/\F 9=.own (h.length+1) 0 m.pts.length/\F 87=.own (h.length+1) 0 m.pts.length/\F 88=.n (m.pts.length:Nat)/\F 89=.n (i:Nat) /\
    Ph n0 h H cb tb po co pb cbs m h.length (h.length+1) (h.length+2) (mix (SI rs P) P i) C (rz sam) ill' (rs.map PtR.hit) (rs.map PtR.next)) m.pts.length ⟨0,BA,MB f1,MB f4,MB f9,ER,ER,ER,PS⟩ ?_
   rintro n F H ⟨i,hi,f1,f4,f9,f87,f88,f89,PS⟩;refine BB f88 f89 ?_;refine BO ?_ ?_<;>intro hc
   .have hi':i<m.pts.length:=BM hc
    have hir:i<rs.length:=U;have hiP:i<P.length:=U;have hipb:i<pb.length:=U;have hmx:=xD (ys:=SI rs P) (xs:=P) (i:=i) hsl U;have hmi:=nH (ys:=SI rs P) (xs:=P) (i:=i) (j:=i) hsl (jF _) hiP U;have hsg:=XW rs P i hir hiP U;have hms:=dK (ys:=SI rs P) (xs:=P) (i:=i) hsl hiP U;have hri:rs[i]=ptE m.pts[i] ls[i] env:=hrg i hi' U hir;have hpe:=hS.pe i hiP hi';have hlt:∀x∈rs[i].hit,x<P[i].length:=fun x hx=>by rw[hri] at hx;rw[hpe];exact vZ _ _ _ x hx
    have hll:rs[i].hit.length<=1048576:=h64 _ (zH.2 ⟨rs[i],jG hir,rfl⟩);have hwi:Wn P[i]:=hS.wp _ (jG hiP);have hi1:=GM (kk:=.i64) (off:=0) (len:=m.pts.length) PS.gh hi';rw[jH] at hi1
    have lh:BI jA H 32 (.ptr (h.length+1) i 0)=some (.sl (nm rs[i].hit) 1 (rs[i].hit.map KN)):=by
     rw[BC NF PS.gh (row:=TT rs[i].hit) (by rw[row_map (BM hir)];simp)];rfl
    generalize hht:rs[i].hit=hit at hlt hll lh hsg;obtain⟨M,hmm,hmx,hmi,hms⟩:∃M,mix (SI rs P) P i=M/\M.length=P.length/\(∀h:i<M.length,M[i]=P[i])/\M.set i (SI rs P)[i]=mix (SI rs P) P (i+1):=⟨_,rfl,hmx,fun _=>hmi,hms⟩;rw[hmm] at PS;refine ES f87 f89 hi1 lh ?_;refine EU 4 (fun F H=>F 1=.ptr cb 0 0/\F 4=.ptr h.length 0 0/\F 9=.own (h.length+1) 0 m.pts.length/\F 87=.own (h.length+1) 0 m.pts.length/\F 88=.n (m.pts.length:Nat)/\F 89=.n (i:Nat)/\Ph n0 h H cb tb po co pb cbs m h.length (h.length+1) (h.length+2) (M.set i (rowP hit P[i])) C (rz sam) ill' (rs.map PtR.hit) (rs.map PtR.next)) (fun _ _=>False) ?_ ?_ (fun _ _ hh=>hh.elim)
    .have e0:M.set i (rowP (hit.take 0) P[i])=M:=by
      show M.set i P[i]=M;rw[<-hmi U,List.set_getElem_self]
     refine BK (fun n F H=>∃j,n+j=hit.length/\F 1=.ptr cb 0 0/\F 4=.ptr h.length 0 0/\F 9=.own (h.length+1) 0 m.pts.length/\F 87=.own (h.length+1) 0 m.pts.length/\F 88=.n (m.pts.length:Nat)/\F 89=.n (i:Nat)/\F 18=.n (i:Nat)/\F 94=.sl (nm hit) 1 (hit.map KN)/\F 95=.n (hit.length:Nat)/\F 96=.n (j:Nat) /\
      Ph n0 h H cb tb po co pb cbs m h.length (h.length+1) (h.length+2) (M.set i (rowP (hit.take j) P[i])) C (rz sam) ill' (rs.map PtR.hit) (rs.map PtR.next)) hit.length
      ⟨0,BA,MB f1,MB f4,MB f9,MB f87,MB f88,MB f89,ER,ER,ER,ER,by rw[e0];exact PS⟩ ?_
     clear PS lh hi1;rintro n' F H ⟨j,hj,f1,f4,f9,f87,f88,f89,f18,f94,f95,f96,PS⟩;refine BB f95 f96 ?_;refine D9 ?_ ?_<;>intro hj'
     .have hb:=hlt _ (jG hj')
      have hrl2:=TG (hit.take j) P[i];have hiM:i<(M.set i (rowP (hit.take j) P[i])).length:=by rw[qY];omega
      have hcur:(M.set i (rowP (hit.take j) P[i]))[i]=rowP (hit.take j) P[i]:=List.getElem_set_self _;have hR:=PS.raiseP G hiM hipb hit[j] (by rw[hcur,hrl2];exact hb) (by rw[hcur];exact Wn.rowP _ hwi);rw[hcur] at hR;obtain⟨r1,r2,r3,r4,r5⟩:=hR;have PS2:=PS.setP hipb (raiseAt (rowP (hit.take j) P[i]) hit[j]) (fun _=>by rw[hcur,UQ]);rw[List.set_set,<-rowP_step _ _ _ hj'] at PS2;rw[<-rowP_step _ _ _ hj'] at r5;simp only[vQ,jS,CP,↓reduceIte,jC,enP,fQ,LY,gB,QI,VI,f94,f96,CZ hj',CW ag3 hj',encN0,f1,f18,r1,r2,r3,r4];refine r5.mono ?_;rintro _ H' rfl;refine BB f96 (DC j) ?_;exact⟨n'-1,U,j+1,U,AL,AL,AL,AL,AL,AL,AL,AL,AL,AL,PS2⟩
     .rw[jJ U] at PS
      refine AB ?_;exact⟨f1,f4,f9,f87,f88,f89,PS⟩
    .rintro F H ⟨f1,f4,f9,f87,f88,f89,PS⟩
     have e1:M.set i (rowP hit P[i])=mix (SI rs P) P (i+1):=by rw[<-hms,hsg]
     rw[e1] at PS;refine BB f89 (DC i) ?_;exact⟨n-1,U,i+1,U,AL,AL,AL,AL,AL,AL,PS⟩
   .have hi':i=P.length:=by
     have:¬i<m.pts.length:=BM hc;omega
    subst hi';rw[dL hsl] at PS;refine AB ?_;exact⟨f1,f4,f9,PS⟩
  clear PS f1 f4 f9;rintro F H ⟨f1,f4,f9,PS⟩;refine BB f4 (lm1 _ PS.gm) ?_;refine EU 6 (fun F H=>Ph n0 h H cb tb po co pb cbs m h.length (h.length+1) (h.length+2) (SI rs P) (VH m (rs.map PtR.hit) C) (rz sam) ill' (rs.map PtR.hit) (rs.map PtR.next)) (fun _ _=>False) ?_ ?_ (fun _ _ hh=>hh.elim)
  .refine BK (fun n F H=>∃i,n+i=m.crs.length/\F 1=.ptr cb 0 0/\F 4=.ptr h.length 0 0/\F 9=.own (h.length+1) 0 m.pts.length/\F 113=.sl m.cm 3 (m.crs.map IA)/\F 114=.n (m.crs.length:Nat)/\F 115=.n (i:Nat) /\
    Ph n0 h H cb tb po co pb cbs m h.length (h.length+1) (h.length+2) (SI rs P) (mix (VH m (rs.map PtR.hit) C) C i) (rz sam) ill' (rs.map PtR.hit) (rs.map PtR.next)) m.crs.length ⟨0,BA,MB f1,MB f4,MB f9,ER,ER,ER,PS⟩ ?_
   clear PS f1 f4 f9;rintro n F H ⟨i,hi,f1,f4,f9,f113,f114,f115,PS⟩;refine BB f114 f115 ?_;refine BO ?_ ?_<;>intro hc
   .have hi':i<m.crs.length:=BM hc
    have hiC:i<C.length:=U;have hicb:i<cbs.length:=U;have hcg:=hg.crs _ (jG hi');have hfs:=hg.full.szs hcg.here;have hzl:=SG m m.crs[i].pts;have htwo:=hcg.two;have hfour:=hcg.four;have hmx:=xD (ys:=VH m (rs.map PtR.hit) C) (xs:=C) (i:=i) hscl U;have hmi:=nH (ys:=VH m (rs.map PtR.hit) C) (xs:=C) (i:=i) (j:=i) hscl (jF _) hiC U;have hsg:=XY m (rs.map PtR.hit) C i hi' hiC U;have hms:=dK (ys:=VH m (rs.map PtR.hit) C) (xs:=C) (i:=i) hscl hiC U;have hce:=hS.ce i hiC hi';have hpr:=hcg.prod;have hwi:Wn C[i]:=hS.wc _ (jG hiC);have PSa:=PS.app [yE 3 [IA m.crs[i]]];have gx:=AX H (yE 3 [IA m.crs[i]]);have hxl:=PS.fr.le;simp only[vQ,jS,CP,↓reduceIte,jC,enP,fP,jQ,f113,f115,CZ hi',DJ APN AA5 O4 hi',A44,A2O _ _ [.str ⟨#[]⟩,.sl .nil 0 [],.sl .nil 0 []] rfl]
    generalize H++[yE 3 [IA m.crs[i]]]=Ha at PSa gx|-
    generalize H.length=xb at gx hxl|-
    obtain⟨M,hmm,hmx,hmi,hms⟩:∃M,mix (VH m (rs.map PtR.hit) C) C i=M/\M.length=C.length/\(∀h:i<M.length,M[i]=C[i])/\M.set i (VH m (rs.map PtR.hit) C)[i]=mix (VH m (rs.map PtR.hit) C) C (i+1):=⟨_,rfl,hmx,fun _=>hmi,hms⟩;rw[hmm] at PSa;have hxpb:xb ∉ pb:=fun q=>by have:=hwp _ q;omega
    have hxcb:∀(k:Nat) (hk:k<cbs.length),cbs[k]≠xb:=fun k hk q=>by have:=hwc _ (jG hk);omega
    refine DW f4 (ldM PSa.gm) (ldC gx) ?_;refine(bC G m m.crs[i] Ha hcg.here U).use ?_;have N:=PSa.cs.nc;have q2:=N.ix (U:i<M.length);have q3:=N.ld (U:i<M.length);rw[hmi] at q3;refine ES f1 @PSa.cs.l1 q2 q3 ?_;refine EU 8 (fun F H=>F 1=.ptr cb 0 0/\F 4=.ptr h.length 0 0/\F 9=.own (h.length+1) 0 m.pts.length/\F 113=.sl m.cm 3 (m.crs.map IA)/\F 114=.n (m.crs.length:Nat)/\F 115=.n (i:Nat)/\Ph n0 h H cb tb po co pb cbs m h.length (h.length+1) (h.length+2) (SI rs P) (M.set i (rowC m m.crs[i] (rs.map PtR.hit) C[i])) (rz sam) ill' (rs.map PtR.hit) (rs.map PtR.next)) (fun _ _=>False) ?_ ?_ (fun _ _ hh=>hh.elim)
    .have e0:M.set i (mix (rowC m m.crs[i] (rs.map PtR.hit) C[i]) C[i] 0)=M:=by
      show M.set i C[i]=M;rw[<-hmi U,List.set_getElem_self]
     refine BK (fun n F H=>∃k,n+k=C[i].length/\F 1=.ptr cb 0 0/\F 4=.ptr h.length 0 0/\F 9=.own (h.length+1) 0 m.pts.length/\F 113=.sl m.cm 3 (m.crs.map IA)/\F 114=.n (m.crs.length:Nat)/\F 115=.n (i:Nat)/\F 22=.n (i:Nat)/\F 23=.ptr xb 0 0/\F 24=.sl (nm (szs m m.crs[i].pts)) 1 ((szs m m.crs[i].pts).map KN)/\F 130=.n (C[i].length:Nat)/\F 131=.n (k:Nat)/\H[xb]?=some (yE 3 [IA m.crs[i]]) /\
      Ph n0 h H cb tb po co pb cbs m h.length (h.length+1) (h.length+2) (SI rs P) (M.set i (mix (rowC m m.crs[i] (rs.map PtR.hit) C[i]) C[i] k)) (rz sam) ill' (rs.map PtR.hit) (rs.map PtR.next)) C[i].length
      ⟨0,BA,MB f1,MB f4,MB f9,MB f113,MB f114,MB f115,ER,ER,ER,ER,ER,gx,by rw[e0];exact PSa⟩ ?_
     clear PS PSa gx q2 q3 N;rintro n' F H ⟨k,hk,f1,f4,f9,f113,f114,f115,f22,f23,f24,f130,f131,gx,PS⟩;refine BB f130 f131 ?_;refine BO ?_ ?_<;>intro hc
     .have hk':k<C[i].length:=BM hc
      have hrcl:=rowC_len m m.crs[i] (rs.map PtR.hit) C[i];have hrcg:=rowC_get m m.crs[i] (rs.map PtR.hit) C[i] k hk' U;have hkl:=xD (ys:=rowC m m.crs[i] (rs.map PtR.hit) C[i]) (xs:=C[i]) (i:=k) hrcl U;have hkg:=nH (ys:=rowC m m.crs[i] (rs.map PtR.hit) C[i]) (xs:=C[i]) (i:=k) (j:=k) hrcl (jF _) hk' U;have hks:=dK (ys:=rowC m m.crs[i] (rs.map PtR.hit) C[i]) (xs:=C[i]) (i:=k) hrcl hk' U;have hins:=AA3 (szs m m.crs[i].pts) k (fun n hn=>(hfs n hn).1);have htl:=TL hins;have hck:crK m m.crs[i] (rs.map PtR.hit) k=(Z7 m m.crs[i] (TC (szs m m.crs[i].pts) k)&&allB m.crs[i].pts (TC (szs m m.crs[i].pts) k) (rs.map PtR.hit)):=rfl
      have skip:crK m m.crs[i] (rs.map PtR.hit) k=false->mix (rowC m m.crs[i] (rs.map PtR.hit) C[i]) C[i] (k+1)=mix (rowC m m.crs[i] (rs.map PtR.hit) C[i]) C[i] k:=fun hq=>by
       rw[<-hks,hrcg,if_neg (by rw[hq];decide),<-hkg,List.set_getElem_self]
      refine BB f24 f131 ?_;refine(hT (szs m m.crs[i].pts) _ k H U U hfs U).use ?_;refine ES f4 f23 (ldM PS.gm) (ldC gx) ?_;refine(rS G m m.crs[i] (TC (szs m m.crs[i].pts) k) .any H hcg.here hins U (by have:=hcg.num;omega)).uu ?_;cases h1:Z7 m m.crs[i] (TC (szs m m.crs[i].pts) k)
      .rw[h1,Bool.false_and] at hck
       rw[<-skip hck] at PS;refine BB f131 (DC k) ?_;exact⟨n'-1,U,k+1,U,AL,AL,AL,AL,AL,AL,AL,AL,AL,AL,AL,gx,PS⟩
      rw[h1,wG] at hck;refine DW f9 f23 (ldC gx) ?_;have hall:=AU0 G m.crs[i] (TC (szs m m.crs[i].pts) k) .any (rs.map PtR.hit) (h.length+1) H PS.gh (fun p hp=>by have:=hcg.here p hp;rw[hhl];exact this) U h64 U;rw[hhl] at hall;refine hall.uu ?_;cases h2:allB m.crs[i].pts (TC (szs m m.crs[i].pts) k) (rs.map PtR.hit)
      .rw[h2] at hck
       rw[<-skip hck] at PS;refine BB f131 (DC k) ?_;exact⟨n'-1,U,k+1,U,AL,AL,AL,AL,AL,AL,AL,AL,AL,AL,AL,gx,PS⟩
      rw[h2] at hck;have hiM:i<(M.set i (mix (rowC m m.crs[i] (rs.map PtR.hit) C[i]) C[i] k)).length:=by rw[qY];omega
      have hcur:(M.set i (mix (rowC m m.crs[i] (rs.map PtR.hit) C[i]) C[i] k))[i]=mix (rowC m m.crs[i] (rs.map PtR.hit) C[i]) C[i] k:=List.getElem_set_self _
      have hwm:Wn (mix (rowC m m.crs[i] (rs.map PtR.hit) C[i]) C[i] k):=by
       intro x hx;unfold mix at hx;rcases zK.1 hx with hx|hx
       .exact Wn.rowC hwi x (List.mem_of_mem_take hx)
       .exact hwi x (List.mem_of_mem_drop hx)
      have hR:=PS.raiseC G hiM hicb k (by rw[hcur,hkl];exact hk') (by rw[hcur];exact hwm);rw[hcur] at hR;obtain⟨r1,r2,r3,r4,r5⟩:=hR
      have hra:raiseAt (mix (rowC m m.crs[i] (rs.map PtR.hit) C[i]) C[i] k) k=mix (rowC m m.crs[i] (rs.map PtR.hit) C[i]) C[i] (k+1):=by
       rw[<-hks,hrcg,if_pos hck];unfold raiseAt;congr 2;rw[zI,jI U];exact hkg
      have PS2:=PS.setC hicb (raiseAt (mix (rowC m m.crs[i] (rs.map PtR.hit) C[i]) C[i] k) k) (fun _=>by rw[hcur,UQ]);rw[List.set_set,hra] at PS2;rw[hra] at r5;have gx2:=C9 (y:=yE 1 ((mix (rowC m m.crs[i] (rs.map PtR.hit) C[i]) C[i] (k+1)).map qencI)) gx (hxcb i hicb).symm;refine NJ f1 f22 f131 r1 r2 r3 r4 ?_;refine r5.mono ?_;rintro _ H' rfl;refine BB f131 (DC k) ?_;exact⟨n'-1,U,k+1,U,AL,AL,AL,AL,AL,AL,AL,AL,AL,AL,AL,gx2,PS2⟩
     .have hk':k=C[i].length:=by
       have:¬k<C[i].length:=BM hc;omega
      rw[hk',dL (rowC_len m m.crs[i] (rs.map PtR.hit) C[i])] at PS;refine AB ?_;exact⟨f1,f4,f9,f113,f114,f115,PS⟩
    .rintro F H ⟨f1,f4,f9,f113,f114,f115,PS⟩
     have e1:M.set i (rowC m m.crs[i] (rs.map PtR.hit) C[i])=mix (VH m (rs.map PtR.hit) C) C (i+1):=by rw[<-hms,hsg]
     rw[e1] at PS;refine BB f115 (DC i) ?_;exact⟨n-1,U,i+1,U,AL,AL,AL,AL,AL,AL,PS⟩
   .have hi':i=C.length:=by
     have:¬i<m.crs.length:=BM hc;omega
    subst hi';rw[dL hscl] at PS;refine AB ?_;exact PS
  .rintro F H PS
   refine AB ?_;exact .inr ⟨hfst,AL,h.length+2,U,PS.gl,PS.cs,PS.fr⟩
 .rintro F H ⟨e,f8,hne,hfst,hxH⟩
  refine A7 f8 ?_;exact .inl ⟨e,hne,hfst,AL,hxH⟩
def NLB (o:Nat)(bs:List Nat)(xss:List (List Int))(b:Nat):Prop:=(xss≠[]/\b=o)\/b∈bs
theorem NL.lt (N:NL n0 H o bs xss)(hb:NLB o bs xss b):n0<=b/\b<H.length:=by
 rcases hb with⟨h,rfl⟩|h
 .exact⟨N.lo' h,N.top_lt h⟩
 .exact⟨N.lo _ h,N.mem_lt h⟩
theorem NL.base (N:NL n0 H o bs xss)(h:k<=n0):NL k H o bs xss :=
 ⟨N.len,N.top,N.row,N.nodup,N.out,fun b hb=>qJ h (N.lo b hb),fun q=>qJ h (N.lo' q)⟩
theorem AAP (h:isB (nlV o xss) q):NLB o bs xss q:=.inl (xM h)
theorem AF3 {t:Nat}(h:NLB t (bs++[b]) (xss++[xs]) q):q=t\/NLB o bs xss q\/q=b:=by
 rcases h with⟨_,rfl⟩|h
 .exact .inl rfl
 .rcases zK.1 h with h|h
  .exact .inr (.inl (.inr h))
  .exact .inr (.inr (BM h))
def zP (m:Mo):List (List Int):=m.pts.map fun p=>zeros p.bins.length
def zC (m:Mo):List (List Int):=m.crs.map fun c=>zeros (JB (szs m c.pts))
theorem AF8 (m:Mo):(zP m).length=m.pts.length:=by simp [zP]
theorem AF9 (m:Mo):(zC m).length=m.crs.length:=by simp [zC]
theorem AVV (m:Mo)(i:Nat)(hi:i<m.pts.length):(zP m).take (i+1)=(zP m).take i++[zeros m.pts[i].bins.length]:=by
 have hl:i<(zP m).length:=by unfold zP;simpa using hi
 rw[jU hl];simp [zP]
theorem AVW (m:Mo)(i:Nat)(hi:i<m.crs.length):(zC m).take (i+1)=(zC m).take i++[zeros (JB (szs m m.crs[i].pts))]:=by
 have hl:i<(zC m).length:=by unfold zC;simpa using hi
 rw[jU hl];simp [zC]
theorem sF (n:Nat):(zeros n).length=n:=by simp [zeros]
structure NC (n0:Nat) (H:Hp) (po:Nat) (pb:List Nat) (co:Nat) (cbs:List Nat) (P C:List (List Int)):Prop where
 np:NL n0 H po pb P
 nc:NL n0 H co cbs C
 dis:∀b,NLB po pb P b->¬NLB co cbs C b
theorem NC.keep {n0:Nat}{H H':Hp}{po:Nat}{pb:List Nat}{co:Nat}{cbs:List Nat}{P C:List (List Int)}(N:NC n0 H po pb co cbs P C)(hk:∀b x,n0<=b->b<H.length->H[b]?=some x->H'[b]?=some x):NC n0 H' po pb co cbs P C :=
 ⟨N.np.keep fun b x hb h=>hk b x (N.np.lt hb).1 (N.np.lt hb).2 h,N.nc.keep fun b x hb h=>hk b x (N.nc.lt hb).1 (N.nc.lt hb).2 h,N.dis⟩
theorem NC.base {n0 k:Nat}{H:Hp}{po:Nat}{pb:List Nat}{co:Nat}{cbs:List Nat}{P C:List (List Int)}(N:NC n0 H po pb co cbs P C)(h:k<=n0):NC k H po pb co cbs P C:=⟨N.np.base h,N.nc.base h,N.dis⟩
theorem NC.cs {n0:Nat}{H:Hp}{po:Nat}{pb:List Nat}{co:Nat}{cbs:List Nat}{P C:List (List Int)}(N:NC n0 H po pb co cbs P C){cb tb:Nat}{sam ill:Int}{v3:AV}(gc:H[cb]?=some (yE 4 [cvR po P co C sam ill]))(gt:H[tb]?=some (yE 1 [[v3]]))(ht:cb≠tb)
  (hc:∀b,NLB po pb P b\/NLB co cbs C b->b≠cb/\b≠tb):CS n0 H cb tb po co pb cbs P C sam ill v3:=by
 refine⟨gc,gt,N.np,N.nc,fun b h1 h2=>N.dis b (.inr h1) (.inr h2),fun h=>(hc _ (.inl (.inr h))).1 rfl,fun h=>(hc _ (.inr (.inr h))).1 rfl,fun h=>(hc _ (.inl (.inr h))).2 rfl,fun h=>(hc _ (.inr (.inr h))).2 rfl,fun h=>⟨fun q=>N.dis _ (.inl ⟨h,rfl⟩) (.inr q),?_,?_⟩,fun h=>⟨fun q=>N.dis _ (.inr q) (.inl ⟨h,rfl⟩),?_,?_⟩,ht⟩
 .exact fun e=>(hc _ (.inl (.inl ⟨h,rfl⟩))).1 e.symm
 .exact fun e=>(hc _ (.inl (.inl ⟨h,rfl⟩))).2 e.symm
 .exact fun e=>(hc _ (.inr (.inl ⟨h,rfl⟩))).1 e.symm
 .exact fun e=>(hc _ (.inr (.inl ⟨h,rfl⟩))).2 e.symm
structure EmO (h H:Hp) (m:Mo) (po:Nat) (pb:List Nat) (co:Nat) (cbs:List Nat) (v3:AV):Prop where
 nc:NC h.length H po pb co cbs (zP m) (zC m)
 o3:outG 1 (fun _:Pt=>GU) h m.pts v3 H
theorem AOY (m:Mo)(hm:MoOk m)(hg:Cov.Good m)(h:Hp):ACalls (En G) 75 [.agg (DV m)] h fun v H=>ext h H/\∃po pb co cbs v3,v=.tup [.agg (LV (nlV po (zP m)) (nlV co (zC m))),.agg [v3]]/\EmO h H m po pb co cbs v3:=by
 have hm1:=hm.np;have hm2:=hm.nc;have hnum:=hg.num;refine IP (H:=hint [22,23,24,45,46,47] []) (enM G) Tryz.func75 rfl (by kernel_rfl) (by kernel_rfl) (jB (by kernel_rfl)) ?_;show awp _ _ _ _ _ (L6 _ [.cell 2 46,.cell 3 94] _);have E:=Em.mk' h m;refine DW @bxM pR AU3 ?_
 generalize h++[yE 2 [DV m]]++[yE 4 [I8]]++[yE 1 [GU]]++[yE 4 [I8]]++[yE 1 [GU]]=H0 at E|-
 generalize (h++[yE 2 [DV m]]++[yE 4 [I8]]++[yE 1 [GU]]++[yE 4 [I8]]).length=b5 at E|-
 generalize (h++[yE 2 [DV m]]++[yE 4 [I8]]++[yE 1 [GU]]).length=b4 at E|-
 generalize (h++[yE 2 [DV m]]++[yE 4 [I8]]).length=b3 at E|-
 generalize (h++[yE 2 [DV m]]).length=b2 at E|-
 have o2:=E.o2;have o3:=E.o3;have o4:=E.o4;have o5:=E.o5;have hlt0:=E.lt;refine A7 @E.m0 ?_;refine EU 0 (fun F H=>∃po pb v3,F 1=.ptr h.length 0 0/\F 2=.ptr b2 0 0/\F 3=.ptr b3 0 0/\F 4=.ptr b4 0 0/\F 5=.ptr b5 0 0/\Em h H m b2 b3 b4 b5 (nlV po (zP m)) (.sl .nil 0 []) v3/\NL H0.length H po pb (zP m)/\outG 1 (fun _:Pt=>GU) H0 m.pts v3 H/\(∀b,NLB po pb (zP m) b->¬isB v3 b)/\H0.length<=H.length) (fun _ _=>False) ?_ ?_ (fun _ _ hh=>hh.elim)
 .refine BK (fun n F H=>∃i po pb v3,n+i=m.pts.length/\F 1=.ptr h.length 0 0/\F 2=.ptr b2 0 0/\F 3=.ptr b3 0 0/\F 4=.ptr b4 0 0/\F 5=.ptr b5 0 0/\F 11=.sl m.pm 6 (m.pts.map FK)/\F 12=.n m.pts.length/\F 13=.n (i:Nat)/\Em h H m b2 b3 b4 b5 (nlV po ((zP m).take i)) (.sl .nil 0 []) v3/\NL H0.length H po pb ((zP m).take i)/\outG 1 (fun _:Pt=>GU) H0 (m.pts.take i) v3 H/\(∀b,NLB po pb ((zP m).take i) b->¬isB v3 b)/\H0.length<=H.length) m.pts.length
   ⟨0,0,[],.sl .nil 0 [],BA,AQ,AQ,AQ,AQ,AQ,AQ,AQ,AQ,by rw[qI];exact E,by rw[qI];exact NL.nil _ _ _,by rw[qI];exact outG.nil _ _ _ _,fun b _ hb'=>hb',jF _⟩ ?_
  clear E;rintro n F H ⟨i,po,pb,v3,hi,f1,f2,f3,f4,f5,f11,f12,f13,E,N,ho3,hdis,hle⟩;refine BB f12 f13 ?_;refine D9 ?_ ?_<;>intro hi'
  .have h64:=(hg.full _ (jG hi')).2
   have hP:=AVV m i hi';have hzl:=sF m.pts[i].bins.length;have htl:((zP m).take i).length<=1048576:=by rw[jZ,AF8];omega
   simp only[vQ,jY,jS,jV,zO,CP,↓reduceIte,jC,enP,XL,jQ,f11,f13,CZ hi',DJ lB bA H9 hi',AU2,AQO _ _ [.str ⟨#[]⟩,.n 0,.n 0,.str ⟨#[]⟩,.sl .nil 0 [],.sl .nil 0 []] rfl];have hl1:(H++[yE 6 [FK m.pts[i]]]).length=H.length+1:=BA;have E1:=E.app [yE 6 [FK m.pts[i]]];have N1:=N.app [yE 6 [FK m.pts[i]]];have ho1:=ho3.app [yE 6 [FK m.pts[i]]];have lp:BI jA (H++[yE 6 [FK m.pts[i]]]) 80 (.ptr H.length 0 5)=some (.sl m.pts[i].bm 4 (m.pts[i].bins.map GG)):=by rw[D7 QC,TS]
   generalize H++[yE 6 [FK m.pts[i]]]=Ha at hl1 E1 N1 ho1 lp|-
   have N2:=(N1.app [yE 1 ((zeros m.pts[i].bins.length).map qencI)]).app [yE 1 [[.own Ha.length 0 m.pts[i].bins.length]]];have E2:=(E1.app [yE 1 ((zeros m.pts[i].bins.length).map qencI)]).app [yE 1 [[.own Ha.length 0 m.pts[i].bins.length]]];have ho2:=(ho1.app [yE 1 ((zeros m.pts[i].bins.length).map qencI)]).app [yE 1 [[.own Ha.length 0 m.pts[i].bins.length]]];have gb:=AO (x:=yE 1 [[.own Ha.length 0 m.pts[i].bins.length]]) (AX Ha (yE 1 ((zeros m.pts[i].bins.length).map qencI)));have gt:=AX (Ha++[yE 1 ((zeros m.pts[i].bins.length).map qencI)]) (yE 1 [[.own Ha.length 0 m.pts[i].bins.length]]);have hl2:(Ha++[yE 1 ((zeros m.pts[i].bins.length).map qencI)]++[yE 1 [[.own Ha.length 0 m.pts[i].bins.length]]]).length=Ha.length+2:=BA;refine D6 AZ ?_;simp only[vQ,JH,jY,jS,jV,zO,zY,KY,XR,LP,F6,Q4,JW,↓reduceIte,jC,jT,enP,gB,rO,OQ,f4,E1.l4,lp,jP,mkI _ _ (U:m.pts[i].bins.length<=1048576),ALU]
   generalize Ha++[yE 1 ((zeros m.pts[i].bins.length).map qencI)]++[yE 1 [[.own Ha.length 0 m.pts[i].bins.length]]]=Hb at N2 E2 ho2 gb gt hl2|-
   generalize (Ha++[yE 1 ((zeros m.pts[i].bins.length).map qencI)]).length=tb at gt|-
   obtain⟨H2,hap,N3,hk,hl3,hx3⟩:=N2.snoc gb U U (fun q=>by have:=N.mem_lt q;omega) (fun q e=>by have:=N.top_lt q;omega) (by rw[hzl];exact gt) htl;rw[<-hP] at N3 hap;have hne:(zP m).take (i+1)≠[]:=by rw[hP];simp
   have E3:=E2.keep hk (fun b hb=>by
    obtain⟨q,rfl⟩:=xM hb
    have:=N.lo' q;omega) (hx3 h U)
   rw[WO _ hne] at hap;refine KW hap ?_;have E4:=E3.set4 (.own Hb.length 0 ((zP m).take (i+1)).length) (.sl .nil 0 []);have ho4:=(ho2.keepA hk (fun b hb hb'=>hdis b (AAP hb') hb)).setB (b:=b4) U (yE 4 [LV (.own Hb.length 0 ((zP m).take (i+1)).length) (.sl .nil 0 [])]);have N4:NL H0.length (H2.set b4 (yE 4 [LV (.own Hb.length 0 ((zP m).take (i+1)).length) (.sl .nil 0 [])])) Hb.length (pb++[Ha.length]) ((zP m).take (i+1)):=N3.keep fun b x hb hg=>C9 hg (by have:=N3.lt hb;omega)
   have hl4:(H2.set b4 (yE 4 [LV (.own Hb.length 0 ((zP m).take (i+1)).length) (.sl .nil 0 [])])).length=H2.length:=BA;refine BB f4 @E3.s4 ?_
   generalize H2.set b4 (yE 4 [LV (.own Hb.length 0 ((zP m).take (i+1)).length) (.sl .nil 0 [])])=H4 at E4 ho4 N4 hl4|-
   obtain⟨v3',H5,hap3,ho5,hk3,hl5,hn3,⟨o3',l3,rfl⟩,hx5⟩:=ho4.app2 ud25 vP zs25 by25 U (by rw[jZ];omega) U m.pts[i];rw[<-jU hi'] at ho5;have E5:=E4.keep hk3 (fun b hb=>by have:=ho4.lt hb;omega) (hx5 h U);have E6:=E5.set5 (.own o3' 0 l3);have ho6:=ho5.setB (b:=b5) U (yE 1 [[.own o3' 0 l3]])
   have N5:NL H0.length (H5.set b5 (yE 1 [[.own o3' 0 l3]])) Hb.length (pb++[Ha.length]) ((zP m).take (i+1)):=N4.keep fun b x hb hg=>C9 (hk3 b x hg (fun q=>by
    rw[hP] at hb;rcases AF3 (o:=po) hb with rfl|hb|rfl
    .have:=ho3.lt q;omega
    .exact hdis _ hb q
    .have:=ho3.lt q;omega)) (by have:=N4.lt hb;omega)
   refine ES @xY f5 @E4.l5 @A8H ?_;refine KW (v:=.own o3' 0 l3) (h:=H5) hap3 ?_;refine JI @xY f5 @E5.s5 f13 (DC i) ?_;rw[<-WO _ hne] at E6
   exact⟨n-1,U,i+1,Hb.length,_,.own o3' 0 l3,U,AL,AL,AL,AL,AL,AL,AL,AL,E6,N5,ho6,fun b hb hb'=>by
    have h1:=hn3 b hb';have h2:=N4.lt hb
    omega,by rw[qY];omega⟩
  .rw[jJ (by rw[AF8];omega)] at N E hdis
   rw[jJ U] at ho3;refine AB ?_;exact⟨po,pb,v3,f1,f2,f3,f4,f5,E,N,ho3,hdis,hle⟩
 .rintro F H ⟨po,pb,v3,f1,f2,f3,f4,f5,E,N,ho3,hdis,hle⟩
  refine BB f1 @E.m1 ?_;refine EU 2 (fun F H=>∃co cbs,F 2=.ptr b2 0 0/\F 3=.ptr b3 0 0/\F 4=.ptr b4 0 0/\F 5=.ptr b5 0 0/\Em h H m b2 b3 b4 b5 (nlV po (zP m)) (nlV co (zC m)) v3/\NC H0.length H po pb co cbs (zP m) (zC m)/\outG 1 (fun _:Pt=>GU) H0 m.pts v3 H) (fun _ _=>False) ?_ ?_ (fun _ _ hh=>hh.elim)
  .refine BK (fun n F H=>∃i co cbs,n+i=m.crs.length/\F 1=.ptr h.length 0 0/\F 2=.ptr b2 0 0/\F 3=.ptr b3 0 0/\F 4=.ptr b4 0 0/\F 5=.ptr b5 0 0/\F 33=.sl m.cm 3 (m.crs.map IA)/\F 34=.n m.crs.length/\F 35=.n (i:Nat)/\Em h H m b2 b3 b4 b5 (nlV po (zP m)) (nlV co ((zC m).take i)) v3/\NL H0.length H po pb (zP m)/\NL H0.length H co cbs ((zC m).take i)/\outG 1 (fun _:Pt=>GU) H0 m.pts v3 H/\(∀b,NLB co cbs ((zC m).take i) b->¬NLB po pb (zP m) b/\¬isB v3 b)/\H0.length<=H.length) m.crs.length
    ⟨0,0,[],BA,EI f1,EI f2,EI f3,EI f4,EI f5,AQ,AQ,AQ,by rw[qI];exact E,N,by rw[qI];exact NL.nil _ _ _,ho3,(fun b hb=>by
     rcases hb with⟨q,_⟩|q
     .exact absurd rfl q
     .cases q),hle⟩ ?_
   clear f1 f2 f3 f4 f5 E N ho3 hdis hle;rintro n F H ⟨i,co,cbs,hi,f1,f2,f3,f4,f5,f33,f34,f35,E,NP,N,ho3,hdis,hle⟩;refine BB f34 f35 ?_;refine D9 ?_ ?_<;>intro hi'
   .have hcg:=hg.crs _ (jG hi')
    have hfs:=hg.full.szs hcg.here;have hsl:=SG m m.crs[i].pts;have hfour:=hcg.four;have hpr:=hcg.prod;have hC:=AVW m i hi';have hzl:=sF (JB (szs m m.crs[i].pts));have htl:((zC m).take i).length<=1048576:=by rw[jZ,AF9];omega
    simp only[vQ,jY,jS,jV,zO,CP,↓reduceIte,jC,enP,fP,jQ,f33,f35,CZ hi',DJ APN AA5 O4 hi',A44,A2O _ _ [.str ⟨#[]⟩,.sl .nil 0 [],.sl .nil 0 []] rfl];have hl1:(H++[yE 3 [IA m.crs[i]]]).length=H.length+1:=BA;have E1:=E.app [yE 3 [IA m.crs[i]]];have N1:=N.app [yE 3 [IA m.crs[i]]];have NP1:=NP.app [yE 3 [IA m.crs[i]]];have ho1:=ho3.app [yE 3 [IA m.crs[i]]];have gc1:=AX H (yE 3 [IA m.crs[i]])
    generalize H++[yE 3 [IA m.crs[i]]]=Ha at hl1 E1 N1 NP1 ho1 gc1|-
    generalize hpn:JB (szs m m.crs[i].pts)=pn at hC hzl hpr;have N2:=(N1.app [yE 1 ((zeros pn).map qencI)]).app [yE 1 [[.own Ha.length 0 pn]]];have NP2:=(NP1.app [yE 1 ((zeros pn).map qencI)]).app [yE 1 [[.own Ha.length 0 pn]]];have E2:=(E1.app [yE 1 ((zeros pn).map qencI)]).app [yE 1 [[.own Ha.length 0 pn]]];have ho2:=(ho1.app [yE 1 ((zeros pn).map qencI)]).app [yE 1 [[.own Ha.length 0 pn]]];have gb:=AO (x:=yE 1 [[.own Ha.length 0 pn]]) (AX Ha (yE 1 ((zeros pn).map qencI)));have gt:=AX (Ha++[yE 1 ((zeros pn).map qencI)]) (yE 1 [[.own Ha.length 0 pn]]);have hl2:(Ha++[yE 1 ((zeros pn).map qencI)]++[yE 1 [[.own Ha.length 0 pn]]]).length=Ha.length+2:=BA;refine D6 AZ ?_;refine NY @XR f1 f4 @E1.l4' (ldM E1.gm) (ldC gc1) ?_;refine⟨_,bC G m _ _ hcg.here U,?_⟩
    try refine AB ?_
    refine⟨_,dF G _ _ _ (fun n hn=>(hfs n hn).2) U,?_⟩;rw[hpn]
    try simp only[vQ,JH,jY,jS,jV,zO,zY,KY,LP,F6,JW,↓reduceIte,jC,jT,enP,mkI _ _ (U:pn<=1048576),ALU]
    generalize Ha++[yE 1 ((zeros pn).map qencI)]++[yE 1 [[.own Ha.length 0 pn]]]=Hb at N2 NP2 E2 ho2 gb gt hl2|-
    generalize (Ha++[yE 1 ((zeros pn).map qencI)]).length=tb at gt|-
    obtain⟨H2,hap,N3,hk,hl3,hx3⟩:=N2.snoc gb (by omega) (by omega) (fun q=>by have:=N.mem_lt q;omega) (fun q e=>by have:=N.top_lt q;omega) (by rw[hzl];exact gt) htl;rw[<-hC] at N3 hap;have hne:(zC m).take (i+1)≠[]:=by rw[hC];simp
    have E3:=E2.keep hk (fun b hb=>by
     obtain⟨q,rfl⟩:=xM hb
     have:=N.lo' q;omega) (hx3 h (by omega))
    rw[WO _ hne] at hap;refine KW hap ?_;have E4:=E3.set4 (nlV po (zP m)) (.own Hb.length 0 ((zC m).take (i+1)).length);have ho4:=(ho2.keepA hk (fun b hb hb'=>(hdis b (AAP hb')).2 hb)).setB (b:=b4) U (yE 4 [LV (nlV po (zP m)) (.own Hb.length 0 ((zC m).take (i+1)).length)]);have N4:NL H0.length (H2.set b4 (yE 4 [LV (nlV po (zP m)) (.own Hb.length 0 ((zC m).take (i+1)).length)])) Hb.length (cbs++[Ha.length]) ((zC m).take (i+1)):=N3.keep fun b x hb hg=>C9 hg (by have:=N3.lt hb;omega)
    have NP4:NL H0.length (H2.set b4 (yE 4 [LV (nlV po (zP m)) (.own Hb.length 0 ((zC m).take (i+1)).length)])) po pb (zP m):=NP2.keep fun b x hb hg=>C9 (hk b x hg (fun q=>(hdis b (AAP q)).1 hb)) (by have:=NP.lt hb;omega)
    refine ES f4 @E3.s4' f35 (DC i) ?_;have hl4:(H2.set b4 (yE 4 [LV (nlV po (zP m)) (.own Hb.length 0 ((zC m).take (i+1)).length)])).length=H2.length:=BA
    generalize H2.set b4 (yE 4 [LV (nlV po (zP m)) (.own Hb.length 0 ((zC m).take (i+1)).length)])=H4 at E4 ho4 N4 NP4 hl4|-
    rw[<-WO Hb.length hne] at E4
    exact⟨n-1,U,i+1,Hb.length,_,U,AL,AL,AL,AL,AL,AL,AL,AL,E4,NP4,N4,ho4,fun b hb=>by
     rw[hC] at hb;rcases AF3 (o:=co) hb with rfl|hb|rfl
     .exact⟨fun q=>by have:=NP.lt q;omega,fun q=>by have:=ho3.lt q;omega⟩
     .exact hdis _ hb
     .exact⟨fun q=>by have:=NP.lt q;omega,fun q=>by have:=ho3.lt q;omega⟩,U⟩
   .rw[jJ (by rw[AF9];omega)] at N E hdis
    refine AB ?_;exact⟨co,cbs,f2,f3,f4,f5,E,⟨NP,N,fun b h1 h2=>(hdis b h2).1 h1⟩,ho3⟩
  .rintro F' H' ⟨co,cbs,g2,g3,g4,g5,E',N,q3⟩
   refine AB ?_;have p2:=E'.o2;have p3:=E'.o3;have p4:=E'.o4;have p5:=E'.o5;refine uR [(5,2)] AZ ?_ ?_
   .refine NY g2 g5 @vB @AFY @ABN @and_true ?_
    omega
   simp only[vQ,jY,jS,jV,zO,P8,QR,↓reduceIte,jC,jT,enP,jQ,g2,g3,g4,g5,SN E'.g4 rfl,dR E'.g5 rfl,AQQ E'.g2 rfl (PY _ _) (PY _ _),AQP (C9 E'.g3 (U:b3≠b2)) rfl q3.leaf];rw[A4I (ba:=b2) (bb:=b3) (EI g2) (EI g3) (SN (C9 (CV E'.g2) (U:b2≠b3)) rfl) (dR (CV (C9 E'.g3 (U:b3≠b2))) rfl)];exact⟨(E'.hx.set U _).set U _,po,pb,co,cbs,v3,rfl,(N.keep (H':=(H'.set b2 (yE 4 [LV (nlV po (zP m)) (nlV co (zC m))])).set b3 (yE 1 [[v3]])) fun b x hb _ hg=>C9 (C9 hg U) U).base U,((q3.setB (b:=b2) U _).setB (b:=b3) U _).base U⟩
theorem A3I (H0:Hp){v1 v2 v3:AV}(h1:v1.leaf=true)(h2:v2.leaf=true)(h3:v3.leaf=true):
  DU jA (H0++[yE 4 [I8]]++[yE 1 [GU]]) 46 (.ptr H0.length 0 0) (.agg (LV v1 v2))=some ((H0++[yE 4 [I8]]++[yE 1 [GU]]).set H0.length (yE 4 [LV v1 v2])) /\
  DU jA ((H0++[yE 4 [I8]]++[yE 1 [GU]]).set H0.length (yE 4 [LV v1 v2])) 94 (.ptr (H0++[yE 4 [I8]]).length 0 0) (.agg [v3])=some (((H0++[yE 4 [I8]]++[yE 1 [GU]]).set H0.length (yE 4 [LV v1 v2])).set (H0++[yE 4 [I8]]).length (yE 1 [[v3]])) /\
  (((H0++[yE 4 [I8]]++[yE 1 [GU]]).set H0.length (yE 4 [LV v1 v2])).set (H0++[yE 4 [I8]]).length (yE 1 [[v3]]))[H0.length]?=some (yE 4 [LV v1 v2]) /\
  (((H0++[yE 4 [I8]]++[yE 1 [GU]]).set H0.length (yE 4 [LV v1 v2])).set (H0++[yE 4 [I8]]).length (yE 1 [[v3]]))[(H0++[yE 4 [I8]]).length]?=some (yE 1 [[v3]]) /\
  ext H0 (((H0++[yE 4 [I8]]++[yE 1 [GU]]).set H0.length (yE 4 [LV v1 v2])).set (H0++[yE 4 [I8]]).length (yE 1 [[v3]])) :=
 ⟨AQQ (AO (AX _ _)) rfl h1 h2,AQP (C9 (AX _ _) BA) rfl h3,C9 (CV (AO (AX _ _))) BA,CV (C9 (AX _ _) BA),((((ext.rfl' H0).app _).app _).set (jF _) _).set BA _⟩
theorem NC.ext (N:NC n0 H po pb co cbs P C)(hx:Sm.ext H H'):NC n0 H' po pb co cbs P C:=N.keep fun _ _ _ _ hg=>DI hx hg
theorem outG.ext {α:Type}{f:α->List AV}{ys:List α}{v:AV}(ho:outG k f h ys v H)(hx:Sm.ext H H'):outG k f h ys v H':=by
 obtain⟨y,rfl⟩:=hx;exact ho.app y
def EmQ (h:Hp)(m:Mo)(v:AV)(H:Hp):Prop:=ext h H/\((FQ m≠0/\v=.tup [.agg I8,.agg GU,.n (FQ m)]) \/
 (FQ m=0/\∃po pb co cbs v3,v=.tup [.agg (LV (nlV po (zP m)) (nlV co (zC m))),.agg [v3],.n 0]/\EmO h H m po pb co cbs v3))
theorem vD (hG:GOk G)(m:Mo)(hm:MoOk m)(h:Hp):ACalls (En G) 39 [.agg (DV m)] h (EmQ h m):=by
 refine acL Tryz.func39 [.cell 2 46,.cell 3 94,.tmp 4] ?_;unfold EmQ;have E:=Ee.mk' h m;refine DW @bxM pR AU3 ?_
 generalize h++[yE 2 [DV m]]++[yE 4 [I8]]++[yE 1 [GU]]=H0 at E|-
 generalize (h++[yE 2 [DV m]]++[yE 4 [I8]]).length=b3 at E|-
 generalize (h++[yE 2 [DV m]]).length=b2 at E|-
 have o2:=E.o2;have o3:=E.o3;have hlt:=E.lt;refine A7 (ldM E.gm) ?_;refine(TI G hG m hm _).use ?_;cases hb:(FQ m==0)
 .have h0:FQ m≠0:=BM hb
  simp only[vQ,LG,CP,NZ,↓reduceIte,jC,enP,jQ,bne,hb,AUP,A8P,stZ E.g2 rfl,A5W (C9 E.g3 (U:b3≠b2)) rfl];rw[ALI (ba:=b2) (bb:=b3) AQ AQ (SN (C9 (CV E.g2) (U:b2≠b3)) rfl) (dR (CV (C9 E.g3 (U:b3≠b2))) rfl)];exact⟨(E.hx.set U _).set U _,.inl ⟨h0,AQ⟩⟩
 .have h0:FQ m=0:=BM hb
  have hg:=UU h0;simp only[vQ,CP,↓reduceIte,jC,qP,enP,bne,hb,ldM E.gm];refine(AOY G m hm hg _).mono ?_;rintro v H1 ⟨hx1,po,pb,co,cbs,v3,rfl,EO⟩;obtain⟨s1,s2,g6,g7,hx5⟩:=A3I H1 (PY po (zP m)) (PY co (zC m)) EO.o3.leaf;have g2:=DI hx5 (DI hx1 E.g2);have g3:=DI hx5 (DI hx1 E.g3);have hx:=(E.hx.trans hx1).trans hx5;have hle1:=hx1.le;have h7:b2<(H1++[yE 4 [I8]]).length:=by simp;omega
  have N5:=EO.nc.ext hx5;have q5:=outG.ext EO.o3 hx5;refine ES pR AU3 s1 s2 ?_
  generalize ((H1++[yE 4 [I8]]++[yE 1 [GU]]).set H1.length (yE 4 [LV (nlV po (zP m)) (nlV co (zC m))])).set (H1++[yE 4 [I8]]).length (yE 1 [[v3]])=H5 at g6 g7 g2 g3 hx N5 q5|-
  generalize (H1++[yE 4 [I8]]).length=b7 at g7 h7|-
  refine uR [(7,2)] AZ ?_ ?_
  .refine ES @vB @AFY @ABN @and_true ?_
   omega
  simp only[vQ,P8,LQ,QR,↓reduceIte,jC,jT,enP,jQ,SN g6 rfl,dR g7 rfl,AQQ g2 rfl (PY po (zP m)) (PY co (zC m)),AQP (C9 g3 (U:b3≠b2)) rfl q5.leaf];rw[ALI (ba:=b2) (bb:=b3) AQ AQ (SN (C9 (CV g2) (U:b2≠b3)) rfl) (dR (CV (C9 g3 (U:b3≠b2))) rfl)];have hhl:=E.hx.le;refine⟨(hx.set U _).set U _,.inr ⟨h0,po,pb,co,cbs,v3,AQ,?_,?_⟩⟩
  .exact(N5.keep (H':=(H5.set b2 (yE 4 [LV (nlV po (zP m)) (nlV co (zC m))])).set b3 (yE 1 [[v3]])) fun b x hb _ hg=>C9 (C9 hg U) U).base hhl
  .exact((q5.setB (b:=b2) U _).setB (b:=b3) U _).base hhl
structure St where
 P:List (List Int)
 C:List (List Int)
 sam:Int
 ill:Int
 ls:List (List Int)
def XH (m:Mo)(s:St)(env:List Sg):Int:=fstE PtR.err (PN m s.ls env)
def stp (m:Mo)(s:St)(env:List Sg):St:=⟨SI (PN m s.ls env) s.P,VH m ((PN m s.ls env).map PtR.hit) s.C,rz s.sam,if(PN m s.ls env).any PtR.bad=true then rz s.ill else s.ill,(PN m s.ls env).map PtR.next⟩
structure StOk (m:Mo) (s:St):Prop where
 sh:ShapeOk m s.P s.C
 ll:s.ls.length=m.pts.length
 l7:∀l∈s.ls,l.length<=7
 sm:0<=s.sam/\s.sam<=1099511627776
 il:0<=s.ill/\s.ill<=1099511627776
theorem AQ5 (p:Pt)(last:List Int)(l:List Sg):(ptE p last l).next.length<=7:=by
 have hn:∀v,(nextL last v).length<=7:=fun v=>by unfold nextL;rw[List.length_drop,jX];simp;omega
 unfold ptE;split
 .simp
 .grind
theorem ShapeOk.step (h:ShapeOk m P C){rs:List PtR}(hr:rs.length=m.pts.length)(hits:List (List Nat)):ShapeOk m (SI rs P) (VH m hits C):=by
 have h1:rs.length=P.length:=by rw[hr,h.pl]
 have h2:=h.cl;have l1:=XV rs P h1;have l2:=XX m hits C h2;refine⟨by rw[l1];exact h.pl,by rw[l2];exact h2,fun i a b=>?_,fun i a b=>?_,AWD h.wp,AWE h.wc⟩
 .rw[XW rs P i U U,TG];exact h.pe i U b
 .rw[XY m hits C i b U,rowC_len];exact h.ce i U b
theorem StOk.step {m:Mo}{s:St}(h:StOk m s)(env:List Sg):StOk m (stp m s env):=by
 have hr:=X9 m s.ls env h.ll;refine⟨h.sh.step hr _,by simp [stp,hr],fun l hl=>?_,AJP h.sm,?_⟩
 .obtain⟨r,hr,rfl⟩:=zH.1 hl
  obtain⟨p,hp,rfl⟩:=zH.1 hr;exact AQ5 _ _ _
 .unfold stp
  dsimp only
  split
  .exact AJP h.il
  .exact h.il
def zS (m:Mo):St:=⟨zP m,zC m,0,0,jR m.pts.length []⟩
theorem AAQ (n:Nat):Wn (zeros n):=fun x hx=>by
 have:x=0:=by simpa [zeros] using (List.eq_of_mem_replicate hx)
 subst this;decide
theorem A0U (m:Mo):StOk m (zS m):=by
 refine⟨⟨AF8 m,AF9 m,fun i a b=>?_,fun i a b=>?_,fun xs hx=>?_,fun xs hx=>?_⟩,by simp [zS],fun l hl=>?_,⟨by show(0:Int)<=0;omega,by show(0:Int)<=1099511627776;omega⟩,⟨by show(0:Int)<=0;omega,by show(0:Int)<=1099511627776;omega⟩⟩
 .simp [zS,zP,zeros]
 .simp [zS,zC,zeros]
 .obtain⟨p,_,rfl⟩:=zH.1 hx
  exact AAQ _
 .obtain⟨p,_,rfl⟩:=zH.1 hx
  exact AAQ _
 .rw[List.eq_of_mem_replicate hl];simp
def RU (m:Mo):St->List (List Sg)->Int×St
 | s,[]=>(0,s)
 | s,e::r=>if XH m s e≠0 then (XH m s e,s) else RU m (stp m s e) r
def U5 (m:Mo)(l:List (List Sg)):Int:=if FQ m=0 then (RU m (zS m) l).1 else FQ m
def O5 (P:List (List Int)):List Is:=P.map fun x=>⟨.any,x⟩
def cvS (s:St):Cvr:=⟨nm (O5 s.P),O5 s.P,nm (O5 s.C),O5 s.C,s.sam,s.ill⟩
def XI (m:Mo)(l:List (List Sg)):Cvr:=if FQ m=0/\(RU m (zS m) l).1=0 then cvS (RU m (zS m) l).2 else zV
def cvW (s:St):List AV:=[fzG 1 encL (O5 s.P),fzG 1 encL (O5 s.C),.n s.sam,.n s.ill]
theorem AT2 (s:St):CvR (.agg (cvW s)) (.agg (encV (cvS s))):=CvR.agg (CvRL.cons WR (CvRL.cons WR (CvRL.refl _)))
def AGO (m:Mo)(l:List (List Sg)):List AV:=if FQ m=0/\(RU m (zS m) l).1=0 then cvW (RU m (zS m) l).2 else I8
theorem AWN (m:Mo)(l:List (List Sg)):CvR (.agg (AGO m l)) (.agg (encV (XI m l))):=by
 unfold AGO XI;split
 .exact AT2 _
 .exact A5G
structure Ss where
 m:SM
 l:List Sg
def aM (x:Ss):List AV:=[.sl x.m 2 (x.l.map FU)]
theorem A4J (x:Ss):(aM x)[0]?=some (.sl x.m 2 (x.l.map FU)):=rfl
theorem AHX (_:h.length<=H.length)(hg:∀(b:Nat) (x:ABlk),h[b]?=some x->H[b]?=some x):ext h H:=⟨H.drop h.length,by
 refine wU fun i=>?_
 rcases zB i h.length with hi|hi
 .grind
 .rw[wS hi,List.getElem?_drop];congr 1;omega⟩
theorem Fr1.ext {h0 h H:Hp}{cb tb:Nat}{pb cbs:List Nat}(hf:Fr1 h H cb tb pb cbs)(hx:Sm.ext h0 h)(h1:h0.length<=cb)(h2:h0.length<=tb)(h3:∀b∈pb,h0.length<=b)(h4:∀b∈cbs,h0.length<=b):Sm.ext h0 H :=
 AHX (qJ hx.le hf.le) fun b x hb=>by
  have hlt:=AC hb;exact hf.get b x (DI hx hb) U U (fun q=>by have:=h3 b q;omega) (fun q=>by have:=h4 b q;omega)
theorem AT3 (po:Nat)(P:List (List Int))(co:Nat)(C:List (List Int))(a b:Int):(cvR po P co C a b).all AV.leaf=true:=by
 simp [cvR,PY];exact⟨rfl,rfl⟩
theorem A5Y {row:List AV}{x y:Int}(hb:H[b]?=some (yE 4 [row]))(hr:row.length=4):DU jA H 46 (.ptr b 0 0) (.agg (cvR po P co C x y))=some (H.set b (yE 4 [cvR po P co C x y])):=by
 rw[IR (cs:=cvR po P co C x y) (PG (AT3 _ _ _ _ _ _)) AGG hb (by rw[hr];exact jF 4)];have:splice row 0 (cvR po P co C x y)=cvR po P co C x y:=by unfold splice;rw[qI,zJ (by rw[hr];exact jF 4)];simp
 rw[this]
theorem AT8 (s:St)(np:NL n0 H po pb s.P)(nc:NL n0 H co cbs s.C)(n d:Nat)(hn:n<=n0):FH n H (d+4) (.agg (cvR po s.P co s.C s.sam s.ill))=.agg (cvW s):=by
 show AV.agg [FH n H (d+3) (nlV po s.P),FH n H (d+3) (nlV co s.C),.n s.sam,.n s.ill]=_;rw[np.frz n d hn,nc.frz n d hn];rfl
theorem AQD {v3:AV}(o:outG 1 (fun _:Pt=>GU) h m.pts v3 H):TLs H v3 (jR m.pts.length []):=by
 rcases o with⟨e,_⟩|⟨_,q,_,rfl,hq⟩
 .rw[e];exact .inl rfl
 .refine .inr (.inr ⟨q,m.pts.map fun _=>GU,BA,hq,?_⟩)
  rw[List.map_const'];exact RowsL.nils _
theorem AVE (hG:GOk G)(hT:eT G)(m:Mo)(hm:MoOk m)(l:List Ss)(s:SM)(h:Hp)(hl:l.length<=1048576)(he:∀x∈l,x.l.length<=1048576):
  PCall (En G) 70 [.agg (DV m),.sl s 1 (l.map aM)] h (.tup [.agg (encV (XI m (l.map Ss.l))),.n (U5 m (l.map Ss.l))]):=by
 refine PCall.res (r:=.tup [.agg (AGO m (l.map Ss.l)),.n (U5 m (l.map Ss.l))]) ?_ (CvR.tup (CvRL.cons (AWN _ _) (CvRL.refl _)));refine ACalls.pure (R:=fun v H=>ext h H/\FH h.length H 5 v=.tup [.agg (AGO m (l.map Ss.l)),.n (U5 m (l.map Ss.l))]) 5 ?_ (fun v H ⟨a,b⟩=>⟨a,b⟩);refine acL Tryz.func70 [.cell 4 46,.tmp 5] ?_;have gm:=AO (x:=yE 4 [I8]) (AX h (yE 2 [DV m]));have g4:=AX (h++[yE 2 [DV m]]) (yE 4 [I8]);have hx:ext h (h++[yE 2 [DV m]]++[yE 4 [I8]]):=((ext.rfl' h).app _).app _;have hb4:h.length<(h++[yE 2 [DV m]]).length:=BA;refine BB @bxM pR ?_
 generalize h++[yE 2 [DV m]]++[yE 4 [I8]]=H0 at gm g4 hx|-
 generalize (h++[yE 2 [DV m]]).length=b4 at g4 hb4|-
 have hlt:=AC g4;refine A7 (ldM gm) ?_;refine(vD G hG m hm H0).mono ?_;rintro v H1 ⟨hx1,⟨hne,rfl⟩|⟨h0,po,pb,co,cbs,v3,rfl,EO⟩⟩
 .have hb:(FQ m==0)=false:=BM hne
  obtain⟨s1,s2,g6,g7,hx5⟩:=A3I H1 (v1:=.sl .nil 0 []) (v2:=.sl .nil 0 []) (v3:=.sl .nil 0 []) rfl rfl rfl;have s1':DU jA (H1++[yE 4 [I8]]++[yE 1 [GU]]) 46 (.ptr H1.length 0 0) (.agg I8)=_:=s1;have s2':DU jA ((H1++[yE 4 [I8]]++[yE 1 [GU]]).set H1.length (yE 4 [LV (.sl .nil 0 []) (.sl .nil 0 [])])) 94 (.ptr (H1++[yE 4 [I8]]).length 0 0) (.agg GU)=_:=s2;have g4':=DI hx5 (DI hx1 g4);have hx':=(hx.trans hx1).trans hx5;simp only[vQ,wC,wK,CP,NZ,KT,O8,↓reduceIte,jC,enP,jQ,pR,AU3,s1',s2',bne,hb,AUP]
  generalize ((H1++[yE 4 [I8]]++[yE 1 [GU]]).set H1.length (yE 4 [LV (.sl .nil 0 []) (.sl .nil 0 [])])).set (H1++[yE 4 [I8]]).length (yE 1 [[.sl .nil 0 []]])=H5 at g4' hx'|-
  refine A7 (stZ g4' rfl) ?_;rw[ZP (ba:=b4) AQ (SN (CV g4') rfl)];refine⟨hx'.set U _,?_⟩;unfold AGO U5;rw[if_neg (fun q=>hne q.1),if_neg hne];rfl
 have hg:=UU h0;have hnp:m.pts.length<=16:=by have:=hg.num;omega
 obtain⟨s1,s2,g6,g7,hx5⟩:=A3I H1 (PY po (zP m)) (PY co (zC m)) EO.o3.leaf;have gm5:=DI hx5 (DI hx1 gm);have g45:=DI hx5 (DI hx1 g4);have hx':=(hx.trans hx1).trans hx5;have hle1:=hx1.le;have N5:=EO.nc.ext hx5;have q5:=AQD (outG.ext EO.o3 hx5)
 have hlb:∀b,NLB po pb (zP m) b\/NLB co cbs (zC m) b->b<H1.length:=fun b hb=>by
  rcases hb with hb|hb
  .exact(EO.nc.np.lt hb).2
  .exact(EO.nc.nc.lt hb).2
 have htl:(H1++[yE 4 [I8]]).length=H1.length+1:=BA;simp only[vQ,wC,wK,CP,KT,O8,↓reduceIte,jC,qP,enP,BAN,jQ,pR,AU3,s1,s2,bne,beq_self_eq_true,jP]
 generalize ((H1++[yE 4 [I8]]++[yE 1 [GU]]).set H1.length (yE 4 [LV (nlV po (zP m)) (nlV co (zC m))])).set (H1++[yE 4 [I8]]).length (yE 1 [[v3]])=H5 at g6 g7 gm5 g45 hx' N5 q5|-
 generalize (H1++[yE 4 [I8]]).length=tb at g7 htl|-
 generalize H1.length=cb at g6 hlb htl hle1|-
 have S5:CS H0.length H5 cb tb po co pb cbs (zS m).P (zS m).C (zS m).sam (zS m).ill v3:=N5.cs g6 g7 U (fun b hb=>by have:=hlb b hb;omega)
 refine BK (fun n F H=>∃k st v3,n+k=l.length/\F 2=.ptr h.length 0 0/\F 4=.ptr b4 0 0/\F 6=.ptr cb 0 0/\F 7=.ptr tb 0 0/\F 22=.sl s 1 (l.map aM)/\F 23=.n (l.length:Nat)/\F 24=.n (k:Nat)/\H[h.length]?=some (yE 2 [DV m])/\H[b4]?=some (yE 4 [I8]) /\
   CS H0.length H cb tb po co pb cbs st.P st.C st.sam st.ill v3/\TLs H v3 st.ls/\StOk m st/\ext h H/\RU m (zS m) (l.map Ss.l)=RU m st ((l.drop k).map Ss.l)) l.length
  ⟨0,zS m,v3,BA,AQ,AQ,AQ,AQ,AQ,AQ,AQ,gm5,g45,S5,q5,A0U m,hx',rfl⟩ ?_
 clear gm5 g45 S5 q5 hx' N5 g6 g7 s1 s2 hx5;rintro n F H ⟨k,st,v3',hk,f2,f4,f6,f7,f22,f23,f24,gmH,g4H,S,T,hok,hxH,hrun⟩;refine BB f23 f24 ?_;refine D9 ?_ ?_<;>intro hk'
 .rw[qC hk',jK] at hrun
  simp only[vQ,CP,↓reduceIte,jC,enP,BAS,f22,f24,CZ hk',CW A16 hk',A4J,f2,ldM gmH,f6,f7];refine(ABP G hG hT m hm hg S hok.sh st.ls hok.ll (fun x hx=>by have:=hok.l7 x hx;omega) T l[k].l l[k].m (by have:=he _ (jG hk');omega) hok.sm hok.il).mono ?_;intro v H' hQ;unfold A46 at hQ;rcases hQ with⟨e,hne,hfst,rfl,hxe⟩|⟨hfst,rfl,lb,hlb2,glb,S',hFr⟩
  .have hb:(e==0)=false:=BM hne
   have hse:XH m st l[k].l=e:=hfst;have g4':=DI hxe g4H;simp only[vQ,LG,kD,AB0,CP,NZ,↓reduceIte,jC,enP,jQ,bne,hb,AUP,f4,stZ g4' rfl];rw[ZP (ba:=b4) (EI f4) (SN (CV g4') rfl)];refine⟨(hxH.trans hxe).set U _,?_⟩
   have hr:RU m (zS m) (l.map Ss.l)=(e,st):=by
    rw[hrun];show(if XH m st l[k].l≠0 then (XH m st l[k].l,st) else _)=_;rw[hse,if_pos hne]
   unfold AGO U5;rw[if_neg (by rw[hr];exact fun q=>hne q.2),if_pos h0,hr];refine AB ?_;rfl
  .have hse:XH m st l[k].l=0:=hfst
   have hr:RU m (zS m) (l.map Ss.l)=RU m (stp m st l[k].l) ((l.drop (k+1)).map Ss.l):=by
    rw[hrun];show(if XH m st l[k].l≠0 then (XH m st l[k].l,st) else _)=_;rw[hse,if_neg DT]
   have hpl:∀b∈pb,H0.length<=b:=S.np.lo;have hcl:∀b∈cbs,H0.length<=b:=S.nc.lo;have hhl:=hx.le;have gm':=hFr.get _ _ gmH U U (fun q=>by have:=hpl _ q;omega) (fun q=>by have:=hcl _ q;omega);have g4':=hFr.get _ _ g4H U U (fun q=>by have:=hpl _ q;omega) (fun q=>by have:=hcl _ q;omega);have hx2:=hFr.ext hxH U U (fun b hb=>by have:=hpl _ hb;omega) (fun b hb=>by have:=hcl _ hb;omega)
   have T':TLs H' (.own lb 0 m.pts.length) (stp m st l[k].l).ls:=by
    refine .inr (.inr ⟨lb,_,?_,glb,RowsL.map _⟩);rw[(hok.step l[k].l).ll]
   simp only[vQ,OW,CP,↓reduceIte,jC,qP,enP,bne,beq_self_eq_true,f24,DC k];exact⟨n-1,U,k+1,stp m st l[k].l,_,U,AL,AL,AL,AL,AL,AL,AL,gm',g4',S',T',hok.step _,hx2,hr⟩
 .rw[zJ U] at hrun
  have hr:RU m (zS m) (l.map Ss.l)=(0,st):=hrun;simp only[vQ,UD,fA,YX,sY,CP,↓reduceIte,jC,enP,jQ,f4,f6,SN S.gc rfl,A5Y g4H rfl];rw[ZP (ba:=b4) (EI f4) (SN (CV g4H) rfl)];refine⟨hxH.set U _,?_⟩;have np':NL H0.length (H.set b4 (yE 4 [cvR po st.P co st.C st.sam st.ill])) po pb st.P:=S.np.keep fun b x hb hg=>C9 hg (by have:=S.np.lt hb;omega)
  have nc':NL H0.length (H.set b4 (yE 4 [cvR po st.P co st.C st.sam st.ill])) co cbs st.C:=S.nc.keep fun b x hb hg=>C9 hg (by have:=S.nc.lt hb;omega)
  have e1:=AT8 st np' nc' h.length 0 hx.le;unfold AGO U5;rw[if_pos (by rw[hr];exact⟨h0,rfl⟩),if_pos h0,hr];refine AB ?_;show AV.tup [FH h.length _ 4 (.agg (cvR po st.P co st.C st.sam st.ill)),.n 0]=_;rw[e1]
theorem getD_at (xs:List Int)(k:Nat)(hk:k<xs.length):xs.getD k 0=xs[k]:=by rw[zI,jI hk];rfl
theorem vY (xs:List Int)(b k:Nat)(hb:b<xs.length):(raiseAt xs b).getD k 0=if b=k then rz (xs.getD b 0) else xs.getD k 0:=by
 unfold raiseAt;rw[zI,zQ];split
 .rfl
 .rw[zI]
theorem Y8 (k:Nat):∀(hit:List Nat) (xs:List Int),hit.Nodup->(∀x∈hit,x<xs.length)->(rowP hit xs).getD k 0=if k∈hit then rz (xs.getD k 0) else xs.getD k 0
 | [],xs,_,_=>by simp [rowP]
 | b::hit,xs,hn,hl=>by
   obtain⟨h1,h2⟩:=List.nodup_cons.1 hn;have hb:=hl b BA;have ih:=Y8 k hit (raiseAt xs b) h2 (fun x hx=>by rw[UQ];exact hl x (by simp [hx]));have e:rowP (b::hit) xs=rowP hit (raiseAt xs b):=rfl;rw[e,ih,vY xs b k hb];by_cases hk:k∈hit
   .grind
   .grind
theorem iT (bins:List Bin)(last:List Int)(v kind:Int):∀k,(NH bins last v kind k).Nodup
 | 0=>by simp [NH]
 | k+1=>by
   have ih:=iT bins last v kind k;simp only[NH];split
   .refine List.nodup_append.2 ⟨ih,BA,fun a ha c hc e=>?_⟩
    simp at hc;have:=nS bins last v kind k a ha;omega
   .simpa using ih
theorem fG (p:Pt)(last:List Int)(l:List Sg):(ptE p last l).hit.Nodup:=by
 unfold ptE;split
 .simp
 .split
  .simp
  .split
   .simp
   .split
    .simp
    .exact iT _ _ _ _ _
theorem nT (bins:List Bin)(last:List Int)(v:Int):∀k,∀x∈NH bins last v 0 k,∃b,bins[x]?=some b/\(b.kind==0)=true
 | 0,x,hx=>by simp [NH] at hx
 | k+1,x,hx=>by
   simp only[NH] at hx;rcases zK.1 hx with h|h
   .exact nT bins last v k x h
   .split at h
    .rename_i hq
     simp at h;subst h
     cases hb:bins[x]? with
     | none=>rw[hb] at hq;cases hq
     | some b =>
       rw[hb] at hq;have hK1:hK last v 0 b=true:=hq;unfold hK at hK1;rw[jM] at hK1;exact⟨b,rfl,hK1.1⟩
    .cases h
theorem AQ7 (p:Pt)(last:List Int)(l:List Sg):∀x∈(ptE p last l).hit,(kindOf p x==0)=true:=by
 intro x hx;unfold ptE at hx;split at hx
 .cases hx
 .split at hx
  .cases hx
  .split at hx
   .cases hx
   .split at hx
    .cases hx
    .obtain⟨b,h1,h2⟩:=nT _ _ _ _ x hx
     unfold kindOf;rw[h1];exact h2
theorem X4 {p:Nat->Bool}:∀ {l:List Int} {k:Nat},rowF p k l=true↔∀j,j<l.length->countB (l.getD j 0) (p (k+j))=true
 | [],k=>by simp [rowF]
 | n::l,k=>by
   simp only[rowF,jM];rw[X4 (l:=l) (k:=k+1)];constructor
   .grind
   .intro h
    refine⟨h 0 BA,fun j hj=>?_⟩;have:=h (j+1) (BM hj);rw[show k+(j+1)=k+1+j by omega] at this;exact this
theorem uL {p:Bool}(h:countB n p=true)(hp:p=true):countB (rz n) p=true:=by
 have h1:=aR h;subst hp;unfold countB;simp only[qG,Bool.and_true];rw[PI] at *;unfold rz;omega
theorem ARK {last:List Int}{env:List Sg}(hx:okP p x=true)(hy:y.l=rowP (ptE p last env).hit x.l):okP p y=true:=by
 unfold okP at *;simp only[jM,beq_iff_eq] at *;rw[hy,TG];refine⟨hx.1,X4.2 fun j hj=>?_⟩;rw[TG] at hj;have h2:=X4.1 hx.2 j hj;rw[Y8 j _ _ (fG _ _ _) (fun z hz=>by rw[hx.1];exact vZ _ _ _ z hz)];split
 .rename_i hm
  exact uL h2 (by rw[jH];exact AQ7 _ _ _ j hm)
 .exact h2
theorem AMZ (m:Mo)(x:Cr)(hits:List (List Nat))(xs:List Int)(k:Nat)(hk:k<xs.length):(rowC m x hits xs).getD k 0=if crK m x hits k=true then rz (xs.getD k 0) else xs.getD k 0:=by
 have hl:k<(rowC m x hits xs).length:=by rw[rowC_len];exact hk
 rw[getD_at _ _ hl,rowC_get m x hits xs k hk hl,getD_at _ _ hk]
theorem ARL {c:Cr}{hits:List (List Nat)}(hx:okC m c x=true)(hy:y.l=rowC m c hits x.l):okC m c y=true:=by
 unfold okC at *;simp only[jM,beq_iff_eq] at *;rw[hy,rowC_len];refine⟨hx.1,X4.2 fun j hj=>?_⟩;rw[rowC_len] at hj;have h2:=X4.1 hx.2 j hj;rw[AMZ m c hits _ j hj];split
 .rename_i hm
  unfold crK at hm;rw[jM] at hm;exact uL h2 (by rw[jH];exact hm.1)
 .exact h2
theorem xW {α:Type}{ok:α->Is->Bool}:∀ {ws:List α} {xs:List Is},ws.length=xs.length->(∀(i:Nat) (a:α) (x:Is),ws[i]?=some a->xs[i]?=some x->ok a x=true)->OO ok ws xs=true
 | [],[],_,_=>rfl
 | w::ws,x::xs,hl,h=>by
   simp only[OO,jM];exact⟨h 0 w x rfl rfl,xW (BM hl) fun i a y h1 h2=>h (i+1) a y (BM h1) (BM h2)⟩
 | [],_::_,hl,_=>by simp at hl
 | _::_,[],hl,_=>by simp at hl
structure FitS (m:Mo) (s:St):Prop where
 me:FQ m=0
 fp:OO okP m.pts (O5 s.P)=true
 fc:OO (okC m) m.crs (O5 s.C)=true
 ws:KL s.sam=true
 wi:KL s.ill=true
 ll:s.ls.length=m.pts.length
 lb:∀l∈s.ls,lastB l=true
theorem AXC (h:x.l=y.l):okP p x=okP p y:=by unfold okP;rw[h]
theorem AXG {c:Cr}(h:x.l=y.l):okC m c x=okC m c y:=by unfold okC;rw[h]
theorem AFN (P:List (List Int)):(O5 P).map (·.l)=P:=by unfold O5;rw[qQ];exact List.map_id _
theorem FitS.fits {s:St}(h:FitS m s):MV m (cvS s)=true:=fY.2 ⟨h.me,h.fp,h.fc,h.ws,h.wi⟩
theorem VK {α:Type}{ok:α->Is->Bool}{ws:List α}{xs:List Is}(h:OO ok ws xs=true)(i:Nat)(a:α)(x:Is)(h1:ws[i]?=some a)(h2:xs[i]?=some x):ok a x=true:=by
 obtain⟨y,hy,hk⟩:=VL h i a h1;rw[h2] at hy;cases hy;exact hk
theorem FitS.ok {s:St}(h:FitS m s):StOk m s:=by
 have lp:=dY h.fp;have lc:=dY h.fc;have hpl:s.P.length=m.pts.length:=by rw[lp];simp [O5]
 have hcl:s.C.length=m.crs.length:=by rw[lc];simp [O5]
 refine⟨⟨hpl,hcl,fun i a b=>?_,fun i a b=>?_,fun xs hx=>?_,fun xs hx=>?_⟩,h.ll,fun l hl=>?_,PI.1 h.ws,PI.1 h.wi⟩
 .have:=VK h.fp i m.pts[i] ⟨.any,s.P[i]⟩ (jI b) (by simp [O5])
  unfold okP at this;simp only[jM,beq_iff_eq] at this;exact this.1
 .have:=VK h.fc i m.crs[i] ⟨.any,s.C[i]⟩ (jI b) (by simp [O5])
  unfold okC at this;simp only[jM,beq_iff_eq] at this;exact this.1
 .obtain⟨i,hi,rfl⟩:=qF hx
  have:=VK h.fp i m.pts[i] ⟨.any,s.P[i]⟩ (jI U) (by simp [O5]);unfold okP at this;rw[jM] at this;exact fun n hn=>PI.1 (X3 this.2 n hn)
 .obtain⟨i,hi,rfl⟩:=qF hx
  have:=VK h.fc i m.crs[i] ⟨.any,s.C[i]⟩ (jI U) (by simp [O5]);unfold okC at this;rw[jM] at this;exact fun n hn=>PI.1 (X3 this.2 n hn)
 .have:=h.lb l hl
  unfold lastB at this;rw[jM] at this;simpa using this.1
theorem lU (h:KL n=true):KL (rz n)=true:=by
 rw[PI] at *;unfold rz;omega
theorem A4F (l:List Sg)(e:Ex):(evE l e).1<65536:=by
 unfold evE;split
 .decide
 .split
  .exact AJA l e
  .decide
theorem bM {last:List Int}{v:Nat}(hl:lastB last=true)(hv:v<65536):lastB (nextL last v)=true:=by
 unfold lastB at *;simp only[jM,decide_eq_true_eq,Bool.not_eq_true'] at *;obtain⟨h1,h2⟩:=hl;refine⟨?_,?_⟩
 .unfold nextL;rw[List.length_drop,jX];simp;omega
 .rw[List.any_eq_false] at *
  intro x hx;have hx':=List.mem_of_mem_drop hx;rcases zK.1 hx' with h|h
  .exact h2 x h
  .simp at h;subst h
   unfold outW;simp;omega
theorem AQ6 {last:List Int}{l:List Sg}(h0:(ptE p last l).err=0):lastB (ptE p last l).next=true:=by
 have hv:=A4F l p.ex;unfold ptE at *;split at h0
 .cases h0
 .rename_i hn
  have hlb:lastB last=true:=by simp_all
  rw[if_neg hn];split at h0
  .rename_i h1
   exact absurd h0 h1
  .rename_i h1
   rw[if_neg h1];split
   .exact bM hlb hv
   .split
    .exact bM hlb hv
    .exact bM hlb hv
theorem FitS.step {s:St}(h:FitS m s){env:List Sg}(h0:XH m s env=0):FitS m (stp m s env):=by
 have hok:=h.ok;have hr:=X9 m s.ls env h.ll;have hpl:=hok.sh.pl;have hcl:=hok.sh.cl;have l1:=XV (PN m s.ls env) s.P U;have l2:=XX m ((PN m s.ls env).map PtR.hit) s.C hcl;refine⟨h.me,?_,?_,lU h.ws,?_,by simp [stp,hr],fun l hl=>?_⟩
 .refine xW (by simp [O5,stp,l1];omega) fun i a x e1 e2=>?_
  have hi:i<m.pts.length:=AC e1;rw[jI hi] at e1;cases e1
  have hx:x.l=rowP (ptE m.pts[i] (s.ls[i]'(by rw[h.ll];exact hi)) env).hit (s.P[i]'U):=by
   unfold O5 at e2;rw[jW] at e2
   have:(stp m s env).P[i]?=some (rowP ((PN m s.ls env)[i]'U).hit (s.P[i]'U)):=by
    show(SI (PN m s.ls env) s.P)[i]?=_;rw[jI U,XW _ _ i U U]
   rw[this] at e2;cases e2;rw[dE m s.ls env i hi (by rw[h.ll];exact hi) U]
  exact ARK (VK h.fp i m.pts[i] ⟨.any,s.P[i]'U⟩ (jI hi) (by simp [O5]<;>omega)) hx
 .refine xW (by simp [O5,stp,l2];omega) fun i a x e1 e2=>?_
  have hi:i<m.crs.length:=AC e1;rw[jI hi] at e1;cases e1
  have hx:x.l=rowC m m.crs[i] ((PN m s.ls env).map PtR.hit) (s.C[i]'U):=by
   unfold O5 at e2;rw[jW] at e2
   have:(stp m s env).C[i]?=some (rowC m m.crs[i] ((PN m s.ls env).map PtR.hit) (s.C[i]'U)):=by
    show(VH m ((PN m s.ls env).map PtR.hit) s.C)[i]?=_;rw[jI U,XY _ _ _ i hi U]
   rw[this] at e2;cases e2;rfl
  exact ARL (VK h.fc i m.crs[i] ⟨.any,s.C[i]'U⟩ (jI hi) (by simp [O5]<;>omega)) hx
 .unfold stp
  dsimp only
  split
  .exact lU h.wi
  .exact h.wi
 .obtain⟨r,hrm,rfl⟩:=zH.1 hl
  have he:=P5 PtR.err h0 r hrm;obtain⟨p,hp,rfl⟩:=zH.1 hrm;exact AQ6 he
theorem APW (h:FQ m=0):FitS m (zS m):=by
 refine⟨h,?_,?_,by show KL 0=true;decide,by show KL 0=true;decide,(A0U m).ll,fun l hl=>?_⟩
 .rw[show OO okP m.pts (O5 (zS m).P)=OO okP m.pts (m.pts.map fun p=>zIs p.bins.length) from oC (ok:=okP) (fun _ _ _ h=>AXC h) _ _ _ (by rw[AFN];simp [zS,zP,zIs])]
  exact oB (ok:=okP) _ (fun p=>by unfold okP;simp [zIs,fE];simp [zeros]) _
 .rw[show OO (okC m) m.crs (O5 (zS m).C)=OO (okC m) m.crs (m.crs.map fun c=>zIs (JB (szs m c.pts))) from oC (ok:=okC m) (fun _ _ _ h=>AXG h) _ _ _ (by rw[AFN];simp [zS,zC,zIs])]
  exact oB (ok:=okC m) _ (fun c=>by unfold okC;simp [zIs,fE];simp [zeros]) _
 .rw[List.eq_of_mem_replicate hl];decide
theorem hbs {α β:Type}(f:α->β)(l:List α)(k:Nat){h:k<l.length}:(l.take k).map f++[f l[k]]=(l.take (k+1)).map f:=by rw[jU h,qU];rfl
def stK (m:Mo)(l:List (List Sg))(k:Nat):St:=(l.take k).foldl (stp m) (zS m)
theorem AQM (m:Mo)(l:List (List Sg)):stK m l 0=zS m:=rfl
theorem dA (m:Mo)(hk:k<l.length):stK m l (k+1)=stp m (stK m l k) l[k]:=by
 unfold stK;rw[jU hk,List.foldl_append];rfl
theorem mL (m:Mo):∀(l:List (List Sg)) (s:St),(RU m s l).1=0->(RU m s l).2=l.foldl (stp m) s/\∀(k:Nat) (hk:k<l.length),XH m ((l.take k).foldl (stp m) s) l[k]=0
 | [],s,_=>⟨rfl,fun k hk=>by simp at hk⟩
 | e::r,s,h=>by
   have hz:XH m s e=0:=Classical.byContradiction fun hn=>by
    unfold RU at h;rw[if_pos hn] at h;exact hn h
   have hr:RU m s (e::r)=RU m (stp m s e) r:=by
    show(if XH m s e≠0 then (XH m s e,s) else RU m (stp m s e) r)=_;rw[if_neg (fun q=>q hz)]
   rw[hr] at h|-
   obtain⟨h1,h2⟩:=mL m r (stp m s e) h;refine⟨h1,fun k hk=>?_⟩
   cases k with
   | zero=>exact hz
   | succ k=>exact h2 k (BM hk)
structure RunOk (m:Mo) (l:List (List Sg)):Prop where
 me:FQ m=0
 eq:(RU m (zS m) l).2=stK m l l.length
 e0:(RU m (zS m) l).1=0
 er:∀(k:Nat) (hk:k<l.length),XH m (stK m l k) l[k]=0
theorem AQ1 (h:U5 m l=0):RunOk m l:=by
 unfold U5 at h;split at h
 .rename_i hm
  obtain⟨h1,h2⟩:=mL m l (zS m) h;refine⟨hm,?_,h,h2⟩;rw[h1];unfold stK;rw[List.take_length]
 .rename_i hm;exact absurd h hm
theorem RunOk.fit {m:Mo}{l:List (List Sg)}(h:RunOk m l):∀k,k<=l.length->FitS m (stK m l k)
 | 0,_=>APW h.me
 | k+1,hk=>by
   rw[dA m U];exact(h.fit k U).step (h.er k U)
theorem RunOk.val (h:RunOk m l):XI m l=cvS (stK m l l.length):=by
 unfold XI;rw[if_pos ⟨h.me,h.e0⟩,h.eq]
structure Bd (k:Nat) (s:St):Prop where
 P:∀xs∈s.P,∀x∈xs,x<=(k:Int)
 C:∀xs∈s.C,∀x∈xs,x<=(k:Int)
 sam:s.sam=(k:Int)
 ill:s.ill<=(k:Int)
theorem AQY (n:Int):rz n<=n+1:=by unfold rz;omega
theorem A58 (h:n<1099511627776):rz n=n+1:=by unfold rz;omega
theorem Bd.step {s:St}(h:Bd k s)(hok:StOk m s)(hk:k<1099511627776)(env:List Sg):Bd (k+1) (stp m s env):=by
 have hr:=X9 m s.ls env hok.ll;have hpl:=hok.sh.pl;have hcl:=hok.sh.cl;have l1:=XV (PN m s.ls env) s.P U;have l2:=XX m ((PN m s.ls env).map PtR.hit) s.C hcl;refine⟨fun xs hx x hxx=>?_,fun xs hx x hxx=>?_,?_,?_⟩
 .obtain⟨i,hi,rfl⟩:=qF (show xs∈SI (PN m s.ls env) s.P from hx)
  have hi':i<s.P.length:=U;have him:i<m.pts.length:=U;rw[XW _ _ i U hi'] at hxx;obtain⟨j,hj,rfl⟩:=qF hxx;rw[TG] at hj;have hg:=dE m s.ls env i him (by rw[hok.ll];exact him) U;have hpe:=hok.sh.pe i hi' him;rw[<-getD_at _ j (by rw[TG];exact hj),Y8 j _ _ (by rw[hg];exact fG _ _ _) (fun x hx=>by rw[hg] at hx;rw[hpe];exact vZ _ _ _ x hx)];have hb:=h.P _ (jG hi') _ (jG hj);rw[getD_at _ j hj];have:=AQY (s.P[i][j]);split<;>omega
 .obtain⟨i,hi,rfl⟩:=qF (show xs∈VH m ((PN m s.ls env).map PtR.hit) s.C from hx)
  have hi':i<s.C.length:=U;rw[XY m _ _ i U hi'] at hxx;obtain⟨j,hj,rfl⟩:=qF hxx;have hj':=hj;rw[rowC_len] at hj';rw[rowC_get m _ _ _ j hj' hj];have hb:=h.C _ (jG hi') _ (jG hj');have:=AQY (s.C[i][j]);split<;>omega
 .show rz s.sam=_
  rw[h.sam,A58 U];omega
 .have:=h.ill
  have h2:=AQY s.ill;unfold stp
  dsimp only
  split<;>omega
theorem A5H (m:Mo):Bd 0 (zS m):=by
 refine⟨fun xs hx x hxx=>?_,fun xs hx x hxx=>?_,rfl,wV _⟩
 .obtain⟨p,_,rfl⟩:=zH.1 hx
  have:x=0:=List.eq_of_mem_replicate hxx;subst this;decide
 .obtain⟨p,_,rfl⟩:=zH.1 hx
  have:x=0:=List.eq_of_mem_replicate hxx;subst this;decide
def rsK (m:Mo)(l:List (List Sg))(k:Nat):List PtR:=PN m (stK m l k).ls (l.getD k [])
theorem bF (m:Mo)(hk:k<l.length):rsK m l k=PN m (stK m l k).ls l[k]:=by
 unfold rsK;rw[zI,jI hk];rfl
section
variable {m:Mo} {l:List (List Sg)} (R:RunOk m l)
include R
theorem RunOk.rl (hk:k<l.length):(rsK m l k).length=m.pts.length:=by
 rw[bF m hk];exact X9 m _ _ (R.fit k U).ll
theorem RunOk.lsl (k:Nat)(hk:k<=l.length):(stK m l k).ls.length=m.pts.length:=(R.fit k hk).ll
theorem RunOk.pl (k:Nat)(hk:k<=l.length):(stK m l k).P.length=m.pts.length:=(R.fit k hk).ok.sh.pl
theorem RunOk.cl (k:Nat)(hk:k<=l.length):(stK m l k).C.length=m.crs.length:=(R.fit k hk).ok.sh.cl
theorem RunOk.at' (hk:k<l.length)(hi:i<m.pts.length):∃(h1:i<(rsK m l k).length) (h2:i<(stK m l k).ls.length),(rsK m l k)[i]=ptE m.pts[i] (stK m l k).ls[i] l[k]:=by
 have h1:=R.rl hk;have h2:=R.lsl k U;refine⟨U,U,?_⟩;have:=dE m (stK m l k).ls l[k] i hi U (by rw[<-bF m hk];omega);rw[<-this];congr 1;exact bF m hk
theorem RunOk.err {k i:Nat}(hk:k<l.length)(hi:i<(rsK m l k).length):(rsK m l k)[i].err=0:=by
 have h0:=R.er k hk;unfold XH at h0;rw[<-bF m hk] at h0;exact P5 PtR.err h0 _ (jG hi)
theorem RunOk.last (hk:k<l.length)(hi:i<m.pts.length):(stK m l (k+1)).ls.getD i []=((rsK m l k)[i]'(by rw[R.rl hk];exact hi)).next:=by
 have h1:=R.rl hk;rw[dA m hk];unfold stp
 dsimp only
 rw[<-bF m hk,zI,jW,jI U];rfl
theorem RunOk.row (hk:k<l.length)(hi:i<m.pts.length):(stK m l (k+1)).P.getD i []=rowP ((rsK m l k)[i]'(by rw[R.rl hk];exact hi)).hit ((stK m l k).P.getD i []):=by
 have h1:=R.rl hk;have h2:=R.pl k U;rw[dA m hk];unfold stp
 dsimp only
 rw[<-bF m hk];have hs:=XV (rsK m l k) (stK m l k).P U;rw[zI,jI U,XW _ _ i U U,zI,jI U];rfl
theorem RunOk.rowC {k i:Nat}(hk:k<l.length)(hi:i<m.crs.length):(stK m l (k+1)).C.getD i []=Xe.rowC m m.crs[i] ((rsK m l k).map PtR.hit) ((stK m l k).C.getD i []):=by
 have h2:=R.cl k U;rw[dA m hk];unfold stp
 dsimp only
 rw[<-bF m hk];have hs:=XX m ((rsK m l k).map PtR.hit) (stK m l k).C h2;rw[zI,jI U,XY _ _ _ i hi U,zI,jI U];rfl
theorem RunOk.rowLen (hk:k<=l.length)(hi:i<m.pts.length):((stK m l k).P.getD i []).length=m.pts[i].bins.length:=by
 have h2:=R.pl k hk;rw[zI,jI U];exact(R.fit k hk).ok.sh.pe i U hi
theorem RunOk.rowCLen (hk:k<=l.length)(hi:i<m.crs.length):((stK m l k).C.getD i []).length=JB (szs m m.crs[i].pts):=by
 have h2:=R.cl k hk;rw[zI,jI U];exact(R.fit k hk).ok.sh.ce i U hi
end
end Go.Proofs.YtiihpnicbekebaaGreatDoor.Xe
namespace Go.Proofs.YtiihpnicbekebaaGreatDoor.Bd.Cl
open Sm Bins Cov Xe Wd Bl Go.RowKit
variable {H:Hp}
abbrev isI (H:Hp)(b:Nat)(xs:List Int):Prop:=H[b]?=some (yE 1 (xs.map qencI))
theorem isI.ix {H:Hp}{b:Nat}{xs:List Int}(h:isI H b xs){n i:Nat}{kk:IntKind}(hi:i<n):IM 1 H (.own b 0 n) (.int kk (i:Nat))=some (.ptr b i 0):=by rw[GM h hi,Nat.zero_add]
theorem isI.ld {H:Hp}{b:Nat}{xs:List Int}(h:isI H b xs){i:Nat}(hi:i<xs.length):BI jA H 3 (.ptr b i 0)=some (.n (xs.getD i 0)):=by
 rw[BC ag3 h (row:=qencI xs[i]) (row_map hi),zI,jI hi];rfl
theorem isI.st {b:Nat}{xs:List Int}(h:isI H b xs){i:Nat}(hi:i<xs.length)(z:Int):DU jA H 3 (.ptr b i 0) (.n z)=some (H.set b (yE 1 ((xs.set i z).map qencI))):=by
 rw[G8 (cs:=[.n z]) rfl sz3 h (row_map hi) (by simp [qencI]),List.map_set];rfl
theorem cR0 (n:Nat):cR [] n=(jR n (0:Int)).map qencI:=by
 apply List.ext_getElem?;intro i;by_cases hi:i<n
 .rw[YV _ hi,List.getElem?_map,List.getElem?_replicate,if_pos hi];rfl
 .rw[qZ (by rw[pC];omega),qZ LD]
theorem mkI (h:Hp)(n:Nat)(hn:n<=1048576):GV jA true h 32 (.n (n:Int)) (.n (n:Int))=some (.own h.length 0 n,h++[yE 1 ((jR n (0:Int)).map qencI)]):=by
 rw[A6M h n hn,cR0]
structure KB (B:List Nat) (H H':Hp):Prop where
 len:H.length<=H'.length
 keep:∀(k:Nat) (y:ABlk),H[k]?=some y->k ∉ B->H'[k]?=some y
theorem KB.rfl' (B:List Nat)(H:Hp):KB B H H:=⟨jF _,fun _ _ h _=>h⟩
theorem KB.app {B:List Nat}{H':Hp}(k:KB B H H')(x:ABlk):KB B H (H'++[x]):=⟨by have:=k.len;simp;omega,fun i y q hn=>AO (k.keep i y q hn)⟩
theorem KB.set {B:List Nat}{H H':Hp}(k:KB B H H'){b:Nat}(hb:b∈B)(x:ABlk):KB B H (H'.set b x) :=
 ⟨by rw[List.length_set];exact k.len,fun i y q hn=>by rw[List.getElem?_set_ne (fun e=>hn (by rw[<-e];exact hb))];exact k.keep i y q hn⟩
theorem KB.trans {B:List Nat}{H1 H2:Hp}(a:KB B H H1)(b:KB B H1 H2):KB B H H2:=⟨Nat.le_trans a.len b.len,fun i y q hn=>b.keep i y (a.keep i y q hn) hn⟩
theorem A57:∀w:Nat,w<=8->IG jA 3 .shl (.n 1) (.n (w:Nat))=some (.n (2^w))
 | 0,_=>AZ
 | 1,_=>AZ
 | 2,_=>AZ
 | 3,_=>AZ
 | 4,_=>AZ
 | 5,_=>AZ
 | 6,_=>AZ
 | 7,_=>AZ
 | 8,_=>AZ
 | n+9,h=>absurd h U
theorem rP {b:Nat}{p:Pr}(hb:H[b]?=some (yE 5 [CY p])):BI jA H 22 (.ptr b 0 0)=some (.sl p.vm 4 (p.vars.map encV)):=by rw[BC WZ hb (row:=CY p) rfl];rfl
theorem AW4 (l:List Vr)(n:ByteArray):(l.any (NE n)) = !decide (plc l n<0):=by
 unfold plc;rw[<-RF,<-decide_not,decide_eq_decide];omega
theorem al9 (h:Hp):GH jA h 9=some (.ptr h.length 0 0,h++[yE 1 [[.str ⟨#[]⟩]]]):=FB (row:=[.str ⟨#[]⟩]) AZ
theorem st9 (h:Hp)(n:ByteArray):DU jA (h++[yE 1 [[.str ⟨#[]⟩]]]) 9 (.ptr h.length 0 0) (.str n)=some (h++[yE 1 [[.str n]]]):=by
 rw[IR (cs:=[.str n]) (row:=[.str ⟨#[]⟩]) rfl sz9 (AX _ _) (jF 1),JZ];rfl
theorem al79 (h:Hp):GH jA h 79=some (.ptr h.length 0 0,h++[yE 4 [[.n 0,.n 0,.str ⟨#[]⟩,.sl .nil 0 []]]]):=FB (row:=[.n 0,.n 0,.str ⟨#[]⟩,.sl .nil 0 []]) AZ
theorem st79 (h:Hp)(e:Ex):DU jA (h++[yE 4 [[.n 0,.n 0,.str ⟨#[]⟩,.sl .nil 0 []]]]) 79 (.ptr h.length 0 0) (.agg (A8 e))=some (h++[yE 4 [A8 e]]):=by
 have hle:(A8 e).length=4:=EG _;rw[IR (cs:=A8 e) (row:=[.n 0,.n 0,.str ⟨#[]⟩,.sl .nil 0 []]) (PG (by rw[FI];rfl)) (by rw[hle];exact JE) (AX _ _) (by rw[hle];exact jF 4),JZ]
 have:splice [.n 0,.n 0,.str ⟨#[]⟩,.sl .nil 0 []] 0 (A8 e)=A8 e:=by
  unfold splice;rw[List.take_zero,List.drop_eq_nil_of_le (by rw[hle];exact jF 4)];simp
 rw[this]
section
variable (G:Nat->AV)
theorem A7I (v:Vr)(n:ByteArray)(c:Nat)(h:Hp)(hc:h[c]?=some (yE 1 [[.str n]])):PCall (En G) 306 ([.agg (encV v)]++[.ptr c 0 0]) h (.bool (NE n v)):=by
 refine ACalls.pure0 rfl ?_;refine acT Tryz.func306 3 ?_;have hc':(h++[yE 4 [encV v]])[c]?=_:=AO hc;refine MI @bxV @encV0 (GN ag9 hc') ?_;exact⟨rfl,_,rfl⟩
theorem known_prog (hG:GOk G)(p:Pr)(hl:p.vars.length<=1048576)(e:Ex)(hw:wt e<=1048576)(h:Hp):PCall (En G) 259 [.agg (CY p),.agg (A8 e)] h (.bool (xpE p.vars e==0)):=by
 refine ACalls.pure0 rfl ?_;refine acT Tryz.func259 4 ?_;have gp:=AO (x:=yE 4 [A8 e]) (AX h (yE 5 [CY p]));have gE:=AX (h++[yE 5 [CY p]]) (yE 4 [A8 e]);have hxx:ext h (h++[yE 5 [CY p]]++[yE 4 [A8 e]]):=((ext.rfl' h).app _).app _;refine BB @QE @bxE ?_
 generalize (h++[yE 5 [CY p]]).length=eb at gE|-
 generalize h++[yE 5 [CY p]]++[yE 4 [A8 e]]=H1 at gp gE hxx|-
 generalize h.length=pb at gp|-
 refine A7 (IU gE) ?_;refine(OG G hG e _ hw).use ?_;cases b1:(exE e != 0)
 rotate_left
 .have he:exE e≠0:=by simpa [bne] using b1
  refine A7 b1 ?_;exact⟨by rw[show xpE p.vars e=exE e from if_pos he];simp [he],hxx⟩
 have he:exE e=0:=by simpa [bne] using b1
 have hxp:xpE p.vars e=plE p.vars e:=by unfold xpE;rw[if_neg (by simp [he])]
 refine BB b1 (IU gE) ?_;refine(Y4 G e hw _).use ?_;refine A7 @AUX ?_;refine BO ?_ ?_<;>intro ha
 .refine AB ?_
  exact⟨by rw[hxp];unfold plE;rw[if_pos ha];rfl,hxx⟩
 refine A7 (IU gE) ?_;refine(cL G e hw _).use ?_
 have hnl:(nmL [2] [] (pre e)).length<=1048576:=by
  have h1:=ZF [2] (pre e) [];have h2:=WI e;simp at h1;omega
 have hfr:=AS7 p.vars e
 generalize nmL [2] [] (pre e)=ns at hnl hfr|-
 have hpl:ns.any (fun n=>decide (plc p.vars n<0)) = !(xpE p.vars e==0):=by
  rw[hfr,hxp];unfold plE;rw[ha];cases nV p.vars e<;>rfl
 refine AB ?_
 refine BK (fun n F H=>∃i,n+i=ns.length/\(∀x∈ns.take i,decide (plc p.vars x<0)=false)/\F 2=.ptr pb 0 0/\F 17=.sl (nm ns) 1 (ns.map qencStr)/\F 18=.n (ns.length:Nat)/\F 19=.n (i:Nat)/\H[pb]?=some (yE 5 [CY p])/\ext h H) ns.length
  ⟨0,BA,BA,AQ,AQ,AQ,AQ,gp,hxx⟩ ?_
 clear gp gE hxx;rintro n F H ⟨i,hi,hb,f2,f17,f18,f19,gp,hxx⟩;refine BB f18 f19 ?_;refine D9 ?_ ?_<;>intro hi'
 .simp only[vQ,CP,↓reduceIte,jC,enP,aJ,jQ,f17,f19,CZ hi',A1C hi',al9,st9]
  have gp1:(H++[yE 1 [[.str ns[i]]]])[pb]?=_:=AO gp;have hx1:=hxx.app [yE 1 [[.str ns[i]]]];refine BB f2 (rP gp1) ?_;refine(AKT G p.vars p.vm 306 [.ptr H.length 0 0] (NE ns[i]) _ U fun x _=>A7I G x ns[i] H.length _ (AX _ _)).use ?_;refine A7 @AW4 ?_;refine BO ?_ ?_<;>intro hd
  .have hd:decide (plc p.vars ns[i]<0)=true:=BM hd
   refine AB ?_;refine⟨?_,hx1⟩;have:ns.any (fun n=>decide (plc p.vars n<0))=true:=List.any_eq_true.2 ⟨_,List.getElem_mem hi',hd⟩;rw[hpl] at this
   cases hz:(xpE p.vars e==0)<;>rw[hz] at this<;>first|rfl|cases this
  .have hd:decide (plc p.vars ns[i]<0)=false:=BM hd
   refine BB f19 (DC i) ?_;refine⟨n-1,U,i+1,U,fun x hx=>?_,AL,AL,AL,rfl,gp1,hx1⟩;rw[jU hi'] at hx;rcases List.mem_append.1 hx with h1|h1
   .exact hb x h1
   .rw[List.mem_singleton.1 h1];exact hd
 .rw[jJ U] at hb
  refine AB ?_;refine⟨?_,hxx⟩;have:ns.any (fun n=>decide (plc p.vars n<0))=false:=List.any_eq_false.2 fun x hx=>by rw[hb x hx];simp
  rw[hpl] at this
  cases hz:(xpE p.vars e==0)<;>rw[hz] at this<;>first|rfl|cases this
theorem A0M (p:Pr)(hs:PrS p)(a:List Int)(b:Nat)(hl:a.length=p.vars.length)(h:Hp)(hb:isI h b a):ACalls (En G) 72 [.agg (CY p),.own b 0 a.length] h fun v H=>ext h H/\outG 2 FU h (GI p.vars a) v H:=by
 have hvl:=hs.vars;have hel:=RG hl;refine IP (H:=hint [31] []) (enM G) Tryz.func72 rfl (by kernel_rfl) (by kernel_rfl) (jB (by kernel_rfl)) ?_;show awp _ _ _ _ _ (L6 _ [.tmp 4] _);have ge:=AX h (yE 5 [CY p]);have hb0:isI (h++[yE 5 [CY p]]) b a:=AO hb;have hx:=Sm.ext.r1 h (yE 5 [CY p]);have hh:h.length<=(h++[yE 5 [CY p]]).length:=BA;refine A7 @QE ?_
 generalize h++[yE 5 [CY p]]=H0 at ge hb0 hx hh|-
 generalize hpb:h.length=pb at ge hh|-
 have l22:∀ {H:Hp},Sm.ext H0 H->BI jA H 22 (.ptr pb 0 0)=some (.sl p.vm 4 (p.vars.map encV)):=fun q=>rP (DI q ge)
 have hne:(((a.length:Nat):Int) != ((p.vars.length:Nat):Int))=false:=by rw[hl];simp
 refine BB (l22 (ext.rfl' H0)) hne ?_
 refine BK (fun n F H=>∃i u,n+i=p.vars.length/\F 1=.own b 0 a.length/\F 2=.ptr pb 0 0/\F 5=u/\F 15=.sl p.vm 4 (p.vars.map encV)/\F 16=.n (p.vars.length:Nat)/\F 17=.n (i:Nat)/\ext H0 H/\outG 2 FU H0 ((GI p.vars a).take i) u H) p.vars.length
  ⟨0,.sl .nil 0 [],BA,AQ,AQ,AQ,AQ,AQ,AQ,ext.rfl' _,outG.nil _ _ _ _⟩ ?_
 rintro n F H ⟨i,u,hi,f1,f2,f5,f15,f16,f17,hxH,ho⟩;refine BB f16 f17 ?_;refine D9 (fun hiv=>?_) (fun hi'=>?_)
 .have hi':i<a.length:=U
  have hie:i<(GI p.vars a).length:=U;have hxH1:=hxH.app [yE 4 [encV p.vars[i]]];have ho1:=ho.app [yE 4 [encV p.vars[i]]];have gv:=AX H (yE 4 [encV p.vars[i]]);simp only[vQ,jY,jS,jV,zO,CP,↓reduceIte,jC,enP,ZZ,jQ,f15,f17,CZ hiv,ldV hiv,Bd.al61,Bd.st61]
  generalize hH1:H++[yE 4 [encV p.vars[i]]]=H1 at hxH1 ho1 gv|-
  obtain⟨v',H',ha,ho',_,hx',_,_⟩:=ho1.append (P:=jA) A0X AZ A0R A1W U (by rw[List.length_take];omega) hxH1 (p.vars[i].name,a[i]);rw[<-ZO hiv hi' hie,<-jU hie] at ho';have ln:BI jA H1 9 (.ptr H.length 0 0)=some (.str p.vars[i].name):=by rw[BC ag9 gv (row:=encV p.vars[i]) rfl];rfl
  have hbH:isI H1 b a:=DI hxH1 hb0;have la:BI jA H1 3 (.ptr b i 0)=some (.n a[i]):=by rw[hbH.ld hi',zI,jI hi'];rfl
  refine D6 AZ ?_;simp only[vQ,JH,jY,jS,jV,zO,LQ,cT,KY,LP,OW,CP,NZ,F6,JW,↓reduceIte,jC,Nat.reduceAdd,Nat.add_zero,enP,LY,ZN,f1,f5,hbH.ix (show i<a.length from hi'),ln,la,A8L,A8E,ha,f17,DC i];exact⟨n-1,U,i+1,v',U,AL,AL,AL,AL,AL,AL,hx',ho'⟩
 .rw[jJ U] at ho
  refine A7 f5 ?_;refine⟨hx.trans hxH,?_⟩;rcases ho with⟨a,b⟩|⟨a,o,b,c,d⟩
  .exact .inl ⟨a,b⟩
  .exact .inr ⟨a,o,U,c,d⟩
end
end Go.Proofs.YtiihpnicbekebaaGreatDoor.Bd.Cl
