/- Part 13 of the proof (X2, X3, X4, X5, X6); no condition. -/
import Derived.Test.YtfpagfhhhlljjaaGreatDoorYD12
set_option linter.unusedVariables false
set_option linter.unusedSimpArgs false
set_option maxRecDepth 8000
namespace Go.Proofs.YtfpagfhhhlljjaaGreatDoor.Xe
open Sm Bins Cov Go.RowKit
open Bool renaming not_false→jC,not_true→jU
open List renaming getElem_mem→jP,map_cons→jD,map_nil→jE,append_nil→jF,getElem?_set→zG,getElem?_eq_getElem→jS,nil_append→qE,cons_append→qO,length_append→qA
open Nat renaming le_of_ble_eq_true→jI,reduceEqDiff→jB,zero_add→jG
open Option renaming getD_some→jA,getD_none→jT
theorem A4E:Frz encStr:=fun _ _ _ _=>⟨rfl,rfl⟩
theorem encStr0 (s:ByteArray):(encStr s)[0]? = some (.str s):=rfl
theorem ATY (G:Nat→AV)(xs:List ByteArray)(b:Nat)(v:ByteArray)(h:Hp)(hb:h[b]? = some (.live 1 (xs.map encStr)))(hl:xs.length≤1099511627776) :
  ∃ k:Int,PCall (En G) 202 [.own b 0 xs.length,.str v] h (.int .i64 k)∧decide (k≥0)=JG xs v:=by
 have key : ∀ r:Int,(∀ i (hi:i < xs.length),(∀ j (hj:j < i),(v.toList == xs[j].toList)=false)→(v.toList == xs[i].toList)=true→r=(i:Int))→(JG xs v=false→r = -1)→PCall (En G) 202 [.own b 0 xs.length,.str v] h (.int .i64 r):=by
  intro r hr hr0
  refine acN Tryz.func202 rfl ?_
  show awp _ _ _ _ _ (EM _ [.tmp 4] _)
  simp -implicitDefEqProofs only[vQ,BD,↓reduceIte,jB,enP,AL5]
  refine DL (fun n F H => ∃ k,n+k=xs.length∧F 0 = .own b 0 xs.length∧F 1 = .str v∧F 7 = .int .i64 (xs.length:Nat)∧F 8 = .int .i64 (k:Nat)∧H=h∧(∀ j (hj:j < xs.length),j < k→(v.toList == xs[j].toList)=false)∧JG xs v=JG (xs.drop k) v) xs.length ⟨0,by simp,by simp -implicitDefEqProofs only[vQ,↓reduceIte,jB],by simp -implicitDefEqProofs only[vQ,↓reduceIte,jB],by simp -implicitDefEqProofs only[AA,↓reduceIte,jB],by simp -implicitDefEqProofs only[AA,↓reduceIte]; rfl,rfl,fun j _ hj=>by omega,rfl⟩ ?_
  rintro n F H ⟨k,hk,f0,f1,f7,f8,rfl,hbef,hin⟩
  simp -implicitDefEqProofs only[vQ,BD,↓reduceIte,enP,f7,f8]
  refine CU (fun hc => ?_) (fun hc => ?_)
  ·have hk':k < xs.length:=by simpa using hc
   have hs:JG (xs.drop k) v=((v.toList == xs[k].toList) || JG (xs.drop (k+1)) v):=KT _ xs k hk'
   have l1:D8 Tryz.prog H 9 (.ptr b k 0)=some (.str xs[k]):=by rw[DY ag9 hb (row:=encStr xs[k]) (row_map hk')]; rfl
   simp -implicitDefEqProofs only[vQ,BD,LV,↓reduceIte,jB,enP,ATS,f0,f1,f8,JR hb hk',l1]
   refine CU (fun hx => ?_) (fun hx => ?_)
   ·simp -implicitDefEqProofs only[vQ,BD,↓reduceIte,jB]
    exact⟨by rw[hr k hk' (fun j hj=>hbef j (by omega) hj) hx],trivial⟩
   ·simp -implicitDefEqProofs only[vQ,BD,↓reduceIte,jB,enP,f8,wrap_succ (show k < 9223372036854775807 by omega)]
    refine⟨n - 1,by omega,k+1,by omega,by trivial,by trivial,by trivial,rfl,trivial,fun j hj hjk => ?_,by rw[hin,hs,hx,Bool.false_or]⟩
    rcases Nat.lt_or_ge j k with h1 | h1
    ·exact hbef j hj h1
    ·have:j=k:=by omega
     subst this; exact hx
  ·have hk' : ¬ k < xs.length:=by simpa using hc
   simp -implicitDefEqProofs only[vQ,BD,↓reduceIte]
   refine⟨?_,trivial⟩
   rw[hr0 (by rw[hin,List.drop_eq_nil_of_le (by omega)]; rfl)]
 by_cases hh:JG xs v=true
 ·obtain⟨i,hi⟩ : ∃ i,xs.findIdx? (fun u=>v.toList == u.toList)=some i:=by
   cases he:xs.findIdx? (fun u=>v.toList == u.toList) with
   | some i=>exact⟨i,rfl⟩
   | none =>
     rw[List.findIdx?_eq_none_iff] at he
     unfold JG at hh
     rw[List.any_eq_true] at hh
     obtain⟨x,hx,hz⟩:=hh
     rw[he x hx] at hz; cases hz
  obtain⟨hil,hiz,hbef⟩:=List.findIdx?_eq_some_iff_getElem.1 hi
  refine⟨(i:Int),key i (fun k hk hb' hx => ?_) (fun h0=>by rw[hh] at h0; cases h0),by rw[hh]; simp⟩
  rcases Nat.lt_trichotomy i k with h1 | h1 | h1
  ·have:=hb' i h1; rw[hiz] at this; cases this
  ·rw[h1]
  ·have:=hbef k h1; rw[hx] at this; simp at this
 ·have hh':JG xs v=false:=by simpa using hh
  refine⟨-1,key (-1) (fun k hk _ hx => ?_) (fun _=>rfl),by rw[hh']; decide⟩
  unfold JG at hh'
  rw[List.any_eq_false] at hh'
  exact absurd hx (hh' xs[k] (jP hk))
theorem ATZ (G:Nat→AV)(k:Nat)(v:ByteArray)(h:Hp):PCall (En G) 202 [.sl .nil k [],.str v] h (.int .i64 (-1)):=by
 refine acN Tryz.func202 rfl ?_
 show awp _ _ _ _ _ (EM _ [.tmp 4] _)
 simp -implicitDefEqProofs only[vQ,BD,↓reduceIte,jB,enP,AL5,List.length_nil]
 refine DL (fun n F H=>F 7 = .int .i64 0∧F 8 = .int .i64 0∧H=h) 0 ⟨by simp -implicitDefEqProofs only[AA,↓reduceIte,jB] <;> rfl,by simp -implicitDefEqProofs only[AA,↓reduceIte],rfl⟩ ?_
 rintro n F H ⟨f7,f8,rfl⟩
 have hc:((0:Int) < 0)=False:=by simp
 simp -implicitDefEqProofs only[vQ,BD,↓reduceIte,decide_false,enP,f7,f8,hc,decide_false]
 exact⟨by trivial,trivial⟩
theorem A60 (G:Nat→AV){h0 h:Hp}{ns:List ByteArray}{u:AV}(ho:outG 1 encStr h0 ns u h)(v:ByteArray)(hl:ns.length≤8388608):PCall (En G) 174 [u,.str v] h (.bool (JG ns v)):=by
 have hi : ∃ k:Int,PCall (En G) 202 [u,.str v] h (.int .i64 k)∧decide (k≥0)=JG ns v:=by
  rcases ho with⟨rfl,rfl⟩ | ⟨_,o,_,rfl,hb⟩
  ·exact⟨-1,ATZ G 0 v h,rfl⟩
  ·exact ATY G ns o v h hb (by omega)
 obtain⟨k,hk,hd⟩:=hi
 refine acN Tryz.func174 rfl ?_
 show awp _ _ _ _ _ (EM _ [.tmp 4] _)
 simp -implicitDefEqProofs only[vQ,BD,↓reduceIte,jB,enP]
 refine hk.use ?_
 simp -implicitDefEqProofs only[vQ,BD,↓reduceIte,enP,hd]
 exact⟨trivial,trivial⟩
def nmU (ops:List Int)(ns:List ByteArray)(e:Ex):List ByteArray:=if(Rk.hasB ops e.op && !JG ns e.name)=true then ns++[e.name] else ns
def nmL (ops:List Int)(ns:List ByteArray)(l:List Ex):List ByteArray:=l.foldl (nmU ops) ns
theorem ARK (ops:List Int)(ns:List ByteArray)(e:Ex):(nmU ops ns e).length≤ns.length+1:=by
 unfold nmU; split <;> simp
theorem ADB (ops:List Int) : ∀ (l:List Ex) (ns:List ByteArray),(nmL ops ns l).length≤ns.length+l.length
 | [],ns=>by simp [nmL]
 | e :: l,ns=>by
   have h1:=ADB ops l (nmU ops ns e)
   have h2:=ARK ops ns e
   simp only[nmL,List.foldl_cons,List.length_cons] at h1 ⊢
   omega
theorem A0G (ops:List Int)(ns:List ByteArray)(l r:List Ex):nmL ops ns (l++r)=nmL ops (nmL ops ns l) r:=List.foldl_append
structure NSt (h0:Hp) (c:Nat) (ns:List ByteArray) (v:AV) (h:Hp):Prop where
 cell:h[c]? = some (.live 1 [[v]])
 out:outG 1 encStr h0 ns v h
 base:h0.length≤c
 ex:ext h0 h
abbrev Cn (c:Nat)(v:AV)(h:Hp)(v':AV)(h':Hp):Prop:=Ch c v .nilfn h v' .nilfn h'
theorem NSt.ne {h0 h:Hp}{c b k:Nat}{ns:List ByteArray}{v:AV}{row:List AV}(s:NSt h0 c ns v h)(hb:h[b]? = some (.live k [row]))(hr:k≠1∨∀ x,row≠[.str x]) : ¬ isB v b:=by
 intro hi
 rcases s.out with⟨_,rfl⟩ | ⟨hne,o,_,rfl,ho⟩
 ·exact hi
 ·have e:o=b:=hi
  subst e
  rw[ho] at hb
  injection Option.some.inj hb with e1 e2
  rcases hr with hr | hr
  ·exact hr e1.symm
  ·match ns,e2 with
   | [x],e2=>simp [encStr] at e2; exact hr x e2.symm
theorem NSt.app {h0 h:Hp}{c:Nat}{ns:List ByteArray}{v:AV}(s:NSt h0 c ns v h)(x:Hp):NSt h0 c ns v (h++x):=⟨F7 s.cell,s.out.app x,s.base,s.ex.app x⟩
theorem NSt.cne {h0 h:Hp}{c:Nat}{ns:List ByteArray}{v:AV}(s:NSt h0 c ns v h) : ¬ isB v c:=by
 refine s.ne s.cell (.inr fun x e => ?_)
 rcases s.out with⟨_,rfl⟩ | ⟨_,o,_,rfl,_⟩ <;> simp at e
theorem Cn.keep {c b:Nat}{h h':Hp}{v v':AV}{x:ABlk}(hc:Cn c v h v' h')(hb:h[b]? = some x)(hne:b≠c)(hn : ¬ isB v b):h'[b]? = some x:=by
 rw[hc.get b (CJ hb) hne hn (fun e=>e)]; exact hb
theorem AKK (G:Nat→AV)(ops:List Int)(hops:ops.length≤1048576)(h0:Hp)(c ob:Nat)(s0:SM)(e:Ex)(h:Hp)(ns:List ByteArray)(v:AV)(S:NSt h0 c ns v h)(hob:h[ob]? = some (.live 1 [[.sl s0 1 (ops.map qencI)]]))(hn:ns.length < 8388608) :
  ACalls (En G) 258 [.agg (DX e),.ptr ob 0 0,.ptr c 0 0] h fun r h'=>r = .bool true∧∃ v',Cn c v h v' h'∧NSt h0 c (nmU ops ns e) v' h':=by
 refine acN Tryz.func258 rfl ?_
 show awp _ _ _ _ _ (EM _ [.tmp 4] _)
 have S1:=S.app [ABlk.live 4 [DX e]]
 have hob1:(h++[ABlk.live 4 [DX e]])[ob]? = _:=CX hob
 have hC1:Cn c v h v (h++[ABlk.live 4 [DX e]]):=Ch.app c v .nilfn h _
 have ge:=CZ h (ABlk.live 4 [DX e])
 have hcl:=CJ S.cell
 simp -implicitDefEqProofs only[vQ,BD,↓reduceIte,jB,enP,bxE]
 generalize h++[ABlk.live 4 [DX e]]=H at S1 hob1 hC1 ge ⊢
 have l0:D8 Tryz.prog H 3 (.ptr h.length 0 0)=some (.int .i64 e.op):=by rw[DY ag3 ge (row:=DX e) rfl,KR]
 have l2:D8 Tryz.prog H 9 (.ptr h.length 0 2)=some (.str e.name):=by rw[DY ag9 ge (row:=DX e) rfl,QT]
 simp -implicitDefEqProofs only[vQ,BD,↓reduceIte,jB,Nat.add_zero,enP,I7,J8 KO hob1,l0]
 refine(Rk.contains_rank G ops s0 e.op H hops).use ?_
 simp -implicitDefEqProofs only[vQ,CP,BD,↓reduceIte]
 have key : ∀ b1 b2:Bool,Rk.hasB ops e.op=b1→JG ns e.name=b2→(b1 && !b2)=false→nmU ops ns e=ns:=fun b1 b2 e1 e2 e3=>by
  unfold nmU; rw[e1,e2,e3]; simp
 cases hb1:Rk.hasB ops e.op
 ·simp -implicitDefEqProofs only[vQ,CP,BD,EW,↓reduceIte,jB]
  exact⟨trivial,v,hC1,by rw[key _ _ hb1 rfl rfl]; exact S1⟩
 simp -implicitDefEqProofs only[vQ,CP,BD,↓reduceIte,jB,enP,MF,J8 AUY S1.cell,l2]
 refine(A60 G S1.out e.name (by omega)).use ?_
 simp -implicitDefEqProofs only[vQ,CP,BD,↓reduceIte,jB]
 cases hb2:JG ns e.name
 ·have hu:nmU ops ns e=ns++[e.name]:=by unfold nmU; rw[hb1,hb2]; rfl
  obtain⟨v',H',ha,ho,hk,hex,hle,hnew⟩:=S1.out.append (P:=Tryz.prog) AZL sz9 AZC A1O (by omega) hn S1.ex e.name
  have ha':GM Tryz.prog true H 65 65 v (.sl .full 1 [[.str e.name]])=some (v',H'):=ha
  have hc':=hk c _ S1.cell S1.cne
  have hcl2:=CJ S1.cell
  have hac:JW v'=some [v']:=by
   rcases ho with⟨_,rfl⟩ | ⟨_,o,_,rfl,_⟩ <;> rfl
  simp -implicitDefEqProofs only[vQ,BD,↓reduceIte,jB,enP,MF,jT,J8 AUY S1.cell,l2,AYJ,ha',TG A3I hac hc']
  refine⟨trivial,v',hC1.trans ⟨by simpa using hle,fun b hb hbc hbv _ => ?_,fun b hb => .inr (by rw[hnew b hb]; exact Nat.le_refl _),fun b hb=>hb.elim⟩,?_⟩
  ·rw[zG,if_neg (fun e=>hbc e.symm),jS hb]
   exact hk b _ (jS hb) hbv
  ·rw[hu]
   exact⟨EG hc',ho.keep fun b hb=>by rw[zG,if_neg (fun e=>by have:=hnew b hb; omega)],S1.base,hex.set S1.base _⟩
 ·simp -implicitDefEqProofs only[vQ,BD,↓reduceIte,jU]
  exact⟨trivial,v,hC1,by rw[key _ _ hb1 hb2 rfl]; exact S1⟩
theorem AWK (ops:List Int)(ns:List ByteArray)(e:Ex):nmL ops ns (pre e)=nmL ops (nmU ops ns e) (J4 e.args):=by rw[pre_eq]; rfl
theorem APF (G:Nat→AV)(ops:List Int)(hops:ops.length≤1048576)(h0:Hp)(c ob vb db:Nat)(s0:SM)(hv:vb≠c)(hd:db≠c)(hoc:ob≠c)(e:Ex) :
  wt e≤1099511627776→∀ (h:Hp) (ns:List ByteArray) (v:AV),NSt h0 c ns v h→h[ob]? = some (.live 1 [[.sl s0 1 (ops.map qencI)]])→ns.length+(pre e).length≤8388608 →
   h[vb]? = some (.live 1 [[.fn (.func 258) [] [.ptr ob 0 0,.ptr c 0 0]]])→h[db]? = some (.live 1 [[.fn (.func 104) [] [.ptr vb 0 0,.ptr db 0 0]]]) →
   ACalls (En G) 104 [.agg (DX e),.ptr vb 0 0,.ptr db 0 0] h fun r h'=>r = .bool true∧∃ v',Cn c v h v' h'∧NSt h0 c (nmL ops ns (pre e)) v' h':=by
 induction e using Ex.induct with | h e ih => ?_
 intro hw h ns v S hob hlen hvb hdb
 have hcl:=CJ S.cell
 have hal:e.args.length≤1099511627776:=by have:=VA e.args; have:=NF e; omega
 have hpe:(pre e).length=(J4 e.args).length+1:=by rw[pre_eq]; rfl
 have hfn : ∀ (k:FuncId) (a b:List AV) (x:ByteArray),[AV.fn (.func k) a b]≠[.str x]:=fun _ _ _ _ q=>by simp at q
 have hsl : ∀ (xs:List (List AV)) (x:ByteArray),[AV.sl s0 1 xs]≠[.str x]:=fun _ _ q=>by simp at q
 refine acN Tryz.func104 rfl ?_
 show awp _ _ _ _ _ (EM _ [.tmp 4] _)
 have S0:=S.app [ABlk.live 4 [DX e]]
 simp -implicitDefEqProofs only[vQ,BD,qE,qO,↓reduceIte,jB,enP,bxE,J8 AII (CX hvb),ldE]
 refine(AKK G ops hops h0 c ob s0 e _ ns v S0 (CX hob) (by omega)).mono ?_
 rintro r h1 ⟨rfl,v1,hch,S1⟩
 have hch0:Cn c v h v1 h1:=(Ch.app c v .nilfn h _).trans hch
 have hb3:h1[h.length]? = some (.live 4 [DX e]):=hch.keep (CZ _ _) (by omega) (S0.ne (CZ _ _) (.inl (by decide)))
 have hvb1:=hch0.keep hvb hv (S.ne hvb (.inr (hfn _ _ _)))
 have hdb1:=hch0.keep hdb hd (S.ne hdb (.inr (hfn _ _ _)))
 have hob1:=hch0.keep hob hoc (S.ne hob (.inr (hsl _)))
 have l3:D8 Tryz.prog h1 46 (.ptr h.length 0 3)=some (.sl e.m 4 (e.args.map DX)):=by rw[DY VT hb3 (row:=DX e) rfl,AAO]
 have hn1:=ARK ops ns e
 simp -implicitDefEqProofs only[vQ,BD,↓reduceIte,jB,jU,enP,WS,OA,l3,List.length_map]
 refine DL (fun n F H => ∃ j v',n+j=e.args.length∧F 1 = .ptr vb 0 0∧F 2 = .ptr db 0 0∧F 12 = .sl e.m 4 (e.args.map DX)∧F 13 = .int .i64 e.args.length∧F 14 = .int .i64 (j:Nat)∧Cn c v h v' H∧NSt h0 c (nmL ops (nmU ops ns e) (J4 (e.args.take j))) v' H∧H[vb]? = some (.live 1 [[.fn (.func 258) [] [.ptr ob 0 0,.ptr c 0 0]]])∧H[db]? = some (.live 1 [[.fn (.func 104) [] [.ptr vb 0 0,.ptr db 0 0]]])∧H[ob]? = some (.live 1 [[.sl s0 1 (ops.map qencI)]])) e.args.length
  ⟨0,v1,by simp,by simp -implicitDefEqProofs only[vQ,↓reduceIte,jB],by simp -implicitDefEqProofs only[vQ,↓reduceIte,jB],by simp -implicitDefEqProofs only[AA,↓reduceIte,jB],by simp -implicitDefEqProofs only[AA,↓reduceIte,jB],by simp -implicitDefEqProofs only[AA,↓reduceIte]; rfl,hch0,S1,hvb1,hdb1,hob1⟩ ?_
 rintro n F H ⟨j,v',hj,f1,f2,f12,f13,f14,hC,SH,hvH,hdH,hoH⟩
 simp -implicitDefEqProofs only[vQ,BD,↓reduceIte,enP,f13,f14]
 refine CU (fun hlt => ?_) (fun hlt => ?_)
 ·have hj':j < e.args.length:=by simpa using hlt
  have hmem:e.args[j]∈e.args:=jP hj'
  have hsplit:J4 e.args=J4 (e.args.take j)++(pre e.args[j]++J4 (e.args.drop (j+1))):=by
   rw[← List.append_assoc,← OY _ _ hj',← QH,List.take_append_drop]
  have hln:=ADB ops (J4 (e.args.take j)) (nmU ops ns e)
  have hls:(J4 e.args).length=(J4 (e.args.take j)).length+((pre e.args[j]).length+(J4 (e.args.drop (j+1))).length):=by rw[hsplit,qA,qA]
  simp -implicitDefEqProofs only[vQ,BD,qE,qO,↓reduceIte,jB,enP,AAC,jT,f12,f14,DN hj',FU X4 N7 JE hj',AC4,AKT _ _ [.int .i64 0,.int .i64 0,.str ⟨#[]⟩,.sl .nil 0 []] rfl,f2,J8 AII (CX hdH),ldE]
  have SH1:=SH.app [ABlk.live 4 [DX e.args[j]]]
  refine(ih e.args[j] hmem (by have:=U9 hmem; have:=NF e; omega) _ _ v' SH1 (CX hoH) (by omega) (CX hvH) (CX hdH)).mono ?_
  rintro r h2 ⟨rfl,v2,hch2,S2⟩
  have hch2':Cn c v' H v2 h2:=(Ch.app c v' .nilfn H _).trans hch2
  have hvH2:=hch2'.keep hvH hv (SH.ne hvH (.inr (hfn _ _ _)))
  have hdH2:=hch2'.keep hdH hd (SH.ne hdH (.inr (hfn _ _ _)))
  have hoH2:=hch2'.keep hoH hoc (SH.ne hoH (.inr (hsl _)))
  simp -implicitDefEqProofs only[vQ,BD,↓reduceIte,jB,jU,enP,f1,f2,f12,f13,f14,wrap_succ (show j < 9223372036854775807 by omega)]
  refine⟨n - 1,by omega,j+1,v2,by omega,trivial,trivial,trivial,trivial,rfl,hC.trans hch2',?_,hvH2,hdH2,hoH2⟩
  rw[OY _ _ hj',A0G]; exact S2
 ·have hj' : ¬ j < e.args.length:=by simpa using hlt
  simp -implicitDefEqProofs only[vQ,BD,↓reduceIte]
  rw[List.take_of_length_le (by omega),← AWK] at SH
  exact⟨trivial,v',hC,SH⟩
theorem AN3 (G:Nat→AV)(ops:List Int)(hops:ops.length≤1048576)(h0:Hp)(c ob:Nat)(s0:SM)(hoc:ob≠c)(e:Ex)(hw:wt e≤1048576)(h:Hp)(ns:List ByteArray)(v:AV)(S:NSt h0 c ns v h)(hob:h[ob]? = some (.live 1 [[.sl s0 1 (ops.map qencI)]]))(hn:ns.length≤1048576) :
  ACalls (En G) 68 [.agg (DX e),.fn (.func 258) [] [.ptr ob 0 0,.ptr c 0 0]] h fun _ h' => ∃ v',Cn c v h v' h'∧NSt h0 c (nmL ops ns (pre e)) v' h':=by
 have hcl:=CJ S.cell
 have hol:=CJ hob
 refine acN Tryz.func68 rfl ?_
 show awp _ _ _ _ _ (EM _ [] _)
 generalize hfv:AV.fn (.func 258) [] [.ptr ob 0 0,.ptr c 0 0]=fv
 have hbx : ∀ H:Hp,O7 H fv=some (.ptr H.length 0 0,H++[.live 1 [[fv]]]):=fun H=>by rw[← hfv]; rfl
 simp -implicitDefEqProofs only[vQ,BD,I5,↓reduceIte,jB,enP,jT,bxE,hbx,A25]
 have g0:(h++[ABlk.live 4 [DX e]]++[ABlk.live 1 [[fv]]]++[ABlk.live 1 [[AV.nilfn]]])[(h++[ABlk.live 4 [DX e]]++[ABlk.live 1 [[fv]]]).length]? = some (.live 1 [[.nilfn]]):=CZ _ _
 simp -implicitDefEqProofs only[vQ,BD,↓reduceIte,jB,enP,TG A2K (A29 _ _ _) g0]
 have S3:=((S.app [ABlk.live 4 [DX e]]).app [ABlk.live 1 [[fv]]]).app [ABlk.live 1 [[AV.nilfn]]]
 have c3:Cn c v h v (h++[ABlk.live 4 [DX e]]++[ABlk.live 1 [[fv]]]++[ABlk.live 1 [[AV.nilfn]]]):=((Ch.app c v .nilfn h _).trans (Ch.app _ _ _ _ _)).trans (Ch.app _ _ _ _ _)
 have v3:(h++[ABlk.live 4 [DX e]]++[ABlk.live 1 [[fv]]]++[ABlk.live 1 [[AV.nilfn]]])[(h++[ABlk.live 4 [DX e]]).length]? = some (.live 1 [[fv]]):=CX (CZ _ _)
 have e3:(h++[ABlk.live 4 [DX e]]++[ABlk.live 1 [[fv]]]++[ABlk.live 1 [[AV.nilfn]]])[h.length]? = some (.live 4 [DX e]):=CX (CX (CZ _ _))
 have o3:(h++[ABlk.live 4 [DX e]]++[ABlk.live 1 [[fv]]]++[ABlk.live 1 [[AV.nilfn]]])[ob]? = some (.live 1 [[.sl s0 1 (ops.map qencI)]]):=CX (CX (CX hob))
 have hdl:(h++[ABlk.live 4 [DX e]]++[ABlk.live 1 [[fv]]]).length=h.length+2:=by simp
 have hvl:(h++[ABlk.live 4 [DX e]]).length=h.length+1:=by simp
 generalize (h++[ABlk.live 4 [DX e]]++[ABlk.live 1 [[fv]]]).length=db at g0 hdl ⊢
 generalize (h++[ABlk.live 4 [DX e]]).length=vb at v3 hvl ⊢
 generalize h++[ABlk.live 4 [DX e]]++[ABlk.live 1 [[fv]]]++[ABlk.live 1 [[AV.nilfn]]]=H at g0 S3 c3 v3 e3 o3 ⊢
 have hdn : ¬ isB v db:=S3.ne g0 (.inr fun x q=>by simp at q)
 generalize hH:H.set db (.live 1 [[AV.fn (.func 104) [] [.ptr vb 0 0,.ptr db 0 0]]])=H'
 have gd:H'[db]? = some (.live 1 [[.fn (.func 104) [] [.ptr vb 0 0,.ptr db 0 0]]]):=by rw[← hH]; exact EG g0
 have gv:H'[vb]? = some (.live 1 [[fv]]):=by rw[← hH]; exact CV v3 (by omega)
 have ge:H'[h.length]? = some (.live 4 [DX e]):=by rw[← hH]; exact CV e3 (by omega)
 have go:H'[ob]? = some (.live 1 [[.sl s0 1 (ops.map qencI)]]):=by rw[← hH]; exact CV o3 (by omega)
 have hb0:=S.ex.le
 have S4:NSt h0 c ns v H':=by
  rw[← hH]
  exact⟨CV S3.cell (by omega),S3.out.keep fun b hb=>by rw[zG,if_neg (fun q=>hdn (by rw[q]; exact hb))],S3.base,S3.ex.set (by omega) _⟩
 have c4:Cn c v h v H':=by
  rw[← hH]
  exact⟨by have:=c3.len; simpa using this,fun b hb hbc hbv hbu=>by rw[zG,if_neg (by omega)]; exact c3.get b hb hbc hbv hbu,fun _ q => .inl q,fun _ q => .inl q⟩
 simp -implicitDefEqProofs only[vQ,BD,qE,qO,↓reduceIte,jB,enP,J8 AII gd,NM ge]
 rw[← hfv] at gv
 have hp:=AIZ e
 refine(APF G ops hops h0 c ob vb db s0 (by omega) (by omega) hoc e (by omega) H' ns v S4 go (by omega) gv gd).mono ?_
 rintro r h' ⟨rfl,v',hch,S5⟩
 simp -implicitDefEqProofs only[vQ,AFJ]
 exact⟨v',c4.trans hch,S5⟩
theorem A73 (h:Hp):KN Tryz.prog h 65=some (.ptr h.length 0 0,h++[.live 1 [[.sl .nil 0 []]]]):=KD (row := [.sl .nil 0 []]) (by kernel_rfl)
theorem AEM (G:Nat→AV)(ops:List Int)(hops:ops.length≤1048576)(s0:SM)(e:Ex)(hw:wt e≤1048576)(h:Hp):PCall (En G) 243 [.agg (DX e),.sl s0 1 (ops.map qencI)] h (.sl (nm (nmL ops [] (pre e))) 1 ((nmL ops [] (pre e)).map encStr)):=by
 refine PW A4E ?_
 refine acN Tryz.func243 rfl ?_
 show awp _ _ _ _ _ (EM _ [.tmp 4] _)
 have ge:=CX (x:=ABlk.live 1 [[.sl .nil 0 []]]) (CX (x:=ABlk.live 1 [[AV.sl s0 1 (ops.map qencI)]]) (CZ h (.live 4 [DX e])))
 have go:=CX (x:=ABlk.live 1 [[.sl .nil 0 []]]) (CZ (h++[ABlk.live 4 [DX e]]) (ABlk.live 1 [[AV.sl s0 1 (ops.map qencI)]]))
 have gc:=CZ (h++[ABlk.live 4 [DX e]]++[ABlk.live 1 [[AV.sl s0 1 (ops.map qencI)]]]) (ABlk.live 1 [[.sl .nil 0 []]])
 have hx:ext h (h++[ABlk.live 4 [DX e]]++[ABlk.live 1 [[AV.sl s0 1 (ops.map qencI)]]]++[ABlk.live 1 [[.sl .nil 0 []]]]):=(((ext.rfl' h).app _).app _).app _
 have hol:(h++[ABlk.live 4 [DX e]]).length=h.length+1:=by simp
 have hcl:(h++[ABlk.live 4 [DX e]]++[ABlk.live 1 [[AV.sl s0 1 (ops.map qencI)]]]).length=h.length+2:=by simp
 simp -implicitDefEqProofs only[vQ,APW,BD,↓reduceIte,jB,enP,bxE,A73]
 generalize h++[ABlk.live 4 [DX e]]++[ABlk.live 1 [[AV.sl s0 1 (ops.map qencI)]]]++[ABlk.live 1 [[.sl .nil 0 []]]]=H at ge go gc hx ⊢
 generalize (h++[ABlk.live 4 [DX e]]++[ABlk.live 1 [[AV.sl s0 1 (ops.map qencI)]]]).length=c at gc hcl ⊢
 generalize (h++[ABlk.live 4 [DX e]]).length=ob at go hol ⊢
 simp -implicitDefEqProofs only[vQ,BD,I5,↓reduceIte,jB,NM ge]
 have S:NSt h c [] (.sl .nil 0 []) H:=⟨gc,outG.nil _ _ _ _,by omega,hx⟩
 refine(AN3 G ops hops h c ob s0 (by omega) e hw H [] _ S go (by simp)).mono ?_
 rintro r h' ⟨v',hch,S5⟩
 simp -implicitDefEqProofs only[vQ,BD,↓reduceIte,jB,enP,J8 AUY S5.cell]
 exact⟨S5.ex,S5.out⟩
theorem A7A (h:Hp)(a b:Int):FM Tryz.prog false h 26 2 [(0,.int .i64 a),(1,.int .i64 b)]=some (.sl .full 1 [[.int .i64 a],[.int .i64 b]],h):=by kernel_rfl
theorem AQD (G:Nat→AV)(e:Ex)(hw:wt e≤1048576)(h:Hp):PCall (En G) 216 [.agg (DX e)] h (.sl (nm (nmL [2] [] (pre e))) 1 ((nmL [2] [] (pre e)).map encStr)):=by
 refine ACalls.pure0 rfl ?_
 refine acN Tryz.func216 rfl ?_
 show awp _ _ _ _ _ (EM _ [.tmp 2] _)
 simp -implicitDefEqProofs only[vQ,BD,↓reduceIte,jB,enP,bxE,ldE,AG2]
 refine(AEM G [2] (by decide) .full e hw _).use ?_
 simp -implicitDefEqProofs only[vQ,BD,↓reduceIte]
 exact⟨trivial,_,rfl⟩
theorem ANZ (G:Nat→AV)(e:Ex)(hw:wt e≤1048576)(h:Hp):PCall (En G) 218 [.agg (DX e)] h (.sl (nm (nmL [3,24] [] (pre e))) 1 ((nmL [3,24] [] (pre e)).map encStr)):=by
 refine ACalls.pure0 rfl ?_
 refine acN Tryz.func218 rfl ?_
 show awp _ _ _ _ _ (EM _ [.tmp 2] _)
 simp -implicitDefEqProofs only[vQ,BD,↓reduceIte,jB,enP,bxE,ldE,A7A]
 refine(AEM G [3,24] (by decide) .full e hw _).use ?_
 simp -implicitDefEqProofs only[vQ,BD,↓reduceIte]
 exact⟨trivial,_,rfl⟩
end Go.Proofs.YtfpagfhhhlljjaaGreatDoor.Xe
set_option linter.unusedSimpArgs false
set_option maxRecDepth 8000
namespace Go.Proofs.YtfpagfhhhlljjaaGreatDoor.Xe
open Sm Bins Cov Wd Go.RowKit
open Bool renaming not_false→jC,not_true→jU,true_and→qF
open Int renaming reduceBEq→zF
open List renaming drop_eq_getElem_cons→zK,all_cons→wR,length_map→jH,map_cons→jD,map_nil→jE,append_nil→jF,drop_eq_nil_of_le→jV,getElem_mem→jP,getElem?_cons_zero→zB,getElem?_cons_succ→zD,getD_eq_getElem?_getD→zQ,getElem?_eq_getElem→jS,mem_map→zL,mem_cons_of_mem→wO,take_of_length_le→jW,mem_cons→qJ,length_append→qA,length_cons→zX
open Nat renaming le_refl→jL,le_of_ble_eq_true→jI,reduceEqDiff→jB,add_zero→jK,zero_add→jG,mod_lt→qQ,reduceAdd→jM
open Option renaming getD_some→jA,getD_none→jT
abbrev Sg:=ByteArray × Int
def G8 (s:Sg):List AV := [.str s.1,.int .i64 s.2]
theorem AH5 (s:Sg):(G8 s).length=2:=rfl
theorem A4J (s:Sg):(G8 s)[0]? = some (.str s.1):=rfl
def XF (s:Sg):Prop := -9223372036854775808≤s.2∧s.2≤9223372036854775807
def MV:List Sg→ByteArray→Nat × Bool
 | [],_=>(0,false)
 | s :: l,n=>if(s.1.toList == n.toList)=true then (wW s.2,true) else MV l n
theorem AFB : ∀ (l:List Sg) (n:ByteArray),(MV l n).1 < 65536
 | [],_=>by simp [MV]
 | s :: l,n=>by unfold MV; split; exact AQS _; exact AFB l n
theorem AFA (l:List Sg)(n:ByteArray)(k:Nat)(hk:k < l.length):MV (l.drop k) n=if(l[k].1.toList == n.toList)=true then (wW l[k].2,true) else MV (l.drop (k+1)) n:=by
 rw[zK hk]; rfl
def TM (p:Nat × Bool):AV := .tup [.int .i64 (p.1:Nat),.bool p.2]
theorem ALT (p:Nat × Bool)(n:Nat)(H:Hp):IL n H 2 (TM p)=TM p:=rfl
theorem A72 (h:Hp):KN Tryz.prog h 59=some (.ptr h.length 0 0,h++[.live 2 [[.str ⟨#[]⟩,.int .i64 0]]]):=KD (row := [.str ⟨#[]⟩,.int .i64 0]) (by kernel_rfl)
theorem A5J (h:Hp)(s:Sg):FP Tryz.prog (h++[.live 2 [[.str ⟨#[]⟩,.int .i64 0]]]) 59 (.ptr h.length 0 0) (.agg (G8 s))=some (h++[.live 2 [G8 s]]):=by
 rw[MK (cs:=G8 s) (row := [.str ⟨#[]⟩,.int .i64 0]) rfl A3J (CZ _ _) (by exact jL 2),TJ]
 rfl
theorem ANG (h:Hp)(u:AV)(hu:u.leaf=true):O7 h (.agg [u])=some (.ptr h.length 0 0,h++[ABlk.live 1 [[u]]]):=VS (by simp only[wR,hu,List.all_nil]; rfl)
theorem YA {h:Hp}{b:Nat}{u:AV}(hb:h[b]? = some (.live 1 [[u]])):D8 Tryz.prog h 205 (.ptr b 0 0)=some (.agg [u]):=by
 rw[IJ A79 A2I hb rfl (by exact jL 1)]; rfl
theorem U4 {P:Program}{t:TypeId}{a b:ByteArray}(h:a.size+b.size≤9223372036854775807):JY P t .add (.str a) (.str b)=some (.str (a++b)):=by
 show AP3 .add a b=_
 unfold AP3
 have:((a.size+b.size:Nat):Int)≤IntKind.i64.max:=by
  show _≤(9223372036854775807:Int)
  omega
 simp only[if_pos this]
section
variable (G:Nat→AV)
theorem ABS (l:List Sg)(m:SM)(n:ByteArray)(h:Hp)(hl:l.length≤1099511627776):PCall (En G) 217 [.agg [.sl m 2 (l.map G8)],.str n] h (TM (MV l n)):=by
 refine X8 2 (ALT _) ?_
 refine acN Tryz.func217 rfl ?_
 show awp _ _ _ _ _ (EM _ [.tmp 4,.tmp 5] _)
 simp -implicitDefEqProofs only[vQ,BD,↓reduceIte,jB,enP,AWO,A02,ANG h (.sl m 2 (l.map G8)) rfl,J8 A13 (CZ h (ABlk.live 1 [[.sl m 2 (l.map G8)]])),jH]
 refine DL (fun k F H => ∃ j,k+j=l.length∧F 1 = .str n∧F 9 = .sl m 2 (l.map G8)∧F 10 = .int .i64 (l.length:Nat)∧F 11 = .int .i64 (j:Nat)∧ext h H∧MV l n=MV (l.drop j) n) l.length ⟨0,by simp,by simp -implicitDefEqProofs only[vQ,↓reduceIte,jB],by simp -implicitDefEqProofs only[AA,↓reduceIte,jB],by simp -implicitDefEqProofs only[AA,↓reduceIte,jB],by simp -implicitDefEqProofs only[AA,↓reduceIte]; rfl,(ext.rfl' h).app _,rfl⟩ ?_
 rintro k F H ⟨j,hj,f1,f9,f10,f11,hx,hf⟩
 simp -implicitDefEqProofs only[vQ,BD,↓reduceIte,enP,f10,f11]
 refine CU (fun hc => ?_) (fun hc => ?_)
 ·have hj':j < l.length:=by simpa using hc
  have g:=CZ H (ABlk.live 2 [G8 l[j]])
  have l0:D8 Tryz.prog (H++[ABlk.live 2 [G8 l[j]]]) 9 (.ptr H.length 0 0)=some (.str l[j].1):=by rw[DY ag9 g (row:=G8 l[j]) rfl]; rfl
  have l1:D8 Tryz.prog (H++[ABlk.live 2 [G8 l[j]]]) 3 (.ptr H.length 0 1)=some (.int .i64 l[j].2):=by rw[DY ag3 g (row:=G8 l[j]) rfl]; rfl
  rw[AFA l n j hj'] at hf
  simp -implicitDefEqProofs only[vQ,BD,LV,↓reduceIte,jB,enP,APB,A0U,jT,f1,f9,f11,DN hj',FU A9P A3J AH5 hj',A72,A5J,l0]
  refine CU (fun hb => ?_) (fun hb => ?_)
  ·simp -implicitDefEqProofs only[vQ,BD,↓reduceIte,jB,enP,AXN,l1]
   refine(ASN G _ _).use ?_
   simp -implicitDefEqProofs only[vQ,BD,↓reduceIte,jB]
   exact⟨by rw[hf,if_pos hb]; rfl,hx.app _⟩
  ·simp -implicitDefEqProofs only[vQ,BD,↓reduceIte,jB,enP,f11,wrap_succ (show j < 9223372036854775807 by omega)]
   exact⟨k - 1,by omega,j+1,by omega,by trivial,by trivial,by trivial,rfl,hx.app _,by rw[hf,if_neg (by rw[hb]; decide)]⟩
 ·have hj' : ¬ j < l.length:=by simpa using hc
  simp -implicitDefEqProofs only[vQ,BD,↓reduceIte,jB]
  exact⟨by rw[hf,jV (by omega)]; rfl,hx⟩
theorem AE9 (l:List Sg)(m:SM)(n:ByteArray)(h:Hp)(hl:l.length≤1099511627776)(hok : ∀ s∈l,XF s):PCall (En G) 195 [.sl m 2 (l.map G8),.str n] h (TM (MV l n)):=by
 refine acN Tryz.func195 rfl ?_
 show awp _ _ _ _ _ (EM _ [.tmp 4,.tmp 5] _)
 simp -implicitDefEqProofs only[vQ,BD,enP]
 refine DL (fun k F H => ∃ j,k+j=l.length∧F 0 = .sl m 2 (l.map G8)∧F 1 = .str n∧F 6 = .int .i64 (j:Nat)∧H=h∧MV l n=MV (l.drop j) n) l.length ⟨0,by simp,by simp -implicitDefEqProofs only[vQ,↓reduceIte,jB],by simp -implicitDefEqProofs only[vQ,↓reduceIte,jB],by simp -implicitDefEqProofs only[AA,↓reduceIte]; rfl,rfl,rfl⟩ ?_
 rintro k F H ⟨j,hj,f0,f1,f6,rfl,hf⟩
 simp -implicitDefEqProofs only[vQ,BD,↓reduceIte,jB,enP,AWO,f0,f6,jH]
 refine CU (fun hc => ?_) (fun hc => ?_)
 ·have hj':j < l.length:=by simpa using hc
  rw[AFA l n j hj'] at hf
  have l0:D8 Tryz.prog H 9 (.fptr 2 (l.map G8) j 0)=some (.str l[j].1):=by rw[CY ag9 hj']; rfl
  have l1:D8 Tryz.prog H 3 (.fptr 2 (l.map G8) j 1)=some (.int .i64 l[j].2):=by rw[CY ag3 hj']; rfl
  simp -implicitDefEqProofs only[vQ,BD,LV,↓reduceIte,jB,enP,APB,A0U,f0,f1,f6,DN hj',l0]
  refine CU (fun hb => ?_) (fun hb => ?_)
  ·simp -implicitDefEqProofs only[vQ,BD,↓reduceIte,jB,enP,AXN,A0U,f0,f6,DN hj',l1]
   refine(RS G _ _ (hok _ (jP hj'))).use ?_
   simp -implicitDefEqProofs only[vQ,BD,↓reduceIte,jB]
   exact⟨by rw[hf,if_pos hb]; rfl,trivial⟩
  ·simp -implicitDefEqProofs only[vQ,BD,↓reduceIte,jB,enP,f6,wrap_succ (show j < 9223372036854775807 by omega)]
   exact⟨k - 1,by omega,j+1,by omega,by trivial,by trivial,rfl,trivial,by rw[hf,if_neg (by rw[hb]; decide)]⟩
 ·have hj' : ¬ j < l.length:=by simpa using hc
  simp -implicitDefEqProofs only[vQ,BD,↓reduceIte,jB]
  exact⟨by rw[hf,jV (by omega)]; rfl,trivial⟩
def elN (a:ByteArray)(i:Nat):ByteArray:=a++(⟨#[91]⟩:ByteArray)++(⟨#[UInt8.ofNat (48+i)]⟩:ByteArray)++(⟨#[93]⟩:ByteArray)
def atG (l:List Sg)(a:ByteArray)(i:Int):Nat × Bool:=if i < 0∨i≥8 then (0,false) else MV l (elN a i.toNat)
theorem APY (l:List Sg)(a:ByteArray)(i:Int):(atG l a i).1 < 65536:=by unfold atG; split; decide; exact AFB _ _
theorem AXZ : ∀ i:Nat,i < 8→XE Tryz.prog 100 9 (.sl .full 1 [[.int .u8 (IntKind.u8.wrap (IntKind.i64.wrap (48+(i:Int))))]])=some (.str ⟨#[UInt8.ofNat (48+i)]⟩)
 | 0,_=>by kernel_rfl
 | 1,_=>by kernel_rfl
 | 2,_=>by kernel_rfl
 | 3,_=>by kernel_rfl
 | 4,_=>by kernel_rfl
 | 5,_=>by kernel_rfl
 | 6,_=>by kernel_rfl
 | 7,_=>by kernel_rfl
 | n+8,h=>absurd h (by omega)
theorem A7I (h:Hp)(v:Int):FM Tryz.prog false h 100 1 [(0,.int .u8 v)]=some (.sl .full 1 [[.int .u8 v]],h):=by kernel_rfl
theorem XR (a b:ByteArray):(a++b).size=a.size+b.size:=ByteArray.size_append
theorem AJ8 (l:List Sg)(m:SM)(a:ByteArray)(i:Int)(h:Hp)(hl:l.length≤1099511627776)(ha:a.size≤1048576):PCall (En G) 219 [.agg [.sl m 2 (l.map G8)],.str a,.int .i64 i] h (TM (atG l a i)):=by
 refine X8 2 (ALT _) ?_
 refine acN Tryz.func219 rfl ?_
 show awp _ _ _ _ _ (EM _ [.tmp 6,.tmp 7] _)
 have hx:ext h (h++[ABlk.live 1 [[.sl m 2 (l.map G8)]]]):=(ext.rfl' h).app _
 simp -implicitDefEqProofs only[vQ,CP,BD,↓reduceIte,jB,enP,ANG h (.sl m 2 (l.map G8)) rfl]
 cases h1:decide (i < 0)
 ·cases h2:decide (i≥8)
  ·have h1' : ¬ i < 0:=by simpa using h1
   have h2' : ¬ i≥8:=by simpa using h2
   obtain⟨k,rfl⟩:=Int.eq_ofNat_of_zero_le (show 0≤i by omega)
   have hk:k < 8:=by omega
   have e1:JY Tryz.prog 9 .add (.str a) (.str ⟨#[91]⟩)=_:=U4 (by show a.size+1≤_; omega)
   have e2:JY Tryz.prog 9 .add (.str (a++(⟨#[91]⟩:ByteArray))) (.str ⟨#[UInt8.ofNat (48+k)]⟩)=_:=U4 (by rw[XR]; show a.size+1+1≤_; omega)
   have e3:JY Tryz.prog 9 .add (.str (a++(⟨#[91]⟩:ByteArray)++(⟨#[UInt8.ofNat (48+k)]⟩:ByteArray))) (.str ⟨#[93]⟩)=_:=U4 (by rw[XR,XR]; show a.size+1+1+1≤_; omega)
   simp -implicitDefEqProofs only[vQ,CP,BD,AA8,↓reduceIte,jB,enP,A6Z,h2,YA (CZ h (ABlk.live 1 [[.sl m 2 (l.map G8)]])),e1,A7I,AXZ k hk,e2,e3]
   refine(ABS G l m _ _ hl).use ?_
   unfold TM
   simp -implicitDefEqProofs only[vQ,zB,zD,BD,↓reduceIte,jB]
   exact⟨by unfold atG; rw[if_neg (by omega)]; rfl,hx⟩
  ·simp -implicitDefEqProofs only[vQ,CP,BD,↓reduceIte,jB,enP,h2]
   have h2':i≥8:=by simpa using h2
   exact⟨by unfold atG; rw[if_pos (.inr h2')]; rfl,hx⟩
 ·simp -implicitDefEqProofs only[vQ,CP,BD,EW,↓reduceIte,jB]
  have h1':i < 0:=by simpa using h1
  exact⟨by unfold atG; rw[if_pos (.inl h1')]; rfl,hx⟩
theorem AXY : ∀ (k:Nat),k < 8→∀ h:Hp,KL Tryz.prog h 9 (.str ⟨#[48,49,50,51,52,53,54,55,56,57]⟩) (some (.int .i64 (k:Nat))) (some (.int .i64 ((k+1:Nat):Int))) none=some (.str ⟨#[UInt8.ofNat (48+k)]⟩)
 | 0,_,h=>by kernel_rfl
 | 1,_,h=>by kernel_rfl
 | 2,_,h=>by kernel_rfl
 | 3,_,h=>by kernel_rfl
 | 4,_,h=>by kernel_rfl
 | 5,_,h=>by kernel_rfl
 | 6,_,h=>by kernel_rfl
 | 7,_,h=>by kernel_rfl
 | n+8,q,_=>absurd q (by omega)
theorem digit_ref (k:Nat)(hk:k < 8)(h:Hp):PCall (En G) 225 [.int .i64 (k:Nat)] h (.str ⟨#[UInt8.ofNat (48+k)]⟩):=by
 refine acN Tryz.func225 rfl ?_
 show awp _ _ _ _ _ (EM _ [.tmp 2] _)
 simp -implicitDefEqProofs only[vQ,Option.map_some,Option.map_none,BD,TE,↓reduceIte,jB,enP,wrap_succ (show k < 9223372036854775807 by omega),AXY k hk]
 exact⟨trivial,trivial⟩
theorem ACW (a:ByteArray)(k:Nat)(hk:k < 8)(h:Hp)(ha:a.size≤1048576):PCall (En G) 196 [.str a,.int .i64 (k:Nat)] h (.str (elN a k)):=by
 refine acN Tryz.func196 rfl ?_
 show awp _ _ _ _ _ (EM _ [.tmp 4] _)
 have e1:JY Tryz.prog 9 .add (.str a) (.str ⟨#[91]⟩)=_:=U4 (by show a.size+1≤_; omega)
 have e2:JY Tryz.prog 9 .add (.str (a++(⟨#[91]⟩:ByteArray))) (.str ⟨#[UInt8.ofNat (48+k)]⟩)=_:=U4 (by rw[XR]; show a.size+1+1≤_; omega)
 have e3:JY Tryz.prog 9 .add (.str (a++(⟨#[91]⟩:ByteArray)++(⟨#[UInt8.ofNat (48+k)]⟩:ByteArray))) (.str ⟨#[93]⟩)=_:=U4 (by rw[XR,XR]; show a.size+1+1+1≤_; omega)
 simp -implicitDefEqProofs only[vQ,BD,↓reduceIte,jB,enP,e1]
 refine(digit_ref G k hk h).use ?_
 simp -implicitDefEqProofs only[vQ,BD,↓reduceIte,jB,enP,e2,e3]
 exact⟨rfl,trivial⟩
theorem ACO (l:List Sg)(m:SM)(a:ByteArray)(i:Int)(h:Hp)(hl:l.length≤1099511627776)(hok : ∀ s∈l,XF s)(ha:a.size≤1048576):PCall (En G) 197 [.sl m 2 (l.map G8),.str a,.int .i64 i] h (.int .i64 ((atG l a i).1:Nat)):=by
 refine acN Tryz.func197 rfl ?_
 show awp _ _ _ _ _ (EM _ [.tmp 6] _)
 simp -implicitDefEqProofs only[vQ,CP,BD,↓reduceIte,jB,enP]
 cases h1:decide (i < 0)
 ·cases h2:decide (i≥8)
  ·have h1' : ¬ i < 0:=by simpa using h1
   have h2' : ¬ i≥8:=by simpa using h2
   obtain⟨k,rfl⟩:=Int.eq_ofNat_of_zero_le (show 0≤i by omega)
   simp -implicitDefEqProofs only[vQ,CP,BD,↓reduceIte,jB,enP,h2]
   refine(ACW G a k (by omega) h ha).use ?_
   simp -implicitDefEqProofs only[vQ,BD,↓reduceIte,jB]
   refine(AE9 G l m _ h hl hok).use ?_
   unfold TM
   simp -implicitDefEqProofs only[vQ,zB,zD,BD,↓reduceIte,jB]
   exact⟨by unfold atG; rw[if_neg (by omega)]; rfl,trivial⟩
  ·simp -implicitDefEqProofs only[vQ,CP,BD,↓reduceIte,jB,enP,h2]
   have h2':i≥8:=by simpa using h2
   exact⟨by unfold atG; rw[if_pos (.inr h2')]; rfl,trivial⟩
 ·simp -implicitDefEqProofs only[vQ,CP,BD,EW,↓reduceIte,jB]
  have h1':i < 0:=by simpa using h1
  exact⟨by unfold atG; rw[if_pos (.inl h1')]; rfl,trivial⟩
def sumTo (l:List Sg)(a:ByteArray):Nat→Nat
 | 0=>0
 | k+1=>(sumTo l a k+(atG l a (k:Nat)).1) % 65536
theorem ADX (l:List Sg)(a:ByteArray)(k:Nat):sumTo l a k < 65536:=by
 cases k with
 | zero=>show 0 < 65536; decide
 | succ k=>exact qQ _ (by omega)
theorem AVM (l:List Sg)(m:SM)(a:ByteArray)(h:Hp)(hl:l.length≤1099511627776)(ha:a.size≤1048576):PCall (En G) 220 [.agg [.sl m 2 (l.map G8)],.str a] h (.int .i64 (sumTo l a 8:Nat)):=by
 refine ACalls.pure0 rfl ?_
 refine acN Tryz.func220 rfl ?_
 show awp _ _ _ _ _ (EM _ [.tmp 4] _)
 have g:=CZ h (ABlk.live 1 [[.sl m 2 (l.map G8)]])
 simp -implicitDefEqProofs only[vQ,BD,enP,ANG h (.sl m 2 (l.map G8)) rfl]
 generalize hH:h++[ABlk.live 1 [[.sl m 2 (l.map G8)]]]=H at g ⊢
 refine DL (fun k F H' => ∃ j,k+j=8∧F 1 = .str a∧F 2 = .ptr h.length 0 0∧F 5 = .int .i64 (sumTo l a j:Nat)∧F 9 = .int .i64 (j:Nat)∧H'=H) 8 ⟨0,by simp,by simp -implicitDefEqProofs only[vQ,↓reduceIte,jB],by simp -implicitDefEqProofs only[AA,↓reduceIte,jB],by simp -implicitDefEqProofs only[AA,↓reduceIte,jB] <;> rfl,by simp -implicitDefEqProofs only[AA,↓reduceIte] <;> rfl,rfl⟩ ?_
 rintro k F H' ⟨j,hj,f1,f2,f5,f9,rfl⟩
 simp -implicitDefEqProofs only[vQ,BD,↓reduceIte,enP,f9]
 refine CU (fun hc => ?_) (fun hc => ?_)
 ·have hj':j < 8:=by simp at hc; omega
  simp -implicitDefEqProofs only[vQ,BD,↓reduceIte,jB,enP,f1,f2,f9,YA g]
  refine(AJ8 G l m a (j:Nat) H' hl ha).use ?_
  unfold TM
  simp -implicitDefEqProofs only[vQ,zB,zD,BD,↓reduceIte,jB,f5]
  refine(A27 G _ _ (ADX l a j) (APY l a (j:Nat)) H').use ?_
  simp -implicitDefEqProofs only[vQ,BD,↓reduceIte,jB,enP,f1,f2,f9,wrap_succ (show j < 9223372036854775807 by omega)]
  exact⟨k - 1,by omega,j+1,by omega,by trivial,by trivial,by trivial,by trivial,trivial⟩
 ·have hj':j=8:=by simp at hc; omega
  subst hj'
  simp -implicitDefEqProofs only[vQ,BD,↓reduceIte,jB,f5]
  exact⟨trivial,_,hH.symm⟩
end
def AEV (x:Nat):List Nat→Bool
 | a :: b :: r=>(decide (a≤x) && decide (x≤b)) || AEV x r
 | _=>false
def opW (op:Int)(vs:List Nat):Nat :=
 if op=22 then (if vs.getD 0 0≠0 then vs.getD 1 0 else vs.getD 2 0) else if op=23 then tr (AEV (vs.getD 0 0) (vs.drop 1))
 else if vs.length=1 then sgW op (vs.getD 0 0) else dbW op (vs.getD 0 0) (vs.getD 1 0)
theorem getD_lt {vs:List Nat}(hv : ∀ x∈vs,x < 65536)(k:Nat):vs.getD k 0 < 65536:=by
 rw[zQ]
 rcases Nat.lt_or_ge k vs.length with h | h
 ·rw[jS h]; exact hv _ (jP h)
 ·rw[List.getElem?_eq_none h]; decide
theorem A32 (op:Int){vs:List Nat}(hv : ∀ x∈vs,x < 65536):opW op vs < 65536:=by
 unfold opW
 have h0:=getD_lt hv 0
 have h1:=getD_lt hv 1
 have h2:=getD_lt hv 2
 split
 ·split <;> assumption
 split
 ·exact ZM _
 split
 ·exact A3T h0
 ·exact A4M h0 h1
theorem AHU (x:Nat)(l:List Nat)(k:Nat)(hk:k+1 < l.length):AEV x (l.drop k)=((decide (l[k]≤x) && decide (x≤l[k+1])) || AEV x (l.drop (k+2))):=by
 rw[zK (by omega:k < l.length),zK hk]; rfl
theorem AL8 (x:Nat)(l:List Nat)(k:Nat)(hk:l.length≤k+1):AEV x (l.drop k)=false:=by
 have:(l.drop k).length≤1:=by simp; omega
 match hm:l.drop k,this with
 | [],_=>rfl
 | [a],_=>rfl
theorem gec (a b:Nat):decide ((a:Int)≥(b:Int))=decide (b≤a):=lec b a
def ANT (op:Int)(n:Nat):Prop:=(op=22→n=3)∧(op=23→n % 2=1∧3≤n)∧(op≠22→op≠23→n=1∨n=2)
set_option maxHeartbeats 2000000 in
theorem ATD (G:Nat→AV)(op:Int)(vs:List Nat)(o:Nat)(H:Hp)(ho:H[o]? = some (.live 1 (vs.map JI)))(hv : ∀ x∈vs,x < 65536)(hl:vs.length≤1048576)(hops:ANT op vs.length) :
  PCall (En G) 221 [.int .i64 op,.own o 0 vs.length] H (.int .i64 (opW op vs:Nat)):=by
 have hix : ∀ k:Nat,k < vs.length→J3 1 H (.own o 0 vs.length) (.int .i64 (k:Nat))=some (.ptr o k 0):=fun k hk=>by rw[JR ho hk,jG]
 have hld : ∀ (k:Nat) (hk:k < vs.length),D8 Tryz.prog H 3 (.ptr o k 0)=some (.int .i64 (vs[k]:Nat)):=fun k hk=>by rw[DY ag3 ho (row:=JI vs[k]) (row_map hk)]; rfl
 have h1:1≤vs.length:=by
  obtain⟨a,b,c⟩:=hops
  by_cases e:op=22
  ·have:=a e; omega
  by_cases e':op=23
  ·have:=b e'; omega
  ·have:=c e e'; omega
 have i0:J3 1 H (.own o 0 vs.length) (.int .i64 0)=some (.ptr o 0 0):=hix 0 h1
 have d0:=hld 0 h1
 have g0:vs.getD 0 0=vs[0]:=by rw[zQ,jS h1]; rfl
 have v0:vs[0] < 65536:=hv _ (jP _)
 refine acN Tryz.func221 rfl ?_
 show awp _ _ _ _ _ (EM _ [.tmp 4] _)
 by_cases e22:op=22
 ·subst e22
  have hl3:vs.length=3:=hops.1 rfl
  have i1:J3 1 H (.own o 0 vs.length) (.int .i64 1)=some (.ptr o 1 0):=hix 1 (by omega)
  have i2:J3 1 H (.own o 0 vs.length) (.int .i64 2)=some (.ptr o 2 0):=hix 2 (by omega)
  have d1:=hld 1 (by omega)
  have d2:=hld 2 (by omega)
  have g1:vs.getD 1 0=vs[1]:=by rw[zQ,jS (by omega)]; rfl
  have g2:vs.getD 2 0=vs[2]:=by rw[zQ,jS (by omega)]; rfl
  simp -implicitDefEqProofs only[vQ,BD,↓reduceIte,jB,enP,IB,zF,i0,d0,eqz,nez]
  cases hz:(vs[0] == 0)
  ·simp -implicitDefEqProofs only[vQ,BD,↓reduceIte,jB,enP,IB,i1,d1]
   have:vs[0]≠0:=by simpa using hz
   exact⟨by unfold opW; rw[if_pos rfl,g0,if_pos this,g1],trivial⟩
  ·simp -implicitDefEqProofs only[vQ,BD,↓reduceIte,jB,jU,enP,IB,i2,d2]
   have : ¬ vs[0]≠0:=by simpa using hz
   exact⟨by unfold opW; rw[if_pos rfl,g0,if_neg this,g2],trivial⟩
 by_cases e23:op=23
 ·subst e23
  obtain⟨hodd,h3⟩:=hops.2.1 rfl
  simp -implicitDefEqProofs only[vQ,BD,↓reduceIte,jB,enP,zF]
  have hval:opW 23 vs=tr (AEV vs[0] (vs.drop 1)):=by unfold opW; rw[if_neg (by decide),if_pos rfl,g0]
  rw[hval]
  refine DL (fun n F H' => ∃ j,n+j=vs.length∧j % 2=1∧F 1 = .own o 0 vs.length∧F 5 = .int .i64 (j:Nat)∧H'=H∧AEV vs[0] (vs.drop 1)=AEV vs[0] (vs.drop j)) (vs.length - 1) ⟨1,by omega,rfl,by simp -implicitDefEqProofs only[vQ,↓reduceIte,jB],by simp -implicitDefEqProofs only[AA,↓reduceIte] <;> rfl,rfl,rfl⟩ ?_
  rintro n F H' ⟨j,hj,hj2,f1,f5,rfl,hin⟩
  simp -implicitDefEqProofs only[vQ,BD,↓reduceIte,jB,enP,IZ,f1,f5,wrap_succ (show j < 9223372036854775807 by omega)]
  refine CU (fun hc => ?_) (fun hc => ?_)
  ·have hc':j+1 < vs.length:=by simp at hc; omega
   have ij:=hix j (by omega)
   have ij1:=hix (j+1) hc'
   have dj:=hld j (by omega)
   have dj1:=hld (j+1) hc'
   rw[AHU _ _ _ hc'] at hin
   have e2:IntKind.i64.wrap (((j:Nat):Int)+2)=((j+2:Nat):Int):=by rw[wrap_i64 (by omega) (by omega)]; omega
   have es:IntKind.i64.wrap (((j:Nat):Int)+1)=((j+1:Nat):Int):=wrap_succ (show j < 9223372036854775807 by omega)
   simp -implicitDefEqProofs only[vQ]
   refine EY (by kernel_rfl) ?_
   simp -implicitDefEqProofs only[vQ,CP,↓reduceIte,jB,jM,enP,IB,f1,f5,i0,d0,ij,dj,es,ij1,dj1,lec,gec]
   cases ha:decide (vs[j]≤vs[0])
   ·simp -implicitDefEqProofs only[vQ,AA3,CP,BD,EW,↓reduceIte,jB,jM,enP,ha,f5,e2]
    exact⟨n - 2,by omega,j+2,by omega,by omega,by trivial,by first | rfl | trivial,trivial,by rw[hin,ha]; rfl⟩
   ·cases hb:decide (vs[0]≤vs[j+1])
    ·simp -implicitDefEqProofs only[vQ,QN,CP,BD,↓reduceIte,jB,jM,enP,IB,ha,hb,f1,f5,es,ij1,dj1,lec,i0,d0,e2]
     exact⟨n - 2,by omega,j+2,by omega,by omega,by trivial,by first | rfl | trivial,trivial,by rw[hin,ha,hb]; rfl⟩
    ·simp -implicitDefEqProofs only[vQ,QN,CP,BD,↓reduceIte,jB,jM,enP,IB,ha,hb,f1,f5,es,ij1,dj1,lec,i0,d0]
     exact⟨by rw[hin,ha,hb]; rfl,trivial⟩
  ·have hc':vs.length≤j+1:=by simp at hc; omega
   simp -implicitDefEqProofs only[vQ,BD,↓reduceIte]
   exact⟨by rw[hin,AL8 _ _ _ hc']; rfl,trivial⟩
 ·have n12:=hops.2.2 e22 e23
  have c1:(op == 22)=false:=beq_eq_false_iff_ne.2 e22
  have c2:(op == 23)=false:=beq_eq_false_iff_ne.2 e23
  have hval:opW op vs=if vs.length=1 then sgW op (vs.getD 0 0) else dbW op (vs.getD 0 0) (vs.getD 1 0):=by unfold opW; rw[if_neg e22,if_neg e23]
  rw[hval]
  simp -implicitDefEqProofs only[vQ,BD,↓reduceIte,jB,enP,IZ,c1,c2]
  refine CU (fun hc => ?_) (fun hc => ?_)
  ·have hl1:vs.length=1:=by simp at hc; omega
   simp -implicitDefEqProofs only[vQ,BD,↓reduceIte,jB,enP,IB,i0,d0]
   refine(AK1 G op _ v0 H).use ?_
   simp -implicitDefEqProofs only[vQ,BD,↓reduceIte]
   exact⟨by rw[if_pos hl1,g0],trivial⟩
  ·have hl1:vs.length≠1:=by simp at hc; omega
   have i1:J3 1 H (.own o 0 vs.length) (.int .i64 1)=some (.ptr o 1 0):=hix 1 (by omega)
   have d1:=hld 1 (by omega)
   have g1:vs.getD 1 0=vs[1]:=by rw[zQ,jS (by omega)]; rfl
   have v1:vs[1] < 65536:=hv _ (jP _)
   simp -implicitDefEqProofs only[vQ]
   refine EY (by kernel_rfl) ?_
   simp -implicitDefEqProofs only[vQ,↓reduceIte,jB,jM,enP,IB,i0,d0,i1,d1]
   refine⟨_,AM2 G op _ _ v0 v1 H,?_⟩
   exact⟨by rw[if_neg hl1,g0,g1],trivial⟩
set_option maxHeartbeats 2000000 in
theorem AWE (G:Nat→AV)(op:Int)(vs:List Nat)(o:Nat)(H:Hp)(ho:H[o]? = some (.live 1 (vs.map JI)))(hv : ∀ x∈vs,x < 65536)(hl:vs.length≤1048576)(hops:ANT op vs.length) :
  PCall (En G) 171 [.int .i64 op,.own o 0 vs.length] H (.int .i64 (opW op vs:Nat)):=by
 have hix : ∀ k:Nat,k < vs.length→J3 1 H (.own o 0 vs.length) (.int .i64 (k:Nat))=some (.ptr o k 0):=fun k hk=>by rw[JR ho hk,jG]
 have hld : ∀ (k:Nat) (hk:k < vs.length),D8 Tryz.prog H 3 (.ptr o k 0)=some (.int .i64 (vs[k]:Nat)):=fun k hk=>by rw[DY ag3 ho (row:=JI vs[k]) (row_map hk)]; rfl
 have h1:1≤vs.length:=by
  obtain⟨a,b,c⟩:=hops
  by_cases e:op=22
  ·have:=a e; omega
  by_cases e':op=23
  ·have:=b e'; omega
  ·have:=c e e'; omega
 have i0:J3 1 H (.own o 0 vs.length) (.int .i64 0)=some (.ptr o 0 0):=hix 0 h1
 have d0:=hld 0 h1
 have g0:vs.getD 0 0=vs[0]:=by rw[zQ,jS h1]; rfl
 have v0:vs[0] < 65536:=hv _ (jP _)
 refine acN Tryz.func171 rfl ?_
 show awp _ _ _ _ _ (EM _ [.tmp 4] _)
 by_cases e22:op=22
 ·subst e22
  have hl3:vs.length=3:=hops.1 rfl
  have i1:J3 1 H (.own o 0 vs.length) (.int .i64 1)=some (.ptr o 1 0):=hix 1 (by omega)
  have i2:J3 1 H (.own o 0 vs.length) (.int .i64 2)=some (.ptr o 2 0):=hix 2 (by omega)
  have d1:=hld 1 (by omega)
  have d2:=hld 2 (by omega)
  have g1:vs.getD 1 0=vs[1]:=by rw[zQ,jS (by omega)]; rfl
  have g2:vs.getD 2 0=vs[2]:=by rw[zQ,jS (by omega)]; rfl
  simp -implicitDefEqProofs only[vQ,BD,↓reduceIte,jB,enP,IB,zF,i0,d0,eqz,nez]
  cases hz:(vs[0] == 0)
  ·simp -implicitDefEqProofs only[vQ,BD,↓reduceIte,jB,enP,IB,i1,d1]
   have:vs[0]≠0:=by simpa using hz
   exact⟨by unfold opW; rw[if_pos rfl,g0,if_pos this,g1],trivial⟩
  ·simp -implicitDefEqProofs only[vQ,BD,↓reduceIte,jB,jU,enP,IB,i2,d2]
   have : ¬ vs[0]≠0:=by simpa using hz
   exact⟨by unfold opW; rw[if_pos rfl,g0,if_neg this,g2],trivial⟩
 by_cases e23:op=23
 ·subst e23
  obtain⟨hodd,h3⟩:=hops.2.1 rfl
  simp -implicitDefEqProofs only[vQ,BD,↓reduceIte,jB,enP,zF]
  have hval:opW 23 vs=tr (AEV vs[0] (vs.drop 1)):=by unfold opW; rw[if_neg (by decide),if_pos rfl,g0]
  rw[hval]
  refine DL (fun n F H' => ∃ j,n+j=vs.length∧j % 2=1∧F 1 = .own o 0 vs.length∧F 5 = .int .i64 (j:Nat)∧H'=H∧AEV vs[0] (vs.drop 1)=AEV vs[0] (vs.drop j)) (vs.length - 1) ⟨1,by omega,rfl,by simp -implicitDefEqProofs only[vQ,↓reduceIte,jB],by simp -implicitDefEqProofs only[AA,↓reduceIte] <;> rfl,rfl,rfl⟩ ?_
  rintro n F H' ⟨j,hj,hj2,f1,f5,rfl,hin⟩
  simp -implicitDefEqProofs only[vQ,BD,↓reduceIte,jB,enP,IZ,f1,f5,wrap_succ (show j < 9223372036854775807 by omega)]
  refine CU (fun hc => ?_) (fun hc => ?_)
  ·have hc':j+1 < vs.length:=by simp at hc; omega
   have ij:=hix j (by omega)
   have ij1:=hix (j+1) hc'
   have dj:=hld j (by omega)
   have dj1:=hld (j+1) hc'
   rw[AHU _ _ _ hc'] at hin
   have e2:IntKind.i64.wrap (((j:Nat):Int)+2)=((j+2:Nat):Int):=by rw[wrap_i64 (by omega) (by omega)]; omega
   have es:IntKind.i64.wrap (((j:Nat):Int)+1)=((j+1:Nat):Int):=wrap_succ (show j < 9223372036854775807 by omega)
   simp -implicitDefEqProofs only[vQ]
   refine EY (by kernel_rfl) ?_
   simp -implicitDefEqProofs only[vQ,CP,↓reduceIte,jB,jM,enP,IB,f1,f5,i0,d0,ij,dj,es,ij1,dj1,lec,gec]
   cases ha:decide (vs[j]≤vs[0])
   ·simp -implicitDefEqProofs only[vQ,AA3,CP,BD,EW,↓reduceIte,jB,jM,enP,ha,f5,e2]
    exact⟨n - 2,by omega,j+2,by omega,by omega,by trivial,by first | rfl | trivial,trivial,by rw[hin,ha]; rfl⟩
   ·cases hb:decide (vs[0]≤vs[j+1])
    ·simp -implicitDefEqProofs only[vQ,QN,CP,BD,↓reduceIte,jB,jM,enP,IB,ha,hb,f1,f5,es,ij1,dj1,lec,i0,d0,e2]
     exact⟨n - 2,by omega,j+2,by omega,by omega,by trivial,by first | rfl | trivial,trivial,by rw[hin,ha,hb]; rfl⟩
    ·simp -implicitDefEqProofs only[vQ,QN,CP,BD,↓reduceIte,jB,jM,enP,IB,ha,hb,f1,f5,es,ij1,dj1,lec,i0,d0]
     exact⟨by rw[hin,ha,hb]; rfl,trivial⟩
  ·have hc':vs.length≤j+1:=by simp at hc; omega
   simp -implicitDefEqProofs only[vQ,BD,↓reduceIte]
   exact⟨by rw[hin,AL8 _ _ _ hc']; rfl,trivial⟩
 ·have n12:=hops.2.2 e22 e23
  have c1:(op == 22)=false:=beq_eq_false_iff_ne.2 e22
  have c2:(op == 23)=false:=beq_eq_false_iff_ne.2 e23
  have hval:opW op vs=if vs.length=1 then sgW op (vs.getD 0 0) else dbW op (vs.getD 0 0) (vs.getD 1 0):=by unfold opW; rw[if_neg e22,if_neg e23]
  rw[hval]
  simp -implicitDefEqProofs only[vQ,BD,↓reduceIte,jB,enP,IZ,c1,c2]
  refine CU (fun hc => ?_) (fun hc => ?_)
  ·have hl1:vs.length=1:=by simp at hc; omega
   simp -implicitDefEqProofs only[vQ,BD,↓reduceIte,jB,enP,IB,i0,d0]
   refine(AN9 G op _ v0 H).use ?_
   simp -implicitDefEqProofs only[vQ,BD,↓reduceIte]
   exact⟨by rw[if_pos hl1,g0],trivial⟩
  ·have hl1:vs.length≠1:=by simp at hc; omega
   have i1:J3 1 H (.own o 0 vs.length) (.int .i64 1)=some (.ptr o 1 0):=hix 1 (by omega)
   have d1:=hld 1 (by omega)
   have g1:vs.getD 1 0=vs[1]:=by rw[zQ,jS (by omega)]; rfl
   have v1:vs[1] < 65536:=hv _ (jP _)
   simp -implicitDefEqProofs only[vQ]
   refine EY (by kernel_rfl) ?_
   simp -implicitDefEqProofs only[vQ,↓reduceIte,jB,jM,enP,IB,i0,d0,i1,d1]
   refine⟨_,APG G op _ _ v0 v1 H,?_⟩
   exact⟨by rw[if_neg hl1,g0,g1],trivial⟩
def ZK (l:List Sg)(op n:Int)(name:ByteArray)(vs:List Nat):Nat :=
 if op=1 then n.toNat % 65536 else if op=2 then (MV l name).1 else if op=3 then (atG l name (vs.getD 0 0:Nat)).1 else if op=24 then sumTo l name 8 else opW op vs
mutual
def ABA (l:List Sg):Ex→Nat
 | .mk op n name _ args=>ZK l op n name (L6 l args)
def L6 (l:List Sg):List Ex→List Nat
 | [] => []
 | e :: es=>ABA l e :: L6 l es
end
theorem AC8 (l:List Sg)(e:Ex):ABA l e=ZK l e.op e.n e.name (L6 l e.args):=by cases e; simp [ABA,Ex.op,Ex.n,Ex.name,Ex.args]
theorem RG (l:List Sg) : ∀ xs:List Ex,L6 l xs=xs.map (ABA l)
 | []=>by simp [L6]
 | e :: es=>by simp [L6,RG l es]
theorem XG (l:List Sg)(xs:List Ex):(L6 l xs).length=xs.length:=by rw[RG,jH]
theorem ADS (l:List Sg)(xs:List Ex)(j:Nat)(hj:j < xs.length):L6 l (xs.take (j+1))=L6 l (xs.take j)++[ABA l xs[j]]:=by
 rw[RG,RG,List.take_succ_eq_append_getElem hj,List.map_append]; rfl
theorem AQU (l:List Sg)(e:Ex):ABA l e < 65536:=by
 induction e using Ex.induct with | h e ih => ?_
 rw[AC8]
 have hv : ∀ x∈L6 l e.args,x < 65536:=by
  intro x hx
  rw[RG] at hx
  obtain⟨a,ha,rfl⟩:=zL.1 hx
  exact ih a ha
 unfold ZK
 split
 ·exact qQ _ (by omega)
 split
 ·exact AFB _ _
 split
 ·exact APY _ _ _
 split
 ·exact ADX _ _ _
 ·exact A32 _ hv
theorem AKN (l:List Sg)(xs:List Ex) : ∀ x∈L6 l xs,x < 65536:=by
 intro x hx
 rw[RG] at hx
 obtain⟨a,_,rfl⟩:=zL.1 hx
 exact AQU l a
def knE (l:List Sg)(e:Ex):Bool:=if e.op=2 then (MV l e.name).2 else if e.op=3∨e.op=24 then (atG l e.name 0).2 else true
theorem AEK {e:Ex}(h:KX e=0):(e.op=1→0≤e.n∧e.n≤65535)∧(e.op=3→e.args.length=1)∧(e.op≠1→e.op≠2→e.op≠3→e.op≠24→ANT e.op e.args.length):=by
 unfold KX at h
 have hO:badO e=false:=by
  cases hb:badO e
  ·rfl
  ·rw[hb] at h; simp at h
 have hN:AJ6 e=false:=by
  cases hb:AJ6 e
  ·rfl
  ·rw[hO,hb] at h; simp at h
 have hS:AG3 e=false:=by
  cases hb:AG3 e
  ·rfl
  ·rw[hO,hN,hb] at h; simp at h
 have hops:ABJ e.op e.args.length=true:=by
  unfold AG3 at hS
  rw[Bool.or_eq_false_iff] at hS
  simpa using hS.2
 have h1:1≤e.op∧e.op≤25:=by unfold badO at hO; simp at hO; omega
 refine⟨fun h1 => ?_,fun h3 => ?_,fun n1 n2 n3 n24=>⟨fun h22 => ?_,fun h23 => ?_,fun n22 n23 => ?_⟩⟩
 ·unfold AJ6 at hN; simp [h1] at hN; omega
 ·unfold ABJ at hops; rw[h3] at hops; simp [arity] at hops; omega
 ·unfold ABJ at hops; rw[h22] at hops; simp [arity] at hops; omega
 ·unfold ABJ at hops; rw[h23] at hops; simp at hops; omega
 ·unfold ABJ at hops
  rw[if_neg (by simpa using n23)] at hops
  have h5:arity e.op=1∨arity e.op=2:=by
   by_cases hq:e.op=3∨e.op=4∨e.op=5∨e.op=6∨e.op=25
   ·left; unfold arity; rw[if_neg (by omega),if_neg (by omega),if_pos hq]
   ·right; unfold arity; rw[if_neg (by omega),if_neg (by omega),if_neg hq,if_neg n22,if_neg n23]
  have h6:((e.args.length:Nat):Int)=arity e.op:=by simpa using hops
  omega
theorem str_eq {a b:ByteArray}(h:(a.toList == b.toList)=true):a=b:=by
 rw[ByteArray.toList_eq,ByteArray.toList_eq] at h
 exact ByteArray.ext (Array.toList_inj.1 (beq_iff_eq.1 h))
theorem A0F (P:ByteArray→Bool)(ops:List Int)(ns:List ByteArray)(e:Ex):(nmU ops ns e).all P=(ns.all P && (!Rk.hasB ops e.op || P e.name)):=by
 unfold nmU
 cases hb:Rk.hasB ops e.op
 ·simp
 cases hs:JG ns e.name
 ·simp
 ·simp
  intro ha
  unfold JG at hs
  rw[List.any_eq_true] at hs
  obtain⟨u,hu,he⟩:=hs
  rw[str_eq he]; exact ha u hu
theorem AI4 (P:ByteArray→Bool)(ops:List Int) : ∀ (xs:List Ex) (ns:List ByteArray),(nmL ops ns xs).all P=(ns.all P && xs.all fun e => !Rk.hasB ops e.op || P e.name)
 | [],ns=>by simp [nmL]
 | e :: xs,ns=>by
   have:=AI4 P ops xs (nmU ops ns e)
   simp only[nmL,List.foldl_cons,wR] at this ⊢
   rw[this,A0F,Bool.and_assoc]
theorem ATN (l:List Sg)(xs:List Ex):((nmL [2] [] xs).all (fun n=>(MV l n).2) && (nmL [3,24] [] xs).all fun n=>(atG l n 0).2)=xs.all (knE l):=by
 rw[AI4,AI4,Bool.eq_iff_iff]
 simp only[List.all_nil,qF,Bool.and_eq_true,List.all_eq_true]
 constructor
 ·rintro⟨h1,h2⟩ x hx
  have a:=h1 x hx
  have b:=h2 x hx
  unfold knE
  unfold Rk.hasB at a b
  by_cases e2:x.op=2
  ·rw[if_pos e2]; simpa [e2] using a
  by_cases e3:x.op=3∨x.op=24
  ·rw[if_neg e2,if_pos e3]; rcases e3 with e3 | e3 <;> simpa [e3] using b
  ·rw[if_neg e2,if_neg e3]
 ·intro h
  refine⟨fun x hx => ?_,fun x hx => ?_⟩
  ·have a:=h x hx
   unfold knE at a
   unfold Rk.hasB
   by_cases e2:x.op=2
   ·rw[if_pos e2] at a; simp [e2,a]
   ·have : ¬ 2=x.op:=fun q=>e2 q.symm
    simp [this]
  ·have a:=h x hx
   unfold knE at a
   unfold Rk.hasB
   by_cases e3:x.op=3∨x.op=24
   ·have e2 : ¬ x.op=2:=by omega
    rw[if_neg e2,if_pos e3] at a; simp [a]
   ·have e4 : ¬ 3=x.op:=fun q=>e3 (.inl q.symm)
    have e5 : ¬ 24=x.op:=fun q=>e3 (.inr q.symm)
    simp [e4,e5]
theorem ANO {α:Type}(P:α→Bool)(xs:List α)(k:Nat)(hk:k < xs.length):(xs.drop k).all P=(P xs[k] && (xs.drop (k+1)).all P):=by
 rw[zK hk]; rfl
theorem ARL (ops:List Int) : ∀ (xs:List Ex) (ns:List ByteArray) (n:ByteArray),n∈nmL ops ns xs→n∈ns∨∃ x∈xs,n=x.name
 | [],ns,n,h => .inl h
 | e :: xs,ns,n,h=>by
   rcases ARL ops xs (nmU ops ns e) n h with h1 | ⟨x,hx,hn⟩
   ·unfold nmU at h1
    split at h1
    ·rcases List.mem_append.1 h1 with h2 | h2
     ·exact .inl h2
     ·exact .inr ⟨e,by simp,by simpa using h2⟩
    ·exact .inl h1
   ·exact .inr ⟨x,wO _ hx,hn⟩
section
variable (G:Nat→AV)
theorem AOZ (l:List Sg)(m:SM)(e:Ex)(h:Hp)(hl:l.length≤1099511627776)(hw:wt e≤1048576):PCall (En G) 189 [.agg [.sl m 2 (l.map G8)],.agg (DX e)] h (.bool ((pre e).all (knE l))):=by
 refine ACalls.pure0 rfl ?_
 rw[← ATN]
 have hpl:=AIZ e
 have hn1:=ADB [2] (pre e) []
 have hn2:=ADB [3,24] (pre e) []
 have hm2 : ∀ n∈nmL [3,24] [] (pre e),n.size≤1048576:=fun n hn=>by
  rcases ARL _ _ _ n hn with h1 | ⟨x,hx,rfl⟩
  ·cases h1
  ·have:=ALN hx; omega
 have hN:=AQD G e hw
 have hA:=ANZ G e hw
 simp only[List.length_nil,jG] at hn1 hn2
 generalize nmL [2] [] (pre e)=ns at hn1 hN ⊢
 generalize nmL [3,24] [] (pre e)=ars at hn2 hA hm2 ⊢
 refine acN Tryz.func189 rfl ?_
 show awp _ _ _ _ _ (EM _ [.tmp 4] _)
 have gs:=CX (x:=ABlk.live 4 [DX e]) (CZ h (ABlk.live 1 [[.sl m 2 (l.map G8)]]))
 have ge:=CZ (h++[ABlk.live 1 [[.sl m 2 (l.map G8)]]]) (ABlk.live 4 [DX e])
 have hx:ext h (h++[ABlk.live 1 [[.sl m 2 (l.map G8)]]]++[ABlk.live 4 [DX e]]):=((ext.rfl' h).app _).app _
 simp -implicitDefEqProofs only[vQ,BD,↓reduceIte,jB,enP,ANG h (.sl m 2 (l.map G8)) rfl,bxE]
 generalize h++[ABlk.live 1 [[.sl m 2 (l.map G8)]]]++[ABlk.live 4 [DX e]]=H at gs ge hx ⊢
 generalize (h++[ABlk.live 1 [[.sl m 2 (l.map G8)]]]).length=eb at ge ⊢
 simp -implicitDefEqProofs only[vQ,BD,↓reduceIte,NM ge]
 refine(hN H).use ?_
 simp -implicitDefEqProofs only[vQ,BD,↓reduceIte,enP,AL5,jH]
 refine GZ 0 (fun F H'=>F 2 = .ptr h.length 0 0∧F 3 = .ptr eb 0 0∧H'=H∧ns.all (fun n=>(MV l n).2)=true) (fun F H'=>F 4 = .bool false∧H'=H∧ns.all (fun n=>(MV l n).2)=false) ?_ ?_ ?_
 ·refine DL (fun k F H' => ∃ j,k+j=ns.length∧F 2 = .ptr h.length 0 0∧F 3 = .ptr eb 0 0∧F 14 = .sl (nm ns) 1 (ns.map encStr)∧F 15 = .int .i64 (ns.length:Nat)∧F 16 = .int .i64 (j:Nat)∧H'=H∧ns.all (fun n=>(MV l n).2)=(ns.drop j).all fun n=>(MV l n).2) ns.length ⟨0,by simp,by simp -implicitDefEqProofs only[AA,↓reduceIte,jB],by simp -implicitDefEqProofs only[AA,↓reduceIte,jB],by simp -implicitDefEqProofs only[AA,↓reduceIte,jB],by simp -implicitDefEqProofs only[AA,↓reduceIte,jB],by simp -implicitDefEqProofs only[AA,↓reduceIte]; rfl,rfl,rfl⟩ ?_
  rintro k F H' ⟨j,hj,f2,f3,f14,f15,f16,rfl,hall⟩
  simp -implicitDefEqProofs only[vQ,BD,↓reduceIte,enP,f15,f16]
  refine CU (fun hc => ?_) (fun hc => ?_)
  ·have hj':j < ns.length:=by simpa using hc
   rw[ANO _ ns j hj'] at hall
   simp -implicitDefEqProofs only[vQ,BD,↓reduceIte,jB,enP,ATS,f2,f14,f16,DN hj',CY ag9 hj',encStr0,YA gs]
   refine(ABS G l m _ H' hl).use ?_
   unfold TM
   simp -implicitDefEqProofs only[vQ,zB,zD,BD,↓reduceIte,jB]
   cases hk:(MV l ns[j]).2
   ·simp -implicitDefEqProofs only[vQ,BD,↓reduceIte]
    exact⟨trivial,trivial,by rw[hall,hk]; rfl⟩
   ·simp -implicitDefEqProofs only[vQ,BD,↓reduceIte,jB,jU,enP,f2,f3,f14,f15,f16,wrap_succ (show j < 9223372036854775807 by omega)]
    exact⟨k - 1,by omega,j+1,by omega,by trivial,by trivial,by trivial,by trivial,by trivial,trivial,by rw[hall,hk]; rfl⟩
  ·have hj' : ¬ j < ns.length:=by simpa using hc
   simp -implicitDefEqProofs only[vQ,↓reduceIte,jB]
   exact⟨f2,f3,trivial,by rw[hall,jV (by omega)]; rfl⟩
 ·rintro F H' ⟨f2,f3,rfl,hall⟩
  rw[hall,qF]
  simp -implicitDefEqProofs only[vQ,BD,↓reduceIte,enP,f3,NM ge]
  refine(hA H').use ?_
  simp -implicitDefEqProofs only[vQ,BD,↓reduceIte,enP,AL5,jH]
  refine DL (fun k F' H2 => ∃ j,k+j=ars.length∧F' 2 = .ptr h.length 0 0∧F' 30 = .sl (nm ars) 1 (ars.map encStr)∧F' 31 = .int .i64 (ars.length:Nat)∧F' 32 = .int .i64 (j:Nat)∧H2=H'∧ars.all (fun n=>(atG l n 0).2)=(ars.drop j).all fun n=>(atG l n 0).2) ars.length ⟨0,by simp,by simp -implicitDefEqProofs only[AA,↓reduceIte,jB,f2],by simp -implicitDefEqProofs only[AA,↓reduceIte,jB],by simp -implicitDefEqProofs only[AA,↓reduceIte,jB],by simp -implicitDefEqProofs only[AA,↓reduceIte]; rfl,rfl,rfl⟩ ?_
  rintro k F' H2 ⟨j,hj,g2,g30,g31,g32,rfl,hall2⟩
  simp -implicitDefEqProofs only[vQ,BD,↓reduceIte,enP,g31,g32]
  refine CU (fun hc => ?_) (fun hc => ?_)
  ·have hj':j < ars.length:=by simpa using hc
   rw[ANO _ ars j hj'] at hall2
   simp -implicitDefEqProofs only[vQ,BD,↓reduceIte,jB,enP,ATS,g2,g30,g32,DN hj',CY ag9 hj',encStr0,YA gs]
   refine(AJ8 G l m _ 0 H2 hl (hm2 _ (jP hj'))).use ?_
   unfold TM
   simp -implicitDefEqProofs only[vQ,zB,zD,BD,↓reduceIte,jB]
   cases hk:(atG l ars[j] 0).2
   ·simp -implicitDefEqProofs only[vQ,BD,↓reduceIte]
    exact⟨by rw[hall2,hk]; rfl,hx⟩
   ·simp -implicitDefEqProofs only[vQ,BD,↓reduceIte,jB,jU,enP,g2,g30,g31,g32,wrap_succ (show j < 9223372036854775807 by omega)]
    exact⟨k - 1,by omega,j+1,by omega,by first | trivial | exact g2,by first | trivial | exact g30,by first | trivial | exact g31,by trivial,trivial,by rw[hall2,hk]; rfl⟩
  ·have hj' : ¬ j < ars.length:=by simpa using hc
   simp -implicitDefEqProofs only[vQ,BD,↓reduceIte]
   exact⟨by rw[hall2,jV (by omega)]; rfl,hx⟩
 ·rintro F H' ⟨f4,rfl,hall⟩
  simp -implicitDefEqProofs only[vQ,f4]
  exact⟨by rw[hall]; rfl,hx⟩
theorem encN0 (n:Nat):(JI n)[0]? = some (.int .i64 (n:Int)):=rfl
theorem AKL (l:List Sg)(m:SM)(hl:l.length≤1099511627776)(e:Ex):wt e≤1048576→(∀ x∈pre e,KX x=0)→∀ h:Hp,PCall (En G) 190 [.agg [.sl m 2 (l.map G8)],.agg (DX e)] h (.int .i64 (ABA l e:Nat)):=by
 induction e using Ex.induct with | h e ih => ?_
 intro hw hval h
 have hal:e.args.length≤1048576:=by have:=VA e.args; have:=NF e; omega
 have hnz:e.name.size≤1048576:=by have:=NF e; omega
 obtain⟨o1,o3,oo⟩:=AEK (hval e (by rw[pre_eq]; simp))
 refine ACalls.pure0 rfl ?_
 refine acN Tryz.func190 rfl ?_
 show awp _ _ _ _ _ (EM _ [.tmp 4] _)
 have gs:=CX (x:=ABlk.live 4 [DX e]) (CZ h (ABlk.live 1 [[.sl m 2 (l.map G8)]]))
 have ge:=CZ (h++[ABlk.live 1 [[.sl m 2 (l.map G8)]]]) (ABlk.live 4 [DX e])
 have hx:ext h (h++[ABlk.live 1 [[.sl m 2 (l.map G8)]]]++[ABlk.live 4 [DX e]]):=((ext.rfl' h).app _).app _
 simp -implicitDefEqProofs only[vQ,BD,↓reduceIte,jB,enP,OA,ANG h (.sl m 2 (l.map G8)) rfl,bxE]
 generalize h++[ABlk.live 1 [[.sl m 2 (l.map G8)]]]++[ABlk.live 4 [DX e]]=H1 at gs ge hx ⊢
 generalize (h++[ABlk.live 1 [[.sl m 2 (l.map G8)]]]).length=eb at ge ⊢
 have l3:D8 Tryz.prog H1 46 (.ptr eb 0 3)=some (.sl e.m 4 (e.args.map DX)):=by rw[DY VT ge (row:=DX e) rfl,AAO]
 simp -implicitDefEqProofs only[vQ,BD,↓reduceIte,enP,WS,l3,jH]
 refine GZ 0 (fun F H => ∃ v,F 2 = .ptr h.length 0 0∧F 3 = .ptr eb 0 0∧F 5=v∧ext H1 H∧outG 1 JI H1 (L6 l e.args) v H) (fun _ _=>False) ?_ ?_ (fun _ _ hh=>hh.elim)
 ·refine DL (fun k F H => ∃ j v,k+j=e.args.length∧F 2 = .ptr h.length 0 0∧F 3 = .ptr eb 0 0∧F 5=v∧F 13 = .sl e.m 4 (e.args.map DX)∧F 14 = .int .i64 (e.args.length:Nat)∧F 15 = .int .i64 (j:Nat)∧ext H1 H∧outG 1 JI H1 (L6 l (e.args.take j)) v H) e.args.length
   ⟨0,.sl .nil 0 [],by simp,by simp -implicitDefEqProofs only[AA,↓reduceIte,jB],by simp -implicitDefEqProofs only[AA,↓reduceIte,jB],by simp -implicitDefEqProofs only[AA,↓reduceIte,jB],by simp -implicitDefEqProofs only[AA,↓reduceIte,jB],by simp -implicitDefEqProofs only[AA,↓reduceIte,jB],by simp -implicitDefEqProofs only[AA,↓reduceIte]; rfl,ext.rfl' H1,outG.nil _ _ _ _⟩ ?_
  rintro k F H ⟨j,v,hj,f2,f3,f5,f13,f14,f15,hxH,ho⟩
  simp -implicitDefEqProofs only[vQ,BD,↓reduceIte,enP,f14,f15]
  refine CU (fun hc => ?_) (fun hc => ?_)
  ·have hj':j < e.args.length:=by simpa using hc
   have hmem:e.args[j]∈e.args:=jP hj'
   have ho1:=ho.app [ABlk.live 4 [DX e.args[j]]]
   have hx1:=hxH.app [ABlk.live 4 [DX e.args[j]]]
   have htl:(L6 l (e.args.take j)).length < 8388608:=by rw[XG]; simp; omega
   obtain⟨v',H',ha,ho',_,hx',_,_⟩:=ho1.append (P:=Tryz.prog) VF sz3 YL XC (by omega) htl hx1 (ABA l e.args[j])
   have ha':GM Tryz.prog true (H++[ABlk.live 4 [DX e.args[j]]]) 26 26 v (.sl .full 1 [[.int .i64 ((ABA l e.args[j]:Nat):Int)]])=some (v',H'):=ha
   simp -implicitDefEqProofs only[vQ,BD,↓reduceIte,jB,enP,AAC,jT,f13,f15,DN hj',FU X4 N7 JE hj',AC4,AKT _ _ [.int .i64 0,.int .i64 0,.str ⟨#[]⟩,.sl .nil 0 []] rfl,f2,f5,YA (FD hx1 gs),ldE]
   refine(ih e.args[j] hmem (by have:=U9 hmem; have:=NF e; omega) (fun x hx=>hval x (by rw[pre_eq]; exact wO _ (XJ hmem x hx))) _).use ?_
   simp -implicitDefEqProofs only[vQ,BD,↓reduceIte,jB,enP,f5,AG2,ha',f2,f3,f13,f14,f15,wrap_succ (show j < 9223372036854775807 by omega)]
   exact⟨k - 1,by omega,j+1,v',by omega,by trivial,by trivial,by trivial,by trivial,by trivial,by trivial,hx',by rw[ADS _ _ _ hj']; exact ho'⟩
  ·have hj' : ¬ j < e.args.length:=by simpa using hc
   rw[jW (by omega)] at ho
   simp -implicitDefEqProofs only[vQ,↓reduceIte,jB]
   exact⟨v,f2,f3,f5,hxH,ho⟩
 ·rintro F H ⟨v,f2,f3,f5,hxH,ho⟩
  have gsH:=FD hxH gs
  have geH:=FD hxH ge
  have hxx:=hx.trans hxH
  have l0:D8 Tryz.prog H 3 (.ptr eb 0 0)=some (.int .i64 e.op):=by rw[DY ag3 geH (row:=DX e) rfl,KR]
  have l1:D8 Tryz.prog H 3 (.ptr eb 0 1)=some (.int .i64 e.n):=by rw[DY ag3 geH (row:=DX e) rfl,AAP]
  have l2:D8 Tryz.prog H 9 (.ptr eb 0 2)=some (.str e.name):=by rw[DY ag9 geH (row:=DX e) rfl,QT]
  have hvl:=XG l e.args
  rw[AC8]
  simp -implicitDefEqProofs only[vQ,BD,↓reduceIte,enP,I7,f3,l0]
  by_cases e1:e.op=1
  ·have c1:(e.op == 1)=true:=by simpa using e1
   simp -implicitDefEqProofs only[vQ,BD,↓reduceIte,jB,enP,ABT,c1,f3,l1]
   have:=o1 e1
   exact⟨by unfold ZK; rw[if_pos e1]; congr 1; omega,hxx⟩
  have c1:(e.op == 1)=false:=by simpa using e1
  by_cases e2:e.op=2
  ·have c2:(e.op == 2)=true:=by simpa using e2
   simp -implicitDefEqProofs only[vQ,BD,↓reduceIte,jB,enP,MF,c1,c2,f2,f3,l2,YA gsH]
   refine(ABS G l m _ H hl).use ?_
   unfold TM
   simp -implicitDefEqProofs only[vQ,zB,zD,BD,↓reduceIte,jB]
   exact⟨by unfold ZK; rw[if_neg e1,if_pos e2],hxx⟩
  have c2:(e.op == 2)=false:=by simpa using e2
  by_cases e3:e.op=3
  ·have c3:(e.op == 3)=true:=by simpa using e3
   have hl1:=o3 e3
   obtain⟨o,rfl,hob⟩ : ∃ o,v = .own o 0 1∧H[o]? = some (.live 1 ((L6 l e.args).map JI)):=by
    rcases ho with⟨h0,_⟩ | ⟨_,o,_,rfl,hb⟩
    ·rw[h0] at hvl; simp at hvl; omega
    ·exact⟨o,by rw[hvl,hl1],hb⟩
   have hlen:0 < (L6 l e.args).length:=by omega
   have i0:J3 1 H (.own o 0 1) (.int .i64 0)=some (.ptr o 0 0):=JR (n:=0) hob (by decide)
   have d0:D8 Tryz.prog H 3 (.ptr o 0 0)=some (.int .i64 ((L6 l e.args).getD 0 0:Nat)):=by
    rw[DY ag3 hob (row:=JI (L6 l e.args)[0]) (row_map hlen),zQ,jS hlen]; rfl
   simp -implicitDefEqProofs only[vQ,BD,↓reduceIte,jB,enP,c1,c2,c3]
   refine EY (by kernel_rfl) ?_
   simp -implicitDefEqProofs only[vQ,KP,↓reduceIte,jB,jM,enP,IB,MF,f2,f3,f5,l2,YA gsH,i0,d0]
   refine⟨_,AJ8 G l m _ _ H hl hnz,?_⟩
   unfold TM
   simp -implicitDefEqProofs only[vQ,zB,zD,KP,BD,↓reduceIte,jB,jM]
   exact⟨by unfold ZK; rw[if_neg e1,if_neg e2,if_pos e3],hxx⟩
  have c3:(e.op == 3)=false:=by simpa using e3
  by_cases e24:e.op=24
  ·have c24:(e.op == 24)=true:=by simpa using e24
   simp -implicitDefEqProofs only[vQ,BD,↓reduceIte,jB,enP,MF,c1,c2,c3,c24,f2,f3,l2,YA gsH]
   refine(AVM G l m _ H hl hnz).use ?_
   simp -implicitDefEqProofs only[vQ,BD,↓reduceIte]
   exact⟨by unfold ZK; rw[if_neg e1,if_neg e2,if_neg e3,if_pos e24],hxx⟩
  have c24:(e.op == 24)=false:=by simpa using e24
  have hok:=oo e1 e2 e3 e24
  have hok':ANT e.op (L6 l e.args).length:=by rw[hvl]; exact hok
  obtain⟨o,rfl,hob⟩ : ∃ o,v = .own o 0 (L6 l e.args).length∧H[o]? = some (.live 1 ((L6 l e.args).map JI)):=by
   rcases ho with⟨h0,_⟩ | ⟨_,o,_,rfl,hb⟩
   ·exfalso
    rw[h0] at hok'
    obtain⟨a,b,c⟩:=hok'
    by_cases q:e.op=22
    ·have:=a q; simp at this
    by_cases q':e.op=23
    ·have:=b q'; simp at this
    ·have:=c q q'; simp at this
   ·exact⟨o,rfl,hb⟩
  simp -implicitDefEqProofs only[vQ,BD,↓reduceIte,jB,enP,I7,c1,c2,c3,c24,f3,l0,f5]
  refine(ATD G e.op _ o H hob (AKN l _) (by omega) hok').use ?_
  simp -implicitDefEqProofs only[vQ,BD,↓reduceIte]
  exact⟨by unfold ZK; rw[if_neg e1,if_neg e2,if_neg e3,if_neg e24],hxx⟩
end
theorem AXP {xs:List Ex}(h:errs xs=0) : ∀ x∈xs,KX x=0:=by
 induction xs with
 | nil=>intro x hx; cases hx
 | cons y ys ih =>
   have h1:ys.foldl (fun z e=>if z=0 then KX e else z) (KX y)=0:=h
   have hy:KX y=0:=by
    rcases Classical.em (KX y=0) with q | q
    ·exact q
    ·rw[AJV _ _ q] at h1; exact h1
   rw[hy] at h1
   intro x hx
   rcases qJ.1 hx with rfl | hx
   ·exact hy
   ·exact ih h1 x hx
theorem AH3 {e:Ex}(h:exE e=0) : ∀ x∈pre e,KX x=0:=by
 unfold exE at h
 split at h
 ·cases h
 ·exact AXP h
def evE (l:List Sg)(e:Ex):Nat × Int:=if exE e≠0 then (0,1) else if(pre e).all (knE l)=true then (ABA l e,0) else (0,7)
def evV (p:Nat × Int):AV := .tup [.int .i64 (p.1:Nat),.int .i64 p.2]
theorem AJU (p:Nat × Int)(n:Nat)(H:Hp):IL n H 2 (evV p)=evV p:=rfl
theorem A71 (h:Hp):KN Tryz.prog h 205=some (.ptr h.length 0 0,h++[.live 1 [[.sl .nil 0 []]]]):=KD (row := [.sl .nil 0 []]) (by kernel_rfl)
theorem A7S (s:SM)(k:Nat)(xs:List (List AV)):LM Tryz.prog 205 [(0,.sl s k xs)]=some (.agg [.sl s k xs]):=by kernel_rfl
theorem A5I (h:Hp)(s:SM)(k:Nat)(xs:List (List AV)):FP Tryz.prog (h++[.live 1 [[.sl .nil 0 []]]]) 205 (.ptr h.length 0 0) (.agg [.sl s k xs])=some (h++[.live 1 [[.sl s k xs]]]):=by
 rw[MK (cs := [.sl s k xs]) (row := [.sl .nil 0 []]) rfl A2I (CZ _ _) (by exact jL 1),TJ]
 rfl
section
variable (G:Nat→AV)
theorem AU2 (hG:GOk G)(l:List Sg)(m:SM)(e:Ex)(h:Hp)(hl:l.length≤1099511627776)(hw:wt e≤1048576):PCall (En G) 156 [.agg (DX e),.sl m 2 (l.map G8)] h (evV (evE l e)):=by
 refine X8 2 (AJU _) ?_
 refine acN Tryz.func156 rfl ?_
 show awp _ _ _ _ _ (EM _ [.tmp 4,.tmp 5] _)
 have ge:=CX (x:=ABlk.live 1 [[.sl m 2 (l.map G8)]]) (CZ h (ABlk.live 4 [DX e]))
 have gs:=CZ (h++[ABlk.live 4 [DX e]]) (ABlk.live 1 [[.sl m 2 (l.map G8)]])
 have hx:ext h (h++[ABlk.live 4 [DX e]]++[ABlk.live 1 [[.sl m 2 (l.map G8)]]]):=((ext.rfl' h).app _).app _
 simp -implicitDefEqProofs only[vQ,BD,↓reduceIte,jB,enP,jT,bxE,A7S,A71,A5I]
 generalize h++[ABlk.live 4 [DX e]]++[ABlk.live 1 [[.sl m 2 (l.map G8)]]]=H at ge gs hx ⊢
 generalize (h++[ABlk.live 4 [DX e]]).length=sb at gs ⊢
 simp -implicitDefEqProofs only[vQ,BD,↓reduceIte,NM ge]
 refine(AAM G hG e H hw).use ?_
 simp -implicitDefEqProofs only[vQ,BD,↓reduceIte,enP]
 cases hv:(exE e == 0)
 ·have hne:exE e≠0:=by simpa using hv
  simp -implicitDefEqProofs only[vQ,BD,↓reduceIte,jB,bne,hv]
  exact⟨by unfold evE; rw[if_pos hne]; rfl,hx⟩
 have h0:exE e=0:=by simpa using hv
 simp -implicitDefEqProofs only[vQ,BD,↓reduceIte,jB,jU,enP,bne,hv,NM ge,YA gs]
 refine(AOZ G l m e H hl hw).use ?_
 simp -implicitDefEqProofs only[vQ,BD,↓reduceIte]
 cases hk:(pre e).all (knE l)
 ·simp -implicitDefEqProofs only[vQ,BD,↓reduceIte,jB]
  exact⟨by unfold evE; rw[if_neg (by simpa using h0),if_neg (by rw[hk]; decide)]; rfl,hx⟩
 simp -implicitDefEqProofs only[vQ,BD,↓reduceIte,jB,jU,enP,NM ge,YA gs]
 refine(AKL G l m hl e hw (AH3 h0) H).use ?_
 simp -implicitDefEqProofs only[vQ,BD,↓reduceIte,jB]
 exact⟨by unfold evE; rw[if_neg (by simpa using h0),if_pos hk]; rfl,hx⟩
theorem AYT (op:Int)(h:Hp):PCall (En G) 169 [.int .i64 op] h (.bool ((op == 1) || LX op)):=by
 refine acN Tryz.func169 rfl ?_
 show awp _ _ _ _ _ (EM _ [.tmp 2] _)
 simp -implicitDefEqProofs only[vQ,CP,BD,↓reduceIte,jB,enP]
 cases ha:(op == 1)
 ·simp -implicitDefEqProofs only[vQ,Bool.false_or,CP,BD,↓reduceIte,jB,ha]
  refine(XL G op h).use ?_
  simp -implicitDefEqProofs only[vQ,BD,↓reduceIte,jB]
  exact⟨by trivial,trivial⟩
 ·simp -implicitDefEqProofs only[vQ,Bool.true_or,CP,BD,EW,↓reduceIte,jB,ha]
  exact⟨by trivial,trivial⟩
def lfE (l:List Sg)(e:Ex)(vs:List Nat):Nat × Int:=if knE l e=true then (ZK l e.op e.n e.name vs,0) else (0,7)
theorem AWS (l:List Sg)(m:SM)(e:Ex)(vs:List Nat)(v:AV)(h0 h:Hp)(hl:l.length≤1099511627776)(hok : ∀ s∈l,XF s)(hnz:e.name.size≤1048576)(hnode:KX e=0)(hask:e.op=1∨e.op=2∨e.op=3∨e.op=24)(hvs:vs.length=e.args.length)(ho:outG 1 JI h0 vs v h) :
  PCall (En G) 170 [.agg (DX e),.sl m 2 (l.map G8),v] h (evV (lfE l e vs)):=by
 refine X8 2 (AJU _) ?_
 obtain⟨o1,o3,_⟩:=AEK hnode
 refine acN Tryz.func170 rfl ?_
 show awp _ _ _ _ _ (EM _ [.tmp 6,.tmp 7] _)
 have ge:=CZ h (ABlk.live 4 [DX e])
 have hx:ext h (h++[ABlk.live 4 [DX e]]):=(ext.rfl' h).app _
 have ho1:=ho.app [ABlk.live 4 [DX e]]
 simp -implicitDefEqProofs only[vQ,BD,↓reduceIte,jB,enP,I7,bxE]
 generalize h++[ABlk.live 4 [DX e]]=H at ge hx ho1 ⊢
 have l0:D8 Tryz.prog H 3 (.ptr h.length 0 0)=some (.int .i64 e.op):=by rw[DY ag3 ge (row:=DX e) rfl,KR]
 have l1:D8 Tryz.prog H 3 (.ptr h.length 0 1)=some (.int .i64 e.n):=by rw[DY ag3 ge (row:=DX e) rfl,AAP]
 have l2:D8 Tryz.prog H 9 (.ptr h.length 0 2)=some (.str e.name):=by rw[DY ag9 ge (row:=DX e) rfl,QT]
 simp -implicitDefEqProofs only[vQ,BD,↓reduceIte,enP,l0]
 by_cases e1:e.op=1
 ·have c1:(e.op == 1)=true:=by simpa using e1
  have hk:knE l e=true:=by unfold knE; rw[if_neg (by omega),if_neg (by omega)]
  have:=o1 e1
  simp -implicitDefEqProofs only[vQ,BD,↓reduceIte,jB,enP,ABT,c1,l1]
  refine⟨?_,hx⟩
  unfold lfE ZK evV
  rw[if_pos hk,if_pos e1]
  congr 3; show e.n=((e.n.toNat % 65536:Nat):Int); omega
 have c1:(e.op == 1)=false:=by simpa using e1
 by_cases e2:e.op=2
 ·have c2:(e.op == 2)=true:=by simpa using e2
  have hkn:knE l e=(MV l e.name).2:=by unfold knE; rw[if_pos e2]
  simp -implicitDefEqProofs only[vQ,BD,↓reduceIte,jB,enP,I7,MF,c1,c2,l0,l2]
  refine(AE9 G l m _ H hl hok).use ?_
  unfold TM
  simp -implicitDefEqProofs only[vQ,zB,zD,BD,↓reduceIte,jB]
  cases hk:(MV l e.name).2
  ·simp -implicitDefEqProofs only[vQ,BD,↓reduceIte,jB]
   exact⟨by unfold lfE; rw[if_neg (by rw[hkn,hk]; decide)]; rfl,hx⟩
  ·simp -implicitDefEqProofs only[vQ,BD,↓reduceIte,jB,jU]
   exact⟨by unfold lfE ZK; rw[if_pos (by rw[hkn,hk]),if_neg e1,if_pos e2]; rfl,hx⟩
 have c2:(e.op == 2)=false:=by simpa using e2
 have hkn:knE l e=(MV l (elN e.name 0)).2:=by
  unfold knE
  rw[if_neg e2,if_pos (by omega)]
  unfold atG
  rw[if_neg (by omega)]; rfl
 simp -implicitDefEqProofs only[vQ,BD,↓reduceIte,jB,enP,I7,MF,c1,c2,l0,l2]
 refine(ACW G e.name 0 (by omega) H hnz).use ?_
 simp -implicitDefEqProofs only[vQ,BD,↓reduceIte,jB]
 refine(AE9 G l m _ H hl hok).use ?_
 unfold TM
 simp -implicitDefEqProofs only[vQ,zB,zD,BD,↓reduceIte,jB]
 cases hk:(MV l (elN e.name 0)).2
 ·simp -implicitDefEqProofs only[vQ,BD,↓reduceIte,jB]
  exact⟨by unfold lfE; rw[if_neg (by rw[hkn,hk]; decide)]; rfl,hx⟩
 have hk':knE l e=true:=by rw[hkn,hk]
 by_cases e3:e.op=3
 ·have c3:(e.op == 3)=true:=by simpa using e3
  have hl1:vs.length=1:=by rw[hvs,o3 e3]
  obtain⟨o,rfl,hob⟩ : ∃ o,v = .own o 0 1∧H[o]? = some (.live 1 (vs.map JI)):=by
   rcases ho1 with⟨h0,_⟩ | ⟨_,o,_,rfl,hb⟩
   ·rw[h0] at hl1; simp at hl1
   ·exact⟨o,by rw[hl1],hb⟩
  have hlen:0 < vs.length:=by omega
  have i0:J3 1 H (.own o 0 1) (.int .i64 0)=some (.ptr o 0 0):=JR (n:=0) hob (by decide)
  have d0:D8 Tryz.prog H 3 (.ptr o 0 0)=some (.int .i64 (vs.getD 0 0:Nat)):=by
   rw[DY ag3 hob (row:=JI vs[0]) (row_map hlen),zQ,jS hlen]; rfl
  simp -implicitDefEqProofs only[vQ,BD,↓reduceIte,jB,jU,enP,I7,l0,c3]
  refine EY (by kernel_rfl) ?_
  simp -implicitDefEqProofs only[vQ,↓reduceIte,jB,jM,enP,IB,MF,l2,i0,d0]
  refine⟨_,ACO G l m _ _ H hl hok hnz,?_⟩
  try simp -implicitDefEqProofs only[]
  exact⟨by unfold lfE ZK; rw[if_pos hk',if_neg e1,if_neg e2,if_pos e3]; rfl,hx⟩
 have c3:(e.op == 3)=false:=by simpa using e3
 have e24:e.op=24:=by omega
 simp -implicitDefEqProofs only[vQ,BD,↓reduceIte,jB,jU,enP,I7,l0,c3]
 refine DL (fun k F H' => ∃ j,k+j=8∧F 1 = .sl m 2 (l.map G8)∧F 3 = .ptr h.length 0 0∧F 12 = .int .i64 (sumTo l e.name j:Nat)∧F 13 = .int .i64 (j:Nat)∧H'=H) 8 ⟨0,by simp,by simp -implicitDefEqProofs only[vQ,↓reduceIte,jB],by simp -implicitDefEqProofs only[AA,↓reduceIte,jB],by simp -implicitDefEqProofs only[AA,↓reduceIte,jB] <;> rfl,by simp -implicitDefEqProofs only[AA,↓reduceIte] <;> rfl,rfl⟩ ?_
 rintro k F H' ⟨j,hj,f1,f3,f12,f13,rfl⟩
 simp -implicitDefEqProofs only[vQ,BD,↓reduceIte,enP,f13]
 refine CU (fun hc => ?_) (fun hc => ?_)
 ·have hj':j < 8:=by simp at hc; omega
  simp -implicitDefEqProofs only[vQ,BD,↓reduceIte,jB,enP,MF,f1,f3,f12,f13,l2]
  refine(ACO G l m _ _ H' hl hok hnz).use ?_
  simp -implicitDefEqProofs only[vQ,BD,↓reduceIte,jB]
  refine(A28 G _ _ (ADX l _ j) (APY l _ (j:Nat)) H').use ?_
  simp -implicitDefEqProofs only[vQ,BD,↓reduceIte,jB,enP,f1,f3,f12,f13,wrap_succ (show j < 9223372036854775807 by omega)]
  exact⟨k - 1,by omega,j+1,by omega,by trivial,by trivial,by trivial,by trivial,trivial⟩
 ·have hj':j=8:=by simp at hc; omega
  subst hj'
  simp -implicitDefEqProofs only[vQ,BD,↓reduceIte,jB,f12]
  exact⟨by unfold lfE ZK; rw[if_pos hk',if_neg e1,if_neg e2,if_neg e3,if_pos e24]; rfl,hx⟩
def vlE (l:List Sg)(e:Ex):Nat × Int:=if(pre e).all (knE l)=true then (ABA l e,0) else (0,7)
theorem ALM : ∀ xs:List Ex,xs.length≤(J4 xs).length
 | []=>by simp [J4]
 | x :: xs=>by
   have:=ALM xs
   simp only[J4,qA,zX,pre_eq x]; omega
theorem ACE {a:Ex} : ∀ {xs:List Ex},a∈xs→(pre a).length≤(J4 xs).length
 | x :: xs,h=>by
   simp only[J4,qA]
   rcases qJ.1 h with rfl | h
   ·omega
   ·have:=ACE h; omega
theorem ARA (l:List Sg)(e:Ex):(pre e).all (knE l)=(knE l e && (J4 e.args).all (knE l)):=by rw[pre_eq]; rfl
set_option maxHeartbeats 1000000 in
theorem ASQ (l:List Sg)(m:SM)(hl:l.length≤1099511627776)(hok : ∀ s∈l,XF s)(e:Ex):(pre e).length≤1048576→(∀ x∈pre e,x.name.size≤1048576)→(∀ x∈pre e,KX x=0)→∀ h:Hp,PCall (En G) 128 [.agg (DX e),.sl m 2 (l.map G8)] h (evV (vlE l e)):=by
 induction e using Ex.induct with | h e ih => ?_
 intro hw hnm hval h
 have hpl:=congrArg List.length (pre_eq e)
 rw[zX] at hpl
 have hal:e.args.length≤1048576:=by have:=ALM e.args; omega
 have hnode:=hval e (by rw[pre_eq]; simp)
 obtain⟨o1,o3,oo⟩:=AEK hnode
 refine X8 2 (AJU _) ?_
 refine acN Tryz.func128 rfl ?_
 show awp _ _ _ _ _ (EM _ [.tmp 4,.tmp 5] _)
 have ge:=CZ h (ABlk.live 4 [DX e])
 have hx:ext h (h++[ABlk.live 4 [DX e]]):=(ext.rfl' h).app _
 simp -implicitDefEqProofs only[vQ,BD,enP,bxE]
 generalize h++[ABlk.live 4 [DX e]]=H1 at ge hx ⊢
 generalize h.length=eb at ge ⊢
 refine GZ 0 (fun F H => ∃ v,F 1 = .sl m 2 (l.map G8)∧F 2 = .ptr eb 0 0∧F 6=v∧ext H1 H∧outG 1 JI H1 (L6 l e.args) v H∧(J4 e.args).all (knE l)=true) (fun F H=>F 4 = .int .i64 0∧F 5 = .int .i64 7∧ext H1 H∧(J4 e.args).all (knE l)=false) ?_ ?_ ?_
 ·refine DL (fun k F H => ∃ j v,k+j=e.args.length∧F 1 = .sl m 2 (l.map G8)∧F 2 = .ptr eb 0 0∧F 6=v∧F 7 = .int .i64 (j:Nat)∧ext H1 H∧outG 1 JI H1 (L6 l (e.args.take j)) v H∧(J4 (e.args.take j)).all (knE l)=true) e.args.length
   ⟨0,.sl .nil 0 [],by simp,by simp -implicitDefEqProofs only[vQ,↓reduceIte,jB],by simp -implicitDefEqProofs only[AA,↓reduceIte,jB],by simp -implicitDefEqProofs only[AA,↓reduceIte,jB],by simp -implicitDefEqProofs only[AA,↓reduceIte] <;> rfl,ext.rfl' H1,outG.nil _ _ _ _,rfl⟩ ?_
  rintro k F H ⟨j,v,hj,f1,f2,f6,f7,hxH,ho,hkn⟩
  have geH:=FD hxH ge
  have l3:D8 Tryz.prog H 46 (.ptr eb 0 3)=some (.sl e.m 4 (e.args.map DX)):=by rw[DY VT geH (row:=DX e) rfl,AAO]
  simp -implicitDefEqProofs only[vQ,BD,↓reduceIte,jB,enP,WS,OA,f2,f7,l3,jH]
  refine CU (fun hc => ?_) (fun hc => ?_)
  ·have hj':j < e.args.length:=by simpa using hc
   have hmem:e.args[j]∈e.args:=jP hj'
   have htl:(L6 l (e.args.take j)).length < 8388608:=by rw[XG]; simp; omega
   have hsplit:J4 e.args=J4 (e.args.take j)++(pre e.args[j]++J4 (e.args.drop (j+1))):=by
    rw[← List.append_assoc,← OY _ _ hj',← QH,List.take_append_drop]
   obtain⟨v',H',ha,ho',_,hx',_,_⟩:=ho.append (P:=Tryz.prog) VF sz3 YL XC (by omega) htl hxH (ABA l e.args[j])
   have ha':GM Tryz.prog true H 26 26 v (.sl .full 1 [[.int .i64 ((ABA l e.args[j]:Nat):Int)]])=some (v',H'):=ha
   simp -implicitDefEqProofs only[vQ,BD,↓reduceIte,jB,enP,AAC,OA,f1,f2,f7,l3,DN hj',FU X4 N7 JE hj']
   refine(ih e.args[j] hmem (by have:=ACE hmem; omega) (fun x hx=>hnm x (by rw[pre_eq]; exact wO _ (XJ hmem x hx))) (fun x hx=>hval x (by rw[pre_eq]; exact wO _ (XJ hmem x hx))) _).use ?_
   unfold vlE
   cases hk:(pre e.args[j]).all (knE l)
   ·simp only[Bool.false_eq_true,if_false,evV]
    simp -implicitDefEqProofs only[vQ,zB,zD,BD,↓reduceIte,jB,enP,Int.reduceBNe,zF]
    exact⟨by trivial,by trivial,hxH,by rw[hsplit,List.all_append,List.all_append,hk]; simp⟩
   ·simp only[if_true,evV]
    simp -implicitDefEqProofs only[vQ,zB,zD,BD,↓reduceIte,jB,enP,Int.reduceBNe,zF,bne_self_eq_false,f6,AG2,ha',f1,f2,f7,wrap_succ (show j < 9223372036854775807 by omega)]
    exact⟨k - 1,by omega,j+1,v',by omega,by trivial,by trivial,by trivial,by trivial,hx',by rw[ADS _ _ _ hj']; exact ho',by rw[OY _ _ hj',List.all_append,hkn,hk]; rfl⟩
  ·have hj' : ¬ j < e.args.length:=by simpa using hc
   rw[jW (by omega)] at ho hkn
   simp -implicitDefEqProofs only[vQ,↓reduceIte,jB]
   exact⟨v,f1,f2,f6,hxH,ho,hkn⟩
 ·rintro F H ⟨v,f1,f2,f6,hxH,ho,hkn⟩
  have geH:=FD hxH ge
  have hxx:=hx.trans hxH
  have l0:D8 Tryz.prog H 3 (.ptr eb 0 0)=some (.int .i64 e.op):=by rw[DY ag3 geH (row:=DX e) rfl,KR]
  have hvl:=XG l e.args
  have hpa:(pre e).all (knE l)=knE l e:=by rw[ARA,hkn,Bool.and_true]
  simp -implicitDefEqProofs only[vQ,BD,↓reduceIte,enP,I7,f2,l0]
  refine(AYT G e.op H).use ?_
  simp -implicitDefEqProofs only[vQ,↓reduceIte]
  cases hq:((e.op == 1) || LX e.op)
  ·have hne:e.op≠1∧e.op≠2∧e.op≠3∧e.op≠24:=by
    unfold LX at hq; simp at hq; omega
   obtain⟨e1,e2,e3,e24⟩:=hne
   have hok':ANT e.op (L6 l e.args).length:=by rw[hvl]; exact oo e1 e2 e3 e24
   obtain⟨o,rfl,hob⟩ : ∃ o,v = .own o 0 (L6 l e.args).length∧H[o]? = some (.live 1 ((L6 l e.args).map JI)):=by
    rcases ho with⟨h0,_⟩ | ⟨_,o,_,rfl,hb⟩
    ·exfalso
     rw[h0] at hok'
     obtain⟨a,b,c⟩:=hok'
     by_cases q:e.op=22
     ·have:=a q; simp at this
     by_cases q':e.op=23
     ·have:=b q'; simp at this
     ·have:=c q q'; simp at this
    ·exact⟨o,rfl,hb⟩
   simp -implicitDefEqProofs only[vQ,BD,↓reduceIte,jB,enP,I7,f2,l0,f6]
   refine(AWE G e.op _ o H hob (AKN l _) (by omega) hok').use ?_
   simp -implicitDefEqProofs only[vQ,BD,↓reduceIte,jB]
   have hk:knE l e=true:=by unfold knE; rw[if_neg e2,if_neg (by omega)]
   refine⟨?_,hxx⟩
   unfold vlE
   rw[hpa,if_pos hk,AC8]
   unfold ZK
   rw[if_neg e1,if_neg e2,if_neg e3,if_neg e24]; rfl
  ·have hask:e.op=1∨e.op=2∨e.op=3∨e.op=24:=by
    unfold LX at hq; simp at hq; omega
   simp -implicitDefEqProofs only[vQ,BD,↓reduceIte,jB,enP,f1,f2,f6,NM geH]
   refine(AWS G l m e _ v H1 H hl hok (hnm e (by rw[pre_eq]; simp)) hnode hask hvl ho).use ?_
   have hlf:lfE l e (L6 l e.args)=vlE l e:=by unfold lfE vlE; rw[hpa,AC8]
   rw[hlf]
   unfold evV
   simp -implicitDefEqProofs only[vQ,zB,zD,BD,↓reduceIte,jB]
   exact⟨by trivial,hxx⟩
 ·rintro F H ⟨f4,f5,hxH,hkn⟩
  simp -implicitDefEqProofs only[vQ,f4,f5]
  exact⟨by unfold vlE; rw[ARA,hkn,Bool.and_false]; rfl,hx.trans hxH⟩
theorem AU1 (l:List Sg)(m:SM)(e:Ex)(h:Hp)(hl:l.length≤1099511627776)(hok : ∀ s∈l,XF s)(hw:WN e):PCall (En G) 81 [.agg (DX e),.sl m 2 (l.map G8)] h (evV (evE l e)):=by
 refine X8 2 (AJU _) ?_
 refine acN Tryz.func81 rfl ?_
 show awp _ _ _ _ _ (EM _ [.tmp 4,.tmp 5] _)
 have ge:=CZ h (ABlk.live 4 [DX e])
 have hx:ext h (h++[ABlk.live 4 [DX e]]):=(ext.rfl' h).app _
 simp -implicitDefEqProofs only[vQ,BD,↓reduceIte,jB,enP,bxE]
 generalize h++[ABlk.live 4 [DX e]]=H at ge hx ⊢
 simp -implicitDefEqProofs only[vQ,BD,↓reduceIte,NM ge]
 refine(AAL G e H hw).use ?_
 simp -implicitDefEqProofs only[vQ,BD,↓reduceIte,enP]
 cases hv:(exE e == 0)
 ·have hne:exE e≠0:=by simpa using hv
  simp -implicitDefEqProofs only[vQ,BD,↓reduceIte,jB,bne,hv]
  exact⟨by unfold evE; rw[if_pos hne]; rfl,hx⟩
 have h0:exE e=0:=by simpa using hv
 simp -implicitDefEqProofs only[vQ,BD,↓reduceIte,jB,jU,enP,bne,hv,NM ge]
 have h400:(pre e).length≤1048576:=by
  unfold exE at h0
  split at h0
  ·cases h0
  ·rename_i q; rw[h0] at q; simp at q; omega
 refine(ASQ G l m hl hok e h400 hw.2 (AH3 h0) H).use ?_
 have he:evE l e=vlE l e:=by unfold evE vlE; rw[if_neg (by simpa using h0)]
 rw[he]
 unfold evV
 simp -implicitDefEqProofs only[vQ,zB,zD,BD,↓reduceIte,jB]
 exact⟨by trivial,hx⟩
theorem AY6 (l:List Sg)(m:SM)(e:Ex)(h:Hp)(hl:l.length≤1099511627776)(hok : ∀ s∈l,XF s)(hw:wt e≤1048576):PCall (En G) 81 [.agg (DX e),.sl m 2 (l.map G8)] h (evV (evE l e)):=AU1 G l m e h hl hok (ASI hw)
end
end Go.Proofs.YtfpagfhhhlljjaaGreatDoor.Xe
