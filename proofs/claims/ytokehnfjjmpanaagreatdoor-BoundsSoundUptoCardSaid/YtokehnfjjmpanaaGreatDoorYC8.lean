/- Part 8 of the proof (X2, X5, X6); no condition. -/
import Derived.Test.YtokehnfjjmpanaaGreatDoorYC7
set_option linter.unusedVariables false
set_option linter.unusedSimpArgs false
set_option maxRecDepth 8000
namespace Go.Proofs.YtokehnfjjmpanaaGreatDoor.Xe
open Sm Bins Cov Go.RowKit
open Bool renaming not_false→jC,not_true→jW
open List renaming getElem_mem→jQ,map_cons→jF,map_nil→jD,append_nil→jE,getElem?_set→jY,getElem?_eq_getElem→jU,nil_append→zK,cons_append→zU,length_append→zX
open Nat renaming le_of_ble_eq_true→jH,reduceEqDiff→jB,zero_add→jG
open Option renaming getD_some→jA,getD_none→jJ
theorem AWG:Frz encStr:=fun _ _ _ _=>⟨rfl,rfl⟩
theorem AM9 (G:Nat→AV) (xs:List ByteArray) (b:Nat) (v:ByteArray) (h:Hp) (hb:h[b]? = some (.live 1 (xs.map encStr))) (hl:xs.length≤1099511627776) :
  ∃ k:Int,PCall (En G) 209 [.own b 0 xs.length,.str v] h (.int .i64 k)∧decide (k≥0)=LY xs v:=by
 have key : ∀ r:Int,(∀ i (hi:i < xs.length),(∀ j (hj:j < i),(v.toList == xs[j].toList)=false)→(v.toList == xs[i].toList)=true→r=(i:Int))→(LY xs v=false→r = -1)→PCall (En G) 209 [.own b 0 xs.length,.str v] h (.int .i64 r):=by
  intro r hr hr0
  refine acN Tryz.func209 rfl ?_
  show awp _ _ _ _ _ (EE _ [.tmp 4] _)
  simp -implicitDefEqProofs only [BC,CB,A8,A7,AZ,BA,AC,AQ,AO,BD,AX,AL,AA,AY,AU,BG,BH,BB,E5,AB,BF,↓reduceIte,jB,jA,jC,enX,enP,ZQ]
  refine D7 (fun n F H => ∃ k,n+k=xs.length∧F 0 = .own b 0 xs.length∧F 1 = .str v∧F 7 = .int .i64 (xs.length:Nat)∧F 8 = .int .i64 (k:Nat)∧H=h∧(∀ j (hj:j < xs.length),j < k→(v.toList == xs[j].toList)=false)∧LY xs v=LY (xs.drop k) v) xs.length ⟨0,by simp,by simp -implicitDefEqProofs only [AA,BF,↓reduceIte,jB],by simp -implicitDefEqProofs only [AA,BF,BQ,↓reduceIte,jB],by simp -implicitDefEqProofs only [AA,↓reduceIte,jB],by simp -implicitDefEqProofs only [AA,↓reduceIte]; rfl,rfl,fun j _ hj=>by omega,rfl⟩ ?_
  rintro n F H ⟨k,hk,f0,f1,f7,f8,rfl,hbef,hin⟩
  simp -implicitDefEqProofs only [BC,A8,BJ,A7,AZ,BA,AC,AQ,AO,BD,AX,AL,AA,AY,BU,AB,DF,↓reduceIte,jA,jC,enP,f7,f8]
  refine CV (fun hc => ?_) (fun hc => ?_)
  ·have hk':k < xs.length:=by simpa using hc
   have hs:LY (xs.drop k) v=((v.toList == xs[k].toList) || LY (xs.drop (k+1)) v):=ACV _ xs k hk'
   have l1:DL Tryz.prog H 9 (.ptr b k 0)=some (.str xs[k]):=by rw [DC ag9 hb (row:=encStr xs[k]) (AAS hk')]; rfl
   simp -implicitDefEqProofs only [BC,CB,A8,BR,BJ,A7,AZ,BA,AC,AQ,AO,BD,AX,AL,AA,AY,BH,BB,BP,BU,CQ,AB,KQ,↓reduceIte,jB,jG,jA,jC,enP,AHH,f0,f1,f8,J9 hb hk',l1]
   refine CV (fun hx => ?_) (fun hx => ?_)
   ·simp -implicitDefEqProofs only [BC,A8,BK,A7,CJ,D5,FV,CU,AZ,BA,AC,AQ,AO,BD,AX,AL,AA,AY,BH,BB,↓reduceIte,jB,jA,jC]
    exact ⟨by rw [hr k hk' (fun j hj=>hbef j (by omega) hj) hx],trivial⟩
   ·simp -implicitDefEqProofs only [A8,BR,A7,EK,FI,AZ,BA,AC,AQ,AO,BD,AX,AL,AA,AY,AU,BG,BH,BU,AB,DY,↓reduceIte,jB,jA,jC,enP,f8,wrap_succ (show k < 9223372036854775807 by omega)]
    refine ⟨n - 1,by omega,k+1,by omega,by trivial,by trivial,by trivial,rfl,trivial,fun j hj hjk => ?_,by rw [hin,hs,hx,Bool.false_or]⟩
    rcases Nat.lt_or_ge j k with h1 | h1
    ·exact hbef j hj h1
    ·have:j=k:=by omega
     subst this; exact hx
  ·have hk' : ¬ k < xs.length:=by simpa using hc
   simp -implicitDefEqProofs only [BC,A8,BK,D6,A7,EU,FT,FX,CU,AZ,BA,AC,AQ,AO,BD,AX,AL,AA,AU,BG,BB,↓reduceIte,jA,jC]
   refine ⟨?_,trivial⟩
   rw [hr0 (by rw [hin,List.drop_eq_nil_of_le (by omega)]; rfl)]
 by_cases hh:LY xs v=true
 ·obtain ⟨i,hi⟩ : ∃ i,xs.findIdx? (fun u=>v.toList == u.toList)=some i:=by
   cases he:xs.findIdx? (fun u=>v.toList == u.toList) with
   | some i=>exact ⟨i,rfl⟩
   | none =>
     rw [List.findIdx?_eq_none_iff] at he
     unfold LY at hh
     rw [List.any_eq_true] at hh
     obtain ⟨x,hx,hz⟩:=hh
     rw [he x hx] at hz; cases hz
  obtain ⟨hil,hiz,hbef⟩:=List.findIdx?_eq_some_iff_getElem.1 hi
  refine ⟨(i:Int),key i (fun k hk hb' hx => ?_) (fun h0=>by rw [hh] at h0; cases h0),by rw [hh]; simp⟩
  rcases Nat.lt_trichotomy i k with h1 | h1 | h1
  ·have:=hb' i h1; rw [hiz] at this; cases this
  ·rw [h1]
  ·have:=hbef k h1; rw [hx] at this; simp at this
 ·have hh':LY xs v=false:=by simpa using hh
  refine ⟨-1,key (-1) (fun k hk _ hx => ?_) (fun _=>rfl),by rw [hh']; decide⟩
  unfold LY at hh'
  rw [List.any_eq_false] at hh'
  exact absurd hx (hh' xs[k] (jQ hk))
theorem ANA (G:Nat→AV) (k:Nat) (v:ByteArray) (h:Hp):PCall (En G) 209 [.sl .nil k [],.str v] h (.int .i64 (-1)):=by
 refine acN Tryz.func209 rfl ?_
 show awp _ _ _ _ _ (EE _ [.tmp 4] _)
 simp -implicitDefEqProofs only [BC,CB,A8,A7,AZ,BA,AC,AQ,AO,BD,AX,AL,AA,AY,AU,BG,BH,BB,E5,AB,BF,↓reduceIte,jB,jA,jC,enX,enP,ZQ,List.length_nil]
 refine D7 (fun n F H=>F 7 = .int .i64 0∧F 8 = .int .i64 0∧H=h) 0 ⟨by simp -implicitDefEqProofs only [AA,↓reduceIte,jB] <;> rfl,by simp -implicitDefEqProofs only [AA,↓reduceIte],rfl⟩ ?_
 rintro n F H ⟨f7,f8,rfl⟩
 have hc:((0:Int) < 0)=False:=by simp
 simp -implicitDefEqProofs only [BC,A8,BK,D6,BJ,A7,EU,FT,FX,CU,DX,AZ,BA,AC,AQ,AO,BD,AX,AL,AA,AY,AU,BG,BB,BU,AB,DF,↓reduceIte,jA,jC,decide_false,enP,f7,f8,hc,decide_false]
 exact ⟨by trivial,trivial⟩
theorem AZD (G:Nat→AV) {h0 h:Hp} {ns:List ByteArray} {u:AV} (ho:outG 1 encStr h0 ns u h) (v:ByteArray) (hl:ns.length≤8388608):PCall (En G) 195 [u,.str v] h (.bool (LY ns v)):=by
 have hi : ∃ k:Int,PCall (En G) 209 [u,.str v] h (.int .i64 k)∧decide (k≥0)=LY ns v:=by
  rcases ho with ⟨rfl,rfl⟩ | ⟨_,o,_,rfl,hb⟩
  ·exact ⟨-1,ANA G 0 v h,rfl⟩
  ·exact AM9 G ns o v h hb (by omega)
 obtain ⟨k,hk,hd⟩:=hi
 refine acN Tryz.func195 rfl ?_
 show awp _ _ _ _ _ (EE _ [.tmp 4] _)
 simp -implicitDefEqProofs only [BC,A8,A7,AZ,BA,AC,AQ,AO,BD,AX,AL,AA,AY,AU,BO,BM,BH,BB,BV,BN,BF,BQ,jF,jD,jE,↓reduceIte,jB,jA,jC,enX,enP]
 refine hk.use ?_
 simp -implicitDefEqProofs only [BK,A7,CU,AZ,BA,AC,AQ,AO,BD,AX,AL,AA,AY,AU,BG,BB,BU,AB,FQ,↓reduceIte,jA,jC,enP,hd]
 exact ⟨trivial,trivial⟩
def nmU (ops:List Int) (ns:List ByteArray) (e:Ex):List ByteArray:=if (Rk.hasB ops e.op && !LY ns e.name)=true then ns ++ [e.name] else ns
def nmL (ops:List Int) (ns:List ByteArray) (l:List Ex):List ByteArray:=l.foldl (nmU ops) ns
theorem ALE (ops:List Int) (ns:List ByteArray) (e:Ex):(nmU ops ns e).length≤ns.length+1:=by
 unfold nmU; split <;> simp
theorem AE2 (ops:List Int) : ∀ (l:List Ex) (ns:List ByteArray),(nmL ops ns l).length≤ns.length+l.length
 | [],ns=>by simp [nmL]
 | e :: l,ns=>by
   have h1:=AE2 ops l (nmU ops ns e)
   have h2:=ALE ops ns e
   simp only [nmL,List.foldl_cons,List.length_cons] at h1 ⊢
   omega
theorem ASY (ops:List Int) (ns:List ByteArray) (l r:List Ex):nmL ops ns (l ++ r)=nmL ops (nmL ops ns l) r:=List.foldl_append
structure NSt (h0:Hp) (c:Nat) (ns:List ByteArray) (v:AV) (h:Hp):Prop where
 cell:h[c]? = some (.live 1 [[v]])
 out:outG 1 encStr h0 ns v h
 base:h0.length≤c
 ex:ext h0 h
abbrev Cn (c:Nat) (v:AV) (h:Hp) (v':AV) (h':Hp):Prop:=Ch c v .nilfn h v' .nilfn h'
theorem NSt.ne {h0 h:Hp} {c b k:Nat} {ns:List ByteArray} {v:AV} {row:List AV} (s:NSt h0 c ns v h) (hb:h[b]? = some (.live k [row])) (hr:k≠1∨∀ x,row≠[.str x]) : ¬ isB v b:=by
 intro hi
 rcases s.out with ⟨_,rfl⟩ | ⟨hne,o,_,rfl,ho⟩
 ·exact hi
 ·have e:o=b:=hi
  subst e
  rw [ho] at hb
  injection Option.some.inj hb with e1 e2
  rcases hr with hr | hr
  ·exact hr e1.symm
  ·match ns,e2 with
   | [x],e2=>simp [encStr] at e2; exact hr x e2.symm
theorem NSt.app {h0 h:Hp} {c:Nat} {ns:List ByteArray} {v:AV} (s:NSt h0 c ns v h) (x:Hp):NSt h0 c ns v (h ++ x):=⟨TJ s.cell,s.out.app x,s.base,s.ex.app x⟩
theorem NSt.cne {h0 h:Hp} {c:Nat} {ns:List ByteArray} {v:AV} (s:NSt h0 c ns v h) : ¬ isB v c:=by
 refine s.ne s.cell (.inr fun x e => ?_)
 rcases s.out with ⟨_,rfl⟩ | ⟨_,o,_,rfl,_⟩ <;> simp at e
theorem Cn.keep {c b:Nat} {h h':Hp} {v v':AV} {x:ABlk} (hc:Cn c v h v' h') (hb:h[b]? = some x) (hne:b≠c) (hn : ¬ isB v b):h'[b]? = some x:=by
 rw [hc.get b (CP hb) hne hn (fun e=>e)]; exact hb
theorem AGK (G:Nat→AV) (ops:List Int) (hops:ops.length≤1048576) (h0:Hp) (c ob:Nat) (s0:SM) (e:Ex) (h:Hp) (ns:List ByteArray) (v:AV) (S:NSt h0 c ns v h) (hob:h[ob]? = some (.live 1 [[.sl s0 1 (ops.map qencI)]])) (hn:ns.length < 8388608) :
  ACalls (En G) 193 [.agg (CW e),.ptr ob 0 0,.ptr c 0 0] h fun r h'=>r = .bool true∧∃ v',Cn c v h v' h'∧NSt h0 c (nmU ops ns e) v' h':=by
 refine acN Tryz.func193 rfl ?_
 show awp _ _ _ _ _ (EE _ [.tmp 4] _)
 have S1:=S.app [ABlk.live 4 [CW e]]
 have hob1:(h ++ [ABlk.live 4 [CW e]])[ob]? = _:=CX hob
 have hC1:Cn c v h v (h ++ [ABlk.live 4 [CW e]]):=Ch.app c v .nilfn h _
 have ge:=C9 h (ABlk.live 4 [CW e])
 have hcl:=CP S.cell
 simp -implicitDefEqProofs only [BC,A8,A7,AZ,BA,AC,AQ,AO,BD,AX,AL,AA,AY,AU,BM,BB,FN,BP,BZ,BF,BQ,↓reduceIte,jB,jA,jC,enP,bxE]
 generalize h ++ [ABlk.live 4 [CW e]]=H at S1 hob1 hC1 ge ⊢
 have l0:DL Tryz.prog H 3 (.ptr h.length 0 0)=some (.int .i64 e.op):=by rw [DC ag3 ge (row:=CW e) rfl,JE]
 have l2:DL Tryz.prog H 9 (.ptr h.length 0 2)=some (.str e.name):=by rw [DC ag9 ge (row:=CW e) rfl,O9]
 simp -implicitDefEqProofs only [AZ,AC,AQ,AO,BD,AX,AL,AA,AY,BO,BP,BI,BV,BN,AB,jF,jD,jE,↓reduceIte,jB,Nat.add_zero,jA,jC,enP,GU,IL AXJ hob1,l0]
 refine (Rk.contains_rank G ops s0 e.op H hops).use ?_
 simp -implicitDefEqProofs only [AZ,BL,BX,CG,AC,AQ,AO,BD,AX,AL,AA,AY,BH,↓reduceIte,jA,jC]
 have key : ∀ b1 b2:Bool,Rk.hasB ops e.op=b1→LY ns e.name=b2→(b1 && !b2)=false→nmU ops ns e=ns:=fun b1 b2 e1 e2 e3=>by
  unfold nmU; rw [e1,e2,e3]; simp
 cases hb1:Rk.hasB ops e.op
 ·simp -implicitDefEqProofs only [BC,A8,BR,BK,BJ,A7,CU,DX,AZ,BA,BL,BX,CG,JA,AC,AQ,AO,BD,AX,AL,AA,EG,AY,AU,BM,BB,CO,DU,↓reduceIte,jB,jA,jC]
  exact ⟨trivial,v,hC1,by rw [key _ _ hb1 rfl rfl]; exact S1⟩
 simp -implicitDefEqProofs only [BL,BX,CG,F8,AC,AQ,AO,BD,AX,AL,AA,AY,BO,BP,BI,BV,BN,AB,BF,BQ,jF,jD,jE,↓reduceIte,jB,jG,jA,jC,enP,KO,IL AEH S1.cell,l2]
 refine (AZD G S1.out e.name (by omega)).use ?_
 simp -implicitDefEqProofs only [BJ,A7,AZ,BA,BL,BX,CG,F8,AC,AQ,AO,BD,AX,AL,AA,AY,AU,BM,CO,DK,I5,AB,FO,↓reduceIte,jB,jA,jC]
 cases hb2:LY ns e.name
 ·have hu:nmU ops ns e=ns ++ [e.name]:=by unfold nmU; rw [hb1,hb2]; rfl
  obtain ⟨v',H',ha,ho,hk,hex,hle,hnew⟩:=S1.out.append (P:=Tryz.prog) AON sz9 AN3 AQ1 (by omega) hn S1.ex e.name
  have ha':IQ Tryz.prog true H 120 120 v (.sl .full 1 [[.str e.name]])=some (v',H'):=ha
  have hc':=hk c _ S1.cell S1.cne
  have hcl2:=CP S1.cell
  have hac:I8 v'=some [v']:=by
   rcases ho with ⟨_,rfl⟩ | ⟨_,o,_,rfl,_⟩ <;> rfl
  simp -implicitDefEqProofs only [FB,ES,BC,A8,BK,A7,CU,DR,AZ,BA,AC,AQ,AO,BD,AX,AL,DZ,AA,AY,AU,BM,BB,GM,BP,CZ,BI,NL,BZ,AB,CE,BF,BQ,↓reduceIte,jB,jG,jA,jC,enP,KO,jJ,IL AEH S1.cell,l2,AQ3,ha',SY AOS hac hc']
  refine ⟨trivial,v',hC1.trans ⟨by simpa using hle,fun b hb hbc hbv _ => ?_,fun b hb => .inr (by rw [hnew b hb]; exact Nat.le_refl _),fun b hb=>hb.elim⟩,?_⟩
  ·rw [jY,if_neg (fun e=>hbc e.symm),jU hb]
   exact hk b _ (jU hb) hbv
  ·rw [hu]
   exact ⟨G7 hc',ho.keep fun b hb=>by rw [jY,if_neg (fun e=>by have:=hnew b hb; omega)],S1.base,hex.set S1.base _⟩
 ·simp -implicitDefEqProofs only [BC,A8,BR,BK,A7,CU,DX,AZ,BA,AC,AQ,AO,BD,AX,AL,AA,AU,BM,BB,↓reduceIte,jA,jW,jC]
  exact ⟨trivial,v,hC1,by rw [key _ _ hb1 hb2 rfl]; exact S1⟩
theorem APB (ops:List Int) (ns:List ByteArray) (e:Ex):nmL ops ns (pre e)=nmL ops (nmU ops ns e) (II e.args):=by rw [pre_eq]; rfl
theorem AJ3 (G:Nat→AV) (ops:List Int) (hops:ops.length≤1048576) (h0:Hp) (c ob vb db:Nat) (s0:SM) (hv:vb≠c) (hd:db≠c) (hoc:ob≠c) (e:Ex) :
  wt e≤1099511627776→∀ (h:Hp) (ns:List ByteArray) (v:AV),NSt h0 c ns v h→h[ob]? = some (.live 1 [[.sl s0 1 (ops.map qencI)]])→ns.length+(pre e).length≤8388608 →
   h[vb]? = some (.live 1 [[.fn (.func 193) [] [.ptr ob 0 0,.ptr c 0 0]]])→h[db]? = some (.live 1 [[.fn (.func 130) [] [.ptr vb 0 0,.ptr db 0 0]]]) →
   ACalls (En G) 130 [.agg (CW e),.ptr vb 0 0,.ptr db 0 0] h fun r h'=>r = .bool true∧∃ v',Cn c v h v' h'∧NSt h0 c (nmL ops ns (pre e)) v' h':=by
 induction e using Ex.induct with | h e ih => ?_
 intro hw h ns v S hob hlen hvb hdb
 have hcl:=CP S.cell
 have hal:e.args.length≤1099511627776:=by have:=XC e.args; have:=PQ e; omega
 have hpe:(pre e).length=(II e.args).length+1:=by rw [pre_eq]; rfl
 have hfn : ∀ (k:FuncId) (a b:List AV) (x:ByteArray),[AV.fn (.func k) a b]≠[.str x]:=fun _ _ _ _ q=>by simp at q
 have hsl : ∀ (xs:List (List AV)) (x:ByteArray),[AV.sl s0 1 xs]≠[.str x]:=fun _ _ q=>by simp at q
 refine acN Tryz.func130 rfl ?_
 show awp _ _ _ _ _ (EE _ [.tmp 4] _)
 have S0:=S.app [ABlk.live 4 [CW e]]
 simp -implicitDefEqProofs only [BC,A8,A7,AZ,BA,AC,AQ,AO,BD,AX,AL,AA,AY,AU,BM,BB,FN,BP,BV,BN,BZ,AB,BF,BQ,jF,jD,zK,zU,↓reduceIte,jB,jA,jC,enP,bxE,IL AEI (CX hvb),ldE]
 refine (AGK G ops hops h0 c ob s0 e _ ns v S0 (CX hob) (by omega)).mono ?_
 rintro r h1 ⟨rfl,v1,hch,S1⟩
 have hch0:Cn c v h v1 h1:=(Ch.app c v .nilfn h _).trans hch
 have hb3:h1[h.length]? = some (.live 4 [CW e]):=hch.keep (C9 _ _) (by omega) (S0.ne (C9 _ _) (.inl (by decide)))
 have hvb1:=hch0.keep hvb hv (S.ne hvb (.inr (hfn _ _ _)))
 have hdb1:=hch0.keep hdb hd (S.ne hdb (.inr (hfn _ _ _)))
 have hob1:=hch0.keep hob hoc (S.ne hob (.inr (hsl _)))
 have l3:DL Tryz.prog h1 23 (.ptr h.length 0 3)=some (.sl e.m 4 (e.args.map CW)):=by rw [DC QU hb3 (row:=CW e) rfl,SB]
 have hn1:=ALE ops ns e
 simp -implicitDefEqProofs only [BC,CB,A8,BR,BJ,A7,DX,AZ,BA,AC,AQ,AO,BD,AX,AL,AA,AY,AU,BG,BH,BP,I5,BI,E5,AB,FO,↓reduceIte,jB,jG,jA,jW,jC,enP,TT,JW,l3,List.length_map]
 refine D7 (fun n F H => ∃ j v',n+j=e.args.length∧F 1 = .ptr vb 0 0∧F 2 = .ptr db 0 0∧F 12 = .sl e.m 4 (e.args.map CW)∧F 13 = .int .i64 e.args.length∧F 14 = .int .i64 (j:Nat)∧Cn c v h v' H∧NSt h0 c (nmL ops (nmU ops ns e) (II (e.args.take j))) v' H∧H[vb]? = some (.live 1 [[.fn (.func 193) [] [.ptr ob 0 0,.ptr c 0 0]]])∧H[db]? = some (.live 1 [[.fn (.func 130) [] [.ptr vb 0 0,.ptr db 0 0]]])∧H[ob]? = some (.live 1 [[.sl s0 1 (ops.map qencI)]])) e.args.length
  ⟨0,v1,by simp,by simp -implicitDefEqProofs only [AA,BF,BQ,↓reduceIte,jB],by simp -implicitDefEqProofs only [AA,BF,BQ,↓reduceIte,jB],by simp -implicitDefEqProofs only [AA,↓reduceIte,jB],by simp -implicitDefEqProofs only [AA,↓reduceIte,jB],by simp -implicitDefEqProofs only [AA,↓reduceIte]; rfl,hch0,S1,hvb1,hdb1,hob1⟩ ?_
 rintro n F H ⟨j,v',hj,f1,f2,f12,f13,f14,hC,SH,hvH,hdH,hoH⟩
 simp -implicitDefEqProofs only [BC,A8,BJ,A7,AZ,BA,AC,AQ,AO,BD,AX,AL,AA,AY,BU,AB,DF,↓reduceIte,jA,jC,enP,f13,f14]
 refine CV (fun hlt => ?_) (fun hlt => ?_)
 ·have hj':j < e.args.length:=by simpa using hlt
  have hmem:e.args[j]∈e.args:=jQ hj'
  have hsplit:II e.args=II (e.args.take j) ++ (pre e.args[j] ++ II (e.args.drop (j+1))):=by
   rw [← List.append_assoc,← J6 _ _ hj',← LV,List.take_append_drop]
  have hln:=AE2 ops (II (e.args.take j)) (nmU ops ns e)
  have hls:(II e.args).length=(II (e.args.take j)).length+((pre e.args[j]).length+(II (e.args.drop (j+1))).length):=by rw [hsplit,zX,zX]
  simp -implicitDefEqProofs only [BC,CB,A8,BR,A7,AZ,BA,AC,AQ,AO,BD,AX,AL,DZ,AA,AY,EZ,BP,CZ,CQ,BV,BN,BZ,AB,CE,jF,jD,zK,zU,↓reduceIte,jB,jA,jC,enP,P9,jJ,f12,f14,EF hj',EO MK J4 EN hj',AF1,AGQ _ _ [.int .i64 0,.int .i64 0,.str ⟨#[]⟩,.sl .nil 0 []] rfl,f2,IL AEI (CX hdH),ldE]
  have SH1:=SH.app [ABlk.live 4 [CW e.args[j]]]
  refine (ih e.args[j] hmem (by have:=UX hmem; have:=PQ e; omega) _ _ v' SH1 (CX hoH) (by omega) (CX hvH) (CX hdH)).mono ?_
  rintro r h2 ⟨rfl,v2,hch2,S2⟩
  have hch2':Cn c v' H v2 h2:=(Ch.app c v' .nilfn H _).trans hch2
  have hvH2:=hch2'.keep hvH hv (SH.ne hvH (.inr (hfn _ _ _)))
  have hdH2:=hch2'.keep hdH hd (SH.ne hdH (.inr (hfn _ _ _)))
  have hoH2:=hch2'.keep hoH hoc (SH.ne hoH (.inr (hsl _)))
  simp -implicitDefEqProofs only [A8,BR,BJ,A7,EK,FI,DX,AZ,BA,AC,AQ,AO,BD,AX,AL,AA,AY,AU,BG,BH,BU,I5,AB,DY,FO,↓reduceIte,jB,jA,jW,jC,enP,f1,f2,f12,f13,f14,wrap_succ (show j < 9223372036854775807 by omega)]
  refine ⟨n - 1,by omega,j+1,v2,by omega,trivial,trivial,trivial,trivial,rfl,hC.trans hch2',?_,hvH2,hdH2,hoH2⟩
  rw [J6 _ _ hj',ASY]; exact S2
 ·have hj' : ¬ j < e.args.length:=by simpa using hlt
  simp -implicitDefEqProofs only [BC,A8,BK,D6,A7,EU,FT,FX,CU,AZ,BA,AC,AQ,AO,BD,AX,AL,AA,AU,BM,BB,↓reduceIte,jA,jC]
  rw [List.take_of_length_le (by omega),← APB] at SH
  exact ⟨trivial,v',hC,SH⟩
theorem AIZ (G:Nat→AV) (ops:List Int) (hops:ops.length≤1048576) (h0:Hp) (c ob:Nat) (s0:SM) (hoc:ob≠c) (e:Ex) (hw:wt e≤1048576) (h:Hp) (ns:List ByteArray) (v:AV) (S:NSt h0 c ns v h) (hob:h[ob]? = some (.live 1 [[.sl s0 1 (ops.map qencI)]])) (hn:ns.length≤1048576) :
  ACalls (En G) 87 [.agg (CW e),.fn (.func 193) [] [.ptr ob 0 0,.ptr c 0 0]] h fun _ h' => ∃ v',Cn c v h v' h'∧NSt h0 c (nmL ops ns (pre e)) v' h':=by
 have hcl:=CP S.cell
 have hol:=CP hob
 refine acN Tryz.func87 rfl ?_
 show awp _ _ _ _ _ (EE _ [] _)
 generalize hfv:AV.fn (.func 193) [] [.ptr ob 0 0,.ptr c 0 0]=fv
 have hbx : ∀ H:Hp,PG H fv=some (.ptr H.length 0 0,H ++ [.live 1 [[fv]]]):=fun H=>by rw [← hfv]; rfl
 simp -implicitDefEqProofs only [BC,A8,A7,AZ,BA,AC,AQ,AO,BD,AX,AL,AA,AY,EZ,FN,CZ,JF,BZ,BF,BQ,jF,jD,↓reduceIte,jB,jA,jC,enP,jJ,bxE,hbx,AU8]
 have g0:(h ++ [ABlk.live 4 [CW e]] ++ [ABlk.live 1 [[fv]]] ++ [ABlk.live 1 [[AV.nilfn]]])[(h ++ [ABlk.live 4 [CW e]] ++ [ABlk.live 1 [[fv]]]).length]? = some (.live 1 [[.nilfn]]):=C9 _ _
 simp -implicitDefEqProofs only [A8,A7,AZ,BA,AC,AQ,AO,BD,AX,DZ,AA,AY,BP,CE,↓reduceIte,jB,jA,jC,enP,SY AUO (AVA _ _ _) g0]
 have S3:=((S.app [ABlk.live 4 [CW e]]).app [ABlk.live 1 [[fv]]]).app [ABlk.live 1 [[AV.nilfn]]]
 have c3:Cn c v h v (h ++ [ABlk.live 4 [CW e]] ++ [ABlk.live 1 [[fv]]] ++ [ABlk.live 1 [[AV.nilfn]]]):=((Ch.app c v .nilfn h _).trans (Ch.app _ _ _ _ _)).trans (Ch.app _ _ _ _ _)
 have v3:(h ++ [ABlk.live 4 [CW e]] ++ [ABlk.live 1 [[fv]]] ++ [ABlk.live 1 [[AV.nilfn]]])[(h ++ [ABlk.live 4 [CW e]]).length]? = some (.live 1 [[fv]]):=CX (C9 _ _)
 have e3:(h ++ [ABlk.live 4 [CW e]] ++ [ABlk.live 1 [[fv]]] ++ [ABlk.live 1 [[AV.nilfn]]])[h.length]? = some (.live 4 [CW e]):=CX (CX (C9 _ _))
 have o3:(h ++ [ABlk.live 4 [CW e]] ++ [ABlk.live 1 [[fv]]] ++ [ABlk.live 1 [[AV.nilfn]]])[ob]? = some (.live 1 [[.sl s0 1 (ops.map qencI)]]):=CX (CX (CX hob))
 have hdl:(h ++ [ABlk.live 4 [CW e]] ++ [ABlk.live 1 [[fv]]]).length=h.length+2:=by simp
 have hvl:(h ++ [ABlk.live 4 [CW e]]).length=h.length+1:=by simp
 generalize (h ++ [ABlk.live 4 [CW e]] ++ [ABlk.live 1 [[fv]]]).length=db at g0 hdl ⊢
 generalize (h ++ [ABlk.live 4 [CW e]]).length=vb at v3 hvl ⊢
 generalize h ++ [ABlk.live 4 [CW e]] ++ [ABlk.live 1 [[fv]]] ++ [ABlk.live 1 [[AV.nilfn]]]=H at g0 S3 c3 v3 e3 o3 ⊢
 have hdn : ¬ isB v db:=S3.ne g0 (.inr fun x q=>by simp at q)
 generalize hH:H.set db (.live 1 [[AV.fn (.func 130) [] [.ptr vb 0 0,.ptr db 0 0]]])=H'
 have gd:H'[db]? = some (.live 1 [[.fn (.func 130) [] [.ptr vb 0 0,.ptr db 0 0]]]):=by rw [← hH]; exact G7 g0
 have gv:H'[vb]? = some (.live 1 [[fv]]):=by rw [← hH]; exact LZ v3 (by omega)
 have ge:H'[h.length]? = some (.live 4 [CW e]):=by rw [← hH]; exact LZ e3 (by omega)
 have go:H'[ob]? = some (.live 1 [[.sl s0 1 (ops.map qencI)]]):=by rw [← hH]; exact LZ o3 (by omega)
 have hb0:=S.ex.le
 have S4:NSt h0 c ns v H':=by
  rw [← hH]
  exact ⟨LZ S3.cell (by omega),S3.out.keep fun b hb=>by rw [jY,if_neg (fun q=>hdn (by rw [q]; exact hb))],S3.base,S3.ex.set (by omega) _⟩
 have c4:Cn c v h v H':=by
  rw [← hH]
  exact ⟨by have:=c3.len; simpa using this,fun b hb hbc hbv hbu=>by rw [jY,if_neg (by omega)]; exact c3.get b hb hbc hbv hbu,fun _ q => .inl q,fun _ q => .inl q⟩
 simp -implicitDefEqProofs only [AZ,AC,AQ,AO,BD,AX,AL,AA,AY,BP,BV,BN,AB,jF,jD,zK,zU,↓reduceIte,jB,jA,jC,enP,IL AEI gd,IR ge]
 rw [← hfv] at gv
 have hp:=WF e
 refine (AJ3 G ops hops h0 c ob vb db s0 (by omega) (by omega) hoc e (by omega) H' ns v S4 go (by omega) gv gd).mono ?_
 rintro r h' ⟨rfl,v',hch,S5⟩
 simp -implicitDefEqProofs only [JK,BA,AL]
 exact ⟨v',c4.trans hch,S5⟩
theorem AZ9 (h:Hp):JU Tryz.prog h 120=some (.ptr h.length 0 0,h ++ [.live 1 [[.sl .nil 0 []]]]):=J7 (row := [.sl .nil 0 []]) (by kernel_rfl)
theorem ABM (G:Nat→AV) (ops:List Int) (hops:ops.length≤1048576) (s0:SM) (e:Ex) (hw:wt e≤1048576) (h:Hp):PCall (En G) 161 [.agg (CW e),.sl s0 1 (ops.map qencI)] h (.sl (nm (nmL ops [] (pre e))) 1 ((nmL ops [] (pre e)).map encStr)):=by
 refine U7 AWG ?_
 refine acN Tryz.func161 rfl ?_
 show awp _ _ _ _ _ (EE _ [.tmp 4] _)
 have ge:=CX (x:=ABlk.live 1 [[.sl .nil 0 []]]) (CX (x:=ABlk.live 1 [[AV.sl s0 1 (ops.map qencI)]]) (C9 h (.live 4 [CW e])))
 have go:=CX (x:=ABlk.live 1 [[.sl .nil 0 []]]) (C9 (h ++ [ABlk.live 4 [CW e]]) (ABlk.live 1 [[AV.sl s0 1 (ops.map qencI)]]))
 have gc:=C9 (h ++ [ABlk.live 4 [CW e]] ++ [ABlk.live 1 [[AV.sl s0 1 (ops.map qencI)]]]) (ABlk.live 1 [[.sl .nil 0 []]])
 have hx:ext h (h ++ [ABlk.live 4 [CW e]] ++ [ABlk.live 1 [[AV.sl s0 1 (ops.map qencI)]]] ++ [ABlk.live 1 [[.sl .nil 0 []]]]):=(((ext.rfl' h).app _).app _).app _
 have hol:(h ++ [ABlk.live 4 [CW e]]).length=h.length+1:=by simp
 have hcl:(h ++ [ABlk.live 4 [CW e]] ++ [ABlk.live 1 [[AV.sl s0 1 (ops.map qencI)]]]).length=h.length+2:=by simp
 simp -implicitDefEqProofs only [AKC,BC,A8,A7,AZ,BA,AC,AQ,AO,BD,AX,AL,AA,AY,AU,MC,BB,EZ,FN,BP,BZ,BF,BQ,↓reduceIte,jB,jA,jC,enP,bxE,AZ9]
 generalize h ++ [ABlk.live 4 [CW e]] ++ [ABlk.live 1 [[AV.sl s0 1 (ops.map qencI)]]] ++ [ABlk.live 1 [[.sl .nil 0 []]]]=H at ge go gc hx ⊢
 generalize (h ++ [ABlk.live 4 [CW e]] ++ [ABlk.live 1 [[AV.sl s0 1 (ops.map qencI)]]]).length=c at gc hcl ⊢
 generalize (h ++ [ABlk.live 4 [CW e]]).length=ob at go hol ⊢
 simp -implicitDefEqProofs only [AZ,AC,AQ,AO,BD,AX,AL,AA,AY,BO,JF,BV,BN,AB,jF,jD,jE,↓reduceIte,jB,jA,jC,IR ge]
 have S:NSt h c [] (.sl .nil 0 []) H:=⟨gc,outG.nil _ _ _ _,by omega,hx⟩
 refine (AIZ G ops hops h c ob s0 (by omega) e hw H [] _ S go (by simp)).mono ?_
 rintro r h' ⟨v',hch,S5⟩
 simp -implicitDefEqProofs only [BC,A8,BK,A7,CU,AZ,BA,AC,AQ,AO,BD,AX,AL,AA,AY,BB,BP,AB,↓reduceIte,jB,jA,jC,enP,IL AEH S5.cell]
 exact ⟨S5.ex,S5.out⟩
theorem AZJ (h:Hp) (a b:Int):FU Tryz.prog false h 45 2 [(0,.int .i64 a),(1,.int .i64 b)]=some (.sl .full 1 [[.int .i64 a],[.int .i64 b]],h):=by kernel_rfl
theorem AKP (G:Nat→AV) (e:Ex) (hw:wt e≤1048576) (h:Hp):PCall (En G) 111 [.agg (CW e)] h (.sl (nm (nmL [2] [] (pre e))) 1 ((nmL [2] [] (pre e)).map encStr)):=by
 refine ACalls.pure0 rfl ?_
 refine acN Tryz.func111 rfl ?_
 show awp _ _ _ _ _ (EE _ [.tmp 2] _)
 simp -implicitDefEqProofs only [FB,ES,BC,A8,A7,AZ,BA,AC,AQ,AO,BD,AX,AL,AA,AY,AU,BO,BG,MC,BB,FN,GM,BP,BV,BN,BZ,AB,BF,jF,jD,jE,↓reduceIte,jB,jA,jC,enP,bxE,ldE,AZK]
 refine (ABM G [2] (by decide) .full e hw _).use ?_
 simp -implicitDefEqProofs only [BK,A7,CU,AZ,BA,AC,AQ,AO,BD,AX,AL,AA,AY,BB,↓reduceIte,jA,jC]
 exact ⟨trivial,_,rfl⟩
theorem AIW (G:Nat→AV) (e:Ex) (hw:wt e≤1048576) (h:Hp):PCall (En G) 109 [.agg (CW e)] h (.sl (nm (nmL [3,24] [] (pre e))) 1 ((nmL [3,24] [] (pre e)).map encStr)):=by
 refine ACalls.pure0 rfl ?_
 refine acN Tryz.func109 rfl ?_
 show awp _ _ _ _ _ (EE _ [.tmp 2] _)
 simp -implicitDefEqProofs only [FB,ES,BC,A8,A7,AZ,BA,AC,AQ,AO,BD,AX,AL,AA,AY,AU,BO,BG,MC,BB,FN,GM,BP,BV,BN,BZ,AB,BF,jF,jD,jE,↓reduceIte,jB,jA,jC,enP,bxE,ldE,AZJ]
 refine (ABM G [3,24] (by decide) .full e hw _).use ?_
 simp -implicitDefEqProofs only [BK,A7,CU,AZ,BA,AC,AQ,AO,BD,AX,AL,AA,AY,BB,↓reduceIte,jA,jC]
 exact ⟨trivial,_,rfl⟩
end Go.Proofs.YtokehnfjjmpanaaGreatDoor.Xe
namespace Go.Proofs.YtokehnfjjmpanaaGreatDoor.Xe
open Sm Bins Cov Wd Go.RowKit
open Bool renaming not_false→jC,not_true→jW
open Int renaming reduceBEq→zO
open List renaming length_map→jM,mem_cons→qI,map_cons→jF,map_nil→jD,append_nil→jE,getElem?_cons_zero→jZ,getElem?_cons_succ→zC,length_append→zX,length_cons→qH,mem_cons_of_mem→qN
open Nat renaming le_of_ble_eq_true→jH,reduceEqDiff→jB,add_zero→jI,zero_add→jG
open Option renaming getD_some→jA
def AAA (l:List Sg) (op n:Int) (name:ByteArray) (vs:List Nat):Nat :=
 if op=1 then n.toNat % 65536 else if op=2 then (KP l name).1 else if op=3 then (atG l name (vs.getD 0 0:Nat)).1 else if op=24 then sumTo l name 8 else opW op vs
mutual
def KE (l:List Sg):Ex→Nat
 | .mk op n name _ args=>AAA l op n name (NE l args)
def NE (l:List Sg):List Ex→List Nat
 | [] => []
 | e :: es=>KE l e :: NE l es
end
theorem U1 (l:List Sg) (e:Ex):KE l e=AAA l e.op e.n e.name (NE l e.args):=by cases e; simp [KE,Ex.op,Ex.n,Ex.name,Ex.args]
theorem MF (l:List Sg) : ∀ xs:List Ex,NE l xs=xs.map (KE l)
 | []=>by simp [NE]
 | e :: es=>by simp [NE,MF l es]
theorem U0 (l:List Sg) (xs:List Ex):(NE l xs).length=xs.length:=by rw [MF,jM]
theorem AI0 (l:List Sg) (xs:List Ex) (j:Nat) (hj:j < xs.length):NE l (xs.take (j+1))=NE l (xs.take j) ++ [KE l xs[j]]:=by
 rw [MF,MF,List.take_succ_eq_append_getElem hj,List.map_append]; rfl
theorem AK0 (l:List Sg) (e:Ex):KE l e < 65536:=by
 induction e using Ex.induct with | h e ih => ?_
 rw [U1]
 have hv : ∀ x∈NE l e.args,x < 65536:=by
  intro x hx
  rw [MF] at hx
  obtain ⟨a,ha,rfl⟩:=List.mem_map.1 hx
  exact ih a ha
 unfold AAA
 split
 ·exact Nat.mod_lt _ (by omega)
 split
 ·exact AB3 _ _
 split
 ·exact AKE _ _ _
 split
 ·exact AA6 _ _ _
 ·exact AV4 _ hv
theorem AGL (l:List Sg) (xs:List Ex) : ∀ x∈NE l xs,x < 65536:=by
 intro x hx
 rw [MF] at hx
 obtain ⟨a,_,rfl⟩:=List.mem_map.1 hx
 exact AK0 l a
def knE (l:List Sg) (e:Ex):Bool:=if e.op=2 then (KP l e.name).2 else if e.op=3∨e.op=24 then (atG l e.name 0).2 else true
theorem UG {e:Ex} (h:I4 e=0):(e.op=1→0≤e.n∧e.n≤65535)∧(e.op=3→e.args.length=1)∧(e.op≠1→e.op≠2→e.op≠3→e.op≠24→ARU e.op e.args.length):=by
 unfold I4 at h
 have hO:TW e=false:=by
  cases hb:TW e
  ·rfl
  ·rw [hb] at h; simp at h
 have hN:ACR e=false:=by
  cases hb:ACR e
  ·rfl
  ·rw [hO,hb] at h; simp at h
 have hS:ZA e=false:=by
  cases hb:ZA e
  ·rfl
  ·rw [hO,hN,hb] at h; simp at h
 have hops:VP e.op e.args.length=true:=by
  unfold ZA at hS
  rw [Bool.or_eq_false_iff] at hS
  simpa using hS.2
 have h1:1≤e.op∧e.op≤25:=by unfold TW at hO; simp at hO; omega
 refine ⟨fun h1 => ?_,fun h3 => ?_,fun n1 n2 n3 n24=>⟨fun h22 => ?_,fun h23 => ?_,fun n22 n23 => ?_⟩⟩
 ·unfold ACR at hN; simp [h1] at hN; omega
 ·unfold VP at hops; rw [h3] at hops; simp [arity] at hops; omega
 ·unfold VP at hops; rw [h22] at hops; simp [arity] at hops; omega
 ·unfold VP at hops; rw [h23] at hops; simp at hops; omega
 ·unfold VP at hops
  rw [if_neg (by simpa using n23)] at hops
  have h5:arity e.op=1∨arity e.op=2:=by
   by_cases hq:e.op=3∨e.op=4∨e.op=5∨e.op=6∨e.op=25
   ·left; unfold arity; rw [if_neg (by omega),if_neg (by omega),if_pos hq]
   ·right; unfold arity; rw [if_neg (by omega),if_neg (by omega),if_neg hq,if_neg n22,if_neg n23]
  have h6:((e.args.length:Nat):Int)=arity e.op:=by simpa using hops
  omega
theorem str_eq {a b:ByteArray} (h:(a.toList == b.toList)=true):a=b:=by
 rw [ByteArray.toList_eq,ByteArray.toList_eq] at h
 exact ByteArray.ext (Array.toList_inj.1 (beq_iff_eq.1 h))
theorem ASX (P:ByteArray→Bool) (ops:List Int) (ns:List ByteArray) (e:Ex):(nmU ops ns e).all P=(ns.all P && (!Rk.hasB ops e.op || P e.name)):=by
 unfold nmU
 cases hb:Rk.hasB ops e.op
 ·simp
 cases hs:LY ns e.name
 ·simp
 ·simp
  intro ha
  unfold LY at hs
  rw [List.any_eq_true] at hs
  obtain ⟨u,hu,he⟩:=hs
  rw [str_eq he]; exact ha u hu
theorem AE3 (P:ByteArray→Bool) (ops:List Int) : ∀ (xs:List Ex) (ns:List ByteArray),(nmL ops ns xs).all P=(ns.all P && xs.all fun e => !Rk.hasB ops e.op || P e.name)
 | [],ns=>by simp [nmL]
 | e :: xs,ns=>by
   have:=AE3 P ops xs (nmU ops ns e)
   simp only [nmL,List.foldl_cons,List.all_cons] at this ⊢
   rw [this,ASX,Bool.and_assoc]
theorem AQI {xs:List Ex} (h:errs xs=0) : ∀ x∈xs,I4 x=0:=by
 induction xs with
 | nil=>intro x hx; cases hx
 | cons y ys ih =>
   have h1:ys.foldl (fun z e=>if z=0 then I4 e else z) (I4 y)=0:=h
   have hy:I4 y=0:=by
    rcases Classical.em (I4 y=0) with q | q
    ·exact q
    ·rw [AFK _ _ q] at h1; exact h1
   rw [hy] at h1
   intro x hx
   rcases qI.1 hx with rfl | hx
   ·exact hy
   ·exact ih h1 x hx
theorem RY {e:Ex} (h:exE e=0) : ∀ x∈pre e,I4 x=0:=by
 unfold exE at h
 split at h
 ·cases h
 ·exact AQI h
def evE (l:List Sg) (e:Ex):Nat × Int:=if exE e≠0 then (0,1) else if (pre e).all (knE l)=true then (KE l e,0) else (0,7)
def evV (p:Nat × Int):AV := .tup [.int .i64 (p.1:Nat),.int .i64 p.2]
theorem AJW (p:Nat × Int) (n:Nat) (H:Hp):JS n H 2 (evV p)=evV p:=rfl
section
variable (G:Nat→AV)
theorem ARF (op:Int) (h:Hp):PCall (En G) 100 [.int .i64 op] h (.bool ((op == 1) || J8 op)):=by
 refine acN Tryz.func100 rfl ?_
 show awp _ _ _ _ _ (EE _ [.tmp 2] _)
 simp -implicitDefEqProofs only [BC,A8,A7,AZ,BA,BL,BX,CG,AC,AQ,AO,BD,AX,AL,AA,AY,AU,BG,BM,BH,BB,BU,AB,DJ,BF,↓reduceIte,jB,jA,jC,enX,enP]
 cases ha:(op == 1)
 ·simp -implicitDefEqProofs only [Bool.false_or,BL,BX,CG,EM,AC,AQ,AO,BD,AX,AL,AA,AY,BO,BH,BV,BN,BF,jF,jD,jE,↓reduceIte,jB,jA,jC,ha]
  refine (U8 G op h).use ?_
  simp -implicitDefEqProofs only [BK,A7,CU,AZ,BA,AC,AQ,AO,BD,AX,AL,AA,AY,AU,BM,BB,CO,DU,↓reduceIte,jB,jA,jC]
  exact ⟨by trivial,trivial⟩
 ·simp -implicitDefEqProofs only [Bool.true_or,BK,A7,CU,AZ,BA,BL,BX,CG,FY,AC,AQ,AO,BD,AX,AL,AA,EG,AY,AU,BM,BB,CO,DK,↓reduceIte,jB,jA,jC,ha]
  exact ⟨by trivial,trivial⟩
def lfE (l:List Sg) (e:Ex) (vs:List Nat):Nat × Int:=if knE l e=true then (AAA l e.op e.n e.name vs,0) else (0,7)
theorem APP (l:List Sg) (m:SM) (e:Ex) (vs:List Nat) (v:AV) (h0 h:Hp) (hl:l.length≤1099511627776) (hok : ∀ s∈l,AIT s) (hnz:e.name.size≤1048576) (hnode:I4 e=0) (hask:e.op=1∨e.op=2∨e.op=3∨e.op=24) (hvs:vs.length=e.args.length) (ho:outG 1 AHX h0 vs v h) :
  PCall (En G) 101 [.agg (CW e),.sl m 2 (l.map N7),v] h (evV (lfE l e vs)):=by
 refine LU 2 (AJW _) ?_
 obtain ⟨o1,o3,_⟩:=UG hnode
 refine acN Tryz.func101 rfl ?_
 show awp _ _ _ _ _ (EE _ [.tmp 6,.tmp 7] _)
 have ge:=C9 h (ABlk.live 4 [CW e])
 have hx:ext h (h ++ [ABlk.live 4 [CW e]]):=(ext.rfl' h).app _
 have ho1:=ho.app [ABlk.live 4 [CW e]]
 simp -implicitDefEqProofs only [BC,A8,A7,AZ,BA,AC,AQ,AO,BD,AX,AL,AA,AY,AU,BG,BB,FN,BP,BI,BZ,AB,BF,↓reduceIte,jB,jI,jA,jC,enP,GU,bxE]
 generalize h ++ [ABlk.live 4 [CW e]]=H at ge hx ho1 ⊢
 have l0:DL Tryz.prog H 3 (.ptr h.length 0 0)=some (.int .i64 e.op):=by rw [DC ag3 ge (row:=CW e) rfl,JE]
 have l1:DL Tryz.prog H 3 (.ptr h.length 0 1)=some (.int .i64 e.n):=by rw [DC ag3 ge (row:=CW e) rfl,X8]
 have l2:DL Tryz.prog H 9 (.ptr h.length 0 2)=some (.str e.name):=by rw [DC ag9 ge (row:=CW e) rfl,O9]
 simp -implicitDefEqProofs only [BJ,A7,AZ,BA,AC,AQ,AO,BD,AX,AL,AA,AY,AU,BG,BU,AB,DJ,↓reduceIte,jA,jC,enP,l0]
 by_cases e1:e.op=1
 ·have c1:(e.op == 1)=true:=by simpa using e1
  have hk:knE l e=true:=by unfold knE; rw [if_neg (by omega),if_neg (by omega)]
  have:=o1 e1
  simp -implicitDefEqProofs only [BC,A8,BK,A7,CJ,JX,DR,AZ,BA,AC,AQ,AO,BD,AX,AL,AA,AY,AU,BG,BB,BP,BI,AB,↓reduceIte,jB,jG,jA,jC,enP,Y0,c1,l1]
  refine ⟨?_,hx⟩
  unfold lfE AAA evV
  rw [if_pos hk,if_pos e1]
  congr 3; show e.n=((e.n.toNat % 65536:Nat):Int); omega
 have c1:(e.op == 1)=false:=by simpa using e1
 by_cases e2:e.op=2
 ·have c2:(e.op == 2)=true:=by simpa using e2
  have hkn:knE l e=(KP l e.name).2:=by unfold knE; rw [if_pos e2]
  simp -implicitDefEqProofs only [BC,A8,BR,BJ,A7,DR,DX,AZ,BA,AC,AQ,AO,BD,AX,AL,AA,AY,AU,BO,BG,BH,BP,BU,BI,BV,BN,AB,DJ,BF,BQ,jF,jD,jE,↓reduceIte,jB,jI,jG,jA,jC,enP,GU,KO,c1,c2,l0,l2]
  refine (AB2 G l m _ H hl hok).use ?_
  unfold ALB
  simp -implicitDefEqProofs only [jZ,zC,BC,A8,BJ,A7,AZ,BA,AC,AQ,AO,BD,AX,AL,AA,AY,BH,BB,I5,GH,IW,AB,FO,↓reduceIte,jB,jA,jC]
  cases hk:(KP l e.name).2
  ·simp -implicitDefEqProofs only [BC,A8,BK,A7,CJ,JX,DR,AZ,BA,AC,AQ,AO,BD,AX,AL,AA,AU,BG,BB,↓reduceIte,jB,jA,jC]
   exact ⟨by unfold lfE; rw [if_neg (by rw [hkn,hk]; decide)]; rfl,hx⟩
  ·simp -implicitDefEqProofs only [BC,A8,BR,BK,A7,CJ,JX,DX,AZ,BA,AC,AQ,AO,BD,AX,AL,AA,AY,AU,BG,BH,BB,↓reduceIte,jB,jA,jW,jC]
   exact ⟨by unfold lfE AAA; rw [if_pos (by rw [hkn,hk]),if_neg e1,if_pos e2]; rfl,hx⟩
 have c2:(e.op == 2)=false:=by simpa using e2
 have hkn:knE l e=(KP l (elN e.name 0)).2:=by
  unfold knE
  rw [if_neg e2,if_pos (by omega)]
  unfold atG
  rw [if_neg (by omega)]; rfl
 simp -implicitDefEqProofs only [BC,A8,BR,BJ,A7,DX,AZ,BA,AC,AQ,AO,BD,AX,AL,AA,AY,AU,BO,BG,BH,BP,BU,BI,BV,BN,AB,DJ,BF,BQ,jF,jD,jE,↓reduceIte,jB,jI,jG,jA,jC,enP,GU,KO,c1,c2,l0,l2]
 refine (Z8 G e.name 0 (by omega) H hnz).use ?_
 simp -implicitDefEqProofs only [AZ,AC,AQ,AO,BD,AX,AL,AA,AY,BO,BV,BN,jF,jD,jE,↓reduceIte,jB,jA,jC]
 refine (AB2 G l m _ H hl hok).use ?_
 unfold ALB
 simp -implicitDefEqProofs only [jZ,zC,BC,A8,BJ,A7,AZ,BA,AC,AQ,AO,BD,AX,AL,AA,AY,BH,BB,I5,GH,IW,AB,FO,↓reduceIte,jB,jA,jC]
 cases hk:(KP l (elN e.name 0)).2
 ·simp -implicitDefEqProofs only [BC,A8,BK,A7,CJ,JX,DR,AZ,BA,AC,AQ,AO,BD,AX,AL,AA,AU,BG,BB,↓reduceIte,jB,jA,jC]
  exact ⟨by unfold lfE; rw [if_neg (by rw [hkn,hk]; decide)]; rfl,hx⟩
 have hk':knE l e=true:=by rw [hkn,hk]
 by_cases e3:e.op=3
 ·have c3:(e.op == 3)=true:=by simpa using e3
  have hl1:vs.length=1:=by rw [hvs,o3 e3]
  obtain ⟨o,rfl,hob⟩ : ∃ o,v = .own o 0 1∧H[o]? = some (.live 1 (vs.map AHX)):=by
   rcases ho1 with ⟨h0,_⟩ | ⟨_,o,_,rfl,hb⟩
   ·rw [h0] at hl1; simp at hl1
   ·exact ⟨o,by rw [hl1],hb⟩
  have hlen:0 < vs.length:=by omega
  have i0:JM 1 H (.own o 0 1) (.int .i64 0)=some (.ptr o 0 0):=J9 (n:=0) hob (by decide)
  have d0:DL Tryz.prog H 3 (.ptr o 0 0)=some (.int .i64 (vs.getD 0 0:Nat)):=by
   rw [DC ag3 hob (row:=AHX vs[0]) (AAS hlen),List.getD_eq_getElem?_getD,List.getElem?_eq_getElem hlen]; rfl
  simp -implicitDefEqProofs only [BC,A8,BR,BJ,A7,DR,DX,AZ,BA,AC,AQ,AO,BD,AX,AL,AA,AY,AU,BG,BP,BU,BI,AB,DJ,↓reduceIte,jB,jI,jA,jW,jC,enP,GU,l0,c3]
  refine EX (by kernel_rfl) ?_
  simp -implicitDefEqProofs only [FC,DV,CY,EC,DW,EP,G9,ED,DN,EQ,EW,EJ,BK,A7,CJ,JX,AC,AA,AY,AU,BO,BG,BP,BI,CQ,AB,BF,BQ,jF,jD,jE,↓reduceIte,jB,Nat.reduceAdd,jG,jA,enP,KO,RH,l2,i0,d0]
  refine ⟨_,ZU G l m _ _ H hl hok hnz,?_⟩
  try simp -implicitDefEqProofs only []
  exact ⟨by unfold lfE AAA; rw [if_pos hk',if_neg e1,if_neg e2,if_pos e3]; rfl,hx⟩
 have c3:(e.op == 3)=false:=by simpa using e3
 have e24:e.op=24:=by omega
 simp -implicitDefEqProofs only [BC,CB,A8,BR,BJ,A7,DX,AZ,BA,AC,AQ,AO,BD,AX,AL,AA,AY,AU,BG,BB,BP,BU,BI,AB,DJ,↓reduceIte,jB,jI,jA,jW,jC,enP,GU,l0,c3]
 refine D7 (fun k F H' => ∃ j,k+j=8∧F 1 = .sl m 2 (l.map N7)∧F 3 = .ptr h.length 0 0∧F 12 = .int .i64 (sumTo l e.name j:Nat)∧F 13 = .int .i64 (j:Nat)∧H'=H) 8 ⟨0,by simp,by simp -implicitDefEqProofs only [AA,BF,BQ,↓reduceIte,jB],by simp -implicitDefEqProofs only [AA,↓reduceIte,jB],by simp -implicitDefEqProofs only [AA,↓reduceIte,jB] <;> rfl,by simp -implicitDefEqProofs only [AA,↓reduceIte] <;> rfl,rfl⟩ ?_
 rintro k F H' ⟨j,hj,f1,f3,f12,f13,rfl⟩
 simp -implicitDefEqProofs only [BC,A8,BJ,A7,AZ,BA,AC,AQ,AO,BD,AX,AL,AA,AY,AU,BG,BH,BU,AB,DF,↓reduceIte,jA,jC,enP,f13]
 refine CV (fun hc => ?_) (fun hc => ?_)
 ·have hj':j < 8:=by simp at hc; omega
  simp -implicitDefEqProofs only [BC,CB,A8,BR,A7,AZ,AC,AQ,AO,BD,AX,AL,AA,AY,BO,BH,BP,BI,BV,BN,AB,jF,jD,jE,↓reduceIte,jB,jG,jA,jC,enP,KO,f1,f3,f12,f13,l2]
  refine (ZU G l m _ _ H' hl hok hnz).use ?_
  simp -implicitDefEqProofs only [AZ,AC,AQ,AO,BD,AX,AL,AA,AY,BO,BV,BN,jF,jD,jE,↓reduceIte,jB,jA,jC]
  refine (AU9 G _ _ (AA6 l _ j) (AKE l _ (j:Nat)) H').use ?_
  simp -implicitDefEqProofs only [A8,A7,EK,FI,AZ,BA,AC,AQ,AO,BD,AX,AL,AA,AY,AU,BG,BH,BB,BU,AB,DY,↓reduceIte,jB,jA,jC,enP,f1,f3,f12,f13,wrap_succ (show j < 9223372036854775807 by omega)]
  exact ⟨k - 1,by omega,j+1,by omega,by trivial,by trivial,by trivial,by trivial,trivial⟩
 ·have hj':j=8:=by simp at hc; omega
  subst hj'
  simp -implicitDefEqProofs only [BC,A8,BK,D6,A7,EU,FT,FX,JX,AZ,BA,AC,AQ,AO,BD,AX,AL,AA,AY,AU,BG,BH,BB,↓reduceIte,jB,jA,jC,f12]
  exact ⟨by unfold lfE AAA; rw [if_pos hk',if_neg e1,if_neg e2,if_neg e3,if_pos e24]; rfl,hx⟩
def vlE (l:List Sg) (e:Ex):Nat × Int:=if (pre e).all (knE l)=true then (KE l e,0) else (0,7)
theorem UF : ∀ xs:List Ex,xs.length≤(II xs).length
 | []=>by simp [II]
 | x :: xs=>by
   have:=UF xs
   simp only [II,zX,qH,pre_eq x]; omega
theorem O3 {a:Ex} : ∀ {xs:List Ex},a∈xs→(pre a).length≤(II xs).length
 | x :: xs,h=>by
   simp only [II,zX]
   rcases qI.1 h with rfl | h
   ·omega
   ·have:=O3 h; omega
theorem AK7 (l:List Sg) (e:Ex):(pre e).all (knE l)=(knE l e && (II e.args).all (knE l)):=by rw [pre_eq]; rfl
set_option maxHeartbeats 1000000 in
theorem AME (l:List Sg) (m:SM) (hl:l.length≤1099511627776) (hok : ∀ s∈l,AIT s) (e:Ex):(pre e).length≤1048576→(∀ x∈pre e,x.name.size≤1048576)→(∀ x∈pre e,I4 x=0)→∀ h:Hp,PCall (En G) 54 [.agg (CW e),.sl m 2 (l.map N7)] h (evV (vlE l e)):=by
 induction e using Ex.induct with | h e ih => ?_
 intro hw hnm hval h
 have hpl:=congrArg List.length (pre_eq e)
 rw [qH] at hpl
 have hal:e.args.length≤1048576:=by have:=UF e.args; omega
 have hnode:=hval e (by rw [pre_eq]; simp)
 obtain ⟨o1,o3,oo⟩:=UG hnode
 refine LU 2 (AJW _) ?_
 refine acN Tryz.func54 rfl ?_
 show awp _ _ _ _ _ (EE _ [.tmp 4,.tmp 5] _)
 have ge:=C9 h (ABlk.live 4 [CW e])
 have hx:ext h (h ++ [ABlk.live 4 [CW e]]):=(ext.rfl' h).app _
 simp -implicitDefEqProofs only [BC,CB,A8,A7,AZ,BA,AC,AQ,AO,BD,AX,AL,AY,AU,BG,MC,BB,FN,BZ,BF,jA,jC,enP,bxE]
 generalize h ++ [ABlk.live 4 [CW e]]=H1 at ge hx ⊢
 generalize h.length=eb at ge ⊢
 refine IY 0 (fun F H => ∃ v,F 1 = .sl m 2 (l.map N7)∧F 2 = .ptr eb 0 0∧F 6=v∧ext H1 H∧outG 1 AHX H1 (NE l e.args) v H∧(II e.args).all (knE l)=true) (fun F H=>F 4 = .int .i64 0∧F 5 = .int .i64 7∧ext H1 H∧(II e.args).all (knE l)=false) ?_ ?_ ?_
 ·refine D7 (fun k F H => ∃ j v,k+j=e.args.length∧F 1 = .sl m 2 (l.map N7)∧F 2 = .ptr eb 0 0∧F 6=v∧F 7 = .int .i64 (j:Nat)∧ext H1 H∧outG 1 AHX H1 (NE l (e.args.take j)) v H∧(II (e.args.take j)).all (knE l)=true) e.args.length
   ⟨0,.sl .nil 0 [],by simp,by simp -implicitDefEqProofs only [AA,BF,BQ,↓reduceIte,jB],by simp -implicitDefEqProofs only [AA,↓reduceIte,jB],by simp -implicitDefEqProofs only [AA,↓reduceIte,jB],by simp -implicitDefEqProofs only [AA,↓reduceIte] <;> rfl,ext.rfl' H1,outG.nil _ _ _ _,rfl⟩ ?_
  rintro k F H ⟨j,v,hj,f1,f2,f6,f7,hxH,ho,hkn⟩
  have geH:=FP hxH ge
  have l3:DL Tryz.prog H 23 (.ptr eb 0 3)=some (.sl e.m 4 (e.args.map CW)):=by rw [DC QU geH (row:=CW e) rfl,SB]
  simp -implicitDefEqProofs only [BC,A8,BJ,A7,AZ,BA,AC,AQ,AO,BD,AX,AL,AA,AY,BH,BP,BU,BI,E5,AB,DF,↓reduceIte,jB,jG,jA,jC,enP,TT,JW,f2,f7,l3,jM]
  refine CV (fun hc => ?_) (fun hc => ?_)
  ·have hj':j < e.args.length:=by simpa using hc
   have hmem:e.args[j]∈e.args:=List.getElem_mem hj'
   have htl:(NE l (e.args.take j)).length < 8388608:=by rw [U0]; simp; omega
   have hsplit:II e.args=II (e.args.take j) ++ (pre e.args[j] ++ II (e.args.drop (j+1))):=by
    rw [← List.append_assoc,← J6 _ _ hj',← LV,List.take_append_drop]
   obtain ⟨v',H',ha,ho',_,hx',_,_⟩:=ho.append (P:=Tryz.prog) AVM sz3 A0K AW4 (by omega) htl hxH (KE l e.args[j])
   have ha':IQ Tryz.prog true H 45 45 v (.sl .full 1 [[.int .i64 ((KE l e.args[j]:Nat):Int)]])=some (v',H'):=ha
   simp -implicitDefEqProofs only [BC,CB,A8,BR,A7,AZ,AC,AQ,AO,BD,AX,AL,AA,AY,BO,BH,BP,BI,CQ,BV,BN,AB,jF,jD,jE,↓reduceIte,jB,jG,jA,jC,enP,P9,JW,f1,f2,f7,l3,EF hj',EO MK J4 EN hj']
   refine (ih e.args[j] hmem (by have:=O3 hmem; omega) (fun x hx=>hnm x (by rw [pre_eq]; exact qN _ (LG hmem x hx))) (fun x hx=>hval x (by rw [pre_eq]; exact qN _ (LG hmem x hx))) _).use ?_
   unfold vlE
   cases hk:(pre e.args[j]).all (knE l)
   ·simp only [Bool.false_eq_true,if_false,evV]
    simp -implicitDefEqProofs only [jZ,zC,BC,A8,BK,BJ,A7,CJ,D5,LW,FV,DR,AZ,BA,AC,AQ,AO,BD,AX,AL,AA,AY,AU,BG,BH,BB,BU,GH,IW,AB,FD,↓reduceIte,jB,jA,jC,enP,Int.reduceBNe,zO]
    exact ⟨by trivial,by trivial,hxH,by rw [hsplit,List.all_append,List.all_append,hk]; simp⟩
   ·simp only [if_true,evV]
    simp -implicitDefEqProofs only [jZ,zC,FB,ES,BC,A8,BR,BJ,A7,EK,FI,DX,AZ,BA,AC,AQ,AO,BD,AX,AL,AA,AY,AU,BG,BH,BB,GM,BU,GH,IW,NL,BZ,AB,DY,FD,↓reduceIte,jB,jA,jC,enP,Int.reduceBNe,zO,bne_self_eq_false,f6,AZK,ha',f1,f2,f7,wrap_succ (show j < 9223372036854775807 by omega)]
    exact ⟨k - 1,by omega,j+1,v',by omega,by trivial,by trivial,by trivial,by trivial,hx',by rw [AI0 _ _ _ hj']; exact ho',by rw [J6 _ _ hj',List.all_append,hkn,hk]; rfl⟩
  ·have hj' : ¬ j < e.args.length:=by simpa using hc
   rw [List.take_of_length_le (by omega)] at ho hkn
   simp -implicitDefEqProofs only [D6,EU,MX,FX,AA,↓reduceIte,jB]
   exact ⟨v,f1,f2,f6,hxH,ho,hkn⟩
 ·rintro F H ⟨v,f1,f2,f6,hxH,ho,hkn⟩
  have geH:=FP hxH ge
  have hxx:=hx.trans hxH
  have l0:DL Tryz.prog H 3 (.ptr eb 0 0)=some (.int .i64 e.op):=by rw [DC ag3 geH (row:=CW e) rfl,JE]
  have hvl:=U0 l e.args
  have hpa:(pre e).all (knE l)=knE l e:=by rw [AK7,hkn,Bool.and_true]
  simp -implicitDefEqProofs only [BC,A8,A7,FT,AZ,AC,AQ,AO,BD,AX,AL,AA,AY,BO,BP,BI,BV,BN,AB,jF,jD,jE,↓reduceIte,jI,jA,jC,enP,GU,f2,l0]
  refine (ARF G e.op H).use ?_
  simp -implicitDefEqProofs only [BJ,A7,BA,AL,AA,AY,↓reduceIte]
  cases hq:((e.op == 1) || J8 e.op)
  ·have hne:e.op≠1∧e.op≠2∧e.op≠3∧e.op≠24:=by
    unfold J8 at hq; simp at hq; omega
   obtain ⟨e1,e2,e3,e24⟩:=hne
   have hok':ARU e.op (NE l e.args).length:=by rw [hvl]; exact oo e1 e2 e3 e24
   obtain ⟨o,rfl,hob⟩ : ∃ o,v = .own o 0 (NE l e.args).length∧H[o]? = some (.live 1 ((NE l e.args).map AHX)):=by
    rcases ho with ⟨h0,_⟩ | ⟨_,o,_,rfl,hb⟩
    ·exfalso
     rw [h0] at hok'
     obtain ⟨a,b,c⟩:=hok'
     by_cases q:e.op=22
     ·have:=a q; simp at this
     by_cases q':e.op=23
     ·have:=b q'; simp at this
     ·have:=c q q'; simp at this
    ·exact ⟨o,rfl,hb⟩
   simp -implicitDefEqProofs only [BC,A8,BR,A7,DX,AZ,AC,AQ,AO,BD,AX,AL,AA,AY,BO,BH,BP,BI,BV,BN,AB,jF,jD,jE,↓reduceIte,jB,jI,jA,jC,enP,GU,f2,l0,f6]
   refine (AO8 G e.op _ o H hob (AGL l _) (by omega) hok').use ?_
   simp -implicitDefEqProofs only [BK,A7,JX,AZ,BA,AC,AQ,AO,BD,AX,AL,AA,AY,AU,BG,BB,↓reduceIte,jB,jA,jC]
   have hk:knE l e=true:=by unfold knE; rw [if_neg e2,if_neg (by omega)]
   refine ⟨?_,hxx⟩
   unfold vlE
   rw [hpa,if_pos hk,U1]
   unfold AAA
   rw [if_neg e1,if_neg e2,if_neg e3,if_neg e24]; rfl
  ·have hask:e.op=1∨e.op=2∨e.op=3∨e.op=24:=by
    unfold J8 at hq; simp at hq; omega
   simp -implicitDefEqProofs only [BC,A8,DR,AZ,AC,AQ,AO,BD,AX,AL,AA,AY,BO,BH,BP,BV,BN,AB,jF,jD,jE,↓reduceIte,jB,jA,jC,enP,f1,f2,f6,IR geH]
   refine (APP G l m e _ v H1 H hl hok (hnm e (by rw [pre_eq]; simp)) hnode hask hvl ho).use ?_
   have hlf:lfE l e (NE l e.args)=vlE l e:=by unfold lfE vlE; rw [hpa,U1]
   rw [hlf]
   unfold evV
   simp -implicitDefEqProofs only [jZ,zC,BK,A7,CJ,JX,AZ,BA,AC,AQ,AO,BD,AX,AL,AA,AY,BB,GH,IW,AB,↓reduceIte,jB,jA,jC]
   exact ⟨by trivial,hxx⟩
 ·rintro F H ⟨f4,f5,hxH,hkn⟩
  simp -implicitDefEqProofs only [CJ,D5,JX,f4,f5]
  exact ⟨by unfold vlE; rw [AK7,hkn,Bool.and_false]; rfl,hx.trans hxH⟩
theorem AEM (l:List Sg) (m:SM) (e:Ex) (h:Hp) (hl:l.length≤1099511627776) (hok : ∀ s∈l,AIT s) (hw:WN e):PCall (En G) 28 [.agg (CW e),.sl m 2 (l.map N7)] h (evV (evE l e)):=by
 refine LU 2 (AJW _) ?_
 refine acN Tryz.func28 rfl ?_
 show awp _ _ _ _ _ (EE _ [.tmp 4,.tmp 5] _)
 have ge:=C9 h (ABlk.live 4 [CW e])
 have hx:ext h (h ++ [ABlk.live 4 [CW e]]):=(ext.rfl' h).app _
 simp -implicitDefEqProofs only [BC,A8,A7,AZ,BA,AC,AQ,AO,BD,AX,AL,AA,AY,AU,BG,BB,FN,BP,BZ,BF,↓reduceIte,jB,jA,jC,enP,bxE]
 generalize h ++ [ABlk.live 4 [CW e]]=H at ge hx ⊢
 simp -implicitDefEqProofs only [AZ,AC,AQ,AO,BD,AX,AL,AA,AY,BO,BV,BN,AB,jF,jD,jE,↓reduceIte,jA,jC,IR ge]
 refine (X6 G e H hw).use ?_
 simp -implicitDefEqProofs only [BJ,A7,AZ,BA,AC,AQ,AO,BD,AX,AL,AA,AY,AU,BG,BU,AB,FD,↓reduceIte,jA,jC,enP]
 cases hv:(exE e == 0)
 ·have hne:exE e≠0:=by simpa using hv
  simp -implicitDefEqProofs only [BC,A8,BK,A7,CJ,JX,DR,AZ,BA,AC,AQ,AO,BD,AX,AL,AA,AU,BG,BB,↓reduceIte,jB,jA,jC,bne,hv]
  exact ⟨by unfold evE; rw [if_pos hne]; rfl,hx⟩
 have h0:exE e=0:=by simpa using hv
 simp -implicitDefEqProofs only [BC,A8,BR,A7,DX,AZ,AC,AQ,AO,BD,AX,AL,AA,AY,BO,BH,BP,BV,BN,AB,BF,BQ,jF,jD,jE,↓reduceIte,jB,jA,jW,jC,enP,bne,hv,IR ge]
 have h400:(pre e).length≤1048576:=by
  unfold exE at h0
  split at h0
  ·cases h0
  ·rename_i q; rw [h0] at q; simp at q; omega
 refine (AME G l m hl hok e h400 hw.2 (RY h0) H).use ?_
 have he:evE l e=vlE l e:=by unfold evE vlE; rw [if_neg (by simpa using h0)]
 rw [he]
 unfold evV
 simp -implicitDefEqProofs only [jZ,zC,BK,A7,JX,AZ,BA,AC,AQ,AO,BD,AX,AL,AA,AY,BB,GH,IW,AB,↓reduceIte,jB,jA,jC]
 exact ⟨by trivial,hx⟩
end
end Go.Proofs.YtokehnfjjmpanaaGreatDoor.Xe
