/- Part 8 of the proof (X2, X5, X6); no condition. -/
import Derived.Test.YtokehnfjjmpanaaGreatDoorYB7
set_option linter.unusedVariables false
set_option linter.unusedSimpArgs false
set_option maxRecDepth 8000
namespace Go.Proofs.YtokehnfjjmpanaaGreatDoor.Xe
open Sm Bins Cov Go.RowKit
open Bool renaming not_false→jC,not_true→jW
open List renaming getElem_mem→jT,map_cons→jF,map_nil→jD,append_nil→jE,getElem?_set→jZ,getElem?_eq_getElem→jU,nil_append→zJ,cons_append→zV,length_append→qB
open Nat renaming le_of_ble_eq_true→jJ,reduceEqDiff→jA,zero_add→jG
open Option renaming getD_some→jB,getD_none→jK
theorem AX0:Frz encStr:=fun _ _ _ _=>⟨rfl,rfl⟩
theorem AOF (G:Nat→AV) (xs:List ByteArray) (b:Nat) (v:ByteArray) (h:Hp) (hb:h[b]? = some (.live 1 (xs.map encStr))) (hl:xs.length≤1099511627776) :
  ∃ k:Int,PCall (En G) 209 [.own b 0 xs.length,.str v] h (.int .i64 k)∧decide (k≥0)=MN xs v:=by
 have key : ∀ r:Int,(∀ i (hi:i < xs.length),(∀ j (hj:j < i),(v.toList == xs[j].toList)=false)→(v.toList == xs[i].toList)=true→r=(i:Int))→(MN xs v=false→r = -1)→PCall (En G) 209 [.own b 0 xs.length,.str v] h (.int .i64 r):=by
  intro r hr hr0
  refine acN Tryz.func209 rfl ?_
  show awp _ _ _ _ _ (EN _ [.tmp 4] _)
  simp -implicitDefEqProofs only [BB,CE,A8,A7,AZ,BA,AO,AQ,AL,BD,AY,AC,AA,AX,AU,BH,BJ,BC,FP,AB,BF,↓reduceIte,jA,jB,jC,enX,enP,AAN]
  refine EG (fun n F H => ∃ k,n+k=xs.length∧F 0 = .own b 0 xs.length∧F 1 = .str v∧F 7 = .int .i64 (xs.length:Nat)∧F 8 = .int .i64 (k:Nat)∧H=h∧(∀ j (hj:j < xs.length),j < k→(v.toList == xs[j].toList)=false)∧MN xs v=MN (xs.drop k) v) xs.length ⟨0,by simp,by simp -implicitDefEqProofs only [AA,BF,↓reduceIte,jA],by simp -implicitDefEqProofs only [AA,BF,BQ,↓reduceIte,jA],by simp -implicitDefEqProofs only [AA,↓reduceIte,jA],by simp -implicitDefEqProofs only [AA,↓reduceIte]; rfl,rfl,fun j _ hj=>by omega,rfl⟩ ?_
  rintro n F H ⟨k,hk,f0,f1,f7,f8,rfl,hbef,hin⟩
  simp -implicitDefEqProofs only [BB,A8,BI,A7,AZ,BA,AO,AQ,AL,BD,AY,AC,AA,AX,BU,AB,DV,↓reduceIte,jB,jC,enP,f7,f8]
  refine CQ (fun hc => ?_) (fun hc => ?_)
  ·have hk':k < xs.length:=by simpa using hc
   have hs:MN (xs.drop k) v=((v.toList == xs[k].toList) || MN (xs.drop (k+1)) v):=ADE _ xs k hk'
   have l1:DR Tryz.prog H 9 (.ptr b k 0)=some (.str xs[k]):=by rw [DJ ag9 hb (row:=encStr xs[k]) (ABF hk')]; rfl
   simp -implicitDefEqProofs only [BB,CE,A8,BR,BI,A7,AZ,BA,AO,AQ,AL,BD,AY,AC,AA,AX,BJ,BC,BO,BU,CG,AB,KY,↓reduceIte,jA,jG,jB,jC,enP,AH2,f0,f1,f8,JK hb hk',l1]
   refine CQ (fun hx => ?_) (fun hx => ?_)
   ·simp -implicitDefEqProofs only [BB,A8,BK,A7,CJ,D8,F9,CV,AZ,BA,AO,AQ,AL,BD,AY,AC,AA,AX,BJ,BC,↓reduceIte,jA,jB,jC]
    exact ⟨by rw [hr k hk' (fun j hj=>hbef j (by omega) hj) hx],trivial⟩
   ·simp -implicitDefEqProofs only [A8,BR,A7,EO,FO,AZ,BA,AO,AQ,AL,BD,AY,AC,AA,AX,AU,BH,BJ,BU,AB,D6,↓reduceIte,jA,jB,jC,enP,f8,wrap_succ (show k < 9223372036854775807 by omega)]
    refine ⟨n - 1,by omega,k+1,by omega,by trivial,by trivial,by trivial,rfl,trivial,fun j hj hjk => ?_,by rw [hin,hs,hx,Bool.false_or]⟩
    rcases Nat.lt_or_ge j k with h1 | h1
    ·exact hbef j hj h1
    ·have:j=k:=by omega
     subst this; exact hx
  ·have hk' : ¬ k < xs.length:=by simpa using hc
   simp -implicitDefEqProofs only [BB,A8,BK,EF,A7,FC,F6,F8,CV,AZ,BA,AO,AQ,AL,BD,AY,AC,AA,AU,BH,BC,↓reduceIte,jB,jC]
   refine ⟨?_,trivial⟩
   rw [hr0 (by rw [hin,List.drop_eq_nil_of_le (by omega)]; rfl)]
 by_cases hh:MN xs v=true
 ·obtain ⟨i,hi⟩ : ∃ i,xs.findIdx? (fun u=>v.toList == u.toList)=some i:=by
   cases he:xs.findIdx? (fun u=>v.toList == u.toList) with
   | some i=>exact ⟨i,rfl⟩
   | none =>
     rw [List.findIdx?_eq_none_iff] at he
     unfold MN at hh
     rw [List.any_eq_true] at hh
     obtain ⟨x,hx,hz⟩:=hh
     rw [he x hx] at hz; cases hz
  obtain ⟨hil,hiz,hbef⟩:=List.findIdx?_eq_some_iff_getElem.1 hi
  refine ⟨(i:Int),key i (fun k hk hb' hx => ?_) (fun h0=>by rw [hh] at h0; cases h0),by rw [hh]; simp⟩
  rcases Nat.lt_trichotomy i k with h1 | h1 | h1
  ·have:=hb' i h1; rw [hiz] at this; cases this
  ·rw [h1]
  ·have:=hbef k h1; rw [hx] at this; simp at this
 ·have hh':MN xs v=false:=by simpa using hh
  refine ⟨-1,key (-1) (fun k hk _ hx => ?_) (fun _=>rfl),by rw [hh']; decide⟩
  unfold MN at hh'
  rw [List.any_eq_false] at hh'
  exact absurd hx (hh' xs[k] (jT hk))
theorem AOG (G:Nat→AV) (k:Nat) (v:ByteArray) (h:Hp):PCall (En G) 209 [.sl .nil k [],.str v] h (.int .i64 (-1)):=by
 refine acN Tryz.func209 rfl ?_
 show awp _ _ _ _ _ (EN _ [.tmp 4] _)
 simp -implicitDefEqProofs only [BB,CE,A8,A7,AZ,BA,AO,AQ,AL,BD,AY,AC,AA,AX,AU,BH,BJ,BC,FP,AB,BF,↓reduceIte,jA,jB,jC,enX,enP,AAN,List.length_nil]
 refine EG (fun n F H=>F 7 = .int .i64 0∧F 8 = .int .i64 0∧H=h) 0 ⟨by simp -implicitDefEqProofs only [AA,↓reduceIte,jA] <;> rfl,by simp -implicitDefEqProofs only [AA,↓reduceIte],rfl⟩ ?_
 rintro n F H ⟨f7,f8,rfl⟩
 have hc:((0:Int) < 0)=False:=by simp
 simp -implicitDefEqProofs only [BB,A8,BK,EF,BI,A7,FC,F6,F8,CV,DN,AZ,BA,AO,AQ,AL,BD,AY,AC,AA,AX,AU,BH,BC,BU,AB,DV,↓reduceIte,jB,jC,decide_false,enP,f7,f8,hc,decide_false]
 exact ⟨by trivial,trivial⟩
theorem A0S (G:Nat→AV) {h0 h:Hp} {ns:List ByteArray} {u:AV} (ho:outG 1 encStr h0 ns u h) (v:ByteArray) (hl:ns.length≤8388608):PCall (En G) 195 [u,.str v] h (.bool (MN ns v)):=by
 have hi : ∃ k:Int,PCall (En G) 209 [u,.str v] h (.int .i64 k)∧decide (k≥0)=MN ns v:=by
  rcases ho with ⟨rfl,rfl⟩ | ⟨_,o,_,rfl,hb⟩
  ·exact ⟨-1,AOG G 0 v h,rfl⟩
  ·exact AOF G ns o v h hb (by omega)
 obtain ⟨k,hk,hd⟩:=hi
 refine acN Tryz.func195 rfl ?_
 show awp _ _ _ _ _ (EN _ [.tmp 4] _)
 simp -implicitDefEqProofs only [BB,A8,A7,AZ,BA,AO,AQ,AL,BD,AY,AC,AA,AX,AU,BN,BM,BJ,BC,BV,BP,BF,BQ,jF,jD,jE,↓reduceIte,jA,jB,jC,enX,enP]
 refine hk.use ?_
 simp -implicitDefEqProofs only [BK,A7,CV,AZ,BA,AO,AQ,AL,BD,AY,AC,AA,AX,AU,BH,BC,BU,AB,FV,↓reduceIte,jB,jC,enP,hd]
 exact ⟨trivial,trivial⟩
def nmU (ops:List Int) (ns:List ByteArray) (e:Ex):List ByteArray:=if (Rk.hasB ops e.op && !MN ns e.name)=true then ns ++ [e.name] else ns
def nmL (ops:List Int) (ns:List ByteArray) (l:List Ex):List ByteArray:=l.foldl (nmU ops) ns
theorem AMB (ops:List Int) (ns:List ByteArray) (e:Ex):(nmU ops ns e).length≤ns.length+1:=by
 unfold nmU; split <;> simp
theorem AFM (ops:List Int) : ∀ (l:List Ex) (ns:List ByteArray),(nmL ops ns l).length≤ns.length+l.length
 | [],ns=>by simp [nmL]
 | e :: l,ns=>by
   have h1:=AFM ops l (nmU ops ns e)
   have h2:=AMB ops ns e
   simp only [nmL,List.foldl_cons,List.length_cons] at h1 ⊢
   omega
theorem AT8 (ops:List Int) (ns:List ByteArray) (l r:List Ex):nmL ops ns (l ++ r)=nmL ops (nmL ops ns l) r:=List.foldl_append
structure NSt (h0:Hp) (c:Nat) (ns:List ByteArray) (v:AV) (h:Hp):Prop where
 cell:h[c]? = some (.live 1 [[v]])
 out:outG 1 encStr h0 ns v h
 base:h0.length≤c
 ex:ext h0 h
abbrev Cn (c:Nat) (v:AV) (h:Hp) (v':AV) (h':Hp):Prop:=Ch c v .nilfn h v' .nilfn h'
theorem NSt.ne {h0 h:Hp} {c b k:Nat} {ns:List ByteArray} {v:AV} {row:List AV} (s:NSt h0 c ns v h) (hb:h[b]? = some (.live k [row])) (hr:k≠1∨∀ x,row≠[.str x]) : ¬ isB v b:=by
 intro hi
 rcases s.out with ⟨_,rfl⟩ | ⟨hne,o,_,rfl,ho⟩
 ·exact hi
 ·have e:o=b:=hi
  subst e
  rw [ho] at hb
  injection Option.some.inj hb with e1 e2
  rcases hr with hr | hr
  ·exact hr e1.symm
  ·match ns,e2 with
   | [x],e2=>simp [encStr] at e2; exact hr x e2.symm
theorem NSt.app {h0 h:Hp} {c:Nat} {ns:List ByteArray} {v:AV} (s:NSt h0 c ns v h) (x:Hp):NSt h0 c ns v (h ++ x):=⟨U0 s.cell,s.out.app x,s.base,s.ex.app x⟩
theorem NSt.cne {h0 h:Hp} {c:Nat} {ns:List ByteArray} {v:AV} (s:NSt h0 c ns v h) : ¬ isB v c:=by
 refine s.ne s.cell (.inr fun x e => ?_)
 rcases s.out with ⟨_,rfl⟩ | ⟨_,o,_,rfl,_⟩ <;> simp at e
theorem Cn.keep {c b:Nat} {h h':Hp} {v v':AV} {x:ABlk} (hc:Cn c v h v' h') (hb:h[b]? = some x) (hne:b≠c) (hn : ¬ isB v b):h'[b]? = some x:=by
 rw [hc.get b (CS hb) hne hn (fun e=>e)]; exact hb
theorem AG1 (G:Nat→AV) (ops:List Int) (hops:ops.length≤1048576) (h0:Hp) (c ob:Nat) (s0:SM) (e:Ex) (h:Hp) (ns:List ByteArray) (v:AV) (S:NSt h0 c ns v h) (hob:h[ob]? = some (.live 1 [[.sl s0 1 (ops.map qencI)]])) (hn:ns.length < 8388608) :
  ACalls (En G) 193 [.agg (CW e),.ptr ob 0 0,.ptr c 0 0] h fun r h'=>r = .bool true∧∃ v',Cn c v h v' h'∧NSt h0 c (nmU ops ns e) v' h':=by
 refine acN Tryz.func193 rfl ?_
 show awp _ _ _ _ _ (EN _ [.tmp 4] _)
 have S1:=S.app [ABlk.live 4 [CW e]]
 have hob1:(h ++ [ABlk.live 4 [CW e]])[ob]? = _:=DC hob
 have hC1:Cn c v h v (h ++ [ABlk.live 4 [CW e]]):=Ch.app c v .nilfn h _
 have ge:=DF h (ABlk.live 4 [CW e])
 have hcl:=CS S.cell
 simp -implicitDefEqProofs only [BB,A8,A7,AZ,BA,AO,AQ,AL,BD,AY,AC,AA,AX,AU,BM,BC,FQ,BO,CB,BF,BQ,↓reduceIte,jA,jB,jC,enP,bxE]
 generalize h ++ [ABlk.live 4 [CW e]]=H at S1 hob1 hC1 ge ⊢
 have l0:DR Tryz.prog H 3 (.ptr h.length 0 0)=some (.int .i64 e.op):=by rw [DJ ag3 ge (row:=CW e) rfl,JC]
 have l2:DR Tryz.prog H 9 (.ptr h.length 0 2)=some (.str e.name):=by rw [DJ ag9 ge (row:=CW e) rfl,OB]
 simp -implicitDefEqProofs only [AZ,AO,AQ,AL,BD,AY,AC,AA,AX,BN,BO,BG,BV,BP,AB,jF,jD,jE,↓reduceIte,jA,Nat.add_zero,jB,jC,enP,FU,I8 AYX hob1,l0]
 refine (Rk.contains_rank G ops s0 e.op H hops).use ?_
 simp -implicitDefEqProofs only [AZ,BL,BX,CO,AO,AQ,AL,BD,AY,AC,AA,AX,BJ,↓reduceIte,jB,jC]
 have key : ∀ b1 b2:Bool,Rk.hasB ops e.op=b1→MN ns e.name=b2→(b1 && !b2)=false→nmU ops ns e=ns:=fun b1 b2 e1 e2 e3=>by
  unfold nmU; rw [e1,e2,e3]; simp
 cases hb1:Rk.hasB ops e.op
 ·simp -implicitDefEqProofs only [BB,A8,BR,BK,BI,A7,CV,DN,AZ,BA,BL,BX,CO,IP,AO,AQ,AL,BD,AY,AC,AA,EQ,AX,AU,BM,BC,CP,DZ,↓reduceIte,jA,jB,jC]
  exact ⟨trivial,v,hC1,by rw [key _ _ hb1 rfl rfl]; exact S1⟩
 simp -implicitDefEqProofs only [BL,BX,CO,GL,AO,AQ,AL,BD,AY,AC,AA,AX,BN,BO,BG,BV,BP,AB,BF,BQ,jF,jD,jE,↓reduceIte,jA,jG,jB,jC,enP,KF,I8 AE1 S1.cell,l2]
 refine (A0S G S1.out e.name (by omega)).use ?_
 simp -implicitDefEqProofs only [BI,A7,AZ,BA,BL,BX,CO,GL,AO,AQ,AL,BD,AY,AC,AA,AX,AU,BM,CP,DW,JG,AB,GG,↓reduceIte,jA,jB,jC]
 cases hb2:MN ns e.name
 ·have hu:nmU ops ns e=ns ++ [e.name]:=by unfold nmU; rw [hb1,hb2]; rfl
  obtain ⟨v',H',ha,ho,hk,hex,hle,hnew⟩:=S1.out.append (P:=Tryz.prog) APN sz9 AO5 AR7 (by omega) hn S1.ex e.name
  have ha':IU Tryz.prog true H 120 120 v (.sl .full 1 [[.str e.name]])=some (v',H'):=ha
  have hc':=hk c _ S1.cell S1.cne
  have hcl2:=CS S1.cell
  have hac:JL v'=some [v']:=by
   rcases ho with ⟨_,rfl⟩ | ⟨_,o,_,rfl,_⟩ <;> rfl
  simp -implicitDefEqProofs only [ER,EP,BB,A8,BK,A7,CV,DI,AZ,BA,AO,AQ,AL,BD,AY,AC,DU,AA,AX,AU,BM,BC,GR,BO,CU,BG,LV,CB,AB,BZ,BF,BQ,↓reduceIte,jA,jG,jB,jC,enP,KF,jK,I8 AE1 S1.cell,l2,AR9,ha',UI APS hac hc']
  refine ⟨trivial,v',hC1.trans ⟨by simpa using hle,fun b hb hbc hbv _ => ?_,fun b hb => .inr (by rw [hnew b hb]; exact Nat.le_refl _),fun b hb=>hb.elim⟩,?_⟩
  ·rw [jZ,if_neg (fun e=>hbc e.symm),jU hb]
   exact hk b _ (jU hb) hbv
  ·rw [hu]
   exact ⟨G7 hc',ho.keep fun b hb=>by rw [jZ,if_neg (fun e=>by have:=hnew b hb; omega)],S1.base,hex.set S1.base _⟩
 ·simp -implicitDefEqProofs only [BB,A8,BR,BK,A7,CV,DN,AZ,BA,AO,AQ,AL,BD,AY,AC,AA,AU,BM,BC,↓reduceIte,jB,jW,jC]
  exact ⟨trivial,v,hC1,by rw [key _ _ hb1 hb2 rfl]; exact S1⟩
theorem AQB (ops:List Int) (ns:List ByteArray) (e:Ex):nmL ops ns (pre e)=nmL ops (nmU ops ns e) (IZ e.args):=by rw [pre_eq]; rfl
theorem AKT (G:Nat→AV) (ops:List Int) (hops:ops.length≤1048576) (h0:Hp) (c ob vb db:Nat) (s0:SM) (hv:vb≠c) (hd:db≠c) (hoc:ob≠c) (e:Ex) :
  wt e≤1099511627776→∀ (h:Hp) (ns:List ByteArray) (v:AV),NSt h0 c ns v h→h[ob]? = some (.live 1 [[.sl s0 1 (ops.map qencI)]])→ns.length+(pre e).length≤8388608 →
   h[vb]? = some (.live 1 [[.fn (.func 193) [] [.ptr ob 0 0,.ptr c 0 0]]])→h[db]? = some (.live 1 [[.fn (.func 130) [] [.ptr vb 0 0,.ptr db 0 0]]]) →
   ACalls (En G) 130 [.agg (CW e),.ptr vb 0 0,.ptr db 0 0] h fun r h'=>r = .bool true∧∃ v',Cn c v h v' h'∧NSt h0 c (nmL ops ns (pre e)) v' h':=by
 induction e using Ex.induct with | h e ih => ?_
 intro hw h ns v S hob hlen hvb hdb
 have hcl:=CS S.cell
 have hal:e.args.length≤1099511627776:=by have:=WB e.args; have:=PX e; omega
 have hpe:(pre e).length=(IZ e.args).length+1:=by rw [pre_eq]; rfl
 have hfn : ∀ (k:FuncId) (a b:List AV) (x:ByteArray),[AV.fn (.func k) a b]≠[.str x]:=fun _ _ _ _ q=>by simp at q
 have hsl : ∀ (xs:List (List AV)) (x:ByteArray),[AV.sl s0 1 xs]≠[.str x]:=fun _ _ q=>by simp at q
 refine acN Tryz.func130 rfl ?_
 show awp _ _ _ _ _ (EN _ [.tmp 4] _)
 have S0:=S.app [ABlk.live 4 [CW e]]
 simp -implicitDefEqProofs only [BB,A8,A7,AZ,BA,AO,AQ,AL,BD,AY,AC,AA,AX,AU,BM,BC,FQ,BO,BV,BP,CB,AB,BF,BQ,jF,jD,zJ,zV,↓reduceIte,jA,jB,jC,enP,bxE,I8 AE2 (DC hvb),ldE]
 refine (AG1 G ops hops h0 c ob s0 e _ ns v S0 (DC hob) (by omega)).mono ?_
 rintro r h1 ⟨rfl,v1,hch,S1⟩
 have hch0:Cn c v h v1 h1:=(Ch.app c v .nilfn h _).trans hch
 have hb3:h1[h.length]? = some (.live 4 [CW e]):=hch.keep (DF _ _) (by omega) (S0.ne (DF _ _) (.inl (by decide)))
 have hvb1:=hch0.keep hvb hv (S.ne hvb (.inr (hfn _ _ _)))
 have hdb1:=hch0.keep hdb hd (S.ne hdb (.inr (hfn _ _ _)))
 have hob1:=hch0.keep hob hoc (S.ne hob (.inr (hsl _)))
 have l3:DR Tryz.prog h1 23 (.ptr h.length 0 3)=some (.sl e.m 4 (e.args.map CW)):=by rw [DJ NM hb3 (row:=CW e) rfl,NE]
 have hn1:=AMB ops ns e
 simp -implicitDefEqProofs only [BB,CE,A8,BR,BI,A7,DN,AZ,BA,AO,AQ,AL,BD,AY,AC,AA,AX,AU,BH,BJ,BO,JG,BG,FP,AB,GG,↓reduceIte,jA,jG,jB,jW,jC,enP,TD,IJ,l3,List.length_map]
 refine EG (fun n F H => ∃ j v',n+j=e.args.length∧F 1 = .ptr vb 0 0∧F 2 = .ptr db 0 0∧F 12 = .sl e.m 4 (e.args.map CW)∧F 13 = .int .i64 e.args.length∧F 14 = .int .i64 (j:Nat)∧Cn c v h v' H∧NSt h0 c (nmL ops (nmU ops ns e) (IZ (e.args.take j))) v' H∧H[vb]? = some (.live 1 [[.fn (.func 193) [] [.ptr ob 0 0,.ptr c 0 0]]])∧H[db]? = some (.live 1 [[.fn (.func 130) [] [.ptr vb 0 0,.ptr db 0 0]]])∧H[ob]? = some (.live 1 [[.sl s0 1 (ops.map qencI)]])) e.args.length
  ⟨0,v1,by simp,by simp -implicitDefEqProofs only [AA,BF,BQ,↓reduceIte,jA],by simp -implicitDefEqProofs only [AA,BF,BQ,↓reduceIte,jA],by simp -implicitDefEqProofs only [AA,↓reduceIte,jA],by simp -implicitDefEqProofs only [AA,↓reduceIte,jA],by simp -implicitDefEqProofs only [AA,↓reduceIte]; rfl,hch0,S1,hvb1,hdb1,hob1⟩ ?_
 rintro n F H ⟨j,v',hj,f1,f2,f12,f13,f14,hC,SH,hvH,hdH,hoH⟩
 simp -implicitDefEqProofs only [BB,A8,BI,A7,AZ,BA,AO,AQ,AL,BD,AY,AC,AA,AX,BU,AB,DV,↓reduceIte,jB,jC,enP,f13,f14]
 refine CQ (fun hlt => ?_) (fun hlt => ?_)
 ·have hj':j < e.args.length:=by simpa using hlt
  have hmem:e.args[j]∈e.args:=jT hj'
  have hsplit:IZ e.args=IZ (e.args.take j) ++ (pre e.args[j] ++ IZ (e.args.drop (j+1))):=by
   rw [← List.append_assoc,← KH _ _ hj',← ML,List.take_append_drop]
  have hln:=AFM ops (IZ (e.args.take j)) (nmU ops ns e)
  have hls:(IZ e.args).length=(IZ (e.args.take j)).length+((pre e.args[j]).length+(IZ (e.args.drop (j+1))).length):=by rw [hsplit,qB,qB]
  simp -implicitDefEqProofs only [BB,CE,A8,BR,A7,AZ,BA,AO,AQ,AL,BD,AY,AC,DU,AA,AX,EZ,BO,CU,CG,BV,BP,CB,AB,BZ,jF,jD,zJ,zV,↓reduceIte,jA,jB,jC,enP,LQ,jK,f12,f14,EX hj',EU KJ JR ES hj',AI9,AJQ _ _ [.int .i64 0,.int .i64 0,.str ⟨#[]⟩,.sl .nil 0 []] rfl,f2,I8 AE2 (DC hdH),ldE]
  have SH1:=SH.app [ABlk.live 4 [CW e.args[j]]]
  refine (ih e.args[j] hmem (by have:=WA hmem; have:=PX e; omega) _ _ v' SH1 (DC hoH) (by omega) (DC hvH) (DC hdH)).mono ?_
  rintro r h2 ⟨rfl,v2,hch2,S2⟩
  have hch2':Cn c v' H v2 h2:=(Ch.app c v' .nilfn H _).trans hch2
  have hvH2:=hch2'.keep hvH hv (SH.ne hvH (.inr (hfn _ _ _)))
  have hdH2:=hch2'.keep hdH hd (SH.ne hdH (.inr (hfn _ _ _)))
  have hoH2:=hch2'.keep hoH hoc (SH.ne hoH (.inr (hsl _)))
  simp -implicitDefEqProofs only [A8,BR,BI,A7,EO,FO,DN,AZ,BA,AO,AQ,AL,BD,AY,AC,AA,AX,AU,BH,BJ,BU,JG,AB,D6,GG,↓reduceIte,jA,jB,jW,jC,enP,f1,f2,f12,f13,f14,wrap_succ (show j < 9223372036854775807 by omega)]
  refine ⟨n - 1,by omega,j+1,v2,by omega,trivial,trivial,trivial,trivial,rfl,hC.trans hch2',?_,hvH2,hdH2,hoH2⟩
  rw [KH _ _ hj',AT8]; exact S2
 ·have hj' : ¬ j < e.args.length:=by simpa using hlt
  simp -implicitDefEqProofs only [BB,A8,BK,EF,A7,FC,F6,F8,CV,AZ,BA,AO,AQ,AL,BD,AY,AC,AA,AU,BM,BC,↓reduceIte,jB,jC]
  rw [List.take_of_length_le (by omega),← AQB] at SH
  exact ⟨trivial,v',hC,SH⟩
theorem AJL (G:Nat→AV) (ops:List Int) (hops:ops.length≤1048576) (h0:Hp) (c ob:Nat) (s0:SM) (hoc:ob≠c) (e:Ex) (hw:wt e≤1048576) (h:Hp) (ns:List ByteArray) (v:AV) (S:NSt h0 c ns v h) (hob:h[ob]? = some (.live 1 [[.sl s0 1 (ops.map qencI)]])) (hn:ns.length≤1048576) :
  ACalls (En G) 87 [.agg (CW e),.fn (.func 193) [] [.ptr ob 0 0,.ptr c 0 0]] h fun _ h' => ∃ v',Cn c v h v' h'∧NSt h0 c (nmL ops ns (pre e)) v' h':=by
 have hcl:=CS S.cell
 have hol:=CS hob
 refine acN Tryz.func87 rfl ?_
 show awp _ _ _ _ _ (EN _ [] _)
 generalize hfv:AV.fn (.func 193) [] [.ptr ob 0 0,.ptr c 0 0]=fv
 have hbx : ∀ H:Hp,PO H fv=some (.ptr H.length 0 0,H ++ [.live 1 [[fv]]]):=fun H=>by rw [← hfv]; rfl
 simp -implicitDefEqProofs only [BB,A8,A7,AZ,BA,AO,AQ,AL,BD,AY,AC,AA,AX,EZ,FQ,CU,JQ,CB,BF,BQ,jF,jD,↓reduceIte,jA,jB,jC,enP,jK,bxE,hbx,AWO]
 have g0:(h ++ [ABlk.live 4 [CW e]] ++ [ABlk.live 1 [[fv]]] ++ [ABlk.live 1 [[AV.nilfn]]])[(h ++ [ABlk.live 4 [CW e]] ++ [ABlk.live 1 [[fv]]]).length]? = some (.live 1 [[.nilfn]]):=DF _ _
 simp -implicitDefEqProofs only [A8,A7,AZ,BA,AO,AQ,AL,BD,AY,DU,AA,AX,BO,BZ,↓reduceIte,jA,jB,jC,enP,UI AV4 (AWQ _ _ _) g0]
 have S3:=((S.app [ABlk.live 4 [CW e]]).app [ABlk.live 1 [[fv]]]).app [ABlk.live 1 [[AV.nilfn]]]
 have c3:Cn c v h v (h ++ [ABlk.live 4 [CW e]] ++ [ABlk.live 1 [[fv]]] ++ [ABlk.live 1 [[AV.nilfn]]]):=((Ch.app c v .nilfn h _).trans (Ch.app _ _ _ _ _)).trans (Ch.app _ _ _ _ _)
 have v3:(h ++ [ABlk.live 4 [CW e]] ++ [ABlk.live 1 [[fv]]] ++ [ABlk.live 1 [[AV.nilfn]]])[(h ++ [ABlk.live 4 [CW e]]).length]? = some (.live 1 [[fv]]):=DC (DF _ _)
 have e3:(h ++ [ABlk.live 4 [CW e]] ++ [ABlk.live 1 [[fv]]] ++ [ABlk.live 1 [[AV.nilfn]]])[h.length]? = some (.live 4 [CW e]):=DC (DC (DF _ _))
 have o3:(h ++ [ABlk.live 4 [CW e]] ++ [ABlk.live 1 [[fv]]] ++ [ABlk.live 1 [[AV.nilfn]]])[ob]? = some (.live 1 [[.sl s0 1 (ops.map qencI)]]):=DC (DC (DC hob))
 have hdl:(h ++ [ABlk.live 4 [CW e]] ++ [ABlk.live 1 [[fv]]]).length=h.length+2:=by simp
 have hvl:(h ++ [ABlk.live 4 [CW e]]).length=h.length+1:=by simp
 generalize (h ++ [ABlk.live 4 [CW e]] ++ [ABlk.live 1 [[fv]]]).length=db at g0 hdl ⊢
 generalize (h ++ [ABlk.live 4 [CW e]]).length=vb at v3 hvl ⊢
 generalize h ++ [ABlk.live 4 [CW e]] ++ [ABlk.live 1 [[fv]]] ++ [ABlk.live 1 [[AV.nilfn]]]=H at g0 S3 c3 v3 e3 o3 ⊢
 have hdn : ¬ isB v db:=S3.ne g0 (.inr fun x q=>by simp at q)
 generalize hH:H.set db (.live 1 [[AV.fn (.func 130) [] [.ptr vb 0 0,.ptr db 0 0]]])=H'
 have gd:H'[db]? = some (.live 1 [[.fn (.func 130) [] [.ptr vb 0 0,.ptr db 0 0]]]):=by rw [← hH]; exact G7 g0
 have gv:H'[vb]? = some (.live 1 [[fv]]):=by rw [← hH]; exact MO v3 (by omega)
 have ge:H'[h.length]? = some (.live 4 [CW e]):=by rw [← hH]; exact MO e3 (by omega)
 have go:H'[ob]? = some (.live 1 [[.sl s0 1 (ops.map qencI)]]):=by rw [← hH]; exact MO o3 (by omega)
 have hb0:=S.ex.le
 have S4:NSt h0 c ns v H':=by
  rw [← hH]
  exact ⟨MO S3.cell (by omega),S3.out.keep fun b hb=>by rw [jZ,if_neg (fun q=>hdn (by rw [q]; exact hb))],S3.base,S3.ex.set (by omega) _⟩
 have c4:Cn c v h v H':=by
  rw [← hH]
  exact ⟨by have:=c3.len; simpa using this,fun b hb hbc hbv hbu=>by rw [jZ,if_neg (by omega)]; exact c3.get b hb hbc hbv hbu,fun _ q => .inl q,fun _ q => .inl q⟩
 simp -implicitDefEqProofs only [AZ,AO,AQ,AL,BD,AY,AC,AA,AX,BO,BV,BP,AB,jF,jD,zJ,zV,↓reduceIte,jA,jB,jC,enP,I8 AE2 gd,G6 ge]
 rw [← hfv] at gv
 have hp:=QI e
 refine (AKT G ops hops h0 c ob vb db s0 (by omega) (by omega) hoc e (by omega) H' ns v S4 go (by omega) gv gd).mono ?_
 rintro r h' ⟨rfl,v',hch,S5⟩
 simp -implicitDefEqProofs only [G9,BA,AC]
 exact ⟨v',c4.trans hch,S5⟩
theorem A1O (h:Hp):J8 Tryz.prog h 120=some (.ptr h.length 0 0,h ++ [.live 1 [[.sl .nil 0 []]]]):=KI (row := [.sl .nil 0 []]) (by kernel_rfl)
theorem AB7 (G:Nat→AV) (ops:List Int) (hops:ops.length≤1048576) (s0:SM) (e:Ex) (hw:wt e≤1048576) (h:Hp):PCall (En G) 161 [.agg (CW e),.sl s0 1 (ops.map qencI)] h (.sl (nm (nmL ops [] (pre e))) 1 ((nmL ops [] (pre e)).map encStr)):=by
 refine ZI AX0 ?_
 refine acN Tryz.func161 rfl ?_
 show awp _ _ _ _ _ (EN _ [.tmp 4] _)
 have ge:=DC (x:=ABlk.live 1 [[.sl .nil 0 []]]) (DC (x:=ABlk.live 1 [[AV.sl s0 1 (ops.map qencI)]]) (DF h (.live 4 [CW e])))
 have go:=DC (x:=ABlk.live 1 [[.sl .nil 0 []]]) (DF (h ++ [ABlk.live 4 [CW e]]) (ABlk.live 1 [[AV.sl s0 1 (ops.map qencI)]]))
 have gc:=DF (h ++ [ABlk.live 4 [CW e]] ++ [ABlk.live 1 [[AV.sl s0 1 (ops.map qencI)]]]) (ABlk.live 1 [[.sl .nil 0 []]])
 have hx:ext h (h ++ [ABlk.live 4 [CW e]] ++ [ABlk.live 1 [[AV.sl s0 1 (ops.map qencI)]]] ++ [ABlk.live 1 [[.sl .nil 0 []]]]):=(((ext.rfl' h).app _).app _).app _
 have hol:(h ++ [ABlk.live 4 [CW e]]).length=h.length+1:=by simp
 have hcl:(h ++ [ABlk.live 4 [CW e]] ++ [ABlk.live 1 [[AV.sl s0 1 (ops.map qencI)]]]).length=h.length+2:=by simp
 simp -implicitDefEqProofs only [AK4,BB,A8,A7,AZ,BA,AO,AQ,AL,BD,AY,AC,AA,AX,AU,KZ,BC,EZ,FQ,BO,CB,BF,BQ,↓reduceIte,jA,jB,jC,enP,bxE,A1O]
 generalize h ++ [ABlk.live 4 [CW e]] ++ [ABlk.live 1 [[AV.sl s0 1 (ops.map qencI)]]] ++ [ABlk.live 1 [[.sl .nil 0 []]]]=H at ge go gc hx ⊢
 generalize (h ++ [ABlk.live 4 [CW e]] ++ [ABlk.live 1 [[AV.sl s0 1 (ops.map qencI)]]]).length=c at gc hcl ⊢
 generalize (h ++ [ABlk.live 4 [CW e]]).length=ob at go hol ⊢
 simp -implicitDefEqProofs only [AZ,AO,AQ,AL,BD,AY,AC,AA,AX,BN,JQ,BV,BP,AB,jF,jD,jE,↓reduceIte,jA,jB,jC,G6 ge]
 have S:NSt h c [] (.sl .nil 0 []) H:=⟨gc,outG.nil _ _ _ _,by omega,hx⟩
 refine (AJL G ops hops h c ob s0 (by omega) e hw H [] _ S go (by simp)).mono ?_
 rintro r h' ⟨v',hch,S5⟩
 simp -implicitDefEqProofs only [BB,A8,BK,A7,CV,AZ,BA,AO,AQ,AL,BD,AY,AC,AA,AX,BC,BO,AB,↓reduceIte,jA,jB,jC,enP,I8 AE1 S5.cell]
 exact ⟨S5.ex,S5.out⟩
theorem A0Y (h:Hp) (a b:Int):GN Tryz.prog false h 45 2 [(0,.int .i64 a),(1,.int .i64 b)]=some (.sl .full 1 [[.int .i64 a],[.int .i64 b]],h):=by kernel_rfl
theorem ALI (G:Nat→AV) (e:Ex) (hw:wt e≤1048576) (h:Hp):PCall (En G) 111 [.agg (CW e)] h (.sl (nm (nmL [2] [] (pre e))) 1 ((nmL [2] [] (pre e)).map encStr)):=by
 refine ACalls.pure0 rfl ?_
 refine acN Tryz.func111 rfl ?_
 show awp _ _ _ _ _ (EN _ [.tmp 2] _)
 simp -implicitDefEqProofs only [ER,EP,BB,A8,A7,AZ,BA,AO,AQ,AL,BD,AY,AC,AA,AX,AU,BN,BH,KZ,BC,FQ,GR,BO,BV,BP,CB,AB,BF,jF,jD,jE,↓reduceIte,jA,jB,jC,enP,bxE,ldE,A0Z]
 refine (AB7 G [2] (by decide) .full e hw _).use ?_
 simp -implicitDefEqProofs only [BK,A7,CV,AZ,BA,AO,AQ,AL,BD,AY,AC,AA,AX,BC,↓reduceIte,jB,jC]
 exact ⟨trivial,_,rfl⟩
theorem AJI (G:Nat→AV) (e:Ex) (hw:wt e≤1048576) (h:Hp):PCall (En G) 109 [.agg (CW e)] h (.sl (nm (nmL [3,24] [] (pre e))) 1 ((nmL [3,24] [] (pre e)).map encStr)):=by
 refine ACalls.pure0 rfl ?_
 refine acN Tryz.func109 rfl ?_
 show awp _ _ _ _ _ (EN _ [.tmp 2] _)
 simp -implicitDefEqProofs only [ER,EP,BB,A8,A7,AZ,BA,AO,AQ,AL,BD,AY,AC,AA,AX,AU,BN,BH,KZ,BC,FQ,GR,BO,BV,BP,CB,AB,BF,jF,jD,jE,↓reduceIte,jA,jB,jC,enP,bxE,ldE,A0Y]
 refine (AB7 G [3,24] (by decide) .full e hw _).use ?_
 simp -implicitDefEqProofs only [BK,A7,CV,AZ,BA,AO,AQ,AL,BD,AY,AC,AA,AX,BC,↓reduceIte,jB,jC]
 exact ⟨trivial,_,rfl⟩
end Go.Proofs.YtokehnfjjmpanaaGreatDoor.Xe
namespace Go.Proofs.YtokehnfjjmpanaaGreatDoor.Xe
open Sm Bins Cov Wd Go.RowKit
open Bool renaming not_false→jC,not_true→jW
open Int renaming reduceBEq→jS
open List renaming length_map→jR,mem_cons→qI,map_cons→jF,map_nil→jD,append_nil→jE,getElem?_cons_zero→zB,getElem?_cons_succ→zD,length_append→qB,length_cons→qF,mem_cons_of_mem→qU
open Nat renaming le_of_ble_eq_true→jJ,reduceEqDiff→jA,add_zero→jH,zero_add→jG
open Option renaming getD_some→jB
def AFE (l:List Sg) (op n:Int) (name:ByteArray) (vs:List Nat):Nat :=
 if op=1 then n.toNat % 65536 else if op=2 then (QR l name).1 else if op=3 then (atG l name (vs.getD 0 0:Nat)).1 else if op=24 then sumTo l name 8 else opW op vs
mutual
def ADO (l:List Sg):Ex→Nat
 | .mk op n name _ args=>AFE l op n name (O1 l args)
def O1 (l:List Sg):List Ex→List Nat
 | [] => []
 | e :: es=>ADO l e :: O1 l es
end
theorem AFF (l:List Sg) (e:Ex):ADO l e=AFE l e.op e.n e.name (O1 l e.args):=by cases e; simp [ADO,Ex.op,Ex.n,Ex.name,Ex.args]
theorem QZ (l:List Sg) : ∀ xs:List Ex,O1 l xs=xs.map (ADO l)
 | []=>by simp [O1]
 | e :: es=>by simp [O1,QZ l es]
theorem AD3 (l:List Sg) (xs:List Ex):(O1 l xs).length=xs.length:=by rw [QZ,jR]
theorem AJN (l:List Sg) (xs:List Ex) (j:Nat) (hj:j < xs.length):O1 l (xs.take (j+1))=O1 l (xs.take j) ++ [ADO l xs[j]]:=by
 rw [QZ,QZ,List.take_succ_eq_append_getElem hj,List.map_append]; rfl
theorem ATH (l:List Sg) (e:Ex):ADO l e < 65536:=by
 induction e using Ex.induct with | h e ih => ?_
 rw [AFF]
 have hv : ∀ x∈O1 l e.args,x < 65536:=by
  intro x hx
  rw [QZ] at hx
  obtain ⟨a,ha,rfl⟩:=List.mem_map.1 hx
  exact ih a ha
 unfold AFE
 split
 ·exact Nat.mod_lt _ (by omega)
 split
 ·exact ACO _ _
 split
 ·exact ASM _ _ _
 split
 ·exact AG6 _ _ _
 ·exact AXM _ hv
theorem APK (l:List Sg) (xs:List Ex) : ∀ x∈O1 l xs,x < 65536:=by
 intro x hx
 rw [QZ] at hx
 obtain ⟨a,_,rfl⟩:=List.mem_map.1 hx
 exact ATH l a
def knE (l:List Sg) (e:Ex):Bool:=if e.op=2 then (QR l e.name).2 else if e.op=3∨e.op=24 then (atG l e.name 0).2 else true
theorem VP {e:Ex} (h:JH e=0):(e.op=1→0≤e.n∧e.n≤65535)∧(e.op=3→e.args.length=1)∧(e.op≠1→e.op≠2→e.op≠3→e.op≠24→AS0 e.op e.args.length):=by
 unfold JH at h
 have hO:VG e=false:=by
  cases hb:VG e
  ·rfl
  ·rw [hb] at h; simp at h
 have hN:AC9 e=false:=by
  cases hb:AC9 e
  ·rfl
  ·rw [hO,hb] at h; simp at h
 have hS:Z8 e=false:=by
  cases hb:Z8 e
  ·rfl
  ·rw [hO,hN,hb] at h; simp at h
 have hops:WU e.op e.args.length=true:=by
  unfold Z8 at hS
  rw [Bool.or_eq_false_iff] at hS
  simpa using hS.2
 have h1:1≤e.op∧e.op≤25:=by unfold VG at hO; simp at hO; omega
 refine ⟨fun h1 => ?_,fun h3 => ?_,fun n1 n2 n3 n24=>⟨fun h22 => ?_,fun h23 => ?_,fun n22 n23 => ?_⟩⟩
 ·unfold AC9 at hN; simp [h1] at hN; omega
 ·unfold WU at hops; rw [h3] at hops; simp [arity] at hops; omega
 ·unfold WU at hops; rw [h22] at hops; simp [arity] at hops; omega
 ·unfold WU at hops; rw [h23] at hops; simp at hops; omega
 ·unfold WU at hops
  rw [if_neg (by simpa using n23)] at hops
  have h5:arity e.op=1∨arity e.op=2:=by
   by_cases hq:e.op=3∨e.op=4∨e.op=5∨e.op=6∨e.op=25
   ·left; unfold arity; rw [if_neg (by omega),if_neg (by omega),if_pos hq]
   ·right; unfold arity; rw [if_neg (by omega),if_neg (by omega),if_neg hq,if_neg n22,if_neg n23]
  have h6:((e.args.length:Nat):Int)=arity e.op:=by simpa using hops
  omega
theorem str_eq {a b:ByteArray} (h:(a.toList == b.toList)=true):a=b:=by
 rw [ByteArray.toList_eq,ByteArray.toList_eq] at h
 exact ByteArray.ext (Array.toList_inj.1 (beq_iff_eq.1 h))
theorem AT7 (P:ByteArray→Bool) (ops:List Int) (ns:List ByteArray) (e:Ex):(nmU ops ns e).all P=(ns.all P && (!Rk.hasB ops e.op || P e.name)):=by
 unfold nmU
 cases hb:Rk.hasB ops e.op
 ·simp
 cases hs:MN ns e.name
 ·simp
 ·simp
  intro ha
  unfold MN at hs
  rw [List.any_eq_true] at hs
  obtain ⟨u,hu,he⟩:=hs
  rw [str_eq he]; exact ha u hu
theorem AFN (P:ByteArray→Bool) (ops:List Int) : ∀ (xs:List Ex) (ns:List ByteArray),(nmL ops ns xs).all P=(ns.all P && xs.all fun e => !Rk.hasB ops e.op || P e.name)
 | [],ns=>by simp [nmL]
 | e :: xs,ns=>by
   have:=AFN P ops xs (nmU ops ns e)
   simp only [nmL,List.foldl_cons,List.all_cons] at this ⊢
   rw [this,AT7,Bool.and_assoc]
theorem ARQ {xs:List Ex} (h:errs xs=0) : ∀ x∈xs,JH x=0:=by
 induction xs with
 | nil=>intro x hx; cases hx
 | cons y ys ih =>
   have h1:ys.foldl (fun z e=>if z=0 then JH e else z) (JH y)=0:=h
   have hy:JH y=0:=by
    rcases Classical.em (JH y=0) with q | q
    ·exact q
    ·rw [AF7 _ _ q] at h1; exact h1
   rw [hy] at h1
   intro x hx
   rcases qI.1 hx with rfl | hx
   ·exact hy
   ·exact ih h1 x hx
theorem PK {e:Ex} (h:exE e=0) : ∀ x∈pre e,JH x=0:=by
 unfold exE at h
 split at h
 ·cases h
 ·exact ARQ h
def evE (l:List Sg) (e:Ex):Nat × Int:=if exE e≠0 then (0,1) else if (pre e).all (knE l)=true then (ADO l e,0) else (0,7)
def evV (p:Nat × Int):AV := .tup [.int .i64 (p.1:Nat),.int .i64 p.2]
theorem AKP (p:Nat × Int) (n:Nat) (H:Hp):JS n H 2 (evV p)=evV p:=rfl
section
variable (G:Nat→AV)
theorem ASN (op:Int) (h:Hp):PCall (En G) 100 [.int .i64 op] h (.bool ((op == 1) || KL op)):=by
 refine acN Tryz.func100 rfl ?_
 show awp _ _ _ _ _ (EN _ [.tmp 2] _)
 simp -implicitDefEqProofs only [BB,A8,A7,AZ,BA,BL,BX,CO,AO,AQ,AL,BD,AY,AC,AA,AX,AU,BH,BM,BJ,BC,BU,AB,CX,BF,↓reduceIte,jA,jB,jC,enX,enP]
 cases ha:(op == 1)
 ·simp -implicitDefEqProofs only [Bool.false_or,BL,BX,CO,EY,AO,AQ,AL,BD,AY,AC,AA,AX,BN,BJ,BV,BP,BF,jF,jD,jE,↓reduceIte,jA,jB,jC,ha]
  refine (WI G op h).use ?_
  simp -implicitDefEqProofs only [BK,A7,CV,AZ,BA,AO,AQ,AL,BD,AY,AC,AA,AX,AU,BM,BC,CP,DZ,↓reduceIte,jA,jB,jC]
  exact ⟨by trivial,trivial⟩
 ·simp -implicitDefEqProofs only [Bool.true_or,BK,A7,CV,AZ,BA,BL,BX,CO,F7,AO,AQ,AL,BD,AY,AC,AA,EQ,AX,AU,BM,BC,CP,DW,↓reduceIte,jA,jB,jC,ha]
  exact ⟨by trivial,trivial⟩
def lfE (l:List Sg) (e:Ex) (vs:List Nat):Nat × Int:=if knE l e=true then (AFE l e.op e.n e.name vs,0) else (0,7)
theorem AQR (l:List Sg) (m:SM) (e:Ex) (vs:List Nat) (v:AV) (h0 h:Hp) (hl:l.length≤1099511627776) (hok : ∀ s∈l,AOY s) (hnz:e.name.size≤1048576) (hnode:JH e=0) (hask:e.op=1∨e.op=2∨e.op=3∨e.op=24) (hvs:vs.length=e.args.length) (ho:outG 1 AII h0 vs v h) :
  PCall (En G) 101 [.agg (CW e),.sl m 2 (l.map U9),v] h (evV (lfE l e vs)):=by
 refine JW 2 (AKP _) ?_
 obtain ⟨o1,o3,_⟩:=VP hnode
 refine acN Tryz.func101 rfl ?_
 show awp _ _ _ _ _ (EN _ [.tmp 6,.tmp 7] _)
 have ge:=DF h (ABlk.live 4 [CW e])
 have hx:ext h (h ++ [ABlk.live 4 [CW e]]):=(ext.rfl' h).app _
 have ho1:=ho.app [ABlk.live 4 [CW e]]
 simp -implicitDefEqProofs only [BB,A8,A7,AZ,BA,AO,AQ,AL,BD,AY,AC,AA,AX,AU,BH,BC,FQ,BO,BG,CB,AB,BF,↓reduceIte,jA,jH,jB,jC,enP,FU,bxE]
 generalize h ++ [ABlk.live 4 [CW e]]=H at ge hx ho1 ⊢
 have l0:DR Tryz.prog H 3 (.ptr h.length 0 0)=some (.int .i64 e.op):=by rw [DJ ag3 ge (row:=CW e) rfl,JC]
 have l1:DR Tryz.prog H 3 (.ptr h.length 0 1)=some (.int .i64 e.n):=by rw [DJ ag3 ge (row:=CW e) rfl,XF]
 have l2:DR Tryz.prog H 9 (.ptr h.length 0 2)=some (.str e.name):=by rw [DJ ag9 ge (row:=CW e) rfl,OB]
 simp -implicitDefEqProofs only [BI,A7,AZ,BA,AO,AQ,AL,BD,AY,AC,AA,AX,AU,BH,BU,AB,CX,↓reduceIte,jB,jC,enP,l0]
 by_cases e1:e.op=1
 ·have c1:(e.op == 1)=true:=by simpa using e1
  have hk:knE l e=true:=by unfold knE; rw [if_neg (by omega),if_neg (by omega)]
  have:=o1 e1
  simp -implicitDefEqProofs only [BB,A8,BK,A7,CJ,JU,DI,AZ,BA,AO,AQ,AL,BD,AY,AC,AA,AX,AU,BH,BC,BO,BG,AB,↓reduceIte,jA,jG,jB,jC,enP,XR,c1,l1]
  refine ⟨?_,hx⟩
  unfold lfE AFE evV
  rw [if_pos hk,if_pos e1]
  congr 3; show e.n=((e.n.toNat % 65536:Nat):Int); omega
 have c1:(e.op == 1)=false:=by simpa using e1
 by_cases e2:e.op=2
 ·have c2:(e.op == 2)=true:=by simpa using e2
  have hkn:knE l e=(QR l e.name).2:=by unfold knE; rw [if_pos e2]
  simp -implicitDefEqProofs only [BB,A8,BR,BI,A7,DI,DN,AZ,BA,AO,AQ,AL,BD,AY,AC,AA,AX,AU,BN,BH,BJ,BO,BU,BG,BV,BP,AB,CX,BF,BQ,jF,jD,jE,↓reduceIte,jA,jH,jG,jB,jC,enP,FU,KF,c1,c2,l0,l2]
  refine (ACN G l m _ H hl hok).use ?_
  unfold AL8
  simp -implicitDefEqProofs only [zB,zD,BB,A8,BI,A7,AZ,BA,AO,AQ,AL,BD,AY,AC,AA,AX,BJ,BC,JG,G8,JJ,AB,GG,↓reduceIte,jA,jB,jC]
  cases hk:(QR l e.name).2
  ·simp -implicitDefEqProofs only [BB,A8,BK,A7,CJ,JU,DI,AZ,BA,AO,AQ,AL,BD,AY,AC,AA,AU,BH,BC,↓reduceIte,jA,jB,jC]
   exact ⟨by unfold lfE; rw [if_neg (by rw [hkn,hk]; decide)]; rfl,hx⟩
  ·simp -implicitDefEqProofs only [BB,A8,BR,BK,A7,CJ,JU,DN,AZ,BA,AO,AQ,AL,BD,AY,AC,AA,AX,AU,BH,BJ,BC,↓reduceIte,jA,jB,jW,jC]
   exact ⟨by unfold lfE AFE; rw [if_pos (by rw [hkn,hk]),if_neg e1,if_pos e2]; rfl,hx⟩
 have c2:(e.op == 2)=false:=by simpa using e2
 have hkn:knE l e=(QR l (elN e.name 0)).2:=by
  unfold knE
  rw [if_neg e2,if_pos (by omega)]
  unfold atG
  rw [if_neg (by omega)]; rfl
 simp -implicitDefEqProofs only [BB,A8,BR,BI,A7,DN,AZ,BA,AO,AQ,AL,BD,AY,AC,AA,AX,AU,BN,BH,BJ,BO,BU,BG,BV,BP,AB,CX,BF,BQ,jF,jD,jE,↓reduceIte,jA,jH,jG,jB,jC,enP,FU,KF,c1,c2,l0,l2]
 refine (AAY G e.name 0 (by omega) H hnz).use ?_
 simp -implicitDefEqProofs only [AZ,AO,AQ,AL,BD,AY,AC,AA,AX,BN,BV,BP,jF,jD,jE,↓reduceIte,jA,jB,jC]
 refine (ACN G l m _ H hl hok).use ?_
 unfold AL8
 simp -implicitDefEqProofs only [zB,zD,BB,A8,BI,A7,AZ,BA,AO,AQ,AL,BD,AY,AC,AA,AX,BJ,BC,JG,G8,JJ,AB,GG,↓reduceIte,jA,jB,jC]
 cases hk:(QR l (elN e.name 0)).2
 ·simp -implicitDefEqProofs only [BB,A8,BK,A7,CJ,JU,DI,AZ,BA,AO,AQ,AL,BD,AY,AC,AA,AU,BH,BC,↓reduceIte,jA,jB,jC]
  exact ⟨by unfold lfE; rw [if_neg (by rw [hkn,hk]; decide)]; rfl,hx⟩
 have hk':knE l e=true:=by rw [hkn,hk]
 by_cases e3:e.op=3
 ·have c3:(e.op == 3)=true:=by simpa using e3
  have hl1:vs.length=1:=by rw [hvs,o3 e3]
  obtain ⟨o,rfl,hob⟩ : ∃ o,v = .own o 0 1∧H[o]? = some (.live 1 (vs.map AII)):=by
   rcases ho1 with ⟨h0,_⟩ | ⟨_,o,_,rfl,hb⟩
   ·rw [h0] at hl1; simp at hl1
   ·exact ⟨o,by rw [hl1],hb⟩
  have hlen:0 < vs.length:=by omega
  have i0:I4 1 H (.own o 0 1) (.int .i64 0)=some (.ptr o 0 0):=JK (n:=0) hob (by decide)
  have d0:DR Tryz.prog H 3 (.ptr o 0 0)=some (.int .i64 (vs.getD 0 0:Nat)):=by
   rw [DJ ag3 hob (row:=AII vs[0]) (ABF hlen),List.getD_eq_getElem?_getD,List.getElem?_eq_getElem hlen]; rfl
  simp -implicitDefEqProofs only [BB,A8,BR,BI,A7,DI,DN,AZ,BA,AO,AQ,AL,BD,AY,AC,AA,AX,AU,BH,BO,BU,BG,AB,CX,↓reduceIte,jA,jH,jB,jW,jC,enP,FU,l0,c3]
  refine EK (by kernel_rfl) ?_
  simp -implicitDefEqProofs only [ET,DK,CY,D7,DL,EH,G5,EC,C9,D9,EI,EE,BK,A7,CJ,JU,AO,AA,AX,AU,BN,BH,BO,BG,CG,AB,BF,BQ,jF,jD,jE,↓reduceIte,jA,Nat.reduceAdd,jG,jB,enP,KF,WV,l2,i0,d0]
  refine ⟨_,AAP G l m _ _ H hl hok hnz,?_⟩
  try simp -implicitDefEqProofs only []
  exact ⟨by unfold lfE AFE; rw [if_pos hk',if_neg e1,if_neg e2,if_pos e3]; rfl,hx⟩
 have c3:(e.op == 3)=false:=by simpa using e3
 have e24:e.op=24:=by omega
 simp -implicitDefEqProofs only [BB,CE,A8,BR,BI,A7,DN,AZ,BA,AO,AQ,AL,BD,AY,AC,AA,AX,AU,BH,BC,BO,BU,BG,AB,CX,↓reduceIte,jA,jH,jB,jW,jC,enP,FU,l0,c3]
 refine EG (fun k F H' => ∃ j,k+j=8∧F 1 = .sl m 2 (l.map U9)∧F 3 = .ptr h.length 0 0∧F 12 = .int .i64 (sumTo l e.name j:Nat)∧F 13 = .int .i64 (j:Nat)∧H'=H) 8 ⟨0,by simp,by simp -implicitDefEqProofs only [AA,BF,BQ,↓reduceIte,jA],by simp -implicitDefEqProofs only [AA,↓reduceIte,jA],by simp -implicitDefEqProofs only [AA,↓reduceIte,jA] <;> rfl,by simp -implicitDefEqProofs only [AA,↓reduceIte] <;> rfl,rfl⟩ ?_
 rintro k F H' ⟨j,hj,f1,f3,f12,f13,rfl⟩
 simp -implicitDefEqProofs only [BB,A8,BI,A7,AZ,BA,AO,AQ,AL,BD,AY,AC,AA,AX,AU,BH,BJ,BU,AB,DV,↓reduceIte,jB,jC,enP,f13]
 refine CQ (fun hc => ?_) (fun hc => ?_)
 ·have hj':j < 8:=by simp at hc; omega
  simp -implicitDefEqProofs only [BB,CE,A8,BR,A7,AZ,AO,AQ,AL,BD,AY,AC,AA,AX,BN,BJ,BO,BG,BV,BP,AB,jF,jD,jE,↓reduceIte,jA,jG,jB,jC,enP,KF,f1,f3,f12,f13,l2]
  refine (AAP G l m _ _ H' hl hok hnz).use ?_
  simp -implicitDefEqProofs only [AZ,AO,AQ,AL,BD,AY,AC,AA,AX,BN,BV,BP,jF,jD,jE,↓reduceIte,jA,jB,jC]
  refine (AWP G _ _ (AG6 l _ j) (ASM l _ (j:Nat)) H').use ?_
  simp -implicitDefEqProofs only [A8,A7,EO,FO,AZ,BA,AO,AQ,AL,BD,AY,AC,AA,AX,AU,BH,BJ,BC,BU,AB,D6,↓reduceIte,jA,jB,jC,enP,f1,f3,f12,f13,wrap_succ (show j < 9223372036854775807 by omega)]
  exact ⟨k - 1,by omega,j+1,by omega,by trivial,by trivial,by trivial,by trivial,trivial⟩
 ·have hj':j=8:=by simp at hc; omega
  subst hj'
  simp -implicitDefEqProofs only [BB,A8,BK,EF,A7,FC,F6,F8,JU,AZ,BA,AO,AQ,AL,BD,AY,AC,AA,AX,AU,BH,BJ,BC,↓reduceIte,jA,jB,jC,f12]
  exact ⟨by unfold lfE AFE; rw [if_pos hk',if_neg e1,if_neg e2,if_neg e3,if_pos e24]; rfl,hx⟩
def vlE (l:List Sg) (e:Ex):Nat × Int:=if (pre e).all (knE l)=true then (ADO l e,0) else (0,7)
theorem TN : ∀ xs:List Ex,xs.length≤(IZ xs).length
 | []=>by simp [IZ]
 | x :: xs=>by
   have:=TN xs
   simp only [IZ,qB,qF,pre_eq x]; omega
theorem N7 {a:Ex} : ∀ {xs:List Ex},a∈xs→(pre a).length≤(IZ xs).length
 | x :: xs,h=>by
   simp only [IZ,qB]
   rcases qI.1 h with rfl | h
   ·omega
   ·have:=N7 h; omega
theorem AL5 (l:List Sg) (e:Ex):(pre e).all (knE l)=(knE l e && (IZ e.args).all (knE l)):=by rw [pre_eq]; rfl
set_option maxHeartbeats 1000000 in
theorem ANF (l:List Sg) (m:SM) (hl:l.length≤1099511627776) (hok : ∀ s∈l,AOY s) (e:Ex):(pre e).length≤1048576→(∀ x∈pre e,x.name.size≤1048576)→(∀ x∈pre e,JH x=0)→∀ h:Hp,PCall (En G) 54 [.agg (CW e),.sl m 2 (l.map U9)] h (evV (vlE l e)):=by
 induction e using Ex.induct with | h e ih => ?_
 intro hw hnm hval h
 have hpl:=congrArg List.length (pre_eq e)
 rw [qF] at hpl
 have hal:e.args.length≤1048576:=by have:=TN e.args; omega
 have hnode:=hval e (by rw [pre_eq]; simp)
 obtain ⟨o1,o3,oo⟩:=VP hnode
 refine JW 2 (AKP _) ?_
 refine acN Tryz.func54 rfl ?_
 show awp _ _ _ _ _ (EN _ [.tmp 4,.tmp 5] _)
 have ge:=DF h (ABlk.live 4 [CW e])
 have hx:ext h (h ++ [ABlk.live 4 [CW e]]):=(ext.rfl' h).app _
 simp -implicitDefEqProofs only [BB,CE,A8,A7,AZ,BA,AO,AQ,AL,BD,AY,AC,AX,AU,BH,KZ,BC,FQ,CB,BF,jB,jC,enP,bxE]
 generalize h ++ [ABlk.live 4 [CW e]]=H1 at ge hx ⊢
 generalize h.length=eb at ge ⊢
 refine IY 0 (fun F H => ∃ v,F 1 = .sl m 2 (l.map U9)∧F 2 = .ptr eb 0 0∧F 6=v∧ext H1 H∧outG 1 AII H1 (O1 l e.args) v H∧(IZ e.args).all (knE l)=true) (fun F H=>F 4 = .int .i64 0∧F 5 = .int .i64 7∧ext H1 H∧(IZ e.args).all (knE l)=false) ?_ ?_ ?_
 ·refine EG (fun k F H => ∃ j v,k+j=e.args.length∧F 1 = .sl m 2 (l.map U9)∧F 2 = .ptr eb 0 0∧F 6=v∧F 7 = .int .i64 (j:Nat)∧ext H1 H∧outG 1 AII H1 (O1 l (e.args.take j)) v H∧(IZ (e.args.take j)).all (knE l)=true) e.args.length
   ⟨0,.sl .nil 0 [],by simp,by simp -implicitDefEqProofs only [AA,BF,BQ,↓reduceIte,jA],by simp -implicitDefEqProofs only [AA,↓reduceIte,jA],by simp -implicitDefEqProofs only [AA,↓reduceIte,jA],by simp -implicitDefEqProofs only [AA,↓reduceIte] <;> rfl,ext.rfl' H1,outG.nil _ _ _ _,rfl⟩ ?_
  rintro k F H ⟨j,v,hj,f1,f2,f6,f7,hxH,ho,hkn⟩
  have geH:=FD hxH ge
  have l3:DR Tryz.prog H 23 (.ptr eb 0 3)=some (.sl e.m 4 (e.args.map CW)):=by rw [DJ NM geH (row:=CW e) rfl,NE]
  simp -implicitDefEqProofs only [BB,A8,BI,A7,AZ,BA,AO,AQ,AL,BD,AY,AC,AA,AX,BJ,BO,BU,BG,FP,AB,DV,↓reduceIte,jA,jG,jB,jC,enP,TD,IJ,f2,f7,l3,jR]
  refine CQ (fun hc => ?_) (fun hc => ?_)
  ·have hj':j < e.args.length:=by simpa using hc
   have hmem:e.args[j]∈e.args:=List.getElem_mem hj'
   have htl:(O1 l (e.args.take j)).length < 8388608:=by rw [AD3]; simp; omega
   have hsplit:IZ e.args=IZ (e.args.take j) ++ (pre e.args[j] ++ IZ (e.args.drop (j+1))):=by
    rw [← List.append_assoc,← KH _ _ hj',← ML,List.take_append_drop]
   obtain ⟨v',H',ha,ho',_,hx',_,_⟩:=ho.append (P:=Tryz.prog) AY7 sz3 A10 A0U (by omega) htl hxH (ADO l e.args[j])
   have ha':IU Tryz.prog true H 45 45 v (.sl .full 1 [[.int .i64 ((ADO l e.args[j]:Nat):Int)]])=some (v',H'):=ha
   simp -implicitDefEqProofs only [BB,CE,A8,BR,A7,AZ,AO,AQ,AL,BD,AY,AC,AA,AX,BN,BJ,BO,BG,CG,BV,BP,AB,jF,jD,jE,↓reduceIte,jA,jG,jB,jC,enP,LQ,IJ,f1,f2,f7,l3,EX hj',EU KJ JR ES hj']
   refine (ih e.args[j] hmem (by have:=N7 hmem; omega) (fun x hx=>hnm x (by rw [pre_eq]; exact qU _ (ND hmem x hx))) (fun x hx=>hval x (by rw [pre_eq]; exact qU _ (ND hmem x hx))) _).use ?_
   unfold vlE
   cases hk:(pre e.args[j]).all (knE l)
   ·simp only [Bool.false_eq_true,if_false,evV]
    simp -implicitDefEqProofs only [zB,zD,BB,A8,BK,BI,A7,CJ,D8,L6,F9,DI,AZ,BA,AO,AQ,AL,BD,AY,AC,AA,AX,AU,BH,BJ,BC,BU,G8,JJ,AB,FT,↓reduceIte,jA,jB,jC,enP,Int.reduceBNe,jS]
    exact ⟨by trivial,by trivial,hxH,by rw [hsplit,List.all_append,List.all_append,hk]; simp⟩
   ·simp only [if_true,evV]
    simp -implicitDefEqProofs only [zB,zD,ER,EP,BB,A8,BR,BI,A7,EO,FO,DN,AZ,BA,AO,AQ,AL,BD,AY,AC,AA,AX,AU,BH,BJ,BC,GR,BU,G8,JJ,LV,CB,AB,D6,FT,↓reduceIte,jA,jB,jC,enP,Int.reduceBNe,jS,bne_self_eq_false,f6,A0Z,ha',f1,f2,f7,wrap_succ (show j < 9223372036854775807 by omega)]
    exact ⟨k - 1,by omega,j+1,v',by omega,by trivial,by trivial,by trivial,by trivial,hx',by rw [AJN _ _ _ hj']; exact ho',by rw [KH _ _ hj',List.all_append,hkn,hk]; rfl⟩
  ·have hj' : ¬ j < e.args.length:=by simpa using hc
   rw [List.take_of_length_le (by omega)] at ho hkn
   simp -implicitDefEqProofs only [EF,FC,MG,F8,AA,↓reduceIte,jA]
   exact ⟨v,f1,f2,f6,hxH,ho,hkn⟩
 ·rintro F H ⟨v,f1,f2,f6,hxH,ho,hkn⟩
  have geH:=FD hxH ge
  have hxx:=hx.trans hxH
  have l0:DR Tryz.prog H 3 (.ptr eb 0 0)=some (.int .i64 e.op):=by rw [DJ ag3 geH (row:=CW e) rfl,JC]
  have hvl:=AD3 l e.args
  have hpa:(pre e).all (knE l)=knE l e:=by rw [AL5,hkn,Bool.and_true]
  simp -implicitDefEqProofs only [BB,A8,A7,F6,AZ,AO,AQ,AL,BD,AY,AC,AA,AX,BN,BO,BG,BV,BP,AB,jF,jD,jE,↓reduceIte,jH,jB,jC,enP,FU,f2,l0]
  refine (ASN G e.op H).use ?_
  simp -implicitDefEqProofs only [BI,A7,BA,AC,AA,AX,↓reduceIte]
  cases hq:((e.op == 1) || KL e.op)
  ·have hne:e.op≠1∧e.op≠2∧e.op≠3∧e.op≠24:=by
    unfold KL at hq; simp at hq; omega
   obtain ⟨e1,e2,e3,e24⟩:=hne
   have hok':AS0 e.op (O1 l e.args).length:=by rw [hvl]; exact oo e1 e2 e3 e24
   obtain ⟨o,rfl,hob⟩ : ∃ o,v = .own o 0 (O1 l e.args).length∧H[o]? = some (.live 1 ((O1 l e.args).map AII)):=by
    rcases ho with ⟨h0,_⟩ | ⟨_,o,_,rfl,hb⟩
    ·exfalso
     rw [h0] at hok'
     obtain ⟨a,b,c⟩:=hok'
     by_cases q:e.op=22
     ·have:=a q; simp at this
     by_cases q':e.op=23
     ·have:=b q'; simp at this
     ·have:=c q q'; simp at this
    ·exact ⟨o,rfl,hb⟩
   simp -implicitDefEqProofs only [BB,A8,BR,A7,DN,AZ,AO,AQ,AL,BD,AY,AC,AA,AX,BN,BJ,BO,BG,BV,BP,AB,jF,jD,jE,↓reduceIte,jA,jH,jB,jC,enP,FU,f2,l0,f6]
   refine (AP7 G e.op _ o H hob (APK l _) (by omega) hok').use ?_
   simp -implicitDefEqProofs only [BK,A7,JU,AZ,BA,AO,AQ,AL,BD,AY,AC,AA,AX,AU,BH,BC,↓reduceIte,jA,jB,jC]
   have hk:knE l e=true:=by unfold knE; rw [if_neg e2,if_neg (by omega)]
   refine ⟨?_,hxx⟩
   unfold vlE
   rw [hpa,if_pos hk,AFF]
   unfold AFE
   rw [if_neg e1,if_neg e2,if_neg e3,if_neg e24]; rfl
  ·have hask:e.op=1∨e.op=2∨e.op=3∨e.op=24:=by
    unfold KL at hq; simp at hq; omega
   simp -implicitDefEqProofs only [BB,A8,DI,AZ,AO,AQ,AL,BD,AY,AC,AA,AX,BN,BJ,BO,BV,BP,AB,jF,jD,jE,↓reduceIte,jA,jB,jC,enP,f1,f2,f6,G6 geH]
   refine (AQR G l m e _ v H1 H hl hok (hnm e (by rw [pre_eq]; simp)) hnode hask hvl ho).use ?_
   have hlf:lfE l e (O1 l e.args)=vlE l e:=by unfold lfE vlE; rw [hpa,AFF]
   rw [hlf]
   unfold evV
   simp -implicitDefEqProofs only [zB,zD,BK,A7,CJ,JU,AZ,BA,AO,AQ,AL,BD,AY,AC,AA,AX,BC,G8,JJ,AB,↓reduceIte,jA,jB,jC]
   exact ⟨by trivial,hxx⟩
 ·rintro F H ⟨f4,f5,hxH,hkn⟩
  simp -implicitDefEqProofs only [CJ,D8,JU,f4,f5]
  exact ⟨by unfold vlE; rw [AL5,hkn,Bool.and_false]; rfl,hx.trans hxH⟩
theorem AO2 (l:List Sg) (m:SM) (e:Ex) (h:Hp) (hl:l.length≤1099511627776) (hok : ∀ s∈l,AOY s) (hw:WN e):PCall (En G) 28 [.agg (CW e),.sl m 2 (l.map U9)] h (evV (evE l e)):=by
 refine JW 2 (AKP _) ?_
 refine acN Tryz.func28 rfl ?_
 show awp _ _ _ _ _ (EN _ [.tmp 4,.tmp 5] _)
 have ge:=DF h (ABlk.live 4 [CW e])
 have hx:ext h (h ++ [ABlk.live 4 [CW e]]):=(ext.rfl' h).app _
 simp -implicitDefEqProofs only [BB,A8,A7,AZ,BA,AO,AQ,AL,BD,AY,AC,AA,AX,AU,BH,BC,FQ,BO,CB,BF,↓reduceIte,jA,jB,jC,enP,bxE]
 generalize h ++ [ABlk.live 4 [CW e]]=H at ge hx ⊢
 simp -implicitDefEqProofs only [AZ,AO,AQ,AL,BD,AY,AC,AA,AX,BN,BV,BP,AB,jF,jD,jE,↓reduceIte,jB,jC,G6 ge]
 refine (UR G e H hw).use ?_
 simp -implicitDefEqProofs only [BI,A7,AZ,BA,AO,AQ,AL,BD,AY,AC,AA,AX,AU,BH,BU,AB,FT,↓reduceIte,jB,jC,enP]
 cases hv:(exE e == 0)
 ·have hne:exE e≠0:=by simpa using hv
  simp -implicitDefEqProofs only [BB,A8,BK,A7,CJ,JU,DI,AZ,BA,AO,AQ,AL,BD,AY,AC,AA,AU,BH,BC,↓reduceIte,jA,jB,jC,bne,hv]
  exact ⟨by unfold evE; rw [if_pos hne]; rfl,hx⟩
 have h0:exE e=0:=by simpa using hv
 simp -implicitDefEqProofs only [BB,A8,BR,A7,DN,AZ,AO,AQ,AL,BD,AY,AC,AA,AX,BN,BJ,BO,BV,BP,AB,BF,BQ,jF,jD,jE,↓reduceIte,jA,jB,jW,jC,enP,bne,hv,G6 ge]
 have h400:(pre e).length≤1048576:=by
  unfold exE at h0
  split at h0
  ·cases h0
  ·rename_i q; rw [h0] at q; simp at q; omega
 refine (ANF G l m hl hok e h400 hw.2 (PK h0) H).use ?_
 have he:evE l e=vlE l e:=by unfold evE vlE; rw [if_neg (by simpa using h0)]
 rw [he]
 unfold evV
 simp -implicitDefEqProofs only [zB,zD,BK,A7,JU,AZ,BA,AO,AQ,AL,BD,AY,AC,AA,AX,BC,G8,JJ,AB,↓reduceIte,jA,jB,jC]
 exact ⟨by trivial,hx⟩
theorem Eval_ref (l:List Sg) (m:SM) (e:Ex) (h:Hp) (hl:l.length≤1099511627776) (hok : ∀ s∈l,AOY s) (hw:wt e≤1048576):PCall (En G) 28 [.agg (CW e),.sl m 2 (l.map U9)] h (evV (evE l e)):=AO2 G l m e h hl hok (AE6 hw)
end
end Go.Proofs.YtokehnfjjmpanaaGreatDoor.Xe
