/- Part 12 of the proof (X2, X3, X4, X5, X6); no condition. -/
import Derived.Test.YtocilianjfhifaaGreatDoorYA11
set_option linter.unusedVariables false
set_option linter.unusedSimpArgs false
set_option maxRecDepth 8000
namespace Go.Proofs.YtocilianjfhifaaGreatDoor.Xe
open Sm Bins Cov Go.RowKit
theorem AWI:Frz encStr:=fun _ _ _ _=>⟨rfl,rfl⟩
theorem encStr0 (s:ByteArray):(encStr s)[0]? = some (.str s):=rfl
theorem ANQ (G:Nat→AV) (xs:List ByteArray) (b:Nat) (v:ByteArray) (h:Hp) (hb:h[b]? = some (.live 1 (xs.map encStr))) (hl:xs.length≤1099511627776) :
  ∃ k:Int,PCall (En G) 257 [.own b 0 xs.length,.str v] h (.int .i64 k)∧decide (k≥0)=IG xs v:=by
 have key : ∀ r:Int,(∀ i (hi:i < xs.length),(∀ j (hj:j < i),(v.toList == xs[j].toList)=false)→(v.toList == xs[i].toList)=true→r=(i:Int))→(IG xs v=false→r = -1)→PCall (En G) 257 [.own b 0 xs.length,.str v] h (.int .i64 r):=by
  intro r hr hr0
  refine CB (H:=Hint.none) (enM G) Tryz.func257 rfl (by kernel_rfl) (by kernel_rfl) (nLb (by kernel_rfl)) ?_
  show awp _ _ _ _ _ (EE _ [.tmp 4] _)
  simp -implicitDefEqProofs only [BC,BQ,BA,A8,AY,BB,AO,AQ,AL,BD,AX,AC,AA,A7,AU,BH,BG,AZ,D6,AB,BF,↓reduceIte,Nat.reduceEqDiff,oGs,bNf,enP,Z9]
  refine DR (fun n F H => ∃ k,n+k=xs.length∧F 0 = .own b 0 xs.length∧F 1 = .str v∧F 7 = .int .i64 (xs.length:Nat)∧F 8 = .int .i64 (k:Nat)∧H=h∧(∀ j (hj:j < xs.length),j < k→(v.toList == xs[j].toList)=false)∧IG xs v=IG (xs.drop k) v) xs.length ⟨0,by simp,by simp -implicitDefEqProofs only [AA,BF,↓reduceIte,Nat.reduceEqDiff],by simp -implicitDefEqProofs only [AA,BF,BN,↓reduceIte,Nat.reduceEqDiff],by simp -implicitDefEqProofs only [AA,↓reduceIte,Nat.reduceEqDiff],by simp -implicitDefEqProofs only [AA,↓reduceIte]; rfl,rfl,fun j _ hj=>by omega,rfl⟩ ?_
  rintro n F H ⟨k,hk,f0,f1,f7,f8,rfl,hbef,hin⟩
  simp -implicitDefEqProofs only [BC,BA,BI,A8,AY,BB,AO,AQ,AL,BD,AX,AC,AA,A7,BR,AB,DF,↓reduceIte,oGs,bNf,enP,f7,f8]
  refine CW (fun hc => ?_) (fun hc => ?_)
  ·have hk':k < xs.length:=by simpa using hc
   have hs:IG (xs.drop k) v=((v.toList == xs[k].toList) || IG (xs.drop (k+1)) v):=KF _ xs k hk'
   have l1:DZ Tryz.prog H 9 (.ptr b k 0)=some (.str xs[k]):=by rw [DJ ag9 hb (row:=encStr xs[k]) (MB hk')]; rfl
   simp -implicitDefEqProofs only [BC,BQ,BA,BO,BI,A8,AY,BB,AO,AQ,AL,BD,AX,AC,AA,A7,BG,AZ,BV,BR,CG,AB,LC,↓reduceIte,Nat.reduceEqDiff,Nat.zero_add,oGs,bNf,enP,AEK,f0,f1,f8,LM hb hk',l1]
   refine CW (fun hx => ?_) (fun hx => ?_)
   ·simp -implicitDefEqProofs only [BC,BA,BL,A8,CP,D8,FB,CJ,AY,BB,AO,AQ,AL,BD,AX,AC,AA,A7,BG,AZ,↓reduceIte,Nat.reduceEqDiff,oGs,bNf]
    exact ⟨by rw [hr k hk' (fun j hj=>hbef j (by omega) hj) hx],trivial⟩
   ·simp -implicitDefEqProofs only [BA,BO,A8,EF,ER,AY,BB,AO,AQ,AL,BD,AX,AC,AA,A7,AU,BH,BG,BR,AB,DI,↓reduceIte,Nat.reduceEqDiff,oGs,bNf,enP,f8,wrap_succ (show k < 9223372036854775807 by omega)]
    refine ⟨n - 1,by omega,k+1,by omega,by first | exact f0 | trivial,by first | exact f1 | trivial,by first | exact f7 | trivial,rfl,trivial,fun j hj hjk => ?_,by rw [hin,hs,hx,Bool.false_or]⟩
    rcases Nat.lt_or_ge j k with h1 | h1
    ·exact hbef j hj h1
    ·have:j=k:=by omega
     subst this; exact hx
  ·have hk' : ¬ k < xs.length:=by simpa using hc
   simp -implicitDefEqProofs only [BC,BA,BL,DL,A8,EC,EY,EW,CJ,AY,BB,AO,AQ,AL,BD,AX,AC,AA,AU,BH,AZ,↓reduceIte,oGs,bNf]
   refine ⟨?_,trivial⟩
   rw [hr0 (by rw [hin,List.drop_eq_nil_of_le (by omega)]; rfl)]
 by_cases hh:IG xs v=true
 ·obtain ⟨i,hi⟩ : ∃ i,xs.findIdx? (fun u=>v.toList == u.toList)=some i:=by
   cases he:xs.findIdx? (fun u=>v.toList == u.toList) with
   | some i=>exact ⟨i,rfl⟩
   | none =>
     rw [List.findIdx?_eq_none_iff] at he
     unfold IG at hh
     rw [List.any_eq_true] at hh
     obtain ⟨x,hx,hz⟩:=hh
     rw [he x hx] at hz; cases hz
  obtain ⟨hil,hiz,hbef⟩:=List.findIdx?_eq_some_iff_getElem.1 hi
  refine ⟨(i:Int),key i (fun k hk hb' hx => ?_) (fun h0=>by rw [hh] at h0; cases h0),by rw [hh]; simp⟩
  rcases Nat.lt_trichotomy i k with h1 | h1 | h1
  ·have:=hb' i h1; rw [hiz] at this; cases this
  ·rw [h1]
  ·have:=hbef k h1; rw [hx] at this; simp at this
 ·have hh':IG xs v=false:=by simpa using hh
  refine ⟨-1,key (-1) (fun k hk _ hx => ?_) (fun _=>rfl),by rw [hh']; decide⟩
  unfold IG at hh'
  rw [List.any_eq_false] at hh'
  exact absurd hx (hh' xs[k] (List.getElem_mem hk))
theorem ANR (G:Nat→AV) (k:Nat) (v:ByteArray) (h:Hp):PCall (En G) 257 [.sl .nil k [],.str v] h (.int .i64 (-1)):=by
 refine CB (H:=Hint.none) (enM G) Tryz.func257 rfl (by kernel_rfl) (by kernel_rfl) (nLb (by kernel_rfl)) ?_
 show awp _ _ _ _ _ (EE _ [.tmp 4] _)
 simp -implicitDefEqProofs only [BC,BQ,BA,A8,AY,BB,AO,AQ,AL,BD,AX,AC,AA,A7,AU,BH,BG,AZ,D6,AB,BF,↓reduceIte,Nat.reduceEqDiff,oGs,bNf,enP,Z9,List.length_nil]
 refine DR (fun n F H=>F 7 = .int .i64 0∧F 8 = .int .i64 0∧H=h) 0 ⟨by simp -implicitDefEqProofs only [AA,↓reduceIte,Nat.reduceEqDiff] <;> rfl,by simp -implicitDefEqProofs only [AA,↓reduceIte],rfl⟩ ?_
 rintro n F H ⟨f7,f8,rfl⟩
 have hc:((0:Int) < 0)=False:=by simp
 simp -implicitDefEqProofs only [BC,BA,BL,DL,BI,A8,EC,EY,EW,CJ,DU,AY,BB,AO,AQ,AL,BD,AX,AC,AA,A7,AU,BH,AZ,BR,AB,DF,↓reduceIte,oGs,bNf,decide_false,enP,f7,f8,hc,decide_false]
 exact ⟨by first | trivial | rfl,trivial⟩
theorem AYP (G:Nat→AV) {h0 h:Hp} {ns:List ByteArray} {u:AV} (ho:outG 1 encStr h0 ns u h) (v:ByteArray) (hl:ns.length≤8388608):PCall (En G) 229 [u,.str v] h (.bool (IG ns v)):=by
 have hi : ∃ k:Int,PCall (En G) 257 [u,.str v] h (.int .i64 k)∧decide (k≥0)=IG ns v:=by
  rcases ho with ⟨rfl,rfl⟩ | ⟨_,o,_,rfl,hb⟩
  ·exact ⟨-1,ANR G 0 v h,rfl⟩
  ·exact ANQ G ns o v h hb (by omega)
 obtain ⟨k,hk,hd⟩:=hi
 refine CB (H:=Hint.none) (enM G) Tryz.func229 rfl (by kernel_rfl) (by kernel_rfl) (nLb (by kernel_rfl)) ?_
 show awp _ _ _ _ _ (EE _ [.tmp 4] _)
 simp -implicitDefEqProofs only [BC,BA,A8,AY,BB,AO,AQ,AL,BD,AX,AC,AA,A7,AU,BX,BM,BG,AZ,BZ,BU,BF,BN,lMc,lMn,lAn,↓reduceIte,Nat.reduceEqDiff,oGs,bNf,enP]
 refine hk.use ?_
 simp -implicitDefEqProofs only [BL,A8,CJ,AY,BB,AO,AQ,AL,BD,AX,AC,AA,A7,AU,BH,AZ,BR,AB,GZ,↓reduceIte,oGs,bNf,enP,hd]
 exact ⟨trivial,trivial⟩
def nmU (ops:List Int) (ns:List ByteArray) (e:Ex):List ByteArray:=if (Rk.hasB ops e.op && !IG ns e.name)=true then ns ++ [e.name] else ns
def nmL (ops:List Int) (ns:List ByteArray) (l:List Ex):List ByteArray:=l.foldl (nmU ops) ns
theorem ALZ (ops:List Int) (ns:List ByteArray) (e:Ex):(nmU ops ns e).length≤ns.length+1:=by
 unfold nmU; split <;> simp
theorem AA2 (ops:List Int) : ∀ (l:List Ex) (ns:List ByteArray),(nmL ops ns l).length≤ns.length+l.length
 | [],ns=>by simp [nmL]
 | e :: l,ns=>by
   have h1:=AA2 ops l (nmU ops ns e)
   have h2:=ALZ ops ns e
   simp only [nmL,List.foldl_cons,List.length_cons] at h1 ⊢
   omega
theorem AS9 (ops:List Int) (ns:List ByteArray) (l r:List Ex):nmL ops ns (l ++ r)=nmL ops (nmL ops ns l) r:=List.foldl_append
structure NSt (h0:Hp) (c:Nat) (ns:List ByteArray) (v:AV) (h:Hp):Prop where
 cell:h[c]? = some (.live 1 [[v]])
 out:outG 1 encStr h0 ns v h
 base:h0.length≤c
 ex:ext h0 h
abbrev Cn (c:Nat) (v:AV) (h:Hp) (v':AV) (h':Hp):Prop:=Ch c v .nilfn h v' .nilfn h'
theorem NSt.ne {h0 h:Hp} {c b k:Nat} {ns:List ByteArray} {v:AV} {row:List AV} (s:NSt h0 c ns v h) (hb:h[b]? = some (.live k [row])) (hr:k≠1∨∀ x,row≠[.str x]) : ¬ isB v b:=by
 intro hi
 rcases s.out with ⟨_,rfl⟩ | ⟨hne,o,_,rfl,ho⟩
 ·exact hi
 ·have e:o=b:=hi
  subst e
  rw [ho] at hb
  injection Option.some.inj hb with e1 e2
  rcases hr with hr | hr
  ·exact hr e1.symm
  ·match ns,e2 with
   | [x],e2=>simp [encStr] at e2; exact hr x e2.symm
theorem NSt.app {h0 h:Hp} {c:Nat} {ns:List ByteArray} {v:AV} (s:NSt h0 c ns v h) (x:Hp):NSt h0 c ns v (h ++ x):=⟨FU s.cell,s.out.app x,s.base,s.ex.app x⟩
theorem NSt.cne {h0 h:Hp} {c:Nat} {ns:List ByteArray} {v:AV} (s:NSt h0 c ns v h) : ¬ isB v c:=by
 refine s.ne s.cell (.inr fun x e => ?_)
 rcases s.out with ⟨_,rfl⟩ | ⟨_,o,_,rfl,_⟩ <;> simp at e
theorem Cn.keep {c b:Nat} {h h':Hp} {v v':AV} {x:ABlk} (hc:Cn c v h v' h') (hb:h[b]? = some x) (hne:b≠c) (hn : ¬ isB v b):h'[b]? = some x:=by
 rw [hc.get b (CU hb) hne hn (fun e=>e)]; exact hb
theorem AG3 (G:Nat→AV) (ops:List Int) (hops:ops.length≤1048576) (h0:Hp) (c ob:Nat) (s0:SM) (e:Ex) (h:Hp) (ns:List ByteArray) (v:AV) (S:NSt h0 c ns v h) (hob:h[ob]? = some (.live 1 [[.sl s0 1 (ops.map encI)]])) (hn:ns.length < 8388608) :
  ACalls (En G) 261 [.agg (ET e),.ptr ob 0 0,.ptr c 0 0] h fun r h'=>r = .bool true∧∃ v',Cn c v h v' h'∧NSt h0 c (nmU ops ns e) v' h':=by
 refine CB (H:=Hint.none) (enM G) Tryz.func261 rfl (by kernel_rfl) (by kernel_rfl) (nLb (by kernel_rfl)) ?_
 show awp _ _ _ _ _ (EE _ [.tmp 4] _)
 have S1:=S.app [ABlk.live 4 [ET e]]
 have hob1:(h ++ [ABlk.live 4 [ET e]])[ob]? = _:=CX hob
 have hC1:Cn c v h v (h ++ [ABlk.live 4 [ET e]]):=Ch.app c v .nilfn h _
 have ge:=CY h (ABlk.live 4 [ET e])
 have hcl:=CU S.cell
 simp -implicitDefEqProofs only [BC,BA,A8,AY,BB,AO,AQ,AL,BD,AX,AC,AA,A7,AU,BM,AZ,FV,BV,CE,BF,BN,↓reduceIte,Nat.reduceEqDiff,oGs,bNf,enP,bxE]
 generalize h ++ [ABlk.live 4 [ET e]]=H at S1 hob1 hC1 ge ⊢
 have l0:DZ Tryz.prog H 3 (.ptr h.length 0 0)=some (.int .i64 e.op):=by rw [DJ ag3 ge (row:=ET e) rfl,JW]
 have l2:DZ Tryz.prog H 9 (.ptr h.length 0 2)=some (.str e.name):=by rw [DJ ag9 ge (row:=ET e) rfl,PU]
 simp -implicitDefEqProofs only [AY,AO,AQ,AL,BD,AX,AC,AA,A7,BX,BV,BK,BZ,BU,AB,lMc,lMn,lAn,↓reduceIte,Nat.reduceEqDiff,Nat.add_zero,oGs,bNf,enP,IA,JP LD hob1,l0]
 refine (Rk.contains_rank G ops s0 e.op H hops).use ?_
 simp -implicitDefEqProofs only [AY,BJ,BP,CO,AO,AQ,AL,BD,AX,AC,AA,A7,BG,↓reduceIte,oGs,bNf]
 have key : ∀ b1 b2:Bool,Rk.hasB ops e.op=b1→IG ns e.name=b2→(b1 && !b2)=false→nmU ops ns e=ns:=fun b1 b2 e1 e2 e3=>by
  unfold nmU; rw [e1,e2,e3]; simp
 cases hb1:Rk.hasB ops e.op
 ·simp -implicitDefEqProofs only [BC,BA,BO,BL,BI,A8,CJ,DU,AY,BB,BJ,BP,CO,H7,AO,AQ,AL,BD,AX,AC,AA,EQ,A7,AU,BM,AZ,CQ,DK,↓reduceIte,Nat.reduceEqDiff,oGs,bNf]
  exact ⟨trivial,v,hC1,by rw [key _ _ hb1 rfl rfl]; exact S1⟩
 simp -implicitDefEqProofs only [BJ,BP,CO,FY,AO,AQ,AL,BD,AX,AC,AA,A7,BX,BV,BK,BZ,BU,AB,BF,BN,lMc,lMn,lAn,↓reduceIte,Nat.reduceEqDiff,Nat.zero_add,oGs,bNf,enP,KZ,JP AFA S1.cell,l2]
 refine (AYP G S1.out e.name (by omega)).use ?_
 simp -implicitDefEqProofs only [BI,A8,AY,BB,BJ,BP,CO,FY,AO,AQ,AL,BD,AX,AC,AA,A7,AU,BM,CQ,DN,G6,AB,EX,↓reduceIte,Nat.reduceEqDiff,oGs,bNf]
 cases hb2:IG ns e.name
 ·have hu:nmU ops ns e=ns ++ [e.name]:=by unfold nmU; rw [hb1,hb2]; rfl
  obtain ⟨v',H',ha,ho,hk,hex,hle,hnew⟩:=S1.out.append (P:=Tryz.prog) AOZ sz9 AOQ AQ4 (by omega) hn S1.ex e.name
  have ha':GU Tryz.prog true H 179 179 v (.sl .full 1 [[.str e.name]])=some (v',H'):=ha
  have hc':=hk c _ S1.cell S1.cne
  have hcl2:=CU S1.cell
  have hac:I9 v'=some [v']:=by
   rcases ho with ⟨_,rfl⟩ | ⟨_,o,_,rfl,_⟩ <;> rfl
  simp -implicitDefEqProofs only [FT,F6,BC,BA,BL,A8,CJ,C9,AY,BB,AO,AQ,AL,BD,AX,AC,E8,AA,A7,AU,BM,AZ,ES,BV,EP,BK,IJ,CE,AB,DW,BF,BN,↓reduceIte,Nat.reduceEqDiff,Nat.zero_add,oGs,bNf,enP,KZ,Option.getD_none,JP AFA S1.cell,l2,AQ9,ha',QT AO5 hac hc']
  refine ⟨trivial,v',hC1.trans ⟨by simpa using hle,fun b hb hbc hbv _ => ?_,fun b hb => .inr (by rw [hnew b hb]; exact Nat.le_refl _),fun b hb=>hb.elim⟩,?_⟩
  ·rw [List.getElem?_set,if_neg (fun e=>hbc e.symm),List.getElem?_eq_getElem hb]
   exact hk b _ (List.getElem?_eq_getElem hb) hbv
  ·rw [hu]
   exact ⟨EI hc',ho.keep fun b hb=>by rw [List.getElem?_set,if_neg (fun e=>by have:=hnew b hb; omega)],S1.base,hex.set S1.base _⟩
 ·simp -implicitDefEqProofs only [BC,BA,BO,BL,A8,CJ,DU,AY,BB,AO,AQ,AL,BD,AX,AC,AA,AU,BM,AZ,↓reduceIte,oGs,bNt,bNf]
  exact ⟨trivial,v,hC1,by rw [key _ _ hb1 hb2 rfl]; exact S1⟩
theorem APT (ops:List Int) (ns:List ByteArray) (e:Ex):nmL ops ns (pre e)=nmL ops (nmU ops ns e) (JL e.args):=by rw [pre_eq]; rfl
theorem AKI (G:Nat→AV) (ops:List Int) (hops:ops.length≤1048576) (h0:Hp) (c ob vb db:Nat) (s0:SM) (hv:vb≠c) (hd:db≠c) (hoc:ob≠c) (e:Ex) :
  wt e≤1099511627776→∀ (h:Hp) (ns:List ByteArray) (v:AV),NSt h0 c ns v h→h[ob]? = some (.live 1 [[.sl s0 1 (ops.map encI)]])→ns.length+(pre e).length≤8388608 →
   h[vb]? = some (.live 1 [[.fn (.func 261) [] [.ptr ob 0 0,.ptr c 0 0]]])→h[db]? = some (.live 1 [[.fn (.func 230) [] [.ptr vb 0 0,.ptr db 0 0]]]) →
   ACalls (En G) 230 [.agg (ET e),.ptr vb 0 0,.ptr db 0 0] h fun r h'=>r = .bool true∧∃ v',Cn c v h v' h'∧NSt h0 c (nmL ops ns (pre e)) v' h':=by
 induction e using Ex.induct with | h e ih => ?_
 intro hw h ns v S hob hlen hvb hdb
 have hcl:=CU S.cell
 have hal:e.args.length≤1099511627776:=by have:=SI e.args; have:=MH e; omega
 have hpe:(pre e).length=(JL e.args).length+1:=by rw [pre_eq]; rfl
 have hfn : ∀ (k:FuncId) (a b:List AV) (x:ByteArray),[AV.fn (.func k) a b]≠[.str x]:=fun _ _ _ _ q=>by simp at q
 have hsl : ∀ (xs:List (List AV)) (x:ByteArray),[AV.sl s0 1 xs]≠[.str x]:=fun _ _ q=>by simp at q
 refine CB (H:=Hint.none) (enM G) Tryz.func230 rfl (by kernel_rfl) (by kernel_rfl) (nLb (by kernel_rfl)) ?_
 show awp _ _ _ _ _ (EE _ [.tmp 4] _)
 have S0:=S.app [ABlk.live 4 [ET e]]
 simp -implicitDefEqProofs only [BC,BA,A8,AY,BB,AO,AQ,AL,BD,AX,AC,AA,A7,AU,BM,AZ,FV,BV,BZ,BU,CE,AB,BF,BN,lMc,lMn,List.nil_append,List.cons_append,↓reduceIte,Nat.reduceEqDiff,oGs,bNf,enP,bxE,JP AE9 (CX hvb),ldE]
 refine (AG3 G ops hops h0 c ob s0 e _ ns v S0 (CX hob) (by omega)).mono ?_
 rintro r h1 ⟨rfl,v1,hch,S1⟩
 have hch0:Cn c v h v1 h1:=(Ch.app c v .nilfn h _).trans hch
 have hb3:h1[h.length]? = some (.live 4 [ET e]):=hch.keep (CY _ _) (by omega) (S0.ne (CY _ _) (.inl (by decide)))
 have hvb1:=hch0.keep hvb hv (S.ne hvb (.inr (hfn _ _ _)))
 have hdb1:=hch0.keep hdb hd (S.ne hdb (.inr (hfn _ _ _)))
 have hob1:=hch0.keep hob hoc (S.ne hob (.inr (hsl _)))
 have l3:DZ Tryz.prog h1 51 (.ptr h.length 0 3)=some (.sl e.m 4 (e.args.map ET)):=by rw [DJ AGT hb3 (row:=ET e) rfl,YD]
 have hn1:=ALZ ops ns e
 simp -implicitDefEqProofs only [BC,BQ,BA,BO,BI,A8,DU,AY,BB,AO,AQ,AL,BD,AX,AC,AA,A7,AU,BH,BG,BV,G6,BK,D6,AB,EX,↓reduceIte,Nat.reduceEqDiff,Nat.zero_add,oGs,bNt,bNf,enP,ADP,OY,l3,lLm]
 refine DR (fun n F H => ∃ j v',n+j=e.args.length∧F 1 = .ptr vb 0 0∧F 2 = .ptr db 0 0∧F 12 = .sl e.m 4 (e.args.map ET)∧F 13 = .int .i64 e.args.length∧F 14 = .int .i64 (j:Nat)∧Cn c v h v' H∧NSt h0 c (nmL ops (nmU ops ns e) (JL (e.args.take j))) v' H∧H[vb]? = some (.live 1 [[.fn (.func 261) [] [.ptr ob 0 0,.ptr c 0 0]]])∧H[db]? = some (.live 1 [[.fn (.func 230) [] [.ptr vb 0 0,.ptr db 0 0]]])∧H[ob]? = some (.live 1 [[.sl s0 1 (ops.map encI)]])) e.args.length
  ⟨0,v1,by simp,by simp -implicitDefEqProofs only [AA,BF,BN,↓reduceIte,Nat.reduceEqDiff],by simp -implicitDefEqProofs only [AA,BF,BN,↓reduceIte,Nat.reduceEqDiff],by simp -implicitDefEqProofs only [AA,↓reduceIte,Nat.reduceEqDiff],by simp -implicitDefEqProofs only [AA,↓reduceIte,Nat.reduceEqDiff],by simp -implicitDefEqProofs only [AA,↓reduceIte]; rfl,hch0,S1,hvb1,hdb1,hob1⟩ ?_
 rintro n F H ⟨j,v',hj,f1,f2,f12,f13,f14,hC,SH,hvH,hdH,hoH⟩
 simp -implicitDefEqProofs only [BC,BA,BI,A8,AY,BB,AO,AQ,AL,BD,AX,AC,AA,A7,BR,AB,DF,↓reduceIte,oGs,bNf,enP,f13,f14]
 refine CW (fun hlt => ?_) (fun hlt => ?_)
 ·have hj':j < e.args.length:=by simpa using hlt
  have hmem:e.args[j]∈e.args:=List.getElem_mem hj'
  have hsplit:JL e.args=JL (e.args.take j) ++ (pre e.args[j] ++ JL (e.args.drop (j+1))):=by
   rw [← List.append_assoc,← NS _ _ hj',← PH,List.take_append_drop]
  have hln:=AA2 ops (JL (e.args.take j)) (nmU ops ns e)
  have hls:(JL e.args).length=(JL (e.args.take j)).length+((pre e.args[j]).length+(JL (e.args.drop (j+1))).length):=by rw [hsplit,List.length_append,List.length_append]
  simp -implicitDefEqProofs only [BC,BQ,BA,BO,A8,AY,BB,AO,AQ,AL,BD,AX,AC,E8,AA,A7,GG,BV,EP,CG,BZ,BU,CE,AB,DW,lMc,lMn,List.nil_append,List.cons_append,↓reduceIte,Nat.reduceEqDiff,oGs,bNf,enP,AJ9,Option.getD_none,f12,f14,D5 hj',FO AAY WB JU hj',AUL,ASI _ _ [.int .i64 0,.int .i64 0,.str ⟨#[]⟩,.sl .nil 0 []] rfl,f2,JP AE9 (CX hdH),ldE]
  have SH1:=SH.app [ABlk.live 4 [ET e.args[j]]]
  refine (ih e.args[j] hmem (by have:=QR hmem; have:=MH e; omega) _ _ v' SH1 (CX hoH) (by omega) (CX hvH) (CX hdH)).mono ?_
  rintro r h2 ⟨rfl,v2,hch2,S2⟩
  have hch2':Cn c v' H v2 h2:=(Ch.app c v' .nilfn H _).trans hch2
  have hvH2:=hch2'.keep hvH hv (SH.ne hvH (.inr (hfn _ _ _)))
  have hdH2:=hch2'.keep hdH hd (SH.ne hdH (.inr (hfn _ _ _)))
  have hoH2:=hch2'.keep hoH hoc (SH.ne hoH (.inr (hsl _)))
  simp -implicitDefEqProofs only [BA,BO,BI,A8,EF,ER,DU,AY,BB,AO,AQ,AL,BD,AX,AC,AA,A7,AU,BH,BG,BR,G6,AB,DI,EX,↓reduceIte,Nat.reduceEqDiff,oGs,bNt,bNf,enP,f1,f2,f12,f13,f14,wrap_succ (show j < 9223372036854775807 by omega)]
  refine ⟨n - 1,by omega,j+1,v2,by omega,trivial,trivial,trivial,trivial,rfl,hC.trans hch2',?_,hvH2,hdH2,hoH2⟩
  rw [NS _ _ hj',AS9]; exact S2
 ·have hj' : ¬ j < e.args.length:=by simpa using hlt
  simp -implicitDefEqProofs only [BC,BA,BL,DL,A8,EC,EY,EW,CJ,AY,BB,AO,AQ,AL,BD,AX,AC,AA,AU,BM,AZ,↓reduceIte,oGs,bNf]
  rw [List.take_of_length_le (by omega),← APT] at SH
  exact ⟨trivial,v',hC,SH⟩
theorem AJG (G:Nat→AV) (ops:List Int) (hops:ops.length≤1048576) (h0:Hp) (c ob:Nat) (s0:SM) (hoc:ob≠c) (e:Ex) (hw:wt e≤1048576) (h:Hp) (ns:List ByteArray) (v:AV) (S:NSt h0 c ns v h) (hob:h[ob]? = some (.live 1 [[.sl s0 1 (ops.map encI)]])) (hn:ns.length≤1048576) :
  ACalls (En G) 196 [.agg (ET e),.fn (.func 261) [] [.ptr ob 0 0,.ptr c 0 0]] h fun _ h' => ∃ v',Cn c v h v' h'∧NSt h0 c (nmL ops ns (pre e)) v' h':=by
 have hcl:=CU S.cell
 have hol:=CU hob
 refine CB (H:=Hint.none) (enM G) Tryz.func196 rfl (by kernel_rfl) (by kernel_rfl) (nLb (by kernel_rfl)) ?_
 show awp _ _ _ _ _ (EE _ [] _)
 generalize hfv:AV.fn (.func 261) [] [.ptr ob 0 0,.ptr c 0 0]=fv
 have hbx : ∀ H:Hp,O3 H fv=some (.ptr H.length 0 0,H ++ [.live 1 [[fv]]]):=fun H=>by rw [← hfv]; rfl
 simp -implicitDefEqProofs only [BC,BA,A8,AY,BB,AO,AQ,AL,BD,AX,AC,AA,A7,GG,FV,EP,I7,CE,BF,BN,lMc,lMn,↓reduceIte,Nat.reduceEqDiff,oGs,bNf,enP,Option.getD_none,bxE,hbx,AVG]
 have g0:(h ++ [ABlk.live 4 [ET e]] ++ [ABlk.live 1 [[fv]]] ++ [ABlk.live 1 [[AV.nilfn]]])[(h ++ [ABlk.live 4 [ET e]] ++ [ABlk.live 1 [[fv]]]).length]? = some (.live 1 [[.nilfn]]):=CY _ _
 simp -implicitDefEqProofs only [BA,A8,AY,BB,AO,AQ,AL,BD,AX,E8,AA,A7,BV,DW,↓reduceIte,Nat.reduceEqDiff,oGs,bNf,enP,QT AU0 (AVL _ _ _) g0]
 have S3:=((S.app [ABlk.live 4 [ET e]]).app [ABlk.live 1 [[fv]]]).app [ABlk.live 1 [[AV.nilfn]]]
 have c3:Cn c v h v (h ++ [ABlk.live 4 [ET e]] ++ [ABlk.live 1 [[fv]]] ++ [ABlk.live 1 [[AV.nilfn]]]):=((Ch.app c v .nilfn h _).trans (Ch.app _ _ _ _ _)).trans (Ch.app _ _ _ _ _)
 have v3:(h ++ [ABlk.live 4 [ET e]] ++ [ABlk.live 1 [[fv]]] ++ [ABlk.live 1 [[AV.nilfn]]])[(h ++ [ABlk.live 4 [ET e]]).length]? = some (.live 1 [[fv]]):=CX (CY _ _)
 have e3:(h ++ [ABlk.live 4 [ET e]] ++ [ABlk.live 1 [[fv]]] ++ [ABlk.live 1 [[AV.nilfn]]])[h.length]? = some (.live 4 [ET e]):=CX (CX (CY _ _))
 have o3:(h ++ [ABlk.live 4 [ET e]] ++ [ABlk.live 1 [[fv]]] ++ [ABlk.live 1 [[AV.nilfn]]])[ob]? = some (.live 1 [[.sl s0 1 (ops.map encI)]]):=CX (CX (CX hob))
 have hdl:(h ++ [ABlk.live 4 [ET e]] ++ [ABlk.live 1 [[fv]]]).length=h.length+2:=by simp
 have hvl:(h ++ [ABlk.live 4 [ET e]]).length=h.length+1:=by simp
 generalize (h ++ [ABlk.live 4 [ET e]] ++ [ABlk.live 1 [[fv]]]).length=db at g0 hdl ⊢
 generalize (h ++ [ABlk.live 4 [ET e]]).length=vb at v3 hvl ⊢
 generalize h ++ [ABlk.live 4 [ET e]] ++ [ABlk.live 1 [[fv]]] ++ [ABlk.live 1 [[AV.nilfn]]]=H at g0 S3 c3 v3 e3 o3 ⊢
 have hdn : ¬ isB v db:=S3.ne g0 (.inr fun x q=>by simp at q)
 generalize hH:H.set db (.live 1 [[AV.fn (.func 230) [] [.ptr vb 0 0,.ptr db 0 0]]])=H'
 have gd:H'[db]? = some (.live 1 [[.fn (.func 230) [] [.ptr vb 0 0,.ptr db 0 0]]]):=by rw [← hH]; exact EI g0
 have gv:H'[vb]? = some (.live 1 [[fv]]):=by rw [← hH]; exact CV v3 (by omega)
 have ge:H'[h.length]? = some (.live 4 [ET e]):=by rw [← hH]; exact CV e3 (by omega)
 have go:H'[ob]? = some (.live 1 [[.sl s0 1 (ops.map encI)]]):=by rw [← hH]; exact CV o3 (by omega)
 have hb0:=S.ex.le
 have S4:NSt h0 c ns v H':=by
  rw [← hH]
  exact ⟨CV S3.cell (by omega),S3.out.keep fun b hb=>by rw [List.getElem?_set,if_neg (fun q=>hdn (by rw [q]; exact hb))],S3.base,S3.ex.set (by omega) _⟩
 have c4:Cn c v h v H':=by
  rw [← hH]
  exact ⟨by have:=c3.len; simpa using this,fun b hb hbc hbv hbu=>by rw [List.getElem?_set,if_neg (by omega)]; exact c3.get b hb hbc hbv hbu,fun _ q => .inl q,fun _ q => .inl q⟩
 simp -implicitDefEqProofs only [AY,AO,AQ,AL,BD,AX,AC,AA,A7,BV,BZ,BU,AB,lMc,lMn,List.nil_append,List.cons_append,↓reduceIte,Nat.reduceEqDiff,oGs,bNf,enP,JP AE9 gd,ML ge]
 rw [← hfv] at gv
 have hp:=AFO e
 refine (AKI G ops hops h0 c ob vb db s0 (by omega) (by omega) hoc e (by omega) H' ns v S4 go (by omega) gv gd).mono ?_
 rintro r h' ⟨rfl,v',hch,S5⟩
 simp -implicitDefEqProofs only [AGC,BB,AC]
 exact ⟨v',c4.trans hch,S5⟩
theorem AZO (h:Hp):J3 Tryz.prog h 179=some (.ptr h.length 0 0,h ++ [.live 1 [[.sl .nil 0 []]]]):=JV (row := [.sl .nil 0 []]) (by kernel_rfl)
theorem AB0 (G:Nat→AV) (ops:List Int) (hops:ops.length≤1048576) (s0:SM) (e:Ex) (hw:wt e≤1048576) (h:Hp):PCall (En G) 236 [.agg (ET e),.sl s0 1 (ops.map encI)] h (.sl (nm (nmL ops [] (pre e))) 1 ((nmL ops [] (pre e)).map encStr)):=by
 refine RQ AWI ?_
 refine CB (H:=Hint.none) (enM G) Tryz.func236 rfl (by kernel_rfl) (by kernel_rfl) (nLb (by kernel_rfl)) ?_
 show awp _ _ _ _ _ (EE _ [.tmp 4] _)
 have ge:=CX (x:=ABlk.live 1 [[.sl .nil 0 []]]) (CX (x:=ABlk.live 1 [[AV.sl s0 1 (ops.map encI)]]) (CY h (.live 4 [ET e])))
 have go:=CX (x:=ABlk.live 1 [[.sl .nil 0 []]]) (CY (h ++ [ABlk.live 4 [ET e]]) (ABlk.live 1 [[AV.sl s0 1 (ops.map encI)]]))
 have gc:=CY (h ++ [ABlk.live 4 [ET e]] ++ [ABlk.live 1 [[AV.sl s0 1 (ops.map encI)]]]) (ABlk.live 1 [[.sl .nil 0 []]])
 have hx:ext h (h ++ [ABlk.live 4 [ET e]] ++ [ABlk.live 1 [[AV.sl s0 1 (ops.map encI)]]] ++ [ABlk.live 1 [[.sl .nil 0 []]]]):=(((ext.rfl' h).app _).app _).app _
 have hol:(h ++ [ABlk.live 4 [ET e]]).length=h.length+1:=by simp
 have hcl:(h ++ [ABlk.live 4 [ET e]] ++ [ABlk.live 1 [[AV.sl s0 1 (ops.map encI)]]]).length=h.length+2:=by simp
 simp -implicitDefEqProofs only [ARA,BC,BA,A8,AY,BB,AO,AQ,AL,BD,AX,AC,AA,A7,AU,JD,AZ,GG,FV,BV,CE,BF,BN,↓reduceIte,Nat.reduceEqDiff,oGs,bNf,enP,bxE,AZO]
 generalize h ++ [ABlk.live 4 [ET e]] ++ [ABlk.live 1 [[AV.sl s0 1 (ops.map encI)]]] ++ [ABlk.live 1 [[.sl .nil 0 []]]]=H at ge go gc hx ⊢
 generalize (h ++ [ABlk.live 4 [ET e]] ++ [ABlk.live 1 [[AV.sl s0 1 (ops.map encI)]]]).length=c at gc hcl ⊢
 generalize (h ++ [ABlk.live 4 [ET e]]).length=ob at go hol ⊢
 simp -implicitDefEqProofs only [AY,AO,AQ,AL,BD,AX,AC,AA,A7,BX,I7,BZ,BU,AB,lMc,lMn,lAn,↓reduceIte,Nat.reduceEqDiff,oGs,bNf,ML ge]
 have S:NSt h c [] (.sl .nil 0 []) H:=⟨gc,outG.nil _ _ _ _,by omega,hx⟩
 refine (AJG G ops hops h c ob s0 (by omega) e hw H [] _ S go (by simp)).mono ?_
 rintro r h' ⟨v',hch,S5⟩
 simp -implicitDefEqProofs only [BC,BA,BL,A8,CJ,AY,BB,AO,AQ,AL,BD,AX,AC,AA,A7,AZ,BV,AB,↓reduceIte,Nat.reduceEqDiff,oGs,bNf,enP,JP AFA S5.cell]
 exact ⟨S5.ex,S5.out⟩
theorem AYW (h:Hp) (a b:Int):FH Tryz.prog false h 57 2 [(0,.int .i64 a),(1,.int .i64 b)]=some (.sl .full 1 [[.int .i64 a],[.int .i64 b]],h):=by kernel_rfl
theorem AK7 (G:Nat→AV) (e:Ex) (hw:wt e≤1048576) (h:Hp):PCall (En G) 205 [.agg (ET e)] h (.sl (nm (nmL [2] [] (pre e))) 1 ((nmL [2] [] (pre e)).map encStr)):=by
 refine ACalls.pure0 rfl ?_
 refine CB (H:=Hint.none) (enM G) Tryz.func205 rfl (by kernel_rfl) (by kernel_rfl) (nLb (by kernel_rfl)) ?_
 show awp _ _ _ _ _ (EE _ [.tmp 2] _)
 simp -implicitDefEqProofs only [FT,F6,BC,BA,A8,AY,BB,AO,AQ,AL,BD,AX,AC,AA,A7,AU,BX,BH,JD,AZ,FV,ES,BV,BZ,BU,CE,AB,BF,lMc,lMn,lAn,↓reduceIte,Nat.reduceEqDiff,oGs,bNf,enP,bxE,ldE,AGL]
 refine (AB0 G [2] (by decide) .full e hw _).use ?_
 simp -implicitDefEqProofs only [BL,A8,CJ,AY,BB,AO,AQ,AL,BD,AX,AC,AA,A7,AZ,↓reduceIte,oGs,bNf]
 exact ⟨trivial,_,rfl⟩
theorem AJE (G:Nat→AV) (e:Ex) (hw:wt e≤1048576) (h:Hp):PCall (En G) 207 [.agg (ET e)] h (.sl (nm (nmL [3,24] [] (pre e))) 1 ((nmL [3,24] [] (pre e)).map encStr)):=by
 refine ACalls.pure0 rfl ?_
 refine CB (H:=Hint.none) (enM G) Tryz.func207 rfl (by kernel_rfl) (by kernel_rfl) (nLb (by kernel_rfl)) ?_
 show awp _ _ _ _ _ (EE _ [.tmp 2] _)
 simp -implicitDefEqProofs only [FT,F6,BC,BA,A8,AY,BB,AO,AQ,AL,BD,AX,AC,AA,A7,AU,BX,BH,JD,AZ,FV,ES,BV,BZ,BU,CE,AB,BF,lMc,lMn,lAn,↓reduceIte,Nat.reduceEqDiff,oGs,bNf,enP,bxE,ldE,AYW]
 refine (AB0 G [3,24] (by decide) .full e hw _).use ?_
 simp -implicitDefEqProofs only [BL,A8,CJ,AY,BB,AO,AQ,AL,BD,AX,AC,AA,A7,AZ,↓reduceIte,oGs,bNf]
 exact ⟨trivial,_,rfl⟩
end Go.Proofs.YtocilianjfhifaaGreatDoor.Xe
set_option linter.unusedSimpArgs false
set_option maxRecDepth 8000
namespace Go.Proofs.YtocilianjfhifaaGreatDoor.Xe
open Sm Bins Cov Wd Go.RowKit
abbrev Sg:=ByteArray × Int
def GH (s:Sg):List AV := [.str s.1,.int .i64 s.2]
theorem AEV (s:Sg):(GH s).length=2:=rfl
def AD0 (s:Sg):Prop := -9223372036854775808≤s.2∧s.2≤9223372036854775807
def LV:List Sg→ByteArray→Nat × Bool
 | [],_=>(0,false)
 | s :: l,n=>if (s.1.toList == n.toList)=true then (wW s.2,true) else LV l n
theorem ACJ : ∀ (l:List Sg) (n:ByteArray),(LV l n).1 < 65536
 | [],_=>by simp [LV]
 | s :: l,n=>by unfold LV; split; exact ALE _; exact ACJ l n
theorem ACI (l:List Sg) (n:ByteArray) (k:Nat) (hk:k < l.length):LV (l.drop k) n=if (l[k].1.toList == n.toList)=true then (wW l[k].2,true) else LV (l.drop (k+1)) n:=by
 rw [List.drop_eq_getElem_cons hk]; rfl
def QW (p:Nat × Bool):AV := .tup [.int .i64 (p.1:Nat),.bool p.2]
theorem AHX (p:Nat × Bool) (n:Nat) (H:Hp):II n H 2 (QW p)=QW p:=rfl
theorem AZN (h:Hp):J3 Tryz.prog h 187=some (.ptr h.length 0 0,h ++ [.live 2 [[.str ⟨#[]⟩,.int .i64 0]]]):=JV (row := [.str ⟨#[]⟩,.int .i64 0]) (by kernel_rfl)
theorem AXP (h:Hp) (s:Sg):FM Tryz.prog (h ++ [.live 2 [[.str ⟨#[]⟩,.int .i64 0]]]) 187 (.ptr h.length 0 0) (.agg (GH s))=some (h ++ [.live 2 [GH s]]):=by
 rw [MX (cs:=GH s) (row := [.str ⟨#[]⟩,.int .i64 0]) rfl AO4 (CY _ _) (by exact Nat.le_refl 2),SS]
 rfl
theorem AIX (h:Hp) (u:AV) (hu:u.leaf=true):O3 h (.agg [u])=some (.ptr h.length 0 0,h ++ [ABlk.live 1 [[u]]]):=YK (by simp only [List.all_cons,hu,List.all_nil]; rfl)
theorem VX {h:Hp} {b:Nat} {u:AV} (hb:h[b]? = some (.live 1 [[u]])):DZ Tryz.prog h 195 (.ptr b 0 0)=some (.agg [u]):=by
 rw [IY AZQ AU1 hb rfl (by exact Nat.le_refl 1)]; rfl
theorem SA {P:Program} {t:TypeId} {a b:ByteArray} (h:a.size+b.size≤9223372036854775807):I4 P t .add (.str a) (.str b)=some (.str (a ++ b)):=by
 show ARV .add a b=_
 unfold ARV
 have:((a.size+b.size:Nat):Int)≤IntKind.i64.max:=by
  show _≤(9223372036854775807:Int)
  omega
 simp only [if_pos this]
section
variable (G:Nat→AV)
theorem ZG (l:List Sg) (m:SM) (n:ByteArray) (h:Hp) (hl:l.length≤1099511627776):PCall (En G) 206 [.agg [.sl m 2 (l.map GH)],.str n] h (QW (LV l n)):=by
 refine AEC 2 (AHX _) ?_
 refine CB (H:=Hint.none) (enM G) Tryz.func206 rfl (by kernel_rfl) (by kernel_rfl) (nLb (by kernel_rfl)) ?_
 show awp _ _ _ _ _ (EE _ [.tmp 4,.tmp 5] _)
 simp -implicitDefEqProofs only [BC,BQ,BA,A8,AY,BB,AO,AQ,AL,BD,AX,AC,AA,A7,AU,BH,BM,BG,AZ,FV,BV,BK,D6,CE,AB,BF,↓reduceIte,Nat.reduceEqDiff,Nat.add_zero,oGs,bNf,enP,AWA,ATT,AIX h (.sl m 2 (l.map GH)) rfl,JP AWZ (CY h (ABlk.live 1 [[.sl m 2 (l.map GH)]])),lLm]
 refine DR (fun k F H => ∃ j,k+j=l.length∧F 1 = .str n∧F 9 = .sl m 2 (l.map GH)∧F 10 = .int .i64 (l.length:Nat)∧F 11 = .int .i64 (j:Nat)∧ext h H∧LV l n=LV (l.drop j) n) l.length ⟨0,by simp,by simp -implicitDefEqProofs only [AA,BF,BN,↓reduceIte,Nat.reduceEqDiff],by simp -implicitDefEqProofs only [AA,↓reduceIte,Nat.reduceEqDiff],by simp -implicitDefEqProofs only [AA,↓reduceIte,Nat.reduceEqDiff],by simp -implicitDefEqProofs only [AA,↓reduceIte]; rfl,(ext.rfl' h).app _,rfl⟩ ?_
 rintro k F H ⟨j,hj,f1,f9,f10,f11,hx,hf⟩
 simp -implicitDefEqProofs only [BC,BA,BI,A8,AY,BB,AO,AQ,AL,BD,AX,AC,AA,A7,BR,AB,DF,↓reduceIte,oGs,bNf,enP,f10,f11]
 refine CW (fun hc => ?_) (fun hc => ?_)
 ·have hj':j < l.length:=by simpa using hc
  have g:=CY H (ABlk.live 2 [GH l[j]])
  have l0:DZ Tryz.prog (H ++ [ABlk.live 2 [GH l[j]]]) 9 (.ptr H.length 0 0)=some (.str l[j].1):=by rw [DJ ag9 g (row:=GH l[j]) rfl]; rfl
  have l1:DZ Tryz.prog (H ++ [ABlk.live 2 [GH l[j]]]) 3 (.ptr H.length 0 1)=some (.int .i64 l[j].2):=by rw [DJ ag3 g (row:=GH l[j]) rfl]; rfl
  rw [ACI l n j hj'] at hf
  simp -implicitDefEqProofs only [BC,BQ,BA,BO,BI,A8,AY,BB,AO,AQ,AL,BD,AX,AC,E8,AA,A7,BG,GG,BV,EP,BR,BK,CG,CE,AB,DW,LC,↓reduceIte,Nat.reduceEqDiff,Nat.add_zero,oGs,bNf,enP,AWE,AMF,Option.getD_none,f1,f9,f11,D5 hj',FO AZR AO4 AEV hj',AZN,AXP,l0]
  refine CW (fun hb => ?_) (fun hb => ?_)
  ·simp -implicitDefEqProofs only [BC,BA,AY,AO,AQ,AL,BD,AX,AC,AA,A7,BX,BV,BK,BZ,BU,AB,lMc,lMn,lAn,↓reduceIte,Nat.reduceEqDiff,Nat.zero_add,oGs,bNf,enP,AME,l1]
   refine (AMV G _ _).use ?_
   simp -implicitDefEqProofs only [BL,A8,CP,D8,FB,KR,AY,BB,AO,AQ,AL,BD,AX,AC,AA,A7,AU,BM,AZ,↓reduceIte,Nat.reduceEqDiff,oGs,bNf]
   exact ⟨by rw [hf,if_pos hb]; rfl,hx.app _⟩
  ·simp -implicitDefEqProofs only [BA,BO,A8,EF,ER,AY,BB,AO,AQ,AL,BD,AX,AC,AA,A7,AU,BH,BG,BR,AB,DI,↓reduceIte,Nat.reduceEqDiff,oGs,bNf,enP,f11,wrap_succ (show j < 9223372036854775807 by omega)]
   exact ⟨k - 1,by omega,j+1,by omega,by first | exact f1 | trivial,by first | exact f9 | trivial,by first | exact f10 | trivial,rfl,hx.app _,by rw [hf,if_neg (by rw [hb]; decide)]⟩
 ·have hj' : ¬ j < l.length:=by simpa using hc
  simp -implicitDefEqProofs only [BC,BA,BL,DL,A8,EC,EY,EW,KR,AY,BB,AO,AQ,AL,BD,AX,AC,AA,AU,BH,BM,AZ,↓reduceIte,Nat.reduceEqDiff,oGs,bNf]
  exact ⟨by rw [hf,List.drop_eq_nil_of_le (by omega)]; rfl,hx⟩
theorem ACH (l:List Sg) (m:SM) (n:ByteArray) (h:Hp) (hl:l.length≤1099511627776) (hok : ∀ s∈l,AD0 s):PCall (En G) 247 [.sl m 2 (l.map GH),.str n] h (QW (LV l n)):=by
 refine CB (H:=Hint.none) (enM G) Tryz.func247 rfl (by kernel_rfl) (by kernel_rfl) (nLb (by kernel_rfl)) ?_
 show awp _ _ _ _ _ (EE _ [.tmp 4,.tmp 5] _)
 simp -implicitDefEqProofs only [BC,BQ,BA,A8,AY,BB,AO,AQ,AL,BD,AX,AC,AU,BH,BM,AZ,oGs,bNf,enP]
 refine DR (fun k F H => ∃ j,k+j=l.length∧F 0 = .sl m 2 (l.map GH)∧F 1 = .str n∧F 6 = .int .i64 (j:Nat)∧H=h∧LV l n=LV (l.drop j) n) l.length ⟨0,by simp,by simp -implicitDefEqProofs only [AA,BF,↓reduceIte,Nat.reduceEqDiff],by simp -implicitDefEqProofs only [AA,BF,BN,↓reduceIte,Nat.reduceEqDiff],by simp -implicitDefEqProofs only [AA,↓reduceIte]; rfl,rfl,rfl⟩ ?_
 rintro k F H ⟨j,hj,f0,f1,f6,rfl,hf⟩
 simp -implicitDefEqProofs only [BC,BA,BI,A8,AY,BB,AO,AQ,AL,BD,AX,AC,AA,A7,BG,BR,D6,AB,DF,↓reduceIte,Nat.reduceEqDiff,oGs,bNf,enP,AWA,f0,f6,lLm]
 refine CW (fun hc => ?_) (fun hc => ?_)
 ·have hj':j < l.length:=by simpa using hc
  rw [ACI l n j hj'] at hf
  have l0:DZ Tryz.prog H 9 (.fptr 2 (l.map GH) j 0)=some (.str l[j].1):=by rw [DT ag9 hj']; rfl
  have l1:DZ Tryz.prog H 3 (.fptr 2 (l.map GH) j 1)=some (.int .i64 l[j].2):=by rw [DT ag3 hj']; rfl
  simp -implicitDefEqProofs only [BC,BQ,BA,BO,BI,A8,AY,BB,AO,AQ,AL,BD,AX,AC,AA,A7,BG,BV,BR,BK,CG,AB,LC,↓reduceIte,Nat.reduceEqDiff,Nat.add_zero,oGs,bNf,enP,AWE,AMF,f0,f1,f6,D5 hj',l0]
  refine CW (fun hb => ?_) (fun hb => ?_)
  ·simp -implicitDefEqProofs only [BC,BA,AY,AO,AQ,AL,BD,AX,AC,AA,A7,BX,BG,BV,BK,CG,BZ,BU,AB,lMc,lMn,lAn,↓reduceIte,Nat.reduceEqDiff,Nat.zero_add,oGs,bNf,enP,AWE,AME,f0,f6,D5 hj',l1]
   refine (QC G _ _ (hok _ (List.getElem_mem hj'))).use ?_
   simp -implicitDefEqProofs only [BL,A8,CP,D8,FB,KR,AY,BB,AO,AQ,AL,BD,AX,AC,AA,A7,AU,BM,AZ,↓reduceIte,Nat.reduceEqDiff,oGs,bNf]
   exact ⟨by rw [hf,if_pos hb]; rfl,trivial⟩
  ·simp -implicitDefEqProofs only [BA,BO,A8,EF,ER,AY,BB,AO,AQ,AL,BD,AX,AC,AA,A7,AU,BH,BG,AZ,BR,AB,DI,↓reduceIte,Nat.reduceEqDiff,oGs,bNf,enP,f6,wrap_succ (show j < 9223372036854775807 by omega)]
   exact ⟨k - 1,by omega,j+1,by omega,by first | exact f0 | trivial,by first | exact f1 | trivial,rfl,trivial,by rw [hf,if_neg (by rw [hb]; decide)]⟩
 ·have hj' : ¬ j < l.length:=by simpa using hc
  simp -implicitDefEqProofs only [BC,BA,BL,DL,A8,EC,EY,EW,KR,AY,BB,AO,AQ,AL,BD,AX,AC,AA,AU,BH,BM,AZ,↓reduceIte,Nat.reduceEqDiff,oGs,bNf]
  exact ⟨by rw [hf,List.drop_eq_nil_of_le (by omega)]; rfl,trivial⟩
def elN (a:ByteArray) (i:Nat):ByteArray:=a ++ (⟨#[91]⟩:ByteArray) ++ (⟨#[UInt8.ofNat (48+i)]⟩:ByteArray) ++ (⟨#[93]⟩:ByteArray)
def atG (l:List Sg) (a:ByteArray) (i:Int):Nat × Bool:=if i < 0∨i≥8 then (0,false) else LV l (elN a i.toNat)
theorem AKV (l:List Sg) (a:ByteArray) (i:Int):(atG l a i).1 < 65536:=by unfold atG; split; decide; exact ACJ _ _
theorem AQX : ∀ i:Nat,i < 8→U1 Tryz.prog 206 9 (.sl .full 1 [[.int .u8 (IntKind.u8.wrap (IntKind.i64.wrap (48+(i:Int))))]])=some (.str ⟨#[UInt8.ofNat (48+i)]⟩)
 | 0,_=>by kernel_rfl
 | 1,_=>by kernel_rfl
 | 2,_=>by kernel_rfl
 | 3,_=>by kernel_rfl
 | 4,_=>by kernel_rfl
 | 5,_=>by kernel_rfl
 | 6,_=>by kernel_rfl
 | 7,_=>by kernel_rfl
 | n+8,h=>absurd h (by omega)
theorem AY6 (h:Hp) (v:Int):FH Tryz.prog false h 206 1 [(0,.int .u8 v)]=some (.sl .full 1 [[.int .u8 v]],h):=by kernel_rfl
theorem VJ (a b:ByteArray):(a ++ b).size=a.size+b.size:=ByteArray.size_append
theorem AGR (l:List Sg) (m:SM) (a:ByteArray) (i:Int) (h:Hp) (hl:l.length≤1099511627776) (ha:a.size≤1048576):PCall (En G) 208 [.agg [.sl m 2 (l.map GH)],.str a,.int .i64 i] h (QW (atG l a i)):=by
 refine AEC 2 (AHX _) ?_
 refine CB (H:=Hint.none) (enM G) Tryz.func208 rfl (by kernel_rfl) (by kernel_rfl) (nLb (by kernel_rfl)) ?_
 show awp _ _ _ _ _ (EE _ [.tmp 6,.tmp 7] _)
 have hx:ext h (h ++ [ABlk.live 1 [[.sl m 2 (l.map GH)]]]):=(ext.rfl' h).app _
 simp -implicitDefEqProofs only [BC,BA,A8,AY,BB,BJ,BP,CO,AO,AQ,AL,BD,AX,AC,AA,A7,AU,BH,BM,BG,AZ,FV,BR,CE,AB,DF,BF,BN,↓reduceIte,Nat.reduceEqDiff,oGs,bNf,enP,AIX h (.sl m 2 (l.map GH)) rfl]
 cases h1:decide (i < 0)
 ·cases h2:decide (i≥8)
  ·have h1' : ¬ i < 0:=by simpa using h1
   have h2' : ¬ i≥8:=by simpa using h2
   obtain ⟨k,rfl⟩:=Int.eq_ofNat_of_zero_le (show 0≤i by omega)
   have hk:k < 8:=by omega
   have e1:I4 Tryz.prog 9 .add (.str a) (.str ⟨#[91]⟩)=_:=SA (by show a.size+1≤_; omega)
   have e2:I4 Tryz.prog 9 .add (.str (a ++ (⟨#[91]⟩:ByteArray))) (.str ⟨#[UInt8.ofNat (48+k)]⟩)=_:=SA (by rw [VJ]; show a.size+1+1≤_; omega)
   have e3:I4 Tryz.prog 9 .add (.str (a ++ (⟨#[91]⟩:ByteArray) ++ (⟨#[UInt8.ofNat (48+k)]⟩:ByteArray))) (.str ⟨#[93]⟩)=_:=SA (by rw [VJ,VJ]; show a.size+1+1+1≤_; omega)
   simp -implicitDefEqProofs only [FT,F6,BC,BA,BO,BI,A8,DU,AY,BB,BJ,BP,CO,EK,AO,AQ,AL,BD,AX,AC,AA,A7,AU,BX,BH,BM,IP,BG,CQ,DK,ES,BV,BR,YU,BZ,BU,CE,AB,DI,GZ,BF,BN,lMc,lMn,lAn,↓reduceIte,Nat.reduceEqDiff,oGs,bNf,enP,AYO,h2,VX (CY h (ABlk.live 1 [[.sl m 2 (l.map GH)]])),e1,AY6,AQX k hk,e2,e3]
   refine (ZG G l m _ _ hl).use ?_
   unfold QW
   simp -implicitDefEqProofs only [List.getElem?_cons_zero,List.getElem?_cons_succ,BL,A8,KR,AY,BB,AO,AQ,AL,BD,AX,AC,AA,A7,AZ,FW,IB,AB,↓reduceIte,Nat.reduceEqDiff,oGs,bNf]
   exact ⟨by unfold atG; rw [if_neg (by omega)]; rfl,hx⟩
  ·simp -implicitDefEqProofs only [BC,BA,BL,BI,A8,CP,KR,C9,AY,BB,BJ,BP,CO,EK,AO,AQ,AL,BD,AX,AC,AA,A7,AU,BH,BM,BG,AZ,CQ,DK,BR,AB,GZ,BF,BN,↓reduceIte,Nat.reduceEqDiff,oGs,bNf,enP,h2]
   have h2':i≥8:=by simpa using h2
   exact ⟨by unfold atG; rw [if_pos (.inr h2')]; rfl,hx⟩
 ·simp -implicitDefEqProofs only [BC,BA,BL,BI,A8,CP,KR,C9,AY,BB,BJ,BP,CO,FK,AO,AQ,AL,BD,AX,AC,AA,EQ,A7,AU,BH,BM,AZ,CQ,DN,↓reduceIte,Nat.reduceEqDiff,oGs,bNf]
  have h1':i < 0:=by simpa using h1
  exact ⟨by unfold atG; rw [if_pos (.inl h1')]; rfl,hx⟩
theorem AQW : ∀ (k:Nat),k < 8→∀ h:Hp,NJ Tryz.prog h 9 (.str ⟨#[48,49,50,51,52,53,54,55,56,57]⟩) (some (.int .i64 (k:Nat))) (some (.int .i64 ((k+1:Nat):Int))) none=some (.str ⟨#[UInt8.ofNat (48+k)]⟩)
 | 0,_,h=>by kernel_rfl
 | 1,_,h=>by kernel_rfl
 | 2,_,h=>by kernel_rfl
 | 3,_,h=>by kernel_rfl
 | 4,_,h=>by kernel_rfl
 | 5,_,h=>by kernel_rfl
 | 6,_,h=>by kernel_rfl
 | 7,_,h=>by kernel_rfl
 | n+8,q,_=>absurd q (by omega)
theorem digit_ref (k:Nat) (hk:k < 8) (h:Hp):PCall (En G) 277 [.int .i64 (k:Nat)] h (.str ⟨#[UInt8.ofNat (48+k)]⟩):=by
 refine CB (H:=Hint.none) (enM G) Tryz.func277 rfl (by kernel_rfl) (by kernel_rfl) (nLb (by kernel_rfl)) ?_
 show awp _ _ _ _ _ (EE _ [.tmp 2] _)
 simp -implicitDefEqProofs only [Option.map_some,Option.map_none,BC,BA,BL,A8,CJ,AY,BB,AO,AQ,AL,BD,AX,AC,AA,A7,AU,BH,IP,BG,AZ,BR,XF,AB,DI,BF,↓reduceIte,Nat.reduceEqDiff,oGs,bNf,enP,wrap_succ (show k < 9223372036854775807 by omega),AQW k hk]
 exact ⟨trivial,trivial⟩
theorem AAQ (a:ByteArray) (k:Nat) (hk:k < 8) (h:Hp) (ha:a.size≤1048576):PCall (En G) 248 [.str a,.int .i64 (k:Nat)] h (.str (elN a k)):=by
 refine CB (H:=Hint.none) (enM G) Tryz.func248 rfl (by kernel_rfl) (by kernel_rfl) (nLb (by kernel_rfl)) ?_
 show awp _ _ _ _ _ (EE _ [.tmp 4] _)
 have e1:I4 Tryz.prog 9 .add (.str a) (.str ⟨#[91]⟩)=_:=SA (by show a.size+1≤_; omega)
 have e2:I4 Tryz.prog 9 .add (.str (a ++ (⟨#[91]⟩:ByteArray))) (.str ⟨#[UInt8.ofNat (48+k)]⟩)=_:=SA (by rw [VJ]; show a.size+1+1≤_; omega)
 have e3:I4 Tryz.prog 9 .add (.str (a ++ (⟨#[91]⟩:ByteArray) ++ (⟨#[UInt8.ofNat (48+k)]⟩:ByteArray))) (.str ⟨#[93]⟩)=_:=SA (by rw [VJ,VJ]; show a.size+1+1+1≤_; omega)
 simp -implicitDefEqProofs only [BC,BA,A8,AY,BB,AO,AQ,AL,BD,AX,AC,AA,A7,AU,BX,IP,BG,AZ,BR,BZ,BU,AB,BF,BN,lMc,lMn,lAn,↓reduceIte,Nat.reduceEqDiff,oGs,bNf,enP,e1]
 refine (digit_ref G k hk h).use ?_
 simp -implicitDefEqProofs only [BL,A8,CJ,AY,BB,AO,AQ,AL,BD,AX,AC,AA,A7,AU,IP,AZ,BR,AB,↓reduceIte,Nat.reduceEqDiff,oGs,bNf,enP,e2,e3]
 exact ⟨rfl,trivial⟩
theorem AAH (l:List Sg) (m:SM) (a:ByteArray) (i:Int) (h:Hp) (hl:l.length≤1099511627776) (hok : ∀ s∈l,AD0 s) (ha:a.size≤1048576):PCall (En G) 249 [.sl m 2 (l.map GH),.str a,.int .i64 i] h (.int .i64 ((atG l a i).1:Nat)):=by
 refine CB (H:=Hint.none) (enM G) Tryz.func249 rfl (by kernel_rfl) (by kernel_rfl) (nLb (by kernel_rfl)) ?_
 show awp _ _ _ _ _ (EE _ [.tmp 6] _)
 simp -implicitDefEqProofs only [BC,BA,A8,AY,BB,BJ,BP,CO,AO,AQ,AL,BD,AX,AC,AA,A7,AU,BH,BG,AZ,BR,AB,DF,BF,BN,↓reduceIte,Nat.reduceEqDiff,oGs,bNf,enP]
 cases h1:decide (i < 0)
 ·cases h2:decide (i≥8)
  ·have h1' : ¬ i < 0:=by simpa using h1
   have h2' : ¬ i≥8:=by simpa using h2
   obtain ⟨k,rfl⟩:=Int.eq_ofNat_of_zero_le (show 0≤i by omega)
   simp -implicitDefEqProofs only [BC,BA,BO,BI,A8,DU,AY,BB,BJ,BP,CO,EK,AO,AQ,AL,BD,AX,AC,AA,A7,AU,BX,BH,BM,BG,CQ,DK,BR,BZ,BU,AB,GZ,BF,BN,lMc,lMn,lAn,↓reduceIte,Nat.reduceEqDiff,oGs,bNf,enP,h2]
   refine (AAQ G a k (by omega) h ha).use ?_
   simp -implicitDefEqProofs only [AY,AO,AQ,AL,BD,AX,AC,AA,A7,BX,BZ,BU,lMc,lMn,lAn,↓reduceIte,Nat.reduceEqDiff,oGs,bNf]
   refine (ACH G l m _ h hl hok).use ?_
   unfold QW
   simp -implicitDefEqProofs only [List.getElem?_cons_zero,List.getElem?_cons_succ,BC,BA,BL,A8,CJ,AY,BB,AO,AQ,AL,BD,AX,AC,AA,A7,BG,AZ,FW,IB,AB,↓reduceIte,Nat.reduceEqDiff,oGs,bNf]
   exact ⟨by unfold atG; rw [if_neg (by omega)]; rfl,trivial⟩
  ·simp -implicitDefEqProofs only [BC,BA,BL,BI,A8,CP,CJ,C9,AY,BB,BJ,BP,CO,EK,AO,AQ,AL,BD,AX,AC,AA,A7,AU,BH,BM,BG,AZ,CQ,DK,BR,AB,GZ,BF,BN,↓reduceIte,Nat.reduceEqDiff,oGs,bNf,enP,h2]
   have h2':i≥8:=by simpa using h2
   exact ⟨by unfold atG; rw [if_pos (.inr h2')]; rfl,trivial⟩
 ·simp -implicitDefEqProofs only [BC,BA,BL,BI,A8,CP,CJ,C9,AY,BB,BJ,BP,CO,FK,AO,AQ,AL,BD,AX,AC,AA,EQ,A7,AU,BH,BM,AZ,CQ,DN,↓reduceIte,Nat.reduceEqDiff,oGs,bNf]
  have h1':i < 0:=by simpa using h1
  exact ⟨by unfold atG; rw [if_pos (.inl h1')]; rfl,trivial⟩
def sumTo (l:List Sg) (a:ByteArray):Nat→Nat
 | 0=>0
 | k+1=>(sumTo l a k+(atG l a (k:Nat)).1) % 65536
theorem ABM (l:List Sg) (a:ByteArray) (k:Nat):sumTo l a k < 65536:=by
 cases k with
 | zero=>show 0 < 65536; decide
 | succ k=>exact Nat.mod_lt _ (by omega)
theorem AO6 (l:List Sg) (m:SM) (a:ByteArray) (h:Hp) (hl:l.length≤1099511627776) (ha:a.size≤1048576):PCall (En G) 209 [.agg [.sl m 2 (l.map GH)],.str a] h (.int .i64 (sumTo l a 8:Nat)):=by
 refine ACalls.pure0 rfl ?_
 refine CB (H:=Hint.none) (enM G) Tryz.func209 rfl (by kernel_rfl) (by kernel_rfl) (nLb (by kernel_rfl)) ?_
 show awp _ _ _ _ _ (EE _ [.tmp 4] _)
 have g:=CY h (ABlk.live 1 [[.sl m 2 (l.map GH)]])
 simp -implicitDefEqProofs only [BC,BQ,BA,A8,AY,BB,AO,AQ,AL,BD,AX,AC,A7,AU,BH,BG,AZ,FV,CE,BF,oGs,bNf,enP,AIX h (.sl m 2 (l.map GH)) rfl]
 generalize hH:h ++ [ABlk.live 1 [[.sl m 2 (l.map GH)]]]=H at g ⊢
 refine DR (fun k F H' => ∃ j,k+j=8∧F 1 = .str a∧F 2 = .ptr h.length 0 0∧F 5 = .int .i64 (sumTo l a j:Nat)∧F 9 = .int .i64 (j:Nat)∧H'=H) 8 ⟨0,by simp,by simp -implicitDefEqProofs only [AA,BF,BN,↓reduceIte,Nat.reduceEqDiff],by simp -implicitDefEqProofs only [AA,↓reduceIte,Nat.reduceEqDiff],by simp -implicitDefEqProofs only [AA,↓reduceIte,Nat.reduceEqDiff] <;> rfl,by simp -implicitDefEqProofs only [AA,↓reduceIte] <;> rfl,rfl⟩ ?_
 rintro k F H' ⟨j,hj,f1,f2,f5,f9,rfl⟩
 simp -implicitDefEqProofs only [BC,BA,BI,A8,AY,BB,AO,AQ,AL,BD,AX,AC,AA,A7,AU,BH,BR,AB,DF,↓reduceIte,oGs,bNf,enP,f9]
 refine CW (fun hc => ?_) (fun hc => ?_)
 ·have hj':j < 8:=by simp at hc; omega
  simp -implicitDefEqProofs only [BC,BQ,BA,BO,A8,AY,BB,AO,AQ,AL,BD,AX,AC,AA,A7,BX,BG,AZ,BV,BZ,BU,AB,lMc,lMn,lAn,↓reduceIte,Nat.reduceEqDiff,oGs,bNf,enP,f1,f2,f9,VX g]
  refine (AGR G l m a (j:Nat) H' hl ha).use ?_
  unfold QW
  simp -implicitDefEqProofs only [List.getElem?_cons_zero,List.getElem?_cons_succ,BA,A8,AY,BB,AO,AQ,AL,BD,AX,AC,AA,A7,BX,BG,AZ,FW,IB,BZ,BU,AB,lMc,lMn,lAn,↓reduceIte,Nat.reduceEqDiff,oGs,bNf,f5]
  refine (AVI G _ _ (ABM l a j) (AKV l a (j:Nat)) H').use ?_
  simp -implicitDefEqProofs only [BA,A8,EF,ER,AY,BB,AO,AQ,AL,BD,AX,AC,AA,A7,AU,BH,BG,AZ,BR,AB,DI,↓reduceIte,Nat.reduceEqDiff,oGs,bNf,enP,f1,f2,f9,wrap_succ (show j < 9223372036854775807 by omega)]
  exact ⟨k - 1,by omega,j+1,by omega,by first | trivial | rfl,by first | trivial | rfl,by first | trivial | rfl,by first | trivial | rfl,trivial⟩
 ·have hj':j=8:=by simp at hc; omega
  subst hj'
  simp -implicitDefEqProofs only [BC,BA,BL,DL,A8,EC,EY,EW,CJ,AY,BB,AO,AQ,AL,BD,AX,AC,AA,A7,BG,AZ,↓reduceIte,Nat.reduceEqDiff,oGs,bNf,f5]
  exact ⟨trivial,_,hH.symm⟩
end
def AB7 (x:Nat):List Nat→Bool
 | a :: b :: r=>(decide (a≤x) && decide (x≤b)) || AB7 x r
 | _=>false
def opW (op:Int) (vs:List Nat):Nat :=
 if op=22 then (if vs.getD 0 0≠0 then vs.getD 1 0 else vs.getD 2 0) else if op=23 then tr (AB7 (vs.getD 0 0) (vs.drop 1))
 else if vs.length=1 then sgW op (vs.getD 0 0) else dbW op (vs.getD 0 0) (vs.getD 1 0)
theorem getD_lt {vs:List Nat} (hv : ∀ x∈vs,x < 65536) (k:Nat):vs.getD k 0 < 65536:=by
 rw [List.getD_eq_getElem?_getD]
 rcases Nat.lt_or_ge k vs.length with h | h
 ·rw [List.getElem?_eq_getElem h]; exact hv _ (List.getElem_mem h)
 ·rw [List.getElem?_eq_none h]; decide
theorem AV5 (op:Int) {vs:List Nat} (hv : ∀ x∈vs,x < 65536):opW op vs < 65536:=by
 unfold opW
 have h0:=getD_lt hv 0
 have h1:=getD_lt hv 1
 have h2:=getD_lt hv 2
 split
 ·split <;> assumption
 split
 ·exact XJ _
 split
 ·exact AV0 h0
 ·exact AWO h0 h1
theorem AEM (x:Nat) (l:List Nat) (k:Nat) (hk:k+1 < l.length):AB7 x (l.drop k)=((decide (l[k]≤x) && decide (x≤l[k+1])) || AB7 x (l.drop (k+2))):=by
 rw [List.drop_eq_getElem_cons (by omega:k < l.length),List.drop_eq_getElem_cons hk]; rfl
theorem AH6 (x:Nat) (l:List Nat) (k:Nat) (hk:l.length≤k+1):AB7 x (l.drop k)=false:=by
 have:(l.drop k).length≤1:=by simp; omega
 match hm:l.drop k,this with
 | [],_=>rfl
 | [a],_=>rfl
theorem gec (a b:Nat):decide ((a:Int)≥(b:Int))=decide (b≤a):=lec b a
def AJA (op:Int) (n:Nat):Prop:=(op=22→n=3)∧(op=23→n % 2=1∧3≤n)∧(op≠22→op≠23→n=1∨n=2)
set_option maxHeartbeats 2000000 in
theorem ANH (G:Nat→AV) (op:Int) (vs:List Nat) (o:Nat) (H:Hp) (ho:H[o]? = some (.live 1 (vs.map IV))) (hv : ∀ x∈vs,x < 65536) (hl:vs.length≤1048576) (hops:AJA op vs.length) :
  PCall (En G) 210 [.int .i64 op,.own o 0 vs.length] H (.int .i64 (opW op vs:Nat)):=by
 have hix : ∀ k:Nat,k < vs.length→JR 1 H (.own o 0 vs.length) (.int .i64 (k:Nat))=some (.ptr o k 0):=fun k hk=>by rw [LM ho hk,Nat.zero_add]
 have hld : ∀ (k:Nat) (hk:k < vs.length),DZ Tryz.prog H 3 (.ptr o k 0)=some (.int .i64 (vs[k]:Nat)):=fun k hk=>by rw [DJ ag3 ho (row:=IV vs[k]) (MB hk)]; rfl
 have h1:1≤vs.length:=by
  obtain ⟨a,b,c⟩:=hops
  by_cases e:op=22
  ·have:=a e; omega
  by_cases e':op=23
  ·have:=b e'; omega
  ·have:=c e e'; omega
 have i0:JR 1 H (.own o 0 vs.length) (.int .i64 0)=some (.ptr o 0 0):=hix 0 h1
 have d0:=hld 0 h1
 have g0:vs.getD 0 0=vs[0]:=by rw [List.getD_eq_getElem?_getD,List.getElem?_eq_getElem h1]; rfl
 have v0:vs[0] < 65536:=hv _ (List.getElem_mem _)
 refine CB (H:=Hint.none) (enM G) Tryz.func210 rfl (by kernel_rfl) (by kernel_rfl) (nLb (by kernel_rfl)) ?_
 show awp _ _ _ _ _ (EE _ [.tmp 4] _)
 by_cases e22:op=22
 ·subst e22
  have hl3:vs.length=3:=hops.1 rfl
  have i1:JR 1 H (.own o 0 vs.length) (.int .i64 1)=some (.ptr o 1 0):=hix 1 (by omega)
  have i2:JR 1 H (.own o 0 vs.length) (.int .i64 2)=some (.ptr o 2 0):=hix 2 (by omega)
  have d1:=hld 1 (by omega)
  have d2:=hld 2 (by omega)
  have g1:vs.getD 1 0=vs[1]:=by rw [List.getD_eq_getElem?_getD,List.getElem?_eq_getElem (by omega)]; rfl
  have g2:vs.getD 2 0=vs[2]:=by rw [List.getD_eq_getElem?_getD,List.getElem?_eq_getElem (by omega)]; rfl
  simp -implicitDefEqProofs only [BC,BQ,BA,BI,A8,C9,AY,BB,AO,AQ,AL,BD,AX,AC,AA,A7,AU,BH,BG,AZ,BV,BR,CG,AB,DY,EJ,BF,BN,↓reduceIte,Nat.reduceEqDiff,oGs,bNf,enP,JH,Int.reduceBEq,i0,d0,eqz,nez]
  cases hz:(vs[0] == 0)
  ·simp -implicitDefEqProofs only [BC,BA,BL,A8,CP,D8,CJ,C9,AY,BB,AO,AQ,AL,BD,AX,AC,AA,A7,AU,BH,BG,AZ,BV,CG,AB,BF,BN,↓reduceIte,Nat.reduceEqDiff,oGs,bNf,enP,JH,i1,d1]
   have:vs[0]≠0:=by simpa using hz
   exact ⟨by unfold opW; rw [if_pos rfl,g0,if_pos this,g1],trivial⟩
  ·simp -implicitDefEqProofs only [BC,BA,BO,BL,A8,CP,D8,CJ,DU,AY,BB,AO,AQ,AL,BD,AX,AC,AA,A7,AU,BH,BG,AZ,BV,CG,AB,BF,BN,↓reduceIte,Nat.reduceEqDiff,oGs,bNt,bNf,enP,JH,i2,d2]
   have : ¬ vs[0]≠0:=by simpa using hz
   exact ⟨by unfold opW; rw [if_pos rfl,g0,if_neg this,g2],trivial⟩
 by_cases e23:op=23
 ·subst e23
  obtain ⟨hodd,h3⟩:=hops.2.1 rfl
  simp -implicitDefEqProofs only [BC,BQ,BA,BI,A8,C9,DU,AY,BB,AO,AQ,AL,BD,AX,AC,AA,A7,AU,BH,BG,AZ,BR,AB,DY,BF,↓reduceIte,Nat.reduceEqDiff,oGs,bNf,enP,Int.reduceBEq]
  have hval:opW 23 vs=tr (AB7 vs[0] (vs.drop 1)):=by unfold opW; rw [if_neg (by decide),if_pos rfl,g0]
  rw [hval]
  refine DR (fun n F H' => ∃ j,n+j=vs.length∧j % 2=1∧F 1 = .own o 0 vs.length∧F 5 = .int .i64 (j:Nat)∧H'=H∧AB7 vs[0] (vs.drop 1)=AB7 vs[0] (vs.drop j)) (vs.length - 1) ⟨1,by omega,rfl,by simp -implicitDefEqProofs only [AA,BF,BN,↓reduceIte,Nat.reduceEqDiff],by simp -implicitDefEqProofs only [AA,↓reduceIte] <;> rfl,rfl,rfl⟩ ?_
  rintro n F H' ⟨j,hj,hj2,f1,f5,rfl,hin⟩
  simp -implicitDefEqProofs only [BC,BA,BI,A8,AY,BB,AO,AQ,AL,BD,AX,AC,AA,A7,AU,BH,BG,BR,D6,AB,DI,DF,↓reduceIte,Nat.reduceEqDiff,oGs,bNf,enP,JB,f1,f5,wrap_succ (show j < 9223372036854775807 by omega)]
  refine CW (fun hc => ?_) (fun hc => ?_)
  ·have hc':j+1 < vs.length:=by simp at hc; omega
   have ij:=hix j (by omega)
   have ij1:=hix (j+1) hc'
   have dj:=hld j (by omega)
   have dj1:=hld (j+1) hc'
   rw [AEM _ _ _ hc'] at hin
   have e2:IntKind.i64.wrap (((j:Nat):Int)+2)=((j+2:Nat):Int):=by rw [wrap_i64 (by omega) (by omega)]; omega
   have es:IntKind.i64.wrap (((j:Nat):Int)+1)=((j+1:Nat):Int):=wrap_succ (show j < 9223372036854775807 by omega)
   simp -implicitDefEqProofs only [BC,BQ,BO,A8]
   refine FD (by kernel_rfl) ?_
   simp -implicitDefEqProofs only [F9,EH,DX,EM,FI,GK,FP,FQ,JA,ED,CO,AO,AA,A7,AU,BH,BV,BR,CG,AB,IE,↓reduceIte,Nat.reduceEqDiff,Nat.reduceAdd,oGs,enP,JH,f1,f5,i0,d0,ij,dj,es,ij1,dj1,lec,gec]
   cases ha:decide (vs[j]≤vs[0])
   ·simp -implicitDefEqProofs only [F9,EH,DX,FC,EM,FI,GK,AAP,I5,BA,BO,BI,A8,EF,ER,DU,AY,BB,CO,AO,AQ,AL,BD,AX,AC,AA,EQ,A7,AU,BH,BM,BG,AZ,CQ,DK,BR,AB,DI,↓reduceIte,Nat.reduceEqDiff,Nat.reduceAdd,oGs,bNf,enP,ha,f5,e2]
    exact ⟨n - 2,by omega,j+2,by omega,by omega,by first | exact f1 | trivial,by first | rfl | trivial,trivial,by rw [hin,ha]; rfl⟩
   ·cases hb:decide (vs[0]≤vs[j+1])
    ·simp -implicitDefEqProofs only [F9,EH,DX,FC,EM,FI,GK,TQ,FP,I5,FQ,JA,ED,BA,BO,BI,A8,EF,ER,DU,AY,BB,CO,AO,AQ,AL,BD,AX,AC,AA,A7,AU,BH,BM,BG,AZ,CQ,DN,BV,BR,CG,AB,DI,IE,↓reduceIte,Nat.reduceEqDiff,Nat.reduceAdd,oGs,bNf,enP,JH,ha,hb,f1,f5,es,ij1,dj1,lec,i0,d0,e2]
     exact ⟨n - 2,by omega,j+2,by omega,by omega,by first | exact f1 | trivial,by first | rfl | trivial,trivial,by rw [hin,ha,hb]; rfl⟩
    ·simp -implicitDefEqProofs only [F9,EH,DX,FC,EM,FI,GK,TQ,FP,I5,FQ,JA,ED,BC,BA,BL,BI,A8,CP,D8,FB,CJ,C9,AY,BB,CO,AO,AQ,AL,BD,AX,AC,AA,A7,AU,BH,BM,AZ,CQ,DN,BV,BR,CG,AB,DI,IE,↓reduceIte,Nat.reduceEqDiff,Nat.reduceAdd,oGs,bNf,enP,JH,ha,hb,f1,f5,es,ij1,dj1,lec,i0,d0]
     exact ⟨by rw [hin,ha,hb]; rfl,trivial⟩
  ·have hc':vs.length≤j+1:=by simp at hc; omega
   simp -implicitDefEqProofs only [BC,BA,BL,DL,A8,EC,CP,D8,EY,EW,CJ,AY,BB,AO,AQ,AL,BD,AX,AC,AA,AU,BH,AZ,↓reduceIte,oGs,bNf]
   exact ⟨by rw [hin,AH6 _ _ _ hc']; rfl,trivial⟩
 ·have n12:=hops.2.2 e22 e23
  have c1:(op == 22)=false:=beq_eq_false_iff_ne.2 e22
  have c2:(op == 23)=false:=beq_eq_false_iff_ne.2 e23
  have hval:opW op vs=if vs.length=1 then sgW op (vs.getD 0 0) else dbW op (vs.getD 0 0) (vs.getD 1 0):=by unfold opW; rw [if_neg e22,if_neg e23]
  rw [hval]
  simp -implicitDefEqProofs only [BC,BQ,BA,BO,BI,A8,EF,DU,AY,BB,AO,AQ,AL,BD,AX,AC,AA,A7,AU,BH,BG,AZ,BR,D6,AB,DY,BF,BN,↓reduceIte,Nat.reduceEqDiff,oGs,bNf,enP,JB,c1,c2]
  refine CW (fun hc => ?_) (fun hc => ?_)
  ·have hl1:vs.length=1:=by simp at hc; omega
   simp -implicitDefEqProofs only [BC,BA,AY,AO,AQ,AL,BD,AX,AC,AA,A7,AU,BX,BH,BG,BV,CG,BZ,BU,AB,BF,BN,lMc,lMn,lAn,↓reduceIte,Nat.reduceEqDiff,oGs,bNf,enP,JH,i0,d0]
   refine (AHF G op _ v0 H).use ?_
   simp -implicitDefEqProofs only [BL,A8,CP,CJ,AY,BB,AO,AQ,AL,BD,AX,AC,AA,A7,AZ,↓reduceIte,oGs,bNf]
   exact ⟨by rw [if_pos hl1,g0],trivial⟩
  ·have hl1:vs.length≠1:=by simp at hc; omega
   have i1:JR 1 H (.own o 0 vs.length) (.int .i64 1)=some (.ptr o 1 0):=hix 1 (by omega)
   have d1:=hld 1 (by omega)
   have g1:vs.getD 1 0=vs[1]:=by rw [List.getD_eq_getElem?_getD,List.getElem?_eq_getElem (by omega)]; rfl
   have v1:vs[1] < 65536:=hv _ (List.getElem_mem _)
   simp -implicitDefEqProofs only [BC,BO,A8]
   refine FD (by kernel_rfl) ?_
   simp -implicitDefEqProofs only [F9,EH,DX,FC,EM,FP,J8,FQ,ED,GV,GI,BL,A8,CJ,AO,AA,A7,AU,BX,BH,BV,CG,AB,BF,BN,lMc,lMn,lAn,↓reduceIte,Nat.reduceEqDiff,Nat.reduceAdd,oGs,enP,JH,i0,d0,i1,d1]
   refine ⟨_,AIP G op _ _ v0 v1 H,?_⟩
   exact ⟨by rw [if_neg hl1,g0,g1],trivial⟩
set_option maxHeartbeats 2000000 in
theorem APP (G:Nat→AV) (op:Int) (vs:List Nat) (o:Nat) (H:Hp) (ho:H[o]? = some (.live 1 (vs.map IV))) (hv : ∀ x∈vs,x < 65536) (hl:vs.length≤1048576) (hops:AJA op vs.length) :
  PCall (En G) 219 [.int .i64 op,.own o 0 vs.length] H (.int .i64 (opW op vs:Nat)):=by
 have hix : ∀ k:Nat,k < vs.length→JR 1 H (.own o 0 vs.length) (.int .i64 (k:Nat))=some (.ptr o k 0):=fun k hk=>by rw [LM ho hk,Nat.zero_add]
 have hld : ∀ (k:Nat) (hk:k < vs.length),DZ Tryz.prog H 3 (.ptr o k 0)=some (.int .i64 (vs[k]:Nat)):=fun k hk=>by rw [DJ ag3 ho (row:=IV vs[k]) (MB hk)]; rfl
 have h1:1≤vs.length:=by
  obtain ⟨a,b,c⟩:=hops
  by_cases e:op=22
  ·have:=a e; omega
  by_cases e':op=23
  ·have:=b e'; omega
  ·have:=c e e'; omega
 have i0:JR 1 H (.own o 0 vs.length) (.int .i64 0)=some (.ptr o 0 0):=hix 0 h1
 have d0:=hld 0 h1
 have g0:vs.getD 0 0=vs[0]:=by rw [List.getD_eq_getElem?_getD,List.getElem?_eq_getElem h1]; rfl
 have v0:vs[0] < 65536:=hv _ (List.getElem_mem _)
 refine CB (H:=Hint.none) (enM G) Tryz.func219 rfl (by kernel_rfl) (by kernel_rfl) (nLb (by kernel_rfl)) ?_
 show awp _ _ _ _ _ (EE _ [.tmp 4] _)
 by_cases e22:op=22
 ·subst e22
  have hl3:vs.length=3:=hops.1 rfl
  have i1:JR 1 H (.own o 0 vs.length) (.int .i64 1)=some (.ptr o 1 0):=hix 1 (by omega)
  have i2:JR 1 H (.own o 0 vs.length) (.int .i64 2)=some (.ptr o 2 0):=hix 2 (by omega)
  have d1:=hld 1 (by omega)
  have d2:=hld 2 (by omega)
  have g1:vs.getD 1 0=vs[1]:=by rw [List.getD_eq_getElem?_getD,List.getElem?_eq_getElem (by omega)]; rfl
  have g2:vs.getD 2 0=vs[2]:=by rw [List.getD_eq_getElem?_getD,List.getElem?_eq_getElem (by omega)]; rfl
  simp -implicitDefEqProofs only [BC,BA,BI,A8,C9,AY,BB,AO,AQ,AL,BD,AX,AC,AA,A7,AU,BH,BG,AZ,BV,BR,CG,AB,DY,EJ,BF,BN,↓reduceIte,Nat.reduceEqDiff,oGs,bNf,enP,JH,Int.reduceBEq,i0,d0,eqz,nez]
  cases hz:(vs[0] == 0)
  ·simp -implicitDefEqProofs only [BC,BA,BL,A8,CP,CJ,C9,AY,BB,AO,AQ,AL,BD,AX,AC,AA,A7,AU,BH,BG,AZ,BV,CG,AB,BF,BN,↓reduceIte,Nat.reduceEqDiff,oGs,bNf,enP,JH,i1,d1]
   have:vs[0]≠0:=by simpa using hz
   exact ⟨by unfold opW; rw [if_pos rfl,g0,if_pos this,g1],trivial⟩
  ·simp -implicitDefEqProofs only [BC,BA,BO,BL,A8,CP,CJ,DU,AY,BB,AO,AQ,AL,BD,AX,AC,AA,A7,AU,BH,BG,AZ,BV,CG,AB,BF,BN,↓reduceIte,Nat.reduceEqDiff,oGs,bNt,bNf,enP,JH,i2,d2]
   have : ¬ vs[0]≠0:=by simpa using hz
   exact ⟨by unfold opW; rw [if_pos rfl,g0,if_neg this,g2],trivial⟩
 by_cases e23:op=23
 ·subst e23
  obtain ⟨hodd,h3⟩:=hops.2.1 rfl
  simp -implicitDefEqProofs only [BC,BQ,BA,BO,BI,A8,C9,DU,AY,BB,AO,AQ,AL,BD,AX,AC,AA,A7,AU,BH,BG,AZ,BR,AB,DY,BF,↓reduceIte,Nat.reduceEqDiff,oGs,bNf,enP,Int.reduceBEq]
  have hval:opW 23 vs=tr (AB7 vs[0] (vs.drop 1)):=by unfold opW; rw [if_neg (by decide),if_pos rfl,g0]
  rw [hval]
  refine DR (fun n F H' => ∃ j,n+j=vs.length∧j % 2=1∧F 1 = .own o 0 vs.length∧F 5 = .int .i64 (j:Nat)∧H'=H∧AB7 vs[0] (vs.drop 1)=AB7 vs[0] (vs.drop j)) (vs.length - 1) ⟨1,by omega,rfl,by simp -implicitDefEqProofs only [AA,BF,BN,↓reduceIte,Nat.reduceEqDiff],by simp -implicitDefEqProofs only [AA,↓reduceIte] <;> rfl,rfl,rfl⟩ ?_
  rintro n F H' ⟨j,hj,hj2,f1,f5,rfl,hin⟩
  simp -implicitDefEqProofs only [BC,BA,BI,A8,AY,BB,AO,AQ,AL,BD,AX,AC,AA,A7,AU,BH,BG,BR,D6,AB,DI,DF,↓reduceIte,Nat.reduceEqDiff,oGs,bNf,enP,JB,f1,f5,wrap_succ (show j < 9223372036854775807 by omega)]
  refine CW (fun hc => ?_) (fun hc => ?_)
  ·have hc':j+1 < vs.length:=by simp at hc; omega
   have ij:=hix j (by omega)
   have ij1:=hix (j+1) hc'
   have dj:=hld j (by omega)
   have dj1:=hld (j+1) hc'
   rw [AEM _ _ _ hc'] at hin
   have e2:IntKind.i64.wrap (((j:Nat):Int)+2)=((j+2:Nat):Int):=by rw [wrap_i64 (by omega) (by omega)]; omega
   have es:IntKind.i64.wrap (((j:Nat):Int)+1)=((j+1:Nat):Int):=wrap_succ (show j < 9223372036854775807 by omega)
   simp -implicitDefEqProofs only [BC,BQ,BO,A8]
   refine FD (by kernel_rfl) ?_
   simp -implicitDefEqProofs only [F9,EH,DX,EM,FI,GK,FP,FQ,JA,ED,CO,AO,AA,A7,AU,BH,BV,BR,CG,AB,GZ,↓reduceIte,Nat.reduceEqDiff,Nat.reduceAdd,oGs,enP,JH,f1,f5,i0,d0,ij,dj,es,ij1,dj1,lec,gec]
   cases ha:decide (vs[j]≤vs[0])
   ·simp -implicitDefEqProofs only [F9,EH,DX,FC,EM,FI,GK,AAP,I5,BA,BO,BI,A8,EF,ER,DU,AY,BB,CO,AO,AQ,AL,BD,AX,AC,AA,EQ,A7,AU,BH,BM,BG,AZ,CQ,DK,BR,AB,DI,↓reduceIte,Nat.reduceEqDiff,Nat.reduceAdd,oGs,bNf,enP,ha,f5,e2]
    exact ⟨n - 2,by omega,j+2,by omega,by omega,by first | exact f1 | trivial,by first | rfl | trivial,trivial,by rw [hin,ha]; rfl⟩
   ·cases hb:decide (vs[0]≤vs[j+1])
    ·simp -implicitDefEqProofs only [F9,EH,DX,FC,EM,FI,GK,TQ,FP,I5,FQ,JA,ED,BA,BO,BI,A8,EF,ER,DU,AY,BB,CO,AO,AQ,AL,BD,AX,AC,AA,A7,AU,BH,BM,BG,AZ,CQ,DN,BV,BR,CG,AB,DI,IE,↓reduceIte,Nat.reduceEqDiff,Nat.reduceAdd,oGs,bNf,enP,JH,ha,hb,f1,f5,es,ij1,dj1,lec,i0,d0,e2]
     exact ⟨n - 2,by omega,j+2,by omega,by omega,by first | exact f1 | trivial,by first | rfl | trivial,trivial,by rw [hin,ha,hb]; rfl⟩
    ·simp -implicitDefEqProofs only [F9,EH,DX,FC,EM,FI,GK,TQ,FP,I5,FQ,JA,ED,BC,BA,BL,BI,A8,CP,D8,FB,CJ,C9,AY,BB,CO,AO,AQ,AL,BD,AX,AC,AA,A7,AU,BH,BM,AZ,CQ,DN,BV,BR,CG,AB,DI,IE,↓reduceIte,Nat.reduceEqDiff,Nat.reduceAdd,oGs,bNf,enP,JH,ha,hb,f1,f5,es,ij1,dj1,lec,i0,d0]
     exact ⟨by rw [hin,ha,hb]; rfl,trivial⟩
  ·have hc':vs.length≤j+1:=by simp at hc; omega
   simp -implicitDefEqProofs only [BC,BA,BL,DL,A8,EC,CP,EY,EW,CJ,AY,BB,AO,AQ,AL,BD,AX,AC,AA,AU,BH,AZ,↓reduceIte,oGs,bNf]
   exact ⟨by rw [hin,AH6 _ _ _ hc']; rfl,trivial⟩
 ·have n12:=hops.2.2 e22 e23
  have c1:(op == 22)=false:=beq_eq_false_iff_ne.2 e22
  have c2:(op == 23)=false:=beq_eq_false_iff_ne.2 e23
  have hval:opW op vs=if vs.length=1 then sgW op (vs.getD 0 0) else dbW op (vs.getD 0 0) (vs.getD 1 0):=by unfold opW; rw [if_neg e22,if_neg e23]
  rw [hval]
  simp -implicitDefEqProofs only [BC,BA,BO,BI,A8,DU,AY,BB,AO,AQ,AL,BD,AX,AC,AA,A7,AU,BH,BG,AZ,BR,D6,AB,DY,BF,BN,↓reduceIte,Nat.reduceEqDiff,oGs,bNf,enP,JB,c1,c2]
  refine CW (fun hc => ?_) (fun hc => ?_)
  ·have hl1:vs.length=1:=by simp at hc; omega
   simp -implicitDefEqProofs only [BC,BA,AY,AO,AQ,AL,BD,AX,AC,AA,A7,AU,BX,BH,BG,BV,CG,BZ,BU,AB,BF,BN,lMc,lMn,lAn,↓reduceIte,Nat.reduceEqDiff,oGs,bNf,enP,JH,i0,d0]
   refine (AJK G op _ v0 H).use ?_
   simp -implicitDefEqProofs only [BL,A8,CP,CJ,AY,BB,AO,AQ,AL,BD,AX,AC,AA,A7,AZ,↓reduceIte,oGs,bNf]
   exact ⟨by rw [if_pos hl1,g0],trivial⟩
  ·have hl1:vs.length≠1:=by simp at hc; omega
   have i1:JR 1 H (.own o 0 vs.length) (.int .i64 1)=some (.ptr o 1 0):=hix 1 (by omega)
   have d1:=hld 1 (by omega)
   have g1:vs.getD 1 0=vs[1]:=by rw [List.getD_eq_getElem?_getD,List.getElem?_eq_getElem (by omega)]; rfl
   have v1:vs[1] < 65536:=hv _ (List.getElem_mem _)
   simp -implicitDefEqProofs only [BC,BO,A8]
   refine FD (by kernel_rfl) ?_
   simp -implicitDefEqProofs only [F9,EH,DX,FC,EM,FP,J8,FQ,ED,GV,GI,BL,A8,CJ,AO,AA,A7,AU,BX,BH,BV,CG,AB,BF,BN,lMc,lMn,lAn,↓reduceIte,Nat.reduceEqDiff,Nat.reduceAdd,oGs,enP,JH,i0,d0,i1,d1]
   refine ⟨_,AKJ G op _ _ v0 v1 H,?_⟩
   exact ⟨by rw [if_neg hl1,g0,g1],trivial⟩
def XI (l:List Sg) (op n:Int) (name:ByteArray) (vs:List Nat):Nat :=
 if op=1 then n.toNat % 65536 else if op=2 then (LV l name).1 else if op=3 then (atG l name (vs.getD 0 0:Nat)).1 else if op=24 then sumTo l name 8 else opW op vs
mutual
def YW (l:List Sg):Ex→Nat
 | .mk op n name _ args=>XI l op n name (KW l args)
def KW (l:List Sg):List Ex→List Nat
 | [] => []
 | e :: es=>YW l e :: KW l es
end
theorem AAZ (l:List Sg) (e:Ex):YW l e=XI l e.op e.n e.name (KW l e.args):=by cases e; simp [YW,Ex.op,Ex.n,Ex.name,Ex.args]
theorem P8 (l:List Sg) : ∀ xs:List Ex,KW l xs=xs.map (YW l)
 | []=>by simp [KW]
 | e :: es=>by simp [KW,P8 l es]
theorem U3 (l:List Sg) (xs:List Ex):(KW l xs).length=xs.length:=by rw [P8,lLm]
theorem ABH (l:List Sg) (xs:List Ex) (j:Nat) (hj:j < xs.length):KW l (xs.take (j+1))=KW l (xs.take j) ++ [YW l xs[j]]:=by
 rw [P8,P8,List.take_succ_eq_append_getElem hj,List.map_append]; rfl
theorem ALF (l:List Sg) (e:Ex):YW l e < 65536:=by
 induction e using Ex.induct with | h e ih => ?_
 rw [AAZ]
 have hv : ∀ x∈KW l e.args,x < 65536:=by
  intro x hx
  rw [P8] at hx
  obtain ⟨a,ha,rfl⟩:=List.mem_map.1 hx
  exact ih a ha
 unfold XI
 split
 ·exact Nat.mod_lt _ (by omega)
 split
 ·exact ACJ _ _
 split
 ·exact AKV _ _ _
 split
 ·exact ABM _ _ _
 ·exact AV5 _ hv
theorem AG6 (l:List Sg) (xs:List Ex) : ∀ x∈KW l xs,x < 65536:=by
 intro x hx
 rw [P8] at hx
 obtain ⟨a,_,rfl⟩:=List.mem_map.1 hx
 exact ALF l a
def knE (l:List Sg) (e:Ex):Bool:=if e.op=2 then (LV l e.name).2 else if e.op=3∨e.op=24 then (atG l e.name 0).2 else true
theorem ABZ {e:Ex} (h:J4 e=0):(e.op=1→0≤e.n∧e.n≤65535)∧(e.op=3→e.args.length=1)∧(e.op≠1→e.op≠2→e.op≠3→e.op≠24→AJA e.op e.args.length):=by
 unfold J4 at h
 have hO:WZ e=false:=by
  cases hb:WZ e
  ·rfl
  ·rw [hb] at h; simp at h
 have hN:AGO e=false:=by
  cases hb:AGO e
  ·rfl
  ·rw [hO,hb] at h; simp at h
 have hS:ADX e=false:=by
  cases hb:ADX e
  ·rfl
  ·rw [hO,hN,hb] at h; simp at h
 have hops:Y6 e.op e.args.length=true:=by
  unfold ADX at hS
  rw [Bool.or_eq_false_iff] at hS
  simpa using hS.2
 have h1:1≤e.op∧e.op≤25:=by unfold WZ at hO; simp at hO; omega
 refine ⟨fun h1 => ?_,fun h3 => ?_,fun n1 n2 n3 n24=>⟨fun h22 => ?_,fun h23 => ?_,fun n22 n23 => ?_⟩⟩
 ·unfold AGO at hN; simp [h1] at hN; omega
 ·unfold Y6 at hops; rw [h3] at hops; simp [arity] at hops; omega
 ·unfold Y6 at hops; rw [h22] at hops; simp [arity] at hops; omega
 ·unfold Y6 at hops; rw [h23] at hops; simp at hops; omega
 ·unfold Y6 at hops
  rw [if_neg (by simpa using n23)] at hops
  have h5:arity e.op=1∨arity e.op=2:=by
   by_cases hq:e.op=3∨e.op=4∨e.op=5∨e.op=6∨e.op=25
   ·left; unfold arity; rw [if_neg (by omega),if_neg (by omega),if_pos hq]
   ·right; unfold arity; rw [if_neg (by omega),if_neg (by omega),if_neg hq,if_neg n22,if_neg n23]
  have h6:((e.args.length:Nat):Int)=arity e.op:=by simpa using hops
  omega
theorem str_eq {a b:ByteArray} (h:(a.toList == b.toList)=true):a=b:=by
 rw [ByteArray.toList_eq,ByteArray.toList_eq] at h
 exact ByteArray.ext (Array.toList_inj.1 (beq_iff_eq.1 h))
theorem AS8 (P:ByteArray→Bool) (ops:List Int) (ns:List ByteArray) (e:Ex):(nmU ops ns e).all P=(ns.all P && (!Rk.hasB ops e.op || P e.name)):=by
 unfold nmU
 cases hb:Rk.hasB ops e.op
 ·simp
 cases hs:IG ns e.name
 ·simp
 ·simp
  intro ha
  unfold IG at hs
  rw [List.any_eq_true] at hs
  obtain ⟨u,hu,he⟩:=hs
  rw [str_eq he]; exact ha u hu
theorem AFR (P:ByteArray→Bool) (ops:List Int) : ∀ (xs:List Ex) (ns:List ByteArray),(nmL ops ns xs).all P=(ns.all P && xs.all fun e => !Rk.hasB ops e.op || P e.name)
 | [],ns=>by simp [nmL]
 | e :: xs,ns=>by
   have:=AFR P ops xs (nmU ops ns e)
   simp only [nmL,List.foldl_cons,List.all_cons] at this ⊢
   rw [this,AS8,Bool.and_assoc]
theorem ANM (l:List Sg) (xs:List Ex):((nmL [2] [] xs).all (fun n=>(LV l n).2) && (nmL [3,24] [] xs).all fun n=>(atG l n 0).2)=xs.all (knE l):=by
 rw [AFR,AFR,Bool.eq_iff_iff]
 simp only [List.all_nil,Bool.true_and,Bool.and_eq_true,List.all_eq_true]
 constructor
 ·rintro ⟨h1,h2⟩ x hx
  have a:=h1 x hx
  have b:=h2 x hx
  unfold knE
  unfold Rk.hasB at a b
  by_cases e2:x.op=2
  ·rw [if_pos e2]; simpa [e2] using a
  by_cases e3:x.op=3∨x.op=24
  ·rw [if_neg e2,if_pos e3]; rcases e3 with e3 | e3 <;> simpa [e3] using b
  ·rw [if_neg e2,if_neg e3]
 ·intro h
  refine ⟨fun x hx => ?_,fun x hx => ?_⟩
  ·have a:=h x hx
   unfold knE at a
   unfold Rk.hasB
   by_cases e2:x.op=2
   ·rw [if_pos e2] at a; simp [e2,a]
   ·have : ¬ 2=x.op:=fun q=>e2 q.symm
    simp [this]
  ·have a:=h x hx
   unfold knE at a
   unfold Rk.hasB
   by_cases e3:x.op=3∨x.op=24
   ·have e2 : ¬ x.op=2:=by omega
    rw [if_neg e2,if_pos e3] at a; simp [a]
   ·have e4 : ¬ 3=x.op:=fun q=>e3 (.inl q.symm)
    have e5 : ¬ 24=x.op:=fun q=>e3 (.inr q.symm)
    simp [e4,e5]
theorem AI5 {α:Type} (P:α→Bool) (xs:List α) (k:Nat) (hk:k < xs.length):(xs.drop k).all P=(P xs[k] && (xs.drop (k+1)).all P):=by
 rw [List.drop_eq_getElem_cons hk]; rfl
theorem AL0 (ops:List Int) : ∀ (xs:List Ex) (ns:List ByteArray) (n:ByteArray),n∈nmL ops ns xs→n∈ns∨∃ x∈xs,n=x.name
 | [],ns,n,h => .inl h
 | e :: xs,ns,n,h=>by
   rcases AL0 ops xs (nmU ops ns e) n h with h1 | ⟨x,hx,hn⟩
   ·unfold nmU at h1
    split at h1
    ·rcases List.mem_append.1 h1 with h2 | h2
     ·exact .inl h2
     ·exact .inr ⟨e,by simp,by simpa using h2⟩
    ·exact .inl h1
   ·exact .inr ⟨x,List.mem_cons_of_mem _ hx,hn⟩
section
variable (G:Nat→AV)
theorem AJ8 (l:List Sg) (m:SM) (e:Ex) (h:Hp) (hl:l.length≤1099511627776) (hw:wt e≤1048576):PCall (En G) 157 [.agg [.sl m 2 (l.map GH)],.agg (ET e)] h (.bool ((pre e).all (knE l))):=by
 refine ACalls.pure0 rfl ?_
 rw [← ANM]
 have hpl:=AFO e
 have hn1:=AA2 [2] (pre e) []
 have hn2:=AA2 [3,24] (pre e) []
 have hm2 : ∀ n∈nmL [3,24] [] (pre e),n.size≤1048576:=fun n hn=>by
  rcases AL0 _ _ _ n hn with h1 | ⟨x,hx,rfl⟩
  ·cases h1
  ·have:=AHT hx; omega
 have hN:=AK7 G e hw
 have hA:=AJE G e hw
 simp only [List.length_nil,Nat.zero_add] at hn1 hn2
 generalize nmL [2] [] (pre e)=ns at hn1 hN ⊢
 generalize nmL [3,24] [] (pre e)=ars at hn2 hA hm2 ⊢
 refine CB (H:=Hint.none) (enM G) Tryz.func157 rfl (by kernel_rfl) (by kernel_rfl) (nLb (by kernel_rfl)) ?_
 show awp _ _ _ _ _ (EE _ [.tmp 4] _)
 have gs:=CX (x:=ABlk.live 4 [ET e]) (CY h (ABlk.live 1 [[.sl m 2 (l.map GH)]]))
 have ge:=CY (h ++ [ABlk.live 1 [[.sl m 2 (l.map GH)]]]) (ABlk.live 4 [ET e])
 have hx:ext h (h ++ [ABlk.live 1 [[.sl m 2 (l.map GH)]]] ++ [ABlk.live 4 [ET e]]):=((ext.rfl' h).app _).app _
 simp -implicitDefEqProofs only [BC,BA,A8,AY,BB,AO,AQ,AL,BD,AX,AC,AA,A7,AU,BM,AZ,FV,BV,CE,BF,BN,↓reduceIte,Nat.reduceEqDiff,oGs,bNf,enP,AIX h (.sl m 2 (l.map GH)) rfl,bxE]
 generalize h ++ [ABlk.live 1 [[.sl m 2 (l.map GH)]]] ++ [ABlk.live 4 [ET e]]=H at gs ge hx ⊢
 generalize (h ++ [ABlk.live 1 [[.sl m 2 (l.map GH)]]]).length=eb at ge ⊢
 simp -implicitDefEqProofs only [AY,AO,AQ,AL,BD,AX,AC,AA,A7,BX,BZ,BU,AB,lMc,lMn,lAn,↓reduceIte,oGs,bNf,ML ge]
 refine (hN H).use ?_
 simp -implicitDefEqProofs only [BQ,A8,AY,BB,AO,AQ,AL,BD,AX,AC,AA,A7,AU,BH,BG,D6,AB,↓reduceIte,oGs,bNf,enP,Z9,lLm]
 refine G9 0 (fun F H'=>F 2 = .ptr h.length 0 0∧F 3 = .ptr eb 0 0∧H'=H∧ns.all (fun n=>(LV l n).2)=true) (fun F H'=>F 4 = .bool false∧H'=H∧ns.all (fun n=>(LV l n).2)=false) ?_ ?_ ?_
 ·refine DR (fun k F H' => ∃ j,k+j=ns.length∧F 2 = .ptr h.length 0 0∧F 3 = .ptr eb 0 0∧F 14 = .sl (nm ns) 1 (ns.map encStr)∧F 15 = .int .i64 (ns.length:Nat)∧F 16 = .int .i64 (j:Nat)∧H'=H∧ns.all (fun n=>(LV l n).2)=(ns.drop j).all fun n=>(LV l n).2) ns.length ⟨0,by simp,by simp -implicitDefEqProofs only [AA,↓reduceIte,Nat.reduceEqDiff],by simp -implicitDefEqProofs only [AA,↓reduceIte,Nat.reduceEqDiff],by simp -implicitDefEqProofs only [AA,↓reduceIte,Nat.reduceEqDiff],by simp -implicitDefEqProofs only [AA,↓reduceIte,Nat.reduceEqDiff],by simp -implicitDefEqProofs only [AA,↓reduceIte]; rfl,rfl,rfl⟩ ?_
  rintro k F H' ⟨j,hj,f2,f3,f14,f15,f16,rfl,hall⟩
  simp -implicitDefEqProofs only [BC,BA,BI,A8,AY,BB,AO,AQ,AL,BD,AX,AC,AA,A7,BR,AB,DF,↓reduceIte,oGs,bNf,enP,f15,f16]
  refine CW (fun hc => ?_) (fun hc => ?_)
  ·have hj':j < ns.length:=by simpa using hc
   rw [AI5 _ ns j hj'] at hall
   simp -implicitDefEqProofs only [BC,BQ,BA,BO,A8,AY,BB,AO,AQ,AL,BD,AX,AC,AA,A7,BX,BG,AZ,BV,CG,BZ,BU,AB,lMc,lMn,lAn,↓reduceIte,Nat.reduceEqDiff,oGs,bNf,enP,AEK,f2,f14,f16,D5 hj',DT ag9 hj',encStr0,VX gs]
   refine (ZG G l m _ H' hl).use ?_
   unfold QW
   simp -implicitDefEqProofs only [List.getElem?_cons_zero,List.getElem?_cons_succ,BC,BA,BI,A8,AY,BB,AO,AQ,AL,BD,AX,AC,AA,A7,BG,AZ,G6,FW,IB,AB,EX,↓reduceIte,Nat.reduceEqDiff,oGs,bNf]
   cases hk:(LV l ns[j]).2
   ·simp -implicitDefEqProofs only [BC,BA,BL,A8,CP,D8,MR,FB,C9,AY,BB,AO,AQ,AL,BD,AX,AC,AA,AU,BM,AZ,↓reduceIte,oGs,bNf]
    exact ⟨trivial,trivial,by rw [hall,hk]; rfl⟩
   ·simp -implicitDefEqProofs only [BA,BO,A8,EF,ER,DU,AY,BB,AO,AQ,AL,BD,AX,AC,AA,A7,AU,BH,BG,BR,AB,DI,↓reduceIte,Nat.reduceEqDiff,oGs,bNt,bNf,enP,f2,f3,f14,f15,f16,wrap_succ (show j < 9223372036854775807 by omega)]
    exact ⟨k - 1,by omega,j+1,by omega,by first | trivial | exact f2,by first | trivial | exact f3,by first | trivial | exact f14,by first | trivial | exact f15,by first | trivial | rfl,trivial,by rw [hall,hk]; rfl⟩
  ·have hj' : ¬ j < ns.length:=by simpa using hc
   simp -implicitDefEqProofs only [DL,EC,KG,EW,AA,↓reduceIte,Nat.reduceEqDiff]
   exact ⟨f2,f3,trivial,by rw [hall,List.drop_eq_nil_of_le (by omega)]; rfl⟩
 ·rintro F H' ⟨f2,f3,rfl,hall⟩
  rw [hall,Bool.true_and]
  simp -implicitDefEqProofs only [BC,BA,A8,EY,AY,AO,AQ,AL,BD,AX,AC,AA,A7,BX,BV,BZ,BU,AB,lMc,lMn,lAn,↓reduceIte,oGs,bNf,enP,f3,ML ge]
  refine (hA H').use ?_
  simp -implicitDefEqProofs only [BQ,A8,AY,BB,AO,AQ,AL,BD,AX,AC,AA,A7,AU,BH,BG,D6,AB,↓reduceIte,oGs,bNf,enP,Z9,lLm]
  refine DR (fun k F' H2 => ∃ j,k+j=ars.length∧F' 2 = .ptr h.length 0 0∧F' 30 = .sl (nm ars) 1 (ars.map encStr)∧F' 31 = .int .i64 (ars.length:Nat)∧F' 32 = .int .i64 (j:Nat)∧H2=H'∧ars.all (fun n=>(atG l n 0).2)=(ars.drop j).all fun n=>(atG l n 0).2) ars.length ⟨0,by simp,by simp -implicitDefEqProofs only [AA,↓reduceIte,Nat.reduceEqDiff,f2],by simp -implicitDefEqProofs only [AA,↓reduceIte,Nat.reduceEqDiff],by simp -implicitDefEqProofs only [AA,↓reduceIte,Nat.reduceEqDiff],by simp -implicitDefEqProofs only [AA,↓reduceIte]; rfl,rfl,rfl⟩ ?_
  rintro k F' H2 ⟨j,hj,g2,g30,g31,g32,rfl,hall2⟩
  simp -implicitDefEqProofs only [BC,BA,BI,A8,AY,BB,AO,AQ,AL,BD,AX,AC,AA,A7,BR,AB,DF,↓reduceIte,oGs,bNf,enP,g31,g32]
  refine CW (fun hc => ?_) (fun hc => ?_)
  ·have hj':j < ars.length:=by simpa using hc
   rw [AI5 _ ars j hj'] at hall2
   simp -implicitDefEqProofs only [BC,BQ,BA,BO,A8,AY,BB,AO,AQ,AL,BD,AX,AC,AA,A7,AU,BX,BH,BG,AZ,BV,CG,BZ,BU,AB,lMc,lMn,lAn,↓reduceIte,Nat.reduceEqDiff,oGs,bNf,enP,AEK,g2,g30,g32,D5 hj',DT ag9 hj',encStr0,VX gs]
   refine (AGR G l m _ 0 H2 hl (hm2 _ (List.getElem_mem hj'))).use ?_
   unfold QW
   simp -implicitDefEqProofs only [List.getElem?_cons_zero,List.getElem?_cons_succ,BC,BA,BI,A8,AY,BB,AO,AQ,AL,BD,AX,AC,AA,A7,BG,AZ,G6,FW,IB,AB,EX,↓reduceIte,Nat.reduceEqDiff,oGs,bNf]
   cases hk:(atG l ars[j] 0).2
   ·simp -implicitDefEqProofs only [BC,BA,BL,A8,CP,D8,FB,CJ,C9,AY,BB,AO,AQ,AL,BD,AX,AC,AA,AU,BM,AZ,↓reduceIte,oGs,bNf]
    exact ⟨by rw [hall2,hk]; rfl,hx⟩
   ·simp -implicitDefEqProofs only [BA,BO,A8,EF,ER,DU,AY,BB,AO,AQ,AL,BD,AX,AC,AA,A7,AU,BH,BG,BR,AB,DI,↓reduceIte,Nat.reduceEqDiff,oGs,bNt,bNf,enP,g2,g30,g31,g32,wrap_succ (show j < 9223372036854775807 by omega)]
    exact ⟨k - 1,by omega,j+1,by omega,by first | trivial | exact g2,by first | trivial | exact g30,by first | trivial | exact g31,by first | trivial | rfl,trivial,by rw [hall2,hk]; rfl⟩
  ·have hj' : ¬ j < ars.length:=by simpa using hc
   simp -implicitDefEqProofs only [BC,BA,BL,DL,A8,EC,EY,EW,CJ,AY,BB,AO,AQ,AL,BD,AX,AC,AA,AU,BM,AZ,↓reduceIte,oGs,bNf]
   exact ⟨by rw [hall2,List.drop_eq_nil_of_le (by omega)]; rfl,hx⟩
 ·rintro F H' ⟨f4,rfl,hall⟩
  simp -implicitDefEqProofs only [CP,D8,CJ,f4]
  exact ⟨by rw [hall]; rfl,hx⟩
theorem encN0 (n:Nat):(IV n)[0]? = some (.int .i64 (n:Int)):=rfl
theorem AG4 (l:List Sg) (m:SM) (hl:l.length≤1099511627776) (e:Ex):wt e≤1048576→(∀ x∈pre e,J4 x=0)→∀ h:Hp,PCall (En G) 158 [.agg [.sl m 2 (l.map GH)],.agg (ET e)] h (.int .i64 (YW l e:Nat)):=by
 induction e using Ex.induct with | h e ih => ?_
 intro hw hval h
 have hal:e.args.length≤1048576:=by have:=SI e.args; have:=MH e; omega
 have hnz:e.name.size≤1048576:=by have:=MH e; omega
 obtain ⟨o1,o3,oo⟩:=ABZ (hval e (by rw [pre_eq]; simp))
 refine ACalls.pure0 rfl ?_
 refine CB (H:=Hint.none) (enM G) Tryz.func158 rfl (by kernel_rfl) (by kernel_rfl) (nLb (by kernel_rfl)) ?_
 show awp _ _ _ _ _ (EE _ [.tmp 4] _)
 have gs:=CX (x:=ABlk.live 4 [ET e]) (CY h (ABlk.live 1 [[.sl m 2 (l.map GH)]]))
 have ge:=CY (h ++ [ABlk.live 1 [[.sl m 2 (l.map GH)]]]) (ABlk.live 4 [ET e])
 have hx:ext h (h ++ [ABlk.live 1 [[.sl m 2 (l.map GH)]]] ++ [ABlk.live 4 [ET e]]):=((ext.rfl' h).app _).app _
 simp -implicitDefEqProofs only [BC,BA,A8,AY,BB,AO,AQ,AL,BD,AX,AC,AA,A7,AU,BH,JD,AZ,FV,BV,BK,CE,AB,BF,BN,↓reduceIte,Nat.reduceEqDiff,Nat.zero_add,oGs,bNf,enP,OY,AIX h (.sl m 2 (l.map GH)) rfl,bxE]
 generalize h ++ [ABlk.live 1 [[.sl m 2 (l.map GH)]]] ++ [ABlk.live 4 [ET e]]=H1 at gs ge hx ⊢
 generalize (h ++ [ABlk.live 1 [[.sl m 2 (l.map GH)]]]).length=eb at ge ⊢
 have l3:DZ Tryz.prog H1 51 (.ptr eb 0 3)=some (.sl e.m 4 (e.args.map ET)):=by rw [DJ AGT ge (row:=ET e) rfl,YD]
 simp -implicitDefEqProofs only [BQ,A8,AY,BB,AO,AQ,AL,BD,AX,AC,AA,A7,AU,BH,BG,D6,AB,↓reduceIte,oGs,bNf,enP,ADP,l3,lLm]
 refine G9 0 (fun F H => ∃ v,F 2 = .ptr h.length 0 0∧F 3 = .ptr eb 0 0∧F 5=v∧ext H1 H∧outG 1 IV H1 (KW l e.args) v H) (fun _ _=>False) ?_ ?_ (fun _ _ hh=>hh.elim)
 ·refine DR (fun k F H => ∃ j v,k+j=e.args.length∧F 2 = .ptr h.length 0 0∧F 3 = .ptr eb 0 0∧F 5=v∧F 13 = .sl e.m 4 (e.args.map ET)∧F 14 = .int .i64 (e.args.length:Nat)∧F 15 = .int .i64 (j:Nat)∧ext H1 H∧outG 1 IV H1 (KW l (e.args.take j)) v H) e.args.length
   ⟨0,.sl .nil 0 [],by simp,by simp -implicitDefEqProofs only [AA,↓reduceIte,Nat.reduceEqDiff],by simp -implicitDefEqProofs only [AA,↓reduceIte,Nat.reduceEqDiff],by simp -implicitDefEqProofs only [AA,↓reduceIte,Nat.reduceEqDiff],by simp -implicitDefEqProofs only [AA,↓reduceIte,Nat.reduceEqDiff],by simp -implicitDefEqProofs only [AA,↓reduceIte,Nat.reduceEqDiff],by simp -implicitDefEqProofs only [AA,↓reduceIte]; rfl,ext.rfl' H1,outG.nil _ _ _ _⟩ ?_
  rintro k F H ⟨j,v,hj,f2,f3,f5,f13,f14,f15,hxH,ho⟩
  simp -implicitDefEqProofs only [BC,BA,BI,A8,AY,BB,AO,AQ,AL,BD,AX,AC,AA,A7,BR,AB,DF,↓reduceIte,oGs,bNf,enP,f14,f15]
  refine CW (fun hc => ?_) (fun hc => ?_)
  ·have hj':j < e.args.length:=by simpa using hc
   have hmem:e.args[j]∈e.args:=List.getElem_mem hj'
   have ho1:=ho.app [ABlk.live 4 [ET e.args[j]]]
   have hx1:=hxH.app [ABlk.live 4 [ET e.args[j]]]
   have htl:(KW l (e.args.take j)).length < 8388608:=by rw [U3]; simp; omega
   obtain ⟨v',H',ha,ho',_,hx',_,_⟩:=ho1.append (P:=Tryz.prog) TY sz3 XE WX (by omega) htl hx1 (YW l e.args[j])
   have ha':GU Tryz.prog true (H ++ [ABlk.live 4 [ET e.args[j]]]) 57 57 v (.sl .full 1 [[.int .i64 ((YW l e.args[j]:Nat):Int)]])=some (v',H'):=ha
   simp -implicitDefEqProofs only [BC,BQ,BA,BO,A8,AY,BB,AO,AQ,AL,BD,AX,AC,E8,AA,A7,BX,BG,GG,BV,EP,CG,BZ,BU,CE,AB,DW,lMc,lMn,lAn,↓reduceIte,Nat.reduceEqDiff,oGs,bNf,enP,AJ9,Option.getD_none,f13,f15,D5 hj',FO AAY WB JU hj',AUL,ASI _ _ [.int .i64 0,.int .i64 0,.str ⟨#[]⟩,.sl .nil 0 []] rfl,f2,f5,VX (EU hx1 gs),ldE]
   refine (ih e.args[j] hmem (by have:=QR hmem; have:=MH e; omega) (fun x hx=>hval x (by rw [pre_eq]; exact List.mem_cons_of_mem _ (AA0 hmem x hx))) _).use ?_
   simp -implicitDefEqProofs only [FT,F6,BA,A8,EF,ER,AY,BB,AO,AQ,AL,BD,AX,AC,AA,A7,AU,BH,BG,AZ,ES,BR,IJ,CE,AB,DI,↓reduceIte,Nat.reduceEqDiff,oGs,bNf,enP,f5,AGL,ha',f2,f3,f13,f14,f15,wrap_succ (show j < 9223372036854775807 by omega)]
   exact ⟨k - 1,by omega,j+1,v',by omega,by first | trivial | exact f2,by first | trivial | exact f3,by first | trivial | rfl,by first | trivial | exact f13,by first | trivial | exact f14,by first | trivial | rfl,hx',by rw [ABH _ _ _ hj']; exact ho'⟩
  ·have hj' : ¬ j < e.args.length:=by simpa using hc
   rw [List.take_of_length_le (by omega)] at ho
   simp -implicitDefEqProofs only [DL,EC,KG,EW,AA,↓reduceIte,Nat.reduceEqDiff]
   exact ⟨v,f2,f3,f5,hxH,ho⟩
 ·rintro F H ⟨v,f2,f3,f5,hxH,ho⟩
  have gsH:=EU hxH gs
  have geH:=EU hxH ge
  have hxx:=hx.trans hxH
  have l0:DZ Tryz.prog H 3 (.ptr eb 0 0)=some (.int .i64 e.op):=by rw [DJ ag3 geH (row:=ET e) rfl,JW]
  have l1:DZ Tryz.prog H 3 (.ptr eb 0 1)=some (.int .i64 e.n):=by rw [DJ ag3 geH (row:=ET e) rfl,YF]
  have l2:DZ Tryz.prog H 9 (.ptr eb 0 2)=some (.str e.name):=by rw [DJ ag9 geH (row:=ET e) rfl,PU]
  have hvl:=U3 l e.args
  rw [AAZ]
  simp -implicitDefEqProofs only [BC,BQ,BA,BI,A8,EY,AY,BB,AO,AQ,AL,BD,AX,AC,AA,A7,AU,BH,AZ,BV,BR,BK,AB,DY,↓reduceIte,Nat.add_zero,oGs,bNf,enP,IA,f3,l0]
  by_cases e1:e.op=1
  ·have c1:(e.op == 1)=true:=by simpa using e1
   simp -implicitDefEqProofs only [BC,BA,BL,A8,CP,D8,CJ,C9,AY,BB,AO,AQ,AL,BD,AX,AC,AA,A7,AZ,BV,BK,AB,↓reduceIte,Nat.reduceEqDiff,Nat.zero_add,oGs,bNf,enP,ZI,c1,f3,l1]
   have:=o1 e1
   exact ⟨by unfold XI; rw [if_pos e1]; congr 1; omega,hxx⟩
  have c1:(e.op == 1)=false:=by simpa using e1
  by_cases e2:e.op=2
  ·have c2:(e.op == 2)=true:=by simpa using e2
   simp -implicitDefEqProofs only [BC,BA,BI,A8,C9,DU,AY,BB,AO,AQ,AL,BD,AX,AC,AA,A7,AU,BX,BH,AZ,BV,BR,BK,BZ,BU,AB,DY,lMc,lMn,lAn,↓reduceIte,Nat.reduceEqDiff,Nat.zero_add,oGs,bNf,enP,KZ,c1,c2,f2,f3,l2,VX gsH]
   refine (ZG G l m _ H hl).use ?_
   unfold QW
   simp -implicitDefEqProofs only [List.getElem?_cons_zero,List.getElem?_cons_succ,BC,BA,BL,A8,CP,D8,CJ,AY,BB,AO,AQ,AL,BD,AX,AC,AA,A7,BG,AZ,FW,IB,AB,↓reduceIte,Nat.reduceEqDiff,oGs,bNf]
   exact ⟨by unfold XI; rw [if_neg e1,if_pos e2],hxx⟩
  have c2:(e.op == 2)=false:=by simpa using e2
  by_cases e3:e.op=3
  ·have c3:(e.op == 3)=true:=by simpa using e3
   have hl1:=o3 e3
   obtain ⟨o,rfl,hob⟩ : ∃ o,v = .own o 0 1∧H[o]? = some (.live 1 ((KW l e.args).map IV)):=by
    rcases ho with ⟨h0,_⟩ | ⟨_,o,_,rfl,hb⟩
    ·rw [h0] at hvl; simp at hvl; omega
    ·exact ⟨o,by rw [hvl,hl1],hb⟩
   have hlen:0 < (KW l e.args).length:=by omega
   have i0:JR 1 H (.own o 0 1) (.int .i64 0)=some (.ptr o 0 0):=LM (n:=0) hob (by decide)
   have d0:DZ Tryz.prog H 3 (.ptr o 0 0)=some (.int .i64 ((KW l e.args).getD 0 0:Nat)):=by
    rw [DJ ag3 hob (row:=IV (KW l e.args)[0]) (MB hlen),List.getD_eq_getElem?_getD,List.getElem?_eq_getElem hlen]; rfl
   simp -implicitDefEqProofs only [BC,BA,BI,A8,C9,DU,AY,BB,AO,AQ,AL,BD,AX,AC,AA,A7,AU,BH,AZ,BR,AB,DY,↓reduceIte,Nat.reduceEqDiff,oGs,bNf,enP,c1,c2,c3]
   refine FD (by kernel_rfl) ?_
   simp -implicitDefEqProofs only [F9,EH,DX,EM,FP,FQ,EG,ED,NM,GV,GI,AO,AA,A7,AU,BX,BH,BV,BK,CG,FW,AB,lMc,lMn,lAn,↓reduceIte,Nat.reduceEqDiff,Nat.reduceAdd,Nat.zero_add,oGs,enP,KZ,JH,f2,f3,f5,l2,VX gsH,i0,d0]
   refine ⟨_,AGR G l m _ _ H hl hnz,?_⟩
   unfold QW
   simp -implicitDefEqProofs only [F9,List.getElem?_cons_zero,List.getElem?_cons_succ,EH,DX,FC,EM,J8,NM,BC,BA,BL,A8,CP,D8,CJ,AY,BB,AO,AQ,AL,BD,AX,AC,AA,A7,BG,AZ,FW,IB,AB,↓reduceIte,Nat.reduceEqDiff,Nat.reduceAdd,oGs,bNf]
   exact ⟨by unfold XI; rw [if_neg e1,if_neg e2,if_pos e3],hxx⟩
  have c3:(e.op == 3)=false:=by simpa using e3
  by_cases e24:e.op=24
  ·have c24:(e.op == 24)=true:=by simpa using e24
   simp -implicitDefEqProofs only [BC,BA,BI,A8,C9,DU,AY,BB,AO,AQ,AL,BD,AX,AC,AA,A7,AU,BX,BH,AZ,BV,BR,BK,BZ,BU,AB,DY,lMc,lMn,lAn,↓reduceIte,Nat.reduceEqDiff,Nat.zero_add,oGs,bNf,enP,KZ,c1,c2,c3,c24,f2,f3,l2,VX gsH]
   refine (AO6 G l m _ H hl hnz).use ?_
   simp -implicitDefEqProofs only [BL,A8,CP,D8,CJ,AY,BB,AO,AQ,AL,BD,AX,AC,AA,A7,AZ,↓reduceIte,oGs,bNf]
   exact ⟨by unfold XI; rw [if_neg e1,if_neg e2,if_neg e3,if_pos e24],hxx⟩
  have c24:(e.op == 24)=false:=by simpa using e24
  have hok:=oo e1 e2 e3 e24
  have hok':AJA e.op (KW l e.args).length:=by rw [hvl]; exact hok
  obtain ⟨o,rfl,hob⟩ : ∃ o,v = .own o 0 (KW l e.args).length∧H[o]? = some (.live 1 ((KW l e.args).map IV)):=by
   rcases ho with ⟨h0,_⟩ | ⟨_,o,_,rfl,hb⟩
   ·exfalso
    rw [h0] at hok'
    obtain ⟨a,b,c⟩:=hok'
    by_cases q:e.op=22
    ·have:=a q; simp at this
    by_cases q':e.op=23
    ·have:=b q'; simp at this
    ·have:=c q q'; simp at this
   ·exact ⟨o,rfl,hb⟩
  simp -implicitDefEqProofs only [BC,BA,BO,BI,A8,EF,DU,AY,BB,AO,AQ,AL,BD,AX,AC,AA,A7,AU,BX,BH,BG,AZ,BV,BR,BK,BZ,BU,AB,DY,lMc,lMn,lAn,↓reduceIte,Nat.reduceEqDiff,Nat.add_zero,oGs,bNf,enP,IA,c1,c2,c3,c24,f3,l0,f5]
  refine (ANH G e.op _ o H hob (AG6 l _) (by omega) hok').use ?_
  simp -implicitDefEqProofs only [BL,A8,CJ,AY,BB,AO,AQ,AL,BD,AX,AC,AA,A7,AZ,↓reduceIte,oGs,bNf]
  exact ⟨by unfold XI; rw [if_neg e1,if_neg e2,if_neg e3,if_neg e24],hxx⟩
end
theorem AQL {xs:List Ex} (h:errs xs=0) : ∀ x∈xs,J4 x=0:=by
 induction xs with
 | nil=>intro x hx; cases hx
 | cons y ys ih =>
   have h1:ys.foldl (fun z e=>if z=0 then J4 e else z) (J4 y)=0:=h
   have hy:J4 y=0:=by
    rcases Classical.em (J4 y=0) with q | q
    ·exact q
    ·rw [AGB _ _ q] at h1; exact h1
   rw [hy] at h1
   intro x hx
   rcases List.mem_cons.1 hx with rfl | hx
   ·exact hy
   ·exact ih h1 x hx
theorem AER {e:Ex} (h:exE e=0) : ∀ x∈pre e,J4 x=0:=by
 unfold exE at h
 split at h
 ·cases h
 ·exact AQL h
def evE (l:List Sg) (e:Ex):Nat × Int:=if exE e≠0 then (0,1) else if (pre e).all (knE l)=true then (YW l e,0) else (0,7)
def evV (p:Nat × Int):AV := .tup [.int .i64 (p.1:Nat),.int .i64 p.2]
theorem AGA (p:Nat × Int) (n:Nat) (H:Hp):II n H 2 (evV p)=evV p:=rfl
theorem AZM (h:Hp):J3 Tryz.prog h 195=some (.ptr h.length 0 0,h ++ [.live 1 [[.sl .nil 0 []]]]):=JV (row := [.sl .nil 0 []]) (by kernel_rfl)
theorem AZF (s:SM) (k:Nat) (xs:List (List AV)):KU Tryz.prog 195 [(0,.sl s k xs)]=some (.agg [.sl s k xs]):=by kernel_rfl
theorem AXO (h:Hp) (s:SM) (k:Nat) (xs:List (List AV)):FM Tryz.prog (h ++ [.live 1 [[.sl .nil 0 []]]]) 195 (.ptr h.length 0 0) (.agg [.sl s k xs])=some (h ++ [.live 1 [[.sl s k xs]]]):=by
 rw [MX (cs := [.sl s k xs]) (row := [.sl .nil 0 []]) rfl AU1 (CY _ _) (by exact Nat.le_refl 1),SS]
 rfl
section
variable (G:Nat→AV)
theorem AOL (hG:GOk G) (l:List Sg) (m:SM) (e:Ex) (h:Hp) (hl:l.length≤1099511627776) (hw:wt e≤1048576):PCall (En G) 99 [.agg (ET e),.sl m 2 (l.map GH)] h (evV (evE l e)):=by
 refine AEC 2 (AGA _) ?_
 refine CB (H:=Hint.none) (enM G) Tryz.func99 rfl (by kernel_rfl) (by kernel_rfl) (nLb (by kernel_rfl)) ?_
 show awp _ _ _ _ _ (EE _ [.tmp 4,.tmp 5] _)
 have ge:=CX (x:=ABlk.live 1 [[.sl m 2 (l.map GH)]]) (CY h (ABlk.live 4 [ET e]))
 have gs:=CY (h ++ [ABlk.live 4 [ET e]]) (ABlk.live 1 [[.sl m 2 (l.map GH)]])
 have hx:ext h (h ++ [ABlk.live 4 [ET e]] ++ [ABlk.live 1 [[.sl m 2 (l.map GH)]]]):=((ext.rfl' h).app _).app _
 simp -implicitDefEqProofs only [FT,F6,BC,BQ,BA,A8,AY,BB,AO,AQ,AL,BD,AX,AC,E8,AA,A7,AU,BH,BG,AZ,GG,FV,JE,BV,EP,CE,AB,DW,BF,BN,↓reduceIte,Nat.reduceEqDiff,oGs,bNf,enP,Option.getD_none,bxE,AZF,AZM,AXO]
 generalize h ++ [ABlk.live 4 [ET e]] ++ [ABlk.live 1 [[.sl m 2 (l.map GH)]]]=H at ge gs hx ⊢
 generalize (h ++ [ABlk.live 4 [ET e]]).length=sb at gs ⊢
 simp -implicitDefEqProofs only [AY,AO,AQ,AL,BD,AX,AC,AA,A7,BX,BZ,BU,AB,lMc,lMn,lAn,↓reduceIte,oGs,bNf,ML ge]
 refine (YA G hG e H hw).use ?_
 simp -implicitDefEqProofs only [BI,A8,AY,BB,AO,AQ,AL,BD,AX,AC,AA,A7,AU,BH,AZ,BR,AB,EJ,↓reduceIte,oGs,bNf,enP]
 cases hv:(exE e == 0)
 ·have hne:exE e≠0:=by simpa using hv
  simp -implicitDefEqProofs only [BC,BA,BL,A8,CP,D8,KR,C9,AY,BB,AO,AQ,AL,BD,AX,AC,AA,AU,BH,AZ,↓reduceIte,Nat.reduceEqDiff,oGs,bNf,bne,hv]
  exact ⟨by unfold evE; rw [if_pos hne]; rfl,hx⟩
 have h0:exE e=0:=by simpa using hv
 simp -implicitDefEqProofs only [BC,BA,DU,AY,AO,AQ,AL,BD,AX,AC,AA,A7,BX,BV,BZ,BU,AB,lMc,lMn,lAn,↓reduceIte,Nat.reduceEqDiff,oGs,bNt,bNf,enP,bne,hv,ML ge,VX gs]
 refine (AJ8 G l m e H hl hw).use ?_
 simp -implicitDefEqProofs only [BI,A8,AY,BB,AO,AQ,AL,BD,AX,AC,AA,A7,AZ,G6,AB,EX,↓reduceIte,oGs,bNf]
 cases hk:(pre e).all (knE l)
 ·simp -implicitDefEqProofs only [BC,BA,BL,A8,CP,D8,KR,C9,AY,BB,AO,AQ,AL,BD,AX,AC,AA,AU,BH,AZ,↓reduceIte,Nat.reduceEqDiff,oGs,bNf]
  exact ⟨by unfold evE; rw [if_neg (by simpa using h0),if_neg (by rw [hk]; decide)]; rfl,hx⟩
 simp -implicitDefEqProofs only [BC,BA,BO,A8,EF,DU,AY,AO,AQ,AL,BD,AX,AC,AA,A7,BX,BV,BZ,BU,AB,lMc,lMn,lAn,↓reduceIte,Nat.reduceEqDiff,oGs,bNt,bNf,enP,ML ge,VX gs]
 refine (AG4 G l m hl e hw (AER h0) H).use ?_
 simp -implicitDefEqProofs only [BL,A8,KR,AY,BB,AO,AQ,AL,BD,AX,AC,AA,A7,AU,BH,AZ,↓reduceIte,Nat.reduceEqDiff,oGs,bNf]
 exact ⟨by unfold evE; rw [if_neg (by simpa using h0),if_pos hk]; rfl,hx⟩
theorem ARN (op:Int) (h:Hp):PCall (En G) 217 [.int .i64 op] h (.bool ((op == 1) || KQ op)):=by
 refine CB (H:=Hint.none) (enM G) Tryz.func217 rfl (by kernel_rfl) (by kernel_rfl) (nLb (by kernel_rfl)) ?_
 show awp _ _ _ _ _ (EE _ [.tmp 2] _)
 simp -implicitDefEqProofs only [BC,BA,A8,AY,BB,BJ,BP,CO,AO,AQ,AL,BD,AX,AC,AA,A7,AU,BH,BM,BG,AZ,BR,AB,DY,BF,↓reduceIte,Nat.reduceEqDiff,oGs,bNf,enP]
 cases ha:(op == 1)
 ·simp -implicitDefEqProofs only [Bool.false_or,BJ,BP,CO,EK,AO,AQ,AL,BD,AX,AC,AA,A7,BX,BG,BZ,BU,BF,lMc,lMn,lAn,↓reduceIte,Nat.reduceEqDiff,oGs,bNf,ha]
  refine (VA G op h).use ?_
  simp -implicitDefEqProofs only [BL,A8,CJ,AY,BB,AO,AQ,AL,BD,AX,AC,AA,A7,AU,BM,AZ,CQ,DK,↓reduceIte,Nat.reduceEqDiff,oGs,bNf]
  exact ⟨by first | trivial | rfl,trivial⟩
 ·simp -implicitDefEqProofs only [Bool.true_or,BL,A8,CJ,AY,BB,BJ,BP,CO,FK,AO,AQ,AL,BD,AX,AC,AA,EQ,A7,AU,BM,AZ,CQ,DN,↓reduceIte,Nat.reduceEqDiff,oGs,bNf,ha]
  exact ⟨by first | trivial | rfl,trivial⟩
def lfE (l:List Sg) (e:Ex) (vs:List Nat):Nat × Int:=if knE l e=true then (XI l e.op e.n e.name vs,0) else (0,7)
theorem APZ (l:List Sg) (m:SM) (e:Ex) (vs:List Nat) (v:AV) (h0 h:Hp) (hl:l.length≤1099511627776) (hok : ∀ s∈l,AD0 s) (hw:wt e≤1048576) (hnode:J4 e=0) (hask:e.op=1∨e.op=2∨e.op=3∨e.op=24) (hvs:vs.length=e.args.length) (ho:outG 1 IV h0 vs v h) :
  PCall (En G) 218 [.agg (ET e),.sl m 2 (l.map GH),v] h (evV (lfE l e vs)):=by
 refine AEC 2 (AGA _) ?_
 have hnz:e.name.size≤1048576:=by have:=MH e; omega
 obtain ⟨o1,o3,_⟩:=ABZ hnode
 refine CB (H:=Hint.none) (enM G) Tryz.func218 rfl (by kernel_rfl) (by kernel_rfl) (nLb (by kernel_rfl)) ?_
 show awp _ _ _ _ _ (EE _ [.tmp 6,.tmp 7] _)
 have ge:=CY h (ABlk.live 4 [ET e])
 have hx:ext h (h ++ [ABlk.live 4 [ET e]]):=(ext.rfl' h).app _
 have ho1:=ho.app [ABlk.live 4 [ET e]]
 simp -implicitDefEqProofs only [BC,BA,A8,AY,BB,AO,AQ,AL,BD,AX,AC,AA,A7,AU,BH,AZ,FV,BV,BK,CE,AB,BF,↓reduceIte,Nat.reduceEqDiff,Nat.add_zero,oGs,bNf,enP,IA,bxE]
 generalize h ++ [ABlk.live 4 [ET e]]=H at ge hx ho1 ⊢
 have l0:DZ Tryz.prog H 3 (.ptr h.length 0 0)=some (.int .i64 e.op):=by rw [DJ ag3 ge (row:=ET e) rfl,JW]
 have l1:DZ Tryz.prog H 3 (.ptr h.length 0 1)=some (.int .i64 e.n):=by rw [DJ ag3 ge (row:=ET e) rfl,YF]
 have l2:DZ Tryz.prog H 9 (.ptr h.length 0 2)=some (.str e.name):=by rw [DJ ag9 ge (row:=ET e) rfl,PU]
 simp -implicitDefEqProofs only [BI,A8,AY,BB,AO,AQ,AL,BD,AX,AC,AA,A7,AU,BH,BR,AB,DY,↓reduceIte,oGs,bNf,enP,l0]
 by_cases e1:e.op=1
 ·have c1:(e.op == 1)=true:=by simpa using e1
  have hk:knE l e=true:=by unfold knE; rw [if_neg (by omega),if_neg (by omega)]
  have:=o1 e1
  simp -implicitDefEqProofs only [BC,BA,BL,A8,CP,KR,C9,AY,BB,AO,AQ,AL,BD,AX,AC,AA,A7,AU,BH,AZ,BV,BK,AB,↓reduceIte,Nat.reduceEqDiff,Nat.zero_add,oGs,bNf,enP,ZI,c1,l1]
  refine ⟨?_,hx⟩
  unfold lfE XI evV
  rw [if_pos hk,if_pos e1]
  congr 3; show e.n=((e.n.toNat % 65536:Nat):Int); omega
 have c1:(e.op == 1)=false:=by simpa using e1
 by_cases e2:e.op=2
 ·have c2:(e.op == 2)=true:=by simpa using e2
  have hkn:knE l e=(LV l e.name).2:=by unfold knE; rw [if_pos e2]
  simp -implicitDefEqProofs only [BC,BA,BO,BI,A8,C9,DU,AY,BB,AO,AQ,AL,BD,AX,AC,AA,A7,AU,BX,BH,BG,BV,BR,BK,BZ,BU,AB,DY,BF,BN,lMc,lMn,lAn,↓reduceIte,Nat.reduceEqDiff,Nat.add_zero,Nat.zero_add,oGs,bNf,enP,IA,KZ,c1,c2,l0,l2]
  refine (ACH G l m _ H hl hok).use ?_
  unfold QW
  simp -implicitDefEqProofs only [List.getElem?_cons_zero,List.getElem?_cons_succ,BC,BA,BI,A8,AY,BB,AO,AQ,AL,BD,AX,AC,AA,A7,BG,AZ,G6,FW,IB,AB,EX,↓reduceIte,Nat.reduceEqDiff,oGs,bNf]
  cases hk:(LV l e.name).2
  ·simp -implicitDefEqProofs only [BC,BA,BL,A8,CP,KR,C9,AY,BB,AO,AQ,AL,BD,AX,AC,AA,AU,BH,AZ,↓reduceIte,Nat.reduceEqDiff,oGs,bNf]
   exact ⟨by unfold lfE; rw [if_neg (by rw [hkn,hk]; decide)]; rfl,hx⟩
  ·simp -implicitDefEqProofs only [BC,BA,BO,BL,A8,CP,KR,DU,AY,BB,AO,AQ,AL,BD,AX,AC,AA,A7,AU,BH,BG,AZ,↓reduceIte,Nat.reduceEqDiff,oGs,bNt,bNf]
   exact ⟨by unfold lfE XI; rw [if_pos (by rw [hkn,hk]),if_neg e1,if_pos e2]; rfl,hx⟩
 have c2:(e.op == 2)=false:=by simpa using e2
 have hkn:knE l e=(LV l (elN e.name 0)).2:=by
  unfold knE
  rw [if_neg e2,if_pos (by omega)]
  unfold atG
  rw [if_neg (by omega)]; rfl
 simp -implicitDefEqProofs only [BC,BA,BO,BI,A8,DU,AY,BB,AO,AQ,AL,BD,AX,AC,AA,A7,AU,BX,BH,BG,BV,BR,BK,BZ,BU,AB,DY,BF,BN,lMc,lMn,lAn,↓reduceIte,Nat.reduceEqDiff,Nat.add_zero,Nat.zero_add,oGs,bNf,enP,IA,KZ,c1,c2,l0,l2]
 refine (AAQ G e.name 0 (by omega) H hnz).use ?_
 simp -implicitDefEqProofs only [AY,AO,AQ,AL,BD,AX,AC,AA,A7,BX,BZ,BU,lMc,lMn,lAn,↓reduceIte,Nat.reduceEqDiff,oGs,bNf]
 refine (ACH G l m _ H hl hok).use ?_
 unfold QW
 simp -implicitDefEqProofs only [List.getElem?_cons_zero,List.getElem?_cons_succ,BC,BA,BI,A8,AY,BB,AO,AQ,AL,BD,AX,AC,AA,A7,BG,AZ,G6,FW,IB,AB,EX,↓reduceIte,Nat.reduceEqDiff,oGs,bNf]
 cases hk:(LV l (elN e.name 0)).2
 ·simp -implicitDefEqProofs only [BC,BA,BL,A8,CP,KR,C9,AY,BB,AO,AQ,AL,BD,AX,AC,AA,AU,BH,AZ,↓reduceIte,Nat.reduceEqDiff,oGs,bNf]
  exact ⟨by unfold lfE; rw [if_neg (by rw [hkn,hk]; decide)]; rfl,hx⟩
 have hk':knE l e=true:=by rw [hkn,hk]
 by_cases e3:e.op=3
 ·have c3:(e.op == 3)=true:=by simpa using e3
  have hl1:vs.length=1:=by rw [hvs,o3 e3]
  obtain ⟨o,rfl,hob⟩ : ∃ o,v = .own o 0 1∧H[o]? = some (.live 1 (vs.map IV)):=by
   rcases ho1 with ⟨h0,_⟩ | ⟨_,o,_,rfl,hb⟩
   ·rw [h0] at hl1; simp at hl1
   ·exact ⟨o,by rw [hl1],hb⟩
  have hlen:0 < vs.length:=by omega
  have i0:JR 1 H (.own o 0 1) (.int .i64 0)=some (.ptr o 0 0):=LM (n:=0) hob (by decide)
  have d0:DZ Tryz.prog H 3 (.ptr o 0 0)=some (.int .i64 (vs.getD 0 0:Nat)):=by
   rw [DJ ag3 hob (row:=IV vs[0]) (MB hlen),List.getD_eq_getElem?_getD,List.getElem?_eq_getElem hlen]; rfl
  simp -implicitDefEqProofs only [BC,BA,BO,BI,A8,C9,DU,AY,BB,AO,AQ,AL,BD,AX,AC,AA,A7,AU,BH,BV,BR,BK,AB,DY,↓reduceIte,Nat.reduceEqDiff,Nat.add_zero,oGs,bNt,bNf,enP,IA,l0,c3]
  refine FD (by kernel_rfl) ?_
  simp -implicitDefEqProofs only [F9,EH,DX,FC,EM,FP,J8,FQ,EG,ED,GV,GI,BL,A8,CP,KR,AO,AA,A7,AU,BX,BH,BV,BK,CG,AB,BF,BN,lMc,lMn,lAn,↓reduceIte,Nat.reduceEqDiff,Nat.reduceAdd,Nat.zero_add,oGs,enP,KZ,JH,l2,i0,d0]
  refine ⟨_,AAH G l m _ _ H hl hok hnz,?_⟩
  try simp -implicitDefEqProofs only []
  exact ⟨by unfold lfE XI; rw [if_pos hk',if_neg e1,if_neg e2,if_pos e3]; rfl,hx⟩
 have c3:(e.op == 3)=false:=by simpa using e3
 have e24:e.op=24:=by omega
 simp -implicitDefEqProofs only [BC,BQ,BA,BO,BI,A8,DU,AY,BB,AO,AQ,AL,BD,AX,AC,AA,A7,AU,BH,AZ,BV,BR,BK,AB,DY,↓reduceIte,Nat.reduceEqDiff,Nat.add_zero,oGs,bNt,bNf,enP,IA,l0,c3]
 refine DR (fun k F H' => ∃ j,k+j=8∧F 1 = .sl m 2 (l.map GH)∧F 3 = .ptr h.length 0 0∧F 12 = .int .i64 (sumTo l e.name j:Nat)∧F 13 = .int .i64 (j:Nat)∧H'=H) 8 ⟨0,by simp,by simp -implicitDefEqProofs only [AA,BF,BN,↓reduceIte,Nat.reduceEqDiff],by simp -implicitDefEqProofs only [AA,↓reduceIte,Nat.reduceEqDiff],by simp -implicitDefEqProofs only [AA,↓reduceIte,Nat.reduceEqDiff] <;> rfl,by simp -implicitDefEqProofs only [AA,↓reduceIte] <;> rfl,rfl⟩ ?_
 rintro k F H' ⟨j,hj,f1,f3,f12,f13,rfl⟩
 simp -implicitDefEqProofs only [BC,BA,BI,A8,AY,BB,AO,AQ,AL,BD,AX,AC,AA,A7,AU,BH,BG,BR,AB,DF,↓reduceIte,oGs,bNf,enP,f13]
 refine CW (fun hc => ?_) (fun hc => ?_)
 ·have hj':j < 8:=by simp at hc; omega
  simp -implicitDefEqProofs only [BC,BQ,BA,BO,A8,AY,AO,AQ,AL,BD,AX,AC,AA,A7,BX,BG,BV,BK,BZ,BU,AB,lMc,lMn,lAn,↓reduceIte,Nat.reduceEqDiff,Nat.zero_add,oGs,bNf,enP,KZ,f1,f3,f12,f13,l2]
  refine (AAH G l m _ _ H' hl hok hnz).use ?_
  simp -implicitDefEqProofs only [AY,AO,AQ,AL,BD,AX,AC,AA,A7,BX,BZ,BU,lMc,lMn,lAn,↓reduceIte,Nat.reduceEqDiff,oGs,bNf]
  refine (AVJ G _ _ (ABM l _ j) (AKV l _ (j:Nat)) H').use ?_
  simp -implicitDefEqProofs only [BA,A8,EF,ER,AY,BB,AO,AQ,AL,BD,AX,AC,AA,A7,AU,BH,BG,AZ,BR,AB,DI,↓reduceIte,Nat.reduceEqDiff,oGs,bNf,enP,f1,f3,f12,f13,wrap_succ (show j < 9223372036854775807 by omega)]
  exact ⟨k - 1,by omega,j+1,by omega,by first | trivial | exact f1,by first | trivial | exact f3,by first | trivial | rfl,by first | trivial | rfl,trivial⟩
 ·have hj':j=8:=by simp at hc; omega
  subst hj'
  simp -implicitDefEqProofs only [BC,BA,BL,DL,A8,EC,EY,EW,KR,AY,BB,AO,AQ,AL,BD,AX,AC,AA,A7,AU,BH,BG,AZ,↓reduceIte,Nat.reduceEqDiff,oGs,bNf,f12]
  exact ⟨by unfold lfE XI; rw [if_pos hk',if_neg e1,if_neg e2,if_neg e3,if_pos e24]; rfl,hx⟩
def vlE (l:List Sg) (e:Ex):Nat × Int:=if (pre e).all (knE l)=true then (YW l e,0) else (0,7)
theorem ALT (l:List Sg) (e:Ex):(pre e).all (knE l)=(knE l e && (JL e.args).all (knE l)):=by rw [pre_eq]; rfl
set_option maxHeartbeats 1000000 in
theorem AMZ (l:List Sg) (m:SM) (hl:l.length≤1099511627776) (hok : ∀ s∈l,AD0 s) (e:Ex):wt e≤1048576→(∀ x∈pre e,J4 x=0)→∀ h:Hp,PCall (En G) 163 [.agg (ET e),.sl m 2 (l.map GH)] h (evV (vlE l e)):=by
 induction e using Ex.induct with | h e ih => ?_
 intro hw hval h
 have hal:e.args.length≤1048576:=by have:=SI e.args; have:=MH e; omega
 have hnode:=hval e (by rw [pre_eq]; simp)
 obtain ⟨o1,o3,oo⟩:=ABZ hnode
 refine AEC 2 (AGA _) ?_
 refine CB (H:=Hint.none) (enM G) Tryz.func163 rfl (by kernel_rfl) (by kernel_rfl) (nLb (by kernel_rfl)) ?_
 show awp _ _ _ _ _ (EE _ [.tmp 4,.tmp 5] _)
 have ge:=CY h (ABlk.live 4 [ET e])
 have hx:ext h (h ++ [ABlk.live 4 [ET e]]):=(ext.rfl' h).app _
 simp -implicitDefEqProofs only [BC,BQ,BA,A8,AY,BB,AO,AQ,AL,BD,AX,AC,A7,AU,BH,JD,AZ,FV,CE,BF,oGs,bNf,enP,bxE]
 generalize h ++ [ABlk.live 4 [ET e]]=H1 at ge hx ⊢
 generalize h.length=eb at ge ⊢
 refine G9 0 (fun F H => ∃ v,F 1 = .sl m 2 (l.map GH)∧F 2 = .ptr eb 0 0∧F 6=v∧ext H1 H∧outG 1 IV H1 (KW l e.args) v H∧(JL e.args).all (knE l)=true) (fun F H=>F 4 = .int .i64 0∧F 5 = .int .i64 7∧ext H1 H∧(JL e.args).all (knE l)=false) ?_ ?_ ?_
 ·refine DR (fun k F H => ∃ j v,k+j=e.args.length∧F 1 = .sl m 2 (l.map GH)∧F 2 = .ptr eb 0 0∧F 6=v∧F 7 = .int .i64 (j:Nat)∧ext H1 H∧outG 1 IV H1 (KW l (e.args.take j)) v H∧(JL (e.args.take j)).all (knE l)=true) e.args.length
   ⟨0,.sl .nil 0 [],by simp,by simp -implicitDefEqProofs only [AA,BF,BN,↓reduceIte,Nat.reduceEqDiff],by simp -implicitDefEqProofs only [AA,↓reduceIte,Nat.reduceEqDiff],by simp -implicitDefEqProofs only [AA,↓reduceIte,Nat.reduceEqDiff],by simp -implicitDefEqProofs only [AA,↓reduceIte] <;> rfl,ext.rfl' H1,outG.nil _ _ _ _,rfl⟩ ?_
  rintro k F H ⟨j,v,hj,f1,f2,f6,f7,hxH,ho,hkn⟩
  have geH:=EU hxH ge
  have l3:DZ Tryz.prog H 51 (.ptr eb 0 3)=some (.sl e.m 4 (e.args.map ET)):=by rw [DJ AGT geH (row:=ET e) rfl,YD]
  simp -implicitDefEqProofs only [BC,BA,BI,A8,AY,BB,AO,AQ,AL,BD,AX,AC,AA,A7,BG,BV,BR,BK,D6,AB,DF,↓reduceIte,Nat.reduceEqDiff,Nat.zero_add,oGs,bNf,enP,ADP,OY,f2,f7,l3,lLm]
  refine CW (fun hc => ?_) (fun hc => ?_)
  ·have hj':j < e.args.length:=by simpa using hc
   have hmem:e.args[j]∈e.args:=List.getElem_mem hj'
   have htl:(KW l (e.args.take j)).length < 8388608:=by rw [U3]; simp; omega
   have hsplit:JL e.args=JL (e.args.take j) ++ (pre e.args[j] ++ JL (e.args.drop (j+1))):=by
    rw [← List.append_assoc,← NS _ _ hj',← PH,List.take_append_drop]
   obtain ⟨v',H',ha,ho',_,hx',_,_⟩:=ho.append (P:=Tryz.prog) TY sz3 XE WX (by omega) htl hxH (YW l e.args[j])
   have ha':GU Tryz.prog true H 57 57 v (.sl .full 1 [[.int .i64 ((YW l e.args[j]:Nat):Int)]])=some (v',H'):=ha
   simp -implicitDefEqProofs only [BC,BQ,BA,BO,A8,AY,AO,AQ,AL,BD,AX,AC,AA,A7,BX,BG,BV,BK,CG,BZ,BU,AB,lMc,lMn,lAn,↓reduceIte,Nat.reduceEqDiff,Nat.zero_add,oGs,bNf,enP,AJ9,OY,f1,f2,f7,l3,D5 hj',FO AAY WB JU hj']
   refine (ih e.args[j] hmem (by have:=QR hmem; have:=MH e; omega) (fun x hx=>hval x (by rw [pre_eq]; exact List.mem_cons_of_mem _ (AA0 hmem x hx))) _).use ?_
   unfold vlE
   cases hk:(pre e.args[j]).all (knE l)
   ·simp only [Bool.false_eq_true,if_false,evV]
    simp -implicitDefEqProofs only [List.getElem?_cons_zero,List.getElem?_cons_succ,BC,BA,BL,BI,A8,CP,D8,MR,FB,C9,AY,BB,AO,AQ,AL,BD,AX,AC,AA,A7,AU,BH,BG,AZ,BR,FW,IB,AB,EJ,↓reduceIte,Nat.reduceEqDiff,oGs,bNf,enP,Int.reduceBNe,Int.reduceBEq]
    exact ⟨by first | trivial | rfl,by first | trivial | rfl,hxH,by rw [hsplit,List.all_append,List.all_append,hk]; simp⟩
   ·simp only [if_true,evV]
    simp -implicitDefEqProofs only [List.getElem?_cons_zero,List.getElem?_cons_succ,FT,F6,BC,BA,BO,BI,A8,EF,ER,DU,AY,BB,AO,AQ,AL,BD,AX,AC,AA,A7,AU,BH,BG,AZ,ES,BR,FW,IB,IJ,CE,AB,DI,EJ,↓reduceIte,Nat.reduceEqDiff,oGs,bNf,enP,Int.reduceBNe,Int.reduceBEq,bne_self_eq_false,f6,AGL,ha',f1,f2,f7,wrap_succ (show j < 9223372036854775807 by omega)]
    exact ⟨k - 1,by omega,j+1,v',by omega,by first | trivial | exact f1,by first | trivial | exact f2,by first | trivial | rfl,by first | trivial | rfl,hx',by rw [ABH _ _ _ hj']; exact ho',by rw [NS _ _ hj',List.all_append,hkn,hk]; rfl⟩
  ·have hj' : ¬ j < e.args.length:=by simpa using hc
   rw [List.take_of_length_le (by omega)] at ho hkn
   simp -implicitDefEqProofs only [DL,EC,KG,EW,AA,↓reduceIte,Nat.reduceEqDiff]
   exact ⟨v,f1,f2,f6,hxH,ho,hkn⟩
 ·rintro F H ⟨v,f1,f2,f6,hxH,ho,hkn⟩
  have geH:=EU hxH ge
  have hxx:=hx.trans hxH
  have l0:DZ Tryz.prog H 3 (.ptr eb 0 0)=some (.int .i64 e.op):=by rw [DJ ag3 geH (row:=ET e) rfl,JW]
  have hvl:=U3 l e.args
  have hpa:(pre e).all (knE l)=knE l e:=by rw [ALT,hkn,Bool.and_true]
  simp -implicitDefEqProofs only [BC,BA,A8,EY,AY,AO,AQ,AL,BD,AX,AC,AA,A7,BX,BV,BK,BZ,BU,AB,lMc,lMn,lAn,↓reduceIte,Nat.add_zero,oGs,bNf,enP,IA,f2,l0]
  refine (ARN G e.op H).use ?_
  simp -implicitDefEqProofs only [BI,A8,BB,AC,AA,A7,↓reduceIte]
  cases hq:((e.op == 1) || KQ e.op)
  ·have hne:e.op≠1∧e.op≠2∧e.op≠3∧e.op≠24:=by
    unfold KQ at hq; simp at hq; omega
   obtain ⟨e1,e2,e3,e24⟩:=hne
   have hok':AJA e.op (KW l e.args).length:=by rw [hvl]; exact oo e1 e2 e3 e24
   obtain ⟨o,rfl,hob⟩ : ∃ o,v = .own o 0 (KW l e.args).length∧H[o]? = some (.live 1 ((KW l e.args).map IV)):=by
    rcases ho with ⟨h0,_⟩ | ⟨_,o,_,rfl,hb⟩
    ·exfalso
     rw [h0] at hok'
     obtain ⟨a,b,c⟩:=hok'
     by_cases q:e.op=22
     ·have:=a q; simp at this
     by_cases q':e.op=23
     ·have:=b q'; simp at this
     ·have:=c q q'; simp at this
    ·exact ⟨o,rfl,hb⟩
   simp -implicitDefEqProofs only [BC,BA,BO,A8,DU,AY,AO,AQ,AL,BD,AX,AC,AA,A7,BX,BG,BV,BK,BZ,BU,AB,lMc,lMn,lAn,↓reduceIte,Nat.reduceEqDiff,Nat.add_zero,oGs,bNf,enP,IA,f2,l0,f6]
   refine (APP G e.op _ o H hob (AG6 l _) (by omega) hok').use ?_
   simp -implicitDefEqProofs only [BL,A8,KR,AY,BB,AO,AQ,AL,BD,AX,AC,AA,A7,AU,BH,AZ,↓reduceIte,Nat.reduceEqDiff,oGs,bNf]
   have hk:knE l e=true:=by unfold knE; rw [if_neg e2,if_neg (by omega)]
   refine ⟨?_,hxx⟩
   unfold vlE
   rw [hpa,if_pos hk,AAZ]
   unfold XI
   rw [if_neg e1,if_neg e2,if_neg e3,if_neg e24]; rfl
  ·have hask:e.op=1∨e.op=2∨e.op=3∨e.op=24:=by
    unfold KQ at hq; simp at hq; omega
   simp -implicitDefEqProofs only [BC,BA,C9,AY,AO,AQ,AL,BD,AX,AC,AA,A7,BX,BG,BV,BZ,BU,AB,lMc,lMn,lAn,↓reduceIte,Nat.reduceEqDiff,oGs,bNf,enP,f1,f2,f6,ML geH]
   refine (APZ G l m e _ v H1 H hl hok hw hnode hask hvl ho).use ?_
   have hlf:lfE l e (KW l e.args)=vlE l e:=by unfold lfE vlE; rw [hpa,AAZ]
   rw [hlf]
   unfold evV
   simp -implicitDefEqProofs only [List.getElem?_cons_zero,List.getElem?_cons_succ,BL,A8,CP,KR,AY,BB,AO,AQ,AL,BD,AX,AC,AA,A7,AZ,FW,IB,AB,↓reduceIte,Nat.reduceEqDiff,oGs,bNf]
   exact ⟨by first | trivial | rfl,hxx⟩
 ·rintro F H ⟨f4,f5,hxH,hkn⟩
  simp -implicitDefEqProofs only [CP,D8,KR,f4,f5]
  exact ⟨by unfold vlE; rw [ALT,hkn,Bool.and_false]; rfl,hx.trans hxH⟩
theorem ARZ (l:List Sg) (m:SM) (e:Ex) (h:Hp) (hl:l.length≤1099511627776) (hok : ∀ s∈l,AD0 s) (hw:wt e≤1048576):PCall (En G) 104 [.agg (ET e),.sl m 2 (l.map GH)] h (evV (evE l e)):=by
 refine AEC 2 (AGA _) ?_
 refine CB (H:=Hint.none) (enM G) Tryz.func104 rfl (by kernel_rfl) (by kernel_rfl) (nLb (by kernel_rfl)) ?_
 show awp _ _ _ _ _ (EE _ [.tmp 4,.tmp 5] _)
 have ge:=CY h (ABlk.live 4 [ET e])
 have hx:ext h (h ++ [ABlk.live 4 [ET e]]):=(ext.rfl' h).app _
 simp -implicitDefEqProofs only [BC,BA,A8,AY,BB,AO,AQ,AL,BD,AX,AC,AA,A7,AU,BH,AZ,FV,BV,CE,BF,↓reduceIte,Nat.reduceEqDiff,oGs,bNf,enP,bxE]
 generalize h ++ [ABlk.live 4 [ET e]]=H at ge hx ⊢
 simp -implicitDefEqProofs only [AY,AO,AQ,AL,BD,AX,AC,AA,A7,BX,BZ,BU,AB,lMc,lMn,lAn,↓reduceIte,oGs,bNf,ML ge]
 refine (AAF G e H hw).use ?_
 simp -implicitDefEqProofs only [BI,A8,AY,BB,AO,AQ,AL,BD,AX,AC,AA,A7,AU,BH,BR,AB,EJ,↓reduceIte,oGs,bNf,enP]
 cases hv:(exE e == 0)
 ·have hne:exE e≠0:=by simpa using hv
  simp -implicitDefEqProofs only [BC,BA,BL,A8,CP,KR,C9,AY,BB,AO,AQ,AL,BD,AX,AC,AA,AU,BH,AZ,↓reduceIte,Nat.reduceEqDiff,oGs,bNf,bne,hv]
  exact ⟨by unfold evE; rw [if_pos hne]; rfl,hx⟩
 have h0:exE e=0:=by simpa using hv
 simp -implicitDefEqProofs only [BC,BA,BO,A8,DU,AY,AO,AQ,AL,BD,AX,AC,AA,A7,BX,BG,BV,BZ,BU,AB,BF,BN,lMc,lMn,lAn,↓reduceIte,Nat.reduceEqDiff,oGs,bNt,bNf,enP,bne,hv,ML ge]
 refine (AMZ G l m hl hok e hw (AER h0) H).use ?_
 have he:evE l e=vlE l e:=by unfold evE vlE; rw [if_neg (by simpa using h0)]
 rw [he]
 unfold evV
 simp -implicitDefEqProofs only [List.getElem?_cons_zero,List.getElem?_cons_succ,BL,A8,KR,AY,BB,AO,AQ,AL,BD,AX,AC,AA,A7,AZ,FW,IB,AB,↓reduceIte,Nat.reduceEqDiff,oGs,bNf]
 exact ⟨by first | trivial | rfl,hx⟩
end
end Go.Proofs.YtocilianjfhifaaGreatDoor.Xe
