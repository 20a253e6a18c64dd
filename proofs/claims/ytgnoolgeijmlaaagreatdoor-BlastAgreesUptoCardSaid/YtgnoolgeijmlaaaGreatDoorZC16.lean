/- Part 16 of the proof (Hb, Hc, D5, Hd, D6, Hg, Hi, Hj); no condition. -/
import Derived.Test.YtgnoolgeijmlaaaGreatDoorZC15
set_option linter.unusedVariables false
set_option linter.unusedSimpArgs false
set_option maxRecDepth 8000
namespace Go.Proofs.YtgnoolgeijmlaaaGreatDoor.Bl
open Sm Bins Cov Xe Wd Go.Proofs.YtgnoolgeijmlaaaGreatDoor.Bd Go.RowKit
open Bool renaming not_false→jC,or_false→jV,not_true→jT
open Int renaming toNat_natCast→qA,eq_ofNat_of_zero_le→qB
open List renaming map_nil→jE,append_nil→jD,map_cons→jF,getElem?_cons_zero→jQ,getElem?_cons_succ→jR,mem_singleton→qW,length_map→jM,length_append→zQ,getElem?_eq_getElem→jP,getElem_mem→jX,getD_eq_getElem?_getD→zB,length_set→zV,contains_cons→jZ,contains_nil→jY,length_take→zN,take_succ_eq_append_getElem→qE,take_of_length_le→zF,replicate→jJ,take_zero→qH,append_assoc→zJ,getElem?_set_ne→jS,length_cons→zS,getElem?_map→zG
open Nat renaming le_of_ble_eq_true→jG,reduceEqDiff→jA,add_zero→jI,le_refl→jO,pow_succ→qV,add_mul→zT,reduceBEq→zA,reduceAdd→jL,le_trans→wC,zero_add→jH
open Option renaming getD_some→jB,getD_none→jK
theorem QCall.args {E:Env}{f:FuncId}{args args':List AV}{h:Hp}{Q:AV→Prop}(hc:QCall E f args' h Q)(ha:CvRL args args'):QCall E f args h Q:=ACalls.args hc ha
theorem AM6:(dg0.map Nd.raw).map EU=dg0.map D5:=TG dg0
section
variable (G:Nat→AV)
set_option maxHeartbeats 2000000 in
theorem VV (hG:GOk G)(h:Hp):PCall (En G) 13 [] h (.bool true):=by
 refine ACalls.pure0 rfl ?_
 refine acN Tryz.func13 rfl ?_
 show awp _ _ _ _ _ (EE _ [.tmp 0] _)
 simp -implicitDefEqProofs only[vQ,BF,enP]
 refine(WS G h).use ?_
 simp -implicitDefEqProofs only[vQ,BF,↓reduceIte]
 have hL:=UU G hG smp AJS h
 have lv:lvV smp = .sl .any 1 (([0,-1,2]:List Int).map qencI):=by unfold lvV; rw[if_pos ATQ,AXG]
 rw[lv] at hL
 refine hL.use ?_
 simp -implicitDefEqProofs only[vQ,BF,↓reduceIte]
 refine(AJ7 G h).use ?_
 simp -implicitDefEqProofs only[vQ,BF]
 refine(WS G h).use ?_
 simp -implicitDefEqProofs only[vQ,BF,↓reduceIte,jA,enP,AWN]
 have hT:=XN G hG (dg0.map Nd.raw) .full (by decide) smp AJS (vX nS) (by decide) h
 rw[AM6] at hT
 refine(QCall.args hT (CvRL.cons (CvR.refl _) (CvRL.cons (CvR.refl _) (CvRL.cons (AY8 nS) CvRL.nil)))).use ?_
 have hst:stE (dg0.map Nd.raw) smp (vX nS)=0:=by rw[VC vd0]; exact AZL
 rintro v (⟨hne,_⟩ | ⟨_,l0,hl0,_,⟨hN,_⟩ | ⟨f,l1,m1,hF,rfl⟩⟩)
 ·exact absurd hst hne
 ·obtain rfl:=QH hl0
  rw[AWA] at hN; cases hN
 obtain rfl:=QH hl0
 rw[AWA] at hF
 obtain⟨rfl,rfl⟩:1=f∧dg0=l1:=by
  have:=Option.some.inj hF
  exact⟨congrArg Prod.fst this,congrArg Prod.snd this⟩
 have stT : ∀ (H:Hp) (m:SM) (xs:List (List AV)),FM Tryz.prog (H++[ABlk.live 1 [[.sl .nil 0 []]]]) 35 (.ptr H.length 0 0) (.agg [.sl m 3 xs])=some (H++[ABlk.live 1 [[.sl m 3 xs]]]):=fun H m xs=>by rw[LY (CW H _),JI]
 unfold dgA iA
 simp -implicitDefEqProofs only[vQ,jQ,jR,BF,↓reduceIte,jA,enP,jK,Q3,stT]
 have q2:=CW h (ABlk.live 1 [[.sl m1 3 (dg0.map D5)]])
 have hx:ext h (h++[ABlk.live 1 [[.sl m1 3 (dg0.map D5)]]]):=(ext.rfl' h).app _
 generalize h++[ABlk.live 1 [[.sl m1 3 (dg0.map D5)]]]=H1 at q2 hx ⊢
 generalize hb2:h.length=b2 at q2 ⊢
 refine(WS G H1).use ?_
 simp -implicitDefEqProofs only[vQ,BF,↓reduceIte,jA,enP,AWN,A1L,A1W,show FO Tryz.prog false H1 23 1 [(0,.agg [.int .i64 15,.int .i64 0,.str ⟨#[]⟩,.sl .full 4 [w4 nA,w4 nB]])]=some (.sl .full 4 [wAB],H1) from A1M H1]
 have hA:=AS8 G hG smp AJS [eAB] .full (by decide) (fun e he=>by rw[qW] at he; subst he; decide) H1
 refine(QCall.args hA (CvRL.cons (CvR.refl _) (CvRL.cons (CvR.sl (wc1 ATG)) CvRL.nil))).use ?_
 have hab:=AXH
 intro v hv
 cases ho:AA9 smp [eAB] 1 dg0 with
 | error k=>rw[ho] at hab; have hab:false=true:=hab; cases hab
 | ok q =>
   obtain⟨t,l⟩:=q
   rw[ho] at hab hv
   obtain⟨m2,rfl⟩:=hv
   obtain⟨vl,tl⟩:=ANH _ _ _ _ _ vd0 (by decide) ho
   have hab:(decide (t < l.length) && (ev l (bA [true,false,true,false]) t && !ev l (bA [true,false,true,true]) t))=true:=hab
   simp only[Bool.and_eq_true,Bool.not_eq_true'] at hab
   obtain⟨_,ha1,ha2⟩:=hab
   unfold dgA iA
   simp -implicitDefEqProofs only[vQ,jQ,jR,BF,↓reduceIte,jA,enP,jK,Q3,stT]
   have q2:=BQ (x:=ABlk.live 1 [[.sl m2 3 (l.map D5)]]) q2
   have q5:=CW H1 (ABlk.live 1 [[.sl m2 3 (l.map D5)]])
   have hx:=hx.app [ABlk.live 1 [[.sl m2 3 (l.map D5)]]]
   generalize H1++[ABlk.live 1 [[.sl m2 3 (l.map D5)]]]=H2 at q2 q5 hx ⊢
   generalize H1.length=b5 at q5 ⊢
   have g2:DC Tryz.prog H2 33 (.ptr b2 0 0)=some (.sl m1 3 (dg0.map D5)):=by rw[DF ALM q2 rfl]; rfl
   have d1:=Y9 G l m2 vl t tl [true,false,true,false] .full H2
   have d2:=Y9 G l m2 vl t tl [true,false,true,true] .full H2
   rw[ha1] at d1
   rw[ha2] at d2
   simp -implicitDefEqProofs only[vQ,BF,↓reduceIte,jA,A1J]
   have hs:=AFU G (isS.of .any [0,-1,2]) (isS.of .full [0,-1,2]) (by decide) (by decide) H2
   rw[decide_eq_true rfl] at hs
   refine hs.use ?_
   simp -implicitDefEqProofs only[vQ,CP,BF,↓reduceIte,jA,enP,UT,O0,g2,jM,show((dg0.length:Nat):Int)=2 from rfl,Int.reduceBEq,beq_self_eq_true,show((((1:Nat):Int)) == 1)=true from rfl,JE q5,A1F]
   refine(show PCall (En G) 35 [.agg [.sl m2 3 (l.map D5)],.int .i64 (t:Nat),.sl .full 1 (([true,false,true,false]:List Bool).map NC)] H2 (.bool true) from d1).use ?_
   simp -implicitDefEqProofs only[vQ,CP,BF,↓reduceIte,jA,enP,JE q5,A1F]
   refine(show PCall (En G) 35 [.agg [.sl m2 3 (l.map D5)],.int .i64 (t:Nat),.sl .full 1 (([true,false,true,true]:List Bool).map NC)] H2 (.bool false) from d2).use ?_
   simp -implicitDefEqProofs only[vQ,CP,BF,↓reduceIte,jA]
   exact⟨by trivial,hx⟩
end
theorem A2D {p:Pr}(h:O8 p=0):POk p (KL p):=(PV.of h).pok
theorem stT (H:Hp)(m:SM)(k:Nat)(xs:List (List AV)):FM Tryz.prog (H++[ABlk.live 1 [[.sl .nil 0 []]]]) 35 (.ptr H.length 0 0) (.agg [.sl m k xs])=some (H++[ABlk.live 1 [[.sl m k xs]]]):=by rw[LY (CW H _),JI]
theorem AA1 {H:Hp}{b:Nat}{p:Pr}(hb:H[b]? = some (.live 5 [D8 p])):DC Tryz.prog H 27 (.ptr b 0 0)=some (.agg (D8 p)):=by
 rw[G5 XK VZ hb (row:=D8 p) rfl (by rw[JR]; exact jO 5)]; rfl
section
variable (G:Nat→AV)
end
theorem ACS : ∀ (vars:List Vr) (a:List Int) (n:ByteArray) (i:Nat) (h:i < a.length),a.length=vars.length→fnm n vars=some i→NW (RV vars a) n=(wW a[i],true)
 | [],_,_,_,_,_,hf=>by cases hf
 | _ :: _,[],_,_,h,_,_=>by simp at h
 | v :: vs,z :: a,n,i,h,hl,hf=>by
   have e:NW (RV (v :: vs) (z :: a)) n=if(v.name.toList == n.toList)=true then (wW z,true) else NW (RV vs a) n:=rfl
   have ef:fnm n (v :: vs)=if(v.name.toList == n.toList)=true then some 0 else (fnm n vs).map (·+1):=rfl
   rw[ef] at hf
   rw[e]
   by_cases q:(v.name.toList == n.toList)=true
   ·rw[if_pos q] at hf ⊢
    obtain rfl:0=i:=Option.some.inj hf
    rfl
   ·rw[if_neg q] at hf ⊢
    cases hq:fnm n vs with
    | none=>rw[hq] at hf; cases hf
    | some j =>
      rw[hq] at hf
      obtain rfl:j+1=i:=Option.some.inj hf
      rw[ACS vs a n j (by simpa using h) (by simpa using hl) hq]
      rfl
theorem WordQ.shape {R:List Rn}{p:Pr}{e:Ex}{v:AV}(h:WordQ R p e v) : ∃ m k xs wm wk ws,∃ z:Int,v = .tup [.agg [.sl m k xs],.sl wm wk ws,.int .i64 z]:=by
 rcases h with⟨_,rfl⟩ | ⟨_,l,_,_,⟨_,rfl⟩ | ⟨w,l',m,_,rfl⟩⟩
 ·exact⟨_,_,_,_,_,_,_,rfl⟩
 ·exact⟨_,_,_,_,_,_,_,rfl⟩
 ·exact⟨_,_,_,_,_,_,_,rfl⟩
def wK0:List AV := [.int .i64 1,.int .i64 0,.str ⟨#[]⟩,.sl .nil 0 []]
def r1 (e:Ex):List AV := [.int .i64 7,.int .i64 0,.str ⟨#[]⟩,.sl .full 4 [D6 e,wK0]]
def bt (z:Int)(k:Nat):Bool:=z.toNat / 2 ^ k % 2 == 1
def rowB (w:Nat)(z:Int):List Bool:=(List.range w).map fun j=>bt z (w - 1 - j)
theorem QF (w:Nat)(z:Int):(rowB w z).length=w:=by unfold rowB; simp
theorem AMF {w j:Nat}(z:Int)(h:j < w):(rowB w z)[j]? = some (bt z (w - 1 - j)):=by unfold rowB; simp [h]
def bsL (vs:List Vr)(a:List Int)(xs:List Int):List Bool:=xs.flatMap fun x=>rowB (wd vs x).toNat (a.getD x.toNat 0)
theorem ANB (vs:List Vr)(a xs:List Int)(x:Int):bsL vs a (xs++[x])=bsL vs a xs++rowB (wd vs x).toNat (a.getD x.toNat 0):=by unfold bsL; rw[List.flatMap_append]; simp
theorem ASB (vs:List Vr)(hw : ∀ x,0≤wd vs x)(a:List Int)(xs:List Int):(∀ x∈xs,0≤x∧x < vs.length)→(∀ x,xs.count x≤1) →
  (lvS vs xs).2=((bsL vs a xs).length:Nat)∧∀ x∈xs,∀ j,j < (wd vs x).toNat→(bsL vs a xs)[((lvS vs xs).1.getD x.toNat 0).toNat+j]? = some (bt (a.getD x.toNat 0) ((wd vs x).toNat - 1 - j)):=by
 refine AHQ (P:=fun xs:List Int=>(∀ x∈xs,0≤x∧x < vs.length)→(∀ x,xs.count x≤1)→(lvS vs xs).2=((bsL vs a xs).length:Nat)∧∀ x∈xs,∀ j,j < (wd vs x).toNat→(bsL vs a xs)[((lvS vs xs).1.getD x.toNat 0).toNat+j]? = some (bt (a.getD x.toNat 0) ((wd vs x).toNat - 1 - j))) ?_ ?_ xs
 ·intro _ _
  exact⟨rfl,fun _ h=>(by cases h)⟩
 ·intro xs x ih hin hct
  have hin' : ∀ y∈xs,0≤y∧y < vs.length:=fun y hy=>hin y (List.mem_append_left _ hy)
  have hct' : ∀ y,xs.count y≤1:=fun y=>by have:=hct y; rw[List.count_append] at this; omega
  obtain⟨i1,i2⟩:=ih hin' hct'
  have hx:=hin x (by simp)
  have hnx:x ∉ xs:=fun q=>by
   have:=hct x
   rw[List.count_append] at this
   have h1:=List.count_pos_iff.2 q
   simp at this; omega
  have hl:x.toNat < (lvS vs xs).1.length:=by rw[ABH]; omega
  have hne : ∀ y∈xs,x.toNat≠y.toNat:=fun y hy e=>by
   have:=(hin' y hy).1
   have:x=y:=by omega
   exact hnx (this ▸ hy)
  have hwx:=hw x
  have e1:(lvS vs (xs++[x])).2=(lvS vs xs).2+wd vs x:=by rw[TL]; rfl
  have e2:(lvS vs (xs++[x])).1.getD x.toNat 0=(lvS vs xs).2:=by rw[TL]; exact MC hl _
  have e3 : ∀ y∈xs,(lvS vs (xs++[x])).1.getD y.toNat 0=(lvS vs xs).1.getD y.toNat 0:=fun y hy=>by rw[TL]; exact getD_set_ne (hne y hy) _
  rw[ANB]
  refine⟨by rw[e1,i1,zQ,QF]; omega,fun y hy j hj => ?_⟩
  rcases List.mem_append.1 hy with q | q
  ·rw[e3 y q]
   have:=i2 y q j hj
   rw[List.getElem?_append_left (CE this)]
   exact this
  ·rw[qW] at q
   subst q
   rw[e2,i1,qA,List.getElem?_append_right (by omega),Nat.add_sub_cancel_left]
   exact AMF _ hj
theorem AR8 (β:Nat→Bool)(e z:Nat) : ∀ n k,(∀ j,k≤j→j < k+n→β (e - 1 - j)=(z / 2 ^ j % 2 == 1))→bv β e n k=z / 2 ^ k % 2 ^ n
 | 0,k,_=>by simp [bv,Nat.mod_one]
 | n+1,k,h=>by
   simp only[bv]
   rw[AR8 β e z n (k+1) fun j h1 h2=>h j (by omega) (by omega),h k (jO _) (by omega)]
   have ht:tn (z / 2 ^ k % 2 == 1)=z / 2 ^ k % 2:=by
    have:z / 2 ^ k % 2 < 2:=Nat.mod_lt _ (by decide)
    rcases (show z / 2 ^ k % 2=0∨z / 2 ^ k % 2=1 by omega) with q | q <;> rw[q] <;> rfl
   rw[ht,qV 2 k,← Nat.div_div_eq_div_mul,qV,Nat.mul_comm (2 ^ n) 2,Nat.mod_mul]
structure AOk (p:Pr) (a:List Int):Prop where
 len:a.length=p.vars.length
 st : ∀ (i:Nat) (hi:i < p.vars.length),p.vars[i].mode=0→a.getD i 0=p.vars[i].value
 rn : ∀ (i:Nat) (hi:i < p.vars.length),p.vars[i].mode≠0→0≤a.getD i 0∧a.getD i 0 < 2 ^ p.vars[i].width.toNat
theorem APL {vs:List Vr}{i:Nat}(hi:i < vs.length):wd vs ((i:Nat):Int)=vs[i].width:=by unfold wd; simp only[qA,jP hi]
theorem AOk.rng {p:Pr}(P:PV p){a:List Int}(h:AOk p a)(i:Nat)(hi:i < p.vars.length):0≤a.getD i 0∧a.getD i 0 < 256:=by
 obtain⟨_,w1,w8,_,_,v0,v1,_⟩:=TC (P.vr _ (jX hi))
 have hp:=AP6 (show p.vars[i].width.toNat≤8 by omega)
 by_cases hm:p.vars[i].mode=0
 ·rw[h.st i hi hm]; omega
 ·have:=h.rn i hi hm; omega
theorem ASW {p:Pr}(P:PV p){a:List Int}(h:AOk p a):Agr p (KL p) (bA (bsL p.vars a (flG p.groups))) (RV p.vars a):=by
 intro n i hi hf
 have hl:=h.len
 obtain⟨r0,r1⟩:=h.rng P i hi
 rw[ACS p.vars a n i (by omega) hl hf]
 have ea:a[i]'(by omega)=a.getD i 0:=by rw[zB,jP (by omega)]; rfl
 rw[ea]
 congr 1
 have hwW:wW (a.getD i 0)=(a.getD i 0).toNat:=by unfold wW; omega
 rw[hwW]
 obtain⟨_,w1,w8,_,_,v0,v1,_⟩:=TC (P.vr _ (jX hi))
 unfold vrV
 by_cases hm:p.vars[i].mode=0
 ·rw[if_pos hm,h.st i hi hm]
 ·rw[if_neg hm]
  obtain⟨g1,g2⟩:=WZ P.g
  obtain⟨_,s2⟩:=ASB p.vars P.wd a (flG p.groups) g1 P.ct
  have s2:=s2 _ (P.mem hi hm)
  rw[APL hi,qA] at s2
  have hin:=P.lv.ins _ (P.mem hi hm)
  rw[APL hi,qA] at hin
  obtain⟨q0,q1⟩:=h.rn i hi hm
  unfold KL
  generalize (lvS p.vars (flG p.groups)).1.getD i 0=s at s2 hin ⊢
  generalize a.getD i 0=z at s2 q0 q1 r0 r1 ⊢
  obtain⟨u,rfl⟩:=qB hin.1
  obtain⟨y,rfl⟩:=qB q0
  obtain⟨w,hw⟩:=qB (show 0≤p.vars[i].width by omega)
  rw[hw] at s2 q1 w1 w8 ⊢
  rw[qA] at s2 q1 ⊢
  rw[show((u:Int)+(w:Int)).toNat=u+w by omega,qA]
  rw[AR8 _ (u+w) y w 0 fun j _ hj => ?_]
  ·rw[Nat.pow_zero,Nat.div_one,Nat.mod_eq_of_lt (by have:((y:Nat):Int) < ((2 ^ w:Nat):Int):=by rw[Int.natCast_pow]; exact q1
                                                    omega)]
  ·have:=s2 (w - 1 - j) (by omega)
   rw[qA,show u+(w - 1 - j)=u+w - 1 - j by omega,show w - 1 - (w - 1 - j)=j by omega] at this
   unfold bA
   rw[zB,this]
   rfl
def nxK (vs:List Vr):Nat→List Int→Option (List Int)
 | 0,_=>none
 | k+1,a=>match vs[k]? with
   | some v=>if v.mode=0 then nxK vs k a else if a.getD k 0+1 < 2 ^ v.width.toNat then some (a.set k (a.getD k 0+1)) else nxK vs k (a.set k 0)
   | none=>none
def rkP (vs:List Vr)(a:List Int):Nat→Nat
 | 0=>0
 | k+1=>match vs[k]? with
   | some v=>if v.mode=0 then rkP vs a k else rkP vs a k * 2 ^ v.width.toNat+(a.getD k 0).toNat
   | none=>rkP vs a k
def ADY (vs:List Vr):Nat→Nat
 | 0=>1
 | k+1=>match vs[k]? with
   | some v=>if v.mode=0 then ADY vs k else ADY vs k * 2 ^ v.width.toNat
   | none=>ADY vs k
theorem AFW (vs:List Vr)(a:List Int)(z:Int) : ∀ (k i:Nat),k≤i→rkP vs (a.set i z) k=rkP vs a k
 | 0,_,_=>rfl
 | k+1,i,h=>by
   simp only[rkP]
   rw[AFW vs a z k i (by omega),getD_set_ne (by omega)]
theorem ACC {p:Pr} : ∀ (k:Nat) (a:List Int),k≤p.vars.length→AOk p a→match nxK p.vars k a with
  | some a'=>AOk p a'∧rkP p.vars a' k=rkP p.vars a k+1∧∀ i,k≤i→a'.getD i 0=a.getD i 0
  | none=>True
 | 0,a,_,_=>trivial
 | k+1,a,hk,h=>by
   have hk':k < p.vars.length:=by omega
   have hak:k < a.length:=by rw[h.len]; exact hk'
   unfold nxK
   simp only[jP hk']
   by_cases hm:p.vars[k].mode=0
   ·rw[if_pos hm]
    have ih:=ACC k a (by omega) h
    cases hn:nxK p.vars k a with
    | none=>trivial
    | some a' =>
      rw[hn] at ih
      obtain⟨i1,i2,i3⟩:=ih
      refine⟨i1,?_,fun i hi=>i3 i (by omega)⟩
      simp only[rkP,jP hk',if_pos hm]
      exact i2
   ·rw[if_neg hm]
    obtain⟨q0,q1⟩:=h.rn k hk' hm
    have setok : ∀ z:Int,0≤z→z < 2 ^ p.vars[k].width.toNat→AOk p (a.set k z):=fun z z0 z1=>by
     refine⟨by rw[zV]; exact h.len,fun i hi hmi => ?_,fun i hi hmi => ?_⟩
     ·by_cases e:i=k
      ·subst e; exact absurd hmi hm
      ·rw[getD_set_ne (fun q=>e q.symm)]; exact h.st i hi hmi
     ·by_cases e:i=k
      ·subst e; rw[MC hak]; exact⟨z0,z1⟩
      ·rw[getD_set_ne (fun q=>e q.symm)]; exact h.rn i hi hmi
    by_cases hz:a.getD k 0+1 < 2 ^ p.vars[k].width.toNat
    ·rw[if_pos hz]
     refine⟨setok _ (by omega) hz,?_,fun i hi=>getD_set_ne (by omega) _⟩
     simp only[rkP,jP hk',if_neg hm]
     rw[AFW _ _ _ _ _ (jO k),MC hak]
     omega
    ·rw[if_neg hz]
     have hp:(0:Int) < 2 ^ p.vars[k].width.toNat:=Int.pow_pos (by decide)
     have ih:=ACC k (a.set k 0) (by omega) (setok 0 (Int.le_refl 0) hp)
     cases hn:nxK p.vars k (a.set k 0) with
     | none=>trivial
     | some a' =>
       rw[hn] at ih
       obtain⟨i1,i2,i3⟩:=ih
       refine⟨i1,?_,fun i hi=>by rw[i3 i (by omega)]; exact getD_set_ne (by omega) _⟩
       simp only[rkP,jP hk',if_neg hm]
       rw[i2,i3 k (jO k),MC hak,AFW _ _ _ _ _ (jO k)]
       have e:(((2:Nat) ^ p.vars[k].width.toNat:Nat):Int)=2 ^ p.vars[k].width.toNat:=by rw[Int.natCast_pow]; rfl
       have:(a.getD k 0).toNat+1=2 ^ p.vars[k].width.toNat:=by omega
       rw[zT]
       simp only[Int.toNat_zero]
       omega
theorem AJZ {p:Pr}{a:List Int}(h:AOk p a) : ∀ k,k≤p.vars.length→rkP p.vars a k < ADY p.vars k
 | 0,_=>by simp [rkP,ADY]
 | k+1,hk=>by
   have hk':k < p.vars.length:=by omega
   have ih:=AJZ h k (by omega)
   simp only[rkP,ADY,jP hk']
   by_cases hm:p.vars[k].mode=0
   ·rw[if_pos hm,if_pos hm]; exact ih
   ·rw[if_neg hm,if_neg hm]
    obtain⟨q0,q1⟩:=h.rn k hk' hm
    have e:(((2:Nat) ^ p.vars[k].width.toNat:Nat):Int)=2 ^ p.vars[k].width.toNat:=by rw[Int.natCast_pow]; rfl
    have h1:(a.getD k 0).toNat < 2 ^ p.vars[k].width.toNat:=by omega
    have h2:(rkP p.vars a k+1) * 2 ^ p.vars[k].width.toNat≤ADY p.vars k * 2 ^ p.vars[k].width.toNat:=Nat.mul_le_mul_right _ ih
    rw[zT] at h2
    omega
theorem AOH {H:Hp}{b:Nat}{p:Pr}(hb:H[b]? = some (.live 5 [D8 p])):DC Tryz.prog H 22 (.ptr b 0 0)=some (.sl p.vm 4 (p.vars.map EZ)):=by rw[DF UH hb (row:=D8 p) rfl]; rfl
theorem A3B {H:Hp}{b:Nat}{p:Pr}(hb:H[b]? = some (.live 5 [D8 p])):DC Tryz.prog H 25 (.ptr b 0 4)=some (.sl p.gm 1 (p.groups.map MP)):=by rw[DF AVS hb (row:=D8 p) rfl]; rfl
theorem A0K:Frz NC:=fun _ _ _ _=>⟨rfl,rfl⟩
theorem AZC:Tryz.prog.underlying 55=some (.slice 4):=by kernel_rfl
theorem AYY:ZL Tryz.prog 4=some 1:=by kernel_rfl
theorem A05:NR Tryz.prog 4=some 1:=by kernel_rfl
theorem A1E (h:Hp)(b:Bool):FO Tryz.prog false h 55 1 [(0,.bool b)]=some (.sl .full 1 [NC b],h):=by kernel_rfl
section
variable (G:Nat→AV)
set_option maxHeartbeats 1000000 in
theorem AVW (p:Pr)(hs:PrS p)(a:List Int)(b:Nat)(hl:a.length=p.vars.length)(h:Hp)(hb:isI h b a):PCall (En G) 27 [.agg (D8 p),.own b 0 a.length] h (.sl (Cov.nm (RV p.vars a)) 2 ((RV p.vars a).map PK)):=by
 have hvl:=hs.vars
 have hel:=AC0 hl
 refine VK A0H ?_
 refine KG (H:=hint [32] []) (enM G) Tryz.func27 rfl (by kernel_rfl) (by kernel_rfl) (jG (by kernel_rfl)) ?_
 show awp _ _ _ _ _ (EE _ [.tmp 4] _)
 have ge:=CW h (ABlk.live 5 [D8 p])
 have hb0:isI (h++[ABlk.live 5 [D8 p]]) b a:=BQ hb
 have hx:ext h (h++[ABlk.live 5 [D8 p]]):=(ext.rfl' h).app _
 have hh:h.length≤(h++[ABlk.live 5 [D8 p]]).length:=by simp
 simp -implicitDefEqProofs only[vQ,jZ,jY,zA,jV,BF,↓reduceIte,jA,enP,JU,QZ,TP]
 generalize h++[ABlk.live 5 [D8 p]]=H0 at ge hb0 hx hh ⊢
 generalize hpb:h.length=pb at ge hh ⊢
 have l22 : ∀ {H:Hp},Sm.ext H0 H→DC Tryz.prog H 22 (.ptr pb 0 0)=some (.sl p.vm 4 (p.vars.map EZ)):=fun q=>AOH (FC q ge)
 have hne:(((a.length:Nat):Int) != ((p.vars.length:Nat):Int))=false:=by rw[hl]; simp
 simp -implicitDefEqProofs only[vQ,jZ,jY,zA,jV,BF,↓reduceIte,jA,enP,QI,l22 (ext.rfl' H0),jM,hne]
 refine DY (fun n F H => ∃ i u,n+i=a.length∧F 1 = .own b 0 a.length∧F 2 = .ptr pb 0 0∧F 5=u∧F 6 = .int .i64 (i:Nat)∧ext H0 H∧outG 2 PK H0 ((RV p.vars a).take i) u H) a.length
  ⟨0,.sl .nil 0 [],by simp,by simp -implicitDefEqProofs only[vQ,↓reduceIte,jA],by simp -implicitDefEqProofs only[AA,↓reduceIte,jA],by simp -implicitDefEqProofs only[AA,↓reduceIte,jA],by simp -implicitDefEqProofs only[AA,↓reduceIte]; rfl,ext.rfl' _,outG.nil _ _ _ _⟩ ?_
 rintro n F H ⟨i,u,hi,f1,f2,f5,f6,hxH,ho⟩
 have ec:decide (((i:Nat):Int) < (a.length:Nat))=decide (i < a.length):=by rw[decide_eq_decide]; omega
 simp -implicitDefEqProofs only[vQ,jZ,jY,zA,jV,BF,↓reduceIte,jA,enP,QZ,f1,f6,jM,ec]
 refine CX (fun hc => ?_) (fun hc => ?_)
 ·have hi':i < a.length:=by simpa using hc
  have hiv:i < p.vars.length:=by omega
  have hie:i < (RV p.vars a).length:=by omega
  obtain⟨v',H',ha,ho',_,hx',_,_⟩:=ho.append (P:=Tryz.prog) A2K (by kernel_rfl) A2I A3P (by omega) (by rw[zN]; omega) hxH (p.vars[i].name,a[i])
  rw[← AM3 hiv hi' hie,← qE hie] at ho'
  have ln:DC Tryz.prog H 9 (.fptr 4 (p.vars.map EZ) i 0)=some (.str p.vars[i].name):=by rw[FH ag9 hiv]; rfl
  have hbH:isI H b a:=FC hxH hb0
  have la:DC Tryz.prog H 3 (.ptr b i 0)=some (.int .i64 a[i]):=by rw[hbH.ld hi',zB,jP hi']; rfl
  try simp -implicitDefEqProofs only[vQ]
  refine F7 (by kernel_rfl) ?_
  simp -implicitDefEqProofs only[vQ,jZ,jY,zA,jV,ABA,N7,JY,BF,MV,↓reduceIte,jA,jL,enP,PO,JU,MX,OZ,f1,f2,f5,f6,l22 hxH,EQ hiv,hbH.ix (show i < a.length from hi'),ln,la,A3V,A3S,ha,wrap_succ (show i < 9223372036854775807 by omega)]
  exact⟨n - 1,by omega,i+1,v',by omega,by trivial,by trivial,by trivial,by trivial,hx',ho'⟩
 ·have hi' : ¬ i < a.length:=fun q=>by rw[decide_eq_true q] at hc; cases hc
  rw[zF (by omega)] at ho
  simp -implicitDefEqProofs only[vQ,jZ,jY,zA,jV,BF,↓reduceIte,jA,f5]
  refine⟨hx.trans hxH,?_⟩
  rcases ho with⟨a,b⟩ | ⟨a,o,b,c,d⟩
  ·exact .inl ⟨a,b⟩
  ·exact .inr ⟨a,o,wC hx.le b,c,d⟩
theorem AOU (p:Pr)(hs:PrS p)(h:Hp):ACalls (En G) 24 [.agg (D8 p)] h fun v H=>ext h H∧∃ b,h.length≤b∧v = .own b 0 p.vars.length∧isI H b (p.vars.map Vr.value):=by
 refine acN Tryz.func24 rfl ?_
 show awp _ _ _ _ _ (EE _ [.tmp 2] _)
 have ge:=CW h (ABlk.live 5 [D8 p])
 have hx:ext h (h++[ABlk.live 5 [D8 p]]):=(ext.rfl' h).app _
 have hvl:=hs.vars
 simp -implicitDefEqProofs only[vQ,BF,↓reduceIte,jA,enP,JU,TP]
 have hge:h.length < (h++[ABlk.live 5 [D8 p]]).length:=by simp
 generalize h++[ABlk.live 5 [D8 p]]=H0 at ge hx hge ⊢
 simp -implicitDefEqProofs only[vQ,BF,O7,↓reduceIte,jA,enP,QI,JU,AOH ge,jM,AWD H0 p.vars.length hvl]
 have qa:isI (H0++[ABlk.live 1 ((jJ p.vars.length (0:Int)).map qencI)]) H0.length (jJ p.vars.length 0):=CW _ _
 have ge:=BQ (x:=ABlk.live 1 ((jJ p.vars.length (0:Int)).map qencI)) ge
 have hx:=hx.app [ABlk.live 1 ((jJ p.vars.length (0:Int)).map qencI)]
 generalize H0++[ABlk.live 1 ((jJ p.vars.length (0:Int)).map qencI)]=X at qa ge hx ⊢
 generalize H0.length=ob at qa hge ⊢
 simp -implicitDefEqProofs only[vQ,BF,↓reduceIte,enP,QI,AOH ge,jM]
 refine DY (fun n F H => ∃ i,n+i=p.vars.length∧isI H ob ((p.vars.map Vr.value).take i++jJ (p.vars.length - i) 0)∧ext h H∧F 3 = .own ob 0 p.vars.length∧F 11 = .sl p.vm 4 (p.vars.map EZ)∧F 12 = .int .i64 (p.vars.length:Nat)∧F 13 = .int .i64 (i:Nat)) p.vars.length
  ⟨0,rfl,by rw[qH,List.nil_append]; exact qa,hx,by simp -implicitDefEqProofs only[AA,↓reduceIte,jA],by simp -implicitDefEqProofs only[AA,↓reduceIte,jA],by simp -implicitDefEqProofs only[AA,↓reduceIte,jA],by simp -implicitDefEqProofs only[AA,↓reduceIte]; rfl⟩ ?_
 rintro n F H ⟨i,hn,qa,hx,f3,f11,f12,f13⟩
 have ec:decide (((i:Nat):Int) < (p.vars.length:Nat))=decide (i < p.vars.length):=by rw[decide_eq_decide]; omega
 simp -implicitDefEqProofs only[vQ,BF,↓reduceIte,enP,f12,f13,ec]
 refine CX (fun hc => ?_) (fun hc => ?_)
 ·have hi:i < p.vars.length:=by simpa using hc
  have him:i < (p.vars.map Vr.value).length:=by rw[jM]; exact hi
  have qv:=CW H (ABlk.live 4 [EZ p.vars[i]])
  have qa:isI (H++[ABlk.live 4 [EZ p.vars[i]]]) ob ((p.vars.map Vr.value).take i++jJ (p.vars.length - i) 0):=BQ qa
  have hx:=hx.app [ABlk.live 4 [EZ p.vars[i]]]
  have hlt:((p.vars.map Vr.value).take i).length=i:=by rw[zN]; omega
  have hst:=qa.st (i:=i) (by simp; omega) p.vars[i].value
  have hset:((p.vars.map Vr.value).take i++jJ (p.vars.length - i) 0).set i p.vars[i].value=(p.vars.map Vr.value).take (i+1)++jJ (p.vars.length - (i+1)) 0:=by
   rw[List.set_append_right _ _ (by omega),hlt,Nat.sub_self,show p.vars.length - i=(p.vars.length - (i+1))+1 by omega,List.replicate_succ,List.set_cons_zero,qE him,List.getElem_map,zJ]
   rfl
  rw[hset] at hst
  have l3:DC Tryz.prog (H++[ABlk.live 4 [EZ p.vars[i]]]) 3 (.ptr H.length 0 3)=some (.int .i64 p.vars[i].value):=by rw[DF ag3 qv rfl]; rfl
  have hol:=CE qa
  simp -implicitDefEqProofs only[vQ,BF,↓reduceIte,jA,enP,PO,U1,jK,f11,f13,EQ hi,ldV hi,Bd.al61,Bd.st61]
  simp -implicitDefEqProofs only[vQ,BF,↓reduceIte,jA,enP,MX,jK,f3,f13,l3,qa.ix hi,hst,wrap_succ (show i < 9223372036854775807 by omega)]
  exact⟨n - 1,by omega,i+1,by omega,D7 qa,hx.set (by omega) _,by trivial,by trivial,by trivial,by trivial⟩
 ·have hc' : ¬ i < p.vars.length:=fun q=>by rw[decide_eq_true q] at hc; cases hc
  rw[zF (by rw[jM]; omega),show p.vars.length - i=0 by omega,List.replicate_zero,jD] at qa
  simp -implicitDefEqProofs only[vQ,BF,↓reduceIte,jA,f3]
  exact⟨hx,ob,by omega,by trivial,qa⟩
structure K1 (b:Nat) (H H':Hp):Prop where
 len:H.length≤H'.length
 keep : ∀ (k:Nat) (y:ABlk),H[k]? = some y→k≠b→H'[k]? = some y
theorem A20 : ∀ w:Nat,w≤8→IW Tryz.prog 3 .shl (.int .i64 1) (.int .i64 (w:Nat))=some (.int .i64 (2 ^ w))
 | 0,_=>by kernel_rfl
 | 1,_=>by kernel_rfl
 | 2,_=>by kernel_rfl
 | 3,_=>by kernel_rfl
 | 4,_=>by kernel_rfl
 | 5,_=>by kernel_rfl
 | 6,_=>by kernel_rfl
 | 7,_=>by kernel_rfl
 | 8,_=>by kernel_rfl
 | n+9,h=>absurd h (by omega)
set_option maxHeartbeats 2000000 in
theorem AQK (p:Pr)(hs:PrS p)(P:PV p)(a:List Int)(ok:AOk p a)(b:Nat)(h:Hp)(hb:isI h b a):ACalls (En G) 25 [.agg (D8 p),.own b 0 a.length] h fun v H=>K1 b h H∧match nxK p.vars p.vars.length a with
  | some a'=>v = .bool true∧isI H b a'
  | none=>v = .bool false:=by
 generalize hO:nxK p.vars p.vars.length a=O
 have hvl:=hs.vars
 refine acN Tryz.func25 rfl ?_
 show awp _ _ _ _ _ (EE _ [.tmp 4] _)
 have ge:=CW h (ABlk.live 5 [D8 p])
 have hb0:isI (h++[ABlk.live 5 [D8 p]]) b a:=BQ hb
 have hbl:=CE hb
 have k0:K1 b h (h++[ABlk.live 5 [D8 p]]):=⟨by simp,fun k y q _=>BQ q⟩
 simp -implicitDefEqProofs only[vQ,BF,↓reduceIte,jA,enP,QZ,TP]
 generalize h++[ABlk.live 5 [D8 p]]=H0 at ge hb0 k0 ⊢
 have hal:a.length=p.vars.length:=ok.len
 have z1:IntKind.i64.wrap (((a.length:Nat):Int) - 1)=((a.length:Nat):Int) - 1:=wrap_i64 (by omega) (by omega)
 simp -implicitDefEqProofs only[z1]
 refine GZ 0 (fun F H=>K1 b h H∧O=none) (fun F H=>K1 b h H∧∃ a',O=some a'∧F 4 = .bool true∧isI H b a') ?_ ?_ ?_
 ·refine DY (fun n F H => ∃ k c,n=k∧k≤p.vars.length∧AOk p c∧nxK p.vars k c=O∧K1 b h H∧isI H b c∧H[h.length]? = some (.live 5 [D8 p])∧F 1 = .own b 0 a.length∧F 2 = .ptr h.length 0 0∧F 5 = .int .i64 (((k:Nat):Int) - 1)) p.vars.length
   ⟨p.vars.length,a,rfl,jO _,ok,hO,k0,hb0,ge,by simp -implicitDefEqProofs only[vQ,↓reduceIte,jA],by simp -implicitDefEqProofs only[AA,↓reduceIte,jA],by simp -implicitDefEqProofs only[AA,↓reduceIte]; rw[hal]⟩ ?_
  clear k0 hb0 ge
  rintro n F H ⟨k,c,rfl,hkn,okc,hS,k1,qb,ge,f1,f2,f5⟩
  have ec:decide (((n:Nat):Int) - 1≥0)=decide (1≤n):=by rw[decide_eq_decide]; omega
  simp -implicitDefEqProofs only[vQ,BF,↓reduceIte,enP,f5,ec]
  refine CX (fun hc => ?_) (fun hc => ?_)
  ·have h1:1≤n:=by simpa using hc
   obtain⟨i,rfl⟩ : ∃ i,n=i+1:=⟨n - 1,by omega⟩
   have hi:i < p.vars.length:=by omega
   have hic:i < c.length:=by rw[okc.len]; exact hi
   have hia:i < a.length:=by omega
   have ei:((((i+1:Nat):Int)) - 1)=((i:Nat):Int):=by omega
   rw[ei] at f5
   unfold nxK at hS
   simp only[jP hi] at hS
   obtain⟨_,w1,w8,_⟩:=TC (P.vr _ (jX hi))
   have lm:DC Tryz.prog H 3 (.fptr 4 (p.vars.map EZ) i 2)=some (.int .i64 p.vars[i].mode):=by rw[FH ag3 hi]; rfl
   have zi:IntKind.i64.wrap (((i:Nat):Int) - 1)=((i:Nat):Int) - 1:=wrap_i64 (by omega) (by omega)
   simp -implicitDefEqProofs only[vQ,BF,↓reduceIte,jA,enP,PO,JU,MG,f2,f5,AOH ge,EQ hi,lm]
   refine CX (fun hm => ?_) (fun hm => ?_)
   ·have hm:p.vars[i].mode=0:=by simpa using hm
    rw[if_pos hm] at hS
    simp -implicitDefEqProofs only[vQ,BF,↓reduceIte,jA,enP,f5,zi]
    exact⟨i,by omega,i,c,rfl,by omega,okc,hS,k1,qb,ge,by trivial,by trivial,by trivial⟩
   ·have hm : ¬ p.vars[i].mode=0:=by simpa using hm
    rw[if_neg hm] at hS
    obtain⟨q0,q1⟩:=okc.rn i hi hm
    obtain⟨r0,r1⟩:=okc.rng P i hi
    have hgl:H.length≠0:=by have:=CE ge; omega
    have zz:IntKind.i64.wrap (c.getD i 0+1)=c.getD i 0+1:=wrap_i64 (by omega) (by omega)
    have qb1:=qb.st (i:=i) hic (c.getD i 0+1)
    have qbs:isI (H.set b (.live 1 ((c.set i (c.getD i 0+1)).map qencI))) b (c.set i (c.getD i 0+1)):=D7 qb
    have ge1:(H.set b (.live 1 ((c.set i (c.getD i 0+1)).map qencI)))[h.length]? = some (.live 5 [D8 p]):=by rw[jS (by omega)]; exact ge
    have k2:K1 b h (H.set b (.live 1 ((c.set i (c.getD i 0+1)).map qencI))):=⟨by rw[zV]; exact k1.len,fun k y q hne=>by rw[jS (Ne.symm hne)]; exact k1.keep k y q hne⟩
    obtain⟨w,hw⟩:=qB (show 0≤p.vars[i].width by omega)
    have lw : ∀ H:Hp,DC Tryz.prog H 3 (.fptr 4 (p.vars.map EZ) i 1)=some (.int .i64 (w:Nat)):=fun H=>by rw[FH ag3 hi]; show some (AV.int .i64 p.vars[i].width)=_; rw[hw]
    rw[hw,qA] at hS q1
    simp -implicitDefEqProofs only[vQ,BF,↓reduceIte,jA,enP,MX,jK,f1,f5,qb.ix hia,qb.ld hic,zz,qb1]
    generalize H.set b (.live 1 ((c.set i (c.getD i 0+1)).map qencI))=H1 at qbs ge1 k2 ⊢
    have hic1:i < (c.set i (c.getD i 0+1)).length:=by rw[zV]; exact hic
    have ld1:=qbs.ld (i:=i) hic1
    rw[MC hic] at ld1
    refine F7 (by kernel_rfl) ?_
    simp -implicitDefEqProofs only[vQ,↓reduceIte,jA,jL,enP,PO,JU,MX,KY,f1,f2,f5,qbs.ix hia,ld1,AOH ge1,EQ hi,lw,A20 w (by omega)]
    refine CX (fun hd => ?_) (fun hd => ?_)
    ·have hd:c.getD i 0+1 < 2 ^ w:=by simpa using hd
     rw[if_pos hd] at hS
     simp -implicitDefEqProofs only[vQ,BF,↓reduceIte]
     exact⟨k2,_,hS.symm,by trivial,qbs⟩
    ·have hd : ¬ c.getD i 0+1 < 2 ^ w:=fun q=>by rw[decide_eq_true q] at hd; cases hd
     rw[if_neg hd] at hS
     have qb2:=qbs.st (i:=i) hic1 0
     rw[List.set_set] at qb2
     have qbz:isI (H1.set b (.live 1 ((c.set i 0).map qencI))) b (c.set i 0):=D7 qbs
     have hp0:(0:Int) < 2 ^ p.vars[i].width.toNat:=Int.pow_pos (by decide)
     have setok:AOk p (c.set i 0):=by
      refine⟨by rw[zV]; exact okc.len,fun j hj hmj => ?_,fun j hj hmj => ?_⟩
      ·by_cases e:j=i
       ·subst e; exact absurd hmj hm
       ·rw[getD_set_ne (fun q=>e q.symm)]; exact okc.st j hj hmj
      ·by_cases e:j=i
       ·subst e; rw[MC hic]; exact⟨Int.le_refl 0,hp0⟩
       ·rw[getD_set_ne (fun q=>e q.symm)]; exact okc.rn j hj hmj
     simp -implicitDefEqProofs only[vQ,BF,↓reduceIte,jA,enP,MX,jK,f1,f5,qbs.ix hia,qb2,zi]
     exact⟨i,by omega,i,c.set i 0,rfl,by omega,setok,hS,⟨by rw[zV]; exact k2.len,fun k y q hne=>by rw[jS (Ne.symm hne)]; exact k2.keep k y q hne⟩,qbz,by rw[jS (by omega)]; exact ge1,by trivial,by trivial,by trivial⟩
  ·have h1 : ¬ 1≤n:=fun q=>by rw[decide_eq_true q] at hc; cases hc
   obtain rfl:n=0:=by omega
   have hS:none=O:=hS
   simp -implicitDefEqProofs only[vQ,↓reduceIte]
   exact⟨k1,hS.symm⟩
 ·rintro F H ⟨k1,ho⟩
  simp -implicitDefEqProofs only[vQ,BF,↓reduceIte]
  refine⟨k1,?_⟩
  rw[ho]
  first | exact trivial | rfl
 ·rintro F H ⟨k1,a',ho,f4,q⟩
  simp -implicitDefEqProofs only[vQ,f4]
  refine⟨k1,?_⟩
  rw[ho]
  exact⟨by first | exact trivial | rfl,q⟩
end
theorem ASA (x:Nat):(((x % 2:Nat):Int) == 1)=(x % 2 == 1):=by
 have:x % 2=0∨x % 2=1:=by omega
 rcases this with q | q <;> rw[q] <;> rfl
theorem ANA (vs:List Vr)(hw : ∀ x,wd vs x≤8)(a:List Int) : ∀ xs:List Int,(bsL vs a xs).length≤8 * xs.length
 | []=>by simp [bsL]
 | x :: xs=>by
   have ih:=ANA vs hw a xs
   have:=hw x
   unfold bsL at ih ⊢
   rw[List.flatMap_cons,zQ,QF,zS]
   omega
theorem PV.w8 {p:Pr}(h:PV p)(x:Int):Bl.wd p.vars x≤8:=by
 unfold Bl.wd
 split
 ·rename_i v hv
  exact(TC (h.vr v (List.mem_of_getElem? hv))).2.2.1
 ·decide
theorem AN3 {w j:Nat}(z:Int)(h:j < w):(rowB w z).take (j+1)=(rowB w z).take j++[bt z (w - 1 - j)]:=by
 rw[qE (by rw[QF]; exact h)]
 congr 2
 have:=AMF z h
 rw[jP (by rw[QF]; exact h)] at this
 exact Option.some.inj this
section
variable (G:Nat→AV)
set_option maxHeartbeats 4000000 in
theorem bits_ref (p:Pr)(hs:PrS p)(P:PV p)(a:List Int)(ok:AOk p a)(b:Nat)(h:Hp)(hb:isI h b a):PCall (En G) 28 [.agg (D8 p),.own b 0 a.length] h (.sl (Cov.nm (bsL p.vars a (flG p.groups))) 1 ((bsL p.vars a (flG p.groups)).map NC)):=by
 refine VK A0K ?_
 refine acN Tryz.func28 rfl ?_
 show awp _ _ _ _ _ (EE _ [.tmp 4] _)
 have hmem:=hs.members
 have hgl:=hs.groups
 have hal:a.length=p.vars.length:=ok.len
 have ge:=CW h (ABlk.live 5 [D8 p])
 have hb0:isI (h++[ABlk.live 5 [D8 p]]) b a:=BQ hb
 have hx:ext h (h++[ABlk.live 5 [D8 p]]):=(ext.rfl' h).app _
 simp -implicitDefEqProofs only[vQ,BF,enP,TP]
 generalize h++[ABlk.live 5 [D8 p]]=H0 at ge hb0 hx ⊢
 generalize hpb:h.length=pb at ge ⊢
 have lG : ∀ {H:Hp},Sm.ext H0 H→DC Tryz.prog H 25 (.ptr pb 0 4)=some (.sl p.gm 1 (p.groups.map MP)):=fun q=>A3B (FC q ge)
 have lV : ∀ {H:Hp},Sm.ext H0 H→DC Tryz.prog H 22 (.ptr pb 0 0)=some (.sl p.vm 4 (p.vars.map EZ)):=fun q=>AOH (FC q ge)
 refine GZ 0 (fun F H => ∃ u,F 5=u∧ext H0 H∧outG 1 NC H0 (bsL p.vars a (flG p.groups)) u H) (fun _ _=>False) ?_ ?_ (fun _ _ q=>q.elim)
 ·refine DY (fun n F H => ∃ i u,n+i=p.groups.length∧F 1 = .own b 0 a.length∧F 2 = .ptr pb 0 0∧F 5=u∧F 6 = .int .i64 (i:Nat)∧ext H0 H∧outG 1 NC H0 (bsL p.vars a (flG (p.groups.take i))) u H) p.groups.length
   ⟨0,.sl .nil 0 [],by simp,by simp -implicitDefEqProofs only[vQ,↓reduceIte,jA],by simp -implicitDefEqProofs only[AA,↓reduceIte,jA],by simp -implicitDefEqProofs only[AA,↓reduceIte,jA],by simp -implicitDefEqProofs only[AA,↓reduceIte]; rfl,ext.rfl' _,outG.nil _ _ _ _⟩ ?_
  rintro n F H ⟨i,u,hn,f1,f2,f5,f6,hxH,ho⟩
  have ec:decide (((i:Nat):Int) < (p.groups.length:Nat))=decide (i < p.groups.length):=by rw[decide_eq_decide]; omega
  simp -implicitDefEqProofs only[vQ,BF,↓reduceIte,jA,enP,AUM,ZU,f2,f6,lG hxH,jM,ec]
  refine CX (fun hc => ?_) (fun hc => ?_)
  ·have hi:i < p.groups.length:=by simpa using hc
   have lg : ∀ H:Hp,DC Tryz.prog H 29 (.fptr 1 (p.groups.map MP) i 0)=some (.sl p.groups[i].m 1 (p.groups[i].l.map qencI)):=fun H=>by rw[FH AO8 hi]; rfl
   simp -implicitDefEqProofs only[vQ,BF]
   refine GZ 2 (fun F H => ∃ u,F 1 = .own b 0 a.length∧F 2 = .ptr pb 0 0∧F 5=u∧F 6 = .int .i64 (i:Nat)∧ext H0 H∧outG 1 NC H0 (bsL p.vars a (flG (p.groups.take (i+1)))) u H) (fun _ _=>False) ?_ ?_ (fun _ _ q=>q.elim)
   ·refine DY (fun m F H => ∃ j u,m+j=p.groups[i].l.length∧F 1 = .own b 0 a.length∧F 2 = .ptr pb 0 0∧F 5=u∧F 6 = .int .i64 (i:Nat)∧F 7 = .int .i64 (j:Nat)∧ext H0 H∧outG 1 NC H0 (bsL p.vars a (flG (p.groups.take i)++p.groups[i].l.take j)) u H) p.groups[i].l.length
     ⟨0,u,rfl,by simp -implicitDefEqProofs only[AA,↓reduceIte,jA]; exact f1,by simp -implicitDefEqProofs only[AA,↓reduceIte,jA]; exact f2,by simp -implicitDefEqProofs only[AA,↓reduceIte,jA]; exact f5,by simp -implicitDefEqProofs only[AA,↓reduceIte,jA]; exact f6,by simp -implicitDefEqProofs only[AA,↓reduceIte]; rfl,hxH,by rw[qH,jD]; exact ho⟩ ?_
    clear f1 f2 f5 f6 ho hxH
    rintro m F H ⟨j,u,hm,f1,f2,f5,f6,f7,hxH,ho⟩
    have ec2:decide (((j:Nat):Int) < (p.groups[i].l.length:Nat))=decide (j < p.groups[i].l.length):=by rw[decide_eq_decide]; omega
    simp -implicitDefEqProofs only[vQ,BF,↓reduceIte,jA,enP,AKE,ZU,QZ,f2,f6,f7,lG hxH,EQ hi,lg,jM,ec2]
    refine CX (fun hc => ?_) (fun hc => ?_)
    ·have hj:j < p.groups[i].l.length:=by simpa using hc
     obtain⟨k,hk,ek⟩:=P.member hi hj
     have hsp:=SL hi hj
     have hap:(flG (p.groups.take i)++p.groups[i].l.take j)++[((k:Nat):Int)]=flG (p.groups.take i)++p.groups[i].l.take (j+1):=by
      rw[qE hj,ek,zJ]
     have hxl:(flG (p.groups.take i)++p.groups[i].l.take j).length < 1048576:=by
      have:=congrArg List.length hsp
      simp only[zQ,zS] at this ⊢
      omega
     generalize flG (p.groups.take i)++p.groups[i].l.take j=xs at ho hap hxl
     have hbl:=ANA p.vars P.w8 a xs
     have eB:=ANB p.vars a xs (k:Nat)
     rw[hap,qA] at eB
     obtain⟨_,w1,w8,_⟩:=TC (P.vr _ (jX hk))
     obtain⟨w,hw⟩:=qB (show 0≤p.vars[k].width by omega)
     have ewd:(wd p.vars ((k:Nat):Int)).toNat=w:=by rw[APL hk,hw]; rfl
     rw[ewd] at eB
     have lw : ∀ H:Hp,DC Tryz.prog H 3 (.fptr 4 (p.vars.map EZ) k 1)=some (.int .i64 (w:Nat)):=fun H=>by rw[FH ag3 hk]; show some (AV.int .i64 p.vars[k].width)=_; rw[hw]
     have l3 : ∀ H:Hp,DC Tryz.prog H 3 (.fptr 1 (p.groups[i].l.map qencI) j 0)=some (.int .i64 (k:Nat)):=fun H=>by rw[FH ag3 hj,ek]; rfl
     obtain⟨r0,r1⟩:=ok.rng P k hk
     have hka:k < a.length:=by omega
     rw[hw] at w1 w8
     have z1:IntKind.i64.wrap (((w:Nat):Int) - 1)=((w:Nat):Int) - 1:=wrap_i64 (by omega) (by omega)
     simp -implicitDefEqProofs only[vQ,BF,↓reduceIte,jA,enP,PO,AKE,JU,ZU,MX,KY,f2,f6,f7,lG hxH,lV hxH,EQ hi,lg,EQ hj,l3,EQ hk,lw,z1]
     generalize hzv:a.getD k 0=zv at r0 r1 eB
     obtain⟨z,rfl⟩:=qB r0
     refine GZ 4 (fun F H => ∃ u,F 1 = .own b 0 a.length∧F 2 = .ptr pb 0 0∧F 5=u∧F 6 = .int .i64 (i:Nat)∧F 7 = .int .i64 (j:Nat)∧ext H0 H∧outG 1 NC H0 (bsL p.vars a xs++rowB w (z:Nat)) u H) (fun _ _=>False) ?_ ?_ (fun _ _ q=>q.elim)
     ·refine DY (fun q F H => ∃ t u,q+t=w∧F 1 = .own b 0 a.length∧F 2 = .ptr pb 0 0∧F 5=u∧F 6 = .int .i64 (i:Nat)∧F 7 = .int .i64 (j:Nat)∧F 8 = .int .i64 (k:Nat)∧F 9 = .int .i64 (((w:Nat):Int) - 1 - (t:Nat))∧ext H0 H∧outG 1 NC H0 (bsL p.vars a xs++(rowB w (z:Nat)).take t) u H) w
       ⟨0,u,rfl,by simp -implicitDefEqProofs only[AA,↓reduceIte,jA]; exact f1,by simp -implicitDefEqProofs only[AA,↓reduceIte,jA]; exact f2,by simp -implicitDefEqProofs only[AA,↓reduceIte,jA]; exact f5,by simp -implicitDefEqProofs only[AA,↓reduceIte,jA]; exact f6,by simp -implicitDefEqProofs only[AA,↓reduceIte,jA]; exact f7,by simp -implicitDefEqProofs only[AA,↓reduceIte,jA],by simp -implicitDefEqProofs only[AA,↓reduceIte]; rw[show(((0:Nat):Int))=0 from rfl,Int.sub_zero],hxH,by rw[qH,jD]; exact ho⟩ ?_
      clear f1 f2 f5 f6 f7 ho hxH
      rintro q F H ⟨t,u,hq,f1,f2,f5,f6,f7,f8,f9,hxH,ho⟩
      have ec3:decide (((w:Nat):Int) - 1 - (t:Nat)≥0)=decide (t < w):=by rw[decide_eq_decide]; omega
      simp -implicitDefEqProofs only[vQ,BF,↓reduceIte,enP,f9,ec3]
      refine CX (fun hc => ?_) (fun hc => ?_)
      ·have ht:t < w:=by simpa using hc
       have e9:((w:Nat):Int) - 1 - (t:Nat)=((w - 1 - t:Nat):Int):=by omega
       rw[e9] at f9
       have hbH:isI H b a:=FC hxH hb0
       have la:=hbH.ld hka
       rw[hzv] at la
       have hlen:(bsL p.vars a xs++(rowB w (z:Nat)).take t).length < 8388608+16:=by
        rw[zQ,zN,QF]; omega
       obtain⟨v',H',ha,ho',_,hx',_,_⟩:=ho.append (P:=Tryz.prog) AZC (by kernel_rfl) AYY A05 (by omega) (by rw[zQ,zN,QF]; omega) hxH (bt (z:Nat) (w - 1 - t))
       rw[zJ,← AN3 _ ht] at ho'
       have hlt:z / 2 ^ (w - 1 - t) < 4294967296:=Nat.lt_of_le_of_lt (Nat.div_le_self _ _) (by omega)
       have ebt:(((z / 2 ^ (w - 1 - t) % 2:Nat):Int) == 1)=bt (z:Nat) (w - 1 - t):=by rw[ASA]; rfl
       have zn:IntKind.i64.wrap (((w - 1 - t:Nat):Int) - 1)=((w:Nat):Int) - 1 - ((t+1:Nat):Int):=by rw[wrap_i64 (by omega) (by omega)]; omega
       have ha':IJ Tryz.prog true H 55 55 u (.sl .full 1 [NC (bt (z:Nat) (w - 1 - t))])=some (v',H'):=ha
       simp -implicitDefEqProofs only[vQ,BF,MV,↓reduceIte,jA,enP,MX,f1,f5,f8,f9,hbH.ix hka,la,AP0 z (w - 1 - t) (by omega),and1 _ hlt,ebt,A1E,ha',zn]
       exact⟨q - 1,by omega,t+1,v',by omega,by trivial,by trivial,by trivial,by trivial,by trivial,by trivial,by trivial,hx',ho'⟩
      ·have ht : ¬ t < w:=fun q=>by rw[decide_eq_true q] at hc; cases hc
       rw[zF (by rw[QF]; omega)] at ho
       simp -implicitDefEqProofs only[vQ,↓reduceIte,jA]
       exact⟨u,f1,f2,f5,f6,f7,hxH,ho⟩
     ·clear f1 f2 f5 f6 f7 ho hxH
      rintro F H ⟨u,f1,f2,f5,f6,f7,hxH,ho⟩
      rw[← eB] at ho
      simp -implicitDefEqProofs only[vQ,BF,↓reduceIte,jA,enP,f7,wrap_succ (show j < 9223372036854775807 by have:=congrArg List.length hsp; simp only[zQ,zS,zN,List.length_drop] at this; omega)]
      exact⟨m - 1,by omega,j+1,u,by omega,by trivial,by trivial,by trivial,by trivial,by trivial,hxH,ho⟩
    ·have hc' : ¬ j < p.groups[i].l.length:=fun q=>by rw[decide_eq_true q] at hc; cases hc
     have tk:p.groups[i].l.take j=p.groups[i].l:=zF (by omega)
     rw[tk,← YY hi] at ho
     simp -implicitDefEqProofs only[vQ,↓reduceIte,jA]
     exact⟨u,f1,f2,f5,f6,hxH,ho⟩
   ·clear f1 f2 f5 f6 ho hxH
    rintro F H ⟨u,f1,f2,f5,f6,hxH,ho⟩
    simp -implicitDefEqProofs only[vQ,BF,↓reduceIte,jA,enP,f6,wrap_succ (show i < 9223372036854775807 by omega)]
    exact⟨n - 1,by omega,i+1,u,by omega,by trivial,by trivial,by trivial,by trivial,hxH,ho⟩
  ·have hc' : ¬ i < p.groups.length:=fun q=>by rw[decide_eq_true q] at hc; cases hc
   rw[zF (by omega)] at ho
   simp -implicitDefEqProofs only[vQ,↓reduceIte,jA]
   exact⟨u,f5,hxH,ho⟩
 ·rintro F H ⟨u,f5,hxH,ho⟩
  simp -implicitDefEqProofs only[vQ,BF,↓reduceIte,f5]
  refine⟨hx.trans hxH,?_⟩
  rcases ho with⟨a,b⟩ | ⟨a,o,b,c,d⟩
  ·exact .inl ⟨a,b⟩
  ·exact .inr ⟨a,o,wC hx.le b,c,d⟩
end
theorem ne4 : ∀ a b:Bool,IW Tryz.prog 4 .neq (.bool a) (.bool b)=some (.bool (a != b))
 | true,true=>by kernel_rfl
 | true,false=>by kernel_rfl
 | false,true=>by kernel_rfl
 | false,false=>by kernel_rfl
theorem AY7 {w:Wrd}{k:Nat}(h:k < (wI w).length):(wI w)[k]=(w.getD k 0:Nat):=by
 have hk:k < w.length:=by rw[AFN] at h; exact h
 have e:(wI w)[k]? = some ((w.getD k 0:Nat):Int):=by unfold wI; rw[zG,jP hk,getD_at hk]; rfl
 rw[jP h] at e
 exact Option.some.inj e
theorem known {p:Pr}{e:Ex}(he:EOk p e){a:List Int}(hl:a.length=p.vars.length):(pre e).all (knE (RV p.vars a))=true:=by
 rw[List.all_eq_true]
 intro x hx
 have n:=he x hx
 unfold knE
 by_cases h2:x.op=2
 ·rw[if_pos h2]
  obtain⟨i,hi⟩:=n.vr h2
  rw[ACS p.vars a x.name i (by have:=AGD hi; omega) hl hi]
 ·rw[if_neg h2,if_neg (by have:=n.na; omega)]
theorem AYC {p:Pr}(P:PV p){a:List Int}(ok:AOk p a) : ∀ s∈RV p.vars a,ALT s:=by
 intro s hs
 obtain⟨i,hi,rfl⟩:=List.getElem_of_mem hs
 have hl:=ok.len
 have hi':i < p.vars.length:=by rw[AC0 hl] at hi; exact hi
 rw[AM3 hi' (by omega) hi]
 have:=ok.rng P i hi'
 have ea:a[i]'(by omega)=a.getD i 0:=by rw[zB,jP (by omega)]; rfl
 unfold ALT
 simp only
 rw[ea]
 omega
theorem ARJ {p:Pr}(P:PV p):AOk p (p.vars.map Vr.value):=by
 refine⟨by simp,fun i hi hm => ?_,fun i hi hm => ?_⟩
 ·rw[zB,zG,jP hi]; rfl
 ·rw[zB,zG,jP hi]
  obtain⟨_,w1,w8,_,_,v0,v1,_⟩:=TC (P.vr _ (jX hi))
  exact⟨v0,v1⟩
theorem AMD (v k:Nat):(((v / 2 ^ k % 2:Nat):Int) == 1)=v.testBit k:=by
 rw[ASA,Nat.testBit_eq_decide_div_mod_eq,Bool.eq_iff_iff]; simp
structure Fx (h:Hp) (p:Pr) (e:Ex) (b5 b8:Nat) (m5:SM) (l5:Dg) (x8:AV) (H:Hp):Prop where
 x:ext h H
 p:H[h.length]? = some (.live 5 [D8 p])
 e:H[h.length+1]? = some (.live 4 [D6 e])
 c:H[b5]? = some (.live 1 [[.sl m5 3 (l5.map D5)]])
 d:H[b8]? = some (.live 1 [[x8]])
theorem Fx.k1 {h:Hp}{p:Pr}{e:Ex}{b5 b8:Nat}{m5:SM}{l5:Dg}{x8:AV}{H H':Hp}(f:Fx h p e b5 b8 m5 l5 x8 H){ab:Nat}(k:K1 ab H H')(h0:h.length+1 < ab)(h5:b5≠ab)(h8:b8≠ab):Fx h p e b5 b8 m5 l5 x8 H' :=
 ⟨ACY (fun i y q=>k.keep i y (FC f.x q) (by have:=CE q; omega)) (wC f.x.le k.len),k.keep _ _ f.p (by omega),k.keep _ _ f.e (by omega),k.keep _ _ f.c h5,k.keep _ _ f.d h8⟩
theorem Fx.ext {h:Hp}{p:Pr}{e:Ex}{b5 b8:Nat}{m5:SM}{l5:Dg}{x8:AV}{H H':Hp}(f:Fx h p e b5 b8 m5 l5 x8 H)(k:Sm.ext H H'):Fx h p e b5 b8 m5 l5 x8 H' :=
 ⟨f.x.trans k,FC k f.p,FC k f.e,FC k f.c,FC k f.d⟩
section
variable (G:Nat→AV)
set_option maxHeartbeats 8000000 in
theorem AXW (hG:GOk G)(p:Pr)(hs:PrS p)(e:Ex)(hw:wt e≤1048576)(h:Hp):PCall (En G) 7 [.agg (D8 p),.agg (D6 e)] h (.bool true):=by
 refine ACalls.pure0 rfl ?_
 refine acN Tryz.func7 rfl ?_
 show awp _ _ _ _ _ (EE _ [.tmp 4] _)
 simp -implicitDefEqProofs only[vQ,BF,↓reduceIte,jA,enP,TP,bxE]
 generalize hX:h++[ABlk.live 5 [D8 p]]++[ABlk.live 4 [D6 e]]=X
 have hx:Sm.ext h X:=by rw[← hX]; exact((ext.rfl' h).app _).app _
 have q2:X[h.length]? = some (.live 5 [D8 p]):=by rw[← hX]; exact BQ (CW _ _)
 have q3:X[h.length+1]? = some (.live 4 [D6 e]):=by rw[← hX]; exact GM (by simp)
 have e1:(h++[ABlk.live 5 [D8 p]]).length=h.length+1:=by simp
 have lX:X.length=h.length+2:=by rw[← hX]; simp
 rw[e1]
 clear hX
 simp -implicitDefEqProofs only[vQ,BF,↓reduceIte,jA,enP,AA1 q2,IU q3,ZF]
 refine(show QCall (En G) 14 [.agg (D8 p),.agg (D6 e),.agg [.sl .nil 0 []]] X (fun v => ∃ b,v = .bool b) from ANW G p hs e hw isD.nil X).use ?_
 rintro v ⟨b,rfl⟩
 cases b
 ·simp -implicitDefEqProofs only[vQ,CP,BF,EN,↓reduceIte,jA]
  refine(VV G hG X).use ?_
  simp -implicitDefEqProofs only[vQ,BF,↓reduceIte]
  exact⟨by trivial,hx⟩
 simp -implicitDefEqProofs only[vQ,CP,BF,↓reduceIte,jA,jT,enP,AA1 q2]
 refine(AEH G p hs X).use ?_
 simp -implicitDefEqProofs only[vQ,CP,BF,↓reduceIte,jA,enP]
 refine CX (fun hc => ?_) (fun hc => ?_)
 ·simp -implicitDefEqProofs only[vQ,BF]
  refine(VV G hG X).use ?_
  simp -implicitDefEqProofs only[vQ,BF,↓reduceIte]
  exact⟨by trivial,hx⟩
 have hv0:O8 p=0:=by simpa using hc
 have P:=PV.of hv0
 simp -implicitDefEqProofs only[vQ]
 have hWd:=fun H=>APA G hG (dg0.map Nd.raw) .full (by decide) p hs e hw H
 have hWd : ∀ H,QCall (En G) 20 [dgA .full dg0,.agg (D8 p),.agg (D6 e)] H (WordQ (dg0.map Nd.raw) p e):=fun H=>by have:=hWd H; rw[AM6] at this; exact this
 have q2':=BQ (x:=ABlk.live 1 [[.sl .nil 0 []]]) q2
 have q3':=BQ (x:=ABlk.live 1 [[.sl .nil 0 []]]) q3
 refine TU (fun F' H'=>F' 2 = .ptr h.length 0 0∧F' 3 = .ptr (h.length+1) 0 0∧∃ m k xs wm wk ws,∃ z:Int,WordQ (dg0.map Nd.raw) p e (.tup [.agg [.sl m k xs],.sl wm wk ws,.int .i64 z])∧H'=X++[.live 1 [[.sl m k xs]]]∧F' 5 = .ptr X.length 0 0∧F' 6 = .sl wm wk ws∧F' 7 = .int .i64 z) (fun _ _=>False) ?_ ?_ (fun _ _ q=>q.elim)
 ·refine GL (.alt 0 (.ones [1,2] (.alt 3 (.ones [4,5,6,7,8,9,10,11] .done) (.alt 8 (.alt 3 (.ones [4,5,6,7,9,10,11] .done) (.non)) (.non)))) (.alt 1 (.alt 0 (.ones [2] (.alt 3 (.ones [4,5,6,7,8,9,10,11] .done) (.alt 8 (.alt 3 (.ones [4,5,6,7,9,10,11] .done) (.non)) (.non)))) (.alt 2 (.alt 0 (.alt 3 (.ones [4,5,6,7,8,9,10,11] .done) (.alt 8 (.alt 3 (.ones [4,5,6,7,9,10,11] .done) (.non)) (.non))) (.alt 8 (.alt 0 (.alt 3 (.ones [4,5,6,7,9,10,11] .done) (.non)) (.non)) (.non))) (.alt 8 (.alt 0 (.ones [2] (.alt 3 (.ones [4,5,6,7,9,10,11] .done) (.non))) (.alt 2 (.alt 0 (.alt 3 (.ones [4,5,6,7,9,10,11] .done) (.non)) (.non)) (.non))) (.non)))) (.alt 2 (.alt 0 (.ones [1] (.alt 3 (.ones [4,5,6,7,8,9,10,11] .done) (.alt 8 (.alt 3 (.ones [4,5,6,7,9,10,11] .done) (.non)) (.non)))) (.alt 1 (.alt 0 (.alt 3 (.ones [4,5,6,7,8,9,10,11] .done) (.alt 8 (.alt 3 (.ones [4,5,6,7,9,10,11] .done) (.non)) (.non))) (.alt 8 (.alt 0 (.alt 3 (.ones [4,5,6,7,9,10,11] .done) (.non)) (.non)) (.non))) (.alt 8 (.alt 0 (.ones [1] (.alt 3 (.ones [4,5,6,7,9,10,11] .done) (.non))) (.alt 1 (.alt 0 (.alt 3 (.ones [4,5,6,7,9,10,11] .done) (.non)) (.non)) (.non))) (.non)))) (.alt 8 (.alt 0 (.ones [1,2] (.alt 3 (.ones [4,5,6,7,9,10,11] .done) (.non))) (.alt 1 (.alt 0 (.ones [2] (.alt 3 (.ones [4,5,6,7,9,10,11] .done) (.non))) (.alt 2 (.alt 0 (.alt 3 (.ones [4,5,6,7,9,10,11] .done) (.non)) (.non)) (.non))) (.alt 2 (.alt 0 (.ones [1] (.alt 3 (.ones [4,5,6,7,9,10,11] .done) (.non))) (.alt 1 (.alt 0 (.alt 3 (.ones [4,5,6,7,9,10,11] .done) (.non)) (.non)) (.non))) (.non)))) (.non))))) (by kernel_rfl) ?_
  simp only[DN,JV,jR,jQ]
  simp -implicitDefEqProofs only[vQ,JQ,↓reduceIte,jA,jL,enP,AA1 q2,AA1 q2',IU q3,IU q3',Q3]
  repeat' first | exact trivial | (refine(AJ7 G _).use ?_; simp -implicitDefEqProofs only[vQ,↓reduceIte,jA,jL,enP,AA1 q2,AA1 q2',IU q3,IU q3',Q3]) | (refine(hWd _).use ?_; intro v hq; obtain⟨m,k,xs,wm,wk,ws,z,rfl⟩:=hq.shape; simp -implicitDefEqProofs only[vQ,jQ,jR,ALZ,JQ,↓reduceIte,jA,jL,enP,jK,Q3,stT]; exact⟨trivial,trivial,m,k,xs,wm,wk,ws,z,hq,rfl,trivial,rfl,rfl⟩) | apply And.intro
 rintro F H0 ⟨f2,f3,m,k,xs,wm,wk,ws,z,hq,rfl,f5,f6,f7⟩
 have q5:=CW X (ABlk.live 1 [[.sl m k xs]])
 have q2:=BQ (x:=ABlk.live 1 [[.sl m k xs]]) q2
 have q3:=BQ (x:=ABlk.live 1 [[.sl m k xs]]) q3
 have hx:=hx.app [ABlk.live 1 [[.sl m k xs]]]
 have lY:(X++[ABlk.live 1 [[.sl m k xs]]]).length=h.length+3:=by simp; omega
 clear q2' q3' hWd
 generalize X++[ABlk.live 1 [[.sl m k xs]]]=Y at q2 q3 q5 hx lY ⊢
 rw[lX] at q5 f5
 clear lX
 simp -implicitDefEqProofs only[vQ,BF,↓reduceIte,enP,f7]
 refine CX (fun hz => ?_) (fun hz => ?_)
 ·have hz:z≠0:=by simpa using hz
  obtain rfl:ws = []:=by
   rcases hq with⟨hne,he⟩ | ⟨h0,l,hl,_,⟨hN,he⟩ | ⟨w,l',m',hW,he⟩⟩
   ·injection he with he
    injection he with _ he
    injection he with he _
    injection he
   ·injection he with he
    injection he with _ he
    injection he with he _
    injection he
   ·injection he with he
    injection he with _ he
    injection he with _ he
    injection he with he _
    injection he with _ he
    exact absurd he hz
  simp -implicitDefEqProofs only[vQ,CP,BF,↓reduceIte,jA,enP,QZ,f6,List.length_nil,show(((0:Nat):Int) == 0)=true from rfl]
  refine(VV G hG Y).use ?_
  simp -implicitDefEqProofs only[vQ,BF,↓reduceIte,jA]
  exact⟨by trivial,hx⟩
 have hz:z=0:=by simpa using hz
 subst hz
 obtain⟨h0,w,l',m',hW,hk',hxs,hwm,hwk,hws⟩:stE (dg0.map Nd.raw) p e=0∧∃ w l' m',UD p (KL p) e dg0=some (w,l')∧(m=m'∧k=3)∧xs=l'.map D5∧wm = .any∧wk=1∧ws=(wI w).map qencI:=by
  rcases hq with⟨hne,he⟩ | ⟨h0,l,hl,_,⟨hN,he⟩ | ⟨w,l',m',hW,he⟩⟩
  ·unfold zD at he
   injection he with he
   injection he with _ he
   injection he with _ he
   injection he with he
   injection he with _ he
   exact absurd he.symm hne
  ·unfold zD at he
   injection he with he
   injection he with _ he
   injection he with _ he
   injection he with he
   injection he with _ he
   exact absurd he (by decide)
  ·obtain rfl:=QH hl
   unfold dgA at he
   injection he with he
   injection he with ha he
   injection he with hb _
   injection ha with ha
   injection ha with ha _
   injection ha with a1 a2 a3
   injection hb with b1 b2 b3
   exact⟨h0,w,l',m',hW,⟨a1,a2⟩,a3,b1,b2,b3⟩
 obtain⟨rfl,rfl⟩:=hk'
 subst hxs hwm hwk hws
 rw[VC vd0] at h0
 have hall:exE e=0∧plE p.vars e=0:=by
  unfold sE at h0
  rw[if_pos hv0] at h0
  by_cases q:exE e=0
  ·rw[if_pos q] at h0; exact⟨q,h0⟩
  ·rw[if_neg q] at h0; exact absurd h0 (by decide)
 obtain⟨hx0,hp0⟩:=hall
 have hok:=EOk.of hx0 hp0
 obtain⟨v',x',_,⟨w16,ow⟩,pw⟩:=U8 (lvs:=KL p) (A2D hv0) e hok dg0 vd0 w l' hW
 have hmx:=v'.mx
 have hTr:=XN G hG (l'.map Nd.raw) m (by rw[jM]; omega) p hs e hw Y
 rw[TG] at hTr
 simp -implicitDefEqProofs only[vQ,BF,↓reduceIte,jA,enP,f2,f3,f5,JE q5,AA1 q2,IU q3]
 refine hTr.use ?_
 have hst':stE (l'.map Nd.raw) p e=0:=by rw[VC v']; exact h0
 rintro v hv
 obtain⟨k8,xs8,m8,t8,g8,hv8,hg8⟩ : ∃ (k8:Nat) (xs8:List (List AV)) (m8:SM) (t8:Nat) (g8:Int),v = .tup [.agg [.sl m8 k8 xs8],.int .i64 (t8:Nat),.int .i64 g8]∧(g8=2∨(g8=0∧k8=3∧∃ l8,xs8=l8.map D5∧ADX p (KL p) e l'=some (t8,l8))):=by
  rcases hv with⟨hne,_⟩ | ⟨_,l2,hl2,_,⟨hN,rfl⟩ | ⟨t,l8,m8,hT,rfl⟩⟩
  ·exact absurd hst' hne
  ·exact⟨0,[],.nil,0,2,rfl,.inl rfl⟩
  ·obtain rfl:=QH hl2
   exact⟨3,_,m8,t,0,rfl,.inr ⟨rfl,rfl,l8,rfl,hT⟩⟩
 subst hv8
 have lw:(((wI w).length:Nat):Int)=16:=by rw[AFN,w16]; rfl
 have fx:Fx h p e (h.length+2) (h.length+3) m l' (.sl m8 k8 xs8) (Y++[.live 1 [[.sl m8 k8 xs8]]]):=⟨hx.app _,BQ q2,BQ q3,BQ q5,GM lY⟩
 have lZ:(Y++[ABlk.live 1 [[.sl m8 k8 xs8]]]).length=h.length+4:=by simp; omega
 have st8:FM Tryz.prog (Y++[ABlk.live 1 [[.sl .nil 0 []]]]) 35 (.ptr (h.length+3) 0 0) (.agg [.sl m8 k8 xs8])=some (Y++[ABlk.live 1 [[.sl m8 k8 xs8]]]):=by rw[← lY]; exact stT Y m8 k8 xs8
 simp -implicitDefEqProofs only[vQ,jQ,jR,BF,↓reduceIte,jA,enP,jK,Q3,lY,st8]
 generalize hZ:Y++[ABlk.live 1 [[.sl m8 k8 xs8]]]=Z at fx lZ ⊢
 have g7:((g8 != 0) && (g8 != 2))=false:=by
  rcases hg8 with rfl | ⟨rfl,_⟩ <;> decide
 have tail : ∀ F':Fr,F' 2 = .ptr h.length 0 0→F' 3 = .ptr (h.length+1) 0 0→True:=fun _ _ _=>trivial
 simp -implicitDefEqProofs only[vQ,CP,BF,↓reduceIte,jA,enP,QZ,f6,jM,lw,show((16:Int) != 16)=false from rfl]
 refine PW (fun F' H'=>H'=Z∧F' 63 = .bool false∧F' 2 = .ptr h.length 0 0∧F' 3 = .ptr (h.length+1) 0 0∧F' 5 = .ptr (h.length+2) 0 0∧F' 6 = .sl .any 1 ((wI w).map qencI)∧F' 8 = .ptr (h.length+3) 0 0∧F' 9 = .int .i64 (t8:Nat)∧F' 10 = .int .i64 g8) ?_ ?_
 ·rcases hg8 with rfl | ⟨rfl,_⟩
  ·simp -implicitDefEqProofs only[vQ,CP,BF,↓reduceIte,jA,enP,show((2:Int) != 0)=true from rfl,show((2:Int) != 2)=false from rfl]
   exact⟨trivial,by trivial,by trivial,by trivial,by trivial,by trivial,by trivial,by trivial⟩
  ·simp -implicitDefEqProofs only[vQ,CP,BF,EN,↓reduceIte,jA,show((0:Int) != 0)=false from rfl,show((0:Int) != 2)=true from rfl]
   exact⟨trivial,by trivial,by trivial,by trivial,by trivial,by trivial,by trivial,by trivial⟩
 clear f2 f3 f5 f6 f7 tail g7
 rintro F H1 ⟨rfl,f63,f2,f3,f5,f6,f8,f9,f10⟩
 simp -implicitDefEqProofs only[vQ,BF,↓reduceIte,enP,f63,f2,AA1 fx.p]
 refine ACalls.mono (AOU G p hs H1) ?_
 rintro v H2 ⟨x2,ab,hab,rfl,qa⟩
 have fx:=fx.ext x2
 have hal:(p.vars.map Vr.value).length=p.vars.length:=by simp
 have hvl:=hs.vars
 simp -implicitDefEqProofs only[vQ,BF,↓reduceIte]
 refine GZ 0 (fun F H=>Sm.ext h H) (fun _ _=>False) ?_ ?_ (fun _ _ q=>q.elim)
 ·refine DY (fun n F H => ∃ a,Fx h p e (h.length+2) (h.length+3) m l' (.sl m8 k8 xs8) H∧((F 12 = .bool true∧AOk p a∧isI H ab a∧n=ADY p.vars p.vars.length - rkP p.vars a p.vars.length)∨(F 12 = .bool false∧n=0)) ∧
    F 2 = .ptr h.length 0 0∧F 3 = .ptr (h.length+1) 0 0∧F 5 = .ptr (h.length+2) 0 0∧F 6 = .sl .any 1 ((wI w).map qencI)∧F 8 = .ptr (h.length+3) 0 0∧F 9 = .int .i64 (t8:Nat)∧F 10 = .int .i64 g8∧F 11 = .own ab 0 p.vars.length) (ADY p.vars p.vars.length - rkP p.vars (p.vars.map Vr.value) p.vars.length)
   ⟨p.vars.map Vr.value,fx,.inl ⟨by simp -implicitDefEqProofs only[AA,↓reduceIte],ARJ P,qa,rfl⟩,by simp -implicitDefEqProofs only[AA,↓reduceIte,jA]; exact f2,by simp -implicitDefEqProofs only[AA,↓reduceIte,jA]; exact f3,by simp -implicitDefEqProofs only[AA,↓reduceIte,jA]; exact f5,by simp -implicitDefEqProofs only[AA,↓reduceIte,jA]; exact f6,by simp -implicitDefEqProofs only[AA,↓reduceIte,jA]; exact f8,by simp -implicitDefEqProofs only[AA,↓reduceIte,jA]; exact f9,by simp -implicitDefEqProofs only[AA,↓reduceIte,jA]; exact f10,by simp -implicitDefEqProofs only[AA,↓reduceIte,jA]⟩ ?_
  clear f2 f3 f5 f6 f8 f9 f10 f63 qa fx
  rintro n F H ⟨a,fx,hm,f2,f3,f5,f6,f8,f9,f10,f11⟩
  rcases hm with⟨f12,ok,qa,hn⟩ | ⟨f12,hn⟩
  ·simp -implicitDefEqProofs only[vQ,BF,↓reduceIte,f12]
   have hlen:=ok.len
   have henv:=AVW G p hs a ab hlen H qa
   rw[hlen] at henv
   have hev:=APD G (RV p.vars a) (Cov.nm (RV p.vars a)) e H (by rw[AC0 hlen]; omega) (AYC P ok) (ANI hw)
   have hval:evV (evE (RV p.vars a) e) = .tup [.int .i64 (XV (RV p.vars a) e:Nat),.int .i64 0]:=by
    unfold evE; rw[if_neg (by simpa using hx0),if_pos (known hok hlen)]; rfl
   rw[hval] at hev
   have hbits:=bits_ref G p hs P a ok ab H qa
   rw[hlen] at hbits
   have hagr:=ASW P ok
   have hvl':=AL6 (RV p.vars a) e
   have pwv:=pw l' v' (Xt.rfl' l') _ _ hagr
   refine F7 (by kernel_rfl) ?_
   simp -implicitDefEqProofs only[vQ,JQ,↓reduceIte,jA,jL,enP,f2,f3,f11,AA1 fx.p,IU fx.e]
   refine⟨_,henv,?_⟩
   try simp -implicitDefEqProofs only[f2,f3,f11,AA1 fx.p,IU fx.e]
   refine⟨_,hev,?_⟩
   simp -implicitDefEqProofs only[vQ,jQ,jR,JQ,BF,↓reduceIte,jA,jL,enP,show((0:Int) != 0)=false from rfl,f2,f11,AA1 fx.p]
   generalize hvq:XV (RV p.vars a) e=va at hvl' pwv hagr
   refine hbits.use ?_
   generalize bsL p.vars a (flG p.groups)=bs at hagr pwv
   simp -implicitDefEqProofs only[vQ,BF,↓reduceIte,jA,enP,QZ,f6,jM,lw]
   have hwl:(wI w).length=16:=by rw[AFN,w16]
   refine GZ 2 (fun F H'=>H'=H∧F 2 = .ptr h.length 0 0∧F 3 = .ptr (h.length+1) 0 0∧F 5 = .ptr (h.length+2) 0 0∧F 6 = .sl .any 1 ((wI w).map qencI)∧F 8 = .ptr (h.length+3) 0 0∧F 9 = .int .i64 (t8:Nat)∧F 10 = .int .i64 g8∧F 11 = .own ab 0 p.vars.length∧F 13 = .int .i64 (va:Nat)∧F 15 = .sl (Cov.nm bs) 1 (bs.map NC)) (fun _ _=>False) ?_ ?_ (fun _ _ q=>q.elim)
   ·refine DY (fun q F H' => ∃ k,q+k=16∧H'=H∧F 2 = .ptr h.length 0 0∧F 3 = .ptr (h.length+1) 0 0∧F 5 = .ptr (h.length+2) 0 0∧F 6 = .sl .any 1 ((wI w).map qencI)∧F 8 = .ptr (h.length+3) 0 0∧F 9 = .int .i64 (t8:Nat)∧F 10 = .int .i64 g8∧F 11 = .own ab 0 p.vars.length∧F 13 = .int .i64 (va:Nat)∧F 15 = .sl (Cov.nm bs) 1 (bs.map NC)∧F 83 = .sl .any 1 ((wI w).map qencI)∧F 84 = .int .i64 16∧F 85 = .int .i64 (k:Nat)) 16
     ⟨0,rfl,rfl,by simp -implicitDefEqProofs only[AA,↓reduceIte,jA]; exact f2,by simp -implicitDefEqProofs only[AA,↓reduceIte,jA]; exact f3,by simp -implicitDefEqProofs only[AA,↓reduceIte,jA]; exact f5,by simp -implicitDefEqProofs only[AA,↓reduceIte,jA]; exact f6,by simp -implicitDefEqProofs only[AA,↓reduceIte,jA]; exact f8,by simp -implicitDefEqProofs only[AA,↓reduceIte,jA]; exact f9,by simp -implicitDefEqProofs only[AA,↓reduceIte,jA]; exact f10,by simp -implicitDefEqProofs only[AA,↓reduceIte,jA]; exact f11,by simp -implicitDefEqProofs only[AA,↓reduceIte,jA],by simp -implicitDefEqProofs only[AA,↓reduceIte,jA],by simp -implicitDefEqProofs only[AA,↓reduceIte,jA],by simp -implicitDefEqProofs only[AA,↓reduceIte,jA],by simp -implicitDefEqProofs only[AA,↓reduceIte]; rfl⟩ ?_
    clear f2 f3 f5 f6 f8 f9 f10 f11 f12
    rintro q F H' ⟨k,hq,rfl,f2,f3,f5,f6,f8,f9,f10,f11,f13,f15,f83,f84,f85⟩
    simp -implicitDefEqProofs only[vQ,BF,↓reduceIte,enP,f84,f85,TY]
    refine CX (fun hc => ?_) (fun hc => ?_)
    ·have hk:k < 16:=by simpa using hc
     have hkw:k < w.length:=by omega
     have hki:k < (wI w).length:=by omega
     have l3:DC Tryz.prog H' 3 (.fptr 1 ((wI w).map qencI) k 0)=some (.int .i64 (w.getD k 0:Nat)):=by
      rw[FH ag3 hki]
      show some (AV.int .i64 (wI w)[k])=_
      rw[AY7 hki]
     have hf:w.getD k 0 < l'.length:=ow.getD hkw
     have hE:=AIO G l' m v' (w.getD k 0) hf bs (Cov.nm bs) H'
     have hbit:=PX l' (bA bs) w k
     rw[pwv] at hbit
     rw[← hbit] at hE
     have hlt:va / 2 ^ k < 4294967296:=Nat.lt_of_le_of_lt (Nat.div_le_self _ _) (by omega)
     have nb:((va.testBit k) != (((va / 2 ^ k % 2:Nat):Int) == 1))=false:=by rw[AMD va k]; simp
     have nb2:((va.testBit k) == (((va / 2 ^ k % 2:Nat):Int) == 1))=true:=by rw[AMD va k]; simp
     simp -implicitDefEqProofs only[vQ,BF,↓reduceIte,jA,enP,MX,f83,f85,EQ hki,l3]
     refine F7 (by kernel_rfl) ?_
     simp -implicitDefEqProofs only[vQ,↓reduceIte,jA,jL,enP,f5,f13,f15,JE fx.c]
     refine⟨_,hE,?_⟩
     simp -implicitDefEqProofs only[vQ,BF,↓reduceIte,jA,jL,jT,enP,bn4,f13,AP0 va k hk,and1 _ hlt,ne4,nb,nb2,f85,wrap_succ (show k < 9223372036854775807 by omega)]
     exact⟨q - 1,by omega,k+1,by omega,by trivial,by trivial,by trivial,by trivial,by trivial,by trivial,by trivial,by trivial,by trivial,by trivial,by trivial,by trivial,by trivial,by trivial⟩
    ·simp -implicitDefEqProofs only[vQ,↓reduceIte,jA]
     exact⟨by trivial,f2,f3,f5,f6,f8,f9,f10,f11,f13,f15⟩
   ·clear f2 f3 f5 f6 f8 f9 f10 f11 f12
    rintro F H' ⟨rfl,f2,f3,f5,f6,f8,f9,f10,f11,f13,f15⟩
    simp -implicitDefEqProofs only[vQ,CP,BF,↓reduceIte,enP,f10]
    refine PW (fun F' H''=>H''=H'∧F' 111 = .bool false∧F' 2 = .ptr h.length 0 0∧F' 3 = .ptr (h.length+1) 0 0∧F' 5 = .ptr (h.length+2) 0 0∧F' 6 = .sl .any 1 ((wI w).map qencI)∧F' 8 = .ptr (h.length+3) 0 0∧F' 9 = .int .i64 (t8:Nat)∧F' 10 = .int .i64 g8∧F' 11 = .own ab 0 p.vars.length) ?_ ?_
    ·rcases hg8 with rfl | ⟨rfl,rfl,l8,rfl,hT⟩
     ·simp -implicitDefEqProofs only[vQ,CP,BF,EN,↓reduceIte,jA,show((2:Int) == 0)=false from rfl]
      exact⟨trivial,by trivial,by trivial,by trivial,by trivial,by trivial,by trivial,by trivial,by trivial⟩
     ·obtain⟨v8,x8,_,r8,p8⟩:=AFS (lvs:=KL p) (A2D hv0) hok v' t8 l8 hT
      have pe:=p8 l8 v8 (Xt.rfl' l8) _ _ hagr
      rw[hvq] at pe
      have hE:=AIO G l8 m8 v8 t8 r8 bs (Cov.nm bs) H'
      rw[pe] at hE
      have nb:((!(va == 0)) != (((va:Nat):Int) != 0))=false:=by
       have:(((va:Nat):Int) != 0) = !(va == 0):=nec va 0
       rw[this]; simp
      have nb2:((!(va == 0)) == (((va:Nat):Int) != 0))=true:=by
       have:(((va:Nat):Int) != 0) = !(va == 0):=nec va 0
       rw[this]; simp
      simp -implicitDefEqProofs only[vQ,CP,BF,↓reduceIte,jA,enP,show((0:Int) == 0)=true from rfl,f8,f9,f15,JE fx.d]
      refine hE.use ?_
      simp -implicitDefEqProofs only[vQ,CP,BF,↓reduceIte,jA,jT,enP,bn4,f13,ne4,nb,nb2]
      exact⟨trivial,by trivial,by trivial,by trivial,by trivial,by trivial,by trivial,by trivial,by trivial⟩
    ·clear f2 f3 f5 f6 f8 f9 f10 f11 f13 f15
     rintro F H'' ⟨rfl,f111,f2,f3,f5,f6,f8,f9,f10,f11⟩
     have hnx:=AQK G p hs P a ok ab H'' qa
     rw[hlen] at hnx
     have hsp:=ACC p.vars.length a (jO _) ok
     simp -implicitDefEqProofs only[vQ,BF,↓reduceIte,jA,enP,f111,f2,f11,AA1 fx.p]
     refine ACalls.mono hnx ?_
     rintro v H3 ⟨k1,hv3⟩
     have fx3:=fx.k1 k1 (by have:=x2.le; omega) (by omega) (by omega)
     cases ho:nxK p.vars p.vars.length a with
     | some a' =>
       rw[ho] at hv3 hsp
       obtain⟨rfl,qa'⟩:=hv3
       obtain⟨ok',hr,_⟩:=hsp
       have hlt:=AJZ ok' p.vars.length (jO _)
       simp -implicitDefEqProofs only[vQ,BF,↓reduceIte,jA]
       exact⟨ADY p.vars p.vars.length - rkP p.vars a' p.vars.length,by omega,a',fx3,.inl ⟨by trivial,ok',qa',rfl⟩,by trivial,by trivial,by trivial,by trivial,by trivial,by trivial,by trivial,by trivial⟩
     | none =>
       rw[ho] at hv3
       obtain rfl:=hv3
       have hlt:=AJZ ok p.vars.length (jO _)
       simp -implicitDefEqProofs only[vQ,BF,↓reduceIte,jA]
       exact⟨0,by omega,a,fx3,.inr ⟨by trivial,rfl⟩,by trivial,by trivial,by trivial,by trivial,by trivial,by trivial,by trivial,by trivial⟩
  ·simp -implicitDefEqProofs only[vQ,BF,↓reduceIte,f12]
   exact fx.x
 ·rintro F H hxH
  simp -implicitDefEqProofs only[vQ,BF,↓reduceIte]
  refine(VV G hG H).use ?_
  simp -implicitDefEqProofs only[vQ,BF,↓reduceIte]
  exact⟨by trivial,hxH⟩
end
end Go.Proofs.YtgnoolgeijmlaaaGreatDoor.Bl
