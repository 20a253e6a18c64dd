/- Part 15 of the proof (Ha, Hb, Hc); no condition. -/
import Derived.Test.YtgnoolgeijmlaaaGreatDoorZE14
set_option linter.unusedVariables false
set_option linter.unusedSimpArgs false
set_option maxRecDepth 8000
namespace Go.Proofs.YtgnoolgeijmlaaaGreatDoor.Bl
open Sm Bins Cov Xe Wd Go.Proofs.YtgnoolgeijmlaaaGreatDoor.Bd Go.RowKit
open Bool renaming not_false→jC
open List renaming map_nil→jE,append_nil→jD,map_cons→jF,getElem?_cons_zero→jT,getElem?_cons_succ→jU
open Nat renaming le_refl→jP,le_of_ble_eq_true→jH,reduceEqDiff→jA
open Option renaming getD_some→jB,getD_none→jO
abbrev nA:ByteArray:=⟨#[97]⟩
abbrev nB:ByteArray:=⟨#[98]⟩
abbrev nS:ByteArray:=⟨#[115]⟩
def vA:Vr:=⟨nA,2,1,0⟩
def vS:Vr:=⟨nS,2,0,3⟩
def vB:Vr:=⟨nB,2,1,0⟩
def smp:Pr:=⟨.full,[vA,vS,vB],.nil,[],.nil,[],.nil,[],.full,[⟨.full,[0,2]⟩]⟩
def vX (n:ByteArray):Ex:=.mk 2 0 n .nil []
def eAB:Ex:=.mk 15 0 ⟨#[]⟩ .full [vX nA,vX nB]
def w4 (n:ByteArray):List AV:=[.int .i64 2,.int .i64 0,.str n,.sl .nil 0 []]
def wAB:List AV:=[.int .i64 15,.int .i64 0,.str ⟨#[]⟩,.sl .full 4 [w4 nA,w4 nB]]
def wP:List AV:=[.sl .full 4 [FI vA,FI vS,FI vB],.sl .nil 0 [],.sl .nil 0 [],.sl .nil 0 [],.sl .full 1 [[.sl .full 1 [[.int .i64 0],[.int .i64 2]]]]]
theorem A0R:CvR (.agg wP) (.agg (EE smp)):=by
 have e:EE smp=[.sl .full 4 [FI vA,FI vS,FI vB],.sl .nil 4 [],.sl .nil 4 [],.sl .nil 2 [],.sl .full 1 [[.sl .full 1 [[.int .i64 0],[.int .i64 2]]]]]:=rfl;rw[e];exact CvR.agg (CvRL.cons (CvR.refl _) (CvRL.cons (CvR.sl (Cv.nil 0 4)) (CvRL.cons (CvR.sl (Cv.nil 0 4)) (CvRL.cons (CvR.sl (Cv.nil 0 2)) (CvRL.cons (CvR.refl _) CvRL.nil)))))
theorem AJR (op n:Int)(s:ByteArray)(m:SM):EF (.mk op n s m [])=[.int .i64 op,.int .i64 n,.str s,.sl m 4 []]:=by rw[O5]; rfl
theorem ATG (op n:Int)(s:ByteArray)(m:SM)(a b:Ex):EF (.mk op n s m [a,b])=[.int .i64 op,.int .i64 n,.str s,.sl m 4 [EF a,EF b]]:=by rw[O5]; rfl
theorem AQR (n:ByteArray):CvRow (w4 n) (EF (vX n)):=by
 unfold vX;rw[AJR];exact CvRow.cons rfl (Cv.refl _) (CvRow.cons rfl (Cv.refl _) (CvRow.cons rfl (Cv.refl _) (CvRow.cons rfl (Cv.nil 0 4) CvRow.nil)))
theorem wc2 {m:SM}{k:Nat}{a b a' b':List AV}(h1:CvRow a a')(h2:CvRow b b'):Cv (.sl m k [a,b]) (.sl m k [a',b']):=Cv.rows rfl fun i r r' e1 e2=>by
 match i,e1,e2 with
 | 0,e1,e2=>cases e1; cases e2; exact h1
 | 1,e1,e2=>cases e1; cases e2; exact h2
 | _+2,e1,_=>cases e1
theorem wc1 {m:SM}{k:Nat}{a a':List AV}(h1:CvRow a a'):Cv (.sl m k [a]) (.sl m k [a']):=Cv.rows rfl fun i r r' e1 e2=>by
 match i,e1,e2 with
 | 0,e1,e2=>cases e1; cases e2; exact h1
 | _+1,e1,_=>cases e1
theorem AUW:CvRow wAB (EF eAB):=by
 unfold eAB;rw[ATG];exact CvRow.cons rfl (Cv.refl _) (CvRow.cons rfl (Cv.refl _) (CvRow.cons rfl (Cv.refl _) (CvRow.cons rfl (wc2 (AQR _) (AQR _)) CvRow.nil)))
theorem A0S (n:ByteArray):CvR (.agg (w4 n)) (.agg (EF (vX n))):=by
 unfold vX;rw[AJR];exact CvR.agg (CvRL.cons (CvR.refl _) (CvRL.cons (CvR.refl _) (CvRL.cons (CvR.refl _) (CvRL.cons (CvR.sl (Cv.nil 0 4)) CvRL.nil))))
def z5:List AV:=[.sl .nil 0 [],.sl .nil 0 [],.sl .nil 0 [],.sl .nil 0 [],.sl .nil 0 []]
theorem A50 (h:Hp):J6 Tryz.prog h 27=some (.ptr h.length 0 0,h++[.live 5 [z5]]):=JU (row:=z5) (by kernel_rfl)
theorem A3J (s:ByteArray):KD Tryz.prog 65 [(0,.str s),(1,.int .i64 2),(2,.int .i64 1)]=some (.agg [.str s,.int .i64 2,.int .i64 1,.int .i64 0]):=by kernel_rfl
theorem A3I (s:ByteArray):KD Tryz.prog 65 [(0,.str s),(1,.int .i64 2),(3,.int .i64 3)]=some (.agg [.str s,.int .i64 2,.int .i64 0,.int .i64 3]):=by kernel_rfl
theorem A5R (h:Hp):GG Tryz.prog false h 22 3 [(0,.agg [.str nA,.int .i64 2,.int .i64 1,.int .i64 0]),(1,.agg [.str nS,.int .i64 2,.int .i64 0,.int .i64 3]),(2,.agg [.str nB,.int .i64 2,.int .i64 1,.int .i64 0])]=some (.sl .full 4 [FI vA,FI vS,FI vB],h):=by kernel_rfl
theorem A28 (h:Hp):GG Tryz.prog false h 29 2 [(0,.int .i64 0),(1,.int .i64 2)]=some (.sl .full 1 [[.int .i64 0],[.int .i64 2]],h):=by kernel_rfl
theorem A27 (h:Hp):GG Tryz.prog false h 29 3 [(0,.int .i64 0),(1,.int .i64 (-1)),(2,.int .i64 2)]=some (.sl .full 1 (([0,-1,2]:List Int).map qencI),h):=by kernel_rfl
theorem A5Q (h:Hp)(xs:List (List AV)):GG Tryz.prog false h 25 1 [(0,.sl .full 1 xs)]=some (.sl .full 1 [[.sl .full 1 xs]],h):=by kernel_rfl
theorem A5V (a c:List (List AV)):KD Tryz.prog 27 [(0,.sl .full 4 a),(4,.sl .full 1 c)]=some (.agg [.sl .full 4 a,.sl .nil 0 [],.sl .nil 0 [],.sl .nil 0 [],.sl .full 1 c]):=by kernel_rfl
theorem A4N {H:Hp}{b:Nat}{row cs:List AV}(hb:H[b]?=some (.live 5 [row]))(hr:row.length=5)(hc:cs.length=5)(hl:cs.all AV.leaf=true):FO Tryz.prog H 27 (.ptr b 0 0) (.agg cs)=some (H.set b (.live 5 [cs])):=by
 rw[ACZ (cs:=cs) (TC hl) (by rw[hc]; exact TF) hb (by rw[hr,hc]; exact jP 5)];have:splice row 0 cs=cs:=by unfold splice; rw[List.take_zero,List.drop_eq_nil_of_le (by rw[hr,hc]; exact jP 5)]; simp
 rw[this]
theorem AYG (s:ByteArray):KD Tryz.prog 37 [(0,.int .i64 2),(2,.str s)]=some (.agg (w4 s)):=by kernel_rfl
theorem A3A (h:Hp):GG Tryz.prog false h 23 2 [(0,.agg (w4 nA)),(1,.agg (w4 nB))]=some (.sl .full 4 [w4 nA,w4 nB],h):=by kernel_rfl
theorem A3L (xs:List (List AV)):KD Tryz.prog 37 [(0,.int .i64 15),(3,.sl .full 4 xs)]=some (.agg [.int .i64 15,.int .i64 0,.str ⟨#[]⟩,.sl .full 4 xs]):=by kernel_rfl
theorem A3B (h:Hp):GG Tryz.prog false h 23 1 [(0,.agg wAB)]=some (.sl .full 4 [wAB],h):=by kernel_rfl
theorem A25 (h:Hp)(a b c d:Bool):GG Tryz.prog false h 55 4 [(0,.bool a),(1,.bool b),(2,.bool c),(3,.bool d)]=some (.sl .full 1 ([a,b,c,d].map AF0),h):=by kernel_rfl
theorem AU6:NJ smp=0:=by kernel_rfl
theorem AY4:KN smp=[0,-1,2]:=by kernel_rfl
theorem A07:sE smp (vX nS)=0:=by kernel_rfl
theorem AXY:AGP smp (KN smp) (vX nS) dg0=some (1,dg0):=by kernel_rfl
def A4Z (o:Except Int (Nat×Dg)):Bool:=match o with
 | .ok (t,l)=>decide (t<l.length)&&(ev l (bA [true,false,true,false]) t && !ev l (bA [true,false,true,true]) t)
 | .error _=>false
theorem AY5:A4Z (AB9 smp [eAB] 1 dg0)=true:=by kernel_rfl
theorem AOR {p:Pr}:∀(es:List Ex) (t:Nat) (l:Dg) (r:Nat) (l':Dg),VD l->t<l.length->AB9 p es t l=.ok (r,l')->VD l'∧r<l'.length
 | [],t,l,r,l',v,ht,h=>by
   have h:(Except.ok (t,l):Except Int (Nat×Dg))=.ok (r,l'):=h;cases h; exact⟨v,ht⟩
 | e::es,t,l,r,l',v,ht,h=>by
   unfold AB9 at h;split at h
   .cases h
   .rename_i hs
    have hs:sE p e=0:=by simpa using hs
    have hok:EOk p e∧NJ p=0:=by
     unfold sE at hs;split at hs
     .split at hs
      .rename_i a b; exact⟨EOk.of b hs,a⟩
      .cases hs
     .cases hs
    split at h
    .cases h
    .rename_i f l1 hf
     obtain⟨v1,x1,_,r1,_⟩:=AM7 (lvs:=KN p) (PV.of hok.2).pok hok.1 v f l1 hf;split at h
     .cases h
     .rename_i u l2 hu
      obtain⟨v2,x2,_,r2,_⟩:=O8 v1 (x1.lt ht) r1 u l2 hu;exact AOR es u l2 r l' v2 r2 h
theorem AKW:PrS smp:=by
 refine⟨by decide,?_,by decide,?_,by decide,?_,by decide,by decide⟩
 .intro v hv
  simp [smp,vA,vS,vB] at hv;rcases hv with rfl|rfl|rfl<;>decide
 .intro e he; simp [smp] at he
 .intro d hd; simp [smp] at hd
section
variable (G:Nat->AV)
theorem XL (h:Hp):PCall (En G) 34 [] h (.agg (EE smp)):=by
 refine PCall.res (r:=.agg wP) ?_ A0R;refine ACalls.pure (R:=fun v H=>v=.agg wP∧Sm.ext h H) 3 ?_ (fun v h' ⟨e,x⟩=>⟨x,by subst e; rfl⟩);refine acN Tryz.func34 rfl ?_;show awp _ _ _ _ _ (EK _ [.cell 0 27] _);have g0:=CU h (ABlk.live 5 [z5]);have hst:FO Tryz.prog (h++[ABlk.live 5 [z5]]) 27 (.ptr h.length 0 0) (.agg [.sl .full 4 [FI vA,FI vS,FI vB],.sl .nil 0 [],.sl .nil 0 [],.sl .nil 0 [],.sl .full 1 [[.sl .full 1 [[.int .i64 0],[.int .i64 2]]]]])=some ((h++[ABlk.live 5 [z5]]).set h.length (.live 5 [wP])):=A4N g0 rfl rfl rfl;simp -implicitDefEqProofs only[vQ,BD,↓reduceIte,jA,enP,jO,A50,A3J,A3I,A5R,A28,A5Q,A5V,hst];rw[I8 _ _ _ _ _ _ _ _ _ (show _=AV.ptr h.length 0 0 by simp -implicitDefEqProofs only[AA,↓reduceIte,jA])];refine⟨.agg wP,?_,rfl,((ext.rfl' h).app _).set (jP _) _⟩;rw[GV UY TF (DX g0) rfl (jP 5)]; rfl
end
theorem QCall.args {E:Env}{f:FuncId}{args args':List AV}{h:Hp}{Q:AV->Prop}(hc:QCall E f args' h Q)(ha:CvRL args args'):QCall E f args h Q:=ACalls.args hc ha
theorem AWS:(dg0.map Nd.raw).map ER=dg0.map DY:=WE dg0
section
variable (G:Nat->AV)
set_option maxHeartbeats 2000000 in
theorem AF8 (hG:GOk G)(h:Hp):PCall (En G) 13 [] h (.bool true):=by
 refine ACalls.pure0 rfl ?_;refine acN Tryz.func13 rfl ?_;show awp _ _ _ _ _ (EK _ [.tmp 0] _);simp -implicitDefEqProofs only[vQ,BD,enP];refine(XL G h).use ?_;simp -implicitDefEqProofs only[vQ,BD,↓reduceIte];have hL:=VI G hG smp AKW h;have lv:lvV smp=.sl .any 1 (([0,-1,2]:List Int).map qencI):=by unfold lvV; rw[if_pos AU6,AY4]
 rw[lv] at hL;refine hL.use ?_;simp -implicitDefEqProofs only[vQ,BD,↓reduceIte];refine(AR0 G h).use ?_;simp -implicitDefEqProofs only[vQ,BD];refine(XL G h).use ?_;simp -implicitDefEqProofs only[vQ,BD,↓reduceIte,jA,enP,AYG];have hT:=AEK G hG (dg0.map Nd.raw) .full (by decide) smp AKW (vX nS) (by decide) h;rw[AWS] at hT;refine(QCall.args hT (CvRL.cons (CvR.refl _) (CvRL.cons (CvR.refl _) (CvRL.cons (A0S nS) CvRL.nil)))).use ?_;have hst:stE (dg0.map Nd.raw) smp (vX nS)=0:=by rw[YQ vd0]; exact A07
 rintro v (⟨hne,_⟩|⟨_,l0,hl0,_,⟨hN,_⟩|⟨f,l1,m1,hF,rfl⟩⟩)
 .exact absurd hst hne
 .obtain rfl:=TI hl0
  rw[AXY] at hN; cases hN
 obtain rfl:=TI hl0;rw[AXY] at hF
 obtain⟨rfl,rfl⟩:1=f∧dg0=l1:=by
  have:=Option.some.inj hF;exact⟨congrArg Prod.fst this,congrArg Prod.snd this⟩
 have stT:∀(H:Hp) (m:SM) (xs:List (List AV)),FO Tryz.prog (H++[ABlk.live 1 [[.sl .nil 0 []]]]) 35 (.ptr H.length 0 0) (.agg [.sl m 3 xs])=some (H++[ABlk.live 1 [[.sl m 3 xs]]]):=fun H m xs=>by rw[LZ (CU H _),JP]
 unfold dgA iA;simp -implicitDefEqProofs only[vQ,jT,jU,BD,↓reduceIte,jA,enP,jO,TB,stT];have q2:=CU h (ABlk.live 1 [[.sl m1 3 (dg0.map DY)]]);have hx:ext h (h++[ABlk.live 1 [[.sl m1 3 (dg0.map DY)]]]):=(ext.rfl' h).app _;generalize h++[ABlk.live 1 [[.sl m1 3 (dg0.map DY)]]]=H1 at q2 hx|-;generalize hb2:h.length=b2 at q2|-;refine(XL G H1).use ?_;simp -implicitDefEqProofs only[vQ,BD,↓reduceIte,jA,enP,AYG,A3A,A3L,show GG Tryz.prog false H1 23 1 [(0,.agg [.int .i64 15,.int .i64 0,.str ⟨#[]⟩,.sl .full 4 [w4 nA,w4 nB]])]=some (.sl .full 4 [wAB],H1) from A3B H1];have hA:=AUK G hG smp AKW [eAB] .full (by decide) (fun e he=>by rw[List.mem_singleton] at he; subst he; decide) H1;refine(QCall.args hA (CvRL.cons (CvR.refl _) (CvRL.cons (CvR.sl (wc1 AUW)) CvRL.nil))).use ?_;have hab:=AY5;intro v hv
 cases ho:AB9 smp [eAB] 1 dg0 with
 | error k=>rw[ho] at hab; have hab:false=true:=hab; cases hab
 | ok q =>
   obtain⟨t,l⟩:=q;rw[ho] at hab hv;obtain⟨m2,rfl⟩:=hv;obtain⟨vl,tl⟩:=AOR _ _ _ _ _ vd0 (by decide) ho;have hab:(decide (t<l.length)&&(ev l (bA [true,false,true,false]) t && !ev l (bA [true,false,true,true]) t))=true:=hab;simp only[Bool.and_eq_true,Bool.not_eq_true'] at hab;obtain⟨_,ha1,ha2⟩:=hab;unfold dgA iA;simp -implicitDefEqProofs only[vQ,jT,jU,BD,↓reduceIte,jA,enP,jO,TB,stT];have q2:=BO (x:=ABlk.live 1 [[.sl m2 3 (l.map DY)]]) q2;have q5:=CU H1 (ABlk.live 1 [[.sl m2 3 (l.map DY)]]);have hx:=hx.app [ABlk.live 1 [[.sl m2 3 (l.map DY)]]];generalize H1++[ABlk.live 1 [[.sl m2 3 (l.map DY)]]]=H2 at q2 q5 hx|-;generalize H1.length=b5 at q5|-;have g2:DF Tryz.prog H2 33 (.ptr b2 0 0)=some (.sl m1 3 (dg0.map DY)):=by rw[DJ AE5 q2 rfl]; rfl
   have d1:=ZT G l m2 vl t tl [true,false,true,false] .full H2;have d2:=ZT G l m2 vl t tl [true,false,true,true] .full H2;rw[ha1] at d1;rw[ha2] at d2;simp -implicitDefEqProofs only[vQ,BD,↓reduceIte,jA,A27];have hs:=YT G (isS.of .any [0,-1,2]) (isS.of .full [0,-1,2]) (by decide) (by decide) H2;rw[decide_eq_true rfl] at hs;refine hs.use ?_;simp -implicitDefEqProofs only[vQ,CV,BD,↓reduceIte,jA,Nat.add_zero,enP,SX,NR,g2,List.length_map,show((dg0.length:Nat):Int)=2 from rfl,Int.reduceBEq,beq_self_eq_true,show((((1:Nat):Int))==1)=true from rfl,JK q5,A25];refine(show PCall (En G) 35 [.agg [.sl m2 3 (l.map DY)],.int .i64 (t:Nat),.sl .full 1 (([true,false,true,false]:List Bool).map AF0)] H2 (.bool true) from d1).use ?_;simp -implicitDefEqProofs only[vQ,CV,BD,↓reduceIte,jA,enP,JK q5,A25];refine(show PCall (En G) 35 [.agg [.sl m2 3 (l.map DY)],.int .i64 (t:Nat),.sl .full 1 (([true,false,true,true]:List Bool).map AF0)] H2 (.bool false) from d2).use ?_;simp -implicitDefEqProofs only[vQ,CV,BD,↓reduceIte,jA];exact⟨by trivial,hx⟩
end
theorem A53 {p:Pr}(h:NJ p=0):POk p (KN p):=(PV.of h).pok
theorem stT (H:Hp)(m:SM)(k:Nat)(xs:List (List AV)):FO Tryz.prog (H++[ABlk.live 1 [[.sl .nil 0 []]]]) 35 (.ptr H.length 0 0) (.agg [.sl m k xs])=some (H++[ABlk.live 1 [[.sl m k xs]]]):=by rw[LZ (CU H _),JP]
theorem AZM {H:Hp}{b:Nat}{p:Pr}(hb:H[b]?=some (.live 5 [EE p])):DF Tryz.prog H 27 (.ptr b 0 0)=some (.agg (EE p)):=by
 rw[GV UY TF hb (row:=EE p) rfl (by rw[JE]; exact jP 5)]; rfl
section
variable (G:Nat->AV)
end
end Go.Proofs.YtgnoolgeijmlaaaGreatDoor.Bl
