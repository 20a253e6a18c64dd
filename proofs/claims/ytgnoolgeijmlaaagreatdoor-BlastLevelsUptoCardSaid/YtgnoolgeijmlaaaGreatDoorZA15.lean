/- Part 15 of the proof (Ha, Hb, Hc, D5, Hd, He, Hf); no condition. -/
import Derived.Test.YtgnoolgeijmlaaaGreatDoorZA14
set_option linter.unusedVariables false
set_option linter.unusedSimpArgs false
set_option maxRecDepth 8000
namespace Go.Proofs.YtgnoolgeijmlaaaGreatDoor.Bl
open Sm Bins Cov Xe Wd Go.Proofs.YtgnoolgeijmlaaaGreatDoor.Bd Go.RowKit
open Bool renaming not_false→jC,not_true→jV
open List renaming take_zero→qA,drop_eq_nil_of_le→zI,map_nil→jE,append_nil→jD,map_cons→jF,getElem?_cons_zero→jP,getElem?_cons_succ→jQ,length_map→jM,getElem?_eq_getElem→jS,getElem_mem→jX,getD_eq_getElem?_getD→zK
open Nat renaming le_refl→jO,le_of_ble_eq_true→jH,reduceEqDiff→jA,add_zero→jI,reduceAdd→jL,add_mul→zN
open Option renaming getD_some→jB,getD_none→jJ
abbrev nA:ByteArray:=⟨#[97]⟩
abbrev nB:ByteArray:=⟨#[98]⟩
abbrev nS:ByteArray:=⟨#[115]⟩
def vA:Vr:=⟨nA,2,1,0⟩
def vS:Vr:=⟨nS,2,0,3⟩
def vB:Vr:=⟨nB,2,1,0⟩
def smp:Pr:=⟨.full,[vA,vS,vB],.nil,[],.nil,[],.nil,[],.full,[⟨.full,[0,2]⟩]⟩
def vX (n:ByteArray):Ex := .mk 2 0 n .nil []
def eAB:Ex := .mk 15 0 ⟨#[]⟩ .full [vX nA,vX nB]
def w4 (n:ByteArray):List AV := [.int .i64 2,.int .i64 0,.str n,.sl .nil 0 []]
def wAB:List AV := [.int .i64 15,.int .i64 0,.str ⟨#[]⟩,.sl .full 4 [w4 nA,w4 nB]]
def wP:List AV := [.sl .full 4 [E5 vA,E5 vS,E5 vB],.sl .nil 0 [],.sl .nil 0 [],.sl .nil 0 [],.sl .full 1 [[.sl .full 1 [[.int .i64 0],[.int .i64 2]]]]]
theorem AYI:CvR (.agg wP) (.agg (DZ smp)):=by
 have e:DZ smp = [.sl .full 4 [E5 vA,E5 vS,E5 vB],.sl .nil 4 [],.sl .nil 4 [],.sl .nil 2 [],.sl .full 1 [[.sl .full 1 [[.int .i64 0],[.int .i64 2]]]]]:=rfl
 rw [e]
 exact CvR.agg (CvRL.cons (CvR.refl _) (CvRL.cons (CvR.sl (Cv.nil 0 4)) (CvRL.cons (CvR.sl (Cv.nil 0 4)) (CvRL.cons (CvR.sl (Cv.nil 0 2)) (CvRL.cons (CvR.refl _) CvRL.nil)))))
theorem AIB (op n:Int) (s:ByteArray) (m:SM):DR (.mk op n s m []) = [.int .i64 op,.int .i64 n,.str s,.sl m 4 []]:=by rw [MH]; rfl
theorem AQ4 (op n:Int) (s:ByteArray) (m:SM) (a b:Ex):DR (.mk op n s m [a,b]) = [.int .i64 op,.int .i64 n,.str s,.sl m 4 [DR a,DR b]]:=by rw [MH]; rfl
theorem AOX (n:ByteArray):CvRow (w4 n) (DR (vX n)):=by
 unfold vX
 rw [AIB]
 exact CvRow.cons rfl (Cv.refl _) (CvRow.cons rfl (Cv.refl _) (CvRow.cons rfl (Cv.refl _) (CvRow.cons rfl (Cv.nil 0 4) CvRow.nil)))
theorem wc2 {m:SM} {k:Nat} {a b a' b':List AV} (h1:CvRow a a') (h2:CvRow b b'):Cv (.sl m k [a,b]) (.sl m k [a',b']):=Cv.rows rfl fun i r r' e1 e2=>by
 match i,e1,e2 with
 | 0,e1,e2=>cases e1; cases e2; exact h1
 | 1,e1,e2=>cases e1; cases e2; exact h2
 | _+2,e1,_=>cases e1
theorem wc1 {m:SM} {k:Nat} {a a':List AV} (h1:CvRow a a'):Cv (.sl m k [a]) (.sl m k [a']):=Cv.rows rfl fun i r r' e1 e2=>by
 match i,e1,e2 with
 | 0,e1,e2=>cases e1; cases e2; exact h1
 | _+1,e1,_=>cases e1
theorem ASF:CvRow wAB (DR eAB):=by
 unfold eAB
 rw [AQ4]
 exact CvRow.cons rfl (Cv.refl _) (CvRow.cons rfl (Cv.refl _) (CvRow.cons rfl (Cv.refl _) (CvRow.cons rfl (wc2 (AOX _) (AOX _)) CvRow.nil)))
theorem AYJ (n:ByteArray):CvR (.agg (w4 n)) (.agg (DR (vX n))):=by
 unfold vX
 rw [AIB]
 exact CvR.agg (CvRL.cons (CvR.refl _) (CvRL.cons (CvR.refl _) (CvRL.cons (CvR.refl _) (CvRL.cons (CvR.sl (Cv.nil 0 4)) CvRL.nil))))
def z5:List AV := [.sl .nil 0 [],.sl .nil 0 [],.sl .nil 0 [],.sl .nil 0 [],.sl .nil 0 []]
theorem A3O (h:Hp):JO Tryz.prog h 27=some (.ptr h.length 0 0,h ++ [.live 5 [z5]]):=JE (row:=z5) (by kernel_rfl)
theorem A08 (s:ByteArray):JV Tryz.prog 65 [(0,.str s),(1,.int .i64 2),(2,.int .i64 1)]=some (.agg [.str s,.int .i64 2,.int .i64 1,.int .i64 0]):=by kernel_rfl
theorem A07 (s:ByteArray):JV Tryz.prog 65 [(0,.str s),(1,.int .i64 2),(3,.int .i64 3)]=some (.agg [.str s,.int .i64 2,.int .i64 0,.int .i64 3]):=by kernel_rfl
theorem A3F (h:Hp):ER Tryz.prog false h 22 3 [(0,.agg [.str nA,.int .i64 2,.int .i64 1,.int .i64 0]),(1,.agg [.str nS,.int .i64 2,.int .i64 0,.int .i64 3]),(2,.agg [.str nB,.int .i64 2,.int .i64 1,.int .i64 0])]=some (.sl .full 4 [E5 vA,E5 vS,E5 vB],h):=by kernel_rfl
theorem A0X (h:Hp):ER Tryz.prog false h 29 2 [(0,.int .i64 0),(1,.int .i64 2)]=some (.sl .full 1 [[.int .i64 0],[.int .i64 2]],h):=by kernel_rfl
theorem A0W (h:Hp):ER Tryz.prog false h 29 3 [(0,.int .i64 0),(1,.int .i64 (-1)),(2,.int .i64 2)]=some (.sl .full 1 (([0,-1,2]:List Int).map qencI),h):=by kernel_rfl
theorem A3E (h:Hp) (xs:List (List AV)):ER Tryz.prog false h 25 1 [(0,.sl .full 1 xs)]=some (.sl .full 1 [[.sl .full 1 xs]],h):=by kernel_rfl
theorem A3J (a c:List (List AV)):JV Tryz.prog 27 [(0,.sl .full 4 a),(4,.sl .full 1 c)]=some (.agg [.sl .full 4 a,.sl .nil 0 [],.sl .nil 0 [],.sl .nil 0 [],.sl .full 1 c]):=by kernel_rfl
theorem A2B {H:Hp} {b:Nat} {row cs:List AV} (hb:H[b]? = some (.live 5 [row])) (hr:row.length=5) (hc:cs.length=5) (hl:cs.all AV.leaf=true):FB Tryz.prog H 27 (.ptr b 0 0) (.agg cs)=some (H.set b (.live 5 [cs])):=by
 rw [XG (cs:=cs) (QN hl) (by rw [hc]; exact UG) hb (by rw [hr,hc]; exact jO 5)]
 have:splice row 0 cs=cs:=by unfold splice; rw [qA,zI (by rw [hr,hc]; exact jO 5)]; simp
 rw [this]
theorem AVT (s:ByteArray):JV Tryz.prog 37 [(0,.int .i64 2),(2,.str s)]=some (.agg (w4 s)):=by kernel_rfl
theorem A0Z (h:Hp):ER Tryz.prog false h 23 2 [(0,.agg (w4 nA)),(1,.agg (w4 nB))]=some (.sl .full 4 [w4 nA,w4 nB],h):=by kernel_rfl
theorem A1A (xs:List (List AV)):JV Tryz.prog 37 [(0,.int .i64 15),(3,.sl .full 4 xs)]=some (.agg [.int .i64 15,.int .i64 0,.str ⟨#[]⟩,.sl .full 4 xs]):=by kernel_rfl
theorem A00 (h:Hp):ER Tryz.prog false h 23 1 [(0,.agg wAB)]=some (.sl .full 4 [wAB],h):=by kernel_rfl
theorem A0S (h:Hp) (a b c d:Bool):ER Tryz.prog false h 55 4 [(0,.bool a),(1,.bool b),(2,.bool c),(3,.bool d)]=some (.sl .full 1 ([a,b,c,d].map AEM),h):=by kernel_rfl
theorem ASR:NJ smp=0:=by kernel_rfl
theorem AWM:KC smp = [0,-1,2]:=by kernel_rfl
theorem AYX:sE smp (vX nS)=0:=by kernel_rfl
theorem AVD:AFB smp (KC smp) (vX nS) dg0=some (1,dg0):=by kernel_rfl
def A2N (o:Except Int (Nat × Dg)):Bool:=match o with
 | .ok (t,l)=>decide (t < l.length) && (ev l (bA [true,false,true,false]) t && !ev l (bA [true,false,true,true]) t)
 | .error _=>false
theorem AWN:A2N (AAX smp [eAB] 1 dg0)=true:=by kernel_rfl
theorem AMT {p:Pr} : ∀ (es:List Ex) (t:Nat) (l:Dg) (r:Nat) (l':Dg),VD l→t < l.length→AAX p es t l = .ok (r,l')→VD l'∧r < l'.length
 | [],t,l,r,l',v,ht,h=>by
   have h:(Except.ok (t,l):Except Int (Nat × Dg)) = .ok (r,l'):=h
   cases h; exact ⟨v,ht⟩
 | e :: es,t,l,r,l',v,ht,h=>by
   unfold AAX at h
   split at h
   ·cases h
   ·rename_i hs
    have hs:sE p e=0:=by simpa using hs
    have hok:EOk p e∧NJ p=0:=by
     unfold sE at hs
     split at hs
     ·split at hs
      ·rename_i a b; exact ⟨EOk.of b hs,a⟩
      ·cases hs
     ·cases hs
    split at h
    ·cases h
    ·rename_i f l1 hf
     obtain ⟨v1,x1,_,r1,_⟩:=ALQ (lvs:=KC p) (PV.of hok.2).pok hok.1 v f l1 hf
     split at h
     ·cases h
     ·rename_i u l2 hu
      obtain ⟨v2,x2,_,r2,_⟩:=PI v1 (x1.lt ht) r1 u l2 hu
      exact AMT es u l2 r l' v2 r2 h
theorem AJB:PrS smp:=by
 refine ⟨by decide,?_,by decide,?_,by decide,?_,by decide,by decide⟩
 ·intro v hv
  simp [smp,vA,vS,vB] at hv
  rcases hv with rfl | rfl | rfl <;> decide
 ·intro e he; simp [smp] at he
 ·intro d hd; simp [smp] at hd
section
variable (G:Nat→AV)
theorem WA (h:Hp):PCall (En G) 34 [] h (.agg (DZ smp)):=by
 refine PCall.res (r := .agg wP) ?_ AYI
 refine ACalls.pure (R:=fun v H=>v = .agg wP∧Sm.ext h H) 3 ?_ (fun v h' ⟨e,x⟩=>⟨x,by subst e; rfl⟩)
 refine acN Tryz.func34 rfl ?_
 show awp _ _ _ _ _ (EH _ [.cell 0 27] _)
 have g0:=CV h (ABlk.live 5 [z5])
 have hst:FB Tryz.prog (h ++ [ABlk.live 5 [z5]]) 27 (.ptr h.length 0 0) (.agg [.sl .full 4 [E5 vA,E5 vS,E5 vB],.sl .nil 0 [],.sl .nil 0 [],.sl .nil 0 [],.sl .full 1 [[.sl .full 1 [[.int .i64 0],[.int .i64 2]]]]])=some ((h ++ [ABlk.live 5 [z5]]).set h.length (.live 5 [wP])):=A2B g0 rfl rfl rfl
 simp -implicitDefEqProofs only [FT,FX,BC,A8,BK,A7,AZ,BB,AC,AQ,AO,BD,AX,AL,DK,AA,AY,AU,BH,IW,EF,H8,FU,DC,BR,AB,CJ,↓reduceIte,jA,jB,jC,enP,jJ,A3O,A08,A07,A3F,A0X,A3E,A3J,hst]
 rw [IK _ _ _ _ _ _ _ _ _ (show _=AV.ptr h.length 0 0 by simp -implicitDefEqProofs only [AA,↓reduceIte,jA])]
 refine ⟨.agg wP,?_,rfl,((ext.rfl' h).app _).set (jO _) _⟩
 rw [GH VR UG (DY g0) rfl (jO 5)]; rfl
end
theorem QCall.args {E:Env} {f:FuncId} {args args':List AV} {h:Hp} {Q:AV→Prop} (hc:QCall E f args' h Q) (ha:CvRL args args'):QCall E f args h Q:=ACalls.args hc ha
theorem AML:(dg0.map Nd.raw).map EG=dg0.map DJ:=PU dg0
section
variable (G:Nat→AV)
set_option maxHeartbeats 2000000 in
theorem MJ (hG:GOk G) (h:Hp):PCall (En G) 13 [] h (.bool true):=by
 refine ACalls.pure0 rfl ?_
 refine acN Tryz.func13 rfl ?_
 show awp _ _ _ _ _ (EH _ [.tmp 0] _)
 simp -implicitDefEqProofs only [BC,A8,A7,AZ,BB,AC,AQ,AO,BD,AX,AL,AU,BZ,BL,BA,CB,BP,jE,jD,jB,jC,enP]
 refine (WA G h).use ?_
 simp -implicitDefEqProofs only [AZ,AC,AQ,AO,BD,AX,AL,AA,AY,BZ,CB,BP,jF,jE,jD,↓reduceIte,jB,jC]
 have hL:=Q3 G hG smp AJB h
 have lv:lvV smp = .sl .any 1 (([0,-1,2]:List Int).map qencI):=by unfold lvV; rw [if_pos ASR,AWM]
 rw [lv] at hL
 refine hL.use ?_
 simp -implicitDefEqProofs only [BC,A8,A7,AZ,BB,AC,AQ,AO,BD,AX,AL,AA,AY,BZ,BA,CB,BP,jF,jE,jD,↓reduceIte,jB,jC]
 refine (AJN G h).use ?_
 simp -implicitDefEqProofs only [AZ,AC,AQ,AO,BD,AX,AL,BZ,CB,BP,jE,jD,jB,jC]
 refine (WA G h).use ?_
 simp -implicitDefEqProofs only [FT,FX,AZ,AC,AQ,AO,BD,AX,AL,AA,AY,AU,BZ,BH,IW,H8,CB,BP,AB,jF,jE,jD,↓reduceIte,jA,jB,jC,enP,AVT]
 have hT:=AC9 G hG (dg0.map Nd.raw) .full (by decide) smp AJB (vX nS) (by decide) h
 rw [AML] at hT
 refine (QCall.args hT (CvRL.cons (CvR.refl _) (CvRL.cons (CvR.refl _) (CvRL.cons (AYJ nS) CvRL.nil)))).use ?_
 have hst:stE (dg0.map Nd.raw) smp (vX nS)=0:=by rw [QV vd0]; exact AYX
 rintro v (⟨hne,_⟩ | ⟨_,l0,hl0,_,⟨hN,_⟩ | ⟨f,l1,m1,hF,rfl⟩⟩)
 ·exact absurd hst hne
 ·obtain rfl:=NL hl0
  rw [AVD] at hN; cases hN
 obtain rfl:=NL hl0
 rw [AVD] at hF
 obtain ⟨rfl,rfl⟩:1=f∧dg0=l1:=by
  have:=Option.some.inj hF
  exact ⟨congrArg Prod.fst this,congrArg Prod.snd this⟩
 have stT : ∀ (H:Hp) (m:SM) (xs:List (List AV)),FB Tryz.prog (H ++ [ABlk.live 1 [[.sl .nil 0 []]]]) 35 (.ptr H.length 0 0) (.agg [.sl m 3 xs])=some (H ++ [ABlk.live 1 [[.sl m 3 xs]]]):=fun H m xs=>by rw [LP (CV H _),JI]
 unfold dgA iA
 simp -implicitDefEqProofs only [jP,jQ,BC,A8,A7,AZ,BB,AC,AQ,AO,BD,AX,AL,DK,AA,AY,BZ,BG,BA,EF,DC,EJ,FP,CB,BP,BR,AB,CJ,jE,jD,↓reduceIte,jA,jB,jC,enP,jJ,OO,stT]
 have q2:=CV h (ABlk.live 1 [[.sl m1 3 (dg0.map DJ)]])
 have hx:ext h (h ++ [ABlk.live 1 [[.sl m1 3 (dg0.map DJ)]]]):=(ext.rfl' h).app _
 generalize h ++ [ABlk.live 1 [[.sl m1 3 (dg0.map DJ)]]]=H1 at q2 hx ⊢
 generalize hb2:h.length=b2 at q2 ⊢
 refine (WA G H1).use ?_
 simp -implicitDefEqProofs only [FT,FX,AZ,AC,AQ,AO,BD,AX,AL,AA,AY,AU,BZ,BH,IW,H8,FU,CB,BP,BR,AB,jF,jE,jD,↓reduceIte,jA,jB,jC,enP,AVT,A0Z,A1A,show ER Tryz.prog false H1 23 1 [(0,.agg [.int .i64 15,.int .i64 0,.str ⟨#[]⟩,.sl .full 4 [w4 nA,w4 nB]])]=some (.sl .full 4 [wAB],H1) from A00 H1]
 have hA:=AR6 G hG smp AJB [eAB] .full (by decide) (fun e he=>by rw [List.mem_singleton] at he; subst he; decide) H1
 refine (QCall.args hA (CvRL.cons (CvR.refl _) (CvRL.cons (CvR.sl (wc1 ASF)) CvRL.nil))).use ?_
 have hab:=AWN
 intro v hv
 cases ho:AAX smp [eAB] 1 dg0 with
 | error k=>rw [ho] at hab; have hab:false=true:=hab; cases hab
 | ok q =>
   obtain ⟨t,l⟩:=q
   rw [ho] at hab hv
   obtain ⟨m2,rfl⟩:=hv
   obtain ⟨vl,tl⟩:=AMT _ _ _ _ _ vd0 (by decide) ho
   have hab:(decide (t < l.length) && (ev l (bA [true,false,true,false]) t && !ev l (bA [true,false,true,true]) t))=true:=hab
   simp only [Bool.and_eq_true,Bool.not_eq_true'] at hab
   obtain ⟨_,ha1,ha2⟩:=hab
   unfold dgA iA
   simp -implicitDefEqProofs only [jP,jQ,FT,FX,BC,A8,A7,AZ,BB,AC,AQ,AO,BD,AX,AL,DK,AA,AY,AU,BH,BG,BA,EF,FU,DC,EJ,FP,BR,AB,CJ,↓reduceIte,jA,jB,jC,enP,jJ,OO,stT]
   have q2:=BN (x:=ABlk.live 1 [[.sl m2 3 (l.map DJ)]]) q2
   have q5:=CV H1 (ABlk.live 1 [[.sl m2 3 (l.map DJ)]])
   have hx:=hx.app [ABlk.live 1 [[.sl m2 3 (l.map DJ)]]]
   generalize H1 ++ [ABlk.live 1 [[.sl m2 3 (l.map DJ)]]]=H2 at q2 q5 hx ⊢
   generalize H1.length=b5 at q5 ⊢
   have g2:DF Tryz.prog H2 33 (.ptr b2 0 0)=some (.sl m1 3 (dg0.map DJ)):=by rw [DI AGJ q2 rfl]; rfl
   have d1:=YR G l m2 vl t tl [true,false,true,false] .full H2
   have d2:=YR G l m2 vl t tl [true,false,true,true] .full H2
   rw [ha1] at d1
   rw [ha2] at d2
   simp -implicitDefEqProofs only [AZ,AC,AQ,AO,BD,AX,AL,AA,AY,BZ,CB,BP,BR,jF,jE,jD,↓reduceIte,jA,jB,jC,A0W]
   have hs:=PQ G (isS.of .any [0,-1,2]) (isS.of .full [0,-1,2]) (by decide) (by decide) H2
   rw [decide_eq_true rfl] at hs
   refine hs.use ?_
   simp -implicitDefEqProofs only [FT,FX,AZ,BM,CE,CQ,FY,AC,AQ,AO,BD,AX,AL,AA,AY,AU,BZ,BH,BL,BG,CS,DL,FU,BO,BX,BJ,EW,CB,BP,BR,AB,EC,jF,jE,jD,↓reduceIte,jA,jI,jB,jC,enP,QR,KG,g2,jM,show ((dg0.length:Nat):Int)=2 from rfl,Int.reduceBEq,beq_self_eq_true,show ((((1:Nat):Int)) == 1)=true from rfl,JA q5,A0S]
   refine (show PCall (En G) 35 [.agg [.sl m2 3 (l.map DJ)],.int .i64 (t:Nat),.sl .full 1 (([true,false,true,false]:List Bool).map AEM)] H2 (.bool true) from d1).use ?_
   simp -implicitDefEqProofs only [FT,FX,AZ,BM,CE,CQ,FY,AC,AQ,AO,BD,AX,AL,AA,AY,AU,BZ,BL,BG,CS,DL,FU,BO,CB,BP,BR,AB,jF,jE,jD,↓reduceIte,jA,jB,jC,enP,JA q5,A0S]
   refine (show PCall (En G) 35 [.agg [.sl m2 3 (l.map DJ)],.int .i64 (t:Nat),.sl .full 1 (([true,false,true,true]:List Bool).map AEM)] H2 (.bool false) from d2).use ?_
   simp -implicitDefEqProofs only [BK,A7,CU,AZ,BB,BM,CE,CQ,FY,AC,AQ,AO,BD,AX,AL,AA,AY,AU,BL,BA,CS,DL,IQ,AB,FI,↓reduceIte,jA,jB,jC]
   exact ⟨by trivial,hx⟩
end
theorem AX6 {p:Pr} (h:NJ p=0):POk p (KC p):=(PV.of h).pok
theorem stT (H:Hp) (m:SM) (k:Nat) (xs:List (List AV)):FB Tryz.prog (H ++ [ABlk.live 1 [[.sl .nil 0 []]]]) 35 (.ptr H.length 0 0) (.agg [.sl m k xs])=some (H ++ [ABlk.live 1 [[.sl m k xs]]]):=by rw [LP (CV H _),JI]
theorem ldG {H:Hp} {b:Nat} {m:SM} {k:Nat} {xs:List (List AV)} (hb:H[b]? = some (.live 1 [[.sl m k xs]])):DF Tryz.prog H 33 (.ptr b 0 0)=some (.sl m k xs):=by rw [DI AGJ hb rfl]; rfl
theorem A17 (h:Hp) (r:Rn):FB Tryz.prog (h ++ [ABlk.live 3 [i3 0 0 0]]) 61 (.ptr h.length 0 0) (.agg (EG r))=some (h ++ [ABlk.live 3 [EG r]]):=by
 rw [XG (cs:=EG r) (QN rfl) N9 (CV _ _) (jO 3),LD]; rfl
theorem A2R {H:Hp} {b:Nat} {r:Rn} (hb:H[b]? = some (.live 3 [EG r])):DF Tryz.prog H 61 (.ptr b 0 0)=some (.agg (EG r)):=by
 rw [GH TN N9 hb (row:=EG r) rfl (jO 3)]; rfl
theorem AB5 {H:Hp} {b:Nat} {p:Pr} (hb:H[b]? = some (.live 5 [DZ p])):DF Tryz.prog H 27 (.ptr b 0 0)=some (.agg (DZ p)):=by
 rw [GH VR UG hb (row:=DZ p) rfl (by rw [JF]; exact jO 5)]; rfl
section
variable (G:Nat→AV)
set_option maxHeartbeats 4000000 in
theorem AVI (hG:GOk G) (R:List Rn) (m:SM) (hR:R.length≤1048576) (p:Pr) (hs:PrS p) (e:Ex) (hw:wt e≤1048576) (h:Hp):PCall (En G) 8 [.agg [.sl m 3 (R.map EG)],.agg (DZ p),.agg (DR e)] h (.bool true):=by
 refine ACalls.pure0 rfl ?_
 refine acN Tryz.func8 rfl ?_
 show awp _ _ _ _ _ (EH _ [.tmp 6] _)
 simp -implicitDefEqProofs only [BC,A8,A7,AZ,BB,AC,AQ,AO,BD,AX,AL,AA,AY,AU,BL,BA,FK,BO,BR,BF,BU,↓reduceIte,jA,jB,jC,enP,UA,TZ,bxE]
 generalize hX:h ++ [ABlk.live 1 [[.sl m 3 (R.map EG)]]] ++ [ABlk.live 5 [DZ p]] ++ [ABlk.live 4 [DR e]]=X
 have hx:ext h X:=by rw [← hX]; exact (((ext.rfl' h).app _).app _).app _
 have q3:X[h.length]? = some (.live 1 [[.sl m 3 (R.map EG)]]):=by rw [← hX]; exact BN (BN (CV _ _))
 have q4:X[h.length+1]? = some (.live 5 [DZ p]):=by rw [← hX]; exact BN (GK (by simp))
 have q5:X[h.length+2]? = some (.live 4 [DR e]):=by rw [← hX]; exact GK (by simp)
 have e1:(h ++ [ABlk.live 1 [[AV.sl m 3 (R.map EG)]]]).length=h.length+1:=by simp
 have e2:(h ++ [ABlk.live 1 [[AV.sl m 3 (R.map EG)]]] ++ [ABlk.live 5 [DZ p]]).length=h.length+2:=by simp
 rw [e1,e2]
 clear hX
 simp -implicitDefEqProofs only [AZ,AC,AQ,AO,BD,AX,AL,AA,AY,BZ,BO,CB,BP,AB,jF,jE,jD,↓reduceIte,jA,jB,jC,enP,JA q3,AB5 q4,IU q5]
 refine (AD7 G p hs e hw (isD.of m R) X).use ?_
 rintro v ⟨b,rfl⟩
 cases b
 ·simp -implicitDefEqProofs only [BC,A8,BI,A7,D6,AZ,BB,AC,AQ,AO,BD,AX,AL,AA,AY,BZ,IQ,CB,BP,AB,FI,jE,jD,↓reduceIte,jB,jC]
  refine (MJ G hG X).use ?_
  simp -implicitDefEqProofs only [BK,A7,CW,CU,AZ,BB,AC,AQ,AO,BD,AX,AL,AA,AY,BA,↓reduceIte,jB,jC]
  exact ⟨by trivial,hx⟩
 simp -implicitDefEqProofs only [BC,A8,BQ,BI,A7,D9,AZ,BB,AC,AQ,AO,BD,AX,AL,AA,AY,BZ,BO,IQ,CB,BP,AB,FI,jF,jE,jD,↓reduceIte,jA,jB,jV,jC,enP,JA q3,AB5 q4,IU q5]
 refine (VK G hG R m hR p hs e hw X).use ?_
 have bad : ∀ k:Int,k≠0→∀ (b7:Nat) (H:Hp),H[b7]? = some (.live 1 [[.sl .nil 0 []]])→DF Tryz.prog H 33 (.ptr b7 0 0)=some (.sl .nil 0 []):=fun _ _ b7 H q=>ldG q
 rintro v (⟨hne,rfl⟩ | ⟨h0,l,rfl,vl,⟨hN,rfl⟩ | ⟨w,l',m',hW,rfl⟩⟩)
 ·have hb:(stE R p e != 0)=true:=by simpa using hne
  have q7:=CV X (ABlk.live 1 [[.sl .nil 0 []]])
  unfold zD
  simp -implicitDefEqProofs only [jP,jQ,BC,A8,BI,A7,D6,AZ,BB,BM,CE,CQ,FY,AC,AQ,AO,BD,AX,AL,DK,AA,AY,AU,BZ,BH,BL,BG,BA,CS,DL,EF,BO,DC,BX,BJ,EJ,FP,EW,CB,BP,BR,AB,CJ,EC,EU,jE,jD,↓reduceIte,jA,jI,jB,jC,enP,VN,QR,KG,jJ,OO,stT,hb,ldG q7,List.length_nil,show (((0:Nat):Int) == 0)=true from rfl]
  refine (MJ G hG _).use ?_
  simp -implicitDefEqProofs only [BK,A7,CW,CU,AZ,BB,AC,AQ,AO,BD,AX,AL,AA,AY,AU,BL,BA,CS,DL,↓reduceIte,jA,jB,jC]
  exact ⟨by trivial,hx.app _⟩
 ·have q7:=CV X (ABlk.live 1 [[.sl .nil 0 []]])
  unfold zD
  simp -implicitDefEqProofs only [jP,jQ,BC,A8,BI,A7,D6,AZ,BB,BM,CE,CQ,FY,AC,AQ,AO,BD,AX,AL,DK,AA,AY,AU,BZ,BH,BL,BG,BA,CS,DL,EF,BO,DC,BX,BJ,EJ,FP,EW,CB,BP,BR,AB,CJ,EC,EU,jE,jD,↓reduceIte,jA,jI,jB,jC,enP,VN,QR,KG,jJ,OO,stT,show ((2:Int) != 0)=true from rfl,ldG q7,List.length_nil,show (((0:Nat):Int) == 0)=true from rfl]
  refine (MJ G hG _).use ?_
  simp -implicitDefEqProofs only [BK,A7,CW,CU,AZ,BB,AC,AQ,AO,BD,AX,AL,AA,AY,AU,BL,BA,CS,DL,↓reduceIte,jA,jB,jC]
  exact ⟨by trivial,hx.app _⟩
 obtain ⟨hv0,hx0,hok⟩:=AJA h0
 obtain ⟨v',x',hst,⟨w16,ow⟩,_⟩:=PO (lvs:=KC p) (AX6 hv0) e hok l vl w l' hW
 have hW2:=hst l' v' (Xt.rfl' l')
 have hraw:(l.map Nd.raw).map EG=l.map DJ:=PU l
 have q7:=CV X (ABlk.live 1 [[.sl m' 3 (l'.map DJ)]])
 have q3:=BN (x:=ABlk.live 1 [[.sl m' 3 (l'.map DJ)]]) q3
 have q4:=BN (x:=ABlk.live 1 [[.sl m' 3 (l'.map DJ)]]) q4
 have q5:=BN (x:=ABlk.live 1 [[.sl m' 3 (l'.map DJ)]]) q5
 have hx:=hx.app [ABlk.live 1 [[.sl m' 3 (l'.map DJ)]]]
 have hxl:=x'.len
 have hmx:=v'.mx
 have c1:decide (((l'.length:Nat):Int) < (l.length:Nat))=false:=by rw [decide_eq_false_iff_not]; omega
 rw [hraw] at q3
 unfold dgA
 simp -implicitDefEqProofs only [jP,jQ,BC,A8,BQ,BI,A7,D9,AZ,BB,BM,CE,CQ,EZ,AC,AQ,AO,BD,AX,AL,DK,AA,AY,AU,BH,BG,BA,EF,BO,DC,BX,BJ,EJ,FP,EW,BR,AB,CJ,EU,C9,↓reduceIte,jA,jI,jB,jC,enP,QR,KG,jJ,OO,stT,bne_self_eq_false,ldG q7,ldG q3,jM,c1]
 generalize X ++ [ABlk.live 1 [[AV.sl m' 3 (l'.map DJ)]]]=Y at q3 q4 q5 q7 hx ⊢
 generalize X.length=b7 at q7 ⊢
 simp -implicitDefEqProofs only [BM,CE,CQ,EZ,AC,AQ,AO,BD,AX,AL,AA,AY,BZ,CB,BP,AB,jF,jE,jD,↓reduceIte,jA,jB,jC,JA q7]
 have hV:=AGY G (l'.map Nd.raw) m' (by rw [jM]; omega) Y
 rw [PU,AI9 v'] at hV
 refine hV.use ?_
 simp -implicitDefEqProofs only [BC,CG,A8,BQ,BI,A7,D9,AZ,BB,BM,CE,CQ,EZ,AC,AQ,AO,BD,AX,AL,AA,AY,AU,BH,BL,BG,CS,DU,BO,IQ,BJ,EW,AB,FI,↓reduceIte,jA,jI,jB,jV,jC,enP,QR,KG,c1,ldG q3,jM]
 refine G6 0 (fun F H=>ext Y H∧F 4 = .ptr (h.length+1) 0 0∧F 5 = .ptr (h.length+2) 0 0∧F 7 = .ptr b7 0 0∧F 8 = .sl .any 1 ((wI w).map qencI)) (fun _ _=>False) ?_ ?_ (fun _ _ q=>q.elim)
 ·refine D5 (fun n F H => ∃ i,n+i=l.length∧ext Y H∧F 4 = .ptr (h.length+1) 0 0∧F 5 = .ptr (h.length+2) 0 0∧F 7 = .ptr b7 0 0∧F 8 = .sl .any 1 ((wI w).map qencI)∧F 56 = .sl m 3 (l.map DJ)∧F 57 = .int .i64 (l.length:Nat)∧F 58 = .int .i64 (i:Nat)) l.length
   ⟨0,rfl,ext.rfl' Y,by simp -implicitDefEqProofs only [AA,↓reduceIte,jA],by simp -implicitDefEqProofs only [AA,↓reduceIte,jA],by simp -implicitDefEqProofs only [AA,↓reduceIte,jA],by simp -implicitDefEqProofs only [AA,↓reduceIte,jA],by simp -implicitDefEqProofs only [AA,↓reduceIte,jA],by simp -implicitDefEqProofs only [AA,↓reduceIte,jA],by simp -implicitDefEqProofs only [AA,↓reduceIte]; rfl⟩ ?_
  rintro n F H ⟨i,hn,hxH,f4,f5,f7,f8,f56,f57,f58⟩
  have ec:decide (((i:Nat):Int) < (l.length:Nat))=decide (i < l.length):=by rw [decide_eq_decide]; omega
  simp -implicitDefEqProofs only [BC,A8,BI,A7,AZ,BB,AC,AQ,AO,BD,AX,AL,AA,AY,BX,AB,C9,↓reduceIte,jB,jC,enP,f57,f58,ec]
  refine CX (fun hc => ?_) (fun hc => ?_)
  ·have hi:i < l.length:=by simpa using hc
   have hi':i < l'.length:=by omega
   have qn:=CV H (ABlk.live 3 [DJ l[i]])
   have q7H:=BN (x:=ABlk.live 3 [DJ l[i]]) (FN hxH q7)
   have hxH:=hxH.app [ABlk.live 3 [DJ l[i]]]
   have sN:FB Tryz.prog (H ++ [ABlk.live 3 [i3 0 0 0]]) 61 (.ptr H.length 0 0) (.agg (DJ l[i]))=some (H ++ [ABlk.live 3 [DJ l[i]]]):=A17 H l[i].raw
   have heq:l'[i]=l[i]:=by
    have h1:=x'.get (jS hi)
    rw [jS hi'] at h1
    exact Option.some.inj h1
   have lN:=FQ (P:=Tryz.prog) (k:=3) (h:=H ++ [ABlk.live 3 [DJ l[i]]]) TN N9 VF hi'
   rw [heq] at lN
   have lO:DF Tryz.prog (H ++ [ABlk.live 3 [DJ l[i]]]) 61 (.ptr H.length 0 0)=some (.agg (DJ l[i])):=A2R (r:=l[i].raw) qn
   have nq:I8 Tryz.prog 61 .neq (.agg (DJ l[i])) (.agg (DJ l[i]))=some (.bool false):=by
    have:=AP0 l[i].raw l[i].raw
    rw [decide_eq_true rfl] at this
    exact this
   simp -implicitDefEqProofs only [BC,CG,A8,BQ,A7,AZ,BB,AC,AQ,AO,BD,AX,AL,DK,AA,AY,BG,BA,EF,BO,DC,CO,BR,AB,CJ,↓reduceIte,jA,jB,jC,enP,TY,jJ,f56,f58,EQ hi,FQ TN N9 VF hi,AVV,sN]
   refine GL (by kernel_rfl) ?_
   simp -implicitDefEqProofs only [FC,DT,CZ,D8,DV,ED,EK,IE,D7,ES,A8,BQ,BI,A7,ET,EX,D9,AZ,BB,AC,AQ,AO,BD,AX,AL,AA,AY,AU,BH,BG,BO,BX,BJ,CO,AB,DX,↓reduceIte,jA,jL,jI,jB,jC,enP,TY,KG,f7,f58,ldG q7H,EQ hi',lN,lO,nq,wrap_succ (show i < 9223372036854775807 by omega)]
   exact ⟨n - 1,by omega,i+1,by omega,hxH,by trivial,by trivial,by trivial,by trivial,by trivial,by trivial,by trivial⟩
  ·simp -implicitDefEqProofs only [DW,EP,KE,FM,AA,↓reduceIte,jA]
   exact ⟨hxH,f4,f5,f7,f8⟩
 ·rintro F H ⟨hxH,f4,f5,f7,f8⟩
  have q4:=FN hxH q4
  have q5:=FN hxH q5
  have q7:=FN hxH q7
  have hx:=hx.trans hxH
  simp -implicitDefEqProofs only [BC,A8,A7,FH,AZ,AC,AQ,AO,BD,AX,AL,AA,AY,BZ,BO,CB,BP,AB,jF,jE,jD,↓reduceIte,jA,jB,jC,enP,f4,f5,f7,JA q7,AB5 q4,IU q5]
  have hWd:=VK G hG (l'.map Nd.raw) m' (by rw [jM]; omega) p hs e hw H
  rw [PU] at hWd
  refine hWd.use ?_
  have hst':stE (l'.map Nd.raw) p e=0:=by rw [QV v',← QV vl]; exact h0
  rintro v (⟨hne,_⟩ | ⟨_,l2,hl2,_,⟨hN,_⟩ | ⟨w2,l3,m3,hW3,rfl⟩⟩)
  ·exact absurd hst' hne
  ·obtain rfl:=NL hl2
   rw [hW2] at hN; cases hN
  obtain rfl:=NL hl2
  rw [hW2] at hW3
  obtain ⟨rfl,rfl⟩:w=w2∧l'=l3:=by
   have:=Option.some.inj hW3
   exact ⟨congrArg Prod.fst this,congrArg Prod.snd this⟩
  have q12:=CV H (ABlk.live 1 [[.sl m3 3 (l'.map DJ)]])
  have q7:=BN (x:=ABlk.live 1 [[.sl m3 3 (l'.map DJ)]]) q7
  have hx:=hx.app [ABlk.live 1 [[.sl m3 3 (l'.map DJ)]]]
  unfold dgA
  simp -implicitDefEqProofs only [jP,jQ,BC,A8,A7,AZ,BB,BM,CE,CQ,FY,AC,AQ,AO,BD,AX,AL,DK,AA,AY,AU,BH,BG,BA,EF,BO,DC,BX,EJ,FP,BR,AB,CJ,EC,↓reduceIte,jA,jB,jC,enP,jJ,OO,stT,beq_self_eq_true,f7]
  generalize H ++ [ABlk.live 1 [[AV.sl m3 3 (l'.map DJ)]]]=H2 at q7 q12 hx ⊢
  generalize H.length=b12 at q12 ⊢
  simp -implicitDefEqProofs only [BM,CE,CQ,FY,AC,AQ,AO,BD,AX,AL,AA,AY,BZ,BO,CB,BP,AB,jF,jE,jD,↓reduceIte,jA,jB,jC,enP,f7,JA q12,JA q7]
  have hS:=APH G (isD.dg m3 l') (isD.dg m' l') (by rw [jM]; omega) (by rw [jM]; omega) H2
  rw [decide_eq_true rfl] at hS
  refine (show PCall (En G) 17 [.agg [.sl m3 3 (l'.map DJ)],.agg [.sl m' 3 (l'.map DJ)]] H2 (.bool true) from hS).use ?_
  simp -implicitDefEqProofs only [AZ,BM,CE,CQ,FY,AC,AQ,AO,BD,AX,AL,AA,AY,AU,BZ,BL,BG,CS,DL,CB,BP,jF,jE,jD,↓reduceIte,jA,jB,jC,f8]
  have hI:=PQ G (isS.of .any (wI w)) (isS.of .any (wI w)) (by rw [ABM,w16]; omega) (by rw [ABM,w16]; omega) H2
  rw [decide_eq_true rfl] at hI
  refine hI.use ?_
  simp -implicitDefEqProofs only [AZ,BM,CE,CQ,FY,AC,AQ,AO,BD,AX,AL,AA,AY,AU,BZ,BL,BG,CS,DL,CB,BP,jE,jD,↓reduceIte,jA,jB,jC]
  refine (MJ G hG H2).use ?_
  simp -implicitDefEqProofs only [BK,A7,CU,AZ,BB,AC,AQ,AO,BD,AX,AL,AA,AY,AU,BL,BA,CS,DL,↓reduceIte,jA,jB,jC]
  exact ⟨by trivial,hx⟩
end
theorem ASD {L:Dg} (v:VD L) {x y:Wrd} (hl:x.length=y.length) (hx:LOk L x) (hy:LOk L y) (h : ∀ β,val L β x=val L β y):x=y:=by
 refine List.ext_getElem hl fun i h1 h2 => ?_
 refine canon v (hx _ (jX h1)) (hy _ (jX h2)) fun β => ?_
 have e1:=OT L β x i
 have e2:=OT L β y i
 rw [h β,e2] at e1
 rw [zK,zK,jS h1,jS h2] at e1
 exact e1.symm
theorem U7 {s:ByteArray} (h:H7 s=true):s.size≤16:=by
 unfold H7 at h
 have:=(Bool.and_eq_true_iff.1 (Bool.and_eq_true_iff.1 h).1).2
 simpa using this
theorem ASN (s:ByteArray):s.size=s.data.toList.length:=(Array.length_toList).symm
theorem AN6 {s:ByteArray} (h:(JP s).isSome=true):s.size≤19:=by
 unfold JP at h
 split at h
 ·rename_i h4
  split at h
  ·split at h
   ·rename_i hc
    have hn:=(Bool.and_eq_true_iff.1 hc).2
    have:=U7 hn
    rw [ASN] at this ⊢
    simp at this
    simp at h4 ⊢
    omega
   ·cases h
  ·cases h
 ·cases h
theorem AO0 {s:ByteArray} (h:IV s=true):s.size≤19:=by
 unfold IV at h
 rcases Bool.or_eq_true_iff.1 h with q | q
 ·exact AN6 q
 ·have:=U7 q; omega
theorem AHR {s:ByteArray} (h:O9 s=true):s.size=0:=by
 unfold O9 at h
 have:=str_eq h
 rw [this]; rfl
theorem ANL {e:Ex} (h:JB e=0):e.name.size≤19:=by
 unfold JB at h
 have hO:RU e=false:=by
  cases hb:RU e
  ·rfl
  ·rw [hb] at h; simp at h
 have hN:ZP e=false:=by
  cases hb:ZP e
  ·rfl
  ·rw [hO,hb] at h; simp at h
 have hS:VQ e=false:=by
  cases hb:VQ e
  ·rfl
  ·rw [hO,hN,hb] at h; simp at h
 have hV:UB e=false:=by
  cases hb:UB e
  ·rfl
  ·rw [hO,hN,hS,hb] at h; simp at h
 unfold VQ at hS
 rw [Bool.or_eq_false_iff] at hS
 have h1:=hS.1
 unfold UB at hV
 rw [Bool.or_eq_false_iff] at hV
 obtain ⟨v1,v2⟩:=hV
 cases hn:O9 e.name
 ·rw [hn] at h1
  have h1:KQ e.op=true:=by simpa using h1
  unfold KQ at h1
  simp only [Bool.or_eq_true,beq_iff_eq] at h1
  rcases h1 with (q | q) | q
  ·rw [q] at v1
   exact AO0 (by simpa using v1)
  ·rw [q] at v2
   have:=U7 (s:=e.name) (by simpa using v2)
   omega
  ·rw [q] at v2
   have:=U7 (s:=e.name) (by simpa using v2)
   omega
 ·rw [AHR hn]; omega
theorem AYG (B:Nat) (e:Ex):(∀ x∈pre e,x.name.size≤B)→wt e≤(pre e).length * (B+1):=by
 induction e using Ex.induct with | h e ih => ?_
 intro h
 have hl : ∀ xs:List Ex,(∀ a∈xs,wt a≤(pre a).length * (B+1))→wts xs≤(IR xs).length * (B+1):=by
  intro xs
  induction xs with
  | nil=>intro _; simp [wts]
  | cons x xs ihx =>
    intro hx
    have h1:=hx x (by simp)
    have h2:=ihx fun a ha=>hx a (by simp [ha])
    simp only [wts,IR,List.length_append,zN]; omega
 have h1:=hl e.args fun a ha=>ih a ha fun x hx=>h x (by rw [pre_eq]; exact List.mem_cons_of_mem _ (XN ha x hx))
 have h2:=h e (by rw [pre_eq]; simp)
 rw [PK,pre_eq,List.length_cons,zN]; omega
theorem AT7 {e:Ex} (h0:exE e=0):(pre e).length≤400:=by
 unfold exE at h0
 split at h0
 ·cases h0
 ·rename_i q; rw [h0] at q; simp at q; omega
theorem AXJ {e:Ex} (h:exE e=0):wt e≤8000:=by
 have h1:=AYG 19 e fun x hx=>ANL (AEJ h x hx)
 have h2:=AT7 h
 omega
theorem AVS (β:Nat→Bool) (e:Nat) : ∀ n k,bv β e n k < 2 ^ n
 | 0,_=>by simp [bv]
 | n+1,k=>by
   have:=AVS β e n (k+1)
   have:=AD3 (β (e - 1 - k))
   simp only [bv,Nat.pow_succ]; omega
theorem A2K {n:Nat} (h:n≤8):2 ^ n≤256:=by
 have:=Nat.pow_le_pow_right (n:=2) (by decide) h
 simpa using this
theorem AWC {v:Vr} {lv:Int} (h:VrOk v lv) (β:Nat→Bool):vrV v lv β < 65536:=by
 unfold vrV
 by_cases hm:v.mode=0
 ·rw [if_pos hm]; have:=h.st hm; omega
 ·rw [if_neg hm]
  have:=h.rn hm
  have h1:=AVS β (lv+v.width).toNat v.width.toNat 0
  have h2:=A2K (n:=v.width.toNat) (by omega)
  omega
def aL (p:Pr) (lvs:List Int) (β:Nat→Bool):List Int:=(List.range p.vars.length).map fun i=>match p.vars[i]? with | some v=>((vrV v (lvs.getD i 0) β:Nat):Int) | none=>0
theorem AX5 (p:Pr) (lvs:List Int) (β:Nat→Bool):(aL p lvs β).length=p.vars.length:=by unfold aL; simp
theorem AH7 : ∀ (vars:List Vr) (a:List Int) (n:ByteArray) (i:Nat) (h:i < a.length),a.length=vars.length→fnm n vars=some i→QI (AT9 vars a) n=(wW a[i],true)
 | [],_,_,_,_,_,hf=>by cases hf
 | _ :: _,[],_,_,h,_,_=>by simp at h
 | v :: vs,z :: a,n,i,h,hl,hf=>by
   have e:QI (AT9 (v :: vs) (z :: a)) n=if (v.name.toList == n.toList)=true then (wW z,true) else QI (AT9 vs a) n:=rfl
   have ef:fnm n (v :: vs)=if (v.name.toList == n.toList)=true then some 0 else (fnm n vs).map (·+1):=rfl
   rw [ef] at hf
   rw [e]
   by_cases q:(v.name.toList == n.toList)=true
   ·rw [if_pos q] at hf ⊢
    obtain rfl:0=i:=Option.some.inj hf
    rfl
   ·rw [if_neg q] at hf ⊢
    cases hq:fnm n vs with
    | none=>rw [hq] at hf; cases hf
    | some j =>
      rw [hq] at hf
      obtain rfl:j+1=i:=Option.some.inj hf
      rw [AH7 vs a n j (by simpa using h) (by simpa using hl) hq]
      rfl
theorem AMU {p:Pr} {lvs:List Int} (hp:POk p lvs) (β:Nat→Bool):Agr p lvs β (AT9 p.vars (aL p lvs β)):=by
 intro n i hi hf
 have hl:=AX5 p lvs β
 rw [AH7 p.vars _ n i (by omega) hl hf]
 have:(aL p lvs β)[i]'(by omega)=((vrV p.vars[i] (lvs.getD i 0) β:Nat):Int):=by
  unfold aL
  simp only [List.getElem_map,List.getElem_range,jS hi]
 rw [this,AV9 (AWC (hp i hi) β)]
theorem AM9 {p:Pr} {lvs:List Int} (hp:POk p lvs) {e o:Ex} (he:EOk p e) (ho:EOk p o) (hv : ∀ env,Q9 env o=Q9 env e) {l l1 l2:Dg} (v:VD l) {w w2:Wrd} (h1:RY p lvs e l=some (w,l1)) (h2:RY p lvs o l1=some (w2,l2)):w2=w:=by
 obtain ⟨v1,x1,_,⟨w16,ow⟩,p1⟩:=PO hp e he l v w l1 h1
 obtain ⟨v2,x2,_,⟨w216,ow2⟩,p2⟩:=PO hp o ho l1 v1 w2 l2 h2
 refine ASD v2 (by omega) ow2 (ow.go x2) fun β => ?_
 rw [p2 l2 v2 (Xt.rfl' l2) β _ (AMU hp β),p1 l2 v2 x2 β _ (AMU hp β),hv]
theorem WordQ.shape {R:List Rn} {p:Pr} {e:Ex} {v:AV} (h:WordQ R p e v) : ∃ m k xs wm wk ws,∃ z:Int,v = .tup [.agg [.sl m k xs],.sl wm wk ws,.int .i64 z]:=by
 rcases h with ⟨_,rfl⟩ | ⟨_,l,_,_,⟨_,rfl⟩ | ⟨w,l',m,_,rfl⟩⟩
 ·exact ⟨_,_,_,_,_,_,_,rfl⟩
 ·exact ⟨_,_,_,_,_,_,_,rfl⟩
 ·exact ⟨_,_,_,_,_,_,_,rfl⟩
def kE0:Ex := .mk 1 0 ⟨#[]⟩ .nil []
def wK0:List AV := [.int .i64 1,.int .i64 0,.str ⟨#[]⟩,.sl .nil 0 []]
def o1 (e:Ex):Ex := .mk 7 0 ⟨#[]⟩ .full [e,kE0]
def o2 (e:Ex):Ex := .mk 5 0 ⟨#[]⟩ .full [.mk 5 0 ⟨#[]⟩ .full [e]]
def o3 (e:Ex):Ex := .mk 22 0 ⟨#[]⟩ .full [e,e,kE0]
def r1 (e:Ex):List AV := [.int .i64 7,.int .i64 0,.str ⟨#[]⟩,.sl .full 4 [DR e,wK0]]
def r2 (e:Ex):List AV := [.int .i64 5,.int .i64 0,.str ⟨#[]⟩,.sl .full 4 [[.int .i64 5,.int .i64 0,.str ⟨#[]⟩,.sl .full 4 [DR e]]]]
def r3 (e:Ex):List AV := [.int .i64 22,.int .i64 0,.str ⟨#[]⟩,.sl .full 4 [DR e,DR e,wK0]]
theorem UT (op n:Int) (s:ByteArray) (m:SM) (ls:List Ex):DR (.mk op n s m ls) = [.int .i64 op,.int .i64 n,.str s,.sl m 4 (ls.map DR)]:=by rw [MH]; rfl
theorem AWS (e:Ex):CvRow (DR e) (DR e):=CvRow.refl fun v hv=>List.all_eq_true.1 (OL e) v hv
theorem ALI:CvRow wK0 (DR kE0):=by
 unfold kE0
 rw [UT]
 exact CvRow.cons rfl (Cv.refl _) (CvRow.cons rfl (Cv.refl _) (CvRow.cons rfl (Cv.refl _) (CvRow.cons rfl (Cv.nil 0 4) CvRow.nil)))
theorem wc3 {m:SM} {k:Nat} {a b c a' b' c':List AV} (h1:CvRow a a') (h2:CvRow b b') (h3:CvRow c c'):Cv (.sl m k [a,b,c]) (.sl m k [a',b',c']):=Cv.rows rfl fun i r r' e1 e2=>by
 match i,e1,e2 with
 | 0,e1,e2=>cases e1; cases e2; exact h1
 | 1,e1,e2=>cases e1; cases e2; exact h2
 | 2,e1,e2=>cases e1; cases e2; exact h3
 | _+3,e1,_=>cases e1
theorem AMF {a b c:AV} {x y:AV} (h:CvR x y):CvR (.agg [a,b,c,x]) (.agg [a,b,c,y]):=CvR.agg (CvRL.cons (CvR.refl _) (CvRL.cons (CvR.refl _) (CvRL.cons (CvR.refl _) (CvRL.cons h CvRL.nil))))
theorem AY4 (e:Ex):CvR (.agg (r1 e)) (.agg (DR (o1 e))):=by
 unfold o1; rw [UT]; exact AMF (CvR.sl (wc2 (AWS e) ALI))
theorem AY3 (e:Ex):CvR (.agg (r2 e)) (.agg (DR (o2 e))):=by
 have h:r2 e=DR (o2 e):=by unfold o2 r2; rw [UT,jF,jE,UT]; rfl
 rw [h]; exact CvR.refl _
theorem AY2 (e:Ex):CvR (.agg (r3 e)) (.agg (DR (o3 e))):=by
 unfold o3; rw [UT]; exact AMF (CvR.sl (wc3 (AWS e) (AWS e) ALI))
theorem frE (e:Ex):(DR e).all AV.frozen=true:=by rw [MH]; rfl
theorem AO4:Tryz.prog.underlying 23=some (.slice 37):=by kernel_rfl
theorem AV4:AAJ Tryz.prog 37=some 4:=by kernel_rfl
theorem bsA (h:Hp) (a:List AV) (ha:a.length=4) (la:a.all AV.leaf=true) (fa:a.all AV.frozen=true):ER Tryz.prog false h 23 1 [(0,.agg a)]=some (.sl .full 4 [a],h):=by
 unfold ER
 simp only [AO4,OZ,AV4]
 have h2:TQ 4 0 [(0,AV.agg a)]=some [a]:=by simp [TQ,I5,la,ha]
 simp [h2,fa]
theorem bsB (h:Hp) (a b:List AV) (ha:a.length=4) (hb:b.length=4) (la:a.all AV.leaf=true) (lb:b.all AV.leaf=true) (fa:a.all AV.frozen=true) (fb:b.all AV.frozen=true):ER Tryz.prog false h 23 2 [(0,.agg a),(1,.agg b)]=some (.sl .full 4 [a,b],h):=by
 unfold ER
 simp only [AO4,OZ,AV4]
 have h2:TQ 4 0 [(0,AV.agg a),(1,AV.agg b)]=some [a,b]:=by simp [TQ,I5,la,lb,ha,hb]
 simp [h2,fa,fb]
theorem bsC (h:Hp) (a b c:List AV) (ha:a.length=4) (hb:b.length=4) (hc:c.length=4) (la:a.all AV.leaf=true) (lb:b.all AV.leaf=true) (lc:c.all AV.leaf=true) (fa:a.all AV.frozen=true) (fb:b.all AV.frozen=true) (fc:c.all AV.frozen=true):ER Tryz.prog false h 23 3 [(0,.agg a),(1,.agg b),(2,.agg c)]=some (.sl .full 4 [a,b,c],h):=by
 unfold ER
 simp only [AO4,OZ,AV4]
 have h2:TQ 4 0 [(0,AV.agg a),(1,AV.agg b),(2,AV.agg c)]=some [a,b,c]:=by simp [TQ,I5,la,lb,lc,ha,hb,hc]
 simp [h2,fa,fb,fc]
theorem A3G:JV Tryz.prog 37 [(0,.int .i64 1)]=some (.agg wK0):=by kernel_rfl
theorem bdL (op:Int) (xs:List (List AV)):JV Tryz.prog 37 [(0,.int .i64 op),(3,.sl .full 4 xs)]=some (.agg [.int .i64 op,.int .i64 0,.str ⟨#[]⟩,.sl .full 4 xs]):=by kernel_rfl
theorem AYW (h:Hp) (cs:List AV) (hc:cs.length=4) (hl:cs.all AV.leaf=true):FB Tryz.prog (h ++ [.live 4 [[.int .i64 0,.int .i64 0,.str ⟨#[]⟩,.sl .nil 0 []]]]) 37 (.ptr h.length 0 0) (.agg cs)=some (h ++ [.live 4 [cs]]):=by
 rw [XG (cs:=cs) (row := [.int .i64 0,.int .i64 0,.str ⟨#[]⟩,.sl .nil 0 []]) (QN hl) (by rw [hc]; exact OZ) (CV _ _) (by rw [hc]; exact jO 4),LD]
 have:splice [.int .i64 0,.int .i64 0,.str ⟨#[]⟩,.sl .nil 0 []] 0 cs=cs:=by
  unfold splice; rw [qA,zI (by rw [hc]; exact jO 4)]; simp
 rw [this]
theorem AVH {H:Hp} {b:Nat} {cs:List AV} (hb:H[b]? = some (.live 4 [cs])) (hc:cs.length=4):DF Tryz.prog H 37 (.ptr b 0 0)=some (.agg cs):=by
 rw [GH WS OZ hb rfl (by rw [hc]; exact jO 4),List.drop_zero,List.take_of_length_le (by rw [hc]; exact jO 4)]
theorem AO1 (env:List Sg):Q9 env kE0=0:=by rw [AA0]; rfl
theorem AAZ (env:List Sg) (op n:Int) (s:ByteArray) (vs:List Nat) (h:op≠1∧op≠2∧op≠3∧op≠24):AAK env op n s vs=opW op vs:=by unfold AAK; rw [if_neg h.1,if_neg h.2.1,if_neg h.2.2.1,if_neg h.2.2.2]
theorem A2L (a b:Nat):opW 7 [a,b]=(a+b) % 65536:=by unfold opW dbW; simp
theorem AZC (a:Nat):opW 5 [a]=65535 - a:=by unfold opW sgW; simp
theorem AZD (a b c:Nat):opW 22 [a,b,c]=if a≠0 then b else c:=by unfold opW; simp
theorem AE9 (env:List Sg) (op n:Int) (s:ByteArray) (m:SM) (ls:List Ex):Q9 env (.mk op n s m ls)=AAK env op n s (ls.map (Q9 env)):=by rw [AA0,Y5]; rfl
theorem AWF (e:Ex) (env:List Sg):Q9 env (o1 e)=Q9 env e:=by
 have h:=ALM env e
 unfold o1
 rw [AE9,AAZ _ _ _ _ _ (by decide),jF,jF,jE,AO1,A2L,jI,Nat.mod_eq_of_lt h]
theorem AWE (e:Ex) (env:List Sg):Q9 env (o2 e)=Q9 env e:=by
 have h:=ALM env e
 unfold o2
 rw [AE9,AAZ _ _ _ _ _ (by decide),jF,jE,AE9,AAZ _ _ _ _ _ (by decide),jF,jE,AZC,AZC]
 omega
theorem AWD (e:Ex) (env:List Sg):Q9 env (o3 e)=Q9 env e:=by
 unfold o3
 rw [AE9,AAZ _ _ _ _ _ (by decide),jF,jF,jF,jE,AO1,AZD]
 by_cases h:Q9 env e=0
 ·rw [if_neg (by simpa using h),h]
 ·rw [if_pos h]
theorem ZT (q:Ex→Bool) (op n:Int) (s:ByteArray) (m:SM) (ls:List Ex):(pre (.mk op n s m ls)).any q=(q (.mk op n s m ls) || ls.any fun a=>(pre a).any q):=by
 rw [pre_eq,List.any_cons]
 congr 1
 show (IR ls).any q=_
 induction ls with
 | nil=>rfl
 | cons a ls ih=>simp only [IR,List.any_append,List.any_cons,ih]
theorem APM {l:List Vr} {e o:Ex} (h:plE l e=0) (ha:YX o=YX e) (hf:VO l o=VO l e):plE l o=0:=by unfold plE at h ⊢; rw [ha,hf]; exact h
theorem AY8 {l:List Vr} {e:Ex} (h:plE l e=0):plE l (o1 e)=0:=by
 refine APM h ?_ ?_
 ·unfold YX o1 kE0; simp [ZT,PL,Ex.op]
 ·unfold VO o1 kE0; simp [ZT,Q4,Ex.op]
theorem AY7 {l:List Vr} {e:Ex} (h:plE l e=0):plE l (o2 e)=0:=by
 refine APM h ?_ ?_
 ·unfold YX o2; simp [ZT,PL,Ex.op]
 ·unfold VO o2; simp [ZT,Q4,Ex.op]
theorem AY6 {l:List Vr} {e:Ex} (h:plE l e=0):plE l (o3 e)=0:=by
 refine APM h ?_ ?_
 ·unfold YX o3 kE0; simp [ZT,PL,Ex.op]
 ·unfold VO o3 kE0; simp [ZT,Q4,Ex.op]
theorem ADW (op n:Int) (m:SM) (ls:List Ex):wt (.mk op n ⟨#[]⟩ m ls)=1+wts ls:=by rw [PK]; simp [Ex.name,Ex.args]; rfl
structure EqX (p:Pr) (e o:Ex) (r:List AV):Prop where
 cv:CvR (.agg r) (.agg (DR o))
 ln:r.length=4
 lf:r.all AV.leaf=true
 vl : ∀ env,Q9 env o=Q9 env e
 pl:plE p.vars e=0→plE p.vars o=0
 wt:wt e≤8000→wt o≤1048576
theorem A2V (p:Pr) (e:Ex):EqX p e (o1 e) (r1 e):=⟨AY4 e,rfl,rfl,AWF e,AY8,fun h=>by unfold o1 kE0; rw [ADW]; simp only [wts]; rw [ADW]; simp only [wts]; omega⟩
theorem A2U (p:Pr) (e:Ex):EqX p e (o2 e) (r2 e):=⟨AY3 e,rfl,rfl,AWE e,AY7,fun h=>by unfold o2; rw [ADW]; simp only [wts]; rw [ADW]; simp only [wts]; omega⟩
theorem A2T (p:Pr) (e:Ex):EqX p e (o3 e) (r3 e):=⟨AY2 e,rfl,rfl,AWD e,AY6,fun h=>by unfold o3 kE0; rw [ADW]; simp only [wts]; rw [ADW]; simp only [wts]; omega⟩
def rI (e:Ex) (i:Nat):List AV:=if i=0 then r1 e else if i=1 then r2 e else r3 e
def oI (e:Ex) (i:Nat):Ex:=if i=0 then o1 e else if i=1 then o2 e else o3 e
theorem A2S (p:Pr) (e:Ex) (i:Nat):EqX p e (oI e i) (rI e i):=by
 unfold oI rI
 split
 ·exact A2V p e
 split
 ·exact A2U p e
 ·exact A2T p e
theorem AWV (e:Ex) (i:Nat):(rI e i).length=4:=by unfold rI; split; rfl; split <;> rfl
theorem AWK {js:List Nat} (e:js = [0,1,2]) {i:Nat} (h:i < js.length):js[i]=i:=by
 subst e
 have:i=0∨i=1∨i=2:=by simp at h; omega
 rcases this with rfl | rfl | rfl <;> rfl
section
variable (G:Nat→AV)
set_option maxHeartbeats 8000000 in
theorem AX9 (hG:GOk G) (p:Pr) (hs:PrS p) (e:Ex) (hw:wt e≤1048576) (h:Hp):PCall (En G) 9 [.agg (DZ p),.agg (DR e)] h (.bool true):=by
 refine ACalls.pure0 rfl ?_
 refine acN Tryz.func9 rfl ?_
 show awp _ _ _ _ _ (EH _ [.tmp 4] _)
 simp -implicitDefEqProofs only [BC,A8,A7,AZ,BB,AC,AQ,AO,BD,AX,AL,AA,AY,AU,BL,BA,FK,BO,BR,BF,BU,↓reduceIte,jA,jB,jC,enP,TZ,bxE]
 generalize hX:h ++ [ABlk.live 5 [DZ p]] ++ [ABlk.live 4 [DR e]]=X
 have hx:ext h X:=by rw [← hX]; exact ((ext.rfl' h).app _).app _
 have q2:X[h.length]? = some (.live 5 [DZ p]):=by rw [← hX]; exact BN (CV _ _)
 have q3:X[h.length+1]? = some (.live 4 [DR e]):=by rw [← hX]; exact GK (by simp)
 have e1:(h ++ [ABlk.live 5 [DZ p]]).length=h.length+1:=by simp
 rw [e1]
 clear hX
 simp -implicitDefEqProofs only [FT,AZ,AC,AQ,AO,BD,AX,AL,AA,AY,BZ,H8,BO,CB,BP,AB,jF,jE,jD,↓reduceIte,jA,jB,jC,enP,AB5 q2,IU q3,YW]
 refine (show QCall (En G) 14 [.agg (DZ p),.agg (DR e),.agg [.sl .nil 0 []]] X (fun v => ∃ b,v = .bool b) from AD7 G p hs e hw isD.nil X).use ?_
 rintro v ⟨b,rfl⟩
 cases b
 ·simp -implicitDefEqProofs only [BC,A8,BI,A7,D6,AZ,BB,BM,CE,CQ,GM,AC,AQ,AO,BD,AX,AL,AA,EO,AY,AU,BZ,BL,BG,CS,DL,IQ,CB,BP,AB,FI,jE,jD,↓reduceIte,jA,jB,jC]
  refine (MJ G hG X).use ?_
  simp -implicitDefEqProofs only [BK,A7,CW,CU,AZ,BB,AC,AQ,AO,BD,AX,AL,AA,AY,BA,↓reduceIte,jB,jC]
  exact ⟨by trivial,hx⟩
 simp -implicitDefEqProofs only [AZ,BM,CE,CQ,EZ,AC,AQ,AO,BD,AX,AL,AA,AY,BZ,BG,BO,IQ,CB,BP,AB,FI,jF,jE,jD,↓reduceIte,jA,jB,jV,jC,enP,IU q3]
 refine (AG9 G e hw X).use ?_
 simp -implicitDefEqProofs only [BI,A7,AZ,BB,BM,CE,CQ,EZ,AC,AQ,AO,BD,AX,AL,AA,AY,AU,BH,BL,CS,DU,BX,AB,F6,↓reduceIte,jA,jB,jC,enP]
 refine CX (fun hc => ?_) (fun hc => ?_)
 ·simp -implicitDefEqProofs only [BC,A8,AZ,AC,AQ,AO,BD,AX,BZ,CB,BP,jE,jD,jB,jC]
  refine (MJ G hG X).use ?_
  simp -implicitDefEqProofs only [BK,A7,CW,CU,AZ,BB,AC,AQ,AO,BD,AX,AL,AA,AY,BA,↓reduceIte,jB,jC]
  exact ⟨by trivial,hx⟩
 simp -implicitDefEqProofs only [BC,BQ,A7]
 have hWd:=fun H=>VK G hG (dg0.map Nd.raw) .full (by decide) p hs e hw H
 have hWd : ∀ H,QCall (En G) 20 [dgA .full dg0,.agg (DZ p),.agg (DR e)] H (WordQ (dg0.map Nd.raw) p e):=fun H=>by have:=hWd H; rw [AML] at this; exact this
 have q2':=BN (x:=ABlk.live 1 [[.sl .nil 0 []]]) q2
 have q3':=BN (x:=ABlk.live 1 [[.sl .nil 0 []]]) q3
 refine TM (fun F' H'=>F' 2 = .ptr h.length 0 0∧F' 3 = .ptr (h.length+1) 0 0∧∃ m k xs wm wk ws,∃ z:Int,WordQ (dg0.map Nd.raw) p e (.tup [.agg [.sl m k xs],.sl wm wk ws,.int .i64 z])∧H'=X ++ [.live 1 [[.sl m k xs]]]∧F' 5 = .ptr X.length 0 0∧F' 6 = .sl wm wk ws∧F' 7 = .int .i64 z) (fun _ _=>False) ?_ ?_ (fun _ _ q=>q.elim)
 ·refine GI (.alt 0 (.ones [1,2] (.alt 3 (.ones [4,5,6,7,8,9,10,11] .done) (.alt 8 (.alt 3 (.ones [4,5,6,7,9,10,11] .done) (.non)) (.non)))) (.alt 1 (.alt 0 (.ones [2] (.alt 3 (.ones [4,5,6,7,8,9,10,11] .done) (.alt 8 (.alt 3 (.ones [4,5,6,7,9,10,11] .done) (.non)) (.non)))) (.alt 2 (.alt 0 (.alt 3 (.ones [4,5,6,7,8,9,10,11] .done) (.alt 8 (.alt 3 (.ones [4,5,6,7,9,10,11] .done) (.non)) (.non))) (.alt 8 (.alt 0 (.alt 3 (.ones [4,5,6,7,9,10,11] .done) (.non)) (.non)) (.non))) (.alt 8 (.alt 0 (.ones [2] (.alt 3 (.ones [4,5,6,7,9,10,11] .done) (.non))) (.alt 2 (.alt 0 (.alt 3 (.ones [4,5,6,7,9,10,11] .done) (.non)) (.non)) (.non))) (.non)))) (.alt 2 (.alt 0 (.ones [1] (.alt 3 (.ones [4,5,6,7,8,9,10,11] .done) (.alt 8 (.alt 3 (.ones [4,5,6,7,9,10,11] .done) (.non)) (.non)))) (.alt 1 (.alt 0 (.alt 3 (.ones [4,5,6,7,8,9,10,11] .done) (.alt 8 (.alt 3 (.ones [4,5,6,7,9,10,11] .done) (.non)) (.non))) (.alt 8 (.alt 0 (.alt 3 (.ones [4,5,6,7,9,10,11] .done) (.non)) (.non)) (.non))) (.alt 8 (.alt 0 (.ones [1] (.alt 3 (.ones [4,5,6,7,9,10,11] .done) (.non))) (.alt 1 (.alt 0 (.alt 3 (.ones [4,5,6,7,9,10,11] .done) (.non)) (.non)) (.non))) (.non)))) (.alt 8 (.alt 0 (.ones [1,2] (.alt 3 (.ones [4,5,6,7,9,10,11] .done) (.non))) (.alt 1 (.alt 0 (.ones [2] (.alt 3 (.ones [4,5,6,7,9,10,11] .done) (.non))) (.alt 2 (.alt 0 (.alt 3 (.ones [4,5,6,7,9,10,11] .done) (.non)) (.non)) (.non))) (.alt 2 (.alt 0 (.ones [1] (.alt 3 (.ones [4,5,6,7,9,10,11] .done) (.non))) (.alt 1 (.alt 0 (.alt 3 (.ones [4,5,6,7,9,10,11] .done) (.non)) (.non)) (.non))) (.non)))) (.non))))) (by kernel_rfl) ?_
  simp only [DN,JQ,jQ,jP]
  simp -implicitDefEqProofs only [FC,DT,CZ,DV,ED,EK,J6,LG,AC,AA,AY,BZ,EF,BO,EJ,CB,BP,BR,AB,jF,jE,jD,↓reduceIte,jA,jL,jB,enP,AB5 q2,AB5 q2',IU q3,IU q3',OO,GR,GU]
  repeat' first | exact trivial | (refine (AJN G _).use ?_; simp -implicitDefEqProofs only [FC,DT,CZ,D8,DV,EK,AC,AA,AY,BO,AB,↓reduceIte,jA,jL,jB,enP,AB5 q2,AB5 q2',IU q3,IU q3',OO,GR,GU]) | (refine (hWd _).use ?_; intro v hq; obtain ⟨m,k,xs,wm,wk,ws,z,rfl⟩:=hq.shape; simp -implicitDefEqProofs only [FC,jP,jQ,DT,CZ,H9,D8,DV,GN,ALD,IX,J6,AC,AA,AY,EF,DC,EJ,FP,BR,AB,CJ,↓reduceIte,jA,jL,Nat.zero_add,jB,enP,jJ,OO,stT,GR,GU]; exact ⟨trivial,trivial,m,k,xs,wm,wk,ws,z,hq,rfl,trivial,rfl,rfl⟩) | apply And.intro
 rintro F H0 ⟨f2,f3,m,k,xs,wm,wk,ws,z,hq,rfl,f5,f6,f7⟩
 have q5:=CV X (ABlk.live 1 [[.sl m k xs]])
 have q2:=BN (x:=ABlk.live 1 [[.sl m k xs]]) q2
 have q3:=BN (x:=ABlk.live 1 [[.sl m k xs]]) q3
 have hx:=hx.app [ABlk.live 1 [[.sl m k xs]]]
 clear q2' q3' hWd
 generalize X ++ [ABlk.live 1 [[.sl m k xs]]]=Y at q2 q3 q5 hx ⊢
 generalize X.length=b5 at q5 f5
 simp -implicitDefEqProofs only [BC,A8,BI,A7,AZ,BB,AC,AQ,AO,BD,AX,AL,AA,AY,AU,BH,BG,BX,AB,EU,↓reduceIte,jB,jC,enP,f7]
 refine CX (fun hz => ?_) (fun hz => ?_)
 ·simp -implicitDefEqProofs only [BC,A8,AZ,AC,AQ,AO,BD,AX,BZ,CB,BP,jE,jD,jB,jC]
  refine (MJ G hG Y).use ?_
  simp -implicitDefEqProofs only [BK,A7,CW,CU,AZ,BB,AC,AQ,AO,BD,AX,AL,AA,AY,BA,↓reduceIte,jB,jC]
  exact ⟨by trivial,hx⟩
 have hz:z=0:=by simpa using hz
 subst hz
 obtain ⟨h0,w,l',m',hW,hk',hxs,hwm,hwk,hws⟩:stE (dg0.map Nd.raw) p e=0∧∃ w l' m',RY p (KC p) e dg0=some (w,l')∧(m=m'∧k=3)∧xs=l'.map DJ∧wm = .any∧wk=1∧ws=(wI w).map qencI:=by
  rcases hq with ⟨hne,he⟩ | ⟨h0,l,hl,_,⟨hN,he⟩ | ⟨w,l',m',hW,he⟩⟩
  ·unfold zD at he
   injection he with he
   injection he with _ he
   injection he with _ he
   injection he with he
   injection he with _ he
   exact absurd he.symm hne
  ·unfold zD at he
   injection he with he
   injection he with _ he
   injection he with _ he
   injection he with he
   injection he with _ he
   exact absurd he (by decide)
  ·obtain rfl:=NL hl
   unfold dgA at he
   injection he with he
   injection he with ha he
   injection he with hb _
   injection ha with ha
   injection ha with ha _
   injection ha with a1 a2 a3
   injection hb with b1 b2 b3
   exact ⟨h0,w,l',m',hW,⟨a1,a2⟩,a3,b1,b2,b3⟩
 obtain ⟨rfl,rfl⟩:=hk'
 subst hxs hwm hwk hws
 rw [QV vd0] at h0
 have hall:NJ p=0∧exE e=0∧plE p.vars e=0:=by
  unfold sE at h0
  split at h0
  ·split at h0
   ·rename_i a b; exact ⟨a,b,h0⟩
   ·cases h0
  ·cases h0
 obtain ⟨hv0,hx0,hp0⟩:=hall
 have hok:=EOk.of hx0 hp0
 obtain ⟨v',x',_,⟨w16,ow⟩,_⟩:=PO (lvs:=KC p) (AX6 hv0) e hok dg0 vd0 w l' hW
 have hwt:=AXJ hx0
 have hmx:=v'.mx
 have B1 : ∀ H:Hp,ER Tryz.prog false H 23 2 [(0,.agg (DR e)),(1,.agg wK0)]=some (.sl .full 4 [DR e,wK0],H):=fun H=>bsB H _ _ (G9 e) rfl (OL e) rfl (frE e) rfl
 have B2 : ∀ H:Hp,ER Tryz.prog false H 23 1 [(0,.agg (DR e))]=some (.sl .full 4 [DR e],H):=fun H=>bsA H _ (G9 e) (OL e) (frE e)
 have B3 : ∀ H:Hp,ER Tryz.prog false H 23 1 [(0,.agg [.int .i64 5,.int .i64 0,.str ⟨#[]⟩,.sl .full 4 [DR e]])]=some (.sl .full 4 [[.int .i64 5,.int .i64 0,.str ⟨#[]⟩,.sl .full 4 [DR e]]],H):=fun H=>bsA H _ rfl rfl rfl
 have B4 : ∀ H:Hp,ER Tryz.prog false H 23 3 [(0,.agg (DR e)),(1,.agg (DR e)),(2,.agg wK0)]=some (.sl .full 4 [DR e,DR e,wK0],H):=fun H=>bsC H _ _ _ (G9 e) (G9 e) rfl (OL e) (OL e) rfl (frE e) (frE e) rfl
 obtain ⟨js,hjs⟩ : ∃ js:List Nat,js = [0,1,2]:=⟨_,rfl⟩
 have hj3:js.length=3:=by rw [hjs]; rfl
 have B5 : ∀ H:Hp,ER Tryz.prog false H 23 3 [(0,.agg [.int .i64 7,.int .i64 0,.str ⟨#[]⟩,.sl .full 4 [DR e,wK0]]),(1,.agg [.int .i64 5,.int .i64 0,.str ⟨#[]⟩,.sl .full 4 [[.int .i64 5,.int .i64 0,.str ⟨#[]⟩,.sl .full 4 [DR e]]]]),(2,.agg [.int .i64 22,.int .i64 0,.str ⟨#[]⟩,.sl .full 4 [DR e,DR e,wK0]])]=some (.sl .full 4 (js.map (rI e)),H):=fun H=>by rw [hjs]; exact bsC H (r1 e) (r2 e) (r3 e) rfl rfl rfl rfl rfl rfl rfl rfl rfl
 simp -implicitDefEqProofs only [FT,FX,BC,CG,A8,BQ,A7,AZ,BB,AC,AQ,AO,BD,AX,AL,AA,AY,AU,BH,BG,BA,H8,FU,BO,EW,BR,AB,↓reduceIte,jA,jB,jC,enP,WE,f3,IU q3,A3G,B1,bdL,B2,B3,B4,B5,jM]
 refine G6 0 (fun F H=>ext Y H) (fun _ _=>False) ?_ ?_ (fun _ _ q=>q.elim)
 ·refine D5 (fun n F H => ∃ i,n+i=3∧ext Y H∧F 2 = .ptr h.length 0 0∧F 5 = .ptr b5 0 0∧F 6 = .sl .any 1 ((wI w).map qencI)∧F 51 = .sl .full 4 (js.map (rI e))∧F 52 = .int .i64 (js.length:Nat)∧F 53 = .int .i64 (i:Nat)) 3
   ⟨0,rfl,ext.rfl' Y,by simp -implicitDefEqProofs only [AA,↓reduceIte,jA]; exact f2,by simp -implicitDefEqProofs only [AA,↓reduceIte,jA]; exact f5,by simp -implicitDefEqProofs only [AA,↓reduceIte,jA]; exact f6,by simp -implicitDefEqProofs only [AA,↓reduceIte,jA],by simp -implicitDefEqProofs only [AA,↓reduceIte,jA],by simp -implicitDefEqProofs only [AA,↓reduceIte]; rfl⟩ ?_
  clear f2 f3 f5 f6 f7
  rintro n F H ⟨i,hn,hxH,f2,f5,f6,f51,f52,f53⟩
  have ec:decide (((i:Nat):Int) < (js.length:Nat))=decide (i < 3):=by rw [decide_eq_decide,hj3]; omega
  simp -implicitDefEqProofs only [BC,A8,BI,A7,AZ,BB,AC,AQ,AO,BD,AX,AL,AA,AY,BX,AB,C9,↓reduceIte,jB,jC,enP,f52,f53,ec]
  refine CX (fun hc => ?_) (fun hc => ?_)
  ·have hi:i < 3:=by simpa using hc
   have hi':i < js.length:=by omega
   have lr:=FQ (P:=Tryz.prog) (k:=4) (h:=H) (f:=rI e) WS OZ (AWV e) hi'
   rw [AWK hjs hi'] at lr
   have X:=A2S p e i
   generalize rI e i=r at lr X
   generalize oI e i=o at X
   have qr:=CV H (ABlk.live 4 [r])
   have q2:=BN (x:=ABlk.live 4 [r]) (FN hxH q2)
   have q5:=BN (x:=ABlk.live 4 [r]) (FN hxH q5)
   have hxH:=hxH.app [ABlk.live 4 [r]]
   simp -implicitDefEqProofs only [BC,CG,A8,BQ,A7,AZ,BB,AC,AQ,AO,BD,AX,AL,DK,AA,AY,EF,BO,DC,CO,BR,AB,CJ,↓reduceIte,jA,jB,jC,enP,AAQ,jJ,f51,f53,EQ hi',lr,AOH,AYW H r X.ln X.lf]
   generalize H ++ [ABlk.live 4 [r]]=H1 at qr q2 q5 hxH ⊢
   generalize H.length=br at qr ⊢
   simp -implicitDefEqProofs only [AZ,AC,AQ,AO,BD,AX,AL,AA,AY,BZ,CB,BP,AB,jF,jE,jD,↓reduceIte,jB,jC,AVH qr X.ln]
   refine (PCall.args (Z9 G o H1 (X.wt hwt)) (CvRL.cons X.cv CvRL.nil)).use ?_
   have next : ∀ F':Fr,F' 2 = .ptr h.length 0 0→True:=fun _ _=>trivial
   simp -implicitDefEqProofs only [BI,A7,AZ,BB,AC,AQ,AO,BD,AX,AL,AA,AY,AU,BH,BX,AB,EU,↓reduceIte,jB,jC,enP]
   refine CX (fun he => ?_) (fun he => ?_)
   ·simp -implicitDefEqProofs only [A8,DW,A7,EP,FH,EX,AZ,BB,AC,AQ,AO,BD,AX,AL,AA,AY,AU,BH,BG,BX,AB,DX,↓reduceIte,jA,jB,jC,enP,f53,wrap_succ (show i < 9223372036854775807 by omega)]
    exact ⟨n - 1,by omega,i+1,by omega,hxH,by trivial,by trivial,by trivial,by trivial,by trivial,by trivial⟩
   have hxo:exE o=0:=by simpa using he
   have hoo:=EOk.of hxo (X.pl hp0)
   have hso:stE (l'.map Nd.raw) p o=0:=by rw [QV v']; unfold sE; rw [if_pos hv0,if_pos hxo]; exact X.pl hp0
   simp -implicitDefEqProofs only [BC,A8,BQ,A7,AZ,AC,AQ,AO,BD,AX,AL,AA,AY,BZ,BO,CB,BP,AB,jF,jE,jD,↓reduceIte,jA,jB,jC,enP,f2,f5,JA q5,AB5 q2,AVH qr X.ln]
   have hWo:=VK G hG (l'.map Nd.raw) m (by rw [jM]; omega) p hs o (X.wt hwt) H1
   rw [PU] at hWo
   refine (QCall.args hWo (CvRL.cons (CvR.refl _) (CvRL.cons (CvR.refl _) (CvRL.cons X.cv CvRL.nil)))).use ?_
   rintro v (⟨hne,_⟩ | ⟨_,l2,hl2,_,⟨hN,rfl⟩ | ⟨w2,l3,m3,hW3,rfl⟩⟩)
   ·exact absurd hso hne
   ·have hxH:=hxH.app [ABlk.live 1 [[.sl .nil 0 []]]]
    unfold zD
    simp -implicitDefEqProofs only [jP,jQ,BC,A8,DW,BI,A7,EP,FH,EX,D6,AZ,BB,AC,AQ,AO,BD,AX,AL,DK,AA,AY,AU,BH,BG,BA,EF,DC,BX,EJ,FP,BR,AB,CJ,DX,EC,↓reduceIte,jA,jB,jC,enP,jJ,OO,stT,show ((2:Int) == 2)=true from rfl,f53,wrap_succ (show i < 9223372036854775807 by omega)]
    exact ⟨n - 1,by omega,i+1,by omega,hxH,by trivial,by trivial,by trivial,by trivial,by trivial,by trivial⟩
   ·obtain rfl:=NL hl2
    obtain rfl:=AM9 (AX6 hv0) hok hoo X.vl vd0 hW hW3
    have hxH:=hxH.app [ABlk.live 1 [[.sl m3 3 (l3.map DJ)]]]
    unfold dgA
    simp -implicitDefEqProofs only [jP,jQ,BC,A8,BQ,BI,A7,D9,AZ,BB,BM,CE,CQ,EZ,AC,AQ,AO,BD,AX,AL,DK,AA,AY,AU,BZ,BH,BG,BA,EF,DC,BX,EJ,FP,CB,BP,BR,AB,CJ,EC,EU,jF,jE,jD,↓reduceIte,jA,jB,jC,enP,jJ,OO,stT,show ((0:Int) == 2)=false from rfl,bne_self_eq_false,f6]
    have hI:=PQ G (isS.of .any (wI w2)) (isS.of .any (wI w2)) (by rw [ABM,w16]; omega) (by rw [ABM,w16]; omega) (H1 ++ [ABlk.live 1 [[.sl m3 3 (l3.map DJ)]]])
    rw [decide_eq_true rfl] at hI
    refine hI.use ?_
    simp -implicitDefEqProofs only [A8,BQ,BI,A7,ET,EX,D9,AZ,BB,BM,CE,CQ,EZ,AC,AQ,AO,BD,AX,AL,AA,AY,AU,BH,BL,BG,CS,DU,BX,IQ,AB,DX,FI,↓reduceIte,jA,jB,jV,jC,enP,f53,wrap_succ (show i < 9223372036854775807 by omega)]
    exact ⟨n - 1,by omega,i+1,by omega,hxH,by trivial,by trivial,by trivial,by trivial,by trivial,by trivial⟩
  ·simp -implicitDefEqProofs only [DW,EP,KE,FM,↓reduceIte]
   exact hxH
 ·rintro F H hxH
  simp -implicitDefEqProofs only [BC,A8,A7,FH,AZ,AC,AQ,AO,BD,AX,BZ,CB,BP,jE,jD,↓reduceIte,jB,jC]
  refine (MJ G hG H).use ?_
  simp -implicitDefEqProofs only [BK,A7,CU,AZ,BB,AC,AQ,AO,BD,AX,AL,AA,AY,BA,↓reduceIte,jB,jC]
  exact ⟨by trivial,hx.trans hxH⟩
end
section
variable (G:Nat→AV)
theorem AW7 (hG:GOk G) (p:Pr) (hs:PrS p) (h:Hp):PCall (En G) 3 [.agg (DZ p)] h (.bool true):=by
 refine ACalls.pure0 rfl ?_
 refine acN Tryz.func3 rfl ?_
 show awp _ _ _ _ _ (EH _ [.tmp 2] _)
 have q1:=CV h (ABlk.live 5 [DZ p])
 have hx:=(ext.rfl' h).app [ABlk.live 5 [DZ p]]
 simp -implicitDefEqProofs only [BC,A8,A7,AZ,BB,AC,AQ,AO,BD,AX,AL,AY,AU,BL,BA,FK,BR,BF,jB,jC,enP,TZ]
 generalize h ++ [ABlk.live 5 [DZ p]]=X at q1 hx ⊢
 obtain ⟨xs,hS,hl⟩ : ∃ xs,isS (lvV p) xs∧xs.length≤1048576:=by
  unfold lvV
  split
  ·exact ⟨_,isS.of .any _,by rw [XT]; exact hs.vars⟩
  ·exact ⟨[],isS.nil .nil 0,by decide⟩
 have hI:=PQ G hS hS hl hl X
 rw [decide_eq_true rfl] at hI
 refine GL (by kernel_rfl) ?_
 simp -implicitDefEqProofs only [FC,DT,CZ,DV,EI,FD,ED,EK,IB,GZ,CQ,AC,AA,AY,BZ,BO,AB,jF,jE,jD,↓reduceIte,jA,jL,jB,enP,AB5 q1]
 refine ⟨_,Q3 G hG p hs X,?_⟩
 try simp -implicitDefEqProofs only [AB5 q1]
 refine ⟨_,AJT G p hs X,?_⟩
 try simp -implicitDefEqProofs only []
 refine ⟨_,hI,?_⟩
 try simp -implicitDefEqProofs only [FC,DT,CZ,D8,DV,SY,GN,GG,IB,GZ,BK,A7,CU,AC,AA,AY,AU,BZ,BL,CS,DL,jE,jD,↓reduceIte,jA,jL,jB]
 refine ⟨_,MJ G hG X,?_⟩
 try simp -implicitDefEqProofs only []
 exact ⟨by trivial,hx⟩
end
end Go.Proofs.YtgnoolgeijmlaaaGreatDoor.Bl
