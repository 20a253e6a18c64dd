/- Part 20 of the proof (O25, O26, O27, O29, O30, O31, O32, O33, O34, O35); no condition. -/
import Derived.Test.YtfpagfhhhlljjaaGreatDoorYD19
set_option linter.unusedVariables false
namespace Go.Proofs.YtfpagfhhhlljjaaGreatDoor.Ho
open Sm Bins Cov Go.RowKit
open List renaming foldl_cons→wH,length_map→jH,getElem?_map→jY,getElem?_set→zG,getElem?_eq_getElem→jS
def J9 (e:Ex)(l:List Rng):Ex:=Q4 e (normal l)
def notE (e:Ex):Ex := .mk 4 0 ⟨#[]⟩ .full [e]
def KZ (b:Bin):List Rs:=if b.ranges.l = [] then b.steps else [b.ranges]
def A0K (x:Option Ex)(c:List (List Ex)):List (List Ex):=match x with
 | none=>c
 | some y=>c.set (c.length - 1) (c[c.length - 1]?.getD []++[notE y])
def badO (ins:Ex→List Rng→Ex)(p:Pt):Option Ex:=if NT p.bins = [] then none else some (ins p.ex (NT p.bins))
def ACQ (ins:Ex→List Rng→Ex)(p:Pt)(b:Bin):List (List Ex):=A0K (badO ins p) ((KZ b).map fun s => [ins p.ex s.l])
def VM (cs:List (List (List Ex))):Nat:=cs.foldl (fun n c=>max n c.length) 0
def rowC (n t:Nat)(c:List (List Ex)):List Ex:=if n - c.length≤t then c[t - (n - c.length)]?.getD [] else []
def rowA (n:Nat)(cs:List (List (List Ex)))(t:Nat):List Ex:=cs.flatMap (rowC n t)
def OQ (cs:List (List (List Ex))):List (List Ex):=(List.range (VM cs)).map (rowA (VM cs) cs)
theorem ARY : ∀ (cs:List (List (List Ex))) (a:Nat),a≤cs.foldl (fun n c=>max n c.length) a∧∀ c∈cs,c.length≤cs.foldl (fun n c=>max n c.length) a
 | [],a=>⟨Nat.le_refl _,fun c hc=>by cases hc⟩
 | x :: cs,a=>by
   obtain⟨h1,h2⟩:=ARY cs (max a x.length)
   rw[wH]
   refine⟨by omega,fun c hc => ?_⟩
   rcases List.mem_cons.1 hc with rfl | hc
   ·omega
   ·exact h2 c hc
theorem AWR {cs:List (List (List Ex))}{c:List (List Ex)}(h:c∈cs):c.length≤VM cs:=(ARY cs 0).2 c h
theorem Y2 : ∀ (cs:List (List (List Ex))) (a b:Nat),a≤b→(∀ c∈cs,c.length≤b)→cs.foldl (fun n c=>max n c.length) a≤b
 | [],_,_,h,_=>h
 | x :: cs,a,b,h,h2=>by
   rw[wH]
   exact Y2 cs _ b (by have:=h2 x (by simp); omega) fun c hc=>h2 c (by simp [hc])
theorem ATJ (cs:List (List (List Ex)))(k:Nat)(hk:k < cs.length):VM (cs.take (k+1))=max (VM (cs.take k)) cs[k].length:=by
 unfold VM
 rw[List.take_succ_eq_append_getElem hk,List.foldl_append]; rfl
theorem AL0 (x:Option Ex)(c:List (List Ex)):(A0K x c).length=c.length:=by cases x <;> simp [A0K]
def encX (l:List Ex):List AV:=A2T ⟨.any,l⟩
def rowF (x:Ex):List AV := [.sl .full 4 [DX x]]
def ML (X:List Ex):Ex:=X[X.length - 1]?.getD (cE 0)
def ALD (X:List Ex):Option Ex→List (List AV)
 | none=>X.map rowF
 | some y=>(X.map rowF).set (X.length - 1) [.sl .any 4 [DX (ML X),DX (notE y)]]
theorem AS1 (X:List Ex)(y:Option Ex):(ALD X y).length=X.length:=by cases y <;> simp [ALD]
theorem AQ7 (x:Ex):CvRow (rowF x) (encX [x]):=CvRow.cons rfl (Cv.any (by simp) 4 _) CvRow.nil
theorem AVY (X:List Ex)(y:Option Ex):Cv (.sl .any 1 (ALD X y)) (.sl .any 1 ((A0K y (X.map fun x => [x])).map encX)):=by
 refine Cv.rows (by rw[jH,AL0,jH,AS1]) fun i r r' h1 h2 => ?_
 cases y with
 | none =>
   change ((X.map fun x => [x]).map encX)[i]? = some r' at h2
   change (X.map rowF)[i]? = some r at h1
   rw[List.map_map,jY] at h2
   rw[jY] at h1
   cases hx:X[i]? with
   | none=>rw[hx] at h1; cases h1
   | some x =>
     rw[hx] at h1 h2
     cases h1; cases h2
     exact AQ7 x
 | some y =>
   change (((X.map fun x => [x]).set ((X.map fun x => [x]).length - 1) ((X.map fun x => [x])[(X.map fun x => [x]).length - 1]?.getD []++[notE y])).map encX)[i]? = some r' at h2
   change ((X.map rowF).set (X.length - 1) [.sl .any 4 [DX (ML X),DX (notE y)]])[i]? = some r at h1
   have hi:i < X.length:=by have:=CJ h1; simpa using this
   rw[zG] at h1
   rw[jY,zG] at h2
   by_cases e:X.length - 1=i
   ·have hl:(X.map fun x => [x])[X.length - 1]?.getD [] = [ML X]:=by
     unfold ML
     rw[jY,jS (by omega)]; rfl
    rw[if_pos e,if_pos (by simpa using by omega)] at h1
    rw[jH,if_pos e,if_pos (by omega),hl] at h2
    cases h1; cases h2
    exact CvRow.cons rfl (Cv.refl _) CvRow.nil
   ·rw[if_neg e] at h1
    rw[jH,if_neg e,jY] at h2
    rw[jY,jS hi] at h1
    rw[jS hi] at h2
    cases h1; cases h2
    exact AQ7 _
theorem ATL {X:List Ex}(h:X≠[]):X[X.length - 1]? = some (ML X):=by
 have:0 < X.length:=List.length_pos_iff.2 h
 unfold ML
 rw[jS (by omega)]; rfl
theorem AR3:Frz rowF:=fun _ _ _ _=>⟨rfl,rfl⟩
theorem AT3 {n:Nat}{H:Hp}{ob nb:Nat}{X:List Ex}{y:Ex}(h1:n≤ob)(h2:n≤nb)(_:X≠[])(g:H[ob]? = some (.live 1 ((X.map rowF).set (X.length - 1) [.own nb 0 2])))
  (gn:H[nb]? = some (.live 4 [DX (ML X),DX (notE y)])):IL n H 4 (.own ob 0 X.length) = .sl .any 1 (ALD X (some y)):=by
 have e2:IL n H 3 (.own nb 0 2) = .sl .any 4 [DX (ML X),DX (notE y)]:=frz_own (f:=DX) (xs := [ML X,notE y]) (d:=1) AR4 h2 gn
 rw[Cov.frzF_own n H 3 ob 0 X.length 1 _ (by omega) g,List.drop_zero,List.take_of_length_le (by simp),List.map_set,List.map_cons,List.map_nil,e2,frz_rows AR3 n H 2 X]
 rw[if_pos]
 ·rfl
 refine⟨by simp,?_⟩
 rw[List.all_eq_true]
 intro row hr
 rcases List.mem_or_eq_of_mem_set hr with hr | rfl
 ·obtain⟨x,_,rfl⟩:=List.mem_map.1 hr; rfl
 ·rfl
end Go.Proofs.YtfpagfhhhlljjaaGreatDoor.Ho
set_option linter.unusedSimpArgs false
set_option maxRecDepth 8000
namespace Go.Proofs.YtfpagfhhhlljjaaGreatDoor.Ho
open Sm Bins Cov Go.RowKit
open Bool renaming or_false→jQ,not_false→jC,false_eq_true→zA,not_true→jU
open List renaming drop_zero→zU,map_map→wF,contains_cons→jR,contains_nil→jJ,length_map→jH,take_zero→qB,length_take→zJ,take_succ_eq_append_getElem→zN,map_cons→jD,map_nil→jE,append_nil→jF,getElem_mem→jP,take_of_length_le→jW,getElem?_map→jY,length_cons→zX,length_nil→qM,range→zY,getElem?_set_ne→zW,all_eq_true→zI,mem_map→zL,mem_of_getElem?→qC,length_append→qA,getElem?_eq_getElem→jS,any_eq_true→qH,mem_cons→qJ,length→yB,getElem_of_mem→qL
open Nat renaming le_refl→jL,le_of_ble_eq_true→jI,reduceBEq→jO,reduceEqDiff→jB,zero_add→jG,reduceAdd→jM,zero_le→qY
open Option renaming getD_some→jA,getD_none→jT
structure BdB (p:Pt) (b:Bin):Prop where
 hs:KZ b≠[]
 hl:(KZ b).length≤1048576
 hr : ∀ s∈KZ b,s.l.length≤1048576
 hb:(NT p.bins).length≤1048576
 hn:p.bins.length≤1048576
 hw:wt p.ex≤1048576
theorem A9I (h:Hp)(m:SM)(xs:List (List AV)):FM Tryz.prog false h 54 1 [(0,.sl m 2 xs)]=some (.sl .full 1 [[.sl m 2 xs]],h):=by kernel_rfl
theorem A4T (h:Hp)(a b:Int)(s:ByteArray)(m:SM)(xs:List (List AV)):FM Tryz.prog false h 46 1 [(0,.agg [.int .i64 a,.int .i64 b,.str s,.sl m 4 xs])]=some (.sl .full 4 [[.int .i64 a,.int .i64 b,.str s,.sl m 4 xs]],h):=by kernel_rfl
theorem A22 (h:Hp)(e:Ex):FM Tryz.prog false h 46 1 [(0,.agg (DX e))]=some (.sl .full 4 [DX e],h):=by
 rw[JJ]; exact A4T h _ _ _ _ _
theorem A7D (h:Hp)(m:SM)(xs:List (List AV)):FM Tryz.prog false h 33 1 [(0,.sl m 4 xs)]=some (.sl .full 1 [[.sl m 4 xs]],h):=by kernel_rfl
theorem A7N (xs:List (List AV)):LM Tryz.prog 48 [(0,.int .i64 4),(3,.sl .full 4 xs)]=some (.agg [.int .i64 4,.int .i64 0,.str ⟨#[]⟩,.sl .full 4 xs]):=by kernel_rfl
theorem AWI (e:Ex):DX (notE e) = [.int .i64 4,.int .i64 0,.str ⟨#[]⟩,.sl .full 4 [DX e]]:=by rw[JJ]; rfl
theorem A6B {H:Hp}{b:Nat}{x:Bin}(hb:H[b]? = some (.live 4 [G9 x])):D8 Tryz.prog H 54 (.ptr b 0 3)=some (.sl x.sm 1 (x.steps.map encS)):=by
 rw[DY X0 hb (row:=G9 x) rfl,QU]
theorem A8X {H:Hp}{b:Nat}{p:Pt}(hb:H[b]? = some (.live 6 [GI p])):D8 Tryz.prog H 51 (.ptr b 0 0)=some (.agg (GI p)):=by
 rw[IJ AC7 ZP hb rfl (by rw[JL]; exact jL 6),zU,← JL p,List.take_length]
theorem ASY {b:Bin}(h:b.ranges.l = []):KZ b=b.steps:=by unfold KZ; rw[if_pos h]
theorem AOD {b:Bin}(h:b.ranges.l≠[]):KZ b = [b.ranges]:=by unfold KZ; rw[if_neg h]
section
variable (G:Nat→AV)
set_option maxHeartbeats 8000000 in
theorem AFT (p:Pt)(k:Nat)(hk:k < p.bins.length)(B:BdB p p.bins[k])(h:Hp):PCall (En G) 35 [.agg (GI p),.int .i64 (k:Nat)] h (.sl .any 1 ((ACQ J9 p p.bins[k]).map encX)):=by
 have hcv:=AVY ((KZ p.bins[k]).map fun s=>J9 p.ex s.l) (badO J9 p)
 have hcl:(((KZ p.bins[k]).map fun s=>J9 p.ex s.l).map fun x => [x])=(KZ p.bins[k]).map fun s => [J9 p.ex s.l]:=by rw[wF]; rfl
 rw[hcl] at hcv
 refine PCall.res ?_ (CvR.sl hcv)
 clear hcv hcl
 refine ACalls.pure (R:=fun v H=>Sm.ext h H∧IL h.length H 4 v = .sl .any 1 (ALD ((KZ p.bins[k]).map fun s=>J9 p.ex s.l) (badO J9 p))) 4 ?_ (fun v H ⟨a,b⟩=>⟨a,b⟩)
 have hb1:=B.hs; have hb2:=B.hl; have hb3:=B.hr; have hb4:=B.hb; have hb5:=B.hn; have hb6:=B.hw
 refine MJ (H:=hint [61] []) (enM G) Tryz.func35 rfl (by kernel_rfl) (by kernel_rfl) (jI (by kernel_rfl)) ?_
 show awp _ _ _ _ _ (EM _ [.tmp 4] _)
 have gp:=CX (x:=ABlk.live 4 [G9 p.bins[k]]) (CZ h (ABlk.live 6 [GI p]))
 have gb:=CZ (h++[ABlk.live 6 [GI p]]) (ABlk.live 4 [G9 p.bins[k]])
 have hx:Sm.ext h (h++[ABlk.live 6 [GI p]]++[ABlk.live 4 [G9 p.bins[k]]]):=((ext.rfl' h).app _).app _
 simp -implicitDefEqProofs only[vQ,jR,jJ,jO,jQ,BD,↓reduceIte,jB,enP,SA,IE,N9,jT,A65,AOX (CZ h (ABlk.live 6 [GI p])),DN hk,FU AC6 YQ MG hk,AYX,AZN _ _ [.str ⟨#[]⟩,.int .i64 0,.sl .nil 0 [],.sl .nil 0 []] rfl]
 generalize h++[ABlk.live 6 [GI p]]++[ABlk.live 4 [G9 p.bins[k]]]=H0 at gp gb hx ⊢
 generalize (h++[ABlk.live 6 [GI p]]).length=b5 at gb ⊢
 generalize p.bins[k]=b at gb hb1 hb2 hb3 ⊢
 simp -implicitDefEqProofs only[vQ,jR,jJ,jO,jQ,BD,↓reduceIte,jB,enP,PN,P7,A6B gb,AWU gb,jH]
 refine U3 (fun F H => ∃ s,F 2 = .ptr h.length 0 0∧F 6 = .sl s 1 ((KZ b).map encS)∧H=H0) (fun _ _=>False) (fun hc => ?_) (fun hc => ?_) ?_ (fun _ _ q=>q.elim)
 ·have hne:b.ranges.l≠[]:=by
   intro q
   rw[q] at hc; exact absurd hc (by decide)
  simp -implicitDefEqProofs only[vQ,jR,jJ,jO,jQ,QI,BD,↓reduceIte,jB,enP,P7,AWU gb,A9I]
  exact⟨_,by first | exact True.intro | exact rfl,by rw[AOD hne]; exact rfl,by first | exact True.intro | exact rfl⟩
 ·have he:b.ranges.l = []:=by
   have:=of_decide_eq_false hc
   exact List.length_eq_zero_iff.1 (by omega)
  simp -implicitDefEqProofs only[vQ,QI,↓reduceIte,jB]
  exact⟨_,by first | exact True.intro | exact rfl,by rw[ASY he],by first | exact True.intro | exact rfl⟩
 rintro F H ⟨s,f2,f6,rfl⟩
 generalize KZ b=S at f6 hb1 hb2 hb3 ⊢
 simp -implicitDefEqProofs only[vQ,jR,jJ,jO,jQ,BD,↓reduceIte,jB,enP,V4,f6,jH]
 refine GZ 0 (fun F H' => ∃ v,F 2 = .ptr h.length 0 0∧F 7=v∧Sm.ext H H'∧outG 1 rowF H (S.map fun s=>J9 p.ex s.l) v H') (fun _ _=>False) ?_ ?_ (fun _ _ q=>q.elim)
 ·refine DL (fun n F H' => ∃ i v,n+i=S.length∧F 2 = .ptr h.length 0 0∧F 7=v∧F 26 = .sl s 1 (S.map encS)∧F 27 = .int .i64 (S.length:Nat)∧F 28 = .int .i64 (i:Nat)∧Sm.ext H H'∧outG 1 rowF H ((S.take i).map fun s=>J9 p.ex s.l) v H') S.length
   ⟨0,.sl .nil 0 [],by simp,by simp -implicitDefEqProofs only[AA,↓reduceIte,jB,f2],by simp -implicitDefEqProofs only[AA,↓reduceIte,jB],by simp -implicitDefEqProofs only[AA,↓reduceIte,jB,f6],by simp -implicitDefEqProofs only[AA,↓reduceIte,jB],by simp -implicitDefEqProofs only[AA,↓reduceIte] <;> rfl,ext.rfl' _,by rw[qB]; exact outG.nil _ _ _ _⟩ ?_
  clear f2 f6
  rintro n F H' ⟨i,v,hi,f2,f7,f26,f27,f28,hxH,ho⟩
  simp -implicitDefEqProofs only[vQ,jR,jJ,jO,jQ,BD,↓reduceIte,enP,f27,f28]
  refine CU (fun hc => ?_) (fun hc => ?_)
  ·have hi':i < S.length:=by simpa using hc
   have gp':=FD hxH gp
   have hlen:((S.take i).map fun s=>J9 p.ex s.l).length < 8388608:=by rw[jH,zJ]; omega
   obtain⟨v',H2,ha,ho2,_,he2,_,_⟩:=ho.append (P:=Tryz.prog) A49 AVK A8M A64 (by omega) hlen hxH (J9 p.ex S[i].l)
   have ha':GM Tryz.prog true H' 33 33 v (.sl .full 1 [[.sl .full 4 [DX (J9 p.ex S[i].l)]]])=some (v',H2):=ha
   have hst:(S.take (i+1)).map (fun s=>J9 p.ex s.l)=(S.take i).map (fun s=>J9 p.ex s.l)++[J9 p.ex S[i].l]:=by
    rw[zN hi',List.map_append]; rfl
   simp -implicitDefEqProofs only[vQ,jR,jJ,jO,jQ,BD,↓reduceIte,jB,enP,Y6,AGO,f2,f7,f26,f28,DN hi',CY SV hi',YH,AWT gp']
   have hin:PCall (En G) 65 [.agg (DX p.ex),.sl S[i].m 2 (S[i].l.map encR)] H' (.agg (DX (J9 p.ex S[i].l))):=inside_prog G p.ex S[i].l S[i].m (hb3 _ (jP hi')) hb6 H'
   refine hin.use ?_
   simp -implicitDefEqProofs only[vQ,jR,jJ,jO,jQ,BD,↓reduceIte,jB,enP,f7,f28,A22,A7D,ha',wrap_succ (show i < 9223372036854775807 by omega)]
   exact⟨n - 1,by omega,i+1,v',by omega,by first | exact True.intro | exact f2,by first | exact True.intro | exact rfl,by first | exact True.intro | exact f26,by first | exact True.intro | exact f27,by first | exact True.intro | exact rfl,he2,by rw[hst]; exact ho2⟩
  ·have hi' : ¬ i < S.length:=by simpa using hc
   rw[jW (by omega)] at ho
   simp -implicitDefEqProofs only[vQ,↓reduceIte,jB]
   exact⟨v,by first | exact True.intro | exact f2,by first | exact True.intro | exact f7,hxH,ho⟩
 rintro F H' ⟨v,f2,f7,hxH,ho⟩
 clear f6
 have gp':=FD hxH gp
 simp -implicitDefEqProofs only[vQ,jR,jJ,jO,jQ,BD,↓reduceIte,enP,f2,A8X gp']
 refine(AYQ G p hb5 hb4 H').use ?_
 simp -implicitDefEqProofs only[vQ,jR,jJ,jO,jQ,BD,↓reduceIte,enP,PN,jH]
 have hSl:0 < S.length:=List.length_pos_iff.2 hb1
 obtain⟨ob,rfl,hob1,hob⟩ : ∃ ob,v = .own ob 0 S.length∧H.length≤ob∧H'[ob]? = some (.live 1 ((S.map fun s=>J9 p.ex s.l).map rowF)):=by
  rcases ho with⟨e1,_⟩ | ⟨_,o,h1,h2,h3⟩
  ·exact absurd (by simpa using e1) hb1
  ·exact⟨o,by rw[h2,jH],h1,h3⟩
 have hXl:(S.map fun s=>J9 p.ex s.l).length=S.length:=by simp
 have hX0:(S.map fun s=>J9 p.ex s.l)≠[]:=by simpa using hb1
 have hhx:=hx.trans hxH
 have hl0:=hx.le
 generalize (S.map fun s=>J9 p.ex s.l)=X at hob hXl hX0 ⊢
 refine CU (fun hc => ?_) (fun hc => ?_)
 ·have hbad:NT p.bins≠[]:=by
   intro q
   rw[q] at hc; exact absurd hc (by decide)
  have hbo:badO J9 p=some (J9 p.ex (NT p.bins)):=by unfold badO; rw[if_neg hbad]
  rw[hbo]
  have hw1:IntKind.i64.wrap (((S.length:Nat):Int) - 1)=((S.length - 1:Nat):Int):=by rw[wrap_i64 (by omega) (by omega)]; omega
  have hin:PCall (En G) 65 [.agg (DX p.ex),.sl (Cov.nm (NT p.bins)) 2 ((NT p.bins).map encR)] H' (.agg (DX (J9 p.ex (NT p.bins)))):=inside_prog G p.ex (NT p.bins) (Cov.nm (NT p.bins)) hb4 hb6 H'
  generalize J9 p.ex (NT p.bins)=y at hin ⊢
  have hlast:(X.map rowF)[S.length - 1]? = some (rowF (ML X)):=by
   rw[jY,← hXl,ATL hX0]; rfl
  have i1:J3 1 H' (.own ob 0 S.length) (.int .i64 ((S.length - 1:Nat):Int))=some (.ptr ob (S.length - 1) 0):=by rw[JR hob (by omega),jG]
  have d1:D8 Tryz.prog H' 46 (.ptr ob (S.length - 1) 0)=some (.sl .full 4 [DX (ML X)]):=by rw[DY VT hob hlast]; rfl
  have ha:GM Tryz.prog true H' 46 46 (.sl .full 4 [DX (ML X)]) (.sl .full 4 [NZ])=some (.own H'.length 0 2,H'++[.live 4 ([DX (ML X)]++[NZ])]) :=
   U5 AGK N7 AN1 APT (JF H' .full 4 [NZ]) (by simp) (JB (by simp) (by omega))
  have gN:=CZ H' (ABlk.live 4 ([DX (ML X)]++[NZ]))
  have gO:=CX (x:=ABlk.live 4 ([DX (ML X)]++[NZ])) hob
  have lob:=CJ hob
  have i2:J3 4 (H'++[ABlk.live 4 ([DX (ML X)]++[NZ])]) (.own H'.length 0 2) (.int .i64 ((1:Nat):Int))=some (.ptr H'.length 1 0):=JR (n:=1) gN (by decide)
  have i3:J3 1 (H'++[ABlk.live 4 ([DX (ML X)]++[NZ])]) (.own ob 0 S.length) (.int .i64 ((S.length - 1:Nat):Int))=some (.ptr ob (S.length - 1) 0):=by rw[JR gO (by omega),jG]
  have hHx:=hhx.app [ABlk.live 4 ([DX (ML X)]++[NZ])]
  generalize H'++[ABlk.live 4 ([DX (ML X)]++[NZ])]=H2 at gN gO i2 i3 ha hHx
  generalize hnb:H'.length=nb at gN i2 ha lob
  have hsN : ∀ Hq:Hp,Hq[nb]? = some (.live 4 ([DX (ML X)]++[NZ]))→FP Tryz.prog Hq 48 (.ptr nb 1 0) (.agg [.int .i64 4,.int .i64 0,.str ⟨#[]⟩,.sl .full 4 [DX y]])=some (Hq.set nb (.live 4 [DX (ML X),DX (notE y)])):=fun Hq hq=>by
   rw[JQ (i:=1) (QS rfl) N7 hq rfl (jL 4),AWI]; rfl
  have hsO : ∀ Hq:Hp,Hq[ob]? = some (.live 1 (X.map rowF))→FP Tryz.prog Hq 46 (.ptr ob (S.length - 1) 0) (.own nb 0 2)=some (Hq.set ob (.live 1 ((X.map rowF).set (X.length - 1) [.own nb 0 2]))):=fun Hq hq=>by
   rw[JQ (cs := [.own nb 0 2]) rfl AVK hq hlast (by exact jL 1),hXl]; rfl
  have q1:=hsN H2 gN
  have q2:=hsO (H2.set nb (.live 4 [DX (ML X),DX (notE y)])) (CV gO (by omega))
  have q3:=hsO H2 gO
  have q4:=hsN (H2.set ob (.live 1 ((X.map rowF).set (X.length - 1) [.own nb 0 2]))) (CV gN (by omega))
  rw[List.set_comm _ _ (show ob≠nb by omega)] at q4
  clear hsN hsO
  have gF1:((H2.set nb (.live 4 [DX (ML X),DX (notE y)])).set ob (.live 1 ((X.map rowF).set (X.length - 1) [.own nb 0 2])))[ob]? = some (.live 1 ((X.map rowF).set (X.length - 1) [.own nb 0 2])):=EG (CV gO (by omega))
  have gF2:((H2.set nb (.live 4 [DX (ML X),DX (notE y)])).set ob (.live 1 ((X.map rowF).set (X.length - 1) [.own nb 0 2])))[nb]? = some (.live 4 [DX (ML X),DX (notE y)]):=CV (EG gN) (by omega)
  have hF:=(hHx.set (show h.length≤nb by omega) (.live 4 [DX (ML X),DX (notE y)])).set (show h.length≤ob by omega) (.live 1 ((X.map rowF).set (X.length - 1) [.own nb 0 2]))
  have hfz:=AT3 (n:=h.length) (y:=y) (by omega) (by omega) hX0 gF1 gF2
  simp -implicitDefEqProofs only[vQ,jR,jJ,jO,jQ,BD,↓reduceIte,jB,enP,f7,AOW.2,hw1]
  refine AF4 [] [0,1,2,3,4,5,6,7,8,9,10,11,12,13,15] 14 16 [] (by kernel_rfl) trivial ?_
  simp only[OZ,List.getElem?_cons_succ,List.getElem?_cons_zero]
  simp -implicitDefEqProofs only[vQ,jR,jJ,jO,jQ,IP,↓reduceIte,jB,jM,enP,ATT,Y6,jT,f2,f7,i1,d1,AWT gp']
  refine⟨_,hin,?_⟩
  try simp -implicitDefEqProofs only[vQ,jR,jJ,jO,jQ,ZH,IP,BD,↓reduceIte,jB,jM,enP,ATT,AAC,WS,jT,A22,A7N,A7W,A21,ha,i2,i3,zX,qM,q1,q2,q3,q4]
  rw[f7,← hXl,hfz]
  exact⟨⟨hF,rfl⟩,hF,rfl⟩
 ·have hbad:NT p.bins = []:=by
   have:=of_decide_eq_false hc
   exact List.length_eq_zero_iff.1 (by omega)
  have hbo:badO J9 p=none:=by unfold badO; rw[if_pos hbad]
  rw[hbo]
  simp -implicitDefEqProofs only[vQ,jR,jJ,jO,jQ,BD,↓reduceIte,jB,f7]
  refine⟨hhx,?_⟩
  have:=frz_own (d:=2) AR3 (n:=h.length) (show h.length≤ob by omega) hob
  rw[hXl] at this
  exact this
end
def V6 (l:List Ex):List AV:=A2T ⟨Cov.nm l,l⟩
def VX (c:List (List Ex)):List AV := [.sl .any 1 (c.map encX)]
theorem AXV (c:List (List Ex)):(VX c)[0]? = some (.sl .any 1 (c.map encX)):=rfl
theorem A6W (l:List Ex):(encX l)[0]? = some (.sl .any 4 (l.map DX)):=rfl
structure OL (n0:Nat) (H:Hp) (ob n:Nat) (v:Nat→AV) (X:Nat→List Ex):Prop where
 gob:H[ob]? = some (.live 1 ((zY n).map fun t => [v t]))
 lo:n0≤ob
 each : ∀ t,t < n→(X t = []∧v t = .sl .nil 0 [])∨(X t≠[]∧∃ o,n0≤o∧v t = .own o 0 (X t).length∧H[o]? = some (.live 4 ((X t).map DX)))
 ap : ∀ t u b,t < n→u < n→isB (v t) b→isB (v u) b→t=u
 ne : ∀ t b,t < n→isB (v t) b→b≠ob
def ZW {α:Type}(f:Nat→α)(a:Nat)(x:α)(t:Nat):α:=if t=a then x else f t
theorem ATA {v:Nat→AV}{n a:Nat}{x:AV}(_ha:a < n):((zY n).map fun t => [v t]).set a [x]=(zY n).map fun t => [ZW v a x t]:=by
 apply List.ext_getElem
 ·simp
 intro i h1 h2
 rw[List.getElem_set]
 simp only[List.getElem_map,List.getElem_range,ZW]
 by_cases e:a=i
 ·rw[if_pos e,if_pos e.symm]
 ·rw[if_neg e,if_neg (Ne.symm e)]
theorem ABG {n0:Nat}{h H:Hp}{X:List Ex}{v:AV}(hl:n0=h.length):((X = []∧v = .sl .nil 0 [])∨(X≠[]∧∃ o,n0≤o∧v = .own o 0 X.length∧H[o]? = some (.live 4 (X.map DX))))↔outG 4 DX h X v H:=by subst hl; exact Iff.rfl
theorem OL.app {h H:Hp}{ob n a:Nat}{v:Nat→AV}{X:Nat→List Ex}(O:OL h.length H ob n v X)(ha:a < n)(hx:ext h H)(s:SM)(ys:List Ex)(hl:(X a).length+ys.length≤8388608) :
  ∃ v' H',GM Tryz.prog true H 46 46 (v a) (.sl s 4 (ys.map DX))=some (v',H')∧H'[ob]? = some (.live 1 ((zY n).map fun t => [v t]))∧JW v'=some [v'] ∧
    OL h.length (H'.set ob (.live 1 ((zY n).map fun t => [ZW v a v' t]))) ob n (ZW v a v') (ZW X a (X a++ys))∧ext h (H'.set ob (.live 1 ((zY n).map fun t => [ZW v a v' t]))):=by
 obtain⟨v',H',h1,h2,h3,h4,h5,h6⟩:=ABH (P:=Tryz.prog) s ((ABG rfl).1 (O.each a ha)) AGK N7 AN1 APT (by omega) (ys:=ys) hl hx
 have lob:=CJ O.gob
 have g1:=h3 _ _ O.gob (fun q=>O.ne a _ ha q rfl)
 have hlt : ∀ t b,t < n→isB (v t) b→b < H.length:=fun t b ht hb=>((ABG rfl).1 (O.each t ht)).lt hb |>.2
 have hne' : ∀ b,isB v' b→b≠ob:=fun b hb=>by
  rcases h6 b hb with q | q
  ·exact O.ne a b ha q
  ·omega
 have hac:JW v'=some [v']:=by
  rcases h2 with⟨_,rfl⟩ | ⟨_,o,_,rfl,_⟩ <;> rfl
 refine⟨v',H',h1,g1,hac,⟨EG g1,O.lo,fun t ht => ?_,fun t u b ht hu h7 h8 => ?_,fun t b ht hb => ?_⟩,h4.set O.lo _⟩
 ·by_cases e:t=a
  ·subst e
   simp only[ZW,if_true]
   exact(ABG rfl).2 (h2.keep fun b hb=>by rw[zW (Ne.symm (hne' b hb))])
  ·simp only[ZW,if_neg e]
   refine(ABG rfl).2 (((ABG rfl).1 (O.each t ht)).keep fun b hb => ?_)
   rw[zW (Ne.symm (O.ne t b ht hb))]
   rcases O.each t ht with⟨_,q⟩ | ⟨_,o,_,q,q2⟩
   ·rw[q] at hb; exact hb.elim
   ·rw[q] at hb; cases hb
    rw[q2]
    exact h3 _ _ q2 fun q3=>e (O.ap t a _ ht ha (by rw[q]; rfl) q3)
 ·simp only[ZW] at h7 h8
  by_cases e1:t=a <;> by_cases e2:u=a
  ·rw[e1,e2]
  ·rw[if_pos e1] at h7; rw[if_neg e2] at h8
   rcases h6 b h7 with q | q
   ·exact e1.trans (O.ap a u b ha hu q h8)
   ·have:=hlt u b hu h8; omega
  ·rw[if_neg e1] at h7; rw[if_pos e2] at h8
   rcases h6 b h8 with q | q
   ·exact(O.ap t a b ht ha h7 q).trans e2.symm
   ·have:=hlt t b ht h7; omega
  ·rw[if_neg e1] at h7; rw[if_neg e2] at h8
   exact O.ap t u b ht hu h7 h8
 ·simp only[ZW] at hb
  by_cases e1:t=a
  ·rw[if_pos e1] at hb; exact hne' b hb
  ·rw[if_neg e1] at hb; exact O.ne t b ht hb
theorem OL.frz {n0:Nat}{H:Hp}{ob n:Nat}{v:Nat→AV}{X:Nat→List Ex}(O:OL n0 H ob n v X)(h:Hp)(hl:n0=h.length):IL h.length H 4 (.own ob 0 n) = .sl .any 1 ((zY n).map fun t => [fzG 4 DX (X t)]):=by
 subst hl
 have hm:((zY n).map fun t => [v t]).map (·.map (IL h.length H 3))=(zY n).map fun t => [fzG 4 DX (X t)]:=by
  rw[wF]
  refine List.map_congr_left fun t ht => ?_
  have ht':t < n:=by simpa using ht
  show [IL h.length H 3 (v t)]=_
  rw[UZ AR4 ((ABG rfl).1 (O.each t ht')) h.length 1 (jL _)]
 rw[Cov.frzF_own h.length H 3 ob 0 n 1 _ (by have:=O.lo; omega) O.gob,zU,jW (by simp),hm]
 rw[if_pos]
 refine⟨by simp,?_⟩
 rw[zI]
 intro row hr
 obtain⟨t,_,rfl⟩:=zL.1 hr
 cases X t <;> rfl
theorem A6P (l:List Ex):CvRow [fzG 4 DX l] (V6 l):=by
 cases l with
 | nil=>exact CvRow.cons rfl (Cv.nil 0 4) CvRow.nil
 | cons x xs=>exact CvRow.cons rfl (Cv.refl _) CvRow.nil
def rowP (n i t:Nat)(c:List (List Ex)):List Ex:=if n - c.length≤t∧t < n - c.length+i then c[t - (n - c.length)]?.getD [] else []
theorem AS3 (n t:Nat)(c:List (List Ex)):rowP n 0 t c = []:=by unfold rowP; rw[if_neg (by omega)]
theorem AS4 {n t:Nat}{c:List (List Ex)}(ht:t < n)(hc:c.length≤n):rowP n c.length t c=rowC n t c:=by
 unfold rowP rowC
 by_cases h:n - c.length≤t
 ·rw[if_pos ⟨h,by omega⟩,if_pos h]
 ·rw[if_neg (by omega),if_neg h]
theorem AS6 (n t:Nat)(cs:List (List (List Ex)))(j:Nat)(hj:j < cs.length):rowA n (cs.take (j+1)) t=rowA n (cs.take j) t++rowC n t cs[j]:=by
 unfold rowA
 rw[zN hj,List.flatMap_append]; simp
theorem rowC_len {n t:Nat}{c:List (List Ex)}{B:Nat}(h : ∀ r∈c,r.length≤B):(rowC n t c).length≤B:=by
 unfold rowC
 split
 ·cases hx:c[t - (n - c.length)]? with
  | none=>exact qY _
  | some r=>exact h r (qC hx)
 ·exact qY _
theorem AD8 {n t B:Nat} : ∀ {cs:List (List (List Ex))},(∀ c∈cs,∀ r∈c,r.length≤B)→(rowA n cs t).length≤B * cs.length
 | [],_=>by simp [rowA]
 | c :: cs,h=>by
   have h1:=rowC_len (n:=n) (t:=t) (h c (by simp))
   have h2:=AD8 (n:=n) (t:=t) (cs:=cs) fun c hc=>h c (by simp [hc])
   show(rowC n t c++rowA n cs t).length≤_
   rw[qA,zX,Nat.mul_add]; omega
theorem A8W (h:Hp)(n:Nat)(hn:n≤1048576):JO Tryz.prog true h 33 (.int .i64 (n:Int)) (.int .i64 (n:Int))=some (.own h.length 0 n,h++[ABlk.live 1 ((zY n).map fun _ => [.sl .nil 0 []])]):=by
 have hz:NE Tryz.prog 46=some [.sl .nil 0 []]:=by kernel_rfl
 have hr:room n 24:=JB (by omega) (by omega)
 unfold JO
 simp only[A49,AVK,A64,hz,Int.toNat_natCast]
 rw[if_pos ⟨by omega,Int.le_refl _,hr,rfl⟩]
 have e:(zY n).map (fun _ => [AV.sl .nil 0 []])=List.replicate n [.sl .nil 0 []]:=by rw[List.map_const',List.length_range]
 rw[e]; rfl
theorem rowP_step {n i t:Nat}{c:List (List Ex)}(hc:c.length≤n)(hi:i < c.length)(_ht:t < n):rowP n (i+1) t c=if t=n - c.length+i then c[i] else rowP n i t c:=by
 unfold rowP
 by_cases e:t=n - c.length+i
 ·rw[if_pos e,if_pos (by omega),show t - (n - c.length)=i by omega,jS hi]; rfl
 ·rw[if_neg e]
  by_cases h:n - c.length≤t∧t < n - c.length+i
  ·rw[if_pos h,if_pos (by omega)]
  ·rw[if_neg h,if_neg (by omega)]
section
variable (G:Nat→AV)
set_option maxHeartbeats 8000000 in
theorem AKA (cs:List (List (List Ex)))(s:SM)(hcs:cs.length≤1048576)(hl : ∀ c∈cs,c.length≤1048576)(hr : ∀ c∈cs,∀ r∈c,r.length≤2)(h:Hp):PCall (En G) 36 [.sl s 1 (cs.map VX)] h (.sl .any 1 ((OQ cs).map V6)):=by
 have hcv:Cv (.sl .any 1 ((zY (VM cs)).map fun t => [fzG 4 DX (rowA (VM cs) cs t)])) (.sl .any 1 ((OQ cs).map V6)):=by
  unfold OQ
  rw[wF]
  exact Cv.map fun t _=>A6P _
 refine PCall.res ?_ (CvR.sl hcv)
 clear hcv
 refine ACalls.pure (R:=fun v H=>Sm.ext h H∧IL h.length H 4 v = .sl .any 1 ((zY (VM cs)).map fun t => [fzG 4 DX (rowA (VM cs) cs t)])) 4 ?_ (fun v H ⟨a,b⟩=>⟨a,b⟩)
 have hnb:VM cs≤1048576:=Y2 cs 0 _ (qY _) hl
 refine acN Tryz.func36 rfl ?_
 show awp _ _ _ _ _ (EM _ [.tmp 2] _)
 simp -implicitDefEqProofs only[vQ,BD,↓reduceIte,jB,enP,A56,jH]
 refine GZ 0 (fun F H'=>F 0 = .sl s 1 (cs.map VX)∧F 3 = .int .i64 (VM cs:Nat)∧H'=h) (fun _ _=>False) ?_ ?_ (fun _ _ q=>q.elim)
 ·refine DL (fun n F H' => ∃ i,n+i=cs.length∧F 0 = .sl s 1 (cs.map VX)∧F 3 = .int .i64 (VM (cs.take i):Nat)∧F 12 = .sl s 1 (cs.map VX)∧F 13 = .int .i64 (cs.length:Nat)∧F 14 = .int .i64 (i:Nat)∧H'=h) cs.length
   ⟨0,by simp,by simp -implicitDefEqProofs only[vQ,↓reduceIte,jB],by simp -implicitDefEqProofs only[AA,↓reduceIte,jB] <;> rfl,by simp -implicitDefEqProofs only[AA,↓reduceIte,jB],by simp -implicitDefEqProofs only[AA,↓reduceIte,jB],by simp -implicitDefEqProofs only[AA,↓reduceIte] <;> rfl,rfl⟩ ?_
  rintro n F H ⟨i,hi,f0,f3,f12,f13,f14,rfl⟩
  simp -implicitDefEqProofs only[vQ,BD,↓reduceIte,enP,f13,f14]
  refine CU (fun hc => ?_) (fun hc => ?_)
  ·have hi':i < cs.length:=by simpa using hc
   have hm:max ((VM (cs.take i):Nat):Int) ((cs[i].length:Nat):Int)=((VM (cs.take (i+1)):Nat):Int):=by rw[ATJ cs i hi']; omega
   simp -implicitDefEqProofs only[vQ,BD,AQN,AI7,↓reduceIte,jB,enP,AOW,A6L,f3,f12,f14,DN hi',CY A76 hi',AXV,jH,hm,wrap_succ (show i < 9223372036854775807 by omega)]
   exact⟨n - 1,by omega,i+1,by omega,by first | exact True.intro | exact f0,by first | exact True.intro | exact rfl,by first | exact True.intro | exact f12,by first | exact True.intro | exact f13,by first | exact True.intro | exact rfl,by first | exact True.intro | exact rfl⟩
  ·have hi' : ¬ i < cs.length:=by simpa using hc
   rw[jW (by omega)] at f3
   simp -implicitDefEqProofs only[vQ,↓reduceIte,jB]
   exact⟨by first | exact True.intro | exact f0,by first | exact True.intro | exact f3,by first | exact True.intro | exact rfl⟩
 rintro F H ⟨f0,f3,rfl⟩
 generalize hN:VM cs=N at *
 have g0:=CZ H (ABlk.live 1 ((zY N).map fun _ => [AV.sl .nil 0 []]))
 have O0:OL H.length (H++[ABlk.live 1 ((zY N).map fun _ => [AV.sl .nil 0 []])]) H.length N (fun _ => .sl .nil 0 []) (fun _ => []) :=
  ⟨g0,jL _,fun t _ => .inl ⟨rfl,rfl⟩,fun t u b _ _ q=>q.elim,fun t b _ q=>q.elim⟩
 have hx0:Sm.ext H (H++[ABlk.live 1 ((zY N).map fun _ => [AV.sl .nil 0 []])]):=(ext.rfl' H).app _
 simp -implicitDefEqProofs only[vQ,BD,KJ,↓reduceIte,jB,enP,A56,f0,f3,A8W H N hnb,jH]
 generalize H++[ABlk.live 1 ((zY N).map fun _ => [AV.sl .nil 0 []])]=H0 at O0 hx0 ⊢
 refine DL (fun n F H' => ∃ j v X,n+j=cs.length∧F 3 = .int .i64 (N:Nat)∧F 6 = .own H.length 0 N∧F 25 = .sl s 1 (cs.map VX)∧F 26 = .int .i64 (cs.length:Nat)∧F 27 = .int .i64 (j:Nat)∧OL H.length H' H.length N v X∧(∀ t,t < N→X t=rowA N (cs.take j) t)∧Sm.ext H H') cs.length
  ⟨0,_,_,by simp,by simp -implicitDefEqProofs only[AA,↓reduceIte,jB,f3],by simp -implicitDefEqProofs only[AA,↓reduceIte,jB],by simp -implicitDefEqProofs only[AA,↓reduceIte,jB],by simp -implicitDefEqProofs only[AA,↓reduceIte,jB],by simp -implicitDefEqProofs only[AA,↓reduceIte] <;> rfl,O0,fun t _=>by rw[qB]; rfl,hx0⟩ ?_
 clear O0 hx0 f0 f3 g0
 rintro n F H1 ⟨j,v,X,hj,f3,f6,f25,f26,f27,O,hX,hx⟩
 simp -implicitDefEqProofs only[vQ,BD,↓reduceIte,enP,f26,f27]
 refine CU (fun hc => ?_) (fun hc => ?_)
 ·have hj':j < cs.length:=by simpa using hc
  have hcN:cs[j].length≤N:=by rw[← hN]; exact AWR (jP hj')
  have hrj:=hr _ (jP hj')
  have hrt : ∀ t,(rowA N (cs.take j) t).length≤2 * j:=fun t=>by
   have:=AD8 (n:=N) (t:=t) (B:=2) (cs:=cs.take j) fun c hc=>hr c (List.mem_of_mem_take hc)
   rw[zJ,Nat.min_eq_left (by omega)] at this; exact this
  have hst : ∀ t,rowA N (cs.take (j+1)) t=rowA N (cs.take j) t++rowC N t cs[j]:=fun t=>AS6 N t cs j hj'
  simp -implicitDefEqProofs only[vQ,BD,↓reduceIte,jB,enP,AOW,A6L,f25,f27,DN hj',CY A76 hj',AXV,jH]
  generalize cs[j]=c at hcN hrj hst ⊢
  refine GZ 4 (fun F H' => ∃ v X,F 3 = .int .i64 (N:Nat)∧F 6 = .own H.length 0 N∧F 25 = .sl s 1 (cs.map VX)∧F 26 = .int .i64 (cs.length:Nat)∧F 27 = .int .i64 (j:Nat)∧OL H.length H' H.length N v X∧(∀ t,t < N→X t=rowA N (cs.take (j+1)) t)∧Sm.ext H H') (fun _ _=>False) ?_ ?_ (fun _ _ q=>q.elim)
  ·refine DL (fun n F H' => ∃ i v X,n+i=c.length∧F 3 = .int .i64 (N:Nat)∧F 6 = .own H.length 0 N∧F 8 = .sl .any 1 (c.map encX)∧F 25 = .sl s 1 (cs.map VX)∧F 26 = .int .i64 (cs.length:Nat)∧F 27 = .int .i64 (j:Nat)∧F 31 = .sl .any 1 (c.map encX)∧F 32 = .int .i64 (c.length:Nat)∧F 33 = .int .i64 (i:Nat)∧OL H.length H' H.length N v X∧(∀ t,t < N→X t=rowA N (cs.take j) t++rowP N i t c)∧Sm.ext H H') c.length
    ⟨0,v,X,by simp,by simp -implicitDefEqProofs only[AA,↓reduceIte,jB,f3],by simp -implicitDefEqProofs only[AA,↓reduceIte,jB,f6],by simp -implicitDefEqProofs only[AA,↓reduceIte,jB],by simp -implicitDefEqProofs only[AA,↓reduceIte,jB,f25],by simp -implicitDefEqProofs only[AA,↓reduceIte,jB,f26],by simp -implicitDefEqProofs only[AA,↓reduceIte,jB,f27],by simp -implicitDefEqProofs only[AA,↓reduceIte,jB],by simp -implicitDefEqProofs only[AA,↓reduceIte,jB],by simp -implicitDefEqProofs only[AA,↓reduceIte] <;> rfl,O,fun t ht=>by rw[AS3,jF]; exact hX t ht,hx⟩ ?_
   clear f3 f6 f25 f26 f27 O hX hx
   rintro n2 F H2 ⟨i,v,X,hi,f3,f6,f8,f25,f26,f27,f31,f32,f33,O,hX,hx⟩
   simp -implicitDefEqProofs only[vQ,BD,↓reduceIte,enP,f32,f33]
   refine CU (fun hd => ?_) (fun hd => ?_)
   ·have hi':i < c.length:=by simpa using hd
    have ha:N - c.length+i < N:=by omega
    have hlen:(X (N - c.length+i)).length+c[i].length≤8388608:=by
     have h1:=hrt (N - c.length+i)
     have h2:=hrj _ (jP hi')
     rw[hX _ ha,qA]
     have h3:rowP N i (N - c.length+i) c = []:=by unfold rowP; rw[if_neg (by omega)]
     rw[h3,qM]; omega
    obtain⟨v',H3,a1,a2,a3,O2,hx2⟩:=O.app ha hx .any c[i] hlen
    have hw1:IntKind.i64.wrap (((N:Nat):Int) - ((c.length:Nat):Int))=((N - c.length:Nat):Int):=by rw[wrap_i64 (by omega) (by omega)]; omega
    have hw2:IntKind.i64.wrap (((N - c.length:Nat):Int)+((i:Nat):Int))=((N - c.length+i:Nat):Int):=by rw[wrap_i64 (by omega) (by omega)]; omega
    have i1:J3 1 H2 (.own H.length 0 N) (.int .i64 ((N - c.length+i:Nat):Int))=some (.ptr H.length (N - c.length+i) 0):=by rw[JR O.gob ha,jG]
    have hrow : ∀ f:Nat→AV,((zY N).map fun t => [f t])[N - c.length+i]? = some [f (N - c.length+i)]:=fun f=>by
     rw[jY,List.getElem?_range ha]; rfl
    have d1:D8 Tryz.prog H2 46 (.ptr H.length (N - c.length+i) 0)=some (v (N - c.length+i)):=by rw[DY VT O.gob (hrow v)]; rfl
    have i2:J3 1 H3 (.own H.length 0 N) (.int .i64 ((N - c.length+i:Nat):Int))=some (.ptr H.length (N - c.length+i) 0):=by rw[JR a2 ha,jG]
    have s1:FP Tryz.prog H3 46 (.ptr H.length (N - c.length+i) 0) v'=some (H3.set H.length (.live 1 ((zY N).map fun t => [ZW v (N - c.length+i) v' t]))):=by
     rw[JQ (cs := [v']) a3 AVK a2 (hrow v) (by exact jL 1),← ATA ha]; rfl
    have hX2 : ∀ t,t < N→ZW X (N - c.length+i) (X (N - c.length+i)++c[i]) t=rowA N (cs.take j) t++rowP N (i+1) t c:=fun t ht=>by
     rw[rowP_step hcN hi' ht]
     by_cases e:t=N - c.length+i
     ·rw[if_pos e]
      simp only[ZW,if_pos e]
      rw[hX _ ha,← e]
      have h3:rowP N i t c = []:=by unfold rowP; rw[if_neg (by omega)]
      rw[h3,jF]
     ·rw[if_neg e]
      simp only[ZW,if_neg e]
      exact hX t ht
    simp -implicitDefEqProofs only[vQ,BD,↓reduceIte,jB,enP,ATT,AOW,jT,f3,f6,f8,f31,f33,DN hi',CY VT hi',A6W,jH,hw1,hw2,i1,d1,a1,i2,s1,wrap_succ (show i < 9223372036854775807 by omega)]
    exact⟨n2 - 1,by omega,i+1,_,_,by omega,by first | exact True.intro | exact f3,by first | exact True.intro | exact f6,by first | exact True.intro | exact f8,by first | exact True.intro | exact f25,by first | exact True.intro | exact f26,by first | exact True.intro | exact f27,by first | exact True.intro | exact f31,by first | exact True.intro | exact f32,by first | exact True.intro | exact rfl,O2,hX2,hx2⟩
   ·have hi':i=c.length:=by have : ¬ i < c.length:=by simpa using hd
                            omega
    subst hi'
    simp -implicitDefEqProofs only[vQ,↓reduceIte,jB]
    exact⟨v,X,by first | exact True.intro | exact f3,by first | exact True.intro | exact f6,by first | exact True.intro | exact f25,by first | exact True.intro | exact f26,by first | exact True.intro | exact f27,O,fun t ht=>by rw[hX t ht,hst,AS4 ht hcN],hx⟩
  ·clear f3 f6 f25 f26 f27 O hX hx
   rintro F H2 ⟨v,X,f3,f6,f25,f26,f27,O,hX,hx⟩
   simp -implicitDefEqProofs only[vQ,BD,↓reduceIte,jB,enP,f27,wrap_succ (show j < 9223372036854775807 by omega)]
   exact⟨n - 1,by omega,j+1,v,X,by omega,by first | exact True.intro | exact f3,by first | exact True.intro | exact f6,by first | exact True.intro | exact f25,by first | exact True.intro | exact f26,by first | exact True.intro | exact rfl,O,hX,hx⟩
 ·have hj' : ¬ j < cs.length:=by simpa using hc
  rw[jW (by omega)] at hX
  simp -implicitDefEqProofs only[vQ,BD,↓reduceIte,jB,f6]
  refine⟨hx,?_⟩
  rw[O.frz H rfl]
  congr 1
  refine List.map_congr_left fun t ht => ?_
  rw[hX t (by simpa using ht)]
end
theorem A2S (l:List Ex):(V6 l)[0]? = some (.sl (Cov.nm l) 4 (l.map DX)):=rfl
theorem AH0 {R:List (List Ex)}{i:Nat}(hi:i < R.length):(R.take (i+1)).flatten=(R.take i).flatten++R[i]:=by
 rw[zN hi,List.flatten_append]; simp
theorem AAI (R:List (List Ex))(i:Nat):(R.take i).flatten.length≤R.flatten.length:=by
 have:R.flatten=(R.take i).flatten++(R.drop i).flatten:=by rw[← List.flatten_append,List.take_append_drop]
 rw[this,qA]; omega
def AZ7 (h:Hp)(ys:List Ex)(v:AV)(H:Hp):Prop:=(v = .sl .nil 0 []∧ys = [])∨∃ o,h.length≤o∧v = .own o 0 ys.length∧H[o]? = some (.live 4 (ys.map DX))
theorem AWB {h H:Hp}{xs ys:List Ex}{v:AV}(s:SM)(ho:AZ7 h xs v H)(he:ext h H)(hl:xs.length+ys.length≤8388608) :
  ∃ v' H',GM Tryz.prog true H 46 46 v (.sl s 4 (ys.map DX))=some (v',H')∧AZ7 h (xs++ys) v' H'∧ext h H'∧(v = .sl .nil 0 []→ys = []→v' = .sl .nil 0 []):=by
 cases ys with
 | nil =>
   refine⟨v,H,?_,by rw[jF]; exact ho,he,fun q _=>q⟩
   have hcs:KE H (.sl s 4 [])=some (4,[]):=JF H s 4 []
   rcases ho with⟨rfl,rfl⟩ | ⟨o,h2,rfl,h3⟩
   ·simp [GM,AGK,N7,VH,hcs,bump]
   ·have hc:KE H (.own o 0 xs.length)=some (4,xs.map DX):=by rw[MH h3 (by simp),zU,jW (by simp)]
    simp [GM,AGK,N7,VH,hc,hcs,bump]
 | cons y ys =>
   have h1:(y :: ys).map DX≠[]:=by simp
   rcases ho with⟨rfl,rfl⟩ | ⟨o,h2,rfl,h3⟩
   ·exact⟨_,_,QE AGK N7 AN1 APT (JF H s 4 ((y :: ys).map DX)) h1 (JB (by simp at hl ⊢; omega) (by omega)),.inr ⟨H.length,he.le,by simp,by simp⟩,he.app _,fun _ q=>by cases q⟩
   ·have hc:KE H (.own o 0 xs.length)=some (4,xs.map DX):=by rw[MH h3 (by simp),zU,jW (by simp)]
    exact⟨_,_,Q8 AGK N7 AN1 APT hc (JF H s 4 ((y :: ys).map DX)) h1 (JB (by simp at hl ⊢; omega) (by omega)),.inr ⟨H.length,he.le,by simp,by simp⟩,(he.set h2 _).app _,fun q=>by cases q⟩
section
variable (G:Nat→AV)
set_option maxHeartbeats 4000000 in
theorem ANA (R:List (List Ex))(s:SM)(hR:R.length≤1048576)(hl:R.flatten.length≤1048576)(h:Hp):PCall (En G) 37 [.sl s 1 (R.map V6)] h (.sl (Cov.nm R.flatten) 4 (R.flatten.map DX)):=by
 refine PW AR4 ?_
 refine acN Tryz.func37 rfl ?_
 show awp _ _ _ _ _ (EM _ [.tmp 2] _)
 simp -implicitDefEqProofs only[vQ,BD,↓reduceIte,jB,enP,AOW,jH]
 refine GZ 0 (fun F H'=>F 0 = .sl s 1 (R.map V6)∧F 3 = .int .i64 (R.flatten.length:Nat)∧H'=h) (fun _ _=>False) ?_ ?_ (fun _ _ q=>q.elim)
 ·refine DL (fun n F H' => ∃ i,n+i=R.length∧F 0 = .sl s 1 (R.map V6)∧F 3 = .int .i64 ((R.take i).flatten.length:Nat)∧F 9 = .sl s 1 (R.map V6)∧F 10 = .int .i64 (R.length:Nat)∧F 11 = .int .i64 (i:Nat)∧H'=h) R.length
   ⟨0,by simp,by simp -implicitDefEqProofs only[vQ,↓reduceIte,jB],by simp -implicitDefEqProofs only[AA,↓reduceIte,jB] <;> rfl,by simp -implicitDefEqProofs only[AA,↓reduceIte,jB],by simp -implicitDefEqProofs only[AA,↓reduceIte,jB],by simp -implicitDefEqProofs only[AA,↓reduceIte] <;> rfl,rfl⟩ ?_
  rintro n F H ⟨i,hi,f0,f3,f9,f10,f11,rfl⟩
  simp -implicitDefEqProofs only[vQ,BD,↓reduceIte,enP,f10,f11]
  refine CU (fun hc => ?_) (fun hc => ?_)
  ·have hi':i < R.length:=by simpa using hc
   have hfl:=AH0 hi'
   have hle:=AAI R (i+1)
   rw[hfl,qA] at hle
   have hw:IntKind.i64.wrap ((((R.take i).flatten.length:Nat):Int)+((R[i].length:Nat):Int))=(((R.take (i+1)).flatten.length:Nat):Int):=by rw[hfl,qA,wrap_i64 (by omega) (by omega)]; omega
   simp -implicitDefEqProofs only[vQ,BD,↓reduceIte,jB,enP,ATT,WS,f3,f9,f11,DN hi',CY VT hi',A2S,jH,hw,RI,wrap_succ (show i < 9223372036854775807 by omega)]
   exact⟨n - 1,by omega,i+1,by omega,by first | exact True.intro | exact f0,by first | exact True.intro | exact rfl,by first | exact True.intro | exact f9,by first | exact True.intro | exact f10,by first | exact True.intro | exact rfl,by first | exact True.intro | exact rfl⟩
  ·have hi' : ¬ i < R.length:=by simpa using hc
   rw[jW (by omega)] at f3
   simp -implicitDefEqProofs only[vQ,↓reduceIte,jB]
   exact⟨by first | exact True.intro | exact f0,by first | exact True.intro | exact f3,by first | exact True.intro | exact rfl⟩
 rintro F H ⟨f0,f3,rfl⟩
 simp -implicitDefEqProofs only[vQ,BD,↓reduceIte,f3]
 refine(AT1 G R.flatten.length hl H).mono ?_
 intro v0 H0 hg
 have I0:AZ7 H [] v0 H0∧Sm.ext H H0∧(R.flatten.length=0→v0 = .sl .nil 0 []):=by
  rcases hg with⟨h0,rfl,rfl⟩ | ⟨h0,rfl,rfl⟩
  ·exact⟨.inl ⟨rfl,rfl⟩,ext.rfl' _,fun _=>rfl⟩
  ·exact⟨.inr ⟨H.length,jL _,rfl,CZ _ _⟩,(ext.rfl' H).app _,fun q=>by omega⟩
 simp -implicitDefEqProofs only[vQ,BD,↓reduceIte,jB,enP,AOW,f0,jH]
 refine DL (fun n F H' => ∃ i v,n+i=R.length∧F 6=v∧F 25 = .sl s 1 (R.map V6)∧F 26 = .int .i64 (R.length:Nat)∧F 27 = .int .i64 (i:Nat)∧AZ7 H (R.take i).flatten v H'∧Sm.ext H H'∧(R.flatten.length=0→v = .sl .nil 0 [])) R.length
  ⟨0,v0,by simp,by simp -implicitDefEqProofs only[AA,↓reduceIte,jB],by simp -implicitDefEqProofs only[AA,↓reduceIte,jB],by simp -implicitDefEqProofs only[AA,↓reduceIte,jB],by simp -implicitDefEqProofs only[AA,↓reduceIte] <;> rfl,by rw[qB]; exact I0.1,I0.2.1,I0.2.2⟩ ?_
 clear I0 hg f0 f3
 rintro n F H' ⟨i,v,hi,f6,f25,f26,f27,ho,hx,hz⟩
 simp -implicitDefEqProofs only[vQ,BD,↓reduceIte,enP,f26,f27]
 refine CU (fun hc => ?_) (fun hc => ?_)
 ·have hi':i < R.length:=by simpa using hc
  have hfl:=AH0 hi'
  have hle:=AAI R (i+1)
  rw[hfl,qA] at hle
  obtain⟨v',H2,ha,ho2,hx2,hn2⟩:=AWB (Cov.nm R[i]) ho hx (ys:=R[i]) (by omega)
  rw[← hfl] at ho2
  simp -implicitDefEqProofs only[vQ,BD,↓reduceIte,jB,enP,ATT,f6,f25,f27,DN hi',CY VT hi',A2S,ha,wrap_succ (show i < 9223372036854775807 by omega)]
  exact⟨n - 1,by omega,i+1,v',by omega,by first | exact True.intro | exact rfl,by first | exact True.intro | exact f25,by first | exact True.intro | exact f26,by first | exact True.intro | exact rfl,ho2,hx2,fun q=>hn2 (hz q) (List.length_eq_zero_iff.1 (by omega))⟩
 ·have hi' : ¬ i < R.length:=by simpa using hc
  rw[jW (by omega)] at ho
  simp -implicitDefEqProofs only[vQ,BD,↓reduceIte,jB,f6]
  refine⟨hx,?_⟩
  rcases ho with⟨h1,h2⟩ | ⟨o,h1,h2,h3⟩
  ·exact .inl ⟨h2,h1⟩
  ·refine .inr ⟨fun q => ?_,o,h1,h2,h3⟩
   have:=hz (by rw[q]; rfl)
   rw[this] at h2; cases h2
end
theorem AOC (b:Bin):sets b=KZ b:=by
 unfold sets KZ
 cases h:b.ranges.l with
 | nil=>rfl
 | cons x xs=>rw[if_pos (by simp),if_neg (by simp)]
structure VB (b:Bin):Prop where
 one:b.steps = []∨b.ranges.l = []
 ne:KZ b≠[]
 few:(KZ b).length≤8
 k0:0≤b.kind
 k2:b.kind≤2
 sk:b.kind≠0→b.steps = []
 each : ∀ s∈KZ b,s.l≠[]∧s.l.length≤64∧∀ r∈s.l,0≤r.lo∧r.lo≤r.hi∧r.hi≤65535
theorem A48 {b:Bin}(h:IA b=0):VB b:=by
 unfold IA at h
 split at h
 case isFalse=>cases h
 split at h
 case isTrue=>cases h
 rename_i h1 h2
 split at h
 case isTrue=>cases h
 rename_i h3
 split at h
 case isTrue=>cases h
 rename_i h4
 split at h
 case isTrue=>cases h
 rename_i h5
 have h2':J6 b=false:=by simpa using h2
 unfold J6 at h2'
 simp only[Bool.or_eq_false_iff,decide_eq_false_iff_not,Bool.and_eq_false_iff] at h2'
 obtain⟨⟨⟨⟨⟨q1,q2⟩,q3⟩,q4⟩,q5⟩,q6⟩:=h2'
 have hst : ∀ s∈b.steps,s.l≠[]:=fun s hs e=>by
  have:b.steps.any (fun l=>decide (l.l.length=0))=true:=qH.2 ⟨s,hs,by rw[e]; rfl⟩
  exact h3 this
 have h64 : ∀ s∈sets b,s.l.length≤64:=fun s hs=>by
  rcases Nat.lt_or_ge 64 s.l.length with q | q
  ·exact absurd (qH.2 ⟨s,hs,by simpa using q⟩) h4
  ·exact q
 have hbad : ∀ s∈sets b,∀ r∈s.l,bad r=false:=fun s hs r hr=>by
  cases hb:bad r with
  | false=>rfl
  | true=>exact absurd (qH.2 ⟨s,hs,qH.2 ⟨r,hr,hb⟩⟩) h5
 have hone:b.steps = []∨b.ranges.l = []:=by
  rcases Classical.em (b.steps = []) with q | q
  ·exact .inl q
  ·refine .inr ?_
   have l1:0 < b.steps.length:=List.length_pos_iff.2 q
   rcases Classical.em (b.ranges.l = []) with r | r
   ·exact r
   ·have l2:0 < b.ranges.l.length:=List.length_pos_iff.2 r
    have e1:decide (((b.ranges.l.length:Nat):Int) > 0)=true:=by rw[decide_eq_true_eq]; omega
    have e2:decide (((b.steps.length:Nat):Int) > 0)=true:=by rw[decide_eq_true_eq]; omega
    rw[e1,e2] at q3; cases q3
 have hne:b.steps≠[]∨b.ranges.l≠[]:=by
  rcases Classical.em (b.steps = []) with q | q
  ·refine .inr fun r => ?_
   rw[q,r] at q3; exact absurd q3 (by decide)
  ·exact .inl q
 rw[AOC] at h64 hbad
 refine⟨hone,?_,?_,by omega,by omega,fun hk => ?_,fun s hs=>⟨?_,h64 s hs,fun r hr => ?_⟩⟩
 ·unfold KZ
  split
  ·rename_i q; exact hne.resolve_right (fun r=>r q)
  ·exact List.cons_ne_nil _ _
 ·unfold KZ
  split
  ·simp at q6; omega
  ·simp
 ·rcases q4 with q | q
  ·simp at q; exact absurd q hk
  ·exact List.length_eq_zero_iff.1 (by omega)
 ·unfold KZ at hs
  split at hs
  ·exact hst s hs
  ·rename_i q
   rw[List.mem_singleton.1 hs]; exact q
 ·have:=hbad s hs r hr
  unfold bad at this
  simp only[Bool.or_eq_false_iff,decide_eq_false_iff_not] at this
  omega
structure VP (p:Pt):Prop where
 n1:1≤p.bins.length
 n64:p.bins.length≤64
 ex:exE p.ex=0
 bins : ∀ b∈p.bins,VB b
theorem A47 {p:Pt}(h:G6 p=0):VP p:=by
 obtain⟨h1,h2⟩:=ACF h
 unfold G6 at h
 split at h
 ·cases h
 split at h
 ·rename_i q; exact absurd h q
 rename_i q1
 split at h
 ·cases h
 split at h
 ·cases h
 split at h
 ·rename_i q; exact absurd h q
 rename_i q2
 exact⟨h1,h2,by simpa using q1,fun b hb=>A48 (UY _ (by simpa using q2) b hb)⟩
theorem AN4 {m:Mo}(h:FX m=0) : ∀ p∈m.pts,VP p:=by
 unfold FX at h
 split at h
 ·cases h
 split at h
 ·rename_i q; exact absurd h q
 rename_i q
 exact fun p hp=>A47 (UY _ (by simpa using q) p hp)
theorem AF2 {n:Nat} : ∀ {l:List Bin},(∀ b∈l,b.kind≠0→b.ranges.l.length≤n)→(NT l).length≤n * l.length
 | [],_=>by simp [NT]
 | b :: l,h=>by
   have ih:=AF2 (l:=l) fun b hb=>h b (by simp [hb])
   show((if b.kind≠0 then b.ranges.l else [])++NT l).length≤n * (l.length+1)
   rw[qA,Nat.mul_add]
   by_cases hk:b.kind≠0
   ·rw[if_pos hk]; have:=h b (by simp) hk; omega
   ·rw[if_neg hk,qM]; omega
theorem VB.ranges {b:Bin}(v:VB b)(hk:b.kind≠0):KZ b = [b.ranges]:=by
 rcases Classical.em (b.ranges.l = []) with q | q
 ·have h1:=setsB_nil' q
  have h2:=v.ne
  rw[h1,v.sk hk] at h2; exact absurd rfl h2
 ·unfold KZ; rw[if_neg q]
 where setsB_nil' {b:Bin} (h:b.ranges.l = []):KZ b=b.steps:=by unfold KZ; rw[if_pos h]
theorem VP.badLen {p:Pt}(v:VP p):(NT p.bins).length≤4096:=by
 have:=AF2 (n:=64) (l:=p.bins) fun b hb hk=>((v.bins b hb).each b.ranges (by rw[(v.bins b hb).ranges hk]; simp)).2.1
 have:=v.n64
 omega
theorem AKH (op n:Int)(name:ByteArray)(m:SM)(args:List Ex):wt (.mk op n name m args)=name.size+1+wts args:=NF _
theorem nsz:(⟨#[]⟩:ByteArray).size=0:=rfl
theorem AVD (n:Int):wt (cE n)=1:=by unfold cE; rw[AKH,nsz]; rfl
theorem AQO : ∀ l:List Rng,wts (cEs l)=2 * l.length
 | []=>rfl
 | a :: l=>by
   rw[AFV]
   simp only[wts,AVD,AQO l,zX]; omega
theorem AQR (e:Ex)(l:List Rng):wt (NW e l)=1+wt e+2 * l.length:=by
 rw[AJD,AKH,nsz]
 unfold insL
 simp only[wts,AQO]; omega
theorem A3A (a b:Ex):wt (orE a b)=1+wt a+wt b:=by
 unfold orE
 rw[AKH,nsz]; simp only[wts]; omega
theorem AQQ (a:Ex):wt (notE a)=1+wt a:=by
 unfold notE
 rw[AKH,nsz]; simp only[wts]; omega
theorem ALR (L:List Rng)(k:Nat):(part L k).length≤16:=by unfold part; rw[zJ]; omega
theorem AQP (e:Ex)(L:List Rng) : ∀ k,wt (WE e L k)≤(k+1) * (wt e+34)
 | 0=>by
   have:=ALR L 0
   show wt (NW e (part L 0))≤_
   rw[AQR]; omega
 | k+1=>by
   have:=ALR L (k+1)
   have ih:=AQP e L k
   show wt (orE (WE e L k) (NW e (part L (k+1))))≤_
   rw[A3A,AQR,Nat.add_mul (k+1) 1]; omega
theorem ADO : ∀ l:List Ex,(∀ e∈l,wt (cpE e)=wt e)→wts (l.map cpE)=wts l
 | [],_=>rfl
 | e :: l,h=>by
   simp only[jD,wts]
   rw[h e (by simp),ADO l fun e he=>h e (by simp [he])]
theorem A3B (e:Ex):wt (cpE e)=wt e:=by
 induction e using Ex.induct with | h e ih => ?_
 rw[APL,AKH,ADO _ ih,NF e]
theorem AEO {x:Ex} : ∀ {xs:List Ex},x∈J4 xs↔∃ a∈xs,x∈pre a
 | []=>by simp [J4]
 | a :: xs=>by simp [J4,AEO (xs:=xs)]
def NmB (N:Nat)(e:Ex):Prop := ∀ x∈pre e,x.name.size≤N
theorem NmB.mk {N:Nat}{op n:Int}{name:ByteArray}{m:SM}{args:List Ex}(h:name.size≤N)(ha : ∀ a∈args,NmB N a):NmB N (.mk op n name m args):=fun x hx=>by
 rw[pre_eq] at hx
 rcases qJ.1 hx with rfl | hx
 ·exact h
 ·obtain⟨a,h1,h2⟩:=AEO.1 hx
  exact ha a h1 x h2
theorem AQC (N:Nat)(n:Int):NmB N (cE n):=NmB.mk (qY _) fun a h=>by cases h
theorem ANV {N:Nat}{e:Ex}(h:NmB N e)(l:List Rng):NmB N (NW e l):=by
 rw[AJD]
 refine NmB.mk (qY _) fun a ha => ?_
 rcases qJ.1 ha with rfl | ha
 ·exact h
 ·unfold cEs at ha
  obtain⟨r,_,hr⟩:=List.mem_flatMap.1 ha
  rcases qJ.1 hr with rfl | hr
  ·exact AQC N _
  ·rw[List.mem_singleton.1 hr]; exact AQC N _
theorem A2A {N:Nat}{a b:Ex}(h1:NmB N a)(h2:NmB N b):NmB N (orE a b):=NmB.mk (qY _) fun x hx=>by
 rcases qJ.1 hx with rfl | hx
 ·exact h1
 ·rw[List.mem_singleton.1 hx]; exact h2
theorem AY5 {N:Nat}{a:Ex}(h1:NmB N a):NmB N (notE a):=NmB.mk (qY _) fun x hx=>by rw[List.mem_singleton.1 hx]; exact h1
theorem ANU {N:Nat}{e:Ex}(h:NmB N e)(L:List Rng) : ∀ k,NmB N (WE e L k)
 | 0=>ANV h _
 | k+1=>A2A (ANU h L k) (ANV h _)
theorem A2B {N:Nat}(e:Ex)(h:NmB N e):NmB N (cpE e):=by
 induction e using Ex.induct with | h e ih => ?_
 rw[APL]
 refine NmB.mk (h e (by rw[pre_eq]; simp)) fun a ha => ?_
 obtain⟨b,hb,rfl⟩:=zL.1 ha
 exact ih b hb fun x hx=>h x (by rw[pre_eq]; exact List.mem_cons_of_mem _ (AEO.2 ⟨b,hb,hx⟩))
theorem ASJ {e:Ex}{l:List Rng}(h:wt e≤1048576)(hl:l.length≤4096):WN (J9 e l)∧wt (J9 e l)≤269000000:=by
 have hn:NmB 1048576 e:=(ASI h).2
 have hnl:=AEI l
 have hp:parts (normal l)≤256:=by rw[parts_eq]; omega
 unfold J9
 rcases Classical.em (normal l = []) with q | q
 ·have:Q4 e (normal l)=cE 0:=by unfold Q4; rw[if_pos q]
  rw[this]
  exact⟨⟨by rw[AVD]; omega,AQC _ _⟩,by rw[AVD]; omega⟩
 ·rw[ACH e _ q]
  have h1:=AQP (cpE e) (normal l) (parts (normal l) - 1)
  rw[A3B] at h1
  have h2:(parts (normal l) - 1+1) * (wt e+34)≤256 * (1048576+34):=Nat.mul_le_mul (by omega) (by omega)
  exact⟨⟨by omega,ANU (A2B e hn) _ _⟩,by omega⟩
theorem A16 {e:Ex}(h:WN e∧wt e≤269000000):WN (notE e)∧wt (notE e)≤269000001:=⟨⟨by rw[AQQ]; omega,AY5 h.1.2⟩,by rw[AQQ]; omega⟩
theorem AUF {P:Ex→Prop}{ins:Ex→List Rng→Ex}{p:Pt}{b:Bin}(h1 : ∀ s∈KZ b,P (ins p.ex s.l))(h2:NT p.bins≠[]→P (notE (ins p.ex (NT p.bins)))) : ∀ r∈ACQ ins p b,r.length≤2∧∀ e∈r,P e:=by
 have base : ∀ r∈(KZ b).map (fun s => [ins p.ex s.l]),r.length=1∧∀ e∈r,P e:=fun r hr=>by
  obtain⟨s,hs,rfl⟩:=zL.1 hr
  exact⟨rfl,fun e he=>by rw[List.mem_singleton.1 he]; exact h1 s hs⟩
 intro r hr
 unfold ACQ badO at hr
 by_cases q:NT p.bins = []
 ·rw[if_pos q] at hr
  obtain⟨a,b⟩:=base r hr
  exact⟨by omega,b⟩
 ·rw[if_neg q] at hr
  rcases List.mem_or_eq_of_mem_set (show r∈List.set _ _ _ from hr) with hr | rfl
  ·obtain⟨a,b⟩:=base r hr
   exact⟨by omega,b⟩
  ·cases hx:((KZ b).map fun s => [ins p.ex s.l])[((KZ b).map fun s => [ins p.ex s.l]).length - 1]? with
   | none =>
     refine⟨by simp,fun e he => ?_⟩
     have:e=notE (ins p.ex (NT p.bins)):=by simpa using he
     rw[this]; exact h2 q
   | some r0 =>
     obtain⟨a,b⟩:=base r0 (qC hx)
     refine⟨by simp [a],fun e he => ?_⟩
     rcases List.mem_append.1 he with he | he
     ·exact b e he
     ·rw[List.mem_singleton.1 he]; exact h2 q
theorem AX8 (ins:Ex→List Rng→Ex)(p:Pt)(b:Bin):(ACQ ins p b).length=(KZ b).length:=by unfold ACQ; rw[AL0,jH]
def ABM (m:Mo)(x:Hl):List Int:=if x.cross=true then (match AGY m x.idx with | some c=>c.pts | none => []) else [x.idx]
structure Prt (m:Mo) (x:Hl) (L:List (Nat × Nat)):Prop where
 pts:ABM m x=L.map fun q=>(q.1:Int)
 bins:x.bins=L.map fun q=>(q.2:Int)
 ok : ∀ q∈L,∃ h:q.1 < m.pts.length,q.2 < m.pts[q.1].bins.length
 n1:1≤L.length
 n4:L.length≤4
def cdQ (ins:Ex→List Rng→Ex)(m:Mo)(q:Nat × Nat):List (List Ex):=match m.pts[q.1]? with
 | some p=>(match p.bins[q.2]? with | some b=>ACQ ins p b | none => [])
 | none => []
theorem APS (ins:Ex→List Rng→Ex){m:Mo}{q:Nat × Nat}(h:q.1 < m.pts.length)(h2:q.2 < m.pts[q.1].bins.length):cdQ ins m q=ACQ ins m.pts[q.1] m.pts[q.1].bins[q.2]:=by
 unfold cdQ
 rw[jS h]
 show(match m.pts[q.1].bins[q.2]? with | some b=>ACQ ins m.pts[q.1] b | none => [])=_
 rw[jS h2]
def A61 (ins:Ex→List Rng→Ex)(m:Mo)(L:List (Nat × Nat)):List (List Ex):=OQ (L.map (cdQ ins m))
def RY (m:Mo)(x:Hl):List (Nat × Nat):=((ABM m x).map Int.toNat).zip (x.bins.map Int.toNat)
theorem ARO (l:List Int)(h : ∀ z∈l,0≤z):(l.map Int.toNat).map (fun n:Nat=>(n:Int))=l:=by
 rw[wF]
 conv=>rhs; rw[← List.map_id l]
 exact List.map_congr_left fun z hz=>by have:=h z hz; show((z.toNat:Nat):Int)=z; omega
theorem AOK {m:Mo}{x:Hl}(hv:QF m x=true):Prt m x (RY m x):=by
 have mk : ∀ (ps bs:List Int),ABM m x=ps→x.bins=bs→ps.length=bs.length→(∀ z∈ps,0≤z)→(∀ z∈bs,0≤z)→1≤ps.length→ps.length≤4 →
   (∀ k (h1:k < ps.length) (h2:k < bs.length),∃ h:ps[k].toNat < m.pts.length,bs[k].toNat < m.pts[ps[k].toNat].bins.length)→Prt m x (RY m x):=by
  intro ps bs hp hb hl p0 b0 l1 l4 hok
  have e1:(RY m x).map Prod.fst=ps.map Int.toNat:=by
   unfold RY
   rw[hp,hb,List.map_fst_zip (by simp [hl])]
  have e2:(RY m x).map Prod.snd=bs.map Int.toNat:=by
   unfold RY
   rw[hp,hb,List.map_snd_zip (by simp [hl])]
  have hlen:(RY m x).length=ps.length:=by have:=congrArg yB e1; simpa using this
  refine⟨?_,?_,fun q hq => ?_,by omega,by omega⟩
  ·have:=congrArg (List.map fun n:Nat=>(n:Int)) e1
   rw[ARO ps p0,wF] at this
   rw[hp]; exact this.symm
  ·have:=congrArg (List.map fun n:Nat=>(n:Int)) e2
   rw[ARO bs b0,wF] at this
   rw[hb]; exact this.symm
  ·obtain⟨k,hk,rfl⟩:=qL hq
   have h1:k < ps.length:=by omega
   have h2:k < bs.length:=by omega
   have g1:(RY m x)[k].1=ps[k].toNat:=by
    have:((RY m x).map Prod.fst)[k]? = (ps.map Int.toNat)[k]? := by rw[e1]
    rw[jY,jY,jS hk,jS h1] at this
    simpa using this
   have g2:(RY m x)[k].2=bs[k].toNat:=by
    have:((RY m x).map Prod.snd)[k]? = (bs.map Int.toNat)[k]? := by rw[e2]
    rw[jY,jY,jS hk,jS h2] at this
    simpa using this
   obtain⟨q1,q2⟩:=hok k h1 h2
   rw[← g1] at q1
   refine⟨q1,?_⟩
   rw[g2]
   have:m.pts[(RY m x)[k].1]=m.pts[ps[k].toNat]:=by congr 1
   rw[this]; exact q2
 cases hc:x.cross
 ·obtain⟨i,hi,k,hk,hz,hb,hkd,hg⟩:=UH hv hc
  refine mk [(i:Int)] [(k:Int)] ?_ hb rfl (fun z hz => ?_) (fun z hz => ?_) (by simp) (by simp) fun k' h1 h2 => ?_
  ·unfold ABM; rw[if_neg (by rw[hc]; decide),hz]
  ·rw[List.mem_singleton.1 hz]; omega
  ·rw[List.mem_singleton.1 hz]; omega
  ·have:k'=0:=by simp at h1; omega
   subst this
   exact⟨hi,hk⟩
 ·obtain⟨i,hi,hz,hin,hh,hg⟩:=UI hv hc
  have hcg:=hg.crs _ (jP hi)
  have hl:=MR hin
  have hl2:m.crs[i].pts.length=x.bins.length:=by rw[← hl]; unfold szs; rw[jH]
  have h2:=hcg.two; have h4:=hcg.four
  refine mk m.crs[i].pts x.bins ?_ rfl hl2 (fun z hz=>(hcg.here z hz).1) (fun z hz => ?_) (by omega) (by omega) fun k h1 h2 => ?_
  ·unfold ABM; rw[if_pos hc,hz,Q7 hi]
  ·obtain⟨k,hk,rfl⟩:=qL hz
   exact(VO hin k hk (by omega)).1
  ·obtain⟨q1,q2⟩:=VO hin k h2 h1
   refine⟨hcg.here.toNat h1,?_⟩
   have:=hcg.here.bins h1
   rw[this]; omega
theorem A4W {m:Mo}(hm:MoOk m)(h0:FX m=0){p:Pt}(hp:p∈m.pts){b:Bin}(hb:b∈p.bins):BdB p b:=by
 have v:=AN4 h0 p hp
 have vb:=v.bins b hb
 have h1:=v.n64
 have h2:=vb.few
 have h3:=v.badLen
 exact⟨vb.ne,by omega,fun s hs=>by have:=(vb.each s hs).2.1; omega,by omega,by omega,(hm.pts p hp).ex⟩
theorem AX9 {P:Ex→Prop}{ins:Ex→List Rng→Ex}{m:Mo}(h0:FX m=0){q:Nat × Nat}(h:q.1 < m.pts.length)(h2:q.2 < m.pts[q.1].bins.length)
  (h3 : ∀ l:List Rng,l.length≤4096→P (ins m.pts[q.1].ex l)∧P (notE (ins m.pts[q.1].ex l))) : ∀ r∈cdQ ins m q,r.length≤2∧∀ e∈r,P e:=by
 rw[APS ins h h2]
 have v:=AN4 h0 _ (jP h)
 have vb:=v.bins _ (jP h2)
 exact AUF (fun s hs=>(h3 s.l (by have:=(vb.each s hs).2.1; omega)).1) fun _=>(h3 _ v.badLen).2
theorem A1M {ins:Ex→List Rng→Ex}{m:Mo}(h0:FX m=0){q:Nat × Nat}(h:q.1 < m.pts.length)(h2:q.2 < m.pts[q.1].bins.length):1≤(cdQ ins m q).length∧(cdQ ins m q).length≤8:=by
 rw[APS ins h h2,AX8]
 have vb:=(AN4 h0 _ (jP h)).bins _ (jP h2)
 exact⟨List.length_pos_iff.2 vb.ne,vb.few⟩
theorem AP1 {P:Ex→Prop}{cs:List (List (List Ex))}(h : ∀ c∈cs,∀ r∈c,∀ e∈r,P e) : ∀ r∈OQ cs,∀ e∈r,P e:=by
 intro r hr e he
 unfold OQ at hr
 obtain⟨t,_,rfl⟩:=zL.1 hr
 unfold rowA at he
 obtain⟨c,hc,he⟩:=List.mem_flatMap.1 he
 unfold rowC at he
 split at he
 ·cases hx:c[t - (VM cs - c.length)]? with
  | none=>rw[hx] at he; cases he
  | some r0=>rw[hx] at he; exact h c hc r0 (qC hx) e he
 ·cases he
theorem AMN {B:Nat} : ∀ {R:List (List Ex)},(∀ r∈R,r.length≤B)→R.flatten.length≤B * R.length
 | [],_=>by simp
 | r :: R,h=>by
   have h1:=h r (by simp)
   have h2:=AMN (R:=R) fun r hr=>h r (by simp [hr])
   rw[List.flatten_cons,qA,zX,Nat.mul_add]; omega
theorem AUW {cs:List (List (List Ex))}(h4:cs.length≤4)(h8 : ∀ c∈cs,c.length≤8)(h2 : ∀ c∈cs,∀ r∈c,r.length≤2):(OQ cs).length≤8∧(∀ r∈OQ cs,r.length≤8)∧(OQ cs).flatten.length≤64:=by
 have hn:VM cs≤8:=Y2 cs 0 _ (qY _) h8
 have a:(OQ cs).length≤8:=by unfold OQ; simpa using hn
 have b : ∀ r∈OQ cs,r.length≤8:=fun r hr=>by
  unfold OQ at hr
  obtain⟨t,_,rfl⟩:=zL.1 hr
  have:=AD8 (n:=VM cs) (t:=t) h2
  omega
 refine⟨a,b,?_⟩
 have:=AMN b
 omega
def cnL (ins:Ex→List Rng→Ex)(m:Mo)(x:Hl):List (List Ex):=A61 ins m (RY m x)
def cnE (ins:Ex→List Rng→Ex)(m:Mo)(x:Hl):Int:=if QF m x=true then (if(cnL ins m x).flatten.all (fun e=>exE e == 0)=true then 0 else 2) else 1
def cnV (ins:Ex→List Rng→Ex)(m:Mo)(x:Hl):AV := .tup [if cnE ins m x=0 then .sl .any 1 ((cnL ins m x).map V6) else .sl .nil 0 [],.int .i64 (cnE ins m x)]
theorem AHN (G:Nat→AV)(m:Mo)(x:Hl)(hv:QF m x=true)(h:Hp) : ∃ s,PCall (En G) 32 [.agg (EE m),.agg (JD x)] h (.sl s 1 ((ABM m x).map Bins.qencI)):=by
 cases hc:x.cross
 ·obtain⟨i,hi,k,hk,hz,hb,hkd,hg⟩:=UH hv hc
  exact⟨_,by have:=ALO G m x hc h; unfold ABM; rw[if_neg (by rw[hc]; decide)]; exact this⟩
 ·obtain⟨i,hi,hz,hin,hh,hg⟩:=UI hv hc
  exact⟨_,by have:=ALP G m x hc i hi hz h; unfold ABM; rw[if_pos hc,hz,Q7 hi]; exact this⟩
section
variable (G:Nat→AV)
theorem APU (m:Mo)(hm:MoOk m)(h0:FX m=0)(x:Hl)(L:List (Nat × Nat))(hL:Prt m x L)(j:Nat)(hj:j < L.length)(b2 b3:Nat)(h:Hp)(gm:h[b2]? = some (.live 2 [EE m]))(gh:h[b3]? = some (.live 3 [JD x])) :
  PCall (En G) 34 [.int .i64 (j:Nat),.int .i64 (L[j].1:Nat),.ptr b2 0 0,.ptr b3 0 0] h (.sl .any 1 ((cdQ J9 m L[j]).map encX)):=by
 obtain⟨h1,h2⟩:=hL.ok _ (jP hj)
 have B:=A4W hm h0 (jP h1) (jP h2)
 have hb:j < x.bins.length:=by rw[hL.bins,jH]; exact hj
 have hbj:x.bins[j]=((L[j].2:Nat):Int):=by
  have:x.bins[j]? = (L.map fun q=>((q.2:Nat):Int))[j]? := by rw[← hL.bins]
  rw[jS hb,jY,jS hj] at this
  simpa using this
 rw[APS J9 h1 h2]
 refine acN Tryz.func34 rfl ?_
 show awp _ _ _ _ _ (EM _ [.tmp 6] _)
 simp -implicitDefEqProofs only[vQ,BD,enP]
 refine EY (by kernel_rfl) ?_
 simp -implicitDefEqProofs only[vQ,↓reduceIte,jB,jM,Nat.add_zero,enP,PG,GU,IB,MP,TC gm,DN h1,FU AC7 ZP JL h1,AES gh,DN hb,CY ag3 hb,Cov.encI0,hbj]
 refine⟨_,AFT G m.pts[L[j].1] L[j].2 h2 B h,?_⟩
 try simp -implicitDefEqProofs only[]
 exact⟨by first | exact True.intro | exact rfl,by first | exact True.intro | exact rfl⟩
end
theorem A68 (h:Hp)(xs:List (List AV)):FM Tryz.prog false h 73 1 [(0,.sl .any 1 xs)]=some (.sl .full 1 [[.sl .any 1 xs]],h):=by kernel_rfl
theorem A6U : ∀ l:List (List (List Ex)),MI (l.map VX)=true:=fun l=>by
 unfold MI
 rw[zI]
 intro row hr
 obtain⟨c,_,rfl⟩:=zL.1 hr; rfl
theorem A1I (ins:Ex→List Rng→Ex)(m:Mo)(x:Hl)(n:Nat)(H:Hp):IL n H 3 (cnV ins m x)=cnV ins m x:=by
 unfold cnV
 split <;> rfl
theorem A1J {ins:Ex→List Rng→Ex}{m:Mo}{x:Hl}(h:QF m x=false):cnV ins m x = .tup [.sl .nil 0 [],.int .i64 1]:=by
 have:cnE ins m x=1:=by unfold cnE; rw[if_neg (by rw[h]; decide)]
 unfold cnV
 rw[this]; rfl
theorem A1H {ins:Ex→List Rng→Ex}{m:Mo}{x:Hl}(h:QF m x=true)(hc:(cnL ins m x).flatten.all (fun e=>exE e == 0)=false):cnV ins m x = .tup [.sl .nil 0 [],.int .i64 2]:=by
 have:cnE ins m x=2:=by unfold cnE; rw[if_pos h,if_neg (by rw[hc]; decide)]
 unfold cnV
 rw[this]; rfl
theorem A4Q {ins:Ex→List Rng→Ex}{m:Mo}{x:Hl}(h:QF m x=true)(hc:(cnL ins m x).flatten.all (fun e=>exE e == 0)=true):cnV ins m x = .tup [.sl .any 1 ((cnL ins m x).map V6),.int .i64 0]:=by
 have:cnE ins m x=0:=by unfold cnE; rw[if_pos h,if_pos hc]
 unfold cnV
 rw[this]; rfl
theorem AQT {m:Mo}{x:Hl}(h:QF m x=true):FX m=0:=by
 unfold QF at h
 rw[Bool.and_eq_true] at h
 simpa using h.1
section
variable (G:Nat→AV)
set_option maxHeartbeats 8000000 in
theorem AGH (hG:GOk G)(m:Mo)(hm:MoOk m)(x:Hl)(hn:x.bins.length≤1048576)(h:Hp):PCall (En G) 15 [.agg (EE m),.agg (JD x)] h (cnV J9 m x):=by
 refine ACalls.pure (R:=fun v H=>v=cnV J9 m x∧Sm.ext h H) 3 ?_ (fun v H ⟨a,b⟩=>⟨b,by rw[a,A1I]⟩)
 refine MJ (H:=hint [] [(36,[35])]) (enM G) Tryz.func15 rfl (by kernel_rfl) (by kernel_rfl) (jI (by kernel_rfl)) ?_
 show awp _ _ _ _ _ (EM _ [.tmp 4,.tmp 5] _)
 have t:=Hb.mk' h m x
 simp -implicitDefEqProofs only[vQ,jJ,jO,BD,↓reduceIte,jB,enP,zA,bxM,bxH]
 generalize h++[ABlk.live 2 [EE m]]++[ABlk.live 3 [JD x]]=H at t ⊢
 generalize (h++[ABlk.live 2 [EE m]]).length=hb at t ⊢
 simp -implicitDefEqProofs only[vQ,jJ,jO,BD,↓reduceIte,jB,enP,zA,ldM t.gm,ldH t.gh]
 refine(valid_prog G hG m hm x hn H).use ?_
 cases hv:QF m x
 ·simp -implicitDefEqProofs only[vQ,jJ,jO,BD,↓reduceIte,jB,zA]
  exact⟨by rw[A1J hv],t.hx⟩
 have h0:=AQT hv
 have hL:=AOK hv
 obtain⟨s,hp⟩:=AHN G m x hv H
 rw[hL.pts] at hp
 simp -implicitDefEqProofs only[vQ,jJ,jO,BD,I5,↓reduceIte,jB,jU,enP,zA,ldM t.gm,ldH t.gh]
 refine hp.use ?_
 have hcl:cnL J9 m x=OQ ((RY m x).map (cdQ J9 m)):=rfl
 have hln:=hL.n4
 have hl1:=hL.n1
 have hev : ∀ q∈RY m x,(∀ r∈cdQ J9 m q,r.length≤2∧∀ e∈r,WN e)∧1≤(cdQ J9 m q).length∧(cdQ J9 m q).length≤8:=fun q hq=>by
  obtain⟨a,b⟩:=hL.ok q hq
  have hw:=(hm.pts _ (jP a)).ex
  exact⟨AX9 h0 a b fun l hl=>⟨(ASJ hw hl).1,(A16 (ASJ hw hl)).1⟩,A1M h0 a b⟩
 generalize RY m x=L at hL hcl hln hl1 hev
 simp -implicitDefEqProofs only[vQ,jJ,jO,BD,↓reduceIte,enP,IZ,zA,jH]
 refine GZ 0 (fun F H' => ∃ v,F 7=v∧Sm.ext H H'∧outG 1 VX H (L.map (cdQ J9 m)) v H') (fun _ _=>False) ?_ ?_ (fun _ _ q=>q.elim)
 ·refine DL (fun n F H' => ∃ j v,n+j=L.length∧F 6 = .fn (.func 34) [] [.ptr h.length 0 0,.ptr hb 0 0]∧F 7=v∧F 20 = .sl s 1 ((L.map fun q=>((q.1:Nat):Int)).map Bins.qencI)∧F 21 = .int .i64 (L.length:Nat)∧F 22 = .int .i64 (j:Nat)∧Sm.ext H H'∧outG 1 VX H ((L.take j).map (cdQ J9 m)) v H') L.length
   ⟨0,.sl .nil 0 [],by simp,by simp -implicitDefEqProofs only[AA,↓reduceIte,jB],by simp -implicitDefEqProofs only[AA,↓reduceIte,jB],by simp -implicitDefEqProofs only[AA,↓reduceIte,jB],by simp -implicitDefEqProofs only[AA,↓reduceIte,jB],by simp -implicitDefEqProofs only[AA,↓reduceIte] <;> rfl,ext.rfl' _,by rw[qB]; exact outG.nil _ _ _ _⟩ ?_
  rintro n F H' ⟨j,v,hj,f6,f7,f20,f21,f22,hx,ho⟩
  simp -implicitDefEqProofs only[vQ,jJ,jO,BD,↓reduceIte,enP,zA,f21,f22]
  refine CU (fun hc => ?_) (fun hc => ?_)
  ·have hj':j < L.length:=by simpa using hc
   have hj2:j < (L.map fun q=>((q.1:Nat):Int)).length:=by rw[jH]; exact hj'
   have hg:(L.map fun q=>((q.1:Nat):Int))[j]=((L[j].1:Nat):Int):=by simp
   have hlen:((L.take j).map (cdQ J9 m)).length < 8388608:=by rw[jH,zJ]; omega
   obtain⟨v',H2,ha,ho2,_,he2,_,_⟩:=ho.append (P:=Tryz.prog) A8N A5C A8L A9G (by omega) hlen hx (cdQ J9 m L[j])
   have ha':GM Tryz.prog true H' 73 73 v (.sl .full 1 [[.sl .any 1 ((cdQ J9 m L[j]).map encX)]])=some (v',H2):=ha
   have hst:(L.take (j+1)).map (cdQ J9 m)=(L.take j).map (cdQ J9 m)++[cdQ J9 m L[j]]:=by
    rw[zN hj',List.map_append]; rfl
   simp -implicitDefEqProofs only[vQ,jJ,jO,BD,List.nil_append,List.cons_append,↓reduceIte,jB,enP,IB,zA,f6,f7,f20,f22,DN hj2,CY ag3 hj2,Cov.encI0,hg]
   refine(APU G m hm h0 x L hL j hj' h.length hb H' (FD hx t.gm) (FD hx t.gh)).use ?_
   simp -implicitDefEqProofs only[vQ,jJ,jO,BD,↓reduceIte,jB,enP,zA,f7,f22,A68,ha',wrap_succ (show j < 9223372036854775807 by omega)]
   exact⟨n - 1,by omega,j+1,v',by omega,by first | exact True.intro | exact f6,by first | exact True.intro | exact rfl,by first | exact True.intro | exact f20,by first | exact True.intro | exact f21,by first | exact True.intro | exact rfl,he2,by rw[hst]; exact ho2⟩
  ·have hj' : ¬ j < L.length:=by simpa using hc
   rw[jW (by omega)] at ho
   simp -implicitDefEqProofs only[vQ,↓reduceIte,jB]
   exact⟨v,by first | exact True.intro | exact f7,hx,ho⟩
 rintro F H' ⟨v,f7,hx,ho⟩
 have hcl4:(L.map (cdQ J9 m)).length≤4:=by rw[jH]; exact hln
 have hcl1:L.map (cdQ J9 m)≠[]:=by intro q; have:=congrArg yB q; rw[jH,qM] at this; omega
 have hc8 : ∀ c∈L.map (cdQ J9 m),c.length≤8:=fun c hc=>by
  obtain⟨q,hq,rfl⟩:=zL.1 hc
  exact(hev q hq).2.2
 have hc2 : ∀ c∈L.map (cdQ J9 m),∀ r∈c,r.length≤2:=fun c hc r hr=>by
  obtain⟨q,hq,rfl⟩:=zL.1 hc
  exact((hev q hq).1 r hr).1
 have hcw : ∀ c∈L.map (cdQ J9 m),∀ r∈c,∀ e∈r,WN e:=fun c hc r hr=>by
  obtain⟨q,hq,rfl⟩:=zL.1 hc
  exact((hev q hq).1 r hr).2
 generalize L.map (cdQ J9 m)=cs at ho hcl hcl4 hcl1 hc8 hc2 hcw
 clear hev hp
 obtain⟨o,rfl,ho1,hob⟩ : ∃ o,v = .own o 0 cs.length∧H.length≤o∧H'[o]? = some (.live 1 (cs.map VX)):=by
  rcases ho with⟨e1,_⟩ | ⟨_,o,h1,h2,h3⟩
  ·exact absurd e1 hcl1
  ·exact⟨o,h2,h1,h3⟩
 have hz:=AMH (i:=35) (off:=0) (len:=cs.length) hob (by simp) (by rw[zU,jW (by simp)]; exact A6U cs)
 rw[zU,jW (by simp)] at hz
 have hx2:=hx.set ho1 .dead
 simp -implicitDefEqProofs only[vQ,jJ,jO,BD,↓reduceIte,zA,f7,AE1,hz]
 generalize H'.set o .dead=H2 at hx2 ⊢
 refine(AKA G cs .any (by omega) (fun c hc=>by have:=hc8 c hc; omega) hc2 H2).use ?_
 obtain⟨ha1,ha2,ha3⟩:=AUW hcl4 hc8 hc2
 have haw : ∀ e∈(OQ cs).flatten,WN e:=fun e he=>by
  obtain⟨r,hr,he⟩:=List.mem_flatten.1 he
  exact AP1 hcw r hr e he
 rw[← hcl] at ha1 ha2 ha3 haw ⊢
 clear hcl
 simp -implicitDefEqProofs only[vQ,jJ,jO,BD,↓reduceIte,zA]
 refine(ANA G (cnL J9 m x) .any (by omega) (by omega) H2).use ?_
 simp -implicitDefEqProofs only[vQ,jJ,jO,BD,↓reduceIte,enP,WS,zA,jH]
 generalize hE:(cnL J9 m x).flatten=E at ha3 haw ⊢
 have hok : ∀ b,E.all (fun e=>exE e == 0)=b→(cnL J9 m x).flatten.all (fun e=>exE e == 0)=b:=fun b hb=>by rw[hE]; exact hb
 have hhx:=t.hx.trans hx2
 refine GZ 2 (fun F H'=>F 10 = .sl .any 1 ((cnL J9 m x).map V6)∧Sm.ext h H'∧E.all (fun e=>exE e == 0)=true) (fun F H'=>F 4 = .sl .nil 0 []∧F 5 = .int .i64 2∧Sm.ext h H'∧E.all (fun e=>exE e == 0)=false) ?_ ?_ ?_
 ·refine DL (fun n F H' => ∃ i,n+i=E.length∧F 10 = .sl .any 1 ((cnL J9 m x).map V6)∧F 38 = .sl (Cov.nm E) 4 (E.map DX)∧F 39 = .int .i64 (E.length:Nat)∧F 40 = .int .i64 (i:Nat)∧Sm.ext h H'∧E.all (fun e=>exE e == 0)=(E.drop i).all (fun e=>exE e == 0)) E.length
   ⟨0,by simp,by simp -implicitDefEqProofs only[AA,↓reduceIte,jB],by simp -implicitDefEqProofs only[AA,↓reduceIte,jB],by simp -implicitDefEqProofs only[AA,↓reduceIte,jB],by simp -implicitDefEqProofs only[AA,↓reduceIte] <;> rfl,hhx,rfl⟩ ?_
  rintro n F H3 ⟨i,hi,f10,f38,f39,f40,hx3,hq⟩
  simp -implicitDefEqProofs only[vQ,jJ,jO,BD,↓reduceIte,enP,zA,f39,f40]
  refine CU (fun hc => ?_) (fun hc => ?_)
  ·have hi':i < E.length:=by simpa using hc
   rw[List.drop_eq_getElem_cons hi',List.all_cons] at hq
   simp -implicitDefEqProofs only[vQ,jJ,jO,BD,↓reduceIte,jB,enP,AAC,jT,zA,f38,f40,DN hi',FU X4 N7 JE hi',AC4,AKT _ _ [.int .i64 0,.int .i64 0,.str ⟨#[]⟩,.sl .nil 0 []] rfl,ldE]
   refine(YG G hG E[i] _ (haw _ (jP hi'))).use ?_
   simp -implicitDefEqProofs only[vQ,jJ,jO,BD,↓reduceIte,enP,zA,bne]
   cases hz:(exE E[i] == 0)
   ·rw[hz,Bool.false_and] at hq
    simp -implicitDefEqProofs only[vQ,jJ,jO,BD,↓reduceIte,jB,zA]
    exact⟨by first | exact True.intro | exact rfl,by first | exact True.intro | exact rfl,hx3.app _,hq⟩
   ·rw[hz,Bool.true_and] at hq
    simp -implicitDefEqProofs only[vQ,jJ,jO,BD,↓reduceIte,jB,jU,enP,zA,f40,wrap_succ (show i < 9223372036854775807 by omega)]
    exact⟨n - 1,by omega,i+1,by omega,by first | exact True.intro | exact f10,by first | exact True.intro | exact f38,by first | exact True.intro | exact f39,by first | exact True.intro | exact rfl,hx3.app _,hq⟩
  ·have hi' : ¬ i < E.length:=by simpa using hc
   rw[List.drop_eq_nil_of_le (by omega)] at hq
   simp -implicitDefEqProofs only[vQ,↓reduceIte,jB]
   exact⟨by first | exact True.intro | exact f10,hx3,hq⟩
 ·rintro F H3 ⟨f10,hx3,hq⟩
  simp -implicitDefEqProofs only[vQ,jJ,jO,BD,↓reduceIte,jB,zA,f10]
  exact⟨by rw[A4Q hv (hok _ hq)],hx3⟩
 ·rintro F H3 ⟨f4,f5,hx3,hq⟩
  simp -implicitDefEqProofs only[vQ,f4,f5]
  exact⟨by rw[A1H hv (hok _ hq)],hx3⟩
end
end Go.Proofs.YtfpagfhhhlljjaaGreatDoor.Ho
