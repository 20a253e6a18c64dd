/- Part 19 of the proof (O25, O26, O27, O29, O30, O31, O32, O33, O34, O35); no condition. -/
import Derived.Test.YtfpagfhhhlljjaaGreatDoorYA18
set_option linter.unusedVariables false
namespace Go.Proofs.YtfpagfhhhlljjaaGreatDoor.Ho
open Sm Bins Cov Go.RowKit
open List renaming foldl_cons→qY,length_map→jH,getElem?_map→jY,getElem?_set→zB,getElem?_eq_getElem→jO
def JU (e:Ex) (l:List Rng):Ex:=PW e (normal l)
def notE (e:Ex):Ex := .mk 4 0 ⟨#[]⟩ .full [e]
def KF (b:Bin):List Rs:=if b.ranges.l = [] then b.steps else [b.ranges]
def AXI (x:Option Ex) (c:List (List Ex)):List (List Ex):=match x with
 | none=>c
 | some y=>c.set (c.length - 1) (c[c.length - 1]?.getD [] ++ [notE y])
def badO (ins:Ex→List Rng→Ex) (p:Pt):Option Ex:=if MF p.bins = [] then none else some (ins p.ex (MF p.bins))
def AAW (ins:Ex→List Rng→Ex) (p:Pt) (b:Bin):List (List Ex):=AXI (badO ins p) ((KF b).map fun s => [ins p.ex s.l])
def TS (cs:List (List (List Ex))):Nat:=cs.foldl (fun n c=>max n c.length) 0
def rowC (n t:Nat) (c:List (List Ex)):List Ex:=if n - c.length≤t then c[t - (n - c.length)]?.getD [] else []
def rowA (n:Nat) (cs:List (List (List Ex))) (t:Nat):List Ex:=cs.flatMap (rowC n t)
def NF (cs:List (List (List Ex))):List (List Ex):=(List.range (TS cs)).map (rowA (TS cs) cs)
theorem AOW : ∀ (cs:List (List (List Ex))) (a:Nat),a≤cs.foldl (fun n c=>max n c.length) a∧∀ c∈cs,c.length≤cs.foldl (fun n c=>max n c.length) a
 | [],a=>⟨Nat.le_refl _,fun c hc=>by cases hc⟩
 | x :: cs,a=>by
   obtain ⟨h1,h2⟩:=AOW cs (max a x.length)
   rw [qY]
   refine ⟨by omega,fun c hc => ?_⟩
   rcases List.mem_cons.1 hc with rfl | hc
   ·omega
   ·exact h2 c hc
theorem ATP {cs:List (List (List Ex))} {c:List (List Ex)} (h:c∈cs):c.length≤TS cs:=(AOW cs 0).2 c h
theorem WY : ∀ (cs:List (List (List Ex))) (a b:Nat),a≤b→(∀ c∈cs,c.length≤b)→cs.foldl (fun n c=>max n c.length) a≤b
 | [],_,_,h,_=>h
 | x :: cs,a,b,h,h2=>by
   rw [qY]
   exact WY cs _ b (by have:=h2 x (by simp); omega) fun c hc=>h2 c (by simp [hc])
theorem AQI (cs:List (List (List Ex))) (k:Nat) (hk:k < cs.length):TS (cs.take (k+1))=max (TS (cs.take k)) cs[k].length:=by
 unfold TS
 rw [List.take_succ_eq_append_getElem hk,List.foldl_append]; rfl
theorem AJE (x:Option Ex) (c:List (List Ex)):(AXI x c).length=c.length:=by cases x <;> simp [AXI]
def encX (l:List Ex):List AV:=AZL ⟨.any,l⟩
def rowF (x:Ex):List AV := [.sl .full 4 [DC x]]
def LH (X:List Ex):Ex:=X[X.length - 1]?.getD (cE 0)
def AIU (X:List Ex):Option Ex→List (List AV)
 | none=>X.map rowF
 | some y=>(X.map rowF).set (X.length - 1) [.sl .any 4 [DC (LH X),DC (notE y)]]
theorem APV (X:List Ex) (y:Option Ex):(AIU X y).length=X.length:=by cases y <;> simp [AIU]
theorem AOE (x:Ex):CvRow (rowF x) (encX [x]):=CvRow.cons rfl (Cv.any (by simp) 4 _) CvRow.nil
theorem AS0 (X:List Ex) (y:Option Ex):Cv (.sl .any 1 (AIU X y)) (.sl .any 1 ((AXI y (X.map fun x => [x])).map encX)):=by
 refine Cv.rows (by rw [jH,AJE,jH,APV]) fun i r r' h1 h2 => ?_
 cases y with
 | none =>
   change ((X.map fun x => [x]).map encX)[i]? = some r' at h2
   change (X.map rowF)[i]? = some r at h1
   rw [List.map_map,jY] at h2
   rw [jY] at h1
   cases hx:X[i]? with
   | none=>rw [hx] at h1; cases h1
   | some x =>
     rw [hx] at h1 h2
     cases h1; cases h2
     exact AOE x
 | some y =>
   change (((X.map fun x => [x]).set ((X.map fun x => [x]).length - 1) ((X.map fun x => [x])[(X.map fun x => [x]).length - 1]?.getD [] ++ [notE y])).map encX)[i]? = some r' at h2
   change ((X.map rowF).set (X.length - 1) [.sl .any 4 [DC (LH X),DC (notE y)]])[i]? = some r at h1
   have hi:i < X.length:=by have:=CE h1; simpa using this
   rw [zB] at h1
   rw [jY,zB] at h2
   by_cases e:X.length - 1=i
   ·have hl:(X.map fun x => [x])[X.length - 1]?.getD [] = [LH X]:=by
     unfold LH
     rw [jY,jO (by omega)]; rfl
    rw [if_pos e,if_pos (by simpa using by omega)] at h1
    rw [jH,if_pos e,if_pos (by omega),hl] at h2
    cases h1; cases h2
    exact CvRow.cons rfl (Cv.refl _) CvRow.nil
   ·rw [if_neg e] at h1
    rw [jH,if_neg e,jY] at h2
    rw [jY,jO hi] at h1
    rw [jO hi] at h2
    cases h1; cases h2
    exact AOE _
theorem AQK {X:List Ex} (h:X≠[]):X[X.length - 1]? = some (LH X):=by
 have:0 < X.length:=List.length_pos_iff.2 h
 unfold LH
 rw [jO (by omega)]; rfl
theorem AO0:Frz rowF:=fun _ _ _ _=>⟨rfl,rfl⟩
theorem AQ4 {n:Nat} {H:Hp} {ob nb:Nat} {X:List Ex} {y:Ex} (h1:n≤ob) (h2:n≤nb) (_:X≠[]) (g:H[ob]? = some (.live 1 ((X.map rowF).set (X.length - 1) [.own nb 0 2])))
  (gn:H[nb]? = some (.live 4 [DC (LH X),DC (notE y)])):IR n H 4 (.own ob 0 X.length) = .sl .any 1 (AIU X (some y)):=by
 have e2:IR n H 3 (.own nb 0 2) = .sl .any 4 [DC (LH X),DC (notE y)]:=frz_own (f:=DC) (xs := [LH X,notE y]) (d:=1) AO1 h2 gn
 rw [Cov.frzF_own n H 3 ob 0 X.length 1 _ (by omega) g,List.drop_zero,List.take_of_length_le (by simp),List.map_set,List.map_cons,List.map_nil,e2,frz_rows AO0 n H 2 X]
 rw [if_pos]
 ·rfl
 refine ⟨by simp,?_⟩
 rw [List.all_eq_true]
 intro row hr
 rcases List.mem_or_eq_of_mem_set hr with hr | rfl
 ·obtain ⟨x,_,rfl⟩:=List.mem_map.1 hr; rfl
 ·rfl
end Go.Proofs.YtfpagfhhhlljjaaGreatDoor.Ho
set_option linter.unusedSimpArgs false
set_option maxRecDepth 8000
namespace Go.Proofs.YtfpagfhhhlljjaaGreatDoor.Ho
open Sm Bins Cov Go.RowKit
open Bool renaming or_false→jR,not_false→jC,false_eq_true→jZ,not_true→jU
open List renaming drop_zero→zM,map_map→wS,contains_cons→jS,contains_nil→jJ,length_map→jH,take_zero→qN,length_take→zJ,take_succ_eq_append_getElem→zK,map_cons→jE,map_nil→jD,append_nil→jF,getElem_mem→jP,take_of_length_le→jW,getElem?_map→jY,length_cons→zX,length_nil→qF,range→zT,getElem?_set_ne→zO,all_eq_true→zG,mem_map→zN,mem_of_getElem?→zY,length_append→qA,getElem?_eq_getElem→jO,any_eq_true→qC,mem_cons→qI,length→wK,getElem_of_mem→qH
open Nat renaming le_refl→jL,le_of_ble_eq_true→jI,reduceBEq→jQ,reduceEqDiff→jB,zero_add→jG,reduceAdd→jM,zero_le→qU
open Option renaming getD_some→jA,getD_none→jT
structure BdB (p:Pt) (b:Bin):Prop where
 hs:KF b≠[]
 hl:(KF b).length≤1048576
 hr : ∀ s∈KF b,s.l.length≤1048576
 hb:(MF p.bins).length≤1048576
 hn:p.bins.length≤1048576
 hw:wt p.ex≤1048576
theorem A5W (h:Hp) (m:SM) (xs:List (List AV)):EZ Tryz.prog false h 54 1 [(0,.sl m 2 xs)]=some (.sl .full 1 [[.sl m 2 xs]],h):=by kernel_rfl
theorem A1E (h:Hp) (a b:Int) (s:ByteArray) (m:SM) (xs:List (List AV)):EZ Tryz.prog false h 46 1 [(0,.agg [.int .i64 a,.int .i64 b,.str s,.sl m 4 xs])]=some (.sl .full 4 [[.int .i64 a,.int .i64 b,.str s,.sl m 4 xs]],h):=by kernel_rfl
theorem AZQ (h:Hp) (e:Ex):EZ Tryz.prog false h 46 1 [(0,.agg (DC e))]=some (.sl .full 4 [DC e],h):=by
 rw [IU]; exact A1E h _ _ _ _ _
theorem A3Q (h:Hp) (m:SM) (xs:List (List AV)):EZ Tryz.prog false h 33 1 [(0,.sl m 4 xs)]=some (.sl .full 1 [[.sl m 4 xs]],h):=by kernel_rfl
theorem A30 (xs:List (List AV)):KR Tryz.prog 48 [(0,.int .i64 4),(3,.sl .full 4 xs)]=some (.agg [.int .i64 4,.int .i64 0,.str ⟨#[]⟩,.sl .full 4 xs]):=by kernel_rfl
theorem ATH (e:Ex):DC (notE e) = [.int .i64 4,.int .i64 0,.str ⟨#[]⟩,.sl .full 4 [DC e]]:=by rw [IU]; rfl
theorem A2P {H:Hp} {b:Nat} {x:Bin} (hb:H[b]? = some (.live 4 [GN x])):D6 Tryz.prog H 54 (.ptr b 0 3)=some (.sl x.sm 1 (x.steps.map encS)):=by
 rw [DV VY hb (row:=GN x) rfl,PO]
theorem A49 {H:Hp} {b:Nat} {p:Pt} (hb:H[b]? = some (.live 6 [F8 p])):D6 Tryz.prog H 51 (.ptr b 0 0)=some (.agg (F8 p)):=by
 rw [IE AD4 Y5 hb rfl (by rw [JC]; exact jL 6),zM,← JC p,List.take_length]
theorem APS {b:Bin} (h:b.ranges.l = []):KF b=b.steps:=by unfold KF; rw [if_pos h]
theorem ALR {b:Bin} (h:b.ranges.l≠[]):KF b = [b.ranges]:=by unfold KF; rw [if_neg h]
section
variable (G:Nat→AV)
set_option maxHeartbeats 8000000 in
theorem ADN (p:Pt) (k:Nat) (hk:k < p.bins.length) (B:BdB p p.bins[k]) (h:Hp):PCall (En G) 35 [.agg (F8 p),.int .i64 (k:Nat)] h (.sl .any 1 ((AAW JU p p.bins[k]).map encX)):=by
 have hcv:=AS0 ((KF p.bins[k]).map fun s=>JU p.ex s.l) (badO JU p)
 have hcl:(((KF p.bins[k]).map fun s=>JU p.ex s.l).map fun x => [x])=(KF p.bins[k]).map fun s => [JU p.ex s.l]:=by rw [wS]; rfl
 rw [hcl] at hcv
 refine PCall.res ?_ (CvR.sl hcv)
 clear hcv hcl
 refine ACalls.pure (R:=fun v H=>Sm.ext h H∧IR h.length H 4 v = .sl .any 1 (AIU ((KF p.bins[k]).map fun s=>JU p.ex s.l) (badO JU p))) 4 ?_ (fun v H ⟨a,b⟩=>⟨a,b⟩)
 have hb1:=B.hs; have hb2:=B.hl; have hb3:=B.hr; have hb4:=B.hb; have hb5:=B.hn; have hb6:=B.hw
 refine NT (H:=hint [61] []) (enM G) Tryz.func35 rfl (by kernel_rfl) (by kernel_rfl) (jI (by kernel_rfl)) ?_
 show awp _ _ _ _ _ (EJ _ [.tmp 4] _)
 have gp:=CV (x:=ABlk.live 4 [GN p.bins[k]]) (CY h (ABlk.live 6 [F8 p]))
 have gb:=CY (h ++ [ABlk.live 6 [F8 p]]) (ABlk.live 4 [GN p.bins[k]])
 have hx:Sm.ext h (h ++ [ABlk.live 6 [F8 p]] ++ [ABlk.live 4 [GN p.bins[k]]]):=((ext.rfl' h).app _).app _
 simp -implicitDefEqProofs only [DJ,jS,jJ,jQ,jR,BC,A8,BA,AY,BB,AL,BD,AX,AC,E8,AA,AZ,AU,H9,BG,A7,FV,FD,BN,EN,BJ,BZ,BU,AB,DW,BF,BP,↓reduceIte,jB,jG,jA,jC,enP,RJ,IQ,ML,D7,jT,A3I,AMD (CY h (ABlk.live 6 [F8 p])),DF hk,FT AD3 XR LW hk,AVO,AWK _ _ [.str ⟨#[]⟩,.int .i64 0,.sl .nil 0 [],.sl .nil 0 []] rfl]
 generalize h ++ [ABlk.live 6 [F8 p]] ++ [ABlk.live 4 [GN p.bins[k]]]=H0 at gp gb hx ⊢
 generalize (h ++ [ABlk.live 6 [F8 p]]).length=b5 at gb ⊢
 generalize p.bins[k]=b at gb hb1 hb2 hb3 ⊢
 simp -implicitDefEqProofs only [DJ,jS,jJ,jQ,jR,BC,A8,BI,BA,AY,BB,AL,BD,AX,AC,AA,AZ,AU,BH,A7,BN,BR,BJ,DU,AB,EY,↓reduceIte,jB,jG,jA,jC,enP,OW,PL,D7,A2P gb,ATR gb,jH]
 refine SX (fun F H => ∃ s,F 2 = .ptr h.length 0 0∧F 6 = .sl s 1 ((KF b).map encS)∧H=H0) (fun _ _=>False) (fun hc => ?_) (fun hc => ?_) ?_ (fun _ _ q=>q.elim)
 ·have hne:b.ranges.l≠[]:=by
   intro q
   rw [q] at hc; exact absurd hc (by decide)
  simp -implicitDefEqProofs only [FU,FQ,DJ,jS,jJ,jQ,jR,A8,QG,AY,BB,AL,BD,AX,AC,AA,AZ,A7,EK,BN,BJ,BU,AB,↓reduceIte,jB,jG,jA,jC,enP,PL,D7,ATR gb,A5W]
  exact ⟨_,by first | exact True.intro | exact rfl,by rw [ALR hne]; exact rfl,by first | exact True.intro | exact rfl⟩
 ·have he:b.ranges.l = []:=by
   have:=of_decide_eq_false hc
   exact List.length_eq_zero_iff.1 (by omega)
  simp -implicitDefEqProofs only [BO,QG,AA,↓reduceIte,jB]
  exact ⟨_,by first | exact True.intro | exact rfl,by rw [APS he],by first | exact True.intro | exact rfl⟩
 rintro F H ⟨s,f2,f6,rfl⟩
 generalize KF b=S at f6 hb1 hb2 hb3 ⊢
 simp -implicitDefEqProofs only [DJ,jS,jJ,jQ,jR,BC,BQ,A8,BA,AY,BB,AL,BD,AX,AC,AA,AZ,AU,BH,H9,BG,A7,DU,AB,↓reduceIte,jB,jA,jC,enP,VA,D7,f6,jH]
 refine H7 0 (fun F H' => ∃ v,F 2 = .ptr h.length 0 0∧F 7=v∧Sm.ext H H'∧outG 1 rowF H (S.map fun s=>JU p.ex s.l) v H') (fun _ _=>False) ?_ ?_ (fun _ _ q=>q.elim)
 ·refine DL (fun n F H' => ∃ i v,n+i=S.length∧F 2 = .ptr h.length 0 0∧F 7=v∧F 26 = .sl s 1 (S.map encS)∧F 27 = .int .i64 (S.length:Nat)∧F 28 = .int .i64 (i:Nat)∧Sm.ext H H'∧outG 1 rowF H ((S.take i).map fun s=>JU p.ex s.l) v H') S.length
   ⟨0,.sl .nil 0 [],by simp,by simp -implicitDefEqProofs only [AA,↓reduceIte,jB,f2],by simp -implicitDefEqProofs only [AA,↓reduceIte,jB],by simp -implicitDefEqProofs only [AA,↓reduceIte,jB,f6],by simp -implicitDefEqProofs only [AA,↓reduceIte,jB],by simp -implicitDefEqProofs only [AA,↓reduceIte] <;> rfl,ext.rfl' _,by rw [qN]; exact outG.nil _ _ _ _⟩ ?_
  clear f2 f6
  rintro n F H' ⟨i,v,hi,f2,f7,f26,f27,f28,hxH,ho⟩
  simp -implicitDefEqProofs only [DJ,jS,jJ,jQ,jR,BC,A8,BI,BA,AY,BB,AL,BD,AX,AC,AA,AZ,BR,AB,CW,↓reduceIte,jA,jC,enP,D7,f27,f28]
  refine CU (fun hc => ?_) (fun hc => ?_)
  ·have hi':i < S.length:=by simpa using hc
   have gp':=FO hxH gp
   have hlen:((S.take i).map fun s=>JU p.ex s.l).length < 8388608:=by rw [jH,zJ]; omega
   obtain ⟨v',H2,ha,ho2,_,he2,_,_⟩:=ho.append (P:=Tryz.prog) A1U ASJ A4Y A3H (by omega) hlen hxH (JU p.ex S[i].l)
   have ha':GI Tryz.prog true H' 33 33 v (.sl .full 1 [[.sl .full 4 [DC (JU p.ex S[i].l)]]])=some (v',H2):=ha
   have hst:(S.take (i+1)).map (fun s=>JU p.ex s.l)=(S.take i).map (fun s=>JU p.ex s.l) ++ [JU p.ex S[i].l]:=by
    rw [zK hi',List.map_append]; rfl
   simp -implicitDefEqProofs only [DJ,jS,jJ,jQ,jR,BC,BQ,A8,BO,BA,AY,BB,AL,BD,AX,AC,AA,AZ,CB,BG,A7,BN,BJ,BZ,CG,BX,AB,jE,jD,jF,↓reduceIte,jB,jG,jA,jC,enP,ZQ,AJK,D7,f2,f7,f26,f28,DF hi',CX S9 hi',AAS,ATQ gp']
   have hin:PCall (En G) 65 [.agg (DC p.ex),.sl S[i].m 2 (S[i].l.map encR)] H' (.agg (DC (JU p.ex S[i].l))):=inside_prog G p.ex S[i].l S[i].m (hb3 _ (jP hi')) hb6 H'
   refine hin.use ?_
   simp -implicitDefEqProofs only [FU,FQ,DJ,jS,jJ,jQ,jR,A8,BA,EI,EP,AY,BB,AL,BD,AX,AC,AA,AZ,AU,BH,BG,A7,EK,BR,G8,BU,AB,DK,↓reduceIte,jB,jA,jC,enP,D7,f7,f28,AZQ,A3Q,ha',wrap_succ (show i < 9223372036854775807 by omega)]
   exact ⟨n - 1,by omega,i+1,v',by omega,by first | exact True.intro | exact f2,by first | exact True.intro | exact rfl,by first | exact True.intro | exact f26,by first | exact True.intro | exact f27,by first | exact True.intro | exact rfl,he2,by rw [hst]; exact ho2⟩
  ·have hi' : ¬ i < S.length:=by simpa using hc
   rw [jW (by omega)] at ho
   simp -implicitDefEqProofs only [DI,ED,KQ,EW,AA,↓reduceIte,jB]
   exact ⟨v,by first | exact True.intro | exact f2,by first | exact True.intro | exact f7,hxH,ho⟩
 rintro F H' ⟨v,f2,f7,hxH,ho⟩
 clear f6
 have gp':=FO hxH gp
 simp -implicitDefEqProofs only [DJ,jS,jJ,jQ,jR,BC,A8,BA,EU,AY,AL,BD,AX,AC,AA,AZ,CB,BN,CG,BX,AB,jE,jD,jF,↓reduceIte,jA,jC,enP,D7,f2,A49 gp']
 refine (AVF G p hb5 hb4 H').use ?_
 simp -implicitDefEqProofs only [DJ,jS,jJ,jQ,jR,BC,A8,BI,BA,AY,BB,AL,BD,AX,AC,AA,AZ,AU,BH,BG,A7,BR,DU,AB,EY,↓reduceIte,jA,jC,enP,OW,D7,jH]
 have hSl:0 < S.length:=List.length_pos_iff.2 hb1
 obtain ⟨ob,rfl,hob1,hob⟩ : ∃ ob,v = .own ob 0 S.length∧H.length≤ob∧H'[ob]? = some (.live 1 ((S.map fun s=>JU p.ex s.l).map rowF)):=by
  rcases ho with ⟨e1,_⟩ | ⟨_,o,h1,h2,h3⟩
  ·exact absurd (by simpa using e1) hb1
  ·exact ⟨o,by rw [h2,jH],h1,h3⟩
 have hXl:(S.map fun s=>JU p.ex s.l).length=S.length:=by simp
 have hX0:(S.map fun s=>JU p.ex s.l)≠[]:=by simpa using hb1
 have hhx:=hx.trans hxH
 have hl0:=hx.le
 generalize (S.map fun s=>JU p.ex s.l)=X at hob hXl hX0 ⊢
 refine CU (fun hc => ?_) (fun hc => ?_)
 ·have hbad:MF p.bins≠[]:=by
   intro q
   rw [q] at hc; exact absurd hc (by decide)
  have hbo:badO JU p=some (JU p.ex (MF p.bins)):=by unfold badO; rw [if_neg hbad]
  rw [hbo]
  have hw1:IntKind.i64.wrap (((S.length:Nat):Int) - 1)=((S.length - 1:Nat):Int):=by rw [wrap_i64 (by omega) (by omega)]; omega
  have hin:PCall (En G) 65 [.agg (DC p.ex),.sl (Cov.nm (MF p.bins)) 2 ((MF p.bins).map encR)] H' (.agg (DC (JU p.ex (MF p.bins)))):=inside_prog G p.ex (MF p.bins) (Cov.nm (MF p.bins)) hb4 hb6 H'
  generalize JU p.ex (MF p.bins)=y at hin ⊢
  have hlast:(X.map rowF)[S.length - 1]? = some (rowF (LH X)):=by
   rw [jY,← hXl,AQK hX0]; rfl
  have i1:JX 1 H' (.own ob 0 S.length) (.int .i64 ((S.length - 1:Nat):Int))=some (.ptr ob (S.length - 1) 0):=by rw [JS hob (by omega),jG]
  have d1:D6 Tryz.prog H' 46 (.ptr ob (S.length - 1) 0)=some (.sl .full 4 [DC (LH X)]):=by rw [DV UQ hob hlast]; rfl
  have ha:GI Tryz.prog true H' 46 46 (.sl .full 4 [DC (LH X)]) (.sl .full 4 [MJ])=some (.own H'.length 0 2,H' ++ [.live 4 ([DC (LH X)] ++ [MJ])]) :=
   SY AEE MQ ALB AM7 (IY H' .full 4 [MJ]) (by simp) (JF (by simp) (by omega))
  have gN:=CY H' (ABlk.live 4 ([DC (LH X)] ++ [MJ]))
  have gO:=CV (x:=ABlk.live 4 ([DC (LH X)] ++ [MJ])) hob
  have lob:=CE hob
  have i2:JX 4 (H' ++ [ABlk.live 4 ([DC (LH X)] ++ [MJ])]) (.own H'.length 0 2) (.int .i64 ((1:Nat):Int))=some (.ptr H'.length 1 0):=JS (n:=1) gN (by decide)
  have i3:JX 1 (H' ++ [ABlk.live 4 ([DC (LH X)] ++ [MJ])]) (.own ob 0 S.length) (.int .i64 ((S.length - 1:Nat):Int))=some (.ptr ob (S.length - 1) 0):=by rw [JS gO (by omega),jG]
  have hHx:=hhx.app [ABlk.live 4 ([DC (LH X)] ++ [MJ])]
  generalize H' ++ [ABlk.live 4 ([DC (LH X)] ++ [MJ])]=H2 at gN gO i2 i3 ha hHx
  generalize hnb:H'.length=nb at gN i2 ha lob
  have hsN : ∀ Hq:Hp,Hq[nb]? = some (.live 4 ([DC (LH X)] ++ [MJ]))→FM Tryz.prog Hq 48 (.ptr nb 1 0) (.agg [.int .i64 4,.int .i64 0,.str ⟨#[]⟩,.sl .full 4 [DC y]])=some (Hq.set nb (.live 4 [DC (LH X),DC (notE y)])):=fun Hq hq=>by
   rw [JP (i:=1) (PM rfl) MQ hq rfl (jL 4),ATH]; rfl
  have hsO : ∀ Hq:Hp,Hq[ob]? = some (.live 1 (X.map rowF))→FM Tryz.prog Hq 46 (.ptr ob (S.length - 1) 0) (.own nb 0 2)=some (Hq.set ob (.live 1 ((X.map rowF).set (X.length - 1) [.own nb 0 2]))):=fun Hq hq=>by
   rw [JP (cs := [.own nb 0 2]) rfl ASJ hq hlast (by exact jL 1),hXl]; rfl
  have q1:=hsN H2 gN
  have q2:=hsO (H2.set nb (.live 4 [DC (LH X),DC (notE y)])) (DX gO (by omega))
  have q3:=hsO H2 gO
  have q4:=hsN (H2.set ob (.live 1 ((X.map rowF).set (X.length - 1) [.own nb 0 2]))) (DX gN (by omega))
  rw [List.set_comm _ _ (show ob≠nb by omega)] at q4
  clear hsN hsO
  have gF1:((H2.set nb (.live 4 [DC (LH X),DC (notE y)])).set ob (.live 1 ((X.map rowF).set (X.length - 1) [.own nb 0 2])))[ob]? = some (.live 1 ((X.map rowF).set (X.length - 1) [.own nb 0 2])):=ER (DX gO (by omega))
  have gF2:((H2.set nb (.live 4 [DC (LH X),DC (notE y)])).set ob (.live 1 ((X.map rowF).set (X.length - 1) [.own nb 0 2])))[nb]? = some (.live 4 [DC (LH X),DC (notE y)]):=DX (ER gN) (by omega)
  have hF:=(hHx.set (show h.length≤nb by omega) (.live 4 [DC (LH X),DC (notE y)])).set (show h.length≤ob by omega) (.live 1 ((X.map rowF).set (X.length - 1) [.own nb 0 2]))
  have hfz:=AQ4 (n:=h.length) (y:=y) (by omega) (by omega) hX0 gF1 gF2
  simp -implicitDefEqProofs only [DJ,jS,jJ,jQ,jR,BC,A8,BA,AY,BB,AL,BD,AX,AC,AA,AZ,AU,BH,BG,A7,BR,DU,AB,KX,↓reduceIte,jB,jA,jC,enP,D7,f7,AMC.2,hw1]
  refine AKU [] [0,1,2,3,4,5,6,7,8,9,10,11,12,13,15] 14 16 [] (by kernel_rfl) trivial ?_
  simp only [N7,List.getElem?_cons_succ,List.getElem?_cons_zero]
  simp -implicitDefEqProofs only [F6,FU,FQ,DJ,jS,jJ,jQ,jR,EF,DZ,EH,FI,JL,FB,NE,D9,EC,GZ,F7,AA,AZ,CB,EK,BN,EN,BJ,BZ,AB,jE,jD,jF,↓reduceIte,jB,jM,jG,jA,enP,AQS,ZQ,jT,f2,f7,i1,d1,ATQ gp']
  refine ⟨_,hin,?_⟩
  try simp -implicitDefEqProofs only [F6,FU,FQ,DJ,jS,jJ,jQ,jR,EF,DZ,OG,FC,EH,ABC,JL,NE,EC,I8,BC,A8,BK,BA,CJ,AY,BB,AL,BD,AX,AC,AA,AZ,AU,BH,BG,A7,KU,EK,EN,BZ,DU,G8,BU,AB,DW,↓reduceIte,jB,jM,jG,jA,jC,enP,AQS,ZI,VU,D7,jT,AZQ,A30,A39,AZP,ha,i2,i3,zX,qF,q1,q2,q3,q4]
  rw [f7,← hXl,hfz]
  exact ⟨⟨hF,rfl⟩,hF,rfl⟩
 ·have hbad:MF p.bins = []:=by
   have:=of_decide_eq_false hc
   exact List.length_eq_zero_iff.1 (by omega)
  have hbo:badO JU p=none:=by unfold badO; rw [if_pos hbad]
  rw [hbo]
  simp -implicitDefEqProofs only [DJ,jS,jJ,jQ,jR,BC,A8,BO,BK,BA,CJ,AY,BB,AL,BD,AX,AC,AA,AZ,BG,A7,↓reduceIte,jB,jA,jC,D7,f7]
  refine ⟨hhx,?_⟩
  have:=frz_own (d:=2) AO0 (n:=h.length) (show h.length≤ob by omega) hob
  rw [hXl] at this
  exact this
end
def UN (l:List Ex):List AV:=AZL ⟨Cov.nm l,l⟩
def UG (c:List (List Ex)):List AV := [.sl .any 1 (c.map encX)]
theorem AUK (c:List (List Ex)):(UG c)[0]? = some (.sl .any 1 (c.map encX)):=rfl
theorem A27 (l:List Ex):(encX l)[0]? = some (.sl .any 4 (l.map DC)):=rfl
structure OL (n0:Nat) (H:Hp) (ob n:Nat) (v:Nat→AV) (X:Nat→List Ex):Prop where
 gob:H[ob]? = some (.live 1 ((zT n).map fun t => [v t]))
 lo:n0≤ob
 each : ∀ t,t < n→(X t = []∧v t = .sl .nil 0 [])∨(X t≠[]∧∃ o,n0≤o∧v t = .own o 0 (X t).length∧H[o]? = some (.live 4 ((X t).map DC)))
 ap : ∀ t u b,t < n→u < n→isB (v t) b→isB (v u) b→t=u
 ne : ∀ t b,t < n→isB (v t) b→b≠ob
def XW {α:Type} (f:Nat→α) (a:Nat) (x:α) (t:Nat):α:=if t=a then x else f t
theorem AP6 {v:Nat→AV} {n a:Nat} {x:AV} (_ha:a < n):((zT n).map fun t => [v t]).set a [x]=(zT n).map fun t => [XW v a x t]:=by
 apply List.ext_getElem
 ·simp
 intro i h1 h2
 rw [List.getElem_set]
 simp only [List.getElem_map,List.getElem_range,XW]
 by_cases e:a=i
 ·rw [if_pos e,if_pos e.symm]
 ·rw [if_neg e,if_neg (Ne.symm e)]
theorem ZB {n0:Nat} {h H:Hp} {X:List Ex} {v:AV} (hl:n0=h.length):((X = []∧v = .sl .nil 0 [])∨(X≠[]∧∃ o,n0≤o∧v = .own o 0 X.length∧H[o]? = some (.live 4 (X.map DC))))↔outG 4 DC h X v H:=by subst hl; exact Iff.rfl
theorem OL.app {h H:Hp} {ob n a:Nat} {v:Nat→AV} {X:Nat→List Ex} (O:OL h.length H ob n v X) (ha:a < n) (hx:ext h H) (s:SM) (ys:List Ex) (hl:(X a).length+ys.length≤8388608) :
  ∃ v' H',GI Tryz.prog true H 46 46 (v a) (.sl s 4 (ys.map DC))=some (v',H')∧H'[ob]? = some (.live 1 ((zT n).map fun t => [v t]))∧JE v'=some [v'] ∧
    OL h.length (H'.set ob (.live 1 ((zT n).map fun t => [XW v a v' t]))) ob n (XW v a v') (XW X a (X a ++ ys))∧ext h (H'.set ob (.live 1 ((zT n).map fun t => [XW v a v' t]))):=by
 obtain ⟨v',H',h1,h2,h3,h4,h5,h6⟩:=ZC (P:=Tryz.prog) s ((ZB rfl).1 (O.each a ha)) AEE MQ ALB AM7 (by omega) (ys:=ys) hl hx
 have lob:=CE O.gob
 have g1:=h3 _ _ O.gob (fun q=>O.ne a _ ha q rfl)
 have hlt : ∀ t b,t < n→isB (v t) b→b < H.length:=fun t b ht hb=>((ZB rfl).1 (O.each t ht)).lt hb |>.2
 have hne' : ∀ b,isB v' b→b≠ob:=fun b hb=>by
  rcases h6 b hb with q | q
  ·exact O.ne a b ha q
  ·omega
 have hac:JE v'=some [v']:=by
  rcases h2 with ⟨_,rfl⟩ | ⟨_,o,_,rfl,_⟩ <;> rfl
 refine ⟨v',H',h1,g1,hac,⟨ER g1,O.lo,fun t ht => ?_,fun t u b ht hu h7 h8 => ?_,fun t b ht hb => ?_⟩,h4.set O.lo _⟩
 ·by_cases e:t=a
  ·subst e
   simp only [XW,if_true]
   exact (ZB rfl).2 (h2.keep fun b hb=>by rw [zO (Ne.symm (hne' b hb))])
  ·simp only [XW,if_neg e]
   refine (ZB rfl).2 (((ZB rfl).1 (O.each t ht)).keep fun b hb => ?_)
   rw [zO (Ne.symm (O.ne t b ht hb))]
   rcases O.each t ht with ⟨_,q⟩ | ⟨_,o,_,q,q2⟩
   ·rw [q] at hb; exact hb.elim
   ·rw [q] at hb; cases hb
    rw [q2]
    exact h3 _ _ q2 fun q3=>e (O.ap t a _ ht ha (by rw [q]; rfl) q3)
 ·simp only [XW] at h7 h8
  by_cases e1:t=a <;> by_cases e2:u=a
  ·rw [e1,e2]
  ·rw [if_pos e1] at h7; rw [if_neg e2] at h8
   rcases h6 b h7 with q | q
   ·exact e1.trans (O.ap a u b ha hu q h8)
   ·have:=hlt u b hu h8; omega
  ·rw [if_neg e1] at h7; rw [if_pos e2] at h8
   rcases h6 b h8 with q | q
   ·exact (O.ap t a b ht ha h7 q).trans e2.symm
   ·have:=hlt t b ht h7; omega
  ·rw [if_neg e1] at h7; rw [if_neg e2] at h8
   exact O.ap t u b ht hu h7 h8
 ·simp only [XW] at hb
  by_cases e1:t=a
  ·rw [if_pos e1] at hb; exact hne' b hb
  ·rw [if_neg e1] at hb; exact O.ne t b ht hb
theorem OL.frz {n0:Nat} {H:Hp} {ob n:Nat} {v:Nat→AV} {X:Nat→List Ex} (O:OL n0 H ob n v X) (h:Hp) (hl:n0=h.length):IR h.length H 4 (.own ob 0 n) = .sl .any 1 ((zT n).map fun t => [fzG 4 DC (X t)]):=by
 subst hl
 have hm:((zT n).map fun t => [v t]).map (·.map (IR h.length H 3))=(zT n).map fun t => [fzG 4 DC (X t)]:=by
  rw [wS]
  refine List.map_congr_left fun t ht => ?_
  have ht':t < n:=by simpa using ht
  show [IR h.length H 3 (v t)]=_
  rw [AJW AO1 ((ZB rfl).1 (O.each t ht')) h.length 1 (jL _)]
 rw [Cov.frzF_own h.length H 3 ob 0 n 1 _ (by have:=O.lo; omega) O.gob,zM,jW (by simp),hm]
 rw [if_pos]
 refine ⟨by simp,?_⟩
 rw [zG]
 intro row hr
 obtain ⟨t,_,rfl⟩:=zN.1 hr
 cases X t <;> rfl
theorem A21 (l:List Ex):CvRow [fzG 4 DC l] (UN l):=by
 cases l with
 | nil=>exact CvRow.cons rfl (Cv.nil 0 4) CvRow.nil
 | cons x xs=>exact CvRow.cons rfl (Cv.refl _) CvRow.nil
def rowP (n i t:Nat) (c:List (List Ex)):List Ex:=if n - c.length≤t∧t < n - c.length+i then c[t - (n - c.length)]?.getD [] else []
theorem APX (n t:Nat) (c:List (List Ex)):rowP n 0 t c = []:=by unfold rowP; rw [if_neg (by omega)]
theorem APY {n t:Nat} {c:List (List Ex)} (ht:t < n) (hc:c.length≤n):rowP n c.length t c=rowC n t c:=by
 unfold rowP rowC
 by_cases h:n - c.length≤t
 ·rw [if_pos ⟨h,by omega⟩,if_pos h]
 ·rw [if_neg (by omega),if_neg h]
theorem AP1 (n t:Nat) (cs:List (List (List Ex))) (j:Nat) (hj:j < cs.length):rowA n (cs.take (j+1)) t=rowA n (cs.take j) t ++ rowC n t cs[j]:=by
 unfold rowA
 rw [zK hj,List.flatMap_append]; simp
theorem rowC_len {n t:Nat} {c:List (List Ex)} {B:Nat} (h : ∀ r∈c,r.length≤B):(rowC n t c).length≤B:=by
 unfold rowC
 split
 ·cases hx:c[t - (n - c.length)]? with
  | none=>exact qU _
  | some r=>exact h r (zY hx)
 ·exact qU _
theorem AB2 {n t B:Nat} : ∀ {cs:List (List (List Ex))},(∀ c∈cs,∀ r∈c,r.length≤B)→(rowA n cs t).length≤B * cs.length
 | [],_=>by simp [rowA]
 | c :: cs,h=>by
   have h1:=rowC_len (n:=n) (t:=t) (h c (by simp))
   have h2:=AB2 (n:=n) (t:=t) (cs:=cs) fun c hc=>h c (by simp [hc])
   show (rowC n t c ++ rowA n cs t).length≤_
   rw [qA,zX,Nat.mul_add]; omega
theorem A46 (h:Hp) (n:Nat) (hn:n≤1048576):J4 Tryz.prog true h 33 (.int .i64 (n:Int)) (.int .i64 (n:Int))=some (.own h.length 0 n,h ++ [ABlk.live 1 ((zT n).map fun _ => [.sl .nil 0 []])]):=by
 have hz:ND Tryz.prog 46=some [.sl .nil 0 []]:=by kernel_rfl
 have hr:room n 24:=JF (by omega) (by omega)
 unfold J4
 simp only [A1U,ASJ,A3H,hz,Int.toNat_natCast]
 rw [if_pos ⟨by omega,Int.le_refl _,hr,rfl⟩]
 have e:(zT n).map (fun _ => [AV.sl .nil 0 []])=List.replicate n [.sl .nil 0 []]:=by rw [List.map_const',List.length_range]
 rw [e]; rfl
theorem rowP_step {n i t:Nat} {c:List (List Ex)} (hc:c.length≤n) (hi:i < c.length) (_ht:t < n):rowP n (i+1) t c=if t=n - c.length+i then c[i] else rowP n i t c:=by
 unfold rowP
 by_cases e:t=n - c.length+i
 ·rw [if_pos e,if_pos (by omega),show t - (n - c.length)=i by omega,jO hi]; rfl
 ·rw [if_neg e]
  by_cases h:n - c.length≤t∧t < n - c.length+i
  ·rw [if_pos h,if_pos (by omega)]
  ·rw [if_neg h,if_neg (by omega)]
section
variable (G:Nat→AV)
set_option maxHeartbeats 8000000 in
theorem AHL (cs:List (List (List Ex))) (s:SM) (hcs:cs.length≤1048576) (hl : ∀ c∈cs,c.length≤1048576) (hr : ∀ c∈cs,∀ r∈c,r.length≤2) (h:Hp):PCall (En G) 36 [.sl s 1 (cs.map UG)] h (.sl .any 1 ((NF cs).map UN)):=by
 have hcv:Cv (.sl .any 1 ((zT (TS cs)).map fun t => [fzG 4 DC (rowA (TS cs) cs t)])) (.sl .any 1 ((NF cs).map UN)):=by
  unfold NF
  rw [wS]
  exact Cv.map fun t _=>A21 _
 refine PCall.res ?_ (CvR.sl hcv)
 clear hcv
 refine ACalls.pure (R:=fun v H=>Sm.ext h H∧IR h.length H 4 v = .sl .any 1 ((zT (TS cs)).map fun t => [fzG 4 DC (rowA (TS cs) cs t)])) 4 ?_ (fun v H ⟨a,b⟩=>⟨a,b⟩)
 have hnb:TS cs≤1048576:=WY cs 0 _ (qU _) hl
 refine acN Tryz.func36 rfl ?_
 show awp _ _ _ _ _ (EJ _ [.tmp 2] _)
 simp -implicitDefEqProofs only [BC,BQ,A8,BA,AY,BB,AO,AQ,AL,BD,AX,AC,AA,AZ,AU,BH,H9,BG,A7,DU,AB,BF,↓reduceIte,jB,jA,jC,enP,A2M,jH]
 refine H7 0 (fun F H'=>F 0 = .sl s 1 (cs.map UG)∧F 3 = .int .i64 (TS cs:Nat)∧H'=h) (fun _ _=>False) ?_ ?_ (fun _ _ q=>q.elim)
 ·refine DL (fun n F H' => ∃ i,n+i=cs.length∧F 0 = .sl s 1 (cs.map UG)∧F 3 = .int .i64 (TS (cs.take i):Nat)∧F 12 = .sl s 1 (cs.map UG)∧F 13 = .int .i64 (cs.length:Nat)∧F 14 = .int .i64 (i:Nat)∧H'=h) cs.length
   ⟨0,by simp,by simp -implicitDefEqProofs only [AA,BF,↓reduceIte,jB],by simp -implicitDefEqProofs only [AA,↓reduceIte,jB] <;> rfl,by simp -implicitDefEqProofs only [AA,↓reduceIte,jB],by simp -implicitDefEqProofs only [AA,↓reduceIte,jB],by simp -implicitDefEqProofs only [AA,↓reduceIte] <;> rfl,rfl⟩ ?_
  rintro n F H ⟨i,hi,f0,f3,f12,f13,f14,rfl⟩
  simp -implicitDefEqProofs only [BC,A8,BI,BA,AY,BB,AO,AQ,AL,BD,AX,AC,AA,AZ,BR,AB,CW,↓reduceIte,jA,jC,enP,f13,f14]
  refine CU (fun hc => ?_) (fun hc => ?_)
  ·have hi':i < cs.length:=by simpa using hc
   have hm:max ((TS (cs.take i):Nat):Int) ((cs[i].length:Nat):Int)=((TS (cs.take (i+1)):Nat):Int):=by rw [AQI cs i hi']; omega
   simp -implicitDefEqProofs only [BC,BQ,A8,BO,BA,EI,EP,AY,BB,AO,AQ,AL,BD,AX,AC,AA,AZ,AU,BH,BG,A7,BN,BR,BZ,DU,ANW,AB,DK,AGO,↓reduceIte,jB,jA,jC,enP,AMC,A2Y,f3,f12,f14,DF hi',CX A4I hi',AUK,jH,hm,wrap_succ (show i < 9223372036854775807 by omega)]
   exact ⟨n - 1,by omega,i+1,by omega,by first | exact True.intro | exact f0,by first | exact True.intro | exact rfl,by first | exact True.intro | exact f12,by first | exact True.intro | exact f13,by first | exact True.intro | exact rfl,by first | exact True.intro | exact rfl⟩
  ·have hi' : ¬ i < cs.length:=by simpa using hc
   rw [jW (by omega)] at f3
   simp -implicitDefEqProofs only [DI,ED,KQ,EW,AA,↓reduceIte,jB]
   exact ⟨by first | exact True.intro | exact f0,by first | exact True.intro | exact f3,by first | exact True.intro | exact rfl⟩
 rintro F H ⟨f0,f3,rfl⟩
 generalize hN:TS cs=N at *
 have g0:=CY H (ABlk.live 1 ((zT N).map fun _ => [AV.sl .nil 0 []]))
 have O0:OL H.length (H ++ [ABlk.live 1 ((zT N).map fun _ => [AV.sl .nil 0 []])]) H.length N (fun _ => .sl .nil 0 []) (fun _ => []) :=
  ⟨g0,jL _,fun t _ => .inl ⟨rfl,rfl⟩,fun t u b _ _ q=>q.elim,fun t b _ q=>q.elim⟩
 have hx0:Sm.ext H (H ++ [ABlk.live 1 ((zT N).map fun _ => [AV.sl .nil 0 []])]):=(ext.rfl' H).app _
 simp -implicitDefEqProofs only [BC,BQ,A8,BA,EU,AY,BB,AO,AQ,AL,BD,AX,AC,AA,AZ,AU,BH,BG,A7,O8,DU,BU,AB,↓reduceIte,jB,jA,jC,enP,A2M,f0,f3,A46 H N hnb,jH]
 generalize H ++ [ABlk.live 1 ((zT N).map fun _ => [AV.sl .nil 0 []])]=H0 at O0 hx0 ⊢
 refine DL (fun n F H' => ∃ j v X,n+j=cs.length∧F 3 = .int .i64 (N:Nat)∧F 6 = .own H.length 0 N∧F 25 = .sl s 1 (cs.map UG)∧F 26 = .int .i64 (cs.length:Nat)∧F 27 = .int .i64 (j:Nat)∧OL H.length H' H.length N v X∧(∀ t,t < N→X t=rowA N (cs.take j) t)∧Sm.ext H H') cs.length
  ⟨0,_,_,by simp,by simp -implicitDefEqProofs only [AA,↓reduceIte,jB,f3],by simp -implicitDefEqProofs only [AA,↓reduceIte,jB],by simp -implicitDefEqProofs only [AA,↓reduceIte,jB],by simp -implicitDefEqProofs only [AA,↓reduceIte,jB],by simp -implicitDefEqProofs only [AA,↓reduceIte] <;> rfl,O0,fun t _=>by rw [qN]; rfl,hx0⟩ ?_
 clear O0 hx0 f0 f3 g0
 rintro n F H1 ⟨j,v,X,hj,f3,f6,f25,f26,f27,O,hX,hx⟩
 simp -implicitDefEqProofs only [BC,A8,BI,BA,AY,BB,AO,AQ,AL,BD,AX,AC,AA,AZ,BR,AB,CW,↓reduceIte,jA,jC,enP,f26,f27]
 refine CU (fun hc => ?_) (fun hc => ?_)
 ·have hj':j < cs.length:=by simpa using hc
  have hcN:cs[j].length≤N:=by rw [← hN]; exact ATP (jP hj')
  have hrj:=hr _ (jP hj')
  have hrt : ∀ t,(rowA N (cs.take j) t).length≤2 * j:=fun t=>by
   have:=AB2 (n:=N) (t:=t) (B:=2) (cs:=cs.take j) fun c hc=>hr c (List.mem_of_mem_take hc)
   rw [zJ,Nat.min_eq_left (by omega)] at this; exact this
  have hst : ∀ t,rowA N (cs.take (j+1)) t=rowA N (cs.take j) t ++ rowC N t cs[j]:=fun t=>AP1 N t cs j hj'
  simp -implicitDefEqProofs only [BC,BQ,A8,BO,BA,AY,BB,AO,AQ,AL,BD,AX,AC,AA,AZ,AU,BH,BG,A7,BN,BZ,DU,AB,↓reduceIte,jB,jA,jC,enP,AMC,A2Y,f25,f27,DF hj',CX A4I hj',AUK,jH]
  generalize cs[j]=c at hcN hrj hst ⊢
  refine H7 4 (fun F H' => ∃ v X,F 3 = .int .i64 (N:Nat)∧F 6 = .own H.length 0 N∧F 25 = .sl s 1 (cs.map UG)∧F 26 = .int .i64 (cs.length:Nat)∧F 27 = .int .i64 (j:Nat)∧OL H.length H' H.length N v X∧(∀ t,t < N→X t=rowA N (cs.take (j+1)) t)∧Sm.ext H H') (fun _ _=>False) ?_ ?_ (fun _ _ q=>q.elim)
  ·refine DL (fun n F H' => ∃ i v X,n+i=c.length∧F 3 = .int .i64 (N:Nat)∧F 6 = .own H.length 0 N∧F 8 = .sl .any 1 (c.map encX)∧F 25 = .sl s 1 (cs.map UG)∧F 26 = .int .i64 (cs.length:Nat)∧F 27 = .int .i64 (j:Nat)∧F 31 = .sl .any 1 (c.map encX)∧F 32 = .int .i64 (c.length:Nat)∧F 33 = .int .i64 (i:Nat)∧OL H.length H' H.length N v X∧(∀ t,t < N→X t=rowA N (cs.take j) t ++ rowP N i t c)∧Sm.ext H H') c.length
    ⟨0,v,X,by simp,by simp -implicitDefEqProofs only [AA,↓reduceIte,jB,f3],by simp -implicitDefEqProofs only [AA,↓reduceIte,jB,f6],by simp -implicitDefEqProofs only [AA,↓reduceIte,jB],by simp -implicitDefEqProofs only [AA,↓reduceIte,jB,f25],by simp -implicitDefEqProofs only [AA,↓reduceIte,jB,f26],by simp -implicitDefEqProofs only [AA,↓reduceIte,jB,f27],by simp -implicitDefEqProofs only [AA,↓reduceIte,jB],by simp -implicitDefEqProofs only [AA,↓reduceIte,jB],by simp -implicitDefEqProofs only [AA,↓reduceIte] <;> rfl,O,fun t ht=>by rw [APX,jF]; exact hX t ht,hx⟩ ?_
   clear f3 f6 f25 f26 f27 O hX hx
   rintro n2 F H2 ⟨i,v,X,hi,f3,f6,f8,f25,f26,f27,f31,f32,f33,O,hX,hx⟩
   simp -implicitDefEqProofs only [BC,A8,BI,BA,AY,BB,AO,AQ,AL,BD,AX,AC,AA,AZ,BR,AB,CW,↓reduceIte,jA,jC,enP,f32,f33]
   refine CU (fun hd => ?_) (fun hd => ?_)
   ·have hi':i < c.length:=by simpa using hd
    have ha:N - c.length+i < N:=by omega
    have hlen:(X (N - c.length+i)).length+c[i].length≤8388608:=by
     have h1:=hrt (N - c.length+i)
     have h2:=hrj _ (jP hi')
     rw [hX _ ha,qA]
     have h3:rowP N i (N - c.length+i) c = []:=by unfold rowP; rw [if_neg (by omega)]
     rw [h3,qF]; omega
    obtain ⟨v',H3,a1,a2,a3,O2,hx2⟩:=O.app ha hx .any c[i] hlen
    have hw1:IntKind.i64.wrap (((N:Nat):Int) - ((c.length:Nat):Int))=((N - c.length:Nat):Int):=by rw [wrap_i64 (by omega) (by omega)]; omega
    have hw2:IntKind.i64.wrap (((N - c.length:Nat):Int)+((i:Nat):Int))=((N - c.length+i:Nat):Int):=by rw [wrap_i64 (by omega) (by omega)]; omega
    have i1:JX 1 H2 (.own H.length 0 N) (.int .i64 ((N - c.length+i:Nat):Int))=some (.ptr H.length (N - c.length+i) 0):=by rw [JS O.gob ha,jG]
    have hrow : ∀ f:Nat→AV,((zT N).map fun t => [f t])[N - c.length+i]? = some [f (N - c.length+i)]:=fun f=>by
     rw [jY,List.getElem?_range ha]; rfl
    have d1:D6 Tryz.prog H2 46 (.ptr H.length (N - c.length+i) 0)=some (v (N - c.length+i)):=by rw [DV UQ O.gob (hrow v)]; rfl
    have i2:JX 1 H3 (.own H.length 0 N) (.int .i64 ((N - c.length+i:Nat):Int))=some (.ptr H.length (N - c.length+i) 0):=by rw [JS a2 ha,jG]
    have s1:FM Tryz.prog H3 46 (.ptr H.length (N - c.length+i) 0) v'=some (H3.set H.length (.live 1 ((zT N).map fun t => [XW v (N - c.length+i) v' t]))):=by
     rw [JP (cs := [v']) a3 ASJ a2 (hrow v) (by exact jL 1),← AP6 ha]; rfl
    have hX2 : ∀ t,t < N→XW X (N - c.length+i) (X (N - c.length+i) ++ c[i]) t=rowA N (cs.take j) t ++ rowP N (i+1) t c:=fun t ht=>by
     rw [rowP_step hcN hi' ht]
     by_cases e:t=N - c.length+i
     ·rw [if_pos e]
      simp only [XW,if_pos e]
      rw [hX _ ha,← e]
      have h3:rowP N i t c = []:=by unfold rowP; rw [if_neg (by omega)]
      rw [h3,jF]
     ·rw [if_neg e]
      simp only [XW,if_neg e]
      exact hX t ht
    simp -implicitDefEqProofs only [BC,BQ,A8,BO,BA,EI,EP,AY,BB,AO,AQ,AL,BD,AX,AC,E8,AA,AZ,AU,BH,BG,A7,BN,EN,BR,BZ,DU,G8,BU,AB,DW,DK,KX,↓reduceIte,jB,jA,jC,enP,AQS,AMC,jT,f3,f6,f8,f31,f33,DF hi',CX UQ hi',A27,jH,hw1,hw2,i1,d1,a1,i2,s1,wrap_succ (show i < 9223372036854775807 by omega)]
    exact ⟨n2 - 1,by omega,i+1,_,_,by omega,by first | exact True.intro | exact f3,by first | exact True.intro | exact f6,by first | exact True.intro | exact f8,by first | exact True.intro | exact f25,by first | exact True.intro | exact f26,by first | exact True.intro | exact f27,by first | exact True.intro | exact f31,by first | exact True.intro | exact f32,by first | exact True.intro | exact rfl,O2,hX2,hx2⟩
   ·have hi':i=c.length:=by have : ¬ i < c.length:=by simpa using hd
                            omega
    subst hi'
    simp -implicitDefEqProofs only [DI,ED,KQ,EW,AA,↓reduceIte,jB]
    exact ⟨v,X,by first | exact True.intro | exact f3,by first | exact True.intro | exact f6,by first | exact True.intro | exact f25,by first | exact True.intro | exact f26,by first | exact True.intro | exact f27,O,fun t ht=>by rw [hX t ht,hst,APY ht hcN],hx⟩
  ·clear f3 f6 f25 f26 f27 O hX hx
   rintro F H2 ⟨v,X,f3,f6,f25,f26,f27,O,hX,hx⟩
   simp -implicitDefEqProofs only [A8,BA,EI,EU,EP,AY,BB,AO,AQ,AL,BD,AX,AC,AA,AZ,AU,BH,BG,BR,AB,DK,↓reduceIte,jB,jA,jC,enP,f27,wrap_succ (show j < 9223372036854775807 by omega)]
   exact ⟨n - 1,by omega,j+1,v,X,by omega,by first | exact True.intro | exact f3,by first | exact True.intro | exact f6,by first | exact True.intro | exact f25,by first | exact True.intro | exact f26,by first | exact True.intro | exact rfl,O,hX,hx⟩
 ·have hj' : ¬ j < cs.length:=by simpa using hc
  rw [jW (by omega)] at hX
  simp -implicitDefEqProofs only [BC,A8,BK,DI,BA,ED,EU,EW,CJ,AY,BB,AO,AQ,AL,BD,AX,AC,AA,AZ,BG,A7,↓reduceIte,jB,jA,jC,f6]
  refine ⟨hx,?_⟩
  rw [O.frz H rfl]
  congr 1
  refine List.map_congr_left fun t ht => ?_
  rw [hX t (by simpa using ht)]
end
theorem AZK (l:List Ex):(UN l)[0]? = some (.sl (Cov.nm l) 4 (l.map DC)):=rfl
theorem AFN {R:List (List Ex)} {i:Nat} (hi:i < R.length):(R.take (i+1)).flatten=(R.take i).flatten ++ R[i]:=by
 rw [zK hi,List.flatten_append]; simp
theorem YK (R:List (List Ex)) (i:Nat):(R.take i).flatten.length≤R.flatten.length:=by
 have:R.flatten=(R.take i).flatten ++ (R.drop i).flatten:=by rw [← List.flatten_append,List.take_append_drop]
 rw [this,qA]; omega
def AWZ (h:Hp) (ys:List Ex) (v:AV) (H:Hp):Prop:=(v = .sl .nil 0 []∧ys = [])∨∃ o,h.length≤o∧v = .own o 0 ys.length∧H[o]? = some (.live 4 (ys.map DC))
theorem ATB {h H:Hp} {xs ys:List Ex} {v:AV} (s:SM) (ho:AWZ h xs v H) (he:ext h H) (hl:xs.length+ys.length≤8388608) :
  ∃ v' H',GI Tryz.prog true H 46 46 v (.sl s 4 (ys.map DC))=some (v',H')∧AWZ h (xs ++ ys) v' H'∧ext h H'∧(v = .sl .nil 0 []→ys = []→v' = .sl .nil 0 []):=by
 cases ys with
 | nil =>
   refine ⟨v,H,?_,by rw [jF]; exact ho,he,fun q _=>q⟩
   have hcs:JY H (.sl s 4 [])=some (4,[]):=IY H s 4 []
   rcases ho with ⟨rfl,rfl⟩ | ⟨o,h2,rfl,h3⟩
   ·simp [GI,AEE,MQ,TK,hcs,bump]
   ·have hc:JY H (.own o 0 xs.length)=some (4,xs.map DC):=by rw [LC h3 (by simp),zM,jW (by simp)]
    simp [GI,AEE,MQ,TK,hc,hcs,bump]
 | cons y ys =>
   have h1:(y :: ys).map DC≠[]:=by simp
   rcases ho with ⟨rfl,rfl⟩ | ⟨o,h2,rfl,h3⟩
   ·exact ⟨_,_,PZ AEE MQ ALB AM7 (IY H s 4 ((y :: ys).map DC)) h1 (JF (by simp at hl ⊢; omega) (by omega)),.inr ⟨H.length,he.le,by simp,by simp⟩,he.app _,fun _ q=>by cases q⟩
   ·have hc:JY H (.own o 0 xs.length)=some (4,xs.map DC):=by rw [LC h3 (by simp),zM,jW (by simp)]
    exact ⟨_,_,PY AEE MQ ALB AM7 hc (IY H s 4 ((y :: ys).map DC)) h1 (JF (by simp at hl ⊢; omega) (by omega)),.inr ⟨H.length,he.le,by simp,by simp⟩,(he.set h2 _).app _,fun q=>by cases q⟩
section
variable (G:Nat→AV)
set_option maxHeartbeats 4000000 in
theorem AKK (R:List (List Ex)) (s:SM) (hR:R.length≤1048576) (hl:R.flatten.length≤1048576) (h:Hp):PCall (En G) 37 [.sl s 1 (R.map UN)] h (.sl (Cov.nm R.flatten) 4 (R.flatten.map DC)):=by
 refine P8 AO1 ?_
 refine acN Tryz.func37 rfl ?_
 show awp _ _ _ _ _ (EJ _ [.tmp 2] _)
 simp -implicitDefEqProofs only [BC,BQ,A8,BA,AY,BB,AO,AQ,AL,BD,AX,AC,AA,AZ,AU,BH,H9,BG,A7,DU,AB,BF,↓reduceIte,jB,jA,jC,enP,AMC,jH]
 refine H7 0 (fun F H'=>F 0 = .sl s 1 (R.map UN)∧F 3 = .int .i64 (R.flatten.length:Nat)∧H'=h) (fun _ _=>False) ?_ ?_ (fun _ _ q=>q.elim)
 ·refine DL (fun n F H' => ∃ i,n+i=R.length∧F 0 = .sl s 1 (R.map UN)∧F 3 = .int .i64 ((R.take i).flatten.length:Nat)∧F 9 = .sl s 1 (R.map UN)∧F 10 = .int .i64 (R.length:Nat)∧F 11 = .int .i64 (i:Nat)∧H'=h) R.length
   ⟨0,by simp,by simp -implicitDefEqProofs only [AA,BF,↓reduceIte,jB],by simp -implicitDefEqProofs only [AA,↓reduceIte,jB] <;> rfl,by simp -implicitDefEqProofs only [AA,↓reduceIte,jB],by simp -implicitDefEqProofs only [AA,↓reduceIte,jB],by simp -implicitDefEqProofs only [AA,↓reduceIte] <;> rfl,rfl⟩ ?_
  rintro n F H ⟨i,hi,f0,f3,f9,f10,f11,rfl⟩
  simp -implicitDefEqProofs only [BC,A8,BI,BA,AY,BB,AO,AQ,AL,BD,AX,AC,AA,AZ,BR,AB,CW,↓reduceIte,jA,jC,enP,f10,f11]
  refine CU (fun hc => ?_) (fun hc => ?_)
  ·have hi':i < R.length:=by simpa using hc
   have hfl:=AFN hi'
   have hle:=YK R (i+1)
   rw [hfl,qA] at hle
   have hw:IntKind.i64.wrap ((((R.take i).flatten.length:Nat):Int)+((R[i].length:Nat):Int))=(((R.take (i+1)).flatten.length:Nat):Int):=by rw [hfl,qA,wrap_i64 (by omega) (by omega)]; omega
   simp -implicitDefEqProofs only [BC,BQ,A8,BO,BI,BA,EI,EP,D5,AY,BB,AO,AQ,AL,BD,AX,AC,AA,AZ,AU,BH,BG,A7,BN,BR,BZ,DU,AB,DK,CW,↓reduceIte,jB,jA,jC,enP,AQS,VU,f3,f9,f11,DF hi',CX UQ hi',AZK,jH,hw,QA,wrap_succ (show i < 9223372036854775807 by omega)]
   exact ⟨n - 1,by omega,i+1,by omega,by first | exact True.intro | exact f0,by first | exact True.intro | exact rfl,by first | exact True.intro | exact f9,by first | exact True.intro | exact f10,by first | exact True.intro | exact rfl,by first | exact True.intro | exact rfl⟩
  ·have hi' : ¬ i < R.length:=by simpa using hc
   rw [jW (by omega)] at f3
   simp -implicitDefEqProofs only [DI,ED,KQ,EW,AA,↓reduceIte,jB]
   exact ⟨by first | exact True.intro | exact f0,by first | exact True.intro | exact f3,by first | exact True.intro | exact rfl⟩
 rintro F H ⟨f0,f3,rfl⟩
 simp -implicitDefEqProofs only [BC,A8,BA,EU,AY,AO,AQ,AL,BD,AX,AC,AA,AZ,AU,CB,H9,BG,CG,BX,jE,jD,jF,↓reduceIte,jA,jC,f3]
 refine (AQ2 G R.flatten.length hl H).mono ?_
 intro v0 H0 hg
 have I0:AWZ H [] v0 H0∧Sm.ext H H0∧(R.flatten.length=0→v0 = .sl .nil 0 []):=by
  rcases hg with ⟨h0,rfl,rfl⟩ | ⟨h0,rfl,rfl⟩
  ·exact ⟨.inl ⟨rfl,rfl⟩,ext.rfl' _,fun _=>rfl⟩
  ·exact ⟨.inr ⟨H.length,jL _,rfl,CY _ _⟩,(ext.rfl' H).app _,fun q=>by omega⟩
 simp -implicitDefEqProofs only [BC,BQ,A8,BA,AY,BB,AO,AQ,AL,BD,AX,AC,AA,AZ,AU,BH,BG,A7,DU,AB,↓reduceIte,jB,jA,jC,enP,AMC,f0,jH]
 refine DL (fun n F H' => ∃ i v,n+i=R.length∧F 6=v∧F 25 = .sl s 1 (R.map UN)∧F 26 = .int .i64 (R.length:Nat)∧F 27 = .int .i64 (i:Nat)∧AWZ H (R.take i).flatten v H'∧Sm.ext H H'∧(R.flatten.length=0→v = .sl .nil 0 [])) R.length
  ⟨0,v0,by simp,by simp -implicitDefEqProofs only [AA,↓reduceIte,jB],by simp -implicitDefEqProofs only [AA,↓reduceIte,jB],by simp -implicitDefEqProofs only [AA,↓reduceIte,jB],by simp -implicitDefEqProofs only [AA,↓reduceIte] <;> rfl,by rw [qN]; exact I0.1,I0.2.1,I0.2.2⟩ ?_
 clear I0 hg f0 f3
 rintro n F H' ⟨i,v,hi,f6,f25,f26,f27,ho,hx,hz⟩
 simp -implicitDefEqProofs only [BC,A8,BI,BA,AY,BB,AO,AQ,AL,BD,AX,AC,AA,AZ,BR,AB,CW,↓reduceIte,jA,jC,enP,f26,f27]
 refine CU (fun hc => ?_) (fun hc => ?_)
 ·have hi':i < R.length:=by simpa using hc
  have hfl:=AFN hi'
  have hle:=YK R (i+1)
  rw [hfl,qA] at hle
  obtain ⟨v',H2,ha,ho2,hx2,hn2⟩:=ATB (Cov.nm R[i]) ho hx (ys:=R[i]) (by omega)
  rw [← hfl] at ho2
  simp -implicitDefEqProofs only [BC,BQ,A8,BO,BA,EI,EP,AY,BB,AO,AQ,AL,BD,AX,AC,AA,AZ,AU,BH,BG,A7,BN,BR,BZ,G8,BU,AB,DK,↓reduceIte,jB,jA,jC,enP,AQS,f6,f25,f27,DF hi',CX UQ hi',AZK,ha,wrap_succ (show i < 9223372036854775807 by omega)]
  exact ⟨n - 1,by omega,i+1,v',by omega,by first | exact True.intro | exact rfl,by first | exact True.intro | exact f25,by first | exact True.intro | exact f26,by first | exact True.intro | exact rfl,ho2,hx2,fun q=>hn2 (hz q) (List.length_eq_zero_iff.1 (by omega))⟩
 ·have hi' : ¬ i < R.length:=by simpa using hc
  rw [jW (by omega)] at ho
  simp -implicitDefEqProofs only [BC,A8,BK,DI,BA,ED,EU,EW,CJ,AY,BB,AO,AQ,AL,BD,AX,AC,AA,AZ,BG,A7,↓reduceIte,jB,jA,jC,f6]
  refine ⟨hx,?_⟩
  rcases ho with ⟨h1,h2⟩ | ⟨o,h1,h2,h3⟩
  ·exact .inl ⟨h2,h1⟩
  ·refine .inr ⟨fun q => ?_,o,h1,h2,h3⟩
   have:=hz (by rw [q]; rfl)
   rw [this] at h2; cases h2
end
theorem ALQ (b:Bin):sets b=KF b:=by
 unfold sets KF
 cases h:b.ranges.l with
 | nil=>rfl
 | cons x xs=>rw [if_pos (by simp),if_neg (by simp)]
structure VB (b:Bin):Prop where
 one:b.steps = []∨b.ranges.l = []
 ne:KF b≠[]
 few:(KF b).length≤8
 k0:0≤b.kind
 k2:b.kind≤2
 sk:b.kind≠0→b.steps = []
 each : ∀ s∈KF b,s.l≠[]∧s.l.length≤64∧∀ r∈s.l,0≤r.lo∧r.lo≤r.hi∧r.hi≤65535
theorem A1T {b:Bin} (h:H6 b=0):VB b:=by
 unfold H6 at h
 split at h
 case isFalse=>cases h
 split at h
 case isTrue=>cases h
 rename_i h1 h2
 split at h
 case isTrue=>cases h
 rename_i h3
 split at h
 case isTrue=>cases h
 rename_i h4
 split at h
 case isTrue=>cases h
 rename_i h5
 have h2':JQ b=false:=by simpa using h2
 unfold JQ at h2'
 simp only [Bool.or_eq_false_iff,decide_eq_false_iff_not,Bool.and_eq_false_iff] at h2'
 obtain ⟨⟨⟨⟨⟨q1,q2⟩,q3⟩,q4⟩,q5⟩,q6⟩:=h2'
 have hst : ∀ s∈b.steps,s.l≠[]:=fun s hs e=>by
  have:b.steps.any (fun l=>decide (l.l.length=0))=true:=qC.2 ⟨s,hs,by rw [e]; rfl⟩
  exact h3 this
 have h64 : ∀ s∈sets b,s.l.length≤64:=fun s hs=>by
  rcases Nat.lt_or_ge 64 s.l.length with q | q
  ·exact absurd (qC.2 ⟨s,hs,by simpa using q⟩) h4
  ·exact q
 have hbad : ∀ s∈sets b,∀ r∈s.l,bad r=false:=fun s hs r hr=>by
  cases hb:bad r with
  | false=>rfl
  | true=>exact absurd (qC.2 ⟨s,hs,qC.2 ⟨r,hr,hb⟩⟩) h5
 have hone:b.steps = []∨b.ranges.l = []:=by
  rcases Classical.em (b.steps = []) with q | q
  ·exact .inl q
  ·refine .inr ?_
   have l1:0 < b.steps.length:=List.length_pos_iff.2 q
   rcases Classical.em (b.ranges.l = []) with r | r
   ·exact r
   ·have l2:0 < b.ranges.l.length:=List.length_pos_iff.2 r
    have e1:decide (((b.ranges.l.length:Nat):Int) > 0)=true:=by rw [decide_eq_true_eq]; omega
    have e2:decide (((b.steps.length:Nat):Int) > 0)=true:=by rw [decide_eq_true_eq]; omega
    rw [e1,e2] at q3; cases q3
 have hne:b.steps≠[]∨b.ranges.l≠[]:=by
  rcases Classical.em (b.steps = []) with q | q
  ·refine .inr fun r => ?_
   rw [q,r] at q3; exact absurd q3 (by decide)
  ·exact .inl q
 rw [ALQ] at h64 hbad
 refine ⟨hone,?_,?_,by omega,by omega,fun hk => ?_,fun s hs=>⟨?_,h64 s hs,fun r hr => ?_⟩⟩
 ·unfold KF
  split
  ·rename_i q; exact hne.resolve_right (fun r=>r q)
  ·exact List.cons_ne_nil _ _
 ·unfold KF
  split
  ·simp at q6; omega
  ·simp
 ·rcases q4 with q | q
  ·simp at q; exact absurd q hk
  ·exact List.length_eq_zero_iff.1 (by omega)
 ·unfold KF at hs
  split at hs
  ·exact hst s hs
  ·rename_i q
   rw [List.mem_singleton.1 hs]; exact q
 ·have:=hbad s hs r hr
  unfold bad at this
  simp only [Bool.or_eq_false_iff,decide_eq_false_iff_not] at this
  omega
structure VP (p:Pt):Prop where
 n1:1≤p.bins.length
 n64:p.bins.length≤64
 ex:exE p.ex=0
 bins : ∀ b∈p.bins,VB b
theorem A1S {p:Pt} (h:GL p=0):VP p:=by
 obtain ⟨h1,h2⟩:=AAL h
 unfold GL at h
 split at h
 ·cases h
 split at h
 ·rename_i q; exact absurd h q
 rename_i q1
 split at h
 ·cases h
 split at h
 ·cases h
 split at h
 ·rename_i q; exact absurd h q
 rename_i q2
 exact ⟨h1,h2,by simpa using q1,fun b hb=>A1T (OA _ (by simpa using q2) b hb)⟩
theorem ALG {m:Mo} (h:G5 m=0) : ∀ p∈m.pts,VP p:=by
 unfold G5 at h
 split at h
 ·cases h
 split at h
 ·rename_i q; exact absurd h q
 rename_i q
 exact fun p hp=>A1S (OA _ (by simpa using q) p hp)
theorem ADW {n:Nat} : ∀ {l:List Bin},(∀ b∈l,b.kind≠0→b.ranges.l.length≤n)→(MF l).length≤n * l.length
 | [],_=>by simp [MF]
 | b :: l,h=>by
   have ih:=ADW (l:=l) fun b hb=>h b (by simp [hb])
   show ((if b.kind≠0 then b.ranges.l else []) ++ MF l).length≤n * (l.length+1)
   rw [qA,Nat.mul_add]
   by_cases hk:b.kind≠0
   ·rw [if_pos hk]; have:=h b (by simp) hk; omega
   ·rw [if_neg hk,qF]; omega
theorem VB.ranges {b:Bin} (v:VB b) (hk:b.kind≠0):KF b = [b.ranges]:=by
 rcases Classical.em (b.ranges.l = []) with q | q
 ·have h1:=setsB_nil' q
  have h2:=v.ne
  rw [h1,v.sk hk] at h2; exact absurd rfl h2
 ·unfold KF; rw [if_neg q]
 where setsB_nil' {b:Bin} (h:b.ranges.l = []):KF b=b.steps:=by unfold KF; rw [if_pos h]
theorem VP.badLen {p:Pt} (v:VP p):(MF p.bins).length≤4096:=by
 have:=ADW (n:=64) (l:=p.bins) fun b hb hk=>((v.bins b hb).each b.ranges (by rw [(v.bins b hb).ranges hk]; simp)).2.1
 have:=v.n64
 omega
theorem AHW (op n:Int) (name:ByteArray) (m:SM) (args:List Ex):wt (.mk op n name m args)=name.size+1+wts args:=L6 _
theorem nsz:(⟨#[]⟩:ByteArray).size=0:=rfl
theorem ASA (n:Int):wt (cE n)=1:=by unfold cE; rw [AHW,nsz]; rfl
theorem ANX : ∀ l:List Rng,wts (cEs l)=2 * l.length
 | []=>rfl
 | a :: l=>by
   rw [ADP]
   simp only [wts,ASA,ANX l,zX]; omega
theorem AN1 (e:Ex) (l:List Rng):wt (MI e l)=1+wt e+2 * l.length:=by
 rw [AGV,AHW,nsz]
 unfold insL
 simp only [wts,ANX]; omega
theorem AZX (a b:Ex):wt (orE a b)=1+wt a+wt b:=by
 unfold orE
 rw [AHW,nsz]; simp only [wts]; omega
theorem AN0 (a:Ex):wt (notE a)=1+wt a:=by
 unfold notE
 rw [AHW,nsz]; simp only [wts]; omega
theorem AI6 (L:List Rng) (k:Nat):(part L k).length≤16:=by unfold part; rw [zJ]; omega
theorem ANZ (e:Ex) (L:List Rng) : ∀ k,wt (UX e L k)≤(k+1) * (wt e+34)
 | 0=>by
   have:=AI6 L 0
   show wt (MI e (part L 0))≤_
   rw [AN1]; omega
 | k+1=>by
   have:=AI6 L (k+1)
   have ih:=ANZ e L k
   show wt (orE (UX e L k) (MI e (part L (k+1))))≤_
   rw [AZX,AN1,Nat.add_mul (k+1) 1]; omega
theorem ABM : ∀ l:List Ex,(∀ e∈l,wt (cpE e)=wt e)→wts (l.map cpE)=wts l
 | [],_=>rfl
 | e :: l,h=>by
   simp only [jE,wts]
   rw [h e (by simp),ABM l fun e he=>h e (by simp [he])]
theorem AZY (e:Ex):wt (cpE e)=wt e:=by
 induction e using Ex.induct with | h e ih => ?_
 rw [AMY,AHW,ABM _ ih,L6 e]
theorem ACI {x:Ex} : ∀ {xs:List Ex},x∈KC xs↔∃ a∈xs,x∈pre a
 | []=>by simp [KC]
 | a :: xs=>by simp [KC,ACI (xs:=xs)]
def NmB (N:Nat) (e:Ex):Prop := ∀ x∈pre e,x.name.size≤N
theorem NmB.mk {N:Nat} {op n:Int} {name:ByteArray} {m:SM} {args:List Ex} (h:name.size≤N) (ha : ∀ a∈args,NmB N a):NmB N (.mk op n name m args):=fun x hx=>by
 rw [pre_eq] at hx
 rcases qI.1 hx with rfl | hx
 ·exact h
 ·obtain ⟨a,h1,h2⟩:=ACI.1 hx
  exact ha a h1 x h2
theorem ANQ (N:Nat) (n:Int):NmB N (cE n):=NmB.mk (qU _) fun a h=>by cases h
theorem AK6 {N:Nat} {e:Ex} (h:NmB N e) (l:List Rng):NmB N (MI e l):=by
 rw [AGV]
 refine NmB.mk (qU _) fun a ha => ?_
 rcases qI.1 ha with rfl | ha
 ·exact h
 ·unfold cEs at ha
  obtain ⟨r,_,hr⟩:=List.mem_flatMap.1 ha
  rcases qI.1 hr with rfl | hr
  ·exact ANQ N _
  ·rw [List.mem_singleton.1 hr]; exact ANQ N _
theorem AY5 {N:Nat} {a b:Ex} (h1:NmB N a) (h2:NmB N b):NmB N (orE a b):=NmB.mk (qU _) fun x hx=>by
 rcases qI.1 hx with rfl | hx
 ·exact h1
 ·rw [List.mem_singleton.1 hx]; exact h2
theorem AVZ {N:Nat} {a:Ex} (h1:NmB N a):NmB N (notE a):=NmB.mk (qU _) fun x hx=>by rw [List.mem_singleton.1 hx]; exact h1
theorem AK5 {N:Nat} {e:Ex} (h:NmB N e) (L:List Rng) : ∀ k,NmB N (UX e L k)
 | 0=>AK6 h _
 | k+1=>AY5 (AK5 h L k) (AK6 h _)
theorem AY6 {N:Nat} (e:Ex) (h:NmB N e):NmB N (cpE e):=by
 induction e using Ex.induct with | h e ih => ?_
 rw [AMY]
 refine NmB.mk (h e (by rw [pre_eq]; simp)) fun a ha => ?_
 obtain ⟨b,hb,rfl⟩:=zN.1 ha
 exact ih b hb fun x hx=>h x (by rw [pre_eq]; exact List.mem_cons_of_mem _ (ACI.2 ⟨b,hb,hx⟩))
theorem APG {e:Ex} {l:List Rng} (h:wt e≤1048576) (hl:l.length≤4096):WN (JU e l)∧wt (JU e l)≤269000000:=by
 have hn:NmB 1048576 e:=(AVW h).2
 have hnl:=ACB l
 have hp:parts (normal l)≤256:=by rw [parts_eq]; omega
 unfold JU
 rcases Classical.em (normal l = []) with q | q
 ·have:PW e (normal l)=cE 0:=by unfold PW; rw [if_pos q]
  rw [this]
  exact ⟨⟨by rw [ASA]; omega,ANQ _ _⟩,by rw [ASA]; omega⟩
 ·rw [AAN e _ q]
  have h1:=ANZ (cpE e) (normal l) (parts (normal l) - 1)
  rw [AZY] at h1
  have h2:(parts (normal l) - 1+1) * (wt e+34)≤256 * (1048576+34):=Nat.mul_le_mul (by omega) (by omega)
  exact ⟨⟨by omega,AK5 (AY6 e hn) _ _⟩,by omega⟩
theorem AY2 {e:Ex} (h:WN e∧wt e≤269000000):WN (notE e)∧wt (notE e)≤269000001:=⟨⟨by rw [AN0]; omega,AVZ h.1.2⟩,by rw [AN0]; omega⟩
theorem ARK {P:Ex→Prop} {ins:Ex→List Rng→Ex} {p:Pt} {b:Bin} (h1 : ∀ s∈KF b,P (ins p.ex s.l)) (h2:MF p.bins≠[]→P (notE (ins p.ex (MF p.bins)))) : ∀ r∈AAW ins p b,r.length≤2∧∀ e∈r,P e:=by
 have base : ∀ r∈(KF b).map (fun s => [ins p.ex s.l]),r.length=1∧∀ e∈r,P e:=fun r hr=>by
  obtain ⟨s,hs,rfl⟩:=zN.1 hr
  exact ⟨rfl,fun e he=>by rw [List.mem_singleton.1 he]; exact h1 s hs⟩
 intro r hr
 unfold AAW badO at hr
 by_cases q:MF p.bins = []
 ·rw [if_pos q] at hr
  obtain ⟨a,b⟩:=base r hr
  exact ⟨by omega,b⟩
 ·rw [if_neg q] at hr
  rcases List.mem_or_eq_of_mem_set (show r∈List.set _ _ _ from hr) with hr | rfl
  ·obtain ⟨a,b⟩:=base r hr
   exact ⟨by omega,b⟩
  ·cases hx:((KF b).map fun s => [ins p.ex s.l])[((KF b).map fun s => [ins p.ex s.l]).length - 1]? with
   | none =>
     refine ⟨by simp,fun e he => ?_⟩
     have:e=notE (ins p.ex (MF p.bins)):=by simpa using he
     rw [this]; exact h2 q
   | some r0 =>
     obtain ⟨a,b⟩:=base r0 (zY hx)
     refine ⟨by simp [a],fun e he => ?_⟩
     rcases List.mem_append.1 he with he | he
     ·exact b e he
     ·rw [List.mem_singleton.1 he]; exact h2 q
theorem AUX (ins:Ex→List Rng→Ex) (p:Pt) (b:Bin):(AAW ins p b).length=(KF b).length:=by unfold AAW; rw [AJE,jH]
def UM (m:Mo) (x:Hl):List Int:=if x.cross=true then (match AES m x.idx with | some c=>c.pts | none => []) else [x.idx]
structure Prt (m:Mo) (x:Hl) (L:List (Nat × Nat)):Prop where
 pts:UM m x=L.map fun q=>(q.1:Int)
 bins:x.bins=L.map fun q=>(q.2:Int)
 ok : ∀ q∈L,∃ h:q.1 < m.pts.length,q.2 < m.pts[q.1].bins.length
 n1:1≤L.length
 n4:L.length≤4
def cdQ (ins:Ex→List Rng→Ex) (m:Mo) (q:Nat × Nat):List (List Ex):=match m.pts[q.1]? with
 | some p=>(match p.bins[q.2]? with | some b=>AAW ins p b | none => [])
 | none => []
theorem AM6 (ins:Ex→List Rng→Ex) {m:Mo} {q:Nat × Nat} (h:q.1 < m.pts.length) (h2:q.2 < m.pts[q.1].bins.length):cdQ ins m q=AAW ins m.pts[q.1] m.pts[q.1].bins[q.2]:=by
 unfold cdQ
 rw [jO h]
 show (match m.pts[q.1].bins[q.2]? with | some b=>AAW ins m.pts[q.1] b | none => [])=_
 rw [jO h2]
def A3E (ins:Ex→List Rng→Ex) (m:Mo) (L:List (Nat × Nat)):List (List Ex):=NF (L.map (cdQ ins m))
def LU (m:Mo) (x:Hl):List (Nat × Nat):=((UM m x).map Int.toNat).zip (x.bins.map Int.toNat)
theorem AON (l:List Int) (h : ∀ z∈l,0≤z):(l.map Int.toNat).map (fun n:Nat=>(n:Int))=l:=by
 rw [wS]
 conv=>rhs; rw [← List.map_id l]
 exact List.map_congr_left fun z hz=>by have:=h z hz; show ((z.toNat:Nat):Int)=z; omega
theorem ZA {m:Mo} {x:Hl} (hv:NU m x=true):Prt m x (LU m x):=by
 have mk : ∀ (ps bs:List Int),UM m x=ps→x.bins=bs→ps.length=bs.length→(∀ z∈ps,0≤z)→(∀ z∈bs,0≤z)→1≤ps.length→ps.length≤4 →
   (∀ k (h1:k < ps.length) (h2:k < bs.length),∃ h:ps[k].toNat < m.pts.length,bs[k].toNat < m.pts[ps[k].toNat].bins.length)→Prt m x (LU m x):=by
  intro ps bs hp hb hl p0 b0 l1 l4 hok
  have e1:(LU m x).map Prod.fst=ps.map Int.toNat:=by
   unfold LU
   rw [hp,hb,List.map_fst_zip (by simp [hl])]
  have e2:(LU m x).map Prod.snd=bs.map Int.toNat:=by
   unfold LU
   rw [hp,hb,List.map_snd_zip (by simp [hl])]
  have hlen:(LU m x).length=ps.length:=by have:=congrArg wK e1; simpa using this
  refine ⟨?_,?_,fun q hq => ?_,by omega,by omega⟩
  ·have:=congrArg (List.map fun n:Nat=>(n:Int)) e1
   rw [AON ps p0,wS] at this
   rw [hp]; exact this.symm
  ·have:=congrArg (List.map fun n:Nat=>(n:Int)) e2
   rw [AON bs b0,wS] at this
   rw [hb]; exact this.symm
  ·obtain ⟨k,hk,rfl⟩:=qH hq
   have h1:k < ps.length:=by omega
   have h2:k < bs.length:=by omega
   have g1:(LU m x)[k].1=ps[k].toNat:=by
    have:((LU m x).map Prod.fst)[k]? = (ps.map Int.toNat)[k]? := by rw [e1]
    rw [jY,jY,jO hk,jO h1] at this
    simpa using this
   have g2:(LU m x)[k].2=bs[k].toNat:=by
    have:((LU m x).map Prod.snd)[k]? = (bs.map Int.toNat)[k]? := by rw [e2]
    rw [jY,jY,jO hk,jO h2] at this
    simpa using this
   obtain ⟨q1,q2⟩:=hok k h1 h2
   rw [← g1] at q1
   refine ⟨q1,?_⟩
   rw [g2]
   have:m.pts[(LU m x)[k].1]=m.pts[ps[k].toNat]:=by congr 1
   rw [this]; exact q2
 cases hc:x.cross
 ·obtain ⟨i,hi,k,hk,hz,hb,hkd,hg⟩:=RY hv hc
  refine mk [(i:Int)] [(k:Int)] ?_ hb rfl (fun z hz => ?_) (fun z hz => ?_) (by simp) (by simp) fun k' h1 h2 => ?_
  ·unfold UM; rw [if_neg (by rw [hc]; decide),hz]
  ·rw [List.mem_singleton.1 hz]; omega
  ·rw [List.mem_singleton.1 hz]; omega
  ·have:k'=0:=by simp at h1; omega
   subst this
   exact ⟨hi,hk⟩
 ·obtain ⟨i,hi,hz,hin,hh,hg⟩:=RZ hv hc
  have hcg:=hg.crs _ (jP hi)
  have hl:=MC hin
  have hl2:m.crs[i].pts.length=x.bins.length:=by rw [← hl]; unfold szs; rw [jH]
  have h2:=hcg.two; have h4:=hcg.four
  refine mk m.crs[i].pts x.bins ?_ rfl hl2 (fun z hz=>(hcg.here z hz).1) (fun z hz => ?_) (by omega) (by omega) fun k h1 h2 => ?_
  ·unfold UM; rw [if_pos hc,hz,PX hi]
  ·obtain ⟨k,hk,rfl⟩:=qH hz
   exact (VQ hin k hk (by omega)).1
  ·obtain ⟨q1,q2⟩:=VQ hin k h2 h1
   refine ⟨hcg.here.toNat h1,?_⟩
   have:=hcg.here.bins h1
   rw [this]; omega
theorem A1H {m:Mo} (hm:MoOk m) (h0:G5 m=0) {p:Pt} (hp:p∈m.pts) {b:Bin} (hb:b∈p.bins):BdB p b:=by
 have v:=ALG h0 p hp
 have vb:=v.bins b hb
 have h1:=v.n64
 have h2:=vb.few
 have h3:=v.badLen
 exact ⟨vb.ne,by omega,fun s hs=>by have:=(vb.each s hs).2.1; omega,by omega,by omega,(hm.pts p hp).ex⟩
theorem AUY {P:Ex→Prop} {ins:Ex→List Rng→Ex} {m:Mo} (h0:G5 m=0) {q:Nat × Nat} (h:q.1 < m.pts.length) (h2:q.2 < m.pts[q.1].bins.length)
  (h3 : ∀ l:List Rng,l.length≤4096→P (ins m.pts[q.1].ex l)∧P (notE (ins m.pts[q.1].ex l))) : ∀ r∈cdQ ins m q,r.length≤2∧∀ e∈r,P e:=by
 rw [AM6 ins h h2]
 have v:=ALG h0 _ (jP h)
 have vb:=v.bins _ (jP h2)
 exact ARK (fun s hs=>(h3 s.l (by have:=(vb.each s hs).2.1; omega)).1) fun _=>(h3 _ v.badLen).2
theorem AYL {ins:Ex→List Rng→Ex} {m:Mo} (h0:G5 m=0) {q:Nat × Nat} (h:q.1 < m.pts.length) (h2:q.2 < m.pts[q.1].bins.length):1≤(cdQ ins m q).length∧(cdQ ins m q).length≤8:=by
 rw [AM6 ins h h2,AUX]
 have vb:=(ALG h0 _ (jP h)).bins _ (jP h2)
 exact ⟨List.length_pos_iff.2 vb.ne,vb.few⟩
theorem ANH {P:Ex→Prop} {cs:List (List (List Ex))} (h : ∀ c∈cs,∀ r∈c,∀ e∈r,P e) : ∀ r∈NF cs,∀ e∈r,P e:=by
 intro r hr e he
 unfold NF at hr
 obtain ⟨t,_,rfl⟩:=zN.1 hr
 unfold rowA at he
 obtain ⟨c,hc,he⟩:=List.mem_flatMap.1 he
 unfold rowC at he
 split at he
 ·cases hx:c[t - (TS cs - c.length)]? with
  | none=>rw [hx] at he; cases he
  | some r0=>rw [hx] at he; exact h c hc r0 (zY hx) e he
 ·cases he
theorem AJ1 {B:Nat} : ∀ {R:List (List Ex)},(∀ r∈R,r.length≤B)→R.flatten.length≤B * R.length
 | [],_=>by simp
 | r :: R,h=>by
   have h1:=h r (by simp)
   have h2:=AJ1 (R:=R) fun r hr=>h r (by simp [hr])
   rw [List.flatten_cons,qA,zX,Nat.mul_add]; omega
theorem AR0 {cs:List (List (List Ex))} (h4:cs.length≤4) (h8 : ∀ c∈cs,c.length≤8) (h2 : ∀ c∈cs,∀ r∈c,r.length≤2):(NF cs).length≤8∧(∀ r∈NF cs,r.length≤8)∧(NF cs).flatten.length≤64:=by
 have hn:TS cs≤8:=WY cs 0 _ (qU _) h8
 have a:(NF cs).length≤8:=by unfold NF; simpa using hn
 have b : ∀ r∈NF cs,r.length≤8:=fun r hr=>by
  unfold NF at hr
  obtain ⟨t,_,rfl⟩:=zN.1 hr
  have:=AB2 (n:=TS cs) (t:=t) h2
  omega
 refine ⟨a,b,?_⟩
 have:=AJ1 b
 omega
def cnL (ins:Ex→List Rng→Ex) (m:Mo) (x:Hl):List (List Ex):=A3E ins m (LU m x)
def cnE (ins:Ex→List Rng→Ex) (m:Mo) (x:Hl):Int:=if NU m x=true then (if (cnL ins m x).flatten.all (fun e=>exE e == 0)=true then 0 else 2) else 1
def cnV (ins:Ex→List Rng→Ex) (m:Mo) (x:Hl):AV := .tup [if cnE ins m x=0 then .sl .any 1 ((cnL ins m x).map UN) else .sl .nil 0 [],.int .i64 (cnE ins m x)]
theorem AFB (G:Nat→AV) (m:Mo) (x:Hl) (hv:NU m x=true) (h:Hp) : ∃ s,PCall (En G) 32 [.agg (D8 m),.agg (GG x)] h (.sl s 1 ((UM m x).map Bins.qencI)):=by
 cases hc:x.cross
 ·obtain ⟨i,hi,k,hk,hz,hb,hkd,hg⟩:=RY hv hc
  exact ⟨_,by have:=AI3 G m x hc h; unfold UM; rw [if_neg (by rw [hc]; decide)]; exact this⟩
 ·obtain ⟨i,hi,hz,hin,hh,hg⟩:=RZ hv hc
  exact ⟨_,by have:=AI4 G m x hc i hi hz h; unfold UM; rw [if_pos hc,hz,PX hi]; exact this⟩
section
variable (G:Nat→AV)
theorem AM8 (m:Mo) (hm:MoOk m) (h0:G5 m=0) (x:Hl) (L:List (Nat × Nat)) (hL:Prt m x L) (j:Nat) (hj:j < L.length) (b2 b3:Nat) (h:Hp) (gm:h[b2]? = some (.live 2 [D8 m])) (gh:h[b3]? = some (.live 3 [GG x])) :
  PCall (En G) 34 [.int .i64 (j:Nat),.int .i64 (L[j].1:Nat),.ptr b2 0 0,.ptr b3 0 0] h (.sl .any 1 ((cdQ JU m L[j]).map encX)):=by
 obtain ⟨h1,h2⟩:=hL.ok _ (jP hj)
 have B:=A1H hm h0 (jP h1) (jP h2)
 have hb:j < x.bins.length:=by rw [hL.bins,jH]; exact hj
 have hbj:x.bins[j]=((L[j].2:Nat):Int):=by
  have:x.bins[j]? = (L.map fun q=>((q.2:Nat):Int))[j]? := by rw [← hL.bins]
  rw [jO hb,jY,jO hj] at this
  simpa using this
 rw [AM6 JU h1 h2]
 refine acN Tryz.func34 rfl ?_
 show awp _ _ _ _ _ (EJ _ [.tmp 6] _)
 simp -implicitDefEqProofs only [BC,A8,BA,AY,BB,AO,AQ,AL,BD,AX,AC,AU,H9,A7,jA,jC,enP]
 refine EX (by kernel_rfl) ?_
 simp -implicitDefEqProofs only [F6,EF,DZ,FC,EH,FI,IK,FB,D9,EC,GZ,F7,BK,BA,CJ,AO,AA,AZ,CB,BN,BJ,BZ,AB,BF,BP,jE,jD,jF,↓reduceIte,jB,jM,Nat.add_zero,jG,jA,enP,OY,GR,JB,J6,OJ gm,DF h1,FT AD4 Y5 JC h1,TT gh,DF hb,CX ag3 hb,Cov.encI0,hbj]
 refine ⟨_,ADN G m.pts[L[j].1] L[j].2 h2 B h,?_⟩
 try simp -implicitDefEqProofs only []
 exact ⟨by first | exact True.intro | exact rfl,by first | exact True.intro | exact rfl⟩
end
theorem A3L (h:Hp) (xs:List (List AV)):EZ Tryz.prog false h 73 1 [(0,.sl .any 1 xs)]=some (.sl .full 1 [[.sl .any 1 xs]],h):=by kernel_rfl
theorem A25 : ∀ l:List (List (List Ex)),LG (l.map UG)=true:=fun l=>by
 unfold LG
 rw [zG]
 intro row hr
 obtain ⟨c,_,rfl⟩:=zN.1 hr; rfl
theorem AYF (ins:Ex→List Rng→Ex) (m:Mo) (x:Hl) (n:Nat) (H:Hp):IR n H 3 (cnV ins m x)=cnV ins m x:=by
 unfold cnV
 split <;> rfl
theorem AYG {ins:Ex→List Rng→Ex} {m:Mo} {x:Hl} (h:NU m x=false):cnV ins m x = .tup [.sl .nil 0 [],.int .i64 1]:=by
 have:cnE ins m x=1:=by unfold cnE; rw [if_neg (by rw [h]; decide)]
 unfold cnV
 rw [this]; rfl
theorem AYE {ins:Ex→List Rng→Ex} {m:Mo} {x:Hl} (h:NU m x=true) (hc:(cnL ins m x).flatten.all (fun e=>exE e == 0)=false):cnV ins m x = .tup [.sl .nil 0 [],.int .i64 2]:=by
 have:cnE ins m x=2:=by unfold cnE; rw [if_pos h,if_neg (by rw [hc]; decide)]
 unfold cnV
 rw [this]; rfl
theorem A1B {ins:Ex→List Rng→Ex} {m:Mo} {x:Hl} (h:NU m x=true) (hc:(cnL ins m x).flatten.all (fun e=>exE e == 0)=true):cnV ins m x = .tup [.sl .any 1 ((cnL ins m x).map UN),.int .i64 0]:=by
 have:cnE ins m x=0:=by unfold cnE; rw [if_pos h,if_pos hc]
 unfold cnV
 rw [this]; rfl
theorem AF8 {m:Mo} {x:Hl} (h:NU m x=true):G5 m=0:=by
 unfold NU at h
 rw [Bool.and_eq_true] at h
 simpa using h.1
section
variable (G:Nat→AV)
set_option maxHeartbeats 8000000 in
theorem AEB (hG:GOk G) (m:Mo) (hm:MoOk m) (x:Hl) (hn:x.bins.length≤1048576) (h:Hp):PCall (En G) 15 [.agg (D8 m),.agg (GG x)] h (cnV JU m x):=by
 refine ACalls.pure (R:=fun v H=>v=cnV JU m x∧Sm.ext h H) 3 ?_ (fun v H ⟨a,b⟩=>⟨b,by rw [a,AYF]⟩)
 refine NT (H:=hint [] [(36,[35])]) (enM G) Tryz.func15 rfl (by kernel_rfl) (by kernel_rfl) (jI (by kernel_rfl)) ?_
 show awp _ _ _ _ _ (EJ _ [.tmp 4,.tmp 5] _)
 have t:=Hb.mk' h m x
 simp -implicitDefEqProofs only [DJ,jJ,jQ,BC,A8,BA,AY,BB,AL,BD,AX,AC,AA,AZ,AU,BH,H9,A7,FD,BN,BU,BF,BP,↓reduceIte,jB,jA,jC,enP,jZ,GU,bxM,bxH]
 generalize h ++ [ABlk.live 2 [D8 m]] ++ [ABlk.live 3 [GG x]]=H at t ⊢
 generalize (h ++ [ABlk.live 2 [D8 m]]).length=hb at t ⊢
 simp -implicitDefEqProofs only [DJ,jJ,jQ,AY,AL,BD,AX,AC,AA,AZ,CB,BN,CG,BX,AB,jE,jD,jF,↓reduceIte,jB,jA,jC,enP,jZ,GU,ldM t.gm,ldH t.gh]
 refine (valid_prog G hG m hm x hn H).use ?_
 cases hv:NU m x
 ·simp -implicitDefEqProofs only [DJ,jJ,jQ,BC,A8,BK,BI,BA,CQ,J3,DT,AY,BB,AL,BD,AX,AC,AA,AZ,AU,BH,H9,A7,G7,AB,ES,↓reduceIte,jB,jA,jC,jZ,GU]
  exact ⟨by rw [AYG hv],t.hx⟩
 have h0:=AF8 hv
 have hL:=ZA hv
 obtain ⟨s,hp⟩:=AFB G m x hv H
 rw [hL.pts] at hp
 simp -implicitDefEqProofs only [DJ,jJ,jQ,BC,A8,BO,BI,BA,D5,AY,BB,AL,BD,AX,AC,AA,AZ,AU,CB,H9,A7,BN,G7,IG,CG,BX,AB,ES,jE,jD,jF,↓reduceIte,jB,jA,jU,jC,enP,jZ,GU,ldM t.gm,ldH t.gh]
 refine hp.use ?_
 have hcl:cnL JU m x=NF ((LU m x).map (cdQ JU m)):=rfl
 have hln:=hL.n4
 have hl1:=hL.n1
 have hev : ∀ q∈LU m x,(∀ r∈cdQ JU m q,r.length≤2∧∀ e∈r,WN e)∧1≤(cdQ JU m q).length∧(cdQ JU m q).length≤8:=fun q hq=>by
  obtain ⟨a,b⟩:=hL.ok q hq
  have hw:=(hm.pts _ (jP a)).ex
  exact ⟨AUY h0 a b fun l hl=>⟨(APG hw hl).1,(AY2 (APG hw hl)).1⟩,AYL h0 a b⟩
 generalize LU m x=L at hL hcl hln hl1 hev
 simp -implicitDefEqProofs only [DJ,jJ,jQ,BQ,BA,AY,BB,AL,BD,AX,AC,AA,AZ,AU,BH,BG,DU,AB,↓reduceIte,jA,jC,enP,JG,jZ,GU,jH]
 refine H7 0 (fun F H' => ∃ v,F 7=v∧Sm.ext H H'∧outG 1 UG H (L.map (cdQ JU m)) v H') (fun _ _=>False) ?_ ?_ (fun _ _ q=>q.elim)
 ·refine DL (fun n F H' => ∃ j v,n+j=L.length∧F 6 = .fn (.func 34) [] [.ptr h.length 0 0,.ptr hb 0 0]∧F 7=v∧F 20 = .sl s 1 ((L.map fun q=>((q.1:Nat):Int)).map Bins.qencI)∧F 21 = .int .i64 (L.length:Nat)∧F 22 = .int .i64 (j:Nat)∧Sm.ext H H'∧outG 1 UG H ((L.take j).map (cdQ JU m)) v H') L.length
   ⟨0,.sl .nil 0 [],by simp,by simp -implicitDefEqProofs only [AA,↓reduceIte,jB],by simp -implicitDefEqProofs only [AA,↓reduceIte,jB],by simp -implicitDefEqProofs only [AA,↓reduceIte,jB],by simp -implicitDefEqProofs only [AA,↓reduceIte,jB],by simp -implicitDefEqProofs only [AA,↓reduceIte] <;> rfl,ext.rfl' _,by rw [qN]; exact outG.nil _ _ _ _⟩ ?_
  rintro n F H' ⟨j,v,hj,f6,f7,f20,f21,f22,hx,ho⟩
  simp -implicitDefEqProofs only [DJ,jJ,jQ,BC,A8,BI,BA,AY,BB,AL,BD,AX,AC,AA,AZ,BR,AB,CW,↓reduceIte,jA,jC,enP,jZ,GU,f21,f22]
  refine CU (fun hc => ?_) (fun hc => ?_)
  ·have hj':j < L.length:=by simpa using hc
   have hj2:j < (L.map fun q=>((q.1:Nat):Int)).length:=by rw [jH]; exact hj'
   have hg:(L.map fun q=>((q.1:Nat):Int))[j]=((L[j].1:Nat):Int):=by simp
   have hlen:((L.take j).map (cdQ JU m)).length < 8388608:=by rw [jH,zJ]; omega
   obtain ⟨v',H2,ha,ho2,_,he2,_,_⟩:=ho.append (P:=Tryz.prog) A4Z A1X A4X A5U (by omega) hlen hx (cdQ JU m L[j])
   have ha':GI Tryz.prog true H' 73 73 v (.sl .full 1 [[.sl .any 1 ((cdQ JU m L[j]).map encX)]])=some (v',H2):=ha
   have hst:(L.take (j+1)).map (cdQ JU m)=(L.take j).map (cdQ JU m) ++ [cdQ JU m L[j]]:=by
    rw [zK hj',List.map_append]; rfl
   simp -implicitDefEqProofs only [DJ,jJ,jQ,BC,BQ,A8,BO,BA,AY,BB,AL,BD,AX,AC,AA,AZ,BG,A7,BN,BZ,CG,BX,AB,jE,jD,List.nil_append,List.cons_append,↓reduceIte,jB,jA,jC,enP,JB,jZ,GU,f6,f7,f20,f22,DF hj2,CX ag3 hj2,Cov.encI0,hg]
   refine (AM8 G m hm h0 x L hL j hj' h.length hb H' (FO hx t.gm) (FO hx t.gh)).use ?_
   simp -implicitDefEqProofs only [FU,FQ,DJ,jJ,jQ,A8,BA,EI,EP,AY,BB,AL,BD,AX,AC,AA,AZ,AU,BH,BG,A7,EK,BR,G8,BU,AB,DK,↓reduceIte,jB,jA,jC,enP,jZ,GU,f7,f22,A3L,ha',wrap_succ (show j < 9223372036854775807 by omega)]
   exact ⟨n - 1,by omega,j+1,v',by omega,by first | exact True.intro | exact f6,by first | exact True.intro | exact rfl,by first | exact True.intro | exact f20,by first | exact True.intro | exact f21,by first | exact True.intro | exact rfl,he2,by rw [hst]; exact ho2⟩
  ·have hj' : ¬ j < L.length:=by simpa using hc
   rw [jW (by omega)] at ho
   simp -implicitDefEqProofs only [DI,ED,KQ,EW,AA,↓reduceIte,jB]
   exact ⟨v,by first | exact True.intro | exact f7,hx,ho⟩
 rintro F H' ⟨v,f7,hx,ho⟩
 have hcl4:(L.map (cdQ JU m)).length≤4:=by rw [jH]; exact hln
 have hcl1:L.map (cdQ JU m)≠[]:=by intro q; have:=congrArg wK q; rw [jH,qF] at this; omega
 have hc8 : ∀ c∈L.map (cdQ JU m),c.length≤8:=fun c hc=>by
  obtain ⟨q,hq,rfl⟩:=zN.1 hc
  exact (hev q hq).2.2
 have hc2 : ∀ c∈L.map (cdQ JU m),∀ r∈c,r.length≤2:=fun c hc r hr=>by
  obtain ⟨q,hq,rfl⟩:=zN.1 hc
  exact ((hev q hq).1 r hr).1
 have hcw : ∀ c∈L.map (cdQ JU m),∀ r∈c,∀ e∈r,WN e:=fun c hc r hr=>by
  obtain ⟨q,hq,rfl⟩:=zN.1 hc
  exact ((hev q hq).1 r hr).2
 generalize L.map (cdQ JU m)=cs at ho hcl hcl4 hcl1 hc8 hc2 hcw
 clear hev hp
 obtain ⟨o,rfl,ho1,hob⟩ : ∃ o,v = .own o 0 cs.length∧H.length≤o∧H'[o]? = some (.live 1 (cs.map UG)):=by
  rcases ho with ⟨e1,_⟩ | ⟨_,o,h1,h2,h3⟩
  ·exact absurd e1 hcl1
  ·exact ⟨o,h2,h1,h3⟩
 have hz:=AJV (i:=35) (off:=0) (len:=cs.length) hob (by simp) (by rw [zM,jW (by simp)]; exact A25 cs)
 rw [zM,jW (by simp)] at hz
 have hx2:=hx.set ho1 .dead
 simp -implicitDefEqProofs only [DJ,jJ,jQ,BC,A8,BA,EU,AY,AL,BD,AX,AC,AA,AZ,CB,BG,CG,BX,jE,jD,jF,↓reduceIte,jA,jC,jZ,GU,f7,ACU,AL,hz]
 generalize H'.set o .dead=H2 at hx2 ⊢
 refine (AHL G cs .any (by omega) (fun c hc=>by have:=hc8 c hc; omega) hc2 H2).use ?_
 obtain ⟨ha1,ha2,ha3⟩:=AR0 hcl4 hc8 hc2
 have haw : ∀ e∈(NF cs).flatten,WN e:=fun e he=>by
  obtain ⟨r,hr,he⟩:=List.mem_flatten.1 he
  exact ANH hcw r hr e he
 rw [← hcl] at ha1 ha2 ha3 haw ⊢
 clear hcl
 simp -implicitDefEqProofs only [DJ,jJ,jQ,BC,A8,BA,AY,BB,AL,BD,AX,AC,AA,AZ,CB,BG,A7,CG,BX,jE,jD,jF,↓reduceIte,jA,jC,jZ,GU]
 refine (AKK G (cnL JU m x) .any (by omega) (by omega) H2).use ?_
 simp -implicitDefEqProofs only [DJ,jJ,jQ,BQ,BA,AY,BB,AL,BD,AX,AC,AA,AZ,AU,BH,BG,DU,AB,↓reduceIte,jA,jC,enP,VU,jZ,GU,jH]
 generalize hE:(cnL JU m x).flatten=E at ha3 haw ⊢
 have hok : ∀ b,E.all (fun e=>exE e == 0)=b→(cnL JU m x).flatten.all (fun e=>exE e == 0)=b:=fun b hb=>by rw [hE]; exact hb
 have hhx:=t.hx.trans hx2
 refine H7 2 (fun F H'=>F 10 = .sl .any 1 ((cnL JU m x).map UN)∧Sm.ext h H'∧E.all (fun e=>exE e == 0)=true) (fun F H'=>F 4 = .sl .nil 0 []∧F 5 = .int .i64 2∧Sm.ext h H'∧E.all (fun e=>exE e == 0)=false) ?_ ?_ ?_
 ·refine DL (fun n F H' => ∃ i,n+i=E.length∧F 10 = .sl .any 1 ((cnL JU m x).map UN)∧F 38 = .sl (Cov.nm E) 4 (E.map DC)∧F 39 = .int .i64 (E.length:Nat)∧F 40 = .int .i64 (i:Nat)∧Sm.ext h H'∧E.all (fun e=>exE e == 0)=(E.drop i).all (fun e=>exE e == 0)) E.length
   ⟨0,by simp,by simp -implicitDefEqProofs only [AA,↓reduceIte,jB],by simp -implicitDefEqProofs only [AA,↓reduceIte,jB],by simp -implicitDefEqProofs only [AA,↓reduceIte,jB],by simp -implicitDefEqProofs only [AA,↓reduceIte] <;> rfl,hhx,rfl⟩ ?_
  rintro n F H3 ⟨i,hi,f10,f38,f39,f40,hx3,hq⟩
  simp -implicitDefEqProofs only [DJ,jJ,jQ,BC,A8,BI,BA,AY,BB,AL,BD,AX,AC,AA,AZ,BR,AB,CW,↓reduceIte,jA,jC,enP,jZ,GU,f39,f40]
  refine CU (fun hc => ?_) (fun hc => ?_)
  ·have hi':i < E.length:=by simpa using hc
   rw [List.drop_eq_getElem_cons hi',List.all_cons] at hq
   simp -implicitDefEqProofs only [DJ,jJ,jQ,BC,BQ,A8,BO,BA,AY,BB,AL,BD,AX,AC,E8,AA,AZ,CB,FV,BN,EN,BZ,CG,BX,BU,AB,DW,jE,jD,jF,↓reduceIte,jB,jA,jC,enP,ZI,jT,jZ,GU,f38,f40,DF hi',FT XH MQ IX hi',ABB,AIB _ _ [.int .i64 0,.int .i64 0,.str ⟨#[]⟩,.sl .nil 0 []] rfl,ldE]
   refine (WA G hG E[i] _ (haw _ (jP hi'))).use ?_
   simp -implicitDefEqProofs only [DJ,jJ,jQ,BI,BA,AY,BB,AL,BD,AX,AC,AA,AZ,AU,BH,BR,AB,ET,↓reduceIte,jA,jC,enP,jZ,GU,bne]
   cases hz:(exE E[i] == 0)
   ·rw [hz,Bool.false_and] at hq
    simp -implicitDefEqProofs only [DJ,jJ,jQ,BC,A8,BK,BA,CQ,EE,MS,FK,DT,AY,BB,AL,BD,AX,AC,AA,AU,BH,H9,A7,↓reduceIte,jB,jA,jC,jZ,GU]
    exact ⟨by first | exact True.intro | exact rfl,by first | exact True.intro | exact rfl,hx3.app _,hq⟩
   ·rw [hz,Bool.true_and] at hq
    simp -implicitDefEqProofs only [DJ,jJ,jQ,A8,BO,BA,EI,EP,D5,AY,BB,AL,BD,AX,AC,AA,AZ,AU,BH,BG,BR,AB,DK,↓reduceIte,jB,jA,jU,jC,enP,jZ,GU,f40,wrap_succ (show i < 9223372036854775807 by omega)]
    exact ⟨n - 1,by omega,i+1,by omega,by first | exact True.intro | exact f10,by first | exact True.intro | exact f38,by first | exact True.intro | exact f39,by first | exact True.intro | exact rfl,hx3.app _,hq⟩
  ·have hi' : ¬ i < E.length:=by simpa using hc
   rw [List.drop_eq_nil_of_le (by omega)] at hq
   simp -implicitDefEqProofs only [DI,ED,KQ,EW,AA,↓reduceIte,jB]
   exact ⟨by first | exact True.intro | exact f10,hx3,hq⟩
 ·rintro F H3 ⟨f10,hx3,hq⟩
  simp -implicitDefEqProofs only [DJ,jJ,jQ,BC,A8,BK,BA,EU,J3,AY,BB,AL,BD,AX,AC,AA,AZ,AU,BH,BG,A7,↓reduceIte,jB,jA,jC,jZ,GU,f10]
  exact ⟨by rw [A1B hv (hok _ hq)],hx3⟩
 ·rintro F H3 ⟨f4,f5,hx3,hq⟩
  simp -implicitDefEqProofs only [CQ,EE,J3,f4,f5]
  exact ⟨by rw [AYE hv (hok _ hq)],hx3⟩
end
end Go.Proofs.YtfpagfhhhlljjaaGreatDoor.Ho
