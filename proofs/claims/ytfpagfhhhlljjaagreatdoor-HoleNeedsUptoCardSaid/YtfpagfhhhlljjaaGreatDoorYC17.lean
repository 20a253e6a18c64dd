/- Part 17 of the proof (O25, O26, O27, O29, O30, O31, O32, O33, O34, O35, O42, O46); no condition. -/
import Derived.Test.YtfpagfhhhlljjaaGreatDoorYC16
set_option linter.unusedVariables false
namespace Go.Proofs.YtfpagfhhhlljjaaGreatDoor.Ho
open Sm Bins Cov Go.RowKit
open List renaming foldl_cons→wF,length_map→jI,getElem?_map→jX,getElem?_set→zB,getElem?_eq_getElem→jL
def FV (e:Ex) (l:List Rng):Ex:=PU e (normal l)
def notE (e:Ex):Ex := .mk 4 0 ⟨#[]⟩ .full [e]
def F8 (b:Bin):List Rs:=if b.ranges.l = [] then b.steps else [b.ranges]
def AUR (x:Option Ex) (c:List (List Ex)):List (List Ex):=match x with
 | none=>c
 | some y=>c.set (c.length - 1) (c[c.length - 1]?.getD [] ++ [notE y])
def badO (ins:Ex→List Rng→Ex) (p:Pt):Option Ex:=if J6 p.bins = [] then none else some (ins p.ex (J6 p.bins))
def QK (ins:Ex→List Rng→Ex) (p:Pt) (b:Bin):List (List Ex):=AUR (badO ins p) ((F8 b).map fun s => [ins p.ex s.l])
def MZ (cs:List (List (List Ex))):Nat:=cs.foldl (fun n c=>max n c.length) 0
def rowC (n t:Nat) (c:List (List Ex)):List Ex:=if n - c.length≤t then c[t - (n - c.length)]?.getD [] else []
def rowA (n:Nat) (cs:List (List (List Ex))) (t:Nat):List Ex:=cs.flatMap (rowC n t)
def JZ (cs:List (List (List Ex))):List (List Ex):=(List.range (MZ cs)).map (rowA (MZ cs) cs)
theorem APY : ∀ (cs:List (List (List Ex))) (a:Nat),a≤cs.foldl (fun n c=>max n c.length) a∧∀ c∈cs,c.length≤cs.foldl (fun n c=>max n c.length) a
 | [],a=>⟨Nat.le_refl _,fun c hc=>by cases hc⟩
 | x :: cs,a=>by
   obtain ⟨h1,h2⟩:=APY cs (max a x.length)
   rw [wF]
   refine ⟨by omega,fun c hc => ?_⟩
   rcases List.mem_cons.1 hc with rfl | hc
   ·omega
   ·exact h2 c hc
theorem XV {cs:List (List (List Ex))} {c:List (List Ex)} (h:c∈cs):c.length≤MZ cs:=(APY cs 0).2 c h
theorem TI : ∀ (cs:List (List (List Ex))) (a b:Nat),a≤b→(∀ c∈cs,c.length≤b)→cs.foldl (fun n c=>max n c.length) a≤b
 | [],_,_,h,_=>h
 | x :: cs,a,b,h,h2=>by
   rw [wF]
   exact TI cs _ b (by have:=h2 x (by simp); omega) fun c hc=>h2 c (by simp [hc])
theorem ARQ (cs:List (List (List Ex))) (k:Nat) (hk:k < cs.length):MZ (cs.take (k+1))=max (MZ (cs.take k)) cs[k].length:=by
 unfold MZ
 rw [List.take_succ_eq_append_getElem hk,List.foldl_append]; rfl
theorem AJT (x:Option Ex) (c:List (List Ex)):(AUR x c).length=c.length:=by cases x <;> simp [AUR]
def encX (l:List Ex):List AV:=AAP ⟨.any,l⟩
def rowF (x:Ex):List AV := [.sl .full 4 [CY x]]
def LJ (X:List Ex):Ex:=X[X.length - 1]?.getD (cE 0)
def AI5 (X:List Ex):Option Ex→List (List AV)
 | none=>X.map rowF
 | some y=>(X.map rowF).set (X.length - 1) [.sl .any 4 [CY (LJ X),CY (notE y)]]
theorem AQ1 (X:List Ex) (y:Option Ex):(AI5 X y).length=X.length:=by cases y <;> simp [AI5]
theorem APE (x:Ex):CvRow (rowF x) (encX [x]):=CvRow.cons rfl (Cv.any (by simp) 4 _) CvRow.nil
theorem AT3 (X:List Ex) (y:Option Ex):Cv (.sl .any 1 (AI5 X y)) (.sl .any 1 ((AUR y (X.map fun x => [x])).map encX)):=by
 refine Cv.rows (by rw [jI,AJT,jI,AQ1]) fun i r r' h1 h2 => ?_
 cases y with
 | none =>
   change ((X.map fun x => [x]).map encX)[i]? = some r' at h2
   change (X.map rowF)[i]? = some r at h1
   rw [List.map_map,jX] at h2
   rw [jX] at h1
   cases hx:X[i]? with
   | none=>rw [hx] at h1; cases h1
   | some x =>
     rw [hx] at h1 h2
     cases h1; cases h2
     exact APE x
 | some y =>
   change (((X.map fun x => [x]).set ((X.map fun x => [x]).length - 1) ((X.map fun x => [x])[(X.map fun x => [x]).length - 1]?.getD [] ++ [notE y])).map encX)[i]? = some r' at h2
   change ((X.map rowF).set (X.length - 1) [.sl .any 4 [CY (LJ X),CY (notE y)]])[i]? = some r at h1
   have hi:i < X.length:=by have:=CE h1; simpa using this
   rw [zB] at h1
   rw [jX,zB] at h2
   by_cases e:X.length - 1=i
   ·have hl:(X.map fun x => [x])[X.length - 1]?.getD [] = [LJ X]:=by
     unfold LJ
     rw [jX,jL (by omega)]; rfl
    rw [if_pos e,if_pos (by simpa using by omega)] at h1
    rw [jI,if_pos e,if_pos (by omega),hl] at h2
    cases h1; cases h2
    exact CvRow.cons rfl (Cv.refl _) CvRow.nil
   ·rw [if_neg e] at h1
    rw [jI,if_neg e,jX] at h2
    rw [jX,jL hi] at h1
    rw [jL hi] at h2
    cases h1; cases h2
    exact APE _
theorem ART {X:List Ex} (h:X≠[]):X[X.length - 1]? = some (LJ X):=by
 have:0 < X.length:=List.length_pos_iff.2 h
 unfold LJ
 rw [jL (by omega)]; rfl
theorem AP3:Frz rowF:=fun _ _ _ _=>⟨rfl,rfl⟩
theorem ASF {n:Nat} {H:Hp} {ob nb:Nat} {X:List Ex} {y:Ex} (h1:n≤ob) (h2:n≤nb) (_:X≠[]) (g:H[ob]? = some (.live 1 ((X.map rowF).set (X.length - 1) [.own nb 0 2])))
  (gn:H[nb]? = some (.live 4 [CY (LJ X),CY (notE y)])):IG n H 4 (.own ob 0 X.length) = .sl .any 1 (AI5 X (some y)):=by
 have e2:IG n H 3 (.own nb 0 2) = .sl .any 4 [CY (LJ X),CY (notE y)]:=frz_own (f:=CY) (xs := [LJ X,notE y]) (d:=1) AP4 h2 gn
 rw [Cov.frzF_own n H 3 ob 0 X.length 1 _ (by omega) g,List.drop_zero,List.take_of_length_le (by simp),List.map_set,List.map_cons,List.map_nil,e2,frz_rows AP3 n H 2 X]
 rw [if_pos]
 ·rfl
 refine ⟨by simp,?_⟩
 rw [List.all_eq_true]
 intro row hr
 rcases List.mem_or_eq_of_mem_set hr with hr | rfl
 ·obtain ⟨x,_,rfl⟩:=List.mem_map.1 hr; rfl
 ·rfl
end Go.Proofs.YtfpagfhhhlljjaaGreatDoor.Ho
set_option linter.unusedSimpArgs false
set_option maxRecDepth 8000
namespace Go.Proofs.YtfpagfhhhlljjaaGreatDoor.Ho
open Sm Bins Cov Go.RowKit
open Bool renaming or_false→jR,not_false→jB,false_eq_true→zA,not_true→jV
open List renaming drop_zero→zO,map_map→wI,contains_cons→jS,contains_nil→jJ,length_map→jI,take_zero→qO,length_take→qB,take_succ_eq_append_getElem→zN,map_append→yC,map_cons→jE,map_nil→jD,append_nil→jF,getElem_mem→jO,take_of_length_le→jW,getElem?_map→jX,length_cons→zW,length_nil→qE,range→zU,getElem?_set_ne→zT,all_eq_true→zF,mem_map→zJ,mem_of_getElem?→qA,length_append→zZ,getElem?_eq_getElem→jL,any_eq_true→qC,mem_singleton→wG,mem_append→zY,mem_cons→qI,length→wR,getElem_of_mem→qH
open Nat renaming le_refl→jK,le_of_ble_eq_true→jH,reduceBEq→jP,reduceEqDiff→jC,zero_add→jG,reduceAdd→jQ,zero_le→qV
open Option renaming getD_some→jA,getD_none→jT
structure BdB (p:Pt) (b:Bin):Prop where
 hs:F8 b≠[]
 hl:(F8 b).length≤1048576
 hr : ∀ s∈F8 b,s.l.length≤1048576
 hb:(J6 p.bins).length≤1048576
 hn:p.bins.length≤1048576
 hw:wt p.ex≤1048576
theorem A8F (h:Hp) (m:SM) (xs:List (List AV)):EN Tryz.prog false h 54 1 [(0,.sl m 2 xs)]=some (.sl .full 1 [[.sl m 2 xs]],h):=by kernel_rfl
theorem A3I (h:Hp) (a b:Int) (s:ByteArray) (m:SM) (xs:List (List AV)):EN Tryz.prog false h 46 1 [(0,.agg [.int .i64 a,.int .i64 b,.str s,.sl m 4 xs])]=some (.sl .full 4 [[.int .i64 a,.int .i64 b,.str s,.sl m 4 xs]],h):=by kernel_rfl
theorem A1R (h:Hp) (e:Ex):EN Tryz.prog false h 46 1 [(0,.agg (CY e))]=some (.sl .full 4 [CY e],h):=by
 rw [II]; exact A3I h _ _ _ _ _
theorem A56 (h:Hp) (m:SM) (xs:List (List AV)):EN Tryz.prog false h 33 1 [(0,.sl m 4 xs)]=some (.sl .full 1 [[.sl m 4 xs]],h):=by kernel_rfl
theorem A6F (xs:List (List AV)):KW Tryz.prog 48 [(0,.int .i64 4),(3,.sl .full 4 xs)]=some (.agg [.int .i64 4,.int .i64 0,.str ⟨#[]⟩,.sl .full 4 xs]):=by kernel_rfl
theorem AUL (e:Ex):CY (notE e) = [.int .i64 4,.int .i64 0,.str ⟨#[]⟩,.sl .full 4 [CY e]]:=by rw [II]; rfl
theorem A40 {H:Hp} {b:Nat} {x:Bin} (hb:H[b]? = some (.live 4 [GV x])):DX Tryz.prog H 54 (.ptr b 0 3)=some (.sl x.sm 1 (x.steps.map encS)):=by
 rw [DJ AOI hb (row:=GV x) rfl,ADG]
theorem A7R {H:Hp} {b:Nat} {p:Pt} (hb:H[b]? = some (.live 6 [F9 p])):DX Tryz.prog H 51 (.ptr b 0 0)=some (.agg (F9 p)):=by
 rw [G8 AEV AAY hb rfl (by rw [I7]; exact jK 6),zO,← I7 p,List.take_length]
theorem AQX {b:Bin} (h:b.ranges.l = []):F8 b=b.steps:=by unfold F8; rw [if_pos h]
theorem AMN {b:Bin} (h:b.ranges.l≠[]):F8 b = [b.ranges]:=by unfold F8; rw [if_neg h]
section
variable (G:Nat→AV)
set_option maxHeartbeats 8000000 in
theorem ADM (p:Pt) (k:Nat) (hk:k < p.bins.length) (B:BdB p p.bins[k]) (h:Hp):PCall (En G) 35 [.agg (F9 p),.int .i64 (k:Nat)] h (.sl .any 1 ((QK FV p p.bins[k]).map encX)):=by
 have hcv:=AT3 ((F8 p.bins[k]).map fun s=>FV p.ex s.l) (badO FV p)
 have hcl:(((F8 p.bins[k]).map fun s=>FV p.ex s.l).map fun x => [x])=(F8 p.bins[k]).map fun s => [FV p.ex s.l]:=by rw [wI]; rfl
 rw [hcl] at hcv
 refine PCall.res ?_ (CvR.sl hcv)
 clear hcv hcl
 refine ACalls.pure (R:=fun v H=>Sm.ext h H∧IG h.length H 4 v = .sl .any 1 (AI5 ((F8 p.bins[k]).map fun s=>FV p.ex s.l) (badO FV p))) 4 ?_ (fun v H ⟨a,b⟩=>⟨a,b⟩)
 have hb1:=B.hs; have hb2:=B.hl; have hb3:=B.hr; have hb4:=B.hb; have hb5:=B.hn; have hb6:=B.hw
 refine NY (H:=hint [61] []) (enM G) Tryz.func35 rfl (by kernel_rfl) (by kernel_rfl) (jH (by kernel_rfl)) ?_
 show awp _ _ _ _ _ (D8 _ [.tmp 4] _)
 have gp:=CU (x:=ABlk.live 4 [GV p.bins[k]]) (CW h (ABlk.live 6 [F9 p]))
 have gb:=CW (h ++ [ABlk.live 6 [F9 p]]) (ABlk.live 4 [GV p.bins[k]])
 have hx:Sm.ext h (h ++ [ABlk.live 6 [F9 p]] ++ [ABlk.live 4 [GV p.bins[k]]]):=((ext.rfl' h).app _).app _
 simp -implicitDefEqProofs only [DC,jS,jJ,jP,jR,BC,BA,A8,AY,BB,AL,BD,AX,AC,ES,AA,AZ,AU,GZ,BG,A7,FO,FM,BX,EI,BN,CG,CB,AB,DT,BF,BL,↓reduceIte,jC,jG,jA,jB,enP,ZC,KU,WU,D5,jT,A5Y,AM5 (CW h (ABlk.live 6 [F9 p])),D7 hk,FP AEU YY MI hk,AXA,AX8 _ _ [.str ⟨#[]⟩,.int .i64 0,.sl .nil 0 [],.sl .nil 0 []] rfl]
 generalize h ++ [ABlk.live 6 [F9 p]] ++ [ABlk.live 4 [GV p.bins[k]]]=H0 at gp gb hx ⊢
 generalize (h ++ [ABlk.live 6 [F9 p]]).length=b5 at gb ⊢
 generalize p.bins[k]=b at gb hb1 hb2 hb3 ⊢
 simp -implicitDefEqProofs only [DC,jS,jJ,jP,jR,BC,BA,BI,A8,AY,BB,AL,BD,AX,AC,AA,AZ,AU,BH,A7,BX,BQ,BN,D6,AB,FD,↓reduceIte,jC,jG,jA,jB,enP,RJ,TL,D5,A40 gb,AU3 gb,jI]
 refine SG (fun F H => ∃ s,F 2 = .ptr h.length 0 0∧F 6 = .sl s 1 ((F8 b).map encS)∧H=H0) (fun _ _=>False) (fun hc => ?_) (fun hc => ?_) ?_ (fun _ _ q=>q.elim)
 ·have hne:b.ranges.l≠[]:=by
   intro q
   rw [q] at hc; exact absurd hc (by decide)
  simp -implicitDefEqProofs only [FK,FH,DC,jS,jJ,jP,jR,BA,QC,AY,BB,AL,BD,AX,AC,AA,AZ,A7,EC,BX,BN,CB,AB,↓reduceIte,jC,jG,jA,jB,enP,TL,D5,AU3 gb,A8F]
  exact ⟨_,by first | exact True.intro | exact rfl,by rw [AMN hne]; exact rfl,by first | exact True.intro | exact rfl⟩
 ·have he:b.ranges.l = []:=by
   have:=of_decide_eq_false hc
   exact List.length_eq_zero_iff.1 (by omega)
  simp -implicitDefEqProofs only [BR,QC,AA,↓reduceIte,jC]
  exact ⟨_,by first | exact True.intro | exact rfl,by rw [AQX he],by first | exact True.intro | exact rfl⟩
 rintro F H ⟨s,f2,f6,rfl⟩
 generalize F8 b=S at f6 hb1 hb2 hb3 ⊢
 simp -implicitDefEqProofs only [DC,jS,jJ,jP,jR,BC,BP,BA,A8,AY,BB,AL,BD,AX,AC,AA,AZ,AU,BH,GZ,BG,A7,D6,AB,↓reduceIte,jC,jA,jB,enP,AJY,D5,f6,jI]
 refine JA 0 (fun F H' => ∃ v,F 2 = .ptr h.length 0 0∧F 7=v∧Sm.ext H H'∧outG 1 rowF H (S.map fun s=>FV p.ex s.l) v H') (fun _ _=>False) ?_ ?_ (fun _ _ q=>q.elim)
 ·refine DY (fun n F H' => ∃ i v,n+i=S.length∧F 2 = .ptr h.length 0 0∧F 7=v∧F 26 = .sl s 1 (S.map encS)∧F 27 = .int .i64 (S.length:Nat)∧F 28 = .int .i64 (i:Nat)∧Sm.ext H H'∧outG 1 rowF H ((S.take i).map fun s=>FV p.ex s.l) v H') S.length
   ⟨0,.sl .nil 0 [],by simp,by simp -implicitDefEqProofs only [AA,↓reduceIte,jC,f2],by simp -implicitDefEqProofs only [AA,↓reduceIte,jC],by simp -implicitDefEqProofs only [AA,↓reduceIte,jC,f6],by simp -implicitDefEqProofs only [AA,↓reduceIte,jC],by simp -implicitDefEqProofs only [AA,↓reduceIte] <;> rfl,ext.rfl' _,by rw [qO]; exact outG.nil _ _ _ _⟩ ?_
  clear f2 f6
  rintro n F H' ⟨i,v,hi,f2,f7,f26,f27,f28,hxH,ho⟩
  simp -implicitDefEqProofs only [DC,jS,jJ,jP,jR,BC,BA,BI,A8,AY,BB,AL,BD,AX,AC,AA,AZ,BQ,AB,C9,↓reduceIte,jA,jB,enP,D5,f27,f28]
  refine CV (fun hc => ?_) (fun hc => ?_)
  ·have hi':i < S.length:=by simpa using hc
   have gp':=E8 hxH gp
   have hlen:((S.take i).map fun s=>FV p.ex s.l).length < 8388608:=by rw [jI,qB]; omega
   obtain ⟨v',H2,ha,ho2,_,he2,_,_⟩:=ho.append (P:=Tryz.prog) A3Y ATP A7F A5X (by omega) hlen hxH (FV p.ex S[i].l)
   have ha':FZ Tryz.prog true H' 33 33 v (.sl .full 1 [[.sl .full 4 [CY (FV p.ex S[i].l)]]])=some (v',H2):=ha
   have hst:(S.take (i+1)).map (fun s=>FV p.ex s.l)=(S.take i).map (fun s=>FV p.ex s.l) ++ [FV p.ex S[i].l]:=by
    rw [zN hi',yC]; rfl
   simp -implicitDefEqProofs only [DC,jS,jJ,jP,jR,BC,BP,BA,BR,A8,AY,BB,AL,BD,AX,AC,AA,AZ,BU,BG,A7,BX,BN,CG,BZ,BO,AB,jE,jD,jF,↓reduceIte,jC,jG,jA,jB,enP,AC8,AVD,D5,f2,f7,f26,f28,D7 hi',DZ YR hi',AKY,AU0 gp']
   have hin:PCall (En G) 65 [.agg (CY p.ex),.sl S[i].m 2 (S[i].l.map encR)] H' (.agg (CY (FV p.ex S[i].l))):=inside_prog G p.ex S[i].l S[i].m (hb3 _ (jO hi')) hb6 H'
   refine hin.use ?_
   simp -implicitDefEqProofs only [FK,FH,DC,jS,jJ,jP,jR,BA,A8,EH,ER,AY,BB,AL,BD,AX,AC,AA,AZ,AU,BH,BG,A7,EC,BQ,GL,CB,AB,DK,↓reduceIte,jC,jA,jB,enP,D5,f7,f28,A1R,A56,ha',wrap_succ (show i < 9223372036854775807 by omega)]
   exact ⟨n - 1,by omega,i+1,v',by omega,by first | exact True.intro | exact f2,by first | exact True.intro | exact rfl,by first | exact True.intro | exact f26,by first | exact True.intro | exact f27,by first | exact True.intro | exact rfl,he2,by rw [hst]; exact ho2⟩
  ·have hi' : ¬ i < S.length:=by simpa using hc
   rw [jW (by omega)] at ho
   simp -implicitDefEqProofs only [DW,EG,NG,EZ,AA,↓reduceIte,jC]
   exact ⟨v,by first | exact True.intro | exact f2,by first | exact True.intro | exact f7,hxH,ho⟩
 rintro F H' ⟨v,f2,f7,hxH,ho⟩
 clear f6
 have gp':=E8 hxH gp
 simp -implicitDefEqProofs only [DC,jS,jJ,jP,jR,BC,BA,A8,EY,AY,AL,BD,AX,AC,AA,AZ,BU,BX,BZ,BO,AB,jE,jD,jF,↓reduceIte,jA,jB,enP,D5,f2,A7R gp']
 refine (AWY G p hb5 hb4 H').use ?_
 simp -implicitDefEqProofs only [DC,jS,jJ,jP,jR,BC,BA,BI,A8,AY,BB,AL,BD,AX,AC,AA,AZ,AU,BH,BG,A7,BQ,D6,AB,FD,↓reduceIte,jA,jB,enP,RJ,D5,jI]
 have hSl:0 < S.length:=List.length_pos_iff.2 hb1
 obtain ⟨ob,rfl,hob1,hob⟩ : ∃ ob,v = .own ob 0 S.length∧H.length≤ob∧H'[ob]? = some (.live 1 ((S.map fun s=>FV p.ex s.l).map rowF)):=by
  rcases ho with ⟨e1,_⟩ | ⟨_,o,h1,h2,h3⟩
  ·exact absurd (by simpa using e1) hb1
  ·exact ⟨o,by rw [h2,jI],h1,h3⟩
 have hXl:(S.map fun s=>FV p.ex s.l).length=S.length:=by simp
 have hX0:(S.map fun s=>FV p.ex s.l)≠[]:=by simpa using hb1
 have hhx:=hx.trans hxH
 have hl0:=hx.le
 generalize (S.map fun s=>FV p.ex s.l)=X at hob hXl hX0 ⊢
 refine CV (fun hc => ?_) (fun hc => ?_)
 ·have hbad:J6 p.bins≠[]:=by
   intro q
   rw [q] at hc; exact absurd hc (by decide)
  have hbo:badO FV p=some (FV p.ex (J6 p.bins)):=by unfold badO; rw [if_neg hbad]
  rw [hbo]
  have hw1:IntKind.i64.wrap (((S.length:Nat):Int) - 1)=((S.length - 1:Nat):Int):=by rw [wrap_i64 (by omega) (by omega)]; omega
  have hin:PCall (En G) 65 [.agg (CY p.ex),.sl (Cov.nm (J6 p.bins)) 2 ((J6 p.bins).map encR)] H' (.agg (CY (FV p.ex (J6 p.bins)))):=inside_prog G p.ex (J6 p.bins) (Cov.nm (J6 p.bins)) hb4 hb6 H'
  generalize FV p.ex (J6 p.bins)=y at hin ⊢
  have hlast:(X.map rowF)[S.length - 1]? = some (rowF (LJ X)):=by
   rw [jX,← hXl,ART hX0]; rfl
  have i1:JG 1 H' (.own ob 0 S.length) (.int .i64 ((S.length - 1:Nat):Int))=some (.ptr ob (S.length - 1) 0):=by rw [I5 hob (by omega),jG]
  have d1:DX Tryz.prog H' 46 (.ptr ob (S.length - 1) 0)=some (.sl .full 4 [CY (LJ X)]):=by rw [DJ RQ hob hlast]; rfl
  have ha:FZ Tryz.prog true H' 46 46 (.sl .full 4 [CY (LJ X)]) (.sl .full 4 [MP])=some (.own H'.length 0 2,H' ++ [.live 4 ([CY (LJ X)] ++ [MP])]) :=
   SN AEA MM AMB AN8 (IM H' .full 4 [MP]) (by simp) (IX (by simp) (by omega))
  have gN:=CW H' (ABlk.live 4 ([CY (LJ X)] ++ [MP]))
  have gO:=CU (x:=ABlk.live 4 ([CY (LJ X)] ++ [MP])) hob
  have lob:=CE hob
  have i2:JG 4 (H' ++ [ABlk.live 4 ([CY (LJ X)] ++ [MP])]) (.own H'.length 0 2) (.int .i64 ((1:Nat):Int))=some (.ptr H'.length 1 0):=I5 (n:=1) gN (by decide)
  have i3:JG 1 (H' ++ [ABlk.live 4 ([CY (LJ X)] ++ [MP])]) (.own ob 0 S.length) (.int .i64 ((S.length - 1:Nat):Int))=some (.ptr ob (S.length - 1) 0):=by rw [I5 gO (by omega),jG]
  have hHx:=hhx.app [ABlk.live 4 ([CY (LJ X)] ++ [MP])]
  generalize H' ++ [ABlk.live 4 ([CY (LJ X)] ++ [MP])]=H2 at gN gO i2 i3 ha hHx
  generalize hnb:H'.length=nb at gN i2 ha lob
  have hsN : ∀ Hq:Hp,Hq[nb]? = some (.live 4 ([CY (LJ X)] ++ [MP]))→FB Tryz.prog Hq 48 (.ptr nb 1 0) (.agg [.int .i64 4,.int .i64 0,.str ⟨#[]⟩,.sl .full 4 [CY y]])=some (Hq.set nb (.live 4 [CY (LJ X),CY (notE y)])):=fun Hq hq=>by
   rw [JC (i:=1) (PN rfl) MM hq rfl (jK 4),AUL]; rfl
  have hsO : ∀ Hq:Hp,Hq[ob]? = some (.live 1 (X.map rowF))→FB Tryz.prog Hq 46 (.ptr ob (S.length - 1) 0) (.own nb 0 2)=some (Hq.set ob (.live 1 ((X.map rowF).set (X.length - 1) [.own nb 0 2]))):=fun Hq hq=>by
   rw [JC (cs := [.own nb 0 2]) rfl ATP hq hlast (by exact jK 1),hXl]; rfl
  have q1:=hsN H2 gN
  have q2:=hsO (H2.set nb (.live 4 [CY (LJ X),CY (notE y)])) (DU gO (by omega))
  have q3:=hsO H2 gO
  have q4:=hsN (H2.set ob (.live 1 ((X.map rowF).set (X.length - 1) [.own nb 0 2]))) (DU gN (by omega))
  rw [List.set_comm _ _ (show ob≠nb by omega)] at q4
  clear hsN hsO
  have gF1:((H2.set nb (.live 4 [CY (LJ X),CY (notE y)])).set ob (.live 1 ((X.map rowF).set (X.length - 1) [.own nb 0 2])))[ob]? = some (.live 1 ((X.map rowF).set (X.length - 1) [.own nb 0 2])):=EJ (DU gO (by omega))
  have gF2:((H2.set nb (.live 4 [CY (LJ X),CY (notE y)])).set ob (.live 1 ((X.map rowF).set (X.length - 1) [.own nb 0 2])))[nb]? = some (.live 4 [CY (LJ X),CY (notE y)]):=DU (EJ gN) (by omega)
  have hF:=(hHx.set (show h.length≤nb by omega) (.live 4 [CY (LJ X),CY (notE y)])).set (show h.length≤ob by omega) (.live 1 ((X.map rowF).set (X.length - 1) [.own nb 0 2]))
  have hfz:=ASF (n:=h.length) (y:=y) (by omega) (by omega) hX0 gF1 gF2
  simp -implicitDefEqProofs only [DC,jS,jJ,jP,jR,BC,BA,A8,AY,BB,AL,BD,AX,AC,AA,AZ,AU,BH,BG,A7,BQ,D6,AB,JK,↓reduceIte,jC,jA,jB,enP,D5,f7,ACI.2,hw1]
  refine ALP [] [0,1,2,3,4,5,6,7,8,9,10,11,12,13,15] 14 16 [] (by kernel_rfl) trivial ?_
  simp only [OE,List.getElem?_cons_succ,List.getElem?_cons_zero]
  simp -implicitDefEqProofs only [G5,FK,FH,DC,jS,jJ,jP,jR,EM,D9,EQ,GH,I8,FT,NF,EX,EU,H6,GN,AA,AZ,BU,EC,BX,EI,BN,CG,AB,jE,jD,jF,↓reduceIte,jC,jQ,jG,jA,enP,AJ1,AC8,jT,f2,f7,i1,d1,AU0 gp']
  refine ⟨_,hin,?_⟩
  try simp -implicitDefEqProofs only [G5,FK,FH,DC,jS,jJ,jP,jR,EM,D9,OM,FU,EQ,AA6,I8,NF,EU,JM,BC,BA,BJ,A8,CJ,AY,BB,AL,BD,AX,AC,AA,AZ,AU,BH,BG,A7,KY,EC,EI,CG,D6,GL,CB,AB,DT,↓reduceIte,jC,jQ,jG,jA,jB,enP,AJ1,WP,TW,D5,jT,A1R,A6F,A6O,A1Q,ha,i2,i3,zW,qE,q1,q2,q3,q4]
  rw [f7,← hXl,hfz]
  exact ⟨⟨hF,rfl⟩,hF,rfl⟩
 ·have hbad:J6 p.bins = []:=by
   have:=of_decide_eq_false hc
   exact List.length_eq_zero_iff.1 (by omega)
  have hbo:badO FV p=none:=by unfold badO; rw [if_pos hbad]
  rw [hbo]
  simp -implicitDefEqProofs only [DC,jS,jJ,jP,jR,BC,BA,BR,BJ,A8,CJ,AY,BB,AL,BD,AX,AC,AA,AZ,BG,A7,↓reduceIte,jC,jA,jB,D5,f7]
  refine ⟨hhx,?_⟩
  have:=frz_own (d:=2) AP3 (n:=h.length) (show h.length≤ob by omega) hob
  rw [hXl] at this
  exact this
end
def SC (l:List Ex):List AV:=AAP ⟨Cov.nm l,l⟩
def TT (c:List (List Ex)):List AV := [.sl .any 1 (c.map encX)]
theorem AV5 (c:List (List Ex)):(TT c)[0]? = some (.sl .any 1 (c.map encX)):=rfl
theorem A5N (l:List Ex):(encX l)[0]? = some (.sl .any 4 (l.map CY)):=rfl
structure OL (n0:Nat) (H:Hp) (ob n:Nat) (v:Nat→AV) (X:Nat→List Ex):Prop where
 gob:H[ob]? = some (.live 1 ((zU n).map fun t => [v t]))
 lo:n0≤ob
 each : ∀ t,t < n→(X t = []∧v t = .sl .nil 0 [])∨(X t≠[]∧∃ o,n0≤o∧v t = .own o 0 (X t).length∧H[o]? = some (.live 4 ((X t).map CY)))
 ap : ∀ t u b,t < n→u < n→isB (v t) b→isB (v u) b→t=u
 ne : ∀ t b,t < n→isB (v t) b→b≠ob
def XJ {α:Type} (f:Nat→α) (a:Nat) (x:α) (t:Nat):α:=if t=a then x else f t
theorem ARC {v:Nat→AV} {n a:Nat} {x:AV} (_ha:a < n):((zU n).map fun t => [v t]).set a [x]=(zU n).map fun t => [XJ v a x t]:=by
 apply List.ext_getElem
 ·simp
 intro i h1 h2
 rw [List.getElem_set]
 simp only [List.getElem_map,List.getElem_range,XJ]
 by_cases e:a=i
 ·rw [if_pos e,if_pos e.symm]
 ·rw [if_neg e,if_neg (Ne.symm e)]
theorem Y6 {n0:Nat} {h H:Hp} {X:List Ex} {v:AV} (hl:n0=h.length):((X = []∧v = .sl .nil 0 [])∨(X≠[]∧∃ o,n0≤o∧v = .own o 0 X.length∧H[o]? = some (.live 4 (X.map CY))))↔outG 4 CY h X v H:=by subst hl; exact Iff.rfl
theorem OL.app {h H:Hp} {ob n a:Nat} {v:Nat→AV} {X:Nat→List Ex} (O:OL h.length H ob n v X) (ha:a < n) (hx:ext h H) (s:SM) (ys:List Ex) (hl:(X a).length+ys.length≤8388608) :
  ∃ v' H',FZ Tryz.prog true H 46 46 (v a) (.sl s 4 (ys.map CY))=some (v',H')∧H'[ob]? = some (.live 1 ((zU n).map fun t => [v t]))∧IW v'=some [v'] ∧
    OL h.length (H'.set ob (.live 1 ((zU n).map fun t => [XJ v a v' t]))) ob n (XJ v a v') (XJ X a (X a ++ ys))∧ext h (H'.set ob (.live 1 ((zU n).map fun t => [XJ v a v' t]))):=by
 obtain ⟨v',H',h1,h2,h3,h4,h5,h6⟩:=Y7 (P:=Tryz.prog) s ((Y6 rfl).1 (O.each a ha)) AEA MM AMB AN8 (by omega) (ys:=ys) hl hx
 have lob:=CE O.gob
 have g1:=h3 _ _ O.gob (fun q=>O.ne a _ ha q rfl)
 have hlt : ∀ t b,t < n→isB (v t) b→b < H.length:=fun t b ht hb=>((Y6 rfl).1 (O.each t ht)).lt hb |>.2
 have hne' : ∀ b,isB v' b→b≠ob:=fun b hb=>by
  rcases h6 b hb with q | q
  ·exact O.ne a b ha q
  ·omega
 have hac:IW v'=some [v']:=by
  rcases h2 with ⟨_,rfl⟩ | ⟨_,o,_,rfl,_⟩ <;> rfl
 refine ⟨v',H',h1,g1,hac,⟨EJ g1,O.lo,fun t ht => ?_,fun t u b ht hu h7 h8 => ?_,fun t b ht hb => ?_⟩,h4.set O.lo _⟩
 ·by_cases e:t=a
  ·subst e
   simp only [XJ,if_true]
   exact (Y6 rfl).2 (h2.keep fun b hb=>by rw [zT (Ne.symm (hne' b hb))])
  ·simp only [XJ,if_neg e]
   refine (Y6 rfl).2 (((Y6 rfl).1 (O.each t ht)).keep fun b hb => ?_)
   rw [zT (Ne.symm (O.ne t b ht hb))]
   rcases O.each t ht with ⟨_,q⟩ | ⟨_,o,_,q,q2⟩
   ·rw [q] at hb; exact hb.elim
   ·rw [q] at hb; cases hb
    rw [q2]
    exact h3 _ _ q2 fun q3=>e (O.ap t a _ ht ha (by rw [q]; rfl) q3)
 ·simp only [XJ] at h7 h8
  by_cases e1:t=a <;> by_cases e2:u=a
  ·rw [e1,e2]
  ·rw [if_pos e1] at h7; rw [if_neg e2] at h8
   rcases h6 b h7 with q | q
   ·exact e1.trans (O.ap a u b ha hu q h8)
   ·have:=hlt u b hu h8; omega
  ·rw [if_neg e1] at h7; rw [if_pos e2] at h8
   rcases h6 b h8 with q | q
   ·exact (O.ap t a b ht ha h7 q).trans e2.symm
   ·have:=hlt t b ht h7; omega
  ·rw [if_neg e1] at h7; rw [if_neg e2] at h8
   exact O.ap t u b ht hu h7 h8
 ·simp only [XJ] at hb
  by_cases e1:t=a
  ·rw [if_pos e1] at hb; exact hne' b hb
  ·rw [if_neg e1] at hb; exact O.ne t b ht hb
theorem OL.frz {n0:Nat} {H:Hp} {ob n:Nat} {v:Nat→AV} {X:Nat→List Ex} (O:OL n0 H ob n v X) (h:Hp) (hl:n0=h.length):IG h.length H 4 (.own ob 0 n) = .sl .any 1 ((zU n).map fun t => [fzG 4 CY (X t)]):=by
 subst hl
 have hm:((zU n).map fun t => [v t]).map (·.map (IG h.length H 3))=(zU n).map fun t => [fzG 4 CY (X t)]:=by
  rw [wI]
  refine List.map_congr_left fun t ht => ?_
  have ht':t < n:=by simpa using ht
  show [IG h.length H 3 (v t)]=_
  rw [AKK AP4 ((Y6 rfl).1 (O.each t ht')) h.length 1 (jK _)]
 rw [Cov.frzF_own h.length H 3 ob 0 n 1 _ (by have:=O.lo; omega) O.gob,zO,jW (by simp),hm]
 rw [if_pos]
 refine ⟨by simp,?_⟩
 rw [zF]
 intro row hr
 obtain ⟨t,_,rfl⟩:=zJ.1 hr
 cases X t <;> rfl
theorem A5H (l:List Ex):CvRow [fzG 4 CY l] (SC l):=by
 cases l with
 | nil=>exact CvRow.cons rfl (Cv.nil 0 4) CvRow.nil
 | cons x xs=>exact CvRow.cons rfl (Cv.refl _) CvRow.nil
def rowP (n i t:Nat) (c:List (List Ex)):List Ex:=if n - c.length≤t∧t < n - c.length+i then c[t - (n - c.length)]?.getD [] else []
theorem AQ3 (n t:Nat) (c:List (List Ex)):rowP n 0 t c = []:=by unfold rowP; rw [if_neg (by omega)]
theorem AQ4 {n t:Nat} {c:List (List Ex)} (ht:t < n) (hc:c.length≤n):rowP n c.length t c=rowC n t c:=by
 unfold rowP rowC
 by_cases h:n - c.length≤t
 ·rw [if_pos ⟨h,by omega⟩,if_pos h]
 ·rw [if_neg (by omega),if_neg h]
theorem AQ7 (n t:Nat) (cs:List (List (List Ex))) (j:Nat) (hj:j < cs.length):rowA n (cs.take (j+1)) t=rowA n (cs.take j) t ++ rowC n t cs[j]:=by
 unfold rowA
 rw [zN hj,List.flatMap_append]; simp
theorem rowC_len {n t:Nat} {c:List (List Ex)} {B:Nat} (h : ∀ r∈c,r.length≤B):(rowC n t c).length≤B:=by
 unfold rowC
 split
 ·cases hx:c[t - (n - c.length)]? with
  | none=>exact qV _
  | some r=>exact h r (qA hx)
 ·exact qV _
theorem ABX {n t B:Nat} : ∀ {cs:List (List (List Ex))},(∀ c∈cs,∀ r∈c,r.length≤B)→(rowA n cs t).length≤B * cs.length
 | [],_=>by simp [rowA]
 | c :: cs,h=>by
   have h1:=rowC_len (n:=n) (t:=t) (h c (by simp))
   have h2:=ABX (n:=n) (t:=t) (cs:=cs) fun c hc=>h c (by simp [hc])
   show (rowC n t c ++ rowA n cs t).length≤_
   rw [zZ,zW,Nat.mul_add]; omega
theorem A7Q (h:Hp) (n:Nat) (hn:n≤1048576):JW Tryz.prog true h 33 (.int .i64 (n:Int)) (.int .i64 (n:Int))=some (.own h.length 0 n,h ++ [ABlk.live 1 ((zU n).map fun _ => [.sl .nil 0 []])]):=by
 have hz:NE Tryz.prog 46=some [.sl .nil 0 []]:=by kernel_rfl
 have hr:room n 24:=IX (by omega) (by omega)
 unfold JW
 simp only [A3Y,ATP,A5X,hz,Int.toNat_natCast]
 rw [if_pos ⟨by omega,Int.le_refl _,hr,rfl⟩]
 have e:(zU n).map (fun _ => [AV.sl .nil 0 []])=List.replicate n [.sl .nil 0 []]:=by rw [List.map_const',List.length_range]
 rw [e]; rfl
theorem rowP_step {n i t:Nat} {c:List (List Ex)} (hc:c.length≤n) (hi:i < c.length) (_ht:t < n):rowP n (i+1) t c=if t=n - c.length+i then c[i] else rowP n i t c:=by
 unfold rowP
 by_cases e:t=n - c.length+i
 ·rw [if_pos e,if_pos (by omega),show t - (n - c.length)=i by omega,jL hi]; rfl
 ·rw [if_neg e]
  by_cases h:n - c.length≤t∧t < n - c.length+i
  ·rw [if_pos h,if_pos (by omega)]
  ·rw [if_neg h,if_neg (by omega)]
section
variable (G:Nat→AV)
set_option maxHeartbeats 8000000 in
theorem AHU (cs:List (List (List Ex))) (s:SM) (hcs:cs.length≤1048576) (hl : ∀ c∈cs,c.length≤1048576) (hr : ∀ c∈cs,∀ r∈c,r.length≤2) (h:Hp):PCall (En G) 36 [.sl s 1 (cs.map TT)] h (.sl .any 1 ((JZ cs).map SC)):=by
 have hcv:Cv (.sl .any 1 ((zU (MZ cs)).map fun t => [fzG 4 CY (rowA (MZ cs) cs t)])) (.sl .any 1 ((JZ cs).map SC)):=by
  unfold JZ
  rw [wI]
  exact Cv.map fun t _=>A5H _
 refine PCall.res ?_ (CvR.sl hcv)
 clear hcv
 refine ACalls.pure (R:=fun v H=>Sm.ext h H∧IG h.length H 4 v = .sl .any 1 ((zU (MZ cs)).map fun t => [fzG 4 CY (rowA (MZ cs) cs t)])) 4 ?_ (fun v H ⟨a,b⟩=>⟨a,b⟩)
 have hnb:MZ cs≤1048576:=TI cs 0 _ (qV _) hl
 refine acN Tryz.func36 rfl ?_
 show awp _ _ _ _ _ (D8 _ [.tmp 2] _)
 simp -implicitDefEqProofs only [BC,BP,BA,A8,AY,BB,AO,AQ,AL,BD,AX,AC,AA,AZ,AU,BH,GZ,BG,A7,D6,AB,BF,↓reduceIte,jC,jA,jB,enP,A4X,jI]
 refine JA 0 (fun F H'=>F 0 = .sl s 1 (cs.map TT)∧F 3 = .int .i64 (MZ cs:Nat)∧H'=h) (fun _ _=>False) ?_ ?_ (fun _ _ q=>q.elim)
 ·refine DY (fun n F H' => ∃ i,n+i=cs.length∧F 0 = .sl s 1 (cs.map TT)∧F 3 = .int .i64 (MZ (cs.take i):Nat)∧F 12 = .sl s 1 (cs.map TT)∧F 13 = .int .i64 (cs.length:Nat)∧F 14 = .int .i64 (i:Nat)∧H'=h) cs.length
   ⟨0,by simp,by simp -implicitDefEqProofs only [AA,BF,↓reduceIte,jC],by simp -implicitDefEqProofs only [AA,↓reduceIte,jC] <;> rfl,by simp -implicitDefEqProofs only [AA,↓reduceIte,jC],by simp -implicitDefEqProofs only [AA,↓reduceIte,jC],by simp -implicitDefEqProofs only [AA,↓reduceIte] <;> rfl,rfl⟩ ?_
  rintro n F H ⟨i,hi,f0,f3,f12,f13,f14,rfl⟩
  simp -implicitDefEqProofs only [BC,BA,BI,A8,AY,BB,AO,AQ,AL,BD,AX,AC,AA,AZ,BQ,AB,C9,↓reduceIte,jA,jB,enP,f13,f14]
  refine CV (fun hc => ?_) (fun hc => ?_)
  ·have hi':i < cs.length:=by simpa using hc
   have hm:max ((MZ (cs.take i):Nat):Int) ((cs[i].length:Nat):Int)=((MZ (cs.take (i+1)):Nat):Int):=by rw [ARQ cs i hi']; omega
   simp -implicitDefEqProofs only [BC,BP,BA,BR,A8,EH,ER,AY,BB,AO,AQ,AL,BD,AX,AC,AA,AZ,AU,BH,BG,A7,BX,BQ,CG,D6,AOW,AB,DK,AGU,↓reduceIte,jC,jA,jB,enP,ACI,A5B,f3,f12,f14,D7 hi',DZ A6X hi',AV5,jI,hm,wrap_succ (show i < 9223372036854775807 by omega)]
   exact ⟨n - 1,by omega,i+1,by omega,by first | exact True.intro | exact f0,by first | exact True.intro | exact rfl,by first | exact True.intro | exact f12,by first | exact True.intro | exact f13,by first | exact True.intro | exact rfl,by first | exact True.intro | exact rfl⟩
  ·have hi' : ¬ i < cs.length:=by simpa using hc
   rw [jW (by omega)] at f3
   simp -implicitDefEqProofs only [DW,EG,NG,EZ,AA,↓reduceIte,jC]
   exact ⟨by first | exact True.intro | exact f0,by first | exact True.intro | exact f3,by first | exact True.intro | exact rfl⟩
 rintro F H ⟨f0,f3,rfl⟩
 generalize hN:MZ cs=N at *
 have g0:=CW H (ABlk.live 1 ((zU N).map fun _ => [AV.sl .nil 0 []]))
 have O0:OL H.length (H ++ [ABlk.live 1 ((zU N).map fun _ => [AV.sl .nil 0 []])]) H.length N (fun _ => .sl .nil 0 []) (fun _ => []) :=
  ⟨g0,jK _,fun t _ => .inl ⟨rfl,rfl⟩,fun t u b _ _ q=>q.elim,fun t b _ q=>q.elim⟩
 have hx0:Sm.ext H (H ++ [ABlk.live 1 ((zU N).map fun _ => [AV.sl .nil 0 []])]):=(ext.rfl' H).app _
 simp -implicitDefEqProofs only [BC,BP,BA,A8,EY,AY,BB,AO,AQ,AL,BD,AX,AC,AA,AZ,AU,BH,BG,A7,PD,D6,CB,AB,↓reduceIte,jC,jA,jB,enP,A4X,f0,f3,A7Q H N hnb,jI]
 generalize H ++ [ABlk.live 1 ((zU N).map fun _ => [AV.sl .nil 0 []])]=H0 at O0 hx0 ⊢
 refine DY (fun n F H' => ∃ j v X,n+j=cs.length∧F 3 = .int .i64 (N:Nat)∧F 6 = .own H.length 0 N∧F 25 = .sl s 1 (cs.map TT)∧F 26 = .int .i64 (cs.length:Nat)∧F 27 = .int .i64 (j:Nat)∧OL H.length H' H.length N v X∧(∀ t,t < N→X t=rowA N (cs.take j) t)∧Sm.ext H H') cs.length
  ⟨0,_,_,by simp,by simp -implicitDefEqProofs only [AA,↓reduceIte,jC,f3],by simp -implicitDefEqProofs only [AA,↓reduceIte,jC],by simp -implicitDefEqProofs only [AA,↓reduceIte,jC],by simp -implicitDefEqProofs only [AA,↓reduceIte,jC],by simp -implicitDefEqProofs only [AA,↓reduceIte] <;> rfl,O0,fun t _=>by rw [qO]; rfl,hx0⟩ ?_
 clear O0 hx0 f0 f3 g0
 rintro n F H1 ⟨j,v,X,hj,f3,f6,f25,f26,f27,O,hX,hx⟩
 simp -implicitDefEqProofs only [BC,BA,BI,A8,AY,BB,AO,AQ,AL,BD,AX,AC,AA,AZ,BQ,AB,C9,↓reduceIte,jA,jB,enP,f26,f27]
 refine CV (fun hc => ?_) (fun hc => ?_)
 ·have hj':j < cs.length:=by simpa using hc
  have hcN:cs[j].length≤N:=by rw [← hN]; exact XV (jO hj')
  have hrj:=hr _ (jO hj')
  have hrt : ∀ t,(rowA N (cs.take j) t).length≤2 * j:=fun t=>by
   have:=ABX (n:=N) (t:=t) (B:=2) (cs:=cs.take j) fun c hc=>hr c (List.mem_of_mem_take hc)
   rw [qB,Nat.min_eq_left (by omega)] at this; exact this
  have hst : ∀ t,rowA N (cs.take (j+1)) t=rowA N (cs.take j) t ++ rowC N t cs[j]:=fun t=>AQ7 N t cs j hj'
  simp -implicitDefEqProofs only [BC,BP,BA,BR,A8,AY,BB,AO,AQ,AL,BD,AX,AC,AA,AZ,AU,BH,BG,A7,BX,CG,D6,AB,↓reduceIte,jC,jA,jB,enP,ACI,A5B,f25,f27,D7 hj',DZ A6X hj',AV5,jI]
  generalize cs[j]=c at hcN hrj hst ⊢
  refine JA 4 (fun F H' => ∃ v X,F 3 = .int .i64 (N:Nat)∧F 6 = .own H.length 0 N∧F 25 = .sl s 1 (cs.map TT)∧F 26 = .int .i64 (cs.length:Nat)∧F 27 = .int .i64 (j:Nat)∧OL H.length H' H.length N v X∧(∀ t,t < N→X t=rowA N (cs.take (j+1)) t)∧Sm.ext H H') (fun _ _=>False) ?_ ?_ (fun _ _ q=>q.elim)
  ·refine DY (fun n F H' => ∃ i v X,n+i=c.length∧F 3 = .int .i64 (N:Nat)∧F 6 = .own H.length 0 N∧F 8 = .sl .any 1 (c.map encX)∧F 25 = .sl s 1 (cs.map TT)∧F 26 = .int .i64 (cs.length:Nat)∧F 27 = .int .i64 (j:Nat)∧F 31 = .sl .any 1 (c.map encX)∧F 32 = .int .i64 (c.length:Nat)∧F 33 = .int .i64 (i:Nat)∧OL H.length H' H.length N v X∧(∀ t,t < N→X t=rowA N (cs.take j) t ++ rowP N i t c)∧Sm.ext H H') c.length
    ⟨0,v,X,by simp,by simp -implicitDefEqProofs only [AA,↓reduceIte,jC,f3],by simp -implicitDefEqProofs only [AA,↓reduceIte,jC,f6],by simp -implicitDefEqProofs only [AA,↓reduceIte,jC],by simp -implicitDefEqProofs only [AA,↓reduceIte,jC,f25],by simp -implicitDefEqProofs only [AA,↓reduceIte,jC,f26],by simp -implicitDefEqProofs only [AA,↓reduceIte,jC,f27],by simp -implicitDefEqProofs only [AA,↓reduceIte,jC],by simp -implicitDefEqProofs only [AA,↓reduceIte,jC],by simp -implicitDefEqProofs only [AA,↓reduceIte] <;> rfl,O,fun t ht=>by rw [AQ3,jF]; exact hX t ht,hx⟩ ?_
   clear f3 f6 f25 f26 f27 O hX hx
   rintro n2 F H2 ⟨i,v,X,hi,f3,f6,f8,f25,f26,f27,f31,f32,f33,O,hX,hx⟩
   simp -implicitDefEqProofs only [BC,BA,BI,A8,AY,BB,AO,AQ,AL,BD,AX,AC,AA,AZ,BQ,AB,C9,↓reduceIte,jA,jB,enP,f32,f33]
   refine CV (fun hd => ?_) (fun hd => ?_)
   ·have hi':i < c.length:=by simpa using hd
    have ha:N - c.length+i < N:=by omega
    have hlen:(X (N - c.length+i)).length+c[i].length≤8388608:=by
     have h1:=hrt (N - c.length+i)
     have h2:=hrj _ (jO hi')
     rw [hX _ ha,zZ]
     have h3:rowP N i (N - c.length+i) c = []:=by unfold rowP; rw [if_neg (by omega)]
     rw [h3,qE]; omega
    obtain ⟨v',H3,a1,a2,a3,O2,hx2⟩:=O.app ha hx .any c[i] hlen
    have hw1:IntKind.i64.wrap (((N:Nat):Int) - ((c.length:Nat):Int))=((N - c.length:Nat):Int):=by rw [wrap_i64 (by omega) (by omega)]; omega
    have hw2:IntKind.i64.wrap (((N - c.length:Nat):Int)+((i:Nat):Int))=((N - c.length+i:Nat):Int):=by rw [wrap_i64 (by omega) (by omega)]; omega
    have i1:JG 1 H2 (.own H.length 0 N) (.int .i64 ((N - c.length+i:Nat):Int))=some (.ptr H.length (N - c.length+i) 0):=by rw [I5 O.gob ha,jG]
    have hrow : ∀ f:Nat→AV,((zU N).map fun t => [f t])[N - c.length+i]? = some [f (N - c.length+i)]:=fun f=>by
     rw [jX,List.getElem?_range ha]; rfl
    have d1:DX Tryz.prog H2 46 (.ptr H.length (N - c.length+i) 0)=some (v (N - c.length+i)):=by rw [DJ RQ O.gob (hrow v)]; rfl
    have i2:JG 1 H3 (.own H.length 0 N) (.int .i64 ((N - c.length+i:Nat):Int))=some (.ptr H.length (N - c.length+i) 0):=by rw [I5 a2 ha,jG]
    have s1:FB Tryz.prog H3 46 (.ptr H.length (N - c.length+i) 0) v'=some (H3.set H.length (.live 1 ((zU N).map fun t => [XJ v (N - c.length+i) v' t]))):=by
     rw [JC (cs := [v']) a3 ATP a2 (hrow v) (by exact jK 1),← ARC ha]; rfl
    have hX2 : ∀ t,t < N→XJ X (N - c.length+i) (X (N - c.length+i) ++ c[i]) t=rowA N (cs.take j) t ++ rowP N (i+1) t c:=fun t ht=>by
     rw [rowP_step hcN hi' ht]
     by_cases e:t=N - c.length+i
     ·rw [if_pos e]
      simp only [XJ,if_pos e]
      rw [hX _ ha,← e]
      have h3:rowP N i t c = []:=by unfold rowP; rw [if_neg (by omega)]
      rw [h3,jF]
     ·rw [if_neg e]
      simp only [XJ,if_neg e]
      exact hX t ht
    simp -implicitDefEqProofs only [BC,BP,BA,BR,A8,EH,ER,AY,BB,AO,AQ,AL,BD,AX,AC,ES,AA,AZ,AU,BH,BG,A7,BX,EI,BQ,CG,D6,GL,CB,AB,DT,DK,JK,↓reduceIte,jC,jA,jB,enP,AJ1,ACI,jT,f3,f6,f8,f31,f33,D7 hi',DZ RQ hi',A5N,jI,hw1,hw2,i1,d1,a1,i2,s1,wrap_succ (show i < 9223372036854775807 by omega)]
    exact ⟨n2 - 1,by omega,i+1,_,_,by omega,by first | exact True.intro | exact f3,by first | exact True.intro | exact f6,by first | exact True.intro | exact f8,by first | exact True.intro | exact f25,by first | exact True.intro | exact f26,by first | exact True.intro | exact f27,by first | exact True.intro | exact f31,by first | exact True.intro | exact f32,by first | exact True.intro | exact rfl,O2,hX2,hx2⟩
   ·have hi':i=c.length:=by have : ¬ i < c.length:=by simpa using hd
                            omega
    subst hi'
    simp -implicitDefEqProofs only [DW,EG,NG,EZ,AA,↓reduceIte,jC]
    exact ⟨v,X,by first | exact True.intro | exact f3,by first | exact True.intro | exact f6,by first | exact True.intro | exact f25,by first | exact True.intro | exact f26,by first | exact True.intro | exact f27,O,fun t ht=>by rw [hX t ht,hst,AQ4 ht hcN],hx⟩
  ·clear f3 f6 f25 f26 f27 O hX hx
   rintro F H2 ⟨v,X,f3,f6,f25,f26,f27,O,hX,hx⟩
   simp -implicitDefEqProofs only [BA,A8,EH,EY,ER,AY,BB,AO,AQ,AL,BD,AX,AC,AA,AZ,AU,BH,BG,BQ,AB,DK,↓reduceIte,jC,jA,jB,enP,f27,wrap_succ (show j < 9223372036854775807 by omega)]
   exact ⟨n - 1,by omega,j+1,v,X,by omega,by first | exact True.intro | exact f3,by first | exact True.intro | exact f6,by first | exact True.intro | exact f25,by first | exact True.intro | exact f26,by first | exact True.intro | exact rfl,O,hX,hx⟩
 ·have hj' : ¬ j < cs.length:=by simpa using hc
  rw [jW (by omega)] at hX
  simp -implicitDefEqProofs only [BC,BA,BJ,DW,A8,EG,EY,EZ,CJ,AY,BB,AO,AQ,AL,BD,AX,AC,AA,AZ,BG,A7,↓reduceIte,jC,jA,jB,f6]
  refine ⟨hx,?_⟩
  rw [O.frz H rfl]
  congr 1
  refine List.map_congr_left fun t ht => ?_
  rw [hX t (by simpa using ht)]
end
theorem A1K (l:List Ex):(SC l)[0]? = some (.sl (Cov.nm l) 4 (l.map CY)):=rfl
theorem AFM {R:List (List Ex)} {i:Nat} (hi:i < R.length):(R.take (i+1)).flatten=(R.take i).flatten ++ R[i]:=by
 rw [zN hi,List.flatten_append]; simp
theorem X8 (R:List (List Ex)) (i:Nat):(R.take i).flatten.length≤R.flatten.length:=by
 have:R.flatten=(R.take i).flatten ++ (R.drop i).flatten:=by rw [← List.flatten_append,List.take_append_drop]
 rw [this,zZ]; omega
def AYR (h:Hp) (ys:List Ex) (v:AV) (H:Hp):Prop:=(v = .sl .nil 0 []∧ys = [])∨∃ o,h.length≤o∧v = .own o 0 ys.length∧H[o]? = some (.live 4 (ys.map CY))
theorem AUE {h H:Hp} {xs ys:List Ex} {v:AV} (s:SM) (ho:AYR h xs v H) (he:ext h H) (hl:xs.length+ys.length≤8388608) :
  ∃ v' H',FZ Tryz.prog true H 46 46 v (.sl s 4 (ys.map CY))=some (v',H')∧AYR h (xs ++ ys) v' H'∧ext h H'∧(v = .sl .nil 0 []→ys = []→v' = .sl .nil 0 []):=by
 cases ys with
 | nil =>
   refine ⟨v,H,?_,by rw [jF]; exact ho,he,fun q _=>q⟩
   have hcs:JP H (.sl s 4 [])=some (4,[]):=IM H s 4 []
   rcases ho with ⟨rfl,rfl⟩ | ⟨o,h2,rfl,h3⟩
   ·simp [FZ,AEA,MM,TB,hcs,bump]
   ·have hc:JP H (.own o 0 xs.length)=some (4,xs.map CY):=by rw [LG h3 (by simp),zO,jW (by simp)]
    simp [FZ,AEA,MM,TB,hc,hcs,bump]
 | cons y ys =>
   have h1:(y :: ys).map CY≠[]:=by simp
   rcases ho with ⟨rfl,rfl⟩ | ⟨o,h2,rfl,h3⟩
   ·exact ⟨_,_,PX AEA MM AMB AN8 (IM H s 4 ((y :: ys).map CY)) h1 (IX (by simp at hl ⊢; omega) (by omega)),.inr ⟨H.length,he.le,by simp,by simp⟩,he.app _,fun _ q=>by cases q⟩
   ·have hc:JP H (.own o 0 xs.length)=some (4,xs.map CY):=by rw [LG h3 (by simp),zO,jW (by simp)]
    exact ⟨_,_,PW AEA MM AMB AN8 hc (IM H s 4 ((y :: ys).map CY)) h1 (IX (by simp at hl ⊢; omega) (by omega)),.inr ⟨H.length,he.le,by simp,by simp⟩,(he.set h2 _).app _,fun q=>by cases q⟩
section
variable (G:Nat→AV)
set_option maxHeartbeats 4000000 in
theorem ALB (R:List (List Ex)) (s:SM) (hR:R.length≤1048576) (hl:R.flatten.length≤1048576) (h:Hp):PCall (En G) 37 [.sl s 1 (R.map SC)] h (.sl (Cov.nm R.flatten) 4 (R.flatten.map CY)):=by
 refine P5 AP4 ?_
 refine acN Tryz.func37 rfl ?_
 show awp _ _ _ _ _ (D8 _ [.tmp 2] _)
 simp -implicitDefEqProofs only [BC,BP,BA,A8,AY,BB,AO,AQ,AL,BD,AX,AC,AA,AZ,AU,BH,GZ,BG,A7,D6,AB,BF,↓reduceIte,jC,jA,jB,enP,ACI,jI]
 refine JA 0 (fun F H'=>F 0 = .sl s 1 (R.map SC)∧F 3 = .int .i64 (R.flatten.length:Nat)∧H'=h) (fun _ _=>False) ?_ ?_ (fun _ _ q=>q.elim)
 ·refine DY (fun n F H' => ∃ i,n+i=R.length∧F 0 = .sl s 1 (R.map SC)∧F 3 = .int .i64 ((R.take i).flatten.length:Nat)∧F 9 = .sl s 1 (R.map SC)∧F 10 = .int .i64 (R.length:Nat)∧F 11 = .int .i64 (i:Nat)∧H'=h) R.length
   ⟨0,by simp,by simp -implicitDefEqProofs only [AA,BF,↓reduceIte,jC],by simp -implicitDefEqProofs only [AA,↓reduceIte,jC] <;> rfl,by simp -implicitDefEqProofs only [AA,↓reduceIte,jC],by simp -implicitDefEqProofs only [AA,↓reduceIte,jC],by simp -implicitDefEqProofs only [AA,↓reduceIte] <;> rfl,rfl⟩ ?_
  rintro n F H ⟨i,hi,f0,f3,f9,f10,f11,rfl⟩
  simp -implicitDefEqProofs only [BC,BA,BI,A8,AY,BB,AO,AQ,AL,BD,AX,AC,AA,AZ,BQ,AB,C9,↓reduceIte,jA,jB,enP,f10,f11]
  refine CV (fun hc => ?_) (fun hc => ?_)
  ·have hi':i < R.length:=by simpa using hc
   have hfl:=AFM hi'
   have hle:=X8 R (i+1)
   rw [hfl,zZ] at hle
   have hw:IntKind.i64.wrap ((((R.take i).flatten.length:Nat):Int)+((R[i].length:Nat):Int))=(((R.take (i+1)).flatten.length:Nat):Int):=by rw [hfl,zZ,wrap_i64 (by omega) (by omega)]; omega
   simp -implicitDefEqProofs only [BC,BP,BA,BR,BI,A8,EH,ER,DI,AY,BB,AO,AQ,AL,BD,AX,AC,AA,AZ,AU,BH,BG,A7,BX,BQ,CG,D6,AB,DK,C9,↓reduceIte,jC,jA,jB,enP,AJ1,TW,f3,f9,f11,D7 hi',DZ RQ hi',A1K,jI,hw,VF,wrap_succ (show i < 9223372036854775807 by omega)]
   exact ⟨n - 1,by omega,i+1,by omega,by first | exact True.intro | exact f0,by first | exact True.intro | exact rfl,by first | exact True.intro | exact f9,by first | exact True.intro | exact f10,by first | exact True.intro | exact rfl,by first | exact True.intro | exact rfl⟩
  ·have hi' : ¬ i < R.length:=by simpa using hc
   rw [jW (by omega)] at f3
   simp -implicitDefEqProofs only [DW,EG,NG,EZ,AA,↓reduceIte,jC]
   exact ⟨by first | exact True.intro | exact f0,by first | exact True.intro | exact f3,by first | exact True.intro | exact rfl⟩
 rintro F H ⟨f0,f3,rfl⟩
 simp -implicitDefEqProofs only [BC,BA,A8,EY,AY,AO,AQ,AL,BD,AX,AC,AA,AZ,AU,BU,GZ,BG,BZ,BO,jE,jD,jF,↓reduceIte,jA,jB,f3]
 refine (ASC G R.flatten.length hl H).mono ?_
 intro v0 H0 hg
 have I0:AYR H [] v0 H0∧Sm.ext H H0∧(R.flatten.length=0→v0 = .sl .nil 0 []):=by
  rcases hg with ⟨h0,rfl,rfl⟩ | ⟨h0,rfl,rfl⟩
  ·exact ⟨.inl ⟨rfl,rfl⟩,ext.rfl' _,fun _=>rfl⟩
  ·exact ⟨.inr ⟨H.length,jK _,rfl,CW _ _⟩,(ext.rfl' H).app _,fun q=>by omega⟩
 simp -implicitDefEqProofs only [BC,BP,BA,A8,AY,BB,AO,AQ,AL,BD,AX,AC,AA,AZ,AU,BH,BG,A7,D6,AB,↓reduceIte,jC,jA,jB,enP,ACI,f0,jI]
 refine DY (fun n F H' => ∃ i v,n+i=R.length∧F 6=v∧F 25 = .sl s 1 (R.map SC)∧F 26 = .int .i64 (R.length:Nat)∧F 27 = .int .i64 (i:Nat)∧AYR H (R.take i).flatten v H'∧Sm.ext H H'∧(R.flatten.length=0→v = .sl .nil 0 [])) R.length
  ⟨0,v0,by simp,by simp -implicitDefEqProofs only [AA,↓reduceIte,jC],by simp -implicitDefEqProofs only [AA,↓reduceIte,jC],by simp -implicitDefEqProofs only [AA,↓reduceIte,jC],by simp -implicitDefEqProofs only [AA,↓reduceIte] <;> rfl,by rw [qO]; exact I0.1,I0.2.1,I0.2.2⟩ ?_
 clear I0 hg f0 f3
 rintro n F H' ⟨i,v,hi,f6,f25,f26,f27,ho,hx,hz⟩
 simp -implicitDefEqProofs only [BC,BA,BI,A8,AY,BB,AO,AQ,AL,BD,AX,AC,AA,AZ,BQ,AB,C9,↓reduceIte,jA,jB,enP,f26,f27]
 refine CV (fun hc => ?_) (fun hc => ?_)
 ·have hi':i < R.length:=by simpa using hc
  have hfl:=AFM hi'
  have hle:=X8 R (i+1)
  rw [hfl,zZ] at hle
  obtain ⟨v',H2,ha,ho2,hx2,hn2⟩:=AUE (Cov.nm R[i]) ho hx (ys:=R[i]) (by omega)
  rw [← hfl] at ho2
  simp -implicitDefEqProofs only [BC,BP,BA,BR,A8,EH,ER,AY,BB,AO,AQ,AL,BD,AX,AC,AA,AZ,AU,BH,BG,A7,BX,BQ,CG,GL,CB,AB,DK,↓reduceIte,jC,jA,jB,enP,AJ1,f6,f25,f27,D7 hi',DZ RQ hi',A1K,ha,wrap_succ (show i < 9223372036854775807 by omega)]
  exact ⟨n - 1,by omega,i+1,v',by omega,by first | exact True.intro | exact rfl,by first | exact True.intro | exact f25,by first | exact True.intro | exact f26,by first | exact True.intro | exact rfl,ho2,hx2,fun q=>hn2 (hz q) (List.length_eq_zero_iff.1 (by omega))⟩
 ·have hi' : ¬ i < R.length:=by simpa using hc
  rw [jW (by omega)] at ho
  simp -implicitDefEqProofs only [BC,BA,BJ,DW,A8,EG,EY,EZ,CJ,AY,BB,AO,AQ,AL,BD,AX,AC,AA,AZ,BG,A7,↓reduceIte,jC,jA,jB,f6]
  refine ⟨hx,?_⟩
  rcases ho with ⟨h1,h2⟩ | ⟨o,h1,h2,h3⟩
  ·exact .inl ⟨h2,h1⟩
  ·refine .inr ⟨fun q => ?_,o,h1,h2,h3⟩
   have:=hz (by rw [q]; rfl)
   rw [this] at h2; cases h2
end
theorem WE (b:Bin):sets b=F8 b:=by
 unfold sets F8
 cases h:b.ranges.l with
 | nil=>rfl
 | cons x xs=>rw [if_pos (by simp),if_neg (by simp)]
structure VB (b:Bin):Prop where
 one:b.steps = []∨b.ranges.l = []
 ne:F8 b≠[]
 few:(F8 b).length≤8
 k0:0≤b.kind
 k2:b.kind≤2
 sk:b.kind≠0→b.steps = []
 each : ∀ s∈F8 b,s.l≠[]∧s.l.length≤64∧∀ r∈s.l,0≤r.lo∧r.lo≤r.hi∧r.hi≤65535
theorem A3X {b:Bin} (h:IZ b=0):VB b:=by
 unfold IZ at h
 split at h
 case isFalse=>cases h
 split at h
 case isTrue=>cases h
 rename_i h1 h2
 split at h
 case isTrue=>cases h
 rename_i h3
 split at h
 case isTrue=>cases h
 rename_i h4
 split at h
 case isTrue=>cases h
 rename_i h5
 have h2':MV b=false:=by simpa using h2
 unfold MV at h2'
 simp only [Bool.or_eq_false_iff,decide_eq_false_iff_not,Bool.and_eq_false_iff] at h2'
 obtain ⟨⟨⟨⟨⟨q1,q2⟩,q3⟩,q4⟩,q5⟩,q6⟩:=h2'
 have hst : ∀ s∈b.steps,s.l≠[]:=fun s hs e=>by
  have:b.steps.any (fun l=>decide (l.l.length=0))=true:=qC.2 ⟨s,hs,by rw [e]; rfl⟩
  exact h3 this
 have h64 : ∀ s∈sets b,s.l.length≤64:=fun s hs=>by
  rcases Nat.lt_or_ge 64 s.l.length with q | q
  ·exact absurd (qC.2 ⟨s,hs,by simpa using q⟩) h4
  ·exact q
 have hbad : ∀ s∈sets b,∀ r∈s.l,bad r=false:=fun s hs r hr=>by
  cases hb:bad r with
  | false=>rfl
  | true=>exact absurd (qC.2 ⟨s,hs,qC.2 ⟨r,hr,hb⟩⟩) h5
 have hone:b.steps = []∨b.ranges.l = []:=by
  rcases Classical.em (b.steps = []) with q | q
  ·exact .inl q
  ·refine .inr ?_
   have l1:0 < b.steps.length:=List.length_pos_iff.2 q
   rcases Classical.em (b.ranges.l = []) with r | r
   ·exact r
   ·have l2:0 < b.ranges.l.length:=List.length_pos_iff.2 r
    have e1:decide (((b.ranges.l.length:Nat):Int) > 0)=true:=by rw [decide_eq_true_eq]; omega
    have e2:decide (((b.steps.length:Nat):Int) > 0)=true:=by rw [decide_eq_true_eq]; omega
    rw [e1,e2] at q3; cases q3
 have hne:b.steps≠[]∨b.ranges.l≠[]:=by
  rcases Classical.em (b.steps = []) with q | q
  ·refine .inr fun r => ?_
   rw [q,r] at q3; exact absurd q3 (by decide)
  ·exact .inl q
 rw [WE] at h64 hbad
 refine ⟨hone,?_,?_,by omega,by omega,fun hk => ?_,fun s hs=>⟨?_,h64 s hs,fun r hr => ?_⟩⟩
 ·unfold F8
  split
  ·rename_i q; exact hne.resolve_right (fun r=>r q)
  ·exact List.cons_ne_nil _ _
 ·unfold F8
  split
  ·simp at q6; omega
  ·simp
 ·rcases q4 with q | q
  ·simp at q; exact absurd q hk
  ·exact List.length_eq_zero_iff.1 (by omega)
 ·unfold F8 at hs
  split at hs
  ·exact hst s hs
  ·rename_i q
   rw [wG.1 hs]; exact q
 ·have:=hbad s hs r hr
  unfold bad at this
  simp only [Bool.or_eq_false_iff,decide_eq_false_iff_not] at this
  omega
structure VP (p:Pt):Prop where
 n1:1≤p.bins.length
 n64:p.bins.length≤64
 ex:exE p.ex=0
 bins : ∀ b∈p.bins,VB b
theorem A3W {p:Pt} (h:I4 p=0):VP p:=by
 obtain ⟨h1,h2⟩:=AAH h
 unfold I4 at h
 split at h
 ·cases h
 split at h
 ·rename_i q; exact absurd h q
 rename_i q1
 split at h
 ·cases h
 split at h
 ·cases h
 split at h
 ·rename_i q; exact absurd h q
 rename_i q2
 exact ⟨h1,h2,by simpa using q1,fun b hb=>A3X (OH _ (by simpa using q2) b hb)⟩
theorem ABK {m:Mo} (h:IA m=0) : ∀ p∈m.pts,VP p:=by
 unfold IA at h
 split at h
 ·cases h
 split at h
 ·rename_i q; exact absurd h q
 rename_i q
 exact fun p hp=>A3W (OH _ (by simpa using q) p hp)
theorem ADS {n:Nat} : ∀ {l:List Bin},(∀ b∈l,b.kind≠0→b.ranges.l.length≤n)→(J6 l).length≤n * l.length
 | [],_=>by simp [J6]
 | b :: l,h=>by
   have ih:=ADS (l:=l) fun b hb=>h b (by simp [hb])
   show ((if b.kind≠0 then b.ranges.l else []) ++ J6 l).length≤n * (l.length+1)
   rw [zZ,Nat.mul_add]
   by_cases hk:b.kind≠0
   ·rw [if_pos hk]; have:=h b (by simp) hk; omega
   ·rw [if_neg hk,qE]; omega
theorem VB.ranges {b:Bin} (v:VB b) (hk:b.kind≠0):F8 b = [b.ranges]:=by
 rcases Classical.em (b.ranges.l = []) with q | q
 ·have h1:=setsB_nil' q
  have h2:=v.ne
  rw [h1,v.sk hk] at h2; exact absurd rfl h2
 ·unfold F8; rw [if_neg q]
 where setsB_nil' {b:Bin} (h:b.ranges.l = []):F8 b=b.steps:=by unfold F8; rw [if_pos h]
theorem VP.badLen {p:Pt} (v:VP p):(J6 p.bins).length≤4096:=by
 have:=ADS (n:=64) (l:=p.bins) fun b hb hk=>((v.bins b hb).each b.ranges (by rw [(v.bins b hb).ranges hk]; simp)).2.1
 have:=v.n64
 omega
theorem ALN {r:Rng} : ∀ {l:List Bin},r∈J6 l→∃ b∈l,b.kind≠0∧r∈b.ranges.l
 | b :: l,h=>by
   rcases zY.1 (show r∈(if b.kind≠0 then b.ranges.l else []) ++ J6 l from h) with h | h
   ·by_cases hk:b.kind≠0
    ·rw [if_pos hk] at h; exact ⟨b,by simp,hk,h⟩
    ·rw [if_neg hk] at h; cases h
   ·obtain ⟨b',h1,h2⟩:=ALN h; exact ⟨b',by simp [h1],h2⟩
theorem VP.badOk {p:Pt} (v:VP p) : ∀ r∈J6 p.bins,0≤r.lo∧r.lo≤r.hi∧r.hi≤65535:=fun r hr=>by
 obtain ⟨b,hb,hk,hr⟩:=ALN hr
 exact ((v.bins b hb).each b.ranges (by rw [(v.bins b hb).ranges hk]; simp)).2.2 r hr
theorem AAI {xs:List Rng} (h : ∀ r∈xs,0≤r.lo∧r.lo≤r.hi∧r.hi≤65535) (v:Int):inside (normal xs) v=inside xs v:=AEE (fun r hr=>by have:=h r hr; unfold inI; omega) v
theorem ARK {xs:List Rng} (h : ∀ r∈xs,0≤r.lo∧r.lo≤r.hi∧r.hi≤65535) (hx:xs≠[]):normal xs≠[]:=by
 intro e
 cases xs with
 | nil=>exact hx rfl
 | cons r rs =>
   have h1:=AAI h r.lo
   rw [e] at h1
   have h2:inside (r :: rs) r.lo=true:=qC.2 ⟨r,by simp,by have:=h r (by simp); simp; omega⟩
   rw [h2] at h1; cases h1
theorem AH5 (op n:Int) (name:ByteArray) (m:SM) (args:List Ex):wt (.mk op n name m args)=name.size+1+wts args:=L9 _
theorem nsz:(⟨#[]⟩:ByteArray).size=0:=rfl
theorem ATF (n:Int):wt (cE n)=1:=by unfold cE; rw [AH5,nsz]; rfl
theorem AOX : ∀ l:List Rng,wts (cEs l)=2 * l.length
 | []=>rfl
 | a :: l=>by
   rw [U3]
   simp only [wts,ATF,AOX l,zW]; omega
theorem AO0 (e:Ex) (l:List Rng):wt (LU e l)=1+wt e+2 * l.length:=by
 rw [X4,AH5,nsz]
 unfold insL
 simp only [wts,AOX]; omega
theorem A10 (a b:Ex):wt (orE a b)=1+wt a+wt b:=by
 unfold orE
 rw [AH5,nsz]; simp only [wts]; omega
theorem AOZ (a:Ex):wt (notE a)=1+wt a:=by
 unfold notE
 rw [AH5,nsz]; simp only [wts]; omega
theorem AJL (L:List Rng) (k:Nat):(part L k).length≤16:=by unfold part; rw [qB]; omega
theorem AOY (e:Ex) (L:List Rng) : ∀ k,wt (RG e L k)≤(k+1) * (wt e+34)
 | 0=>by
   have:=AJL L 0
   show wt (LU e (part L 0))≤_
   rw [AO0]; omega
 | k+1=>by
   have:=AJL L (k+1)
   have ih:=AOY e L k
   show wt (orE (RG e L k) (LU e (part L (k+1))))≤_
   rw [A10,AO0,Nat.add_mul (k+1) 1]; omega
theorem ABG : ∀ l:List Ex,(∀ e∈l,wt (cpE e)=wt e)→wts (l.map cpE)=wts l
 | [],_=>rfl
 | e :: l,h=>by
   simp only [jE,wts]
   rw [h e (by simp),ABG l fun e he=>h e (by simp [he])]
theorem A11 (e:Ex):wt (cpE e)=wt e:=by
 induction e using Ex.induct with | h e ih => ?_
 rw [WX,AH5,ABG _ ih,L9 e]
theorem ACE {x:Ex} : ∀ {xs:List Ex},x∈IQ xs↔∃ a∈xs,x∈pre a
 | []=>by simp [IQ]
 | a :: xs=>by simp [IQ,ACE (xs:=xs)]
def NmB (N:Nat) (e:Ex):Prop := ∀ x∈pre e,x.name.size≤N
theorem NmB.mk {N:Nat} {op n:Int} {name:ByteArray} {m:SM} {args:List Ex} (h:name.size≤N) (ha : ∀ a∈args,NmB N a):NmB N (.mk op n name m args):=fun x hx=>by
 rw [pre_eq] at hx
 rcases qI.1 hx with rfl | hx
 ·exact h
 ·obtain ⟨a,h1,h2⟩:=ACE.1 hx
  exact ha a h1 x h2
theorem AOR (N:Nat) (n:Int):NmB N (cE n):=NmB.mk (qV _) fun a h=>by cases h
theorem AL5 {N:Nat} {e:Ex} (h:NmB N e) (l:List Rng):NmB N (LU e l):=by
 rw [X4]
 refine NmB.mk (qV _) fun a ha => ?_
 rcases qI.1 ha with rfl | ha
 ·exact h
 ·unfold cEs at ha
  obtain ⟨r,_,hr⟩:=List.mem_flatMap.1 ha
  rcases qI.1 hr with rfl | hr
  ·exact AOR N _
  ·rw [wG.1 hr]; exact AOR N _
theorem A03 {N:Nat} {a b:Ex} (h1:NmB N a) (h2:NmB N b):NmB N (orE a b):=NmB.mk (qV _) fun x hx=>by
 rcases qI.1 hx with rfl | hx
 ·exact h1
 ·rw [wG.1 hx]; exact h2
theorem AXJ {N:Nat} {a:Ex} (h1:NmB N a):NmB N (notE a):=NmB.mk (qV _) fun x hx=>by rw [wG.1 hx]; exact h1
theorem AL4 {N:Nat} {e:Ex} (h:NmB N e) (L:List Rng) : ∀ k,NmB N (RG e L k)
 | 0=>AL5 h _
 | k+1=>A03 (AL4 h L k) (AL5 h _)
theorem A04 {N:Nat} (e:Ex) (h:NmB N e):NmB N (cpE e):=by
 induction e using Ex.induct with | h e ih => ?_
 rw [WX]
 refine NmB.mk (h e (by rw [pre_eq]; simp)) fun a ha => ?_
 obtain ⟨b,hb,rfl⟩:=zJ.1 ha
 exact ih b hb fun x hx=>h x (by rw [pre_eq]; exact List.mem_cons_of_mem _ (ACE.2 ⟨b,hb,hx⟩))
theorem AH0 {e:Ex} {l:List Rng} (h:wt e≤1048576) (hl:l.length≤4096):WN (FV e l)∧wt (FV e l)≤269000000:=by
 have hn:NmB 1048576 e:=(A1Y h).2
 have hnl:=AB7 l
 have hp:parts (normal l)≤256:=by rw [parts_eq]; omega
 unfold FV
 rcases Classical.em (normal l = []) with q | q
 ·have:PU e (normal l)=cE 0:=by unfold PU; rw [if_pos q]
  rw [this]
  exact ⟨⟨by rw [ATF]; omega,AOR _ _⟩,by rw [ATF]; omega⟩
 ·rw [UT e _ q]
  have h1:=AOY (cpE e) (normal l) (parts (normal l) - 1)
  rw [A11] at h1
  have h2:(parts (normal l) - 1+1) * (wt e+34)≤256 * (1048576+34):=Nat.mul_le_mul (by omega) (by omega)
  exact ⟨⟨by omega,AL4 (A04 e hn) _ _⟩,by omega⟩
theorem AQM {e:Ex} (h:WN e∧wt e≤269000000):WN (notE e)∧wt (notE e)≤269000001:=⟨⟨by rw [AOZ]; omega,AXJ h.1.2⟩,by rw [AOZ]; omega⟩
theorem ASP {P:Ex→Prop} {ins:Ex→List Rng→Ex} {p:Pt} {b:Bin} (h1 : ∀ s∈F8 b,P (ins p.ex s.l)) (h2:J6 p.bins≠[]→P (notE (ins p.ex (J6 p.bins)))) : ∀ r∈QK ins p b,r.length≤2∧∀ e∈r,P e:=by
 have base : ∀ r∈(F8 b).map (fun s => [ins p.ex s.l]),r.length=1∧∀ e∈r,P e:=fun r hr=>by
  obtain ⟨s,hs,rfl⟩:=zJ.1 hr
  exact ⟨rfl,fun e he=>by rw [wG.1 he]; exact h1 s hs⟩
 intro r hr
 unfold QK badO at hr
 by_cases q:J6 p.bins = []
 ·rw [if_pos q] at hr
  obtain ⟨a,b⟩:=base r hr
  exact ⟨by omega,b⟩
 ·rw [if_neg q] at hr
  rcases List.mem_or_eq_of_mem_set (show r∈List.set _ _ _ from hr) with hr | rfl
  ·obtain ⟨a,b⟩:=base r hr
   exact ⟨by omega,b⟩
  ·cases hx:((F8 b).map fun s => [ins p.ex s.l])[((F8 b).map fun s => [ins p.ex s.l]).length - 1]? with
   | none =>
     refine ⟨by simp,fun e he => ?_⟩
     have:e=notE (ins p.ex (J6 p.bins)):=by simpa using he
     rw [this]; exact h2 q
   | some r0 =>
     obtain ⟨a,b⟩:=base r0 (qA hx)
     refine ⟨by simp [a],fun e he => ?_⟩
     rcases zY.1 he with he | he
     ·exact b e he
     ·rw [wG.1 he]; exact h2 q
theorem ALA (ins:Ex→List Rng→Ex) (p:Pt) (b:Bin):(QK ins p b).length=(F8 b).length:=by unfold QK; rw [AJT,jI]
def UW (m:Mo) (x:Hl):List Int:=if x.cross=true then (match AHI m x.idx with | some c=>c.pts | none => []) else [x.idx]
structure Prt (m:Mo) (x:Hl) (L:List (Nat × Nat)):Prop where
 pts:UW m x=L.map fun q=>(q.1:Int)
 bins:x.bins=L.map fun q=>(q.2:Int)
 ok : ∀ q∈L,∃ h:q.1 < m.pts.length,q.2 < m.pts[q.1].bins.length
 n1:1≤L.length
 n4:L.length≤4
def cdQ (ins:Ex→List Rng→Ex) (m:Mo) (q:Nat × Nat):List (List Ex):=match m.pts[q.1]? with
 | some p=>(match p.bins[q.2]? with | some b=>QK ins p b | none => [])
 | none => []
theorem AHN (ins:Ex→List Rng→Ex) {m:Mo} {q:Nat × Nat} (h:q.1 < m.pts.length) (h2:q.2 < m.pts[q.1].bins.length):cdQ ins m q=QK ins m.pts[q.1] m.pts[q.1].bins[q.2]:=by
 unfold cdQ
 rw [jL h]
 show (match m.pts[q.1].bins[q.2]? with | some b=>QK ins m.pts[q.1] b | none => [])=_
 rw [jL h2]
def A1O (ins:Ex→List Rng→Ex) (m:Mo) (L:List (Nat × Nat)):List (List Ex):=JZ (L.map (cdQ ins m))
def KQ (m:Mo) (x:Hl):List (Nat × Nat):=((UW m x).map Int.toNat).zip (x.bins.map Int.toNat)
theorem APP (l:List Int) (h : ∀ z∈l,0≤z):(l.map Int.toNat).map (fun n:Nat=>(n:Int))=l:=by
 rw [wI]
 conv=>rhs; rw [← List.map_id l]
 exact List.map_congr_left fun z hz=>by have:=h z hz; show ((z.toNat:Nat):Int)=z; omega
theorem WH {m:Mo} {x:Hl} (hv:NZ m x=true):Prt m x (KQ m x):=by
 have mk : ∀ (ps bs:List Int),UW m x=ps→x.bins=bs→ps.length=bs.length→(∀ z∈ps,0≤z)→(∀ z∈bs,0≤z)→1≤ps.length→ps.length≤4 →
   (∀ k (h1:k < ps.length) (h2:k < bs.length),∃ h:ps[k].toNat < m.pts.length,bs[k].toNat < m.pts[ps[k].toNat].bins.length)→Prt m x (KQ m x):=by
  intro ps bs hp hb hl p0 b0 l1 l4 hok
  have e1:(KQ m x).map Prod.fst=ps.map Int.toNat:=by
   unfold KQ
   rw [hp,hb,List.map_fst_zip (by simp [hl])]
  have e2:(KQ m x).map Prod.snd=bs.map Int.toNat:=by
   unfold KQ
   rw [hp,hb,List.map_snd_zip (by simp [hl])]
  have hlen:(KQ m x).length=ps.length:=by have:=congrArg wR e1; simpa using this
  refine ⟨?_,?_,fun q hq => ?_,by omega,by omega⟩
  ·have:=congrArg (List.map fun n:Nat=>(n:Int)) e1
   rw [APP ps p0,wI] at this
   rw [hp]; exact this.symm
  ·have:=congrArg (List.map fun n:Nat=>(n:Int)) e2
   rw [APP bs b0,wI] at this
   rw [hb]; exact this.symm
  ·obtain ⟨k,hk,rfl⟩:=qH hq
   have h1:k < ps.length:=by omega
   have h2:k < bs.length:=by omega
   have g1:(KQ m x)[k].1=ps[k].toNat:=by
    have:((KQ m x).map Prod.fst)[k]? = (ps.map Int.toNat)[k]? := by rw [e1]
    rw [jX,jX,jL hk,jL h1] at this
    simpa using this
   have g2:(KQ m x)[k].2=bs[k].toNat:=by
    have:((KQ m x).map Prod.snd)[k]? = (bs.map Int.toNat)[k]? := by rw [e2]
    rw [jX,jX,jL hk,jL h2] at this
    simpa using this
   obtain ⟨q1,q2⟩:=hok k h1 h2
   rw [← g1] at q1
   refine ⟨q1,?_⟩
   rw [g2]
   have:m.pts[(KQ m x)[k].1]=m.pts[ps[k].toNat]:=by congr 1
   rw [this]; exact q2
 cases hc:x.cross
 ·obtain ⟨i,hi,k,hk,hz,hb,hkd,hg⟩:=PY hv hc
  refine mk [(i:Int)] [(k:Int)] ?_ hb rfl (fun z hz => ?_) (fun z hz => ?_) (by simp) (by simp) fun k' h1 h2 => ?_
  ·unfold UW; rw [if_neg (by rw [hc]; decide),hz]
  ·rw [wG.1 hz]; omega
  ·rw [wG.1 hz]; omega
  ·have:k'=0:=by simp at h1; omega
   subst this
   exact ⟨hi,hk⟩
 ·obtain ⟨i,hi,hz,hin,hh,hg⟩:=PZ hv hc
  have hcg:=hg.crs _ (jO hi)
  have hl:=QD hin
  have hl2:m.crs[i].pts.length=x.bins.length:=by rw [← hl]; unfold szs; rw [jI]
  have h2:=hcg.two; have h4:=hcg.four
  refine mk m.crs[i].pts x.bins ?_ rfl hl2 (fun z hz=>(hcg.here z hz).1) (fun z hz => ?_) (by omega) (by omega) fun k h1 h2 => ?_
  ·unfold UW; rw [if_pos hc,hz,O8 hi]
  ·obtain ⟨k,hk,rfl⟩:=qH hz
   exact (X3 hin k hk (by omega)).1
  ·obtain ⟨q1,q2⟩:=X3 hin k h2 h1
   refine ⟨hcg.here.toNat h1,?_⟩
   have:=hcg.here.bins h1
   rw [this]; omega
theorem A3L {m:Mo} (hm:MoOk m) (h0:IA m=0) {p:Pt} (hp:p∈m.pts) {b:Bin} (hb:b∈p.bins):BdB p b:=by
 have v:=ABK h0 p hp
 have vb:=v.bins b hb
 have h1:=v.n64
 have h2:=vb.few
 have h3:=v.badLen
 exact ⟨vb.ne,by omega,fun s hs=>by have:=(vb.each s hs).2.1; omega,by omega,by omega,(hm.pts p hp).ex⟩
theorem ALE {P:Ex→Prop} {ins:Ex→List Rng→Ex} {m:Mo} (h0:IA m=0) {q:Nat × Nat} (h:q.1 < m.pts.length) (h2:q.2 < m.pts[q.1].bins.length)
  (h3 : ∀ l:List Rng,l.length≤4096→P (ins m.pts[q.1].ex l)∧P (notE (ins m.pts[q.1].ex l))) : ∀ r∈cdQ ins m q,r.length≤2∧∀ e∈r,P e:=by
 rw [AHN ins h h2]
 have v:=ABK h0 _ (jO h)
 have vb:=v.bins _ (jO h2)
 exact ASP (fun s hs=>(h3 s.l (by have:=(vb.each s hs).2.1; omega)).1) fun _=>(h3 _ v.badLen).2
theorem AHM {ins:Ex→List Rng→Ex} {m:Mo} (h0:IA m=0) {q:Nat × Nat} (h:q.1 < m.pts.length) (h2:q.2 < m.pts[q.1].bins.length):1≤(cdQ ins m q).length∧(cdQ ins m q).length≤8:=by
 rw [AHN ins h h2,ALA]
 have vb:=(ABK h0 _ (jO h)).bins _ (jO h2)
 exact ⟨List.length_pos_iff.2 vb.ne,vb.few⟩
theorem ADY {P:Ex→Prop} {cs:List (List (List Ex))} (h : ∀ c∈cs,∀ r∈c,∀ e∈r,P e) : ∀ r∈JZ cs,∀ e∈r,P e:=by
 intro r hr e he
 unfold JZ at hr
 obtain ⟨t,_,rfl⟩:=zJ.1 hr
 unfold rowA at he
 obtain ⟨c,hc,he⟩:=List.mem_flatMap.1 he
 unfold rowC at he
 split at he
 ·cases hx:c[t - (MZ cs - c.length)]? with
  | none=>rw [hx] at he; cases he
  | some r0=>rw [hx] at he; exact h c hc r0 (qA hx) e he
 ·cases he
theorem AKP {B:Nat} : ∀ {R:List (List Ex)},(∀ r∈R,r.length≤B)→R.flatten.length≤B * R.length
 | [],_=>by simp
 | r :: R,h=>by
   have h1:=h r (by simp)
   have h2:=AKP (R:=R) fun r hr=>h r (by simp [hr])
   rw [List.flatten_cons,zZ,zW,Nat.mul_add]; omega
theorem AF4 {cs:List (List (List Ex))} (h4:cs.length≤4) (h8 : ∀ c∈cs,c.length≤8) (h2 : ∀ c∈cs,∀ r∈c,r.length≤2):(JZ cs).length≤8∧(∀ r∈JZ cs,r.length≤8)∧(JZ cs).flatten.length≤64:=by
 have hn:MZ cs≤8:=TI cs 0 _ (qV _) h8
 have a:(JZ cs).length≤8:=by unfold JZ; simpa using hn
 have b : ∀ r∈JZ cs,r.length≤8:=fun r hr=>by
  unfold JZ at hr
  obtain ⟨t,_,rfl⟩:=zJ.1 hr
  have:=ABX (n:=MZ cs) (t:=t) h2
  omega
 refine ⟨a,b,?_⟩
 have:=AKP b
 omega
def cnL (ins:Ex→List Rng→Ex) (m:Mo) (x:Hl):List (List Ex):=A1O ins m (KQ m x)
def cnE (ins:Ex→List Rng→Ex) (m:Mo) (x:Hl):Int:=if NZ m x=true then (if (cnL ins m x).flatten.all (fun e=>exE e == 0)=true then 0 else 2) else 1
def cnV (ins:Ex→List Rng→Ex) (m:Mo) (x:Hl):AV := .tup [if cnE ins m x=0 then .sl .any 1 ((cnL ins m x).map SC) else .sl .nil 0 [],.int .i64 (cnE ins m x)]
theorem AFA (G:Nat→AV) (m:Mo) (x:Hl) (hv:NZ m x=true) (h:Hp) : ∃ s,PCall (En G) 32 [.agg (EE m),.agg (IP x)] h (.sl s 1 ((UW m x).map Bins.qencI)):=by
 cases hc:x.cross
 ·obtain ⟨i,hi,k,hk,hz,hb,hkd,hg⟩:=PY hv hc
  exact ⟨_,by have:=AJI G m x hc h; unfold UW; rw [if_neg (by rw [hc]; decide)]; exact this⟩
 ·obtain ⟨i,hi,hz,hin,hh,hg⟩:=PZ hv hc
  exact ⟨_,by have:=AJJ G m x hc i hi hz h; unfold UW; rw [if_pos hc,hz,O8 hi]; exact this⟩
section
variable (G:Nat→AV)
theorem AN9 (m:Mo) (hm:MoOk m) (h0:IA m=0) (x:Hl) (L:List (Nat × Nat)) (hL:Prt m x L) (j:Nat) (hj:j < L.length) (b2 b3:Nat) (h:Hp) (gm:h[b2]? = some (.live 2 [EE m])) (gh:h[b3]? = some (.live 3 [IP x])) :
  PCall (En G) 34 [.int .i64 (j:Nat),.int .i64 (L[j].1:Nat),.ptr b2 0 0,.ptr b3 0 0] h (.sl .any 1 ((cdQ FV m L[j]).map encX)):=by
 obtain ⟨h1,h2⟩:=hL.ok _ (jO hj)
 have B:=A3L hm h0 (jO h1) (jO h2)
 have hb:j < x.bins.length:=by rw [hL.bins,jI]; exact hj
 have hbj:x.bins[j]=((L[j].2:Nat):Int):=by
  have:x.bins[j]? = (L.map fun q=>((q.2:Nat):Int))[j]? := by rw [← hL.bins]
  rw [jL hb,jX,jL hj] at this
  simpa using this
 rw [AHN FV h1 h2]
 refine acN Tryz.func34 rfl ?_
 show awp _ _ _ _ _ (D8 _ [.tmp 6] _)
 simp -implicitDefEqProofs only [BC,BA,A8,AY,BB,AO,AQ,AL,BD,AX,AC,AU,GZ,A7,jA,jB,enP]
 refine FN (by kernel_rfl) ?_
 simp -implicitDefEqProofs only [G5,EM,D9,FU,EQ,GH,JI,FT,EX,EU,H6,GN,BJ,A8,CJ,AO,AA,AZ,BU,BX,BN,CG,AB,BF,BL,jE,jD,jF,↓reduceIte,jC,jQ,Nat.add_zero,jG,jA,enP,WQ,JV,JS,PL,UR gm,D7 h1,FP AEV AAY I7 h1,AJ0 gh,D7 hb,DZ ag3 hb,Cov.encI0,hbj]
 refine ⟨_,ADM G m.pts[L[j].1] L[j].2 h2 B h,?_⟩
 try simp -implicitDefEqProofs only []
 exact ⟨by first | exact True.intro | exact rfl,by first | exact True.intro | exact rfl⟩
end
theorem A51 (h:Hp) (xs:List (List AV)):EN Tryz.prog false h 73 1 [(0,.sl .any 1 xs)]=some (.sl .full 1 [[.sl .any 1 xs]],h):=by kernel_rfl
theorem A5L : ∀ l:List (List (List Ex)),LH (l.map TT)=true:=fun l=>by
 unfold LH
 rw [zF]
 intro row hr
 obtain ⟨c,_,rfl⟩:=zJ.1 hr; rfl
theorem AZ8 (ins:Ex→List Rng→Ex) (m:Mo) (x:Hl) (n:Nat) (H:Hp):IG n H 3 (cnV ins m x)=cnV ins m x:=by
 unfold cnV
 split <;> rfl
theorem AZ9 {ins:Ex→List Rng→Ex} {m:Mo} {x:Hl} (h:NZ m x=false):cnV ins m x = .tup [.sl .nil 0 [],.int .i64 1]:=by
 have:cnE ins m x=1:=by unfold cnE; rw [if_neg (by rw [h]; decide)]
 unfold cnV
 rw [this]; rfl
theorem AZ7 {ins:Ex→List Rng→Ex} {m:Mo} {x:Hl} (h:NZ m x=true) (hc:(cnL ins m x).flatten.all (fun e=>exE e == 0)=false):cnV ins m x = .tup [.sl .nil 0 [],.int .i64 2]:=by
 have:cnE ins m x=2:=by unfold cnE; rw [if_pos h,if_neg (by rw [hc]; decide)]
 unfold cnV
 rw [this]; rfl
theorem A3G {ins:Ex→List Rng→Ex} {m:Mo} {x:Hl} (h:NZ m x=true) (hc:(cnL ins m x).flatten.all (fun e=>exE e == 0)=true):cnV ins m x = .tup [.sl .any 1 ((cnL ins m x).map SC),.int .i64 0]:=by
 have:cnE ins m x=0:=by unfold cnE; rw [if_pos h,if_pos hc]
 unfold cnV
 rw [this]; rfl
theorem AGE {m:Mo} {x:Hl} (h:NZ m x=true):IA m=0:=by
 unfold NZ at h
 rw [Bool.and_eq_true] at h
 simpa using h.1
section
variable (G:Nat→AV)
set_option maxHeartbeats 8000000 in
theorem QN (hG:GOk G) (m:Mo) (hm:MoOk m) (x:Hl) (hn:x.bins.length≤1048576) (h:Hp):PCall (En G) 15 [.agg (EE m),.agg (IP x)] h (cnV FV m x):=by
 refine ACalls.pure (R:=fun v H=>v=cnV FV m x∧Sm.ext h H) 3 ?_ (fun v H ⟨a,b⟩=>⟨b,by rw [a,AZ8]⟩)
 refine NY (H:=hint [] [(36,[35])]) (enM G) Tryz.func15 rfl (by kernel_rfl) (by kernel_rfl) (jH (by kernel_rfl)) ?_
 show awp _ _ _ _ _ (D8 _ [.tmp 4,.tmp 5] _)
 have t:=Hb.mk' h m x
 simp -implicitDefEqProofs only [DC,jJ,jP,BC,BA,A8,AY,BB,AL,BD,AX,AC,AA,AZ,AU,BH,GZ,A7,FM,BX,CB,BF,BL,↓reduceIte,jC,jA,jB,enP,zA,GM,bxM,bxH]
 generalize h ++ [ABlk.live 2 [EE m]] ++ [ABlk.live 3 [IP x]]=H at t ⊢
 generalize (h ++ [ABlk.live 2 [EE m]]).length=hb at t ⊢
 simp -implicitDefEqProofs only [DC,jJ,jP,AY,AL,BD,AX,AC,AA,AZ,BU,BX,BZ,BO,AB,jE,jD,jF,↓reduceIte,jC,jA,jB,enP,zA,GM,ldM t.gm,ldH t.gh]
 refine (valid_prog G hG m hm x hn H).use ?_
 cases hv:NZ m x
 ·simp -implicitDefEqProofs only [DC,jJ,jP,BC,BA,BJ,BI,A8,CQ,IU,CZ,AY,BB,AL,BD,AX,AC,AA,AZ,AU,BH,GZ,A7,GU,AB,EP,↓reduceIte,jC,jA,jB,zA,GM]
  exact ⟨by rw [AZ9 hv],t.hx⟩
 have h0:=AGE hv
 have hL:=WH hv
 obtain ⟨s,hp⟩:=AFA G m x hv H
 rw [hL.pts] at hp
 simp -implicitDefEqProofs only [DC,jJ,jP,BC,BA,BR,BI,A8,DI,AY,BB,AL,BD,AX,AC,AA,AZ,AU,BU,GZ,A7,BX,GU,G9,BZ,BO,AB,EP,jE,jD,jF,↓reduceIte,jC,jA,jV,jB,enP,zA,GM,ldM t.gm,ldH t.gh]
 refine hp.use ?_
 have hcl:cnL FV m x=JZ ((KQ m x).map (cdQ FV m)):=rfl
 have hln:=hL.n4
 have hl1:=hL.n1
 have hev : ∀ q∈KQ m x,(∀ r∈cdQ FV m q,r.length≤2∧∀ e∈r,WN e)∧1≤(cdQ FV m q).length∧(cdQ FV m q).length≤8:=fun q hq=>by
  obtain ⟨a,b⟩:=hL.ok q hq
  have hw:=(hm.pts _ (jO a)).ex
  exact ⟨ALE h0 a b fun l hl=>⟨(AH0 hw hl).1,(AQM (AH0 hw hl)).1⟩,AHM h0 a b⟩
 generalize KQ m x=L at hL hcl hln hl1 hev
 simp -implicitDefEqProofs only [DC,jJ,jP,BP,A8,AY,BB,AL,BD,AX,AC,AA,AZ,AU,BH,BG,D6,AB,↓reduceIte,jA,jB,enP,KH,zA,GM,jI]
 refine JA 0 (fun F H' => ∃ v,F 7=v∧Sm.ext H H'∧outG 1 TT H (L.map (cdQ FV m)) v H') (fun _ _=>False) ?_ ?_ (fun _ _ q=>q.elim)
 ·refine DY (fun n F H' => ∃ j v,n+j=L.length∧F 6 = .fn (.func 34) [] [.ptr h.length 0 0,.ptr hb 0 0]∧F 7=v∧F 20 = .sl s 1 ((L.map fun q=>((q.1:Nat):Int)).map Bins.qencI)∧F 21 = .int .i64 (L.length:Nat)∧F 22 = .int .i64 (j:Nat)∧Sm.ext H H'∧outG 1 TT H ((L.take j).map (cdQ FV m)) v H') L.length
   ⟨0,.sl .nil 0 [],by simp,by simp -implicitDefEqProofs only [AA,↓reduceIte,jC],by simp -implicitDefEqProofs only [AA,↓reduceIte,jC],by simp -implicitDefEqProofs only [AA,↓reduceIte,jC],by simp -implicitDefEqProofs only [AA,↓reduceIte,jC],by simp -implicitDefEqProofs only [AA,↓reduceIte] <;> rfl,ext.rfl' _,by rw [qO]; exact outG.nil _ _ _ _⟩ ?_
  rintro n F H' ⟨j,v,hj,f6,f7,f20,f21,f22,hx,ho⟩
  simp -implicitDefEqProofs only [DC,jJ,jP,BC,BA,BI,A8,AY,BB,AL,BD,AX,AC,AA,AZ,BQ,AB,C9,↓reduceIte,jA,jB,enP,zA,GM,f21,f22]
  refine CV (fun hc => ?_) (fun hc => ?_)
  ·have hj':j < L.length:=by simpa using hc
   have hj2:j < (L.map fun q=>((q.1:Nat):Int)).length:=by rw [jI]; exact hj'
   have hg:(L.map fun q=>((q.1:Nat):Int))[j]=((L[j].1:Nat):Int):=by simp
   have hlen:((L.take j).map (cdQ FV m)).length < 8388608:=by rw [jI,qB]; omega
   obtain ⟨v',H2,ha,ho2,_,he2,_,_⟩:=ho.append (P:=Tryz.prog) A7G A31 A7E A8D (by omega) hlen hx (cdQ FV m L[j])
   have ha':FZ Tryz.prog true H' 73 73 v (.sl .full 1 [[.sl .any 1 ((cdQ FV m L[j]).map encX)]])=some (v',H2):=ha
   have hst:(L.take (j+1)).map (cdQ FV m)=(L.take j).map (cdQ FV m) ++ [cdQ FV m L[j]]:=by
    rw [zN hj',yC]; rfl
   simp -implicitDefEqProofs only [DC,jJ,jP,BC,BP,BA,BR,A8,AY,BB,AL,BD,AX,AC,AA,AZ,BG,A7,BX,CG,BZ,BO,AB,jE,jD,List.nil_append,List.cons_append,↓reduceIte,jC,jA,jB,enP,JS,zA,GM,f6,f7,f20,f22,D7 hj2,DZ ag3 hj2,Cov.encI0,hg]
   refine (AN9 G m hm h0 x L hL j hj' h.length hb H' (E8 hx t.gm) (E8 hx t.gh)).use ?_
   simp -implicitDefEqProofs only [FK,FH,DC,jJ,jP,BA,A8,EH,ER,AY,BB,AL,BD,AX,AC,AA,AZ,AU,BH,BG,A7,EC,BQ,GL,CB,AB,DK,↓reduceIte,jC,jA,jB,enP,zA,GM,f7,f22,A51,ha',wrap_succ (show j < 9223372036854775807 by omega)]
   exact ⟨n - 1,by omega,j+1,v',by omega,by first | exact True.intro | exact f6,by first | exact True.intro | exact rfl,by first | exact True.intro | exact f20,by first | exact True.intro | exact f21,by first | exact True.intro | exact rfl,he2,by rw [hst]; exact ho2⟩
  ·have hj' : ¬ j < L.length:=by simpa using hc
   rw [jW (by omega)] at ho
   simp -implicitDefEqProofs only [DW,EG,NG,EZ,AA,↓reduceIte,jC]
   exact ⟨v,by first | exact True.intro | exact f7,hx,ho⟩
 rintro F H' ⟨v,f7,hx,ho⟩
 have hcl4:(L.map (cdQ FV m)).length≤4:=by rw [jI]; exact hln
 have hcl1:L.map (cdQ FV m)≠[]:=by intro q; have:=congrArg wR q; rw [jI,qE] at this; omega
 have hc8 : ∀ c∈L.map (cdQ FV m),c.length≤8:=fun c hc=>by
  obtain ⟨q,hq,rfl⟩:=zJ.1 hc
  exact (hev q hq).2.2
 have hc2 : ∀ c∈L.map (cdQ FV m),∀ r∈c,r.length≤2:=fun c hc r hr=>by
  obtain ⟨q,hq,rfl⟩:=zJ.1 hc
  exact ((hev q hq).1 r hr).1
 have hcw : ∀ c∈L.map (cdQ FV m),∀ r∈c,∀ e∈r,WN e:=fun c hc r hr=>by
  obtain ⟨q,hq,rfl⟩:=zJ.1 hc
  exact ((hev q hq).1 r hr).2
 generalize L.map (cdQ FV m)=cs at ho hcl hcl4 hcl1 hc8 hc2 hcw
 clear hev hp
 obtain ⟨o,rfl,ho1,hob⟩ : ∃ o,v = .own o 0 cs.length∧H.length≤o∧H'[o]? = some (.live 1 (cs.map TT)):=by
  rcases ho with ⟨e1,_⟩ | ⟨_,o,h1,h2,h3⟩
  ·exact absurd e1 hcl1
  ·exact ⟨o,h2,h1,h3⟩
 have hz:=AKJ (i:=35) (off:=0) (len:=cs.length) hob (by simp) (by rw [zO,jW (by simp)]; exact A5L cs)
 rw [zO,jW (by simp)] at hz
 have hx2:=hx.set ho1 .dead
 simp -implicitDefEqProofs only [DC,jJ,jP,BC,BA,A8,EY,AY,AL,BD,AX,AC,AA,AZ,BU,BG,BZ,BO,jE,jD,jF,↓reduceIte,jA,jB,zA,GM,f7,ACU,AL,hz]
 generalize H'.set o .dead=H2 at hx2 ⊢
 refine (AHU G cs .any (by omega) (fun c hc=>by have:=hc8 c hc; omega) hc2 H2).use ?_
 obtain ⟨ha1,ha2,ha3⟩:=AF4 hcl4 hc8 hc2
 have haw : ∀ e∈(JZ cs).flatten,WN e:=fun e he=>by
  obtain ⟨r,hr,he⟩:=List.mem_flatten.1 he
  exact ADY hcw r hr e he
 rw [← hcl] at ha1 ha2 ha3 haw ⊢
 clear hcl
 simp -implicitDefEqProofs only [DC,jJ,jP,BC,BA,A8,AY,BB,AL,BD,AX,AC,AA,AZ,BU,BG,A7,BZ,BO,jE,jD,jF,↓reduceIte,jA,jB,zA,GM]
 refine (ALB G (cnL FV m x) .any (by omega) (by omega) H2).use ?_
 simp -implicitDefEqProofs only [DC,jJ,jP,BP,A8,AY,BB,AL,BD,AX,AC,AA,AZ,AU,BH,BG,D6,AB,↓reduceIte,jA,jB,enP,TW,zA,GM,jI]
 generalize hE:(cnL FV m x).flatten=E at ha3 haw ⊢
 have hok : ∀ b,E.all (fun e=>exE e == 0)=b→(cnL FV m x).flatten.all (fun e=>exE e == 0)=b:=fun b hb=>by rw [hE]; exact hb
 have hhx:=t.hx.trans hx2
 refine JA 2 (fun F H'=>F 10 = .sl .any 1 ((cnL FV m x).map SC)∧Sm.ext h H'∧E.all (fun e=>exE e == 0)=true) (fun F H'=>F 4 = .sl .nil 0 []∧F 5 = .int .i64 2∧Sm.ext h H'∧E.all (fun e=>exE e == 0)=false) ?_ ?_ ?_
 ·refine DY (fun n F H' => ∃ i,n+i=E.length∧F 10 = .sl .any 1 ((cnL FV m x).map SC)∧F 38 = .sl (Cov.nm E) 4 (E.map CY)∧F 39 = .int .i64 (E.length:Nat)∧F 40 = .int .i64 (i:Nat)∧Sm.ext h H'∧E.all (fun e=>exE e == 0)=(E.drop i).all (fun e=>exE e == 0)) E.length
   ⟨0,by simp,by simp -implicitDefEqProofs only [AA,↓reduceIte,jC],by simp -implicitDefEqProofs only [AA,↓reduceIte,jC],by simp -implicitDefEqProofs only [AA,↓reduceIte,jC],by simp -implicitDefEqProofs only [AA,↓reduceIte] <;> rfl,hhx,rfl⟩ ?_
  rintro n F H3 ⟨i,hi,f10,f38,f39,f40,hx3,hq⟩
  simp -implicitDefEqProofs only [DC,jJ,jP,BC,BA,BI,A8,AY,BB,AL,BD,AX,AC,AA,AZ,BQ,AB,C9,↓reduceIte,jA,jB,enP,zA,GM,f39,f40]
  refine CV (fun hc => ?_) (fun hc => ?_)
  ·have hi':i < E.length:=by simpa using hc
   rw [List.drop_eq_getElem_cons hi',List.all_cons] at hq
   simp -implicitDefEqProofs only [DC,jJ,jP,BC,BP,BA,BR,A8,AY,BB,AL,BD,AX,AC,ES,AA,AZ,BU,FO,BX,EI,CG,BZ,BO,CB,AB,DT,jE,jD,jF,↓reduceIte,jC,jA,jB,enP,WP,jT,zA,GM,f38,f40,D7 hi',FP U4 MM H7 hi',AA5,AIM _ _ [.int .i64 0,.int .i64 0,.str ⟨#[]⟩,.sl .nil 0 []] rfl,ldE]
   refine (VZ G hG E[i] _ (haw _ (jO hi'))).use ?_
   simp -implicitDefEqProofs only [DC,jJ,jP,BI,A8,AY,BB,AL,BD,AX,AC,AA,AZ,AU,BH,BQ,AB,ET,↓reduceIte,jA,jB,enP,zA,GM,bne]
   cases hz:(exE E[i] == 0)
   ·rw [hz,Bool.false_and] at hq
    simp -implicitDefEqProofs only [DC,jJ,jP,BC,BA,BJ,A8,CQ,ED,RI,F7,CZ,AY,BB,AL,BD,AX,AC,AA,AU,BH,GZ,A7,↓reduceIte,jC,jA,jB,zA,GM]
    exact ⟨by first | exact True.intro | exact rfl,by first | exact True.intro | exact rfl,hx3.app _,hq⟩
   ·rw [hz,Bool.true_and] at hq
    simp -implicitDefEqProofs only [DC,jJ,jP,BA,BR,A8,EH,ER,DI,AY,BB,AL,BD,AX,AC,AA,AZ,AU,BH,BG,BQ,AB,DK,↓reduceIte,jC,jA,jV,jB,enP,zA,GM,f40,wrap_succ (show i < 9223372036854775807 by omega)]
    exact ⟨n - 1,by omega,i+1,by omega,by first | exact True.intro | exact f10,by first | exact True.intro | exact f38,by first | exact True.intro | exact f39,by first | exact True.intro | exact rfl,hx3.app _,hq⟩
  ·have hi' : ¬ i < E.length:=by simpa using hc
   rw [List.drop_eq_nil_of_le (by omega)] at hq
   simp -implicitDefEqProofs only [DW,EG,NG,EZ,AA,↓reduceIte,jC]
   exact ⟨by first | exact True.intro | exact f10,hx3,hq⟩
 ·rintro F H3 ⟨f10,hx3,hq⟩
  simp -implicitDefEqProofs only [DC,jJ,jP,BC,BA,BJ,A8,EY,IU,AY,BB,AL,BD,AX,AC,AA,AZ,AU,BH,BG,A7,↓reduceIte,jC,jA,jB,zA,GM,f10]
  exact ⟨by rw [A3G hv (hok _ hq)],hx3⟩
 ·rintro F H3 ⟨f4,f5,hx3,hq⟩
  simp -implicitDefEqProofs only [CQ,ED,IU,f4,f5]
  exact ⟨by rw [AZ7 hv (hok _ hq)],hx3⟩
end
theorem A1N (e:Ex):(cpE e).op=e.op:=by rw [WX]; rfl
theorem A70 (e:Ex):(cpE e).n=e.n:=by rw [WX]; rfl
theorem AQE (e:Ex):(cpE e).name=e.name:=by rw [WX]; rfl
theorem AQF (e:Ex):(cpE e).args=e.args.map cpE:=by rw [WX]; rfl
theorem AJE : ∀ l:List Ex,(∀ e∈l,pre (cpE e)=(pre e).map cpE)→IQ (l.map cpE)=(IQ l).map cpE
 | [],_=>rfl
 | e :: l,h=>by
   show pre (cpE e) ++ IQ (l.map cpE)=(pre e ++ IQ l).map cpE
   rw [yC,h e (by simp),AJE l fun x hx=>h x (by simp [hx])]
theorem A2L (e:Ex):pre (cpE e)=(pre e).map cpE:=by
 induction e using Ex.induct with | h e ih => ?_
 rw [pre_eq,pre_eq e,AQF,AJE _ ih,jE]
theorem AWH {ins:Ex→List Rng→Ex} {m:Mo} {x:Hl} (hm:MoOk m) (hv:NZ m x=true) (hi : ∀ {e:Ex} {l:List Rng},wt e≤1048576→l.length≤4096→WN (ins e l)∧wt (ins e l)≤269000000) :
  (cnL ins m x).length≤8∧(cnL ins m x).flatten.length≤64∧∀ r∈cnL ins m x,r.length≤64∧∀ e∈r,WN e:=by
 have h0:=AGE hv
 have hL:=WH hv
 have hln:=hL.n4
 have hev : ∀ q∈KQ m x,(∀ r∈cdQ ins m q,r.length≤2∧∀ e∈r,WN e)∧1≤(cdQ ins m q).length∧(cdQ ins m q).length≤8:=fun q hq=>by
  obtain ⟨a,b⟩:=hL.ok q hq
  have hw:=(hm.pts _ (jO a)).ex
  exact ⟨ALE h0 a b fun l hl=>⟨(hi hw hl).1,(AQM (hi hw hl)).1⟩,AHM h0 a b⟩
 unfold cnL A1O
 have hc8 : ∀ c∈(KQ m x).map (cdQ ins m),c.length≤8:=fun c hc=>by
  obtain ⟨q,hq,rfl⟩:=zJ.1 hc
  exact (hev q hq).2.2
 have hc2 : ∀ c∈(KQ m x).map (cdQ ins m),∀ r∈c,r.length≤2:=fun c hc r hr=>by
  obtain ⟨q,hq,rfl⟩:=zJ.1 hc
  exact ((hev q hq).1 r hr).1
 have hcw : ∀ c∈(KQ m x).map (cdQ ins m),∀ r∈c,∀ e∈r,WN e:=fun c hc r hr=>by
  obtain ⟨q,hq,rfl⟩:=zJ.1 hc
  exact ((hev q hq).1 r hr).2
 obtain ⟨ha1,ha2,ha3⟩:=AF4 (by rw [jI]; exact hln) hc8 hc2
 exact ⟨by omega,by omega,fun r hr=>⟨by have:=ha2 r hr; omega,ADY hcw r hr⟩⟩
end Go.Proofs.YtfpagfhhhlljjaaGreatDoor.Ho
namespace Go.Proofs.YtfpagfhhhlljjaaGreatDoor.Ho
open Sm Bins Cov Xe Go.RowKit
open List renaming all_cons→qQ,mem_append→zY,mem_singleton→wG,map_cons→jE,map_nil→jD
theorem A12 (l:List Sg) (e:Ex):LP l (cpE e)=LP l e:=by
 induction e using Ex.induct with | h e ih => ?_
 rw [O6,O6 l e,A1N,A70,AQE,AQF,KZ,KZ,List.map_map]
 congr 1
 exact List.map_congr_left fun x hx=>ih x hx
def kN (l:List Sg) (e:Ex):Bool:=(pre e).all (knE l)
theorem kNs (l:List Sg) : ∀ xs:List Ex,(IQ xs).all (knE l)=xs.all (kN l)
 | []=>rfl
 | x :: xs=>by
   show (pre x ++ IQ xs).all _=_
   rw [List.all_append,qQ,kNs l xs]; rfl
theorem AU9 (l:List Sg) (e:Ex):kN l e=(knE l e && e.args.all (kN l)):=by
 unfold kN
 rw [pre_eq,qQ,kNs]
 rfl
theorem A48 (l:List Sg) (e:Ex):kN l (cpE e)=kN l e:=by
 unfold kN
 rw [A2L,List.all_map]
 congr 1
 funext x
 show knE l (cpE x)=knE l x
 unfold knE
 rw [A1N,AQE]
theorem A1H (l:List Sg) (n:Int):kN l (cE n)=true:=rfl
theorem AVA (l:List Sg) : ∀ L:List Rng,(cEs L).all (kN l)=true
 | []=>rfl
 | a :: L=>by rw [U3,qQ,qQ,A1H,A1H,AVA l L]; rfl
theorem AP1 (l:List Sg) (e:Ex) (L:List Rng):kN l (LU e L)=kN l e:=by
 rw [X4,AU9]
 show (true && (insL e L).all (kN l))=_
 unfold insL
 rw [qQ,AVA,Bool.and_true,Bool.true_and]
theorem A2W (l:List Sg) (a b:Ex):kN l (orE a b)=(kN l a && kN l b):=by
 unfold orE
 rw [AU9]
 show (true && [a,b].all (kN l))=_
 simp
theorem AZG (l:List Sg) (a:Ex):kN l (notE a)=kN l a:=by
 unfold notE
 rw [AU9]
 show (true && [a].all (kN l))=_
 simp
theorem AP0 (l:List Sg) (e:Ex) (L:List Rng) : ∀ k,kN l (RG e L k)=kN l e
 | 0=>AP1 l e _
 | k+1=>by
   show kN l (orE (RG e L k) (LU e (part L (k+1))))=_
   rw [A2W,AP0 l e L k,AP1,Bool.and_self]
def XB (r:Rng):Prop:=0≤r.lo∧r.lo≤65535∧0≤r.hi∧r.hi≤65535
theorem AZH {out:List Rng} {r:Rng} (h : ∀ x∈out,XB x) (hr:XB r) : ∀ x∈join out r,XB x:=by
 unfold join
 split
 ·rename_i t ht
  split
  ·intro x hx
   rcases zY.1 hx with hx | hx
   ·exact h x ((List.dropLast_sublist out).subset hx)
   ·rw [wG.1 hx]
    obtain ⟨a,b,c,d⟩:=h t (List.mem_of_getLast? ht)
    obtain ⟨a',b',c',d'⟩:=hr
    exact ⟨a,b,by show 0≤max t.hi r.hi; omega,by show max t.hi r.hi≤65535; omega⟩
  ·intro x hx
   rcases zY.1 hx with hx | hx
   ·exact h x hx
   ·rw [wG.1 hx]; exact hr
 ·intro x hx
  rcases zY.1 hx with hx | hx
  ·exact h x hx
  ·rw [wG.1 hx]; exact hr
theorem ARL {xs:List Rng} (h : ∀ r∈xs,XB r) : ∀ r∈normal xs,XB r:=by
 have gen : ∀ (ys out:List Rng),(∀ r∈out,XB r)→(∀ r∈ys,XB r)→∀ r∈ys.foldl join out,XB r:=by
  intro ys
  induction ys with
  | nil=>intro out ho _; exact ho
  | cons y ys ih =>
    intro out ho hy
    rw [List.foldl_cons]
    exact ih _ (AZH ho (hy y (by simp))) fun r hr=>hy r (by simp [hr])
 refine gen _ [] (fun r hr=>by cases hr) fun r hr => ?_
 have:=List.mem_mergeSort.1 hr
 exact h r ((List.mem_filter.1 this).1)
theorem ATK (l:List Sg) {n:Int} (h0:0≤n) (h1:n≤65535):LP l (cE n)=n.toNat:=by
 unfold cE
 rw [O6]
 show (if (1:Int)=1 then n.toNat % 65536 else _)=_
 rw [if_pos rfl]
 omega
theorem AJ7 (l:List Sg) (v:Nat) : ∀ L:List Rng,(∀ r∈L,XB r)→Xe.insW v ((cEs L).map (LP l))=inside L (v:Int)
 | [],_=>rfl
 | a :: L,h=>by
   obtain ⟨a1,a2,a3,a4⟩:=h a (by simp)
   rw [U3,jE,jE,ATK l a1 a2,ATK l a3 a4]
   show ((decide (a.lo.toNat≤v) && decide (v≤a.hi.toNat)) || Xe.insW v ((cEs L).map (LP l)))=(((decide (a.lo≤(v:Int)) && decide ((v:Int)≤a.hi)) || inside L (v:Int)))
   rw [AJ7 l v L fun r hr=>h r (by simp [hr])]
   congr 2
   ·rw [decide_eq_decide]; omega
   ·rw [decide_eq_decide]; omega
theorem AIE (l:List Sg) (e:Ex) (L:List Rng) (h : ∀ r∈L,XB r):LP l (LU e L)=tr (inside L ((LP l e:Nat):Int)):=by
 rw [X4,O6]
 show opW 23 (KD l (insL e L))=_
 rw [KZ]
 unfold insL
 rw [jE]
 show tr (Xe.insW (LP l e) ((cEs L).map (LP l)))=_
 rw [AJ7 l _ L h]
theorem AX0 (l:List Sg) (a b:Ex) {x y:Bool} (ha:LP l a=tr x) (hb:LP l b=tr y):LP l (orE a b)=tr (x || y):=by
 unfold orE
 rw [O6]
 have e1 : ∀ vs,RV l 20 0 ⟨#[]⟩ vs=opW 20 vs:=fun vs=>by unfold RV; simp
 have e2:opW 20 [tr x,tr y]=tr (x || y):=by cases x <;> cases y <;> decide
 show RV l 20 0 ⟨#[]⟩ (KD l [a,b])=_
 rw [e1,KZ,jE,jE,jD,ha,hb,e2]
theorem ATJ (l:List Sg) (a:Ex) {x:Bool} (ha:LP l a=tr x):LP l (notE a)=tr (!x):=by
 unfold notE
 rw [O6]
 have e1 : ∀ vs,RV l 4 0 ⟨#[]⟩ vs=opW 4 vs:=fun vs=>by unfold RV; simp
 have e2:opW 4 [tr x]=tr (!x):=by cases x <;> decide
 show RV l 4 0 ⟨#[]⟩ (KD l [a])=_
 rw [e1,KZ,jE,jD,ha,e2]
theorem AFB (L:List Rng) (k:Nat):L.take (16 * (k+1))=L.take (16 * k) ++ part L k:=by
 unfold part
 rw [Nat.mul_add,Nat.mul_one,List.take_add]
theorem API {L:List Rng} (h : ∀ r∈L,XB r) (k:Nat) : ∀ r∈part L k,XB r:=fun r hr=>h r (List.mem_of_mem_drop (List.mem_of_mem_take hr))
theorem AID (l:List Sg) (e:Ex) (L:List Rng) (h : ∀ r∈L,XB r) : ∀ k,LP l (RG e L k)=tr (inside (L.take (16 * (k+1))) ((LP l e:Nat):Int))
 | 0=>by
   show LP l (LU e (part L 0))=_
   rw [AIE l e _ (API h 0),AFB]
   rfl
 | k+1=>by
   show LP l (orE (RG e L k) (LU e (part L (k+1))))=_
   rw [AX0 l _ _ (AID l e L h k) (AIE l e _ (API h (k+1))),AFB L (k+1),KT]
theorem AP2 (l:List Sg) {e:Ex} {xs:List Rng} (h : ∀ r∈xs,0≤r.lo∧r.lo≤r.hi∧r.hi≤65535) (hne:xs≠[]):LP l (FV e xs)=tr (inside xs ((LP l e:Nat):Int))∧kN l (FV e xs)=kN l e:=by
 have hn:=ARK h hne
 have h16:=ARL fun r hr=>show XB r by have:=h r hr; unfold XB; omega
 unfold FV
 rw [UT e _ hn,AID l _ _ h16,AP0,A48,A12]
 refine ⟨?_,rfl⟩
 have hp:=parts_eq (normal xs)
 have hl:0 < (normal xs).length:=List.length_pos_iff.2 hn
 rw [List.take_of_length_le (by omega),AAI h]
theorem APL {s:List Sg} {e:Ex} {xs:List Rng} (h : ∀ r∈xs,0≤r.lo∧r.lo≤r.hi∧r.hi≤65535) (hne:xs≠[]) (he:(evE s e).2=0) (hx:exE (FV e xs)=0):okX s (FV e xs)=inside xs ((evE s e).1:Nat):=by
 obtain ⟨h1,h2⟩:=AP2 s (e:=e) h hne
 have hk:kN s e=true∧(evE s e).1=LP s e:=by
  unfold evE at he ⊢
  split at he
  ·cases he
  split at he
  ·rename_i q; exact ⟨q,by rw [if_neg (by assumption),if_pos q]⟩
  ·cases he
 rw [hk.1] at h2
 have hv:(evE s (FV e xs)).1=LP s (FV e xs):=by
  unfold evE
  rw [if_neg (by rw [hx]; simp),if_pos (show (pre _).all (knE s)=true from h2)]
 unfold okX
 rw [hv,h1,hk.2]
 cases inside xs ((LP s e:Nat):Int) <;> rfl
theorem APK {s:List Sg} {e:Ex} {xs:List Rng} (h : ∀ r∈xs,0≤r.lo∧r.lo≤r.hi∧r.hi≤65535) (hne:xs≠[]) (he:(evE s e).2=0) (hx:exE (notE (FV e xs))=0):okX s (notE (FV e xs)) = !inside xs ((evE s e).1:Nat):=by
 obtain ⟨h1,h2⟩:=AP2 s (e:=e) h hne
 have hk:kN s e=true∧(evE s e).1=LP s e:=by
  unfold evE at he ⊢
  split at he
  ·cases he
  split at he
  ·rename_i q; exact ⟨q,by rw [if_neg (by assumption),if_pos q]⟩
  ·cases he
 rw [hk.1] at h2
 rw [← AZG] at h2
 have hv:(evE s (notE (FV e xs))).1=LP s (notE (FV e xs)):=by
  unfold evE
  rw [if_neg (by rw [hx]; simp),if_pos (show (pre _).all (knE s)=true from h2)]
 unfold okX
 rw [hv,ATJ s _ h1,hk.2]
 cases inside xs ((LP s e:Nat):Int) <;> rfl
end Go.Proofs.YtfpagfhhhlljjaaGreatDoor.Ho
