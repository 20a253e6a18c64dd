/- Part 19 of the proof (O25, O26, O27, O28, O29, O30, O31, O32, O33, O34, O35, O36, O37, O42); no condition. -/
import Derived.Test.YtfpagfhhhlljjaaGreatDoorYF18
set_option linter.unusedVariables false
namespace Go.Proofs.YtfpagfhhhlljjaaGreatDoor.Ho
open Sm Bins Cov Go.RowKit
open List renaming map_map→qI,map_congr_left→wV,map_cons→jD,foldl_cons→qX,getElem?_map→jY,map_append→qV,length_map→jH,getElem?_set→zB,getElem?_eq_getElem→jO,drop_zero→zK,take_of_length_le→jU,all_eq_true→zH,mem_map→zI
theorem AVE {α β:Type}(l:List α)(f:α→β):Cov.nm (l.map f)=Cov.nm l:=by cases l <;> rfl
theorem X4 (op n:Int)(name:ByteArray)(m:SM)(args:List Ex):cpE (.mk op n name m args) = .mk op n name (Cov.nm args) (args.map cpE):=by
 rw[Q3]
 show Ex.mk op n name (Cov.nm (args.map cpE)) (args.map cpE)=_
 rw[AVE]
theorem A0A (e:Ex):cpE (cpE e)=cpE e:=by
 induction e using Ex.induct with | h e ih => ?_
 rw[Q3 e,X4]
 simp only[AVE]
 rw[qI]
 congr 1
 exact wV fun x hx=>ih x hx
theorem AWM (e:Ex)(l:List Rng):(insL (cpE e) l).map cpE=(insL e l).map cpE:=by
 unfold insL
 rw[jD,jD,A0A]
theorem AMF (e:Ex)(l:List Rng):cpE (J9 (cpE e) l)=cpE (J9 e l):=by
 rw[YY,YY,X4,X4,AWM]
 rfl
theorem AZ9 {a b c d:Ex}(h1:cpE a=cpE c)(h2:cpE b=cpE d):cpE (orE a b)=cpE (orE c d):=by
 unfold orE
 rw[X4,X4,jD,jD,jD,jD,h1,h2]
 rfl
theorem AME (e:Ex)(L:List Rng) : ∀ k,cpE (UA (cpE e) L k)=cpE (UA e L k)
 | 0=>AMF e _
 | k+1=>AZ9 (AME e L k) (AMF e _)
theorem AEB {e:Ex}{L:List Rng}(h:L≠[]):cpE (PL e L)=cpE (PM e L):=by
 rw[VO e L h,VQ e L h,AME]
def I7 (e:Ex)(l:List Rng):Ex:=PL e (normal l)
def JM (e:Ex)(l:List Rng):Ex:=PM e (normal l)
def notE (e:Ex):Ex := .mk 4 0 ⟨#[]⟩ .full [e]
def J5 (b:Bin):List Rs:=if b.ranges.l = [] then b.steps else [b.ranges]
def AR9 (x:Option Ex)(c:List (List Ex)):List (List Ex):=match x with
 | none=>c
 | some y=>c.set (c.length - 1) (c[c.length - 1]?.getD []++[notE y])
def badO (ins:Ex→List Rng→Ex)(p:Pt):Option Ex:=if KF p.bins = [] then none else some (ins p.ex (KF p.bins))
def UW (ins:Ex→List Rng→Ex)(p:Pt)(b:Bin):List (List Ex):=AR9 (badO ins p) ((J5 b).map fun s => [ins p.ex s.l])
def NT (cs:List (List (List Ex))):Nat:=cs.foldl (fun n c=>max n c.length) 0
def rowC (n t:Nat)(c:List (List Ex)):List Ex:=if n - c.length≤t then c[t - (n - c.length)]?.getD [] else []
def rowA (n:Nat)(cs:List (List (List Ex)))(t:Nat):List Ex:=cs.flatMap (rowC n t)
def ML (cs:List (List (List Ex))):List (List Ex):=(List.range (NT cs)).map (rowA (NT cs) cs)
theorem AQM : ∀ (cs:List (List (List Ex))) (a:Nat),a≤cs.foldl (fun n c=>max n c.length) a∧∀ c∈cs,c.length≤cs.foldl (fun n c=>max n c.length) a
 | [],a=>⟨Nat.le_refl _,fun c hc=>by cases hc⟩
 | x :: cs,a=>by
   obtain⟨h1,h2⟩:=AQM cs (max a x.length)
   rw[qX]
   refine⟨by omega,fun c hc => ?_⟩
   rcases List.mem_cons.1 hc with rfl | hc
   ·omega
   ·exact h2 c hc
theorem ADB {cs:List (List (List Ex))}{c:List (List Ex)}(h:c∈cs):c.length≤NT cs:=(AQM cs 0).2 c h
theorem UI : ∀ (cs:List (List (List Ex))) (a b:Nat),a≤b→(∀ c∈cs,c.length≤b)→cs.foldl (fun n c=>max n c.length) a≤b
 | [],_,_,h,_=>h
 | x :: cs,a,b,h,h2=>by
   rw[qX]
   exact UI cs _ b (by have:=h2 x (by simp); omega) fun c hc=>h2 c (by simp [hc])
theorem AGR (cs:List (List (List Ex)))(k:Nat)(hk:k < cs.length):NT (cs.take (k+1))=max (NT (cs.take k)) cs[k].length:=by
 unfold NT
 rw[List.take_succ_eq_append_getElem hk,List.foldl_append]; rfl
def eqC (a b:List (List Ex)):Prop:=a.map (·.map cpE)=b.map (·.map cpE)
theorem AIP {a b:List (List Ex)}(h:eqC a b):a.length=b.length:=by have:=congrArg List.length h; simpa using this
theorem AQV {a b:List (List Ex)}(h:eqC a b)(i:Nat):(a[i]?.getD []).map cpE=(b[i]?.getD []).map cpE:=by
 have e1:(a.map (·.map cpE))[i]? = (b.map (·.map cpE))[i]? := by rw[show a.map (·.map cpE)=b.map (·.map cpE) from h]
 rw[jY,jY] at e1
 cases ha:a[i]? <;> cases hb:b[i]? <;> rw[ha,hb] at e1 <;> simp at e1 ⊢
 exact e1
theorem AK4 (x:Option Ex)(c:List (List Ex)):(AR9 x c).length=c.length:=by cases x <;> simp [AR9]
theorem AZZ {x y:Option Ex}{a b:List (List Ex)}(h:eqC a b)(hx:x.map cpE=y.map cpE):eqC (AR9 x a) (AR9 y b):=by
 cases x with
 | none=>cases y with
   | none=>exact h
   | some y=>cases hx
 | some x=>cases y with
   | none=>cases hx
   | some y =>
     have hxy:cpE x=cpE y:=by simpa using hx
     have hl:=AIP h
     show(a.set (a.length - 1) _).map _=(b.set (b.length - 1) _).map _
     rw[List.map_set,List.map_set,show a.map (·.map cpE)=b.map (·.map cpE) from h,hl,qV,qV,AQV h]
     have:cpE (notE x)=cpE (notE y):=by
      unfold notE
      rw[X4,X4,jD,jD,hxy]
      rfl
     rw[jD,jD,this]
theorem AV7 {p:Pt}{b:Bin}(hs : ∀ s∈J5 b,normal s.l≠[])(hb:KF p.bins≠[]→normal (KF p.bins)≠[]):eqC (UW I7 p b) (UW JM p b):=by
 unfold UW
 refine AZZ ?_ ?_
 ·show List.map _ (List.map _ _)=List.map _ (List.map _ _)
  rw[qI,qI]
  refine wV fun s hs' => ?_
  show [cpE (I7 p.ex s.l)] = [cpE (JM p.ex s.l)]
  unfold I7 JM
  rw[AEB (hs s hs')]
 ·unfold badO
  split
  ·rfl
  ·rename_i h
   show some (cpE _)=some (cpE _)
   unfold I7 JM
   rw[AEB (hb h)]
theorem AYL {a b:List (List Ex)}(h:eqC a b)(n t:Nat):(rowC n t a).map cpE=(rowC n t b).map cpE:=by
 unfold rowC
 rw[AIP h]
 split
 ·exact AQV h _
 ·rfl
theorem AS2 {us vs:List (List (List Ex))}(h:us.length=vs.length)(hc : ∀ i (h1:i < us.length) (h2:i < vs.length),eqC us[i] vs[i]):eqC (ML us) (ML vs):=by
 have gen : ∀ (us vs:List (List (List Ex))),us.length=vs.length→(∀ i (h1:i < us.length) (h2:i < vs.length),eqC us[i] vs[i])→(∀ a,us.foldl (fun n c=>max n c.length) a=vs.foldl (fun n c=>max n c.length) a)∧∀ n t,(us.flatMap (rowC n t)).map cpE=(vs.flatMap (rowC n t)).map cpE:=by
  intro us
  induction us with
  | nil=>intro vs h _; cases vs with
    | nil=>exact⟨fun _=>rfl,fun _ _=>rfl⟩
    | cons y ys=>simp at h
  | cons x xs ih =>
    intro vs h hc
    cases vs with
    | nil=>simp at h
    | cons y ys =>
      obtain⟨i1,i2⟩:=ih ys (by simpa using h) fun i h1 h2=>hc (i+1) (by simpa using h1) (by simpa using h2)
      have h0:eqC x y:=hc 0 (by simp) (by simp)
      refine⟨fun a => ?_,fun n t => ?_⟩
      ·rw[qX,qX,AIP h0,i1]
      ·rw[List.flatMap_cons,List.flatMap_cons,qV,qV,i2,AYL h0]
 obtain⟨g1,g2⟩:=gen us vs h hc
 have hl:NT us=NT vs:=g1 0
 show(List.map _ _).map _=(List.map _ _).map _
 rw[hl,qI,qI]
 exact wV fun t _=>g2 _ _
def encX (l:List Ex):List AV:=UU ⟨.any,l⟩
def rowF (x:Ex):List AV := [.sl .full 4 [CX x]]
def J6 (X:List Ex):Ex:=X[X.length - 1]?.getD (cE 0)
def VD (X:List Ex):Option Ex→List (List AV)
 | none=>X.map rowF
 | some y=>(X.map rowF).set (X.length - 1) [.sl .any 4 [CX (J6 X),CX (notE y)]]
theorem AGD (X:List Ex)(y:Option Ex):(VD X y).length=X.length:=by cases y <;> simp [VD]
theorem AP4 (x:Ex):CvRow (rowF x) (encX [x]):=CvRow.cons rfl (Cv.any (by simp) 4 _) CvRow.nil
theorem AKF (X:List Ex)(y:Option Ex):Cv (.sl .any 1 (VD X y)) (.sl .any 1 ((AR9 y (X.map fun x => [x])).map encX)):=by
 refine Cv.rows (by rw[jH,AK4,jH,AGD]) fun i r r' h1 h2 => ?_
 cases y with
 | none =>
   change ((X.map fun x => [x]).map encX)[i]? = some r' at h2
   change (X.map rowF)[i]? = some r at h1
   rw[qI,jY] at h2
   rw[jY] at h1
   cases hx:X[i]? with
   | none=>rw[hx] at h1; cases h1
   | some x =>
     rw[hx] at h1 h2
     cases h1; cases h2
     exact AP4 x
 | some y =>
   change (((X.map fun x => [x]).set ((X.map fun x => [x]).length - 1) ((X.map fun x => [x])[(X.map fun x => [x]).length - 1]?.getD []++[notE y])).map encX)[i]? = some r' at h2
   change ((X.map rowF).set (X.length - 1) [.sl .any 4 [CX (J6 X),CX (notE y)]])[i]? = some r at h1
   have hi:i < X.length:=by have:=CB h1; simpa using this
   rw[zB] at h1
   rw[jY,zB] at h2
   by_cases e:X.length - 1=i
   ·have hl:(X.map fun x => [x])[X.length - 1]?.getD [] = [J6 X]:=by
     unfold J6
     rw[jY,jO (by omega)]; rfl
    rw[if_pos e,if_pos (by simpa using by omega)] at h1
    rw[jH,if_pos e,if_pos (by omega),hl] at h2
    cases h1; cases h2
    exact CvRow.cons rfl (Cv.refl _) CvRow.nil
   ·rw[if_neg e] at h1
    rw[jH,if_neg e,jY] at h2
    rw[jY,jO hi] at h1
    rw[jO hi] at h2
    cases h1; cases h2
    exact AP4 _
theorem AGT {X:List Ex}(h:X≠[]):X[X.length - 1]? = some (J6 X):=by
 have:0 < X.length:=List.length_pos_iff.2 h
 unfold J6
 rw[jO (by omega)]; rfl
theorem AB5:Frz rowF:=fun _ _ _ _=>⟨rfl,rfl⟩
theorem ASW {n:Nat}{H:Hp}{ob nb:Nat}{X:List Ex}{y:Ex}(h1:n≤ob)(h2:n≤nb)(_:X≠[])(g:H[ob]? = some (.live 1 ((X.map rowF).set (X.length - 1) [.own nb 0 2])))
  (gn:H[nb]? = some (.live 4 [CX (J6 X),CX (notE y)])):IL n H 4 (.own ob 0 X.length) = .sl .any 1 (VD X (some y)):=by
 have e2:IL n H 3 (.own nb 0 2) = .sl .any 4 [CX (J6 X),CX (notE y)]:=frz_own (f:=CX) (xs := [J6 X,notE y]) (d:=1) ALN h2 gn
 rw[Cov.frzF_own n H 3 ob 0 X.length 1 _ (by omega) g,zK,jU (by simp),List.map_set,jD,List.map_nil,e2,frz_rows AB5 n H 2 X]
 rw[if_pos]
 ·rfl
 refine⟨by simp,?_⟩
 rw[zH]
 intro row hr
 rcases List.mem_or_eq_of_mem_set hr with hr | rfl
 ·obtain⟨x,_,rfl⟩:=zI.1 hr; rfl
 ·rfl
theorem ASX {n:Nat}{H:Hp}{ob:Nat}{X:List Ex}{y:Ex}(h1:n≤ob)(g:H[ob]? = some (.live 1 (VD X (some y)))):IL n H 4 (.own ob 0 X.length) = .sl .any 1 (VD X (some y)):=by
 have hl:=AGD X (some y)
 have hm:(VD X (some y)).map (·.map (IL n H 3))=VD X (some y):=by
  show((X.map rowF).set (X.length - 1) _).map _=_
  rw[List.map_set,frz_rows AB5 n H 2 X]; rfl
 rw[Cov.frzF_own n H 3 ob 0 X.length 1 _ (by omega) g,zK,jU (by omega),hm]
 rw[if_pos]
 refine⟨by omega,?_⟩
 rw[zH]
 intro row hr
 rcases List.mem_or_eq_of_mem_set hr with hr | rfl
 ·obtain⟨x,_,rfl⟩:=zI.1 hr; rfl
 ·rfl
end Go.Proofs.YtfpagfhhhlljjaaGreatDoor.Ho
set_option linter.unusedSimpArgs false
set_option maxRecDepth 8000
namespace Go.Proofs.YtfpagfhhhlljjaaGreatDoor.Ho
open Sm Bins Cov Go.RowKit
open Bool renaming or_false→jQ,not_false→jC,not_true→jV,false_eq_true→jW,false_and→qW,true_and→qO
open List renaming drop_zero→zK,map_map→qI,contains_cons→jR,contains_nil→jJ,length_map→jH,length_eq_zero_iff→wO,take_zero→qG,length_take→zF,take_succ_eq_append_getElem→zL,map_append→qV,map_cons→jD,map_nil→jE,append_nil→jF,getElem_mem→jS,take_of_length_le→jU,getElem?_map→jY,length_cons→zT,length_nil→zX,range→zU,getElem?_set_ne→zQ,map_congr_left→wV,all_eq_true→zH,mem_map→zI,mem_of_getElem?→qA,length_append→qB,getElem?_eq_getElem→jO,any_eq_true→zY,mem_append→qC,mem_cons→qN,length→qF,getElem_of_mem→qJ,drop_eq_getElem_cons→zN,all_cons→wG,drop_eq_nil_of_le→jZ
open Nat renaming le_refl→jL,le_of_ble_eq_true→jI,reduceBEq→jK,reduceEqDiff→jB,zero_add→jG,reduceAdd→jP,zero_le→qR,add_zero→jM
open Option renaming getD_some→jA,getD_none→jT
structure BdB (p:Pt) (b:Bin):Prop where
 hs:J5 b≠[]
 hl:(J5 b).length≤1048576
 hr : ∀ s∈J5 b,s.l.length≤1048576
 hb:(KF p.bins).length≤1048576
 hn:p.bins.length≤1048576
 hw:wt p.ex≤1048576
theorem A7M (h:Hp)(m:SM)(xs:List (List AV)):EQ Tryz.prog false h 54 1 [(0,.sl m 2 xs)]=some (.sl .full 1 [[.sl m 2 xs]],h):=by kernel_rfl
theorem AWX (h:Hp)(a b:Int)(s:ByteArray)(m:SM)(xs:List (List AV)):EQ Tryz.prog false h 46 1 [(0,.agg [.int .i64 a,.int .i64 b,.str s,.sl m 4 xs])]=some (.sl .full 4 [[.int .i64 a,.int .i64 b,.str s,.sl m 4 xs]],h):=by kernel_rfl
theorem AMR (h:Hp)(e:Ex):EQ Tryz.prog false h 46 1 [(0,.agg (CX e))]=some (.sl .full 4 [CX e],h):=by
 rw[G9]; exact AWX h _ _ _ _ _
theorem AQ4 (h:Hp)(m:SM)(xs:List (List AV)):EQ Tryz.prog false h 33 1 [(0,.sl m 4 xs)]=some (.sl .full 1 [[.sl m 4 xs]],h):=by kernel_rfl
theorem A1Z (xs:List (List AV)):KZ Tryz.prog 48 [(0,.int .i64 4),(3,.sl .full 4 xs)]=some (.agg [.int .i64 4,.int .i64 0,.str ⟨#[]⟩,.sl .full 4 xs]):=by kernel_rfl
theorem AKY (e:Ex):CX (notE e) = [.int .i64 4,.int .i64 0,.str ⟨#[]⟩,.sl .full 4 [CX e]]:=by rw[G9]; rfl
theorem AQN {H:Hp}{b:Nat}{x:Bin}(hb:H[b]? = some (.live 4 [GR x])):D5 Tryz.prog H 54 (.ptr b 0 3)=some (.sl x.sm 1 (x.steps.map encS)):=by
 rw[DU WM hb (row:=GR x) rfl,P8]
theorem A4T {H:Hp}{b:Nat}{p:Pt}(hb:H[b]? = some (.live 6 [GG p])):D5 Tryz.prog H 51 (.ptr b 0 0)=some (.agg (GG p)):=by
 rw[GV AAS XG hb rfl (by rw[IY]; exact jL 6),zK,← IY p,List.take_length]
theorem TD {b:Bin}(h:b.ranges.l = []):J5 b=b.steps:=by unfold J5; rw[if_pos h]
theorem XK {b:Bin}(h:b.ranges.l≠[]):J5 b = [b.ranges]:=by unfold J5; rw[if_neg h]
section
variable (G:Nat→AV)
set_option maxHeartbeats 8000000 in
theorem AEE (p:Pt)(k:Nat)(hk:k < p.bins.length)(B:BdB p p.bins[k])(h:Hp):PCall (En G) 35 [.agg (GG p),.int .i64 (k:Nat)] h (.sl .any 1 ((UW I7 p p.bins[k]).map encX)):=by
 have hcv:=AKF ((J5 p.bins[k]).map fun s=>I7 p.ex s.l) (badO I7 p)
 have hcl:(((J5 p.bins[k]).map fun s=>I7 p.ex s.l).map fun x => [x])=(J5 p.bins[k]).map fun s => [I7 p.ex s.l]:=by rw[qI]; rfl
 rw[hcl] at hcv
 refine PCall.res ?_ (CvR.sl hcv)
 clear hcv hcl
 refine ACalls.pure (R:=fun v H=>Sm.ext h H∧IL h.length H 4 v = .sl .any 1 (VD ((J5 p.bins[k]).map fun s=>I7 p.ex s.l) (badO I7 p))) 4 ?_ (fun v H ⟨a,b⟩=>⟨a,b⟩)
 have hb1:=B.hs; have hb2:=B.hl; have hb3:=B.hr; have hb4:=B.hb; have hb5:=B.hn; have hb6:=B.hw
 refine KW (H:=hint [61] []) (enM G) Tryz.func35 rfl (by kernel_rfl) (by kernel_rfl) (jI (by kernel_rfl)) ?_
 show awp _ _ _ _ _ (EJ _ [.tmp 4] _)
 have gp:=CP (x:=ABlk.live 4 [GR p.bins[k]]) (CZ h (ABlk.live 6 [GG p]))
 have gb:=CZ (h++[ABlk.live 6 [GG p]]) (ABlk.live 4 [GR p.bins[k]])
 have hx:Sm.ext h (h++[ABlk.live 6 [GG p]]++[ABlk.live 4 [GR p.bins[k]]]):=((ext.rfl' h).app _).app _
 simp -implicitDefEqProofs only[vQ,jR,jJ,jK,jQ,BD,↓reduceIte,jB,enP,TG,I4,MB,jT,A0P,ADC (CZ h (ABlk.live 6 [GG p])),DL hk,FM ABV XF LP hk,ATR,AUG _ _ [.str ⟨#[]⟩,.int .i64 0,.sl .nil 0 [],.sl .nil 0 []] rfl]
 generalize h++[ABlk.live 6 [GG p]]++[ABlk.live 4 [GR p.bins[k]]]=H0 at gp gb hx ⊢
 generalize (h++[ABlk.live 6 [GG p]]).length=b5 at gb ⊢
 generalize p.bins[k]=b at gb hb1 hb2 hb3 ⊢
 simp -implicitDefEqProofs only[vQ,jR,jJ,jK,jQ,BD,↓reduceIte,jB,enP,L8,OU,AQN gb,AQO gb,jH]
 refine PW (fun F H => ∃ s,F 2 = .ptr h.length 0 0∧F 6 = .sl s 1 ((J5 b).map encS)∧H=H0) (fun _ _=>False) (fun hc => ?_) (fun hc => ?_) ?_ (fun _ _ q=>q.elim)
 ·have hne:b.ranges.l≠[]:=by
   intro q
   rw[q] at hc; exact absurd hc (by decide)
  simp -implicitDefEqProofs only[vQ,jR,jJ,jK,jQ,OM,BD,↓reduceIte,jB,enP,OU,AQO gb,A7M]
  exact⟨_,by first | exact True.intro | exact rfl,by rw[XK hne]; exact rfl,by first | exact True.intro | exact rfl⟩
 ·have he:b.ranges.l = []:=by
   have:=of_decide_eq_false hc
   exact wO.1 (by omega)
  simp -implicitDefEqProofs only[vQ,OM,↓reduceIte,jB]
  exact⟨_,by first | exact True.intro | exact rfl,by rw[TD he],by first | exact True.intro | exact rfl⟩
 rintro F H ⟨s,f2,f6,rfl⟩
 generalize J5 b=S at f6 hb1 hb2 hb3 ⊢
 simp -implicitDefEqProofs only[vQ,jR,jJ,jK,jQ,BD,↓reduceIte,jB,enP,UH,f6,jH]
 refine G6 0 (fun F H' => ∃ v,F 2 = .ptr h.length 0 0∧F 7=v∧Sm.ext H H'∧outG 1 rowF H (S.map fun s=>I7 p.ex s.l) v H') (fun _ _=>False) ?_ ?_ (fun _ _ q=>q.elim)
 ·refine DK (fun n F H' => ∃ i v,n+i=S.length∧F 2 = .ptr h.length 0 0∧F 7=v∧F 26 = .sl s 1 (S.map encS)∧F 27 = .int .i64 (S.length:Nat)∧F 28 = .int .i64 (i:Nat)∧Sm.ext H H'∧outG 1 rowF H ((S.take i).map fun s=>I7 p.ex s.l) v H') S.length
   ⟨0,.sl .nil 0 [],by simp,by simp -implicitDefEqProofs only[AA,↓reduceIte,jB,f2],by simp -implicitDefEqProofs only[AA,↓reduceIte,jB],by simp -implicitDefEqProofs only[AA,↓reduceIte,jB,f6],by simp -implicitDefEqProofs only[AA,↓reduceIte,jB],by simp -implicitDefEqProofs only[AA,↓reduceIte] <;> rfl,ext.rfl' _,by rw[qG]; exact outG.nil _ _ _ _⟩ ?_
  clear f2 f6
  rintro n F H' ⟨i,v,hi,f2,f7,f26,f27,f28,hxH,ho⟩
  simp -implicitDefEqProofs only[vQ,jR,jJ,jK,jQ,BD,↓reduceIte,enP,f27,f28]
  refine CU (fun hc => ?_) (fun hc => ?_)
  ·have hi':i < S.length:=by simpa using hc
   have gp':=FK hxH gp
   have hlen:((S.take i).map fun s=>I7 p.ex s.l).length < 8388608:=by rw[jH,zF]; omega
   obtain⟨v',H2,ha,ho2,_,he2,_,_⟩:=ho.append (P:=Tryz.prog) ARH AFA ATZ ATI (by omega) hlen hxH (I7 p.ex S[i].l)
   have ha':FZ Tryz.prog true H' 33 33 v (.sl .full 1 [[.sl .full 4 [CX (I7 p.ex S[i].l)]]])=some (v',H2):=ha
   have hst:(S.take (i+1)).map (fun s=>I7 p.ex s.l)=(S.take i).map (fun s=>I7 p.ex s.l)++[I7 p.ex S[i].l]:=by
    rw[zL hi',qV]; rfl
   simp -implicitDefEqProofs only[vQ,jR,jJ,jK,jQ,BD,↓reduceIte,jB,enP,UJ,AIB,f2,f7,f26,f28,DL hi',C9 RF hi',Y8,AGS gp']
   have hin:PCall (En G) 65 [.agg (CX p.ex),.sl S[i].m 2 (S[i].l.map encR)] H' (.agg (CX (I7 p.ex S[i].l))):=inside_prog G p.ex S[i].l S[i].m (hb3 _ (jS hi')) hb6 H'
   refine hin.use ?_
   simp -implicitDefEqProofs only[vQ,jR,jJ,jK,jQ,BD,↓reduceIte,jB,enP,f7,f28,AMR,AQ4,ha',wrap_succ (show i < 9223372036854775807 by omega)]
   exact⟨n - 1,by omega,i+1,v',by omega,by first | exact True.intro | exact f2,by first | exact True.intro | exact rfl,by first | exact True.intro | exact f26,by first | exact True.intro | exact f27,by first | exact True.intro | exact rfl,he2,by rw[hst]; exact ho2⟩
  ·have hi' : ¬ i < S.length:=by simpa using hc
   rw[jU (by omega)] at ho
   simp -implicitDefEqProofs only[vQ,↓reduceIte,jB]
   exact⟨v,by first | exact True.intro | exact f2,by first | exact True.intro | exact f7,hxH,ho⟩
 rintro F H' ⟨v,f2,f7,hxH,ho⟩
 clear f6
 have gp':=FK hxH gp
 simp -implicitDefEqProofs only[vQ,jR,jJ,jK,jQ,BD,↓reduceIte,enP,f2,A4T gp']
 refine(AXB G p hb5 hb4 H').use ?_
 simp -implicitDefEqProofs only[vQ,jR,jJ,jK,jQ,BD,↓reduceIte,enP,L8,jH]
 have hSl:0 < S.length:=List.length_pos_iff.2 hb1
 obtain⟨ob,rfl,hob1,hob⟩ : ∃ ob,v = .own ob 0 S.length∧H.length≤ob∧H'[ob]? = some (.live 1 ((S.map fun s=>I7 p.ex s.l).map rowF)):=by
  rcases ho with⟨e1,_⟩ | ⟨_,o,h1,h2,h3⟩
  ·exact absurd (by simpa using e1) hb1
  ·exact⟨o,by rw[h2,jH],h1,h3⟩
 have hXl:(S.map fun s=>I7 p.ex s.l).length=S.length:=by simp
 have hX0:(S.map fun s=>I7 p.ex s.l)≠[]:=by simpa using hb1
 have hhx:=hx.trans hxH
 have hl0:=hx.le
 generalize (S.map fun s=>I7 p.ex s.l)=X at hob hXl hX0 ⊢
 refine CU (fun hc => ?_) (fun hc => ?_)
 ·have hbad:KF p.bins≠[]:=by
   intro q
   rw[q] at hc; exact absurd hc (by decide)
  have hbo:badO I7 p=some (I7 p.ex (KF p.bins)):=by unfold badO; rw[if_neg hbad]
  rw[hbo]
  have hw1:IntKind.i64.wrap (((S.length:Nat):Int) - 1)=((S.length - 1:Nat):Int):=by rw[wrap_i64 (by omega) (by omega)]; omega
  have hin:PCall (En G) 65 [.agg (CX p.ex),.sl (Cov.nm (KF p.bins)) 2 ((KF p.bins).map encR)] H' (.agg (CX (I7 p.ex (KF p.bins)))):=inside_prog G p.ex (KF p.bins) (Cov.nm (KF p.bins)) hb4 hb6 H'
  generalize I7 p.ex (KF p.bins)=y at hin ⊢
  have hlast:(X.map rowF)[S.length - 1]? = some (rowF (J6 X)):=by
   rw[jY,← hXl,AGT hX0]; rfl
  have i1:JZ 1 H' (.own ob 0 S.length) (.int .i64 ((S.length - 1:Nat):Int))=some (.ptr ob (S.length - 1) 0):=by rw[II hob (by omega),jG]
  have d1:D5 Tryz.prog H' 46 (.ptr ob (S.length - 1) 0)=some (.sl .full 4 [CX (J6 X)]):=by rw[DU PX hob hlast]; rfl
  have ha:FZ Tryz.prog true H' 46 46 (.sl .full 4 [CX (J6 X)]) (.sl .full 4 [MW])=some (.own H'.length 0 2,H'++[.live 4 ([CX (J6 X)]++[MW])]) :=
   Q7 YF LD AE8 AFV (HY H' .full 4 [MW]) (by simp) (IR (by simp) (by omega))
  have gN:=CZ H' (ABlk.live 4 ([CX (J6 X)]++[MW]))
  have gO:=CP (x:=ABlk.live 4 ([CX (J6 X)]++[MW])) hob
  have lob:=CB hob
  have i2:JZ 4 (H'++[ABlk.live 4 ([CX (J6 X)]++[MW])]) (.own H'.length 0 2) (.int .i64 ((1:Nat):Int))=some (.ptr H'.length 1 0):=II (n:=1) gN (by decide)
  have i3:JZ 1 (H'++[ABlk.live 4 ([CX (J6 X)]++[MW])]) (.own ob 0 S.length) (.int .i64 ((S.length - 1:Nat):Int))=some (.ptr ob (S.length - 1) 0):=by rw[II gO (by omega),jG]
  have hHx:=hhx.app [ABlk.live 4 ([CX (J6 X)]++[MW])]
  generalize H'++[ABlk.live 4 ([CX (J6 X)]++[MW])]=H2 at gN gO i2 i3 ha hHx
  generalize hnb:H'.length=nb at gN i2 ha lob
  have hsN : ∀ Hq:Hp,Hq[nb]? = some (.live 4 ([CX (J6 X)]++[MW]))→FP Tryz.prog Hq 48 (.ptr nb 1 0) (.agg [.int .i64 4,.int .i64 0,.str ⟨#[]⟩,.sl .full 4 [CX y]])=some (Hq.set nb (.live 4 [CX (J6 X),CX (notE y)])):=fun Hq hq=>by
   rw[I5 (i:=1) (P5 rfl) LD hq rfl (jL 4),AKY]; rfl
  have hsO : ∀ Hq:Hp,Hq[ob]? = some (.live 1 (X.map rowF))→FP Tryz.prog Hq 46 (.ptr ob (S.length - 1) 0) (.own nb 0 2)=some (Hq.set ob (.live 1 ((X.map rowF).set (X.length - 1) [.own nb 0 2]))):=fun Hq hq=>by
   rw[I5 (cs := [.own nb 0 2]) rfl AFA hq hlast (by exact jL 1),hXl]; rfl
  have q1:=hsN H2 gN
  have q2:=hsO (H2.set nb (.live 4 [CX (J6 X),CX (notE y)])) (DT gO (by omega))
  have q3:=hsO H2 gO
  have q4:=hsN (H2.set ob (.live 1 ((X.map rowF).set (X.length - 1) [.own nb 0 2]))) (DT gN (by omega))
  rw[List.set_comm _ _ (show ob≠nb by omega)] at q4
  clear hsN hsO
  have gF1:((H2.set nb (.live 4 [CX (J6 X),CX (notE y)])).set ob (.live 1 ((X.map rowF).set (X.length - 1) [.own nb 0 2])))[ob]? = some (.live 1 ((X.map rowF).set (X.length - 1) [.own nb 0 2])):=EM (DT gO (by omega))
  have gF2:((H2.set nb (.live 4 [CX (J6 X),CX (notE y)])).set ob (.live 1 ((X.map rowF).set (X.length - 1) [.own nb 0 2])))[nb]? = some (.live 4 [CX (J6 X),CX (notE y)]):=DT (EM gN) (by omega)
  have hF:=(hHx.set (show h.length≤nb by omega) (.live 4 [CX (J6 X),CX (notE y)])).set (show h.length≤ob by omega) (.live 1 ((X.map rowF).set (X.length - 1) [.own nb 0 2]))
  have hfz:=ASW (n:=h.length) (y:=y) (by omega) (by omega) hX0 gF1 gF2
  simp -implicitDefEqProofs only[vQ,jR,jJ,jK,jQ,BD,↓reduceIte,jB,enP,f7,XV.2,hw1]
  refine AMX [] [0,1,2,3,4,5,6,7,8,9,10,11,12,13,15] 14 16 [] (by kernel_rfl) trivial ?_
  simp only[OI,List.getElem?_cons_succ,List.getElem?_cons_zero]
  simp -implicitDefEqProofs only[vQ,jR,jJ,jK,jQ,IC,LC,↓reduceIte,jB,jP,enP,ABR,UJ,jT,f2,f7,i1,d1,AGS gp']
  refine⟨_,hin,?_⟩
  try simp -implicitDefEqProofs only[vQ,jR,jJ,jK,jQ,MC,YA,IC,LC,BD,↓reduceIte,jB,jP,enP,ABR,WH,SK,jT,AMR,A1Z,A53,A1T,ha,i2,i3,zT,zX,q1,q2,q3,q4]
  rw[f7,← hXl,hfz]
  exact⟨⟨hF,rfl⟩,hF,rfl⟩
 ·have hbad:KF p.bins = []:=by
   have:=of_decide_eq_false hc
   exact wO.1 (by omega)
  have hbo:badO I7 p=none:=by unfold badO; rw[if_pos hbad]
  rw[hbo]
  simp -implicitDefEqProofs only[vQ,jR,jJ,jK,jQ,BD,↓reduceIte,jB,f7]
  refine⟨hhx,?_⟩
  have:=frz_own (d:=2) AB5 (n:=h.length) (show h.length≤ob by omega) hob
  rw[hXl] at this
  exact this
end
section
variable (G:Nat→AV)
set_option maxHeartbeats 8000000 in
theorem A0T (p:Pt)(k:Nat)(hk:k < p.bins.length)(B:BdB p p.bins[k])(hval:p.bins[k].steps = []∨p.bins[k].ranges.l = [])(h:Hp):PCall (En G) 73 [.agg (GG p),.int .i64 (k:Nat)] h (.sl .any 1 ((UW JM p p.bins[k]).map encX)):=by
 have hcv:=AKF ((J5 p.bins[k]).map fun s=>JM p.ex s.l) (badO JM p)
 have hcl:(((J5 p.bins[k]).map fun s=>JM p.ex s.l).map fun x => [x])=(J5 p.bins[k]).map fun s => [JM p.ex s.l]:=by rw[qI]; rfl
 rw[hcl] at hcv
 refine PCall.res ?_ (CvR.sl hcv)
 clear hcv hcl
 refine ACalls.pure (R:=fun v H=>Sm.ext h H∧IL h.length H 4 v = .sl .any 1 (VD ((J5 p.bins[k]).map fun s=>JM p.ex s.l) (badO JM p))) 4 ?_ (fun v H ⟨a,b⟩=>⟨a,b⟩)
 have hb1:=B.hs; have hb2:=B.hl; have hb3:=B.hr; have hb4:=B.hb; have hb5:=B.hn; have hb6:=B.hw
 refine KW (H:=hint [33,66] []) (enM G) Tryz.func73 rfl (by kernel_rfl) (by kernel_rfl) (jI (by kernel_rfl)) ?_
 show awp _ _ _ _ _ (EJ _ [.tmp 4] _)
 have gp:=CP (x:=ABlk.live 4 [GR p.bins[k]]) (CZ h (ABlk.live 6 [GG p]))
 have gb:=CZ (h++[ABlk.live 6 [GG p]]) (ABlk.live 4 [GR p.bins[k]])
 have hx:Sm.ext h (h++[ABlk.live 6 [GG p]]++[ABlk.live 4 [GR p.bins[k]]]):=((ext.rfl' h).app _).app _
 simp -implicitDefEqProofs only[vQ,jR,jJ,jK,jQ,BD,↓reduceIte,jB,enP,TG,I4,jT,A0P,ADC (CZ h (ABlk.live 6 [GG p])),DL hk,FM ABV XF LP hk,ATR,AUG _ _ [.str ⟨#[]⟩,.int .i64 0,.sl .nil 0 [],.sl .nil 0 []] rfl]
 generalize h++[ABlk.live 6 [GG p]]++[ABlk.live 4 [GR p.bins[k]]]=H0 at gp gb hx ⊢
 generalize (h++[ABlk.live 6 [GG p]]).length=b6 at gb ⊢
 generalize p.bins[k]=b at gb hb1 hb2 hb3 hval ⊢
 have hst:b.steps.length≤1048576:=by
  rcases hval with q | q
  ·rw[q]; simp
  ·rw[TD q] at hb2; exact hb2
 have hsr : ∀ s∈b.steps,s.l.length≤1048576:=by
  rcases hval with q | q
  ·rw[q]; intro s hs; cases hs
  ·rw[TD q] at hb3; exact hb3
 refine G6 0 (fun F H' => ∃ v,F 2 = .ptr h.length 0 0∧F 6 = .ptr b6 0 0∧F 5=v∧Sm.ext H0 H'∧outG 1 rowF H0 (b.steps.map fun s=>JM p.ex s.l) v H') (fun _ _=>False) ?_ ?_ (fun _ _ q=>q.elim)
 ·refine DK (fun n F H' => ∃ i v,n+i=b.steps.length∧F 2 = .ptr h.length 0 0∧F 6 = .ptr b6 0 0∧F 5=v∧F 7 = .int .i64 (i:Nat)∧Sm.ext H0 H'∧outG 1 rowF H0 ((b.steps.take i).map fun s=>JM p.ex s.l) v H') b.steps.length
   ⟨0,.sl .nil 0 [],by simp,by simp -implicitDefEqProofs only[AA,↓reduceIte,jB],by simp -implicitDefEqProofs only[AA,↓reduceIte,jB],by simp -implicitDefEqProofs only[AA,↓reduceIte,jB],by simp -implicitDefEqProofs only[AA,↓reduceIte] <;> rfl,ext.rfl' _,by rw[qG]; exact outG.nil _ _ _ _⟩ ?_
  rintro n F H' ⟨i,v,hi,f2,f6,f5,f7,hxH,ho⟩
  have gb':=FK hxH gb
  simp -implicitDefEqProofs only[vQ,jR,jJ,jK,jQ,BD,↓reduceIte,jB,enP,UH,MB,f6,f7,AQN gb',jH]
  refine CU (fun hc => ?_) (fun hc => ?_)
  ·have hi':i < b.steps.length:=by simpa using hc
   have gp':=FK hxH gp
   have hlen:((b.steps.take i).map fun s=>JM p.ex s.l).length < 8388608:=by rw[jH,zF]; omega
   obtain⟨v',H2,ha,ho2,_,he2,_,_⟩:=ho.append (P:=Tryz.prog) ARH AFA ATZ ATI (by omega) hlen hxH (JM p.ex b.steps[i].l)
   have ha':FZ Tryz.prog true H' 33 33 v (.sl .full 1 [[.sl .full 4 [CX (JM p.ex b.steps[i].l)]]])=some (v',H2):=ha
   have hst:(b.steps.take (i+1)).map (fun s=>JM p.ex s.l)=(b.steps.take i).map (fun s=>JM p.ex s.l)++[JM p.ex b.steps[i].l]:=by
    rw[zL hi',qV]; rfl
   have hin:PCall (En G) 108 [.agg (CX p.ex),.sl b.steps[i].m 2 (b.steps[i].l.map encR)] H' (.agg (CX (JM p.ex b.steps[i].l))):=X8 G p.ex b.steps[i].l b.steps[i].m (hsr _ (jS hi')) H'
   simp -implicitDefEqProofs only[vQ]
   refine ET (by kernel_rfl) ?_
   simp -implicitDefEqProofs only[vQ,jR,jJ,jK,jQ,IC,↓reduceIte,jB,jP,enP,UJ,AIB,MB,f2,f5,f6,f7,DL hi',C9 RF hi',Y8,AGS gp',AQN gb']
   refine⟨_,hin,?_⟩
   try simp -implicitDefEqProofs only[vQ,jR,jJ,jK,jQ,IC,BD,↓reduceIte,jB,jP,enP,f7,AMR,AQ4,ha',wrap_succ (show i < 9223372036854775807 by omega)]
   exact⟨n - 1,by omega,i+1,v',by omega,by first | exact True.intro | exact f2,by first | exact True.intro | exact f6,by first | exact True.intro | exact rfl,by first | exact True.intro | exact rfl,he2,by rw[hst]; exact ho2⟩
  ·have hi' : ¬ i < b.steps.length:=by simpa using hc
   rw[jU (by omega)] at ho
   simp -implicitDefEqProofs only[vQ,↓reduceIte,jB]
   exact⟨v,by first | exact True.intro | exact f2,by first | exact True.intro | exact f6,by first | exact True.intro | exact f5,hxH,ho⟩
 rintro F H' ⟨v,f2,f6,f5,hxH,ho⟩
 have gp':=FK hxH gp
 have gb':=FK hxH gb
 simp -implicitDefEqProofs only[vQ,jR,jJ,jK,jQ,BD,↓reduceIte,enP,UH,MB,f6,AQN gb',jH]
 refine PW (fun F H => ∃ v,F 2 = .ptr h.length 0 0∧F 5=v∧Sm.ext H0 H∧outG 1 rowF H0 ((J5 b).map fun s=>JM p.ex s.l) v H) (fun _ _=>False) (fun hc => ?_) (fun hc => ?_) ?_ (fun _ _ q=>q.elim)
 ·have he:b.steps = []:=by
   have:((b.steps.length:Nat):Int)=0:=by simpa using hc
   exact wO.1 (by omega)
  have hr:b.ranges.l≠[]:=by
   intro q
   rw[TD q,he] at hb1
   exact hb1 rfl
  rw[XK hr] at hb3
  rw[he] at ho
  have hv:v = .sl .nil 0 []:=by
   rcases ho with⟨_,q⟩ | ⟨q,_⟩
   ·exact q
   ·exact absurd rfl q
  subst hv
  have hin:PCall (En G) 108 [.agg (CX p.ex),.sl b.ranges.m 2 (b.ranges.l.map encR)] H' (.agg (CX (JM p.ex b.ranges.l))):=X8 G p.ex b.ranges.l b.ranges.m (hb3 _ (by simp)) H'
  obtain⟨v',H2,ha,ho2,_,he2,_,_⟩:=(outG.nil (α:=Ex) 1 rowF H0 H').append (P:=Tryz.prog) ARH AFA ATZ ATI (by omega) (by simp) hxH (JM p.ex b.ranges.l)
  have ha':FZ Tryz.prog true H' 33 33 (.sl .nil 0 []) (.sl .full 1 [[.sl .full 4 [CX (JM p.ex b.ranges.l)]]])=some (v',H2):=ha
  simp -implicitDefEqProofs only[vQ,jR,jJ,jK,jQ,BD,↓reduceIte,jB,enP,UJ,OU,f2,f5,f6,AGS gp',AQO gb']
  refine hin.use ?_
  simp -implicitDefEqProofs only[vQ,jR,jJ,jK,jQ,OM,BD,↓reduceIte,jB,enP,f2,f5,AMR,AQ4,ha']
  exact⟨v',by first | exact True.intro | exact f2,by first | exact True.intro | exact rfl,he2,by rw[XK hr]; exact ho2⟩
 ·have he:b.steps≠[]:=by
   intro q
   rw[q] at hc; exact absurd hc (by decide)
  have hr:b.ranges.l = []:=hval.resolve_left he
  simp -implicitDefEqProofs only[vQ,OM,↓reduceIte,jB]
  exact⟨v,by first | exact True.intro | exact f2,by first | exact True.intro | exact f5,hxH,by rw[TD hr]; exact ho⟩
 clear f2 f6 f5 ho gp' gb' hxH
 rintro F H' ⟨v,f2,f5,hxH,ho⟩
 generalize J5 b=S at hb1 hb2 hb3 ho ⊢
 have gp':=FK hxH gp
 simp -implicitDefEqProofs only[vQ,jR,jJ,jK,jQ,BD,↓reduceIte,enP,f2,A4T gp']
 refine(A0U G p hb5 hb4 H').use ?_
 simp -implicitDefEqProofs only[vQ,jR,jJ,jK,jQ,BD,↓reduceIte,enP,L8,jH]
 have hSl:0 < S.length:=List.length_pos_iff.2 hb1
 obtain⟨ob,rfl,hob1,hob⟩ : ∃ ob,v = .own ob 0 S.length∧H0.length≤ob∧H'[ob]? = some (.live 1 ((S.map fun s=>JM p.ex s.l).map rowF)):=by
  rcases ho with⟨e1,_⟩ | ⟨_,o,h1,h2,h3⟩
  ·exact absurd (by simpa using e1) hb1
  ·exact⟨o,by rw[h2,jH],h1,h3⟩
 have hXl:(S.map fun s=>JM p.ex s.l).length=S.length:=by simp
 have hX0:(S.map fun s=>JM p.ex s.l)≠[]:=by simpa using hb1
 have hhx:=hx.trans hxH
 have hl0:=hx.le
 generalize (S.map fun s=>JM p.ex s.l)=X at hob hXl hX0 ⊢
 refine CU (fun hc => ?_) (fun hc => ?_)
 ·have hbad:KF p.bins≠[]:=by
   intro q
   rw[q] at hc; exact absurd hc (by decide)
  have hbo:badO JM p=some (JM p.ex (KF p.bins)):=by unfold badO; rw[if_neg hbad]
  rw[hbo]
  have hw1:IntKind.i64.wrap (((S.length:Nat):Int) - 1)=((S.length - 1:Nat):Int):=by rw[wrap_i64 (by omega) (by omega)]; omega
  have hin:PCall (En G) 108 [.agg (CX p.ex),.sl (Cov.nm (KF p.bins)) 2 ((KF p.bins).map encR)] H' (.agg (CX (JM p.ex (KF p.bins)))):=X8 G p.ex (KF p.bins) (Cov.nm (KF p.bins)) hb4 H'
  generalize JM p.ex (KF p.bins)=y at hin ⊢
  have hlast:(X.map rowF)[S.length - 1]? = some (rowF (J6 X)):=by
   rw[jY,← hXl,AGT hX0]; rfl
  have i1:JZ 1 H' (.own ob 0 S.length) (.int .i64 ((S.length - 1:Nat):Int))=some (.ptr ob (S.length - 1) 0):=by rw[II hob (by omega),jG]
  have d1:D5 Tryz.prog H' 46 (.ptr ob (S.length - 1) 0)=some (.sl .full 4 [CX (J6 X)]):=by rw[DU PX hob hlast]; rfl
  have hfa:L9 Tryz.prog H' 46 46 (.sl .full 4 [CX (J6 X)]) (.sl .full 4 [CX (notE y)])=true:=AFO YF LD (HY _ _ _ _) (HY _ _ _ _) (Q8 [J6 X,notE y])
  have ha:FZ Tryz.prog false H' 46 46 (.sl .full 4 [CX (J6 X)]) (.sl .full 4 [CX (notE y)])=some (.sl .any 4 [CX (J6 X),CX (notE y)],H') :=
   APC (xs := [CX (J6 X)]) YF LD AE8 AFV (HY H' .full 4 [CX (notE y)]) (by simp) (IR (by simp) (by omega))
  have q1:FP Tryz.prog H' 46 (.ptr ob (S.length - 1) 0) (.sl .any 4 [CX (J6 X),CX (notE y)])=some (H'.set ob (.live 1 ((X.map rowF).set (X.length - 1) [.sl .any 4 [CX (J6 X),CX (notE y)]]))):=by
   rw[I5 (cs := [.sl .any 4 [CX (J6 X),CX (notE y)]]) rfl AFA hob hlast (by exact jL 1),hXl]; rfl
  have gF:(H'.set ob (.live 1 ((X.map rowF).set (X.length - 1) [.sl .any 4 [CX (J6 X),CX (notE y)]])))[ob]? = some (.live 1 (VD X (some y))):=EM hob
  have hF:=hhx.set (show h.length≤ob by omega) (.live 1 ((X.map rowF).set (X.length - 1) [.sl .any 4 [CX (J6 X),CX (notE y)]]))
  simp -implicitDefEqProofs only[vQ,jR,jJ,jK,jQ,BD,↓reduceIte,jB,enP,ABR,UJ,f2,f5,XV.2,hw1,i1,d1,AGS gp']
  refine hin.use ?_
  have hbn : ∀ H:Hp,EQ Tryz.prog false H 46 1 [(0,.agg [.int .i64 4,.int .i64 0,.str ⟨#[]⟩,.sl .full 4 [CX y]])]=some (.sl .full 4 [CX (notE y)],H):=fun H=>by rw[AKY,AWX]
  simp -implicitDefEqProofs only[vQ,jR,jJ,jK,jQ,Bool.or_true,BD,AF3,↓reduceIte,jB,jV,enP,ABR,jT,AMR,A1Z,hbn,AF3,hfa,ha,f5,XV.2,hw1,i1,q1]
  refine⟨hF,?_⟩
  rw[← hXl]
  exact ASX (by omega) gF
 ·have hbad:KF p.bins = []:=by
   have:=of_decide_eq_false hc
   exact wO.1 (by omega)
  have hbo:badO JM p=none:=by unfold badO; rw[if_pos hbad]
  rw[hbo]
  simp -implicitDefEqProofs only[vQ,jR,jJ,jK,jQ,BD,↓reduceIte,jB,f5]
  refine⟨hhx,?_⟩
  have:=frz_own (d:=2) AB5 (n:=h.length) (show h.length≤ob by omega) hob
  rw[hXl] at this
  exact this
end
def SS (l:List Ex):List AV:=UU ⟨Cov.nm l,l⟩
def MQ (c:List (List Ex)):List AV := [.sl .any 1 (c.map encX)]
theorem AD7 (c:List (List Ex)):(MQ c)[0]? = some (.sl .any 1 (c.map encX)):=rfl
theorem A1P (l:List Ex):(encX l)[0]? = some (.sl .any 4 (l.map CX)):=rfl
structure OL (n0:Nat) (H:Hp) (ob n:Nat) (v:Nat→AV) (X:Nat→List Ex):Prop where
 gob:H[ob]? = some (.live 1 ((zU n).map fun t => [v t]))
 lo:n0≤ob
 each : ∀ t,t < n→(X t = []∧v t = .sl .nil 0 [])∨(X t≠[]∧∃ o,n0≤o∧v t = .own o 0 (X t).length∧H[o]? = some (.live 4 ((X t).map CX)))
 ap : ∀ t u b,t < n→u < n→isB (v t) b→isB (v u) b→t=u
 ne : ∀ t b,t < n→isB (v t) b→b≠ob
def YL {α:Type}(f:Nat→α)(a:Nat)(x:α)(t:Nat):α:=if t=a then x else f t
theorem AR1 {v:Nat→AV}{n a:Nat}{x:AV}(_ha:a < n):((zU n).map fun t => [v t]).set a [x]=(zU n).map fun t => [YL v a x t]:=by
 apply List.ext_getElem
 ·simp
 intro i h1 h2
 rw[List.getElem_set]
 simp only[List.getElem_map,List.getElem_range,YL]
 by_cases e:a=i
 ·rw[if_pos e,if_pos e.symm]
 ·rw[if_neg e,if_neg (Ne.symm e)]
theorem ZT {n0:Nat}{h H:Hp}{X:List Ex}{v:AV}(hl:n0=h.length):((X = []∧v = .sl .nil 0 [])∨(X≠[]∧∃ o,n0≤o∧v = .own o 0 X.length∧H[o]? = some (.live 4 (X.map CX))))↔outG 4 CX h X v H:=by subst hl; exact Iff.rfl
theorem OL.app {h H:Hp}{ob n a:Nat}{v:Nat→AV}{X:Nat→List Ex}(O:OL h.length H ob n v X)(ha:a < n)(hx:ext h H)(s:SM)(ys:List Ex)(hl:(X a).length+ys.length≤8388608) :
  ∃ v' H',FZ Tryz.prog true H 46 46 (v a) (.sl s 4 (ys.map CX))=some (v',H')∧H'[ob]? = some (.live 1 ((zU n).map fun t => [v t]))∧JI v'=some [v'] ∧
    OL h.length (H'.set ob (.live 1 ((zU n).map fun t => [YL v a v' t]))) ob n (YL v a v') (YL X a (X a++ys))∧ext h (H'.set ob (.live 1 ((zU n).map fun t => [YL v a v' t]))):=by
 obtain⟨v',H',h1,h2,h3,h4,h5,h6⟩:=QM (P:=Tryz.prog) s ((ZT rfl).1 (O.each a ha)) YF LD AE8 AFV (by omega) (ys:=ys) hl hx
 have lob:=CB O.gob
 have g1:=h3 _ _ O.gob (fun q=>O.ne a _ ha q rfl)
 have hlt : ∀ t b,t < n→isB (v t) b→b < H.length:=fun t b ht hb=>((ZT rfl).1 (O.each t ht)).lt hb |>.2
 have hne' : ∀ b,isB v' b→b≠ob:=fun b hb=>by
  rcases h6 b hb with q | q
  ·exact O.ne a b ha q
  ·omega
 have hac:JI v'=some [v']:=by
  rcases h2 with⟨_,rfl⟩ | ⟨_,o,_,rfl,_⟩ <;> rfl
 refine⟨v',H',h1,g1,hac,⟨EM g1,O.lo,fun t ht => ?_,fun t u b ht hu h7 h8 => ?_,fun t b ht hb => ?_⟩,h4.set O.lo _⟩
 ·by_cases e:t=a
  ·subst e
   simp only[YL,if_true]
   exact(ZT rfl).2 (h2.keep fun b hb=>by rw[zQ (Ne.symm (hne' b hb))])
  ·simp only[YL,if_neg e]
   refine(ZT rfl).2 (((ZT rfl).1 (O.each t ht)).keep fun b hb => ?_)
   rw[zQ (Ne.symm (O.ne t b ht hb))]
   rcases O.each t ht with⟨_,q⟩ | ⟨_,o,_,q,q2⟩
   ·rw[q] at hb; exact hb.elim
   ·rw[q] at hb; cases hb
    rw[q2]
    exact h3 _ _ q2 fun q3=>e (O.ap t a _ ht ha (by rw[q]; rfl) q3)
 ·simp only[YL] at h7 h8
  by_cases e1:t=a <;> by_cases e2:u=a
  ·rw[e1,e2]
  ·rw[if_pos e1] at h7; rw[if_neg e2] at h8
   rcases h6 b h7 with q | q
   ·exact e1.trans (O.ap a u b ha hu q h8)
   ·have:=hlt u b hu h8; omega
  ·rw[if_neg e1] at h7; rw[if_pos e2] at h8
   rcases h6 b h8 with q | q
   ·exact(O.ap t a b ht ha h7 q).trans e2.symm
   ·have:=hlt t b ht h7; omega
  ·rw[if_neg e1] at h7; rw[if_neg e2] at h8
   exact O.ap t u b ht hu h7 h8
 ·simp only[YL] at hb
  by_cases e1:t=a
  ·rw[if_pos e1] at hb; exact hne' b hb
  ·rw[if_neg e1] at hb; exact O.ne t b ht hb
theorem OL.frz {n0:Nat}{H:Hp}{ob n:Nat}{v:Nat→AV}{X:Nat→List Ex}(O:OL n0 H ob n v X)(h:Hp)(hl:n0=h.length):IL h.length H 4 (.own ob 0 n) = .sl .any 1 ((zU n).map fun t => [fzG 4 CX (X t)]):=by
 subst hl
 have hm:((zU n).map fun t => [v t]).map (·.map (IL h.length H 3))=(zU n).map fun t => [fzG 4 CX (X t)]:=by
  rw[qI]
  refine wV fun t ht => ?_
  have ht':t < n:=by simpa using ht
  show [IL h.length H 3 (v t)]=_
  rw[Y0 ALN ((ZT rfl).1 (O.each t ht')) h.length 1 (jL _)]
 rw[Cov.frzF_own h.length H 3 ob 0 n 1 _ (by have:=O.lo; omega) O.gob,zK,jU (by simp),hm]
 rw[if_pos]
 refine⟨by simp,?_⟩
 rw[zH]
 intro row hr
 obtain⟨t,_,rfl⟩:=zI.1 hr
 cases X t <;> rfl
theorem A1M (l:List Ex):CvRow [fzG 4 CX l] (SS l):=by
 cases l with
 | nil=>exact CvRow.cons rfl (Cv.nil 0 4) CvRow.nil
 | cons x xs=>exact CvRow.cons rfl (Cv.refl _) CvRow.nil
def rowP (n i t:Nat)(c:List (List Ex)):List Ex:=if n - c.length≤t∧t < n - c.length+i then c[t - (n - c.length)]?.getD [] else []
theorem ART (n t:Nat)(c:List (List Ex)):rowP n 0 t c = []:=by unfold rowP; rw[if_neg (by omega)]
theorem ARU {n t:Nat}{c:List (List Ex)}(ht:t < n)(hc:c.length≤n):rowP n c.length t c=rowC n t c:=by
 unfold rowP rowC
 by_cases h:n - c.length≤t
 ·rw[if_pos ⟨h,by omega⟩,if_pos h]
 ·rw[if_neg (by omega),if_neg h]
theorem AGF (n t:Nat)(cs:List (List (List Ex)))(j:Nat)(hj:j < cs.length):rowA n (cs.take (j+1)) t=rowA n (cs.take j) t++rowC n t cs[j]:=by
 unfold rowA
 rw[zL hj,List.flatMap_append]; simp
theorem rowC_len {n t:Nat}{c:List (List Ex)}{B:Nat}(h : ∀ r∈c,r.length≤B):(rowC n t c).length≤B:=by
 unfold rowC
 split
 ·cases hx:c[t - (n - c.length)]? with
  | none=>exact qR _
  | some r=>exact h r (qA hx)
 ·exact qR _
theorem VH {n t B:Nat} : ∀ {cs:List (List (List Ex))},(∀ c∈cs,∀ r∈c,r.length≤B)→(rowA n cs t).length≤B * cs.length
 | [],_=>by simp [rowA]
 | c :: cs,h=>by
   have h1:=rowC_len (n:=n) (t:=t) (h c (by simp))
   have h2:=VH (n:=n) (t:=t) (cs:=cs) fun c hc=>h c (by simp [hc])
   show(rowC n t c++rowA n cs t).length≤_
   rw[qB,zT,Nat.mul_add]; omega
theorem A6W (h:Hp)(n:Nat)(hn:n≤1048576):KC Tryz.prog true h 33 (.int .i64 (n:Int)) (.int .i64 (n:Int))=some (.own h.length 0 n,h++[ABlk.live 1 ((zU n).map fun _ => [.sl .nil 0 []])]):=by
 have hz:NR Tryz.prog 46=some [.sl .nil 0 []]:=by kernel_rfl
 have hr:room n 24:=IR (by omega) (by omega)
 unfold KC
 simp only[ARH,AFA,ATI,hz,Int.toNat_natCast]
 rw[if_pos ⟨by omega,Int.le_refl _,hr,rfl⟩]
 have e:(zU n).map (fun _ => [AV.sl .nil 0 []])=List.replicate n [.sl .nil 0 []]:=by rw[List.map_const',List.length_range]
 rw[e]; rfl
theorem rowP_step {n i t:Nat}{c:List (List Ex)}(hc:c.length≤n)(hi:i < c.length)(_ht:t < n):rowP n (i+1) t c=if t=n - c.length+i then c[i] else rowP n i t c:=by
 unfold rowP
 by_cases e:t=n - c.length+i
 ·rw[if_pos e,if_pos (by omega),show t - (n - c.length)=i by omega,jO hi]; rfl
 ·rw[if_neg e]
  by_cases h:n - c.length≤t∧t < n - c.length+i
  ·rw[if_pos h,if_pos (by omega)]
  ·rw[if_neg h,if_neg (by omega)]
section
variable (G:Nat→AV)
set_option maxHeartbeats 8000000 in
theorem AI4 (cs:List (List (List Ex)))(s:SM)(hcs:cs.length≤1048576)(hl : ∀ c∈cs,c.length≤1048576)(hr : ∀ c∈cs,∀ r∈c,r.length≤2)(h:Hp):PCall (En G) 36 [.sl s 1 (cs.map MQ)] h (.sl .any 1 ((ML cs).map SS)):=by
 have hcv:Cv (.sl .any 1 ((zU (NT cs)).map fun t => [fzG 4 CX (rowA (NT cs) cs t)])) (.sl .any 1 ((ML cs).map SS)):=by
  unfold ML
  rw[qI]
  exact Cv.map fun t _=>A1M _
 refine PCall.res ?_ (CvR.sl hcv)
 clear hcv
 refine ACalls.pure (R:=fun v H=>Sm.ext h H∧IL h.length H 4 v = .sl .any 1 ((zU (NT cs)).map fun t => [fzG 4 CX (rowA (NT cs) cs t)])) 4 ?_ (fun v H ⟨a,b⟩=>⟨a,b⟩)
 have hnb:NT cs≤1048576:=UI cs 0 _ (qR _) hl
 refine acN Tryz.func36 rfl ?_
 show awp _ _ _ _ _ (EJ _ [.tmp 2] _)
 simp -implicitDefEqProofs only[vQ,BD,↓reduceIte,jB,enP,AZG,jH]
 refine G6 0 (fun F H'=>F 0 = .sl s 1 (cs.map MQ)∧F 3 = .int .i64 (NT cs:Nat)∧H'=h) (fun _ _=>False) ?_ ?_ (fun _ _ q=>q.elim)
 ·refine DK (fun n F H' => ∃ i,n+i=cs.length∧F 0 = .sl s 1 (cs.map MQ)∧F 3 = .int .i64 (NT (cs.take i):Nat)∧F 12 = .sl s 1 (cs.map MQ)∧F 13 = .int .i64 (cs.length:Nat)∧F 14 = .int .i64 (i:Nat)∧H'=h) cs.length
   ⟨0,by simp,by simp -implicitDefEqProofs only[vQ,↓reduceIte,jB],by simp -implicitDefEqProofs only[AA,↓reduceIte,jB] <;> rfl,by simp -implicitDefEqProofs only[AA,↓reduceIte,jB],by simp -implicitDefEqProofs only[AA,↓reduceIte,jB],by simp -implicitDefEqProofs only[AA,↓reduceIte] <;> rfl,rfl⟩ ?_
  rintro n F H ⟨i,hi,f0,f3,f12,f13,f14,rfl⟩
  simp -implicitDefEqProofs only[vQ,BD,↓reduceIte,enP,f13,f14]
  refine CU (fun hc => ?_) (fun hc => ?_)
  ·have hi':i < cs.length:=by simpa using hc
   have hm:max ((NT (cs.take i):Nat):Int) ((cs[i].length:Nat):Int)=((NT (cs.take (i+1)):Nat):Int):=by rw[AGR cs i hi']; omega
   simp -implicitDefEqProofs only[vQ,BD,AF2,ZY,↓reduceIte,jB,enP,XV,AVO,f3,f12,f14,DL hi',C9 AXM hi',AD7,jH,hm,wrap_succ (show i < 9223372036854775807 by omega)]
   exact⟨n - 1,by omega,i+1,by omega,by first | exact True.intro | exact f0,by first | exact True.intro | exact rfl,by first | exact True.intro | exact f12,by first | exact True.intro | exact f13,by first | exact True.intro | exact rfl,by first | exact True.intro | exact rfl⟩
  ·have hi' : ¬ i < cs.length:=by simpa using hc
   rw[jU (by omega)] at f3
   simp -implicitDefEqProofs only[vQ,↓reduceIte,jB]
   exact⟨by first | exact True.intro | exact f0,by first | exact True.intro | exact f3,by first | exact True.intro | exact rfl⟩
 rintro F H ⟨f0,f3,rfl⟩
 generalize hN:NT cs=N at *
 have g0:=CZ H (ABlk.live 1 ((zU N).map fun _ => [AV.sl .nil 0 []]))
 have O0:OL H.length (H++[ABlk.live 1 ((zU N).map fun _ => [AV.sl .nil 0 []])]) H.length N (fun _ => .sl .nil 0 []) (fun _ => []) :=
  ⟨g0,jL _,fun t _ => .inl ⟨rfl,rfl⟩,fun t u b _ _ q=>q.elim,fun t b _ q=>q.elim⟩
 have hx0:Sm.ext H (H++[ABlk.live 1 ((zU N).map fun _ => [AV.sl .nil 0 []])]):=(ext.rfl' H).app _
 simp -implicitDefEqProofs only[vQ,BD,PQ,↓reduceIte,jB,enP,AZG,f0,f3,A6W H N hnb,jH]
 generalize H++[ABlk.live 1 ((zU N).map fun _ => [AV.sl .nil 0 []])]=H0 at O0 hx0 ⊢
 refine DK (fun n F H' => ∃ j v X,n+j=cs.length∧F 3 = .int .i64 (N:Nat)∧F 6 = .own H.length 0 N∧F 25 = .sl s 1 (cs.map MQ)∧F 26 = .int .i64 (cs.length:Nat)∧F 27 = .int .i64 (j:Nat)∧OL H.length H' H.length N v X∧(∀ t,t < N→X t=rowA N (cs.take j) t)∧Sm.ext H H') cs.length
  ⟨0,_,_,by simp,by simp -implicitDefEqProofs only[AA,↓reduceIte,jB,f3],by simp -implicitDefEqProofs only[AA,↓reduceIte,jB],by simp -implicitDefEqProofs only[AA,↓reduceIte,jB],by simp -implicitDefEqProofs only[AA,↓reduceIte,jB],by simp -implicitDefEqProofs only[AA,↓reduceIte] <;> rfl,O0,fun t _=>by rw[qG]; rfl,hx0⟩ ?_
 clear O0 hx0 f0 f3 g0
 rintro n F H1 ⟨j,v,X,hj,f3,f6,f25,f26,f27,O,hX,hx⟩
 simp -implicitDefEqProofs only[vQ,BD,↓reduceIte,enP,f26,f27]
 refine CU (fun hc => ?_) (fun hc => ?_)
 ·have hj':j < cs.length:=by simpa using hc
  have hcN:cs[j].length≤N:=by rw[← hN]; exact ADB (jS hj')
  have hrj:=hr _ (jS hj')
  have hrt : ∀ t,(rowA N (cs.take j) t).length≤2 * j:=fun t=>by
   have:=VH (n:=N) (t:=t) (B:=2) (cs:=cs.take j) fun c hc=>hr c (List.mem_of_mem_take hc)
   rw[zF,Nat.min_eq_left (by omega)] at this; exact this
  have hst : ∀ t,rowA N (cs.take (j+1)) t=rowA N (cs.take j) t++rowC N t cs[j]:=fun t=>AGF N t cs j hj'
  simp -implicitDefEqProofs only[vQ,BD,↓reduceIte,jB,enP,XV,AVO,f25,f27,DL hj',C9 AXM hj',AD7,jH]
  generalize cs[j]=c at hcN hrj hst ⊢
  refine G6 4 (fun F H' => ∃ v X,F 3 = .int .i64 (N:Nat)∧F 6 = .own H.length 0 N∧F 25 = .sl s 1 (cs.map MQ)∧F 26 = .int .i64 (cs.length:Nat)∧F 27 = .int .i64 (j:Nat)∧OL H.length H' H.length N v X∧(∀ t,t < N→X t=rowA N (cs.take (j+1)) t)∧Sm.ext H H') (fun _ _=>False) ?_ ?_ (fun _ _ q=>q.elim)
  ·refine DK (fun n F H' => ∃ i v X,n+i=c.length∧F 3 = .int .i64 (N:Nat)∧F 6 = .own H.length 0 N∧F 8 = .sl .any 1 (c.map encX)∧F 25 = .sl s 1 (cs.map MQ)∧F 26 = .int .i64 (cs.length:Nat)∧F 27 = .int .i64 (j:Nat)∧F 31 = .sl .any 1 (c.map encX)∧F 32 = .int .i64 (c.length:Nat)∧F 33 = .int .i64 (i:Nat)∧OL H.length H' H.length N v X∧(∀ t,t < N→X t=rowA N (cs.take j) t++rowP N i t c)∧Sm.ext H H') c.length
    ⟨0,v,X,by simp,by simp -implicitDefEqProofs only[AA,↓reduceIte,jB,f3],by simp -implicitDefEqProofs only[AA,↓reduceIte,jB,f6],by simp -implicitDefEqProofs only[AA,↓reduceIte,jB],by simp -implicitDefEqProofs only[AA,↓reduceIte,jB,f25],by simp -implicitDefEqProofs only[AA,↓reduceIte,jB,f26],by simp -implicitDefEqProofs only[AA,↓reduceIte,jB,f27],by simp -implicitDefEqProofs only[AA,↓reduceIte,jB],by simp -implicitDefEqProofs only[AA,↓reduceIte,jB],by simp -implicitDefEqProofs only[AA,↓reduceIte] <;> rfl,O,fun t ht=>by rw[ART,jF]; exact hX t ht,hx⟩ ?_
   clear f3 f6 f25 f26 f27 O hX hx
   rintro n2 F H2 ⟨i,v,X,hi,f3,f6,f8,f25,f26,f27,f31,f32,f33,O,hX,hx⟩
   simp -implicitDefEqProofs only[vQ,BD,↓reduceIte,enP,f32,f33]
   refine CU (fun hd => ?_) (fun hd => ?_)
   ·have hi':i < c.length:=by simpa using hd
    have ha:N - c.length+i < N:=by omega
    have hlen:(X (N - c.length+i)).length+c[i].length≤8388608:=by
     have h1:=hrt (N - c.length+i)
     have h2:=hrj _ (jS hi')
     rw[hX _ ha,qB]
     have h3:rowP N i (N - c.length+i) c = []:=by unfold rowP; rw[if_neg (by omega)]
     rw[h3,zX]; omega
    obtain⟨v',H3,a1,a2,a3,O2,hx2⟩:=O.app ha hx .any c[i] hlen
    have hw1:IntKind.i64.wrap (((N:Nat):Int) - ((c.length:Nat):Int))=((N - c.length:Nat):Int):=by rw[wrap_i64 (by omega) (by omega)]; omega
    have hw2:IntKind.i64.wrap (((N - c.length:Nat):Int)+((i:Nat):Int))=((N - c.length+i:Nat):Int):=by rw[wrap_i64 (by omega) (by omega)]; omega
    have i1:JZ 1 H2 (.own H.length 0 N) (.int .i64 ((N - c.length+i:Nat):Int))=some (.ptr H.length (N - c.length+i) 0):=by rw[II O.gob ha,jG]
    have hrow : ∀ f:Nat→AV,((zU N).map fun t => [f t])[N - c.length+i]? = some [f (N - c.length+i)]:=fun f=>by
     rw[jY,List.getElem?_range ha]; rfl
    have d1:D5 Tryz.prog H2 46 (.ptr H.length (N - c.length+i) 0)=some (v (N - c.length+i)):=by rw[DU PX O.gob (hrow v)]; rfl
    have i2:JZ 1 H3 (.own H.length 0 N) (.int .i64 ((N - c.length+i:Nat):Int))=some (.ptr H.length (N - c.length+i) 0):=by rw[II a2 ha,jG]
    have s1:FP Tryz.prog H3 46 (.ptr H.length (N - c.length+i) 0) v'=some (H3.set H.length (.live 1 ((zU N).map fun t => [YL v (N - c.length+i) v' t]))):=by
     rw[I5 (cs := [v']) a3 AFA a2 (hrow v) (by exact jL 1),← AR1 ha]; rfl
    have hX2 : ∀ t,t < N→YL X (N - c.length+i) (X (N - c.length+i)++c[i]) t=rowA N (cs.take j) t++rowP N (i+1) t c:=fun t ht=>by
     rw[rowP_step hcN hi' ht]
     by_cases e:t=N - c.length+i
     ·rw[if_pos e]
      simp only[YL,if_pos e]
      rw[hX _ ha,← e]
      have h3:rowP N i t c = []:=by unfold rowP; rw[if_neg (by omega)]
      rw[h3,jF]
     ·rw[if_neg e]
      simp only[YL,if_neg e]
      exact hX t ht
    simp -implicitDefEqProofs only[vQ,BD,↓reduceIte,jB,enP,ABR,XV,jT,f3,f6,f8,f31,f33,DL hi',C9 PX hi',A1P,jH,hw1,hw2,i1,d1,a1,i2,s1,wrap_succ (show i < 9223372036854775807 by omega)]
    exact⟨n2 - 1,by omega,i+1,_,_,by omega,by first | exact True.intro | exact f3,by first | exact True.intro | exact f6,by first | exact True.intro | exact f8,by first | exact True.intro | exact f25,by first | exact True.intro | exact f26,by first | exact True.intro | exact f27,by first | exact True.intro | exact f31,by first | exact True.intro | exact f32,by first | exact True.intro | exact rfl,O2,hX2,hx2⟩
   ·have hi':i=c.length:=by have : ¬ i < c.length:=by simpa using hd
                            omega
    subst hi'
    simp -implicitDefEqProofs only[vQ,↓reduceIte,jB]
    exact⟨v,X,by first | exact True.intro | exact f3,by first | exact True.intro | exact f6,by first | exact True.intro | exact f25,by first | exact True.intro | exact f26,by first | exact True.intro | exact f27,O,fun t ht=>by rw[hX t ht,hst,ARU ht hcN],hx⟩
  ·clear f3 f6 f25 f26 f27 O hX hx
   rintro F H2 ⟨v,X,f3,f6,f25,f26,f27,O,hX,hx⟩
   simp -implicitDefEqProofs only[vQ,BD,↓reduceIte,jB,enP,f27,wrap_succ (show j < 9223372036854775807 by omega)]
   exact⟨n - 1,by omega,j+1,v,X,by omega,by first | exact True.intro | exact f3,by first | exact True.intro | exact f6,by first | exact True.intro | exact f25,by first | exact True.intro | exact f26,by first | exact True.intro | exact rfl,O,hX,hx⟩
 ·have hj' : ¬ j < cs.length:=by simpa using hc
  rw[jU (by omega)] at hX
  simp -implicitDefEqProofs only[vQ,BD,↓reduceIte,jB,f6]
  refine⟨hx,?_⟩
  rw[O.frz H rfl]
  congr 1
  refine wV fun t ht => ?_
  rw[hX t (by simpa using ht)]
end
theorem A1O (l:List Ex):(SS l)[0]? = some (.sl (Cov.nm l) 4 (l.map CX)):=rfl
theorem AG4 {R:List (List Ex)}{i:Nat}(hi:i < R.length):(R.take (i+1)).flatten=(R.take i).flatten++R[i]:=by
 rw[zL hi,List.flatten_append]; simp
theorem Y3 (R:List (List Ex))(i:Nat):(R.take i).flatten.length≤R.flatten.length:=by
 have:R.flatten=(R.take i).flatten++(R.drop i).flatten:=by rw[← List.flatten_append,List.take_append_drop]
 rw[this,qB]; omega
def AYV (h:Hp)(ys:List Ex)(v:AV)(H:Hp):Prop:=(v = .sl .nil 0 []∧ys = [])∨∃ o,h.length≤o∧v = .own o 0 ys.length∧H[o]? = some (.live 4 (ys.map CX))
theorem AU2 {h H:Hp}{xs ys:List Ex}{v:AV}(s:SM)(ho:AYV h xs v H)(he:ext h H)(hl:xs.length+ys.length≤8388608) :
  ∃ v' H',FZ Tryz.prog true H 46 46 v (.sl s 4 (ys.map CX))=some (v',H')∧AYV h (xs++ys) v' H'∧ext h H'∧(v = .sl .nil 0 []→ys = []→v' = .sl .nil 0 []):=by
 cases ys with
 | nil =>
   refine⟨v,H,?_,by rw[jF]; exact ho,he,fun q _=>q⟩
   have hcs:JR H (.sl s 4 [])=some (4,[]):=HY H s 4 []
   rcases ho with⟨rfl,rfl⟩ | ⟨o,h2,rfl,h3⟩
   ·simp [FZ,YF,LD,SG,hcs,bump]
   ·have hc:JR H (.own o 0 xs.length)=some (4,xs.map CX):=by rw[KU h3 (by simp),zK,jU (by simp)]
    simp [FZ,YF,LD,SG,hc,hcs,bump]
 | cons y ys =>
   have h1:(y :: ys).map CX≠[]:=by simp
   rcases ho with⟨rfl,rfl⟩ | ⟨o,h2,rfl,h3⟩
   ·exact⟨_,_,PP YF LD AE8 AFV (HY H s 4 ((y :: ys).map CX)) h1 (IR (by simp at hl ⊢; omega) (by omega)),.inr ⟨H.length,he.le,by simp,by simp⟩,he.app _,fun _ q=>by cases q⟩
   ·have hc:JR H (.own o 0 xs.length)=some (4,xs.map CX):=by rw[KU h3 (by simp),zK,jU (by simp)]
    exact⟨_,_,PO YF LD AE8 AFV hc (HY H s 4 ((y :: ys).map CX)) h1 (IR (by simp at hl ⊢; omega) (by omega)),.inr ⟨H.length,he.le,by simp,by simp⟩,(he.set h2 _).app _,fun q=>by cases q⟩
section
variable (G:Nat→AV)
set_option maxHeartbeats 4000000 in
theorem AMJ (R:List (List Ex))(s:SM)(hR:R.length≤1048576)(hl:R.flatten.length≤1048576)(h:Hp):PCall (En G) 37 [.sl s 1 (R.map SS)] h (.sl (Cov.nm R.flatten) 4 (R.flatten.map CX)):=by
 refine N7 ALN ?_
 refine acN Tryz.func37 rfl ?_
 show awp _ _ _ _ _ (EJ _ [.tmp 2] _)
 simp -implicitDefEqProofs only[vQ,BD,↓reduceIte,jB,enP,XV,jH]
 refine G6 0 (fun F H'=>F 0 = .sl s 1 (R.map SS)∧F 3 = .int .i64 (R.flatten.length:Nat)∧H'=h) (fun _ _=>False) ?_ ?_ (fun _ _ q=>q.elim)
 ·refine DK (fun n F H' => ∃ i,n+i=R.length∧F 0 = .sl s 1 (R.map SS)∧F 3 = .int .i64 ((R.take i).flatten.length:Nat)∧F 9 = .sl s 1 (R.map SS)∧F 10 = .int .i64 (R.length:Nat)∧F 11 = .int .i64 (i:Nat)∧H'=h) R.length
   ⟨0,by simp,by simp -implicitDefEqProofs only[vQ,↓reduceIte,jB],by simp -implicitDefEqProofs only[AA,↓reduceIte,jB] <;> rfl,by simp -implicitDefEqProofs only[AA,↓reduceIte,jB],by simp -implicitDefEqProofs only[AA,↓reduceIte,jB],by simp -implicitDefEqProofs only[AA,↓reduceIte] <;> rfl,rfl⟩ ?_
  rintro n F H ⟨i,hi,f0,f3,f9,f10,f11,rfl⟩
  simp -implicitDefEqProofs only[vQ,BD,↓reduceIte,enP,f10,f11]
  refine CU (fun hc => ?_) (fun hc => ?_)
  ·have hi':i < R.length:=by simpa using hc
   have hfl:=AG4 hi'
   have hle:=Y3 R (i+1)
   rw[hfl,qB] at hle
   have hw:IntKind.i64.wrap ((((R.take i).flatten.length:Nat):Int)+((R[i].length:Nat):Int))=(((R.take (i+1)).flatten.length:Nat):Int):=by rw[hfl,qB,wrap_i64 (by omega) (by omega)]; omega
   simp -implicitDefEqProofs only[vQ,BD,↓reduceIte,jB,enP,ABR,SK,f3,f9,f11,DL hi',C9 PX hi',A1O,jH,hw,QO,wrap_succ (show i < 9223372036854775807 by omega)]
   exact⟨n - 1,by omega,i+1,by omega,by first | exact True.intro | exact f0,by first | exact True.intro | exact rfl,by first | exact True.intro | exact f9,by first | exact True.intro | exact f10,by first | exact True.intro | exact rfl,by first | exact True.intro | exact rfl⟩
  ·have hi' : ¬ i < R.length:=by simpa using hc
   rw[jU (by omega)] at f3
   simp -implicitDefEqProofs only[vQ,↓reduceIte,jB]
   exact⟨by first | exact True.intro | exact f0,by first | exact True.intro | exact f3,by first | exact True.intro | exact rfl⟩
 rintro F H ⟨f0,f3,rfl⟩
 simp -implicitDefEqProofs only[vQ,BD,↓reduceIte,f3]
 refine(ASU G R.flatten.length hl H).mono ?_
 intro v0 H0 hg
 have I0:AYV H [] v0 H0∧Sm.ext H H0∧(R.flatten.length=0→v0 = .sl .nil 0 []):=by
  rcases hg with⟨h0,rfl,rfl⟩ | ⟨h0,rfl,rfl⟩
  ·exact⟨.inl ⟨rfl,rfl⟩,ext.rfl' _,fun _=>rfl⟩
  ·exact⟨.inr ⟨H.length,jL _,rfl,CZ _ _⟩,(ext.rfl' H).app _,fun q=>by omega⟩
 simp -implicitDefEqProofs only[vQ,BD,↓reduceIte,jB,enP,XV,f0,jH]
 refine DK (fun n F H' => ∃ i v,n+i=R.length∧F 6=v∧F 25 = .sl s 1 (R.map SS)∧F 26 = .int .i64 (R.length:Nat)∧F 27 = .int .i64 (i:Nat)∧AYV H (R.take i).flatten v H'∧Sm.ext H H'∧(R.flatten.length=0→v = .sl .nil 0 [])) R.length
  ⟨0,v0,by simp,by simp -implicitDefEqProofs only[AA,↓reduceIte,jB],by simp -implicitDefEqProofs only[AA,↓reduceIte,jB],by simp -implicitDefEqProofs only[AA,↓reduceIte,jB],by simp -implicitDefEqProofs only[AA,↓reduceIte] <;> rfl,by rw[qG]; exact I0.1,I0.2.1,I0.2.2⟩ ?_
 clear I0 hg f0 f3
 rintro n F H' ⟨i,v,hi,f6,f25,f26,f27,ho,hx,hz⟩
 simp -implicitDefEqProofs only[vQ,BD,↓reduceIte,enP,f26,f27]
 refine CU (fun hc => ?_) (fun hc => ?_)
 ·have hi':i < R.length:=by simpa using hc
  have hfl:=AG4 hi'
  have hle:=Y3 R (i+1)
  rw[hfl,qB] at hle
  obtain⟨v',H2,ha,ho2,hx2,hn2⟩:=AU2 (Cov.nm R[i]) ho hx (ys:=R[i]) (by omega)
  rw[← hfl] at ho2
  simp -implicitDefEqProofs only[vQ,BD,↓reduceIte,jB,enP,ABR,f6,f25,f27,DL hi',C9 PX hi',A1O,ha,wrap_succ (show i < 9223372036854775807 by omega)]
  exact⟨n - 1,by omega,i+1,v',by omega,by first | exact True.intro | exact rfl,by first | exact True.intro | exact f25,by first | exact True.intro | exact f26,by first | exact True.intro | exact rfl,ho2,hx2,fun q=>hn2 (hz q) (wO.1 (by omega))⟩
 ·have hi' : ¬ i < R.length:=by simpa using hc
  rw[jU (by omega)] at ho
  simp -implicitDefEqProofs only[vQ,BD,↓reduceIte,jB,f6]
  refine⟨hx,?_⟩
  rcases ho with⟨h1,h2⟩ | ⟨o,h1,h2,h3⟩
  ·exact .inl ⟨h2,h1⟩
  ·refine .inr ⟨fun q => ?_,o,h1,h2,h3⟩
   have:=hz (by rw[q]; rfl)
   rw[this] at h2; cases h2
end
theorem ANM (b:Bin):sets b=J5 b:=by
 unfold sets J5
 cases h:b.ranges.l with
 | nil=>rfl
 | cons x xs=>rw[if_pos (by simp),if_neg (by simp)]
structure VB (b:Bin):Prop where
 one:b.steps = []∨b.ranges.l = []
 ne:J5 b≠[]
 few:(J5 b).length≤8
 k0:0≤b.kind
 k2:b.kind≤2
 sk:b.kind≠0→b.steps = []
 each : ∀ s∈J5 b,s.l≠[]∧s.l.length≤64∧∀ r∈s.l,0≤r.lo∧r.lo≤r.hi∧r.hi≤65535
theorem A30 {b:Bin}(h:H9 b=0):VB b:=by
 unfold H9 at h
 split at h
 case isFalse=>cases h
 split at h
 case isTrue=>cases h
 rename_i h1 h2
 split at h
 case isTrue=>cases h
 rename_i h3
 split at h
 case isTrue=>cases h
 rename_i h4
 split at h
 case isTrue=>cases h
 rename_i h5
 have h2':JU b=false:=by simpa using h2
 unfold JU at h2'
 simp only[Bool.or_eq_false_iff,decide_eq_false_iff_not,Bool.and_eq_false_iff] at h2'
 obtain⟨⟨⟨⟨⟨q1,q2⟩,q3⟩,q4⟩,q5⟩,q6⟩:=h2'
 have hst : ∀ s∈b.steps,s.l≠[]:=fun s hs e=>by
  have:b.steps.any (fun l=>decide (l.l.length=0))=true:=zY.2 ⟨s,hs,by rw[e]; rfl⟩
  exact h3 this
 have h64 : ∀ s∈sets b,s.l.length≤64:=fun s hs=>by
  rcases Nat.lt_or_ge 64 s.l.length with q | q
  ·exact absurd (zY.2 ⟨s,hs,by simpa using q⟩) h4
  ·exact q
 have hbad : ∀ s∈sets b,∀ r∈s.l,bad r=false:=fun s hs r hr=>by
  cases hb:bad r with
  | false=>rfl
  | true=>exact absurd (zY.2 ⟨s,hs,zY.2 ⟨r,hr,hb⟩⟩) h5
 have hone:b.steps = []∨b.ranges.l = []:=by
  rcases Classical.em (b.steps = []) with q | q
  ·exact .inl q
  ·refine .inr ?_
   have l1:0 < b.steps.length:=List.length_pos_iff.2 q
   rcases Classical.em (b.ranges.l = []) with r | r
   ·exact r
   ·have l2:0 < b.ranges.l.length:=List.length_pos_iff.2 r
    have e1:decide (((b.ranges.l.length:Nat):Int) > 0)=true:=by rw[decide_eq_true_eq]; omega
    have e2:decide (((b.steps.length:Nat):Int) > 0)=true:=by rw[decide_eq_true_eq]; omega
    rw[e1,e2] at q3; cases q3
 have hne:b.steps≠[]∨b.ranges.l≠[]:=by
  rcases Classical.em (b.steps = []) with q | q
  ·refine .inr fun r => ?_
   rw[q,r] at q3; exact absurd q3 (by decide)
  ·exact .inl q
 rw[ANM] at h64 hbad
 refine⟨hone,?_,?_,by omega,by omega,fun hk => ?_,fun s hs=>⟨?_,h64 s hs,fun r hr => ?_⟩⟩
 ·unfold J5
  split
  ·rename_i q; exact hne.resolve_right (fun r=>r q)
  ·exact List.cons_ne_nil _ _
 ·unfold J5
  split
  ·simp at q6; omega
  ·simp
 ·rcases q4 with q | q
  ·simp at q; exact absurd q hk
  ·exact wO.1 (by omega)
 ·unfold J5 at hs
  split at hs
  ·exact hst s hs
  ·rename_i q
   rw[List.mem_singleton.1 hs]; exact q
 ·have:=hbad s hs r hr
  unfold bad at this
  simp only[Bool.or_eq_false_iff,decide_eq_false_iff_not] at this
  omega
structure VP (p:Pt):Prop where
 n1:1≤p.bins.length
 n64:p.bins.length≤64
 ex:exE p.ex=0
 bins : ∀ b∈p.bins,VB b
theorem A3Z {p:Pt}(h:GN p=0):VP p:=by
 obtain⟨h1,h2⟩:=AA5 h
 unfold GN at h
 split at h
 ·cases h
 split at h
 ·rename_i q; exact absurd h q
 rename_i q1
 split at h
 ·cases h
 split at h
 ·cases h
 split at h
 ·rename_i q; exact absurd h q
 rename_i q2
 exact⟨h1,h2,by simpa using q1,fun b hb=>A30 (TL _ (by simpa using q2) b hb)⟩
theorem ACC {m:Mo}(h:G8 m=0) : ∀ p∈m.pts,VP p:=by
 unfold G8 at h
 split at h
 ·cases h
 split at h
 ·rename_i q; exact absurd h q
 rename_i q
 exact fun p hp=>A3Z (TL _ (by simpa using q) p hp)
theorem AEP {n:Nat} : ∀ {l:List Bin},(∀ b∈l,b.kind≠0→b.ranges.l.length≤n)→(KF l).length≤n * l.length
 | [],_=>by simp [KF]
 | b :: l,h=>by
   have ih:=AEP (l:=l) fun b hb=>h b (by simp [hb])
   show((if b.kind≠0 then b.ranges.l else [])++KF l).length≤n * (l.length+1)
   rw[qB,Nat.mul_add]
   by_cases hk:b.kind≠0
   ·rw[if_pos hk]; have:=h b (by simp) hk; omega
   ·rw[if_neg hk,zX]; omega
theorem VB.ranges {b:Bin}(v:VB b)(hk:b.kind≠0):J5 b = [b.ranges]:=by
 rcases Classical.em (b.ranges.l = []) with q | q
 ·have h1:=setsB_nil' q
  have h2:=v.ne
  rw[h1,v.sk hk] at h2; exact absurd rfl h2
 ·unfold J5; rw[if_neg q]
 where setsB_nil' {b:Bin} (h:b.ranges.l = []):J5 b=b.steps:=by unfold J5; rw[if_pos h]
theorem VP.badLen {p:Pt}(v:VP p):(KF p.bins).length≤4096:=by
 have:=AEP (n:=64) (l:=p.bins) fun b hb hk=>((v.bins b hb).each b.ranges (by rw[(v.bins b hb).ranges hk]; simp)).2.1
 have:=v.n64
 omega
theorem AMU {r:Rng} : ∀ {l:List Bin},r∈KF l→∃ b∈l,b.kind≠0∧r∈b.ranges.l
 | b :: l,h=>by
   rcases qC.1 (show r∈(if b.kind≠0 then b.ranges.l else [])++KF l from h) with h | h
   ·by_cases hk:b.kind≠0
    ·rw[if_pos hk] at h; exact⟨b,by simp,hk,h⟩
    ·rw[if_neg hk] at h; cases h
   ·obtain⟨b',h1,h2⟩:=AMU h; exact⟨b',by simp [h1],h2⟩
theorem VP.badOk {p:Pt}(v:VP p) : ∀ r∈KF p.bins,0≤r.lo∧r.lo≤r.hi∧r.hi≤65535:=fun r hr=>by
 obtain⟨b,hb,hk,hr⟩:=AMU hr
 exact((v.bins b hb).each b.ranges (by rw[(v.bins b hb).ranges hk]; simp)).2.2 r hr
theorem AKZ {xs:List Rng}(h : ∀ r∈xs,0≤r.lo∧r.lo≤r.hi∧r.hi≤65535)(v:Int):inside (normal xs) v=inside xs v:=AFG (fun r hr=>by have:=h r hr; unfold inI; omega) v
theorem AGN {xs:List Rng}(h : ∀ r∈xs,0≤r.lo∧r.lo≤r.hi∧r.hi≤65535)(hx:xs≠[]):normal xs≠[]:=by
 intro e
 cases xs with
 | nil=>exact hx rfl
 | cons r rs =>
   have h1:=AKZ h r.lo
   rw[e] at h1
   have h2:inside (r :: rs) r.lo=true:=zY.2 ⟨r,by simp,by have:=h r (by simp); simp; omega⟩
   rw[h2] at h1; cases h1
theorem AJJ (op n:Int)(name:ByteArray)(m:SM)(args:List Ex):wt (.mk op n name m args)=name.size+1+wts args:=LW _
theorem nsz:(⟨#[]⟩:ByteArray).size=0:=rfl
theorem AT3 (n:Int):wt (cE n)=1:=by unfold cE; rw[AJJ,nsz]; rfl
theorem APQ : ∀ l:List Rng,wts (cEs l)=2 * l.length
 | []=>rfl
 | a :: l=>by
   rw[AEI]
   simp only[wts,AT3,APQ l,zT]; omega
theorem ABW (e:Ex)(l:List Rng):wt (J9 e l)=1+wt e+2 * l.length:=by
 rw[YY,AJJ,nsz]
 unfold insL
 simp only[wts,APQ]; omega
theorem A16 (a b:Ex):wt (orE a b)=1+wt a+wt b:=by
 unfold orE
 rw[AJJ,nsz]; simp only[wts]; omega
theorem APR (a:Ex):wt (notE a)=1+wt a:=by
 unfold notE
 rw[AJJ,nsz]; simp only[wts]; omega
theorem AKS (L:List Rng)(k:Nat):(part L k).length≤16:=by unfold part; rw[zF]; omega
theorem AHS (e:Ex)(L:List Rng) : ∀ k,wt (UA e L k)≤(k+1) * (wt e+34)
 | 0=>by
   have:=AKS L 0
   show wt (J9 e (part L 0))≤_
   rw[ABW]; omega
 | k+1=>by
   have:=AKS L (k+1)
   have ih:=AHS e L k
   show wt (orE (UA e L k) (J9 e (part L (k+1))))≤_
   rw[A16,ABW,Nat.add_mul (k+1) 1]; omega
theorem AB9 : ∀ l:List Ex,(∀ e∈l,wt (cpE e)=wt e)→wts (l.map cpE)=wts l
 | [],_=>rfl
 | e :: l,h=>by
   simp only[jD,wts]
   rw[h e (by simp),AB9 l fun e he=>h e (by simp [he])]
theorem A17 (e:Ex):wt (cpE e)=wt e:=by
 induction e using Ex.induct with | h e ih => ?_
 rw[Q3,AJJ,AB9 _ ih,LW e]
theorem AC6 {x:Ex} : ∀ {xs:List Ex},x∈J8 xs↔∃ a∈xs,x∈pre a
 | []=>by simp [J8]
 | a :: xs=>by simp [J8,AC6 (xs:=xs)]
def NmB (N:Nat)(e:Ex):Prop := ∀ x∈pre e,x.name.size≤N
theorem NmB.mk {N:Nat}{op n:Int}{name:ByteArray}{m:SM}{args:List Ex}(h:name.size≤N)(ha : ∀ a∈args,NmB N a):NmB N (.mk op n name m args):=fun x hx=>by
 rw[pre_eq] at hx
 rcases qN.1 hx with rfl | hx
 ·exact h
 ·obtain⟨a,h1,h2⟩:=AC6.1 hx
  exact ha a h1 x h2
theorem APL (N:Nat)(n:Int):NmB N (cE n):=NmB.mk (qR _) fun a h=>by cases h
theorem AE3 {N:Nat}{e:Ex}(h:NmB N e)(l:List Rng):NmB N (J9 e l):=by
 rw[YY]
 refine NmB.mk (qR _) fun a ha => ?_
 rcases qN.1 ha with rfl | ha
 ·exact h
 ·unfold cEs at ha
  obtain⟨r,_,hr⟩:=List.mem_flatMap.1 ha
  rcases qN.1 hr with rfl | hr
  ·exact APL N _
  ·rw[List.mem_singleton.1 hr]; exact APL N _
theorem A07 {N:Nat}{a b:Ex}(h1:NmB N a)(h2:NmB N b):NmB N (orE a b):=NmB.mk (qR _) fun x hx=>by
 rcases qN.1 hx with rfl | hx
 ·exact h1
 ·rw[List.mem_singleton.1 hx]; exact h2
theorem AXT {N:Nat}{a:Ex}(h1:NmB N a):NmB N (notE a):=NmB.mk (qR _) fun x hx=>by rw[List.mem_singleton.1 hx]; exact h1
theorem AE2 {N:Nat}{e:Ex}(h:NmB N e)(L:List Rng) : ∀ k,NmB N (UA e L k)
 | 0=>AE3 h _
 | k+1=>A07 (AE2 h L k) (AE3 h _)
theorem A08 {N:Nat}(e:Ex)(h:NmB N e):NmB N (cpE e):=by
 induction e using Ex.induct with | h e ih => ?_
 rw[Q3]
 refine NmB.mk (h e (by rw[pre_eq]; simp)) fun a ha => ?_
 obtain⟨b,hb,rfl⟩:=zI.1 ha
 exact ih b hb fun x hx=>h x (by rw[pre_eq]; exact List.mem_cons_of_mem _ (AC6.2 ⟨b,hb,hx⟩))
theorem AJB {e:Ex}{l:List Rng}(h:wt e≤1048576)(hl:l.length≤4096):WN (I7 e l)∧wt (I7 e l)≤269000000:=by
 have hn:NmB 1048576 e:=(AQ8 h).2
 have hnl:=UE l
 have hp:parts (normal l)≤256:=by rw[parts_eq]; omega
 unfold I7
 rcases Classical.em (normal l = []) with q | q
 ·have:PL e (normal l)=cE 0:=by unfold PL; rw[if_pos q]
  rw[this]
  exact⟨⟨by rw[AT3]; omega,APL _ _⟩,by rw[AT3]; omega⟩
 ·rw[VO e _ q]
  have h1:=AHS (cpE e) (normal l) (parts (normal l) - 1)
  rw[A17] at h1
  have h2:(parts (normal l) - 1+1) * (wt e+34)≤256 * (1048576+34):=Nat.mul_le_mul (by omega) (by omega)
  exact⟨⟨by omega,AE2 (A08 e hn) _ _⟩,by omega⟩
theorem AQ9 {e:Ex}{l:List Rng}(h:wt e≤1048576)(hl:l.length≤4096):WN (JM e l)∧wt (JM e l)≤269000000:=by
 have hn:NmB 1048576 e:=(AQ8 h).2
 have hnl:=UE l
 have hp:parts (normal l)≤256:=by rw[parts_eq]; omega
 unfold JM
 rcases Classical.em (normal l = []) with q | q
 ·have:PM e (normal l)=J9 e []:=by rw[q]; rfl
  rw[this]
  exact⟨⟨by rw[ABW,zX]; omega,AE3 hn _⟩,by rw[ABW,zX]; omega⟩
 ·rw[VQ e _ q]
  have h1:=AHS e (normal l) (parts (normal l) - 1)
  have h2:(parts (normal l) - 1+1) * (wt e+34)≤256 * (1048576+34):=Nat.mul_le_mul (by omega) (by omega)
  exact⟨⟨by omega,AE2 hn _ _⟩,by omega⟩
theorem AJA {e:Ex}(h:WN e∧wt e≤269000000):WN (notE e)∧wt (notE e)≤269000001:=⟨⟨by rw[APR]; omega,AXT h.1.2⟩,by rw[APR]; omega⟩
theorem ATD {P:Ex→Prop}{ins:Ex→List Rng→Ex}{p:Pt}{b:Bin}(h1 : ∀ s∈J5 b,P (ins p.ex s.l))(h2:KF p.bins≠[]→P (notE (ins p.ex (KF p.bins)))) : ∀ r∈UW ins p b,r.length≤2∧∀ e∈r,P e:=by
 have base : ∀ r∈(J5 b).map (fun s => [ins p.ex s.l]),r.length=1∧∀ e∈r,P e:=fun r hr=>by
  obtain⟨s,hs,rfl⟩:=zI.1 hr
  exact⟨rfl,fun e he=>by rw[List.mem_singleton.1 he]; exact h1 s hs⟩
 intro r hr
 unfold UW badO at hr
 by_cases q:KF p.bins = []
 ·rw[if_pos q] at hr
  obtain⟨a,b⟩:=base r hr
  exact⟨by omega,b⟩
 ·rw[if_neg q] at hr
  rcases List.mem_or_eq_of_mem_set (show r∈List.set _ _ _ from hr) with hr | rfl
  ·obtain⟨a,b⟩:=base r hr
   exact⟨by omega,b⟩
  ·cases hx:((J5 b).map fun s => [ins p.ex s.l])[((J5 b).map fun s => [ins p.ex s.l]).length - 1]? with
   | none =>
     refine⟨by simp,fun e he => ?_⟩
     have:e=notE (ins p.ex (KF p.bins)):=by simpa using he
     rw[this]; exact h2 q
   | some r0 =>
     obtain⟨a,b⟩:=base r0 (qA hx)
     refine⟨by simp [a],fun e he => ?_⟩
     rcases qC.1 he with he | he
     ·exact b e he
     ·rw[List.mem_singleton.1 he]; exact h2 q
theorem AWO (ins:Ex→List Rng→Ex)(p:Pt)(b:Bin):(UW ins p b).length=(J5 b).length:=by unfold UW; rw[AK4,jH]
def SN (m:Mo)(x:Hl):List Int:=if x.cross=true then (match AFS m x.idx with | some c=>c.pts | none => []) else [x.idx]
structure Prt (m:Mo) (x:Hl) (L:List (Nat × Nat)):Prop where
 pts:SN m x=L.map fun q=>(q.1:Int)
 bins:x.bins=L.map fun q=>(q.2:Int)
 ok : ∀ q∈L,∃ h:q.1 < m.pts.length,q.2 < m.pts[q.1].bins.length
 n1:1≤L.length
 n4:L.length≤4
def cdQ (ins:Ex→List Rng→Ex)(m:Mo)(q:Nat × Nat):List (List Ex):=match m.pts[q.1]? with
 | some p=>(match p.bins[q.2]? with | some b=>UW ins p b | none => [])
 | none => []
theorem AAK (ins:Ex→List Rng→Ex){m:Mo}{q:Nat × Nat}(h:q.1 < m.pts.length)(h2:q.2 < m.pts[q.1].bins.length):cdQ ins m q=UW ins m.pts[q.1] m.pts[q.1].bins[q.2]:=by
 unfold cdQ
 rw[jO h]
 show(match m.pts[q.1].bins[q.2]? with | some b=>UW ins m.pts[q.1] b | none => [])=_
 rw[jO h2]
def AWP (ins:Ex→List Rng→Ex)(m:Mo)(L:List (Nat × Nat)):List (List Ex):=ML (L.map (cdQ ins m))
def MV (m:Mo)(x:Hl):List (Nat × Nat):=((SN m x).map Int.toNat).zip (x.bins.map Int.toNat)
theorem AQD (l:List Int)(h : ∀ z∈l,0≤z):(l.map Int.toNat).map (fun n:Nat=>(n:Int))=l:=by
 rw[qI]
 conv=>rhs; rw[← List.map_id l]
 exact wV fun z hz=>by have:=h z hz; show((z.toNat:Nat):Int)=z; omega
theorem XO {m:Mo}{x:Hl}(hv:MX m x=true):Prt m x (MV m x):=by
 have mk : ∀ (ps bs:List Int),SN m x=ps→x.bins=bs→ps.length=bs.length→(∀ z∈ps,0≤z)→(∀ z∈bs,0≤z)→1≤ps.length→ps.length≤4 →
   (∀ k (h1:k < ps.length) (h2:k < bs.length),∃ h:ps[k].toNat < m.pts.length,bs[k].toNat < m.pts[ps[k].toNat].bins.length)→Prt m x (MV m x):=by
  intro ps bs hp hb hl p0 b0 l1 l4 hok
  have e1:(MV m x).map Prod.fst=ps.map Int.toNat:=by
   unfold MV
   rw[hp,hb,List.map_fst_zip (by simp [hl])]
  have e2:(MV m x).map Prod.snd=bs.map Int.toNat:=by
   unfold MV
   rw[hp,hb,List.map_snd_zip (by simp [hl])]
  have hlen:(MV m x).length=ps.length:=by have:=congrArg qF e1; simpa using this
  refine⟨?_,?_,fun q hq => ?_,by omega,by omega⟩
  ·have:=congrArg (List.map fun n:Nat=>(n:Int)) e1
   rw[AQD ps p0,qI] at this
   rw[hp]; exact this.symm
  ·have:=congrArg (List.map fun n:Nat=>(n:Int)) e2
   rw[AQD bs b0,qI] at this
   rw[hb]; exact this.symm
  ·obtain⟨k,hk,rfl⟩:=qJ hq
   have h1:k < ps.length:=by omega
   have h2:k < bs.length:=by omega
   have g1:(MV m x)[k].1=ps[k].toNat:=by
    have:((MV m x).map Prod.fst)[k]? = (ps.map Int.toNat)[k]? := by rw[e1]
    rw[jY,jY,jO hk,jO h1] at this
    simpa using this
   have g2:(MV m x)[k].2=bs[k].toNat:=by
    have:((MV m x).map Prod.snd)[k]? = (bs.map Int.toNat)[k]? := by rw[e2]
    rw[jY,jY,jO hk,jO h2] at this
    simpa using this
   obtain⟨q1,q2⟩:=hok k h1 h2
   rw[← g1] at q1
   refine⟨q1,?_⟩
   rw[g2]
   have:m.pts[(MV m x)[k].1]=m.pts[ps[k].toNat]:=by congr 1
   rw[this]; exact q2
 cases hc:x.cross
 ·obtain⟨i,hi,k,hk,hz,hb,hkd,hg⟩:=S9 hv hc
  refine mk [(i:Int)] [(k:Int)] ?_ hb rfl (fun z hz => ?_) (fun z hz => ?_) (by simp) (by simp) fun k' h1 h2 => ?_
  ·unfold SN; rw[if_neg (by rw[hc]; decide),hz]
  ·rw[List.mem_singleton.1 hz]; omega
  ·rw[List.mem_singleton.1 hz]; omega
  ·have:k'=0:=by simp at h1; omega
   subst this
   exact⟨hi,hk⟩
 ·obtain⟨i,hi,hz,hin,hh,hg⟩:=TA hv hc
  have hcg:=hg.crs _ (jS hi)
  have hl:=NK hin
  have hl2:m.crs[i].pts.length=x.bins.length:=by rw[← hl]; unfold szs; rw[jH]
  have h2:=hcg.two; have h4:=hcg.four
  refine mk m.crs[i].pts x.bins ?_ rfl hl2 (fun z hz=>(hcg.here z hz).1) (fun z hz => ?_) (by omega) (by omega) fun k h1 h2 => ?_
  ·unfold SN; rw[if_pos hc,hz,QI hi]
  ·obtain⟨k,hk,rfl⟩:=qJ hz
   exact(WB hin k hk (by omega)).1
  ·obtain⟨q1,q2⟩:=WB hin k h2 h1
   refine⟨hcg.here.toNat h1,?_⟩
   have:=hcg.here.bins h1
   rw[this]; omega
theorem AW9 {m:Mo}(hm:MoOk m)(h0:G8 m=0){p:Pt}(hp:p∈m.pts){b:Bin}(hb:b∈p.bins):BdB p b:=by
 have v:=ACC h0 p hp
 have vb:=v.bins b hb
 have h1:=v.n64
 have h2:=vb.few
 have h3:=v.badLen
 exact⟨vb.ne,by omega,fun s hs=>by have:=(vb.each s hs).2.1; omega,by omega,by omega,(hm.pts p hp).ex⟩
theorem AEG {P:Ex→Prop}{ins:Ex→List Rng→Ex}{m:Mo}(h0:G8 m=0){q:Nat × Nat}(h:q.1 < m.pts.length)(h2:q.2 < m.pts[q.1].bins.length)
  (h3 : ∀ l:List Rng,l.length≤4096→P (ins m.pts[q.1].ex l)∧P (notE (ins m.pts[q.1].ex l))) : ∀ r∈cdQ ins m q,r.length≤2∧∀ e∈r,P e:=by
 rw[AAK ins h h2]
 have v:=ACC h0 _ (jS h)
 have vb:=v.bins _ (jS h2)
 exact ATD (fun s hs=>(h3 s.l (by have:=(vb.each s hs).2.1; omega)).1) fun _=>(h3 _ v.badLen).2
theorem AIX {ins:Ex→List Rng→Ex}{m:Mo}(h0:G8 m=0){q:Nat × Nat}(h:q.1 < m.pts.length)(h2:q.2 < m.pts[q.1].bins.length):1≤(cdQ ins m q).length∧(cdQ ins m q).length≤8:=by
 rw[AAK ins h h2,AWO]
 have vb:=(ACC h0 _ (jS h)).bins _ (jS h2)
 exact⟨List.length_pos_iff.2 vb.ne,vb.few⟩
theorem AEV {P:Ex→Prop}{cs:List (List (List Ex))}(h : ∀ c∈cs,∀ r∈c,∀ e∈r,P e) : ∀ r∈ML cs,∀ e∈r,P e:=by
 intro r hr e he
 unfold ML at hr
 obtain⟨t,_,rfl⟩:=zI.1 hr
 unfold rowA at he
 obtain⟨c,hc,he⟩:=List.mem_flatMap.1 he
 unfold rowC at he
 split at he
 ·cases hx:c[t - (NT cs - c.length)]? with
  | none=>rw[hx] at he; cases he
  | some r0=>rw[hx] at he; exact h c hc r0 (qA hx) e he
 ·cases he
theorem ALS {B:Nat} : ∀ {R:List (List Ex)},(∀ r∈R,r.length≤B)→R.flatten.length≤B * R.length
 | [],_=>by simp
 | r :: R,h=>by
   have h1:=h r (by simp)
   have h2:=ALS (R:=R) fun r hr=>h r (by simp [hr])
   rw[List.flatten_cons,qB,zT,Nat.mul_add]; omega
theorem AHK {cs:List (List (List Ex))}(h4:cs.length≤4)(h8 : ∀ c∈cs,c.length≤8)(h2 : ∀ c∈cs,∀ r∈c,r.length≤2):(ML cs).length≤8∧(∀ r∈ML cs,r.length≤8)∧(ML cs).flatten.length≤64:=by
 have hn:NT cs≤8:=UI cs 0 _ (qR _) h8
 have a:(ML cs).length≤8:=by unfold ML; simpa using hn
 have b : ∀ r∈ML cs,r.length≤8:=fun r hr=>by
  unfold ML at hr
  obtain⟨t,_,rfl⟩:=zI.1 hr
  have:=VH (n:=NT cs) (t:=t) h2
  omega
 refine⟨a,b,?_⟩
 have:=ALS b
 omega
def cnL (ins:Ex→List Rng→Ex)(m:Mo)(x:Hl):List (List Ex):=AWP ins m (MV m x)
def cnE (ins:Ex→List Rng→Ex)(m:Mo)(x:Hl):Int:=if MX m x=true then (if(cnL ins m x).flatten.all (fun e=>exE e == 0)=true then 0 else 2) else 1
def cnV (ins:Ex→List Rng→Ex)(m:Mo)(x:Hl):AV := .tup [if cnE ins m x=0 then .sl .any 1 ((cnL ins m x).map SS) else .sl .nil 0 [],.int .i64 (cnE ins m x)]
theorem AGK (G:Nat→AV)(m:Mo)(x:Hl)(hv:MX m x=true)(h:Hp) : ∃ s,PCall (En G) 32 [.agg (EE m),.agg (IP x)] h (.sl s 1 ((SN m x).map Bins.qencI)):=by
 cases hc:x.cross
 ·obtain⟨i,hi,k,hk,hz,hb,hkd,hg⟩:=S9 hv hc
  exact⟨_,by have:=AKP G m x hc h; unfold SN; rw[if_neg (by rw[hc]; decide)]; exact this⟩
 ·obtain⟨i,hi,hz,hin,hh,hg⟩:=TA hv hc
  exact⟨_,by have:=AKQ G m x hc i hi hz h; unfold SN; rw[if_pos hc,hz,QI hi]; exact this⟩
section
variable (G:Nat→AV)
theorem AO3 (m:Mo)(hm:MoOk m)(h0:G8 m=0)(x:Hl)(L:List (Nat × Nat))(hL:Prt m x L)(j:Nat)(hj:j < L.length)(b2 b3:Nat)(h:Hp)(gm:h[b2]? = some (.live 2 [EE m]))(gh:h[b3]? = some (.live 3 [IP x])) :
  PCall (En G) 34 [.int .i64 (j:Nat),.int .i64 (L[j].1:Nat),.ptr b2 0 0,.ptr b3 0 0] h (.sl .any 1 ((cdQ I7 m L[j]).map encX)):=by
 obtain⟨h1,h2⟩:=hL.ok _ (jS hj)
 have B:=AW9 hm h0 (jS h1) (jS h2)
 have hb:j < x.bins.length:=by rw[hL.bins,jH]; exact hj
 have hbj:x.bins[j]=((L[j].2:Nat):Int):=by
  have:x.bins[j]? = (L.map fun q=>((q.2:Nat):Int))[j]? := by rw[← hL.bins]
  rw[jO hb,jY,jO hj] at this
  simpa using this
 rw[AAK I7 h1 h2]
 refine acN Tryz.func34 rfl ?_
 show awp _ _ _ _ _ (EJ _ [.tmp 6] _)
 simp -implicitDefEqProofs only[vQ,BD,enP]
 refine ET (by kernel_rfl) ?_
 simp -implicitDefEqProofs only[vQ,↓reduceIte,jB,jP,enP,QG,H7,JJ,LH,QF gm,DL h1,FM AAS XG IY h1,ZZ gh,DL hb,C9 ag3 hb,Cov.encI0,hbj]
 refine⟨_,AEE G m.pts[L[j].1] L[j].2 h2 B h,?_⟩
 try simp -implicitDefEqProofs only[]
 exact⟨by first | exact True.intro | exact rfl,by first | exact True.intro | exact rfl⟩
end
theorem AWW (h:Hp)(xs:List (List AV)):EQ Tryz.prog false h 73 1 [(0,.sl .any 1 xs)]=some (.sl .full 1 [[.sl .any 1 xs]],h):=by kernel_rfl
theorem A48 : ∀ l:List (List (List Ex)),LV (l.map MQ)=true:=fun l=>by
 unfold LV
 rw[zH]
 intro row hr
 obtain⟨c,_,rfl⟩:=zI.1 hr; rfl
theorem A0E (ins:Ex→List Rng→Ex)(m:Mo)(x:Hl)(n:Nat)(H:Hp):IL n H 3 (cnV ins m x)=cnV ins m x:=by
 unfold cnV
 split <;> rfl
theorem A0F {ins:Ex→List Rng→Ex}{m:Mo}{x:Hl}(h:MX m x=false):cnV ins m x = .tup [.sl .nil 0 [],.int .i64 1]:=by
 have:cnE ins m x=1:=by unfold cnE; rw[if_neg (by rw[h]; decide)]
 unfold cnV
 rw[this]; rfl
theorem A0D {ins:Ex→List Rng→Ex}{m:Mo}{x:Hl}(h:MX m x=true)(hc:(cnL ins m x).flatten.all (fun e=>exE e == 0)=false):cnV ins m x = .tup [.sl .nil 0 [],.int .i64 2]:=by
 have:cnE ins m x=2:=by unfold cnE; rw[if_pos h,if_neg (by rw[hc]; decide)]
 unfold cnV
 rw[this]; rfl
theorem A3N {ins:Ex→List Rng→Ex}{m:Mo}{x:Hl}(h:MX m x=true)(hc:(cnL ins m x).flatten.all (fun e=>exE e == 0)=true):cnV ins m x = .tup [.sl .any 1 ((cnL ins m x).map SS),.int .i64 0]:=by
 have:cnE ins m x=0:=by unfold cnE; rw[if_pos h,if_pos hc]
 unfold cnV
 rw[this]; rfl
theorem V6 {m:Mo}{x:Hl}(h:MX m x=true):G8 m=0:=by
 unfold MX at h
 rw[Bool.and_eq_true] at h
 simpa using h.1
section
variable (G:Nat→AV)
set_option maxHeartbeats 8000000 in
theorem V5 (hG:GOk G)(m:Mo)(hm:MoOk m)(x:Hl)(hn:x.bins.length≤1048576)(h:Hp):PCall (En G) 15 [.agg (EE m),.agg (IP x)] h (cnV I7 m x):=by
 refine ACalls.pure (R:=fun v H=>v=cnV I7 m x∧Sm.ext h H) 3 ?_ (fun v H ⟨a,b⟩=>⟨b,by rw[a,A0E]⟩)
 refine KW (H:=hint [] [(36,[35])]) (enM G) Tryz.func15 rfl (by kernel_rfl) (by kernel_rfl) (jI (by kernel_rfl)) ?_
 show awp _ _ _ _ _ (EJ _ [.tmp 4,.tmp 5] _)
 have t:=Hb.mk' h m x
 simp -implicitDefEqProofs only[vQ,jJ,jK,BD,↓reduceIte,jB,enP,jW,bxM,bxH]
 generalize h++[ABlk.live 2 [EE m]]++[ABlk.live 3 [IP x]]=H at t ⊢
 generalize (h++[ABlk.live 2 [EE m]]).length=hb at t ⊢
 simp -implicitDefEqProofs only[vQ,jJ,jK,BD,↓reduceIte,jB,enP,jW,ldM t.gm,ldH t.gh]
 refine(valid_prog G hG m hm x hn H).use ?_
 cases hv:MX m x
 ·simp -implicitDefEqProofs only[vQ,jJ,jK,BD,↓reduceIte,jB,jW]
  exact⟨by rw[A0F hv],t.hx⟩
 have h0:=V6 hv
 have hL:=XO hv
 obtain⟨s,hp⟩:=AGK G m x hv H
 rw[hL.pts] at hp
 simp -implicitDefEqProofs only[vQ,jJ,jK,BD,IM,↓reduceIte,jB,jV,enP,jW,ldM t.gm,ldH t.gh]
 refine hp.use ?_
 have hcl:cnL I7 m x=ML ((MV m x).map (cdQ I7 m)):=rfl
 have hln:=hL.n4
 have hl1:=hL.n1
 have hev : ∀ q∈MV m x,(∀ r∈cdQ I7 m q,r.length≤2∧∀ e∈r,WN e)∧1≤(cdQ I7 m q).length∧(cdQ I7 m q).length≤8:=fun q hq=>by
  obtain⟨a,b⟩:=hL.ok q hq
  have hw:=(hm.pts _ (jS a)).ex
  exact⟨AEG h0 a b fun l hl=>⟨(AJB hw hl).1,(AJA (AJB hw hl)).1⟩,AIX h0 a b⟩
 generalize MV m x=L at hL hcl hln hl1 hev
 simp -implicitDefEqProofs only[vQ,jJ,jK,BD,↓reduceIte,enP,JV,jW,jH]
 refine G6 0 (fun F H' => ∃ v,F 7=v∧Sm.ext H H'∧outG 1 MQ H (L.map (cdQ I7 m)) v H') (fun _ _=>False) ?_ ?_ (fun _ _ q=>q.elim)
 ·refine DK (fun n F H' => ∃ j v,n+j=L.length∧F 6 = .fn (.func 34) [] [.ptr h.length 0 0,.ptr hb 0 0]∧F 7=v∧F 20 = .sl s 1 ((L.map fun q=>((q.1:Nat):Int)).map Bins.qencI)∧F 21 = .int .i64 (L.length:Nat)∧F 22 = .int .i64 (j:Nat)∧Sm.ext H H'∧outG 1 MQ H ((L.take j).map (cdQ I7 m)) v H') L.length
   ⟨0,.sl .nil 0 [],by simp,by simp -implicitDefEqProofs only[AA,↓reduceIte,jB],by simp -implicitDefEqProofs only[AA,↓reduceIte,jB],by simp -implicitDefEqProofs only[AA,↓reduceIte,jB],by simp -implicitDefEqProofs only[AA,↓reduceIte,jB],by simp -implicitDefEqProofs only[AA,↓reduceIte] <;> rfl,ext.rfl' _,by rw[qG]; exact outG.nil _ _ _ _⟩ ?_
  rintro n F H' ⟨j,v,hj,f6,f7,f20,f21,f22,hx,ho⟩
  simp -implicitDefEqProofs only[vQ,jJ,jK,BD,↓reduceIte,enP,jW,f21,f22]
  refine CU (fun hc => ?_) (fun hc => ?_)
  ·have hj':j < L.length:=by simpa using hc
   have hj2:j < (L.map fun q=>((q.1:Nat):Int)).length:=by rw[jH]; exact hj'
   have hg:(L.map fun q=>((q.1:Nat):Int))[j]=((L[j].1:Nat):Int):=by simp
   have hlen:((L.take j).map (cdQ I7 m)).length < 8388608:=by rw[jH,zF]; omega
   obtain⟨v',H2,ha,ho2,_,he2,_,_⟩:=ho.append (P:=Tryz.prog) A31 A2F A3V A5J (by omega) hlen hx (cdQ I7 m L[j])
   have ha':FZ Tryz.prog true H' 73 73 v (.sl .full 1 [[.sl .any 1 ((cdQ I7 m L[j]).map encX)]])=some (v',H2):=ha
   have hst:(L.take (j+1)).map (cdQ I7 m)=(L.take j).map (cdQ I7 m)++[cdQ I7 m L[j]]:=by
    rw[zL hj',qV]; rfl
   simp -implicitDefEqProofs only[vQ,jJ,jK,BD,List.nil_append,List.cons_append,↓reduceIte,jB,enP,JJ,jW,f6,f7,f20,f22,DL hj2,C9 ag3 hj2,Cov.encI0,hg]
   refine(AO3 G m hm h0 x L hL j hj' h.length hb H' (FK hx t.gm) (FK hx t.gh)).use ?_
   simp -implicitDefEqProofs only[vQ,jJ,jK,BD,↓reduceIte,jB,enP,jW,f7,f22,AWW,ha',wrap_succ (show j < 9223372036854775807 by omega)]
   exact⟨n - 1,by omega,j+1,v',by omega,by first | exact True.intro | exact f6,by first | exact True.intro | exact rfl,by first | exact True.intro | exact f20,by first | exact True.intro | exact f21,by first | exact True.intro | exact rfl,he2,by rw[hst]; exact ho2⟩
  ·have hj' : ¬ j < L.length:=by simpa using hc
   rw[jU (by omega)] at ho
   simp -implicitDefEqProofs only[vQ,↓reduceIte,jB]
   exact⟨v,by first | exact True.intro | exact f7,hx,ho⟩
 rintro F H' ⟨v,f7,hx,ho⟩
 have hcl4:(L.map (cdQ I7 m)).length≤4:=by rw[jH]; exact hln
 have hcl1:L.map (cdQ I7 m)≠[]:=by intro q; have:=congrArg qF q; rw[jH,zX] at this; omega
 have hc8 : ∀ c∈L.map (cdQ I7 m),c.length≤8:=fun c hc=>by
  obtain⟨q,hq,rfl⟩:=zI.1 hc
  exact(hev q hq).2.2
 have hc2 : ∀ c∈L.map (cdQ I7 m),∀ r∈c,r.length≤2:=fun c hc r hr=>by
  obtain⟨q,hq,rfl⟩:=zI.1 hc
  exact((hev q hq).1 r hr).1
 have hcw : ∀ c∈L.map (cdQ I7 m),∀ r∈c,∀ e∈r,WN e:=fun c hc r hr=>by
  obtain⟨q,hq,rfl⟩:=zI.1 hc
  exact((hev q hq).1 r hr).2
 generalize L.map (cdQ I7 m)=cs at ho hcl hcl4 hcl1 hc8 hc2 hcw
 clear hev hp
 obtain⟨o,rfl,ho1,hob⟩ : ∃ o,v = .own o 0 cs.length∧H.length≤o∧H'[o]? = some (.live 1 (cs.map MQ)):=by
  rcases ho with⟨e1,_⟩ | ⟨_,o,h1,h2,h3⟩
  ·exact absurd e1 hcl1
  ·exact⟨o,h2,h1,h3⟩
 have hz:=ADM (i:=35) (off:=0) (len:=cs.length) hob (by simp) (by rw[zK,jU (by simp)]; exact A48 cs)
 rw[zK,jU (by simp)] at hz
 have hx2:=hx.set ho1 .dead
 simp -implicitDefEqProofs only[vQ,jJ,jK,BD,↓reduceIte,jW,f7,VU,hz]
 generalize H'.set o .dead=H2 at hx2 ⊢
 refine(AI4 G cs .any (by omega) (fun c hc=>by have:=hc8 c hc; omega) hc2 H2).use ?_
 obtain⟨ha1,ha2,ha3⟩:=AHK hcl4 hc8 hc2
 have haw : ∀ e∈(ML cs).flatten,WN e:=fun e he=>by
  obtain⟨r,hr,he⟩:=List.mem_flatten.1 he
  exact AEV hcw r hr e he
 rw[← hcl] at ha1 ha2 ha3 haw ⊢
 clear hcl
 simp -implicitDefEqProofs only[vQ,jJ,jK,BD,↓reduceIte,jW]
 refine(AMJ G (cnL I7 m x) .any (by omega) (by omega) H2).use ?_
 simp -implicitDefEqProofs only[vQ,jJ,jK,BD,↓reduceIte,enP,SK,jW,jH]
 generalize hE:(cnL I7 m x).flatten=E at ha3 haw ⊢
 have hok : ∀ b,E.all (fun e=>exE e == 0)=b→(cnL I7 m x).flatten.all (fun e=>exE e == 0)=b:=fun b hb=>by rw[hE]; exact hb
 have hhx:=t.hx.trans hx2
 refine G6 2 (fun F H'=>F 10 = .sl .any 1 ((cnL I7 m x).map SS)∧Sm.ext h H'∧E.all (fun e=>exE e == 0)=true) (fun F H'=>F 4 = .sl .nil 0 []∧F 5 = .int .i64 2∧Sm.ext h H'∧E.all (fun e=>exE e == 0)=false) ?_ ?_ ?_
 ·refine DK (fun n F H' => ∃ i,n+i=E.length∧F 10 = .sl .any 1 ((cnL I7 m x).map SS)∧F 38 = .sl (Cov.nm E) 4 (E.map CX)∧F 39 = .int .i64 (E.length:Nat)∧F 40 = .int .i64 (i:Nat)∧Sm.ext h H'∧E.all (fun e=>exE e == 0)=(E.drop i).all (fun e=>exE e == 0)) E.length
   ⟨0,by simp,by simp -implicitDefEqProofs only[AA,↓reduceIte,jB],by simp -implicitDefEqProofs only[AA,↓reduceIte,jB],by simp -implicitDefEqProofs only[AA,↓reduceIte,jB],by simp -implicitDefEqProofs only[AA,↓reduceIte] <;> rfl,hhx,rfl⟩ ?_
  rintro n F H3 ⟨i,hi,f10,f38,f39,f40,hx3,hq⟩
  simp -implicitDefEqProofs only[vQ,jJ,jK,BD,↓reduceIte,enP,jW,f39,f40]
  refine CU (fun hc => ?_) (fun hc => ?_)
  ·have hi':i < E.length:=by simpa using hc
   rw[zN hi',wG] at hq
   simp -implicitDefEqProofs only[vQ,jJ,jK,BD,↓reduceIte,jB,enP,WH,jT,jW,f38,f40,DL hi',FM TQ LD GU hi',VZ,AFC _ _ [.int .i64 0,.int .i64 0,.str ⟨#[]⟩,.sl .nil 0 []] rfl,ldE]
   refine(WZ G hG E[i] _ (haw _ (jS hi'))).use ?_
   simp -implicitDefEqProofs only[vQ,jJ,jK,BD,↓reduceIte,enP,jW,bne]
   cases hz:(exE E[i] == 0)
   ·rw[hz,qW] at hq
    simp -implicitDefEqProofs only[vQ,jJ,jK,BD,↓reduceIte,jB,jW]
    exact⟨by first | exact True.intro | exact rfl,by first | exact True.intro | exact rfl,hx3.app _,hq⟩
   ·rw[hz,qO] at hq
    simp -implicitDefEqProofs only[vQ,jJ,jK,BD,↓reduceIte,jB,jV,enP,jW,f40,wrap_succ (show i < 9223372036854775807 by omega)]
    exact⟨n - 1,by omega,i+1,by omega,by first | exact True.intro | exact f10,by first | exact True.intro | exact f38,by first | exact True.intro | exact f39,by first | exact True.intro | exact rfl,hx3.app _,hq⟩
  ·have hi' : ¬ i < E.length:=by simpa using hc
   rw[jZ (by omega)] at hq
   simp -implicitDefEqProofs only[vQ,↓reduceIte,jB]
   exact⟨by first | exact True.intro | exact f10,hx3,hq⟩
 ·rintro F H3 ⟨f10,hx3,hq⟩
  simp -implicitDefEqProofs only[vQ,jJ,jK,BD,↓reduceIte,jB,jW,f10]
  exact⟨by rw[A3N hv (hok _ hq)],hx3⟩
 ·rintro F H3 ⟨f4,f5,hx3,hq⟩
  simp -implicitDefEqProofs only[vQ,f4,f5]
  exact⟨by rw[A0D hv (hok _ hq)],hx3⟩
end
section
variable (G:Nat→AV)
theorem AMT (m:Mo)(hm:MoOk m)(h0:G8 m=0)(q:Nat × Nat)(h1:q.1 < m.pts.length)(h2:q.2 < m.pts[q.1].bins.length)(h:Hp):PCall (En G) 73 [.agg (GG m.pts[q.1]),.int .i64 (q.2:Nat)] h (.sl .any 1 ((cdQ JM m q).map encX)):=by
 rw[AAK JM h1 h2]
 exact A0T G m.pts[q.1] q.2 h2 (AW9 hm h0 (jS h1) (jS h2)) ((ACC h0 _ (jS h1)).bins _ (jS h2)).one h
theorem AYS {m:Mo}{x:Hl}{L:List (Nat × Nat)}(hL:Prt m x L){j:Nat}(hj:j < L.length) : ∃ hb:j < x.bins.length,x.bins[j]=((L[j].2:Nat):Int):=by
 have hb:j < x.bins.length:=by rw[hL.bins,jH]; exact hj
 refine⟨hb,?_⟩
 have:x.bins[j]? = (L.map fun q=>((q.2:Nat):Int))[j]? := by rw[← hL.bins]
 rw[jO hb,jY,jO hj] at this
 simpa using this
theorem A2R {m:Mo}{x:Hl}{L:List (Nat × Nat)}(hL:Prt m x L){j:Nat}(hj:j < L.length) : ∃ hb:j < (SN m x).length,(SN m x)[j]=((L[j].1:Nat):Int):=by
 have hb:j < (SN m x).length:=by rw[hL.pts,jH]; exact hj
 refine⟨hb,?_⟩
 have:(SN m x)[j]? = (L.map fun q=>((q.1:Nat):Int))[j]? := by rw[← hL.pts]
 rw[jO hb,jY,jO hj] at this
 simpa using this
set_option maxHeartbeats 4000000 in
theorem AR3 (m:Mo)(hm:MoOk m)(x:Hl)(hv:MX m x=true)(h:Hp) : ∃ s,PCall (En G) 39 [.agg (EE m),.agg (IP x)] h (.sl s 1 (((MV m x).map (cdQ JM m)).map MQ)):=by
 have h0:=V6 hv
 have hL:=XO hv
 have hln:=hL.n4
 have hl1:=hL.n1
 cases hc:x.cross
 ·obtain⟨i,hi,k,hk,hz,hb,hkd,hg⟩:=S9 hv hc
  have hps:SN m x = [(i:Int)]:=by unfold SN; rw[if_neg (by rw[hc]; decide),hz]
  have hp1:=hL.pts; have hp2:=hL.bins
  rw[hps] at hp1
  rw[hb] at hp2
  have hl:(MV m x) = [(i,k)]:=by
   generalize MV m x=L at hp1 hp2
   match L,hp1,hp2 with
   | [q],hp1,hp2 =>
     simp at hp1 hp2
     obtain⟨a,b⟩:=q
     simp at hp1 hp2
     obtain rfl:a=i:=by omega
     obtain rfl:b=k:=by omega
     rfl
  refine⟨.full,?_⟩
  rw[hl]
  refine ACalls.pure0 rfl ?_
  refine acN Tryz.func39 rfl ?_
  show awp _ _ _ _ _ (EJ _ [.tmp 4] _)
  have t:=Hb.mk' h m x
  simp -implicitDefEqProofs only[vQ,BD,↓reduceIte,jB,enP,UK,bxM,bxH]
  generalize h++[ABlk.live 2 [EE m]]++[ABlk.live 3 [IP x]]=H at t ⊢
  generalize (h++[ABlk.live 2 [EE m]]).length=b3 at t ⊢
  have l0:=AK9 t.gh; have l1:=ABO t.gh; have l2:=ZZ t.gh
  rw[hc] at l0
  rw[hz] at l1
  rw[hb] at l2
  have h01:0 < ([(k:Int)]:List Int).length:=by simp
  have i0:JZ 1 H (.sl x.bm 1 (([(k:Int)]:List Int).map Bins.qencI)) (.int .i64 0)=some (.fptr 1 (([(k:Int)]:List Int).map Bins.qencI) 0 0):=DL (k:=1) h01
  have lb:D5 Tryz.prog H 3 (.fptr 1 (([(k:Int)]:List Int).map Bins.qencI) 0 0)=some (.int .i64 (k:Int)):=(C9 ag3 h01).trans rfl
  simp -implicitDefEqProofs only[vQ,BD,↓reduceIte,l0]
  refine ET (by kernel_rfl) ?_
  simp -implicitDefEqProofs only[vQ,↓reduceIte,jB,jP,enP,QG,H7,JJ,LJ,LH,QF t.gm,l1,l2,DL hi,FM AAS XG IY hi]
  try simp only[jD,jE] at i0 lb
  try simp -implicitDefEqProofs only[vQ,IC,↓reduceIte,jB,jP,enP,i0,lb]
  refine⟨_,AMT G m hm h0 (i,k) hi hk H,?_⟩
  try simp -implicitDefEqProofs only[vQ,↓reduceIte,jP,AWW]
  exact⟨by first | exact True.intro | exact rfl,t.hx⟩
 ·obtain⟨i,hi,hz,hin,hh,hg⟩:=TA hv hc
  have hps:SN m x=m.crs[i].pts:=by unfold SN; rw[if_pos hc,hz,QI hi]
  generalize MV m x=L at hL hln hl1 ⊢
  refine⟨_,N7 (enc:=MQ) (fun _ _ _ _=>⟨rfl,rfl⟩) ?_⟩
  refine acN Tryz.func39 rfl ?_
  show awp _ _ _ _ _ (EJ _ [.tmp 4] _)
  have t:=Hb.mk' h m x
  simp -implicitDefEqProofs only[vQ,BD,↓reduceIte,jB,enP,UK,bxM,bxH]
  generalize h++[ABlk.live 2 [EE m]]++[ABlk.live 3 [IP x]]=H at t ⊢
  generalize (h++[ABlk.live 2 [EE m]]).length=b3 at t ⊢
  have l0:=AK9 t.gh
  rw[hc] at l0
  simp -implicitDefEqProofs only[vQ,BD,↓reduceIte,jV,l0]
  refine DK (fun n F H' => ∃ j v,n+j=L.length∧F 2 = .ptr h.length 0 0∧F 3 = .ptr b3 0 0∧F 5=v∧F 6 = .int .i64 (j:Nat)∧Sm.ext H H'∧outG 1 MQ H ((L.take j).map (cdQ JM m)) v H') L.length
   ⟨0,.sl .nil 0 [],by simp,by simp -implicitDefEqProofs only[AA,↓reduceIte,jB],by simp -implicitDefEqProofs only[AA,↓reduceIte,jB],by simp -implicitDefEqProofs only[AA,↓reduceIte,jB],by simp -implicitDefEqProofs only[AA,↓reduceIte] <;> rfl,ext.rfl' _,by rw[qG]; exact outG.nil _ _ _ _⟩ ?_
  rintro n F H' ⟨j,v,hj,f2,f3,f5,f6,hx,ho⟩
  have gm:=FK hx t.gm
  have gh:=FK hx t.gh
  have hbl:x.bins.length=L.length:=by rw[hL.bins,jH]
  simp -implicitDefEqProofs only[vQ,BD,↓reduceIte,jB,enP,JV,LH,f3,f6,ZZ gh,jH,hbl]
  refine CU (fun hc => ?_) (fun hc => ?_)
  ·have hj':j < L.length:=by simpa using hc
   obtain⟨hb,hbj⟩:=AYS hL hj'
   obtain⟨hp,hpj⟩:=A2R hL hj'
   obtain⟨q1,q2⟩:=hL.ok _ (jS hj')
   have l1:=ABO gh
   rw[hz] at l1
   have hp':j < m.crs[i].pts.length:=by rw[← hps]; exact hp
   have hpj':m.crs[i].pts[j]=((L[j].1:Nat):Int):=by
    rw[← hpj]; congr 1; exact hps.symm
   have hlen:((L.take j).map (cdQ JM m)).length < 8388608:=by rw[jH,zF]; omega
   obtain⟨v',H2,ha,ho2,_,he2,_,_⟩:=ho.append (P:=Tryz.prog) A31 A2F A3V A5J (by omega) hlen hx (cdQ JM m L[j])
   have ha':FZ Tryz.prog true H' 73 73 v (.sl .full 1 [[.sl .any 1 ((cdQ JM m L[j]).map encX)]])=some (v',H2):=ha
   have hst:(L.take (j+1)).map (cdQ JM m)=(L.take j).map (cdQ JM m)++[cdQ JM m L[j]]:=by
    rw[zL hj',qV]; rfl
   simp -implicitDefEqProofs only[vQ]
   refine ET (by kernel_rfl) ?_
   simp -implicitDefEqProofs only[vQ,BD,↓reduceIte,jB,jP,enP,QG,QU,H7,JS,JJ,LJ,LH,JO,f2,f3,f6,QF gm,VM gm,l1,DL hi,C9 MG hi,PU,DL hp',C9 ag3 hp',Cov.encI0,hpj',DL q1,FM AAS XG IY q1,ZZ gh,DL hb,C9 ag3 hb,hbj]
   refine⟨_,AMT G m hm h0 L[j] q1 q2 H',?_⟩
   try simp -implicitDefEqProofs only[vQ,BD,↓reduceIte,jB,enP,f5,f6,AWW,ha',wrap_succ (show j < 9223372036854775807 by omega)]
   exact⟨n - 1,by omega,j+1,v',by omega,by first | exact True.intro | exact f2,by first | exact True.intro | exact f3,by first | exact True.intro | exact rfl,by first | exact True.intro | exact rfl,he2,by rw[hst]; exact ho2⟩
  ·have hj' : ¬ j < L.length:=by simpa using hc
   rw[jU (by omega)] at ho
   simp -implicitDefEqProofs only[vQ,BD,↓reduceIte,jB,f5]
   exact⟨t.hx.trans hx,ho.base t.hx.le⟩
end
def AHX (l:List Ex):List AV := [fzG 4 CX l]
theorem AZS:Frz AHX:=fun _ _ _ l=>by cases l <;> exact⟨rfl,rfl⟩
theorem A1W (h:Hp)(l:List Ex):EQ Tryz.prog false h 33 1 [(0,fzG 4 CX l)]=some (.sl .full 1 [AHX l],h):=by
 cases l with
 | nil=>show EQ Tryz.prog false h 33 1 [(0,.sl .nil 0 [])]=some (.sl .full 1 [[.sl .nil 0 []]],h); kernel_rfl
 | cons x xs=>exact AQ4 h .any _
def cnW (ins:Ex→List Rng→Ex)(m:Mo)(x:Hl):AV := .tup [if cnE ins m x=0 then .sl .any 1 ((cnL ins m x).map AHX) else .sl .nil 0 [],.int .i64 (cnE ins m x)]
theorem A3M (ins:Ex→List Rng→Ex)(m:Mo)(x:Hl):CvR (cnW ins m x) (cnV ins m x):=by
 unfold cnW cnV
 split
 ·exact CvR.tup (CvRL.cons (CvR.sl (Cv.map fun l _=>A1M l)) (CvRL.cons (CvR.refl _) CvRL.nil))
 ·exact CvR.refl _
theorem A0C {ins:Ex→List Rng→Ex}{m:Mo}{x:Hl}(h:MX m x=false):cnW ins m x = .tup [.sl .nil 0 [],.int .i64 1]:=by
 have:cnE ins m x=1:=by unfold cnE; rw[if_neg (by rw[h]; decide)]
 unfold cnW
 rw[this]; rfl
theorem A0B {ins:Ex→List Rng→Ex}{m:Mo}{x:Hl}(h:MX m x=true)(hc:(cnL ins m x).flatten.all (fun e=>exE e == 0)=false):cnW ins m x = .tup [.sl .nil 0 [],.int .i64 2]:=by
 have:cnE ins m x=2:=by unfold cnE; rw[if_pos h,if_neg (by rw[hc]; decide)]
 unfold cnW
 rw[this]; rfl
theorem A3L {ins:Ex→List Rng→Ex}{m:Mo}{x:Hl}(h:MX m x=true)(hc:(cnL ins m x).flatten.all (fun e=>exE e == 0)=true):cnW ins m x = .tup [.sl .any 1 ((cnL ins m x).map AHX),.int .i64 0]:=by
 have:cnE ins m x=0:=by unfold cnE; rw[if_pos h,if_pos hc]
 unfold cnW
 rw[this]; rfl
def OH (N:Nat)(cs:List (List (List Ex)))(t:Nat):List (List Ex):=(zU t).map (rowA N cs)
theorem ACO (N:Nat)(cs:List (List (List Ex)))(t:Nat):OH N cs (t+1)=OH N cs t++[rowA N cs t]:=by simp [OH,List.range_succ]
theorem AGE (N:Nat)(cs:List (List (List Ex)))(t:Nat):(OH N cs t).length=t:=by simp [OH]
theorem ARR (N:Nat)(cs:List (List (List Ex))){t:Nat}(ht:t < N) : ∃ rest,OH N cs N=OH N cs t++rowA N cs t :: rest:=by
 have h1:OH N cs (t+1)=(OH N cs N).take (t+1):=by
  unfold OH
  rw[← List.map_take,List.take_range,Nat.min_eq_left (by omega)]
 refine⟨(OH N cs N).drop (t+1),?_⟩
 have h2:=List.take_append_drop (t+1) (OH N cs N)
 rw[← h1,ACO,List.append_assoc] at h2
 exact h2.symm
section
variable (G:Nat→AV)
set_option maxHeartbeats 8000000 in
theorem AFZ (m:Mo)(hm:MoOk m)(x:Hl)(hn:x.bins.length≤1048576)(h:Hp):PCall (En G) 16 [.agg (EE m),.agg (IP x)] h (cnV JM m x):=by
 refine PCall.res ?_ (A3M JM m x)
 refine ACalls.pure (R:=fun v H=>Sm.ext h H∧IL h.length H 3 v=cnW JM m x) 3 ?_ (fun v H ⟨a,b⟩=>⟨a,b⟩)
 refine KW (H:=hint [] [(80,[79])]) (enM G) Tryz.func16 rfl (by kernel_rfl) (by kernel_rfl) (jI (by kernel_rfl)) ?_
 show awp _ _ _ _ _ (EJ _ [.tmp 4,.tmp 5] _)
 have t:=Hb.mk' h m x
 simp -implicitDefEqProofs only[vQ,jJ,jK,BD,↓reduceIte,jB,enP,jW,bxM,bxH]
 generalize h++[ABlk.live 2 [EE m]]++[ABlk.live 3 [IP x]]=H at t ⊢
 generalize (h++[ABlk.live 2 [EE m]]).length=hb at t ⊢
 simp -implicitDefEqProofs only[vQ,jJ,jK,BD,↓reduceIte,jB,enP,jW,ldM t.gm,ldH t.gh]
 refine(valid_ref G m hm x hn H).use ?_
 cases hv:MX m x
 ·simp -implicitDefEqProofs only[vQ,jJ,jK,BD,↓reduceIte,jB,jW]
  exact⟨t.hx,by rw[A0C hv]; rfl⟩
 have h0:=V6 hv
 have hL:=XO hv
 obtain⟨s,hp⟩:=AR3 G m hm x hv H
 have hcl:cnL JM m x=ML ((MV m x).map (cdQ JM m)):=rfl
 have hln:=hL.n4
 have hl1:=hL.n1
 have hev : ∀ q∈MV m x,(∀ r∈cdQ JM m q,r.length≤2∧∀ e∈r,WN e)∧1≤(cdQ JM m q).length∧(cdQ JM m q).length≤8:=fun q hq=>by
  obtain⟨a,b⟩:=hL.ok q hq
  have hw:=(hm.pts _ (jS a)).ex
  exact⟨AEG h0 a b fun l hl=>⟨(AQ9 hw hl).1,(AJA (AQ9 hw hl)).1⟩,AIX h0 a b⟩
 generalize MV m x=L at hL hcl hln hl1 hev hp
 have hcl4:(L.map (cdQ JM m)).length≤4:=by rw[jH]; exact hln
 have hcl1:1≤(L.map (cdQ JM m)).length:=by rw[jH]; exact hl1
 have hc8 : ∀ c∈L.map (cdQ JM m),1≤c.length∧c.length≤8:=fun c hc=>by
  obtain⟨q,hq,rfl⟩:=zI.1 hc
  exact(hev q hq).2
 have hc2 : ∀ c∈L.map (cdQ JM m),∀ r∈c,r.length≤2:=fun c hc r hr=>by
  obtain⟨q,hq,rfl⟩:=zI.1 hc
  exact((hev q hq).1 r hr).1
 have hcw : ∀ c∈L.map (cdQ JM m),∀ r∈c,∀ e∈r,WN e:=fun c hc r hr=>by
  obtain⟨q,hq,rfl⟩:=zI.1 hc
  exact((hev q hq).1 r hr).2
 generalize L.map (cdQ JM m)=cs at hcl hcl4 hcl1 hc8 hc2 hcw hp
 clear hev
 have hN8:NT cs≤8:=UI cs 0 _ (qR _) fun c hc=>(hc8 c hc).2
 have hN1:1≤NT cs:=by
  have hm0:cs[0]∈cs:=jS (by omega)
  have:=ADB hm0
  have:=(hc8 _ hm0).1
  omega
 simp -implicitDefEqProofs only[vQ,jJ,jK,BD,↓reduceIte,jB,jV,enP,jW,ldM t.gm,ldH t.gh]
 refine hp.use ?_
 clear hp
 simp -implicitDefEqProofs only[vQ,jJ,jK,BD,↓reduceIte,jW]
 refine G6 0 (fun F H'=>F 6 = .sl s 1 (cs.map MQ)∧F 7 = .int .i64 (NT cs:Nat)∧H'=H) (fun _ _=>False) ?_ ?_ (fun _ _ q=>q.elim)
 ·refine DK (fun n F H' => ∃ i,n+i=cs.length∧F 6 = .sl s 1 (cs.map MQ)∧F 7 = .int .i64 (NT (cs.take i):Nat)∧F 8 = .int .i64 (i:Nat)∧H'=H) cs.length
   ⟨0,by simp,by simp -implicitDefEqProofs only[AA,↓reduceIte,jB],by simp -implicitDefEqProofs only[AA,↓reduceIte,jB] <;> rfl,by simp -implicitDefEqProofs only[AA,↓reduceIte] <;> rfl,rfl⟩ ?_
  rintro n F H' ⟨i,hi,f6,f7,f8,rfl⟩
  simp -implicitDefEqProofs only[vQ,jJ,jK,BD,↓reduceIte,jB,enP,AZG,jW,f6,f8,jH]
  refine CU (fun hc => ?_) (fun hc => ?_)
  ·have hi':i < cs.length:=by simpa using hc
   have hm:max ((NT (cs.take i):Nat):Int) ((cs[i].length:Nat):Int)=((NT (cs.take (i+1)):Nat):Int):=by rw[AGR cs i hi']; omega
   simp -implicitDefEqProofs only[vQ,jJ,jK,BD,AF2,ZY,↓reduceIte,jB,enP,XV,AVO,jW,f6,f7,f8,DL hi',C9 AXM hi',AD7,jH,hm,wrap_succ (show i < 9223372036854775807 by omega)]
   exact⟨n - 1,by omega,i+1,by omega,by first | exact True.intro | exact f6,by first | exact True.intro | exact rfl,by first | exact True.intro | exact rfl,by first | exact True.intro | exact rfl⟩
  ·have hi' : ¬ i < cs.length:=by simpa using hc
   rw[jU (by omega)] at f7
   simp -implicitDefEqProofs only[vQ,↓reduceIte,jB]
   exact⟨by first | exact True.intro | exact f6,by first | exact True.intro | exact f7,by first | exact True.intro | exact rfl⟩
 rintro F H' ⟨f6,f7,rfl⟩
 have hcr:cnL JM m x=OH (NT cs) cs (NT cs):=hcl
 clear hcl
 have hlm : ∀ c∈cs,c.length≤NT cs:=fun c hc=>ADB hc
 generalize NT cs=N at f7 hN8 hN1 hcr hlm
 simp -implicitDefEqProofs only[vQ,jJ,jK,BD,↓reduceIte,jW]
 refine DK (fun n F H => ∃ k v,n+k=N∧F 6 = .sl s 1 (cs.map MQ)∧F 7 = .int .i64 (N:Nat)∧F 9=v∧F 10 = .int .i64 (k:Nat)∧Sm.ext H' H∧outG 1 AHX H' (OH N cs k) v H∧(OH N cs k).flatten.all (fun e=>exE e == 0)=true) N
  ⟨0,.sl .nil 0 [],by simp,by simp -implicitDefEqProofs only[AA,↓reduceIte,jB,f6],by simp -implicitDefEqProofs only[AA,↓reduceIte,jB,f7],by simp -implicitDefEqProofs only[AA,↓reduceIte,jB],by simp -implicitDefEqProofs only[AA,↓reduceIte] <;> rfl,ext.rfl' _,outG.nil _ _ _ _,rfl⟩ ?_
 clear f6 f7
 rintro n F H1 ⟨k,v,hk,f6,f7,f9,f10,hx,ho,hok⟩
 simp -implicitDefEqProofs only[vQ,jJ,jK,BD,↓reduceIte,jB,enP,jW,f7,f10]
 refine CU (fun hc => ?_) (fun hc => ?_)
 rotate_left
 ·have hk':k=N:=by have : ¬ k < N:=by simpa using hc
                   omega
  subst hk'
  simp -implicitDefEqProofs only[vQ,jJ,jK,BD,↓reduceIte,jB,jW,f9]
  refine⟨t.hx.trans hx,?_⟩
  rw[A3L hv (by rw[hcr]; exact hok)]
  have:=Y0 AZS (ho.base t.hx.le) h.length 0 (jL _)
  show AV.tup [IL h.length H1 2 v,_]=_
  rw[this,hcr]
  have hne:OH k cs k≠[]:=by intro q; have:=congrArg qF q; rw[AGE,zX] at this; omega
  cases hq:OH k cs k with
  | nil=>exact absurd hq hne
  | cons a b=>rfl
 have hk':k < N:=by simpa using hc
 obtain⟨rest,hrest⟩:=ARR N cs hk'
 have hfail:(rowA N cs k).all (fun e=>exE e == 0)=false→cnW JM m x = .tup [.sl .nil 0 [],.int .i64 2]:=fun q=>A0B hv (by rw[hcr,hrest,List.flatten_append,List.all_append,hok,List.flatten_cons,List.all_append,q]; rfl)
 have hwr : ∀ e∈rowA N cs k,WN e:=fun e he=>by
  unfold rowA at he
  obtain⟨c,hc,he⟩:=List.mem_flatMap.1 he
  unfold rowC at he
  split at he
  ·cases hx:c[k - (N - c.length)]? with
   | none=>rw[hx] at he; cases he
   | some r0=>rw[hx] at he; exact hcw c hc r0 (qA hx) e he
  ·cases he
 simp -implicitDefEqProofs only[vQ,jJ,jK,BD,↓reduceIte,jW]
 refine G6 4 (fun F H => ∃ u,F 6 = .sl s 1 (cs.map MQ)∧F 7 = .int .i64 (N:Nat)∧F 9=v∧F 10 = .int .i64 (k:Nat)∧F 11=u∧Sm.ext H1 H∧outG 4 CX H1 (rowA N cs k) u H) (fun _ _=>False) ?_ ?_ (fun _ _ q=>q.elim)
 ·refine DK (fun n F H => ∃ i u,n+i=cs.length∧F 6 = .sl s 1 (cs.map MQ)∧F 7 = .int .i64 (N:Nat)∧F 9=v∧F 10 = .int .i64 (k:Nat)∧F 11=u∧F 12 = .int .i64 (i:Nat)∧Sm.ext H1 H∧outG 4 CX H1 (rowA N (cs.take i) k) u H) cs.length
   ⟨0,.sl .nil 0 [],by simp,by simp -implicitDefEqProofs only[AA,↓reduceIte,jB,f6],by simp -implicitDefEqProofs only[AA,↓reduceIte,jB,f7],by simp -implicitDefEqProofs only[AA,↓reduceIte,jB,f9],by simp -implicitDefEqProofs only[AA,↓reduceIte,jB,f10],by simp -implicitDefEqProofs only[AA,↓reduceIte,jB],by simp -implicitDefEqProofs only[AA,↓reduceIte] <;> rfl,ext.rfl' _,outG.nil _ _ _ _⟩ ?_
  clear f6 f7 f9 f10
  rintro n2 F H2 ⟨i,u,hi,f6,f7,f9,f10,f11,f12,hx2,hou⟩
  simp -implicitDefEqProofs only[vQ,jJ,jK,BD,↓reduceIte,jB,enP,AZG,jW,f6,f12,jH]
  refine CU (fun hd => ?_) (fun hd => ?_)
  ·have hi':i < cs.length:=by simpa using hd
   have hcN:=hlm _ (jS hi')
   have hc8':=hc8 _ (jS hi')
   have hc2':=hc2 _ (jS hi')
   have hst:=AGF N k cs i hi'
   have hlen1:(rowA N (cs.take i) k).length≤2 * i:=by
    have:=VH (n:=N) (t:=k) (B:=2) (cs:=cs.take i) fun c hc=>hc2 c (List.mem_of_mem_take hc)
    rw[zF,Nat.min_eq_left (by omega)] at this; exact this
   have hw1:IntKind.i64.wrap (((k:Nat):Int) - ((N:Nat):Int))=(k:Int) - (N:Int):=wrap_i64 (by omega) (by omega)
   have hw2 : ∀ l:Nat,l≤8→IntKind.i64.wrap ((k:Int) - (N:Int)+((l:Nat):Int))=(k:Int) - (N:Int)+(l:Int):=fun l hl=>wrap_i64 (by omega) (by omega)
   simp -implicitDefEqProofs only[vQ,jJ,jK,BD,↓reduceIte,jB,enP,XV,AVO,jW,f6,f7,f10,f12,DL hi',C9 AXM hi',AD7,jH,hw1,hw2 cs[i].length hc8'.2]
   refine PW (fun F H => ∃ u,F 6 = .sl s 1 (cs.map MQ)∧F 7 = .int .i64 (N:Nat)∧F 9=v∧F 10 = .int .i64 (k:Nat)∧F 11=u∧F 12 = .int .i64 (i:Nat)∧Sm.ext H1 H∧outG 4 CX H1 (rowA N (cs.take (i+1)) k) u H) (fun _ _=>False) (fun he => ?_) (fun he => ?_) ?_ (fun _ _ q=>q.elim)
   ·have he':N - cs[i].length≤k:=by have:=of_decide_eq_true he; omega
    have hkk:(k:Int) - (N:Int)+((cs[i].length:Nat):Int)=((k - (N - cs[i].length):Nat):Int):=by omega
    have hkl:k - (N - cs[i].length) < cs[i].length:=by omega
    have hrc:rowC N k cs[i]=cs[i][k - (N - cs[i].length)]:=by
     unfold rowC
     rw[if_pos he',jO hkl]; rfl
    have hr2:=hc2' _ (jS hkl)
    obtain⟨u',H3,ha,ho2,_,he2,_,_⟩:=QM (P:=Tryz.prog) .any hou YF LD AE8 AFV (by omega) (ys:=cs[i][k - (N - cs[i].length)]) (by omega) hx2
    rw[← hrc,← hst] at ho2
    simp -implicitDefEqProofs only[vQ,jJ,jK,OM,BD,↓reduceIte,jB,enP,ABR,AVO,jW,f6,f11,f12,hkk,DL hi',C9 AXM hi',AD7,DL hkl,C9 PX hkl,A1P,ha]
    exact⟨u',by first | exact True.intro | exact f6,by first | exact True.intro | exact f7,by first | exact True.intro | exact f9,by first | exact True.intro | exact f10,by first | exact True.intro | exact rfl,by first | exact True.intro | exact f12,he2,ho2⟩
   ·have he' : ¬ N - cs[i].length≤k:=by have:=of_decide_eq_false he; omega
    have hrc:rowC N k cs[i] = []:=by unfold rowC; rw[if_neg he']
    rw[hrc,jF] at hst
    simp -implicitDefEqProofs only[vQ,OM,↓reduceIte,jB]
    exact⟨u,by first | exact True.intro | exact f6,by first | exact True.intro | exact f7,by first | exact True.intro | exact f9,by first | exact True.intro | exact f10,by first | exact True.intro | exact f11,by first | exact True.intro | exact f12,hx2,by rw[hst]; exact hou⟩
   clear f6 f7 f9 f10 f11 f12 hx2 hou
   rintro F H2 ⟨u,f6,f7,f9,f10,f11,f12,hx2,hou⟩
   simp -implicitDefEqProofs only[vQ,jJ,jK,BD,↓reduceIte,jB,enP,jW,f12,wrap_succ (show i < 9223372036854775807 by omega)]
   exact⟨n2 - 1,by omega,i+1,u,by omega,by first | exact True.intro | exact f6,by first | exact True.intro | exact f7,by first | exact True.intro | exact f9,by first | exact True.intro | exact f10,by first | exact True.intro | exact f11,by first | exact True.intro | exact rfl,hx2,hou⟩
  ·have hi' : ¬ i < cs.length:=by simpa using hd
   rw[jU (by omega)] at hou
   simp -implicitDefEqProofs only[vQ,↓reduceIte,jB]
   exact⟨u,by first | exact True.intro | exact f6,by first | exact True.intro | exact f7,by first | exact True.intro | exact f9,by first | exact True.intro | exact f10,by first | exact True.intro | exact f11,hx2,hou⟩
 clear f6 f7 f9 f10
 rintro F H2 ⟨u,f6,f7,f9,f10,f11,hx2,hou⟩
 have hlenA:(rowA N cs k).length≤8:=by
  have:=VH (n:=N) (t:=k) (B:=2) (cs:=cs) hc2
  omega
 have hdl:=hou.len SK
 have hrs:=ACO N cs k
 generalize rowA N cs k=A at hou hfail hwr hrest hlenA hdl hrs
 simp -implicitDefEqProofs only[vQ,jJ,jK,BD,↓reduceIte,jW]
 refine G6 6 (fun F H=>F 6 = .sl s 1 (cs.map MQ)∧F 7 = .int .i64 (N:Nat)∧F 9=v∧F 10 = .int .i64 (k:Nat)∧F 11=u∧H=H2∧A.all (fun e=>exE e == 0)=true) (fun F H=>F 4 = .sl .nil 0 []∧F 5 = .int .i64 2∧H=H2∧A.all (fun e=>exE e == 0)=false) ?_ ?_ ?_
 ·refine DK (fun n F H => ∃ i,n+i=A.length∧F 6 = .sl s 1 (cs.map MQ)∧F 7 = .int .i64 (N:Nat)∧F 9=v∧F 10 = .int .i64 (k:Nat)∧F 11=u∧F 14 = .int .i64 (i:Nat)∧H=H2∧A.all (fun e=>exE e == 0)=(A.drop i).all (fun e=>exE e == 0)) A.length
   ⟨0,by simp,by simp -implicitDefEqProofs only[AA,↓reduceIte,jB,f6],by simp -implicitDefEqProofs only[AA,↓reduceIte,jB,f7],by simp -implicitDefEqProofs only[AA,↓reduceIte,jB,f9],by simp -implicitDefEqProofs only[AA,↓reduceIte,jB,f10],by simp -implicitDefEqProofs only[AA,↓reduceIte,jB,f11],by simp -implicitDefEqProofs only[AA,↓reduceIte] <;> rfl,rfl,rfl⟩ ?_
  clear f6 f7 f9 f10 f11
  rintro n2 F H3 ⟨i,hi,f6,f7,f9,f10,f11,f14,rfl,hq⟩
  simp -implicitDefEqProofs only[vQ,jJ,jK,BD,↓reduceIte,jB,enP,jW,f11,f14,hdl]
  refine CU (fun hd => ?_) (fun hd => ?_)
  ·have hi':i < A.length:=by simpa using hd
   obtain⟨o,rfl,hob⟩ : ∃ o,u = .own o 0 A.length∧H3[o]? = some (.live 4 (A.map CX)):=by
    rcases hou with⟨e1,_⟩ | ⟨_,o,_,h2,h3⟩
    ·rw[e1] at hi'; simp at hi'
    ·exact⟨o,h2,h3⟩
   have ii:JZ 4 H3 (.own o 0 A.length) (.int .i64 (i:Nat))=some (.ptr o i 0):=by rw[II hob hi',jG]
   have dd:D5 Tryz.prog H3 48 (.ptr o i 0)=some (.agg (CX A[i])):=by
    rw[GV TQ LD hob (Cov.row_map hi') (by rw[GU]; exact jL 4),zK,← GU A[i],List.take_length]
   rw[zN hi',wG] at hq
   simp -implicitDefEqProofs only[vQ,jJ,jK,BD,↓reduceIte,jB,enP,WH,jW,f11,f14,ii,dd]
   refine(Y6 G A[i] _ (hwr _ (jS hi'))).use ?_
   simp -implicitDefEqProofs only[vQ,jJ,jK,BD,↓reduceIte,enP,jW,bne]
   cases hz:(exE A[i] == 0)
   ·rw[hz,qW] at hq
    simp -implicitDefEqProofs only[vQ,jJ,jK,BD,↓reduceIte,jB,jW]
    exact⟨by first | exact True.intro | exact rfl,by first | exact True.intro | exact rfl,by first | exact True.intro | exact rfl,hq⟩
   ·rw[hz,qO] at hq
    simp -implicitDefEqProofs only[vQ,jJ,jK,BD,↓reduceIte,jB,jV,enP,jW,f14,wrap_succ (show i < 9223372036854775807 by omega)]
    exact⟨n2 - 1,by omega,i+1,by omega,by first | exact True.intro | exact f6,by first | exact True.intro | exact f7,by first | exact True.intro | exact f9,by first | exact True.intro | exact f10,by first | exact True.intro | exact f11,by first | exact True.intro | exact rfl,by first | exact True.intro | exact rfl,hq⟩
  ·have hi' : ¬ i < A.length:=by simpa using hd
   rw[jZ (by omega)] at hq
   simp -implicitDefEqProofs only[vQ,↓reduceIte,jB]
   exact⟨by first | exact True.intro | exact f6,by first | exact True.intro | exact f7,by first | exact True.intro | exact f9,by first | exact True.intro | exact f10,by first | exact True.intro | exact f11,by first | exact True.intro | exact rfl,hq⟩
 ·clear f6 f7 f9 f10 f11
  rintro F H3 ⟨f6,f7,f9,f10,f11,rfl,hq⟩
  have hok2:(OH N cs (k+1)).flatten.all (fun e=>exE e == 0)=true:=by
   rw[hrs,List.flatten_append,List.all_append,hok,List.flatten_cons,List.flatten_nil,jF,hq]; rfl
  have hl1:(OH N cs k).length < 8388608:=by rw[AGE]; omega
  rcases hou with⟨e1,rfl⟩ | ⟨e1,o,e2,rfl,e3⟩
  ·have hz:=AZR (H:=H3) (i:=79) (k:=0) (m := .nil) (xs := [])
   obtain⟨v',H4,ha,ho2,_,he2,_,_⟩:=(ACZ ho hx2).append (P:=Tryz.prog) ARH AFA ATZ ATI (by omega) hl1 (hx.trans hx2) A
   have ha':FZ Tryz.prog true H3 33 33 v (.sl .full 1 [AHX A])=some (v',H4):=ha
   have hb:EQ Tryz.prog false H3 33 1 [(0,.sl .nil 0 [])]=some (.sl .full 1 [AHX A],H3):=by
    have:=A1W H3 A
    rw[e1] at this ⊢
    exact this
   simp -implicitDefEqProofs only[vQ,jJ,jK,BD,↓reduceIte,jB,enP,jW,f9,f10,f11,VU,hz,hb,ha',wrap_succ (show k < 9223372036854775807 by omega)]
   exact⟨n - 1,by omega,k+1,v',by omega,by first | exact True.intro | exact f6,by first | exact True.intro | exact f7,by first | exact True.intro | exact rfl,by first | exact True.intro | exact rfl,he2,by rw[hrs]; exact ho2,hok2⟩
  ·have hz:=ADM (i:=79) (off:=0) (len:=A.length) e3 (by simp) (by rw[zK,jU (by simp)]; exact Q8 A)
   rw[zK,jU (by simp)] at hz
   have hx4:=hx2.set e2 .dead
   obtain⟨v',H4,ha,ho2,_,he2,_,_⟩:=(ACZ ho hx4).append (P:=Tryz.prog) ARH AFA ATZ ATI (by omega) hl1 (hx.trans hx4) A
   have ha':FZ Tryz.prog true (H3.set o .dead) 33 33 v (.sl .full 1 [AHX A])=some (v',H4):=ha
   have hb:EQ Tryz.prog false (H3.set o .dead) 33 1 [(0,.sl .any 4 (A.map CX))]=some (.sl .full 1 [AHX A],H3.set o .dead):=by
    have:=A1W (H3.set o .dead) A
    cases hA:A with
    | nil=>exact absurd hA e1
    | cons a b=>rw[hA] at this; exact this
   simp -implicitDefEqProofs only[vQ,jJ,jK,BD,↓reduceIte,jB,enP,jW,f9,f10,f11,VU,hz,hb,ha',wrap_succ (show k < 9223372036854775807 by omega)]
   exact⟨n - 1,by omega,k+1,v',by omega,by first | exact True.intro | exact f6,by first | exact True.intro | exact f7,by first | exact True.intro | exact rfl,by first | exact True.intro | exact rfl,he2,by rw[hrs]; exact ho2,hok2⟩
 ·rintro F H3 ⟨f4,f5,rfl,hq⟩
  simp -implicitDefEqProofs only[vQ,f4,f5]
  exact⟨t.hx.trans (hx.trans hx2),by rw[hfail hq]; rfl⟩
end
theorem A5F (e:Ex):(cpE e).op=e.op:=by rw[Q3]; rfl
theorem A7A (e:Ex):(cpE e).n=e.n:=by rw[Q3]; rfl
theorem AZ8 (e:Ex):(cpE e).name=e.name:=by rw[Q3]; rfl
theorem AIT (e:Ex):(cpE e).args=e.args.map cpE:=by rw[Q3]; rfl
theorem AU8 (e:Ex):KJ (cpE e)=KJ e:=by
 unfold KJ Cov.badO AFX AEO WJ
 rw[A5F,A7A,AZ8,AIT,jH]
theorem AKN : ∀ l:List Ex,(∀ e∈l,pre (cpE e)=(pre e).map cpE)→J8 (l.map cpE)=(J8 l).map cpE
 | [],_=>rfl
 | e :: l,h=>by
   show pre (cpE e)++J8 (l.map cpE)=(pre e++J8 l).map cpE
   rw[qV,h e (by simp),AKN l fun x hx=>h x (by simp [hx])]
theorem A2S (e:Ex):pre (cpE e)=(pre e).map cpE:=by
 induction e using Ex.induct with | h e ih => ?_
 rw[pre_eq,pre_eq e,AIT,AKN _ ih,jD]
theorem AMA : ∀ l:List Ex,(∀ e∈l,dep (cpE e)=dep e)→deps (l.map cpE)=deps l
 | [],_=>rfl
 | e :: l,h=>by
   show max (dep (cpE e)) (deps (l.map cpE))=max (dep e) (deps l)
   rw[h e (by simp),AMA l fun x hx=>h x (by simp [hx])]
theorem A3E (e:Ex):dep (cpE e)=dep e:=by
 induction e using Ex.induct with | h e ih => ?_
 rw[AAI,AAI e,AIT,AMA _ ih]
theorem AV4 (l:List Ex):errs (l.map cpE)=errs l:=by
 unfold errs
 rw[List.foldl_map]
 congr 1
 funext z e
 rw[AU8]
theorem A29 (e:Ex):exE (cpE e)=exE e:=by
 unfold exE
 rw[A2S,AV4,A3E,jH]
theorem AMI {m:Mo}{x:Hl}(hv:MX m x=true):eqC (cnL I7 m x) (cnL JM m x):=by
 have hL:=XO hv
 have h0:=V6 hv
 unfold cnL AWP
 refine AS2 (by simp) fun i h1 h2 => ?_
 rw[List.getElem_map,List.getElem_map]
 obtain⟨a,b⟩:=hL.ok _ (jS (by simpa using h1))
 rw[AAK _ a b,AAK _ a b]
 have vp:=ACC h0 _ (jS a)
 have vb:=vp.bins _ (jS b)
 exact AV7 (fun s hs=>AGN (vb.each s hs).2.2 (vb.each s hs).1) (fun hb=>AGN vp.badOk hb)
theorem AXH {P:Ex→Bool}(hP : ∀ e,P (cpE e)=P e) : ∀ {a b:List Ex},a.map cpE=b.map cpE→a.all P=b.all P
 | [],[],_=>rfl
 | [],_ :: _,h=>by cases h
 | _ :: _,[],h=>by cases h
 | x :: xs,y :: ys,h=>by
   simp only[jD,List.cons.injEq] at h
   rw[wG,wG,AXH hP h.2,← hP x,h.1,hP y]
theorem AV6 {a b:List (List Ex)}(h:eqC a b):a.flatten.map cpE=b.flatten.map cpE:=by
 have:=congrArg List.flatten (show a.map (·.map cpE)=b.map (·.map cpE) from h)
 rw[List.map_flatten,List.map_flatten]
 exact this
theorem A3O (m:Mo)(x:Hl):cnE I7 m x=cnE JM m x:=by
 unfold cnE
 split
 ·rename_i hv
  rw[AXH (P:=fun e=>exE e == 0) (fun e=>by simp only[A29]) (AV6 (AMI hv))]
 ·rfl
theorem AWQ {ins:Ex→List Rng→Ex}{m:Mo}{x:Hl}(hm:MoOk m)(hv:MX m x=true)(hi : ∀ {e:Ex} {l:List Rng},wt e≤1048576→l.length≤4096→WN (ins e l)∧wt (ins e l)≤269000000) :
  (cnL ins m x).length≤8∧(cnL ins m x).flatten.length≤64∧∀ r∈cnL ins m x,r.length≤64∧∀ e∈r,WN e:=by
 have h0:=V6 hv
 have hL:=XO hv
 have hln:=hL.n4
 have hev : ∀ q∈MV m x,(∀ r∈cdQ ins m q,r.length≤2∧∀ e∈r,WN e)∧1≤(cdQ ins m q).length∧(cdQ ins m q).length≤8:=fun q hq=>by
  obtain⟨a,b⟩:=hL.ok q hq
  have hw:=(hm.pts _ (jS a)).ex
  exact⟨AEG h0 a b fun l hl=>⟨(hi hw hl).1,(AJA (hi hw hl)).1⟩,AIX h0 a b⟩
 unfold cnL AWP
 have hc8 : ∀ c∈(MV m x).map (cdQ ins m),c.length≤8:=fun c hc=>by
  obtain⟨q,hq,rfl⟩:=zI.1 hc
  exact(hev q hq).2.2
 have hc2 : ∀ c∈(MV m x).map (cdQ ins m),∀ r∈c,r.length≤2:=fun c hc r hr=>by
  obtain⟨q,hq,rfl⟩:=zI.1 hc
  exact((hev q hq).1 r hr).1
 have hcw : ∀ c∈(MV m x).map (cdQ ins m),∀ r∈c,∀ e∈r,WN e:=fun c hc r hr=>by
  obtain⟨q,hq,rfl⟩:=zI.1 hc
  exact((hev q hq).1 r hr).2
 obtain⟨ha1,ha2,ha3⟩:=AHK (by rw[jH]; exact hln) hc8 hc2
 exact⟨by omega,by omega,fun r hr=>⟨by have:=ha2 r hr; omega,AEV hcw r hr⟩⟩
end Go.Proofs.YtfpagfhhhlljjaaGreatDoor.Ho
