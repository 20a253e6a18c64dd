/- Part 9 of the proof (A1, Q1, Q2, Q3, A2, Q4, Q5, Q6, Q7, Q8); no condition. -/
import Derived.Test.YtocilianjfhifaaGreatDoorY8
set_option linter.unusedVariables false
namespace Go.Proofs.YtocilianjfhifaaGreatDoor.Cov
open Sm Bins Go.RowKit
theorem NJ {n:Int}:I9 n=true↔0≤n∧n≤1099511627776:=by unfold I9; simp
theorem VP {n:Int} {p:Bool} (h:countB n p=true):I9 n=true:=by unfold countB at h; simp only [Bool.and_eq_true] at h; exact h.1
def WL (x:List Int):Prop := ∀ n∈x,I9 n=true
theorem TS : ∀ {x:List Int} {p:Nat→Bool} {k:Nat},VD p k x=true→WL x
 | [],_,_,_=>fun _ h=>by cases h
 | n :: x,p,k,h=>by
   simp only [VD,Bool.and_eq_true] at h
   intro m hm
   rcases List.mem_cons.1 hm with rfl | hm
   ·exact VP h.1
   ·exact TS h.2 m hm
theorem U2 {m:Mo} {v:Cvr}:MV m v=true↔FX m=0∧LU okP m.pts v.pts=true∧LU (okC m) m.crs v.crs=true∧I9 v.sam=true∧I9 v.ill=true:=by
 unfold MV
 simp only [Bool.and_eq_true,beq_iff_eq]
 exact ⟨fun ⟨⟨⟨⟨a,b⟩,c⟩,d⟩,e⟩=>⟨a,b,c,d,e⟩,fun ⟨a,b,c,d,e⟩=>⟨⟨⟨⟨a,b⟩,c⟩,d⟩,e⟩⟩
def zeros (n:Nat):List Int:=List.replicate n 0
def zIs (n:Nat):Is:=⟨.full,zeros n⟩
def zPs (m:Mo):List Is:=m.pts.map fun p=>zIs p.bins.length
def zCs (m:Mo):List Is:=m.crs.map fun c=>zIs (H8 (szs m c.pts))
def WE (m:Mo):Cvr:=⟨nm (zPs m),zPs m,nm (zCs m),zCs m,0,0⟩
theorem RI : ∀ (n:Nat) {p:Nat→Bool} {k:Nat},VD p k (zeros n)=true
 | 0,_,_=>rfl
 | n+1,p,k=>by
   have ih:=RI n (p:=p) (k:=k+1)
   unfold zeros at *
   simp only [List.replicate_succ,VD,ih,Bool.and_true]
   unfold countB; cases p k <;> rfl
theorem UE {α:Type} {ok:α→Is→Bool} (f:α→Is) (hf : ∀ a,ok a (f a)=true) : ∀ ws:List α,LU ok ws (ws.map f)=true
 | []=>rfl
 | a :: ws=>by simp only [lMc,LU,hf,UE f hf ws,Bool.and_true]
theorem ZY {m:Mo} (h:FX m=0):MV m (WE m)=true:=by
 rw [U2]
 refine ⟨h,UE _ (fun p => ?_) _,UE _ (fun c => ?_) _,rfl,rfl⟩
 ·unfold okP; simp [zIs,RI]; simp [zeros]
 ·unfold okC; simp [zIs,RI]; simp [zeros]
structure Dat where
 pts:List (List Int)
 crs:List (List Int)
 sam:Int
 ill:Int
def AAK (v:Cvr):Dat:=⟨v.pts.map (·.l),v.crs.map (·.l),v.sam,v.ill⟩
theorem AST {p:Pt} {x:Is} (h:okP p x=true):x.l.length=p.bins.length:=by
 unfold okP at h; simp only [Bool.and_eq_true,beq_iff_eq] at h; exact h.1
theorem ASV {m:Mo} {c:Cr} {x:Is} (h:okC m c x=true):x.l.length=H8 (szs m c.pts):=by
 unfold okC at h; simp only [Bool.and_eq_true,beq_iff_eq] at h; exact h.1
theorem UF {α:Type} {ok:α→Is→Bool} (hok : ∀ a x y,x.l=y.l→ok a x=ok a y) : ∀ (ws:List α) (xs ys:List Is),xs.map (·.l)=ys.map (·.l)→LU ok ws xs=LU ok ws ys
 | [],[],[],_=>rfl
 | a :: ws,x :: xs,y :: ys,h=>by
   simp only [lMc,List.cons.injEq] at h
   simp only [LU,hok a x y h.1,UF hok ws xs ys h.2]
 | [],x :: xs,y :: ys,h=>rfl
 | a :: ws,[],[],h=>rfl
 | _,[],_ :: _,h=>by simp at h
 | _,_ :: _,[],h=>by simp at h
end Go.Proofs.YtocilianjfhifaaGreatDoor.Cov
set_option linter.unusedSimpArgs false
set_option maxRecDepth 8000
namespace Go.Proofs.YtocilianjfhifaaGreatDoor.Cov
open Sm Bins Go.RowKit
theorem mkI (h:Hp) (n:Nat) (hn:n≤1048576):IP Tryz.prog true h 57 (.int .i64 (n:Int)) (.int .i64 (n:Int))=some (.own h.length 0 n,h ++ [.live 1 ((zeros n).map encI)]):=by
 rw [AX3 h n hn,AMG]
 simp [zeros]
theorem PQ (h:Hp) (x y:ABlk):(h ++ [x]).set h.length y=h ++ [y]:=by simp
theorem AQ2 (h:Hp) (m:SM) (xs:List (List AV)):FD Tryz.prog false h 26 1 [(0,.sl m 1 xs)]=some (.sl .full 1 [[.sl m 1 xs]],h):=by kernel_rfl
theorem AYD:Frz encL:=fun _ _ _ _=>⟨rfl,rfl⟩
def UG:List Is→List Is→Bool
 | [],[]=>true
 | a :: ws,b :: bs=>eqL a.l b.l && UG ws bs
 | _,_=>false
theorem ACF : ∀ {a b:List Is},UG a b=true↔a.map (·.l)=b.map (·.l)
 | [],[]=>by simp [UG]
 | x :: a,y :: b=>by
   have ih:=ACF (a:=a) (b:=b)
   simp only [UG,Bool.and_eq_true,ih,lMc,List.cons.injEq,eqL,decide_eq_true_eq]
 | [],_ :: _=>by simp [UG]
 | _ :: _,[]=>by simp [UG]
theorem AQA {a b:List Is} (h:UG a b=true):a.length=b.length:=by
 have:=congrArg List.length (ACF.1 h)
 simpa using this
theorem ANO (a b:List Is) (k:Nat) (ha:k < a.length) (hb:k < b.length):UG (a.drop k) (b.drop k)=(eqL a[k].l b[k].l && UG (a.drop (k+1)) (b.drop (k+1))):=by
 rw [List.drop_eq_getElem_cons ha,List.drop_eq_getElem_cons hb]; rfl
theorem ZR (G:Nat→AV) (a b:List Is) (s t:SM) (h:Hp) (hl:a.length≤1048576) (hb : ∀ x∈b,x.l.length≤1048576):PCall (En G) 86 [.sl s 1 (a.map encL),.sl t 1 (b.map encL)] h (.bool (UG a b)):=by
 refine CB (H:=Hint.none) (enM G) Tryz.func86 rfl (by kernel_rfl) (by kernel_rfl) (nLb (by kernel_rfl)) ?_
 show awp _ _ _ _ _ (EG _ [.tmp 4] _)
 simp -implicitDefEqProofs only [BC,BA,BI,A8,AY,BB,AO,AQ,AL,BD,AX,AC,AA,A7,AU,BM,BG,AZ,BR,D7,AB,EN,BF,BN,↓reduceIte,Nat.reduceEqDiff,oGs,bNf,enP,XM,lLm]
 refine CV (fun h1 => ?_) (fun h1 => ?_)
 ·simp -implicitDefEqProofs only [BC,BA,BK,A8,CP,CJ,AY,BB,AO,AQ,AL,BD,AX,AC,AA,AU,BM,AZ,↓reduceIte,oGs,bNf]
  have:UG a b=false:=by
   rw [← Bool.not_eq_true]; intro e
   have:=AQA e
   simp [this] at h1
  exact ⟨by rw [this],trivial⟩
 have hab:a.length=b.length:=by simp at h1; omega
 simp -implicitDefEqProofs only [BC,BP,BA,BO,A8,AY,BB,AO,AQ,AL,BD,AX,AC,AU,BH,AZ,oGs,bNf]
 refine DR (fun n F H => ∃ i,n+i=a.length∧F 0 = .sl s 1 (a.map encL)∧F 1 = .sl t 1 (b.map encL)∧F 5 = .int .i64 (i:Nat)∧H=h∧UG a b=UG (a.drop i) (b.drop i)) a.length ⟨0,by simp,by simp -implicitDefEqProofs only [AA,BF,↓reduceIte,Nat.reduceEqDiff],by simp -implicitDefEqProofs only [AA,BF,BN,↓reduceIte,Nat.reduceEqDiff],by simp -implicitDefEqProofs only [AA,↓reduceIte]; rfl,rfl,rfl⟩ ?_
 rintro n F H ⟨i,hi,f0,f1,f5,rfl,hf⟩
 simp -implicitDefEqProofs only [BC,BA,BI,A8,AY,BB,AO,AQ,AL,BD,AX,AC,AA,A7,BG,BR,D7,AB,DC,↓reduceIte,Nat.reduceEqDiff,oGs,bNf,enP,XM,f0,f5,lLm]
 refine CV (fun hc => ?_) (fun hc => ?_)
 ·have ha:i < a.length:=by simpa using hc
  have hbi:i < b.length:=by omega
  have hbl:=hb _ (List.getElem_mem hbi)
  rw [ANO a b i ha hbi] at hf
  simp -implicitDefEqProofs only [BC,BP,BO,A8]
  refine FC (by kernel_rfl) ?_
  simp -implicitDefEqProofs only [F9,EE,DX,EI,FO,FP,AC9,EC,GR,GH,AO,AA,A7,BX,BV,H9,CG,AB,lMc,lMn,lAn,↓reduceIte,Nat.reduceEqDiff,Nat.reduceAdd,oGs,enP,PH,f0,f1,f5,DZ ha,DV MS ha,QX,DZ hbi,DV MS hbi]
  refine ⟨_,ABK G a[i].l b[i].l _ _ _ (by omega),?_⟩
  try simp -implicitDefEqProofs only [DX,FB,BI,A8,AA,A7,AB,EZ,↓reduceIte]
  cases he:eqL a[i].l b[i].l
  ·simp -implicitDefEqProofs only [BC,BA,BK,A8,CP,D8,E8,CJ,C9,AY,BB,AO,AQ,AL,BD,AX,AC,AA,AU,BM,AZ,↓reduceIte,oGs,bNf]
   exact ⟨by rw [hf,he]; rfl,trivial⟩
  ·simp -implicitDefEqProofs only [BA,BO,A8,EF,ER,DN,AY,BB,AO,AQ,AL,BD,AX,AC,AA,A7,AU,BH,BG,AZ,BR,AB,DF,↓reduceIte,Nat.reduceEqDiff,oGs,bNt,bNf,enP,f5,wrap_succ (show i < 9223372036854775807 by omega)]
   exact ⟨n - 1,by omega,i+1,by omega,f0,f1,rfl,trivial,by rw [hf,he]; rfl⟩
 ·have ha : ¬ i < a.length:=by simpa using hc
  simp -implicitDefEqProofs only [BC,BA,BK,DJ,A8,ED,EX,EU,CJ,AY,BB,AO,AQ,AL,BD,AX,AC,AA,AU,BM,AZ,↓reduceIte,oGs,bNf]
  exact ⟨by rw [hf,List.drop_eq_nil_of_le (by omega),List.drop_eq_nil_of_le (by omega)]; rfl,trivial⟩
def eqV (a b:Cvr):Bool:=UG a.pts b.pts && UG a.crs b.crs && (a.sam == b.sam) && (a.ill == b.ill)
theorem ATT {a b:Cvr}:eqV a b=true↔AAK a=AAK b:=by
 unfold eqV AAK
 simp only [Bool.and_eq_true,ACF,beq_iff_eq,Dat.mk.injEq]
 exact ⟨fun ⟨⟨⟨h1,h2⟩,h3⟩,h4⟩=>⟨h1,h2,h3,h4⟩,fun ⟨h1,h2,h3,h4⟩=>⟨⟨⟨h1,h2⟩,h3⟩,h4⟩⟩
structure VV (h H:Hp) (a b:Cvr) (bb:Nat):Prop where
 ga:H[h.length]? = some (.live 4 [F7 a])
 gb:H[bb]? = some (.live 4 [F7 b])
 hx : ∃ x,H=h ++ x
theorem VV.mk' (h:Hp) (a b:Cvr):VV h (h ++ [.live 4 [F7 a]] ++ [.live 4 [F7 b]]) a b (h ++ [ABlk.live 4 [F7 a]]).length:=⟨CW (CY _ _),CY _ _,⟨_,List.append_assoc _ _ _⟩⟩
section
variable {H:Hp} {v:Cvr} {vb:Nat} (gv:H[vb]? = some (.live 4 [F7 v]))
include gv
theorem lv0:D6 Tryz.prog H 26 (.ptr vb 0 0)=some (.sl v.pm 1 (v.pts.map encL)):=by rw [DU QP gv (row:=F7 v) rfl,AQF]
theorem lv1:D6 Tryz.prog H 26 (.ptr vb 0 1)=some (.sl v.cm 1 (v.crs.map encL)):=by rw [DU QP gv (row:=F7 v) rfl,AQE]
theorem lv2:D6 Tryz.prog H 3 (.ptr vb 0 2)=some (.int .i64 v.sam):=by rw [DU ag3 gv (row:=F7 v) rfl,AQD]
theorem lv3:D6 Tryz.prog H 3 (.ptr vb 0 3)=some (.int .i64 v.ill):=by rw [DU ag3 gv (row:=F7 v) rfl,AQC]
end
theorem AVU (G:Nat→AV) (a b:Cvr) (h:Hp) (ha:CvOk a) (hb:CvOk b):PCall (En G) 36 [.agg (F7 a),.agg (F7 b)] h (.bool (eqV a b)):=by
 refine ACalls.pure0 rfl ?_
 refine CB (H:=Hint.none) (enM G) Tryz.func36 rfl (by kernel_rfl) (by kernel_rfl) (nLb (by kernel_rfl)) ?_
 show awp _ _ _ _ _ (EG _ [.tmp 4] _)
 have t:=VV.mk' h a b
 simp -implicitDefEqProofs only [BC,BA,A8,AY,BB,AO,AQ,AL,BD,AX,AC,AA,A7,AU,BM,AZ,FY,BV,BL,CE,AB,BF,BN,↓reduceIte,Nat.reduceEqDiff,Nat.add_zero,oGs,bNf,enP,MX,bxV]
 generalize h ++ [ABlk.live 4 [F7 a]] ++ [ABlk.live 4 [F7 b]]=H at t ⊢
 generalize (h ++ [ABlk.live 4 [F7 a]]).length=bb at t ⊢
 simp -implicitDefEqProofs only [AY,AO,AQ,AL,BD,AX,AC,AA,A7,BX,BV,BL,BZ,BU,AB,lMc,lMn,lAn,↓reduceIte,Nat.reduceEqDiff,Nat.add_zero,oGs,bNf,enP,MX,lv0 t.ga,lv0 t.gb]
 refine (ZR G _ _ _ _ _ ha.pts hb.eachP).use ?_
 simp -implicitDefEqProofs only [AY,BJ,BQ,CO,AO,AQ,AL,BD,AX,AC,AA,A7,BG,↓reduceIte,oGs,bNf]
 cases h1:UG a.pts b.pts
 ·simp -implicitDefEqProofs only [BK,A8,CJ,AY,BB,BJ,BQ,CO,IK,AO,AQ,AL,BD,AX,AC,AA,EQ,A7,AU,BM,BG,AZ,CU,DL,↓reduceIte,Nat.reduceEqDiff,oGs,bNf]
  exact ⟨by unfold eqV; rw [h1]; rfl,t.hx⟩
 simp -implicitDefEqProofs only [BJ,BQ,CO,GG,AO,AQ,AL,BD,AX,AC,AA,A7,BX,BV,BL,BZ,BU,AB,lMc,lMn,lAn,↓reduceIte,Nat.reduceEqDiff,Nat.zero_add,oGs,bNf,enP,MW,lv1 t.ga,lv1 t.gb]
 refine (ZR G _ _ _ _ _ ha.crs hb.eachC).use ?_
 simp -implicitDefEqProofs only [AY,BJ,BQ,CO,AO,AQ,AL,BD,AX,AC,AA,A7,AU,BM,BG,CU,DT,↓reduceIte,Nat.reduceEqDiff,oGs,bNf]
 cases h2:UG a.crs b.crs
 ·simp -implicitDefEqProofs only [BK,A8,CJ,AY,BB,BJ,BQ,CO,IK,AO,AQ,AL,BD,AX,AC,AA,EQ,A7,AU,BM,BG,AZ,CU,DL,↓reduceIte,Nat.reduceEqDiff,oGs,bNf]
  exact ⟨by unfold eqV; rw [h1,h2]; rfl,t.hx⟩
 simp -implicitDefEqProofs only [AY,BJ,BQ,CO,GG,AO,AQ,AL,BD,AX,AC,AA,A7,AU,BM,BG,CU,DT,BV,BR,BL,AB,DY,↓reduceIte,Nat.reduceEqDiff,Nat.zero_add,oGs,bNf,enP,Y5,lv2 t.ga,lv2 t.gb]
 cases h3:(a.sam == b.sam)
 ·simp -implicitDefEqProofs only [BK,A8,CJ,AY,BB,BJ,BQ,CO,IK,AO,AQ,AL,BD,AX,AC,AA,EQ,A7,AU,BM,AZ,CU,DL,↓reduceIte,Nat.reduceEqDiff,oGs,bNf]
  exact ⟨by unfold eqV; rw [h1,h2,h3]; rfl,t.hx⟩
 simp -implicitDefEqProofs only [BK,A8,CJ,AY,BB,BJ,BQ,CO,GG,AO,AQ,AL,BD,AX,AC,AA,A7,AU,BM,AZ,CU,DT,BV,BR,BL,AB,DY,↓reduceIte,Nat.reduceEqDiff,Nat.zero_add,oGs,bNf,enP,Y4,lv3 t.ga,lv3 t.gb]
 exact ⟨by unfold eqV; rw [h1,h2,h3]; rfl,t.hx⟩
theorem AJ9 {P:Program} {a t:Nat} {R:AV→Hp→Prop} {F:Fr} {h:Hp} {x:AV} {b:Nat} (hF:F a = .ptr b 0 0) (h1:D6 P h t (.ptr b 0 0)=some x):EG P [.cell a t] R .ret F h=R x h:=by simp [EG,ZE,Q4,hF,h1]
theorem AWI {P:Program} {a t b u:Nat} {R:AV→Hp→Prop} {F:Fr} {h:Hp} {x y:AV} {ba bb:Nat} (hF:F a = .ptr ba 0 0) (hG:F b = .ptr bb 0 0) (h1:D6 P h t (.ptr ba 0 0)=some x) (h2:D6 P h u (.ptr bb 0 0)=some y):EG P [.cell a t,.cell b u] R .ret F h=R (.tup [x,y]) h:=by simp [EG,ZE,PO,Q4,hF,hG,h1,h2]
theorem U5 {P:Program} {a t b u c:Nat} {R:AV→Hp→Prop} {F:Fr} {h:Hp} {x y:AV} {ba bb:Nat} (hF:F a = .ptr ba 0 0) (hG:F b = .ptr bb 0 0) (h1:D6 P h t (.ptr ba 0 0)=some x) (h2:D6 P h u (.ptr bb 0 0)=some y):EG P [.cell a t,.cell b u,.tmp c] R .ret F h=R (.tup [x,y,F c]) h:=by simp [EG,ZE,PO,Q4,hF,hG,h1,h2]
theorem U6 {P:Program} {a t c:Nat} {R:AV→Hp→Prop} {F:Fr} {h:Hp} {x:AV} {ba:Nat} (hF:F a = .ptr ba 0 0) (h1:D6 P h t (.ptr ba 0 0)=some x):EG P [.cell a t,.tmp c] R .ret F h=R (.tup [x,F c]) h:=by simp [EG,ZE,PO,Q4,hF,h1]
def fzG {α:Type} (k:Nat) (f:α→List AV) (ys:List α):AV:=match ys with
 | [] => .sl .nil 0 []
 | _ => .sl .any k (ys.map f)
theorem XT {α:Type} {k:Nat} {f:α→List AV} {h H:Hp} {ys:List α} {v:AV} (hf:Frz f) (ho:outG k f h ys v H) (n d:Nat) (hn:n≤h.length):IQ n H (d+2) v=fzG k f ys:=by
 rcases ho with ⟨rfl,rfl⟩ | ⟨hne,o,h2,rfl,h3⟩
 ·rfl
 ·rw [AAV hf (Nat.le_trans hn h2) h3]
  cases ys with
  | nil=>exact absurd rfl hne
  | cons _ _=>rfl
theorem WB {α:Type} {k:Nat} {f:α→List AV} {ys:List α}:CvR (fzG k f ys) (.sl (nm ys) k (ys.map f)):=by
 cases ys with
 | nil=>exact CvR.sl (Cv.nil 0 k)
 | cons y ys=>exact CvR.refl _
theorem outG.app2 {P:Program} {t e:TypeId} {α:Type} {k bs:Nat} {f:α→List AV} {h H:Hp} {ys:List α} {v:AV} (ho:outG k f h ys v H) (hu:P.underlying t=some (.slice e)) (hs:szO P e=some k) (hz:VC P e=some k) (hb:NG P e=some bs) (hbs:bs≤4194304) (hl:ys.length < 8388608) (he:h.length≤H.length) (y:α) :
  ∃ v' H',GV P true H t t v (.sl .full k [f y])=some (v',H')∧outG k f h (ys ++ [y]) v' H'∧(∀ b x,H[b]? = some x→¬ isB v b→H'[b]? = some x)∧H'.length=H.length+1∧(∀ b,isB v' b→b=H.length)∧(∃ o l,v' = .own o 0 l)∧∀ e:Hp,e.length≤h.length→ext e H→ext e H':=by
 have h1:([f y]:List (List AV))≠[]:=by simp
 rcases ho with ⟨rfl,rfl⟩ | ⟨hne,o,h2,rfl,h3⟩
 ·exact ⟨_,_,TB hu hs hz hb (KD H .full k [f y]) h1 (JC (by simp) hbs),.inr ⟨by simp,H.length,he,rfl,by simp⟩,fun b x hb _=>FU hb,by simp,fun b hb=>hb.symm,⟨_,_,rfl⟩,fun e _ hx=>hx.app _⟩
 ·have hc:KE H (.own o 0 ys.length)=some (k,ys.map f):=by
   rw [P6 h3 (by simp),List.drop_zero,List.take_of_length_le (by simp)]
  refine ⟨_,_,VA hu hs hz hb hc (KD H .full k [f y]) h1 (JC (by simp; omega) hbs),.inr ⟨by simp,H.length,he,by simp,by simp⟩,fun b x hb hn => ?_,by simp,fun b hb=>hb.symm,⟨_,_,rfl⟩,fun e hl hx=>(hx.set (Nat.le_trans hl h2) _).app _⟩
  have hn' : ¬ o=b:=hn
  refine FU ?_
  rw [List.getElem?_set,if_neg hn']; exact hb
theorem NM {P:Program} {H:Hp} {t b k j:Nat} {row cs:List AV} {v:AV} (hc:JA v=some cs) (hs:szO P t=some cs.length) (hb:H[b]? = some (.live k [row])) (hl:j+cs.length≤row.length):FK P H t (.ptr b 0 j) v=some (H.set b (.live k [splice row j cs])):=by
 rw [KN (i:=0) hc hs hb rfl hl]; rfl
theorem mkF (h:Hp) (n:Nat) (hn:n≤1048576):IP Tryz.prog false h 57 (.int .i64 (n:Int)) (.int .i64 (n:Int))=some (.sl .full 1 ((zeros n).map encI),h):=by
 have hz:ML Tryz.prog 3=some [.int .i64 0]:=by kernel_rfl
 have hr:room n 8:=JC (by omega) (by omega)
 unfold IP
 simp only [TJ,sz3,VG,hz,Int.toNat_natCast]
 rw [if_pos ⟨by omega,Int.le_refl _,hr,rfl⟩]
 simp [zeros,encI]
structure Tk where
 m:SM
 last:List Is
def KU (t:Tk):List AV := [.sl t.m 1 (t.last.map encL)]
theorem AIH (t:Tk):(KU t).length=1:=rfl
def zT:Tk:=⟨.nil,[]⟩
def zV:Cvr:=⟨.nil,[],.nil,[],0,0⟩
def zLs (m:Mo):List Is:=m.pts.map fun _=>⟨.nil,[]⟩
def F6:List AV := [.sl .nil 0 []]
theorem AS1:CvRow F6 (encL ⟨.nil,[]⟩):=CvRow.cons rfl (Cv.nil 0 1) CvRow.nil
theorem AS0 {α:Type} {s:SM} (xs:List α):Cv (.sl s 1 (xs.map fun _=>F6)) (.sl s 1 ((xs.map fun _=>(⟨.nil,[]⟩:Is)).map encL)):=by
 rw [List.map_map]
 exact Cv.map fun _ _=>AS1
theorem AOG:CvR (.agg [.sl .nil 0 [],.sl .nil 0 [],.int .i64 0,.int .i64 0]) (.agg (F7 zV)):=CvR.agg (CvRL.cons (CvR.sl (Cv.nil 0 1)) (CvRL.cons (CvR.sl (Cv.nil 0 1)) (CvRL.cons (CvR.refl _) (CvRL.cons (CvR.refl _) CvRL.nil))))
theorem AW4:CvR (.agg [.sl .nil 0 []]) (.agg (KU zT)):=CvR.agg (CvRL.cons (CvR.sl (Cv.nil 0 1)) CvRL.nil)
def FW:List AV := [.sl .nil 0 [],.sl .nil 0 [],.int .i64 0,.int .i64 0]
theorem OE (h:Hp):J7 Tryz.prog h 28=some (.ptr h.length 0 0,h ++ [.live 4 [FW]]):=JV (row:=FW) (by kernel_rfl)
theorem AAM (h:Hp):J7 Tryz.prog h 47=some (.ptr h.length 0 0,h ++ [.live 1 [F6]]):=JV (row:=F6) (by kernel_rfl)
theorem TF:KL Tryz.prog 28 []=some (.agg FW):=by kernel_rfl
theorem ACU:KL Tryz.prog 47 []=some (.agg F6):=by kernel_rfl
theorem stV {H:Hp} {b:Nat} {row:List AV} {v:Cvr} (hb:H[b]? = some (.live 4 [row])) (hr:row.length=4):FK Tryz.prog H 28 (.ptr b 0 0) (.agg (F7 v))=some (H.set b (.live 4 [F7 v])):=by
 rw [NM (cs:=F7 v) rfl AMW hb (by rw [hr]; exact Nat.le_refl 4)]
 have:splice row 0 (F7 v)=F7 v:=by unfold splice; simp [AIG,hr]
 rw [this]
theorem stZ {H:Hp} {b:Nat} {row:List AV} (hb:H[b]? = some (.live 4 [row])) (hr:row.length=4):FK Tryz.prog H 28 (.ptr b 0 0) (.agg FW)=some (H.set b (.live 4 [FW])):=by
 rw [NM (cs:=FW) rfl AMW hb (by rw [hr]; exact Nat.le_refl 4)]
 have:splice row 0 FW=FW:=by unfold splice; simp [FW,hr]
 rw [this]
theorem stT {H:Hp} {b:Nat} {row:List AV} {t:Tk} (hb:H[b]? = some (.live 1 [row])) (hr:row.length=1):FK Tryz.prog H 47 (.ptr b 0 0) (.agg (KU t))=some (H.set b (.live 1 [KU t])):=by
 rw [NM (cs:=KU t) rfl AOU hb (by rw [hr]; exact Nat.le_refl 1)]
 have:splice row 0 (KU t)=KU t:=by unfold splice; rw [AIH,List.take_zero,List.drop_eq_nil_of_le (by omega)]; simp
 rw [this]
theorem ABF {H:Hp} {b:Nat} {row:List AV} (hb:H[b]? = some (.live 1 [row])) (hr:row.length=1):FK Tryz.prog H 47 (.ptr b 0 0) (.agg F6)=some (H.set b (.live 1 [F6])):=by
 rw [NM (cs:=F6) rfl AOU hb (by rw [hr]; exact Nat.le_refl 1)]
 have:splice row 0 F6=F6:=by unfold splice; rw [List.take_zero,List.drop_eq_nil_of_le (by rw [hr]; exact Nat.le_refl 1)]; simp
 rw [this]
theorem ldT {h:Hp} {b:Nat} {t:Tk} (hb:h[b]? = some (.live 1 [KU t])):D6 Tryz.prog h 47 (.ptr b 0 0)=some (.agg (KU t)):=by
 rw [JI AZO AOU hb rfl (by rw [AIH]; exact Nat.le_refl 1)]; rfl
theorem J5 {h:Hp} {b:Nat} {row:List AV} (hb:h[b]? = some (.live 4 [row])) (hr:row.length=4):D6 Tryz.prog h 28 (.ptr b 0 0)=some (.agg row):=by
 rw [JI AZP AMW hb rfl (by rw [hr]; exact Nat.le_refl 4),List.drop_zero,List.take_of_length_le (by omega)]
theorem O0 {h:Hp} {b:Nat} {row:List AV} (hb:h[b]? = some (.live 1 [row])) (hr:row.length=1):D6 Tryz.prog h 47 (.ptr b 0 0)=some (.agg row):=by
 rw [JI AZO AOU hb rfl (by rw [hr]; exact Nat.le_refl 1),List.drop_zero,List.take_of_length_le (by omega)]
theorem AM8 {ns:List Nat} (h : ∀ n∈ns,1≤n):1≤H8 ns:=ABQ ns 0 h
theorem AFV {α:Type} {ok:α→Is→Bool} : ∀ {ws:List α} {xs:List Is},LU ok ws xs=true→∀ x∈xs,∃ a∈ws,ok a x=true
 | [],[],_,x,hx=>by cases hx
 | a :: ws,y :: xs,h,x,hx=>by
   simp only [LU,Bool.and_eq_true] at h
   rcases List.mem_cons.1 hx with rfl | hx
   ·exact ⟨a,by simp,h.1⟩
   ·obtain ⟨b,hb,hk⟩:=AFV h.2 x hx
    exact ⟨b,by simp [hb],hk⟩
 | [],_ :: _,h,_,_=>by cases h
 | _ :: _,[],h,_,_=>by cases h
theorem ASJ {m:Mo} {v:Cvr} (h:MV m v=true):v.pts.length=m.pts.length∧v.crs.length=m.crs.length∧(∀ x∈v.pts,1≤x.l.length∧x.l.length≤64)∧(∀ x∈v.crs,1≤x.l.length∧x.l.length≤256):=by
 have hg:=PV (AB9 h)
 rw [U2] at h
 obtain ⟨_,h2,h3,_,_⟩:=h
 refine ⟨(QG h2).symm,(QG h3).symm,fun x hx => ?_,fun x hx => ?_⟩
 ·obtain ⟨p,hp,hk⟩:=AFV h2 x hx
  have:=hg.full p hp
  rw [AST hk]; exact this
 ·obtain ⟨c,hc,hk⟩:=AFV h3 x hx
  have hcg:=hg.crs c hc
  have hs:=hg.full.szs hcg.here
  rw [ASV hk]
  exact ⟨AM8 fun n hn=>(hs n hn).1,hcg.prod⟩
theorem Y8 {m:Mo} {v:Cvr} (h:MV m v=true):CvOk v:=by
 have hn:=(PV (AB9 h)).num
 obtain ⟨h1,h2,h3,h4⟩:=ASJ h
 exact ⟨by omega,by omega,fun x hx=>by have:=h3 x hx; omega,fun x hx=>by have:=h4 x hx; omega⟩
theorem outG.setB {α:Type} {k:Nat} {f:α→List AV} {h H:Hp} {ys:List α} {v:AV} {b:Nat} (ho:outG k f h ys v H) (hb:b < h.length) (y:ABlk):outG k f h ys v (H.set b y) :=
 ho.keep fun b' hb'=>by
  have:=ho.lt hb'
  rw [List.getElem?_set_ne (by omega)]
theorem outG.keepA {α:Type} {k:Nat} {f:α→List AV} {h H H':Hp} {ys:List α} {v u:AV} (ho:outG k f h ys v H) (hk : ∀ b x,H[b]? = some x→¬ isB u b→H'[b]? = some x) (hd : ∀ b,isB v b→¬ isB u b):outG k f h ys v H':=by
 rcases ho with h1 | ⟨h1,o,h2,rfl,h3⟩
 ·exact .inl h1
 ·exact .inr ⟨h1,o,h2,rfl,hk _ _ h3 (hd o rfl)⟩
theorem outG.leaf {α:Type} {k:Nat} {f:α→List AV} {h H:Hp} {ys:List α} {v:AV} (ho:outG k f h ys v H):v.leaf=true:=by
 rcases ho with ⟨_,rfl⟩ | ⟨_,o,_,rfl,_⟩ <;> rfl
theorem outG.base {α:Type} {k:Nat} {f:α→List AV} {h h' H:Hp} {ys:List α} {v:AV} (ho:outG k f h ys v H) (hl:h'.length≤h.length):outG k f h' ys v H:=by
 rcases ho with h1 | ⟨h1,o,h2,rfl,h3⟩
 ·exact .inl h1
 ·exact .inr ⟨h1,o,Nat.le_trans hl h2,rfl,h3⟩
def IE (v1 v2:AV):List AV := [v1,v2,.int .i64 0,.int .i64 0]
structure Em (h H:Hp) (m:Mo) (b2 b3 b4 b5:Nat) (v1 v2 v3:AV):Prop where
 gm:H[h.length]? = some (.live 2 [EP m])
 g2:H[b2]? = some (.live 4 [FW])
 g3:H[b3]? = some (.live 1 [F6])
 g4:H[b4]? = some (.live 4 [IE v1 v2])
 g5:H[b5]? = some (.live 1 [[v3]])
 o2:h.length < b2
 o3:b2 < b3
 o4:b3 < b4
 o5:b4 < b5
 hx:ext h H
section
variable {h H:Hp} {m:Mo} {b2 b3 b4 b5:Nat} {v1 v2 v3:AV} (E:Em h H m b2 b3 b4 b5 v1 v2 v3)
include E
theorem Em.m0:D6 Tryz.prog H 22 (.ptr h.length 0 0)=some (.sl m.pm 6 (m.pts.map F8)):=by rw [DU WI E.gm (row:=EP m) rfl,QH]
theorem Em.m1:D6 Tryz.prog H 23 (.ptr h.length 0 1)=some (.sl m.cm 3 (m.crs.map GL)):=by rw [DU AGM E.gm (row:=EP m) rfl,XX]
theorem Em.l4:D6 Tryz.prog H 26 (.ptr b4 0 0)=some v1:=by rw [DU QP E.g4 (row:=IE v1 v2) rfl]; rfl
theorem Em.l4':D6 Tryz.prog H 26 (.ptr b4 0 1)=some v2:=by rw [DU QP E.g4 (row:=IE v1 v2) rfl]; rfl
theorem Em.l5:D6 Tryz.prog H 26 (.ptr b5 0 0)=some v3:=by rw [DU QP E.g5 (row := [v3]) rfl]; rfl
theorem Em.app (x:Hp):Em h (H ++ x) m b2 b3 b4 b5 v1 v2 v3:=⟨FU E.gm,FU E.g2,FU E.g3,FU E.g4,FU E.g5,E.o2,E.o3,E.o4,E.o5,E.hx.app _⟩
theorem Em.keep {H':Hp} {u:AV} (hk : ∀ b x,H[b]? = some x→¬ isB u b→H'[b]? = some x) (hu : ∀ b,isB u b→b5 < b) (hx:ext h H→ext h H'):Em h H' m b2 b3 b4 b5 v1 v2 v3:=by
 have o2:=E.o2; have o3:=E.o3; have o4:=E.o4; have o5:=E.o5
 exact ⟨hk _ _ E.gm (fun e=>by have:=hu _ e; omega),hk _ _ E.g2 (fun e=>by have:=hu _ e; omega),hk _ _ E.g3 (fun e=>by have:=hu _ e; omega),hk _ _ E.g4 (fun e=>by have:=hu _ e; omega),hk _ _ E.g5 (fun e=>by have:=hu _ e; omega),o2,o3,o4,o5,hx E.hx⟩
theorem Em.set4 (w1 w2:AV):Em h (H.set b4 (.live 4 [IE w1 w2])) m b2 b3 b4 b5 w1 w2 v3:=by
 have o2:=E.o2; have o3:=E.o3; have o4:=E.o4; have o5:=E.o5
 exact ⟨CX E.gm (by omega),CX E.g2 (by omega),CX E.g3 (by omega),EJ E.g4,CX E.g5 (by omega),o2,o3,o4,o5,E.hx.set (by omega) _⟩
theorem Em.set5 (w3:AV):Em h (H.set b5 (.live 1 [[w3]])) m b2 b3 b4 b5 v1 v2 w3:=by
 have o2:=E.o2; have o3:=E.o3; have o4:=E.o4; have o5:=E.o5
 exact ⟨CX E.gm (by omega),CX E.g2 (by omega),CX E.g3 (by omega),CX E.g4 (by omega),EJ E.g5,o2,o3,o4,o5,E.hx.set (by omega) _⟩
theorem Em.s4 {o l:Nat}:FK Tryz.prog H 26 (.ptr b4 0 0) (.own o 0 l)=some (H.set b4 (.live 4 [IE (.own o 0 l) v2])):=NM (row:=IE v1 v2) (WJ _ _ _) AJD E.g4 (by simp [IE])
theorem Em.s4' {o l:Nat}:FK Tryz.prog H 26 (.ptr b4 0 1) (.own o 0 l)=some (H.set b4 (.live 4 [IE v1 (.own o 0 l)])):=NM (row:=IE v1 v2) (WJ _ _ _) AJD E.g4 (by simp [IE])
theorem Em.s5 {o l:Nat}:FK Tryz.prog H 26 (.ptr b5 0 0) (.own o 0 l)=some (H.set b5 (.live 1 [[.own o 0 l]])):=NM (row := [v3]) (WJ _ _ _) AJD E.g5 (by simp)
theorem Em.lt:b5 < H.length:=CQ E.g5
end
theorem Em.mk' (h:Hp) (m:Mo):Em h (h ++ [ABlk.live 2 [EP m]] ++ [ABlk.live 4 [FW]] ++ [ABlk.live 1 [F6]] ++ [ABlk.live 4 [FW]] ++ [ABlk.live 1 [F6]]) m (h ++ [ABlk.live 2 [EP m]]).length (h ++ [ABlk.live 2 [EP m]] ++ [ABlk.live 4 [FW]]).length
  (h ++ [ABlk.live 2 [EP m]] ++ [ABlk.live 4 [FW]] ++ [ABlk.live 1 [F6]]).length (h ++ [ABlk.live 2 [EP m]] ++ [ABlk.live 4 [FW]] ++ [ABlk.live 1 [F6]] ++ [ABlk.live 4 [FW]]).length (.sl .nil 0 []) (.sl .nil 0 []) (.sl .nil 0 []) :=
 ⟨CW (CW (CW (CW (CY _ _)))),CW (CW (CW (CY _ _))),CW (CW (CY _ _)),CW (CY _ _),CY _ _,by simp,by simp,by simp,by simp,((((ext.rfl' h).app _).app _).app _).app _ |>.app _⟩
theorem AYY (h:Hp):FD Tryz.prog false h 26 1 [(0,.sl .nil 0 [])]=some (.sl .full 1 [F6],h):=by kernel_rfl
theorem AOH (m:Mo) (i:Nat) (hi:i < m.pts.length):(zPs m).take (i+1)=(zPs m).take i ++ [zIs m.pts[i].bins.length]:=by
 have hl:i < (zPs m).length:=by unfold zPs; simpa using hi
 rw [List.take_succ_eq_append_getElem hl]; simp [zPs]
theorem AOI (m:Mo) (i:Nat) (hi:i < m.crs.length):(zCs m).take (i+1)=(zCs m).take i ++ [zIs (H8 (szs m m.crs[i].pts))]:=by
 have hl:i < (zCs m).length:=by unfold zCs; simpa using hi
 rw [List.take_succ_eq_append_getElem hl]; simp [zCs]
theorem AK4 (m:Mo):(zPs m).length=m.pts.length:=by simp [zPs]
theorem AK6 (m:Mo):(zCs m).length=m.crs.length:=by simp [zCs]
theorem ADV {H:Hp} {b:Nat} {row:List AV} {v1 v2:AV} (hb:H[b]? = some (.live 4 [row])) (hr:row.length=4) (h1:v1.leaf=true) (h2:v2.leaf=true):FK Tryz.prog H 28 (.ptr b 0 0) (.agg (IE v1 v2))=some (H.set b (.live 4 [IE v1 v2])):=by
 rw [NM (cs:=IE v1 v2) (UO (by simp [IE,h1,h2]; rfl)) AMW hb (by rw [hr]; exact Nat.le_refl 4)]
 have:splice row 0 (IE v1 v2)=IE v1 v2:=by unfold splice; rw [List.take_zero,List.drop_eq_nil_of_le (by rw [hr]; exact Nat.le_refl 4)]; simp
 rw [this]
theorem AG2 {H:Hp} {b:Nat} {row:List AV} {v3:AV} (hb:H[b]? = some (.live 1 [row])) (hr:row.length=1) (h3:v3.leaf=true):FK Tryz.prog H 47 (.ptr b 0 0) (.agg [v3])=some (H.set b (.live 1 [[v3]])):=by
 rw [NM (cs := [v3]) (UO (by simp [h3])) AOU hb (by rw [hr]; exact Nat.le_refl 1)]
 have:splice row 0 [v3] = [v3]:=by unfold splice; rw [List.take_zero,List.drop_eq_nil_of_le (by rw [hr]; exact Nat.le_refl 1)]; simp
 rw [this]
structure Er (h H:Hp) (m:Mo) (b2 b3:Nat) (v1 v2:AV):Prop where
 gm:H[h.length]? = some (.live 2 [EP m])
 g2:H[b2]? = some (.live 4 [FW])
 g3:H[b3]? = some (.live 4 [IE v1 v2])
 o2:h.length < b2
 o3:b2 < b3
 hx:ext h H
section
variable {h H:Hp} {m:Mo} {b2 b3:Nat} {v1 v2:AV} (E:Er h H m b2 b3 v1 v2)
include E
theorem Er.m0:D6 Tryz.prog H 22 (.ptr h.length 0 0)=some (.sl m.pm 6 (m.pts.map F8)):=by rw [DU WI E.gm (row:=EP m) rfl,QH]
theorem Er.m1:D6 Tryz.prog H 23 (.ptr h.length 0 1)=some (.sl m.cm 3 (m.crs.map GL)):=by rw [DU AGM E.gm (row:=EP m) rfl,XX]
theorem Er.l3:D6 Tryz.prog H 26 (.ptr b3 0 0)=some v1:=by rw [DU QP E.g3 (row:=IE v1 v2) rfl]; rfl
theorem Er.l3':D6 Tryz.prog H 26 (.ptr b3 0 1)=some v2:=by rw [DU QP E.g3 (row:=IE v1 v2) rfl]; rfl
theorem Er.keep {H':Hp} {u:AV} (hk : ∀ b x,H[b]? = some x→¬ isB u b→H'[b]? = some x) (hu : ∀ b,isB u b→b3 < b) (hx:ext h H→ext h H'):Er h H' m b2 b3 v1 v2:=by
 have o2:=E.o2; have o3:=E.o3
 exact ⟨hk _ _ E.gm (fun e=>by have:=hu _ e; omega),hk _ _ E.g2 (fun e=>by have:=hu _ e; omega),hk _ _ E.g3 (fun e=>by have:=hu _ e; omega),o2,o3,hx E.hx⟩
theorem Er.set3 (w1 w2:AV):Er h (H.set b3 (.live 4 [IE w1 w2])) m b2 b3 w1 w2:=by
 have o2:=E.o2; have o3:=E.o3
 exact ⟨CX E.gm (by omega),CX E.g2 (by omega),EJ E.g3,o2,o3,E.hx.set (by omega) _⟩
theorem Er.s3 {o l:Nat}:FK Tryz.prog H 26 (.ptr b3 0 0) (.own o 0 l)=some (H.set b3 (.live 4 [IE (.own o 0 l) v2])):=NM (row:=IE v1 v2) (WJ _ _ _) AJD E.g3 (by simp [IE])
theorem Er.s3' {o l:Nat}:FK Tryz.prog H 26 (.ptr b3 0 1) (.own o 0 l)=some (H.set b3 (.live 4 [IE v1 (.own o 0 l)])):=NM (row:=IE v1 v2) (WJ _ _ _) AJD E.g3 (by simp [IE])
theorem Er.lt:b3 < H.length:=CQ E.g3
end
theorem Er.mk' (h:Hp) (m:Mo):Er h (h ++ [ABlk.live 2 [EP m]] ++ [ABlk.live 4 [FW]] ++ [ABlk.live 4 [FW]]) m (h ++ [ABlk.live 2 [EP m]]).length (h ++ [ABlk.live 2 [EP m]] ++ [ABlk.live 4 [FW]]).length (.sl .nil 0 []) (.sl .nil 0 []) :=
 ⟨CW (CW (CY _ _)),CW (CY _ _),CY _ _,by simp,by simp,(((ext.rfl' h).app _).app _).app _⟩
theorem AO0 (h:Hp):FK Tryz.prog (h ++ [.live 4 [FW]]) 28 (.ptr h.length 0 0) (.agg FW)=some (h ++ [.live 4 [FW]]):=by rw [stZ (CY _ _) rfl,PQ]
theorem AVO (h:Hp):FK Tryz.prog (h ++ [.live 1 [F6]]) 47 (.ptr h.length 0 0) (.agg F6)=some (h ++ [.live 1 [F6]]):=by rw [ABF (CY _ _) rfl,PQ]
theorem AIK {E:Env} {f:FuncId} {args:List AV} {h:Hp} {m:Mo} (hc:ACalls E f args h fun v H=>ext h H∧∃ v1 v2,v = .agg (IE v1 v2)∧outG 1 encL h (zPs m) v1 H∧outG 1 encL h (zCs m) v2 H) :
  PCall E f args h (.agg (F7 (WE m))):=by
 have hp:PCall E f args h (.agg (IE (fzG 1 encL (zPs m)) (fzG 1 encL (zCs m)))):=by
  refine ACalls.pure 3 hc ?_
  rintro v H ⟨he,v1,v2,rfl,o1,o2⟩
  refine ⟨he,?_⟩
  have e1:=XT AYD o1 h.length 0 (Nat.le_refl _)
  have e2:=XT AYD o2 h.length 0 (Nat.le_refl _)
  show AV.agg [IQ h.length H 2 v1,IQ h.length H 2 v2,.int .i64 0,.int .i64 0]=_
  rw [e1,e2]; rfl
 exact hp.res (CvR.agg (CvRL.cons WB (CvRL.cons WB (CvRL.refl _))))
set_option maxHeartbeats 2000000 in
theorem ANP (G:Nat→AV) (m:Mo) (hm:MoOk m) (hg:Good m) (h:Hp):PCall (En G) 92 [.agg (EP m)] h (.agg (F7 (WE m))):=by
 refine AIK ?_
 have hm1:=hm.np
 have hm2:=hm.nc
 have hnum:=hg.num
 refine CB (H:=hint [25,45] []) (enM G) Tryz.func92 rfl (by kernel_rfl) (by kernel_rfl) (nLb (by kernel_rfl)) ?_
 show awp _ _ _ _ _ (EG _ [.cell 2 28] _)
 have E:=Er.mk' h m
 simp -implicitDefEqProofs only [FI,D5,List.contains_cons,List.contains_nil,Nat.reduceBEq,Bool.or_false,BC,BP,BA,A8,AY,BB,AL,BD,AX,AC,EW,AA,A7,AU,BH,AZ,F5,FY,I8,EM,CE,AB,DK,BF,↓reduceIte,Nat.reduceEqDiff,oGs,bNf,enP,D9,Option.getD_none,bxM,OE,TF,AO0]
 generalize h ++ [ABlk.live 2 [EP m]] ++ [ABlk.live 4 [FW]] ++ [ABlk.live 4 [FW]]=H0 at E ⊢
 generalize (h ++ [ABlk.live 2 [EP m]] ++ [ABlk.live 4 [FW]]).length=b3 at E ⊢
 generalize (h ++ [ABlk.live 2 [EP m]]).length=b2 at E ⊢
 have o2:=E.o2; have o3:=E.o3
 have hlt0:=E.lt
 refine G7 0 (fun F H => ∃ v1,F 1 = .ptr h.length 0 0∧F 2 = .ptr b2 0 0∧F 3 = .ptr b3 0 0∧Er h H m b2 b3 v1 (.sl .nil 0 [])∧outG 1 encL H0 (zPs m) v1 H∧H0.length≤H.length) (fun _ _=>False) ?_ ?_ (fun _ _ hh=>hh.elim)
 ·refine DR (fun n F H => ∃ i v1,n+i=m.pts.length∧F 1 = .ptr h.length 0 0∧F 2 = .ptr b2 0 0∧F 3 = .ptr b3 0 0∧F 4 = .int .i64 (i:Nat)∧Er h H m b2 b3 v1 (.sl .nil 0 [])∧outG 1 encL H0 ((zPs m).take i) v1 H∧H0.length≤H.length) m.pts.length
   ⟨0,_,by simp,by simp -implicitDefEqProofs only [AA,↓reduceIte,Nat.reduceEqDiff],by simp -implicitDefEqProofs only [AA,↓reduceIte,Nat.reduceEqDiff],by simp -implicitDefEqProofs only [AA,↓reduceIte,Nat.reduceEqDiff],by simp -implicitDefEqProofs only [AA,↓reduceIte]; rfl,E,by rw [List.take_zero]; exact outG.nil _ _ _ _,Nat.le_refl _⟩ ?_
  clear E
  rintro n F H ⟨i,v1,hi,f1,f2,f3,f4,E,ho1,hle⟩
  simp -implicitDefEqProofs only [D5,List.contains_cons,List.contains_nil,Nat.reduceBEq,Bool.or_false,BC,BA,BI,A8,AY,BB,AL,BD,AX,AC,AA,A7,BG,BV,BR,BL,D7,AB,DC,↓reduceIte,Nat.reduceEqDiff,Nat.add_zero,oGs,bNf,enP,QO,IU,D9,f1,f4,E.m0,lLm]
  refine CV (fun hc => ?_) (fun hc => ?_)
  ·have hi':i < m.pts.length:=by simpa using hc
   have h64:=(hg.full _ (List.getElem_mem hi')).2
   have hP:=AOH m i hi'
   have hH:=E.lt
   obtain ⟨v1',H2,hap,ho1',hk1,hl2,hn1,⟨o,l,rfl⟩,hx2⟩:=ho1.app2 AE6 YJ AJA AGC (by omega) (by rw [List.length_take,AK4]; omega) hle (zIs m.pts[i].bins.length)
   rw [← hP] at ho1'
   have E2:=E.keep hk1 (fun b hb=>by have:=ho1.lt hb; omega) (hx2 h (by omega))
   have E3:=E2.set3 (.own o 0 l) (.sl .nil 0 [])
   have ho1'':=ho1'.setB (b:=b3) (by omega) (.live 4 [IE (.own o 0 l) (.sl .nil 0 [])])
   simp -implicitDefEqProofs only [BC,BP,BO,A8]
   refine FC (by kernel_rfl) ?_
   simp -implicitDefEqProofs only [F9,FI,FZ,D5,List.contains_cons,List.contains_nil,Nat.reduceBEq,Bool.or_false,EE,DX,EI,FO,J3,FP,L8,EH,EC,JH,AA,A7,ES,BV,J8,BL,CG,D7,II,CE,AB,↓reduceIte,Nat.reduceEqDiff,Nat.reduceAdd,Nat.add_zero,Nat.zero_add,oGs,enP,PU,IU,MX,Q9,IW,f1,f3,f4,E.l3,E.m0,DZ hi',DV QK hi',MI,lLm,mkF _ _ (show m.pts[i].bins.length≤1048576 by omega),AQ2]
   refine JW (v := .own o 0 l) (h:=H2) hap ?_
   simp -implicitDefEqProofs only [F9,D5,List.contains_cons,List.contains_nil,Nat.reduceBEq,Bool.or_false,EE,DX,KP,FB,EI,KO,EH,BA,A8,EF,ER,AY,BB,AL,BD,AX,AC,AA,A7,AU,BH,BG,AZ,EM,BR,BL,AB,DK,DF,↓reduceIte,Nat.reduceEqDiff,Nat.reduceAdd,Nat.add_zero,Nat.zero_add,oGs,bNf,enP,MX,D9,Option.getD_none,f3,E2.s3,f4,wrap_succ (show i < 9223372036854775807 by omega)]
   exact ⟨n - 1,by omega,i+1,.own o 0 l,by omega,f1,f2,trivial,rfl,E3,ho1'',by rw [List.length_set]; omega⟩
  ·have hi' : ¬ i < m.pts.length:=by simpa using hc
   rw [List.take_of_length_le (by rw [AK4]; omega)] at ho1
   simp -implicitDefEqProofs only [DJ,ED,KI,EU,AA,↓reduceIte,Nat.reduceEqDiff]
   exact ⟨v1,f1,f2,f3,E,ho1,hle⟩
 ·rintro F H ⟨v1,f1,f2,f3,E,ho1,hle⟩
  simp -implicitDefEqProofs only [D5,List.contains_cons,List.contains_nil,Nat.reduceBEq,Bool.or_false,BC,BP,BA,A8,EX,AY,BB,AL,BD,AX,AC,AU,BH,AZ,↓reduceIte,oGs,bNf,D9]
  refine G7 2 (fun F H => ∃ v2,F 2 = .ptr b2 0 0∧F 3 = .ptr b3 0 0∧Er h H m b2 b3 v1 v2∧outG 1 encL H0 (zPs m) v1 H∧outG 1 encL H0 (zCs m) v2 H) (fun _ _=>False) ?_ ?_ (fun _ _ hh=>hh.elim)
  ·refine DR (fun n F H => ∃ i v2,n+i=m.crs.length∧F 1 = .ptr h.length 0 0∧F 2 = .ptr b2 0 0∧F 3 = .ptr b3 0 0∧F 5 = .int .i64 (i:Nat)∧Er h H m b2 b3 v1 v2∧outG 1 encL H0 (zPs m) v1 H∧outG 1 encL H0 ((zCs m).take i) v2 H∧(∀ b,isB v2 b→¬ isB v1 b)∧H0.length≤H.length) m.crs.length
    ⟨0,_,by simp,by simp -implicitDefEqProofs only [AA,↓reduceIte,Nat.reduceEqDiff,f1],by simp -implicitDefEqProofs only [AA,↓reduceIte,Nat.reduceEqDiff,f2],by simp -implicitDefEqProofs only [AA,↓reduceIte,Nat.reduceEqDiff,f3],by simp -implicitDefEqProofs only [AA,↓reduceIte]; rfl,E,ho1,by rw [List.take_zero]; exact outG.nil _ _ _ _,fun b hb=>hb.elim,hle⟩ ?_
   clear f1 f2 f3 E ho1 hle
   rintro n F H ⟨i,v2,hi,f1,f2,f3,f5,E,ho1,ho2,hd2,hle⟩
   simp -implicitDefEqProofs only [D5,List.contains_cons,List.contains_nil,Nat.reduceBEq,Bool.or_false,BC,BA,BI,A8,AY,BB,AL,BD,AX,AC,AA,A7,BG,BV,BR,BL,D7,AB,DC,↓reduceIte,Nat.reduceEqDiff,Nat.zero_add,oGs,bNf,enP,V8,J6,D9,f1,f5,E.m1,lLm]
   refine CV (fun hc => ?_) (fun hc => ?_)
   ·have hi':i < m.crs.length:=by simpa using hc
    have hcg:=hg.crs _ (List.getElem_mem hi')
    have hpr:=hcg.prod
    have hfour:=hcg.four
    have hmin:min ((H8 (szs m m.crs[i].pts):Nat):Int) 1000=((H8 (szs m m.crs[i].pts):Nat):Int):=by omega
    have hcall:=U7 G m m.crs[i] H hcg.here hg.full (by omega)
    rw [hmin] at hcall
    have hC:=AOI m i hi'
    have hH:=E.lt
    obtain ⟨v2',H2,hap,ho2',hk2,hl2,hn2,⟨o,l,rfl⟩,hx2⟩:=ho2.app2 AE6 YJ AJA AGC (by omega) (by rw [List.length_take,AK6]; omega) hle (zIs (H8 (szs m m.crs[i].pts)))
    rw [← hC] at ho2'
    have E2:=E.keep hk2 (fun b hb=>by have:=ho2.lt hb; omega) (hx2 h (by omega))
    have E3:=E2.set3 v1 (.own o 0 l)
    have ho1':=(ho1.keepA hk2 (fun b hb h2=>hd2 b h2 hb)).setB (b:=b3) (by omega) (.live 4 [IE v1 (.own o 0 l)])
    have ho2'':=ho2'.setB (b:=b3) (by omega) (.live 4 [IE v1 (.own o 0 l)])
    simp -implicitDefEqProofs only [BC,BP,BO,A8]
    refine FC (by kernel_rfl) ?_
    simp -implicitDefEqProofs only [F9,D5,List.contains_cons,List.contains_nil,Nat.reduceBEq,Bool.or_false,EE,DX,EI,FO,FP,L8,EH,EC,GR,GH,AA,A7,BX,BV,J8,BL,CG,AB,lMc,lMn,lAn,↓reduceIte,Nat.reduceEqDiff,Nat.reduceAdd,Nat.zero_add,oGs,enP,YV,J6,MW,f1,f3,f5,E.l3',E.m1,ldM E.gm,DZ hi',FV AAN WY JZ hi']
    refine ⟨_,hcall,?_⟩
    try simp -implicitDefEqProofs only [F9,FI,FZ,D5,List.contains_cons,List.contains_nil,Nat.reduceBEq,Bool.or_false,Bool.or_true,EE,DX,EI,J3,JH,AA,A7,ES,II,CE,↓reduceIte,Nat.reduceEqDiff,Nat.reduceAdd,oGs,enP,mkF _ _ (show H8 (szs m m.crs[i].pts)≤1048576 by omega),AQ2]
    refine JW (v := .own o 0 l) (h:=H2) hap ?_
    simp -implicitDefEqProofs only [F9,D5,List.contains_cons,List.contains_nil,Nat.reduceBEq,Bool.or_false,EE,DX,KP,FB,EI,KO,EH,BA,A8,EF,ER,AY,BB,AL,BD,AX,AC,AA,A7,AU,BH,BG,AZ,EM,BR,BL,AB,DK,DF,↓reduceIte,Nat.reduceEqDiff,Nat.reduceAdd,Nat.zero_add,oGs,bNf,enP,MW,D9,Option.getD_none,f3,E2.s3',f5,wrap_succ (show i < 9223372036854775807 by omega)]
    refine ⟨n - 1,by omega,i+1,.own o 0 l,by omega,f1,f2,trivial,rfl,E3,ho1',ho2'',fun b hb h1 => ?_,by rw [List.length_set]; omega⟩
    have h0:=hn2 b hb
    have h2:=ho1.lt h1
    omega
   ·have hi' : ¬ i < m.crs.length:=by simpa using hc
    rw [List.take_of_length_le (by rw [AK6]; omega)] at ho2
    simp -implicitDefEqProofs only [DJ,ED,KI,EU,AA,↓reduceIte,Nat.reduceEqDiff]
    exact ⟨v2,f2,f3,E,ho1,ho2⟩
  ·rintro F' H' ⟨v2,g2,g3,E',q1,q2⟩
   have hp:=E'.o2; have hq:=E'.o3
   simp -implicitDefEqProofs only [D5,List.contains_cons,List.contains_nil,Nat.reduceBEq,Bool.or_false,BC,BA,BK,A8,EX,AY,BB,AL,BD,AX,AC,EW,AA,A7,BV,EM,AB,DK,↓reduceIte,Nat.reduceEqDiff,oGs,bNf,enP,D9,Option.getD_none,g2,g3,J5 E'.g3 rfl,ADV E'.g2 rfl q1.leaf q2.leaf]
   rw [AJ9 (b:=b2) (by simp -implicitDefEqProofs only [AA,↓reduceIte,Nat.reduceEqDiff,g2]) (J5 (EJ E'.g2) rfl)]
   have hs1 : ∀ {α:Type} {f:α→List AV} {ys:List α} {v:AV},outG 1 f H0 ys v H'→outG 1 f h ys v (H'.set b2 (.live 4 [IE v1 v2])):=fun q=>(q.setB (b:=b2) (by omega) _).base (by omega)
   exact ⟨E'.hx.set (by omega) _,v1,v2,rfl,hs1 q1,hs1 q2⟩
theorem XG {E:Env} {f:FuncId} {args:List AV} {h:Hp} {r:AV} (d:Nat) (hr : ∀ n H,IQ n H d r=r) (hc:ACalls E f args h fun v H=>v=r∧ext h H):PCall E f args h r :=
 ACalls.pure d hc fun v H ⟨e,he⟩=>⟨he,by rw [e]; exact hr _ _⟩
def emV (m:Mo):Cvr:=if FX m=0 then WE m else zV
def VF (m:Mo):Tk:=if FX m=0 then ⟨.full,zLs m⟩ else zT
structure Ee (h H:Hp) (m:Mo) (b2 b3:Nat):Prop where
 gm:H[h.length]? = some (ABlk.live 2 [EP m])
 g2:H[b2]? = some (ABlk.live 4 [FW])
 g3:H[b3]? = some (ABlk.live 1 [F6])
 o2:h.length < b2
 o3:b2 < b3
 hx:ext h H
theorem Ee.mk' (h:Hp) (m:Mo):Ee h (h ++ [ABlk.live 2 [EP m]] ++ [ABlk.live 4 [FW]] ++ [ABlk.live 1 [F6]]) m (h ++ [ABlk.live 2 [EP m]]).length (h ++ [ABlk.live 2 [EP m]] ++ [ABlk.live 4 [FW]]).length :=
 ⟨CW (CW (CY _ _)),CW (CY _ _),CY _ _,by simp,by simp,(((ext.rfl' h).app _).app _).app _⟩
theorem Ee.lt {h H:Hp} {m:Mo} {b2 b3:Nat} (E:Ee h H m b2 b3):b3 < H.length:=CQ E.g3
theorem Ee.m0 {h H:Hp} {m:Mo} {b2 b3:Nat} (E:Ee h H m b2 b3):D6 Tryz.prog H 22 (.ptr h.length 0 0)=some (.sl m.pm 6 (m.pts.map F8)):=by rw [DU WI E.gm (row:=EP m) rfl,QH]
theorem AX6 (H0:Hp) (c:Cvr) (t:Tk) :
  FK Tryz.prog (H0 ++ [ABlk.live 4 [FW]] ++ [ABlk.live 1 [F6]]) 28 (.ptr H0.length 0 0) (.agg (F7 c))=some ((H0 ++ [ABlk.live 4 [FW]] ++ [ABlk.live 1 [F6]]).set H0.length (ABlk.live 4 [F7 c])) ∧
  FK Tryz.prog ((H0 ++ [ABlk.live 4 [FW]] ++ [ABlk.live 1 [F6]]).set H0.length (ABlk.live 4 [F7 c])) 47 (.ptr (H0 ++ [ABlk.live 4 [FW]]).length 0 0) (.agg (KU t))=some (((H0 ++ [ABlk.live 4 [FW]] ++ [ABlk.live 1 [F6]]).set H0.length (ABlk.live 4 [F7 c])).set (H0 ++ [ABlk.live 4 [FW]]).length (ABlk.live 1 [KU t])) ∧
  (((H0 ++ [ABlk.live 4 [FW]] ++ [ABlk.live 1 [F6]]).set H0.length (ABlk.live 4 [F7 c])).set (H0 ++ [ABlk.live 4 [FW]]).length (ABlk.live 1 [KU t]))[H0.length]? = some (ABlk.live 4 [F7 c]) ∧
  (((H0 ++ [ABlk.live 4 [FW]] ++ [ABlk.live 1 [F6]]).set H0.length (ABlk.live 4 [F7 c])).set (H0 ++ [ABlk.live 4 [FW]]).length (ABlk.live 1 [KU t]))[(H0 ++ [ABlk.live 4 [FW]]).length]? = some (ABlk.live 1 [KU t]) ∧
  ext H0 (((H0 ++ [ABlk.live 4 [FW]] ++ [ABlk.live 1 [F6]]).set H0.length (ABlk.live 4 [F7 c])).set (H0 ++ [ABlk.live 4 [FW]]).length (ABlk.live 1 [KU t])) :=
 ⟨stV (CW (CY _ _)) rfl,stT (CX (CY _ _) (by simp)) rfl,CX (EJ (CW (CY _ _))) (by simp),EJ (CX (CY _ _) (by simp)),((((ext.rfl' H0).app _).app _).set (Nat.le_refl _) _).set (by simp) _⟩
theorem FT {h H:Hp} {b:Nat} {x:ABlk} (he:ext h H) (hb:h[b]? = some x):H[b]? = some x:=by
 obtain ⟨y,rfl⟩:=he
 exact FU hb
theorem AP9 (e:Int):CvR (.tup [.agg FW,.agg F6,.int .i64 e]) (.tup [.agg (F7 zV),.agg (KU zT),.int .i64 e]):=CvR.tup (CvRL.cons AOG (CvRL.cons AW4 (CvRL.refl _)))
theorem AX2 (h:Hp) (m:Mo) (hn:m.pts.length≤1048576):IP Tryz.prog false h 26 (.int .i64 (m.pts.length:Int)) (.int .i64 (m.pts.length:Int))=some (.sl .full 1 (m.pts.map fun _=>F6),h):=by
 have hz:ML Tryz.prog 57=some F6:=by kernel_rfl
 have hr:room m.pts.length 24:=JC (by omega) (by omega)
 unfold IP
 simp only [AE6,YJ,AGC,hz,Int.toNat_natCast]
 rw [if_pos ⟨by omega,Int.le_refl _,hr,rfl⟩]
 simp [List.map_const']
theorem AZA (xs:List (List AV)):KL Tryz.prog 47 [(0,.sl .full 1 xs)]=some (.agg [.sl .full 1 xs]):=by kernel_rfl
set_option maxHeartbeats 1000000 in
theorem AOA (G:Nat→AV) (m:Mo) (hm:MoOk m) (h:Hp):PCall (En G) 40 [.agg (EP m)] h (.tup [.agg (F7 (emV m)),.agg (KU (VF m)),.int .i64 (FX m)]):=by
 by_cases h0:FX m=0
 ·have hb:(FX m == 0)=true:=by simpa using h0
  unfold emV VF
  rw [if_pos h0,if_pos h0]
  have hg:=PV h0
  refine PCall.res (r := .tup [.agg (F7 (WE m)),.agg [.sl .full 1 (m.pts.map fun _=>F6)],.int .i64 (FX m)]) ?_ (CvR.tup (CvRL.cons (CvR.refl _) (CvRL.cons (CvR.agg (CvRL.cons (CvR.sl (AS0 m.pts)) CvRL.nil)) (CvRL.refl _))))
  refine XG 3 (fun n H=>rfl) ?_
  refine CB (H:=Hint.none) (enM G) Tryz.func40 rfl (by kernel_rfl) (by kernel_rfl) (nLb (by kernel_rfl)) ?_
  show awp _ _ _ _ _ (EG _ [.cell 2 28,.cell 3 47,.tmp 4] _)
  have E:=Ee.mk' h m
  simp -implicitDefEqProofs only [BC,BA,A8,AY,BB,AO,AQ,AL,BD,AX,AC,AA,A7,AU,BH,AZ,F5,FY,BV,CE,BF,↓reduceIte,Nat.reduceEqDiff,oGs,bNf,enP,bxM,OE,AAM]
  generalize h ++ [ABlk.live 2 [EP m]] ++ [ABlk.live 4 [FW]] ++ [ABlk.live 1 [F6]]=H0 at E ⊢
  generalize (h ++ [ABlk.live 2 [EP m]] ++ [ABlk.live 4 [FW]]).length=b3 at E ⊢
  generalize (h ++ [ABlk.live 2 [EP m]]).length=b2 at E ⊢
  have o2:=E.o2; have o3:=E.o3; have hlt:=E.lt
  simp -implicitDefEqProofs only [AY,AO,AQ,AL,BD,AX,AC,AA,A7,BX,BZ,BU,AB,lMc,lMn,lAn,↓reduceIte,oGs,bNf,ldM E.gm]
  refine (RP G m hm _).use ?_
  simp -implicitDefEqProofs only [BC,BA,BO,BI,A8,DN,AY,BB,AO,AQ,AL,BD,AX,AC,AA,A7,AU,BH,BG,AZ,BR,AB,EN,↓reduceIte,oGs,bNt,bNf,enP,bne,hb]
  refine U9 [(15,2),(1,2)] (by kernel_rfl) ?_ ?_
  ·simp -implicitDefEqProofs only [AA,BN,AH6,↓reduceIte,Nat.reduceEqDiff,VB,YA,XF,AVT,and_true,true_and]
   omega
  simp -implicitDefEqProofs only [F9,EE,DX,EI,FP,EH,GR,GH,AO,AA,A7,BX,BV,BL,AB,lMc,lMn,lAn,↓reduceIte,Nat.reduceEqDiff,Nat.reduceAdd,Nat.add_zero,oGs,enP,IU,ldM E.gm]
  refine ⟨_,ANP G m hm hg _,?_⟩
  try simp -implicitDefEqProofs only [F9,FI,FZ,EE,DX,KP,FB,EI,JR,AR0,KO,L8,JH,BK,A8,AO,AA,A7,AU,BH,I8,EM,J8,D7,CE,AB,DK,↓reduceIte,Nat.reduceEqDiff,Nat.reduceAdd,Nat.zero_add,oGs,enP,QO,Option.getD_none,E.m0,lLm,AX2 _ m hm.np,AZA,stV E.g2 rfl,AG2 (v3 := .sl .full 1 (m.pts.map fun _=>F6)) (CX E.g3 (show b3≠b2 by omega)) rfl rfl]
  rw [U5 (ba:=b2) (bb:=b3) (by simp -implicitDefEqProofs only [AA,↓reduceIte,Nat.reduceEqDiff]) (by simp -implicitDefEqProofs only [AA,↓reduceIte,Nat.reduceEqDiff]) (ldV (CX (EJ E.g2) (show b2≠b3 by omega))) (O0 (EJ (CX E.g3 (show b3≠b2 by omega))) rfl)]
  exact ⟨by simp -implicitDefEqProofs only [AA,↓reduceIte,h0],(E.hx.set (by omega) _).set (by omega) _⟩
 ·have hb:(FX m == 0)=false:=by simpa using h0
  unfold emV VF
  rw [if_neg h0,if_neg h0]
  refine PCall.res ?_ (AP9 _)
  refine XG 3 (fun n H=>rfl) ?_
  refine CB (H:=Hint.none) (enM G) Tryz.func40 rfl (by kernel_rfl) (by kernel_rfl) (nLb (by kernel_rfl)) ?_
  show awp _ _ _ _ _ (EG _ [.cell 2 28,.cell 3 47,.tmp 4] _)
  have E:=Ee.mk' h m
  simp -implicitDefEqProofs only [BC,BA,A8,AY,BB,AO,AQ,AL,BD,AX,AC,AA,A7,AU,BH,AZ,F5,FY,BV,CE,BF,↓reduceIte,Nat.reduceEqDiff,oGs,bNf,enP,bxM,OE,AAM]
  generalize h ++ [ABlk.live 2 [EP m]] ++ [ABlk.live 4 [FW]] ++ [ABlk.live 1 [F6]]=H0 at E ⊢
  generalize (h ++ [ABlk.live 2 [EP m]] ++ [ABlk.live 4 [FW]]).length=b3 at E ⊢
  generalize (h ++ [ABlk.live 2 [EP m]]).length=b2 at E ⊢
  have o2:=E.o2; have o3:=E.o3; have hlt:=E.lt
  simp -implicitDefEqProofs only [AY,AO,AQ,AL,BD,AX,AC,AA,A7,BX,BZ,BU,AB,lMc,lMn,lAn,↓reduceIte,oGs,bNf,ldM E.gm]
  refine (RP G m hm _).use ?_
  simp -implicitDefEqProofs only [FI,BC,BA,BK,BI,A8,CP,C9,AY,BB,AO,AQ,AL,BD,AX,AC,EW,AA,A7,AU,BH,BG,AZ,I8,EM,BR,AB,DK,EN,↓reduceIte,Nat.reduceEqDiff,oGs,bNf,enP,Option.getD_none,bne,hb,TF,ACU,stZ E.g2 rfl,ABF (CX E.g3 (show b3≠b2 by omega)) rfl]
  rw [U5 (ba:=b2) (bb:=b3) (by simp -implicitDefEqProofs only [AA,↓reduceIte,Nat.reduceEqDiff]) (by simp -implicitDefEqProofs only [AA,↓reduceIte,Nat.reduceEqDiff]) (J5 (CX (EJ E.g2) (show b2≠b3 by omega)) rfl) (O0 (EJ (CX E.g3 (show b3≠b2 by omega))) rfl)]
  exact ⟨by simp -implicitDefEqProofs only [AA,↓reduceIte],(E.hx.set (by omega) _).set (by omega) _⟩
theorem AVL (h:Hp) (v:Cvr):FK Tryz.prog (h ++ [ABlk.live 4 [FW]]) 28 (.ptr h.length 0 0) (.agg (F7 v))=some (h ++ [ABlk.live 4 [F7 v]]):=by rw [stV (CY _ _) rfl,PQ]
structure Mr (h H:Hp) (m:Mo) (a b:Cvr) (b4 b5 b6:Nat):Prop where
 gm:H[h.length]? = some (ABlk.live 2 [EP m])
 ga:H[b4]? = some (ABlk.live 4 [F7 a])
 gb:H[b5]? = some (ABlk.live 4 [F7 b])
 g6:H[b6]? = some (ABlk.live 4 [FW])
 o4:h.length < b4
 o5:b4 < b5
 o6:b5 < b6
 hx:ext h H
theorem Mr.mk' (h:Hp) (m:Mo) (a b:Cvr):Mr h (h ++ [ABlk.live 2 [EP m]] ++ [ABlk.live 4 [F7 a]] ++ [ABlk.live 4 [F7 b]] ++ [ABlk.live 4 [FW]]) m a b (h ++ [ABlk.live 2 [EP m]]).length (h ++ [ABlk.live 2 [EP m]] ++ [ABlk.live 4 [F7 a]]).length (h ++ [ABlk.live 2 [EP m]] ++ [ABlk.live 4 [F7 a]] ++ [ABlk.live 4 [F7 b]]).length :=
 ⟨CW (CW (CW (CY _ _))),CW (CW (CY _ _)),CW (CY _ _),CY _ _,by simp,by simp,by simp,((((ext.rfl' h).app _).app _).app _).app _⟩
structure Al (h H:Hp) (m:Mo) (c:Cvr) (b4 b6:Nat):Prop where
 gm:H[h.length]? = some (ABlk.live 2 [EP m])
 g4:H[b4]? = some (ABlk.live 4 [FW])
 g6:H[b6]? = some (ABlk.live 4 [F7 c])
 o4:h.length < b4
 o6:b4 < b6
 hx:ext h H
theorem Al.app {h H:Hp} {m:Mo} {c:Cvr} {b4 b6:Nat} (E:Al h H m c b4 b6) (x:Hp):Al h (H ++ x) m c b4 b6:=⟨FU E.gm,FU E.g4,FU E.g6,E.o4,E.o6,E.hx.app _⟩
theorem Al.up {h H H':Hp} {m:Mo} {c:Cvr} {b4 b6:Nat} (E:Al h H m c b4 b6) (hx:ext H H'):Al h H' m c b4 b6:=by
 obtain ⟨x,rfl⟩:=hx; exact E.app x
end Go.Proofs.YtocilianjfhifaaGreatDoor.Cov
