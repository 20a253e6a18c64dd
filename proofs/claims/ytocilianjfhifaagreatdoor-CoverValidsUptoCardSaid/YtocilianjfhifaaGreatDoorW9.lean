/- Part 9 of the proof (A1, Q1, Q2, Q3, A2, Q4, Q5, Q6, Q7, Q8); no condition. -/
import Derived.Test.YtocilianjfhifaaGreatDoorW8
set_option linter.unusedVariables false
namespace Go.Proofs.YtocilianjfhifaaGreatDoor.Cov
open Sm Bins Go.RowKit
theorem NJ {n:Int}:IY n=true↔0≤n∧n≤1099511627776:=by unfold IY; simp
theorem WE {n:Int} {p:Bool} (h:countB n p=true):IY n=true:=by unfold countB at h; simp only [Bool.and_eq_true] at h; exact h.1
def WL (x:List Int):Prop := ∀ n∈x,IY n=true
theorem UQ : ∀ {x:List Int} {p:Nat→Bool} {k:Nat},RY p k x=true→WL x
 | [],_,_,_=>fun _ h=>by cases h
 | n :: x,p,k,h=>by
   simp only [RY,Bool.and_eq_true] at h
   intro m hm
   rcases List.mem_cons.1 hm with rfl | hm
   ·exact WE h.1
   ·exact UQ h.2 m hm
theorem Y0 {m:Mo} {v:Cvr}:MX m v=true↔GM m=0∧KE okP m.pts v.pts=true∧KE (okC m) m.crs v.crs=true∧IY v.sam=true∧IY v.ill=true:=by
 unfold MX
 simp only [Bool.and_eq_true,beq_iff_eq]
 exact ⟨fun ⟨⟨⟨⟨a,b⟩,c⟩,d⟩,e⟩=>⟨a,b,c,d,e⟩,fun ⟨a,b,c,d,e⟩=>⟨⟨⟨⟨a,b⟩,c⟩,d⟩,e⟩⟩
def zeros (n:Nat):List Int:=List.replicate n 0
def zIs (n:Nat):Is:=⟨.full,zeros n⟩
def zPs (m:Mo):List Is:=m.pts.map fun p=>zIs p.bins.length
def zCs (m:Mo):List Is:=m.crs.map fun c=>zIs (II (szs m c.pts))
def TM (m:Mo):Cvr:=⟨nm (zPs m),zPs m,nm (zCs m),zCs m,0,0⟩
theorem RX : ∀ (n:Nat) {p:Nat→Bool} {k:Nat},RY p k (zeros n)=true
 | 0,_,_=>rfl
 | n+1,p,k=>by
   have ih:=RX n (p:=p) (k:=k+1)
   unfold zeros at *
   simp only [List.replicate_succ,RY,ih,Bool.and_true]
   unfold countB; cases p k <;> rfl
theorem U6 {α:Type} {ok:α→Is→Bool} (f:α→Is) (hf : ∀ a,ok a (f a)=true) : ∀ ws:List α,KE ok ws (ws.map f)=true
 | []=>rfl
 | a :: ws=>by simp only [lMc,KE,hf,U6 f hf ws,Bool.and_true]
theorem AH2 {m:Mo} (h:GM m=0):MX m (TM m)=true:=by
 rw [Y0]
 refine ⟨h,U6 _ (fun p => ?_) _,U6 _ (fun c => ?_) _,rfl,rfl⟩
 ·unfold okP; simp [zIs,RX]; simp [zeros]
 ·unfold okC; simp [zIs,RX]; simp [zeros]
structure Dat where
 pts:List (List Int)
 crs:List (List Int)
 sam:Int
 ill:Int
def AWH (v:Cvr):Dat:=⟨v.pts.map (·.l),v.crs.map (·.l),v.sam,v.ill⟩
theorem ASR {p:Pt} {x:Is} (h:okP p x=true):x.l.length=p.bins.length:=by
 unfold okP at h; simp only [Bool.and_eq_true,beq_iff_eq] at h; exact h.1
theorem ASU {m:Mo} {c:Cr} {x:Is} (h:okC m c x=true):x.l.length=II (szs m c.pts):=by
 unfold okC at h; simp only [Bool.and_eq_true,beq_iff_eq] at h; exact h.1
theorem AB6 {α:Type} {ok:α→Is→Bool} (hok : ∀ a x y,x.l=y.l→ok a x=ok a y) : ∀ (ws:List α) (xs ys:List Is),xs.map (·.l)=ys.map (·.l)→KE ok ws xs=KE ok ws ys
 | [],[],[],_=>rfl
 | a :: ws,x :: xs,y :: ys,h=>by
   simp only [lMc,List.cons.injEq] at h
   simp only [KE,hok a x y h.1,AB6 hok ws xs ys h.2]
 | [],x :: xs,y :: ys,h=>rfl
 | a :: ws,[],[],h=>rfl
 | _,[],_ :: _,h=>by simp at h
 | _,_ :: _,[],h=>by simp at h
end Go.Proofs.YtocilianjfhifaaGreatDoor.Cov
set_option linter.unusedSimpArgs false
set_option maxRecDepth 8000
namespace Go.Proofs.YtocilianjfhifaaGreatDoor.Cov
open Sm Bins Go.RowKit
theorem mkI (h:Hp) (n:Nat) (hn:n≤1048576):IG Tryz.prog true h 57 (.int .i64 (n:Int)) (.int .i64 (n:Int))=some (.own h.length 0 n,h ++ [.live 1 ((zeros n).map encI)]):=by
 rw [AX3 h n hn,AL3]
 simp [zeros]
theorem VJ (h:Hp) (x y:ABlk):(h ++ [x]).set h.length y=h ++ [y]:=by simp
theorem AMC (h:Hp) (m:SM) (xs:List (List AV)):FN Tryz.prog false h 26 1 [(0,.sl m 1 xs)]=some (.sl .full 1 [[.sl m 1 xs]],h):=by kernel_rfl
theorem ATM:Frz encL:=fun _ _ _ _=>⟨rfl,rfl⟩
def TK:List Is→List Is→Bool
 | [],[]=>true
 | a :: ws,b :: bs=>eqL a.l b.l && TK ws bs
 | _,_=>false
theorem X4 : ∀ {a b:List Is},TK a b=true↔a.map (·.l)=b.map (·.l)
 | [],[]=>by simp [TK]
 | x :: a,y :: b=>by
   have ih:=X4 (a:=a) (b:=b)
   simp only [TK,Bool.and_eq_true,ih,lMc,List.cons.injEq,eqL,decide_eq_true_eq]
 | [],_ :: _=>by simp [TK]
 | _ :: _,[]=>by simp [TK]
theorem AP5 {a b:List Is} (h:TK a b=true):a.length=b.length:=by
 have:=congrArg List.length (X4.1 h)
 simpa using this
theorem ANL (a b:List Is) (k:Nat) (ha:k < a.length) (hb:k < b.length):TK (a.drop k) (b.drop k)=(eqL a[k].l b[k].l && TK (a.drop (k+1)) (b.drop (k+1))):=by
 rw [List.drop_eq_getElem_cons ha,List.drop_eq_getElem_cons hb]; rfl
theorem UY (G:Nat→AV) (a b:List Is) (s t:SM) (h:Hp) (hl:a.length≤1048576) (hb : ∀ x∈b,x.l.length≤1048576):PCall (En G) 86 [.sl s 1 (a.map encL),.sl t 1 (b.map encL)] h (.bool (TK a b)):=by
 refine CE (H:=Hint.none) (enM G) Tryz.func86 rfl (by kernel_rfl) (by kernel_rfl) (nLb (by kernel_rfl)) ?_
 show awp _ _ _ _ _ (EJ _ [.tmp 4] _)
 simp -implicitDefEqProofs only [BC,BA,BI,A8,AY,BB,AO,AQ,AL,BD,AX,AC,AA,AZ,AU,BM,BG,A7,BQ,DZ,AB,EG,BF,BN,↓reduceIte,Nat.reduceEqDiff,oGs,bNf,enP,QT,lLm]
 refine CV (fun h1 => ?_) (fun h1 => ?_)
 ·simp -implicitDefEqProofs only [BC,BA,BL,A8,CQ,CJ,AY,BB,AO,AQ,AL,BD,AX,AC,AA,AU,BM,A7,↓reduceIte,oGs,bNf]
  have:TK a b=false:=by
   rw [← Bool.not_eq_true]; intro e
   have:=AP5 e
   simp [this] at h1
  exact ⟨by rw [this],trivial⟩
 have hab:a.length=b.length:=by simp at h1; omega
 simp -implicitDefEqProofs only [BC,BR,BA,BO,A8,AY,BB,AO,AQ,AL,BD,AX,AC,AU,BH,A7,oGs,bNf]
 refine DT (fun n F H => ∃ i,n+i=a.length∧F 0 = .sl s 1 (a.map encL)∧F 1 = .sl t 1 (b.map encL)∧F 5 = .int .i64 (i:Nat)∧H=h∧TK a b=TK (a.drop i) (b.drop i)) a.length ⟨0,by simp,by simp -implicitDefEqProofs only [AA,BF,↓reduceIte,Nat.reduceEqDiff],by simp -implicitDefEqProofs only [AA,BF,BN,↓reduceIte,Nat.reduceEqDiff],by simp -implicitDefEqProofs only [AA,↓reduceIte]; rfl,rfl,rfl⟩ ?_
 rintro n F H ⟨i,hi,f0,f1,f5,rfl,hf⟩
 simp -implicitDefEqProofs only [BC,BA,BI,A8,AY,BB,AO,AQ,AL,BD,AX,AC,AA,AZ,BG,BQ,DZ,AB,DC,↓reduceIte,Nat.reduceEqDiff,oGs,bNf,enP,QT,f0,f5,lLm]
 refine CV (fun hc => ?_) (fun hc => ?_)
 ·have ha:i < a.length:=by simpa using hc
  have hbi:i < b.length:=by omega
  have hbl:=hb _ (List.getElem_mem hbi)
  rw [ANL a b i ha hbi] at hf
  simp -implicitDefEqProofs only [BC,BR,BO,A8]
  refine FB (by kernel_rfl) ?_
  simp -implicitDefEqProofs only [F8,EC,DW,EF,FO,FD,AA2,EK,GL,FW,AO,AA,AZ,BX,BV,G6,CG,AB,lMc,lMn,lAn,↓reduceIte,Nat.reduceEqDiff,Nat.reduceAdd,oGs,enP,OX,f0,f1,f5,D6 ha,DV L8 ha,OD,D6 hbi,DV L8 hbi]
  refine ⟨_,ABH G a[i].l b[i].l _ _ _ (by omega),?_⟩
  try simp -implicitDefEqProofs only [DW,FK,BI,A8,AA,AZ,AB,EY,↓reduceIte]
  cases he:eqL a[i].l b[i].l
  ·simp -implicitDefEqProofs only [BC,BA,BL,A8,CQ,D8,FI,CJ,CY,AY,BB,AO,AQ,AL,BD,AX,AC,AA,AU,BM,A7,↓reduceIte,oGs,bNf]
   exact ⟨by rw [hf,he]; rfl,trivial⟩
  ·simp -implicitDefEqProofs only [BA,BO,A8,EE,EN,DU,AY,BB,AO,AQ,AL,BD,AX,AC,AA,AZ,AU,BH,BG,A7,BQ,AB,DF,↓reduceIte,Nat.reduceEqDiff,oGs,bNt,bNf,enP,f5,wrap_succ (show i < 9223372036854775807 by omega)]
   exact ⟨n - 1,by omega,i+1,by omega,f0,f1,rfl,trivial,by rw [hf,he]; rfl⟩
 ·have ha : ¬ i < a.length:=by simpa using hc
  simp -implicitDefEqProofs only [BC,BA,BL,DJ,A8,D9,EX,EW,CJ,AY,BB,AO,AQ,AL,BD,AX,AC,AA,AU,BM,A7,↓reduceIte,oGs,bNf]
  exact ⟨by rw [hf,List.drop_eq_nil_of_le (by omega),List.drop_eq_nil_of_le (by omega)]; rfl,trivial⟩
def eqV (a b:Cvr):Bool:=TK a.pts b.pts && TK a.crs b.crs && (a.sam == b.sam) && (a.ill == b.ill)
theorem ATV {a b:Cvr}:eqV a b=true↔AWH a=AWH b:=by
 unfold eqV AWH
 simp only [Bool.and_eq_true,X4,beq_iff_eq,Dat.mk.injEq]
 exact ⟨fun ⟨⟨⟨h1,h2⟩,h3⟩,h4⟩=>⟨h1,h2,h3,h4⟩,fun ⟨h1,h2,h3,h4⟩=>⟨⟨⟨h1,h2⟩,h3⟩,h4⟩⟩
structure VV (h H:Hp) (a b:Cvr) (bb:Nat):Prop where
 ga:H[h.length]? = some (.live 4 [FU a])
 gb:H[bb]? = some (.live 4 [FU b])
 hx : ∃ x,H=h ++ x
theorem VV.mk' (h:Hp) (a b:Cvr):VV h (h ++ [.live 4 [FU a]] ++ [.live 4 [FU b]]) a b (h ++ [ABlk.live 4 [FU a]]).length:=⟨CW (CZ _ _),CZ _ _,⟨_,List.append_assoc _ _ _⟩⟩
section
variable {H:Hp} {v:Cvr} {vb:Nat} (gv:H[vb]? = some (.live 4 [FU v]))
include gv
theorem lv0:D7 Tryz.prog H 26 (.ptr vb 0 0)=some (.sl v.pm 1 (v.pts.map encL)):=by rw [DL OM gv (row:=FU v) rfl,AQC]
theorem lv1:D7 Tryz.prog H 26 (.ptr vb 0 1)=some (.sl v.cm 1 (v.crs.map encL)):=by rw [DL OM gv (row:=FU v) rfl,AQB]
theorem lv2:D7 Tryz.prog H 3 (.ptr vb 0 2)=some (.int .i64 v.sam):=by rw [DL ag3 gv (row:=FU v) rfl,AQA]
theorem lv3:D7 Tryz.prog H 3 (.ptr vb 0 3)=some (.int .i64 v.ill):=by rw [DL ag3 gv (row:=FU v) rfl,AP9]
end
theorem AVR (G:Nat→AV) (a b:Cvr) (h:Hp) (ha:CvOk a) (hb:CvOk b):PCall (En G) 36 [.agg (FU a),.agg (FU b)] h (.bool (eqV a b)):=by
 refine ACalls.pure0 rfl ?_
 refine CE (H:=Hint.none) (enM G) Tryz.func36 rfl (by kernel_rfl) (by kernel_rfl) (nLb (by kernel_rfl)) ?_
 show awp _ _ _ _ _ (EJ _ [.tmp 4] _)
 have t:=VV.mk' h a b
 simp -implicitDefEqProofs only [BC,BA,A8,AY,BB,AO,AQ,AL,BD,AX,AC,AA,AZ,AU,BM,A7,FV,BV,BK,CB,AB,BF,BN,↓reduceIte,Nat.reduceEqDiff,Nat.add_zero,oGs,bNf,enP,MC,bxV]
 generalize h ++ [ABlk.live 4 [FU a]] ++ [ABlk.live 4 [FU b]]=H at t ⊢
 generalize (h ++ [ABlk.live 4 [FU a]]).length=bb at t ⊢
 simp -implicitDefEqProofs only [AY,AO,AQ,AL,BD,AX,AC,AA,AZ,BX,BV,BK,BZ,BU,AB,lMc,lMn,lAn,↓reduceIte,Nat.reduceEqDiff,Nat.add_zero,oGs,bNf,enP,MC,lv0 t.ga,lv0 t.gb]
 refine (UY G _ _ _ _ _ ha.pts hb.eachP).use ?_
 simp -implicitDefEqProofs only [AY,BJ,BP,CO,AO,AQ,AL,BD,AX,AC,AA,AZ,BG,↓reduceIte,oGs,bNf]
 cases h1:TK a.pts b.pts
 ·simp -implicitDefEqProofs only [BL,A8,CJ,AY,BB,BJ,BP,CO,H8,AO,AQ,AL,BD,AX,AC,AA,EP,AZ,AU,BM,BG,A7,CP,DR,↓reduceIte,Nat.reduceEqDiff,oGs,bNf]
  exact ⟨by unfold eqV; rw [h1]; rfl,t.hx⟩
 simp -implicitDefEqProofs only [BJ,BP,CO,F7,AO,AQ,AL,BD,AX,AC,AA,AZ,BX,BV,BK,BZ,BU,AB,lMc,lMn,lAn,↓reduceIte,Nat.reduceEqDiff,Nat.zero_add,oGs,bNf,enP,MN,lv1 t.ga,lv1 t.gb]
 refine (UY G _ _ _ _ _ ha.crs hb.eachC).use ?_
 simp -implicitDefEqProofs only [AY,BJ,BP,CO,AO,AQ,AL,BD,AX,AC,AA,AZ,AU,BM,BG,CP,DN,↓reduceIte,Nat.reduceEqDiff,oGs,bNf]
 cases h2:TK a.crs b.crs
 ·simp -implicitDefEqProofs only [BL,A8,CJ,AY,BB,BJ,BP,CO,H8,AO,AQ,AL,BD,AX,AC,AA,EP,AZ,AU,BM,BG,A7,CP,DR,↓reduceIte,Nat.reduceEqDiff,oGs,bNf]
  exact ⟨by unfold eqV; rw [h1,h2]; rfl,t.hx⟩
 simp -implicitDefEqProofs only [AY,BJ,BP,CO,F7,AO,AQ,AL,BD,AX,AC,AA,AZ,AU,BM,BG,CP,DN,BV,BQ,BK,AB,D5,↓reduceIte,Nat.reduceEqDiff,Nat.zero_add,oGs,bNf,enP,W9,lv2 t.ga,lv2 t.gb]
 cases h3:(a.sam == b.sam)
 ·simp -implicitDefEqProofs only [BL,A8,CJ,AY,BB,BJ,BP,CO,H8,AO,AQ,AL,BD,AX,AC,AA,EP,AZ,AU,BM,A7,CP,DR,↓reduceIte,Nat.reduceEqDiff,oGs,bNf]
  exact ⟨by unfold eqV; rw [h1,h2,h3]; rfl,t.hx⟩
 simp -implicitDefEqProofs only [BL,A8,CJ,AY,BB,BJ,BP,CO,F7,AO,AQ,AL,BD,AX,AC,AA,AZ,AU,BM,A7,CP,DN,BV,BQ,BK,AB,D5,↓reduceIte,Nat.reduceEqDiff,Nat.zero_add,oGs,bNf,enP,Y5,lv3 t.ga,lv3 t.gb]
 exact ⟨by unfold eqV; rw [h1,h2,h3]; rfl,t.hx⟩
theorem AP8 {P:Program} {a t:Nat} {R:AV→Hp→Prop} {F:Fr} {h:Hp} {x:AV} {b:Nat} (hF:F a = .ptr b 0 0) (h1:D7 P h t (.ptr b 0 0)=some x):EJ P [.cell a t] R .ret F h=R x h:=by simp [EJ,ZF,Q9,hF,h1]
theorem AP7 {P:Program} {a t b u:Nat} {R:AV→Hp→Prop} {F:Fr} {h:Hp} {x y:AV} {ba bb:Nat} (hF:F a = .ptr ba 0 0) (hG:F b = .ptr bb 0 0) (h1:D7 P h t (.ptr ba 0 0)=some x) (h2:D7 P h u (.ptr bb 0 0)=some y):EJ P [.cell a t,.cell b u] R .ret F h=R (.tup [x,y]) h:=by simp [EJ,ZF,PY,Q9,hF,hG,h1,h2]
theorem VX {P:Program} {a t b u c:Nat} {R:AV→Hp→Prop} {F:Fr} {h:Hp} {x y:AV} {ba bb:Nat} (hF:F a = .ptr ba 0 0) (hG:F b = .ptr bb 0 0) (h1:D7 P h t (.ptr ba 0 0)=some x) (h2:D7 P h u (.ptr bb 0 0)=some y):EJ P [.cell a t,.cell b u,.tmp c] R .ret F h=R (.tup [x,y,F c]) h:=by simp [EJ,ZF,PY,Q9,hF,hG,h1,h2]
theorem AFR {P:Program} {a t c:Nat} {R:AV→Hp→Prop} {F:Fr} {h:Hp} {x:AV} {ba:Nat} (hF:F a = .ptr ba 0 0) (h1:D7 P h t (.ptr ba 0 0)=some x):EJ P [.cell a t,.tmp c] R .ret F h=R (.tup [x,F c]) h:=by simp [EJ,ZF,PY,Q9,hF,h1]
def fzG {α:Type} (k:Nat) (f:α→List AV) (ys:List α):AV:=match ys with
 | [] => .sl .nil 0 []
 | _ => .sl .any k (ys.map f)
theorem SG {α:Type} {k:Nat} {f:α→List AV} {h H:Hp} {ys:List α} {v:AV} (hf:Frz f) (ho:outG k f h ys v H) (n d:Nat) (hn:n≤h.length):I5 n H (d+2) v=fzG k f ys:=by
 rcases ho with ⟨rfl,rfl⟩ | ⟨hne,o,h2,rfl,h3⟩
 ·rfl
 ·rw [AAW hf (Nat.le_trans hn h2) h3]
  cases ys with
  | nil=>exact absurd rfl hne
  | cons _ _=>rfl
theorem TJ {α:Type} {k:Nat} {f:α→List AV} {ys:List α}:CvR (fzG k f ys) (.sl (nm ys) k (ys.map f)):=by
 cases ys with
 | nil=>exact CvR.sl (Cv.nil 0 k)
 | cons y ys=>exact CvR.refl _
theorem outG.app2 {P:Program} {t e:TypeId} {α:Type} {k bs:Nat} {f:α→List AV} {h H:Hp} {ys:List α} {v:AV} (ho:outG k f h ys v H) (hu:P.underlying t=some (.slice e)) (hs:szO P e=some k) (hz:UB P e=some k) (hb:ND P e=some bs) (hbs:bs≤4194304) (hl:ys.length < 8388608) (he:h.length≤H.length) (y:α) :
  ∃ v' H',H7 P true H t t v (.sl .full k [f y])=some (v',H')∧outG k f h (ys ++ [y]) v' H'∧(∀ b x,H[b]? = some x→¬ isB v b→H'[b]? = some x)∧H'.length=H.length+1∧(∀ b,isB v' b→b=H.length)∧(∃ o l,v' = .own o 0 l)∧∀ e:Hp,e.length≤h.length→ext e H→ext e H':=by
 have h1:([f y]:List (List AV))≠[]:=by simp
 rcases ho with ⟨rfl,rfl⟩ | ⟨hne,o,h2,rfl,h3⟩
 ·exact ⟨_,_,TP hu hs hz hb (KF H .full k [f y]) h1 (JH (by simp) hbs),.inr ⟨by simp,H.length,he,rfl,by simp⟩,fun b x hb _=>GI hb,by simp,fun b hb=>hb.symm,⟨_,_,rfl⟩,fun e _ hx=>hx.app _⟩
 ·have hc:KG H (.own o 0 ys.length)=some (k,ys.map f):=by
   rw [QD h3 (by simp),List.drop_zero,List.take_of_length_le (by simp)]
  refine ⟨_,_,VZ hu hs hz hb hc (KF H .full k [f y]) h1 (JH (by simp; omega) hbs),.inr ⟨by simp,H.length,he,by simp,by simp⟩,fun b x hb hn => ?_,by simp,fun b hb=>hb.symm,⟨_,_,rfl⟩,fun e hl hx=>(hx.set (Nat.le_trans hl h2) _).app _⟩
  have hn' : ¬ o=b:=hn
  refine GI ?_
  rw [List.getElem?_set,if_neg hn']; exact hb
theorem PK {P:Program} {H:Hp} {t b k j:Nat} {row cs:List AV} {v:AV} (hc:JF v=some cs) (hs:szO P t=some cs.length) (hb:H[b]? = some (.live k [row])) (hl:j+cs.length≤row.length):FX P H t (.ptr b 0 j) v=some (H.set b (.live k [splice row j cs])):=by
 rw [KC (i:=0) hc hs hb rfl hl]; rfl
theorem mkF (h:Hp) (n:Nat) (hn:n≤1048576):IG Tryz.prog false h 57 (.int .i64 (n:Int)) (.int .i64 (n:Int))=some (.sl .full 1 ((zeros n).map encI),h):=by
 have hz:MF Tryz.prog 3=some [.int .i64 0]:=by kernel_rfl
 have hr:room n 8:=JH (by omega) (by omega)
 unfold IG
 simp only [TW,sz3,V4,hz,Int.toNat_natCast]
 rw [if_pos ⟨by omega,Int.le_refl _,hr,rfl⟩]
 simp [zeros,encI]
structure Tk where
 m:SM
 last:List Is
def JI (t:Tk):List AV := [.sl t.m 1 (t.last.map encL)]
theorem AH8 (t:Tk):(JI t).length=1:=rfl
def zT:Tk:=⟨.nil,[]⟩
def zV:Cvr:=⟨.nil,[],.nil,[],0,0⟩
def zLs (m:Mo):List Is:=m.pts.map fun _=>⟨.nil,[]⟩
def GK:List AV := [.sl .nil 0 []]
theorem AWC {α:Type}:Frz (fun _:α=>GK):=fun _ _ _ _=>⟨rfl,rfl⟩
theorem AS0:CvRow GK (encL ⟨.nil,[]⟩):=CvRow.cons rfl (Cv.nil 0 1) CvRow.nil
theorem ALK {α:Type} {s:SM} (xs:List α):Cv (.sl s 1 (xs.map fun _=>GK)) (.sl s 1 ((xs.map fun _=>(⟨.nil,[]⟩:Is)).map encL)):=by
 rw [List.map_map]
 exact Cv.map fun _ _=>AS0
theorem AUP:CvR (.agg [.sl .nil 0 [],.sl .nil 0 [],.int .i64 0,.int .i64 0]) (.agg (FU zV)):=CvR.agg (CvRL.cons (CvR.sl (Cv.nil 0 1)) (CvRL.cons (CvR.sl (Cv.nil 0 1)) (CvRL.cons (CvR.refl _) (CvRL.cons (CvR.refl _) CvRL.nil))))
theorem AWY:CvR (.agg [.sl .nil 0 []]) (.agg (JI zT)):=CvR.agg (CvRL.cons (CvR.sl (Cv.nil 0 1)) CvRL.nil)
def GH:List AV := [.sl .nil 0 [],.sl .nil 0 [],.int .i64 0,.int .i64 0]
theorem OO (h:Hp):J9 Tryz.prog h 28=some (.ptr h.length 0 0,h ++ [.live 4 [GH]]):=JZ (row:=GH) (by kernel_rfl)
theorem ZH (h:Hp):J9 Tryz.prog h 47=some (.ptr h.length 0 0,h ++ [.live 1 [GK]]):=JZ (row:=GK) (by kernel_rfl)
theorem AEM:KP Tryz.prog 28 []=some (.agg GH):=by kernel_rfl
theorem AQ6:KP Tryz.prog 47 []=some (.agg GK):=by kernel_rfl
theorem stV {H:Hp} {b:Nat} {row:List AV} {v:Cvr} (hb:H[b]? = some (.live 4 [row])) (hr:row.length=4):FX Tryz.prog H 28 (.ptr b 0 0) (.agg (FU v))=some (H.set b (.live 4 [FU v])):=by
 rw [PK (cs:=FU v) rfl AMM hb (by rw [hr]; exact Nat.le_refl 4)]
 have:splice row 0 (FU v)=FU v:=by unfold splice; simp [AH7,hr]
 rw [this]
theorem stZ {H:Hp} {b:Nat} {row:List AV} (hb:H[b]? = some (.live 4 [row])) (hr:row.length=4):FX Tryz.prog H 28 (.ptr b 0 0) (.agg GH)=some (H.set b (.live 4 [GH])):=by
 rw [PK (cs:=GH) rfl AMM hb (by rw [hr]; exact Nat.le_refl 4)]
 have:splice row 0 GH=GH:=by unfold splice; simp [GH,hr]
 rw [this]
theorem stT {H:Hp} {b:Nat} {row:List AV} {t:Tk} (hb:H[b]? = some (.live 1 [row])) (hr:row.length=1):FX Tryz.prog H 47 (.ptr b 0 0) (.agg (JI t))=some (H.set b (.live 1 [JI t])):=by
 rw [PK (cs:=JI t) rfl AOP hb (by rw [hr]; exact Nat.le_refl 1)]
 have:splice row 0 (JI t)=JI t:=by unfold splice; rw [AH8,List.take_zero,List.drop_eq_nil_of_le (by omega)]; simp
 rw [this]
theorem AOV {H:Hp} {b:Nat} {row:List AV} (hb:H[b]? = some (.live 1 [row])) (hr:row.length=1):FX Tryz.prog H 47 (.ptr b 0 0) (.agg GK)=some (H.set b (.live 1 [GK])):=by
 rw [PK (cs:=GK) rfl AOP hb (by rw [hr]; exact Nat.le_refl 1)]
 have:splice row 0 GK=GK:=by unfold splice; rw [List.take_zero,List.drop_eq_nil_of_le (by rw [hr]; exact Nat.le_refl 1)]; simp
 rw [this]
theorem ldT {h:Hp} {b:Nat} {t:Tk} (hb:h[b]? = some (.live 1 [JI t])):D7 Tryz.prog h 47 (.ptr b 0 0)=some (.agg (JI t)):=by
 rw [JJ AZI AOP hb rfl (by rw [AH8]; exact Nat.le_refl 1)]; rfl
theorem LQ {h:Hp} {b:Nat} {row:List AV} (hb:h[b]? = some (.live 4 [row])) (hr:row.length=4):D7 Tryz.prog h 28 (.ptr b 0 0)=some (.agg row):=by
 rw [JJ AZJ AMM hb rfl (by rw [hr]; exact Nat.le_refl 4),List.drop_zero,List.take_of_length_le (by omega)]
theorem O9 {h:Hp} {b:Nat} {row:List AV} (hb:h[b]? = some (.live 1 [row])) (hr:row.length=1):D7 Tryz.prog h 47 (.ptr b 0 0)=some (.agg row):=by
 rw [JJ AZI AOP hb rfl (by rw [hr]; exact Nat.le_refl 1),List.drop_zero,List.take_of_length_le (by omega)]
theorem AM1 {ns:List Nat} (h : ∀ n∈ns,1≤n):1≤II ns:=ABN ns 0 h
theorem AFG {α:Type} {ok:α→Is→Bool} : ∀ {ws:List α} {xs:List Is},KE ok ws xs=true→∀ x∈xs,∃ a∈ws,ok a x=true
 | [],[],_,x,hx=>by cases hx
 | a :: ws,y :: xs,h,x,hx=>by
   simp only [KE,Bool.and_eq_true] at h
   rcases List.mem_cons.1 hx with rfl | hx
   ·exact ⟨a,by simp,h.1⟩
   ·obtain ⟨b,hb,hk⟩:=AFG h.2 x hx
    exact ⟨b,by simp [hb],hk⟩
 | [],_ :: _,h,_,_=>by cases h
 | _ :: _,[],h,_,_=>by cases h
theorem ASH {m:Mo} {v:Cvr} (h:MX m v=true):v.pts.length=m.pts.length∧v.crs.length=m.crs.length∧(∀ x∈v.pts,1≤x.l.length∧x.l.length≤64)∧(∀ x∈v.crs,1≤x.l.length∧x.l.length≤256):=by
 have hg:=PD (AB5 h)
 rw [Y0] at h
 obtain ⟨_,h2,h3,_,_⟩:=h
 refine ⟨(OA h2).symm,(OA h3).symm,fun x hx => ?_,fun x hx => ?_⟩
 ·obtain ⟨p,hp,hk⟩:=AFG h2 x hx
  have:=hg.full p hp
  rw [ASR hk]; exact this
 ·obtain ⟨c,hc,hk⟩:=AFG h3 x hx
  have hcg:=hg.crs c hc
  have hs:=hg.full.szs hcg.here
  rw [ASU hk]
  exact ⟨AM1 fun n hn=>(hs n hn).1,hcg.prod⟩
theorem Y8 {m:Mo} {v:Cvr} (h:MX m v=true):CvOk v:=by
 have hn:=(PD (AB5 h)).num
 obtain ⟨h1,h2,h3,h4⟩:=ASH h
 exact ⟨by omega,by omega,fun x hx=>by have:=h3 x hx; omega,fun x hx=>by have:=h4 x hx; omega⟩
theorem AP4 (a:Cvr):eqV a a=true:=ATV.2 rfl
theorem outG.setB {α:Type} {k:Nat} {f:α→List AV} {h H:Hp} {ys:List α} {v:AV} {b:Nat} (ho:outG k f h ys v H) (hb:b < h.length) (y:ABlk):outG k f h ys v (H.set b y) :=
 ho.keep fun b' hb'=>by
  have:=ho.lt hb'
  rw [List.getElem?_set_ne (by omega)]
theorem outG.keepA {α:Type} {k:Nat} {f:α→List AV} {h H H':Hp} {ys:List α} {v u:AV} (ho:outG k f h ys v H) (hk : ∀ b x,H[b]? = some x→¬ isB u b→H'[b]? = some x) (hd : ∀ b,isB v b→¬ isB u b):outG k f h ys v H':=by
 rcases ho with h1 | ⟨h1,o,h2,rfl,h3⟩
 ·exact .inl h1
 ·exact .inr ⟨h1,o,h2,rfl,hk _ _ h3 (hd o rfl)⟩
theorem outG.leaf {α:Type} {k:Nat} {f:α→List AV} {h H:Hp} {ys:List α} {v:AV} (ho:outG k f h ys v H):v.leaf=true:=by
 rcases ho with ⟨_,rfl⟩ | ⟨_,o,_,rfl,_⟩ <;> rfl
theorem outG.base {α:Type} {k:Nat} {f:α→List AV} {h h' H:Hp} {ys:List α} {v:AV} (ho:outG k f h ys v H) (hl:h'.length≤h.length):outG k f h' ys v H:=by
 rcases ho with h1 | ⟨h1,o,h2,rfl,h3⟩
 ·exact .inl h1
 ·exact .inr ⟨h1,o,Nat.le_trans hl h2,rfl,h3⟩
def I7 (v1 v2:AV):List AV := [v1,v2,.int .i64 0,.int .i64 0]
structure Em (h H:Hp) (m:Mo) (b2 b3 b4 b5:Nat) (v1 v2 v3:AV):Prop where
 gm:H[h.length]? = some (.live 2 [EH m])
 g2:H[b2]? = some (.live 4 [GH])
 g3:H[b3]? = some (.live 1 [GK])
 g4:H[b4]? = some (.live 4 [I7 v1 v2])
 g5:H[b5]? = some (.live 1 [[v3]])
 o2:h.length < b2
 o3:b2 < b3
 o4:b3 < b4
 o5:b4 < b5
 hx:ext h H
section
variable {h H:Hp} {m:Mo} {b2 b3 b4 b5:Nat} {v1 v2 v3:AV} (E:Em h H m b2 b3 b4 b5 v1 v2 v3)
include E
theorem Em.m0:D7 Tryz.prog H 22 (.ptr h.length 0 0)=some (.sl m.pm 6 (m.pts.map FH)):=by rw [DL TQ E.gm (row:=EH m) rfl,OC]
theorem Em.m1:D7 Tryz.prog H 23 (.ptr h.length 0 1)=some (.sl m.cm 3 (m.crs.map F9)):=by rw [DL ACS E.gm (row:=EH m) rfl,U7]
theorem Em.l4:D7 Tryz.prog H 26 (.ptr b4 0 0)=some v1:=by rw [DL OM E.g4 (row:=I7 v1 v2) rfl]; rfl
theorem Em.l4':D7 Tryz.prog H 26 (.ptr b4 0 1)=some v2:=by rw [DL OM E.g4 (row:=I7 v1 v2) rfl]; rfl
theorem Em.l5:D7 Tryz.prog H 26 (.ptr b5 0 0)=some v3:=by rw [DL OM E.g5 (row := [v3]) rfl]; rfl
theorem Em.app (x:Hp):Em h (H ++ x) m b2 b3 b4 b5 v1 v2 v3:=⟨GI E.gm,GI E.g2,GI E.g3,GI E.g4,GI E.g5,E.o2,E.o3,E.o4,E.o5,E.hx.app _⟩
theorem Em.keep {H':Hp} {u:AV} (hk : ∀ b x,H[b]? = some x→¬ isB u b→H'[b]? = some x) (hu : ∀ b,isB u b→b5 < b) (hx:ext h H→ext h H'):Em h H' m b2 b3 b4 b5 v1 v2 v3:=by
 have o2:=E.o2; have o3:=E.o3; have o4:=E.o4; have o5:=E.o5
 exact ⟨hk _ _ E.gm (fun e=>by have:=hu _ e; omega),hk _ _ E.g2 (fun e=>by have:=hu _ e; omega),hk _ _ E.g3 (fun e=>by have:=hu _ e; omega),hk _ _ E.g4 (fun e=>by have:=hu _ e; omega),hk _ _ E.g5 (fun e=>by have:=hu _ e; omega),o2,o3,o4,o5,hx E.hx⟩
theorem Em.set4 (w1 w2:AV):Em h (H.set b4 (.live 4 [I7 w1 w2])) m b2 b3 b4 b5 w1 w2 v3:=by
 have o2:=E.o2; have o3:=E.o3; have o4:=E.o4; have o5:=E.o5
 exact ⟨DK E.gm (by omega),DK E.g2 (by omega),DK E.g3 (by omega),ET E.g4,DK E.g5 (by omega),o2,o3,o4,o5,E.hx.set (by omega) _⟩
theorem Em.set5 (w3:AV):Em h (H.set b5 (.live 1 [[w3]])) m b2 b3 b4 b5 v1 v2 w3:=by
 have o2:=E.o2; have o3:=E.o3; have o4:=E.o4; have o5:=E.o5
 exact ⟨DK E.gm (by omega),DK E.g2 (by omega),DK E.g3 (by omega),DK E.g4 (by omega),ET E.g5,o2,o3,o4,o5,E.hx.set (by omega) _⟩
theorem Em.s4 {o l:Nat}:FX Tryz.prog H 26 (.ptr b4 0 0) (.own o 0 l)=some (H.set b4 (.live 4 [I7 (.own o 0 l) v2])):=PK (row:=I7 v1 v2) (ZJ _ _ _) AMN E.g4 (by simp [I7])
theorem Em.s4' {o l:Nat}:FX Tryz.prog H 26 (.ptr b4 0 1) (.own o 0 l)=some (H.set b4 (.live 4 [I7 v1 (.own o 0 l)])):=PK (row:=I7 v1 v2) (ZJ _ _ _) AMN E.g4 (by simp [I7])
theorem Em.s5 {o l:Nat}:FX Tryz.prog H 26 (.ptr b5 0 0) (.own o 0 l)=some (H.set b5 (.live 1 [[.own o 0 l]])):=PK (row := [v3]) (ZJ _ _ _) AMN E.g5 (by simp)
theorem Em.lt:b5 < H.length:=CU E.g5
end
theorem Em.mk' (h:Hp) (m:Mo):Em h (h ++ [ABlk.live 2 [EH m]] ++ [ABlk.live 4 [GH]] ++ [ABlk.live 1 [GK]] ++ [ABlk.live 4 [GH]] ++ [ABlk.live 1 [GK]]) m (h ++ [ABlk.live 2 [EH m]]).length (h ++ [ABlk.live 2 [EH m]] ++ [ABlk.live 4 [GH]]).length
  (h ++ [ABlk.live 2 [EH m]] ++ [ABlk.live 4 [GH]] ++ [ABlk.live 1 [GK]]).length (h ++ [ABlk.live 2 [EH m]] ++ [ABlk.live 4 [GH]] ++ [ABlk.live 1 [GK]] ++ [ABlk.live 4 [GH]]).length (.sl .nil 0 []) (.sl .nil 0 []) (.sl .nil 0 []) :=
 ⟨CW (CW (CW (CW (CZ _ _)))),CW (CW (CW (CZ _ _))),CW (CW (CZ _ _)),CW (CZ _ _),CZ _ _,by simp,by simp,by simp,by simp,((((ext.rfl' h).app _).app _).app _).app _ |>.app _⟩
theorem AU6 (h:Hp):FN Tryz.prog false h 26 1 [(0,.sl .nil 0 [])]=some (.sl .full 1 [GK],h):=by kernel_rfl
theorem AGD (m:Mo) (i:Nat) (hi:i < m.pts.length):(zPs m).take (i+1)=(zPs m).take i ++ [zIs m.pts[i].bins.length]:=by
 have hl:i < (zPs m).length:=by unfold zPs; simpa using hi
 rw [List.take_succ_eq_append_getElem hl]; simp [zPs]
theorem AGE (m:Mo) (i:Nat) (hi:i < m.crs.length):(zCs m).take (i+1)=(zCs m).take i ++ [zIs (II (szs m m.crs[i].pts))]:=by
 have hl:i < (zCs m).length:=by unfold zCs; simpa using hi
 rw [List.take_succ_eq_append_getElem hl]; simp [zCs]
theorem AAM (m:Mo):(zPs m).length=m.pts.length:=by simp [zPs]
theorem AAN (m:Mo):(zCs m).length=m.crs.length:=by simp [zCs]
theorem AJ1 {E:Env} {f:FuncId} {args:List AV} {h:Hp} {m:Mo} (hc:ACalls E f args h fun v H=>ext h H∧∃ v1 v2 v3,v = .tup [.agg (I7 v1 v2),.agg [v3]]∧outG 1 encL h (zPs m) v1 H∧outG 1 encL h (zCs m) v2 H∧outG 1 (fun _:Pt=>GK) h m.pts v3 H) :
  PCall E f args h (.tup [.agg (FU (TM m)),.agg (JI ⟨nm (zLs m),zLs m⟩)]):=by
 have hp:PCall E f args h (.tup [.agg (I7 (fzG 1 encL (zPs m)) (fzG 1 encL (zCs m))),.agg [fzG 1 (fun _:Pt=>GK) m.pts]]):=by
  refine ACalls.pure 4 hc ?_
  rintro v H ⟨he,v1,v2,v3,rfl,o1,o2,o3⟩
  refine ⟨he,?_⟩
  have e1:=SG ATM o1 h.length 0 (Nat.le_refl _)
  have e2:=SG ATM o2 h.length 0 (Nat.le_refl _)
  have e3:=SG AWC o3 h.length 0 (Nat.le_refl _)
  show AV.tup [.agg [I5 h.length H 2 v1,I5 h.length H 2 v2,.int .i64 0,.int .i64 0],.agg [I5 h.length H 2 v3]]=_
  rw [e1,e2,e3]; rfl
 refine hp.res (CvR.tup (CvRL.cons (CvR.agg (CvRL.cons TJ (CvRL.cons TJ (CvRL.refl _)))) (CvRL.cons (CvR.agg (CvRL.cons ?_ CvRL.nil)) CvRL.nil)))
 have h1:CvR (fzG 1 (fun _:Pt=>GK) m.pts) (.sl (nm m.pts) 1 (m.pts.map fun _=>GK)):=TJ
 have h2:=CvR.sl (ALK (s:=nm m.pts) m.pts)
 have h3:nm (zLs m)=nm m.pts:=by unfold zLs; cases m.pts <;> rfl
 intro g cv hr
 have:=h2 g cv (h1 g cv hr)
 rw [h3]; exact this
theorem AGQ {H:Hp} {b:Nat} {row:List AV} {v1 v2:AV} (hb:H[b]? = some (.live 4 [row])) (hr:row.length=4) (h1:v1.leaf=true) (h2:v2.leaf=true):FX Tryz.prog H 28 (.ptr b 0 0) (.agg (I7 v1 v2))=some (H.set b (.live 4 [I7 v1 v2])):=by
 rw [PK (cs:=I7 v1 v2) (VE (by simp [I7,h1,h2]; rfl)) AMM hb (by rw [hr]; exact Nat.le_refl 4)]
 have:splice row 0 (I7 v1 v2)=I7 v1 v2:=by unfold splice; rw [List.take_zero,List.drop_eq_nil_of_le (by rw [hr]; exact Nat.le_refl 4)]; simp
 rw [this]
theorem AGP {H:Hp} {b:Nat} {row:List AV} {v3:AV} (hb:H[b]? = some (.live 1 [row])) (hr:row.length=1) (h3:v3.leaf=true):FX Tryz.prog H 47 (.ptr b 0 0) (.agg [v3])=some (H.set b (.live 1 [[v3]])):=by
 rw [PK (cs := [v3]) (VE (by simp [h3])) AOP hb (by rw [hr]; exact Nat.le_refl 1)]
 have:splice row 0 [v3] = [v3]:=by unfold splice; rw [List.take_zero,List.drop_eq_nil_of_le (by rw [hr]; exact Nat.le_refl 1)]; simp
 rw [this]
set_option maxHeartbeats 2000000 in
theorem AJ2 (G:Nat→AV) (m:Mo) (hm:MoOk m) (hg:Good m) (h:Hp):PCall (En G) 127 [.agg (EH m)] h (.tup [.agg (FU (TM m)),.agg (JI ⟨nm (zLs m),zLs m⟩)]):=by
 refine AJ1 ?_
 have hm1:=hm.np
 have hm2:=hm.nc
 have hnum:=hg.num
 refine CE (H:=hint [24,47] []) (enM G) Tryz.func127 rfl (by kernel_rfl) (by kernel_rfl) (nLb (by kernel_rfl)) ?_
 show awp _ _ _ _ _ (EJ _ [.cell 2 28,.cell 3 47] _)
 have E:=Em.mk' h m
 simp -implicitDefEqProofs only [CX,List.contains_cons,List.contains_nil,Nat.reduceBEq,Bool.or_false,BC,BA,A8,AY,BB,AL,BD,AX,AC,AA,AZ,FY,FV,BV,BK,CB,AB,BF,↓reduceIte,Nat.reduceEqDiff,Nat.add_zero,oGs,bNf,enP,IC,ED,bxM,OO,ZH]
 generalize h ++ [ABlk.live 2 [EH m]] ++ [ABlk.live 4 [GH]] ++ [ABlk.live 1 [GK]] ++ [ABlk.live 4 [GH]] ++ [ABlk.live 1 [GK]]=H0 at E ⊢
 generalize (h ++ [ABlk.live 2 [EH m]] ++ [ABlk.live 4 [GH]] ++ [ABlk.live 1 [GK]] ++ [ABlk.live 4 [GH]]).length=b5 at E ⊢
 generalize (h ++ [ABlk.live 2 [EH m]] ++ [ABlk.live 4 [GH]] ++ [ABlk.live 1 [GK]]).length=b4 at E ⊢
 generalize (h ++ [ABlk.live 2 [EH m]] ++ [ABlk.live 4 [GH]]).length=b3 at E ⊢
 generalize (h ++ [ABlk.live 2 [EH m]]).length=b2 at E ⊢
 have o2:=E.o2; have o3:=E.o3; have o4:=E.o4; have o5:=E.o5
 have hlt0:=E.lt
 simp -implicitDefEqProofs only [CX,List.contains_cons,List.contains_nil,Nat.reduceBEq,Bool.or_false,BR,A8,AY,BB,AL,BD,AX,AC,AA,AZ,AU,BH,BG,DZ,AB,↓reduceIte,oGs,bNf,enP,PM,ED,E.m0,lLm]
 refine GV 0 (fun F H => ∃ v1 v3,F 1 = .ptr h.length 0 0∧F 2 = .ptr b2 0 0∧F 3 = .ptr b3 0 0∧F 4 = .ptr b4 0 0∧F 5 = .ptr b5 0 0∧Em h H m b2 b3 b4 b5 v1 (.sl .nil 0 []) v3∧outG 1 encL H0 (zPs m) v1 H∧outG 1 (fun _:Pt=>GK) H0 m.pts v3 H∧(∀ b,isB v1 b→¬ isB v3 b)∧H0.length≤H.length) (fun _ _=>False) ?_ ?_ (fun _ _ hh=>hh.elim)
 ·refine DT (fun n F H => ∃ i v1 v3,n+i=m.pts.length∧F 1 = .ptr h.length 0 0∧F 2 = .ptr b2 0 0∧F 3 = .ptr b3 0 0∧F 4 = .ptr b4 0 0∧F 5 = .ptr b5 0 0∧F 11 = .sl m.pm 6 (m.pts.map FH)∧F 12 = .int .i64 m.pts.length∧F 13 = .int .i64 (i:Nat)∧Em h H m b2 b3 b4 b5 v1 (.sl .nil 0 []) v3∧outG 1 encL H0 ((zPs m).take i) v1 H∧outG 1 (fun _:Pt=>GK) H0 (m.pts.take i) v3 H∧(∀ b,isB v1 b→¬ isB v3 b)∧H0.length≤H.length) m.pts.length
   ⟨0,_,_,by simp,by simp -implicitDefEqProofs only [AA,↓reduceIte,Nat.reduceEqDiff],by simp -implicitDefEqProofs only [AA,↓reduceIte,Nat.reduceEqDiff],by simp -implicitDefEqProofs only [AA,↓reduceIte,Nat.reduceEqDiff],by simp -implicitDefEqProofs only [AA,↓reduceIte,Nat.reduceEqDiff],by simp -implicitDefEqProofs only [AA,↓reduceIte,Nat.reduceEqDiff],by simp -implicitDefEqProofs only [AA,↓reduceIte,Nat.reduceEqDiff],by simp -implicitDefEqProofs only [AA,↓reduceIte,Nat.reduceEqDiff],by simp -implicitDefEqProofs only [AA,↓reduceIte]; rfl,E,by rw [List.take_zero]; exact outG.nil _ _ _ _,by rw [List.take_zero]; exact outG.nil _ _ _ _,fun b hb=>hb.elim,Nat.le_refl _⟩ ?_
  clear E
  rintro n F H ⟨i,v1,v3,hi,f1,f2,f3,f4,f5,f11,f12,f13,E,ho1,ho3,hdis,hle⟩
  simp -implicitDefEqProofs only [CX,List.contains_cons,List.contains_nil,Nat.reduceBEq,Bool.or_false,BC,BA,BI,A8,AY,BB,AL,BD,AX,AC,AA,AZ,BQ,AB,DC,↓reduceIte,oGs,bNf,enP,ED,f12,f13]
  refine CV (fun hc => ?_) (fun hc => ?_)
  ·have hi':i < m.pts.length:=by simpa using hc
   have h64:=(hg.full _ (List.getElem_mem hi')).2
   have hP:=AGD m i hi'
   simp -implicitDefEqProofs only [CX,List.contains_cons,List.contains_nil,Nat.reduceBEq,Bool.or_false,BC,BR,BA,BO,A8,AY,BB,AL,BD,AX,AC,FC,AA,AZ,FY,BV,ER,CG,CB,AB,DX,↓reduceIte,Nat.reduceEqDiff,oGs,bNf,enP,OJ,ED,Option.getD_none,f11,f13,D6 hi',FP YG UF IW hi',AKJ,AI6 _ _ [.str ⟨#[]⟩,.int .i64 0,.int .i64 0,.str ⟨#[]⟩,.sl .nil 0 [],.sl .nil 0 []] rfl]
   have E1:=E.app [.live 6 [FH m.pts[i]]]
   obtain ⟨v1',H2,hap,ho1',hk1,hl2,hn1,⟨o,l,rfl⟩,hx2⟩:=(ho1.app [.live 6 [FH m.pts[i]]]).app2 AC2 XM AGB ADF (by omega) (by rw [List.length_take,AAM]; omega) (by simp; omega) (zIs m.pts[i].bins.length)
   rw [← hP] at ho1'
   have E2:=E1.keep hk1 (fun b hb=>by have:=ho1.lt hb; omega) (hx2 h (by omega))
   have E3:=E2.set4 (.own o 0 l) (.sl .nil 0 [])
   have ho3':=((ho3.app [.live 6 [FH m.pts[i]]]).keepA hk1 (fun b hb h1=>hdis b h1 hb)).setB (b:=b4) (by omega) (.live 4 [I7 (.own o 0 l) (.sl .nil 0 [])])
   have ho1'':=ho1'.setB (b:=b4) (by omega) (.live 4 [I7 (.own o 0 l) (.sl .nil 0 [])])
   have hdis' : ∀ b,isB (.own o 0 l) b→¬ isB v3 b:=fun b hb h3=>by
    have h1:=hn1 b hb
    have h2:=ho3.lt h3
    simp at h1; omega
   refine FB (by kernel_rfl) ?_
   simp -implicitDefEqProofs only [F8,FZ,F6,CX,List.contains_cons,List.contains_nil,Nat.reduceBEq,Bool.or_false,EC,DW,EF,J7,FD,MH,EI,IM,AA,AZ,EQ,BV,JG,BK,DZ,IQ,CB,AB,↓reduceIte,Nat.reduceEqDiff,Nat.reduceAdd,Nat.add_zero,Nat.zero_add,oGs,enP,MC,OV,H9,f4,E1.l4,DI O5,LH,lLm,mkF _ _ (show m.pts[i].bins.length≤1048576 by omega),AMC]
   refine JR (v := .own o 0 l) (h:=H2) hap ?_
   simp -implicitDefEqProofs only [F8,CX,List.contains_cons,List.contains_nil,Nat.reduceBEq,Bool.or_false,EC,DW,LU,FK,EF,LM,EI,BA,A8,AY,AL,BD,AX,AC,AA,AZ,BV,ER,BK,AB,DX,↓reduceIte,Nat.reduceEqDiff,Nat.reduceAdd,Nat.add_zero,Nat.zero_add,oGs,bNf,enP,MC,O3,ED,Option.getD_none,f4,f5,E2.s4]
   have hl3:(H2.set b4 (.live 4 [I7 (.own o 0 l) (.sl .nil 0 [])])).length=H.length+2:=by rw [List.length_set,hl2,List.length_append]; rfl
   generalize H2.set b4 (.live 4 [I7 (.own o 0 l) (.sl .nil 0 [])])=H3 at E3 ho3' ho1'' hl3 ⊢
   obtain ⟨v3',H4,hap3,ho3'',hk3,hl4,hn3,⟨o3',l3,rfl⟩,hx4⟩:=ho3'.app2 AC2 XM AGB ADF (by omega) (by rw [List.length_take]; omega) (by omega) m.pts[i]
   rw [← List.take_succ_eq_append_getElem hi'] at ho3''
   have E4:=E3.keep hk3 (fun b hb=>by have:=ho3'.lt hb; omega) (hx4 h (by omega))
   have E5:=E4.set5 (.own o3' 0 l3)
   have ho1f:=(ho1''.keepA hk3 hdis').setB (b:=b5) (by omega) (.live 1 [[.own o3' 0 l3]])
   have ho3f:=ho3''.setB (b:=b5) (by omega) (.live 1 [[.own o3' 0 l3]])
   simp -implicitDefEqProofs only [FZ,F6,CX,List.contains_cons,List.contains_nil,Nat.reduceBEq,Bool.or_false,AY,AL,BD,AX,AC,AA,AZ,AU,JE,EQ,IQ,CB,AB,↓reduceIte,Nat.reduceEqDiff,oGs,bNf,enP,ED,E3.l5,AU6]
   refine JR (v := .own o3' 0 l3) (h:=H4) hap3 ?_
   simp -implicitDefEqProofs only [CX,List.contains_cons,List.contains_nil,Nat.reduceBEq,Bool.or_false,BA,A8,EE,EN,AY,BB,AL,BD,AX,AC,FC,AA,AZ,AU,BH,BG,ER,BQ,BK,AB,DX,DF,↓reduceIte,Nat.reduceEqDiff,Nat.add_zero,oGs,bNf,enP,O3,ED,Option.getD_none,f5,E4.s5,f13,wrap_succ (show i < 9223372036854775807 by omega)]
   refine ⟨n - 1,by omega,i+1,.own o 0 l,.own o3' 0 l3,by omega,f1,f2,f3,f4,trivial,f11,f12,rfl,E5,ho1f,ho3f,fun b hb h3 => ?_,?_⟩
   ·have h1:=hn1 b hb
    have h2:=hn3 b h3
    rw [List.length_append] at h1
    simp at h1; omega
   ·rw [List.length_set]; omega
  ·have hi' : ¬ i < m.pts.length:=by simpa using hc
   rw [List.take_of_length_le (by rw [AAM]; omega)] at ho1
   rw [List.take_of_length_le (by omega)] at ho3
   simp -implicitDefEqProofs only [DJ,D9,J4,EW,AA,↓reduceIte,Nat.reduceEqDiff]
   exact ⟨v1,v3,f1,f2,f3,f4,f5,E,ho1,ho3,hdis,hle⟩
 ·rintro F H ⟨v1,v3,f1,f2,f3,f4,f5,E,ho1,ho3,hdis,hle⟩
  simp -implicitDefEqProofs only [CX,List.contains_cons,List.contains_nil,Nat.reduceBEq,Bool.or_false,BC,BR,BA,A8,EX,AY,BB,AL,BD,AX,AC,AA,AZ,AU,BH,BG,BV,BK,DZ,AB,↓reduceIte,Nat.zero_add,oGs,bNf,enP,UA,JW,ED,f1,E.m1,lLm]
  refine GV 2 (fun F H => ∃ v2,F 2 = .ptr b2 0 0∧F 3 = .ptr b3 0 0∧F 4 = .ptr b4 0 0∧F 5 = .ptr b5 0 0∧Em h H m b2 b3 b4 b5 v1 v2 v3∧outG 1 encL H0 (zPs m) v1 H∧outG 1 encL H0 (zCs m) v2 H∧outG 1 (fun _:Pt=>GK) H0 m.pts v3 H) (fun _ _=>False) ?_ ?_ (fun _ _ hh=>hh.elim)
  ·refine DT (fun n F H => ∃ i v2,n+i=m.crs.length∧F 1 = .ptr h.length 0 0∧F 2 = .ptr b2 0 0∧F 3 = .ptr b3 0 0∧F 4 = .ptr b4 0 0∧F 5 = .ptr b5 0 0∧F 33 = .sl m.cm 3 (m.crs.map F9)∧F 34 = .int .i64 m.crs.length∧F 35 = .int .i64 (i:Nat)∧Em h H m b2 b3 b4 b5 v1 v2 v3∧outG 1 encL H0 (zPs m) v1 H∧outG 1 encL H0 ((zCs m).take i) v2 H∧outG 1 (fun _:Pt=>GK) H0 m.pts v3 H∧(∀ b,isB v2 b→¬ isB v1 b∧¬ isB v3 b)∧H0.length≤H.length) m.crs.length
    ⟨0,_,by simp,by simp -implicitDefEqProofs only [AA,↓reduceIte,Nat.reduceEqDiff,f1],by simp -implicitDefEqProofs only [AA,↓reduceIte,Nat.reduceEqDiff,f2],by simp -implicitDefEqProofs only [AA,↓reduceIte,Nat.reduceEqDiff,f3],by simp -implicitDefEqProofs only [AA,↓reduceIte,Nat.reduceEqDiff,f4],by simp -implicitDefEqProofs only [AA,↓reduceIte,Nat.reduceEqDiff,f5],by simp -implicitDefEqProofs only [AA,↓reduceIte,Nat.reduceEqDiff],by simp -implicitDefEqProofs only [AA,↓reduceIte,Nat.reduceEqDiff],by simp -implicitDefEqProofs only [AA,↓reduceIte]; rfl,E,ho1,by rw [List.take_zero]; exact outG.nil _ _ _ _,ho3,fun b hb=>hb.elim,hle⟩ ?_
   clear f1 f2 f3 f4 f5 E ho1 ho3 hle
   rintro n F H ⟨i,v2,hi,f1,f2,f3,f4,f5,f33,f34,f35,E,ho1,ho2,ho3,hd2,hle⟩
   simp -implicitDefEqProofs only [CX,List.contains_cons,List.contains_nil,Nat.reduceBEq,Bool.or_false,BC,BA,BI,A8,AY,BB,AL,BD,AX,AC,AA,AZ,BQ,AB,DC,↓reduceIte,oGs,bNf,enP,ED,f34,f35]
   refine CV (fun hc => ?_) (fun hc => ?_)
   ·have hi':i < m.crs.length:=by simpa using hc
    have hcg:=hg.crs _ (List.getElem_mem hi')
    have hfs:=hg.full.szs hcg.here
    have hsl:=NF m m.crs[i].pts
    have hfour:=hcg.four
    have hpr:=hcg.prod
    have hC:=AGE m i hi'
    have E1:=E.app [.live 3 [F9 m.crs[i]]]
    have gc1:=CZ H (.live 3 [F9 m.crs[i]])
    obtain ⟨v2',H2,hap,ho2',hk2,hl2,hn2,⟨o,l,rfl⟩,hx2⟩:=(ho2.app [.live 3 [F9 m.crs[i]]]).app2 AC2 XM AGB ADF (by omega) (by rw [List.length_take,AAN]; omega) (by simp; omega) (zIs (II (szs m m.crs[i].pts)))
    rw [← hC] at ho2'
    have E2:=E1.keep hk2 (fun b hb=>by have:=ho2.lt hb; omega) (hx2 h (by omega))
    have E3:=E2.set4 v1 (.own o 0 l)
    have ho1':=((ho1.app [.live 3 [F9 m.crs[i]]]).keepA hk2 (fun b hb h2=>(hd2 b h2).1 hb)).setB (b:=b4) (by omega) (.live 4 [I7 v1 (.own o 0 l)])
    have ho3':=((ho3.app [.live 3 [F9 m.crs[i]]]).keepA hk2 (fun b hb h2=>(hd2 b h2).2 hb)).setB (b:=b4) (by omega) (.live 4 [I7 v1 (.own o 0 l)])
    have ho2'':=ho2'.setB (b:=b4) (by omega) (.live 4 [I7 v1 (.own o 0 l)])
    simp -implicitDefEqProofs only [CX,List.contains_cons,List.contains_nil,Nat.reduceBEq,Bool.or_false,BC,BR,BA,BO,A8,AY,BB,AL,BD,AX,AC,FC,AA,AZ,FY,BV,ER,CG,CB,AB,DX,↓reduceIte,Nat.reduceEqDiff,oGs,bNf,enP,XV,ED,Option.getD_none,f33,f35,D6 hi',FP ZI WH JY hi',AN4,AMO _ _ [.str ⟨#[]⟩,.sl .nil 0 [],.sl .nil 0 []] rfl]
    refine FB (by kernel_rfl) ?_
    simp -implicitDefEqProofs only [F8,CX,List.contains_cons,List.contains_nil,Nat.reduceBEq,Bool.or_false,EC,DW,EF,FD,MH,EI,GL,FW,AA,AZ,BX,BV,JG,BK,AB,lMc,lMn,lAn,↓reduceIte,Nat.reduceEqDiff,Nat.reduceAdd,Nat.zero_add,oGs,enP,MN,f1,f4,E1.l4',ldM E1.gm,ldC gc1]
    refine ⟨_,QG G m _ _ hcg.here (by omega),?_⟩
    try simp -implicitDefEqProofs only []
    refine ⟨_,P7 G _ _ _ (fun n hn=>(hfs n hn).2) (by omega),?_⟩
    try simp -implicitDefEqProofs only [F8,FZ,F6,CX,List.contains_cons,List.contains_nil,Nat.reduceBEq,Bool.or_false,Bool.or_true,EC,DW,EF,J7,IM,AA,AZ,EQ,IQ,CB,↓reduceIte,Nat.reduceEqDiff,Nat.reduceAdd,oGs,enP,mkF _ _ (show II (szs m m.crs[i].pts)≤1048576 by omega),AMC]
    refine JR (v := .own o 0 l) (h:=H2) hap ?_
    simp -implicitDefEqProofs only [F8,CX,List.contains_cons,List.contains_nil,Nat.reduceBEq,Bool.or_false,EC,DW,LU,FK,EF,LM,EI,BA,A8,EE,EN,AY,BB,AL,BD,AX,AC,AA,AZ,AU,BH,BG,ER,BQ,BK,AB,DX,DF,↓reduceIte,Nat.reduceEqDiff,Nat.reduceAdd,Nat.zero_add,oGs,bNf,enP,MN,ED,Option.getD_none,f4,E2.s4',f35,wrap_succ (show i < 9223372036854775807 by omega)]
    refine ⟨n - 1,by omega,i+1,.own o 0 l,by omega,f1,f2,f3,trivial,f5,f33,f34,rfl,E3,ho1',ho2'',ho3',fun b hb=>⟨fun h1 => ?_,fun h3 => ?_⟩,?_⟩
    ·have h0:=hn2 b hb
     have h2:=ho1.lt h1
     rw [List.length_append] at h0
     simp at h0; omega
    ·have h0:=hn2 b hb
     have h2:=ho3.lt h3
     rw [List.length_append] at h0
     simp at h0; omega
    ·rw [List.length_set,hl2,List.length_append]; simp; omega
   ·have hi' : ¬ i < m.crs.length:=by simpa using hc
    rw [List.take_of_length_le (by rw [AAN]; omega)] at ho2
    simp -implicitDefEqProofs only [DJ,D9,J4,EW,AA,↓reduceIte,Nat.reduceEqDiff]
    exact ⟨v2,f2,f3,f4,f5,E,ho1,ho2,ho3⟩
  ·rintro F' H' ⟨v2,g2,g3,g4,g5,E',q1,q2,q3⟩
   simp -implicitDefEqProofs only [BC,A8,EX,↓reduceIte]
   have p2:=E'.o2; have p3:=E'.o3; have p4:=E'.o4; have p5:=E'.o5
   refine SN [(5,2)] (by kernel_rfl) ?_ ?_
   ·simp -implicitDefEqProofs only [g2,g5,SV,VG,UK,and_true]
    omega
   simp -implicitDefEqProofs only [F8,CX,List.contains_cons,List.contains_nil,Nat.reduceBEq,Bool.or_false,EC,DW,LU,FK,EF,FD,LM,BL,A8,AA,AZ,BV,ER,AB,DX,↓reduceIte,Nat.reduceEqDiff,Nat.reduceAdd,Nat.zero_add,oGs,enP,Option.getD_none,g2,g3,g4,g5,LQ E'.g4 rfl,O9 E'.g5 rfl,AGQ E'.g2 rfl q1.leaf q2.leaf,AGP (DK E'.g3 (show b3≠b2 by omega)) rfl q3.leaf]
   rw [AP7 (ba:=b2) (bb:=b3) (by simp -implicitDefEqProofs only [AA,↓reduceIte,Nat.reduceEqDiff,g2]) (by simp -implicitDefEqProofs only [AA,↓reduceIte,Nat.reduceEqDiff,g3]) (LQ (DK (ET E'.g2) (show b2≠b3 by omega)) rfl) (O9 (ET (DK E'.g3 (show b3≠b2 by omega))) rfl)]
   have hs1 : ∀ {α:Type} {f:α→List AV} {ys:List α} {v:AV},outG 1 f H0 ys v H'→outG 1 f h ys v ((H'.set b2 (.live 4 [I7 v1 v2])).set b3 (.live 1 [[v3]])):=fun q=>((q.setB (b:=b2) (by omega) _).setB (b:=b3) (by omega) _).base (by omega)
   exact ⟨(E'.hx.set (by omega) _).set (by omega) _,v1,v2,v3,rfl,hs1 q1,hs1 q2,hs1 q3⟩
structure Er (h H:Hp) (m:Mo) (b2 b3:Nat) (v1 v2:AV):Prop where
 gm:H[h.length]? = some (.live 2 [EH m])
 g2:H[b2]? = some (.live 4 [GH])
 g3:H[b3]? = some (.live 4 [I7 v1 v2])
 o2:h.length < b2
 o3:b2 < b3
 hx:ext h H
section
variable {h H:Hp} {m:Mo} {b2 b3:Nat} {v1 v2:AV} (E:Er h H m b2 b3 v1 v2)
include E
theorem Er.m0:D7 Tryz.prog H 22 (.ptr h.length 0 0)=some (.sl m.pm 6 (m.pts.map FH)):=by rw [DL TQ E.gm (row:=EH m) rfl,OC]
theorem Er.m1:D7 Tryz.prog H 23 (.ptr h.length 0 1)=some (.sl m.cm 3 (m.crs.map F9)):=by rw [DL ACS E.gm (row:=EH m) rfl,U7]
theorem Er.l3:D7 Tryz.prog H 26 (.ptr b3 0 0)=some v1:=by rw [DL OM E.g3 (row:=I7 v1 v2) rfl]; rfl
theorem Er.l3':D7 Tryz.prog H 26 (.ptr b3 0 1)=some v2:=by rw [DL OM E.g3 (row:=I7 v1 v2) rfl]; rfl
theorem Er.keep {H':Hp} {u:AV} (hk : ∀ b x,H[b]? = some x→¬ isB u b→H'[b]? = some x) (hu : ∀ b,isB u b→b3 < b) (hx:ext h H→ext h H'):Er h H' m b2 b3 v1 v2:=by
 have o2:=E.o2; have o3:=E.o3
 exact ⟨hk _ _ E.gm (fun e=>by have:=hu _ e; omega),hk _ _ E.g2 (fun e=>by have:=hu _ e; omega),hk _ _ E.g3 (fun e=>by have:=hu _ e; omega),o2,o3,hx E.hx⟩
theorem Er.set3 (w1 w2:AV):Er h (H.set b3 (.live 4 [I7 w1 w2])) m b2 b3 w1 w2:=by
 have o2:=E.o2; have o3:=E.o3
 exact ⟨DK E.gm (by omega),DK E.g2 (by omega),ET E.g3,o2,o3,E.hx.set (by omega) _⟩
theorem Er.s3 {o l:Nat}:FX Tryz.prog H 26 (.ptr b3 0 0) (.own o 0 l)=some (H.set b3 (.live 4 [I7 (.own o 0 l) v2])):=PK (row:=I7 v1 v2) (ZJ _ _ _) AMN E.g3 (by simp [I7])
theorem Er.s3' {o l:Nat}:FX Tryz.prog H 26 (.ptr b3 0 1) (.own o 0 l)=some (H.set b3 (.live 4 [I7 v1 (.own o 0 l)])):=PK (row:=I7 v1 v2) (ZJ _ _ _) AMN E.g3 (by simp [I7])
theorem Er.lt:b3 < H.length:=CU E.g3
end
theorem Er.mk' (h:Hp) (m:Mo):Er h (h ++ [ABlk.live 2 [EH m]] ++ [ABlk.live 4 [GH]] ++ [ABlk.live 4 [GH]]) m (h ++ [ABlk.live 2 [EH m]]).length (h ++ [ABlk.live 2 [EH m]] ++ [ABlk.live 4 [GH]]).length (.sl .nil 0 []) (.sl .nil 0 []) :=
 ⟨CW (CW (CZ _ _)),CW (CZ _ _),CZ _ _,by simp,by simp,(((ext.rfl' h).app _).app _).app _⟩
theorem AVL (h:Hp):FX Tryz.prog (h ++ [.live 4 [GH]]) 28 (.ptr h.length 0 0) (.agg GH)=some (h ++ [.live 4 [GH]]):=by rw [stZ (CZ _ _) rfl,VJ]
theorem AIB {E:Env} {f:FuncId} {args:List AV} {h:Hp} {m:Mo} (hc:ACalls E f args h fun v H=>ext h H∧∃ v1 v2,v = .agg (I7 v1 v2)∧outG 1 encL h (zPs m) v1 H∧outG 1 encL h (zCs m) v2 H) :
  PCall E f args h (.agg (FU (TM m))):=by
 have hp:PCall E f args h (.agg (I7 (fzG 1 encL (zPs m)) (fzG 1 encL (zCs m)))):=by
  refine ACalls.pure 3 hc ?_
  rintro v H ⟨he,v1,v2,rfl,o1,o2⟩
  refine ⟨he,?_⟩
  have e1:=SG ATM o1 h.length 0 (Nat.le_refl _)
  have e2:=SG ATM o2 h.length 0 (Nat.le_refl _)
  show AV.agg [I5 h.length H 2 v1,I5 h.length H 2 v2,.int .i64 0,.int .i64 0]=_
  rw [e1,e2]; rfl
 exact hp.res (CvR.agg (CvRL.cons TJ (CvRL.cons TJ (CvRL.refl _))))
set_option maxHeartbeats 2000000 in
theorem ANM (G:Nat→AV) (m:Mo) (hm:MoOk m) (hg:Good m) (h:Hp):PCall (En G) 92 [.agg (EH m)] h (.agg (FU (TM m))):=by
 refine AIB ?_
 have hm1:=hm.np
 have hm2:=hm.nc
 have hnum:=hg.num
 refine CE (H:=hint [25,45] []) (enM G) Tryz.func92 rfl (by kernel_rfl) (by kernel_rfl) (nLb (by kernel_rfl)) ?_
 show awp _ _ _ _ _ (EJ _ [.cell 2 28] _)
 have E:=Er.mk' h m
 simp -implicitDefEqProofs only [FZ,CX,List.contains_cons,List.contains_nil,Nat.reduceBEq,Bool.or_false,BC,BR,BA,A8,AY,BB,AL,BD,AX,AC,FC,AA,AZ,AU,BH,A7,FY,FV,KR,ER,CB,AB,DX,BF,↓reduceIte,Nat.reduceEqDiff,oGs,bNf,enP,ED,Option.getD_none,bxM,OO,AEM,AVL]
 generalize h ++ [ABlk.live 2 [EH m]] ++ [ABlk.live 4 [GH]] ++ [ABlk.live 4 [GH]]=H0 at E ⊢
 generalize (h ++ [ABlk.live 2 [EH m]] ++ [ABlk.live 4 [GH]]).length=b3 at E ⊢
 generalize (h ++ [ABlk.live 2 [EH m]]).length=b2 at E ⊢
 have o2:=E.o2; have o3:=E.o3
 have hlt0:=E.lt
 refine GV 0 (fun F H => ∃ v1,F 1 = .ptr h.length 0 0∧F 2 = .ptr b2 0 0∧F 3 = .ptr b3 0 0∧Er h H m b2 b3 v1 (.sl .nil 0 [])∧outG 1 encL H0 (zPs m) v1 H∧H0.length≤H.length) (fun _ _=>False) ?_ ?_ (fun _ _ hh=>hh.elim)
 ·refine DT (fun n F H => ∃ i v1,n+i=m.pts.length∧F 1 = .ptr h.length 0 0∧F 2 = .ptr b2 0 0∧F 3 = .ptr b3 0 0∧F 4 = .int .i64 (i:Nat)∧Er h H m b2 b3 v1 (.sl .nil 0 [])∧outG 1 encL H0 ((zPs m).take i) v1 H∧H0.length≤H.length) m.pts.length
   ⟨0,_,by simp,by simp -implicitDefEqProofs only [AA,↓reduceIte,Nat.reduceEqDiff],by simp -implicitDefEqProofs only [AA,↓reduceIte,Nat.reduceEqDiff],by simp -implicitDefEqProofs only [AA,↓reduceIte,Nat.reduceEqDiff],by simp -implicitDefEqProofs only [AA,↓reduceIte]; rfl,E,by rw [List.take_zero]; exact outG.nil _ _ _ _,Nat.le_refl _⟩ ?_
  clear E
  rintro n F H ⟨i,v1,hi,f1,f2,f3,f4,E,ho1,hle⟩
  simp -implicitDefEqProofs only [CX,List.contains_cons,List.contains_nil,Nat.reduceBEq,Bool.or_false,BC,BA,BI,A8,AY,BB,AL,BD,AX,AC,AA,AZ,BG,BV,BQ,BK,DZ,AB,DC,↓reduceIte,Nat.reduceEqDiff,Nat.add_zero,oGs,bNf,enP,PM,IC,ED,f1,f4,E.m0,lLm]
  refine CV (fun hc => ?_) (fun hc => ?_)
  ·have hi':i < m.pts.length:=by simpa using hc
   have h64:=(hg.full _ (List.getElem_mem hi')).2
   have hP:=AGD m i hi'
   have hH:=E.lt
   obtain ⟨v1',H2,hap,ho1',hk1,hl2,hn1,⟨o,l,rfl⟩,hx2⟩:=ho1.app2 AC2 XM AGB ADF (by omega) (by rw [List.length_take,AAM]; omega) hle (zIs m.pts[i].bins.length)
   rw [← hP] at ho1'
   have E2:=E.keep hk1 (fun b hb=>by have:=ho1.lt hb; omega) (hx2 h (by omega))
   have E3:=E2.set3 (.own o 0 l) (.sl .nil 0 [])
   have ho1'':=ho1'.setB (b:=b3) (by omega) (.live 4 [I7 (.own o 0 l) (.sl .nil 0 [])])
   simp -implicitDefEqProofs only [BC,BR,BO,A8]
   refine FB (by kernel_rfl) ?_
   simp -implicitDefEqProofs only [F8,FZ,F6,CX,List.contains_cons,List.contains_nil,Nat.reduceBEq,Bool.or_false,EC,DW,EF,FO,J7,FD,MH,EI,EK,IM,AA,AZ,EQ,BV,JG,BK,CG,DZ,IQ,CB,AB,↓reduceIte,Nat.reduceEqDiff,Nat.reduceAdd,Nat.add_zero,Nat.zero_add,oGs,enP,OJ,IC,MC,OV,H9,f1,f3,f4,E.l3,E.m0,D6 hi',DV O5 hi',LH,lLm,mkF _ _ (show m.pts[i].bins.length≤1048576 by omega),AMC]
   refine JR (v := .own o 0 l) (h:=H2) hap ?_
   simp -implicitDefEqProofs only [F8,CX,List.contains_cons,List.contains_nil,Nat.reduceBEq,Bool.or_false,EC,DW,LU,FK,EF,LM,EI,BA,A8,EE,EN,AY,BB,AL,BD,AX,AC,AA,AZ,AU,BH,BG,A7,ER,BQ,BK,AB,DX,DF,↓reduceIte,Nat.reduceEqDiff,Nat.reduceAdd,Nat.add_zero,Nat.zero_add,oGs,bNf,enP,MC,ED,Option.getD_none,f3,E2.s3,f4,wrap_succ (show i < 9223372036854775807 by omega)]
   exact ⟨n - 1,by omega,i+1,.own o 0 l,by omega,f1,f2,trivial,rfl,E3,ho1'',by rw [List.length_set]; omega⟩
  ·have hi' : ¬ i < m.pts.length:=by simpa using hc
   rw [List.take_of_length_le (by rw [AAM]; omega)] at ho1
   simp -implicitDefEqProofs only [DJ,D9,J4,EW,AA,↓reduceIte,Nat.reduceEqDiff]
   exact ⟨v1,f1,f2,f3,E,ho1,hle⟩
 ·rintro F H ⟨v1,f1,f2,f3,E,ho1,hle⟩
  simp -implicitDefEqProofs only [CX,List.contains_cons,List.contains_nil,Nat.reduceBEq,Bool.or_false,BC,BR,BA,A8,EX,AY,BB,AL,BD,AX,AC,AU,BH,A7,↓reduceIte,oGs,bNf,ED]
  refine GV 2 (fun F H => ∃ v2,F 2 = .ptr b2 0 0∧F 3 = .ptr b3 0 0∧Er h H m b2 b3 v1 v2∧outG 1 encL H0 (zPs m) v1 H∧outG 1 encL H0 (zCs m) v2 H) (fun _ _=>False) ?_ ?_ (fun _ _ hh=>hh.elim)
  ·refine DT (fun n F H => ∃ i v2,n+i=m.crs.length∧F 1 = .ptr h.length 0 0∧F 2 = .ptr b2 0 0∧F 3 = .ptr b3 0 0∧F 5 = .int .i64 (i:Nat)∧Er h H m b2 b3 v1 v2∧outG 1 encL H0 (zPs m) v1 H∧outG 1 encL H0 ((zCs m).take i) v2 H∧(∀ b,isB v2 b→¬ isB v1 b)∧H0.length≤H.length) m.crs.length
    ⟨0,_,by simp,by simp -implicitDefEqProofs only [AA,↓reduceIte,Nat.reduceEqDiff,f1],by simp -implicitDefEqProofs only [AA,↓reduceIte,Nat.reduceEqDiff,f2],by simp -implicitDefEqProofs only [AA,↓reduceIte,Nat.reduceEqDiff,f3],by simp -implicitDefEqProofs only [AA,↓reduceIte]; rfl,E,ho1,by rw [List.take_zero]; exact outG.nil _ _ _ _,fun b hb=>hb.elim,hle⟩ ?_
   clear f1 f2 f3 E ho1 hle
   rintro n F H ⟨i,v2,hi,f1,f2,f3,f5,E,ho1,ho2,hd2,hle⟩
   simp -implicitDefEqProofs only [CX,List.contains_cons,List.contains_nil,Nat.reduceBEq,Bool.or_false,BC,BA,BI,A8,AY,BB,AL,BD,AX,AC,AA,AZ,BG,BV,BQ,BK,DZ,AB,DC,↓reduceIte,Nat.reduceEqDiff,Nat.zero_add,oGs,bNf,enP,UA,JW,ED,f1,f5,E.m1,lLm]
   refine CV (fun hc => ?_) (fun hc => ?_)
   ·have hi':i < m.crs.length:=by simpa using hc
    have hcg:=hg.crs _ (List.getElem_mem hi')
    have hpr:=hcg.prod
    have hfour:=hcg.four
    have hmin:min ((II (szs m m.crs[i].pts):Nat):Int) 1000=((II (szs m m.crs[i].pts):Nat):Int):=by omega
    have hcall:=Y9 G m m.crs[i] H hcg.here hg.full (by omega)
    rw [hmin] at hcall
    have hC:=AGE m i hi'
    have hH:=E.lt
    obtain ⟨v2',H2,hap,ho2',hk2,hl2,hn2,⟨o,l,rfl⟩,hx2⟩:=ho2.app2 AC2 XM AGB ADF (by omega) (by rw [List.length_take,AAN]; omega) hle (zIs (II (szs m m.crs[i].pts)))
    rw [← hC] at ho2'
    have E2:=E.keep hk2 (fun b hb=>by have:=ho2.lt hb; omega) (hx2 h (by omega))
    have E3:=E2.set3 v1 (.own o 0 l)
    have ho1':=(ho1.keepA hk2 (fun b hb h2=>hd2 b h2 hb)).setB (b:=b3) (by omega) (.live 4 [I7 v1 (.own o 0 l)])
    have ho2'':=ho2'.setB (b:=b3) (by omega) (.live 4 [I7 v1 (.own o 0 l)])
    simp -implicitDefEqProofs only [BC,BR,BO,A8]
    refine FB (by kernel_rfl) ?_
    simp -implicitDefEqProofs only [F8,CX,List.contains_cons,List.contains_nil,Nat.reduceBEq,Bool.or_false,EC,DW,EF,FO,FD,MH,EI,EK,GL,FW,AA,AZ,BX,BV,JG,BK,CG,AB,lMc,lMn,lAn,↓reduceIte,Nat.reduceEqDiff,Nat.reduceAdd,Nat.zero_add,oGs,enP,XV,JW,MN,f1,f3,f5,E.l3',E.m1,ldM E.gm,D6 hi',FP ZI WH JY hi']
    refine ⟨_,hcall,?_⟩
    try simp -implicitDefEqProofs only [F8,FZ,F6,CX,List.contains_cons,List.contains_nil,Nat.reduceBEq,Bool.or_false,Bool.or_true,EC,DW,EF,J7,IM,AA,AZ,EQ,IQ,CB,↓reduceIte,Nat.reduceEqDiff,Nat.reduceAdd,oGs,enP,mkF _ _ (show II (szs m m.crs[i].pts)≤1048576 by omega),AMC]
    refine JR (v := .own o 0 l) (h:=H2) hap ?_
    simp -implicitDefEqProofs only [F8,CX,List.contains_cons,List.contains_nil,Nat.reduceBEq,Bool.or_false,EC,DW,LU,FK,EF,LM,EI,BA,A8,EE,EN,AY,BB,AL,BD,AX,AC,AA,AZ,AU,BH,BG,A7,ER,BQ,BK,AB,DX,DF,↓reduceIte,Nat.reduceEqDiff,Nat.reduceAdd,Nat.zero_add,oGs,bNf,enP,MN,ED,Option.getD_none,f3,E2.s3',f5,wrap_succ (show i < 9223372036854775807 by omega)]
    refine ⟨n - 1,by omega,i+1,.own o 0 l,by omega,f1,f2,trivial,rfl,E3,ho1',ho2'',fun b hb h1 => ?_,by rw [List.length_set]; omega⟩
    have h0:=hn2 b hb
    have h2:=ho1.lt h1
    omega
   ·have hi' : ¬ i < m.crs.length:=by simpa using hc
    rw [List.take_of_length_le (by rw [AAN]; omega)] at ho2
    simp -implicitDefEqProofs only [DJ,D9,J4,EW,AA,↓reduceIte,Nat.reduceEqDiff]
    exact ⟨v2,f2,f3,E,ho1,ho2⟩
  ·rintro F' H' ⟨v2,g2,g3,E',q1,q2⟩
   have hp:=E'.o2; have hq:=E'.o3
   simp -implicitDefEqProofs only [CX,List.contains_cons,List.contains_nil,Nat.reduceBEq,Bool.or_false,BC,BA,BL,A8,EX,AY,BB,AL,BD,AX,AC,FC,AA,AZ,BV,ER,AB,DX,↓reduceIte,Nat.reduceEqDiff,oGs,bNf,enP,ED,Option.getD_none,g2,g3,LQ E'.g3 rfl,AGQ E'.g2 rfl q1.leaf q2.leaf]
   rw [AP8 (b:=b2) (by simp -implicitDefEqProofs only [AA,↓reduceIte,Nat.reduceEqDiff,g2]) (LQ (ET E'.g2) rfl)]
   have hs1 : ∀ {α:Type} {f:α→List AV} {ys:List α} {v:AV},outG 1 f H0 ys v H'→outG 1 f h ys v (H'.set b2 (.live 4 [I7 v1 v2])):=fun q=>(q.setB (b:=b2) (by omega) _).base (by omega)
   exact ⟨E'.hx.set (by omega) _,v1,v2,rfl,hs1 q1,hs1 q2⟩
theorem V6 {E:Env} {f:FuncId} {args:List AV} {h:Hp} {r:AV} (d:Nat) (hr : ∀ n H,I5 n H d r=r) (hc:ACalls E f args h fun v H=>v=r∧ext h H):PCall E f args h r :=
 ACalls.pure d hc fun v H ⟨e,he⟩=>⟨he,by rw [e]; exact hr _ _⟩
def emV (m:Mo):Cvr:=if GM m=0 then TM m else zV
def emT (m:Mo):Tk:=if GM m=0 then ⟨nm (zLs m),zLs m⟩ else zT
def ADB (m:Mo):Tk:=if GM m=0 then ⟨.full,zLs m⟩ else zT
structure Ee (h H:Hp) (m:Mo) (b2 b3:Nat):Prop where
 gm:H[h.length]? = some (ABlk.live 2 [EH m])
 g2:H[b2]? = some (ABlk.live 4 [GH])
 g3:H[b3]? = some (ABlk.live 1 [GK])
 o2:h.length < b2
 o3:b2 < b3
 hx:ext h H
theorem Ee.mk' (h:Hp) (m:Mo):Ee h (h ++ [ABlk.live 2 [EH m]] ++ [ABlk.live 4 [GH]] ++ [ABlk.live 1 [GK]]) m (h ++ [ABlk.live 2 [EH m]]).length (h ++ [ABlk.live 2 [EH m]] ++ [ABlk.live 4 [GH]]).length :=
 ⟨CW (CW (CZ _ _)),CW (CZ _ _),CZ _ _,by simp,by simp,(((ext.rfl' h).app _).app _).app _⟩
theorem Ee.lt {h H:Hp} {m:Mo} {b2 b3:Nat} (E:Ee h H m b2 b3):b3 < H.length:=CU E.g3
theorem Ee.m0 {h H:Hp} {m:Mo} {b2 b3:Nat} (E:Ee h H m b2 b3):D7 Tryz.prog H 22 (.ptr h.length 0 0)=some (.sl m.pm 6 (m.pts.map FH)):=by rw [DL TQ E.gm (row:=EH m) rfl,OC]
theorem AV3 (H0:Hp) (c:Cvr) (t:Tk) :
  FX Tryz.prog (H0 ++ [ABlk.live 4 [GH]] ++ [ABlk.live 1 [GK]]) 28 (.ptr H0.length 0 0) (.agg (FU c))=some ((H0 ++ [ABlk.live 4 [GH]] ++ [ABlk.live 1 [GK]]).set H0.length (ABlk.live 4 [FU c])) ∧
  FX Tryz.prog ((H0 ++ [ABlk.live 4 [GH]] ++ [ABlk.live 1 [GK]]).set H0.length (ABlk.live 4 [FU c])) 47 (.ptr (H0 ++ [ABlk.live 4 [GH]]).length 0 0) (.agg (JI t))=some (((H0 ++ [ABlk.live 4 [GH]] ++ [ABlk.live 1 [GK]]).set H0.length (ABlk.live 4 [FU c])).set (H0 ++ [ABlk.live 4 [GH]]).length (ABlk.live 1 [JI t])) ∧
  (((H0 ++ [ABlk.live 4 [GH]] ++ [ABlk.live 1 [GK]]).set H0.length (ABlk.live 4 [FU c])).set (H0 ++ [ABlk.live 4 [GH]]).length (ABlk.live 1 [JI t]))[H0.length]? = some (ABlk.live 4 [FU c]) ∧
  (((H0 ++ [ABlk.live 4 [GH]] ++ [ABlk.live 1 [GK]]).set H0.length (ABlk.live 4 [FU c])).set (H0 ++ [ABlk.live 4 [GH]]).length (ABlk.live 1 [JI t]))[(H0 ++ [ABlk.live 4 [GH]]).length]? = some (ABlk.live 1 [JI t]) ∧
  ext H0 (((H0 ++ [ABlk.live 4 [GH]] ++ [ABlk.live 1 [GK]]).set H0.length (ABlk.live 4 [FU c])).set (H0 ++ [ABlk.live 4 [GH]]).length (ABlk.live 1 [JI t])) :=
 ⟨stV (CW (CZ _ _)) rfl,stT (DK (CZ _ _) (by simp)) rfl,DK (ET (CW (CZ _ _))) (by simp),ET (DK (CZ _ _) (by simp)),((((ext.rfl' H0).app _).app _).set (Nat.le_refl _) _).set (by simp) _⟩
theorem F5 {h H:Hp} {b:Nat} {x:ABlk} (he:ext h H) (hb:h[b]? = some x):H[b]? = some x:=by
 obtain ⟨y,rfl⟩:=he
 exact GI hb
theorem AP3 (e:Int):CvR (.tup [.agg GH,.agg GK,.int .i64 e]) (.tup [.agg (FU zV),.agg (JI zT),.int .i64 e]):=CvR.tup (CvRL.cons AUP (CvRL.cons AWY (CvRL.refl _)))
set_option maxHeartbeats 1000000 in
theorem AKU (G:Nat→AV) (hG:GOk G) (m:Mo) (hm:MoOk m) (h:Hp):PCall (En G) 67 [.agg (EH m)] h (.tup [.agg (FU (emV m)),.agg (JI (emT m)),.int .i64 (GM m)]):=by
 by_cases h0:GM m=0
 ·have hb:(GM m == 0)=true:=by simpa using h0
  unfold emV emT
  rw [if_pos h0,if_pos h0]
  have hg:=PD h0
  refine V6 3 (fun n H=>rfl) ?_
  refine CE (H:=Hint.none) (enM G) Tryz.func67 rfl (by kernel_rfl) (by kernel_rfl) (nLb (by kernel_rfl)) ?_
  show awp _ _ _ _ _ (EJ _ [.cell 2 28,.cell 3 47,.tmp 4] _)
  have E:=Ee.mk' h m
  simp -implicitDefEqProofs only [BC,BA,A8,AY,BB,AO,AQ,AL,BD,AX,AC,AA,AZ,AU,BH,A7,FY,FV,BV,CB,BF,↓reduceIte,Nat.reduceEqDiff,oGs,bNf,enP,bxM,OO,ZH]
  generalize h ++ [ABlk.live 2 [EH m]] ++ [ABlk.live 4 [GH]] ++ [ABlk.live 1 [GK]]=H0 at E ⊢
  generalize (h ++ [ABlk.live 2 [EH m]] ++ [ABlk.live 4 [GH]]).length=b3 at E ⊢
  generalize (h ++ [ABlk.live 2 [EH m]]).length=b2 at E ⊢
  have o2:=E.o2; have o3:=E.o3; have hlt:=E.lt
  simp -implicitDefEqProofs only [AY,AO,AQ,AL,BD,AX,AC,AA,AZ,BX,BZ,BU,AB,lMc,lMn,lAn,↓reduceIte,oGs,bNf,ldM E.gm]
  refine (NG G hG m hm _).use ?_
  simp -implicitDefEqProofs only [BC,BA,BO,BI,A8,DU,AY,BB,AO,AQ,AL,BD,AX,AC,AA,AZ,AU,BX,BH,BG,A7,BV,BQ,BZ,BU,AB,EG,lMc,lMn,lAn,↓reduceIte,Nat.reduceEqDiff,oGs,bNt,bNf,enP,bne,hb,ldM E.gm]
  refine (AJ2 G m hm hg _).use ?_
  obtain ⟨s1,s2,g6,g7,hx5⟩:=AV3 H0 (TM m) ⟨nm (zLs m),zLs m⟩
  have g2:=F5 hx5 E.g2
  have g3:=F5 hx5 E.g3
  have hx:=E.hx.trans hx5
  have h7:b2 < (H0 ++ [ABlk.live 4 [GH]]).length:=by simp; omega
  simp -implicitDefEqProofs only [List.getElem?_cons_zero,List.getElem?_cons_succ,BC,A8,AY,BB,AO,AQ,AL,BD,AX,AC,FC,AA,AZ,BG,FY,ER,FM,GZ,CB,AB,DX,↓reduceIte,Nat.reduceEqDiff,oGs,bNf,enP,Option.getD_none,OO,ZH,s1,s2]
  generalize ((H0 ++ [ABlk.live 4 [GH]] ++ [ABlk.live 1 [GK]]).set H0.length (ABlk.live 4 [FU (TM m)])).set (H0 ++ [ABlk.live 4 [GH]]).length (ABlk.live 1 [JI ⟨nm (zLs m),zLs m⟩])=H5 at g6 g7 g2 g3 hx ⊢
  generalize (H0 ++ [ABlk.live 4 [GH]]).length=b7 at g7 h7 ⊢
  refine SN [(7,2)] (by kernel_rfl) ?_ ?_
  ·simp -implicitDefEqProofs only [AA,↓reduceIte,Nat.reduceEqDiff,SV,VG,UK,and_true]
   omega
  simp -implicitDefEqProofs only [F8,EC,DW,LU,FK,EF,JO,FD,LM,BL,A8,AO,AA,AZ,AU,BH,BV,ER,AB,DX,↓reduceIte,Nat.reduceEqDiff,Nat.reduceAdd,Nat.zero_add,oGs,enP,Option.getD_none,ldV g6,ldT g7,stV g2 rfl,stT (DK g3 (show b3≠b2 by omega)) rfl]
  rw [VX (ba:=b2) (bb:=b3) (by simp -implicitDefEqProofs only [AA,↓reduceIte,Nat.reduceEqDiff]) (by simp -implicitDefEqProofs only [AA,↓reduceIte,Nat.reduceEqDiff]) (ldV (DK (ET g2) (show b2≠b3 by omega))) (ldT (ET (DK g3 (show b3≠b2 by omega))))]
  exact ⟨by simp -implicitDefEqProofs only [AA,↓reduceIte,h0],(hx.set (by omega) _).set (by omega) _⟩
 ·have hb:(GM m == 0)=false:=by simpa using h0
  unfold emV emT
  rw [if_neg h0,if_neg h0]
  refine PCall.res ?_ (AP3 _)
  refine V6 3 (fun n H=>rfl) ?_
  refine CE (H:=Hint.none) (enM G) Tryz.func67 rfl (by kernel_rfl) (by kernel_rfl) (nLb (by kernel_rfl)) ?_
  show awp _ _ _ _ _ (EJ _ [.cell 2 28,.cell 3 47,.tmp 4] _)
  have E:=Ee.mk' h m
  simp -implicitDefEqProofs only [BC,BA,A8,AY,BB,AO,AQ,AL,BD,AX,AC,AA,AZ,AU,BH,A7,FY,FV,BV,CB,BF,↓reduceIte,Nat.reduceEqDiff,oGs,bNf,enP,bxM,OO,ZH]
  generalize h ++ [ABlk.live 2 [EH m]] ++ [ABlk.live 4 [GH]] ++ [ABlk.live 1 [GK]]=H0 at E ⊢
  generalize (h ++ [ABlk.live 2 [EH m]] ++ [ABlk.live 4 [GH]]).length=b3 at E ⊢
  generalize (h ++ [ABlk.live 2 [EH m]]).length=b2 at E ⊢
  have o2:=E.o2; have o3:=E.o3; have hlt:=E.lt
  simp -implicitDefEqProofs only [AY,AO,AQ,AL,BD,AX,AC,AA,AZ,BX,BZ,BU,AB,lMc,lMn,lAn,↓reduceIte,oGs,bNf,ldM E.gm]
  refine (NG G hG m hm _).use ?_
  simp -implicitDefEqProofs only [FZ,BC,BA,BL,BI,A8,CQ,CY,AY,BB,AO,AQ,AL,BD,AX,AC,FC,AA,AZ,AU,BH,BG,A7,KR,ER,BQ,AB,DX,EG,↓reduceIte,Nat.reduceEqDiff,oGs,bNf,enP,Option.getD_none,bne,hb,AEM,AQ6,stZ E.g2 rfl,AOV (DK E.g3 (show b3≠b2 by omega)) rfl]
  rw [VX (ba:=b2) (bb:=b3) (by simp -implicitDefEqProofs only [AA,↓reduceIte,Nat.reduceEqDiff]) (by simp -implicitDefEqProofs only [AA,↓reduceIte,Nat.reduceEqDiff]) (LQ (DK (ET E.g2) (show b2≠b3 by omega)) rfl) (O9 (ET (DK E.g3 (show b3≠b2 by omega))) rfl)]
  exact ⟨by simp -implicitDefEqProofs only [AA,↓reduceIte],(E.hx.set (by omega) _).set (by omega) _⟩
theorem AX2 (h:Hp) (m:Mo) (hn:m.pts.length≤1048576):IG Tryz.prog false h 26 (.int .i64 (m.pts.length:Int)) (.int .i64 (m.pts.length:Int))=some (.sl .full 1 (m.pts.map fun _=>GK),h):=by
 have hz:MF Tryz.prog 57=some GK:=by kernel_rfl
 have hr:room m.pts.length 24:=JH (by omega) (by omega)
 unfold IG
 simp only [AC2,XM,ADF,hz,Int.toNat_natCast]
 rw [if_pos ⟨by omega,Int.le_refl _,hr,rfl⟩]
 simp [List.map_const']
theorem AY4 (xs:List (List AV)):KP Tryz.prog 47 [(0,.sl .full 1 xs)]=some (.agg [.sl .full 1 xs]):=by kernel_rfl
set_option maxHeartbeats 1000000 in
theorem AN8 (G:Nat→AV) (m:Mo) (hm:MoOk m) (h:Hp):PCall (En G) 40 [.agg (EH m)] h (.tup [.agg (FU (emV m)),.agg (JI (ADB m)),.int .i64 (GM m)]):=by
 by_cases h0:GM m=0
 ·have hb:(GM m == 0)=true:=by simpa using h0
  unfold emV ADB
  rw [if_pos h0,if_pos h0]
  have hg:=PD h0
  refine PCall.res (r := .tup [.agg (FU (TM m)),.agg [.sl .full 1 (m.pts.map fun _=>GK)],.int .i64 (GM m)]) ?_ (CvR.tup (CvRL.cons (CvR.refl _) (CvRL.cons (CvR.agg (CvRL.cons (CvR.sl (ALK m.pts)) CvRL.nil)) (CvRL.refl _))))
  refine V6 3 (fun n H=>rfl) ?_
  refine CE (H:=Hint.none) (enM G) Tryz.func40 rfl (by kernel_rfl) (by kernel_rfl) (nLb (by kernel_rfl)) ?_
  show awp _ _ _ _ _ (EJ _ [.cell 2 28,.cell 3 47,.tmp 4] _)
  have E:=Ee.mk' h m
  simp -implicitDefEqProofs only [BC,BA,A8,AY,BB,AO,AQ,AL,BD,AX,AC,AA,AZ,AU,BH,A7,FY,FV,BV,CB,BF,↓reduceIte,Nat.reduceEqDiff,oGs,bNf,enP,bxM,OO,ZH]
  generalize h ++ [ABlk.live 2 [EH m]] ++ [ABlk.live 4 [GH]] ++ [ABlk.live 1 [GK]]=H0 at E ⊢
  generalize (h ++ [ABlk.live 2 [EH m]] ++ [ABlk.live 4 [GH]]).length=b3 at E ⊢
  generalize (h ++ [ABlk.live 2 [EH m]]).length=b2 at E ⊢
  have o2:=E.o2; have o3:=E.o3; have hlt:=E.lt
  simp -implicitDefEqProofs only [AY,AO,AQ,AL,BD,AX,AC,AA,AZ,BX,BZ,BU,AB,lMc,lMn,lAn,↓reduceIte,oGs,bNf,ldM E.gm]
  refine (QA G m hm _).use ?_
  simp -implicitDefEqProofs only [BC,BA,BO,BI,A8,DU,AY,BB,AO,AQ,AL,BD,AX,AC,AA,AZ,AU,BH,BG,A7,BQ,AB,EG,↓reduceIte,oGs,bNt,bNf,enP,bne,hb]
  refine SN [(15,2),(1,2)] (by kernel_rfl) ?_ ?_
  ·simp -implicitDefEqProofs only [AA,BN,AHY,↓reduceIte,Nat.reduceEqDiff,SV,VG,UK,AVQ,and_true,true_and]
   omega
  simp -implicitDefEqProofs only [F8,EC,DW,EF,FD,EI,GL,FW,AO,AA,AZ,BX,BV,BK,AB,lMc,lMn,lAn,↓reduceIte,Nat.reduceEqDiff,Nat.reduceAdd,Nat.add_zero,oGs,enP,IC,ldM E.gm]
  refine ⟨_,ANM G m hm hg _,?_⟩
  try simp -implicitDefEqProofs only [F8,FZ,F6,EC,DW,LU,FK,EF,JO,ARY,LM,MH,IM,BL,A8,AO,AA,AZ,AU,BH,KR,ER,JG,DZ,CB,AB,DX,↓reduceIte,Nat.reduceEqDiff,Nat.reduceAdd,Nat.zero_add,oGs,enP,PM,Option.getD_none,E.m0,lLm,AX2 _ m hm.np,AY4,stV E.g2 rfl,AGP (v3 := .sl .full 1 (m.pts.map fun _=>GK)) (DK E.g3 (show b3≠b2 by omega)) rfl rfl]
  rw [VX (ba:=b2) (bb:=b3) (by simp -implicitDefEqProofs only [AA,↓reduceIte,Nat.reduceEqDiff]) (by simp -implicitDefEqProofs only [AA,↓reduceIte,Nat.reduceEqDiff]) (ldV (DK (ET E.g2) (show b2≠b3 by omega))) (O9 (ET (DK E.g3 (show b3≠b2 by omega))) rfl)]
  exact ⟨by simp -implicitDefEqProofs only [AA,↓reduceIte,h0],(E.hx.set (by omega) _).set (by omega) _⟩
 ·have hb:(GM m == 0)=false:=by simpa using h0
  unfold emV ADB
  rw [if_neg h0,if_neg h0]
  refine PCall.res ?_ (AP3 _)
  refine V6 3 (fun n H=>rfl) ?_
  refine CE (H:=Hint.none) (enM G) Tryz.func40 rfl (by kernel_rfl) (by kernel_rfl) (nLb (by kernel_rfl)) ?_
  show awp _ _ _ _ _ (EJ _ [.cell 2 28,.cell 3 47,.tmp 4] _)
  have E:=Ee.mk' h m
  simp -implicitDefEqProofs only [BC,BA,A8,AY,BB,AO,AQ,AL,BD,AX,AC,AA,AZ,AU,BH,A7,FY,FV,BV,CB,BF,↓reduceIte,Nat.reduceEqDiff,oGs,bNf,enP,bxM,OO,ZH]
  generalize h ++ [ABlk.live 2 [EH m]] ++ [ABlk.live 4 [GH]] ++ [ABlk.live 1 [GK]]=H0 at E ⊢
  generalize (h ++ [ABlk.live 2 [EH m]] ++ [ABlk.live 4 [GH]]).length=b3 at E ⊢
  generalize (h ++ [ABlk.live 2 [EH m]]).length=b2 at E ⊢
  have o2:=E.o2; have o3:=E.o3; have hlt:=E.lt
  simp -implicitDefEqProofs only [AY,AO,AQ,AL,BD,AX,AC,AA,AZ,BX,BZ,BU,AB,lMc,lMn,lAn,↓reduceIte,oGs,bNf,ldM E.gm]
  refine (QA G m hm _).use ?_
  simp -implicitDefEqProofs only [FZ,BC,BA,BL,BI,A8,CQ,CY,AY,BB,AO,AQ,AL,BD,AX,AC,FC,AA,AZ,AU,BH,BG,A7,KR,ER,BQ,AB,DX,EG,↓reduceIte,Nat.reduceEqDiff,oGs,bNf,enP,Option.getD_none,bne,hb,AEM,AQ6,stZ E.g2 rfl,AOV (DK E.g3 (show b3≠b2 by omega)) rfl]
  rw [VX (ba:=b2) (bb:=b3) (by simp -implicitDefEqProofs only [AA,↓reduceIte,Nat.reduceEqDiff]) (by simp -implicitDefEqProofs only [AA,↓reduceIte,Nat.reduceEqDiff]) (LQ (DK (ET E.g2) (show b2≠b3 by omega)) rfl) (O9 (ET (DK E.g3 (show b3≠b2 by omega))) rfl)]
  exact ⟨by simp -implicitDefEqProofs only [AA,↓reduceIte],(E.hx.set (by omega) _).set (by omega) _⟩
theorem AVM (h:Hp) (v:Cvr):FX Tryz.prog (h ++ [ABlk.live 4 [GH]]) 28 (.ptr h.length 0 0) (.agg (FU v))=some (h ++ [ABlk.live 4 [FU v]]):=by rw [stV (CZ _ _) rfl,VJ]
structure Mr (h H:Hp) (m:Mo) (a b:Cvr) (b4 b5 b6:Nat):Prop where
 gm:H[h.length]? = some (ABlk.live 2 [EH m])
 ga:H[b4]? = some (ABlk.live 4 [FU a])
 gb:H[b5]? = some (ABlk.live 4 [FU b])
 g6:H[b6]? = some (ABlk.live 4 [GH])
 o4:h.length < b4
 o5:b4 < b5
 o6:b5 < b6
 hx:ext h H
theorem Mr.mk' (h:Hp) (m:Mo) (a b:Cvr):Mr h (h ++ [ABlk.live 2 [EH m]] ++ [ABlk.live 4 [FU a]] ++ [ABlk.live 4 [FU b]] ++ [ABlk.live 4 [GH]]) m a b (h ++ [ABlk.live 2 [EH m]]).length (h ++ [ABlk.live 2 [EH m]] ++ [ABlk.live 4 [FU a]]).length (h ++ [ABlk.live 2 [EH m]] ++ [ABlk.live 4 [FU a]] ++ [ABlk.live 4 [FU b]]).length :=
 ⟨CW (CW (CW (CZ _ _))),CW (CW (CZ _ _)),CW (CZ _ _),CZ _ _,by simp,by simp,by simp,((((ext.rfl' h).app _).app _).app _).app _⟩
structure Al (h H:Hp) (m:Mo) (c:Cvr) (b4 b6:Nat):Prop where
 gm:H[h.length]? = some (ABlk.live 2 [EH m])
 g4:H[b4]? = some (ABlk.live 4 [GH])
 g6:H[b6]? = some (ABlk.live 4 [FU c])
 o4:h.length < b4
 o6:b4 < b6
 hx:ext h H
theorem Al.app {h H:Hp} {m:Mo} {c:Cvr} {b4 b6:Nat} (E:Al h H m c b4 b6) (x:Hp):Al h (H ++ x) m c b4 b6:=⟨GI E.gm,GI E.g4,GI E.g6,E.o4,E.o6,E.hx.app _⟩
theorem Al.up {h H H':Hp} {m:Mo} {c:Cvr} {b4 b6:Nat} (E:Al h H m c b4 b6) (hx:ext H H'):Al h H' m c b4 b6:=by
 obtain ⟨x,rfl⟩:=hx; exact E.app x
end Go.Proofs.YtocilianjfhifaaGreatDoor.Cov
