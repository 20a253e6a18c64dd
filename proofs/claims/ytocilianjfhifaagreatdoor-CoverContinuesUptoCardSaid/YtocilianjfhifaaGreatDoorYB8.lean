/- Part 8 of the proof (A1, Q1, Q2, Q3, A2, Q4, Q5, Q6, Q7, Q8); no condition. -/
import Derived.Test.YtocilianjfhifaaGreatDoorYB7
set_option linter.unusedVariables false
namespace Go.Proofs.YtocilianjfhifaaGreatDoor.Cov
open Sm Bins Go.RowKit
theorem LZ {n:Int}:JM n=true↔0≤n∧n≤1099511627776:=by unfold JM; simp
theorem UH {n:Int} {p:Bool} (h:countB n p=true):JM n=true:=by unfold countB at h; simp only [Bool.and_eq_true] at h; exact h.1
def WL (x:List Int):Prop := ∀ n∈x,JM n=true
theorem RQ : ∀ {x:List Int} {p:Nat→Bool} {k:Nat},TT p k x=true→WL x
 | [],_,_,_=>fun _ h=>by cases h
 | n :: x,p,k,h=>by
   simp only [TT,Bool.and_eq_true] at h
   intro m hm
   rcases List.mem_cons.1 hm with rfl | hm
   ·exact UH h.1
   ·exact RQ h.2 m hm
theorem QD {m:Mo} {v:Cvr}:LC m v=true↔FW m=0∧J7 okP m.pts v.pts=true∧J7 (okC m) m.crs v.crs=true∧JM v.sam=true∧JM v.ill=true:=by
 unfold LC
 simp only [Bool.and_eq_true,beq_iff_eq]
 exact ⟨fun ⟨⟨⟨⟨a,b⟩,c⟩,d⟩,e⟩=>⟨a,b,c,d,e⟩,fun ⟨a,b,c,d,e⟩=>⟨⟨⟨⟨a,b⟩,c⟩,d⟩,e⟩⟩
def zeros (n:Nat):List Int:=List.replicate n 0
def zIs (n:Nat):Is:=⟨.full,zeros n⟩
def zPs (m:Mo):List Is:=m.pts.map fun p=>zIs p.bins.length
def zCs (m:Mo):List Is:=m.crs.map fun c=>zIs (I4 (szs m c.pts))
def SI (m:Mo):Cvr:=⟨nm (zPs m),zPs m,nm (zCs m),zCs m,0,0⟩
theorem QB : ∀ (n:Nat) {p:Nat→Bool} {k:Nat},TT p k (zeros n)=true
 | 0,_,_=>rfl
 | n+1,p,k=>by
   have ih:=QB n (p:=p) (k:=k+1)
   unfold zeros at *
   simp only [List.replicate_succ,TT,ih,Bool.and_true]
   unfold countB; cases p k <;> rfl
theorem RZ {α:Type} {ok:α→Is→Bool} (f:α→Is) (hf : ∀ a,ok a (f a)=true) : ∀ ws:List α,J7 ok ws (ws.map f)=true
 | []=>rfl
 | a :: ws=>by simp only [lMc,J7,hf,RZ f hf ws,Bool.and_true]
theorem XT {m:Mo} (h:FW m=0):LC m (SI m)=true:=by
 rw [QD]
 refine ⟨h,RZ _ (fun p => ?_) _,RZ _ (fun c => ?_) _,rfl,rfl⟩
 ·unfold okP; simp [zIs,QB]; simp [zeros]
 ·unfold okC; simp [zIs,QB]; simp [zeros]
structure Dat where
 pts:List (List Int)
 crs:List (List Int)
 sam:Int
 ill:Int
def AL0 (v:Cvr):Dat:=⟨v.pts.map (·.l),v.crs.map (·.l),v.sam,v.ill⟩
theorem AQ5 {p:Pt} {x:Is} (h:okP p x=true):x.l.length=p.bins.length:=by
 unfold okP at h; simp only [Bool.and_eq_true,beq_iff_eq] at h; exact h.1
theorem AQ7 {m:Mo} {c:Cr} {x:Is} (h:okC m c x=true):x.l.length=I4 (szs m c.pts):=by
 unfold okC at h; simp only [Bool.and_eq_true,beq_iff_eq] at h; exact h.1
theorem SA {α:Type} {ok:α→Is→Bool} (hok : ∀ a x y,x.l=y.l→ok a x=ok a y) : ∀ (ws:List α) (xs ys:List Is),xs.map (·.l)=ys.map (·.l)→J7 ok ws xs=J7 ok ws ys
 | [],[],[],_=>rfl
 | a :: ws,x :: xs,y :: ys,h=>by
   simp only [lMc,List.cons.injEq] at h
   simp only [J7,hok a x y h.1,SA hok ws xs ys h.2]
 | [],x :: xs,y :: ys,h=>rfl
 | a :: ws,[],[],h=>rfl
 | _,[],_ :: _,h=>by simp at h
 | _,_ :: _,[],h=>by simp at h
end Go.Proofs.YtocilianjfhifaaGreatDoor.Cov
set_option linter.unusedSimpArgs false
set_option maxRecDepth 8000
namespace Go.Proofs.YtocilianjfhifaaGreatDoor.Cov
open Sm Bins Go.RowKit
theorem mkI (h:Hp) (n:Nat) (hn:n≤1048576):H8 Tryz.prog true h 57 (.int .i64 (n:Int)) (.int .i64 (n:Int))=some (.own h.length 0 n,h ++ [.live 1 ((zeros n).map encI)]):=by
 rw [AYM h n hn,ASA]
 simp [zeros]
theorem TB (h:Hp) (x y:ABlk):(h ++ [x]).set h.length y=h ++ [y]:=by simp
theorem ATP (h:Hp) (m:SM) (xs:List (List AV)):EN Tryz.prog false h 26 1 [(0,.sl m 1 xs)]=some (.sl .full 1 [[.sl m 1 xs]],h):=by kernel_rfl
theorem AWM:Frz encL:=fun _ _ _ _=>⟨rfl,rfl⟩
def SE:List Is→List Is→Bool
 | [],[]=>true
 | a :: ws,b :: bs=>eqL a.l b.l && SE ws bs
 | _,_=>false
theorem Z4 : ∀ {a b:List Is},SE a b=true↔a.map (·.l)=b.map (·.l)
 | [],[]=>by simp [SE]
 | x :: a,y :: b=>by
   have ih:=Z4 (a:=a) (b:=b)
   simp only [SE,Bool.and_eq_true,ih,lMc,List.cons.injEq,eqL,decide_eq_true_eq]
 | [],_ :: _=>by simp [SE]
 | _ :: _,[]=>by simp [SE]
theorem AOO {a b:List Is} (h:SE a b=true):a.length=b.length:=by
 have:=congrArg List.length (Z4.1 h)
 simpa using this
theorem ALW (a b:List Is) (k:Nat) (ha:k < a.length) (hb:k < b.length):SE (a.drop k) (b.drop k)=(eqL a[k].l b[k].l && SE (a.drop (k+1)) (b.drop (k+1))):=by
 rw [List.drop_eq_getElem_cons ha,List.drop_eq_getElem_cons hb]; rfl
theorem XO (G:Nat→AV) (a b:List Is) (s t:SM) (h:Hp) (hl:a.length≤1048576) (hb : ∀ x∈b,x.l.length≤1048576):PCall (En G) 86 [.sl s 1 (a.map encL),.sl t 1 (b.map encL)] h (.bool (SE a b)):=by
 refine CE (H:=Hint.none) (enM G) Tryz.func86 rfl (by kernel_rfl) (by kernel_rfl) (nLb (by kernel_rfl)) ?_
 show awp _ _ _ _ _ (D9 _ [.tmp 4] _)
 simp -implicitDefEqProofs only [BC,BA,BL,A8,AY,BB,AO,AQ,AL,BD,AX,AC,AA,AZ,AU,BJ,BG,A7,BU,D8,AB,EQ,BF,BO,↓reduceIte,Nat.reduceEqDiff,oGs,bNf,enP,YB,lLm]
 refine DC (fun h1 => ?_) (fun h1 => ?_)
 ·simp -implicitDefEqProofs only [BC,BA,BK,A8,CX,CP,AY,BB,AO,AQ,AL,BD,AX,AC,AA,AU,BJ,A7,↓reduceIte,oGs,bNf]
  have:SE a b=false:=by
   rw [← Bool.not_eq_true]; intro e
   have:=AOO e
   simp [this] at h1
  exact ⟨by rw [this],trivial⟩
 have hab:a.length=b.length:=by simp at h1; omega
 simp -implicitDefEqProofs only [BC,BV,BA,BR,A8,AY,BB,AO,AQ,AL,BD,AX,AC,AU,BI,A7,oGs,bNf]
 refine DY (fun n F H => ∃ i,n+i=a.length∧F 0 = .sl s 1 (a.map encL)∧F 1 = .sl t 1 (b.map encL)∧F 5 = .int .i64 (i:Nat)∧H=h∧SE a b=SE (a.drop i) (b.drop i)) a.length ⟨0,by simp,by simp -implicitDefEqProofs only [AA,BF,↓reduceIte,Nat.reduceEqDiff],by simp -implicitDefEqProofs only [AA,BF,BO,↓reduceIte,Nat.reduceEqDiff],by simp -implicitDefEqProofs only [AA,↓reduceIte]; rfl,rfl,rfl⟩ ?_
 rintro n F H ⟨i,hi,f0,f1,f5,rfl,hf⟩
 simp -implicitDefEqProofs only [BC,BA,BL,A8,AY,BB,AO,AQ,AL,BD,AX,AC,AA,AZ,BG,BU,D8,AB,DT,↓reduceIte,Nat.reduceEqDiff,oGs,bNf,enP,YB,f0,f5,lLm]
 refine DC (fun hc => ?_) (fun hc => ?_)
 ·have ha:i < a.length:=by simpa using hc
  have hbi:i < b.length:=by omega
  have hbl:=hb _ (List.getElem_mem hbi)
  rw [ALW a b i ha hbi] at hf
  simp -implicitDefEqProofs only [BC,BV,BR,A8]
  refine F7 (by kernel_rfl) ?_
  simp -implicitDefEqProofs only [GR,EU,D7,EW,G7,F9,AKL,GG,IJ,IB,AO,AA,AZ,CB,BQ,GV,CV,AB,lMc,lMn,lAn,↓reduceIte,Nat.reduceEqDiff,Nat.reduceAdd,oGs,enP,TV,f0,f1,f5,EF ha,EI NR ha,XU,EF hbi,EI NR hbi]
  refine ⟨_,AHE G a[i].l b[i].l _ _ _ (by omega),?_⟩
  try simp -implicitDefEqProofs only [D7,FZ,BL,A8,AA,AZ,AB,EX,↓reduceIte]
  cases he:eqL a[i].l b[i].l
  ·simp -implicitDefEqProofs only [BC,BA,BK,A8,CX,ED,FY,CP,DU,AY,BB,AO,AQ,AL,BD,AX,AC,AA,AU,BJ,A7,↓reduceIte,oGs,bNf]
   exact ⟨by rw [hf,he]; rfl,trivial⟩
  ·simp -implicitDefEqProofs only [BA,BR,A8,EP,FC,D5,AY,BB,AO,AQ,AL,BD,AX,AC,AA,AZ,AU,BI,BG,A7,BU,AB,DV,↓reduceIte,Nat.reduceEqDiff,oGs,bNt,bNf,enP,f5,wrap_succ (show i < 9223372036854775807 by omega)]
   exact ⟨n - 1,by omega,i+1,by omega,f0,f1,rfl,trivial,by rw [hf,he]; rfl⟩
 ·have ha : ¬ i < a.length:=by simpa using hc
  simp -implicitDefEqProofs only [BC,BA,BK,DW,A8,ER,FN,FM,CP,AY,BB,AO,AQ,AL,BD,AX,AC,AA,AU,BJ,A7,↓reduceIte,oGs,bNf]
  exact ⟨by rw [hf,List.drop_eq_nil_of_le (by omega),List.drop_eq_nil_of_le (by omega)]; rfl,trivial⟩
def eqV (a b:Cvr):Bool:=SE a.pts b.pts && SE a.crs b.crs && (a.sam == b.sam) && (a.ill == b.ill)
theorem AJ6 {a b:Cvr}:eqV a b=true↔AL0 a=AL0 b:=by
 unfold eqV AL0
 simp only [Bool.and_eq_true,Z4,beq_iff_eq,Dat.mk.injEq]
 exact ⟨fun ⟨⟨⟨h1,h2⟩,h3⟩,h4⟩=>⟨h1,h2,h3,h4⟩,fun ⟨h1,h2,h3,h4⟩=>⟨⟨⟨h1,h2⟩,h3⟩,h4⟩⟩
structure VV (h H:Hp) (a b:Cvr) (bb:Nat):Prop where
 ga:H[h.length]? = some (.live 4 [ES a])
 gb:H[bb]? = some (.live 4 [ES b])
 hx : ∃ x,H=h ++ x
theorem VV.mk' (h:Hp) (a b:Cvr):VV h (h ++ [.live 4 [ES a]] ++ [.live 4 [ES b]]) a b (h ++ [ABlk.live 4 [ES a]]).length:=⟨CJ (C9 _ _),C9 _ _,⟨_,List.append_assoc _ _ _⟩⟩
section
variable {H:Hp} {v:Cvr} {vb:Nat} (gv:H[vb]? = some (.live 4 [ES v]))
include gv
theorem lv0:DL Tryz.prog H 26 (.ptr vb 0 0)=some (.sl v.pm 1 (v.pts.map encL)):=by rw [DK OA gv (row:=ES v) rfl,AF5]
theorem lv1:DL Tryz.prog H 26 (.ptr vb 0 1)=some (.sl v.cm 1 (v.crs.map encL)):=by rw [DK OA gv (row:=ES v) rfl,AB3]
theorem lv2:DL Tryz.prog H 3 (.ptr vb 0 2)=some (.int .i64 v.sam):=by rw [DK ag3 gv (row:=ES v) rfl,AOR]
theorem lv3:DL Tryz.prog H 3 (.ptr vb 0 3)=some (.int .i64 v.ill):=by rw [DK ag3 gv (row:=ES v) rfl,AJ7]
end
theorem ANA (G:Nat→AV) (a b:Cvr) (h:Hp) (ha:CvOk a) (hb:CvOk b):PCall (En G) 36 [.agg (ES a),.agg (ES b)] h (.bool (eqV a b)):=by
 refine ACalls.pure0 rfl ?_
 refine CE (H:=Hint.none) (enM G) Tryz.func36 rfl (by kernel_rfl) (by kernel_rfl) (nLb (by kernel_rfl)) ?_
 show awp _ _ _ _ _ (D9 _ [.tmp 4] _)
 have t:=VV.mk' h a b
 simp -implicitDefEqProofs only [BC,BA,A8,AY,BB,AO,AQ,AL,BD,AX,AC,AA,AZ,AU,BJ,A7,FX,BQ,BM,BX,AB,BF,BO,↓reduceIte,Nat.reduceEqDiff,Nat.add_zero,oGs,bNf,enP,N8,bxV]
 generalize h ++ [ABlk.live 4 [ES a]] ++ [ABlk.live 4 [ES b]]=H at t ⊢
 generalize (h ++ [ABlk.live 4 [ES a]]).length=bb at t ⊢
 simp -implicitDefEqProofs only [AY,AO,AQ,AL,BD,AX,AC,AA,AZ,CB,BQ,BM,CG,BP,AB,lMc,lMn,lAn,↓reduceIte,Nat.reduceEqDiff,Nat.add_zero,oGs,bNf,enP,N8,lv0 t.ga,lv0 t.gb]
 refine (XO G _ _ _ _ _ ha.pts hb.eachP).use ?_
 simp -implicitDefEqProofs only [AY,BH,BN,CO,AO,AQ,AL,BD,AX,AC,AA,AZ,BG,↓reduceIte,oGs,bNf]
 cases h1:SE a.pts b.pts
 ·simp -implicitDefEqProofs only [BK,A8,CP,AY,BB,BH,BN,CO,G5,AO,AQ,AL,BD,AX,AC,AA,EJ,AZ,AU,BJ,BG,A7,CQ,DN,↓reduceIte,Nat.reduceEqDiff,oGs,bNf]
  exact ⟨by unfold eqV; rw [h1]; rfl,t.hx⟩
 simp -implicitDefEqProofs only [BH,BN,CO,FV,AO,AQ,AL,BD,AX,AC,AA,AZ,CB,BQ,BM,CG,BP,AB,lMc,lMn,lAn,↓reduceIte,Nat.reduceEqDiff,Nat.zero_add,oGs,bNf,enP,N7,lv1 t.ga,lv1 t.gb]
 refine (XO G _ _ _ _ _ ha.crs hb.eachC).use ?_
 simp -implicitDefEqProofs only [AY,BH,BN,CO,AO,AQ,AL,BD,AX,AC,AA,AZ,AU,BJ,BG,CQ,DR,↓reduceIte,Nat.reduceEqDiff,oGs,bNf]
 cases h2:SE a.crs b.crs
 ·simp -implicitDefEqProofs only [BK,A8,CP,AY,BB,BH,BN,CO,G5,AO,AQ,AL,BD,AX,AC,AA,EJ,AZ,AU,BJ,BG,A7,CQ,DN,↓reduceIte,Nat.reduceEqDiff,oGs,bNf]
  exact ⟨by unfold eqV; rw [h1,h2]; rfl,t.hx⟩
 simp -implicitDefEqProofs only [AY,BH,BN,CO,FV,AO,AQ,AL,BD,AX,AC,AA,AZ,AU,BJ,BG,CQ,DR,BQ,BU,BM,AB,DX,↓reduceIte,Nat.reduceEqDiff,Nat.zero_add,oGs,bNf,enP,ADH,lv2 t.ga,lv2 t.gb]
 cases h3:(a.sam == b.sam)
 ·simp -implicitDefEqProofs only [BK,A8,CP,AY,BB,BH,BN,CO,G5,AO,AQ,AL,BD,AX,AC,AA,EJ,AZ,AU,BJ,A7,CQ,DN,↓reduceIte,Nat.reduceEqDiff,oGs,bNf]
  exact ⟨by unfold eqV; rw [h1,h2,h3]; rfl,t.hx⟩
 simp -implicitDefEqProofs only [BK,A8,CP,AY,BB,BH,BN,CO,FV,AO,AQ,AL,BD,AX,AC,AA,AZ,AU,BJ,A7,CQ,DR,BQ,BU,BM,AB,DX,↓reduceIte,Nat.reduceEqDiff,Nat.zero_add,oGs,bNf,enP,ADG,lv3 t.ga,lv3 t.gb]
 exact ⟨by unfold eqV; rw [h1,h2,h3]; rfl,t.hx⟩
theorem AUZ {P:Program} {a t:Nat} {R:AV→Hp→Prop} {F:Fr} {h:Hp} {x:AV} {b:Nat} (hF:F a = .ptr b 0 0) (h1:DL P h t (.ptr b 0 0)=some x):D9 P [.cell a t] R .ret F h=R x h:=by simp [D9,WZ,PV,hF,h1]
theorem AOQ {P:Program} {a t b u:Nat} {R:AV→Hp→Prop} {F:Fr} {h:Hp} {x y:AV} {ba bb:Nat} (hF:F a = .ptr ba 0 0) (hG:F b = .ptr bb 0 0) (h1:DL P h t (.ptr ba 0 0)=some x) (h2:DL P h u (.ptr bb 0 0)=some y):D9 P [.cell a t,.cell b u] R .ret F h=R (.tup [x,y]) h:=by simp [D9,WZ,OD,PV,hF,hG,h1,h2]
theorem TL {P:Program} {a t b u c:Nat} {R:AV→Hp→Prop} {F:Fr} {h:Hp} {x y:AV} {ba bb:Nat} (hF:F a = .ptr ba 0 0) (hG:F b = .ptr bb 0 0) (h1:DL P h t (.ptr ba 0 0)=some x) (h2:DL P h u (.ptr bb 0 0)=some y):D9 P [.cell a t,.cell b u,.tmp c] R .ret F h=R (.tup [x,y,F c]) h:=by simp [D9,WZ,OD,PV,hF,hG,h1,h2]
theorem ADO {P:Program} {a t c:Nat} {R:AV→Hp→Prop} {F:Fr} {h:Hp} {x:AV} {ba:Nat} (hF:F a = .ptr ba 0 0) (h1:DL P h t (.ptr ba 0 0)=some x):D9 P [.cell a t,.tmp c] R .ret F h=R (.tup [x,F c]) h:=by simp [D9,WZ,OD,PV,hF,h1]
def fzG {α:Type} (k:Nat) (f:α→List AV) (ys:List α):AV:=match ys with
 | [] => .sl .nil 0 []
 | _ => .sl .any k (ys.map f)
theorem ZQ {α:Type} {k:Nat} {f:α→List AV} {h H:Hp} {ys:List α} {v:AV} (hf:Frz f) (ho:outG k f h ys v H) (n d:Nat) (hn:n≤h.length):HY n H (d+2) v=fzG k f ys:=by
 rcases ho with ⟨rfl,rfl⟩ | ⟨hne,o,h2,rfl,h3⟩
 ·rfl
 ·rw [VS hf (Nat.le_trans hn h2) h3]
  cases ys with
  | nil=>exact absurd rfl hne
  | cons _ _=>rfl
theorem U1 {α:Type} {k:Nat} {f:α→List AV} {ys:List α}:CvR (fzG k f ys) (.sl (nm ys) k (ys.map f)):=by
 cases ys with
 | nil=>exact CvR.sl (Cv.nil 0 k)
 | cons y ys=>exact CvR.refl _
theorem outG.app2 {P:Program} {t e:TypeId} {α:Type} {k bs:Nat} {f:α→List AV} {h H:Hp} {ys:List α} {v:AV} (ho:outG k f h ys v H) (hu:P.underlying t=some (.slice e)) (hs:szO P e=some k) (hz:TR P e=some k) (hb:LQ P e=some bs) (hbs:bs≤4194304) (hl:ys.length < 8388608) (he:h.length≤H.length) (y:α) :
  ∃ v' H',GI P true H t t v (.sl .full k [f y])=some (v',H')∧outG k f h (ys ++ [y]) v' H'∧(∀ b x,H[b]? = some x→¬ isB v b→H'[b]? = some x)∧H'.length=H.length+1∧(∀ b,isB v' b→b=H.length)∧(∃ o l,v' = .own o 0 l)∧∀ e:Hp,e.length≤h.length→ext e H→ext e H':=by
 have h1:([f y]:List (List AV))≠[]:=by simp
 rcases ho with ⟨rfl,rfl⟩ | ⟨hne,o,h2,rfl,h3⟩
 ·exact ⟨_,_,TQ hu hs hz hb (JR H .full k [f y]) h1 (IR (by simp) hbs),.inr ⟨by simp,H.length,he,rfl,by simp⟩,fun b x hb _=>FH hb,by simp,fun b hb=>hb.symm,⟨_,_,rfl⟩,fun e _ hx=>hx.app _⟩
 ·have hc:JH H (.own o 0 ys.length)=some (k,ys.map f):=by
   rw [OT h3 (by simp),List.drop_zero,List.take_of_length_le (by simp)]
  refine ⟨_,_,TP hu hs hz hb hc (JR H .full k [f y]) h1 (IR (by simp; omega) hbs),.inr ⟨by simp,H.length,he,by simp,by simp⟩,fun b x hb hn => ?_,by simp,fun b hb=>hb.symm,⟨_,_,rfl⟩,fun e hl hx=>(hx.set (Nat.le_trans hl h2) _).app _⟩
  have hn' : ¬ o=b:=hn
  refine FH ?_
  rw [List.getElem?_set,if_neg hn']; exact hb
theorem NJ {P:Program} {H:Hp} {t b k j:Nat} {row cs:List AV} {v:AV} (hc:H7 v=some cs) (hs:szO P t=some cs.length) (hb:H[b]? = some (.live k [row])) (hl:j+cs.length≤row.length):EY P H t (.ptr b 0 j) v=some (H.set b (.live k [splice row j cs])):=by
 rw [KA (i:=0) hc hs hb rfl hl]; rfl
theorem mkF (h:Hp) (n:Nat) (hn:n≤1048576):H8 Tryz.prog false h 57 (.int .i64 (n:Int)) (.int .i64 (n:Int))=some (.sl .full 1 ((zeros n).map encI),h):=by
 have hz:LG Tryz.prog 3=some [.int .i64 0]:=by kernel_rfl
 have hr:room n 8:=IR (by omega) (by omega)
 unfold H8
 simp only [UN,sz3,WV,hz,Int.toNat_natCast]
 rw [if_pos ⟨by omega,Int.le_refl _,hr,rfl⟩]
 simp [zeros,encI]
structure Tk where
 m:SM
 last:List Is
def I7 (t:Tk):List AV := [.sl t.m 1 (t.last.map encL)]
theorem AF6 (t:Tk):(I7 t).length=1:=rfl
def zT:Tk:=⟨.nil,[]⟩
def zV:Cvr:=⟨.nil,[],.nil,[],0,0⟩
def zLs (m:Mo):List Is:=m.pts.map fun _=>⟨.nil,[]⟩
def E8:List AV := [.sl .nil 0 []]
theorem AUT {α:Type}:Frz (fun _:α=>E8):=fun _ _ _ _=>⟨rfl,rfl⟩
theorem ARD:CvRow E8 (encL ⟨.nil,[]⟩):=CvRow.cons rfl (Cv.nil 0 1) CvRow.nil
theorem ARC {α:Type} {s:SM} (xs:List α):Cv (.sl s 1 (xs.map fun _=>E8)) (.sl s 1 ((xs.map fun _=>(⟨.nil,[]⟩:Is)).map encL)):=by
 rw [List.map_map]
 exact Cv.map fun _ _=>ARD
theorem AS7:CvR (.agg [.sl .nil 0 [],.sl .nil 0 [],.int .i64 0,.int .i64 0]) (.agg (ES zV)):=CvR.agg (CvRL.cons (CvR.sl (Cv.nil 0 1)) (CvRL.cons (CvR.sl (Cv.nil 0 1)) (CvRL.cons (CvR.refl _) (CvRL.cons (CvR.refl _) CvRL.nil))))
theorem AVH:CvR (.agg [.sl .nil 0 []]) (.agg (I7 zT)):=CvR.agg (CvRL.cons (CvR.sl (Cv.nil 0 1)) CvRL.nil)
def FD:List AV := [.sl .nil 0 [],.sl .nil 0 [],.int .i64 0,.int .i64 0]
theorem NQ (h:Hp):I9 Tryz.prog h 28=some (.ptr h.length 0 0,h ++ [.live 4 [FD]]):=IY (row:=FD) (by kernel_rfl)
theorem XB (h:Hp):I9 Tryz.prog h 47=some (.ptr h.length 0 0,h ++ [.live 1 [E8]]):=IY (row:=E8) (by kernel_rfl)
theorem XZ:JV Tryz.prog 28 []=some (.agg FD):=by kernel_rfl
theorem ACF:JV Tryz.prog 47 []=some (.agg E8):=by kernel_rfl
theorem stV {H:Hp} {b:Nat} {row:List AV} {v:Cvr} (hb:H[b]? = some (.live 4 [row])) (hr:row.length=4):EY Tryz.prog H 28 (.ptr b 0 0) (.agg (ES v))=some (H.set b (.live 4 [ES v])):=by
 rw [NJ (cs:=ES v) rfl AKS hb (by rw [hr]; exact Nat.le_refl 4)]
 have:splice row 0 (ES v)=ES v:=by unfold splice; simp [AF4,hr]
 rw [this]
theorem stZ {H:Hp} {b:Nat} {row:List AV} (hb:H[b]? = some (.live 4 [row])) (hr:row.length=4):EY Tryz.prog H 28 (.ptr b 0 0) (.agg FD)=some (H.set b (.live 4 [FD])):=by
 rw [NJ (cs:=FD) rfl AKS hb (by rw [hr]; exact Nat.le_refl 4)]
 have:splice row 0 FD=FD:=by unfold splice; simp [FD,hr]
 rw [this]
theorem stT {H:Hp} {b:Nat} {row:List AV} {t:Tk} (hb:H[b]? = some (.live 1 [row])) (hr:row.length=1):EY Tryz.prog H 47 (.ptr b 0 0) (.agg (I7 t))=some (H.set b (.live 1 [I7 t])):=by
 rw [NJ (cs:=I7 t) rfl AM1 hb (by rw [hr]; exact Nat.le_refl 1)]
 have:splice row 0 (I7 t)=I7 t:=by unfold splice; rw [AF6,List.take_zero,List.drop_eq_nil_of_le (by omega)]; simp
 rw [this]
theorem ABG {H:Hp} {b:Nat} {row:List AV} (hb:H[b]? = some (.live 1 [row])) (hr:row.length=1):EY Tryz.prog H 47 (.ptr b 0 0) (.agg E8)=some (H.set b (.live 1 [E8])):=by
 rw [NJ (cs:=E8) rfl AM1 hb (by rw [hr]; exact Nat.le_refl 1)]
 have:splice row 0 E8=E8:=by unfold splice; rw [List.take_zero,List.drop_eq_nil_of_le (by rw [hr]; exact Nat.le_refl 1)]; simp
 rw [this]
theorem ldT {h:Hp} {b:Nat} {t:Tk} (hb:h[b]? = some (.live 1 [I7 t])):DL Tryz.prog h 47 (.ptr b 0 0)=some (.agg (I7 t)):=by
 rw [IK AXZ AM1 hb rfl (by rw [AF6]; exact Nat.le_refl 1)]; rfl
theorem J3 {h:Hp} {b:Nat} {row:List AV} (hb:h[b]? = some (.live 4 [row])) (hr:row.length=4):DL Tryz.prog h 28 (.ptr b 0 0)=some (.agg row):=by
 rw [IK AX0 AKS hb rfl (by rw [hr]; exact Nat.le_refl 4),List.drop_zero,List.take_of_length_le (by omega)]
theorem MK {h:Hp} {b:Nat} {row:List AV} (hb:h[b]? = some (.live 1 [row])) (hr:row.length=1):DL Tryz.prog h 47 (.ptr b 0 0)=some (.agg row):=by
 rw [IK AXZ AM1 hb rfl (by rw [hr]; exact Nat.le_refl 1),List.drop_zero,List.take_of_length_le (by omega)]
theorem AK7 {ns:List Nat} (h : ∀ n∈ns,1≤n):1≤I4 ns:=AHL ns 0 h
theorem VU {α:Type} {ok:α→Is→Bool} : ∀ {ws:List α} {xs:List Is},J7 ok ws xs=true→∀ x∈xs,∃ a∈ws,ok a x=true
 | [],[],_,x,hx=>by cases hx
 | a :: ws,y :: xs,h,x,hx=>by
   simp only [J7,Bool.and_eq_true] at h
   rcases List.mem_cons.1 hx with rfl | hx
   ·exact ⟨a,by simp,h.1⟩
   ·obtain ⟨b,hb,hk⟩:=VU h.2 x hx
    exact ⟨b,by simp [hb],hk⟩
 | [],_ :: _,h,_,_=>by cases h
 | _ :: _,[],h,_,_=>by cases h
theorem AQW {m:Mo} {v:Cvr} (h:LC m v=true):v.pts.length=m.pts.length∧v.crs.length=m.crs.length∧(∀ x∈v.pts,1≤x.l.length∧x.l.length≤64)∧(∀ x∈v.crs,1≤x.l.length∧x.l.length≤256):=by
 have hg:=OI (ZV h)
 rw [QD] at h
 obtain ⟨_,h2,h3,_,_⟩:=h
 refine ⟨(O6 h2).symm,(O6 h3).symm,fun x hx => ?_,fun x hx => ?_⟩
 ·obtain ⟨p,hp,hk⟩:=VU h2 x hx
  have:=hg.full p hp
  rw [AQ5 hk]; exact this
 ·obtain ⟨c,hc,hk⟩:=VU h3 x hx
  have hcg:=hg.crs c hc
  have hs:=hg.full.szs hcg.here
  rw [AQ7 hk]
  exact ⟨AK7 fun n hn=>(hs n hn).1,hcg.prod⟩
theorem TM {m:Mo} {v:Cvr} (h:LC m v=true):CvOk v:=by
 have hn:=(OI (ZV h)).num
 obtain ⟨h1,h2,h3,h4⟩:=AQW h
 exact ⟨by omega,by omega,fun x hx=>by have:=h3 x hx; omega,fun x hx=>by have:=h4 x hx; omega⟩
theorem outG.setB {α:Type} {k:Nat} {f:α→List AV} {h H:Hp} {ys:List α} {v:AV} {b:Nat} (ho:outG k f h ys v H) (hb:b < h.length) (y:ABlk):outG k f h ys v (H.set b y) :=
 ho.keep fun b' hb'=>by
  have:=ho.lt hb'
  rw [List.getElem?_set_ne (by omega)]
theorem outG.keepA {α:Type} {k:Nat} {f:α→List AV} {h H H':Hp} {ys:List α} {v u:AV} (ho:outG k f h ys v H) (hk : ∀ b x,H[b]? = some x→¬ isB u b→H'[b]? = some x) (hd : ∀ b,isB v b→¬ isB u b):outG k f h ys v H':=by
 rcases ho with h1 | ⟨h1,o,h2,rfl,h3⟩
 ·exact .inl h1
 ·exact .inr ⟨h1,o,h2,rfl,hk _ _ h3 (hd o rfl)⟩
theorem outG.leaf {α:Type} {k:Nat} {f:α→List AV} {h H:Hp} {ys:List α} {v:AV} (ho:outG k f h ys v H):v.leaf=true:=by
 rcases ho with ⟨_,rfl⟩ | ⟨_,o,_,rfl,_⟩ <;> rfl
theorem outG.base {α:Type} {k:Nat} {f:α→List AV} {h h' H:Hp} {ys:List α} {v:AV} (ho:outG k f h ys v H) (hl:h'.length≤h.length):outG k f h' ys v H:=by
 rcases ho with h1 | ⟨h1,o,h2,rfl,h3⟩
 ·exact .inl h1
 ·exact .inr ⟨h1,o,Nat.le_trans hl h2,rfl,h3⟩
def IW (v1 v2:AV):List AV := [v1,v2,.int .i64 0,.int .i64 0]
structure Em (h H:Hp) (m:Mo) (b2 b3 b4 b5:Nat) (v1 v2 v3:AV):Prop where
 gm:H[h.length]? = some (.live 2 [EC m])
 g2:H[b2]? = some (.live 4 [FD])
 g3:H[b3]? = some (.live 1 [E8])
 g4:H[b4]? = some (.live 4 [IW v1 v2])
 g5:H[b5]? = some (.live 1 [[v3]])
 o2:h.length < b2
 o3:b2 < b3
 o4:b3 < b4
 o5:b4 < b5
 hx:ext h H
section
variable {h H:Hp} {m:Mo} {b2 b3 b4 b5:Nat} {v1 v2 v3:AV} (E:Em h H m b2 b3 b4 b5 v1 v2 v3)
include E
theorem Em.m0:DL Tryz.prog H 22 (.ptr h.length 0 0)=some (.sl m.pm 6 (m.pts.map FO)):=by rw [DK U7 E.gm (row:=EC m) rfl,O8]
theorem Em.m1:DL Tryz.prog H 23 (.ptr h.length 0 1)=some (.sl m.cm 3 (m.crs.map F5)):=by rw [DK AD3 E.gm (row:=EC m) rfl,VX]
theorem Em.l4:DL Tryz.prog H 26 (.ptr b4 0 0)=some v1:=by rw [DK OA E.g4 (row:=IW v1 v2) rfl]; rfl
theorem Em.l4':DL Tryz.prog H 26 (.ptr b4 0 1)=some v2:=by rw [DK OA E.g4 (row:=IW v1 v2) rfl]; rfl
theorem Em.l5:DL Tryz.prog H 26 (.ptr b5 0 0)=some v3:=by rw [DK OA E.g5 (row := [v3]) rfl]; rfl
theorem Em.app (x:Hp):Em h (H ++ x) m b2 b3 b4 b5 v1 v2 v3:=⟨FH E.gm,FH E.g2,FH E.g3,FH E.g4,FH E.g5,E.o2,E.o3,E.o4,E.o5,E.hx.app _⟩
theorem Em.keep {H':Hp} {u:AV} (hk : ∀ b x,H[b]? = some x→¬ isB u b→H'[b]? = some x) (hu : ∀ b,isB u b→b5 < b) (hx:ext h H→ext h H'):Em h H' m b2 b3 b4 b5 v1 v2 v3:=by
 have o2:=E.o2; have o3:=E.o3; have o4:=E.o4; have o5:=E.o5
 exact ⟨hk _ _ E.gm (fun e=>by have:=hu _ e; omega),hk _ _ E.g2 (fun e=>by have:=hu _ e; omega),hk _ _ E.g3 (fun e=>by have:=hu _ e; omega),hk _ _ E.g4 (fun e=>by have:=hu _ e; omega),hk _ _ E.g5 (fun e=>by have:=hu _ e; omega),o2,o3,o4,o5,hx E.hx⟩
theorem Em.set4 (w1 w2:AV):Em h (H.set b4 (.live 4 [IW w1 w2])) m b2 b3 b4 b5 w1 w2 v3:=by
 have o2:=E.o2; have o3:=E.o3; have o4:=E.o4; have o5:=E.o5
 exact ⟨CU E.gm (by omega),CU E.g2 (by omega),CU E.g3 (by omega),DZ E.g4,CU E.g5 (by omega),o2,o3,o4,o5,E.hx.set (by omega) _⟩
theorem Em.set5 (w3:AV):Em h (H.set b5 (.live 1 [[w3]])) m b2 b3 b4 b5 v1 v2 w3:=by
 have o2:=E.o2; have o3:=E.o3; have o4:=E.o4; have o5:=E.o5
 exact ⟨CU E.gm (by omega),CU E.g2 (by omega),CU E.g3 (by omega),CU E.g4 (by omega),DZ E.g5,o2,o3,o4,o5,E.hx.set (by omega) _⟩
theorem Em.s4 {o l:Nat}:EY Tryz.prog H 26 (.ptr b4 0 0) (.own o 0 l)=some (H.set b4 (.live 4 [IW (.own o 0 l) v2])):=NJ (row:=IW v1 v2) (AD4 _ _ _) AKT E.g4 (by simp [IW])
theorem Em.s4' {o l:Nat}:EY Tryz.prog H 26 (.ptr b4 0 1) (.own o 0 l)=some (H.set b4 (.live 4 [IW v1 (.own o 0 l)])):=NJ (row:=IW v1 v2) (AD4 _ _ _) AKT E.g4 (by simp [IW])
theorem Em.s5 {o l:Nat}:EY Tryz.prog H 26 (.ptr b5 0 0) (.own o 0 l)=some (H.set b5 (.live 1 [[.own o 0 l]])):=NJ (row := [v3]) (AD4 _ _ _) AKT E.g5 (by simp)
theorem Em.lt:b5 < H.length:=BZ E.g5
end
theorem Em.mk' (h:Hp) (m:Mo):Em h (h ++ [ABlk.live 2 [EC m]] ++ [ABlk.live 4 [FD]] ++ [ABlk.live 1 [E8]] ++ [ABlk.live 4 [FD]] ++ [ABlk.live 1 [E8]]) m (h ++ [ABlk.live 2 [EC m]]).length (h ++ [ABlk.live 2 [EC m]] ++ [ABlk.live 4 [FD]]).length
  (h ++ [ABlk.live 2 [EC m]] ++ [ABlk.live 4 [FD]] ++ [ABlk.live 1 [E8]]).length (h ++ [ABlk.live 2 [EC m]] ++ [ABlk.live 4 [FD]] ++ [ABlk.live 1 [E8]] ++ [ABlk.live 4 [FD]]).length (.sl .nil 0 []) (.sl .nil 0 []) (.sl .nil 0 []) :=
 ⟨CJ (CJ (CJ (CJ (C9 _ _)))),CJ (CJ (CJ (C9 _ _))),CJ (CJ (C9 _ _)),CJ (C9 _ _),C9 _ _,by simp,by simp,by simp,by simp,((((ext.rfl' h).app _).app _).app _).app _ |>.app _⟩
theorem ATO (h:Hp):EN Tryz.prog false h 26 1 [(0,.sl .nil 0 [])]=some (.sl .full 1 [E8],h):=by kernel_rfl
theorem AMN (m:Mo) (i:Nat) (hi:i < m.pts.length):(zPs m).take (i+1)=(zPs m).take i ++ [zIs m.pts[i].bins.length]:=by
 have hl:i < (zPs m).length:=by unfold zPs; simpa using hi
 rw [List.take_succ_eq_append_getElem hl]; simp [zPs]
theorem AMO (m:Mo) (i:Nat) (hi:i < m.crs.length):(zCs m).take (i+1)=(zCs m).take i ++ [zIs (I4 (szs m m.crs[i].pts))]:=by
 have hl:i < (zCs m).length:=by unfold zCs; simpa using hi
 rw [List.take_succ_eq_append_getElem hl]; simp [zCs]
theorem AI3 (m:Mo):(zPs m).length=m.pts.length:=by simp [zPs]
theorem AI4 (m:Mo):(zCs m).length=m.crs.length:=by simp [zCs]
theorem AIC {E:Env} {f:FuncId} {args:List AV} {h:Hp} {m:Mo} (hc:ACalls E f args h fun v H=>ext h H∧∃ v1 v2 v3,v = .tup [.agg (IW v1 v2),.agg [v3]]∧outG 1 encL h (zPs m) v1 H∧outG 1 encL h (zCs m) v2 H∧outG 1 (fun _:Pt=>E8) h m.pts v3 H) :
  PCall E f args h (.tup [.agg (ES (SI m)),.agg (I7 ⟨nm (zLs m),zLs m⟩)]):=by
 have hp:PCall E f args h (.tup [.agg (IW (fzG 1 encL (zPs m)) (fzG 1 encL (zCs m))),.agg [fzG 1 (fun _:Pt=>E8) m.pts]]):=by
  refine ACalls.pure 4 hc ?_
  rintro v H ⟨he,v1,v2,v3,rfl,o1,o2,o3⟩
  refine ⟨he,?_⟩
  have e1:=ZQ AWM o1 h.length 0 (Nat.le_refl _)
  have e2:=ZQ AWM o2 h.length 0 (Nat.le_refl _)
  have e3:=ZQ AUT o3 h.length 0 (Nat.le_refl _)
  show AV.tup [.agg [HY h.length H 2 v1,HY h.length H 2 v2,.int .i64 0,.int .i64 0],.agg [HY h.length H 2 v3]]=_
  rw [e1,e2,e3]; rfl
 refine hp.res (CvR.tup (CvRL.cons (CvR.agg (CvRL.cons U1 (CvRL.cons U1 (CvRL.refl _)))) (CvRL.cons (CvR.agg (CvRL.cons ?_ CvRL.nil)) CvRL.nil)))
 have h1:CvR (fzG 1 (fun _:Pt=>E8) m.pts) (.sl (nm m.pts) 1 (m.pts.map fun _=>E8)):=U1
 have h2:=CvR.sl (ARC (s:=nm m.pts) m.pts)
 have h3:nm (zLs m)=nm m.pts:=by unfold zLs; cases m.pts <;> rfl
 intro g cv hr
 have:=h2 g cv (h1 g cv hr)
 rw [h3]; exact this
theorem AJD {H:Hp} {b:Nat} {row:List AV} {v1 v2:AV} (hb:H[b]? = some (.live 4 [row])) (hr:row.length=4) (h1:v1.leaf=true) (h2:v2.leaf=true):EY Tryz.prog H 28 (.ptr b 0 0) (.agg (IW v1 v2))=some (H.set b (.live 4 [IW v1 v2])):=by
 rw [NJ (cs:=IW v1 v2) (SS (by simp [IW,h1,h2]; rfl)) AKS hb (by rw [hr]; exact Nat.le_refl 4)]
 have:splice row 0 (IW v1 v2)=IW v1 v2:=by unfold splice; rw [List.take_zero,List.drop_eq_nil_of_le (by rw [hr]; exact Nat.le_refl 4)]; simp
 rw [this]
theorem AEP {H:Hp} {b:Nat} {row:List AV} {v3:AV} (hb:H[b]? = some (.live 1 [row])) (hr:row.length=1) (h3:v3.leaf=true):EY Tryz.prog H 47 (.ptr b 0 0) (.agg [v3])=some (H.set b (.live 1 [[v3]])):=by
 rw [NJ (cs := [v3]) (SS (by simp [h3])) AM1 hb (by rw [hr]; exact Nat.le_refl 1)]
 have:splice row 0 [v3] = [v3]:=by unfold splice; rw [List.take_zero,List.drop_eq_nil_of_le (by rw [hr]; exact Nat.le_refl 1)]; simp
 rw [this]
set_option maxHeartbeats 2000000 in
theorem AID (G:Nat→AV) (m:Mo) (hm:MoOk m) (hg:Good m) (h:Hp):PCall (En G) 127 [.agg (EC m)] h (.tup [.agg (ES (SI m)),.agg (I7 ⟨nm (zLs m),zLs m⟩)]):=by
 refine AIC ?_
 have hm1:=hm.np
 have hm2:=hm.nc
 have hnum:=hg.num
 refine CE (H:=hint [24,47] []) (enM G) Tryz.func127 rfl (by kernel_rfl) (by kernel_rfl) (nLb (by kernel_rfl)) ?_
 show awp _ _ _ _ _ (D9 _ [.cell 2 28,.cell 3 47] _)
 have E:=Em.mk' h m
 simp -implicitDefEqProofs only [CY,List.contains_cons,List.contains_nil,Nat.reduceBEq,Bool.or_false,BC,BA,A8,AY,BB,AL,BD,AX,AC,AA,AZ,EZ,FX,BQ,BM,BX,AB,BF,↓reduceIte,Nat.reduceEqDiff,Nat.add_zero,oGs,bNf,enP,LP,CZ,bxM,NQ,XB]
 generalize h ++ [ABlk.live 2 [EC m]] ++ [ABlk.live 4 [FD]] ++ [ABlk.live 1 [E8]] ++ [ABlk.live 4 [FD]] ++ [ABlk.live 1 [E8]]=H0 at E ⊢
 generalize (h ++ [ABlk.live 2 [EC m]] ++ [ABlk.live 4 [FD]] ++ [ABlk.live 1 [E8]] ++ [ABlk.live 4 [FD]]).length=b5 at E ⊢
 generalize (h ++ [ABlk.live 2 [EC m]] ++ [ABlk.live 4 [FD]] ++ [ABlk.live 1 [E8]]).length=b4 at E ⊢
 generalize (h ++ [ABlk.live 2 [EC m]] ++ [ABlk.live 4 [FD]]).length=b3 at E ⊢
 generalize (h ++ [ABlk.live 2 [EC m]]).length=b2 at E ⊢
 have o2:=E.o2; have o3:=E.o3; have o4:=E.o4; have o5:=E.o5
 have hlt0:=E.lt
 simp -implicitDefEqProofs only [CY,List.contains_cons,List.contains_nil,Nat.reduceBEq,Bool.or_false,BV,A8,AY,BB,AL,BD,AX,AC,AA,AZ,AU,BI,BG,D8,AB,↓reduceIte,oGs,bNf,enP,UY,CZ,E.m0,lLm]
 refine JJ 0 (fun F H => ∃ v1 v3,F 1 = .ptr h.length 0 0∧F 2 = .ptr b2 0 0∧F 3 = .ptr b3 0 0∧F 4 = .ptr b4 0 0∧F 5 = .ptr b5 0 0∧Em h H m b2 b3 b4 b5 v1 (.sl .nil 0 []) v3∧outG 1 encL H0 (zPs m) v1 H∧outG 1 (fun _:Pt=>E8) H0 m.pts v3 H∧(∀ b,isB v1 b→¬ isB v3 b)∧H0.length≤H.length) (fun _ _=>False) ?_ ?_ (fun _ _ hh=>hh.elim)
 ·refine DY (fun n F H => ∃ i v1 v3,n+i=m.pts.length∧F 1 = .ptr h.length 0 0∧F 2 = .ptr b2 0 0∧F 3 = .ptr b3 0 0∧F 4 = .ptr b4 0 0∧F 5 = .ptr b5 0 0∧F 11 = .sl m.pm 6 (m.pts.map FO)∧F 12 = .int .i64 m.pts.length∧F 13 = .int .i64 (i:Nat)∧Em h H m b2 b3 b4 b5 v1 (.sl .nil 0 []) v3∧outG 1 encL H0 ((zPs m).take i) v1 H∧outG 1 (fun _:Pt=>E8) H0 (m.pts.take i) v3 H∧(∀ b,isB v1 b→¬ isB v3 b)∧H0.length≤H.length) m.pts.length
   ⟨0,_,_,by simp,by simp -implicitDefEqProofs only [AA,↓reduceIte,Nat.reduceEqDiff],by simp -implicitDefEqProofs only [AA,↓reduceIte,Nat.reduceEqDiff],by simp -implicitDefEqProofs only [AA,↓reduceIte,Nat.reduceEqDiff],by simp -implicitDefEqProofs only [AA,↓reduceIte,Nat.reduceEqDiff],by simp -implicitDefEqProofs only [AA,↓reduceIte,Nat.reduceEqDiff],by simp -implicitDefEqProofs only [AA,↓reduceIte,Nat.reduceEqDiff],by simp -implicitDefEqProofs only [AA,↓reduceIte,Nat.reduceEqDiff],by simp -implicitDefEqProofs only [AA,↓reduceIte]; rfl,E,by rw [List.take_zero]; exact outG.nil _ _ _ _,by rw [List.take_zero]; exact outG.nil _ _ _ _,fun b hb=>hb.elim,Nat.le_refl _⟩ ?_
  clear E
  rintro n F H ⟨i,v1,v3,hi,f1,f2,f3,f4,f5,f11,f12,f13,E,ho1,ho3,hdis,hle⟩
  simp -implicitDefEqProofs only [CY,List.contains_cons,List.contains_nil,Nat.reduceBEq,Bool.or_false,BC,BA,BL,A8,AY,BB,AL,BD,AX,AC,AA,AZ,BU,AB,DT,↓reduceIte,oGs,bNf,enP,CZ,f12,f13]
  refine DC (fun hc => ?_) (fun hc => ?_)
  ·have hi':i < m.pts.length:=by simpa using hc
   have h64:=(hg.full _ (List.getElem_mem hi')).2
   have hP:=AMN m i hi'
   simp -implicitDefEqProofs only [CY,List.contains_cons,List.contains_nil,Nat.reduceBEq,Bool.or_false,BC,BV,BA,BR,A8,AY,BB,AL,BD,AX,AC,EM,AA,AZ,EZ,BQ,D6,CV,BX,AB,DI,↓reduceIte,Nat.reduceEqDiff,oGs,bNf,enP,UZ,CZ,Option.getD_none,f11,f13,EF hi',FK AA9 X8 II hi',APS,AM7 _ _ [.str ⟨#[]⟩,.int .i64 0,.int .i64 0,.str ⟨#[]⟩,.sl .nil 0 [],.sl .nil 0 []] rfl]
   have E1:=E.app [.live 6 [FO m.pts[i]]]
   obtain ⟨v1',H2,hap,ho1',hk1,hl2,hn1,⟨o,l,rfl⟩,hx2⟩:=(ho1.app [.live 6 [FO m.pts[i]]]).app2 AG9 YZ AKK AIM (by omega) (by rw [List.length_take,AI3]; omega) (by simp; omega) (zIs m.pts[i].bins.length)
   rw [← hP] at ho1'
   have E2:=E1.keep hk1 (fun b hb=>by have:=ho1.lt hb; omega) (hx2 h (by omega))
   have E3:=E2.set4 (.own o 0 l) (.sl .nil 0 [])
   have ho3':=((ho3.app [.live 6 [FO m.pts[i]]]).keepA hk1 (fun b hb h1=>hdis b h1 hb)).setB (b:=b4) (by omega) (.live 4 [IW (.own o 0 l) (.sl .nil 0 [])])
   have ho1'':=ho1'.setB (b:=b4) (by omega) (.live 4 [IW (.own o 0 l) (.sl .nil 0 [])])
   have hdis' : ∀ b,isB (.own o 0 l) b→¬ isB v3 b:=fun b hb h3=>by
    have h1:=hn1 b hb
    have h2:=ho3.lt h3
    simp at h1; omega
   refine F7 (by kernel_rfl) ?_
   simp -implicitDefEqProofs only [GR,FI,FQ,CY,List.contains_cons,List.contains_nil,Nat.reduceBEq,Bool.or_false,EU,D7,EW,JX,F9,PK,FB,LV,AA,AZ,EE,BQ,LX,BM,D8,H9,BX,AB,↓reduceIte,Nat.reduceEqDiff,Nat.reduceAdd,Nat.add_zero,Nat.zero_add,oGs,enP,N8,ZI,LM,f4,E1.l4,DJ V5,PP,lLm,mkF _ _ (show m.pts[i].bins.length≤1048576 by omega),ATP]
   refine JC (v := .own o 0 l) (h:=H2) hap ?_
   simp -implicitDefEqProofs only [GR,CY,List.contains_cons,List.contains_nil,Nat.reduceBEq,Bool.or_false,EU,D7,JW,FZ,EW,JK,FB,BA,A8,AY,AL,BD,AX,AC,AA,AZ,BQ,D6,BM,AB,DI,↓reduceIte,Nat.reduceEqDiff,Nat.reduceAdd,Nat.add_zero,Nat.zero_add,oGs,bNf,enP,N8,SC,CZ,Option.getD_none,f4,f5,E2.s4]
   have hl3:(H2.set b4 (.live 4 [IW (.own o 0 l) (.sl .nil 0 [])])).length=H.length+2:=by rw [List.length_set,hl2,List.length_append]; rfl
   generalize H2.set b4 (.live 4 [IW (.own o 0 l) (.sl .nil 0 [])])=H3 at E3 ho3' ho1'' hl3 ⊢
   obtain ⟨v3',H4,hap3,ho3'',hk3,hl4,hn3,⟨o3',l3,rfl⟩,hx4⟩:=ho3'.app2 AG9 YZ AKK AIM (by omega) (by rw [List.length_take]; omega) (by omega) m.pts[i]
   rw [← List.take_succ_eq_append_getElem hi'] at ho3''
   have E4:=E3.keep hk3 (fun b hb=>by have:=ho3'.lt hb; omega) (hx4 h (by omega))
   have E5:=E4.set5 (.own o3' 0 l3)
   have ho1f:=(ho1''.keepA hk3 hdis').setB (b:=b5) (by omega) (.live 1 [[.own o3' 0 l3]])
   have ho3f:=ho3''.setB (b:=b5) (by omega) (.live 1 [[.own o3' 0 l3]])
   simp -implicitDefEqProofs only [FI,FQ,CY,List.contains_cons,List.contains_nil,Nat.reduceBEq,Bool.or_false,AY,AL,BD,AX,AC,AA,AZ,AU,JS,EE,H9,BX,AB,↓reduceIte,Nat.reduceEqDiff,oGs,bNf,enP,CZ,E3.l5,ATO]
   refine JC (v := .own o3' 0 l3) (h:=H4) hap3 ?_
   simp -implicitDefEqProofs only [CY,List.contains_cons,List.contains_nil,Nat.reduceBEq,Bool.or_false,BA,A8,EP,FC,AY,BB,AL,BD,AX,AC,EM,AA,AZ,AU,BI,BG,D6,BU,BM,AB,DI,DV,↓reduceIte,Nat.reduceEqDiff,Nat.add_zero,oGs,bNf,enP,SC,CZ,Option.getD_none,f5,E4.s5,f13,wrap_succ (show i < 9223372036854775807 by omega)]
   refine ⟨n - 1,by omega,i+1,.own o 0 l,.own o3' 0 l3,by omega,f1,f2,f3,f4,trivial,f11,f12,rfl,E5,ho1f,ho3f,fun b hb h3 => ?_,?_⟩
   ·have h1:=hn1 b hb
    have h2:=hn3 b h3
    rw [List.length_append] at h1
    simp at h1; omega
   ·rw [List.length_set]; omega
  ·have hi' : ¬ i < m.pts.length:=by simpa using hc
   rw [List.take_of_length_le (by rw [AI3]; omega)] at ho1
   rw [List.take_of_length_le (by omega)] at ho3
   simp -implicitDefEqProofs only [DW,ER,O1,FM,AA,↓reduceIte,Nat.reduceEqDiff]
   exact ⟨v1,v3,f1,f2,f3,f4,f5,E,ho1,ho3,hdis,hle⟩
 ·rintro F H ⟨v1,v3,f1,f2,f3,f4,f5,E,ho1,ho3,hdis,hle⟩
  simp -implicitDefEqProofs only [CY,List.contains_cons,List.contains_nil,Nat.reduceBEq,Bool.or_false,BC,BV,BA,A8,FN,AY,BB,AL,BD,AX,AC,AA,AZ,AU,BI,BG,BQ,BM,D8,AB,↓reduceIte,Nat.zero_add,oGs,bNf,enP,AA1,N9,CZ,f1,E.m1,lLm]
  refine JJ 2 (fun F H => ∃ v2,F 2 = .ptr b2 0 0∧F 3 = .ptr b3 0 0∧F 4 = .ptr b4 0 0∧F 5 = .ptr b5 0 0∧Em h H m b2 b3 b4 b5 v1 v2 v3∧outG 1 encL H0 (zPs m) v1 H∧outG 1 encL H0 (zCs m) v2 H∧outG 1 (fun _:Pt=>E8) H0 m.pts v3 H) (fun _ _=>False) ?_ ?_ (fun _ _ hh=>hh.elim)
  ·refine DY (fun n F H => ∃ i v2,n+i=m.crs.length∧F 1 = .ptr h.length 0 0∧F 2 = .ptr b2 0 0∧F 3 = .ptr b3 0 0∧F 4 = .ptr b4 0 0∧F 5 = .ptr b5 0 0∧F 33 = .sl m.cm 3 (m.crs.map F5)∧F 34 = .int .i64 m.crs.length∧F 35 = .int .i64 (i:Nat)∧Em h H m b2 b3 b4 b5 v1 v2 v3∧outG 1 encL H0 (zPs m) v1 H∧outG 1 encL H0 ((zCs m).take i) v2 H∧outG 1 (fun _:Pt=>E8) H0 m.pts v3 H∧(∀ b,isB v2 b→¬ isB v1 b∧¬ isB v3 b)∧H0.length≤H.length) m.crs.length
    ⟨0,_,by simp,by simp -implicitDefEqProofs only [AA,↓reduceIte,Nat.reduceEqDiff,f1],by simp -implicitDefEqProofs only [AA,↓reduceIte,Nat.reduceEqDiff,f2],by simp -implicitDefEqProofs only [AA,↓reduceIte,Nat.reduceEqDiff,f3],by simp -implicitDefEqProofs only [AA,↓reduceIte,Nat.reduceEqDiff,f4],by simp -implicitDefEqProofs only [AA,↓reduceIte,Nat.reduceEqDiff,f5],by simp -implicitDefEqProofs only [AA,↓reduceIte,Nat.reduceEqDiff],by simp -implicitDefEqProofs only [AA,↓reduceIte,Nat.reduceEqDiff],by simp -implicitDefEqProofs only [AA,↓reduceIte]; rfl,E,ho1,by rw [List.take_zero]; exact outG.nil _ _ _ _,ho3,fun b hb=>hb.elim,hle⟩ ?_
   clear f1 f2 f3 f4 f5 E ho1 ho3 hle
   rintro n F H ⟨i,v2,hi,f1,f2,f3,f4,f5,f33,f34,f35,E,ho1,ho2,ho3,hd2,hle⟩
   simp -implicitDefEqProofs only [CY,List.contains_cons,List.contains_nil,Nat.reduceBEq,Bool.or_false,BC,BA,BL,A8,AY,BB,AL,BD,AX,AC,AA,AZ,BU,AB,DT,↓reduceIte,oGs,bNf,enP,CZ,f34,f35]
   refine DC (fun hc => ?_) (fun hc => ?_)
   ·have hi':i < m.crs.length:=by simpa using hc
    have hcg:=hg.crs _ (List.getElem_mem hi')
    have hfs:=hg.full.szs hcg.here
    have hsl:=VE m m.crs[i].pts
    have hfour:=hcg.four
    have hpr:=hcg.prod
    have hC:=AMO m i hi'
    have E1:=E.app [.live 3 [F5 m.crs[i]]]
    have gc1:=C9 H (.live 3 [F5 m.crs[i]])
    obtain ⟨v2',H2,hap,ho2',hk2,hl2,hn2,⟨o,l,rfl⟩,hx2⟩:=(ho2.app [.live 3 [F5 m.crs[i]]]).app2 AG9 YZ AKK AIM (by omega) (by rw [List.length_take,AI4]; omega) (by simp; omega) (zIs (I4 (szs m m.crs[i].pts)))
    rw [← hC] at ho2'
    have E2:=E1.keep hk2 (fun b hb=>by have:=ho2.lt hb; omega) (hx2 h (by omega))
    have E3:=E2.set4 v1 (.own o 0 l)
    have ho1':=((ho1.app [.live 3 [F5 m.crs[i]]]).keepA hk2 (fun b hb h2=>(hd2 b h2).1 hb)).setB (b:=b4) (by omega) (.live 4 [IW v1 (.own o 0 l)])
    have ho3':=((ho3.app [.live 3 [F5 m.crs[i]]]).keepA hk2 (fun b hb h2=>(hd2 b h2).2 hb)).setB (b:=b4) (by omega) (.live 4 [IW v1 (.own o 0 l)])
    have ho2'':=ho2'.setB (b:=b4) (by omega) (.live 4 [IW v1 (.own o 0 l)])
    simp -implicitDefEqProofs only [CY,List.contains_cons,List.contains_nil,Nat.reduceBEq,Bool.or_false,BC,BV,BA,BR,A8,AY,BB,AL,BD,AX,AC,EM,AA,AZ,EZ,BQ,D6,CV,BX,AB,DI,↓reduceIte,Nat.reduceEqDiff,oGs,bNf,enP,AFO,CZ,Option.getD_none,f33,f35,EF hi',FK AGV AAX J8 hi',APR,AM6 _ _ [.str ⟨#[]⟩,.sl .nil 0 [],.sl .nil 0 []] rfl]
    refine F7 (by kernel_rfl) ?_
    simp -implicitDefEqProofs only [GR,CY,List.contains_cons,List.contains_nil,Nat.reduceBEq,Bool.or_false,EU,D7,EW,F9,PK,FB,IJ,IB,AA,AZ,CB,BQ,LX,BM,AB,lMc,lMn,lAn,↓reduceIte,Nat.reduceEqDiff,Nat.reduceAdd,Nat.zero_add,oGs,enP,N7,f1,f4,E1.l4',ldM E1.gm,ldC gc1]
    refine ⟨_,OX G m _ _ hcg.here (by omega),?_⟩
    try simp -implicitDefEqProofs only []
    refine ⟨_,OH G _ _ _ (fun n hn=>(hfs n hn).2) (by omega),?_⟩
    try simp -implicitDefEqProofs only [GR,FI,FQ,CY,List.contains_cons,List.contains_nil,Nat.reduceBEq,Bool.or_false,Bool.or_true,EU,D7,EW,JX,LV,AA,AZ,EE,H9,BX,↓reduceIte,Nat.reduceEqDiff,Nat.reduceAdd,oGs,enP,mkF _ _ (show I4 (szs m m.crs[i].pts)≤1048576 by omega),ATP]
    refine JC (v := .own o 0 l) (h:=H2) hap ?_
    simp -implicitDefEqProofs only [GR,CY,List.contains_cons,List.contains_nil,Nat.reduceBEq,Bool.or_false,EU,D7,JW,FZ,EW,JK,FB,BA,A8,EP,FC,AY,BB,AL,BD,AX,AC,AA,AZ,AU,BI,BG,D6,BU,BM,AB,DI,DV,↓reduceIte,Nat.reduceEqDiff,Nat.reduceAdd,Nat.zero_add,oGs,bNf,enP,N7,CZ,Option.getD_none,f4,E2.s4',f35,wrap_succ (show i < 9223372036854775807 by omega)]
    refine ⟨n - 1,by omega,i+1,.own o 0 l,by omega,f1,f2,f3,trivial,f5,f33,f34,rfl,E3,ho1',ho2'',ho3',fun b hb=>⟨fun h1 => ?_,fun h3 => ?_⟩,?_⟩
    ·have h0:=hn2 b hb
     have h2:=ho1.lt h1
     rw [List.length_append] at h0
     simp at h0; omega
    ·have h0:=hn2 b hb
     have h2:=ho3.lt h3
     rw [List.length_append] at h0
     simp at h0; omega
    ·rw [List.length_set,hl2,List.length_append]; simp; omega
   ·have hi' : ¬ i < m.crs.length:=by simpa using hc
    rw [List.take_of_length_le (by rw [AI4]; omega)] at ho2
    simp -implicitDefEqProofs only [DW,ER,O1,FM,AA,↓reduceIte,Nat.reduceEqDiff]
    exact ⟨v2,f2,f3,f4,f5,E,ho1,ho2,ho3⟩
  ·rintro F' H' ⟨v2,g2,g3,g4,g5,E',q1,q2,q3⟩
   simp -implicitDefEqProofs only [BC,A8,FN,↓reduceIte]
   have p2:=E'.o2; have p3:=E'.o3; have p4:=E'.o4; have p5:=E'.o5
   refine QG [(5,2)] (by kernel_rfl) ?_ ?_
   ·simp -implicitDefEqProofs only [g2,g5,QH,SX,RJ,and_true]
    omega
   simp -implicitDefEqProofs only [GR,CY,List.contains_cons,List.contains_nil,Nat.reduceBEq,Bool.or_false,EU,D7,JW,FZ,EW,F9,JK,BK,A8,AA,AZ,BQ,D6,AB,DI,↓reduceIte,Nat.reduceEqDiff,Nat.reduceAdd,Nat.zero_add,oGs,enP,Option.getD_none,g2,g3,g4,g5,J3 E'.g4 rfl,MK E'.g5 rfl,AJD E'.g2 rfl q1.leaf q2.leaf,AEP (CU E'.g3 (show b3≠b2 by omega)) rfl q3.leaf]
   rw [AOQ (ba:=b2) (bb:=b3) (by simp -implicitDefEqProofs only [AA,↓reduceIte,Nat.reduceEqDiff,g2]) (by simp -implicitDefEqProofs only [AA,↓reduceIte,Nat.reduceEqDiff,g3]) (J3 (CU (DZ E'.g2) (show b2≠b3 by omega)) rfl) (MK (DZ (CU E'.g3 (show b3≠b2 by omega))) rfl)]
   have hs1 : ∀ {α:Type} {f:α→List AV} {ys:List α} {v:AV},outG 1 f H0 ys v H'→outG 1 f h ys v ((H'.set b2 (.live 4 [IW v1 v2])).set b3 (.live 1 [[v3]])):=fun q=>((q.setB (b:=b2) (by omega) _).setB (b:=b3) (by omega) _).base (by omega)
   exact ⟨(E'.hx.set (by omega) _).set (by omega) _,v1,v2,v3,rfl,hs1 q1,hs1 q2,hs1 q3⟩
structure Er (h H:Hp) (m:Mo) (b2 b3:Nat) (v1 v2:AV):Prop where
 gm:H[h.length]? = some (.live 2 [EC m])
 g2:H[b2]? = some (.live 4 [FD])
 g3:H[b3]? = some (.live 4 [IW v1 v2])
 o2:h.length < b2
 o3:b2 < b3
 hx:ext h H
section
variable {h H:Hp} {m:Mo} {b2 b3:Nat} {v1 v2:AV} (E:Er h H m b2 b3 v1 v2)
include E
theorem Er.m0:DL Tryz.prog H 22 (.ptr h.length 0 0)=some (.sl m.pm 6 (m.pts.map FO)):=by rw [DK U7 E.gm (row:=EC m) rfl,O8]
theorem Er.m1:DL Tryz.prog H 23 (.ptr h.length 0 1)=some (.sl m.cm 3 (m.crs.map F5)):=by rw [DK AD3 E.gm (row:=EC m) rfl,VX]
theorem Er.l3:DL Tryz.prog H 26 (.ptr b3 0 0)=some v1:=by rw [DK OA E.g3 (row:=IW v1 v2) rfl]; rfl
theorem Er.keep {H':Hp} {u:AV} (hk : ∀ b x,H[b]? = some x→¬ isB u b→H'[b]? = some x) (hu : ∀ b,isB u b→b3 < b) (hx:ext h H→ext h H'):Er h H' m b2 b3 v1 v2:=by
 have o2:=E.o2; have o3:=E.o3
 exact ⟨hk _ _ E.gm (fun e=>by have:=hu _ e; omega),hk _ _ E.g2 (fun e=>by have:=hu _ e; omega),hk _ _ E.g3 (fun e=>by have:=hu _ e; omega),o2,o3,hx E.hx⟩
theorem Er.lt:b3 < H.length:=BZ E.g3
end
theorem Er.mk' (h:Hp) (m:Mo):Er h (h ++ [ABlk.live 2 [EC m]] ++ [ABlk.live 4 [FD]] ++ [ABlk.live 4 [FD]]) m (h ++ [ABlk.live 2 [EC m]]).length (h ++ [ABlk.live 2 [EC m]] ++ [ABlk.live 4 [FD]]).length (.sl .nil 0 []) (.sl .nil 0 []) :=
 ⟨CJ (CJ (C9 _ _)),CJ (C9 _ _),C9 _ _,by simp,by simp,(((ext.rfl' h).app _).app _).app _⟩
theorem AFB {E:Env} {f:FuncId} {args:List AV} {h:Hp} {r:AV} (d:Nat) (hr : ∀ n H,HY n H d r=r) (hc:ACalls E f args h fun v H=>v=r∧ext h H):PCall E f args h r :=
 ACalls.pure d hc fun v H ⟨e,he⟩=>⟨he,by rw [e]; exact hr _ _⟩
def emV (m:Mo):Cvr:=if FW m=0 then SI m else zV
def emT (m:Mo):Tk:=if FW m=0 then ⟨nm (zLs m),zLs m⟩ else zT
def ADP (m:Mo):Tk:=if FW m=0 then ⟨.full,zLs m⟩ else zT
structure Ee (h H:Hp) (m:Mo) (b2 b3:Nat):Prop where
 gm:H[h.length]? = some (ABlk.live 2 [EC m])
 g2:H[b2]? = some (ABlk.live 4 [FD])
 g3:H[b3]? = some (ABlk.live 1 [E8])
 o2:h.length < b2
 o3:b2 < b3
 hx:ext h H
theorem Ee.mk' (h:Hp) (m:Mo):Ee h (h ++ [ABlk.live 2 [EC m]] ++ [ABlk.live 4 [FD]] ++ [ABlk.live 1 [E8]]) m (h ++ [ABlk.live 2 [EC m]]).length (h ++ [ABlk.live 2 [EC m]] ++ [ABlk.live 4 [FD]]).length :=
 ⟨CJ (CJ (C9 _ _)),CJ (C9 _ _),C9 _ _,by simp,by simp,(((ext.rfl' h).app _).app _).app _⟩
theorem Ee.lt {h H:Hp} {m:Mo} {b2 b3:Nat} (E:Ee h H m b2 b3):b3 < H.length:=BZ E.g3
theorem Ee.m0 {h H:Hp} {m:Mo} {b2 b3:Nat} (E:Ee h H m b2 b3):DL Tryz.prog H 22 (.ptr h.length 0 0)=some (.sl m.pm 6 (m.pts.map FO)):=by rw [DK U7 E.gm (row:=EC m) rfl,O8]
theorem AUO (H0:Hp) (c:Cvr) (t:Tk) :
  EY Tryz.prog (H0 ++ [ABlk.live 4 [FD]] ++ [ABlk.live 1 [E8]]) 28 (.ptr H0.length 0 0) (.agg (ES c))=some ((H0 ++ [ABlk.live 4 [FD]] ++ [ABlk.live 1 [E8]]).set H0.length (ABlk.live 4 [ES c])) ∧
  EY Tryz.prog ((H0 ++ [ABlk.live 4 [FD]] ++ [ABlk.live 1 [E8]]).set H0.length (ABlk.live 4 [ES c])) 47 (.ptr (H0 ++ [ABlk.live 4 [FD]]).length 0 0) (.agg (I7 t))=some (((H0 ++ [ABlk.live 4 [FD]] ++ [ABlk.live 1 [E8]]).set H0.length (ABlk.live 4 [ES c])).set (H0 ++ [ABlk.live 4 [FD]]).length (ABlk.live 1 [I7 t])) ∧
  (((H0 ++ [ABlk.live 4 [FD]] ++ [ABlk.live 1 [E8]]).set H0.length (ABlk.live 4 [ES c])).set (H0 ++ [ABlk.live 4 [FD]]).length (ABlk.live 1 [I7 t]))[H0.length]? = some (ABlk.live 4 [ES c]) ∧
  (((H0 ++ [ABlk.live 4 [FD]] ++ [ABlk.live 1 [E8]]).set H0.length (ABlk.live 4 [ES c])).set (H0 ++ [ABlk.live 4 [FD]]).length (ABlk.live 1 [I7 t]))[(H0 ++ [ABlk.live 4 [FD]]).length]? = some (ABlk.live 1 [I7 t]) ∧
  ext H0 (((H0 ++ [ABlk.live 4 [FD]] ++ [ABlk.live 1 [E8]]).set H0.length (ABlk.live 4 [ES c])).set (H0 ++ [ABlk.live 4 [FD]]).length (ABlk.live 1 [I7 t])) :=
 ⟨stV (CJ (C9 _ _)) rfl,stT (CU (C9 _ _) (by simp)) rfl,CU (DZ (CJ (C9 _ _))) (by simp),DZ (CU (C9 _ _) (by simp)),((((ext.rfl' H0).app _).app _).set (Nat.le_refl _) _).set (by simp) _⟩
theorem EK {h H:Hp} {b:Nat} {x:ABlk} (he:ext h H) (hb:h[b]? = some x):H[b]? = some x:=by
 obtain ⟨y,rfl⟩:=he
 exact FH hb
theorem AON (e:Int):CvR (.tup [.agg FD,.agg E8,.int .i64 e]) (.tup [.agg (ES zV),.agg (I7 zT),.int .i64 e]):=CvR.tup (CvRL.cons AS7 (CvRL.cons AVH (CvRL.refl _)))
set_option maxHeartbeats 1000000 in
theorem AIZ (G:Nat→AV) (hG:GOk G) (m:Mo) (hm:MoOk m) (h:Hp):PCall (En G) 67 [.agg (EC m)] h (.tup [.agg (ES (emV m)),.agg (I7 (emT m)),.int .i64 (FW m)]):=by
 by_cases h0:FW m=0
 ·have hb:(FW m == 0)=true:=by simpa using h0
  unfold emV emT
  rw [if_pos h0,if_pos h0]
  have hg:=OI h0
  refine AFB 3 (fun n H=>rfl) ?_
  refine CE (H:=Hint.none) (enM G) Tryz.func67 rfl (by kernel_rfl) (by kernel_rfl) (nLb (by kernel_rfl)) ?_
  show awp _ _ _ _ _ (D9 _ [.cell 2 28,.cell 3 47,.tmp 4] _)
  have E:=Ee.mk' h m
  simp -implicitDefEqProofs only [BC,BA,A8,AY,BB,AO,AQ,AL,BD,AX,AC,AA,AZ,AU,BI,A7,EZ,FX,BQ,BX,BF,↓reduceIte,Nat.reduceEqDiff,oGs,bNf,enP,bxM,NQ,XB]
  generalize h ++ [ABlk.live 2 [EC m]] ++ [ABlk.live 4 [FD]] ++ [ABlk.live 1 [E8]]=H0 at E ⊢
  generalize (h ++ [ABlk.live 2 [EC m]] ++ [ABlk.live 4 [FD]]).length=b3 at E ⊢
  generalize (h ++ [ABlk.live 2 [EC m]]).length=b2 at E ⊢
  have o2:=E.o2; have o3:=E.o3; have hlt:=E.lt
  simp -implicitDefEqProofs only [AY,AO,AQ,AL,BD,AX,AC,AA,AZ,CB,CG,BP,AB,lMc,lMn,lAn,↓reduceIte,oGs,bNf,ldM E.gm]
  refine (LH G hG m hm _).use ?_
  simp -implicitDefEqProofs only [BC,BA,BR,BL,A8,D5,AY,BB,AO,AQ,AL,BD,AX,AC,AA,AZ,AU,CB,BI,BG,A7,BQ,BU,CG,BP,AB,EQ,lMc,lMn,lAn,↓reduceIte,Nat.reduceEqDiff,oGs,bNt,bNf,enP,bne,hb,ldM E.gm]
  refine (AID G m hm hg _).use ?_
  obtain ⟨s1,s2,g6,g7,hx5⟩:=AUO H0 (SI m) ⟨nm (zLs m),zLs m⟩
  have g2:=EK hx5 E.g2
  have g3:=EK hx5 E.g3
  have hx:=E.hx.trans hx5
  have h7:b2 < (H0 ++ [ABlk.live 4 [FD]]).length:=by simp; omega
  simp -implicitDefEqProofs only [List.getElem?_cons_zero,List.getElem?_cons_succ,BC,A8,AY,BB,AO,AQ,AL,BD,AX,AC,EM,AA,AZ,BG,EZ,D6,FT,IG,BX,AB,DI,↓reduceIte,Nat.reduceEqDiff,oGs,bNf,enP,Option.getD_none,NQ,XB,s1,s2]
  generalize ((H0 ++ [ABlk.live 4 [FD]] ++ [ABlk.live 1 [E8]]).set H0.length (ABlk.live 4 [ES (SI m)])).set (H0 ++ [ABlk.live 4 [FD]]).length (ABlk.live 1 [I7 ⟨nm (zLs m),zLs m⟩])=H5 at g6 g7 g2 g3 hx ⊢
  generalize (H0 ++ [ABlk.live 4 [FD]]).length=b7 at g7 h7 ⊢
  refine QG [(7,2)] (by kernel_rfl) ?_ ?_
  ·simp -implicitDefEqProofs only [AA,↓reduceIte,Nat.reduceEqDiff,QH,SX,RJ,and_true]
   omega
  simp -implicitDefEqProofs only [GR,EU,D7,JW,FZ,EW,J5,F9,JK,BK,A8,AO,AA,AZ,AU,BI,BQ,D6,AB,DI,↓reduceIte,Nat.reduceEqDiff,Nat.reduceAdd,Nat.zero_add,oGs,enP,Option.getD_none,ldV g6,ldT g7,stV g2 rfl,stT (CU g3 (show b3≠b2 by omega)) rfl]
  rw [TL (ba:=b2) (bb:=b3) (by simp -implicitDefEqProofs only [AA,↓reduceIte,Nat.reduceEqDiff]) (by simp -implicitDefEqProofs only [AA,↓reduceIte,Nat.reduceEqDiff]) (ldV (CU (DZ g2) (show b2≠b3 by omega))) (ldT (DZ (CU g3 (show b3≠b2 by omega))))]
  exact ⟨by simp -implicitDefEqProofs only [AA,↓reduceIte,h0],(hx.set (by omega) _).set (by omega) _⟩
 ·have hb:(FW m == 0)=false:=by simpa using h0
  unfold emV emT
  rw [if_neg h0,if_neg h0]
  refine PCall.res ?_ (AON _)
  refine AFB 3 (fun n H=>rfl) ?_
  refine CE (H:=Hint.none) (enM G) Tryz.func67 rfl (by kernel_rfl) (by kernel_rfl) (nLb (by kernel_rfl)) ?_
  show awp _ _ _ _ _ (D9 _ [.cell 2 28,.cell 3 47,.tmp 4] _)
  have E:=Ee.mk' h m
  simp -implicitDefEqProofs only [BC,BA,A8,AY,BB,AO,AQ,AL,BD,AX,AC,AA,AZ,AU,BI,A7,EZ,FX,BQ,BX,BF,↓reduceIte,Nat.reduceEqDiff,oGs,bNf,enP,bxM,NQ,XB]
  generalize h ++ [ABlk.live 2 [EC m]] ++ [ABlk.live 4 [FD]] ++ [ABlk.live 1 [E8]]=H0 at E ⊢
  generalize (h ++ [ABlk.live 2 [EC m]] ++ [ABlk.live 4 [FD]]).length=b3 at E ⊢
  generalize (h ++ [ABlk.live 2 [EC m]]).length=b2 at E ⊢
  have o2:=E.o2; have o3:=E.o3; have hlt:=E.lt
  simp -implicitDefEqProofs only [AY,AO,AQ,AL,BD,AX,AC,AA,AZ,CB,CG,BP,AB,lMc,lMn,lAn,↓reduceIte,oGs,bNf,ldM E.gm]
  refine (LH G hG m hm _).use ?_
  simp -implicitDefEqProofs only [FI,BC,BA,BK,BL,A8,CX,DU,AY,BB,AO,AQ,AL,BD,AX,AC,EM,AA,AZ,AU,BI,BG,A7,JL,D6,BU,AB,DI,EQ,↓reduceIte,Nat.reduceEqDiff,oGs,bNf,enP,Option.getD_none,bne,hb,XZ,ACF,stZ E.g2 rfl,ABG (CU E.g3 (show b3≠b2 by omega)) rfl]
  rw [TL (ba:=b2) (bb:=b3) (by simp -implicitDefEqProofs only [AA,↓reduceIte,Nat.reduceEqDiff]) (by simp -implicitDefEqProofs only [AA,↓reduceIte,Nat.reduceEqDiff]) (J3 (CU (DZ E.g2) (show b2≠b3 by omega)) rfl) (MK (DZ (CU E.g3 (show b3≠b2 by omega))) rfl)]
  exact ⟨by simp -implicitDefEqProofs only [AA,↓reduceIte],(E.hx.set (by omega) _).set (by omega) _⟩
theorem AT5 (h:Hp) (v:Cvr):EY Tryz.prog (h ++ [ABlk.live 4 [FD]]) 28 (.ptr h.length 0 0) (.agg (ES v))=some (h ++ [ABlk.live 4 [ES v]]):=by rw [stV (C9 _ _) rfl,TB]
structure Mr (h H:Hp) (m:Mo) (a b:Cvr) (b4 b5 b6:Nat):Prop where
 gm:H[h.length]? = some (ABlk.live 2 [EC m])
 ga:H[b4]? = some (ABlk.live 4 [ES a])
 gb:H[b5]? = some (ABlk.live 4 [ES b])
 g6:H[b6]? = some (ABlk.live 4 [FD])
 o4:h.length < b4
 o5:b4 < b5
 o6:b5 < b6
 hx:ext h H
theorem Mr.mk' (h:Hp) (m:Mo) (a b:Cvr):Mr h (h ++ [ABlk.live 2 [EC m]] ++ [ABlk.live 4 [ES a]] ++ [ABlk.live 4 [ES b]] ++ [ABlk.live 4 [FD]]) m a b (h ++ [ABlk.live 2 [EC m]]).length (h ++ [ABlk.live 2 [EC m]] ++ [ABlk.live 4 [ES a]]).length (h ++ [ABlk.live 2 [EC m]] ++ [ABlk.live 4 [ES a]] ++ [ABlk.live 4 [ES b]]).length :=
 ⟨CJ (CJ (CJ (C9 _ _))),CJ (CJ (C9 _ _)),CJ (C9 _ _),C9 _ _,by simp,by simp,by simp,((((ext.rfl' h).app _).app _).app _).app _⟩
structure Al (h H:Hp) (m:Mo) (c:Cvr) (b4 b6:Nat):Prop where
 gm:H[h.length]? = some (ABlk.live 2 [EC m])
 g4:H[b4]? = some (ABlk.live 4 [FD])
 g6:H[b6]? = some (ABlk.live 4 [ES c])
 o4:h.length < b4
 o6:b4 < b6
 hx:ext h H
theorem Al.app {h H:Hp} {m:Mo} {c:Cvr} {b4 b6:Nat} (E:Al h H m c b4 b6) (x:Hp):Al h (H ++ x) m c b4 b6:=⟨FH E.gm,FH E.g4,FH E.g6,E.o4,E.o6,E.hx.app _⟩
theorem Al.up {h H H':Hp} {m:Mo} {c:Cvr} {b4 b6:Nat} (E:Al h H m c b4 b6) (hx:ext H H'):Al h H' m c b4 b6:=by
 obtain ⟨x,rfl⟩:=hx; exact E.app x
end Go.Proofs.YtocilianjfhifaaGreatDoor.Cov
