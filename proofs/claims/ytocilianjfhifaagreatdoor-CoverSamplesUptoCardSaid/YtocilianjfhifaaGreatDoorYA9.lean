/- Part 9 of the proof (A1, Q1, Q2, Q3, A2, Q4, Q5, Q6, Q7, Q8); no condition. -/
import Derived.Test.YtocilianjfhifaaGreatDoorYA8
set_option linter.unusedVariables false
namespace Go.Proofs.YtocilianjfhifaaGreatDoor.Cov
open Sm Bins Go.RowKit
theorem NQ {n:Int}:IR n=true↔0≤n∧n≤1099511627776:=by unfold IR; simp
theorem V6 {n:Int} {p:Bool} (h:countB n p=true):IR n=true:=by unfold countB at h; simp only [Bool.and_eq_true] at h; exact h.1
def WL (x:List Int):Prop := ∀ n∈x,IR n=true
theorem UD : ∀ {x:List Int} {p:Nat→Bool} {k:Nat},RJ p k x=true→WL x
 | [],_,_,_=>fun _ h=>by cases h
 | n :: x,p,k,h=>by
   simp only [RJ,Bool.and_eq_true] at h
   intro m hm
   rcases List.mem_cons.1 hm with rfl | hm
   ·exact V6 h.1
   ·exact UD h.2 m hm
theorem VE {m:Mo} {v:Cvr}:KY m v=true↔GN m=0∧J7 okP m.pts v.pts=true∧J7 (okC m) m.crs v.crs=true∧IR v.sam=true∧IR v.ill=true:=by
 unfold KY
 simp only [Bool.and_eq_true,beq_iff_eq]
 exact ⟨fun ⟨⟨⟨⟨a,b⟩,c⟩,d⟩,e⟩=>⟨a,b,c,d,e⟩,fun ⟨a,b,c,d,e⟩=>⟨⟨⟨⟨a,b⟩,c⟩,d⟩,e⟩⟩
def zeros (n:Nat):List Int:=List.replicate n 0
def zIs (n:Nat):Is:=⟨.full,zeros n⟩
theorem Y3 : ∀ (n:Nat) {p:Nat→Bool} {k:Nat},RJ p k (zeros n)=true
 | 0,_,_=>rfl
 | n+1,p,k=>by
   have ih:=Y3 n (p:=p) (k:=k+1)
   unfold zeros at *
   simp only [List.replicate_succ,RJ,ih,Bool.and_true]
   unfold countB; cases p k <;> rfl
theorem ACG {α:Type} {ok:α→Is→Bool} (f:α→Is) (hf : ∀ a,ok a (f a)=true) : ∀ ws:List α,J7 ok ws (ws.map f)=true
 | []=>rfl
 | a :: ws=>by simp only [lMc,J7,hf,ACG f hf ws,Bool.and_true]
structure Dat where
 pts:List (List Int)
 crs:List (List Int)
 sam:Int
 ill:Int
def AWP (v:Cvr):Dat:=⟨v.pts.map (·.l),v.crs.map (·.l),v.sam,v.ill⟩
theorem AS3 {p:Pt} {x:Is} (h:okP p x=true):x.l.length=p.bins.length:=by
 unfold okP at h; simp only [Bool.and_eq_true,beq_iff_eq] at h; exact h.1
theorem AS5 {m:Mo} {c:Cr} {x:Is} (h:okC m c x=true):x.l.length=IC (szs m c.pts):=by
 unfold okC at h; simp only [Bool.and_eq_true,beq_iff_eq] at h; exact h.1
theorem UO {α:Type} {ok:α→Is→Bool} (hok : ∀ a x y,x.l=y.l→ok a x=ok a y) : ∀ (ws:List α) (xs ys:List Is),xs.map (·.l)=ys.map (·.l)→J7 ok ws xs=J7 ok ws ys
 | [],[],[],_=>rfl
 | a :: ws,x :: xs,y :: ys,h=>by
   simp only [lMc,List.cons.injEq] at h
   simp only [J7,hok a x y h.1,UO hok ws xs ys h.2]
 | [],x :: xs,y :: ys,h=>rfl
 | a :: ws,[],[],h=>rfl
 | _,[],_ :: _,h=>by simp at h
 | _,_ :: _,[],h=>by simp at h
end Go.Proofs.YtocilianjfhifaaGreatDoor.Cov
set_option linter.unusedSimpArgs false
set_option maxRecDepth 8000
namespace Go.Proofs.YtocilianjfhifaaGreatDoor.Cov
open Sm Bins Go.RowKit
theorem mkI (h:Hp) (n:Nat) (hn:n≤1048576):JM Tryz.prog true h 57 (.int .i64 (n:Int)) (.int .i64 (n:Int))=some (.own h.length 0 n,h ++ [.live 1 ((zeros n).map encI)]):=by
 rw [AYA h n hn,AMM]
 simp [zeros]
theorem SS (h:Hp) (x y:ABlk):(h ++ [x]).set h.length y=h ++ [y]:=by simp
theorem AY1 (h:Hp) (m:SM) (xs:List (List AV)):FH Tryz.prog false h 26 1 [(0,.sl m 1 xs)]=some (.sl .full 1 [[.sl m 1 xs]],h):=by kernel_rfl
def TC:List Is→List Is→Bool
 | [],[]=>true
 | a :: ws,b :: bs=>eqL a.l b.l && TC ws bs
 | _,_=>false
theorem YB : ∀ {a b:List Is},TC a b=true↔a.map (·.l)=b.map (·.l)
 | [],[]=>by simp [TC]
 | x :: a,y :: b=>by
   have ih:=YB (a:=a) (b:=b)
   simp only [TC,Bool.and_eq_true,ih,lMc,List.cons.injEq,eqL,decide_eq_true_eq]
 | [],_ :: _=>by simp [TC]
 | _ :: _,[]=>by simp [TC]
theorem AQO {a b:List Is} (h:TC a b=true):a.length=b.length:=by
 have:=congrArg List.length (YB.1 h)
 simpa using this
theorem AN0 (a b:List Is) (k:Nat) (ha:k < a.length) (hb:k < b.length):TC (a.drop k) (b.drop k)=(eqL a[k].l b[k].l && TC (a.drop (k+1)) (b.drop (k+1))):=by
 rw [List.drop_eq_getElem_cons ha,List.drop_eq_getElem_cons hb]; rfl
theorem UK (G:Nat→AV) (a b:List Is) (s t:SM) (h:Hp) (hl:a.length≤1048576) (hb : ∀ x∈b,x.l.length≤1048576):PCall (En G) 86 [.sl s 1 (a.map encL),.sl t 1 (b.map encL)] h (.bool (TC a b)):=by
 refine CB (H:=Hint.none) (enM G) Tryz.func86 rfl (by kernel_rfl) (by kernel_rfl) (nLb (by kernel_rfl)) ?_
 show awp _ _ _ _ _ (EE _ [.tmp 4] _)
 simp -implicitDefEqProofs only [BC,BA,BI,A8,AY,BB,AO,AQ,AL,BD,AX,AC,AA,A7,AU,BM,BG,AZ,BR,D6,AB,EJ,BF,BN,↓reduceIte,Nat.reduceEqDiff,oGs,bNf,enP,TA,lLm]
 refine CW (fun h1 => ?_) (fun h1 => ?_)
 ·simp -implicitDefEqProofs only [BC,BA,BL,A8,CP,CJ,AY,BB,AO,AQ,AL,BD,AX,AC,AA,AU,BM,AZ,↓reduceIte,oGs,bNf]
  have:TC a b=false:=by
   rw [← Bool.not_eq_true]; intro e
   have:=AQO e
   simp [this] at h1
  exact ⟨by rw [this],trivial⟩
 have hab:a.length=b.length:=by simp at h1; omega
 simp -implicitDefEqProofs only [BC,BQ,BA,BO,A8,AY,BB,AO,AQ,AL,BD,AX,AC,AU,BH,AZ,oGs,bNf]
 refine DR (fun n F H => ∃ i,n+i=a.length∧F 0 = .sl s 1 (a.map encL)∧F 1 = .sl t 1 (b.map encL)∧F 5 = .int .i64 (i:Nat)∧H=h∧TC a b=TC (a.drop i) (b.drop i)) a.length ⟨0,by simp,by simp -implicitDefEqProofs only [AA,BF,↓reduceIte,Nat.reduceEqDiff],by simp -implicitDefEqProofs only [AA,BF,BN,↓reduceIte,Nat.reduceEqDiff],by simp -implicitDefEqProofs only [AA,↓reduceIte]; rfl,rfl,rfl⟩ ?_
 rintro n F H ⟨i,hi,f0,f1,f5,rfl,hf⟩
 simp -implicitDefEqProofs only [BC,BA,BI,A8,AY,BB,AO,AQ,AL,BD,AX,AC,AA,A7,BG,BR,D6,AB,DF,↓reduceIte,Nat.reduceEqDiff,oGs,bNf,enP,TA,f0,f5,lLm]
 refine CW (fun hc => ?_) (fun hc => ?_)
 ·have ha:i < a.length:=by simpa using hc
  have hbi:i < b.length:=by omega
  have hbl:=hb _ (List.getElem_mem hbi)
  rw [AN0 a b i ha hbi] at hf
  simp -implicitDefEqProofs only [BC,BQ,BO,A8]
  refine FD (by kernel_rfl) ?_
  simp -implicitDefEqProofs only [F9,EH,DX,EM,FP,FQ,ABB,ED,GV,GI,AO,AA,A7,BX,BV,G6,CG,AB,lMc,lMn,lAn,↓reduceIte,Nat.reduceEqDiff,Nat.reduceAdd,oGs,enP,NH,f0,f1,f5,D5 ha,DT LD ha,NV,D5 hbi,DT LD hbi]
  refine ⟨_,ABQ G a[i].l b[i].l _ _ _ (by omega),?_⟩
  try simp -implicitDefEqProofs only [DX,FC,BI,A8,AA,A7,AB,EX,↓reduceIte]
  cases he:eqL a[i].l b[i].l
  ·simp -implicitDefEqProofs only [BC,BA,BL,A8,CP,D8,FB,CJ,C9,AY,BB,AO,AQ,AL,BD,AX,AC,AA,AU,BM,AZ,↓reduceIte,oGs,bNf]
   exact ⟨by rw [hf,he]; rfl,trivial⟩
  ·simp -implicitDefEqProofs only [BA,BO,A8,EF,ER,DU,AY,BB,AO,AQ,AL,BD,AX,AC,AA,A7,AU,BH,BG,AZ,BR,AB,DI,↓reduceIte,Nat.reduceEqDiff,oGs,bNt,bNf,enP,f5,wrap_succ (show i < 9223372036854775807 by omega)]
   exact ⟨n - 1,by omega,i+1,by omega,f0,f1,rfl,trivial,by rw [hf,he]; rfl⟩
 ·have ha : ¬ i < a.length:=by simpa using hc
  simp -implicitDefEqProofs only [BC,BA,BL,DL,A8,EC,EY,EW,CJ,AY,BB,AO,AQ,AL,BD,AX,AC,AA,AU,BM,AZ,↓reduceIte,oGs,bNf]
  exact ⟨by rw [hf,List.drop_eq_nil_of_le (by omega),List.drop_eq_nil_of_le (by omega)]; rfl,trivial⟩
def eqV (a b:Cvr):Bool:=TC a.pts b.pts && TC a.crs b.crs && (a.sam == b.sam) && (a.ill == b.ill)
theorem ATZ {a b:Cvr}:eqV a b=true↔AWP a=AWP b:=by
 unfold eqV AWP
 simp only [Bool.and_eq_true,YB,beq_iff_eq,Dat.mk.injEq]
 exact ⟨fun ⟨⟨⟨h1,h2⟩,h3⟩,h4⟩=>⟨h1,h2,h3,h4⟩,fun ⟨h1,h2,h3,h4⟩=>⟨⟨⟨h1,h2⟩,h3⟩,h4⟩⟩
structure VV (h H:Hp) (a b:Cvr) (bb:Nat):Prop where
 ga:H[h.length]? = some (.live 4 [FZ a])
 gb:H[bb]? = some (.live 4 [FZ b])
 hx : ∃ x,H=h ++ x
theorem VV.mk' (h:Hp) (a b:Cvr):VV h (h ++ [.live 4 [FZ a]] ++ [.live 4 [FZ b]]) a b (h ++ [ABlk.live 4 [FZ a]]).length:=⟨CX (CY _ _),CY _ _,⟨_,List.append_assoc _ _ _⟩⟩
section
variable {H:Hp} {v:Cvr} {vb:Nat} (gv:H[vb]? = some (.live 4 [FZ v]))
include gv
theorem lv0:DZ Tryz.prog H 26 (.ptr vb 0 0)=some (.sl v.pm 1 (v.pts.map encL)):=by rw [DJ NZ gv (row:=FZ v) rfl,AIL]
theorem lv1:DZ Tryz.prog H 26 (.ptr vb 0 1)=some (.sl v.cm 1 (v.crs.map encL)):=by rw [DJ NZ gv (row:=FZ v) rfl,AET]
theorem lv2:DZ Tryz.prog H 3 (.ptr vb 0 2)=some (.int .i64 v.sam):=by rw [DJ ag3 gv (row:=FZ v) rfl,AMJ]
theorem lv3:DZ Tryz.prog H 3 (.ptr vb 0 3)=some (.int .i64 v.ill):=by rw [DJ ag3 gv (row:=FZ v) rfl,AMI]
end
theorem AV1 (G:Nat→AV) (a b:Cvr) (h:Hp) (ha:CvOk a) (hb:CvOk b):PCall (En G) 36 [.agg (FZ a),.agg (FZ b)] h (.bool (eqV a b)):=by
 refine ACalls.pure0 rfl ?_
 refine CB (H:=Hint.none) (enM G) Tryz.func36 rfl (by kernel_rfl) (by kernel_rfl) (nLb (by kernel_rfl)) ?_
 show awp _ _ _ _ _ (EE _ [.tmp 4] _)
 have t:=VV.mk' h a b
 simp -implicitDefEqProofs only [BC,BA,A8,AY,BB,AO,AQ,AL,BD,AX,AC,AA,A7,AU,BM,AZ,FV,BV,BK,CE,AB,BF,BN,↓reduceIte,Nat.reduceEqDiff,Nat.add_zero,oGs,bNf,enP,L9,bxV]
 generalize h ++ [ABlk.live 4 [FZ a]] ++ [ABlk.live 4 [FZ b]]=H at t ⊢
 generalize (h ++ [ABlk.live 4 [FZ a]]).length=bb at t ⊢
 simp -implicitDefEqProofs only [AY,AO,AQ,AL,BD,AX,AC,AA,A7,BX,BV,BK,BZ,BU,AB,lMc,lMn,lAn,↓reduceIte,Nat.reduceEqDiff,Nat.add_zero,oGs,bNf,enP,L9,lv0 t.ga,lv0 t.gb]
 refine (UK G _ _ _ _ _ ha.pts hb.eachP).use ?_
 simp -implicitDefEqProofs only [AY,BJ,BP,CO,AO,AQ,AL,BD,AX,AC,AA,A7,BG,↓reduceIte,oGs,bNf]
 cases h1:TC a.pts b.pts
 ·simp -implicitDefEqProofs only [BL,A8,CJ,AY,BB,BJ,BP,CO,H7,AO,AQ,AL,BD,AX,AC,AA,EQ,A7,AU,BM,BG,AZ,CQ,DK,↓reduceIte,Nat.reduceEqDiff,oGs,bNf]
  exact ⟨by unfold eqV; rw [h1]; rfl,t.hx⟩
 simp -implicitDefEqProofs only [BJ,BP,CO,FY,AO,AQ,AL,BD,AX,AC,AA,A7,BX,BV,BK,BZ,BU,AB,lMc,lMn,lAn,↓reduceIte,Nat.reduceEqDiff,Nat.zero_add,oGs,bNf,enP,L8,lv1 t.ga,lv1 t.gb]
 refine (UK G _ _ _ _ _ ha.crs hb.eachC).use ?_
 simp -implicitDefEqProofs only [AY,BJ,BP,CO,AO,AQ,AL,BD,AX,AC,AA,A7,AU,BM,BG,CQ,DN,↓reduceIte,Nat.reduceEqDiff,oGs,bNf]
 cases h2:TC a.crs b.crs
 ·simp -implicitDefEqProofs only [BL,A8,CJ,AY,BB,BJ,BP,CO,H7,AO,AQ,AL,BD,AX,AC,AA,EQ,A7,AU,BM,BG,AZ,CQ,DK,↓reduceIte,Nat.reduceEqDiff,oGs,bNf]
  exact ⟨by unfold eqV; rw [h1,h2]; rfl,t.hx⟩
 simp -implicitDefEqProofs only [AY,BJ,BP,CO,FY,AO,AQ,AL,BD,AX,AC,AA,A7,AU,BM,BG,CQ,DN,BV,BR,BK,AB,DY,↓reduceIte,Nat.reduceEqDiff,Nat.zero_add,oGs,bNf,enP,WV,lv2 t.ga,lv2 t.gb]
 cases h3:(a.sam == b.sam)
 ·simp -implicitDefEqProofs only [BL,A8,CJ,AY,BB,BJ,BP,CO,H7,AO,AQ,AL,BD,AX,AC,AA,EQ,A7,AU,BM,AZ,CQ,DK,↓reduceIte,Nat.reduceEqDiff,oGs,bNf]
  exact ⟨by unfold eqV; rw [h1,h2,h3]; rfl,t.hx⟩
 simp -implicitDefEqProofs only [BL,A8,CJ,AY,BB,BJ,BP,CO,FY,AO,AQ,AL,BD,AX,AC,AA,A7,AU,BM,AZ,CQ,DN,BV,BR,BK,AB,DY,↓reduceIte,Nat.reduceEqDiff,Nat.zero_add,oGs,bNf,enP,WU,lv3 t.ga,lv3 t.gb]
 exact ⟨by unfold eqV; rw [h1,h2,h3]; rfl,t.hx⟩
theorem AQQ {P:Program} {a t:Nat} {R:AV→Hp→Prop} {F:Fr} {h:Hp} {x:AV} {b:Nat} (hF:F a = .ptr b 0 0) (h1:DZ P h t (.ptr b 0 0)=some x):EE P [.cell a t] R .ret F h=R x h:=by simp [EE,ZQ,Q3,hF,h1]
theorem AWM {P:Program} {a t b u:Nat} {R:AV→Hp→Prop} {F:Fr} {h:Hp} {x y:AV} {ba bb:Nat} (hF:F a = .ptr ba 0 0) (hG:F b = .ptr bb 0 0) (h1:DZ P h t (.ptr ba 0 0)=some x) (h2:DZ P h u (.ptr bb 0 0)=some y):EE P [.cell a t,.cell b u] R .ret F h=R (.tup [x,y]) h:=by simp [EE,ZQ,PV,Q3,hF,hG,h1,h2]
theorem VI {P:Program} {a t b u c:Nat} {R:AV→Hp→Prop} {F:Fr} {h:Hp} {x y:AV} {ba bb:Nat} (hF:F a = .ptr ba 0 0) (hG:F b = .ptr bb 0 0) (h1:DZ P h t (.ptr ba 0 0)=some x) (h2:DZ P h u (.ptr bb 0 0)=some y):EE P [.cell a t,.cell b u,.tmp c] R .ret F h=R (.tup [x,y,F c]) h:=by simp [EE,ZQ,PV,Q3,hF,hG,h1,h2]
theorem AGD {P:Program} {a t c:Nat} {R:AV→Hp→Prop} {F:Fr} {h:Hp} {x:AV} {ba:Nat} (hF:F a = .ptr ba 0 0) (h1:DZ P h t (.ptr ba 0 0)=some x):EE P [.cell a t,.tmp c] R .ret F h=R (.tup [x,F c]) h:=by simp [EE,ZQ,PV,Q3,hF,h1]
def fzG {α:Type} (k:Nat) (f:α→List AV) (ys:List α):AV:=match ys with
 | [] => .sl .nil 0 []
 | _ => .sl .any k (ys.map f)
theorem AIC {α:Type} {k:Nat} {f:α→List AV} {h H:Hp} {ys:List α} {v:AV} (hf:Frz f) (ho:outG k f h ys v H) (n d:Nat) (hn:n≤h.length):II n H (d+2) v=fzG k f ys:=by
 rcases ho with ⟨rfl,rfl⟩ | ⟨hne,o,h2,rfl,h3⟩
 ·rfl
 ·rw [X4 hf (Nat.le_trans hn h2) h3]
  cases ys with
  | nil=>exact absurd rfl hne
  | cons _ _=>rfl
theorem ACA {α:Type} {k:Nat} {f:α→List AV} {ys:List α}:CvR (fzG k f ys) (.sl (nm ys) k (ys.map f)):=by
 cases ys with
 | nil=>exact CvR.sl (Cv.nil 0 k)
 | cons y ys=>exact CvR.refl _
theorem outG.app2 {P:Program} {t e:TypeId} {α:Type} {k bs:Nat} {f:α→List AV} {h H:Hp} {ys:List α} {v:AV} (ho:outG k f h ys v H) (hu:P.underlying t=some (.slice e)) (hs:szO P e=some k) (hz:VN P e=some k) (hb:NI P e=some bs) (hbs:bs≤4194304) (hl:ys.length < 8388608) (he:h.length≤H.length) (y:α) :
  ∃ v' H',GU P true H t t v (.sl .full k [f y])=some (v',H')∧outG k f h (ys ++ [y]) v' H'∧(∀ b x,H[b]? = some x→¬ isB v b→H'[b]? = some x)∧H'.length=H.length+1∧(∀ b,isB v' b→b=H.length)∧(∃ o l,v' = .own o 0 l)∧∀ e:Hp,e.length≤h.length→ext e H→ext e H':=by
 have h1:([f y]:List (List AV))≠[]:=by simp
 rcases ho with ⟨rfl,rfl⟩ | ⟨hne,o,h2,rfl,h3⟩
 ·exact ⟨_,_,TI hu hs hz hb (KA H .full k [f y]) h1 (JO (by simp) hbs),.inr ⟨by simp,H.length,he,rfl,by simp⟩,fun b x hb _=>FU hb,by simp,fun b hb=>hb.symm,⟨_,_,rfl⟩,fun e _ hx=>hx.app _⟩
 ·have hc:KC H (.own o 0 ys.length)=some (k,ys.map f):=by
   rw [QB h3 (by simp),List.drop_zero,List.take_of_length_le (by simp)]
  refine ⟨_,_,VL hu hs hz hb hc (KA H .full k [f y]) h1 (JO (by simp; omega) hbs),.inr ⟨by simp,H.length,he,by simp,by simp⟩,fun b x hb hn => ?_,by simp,fun b hb=>hb.symm,⟨_,_,rfl⟩,fun e hl hx=>(hx.set (Nat.le_trans hl h2) _).app _⟩
  have hn' : ¬ o=b:=hn
  refine FU ?_
  rw [List.getElem?_set,if_neg hn']; exact hb
theorem MX {P:Program} {H:Hp} {t b k j:Nat} {row cs:List AV} {v:AV} (hc:I9 v=some cs) (hs:szO P t=some cs.length) (hb:H[b]? = some (.live k [row])) (hl:j+cs.length≤row.length):FM P H t (.ptr b 0 j) v=some (H.set b (.live k [splice row j cs])):=by
 rw [KI (i:=0) hc hs hb rfl hl]; rfl
structure Tk where
 m:SM
 last:List Is
def IM (t:Tk):List AV := [.sl t.m 1 (t.last.map encL)]
theorem ACO (t:Tk):(IM t).length=1:=rfl
def zT:Tk:=⟨.nil,[]⟩
def zV:Cvr:=⟨.nil,[],.nil,[],0,0⟩
def F8:List AV := [.sl .nil 0 []]
theorem AUW:CvR (.agg [.sl .nil 0 [],.sl .nil 0 [],.int .i64 0,.int .i64 0]) (.agg (FZ zV)):=CvR.agg (CvRL.cons (CvR.sl (Cv.nil 0 1)) (CvRL.cons (CvR.sl (Cv.nil 0 1)) (CvRL.cons (CvR.refl _) (CvRL.cons (CvR.refl _) CvRL.nil))))
theorem AXA:CvR (.agg [.sl .nil 0 []]) (.agg (IM zT)):=CvR.agg (CvRL.cons (CvR.sl (Cv.nil 0 1)) CvRL.nil)
def F5:List AV := [.sl .nil 0 [],.sl .nil 0 [],.int .i64 0,.int .i64 0]
theorem SB (h:Hp):J3 Tryz.prog h 28=some (.ptr h.length 0 0,h ++ [.live 4 [F5]]):=JV (row:=F5) (by kernel_rfl)
theorem ADY (h:Hp):J3 Tryz.prog h 47=some (.ptr h.length 0 0,h ++ [.live 1 [F8]]):=JV (row:=F8) (by kernel_rfl)
theorem TM:KU Tryz.prog 28 []=some (.agg F5):=by kernel_rfl
theorem V7:KU Tryz.prog 47 []=some (.agg F8):=by kernel_rfl
theorem stV {H:Hp} {b:Nat} {row:List AV} {v:Cvr} (hb:H[b]? = some (.live 4 [row])) (hr:row.length=4):FM Tryz.prog H 28 (.ptr b 0 0) (.agg (FZ v))=some (H.set b (.live 4 [FZ v])):=by
 rw [MX (cs:=FZ v) rfl AJI hb (by rw [hr]; exact Nat.le_refl 4)]
 have:splice row 0 (FZ v)=FZ v:=by unfold splice; simp [ACN,hr]
 rw [this]
theorem stZ {H:Hp} {b:Nat} {row:List AV} (hb:H[b]? = some (.live 4 [row])) (hr:row.length=4):FM Tryz.prog H 28 (.ptr b 0 0) (.agg F5)=some (H.set b (.live 4 [F5])):=by
 rw [MX (cs:=F5) rfl AJI hb (by rw [hr]; exact Nat.le_refl 4)]
 have:splice row 0 F5=F5:=by unfold splice; simp [F5,hr]
 rw [this]
theorem stT {H:Hp} {b:Nat} {row:List AV} {t:Tk} (hb:H[b]? = some (.live 1 [row])) (hr:row.length=1):FM Tryz.prog H 47 (.ptr b 0 0) (.agg (IM t))=some (H.set b (.live 1 [IM t])):=by
 rw [MX (cs:=IM t) rfl AM2 hb (by rw [hr]; exact Nat.le_refl 1)]
 have:splice row 0 (IM t)=IM t:=by unfold splice; rw [ACO,List.take_zero,List.drop_eq_nil_of_le (by omega)]; simp
 rw [this]
theorem VS {H:Hp} {b:Nat} {row:List AV} (hb:H[b]? = some (.live 1 [row])) (hr:row.length=1):FM Tryz.prog H 47 (.ptr b 0 0) (.agg F8)=some (H.set b (.live 1 [F8])):=by
 rw [MX (cs:=F8) rfl AM2 hb (by rw [hr]; exact Nat.le_refl 1)]
 have:splice row 0 F8=F8:=by unfold splice; rw [List.take_zero,List.drop_eq_nil_of_le (by rw [hr]; exact Nat.le_refl 1)]; simp
 rw [this]
theorem ldT {h:Hp} {b:Nat} {t:Tk} (hb:h[b]? = some (.live 1 [IM t])):DZ Tryz.prog h 47 (.ptr b 0 0)=some (.agg (IM t)):=by
 rw [IY AW4 AM2 hb rfl (by rw [ACO]; exact Nat.le_refl 1)]; rfl
theorem KN {h:Hp} {b:Nat} {row:List AV} (hb:h[b]? = some (.live 4 [row])) (hr:row.length=4):DZ Tryz.prog h 28 (.ptr b 0 0)=some (.agg row):=by
 rw [IY AW5 AJI hb rfl (by rw [hr]; exact Nat.le_refl 4),List.drop_zero,List.take_of_length_le (by omega)]
theorem OB {h:Hp} {b:Nat} {row:List AV} (hb:h[b]? = some (.live 1 [row])) (hr:row.length=1):DZ Tryz.prog h 47 (.ptr b 0 0)=some (.agg row):=by
 rw [IY AW4 AM2 hb rfl (by rw [hr]; exact Nat.le_refl 1),List.drop_zero,List.take_of_length_le (by omega)]
theorem ANG {ns:List Nat} (h : ∀ n∈ns,1≤n):1≤IC ns:=ABW ns 0 h
theorem X7 {α:Type} {ok:α→Is→Bool} : ∀ {ws:List α} {xs:List Is},J7 ok ws xs=true→∀ x∈xs,∃ a∈ws,ok a x=true
 | [],[],_,x,hx=>by cases hx
 | a :: ws,y :: xs,h,x,hx=>by
   simp only [J7,Bool.and_eq_true] at h
   rcases List.mem_cons.1 hx with rfl | hx
   ·exact ⟨a,by simp,h.1⟩
   ·obtain ⟨b,hb,hk⟩:=X7 h.2 x hx
    exact ⟨b,by simp [hb],hk⟩
 | [],_ :: _,h,_,_=>by cases h
 | _ :: _,[],h,_,_=>by cases h
theorem ASU {m:Mo} {v:Cvr} (h:KY m v=true):v.pts.length=m.pts.length∧v.crs.length=m.crs.length∧(∀ x∈v.pts,1≤x.l.length∧x.l.length≤64)∧(∀ x∈v.crs,1≤x.l.length∧x.l.length≤256):=by
 have hg:=PZ (ACF h)
 rw [VE] at h
 obtain ⟨_,h2,h3,_,_⟩:=h
 refine ⟨(OC h2).symm,(OC h3).symm,fun x hx => ?_,fun x hx => ?_⟩
 ·obtain ⟨p,hp,hk⟩:=X7 h2 x hx
  have:=hg.full p hp
  rw [AS3 hk]; exact this
 ·obtain ⟨c,hc,hk⟩:=X7 h3 x hx
  have hcg:=hg.crs c hc
  have hs:=hg.full.szs hcg.here
  rw [AS5 hk]
  exact ⟨ANG fun n hn=>(hs n hn).1,hcg.prod⟩
theorem AN4 {m:Mo} {v:Cvr} (h:KY m v=true):CvOk v:=by
 have hn:=(PZ (ACF h)).num
 obtain ⟨h1,h2,h3,h4⟩:=ASU h
 exact ⟨by omega,by omega,fun x hx=>by have:=h3 x hx; omega,fun x hx=>by have:=h4 x hx; omega⟩
theorem AQN (a:Cvr):eqV a a=true:=ATZ.2 rfl
theorem outG.setB {α:Type} {k:Nat} {f:α→List AV} {h H:Hp} {ys:List α} {v:AV} {b:Nat} (ho:outG k f h ys v H) (hb:b < h.length) (y:ABlk):outG k f h ys v (H.set b y) :=
 ho.keep fun b' hb'=>by
  have:=ho.lt hb'
  rw [List.getElem?_set_ne (by omega)]
theorem outG.keepA {α:Type} {k:Nat} {f:α→List AV} {h H H':Hp} {ys:List α} {v u:AV} (ho:outG k f h ys v H) (hk : ∀ b x,H[b]? = some x→¬ isB u b→H'[b]? = some x) (hd : ∀ b,isB v b→¬ isB u b):outG k f h ys v H':=by
 rcases ho with h1 | ⟨h1,o,h2,rfl,h3⟩
 ·exact .inl h1
 ·exact .inr ⟨h1,o,h2,rfl,hk _ _ h3 (hd o rfl)⟩
theorem outG.leaf {α:Type} {k:Nat} {f:α→List AV} {h H:Hp} {ys:List α} {v:AV} (ho:outG k f h ys v H):v.leaf=true:=by
 rcases ho with ⟨_,rfl⟩ | ⟨_,o,_,rfl,_⟩ <;> rfl
theorem outG.base {α:Type} {k:Nat} {f:α→List AV} {h h' H:Hp} {ys:List α} {v:AV} (ho:outG k f h ys v H) (hl:h'.length≤h.length):outG k f h' ys v H:=by
 rcases ho with h1 | ⟨h1,o,h2,rfl,h3⟩
 ·exact .inl h1
 ·exact .inr ⟨h1,o,Nat.le_trans hl h2,rfl,h3⟩
def IQ (v1 v2:AV):List AV := [v1,v2,.int .i64 0,.int .i64 0]
structure Em (h H:Hp) (m:Mo) (b2 b3 b4 b5:Nat) (v1 v2 v3:AV):Prop where
 gm:H[h.length]? = some (.live 2 [EN m])
 g2:H[b2]? = some (.live 4 [F5])
 g3:H[b3]? = some (.live 1 [F8])
 g4:H[b4]? = some (.live 4 [IQ v1 v2])
 g5:H[b5]? = some (.live 1 [[v3]])
 o2:h.length < b2
 o3:b2 < b3
 o4:b3 < b4
 o5:b4 < b5
 hx:ext h H
section
variable {h H:Hp} {m:Mo} {b2 b3 b4 b5:Nat} {v1 v2 v3:AV} (E:Em h H m b2 b3 b4 b5 v1 v2 v3)
include E
theorem Em.m0:DZ Tryz.prog H 22 (.ptr h.length 0 0)=some (.sl m.pm 6 (m.pts.map FX)):=by rw [DJ TS E.gm (row:=EN m) rfl,OO]
theorem Em.m1:DZ Tryz.prog H 23 (.ptr h.length 0 1)=some (.sl m.cm 3 (m.crs.map F7)):=by rw [DJ AC9 E.gm (row:=EN m) rfl,UR]
theorem Em.l4:DZ Tryz.prog H 26 (.ptr b4 0 0)=some v1:=by rw [DJ NZ E.g4 (row:=IQ v1 v2) rfl]; rfl
theorem Em.l4':DZ Tryz.prog H 26 (.ptr b4 0 1)=some v2:=by rw [DJ NZ E.g4 (row:=IQ v1 v2) rfl]; rfl
theorem Em.l5:DZ Tryz.prog H 26 (.ptr b5 0 0)=some v3:=by rw [DJ NZ E.g5 (row := [v3]) rfl]; rfl
theorem Em.app (x:Hp):Em h (H ++ x) m b2 b3 b4 b5 v1 v2 v3:=⟨FU E.gm,FU E.g2,FU E.g3,FU E.g4,FU E.g5,E.o2,E.o3,E.o4,E.o5,E.hx.app _⟩
theorem Em.keep {H':Hp} {u:AV} (hk : ∀ b x,H[b]? = some x→¬ isB u b→H'[b]? = some x) (hu : ∀ b,isB u b→b5 < b) (hx:ext h H→ext h H'):Em h H' m b2 b3 b4 b5 v1 v2 v3:=by
 have o2:=E.o2; have o3:=E.o3; have o4:=E.o4; have o5:=E.o5
 exact ⟨hk _ _ E.gm (fun e=>by have:=hu _ e; omega),hk _ _ E.g2 (fun e=>by have:=hu _ e; omega),hk _ _ E.g3 (fun e=>by have:=hu _ e; omega),hk _ _ E.g4 (fun e=>by have:=hu _ e; omega),hk _ _ E.g5 (fun e=>by have:=hu _ e; omega),o2,o3,o4,o5,hx E.hx⟩
theorem Em.set4 (w1 w2:AV):Em h (H.set b4 (.live 4 [IQ w1 w2])) m b2 b3 b4 b5 w1 w2 v3:=by
 have o2:=E.o2; have o3:=E.o3; have o4:=E.o4; have o5:=E.o5
 exact ⟨CV E.gm (by omega),CV E.g2 (by omega),CV E.g3 (by omega),EI E.g4,CV E.g5 (by omega),o2,o3,o4,o5,E.hx.set (by omega) _⟩
theorem Em.set5 (w3:AV):Em h (H.set b5 (.live 1 [[w3]])) m b2 b3 b4 b5 v1 v2 w3:=by
 have o2:=E.o2; have o3:=E.o3; have o4:=E.o4; have o5:=E.o5
 exact ⟨CV E.gm (by omega),CV E.g2 (by omega),CV E.g3 (by omega),CV E.g4 (by omega),EI E.g5,o2,o3,o4,o5,E.hx.set (by omega) _⟩
theorem Em.s4 {o l:Nat}:FM Tryz.prog H 26 (.ptr b4 0 0) (.own o 0 l)=some (H.set b4 (.live 4 [IQ (.own o 0 l) v2])):=MX (row:=IQ v1 v2) (XA _ _ _) AFH E.g4 (by simp [IQ])
theorem Em.s4' {o l:Nat}:FM Tryz.prog H 26 (.ptr b4 0 1) (.own o 0 l)=some (H.set b4 (.live 4 [IQ v1 (.own o 0 l)])):=MX (row:=IQ v1 v2) (XA _ _ _) AFH E.g4 (by simp [IQ])
theorem Em.s5 {o l:Nat}:FM Tryz.prog H 26 (.ptr b5 0 0) (.own o 0 l)=some (H.set b5 (.live 1 [[.own o 0 l]])):=MX (row := [v3]) (XA _ _ _) AFH E.g5 (by simp)
theorem Em.lt:b5 < H.length:=CU E.g5
end
theorem Em.mk' (h:Hp) (m:Mo):Em h (h ++ [ABlk.live 2 [EN m]] ++ [ABlk.live 4 [F5]] ++ [ABlk.live 1 [F8]] ++ [ABlk.live 4 [F5]] ++ [ABlk.live 1 [F8]]) m (h ++ [ABlk.live 2 [EN m]]).length (h ++ [ABlk.live 2 [EN m]] ++ [ABlk.live 4 [F5]]).length
  (h ++ [ABlk.live 2 [EN m]] ++ [ABlk.live 4 [F5]] ++ [ABlk.live 1 [F8]]).length (h ++ [ABlk.live 2 [EN m]] ++ [ABlk.live 4 [F5]] ++ [ABlk.live 1 [F8]] ++ [ABlk.live 4 [F5]]).length (.sl .nil 0 []) (.sl .nil 0 []) (.sl .nil 0 []) :=
 ⟨CX (CX (CX (CX (CY _ _)))),CX (CX (CX (CY _ _))),CX (CX (CY _ _)),CX (CY _ _),CY _ _,by simp,by simp,by simp,by simp,((((ext.rfl' h).app _).app _).app _).app _ |>.app _⟩
theorem AY0 (h:Hp):FH Tryz.prog false h 26 1 [(0,.sl .nil 0 [])]=some (.sl .full 1 [F8],h):=by kernel_rfl
theorem AHB {H:Hp} {b:Nat} {row:List AV} {v1 v2:AV} (hb:H[b]? = some (.live 4 [row])) (hr:row.length=4) (h1:v1.leaf=true) (h2:v2.leaf=true):FM Tryz.prog H 28 (.ptr b 0 0) (.agg (IQ v1 v2))=some (H.set b (.live 4 [IQ v1 v2])):=by
 rw [MX (cs:=IQ v1 v2) (U0 (by simp [IQ,h1,h2]; rfl)) AJI hb (by rw [hr]; exact Nat.le_refl 4)]
 have:splice row 0 (IQ v1 v2)=IQ v1 v2:=by unfold splice; rw [List.take_zero,List.drop_eq_nil_of_le (by rw [hr]; exact Nat.le_refl 4)]; simp
 rw [this]
theorem AHA {H:Hp} {b:Nat} {row:List AV} {v3:AV} (hb:H[b]? = some (.live 1 [row])) (hr:row.length=1) (h3:v3.leaf=true):FM Tryz.prog H 47 (.ptr b 0 0) (.agg [v3])=some (H.set b (.live 1 [[v3]])):=by
 rw [MX (cs := [v3]) (U0 (by simp [h3])) AM2 hb (by rw [hr]; exact Nat.le_refl 1)]
 have:splice row 0 [v3] = [v3]:=by unfold splice; rw [List.take_zero,List.drop_eq_nil_of_le (by rw [hr]; exact Nat.le_refl 1)]; simp
 rw [this]
structure Er (h H:Hp) (m:Mo) (b2 b3:Nat) (v1 v2:AV):Prop where
 gm:H[h.length]? = some (.live 2 [EN m])
 g2:H[b2]? = some (.live 4 [F5])
 g3:H[b3]? = some (.live 4 [IQ v1 v2])
 o2:h.length < b2
 o3:b2 < b3
 hx:ext h H
section
variable {h H:Hp} {m:Mo} {b2 b3:Nat} {v1 v2:AV} (E:Er h H m b2 b3 v1 v2)
include E
theorem Er.m0:DZ Tryz.prog H 22 (.ptr h.length 0 0)=some (.sl m.pm 6 (m.pts.map FX)):=by rw [DJ TS E.gm (row:=EN m) rfl,OO]
theorem Er.m1:DZ Tryz.prog H 23 (.ptr h.length 0 1)=some (.sl m.cm 3 (m.crs.map F7)):=by rw [DJ AC9 E.gm (row:=EN m) rfl,UR]
theorem Er.l3:DZ Tryz.prog H 26 (.ptr b3 0 0)=some v1:=by rw [DJ NZ E.g3 (row:=IQ v1 v2) rfl]; rfl
theorem Er.l3':DZ Tryz.prog H 26 (.ptr b3 0 1)=some v2:=by rw [DJ NZ E.g3 (row:=IQ v1 v2) rfl]; rfl
theorem Er.keep {H':Hp} {u:AV} (hk : ∀ b x,H[b]? = some x→¬ isB u b→H'[b]? = some x) (hu : ∀ b,isB u b→b3 < b) (hx:ext h H→ext h H'):Er h H' m b2 b3 v1 v2:=by
 have o2:=E.o2; have o3:=E.o3
 exact ⟨hk _ _ E.gm (fun e=>by have:=hu _ e; omega),hk _ _ E.g2 (fun e=>by have:=hu _ e; omega),hk _ _ E.g3 (fun e=>by have:=hu _ e; omega),o2,o3,hx E.hx⟩
theorem Er.set3 (w1 w2:AV):Er h (H.set b3 (.live 4 [IQ w1 w2])) m b2 b3 w1 w2:=by
 have o2:=E.o2; have o3:=E.o3
 exact ⟨CV E.gm (by omega),CV E.g2 (by omega),EI E.g3,o2,o3,E.hx.set (by omega) _⟩
theorem Er.s3 {o l:Nat}:FM Tryz.prog H 26 (.ptr b3 0 0) (.own o 0 l)=some (H.set b3 (.live 4 [IQ (.own o 0 l) v2])):=MX (row:=IQ v1 v2) (XA _ _ _) AFH E.g3 (by simp [IQ])
theorem Er.s3' {o l:Nat}:FM Tryz.prog H 26 (.ptr b3 0 1) (.own o 0 l)=some (H.set b3 (.live 4 [IQ v1 (.own o 0 l)])):=MX (row:=IQ v1 v2) (XA _ _ _) AFH E.g3 (by simp [IQ])
theorem Er.lt:b3 < H.length:=CU E.g3
end
theorem Er.mk' (h:Hp) (m:Mo):Er h (h ++ [ABlk.live 2 [EN m]] ++ [ABlk.live 4 [F5]] ++ [ABlk.live 4 [F5]]) m (h ++ [ABlk.live 2 [EN m]]).length (h ++ [ABlk.live 2 [EN m]] ++ [ABlk.live 4 [F5]]).length (.sl .nil 0 []) (.sl .nil 0 []) :=
 ⟨CX (CX (CY _ _)),CX (CY _ _),CY _ _,by simp,by simp,(((ext.rfl' h).app _).app _).app _⟩
theorem AVV (h:Hp):FM Tryz.prog (h ++ [.live 4 [F5]]) 28 (.ptr h.length 0 0) (.agg F5)=some (h ++ [.live 4 [F5]]):=by rw [stZ (CY _ _) rfl,SS]
theorem AVX (h:Hp):FM Tryz.prog (h ++ [.live 1 [F8]]) 47 (.ptr h.length 0 0) (.agg F8)=some (h ++ [.live 1 [F8]]):=by rw [VS (CY _ _) rfl,SS]
theorem AEC {E:Env} {f:FuncId} {args:List AV} {h:Hp} {r:AV} (d:Nat) (hr : ∀ n H,II n H d r=r) (hc:ACalls E f args h fun v H=>v=r∧ext h H):PCall E f args h r :=
 ACalls.pure d hc fun v H ⟨e,he⟩=>⟨he,by rw [e]; exact hr _ _⟩
structure Ee (h H:Hp) (m:Mo) (b2 b3:Nat):Prop where
 gm:H[h.length]? = some (ABlk.live 2 [EN m])
 g2:H[b2]? = some (ABlk.live 4 [F5])
 g3:H[b3]? = some (ABlk.live 1 [F8])
 o2:h.length < b2
 o3:b2 < b3
 hx:ext h H
theorem Ee.mk' (h:Hp) (m:Mo):Ee h (h ++ [ABlk.live 2 [EN m]] ++ [ABlk.live 4 [F5]] ++ [ABlk.live 1 [F8]]) m (h ++ [ABlk.live 2 [EN m]]).length (h ++ [ABlk.live 2 [EN m]] ++ [ABlk.live 4 [F5]]).length :=
 ⟨CX (CX (CY _ _)),CX (CY _ _),CY _ _,by simp,by simp,(((ext.rfl' h).app _).app _).app _⟩
theorem Ee.lt {h H:Hp} {m:Mo} {b2 b3:Nat} (E:Ee h H m b2 b3):b3 < H.length:=CU E.g3
theorem Ee.m0 {h H:Hp} {m:Mo} {b2 b3:Nat} (E:Ee h H m b2 b3):DZ Tryz.prog H 22 (.ptr h.length 0 0)=some (.sl m.pm 6 (m.pts.map FX)):=by rw [DJ TS E.gm (row:=EN m) rfl,OO]
theorem AYD (H0:Hp) (c:Cvr) (t:Tk) :
  FM Tryz.prog (H0 ++ [ABlk.live 4 [F5]] ++ [ABlk.live 1 [F8]]) 28 (.ptr H0.length 0 0) (.agg (FZ c))=some ((H0 ++ [ABlk.live 4 [F5]] ++ [ABlk.live 1 [F8]]).set H0.length (ABlk.live 4 [FZ c])) ∧
  FM Tryz.prog ((H0 ++ [ABlk.live 4 [F5]] ++ [ABlk.live 1 [F8]]).set H0.length (ABlk.live 4 [FZ c])) 47 (.ptr (H0 ++ [ABlk.live 4 [F5]]).length 0 0) (.agg (IM t))=some (((H0 ++ [ABlk.live 4 [F5]] ++ [ABlk.live 1 [F8]]).set H0.length (ABlk.live 4 [FZ c])).set (H0 ++ [ABlk.live 4 [F5]]).length (ABlk.live 1 [IM t])) ∧
  (((H0 ++ [ABlk.live 4 [F5]] ++ [ABlk.live 1 [F8]]).set H0.length (ABlk.live 4 [FZ c])).set (H0 ++ [ABlk.live 4 [F5]]).length (ABlk.live 1 [IM t]))[H0.length]? = some (ABlk.live 4 [FZ c]) ∧
  (((H0 ++ [ABlk.live 4 [F5]] ++ [ABlk.live 1 [F8]]).set H0.length (ABlk.live 4 [FZ c])).set (H0 ++ [ABlk.live 4 [F5]]).length (ABlk.live 1 [IM t]))[(H0 ++ [ABlk.live 4 [F5]]).length]? = some (ABlk.live 1 [IM t]) ∧
  ext H0 (((H0 ++ [ABlk.live 4 [F5]] ++ [ABlk.live 1 [F8]]).set H0.length (ABlk.live 4 [FZ c])).set (H0 ++ [ABlk.live 4 [F5]]).length (ABlk.live 1 [IM t])) :=
 ⟨stV (CX (CY _ _)) rfl,stT (CV (CY _ _) (by simp)) rfl,CV (EI (CX (CY _ _))) (by simp),EI (CV (CY _ _) (by simp)),((((ext.rfl' H0).app _).app _).set (Nat.le_refl _) _).set (by simp) _⟩
theorem EU {h H:Hp} {b:Nat} {x:ABlk} (he:ext h H) (hb:h[b]? = some x):H[b]? = some x:=by
 obtain ⟨y,rfl⟩:=he
 exact FU hb
theorem AQM (e:Int):CvR (.tup [.agg F5,.agg F8,.int .i64 e]) (.tup [.agg (FZ zV),.agg (IM zT),.int .i64 e]):=CvR.tup (CvRL.cons AUW (CvRL.cons AXA (CvRL.refl _)))
theorem AVW (h:Hp) (v:Cvr):FM Tryz.prog (h ++ [ABlk.live 4 [F5]]) 28 (.ptr h.length 0 0) (.agg (FZ v))=some (h ++ [ABlk.live 4 [FZ v]]):=by rw [stV (CY _ _) rfl,SS]
structure Mr (h H:Hp) (m:Mo) (a b:Cvr) (b4 b5 b6:Nat):Prop where
 gm:H[h.length]? = some (ABlk.live 2 [EN m])
 ga:H[b4]? = some (ABlk.live 4 [FZ a])
 gb:H[b5]? = some (ABlk.live 4 [FZ b])
 g6:H[b6]? = some (ABlk.live 4 [F5])
 o4:h.length < b4
 o5:b4 < b5
 o6:b5 < b6
 hx:ext h H
theorem Mr.mk' (h:Hp) (m:Mo) (a b:Cvr):Mr h (h ++ [ABlk.live 2 [EN m]] ++ [ABlk.live 4 [FZ a]] ++ [ABlk.live 4 [FZ b]] ++ [ABlk.live 4 [F5]]) m a b (h ++ [ABlk.live 2 [EN m]]).length (h ++ [ABlk.live 2 [EN m]] ++ [ABlk.live 4 [FZ a]]).length (h ++ [ABlk.live 2 [EN m]] ++ [ABlk.live 4 [FZ a]] ++ [ABlk.live 4 [FZ b]]).length :=
 ⟨CX (CX (CX (CY _ _))),CX (CX (CY _ _)),CX (CY _ _),CY _ _,by simp,by simp,by simp,((((ext.rfl' h).app _).app _).app _).app _⟩
structure Al (h H:Hp) (m:Mo) (c:Cvr) (b4 b6:Nat):Prop where
 gm:H[h.length]? = some (ABlk.live 2 [EN m])
 g4:H[b4]? = some (ABlk.live 4 [F5])
 g6:H[b6]? = some (ABlk.live 4 [FZ c])
 o4:h.length < b4
 o6:b4 < b6
 hx:ext h H
theorem Al.app {h H:Hp} {m:Mo} {c:Cvr} {b4 b6:Nat} (E:Al h H m c b4 b6) (x:Hp):Al h (H ++ x) m c b4 b6:=⟨FU E.gm,FU E.g4,FU E.g6,E.o4,E.o6,E.hx.app _⟩
theorem Al.up {h H H':Hp} {m:Mo} {c:Cvr} {b4 b6:Nat} (E:Al h H m c b4 b6) (hx:ext H H'):Al h H' m c b4 b6:=by
 obtain ⟨x,rfl⟩:=hx; exact E.app x
end Go.Proofs.YtocilianjfhifaaGreatDoor.Cov
