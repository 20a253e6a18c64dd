/- Part 10 of the proof (A1, Q1, Q2, Q3, Q4, Q5, Q6, Q7, Q8); no condition. -/
import Derived.Test.YtfpagfhhhlljjaaGreatDoorYF9
set_option linter.unusedVariables false
namespace Go.Proofs.YtfpagfhhhlljjaaGreatDoor.Cov
open Sm Bins Go.RowKit
open Bool renaming and_eq_true→jX
open List renaming map_cons→jD,drop_zero→zK,take_of_length_le→jU
open Nat renaming le_trans→qL,le_refl→jL
theorem NY {n:Int}:LX n=true↔0≤n∧n≤1099511627776:=by unfold LX; simp
theorem W9 {n:Int}{p:Bool}(h:countB n p=true):LX n=true:=by unfold countB at h; simp only[jX] at h; exact h.1
def WL (x:List Int):Prop := ∀ n∈x,LX n=true
theorem VF : ∀ {x:List Int} {p:Nat→Bool} {k:Nat},rowF p k x=true→WL x
 | [],_,_,_=>fun _ h=>by cases h
 | n :: x,p,k,h=>by
   simp only[rowF,jX] at h
   intro m hm
   rcases List.mem_cons.1 hm with rfl | hm
   ·exact W9 h.1
   ·exact VF h.2 m hm
theorem Z9 {m:Mo}{v:Cvr}:AG5 m v=true↔G8 m=0∧QW okP m.pts v.pts=true∧QW (okC m) m.crs v.crs=true∧LX v.sam=true∧LX v.ill=true:=by
 unfold AG5
 simp only[jX,beq_iff_eq]
 exact⟨fun⟨⟨⟨⟨a,b⟩,c⟩,d⟩,e⟩=>⟨a,b,c,d,e⟩,fun⟨a,b,c,d,e⟩=>⟨⟨⟨⟨a,b⟩,c⟩,d⟩,e⟩⟩
def zeros (n:Nat):List Int:=List.replicate n 0
def zIs (n:Nat):Is:=⟨.full,zeros n⟩
theorem ZQ : ∀ (n:Nat) {p:Nat→Bool} {k:Nat},rowF p k (zeros n)=true
 | 0,_,_=>rfl
 | n+1,p,k=>by
   have ih:=ZQ n (p:=p) (k:=k+1)
   unfold zeros at *
   simp only[List.replicate_succ,rowF,ih,Bool.and_true]
   unfold countB; cases p k <;> rfl
theorem ADT {α:Type}{ok:α→Is→Bool}(f:α→Is)(hf : ∀ a,ok a (f a)=true) : ∀ ws:List α,QW ok ws (ws.map f)=true
 | []=>rfl
 | a :: ws=>by simp only[jD,QW,hf,ADT f hf ws,Bool.and_true]
theorem AYZ {p:Pt}{x:Is}(h:okP p x=true):x.l.length=p.bins.length:=by
 unfold okP at h; simp only[jX,beq_iff_eq] at h; exact h.1
theorem AY2 {m:Mo}{c:Cr}{x:Is}(h:okC m c x=true):x.l.length=JB (szs m c.pts):=by
 unfold okC at h; simp only[jX,beq_iff_eq] at h; exact h.1
theorem ADV {α:Type}{ok:α→Is→Bool}(hok : ∀ a x y,x.l=y.l→ok a x=ok a y) : ∀ (ws:List α) (xs ys:List Is),xs.map (·.l)=ys.map (·.l)→QW ok ws xs=QW ok ws ys
 | [],[],[],_=>rfl
 | a :: ws,x :: xs,y :: ys,h=>by
   simp only[jD,List.cons.injEq] at h
   simp only[QW,hok a x y h.1,ADV hok ws xs ys h.2]
 | [],x :: xs,y :: ys,h=>rfl
 | a :: ws,[],[],h=>rfl
 | _,[],_ :: _,h=>by simp at h
 | _,_ :: _,[],h=>by simp at h
theorem mkI (h:Hp)(n:Nat)(hn:n≤1048576):KC Tryz.prog true h 26 (.int .i64 (n:Int)) (.int .i64 (n:Int))=some (.own h.length 0 n,h++[.live 1 ((zeros n).map qencI)]):=by
 rw[A6V h n hn,AZ0]
 simp [zeros]
theorem ABY (h:Hp)(x y:ABlk):(h++[x]).set h.length y=h++[y]:=by simp
structure VV (h H:Hp) (a b:Cvr) (bb:Nat):Prop where
 ga:H[h.length]? = some (.live 4 [encV a])
 gb:H[bb]? = some (.live 4 [encV b])
 hx : ∃ x,H=h++x
theorem VV.mk' (h:Hp)(a b:Cvr):VV h (h++[.live 4 [encV a]]++[.live 4 [encV b]]) a b (h++[ABlk.live 4 [encV a]]).length:=⟨CP (CZ _ _),CZ _ _,⟨_,List.append_assoc _ _ _⟩⟩
section
variable {H:Hp} {v:Cvr} {vb:Nat} (gv:H[vb]? = some (.live 4 [encV v]))
include gv
end
theorem X3 {P:Program}{a t:Nat}{R:AV→Hp→Prop}{F:Fr}{h:Hp}{x:AV}{b:Nat}(hF:F a = .ptr b 0 0)(h1:D5 P h t (.ptr b 0 0)=some x):EJ P [.cell a t] R .ret F h=R x h:=by simp [EJ,ZH,SC,hF,h1]
theorem A3C {P:Program}{a t b u:Nat}{R:AV→Hp→Prop}{F:Fr}{h:Hp}{x y:AV}{ba bb:Nat}(hF:F a = .ptr ba 0 0)(hG:F b = .ptr bb 0 0)(h1:D5 P h t (.ptr ba 0 0)=some x)(h2:D5 P h u (.ptr bb 0 0)=some y):EJ P [.cell a t,.cell b u] R .ret F h=R (.tup [x,y]) h:=by simp [EJ,ZH,P9,SC,hF,hG,h1,h2]
theorem AQW {P:Program}{a t b u c:Nat}{R:AV→Hp→Prop}{F:Fr}{h:Hp}{x y:AV}{ba bb:Nat}(hF:F a = .ptr ba 0 0)(hG:F b = .ptr bb 0 0)(h1:D5 P h t (.ptr ba 0 0)=some x)(h2:D5 P h u (.ptr bb 0 0)=some y):EJ P [.cell a t,.cell b u,.tmp c] R .ret F h=R (.tup [x,y,F c]) h:=by simp [EJ,ZH,P9,SC,hF,hG,h1,h2]
theorem AIQ {P:Program}{a t c:Nat}{R:AV→Hp→Prop}{F:Fr}{h:Hp}{x:AV}{ba:Nat}(hF:F a = .ptr ba 0 0)(h1:D5 P h t (.ptr ba 0 0)=some x):EJ P [.cell a t,.tmp c] R .ret F h=R (.tup [x,F c]) h:=by simp [EJ,ZH,P9,SC,hF,h1]
def fzG {α:Type}(k:Nat)(f:α→List AV)(ys:List α):AV:=match ys with
 | [] => .sl .nil 0 []
 | _ => .sl .any k (ys.map f)
theorem Y0 {α:Type}{k:Nat}{f:α→List AV}{h H:Hp}{ys:List α}{v:AV}(hf:Frz f)(ho:outG k f h ys v H)(n d:Nat)(hn:n≤h.length):IL n H (d+2) v=fzG k f ys:=by
 rcases ho with⟨rfl,rfl⟩ | ⟨hne,o,h2,rfl,h3⟩
 ·rfl
 ·rw[frz_own hf (qL hn h2) h3]
  cases ys with
  | nil=>exact absurd rfl hne
  | cons _ _=>rfl
theorem ADL {α:Type}{k:Nat}{f:α→List AV}{ys:List α}:CvR (fzG k f ys) (.sl (nm ys) k (ys.map f)):=by
 cases ys with
 | nil=>exact CvR.sl (Cv.nil 0 k)
 | cons y ys=>exact CvR.refl _
theorem outG.app2 {P:Program}{t e:TypeId}{α:Type}{k bs:Nat}{f:α→List AV}{h H:Hp}{ys:List α}{v:AV}(ho:outG k f h ys v H)(hu:P.underlying t=some (.slice e))(hs:szO P e=some k)(hz:U3 P e=some k)(hb:ND P e=some bs)(hbs:bs≤4194304)(hl:ys.length < 8388608)(he:h.length≤H.length)(y:α) :
  ∃ v' H',FZ P true H t t v (.sl .full k [f y])=some (v',H')∧outG k f h (ys++[y]) v' H'∧(∀ b x,H[b]? = some x→¬ isB v b→H'[b]? = some x)∧H'.length=H.length+1∧(∀ b,isB v' b→b=H.length)∧(∃ o l,v' = .own o 0 l)∧∀ e:Hp,e.length≤h.length→ext e H→ext e H':=by
 have h1:([f y]:List (List AV))≠[]:=by simp
 rcases ho with⟨rfl,rfl⟩ | ⟨hne,o,h2,rfl,h3⟩
 ·exact⟨_,_,PP hu hs hz hb (HY H .full k [f y]) h1 (IR (by simp) hbs),.inr ⟨by simp,H.length,he,rfl,by simp⟩,fun b x hb _=>F8 hb,by simp,fun b hb=>hb.symm,⟨_,_,rfl⟩,fun e _ hx=>hx.app _⟩
 ·have hc:JR H (.own o 0 ys.length)=some (k,ys.map f):=by
   rw[KU h3 (by simp),zK,jU (by simp)]
  refine⟨_,_,PO hu hs hz hb hc (HY H .full k [f y]) h1 (IR (by simp; omega) hbs),.inr ⟨by simp,H.length,he,by simp,by simp⟩,fun b x hb hn => ?_,by simp,fun b hb=>hb.symm,⟨_,_,rfl⟩,fun e hl hx=>(hx.set (qL hl h2) _).app _⟩
  have hn' : ¬ o=b:=hn
  refine F8 ?_
  rw[List.getElem?_set,if_neg hn']; exact hb
theorem NH {P:Program}{H:Hp}{t b k j:Nat}{row cs:List AV}{v:AV}(hc:JI v=some cs)(hs:szO P t=some cs.length)(hb:H[b]? = some (.live k [row]))(hl:j+cs.length≤row.length):FP P H t (.ptr b 0 j) v=some (H.set b (.live k [splice row j cs])):=by
 rw[I5 (i:=0) hc hs hb rfl hl]; rfl
structure Tk where
 m:SM
 last:List Is
def AL0 (t:Tk):List AV := [.sl t.m 1 (t.last.map encL)]
def zV:Cvr:=⟨.nil,[],.nil,[],0,0⟩
def IK:List AV := [.sl .nil 0 []]
theorem A3W:CvR (.agg [.sl .nil 0 [],.sl .nil 0 [],.int .i64 0,.int .i64 0]) (.agg (encV zV)):=CvR.agg (CvRL.cons (CvR.sl (Cv.nil 0 1)) (CvRL.cons (CvR.sl (Cv.nil 0 1)) (CvRL.cons (CvR.refl _) (CvRL.cons (CvR.refl _) CvRL.nil))))
def IW:List AV := [.sl .nil 0 [],.sl .nil 0 [],.int .i64 0,.int .i64 0]
theorem AEW (h:Hp):KG Tryz.prog h 81=some (.ptr h.length 0 0,h++[.live 4 [IW]]):=J4 (row:=IW) (by kernel_rfl)
theorem AXK (h:Hp):KG Tryz.prog h 120=some (.ptr h.length 0 0,h++[.live 1 [IK]]):=J4 (row:=IK) (by kernel_rfl)
theorem AXA:KZ Tryz.prog 81 []=some (.agg IW):=by kernel_rfl
theorem A5X:KZ Tryz.prog 120 []=some (.agg IK):=by kernel_rfl
theorem stV {H:Hp}{b:Nat}{row:List AV}{v:Cvr}(hb:H[b]? = some (.live 4 [row]))(hr:row.length=4):FP Tryz.prog H 81 (.ptr b 0 0) (.agg (encV v))=some (H.set b (.live 4 [encV v])):=by
 rw[NH (cs:=encV v) rfl AUB hb (by rw[hr]; exact jL 4)]
 have:splice row 0 (encV v)=encV v:=by unfold splice; simp [encV_len,hr]
 rw[this]
theorem stZ {H:Hp}{b:Nat}{row:List AV}(hb:H[b]? = some (.live 4 [row]))(hr:row.length=4):FP Tryz.prog H 81 (.ptr b 0 0) (.agg IW)=some (H.set b (.live 4 [IW])):=by
 rw[NH (cs:=IW) rfl AUB hb (by rw[hr]; exact jL 4)]
 have:splice row 0 IW=IW:=by unfold splice; simp [IW,hr]
 rw[this]
theorem A35 {H:Hp}{b:Nat}{row:List AV}(hb:H[b]? = some (.live 1 [row]))(hr:row.length=1):FP Tryz.prog H 120 (.ptr b 0 0) (.agg IK)=some (H.set b (.live 1 [IK])):=by
 rw[NH (cs:=IK) rfl AUC hb (by rw[hr]; exact jL 1)]
 have:splice row 0 IK=IK:=by unfold splice; rw[List.take_zero,List.drop_eq_nil_of_le (by rw[hr]; exact jL 1)]; simp
 rw[this]
theorem QE {h:Hp}{b:Nat}{row:List AV}(hb:h[b]? = some (.live 4 [row]))(hr:row.length=4):D5 Tryz.prog h 81 (.ptr b 0 0)=some (.agg row):=by
 rw[GV A7T AUB hb rfl (by rw[hr]; exact jL 4),zK,jU (by omega)]
theorem YW {h:Hp}{b:Nat}{row:List AV}(hb:h[b]? = some (.live 1 [row]))(hr:row.length=1):D5 Tryz.prog h 120 (.ptr b 0 0)=some (.agg row):=by
 rw[GV A6G AUC hb rfl (by rw[hr]; exact jL 1),zK,jU (by omega)]
end Go.Proofs.YtfpagfhhhlljjaaGreatDoor.Cov
set_option linter.unusedSimpArgs false
set_option maxRecDepth 8000
namespace Go.Proofs.YtfpagfhhhlljjaaGreatDoor.Cov
open Sm Bins Go.RowKit
open List renaming take_zero→qG,drop_eq_nil_of_le→jZ
open Nat renaming le_refl→jL
theorem outG.setB {α:Type}{k:Nat}{f:α→List AV}{h H:Hp}{ys:List α}{v:AV}{b:Nat}(ho:outG k f h ys v H)(hb:b < h.length)(y:ABlk):outG k f h ys v (H.set b y) :=
 ho.keep fun b' hb'=>by
  have:=ho.lt hb'
  rw[List.getElem?_set_ne (by omega)]
theorem outG.keepA {α:Type}{k:Nat}{f:α→List AV}{h H H':Hp}{ys:List α}{v u:AV}(ho:outG k f h ys v H)(hk : ∀ b x,H[b]? = some x→¬ isB u b→H'[b]? = some x)(hd : ∀ b,isB v b→¬ isB u b):outG k f h ys v H':=by
 rcases ho with h1 | ⟨h1,o,h2,rfl,h3⟩
 ·exact .inl h1
 ·exact .inr ⟨h1,o,h2,rfl,hk _ _ h3 (hd o rfl)⟩
theorem outG.leaf {α:Type}{k:Nat}{f:α→List AV}{h H:Hp}{ys:List α}{v:AV}(ho:outG k f h ys v H):v.leaf=true:=by
 rcases ho with⟨_,rfl⟩ | ⟨_,o,_,rfl,_⟩ <;> rfl
theorem outG.base {α:Type}{k:Nat}{f:α→List AV}{h h' H:Hp}{ys:List α}{v:AV}(ho:outG k f h ys v H)(hl:h'.length≤h.length):outG k f h' ys v H:=by
 rcases ho with h1 | ⟨h1,o,h2,rfl,h3⟩
 ·exact .inl h1
 ·exact .inr ⟨h1,o,Nat.le_trans hl h2,rfl,h3⟩
def KX (v1 v2:AV):List AV := [v1,v2,.int .i64 0,.int .i64 0]
structure Em (h H:Hp) (m:Mo) (b2 b3 b4 b5:Nat) (v1 v2 v3:AV):Prop where
 gm:H[h.length]? = some (.live 2 [EE m])
 g2:H[b2]? = some (.live 4 [IW])
 g3:H[b3]? = some (.live 1 [IK])
 g4:H[b4]? = some (.live 4 [KX v1 v2])
 g5:H[b5]? = some (.live 1 [[v3]])
 o2:h.length < b2
 o3:b2 < b3
 o4:b3 < b4
 o5:b4 < b5
 hx:ext h H
section
variable {h H:Hp} {m:Mo} {b2 b3 b4 b5:Nat} {v1 v2 v3:AV} (E:Em h H m b2 b3 b4 b5 v1 v2 v3)
include E
theorem Em.m0:D5 Tryz.prog H 22 (.ptr h.length 0 0)=some (.sl m.pm 6 (m.pts.map GG)):=by rw[DU ZI E.gm (row:=EE m) rfl,RU]
theorem Em.m1:D5 Tryz.prog H 23 (.ptr h.length 0 1)=some (.sl m.cm 3 (m.crs.map G5)):=by rw[DU AAT E.gm (row:=EE m) rfl,TP]
theorem Em.l4:D5 Tryz.prog H 67 (.ptr b4 0 0)=some v1:=by rw[DU UN E.g4 (row:=KX v1 v2) rfl]; rfl
theorem Em.l4':D5 Tryz.prog H 67 (.ptr b4 0 1)=some v2:=by rw[DU UN E.g4 (row:=KX v1 v2) rfl]; rfl
theorem Em.l5:D5 Tryz.prog H 67 (.ptr b5 0 0)=some v3:=by rw[DU UN E.g5 (row := [v3]) rfl]; rfl
theorem Em.app (x:Hp):Em h (H++x) m b2 b3 b4 b5 v1 v2 v3:=⟨F8 E.gm,F8 E.g2,F8 E.g3,F8 E.g4,F8 E.g5,E.o2,E.o3,E.o4,E.o5,E.hx.app _⟩
theorem Em.keep {H':Hp}{u:AV}(hk : ∀ b x,H[b]? = some x→¬ isB u b→H'[b]? = some x)(hu : ∀ b,isB u b→b5 < b)(hx:ext h H→ext h H'):Em h H' m b2 b3 b4 b5 v1 v2 v3:=by
 have o2:=E.o2; have o3:=E.o3; have o4:=E.o4; have o5:=E.o5
 exact⟨hk _ _ E.gm (fun e=>by have:=hu _ e; omega),hk _ _ E.g2 (fun e=>by have:=hu _ e; omega),hk _ _ E.g3 (fun e=>by have:=hu _ e; omega),hk _ _ E.g4 (fun e=>by have:=hu _ e; omega),hk _ _ E.g5 (fun e=>by have:=hu _ e; omega),o2,o3,o4,o5,hx E.hx⟩
theorem Em.set4 (w1 w2:AV):Em h (H.set b4 (.live 4 [KX w1 w2])) m b2 b3 b4 b5 w1 w2 v3:=by
 have o2:=E.o2; have o3:=E.o3; have o4:=E.o4; have o5:=E.o5
 exact⟨DT E.gm (by omega),DT E.g2 (by omega),DT E.g3 (by omega),EM E.g4,DT E.g5 (by omega),o2,o3,o4,o5,E.hx.set (by omega) _⟩
theorem Em.set5 (w3:AV):Em h (H.set b5 (.live 1 [[w3]])) m b2 b3 b4 b5 v1 v2 w3:=by
 have o2:=E.o2; have o3:=E.o3; have o4:=E.o4; have o5:=E.o5
 exact⟨DT E.gm (by omega),DT E.g2 (by omega),DT E.g3 (by omega),DT E.g4 (by omega),EM E.g5,o2,o3,o4,o5,E.hx.set (by omega) _⟩
theorem Em.s4 {o l:Nat}:FP Tryz.prog H 67 (.ptr b4 0 0) (.own o 0 l)=some (H.set b4 (.live 4 [KX (.own o 0 l) v2])):=NH (row:=KX v1 v2) (AI6 _ _ _) AYB E.g4 (by simp [KX])
theorem Em.s4' {o l:Nat}:FP Tryz.prog H 67 (.ptr b4 0 1) (.own o 0 l)=some (H.set b4 (.live 4 [KX v1 (.own o 0 l)])):=NH (row:=KX v1 v2) (AI6 _ _ _) AYB E.g4 (by simp [KX])
theorem Em.s5 {o l:Nat}:FP Tryz.prog H 67 (.ptr b5 0 0) (.own o 0 l)=some (H.set b5 (.live 1 [[.own o 0 l]])):=NH (row := [v3]) (AI6 _ _ _) AYB E.g5 (by simp)
theorem Em.lt:b5 < H.length:=CB E.g5
end
theorem Em.mk' (h:Hp)(m:Mo):Em h (h++[ABlk.live 2 [EE m]]++[ABlk.live 4 [IW]]++[ABlk.live 1 [IK]]++[ABlk.live 4 [IW]]++[ABlk.live 1 [IK]]) m (h++[ABlk.live 2 [EE m]]).length (h++[ABlk.live 2 [EE m]]++[ABlk.live 4 [IW]]).length
  (h++[ABlk.live 2 [EE m]]++[ABlk.live 4 [IW]]++[ABlk.live 1 [IK]]).length (h++[ABlk.live 2 [EE m]]++[ABlk.live 4 [IW]]++[ABlk.live 1 [IK]]++[ABlk.live 4 [IW]]).length (.sl .nil 0 []) (.sl .nil 0 []) (.sl .nil 0 []) :=
 ⟨CP (CP (CP (CP (CZ _ _)))),CP (CP (CP (CZ _ _))),CP (CP (CZ _ _)),CP (CZ _ _),CZ _ _,by simp,by simp,by simp,by simp,((((ext.rfl' h).app _).app _).app _).app _ |>.app _⟩
theorem A5Q (h:Hp):EQ Tryz.prog false h 67 1 [(0,.sl .nil 0 [])]=some (.sl .full 1 [IK],h):=by kernel_rfl
theorem AUI {H:Hp}{b:Nat}{row:List AV}{v1 v2:AV}(hb:H[b]? = some (.live 4 [row]))(hr:row.length=4)(h1:v1.leaf=true)(h2:v2.leaf=true):FP Tryz.prog H 81 (.ptr b 0 0) (.agg (KX v1 v2))=some (H.set b (.live 4 [KX v1 v2])):=by
 rw[NH (cs:=KX v1 v2) (P5 (by simp [KX,h1,h2]; rfl)) AUB hb (by rw[hr]; exact jL 4)]
 have:splice row 0 (KX v1 v2)=KX v1 v2:=by unfold splice; rw[qG,jZ (by rw[hr]; exact jL 4)]; simp
 rw[this]
theorem AUH {H:Hp}{b:Nat}{row:List AV}{v3:AV}(hb:H[b]? = some (.live 1 [row]))(hr:row.length=1)(h3:v3.leaf=true):FP Tryz.prog H 120 (.ptr b 0 0) (.agg [v3])=some (H.set b (.live 1 [[v3]])):=by
 rw[NH (cs := [v3]) (P5 (by simp [h3])) AUC hb (by rw[hr]; exact jL 1)]
 have:splice row 0 [v3] = [v3]:=by unfold splice; rw[qG,jZ (by rw[hr]; exact jL 1)]; simp
 rw[this]
structure Er (h H:Hp) (m:Mo) (b2 b3:Nat) (v1 v2:AV):Prop where
 gm:H[h.length]? = some (.live 2 [EE m])
 g2:H[b2]? = some (.live 4 [IW])
 g3:H[b3]? = some (.live 4 [KX v1 v2])
 o2:h.length < b2
 o3:b2 < b3
 hx:ext h H
section
variable {h H:Hp} {m:Mo} {b2 b3:Nat} {v1 v2:AV} (E:Er h H m b2 b3 v1 v2)
include E
theorem Er.m0:D5 Tryz.prog H 22 (.ptr h.length 0 0)=some (.sl m.pm 6 (m.pts.map GG)):=by rw[DU ZI E.gm (row:=EE m) rfl,RU]
theorem Er.m1:D5 Tryz.prog H 23 (.ptr h.length 0 1)=some (.sl m.cm 3 (m.crs.map G5)):=by rw[DU AAT E.gm (row:=EE m) rfl,TP]
theorem Er.l3:D5 Tryz.prog H 67 (.ptr b3 0 0)=some v1:=by rw[DU UN E.g3 (row:=KX v1 v2) rfl]; rfl
theorem Er.l3':D5 Tryz.prog H 67 (.ptr b3 0 1)=some v2:=by rw[DU UN E.g3 (row:=KX v1 v2) rfl]; rfl
theorem Er.keep {H':Hp}{u:AV}(hk : ∀ b x,H[b]? = some x→¬ isB u b→H'[b]? = some x)(hu : ∀ b,isB u b→b3 < b)(hx:ext h H→ext h H'):Er h H' m b2 b3 v1 v2:=by
 have o2:=E.o2; have o3:=E.o3
 exact⟨hk _ _ E.gm (fun e=>by have:=hu _ e; omega),hk _ _ E.g2 (fun e=>by have:=hu _ e; omega),hk _ _ E.g3 (fun e=>by have:=hu _ e; omega),o2,o3,hx E.hx⟩
theorem Er.lt:b3 < H.length:=CB E.g3
end
theorem Er.mk' (h:Hp)(m:Mo):Er h (h++[ABlk.live 2 [EE m]]++[ABlk.live 4 [IW]]++[ABlk.live 4 [IW]]) m (h++[ABlk.live 2 [EE m]]).length (h++[ABlk.live 2 [EE m]]++[ABlk.live 4 [IW]]).length (.sl .nil 0 []) (.sl .nil 0 []) :=
 ⟨CP (CP (CZ _ _)),CP (CZ _ _),CZ _ _,by simp,by simp,(((ext.rfl' h).app _).app _).app _⟩
theorem AP5 {E:Env}{f:FuncId}{args:List AV}{h:Hp}{r:AV}(d:Nat)(hr : ∀ n H,IL n H d r=r)(hc:ACalls E f args h fun v H=>v=r∧ext h H):PCall E f args h r :=
 ACalls.pure d hc fun v H ⟨e,he⟩=>⟨he,by rw[e]; exact hr _ _⟩
structure Ee (h H:Hp) (m:Mo) (b2 b3:Nat):Prop where
 gm:H[h.length]? = some (ABlk.live 2 [EE m])
 g2:H[b2]? = some (ABlk.live 4 [IW])
 g3:H[b3]? = some (ABlk.live 1 [IK])
 o2:h.length < b2
 o3:b2 < b3
 hx:ext h H
theorem Ee.mk' (h:Hp)(m:Mo):Ee h (h++[ABlk.live 2 [EE m]]++[ABlk.live 4 [IW]]++[ABlk.live 1 [IK]]) m (h++[ABlk.live 2 [EE m]]).length (h++[ABlk.live 2 [EE m]]++[ABlk.live 4 [IW]]).length :=
 ⟨CP (CP (CZ _ _)),CP (CZ _ _),CZ _ _,by simp,by simp,(((ext.rfl' h).app _).app _).app _⟩
theorem Ee.lt {h H:Hp}{m:Mo}{b2 b3:Nat}(E:Ee h H m b2 b3):b3 < H.length:=CB E.g3
theorem Ee.m0 {h H:Hp}{m:Mo}{b2 b3:Nat}(E:Ee h H m b2 b3):D5 Tryz.prog H 22 (.ptr h.length 0 0)=some (.sl m.pm 6 (m.pts.map GG)):=by rw[DU ZI E.gm (row:=EE m) rfl,RU]
theorem FK {h H:Hp}{b:Nat}{x:ABlk}(he:ext h H)(hb:h[b]? = some x):H[b]? = some x:=by
 obtain⟨y,rfl⟩:=he
 exact F8 hb
theorem A2I (h:Hp)(v:Cvr):FP Tryz.prog (h++[ABlk.live 4 [IW]]) 81 (.ptr h.length 0 0) (.agg (encV v))=some (h++[ABlk.live 4 [encV v]]):=by rw[stV (CZ _ _) rfl,ABY]
structure Mr (h H:Hp) (m:Mo) (a b:Cvr) (b4 b5 b6:Nat):Prop where
 gm:H[h.length]? = some (ABlk.live 2 [EE m])
 ga:H[b4]? = some (ABlk.live 4 [encV a])
 gb:H[b5]? = some (ABlk.live 4 [encV b])
 g6:H[b6]? = some (ABlk.live 4 [IW])
 o4:h.length < b4
 o5:b4 < b5
 o6:b5 < b6
 hx:ext h H
theorem Mr.mk' (h:Hp)(m:Mo)(a b:Cvr):Mr h (h++[ABlk.live 2 [EE m]]++[ABlk.live 4 [encV a]]++[ABlk.live 4 [encV b]]++[ABlk.live 4 [IW]]) m a b (h++[ABlk.live 2 [EE m]]).length (h++[ABlk.live 2 [EE m]]++[ABlk.live 4 [encV a]]).length (h++[ABlk.live 2 [EE m]]++[ABlk.live 4 [encV a]]++[ABlk.live 4 [encV b]]).length :=
 ⟨CP (CP (CP (CZ _ _))),CP (CP (CZ _ _)),CP (CZ _ _),CZ _ _,by simp,by simp,by simp,((((ext.rfl' h).app _).app _).app _).app _⟩
structure Al (h H:Hp) (m:Mo) (c:Cvr) (b4 b6:Nat):Prop where
 gm:H[h.length]? = some (ABlk.live 2 [EE m])
 g4:H[b4]? = some (ABlk.live 4 [IW])
 g6:H[b6]? = some (ABlk.live 4 [encV c])
 o4:h.length < b4
 o6:b4 < b6
 hx:ext h H
theorem Al.app {h H:Hp}{m:Mo}{c:Cvr}{b4 b6:Nat}(E:Al h H m c b4 b6)(x:Hp):Al h (H++x) m c b4 b6:=⟨F8 E.gm,F8 E.g4,F8 E.g6,E.o4,E.o6,E.hx.app _⟩
theorem Al.up {h H H':Hp}{m:Mo}{c:Cvr}{b4 b6:Nat}(E:Al h H m c b4 b6)(hx:ext H H'):Al h H' m c b4 b6:=by
 obtain⟨x,rfl⟩:=hx; exact E.app x
end Go.Proofs.YtfpagfhhhlljjaaGreatDoor.Cov
