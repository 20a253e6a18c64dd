/- Part 9 of the proof (A1, Q1, Q2, Q3, Q4, Q5, Q6, Q7, Q8); no condition. -/
import Derived.Test.YtfpagfhhhlljjaaGreatDoorYC8
set_option linter.unusedVariables false
namespace Go.Proofs.YtfpagfhhhlljjaaGreatDoor.Cov
open Sm Bins Go.RowKit
open Bool renaming and_eq_true→jU
open List renaming map_cons→jE,drop_zero→zO,take_of_length_le→jW
open Nat renaming le_trans→qJ,le_refl→jK
theorem NJ {n:Int}:LM n=true↔0≤n∧n≤1099511627776:=by unfold LM; simp
theorem V4 {n:Int} {p:Bool} (h:countB n p=true):LM n=true:=by unfold countB at h; simp only [jU] at h; exact h.1
def WL (x:List Int):Prop := ∀ n∈x,LM n=true
theorem UJ : ∀ {x:List Int} {p:Nat→Bool} {k:Nat},rowF p k x=true→WL x
 | [],_,_,_=>fun _ h=>by cases h
 | n :: x,p,k,h=>by
   simp only [rowF,jU] at h
   intro m hm
   rcases List.mem_cons.1 hm with rfl | hm
   ·exact V4 h.1
   ·exact UJ h.2 m hm
theorem ZK {m:Mo} {v:Cvr}:AFN m v=true↔IA m=0∧QG okP m.pts v.pts=true∧QG (okC m) m.crs v.crs=true∧LM v.sam=true∧LM v.ill=true:=by
 unfold AFN
 simp only [jU,beq_iff_eq]
 exact ⟨fun ⟨⟨⟨⟨a,b⟩,c⟩,d⟩,e⟩=>⟨a,b,c,d,e⟩,fun ⟨a,b,c,d,e⟩=>⟨⟨⟨⟨a,b⟩,c⟩,d⟩,e⟩⟩
def zeros (n:Nat):List Int:=List.replicate n 0
def zIs (n:Nat):Is:=⟨.full,zeros n⟩
theorem Y2 : ∀ (n:Nat) {p:Nat→Bool} {k:Nat},rowF p k (zeros n)=true
 | 0,_,_=>rfl
 | n+1,p,k=>by
   have ih:=Y2 n (p:=p) (k:=k+1)
   unfold zeros at *
   simp only [List.replicate_succ,rowF,ih,Bool.and_true]
   unfold countB; cases p k <;> rfl
theorem ACY {α:Type} {ok:α→Is→Bool} (f:α→Is) (hf : ∀ a,ok a (f a)=true) : ∀ ws:List α,QG ok ws (ws.map f)=true
 | []=>rfl
 | a :: ws=>by simp only [jE,QG,hf,ACY f hf ws,Bool.and_true]
theorem AYW {p:Pt} {x:Is} (h:okP p x=true):x.l.length=p.bins.length:=by
 unfold okP at h; simp only [jU,beq_iff_eq] at h; exact h.1
theorem AYZ {m:Mo} {c:Cr} {x:Is} (h:okC m c x=true):x.l.length=JO (szs m c.pts):=by
 unfold okC at h; simp only [jU,beq_iff_eq] at h; exact h.1
theorem AC0 {α:Type} {ok:α→Is→Bool} (hok : ∀ a x y,x.l=y.l→ok a x=ok a y) : ∀ (ws:List α) (xs ys:List Is),xs.map (·.l)=ys.map (·.l)→QG ok ws xs=QG ok ws ys
 | [],[],[],_=>rfl
 | a :: ws,x :: xs,y :: ys,h=>by
   simp only [jE,List.cons.injEq] at h
   simp only [QG,hok a x y h.1,AC0 hok ws xs ys h.2]
 | [],x :: xs,y :: ys,h=>rfl
 | a :: ws,[],[],h=>rfl
 | _,[],_ :: _,h=>by simp at h
 | _,_ :: _,[],h=>by simp at h
theorem mkI (h:Hp) (n:Nat) (hn:n≤1048576):JW Tryz.prog true h 26 (.int .i64 (n:Int)) (.int .i64 (n:Int))=some (.own h.length 0 n,h ++ [.live 1 ((zeros n).map qencI)]):=by
 rw [A7P h n hn,AZZ]
 simp [zeros]
theorem AA7 (h:Hp) (x y:ABlk):(h ++ [x]).set h.length y=h ++ [y]:=by simp
structure VV (h H:Hp) (a b:Cvr) (bb:Nat):Prop where
 ga:H[h.length]? = some (.live 4 [encV a])
 gb:H[bb]? = some (.live 4 [encV b])
 hx : ∃ x,H=h ++ x
theorem VV.mk' (h:Hp) (a b:Cvr):VV h (h ++ [.live 4 [encV a]] ++ [.live 4 [encV b]]) a b (h ++ [ABlk.live 4 [encV a]]).length:=⟨CU (CW _ _),CW _ _,⟨_,List.append_assoc _ _ _⟩⟩
section
variable {H:Hp} {v:Cvr} {vb:Nat} (gv:H[vb]? = some (.live 4 [encV v]))
include gv
end
theorem ADC {P:Program} {a t:Nat} {R:AV→Hp→Prop} {F:Fr} {h:Hp} {x:AV} {b:Nat} (hF:F a = .ptr b 0 0) (h1:DX P h t (.ptr b 0 0)=some x):D8 P [.cell a t] R .ret F h=R x h:=by simp [D8,YQ,Q5,hF,h1]
theorem A27 {P:Program} {a t b u:Nat} {R:AV→Hp→Prop} {F:Fr} {h:Hp} {x y:AV} {ba bb:Nat} (hF:F a = .ptr ba 0 0) (hG:F b = .ptr bb 0 0) (h1:DX P h t (.ptr ba 0 0)=some x) (h2:DX P h u (.ptr bb 0 0)=some y):D8 P [.cell a t,.cell b u] R .ret F h=R (.tup [x,y]) h:=by simp [D8,YQ,PP,Q5,hF,hG,h1,h2]
theorem AP8 {P:Program} {a t b u c:Nat} {R:AV→Hp→Prop} {F:Fr} {h:Hp} {x y:AV} {ba bb:Nat} (hF:F a = .ptr ba 0 0) (hG:F b = .ptr bb 0 0) (h1:DX P h t (.ptr ba 0 0)=some x) (h2:DX P h u (.ptr bb 0 0)=some y):D8 P [.cell a t,.cell b u,.tmp c] R .ret F h=R (.tup [x,y,F c]) h:=by simp [D8,YQ,PP,Q5,hF,hG,h1,h2]
theorem AHE {P:Program} {a t c:Nat} {R:AV→Hp→Prop} {F:Fr} {h:Hp} {x:AV} {ba:Nat} (hF:F a = .ptr ba 0 0) (h1:DX P h t (.ptr ba 0 0)=some x):D8 P [.cell a t,.tmp c] R .ret F h=R (.tup [x,F c]) h:=by simp [D8,YQ,PP,Q5,hF,h1]
def fzG {α:Type} (k:Nat) (f:α→List AV) (ys:List α):AV:=match ys with
 | [] => .sl .nil 0 []
 | _ => .sl .any k (ys.map f)
theorem AKK {α:Type} {k:Nat} {f:α→List AV} {h H:Hp} {ys:List α} {v:AV} (hf:Frz f) (ho:outG k f h ys v H) (n d:Nat) (hn:n≤h.length):IG n H (d+2) v=fzG k f ys:=by
 rcases ho with ⟨rfl,rfl⟩ | ⟨hne,o,h2,rfl,h3⟩
 ·rfl
 ·rw [frz_own hf (qJ hn h2) h3]
  cases ys with
  | nil=>exact absurd rfl hne
  | cons _ _=>rfl
theorem ACS {α:Type} {k:Nat} {f:α→List AV} {ys:List α}:CvR (fzG k f ys) (.sl (nm ys) k (ys.map f)):=by
 cases ys with
 | nil=>exact CvR.sl (Cv.nil 0 k)
 | cons y ys=>exact CvR.refl _
theorem outG.app2 {P:Program} {t e:TypeId} {α:Type} {k bs:Nat} {f:α→List AV} {h H:Hp} {ys:List α} {v:AV} (ho:outG k f h ys v H) (hu:P.underlying t=some (.slice e)) (hs:szO P e=some k) (hz:UB P e=some k) (hb:MS P e=some bs) (hbs:bs≤4194304) (hl:ys.length < 8388608) (he:h.length≤H.length) (y:α) :
  ∃ v' H',FZ P true H t t v (.sl .full k [f y])=some (v',H')∧outG k f h (ys ++ [y]) v' H'∧(∀ b x,H[b]? = some x→¬ isB v b→H'[b]? = some x)∧H'.length=H.length+1∧(∀ b,isB v' b→b=H.length)∧(∃ o l,v' = .own o 0 l)∧∀ e:Hp,e.length≤h.length→ext e H→ext e H':=by
 have h1:([f y]:List (List AV))≠[]:=by simp
 rcases ho with ⟨rfl,rfl⟩ | ⟨hne,o,h2,rfl,h3⟩
 ·exact ⟨_,_,PX hu hs hz hb (IM H .full k [f y]) h1 (IX (by simp) hbs),.inr ⟨by simp,H.length,he,rfl,by simp⟩,fun b x hb _=>FQ hb,by simp,fun b hb=>hb.symm,⟨_,_,rfl⟩,fun e _ hx=>hx.app _⟩
 ·have hc:JP H (.own o 0 ys.length)=some (k,ys.map f):=by
   rw [LG h3 (by simp),zO,jW (by simp)]
  refine ⟨_,_,PW hu hs hz hb hc (IM H .full k [f y]) h1 (IX (by simp; omega) hbs),.inr ⟨by simp,H.length,he,by simp,by simp⟩,fun b x hb hn => ?_,by simp,fun b hb=>hb.symm,⟨_,_,rfl⟩,fun e hl hx=>(hx.set (qJ hl h2) _).app _⟩
  have hn' : ¬ o=b:=hn
  refine FQ ?_
  rw [List.getElem?_set,if_neg hn']; exact hb
theorem NQ {P:Program} {H:Hp} {t b k j:Nat} {row cs:List AV} {v:AV} (hc:IW v=some cs) (hs:szO P t=some cs.length) (hb:H[b]? = some (.live k [row])) (hl:j+cs.length≤row.length):FB P H t (.ptr b 0 j) v=some (H.set b (.live k [splice row j cs])):=by
 rw [JC (i:=0) hc hs hb rfl hl]; rfl
structure Tk where
 m:SM
 last:List Is
def AKX (t:Tk):List AV := [.sl t.m 1 (t.last.map encL)]
def zV:Cvr:=⟨.nil,[],.nil,[],0,0⟩
def G7:List AV := [.sl .nil 0 []]
theorem A3S:CvR (.agg [.sl .nil 0 [],.sl .nil 0 [],.int .i64 0,.int .i64 0]) (.agg (encV zV)):=CvR.agg (CvRL.cons (CvR.sl (Cv.nil 0 1)) (CvRL.cons (CvR.sl (Cv.nil 0 1)) (CvRL.cons (CvR.refl _) (CvRL.cons (CvR.refl _) CvRL.nil))))
def IC:List AV := [.sl .nil 0 [],.sl .nil 0 [],.int .i64 0,.int .i64 0]
theorem AD0 (h:Hp):JY Tryz.prog h 81=some (.ptr h.length 0 0,h ++ [.live 4 [IC]]):=JL (row:=IC) (by kernel_rfl)
theorem AXB (h:Hp):JY Tryz.prog h 120=some (.ptr h.length 0 0,h ++ [.live 1 [G7]]):=JL (row:=G7) (by kernel_rfl)
theorem AWX:KW Tryz.prog 81 []=some (.agg IC):=by kernel_rfl
theorem A6I:KW Tryz.prog 120 []=some (.agg G7):=by kernel_rfl
theorem stV {H:Hp} {b:Nat} {row:List AV} {v:Cvr} (hb:H[b]? = some (.live 4 [row])) (hr:row.length=4):FB Tryz.prog H 81 (.ptr b 0 0) (.agg (encV v))=some (H.set b (.live 4 [encV v])):=by
 rw [NQ (cs:=encV v) rfl ATO hb (by rw [hr]; exact jK 4)]
 have:splice row 0 (encV v)=encV v:=by unfold splice; simp [encV_len,hr]
 rw [this]
theorem stZ {H:Hp} {b:Nat} {row:List AV} (hb:H[b]? = some (.live 4 [row])) (hr:row.length=4):FB Tryz.prog H 81 (.ptr b 0 0) (.agg IC)=some (H.set b (.live 4 [IC])):=by
 rw [NQ (cs:=IC) rfl ATO hb (by rw [hr]; exact jK 4)]
 have:splice row 0 IC=IC:=by unfold splice; simp [IC,hr]
 rw [this]
theorem A34 {H:Hp} {b:Nat} {row:List AV} (hb:H[b]? = some (.live 1 [row])) (hr:row.length=1):FB Tryz.prog H 120 (.ptr b 0 0) (.agg G7)=some (H.set b (.live 1 [G7])):=by
 rw [NQ (cs:=G7) rfl ATQ hb (by rw [hr]; exact jK 1)]
 have:splice row 0 G7=G7:=by unfold splice; rw [List.take_zero,List.drop_eq_nil_of_le (by rw [hr]; exact jK 1)]; simp
 rw [this]
theorem PT {h:Hp} {b:Nat} {row:List AV} (hb:h[b]? = some (.live 4 [row])) (hr:row.length=4):DX Tryz.prog h 81 (.ptr b 0 0)=some (.agg row):=by
 rw [G8 A8N ATO hb rfl (by rw [hr]; exact jK 4),zO,jW (by omega)]
theorem XY {h:Hp} {b:Nat} {row:List AV} (hb:h[b]? = some (.live 1 [row])) (hr:row.length=1):DX Tryz.prog h 120 (.ptr b 0 0)=some (.agg row):=by
 rw [G8 A62 ATQ hb rfl (by rw [hr]; exact jK 1),zO,jW (by omega)]
end Go.Proofs.YtfpagfhhhlljjaaGreatDoor.Cov
set_option linter.unusedSimpArgs false
set_option maxRecDepth 8000
namespace Go.Proofs.YtfpagfhhhlljjaaGreatDoor.Cov
open Sm Bins Go.RowKit
open List renaming take_zero→qO,drop_eq_nil_of_le→zG
open Nat renaming le_refl→jK
theorem outG.setB {α:Type} {k:Nat} {f:α→List AV} {h H:Hp} {ys:List α} {v:AV} {b:Nat} (ho:outG k f h ys v H) (hb:b < h.length) (y:ABlk):outG k f h ys v (H.set b y) :=
 ho.keep fun b' hb'=>by
  have:=ho.lt hb'
  rw [List.getElem?_set_ne (by omega)]
theorem outG.keepA {α:Type} {k:Nat} {f:α→List AV} {h H H':Hp} {ys:List α} {v u:AV} (ho:outG k f h ys v H) (hk : ∀ b x,H[b]? = some x→¬ isB u b→H'[b]? = some x) (hd : ∀ b,isB v b→¬ isB u b):outG k f h ys v H':=by
 rcases ho with h1 | ⟨h1,o,h2,rfl,h3⟩
 ·exact .inl h1
 ·exact .inr ⟨h1,o,h2,rfl,hk _ _ h3 (hd o rfl)⟩
theorem outG.leaf {α:Type} {k:Nat} {f:α→List AV} {h H:Hp} {ys:List α} {v:AV} (ho:outG k f h ys v H):v.leaf=true:=by
 rcases ho with ⟨_,rfl⟩ | ⟨_,o,_,rfl,_⟩ <;> rfl
theorem outG.base {α:Type} {k:Nat} {f:α→List AV} {h h' H:Hp} {ys:List α} {v:AV} (ho:outG k f h ys v H) (hl:h'.length≤h.length):outG k f h' ys v H:=by
 rcases ho with h1 | ⟨h1,o,h2,rfl,h3⟩
 ·exact .inl h1
 ·exact .inr ⟨h1,o,Nat.le_trans hl h2,rfl,h3⟩
def KO (v1 v2:AV):List AV := [v1,v2,.int .i64 0,.int .i64 0]
structure Em (h H:Hp) (m:Mo) (b2 b3 b4 b5:Nat) (v1 v2 v3:AV):Prop where
 gm:H[h.length]? = some (.live 2 [EE m])
 g2:H[b2]? = some (.live 4 [IC])
 g3:H[b3]? = some (.live 1 [G7])
 g4:H[b4]? = some (.live 4 [KO v1 v2])
 g5:H[b5]? = some (.live 1 [[v3]])
 o2:h.length < b2
 o3:b2 < b3
 o4:b3 < b4
 o5:b4 < b5
 hx:ext h H
section
variable {h H:Hp} {m:Mo} {b2 b3 b4 b5:Nat} {v1 v2 v3:AV} (E:Em h H m b2 b3 b4 b5 v1 v2 v3)
include E
theorem Em.m0:DX Tryz.prog H 22 (.ptr h.length 0 0)=some (.sl m.pm 6 (m.pts.map F9)):=by rw [DJ Z7 E.gm (row:=EE m) rfl,SE]
theorem Em.m1:DX Tryz.prog H 23 (.ptr h.length 0 1)=some (.sl m.cm 3 (m.crs.map G6)):=by rw [DJ AD2 E.gm (row:=EE m) rfl,U1]
theorem Em.l4:DX Tryz.prog H 67 (.ptr b4 0 0)=some v1:=by rw [DJ TR E.g4 (row:=KO v1 v2) rfl]; rfl
theorem Em.l4':DX Tryz.prog H 67 (.ptr b4 0 1)=some v2:=by rw [DJ TR E.g4 (row:=KO v1 v2) rfl]; rfl
theorem Em.l5:DX Tryz.prog H 67 (.ptr b5 0 0)=some v3:=by rw [DJ TR E.g5 (row := [v3]) rfl]; rfl
theorem Em.app (x:Hp):Em h (H ++ x) m b2 b3 b4 b5 v1 v2 v3:=⟨FQ E.gm,FQ E.g2,FQ E.g3,FQ E.g4,FQ E.g5,E.o2,E.o3,E.o4,E.o5,E.hx.app _⟩
theorem Em.keep {H':Hp} {u:AV} (hk : ∀ b x,H[b]? = some x→¬ isB u b→H'[b]? = some x) (hu : ∀ b,isB u b→b5 < b) (hx:ext h H→ext h H'):Em h H' m b2 b3 b4 b5 v1 v2 v3:=by
 have o2:=E.o2; have o3:=E.o3; have o4:=E.o4; have o5:=E.o5
 exact ⟨hk _ _ E.gm (fun e=>by have:=hu _ e; omega),hk _ _ E.g2 (fun e=>by have:=hu _ e; omega),hk _ _ E.g3 (fun e=>by have:=hu _ e; omega),hk _ _ E.g4 (fun e=>by have:=hu _ e; omega),hk _ _ E.g5 (fun e=>by have:=hu _ e; omega),o2,o3,o4,o5,hx E.hx⟩
theorem Em.set4 (w1 w2:AV):Em h (H.set b4 (.live 4 [KO w1 w2])) m b2 b3 b4 b5 w1 w2 v3:=by
 have o2:=E.o2; have o3:=E.o3; have o4:=E.o4; have o5:=E.o5
 exact ⟨DU E.gm (by omega),DU E.g2 (by omega),DU E.g3 (by omega),EJ E.g4,DU E.g5 (by omega),o2,o3,o4,o5,E.hx.set (by omega) _⟩
theorem Em.set5 (w3:AV):Em h (H.set b5 (.live 1 [[w3]])) m b2 b3 b4 b5 v1 v2 w3:=by
 have o2:=E.o2; have o3:=E.o3; have o4:=E.o4; have o5:=E.o5
 exact ⟨DU E.gm (by omega),DU E.g2 (by omega),DU E.g3 (by omega),DU E.g4 (by omega),EJ E.g5,o2,o3,o4,o5,E.hx.set (by omega) _⟩
theorem Em.s4 {o l:Nat}:FB Tryz.prog H 67 (.ptr b4 0 0) (.own o 0 l)=some (H.set b4 (.live 4 [KO (.own o 0 l) v2])):=NQ (row:=KO v1 v2) (AHV _ _ _) AX4 E.g4 (by simp [KO])
theorem Em.s4' {o l:Nat}:FB Tryz.prog H 67 (.ptr b4 0 1) (.own o 0 l)=some (H.set b4 (.live 4 [KO v1 (.own o 0 l)])):=NQ (row:=KO v1 v2) (AHV _ _ _) AX4 E.g4 (by simp [KO])
theorem Em.s5 {o l:Nat}:FB Tryz.prog H 67 (.ptr b5 0 0) (.own o 0 l)=some (H.set b5 (.live 1 [[.own o 0 l]])):=NQ (row := [v3]) (AHV _ _ _) AX4 E.g5 (by simp)
theorem Em.lt:b5 < H.length:=CE E.g5
end
theorem Em.mk' (h:Hp) (m:Mo):Em h (h ++ [ABlk.live 2 [EE m]] ++ [ABlk.live 4 [IC]] ++ [ABlk.live 1 [G7]] ++ [ABlk.live 4 [IC]] ++ [ABlk.live 1 [G7]]) m (h ++ [ABlk.live 2 [EE m]]).length (h ++ [ABlk.live 2 [EE m]] ++ [ABlk.live 4 [IC]]).length
  (h ++ [ABlk.live 2 [EE m]] ++ [ABlk.live 4 [IC]] ++ [ABlk.live 1 [G7]]).length (h ++ [ABlk.live 2 [EE m]] ++ [ABlk.live 4 [IC]] ++ [ABlk.live 1 [G7]] ++ [ABlk.live 4 [IC]]).length (.sl .nil 0 []) (.sl .nil 0 []) (.sl .nil 0 []) :=
 ⟨CU (CU (CU (CU (CW _ _)))),CU (CU (CU (CW _ _))),CU (CU (CW _ _)),CU (CW _ _),CW _ _,by simp,by simp,by simp,by simp,((((ext.rfl' h).app _).app _).app _).app _ |>.app _⟩
theorem A57 (h:Hp):EN Tryz.prog false h 67 1 [(0,.sl .nil 0 [])]=some (.sl .full 1 [G7],h):=by kernel_rfl
theorem ATW {H:Hp} {b:Nat} {row:List AV} {v1 v2:AV} (hb:H[b]? = some (.live 4 [row])) (hr:row.length=4) (h1:v1.leaf=true) (h2:v2.leaf=true):FB Tryz.prog H 81 (.ptr b 0 0) (.agg (KO v1 v2))=some (H.set b (.live 4 [KO v1 v2])):=by
 rw [NQ (cs:=KO v1 v2) (PN (by simp [KO,h1,h2]; rfl)) ATO hb (by rw [hr]; exact jK 4)]
 have:splice row 0 (KO v1 v2)=KO v1 v2:=by unfold splice; rw [qO,zG (by rw [hr]; exact jK 4)]; simp
 rw [this]
theorem ATU {H:Hp} {b:Nat} {row:List AV} {v3:AV} (hb:H[b]? = some (.live 1 [row])) (hr:row.length=1) (h3:v3.leaf=true):FB Tryz.prog H 120 (.ptr b 0 0) (.agg [v3])=some (H.set b (.live 1 [[v3]])):=by
 rw [NQ (cs := [v3]) (PN (by simp [h3])) ATQ hb (by rw [hr]; exact jK 1)]
 have:splice row 0 [v3] = [v3]:=by unfold splice; rw [qO,zG (by rw [hr]; exact jK 1)]; simp
 rw [this]
structure Er (h H:Hp) (m:Mo) (b2 b3:Nat) (v1 v2:AV):Prop where
 gm:H[h.length]? = some (.live 2 [EE m])
 g2:H[b2]? = some (.live 4 [IC])
 g3:H[b3]? = some (.live 4 [KO v1 v2])
 o2:h.length < b2
 o3:b2 < b3
 hx:ext h H
section
variable {h H:Hp} {m:Mo} {b2 b3:Nat} {v1 v2:AV} (E:Er h H m b2 b3 v1 v2)
include E
theorem Er.m0:DX Tryz.prog H 22 (.ptr h.length 0 0)=some (.sl m.pm 6 (m.pts.map F9)):=by rw [DJ Z7 E.gm (row:=EE m) rfl,SE]
theorem Er.m1:DX Tryz.prog H 23 (.ptr h.length 0 1)=some (.sl m.cm 3 (m.crs.map G6)):=by rw [DJ AD2 E.gm (row:=EE m) rfl,U1]
theorem Er.l3:DX Tryz.prog H 67 (.ptr b3 0 0)=some v1:=by rw [DJ TR E.g3 (row:=KO v1 v2) rfl]; rfl
theorem Er.l3':DX Tryz.prog H 67 (.ptr b3 0 1)=some v2:=by rw [DJ TR E.g3 (row:=KO v1 v2) rfl]; rfl
theorem Er.keep {H':Hp} {u:AV} (hk : ∀ b x,H[b]? = some x→¬ isB u b→H'[b]? = some x) (hu : ∀ b,isB u b→b3 < b) (hx:ext h H→ext h H'):Er h H' m b2 b3 v1 v2:=by
 have o2:=E.o2; have o3:=E.o3
 exact ⟨hk _ _ E.gm (fun e=>by have:=hu _ e; omega),hk _ _ E.g2 (fun e=>by have:=hu _ e; omega),hk _ _ E.g3 (fun e=>by have:=hu _ e; omega),o2,o3,hx E.hx⟩
theorem Er.lt:b3 < H.length:=CE E.g3
end
theorem Er.mk' (h:Hp) (m:Mo):Er h (h ++ [ABlk.live 2 [EE m]] ++ [ABlk.live 4 [IC]] ++ [ABlk.live 4 [IC]]) m (h ++ [ABlk.live 2 [EE m]]).length (h ++ [ABlk.live 2 [EE m]] ++ [ABlk.live 4 [IC]]).length (.sl .nil 0 []) (.sl .nil 0 []) :=
 ⟨CU (CU (CW _ _)),CU (CW _ _),CW _ _,by simp,by simp,(((ext.rfl' h).app _).app _).app _⟩
theorem AB1 {E:Env} {f:FuncId} {args:List AV} {h:Hp} {r:AV} (d:Nat) (hr : ∀ n H,IG n H d r=r) (hc:ACalls E f args h fun v H=>v=r∧ext h H):PCall E f args h r :=
 ACalls.pure d hc fun v H ⟨e,he⟩=>⟨he,by rw [e]; exact hr _ _⟩
structure Ee (h H:Hp) (m:Mo) (b2 b3:Nat):Prop where
 gm:H[h.length]? = some (ABlk.live 2 [EE m])
 g2:H[b2]? = some (ABlk.live 4 [IC])
 g3:H[b3]? = some (ABlk.live 1 [G7])
 o2:h.length < b2
 o3:b2 < b3
 hx:ext h H
theorem Ee.mk' (h:Hp) (m:Mo):Ee h (h ++ [ABlk.live 2 [EE m]] ++ [ABlk.live 4 [IC]] ++ [ABlk.live 1 [G7]]) m (h ++ [ABlk.live 2 [EE m]]).length (h ++ [ABlk.live 2 [EE m]] ++ [ABlk.live 4 [IC]]).length :=
 ⟨CU (CU (CW _ _)),CU (CW _ _),CW _ _,by simp,by simp,(((ext.rfl' h).app _).app _).app _⟩
theorem Ee.lt {h H:Hp} {m:Mo} {b2 b3:Nat} (E:Ee h H m b2 b3):b3 < H.length:=CE E.g3
theorem Ee.m0 {h H:Hp} {m:Mo} {b2 b3:Nat} (E:Ee h H m b2 b3):DX Tryz.prog H 22 (.ptr h.length 0 0)=some (.sl m.pm 6 (m.pts.map F9)):=by rw [DJ Z7 E.gm (row:=EE m) rfl,SE]
theorem E8 {h H:Hp} {b:Nat} {x:ABlk} (he:ext h H) (hb:h[b]? = some x):H[b]? = some x:=by
 obtain ⟨y,rfl⟩:=he
 exact FQ hb
theorem A2C (h:Hp) (v:Cvr):FB Tryz.prog (h ++ [ABlk.live 4 [IC]]) 81 (.ptr h.length 0 0) (.agg (encV v))=some (h ++ [ABlk.live 4 [encV v]]):=by rw [stV (CW _ _) rfl,AA7]
structure Mr (h H:Hp) (m:Mo) (a b:Cvr) (b4 b5 b6:Nat):Prop where
 gm:H[h.length]? = some (ABlk.live 2 [EE m])
 ga:H[b4]? = some (ABlk.live 4 [encV a])
 gb:H[b5]? = some (ABlk.live 4 [encV b])
 g6:H[b6]? = some (ABlk.live 4 [IC])
 o4:h.length < b4
 o5:b4 < b5
 o6:b5 < b6
 hx:ext h H
theorem Mr.mk' (h:Hp) (m:Mo) (a b:Cvr):Mr h (h ++ [ABlk.live 2 [EE m]] ++ [ABlk.live 4 [encV a]] ++ [ABlk.live 4 [encV b]] ++ [ABlk.live 4 [IC]]) m a b (h ++ [ABlk.live 2 [EE m]]).length (h ++ [ABlk.live 2 [EE m]] ++ [ABlk.live 4 [encV a]]).length (h ++ [ABlk.live 2 [EE m]] ++ [ABlk.live 4 [encV a]] ++ [ABlk.live 4 [encV b]]).length :=
 ⟨CU (CU (CU (CW _ _))),CU (CU (CW _ _)),CU (CW _ _),CW _ _,by simp,by simp,by simp,((((ext.rfl' h).app _).app _).app _).app _⟩
structure Al (h H:Hp) (m:Mo) (c:Cvr) (b4 b6:Nat):Prop where
 gm:H[h.length]? = some (ABlk.live 2 [EE m])
 g4:H[b4]? = some (ABlk.live 4 [IC])
 g6:H[b6]? = some (ABlk.live 4 [encV c])
 o4:h.length < b4
 o6:b4 < b6
 hx:ext h H
theorem Al.app {h H:Hp} {m:Mo} {c:Cvr} {b4 b6:Nat} (E:Al h H m c b4 b6) (x:Hp):Al h (H ++ x) m c b4 b6:=⟨FQ E.gm,FQ E.g4,FQ E.g6,E.o4,E.o6,E.hx.app _⟩
theorem Al.up {h H H':Hp} {m:Mo} {c:Cvr} {b4 b6:Nat} (E:Al h H m c b4 b6) (hx:ext H H'):Al h H' m c b4 b6:=by
 obtain ⟨x,rfl⟩:=hx; exact E.app x
end Go.Proofs.YtfpagfhhhlljjaaGreatDoor.Cov
