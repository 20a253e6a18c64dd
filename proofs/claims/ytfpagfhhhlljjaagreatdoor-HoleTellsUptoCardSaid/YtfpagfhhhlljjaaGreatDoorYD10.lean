/- Part 10 of the proof (A1, Q1, Q2, Q3, A2, Q4, Q5, Q6, Q7, Q8); no condition. -/
import Derived.Test.YtfpagfhhhlljjaaGreatDoorYD9
set_option linter.unusedVariables false
namespace Go.Proofs.YtfpagfhhhlljjaaGreatDoor.Cov
open Sm Bins Go.RowKit
open Bool renaming and_eq_true→jX
open List renaming mem_cons→qJ,map_cons→jD,drop_zero→zU,take_of_length_le→jW,take_zero→qB,drop_eq_nil_of_le→jV
open Nat renaming le_trans→qG,le_refl→jL
theorem OU {n:Int}:J7 n=true↔0≤n∧n≤1099511627776:=by unfold J7; simp
theorem YJ {n:Int}{p:Bool}(h:countB n p=true):J7 n=true:=by unfold countB at h; simp only[jX] at h; exact h.1
def WL (x:List Int):Prop := ∀ n∈x,J7 n=true
theorem WH : ∀ {x:List Int} {p:Nat→Bool} {k:Nat},rowF p k x=true→WL x
 | [],_,_,_=>fun _ h=>by cases h
 | n :: x,p,k,h=>by
   simp only[rowF,jX] at h
   intro m hm
   rcases qJ.1 hm with rfl | hm
   ·exact YJ h.1
   ·exact WH h.2 m hm
theorem RP {m:Mo}{v:Cvr}:LC m v=true↔FX m=0∧MS okP m.pts v.pts=true∧MS (okC m) m.crs v.crs=true∧J7 v.sam=true∧J7 v.ill=true:=by
 unfold LC
 simp only[jX,beq_iff_eq]
 exact⟨fun⟨⟨⟨⟨a,b⟩,c⟩,d⟩,e⟩=>⟨a,b,c,d,e⟩,fun⟨a,b,c,d,e⟩=>⟨⟨⟨⟨a,b⟩,c⟩,d⟩,e⟩⟩
def zeros (n:Nat):List Int:=List.replicate n 0
def zIs (n:Nat):Is:=⟨.full,zeros n⟩
def zPs (m:Mo):List Is:=m.pts.map fun p=>zIs p.bins.length
def zCs (m:Mo):List Is:=m.crs.map fun c=>zIs (H8 (szs m c.pts))
def Y8 (m:Mo):Cvr:=⟨nm (zPs m),zPs m,nm (zCs m),zCs m,0,0⟩
theorem UQ : ∀ (n:Nat) {p:Nat→Bool} {k:Nat},rowF p k (zeros n)=true
 | 0,_,_=>rfl
 | n+1,p,k=>by
   have ih:=UQ n (p:=p) (k:=k+1)
   unfold zeros at *
   simp only[List.replicate_succ,rowF,ih,Bool.and_true]
   unfold countB; cases p k <;> rfl
theorem W9 {α:Type}{ok:α→Is→Bool}(f:α→Is)(hf : ∀ a,ok a (f a)=true) : ∀ ws:List α,MS ok ws (ws.map f)=true
 | []=>rfl
 | a :: ws=>by simp only[jD,MS,hf,W9 f hf ws,Bool.and_true]
theorem ACN {m:Mo}(h:FX m=0):LC m (Y8 m)=true:=by
 rw[RP]
 refine⟨h,W9 _ (fun p => ?_) _,W9 _ (fun c => ?_) _,rfl,rfl⟩
 ·unfold okP; simp [zIs,UQ]; simp [zeros]
 ·unfold okC; simp [zIs,UQ]; simp [zeros]
structure Dat where
 pts:List (List Int)
 crs:List (List Int)
 sam:Int
 ill:Int
def AAR (v:Cvr):Dat:=⟨v.pts.map (·.l),v.crs.map (·.l),v.sam,v.ill⟩
theorem ARF {p:Pt}{x:Is}(h:okP p x=true):x.l.length=p.bins.length:=by
 unfold okP at h; simp only[jX,beq_iff_eq] at h; exact h.1
theorem ARI {m:Mo}{c:Cr}{x:Is}(h:okC m c x=true):x.l.length=H8 (szs m c.pts):=by
 unfold okC at h; simp only[jX,beq_iff_eq] at h; exact h.1
theorem SG {α:Type}{ok:α→Is→Bool}(hok : ∀ a x y,x.l=y.l→ok a x=ok a y) : ∀ (ws:List α) (xs ys:List Is),xs.map (·.l)=ys.map (·.l)→MS ok ws xs=MS ok ws ys
 | [],[],[],_=>rfl
 | a :: ws,x :: xs,y :: ys,h=>by
   simp only[jD,List.cons.injEq] at h
   simp only[MS,hok a x y h.1,SG hok ws xs ys h.2]
 | [],x :: xs,y :: ys,h=>rfl
 | a :: ws,[],[],h=>rfl
 | _,[],_ :: _,h=>by simp at h
 | _,_ :: _,[],h=>by simp at h
theorem AT6 {m:Mo}{a b:Cvr}(h:AAR a=AAR b):LC m a=LC m b:=by
 unfold AAR at h
 simp only[Dat.mk.injEq] at h
 obtain⟨h1,h2,h3,h4⟩:=h
 unfold LC
 rw[SG (fun p x y e=>by unfold okP; rw[e]) m.pts a.pts b.pts h1,SG (fun c x y e=>by unfold okC; rw[e]) m.crs a.crs b.crs h2,h3,h4]
theorem mkI (h:Hp)(n:Nat)(hn:n≤1048576):JO Tryz.prog true h 26 (.int .i64 (n:Int)) (.int .i64 (n:Int))=some (.own h.length 0 n,h++[.live 1 ((zeros n).map qencI)]):=by
 rw[A54 h n hn,AR9]
 simp [zeros]
theorem TJ (h:Hp)(x y:ABlk):(h++[x]).set h.length y=h++[y]:=by simp
theorem AYH (h:Hp)(m:SM)(xs:List (List AV)):FM Tryz.prog false h 67 1 [(0,.sl m 1 xs)]=some (.sl .full 1 [[.sl m 1 xs]],h):=by kernel_rfl
theorem A6T:Frz encL:=fun _ _ _ _=>⟨rfl,rfl⟩
structure VV (h H:Hp) (a b:Cvr) (bb:Nat):Prop where
 ga:H[h.length]? = some (.live 4 [encV a])
 gb:H[bb]? = some (.live 4 [encV b])
 hx : ∃ x,H=h++x
theorem VV.mk' (h:Hp)(a b:Cvr):VV h (h++[.live 4 [encV a]]++[.live 4 [encV b]]) a b (h++[ABlk.live 4 [encV a]]).length:=⟨CX (CZ _ _),CZ _ _,⟨_,List.append_assoc _ _ _⟩⟩
section
variable {H:Hp} {v:Cvr} {vb:Nat} (gv:H[vb]? = some (.live 4 [encV v]))
include gv
end
theorem Y7 {P:Program}{a t:Nat}{R:AV→Hp→Prop}{F:Fr}{h:Hp}{x:AV}{b:Nat}(hF:F a = .ptr b 0 0)(h1:D8 P h t (.ptr b 0 0)=some x):EM P [.cell a t] R .ret F h=R x h:=by simp [EM,AAY,TY,hF,h1]
theorem A4I {P:Program}{a t b u:Nat}{R:AV→Hp→Prop}{F:Fr}{h:Hp}{x y:AV}{ba bb:Nat}(hF:F a = .ptr ba 0 0)(hG:F b = .ptr bb 0 0)(h1:D8 P h t (.ptr ba 0 0)=some x)(h2:D8 P h u (.ptr bb 0 0)=some y):EM P [.cell a t,.cell b u] R .ret F h=R (.tup [x,y]) h:=by simp [EM,AAY,QW,TY,hF,hG,h1,h2]
theorem XO {P:Program}{a t b u c:Nat}{R:AV→Hp→Prop}{F:Fr}{h:Hp}{x y:AV}{ba bb:Nat}(hF:F a = .ptr ba 0 0)(hG:F b = .ptr bb 0 0)(h1:D8 P h t (.ptr ba 0 0)=some x)(h2:D8 P h u (.ptr bb 0 0)=some y):EM P [.cell a t,.cell b u,.tmp c] R .ret F h=R (.tup [x,y,F c]) h:=by simp [EM,AAY,QW,TY,hF,hG,h1,h2]
theorem XP {P:Program}{a t c:Nat}{R:AV→Hp→Prop}{F:Fr}{h:Hp}{x:AV}{ba:Nat}(hF:F a = .ptr ba 0 0)(h1:D8 P h t (.ptr ba 0 0)=some x):EM P [.cell a t,.tmp c] R .ret F h=R (.tup [x,F c]) h:=by simp [EM,AAY,QW,TY,hF,h1]
def fzG {α:Type}(k:Nat)(f:α→List AV)(ys:List α):AV:=match ys with
 | [] => .sl .nil 0 []
 | _ => .sl .any k (ys.map f)
theorem UZ {α:Type}{k:Nat}{f:α→List AV}{h H:Hp}{ys:List α}{v:AV}(hf:Frz f)(ho:outG k f h ys v H)(n d:Nat)(hn:n≤h.length):IL n H (d+2) v=fzG k f ys:=by
 rcases ho with⟨rfl,rfl⟩ | ⟨hne,o,h2,rfl,h3⟩
 ·rfl
 ·rw[frz_own hf (qG hn h2) h3]
  cases ys with
  | nil=>exact absurd rfl hne
  | cons _ _=>rfl
theorem WY {α:Type}{k:Nat}{f:α→List AV}{ys:List α}:CvR (fzG k f ys) (.sl (nm ys) k (ys.map f)):=by
 cases ys with
 | nil=>exact CvR.sl (Cv.nil 0 k)
 | cons y ys=>exact CvR.refl _
theorem outG.app2 {P:Program}{t e:TypeId}{α:Type}{k bs:Nat}{f:α→List AV}{h H:Hp}{ys:List α}{v:AV}(ho:outG k f h ys v H)(hu:P.underlying t=some (.slice e))(hs:szO P e=some k)(hz:V8 P e=some k)(hb:OB P e=some bs)(hbs:bs≤4194304)(hl:ys.length < 8388608)(he:h.length≤H.length)(y:α) :
  ∃ v' H',GM P true H t t v (.sl .full k [f y])=some (v',H')∧outG k f h (ys++[y]) v' H'∧(∀ b x,H[b]? = some x→¬ isB v b→H'[b]? = some x)∧H'.length=H.length+1∧(∀ b,isB v' b→b=H.length)∧(∃ o l,v' = .own o 0 l)∧∀ e:Hp,e.length≤h.length→ext e H→ext e H':=by
 have h1:([f y]:List (List AV))≠[]:=by simp
 rcases ho with⟨rfl,rfl⟩ | ⟨hne,o,h2,rfl,h3⟩
 ·exact⟨_,_,QE hu hs hz hb (JF H .full k [f y]) h1 (JB (by simp) hbs),.inr ⟨by simp,H.length,he,rfl,by simp⟩,fun b x hb _=>F7 hb,by simp,fun b hb=>hb.symm,⟨_,_,rfl⟩,fun e _ hx=>hx.app _⟩
 ·have hc:KE H (.own o 0 ys.length)=some (k,ys.map f):=by
   rw[MH h3 (by simp),zU,jW (by simp)]
  refine⟨_,_,Q8 hu hs hz hb hc (JF H .full k [f y]) h1 (JB (by simp; omega) hbs),.inr ⟨by simp,H.length,he,by simp,by simp⟩,fun b x hb hn => ?_,by simp,fun b hb=>hb.symm,⟨_,_,rfl⟩,fun e hl hx=>(hx.set (qG hl h2) _).app _⟩
  have hn' : ¬ o=b:=hn
  refine F7 ?_
  rw[List.getElem?_set,if_neg hn']; exact hb
theorem MK {P:Program}{H:Hp}{t b k j:Nat}{row cs:List AV}{v:AV}(hc:JW v=some cs)(hs:szO P t=some cs.length)(hb:H[b]? = some (.live k [row]))(hl:j+cs.length≤row.length):FP P H t (.ptr b 0 j) v=some (H.set b (.live k [splice row j cs])):=by
 rw[JQ (i:=0) hc hs hb rfl hl]; rfl
theorem mkF (h:Hp)(n:Nat)(hn:n≤1048576):JO Tryz.prog false h 26 (.int .i64 (n:Int)) (.int .i64 (n:Int))=some (.sl .full 1 ((zeros n).map qencI),h):=by
 have hz:NE Tryz.prog 3=some [.int .i64 0]:=by kernel_rfl
 have hr:room n 8:=JB (by omega) (by omega)
 unfold JO
 simp only[VF,sz3,XC,hz,Int.toNat_natCast]
 rw[if_pos ⟨by omega,Int.le_refl _,hr,rfl⟩]
 simp [zeros,qencI]
structure Tk where
 m:SM
 last:List Is
def LZ (t:Tk):List AV := [.sl t.m 1 (t.last.map encL)]
theorem AMV (t:Tk):(LZ t).length=1:=rfl
def zT:Tk:=⟨.nil,[]⟩
def zV:Cvr:=⟨.nil,[],.nil,[],0,0⟩
def zLs (m:Mo):List Is:=m.pts.map fun _=>⟨.nil,[]⟩
def GH:List AV := [.sl .nil 0 []]
theorem A0I:CvRow GH (encL ⟨.nil,[]⟩):=CvRow.cons rfl (Cv.nil 0 1) CvRow.nil
theorem A0H {α:Type}{s:SM}(xs:List α):Cv (.sl s 1 (xs.map fun _=>GH)) (.sl s 1 ((xs.map fun _=>(⟨.nil,[]⟩:Is)).map encL)):=by
 rw[List.map_map]
 exact Cv.map fun _ _=>A0I
theorem AU7:CvR (.agg [.sl .nil 0 [],.sl .nil 0 [],.int .i64 0,.int .i64 0]) (.agg (encV zV)):=CvR.agg (CvRL.cons (CvR.sl (Cv.nil 0 1)) (CvRL.cons (CvR.sl (Cv.nil 0 1)) (CvRL.cons (CvR.refl _) (CvRL.cons (CvR.refl _) CvRL.nil))))
theorem A43:CvR (.agg [.sl .nil 0 []]) (.agg (LZ zT)):=CvR.agg (CvRL.cons (CvR.sl (Cv.nil 0 1)) CvRL.nil)
def GG:List AV := [.sl .nil 0 [],.sl .nil 0 [],.int .i64 0,.int .i64 0]
theorem PU (h:Hp):KN Tryz.prog h 81=some (.ptr h.length 0 0,h++[.live 4 [GG]]):=KD (row:=GG) (by kernel_rfl)
theorem AC5 (h:Hp):KN Tryz.prog h 120=some (.ptr h.length 0 0,h++[.live 1 [GH]]):=KD (row:=GH) (by kernel_rfl)
theorem VY:LM Tryz.prog 81 []=some (.agg GG):=by kernel_rfl
theorem AF1:LM Tryz.prog 120 []=some (.agg GH):=by kernel_rfl
theorem stV {H:Hp}{b:Nat}{row:List AV}{v:Cvr}(hb:H[b]? = some (.live 4 [row]))(hr:row.length=4):FP Tryz.prog H 81 (.ptr b 0 0) (.agg (encV v))=some (H.set b (.live 4 [encV v])):=by
 rw[MK (cs:=encV v) rfl ASS hb (by rw[hr]; exact jL 4)]
 have:splice row 0 (encV v)=encV v:=by unfold splice; simp [encV_len,hr]
 rw[this]
theorem stZ {H:Hp}{b:Nat}{row:List AV}(hb:H[b]? = some (.live 4 [row]))(hr:row.length=4):FP Tryz.prog H 81 (.ptr b 0 0) (.agg GG)=some (H.set b (.live 4 [GG])):=by
 rw[MK (cs:=GG) rfl ASS hb (by rw[hr]; exact jL 4)]
 have:splice row 0 GG=GG:=by unfold splice; simp [GG,hr]
 rw[this]
theorem stT {H:Hp}{b:Nat}{row:List AV}{t:Tk}(hb:H[b]? = some (.live 1 [row]))(hr:row.length=1):FP Tryz.prog H 120 (.ptr b 0 0) (.agg (LZ t))=some (H.set b (.live 1 [LZ t])):=by
 rw[MK (cs:=LZ t) rfl AKQ hb (by rw[hr]; exact jL 1)]
 have:splice row 0 (LZ t)=LZ t:=by unfold splice; rw[AMV,qB,jV (by omega)]; simp
 rw[this]
theorem ADY {H:Hp}{b:Nat}{row:List AV}(hb:H[b]? = some (.live 1 [row]))(hr:row.length=1):FP Tryz.prog H 120 (.ptr b 0 0) (.agg GH)=some (H.set b (.live 1 [GH])):=by
 rw[MK (cs:=GH) rfl AKQ hb (by rw[hr]; exact jL 1)]
 have:splice row 0 GH=GH:=by unfold splice; rw[qB,jV (by rw[hr]; exact jL 1)]; simp
 rw[this]
theorem ldT {h:Hp}{b:Nat}{t:Tk}(hb:h[b]? = some (.live 1 [LZ t])):D8 Tryz.prog h 120 (.ptr b 0 0)=some (.agg (LZ t)):=by
 rw[IJ A26 AKQ hb rfl (by rw[AMV]; exact jL 1)]; rfl
theorem KW {h:Hp}{b:Nat}{row:List AV}(hb:h[b]? = some (.live 4 [row]))(hr:row.length=4):D8 Tryz.prog h 81 (.ptr b 0 0)=some (.agg row):=by
 rw[IJ A75 ASS hb rfl (by rw[hr]; exact jL 4),zU,jW (by omega)]
theorem QC {h:Hp}{b:Nat}{row:List AV}(hb:h[b]? = some (.live 1 [row]))(hr:row.length=1):D8 Tryz.prog h 120 (.ptr b 0 0)=some (.agg row):=by
 rw[IJ A26 AKQ hb rfl (by rw[hr]; exact jL 1),zU,jW (by omega)]
theorem ATB {ns:List Nat}(h : ∀ n∈ns,1≤n):1≤H8 ns:=AED ns 0 h
theorem AJN {α:Type}{ok:α→Is→Bool} : ∀ {ws:List α} {xs:List Is},MS ok ws xs=true→∀ x∈xs,∃ a∈ws,ok a x=true
 | [],[],_,x,hx=>by cases hx
 | a :: ws,y :: xs,h,x,hx=>by
   simp only[MS,jX] at h
   rcases qJ.1 hx with rfl | hx
   ·exact⟨a,by simp,h.1⟩
   ·obtain⟨b,hb,hk⟩:=AJN h.2 x hx
    exact⟨b,by simp [hb],hk⟩
 | [],_ :: _,h,_,_=>by cases h
 | _ :: _,[],h,_,_=>by cases h
theorem AZY {m:Mo}{v:Cvr}(h:LC m v=true):v.pts.length=m.pts.length∧v.crs.length=m.crs.length∧(∀ x∈v.pts,1≤x.l.length∧x.l.length≤64)∧(∀ x∈v.crs,1≤x.l.length∧x.l.length≤256):=by
 have hg:=NY (AE5 h)
 rw[RP] at h
 obtain⟨_,h2,h3,_,_⟩:=h
 refine⟨(SE h2).symm,(SE h3).symm,fun x hx => ?_,fun x hx => ?_⟩
 ·obtain⟨p,hp,hk⟩:=AJN h2 x hx
  have:=hg.full p hp
  rw[ARF hk]; exact this
 ·obtain⟨c,hc,hk⟩:=AJN h3 x hx
  have hcg:=hg.crs c hc
  have hs:=hg.full.szs hcg.here
  rw[ARI hk]
  exact⟨ATB fun n hn=>(hs n hn).1,hcg.prod⟩
theorem AH8 {m:Mo}{v:Cvr}(h:LC m v=true):CvOk v:=by
 have hn:=(NY (AE5 h)).num
 obtain⟨h1,h2,h3,h4⟩:=AZY h
 exact⟨by omega,by omega,fun x hx=>by have:=h3 x hx; omega,fun x hx=>by have:=h4 x hx; omega⟩
def A2Z (l:List (List Int))(i k:Nat):Int:=match l[i]? with
 | some x=>(match x[k]? with | some z=>z | none=>0)
 | none=>0
theorem AAT (l:List Is)(i k:Nat):cellAt l i k=A2Z (l.map (·.l)) i k:=by
 unfold cellAt A2Z
 rw[List.getElem?_map]
 cases l[i]? <;> rfl
end Go.Proofs.YtfpagfhhhlljjaaGreatDoor.Cov
set_option linter.unusedSimpArgs false
set_option maxRecDepth 8000
namespace Go.Proofs.YtfpagfhhhlljjaaGreatDoor.Cov
open Sm Bins Go.RowKit
open Bool renaming or_false→jQ,not_false→jC
open List renaming take_succ_eq_append_getElem→zN,take_zero→qB,drop_eq_nil_of_le→jV,contains_cons→jR,contains_nil→jJ,length_map→jH,getElem_mem→jP,length_take→zJ,length_set→qW,take_of_length_le→jW,map_cons→jD,map_nil→jE,append_nil→jF
open Nat renaming le_refl→jL,le_of_ble_eq_true→jI,reduceBEq→jO,reduceEqDiff→jB,add_zero→jK,reduceAdd→jM,zero_add→jG
open Option renaming getD_some→jA,getD_none→jT
theorem outG.setB {α:Type}{k:Nat}{f:α→List AV}{h H:Hp}{ys:List α}{v:AV}{b:Nat}(ho:outG k f h ys v H)(hb:b < h.length)(y:ABlk):outG k f h ys v (H.set b y) :=
 ho.keep fun b' hb'=>by
  have:=ho.lt hb'
  rw[List.getElem?_set_ne (by omega)]
theorem outG.keepA {α:Type}{k:Nat}{f:α→List AV}{h H H':Hp}{ys:List α}{v u:AV}(ho:outG k f h ys v H)(hk : ∀ b x,H[b]? = some x→¬ isB u b→H'[b]? = some x)(hd : ∀ b,isB v b→¬ isB u b):outG k f h ys v H':=by
 rcases ho with h1 | ⟨h1,o,h2,rfl,h3⟩
 ·exact .inl h1
 ·exact .inr ⟨h1,o,h2,rfl,hk _ _ h3 (hd o rfl)⟩
theorem outG.leaf {α:Type}{k:Nat}{f:α→List AV}{h H:Hp}{ys:List α}{v:AV}(ho:outG k f h ys v H):v.leaf=true:=by
 rcases ho with⟨_,rfl⟩ | ⟨_,o,_,rfl,_⟩ <;> rfl
theorem outG.base {α:Type}{k:Nat}{f:α→List AV}{h h' H:Hp}{ys:List α}{v:AV}(ho:outG k f h ys v H)(hl:h'.length≤h.length):outG k f h' ys v H:=by
 rcases ho with h1 | ⟨h1,o,h2,rfl,h3⟩
 ·exact .inl h1
 ·exact .inr ⟨h1,o,Nat.le_trans hl h2,rfl,h3⟩
def I9 (v1 v2:AV):List AV := [v1,v2,.int .i64 0,.int .i64 0]
structure Em (h H:Hp) (m:Mo) (b2 b3 b4 b5:Nat) (v1 v2 v3:AV):Prop where
 gm:H[h.length]? = some (.live 2 [EE m])
 g2:H[b2]? = some (.live 4 [GG])
 g3:H[b3]? = some (.live 1 [GH])
 g4:H[b4]? = some (.live 4 [I9 v1 v2])
 g5:H[b5]? = some (.live 1 [[v3]])
 o2:h.length < b2
 o3:b2 < b3
 o4:b3 < b4
 o5:b4 < b5
 hx:ext h H
section
variable {h H:Hp} {m:Mo} {b2 b3 b4 b5:Nat} {v1 v2 v3:AV} (E:Em h H m b2 b3 b4 b5 v1 v2 v3)
include E
theorem Em.m0:D8 Tryz.prog H 22 (.ptr h.length 0 0)=some (.sl m.pm 6 (m.pts.map GI)):=by rw[DY ZB E.gm (row:=EE m) rfl,SL]
theorem Em.m1:D8 Tryz.prog H 23 (.ptr h.length 0 1)=some (.sl m.cm 3 (m.crs.map GV)):=by rw[DY AB5 E.gm (row:=EE m) rfl,U2]
theorem Em.l4:D8 Tryz.prog H 67 (.ptr b4 0 0)=some v1:=by rw[DY UE E.g4 (row:=I9 v1 v2) rfl]; rfl
theorem Em.l4':D8 Tryz.prog H 67 (.ptr b4 0 1)=some v2:=by rw[DY UE E.g4 (row:=I9 v1 v2) rfl]; rfl
theorem Em.l5:D8 Tryz.prog H 67 (.ptr b5 0 0)=some v3:=by rw[DY UE E.g5 (row := [v3]) rfl]; rfl
theorem Em.app (x:Hp):Em h (H++x) m b2 b3 b4 b5 v1 v2 v3:=⟨F7 E.gm,F7 E.g2,F7 E.g3,F7 E.g4,F7 E.g5,E.o2,E.o3,E.o4,E.o5,E.hx.app _⟩
theorem Em.keep {H':Hp}{u:AV}(hk : ∀ b x,H[b]? = some x→¬ isB u b→H'[b]? = some x)(hu : ∀ b,isB u b→b5 < b)(hx:ext h H→ext h H'):Em h H' m b2 b3 b4 b5 v1 v2 v3:=by
 have o2:=E.o2; have o3:=E.o3; have o4:=E.o4; have o5:=E.o5
 exact⟨hk _ _ E.gm (fun e=>by have:=hu _ e; omega),hk _ _ E.g2 (fun e=>by have:=hu _ e; omega),hk _ _ E.g3 (fun e=>by have:=hu _ e; omega),hk _ _ E.g4 (fun e=>by have:=hu _ e; omega),hk _ _ E.g5 (fun e=>by have:=hu _ e; omega),o2,o3,o4,o5,hx E.hx⟩
theorem Em.set4 (w1 w2:AV):Em h (H.set b4 (.live 4 [I9 w1 w2])) m b2 b3 b4 b5 w1 w2 v3:=by
 have o2:=E.o2; have o3:=E.o3; have o4:=E.o4; have o5:=E.o5
 exact⟨CV E.gm (by omega),CV E.g2 (by omega),CV E.g3 (by omega),EG E.g4,CV E.g5 (by omega),o2,o3,o4,o5,E.hx.set (by omega) _⟩
theorem Em.set5 (w3:AV):Em h (H.set b5 (.live 1 [[w3]])) m b2 b3 b4 b5 v1 v2 w3:=by
 have o2:=E.o2; have o3:=E.o3; have o4:=E.o4; have o5:=E.o5
 exact⟨CV E.gm (by omega),CV E.g2 (by omega),CV E.g3 (by omega),CV E.g4 (by omega),EG E.g5,o2,o3,o4,o5,E.hx.set (by omega) _⟩
theorem Em.s4 {o l:Nat}:FP Tryz.prog H 67 (.ptr b4 0 0) (.own o 0 l)=some (H.set b4 (.live 4 [I9 (.own o 0 l) v2])):=MK (row:=I9 v1 v2) (ZE _ _ _) AN7 E.g4 (by simp [I9])
theorem Em.s4' {o l:Nat}:FP Tryz.prog H 67 (.ptr b4 0 1) (.own o 0 l)=some (H.set b4 (.live 4 [I9 v1 (.own o 0 l)])):=MK (row:=I9 v1 v2) (ZE _ _ _) AN7 E.g4 (by simp [I9])
theorem Em.s5 {o l:Nat}:FP Tryz.prog H 67 (.ptr b5 0 0) (.own o 0 l)=some (H.set b5 (.live 1 [[.own o 0 l]])):=MK (row := [v3]) (ZE _ _ _) AN7 E.g5 (by simp)
theorem Em.lt:b5 < H.length:=CJ E.g5
end
theorem Em.mk' (h:Hp)(m:Mo):Em h (h++[ABlk.live 2 [EE m]]++[ABlk.live 4 [GG]]++[ABlk.live 1 [GH]]++[ABlk.live 4 [GG]]++[ABlk.live 1 [GH]]) m (h++[ABlk.live 2 [EE m]]).length (h++[ABlk.live 2 [EE m]]++[ABlk.live 4 [GG]]).length
  (h++[ABlk.live 2 [EE m]]++[ABlk.live 4 [GG]]++[ABlk.live 1 [GH]]).length (h++[ABlk.live 2 [EE m]]++[ABlk.live 4 [GG]]++[ABlk.live 1 [GH]]++[ABlk.live 4 [GG]]).length (.sl .nil 0 []) (.sl .nil 0 []) (.sl .nil 0 []) :=
 ⟨CX (CX (CX (CX (CZ _ _)))),CX (CX (CX (CZ _ _))),CX (CX (CZ _ _)),CX (CZ _ _),CZ _ _,by simp,by simp,by simp,by simp,((((ext.rfl' h).app _).app _).app _).app _ |>.app _⟩
theorem A7F (h:Hp):FM Tryz.prog false h 67 1 [(0,.sl .nil 0 [])]=some (.sl .full 1 [GH],h):=by kernel_rfl
theorem AU9 (m:Mo)(i:Nat)(hi:i < m.pts.length):(zPs m).take (i+1)=(zPs m).take i++[zIs m.pts[i].bins.length]:=by
 have hl:i < (zPs m).length:=by unfold zPs; simpa using hi
 rw[zN hl]; simp [zPs]
theorem AVA (m:Mo)(i:Nat)(hi:i < m.crs.length):(zCs m).take (i+1)=(zCs m).take i++[zIs (H8 (szs m m.crs[i].pts))]:=by
 have hl:i < (zCs m).length:=by unfold zCs; simpa using hi
 rw[zN hl]; simp [zCs]
theorem AQI (m:Mo):(zPs m).length=m.pts.length:=by simp [zPs]
theorem AQK (m:Mo):(zCs m).length=m.crs.length:=by simp [zCs]
theorem AHA {H:Hp}{b:Nat}{row:List AV}{v1 v2:AV}(hb:H[b]? = some (.live 4 [row]))(hr:row.length=4)(h1:v1.leaf=true)(h2:v2.leaf=true):FP Tryz.prog H 81 (.ptr b 0 0) (.agg (I9 v1 v2))=some (H.set b (.live 4 [I9 v1 v2])):=by
 rw[MK (cs:=I9 v1 v2) (QS (by simp [I9,h1,h2]; rfl)) ASS hb (by rw[hr]; exact jL 4)]
 have:splice row 0 (I9 v1 v2)=I9 v1 v2:=by unfold splice; rw[qB,jV (by rw[hr]; exact jL 4)]; simp
 rw[this]
theorem AKU {H:Hp}{b:Nat}{row:List AV}{v3:AV}(hb:H[b]? = some (.live 1 [row]))(hr:row.length=1)(h3:v3.leaf=true):FP Tryz.prog H 120 (.ptr b 0 0) (.agg [v3])=some (H.set b (.live 1 [[v3]])):=by
 rw[MK (cs := [v3]) (QS (by simp [h3])) AKQ hb (by rw[hr]; exact jL 1)]
 have:splice row 0 [v3] = [v3]:=by unfold splice; rw[qB,jV (by rw[hr]; exact jL 1)]; simp
 rw[this]
structure Er (h H:Hp) (m:Mo) (b2 b3:Nat) (v1 v2:AV):Prop where
 gm:H[h.length]? = some (.live 2 [EE m])
 g2:H[b2]? = some (.live 4 [GG])
 g3:H[b3]? = some (.live 4 [I9 v1 v2])
 o2:h.length < b2
 o3:b2 < b3
 hx:ext h H
section
variable {h H:Hp} {m:Mo} {b2 b3:Nat} {v1 v2:AV} (E:Er h H m b2 b3 v1 v2)
include E
theorem Er.m0:D8 Tryz.prog H 22 (.ptr h.length 0 0)=some (.sl m.pm 6 (m.pts.map GI)):=by rw[DY ZB E.gm (row:=EE m) rfl,SL]
theorem Er.m1:D8 Tryz.prog H 23 (.ptr h.length 0 1)=some (.sl m.cm 3 (m.crs.map GV)):=by rw[DY AB5 E.gm (row:=EE m) rfl,U2]
theorem Er.l3:D8 Tryz.prog H 67 (.ptr b3 0 0)=some v1:=by rw[DY UE E.g3 (row:=I9 v1 v2) rfl]; rfl
theorem Er.l3':D8 Tryz.prog H 67 (.ptr b3 0 1)=some v2:=by rw[DY UE E.g3 (row:=I9 v1 v2) rfl]; rfl
theorem Er.keep {H':Hp}{u:AV}(hk : ∀ b x,H[b]? = some x→¬ isB u b→H'[b]? = some x)(hu : ∀ b,isB u b→b3 < b)(hx:ext h H→ext h H'):Er h H' m b2 b3 v1 v2:=by
 have o2:=E.o2; have o3:=E.o3
 exact⟨hk _ _ E.gm (fun e=>by have:=hu _ e; omega),hk _ _ E.g2 (fun e=>by have:=hu _ e; omega),hk _ _ E.g3 (fun e=>by have:=hu _ e; omega),o2,o3,hx E.hx⟩
theorem Er.set3 (w1 w2:AV):Er h (H.set b3 (.live 4 [I9 w1 w2])) m b2 b3 w1 w2:=by
 have o2:=E.o2; have o3:=E.o3
 exact⟨CV E.gm (by omega),CV E.g2 (by omega),EG E.g3,o2,o3,E.hx.set (by omega) _⟩
theorem Er.s3 {o l:Nat}:FP Tryz.prog H 67 (.ptr b3 0 0) (.own o 0 l)=some (H.set b3 (.live 4 [I9 (.own o 0 l) v2])):=MK (row:=I9 v1 v2) (ZE _ _ _) AN7 E.g3 (by simp [I9])
theorem Er.s3' {o l:Nat}:FP Tryz.prog H 67 (.ptr b3 0 1) (.own o 0 l)=some (H.set b3 (.live 4 [I9 v1 (.own o 0 l)])):=MK (row:=I9 v1 v2) (ZE _ _ _) AN7 E.g3 (by simp [I9])
theorem Er.lt:b3 < H.length:=CJ E.g3
end
theorem Er.mk' (h:Hp)(m:Mo):Er h (h++[ABlk.live 2 [EE m]]++[ABlk.live 4 [GG]]++[ABlk.live 4 [GG]]) m (h++[ABlk.live 2 [EE m]]).length (h++[ABlk.live 2 [EE m]]++[ABlk.live 4 [GG]]).length (.sl .nil 0 []) (.sl .nil 0 []) :=
 ⟨CX (CX (CZ _ _)),CX (CZ _ _),CZ _ _,by simp,by simp,(((ext.rfl' h).app _).app _).app _⟩
theorem AVO (h:Hp):FP Tryz.prog (h++[.live 4 [GG]]) 81 (.ptr h.length 0 0) (.agg GG)=some (h++[.live 4 [GG]]):=by rw[stZ (CZ _ _) rfl,TJ]
theorem A3Q (h:Hp):FP Tryz.prog (h++[.live 1 [GH]]) 120 (.ptr h.length 0 0) (.agg GH)=some (h++[.live 1 [GH]]):=by rw[ADY (CZ _ _) rfl,TJ]
theorem AM1 {E:Env}{f:FuncId}{args:List AV}{h:Hp}{m:Mo}(hc:ACalls E f args h fun v H=>ext h H∧∃ v1 v2,v = .agg (I9 v1 v2)∧outG 1 encL h (zPs m) v1 H∧outG 1 encL h (zCs m) v2 H) :
  PCall E f args h (.agg (encV (Y8 m))):=by
 have hp:PCall E f args h (.agg (I9 (fzG 1 encL (zPs m)) (fzG 1 encL (zCs m)))):=by
  refine ACalls.pure 3 hc ?_
  rintro v H ⟨he,v1,v2,rfl,o1,o2⟩
  refine⟨he,?_⟩
  have e1:=UZ A6T o1 h.length 0 (jL _)
  have e2:=UZ A6T o2 h.length 0 (jL _)
  show AV.agg [IL h.length H 2 v1,IL h.length H 2 v2,.int .i64 0,.int .i64 0]=_
  rw[e1,e2]; rfl
 exact hp.res (CvR.agg (CvRL.cons WY (CvRL.cons WY (CvRL.refl _))))
set_option maxHeartbeats 2000000 in
theorem AT9 (G:Nat→AV)(m:Mo)(hm:MoOk m)(hg:Good m)(h:Hp):PCall (En G) 119 [.agg (EE m)] h (.agg (encV (Y8 m))):=by
 refine AM1 ?_
 have hm1:=hm.np
 have hm2:=hm.nc
 have hnum:=hg.num
 refine MJ (H:=hint [25,45] []) (enM G) Tryz.func119 rfl (by kernel_rfl) (by kernel_rfl) (jI (by kernel_rfl)) ?_
 show awp _ _ _ _ _ (EM _ [.cell 2 81] _)
 have E:=Er.mk' h m
 simp -implicitDefEqProofs only[vQ,jR,jJ,jO,jQ,BD,↓reduceIte,jB,enP,jT,bxM,PU,VY,AVO]
 generalize h++[ABlk.live 2 [EE m]]++[ABlk.live 4 [GG]]++[ABlk.live 4 [GG]]=H0 at E ⊢
 generalize (h++[ABlk.live 2 [EE m]]++[ABlk.live 4 [GG]]).length=b3 at E ⊢
 generalize (h++[ABlk.live 2 [EE m]]).length=b2 at E ⊢
 have o2:=E.o2; have o3:=E.o3
 have hlt0:=E.lt
 refine GZ 0 (fun F H => ∃ v1,F 1 = .ptr h.length 0 0∧F 2 = .ptr b2 0 0∧F 3 = .ptr b3 0 0∧Er h H m b2 b3 v1 (.sl .nil 0 [])∧outG 1 encL H0 (zPs m) v1 H∧H0.length≤H.length) (fun _ _=>False) ?_ ?_ (fun _ _ hh=>hh.elim)
 ·refine DL (fun n F H => ∃ i v1,n+i=m.pts.length∧F 1 = .ptr h.length 0 0∧F 2 = .ptr b2 0 0∧F 3 = .ptr b3 0 0∧F 4 = .int .i64 (i:Nat)∧Er h H m b2 b3 v1 (.sl .nil 0 [])∧outG 1 encL H0 ((zPs m).take i) v1 H∧H0.length≤H.length) m.pts.length
   ⟨0,_,by simp,by simp -implicitDefEqProofs only[AA,↓reduceIte,jB],by simp -implicitDefEqProofs only[AA,↓reduceIte,jB],by simp -implicitDefEqProofs only[AA,↓reduceIte,jB],by simp -implicitDefEqProofs only[AA,↓reduceIte]; rfl,E,by rw[qB]; exact outG.nil _ _ _ _,jL _⟩ ?_
  clear E
  rintro n F H ⟨i,v1,hi,f1,f2,f3,f4,E,ho1,hle⟩
  simp -implicitDefEqProofs only[vQ,jR,jJ,jO,jQ,BD,↓reduceIte,jB,enP,OE,GU,f1,f4,E.m0,jH]
  refine CU (fun hc => ?_) (fun hc => ?_)
  ·have hi':i < m.pts.length:=by simpa using hc
   have h64:=(hg.full _ (jP hi')).2
   have hP:=AU9 m i hi'
   have hH:=E.lt
   obtain⟨v1',H2,hap,ho1',hk1,hl2,hn1,⟨o,l,rfl⟩,hx2⟩:=ho1.app2 AIQ ABB AN0 AJ3 (by omega) (by rw[zJ,AQI]; omega) hle (zIs m.pts[i].bins.length)
   rw[← hP] at ho1'
   have E2:=E.keep hk1 (fun b hb=>by have:=ho1.lt hb; omega) (hx2 h (by omega))
   have E3:=E2.set3 (.own o 0 l) (.sl .nil 0 [])
   have ho1'':=ho1'.setB (b:=b3) (by omega) (.live 4 [I9 (.own o 0 l) (.sl .nil 0 [])])
   simp -implicitDefEqProofs only[vQ]
   refine EY (by kernel_rfl) ?_
   simp -implicitDefEqProofs only[vQ,jR,jJ,jO,jQ,IP,NI,KJ,↓reduceIte,jB,jM,enP,PG,GU,PE,IE,OO,f1,f3,f4,E.l3,E.m0,DN hi',CY RD hi',NG,jH,mkF _ _ (show m.pts[i].bins.length≤1048576 by omega),AYH]
   refine KQ (v := .own o 0 l) (h:=H2) hap ?_
   simp -implicitDefEqProofs only[vQ,jR,jJ,jO,jQ,BD,↓reduceIte,jB,jM,enP,OO,jT,f3,E2.s3,f4,wrap_succ (show i < 9223372036854775807 by omega)]
   exact⟨n - 1,by omega,i+1,.own o 0 l,by omega,f1,f2,trivial,rfl,E3,ho1'',by rw[qW]; omega⟩
  ·have hi' : ¬ i < m.pts.length:=by simpa using hc
   rw[jW (by rw[AQI]; omega)] at ho1
   simp -implicitDefEqProofs only[vQ,↓reduceIte,jB]
   exact⟨v1,f1,f2,f3,E,ho1,hle⟩
 ·rintro F H ⟨v1,f1,f2,f3,E,ho1,hle⟩
  simp -implicitDefEqProofs only[vQ,jR,jJ,jO,jQ,BD,↓reduceIte]
  refine GZ 2 (fun F H => ∃ v2,F 2 = .ptr b2 0 0∧F 3 = .ptr b3 0 0∧Er h H m b2 b3 v1 v2∧outG 1 encL H0 (zPs m) v1 H∧outG 1 encL H0 (zCs m) v2 H) (fun _ _=>False) ?_ ?_ (fun _ _ hh=>hh.elim)
  ·refine DL (fun n F H => ∃ i v2,n+i=m.crs.length∧F 1 = .ptr h.length 0 0∧F 2 = .ptr b2 0 0∧F 3 = .ptr b3 0 0∧F 5 = .int .i64 (i:Nat)∧Er h H m b2 b3 v1 v2∧outG 1 encL H0 (zPs m) v1 H∧outG 1 encL H0 ((zCs m).take i) v2 H∧(∀ b,isB v2 b→¬ isB v1 b)∧H0.length≤H.length) m.crs.length
    ⟨0,_,by simp,by simp -implicitDefEqProofs only[AA,↓reduceIte,jB,f1],by simp -implicitDefEqProofs only[AA,↓reduceIte,jB,f2],by simp -implicitDefEqProofs only[AA,↓reduceIte,jB,f3],by simp -implicitDefEqProofs only[AA,↓reduceIte]; rfl,E,ho1,by rw[qB]; exact outG.nil _ _ _ _,fun b hb=>hb.elim,hle⟩ ?_
   clear f1 f2 f3 E ho1 hle
   rintro n F H ⟨i,v2,hi,f1,f2,f3,f5,E,ho1,ho2,hd2,hle⟩
   simp -implicitDefEqProofs only[vQ,jR,jJ,jO,jQ,BD,↓reduceIte,jB,enP,UU,IV,f1,f5,E.m1,jH]
   refine CU (fun hc => ?_) (fun hc => ?_)
   ·have hi':i < m.crs.length:=by simpa using hc
    have hcg:=hg.crs _ (jP hi')
    have hpr:=hcg.prod
    have hfour:=hcg.four
    have hmin:min ((H8 (szs m m.crs[i].pts):Nat):Int) 1000=((H8 (szs m m.crs[i].pts):Nat):Int):=by omega
    have hcall:=XQ G m m.crs[i] H hcg.here hg.full (by omega)
    rw[hmin] at hcall
    have hC:=AVA m i hi'
    have hH:=E.lt
    obtain⟨v2',H2,hap,ho2',hk2,hl2,hn2,⟨o,l,rfl⟩,hx2⟩:=ho2.app2 AIQ ABB AN0 AJ3 (by omega) (by rw[zJ,AQK]; omega) hle (zIs (H8 (szs m m.crs[i].pts)))
    rw[← hC] at ho2'
    have E2:=E.keep hk2 (fun b hb=>by have:=ho2.lt hb; omega) (hx2 h (by omega))
    have E3:=E2.set3 v1 (.own o 0 l)
    have ho1':=(ho1.keepA hk2 (fun b hb h2=>hd2 b h2 hb)).setB (b:=b3) (by omega) (.live 4 [I9 v1 (.own o 0 l)])
    have ho2'':=ho2'.setB (b:=b3) (by omega) (.live 4 [I9 v1 (.own o 0 l)])
    simp -implicitDefEqProofs only[vQ]
    refine EY (by kernel_rfl) ?_
    simp -implicitDefEqProofs only[vQ,jR,jJ,jO,jQ,NI,KJ,↓reduceIte,jB,jM,enP,P5,IV,N8,f1,f3,f5,E.l3',E.m1,ldM E.gm,DN hi',FU AAZ XV KH hi']
    refine⟨_,hcall,?_⟩
    try simp -implicitDefEqProofs only[vQ,jR,jJ,jO,jQ,Bool.or_true,IP,↓reduceIte,jB,jM,enP,mkF _ _ (show H8 (szs m m.crs[i].pts)≤1048576 by omega),AYH]
    refine KQ (v := .own o 0 l) (h:=H2) hap ?_
    simp -implicitDefEqProofs only[vQ,jR,jJ,jO,jQ,BD,↓reduceIte,jB,jM,enP,N8,jT,f3,E2.s3',f5,wrap_succ (show i < 9223372036854775807 by omega)]
    refine⟨n - 1,by omega,i+1,.own o 0 l,by omega,f1,f2,trivial,rfl,E3,ho1',ho2'',fun b hb h1 => ?_,by rw[qW]; omega⟩
    have h0:=hn2 b hb
    have h2:=ho1.lt h1
    omega
   ·have hi' : ¬ i < m.crs.length:=by simpa using hc
    rw[jW (by rw[AQK]; omega)] at ho2
    simp -implicitDefEqProofs only[vQ,↓reduceIte,jB]
    exact⟨v2,f2,f3,E,ho1,ho2⟩
  ·rintro F' H' ⟨v2,g2,g3,E',q1,q2⟩
   have hp:=E'.o2; have hq:=E'.o3
   simp -implicitDefEqProofs only[vQ,jR,jJ,jO,jQ,BD,↓reduceIte,jB,enP,jT,g2,g3,KW E'.g3 rfl,AHA E'.g2 rfl q1.leaf q2.leaf]
   rw[Y7 (b:=b2) (by simp -implicitDefEqProofs only[AA,↓reduceIte,jB,g2]) (KW (EG E'.g2) rfl)]
   have hs1 : ∀ {α:Type} {f:α→List AV} {ys:List α} {v:AV},outG 1 f H0 ys v H'→outG 1 f h ys v (H'.set b2 (.live 4 [I9 v1 v2])):=fun q=>(q.setB (b:=b2) (by omega) _).base (by omega)
   exact⟨E'.hx.set (by omega) _,v1,v2,rfl,hs1 q1,hs1 q2⟩
theorem X8 {E:Env}{f:FuncId}{args:List AV}{h:Hp}{r:AV}(d:Nat)(hr : ∀ n H,IL n H d r=r)(hc:ACalls E f args h fun v H=>v=r∧ext h H):PCall E f args h r :=
 ACalls.pure d hc fun v H ⟨e,he⟩=>⟨he,by rw[e]; exact hr _ _⟩
def emV (m:Mo):Cvr:=if FX m=0 then Y8 m else zV
def XZ (m:Mo):Tk:=if FX m=0 then ⟨.full,zLs m⟩ else zT
structure Ee (h H:Hp) (m:Mo) (b2 b3:Nat):Prop where
 gm:H[h.length]? = some (ABlk.live 2 [EE m])
 g2:H[b2]? = some (ABlk.live 4 [GG])
 g3:H[b3]? = some (ABlk.live 1 [GH])
 o2:h.length < b2
 o3:b2 < b3
 hx:ext h H
theorem Ee.mk' (h:Hp)(m:Mo):Ee h (h++[ABlk.live 2 [EE m]]++[ABlk.live 4 [GG]]++[ABlk.live 1 [GH]]) m (h++[ABlk.live 2 [EE m]]).length (h++[ABlk.live 2 [EE m]]++[ABlk.live 4 [GG]]).length :=
 ⟨CX (CX (CZ _ _)),CX (CZ _ _),CZ _ _,by simp,by simp,(((ext.rfl' h).app _).app _).app _⟩
theorem Ee.lt {h H:Hp}{m:Mo}{b2 b3:Nat}(E:Ee h H m b2 b3):b3 < H.length:=CJ E.g3
theorem Ee.m0 {h H:Hp}{m:Mo}{b2 b3:Nat}(E:Ee h H m b2 b3):D8 Tryz.prog H 22 (.ptr h.length 0 0)=some (.sl m.pm 6 (m.pts.map GI)):=by rw[DY ZB E.gm (row:=EE m) rfl,SL]
theorem A6D (H0:Hp)(c:Cvr)(t:Tk) :
  FP Tryz.prog (H0++[ABlk.live 4 [GG]]++[ABlk.live 1 [GH]]) 81 (.ptr H0.length 0 0) (.agg (encV c))=some ((H0++[ABlk.live 4 [GG]]++[ABlk.live 1 [GH]]).set H0.length (ABlk.live 4 [encV c])) ∧
  FP Tryz.prog ((H0++[ABlk.live 4 [GG]]++[ABlk.live 1 [GH]]).set H0.length (ABlk.live 4 [encV c])) 120 (.ptr (H0++[ABlk.live 4 [GG]]).length 0 0) (.agg (LZ t))=some (((H0++[ABlk.live 4 [GG]]++[ABlk.live 1 [GH]]).set H0.length (ABlk.live 4 [encV c])).set (H0++[ABlk.live 4 [GG]]).length (ABlk.live 1 [LZ t])) ∧
  (((H0++[ABlk.live 4 [GG]]++[ABlk.live 1 [GH]]).set H0.length (ABlk.live 4 [encV c])).set (H0++[ABlk.live 4 [GG]]).length (ABlk.live 1 [LZ t]))[H0.length]? = some (ABlk.live 4 [encV c]) ∧
  (((H0++[ABlk.live 4 [GG]]++[ABlk.live 1 [GH]]).set H0.length (ABlk.live 4 [encV c])).set (H0++[ABlk.live 4 [GG]]).length (ABlk.live 1 [LZ t]))[(H0++[ABlk.live 4 [GG]]).length]? = some (ABlk.live 1 [LZ t]) ∧
  ext H0 (((H0++[ABlk.live 4 [GG]]++[ABlk.live 1 [GH]]).set H0.length (ABlk.live 4 [encV c])).set (H0++[ABlk.live 4 [GG]]).length (ABlk.live 1 [LZ t])) :=
 ⟨stV (CX (CZ _ _)) rfl,stT (CV (CZ _ _) (by simp)) rfl,CV (EG (CX (CZ _ _))) (by simp),EG (CV (CZ _ _) (by simp)),((((ext.rfl' H0).app _).app _).set (jL _) _).set (by simp) _⟩
theorem FD {h H:Hp}{b:Nat}{x:ABlk}(he:ext h H)(hb:h[b]? = some x):H[b]? = some x:=by
 obtain⟨y,rfl⟩:=he
 exact F7 hb
theorem AXQ (e:Int):CvR (.tup [.agg GG,.agg GH,.int .i64 e]) (.tup [.agg (encV zV),.agg (LZ zT),.int .i64 e]):=CvR.tup (CvRL.cons AU7 (CvRL.cons A43 (CvRL.refl _)))
theorem A53 (h:Hp)(m:Mo)(hn:m.pts.length≤1048576):JO Tryz.prog false h 67 (.int .i64 (m.pts.length:Int)) (.int .i64 (m.pts.length:Int))=some (.sl .full 1 (m.pts.map fun _=>GH),h):=by
 have hz:NE Tryz.prog 26=some GH:=by kernel_rfl
 have hr:room m.pts.length 24:=JB (by omega) (by omega)
 unfold JO
 simp only[AIQ,ABB,AJ3,hz,Int.toNat_natCast]
 rw[if_pos ⟨by omega,Int.le_refl _,hr,rfl⟩]
 simp [List.map_const']
theorem A7Q (xs:List (List AV)):LM Tryz.prog 120 [(0,.sl .full 1 xs)]=some (.agg [.sl .full 1 xs]):=by kernel_rfl
set_option maxHeartbeats 1000000 in
theorem AU3 (G:Nat→AV)(m:Mo)(hm:MoOk m)(h:Hp):PCall (En G) 79 [.agg (EE m)] h (.tup [.agg (encV (emV m)),.agg (LZ (XZ m)),.int .i64 (FX m)]):=by
 by_cases h0:FX m=0
 ·have hb:(FX m == 0)=true:=by simpa using h0
  unfold emV XZ
  rw[if_pos h0,if_pos h0]
  have hg:=NY h0
  refine PCall.res (r := .tup [.agg (encV (Y8 m)),.agg [.sl .full 1 (m.pts.map fun _=>GH)],.int .i64 (FX m)]) ?_ (CvR.tup (CvRL.cons (CvR.refl _) (CvRL.cons (CvR.agg (CvRL.cons (CvR.sl (A0H m.pts)) CvRL.nil)) (CvRL.refl _))))
  refine X8 3 (fun n H=>rfl) ?_
  refine acN Tryz.func79 rfl ?_
  show awp _ _ _ _ _ (EM _ [.cell 2 81,.cell 3 120,.tmp 4] _)
  have E:=Ee.mk' h m
  simp -implicitDefEqProofs only[vQ,BD,↓reduceIte,jB,enP,bxM,PU,AC5]
  generalize h++[ABlk.live 2 [EE m]]++[ABlk.live 4 [GG]]++[ABlk.live 1 [GH]]=H0 at E ⊢
  generalize (h++[ABlk.live 2 [EE m]]++[ABlk.live 4 [GG]]).length=b3 at E ⊢
  generalize (h++[ABlk.live 2 [EE m]]).length=b2 at E ⊢
  have o2:=E.o2; have o3:=E.o3; have hlt:=E.lt
  simp -implicitDefEqProofs only[vQ,BD,↓reduceIte,ldM E.gm]
  refine(RH G m hm _).use ?_
  simp -implicitDefEqProofs only[vQ,BD,↓reduceIte,Bool.not_true,enP,bne,hb]
  refine XT [(15,2),(1,2)] (by kernel_rfl) ?_ ?_
  ·simp -implicitDefEqProofs only[vQ,AMI,↓reduceIte,jB,XU,AA1,ZV,A3U,and_true,true_and]
   omega
  simp -implicitDefEqProofs only[vQ,↓reduceIte,jB,jM,enP,GU,ldM E.gm]
  refine⟨_,AT9 G m hm hg _,?_⟩
  try simp -implicitDefEqProofs only[vQ,ZH,NI,KJ,↓reduceIte,jB,jM,enP,OE,jT,E.m0,jH,A53 _ m hm.np,A7Q,stV E.g2 rfl,AKU (v3 := .sl .full 1 (m.pts.map fun _=>GH)) (CV E.g3 (show b3≠b2 by omega)) rfl rfl]
  rw[XO (ba:=b2) (bb:=b3) (by simp -implicitDefEqProofs only[AA,↓reduceIte,jB]) (by simp -implicitDefEqProofs only[AA,↓reduceIte,jB]) (ldV (CV (EG E.g2) (show b2≠b3 by omega))) (QC (EG (CV E.g3 (show b3≠b2 by omega))) rfl)]
  exact⟨by simp -implicitDefEqProofs only[AA,↓reduceIte,h0],(E.hx.set (by omega) _).set (by omega) _⟩
 ·have hb:(FX m == 0)=false:=by simpa using h0
  unfold emV XZ
  rw[if_neg h0,if_neg h0]
  refine PCall.res ?_ (AXQ _)
  refine X8 3 (fun n H=>rfl) ?_
  refine acN Tryz.func79 rfl ?_
  show awp _ _ _ _ _ (EM _ [.cell 2 81,.cell 3 120,.tmp 4] _)
  have E:=Ee.mk' h m
  simp -implicitDefEqProofs only[vQ,BD,↓reduceIte,jB,enP,bxM,PU,AC5]
  generalize h++[ABlk.live 2 [EE m]]++[ABlk.live 4 [GG]]++[ABlk.live 1 [GH]]=H0 at E ⊢
  generalize (h++[ABlk.live 2 [EE m]]++[ABlk.live 4 [GG]]).length=b3 at E ⊢
  generalize (h++[ABlk.live 2 [EE m]]).length=b2 at E ⊢
  have o2:=E.o2; have o3:=E.o3; have hlt:=E.lt
  simp -implicitDefEqProofs only[vQ,BD,↓reduceIte,ldM E.gm]
  refine(RH G m hm _).use ?_
  simp -implicitDefEqProofs only[vQ,BD,↓reduceIte,jB,enP,jT,bne,hb,VY,AF1,stZ E.g2 rfl,ADY (CV E.g3 (show b3≠b2 by omega)) rfl]
  rw[XO (ba:=b2) (bb:=b3) (by simp -implicitDefEqProofs only[AA,↓reduceIte,jB]) (by simp -implicitDefEqProofs only[AA,↓reduceIte,jB]) (KW (CV (EG E.g2) (show b2≠b3 by omega)) rfl) (QC (EG (CV E.g3 (show b3≠b2 by omega))) rfl)]
  exact⟨by simp -implicitDefEqProofs only[AA,↓reduceIte],(E.hx.set (by omega) _).set (by omega) _⟩
theorem AVP (h:Hp)(v:Cvr):FP Tryz.prog (h++[ABlk.live 4 [GG]]) 81 (.ptr h.length 0 0) (.agg (encV v))=some (h++[ABlk.live 4 [encV v]]):=by rw[stV (CZ _ _) rfl,TJ]
structure Mr (h H:Hp) (m:Mo) (a b:Cvr) (b4 b5 b6:Nat):Prop where
 gm:H[h.length]? = some (ABlk.live 2 [EE m])
 ga:H[b4]? = some (ABlk.live 4 [encV a])
 gb:H[b5]? = some (ABlk.live 4 [encV b])
 g6:H[b6]? = some (ABlk.live 4 [GG])
 o4:h.length < b4
 o5:b4 < b5
 o6:b5 < b6
 hx:ext h H
theorem Mr.mk' (h:Hp)(m:Mo)(a b:Cvr):Mr h (h++[ABlk.live 2 [EE m]]++[ABlk.live 4 [encV a]]++[ABlk.live 4 [encV b]]++[ABlk.live 4 [GG]]) m a b (h++[ABlk.live 2 [EE m]]).length (h++[ABlk.live 2 [EE m]]++[ABlk.live 4 [encV a]]).length (h++[ABlk.live 2 [EE m]]++[ABlk.live 4 [encV a]]++[ABlk.live 4 [encV b]]).length :=
 ⟨CX (CX (CX (CZ _ _))),CX (CX (CZ _ _)),CX (CZ _ _),CZ _ _,by simp,by simp,by simp,((((ext.rfl' h).app _).app _).app _).app _⟩
structure Al (h H:Hp) (m:Mo) (c:Cvr) (b4 b6:Nat):Prop where
 gm:H[h.length]? = some (ABlk.live 2 [EE m])
 g4:H[b4]? = some (ABlk.live 4 [GG])
 g6:H[b6]? = some (ABlk.live 4 [encV c])
 o4:h.length < b4
 o6:b4 < b6
 hx:ext h H
theorem Al.app {h H:Hp}{m:Mo}{c:Cvr}{b4 b6:Nat}(E:Al h H m c b4 b6)(x:Hp):Al h (H++x) m c b4 b6:=⟨F7 E.gm,F7 E.g4,F7 E.g6,E.o4,E.o6,E.hx.app _⟩
theorem Al.up {h H H':Hp}{m:Mo}{c:Cvr}{b4 b6:Nat}(E:Al h H m c b4 b6)(hx:ext H H'):Al h H' m c b4 b6:=by
 obtain⟨x,rfl⟩:=hx; exact E.app x
end Go.Proofs.YtfpagfhhhlljjaaGreatDoor.Cov
