/- Part 14 of the proof (X14, X15, X19, X20, X21, X22, X24); no condition. -/
import Derived.Test.YtfpagfhhhlljjaaGreatDoorYF13
set_option linter.unusedVariables false
set_option linter.unusedSimpArgs false
set_option maxRecDepth 8000
namespace Go.Proofs.YtfpagfhhhlljjaaGreatDoor.Xe
open Sm Bins Cov Wd Go.RowKit
open Bool renaming not_false→jC,not_true→jV,and_eq_true→jX
open List renaming map_cons→jD,map_nil→jE,append_nil→jF,getElem?_cons_zero→zM,getElem?_cons_succ→zO,length_append→qB,mem_map→zI,replicate→zA,getElem?_eq_getElem→jO,drop_eq_nil_of_le→jZ,getElem_mem→jS,getD_eq_getElem?_getD→zZ,mem_append→qC,getElem_of_mem→qJ,getElem?_map→jY,take_succ_eq_append_getElem→zL
open Nat renaming le_refl→jL,le_of_ble_eq_true→jI,reduceEqDiff→jB,zero_add→jG
open Option renaming getD_some→jA,getD_none→jT
theorem A2X (H0:Hp){v1 v2 v3:AV}(h1:v1.leaf=true)(h2:v2.leaf=true)(h3:v3.leaf=true) :
  FP Tryz.prog (H0++[ABlk.live 4 [IW]]++[ABlk.live 1 [IK]]) 81 (.ptr H0.length 0 0) (.agg (KX v1 v2))=some ((H0++[ABlk.live 4 [IW]]++[ABlk.live 1 [IK]]).set H0.length (ABlk.live 4 [KX v1 v2])) ∧
  FP Tryz.prog ((H0++[ABlk.live 4 [IW]]++[ABlk.live 1 [IK]]).set H0.length (ABlk.live 4 [KX v1 v2])) 120 (.ptr (H0++[ABlk.live 4 [IW]]).length 0 0) (.agg [v3])=some (((H0++[ABlk.live 4 [IW]]++[ABlk.live 1 [IK]]).set H0.length (ABlk.live 4 [KX v1 v2])).set (H0++[ABlk.live 4 [IW]]).length (ABlk.live 1 [[v3]])) ∧
  (((H0++[ABlk.live 4 [IW]]++[ABlk.live 1 [IK]]).set H0.length (ABlk.live 4 [KX v1 v2])).set (H0++[ABlk.live 4 [IW]]).length (ABlk.live 1 [[v3]]))[H0.length]? = some (ABlk.live 4 [KX v1 v2]) ∧
  (((H0++[ABlk.live 4 [IW]]++[ABlk.live 1 [IK]]).set H0.length (ABlk.live 4 [KX v1 v2])).set (H0++[ABlk.live 4 [IW]]).length (ABlk.live 1 [[v3]]))[(H0++[ABlk.live 4 [IW]]).length]? = some (ABlk.live 1 [[v3]]) ∧
  ext H0 (((H0++[ABlk.live 4 [IW]]++[ABlk.live 1 [IK]]).set H0.length (ABlk.live 4 [KX v1 v2])).set (H0++[ABlk.live 4 [IW]]).length (ABlk.live 1 [[v3]])) :=
 ⟨AUI (CP (CZ _ _)) rfl h1 h2,AUH (DT (CZ _ _) (by simp)) rfl h3,DT (EM (CP (CZ _ _))) (by simp),EM (DT (CZ _ _) (by simp)),((((ext.rfl' H0).app _).app _).set (jL _) _).set (by simp) _⟩
theorem NC.ext {n0:Nat}{H H':Hp}{po:Nat}{pb:List Nat}{co:Nat}{cbs:List Nat}{P C:List (List Int)}(N:NC n0 H po pb co cbs P C)(hx:Sm.ext H H'):NC n0 H' po pb co cbs P C:=N.keep fun _ _ _ _ hg=>FK hx hg
theorem outG.ext {α:Type}{k:Nat}{f:α→List AV}{h H H':Hp}{ys:List α}{v:AV}(ho:outG k f h ys v H)(hx:Sm.ext H H'):outG k f h ys v H':=by
 obtain⟨y,rfl⟩:=hx
 exact ho.app y
def EmQ (h:Hp)(m:Mo)(v:AV)(H:Hp):Prop:=ext h H∧((G8 m≠0∧v = .tup [.agg IW,.agg IK,.int .i64 (G8 m)]) ∨
 (G8 m=0∧∃ po pb co cbs v3,v = .tup [.agg (KX (nlV po (zP m)) (nlV co (zC m))),.agg [v3],.int .i64 0]∧EmO h H m po pb co cbs v3))
set_option maxHeartbeats 1000000 in
theorem ATW (G:Nat→AV)(hG:GOk G)(m:Mo)(hm:MoOk m)(h:Hp):ACalls (En G) 75 [.agg (EE m)] h (EmQ h m):=by
 refine acN Tryz.func75 rfl ?_
 show awp _ _ _ _ _ (EJ _ [.cell 2 81,.cell 3 120,.tmp 4] _)
 unfold EmQ
 have E:=Ee.mk' h m
 simp -implicitDefEqProofs only[vQ,BD,↓reduceIte,jB,enP,bxM,AEW,AXK]
 generalize h++[ABlk.live 2 [EE m]]++[ABlk.live 4 [IW]]++[ABlk.live 1 [IK]]=H0 at E ⊢
 generalize (h++[ABlk.live 2 [EE m]]++[ABlk.live 4 [IW]]).length=b3 at E ⊢
 generalize (h++[ABlk.live 2 [EE m]]).length=b2 at E ⊢
 have o2:=E.o2; have o3:=E.o3; have hlt:=E.lt
 simp -implicitDefEqProofs only[vQ,BD,↓reduceIte,ldM E.gm]
 refine(AC4 G hG m hm _).use ?_
 cases hb:(G8 m == 0)
 ·have h0:G8 m≠0:=by simpa using hb
  simp -implicitDefEqProofs only[vQ,BD,↓reduceIte,jB,enP,jT,bne,hb,AXA,A5X,stZ E.g2 rfl,A35 (DT E.g3 (show b3≠b2 by omega)) rfl]
  rw[AQW (ba:=b2) (bb:=b3) (by simp -implicitDefEqProofs only[AA,↓reduceIte,jB]) (by simp -implicitDefEqProofs only[AA,↓reduceIte,jB]) (QE (DT (EM E.g2) (show b2≠b3 by omega)) rfl) (YW (EM (DT E.g3 (show b3≠b2 by omega))) rfl)]
  exact⟨(E.hx.set (by omega) _).set (by omega) _,.inl ⟨h0,by simp -implicitDefEqProofs only[AA,↓reduceIte]⟩⟩
 ·have h0:G8 m=0:=by simpa using hb
  have hg:=WE h0
  simp -implicitDefEqProofs only[vQ,BD,↓reduceIte,jB,jV,enP,bne,hb,ldM E.gm]
  refine(AS5 G m hm hg _).mono ?_
  rintro v H1 ⟨hx1,po,pb,co,cbs,v3,rfl,EO⟩
  obtain⟨s1,s2,g6,g7,hx5⟩:=A2X H1 (OJ po (zP m)) (OJ co (zC m)) EO.o3.leaf
  have g2:=FK hx5 (FK hx1 E.g2)
  have g3:=FK hx5 (FK hx1 E.g3)
  have hx:=(E.hx.trans hx1).trans hx5
  have hle1:=hx1.le
  have h7:b2 < (H1++[ABlk.live 4 [IW]]).length:=by simp; omega
  have N5:=EO.nc.ext hx5
  have q5:=outG.ext EO.o3 hx5
  simp -implicitDefEqProofs only[vQ,zM,zO,BD,↓reduceIte,jB,enP,jT,AEW,AXK,s1,s2]
  generalize ((H1++[ABlk.live 4 [IW]]++[ABlk.live 1 [IK]]).set H1.length (ABlk.live 4 [KX (nlV po (zP m)) (nlV co (zC m))])).set (H1++[ABlk.live 4 [IW]]).length (ABlk.live 1 [[v3]])=H5 at g6 g7 g2 g3 hx N5 q5 ⊢
  generalize (H1++[ABlk.live 4 [IW]]).length=b7 at g7 h7 ⊢
  refine AHH [(7,2)] (by kernel_rfl) ?_ ?_
  ·simp -implicitDefEqProofs only[AA,↓reduceIte,jB,AHP,AM5,AJ7,and_true]
   omega
  simp -implicitDefEqProofs only[vQ,MC,LC,↓reduceIte,jB,Nat.reduceAdd,enP,jT,QE g6 rfl,YW g7 rfl,AUI g2 rfl (OJ po (zP m)) (OJ co (zC m)),AUH (DT g3 (show b3≠b2 by omega)) rfl q5.leaf]
  rw[AQW (ba:=b2) (bb:=b3) (by simp -implicitDefEqProofs only[AA,↓reduceIte,jB]) (by simp -implicitDefEqProofs only[AA,↓reduceIte,jB]) (QE (DT (EM g2) (show b2≠b3 by omega)) rfl) (YW (EM (DT g3 (show b3≠b2 by omega))) rfl)]
  have hhl:=E.hx.le
  refine⟨(hx.set (by omega) _).set (by omega) _,.inr ⟨h0,po,pb,co,cbs,v3,by simp -implicitDefEqProofs only[AA,↓reduceIte],?_,?_⟩⟩
  ·exact(N5.keep (H':=(H5.set b2 (.live 4 [KX (nlV po (zP m)) (nlV co (zC m))])).set b3 (.live 1 [[v3]])) fun b x hb _ hg=>DT (DT hg (by omega)) (by omega)).base hhl
  ·exact((q5.setB (b:=b2) (by omega) _).setB (b:=b3) (by omega) _).base hhl
structure St where
 P:List (List Int)
 C:List (List Int)
 sam:Int
 ill:Int
 ls:List (List Int)
def AFB (m:Mo)(s:St)(env:List Sg):Int:=KA PtR.err (OB m s.ls env)
def stp (m:Mo)(s:St)(env:List Sg):St:=⟨QC (OB m s.ls env) s.P,TC m ((OB m s.ls env).map PtR.hit) s.C,rz s.sam,if(OB m s.ls env).any PtR.bad=true then rz s.ill else s.ill,(OB m s.ls env).map PtR.next⟩
structure StOk (m:Mo) (s:St):Prop where
 sh:ShapeOk m s.P s.C
 ll:s.ls.length=m.pts.length
 l7 : ∀ l∈s.ls,l.length≤7
 sm:0≤s.sam∧s.sam≤1099511627776
 il:0≤s.ill∧s.ill≤1099511627776
theorem AUR (p:Pt)(last:List Int)(l:List Sg):(ptE p last l).next.length≤7:=by
 have hn : ∀ v,(nextL last v).length≤7:=fun v=>by unfold nextL; rw[List.length_drop,qB]; simp; omega
 unfold ptE
 split
 ·simp
 ·split
  ·simp
  ·split
   ·exact hn _
   ·split
    ·exact hn _
    ·exact hn _
theorem ShapeOk.step {m:Mo}{P C:List (List Int)}(h:ShapeOk m P C){rs:List PtR}(hr:rs.length=m.pts.length)(hits:List (List Nat)):ShapeOk m (QC rs P) (TC m hits C):=by
 have h1:rs.length=P.length:=by rw[hr,h.pl]
 have h2:=h.cl
 have l1:=U7 rs P h1
 have l2:=U9 m hits C h2
 refine⟨by rw[l1]; exact h.pl,by rw[l2]; exact h2,fun i a b => ?_,fun i a b => ?_,AYF h.wp,AYG h.wc⟩
 ·rw[U8 rs P i (by omega) (by omega),QS]; exact h.pe i (by omega) b
 ·rw[VA m hits C i b (by omega),rowC_len]; exact h.ce i (by omega) b
theorem StOk.step {m:Mo}{s:St}(h:StOk m s)(env:List Sg):StOk m (stp m s env):=by
 have hr:=VK m s.ls env h.ll
 refine⟨h.sh.step hr _,by simp [stp,hr],fun l hl => ?_,AP3 h.sm,?_⟩
 ·obtain⟨r,hr,rfl⟩:=zI.1 hl
  obtain⟨p,hp,rfl⟩:=zI.1 hr
  exact AUR _ _ _
 ·unfold stp
  dsimp only
  split
  ·exact AP3 h.il
  ·exact h.il
def zS (m:Mo):St:=⟨zP m,zC m,0,0,zA m.pts.length []⟩
theorem AJF (n:Nat):Wn (zeros n):=fun x hx=>by
 have:x=0:=by simpa [zeros] using (List.eq_of_mem_replicate hx)
 subst this; decide
theorem A1E (m:Mo):StOk m (zS m):=by
 refine⟨⟨ANB m,ANC m,fun i a b => ?_,fun i a b => ?_,fun xs hx => ?_,fun xs hx => ?_⟩,by simp [zS],fun l hl => ?_,⟨by show(0:Int)≤0; omega,by show(0:Int)≤1099511627776; omega⟩,⟨by show(0:Int)≤0; omega,by show(0:Int)≤1099511627776; omega⟩⟩
 ·simp [zS,zP,zeros]
 ·simp [zS,zC,zeros]
 ·obtain⟨p,_,rfl⟩:=zI.1 hx
  exact AJF _
 ·obtain⟨p,_,rfl⟩:=zI.1 hx
  exact AJF _
 ·rw[List.eq_of_mem_replicate hl]; simp
def VC (m:Mo):St→List (List Sg)→Int × St
 | s,[]=>(0,s)
 | s,e :: r=>if AFB m s e≠0 then (AFB m s e,s) else VC m (stp m s e) r
def UY (m:Mo)(l:List (List Sg)):Int:=if G8 m=0 then (VC m (zS m) l).1 else G8 m
def QJ (P:List (List Int)):List Is:=P.map fun x=>⟨.any,x⟩
def cvS (s:St):Cvr:=⟨nm (QJ s.P),QJ s.P,nm (QJ s.C),QJ s.C,s.sam,s.ill⟩
def XM (m:Mo)(l:List (List Sg)):Cvr:=if G8 m=0∧(VC m (zS m) l).1=0 then cvS (VC m (zS m) l).2 else zV
def cvW (s:St):List AV := [fzG 1 encL (QJ s.P),fzG 1 encL (QJ s.C),.int .i64 s.sam,.int .i64 s.ill]
theorem A3G (s:St):CvR (.agg (cvW s)) (.agg (encV (cvS s))):=CvR.agg (CvRL.cons ADL (CvRL.cons ADL (CvRL.refl _)))
def ANQ (m:Mo)(l:List (List Sg)):List AV:=if G8 m=0∧(VC m (zS m) l).1=0 then cvW (VC m (zS m) l).2 else IW
theorem AYK (m:Mo)(l:List (List Sg)):CvR (.agg (ANQ m l)) (.agg (encV (XM m l))):=by
 unfold ANQ XM
 split
 ·exact A3G _
 ·exact A3W
structure Ss where
 m:SM
 l:List Sg
def AQX (x:Ss):List AV := [.sl x.m 2 (x.l.map JC)]
theorem A3D (x:Ss):(AQX x)[0]? = some (.sl x.m 2 (x.l.map JC)):=rfl
theorem AOP {h H:Hp}(_:h.length≤H.length)(hg : ∀ (b:Nat) (x:ABlk),h[b]? = some x→H[b]? = some x):ext h H:=⟨H.drop h.length,by
 refine List.ext_getElem? fun i => ?_
 rcases Nat.lt_or_ge i h.length with hi | hi
 ·rw[List.getElem?_append_left hi,jO hi]; exact hg i _ (jO hi)
 ·rw[List.getElem?_append_right hi,List.getElem?_drop]; congr 1; omega⟩
theorem Fr1.ext {h0 h H:Hp}{cb tb:Nat}{pb cbs:List Nat}(hf:Fr1 h H cb tb pb cbs)(hx:Sm.ext h0 h)(h1:h0.length≤cb)(h2:h0.length≤tb)(h3 : ∀ b∈pb,h0.length≤b)(h4 : ∀ b∈cbs,h0.length≤b):Sm.ext h0 H :=
 AOP (Nat.le_trans hx.le hf.le) fun b x hb=>by
  have hlt:=CB hb
  exact hf.get b x (FK hx hb) (by omega) (by omega) (fun q=>by have:=h3 b q; omega) (fun q=>by have:=h4 b q; omega)
theorem AWH (po:Nat)(P:List (List Int))(co:Nat)(C:List (List Int))(a b:Int):(cvR po P co C a b).all AV.leaf=true:=by
 simp [cvR,OJ]; exact⟨rfl,rfl⟩
theorem A39 {H:Hp}{b:Nat}{row:List AV}{po:Nat}{P:List (List Int)}{co:Nat}{C:List (List Int)}{x y:Int}(hb:H[b]? = some (.live 4 [row]))(hr:row.length=4):FP Tryz.prog H 81 (.ptr b 0 0) (.agg (cvR po P co C x y))=some (H.set b (.live 4 [cvR po P co C x y])):=by
 rw[NH (cs:=cvR po P co C x y) (P5 (AWH _ _ _ _ _ _)) AUB hb (by rw[hr]; exact jL 4)]
 have:splice row 0 (cvR po P co C x y)=cvR po P co C x y:=by unfold splice; rw[List.take_zero,jZ (by rw[hr]; exact jL 4)]; simp
 rw[this]
theorem A3I {n0:Nat}{H:Hp}{po co:Nat}{pb cbs:List Nat}(s:St)(np:NL n0 H po pb s.P)(nc:NL n0 H co cbs s.C)(n d:Nat)(hn:n≤n0):IL n H (d+4) (.agg (cvR po s.P co s.C s.sam s.ill)) = .agg (cvW s):=by
 show AV.agg [IL n H (d+3) (nlV po s.P),IL n H (d+3) (nlV co s.C),.int .i64 s.sam,.int .i64 s.ill]=_
 rw[np.frz n d hn,nc.frz n d hn]; rfl
theorem AT9 {h H:Hp}{m:Mo}{v3:AV}(o:outG 1 (fun _:Pt=>IK) h m.pts v3 H):TLs H v3 (zA m.pts.length []):=by
 rcases o with⟨e,_⟩ | ⟨_,q,_,rfl,hq⟩
 ·rw[e]; exact .inl rfl
 ·refine .inr (.inr ⟨q,m.pts.map fun _=>IK,by simp,hq,?_⟩)
  rw[List.map_const']
  exact RowsL.nils _
set_option maxHeartbeats 4000000 in
theorem AXR (G:Nat→AV)(hG:GOk G)(hT:UQ G)(m:Mo)(hm:MoOk m)(l:List Ss)(s:SM)(h:Hp)(hl:l.length≤1048576)(he : ∀ x∈l,x.l.length≤1048576) :
  PCall (En G) 43 [.agg (EE m),.sl s 1 (l.map AQX)] h (.tup [.agg (encV (XM m (l.map Ss.l))),.int .i64 (UY m (l.map Ss.l))]):=by
 refine PCall.res (r := .tup [.agg (ANQ m (l.map Ss.l)),.int .i64 (UY m (l.map Ss.l))]) ?_ (CvR.tup (CvRL.cons (AYK _ _) (CvRL.refl _)))
 refine ACalls.pure (R:=fun v H=>ext h H∧IL h.length H 5 v = .tup [.agg (ANQ m (l.map Ss.l)),.int .i64 (UY m (l.map Ss.l))]) 5 ?_ (fun v H ⟨a,b⟩=>⟨a,b⟩)
 refine acN Tryz.func43 rfl ?_
 show awp _ _ _ _ _ (EJ _ [.cell 4 81,.tmp 5] _)
 have gm:=CP (x:=ABlk.live 4 [IW]) (CZ h (ABlk.live 2 [EE m]))
 have g4:=CZ (h++[ABlk.live 2 [EE m]]) (ABlk.live 4 [IW])
 have hx:ext h (h++[ABlk.live 2 [EE m]]++[ABlk.live 4 [IW]]):=((ext.rfl' h).app _).app _
 have hb4:h.length < (h++[ABlk.live 2 [EE m]]).length:=by simp
 simp -implicitDefEqProofs only[vQ,BD,↓reduceIte,jB,enP,bxM,AEW]
 generalize h++[ABlk.live 2 [EE m]]++[ABlk.live 4 [IW]]=H0 at gm g4 hx ⊢
 generalize (h++[ABlk.live 2 [EE m]]).length=b4 at g4 hb4 ⊢
 have hlt:=CB g4
 simp -implicitDefEqProofs only[vQ,BD,↓reduceIte,ldM gm]
 refine(ATW G hG m hm H0).mono ?_
 rintro v H1 ⟨hx1,⟨hne,rfl⟩ | ⟨h0,po,pb,co,cbs,v3,rfl,EO⟩⟩
 ·have hb:(G8 m == 0)=false:=by simpa using hne
  obtain⟨s1,s2,g6,g7,hx5⟩:=A2X H1 (v1 := .sl .nil 0 []) (v2 := .sl .nil 0 []) (v3 := .sl .nil 0 []) rfl rfl rfl
  have s1':FP Tryz.prog (H1++[ABlk.live 4 [IW]]++[ABlk.live 1 [IK]]) 81 (.ptr H1.length 0 0) (.agg IW)=_:=s1
  have s2':FP Tryz.prog ((H1++[ABlk.live 4 [IW]]++[ABlk.live 1 [IK]]).set H1.length (ABlk.live 4 [KX (.sl .nil 0 []) (.sl .nil 0 [])])) 120 (.ptr (H1++[ABlk.live 4 [IW]]).length 0 0) (.agg IK)=_:=s2
  have g4':=FK hx5 (FK hx1 g4)
  have hx':=(hx.trans hx1).trans hx5
  simp -implicitDefEqProofs only[vQ,zM,zO,BD,↓reduceIte,jB,enP,jT,AEW,AXK,s1',s2',bne,hb,AXA]
  generalize ((H1++[ABlk.live 4 [IW]]++[ABlk.live 1 [IK]]).set H1.length (ABlk.live 4 [KX (.sl .nil 0 []) (.sl .nil 0 [])])).set (H1++[ABlk.live 4 [IW]]).length (ABlk.live 1 [[.sl .nil 0 []]])=H5 at g4' hx' ⊢
  simp -implicitDefEqProofs only[vQ,BD,↓reduceIte,stZ g4' rfl]
  rw[AIQ (ba:=b4) (by simp -implicitDefEqProofs only[AA,↓reduceIte,jB]) (QE (EM g4') rfl)]
  refine⟨hx'.set (by omega) _,?_⟩
  unfold ANQ UY
  rw[if_neg (fun q=>hne q.1),if_neg hne]
  rfl
 have hg:=WE h0
 have hnp:m.pts.length≤16:=by have:=hg.num; omega
 obtain⟨s1,s2,g6,g7,hx5⟩:=A2X H1 (OJ po (zP m)) (OJ co (zC m)) EO.o3.leaf
 have gm5:=FK hx5 (FK hx1 gm)
 have g45:=FK hx5 (FK hx1 g4)
 have hx':=(hx.trans hx1).trans hx5
 have hle1:=hx1.le
 have N5:=EO.nc.ext hx5
 have q5:=AT9 (outG.ext EO.o3 hx5)
 have hlb : ∀ b,NLB po pb (zP m) b∨NLB co cbs (zC m) b→b < H1.length:=fun b hb=>by
  rcases hb with hb | hb
  ·exact(EO.nc.np.lt hb).2
  ·exact(EO.nc.nc.lt hb).2
 have htl:(H1++[ABlk.live 4 [IW]]).length=H1.length+1:=by simp
 simp -implicitDefEqProofs only[vQ,zM,zO,BD,↓reduceIte,jB,jV,enP,A6Y,jT,AEW,AXK,s1,s2,bne,beq_self_eq_true,List.length_map]
 generalize ((H1++[ABlk.live 4 [IW]]++[ABlk.live 1 [IK]]).set H1.length (ABlk.live 4 [KX (nlV po (zP m)) (nlV co (zC m))])).set (H1++[ABlk.live 4 [IW]]).length (ABlk.live 1 [[v3]])=H5 at g6 g7 gm5 g45 hx' N5 q5 ⊢
 generalize (H1++[ABlk.live 4 [IW]]).length=tb at g7 htl ⊢
 generalize H1.length=cb at g6 hlb htl hle1 ⊢
 have S5:CS H0.length H5 cb tb po co pb cbs (zS m).P (zS m).C (zS m).sam (zS m).ill v3:=N5.cs g6 g7 (by omega) (fun b hb=>by have:=hlb b hb; omega)
 refine DK (fun n F H => ∃ k st v3,n+k=l.length∧F 2 = .ptr h.length 0 0∧F 4 = .ptr b4 0 0∧F 6 = .ptr cb 0 0∧F 7 = .ptr tb 0 0∧F 22 = .sl s 1 (l.map AQX)∧F 23 = .int .i64 (l.length:Nat)∧F 24 = .int .i64 (k:Nat)∧H[h.length]? = some (.live 2 [EE m])∧H[b4]? = some (.live 4 [IW]) ∧
   CS H0.length H cb tb po co pb cbs st.P st.C st.sam st.ill v3∧TLs H v3 st.ls∧StOk m st∧ext h H∧VC m (zS m) (l.map Ss.l)=VC m st ((l.drop k).map Ss.l)) l.length
  ⟨0,zS m,v3,by simp,by simp -implicitDefEqProofs only[AA,↓reduceIte,jB],by simp -implicitDefEqProofs only[AA,↓reduceIte,jB],by simp -implicitDefEqProofs only[AA,↓reduceIte,jB],by simp -implicitDefEqProofs only[AA,↓reduceIte,jB],by simp -implicitDefEqProofs only[AA,↓reduceIte,jB],by simp -implicitDefEqProofs only[AA,↓reduceIte,jB],by simp -implicitDefEqProofs only[AA,↓reduceIte] <;> rfl,gm5,g45,S5,q5,A1E m,hx',rfl⟩ ?_
 clear gm5 g45 S5 q5 hx' N5 g6 g7 s1 s2 hx5
 rintro n F H ⟨k,st,v3',hk,f2,f4,f6,f7,f22,f23,f24,gmH,g4H,S,T,hok,hxH,hrun⟩
 simp -implicitDefEqProofs only[vQ,BD,↓reduceIte,enP,f23,f24]
 refine CU (fun hc => ?_) (fun hc => ?_)
 ·have hk':k < l.length:=by simpa using hc
  rw[List.drop_eq_getElem_cons hk',jD] at hrun
  simp -implicitDefEqProofs only[vQ,BD,↓reduceIte,jB,enP,A67,f22,f24,DL hk',C9 A6B hk',A3D,f2,ldM gmH,f6,f7]
  refine(AJ8 G hG hT m hm hg S hok.sh st.ls hok.ll (fun x hx=>by have:=hok.l7 x hx; omega) T l[k].l l[k].m (by have:=he _ (jS hk'); omega) hok.sm hok.il).mono ?_
  intro v H' hQ
  unfold A3S at hQ
  rcases hQ with⟨e,hne,hfst,rfl,hxe⟩ | ⟨hfst,rfl,lb,hlb2,glb,S',hFr⟩
  ·have hb:(e == 0)=false:=by simpa using hne
   have hse:AFB m st l[k].l=e:=hfst
   have g4':=FK hxe g4H
   simp -implicitDefEqProofs only[vQ,BD,↓reduceIte,jB,enP,jT,bne,hb,AXA,f4,stZ g4' rfl]
   rw[AIQ (ba:=b4) (by simp -implicitDefEqProofs only[AA,↓reduceIte,jB,f4]) (QE (EM g4') rfl)]
   refine⟨(hxH.trans hxe).set (by omega) _,?_⟩
   have hr:VC m (zS m) (l.map Ss.l)=(e,st):=by
    rw[hrun]
    show(if AFB m st l[k].l≠0 then (AFB m st l[k].l,st) else _)=_
    rw[hse,if_pos hne]
   unfold ANQ UY
   rw[if_neg (by rw[hr]; exact fun q=>hne q.2),if_pos h0,hr]
   simp -implicitDefEqProofs only[AA,↓reduceIte]
   rfl
  ·have hse:AFB m st l[k].l=0:=hfst
   have hr:VC m (zS m) (l.map Ss.l)=VC m (stp m st l[k].l) ((l.drop (k+1)).map Ss.l):=by
    rw[hrun]
    show(if AFB m st l[k].l≠0 then (AFB m st l[k].l,st) else _)=_
    rw[hse,if_neg (by decide)]
   have hpl : ∀ b∈pb,H0.length≤b:=S.np.lo
   have hcl : ∀ b∈cbs,H0.length≤b:=S.nc.lo
   have hhl:=hx.le
   have gm':=hFr.get _ _ gmH (by omega) (by omega) (fun q=>by have:=hpl _ q; omega) (fun q=>by have:=hcl _ q; omega)
   have g4':=hFr.get _ _ g4H (by omega) (by omega) (fun q=>by have:=hpl _ q; omega) (fun q=>by have:=hcl _ q; omega)
   have hx2:=hFr.ext hxH (by omega) (by omega) (fun b hb=>by have:=hpl _ hb; omega) (fun b hb=>by have:=hcl _ hb; omega)
   have T':TLs H' (.own lb 0 m.pts.length) (stp m st l[k].l).ls:=by
    refine .inr (.inr ⟨lb,_,?_,glb,RowsL.map _⟩)
    rw[(hok.step l[k].l).ll]
   simp -implicitDefEqProofs only[vQ,BD,↓reduceIte,jB,jV,enP,bne,beq_self_eq_true,f24,wrap_succ (show k < 9223372036854775807 by omega)]
   exact⟨n - 1,by omega,k+1,stp m st l[k].l,_,by omega,by trivial,by trivial,by trivial,by trivial,by trivial,by trivial,by trivial,gm',g4',S',T',hok.step _,hx2,hr⟩
 ·have hk' : ¬ k < l.length:=by simpa using hc
  rw[jZ (by omega)] at hrun
  have hr:VC m (zS m) (l.map Ss.l)=(0,st):=hrun
  simp -implicitDefEqProofs only[vQ,BD,↓reduceIte,jB,enP,jT,f4,f6,QE S.gc rfl,A39 g4H rfl]
  rw[AIQ (ba:=b4) (by simp -implicitDefEqProofs only[AA,↓reduceIte,jB,f4]) (QE (EM g4H) rfl)]
  refine⟨hxH.set (by omega) _,?_⟩
  have np':NL H0.length (H.set b4 (.live 4 [cvR po st.P co st.C st.sam st.ill])) po pb st.P:=S.np.keep fun b x hb hg=>DT hg (by have:=S.np.lt hb; omega)
  have nc':NL H0.length (H.set b4 (.live 4 [cvR po st.P co st.C st.sam st.ill])) co cbs st.C:=S.nc.keep fun b x hb hg=>DT hg (by have:=S.nc.lt hb; omega)
  have e1:=A3I st np' nc' h.length 0 hx.le
  unfold ANQ UY
  rw[if_pos (by rw[hr]; exact⟨h0,rfl⟩),if_pos h0,hr]
  simp -implicitDefEqProofs only[AA,↓reduceIte]
  show AV.tup [IL h.length _ 4 (.agg (cvR po st.P co st.C st.sam st.ill)),.int .i64 0]=_
  rw[e1]
theorem getD_at (xs:List Int)(k:Nat)(hk:k < xs.length):xs.getD k 0=xs[k]:=by rw[zZ,jO hk]; rfl
theorem AHZ (xs:List Int)(b k:Nat)(hb:b < xs.length):(raiseAt xs b).getD k 0=if b=k then rz (xs.getD b 0) else xs.getD k 0:=by
 unfold raiseAt
 rw[zZ,List.getElem?_set]
 split
 ·rfl
 ·rw[zZ]
theorem ZP (k:Nat) : ∀ (hit:List Nat) (xs:List Int),hit.Nodup→(∀ x∈hit,x < xs.length)→(rowP hit xs).getD k 0=if k∈hit then rz (xs.getD k 0) else xs.getD k 0
 | [],xs,_,_=>by simp [rowP]
 | b :: hit,xs,hn,hl=>by
   obtain⟨h1,h2⟩:=List.nodup_cons.1 hn
   have hb:=hl b (by simp)
   have ih:=ZP k hit (raiseAt xs b) h2 (fun x hx=>by rw[RJ]; exact hl x (by simp [hx]))
   have e:rowP (b :: hit) xs=rowP hit (raiseAt xs b):=rfl
   rw[e,ih,AHZ xs b k hb]
   by_cases hk:k∈hit
   ·have hne:b≠k:=fun q=>h1 (by rw[q]; exact hk)
    rw[if_pos hk,if_neg hne,if_pos (by simp [hk])]
   ·rw[if_neg hk]
    by_cases hbk:b=k
    ·subst hbk
     rw[if_pos rfl,if_pos (by simp)]
    ·rw[if_neg hbk,if_neg (by simp [hk]; exact fun q=>hbk q.symm)]
theorem AA8 (bins:List Bin)(last:List Int)(v kind:Int) : ∀ k,(NM bins last v kind k).Nodup
 | 0=>by simp [NM]
 | k+1=>by
   have ih:=AA8 bins last v kind k
   simp only[NM]
   split
   ·refine List.nodup_append.2 ⟨ih,by simp,fun a ha c hc e => ?_⟩
    simp at hc
    have:=ADJ bins last v kind k a ha
    omega
   ·simpa using ih
theorem AGH (p:Pt)(last:List Int)(l:List Sg):(ptE p last l).hit.Nodup:=by
 unfold ptE
 split
 ·simp
 ·split
  ·simp
  ·split
   ·simp
   ·split
    ·simp
    ·exact AA8 _ _ _ _ _
theorem ADK (bins:List Bin)(last:List Int)(v:Int) : ∀ k,∀ x∈NM bins last v 0 k,∃ b,bins[x]? = some b∧(b.kind == 0)=true
 | 0,x,hx=>by simp [NM] at hx
 | k+1,x,hx=>by
   simp only[NM] at hx
   rcases qC.1 hx with h | h
   ·exact ADK bins last v k x h
   ·split at h
    ·rename_i hq
     simp at h; subst h
     cases hb:bins[x]? with
     | none=>rw[hb] at hq; cases hq
     | some b =>
       rw[hb] at hq
       have hK1:hK last v 0 b=true:=hq
       unfold hK at hK1
       rw[jX] at hK1
       exact⟨b,rfl,hK1.1⟩
    ·cases h
theorem AUT (p:Pt)(last:List Int)(l:List Sg) : ∀ x∈(ptE p last l).hit,(kindOf p x == 0)=true:=by
 intro x hx
 unfold ptE at hx
 split at hx
 ·cases hx
 ·split at hx
  ·cases hx
  ·split at hx
   ·cases hx
   ·split at hx
    ·cases hx
    ·obtain⟨b,h1,h2⟩:=ADK _ _ _ _ x hx
     unfold kindOf; rw[h1]; exact h2
theorem VG {p:Nat→Bool} : ∀ {l:List Int} {k:Nat},rowF p k l=true↔∀ j,j < l.length→countB (l.getD j 0) (p (k+j))=true
 | [],k=>by simp [rowF]
 | n :: l,k=>by
   simp only[rowF,jX]
   rw[VG (l:=l) (k:=k+1)]
   constructor
   ·rintro⟨h1,h2⟩ j hj
    cases j with
    | zero=>exact h1
    | succ j =>
      have:=h2 j (by simpa using hj)
      rw[show k+(j+1)=k+1+j by omega]; exact this
   ·intro h
    refine⟨h 0 (by simp),fun j hj => ?_⟩
    have:=h (j+1) (by simpa using hj)
    rw[show k+(j+1)=k+1+j by omega] at this; exact this
theorem AHA {n:Int}{p:Bool}(h:countB n p=true)(hp:p=true):countB (rz n) p=true:=by
 have h1:=W9 h
 subst hp
 unfold countB
 simp only[Bool.true_or,Bool.and_true]
 rw[NY] at *
 unfold rz; omega
theorem AU5 {p:Pt}{last:List Int}{env:List Sg}{x y:Is}(hx:okP p x=true)(hy:y.l=rowP (ptE p last env).hit x.l):okP p y=true:=by
 unfold okP at *
 simp only[jX,beq_iff_eq] at *
 rw[hy,QS]
 refine⟨hx.1,VG.2 fun j hj => ?_⟩
 rw[QS] at hj
 have h2:=VG.1 hx.2 j hj
 rw[ZP j _ _ (AGH _ _ _) (fun z hz=>by rw[hx.1]; exact ANV _ _ _ z hz)]
 split
 ·rename_i hm
  exact AHA h2 (by rw[jG]; exact AUT _ _ _ j hm)
 ·exact h2
theorem ARV (m:Mo)(x:Cr)(hits:List (List Nat))(xs:List Int)(k:Nat)(hk:k < xs.length):(rowC m x hits xs).getD k 0=if crK m x hits k=true then rz (xs.getD k 0) else xs.getD k 0:=by
 have hl:k < (rowC m x hits xs).length:=by rw[rowC_len]; exact hk
 rw[getD_at _ _ hl,ACR m x hits xs k hk hl,getD_at _ _ hk]
theorem AU6 {m:Mo}{c:Cr}{hits:List (List Nat)}{x y:Is}(hx:okC m c x=true)(hy:y.l=rowC m c hits x.l):okC m c y=true:=by
 unfold okC at *
 simp only[jX,beq_iff_eq] at *
 rw[hy,rowC_len]
 refine⟨hx.1,VG.2 fun j hj => ?_⟩
 rw[rowC_len] at hj
 have h2:=VG.1 hx.2 j hj
 rw[ARV m c hits _ j hj]
 split
 ·rename_i hm
  unfold crK at hm
  rw[jX] at hm
  exact AHA h2 (by rw[jG]; exact hm.1)
 ·exact h2
theorem AII {α:Type}{ok:α→Is→Bool} : ∀ {ws:List α} {xs:List Is},ws.length=xs.length→(∀ (i:Nat) (a:α) (x:Is),ws[i]? = some a→xs[i]? = some x→ok a x=true)→QW ok ws xs=true
 | [],[],_,_=>rfl
 | w :: ws,x :: xs,hl,h=>by
   simp only[QW,jX]
   exact⟨h 0 w x rfl rfl,AII (by simpa using hl) fun i a y h1 h2=>h (i+1) a y (by simpa using h1) (by simpa using h2)⟩
 | [],_ :: _,hl,_=>by simp at hl
 | _ :: _,[],hl,_=>by simp at hl
structure FitS (m:Mo) (s:St):Prop where
 me:G8 m=0
 fp:QW okP m.pts (QJ s.P)=true
 fc:QW (okC m) m.crs (QJ s.C)=true
 ws:LX s.sam=true
 wi:LX s.ill=true
 ll:s.ls.length=m.pts.length
 lb : ∀ l∈s.ls,lastB l=true
theorem AY0 {p:Pt}{x y:Is}(h:x.l=y.l):okP p x=okP p y:=by unfold okP; rw[h]
theorem AY3 {m:Mo}{c:Cr}{x y:Is}(h:x.l=y.l):okC m c x=okC m c y:=by unfold okC; rw[h]
theorem AM0 (P:List (List Int)):(QJ P).map (·.l)=P:=by unfold QJ; rw[List.map_map]; exact List.map_id _
theorem FitS.fits {m:Mo}{s:St}(h:FitS m s):AG5 m (cvS s)=true:=Z9.2 ⟨h.me,h.fp,h.fc,h.ws,h.wi⟩
theorem TN {α:Type}{ok:α→Is→Bool}{ws:List α}{xs:List Is}(h:QW ok ws xs=true)(i:Nat)(a:α)(x:Is)(h1:ws[i]? = some a)(h2:xs[i]? = some x):ok a x=true:=by
 obtain⟨y,hy,hk⟩:=Y4 h i a h1
 rw[h2] at hy; cases hy; exact hk
theorem FitS.ok {m:Mo}{s:St}(h:FitS m s):StOk m s:=by
 have lp:=ADU h.fp
 have lc:=ADU h.fc
 have hpl:s.P.length=m.pts.length:=by rw[lp]; simp [QJ]
 have hcl:s.C.length=m.crs.length:=by rw[lc]; simp [QJ]
 refine⟨⟨hpl,hcl,fun i a b => ?_,fun i a b => ?_,fun xs hx => ?_,fun xs hx => ?_⟩,h.ll,fun l hl => ?_,NY.1 h.ws,NY.1 h.wi⟩
 ·have:=TN h.fp i m.pts[i] ⟨.any,s.P[i]⟩ (jO b) (by simp [QJ])
  unfold okP at this
  simp only[jX,beq_iff_eq] at this
  exact this.1
 ·have:=TN h.fc i m.crs[i] ⟨.any,s.C[i]⟩ (jO b) (by simp [QJ])
  unfold okC at this
  simp only[jX,beq_iff_eq] at this
  exact this.1
 ·obtain⟨i,hi,rfl⟩:=qJ hx
  have:=TN h.fp i m.pts[i] ⟨.any,s.P[i]⟩ (jO (by omega)) (by simp [QJ])
  unfold okP at this
  rw[jX] at this
  exact fun n hn=>NY.1 (VF this.2 n hn)
 ·obtain⟨i,hi,rfl⟩:=qJ hx
  have:=TN h.fc i m.crs[i] ⟨.any,s.C[i]⟩ (jO (by omega)) (by simp [QJ])
  unfold okC at this
  rw[jX] at this
  exact fun n hn=>NY.1 (VF this.2 n hn)
 ·have:=h.lb l hl
  unfold lastB at this
  rw[jX] at this
  simpa using this.1
theorem ACB {n:Int}(h:LX n=true):LX (rz n)=true:=by
 rw[NY] at *
 unfold rz; omega
theorem A3B (l:List Sg)(e:Ex):(evE l e).1 < 65536:=by
 unfold evE
 split
 ·decide
 ·split
  ·exact APT l e
  ·decide
theorem XT {last:List Int}{v:Nat}(hl:lastB last=true)(hv:v < 65536):lastB (nextL last v)=true:=by
 unfold lastB at *
 simp only[jX,decide_eq_true_eq,Bool.not_eq_true'] at *
 obtain⟨h1,h2⟩:=hl
 refine⟨?_,?_⟩
 ·unfold nextL; rw[List.length_drop,qB]; simp; omega
 ·rw[List.any_eq_false] at *
  intro x hx
  have hx':=List.mem_of_mem_drop hx
  rcases qC.1 hx' with h | h
  ·exact h2 x h
  ·simp at h; subst h
   unfold outW
   simp; omega
theorem AUS {p:Pt}{last:List Int}{l:List Sg}(h0:(ptE p last l).err=0):lastB (ptE p last l).next=true:=by
 have hv:=A3B l p.ex
 unfold ptE at *
 split at h0
 ·cases h0
 ·rename_i hn
  have hlb:lastB last=true:=by
   cases hq:lastB last
   ·exact absurd (.inr hq) hn
   ·rfl
  rw[if_neg hn]
  split at h0
  ·rename_i h1
   exact absurd h0 h1
  ·rename_i h1
   rw[if_neg h1]
   split
   ·exact XT hlb hv
   ·split
    ·exact XT hlb hv
    ·exact XT hlb hv
theorem FitS.step {m:Mo}{s:St}(h:FitS m s){env:List Sg}(h0:AFB m s env=0):FitS m (stp m s env):=by
 have hok:=h.ok
 have hr:=VK m s.ls env h.ll
 have hpl:=hok.sh.pl
 have hcl:=hok.sh.cl
 have l1:=U7 (OB m s.ls env) s.P (by omega)
 have l2:=U9 m ((OB m s.ls env).map PtR.hit) s.C hcl
 refine⟨h.me,?_,?_,ACB h.ws,?_,by simp [stp,hr],fun l hl => ?_⟩
 ·refine AII (by simp [QJ,stp,l1]; omega) fun i a x e1 e2 => ?_
  have hi:i < m.pts.length:=CB e1
  rw[jO hi] at e1; cases e1
  have hx:x.l=rowP (ptE m.pts[i] (s.ls[i]'(by rw[h.ll]; exact hi)) env).hit (s.P[i]'(by omega)):=by
   unfold QJ at e2
   rw[jY] at e2
   have:(stp m s env).P[i]? = some (rowP ((OB m s.ls env)[i]'(by omega)).hit (s.P[i]'(by omega))):=by
    show(QC (OB m s.ls env) s.P)[i]? = _
    rw[jO (by omega),U8 _ _ i (by omega) (by omega)]
   rw[this] at e2; cases e2
   rw[ACU m s.ls env i hi (by rw[h.ll]; exact hi) (by omega)]
  exact AU5 (TN h.fp i m.pts[i] ⟨.any,s.P[i]'(by omega)⟩ (jO hi) (by simp [QJ] <;> omega)) hx
 ·refine AII (by simp [QJ,stp,l2]; omega) fun i a x e1 e2 => ?_
  have hi:i < m.crs.length:=CB e1
  rw[jO hi] at e1; cases e1
  have hx:x.l=rowC m m.crs[i] ((OB m s.ls env).map PtR.hit) (s.C[i]'(by omega)):=by
   unfold QJ at e2
   rw[jY] at e2
   have:(stp m s env).C[i]? = some (rowC m m.crs[i] ((OB m s.ls env).map PtR.hit) (s.C[i]'(by omega))):=by
    show(TC m ((OB m s.ls env).map PtR.hit) s.C)[i]? = _
    rw[jO (by omega),VA _ _ _ i hi (by omega)]
   rw[this] at e2; cases e2
   rfl
  exact AU6 (TN h.fc i m.crs[i] ⟨.any,s.C[i]'(by omega)⟩ (jO hi) (by simp [QJ] <;> omega)) hx
 ·unfold stp
  dsimp only
  split
  ·exact ACB h.wi
  ·exact h.wi
 ·obtain⟨r,hrm,rfl⟩:=zI.1 hl
  have he:=TL PtR.err h0 r hrm
  obtain⟨p,hp,rfl⟩:=zI.1 hrm
  exact AUS he
theorem AT0 {m:Mo}(h:G8 m=0):FitS m (zS m):=by
 refine⟨h,?_,?_,by show LX 0=true; decide,by show LX 0=true; decide,(A1E m).ll,fun l hl => ?_⟩
 ·rw[show QW okP m.pts (QJ (zS m).P)=QW okP m.pts (m.pts.map fun p=>zIs p.bins.length) from ADV (ok:=okP) (fun _ _ _ h=>AY0 h) _ _ _ (by rw[AM0]; simp [zS,zP,zIs])]
  exact ADT (ok:=okP) _ (fun p=>by unfold okP; simp [zIs,ZQ]; simp [zeros]) _
 ·rw[show QW (okC m) m.crs (QJ (zS m).C)=QW (okC m) m.crs (m.crs.map fun c=>zIs (JB (szs m c.pts))) from ADV (ok:=okC m) (fun _ _ _ h=>AY3 h) _ _ _ (by rw[AM0]; simp [zS,zC,zIs])]
  exact ADT (ok:=okC m) _ (fun c=>by unfold okC; simp [zIs,ZQ]; simp [zeros]) _
 ·rw[List.eq_of_mem_replicate hl]; decide
structure Sx (h H:Hp) (m:Mo) (c:Cvr) (t:Tk) (vb tb b8 b9 n0 K ob nb po co:Nat) (pb cbs:List Nat) (P C:List (List Int)) (sam ill:Int) (w:AV):Prop where
 gm:H[h.length]? = some (.live 2 [EE m])
 gv:H[vb]? = some (.live 4 [encV c])
 gt:H[tb]? = some (.live 1 [AL0 t])
 g8:H[b8]? = some (.live 4 [IW])
 g9:H[b9]? = some (.live 1 [IK])
 o1:h.length < vb
 o2:vb < tb
 o3:tb < b8
 o4:b8 < b9
 o5:b9 < n0
 cs:CS n0 H ob nb po co pb cbs P C sam ill w
 lo:n0≤ob
 ln:n0≤nb
 ho:ob < K
 hn:nb < K
 hp : ∀ b∈pb,b < K
 hc : ∀ b∈cbs,b < K
 hpo:P≠[]→po < K
 hco:C≠[]→co < K
 kh:K≤H.length
 hx:ext h H
section
variable {h H:Hp} {m:Mo} {c:Cvr} {t:Tk} {vb tb b8 b9 n0 K ob nb po co:Nat} {pb cbs:List Nat} {P C:List (List Int)} {sam ill:Int} {w:AV} (S:Sx h H m c t vb tb b8 b9 n0 K ob nb po co pb cbs P C sam ill w)
include S
theorem Sx.keep {H':Hp}(hk : ∀ (b:Nat) (x:ABlk),b < K→H[b]? = some x→H'[b]? = some x)(hl:K≤H'.length)(hx:Sm.ext h H'):Sx h H' m c t vb tb b8 b9 n0 K ob nb po co pb cbs P C sam ill w:=by
 have o1:=S.o1; have o2:=S.o2; have o3:=S.o3; have o4:=S.o4; have o5:=S.o5; have lo:=S.lo; have ho:=S.ho
 have cs:=S.cs
 refine⟨hk _ _ (by omega) S.gm,hk _ _ (by omega) S.gv,hk _ _ (by omega) S.gt,hk _ _ (by omega) S.g8,hk _ _ (by omega) S.g9,o1,o2,o3,o4,o5,
  ⟨hk _ _ S.ho cs.gc,hk _ _ S.hn cs.gt,cs.np.keep fun b x hb hg => ?_,cs.nc.keep fun b x hb hg => ?_,cs.dis,cs.xcp,cs.xcc,cs.xtp,cs.xtc,cs.xpo,cs.xco,cs.ct⟩,S.lo,S.ln,S.ho,S.hn,S.hp,S.hc,S.hpo,S.hco,hl,hx⟩
 ·rcases hb with⟨hP,rfl⟩ | hb
  ·exact hk _ _ (S.hpo hP) hg
  ·exact hk _ _ (S.hp _ hb) hg
 ·rcases hb with⟨hC,rfl⟩ | hb
  ·exact hk _ _ (S.hco hC) hg
  ·exact hk _ _ (S.hc _ hb) hg
theorem Sx.app (x:Hp):Sx h (H++x) m c t vb tb b8 b9 n0 K ob nb po co pb cbs P C sam ill w:=S.keep (fun _ _ _ hg=>F8 hg) (by have:=S.kh; simp; omega) (S.hx.app x)
theorem Sx.m0:D5 Tryz.prog H 22 (.ptr h.length 0 0)=some (.sl m.pm 6 (m.pts.map GG)):=by rw[DU ZI S.gm (row:=EE m) rfl,RU]
theorem Sx.m1:D5 Tryz.prog H 23 (.ptr h.length 0 1)=some (.sl m.cm 3 (m.crs.map G5)):=by rw[DU AAT S.gm (row:=EE m) rfl,TP]
theorem Sx.v0:D5 Tryz.prog H 67 (.ptr vb 0 0)=some (.sl c.pm 1 (c.pts.map encL)):=by rw[DU UN S.gv (row:=encV c) rfl,A1R]
theorem Sx.v3:D5 Tryz.prog H 3 (.ptr vb 0 3)=some (.int .i64 c.ill):=by rw[DU ag3 S.gv (row:=encV c) rfl,A1Q]
theorem Sx.t0:D5 Tryz.prog H 67 (.ptr tb 0 0)=some (.sl t.m 1 (t.last.map encL)):=by rw[DU UN S.gt (row:=AL0 t) rfl,A5C]
theorem Sx.rowP {i:Nat}(hi:i < P.length)(hip:i < pb.length):D5 Tryz.prog H 67 (.ptr ob 0 0)=some (nlV po P)∧JZ 1 H (nlV po P) (.int .i64 (i:Nat))=some (.ptr po i 0)∧D5 Tryz.prog H 26 (.ptr po i 0)=some (.own pb[i] 0 P[i].length)∧H[pb[i]]? = some (.live 1 (P[i].map qencI)) :=
 ⟨S.cs.l0,S.cs.np.ix hi,S.cs.np.ld hi,S.cs.np.row i hip hi⟩
theorem Sx.rowC {i:Nat}(hi:i < C.length)(hip:i < cbs.length):D5 Tryz.prog H 67 (.ptr ob 0 1)=some (nlV co C)∧JZ 1 H (nlV co C) (.int .i64 (i:Nat))=some (.ptr co i 0)∧D5 Tryz.prog H 26 (.ptr co i 0)=some (.own cbs[i] 0 C[i].length)∧H[cbs[i]]? = some (.live 1 (C[i].map qencI)) :=
 ⟨S.cs.l1,S.cs.nc.ix hi,S.cs.nc.ld hi,S.cs.nc.row i hip hi⟩
end
structure Sy (h H:Hp) (m:Mo) (c:Cvr) (t:Tk) (vb tb b8 b9:Nat):Prop where
 gm:H[h.length]? = some (.live 2 [EE m])
 gv:H[vb]? = some (.live 4 [encV c])
 gt:H[tb]? = some (.live 1 [AL0 t])
 g8:H[b8]? = some (.live 4 [IW])
 g9:H[b9]? = some (.live 1 [IK])
 o1:h.length < vb
 o2:vb < tb
 o3:tb < b8
 o4:b8 < b9
 o5:b9 < H.length
 hx:ext h H
theorem Sy.mk' (h:Hp)(m:Mo)(c:Cvr)(t:Tk):Sy h (h++[ABlk.live 2 [EE m]]++[ABlk.live 4 [encV c]]++[ABlk.live 1 [AL0 t]]++[ABlk.live 4 [IW]]++[ABlk.live 1 [IK]]) m c t (h++[ABlk.live 2 [EE m]]).length (h++[ABlk.live 2 [EE m]]++[ABlk.live 4 [encV c]]).length
  (h++[ABlk.live 2 [EE m]]++[ABlk.live 4 [encV c]]++[ABlk.live 1 [AL0 t]]).length (h++[ABlk.live 2 [EE m]]++[ABlk.live 4 [encV c]]++[ABlk.live 1 [AL0 t]]++[ABlk.live 4 [IW]]).length :=
 ⟨CP (CP (CP (CP (CZ _ _)))),CP (CP (CP (CZ _ _))),CP (CP (CZ _ _)),CP (CZ _ _),CZ _ _,by simp,by simp,by simp,by simp,by simp,((((ext.rfl' h).app _).app _).app _).app _ |>.app _⟩
theorem hbs {α β:Type}(f:α→β)(l:List α)(k:Nat){h:k < l.length}:(l.take k).map f++[f l[k]]=(l.take (k+1)).map f:=by rw[zL h,List.map_append]; rfl
structure Rr (h H:Hp) (m:Mo) (c:Cvr) (t:Tk) (b4 cb tb:Nat):Prop where
 gm:H[h.length]? = some (.live 2 [EE m])
 g4:H[b4]? = some (.live 4 [IW])
 gc:H[cb]? = some (.live 4 [encV c])
 gt:H[tb]? = some (.live 1 [AL0 t])
 o1:h.length < b4
 o2:b4 < cb
 o3:cb < tb
 hx:ext h H
theorem Rr.ext {h H H':Hp}{m:Mo}{c:Cvr}{t:Tk}{b4 cb tb:Nat}(R:Rr h H m c t b4 cb tb)(hx:Sm.ext H H'):Rr h H' m c t b4 cb tb:=⟨FK hx R.gm,FK hx R.g4,FK hx R.gc,FK hx R.gt,R.o1,R.o2,R.o3,R.hx.trans hx⟩
def stK (m:Mo)(l:List (List Sg))(k:Nat):St:=(l.take k).foldl (stp m) (zS m)
theorem YJ (m:Mo){l:List (List Sg)}{k:Nat}(hk:k < l.length):stK m l (k+1)=stp m (stK m l k) l[k]:=by
 unfold stK
 rw[zL hk,List.foldl_append]; rfl
structure RunOk (m:Mo) (l:List (List Sg)):Prop where
 me:G8 m=0
 eq:(VC m (zS m) l).2=stK m l l.length
 e0:(VC m (zS m) l).1=0
 er : ∀ (k:Nat) (hk:k < l.length),AFB m (stK m l k) l[k]=0
theorem RunOk.fit {m:Mo}{l:List (List Sg)}(h:RunOk m l) : ∀ k,k≤l.length→FitS m (stK m l k)
 | 0,_=>AT0 h.me
 | k+1,hk=>by
   rw[YJ m (by omega)]
   exact(h.fit k (by omega)).step (h.er k (by omega))
structure Bd (k:Nat) (s:St):Prop where
 P : ∀ xs∈s.P,∀ x∈xs,x≤(k:Int)
 C : ∀ xs∈s.C,∀ x∈xs,x≤(k:Int)
 sam:s.sam=(k:Int)
 ill:s.ill≤(k:Int)
theorem AUO (n:Int):rz n≤n+1:=by unfold rz; omega
theorem A4H {n:Int}(h:n < 1099511627776):rz n=n+1:=by unfold rz; omega
theorem Bd.step {m:Mo}{s:St}{k:Nat}(h:Bd k s)(hok:StOk m s)(hk:k < 1099511627776)(env:List Sg):Bd (k+1) (stp m s env):=by
 have hr:=VK m s.ls env hok.ll
 have hpl:=hok.sh.pl
 have hcl:=hok.sh.cl
 have l1:=U7 (OB m s.ls env) s.P (by omega)
 have l2:=U9 m ((OB m s.ls env).map PtR.hit) s.C hcl
 refine⟨fun xs hx x hxx => ?_,fun xs hx x hxx => ?_,?_,?_⟩
 ·obtain⟨i,hi,rfl⟩:=qJ (show xs∈QC (OB m s.ls env) s.P from hx)
  have hi':i < s.P.length:=by omega
  have him:i < m.pts.length:=by omega
  rw[U8 _ _ i (by omega) hi'] at hxx
  obtain⟨j,hj,rfl⟩:=qJ hxx
  rw[QS] at hj
  have hg:=ACU m s.ls env i him (by rw[hok.ll]; exact him) (by omega)
  have hpe:=hok.sh.pe i hi' him
  rw[← getD_at _ j (by rw[QS]; exact hj),ZP j _ _ (by rw[hg]; exact AGH _ _ _) (fun x hx=>by rw[hg] at hx; rw[hpe]; exact ANV _ _ _ x hx)]
  have hb:=h.P _ (jS hi') _ (jS hj)
  rw[getD_at _ j hj]
  have:=AUO (s.P[i][j])
  split <;> omega
 ·obtain⟨i,hi,rfl⟩:=qJ (show xs∈TC m ((OB m s.ls env).map PtR.hit) s.C from hx)
  have hi':i < s.C.length:=by omega
  rw[VA m _ _ i (by omega) hi'] at hxx
  obtain⟨j,hj,rfl⟩:=qJ hxx
  have hj':=hj
  rw[rowC_len] at hj'
  rw[ACR m _ _ _ j hj' hj]
  have hb:=h.C _ (jS hi') _ (jS hj')
  have:=AUO (s.C[i][j])
  split <;> omega
 ·show rz s.sam=_
  rw[h.sam,A4H (by omega)]; omega
 ·have:=h.ill
  have h2:=AUO s.ill
  unfold stp
  dsimp only
  split <;> omega
def rsK (m:Mo)(l:List (List Sg))(k:Nat):List PtR:=OB m (stK m l k).ls (l.getD k [])
theorem AHW (m:Mo){l:List (List Sg)}{k:Nat}(hk:k < l.length):rsK m l k=OB m (stK m l k).ls l[k]:=by
 unfold rsK
 rw[zZ,jO hk]; rfl
section
variable {m:Mo} {l:List (List Sg)} (R:RunOk m l)
include R
theorem RunOk.rl {k:Nat}(hk:k < l.length):(rsK m l k).length=m.pts.length:=by
 rw[AHW m hk]
 exact VK m _ _ (R.fit k (by omega)).ll
theorem RunOk.pl (k:Nat)(hk:k≤l.length):(stK m l k).P.length=m.pts.length:=(R.fit k hk).ok.sh.pl
theorem RunOk.cl (k:Nat)(hk:k≤l.length):(stK m l k).C.length=m.crs.length:=(R.fit k hk).ok.sh.cl
theorem RunOk.last {k i:Nat}(hk:k < l.length)(hi:i < m.pts.length):(stK m l (k+1)).ls.getD i []=((rsK m l k)[i]'(by rw[R.rl hk]; exact hi)).next:=by
 have h1:=R.rl hk
 rw[YJ m hk]
 unfold stp
 dsimp only
 rw[← AHW m hk,zZ,jY,jO (by omega)]; rfl
theorem RunOk.row {k i:Nat}(hk:k < l.length)(hi:i < m.pts.length):(stK m l (k+1)).P.getD i []=rowP ((rsK m l k)[i]'(by rw[R.rl hk]; exact hi)).hit ((stK m l k).P.getD i []):=by
 have h1:=R.rl hk
 have h2:=R.pl k (by omega)
 rw[YJ m hk]
 unfold stp
 dsimp only
 rw[← AHW m hk]
 have hs:=U7 (rsK m l k) (stK m l k).P (by omega)
 rw[zZ,jO (by omega),U8 _ _ i (by omega) (by omega),zZ,jO (by omega)]; rfl
theorem RunOk.rowC {k i:Nat}(hk:k < l.length)(hi:i < m.crs.length):(stK m l (k+1)).C.getD i []=Xe.rowC m m.crs[i] ((rsK m l k).map PtR.hit) ((stK m l k).C.getD i []):=by
 have h2:=R.cl k (by omega)
 rw[YJ m hk]
 unfold stp
 dsimp only
 rw[← AHW m hk]
 have hs:=U9 m ((rsK m l k).map PtR.hit) (stK m l k).C h2
 rw[zZ,jO (by omega),VA _ _ _ i hi (by omega),zZ,jO (by omega)]; rfl
end
end Go.Proofs.YtfpagfhhhlljjaaGreatDoor.Xe
