/- Part 16 of the proof (X22, X24, Kz); no condition. -/
import Derived.Test.YtfpagfhhhlljjaaGreatDoorYD15
set_option linter.unusedVariables false
set_option linter.unusedSimpArgs false
set_option maxRecDepth 8000
namespace Go.Proofs.YtfpagfhhhlljjaaGreatDoor.Xe
open Sm Bins Cov Wd Go.RowKit
open Bool renaming or_false→jQ,not_false→jC,not_true→jU
open List renaming mem_map→zL,contains_cons→jR,contains_nil→jJ,map_cons→jD,map_nil→jE,append_nil→jF,getElem?_cons_zero→zB,getElem?_cons_succ→zD,getElem_mem→jP,map_map→wF,getElem_of_mem→qL,getD_eq_getElem?_getD→zQ,getElem?_eq_getElem→jS
open Nat renaming reduceBEq→jO,reduceEqDiff→jB,reduceAdd→jM,zero_add→jG
open Option renaming getD_some→jA,getD_none→jT
theorem AQG:CvOk zV:=⟨by decide,by decide,fun x hx=>(by cases hx),fun x hx=>(by cases hx)⟩
theorem AQH:TkOk zT:=⟨by decide,fun x hx=>(by cases hx)⟩
theorem AHB {m:Mo}{c:Cvr}{t:Tk}{env:List Sg}(h:RV m c t env=0):LC m c=true∧ACX m t=true∧VG m (stO c t) env=0:=by
 unfold RV at h
 split at h
 ·split at h
  ·rename_i h2
   rw[Bool.and_eq_true] at h2
   exact⟨h2.1,h2.2,h⟩
  ·cases h
 ·rename_i h2; exact absurd h h2
theorem AZS (m:Mo)(c:Cvr)(t:Tk)(env:List Sg):CvOk (ZT m c t env):=by
 unfold ZT
 split
 ·rename_i h
  obtain⟨h1,h2,h3⟩:=AHB h
  exact AH8 ((ADF h1 h2).step h3).fits
 ·exact AQG
theorem A3H {m:Mo}{s:St}(h:FitS m s):TkOk (tkS s):=by
 have h1:=h.ll
 have hn:=(NY h.me).num
 refine⟨by simp [tkS,isL]; omega,fun x hx => ?_⟩
 obtain⟨y,hy,rfl⟩:=zL.1 hx
 have:=h.ok.l7 y hy
 show y.length≤_
 omega
theorem AZT (m:Mo)(c:Cvr)(t:Tk)(env:List Sg):TkOk (ADZ m c t env):=by
 unfold ADZ
 split
 ·rename_i h
  obtain⟨h1,h2,h3⟩:=AHB h
  exact A3H ((ADF h1 h2).step h3)
 ·exact AQH
def AD3 (m:Mo):Cvr→Tk→List (List Sg)→Cvr × Int
 | c,_,[]=>(c,0)
 | c,t,e :: r=>if RV m c t e=0 then AD3 m (ZT m c t e) (ADZ m c t e) r else (zV,RV m c t e)
def rnR (m:Mo)(l:List (List Sg)):Cvr × Int:=if FX m=0 then AD3 m (emV m) (XZ m) l else (zV,FX m)
theorem ALC (m:Mo) : ∀ (l:List (List Sg)) (c:Cvr) (t:Tk),(AD3 m c t l).2≠0→(AD3 m c t l).1=zV
 | [],_,_,h=>absurd rfl h
 | e :: r,c,t,h=>by
   unfold AD3 at h ⊢
   split
   ·rename_i h2
    rw[if_pos h2] at h
    exact ALC m r _ _ h
   ·rfl
theorem AZ1 {m:Mo}{l:List (List Sg)}(h:(rnR m l).2≠0):(rnR m l).1=zV:=by
 unfold rnR at h ⊢
 split
 ·rename_i h2
  rw[if_pos h2] at h
  exact ALC _ _ _ _ h
 ·rfl
def rnW (m:Mo)(l:List (List Sg)):List AV:=if(rnR m l).2=0 then encV (rnR m l).1 else GG
theorem A3V (m:Mo)(l:List (List Sg)):CvR (.agg (rnW m l)) (.agg (encV (rnR m l).1)):=by
 unfold rnW
 split
 ·exact CvR.refl _
 ·rename_i h
  rw[AZ1 h]; exact AU7
theorem A4L (m:Mo):CvOk (emV m):=by
 unfold emV
 split
 ·rename_i h
  exact AH8 (ACN h)
 ·exact AQG
theorem A08 (m:Mo):TkOk (XZ m):=by
 unfold XZ
 split
 ·rename_i h
  have hn:=(NY h).num
  refine⟨by simp [zLs]; omega,fun x hx => ?_⟩
  obtain⟨y,_,rfl⟩:=zL.1 hx
  simp
 ·exact AQH
structure Rr (h H:Hp) (m:Mo) (c:Cvr) (t:Tk) (b4 cb tb:Nat):Prop where
 gm:H[h.length]? = some (.live 2 [EE m])
 g4:H[b4]? = some (.live 4 [GG])
 gc:H[cb]? = some (.live 4 [encV c])
 gt:H[tb]? = some (.live 1 [LZ t])
 o1:h.length < b4
 o2:b4 < cb
 o3:cb < tb
 hx:ext h H
theorem Rr.ext {h H H':Hp}{m:Mo}{c:Cvr}{t:Tk}{b4 cb tb:Nat}(R:Rr h H m c t b4 cb tb)(hx:Sm.ext H H'):Rr h H' m c t b4 cb tb:=⟨FD hx R.gm,FD hx R.g4,FD hx R.gc,FD hx R.gt,R.o1,R.o2,R.o3,R.hx.trans hx⟩
theorem Rr.setC {h H:Hp}{m:Mo}{c:Cvr}{t:Tk}{b4 cb tb:Nat}(R:Rr h H m c t b4 cb tb)(c':Cvr):Rr h (H.set cb (.live 4 [encV c'])) m c' t b4 cb tb:=by
 have o1:=R.o1; have o2:=R.o2; have o3:=R.o3
 exact⟨CV R.gm (by omega),CV R.g4 (by omega),EG R.gc,CV R.gt (by omega),o1,o2,o3,R.hx.set (by omega) _⟩
theorem Rr.setT {h H:Hp}{m:Mo}{c:Cvr}{t:Tk}{b4 cb tb:Nat}(R:Rr h H m c t b4 cb tb)(t':Tk):Rr h (H.set tb (.live 1 [LZ t'])) m c t' b4 cb tb:=by
 have o1:=R.o1; have o2:=R.o2; have o3:=R.o3
 exact⟨CV R.gm (by omega),CV R.g4 (by omega),CV R.gc (by omega),EG R.gt,o1,o2,o3,R.hx.set (by omega) _⟩
set_option maxHeartbeats 4000000 in
theorem A17 (G:Nat→AV)(m:Mo)(hm:MoOk m)(l:List Ss)(s:SM)(h:Hp)(hl:l.length≤1048576)(he : ∀ x∈l,x.l.length≤1048576∧∀ s∈x.l,XF s) :
  PCall (En G) 45 [.agg (EE m),.sl s 1 (l.map TQ)] h (.tup [.agg (encV (rnR m (l.map Ss.l)).1),.int .i64 (rnR m (l.map Ss.l)).2]):=by
 refine PCall.res (r := .tup [.agg (rnW m (l.map Ss.l)),.int .i64 (rnR m (l.map Ss.l)).2]) ?_ (CvR.tup (CvRL.cons (A3V _ _) (CvRL.refl _)))
 refine X8 3 (fun n H => ?_) ?_
 ·unfold rnW
  split <;> rfl
 refine MJ (H:=hint [37] []) (enM G) Tryz.func45 rfl (by kernel_rfl) (by kernel_rfl) (Nat.le_of_ble_eq_true (by kernel_rfl)) ?_
 show awp _ _ _ _ _ (EM _ [.cell 4 81,.tmp 5] _)
 have gm:=CX (x:=ABlk.live 4 [GG]) (CZ h (ABlk.live 2 [EE m]))
 have g4:=CZ (h++[ABlk.live 2 [EE m]]) (ABlk.live 4 [GG])
 have hx:ext h (h++[ABlk.live 2 [EE m]]++[ABlk.live 4 [GG]]):=((ext.rfl' h).app _).app _
 have hb4:h.length < (h++[ABlk.live 2 [EE m]]).length:=by simp
 simp -implicitDefEqProofs only[vQ,jR,jJ,jO,jQ,BD,↓reduceIte,jB,enP,bxM,PU]
 generalize h++[ABlk.live 2 [EE m]]++[ABlk.live 4 [GG]]=H0 at gm g4 hx ⊢
 generalize (h++[ABlk.live 2 [EE m]]).length=b4 at g4 hb4 ⊢
 have hlt:=CJ g4
 simp -implicitDefEqProofs only[vQ,jR,jJ,jO,jQ,BD,↓reduceIte,ldM gm]
 refine(AU3 G m hm H0).use ?_
 obtain⟨s1,s2,g6,g7,hx5⟩:=A6D H0 (emV m) (XZ m)
 have R0:Rr h _ m (emV m) (XZ m) b4 H0.length (H0++[ABlk.live 4 [GG]]).length:=⟨FD hx5 gm,FD hx5 g4,g6,g7,hb4,hlt,by simp,hx.trans hx5⟩
 simp -implicitDefEqProofs only[vQ,zB,zD,jR,jJ,jO,jQ,BD,↓reduceIte,jB,enP,jT,PU,AC5,s1,s2]
 generalize ((H0++[ABlk.live 4 [GG]]++[ABlk.live 1 [GH]]).set H0.length (ABlk.live 4 [encV (emV m)])).set (H0++[ABlk.live 4 [GG]]).length (ABlk.live 1 [LZ (XZ m)])=H5 at R0 ⊢
 generalize (H0++[ABlk.live 4 [GG]]).length=tb at R0 ⊢
 generalize H0.length=cb at R0 ⊢
 clear s1 s2 g6 g7 hx5 gm g4 hx hlt
 cases hb:(FX m == 0)
 ·have hne:FX m≠0:=by simpa using hb
  have hr:rnR m (l.map Ss.l)=(zV,FX m):=by unfold rnR; rw[if_neg hne]
  simp -implicitDefEqProofs only[vQ,jR,jJ,jO,jQ,BD,↓reduceIte,jB,enP,jT,bne,hb,VY,stZ R0.g4 rfl]
  rw[XP (ba:=b4) (by simp -implicitDefEqProofs only[AA,↓reduceIte,jB]) (KW (EG R0.g4) rfl)]
  refine⟨?_,R0.hx.set (by omega) _⟩
  unfold rnW
  rw[hr]
  simp -implicitDefEqProofs only[AA,↓reduceIte]
  rw[if_neg hne]
 have h0:FX m=0:=by simpa using hb
 have hr0:rnR m (l.map Ss.l)=AD3 m (emV m) (XZ m) (l.map Ss.l):=by unfold rnR; rw[if_pos h0]
 simp -implicitDefEqProofs only[vQ,jR,jJ,jO,jQ,BD,jU,bne,hb]
 refine DL (fun n F H => ∃ k c t,n+k=l.length∧F 1 = .sl s 1 (l.map TQ)∧F 2 = .ptr h.length 0 0∧F 4 = .ptr b4 0 0∧F 6 = .ptr cb 0 0∧F 7 = .ptr tb 0 0∧F 9 = .int .i64 (k:Nat)∧Rr h H m c t b4 cb tb∧CvOk c∧TkOk t∧rnR m (l.map Ss.l)=AD3 m c t ((l.drop k).map Ss.l)) l.length
  ⟨0,emV m,XZ m,by simp,by simp -implicitDefEqProofs only[vQ,↓reduceIte,jB],by simp -implicitDefEqProofs only[AA,↓reduceIte,jB],by simp -implicitDefEqProofs only[AA,↓reduceIte,jB],by simp -implicitDefEqProofs only[AA,↓reduceIte,jB],by simp -implicitDefEqProofs only[AA,↓reduceIte,jB],by simp -implicitDefEqProofs only[AA,↓reduceIte] <;> rfl,R0,A4L m,A08 m,hr0⟩ ?_
 clear R0 hr0
 rintro n F H ⟨k,c,t,hk,f1,f2,f4,f6,f7,f9,R,hcv,htk,hrun⟩
 simp -implicitDefEqProofs only[vQ,jR,jJ,jO,jQ,BD,↓reduceIte,jB,enP,AWP,f1,f9,List.length_map]
 refine CU (fun hc => ?_) (fun hc => ?_)
 ·have hk':k < l.length:=by simpa using hc
  obtain⟨e1,e2⟩:=he _ (jP hk')
  rw[List.drop_eq_getElem_cons hk',jD] at hrun
  unfold AD3 at hrun
  obtain⟨s1,s2,g6,g7,hx5⟩:=A6D H (ZT m c t l[k].l) (ADZ m c t l[k].l)
  have R5:=R.ext hx5
  have hlt:=CJ R.gt
  have o1:=R.o1; have o2:=R.o2; have o3:=R.o3
  simp -implicitDefEqProofs only[vQ]
  refine ADK (fun F H' => ∃ b10 b11,F 1 = .sl s 1 (l.map TQ)∧F 2 = .ptr h.length 0 0∧F 4 = .ptr b4 0 0∧F 6 = .ptr cb 0 0∧F 7 = .ptr tb 0 0∧F 9 = .int .i64 (k:Nat)∧F 10 = .ptr b10 0 0∧F 11 = .ptr b11 0 0∧F 12 = .int .i64 (RV m c t l[k].l)∧H'[b10]? = some (.live 4 [encV (ZT m c t l[k].l)])∧H'[b11]? = some (.live 1 [LZ (ADZ m c t l[k].l)])∧tb < b10∧tb < b11∧Rr h H' m c t b4 cb tb) (fun _ _=>False) ?_ ?_ (fun _ _ hh=>hh.elim)
  ·refine AF4 [] [0,1,2,3,4,5,6,7,8,9,10,11] 12 13 [14,15,16] (by kernel_rfl) trivial ?_
   simp only[OZ,zD,zB]
   simp -implicitDefEqProofs only[vQ,jR,jJ,jO,jQ,AIO,KP,AUK,↓reduceIte,jB,jM,enP,A4A,f1,f2,f6,f7,f9,ldM R.gm,ldV R.gc,ldT R.gt,DN hk',CY A13 hk',APD]
   refine⟨_,fun x=>AQB G m hm c hcv t htk l[k].l l[k].m _ (by omega) e2,?_⟩
   try simp -implicitDefEqProofs only[vQ,zB,zD,jR,jJ,jO,jQ,KP,↓reduceIte,jB,jM]
   have e10:(H++[ABlk.live 4 [GG]]).length=H.length+1:=by simp
   have e11:(H++[ABlk.live 1 [GH]]).length=H.length+1:=by simp
   refine⟨?_,?_⟩
   ·simp -implicitDefEqProofs only[vQ,jR,jJ,jO,jQ,AIO,QI,↓reduceIte,jB,jM,enP,jT,PU,AC5,s1,s2]
    exact⟨_,_,by trivial,by trivial,by trivial,by trivial,by trivial,by trivial,by trivial,by trivial,by trivial,g6,g7,by omega,by omega,R.ext hx5⟩
   ·have t1:FP Tryz.prog (H++[ABlk.live 1 [GH]]++[ABlk.live 4 [GG]]) 81 (.ptr (H++[ABlk.live 1 [GH]]).length 0 0) (.agg (encV (ZT m c t l[k].l)))=some (H++[ABlk.live 1 [GH]]++[ABlk.live 4 [encV (ZT m c t l[k].l)]]):=by
     rw[stV (CZ _ _) rfl,TJ]
    have t2:=stT (t:=ADZ m c t l[k].l) (CX (x:=ABlk.live 4 [encV (ZT m c t l[k].l)]) (CZ H (ABlk.live 1 [GH]))) rfl
    simp -implicitDefEqProofs only[vQ,jR,jJ,jO,jQ,AIO,QI,↓reduceIte,jB,jM,enP,jT,PU,AC5,t1,t2]
    exact⟨_,_,by trivial,by trivial,by trivial,by trivial,by trivial,by trivial,by trivial,by trivial,by trivial,CV (CZ _ _) (by omega),EG (CX (CZ _ _)),by omega,by omega,R.ext ((((ext.rfl' H).app _).app _).set (Nat.le_refl _) _)⟩
  clear R f1 f2 f4 f6 f7 f9 s1 s2 g6 g7 hx5 R5 hlt
  rintro F H6 ⟨b10,b11,f1,f2,f4,f6,f7,f9,f10,f11,f12,g6,g7,hb10,hb11,R5⟩
  simp -implicitDefEqProofs only[vQ,jR,jJ,jO,jQ,BD,↓reduceIte,enP,f12]
  cases hz:(RV m c t l[k].l == 0)
  ·have hne:RV m c t l[k].l≠0:=by simpa using hz
   rw[if_neg hne] at hrun
   simp -implicitDefEqProofs only[vQ,jR,jJ,jO,jQ,BD,↓reduceIte,jB,enP,jT,bne,hz,VY,f4,stZ R5.g4 rfl]
   rw[XP (ba:=b4) (by simp -implicitDefEqProofs only[AA,↓reduceIte,jB,f4]) (KW (EG R5.g4) rfl)]
   refine⟨?_,R5.hx.set (by omega) _⟩
   unfold rnW
   rw[hrun]
   simp -implicitDefEqProofs only[AA,↓reduceIte]
   rw[if_neg hne,f12]
  ·have hz0:RV m c t l[k].l=0:=by simpa using hz
   rw[if_pos hz0] at hrun
   have R6:=R5.setC (ZT m c t l[k].l)
   have g72:(H6.set cb (.live 4 [encV (ZT m c t l[k].l)]))[b11]? = _:=CV g7 (show b11≠cb by omega)
   have R7:=R6.setT (ADZ m c t l[k].l)
   simp -implicitDefEqProofs only[vQ,jR,jJ,jO,jQ,BD,↓reduceIte,jB,jU,enP,jT,bne,hz,f6,f10,ldV g6,stV R5.gc rfl,f7,f11,ldT g72,stT R6.gt rfl,f9,wrap_succ (show k < 9223372036854775807 by omega)]
   exact⟨n - 1,by omega,k+1,_,_,by omega,by trivial,by trivial,by trivial,by trivial,by trivial,by trivial,R7,AZS _ _ _ _,AZT _ _ _ _,hrun⟩
 ·have hk' : ¬ k < l.length:=by simpa using hc
  rw[List.drop_eq_nil_of_le (by omega)] at hrun
  have hr:rnR m (l.map Ss.l)=(c,0):=hrun
  have o1:=R.o1
  simp -implicitDefEqProofs only[vQ,jR,jJ,jO,jQ,BD,↓reduceIte,jB,enP,jT,f4,f6,ldV R.gc,stV R.g4 rfl]
  rw[XP (ba:=b4) (by simp -implicitDefEqProofs only[AA,↓reduceIte,jB,f4]) (ldV (EG R.g4))]
  refine⟨?_,R.hx.set (by omega) _⟩
  unfold rnW
  rw[hr]
  simp -implicitDefEqProofs only[AA,↓reduceIte]
theorem A1C (c:Cvr)(t:Tk):AAR (cvS (stO c t))=AAR c:=by
 unfold AAR cvS stO
 simp only[SS]
theorem A0W (P:List (List Int)):(isL P).map Is.l=P:=by unfold isL; rw[wF]; exact List.map_id _
theorem A3P (s:St):stO (cvS s) (tkS s)=s:=by
 cases s with
 | mk P C a b ls =>
   unfold stO cvS tkS
   simp only[A0W]
   congr 1
   ·exact SS P
   ·exact SS C
theorem AQ6 (m:Mo) : ∀ (l:List (List Sg)) (c:Cvr) (t:Tk),LC m c=true→ACX m t=true →
  AAR (AD3 m c t l).1=AAR (if(TA m (stO c t) l).1=0 then cvS (TA m (stO c t) l).2 else zV)∧(AD3 m c t l).2=(TA m (stO c t) l).1
 | [],c,t,_,_=>by
   refine⟨?_,rfl⟩
   show AAR c=AAR (if(0:Int)=0 then cvS (stO c t) else zV)
   rw[if_pos rfl,A1C]
 | e :: r,c,t,hc,ht=>by
   have hF:=ADF hc ht
   have h0:=hF.me
   have hE:RV m c t e=VG m (stO c t) e:=by unfold RV; rw[if_pos h0,if_pos (by rw[hc,ht]; rfl)]
   unfold AD3 TA
   rw[hE]
   rcases Classical.em (VG m (stO c t) e=0) with hz | hz
   ·have hnz : ¬ VG m (stO c t) e≠0:=fun q=>q hz
    simp only[if_pos hz,if_neg hnz]
    have hn:=hF.step hz
    have ih:=AQ6 m r (cvS (stp m (stO c t) e)) (tkS (stp m (stO c t) e)) hn.fits hn.trk
    rw[A3P] at ih
    unfold ZT ADZ
    rw[hE,if_pos hz,if_pos hz]
    exact ih
   ·have hnz:VG m (stO c t) e≠0:=hz
    simp only[if_neg hz,if_pos hnz]
    exact⟨trivial,trivial⟩
theorem A4K {m:Mo}(h:FX m=0):ACX m (XZ m)=true:=by
 unfold XZ ACX
 rw[if_pos h]
 simp [h,zLs]
 intro _ _
 rfl
theorem A07 {m:Mo}(h:FX m=0):LC m (emV m)=true:=by
 unfold emV
 rw[if_pos h]
 exact ACN h
theorem A3O {m:Mo}(h:FX m=0):stO (emV m) (XZ m)=zS m:=by
 unfold stO emV XZ zS
 rw[if_pos h,if_pos h]
 congr 1
 ·simp [Y8,zPs,zP,zIs]
 ·simp [Y8,zCs,zC,zIs]
 ·show(zLs m).map Is.l=_
  unfold zLs
  rw[wF]
  exact List.map_const' ..
theorem AIV (m:Mo)(l:List (List Sg)):AAR (rnR m l).1=AAR (UO m l)∧(rnR m l).2=QX m l:=by
 unfold rnR UO QX
 rcases Classical.em (FX m=0) with h | h
 ·rw[if_pos h,if_pos h]
  have:=AQ6 m l (emV m) (XZ m) (A07 h) (A4K h)
  rw[A3O h] at this
  refine⟨?_,this.2⟩
  rw[this.1]
  rcases Classical.em ((TA m (zS m) l).1=0) with h2 | h2
  ·rw[if_pos h2,if_pos ⟨h,h2⟩]
  ·rw[if_neg h2,if_neg (fun q=>h2 q.2)]
 ·rw[if_neg h,if_neg h,if_neg (fun q=>h q.1)]
  exact⟨rfl,rfl⟩
def stK (m:Mo)(l:List (List Sg))(k:Nat):St:=(l.take k).foldl (stp m) (zS m)
theorem ZQ (m:Mo){l:List (List Sg)}{k:Nat}(hk:k < l.length):stK m l (k+1)=stp m (stK m l k) l[k]:=by
 unfold stK
 rw[List.take_succ_eq_append_getElem hk,List.foldl_append]; rfl
structure RunOk (m:Mo) (l:List (List Sg)):Prop where
 me:FX m=0
 eq:(TA m (zS m) l).2=stK m l l.length
 e0:(TA m (zS m) l).1=0
 er : ∀ (k:Nat) (hk:k < l.length),VG m (stK m l k) l[k]=0
theorem RunOk.fit {m:Mo}{l:List (List Sg)}(h:RunOk m l) : ∀ k,k≤l.length→FitS m (stK m l k)
 | 0,_=>AU8 h.me
 | k+1,hk=>by
   rw[ZQ m (by omega)]
   exact(h.fit k (by omega)).step (h.er k (by omega))
structure Bd (k:Nat) (s:St):Prop where
 P : ∀ xs∈s.P,∀ x∈xs,x≤(k:Int)
 C : ∀ xs∈s.C,∀ x∈xs,x≤(k:Int)
 sam:s.sam=(k:Int)
 ill:s.ill≤(k:Int)
theorem AVX (n:Int):rz n≤n+1:=by unfold rz; omega
theorem A5P {n:Int}(h:n < 1099511627776):rz n=n+1:=by unfold rz; omega
theorem Bd.step {m:Mo}{s:St}{k:Nat}(h:Bd k s)(hok:StOk m s)(hk:k < 1099511627776)(env:List Sg):Bd (k+1) (stp m s env):=by
 have hr:=UR m s.ls env hok.ll
 have hpl:=hok.sh.pl
 have hcl:=hok.sh.cl
 have l1:=UK (OM m s.ls env) s.P (by omega)
 have l2:=UM m ((OM m s.ls env).map PtR.hit) s.C hcl
 refine⟨fun xs hx x hxx => ?_,fun xs hx x hxx => ?_,?_,?_⟩
 ·obtain⟨i,hi,rfl⟩:=qL (show xs∈LW (OM m s.ls env) s.P from hx)
  have hi':i < s.P.length:=by omega
  have him:i < m.pts.length:=by omega
  rw[UL _ _ i (by omega) hi'] at hxx
  obtain⟨j,hj,rfl⟩:=qL hxx
  rw[QG] at hj
  have hg:=ZX m s.ls env i him (by rw[hok.ll]; exact him) (by omega)
  have hpe:=hok.sh.pe i hi' him
  rw[← getD_at _ j (by rw[QG]; exact hj),XI j _ _ (by rw[hg]; exact ABF _ _ _) (fun x hx=>by rw[hg] at hx; rw[hpe]; exact AIX _ _ _ x hx)]
  have hb:=h.P _ (jP hi') _ (jP hj)
  rw[getD_at _ j hj]
  have:=AVX (s.P[i][j])
  split <;> omega
 ·obtain⟨i,hi,rfl⟩:=qL (show xs∈NK m ((OM m s.ls env).map PtR.hit) s.C from hx)
  have hi':i < s.C.length:=by omega
  rw[UN m _ _ i (by omega) hi'] at hxx
  obtain⟨j,hj,rfl⟩:=qL hxx
  have hj':=hj
  rw[rowC_len] at hj'
  rw[AD7 m _ _ _ j hj' hj]
  have hb:=h.C _ (jP hi') _ (jP hj')
  have:=AVX (s.C[i][j])
  split <;> omega
 ·show rz s.sam=_
  rw[h.sam,A5P (by omega)]; omega
 ·have:=h.ill
  have h2:=AVX s.ill
  unfold stp
  dsimp only
  split <;> omega
def rsK (m:Mo)(l:List (List Sg))(k:Nat):List PtR:=OM m (stK m l k).ls (l.getD k [])
theorem AIU (m:Mo){l:List (List Sg)}{k:Nat}(hk:k < l.length):rsK m l k=OM m (stK m l k).ls l[k]:=by
 unfold rsK
 rw[zQ,jS hk]; rfl
section
variable {m:Mo} {l:List (List Sg)} (R:RunOk m l)
include R
theorem RunOk.rl {k:Nat}(hk:k < l.length):(rsK m l k).length=m.pts.length:=by
 rw[AIU m hk]
 exact UR m _ _ (R.fit k (by omega)).ll
theorem RunOk.pl (k:Nat)(hk:k≤l.length):(stK m l k).P.length=m.pts.length:=(R.fit k hk).ok.sh.pl
theorem RunOk.cl (k:Nat)(hk:k≤l.length):(stK m l k).C.length=m.crs.length:=(R.fit k hk).ok.sh.cl
theorem RunOk.last {k i:Nat}(hk:k < l.length)(hi:i < m.pts.length):(stK m l (k+1)).ls.getD i []=((rsK m l k)[i]'(by rw[R.rl hk]; exact hi)).next:=by
 have h1:=R.rl hk
 rw[ZQ m hk]
 unfold stp
 dsimp only
 rw[← AIU m hk,zQ,List.getElem?_map,jS (by omega)]; rfl
theorem RunOk.row {k i:Nat}(hk:k < l.length)(hi:i < m.pts.length):(stK m l (k+1)).P.getD i []=rowP ((rsK m l k)[i]'(by rw[R.rl hk]; exact hi)).hit ((stK m l k).P.getD i []):=by
 have h1:=R.rl hk
 have h2:=R.pl k (by omega)
 rw[ZQ m hk]
 unfold stp
 dsimp only
 rw[← AIU m hk]
 have hs:=UK (rsK m l k) (stK m l k).P (by omega)
 rw[zQ,jS (by omega),UL _ _ i (by omega) (by omega),zQ,jS (by omega)]; rfl
theorem RunOk.rowC {k i:Nat}(hk:k < l.length)(hi:i < m.crs.length):(stK m l (k+1)).C.getD i []=Xe.rowC m m.crs[i] ((rsK m l k).map PtR.hit) ((stK m l k).C.getD i []):=by
 have h2:=R.cl k (by omega)
 rw[ZQ m hk]
 unfold stp
 dsimp only
 rw[← AIU m hk]
 have hs:=UM m ((rsK m l k).map PtR.hit) (stK m l k).C h2
 rw[zQ,jS (by omega),UN _ _ _ i hi (by omega),zQ,jS (by omega)]; rfl
end
end Go.Proofs.YtfpagfhhhlljjaaGreatDoor.Xe
namespace Go.Proofs.YtfpagfhhhlljjaaGreatDoor.Xe
open Sm Bins Cov Go.RowKit
open Nat renaming le_trans→qG
theorem A88:Tryz.prog.cellsOf 59=2:=by kernel_rfl
theorem A87:Tryz.prog.cellsOf 60=1:=by kernel_rfl
def A5T (s:Sg)(_:Nat):Prop:=XF s
theorem A8S:Rd Tryz.prog 59 G8 A5T:=by
 intro n
 match n with
 | 0=>exact RdAt.zero
 | 1=>exact AEA Tryz.underlying59
 | n+2 =>
   refine RdAt.map (fun x:ByteArray × Int × Unit=>((x.1,x.2.1):Sg)) (OX Tryz.underlying59 (JK rfl cl9 (fun _=>rfl) (rdStr _) (JK rfl cl3 (fun _=>rfl) (rdI _) TK))) (fun _=>rfl) ?_
   rintro⟨a,b,_⟩ N ⟨_,_,_,_,_,_,_,_,_,h2,_⟩
   exact h2
def A34 (x:Ss)(b:Nat):Prop:=okL A5T x.l b
theorem A8R:Rd Tryz.prog 60 TQ A34:=by
 intro n
 cases n with
 | zero=>exact RdAt.zero
 | succ n=>exact RdAt.map (fun x:SM × List Sg=>(⟨x.1,x.2⟩:Ss)) (OC Tryz.underlying60 A88 (by decide) AH5 (A8S n)) (fun _=>rfl) (fun x b h=>VK h)
theorem AZP {x:Ss}{b:Nat}(h:A34 x b)(hb:b≤1048576):x.l.length≤1048576∧∀ s∈x.l,XF s:=by
 refine⟨qG (okL.length h) hb,fun s hs => ?_⟩
 obtain⟨_,_,h2⟩:=okL.each h s hs
 exact h2
structure Rn where
 m:SM
 l:List Ss
def A5U (x:Rn)(b:Nat):Prop:=okL A34 x.l b
def A6X (z:Rn):List AV := [.sl z.m 1 (z.l.map TQ)]
theorem A9Q:Rd Tryz.prog 38 A6X A5U:=by
 intro n
 cases n with
 | zero=>exact RdAt.zero
 | succ n=>exact RdAt.map (fun x:SM × List Ss=>(⟨x.1,x.2⟩:Rn)) (OC Tryz.underlying38 A87 (by decide) (fun _=>rfl) (A8R n)) (fun _=>rfl) (fun x b h=>VK h)
theorem A8E {x:Rn}{b:Nat}(h:A5U x b)(hb:b≤1048576):x.l.length≤1048576∧∀ y∈x.l,y.l.length≤1048576∧∀ s∈y.l,XF s:=by
 refine⟨qG (okL.length h) hb,fun y hy => ?_⟩
 obtain⟨b1,h1,h2⟩:=okL.each h y hy
 exact AZP h2 (by omega)
end Go.Proofs.YtfpagfhhhlljjaaGreatDoor.Xe
