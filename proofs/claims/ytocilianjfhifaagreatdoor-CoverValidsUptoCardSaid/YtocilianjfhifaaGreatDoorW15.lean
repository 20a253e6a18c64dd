/- Part 15 of the proof (X24, X25, X26); no condition. -/
import Derived.Test.YtocilianjfhifaaGreatDoorW14
set_option linter.unusedVariables false
namespace Go.Proofs.YtocilianjfhifaaGreatDoor.Xe
open Sm Bins Cov Wd Go.RowKit
def stK (m:Mo) (l:List (List Sg)) (k:Nat):St:=(l.take k).foldl (stp m) (zS m)
theorem XN (m:Mo) (l:List (List Sg)):stK m l 0=zS m:=rfl
theorem RS (m:Mo) {l:List (List Sg)} {k:Nat} (hk:k < l.length):stK m l (k+1)=stp m (stK m l k) l[k]:=by
 unfold stK
 rw [List.take_succ_eq_append_getElem hk,List.foldl_append]; rfl
theorem AG4 (m:Mo) : ∀ (l:List (List Sg)) (s:St),(RV m s l).1=0→(RV m s l).2=l.foldl (stp m) s∧∀ (k:Nat) (hk:k < l.length),WJ m ((l.take k).foldl (stp m) s) l[k]=0
 | [],s,_=>⟨rfl,fun k hk=>by simp at hk⟩
 | e :: r,s,h=>by
   have hz:WJ m s e=0:=Classical.byContradiction fun hn=>by
    unfold RV at h
    rw [if_pos hn] at h
    exact hn h
   have hr:RV m s (e :: r)=RV m (stp m s e) r:=by
    show (if WJ m s e≠0 then (WJ m s e,s) else RV m (stp m s e) r)=_
    rw [if_neg (fun q=>q hz)]
   rw [hr] at h ⊢
   obtain ⟨h1,h2⟩:=AG4 m r (stp m s e) h
   refine ⟨h1,fun k hk => ?_⟩
   cases k with
   | zero=>exact hz
   | succ k=>exact h2 k (by simpa using hk)
structure RunOk (m:Mo) (l:List (List Sg)):Prop where
 me:GM m=0
 eq:(RV m (zS m) l).2=stK m l l.length
 e0:(RV m (zS m) l).1=0
 er : ∀ (k:Nat) (hk:k < l.length),WJ m (stK m l k) l[k]=0
theorem AG5 {m:Mo} {l:List (List Sg)} (h:UM m l=0):RunOk m l:=by
 unfold UM at h
 split at h
 ·rename_i hm
  obtain ⟨h1,h2⟩:=AG4 m l (zS m) h
  refine ⟨hm,?_,h,h2⟩
  rw [h1]
  unfold stK
  rw [List.take_length]
 ·rename_i hm; exact absurd h hm
theorem RunOk.fit {m:Mo} {l:List (List Sg)} (h:RunOk m l) : ∀ k,k≤l.length→FitS m (stK m l k)
 | 0,_=>AVF h.me
 | k+1,hk=>by
   rw [RS m (by omega)]
   exact (h.fit k (by omega)).step (h.er k (by omega))
theorem RunOk.val {m:Mo} {l:List (List Sg)} (h:RunOk m l):TY m l=cvS (stK m l l.length):=by
 unfold TY
 rw [if_pos ⟨h.me,h.e0⟩,h.eq]
structure Bd (k:Nat) (s:St):Prop where
 P : ∀ xs∈s.P,∀ x∈xs,x≤(k:Int)
 C : ∀ xs∈s.C,∀ x∈xs,x≤(k:Int)
 sam:s.sam=(k:Int)
 ill:s.ill≤(k:Int)
theorem AOY (n:Int):rz n≤n+1:=by unfold rz; omega
theorem ALB {n:Int} (h:n < 1099511627776):rz n=n+1:=by unfold rz; omega
theorem Bd.step {m:Mo} {s:St} {k:Nat} (h:Bd k s) (hok:StOk m s) (hk:k < 1099511627776) (env:List Sg):Bd (k+1) (stp m s env):=by
 have hr:=UU m s.ls env hok.ll
 have hpl:=hok.sh.pl
 have hcl:=hok.sh.cl
 have l1:=UG (NT m s.ls env) s.P (by omega)
 have l2:=UI m ((NT m s.ls env).map PtR.hit) s.C hcl
 refine ⟨fun xs hx x hxx => ?_,fun xs hx x hxx => ?_,?_,?_⟩
 ·obtain ⟨i,hi,rfl⟩:=List.getElem_of_mem (show xs∈P5 (NT m s.ls env) s.P from hx)
  have hi':i < s.P.length:=by omega
  have him:i < m.pts.length:=by omega
  rw [UH _ _ i (by omega) hi'] at hxx
  obtain ⟨j,hj,rfl⟩:=List.getElem_of_mem hxx
  rw [QI] at hj
  have hg:=XQ m s.ls env i him (by rw [hok.ll]; exact him) (by omega)
  have hpe:=hok.sh.pe i hi' him
  rw [← getD_at _ j (by rw [QI]; exact hj),VM j _ _ (by rw [hg]; exact YT _ _ _) (fun x hx=>by rw [hg] at hx; rw [hpe]; exact AE0 _ _ _ x hx)]
  have hb:=h.P _ (List.getElem_mem hi') _ (List.getElem_mem hj)
  rw [getD_at _ j hj]
  have:=AOY (s.P[i][j])
  split <;> omega
 ·obtain ⟨i,hi,rfl⟩:=List.getElem_of_mem (show xs∈RU m ((NT m s.ls env).map PtR.hit) s.C from hx)
  have hi':i < s.C.length:=by omega
  rw [UJ m _ _ i (by omega) hi'] at hxx
  obtain ⟨j,hj,rfl⟩:=List.getElem_of_mem hxx
  have hj':=hj
  rw [QJ] at hj'
  rw [ABM m _ _ _ j hj' hj]
  have hb:=h.C _ (List.getElem_mem hi') _ (List.getElem_mem hj')
  have:=AOY (s.C[i][j])
  split <;> omega
 ·show rz s.sam=_
  rw [h.sam,ALB (by omega)]; omega
 ·have:=h.ill
  have h2:=AOY s.ill
  unfold stp
  dsimp only
  split <;> omega
theorem AWZ (m:Mo):Bd 0 (zS m):=by
 refine ⟨fun xs hx x hxx => ?_,fun xs hx x hxx => ?_,rfl,Int.le_refl _⟩
 ·obtain ⟨p,_,rfl⟩:=List.mem_map.1 hx
  have:x=0:=List.eq_of_mem_replicate hxx
  subst this; decide
 ·obtain ⟨p,_,rfl⟩:=List.mem_map.1 hx
  have:x=0:=List.eq_of_mem_replicate hxx
  subst this; decide
theorem RunOk.bd {m:Mo} {l:List (List Sg)} (h:RunOk m l) (hl:l.length≤1048576) : ∀ k,k≤l.length→Bd k (stK m l k)
 | 0,_=>AWZ m
 | k+1,hk=>by
   rw [RS m (by omega)]
   exact (h.bd hl k (by omega)).step (h.fit k (by omega)).ok (by omega) _
def rsK (m:Mo) (l:List (List Sg)) (k:Nat):List PtR:=NT m (stK m l k).ls (l.getD k [])
theorem UN (m:Mo) {l:List (List Sg)} {k:Nat} (hk:k < l.length):rsK m l k=NT m (stK m l k).ls l[k]:=by
 unfold rsK
 rw [List.getD_eq_getElem?_getD,List.getElem?_eq_getElem hk]; rfl
section
variable {m:Mo} {l:List (List Sg)} (R:RunOk m l)
include R
theorem RunOk.rl {k:Nat} (hk:k < l.length):(rsK m l k).length=m.pts.length:=by
 rw [UN m hk]
 exact UU m _ _ (R.fit k (by omega)).ll
theorem RunOk.lsl (k:Nat) (hk:k≤l.length):(stK m l k).ls.length=m.pts.length:=(R.fit k hk).ll
theorem RunOk.pl (k:Nat) (hk:k≤l.length):(stK m l k).P.length=m.pts.length:=(R.fit k hk).ok.sh.pl
theorem RunOk.cl (k:Nat) (hk:k≤l.length):(stK m l k).C.length=m.crs.length:=(R.fit k hk).ok.sh.cl
theorem RunOk.at' {k i:Nat} (hk:k < l.length) (hi:i < m.pts.length) : ∃ (h1:i < (rsK m l k).length) (h2:i < (stK m l k).ls.length),(rsK m l k)[i]=ptE m.pts[i] (stK m l k).ls[i] l[k]:=by
 have h1:=R.rl hk
 have h2:=R.lsl k (by omega)
 refine ⟨by omega,by omega,?_⟩
 have:=XQ m (stK m l k).ls l[k] i hi (by omega) (by rw [← UN m hk]; omega)
 rw [← this]
 congr 1
 exact UN m hk
theorem RunOk.err {k i:Nat} (hk:k < l.length) (hi:i < (rsK m l k).length):(rsK m l k)[i].err=0:=by
 have h0:=R.er k hk
 unfold WJ at h0
 rw [← UN m hk] at h0
 exact U4 PtR.err h0 _ (List.getElem_mem hi)
theorem RunOk.last {k i:Nat} (hk:k < l.length) (hi:i < m.pts.length):(stK m l (k+1)).ls.getD i []=((rsK m l k)[i]'(by rw [R.rl hk]; exact hi)).next:=by
 have h1:=R.rl hk
 rw [RS m hk]
 unfold stp
 dsimp only
 rw [← UN m hk,List.getD_eq_getElem?_getD,List.getElem?_map,List.getElem?_eq_getElem (by omega)]; rfl
theorem RunOk.row {k i:Nat} (hk:k < l.length) (hi:i < m.pts.length):(stK m l (k+1)).P.getD i []=rowP ((rsK m l k)[i]'(by rw [R.rl hk]; exact hi)).hit ((stK m l k).P.getD i []):=by
 have h1:=R.rl hk
 have h2:=R.pl k (by omega)
 rw [RS m hk]
 unfold stp
 dsimp only
 rw [← UN m hk]
 have hs:=UG (rsK m l k) (stK m l k).P (by omega)
 rw [List.getD_eq_getElem?_getD,List.getElem?_eq_getElem (by omega),UH _ _ i (by omega) (by omega),List.getD_eq_getElem?_getD,List.getElem?_eq_getElem (by omega)]; rfl
theorem RunOk.rowC {k i:Nat} (hk:k < l.length) (hi:i < m.crs.length):(stK m l (k+1)).C.getD i []=Xe.rowC m m.crs[i] ((rsK m l k).map PtR.hit) ((stK m l k).C.getD i []):=by
 have h2:=R.cl k (by omega)
 rw [RS m hk]
 unfold stp
 dsimp only
 rw [← UN m hk]
 have hs:=UI m ((rsK m l k).map PtR.hit) (stK m l k).C h2
 rw [List.getD_eq_getElem?_getD,List.getElem?_eq_getElem (by omega),UJ _ _ _ i hi (by omega),List.getD_eq_getElem?_getD,List.getElem?_eq_getElem (by omega)]; rfl
theorem RunOk.rowLen {k i:Nat} (hk:k≤l.length) (hi:i < m.pts.length):((stK m l k).P.getD i []).length=m.pts[i].bins.length:=by
 have h2:=R.pl k hk
 rw [List.getD_eq_getElem?_getD,List.getElem?_eq_getElem (by omega)]
 exact (R.fit k hk).ok.sh.pe i (by omega) hi
theorem RunOk.rowCLen {k i:Nat} (hk:k≤l.length) (hi:i < m.crs.length):((stK m l k).C.getD i []).length=II (szs m m.crs[i].pts):=by
 have h2:=R.cl k hk
 rw [List.getD_eq_getElem?_getD,List.getElem?_eq_getElem (by omega)]
 exact (R.fit k hk).ok.sh.ce i (by omega) hi
theorem RunOk.rowBd (hl:l.length≤1048576) {k i:Nat} (hk:k≤l.length) (hi:i < m.pts.length) : ∀ x∈(stK m l k).P.getD i [],0≤x∧x≤(k:Int):=by
 have h2:=R.pl k hk
 rw [List.getD_eq_getElem?_getD,List.getElem?_eq_getElem (by omega)]
 intro x hx
 exact ⟨((R.fit k hk).ok.sh.wp _ (List.getElem_mem (by omega)) x hx).1,(R.bd hl k hk).P _ (List.getElem_mem (by omega)) x hx⟩
theorem RunOk.rowCBd (hl:l.length≤1048576) {k i:Nat} (hk:k≤l.length) (hi:i < m.crs.length) : ∀ x∈(stK m l k).C.getD i [],0≤x∧x≤(k:Int):=by
 have h2:=R.cl k hk
 rw [List.getD_eq_getElem?_getD,List.getElem?_eq_getElem (by omega)]
 intro x hx
 exact ⟨((R.fit k hk).ok.sh.wc _ (List.getElem_mem (by omega)) x hx).1,(R.bd hl k hk).C _ (List.getElem_mem (by omega)) x hx⟩
theorem RunOk.illS (hl:l.length≤1048576) {k:Nat} (hk:k < l.length):(stK m l (k+1)).ill=if (rsK m l k).any PtR.bad=true then (stK m l k).ill+1 else (stK m l k).ill:=by
 have hb:=(R.bd hl k (by omega)).ill
 rw [RS m hk]
 unfold stp
 dsimp only
 rw [← UN m hk]
 split
 ·rw [ALB (by omega)]
 ·rfl
end
def NU (m:Mo) (l:List (List Sg)) (i:Nat):List Bool:=(List.range l.length).map fun k=>((rsK m l k).take i).any PtR.bad
theorem APT (m:Mo) (l:List (List Sg)) (i:Nat):(NU m l i).length=l.length:=by simp [NU]
theorem ANF (m:Mo) (l:List (List Sg)):NU m l 0=List.replicate l.length false:=by
 unfold NU
 refine List.ext_getElem (by simp) fun k h1 h2=>by simp
theorem AHT (m:Mo) (l:List (List Sg)) (i k:Nat) (h:k < (NU m l i).length):(NU m l i)[k]=((rsK m l k).take i).any PtR.bad:=by simp [NU]
end Go.Proofs.YtocilianjfhifaaGreatDoor.Xe
set_option linter.unusedSimpArgs false
set_option maxRecDepth 8000
namespace Go.Proofs.YtocilianjfhifaaGreatDoor.Xe
open Sm Bins Cov Wd Go.RowKit
def NR (b:Bool):List AV := [.bool b]
theorem A0A (h:Hp) (n:Nat) (hn:n≤1048576):IG Tryz.prog true h 84 (.int .i64 (n:Int)) (.int .i64 (n:Int))=some (.own h.length 0 n,h ++ [ABlk.live 1 ((List.replicate n false).map NR)]):=by
 have hz:MF Tryz.prog 4=some [.bool false]:=by kernel_rfl
 have hr:room n 1:=JH (by omega) (by omega)
 unfold IG
 simp only [AZ0,sz4,A0M,hz,Int.toNat_natCast]
 rw [if_pos ⟨by omega,Int.le_refl _,hr,rfl⟩]
 simp [NR]
theorem AR8 {H:Hp} {b:Nat} {xs:List Bool} (hb:H[b]? = some (.live 1 (xs.map NR))) {k:Nat} (hk:k < xs.length) (v:Bool):FX Tryz.prog H 4 (.ptr b k 0) (.bool v)=some (H.set b (.live 1 ((xs.set k v).map NR))):=by
 rw [KC (AUH _) sz4 hb (KL hk) (by simp [NR]),List.map_set]
 rfl
theorem AU2 (xs:List Int):SQ (xs.map encI)=true:=by
 unfold SQ
 rw [List.all_eq_true]
 intro r hr
 obtain ⟨x,_,rfl⟩:=List.mem_map.1 hr
 rfl
theorem AO0 {m:Mo} {l:List (List Sg)} (h:UM m l≠0):TY m l=zV:=by
 unfold TY
 rw [if_neg]
 rintro ⟨h1,h2⟩
 apply h
 unfold UM
 rw [if_pos h1]; exact h2
section
variable (G:Nat→AV)
theorem APW (xs:List Int) (s:SM) (z:Int) (h:Hp) (hn:xs.length≤1048576):PCall (En G) 51 [.sl s 1 (xs.map encI),.int .i64 z] h (.bool (Rk.hasB xs z)):=by
 refine CE (H:=Hint.none) (enM G) Tryz.func51 rfl (by kernel_rfl) (by kernel_rfl) (nLb (by kernel_rfl)) ?_
 show awp _ _ _ _ _ (EJ _ [.tmp 4] _)
 simp -implicitDefEqProofs only [BC,BR,BA,A8,AY,BB,AO,AQ,AL,BD,AX,AC,AU,BH,BM,A7,oGs,bNf,enP]
 refine DT (fun n F H => ∃ k,n+k=xs.length∧F 0 = .sl s 1 (xs.map encI)∧F 1 = .int .i64 z∧F 5 = .int .i64 (k:Nat)∧H=h∧Rk.hasB xs z=Rk.hasB (xs.drop k) z) xs.length ⟨0,by simp,by simp -implicitDefEqProofs only [AA,BF,↓reduceIte,Nat.reduceEqDiff],by simp -implicitDefEqProofs only [AA,BF,BN,↓reduceIte,Nat.reduceEqDiff],by simp -implicitDefEqProofs only [AA,↓reduceIte] <;> rfl,rfl,rfl⟩ ?_
 rintro n F H ⟨k,hk,f0,f1,f5,rfl,hin⟩
 simp -implicitDefEqProofs only [BC,BA,BI,A8,AY,BB,AO,AQ,AL,BD,AX,AC,AA,AZ,BG,BQ,DZ,AB,DC,↓reduceIte,Nat.reduceEqDiff,oGs,bNf,enP,I8,f0,f5,lLm]
 refine CV (fun hc => ?_) (fun hc => ?_)
 ·have hk':k < xs.length:=by simpa using hc
  unfold Rk.hasB at hin
  rw [YF _ _ _ hk'] at hin
  simp -implicitDefEqProofs only [BC,BR,BA,BO,BI,A8,AY,BB,AO,AQ,AL,BD,AX,AC,AA,AZ,BG,BV,BQ,CG,AB,D5,↓reduceIte,Nat.reduceEqDiff,oGs,bNf,enP,JL,f0,f1,f5,D6 hk',DV ag3 hk',TL]
  cases hq:(xs[k] == z)
  ·rw [hq,Bool.false_or] at hin
   simp -implicitDefEqProofs only [BA,BO,A8,EE,EN,DU,AY,BB,AO,AQ,AL,BD,AX,AC,AA,AZ,AU,BH,BG,A7,BQ,AB,DF,↓reduceIte,Nat.reduceEqDiff,oGs,bNf,enP,f5,wrap_succ (show k < 9223372036854775807 by omega)]
   exact ⟨n - 1,by omega,k+1,by omega,by first | trivial | exact f0,by first | trivial | exact f1,by first | trivial | rfl,trivial,hin⟩
  ·rw [hq,Bool.true_or] at hin
   simp -implicitDefEqProofs only [BC,BA,BL,A8,CQ,D8,FI,CJ,CY,AY,BB,AO,AQ,AL,BD,AX,AC,AA,AU,BM,A7,↓reduceIte,oGs,bNf]
   exact ⟨by unfold Rk.hasB; rw [hin],trivial⟩
 ·have hk' : ¬ k < xs.length:=by simpa using hc
  rw [List.drop_eq_nil_of_le (by omega)] at hin
  simp -implicitDefEqProofs only [BC,BA,BL,DJ,A8,D9,EX,EW,CJ,AY,BB,AO,AQ,AL,BD,AX,AC,AA,AU,BM,A7,↓reduceIte,oGs,bNf]
  exact ⟨by rw [hin]; rfl,trivial⟩
set_option maxHeartbeats 8000000 in
theorem AV6 (hG:GOk G) (hT:PH G) (m:Mo) (hm:MoOk m) (l:List Ss) (s:SM) (h:Hp) (hl:l.length≤1048576) (he : ∀ x∈l,x.l.length≤1048576∧∀ s∈x.l,AAL s) :
  PCall (En G) 13 [.agg (EH m),.sl s 1 (l.map KN)] h (.bool true):=by
 refine ACalls.pure0 rfl ?_
 refine CE (H:=hint [] [(142,[136])]) (enM G) Tryz.func13 rfl (by kernel_rfl) (by kernel_rfl) (nLb (by kernel_rfl)) ?_
 show awp _ _ _ _ _ (EJ _ [.tmp 4] _)
 have gm:=CZ h (ABlk.live 2 [EH m])
 have hx:ext h (h ++ [ABlk.live 2 [EH m]]):=(ext.rfl' h).app _
 simp -implicitDefEqProofs only [CX,List.contains_nil,Nat.reduceBEq,BC,BA,A8,AY,BB,AL,BD,AX,AC,AA,AZ,AU,BM,A7,FV,BV,CB,BF,↓reduceIte,Nat.reduceEqDiff,oGs,bNf,enP,Bool.false_eq_true,ES,bxM]
 generalize h ++ [ABlk.live 2 [EH m]]=H0 at gm hx ⊢
 simp -implicitDefEqProofs only [CX,List.contains_nil,Nat.reduceBEq,AY,AL,BD,AX,AC,AA,AZ,BX,BZ,BU,AB,lMc,lMn,lAn,↓reduceIte,oGs,bNf,Bool.false_eq_true,ES,ldM gm]
 refine (Rk.small_some G m hm H0).use ?_
 intro b
 cases b
 ·simp -implicitDefEqProofs only [CX,List.contains_nil,Nat.reduceBEq,BC,BA,BI,A8,CY,AY,BB,BJ,BP,CO,FQ,AL,BD,AX,AC,AA,EP,AZ,AU,BX,BM,BG,CP,DN,G6,BZ,BU,AB,EY,lMn,lAn,↓reduceIte,Nat.reduceEqDiff,oGs,bNf,Bool.false_eq_true,ES]
  refine (LV G hG hT H0).use ?_
  simp -implicitDefEqProofs only [CX,List.contains_nil,Nat.reduceBEq,BL,A8,CQ,CJ,AY,BB,AL,BD,AX,AC,AA,AZ,A7,↓reduceIte,oGs,bNf,Bool.false_eq_true,ES]
  exact ⟨by first | trivial | rfl,hx⟩
 simp -implicitDefEqProofs only [CX,List.contains_nil,Nat.reduceBEq,AY,BJ,BP,CO,EM,AL,BD,AX,AC,AA,AZ,BX,BG,G6,BZ,BU,AB,EY,BF,BN,lMc,lMn,lAn,↓reduceIte,Nat.reduceEqDiff,oGs,bNt,bNf,Bool.false_eq_true,ES]
 refine (AU3 G l s hl H0).use ?_
 intro b
 cases b
 ·simp -implicitDefEqProofs only [CX,List.contains_nil,Nat.reduceBEq,BC,BA,BI,A8,CY,AY,BB,BJ,BP,CO,EM,AL,BD,AX,AC,AA,AZ,AU,BX,BM,CP,DR,G6,BZ,BU,AB,EY,lMn,lAn,↓reduceIte,Nat.reduceEqDiff,oGs,bNf,Bool.false_eq_true,ES]
  refine (LV G hG hT H0).use ?_
  simp -implicitDefEqProofs only [CX,List.contains_nil,Nat.reduceBEq,BL,A8,CQ,CJ,AY,BB,AL,BD,AX,AC,AA,AZ,A7,↓reduceIte,oGs,bNf,Bool.false_eq_true,ES]
  exact ⟨by first | trivial | rfl,hx⟩
 simp -implicitDefEqProofs only [CX,List.contains_nil,Nat.reduceBEq,BC,BA,BO,BI,A8,DU,AY,BB,BJ,BP,CO,EM,AL,BD,AX,AC,AA,AZ,AU,BX,BM,BG,CP,DR,BV,G6,BZ,BU,AB,EY,BF,BN,lMc,lMn,lAn,↓reduceIte,Nat.reduceEqDiff,oGs,bNt,bNf,enP,Bool.false_eq_true,ES,ldM gm]
 refine (ACY G hG hT m hm l s H0 hl (fun x hx=>(he x hx).1)).use ?_
 have gm1:=CW (x:=ABlk.live 4 [FU (TY m (l.map Ss.l))]) gm
 have gc1:=CZ H0 (ABlk.live 4 [FU (TY m (l.map Ss.l))])
 have hx1:=hx.app [ABlk.live 4 [FU (TY m (l.map Ss.l))]]
 have hmlt:=CU gm
 have hlt:H0.length < (H0 ++ [ABlk.live 4 [FU (TY m (l.map Ss.l))]]).length:=by simp
 simp -implicitDefEqProofs only [List.getElem?_cons_zero,List.getElem?_cons_succ,CX,List.contains_nil,Nat.reduceBEq,BC,BA,BI,A8,AY,BB,AL,BD,AX,AC,FC,AA,AZ,AU,BH,BG,A7,FY,ER,BQ,FM,GZ,CB,AB,DX,EG,↓reduceIte,Nat.reduceEqDiff,oGs,bNf,enP,Option.getD_none,Bool.false_eq_true,ES,OO,AK7]
 generalize H0 ++ [ABlk.live 4 [FU (TY m (l.map Ss.l))]]=H1 at gm1 gc1 hx1 hlt ⊢
 generalize H0.length=cb at gc1 hmlt hlt ⊢
 clear gm hx
 have hLl:(l.map Ss.l).length=l.length:=by simp
 have hLk : ∀ (k:Nat) (hk:k < l.length),(l.map Ss.l)[k]'(by rw [hLl]; exact hk)=l[k].l:=fun k hk=>by simp
 cases hb:(UM m (l.map Ss.l) == 0)
 ·have hne:UM m (l.map Ss.l)≠0:=by simpa using hb
  rw [AO0 hne] at gc1
  have l0:D7 Tryz.prog H1 26 (.ptr cb 0 0)=some (.sl .nil 1 []):=by rw [DL OM gc1 (row:=FU zV) rfl]; rfl
  have l2:D7 Tryz.prog H1 3 (.ptr cb 0 2)=some (.int .i64 0):=by rw [DL ag3 gc1 (row:=FU zV) rfl]; rfl
  have c0:(((0:Nat):Int) == 0)=true:=rfl
  have c1:((0:Int) == 0)=true:=rfl
  simp -implicitDefEqProofs only [CX,List.contains_nil,Nat.reduceBEq,BC,BA,CY,AY,BJ,BP,CO,F7,AL,BD,AX,AC,AA,AZ,AU,BX,BH,BM,BG,CP,DN,BV,BQ,BK,DZ,BZ,BU,AB,D5,lMn,lAn,↓reduceIte,Nat.reduceEqDiff,Nat.add_zero,Nat.zero_add,oGs,bNf,enP,QT,MC,W9,Bool.false_eq_true,ES,bne,hb,l0,l2,List.length_nil,c0,c1]
  refine (LV G hG hT H1).use ?_
  simp -implicitDefEqProofs only [CX,List.contains_nil,Nat.reduceBEq,BL,A8,CQ,CJ,AY,BB,AL,BD,AX,AC,AA,AZ,AU,BM,A7,CP,DN,↓reduceIte,Nat.reduceEqDiff,oGs,bNf,Bool.false_eq_true,ES]
  exact ⟨by first | trivial | rfl,hx1⟩
 have R:=AG5 (by simpa using hb:UM m (l.map Ss.l)=0)
 rw [R.val] at gc1
 have hF:=R.fit _ (Nat.le_refl _)
 have hB:=R.bd (by omega) _ (Nat.le_refl _)
 obtain ⟨L,hL⟩ : ∃ L,L=l.map Ss.l:=⟨_,rfl⟩
 rw [← hL] at R hb gc1 hF hB hLl
 have hLk' : ∀ (k:Nat) (hk:k < l.length),L[k]'(by rw [hLl]; exact hk)=l[k].l:=fun k hk=>by subst hL; exact hLk k hk
 rw [← hL]
 clear hLk
 clear hL
 have hcv:CvOk (cvS (stK m L L.length)):=Y8 hF.fits
 have hfp:=AD8 G hG hT m _ hm hcv H1
 rw [hF.fits] at hfp
 have hpl:=R.pl _ (Nat.le_refl _)
 have hsam:(stK m L L.length).sam=((l.length:Nat):Int):=by rw [hB.sam,hLl]
 have gst : ∀ H:Hp,H[cb]? = some (.live 4 [FU (cvS (stK m L L.length))])→D7 Tryz.prog H 26 (.ptr cb 0 0)=some (.sl (nm (L6 (stK m L L.length).P)) 1 ((L6 (stK m L L.length).P).map encL))∧D7 Tryz.prog H 3 (.ptr cb 0 2)=some (.int .i64 ((l.length:Nat):Int))∧D7 Tryz.prog H 3 (.ptr cb 0 3)=some (.int .i64 (stK m L L.length).ill):=fun H g =>
  ⟨by rw [DL OM g (row:=FU (cvS (stK m L L.length))) rfl]; rfl,by rw [DL ag3 g (row:=FU (cvS (stK m L L.length))) rfl,← hsam]; rfl,by rw [DL ag3 g (row:=FU (cvS (stK m L L.length))) rfl]; rfl⟩
 have lm0 : ∀ H:Hp,H[h.length]? = some (.live 2 [EH m])→D7 Tryz.prog H 22 (.ptr h.length 0 0)=some (.sl m.pm 6 (m.pts.map FH)):=fun H g=>by rw [DL TQ g (row:=EH m) rfl,OC]
 obtain ⟨q0,q2,_⟩:=gst H1 gc1
 have hal:(L6 (stK m L L.length).P).length=m.pts.length:=by simp [L6,hpl]
 have c2:(((l.length:Nat):Int) == ((l.length:Nat):Int))=true:=beq_self_eq_true _
 have c3:(((m.pts.length:Nat):Int) == ((m.pts.length:Nat):Int))=true:=beq_self_eq_true _
 simp -implicitDefEqProofs only [CX,List.contains_nil,Nat.reduceBEq,BC,BA,BO,A8,DU,AY,AL,BD,AX,AC,AA,AZ,BX,BV,BZ,BU,AB,lMc,lMn,lAn,↓reduceIte,Nat.reduceEqDiff,oGs,bNt,bNf,enP,Bool.false_eq_true,ES,bne,hb,ldM gm1,ldV gc1]
 refine hfp.use ?_
 simp -implicitDefEqProofs only [CX,List.contains_nil,Nat.reduceBEq,BC,BR,BA,BO,BI,A8,DU,AY,BB,BJ,BP,CO,EM,AL,BD,AX,AC,AA,AZ,AU,BH,BM,BG,A7,CP,DR,BV,BQ,G6,JG,BK,DZ,CB,AB,EG,EY,BF,BN,↓reduceIte,Nat.reduceEqDiff,Nat.add_zero,Nat.zero_add,oGs,bNt,bNf,enP,PM,IC,QT,MC,W9,AHO,Bool.false_eq_true,ES,bne,q2,c2,lLm,q0,hal,lm0 _ gm1,c3,A0A _ _ hl]
 have gm2:=CW (x:=ABlk.live 1 ((List.replicate l.length false).map NR)) gm1
 have gc2:=CW (x:=ABlk.live 1 ((List.replicate l.length false).map NR)) gc1
 have gi2:=CZ H1 (ABlk.live 1 ((List.replicate l.length false).map NR))
 have hx2:=hx1.app [ABlk.live 1 ((List.replicate l.length false).map NR)]
 have e00:List.replicate l.length false=NU m L 0:=by rw [ANF,hLl]
 rw [e00] at gm2 gc2 gi2 hx2 ⊢
 generalize H1 ++ [ABlk.live 1 ((NU m L 0).map NR)]=H2 at gm2 gc2 gi2 hx2 ⊢
 have hib:cb < H1.length:=hlt
 generalize H1.length=ib at gi2 hib ⊢
 clear gm1 gc1 hx1 hfp q0 q2 hlt
 have hil:=fun i=>APT m L i
 refine GV 0 (fun F H=>F 1 = .sl s 1 (l.map KN)∧F 5 = .ptr cb 0 0∧F 7 = .own ib 0 l.length∧H[cb]? = some (.live 4 [FU (cvS (stK m L L.length))])∧H[ib]? = some (.live 1 ((NU m L m.pts.length).map NR))∧ext h H) (fun _ _=>False) ?_ ?_ (fun _ _ hh=>hh.elim)
 ·refine DT (fun n F H => ∃ i,n+i=m.pts.length∧F 1 = .sl s 1 (l.map KN)∧F 2 = .ptr h.length 0 0∧F 5 = .ptr cb 0 0∧F 7 = .own ib 0 l.length∧F 8 = .int .i64 (i:Nat)∧H[h.length]? = some (.live 2 [EH m])∧H[cb]? = some (.live 4 [FU (cvS (stK m L L.length))])∧H[ib]? = some (.live 1 ((NU m L i).map NR))∧ext h H) m.pts.length
   ⟨0,by simp,by simp -implicitDefEqProofs only [AA,BF,BN,↓reduceIte,Nat.reduceEqDiff],by simp -implicitDefEqProofs only [AA,↓reduceIte,Nat.reduceEqDiff],by simp -implicitDefEqProofs only [AA,↓reduceIte,Nat.reduceEqDiff],by simp -implicitDefEqProofs only [AA,↓reduceIte,Nat.reduceEqDiff],by simp -implicitDefEqProofs only [AA,↓reduceIte] <;> rfl,gm2,gc2,gi2,hx2⟩ ?_
  clear gm2 gc2 gi2 hx2
  rintro n F H ⟨i,hi,f1,f2,f5,f7,f8,gm,gc,gi,hx⟩
  simp -implicitDefEqProofs only [CX,List.contains_nil,Nat.reduceBEq,BC,BA,BI,A8,AY,BB,AL,BD,AX,AC,AA,AZ,BG,BV,BQ,BK,DZ,AB,DC,↓reduceIte,Nat.reduceEqDiff,Nat.add_zero,oGs,bNf,enP,PM,IC,Bool.false_eq_true,ES,f2,f8,lm0 _ gm,lLm]
  refine CV (fun hc => ?_) (fun hc => ?_)
  ·have hi':i < m.pts.length:=by simpa using hc
   have hp:=hm.pts _ (List.getElem_mem hi')
   have hbn:=hp.num
   have hilt:=CU gi
   have gma:=CW (x:=ABlk.live 1 ((zeros m.pts[i].bins.length).map encI)) gm
   have gca:=CW (x:=ABlk.live 1 ((zeros m.pts[i].bins.length).map encI)) gc
   have gia:=CW (x:=ABlk.live 1 ((zeros m.pts[i].bins.length).map encI)) gi
   have gba:=CZ H (ABlk.live 1 ((zeros m.pts[i].bins.length).map encI))
   have hxa:=hx.app [ABlk.live 1 ((zeros m.pts[i].bins.length).map encI)]
   have hhl:=hx.le
   simp -implicitDefEqProofs only [CX,List.contains_nil,Nat.reduceBEq,BC,BR,BA,BO,A8,AY,BB,AL,BD,AX,AC,AA,AZ,AU,BH,JE,BG,A7,BV,JG,BK,CG,DZ,CB,AB,↓reduceIte,Nat.reduceEqDiff,Nat.add_zero,Nat.zero_add,oGs,bNf,enP,OJ,IC,OV,H9,Bool.false_eq_true,ES,f2,f8,lm0 _ gm,D6 hi',DV O5 hi',LH,lLm,mkI _ _ (show m.pts[i].bins.length≤1048576 by omega)]
   generalize H ++ [ABlk.live 1 ((zeros m.pts[i].bins.length).map encI)]=Ha at gma gca gia gba hxa ⊢
   generalize H.length=b9 at gba hilt hhl ⊢
   clear gm gc gi hx
   have hz0:(stK m L 0).P.getD i []=zeros m.pts[i].bins.length:=by
    rw [XN,List.getD_eq_getElem?_getD]
    simp [zS,zP,hi']
   have hl0:(stK m L 0).ls.getD i [] = []:=by
    rw [XN,List.getD_eq_getElem?_getD]
    simp only [zS,List.getElem?_replicate]
    split <;> rfl
   rw [← hz0] at gba
   refine GV 2 (fun F H=>F 1 = .sl s 1 (l.map KN)∧F 2 = .ptr h.length 0 0∧F 5 = .ptr cb 0 0∧F 7 = .own ib 0 l.length∧F 8 = .int .i64 (i:Nat)∧F 9 = .own b9 0 m.pts[i].bins.length∧H[h.length]? = some (.live 2 [EH m])∧H[cb]? = some (.live 4 [FU (cvS (stK m L L.length))])∧H[ib]? = some (.live 1 ((NU m L (i+1)).map NR))∧H[b9]? = some (.live 1 (((stK m L L.length).P.getD i []).map encI))∧ext h H) (fun _ _=>False) ?_ ?_ (fun _ _ hh=>hh.elim)
   ·refine DT (fun n F H => ∃ k s' kk,n+k=l.length∧F 1 = .sl s 1 (l.map KN)∧F 2 = .ptr h.length 0 0∧F 5 = .ptr cb 0 0∧F 7 = .own ib 0 l.length∧F 8 = .int .i64 (i:Nat)∧F 9 = .own b9 0 m.pts[i].bins.length∧F 10 = .sl s' kk (((stK m L k).ls.getD i []).map encI)∧(kk=1∨(stK m L k).ls.getD i [] = [])∧F 11 = .int .i64 (k:Nat) ∧
      H[h.length]? = some (.live 2 [EH m])∧H[cb]? = some (.live 4 [FU (cvS (stK m L L.length))])∧H[ib]? = some (.live 1 ((mix (NU m L (i+1)) (NU m L i) k).map NR))∧H[b9]? = some (.live 1 (((stK m L k).P.getD i []).map encI))∧ext h H) l.length
     ⟨0,.nil,0,by simp,by simp -implicitDefEqProofs only [AA,↓reduceIte,Nat.reduceEqDiff,f1],by simp -implicitDefEqProofs only [AA,↓reduceIte,Nat.reduceEqDiff,f2],by simp -implicitDefEqProofs only [AA,↓reduceIte,Nat.reduceEqDiff,f5],by simp -implicitDefEqProofs only [AA,↓reduceIte,Nat.reduceEqDiff,f7],by simp -implicitDefEqProofs only [AA,↓reduceIte,Nat.reduceEqDiff,f8],by simp -implicitDefEqProofs only [AA,↓reduceIte,Nat.reduceEqDiff] <;> rfl,by simp -implicitDefEqProofs only [AA,↓reduceIte,Nat.reduceEqDiff]; rw [hl0]; rfl,.inr hl0,by simp -implicitDefEqProofs only [AA,↓reduceIte] <;> rfl,gma,gca,gia,gba,hxa⟩ ?_
    clear gma gca gia gba hxa f1 f2 f5 f7 f8
    rintro n' F H ⟨k,s',kk,hk,f1,f2,f5,f7,f8,f9,f10,hkk,f11,gm,gc,gi,gb,hx⟩
    simp -implicitDefEqProofs only [CX,List.contains_nil,Nat.reduceBEq,BC,BA,BI,A8,AY,BB,AL,BD,AX,AC,AA,AZ,BG,BQ,DZ,AB,DC,↓reduceIte,Nat.reduceEqDiff,oGs,bNf,enP,AHO,Bool.false_eq_true,ES,f1,f11,lLm]
    refine CV (fun hc => ?_) (fun hc => ?_)
    ·have hk':k < l.length:=by simpa using hc
     have hkL:k < L.length:=by omega
     obtain ⟨a1,a2,a3⟩:=R.at' hkL hi'
     have hlsg:(stK m L k).ls.getD i []=(stK m L k).ls[i]:=by rw [List.getD_eq_getElem?_getD,List.getElem?_eq_getElem a2]; rfl
     have hl7:=(R.fit k (by omega)).ok.l7 _ (List.getElem_mem a2)
     have hcall:=AF9 G hG m.pts[i] hp ((stK m L k).ls.getD i []) s' kk hkk l[k].l l[k].m H (by rw [hlsg]; omega) (by have:=(he _ (List.getElem_mem hk')).1; omega)
     rw [hlsg,← hLk' k hk',← a3,hLk' k hk'] at hcall
     rw [hlsg] at f10 hkk
     have herr:=R.err hkL a1
     have hlast:=R.last hkL hi'
     have hrow:=R.row hkL hi'
     have hrl1:=R.rowLen (k:=k) (by omega) hi'
     have hrl2:=R.rowLen (k:=k+1) (by omega) hi'
     have hbd:=R.rowBd (by omega) (k:=k) (by omega) hi'
     have hnd:(rsK m L k)[i].hit.Nodup:=by rw [a3]; exact YT _ _ _
     have hhl2 : ∀ x∈(rsK m L k)[i].hit,x < m.pts[i].bins.length:=fun x hx=>by rw [a3] at hx; exact AE0 _ _ _ x hx
     have hhn:(rsK m L k)[i].hit.length≤1048576:=by rw [a3]; have:=AAR m.pts[i] (stK m L k).ls[i] L[k]; omega
     have hill:((rsK m L k).take (i+1)).any PtR.bad=(((rsK m L k).take i).any PtR.bad || (rsK m L k)[i].bad):=by rw [List.take_succ_eq_append_getElem a1,List.any_append]; simp
     have hmxl:=mix_len (ys:=NU m L (i+1)) (xs:=NU m L i) (i:=k) (by rw [hil,hil]) (by rw [hil]; omega)
     have hmxg:=SB (ys:=NU m L (i+1)) (xs:=NU m L i) (i:=k) (j:=k) (by rw [hil,hil]) (Nat.le_refl _) (by rw [hil]; omega) (by rw [hmxl,hil]; omega)
     have hmxs:=mix_set (ys:=NU m L (i+1)) (xs:=NU m L i) (i:=k) (by rw [hil,hil]) (by rw [hil]; omega) (by rw [hil]; omega)
     rw [AHT] at hmxg hmxs
     rw [hill] at hmxs
     rw [hil] at hmxl
     unfold ptV at hcall
     generalize (rsK m L k)[i]=r at hcall herr hlast hrow hnd hhl2 hhn hill hmxs
     generalize ((rsK m L k).take i).any PtR.bad=bb at hmxg hmxs
     clear hill
     obtain ⟨ob,hob⟩ : ∃ z,z=(stK m L k).P.getD i []:=⟨_,rfl⟩
     obtain ⟨nb,hnb⟩ : ∃ z,z=(stK m L (k+1)).P.getD i []:=⟨_,rfl⟩
     rw [← hob] at gb hrl1 hbd hrow
     rw [← hnb] at hrl2 hrow
     obtain ⟨mx,hmx⟩ : ∃ z,z=mix (NU m L (i+1)) (NU m L i) k:=⟨_,rfl⟩
     have hmxl:mx.length=L.length:=by rw [hmx]; exact hmxl
     have hmxg : ∀ h:k < mx.length,mx[k]=bb:=by subst hmx; exact fun _=>hmxg
     rw [← hmx] at gi hmxs
     have hgt : ∀ j,nb.getD j 0=if j∈r.hit then rz (ob.getD j 0) else ob.getD j 0:=fun j=>by
      rw [hrow]; exact VM j _ _ hnd (fun x hx=>by rw [hrl1]; exact hhl2 x hx)
     simp -implicitDefEqProofs only [BC,BR,BO,A8]
     refine FB (by kernel_rfl) ?_
     simp -implicitDefEqProofs only [F8,CX,List.contains_nil,EC,DW,EF,FO,FD,EI,EK,KQ,GL,FW,AA,AZ,BX,BV,BK,CG,FM,AB,lMc,lMn,lAn,↓reduceIte,Nat.reduceEqDiff,Nat.reduceAdd,Nat.add_zero,oGs,enP,OJ,IC,AM8,f1,f2,f8,f10,f11,lm0 _ gm,D6 hi',FP YG UF IW hi',D6 hk',DV AKK hk',ACD]
     refine ⟨_,hcall,?_⟩
     simp -implicitDefEqProofs only [F8,List.getElem?_cons_zero,List.getElem?_cons_succ,CX,List.contains_nil,Nat.reduceBEq,EC,DW,FK,EF,JO,KQ,BC,BR,BA,BO,BI,A8,DU,AY,BB,AL,BD,AX,AC,AA,AZ,AU,BH,BG,A7,BQ,FM,GZ,AB,EG,↓reduceIte,Nat.reduceEqDiff,Nat.reduceAdd,oGs,bNt,bNf,enP,Bool.false_eq_true,ES,herr,bne,beq_self_eq_true]
     refine GV 4 (fun F H=>F 1 = .sl s 1 (l.map KN)∧F 2 = .ptr h.length 0 0∧F 5 = .ptr cb 0 0∧F 7 = .own ib 0 l.length∧F 8 = .int .i64 (i:Nat)∧F 9 = .own b9 0 m.pts[i].bins.length∧F 11 = .int .i64 (k:Nat)∧F 13 = .sl (nm r.next) 1 (r.next.map encI)∧F 14 = .bool r.bad ∧
      H[h.length]? = some (.live 2 [EH m])∧H[cb]? = some (.live 4 [FU (cvS (stK m L L.length))])∧H[ib]? = some (.live 1 (mx.map NR))∧H[b9]? = some (.live 1 (nb.map encI))∧ext h H) (fun _ _=>False) ?_ ?_ (fun _ _ hh=>hh.elim)
     ·refine DT (fun n F H => ∃ j,n+j=ob.length∧F 1 = .sl s 1 (l.map KN)∧F 2 = .ptr h.length 0 0∧F 5 = .ptr cb 0 0∧F 7 = .own ib 0 l.length∧F 8 = .int .i64 (i:Nat)∧F 9 = .own b9 0 m.pts[i].bins.length∧F 11 = .int .i64 (k:Nat)∧F 12 = .sl (nm r.hit) 1 (r.hit.map IZ)∧F 13 = .sl (nm r.next) 1 (r.next.map encI)∧F 14 = .bool r.bad∧F 16 = .int .i64 (j:Nat) ∧
        H[h.length]? = some (.live 2 [EH m])∧H[cb]? = some (.live 4 [FU (cvS (stK m L L.length))])∧H[ib]? = some (.live 1 (mx.map NR))∧H[b9]? = some (.live 1 ((mix nb ob j).map encI))∧ext h H) ob.length
       ⟨0,by simp,by simp -implicitDefEqProofs only [AA,↓reduceIte,Nat.reduceEqDiff,f1],by simp -implicitDefEqProofs only [AA,↓reduceIte,Nat.reduceEqDiff,f2],by simp -implicitDefEqProofs only [AA,↓reduceIte,Nat.reduceEqDiff,f5],by simp -implicitDefEqProofs only [AA,↓reduceIte,Nat.reduceEqDiff,f7],by simp -implicitDefEqProofs only [AA,↓reduceIte,Nat.reduceEqDiff,f8],by simp -implicitDefEqProofs only [AA,↓reduceIte,Nat.reduceEqDiff,f9],by simp -implicitDefEqProofs only [AA,↓reduceIte,Nat.reduceEqDiff,f11],by simp -implicitDefEqProofs only [AA,↓reduceIte,Nat.reduceEqDiff] <;> rfl,by simp -implicitDefEqProofs only [AA,↓reduceIte,Nat.reduceEqDiff] <;> rfl,by simp -implicitDefEqProofs only [AA,↓reduceIte,Nat.reduceEqDiff] <;> rfl,by simp -implicitDefEqProofs only [AA,↓reduceIte] <;> rfl,gm,gc,gi,gb,hx⟩ ?_
      clear gm gc gi gb hx f1 f2 f5 f7 f8 f9 f10 f11
      rintro n2 F H ⟨j,hj,f1,f2,f5,f7,f8,f9,f11,f12,f13,f14,f16,gm,gc,gi,gb,hx⟩
      simp -implicitDefEqProofs only [CX,List.contains_nil,Nat.reduceBEq,BC,BA,BI,A8,AY,BB,AL,BD,AX,AC,AA,AZ,BG,BQ,DZ,AB,DC,↓reduceIte,Nat.reduceEqDiff,oGs,bNf,enP,Bool.false_eq_true,ES,f9,f16,I8.2]
      refine CV (fun hc => ?_) (fun hc => ?_)
      ·have hj':j < m.pts[i].bins.length:=by simpa using hc
       have hmixl:=mix_len (ys:=nb) (xs:=ob) (i:=j) (by omega) (by omega)
       have hmixg:=SB (ys:=nb) (xs:=ob) (i:=j) (j:=j) (by omega) (Nat.le_refl _) (by omega) (by omega)
       have hmixs:=mix_set (ys:=nb) (xs:=ob) (i:=j) (by omega) (by omega) (by omega)
       have hg:=hgt j
       rw [getD_at _ j (by omega),getD_at _ j (by omega)] at hg
       have hb2:=hbd _ (List.getElem_mem (show j < ob.length by omega))
       rw [ABR] at f12
       simp -implicitDefEqProofs only [CX,List.contains_nil,Nat.reduceBEq,BC,BR,BA,BO,A8,AY,AL,BD,AX,AC,AA,AZ,BX,BG,BZ,BU,lMc,lMn,lAn,↓reduceIte,Nat.reduceEqDiff,oGs,bNf,Bool.false_eq_true,ES,f12,f16]
       refine (APW G (r.hit.map fun n:Nat=>(n:Int)) _ (j:Nat) H (by rw [lLm]; exact hhn)).use ?_
       rw [U2]
       simp -implicitDefEqProofs only [BI,A8,BB,AC,AA,AZ,↓reduceIte]
       cases hq:decide (j∈r.hit)
       ·rw [if_neg (by simpa using hq)] at hg
        have e:mix nb ob (j+1)=mix nb ob j:=by
         rw [← hmixs,hg,← hmixg,List.set_getElem_self]
        rw [← e] at gb
        simp -implicitDefEqProofs only [CX,List.contains_nil,Nat.reduceBEq,BA,BO,A8,EE,EN,DU,AY,BB,AL,BD,AX,AC,AA,AZ,AU,BH,BG,A7,BQ,AB,DF,↓reduceIte,Nat.reduceEqDiff,oGs,bNf,enP,Bool.false_eq_true,ES,f16,wrap_succ (show j < 9223372036854775807 by omega)]
        exact ⟨n2 - 1,by omega,j+1,by omega,by first | trivial | exact f1,by first | trivial | exact f2,by first | trivial | exact f5,by first | trivial | exact f7,by first | trivial | exact f8,by first | trivial | exact f9,by first | trivial | exact f11,by first | trivial | exact f12 | (rw [ABR]; exact f12),by first | trivial | exact f13,by first | trivial | exact f14,by first | trivial | rfl,gm,gc,gi,gb,hx⟩
       ·rw [if_pos (by simpa using hq),ALB (by omega)] at hg
        have hix:=APP gb (k:=j) (by omega)
        rw [hmixl,hrl1] at hix
        have hld:D7 Tryz.prog H 3 (.ptr b9 j 0)=some (.int .i64 (ob[j]'(by omega))):=by
         rw [DL ag3 gb (KL (by omega)),hmixg]; rfl
        have hw:IntKind.i64.wrap (ob[j]'(by omega)+1)=nb[j]'(by omega):=by rw [hg]; exact wrap_i64 (by omega) (by omega)
        have hst:=AOU gb (k:=j) (by omega) (nb[j]'(by omega))
        rw [hmixs] at hst
        have gm':(H.set b9 (.live 1 ((mix nb ob (j+1)).map encI)))[h.length]? = _:=DK gm (by omega)
        have gc':(H.set b9 (.live 1 ((mix nb ob (j+1)).map encI)))[cb]? = _:=DK gc (by omega)
        have gi':(H.set b9 (.live 1 ((mix nb ob (j+1)).map encI)))[ib]? = _:=DK gi (by omega)
        simp -implicitDefEqProofs only [CX,List.contains_nil,Nat.reduceBEq,BA,A8,EE,EN,CY,AY,BB,AL,BD,AX,AC,FC,AA,AZ,AU,BH,BG,A7,BV,ER,BQ,CG,AB,DX,DF,↓reduceIte,Nat.reduceEqDiff,oGs,bNf,enP,JL,Option.getD_none,Bool.false_eq_true,ES,f9,f16,hix,hld,hw,hst,wrap_succ (show j < 9223372036854775807 by omega)]
        exact ⟨n2 - 1,by omega,j+1,by omega,by first | trivial | exact f1,by first | trivial | exact f2,by first | trivial | exact f5,by first | trivial | exact f7,by first | trivial | exact f8,by first | trivial | exact f9,by first | trivial | exact f11,by first | trivial | exact f12 | (rw [ABR]; exact f12),by first | trivial | exact f13,by first | trivial | exact f14,by first | trivial | rfl,gm',gc',gi',ET gb,hx.set (by omega) _⟩
      ·have hj':j=ob.length:=by
        have : ¬ j < m.pts[i].bins.length:=by simpa using hc
        omega
       rw [hj',Q3 (by omega)] at gb
       simp -implicitDefEqProofs only [DJ,D9,J4,EW,AA,↓reduceIte,Nat.reduceEqDiff]
       exact ⟨f1,f2,f5,f7,f8,f9,f11,f13,f14,gm,gc,gi,gb,hx⟩
     ·clear gm gc gi gb hx f1 f2 f5 f7 f8 f9 f10 f11
      rintro F H ⟨f1,f2,f5,f7,f8,f9,f11,f13,f14,gm,gc,gi,gb,hx⟩
      have hix:JK 1 H (.own ib 0 l.length) (.int .i64 (k:Nat))=some (.ptr ib k 0):=by
       have:=KW (kk := .i64) (off:=0) (len:=l.length) gi hk'
       rw [Nat.zero_add] at this; exact this
      have hld:D7 Tryz.prog H 4 (.ptr ib k 0)=some (.bool bb):=by
       rw [DL ag4 gi (KL (by omega)),hmxg]; rfl
      have hst:=AR8 gi (k:=k) (by omega) (bb || r.bad)
      rw [hmxs] at hst
      have gm':(H.set ib (.live 1 ((mix (NU m L (i+1)) (NU m L i) (k+1)).map NR)))[h.length]? = _:=DK gm (by omega)
      have gc':(H.set ib (.live 1 ((mix (NU m L (i+1)) (NU m L i) (k+1)).map NR)))[cb]? = _:=DK gc (by omega)
      have gb':(H.set ib (.live 1 ((mix (NU m L (i+1)) (NU m L i) (k+1)).map NR)))[b9]? = _:=DK gb (by omega)
      rw [← hlast] at f13
      rw [hnb] at gb'
      simp -implicitDefEqProofs only [CX,List.contains_nil,Nat.reduceBEq,BC,BA,A8,EX,AY,BJ,BP,CO,AL,BD,AX,AC,AA,AZ,BG,BV,CG,AB,↓reduceIte,Nat.reduceEqDiff,oGs,bNf,enP,ATF,Bool.false_eq_true,ES,f7,f11,hix,hld]
      cases bb
      ·rw [Bool.false_or] at hst
       simp -implicitDefEqProofs only [CX,List.contains_nil,Nat.reduceBEq,BA,A8,EE,EN,AY,BB,EM,AL,BD,AX,AC,FC,AA,AZ,AU,BH,BM,BG,A7,CP,DR,ER,BQ,CG,AB,DX,DF,↓reduceIte,Nat.reduceEqDiff,oGs,bNf,enP,ATF,Option.getD_none,Bool.false_eq_true,ES,f14,f7,f11,hix,hst,f13,wrap_succ (show k < 9223372036854775807 by omega)]
       exact ⟨n' - 1,by omega,k+1,_,1,by omega,by first | trivial | exact f1,by first | trivial | exact f2,by first | trivial | exact f5,by first | trivial | exact f7,by first | trivial | exact f8,by first | trivial | exact f9,by first | trivial | rfl,.inl rfl,by first | trivial | rfl,gm',gc',ET gi,gb',hx.set (by omega) _⟩
      ·rw [Bool.true_or] at hst
       simp -implicitDefEqProofs only [CX,List.contains_nil,Nat.reduceBEq,BA,A8,EE,EN,AY,BB,FQ,AL,BD,AX,AC,FC,AA,EP,AZ,AU,BH,BM,BG,A7,CP,DN,ER,BQ,CG,AB,DX,DF,↓reduceIte,Nat.reduceEqDiff,oGs,bNf,enP,ATF,Option.getD_none,Bool.false_eq_true,ES,f14,f7,f11,hix,hst,f13,wrap_succ (show k < 9223372036854775807 by omega)]
       exact ⟨n' - 1,by omega,k+1,_,1,by omega,by first | trivial | exact f1,by first | trivial | exact f2,by first | trivial | exact f5,by first | trivial | exact f7,by first | trivial | exact f8,by first | trivial | exact f9,by first | trivial | rfl,.inl rfl,by first | trivial | rfl,gm',gc',ET gi,gb',hx.set (by omega) _⟩
    ·have hk':k=(NU m L i).length:=by
      have : ¬ k < l.length:=by simpa using hc
      rw [hil]; omega
     have hk2:k=L.length:=by rw [hk',hil]
     rw [hk',Q3 (by rw [hil,hil])] at gi
     rw [hk2] at gb
     simp -implicitDefEqProofs only [DJ,D9,J4,EW,AA,↓reduceIte,Nat.reduceEqDiff]
     exact ⟨f1,f2,f5,f7,f8,f9,gm,gc,gi,gb,hx⟩
   ·clear gma gca gia gba hxa f1 f2 f5 f7 f8
    rintro F H ⟨f1,f2,f5,f7,f8,f9,gm,gc,gi,gb,hx⟩
    have hrl:=R.rowLen (Nat.le_refl L.length) hi'
    have hmnp:=hm.np
    obtain ⟨q0,_,_⟩:=gst _ gc
    have hlen2:((stK m L L.length).P.getD i []).length≤1048576:=by omega
    have hia:i < (L6 (stK m L L.length).P).length:=by omega
    have hpi:(L6 (stK m L L.length).P)[i]=⟨.any,(stK m L L.length).P.getD i []⟩:=by
     rw [List.getD_eq_getElem?_getD,List.getElem?_eq_getElem (by omega)]
     simp [L6]
    have hz:=AHW (i:=136) (off:=0) (len:=((stK m L L.length).P.getD i []).length) gb (by simp) (by rw [List.drop_zero,List.take_of_length_le (by simp)]; exact AU2 _)
    rw [List.drop_zero,List.take_of_length_le (by simp),hrl] at hz
    have hz' : ∀ F:Fr,F 136 = .own b9 0 m.pts[i].bins.length→P8 (F,H) 136=(upd F 136 (.sl .any 1 (((stK m L L.length).P.getD i []).map encI)),H.set b9 ABlk.dead):=fun F hF=>hz F hF
    have gm':(H.set b9 ABlk.dead)[h.length]? = _:=DK gm (by omega)
    have gc':(H.set b9 ABlk.dead)[cb]? = _:=DK gc (by omega)
    have gi':(H.set b9 ABlk.dead)[ib]? = _:=DK gi (by omega)
    simp -implicitDefEqProofs only [CX,List.contains_nil,Nat.reduceBEq,BC,BA,A8,EX,AY,AL,BD,AX,AC,AA,AZ,BX,BG,BV,BK,CG,BZ,BU,AB,lMc,lMn,lAn,↓reduceIte,Nat.reduceEqDiff,Nat.add_zero,oGs,bNf,enP,OX,MC,Bool.false_eq_true,ES,f9,f5,f8,q0,D6 hia,DV L8 hia,hpi,OD,AHX,AL,hz']
    refine (SA G _ _ _ _ hlen2 _).use ?_
    rw [X5]
    simp -implicitDefEqProofs only [CX,List.contains_nil,Nat.reduceBEq,BA,BO,BI,A8,EE,EN,DU,AY,BB,AL,BD,AX,AC,AA,AZ,AU,BH,BG,A7,BQ,G6,AB,DF,EY,↓reduceIte,Nat.reduceEqDiff,oGs,bNt,bNf,enP,Bool.false_eq_true,ES,f8,wrap_succ (show i < 9223372036854775807 by omega)]
    exact ⟨n - 1,by omega,i+1,by omega,by first | trivial | exact f1,by first | trivial | exact f2,by first | trivial | exact f5,by first | trivial | exact f7,by first | trivial | rfl,gm',gc',gi',hx.set (by omega) _⟩
  ·have hi':i=m.pts.length:=by
    have : ¬ i < m.pts.length:=by simpa using hc
    omega
   subst hi'
   simp -implicitDefEqProofs only [DJ,D9,J4,EW,AA,↓reduceIte,Nat.reduceEqDiff]
   exact ⟨f1,f5,f7,gc,gi,hx⟩
 ·clear gm2 gc2 gi2 hx2
  rintro F H ⟨f1,f5,f7,gc,gi,hx⟩
  simp -implicitDefEqProofs only [CX,List.contains_nil,Nat.reduceBEq,BC,BR,BA,A8,EX,AY,BB,AL,BD,AX,AC,AU,BH,A7,↓reduceIte,oGs,bNf,Bool.false_eq_true,ES]
  refine GV 6 (fun F H=>F 5 = .ptr cb 0 0∧F 17 = .int .i64 (stK m L L.length).ill∧H[cb]? = some (.live 4 [FU (cvS (stK m L L.length))])∧ext h H) (fun _ _=>False) ?_ ?_ (fun _ _ hh=>hh.elim)
  ·refine DT (fun n F H => ∃ k,n+k=l.length∧F 1 = .sl s 1 (l.map KN)∧F 5 = .ptr cb 0 0∧F 7 = .own ib 0 l.length∧F 17 = .int .i64 (stK m L k).ill∧F 18 = .int .i64 (k:Nat)∧H[cb]? = some (.live 4 [FU (cvS (stK m L L.length))])∧H[ib]? = some (.live 1 ((NU m L m.pts.length).map NR))∧ext h H) l.length
    ⟨0,by simp,by simp -implicitDefEqProofs only [AA,↓reduceIte,Nat.reduceEqDiff,f1],by simp -implicitDefEqProofs only [AA,↓reduceIte,Nat.reduceEqDiff,f5],by simp -implicitDefEqProofs only [AA,↓reduceIte,Nat.reduceEqDiff,f7],by simp -implicitDefEqProofs only [AA,↓reduceIte,Nat.reduceEqDiff] <;> rfl,by simp -implicitDefEqProofs only [AA,↓reduceIte] <;> rfl,gc,gi,hx⟩ ?_
   clear gc gi hx f1 f5 f7
   rintro n F H ⟨k,hk,f1,f5,f7,f17,f18,gc,gi,hx⟩
   simp -implicitDefEqProofs only [CX,List.contains_nil,Nat.reduceBEq,BC,BA,BI,A8,AY,BB,AL,BD,AX,AC,AA,AZ,BG,BQ,DZ,AB,DC,↓reduceIte,Nat.reduceEqDiff,oGs,bNf,enP,AHO,Bool.false_eq_true,ES,f1,f18,lLm]
   refine CV (fun hc => ?_) (fun hc => ?_)
   ·have hk':k < l.length:=by simpa using hc
    have hkL:k < L.length:=by omega
    have hil2:=hil m.pts.length
    have hgk:=AHT m L m.pts.length k (by omega)
    have hrl:=R.rl hkL
    rw [List.take_of_length_le (by omega)] at hgk
    have hS:=R.illS (by omega) hkL
    have hbk:=R.bd (by omega) k (by omega)
    have hfk:=(R.fit k (by omega)).ok.il
    have hix:JK 1 H (.own ib 0 l.length) (.int .i64 (k:Nat))=some (.ptr ib k 0):=by
     have:=KW (kk := .i64) (off:=0) (len:=l.length) gi hk'
     rw [Nat.zero_add] at this; exact this
    have hld:D7 Tryz.prog H 4 (.ptr ib k 0)=some (.bool ((rsK m L k).any PtR.bad)):=by
     rw [DL ag4 gi (KL (by omega)),hgk]; rfl
    simp -implicitDefEqProofs only [CX,List.contains_nil,Nat.reduceBEq,BC,BR,BA,BO,BI,A8,AY,BB,AL,BD,AX,AC,AA,AZ,BG,BV,CG,AB,↓reduceIte,Nat.reduceEqDiff,oGs,bNf,enP,ATF,Bool.false_eq_true,ES,f7,f18,hix,hld]
    cases hq:(rsK m L k).any PtR.bad
    ·rw [hq,if_neg (by decide)] at hS
     rw [← hS] at f17
     simp -implicitDefEqProofs only [CX,List.contains_nil,Nat.reduceBEq,BA,BO,A8,EE,EN,DU,AY,BB,AL,BD,AX,AC,AA,AZ,AU,BH,BG,A7,BQ,AB,DF,↓reduceIte,Nat.reduceEqDiff,oGs,bNf,enP,Bool.false_eq_true,ES,f18,wrap_succ (show k < 9223372036854775807 by omega)]
     exact ⟨n - 1,by omega,k+1,by omega,by first | trivial | exact f1,by first | trivial | exact f5,by first | trivial | exact f7,by first | trivial | exact f17,by first | trivial | rfl,gc,gi,hx⟩
    ·rw [hq,if_pos rfl] at hS
     have hw:IntKind.i64.wrap ((stK m L k).ill+1)=(stK m L (k+1)).ill:=by
      rw [hS]
      have:=hbk.ill
      exact wrap_i64 (by omega) (by omega)
     simp -implicitDefEqProofs only [CX,List.contains_nil,Nat.reduceBEq,BA,A8,EE,EN,CY,AY,BB,AL,BD,AX,AC,AA,AZ,AU,BH,BG,A7,BQ,AB,DF,↓reduceIte,Nat.reduceEqDiff,oGs,bNf,enP,Bool.false_eq_true,ES,f17,hw,f18,wrap_succ (show k < 9223372036854775807 by omega)]
     exact ⟨n - 1,by omega,k+1,by omega,by first | trivial | exact f1,by first | trivial | exact f5,by first | trivial | exact f7,by first | trivial | rfl,by first | trivial | rfl,gc,gi,hx⟩
   ·have hk':k=L.length:=by
     have : ¬ k < l.length:=by simpa using hc
     omega
    rw [hk'] at f17
    simp -implicitDefEqProofs only [DJ,D9,J4,EW,AA,↓reduceIte,Nat.reduceEqDiff]
    exact ⟨f5,f17,gc,hx⟩
  ·clear gc gi hx f1 f5 f7
   rintro F H ⟨f5,f17,gc,hx⟩
   obtain ⟨_,_,q3⟩:=gst _ gc
   simp -implicitDefEqProofs only [CX,List.contains_nil,Nat.reduceBEq,BC,BA,A8,EX,AY,BJ,BP,CO,F7,AL,BD,AX,AC,AA,AZ,BX,BG,BV,BQ,BK,BZ,BU,AB,D5,lMn,lAn,↓reduceIte,Nat.reduceEqDiff,Nat.zero_add,oGs,bNf,enP,Y5,Bool.false_eq_true,ES,f5,f17,q3,beq_self_eq_true]
   refine (LV G hG hT H).use ?_
   simp -implicitDefEqProofs only [CX,List.contains_nil,Nat.reduceBEq,BL,A8,CJ,AY,BB,AL,BD,AX,AC,AA,AZ,AU,BM,A7,CP,DN,↓reduceIte,Nat.reduceEqDiff,oGs,bNf,Bool.false_eq_true,ES]
   exact ⟨by first | trivial | rfl,hx⟩
end
theorem AR4 (p q j:Nat):NZ [p,q] j = [((j / q % p:Nat):Int),((j % q:Nat):Int)]:=rfl
theorem AO4 (p q:Nat):II [p,q]=p * q:=by
 show 1 * p * q=_
 rw [Nat.one_mul]
theorem AEV {α:Type} {l:List α} (h:l.length=2):l = [l[0],l[1]]:=by
 match l,h with
 | [a,b],_=>rfl
theorem AT2 {m:Mo} {x:Cr} {hits:List (List Nat)} (h2:x.pts.length=2) (hh:Here m x.pts) {p q:Nat} (hp:p=(m.pts[(x.pts[0]).toNat]'(hh.toNat (by omega))).bins.length) (hq:q=(m.pts[(x.pts[1]).toNat]'(hh.toNat (by omega))).bins.length)
  (k0 : ∀ n∈hits.getD (x.pts[0]).toNat [],(kindOf (m.pts[(x.pts[0]).toNat]'(hh.toNat (by omega))) n == 0)=true) (k1 : ∀ n∈hits.getD (x.pts[1]).toNat [],(kindOf (m.pts[(x.pts[1]).toNat]'(hh.toNat (by omega))) n == 0)=true) {j:Nat} (hj:j < p * q) :
  crK m x hits j=(decide (j / q∈hits.getD (x.pts[0]).toNat []) && (decide (j % q∈hits.getD (x.pts[1]).toNat []) && !(x.excl.any fun y=>eqL y.l [((j / q:Nat):Int),((j % q:Nat):Int)]))):=by
 have hb0:=hh.bins (k:=0) (by omega)
 have hb1:=hh.bins (k:=1) (by omega)
 have hq0:0 < q:=by
  rcases Nat.eq_zero_or_pos q with h | h
  ·rw [h] at hj; simp at hj
  ·exact h
 have hs:szs m x.pts = [p,q]:=by
  rw [AEV h2]
  unfold szs
  simp only [lMc,lMn,List.getElem_cons_zero,List.getElem_cons_succ]
  rw [← hb0,← hb1,← hp,← hq]
 have hu:j / q % p=j / q:=Nat.mod_eq_of_lt (Nat.div_lt_of_lt_mul (by rw [Nat.mul_comm]; exact hj))
 have e:NZ (szs m x.pts) j = [((j / q:Nat):Int),((j % q:Nat):Int)]:=by rw [hs,AR4,hu]
 have ha:allB x.pts [((j / q:Nat):Int),((j % q:Nat):Int)] hits=(decide (j / q∈hits.getD (x.pts[0]).toNat []) && decide (j % q∈hits.getD (x.pts[1]).toNat [])):=by
  conv=>lhs; rw [AEV h2]
  show (Rk.hasB _ _ && (Rk.hasB _ _ && true))=_
  rw [Bool.and_true,U2,U2]
 have hk : ∀ (i:Nat) (hi:i < x.pts.length) (n:Nat),UZ m x.pts[i] (n:Int)=kindOf (m.pts[(x.pts[i]).toNat]'(hh.toNat hi)) n:=fun i hi n=>by
  unfold UZ kindOf
  rw [← hh.bins hi,Int.toNat_natCast]
  all_goals (cases (m.pts[(x.pts[i]).toNat]'(hh.toNat hi)).bins[n]? <;> rfl)
 have hkk:OW m x.pts [((j / q:Nat):Int),((j % q:Nat):Int)]=((kindOf (m.pts[(x.pts[0]).toNat]'(hh.toNat (by omega))) (j / q) == 0) && (kindOf (m.pts[(x.pts[1]).toNat]'(hh.toNat (by omega))) (j % q) == 0)):=by
  rw [← hk 0 (by omega),← hk 1 (by omega)]
  conv=>lhs; rw [AEV h2]
  show (_ && (_ && true))=_
  rw [Bool.and_true]
 unfold crK
 rw [e,ha]
 unfold TI
 rw [hkk]
 cases h1:decide (j / q∈hits.getD (x.pts[0]).toNat [])
 ·simp
 ·cases h3:decide (j % q∈hits.getD (x.pts[1]).toNat [])
  ·simp
  ·rw [k0 _ (by simpa using h1),k1 _ (by simpa using h3)]
   simp
section
variable (G:Nat→AV)
theorem AJZ (c:Cr) (a b:Int) (h:Hp) (hn:c.excl.length≤1048576) (hx : ∀ x∈c.excl,x.l.length≤1048576):PCall (En G) 52 [.agg (F9 c),.int .i64 a,.int .i64 b] h (.bool (c.excl.any fun y=>eqL y.l [a,b])):=by
 refine ACalls.pure0 rfl ?_
 refine CE (H:=Hint.none) (enM G) Tryz.func52 rfl (by kernel_rfl) (by kernel_rfl) (nLb (by kernel_rfl)) ?_
 show awp _ _ _ _ _ (EJ _ [.tmp 6] _)
 have gc:=CZ h (ABlk.live 3 [F9 c])
 have hxh:ext h (h ++ [ABlk.live 3 [F9 c]]):=(ext.rfl' h).app _
 simp -implicitDefEqProofs only [BC,BR,BA,A8,AY,BB,AO,AQ,AL,BD,AX,AC,AZ,AU,BH,BM,A7,FV,CB,BF,oGs,bNf,enP,bxC]
 generalize h ++ [ABlk.live 3 [F9 c]]=H at gc hxh ⊢
 have l2:D7 Tryz.prog H 26 (.ptr h.length 0 2)=some (.sl c.xm 1 (c.excl.map encL)):=by rw [DL OM gc (row:=F9 c) rfl,AIA]
 refine DT (fun n F H' => ∃ k,n+k=c.excl.length∧F 1 = .int .i64 a∧F 2 = .int .i64 b∧F 3 = .ptr h.length 0 0∧F 7 = .int .i64 (k:Nat)∧H'=H∧(c.excl.any fun y=>eqL y.l [a,b])=((c.excl.drop k).any fun y=>eqL y.l [a,b])) c.excl.length ⟨0,by simp,by simp -implicitDefEqProofs only [AA,BF,BN,↓reduceIte,Nat.reduceEqDiff],by simp -implicitDefEqProofs only [AA,BF,BN,↓reduceIte,Nat.reduceEqDiff],by simp -implicitDefEqProofs only [AA,↓reduceIte,Nat.reduceEqDiff],by simp -implicitDefEqProofs only [AA,↓reduceIte] <;> rfl,rfl,rfl⟩ ?_
 rintro n F H' ⟨k,hk,f1,f2,f3,f7,rfl,hin⟩
 simp -implicitDefEqProofs only [BC,BA,BI,A8,AY,BB,AO,AQ,AL,BD,AX,AC,AA,AZ,BG,BV,BQ,BK,DZ,AB,DC,↓reduceIte,Nat.reduceEqDiff,Nat.zero_add,oGs,bNf,enP,QT,QO,f3,f7,l2,lLm]
 refine CV (fun hc => ?_) (fun hc => ?_)
 ·have hk':k < c.excl.length:=by simpa using hc
  rw [YF _ _ _ hk'] at hin
  have hcall:=SA G c.excl[k].l [a,b] c.excl[k].m .full (hx _ (List.getElem_mem hk')) H'
  simp -implicitDefEqProofs only [FZ,F6,BC,BR,BA,BO,A8,AY,AO,AQ,AL,BD,AX,AC,AA,AZ,BX,BG,EQ,BV,BK,CG,BZ,BU,CB,AB,lMc,lMn,lAn,↓reduceIte,Nat.reduceEqDiff,Nat.zero_add,oGs,bNf,enP,OX,QO,f1,f2,f3,f7,l2,D6 hk',DV L8 hk',OD,AQW]
  refine PCall.use hcall ?_
  simp -implicitDefEqProofs only [BI,A8,BB,AC,AA,AZ,↓reduceIte]
  cases hq:eqL c.excl[k].l [a,b]
  ·rw [hq,Bool.false_or] at hin
   simp -implicitDefEqProofs only [BA,BO,A8,EE,EN,DU,AY,BB,AO,AQ,AL,BD,AX,AC,AA,AZ,AU,BH,BG,A7,BQ,AB,DF,↓reduceIte,Nat.reduceEqDiff,oGs,bNf,enP,f7,wrap_succ (show k < 9223372036854775807 by omega)]
   exact ⟨n - 1,by omega,k+1,by omega,by first | trivial | exact f1,by first | trivial | exact f2,by first | trivial | exact f3,by first | trivial | rfl,trivial,hin⟩
  ·rw [hq,Bool.true_or] at hin
   simp -implicitDefEqProofs only [BC,BA,BL,A8,CQ,D8,FI,CJ,CY,AY,BB,AO,AQ,AL,BD,AX,AC,AA,AU,BM,A7,↓reduceIte,oGs,bNf]
   exact ⟨by rw [hin],hxh⟩
 ·have hk' : ¬ k < c.excl.length:=by simpa using hc
  rw [List.drop_eq_nil_of_le (by omega)] at hin
  simp -implicitDefEqProofs only [BC,BA,BL,DJ,A8,D9,EX,EW,CJ,AY,BB,AO,AQ,AL,BD,AX,AC,AA,AU,BM,A7,↓reduceIte,oGs,bNf]
  exact ⟨by rw [hin]; rfl,hxh⟩
set_option maxHeartbeats 8000000 in
theorem AU1 (hG:GOk G) (hT:PH G) (m:Mo) (hm:MoOk m) (l:List Ss) (s:SM) (h:Hp) (hl:l.length≤1048576) (he : ∀ x∈l,x.l.length≤1048576∧∀ s∈x.l,AAL s) :
  PCall (En G) 9 [.agg (EH m),.sl s 1 (l.map KN)] h (.bool true):=by
 refine ACalls.pure0 rfl ?_
 refine CE (H:=hint [] [(181,[175])]) (enM G) Tryz.func9 rfl (by kernel_rfl) (by kernel_rfl) (nLb (by kernel_rfl)) ?_
 show awp _ _ _ _ _ (EJ _ [.tmp 4] _)
 have gm:=CZ h (ABlk.live 2 [EH m])
 have hx:ext h (h ++ [ABlk.live 2 [EH m]]):=(ext.rfl' h).app _
 simp -implicitDefEqProofs only [CX,List.contains_nil,Nat.reduceBEq,BC,BA,A8,AY,BB,AL,BD,AX,AC,AA,AZ,AU,BM,A7,FV,BV,CB,BF,↓reduceIte,Nat.reduceEqDiff,oGs,bNf,enP,Bool.false_eq_true,ES,bxM]
 generalize h ++ [ABlk.live 2 [EH m]]=H0 at gm hx ⊢
 simp -implicitDefEqProofs only [CX,List.contains_nil,Nat.reduceBEq,AY,AL,BD,AX,AC,AA,AZ,BX,BZ,BU,AB,lMc,lMn,lAn,↓reduceIte,oGs,bNf,Bool.false_eq_true,ES,ldM gm]
 refine (Rk.small_some G m hm H0).use ?_
 intro b
 cases b
 ·simp -implicitDefEqProofs only [CX,List.contains_nil,Nat.reduceBEq,BC,BA,BI,A8,CY,AY,BB,BJ,BP,CO,FQ,AL,BD,AX,AC,AA,EP,AZ,AU,BX,BM,BG,CP,DN,G6,BZ,BU,AB,EY,lMn,lAn,↓reduceIte,Nat.reduceEqDiff,oGs,bNf,Bool.false_eq_true,ES]
  refine (LV G hG hT H0).use ?_
  simp -implicitDefEqProofs only [CX,List.contains_nil,Nat.reduceBEq,BL,A8,CQ,CJ,AY,BB,AL,BD,AX,AC,AA,AZ,A7,↓reduceIte,oGs,bNf,Bool.false_eq_true,ES]
  exact ⟨by first | trivial | rfl,hx⟩
 simp -implicitDefEqProofs only [CX,List.contains_nil,Nat.reduceBEq,AY,BJ,BP,CO,EM,AL,BD,AX,AC,AA,AZ,BX,BG,G6,BZ,BU,AB,EY,BF,BN,lMc,lMn,lAn,↓reduceIte,Nat.reduceEqDiff,oGs,bNt,bNf,Bool.false_eq_true,ES]
 refine (AU3 G l s hl H0).use ?_
 intro b
 cases b
 ·simp -implicitDefEqProofs only [CX,List.contains_nil,Nat.reduceBEq,BC,BA,BI,A8,CY,AY,BB,BJ,BP,CO,EM,FQ,AL,BD,AX,AC,AA,EP,AZ,AU,BX,BM,BG,CP,DN,DR,G6,BZ,BU,AB,EY,lMn,lAn,↓reduceIte,Nat.reduceEqDiff,oGs,bNf,Bool.false_eq_true,ES]
  refine (LV G hG hT H0).use ?_
  simp -implicitDefEqProofs only [CX,List.contains_nil,Nat.reduceBEq,BL,A8,CQ,CJ,AY,BB,AL,BD,AX,AC,AA,AZ,A7,↓reduceIte,oGs,bNf,Bool.false_eq_true,ES]
  exact ⟨by first | trivial | rfl,hx⟩
 simp -implicitDefEqProofs only [CX,List.contains_nil,Nat.reduceBEq,AY,BJ,BP,CO,EM,AL,BD,AX,AC,AA,AZ,AU,BX,BM,BG,CP,DR,BV,G6,BZ,BU,AB,EY,lMc,lMn,lAn,↓reduceIte,Nat.reduceEqDiff,oGs,bNt,bNf,enP,Bool.false_eq_true,ES,ldM gm]
 refine (QA G m hm H0).use ?_
 cases hme:(GM m == 0)
 ·simp -implicitDefEqProofs only [CX,List.contains_nil,Nat.reduceBEq,BC,BA,BI,A8,CY,AY,BB,BJ,BP,CO,EM,AL,BD,AX,AC,AA,AZ,AU,BX,BH,BM,CP,DR,BQ,BZ,BU,AB,EG,lMn,lAn,↓reduceIte,Nat.reduceEqDiff,oGs,bNf,enP,Bool.false_eq_true,ES,bne,hme]
  refine (LV G hG hT H0).use ?_
  simp -implicitDefEqProofs only [CX,List.contains_nil,Nat.reduceBEq,BL,A8,CQ,CJ,AY,BB,AL,BD,AX,AC,AA,AZ,A7,↓reduceIte,oGs,bNf,Bool.false_eq_true,ES]
  exact ⟨by first | trivial | rfl,hx⟩
 simp -implicitDefEqProofs only [CX,List.contains_nil,Nat.reduceBEq,BC,BA,BO,BI,A8,DU,AY,BB,BJ,BP,CO,EM,AL,BD,AX,AC,AA,AZ,AU,BX,BH,BM,BG,CP,DR,BV,BQ,BZ,BU,AB,EG,BF,BN,lMc,lMn,lAn,↓reduceIte,Nat.reduceEqDiff,oGs,bNt,bNf,enP,Bool.false_eq_true,ES,bne,hme,ldM gm]
 refine (ACY G hG hT m hm l s H0 hl (fun x hx=>(he x hx).1)).use ?_
 have gm1:=CW (x:=ABlk.live 4 [FU (TY m (l.map Ss.l))]) gm
 have gc1:=CZ H0 (ABlk.live 4 [FU (TY m (l.map Ss.l))])
 have hx1:=hx.app [ABlk.live 4 [FU (TY m (l.map Ss.l))]]
 have hmlt:=CU gm
 have hlt:H0.length < (H0 ++ [ABlk.live 4 [FU (TY m (l.map Ss.l))]]).length:=by simp
 simp -implicitDefEqProofs only [List.getElem?_cons_zero,List.getElem?_cons_succ,CX,List.contains_nil,Nat.reduceBEq,BC,BA,A8,AY,BB,BJ,BP,CO,AL,BD,AX,AC,FC,AA,AZ,AU,BH,BG,A7,FY,ER,BQ,FM,GZ,CB,AB,DX,EG,↓reduceIte,Nat.reduceEqDiff,oGs,bNf,enP,Option.getD_none,Bool.false_eq_true,ES,OO,AK7]
 generalize H0 ++ [ABlk.live 4 [FU (TY m (l.map Ss.l))]]=H1 at gm1 gc1 hx1 hlt ⊢
 generalize H0.length=cb at gc1 hmlt hlt ⊢
 clear gm hx
 have hLl:(l.map Ss.l).length=l.length:=by simp
 have hLk : ∀ (k:Nat) (hk:k < l.length),(l.map Ss.l)[k]'(by rw [hLl]; exact hk)=l[k].l:=fun k hk=>by simp
 cases hb:(UM m (l.map Ss.l) == 0)
 ·have hne:UM m (l.map Ss.l)≠0:=by simpa using hb
  simp -implicitDefEqProofs only [CX,List.contains_nil,Nat.reduceBEq,BC,BA,BI,A8,CY,AY,BB,BJ,BP,CO,F7,FQ,AL,BD,AX,AC,AA,EP,AZ,AU,BX,BH,BM,BG,CP,DN,BQ,BZ,BU,AB,EG,lMn,lAn,↓reduceIte,Nat.reduceEqDiff,oGs,bNf,enP,Bool.false_eq_true,ES,bne,hb]
  refine (LV G hG hT H1).use ?_
  simp -implicitDefEqProofs only [CX,List.contains_nil,Nat.reduceBEq,BL,A8,CQ,CJ,AY,BB,AL,BD,AX,AC,AA,AZ,AU,BM,A7,CP,DN,↓reduceIte,Nat.reduceEqDiff,oGs,bNf,Bool.false_eq_true,ES]
  exact ⟨by first | trivial | rfl,hx1⟩
 have R:=AG5 (by simpa using hb:UM m (l.map Ss.l)=0)
 rw [R.val] at gc1
 have hF:=R.fit _ (Nat.le_refl _)
 have hB:=R.bd (by omega) _ (Nat.le_refl _)
 obtain ⟨L,hL⟩ : ∃ L,L=l.map Ss.l:=⟨_,rfl⟩
 rw [← hL] at R hb gc1 hF hB hLl
 have hLk' : ∀ (k:Nat) (hk:k < l.length),L[k]'(by rw [hLl]; exact hk)=l[k].l:=fun k hk=>by subst hL; exact hLk k hk
 rw [← hL]
 clear hLk
 clear hL
 have hcv:CvOk (cvS (stK m L L.length)):=Y8 hF.fits
 have hg:=PD R.me
 have hcl:=R.cl _ (Nat.le_refl _)
 have hmnp:=hm.np
 have hmnc:=hm.nc
 have gst : ∀ H:Hp,H[cb]? = some (.live 4 [FU (cvS (stK m L L.length))])→D7 Tryz.prog H 26 (.ptr cb 0 1)=some (.sl (nm (L6 (stK m L L.length).C)) 1 ((L6 (stK m L L.length).C).map encL)):=fun H g =>
  by rw [DL OM g (row:=FU (cvS (stK m L L.length))) rfl]; rfl
 have lm0 : ∀ H:Hp,H[h.length]? = some (.live 2 [EH m])→D7 Tryz.prog H 22 (.ptr h.length 0 0)=some (.sl m.pm 6 (m.pts.map FH)):=fun H g=>by rw [DL TQ g (row:=EH m) rfl,OC]
 have lm1 : ∀ H:Hp,H[h.length]? = some (.live 2 [EH m])→D7 Tryz.prog H 23 (.ptr h.length 0 1)=some (.sl m.cm 3 (m.crs.map F9)):=fun H g=>by rw [DL ACS g (row:=EH m) rfl,U7]
 have q1:=gst H1 gc1
 have hal:(L6 (stK m L L.length).C).length=m.crs.length:=by simp [L6,hcl]
 have c3:(((m.crs.length:Nat):Int) == ((m.crs.length:Nat):Int))=true:=beq_self_eq_true _
 simp -implicitDefEqProofs only [CX,List.contains_nil,Nat.reduceBEq,BC,BR,BA,BO,BI,A8,DU,AY,BB,BJ,BP,CO,EM,AL,BD,AX,AC,AA,AZ,AU,BH,BM,A7,CP,DR,BV,BQ,BK,DZ,AB,EG,↓reduceIte,Nat.reduceEqDiff,Nat.zero_add,oGs,bNt,bNf,enP,UA,JW,QT,MN,Bool.false_eq_true,ES,bne,hb,q1,lLm,hal,lm1 _ gm1,c3]
 refine GV 0 (fun F H=>ext h H) (fun _ _=>False) ?_ ?_ (fun _ _ hh=>hh.elim)
 rotate_left
 ·rintro F H hx
  simp -implicitDefEqProofs only [CX,List.contains_nil,Nat.reduceBEq,BC,BA,A8,EX,AY,AL,BD,AX,BX,BZ,BU,lMn,lAn,↓reduceIte,oGs,bNf,Bool.false_eq_true,ES]
  refine (LV G hG hT H).use ?_
  simp -implicitDefEqProofs only [CX,List.contains_nil,Nat.reduceBEq,BL,A8,CJ,AY,BB,AL,BD,AX,AC,AA,AZ,A7,↓reduceIte,oGs,bNf,Bool.false_eq_true,ES]
  exact ⟨by first | trivial | rfl,hx⟩
 refine DT (fun n F H => ∃ i,n+i=m.crs.length∧F 1 = .sl s 1 (l.map KN)∧F 2 = .ptr h.length 0 0∧F 5 = .ptr cb 0 0∧F 7 = .int .i64 (i:Nat)∧H[h.length]? = some (.live 2 [EH m])∧H[cb]? = some (.live 4 [FU (cvS (stK m L L.length))])∧ext h H) m.crs.length
  ⟨0,by simp,by simp -implicitDefEqProofs only [AA,BF,BN,↓reduceIte,Nat.reduceEqDiff],by simp -implicitDefEqProofs only [AA,↓reduceIte,Nat.reduceEqDiff],by simp -implicitDefEqProofs only [AA,↓reduceIte,Nat.reduceEqDiff],by simp -implicitDefEqProofs only [AA,↓reduceIte] <;> rfl,gm1,gc1,hx1⟩ ?_
 clear gm1 gc1 hx1 q1
 rintro n F H ⟨i,hi,f1,f2,f5,f7,gm,gc,hx⟩
 simp -implicitDefEqProofs only [CX,List.contains_nil,Nat.reduceBEq,BC,BA,BI,A8,AY,BB,AL,BD,AX,AC,AA,AZ,BG,BV,BQ,BK,DZ,AB,DC,↓reduceIte,Nat.reduceEqDiff,Nat.zero_add,oGs,bNf,enP,UA,JW,Bool.false_eq_true,ES,f2,f7,lm1 _ gm,lLm]
 refine CV (fun hc => ?_) (fun hc => ?_)
 rotate_left
 ·simp -implicitDefEqProofs only [DJ,D9,J4,EW,↓reduceIte]
  exact hx
 have hi':i < m.crs.length:=by simpa using hc
 have hcg:=hg.crs _ (List.getElem_mem hi')
 have hcr:=hm.crs _ (List.getElem_mem hi')
 have hclt:=CU gc
 have hhl:=hx.le
 have gma:=CW (x:=ABlk.live 3 [F9 m.crs[i]]) gm
 have gca:=CW (x:=ABlk.live 3 [F9 m.crs[i]]) gc
 have gxa:=CZ H (ABlk.live 3 [F9 m.crs[i]])
 have hxa:=hx.app [ABlk.live 3 [F9 m.crs[i]]]
 have hla:(H ++ [ABlk.live 3 [F9 m.crs[i]]]).length=H.length+1:=by simp
 simp -implicitDefEqProofs only [CX,List.contains_nil,Nat.reduceBEq,BC,BR,BA,BO,A8,AY,BB,AL,BD,AX,AC,FC,AA,AZ,BG,FY,BV,ER,BK,CG,CB,AB,DX,↓reduceIte,Nat.reduceEqDiff,Nat.zero_add,oGs,bNf,enP,XV,JW,J3,Option.getD_none,Bool.false_eq_true,ES,f2,f7,lm1 _ gm,D6 hi',FP ZI WH JY hi',AN4,AMO _ _ [.str ⟨#[]⟩,.sl .nil 0 [],.sl .nil 0 []] rfl]
 generalize H ++ [ABlk.live 3 [F9 m.crs[i]]]=Ha at gma gca gxa hxa hla ⊢
 have hxlt:cb < H.length:=hclt
 generalize H.length=xb at gxa hxlt hla hclt hhl ⊢
 clear gm gc hx
 have lx1 : ∀ H:Hp,H[xb]? = some (.live 3 [F9 m.crs[i]])→D7 Tryz.prog H 57 (.ptr xb 0 1)=some (.sl m.crs[i].pm 1 (m.crs[i].pts.map encI)):=fun H g=>by rw [DL L8 g (row:=F9 m.crs[i]) rfl,AEG]
 simp -implicitDefEqProofs only [CX,List.contains_nil,Nat.reduceBEq,BI,A8,AY,BB,AL,BD,AX,AC,AA,AZ,AU,BH,BQ,DZ,AB,EG,↓reduceIte,oGs,bNf,enP,I8,Bool.false_eq_true,ES,lx1 _ gxa,lLm]
 cases h2:(((m.crs[i].pts.length:Nat):Int) == 2)
 ·simp -implicitDefEqProofs only [CX,List.contains_nil,Nat.reduceBEq,BA,DJ,A8,D9,EX,EN,CY,AY,BB,AL,BD,AX,AC,AA,AZ,AU,BH,BG,A7,BQ,AB,DF,↓reduceIte,Nat.reduceEqDiff,oGs,bNf,enP,Bool.false_eq_true,ES,bne,h2,f7,wrap_succ (show i < 9223372036854775807 by omega)]
  exact ⟨n - 1,by omega,i+1,by omega,by first | trivial | exact f1,by first | trivial | exact f2,by first | trivial | exact f5,by first | trivial | rfl,gma,gca,hxa⟩
 have h2':m.crs[i].pts.length=2:=by
  have:=eq_of_beq h2
  omega
 simp -implicitDefEqProofs only [BC,BO,A8,DU,bNt,bne,h2]
 have hp0:0 < m.crs[i].pts.length:=by omega
 have hp1:1 < m.crs[i].pts.length:=by omega
 have hh:=hcg.here
 have ht0:=hh.toNat hp0
 have ht1:=hh.toNat hp1
 have j0 : ∀ H:Hp,JK 1 H (.sl m.crs[i].pm 1 (m.crs[i].pts.map encI)) (.int .i64 0)=some (.fptr 1 (m.crs[i].pts.map encI) 0 0):=fun H=>D6 (n:=0) hp0
 have j1 : ∀ H:Hp,JK 1 H (.sl m.crs[i].pm 1 (m.crs[i].pts.map encI)) (.int .i64 1)=some (.fptr 1 (m.crs[i].pts.map encI) 1 0):=fun H=>D6 (n:=1) hp1
 refine FB (by kernel_rfl) ?_
 simp -implicitDefEqProofs only [F8,CX,List.contains_nil,EC,DW,LU,FK,EF,AKZ,FD,LM,EI,EK,BC,A8,AA,AZ,AU,BH,FY,BV,ER,BK,CG,CB,AB,DX,↓reduceIte,Nat.reduceEqDiff,Nat.reduceAdd,Nat.add_zero,Nat.zero_add,oGs,enP,OJ,IC,JL,J3,Option.getD_none,f2,lm0 _ gma,lx1 _ gxa,j0,DV ag3 hp0,TL,hh.ix hp0,FP YG UF IW ht0,AKJ,AI6 _ _ [.str ⟨#[]⟩,.int .i64 0,.int .i64 0,.str ⟨#[]⟩,.sl .nil 0 [],.sl .nil 0 []] rfl]
 obtain ⟨pi,hpi⟩ : ∃ z,z=(m.crs[i].pts[0]).toNat:=⟨_,rfl⟩
 obtain ⟨qi,hqi⟩ : ∃ z,z=(m.crs[i].pts[1]).toNat:=⟨_,rfl⟩
 have htp:pi < m.pts.length:=by omega
 have htq:qi < m.pts.length:=by omega
 have ep:m.pts[(m.crs[i].pts[0]).toNat]=m.pts[pi]:=by congr 1; omega
 have eq:m.pts[(m.crs[i].pts[1]).toNat]=m.pts[qi]:=by congr 1; omega
 rw [ep]
 have gmb:=CW (x:=ABlk.live 6 [FH m.pts[pi]]) gma
 have gcb:=CW (x:=ABlk.live 6 [FH m.pts[pi]]) gca
 have gxb:=CW (x:=ABlk.live 6 [FH m.pts[pi]]) gxa
 have gpb:=CZ Ha (ABlk.live 6 [FH m.pts[pi]])
 have hxb:=hxa.app [ABlk.live 6 [FH m.pts[pi]]]
 have hlb:(Ha ++ [ABlk.live 6 [FH m.pts[pi]]]).length=xb+2:=by simp; omega
 rw [hla] at gpb ⊢
 generalize Ha ++ [ABlk.live 6 [FH m.pts[pi]]]=Hb at gmb gcb gxb gpb hxb hlb ⊢
 clear gma gca gxa hxa
 refine FB (by kernel_rfl) ?_
 simp -implicitDefEqProofs only [F8,CX,List.contains_nil,Nat.reduceBEq,EC,DW,LU,FK,EF,AKZ,FD,LM,EI,EK,BC,BA,A8,AY,AL,BD,AX,AC,AA,AZ,AU,BH,FY,BV,ER,BK,CG,CB,AB,DX,↓reduceIte,Nat.reduceEqDiff,Nat.reduceAdd,Nat.add_zero,Nat.zero_add,oGs,bNf,enP,OJ,IC,H9,JL,J3,Option.getD_none,Bool.false_eq_true,ES,f2,lm0 _ gmb,lx1 _ gxb,j1,DV ag3 hp1,TL,hh.ix hp1,FP YG UF IW ht1,AKJ,AI6 _ _ [.str ⟨#[]⟩,.int .i64 0,.int .i64 0,.str ⟨#[]⟩,.sl .nil 0 [],.sl .nil 0 []] rfl]
 rw [eq]
 have gmc:=CW (x:=ABlk.live 6 [FH m.pts[qi]]) gmb
 have gcc:=CW (x:=ABlk.live 6 [FH m.pts[qi]]) gcb
 have gxc:=CW (x:=ABlk.live 6 [FH m.pts[qi]]) gxb
 have gpc:=CW (x:=ABlk.live 6 [FH m.pts[qi]]) gpb
 have gqc:=CZ Hb (ABlk.live 6 [FH m.pts[qi]])
 have hxc:=hxb.app [ABlk.live 6 [FH m.pts[qi]]]
 have hlc:(Hb ++ [ABlk.live 6 [FH m.pts[qi]]]).length=xb+3:=by simp; omega
 rw [hlb] at gqc ⊢
 generalize Hb ++ [ABlk.live 6 [FH m.pts[qi]]]=Hc at gmc gcc gxc gpc gqc hxc hlc ⊢
 clear gmb gcb gxb gpb hxb
 have hP:=hm.pts _ (List.getElem_mem htp)
 have hQ:=hm.pts _ (List.getElem_mem htq)
 have hfp:=hg.full _ (List.getElem_mem htp)
 have hfq:=hg.full _ (List.getElem_mem htq)
 have l5 : ∀ (H:Hp) (b:Nat) (p:Pt),H[b]? = some (.live 6 [FH p])→D7 Tryz.prog H 54 (.ptr b 0 5)=some (.sl p.bm 4 (p.bins.map GN)):=fun H b p g=>by rw [DL O5 g (row:=FH p) rfl,LH]
 obtain ⟨np,hnp⟩ : ∃ z,z=m.pts[pi].bins.length:=⟨_,rfl⟩
 obtain ⟨nq,hnq⟩ : ∃ z,z=m.pts[qi].bins.length:=⟨_,rfl⟩
 have hpq:np * nq≤4096:=by
  have h1:np≤64:=by omega
  have h2:nq≤64:=by omega
  have:=Nat.mul_le_mul h1 h2
  omega
 have hnq1:0 < nq:=by omega
 have hw:IntKind.i64.wrap ((np:Int) * (nq:Int))=((np * nq:Nat):Int):=by
  rw [← Int.natCast_mul]
  exact LC (by omega)
 have hz0:(stK m L 0).C.getD i []=zeros (np * nq):=by
  rw [XN,List.getD_eq_getElem?_getD]
  have e:szs m m.crs[i].pts = [np,nq]:=by
   rw [AEV h2']
   unfold szs
   simp only [lMc,lMn,List.getElem_cons_zero,List.getElem_cons_succ]
   rw [← hh.bins hp0,← hh.bins hp1,ep,eq,← hnp,← hnq]
  simp only [zS,zC,List.getElem?_map,List.getElem?_eq_getElem hi',Option.map_some,oGs]
  rw [e,AO4]
 have hpr : ∀ k,k≤L.length→((stK m L k).C.getD i []).length=np * nq:=fun k hk=>by
  have h1:=R.rowCLen hk hi'
  have h3:=R.rowCLen (k:=0) (by omega) hi'
  rw [hz0,YK] at h3
  omega
 simp -implicitDefEqProofs only [CX,List.contains_nil,Nat.reduceBEq,BC,BR,BA,A8,AY,BB,AL,BD,AX,AC,AA,AZ,AU,BH,JE,A7,BV,BQ,JG,BK,DZ,CB,AB,Q7,↓reduceIte,Nat.reduceEqDiff,Nat.zero_add,oGs,bNf,enP,OV,H9,Bool.false_eq_true,ES,l5 _ _ _ gpc,l5 _ _ _ gqc,lLm,← hnp,← hnq,hw,mkI _ _ (show np * nq≤1048576 by omega)]
 have gmd:=CW (x:=ABlk.live 1 ((zeros (np * nq)).map encI)) gmc
 have gcd:=CW (x:=ABlk.live 1 ((zeros (np * nq)).map encI)) gcc
 have gxd:=CW (x:=ABlk.live 1 ((zeros (np * nq)).map encI)) gxc
 have gpd:=CW (x:=ABlk.live 1 ((zeros (np * nq)).map encI)) gpc
 have gqd:=CW (x:=ABlk.live 1 ((zeros (np * nq)).map encI)) gqc
 have gbd:=CZ Hc (ABlk.live 1 ((zeros (np * nq)).map encI))
 have hxd:=hxc.app [ABlk.live 1 ((zeros (np * nq)).map encI)]
 rw [hlc] at gbd ⊢
 generalize Hc ++ [ABlk.live 1 ((zeros (np * nq)).map encI)]=Hd at gmd gcd gxd gpd gqd gbd hxd ⊢
 clear gmc gcc gxc gpc gqc hxc
 rw [← hz0] at gbd
 have hl0 : ∀ i:Nat,(stK m L 0).ls.getD i [] = []:=fun i=>by
  rw [XN,List.getD_eq_getElem?_getD]
  simp only [zS,List.getElem?_replicate]
  split <;> rfl
 refine GV 2 (fun F H=>F 1 = .sl s 1 (l.map KN)∧F 2 = .ptr h.length 0 0∧F 5 = .ptr cb 0 0∧F 7 = .int .i64 (i:Nat)∧F 11 = .own (xb+3) 0 (np * nq)∧H[h.length]? = some (.live 2 [EH m])∧H[cb]? = some (.live 4 [FU (cvS (stK m L L.length))])∧H[xb+3]? = some (.live 1 (((stK m L L.length).C.getD i []).map encI))∧ext h H) (fun _ _=>False) ?_ ?_ (fun _ _ hh=>hh.elim)
 ·refine DT (fun n F H => ∃ k sa ka sb kb,n+k=l.length∧F 1 = .sl s 1 (l.map KN)∧F 2 = .ptr h.length 0 0∧F 5 = .ptr cb 0 0∧F 7 = .int .i64 (i:Nat)∧F 8 = .ptr xb 0 0∧F 9 = .ptr (xb+1) 0 0∧F 10 = .ptr (xb+2) 0 0∧F 11 = .own (xb+3) 0 (np * nq) ∧
    F 12 = .sl sa ka (((stK m L k).ls.getD pi []).map encI)∧(ka=1∨(stK m L k).ls.getD pi [] = [])∧F 13 = .sl sb kb (((stK m L k).ls.getD qi []).map encI)∧(kb=1∨(stK m L k).ls.getD qi [] = [])∧F 14 = .int .i64 (k:Nat) ∧
    H[h.length]? = some (.live 2 [EH m])∧H[cb]? = some (.live 4 [FU (cvS (stK m L L.length))])∧H[xb]? = some (.live 3 [F9 m.crs[i]])∧H[xb+1]? = some (.live 6 [FH m.pts[pi]])∧H[xb+2]? = some (.live 6 [FH m.pts[qi]])∧H[xb+3]? = some (.live 1 (((stK m L k).C.getD i []).map encI))∧ext h H) l.length
   ⟨0,.nil,0,.nil,0,by simp,by simp -implicitDefEqProofs only [AA,↓reduceIte,Nat.reduceEqDiff,f1],by simp -implicitDefEqProofs only [AA,↓reduceIte,Nat.reduceEqDiff,f2],by simp -implicitDefEqProofs only [AA,↓reduceIte,Nat.reduceEqDiff,f5],by simp -implicitDefEqProofs only [AA,↓reduceIte,Nat.reduceEqDiff,f7],by simp -implicitDefEqProofs only [AA,↓reduceIte,Nat.reduceEqDiff] <;> rfl,by simp -implicitDefEqProofs only [AA,↓reduceIte,Nat.reduceEqDiff] <;> rfl,by simp -implicitDefEqProofs only [AA,↓reduceIte,Nat.reduceEqDiff] <;> rfl,by simp -implicitDefEqProofs only [AA,↓reduceIte,Nat.reduceEqDiff] <;> rfl,by simp -implicitDefEqProofs only [AA,↓reduceIte,Nat.reduceEqDiff]; rw [hl0]; rfl,.inr (hl0 _),by simp -implicitDefEqProofs only [AA,↓reduceIte,Nat.reduceEqDiff]; rw [hl0]; rfl,.inr (hl0 _),by simp -implicitDefEqProofs only [AA,↓reduceIte] <;> rfl,gmd,gcd,gxd,gpd,gqd,gbd,hxd⟩ ?_
  clear gmd gcd gxd gpd gqd gbd hxd f1 f2 f5 f7
  rintro n' F H ⟨k,sa,ka,sb,kb,hk,f1,f2,f5,f7,f8,f9,f10,f11,f12,hka,f13,hkb,f14,gm,gc,gx,gp,gq,gb,hx⟩
  simp -implicitDefEqProofs only [CX,List.contains_nil,Nat.reduceBEq,BC,BA,BI,A8,AY,BB,AL,BD,AX,AC,AA,AZ,BG,BQ,DZ,AB,DC,↓reduceIte,Nat.reduceEqDiff,oGs,bNf,enP,AHO,Bool.false_eq_true,ES,f1,f14,lLm]
  refine CV (fun hc => ?_) (fun hc => ?_)
  rotate_left
  ·have hk2:k=L.length:=by
    have : ¬ k < l.length:=by simpa using hc
    omega
   rw [hk2] at gb
   simp -implicitDefEqProofs only [DJ,D9,J4,EW,AA,↓reduceIte,Nat.reduceEqDiff]
   exact ⟨f1,f2,f5,f7,f11,gm,gc,gb,hx⟩
  have hk':k < l.length:=by simpa using hc
  have hkL:k < L.length:=by omega
  have point : ∀ (i:Nat) (hi':i < m.pts.length) (s':SM) (kk:Nat),(kk=1∨(stK m L k).ls.getD i [] = [])→∃ r,(rsK m L k)[i]? = some r∧PCall (En G) 43 [.agg (FH m.pts[i]),.sl s' kk (((stK m L k).ls.getD i []).map encI),.sl l[k].m 2 (l[k].l.map GU)] H (.tup [.sl (nm r.hit) 1 (r.hit.map IZ),.sl (nm r.next) 1 (r.next.map encI),.bool r.bad,.int .i64 r.err]) ∧
    (stK m L (k+1)).ls.getD i []=r.next∧r.hit.length≤1048576∧∀ x∈r.hit,(kindOf m.pts[i] x == 0)=true:=fun i hi' s' kk hkk=>by
   obtain ⟨a1,a2,a3⟩:=R.at' hkL hi'
   have hlsg:(stK m L k).ls.getD i []=(stK m L k).ls[i]:=by rw [List.getD_eq_getElem?_getD,List.getElem?_eq_getElem a2]; rfl
   have hl7:=(R.fit k (by omega)).ok.l7 _ (List.getElem_mem a2)
   have hp:=hm.pts _ (List.getElem_mem hi')
   have hcall:=AF9 G hG m.pts[i] hp ((stK m L k).ls.getD i []) s' kk hkk l[k].l l[k].m H (by rw [hlsg]; omega) (by have:=(he _ (List.getElem_mem hk')).1; omega)
   rw [hlsg,← hLk' k hk',← a3,hLk' k hk',← hlsg] at hcall
   refine ⟨_,List.getElem?_eq_getElem a1,hcall,R.last hkL hi',?_,?_⟩
   ·rw [a3]; have:=AAR m.pts[i] (stK m L k).ls[i] L[k]; have:=hp.num; omega
   ·rw [a3]; exact AHB _ _ _
  obtain ⟨r1,hr1,call1,hn1,hh1,hk1⟩:=point pi htp sa ka hka
  obtain ⟨r2,hr2,call2,hn2,hh2,hk2⟩:=point qi htq sb kb hkb
  have hrow:=R.rowC hkL hi'
  have hrl1:=hpr k (by omega)
  have hrl2:=hpr (k+1) (by omega)
  have hbd:=R.rowCBd (by omega) (k:=k) (by omega) hi'
  have hgp:((rsK m L k).map PtR.hit).getD pi []=r1.hit:=by rw [List.getD_eq_getElem?_getD,List.getElem?_map,hr1]; rfl
  have hgq:((rsK m L k).map PtR.hit).getD qi []=r2.hit:=by rw [List.getD_eq_getElem?_getD,List.getElem?_map,hr2]; rfl
  have htwo : ∀ j,j < np * nq→crK m m.crs[i] ((rsK m L k).map PtR.hit) j=(decide (j / nq∈r1.hit) && (decide (j % nq∈r2.hit) && !(m.crs[i].excl.any fun y=>eqL y.l [((j / nq:Nat):Int),((j % nq:Nat):Int)]))):=fun j hj=>by
   have:=AT2 (hits:=(rsK m L k).map PtR.hit) h2' hh (p:=np) (q:=nq) (by rw [ep]; exact hnp) (by rw [eq]; exact hnq) (by rw [ep,← hpi,hgp]; exact hk1) (by rw [eq,← hqi,hgq]; exact hk2) hj
   rw [← hpi,← hqi,hgp,hgq] at this
   exact this
  obtain ⟨ob,hob⟩ : ∃ z,z=(stK m L k).C.getD i []:=⟨_,rfl⟩
  obtain ⟨nb,hnb⟩ : ∃ z,z=(stK m L (k+1)).C.getD i []:=⟨_,rfl⟩
  rw [← hob] at gb hrl1 hbd hrow
  rw [← hnb] at hrl2 hrow
  have hgt : ∀ j,j < np * nq→nb.getD j 0=if (decide (j / nq∈r1.hit) && (decide (j % nq∈r2.hit) && !(m.crs[i].excl.any fun y=>eqL y.l [((j / nq:Nat):Int),((j % nq:Nat):Int)])))=true then rz (ob.getD j 0) else ob.getD j 0:=fun j hj=>by
   rw [← htwo j hj,hrow]
   exact ADS m m.crs[i] _ ob j (by omega)
  clear hrow htwo hgp hgq point
  simp -implicitDefEqProofs only [BC,BR,BO,A8]
  refine FB (by kernel_rfl) ?_
  simp -implicitDefEqProofs only [F8,CX,List.contains_nil,EC,DW,EF,FO,FD,EK,KQ,GL,FW,AA,AZ,BX,BV,CG,FM,AB,lMc,lMn,lAn,↓reduceIte,Nat.reduceEqDiff,Nat.reduceAdd,oGs,enP,AM8,f1,f9,f12,f14,ldP gp,D6 hk',DV AKK hk',ACD]
  refine ⟨_,call1,?_⟩
  simp -implicitDefEqProofs only [F8,List.getElem?_cons_zero,List.getElem?_cons_succ,CX,List.contains_nil,EC,DW,FK,EF,JO,KQ,BC,A8,AA,AZ,FM,GZ,AB,↓reduceIte,Nat.reduceEqDiff,Nat.reduceAdd,oGs]
  refine FB (by kernel_rfl) ?_
  simp -implicitDefEqProofs only [F8,CX,List.contains_nil,EC,DW,EF,FO,FD,EK,KQ,GL,FW,AA,AZ,BX,BV,CG,FM,AB,lMc,lMn,lAn,↓reduceIte,Nat.reduceEqDiff,Nat.reduceAdd,oGs,enP,AM8,f1,f10,f13,f14,ldP gq,D6 hk',DV AKK hk',ACD]
  refine ⟨_,call2,?_⟩
  simp -implicitDefEqProofs only [F8,List.getElem?_cons_zero,List.getElem?_cons_succ,CX,List.contains_nil,Nat.reduceBEq,EC,DW,FK,EF,JO,KQ,BC,BR,BA,A8,AY,BB,AL,BD,AX,AC,AA,AZ,AU,BH,A7,FM,GZ,AB,↓reduceIte,Nat.reduceEqDiff,Nat.reduceAdd,oGs,bNf,Bool.false_eq_true,ES]
  refine GV 4 (fun F H=>F 1 = .sl s 1 (l.map KN)∧F 2 = .ptr h.length 0 0∧F 5 = .ptr cb 0 0∧F 7 = .int .i64 (i:Nat)∧F 8 = .ptr xb 0 0∧F 9 = .ptr (xb+1) 0 0∧F 10 = .ptr (xb+2) 0 0∧F 11 = .own (xb+3) 0 (np * nq)∧F 14 = .int .i64 (k:Nat)∧F 16 = .sl (nm r1.next) 1 (r1.next.map encI)∧F 20 = .sl (nm r2.next) 1 (r2.next.map encI) ∧
   H[h.length]? = some (.live 2 [EH m])∧H[cb]? = some (.live 4 [FU (cvS (stK m L L.length))])∧H[xb]? = some (.live 3 [F9 m.crs[i]])∧H[xb+1]? = some (.live 6 [FH m.pts[pi]])∧H[xb+2]? = some (.live 6 [FH m.pts[qi]])∧H[xb+3]? = some (.live 1 (nb.map encI))∧ext h H) (fun _ _=>False) ?_ ?_ (fun _ _ hh=>hh.elim)
  ·refine DT (fun n F H => ∃ j,n+j=ob.length∧F 1 = .sl s 1 (l.map KN)∧F 2 = .ptr h.length 0 0∧F 5 = .ptr cb 0 0∧F 7 = .int .i64 (i:Nat)∧F 8 = .ptr xb 0 0∧F 9 = .ptr (xb+1) 0 0∧F 10 = .ptr (xb+2) 0 0∧F 11 = .own (xb+3) 0 (np * nq)∧F 14 = .int .i64 (k:Nat)∧F 15 = .sl (nm r1.hit) 1 (r1.hit.map IZ)∧F 16 = .sl (nm r1.next) 1 (r1.next.map encI)∧F 19 = .sl (nm r2.hit) 1 (r2.hit.map IZ)∧F 20 = .sl (nm r2.next) 1 (r2.next.map encI)∧F 23 = .int .i64 (j:Nat) ∧
     H[h.length]? = some (.live 2 [EH m])∧H[cb]? = some (.live 4 [FU (cvS (stK m L L.length))])∧H[xb]? = some (.live 3 [F9 m.crs[i]])∧H[xb+1]? = some (.live 6 [FH m.pts[pi]])∧H[xb+2]? = some (.live 6 [FH m.pts[qi]])∧H[xb+3]? = some (.live 1 ((mix nb ob j).map encI))∧ext h H) ob.length
    ⟨0,by simp,by simp -implicitDefEqProofs only [AA,↓reduceIte,Nat.reduceEqDiff,f1],by simp -implicitDefEqProofs only [AA,↓reduceIte,Nat.reduceEqDiff,f2],by simp -implicitDefEqProofs only [AA,↓reduceIte,Nat.reduceEqDiff,f5],by simp -implicitDefEqProofs only [AA,↓reduceIte,Nat.reduceEqDiff,f7],by simp -implicitDefEqProofs only [AA,↓reduceIte,Nat.reduceEqDiff,f8],by simp -implicitDefEqProofs only [AA,↓reduceIte,Nat.reduceEqDiff,f9],by simp -implicitDefEqProofs only [AA,↓reduceIte,Nat.reduceEqDiff,f10],by simp -implicitDefEqProofs only [AA,↓reduceIte,Nat.reduceEqDiff,f11],by simp -implicitDefEqProofs only [AA,↓reduceIte,Nat.reduceEqDiff,f14],by simp -implicitDefEqProofs only [AA,↓reduceIte,Nat.reduceEqDiff] <;> rfl,by simp -implicitDefEqProofs only [AA,↓reduceIte,Nat.reduceEqDiff] <;> rfl,by simp -implicitDefEqProofs only [AA,↓reduceIte,Nat.reduceEqDiff] <;> rfl,by simp -implicitDefEqProofs only [AA,↓reduceIte,Nat.reduceEqDiff] <;> rfl,by simp -implicitDefEqProofs only [AA,↓reduceIte] <;> rfl,gm,gc,gx,gp,gq,gb,hx⟩ ?_
   clear gm gc gx gp gq gb hx f1 f2 f5 f7 f8 f9 f10 f11 f12 f13 f14 call1 call2
   rintro n2 F H ⟨j,hj,f1,f2,f5,f7,f8,f9,f10,f11,f14,f15,f16,f19,f20,f23,gm,gc,gx,gp,gq,gb,hx⟩
   simp -implicitDefEqProofs only [CX,List.contains_nil,Nat.reduceBEq,BC,BA,BI,A8,AY,BB,AL,BD,AX,AC,AA,AZ,BG,BQ,DZ,AB,DC,↓reduceIte,Nat.reduceEqDiff,oGs,bNf,enP,Bool.false_eq_true,ES,f11,f23,I8.2]
   refine CV (fun hc => ?_) (fun hc => ?_)
   rotate_left
   ·have hj':j=ob.length:=by
     have : ¬ j < np * nq:=fun q=>of_decide_eq_false hc (Int.ofNat_lt.2 q)
     omega
    rw [hj',Q3 (by omega)] at gb
    simp -implicitDefEqProofs only [DJ,D9,J4,EW,AA,↓reduceIte,Nat.reduceEqDiff]
    exact ⟨f1,f2,f5,f7,f8,f9,f10,f11,f14,f16,f20,gm,gc,gx,gp,gq,gb,hx⟩
   have hj':j < np * nq:=Int.ofNat_lt.1 (of_decide_eq_true hc)
   have hmixl:=mix_len (ys:=nb) (xs:=ob) (i:=j) (by omega) (by omega)
   have hmixg:=SB (ys:=nb) (xs:=ob) (i:=j) (j:=j) (by omega) (Nat.le_refl _) (by omega) (by omega)
   have hmixs:=mix_set (ys:=nb) (xs:=ob) (i:=j) (by omega) (by omega) (by omega)
   have hg2:=hgt j hj'
   rw [getD_at _ j (by omega),getD_at _ j (by omega)] at hg2
   have hb2:=hbd _ (List.getElem_mem (show j < ob.length by omega))
   simp -implicitDefEqProofs only [BC,BR,BO,A8]
   refine AF1 (fun F' H'=>H'=H∧(∀ t,t < 130→F' t=F t)∧F' 166 = .bool (decide (j / nq∈r1.hit) && (decide (j % nq∈r2.hit) && !(m.crs[i].excl.any fun y=>eqL y.l [((j / nq:Nat):Int),((j % nq:Nat):Int)])))) (fun _ _=>False) ?_ ?_ (fun _ _ hh=>hh.elim)
   ·have low : ∀ t d:Nat,t < 130→130≤d→t≠d:=fun t d a b=>by omega
    refine FB (by kernel_rfl) ?_
    simp -implicitDefEqProofs only [F8,CX,List.contains_nil,EC,DW,EF,E8,GG,FO,FD,IU,EI,IM,GL,FW,CO,AA,AZ,BX,BV,BQ,BK,DZ,AB,lMc,lMn,lAn,↓reduceIte,Nat.reduceEqDiff,Nat.reduceAdd,Nat.zero_add,oGs,enP,OV,H9,f15,f23,f10,l5 _ _ _ gq,lLm,← hnq,AAQ _ _ hnq1 (show j≤9223372036854775807 by omega),ABR]
    refine ⟨_,APW G (r1.hit.map fun n:Nat=>(n:Int)) _ ((j / nq:Nat):Int) H (by rw [lLm]; exact hh1),?_⟩
    rw [U2]
    try simp -implicitDefEqProofs only []
    cases d1:decide (j / nq∈r1.hit)
    ·simp -implicitDefEqProofs only [F8,CX,List.contains_nil,EC,DW,FK,EF,E8,GG,YJ,FO,IJ,SC,CO,AA,EP,AZ,AU,BM,CP,DR,↓reduceIte,Nat.reduceEqDiff,Nat.reduceAdd,oGs]
     refine ⟨trivial,fun t ht => ?_,rfl⟩
     try simp only [upd]
     repeat rw [if_neg (low t _ ht (by decide))]
    ·simp -implicitDefEqProofs only [F8,CX,List.contains_nil,EC,DW,EF,E8,GG,OQ,FO,IJ,FD,IU,EI,IM,GL,FW,CO,AA,AZ,AU,BX,BM,CP,DN,BV,BQ,BK,DZ,AB,lMc,lMn,lAn,↓reduceIte,Nat.reduceEqDiff,Nat.reduceAdd,Nat.zero_add,oGs,enP,OV,H9,f19,f23,f10,l5 _ _ _ gq,lLm,← hnq,AAP _ _ hnq1,ABR]
     refine ⟨_,APW G (r2.hit.map fun n:Nat=>(n:Int)) _ ((j % nq:Nat):Int) H (by rw [lLm]; exact hh2),?_⟩
     rw [U2]
     try simp -implicitDefEqProofs only []
     cases d2:decide (j % nq∈r2.hit)
     ·simp -implicitDefEqProofs only [F8,CX,List.contains_nil,EC,DW,FK,EF,E8,GG,YJ,IJ,SC,CO,AA,EP,AZ,AU,BM,CP,DR,↓reduceIte,Nat.reduceEqDiff,Nat.reduceAdd,oGs]
      refine ⟨trivial,fun t ht => ?_,rfl⟩
      try simp only [upd]
      repeat rw [if_neg (low t _ ht (by decide))]
     ·simp -implicitDefEqProofs only [F8,CX,List.contains_nil,EC,DW,E8,GG,OQ,FO,FD,IU,AA2,EI,IM,GL,FW,CO,AA,AZ,BX,BV,BQ,G6,BK,DZ,AB,lMc,lMn,lAn,↓reduceIte,Nat.reduceEqDiff,Nat.reduceAdd,Nat.zero_add,oGs,enP,OV,H9,f8,f23,f10,ldC gx,l5 _ _ _ gq,lLm,← hnq,AAQ _ _ hnq1 (show j≤9223372036854775807 by omega),AAP _ _ hnq1]
      refine ⟨_,AJZ G m.crs[i] ((j / nq:Nat):Int) ((j % nq:Nat):Int) H (by have:=hcr.excl; omega) hcr.each,?_⟩
      simp -implicitDefEqProofs only [F8,CX,List.contains_nil,EC,DW,FK,EF,IJ,SC,AA,AZ,AU,BM,CP,DN,AB,EY,↓reduceIte,Nat.reduceEqDiff,Nat.reduceAdd,oGs]
      refine ⟨trivial,fun t ht => ?_,rfl⟩
      try simp only [upd]
      repeat rw [if_neg (low t _ ht (by decide))]
   ·rintro F' H' ⟨rfl,hF',f166⟩
    have f1:=(hF' 1 (by decide)).trans f1
    have f2:=(hF' 2 (by decide)).trans f2
    have f5:=(hF' 5 (by decide)).trans f5
    have f7:=(hF' 7 (by decide)).trans f7
    have f8:=(hF' 8 (by decide)).trans f8
    have f9:=(hF' 9 (by decide)).trans f9
    have f10:=(hF' 10 (by decide)).trans f10
    have f11:=(hF' 11 (by decide)).trans f11
    have f14:=(hF' 14 (by decide)).trans f14
    have f15:=(hF' 15 (by decide)).trans f15
    have f16:=(hF' 16 (by decide)).trans f16
    have f19:=(hF' 19 (by decide)).trans f19
    have f20:=(hF' 20 (by decide)).trans f20
    have f23:=(hF' 23 (by decide)).trans f23
    clear hF'
    simp -implicitDefEqProofs only [BI,A8,AZ,f166]
    cases hq:(decide (j / nq∈r1.hit) && (decide (j % nq∈r2.hit) && !(m.crs[i].excl.any fun y=>eqL y.l [((j / nq:Nat):Int),((j % nq:Nat):Int)])))
    ·rw [hq,if_neg (by decide)] at hg2
     have e:mix nb ob (j+1)=mix nb ob j:=by
      rw [← hmixs,hg2,← hmixg,List.set_getElem_self]
     rw [← e] at gb
     simp -implicitDefEqProofs only [CX,List.contains_nil,Nat.reduceBEq,BA,BO,A8,EE,EN,DU,AY,BB,AL,BD,AX,AC,AA,AZ,AU,BH,BG,A7,BQ,AB,DF,↓reduceIte,Nat.reduceEqDiff,oGs,bNf,enP,Bool.false_eq_true,ES,f23,wrap_succ (show j < 9223372036854775807 by omega)]
     exact ⟨n2 - 1,by omega,j+1,by omega,by first | trivial | exact f1,by first | trivial | exact f2,by first | trivial | exact f5,by first | trivial | exact f7,by first | trivial | exact f8,by first | trivial | exact f9,by first | trivial | exact f10,by first | trivial | exact f11,by first | trivial | exact f14,by first | trivial | exact f15,by first | trivial | exact f16,by first | trivial | exact f19,by first | trivial | exact f20,by first | trivial | rfl,gm,gc,gx,gp,gq,gb,hx⟩
    ·rw [hq,if_pos rfl,ALB (by omega)] at hg2
     have hix:=APP gb (k:=j) (by omega)
     rw [hmixl,hrl1] at hix
     have hld:D7 Tryz.prog H' 3 (.ptr (xb+3) j 0)=some (.int .i64 (ob[j]'(by omega))):=by
      rw [DL ag3 gb (KL (by omega)),hmixg]; rfl
     have hw2:IntKind.i64.wrap (ob[j]'(by omega)+1)=nb[j]'(by omega):=by rw [hg2]; exact wrap_i64 (by omega) (by omega)
     have hst:=AOU gb (k:=j) (by omega) (nb[j]'(by omega))
     rw [hmixs] at hst
     have gm':(H'.set (xb+3) (.live 1 ((mix nb ob (j+1)).map encI)))[h.length]? = _:=DK gm (by omega)
     have gc':(H'.set (xb+3) (.live 1 ((mix nb ob (j+1)).map encI)))[cb]? = _:=DK gc (by omega)
     have gx':(H'.set (xb+3) (.live 1 ((mix nb ob (j+1)).map encI)))[xb]? = _:=DK gx (by omega)
     have gp':(H'.set (xb+3) (.live 1 ((mix nb ob (j+1)).map encI)))[xb+1]? = _:=DK gp (by omega)
     have gq':(H'.set (xb+3) (.live 1 ((mix nb ob (j+1)).map encI)))[xb+2]? = _:=DK gq (by omega)
     simp -implicitDefEqProofs only [CX,List.contains_nil,Nat.reduceBEq,BA,A8,EE,EN,CY,AY,BB,AL,BD,AX,AC,FC,AA,AZ,AU,BH,BG,A7,BV,ER,BQ,CG,AB,DX,DF,↓reduceIte,Nat.reduceEqDiff,oGs,bNf,enP,JL,Option.getD_none,Bool.false_eq_true,ES,f11,f23,hix,hld,hw2,hst,wrap_succ (show j < 9223372036854775807 by omega)]
     exact ⟨n2 - 1,by omega,j+1,by omega,by first | trivial | exact f1,by first | trivial | exact f2,by first | trivial | exact f5,by first | trivial | exact f7,by first | trivial | exact f8,by first | trivial | exact f9,by first | trivial | exact f10,by first | trivial | exact f11,by first | trivial | exact f14,by first | trivial | exact f15,by first | trivial | exact f16,by first | trivial | exact f19,by first | trivial | exact f20,by first | trivial | rfl,gm',gc',gx',gp',gq',ET gb,hx.set (by omega) _⟩
  ·clear gm gc gx gp gq gb hx f1 f2 f5 f7 f8 f9 f10 f11 f12 f13 f14 call1 call2
   rintro F H ⟨f1,f2,f5,f7,f8,f9,f10,f11,f14,f16,f20,gm,gc,gx,gp,gq,gb,hx⟩
   rw [← hn1] at f16
   rw [← hn2] at f20
   rw [hnb] at gb
   simp -implicitDefEqProofs only [CX,List.contains_nil,Nat.reduceBEq,BC,BA,A8,EE,EX,EN,AY,BB,AL,BD,AX,AC,AA,AZ,AU,BH,BG,A7,BQ,AB,DF,↓reduceIte,Nat.reduceEqDiff,oGs,bNf,enP,Bool.false_eq_true,ES,f16,f20,f14,wrap_succ (show k < 9223372036854775807 by omega)]
   exact ⟨n' - 1,by omega,k+1,_,1,_,1,by omega,by first | trivial | exact f1,by first | trivial | exact f2,by first | trivial | exact f5,by first | trivial | exact f7,by first | trivial | exact f8,by first | trivial | exact f9,by first | trivial | exact f10,by first | trivial | exact f11,by first | trivial | rfl,.inl rfl,by first | trivial | rfl,.inl rfl,by first | trivial | rfl,gm,gc,gx,gp,gq,gb,hx⟩
 ·clear gmd gcd gxd gpd gqd gbd hxd f1 f2 f5 f7
  rintro F H ⟨f1,f2,f5,f7,f11,gm,gc,gb,hx⟩
  have hrl:=hpr _ (Nat.le_refl L.length)
  have q1:=gst _ gc
  have hlen2:((stK m L L.length).C.getD i []).length≤1048576:=by omega
  have hia:i < (L6 (stK m L L.length).C).length:=by omega
  have hci:(L6 (stK m L L.length).C)[i]=⟨.any,(stK m L L.length).C.getD i []⟩:=by
   rw [List.getD_eq_getElem?_getD,List.getElem?_eq_getElem (by omega)]
   simp [L6]
  have hz:=AHW (i:=175) (off:=0) (len:=((stK m L L.length).C.getD i []).length) gb (by simp) (by rw [List.drop_zero,List.take_of_length_le (by simp)]; exact AU2 _)
  rw [List.drop_zero,List.take_of_length_le (by simp),hrl] at hz
  have hz' : ∀ F:Fr,F 175 = .own (xb+3) 0 (np * nq)→P8 (F,H) 175=(upd F 175 (.sl .any 1 (((stK m L L.length).C.getD i []).map encI)),H.set (xb+3) ABlk.dead):=fun F hF=>hz F hF
  have gm':(H.set (xb+3) ABlk.dead)[h.length]? = _:=DK gm (by omega)
  have gc':(H.set (xb+3) ABlk.dead)[cb]? = _:=DK gc (by omega)
  simp -implicitDefEqProofs only [CX,List.contains_nil,Nat.reduceBEq,BC,BA,A8,EX,AY,AL,BD,AX,AC,AA,AZ,BX,BG,BV,BK,CG,BZ,BU,AB,lMc,lMn,lAn,↓reduceIte,Nat.reduceEqDiff,Nat.zero_add,oGs,bNf,enP,OX,MN,Bool.false_eq_true,ES,f11,f5,f7,q1,D6 hia,DV L8 hia,hci,OD,AHX,AL,hz']
  refine (SA G _ _ _ _ hlen2 _).use ?_
  rw [X5]
  simp -implicitDefEqProofs only [CX,List.contains_nil,Nat.reduceBEq,BA,BO,BI,A8,EE,EN,DU,AY,BB,AL,BD,AX,AC,AA,AZ,AU,BH,BG,A7,BQ,G6,AB,DF,EY,↓reduceIte,Nat.reduceEqDiff,oGs,bNt,bNf,enP,Bool.false_eq_true,ES,f7,wrap_succ (show i < 9223372036854775807 by omega)]
  exact ⟨n - 1,by omega,i+1,by omega,by first | trivial | exact f1,by first | trivial | exact f2,by first | trivial | exact f5,by first | trivial | rfl,gm',gc',hx.set (by omega) _⟩
end
end Go.Proofs.YtocilianjfhifaaGreatDoor.Xe
