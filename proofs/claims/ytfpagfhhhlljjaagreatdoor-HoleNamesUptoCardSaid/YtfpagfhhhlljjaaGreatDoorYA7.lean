/- Part 7 of the proof (M3, L1, M4, M5, M6, M7, M8, M9, M10, M11, M12, M13, M14); no condition. -/
import Derived.Test.YtfpagfhhhlljjaaGreatDoorYA6
set_option linter.unusedVariables false
set_option linter.unusedSimpArgs false
set_option maxRecDepth 8000
namespace Go.Proofs.YtfpagfhhhlljjaaGreatDoor.Cov
open Sm Bins Go.RowKit
open Bool renaming not_false→jC,not_true→jU,and_eq_true→jV,true_and→qJ,false_eq_true→jZ
open List renaming map_cons→jE,map_nil→jD,append_nil→jF,length_map→jH,getElem_mem→jP,drop_eq_nil_of_le→jX,getElem?_map→jY,getElem?_eq_getElem→jO,length_take→zJ,drop_zero→zM,take_of_length_le→jW,map_map→wS,all_eq_true→zG,mem_map→zN,take_succ_eq_append_getElem→zK,foldl_cons→qY,drop_eq_getElem_cons→zH,findIdx?_eq_some_iff_getElem→qV,findIdx?_eq_none_iff→qW,any_eq_false→wH,mem_cons→qI,append_assoc→zF
open Nat renaming le_of_ble_eq_true→jI,reduceEqDiff→jB,add_zero→jK,zero_add→jG,reduceAdd→jM,le_trans→qK,le_refl→jL
open Option renaming getD_some→jA,getD_none→jT
theorem AP8 (G:Nat→AV) (p:Pt) (hp:PtOk p) (h:Hp):PCall (En G) 57 [.agg (F8 p)] h (.int .i64 (GL p)):=by
 refine ACalls.pure0 rfl ?_
 have hp1:=hp.ex
 have hp2:=hp.name
 have hp3:=hp.num
 refine acN Tryz.func57 rfl ?_
 show awp _ _ _ _ _ (EJ _ [.tmp 2] _)
 simp -implicitDefEqProofs only [BC,A8,BA,AY,BB,AO,AQ,AL,BD,AX,AC,AA,AZ,AU,CB,BH,A7,FD,BN,BJ,CG,BX,BU,AB,BF,jE,jD,jF,↓reduceIte,jB,jK,jA,jC,enP,XC,bxP,C9 ag9,ADF]
 refine (OZ G p.name _).use ?_
 simp -implicitDefEqProofs only [BI,BA,AY,BB,AO,AQ,AL,BD,AX,AC,AA,AZ,G7,AB,ES,↓reduceIte,jA,jC]
 cases h1:GM p.name
 ·simp -implicitDefEqProofs only [BC,A8,BK,BA,CQ,CJ,DT,AY,BB,AO,AQ,AL,BD,AX,AC,AA,AU,BH,A7,↓reduceIte,jA,jC]
  exact ⟨by unfold GL; rw [if_pos h1],_,rfl⟩
 have h1' : ¬ GM p.name=false:=by rw [h1]; decide
 simp -implicitDefEqProofs only [BC,A8,BO,BA,D5,AY,AO,AQ,AL,BD,AX,AC,AA,AZ,CB,BN,BJ,CG,BX,AB,jE,jD,jF,↓reduceIte,jB,jG,jA,jU,jC,enP,ZQ,AME (CY h _)]
 refine (AJ4 G p.ex _ hp1).use ?_
 simp -implicitDefEqProofs only [BC,A8,BI,BA,AY,BB,AO,AQ,AL,BD,AX,AC,AA,AZ,AU,BH,BG,A7,BR,AB,ET,↓reduceIte,jA,jC,enP]
 refine CU (fun h2 => ?_) (fun h2 => ?_)
 ·simp -implicitDefEqProofs only [BC,A8,BK,BA,CQ,CJ,AY,BB,AO,AQ,AL,BD,AX,AC,AA,AZ,BG,A7,↓reduceIte,jB,jA,jC]
  exact ⟨by unfold GL; rw [if_neg h1',if_pos (by simpa using h2)],_,rfl⟩
 have h2' : ¬ exE p.ex≠0:=by simpa using h2
 simp -implicitDefEqProofs only [BC,A8,BO,BI,BA,AY,BB,AO,AQ,AL,BD,AX,AC,AA,AZ,AU,BH,BN,BR,BJ,DU,AB,EG,↓reduceIte,jB,jG,jA,jC,enP,PU,IQ,C9 TA,NQ,jH]
 refine CU (fun h3 => ?_) (fun h3 => ?_)
 ·simp -implicitDefEqProofs only [BC,A8,BK,BA,CQ,CJ,AY,BB,AO,AQ,AL,BD,AX,AC,AA,AU,BH,A7,↓reduceIte,jA,jC]
  exact ⟨by unfold GL; rw [if_neg h1',if_neg h2',if_pos (by simp at h3; simpa using h3)],_,rfl⟩
 have h3' : ¬ p.bins.length=0:=by simp at h3; simpa using h3
 simp -implicitDefEqProofs only [BC,A8,BO,BI,BA,AY,BB,AO,AQ,AL,BD,AX,AC,AA,AZ,AU,BH,BN,BR,BJ,DU,AB,EY,↓reduceIte,jB,jG,jA,jC,enP,PU,IQ,C9 TA,NQ,jH]
 refine CU (fun h4 => ?_) (fun h4 => ?_)
 ·simp -implicitDefEqProofs only [BC,A8,BK,BA,CQ,CJ,AY,BB,AO,AQ,AL,BD,AX,AC,AA,AU,BH,A7,↓reduceIte,jA,jC]
  exact ⟨by unfold GL; rw [if_neg h1',if_neg h2',if_neg h3',if_pos (by simp at h4; omega)],_,rfl⟩
 have h4' : ¬ 64 < p.bins.length:=by simp at h4; omega
 have hpt:GL p=if JZ H6 p.bins≠0 then JZ H6 p.bins else if MZ (p.bins.map (·.name)) then 8 else 0:=by
  unfold GL; rw [if_neg h1',if_neg h2',if_neg h3',if_neg h4']
 simp -implicitDefEqProofs only [BC,BQ,A8,BO,BA,AY,BB,AO,AQ,AL,BD,AX,AC,AU,BH,A7,jA,jC]
 refine H7 0 (fun F H=>F 1 = .ptr h.length 0 0∧H=h ++ [.live 6 [F8 p]]∧JZ H6 p.bins=0) (fun F H=>F 2 = .int .i64 (GL p)∧∃ x,H=h ++ x) ?_ ?_ ?_
 ·refine DL (fun n F H => ∃ k,n+k=p.bins.length∧F 1 = .ptr h.length 0 0∧F 4 = .int .i64 (k:Nat)∧H=h ++ [.live 6 [F8 p]]∧JZ H6 p.bins=JZ H6 (p.bins.drop k)) p.bins.length ⟨0,by simp,by simp -implicitDefEqProofs only [AA,↓reduceIte,jB],by simp -implicitDefEqProofs only [AA,↓reduceIte]; rfl,rfl,rfl⟩ ?_
  rintro n F H ⟨k,hk,f1,f4,rfl,hf⟩
  simp -implicitDefEqProofs only [BC,A8,BI,BA,AY,BB,AO,AQ,AL,BD,AX,AC,AA,AZ,BG,BN,BR,BJ,DU,AB,CW,↓reduceIte,jB,jG,jA,jC,enP,PU,IQ,f1,f4,C9 TA,NQ,jH]
  refine CU (fun hc => ?_) (fun hc => ?_)
  ·have hk':k < p.bins.length:=by simpa using hc
   have hs:=O1 H6 p.bins k hk'
   simp -implicitDefEqProofs only [BC,BQ,A8,BO,BA,AY,AO,AQ,AL,BD,AX,AC,AA,AZ,CB,BG,BN,BJ,BZ,CG,BX,AB,jE,jD,jF,↓reduceIte,jB,jG,jA,jC,enP,RJ,IQ,f1,f4,C9 TA,NQ,DF hk',FT AD3 XR LW hk']
   refine (valid_ref G p.bins[k] (hp.bins _ (jP hk')) _).use ?_
   simp -implicitDefEqProofs only [BC,A8,BI,BA,AY,BB,AO,AQ,AL,BD,AX,AC,AA,AZ,AU,BH,BG,A7,BR,AB,ET,↓reduceIte,jA,jC,enP]
   refine CU (fun hv => ?_) (fun hv => ?_)
   ·simp -implicitDefEqProofs only [BC,A8,BK,BA,CQ,EE,MS,FK,AY,BB,AO,AQ,AL,BD,AX,AC,AA,AZ,BG,A7,↓reduceIte,jB,jA,jC]
    have hv':H6 p.bins[k]≠0:=by simpa using hv
    have:JZ H6 p.bins=H6 p.bins[k]:=by rw [hf,hs,if_neg hv']
    exact ⟨by rw [hpt,this,if_pos hv'],_,rfl⟩
   ·have hv':H6 p.bins[k]=0:=by simpa using hv
    simp -implicitDefEqProofs only [A8,BO,BA,EI,EP,AY,BB,AO,AQ,AL,BD,AX,AC,AA,AZ,AU,BH,BG,A7,BR,AB,DK,↓reduceIte,jB,jA,jC,enP,f4,wrap_succ (show k < 9223372036854775807 by omega)]
    exact ⟨n - 1,by omega,k+1,by omega,f1,rfl,trivial,by rw [hf,hs,if_pos hv']⟩
  ·have hk' : ¬ k < p.bins.length:=by simpa using hc
   simp -implicitDefEqProofs only [DI,ED,KQ,EW,AA,↓reduceIte,jB]
   exact ⟨f1,trivial,by rw [hf,jX (by omega)]; rfl⟩
 ·rintro F H ⟨f1,rfl,hf⟩
  rw [hf,if_neg (fun hh=>hh rfl)] at hpt
  simp -implicitDefEqProofs only [BC,BQ,A8,BA,EU,AY,BB,AO,AQ,AL,BD,AX,AC,AU,BH,A7,↓reduceIte,jA,jC,f1]
  generalize hN:p.bins.map (·.name)=N at hpt
  have hNl:N.length=p.bins.length:=by rw [← hN]; simp
  have hNi : ∀ i (hi:i < p.bins.length),N[i]? = some p.bins[i].name:=fun i hi=>by rw [← hN,jY,jO hi]; rfl
  refine DL (fun n F H => ∃ i,n+i=p.bins.length∧F 1 = .ptr h.length 0 0∧F 5 = .int .i64 (i:Nat)∧H=h ++ [.live 6 [F8 p]]∧MZ N=AA9 (N.take i) (N.drop i)) p.bins.length ⟨0,by simp,by simp -implicitDefEqProofs only [AA,↓reduceIte,jB,f1],by simp -implicitDefEqProofs only [AA,↓reduceIte]; rfl,rfl,rfl⟩ ?_
  clear f1
  rintro n F H ⟨i,hi,f1,f5,rfl,hd⟩
  simp -implicitDefEqProofs only [BC,A8,BI,BA,AY,BB,AO,AQ,AL,BD,AX,AC,AA,AZ,BG,BN,BR,BJ,DU,AB,CW,↓reduceIte,jB,jG,jA,jC,enP,PU,IQ,f1,f5,C9 TA,NQ,jH]
  refine CU (fun hc => ?_) (fun hc => ?_)
  ·have hi':i < p.bins.length:=by simpa using hc
   have hdrop:=QC N i (by omega)
   rw [G9 (hNi i hi')] at hdrop
   simp -implicitDefEqProofs only [BC,BQ,A8,BO,BA,AY,BB,AO,AQ,AL,BD,AX,AC,AU,BH,A7,jA,jC,f5]
   refine H7 4 (fun F' H'=>F' 1 = .ptr h.length 0 0∧F' 5 = .int .i64 (i:Nat)∧H'=h ++ [.live 6 [F8 p]]∧IJ (N.take i) p.bins[i].name=false) (fun F' H'=>F' 2 = .int .i64 8∧H'=h ++ [.live 6 [F8 p]]∧MZ N=true) ?_ ?_ ?_
   ·refine DL (fun n F' H' => ∃ k,n+k=i∧F' 1 = .ptr h.length 0 0∧F' 5 = .int .i64 (i:Nat)∧F' 6 = .int .i64 (k:Nat)∧H'=h ++ [.live 6 [F8 p]]∧IJ (N.take i) p.bins[i].name=IJ ((N.take i).drop k) p.bins[i].name) i ⟨0,by simp,by simp -implicitDefEqProofs only [AA,↓reduceIte,jB,f1],by simp -implicitDefEqProofs only [AA,↓reduceIte,jB,f5],by simp -implicitDefEqProofs only [AA,↓reduceIte]; rfl,rfl,rfl⟩ ?_
    clear f1 f5
    rintro n' F H' ⟨k,hk,f1,f5,f6,rfl,hin⟩
    simp -implicitDefEqProofs only [BC,A8,BI,BA,AY,BB,AO,AQ,AL,BD,AX,AC,AA,AZ,BG,BR,AB,CW,↓reduceIte,jB,jA,jC,enP,f5,f6]
    refine CU (fun hc => ?_) (fun hc => ?_)
    ·have hk':k < i:=by simpa using hc
     have hk2:k < p.bins.length:=by omega
     have hs:=LD (fun u=>p.bins[i].name.toList == u.toList) (N.take i) k (by rw [zJ]; omega)
     have hx:(N.take i)[k]'(by rw [zJ]; omega)=p.bins[k].name:=by
      rw [List.getElem_take]; exact G9 (hNi k hk2)
     rw [hx] at hs
     simp -implicitDefEqProofs only [BC,BQ,BO,BA]
     refine EX (by kernel_rfl) ?_
     simp -implicitDefEqProofs only [F6,EF,DZ,FC,EH,FI,FB,IB,D9,EC,BI,BA,AO,AA,AZ,BN,BR,BJ,BZ,AB,J7,↓reduceIte,jB,jM,jK,jG,jA,enP,RJ,IQ,TW,f1,f5,f6,C9 TA,NQ,DF hi',DF hk2,CX ag9 hi',CX ag9 hk2,YQ]
     refine CU (fun hb => ?_) (fun hb => ?_)
     ·simp -implicitDefEqProofs only [BC,A8,BK,BA,CQ,EE,MS,FK,AY,BB,AO,AQ,AL,BD,AX,AC,AA,AU,BH,A7,↓reduceIte,jA,jC]
      have:IJ (N.take i) p.bins[i].name=true:=by
       rw [hin]; unfold IJ; rw [hs,BEq.comm,hb]; rfl
      exact ⟨trivial,trivial,by rw [hd,hdrop,this]; rfl⟩
     ·simp -implicitDefEqProofs only [A8,BO,BA,EI,EP,AY,BB,AO,AQ,AL,BD,AX,AC,AA,AZ,AU,BH,BG,A7,BR,AB,DK,↓reduceIte,jB,jA,jC,enP,f6,wrap_succ (show k < 9223372036854775807 by omega)]
      refine ⟨n' - 1,by omega,k+1,by omega,f1,f5,rfl,trivial,?_⟩
      rw [hin]; unfold IJ; rw [hs,BEq.comm,hb]; rfl
    ·have hk' : ¬ k < i:=by simpa using hc
     simp -implicitDefEqProofs only [DI,ED,KQ,EW,AA,↓reduceIte,jB]
     refine ⟨f1,f5,trivial,?_⟩
     rw [hin,jX (by rw [zJ]; omega)]; rfl
   ·rintro F' H' ⟨g1,g5,rfl,hn⟩
    simp -implicitDefEqProofs only [A8,BA,EI,EU,EP,AY,BB,AO,AQ,AL,BD,AX,AC,AA,AZ,AU,BH,BG,A7,BR,AB,DK,↓reduceIte,jB,jA,jC,enP,g5,wrap_succ (show i < 9223372036854775807 by omega)]
    refine ⟨n - 1,by omega,i+1,by omega,g1,rfl,trivial,?_⟩
    rw [hd,hdrop,hn]; rfl
   ·rintro F' H' ⟨g2,rfl,hdd⟩
    simp -implicitDefEqProofs only [CQ,EE,FK,CJ,g2]
    exact ⟨by rw [hpt,hdd]; rfl,_,rfl⟩
  ·have hi' : ¬ i < p.bins.length:=by simpa using hc
   simp -implicitDefEqProofs only [BC,A8,BK,DI,BA,ED,EU,EW,CJ,AY,BB,AO,AQ,AL,BD,AX,AC,AA,AU,BH,A7,↓reduceIte,jA,jC]
   exact ⟨by rw [hpt,hd,jX (by omega)]; rfl,_,rfl⟩
 ·rintro F H ⟨f2,hx⟩
  simp -implicitDefEqProofs only [CQ,EE,CJ,f2]
  exact ⟨trivial,hx⟩
def outG {α:Type} (k:Nat) (f:α→List AV) (h:Hp) (ys:List α) (v:AV) (H:Hp):Prop :=
 (ys = []∧v = .sl .nil 0 [])∨(ys≠[]∧∃ o,h.length≤o∧v = .own o 0 ys.length∧H[o]? = some (.live k (ys.map f)))
theorem outG.nil {α:Type} (k:Nat) (f:α→List AV) (h H:Hp):outG k f h [] (.sl .nil 0 []) H := .inl ⟨rfl,rfl⟩
theorem outG.keep {α:Type} {k:Nat} {f:α→List AV} {h H H':Hp} {ys:List α} {v:AV} (ho:outG k f h ys v H) (hk : ∀ b,isB v b→H'[b]? = H[b]?):outG k f h ys v H':=by
 rcases ho with h1 | ⟨h1,o,h2,rfl,h3⟩
 ·exact .inl h1
 ·exact .inr ⟨h1,o,h2,rfl,by rw [hk o rfl]; exact h3⟩
theorem outG.lt {α:Type} {k:Nat} {f:α→List AV} {h H:Hp} {ys:List α} {v:AV} {b:Nat} (ho:outG k f h ys v H) (hb:isB v b):h.length≤b∧b < H.length:=by
 rcases ho with ⟨_,rfl⟩ | ⟨_,o,h2,rfl,h3⟩
 ·exact hb.elim
 ·cases hb; exact ⟨h2,CE h3⟩
theorem outG.app {α:Type} {k:Nat} {f:α→List AV} {h H:Hp} {ys:List α} {v:AV} (ho:outG k f h ys v H) (x:Hp):outG k f h ys v (H ++ x) :=
 ho.keep fun _ hb=>List.getElem?_append_left (ho.lt hb).2
theorem outG.append {P:Program} {t e:TypeId} {α:Type} {k bs:Nat} {f:α→List AV} {h H:Hp} {ys:List α} {v:AV} (ho:outG k f h ys v H) (hu:P.underlying t=some (.slice e)) (hs:szO P e=some k) (hz:UR P e=some k) (hb:MN P e=some bs) (hbs:bs≤4194304) (hl:ys.length < 8388608) (he:ext h H) (y:α) :
  ∃ v' H',GI P true H t t v (.sl .full k [f y])=some (v',H')∧outG k f h (ys ++ [y]) v' H'∧(∀ b x,H[b]? = some x→¬ isB v b→H'[b]? = some x)∧ext h H'∧H.length≤H'.length∧∀ b,isB v' b→b=H.length:=by
 have h1:([f y]:List (List AV))≠[]:=by simp
 rcases ho with ⟨rfl,rfl⟩ | ⟨hne,o,h2,rfl,h3⟩
 ·exact ⟨_,_,PZ hu hs hz hb (IY H .full k [f y]) h1 (JF (by simp) hbs),.inr ⟨by simp,H.length,he.le,rfl,by simp⟩,fun b x hb _=>FZ hb,he.app _,by simp,fun b hb=>hb.symm⟩
 ·have hc:JY H (.own o 0 ys.length)=some (k,ys.map f):=by
   rw [LC h3 (by simp),zM,jW (by simp)]
  refine ⟨_,_,PY hu hs hz hb hc (IY H .full k [f y]) h1 (JF (by simp; omega) hbs),.inr ⟨by simp,H.length,he.le,by simp,by simp⟩,fun b x hb hn => ?_,(he.set h2 _).app _,by simp,fun b hb=>hb.symm⟩
  have hn' : ¬ o=b:=hn
  refine FZ ?_
  rw [List.getElem?_set,if_neg hn']; exact hb
theorem outG.len {P:Program} {t:TypeId} {α:Type} {k:Nat} {f:α→List AV} {h H:Hp} {ys:List α} {v:AV} (ho:outG k f h ys v H) (hl:(∀ m k xs,KT P t (.sl m k xs)=some (.int .i64 xs.length))∧∀ b off len,KT P t (.own b off len)=some (.int .i64 len)):KT P t v=some (.int .i64 ys.length):=by
 rcases ho with ⟨rfl,rfl⟩ | ⟨_,o,_,rfl,_⟩
 ·exact hl.1 _ _ _
 ·exact hl.2 _ _ _
def nm {α:Type} (ys:List α):SM:=match ys with
 | [] => .nil
 | _ => .any
theorem frzF_own (n:Nat) (h:Hp) (d b off len k:Nat) (xs:List (List AV)) (hn : ¬ b < n) (hb:h[b]? = some (.live k xs)):IR n h (d+1) (.own b off len)=if off+len≤xs.length∧(((xs.drop off).take len).map (·.map (IR n h d))).all (·.all AV.leaf)=true then .sl .any k (((xs.drop off).take len).map (·.map (IR n h d))) else .junk:=by
 rw [IR]
 simp only [hn,if_false,hb]
def Frz {α:Type} (f:α→List AV):Prop := ∀ (n:Nat) (h:Hp) (d:Nat) (x:α),(f x).map (IR n h (d+1))=f x∧(f x).all AV.leaf=true
theorem frz_rows {α:Type} {f:α→List AV} (hf:Frz f) (n:Nat) (h:Hp) (d:Nat) (xs:List α):(xs.map f).map (·.map (IR n h (d+1)))=xs.map f:=by
 rw [wS]
 exact List.map_congr_left fun x _=>(hf n h d x).1
theorem frz_own {α:Type} {f:α→List AV} (hf:Frz f) {n d k:Nat} {h:Hp} {o:Nat} {xs:List α} (hn:n≤o) (ho:h[o]? = some (.live k (xs.map f))):IR n h (d+2) (.own o 0 xs.length) = .sl .any k (xs.map f):=by
 rw [frzF_own n h (d+1) o 0 xs.length k _ (by omega) ho,zM,jW (by simp),frz_rows hf n h d xs]
 rw [if_pos]
 refine ⟨by simp,?_⟩
 rw [zG]
 intro row hr
 obtain ⟨x,_,rfl⟩:=zN.1 hr
 exact (hf n h d x).2
theorem P8 {E:Env} {f:FuncId} {args:List AV} {h:Hp} {α:Type} {k:Nat} {enc:α→List AV} (hf:Frz enc) {ys:List α} (hc:ACalls E f args h fun v H=>ext h H∧outG k enc h ys v H):PCall E f args h (.sl (nm ys) k (ys.map enc)):=by
 have h1:ACalls E f args h fun v H=>v=(if ys.length=0 then AV.sl .nil 0 [] else .sl .any k (ys.map enc))∧H=h:=by
  refine ACalls.pure 2 hc ?_
  rintro v H ⟨hex,hout⟩
  refine ⟨hex,?_⟩
  rcases hout with ⟨rfl,rfl⟩ | ⟨hne,o,ho1,rfl,ho⟩
  ·rfl
  ·rw [if_neg (by simpa using hne)]; exact frz_own hf ho1 ho
 refine h1.conv ?_
 rintro v H ⟨rfl,rfl⟩
 refine ⟨_,⟨rfl,rfl⟩,?_⟩
 intro g cv hr
 cases ys with
 | nil=>exact AJD hr
 | cons y ys=>exact hr
def F9 (m:Mo) (p:Int):List Bin:=match m.pts[p.toNat]? with
 | some q=>q.bins
 | none => []
def szs (m:Mo) (l:List Int):List Nat:=l.map fun p=>(F9 m p).length
def Here (m:Mo) (l:List Int):Prop := ∀ p∈l,0≤p∧p < (m.pts.length:Int)
theorem Here.toNat {m:Mo} {l:List Int} (hh:Here m l) {k:Nat} (hk:k < l.length):(l[k]).toNat < m.pts.length:=by
 have:=hh _ (jP hk); omega
theorem Here.bins {m:Mo} {l:List Int} (hh:Here m l) {k:Nat} (hk:k < l.length):(m.pts[(l[k]).toNat]'(hh.toNat hk)).bins=F9 m l[k]:=by
 unfold F9; rw [jO (hh.toNat hk)]
theorem Here.ix {m:Mo} {l:List Int} (hh:Here m l) {k:Nat} (hk:k < l.length) (h:Hp) (s:SM):JX 6 h (.sl s 6 (m.pts.map F8)) (.int .i64 l[k])=some (.fptr 6 (m.pts.map F8) (l[k]).toNat 0):=by
 have:=hh _ (jP hk)
 exact AZH this.1 (by rw [jH]; exact this.2)
theorem Here.ld {m:Mo} {l:List Int} (hh:Here m l) {k:Nat} (hk:k < l.length) (h:Hp) : ∃ s,D6 Tryz.prog h 49 (.fptr 6 (m.pts.map F8) (l[k]).toNat 5)=some (.sl s 4 ((F9 m l[k]).map GN)):=by
 rw [CX TA (hh.toNat hk),NQ,hh.bins hk]
 exact ⟨_,rfl⟩
theorem A24:Frz qencI:=fun _ _ _ _=>⟨rfl,rfl⟩
theorem AM9 (h:Hp) (v:Int):EZ Tryz.prog false h 26 1 [(0,.int .i64 v)]=some (.sl .full 1 [[.int .i64 v]],h):=by kernel_rfl
def J9 (n:Nat):List AV := [.int .i64 (n:Int)]
theorem A0U:Frz J9:=fun _ _ _ _=>⟨rfl,rfl⟩
theorem encN0 (n:Nat):(J9 n)[0]? = some (.int .i64 (n:Int)):=rfl
theorem encI0 (n:Int):(qencI n)[0]? = some (.int .i64 n):=rfl
theorem AH6 (m:Mo) (l:List Int) (k:Nat) (hk:k < l.length):szs m (l.take (k+1))=szs m (l.take k) ++ [(F9 m l[k]).length]:=by
 unfold szs; rw [zK hk,List.map_append]; rfl
theorem WJ (G:Nat→AV) (m:Mo) (c:Cr) (h:Hp) (hh:Here m c.pts) (hl:c.pts.length≤1048576):PCall (En G) 86 [.agg (D8 m),.agg (G6 c)] h (.sl (nm (szs m c.pts)) 1 ((szs m c.pts).map J9)):=by
 refine P8 A0U ?_
 refine acN Tryz.func86 rfl ?_
 show awp _ _ _ _ _ (EJ _ [.tmp 4] _)
 simp -implicitDefEqProofs only [BC,BQ,A8,BA,AY,BB,AO,AQ,AL,BD,AX,AC,AA,AZ,AU,BH,H9,BG,A7,FD,BN,BJ,DU,BU,AB,BF,BP,↓reduceIte,jB,jG,jA,jC,enP,JG,JD,bxM,bxC,C9 LQ,OT,jH]
 have hb0:(h ++ [ABlk.live 2 [D8 m]] ++ [ABlk.live 3 [G6 c]])[h.length]? = some (.live 2 [D8 m]):=CV (CY _ _)
 refine DL (fun n F H => ∃ k,n+k=c.pts.length∧F 2 = .ptr h.length 0 0∧F 9 = .sl c.pm 1 (c.pts.map qencI)∧F 10 = .int .i64 c.pts.length∧F 11 = .int .i64 (k:Nat)∧H[h.length]? = some (.live 2 [D8 m])∧ext h H∧(∀ b,isB (F 5) b→h.length < b)∧outG 1 J9 h (szs m (c.pts.take k)) (F 5) H) c.pts.length ⟨0,by simp,by simp -implicitDefEqProofs only [AA,↓reduceIte,jB],by simp -implicitDefEqProofs only [AA,↓reduceIte,jB],by simp -implicitDefEqProofs only [AA,↓reduceIte,jB],by simp -implicitDefEqProofs only [AA,↓reduceIte]; rfl,hb0,((ext.rfl' h).app _).app _,fun b hb=>hb.elim,outG.nil _ _ _ _⟩ ?_
 rintro n F H ⟨k,hk,f2,f9,f10,f11,hb,he,hlt,ho⟩
 simp -implicitDefEqProofs only [BC,A8,BI,BA,AY,BB,AO,AQ,AL,BD,AX,AC,AA,AZ,BR,AB,CW,↓reduceIte,jA,jC,enP,f10,f11]
 refine CU (fun hc => ?_) (fun hc => ?_)
 ·have hk':k < c.pts.length:=by simpa using hc
  have lm:D6 Tryz.prog H 22 (.ptr h.length 0 0)=some (.sl m.pm 6 (m.pts.map F8)):=by rw [DV YX hb (row:=D8 m) rfl,QY]
  obtain ⟨s,ls⟩:=hh.ld hk' H
  have hzl:(szs m (c.pts.take k)).length < 8388608:=by unfold szs; simp; omega
  obtain ⟨v',H',ha,ho',hkeep,he',hle,hb'⟩:=ho.append WH sz3 AA3 ZZ (by omega) hzl he (F9 m c.pts[k]).length
  simp -implicitDefEqProofs only [FU,FQ,BC,BQ,A8,BO,BA,AY,BB,AO,AQ,AL,BD,AX,AC,AA,AZ,BG,A7,EK,BN,BJ,BZ,DU,G8,BU,AB,↓reduceIte,jB,jK,jG,jA,jC,enP,OY,GR,JB,PU,IQ,f2,f9,f11,DF hk',CX ag3 hk',encI0,lm,hh.ix hk',ls,jH,AM9]
  refine LY (v:=v') (h:=H') (by rw [show [[AV.int .i64 ((F9 m c.pts[k]).length:Int)]] = [J9 (F9 m c.pts[k]).length] from rfl,ha]) ?_
  simp -implicitDefEqProofs only [A8,BA,EI,EP,AY,BB,AO,AQ,AL,BD,AX,AC,AA,AZ,AU,BH,BG,A7,BR,AB,DK,↓reduceIte,jB,jA,jC,enP,f11,wrap_succ (show k < 9223372036854775807 by omega)]
  refine ⟨n - 1,by omega,k+1,by omega,f2,f9,f10,rfl,hkeep _ _ hb (fun e=>by have:=hlt _ e; omega),he',fun b hbb => ?_,?_⟩
  ·have:=hb' b hbb; have:=CE hb; omega
  ·rw [AH6 m c.pts k hk']; exact ho'
 ·have hk' : ¬ k < c.pts.length:=by simpa using hc
  rw [jW (by omega)] at ho
  simp -implicitDefEqProofs only [BC,A8,BK,DI,BA,ED,EU,EW,CJ,AY,BB,AO,AQ,AL,BD,AX,AC,AA,AZ,BG,A7,↓reduceIte,jB,jA,jC]
  exact ⟨he,ho⟩
def I4 (l:List Nat):Nat:=l.foldl (· * ·) 1
theorem WR (l:List Nat) (k:Nat) (hk:k < l.length):I4 (l.take (k+1))=I4 (l.take k) * l[k]:=by
 unfold I4; rw [zK hk,List.foldl_append]; rfl
theorem AI0 (l:List Nat) (k:Nat) (h : ∀ n∈l,n≤64) (hk:l.length≤k):I4 l≤64 ^ k:=by
 have gen : ∀ (l:List Nat) (a:Nat) (j:Nat),(∀ n∈l,n≤64)→a≤64 ^ j→l.foldl (· * ·) a≤64 ^ (j+l.length):=by
  intro l
  induction l with
  | nil=>intro a j _ ha; exact ha
  | cons x l ih =>
    intro a j hl ha
    rw [qY,List.length_cons,show j+(l.length+1)=(j+1)+l.length by omega]
    refine ih _ _ (fun n hn=>hl n (by simp [hn])) ?_
    rw [Nat.pow_succ]
    exact Nat.mul_le_mul ha (hl x (by simp))
 have:=gen l 1 0 h (by simp)
 rw [jG] at this
 exact qK this (Nat.pow_le_pow_right (by omega) hk)
theorem ALY (l:List Nat) (k:Nat) (h : ∀ n∈l,1≤n):I4 (l.take k)≤I4 l:=by
 have gen : ∀ (l:List Nat) (a:Nat),(∀ n∈l,1≤n)→a≤l.foldl (· * ·) a:=by
  intro l
  induction l with
  | nil=>intro a _; exact jL _
  | cons x l ih =>
    intro a hl
    rw [qY]
    refine qK ?_ (ih _ (fun n hn=>hl n (by simp [hn])))
    exact Nat.le_mul_of_pos_right a (hl x (by simp))
 have h2:I4 l=(l.drop k).foldl (· * ·) (I4 (l.take k)):=by
  unfold I4
  conv=>lhs; rw [← List.take_append_drop k l,List.foldl_append]
 rw [h2]
 exact gen _ _ (fun n hn=>h n (List.mem_of_mem_drop hn))
theorem XY (G:Nat→AV) (l:List Nat) (s:SM) (h:Hp) (hl : ∀ n∈l,n≤64) (hk:l.length≤4):PCall (En G) 87 [.sl s 1 (l.map J9)] h (.int .i64 (I4 l)):=by
 refine acN Tryz.func87 rfl ?_
 show awp _ _ _ _ _ (EJ _ [.tmp 2] _)
 simp -implicitDefEqProofs only [BC,BQ,A8,BA,AY,BB,AO,AQ,AL,BD,AX,AC,AA,AZ,AU,BH,BG,A7,DU,AB,BF,↓reduceIte,jB,jA,jC,enP,JG,jH]
 have hp : ∀ k,I4 (l.take k)≤16777216:=fun k=>by
  have:=AI0 (l.take k) 4 (fun n hn=>hl n (List.mem_of_mem_take hn)) (by rw [zJ]; omega)
  simpa using this
 refine DL (fun n F H => ∃ k,n+k=l.length∧F 3 = .int .i64 (I4 (l.take k))∧F 6 = .sl s 1 (l.map J9)∧F 7 = .int .i64 l.length∧F 8 = .int .i64 (k:Nat)∧H=h) l.length ⟨0,by simp,by simp -implicitDefEqProofs only [AA,↓reduceIte,jB]; rfl,by simp -implicitDefEqProofs only [AA,↓reduceIte,jB],by simp -implicitDefEqProofs only [AA,↓reduceIte,jB],by simp -implicitDefEqProofs only [AA,↓reduceIte]; rfl,rfl⟩ ?_
 rintro n F H ⟨k,hk,f3,f6,f7,f8,rfl⟩
 simp -implicitDefEqProofs only [BC,A8,BI,BA,AY,BB,AO,AQ,AL,BD,AX,AC,AA,AZ,BR,AB,CW,↓reduceIte,jA,jC,enP,f7,f8]
 refine CU (fun hc => ?_) (fun hc => ?_)
 ·have hk':k < l.length:=by simpa using hc
  have h1:=hp (k+1)
  rw [WR l k hk'] at h1
  have hw:IntKind.i64.wrap ((I4 (l.take k):Int) * (l[k]:Int))=((I4 (l.take (k+1)):Nat):Int):=by
   rw [WR l k hk',← Int.natCast_mul,MO (by omega)]
  simp -implicitDefEqProofs only [BC,BQ,A8,BO,BA,EI,EP,AY,BB,AO,AQ,AL,BD,AX,AC,AA,AZ,AU,BH,BG,A7,BN,BR,BZ,AB,DK,Q8,↓reduceIte,jB,jA,jC,enP,JB,f3,f6,f8,DF hk',CX ag3 hk',encN0,hw,wrap_succ (show k < 9223372036854775807 by omega)]
  exact ⟨n - 1,by omega,k+1,by omega,rfl,trivial,f7,rfl,trivial⟩
 ·have hk' : ¬ k < l.length:=by simpa using hc
  rw [jW (by omega)] at f3
  simp -implicitDefEqProofs only [BC,A8,BK,DI,BA,ED,EU,EW,CJ,AY,BB,AO,AQ,AL,BD,AX,AC,AA,AZ,BG,A7,↓reduceIte,jB,jA,jC,f3]
  exact ⟨trivial,trivial⟩
def JH:List Nat→List Int→Bool
 | [],[]=>true
 | n :: ns,x :: xs=>decide (0≤x) && decide (x < (n:Int)) && JH ns xs
 | _,_=>false
theorem AT2 (ns:List Nat):JH ns []=(ns.length == 0):=by cases ns <;> rfl
theorem MC : ∀ {ns:List Nat} {xs:List Int},JH ns xs=true→ns.length=xs.length
 | [],[],_=>rfl
 | n :: ns,x :: xs,h=>by
   simp only [JH,jV] at h
   simp [MC h.2]
 | [],_ :: _,h=>by cases h
 | _ :: _,[],h=>by cases h
theorem inside_prog (G:Nat→AV) (ns:List Nat) (xs:List Int) (s t:SM) (h:Hp) (hn:ns.length≤1048576):PCall (En G) 90 [.sl s 1 (ns.map J9),.sl t 1 (xs.map qencI)] h (.bool (JH ns xs)):=by
 refine acN Tryz.func90 rfl ?_
 show awp _ _ _ _ _ (EJ _ [.tmp 4] _)
 simp -implicitDefEqProofs only [BC,BQ,A8,BA,AY,BB,AO,AQ,AL,BD,AX,AC,AA,AZ,AU,BH,BM,BG,A7,DU,AB,BF,BP,↓reduceIte,jB,jA,jC,enP,JG,jH]
 refine DL (fun n F H => ∃ k,n+k=xs.length∧k≤ns.length∧F 0 = .sl s 1 (ns.map J9)∧F 1 = .sl t 1 (xs.map qencI)∧F 7 = .sl t 1 (xs.map qencI)∧F 8 = .int .i64 xs.length∧F 9 = .int .i64 (k:Nat)∧H=h∧JH ns xs=JH (ns.drop k) (xs.drop k)) xs.length ⟨0,by simp,by simp,by simp -implicitDefEqProofs only [AA,BF,↓reduceIte,jB],by simp -implicitDefEqProofs only [AA,BF,BP,↓reduceIte,jB],by simp -implicitDefEqProofs only [AA,↓reduceIte,jB],by simp -implicitDefEqProofs only [AA,↓reduceIte,jB],by simp -implicitDefEqProofs only [AA,↓reduceIte]; rfl,rfl,rfl⟩ ?_
 rintro n F H ⟨k,hk,hkn,f0,f1,f7,f8,f9,rfl,hi⟩
 simp -implicitDefEqProofs only [BC,A8,BI,BA,AY,BB,AO,AQ,AL,BD,AX,AC,AA,AZ,BR,AB,CW,↓reduceIte,jA,jC,enP,f8,f9]
 refine CU (fun hc => ?_) (fun hc => ?_)
 ·have hk':k < xs.length:=by simpa using hc
  rw [zH hk'] at hi
  simp -implicitDefEqProofs only [BC,BQ,A8,BO,BA,AY,BB,BL,BV,CO,AO,AQ,AL,BD,AX,AC,AA,AZ,BG,A7,BN,BR,BZ,DU,AB,FX,↓reduceIte,jB,jA,jC,enP,JB,JG,f0,f7,f9,DF hk',CX ag3 hk',encI0,jH]
  refine II (fun ha => ?_) (fun ha => ?_)
  ·simp -implicitDefEqProofs only [BC,A8,BK,BI,BA,CQ,EE,FK,CJ,DT,AY,BB,BL,BV,CO,FP,AO,AQ,AL,BD,AX,AC,AA,EQ,AZ,AU,BM,BG,A7,CP,DY,↓reduceIte,jB,jA,jC,ha]
   have:ns.length≤k:=by simp at ha; omega
   rw [jX this] at hi
   exact ⟨by rw [hi]; rfl,trivial⟩
  have hkn':k < ns.length:=by simp at ha; omega
  rw [zH hkn'] at hi
  simp -implicitDefEqProofs only [AY,BL,BV,CO,EM,AO,AQ,AL,BD,AX,AC,AA,AZ,AU,BH,BM,BG,CP,DR,BR,AB,CW,↓reduceIte,jB,jA,jC,enP,ha]
  refine II (fun hb => ?_) (fun hb => ?_)
  ·simp -implicitDefEqProofs only [BC,A8,BK,BI,BA,CQ,EE,FK,CJ,DT,AY,BB,BL,BV,CO,FP,AO,AQ,AL,BD,AX,AC,AA,EQ,AZ,AU,BM,A7,CP,DY,↓reduceIte,jB,jA,jC,hb]
   have:decide (0≤xs[k])=false:=by simp at hb ⊢; omega
   exact ⟨by rw [hi]; unfold JH; rw [this]; rfl,trivial⟩
  have h0:decide (0≤xs[k])=true:=by simp at hb ⊢; omega
  simp -implicitDefEqProofs only [BI,BA,AY,BB,BL,BV,CO,EM,AO,AQ,AL,BD,AX,AC,AA,AZ,AU,BM,BG,CP,DR,BN,BR,BZ,AB,FX,↓reduceIte,jB,jA,jC,enP,JB,hb,f0,DF hkn',CX ag3 hkn',encN0]
  refine CU (fun hd => ?_) (fun hd => ?_)
  ·simp -implicitDefEqProofs only [BC,A8,BK,BA,CQ,EE,FK,CJ,AY,BB,AO,AQ,AL,BD,AX,AC,AA,AU,BM,A7,↓reduceIte,jA,jC]
   have:decide (xs[k] < (ns[k]:Int))=false:=by simp at hd ⊢; omega
   exact ⟨by rw [hi]; unfold JH; rw [this,h0]; rfl,trivial⟩
  have h1:decide (xs[k] < (ns[k]:Int))=true:=by simp at hd ⊢; omega
  simp -implicitDefEqProofs only [A8,BO,BA,EI,EP,AY,BB,AO,AQ,AL,BD,AX,AC,AA,AZ,AU,BH,BG,BR,AB,DK,↓reduceIte,jB,jA,jC,enP,f9,wrap_succ (show k < 9223372036854775807 by omega)]
  refine ⟨n - 1,by omega,k+1,by omega,by omega,f0,f1,f7,f8,rfl,trivial,?_⟩
  rw [hi]
  conv=>lhs; unfold JH
  rw [h0,h1]; rfl
 ·have hk' : ¬ k < xs.length:=by simpa using hc
  simp -implicitDefEqProofs only [BC,A8,BK,DI,BA,ED,EU,EW,CJ,AY,BB,AO,AQ,AL,BD,AX,AC,AA,AZ,BG,A7,BR,DU,AB,EG,↓reduceIte,jB,jA,jC,enP,JG,f0,f1,jH]
  refine ⟨?_,trivial⟩
  rw [hi,jX (show xs.length≤k by omega),AT2,List.length_drop]
  congr 1
  rw [Bool.eq_iff_iff]; simp; omega
theorem AJS (G:Nat→AV) (xs:List Is) (m:SM) (fid:FuncId) (caps:List AV) (p:Is→Bool) (h:Hp) (hl:xs.length≤1099511627776)
  (hf : ∀ r,PCall (En G) fid (.sl r.m 1 (r.l.map qencI) :: caps) h (.bool (p r))) :
  PCall (En G) 134 [.sl m 1 (xs.map encL),.fn (.func fid) [] caps] h (.int .i64 (match xs.findIdx? p with | some i=>(i:Int) | none => -1)):=by
 refine acN Tryz.func134 rfl ?_
 show awp _ _ _ _ _ (EJ _ [.tmp 4] _)
 simp -implicitDefEqProofs only [BC,BQ,A8,BA,AY,BB,AO,AQ,AL,BD,AX,AC,AA,AZ,AU,BH,BG,A7,DU,AB,BF,↓reduceIte,jB,jA,jC,enP,AMB,jH]
 refine DL (fun n F H => ∃ k,n+k=xs.length∧F 0 = .sl m 1 (xs.map encL)∧F 1 = .fn (.func fid) [] caps∧F 7 = .int .i64 xs.length∧F 8 = .int .i64 (k:Nat)∧H=h∧(xs.take k).all (fun r => !p r)=true) xs.length ⟨0,by simp,rfl,rfl,rfl,rfl,rfl,rfl⟩ ?_
 rintro n F H ⟨k,hk,f0,f1,f7,f8,rfl,hin⟩
 simp -implicitDefEqProofs only [BC,A8,BI,BA,AY,BB,AO,AQ,AL,BD,AX,AC,AA,AZ,BR,AB,CW,↓reduceIte,jA,jC,enP,f0,f1,f7,f8,jH]
 refine CU (fun hc => ?_) (fun hc => ?_)
 ·have hc':k < xs.length:=by simpa using hc
  simp -implicitDefEqProofs only [BC,BQ,A8,BO,BA,AY,BB,AO,AQ,AL,BD,AX,AC,AA,AZ,BG,A7,BN,BZ,CG,BX,AB,jE,jD,List.nil_append,List.cons_append,↓reduceIte,jB,jA,jC,enP,AA6,f0,f1,f7,f8,DF hc',CX LQ hc',AKA]
  refine (hf _).use ?_
  simp -implicitDefEqProofs only [BI,BA,BB,AC,AA,AZ,↓reduceIte]
  refine CU (fun hb => ?_) (fun hb => ?_)
  ·simp -implicitDefEqProofs only [BC,A8,BK,BA,CQ,EE,FK,CJ,AY,BB,AO,AQ,AL,BD,AX,AC,AA,AZ,BG,A7,↓reduceIte,jB,jA,jC]
   refine ⟨?_,trivial⟩
   rw [qV.2 ⟨hc',hb,fun j hj=>by
    rw [zG] at hin
    have:=hin xs[j] (by rw [List.mem_take_iff_getElem]; exact ⟨j,by omega,rfl⟩)
    simpa using this⟩]
  ·simp -implicitDefEqProofs only [A8,BO,BA,EI,EP,AY,BB,AO,AQ,AL,BD,AX,AC,AA,AZ,AU,BH,BG,BR,AB,DK,↓reduceIte,jB,jA,jC,enP,f8,wrap_succ (show k < 9223372036854775807 by omega)]
   refine ⟨n - 1,by omega,k+1,by omega,f0,f1,f7,rfl,trivial,?_⟩
   rw [zK hc',List.all_append,hin]
   simp only [List.all_cons,List.all_nil,hb]; rfl
 ·have hc' : ¬ k < xs.length:=by simpa using hc
  simp -implicitDefEqProofs only [BC,A8,BK,DI,BA,ED,EU,EW,CJ,AY,BB,AO,AQ,AL,BD,AX,AC,AA,AU,BH,A7,↓reduceIte,jA,jC]
  refine ⟨?_,trivial⟩
  rw [jW (by omega)] at hin
  rw [qW.2 (by simpa using hin)]
theorem QN (G:Nat→AV) (xs:List Is) (m:SM) (fid:FuncId) (caps:List AV) (p:Is→Bool) (h:Hp) (hl:xs.length≤1099511627776)
  (hf : ∀ r,PCall (En G) fid (.sl r.m 1 (r.l.map qencI) :: caps) h (.bool (p r))) :
  PCall (En G) 88 [.sl m 1 (xs.map encL),.fn (.func fid) [] caps] h (.bool (xs.any p)):=by
 refine acN Tryz.func88 rfl ?_
 show awp _ _ _ _ _ (EJ _ [.tmp 4] _)
 simp -implicitDefEqProofs only [BC,A8,BA,AY,BB,AO,AQ,AL,BD,AX,AC,AA,AZ,AU,CB,BM,BG,A7,CG,BX,BF,BP,jE,jD,jF,↓reduceIte,jB,jA,jC,enP]
 refine (AJS G xs m fid caps p h hl hf).use ?_
 simp -implicitDefEqProofs only [BK,BA,CJ,AY,BB,AO,AQ,AL,BD,AX,AC,AA,AZ,AU,BH,A7,BR,AB,FX,↓reduceIte,jA,jC,enP]
 refine ⟨?_,trivial⟩
 cases hx:xs.findIdx? p with
 | some i =>
   obtain ⟨h1,h2,_⟩:=qV.1 hx
   have:xs.any p=true:=List.any_eq_true.2 ⟨xs[i],by simp,h2⟩
   simp [this]
 | none =>
   have:xs.any p=false:=by
    rw [qW] at hx
    rw [wH]; intro x hx2; simp [hx x hx2]
   simp [this]
theorem AGH (G:Nat→AV) (ns:List Nat) (s:SM) (b:Nat) (r:Is) (h:Hp) (hb:h[b]? = some (.live 1 [[.sl s 1 (ns.map J9)]])) (hn:ns.length≤1048576) :
  PCall (En G) 89 [.sl r.m 1 (r.l.map qencI),.ptr b 0 0] h (.bool (!JH ns r.l)):=by
 refine acN Tryz.func89 rfl ?_
 show awp _ _ _ _ _ (EJ _ [.tmp 3] _)
 simp -implicitDefEqProofs only [BC,A8,BA,AY,BB,AO,AQ,AL,BD,AX,AC,AA,AZ,AU,CB,BM,BG,A7,BN,CG,BX,AB,BF,BP,jE,jD,jF,↓reduceIte,jB,jA,jC,enP,JR LQ hb]
 refine (inside_prog G ns r.l s r.m h hn).use ?_
 simp -implicitDefEqProofs only [BK,BA,CJ,AY,BB,AO,AQ,AL,BD,AX,AC,AA,AZ,A7,G7,AB,ES,↓reduceIte,jA,jC]
 exact ⟨trivial,trivial⟩
def VE (n:Nat):Option Int→List Int→Bool
 | _,[]=>true
 | o,p :: ps=>(decide (0≤p) && decide (p < (n:Int)) && (match o with | some q=>decide (q < p) | none=>true)) && VE n (some p) ps
def prev (l:List Int) (k:Nat):Option Int:=match k with
 | 0=>none
 | k+1=>l[k]?
theorem AFI (n:Nat) (l:List Int) (k:Nat) (hk:k < l.length):VE n (prev l k) (l.drop k)=((decide (0≤l[k]) && decide (l[k] < (n:Int)) && (match prev l k with | some q=>decide (q < l[k]) | none=>true)) && VE n (prev l (k+1)) (l.drop (k+1))):=by
 rw [zH hk]
 have:prev l (k+1)=some l[k]:=by unfold prev; exact jO hk
 rw [this]; rfl
theorem VR {m:Mo} : ∀ {l:List Int} {o:Option Int},VE m.pts.length o l=true→Here m l
 | [],_,_=>fun p hp=>by cases hp
 | x :: l,o,h=>by
   simp only [VE,jV,decide_eq_true_eq] at h
   intro p hp
   cases qI.1 hp with
   | inl e=>subst e; exact ⟨h.1.1.1,h.1.1.2⟩
   | inr e=>exact VR h.2 p e
def H8 (m:Mo) (c:Cr):Int :=
 if GM c.name=false then 7 else if c.pts.length < 2∨4 < c.pts.length then 1 else if VE m.pts.length none c.pts=false then 1 else
  if 256 < I4 (szs m c.pts)∨256 < c.excl.length then 2 else if (c.excl.any fun x => !JH (szs m c.pts) x.l) then 1 else 0
structure CrOk (c:Cr):Prop where
 name:c.name.size≤1048576
 pts:c.pts.length≤1048576
 excl:c.excl.length≤1048576
 each : ∀ x∈c.excl,x.l.length≤1048576
def Full (m:Mo):Prop := ∀ p∈m.pts,1≤p.bins.length∧p.bins.length≤64
theorem Full.szs {m:Mo} {l:List Int} (hf:Full m) (hh:Here m l) : ∀ n∈szs m l,1≤n∧n≤64:=by
 intro n hn
 obtain ⟨p,hp,rfl⟩:=zN.1 hn
 obtain ⟨h0,h1⟩:=hh p hp
 have hlt:p.toNat < m.pts.length:=by omega
 have:F9 m p=(m.pts[p.toNat]).bins:=by unfold F9; rw [jO hlt]
 rw [this]
 exact hf _ (jP hlt)
theorem A5Z (h:Hp):J8 Tryz.prog h 26=some (.ptr h.length 0 0,h ++ [.live 1 [[.sl .nil 0 []]]]):=JW (row := [.sl .nil 0 []]) (by kernel_rfl)
theorem ldM {h:Hp} {b:Nat} {m:Mo} (hb:h[b]? = some (.live 2 [D8 m])):D6 Tryz.prog h 25 (.ptr b 0 0)=some (.agg (D8 m)):=by
 rw [IE A4K AZ7 hb rfl (by rw [AUH]; exact jL 2)]; rfl
theorem ldC {h:Hp} {b:Nat} {c:Cr} (hb:h[b]? = some (.live 3 [G6 c])):D6 Tryz.prog h 69 (.ptr b 0 0)=some (.agg (G6 c)):=by
 rw [IE AHM ABU hb rfl (by rw [KZ]; exact jL 3)]; rfl
theorem AMX (G:Nat→AV) (hG:GOk G) (m:Mo) (c:Cr) (hc:CrOk c) (hf:Full m) (h:Hp):PCall (En G) 53 [.agg (D8 m),.agg (G6 c)] h (.int .i64 (H8 m c)):=by
 refine ACalls.pure0 rfl ?_
 have hc1:=hc.name
 have hc2:=hc.pts
 have hc3:=hc.excl
 refine acN Tryz.func53 rfl ?_
 show awp _ _ _ _ _ (EJ _ [.tmp 4] _)
 have gm:(h ++ [ABlk.live 2 [D8 m]] ++ [ABlk.live 3 [G6 c]])[h.length]? = some (.live 2 [D8 m]):=CV (CY _ _)
 have gc:(h ++ [ABlk.live 2 [D8 m]] ++ [ABlk.live 3 [G6 c]])[(h ++ [ABlk.live 2 [D8 m]]).length]? = some (.live 3 [G6 c]):=CY _ _
 have hx : ∃ x,h ++ [ABlk.live 2 [D8 m]] ++ [ABlk.live 3 [G6 c]]=h ++ x:=⟨_,zF _ _ _⟩
 have hlt:h.length < (h ++ [ABlk.live 2 [D8 m]]).length:=by simp
 simp -implicitDefEqProofs only [BC,A8,BA,AY,BB,AO,AQ,AL,BD,AX,AC,AA,AZ,AU,BH,A7,FD,BN,BJ,BU,AB,BF,BP,↓reduceIte,jB,jK,jA,jC,enP,XB,bxM,bxC]
 generalize h ++ [ABlk.live 2 [D8 m]] ++ [ABlk.live 3 [G6 c]]=H at gm gc hx ⊢
 generalize (h ++ [ABlk.live 2 [D8 m]]).length=cb at gc hlt ⊢
 have lm:D6 Tryz.prog H 22 (.ptr h.length 0 0)=some (.sl m.pm 6 (m.pts.map F8)):=by rw [DV YX gm (row:=D8 m) rfl,QY]
 have lc0:D6 Tryz.prog H 9 (.ptr cb 0 0)=some (.str c.name):=by rw [DV ag9 gc (row:=G6 c) rfl,ADH]
 have lc1:D6 Tryz.prog H 26 (.ptr cb 0 1)=some (.sl c.pm 1 (c.pts.map qencI)):=by rw [DV LQ gc (row:=G6 c) rfl,OT]
 have lc2:D6 Tryz.prog H 67 (.ptr cb 0 2)=some (.sl c.xm 1 (c.excl.map encL)):=by rw [DV UA gc (row:=G6 c) rfl,AO8]
 simp -implicitDefEqProofs only [AY,AO,AQ,AL,BD,AX,AC,AA,AZ,CB,CG,BX,AB,jE,jD,jF,↓reduceIte,jA,jC,lc0]
 refine (NK G hG.kw c.name _ (by omega)).use ?_
 simp -implicitDefEqProofs only [BI,BA,AY,BB,AO,AQ,AL,BD,AX,AC,AA,AZ,G7,AB,ES,↓reduceIte,jA,jC]
 cases h1:GM c.name
 ·simp -implicitDefEqProofs only [BC,A8,BK,BA,CQ,CJ,DT,AY,BB,AO,AQ,AL,BD,AX,AC,AA,AU,BH,A7,↓reduceIte,jA,jC]
  exact ⟨by unfold H8; rw [if_pos h1],hx⟩
 have h1' : ¬ GM c.name=false:=by rw [h1]; decide
 simp -implicitDefEqProofs only [BC,A8,BO,BA,D5,AY,BL,BV,CO,AO,AQ,AL,BD,AX,AC,AA,AZ,AU,BH,BG,BN,BR,BJ,DU,AB,CW,↓reduceIte,jB,jG,jA,jU,jC,enP,JG,JD,lc1,jH]
 refine II (fun h2 => ?_) (fun h2 => ?_)
 ·simp -implicitDefEqProofs only [BC,A8,BK,BI,BA,CQ,CJ,DT,AY,BB,BL,BV,CO,FP,AO,AQ,AL,BD,AX,AC,AA,EQ,AZ,AU,BH,BM,A7,CP,DY,↓reduceIte,jB,jA,jC,h2]
  exact ⟨by unfold H8; rw [if_neg h1',if_pos (.inl (by simp at h2; omega))],hx⟩
 simp -implicitDefEqProofs only [BI,BA,AY,BB,BL,BV,CO,EM,AO,AQ,AL,BD,AX,AC,AA,AZ,AU,BH,BM,CP,DR,BN,BR,BJ,DU,AB,EY,↓reduceIte,jB,jG,jA,jC,enP,JG,JD,h2,lc1,jH]
 refine CU (fun h3 => ?_) (fun h3 => ?_)
 ·simp -implicitDefEqProofs only [BC,A8,BK,BA,CQ,CJ,AY,BB,AO,AQ,AL,BD,AX,AC,AA,AU,BH,A7,↓reduceIte,jA,jC]
  exact ⟨by unfold H8; rw [if_neg h1',if_pos (.inr (by simp at h3; omega))],hx⟩
 have h23 : ¬ (c.pts.length < 2∨4 < c.pts.length):=by simp at h2 h3; omega
 simp -implicitDefEqProofs only [BC,BQ,A8,BO,BA,AY,BB,AO,AQ,AL,BD,AX,AC,AA,AZ,AU,BH,BG,BN,BJ,DU,AB,↓reduceIte,jB,jG,jA,jC,enP,JG,JD,lc1,jH]
 refine H7 0 (fun F H'=>F 2 = .ptr h.length 0 0∧F 3 = .ptr cb 0 0∧H'=H∧VE m.pts.length none c.pts=true) (fun F H'=>F 4 = .int .i64 1∧H'=H∧VE m.pts.length none c.pts=false) ?_ ?_ ?_
 ·refine DL (fun n F H' => ∃ k,n+k=c.pts.length∧F 2 = .ptr h.length 0 0∧F 3 = .ptr cb 0 0∧F 23 = .sl c.pm 1 (c.pts.map qencI)∧F 24 = .int .i64 c.pts.length∧F 25 = .int .i64 (k:Nat)∧H'=H∧VE m.pts.length none c.pts=VE m.pts.length (prev c.pts k) (c.pts.drop k)) c.pts.length ⟨0,by simp,by simp -implicitDefEqProofs only [AA,↓reduceIte,jB],by simp -implicitDefEqProofs only [AA,↓reduceIte,jB],by simp -implicitDefEqProofs only [AA,↓reduceIte,jB],by simp -implicitDefEqProofs only [AA,↓reduceIte,jB],by simp -implicitDefEqProofs only [AA,↓reduceIte]; rfl,rfl,rfl⟩ ?_
  rintro n F H' ⟨k,hk,f2,f3,f23,f24,f25,rfl,hi⟩
  simp -implicitDefEqProofs only [BC,A8,BI,BA,AY,BB,AO,AQ,AL,BD,AX,AC,AA,AZ,BR,AB,CW,↓reduceIte,jA,jC,enP,f24,f25]
  refine CU (fun hlt => ?_) (fun hlt => ?_)
  ·have hk':k < c.pts.length:=by simpa using hlt
   rw [AFI _ _ _ hk'] at hi
   simp -implicitDefEqProofs only [BC,BQ,A8,BO,BA,AY,BB,BL,BV,CO,AO,AQ,AL,BD,AX,AC,AA,AZ,AU,BH,BG,A7,BN,BR,BZ,AB,CW,↓reduceIte,jB,jA,jC,enP,JB,f2,f3,f23,f25,DF hk',CX ag3 hk',encI0]
   refine II (fun ha => ?_) (fun ha => ?_)
   ·simp -implicitDefEqProofs only [BC,A8,BK,BI,BA,CQ,EE,MS,FK,DT,AY,BB,BL,BV,CO,FP,RV,AO,AQ,AL,BD,AX,AC,AA,EQ,AZ,AU,BH,BM,BG,A7,CP,DY,↓reduceIte,jB,jA,jC,ha]
    have:decide (0≤c.pts[k])=false:=by simp at ha ⊢; omega
    exact ⟨trivial,trivial,by rw [hi,this]; rfl⟩
   have ha':decide (0≤c.pts[k])=true:=by simp at ha ⊢; omega
   simp -implicitDefEqProofs only [AY,BL,BV,CO,EM,AO,AQ,AL,BD,AX,AC,AA,AZ,AU,BM,BG,CP,DR,BN,BR,BJ,DU,AB,FX,↓reduceIte,jB,jK,jA,jC,enP,PD,GR,ha,f2,lm,jH]
   refine II (fun hb => ?_) (fun hb => ?_)
   ·simp -implicitDefEqProofs only [BC,A8,BK,BI,BA,CQ,EE,MS,FK,DT,AY,BB,BL,BV,CO,FP,RV,AO,AQ,AL,BD,AX,AC,AA,EQ,AZ,AU,BH,BM,A7,CP,DY,↓reduceIte,jB,jA,jC,hb]
    have:decide (c.pts[k] < (m.pts.length:Int))=false:=by simp at hb ⊢; omega
    exact ⟨trivial,trivial,by rw [hi,this,ha']; rfl⟩
   have hb':decide (c.pts[k] < (m.pts.length:Int))=true:=by simp at hb ⊢; omega
   rw [ha',hb'] at hi
   simp only [qJ] at hi
   cases k with
   | zero =>
     have hz:decide ((((0:Nat):Int)) > 0)=false:=by decide
     simp -implicitDefEqProofs only [A8,BO,BI,BA,EI,EP,D5,AY,BB,BL,BV,CO,EM,JK,AO,AQ,AL,BD,AX,AC,AA,EQ,AZ,AU,BH,BM,BG,CP,DR,BR,AB,DK,EY,↓reduceIte,jB,jG,jA,jC,enP,hb,hz,f25,wrap_succ (show 0 < 9223372036854775807 by omega)]
     exact ⟨n - 1,by omega,1,by omega,f2,f3,f23,f24,rfl,trivial,by rw [hi]; rfl⟩
   | succ k =>
     have hz:decide ((((k+1:Nat):Int)) > 0)=true:=by simp
     have hw:IntKind.i64.wrap (((k+1:Nat):Int) - 1)=(k:Int):=by rw [wrap_i64 (by omega) (by omega)]; omega
     have hk2:k < c.pts.length:=by omega
     have hpv:prev c.pts (k+1)=some c.pts[k]:=by unfold prev; exact jO hk2
     rw [hpv] at hi
     simp -implicitDefEqProofs only [BI,BA,AY,BB,BL,BV,CO,GV,EM,AO,AQ,AL,BD,AX,AC,AA,AZ,AU,BH,BM,BG,CP,DY,DR,BN,BR,BJ,BZ,AB,KX,KA,EY,↓reduceIte,jB,jG,jA,jC,enP,JB,JD,hb,hz,f3,lc1,hw,DF hk2,CX ag3 hk2,encI0]
     refine CU (fun hd => ?_) (fun hd => ?_)
     ·simp -implicitDefEqProofs only [BC,A8,BK,BA,CQ,EE,MS,FK,AY,BB,AO,AQ,AL,BD,AX,AC,AA,AU,BH,A7,↓reduceIte,jA,jC]
      have:decide (c.pts[k] < c.pts[k+1])=false:=by simp at hd ⊢; omega
      exact ⟨trivial,trivial,by rw [hi]; simp only [this]; rfl⟩
     ·simp -implicitDefEqProofs only [A8,BO,BA,EI,EP,AY,BB,AO,AQ,AL,BD,AX,AC,AA,AZ,AU,BH,BG,BR,AB,DK,↓reduceIte,jB,jA,jC,enP,f25,wrap_succ (show k+1 < 9223372036854775807 by omega)]
      have:decide (c.pts[k] < c.pts[k+1])=true:=by simp at hd ⊢; omega
      exact ⟨n - 1,by omega,k+1+1,by omega,f2,f3,f23,f24,rfl,trivial,by rw [hi]; simp only [this]; rfl⟩
  ·have hk' : ¬ k < c.pts.length:=by simpa using hlt
   simp -implicitDefEqProofs only [DI,ED,KQ,EW,AA,↓reduceIte,jB]
   exact ⟨f2,f3,trivial,by rw [hi,jX (by omega)]; rfl⟩
 ·rintro F H' ⟨f2,f3,rfl,hi⟩
  have hh:=VR hi
  have hi' : ¬ VE m.pts.length none c.pts=false:=by rw [hi]; decide
  simp -implicitDefEqProofs only [BC,A8,BA,EU,AY,AO,AQ,AL,BD,AX,AC,AA,AZ,CB,BN,CG,BX,AB,jE,jD,jF,↓reduceIte,jB,jA,jC,enP,f2,f3,ldM gm,ldC gc]
  refine (WJ G m c _ hh (by omega)).use ?_
  have hsz:(szs m c.pts).length≤4:=by unfold szs; simp; omega
  have hst:=QU (t:=26) (v := .sl .nil 0 []) (u := .sl (nm (szs m c.pts)) 1 ((szs m c.pts).map J9)) AH7 (AVS _ _ _) (CY H' (.live 1 [[.sl .nil 0 []]]))
  rw [AGA] at hst
  simp -implicitDefEqProofs only [BC,BQ,A8,BA,AY,BB,AO,AQ,AL,BD,AX,AC,E8,AA,AZ,CB,FV,BN,EN,CG,BX,BU,AB,DW,jE,jD,jF,↓reduceIte,jB,jA,jC,enP,jT,A5Z,hst,JR LQ (CY H' _)]
  refine (XY G _ _ _ (fun n hn=>(hf.szs hh n hn).2) hsz).use ?_
  have hx2 : ∃ x,H' ++ [ABlk.live 1 [[AV.sl (nm (szs m c.pts)) 1 ((szs m c.pts).map J9)]]]=h ++ x:=by
   obtain ⟨x,hx⟩:=hx
   exact ⟨x ++ _,by rw [hx,zF]⟩
  have lc2' : ∀ x,D6 Tryz.prog (H' ++ [x]) 67 (.ptr cb 0 2)=some (.sl c.xm 1 (c.excl.map encL)):=fun x=>by rw [DV UA (CV gc) (row:=G6 c) rfl,AO8]
  simp -implicitDefEqProofs only [AY,BL,BV,CO,AO,AQ,AL,BD,AX,AC,AA,AZ,AU,BH,BG,BR,AB,EY,↓reduceIte,jA,jC,enP]
  refine II (fun ha => ?_) (fun ha => ?_)
  ·simp -implicitDefEqProofs only [BC,A8,BK,BI,BA,CQ,EE,CJ,DT,AY,BB,BL,BV,CO,FP,AO,AQ,AL,BD,AX,AC,AA,EQ,AZ,AU,BH,BM,A7,CP,DY,↓reduceIte,jB,jA,jC,ha]
   exact ⟨by unfold H8; rw [if_neg h1',if_neg h23,if_neg hi',if_pos (.inl (by simp at ha; omega))],hx2⟩
  simp -implicitDefEqProofs only [BI,BA,AY,BB,BL,BV,CO,EM,AO,AQ,AL,BD,AX,AC,AA,AZ,AU,BH,BM,A7,CP,DR,BN,BR,BJ,DU,AB,EY,↓reduceIte,jB,jG,jA,jC,enP,AMB,RS,ha,f3,lc2',jH]
  refine CU (fun hb => ?_) (fun hb => ?_)
  ·simp -implicitDefEqProofs only [BC,A8,BK,BA,CQ,EE,CJ,AY,BB,AO,AQ,AL,BD,AX,AC,AA,AU,BH,A7,↓reduceIte,jA,jC]
   exact ⟨by unfold H8; rw [if_neg h1',if_neg h23,if_neg hi',if_pos (.inr (by simp at hb; omega))],hx2⟩
  have hab : ¬ (256 < I4 (szs m c.pts)∨256 < c.excl.length):=by simp at ha hb; omega
  simp -implicitDefEqProofs only [BC,A8,AY,AO,AQ,AL,BD,AX,AC,AA,AZ,CB,BN,IG,BJ,CG,BX,AB,jE,jD,jF,↓reduceIte,jB,jG,jA,jC,enP,RS,f3,lc2']
  refine (QN G c.excl c.xm 89 _ (fun x => !JH (szs m c.pts) x.l) _ (by omega) fun r=>AGH G _ _ _ r _ (CY H' _) (by omega)).use ?_
  simp -implicitDefEqProofs only [BI,BA,AY,BB,AO,AQ,AL,BD,AX,AC,AA,AZ,A7,↓reduceIte,jA,jC]
  cases he:c.excl.any fun x => !JH (szs m c.pts) x.l
  ·simp -implicitDefEqProofs only [BC,A8,BO,BK,BA,EI,CJ,D5,AY,BB,AO,AQ,AL,BD,AX,AC,AA,AU,BH,A7,↓reduceIte,jA,jC]
   exact ⟨by unfold H8; rw [if_neg h1',if_neg h23,if_neg hi',if_neg hab,he]; rfl,hx2⟩
  ·simp -implicitDefEqProofs only [BC,A8,BK,BA,CQ,EE,CJ,DT,AY,BB,AO,AQ,AL,BD,AX,AC,AA,AU,BH,A7,↓reduceIte,jA,jC]
   exact ⟨by unfold H8; rw [if_neg h1',if_neg h23,if_neg hi',if_neg hab,he]; rfl,hx2⟩
 ·rintro F H' ⟨f4,rfl,hi⟩
  simp -implicitDefEqProofs only [CQ,EE,CJ,f4]
  exact ⟨by unfold H8; rw [if_neg h1',if_neg h23,if_pos hi],hx⟩
theorem XQ (m:Mo) (l:List Int) (k:Nat) (hk:k < l.length):(szs m l)[k]? = some (F9 m l[k]).length:=by
 unfold szs; rw [jY,jO hk]; rfl
theorem KW (m:Mo) (l:List Int):(szs m l).length=l.length:=by unfold szs; simp
structure Two (h H:Hp) (m:Mo) (c:Cr) (cb:Nat):Prop where
 gm:H[h.length]? = some (.live 2 [D8 m])
 gc:H[cb]? = some (.live 3 [G6 c])
 hx : ∃ x,H=h ++ x
theorem Two.lm {h H:Hp} {m:Mo} {c:Cr} {cb:Nat} (t:Two h H m c cb):D6 Tryz.prog H 22 (.ptr h.length 0 0)=some (.sl m.pm 6 (m.pts.map F8)):=by rw [DV YX t.gm (row:=D8 m) rfl,QY]
theorem Two.l0 {h H:Hp} {m:Mo} {c:Cr} {cb:Nat} (t:Two h H m c cb):D6 Tryz.prog H 9 (.ptr cb 0 0)=some (.str c.name):=by rw [DV ag9 t.gc (row:=G6 c) rfl,ADH]
theorem Two.l1 {h H:Hp} {m:Mo} {c:Cr} {cb:Nat} (t:Two h H m c cb):D6 Tryz.prog H 26 (.ptr cb 0 1)=some (.sl c.pm 1 (c.pts.map qencI)):=by rw [DV LQ t.gc (row:=G6 c) rfl,OT]
theorem Two.l2 {h H:Hp} {m:Mo} {c:Cr} {cb:Nat} (t:Two h H m c cb):D6 Tryz.prog H 67 (.ptr cb 0 2)=some (.sl c.xm 1 (c.excl.map encL)):=by rw [DV UA t.gc (row:=G6 c) rfl,AO8]
theorem Two.mk' (h:Hp) (m:Mo) (c:Cr):Two h (h ++ [.live 2 [D8 m]] ++ [.live 3 [G6 c]]) m c (h ++ [ABlk.live 2 [D8 m]]).length:=⟨CV (CY _ _),CY _ _,⟨_,zF _ _ _⟩⟩
theorem ARF (G:Nat→AV) (m:Mo) (c:Cr) (h:Hp) (hh:Here m c.pts) (hf:Full m) (hl:c.pts.length≤1048576):PCall (En G) 96 [.agg (D8 m),.agg (G6 c)] h (.int .i64 (min (I4 (szs m c.pts)) 1000)):=by
 refine ACalls.pure0 rfl ?_
 refine acN Tryz.func96 rfl ?_
 show awp _ _ _ _ _ (EJ _ [.tmp 4] _)
 have t:=Two.mk' h m c
 simp -implicitDefEqProofs only [BC,BQ,A8,BA,AY,BB,AO,AQ,AL,BD,AX,AC,AA,AZ,AU,BH,A7,FD,BU,BF,BP,↓reduceIte,jB,jA,jC,enP,bxM,bxC]
 generalize h ++ [ABlk.live 2 [D8 m]] ++ [ABlk.live 3 [G6 c]]=H at t ⊢
 generalize (h ++ [ABlk.live 2 [D8 m]]).length=cb at t ⊢
 have hs:=hf.szs hh
 refine H7 0 (fun F H'=>(F 5 = .int .i64 (I4 (szs m c.pts):Nat)∨∃ n:Nat,1000≤n∧n≤I4 (szs m c.pts)∧F 5 = .int .i64 n)∧H'=H) (fun _ _=>False) ?_ ?_ (fun _ _ hh=>hh.elim)
 ·refine DL (fun n F H' => ∃ k,n+k=c.pts.length∧F 2 = .ptr h.length 0 0∧F 3 = .ptr cb 0 0∧F 5 = .int .i64 (I4 ((szs m c.pts).take k):Nat)∧F 6 = .int .i64 (k:Nat)∧H'=H) c.pts.length ⟨0,by simp,by simp -implicitDefEqProofs only [AA,↓reduceIte,jB],by simp -implicitDefEqProofs only [AA,↓reduceIte,jB],by simp -implicitDefEqProofs only [AA,↓reduceIte,jB]; rfl,by simp -implicitDefEqProofs only [AA,↓reduceIte]; rfl,rfl⟩ ?_
  rintro n F H' ⟨k,hk,f2,f3,f5,f6,rfl⟩
  simp -implicitDefEqProofs only [BC,A8,AY,BL,BV,CO,AO,AQ,AL,BD,AX,AC,AA,AZ,BG,BN,BR,BJ,DU,AB,CW,↓reduceIte,jB,jG,jA,jC,enP,JG,JD,f3,f6,t.l1,jH]
  refine II (fun ha => ?_) (fun ha => ?_)
  ·have hk':k < c.pts.length:=by simpa using ha
   simp -implicitDefEqProofs only [BI,BA,AY,BB,BL,BV,CO,GV,AO,AQ,AL,BD,AX,AC,AA,AZ,AU,BH,BM,BG,CP,DY,BR,AB,CW,↓reduceIte,jB,jA,jC,enP,ha,f5]
   refine CU (fun hb => ?_) (fun hb => ?_)
   ·have hb':I4 ((szs m c.pts).take k) < 1000:=by simp at hb; omega
    obtain ⟨s,ls⟩:=hh.ld hk' H'
    have hks:k < (szs m c.pts).length:=by rw [KW]; exact hk'
    have hgt:(szs m c.pts)[k]=(F9 m c.pts[k]).length:=G9 (XQ m c.pts k hk')
    have h64:=(hs _ (jP hks)).2
    rw [hgt] at h64
    have hpt:=WR (szs m c.pts) k hks
    rw [hgt] at hpt
    have hmul:I4 ((szs m c.pts).take k) * (F9 m c.pts[k]).length≤1000 * 64:=Nat.mul_le_mul (by omega) h64
    have hw:IntKind.i64.wrap ((I4 ((szs m c.pts).take k):Int) * ((F9 m c.pts[k]).length:Int))=((I4 ((szs m c.pts).take (k+1)):Nat):Int):=by
     rw [hpt,← Int.natCast_mul,MO (by omega)]
    simp -implicitDefEqProofs only [BC,BQ,BO,BA]
    refine EX (by kernel_rfl) ?_
    simp -implicitDefEqProofs only [F6,EF,DZ,FC,EH,FI,IK,FB,IB,D9,EC,I8,A8,BA,EI,EP,AY,BB,AO,AQ,AL,BD,AX,AC,AA,AZ,AU,BH,BG,A7,BN,BR,BJ,BZ,DU,AB,DK,Q8,↓reduceIte,jB,jM,jK,jG,jA,jC,enP,OY,GR,JB,PU,IQ,JD,f2,f3,f5,f6,t.lm,t.l1,DF hk',CX ag3 hk',encI0,hh.ix hk',ls,jH,hw,wrap_succ (show k < 9223372036854775807 by omega)]
    exact ⟨n - 1,by omega,k+1,by omega,trivial,trivial,rfl,rfl,trivial⟩
   ·simp -implicitDefEqProofs only [DI,ED,KQ,EW,AA,↓reduceIte,jB]
    exact ⟨.inr ⟨_,by simp at hb; omega,ALY _ _ (fun n hn=>(hs n hn).1),f5⟩,trivial⟩
  ·have hk' : ¬ k < c.pts.length:=by simpa using ha
   simp -implicitDefEqProofs only [DI,BI,BA,ED,KQ,EW,D5,AY,BB,BL,BV,CO,JK,AO,AQ,AL,BD,AX,AC,AA,EQ,AZ,AU,BM,CP,DR,↓reduceIte,jB,jA,jC,ha]
   refine ⟨.inl ?_,trivial⟩
   rw [jW (by rw [KW]; omega)] at f5
   exact f5
 ·rintro F H' ⟨f5,rfl⟩
  rcases f5 with f5 | ⟨n,h1,h2,f5⟩
  ·simp -implicitDefEqProofs only [BC,A8,BK,BA,EU,CJ,AY,BB,AO,AQ,AL,BD,AX,AC,AA,AZ,AU,BH,BG,A7,ANV,AB,AGN,↓reduceIte,jA,jC,f5]
   exact ⟨trivial,t.hx⟩
  ·simp -implicitDefEqProofs only [BC,A8,BK,BA,EU,CJ,AY,BB,AO,AQ,AL,BD,AX,AC,AA,AZ,AU,BH,BG,A7,ANV,AB,AGN,↓reduceIte,jA,jC,f5]
   exact ⟨by congr 1; omega,t.hx⟩
def placed (m:Mo) (c:Cr):Bool:=decide (2≤c.pts.length) && decide (c.pts.length≤4) && VE m.pts.length none c.pts
theorem AL1 (G:Nat→AV) (m:Mo) (c:Cr) (h:Hp) (hl:c.pts.length≤1048576):PCall (En G) 95 [.agg (D8 m),.agg (G6 c)] h (.bool (placed m c)):=by
 refine ACalls.pure0 rfl ?_
 refine acN Tryz.func95 rfl ?_
 show awp _ _ _ _ _ (EJ _ [.tmp 4] _)
 have t:=Two.mk' h m c
 simp -implicitDefEqProofs only [BC,A8,BA,AY,BB,AO,AQ,AL,BD,AX,AC,AA,AZ,AU,BM,A7,FD,BN,BJ,BU,AB,BF,BP,↓reduceIte,jB,jG,jA,jC,enP,JD,bxM,bxC]
 generalize h ++ [ABlk.live 2 [D8 m]] ++ [ABlk.live 3 [G6 c]]=H at t ⊢
 generalize (h ++ [ABlk.live 2 [D8 m]]).length=cb at t ⊢
 simp -implicitDefEqProofs only [AY,BL,BV,CO,AO,AQ,AL,BD,AX,AC,AA,AZ,AU,BH,BG,BR,DU,AB,CW,↓reduceIte,jA,jC,enP,JG,t.l1,jH]
 refine II (fun h2 => ?_) (fun h2 => ?_)
 ·simp -implicitDefEqProofs only [BC,A8,BK,BI,BA,CQ,CJ,DT,AY,BB,BL,BV,CO,FP,AO,AQ,AL,BD,AX,AC,AA,EQ,AZ,AU,BM,A7,CP,DY,↓reduceIte,jB,jA,jC,h2]
  have:decide (2≤c.pts.length)=false:=by simp at h2 ⊢; omega
  exact ⟨by unfold placed; rw [this]; rfl,t.hx⟩
 have d2:decide (2≤c.pts.length)=true:=by simp at h2 ⊢; omega
 simp -implicitDefEqProofs only [BI,BA,AY,BB,BL,BV,CO,EM,AO,AQ,AL,BD,AX,AC,AA,AZ,AU,BH,BM,CP,DR,BN,BR,BJ,DU,AB,EY,↓reduceIte,jB,jG,jA,jC,enP,JG,JD,h2,t.l1,jH]
 refine CU (fun h3 => ?_) (fun h3 => ?_)
 ·simp -implicitDefEqProofs only [BC,A8,BK,BA,CQ,CJ,AY,BB,AO,AQ,AL,BD,AX,AC,AA,AU,BM,A7,↓reduceIte,jA,jC]
  have:decide (c.pts.length≤4)=false:=by simp at h3 ⊢; omega
  exact ⟨by unfold placed; rw [this]; simp,t.hx⟩
 have d3:decide (c.pts.length≤4)=true:=by simp at h3 ⊢; omega
 have hpl:placed m c=VE m.pts.length none c.pts:=by unfold placed; rw [d2,d3]; rfl
 rw [hpl]
 simp -implicitDefEqProofs only [BC,BQ,A8,BO,BA,AY,BB,AO,AQ,AL,BD,AX,AC,AU,BH,A7,jA,jC]
 refine DL (fun n F H' => ∃ k,n+k=c.pts.length∧F 2 = .ptr h.length 0 0∧F 3 = .ptr cb 0 0∧F 5 = .int .i64 (k:Nat)∧H'=H∧VE m.pts.length none c.pts=VE m.pts.length (prev c.pts k) (c.pts.drop k)) c.pts.length ⟨0,by simp,by simp -implicitDefEqProofs only [AA,↓reduceIte,jB],by simp -implicitDefEqProofs only [AA,↓reduceIte,jB],by simp -implicitDefEqProofs only [AA,↓reduceIte]; rfl,rfl,rfl⟩ ?_
 rintro n F H' ⟨k,hk,f2,f3,f5,rfl,hi⟩
 simp -implicitDefEqProofs only [BC,A8,BI,BA,AY,BB,AO,AQ,AL,BD,AX,AC,AA,AZ,BG,BN,BR,BJ,DU,AB,CW,↓reduceIte,jB,jG,jA,jC,enP,JG,JD,f3,f5,t.l1,jH]
 refine CU (fun hlt => ?_) (fun hlt => ?_)
 ·have hk':k < c.pts.length:=by simpa using hlt
  rw [AFI _ _ _ hk'] at hi
  simp -implicitDefEqProofs only [BC,BQ,BO,BA]
  refine EX (by kernel_rfl) ?_
  simp -implicitDefEqProofs only [F6,EF,DZ,EH,FH,GK,FI,FB,IB,D9,EC,CO,AO,AA,AZ,AU,BH,BN,BR,BJ,BZ,AB,CW,↓reduceIte,jB,jM,jG,jA,enP,JB,JD,f2,f3,f5,t.l1,DF hk',CX ag3 hk',encI0]
  refine AF6 (fun ha => ?_) (fun ha => ?_)
  ·simp -implicitDefEqProofs only [F6,EF,DZ,FC,EH,FH,GK,AA2,A1K,FI,I7,BC,A8,BK,BI,BA,CQ,EE,FK,CJ,DT,AY,BB,CO,AO,AQ,AL,BD,AX,AC,AA,EQ,AZ,AU,BM,A7,CP,DY,↓reduceIte,jB,jM,jA,jC,ha]
   have:decide (0≤c.pts[k])=false:=by simp at ha ⊢; omega
   exact ⟨by rw [hi,this]; rfl,t.hx⟩
  have ha':decide (0≤c.pts[k])=true:=by simp at ha ⊢; omega
  simp -implicitDefEqProofs only [F6,EF,DZ,EH,FH,GK,UI,FI,I7,FB,IB,D9,EC,I8,CO,AO,AA,AZ,AU,BM,CP,DR,BN,BR,BJ,BZ,DU,AB,FX,↓reduceIte,jB,jM,jK,jG,jA,enP,PD,GR,JB,JD,ha,f2,f3,f5,t.lm,t.l1,DF hk',CX ag3 hk',encI0,jH]
  refine AF6 (fun hb => ?_) (fun hb => ?_)
  ·simp -implicitDefEqProofs only [F6,EF,DZ,FC,EH,FH,GK,AA2,A1K,I7,BC,A8,BK,BI,BA,CQ,EE,FK,CJ,DT,AY,BB,CO,AO,AQ,AL,BD,AX,AC,AA,EQ,AZ,AU,BM,A7,CP,DY,↓reduceIte,jB,jM,jA,jC,hb]
   have:decide (c.pts[k] < (m.pts.length:Int))=false:=by simp at hb ⊢; omega
   exact ⟨by rw [hi,this,ha']; rfl,t.hx⟩
  have hb':decide (c.pts[k] < (m.pts.length:Int))=true:=by simp at hb ⊢; omega
  rw [ha',hb'] at hi
  simp only [qJ] at hi
  cases k with
  | zero =>
    have hz:decide ((((0:Nat):Int)) > 0)=false:=by decide
    simp -implicitDefEqProofs only [F6,EF,DZ,FC,EH,FH,GK,UI,AF5,FI,I7,IB,A8,BO,BI,BA,EI,EP,D5,AY,BB,CO,AO,AQ,AL,BD,AX,AC,AA,EQ,AZ,AU,BH,BM,BG,A7,CP,DR,BR,AB,DK,EY,↓reduceIte,jB,jM,jG,jA,jC,enP,hb,hz,f5,wrap_succ (show 0 < 9223372036854775807 by omega)]
    exact ⟨n - 1,by omega,1,by omega,f2,f3,rfl,trivial,by rw [hi]; rfl⟩
  | succ k =>
    have hz:decide ((((k+1:Nat):Int)) > 0)=true:=by simp
    have hw:IntKind.i64.wrap (((k+1:Nat):Int) - 1)=(k:Int):=by rw [wrap_i64 (by omega) (by omega)]; omega
    have hk2:k < c.pts.length:=by omega
    have hpv:prev c.pts (k+1)=some c.pts[k]:=by unfold prev; exact jO hk2
    rw [hpv] at hi
    simp -implicitDefEqProofs only [F6,EF,DZ,FC,EH,FH,GK,PQ,UI,FI,I7,FB,IB,D9,EC,BI,BA,CO,AO,AA,AZ,AU,BH,BM,CP,DY,DR,BN,BR,BJ,BZ,AB,KX,KA,EY,↓reduceIte,jB,jM,jG,jA,enP,JB,JD,hb,hz,f3,f5,t.l1,hw,DF hk',DF hk2,CX ag3 hk',CX ag3 hk2,encI0]
    refine CU (fun hd => ?_) (fun hd => ?_)
    ·simp -implicitDefEqProofs only [BC,A8,BK,BA,CQ,EE,FK,CJ,AY,BB,AO,AQ,AL,BD,AX,AC,AA,AU,BM,A7,↓reduceIte,jA,jC]
     have:decide (c.pts[k] < c.pts[k+1])=false:=by simp at hd ⊢; omega
     exact ⟨by rw [hi]; simp only [this]; rfl,t.hx⟩
    ·simp -implicitDefEqProofs only [A8,BO,BA,EI,EP,AY,BB,AO,AQ,AL,BD,AX,AC,AA,AZ,AU,BH,BG,A7,BR,AB,DK,↓reduceIte,jB,jA,jC,enP,f5,wrap_succ (show k+1 < 9223372036854775807 by omega)]
     have:decide (c.pts[k] < c.pts[k+1])=true:=by simp at hd ⊢; omega
     exact ⟨n - 1,by omega,k+1+1,by omega,f2,f3,rfl,trivial,by rw [hi]; simp only [this]; rfl⟩
 ·have hk' : ¬ k < c.pts.length:=by simpa using hlt
  simp -implicitDefEqProofs only [BC,A8,BK,DI,BA,ED,EU,EW,CJ,AY,BB,AO,AQ,AL,BD,AX,AC,AA,AU,BM,A7,↓reduceIte,jA,jC]
  exact ⟨by rw [hi,jX (by omega)]; rfl,t.hx⟩
theorem ABA (G:Nat→AV) (m:Mo) (c:Cr) (x:Is) (h:Hp) (hh:Here m c.pts) (hl:c.pts.length≤1048576):PCall (En G) 97 [.agg (D8 m),.agg (G6 c),.sl x.m 1 (x.l.map qencI)] h (.bool (JH (szs m c.pts) x.l)):=by
 refine ACalls.pure0 rfl ?_
 refine acN Tryz.func97 rfl ?_
 show awp _ _ _ _ _ (EJ _ [.tmp 6] _)
 have t:=Two.mk' h m c
 simp -implicitDefEqProofs only [BC,A8,BA,AY,BB,AO,AQ,AL,BD,AX,AC,AA,AZ,AU,BM,BG,A7,FD,BN,BJ,DU,BU,AB,BF,BP,↓reduceIte,jB,jG,jA,jC,enP,JG,JD,bxM,bxC]
 generalize h ++ [ABlk.live 2 [D8 m]] ++ [ABlk.live 3 [G6 c]]=H at t ⊢
 generalize (h ++ [ABlk.live 2 [D8 m]]).length=cb at t ⊢
 simp -implicitDefEqProofs only [BI,BA,AY,BB,AO,AQ,AL,BD,AX,AC,AA,AZ,BR,DU,AB,ET,↓reduceIte,jB,jA,jC,enP,JG,t.l1,jH]
 refine CU (fun h2 => ?_) (fun h2 => ?_)
 ·simp -implicitDefEqProofs only [BC,A8,BK,BA,CQ,CJ,AY,BB,AO,AQ,AL,BD,AX,AC,AA,AU,BM,A7,↓reduceIte,jA,jC]
  have:JH (szs m c.pts) x.l=false:=by
   rw [← Bool.not_eq_true]; intro e
   have:=MC e
   rw [KW] at this
   simp at h2; omega
  exact ⟨by rw [this],t.hx⟩
 have hlen:x.l.length=c.pts.length:=by simp at h2; omega
 simp -implicitDefEqProofs only [BC,BQ,A8,BO,BA,AY,BB,AO,AQ,AL,BD,AX,AC,AU,BH,A7,jA,jC]
 refine DL (fun n F H' => ∃ k,n+k=x.l.length∧F 2 = .sl x.m 1 (x.l.map qencI)∧F 3 = .ptr h.length 0 0∧F 4 = .ptr cb 0 0∧F 7 = .int .i64 (k:Nat)∧H'=H∧JH (szs m c.pts) x.l=JH ((szs m c.pts).drop k) (x.l.drop k)) x.l.length ⟨0,by simp,by simp -implicitDefEqProofs only [AA,BF,BP,↓reduceIte,jB],by simp -implicitDefEqProofs only [AA,↓reduceIte,jB],by simp -implicitDefEqProofs only [AA,↓reduceIte,jB],by simp -implicitDefEqProofs only [AA,↓reduceIte]; rfl,rfl,rfl⟩ ?_
 rintro n F H' ⟨k,hk,f2,f3,f4,f7,rfl,hi⟩
 simp -implicitDefEqProofs only [BC,A8,BI,BA,AY,BB,AO,AQ,AL,BD,AX,AC,AA,AZ,BG,BR,DU,AB,CW,↓reduceIte,jB,jA,jC,enP,JG,f2,f7,jH]
 refine CU (fun hlt => ?_) (fun hlt => ?_)
 ·have hk':k < x.l.length:=by simpa using hlt
  have hkc:k < c.pts.length:=by omega
  have hks:k < (szs m c.pts).length:=by rw [KW]; exact hkc
  have hgt:(szs m c.pts)[k]=(F9 m c.pts[k]).length:=G9 (XQ m c.pts k hkc)
  rw [zH hk',zH hks,hgt] at hi
  obtain ⟨s,ls⟩:=hh.ld hkc H'
  simp -implicitDefEqProofs only [BC,BQ,BO,BA]
  refine EX (by kernel_rfl) ?_
  simp -implicitDefEqProofs only [F6,EF,DZ,EH,FH,GK,FI,FB,IB,EC,CO,AO,AA,AZ,AU,BH,BN,BR,BZ,AB,CW,↓reduceIte,jB,jM,jA,enP,JB,f2,f3,f4,f7,DF hk',CX ag3 hk',encI0]
  refine AF6 (fun ha => ?_) (fun ha => ?_)
  ·simp -implicitDefEqProofs only [F6,EF,DZ,FC,EH,FH,GK,AA2,I7,BC,A8,BK,BI,BA,CQ,EE,FK,CJ,DT,AY,BB,CO,AO,AQ,AL,BD,AX,AC,AA,EQ,AZ,AU,BM,A7,CP,DY,↓reduceIte,jB,jM,jA,jC,ha]
   have:decide (0≤x.l[k])=false:=by simp at ha ⊢; omega
   exact ⟨by rw [hi]; unfold JH; rw [this]; rfl,t.hx⟩
  have h0:decide (0≤x.l[k])=true:=by simp at ha ⊢; omega
  simp -implicitDefEqProofs only [F6,EF,DZ,FC,EH,FH,GK,UI,FI,I7,FB,IB,D9,EC,I8,BI,BA,CO,AO,AA,AZ,AU,BM,CP,DR,BN,BR,BJ,BZ,DU,AB,FX,↓reduceIte,jB,jM,jK,jG,jA,enP,OY,GR,JB,PU,IQ,JD,ha,f2,f3,f4,f7,t.lm,t.l1,DF hk',CX ag3 hk',DF hkc,CX ag3 hkc,encI0,hh.ix hkc,ls,jH]
  refine CU (fun hd => ?_) (fun hd => ?_)
  ·simp -implicitDefEqProofs only [BC,A8,BK,BA,CQ,EE,FK,CJ,AY,BB,AO,AQ,AL,BD,AX,AC,AA,AU,BM,A7,↓reduceIte,jA,jC]
   have:decide (x.l[k] < ((F9 m c.pts[k]).length:Int))=false:=by simp at hd ⊢; omega
   exact ⟨by rw [hi]; unfold JH; rw [this,h0]; rfl,t.hx⟩
  ·simp -implicitDefEqProofs only [A8,BO,BA,EI,EP,AY,BB,AO,AQ,AL,BD,AX,AC,AA,AZ,AU,BH,BG,A7,BR,AB,DK,↓reduceIte,jB,jA,jC,enP,f7,wrap_succ (show k < 9223372036854775807 by omega)]
   have h1:decide (x.l[k] < ((F9 m c.pts[k]).length:Int))=true:=by simp at hd ⊢; omega
   refine ⟨n - 1,by omega,k+1,by omega,f2,f3,f4,rfl,trivial,?_⟩
   rw [hi]
   conv=>lhs; unfold JH
   rw [h0,h1]; rfl
 ·have hk' : ¬ k < x.l.length:=by simpa using hlt
  simp -implicitDefEqProofs only [BC,A8,BK,DI,BA,ED,EU,EW,CJ,AY,BB,AO,AQ,AL,BD,AX,AC,AA,AU,BM,A7,↓reduceIte,jA,jC]
  exact ⟨by rw [hi,jX (show x.l.length≤k by omega),jX (by rw [KW]; omega)]; rfl,t.hx⟩
theorem ARH (G:Nat→AV) (m:Mo) (c:Cr) (hc:CrOk c) (hf:Full m) (h:Hp):PCall (En G) 58 [.agg (D8 m),.agg (G6 c)] h (.int .i64 (H8 m c)):=by
 refine ACalls.pure0 rfl ?_
 have hc2:=hc.pts
 have hc3:=hc.excl
 refine acN Tryz.func58 rfl ?_
 show awp _ _ _ _ _ (EJ _ [.tmp 4] _)
 have t:=Two.mk' h m c
 simp -implicitDefEqProofs only [BC,A8,BA,AY,BB,AO,AQ,AL,BD,AX,AC,AA,AZ,AU,BH,A7,FD,BN,BJ,BU,AB,BF,BP,↓reduceIte,jB,jK,jA,jC,enP,XB,bxM,bxC]
 generalize h ++ [ABlk.live 2 [D8 m]] ++ [ABlk.live 3 [G6 c]]=H at t ⊢
 generalize (h ++ [ABlk.live 2 [D8 m]]).length=cb at t ⊢
 simp -implicitDefEqProofs only [AY,AO,AQ,AL,BD,AX,AC,AA,AZ,CB,CG,BX,AB,jE,jD,jF,↓reduceIte,jA,jC,t.l0]
 refine (OZ G c.name _).use ?_
 simp -implicitDefEqProofs only [BI,BA,AY,BB,AO,AQ,AL,BD,AX,AC,AA,AZ,G7,AB,ES,↓reduceIte,jA,jC]
 cases h1:GM c.name
 ·simp -implicitDefEqProofs only [BC,A8,BK,BA,CQ,CJ,DT,AY,BB,AO,AQ,AL,BD,AX,AC,AA,AU,BH,A7,↓reduceIte,jA,jC]
  exact ⟨by unfold H8; rw [if_pos h1],t.hx⟩
 have h1' : ¬ GM c.name=false:=by rw [h1]; decide
 simp -implicitDefEqProofs only [BC,A8,BO,BA,D5,AY,AO,AQ,AL,BD,AX,AC,AA,AZ,CB,BN,CG,BX,AB,jE,jD,jF,↓reduceIte,jB,jA,jU,jC,enP,ldM t.gm,ldC t.gc]
 refine (AL1 G m c _ (by omega)).use ?_
 simp -implicitDefEqProofs only [BI,BA,AY,BB,AO,AQ,AL,BD,AX,AC,AA,AZ,G7,AB,ES,↓reduceIte,jA,jC]
 cases h2:placed m c
 ·simp -implicitDefEqProofs only [BC,A8,BK,BA,CQ,CJ,DT,AY,BB,AO,AQ,AL,BD,AX,AC,AA,AU,BH,A7,↓reduceIte,jA,jC]
  refine ⟨?_,t.hx⟩
  unfold H8; rw [if_neg h1']
  unfold placed at h2
  split
  ·rfl
  ·rename_i h3
   have d2:decide (2≤c.pts.length)=true:=by simp; omega
   have d3:decide (c.pts.length≤4)=true:=by simp; omega
   rw [d2,d3] at h2
   rw [if_pos (by simpa using h2)]
 unfold placed at h2
 simp only [jV,decide_eq_true_eq] at h2
 obtain ⟨⟨h3,h4⟩,h5⟩:=h2
 have h23 : ¬ (c.pts.length < 2∨4 < c.pts.length):=by omega
 have hi' : ¬ VE m.pts.length none c.pts=false:=by rw [h5]; decide
 have hh:=VR h5
 simp -implicitDefEqProofs only [BC,A8,BO,BA,D5,AY,AO,AQ,AL,BD,AX,AC,AA,AZ,CB,BN,CG,BX,AB,jE,jD,jF,↓reduceIte,jB,jA,jU,jC,enP,ldM t.gm,ldC t.gc]
 refine (ARF G m c _ hh hf (by omega)).use ?_
 simp -implicitDefEqProofs only [AY,BL,BV,CO,AO,AQ,AL,BD,AX,AC,AA,AZ,AU,BH,BG,BR,AB,EY,↓reduceIte,jA,jC,enP]
 refine II (fun ha => ?_) (fun ha => ?_)
 ·simp -implicitDefEqProofs only [BC,A8,BK,BI,BA,CQ,CJ,DT,AY,BB,BL,BV,CO,FP,AO,AQ,AL,BD,AX,AC,AA,EQ,AZ,AU,BH,BM,A7,CP,DY,↓reduceIte,jB,jA,jC,ha]
  exact ⟨by unfold H8; rw [if_neg h1',if_neg h23,if_neg hi',if_pos (.inl (by simp at ha; omega))],t.hx⟩
 simp -implicitDefEqProofs only [BI,BA,AY,BB,BL,BV,CO,EM,AO,AQ,AL,BD,AX,AC,AA,AZ,AU,BH,BM,CP,DR,BN,BR,BJ,DU,AB,EY,↓reduceIte,jB,jG,jA,jC,enP,AMB,RS,ha,t.l2,jH]
 refine CU (fun hb => ?_) (fun hb => ?_)
 ·simp -implicitDefEqProofs only [BC,A8,BK,BA,CQ,CJ,AY,BB,AO,AQ,AL,BD,AX,AC,AA,AU,BH,A7,↓reduceIte,jA,jC]
  exact ⟨by unfold H8; rw [if_neg h1',if_neg h23,if_neg hi',if_pos (.inr (by simp at hb; omega))],t.hx⟩
 have hab : ¬ (256 < I4 (szs m c.pts)∨256 < c.excl.length):=by simp at ha hb; omega
 have hce:H8 m c=if (c.excl.any fun x => !JH (szs m c.pts) x.l) then 1 else 0:=by
  unfold H8; rw [if_neg h1',if_neg h23,if_neg hi',if_neg hab]
 simp -implicitDefEqProofs only [BC,BQ,A8,BO,BA,AY,BB,AO,AQ,AL,BD,AX,AC,AU,BH,A7,jA,jC]
 refine DL (fun n F H' => ∃ k,n+k=c.excl.length∧F 2 = .ptr h.length 0 0∧F 3 = .ptr cb 0 0∧F 5 = .int .i64 (k:Nat)∧H'=H∧(c.excl.any fun x => !JH (szs m c.pts) x.l)=((c.excl.drop k).any fun x => !JH (szs m c.pts) x.l)) c.excl.length ⟨0,by simp,by simp -implicitDefEqProofs only [AA,↓reduceIte,jB],by simp -implicitDefEqProofs only [AA,↓reduceIte,jB],by simp -implicitDefEqProofs only [AA,↓reduceIte]; rfl,rfl,rfl⟩ ?_
 rintro n F H' ⟨k,hk,f2,f3,f5,rfl,hi⟩
 simp -implicitDefEqProofs only [BC,A8,BI,BA,AY,BB,AO,AQ,AL,BD,AX,AC,AA,AZ,BG,BN,BR,BJ,DU,AB,CW,↓reduceIte,jB,jG,jA,jC,enP,AMB,RS,f3,f5,t.l2,jH]
 refine CU (fun hlt => ?_) (fun hlt => ?_)
 ·have hk':k < c.excl.length:=by simpa using hlt
  have hs:=LD (fun x:Is => !JH (szs m c.pts) x.l) c.excl k hk'
  simp -implicitDefEqProofs only [BC,BQ,BO,BA]
  refine EX (by kernel_rfl) ?_
  simp -implicitDefEqProofs only [F6,EF,DZ,EH,FI,FB,API,D9,EC,GZ,F7,AO,AA,AZ,CB,BN,G7,BJ,BZ,AB,jE,jD,jF,↓reduceIte,jB,jM,jG,jA,enP,AA6,RS,f2,f3,f5,ldM t.gm,ldC t.gc,t.l2,DF hk',CX LQ hk',AKA]
  refine ⟨_,ABA G m c c.excl[k] _ hh (by omega),?_⟩
  try simp -implicitDefEqProofs only [DZ,FC,BI,BA,AA,AZ,AB,ES,↓reduceIte]
  cases hx:JH (szs m c.pts) c.excl[k].l
  ·simp -implicitDefEqProofs only [BC,A8,BK,BA,CQ,EE,FK,CJ,DT,AY,BB,AO,AQ,AL,BD,AX,AC,AA,AU,BH,A7,↓reduceIte,jA,jC]
   exact ⟨by rw [hce,hi,hs,hx]; rfl,t.hx⟩
  ·simp -implicitDefEqProofs only [A8,BO,BA,EI,EP,D5,AY,BB,AO,AQ,AL,BD,AX,AC,AA,AZ,AU,BH,BG,A7,BR,AB,DK,↓reduceIte,jB,jA,jU,jC,enP,f5,wrap_succ (show k < 9223372036854775807 by omega)]
   refine ⟨n - 1,by omega,k+1,by omega,f2,f3,rfl,trivial,?_⟩
   rw [hi,hs,hx]; rfl
 ·have hk' : ¬ k < c.excl.length:=by simpa using hlt
  simp -implicitDefEqProofs only [BC,A8,BK,DI,BA,ED,EU,EW,CJ,AY,BB,AO,AQ,AL,BD,AX,AC,AA,AU,BH,A7,↓reduceIte,jA,jC]
  exact ⟨by rw [hce,hi,jX (by omega)]; rfl,t.hx⟩
structure MoOk (m:Mo):Prop where
 np:m.pts.length≤1048576
 nc:m.crs.length≤1048576
 pts : ∀ p∈m.pts,PtOk p
 crs : ∀ c∈m.crs,CrOk c
def G5 (m:Mo):Int :=
 if 16 < m.pts.length+m.crs.length then 2 else if JZ GL m.pts≠0 then JZ GL m.pts else if MZ (m.pts.map (·.name)) then 8 else
  if JZ (H8 m) m.crs≠0 then JZ (H8 m) m.crs else if MZ (m.crs.map (·.name)) then 8 else 0
theorem OA {α:Type} (f:α→Int) : ∀ {xs:List α},JZ f xs=0→∀ x∈xs,f x=0
 | [],_,_,hx=>by cases hx
 | y :: ys,h,x,hx=>by
   simp only [JZ] at h
   split at h
   ·rename_i h0
    cases qI.1 hx with
    | inl e=>subst e; exact h0
    | inr e=>exact OA f h x e
   ·rename_i h0; exact absurd h h0
theorem AAL {p:Pt} (h:GL p=0):1≤p.bins.length∧p.bins.length≤64:=by
 unfold GL at h
 split at h
 ·cases h
 ·split at h
  ·rename_i h2; exact absurd h h2
  ·split at h
   ·cases h
   ·split at h
    ·cases h
    ·omega
theorem full_of {m:Mo} (h:JZ GL m.pts=0):Full m:=fun p hp=>AAL (OA _ h p hp)
theorem AYZ (h:Hp):J8 Tryz.prog h 51=some (.ptr h.length 0 0,h ++ [.live 6 [[.str ⟨#[]⟩,.int .i64 0,.int .i64 0,.str ⟨#[]⟩,.sl .nil 0 [],.sl .nil 0 []]]]):=JW (row := [.str ⟨#[]⟩,.int .i64 0,.int .i64 0,.str ⟨#[]⟩,.sl .nil 0 [],.sl .nil 0 []]) (by kernel_rfl)
theorem AWL (h:Hp) (p:Pt) (row:List AV) (hr:row.length=6):FM Tryz.prog (h ++ [.live 6 [row]]) 51 (.ptr h.length 0 0) (.agg (F8 p))=some (h ++ [.live 6 [F8 p]]):=by
 rw [NI (PM (ZV p)) (by rw [JC]; exact Y5) (by rw [JC,hr]; exact jL _)]
 have:splice row 0 (F8 p)=F8 p:=by unfold splice; simp [JC,hr]
 rw [this]
theorem ldP {h:Hp} {b:Nat} {p:Pt} (hb:h[b]? = some (.live 6 [F8 p])):D6 Tryz.prog h 51 (.ptr b 0 0)=some (.agg (F8 p)):=by
 rw [IE AD4 Y5 hb rfl (by rw [JC]; exact jL 6),zM,jW (by rw [JC]; exact jL 6)]
theorem AVN (h:Hp):J8 Tryz.prog h 69=some (.ptr h.length 0 0,h ++ [.live 3 [[.str ⟨#[]⟩,.sl .nil 0 [],.sl .nil 0 []]]]):=JW (row := [.str ⟨#[]⟩,.sl .nil 0 [],.sl .nil 0 []]) (by kernel_rfl)
theorem ASO (h:Hp) (c:Cr) (row:List AV) (hr:row.length=3):FM Tryz.prog (h ++ [.live 3 [row]]) 69 (.ptr h.length 0 0) (.agg (G6 c))=some (h ++ [.live 3 [G6 c]]):=by
 rw [NI (PM rfl) (by rw [KZ]; exact ABU) (by rw [KZ,hr]; exact jL _)]
 have:splice row 0 (G6 c)=G6 c:=by unfold splice; simp [KZ,hr]
 rw [this]
theorem ACG (G:Nat→AV) (hG:GOk G) (m:Mo) (hm:MoOk m) (h:Hp):PCall (En G) 27 [.agg (D8 m)] h (.int .i64 (G5 m)):=by
 refine ACalls.pure0 rfl ?_
 have hm1:=hm.np
 have hm2:=hm.nc
 refine acN Tryz.func27 rfl ?_
 show awp _ _ _ _ _ (EJ _ [.tmp 2] _)
 have hw:IntKind.i64.wrap ((m.pts.length:Int)+(m.crs.length:Int))=(m.pts.length:Int)+(m.crs.length:Int):=wrap_i64 (by omega) (by omega)
 simp -implicitDefEqProofs only [BC,A8,BI,BA,AY,BB,AO,AQ,AL,BD,AX,AC,AA,AZ,AU,BH,A7,FD,BN,BR,BJ,DU,BU,AB,DK,EY,BF,↓reduceIte,jB,jK,jG,jA,jC,enP,PD,VW,GR,IW,bxM,C9 YX,C9 AAA,QY,SS,jH,hw]
 refine CU (fun h1 => ?_) (fun h1 => ?_)
 ·simp -implicitDefEqProofs only [BC,A8,BK,BA,CQ,CJ,AY,BB,AO,AQ,AL,BD,AX,AC,AA,AU,BH,A7,↓reduceIte,jA,jC]
  exact ⟨by unfold G5; rw [if_pos (by simp at h1; omega)],_,rfl⟩
 have h1' : ¬ 16 < m.pts.length+m.crs.length:=by simp at h1; omega
 have hme:G5 m=if JZ GL m.pts≠0 then JZ GL m.pts else if MZ (m.pts.map (·.name)) then 8 else if JZ (H8 m) m.crs≠0 then JZ (H8 m) m.crs else if MZ (m.crs.map (·.name)) then 8 else 0:=by
  unfold G5; rw [if_neg h1']
 have lm0 : ∀ H:Hp,H[h.length]? = some (.live 2 [D8 m])→D6 Tryz.prog H 22 (.ptr h.length 0 0)=some (.sl m.pm 6 (m.pts.map F8)):=fun H hH=>by rw [DV YX hH (row:=D8 m) rfl,QY]
 have lm1 : ∀ H:Hp,H[h.length]? = some (.live 2 [D8 m])→D6 Tryz.prog H 23 (.ptr h.length 0 1)=some (.sl m.cm 3 (m.crs.map G6)):=fun H hH=>by rw [DV AAA hH (row:=D8 m) rfl,SS]
 simp -implicitDefEqProofs only [BC,BQ,A8,BO,BA,AY,BB,AO,AQ,AL,BD,AX,AC,AA,AZ,AU,BH,BG,BN,BJ,DU,AB,↓reduceIte,jB,jK,jA,jC,enP,PD,GR,C9 YX,QY,jH]
 refine H7 0 (fun F H=>F 1 = .ptr h.length 0 0∧H[h.length]? = some (.live 2 [D8 m])∧(∃ x,H=h ++ x)∧JZ GL m.pts=0) (fun F H=>F 2 = .int .i64 (G5 m)∧∃ x,H=h ++ x) ?_ ?_ ?_
 ·refine DL (fun n F H => ∃ k,n+k=m.pts.length∧F 1 = .ptr h.length 0 0∧F 18 = .sl m.pm 6 (m.pts.map F8)∧F 19 = .int .i64 m.pts.length∧F 20 = .int .i64 (k:Nat)∧H[h.length]? = some (.live 2 [D8 m])∧(∃ x,H=h ++ x)∧JZ GL m.pts=JZ GL (m.pts.drop k)) m.pts.length ⟨0,by simp,by simp -implicitDefEqProofs only [AA,↓reduceIte,jB],by simp -implicitDefEqProofs only [AA,↓reduceIte,jB],by simp -implicitDefEqProofs only [AA,↓reduceIte,jB],by simp -implicitDefEqProofs only [AA,↓reduceIte]; rfl,CY _ _,⟨_,rfl⟩,rfl⟩ ?_
  rintro n F H ⟨k,hk,f1,f18,f19,f20,hb,⟨x,hx⟩,hf⟩
  simp -implicitDefEqProofs only [BC,A8,BI,BA,AY,BB,AO,AQ,AL,BD,AX,AC,AA,AZ,BR,AB,CW,↓reduceIte,jA,jC,enP,f19,f20]
  refine CU (fun hc => ?_) (fun hc => ?_)
  ·have hk':k < m.pts.length:=by simpa using hc
   have hs:=O1 GL m.pts k hk'
   simp -implicitDefEqProofs only [BC,BQ,A8,BO,BA,AY,BB,AO,AQ,AL,BD,AX,AC,E8,AA,AZ,CB,FV,BN,EN,BZ,CG,BX,BU,AB,DW,jE,jD,jF,↓reduceIte,jB,jA,jC,enP,OY,jT,f18,f20,DF hk',FT AD4 Y5 JC hk',AYZ,AWL _ _ [.str ⟨#[]⟩,.int .i64 0,.int .i64 0,.str ⟨#[]⟩,.sl .nil 0 [],.sl .nil 0 []] rfl,ldP (CY H (.live 6 [F8 m.pts[k]]))]
   refine (AB8 G hG m.pts[k] (hm.pts _ (jP hk')) _).use ?_
   simp -implicitDefEqProofs only [BC,A8,BI,BA,AY,BB,AO,AQ,AL,BD,AX,AC,AA,AZ,AU,BH,BG,A7,BR,AB,ET,↓reduceIte,jA,jC,enP]
   refine CU (fun hv => ?_) (fun hv => ?_)
   ·simp -implicitDefEqProofs only [BC,A8,BK,BA,CQ,EE,MS,FK,AY,BB,AO,AQ,AL,BD,AX,AC,AA,AZ,BG,A7,↓reduceIte,jB,jA,jC]
    have hv':GL m.pts[k]≠0:=by simpa using hv
    have:JZ GL m.pts=GL m.pts[k]:=by rw [hf,hs,if_neg hv']
    exact ⟨by rw [hme,this,if_pos hv'],x ++ _,by rw [hx,zF]⟩
   ·have hv':GL m.pts[k]=0:=by simpa using hv
    simp -implicitDefEqProofs only [A8,BO,BA,EI,EP,AY,BB,AO,AQ,AL,BD,AX,AC,AA,AZ,AU,BH,BG,BR,AB,DK,↓reduceIte,jB,jA,jC,enP,f20,wrap_succ (show k < 9223372036854775807 by omega)]
    exact ⟨n - 1,by omega,k+1,by omega,f1,f18,f19,rfl,CV hb,⟨x ++ _,by rw [hx,zF]⟩,by rw [hf,hs,if_pos hv']⟩
  ·have hk' : ¬ k < m.pts.length:=by simpa using hc
   simp -implicitDefEqProofs only [DI,ED,KQ,EW,AA,↓reduceIte,jB]
   exact ⟨f1,hb,⟨x,hx⟩,by rw [hf,jX (by omega)]; rfl⟩
 ·rintro F H ⟨f1,hb,hx0,hf⟩
  have hfull:=full_of hf
  rw [hf,if_neg (fun hh=>hh rfl)] at hme
  simp -implicitDefEqProofs only [BC,A8,BA,EU,AY,AO,AQ,AL,BD,AX,AC,AA,AZ,CB,BN,BJ,CG,BX,AB,jE,jD,jF,↓reduceIte,jK,jA,jC,enP,GR,f1,lm0 _ hb]
  refine (AP2 G m.pts m.pm H (by omega)).use ?_
  simp -implicitDefEqProofs only [BI,BA,BB,AC,AA,AZ,↓reduceIte]
  cases hd:MZ (m.pts.map (·.name))
  case true =>
   simp -implicitDefEqProofs only [BC,A8,BK,BA,CQ,CJ,DT,AY,BB,AO,AQ,AL,BD,AX,AC,AA,AU,BH,A7,↓reduceIte,jA,jC]
   exact ⟨by rw [hme,hd]; rfl,hx0⟩
  rw [hd] at hme
  simp only [jZ,if_false] at hme
  simp -implicitDefEqProofs only [BC,BQ,A8,BO,BA,D5,AY,BB,AO,AQ,AL,BD,AX,AC,AA,AZ,AU,BH,BG,BN,BJ,DU,AB,↓reduceIte,jB,jG,jA,jC,enP,VW,IW,f1,lm1 _ hb,jH]
  refine H7 2 (fun F H=>F 1 = .ptr h.length 0 0∧H[h.length]? = some (.live 2 [D8 m])∧(∃ x,H=h ++ x)∧JZ (H8 m) m.crs=0) (fun F H=>F 2 = .int .i64 (G5 m)∧∃ x,H=h ++ x) ?_ ?_ ?_
  ·refine DL (fun n F H => ∃ k,n+k=m.crs.length∧F 1 = .ptr h.length 0 0∧F 34 = .sl m.cm 3 (m.crs.map G6)∧F 35 = .int .i64 m.crs.length∧F 36 = .int .i64 (k:Nat)∧H[h.length]? = some (.live 2 [D8 m])∧(∃ x,H=h ++ x)∧JZ (H8 m) m.crs=JZ (H8 m) (m.crs.drop k)) m.crs.length ⟨0,by simp,by simp -implicitDefEqProofs only [AA,↓reduceIte,jB,f1],by simp -implicitDefEqProofs only [AA,↓reduceIte,jB],by simp -implicitDefEqProofs only [AA,↓reduceIte,jB],by simp -implicitDefEqProofs only [AA,↓reduceIte]; rfl,hb,hx0,rfl⟩ ?_
   clear f1 hb hx0
   rintro n F H ⟨k,hk,f1,f34,f35,f36,hb,⟨x,hx⟩,hf⟩
   simp -implicitDefEqProofs only [BC,A8,BI,BA,AY,BB,AO,AQ,AL,BD,AX,AC,AA,AZ,BR,AB,CW,↓reduceIte,jA,jC,enP,f35,f36]
   refine CU (fun hc => ?_) (fun hc => ?_)
   ·have hk':k < m.crs.length:=by simpa using hc
    have hs:=O1 (H8 m) m.crs k hk'
    simp -implicitDefEqProofs only [BC,BQ,A8,BO,BA,AY,BB,AO,AQ,AL,BD,AX,AC,E8,AA,AZ,CB,FV,BN,EN,BZ,CG,BX,BU,AB,DW,jE,jD,jF,↓reduceIte,jB,jA,jC,enP,PE,jT,f1,f34,f36,DF hk',FT AHM ABU KZ hk',AVN,ASO _ _ [.str ⟨#[]⟩,.sl .nil 0 [],.sl .nil 0 []] rfl,ldC (CY H (.live 3 [G6 m.crs[k]])),ldM (CV (x := .live 3 [G6 m.crs[k]]) hb)]
    refine (AMX G hG m m.crs[k] (hm.crs _ (jP hk')) hfull _).use ?_
    simp -implicitDefEqProofs only [BC,A8,BI,BA,AY,BB,AO,AQ,AL,BD,AX,AC,AA,AZ,AU,BH,BG,A7,BR,AB,ET,↓reduceIte,jA,jC,enP]
    refine CU (fun hv => ?_) (fun hv => ?_)
    ·simp -implicitDefEqProofs only [BC,A8,BK,BA,CQ,EE,MS,FK,AY,BB,AO,AQ,AL,BD,AX,AC,AA,AZ,BG,A7,↓reduceIte,jB,jA,jC]
     have hv':H8 m m.crs[k]≠0:=by simpa using hv
     have:JZ (H8 m) m.crs=H8 m m.crs[k]:=by rw [hf,hs,if_neg hv']
     exact ⟨by rw [hme,this,if_pos hv'],x ++ _,by rw [hx,zF]⟩
    ·have hv':H8 m m.crs[k]=0:=by simpa using hv
     simp -implicitDefEqProofs only [A8,BO,BA,EI,EP,AY,BB,AO,AQ,AL,BD,AX,AC,AA,AZ,AU,BH,BG,BR,AB,DK,↓reduceIte,jB,jA,jC,enP,f36,wrap_succ (show k < 9223372036854775807 by omega)]
     exact ⟨n - 1,by omega,k+1,by omega,f1,f34,f35,rfl,CV hb,⟨x ++ _,by rw [hx,zF]⟩,by rw [hf,hs,if_pos hv']⟩
   ·have hk' : ¬ k < m.crs.length:=by simpa using hc
    simp -implicitDefEqProofs only [DI,ED,KQ,EW,AA,↓reduceIte,jB]
    exact ⟨f1,hb,⟨x,hx⟩,by rw [hf,jX (by omega)]; rfl⟩
  ·rintro F H ⟨f1,hb,hx,hf⟩
   rw [hf,if_neg (fun hh=>hh rfl)] at hme
   simp -implicitDefEqProofs only [BC,A8,BA,EU,AY,AO,AQ,AL,BD,AX,AC,AA,AZ,CB,BN,BJ,CG,BX,AB,jE,jD,jF,↓reduceIte,jG,jA,jC,enP,IW,f1,lm1 _ hb]
   refine (AP3 G m.crs m.cm H (by omega)).use ?_
   simp -implicitDefEqProofs only [BI,BA,BB,AC,AA,AZ,↓reduceIte]
   cases hd:MZ (m.crs.map (·.name))
   ·simp -implicitDefEqProofs only [BC,A8,BO,BK,BA,CJ,D5,AY,BB,AO,AQ,AL,BD,AX,AC,AA,AU,BH,A7,↓reduceIte,jA,jC]
    exact ⟨by rw [hme,hd]; rfl,hx⟩
   ·simp -implicitDefEqProofs only [BC,A8,BK,BA,CQ,CJ,DT,AY,BB,AO,AQ,AL,BD,AX,AC,AA,AU,BH,A7,↓reduceIte,jA,jC]
    exact ⟨by rw [hme,hd]; rfl,hx⟩
  ·rintro F H ⟨f2,hx⟩
   simp -implicitDefEqProofs only [CQ,EE,CJ,f2]
   exact ⟨trivial,hx⟩
 ·rintro F H ⟨f2,hx⟩
  simp -implicitDefEqProofs only [CQ,EE,CJ,f2]
  exact ⟨trivial,hx⟩
theorem AQG (G:Nat→AV) (m:Mo) (hm:MoOk m) (h:Hp):PCall (En G) 29 [.agg (D8 m)] h (.int .i64 (G5 m)):=by
 refine ACalls.pure0 rfl ?_
 have hm1:=hm.np
 have hm2:=hm.nc
 refine acN Tryz.func29 rfl ?_
 show awp _ _ _ _ _ (EJ _ [.tmp 2] _)
 have hw:IntKind.i64.wrap ((m.pts.length:Int)+(m.crs.length:Int))=(m.pts.length:Int)+(m.crs.length:Int):=wrap_i64 (by omega) (by omega)
 have gm:=CY h (.live 2 [D8 m])
 have hx : ∃ x,h ++ [ABlk.live 2 [D8 m]]=h ++ x:=⟨_,rfl⟩
 simp -implicitDefEqProofs only [BC,A8,BA,AY,BB,AO,AQ,AL,BD,AX,AC,AA,AZ,AU,BH,A7,FD,BN,BJ,BU,AB,BF,↓reduceIte,jB,jK,jA,jC,enP,GR,bxM]
 generalize h ++ [ABlk.live 2 [D8 m]]=H at gm hx ⊢
 have lm0:D6 Tryz.prog H 22 (.ptr h.length 0 0)=some (.sl m.pm 6 (m.pts.map F8)):=by rw [DV YX gm (row:=D8 m) rfl,QY]
 have lm1:D6 Tryz.prog H 23 (.ptr h.length 0 1)=some (.sl m.cm 3 (m.crs.map G6)):=by rw [DV AAA gm (row:=D8 m) rfl,SS]
 simp -implicitDefEqProofs only [BI,BA,AY,BB,AO,AQ,AL,BD,AX,AC,AA,AZ,AU,BH,BN,BR,BJ,DU,AB,DK,EY,↓reduceIte,jB,jG,jA,jC,enP,PD,VW,IW,lm0,lm1,jH,hw]
 refine CU (fun h1 => ?_) (fun h1 => ?_)
 ·simp -implicitDefEqProofs only [BC,A8,BK,BA,CQ,CJ,AY,BB,AO,AQ,AL,BD,AX,AC,AA,AU,BH,A7,↓reduceIte,jA,jC]
  exact ⟨by unfold G5; rw [if_pos (by simp at h1; omega)],hx⟩
 have h1' : ¬ 16 < m.pts.length+m.crs.length:=by simp at h1; omega
 have hme:G5 m=if JZ GL m.pts≠0 then JZ GL m.pts else if MZ (m.pts.map (·.name)) then 8 else if JZ (H8 m) m.crs≠0 then JZ (H8 m) m.crs else if MZ (m.crs.map (·.name)) then 8 else 0:=by
  unfold G5; rw [if_neg h1']
 simp -implicitDefEqProofs only [BC,BQ,A8,BO,BA,AY,BB,AO,AQ,AL,BD,AX,AC,AU,BH,A7,jA,jC]
 refine H7 0 (fun F H'=>F 1 = .ptr h.length 0 0∧H'=H∧JZ GL m.pts=0) (fun F H'=>F 2 = .int .i64 (G5 m)∧H'=H) ?_ ?_ ?_
 ·refine DL (fun n F H' => ∃ k,n+k=m.pts.length∧F 1 = .ptr h.length 0 0∧F 3 = .int .i64 (k:Nat)∧H'=H∧JZ GL m.pts=JZ GL (m.pts.drop k)) m.pts.length ⟨0,by simp,by simp -implicitDefEqProofs only [AA,↓reduceIte,jB],by simp -implicitDefEqProofs only [AA,↓reduceIte]; rfl,rfl,rfl⟩ ?_
  rintro n F H' ⟨k,hk,f1,f3,rfl,hf⟩
  simp -implicitDefEqProofs only [BC,A8,BI,BA,AY,BB,AO,AQ,AL,BD,AX,AC,AA,AZ,BG,BN,BR,BJ,DU,AB,CW,↓reduceIte,jB,jK,jA,jC,enP,PD,GR,f1,f3,lm0,jH]
  refine CU (fun hc => ?_) (fun hc => ?_)
  ·have hk':k < m.pts.length:=by simpa using hc
   have hs:=O1 GL m.pts k hk'
   simp -implicitDefEqProofs only [BC,BQ,A8,BO,BA,AY,AO,AQ,AL,BD,AX,AC,AA,AZ,CB,BG,BN,BJ,BZ,CG,BX,AB,jE,jD,jF,↓reduceIte,jB,jK,jA,jC,enP,OY,GR,f1,f3,lm0,DF hk',FT AD4 Y5 JC hk']
   refine (AP8 G m.pts[k] (hm.pts _ (jP hk')) _).use ?_
   simp -implicitDefEqProofs only [BC,A8,BI,BA,AY,BB,AO,AQ,AL,BD,AX,AC,AA,AZ,AU,BH,BG,A7,BR,AB,ET,↓reduceIte,jA,jC,enP]
   refine CU (fun hv => ?_) (fun hv => ?_)
   ·simp -implicitDefEqProofs only [BC,A8,BK,BA,CQ,EE,MS,FK,AY,BB,AO,AQ,AL,BD,AX,AC,AA,AZ,BG,A7,↓reduceIte,jB,jA,jC]
    have hv':GL m.pts[k]≠0:=by simpa using hv
    have:JZ GL m.pts=GL m.pts[k]:=by rw [hf,hs,if_neg hv']
    exact ⟨by rw [hme,this,if_pos hv'],trivial⟩
   ·have hv':GL m.pts[k]=0:=by simpa using hv
    simp -implicitDefEqProofs only [A8,BO,BA,EI,EP,AY,BB,AO,AQ,AL,BD,AX,AC,AA,AZ,AU,BH,BG,A7,BR,AB,DK,↓reduceIte,jB,jA,jC,enP,f3,wrap_succ (show k < 9223372036854775807 by omega)]
    exact ⟨n - 1,by omega,k+1,by omega,f1,rfl,trivial,by rw [hf,hs,if_pos hv']⟩
  ·have hk' : ¬ k < m.pts.length:=by simpa using hc
   simp -implicitDefEqProofs only [DI,ED,KQ,EW,AA,↓reduceIte,jB]
   exact ⟨f1,trivial,by rw [hf,jX (by omega)]; rfl⟩
 ·rintro F H' ⟨f1,rfl,hf⟩
  have hfull:=full_of hf
  rw [hf,if_neg (fun hh=>hh rfl)] at hme
  simp -implicitDefEqProofs only [BC,BQ,A8,BA,EU,AY,BB,AO,AQ,AL,BD,AX,AC,AU,BH,A7,↓reduceIte,jA,jC,f1]
  refine H7 2 (fun F H=>F 1 = .ptr h.length 0 0∧H=H'∧MZ (m.pts.map (·.name))=false) (fun F H=>F 2 = .int .i64 (G5 m)∧H=H') ?_ ?_ ?_
  ·generalize hN:m.pts.map (·.name)=N at hme ⊢
   have hNl:N.length=m.pts.length:=by rw [← hN]; simp
   have hNi : ∀ i (hi:i < m.pts.length),N[i]? = some m.pts[i].name:=fun i hi=>by rw [← hN,jY,jO hi]; rfl
   refine DL (fun n F H => ∃ i,n+i=m.pts.length∧F 1 = .ptr h.length 0 0∧F 5 = .int .i64 (i:Nat)∧H=H'∧MZ N=AA9 (N.take i) (N.drop i)) m.pts.length ⟨0,by simp,by simp -implicitDefEqProofs only [AA,↓reduceIte,jB,f1],by simp -implicitDefEqProofs only [AA,↓reduceIte]; rfl,rfl,rfl⟩ ?_
   clear f1
   rintro n F H' ⟨i,hi,f1,f5,rfl,hd⟩
   simp -implicitDefEqProofs only [BC,A8,BI,BA,AY,BB,AO,AQ,AL,BD,AX,AC,AA,AZ,BG,BN,BR,BJ,DU,AB,CW,↓reduceIte,jB,jK,jA,jC,enP,PD,GR,f1,f5,lm0,jH]
   refine CU (fun hc => ?_) (fun hc => ?_)
   ·have hi':i < m.pts.length:=by simpa using hc
    have hdrop:=QC N i (by omega)
    rw [G9 (hNi i hi')] at hdrop
    simp -implicitDefEqProofs only [BC,BQ,A8,BO,BA,AY,BB,AO,AQ,AL,BD,AX,AC,AU,BH,A7,jA,jC,f5]
    refine H7 4 (fun F' H=>F' 1 = .ptr h.length 0 0∧F' 5 = .int .i64 (i:Nat)∧H=H'∧IJ (N.take i) m.pts[i].name=false) (fun F' H=>F' 2 = .int .i64 8∧H=H'∧MZ N=true) ?_ ?_ ?_
    ·refine DL (fun n F' H => ∃ k,n+k=i∧F' 1 = .ptr h.length 0 0∧F' 5 = .int .i64 (i:Nat)∧F' 6 = .int .i64 (k:Nat)∧H=H'∧IJ (N.take i) m.pts[i].name=IJ ((N.take i).drop k) m.pts[i].name) i ⟨0,by simp,by simp -implicitDefEqProofs only [AA,↓reduceIte,jB,f1],by simp -implicitDefEqProofs only [AA,↓reduceIte,jB,f5],by simp -implicitDefEqProofs only [AA,↓reduceIte]; rfl,rfl,rfl⟩ ?_
     clear f1 f5
     rintro n' F H' ⟨k,hk,f1,f5,f6,rfl,hin⟩
     simp -implicitDefEqProofs only [BC,A8,BI,BA,AY,BB,AO,AQ,AL,BD,AX,AC,AA,AZ,BG,BR,AB,CW,↓reduceIte,jB,jA,jC,enP,f5,f6]
     refine CU (fun hc => ?_) (fun hc => ?_)
     ·have hk':k < i:=by simpa using hc
      have hk2:k < m.pts.length:=by omega
      have hs:=LD (fun u=>m.pts[i].name.toList == u.toList) (N.take i) k (by rw [zJ]; omega)
      have hx:(N.take i)[k]'(by rw [zJ]; omega)=m.pts[k].name:=by
       rw [List.getElem_take]; exact G9 (hNi k hk2)
      rw [hx] at hs
      simp -implicitDefEqProofs only [BC,BQ,BO,BA]
      refine EX (by kernel_rfl) ?_
      simp -implicitDefEqProofs only [F6,EF,DZ,FC,EH,FI,FB,IB,D9,EC,BI,BA,AO,AA,AZ,BN,BR,BJ,BZ,AB,J7,↓reduceIte,jB,jM,jK,jA,enP,OY,GR,XC,f1,f5,f6,lm0,DF hi',DF hk2,CX ag9 hi',CX ag9 hk2,ADF]
      refine CU (fun hb => ?_) (fun hb => ?_)
      ·simp -implicitDefEqProofs only [BC,A8,BK,BA,CQ,EE,MS,FK,AY,BB,AO,AQ,AL,BD,AX,AC,AA,AU,BH,A7,↓reduceIte,jA,jC]
       have:IJ (N.take i) m.pts[i].name=true:=by
        rw [hin]; unfold IJ; rw [hs,BEq.comm,hb]; rfl
       exact ⟨trivial,trivial,by rw [hd,hdrop,this]; rfl⟩
      ·simp -implicitDefEqProofs only [A8,BO,BA,EI,EP,AY,BB,AO,AQ,AL,BD,AX,AC,AA,AZ,AU,BH,BG,A7,BR,AB,DK,↓reduceIte,jB,jA,jC,enP,f6,wrap_succ (show k < 9223372036854775807 by omega)]
       refine ⟨n' - 1,by omega,k+1,by omega,f1,f5,rfl,trivial,?_⟩
       rw [hin]; unfold IJ; rw [hs,BEq.comm,hb]; rfl
     ·have hk' : ¬ k < i:=by simpa using hc
      simp -implicitDefEqProofs only [DI,ED,KQ,EW,AA,↓reduceIte,jB]
      refine ⟨f1,f5,trivial,?_⟩
      rw [hin,jX (by rw [zJ]; omega)]; rfl
    ·rintro F' H' ⟨g1,g5,rfl,hn⟩
     simp -implicitDefEqProofs only [A8,BA,EI,EU,EP,AY,BB,AO,AQ,AL,BD,AX,AC,AA,AZ,AU,BH,BG,A7,BR,AB,DK,↓reduceIte,jB,jA,jC,enP,g5,wrap_succ (show i < 9223372036854775807 by omega)]
     refine ⟨n - 1,by omega,i+1,by omega,g1,rfl,trivial,?_⟩
     rw [hd,hdrop,hn]; rfl
    ·rintro F' H' ⟨g2,rfl,hdd⟩
     simp -implicitDefEqProofs only [CQ,EE,MS,FK,g2]
     exact ⟨by rw [hme,hdd]; rfl,trivial⟩
   ·have hi' : ¬ i < m.pts.length:=by simpa using hc
    simp -implicitDefEqProofs only [DI,ED,KQ,EW,AA,↓reduceIte,jB]
    exact ⟨f1,trivial,by rw [hd,jX (by omega)]; rfl⟩
  ·clear f1
   rintro F H ⟨f1,rfl,hd⟩
   rw [hd] at hme
   simp only [jZ,if_false] at hme
   simp -implicitDefEqProofs only [BC,BQ,A8,BA,EU,AY,BB,AO,AQ,AL,BD,AX,AC,AU,BH,A7,↓reduceIte,jA,jC]
   refine H7 6 (fun F H'=>F 1 = .ptr h.length 0 0∧H'=H∧JZ (H8 m) m.crs=0) (fun F H'=>F 2 = .int .i64 (G5 m)∧H'=H) ?_ ?_ ?_
   ·refine DL (fun n F H' => ∃ k,n+k=m.crs.length∧F 1 = .ptr h.length 0 0∧F 7 = .int .i64 (k:Nat)∧H'=H∧JZ (H8 m) m.crs=JZ (H8 m) (m.crs.drop k)) m.crs.length ⟨0,by simp,by simp -implicitDefEqProofs only [AA,↓reduceIte,jB,f1],by simp -implicitDefEqProofs only [AA,↓reduceIte]; rfl,rfl,rfl⟩ ?_
    clear f1
    rintro n F H' ⟨k,hk,f1,f7,rfl,hf⟩
    simp -implicitDefEqProofs only [BC,A8,BI,BA,AY,BB,AO,AQ,AL,BD,AX,AC,AA,AZ,BG,BN,BR,BJ,DU,AB,CW,↓reduceIte,jB,jG,jA,jC,enP,VW,IW,f1,f7,lm1,jH]
    refine CU (fun hc => ?_) (fun hc => ?_)
    ·have hk':k < m.crs.length:=by simpa using hc
     have hs:=O1 (H8 m) m.crs k hk'
     simp -implicitDefEqProofs only [BC,BQ,BO,BA]
     refine EX (by kernel_rfl) ?_
     simp -implicitDefEqProofs only [F6,EF,DZ,FC,EH,FI,IK,FB,D9,EC,GZ,F7,BC,A8,BA,AY,AO,AQ,AL,BD,AX,AC,AA,AZ,AU,CB,BH,BG,BN,BR,BJ,BZ,AB,jE,jD,jF,↓reduceIte,jB,jM,jG,jA,jC,enP,PE,IW,f1,f7,lm1,ldM gm,DF hk',FT AHM ABU KZ hk']
     refine ⟨_,ARH G m m.crs[k] (hm.crs _ (jP hk')) hfull _,?_⟩
     try simp -implicitDefEqProofs only [BI,BA,BB,AC,AA,AZ,AB,ET,↓reduceIte]
     refine CU (fun hv => ?_) (fun hv => ?_)
     ·simp -implicitDefEqProofs only [BC,A8,BK,BA,CQ,EE,MS,FK,AY,BB,AO,AQ,AL,BD,AX,AC,AA,AZ,BG,A7,↓reduceIte,jB,jA,jC]
      have hv':H8 m m.crs[k]≠0:=by simpa using hv
      have:JZ (H8 m) m.crs=H8 m m.crs[k]:=by rw [hf,hs,if_neg hv']
      exact ⟨by rw [hme,this,if_pos hv'],trivial⟩
     ·have hv':H8 m m.crs[k]=0:=by simpa using hv
      simp -implicitDefEqProofs only [A8,BO,BA,EI,EP,AY,BB,AO,AQ,AL,BD,AX,AC,AA,AZ,AU,BH,BG,A7,BR,AB,DK,↓reduceIte,jB,jA,jC,enP,f7,wrap_succ (show k < 9223372036854775807 by omega)]
      exact ⟨n - 1,by omega,k+1,by omega,f1,rfl,trivial,by rw [hf,hs,if_pos hv']⟩
    ·have hk' : ¬ k < m.crs.length:=by simpa using hc
     simp -implicitDefEqProofs only [DI,ED,KQ,EW,AA,↓reduceIte,jB]
     exact ⟨f1,trivial,by rw [hf,jX (by omega)]; rfl⟩
   ·rintro F H' ⟨f1,rfl,hf⟩
    rw [hf,if_neg (fun hh=>hh rfl)] at hme
    simp -implicitDefEqProofs only [BC,BQ,A8,BA,EU,AY,BB,AO,AQ,AL,BD,AX,AC,AU,BH,A7,↓reduceIte,jA,jC]
    generalize hN:m.crs.map (·.name)=N at hme
    have hNl:N.length=m.crs.length:=by rw [← hN]; simp
    have hNi : ∀ i (hi:i < m.crs.length),N[i]? = some m.crs[i].name:=fun i hi=>by rw [← hN,jY,jO hi]; rfl
    refine DL (fun n F H => ∃ i,n+i=m.crs.length∧F 1 = .ptr h.length 0 0∧F 9 = .int .i64 (i:Nat)∧H=H'∧MZ N=AA9 (N.take i) (N.drop i)) m.crs.length ⟨0,by simp,by simp -implicitDefEqProofs only [AA,↓reduceIte,jB,f1],by simp -implicitDefEqProofs only [AA,↓reduceIte]; rfl,rfl,rfl⟩ ?_
    clear f1
    rintro n F H' ⟨i,hi,f1,f9,rfl,hd⟩
    simp -implicitDefEqProofs only [BC,A8,BI,BA,AY,BB,AO,AQ,AL,BD,AX,AC,AA,AZ,BG,BN,BR,BJ,DU,AB,CW,↓reduceIte,jB,jG,jA,jC,enP,VW,IW,f1,f9,lm1,jH]
    refine CU (fun hc => ?_) (fun hc => ?_)
    ·have hi':i < m.crs.length:=by simpa using hc
     have hdrop:=QC N i (by omega)
     rw [G9 (hNi i hi')] at hdrop
     simp -implicitDefEqProofs only [BC,BQ,A8,BO,BA,AY,BB,AO,AQ,AL,BD,AX,AC,AU,BH,A7,jA,jC,f9]
     refine H7 10 (fun F' H=>F' 1 = .ptr h.length 0 0∧F' 9 = .int .i64 (i:Nat)∧H=H'∧IJ (N.take i) m.crs[i].name=false) (fun F' H=>F' 2 = .int .i64 8∧H=H'∧MZ N=true) ?_ ?_ ?_
     ·refine DL (fun n F' H => ∃ k,n+k=i∧F' 1 = .ptr h.length 0 0∧F' 9 = .int .i64 (i:Nat)∧F' 10 = .int .i64 (k:Nat)∧H=H'∧IJ (N.take i) m.crs[i].name=IJ ((N.take i).drop k) m.crs[i].name) i ⟨0,by simp,by simp -implicitDefEqProofs only [AA,↓reduceIte,jB,f1],by simp -implicitDefEqProofs only [AA,↓reduceIte,jB,f9],by simp -implicitDefEqProofs only [AA,↓reduceIte]; rfl,rfl,rfl⟩ ?_
      clear f1 f9
      rintro n' F H' ⟨k,hk,f1,f9,f10,rfl,hin⟩
      simp -implicitDefEqProofs only [BC,A8,BI,BA,AY,BB,AO,AQ,AL,BD,AX,AC,AA,AZ,BG,BR,AB,CW,↓reduceIte,jB,jA,jC,enP,f9,f10]
      refine CU (fun hc => ?_) (fun hc => ?_)
      ·have hk':k < i:=by simpa using hc
       have hk2:k < m.crs.length:=by omega
       have hs:=LD (fun u=>m.crs[i].name.toList == u.toList) (N.take i) k (by rw [zJ]; omega)
       have hx:(N.take i)[k]'(by rw [zJ]; omega)=m.crs[k].name:=by
        rw [List.getElem_take]; exact G9 (hNi k hk2)
       rw [hx] at hs
       simp -implicitDefEqProofs only [BC,BQ,BO,BA]
       refine EX (by kernel_rfl) ?_
       simp -implicitDefEqProofs only [F6,EF,DZ,FC,EH,FI,FB,IB,D9,EC,BI,BA,AO,AA,AZ,BN,BR,BJ,BZ,AB,J7,↓reduceIte,jB,jM,jK,jG,jA,enP,PE,IW,XB,f1,f9,f10,lm1,DF hi',DF hk2,CX ag9 hi',CX ag9 hk2,ADH]
       refine CU (fun hb => ?_) (fun hb => ?_)
       ·simp -implicitDefEqProofs only [BC,A8,BK,BA,CQ,EE,MS,FK,AY,BB,AO,AQ,AL,BD,AX,AC,AA,AU,BH,A7,↓reduceIte,jA,jC]
        have:IJ (N.take i) m.crs[i].name=true:=by
         rw [hin]; unfold IJ; rw [hs,BEq.comm,hb]; rfl
        exact ⟨trivial,trivial,by rw [hd,hdrop,this]; rfl⟩
       ·simp -implicitDefEqProofs only [A8,BO,BA,EI,EP,AY,BB,AO,AQ,AL,BD,AX,AC,AA,AZ,AU,BH,BG,A7,BR,AB,DK,↓reduceIte,jB,jA,jC,enP,f10,wrap_succ (show k < 9223372036854775807 by omega)]
        refine ⟨n' - 1,by omega,k+1,by omega,f1,f9,rfl,trivial,?_⟩
        rw [hin]; unfold IJ; rw [hs,BEq.comm,hb]; rfl
      ·have hk' : ¬ k < i:=by simpa using hc
       simp -implicitDefEqProofs only [DI,ED,KQ,EW,AA,↓reduceIte,jB]
       refine ⟨f1,f9,trivial,?_⟩
       rw [hin,jX (by rw [zJ]; omega)]; rfl
     ·rintro F' H' ⟨g1,g9,rfl,hn⟩
      simp -implicitDefEqProofs only [A8,BA,EI,EU,EP,AY,BB,AO,AQ,AL,BD,AX,AC,AA,AZ,AU,BH,BG,A7,BR,AB,DK,↓reduceIte,jB,jA,jC,enP,g9,wrap_succ (show i < 9223372036854775807 by omega)]
      refine ⟨n - 1,by omega,i+1,by omega,g1,rfl,trivial,?_⟩
      rw [hd,hdrop,hn]; rfl
     ·rintro F' H' ⟨g2,rfl,hdd⟩
      simp -implicitDefEqProofs only [CQ,EE,FK,CJ,g2]
      exact ⟨by rw [hme,hdd]; rfl,hx⟩
    ·have hi' : ¬ i < m.crs.length:=by simpa using hc
     simp -implicitDefEqProofs only [BC,A8,BK,DI,BA,ED,EU,EW,CJ,AY,BB,AO,AQ,AL,BD,AX,AC,AA,AU,BH,A7,↓reduceIte,jA,jC]
     exact ⟨by rw [hme,hd,jX (by omega)]; rfl,hx⟩
   ·rintro F H' ⟨f2,rfl⟩
    simp -implicitDefEqProofs only [CQ,EE,CJ,f2]
    exact ⟨trivial,hx⟩
  ·rintro F H ⟨f2,rfl⟩
   simp -implicitDefEqProofs only [CQ,EE,CJ,f2]
   exact ⟨trivial,hx⟩
 ·rintro F H' ⟨f2,rfl⟩
  simp -implicitDefEqProofs only [CQ,EE,CJ,f2]
  exact ⟨trivial,hx⟩
def eqL (a b:List Int):Bool:=decide (a=b)
theorem AJ7 {a b:List Int} {k:Nat} (ha:k < a.length) (hb:k < b.length):eqL (a.drop k) (b.drop k)=(decide (a[k]=b[k]) && eqL (a.drop (k+1)) (b.drop (k+1))):=by
 rw [zH ha,zH hb]
 unfold eqL
 rw [decide_eq_decide.2 (Iff.of_eq (List.cons.injEq _ _ _ _)),Bool.decide_and]
theorem ADA (G:Nat→AV) (a b:List Int) (s t:SM) (h:Hp) (hl:b.length≤1099511627776):PCall (En G) 92 [.sl s 1 (a.map qencI),.sl t 1 (b.map qencI)] h (.bool (eqL a b)):=by
 refine acN Tryz.func92 rfl ?_
 show awp _ _ _ _ _ (EJ _ [.tmp 4] _)
 simp -implicitDefEqProofs only [BC,A8,BI,BA,AY,BB,AO,AQ,AL,BD,AX,AC,AA,AZ,AU,BM,BG,A7,BR,DU,AB,ET,BF,BP,↓reduceIte,jB,jA,jC,enP,JG,jH]
 refine CU (fun h1 => ?_) (fun h1 => ?_)
 ·simp -implicitDefEqProofs only [BC,A8,BK,BA,CQ,CJ,AY,BB,AO,AQ,AL,BD,AX,AC,AA,AU,BM,A7,↓reduceIte,jA,jC]
  have:eqL a b=false:=by
   unfold eqL; rw [decide_eq_false_iff_not]; intro e; subst e; simp at h1
  exact ⟨by rw [this],trivial⟩
 have hab:a.length=b.length:=by simp at h1; omega
 simp -implicitDefEqProofs only [BC,BQ,A8,BO,BA,AY,BB,AO,AQ,AL,BD,AX,AC,AA,AZ,AU,BH,BG,DU,AB,BF,↓reduceIte,jB,jA,jC,enP,JG,jH]
 refine DL (fun n F H => ∃ k,n+k=a.length∧F 0 = .sl s 1 (a.map qencI)∧F 1 = .sl t 1 (b.map qencI)∧F 12 = .int .i64 a.length∧F 13 = .int .i64 (k:Nat)∧H=h∧eqL a b=eqL (a.drop k) (b.drop k)) a.length ⟨0,by simp,by simp -implicitDefEqProofs only [AA,BF,↓reduceIte,jB],by simp -implicitDefEqProofs only [AA,BF,BP,↓reduceIte,jB],by simp -implicitDefEqProofs only [AA,↓reduceIte,jB],by simp -implicitDefEqProofs only [AA,↓reduceIte]; rfl,rfl,rfl⟩ ?_
 rintro n F H ⟨k,hk,f0,f1,f12,f13,rfl,hi⟩
 simp -implicitDefEqProofs only [BC,A8,BI,BA,AY,BB,AO,AQ,AL,BD,AX,AC,AA,AZ,BR,AB,CW,↓reduceIte,jA,jC,enP,f12,f13]
 refine CU (fun hc => ?_) (fun hc => ?_)
 ·have hk':k < a.length:=by simpa using hc
  have hkb:k < b.length:=by omega
  rw [AJ7 hk' hkb] at hi
  simp -implicitDefEqProofs only [BC,BQ,A8,BO,BA,AY,BB,AO,AQ,AL,BD,AX,AC,AA,AZ,BG,A7,↓reduceIte,jB,jA,jC,f13]
  refine EX (by kernel_rfl) ?_
  simp -implicitDefEqProofs only [F6,EF,DZ,FC,EH,FI,FB,IB,EC,BI,BA,AO,AA,AZ,BN,BR,BZ,AB,ET,↓reduceIte,jB,jM,jA,enP,JB,f0,f1,f13,DF hk',DF hkb,CX ag3 hk',CX ag3 hkb,encI0]
  refine CU (fun hd => ?_) (fun hd => ?_)
  ·simp -implicitDefEqProofs only [BC,A8,BK,BA,CQ,EE,FK,CJ,AY,BB,AO,AQ,AL,BD,AX,AC,AA,AU,BM,A7,↓reduceIte,jA,jC]
   have:decide (a[k]=b[k])=false:=by simpa using hd
   exact ⟨by rw [hi,this]; rfl,trivial⟩
  ·simp -implicitDefEqProofs only [A8,BO,BA,EI,EP,AY,BB,AO,AQ,AL,BD,AX,AC,AA,AZ,AU,BH,BG,BR,AB,DK,↓reduceIte,jB,jA,jC,enP,f13,wrap_succ (show k < 9223372036854775807 by omega)]
   have:decide (a[k]=b[k])=true:=by simpa using hd
   exact ⟨n - 1,by omega,k+1,by omega,f0,f1,f12,rfl,trivial,by rw [hi,this]; rfl⟩
 ·have hk' : ¬ k < a.length:=by simpa using hc
  simp -implicitDefEqProofs only [BC,A8,BK,DI,BA,ED,EU,EW,CJ,AY,BB,AO,AQ,AL,BD,AX,AC,AA,AU,BM,A7,↓reduceIte,jA,jC]
  exact ⟨by rw [hi,jX (by omega),jX (by omega)]; rfl,trivial⟩
theorem ALS (G:Nat→AV) (a b:List Int) (s t:SM) (h:Hp) (hl:b.length≤1099511627776):PCall (En G) 61 [.sl s 1 (a.map qencI),.sl t 1 (b.map qencI)] h (.bool (eqL a b)):=by
 refine acN Tryz.func61 rfl ?_
 show awp _ _ _ _ _ (EJ _ [.tmp 4] _)
 simp -implicitDefEqProofs only [BC,A8,BI,BA,AY,BB,AO,AQ,AL,BD,AX,AC,AA,AZ,AU,BM,BG,A7,BR,DU,AB,ET,BF,BP,↓reduceIte,jB,jA,jC,enP,JG,jH]
 refine CU (fun h1 => ?_) (fun h1 => ?_)
 ·simp -implicitDefEqProofs only [BC,A8,BK,BA,CQ,CJ,AY,BB,AO,AQ,AL,BD,AX,AC,AA,AU,BM,A7,↓reduceIte,jA,jC]
  have:eqL a b=false:=by
   unfold eqL; rw [decide_eq_false_iff_not]; intro e; subst e; simp at h1
  exact ⟨by rw [this],trivial⟩
 have hab:a.length=b.length:=by simp at h1; omega
 simp -implicitDefEqProofs only [BC,BQ,A8,BO,BA,AY,BB,AO,AQ,AL,BD,AX,AC,AU,BH,A7,jA,jC]
 refine DL (fun n F H => ∃ k,n+k=a.length∧F 0 = .sl s 1 (a.map qencI)∧F 1 = .sl t 1 (b.map qencI)∧F 5 = .int .i64 (k:Nat)∧H=h∧eqL a b=eqL (a.drop k) (b.drop k)) a.length ⟨0,by simp,by simp -implicitDefEqProofs only [AA,BF,↓reduceIte,jB],by simp -implicitDefEqProofs only [AA,BF,BP,↓reduceIte,jB],by simp -implicitDefEqProofs only [AA,↓reduceIte]; rfl,rfl,rfl⟩ ?_
 rintro n F H ⟨k,hk,f0,f1,f5,rfl,hi⟩
 simp -implicitDefEqProofs only [BC,A8,BI,BA,AY,BB,AO,AQ,AL,BD,AX,AC,AA,AZ,BG,BR,DU,AB,CW,↓reduceIte,jB,jA,jC,enP,JG,f0,f5,jH]
 refine CU (fun hc => ?_) (fun hc => ?_)
 ·have hk':k < a.length:=by simpa using hc
  have hkb:k < b.length:=by omega
  rw [AJ7 hk' hkb] at hi
  simp -implicitDefEqProofs only [BC,BQ,BO,BA]
  refine EX (by kernel_rfl) ?_
  simp -implicitDefEqProofs only [F6,EF,DZ,FC,EH,FI,FB,IB,EC,BI,BA,AO,AA,AZ,BN,BR,BZ,AB,ET,↓reduceIte,jB,jM,jA,enP,JB,f0,f1,f5,DF hk',DF hkb,CX ag3 hk',CX ag3 hkb,encI0]
  refine CU (fun hd => ?_) (fun hd => ?_)
  ·simp -implicitDefEqProofs only [BC,A8,BK,BA,CQ,EE,FK,CJ,AY,BB,AO,AQ,AL,BD,AX,AC,AA,AU,BM,A7,↓reduceIte,jA,jC]
   have:decide (a[k]=b[k])=false:=by simpa using hd
   exact ⟨by rw [hi,this]; rfl,trivial⟩
  ·simp -implicitDefEqProofs only [A8,BO,BA,EI,EP,AY,BB,AO,AQ,AL,BD,AX,AC,AA,AZ,AU,BH,BG,A7,BR,AB,DK,↓reduceIte,jB,jA,jC,enP,f5,wrap_succ (show k < 9223372036854775807 by omega)]
   have:decide (a[k]=b[k])=true:=by simpa using hd
   exact ⟨n - 1,by omega,k+1,by omega,f0,f1,rfl,trivial,by rw [hi,this]; rfl⟩
 ·have hk' : ¬ k < a.length:=by simpa using hc
  simp -implicitDefEqProofs only [BC,A8,BK,DI,BA,ED,EU,EW,CJ,AY,BB,AO,AQ,AL,BD,AX,AC,AA,AU,BM,A7,↓reduceIte,jA,jC]
  exact ⟨by rw [hi,jX (by omega),jX (by omega)]; rfl,trivial⟩
def LJ (n:Int):Bool:=decide (0≤n) && decide (n≤1099511627776)
def countB (n:Int) (may:Bool):Bool:=LJ n && (may || n == 0)
theorem AKI (G:Nat→AV) (b:Bin) (h:Hp):PCall (En G) 160 [.agg (GN b)] h (.bool (b.kind == 0)):=by
 refine ACalls.pure0 rfl ?_
 refine acN Tryz.func160 rfl ?_
 show awp _ _ _ _ _ (EJ _ [.tmp 2] _)
 simp -implicitDefEqProofs only [BC,A8,BK,BA,CJ,AY,BB,AO,AQ,AL,BD,AX,AC,AA,AZ,AU,BH,BM,A7,FD,BN,BR,BJ,BU,AB,EG,BF,↓reduceIte,jB,jG,jA,jC,enP,OC,bxB,C9 ag3,Q3]
 exact ⟨trivial,_,rfl⟩
def W9 (m:Mo) (p b:Int):Int:=match (F9 m p)[b.toNat]? with
 | some x=>x.kind
 | none=>0
def MK (m:Mo):List Int→List Int→Bool
 | p :: ps,b :: bs=>(W9 m p b == 0) && MK m ps bs
 | _,_=>true
def SG (m:Mo) (c:Cr) (l:List Int):Bool:=MK m c.pts l && !(c.excl.any fun x=>eqL x.l l)
theorem VQ {m:Mo} : ∀ {ps l:List Int},JH (szs m ps) l=true→∀ (k:Nat) (hk:k < l.length) (hp:k < ps.length),0≤l[k]∧l[k] < ((F9 m ps[k]).length:Int)
 | p :: ps,b :: bs,h,k,hk,hp=>by
   simp only [szs,jE,JH,jV,decide_eq_true_eq] at h
   cases k with
   | zero=>exact h.1
   | succ k=>exact VQ (m:=m) (ps:=ps) h.2 k (by simpa using hk) (by simpa using hp)
 | [],b :: bs,h,k,hk,hp=>by simp at hp
 | _,[],h,k,hk,hp=>by simp at hk
theorem VC (m:Mo) (ps l:List Int) (k:Nat) (hp:k < ps.length) (hk:k < l.length):MK m (ps.drop k) (l.drop k)=((W9 m ps[k] l[k] == 0) && MK m (ps.drop (k+1)) (l.drop (k+1))):=by
 rw [zH hp,zH hk]; rfl
theorem WZ (m:Mo) (ps:List Int):MK m ps []=true:=by cases ps <;> rfl
theorem ANC {m:Mo} {p b:Int} (h0:0≤b) (h1:b < ((F9 m p).length:Int)) (h:Hp) (s:SM):JX 4 h (.sl s 4 ((F9 m p).map GN)) (.int .i64 b)=some (.fptr 4 ((F9 m p).map GN) b.toNat 0) :=
 AZH h0 (by rw [jH]; exact h1)
theorem ADV {m:Mo} {p b:Int} (h0:0≤b) (h1:b < ((F9 m p).length:Int)):((F9 m p)[b.toNat]'(by omega)).kind=W9 m p b:=by
 unfold W9; rw [jO (by omega)]
theorem AX3 (G:Nat→AV) (l:List Int) (s:SM) (b:Nat) (r:Is) (h:Hp) (hb:h[b]? = some (.live 1 [[.sl s 1 (l.map qencI)]])) (hl:l.length≤1099511627776) :
  PCall (En G) 161 [.sl r.m 1 (r.l.map qencI),.ptr b 0 0] h (.bool (eqL r.l l)):=by
 refine acN Tryz.func161 rfl ?_
 show awp _ _ _ _ _ (EJ _ [.tmp 3] _)
 simp -implicitDefEqProofs only [BC,A8,BA,AY,BB,AO,AQ,AL,BD,AX,AC,AA,AZ,AU,CB,BM,BG,A7,BN,CG,BX,AB,BF,BP,jE,jD,jF,↓reduceIte,jB,jA,jC,enP,JR LQ hb]
 refine (ADA G r.l l r.m s h hl).use ?_
 simp -implicitDefEqProofs only [BK,BA,CJ,AY,BB,AO,AQ,AL,BD,AX,AC,AA,AZ,A7,↓reduceIte,jA,jC]
 exact ⟨trivial,trivial⟩
theorem Two.app {h H:Hp} {m:Mo} {c:Cr} {cb:Nat} (t:Two h H m c cb) (x:Hp):Two h (H ++ x) m c cb:=by
 obtain ⟨y,hy⟩:=t.hx
 exact ⟨FZ t.gm,FZ t.gc,⟨y ++ x,by rw [hy,zF]⟩⟩
theorem AEN (G:Nat→AV) (m:Mo) (c:Cr) (l:List Int) (s:SM) (h:Hp) (hh:Here m c.pts) (hi:JH (szs m c.pts) l=true) (hl:c.pts.length≤1048576) (hx:c.excl.length≤1048576):PCall (En G) 115 [.agg (D8 m),.agg (G6 c),.sl s 1 (l.map qencI)] h (.bool (SG m c l)):=by
 refine ACalls.pure0 rfl ?_
 have hlen:l.length=c.pts.length:=by have:=MC hi; rw [KW] at this; omega
 refine acN Tryz.func115 rfl ?_
 show awp _ _ _ _ _ (EJ _ [.tmp 6] _)
 have t:=(Two.mk' h m c).app [.live 1 [[.sl s 1 (l.map qencI)]]]
 have gl:=CY (h ++ [ABlk.live 2 [D8 m]] ++ [ABlk.live 3 [G6 c]]) (.live 1 [[.sl s 1 (l.map qencI)]])
 simp -implicitDefEqProofs only [ANB,BC,A8,BA,AY,BB,AO,AQ,AL,BD,AX,AC,AA,AZ,AU,BM,A7,FD,BN,BU,BF,BP,↓reduceIte,jB,jA,jC,enP,bxM,bxC]
 generalize h ++ [ABlk.live 2 [D8 m]] ++ [ABlk.live 3 [G6 c]] ++ [ABlk.live 1 [[.sl s 1 (l.map qencI)]]]=H at t gl ⊢
 generalize (h ++ [ABlk.live 2 [D8 m]] ++ [ABlk.live 3 [G6 c]]).length=lb at gl ⊢
 generalize (h ++ [ABlk.live 2 [D8 m]]).length=cb at t ⊢
 simp -implicitDefEqProofs only [BQ,BA,AY,BB,AO,AQ,AL,BD,AX,AC,AA,AZ,AU,BH,BG,DU,AB,↓reduceIte,jA,jC,enP,JG,JR LQ gl,jH]
 have hkb:=VC m c.pts l
 refine H7 0 (fun F H'=>F 4 = .ptr cb 0 0∧F 5 = .ptr lb 0 0∧H'=H∧MK m c.pts l=true) (fun F H'=>F 6 = .bool false∧H'=H∧MK m c.pts l=false) ?_ ?_ ?_
 ·refine DL (fun n F H' => ∃ k,n+k=l.length∧F 3 = .ptr h.length 0 0∧F 4 = .ptr cb 0 0∧F 5 = .ptr lb 0 0∧F 9 = .sl s 1 (l.map qencI)∧F 10 = .int .i64 l.length∧F 11 = .int .i64 (k:Nat)∧H'=H∧MK m c.pts l=MK m (c.pts.drop k) (l.drop k)) l.length ⟨0,by simp,by simp -implicitDefEqProofs only [AA,↓reduceIte,jB],by simp -implicitDefEqProofs only [AA,↓reduceIte,jB],by simp -implicitDefEqProofs only [AA,↓reduceIte,jB],by simp -implicitDefEqProofs only [AA,↓reduceIte,jB],by simp -implicitDefEqProofs only [AA,↓reduceIte,jB],by simp -implicitDefEqProofs only [AA,↓reduceIte]; rfl,rfl,rfl⟩ ?_
  rintro n F H' ⟨k,hk,f3,f4,f5,f9,f10,f11,rfl,hk0⟩
  simp -implicitDefEqProofs only [BC,A8,BI,BA,AY,BB,AO,AQ,AL,BD,AX,AC,AA,AZ,BR,AB,CW,↓reduceIte,jA,jC,enP,f10,f11]
  refine CU (fun hc => ?_) (fun hc => ?_)
  ·have hk':k < l.length:=by simpa using hc
   have hkc:k < c.pts.length:=by omega
   rw [hkb k hkc hk'] at hk0
   obtain ⟨h0,h1⟩:=VQ hi k hk' hkc
   obtain ⟨s2,ls⟩:=hh.ld hkc H'
   simp -implicitDefEqProofs only [BC,BQ,A8,BO,BA,AY,BB,AO,AQ,AL,BD,AX,AC,AA,AZ,BG,A7,BN,BZ,AB,↓reduceIte,jB,jA,jC,enP,JB,f9,f11,DF hk',CX ag3 hk',encI0]
   refine EX (by kernel_rfl) ?_
   simp -implicitDefEqProofs only [F6,EF,DZ,EH,FI,FB,API,D9,EC,GZ,F7,AO,AA,AZ,CB,BN,G7,BJ,BZ,AB,jE,jD,jF,↓reduceIte,jB,jM,jK,jG,jA,enP,OY,GR,JB,RJ,IQ,JD,f3,f4,f11,t.lm,t.l1,DF hkc,CX ag3 hkc,encI0,hh.ix hkc,ls,ANC h0 h1,FT AD3 XR LW (show l[k].toNat < (F9 m c.pts[k]).length by omega)]
   refine ⟨_,AKI G _ _,?_⟩
   try simp -implicitDefEqProofs only [DZ,FC,BI,BA,AA,AZ,AB,ES,↓reduceIte]
   rw [ADV h0 h1]
   cases hkd:(W9 m c.pts[k] l[k] == 0)
   ·simp -implicitDefEqProofs only [BC,A8,BK,BA,CQ,EE,MS,FK,DT,AY,BB,AO,AQ,AL,BD,AX,AC,AA,AU,BM,A7,↓reduceIte,jA,jC]
    exact ⟨trivial,trivial,by rw [hk0,hkd]; rfl⟩
   ·simp -implicitDefEqProofs only [A8,BO,BA,EI,EP,D5,AY,BB,AO,AQ,AL,BD,AX,AC,AA,AZ,AU,BH,BG,BR,AB,DK,↓reduceIte,jB,jA,jU,jC,enP,f11,wrap_succ (show k < 9223372036854775807 by omega)]
    exact ⟨n - 1,by omega,k+1,by omega,f3,f4,f5,f9,f10,rfl,trivial,by rw [hk0,hkd]; rfl⟩
  ·have hk' : ¬ k < l.length:=by simpa using hc
   simp -implicitDefEqProofs only [DI,ED,KQ,EW,AA,↓reduceIte,jB]
   exact ⟨f4,f5,trivial,by rw [hk0,jX (show l.length≤k by omega),WZ]⟩
 ·rintro F H' ⟨f4,f5,rfl,hk⟩
  simp -implicitDefEqProofs only [BC,A8,BA,EU,AY,AO,AQ,AL,BD,AX,AC,AA,AZ,CB,BN,IG,BJ,CG,BX,AB,jE,jD,jF,↓reduceIte,jB,jG,jA,jC,enP,RS,f4,f5,t.l2]
  refine (QN G c.excl c.xm 161 _ (fun x=>eqL x.l l) _ (by omega) fun r=>AX3 G l s _ r _ gl (by omega)).use ?_
  simp -implicitDefEqProofs only [BK,BA,CJ,AY,BB,AO,AQ,AL,BD,AX,AC,AA,AZ,A7,G7,AB,ES,↓reduceIte,jA,jC]
  exact ⟨by unfold SG; rw [hk]; rfl,t.hx⟩
 ·rintro F H' ⟨f6,rfl,hk⟩
  simp -implicitDefEqProofs only [CQ,EE,CJ,f6]
  exact ⟨by unfold SG; rw [hk]; rfl,t.hx⟩
theorem AX6 (xs:List Nat):xs.map J9=(xs.map fun n:Nat=>(n:Int)).map qencI:=by
 rw [wS]; rfl
def tupF:List Nat→Nat→List Nat × Nat
 | [],k=>([],k)
 | n :: ns,k=>(((tupF ns k).2 % n) :: (tupF ns k).1,(tupF ns k).2 / n)
def SA (ns:List Nat) (k:Nat):List Int:=(tupF ns k).1.map fun n:Nat=>(n:Int)
theorem XN : ∀ (ns:List Nat) (k:Nat),(tupF ns k).1.length=ns.length
 | [],_=>rfl
 | n :: ns,k=>by simp [tupF,XN ns k]
theorem AH4 : ∀ (ns:List Nat) (k:Nat),(∀ n∈ns,1≤n)→JH ns (SA ns k)=true
 | [],_,_=>rfl
 | n :: ns,k,h=>by
   have h1:=h n (by simp)
   have ih:=AH4 ns k (fun x hx=>h x (by simp [hx]))
   have h2:(tupF ns k).2 % n < n:=Nat.mod_lt _ (by omega)
   show JH (n :: ns) (((tupF ns k).2 % n:Nat) :: SA ns k)=true
   unfold JH
   rw [ih]
   simp; omega
theorem tup_step {ns:List Nat} {K j:Nat} (hj:j < ns.length):tupF (ns.drop j) K=(((tupF (ns.drop (j+1)) K).2 % ns[j]) :: (tupF (ns.drop (j+1)) K).1,(tupF (ns.drop (j+1)) K).2 / ns[j]):=by
 rw [zH hj]; rfl
theorem A45 (h:Hp) (n:Nat) (hn:n≤1048576):J4 Tryz.prog true h 26 (.int .i64 (n:Int)) (.int .i64 (n:Int))=some (.own h.length 0 n,h ++ [.live 1 ((List.replicate n 0).map J9)]):=by
 have hz:ND Tryz.prog 3=some [.int .i64 0]:=by kernel_rfl
 have hr:room n 8:=JF (by omega) (by omega)
 unfold J4
 simp only [WH,sz3,ZZ,hz,Int.toNat_natCast]
 rw [if_pos ⟨by omega,Int.le_refl _,hr,rfl⟩]
 simp [J9]
structure Cvr where
 pm:SM
 pts:List Is
 cm:SM
 crs:List Is
 sam:Int
 ill:Int
def encV (v:Cvr):List AV := [.sl v.pm 1 (v.pts.map encL),.sl v.cm 1 (v.crs.map encL),.int .i64 v.sam,.int .i64 v.ill]
theorem AZN (v:Cvr):(encV v)[0]? = some (.sl v.pm 1 (v.pts.map encL)):=rfl
theorem A29 (v:Cvr):(encV v)[1]? = some (.sl v.cm 1 (v.crs.map encL)):=rfl
theorem A28 (v:Cvr):(encV v)[2]? = some (.int .i64 v.sam):=rfl
theorem AZM (v:Cvr):(encV v)[3]? = some (.int .i64 v.ill):=rfl
theorem encV_len (v:Cvr):(encV v).length=4:=rfl
def rowF (p:Nat→Bool):Nat→List Int→Bool
 | _,[]=>true
 | k,n :: ns=>countB n (p k) && rowF p (k+1) ns
def QJ {α:Type} (ok:α→Is→Bool):List α→List Is→Bool
 | [],[]=>true
 | a :: ws,x :: xs=>ok a x && QJ ok ws xs
 | _,_=>false
theorem AC2 {α:Type} {ok:α→Is→Bool} : ∀ {ws:List α} {xs:List Is},QJ ok ws xs=true→ws.length=xs.length
 | [],[],_=>rfl
 | a :: ws,x :: xs,h=>by
   simp only [QJ,jV] at h
   simp [AC2 h.2]
 | [],_ :: _,h=>by cases h
 | _ :: _,[],h=>by cases h
def kindOf (p:Pt) (k:Nat):Int:=match p.bins[k]? with
 | some b=>b.kind
 | none=>0
def okP (p:Pt) (x:Is):Bool:=(x.l.length == p.bins.length) && rowF (fun k=>kindOf p k == 0) 0 x.l
def okC (m:Mo) (c:Cr) (x:Is):Bool:=(x.l.length == I4 (szs m c.pts)) && rowF (fun k=>SG m c (SA (szs m c.pts) k)) 0 x.l
def RG (G:Nat→AV):Prop := ∀ (ns:List Nat) (s:SM) (K:Nat) (h:Hp),0 < ns.length→ns.length≤4→(∀ n∈ns,1≤n∧n≤64)→K≤1048576 →
 PCall (En G) 114 [.sl s 1 (ns.map J9),.int .i64 (K:Int)] h (.sl .any 1 ((SA ns K).map qencI))
structure CrGood (m:Mo) (c:Cr):Prop where
 here:Here m c.pts
 two:2≤c.pts.length
 four:c.pts.length≤4
 prod:I4 (szs m c.pts)≤256
 num:c.excl.length≤256
 excl : ∀ x∈c.excl,JH (szs m c.pts) x.l=true
theorem ARI {m:Mo} {c:Cr} (h:H8 m c=0):CrGood m c:=by
 unfold H8 at h
 split at h
 ·cases h
 ·split at h
  ·cases h
  ·split at h
   ·cases h
   ·split at h
    ·cases h
    ·split at h
     ·cases h
     ·rename_i h1 h2 h3 h4 h5
      have h3':VE m.pts.length none c.pts=true:=by simpa using h3
      refine ⟨VR h3',by omega,by omega,by omega,by omega,fun x hx => ?_⟩
      rw [Bool.not_eq_true,wH] at h5
      have:=h5 x hx
      simpa using this
structure Good (m:Mo):Prop where
 num:m.pts.length+m.crs.length≤16
 full:Full m
 crs : ∀ c∈m.crs,CrGood m c
theorem VS {m:Mo} (h:G5 m=0):Good m:=by
 unfold G5 at h
 split at h
 ·cases h
 ·split at h
  ·rename_i h2; exact absurd h h2
  ·split at h
   ·cases h
   ·split at h
    ·rename_i h4; exact absurd h h4
    ·rename_i h1 h2 h3 h4
     refine ⟨by omega,full_of (by simpa using h2),fun c hc=>ARI (OA _ (by simpa using h4) c hc)⟩
def AFO (m:Mo) (v:Cvr):Bool:=(G5 m == 0) && QJ okP m.pts v.pts && QJ (okC m) m.crs v.crs && LJ v.sam && LJ v.ill
structure TwoV (h H:Hp) (m:Mo) (v:Cvr) (vb:Nat):Prop where
 gm:H[h.length]? = some (.live 2 [D8 m])
 gv:H[vb]? = some (.live 4 [encV v])
 hx : ∃ x,H=h ++ x
theorem TwoV.mk' (h:Hp) (m:Mo) (v:Cvr):TwoV h (h ++ [.live 2 [D8 m]] ++ [.live 4 [encV v]]) m v (h ++ [ABlk.live 2 [D8 m]]).length:=⟨CV (CY _ _),CY _ _,⟨_,zF _ _ _⟩⟩
section
variable {h H:Hp} {m:Mo} {v:Cvr} {vb:Nat} (t:TwoV h H m v vb)
include t
theorem TwoV.m0:D6 Tryz.prog H 22 (.ptr h.length 0 0)=some (.sl m.pm 6 (m.pts.map F8)):=by rw [DV YX t.gm (row:=D8 m) rfl,QY]
theorem TwoV.m1:D6 Tryz.prog H 23 (.ptr h.length 0 1)=some (.sl m.cm 3 (m.crs.map G6)):=by rw [DV AAA t.gm (row:=D8 m) rfl,SS]
theorem TwoV.l0:D6 Tryz.prog H 67 (.ptr vb 0 0)=some (.sl v.pm 1 (v.pts.map encL)):=by rw [DV UA t.gv (row:=encV v) rfl,AZN]
theorem TwoV.l1:D6 Tryz.prog H 67 (.ptr vb 0 1)=some (.sl v.cm 1 (v.crs.map encL)):=by rw [DV UA t.gv (row:=encV v) rfl,A29]
theorem TwoV.l2:D6 Tryz.prog H 3 (.ptr vb 0 2)=some (.int .i64 v.sam):=by rw [DV ag3 t.gv (row:=encV v) rfl,A28]
theorem TwoV.l3:D6 Tryz.prog H 3 (.ptr vb 0 3)=some (.int .i64 v.ill):=by rw [DV ag3 t.gv (row:=encV v) rfl,AZM]
end
end Go.Proofs.YtfpagfhhhlljjaaGreatDoor.Cov
