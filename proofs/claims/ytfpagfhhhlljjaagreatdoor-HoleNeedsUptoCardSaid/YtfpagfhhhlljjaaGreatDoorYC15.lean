/- Part 15 of the proof (O1, O2, Ko, O3, O4, O5, O6, O7, O8, O9, O10, O11, O12, O13, O14, O15, O16, O18); no condition. -/
import Derived.Test.YtfpagfhhhlljjaaGreatDoorYC14
set_option linter.unusedVariables false
set_option linter.unusedSimpArgs false
set_option maxRecDepth 8000
namespace Go.Proofs.YtfpagfhhhlljjaaGreatDoor.Cov
open Sm Bins Go.RowKit
open Bool renaming not_false→jB,true_and→qM,false_and→wJ
open List renaming drop_eq_getElem_cons→zQ,drop_eq_nil_of_le→zG,length_map→jI,map_cons→jE,map_nil→jD,append_nil→jF
open Nat renaming le_of_ble_eq_true→jH,reduceEqDiff→jC
open Option renaming getD_some→jA
def ixV (ns:List Nat) (l:List Int):Int:=if J3 ns l=true then VL ns l 0 else 0
theorem AZL {ns:List Nat} {l:List Int} (h:l.length≠ns.length):J3 ns l=false:=by
 cases e:J3 ns l
 ·rfl
 ·exact absurd (QD e).symm h
theorem AR4 {ns:List Nat} {l:List Int} {k:Nat} (hk:k < l.length) (hn:k < ns.length):J3 (ns.drop k) (l.drop k)=(decide (0≤l[k]) && decide (l[k] < (ns[k]:Int)) && J3 (ns.drop (k+1)) (l.drop (k+1))):=by
 rw [zQ hk,zQ hn]; rfl
theorem AVG {ns:List Nat} {l:List Int} {k:Nat} (hk:l.length≤k) (hn:ns.length≤k):J3 (ns.drop k) (l.drop k)=true:=by
 rw [zG hk,zG hn]; rfl
theorem AMH (G:Nat→AV) (m:Mo) (z:Int) (hz:z < 0∨(m.crs.length:Int)≤z) (h:Hp):PCall (En G) 77 [.agg (EE m),.int .i64 z] h (.bool false):=by
 refine ACalls.pure0 rfl ?_
 refine acN Tryz.func77 rfl ?_
 show awp _ _ _ _ _ (D8 _ [.tmp 4] _)
 simp -implicitDefEqProofs only [BC,BA,A8,AY,BB,BK,BV,CO,AO,AQ,AL,BD,AX,AC,AA,AZ,AU,BH,BM,BG,A7,FM,BQ,CB,AB,C9,BF,BL,↓reduceIte,jC,jA,jB,enP,bxM]
 cases d0:decide (z < 0)
 ·have d1:decide (z≥(m.crs.length:Int))=true:=by rw [decide_eq_true_eq]; rw [decide_eq_false_iff_not] at d0; omega
  simp -implicitDefEqProofs only [BC,BA,BJ,BI,A8,CQ,CJ,CZ,AY,BB,BK,BV,CO,EF,AO,AQ,AL,BD,AX,AC,AA,AZ,AU,BM,BG,A7,CP,DN,BX,BQ,BN,D6,AB,FX,BF,BL,↓reduceIte,jC,Nat.zero_add,jA,jB,enP,AEF,L8,DV AD2,U1,jI,d1]
  exact ⟨trivial,_,rfl⟩
 ·simp -implicitDefEqProofs only [BC,BA,BJ,BI,A8,CQ,CJ,CZ,AY,BB,BK,BV,CO,FI,AO,AQ,AL,BD,AX,AC,AA,EK,AZ,AU,BM,A7,CP,DL,↓reduceIte,jC,jA,jB]
  exact ⟨trivial,_,rfl⟩
theorem ACN (G:Nat→AV) (m:Mo) (z:Int) (hz:z < 0∨(m.crs.length:Int)≤z) (l:List Int) (s:SM) (h:Hp):PCall (En G) 44 [.agg (EE m),.int .i64 z,.sl s 1 (l.map qencI)] h (.tup [.int .i64 0,.bool false]):=by
 refine ACalls.pure 2 (R:=fun v H=>v = .tup [.int .i64 0,.bool false]∧∃ x,H=h ++ x) ?_ (fun v h' ⟨e,x⟩=>⟨x,by subst e; rfl⟩)
 refine acN Tryz.func44 rfl ?_
 show awp _ _ _ _ _ (D8 _ [.tmp 6,.tmp 7] _)
 simp -implicitDefEqProofs only [BC,BA,A8,AY,BB,AO,AQ,AL,BD,AX,AC,AA,AZ,AU,BU,BH,BM,BG,A7,FM,BX,BZ,BO,CB,AB,BF,BL,jE,jD,jF,↓reduceIte,jC,jA,jB,enP,bxM,ldM (CW h (.live 2 [EE m]))]
 refine (AMH G m z hz _).use ?_
 simp -implicitDefEqProofs only [BC,BA,BJ,BI,A8,CQ,IU,CZ,AY,BB,AO,AQ,AL,BD,AX,AC,AA,AZ,AU,BH,BM,A7,GU,AB,EP,↓reduceIte,jC,jA,jB]
 exact ⟨trivial,_,rfl⟩
theorem UU (G:Nat→AV) (m:Mo) (i:Nat) (hi:i < m.crs.length) (hg:CrGood m m.crs[i]) (l:List Int) (s:SM) (hn:l.length≤1048576) (h:Hp):PCall (En G) 44 [.agg (EE m),.int .i64 (i:Int),.sl s 1 (l.map qencI)] h (.tup [.int .i64 (ixV (szs m m.crs[i].pts) l),.bool (J3 (szs m m.crs[i].pts) l)]):=by
 refine ACalls.pure 2 (R:=fun v H=>v = .tup [.int .i64 (ixV (szs m m.crs[i].pts) l),.bool (J3 (szs m m.crs[i].pts) l)]∧∃ x,H=h ++ x) ?_ (fun v h' ⟨e,x⟩=>⟨x,by subst e; rfl⟩)
 have hx : ∃ x,h ++ [ABlk.live 2 [EE m]]=h ++ x:=⟨_,rfl⟩
 refine acN Tryz.func44 rfl ?_
 show awp _ _ _ _ _ (D8 _ [.tmp 6,.tmp 7] _)
 simp -implicitDefEqProofs only [BC,BA,A8,AY,BB,AO,AQ,AL,BD,AX,AC,AA,AZ,AU,BU,BH,BM,BG,A7,FM,BX,BZ,BO,CB,AB,BF,BL,jE,jD,jF,↓reduceIte,jC,jA,jB,enP,bxM,ldM (CW h (.live 2 [EE m]))]
 refine (AAE G m i hi hg _).use ?_
 simp -implicitDefEqProofs only [BC,BA,BR,BI,A8,DI,AY,BB,AO,AQ,AL,BD,AX,AC,AA,AZ,BU,BG,BX,GU,BZ,BO,AB,EP,BF,BL,jE,jD,jF,↓reduceIte,jC,jA,Bool.not_true,jB,enP,ldM (CW h (.live 2 [EE m]))]
 refine (YL G m i hi hg _).use ?_
 generalize szs m m.crs[i].pts=ns
 rcases Classical.em (l.length=ns.length) with hlen | hlen
 case inr =>
  have hne:((l.length:Int) != (ns.length:Int))=true:=by simp; omega
  have hb:=AZL hlen
  have hv:ixV ns l=0:=by unfold ixV; rw [hb]; rfl
  simp -implicitDefEqProofs only [BC,BA,BJ,BI,A8,CQ,IU,CZ,AY,BB,AO,AQ,AL,BD,AX,AC,AA,AZ,AU,BH,BM,BG,A7,BQ,D6,AB,ET,BF,BL,↓reduceIte,jC,jA,jB,enP,KH,jI,hne]
  exact ⟨by rw [hb,hv],hx⟩
 have hne:((l.length:Int) != (ns.length:Int))=false:=by rw [hlen]; simp
 simp -implicitDefEqProofs only [BC,BP,BA,BR,BI,A8,DI,AY,BB,AO,AQ,AL,BD,AX,AC,AA,AZ,AU,BH,BG,A7,BQ,D6,AB,ET,BF,BL,↓reduceIte,jC,jA,jB,enP,KH,jI,hne]
 refine DY (fun n F H => ∃ k,n+k=l.length∧F 8 = .sl .any 1 (ns.map JH)∧(∃ z,F 9 = .int .i64 z∧VL ns l 0=VL (ns.drop k) (l.drop k) z)∧F 24 = .sl s 1 (l.map qencI)∧F 25 = .int .i64 l.length∧F 26 = .int .i64 (k:Nat)∧H=h ++ [ABlk.live 2 [EE m]]∧J3 ns l=J3 (ns.drop k) (l.drop k)) l.length ⟨0,by simp,by simp -implicitDefEqProofs only [AA,↓reduceIte,jC],⟨0,rfl,rfl⟩,by simp -implicitDefEqProofs only [AA,↓reduceIte,jC],by simp -implicitDefEqProofs only [AA,↓reduceIte,jC],by simp -implicitDefEqProofs only [AA,↓reduceIte]; rfl,rfl,rfl⟩ ?_
 rintro n F H ⟨k,hk,f8,⟨z,f9,hz⟩,f24,f25,f26,rfl,hin⟩
 simp -implicitDefEqProofs only [BC,BA,BI,A8,AY,BB,AO,AQ,AL,BD,AX,AC,AA,AZ,BQ,AB,C9,↓reduceIte,jA,jB,enP,f25,f26]
 refine CV (fun hc => ?_) (fun hc => ?_)
 ·have hk':k < l.length:=by simpa using hc
  have hkn:k < ns.length:=by omega
  rw [AR4 hk' hkn] at hin
  rw [zQ hk',zQ hkn] at hz
  cases d0:decide (l[k] < 0)
  ·have e0:decide (0≤l[k])=true:=by rw [decide_eq_true_eq]; rw [decide_eq_false_iff_not] at d0; omega
   cases d1:decide (l[k]≥(ns[k]:Int))
   ·have e1:decide (l[k] < (ns[k]:Int))=true:=by rw [decide_eq_true_eq]; rw [decide_eq_false_iff_not] at d1; omega
    rw [e0,e1,qM,qM] at hin
    simp -implicitDefEqProofs only [BC,BP,BA,BR,BI,A8,EH,ER,DI,AY,BB,BK,BV,CO,EF,AO,AQ,AL,BD,AX,AC,AA,AZ,AU,BH,BM,BG,A7,CP,DN,BX,BQ,CG,AB,DK,PV,C9,FX,↓reduceIte,jC,jA,jB,enP,JS,f8,f9,f24,f26,D7 hk',DZ ag3 hk',encI0,d0,D7 hkn,DZ ag3 hkn,encN0,d1,wrap_succ (show k < 9223372036854775807 by omega)]
    exact ⟨n - 1,by omega,k+1,by omega,trivial,⟨_,rfl,hz⟩,trivial,f25,rfl,trivial,hin⟩
   ·have e1:decide (l[k] < (ns[k]:Int))=false:=by rw [decide_eq_false_iff_not]; rw [decide_eq_true_eq] at d1; omega
    rw [e1,Bool.and_false,wJ] at hin
    have hv:ixV ns l=0:=by unfold ixV; rw [hin]; rfl
    simp -implicitDefEqProofs only [BC,BP,BA,BR,BJ,BI,A8,CQ,ED,F7,IU,CZ,AY,BB,BK,BV,CO,EF,AO,AQ,AL,BD,AX,AC,AA,AZ,AU,BH,BM,BG,A7,CP,DN,BX,BQ,CG,AB,C9,FX,↓reduceIte,jC,jA,jB,enP,JS,f8,f9,f24,f26,D7 hk',DZ ag3 hk',encI0,d0,D7 hkn,DZ ag3 hkn,encN0,d1]
    exact ⟨by rw [hin,hv],hx⟩
  ·have e0:decide (0≤l[k])=false:=by rw [decide_eq_false_iff_not]; rw [decide_eq_true_eq] at d0; omega
   rw [e0,wJ,wJ] at hin
   have hv:ixV ns l=0:=by unfold ixV; rw [hin]; rfl
   simp -implicitDefEqProofs only [BC,BP,BA,BR,BJ,BI,A8,CQ,ED,F7,IU,CZ,AY,BB,BK,BV,CO,FI,AO,AQ,AL,BD,AX,AC,AA,EK,AZ,AU,BH,BM,BG,A7,CP,DL,BX,BQ,CG,AB,C9,↓reduceIte,jC,jA,jB,enP,JS,f8,f9,f24,f26,D7 hk',DZ ag3 hk',encI0,d0]
   exact ⟨by rw [hin,hv],hx⟩
 ·have hk' : ¬ k < l.length:=by simpa using hc
  rw [AVG (by omega) (by omega)] at hin
  rw [zG (show l.length≤k by omega),AKD] at hz
  have hv:ixV ns l=z:=by unfold ixV; rw [if_pos hin,hz]
  simp -implicitDefEqProofs only [BC,BA,BJ,DW,A8,EG,EY,EZ,IU,AY,BB,AO,AQ,AL,BD,AX,AC,AA,AZ,AU,BM,BG,A7,↓reduceIte,jC,jA,jB,f9]
  exact ⟨by rw [hin,hv],hx⟩
end Go.Proofs.YtfpagfhhhlljjaaGreatDoor.Cov
set_option linter.unusedSimpArgs false
set_option maxRecDepth 8000
namespace Go.Proofs.YtfpagfhhhlljjaaGreatDoor.Ho
open Sm Bins Cov Go.RowKit
open Bool renaming not_false→jB
open Int renaming toNat_natCast→qG
open List renaming getElem?_eq_none→qN,getElem?_eq_getElem→jL,map_cons→jE,map_nil→jD,append_nil→jF,getElem?_cons_zero→zH,getElem?_cons_succ→zL,length_map→jI
open Nat renaming reduceEqDiff→jC,add_zero→jM,zero_add→jG
open Option renaming getD_some→jA
structure Hl where
 cross:Bool
 idx:Int
 bm:SM
 bins:List Int
def IP (x:Hl):List AV := [.bool x.cross,.int .i64 x.idx,.sl x.bm 1 (x.bins.map qencI)]
theorem ASJ (x:Hl):(IP x).length=3:=rfl
theorem bxH (h:Hp) (x:Hl):OT h (.agg (IP x))=some (.ptr h.length 0 0,h ++ [.live 3 [IP x]]):=TQ rfl
theorem ldH {H:Hp} {b:Nat} {x:Hl} (hb:H[b]? = some (.live 3 [IP x])):DX Tryz.prog H 28 (.ptr b 0 0)=some (.agg (IP x)):=by
 rw [G8 A6Y A2A hb rfl (by rw [ASJ]; exact Nat.le_refl 3)]; rfl
theorem AU2 {H:Hp} {b:Nat} {x:Hl} (hb:H[b]? = some (.live 3 [IP x])):DX Tryz.prog H 4 (.ptr b 0 0)=some (.bool x.cross):=by rw [DJ ag4 hb (row:=IP x) rfl]; rfl
theorem AM6 {H:Hp} {b:Nat} {x:Hl} (hb:H[b]? = some (.live 3 [IP x])):DX Tryz.prog H 3 (.ptr b 0 1)=some (.int .i64 x.idx):=by rw [DJ ag3 hb (row:=IP x) rfl]; rfl
theorem AJ0 {H:Hp} {b:Nat} {x:Hl} (hb:H[b]? = some (.live 3 [IP x])):DX Tryz.prog H 26 (.ptr b 0 2)=some (.sl x.bm 1 (x.bins.map qencI)):=by rw [DJ OA hb (row:=IP x) rfl]; rfl
def AHI (m:Mo) (z:Int):Option Cr:=if 0≤z then m.crs[z.toNat]? else none
def AMS (m:Mo) (z:Int):Option Pt:=if 0≤z then m.pts[z.toNat]? else none
def AFP (p:Pt):List Int→Bool
 | [b]=>decide (0≤b) && decide (b < (p.bins.length:Int)) && (kindOf p b.toNat == 0)
 | _=>false
def crF (m:Mo) (x:Hl):Option Cr→Bool
 | some c=>J3 (szs m c.pts) x.bins && VM m c x.bins
 | none=>false
def ptF (x:Hl):Option Pt→Bool
 | some p=>AFP p x.bins
 | none=>false
def AA3 (m:Mo) (x:Hl):Bool:=if x.cross=true then crF m x (AHI m x.idx) else ptF x (AMS m x.idx)
def NZ (m:Mo) (x:Hl):Bool:=(IA m == 0) && AA3 m x
theorem AK6 {m:Mo} {z:Int} (h:z < 0∨(m.crs.length:Int)≤z):AHI m z=none:=by
 unfold AHI
 split
 ·exact qN (by omega)
 ·rfl
theorem O8 {m:Mo} {i:Nat} (hi:i < m.crs.length):AHI m (i:Int)=some m.crs[i]:=by
 unfold AHI
 rw [if_pos (by omega),qG,jL hi]
theorem AJC {m:Mo} {z:Int} (h:z < 0∨(m.pts.length:Int)≤z):AMS m z=none:=by
 unfold AMS
 split
 ·exact qN (by omega)
 ·rfl
theorem AGL {m:Mo} {i:Nat} (hi:i < m.pts.length):AMS m (i:Int)=some m.pts[i]:=by
 unfold AMS
 rw [if_pos (by omega),qG,jL hi]
theorem SL (z:Int) (n:Nat):(z < 0∨(n:Int)≤z)∨∃ i:Nat,i < n∧z=(i:Int):=by
 rcases Classical.em (z < 0∨(n:Int)≤z) with h | h
 ·exact .inl h
 ·exact .inr ⟨z.toNat,by omega,by omega⟩
structure Hb (h H:Hp) (m:Mo) (x:Hl) (hb:Nat):Prop where
 gm:H[h.length]? = some (ABlk.live 2 [EE m])
 gh:H[hb]? = some (ABlk.live 3 [IP x])
 hx:ext h H
theorem Hb.mk' (h:Hp) (m:Mo) (x:Hl):Hb h (h ++ [ABlk.live 2 [EE m]] ++ [ABlk.live 3 [IP x]]) m x (h ++ [ABlk.live 2 [EE m]]).length :=
 ⟨CU (CW _ _),CW _ _,((ext.rfl' h).app _).app _⟩
theorem AKQ {p:Pt} {l:List Int} (h:l.length≠1):AFP p l=false:=by
 match l,h with
 | [],_=>rfl
 | [b],h=>exact absurd rfl h
 | _ :: _ :: _,_=>rfl
theorem ARW {p:Pt} {k:Nat} (hk:k < p.bins.length):kindOf p k=p.bins[k].kind:=by unfold kindOf; rw [jL hk]
theorem AFO {p:Pt} {b:Int} (h:b < 0∨(p.bins.length:Int)≤b):AFP p [b]=false:=by
 show (decide (0≤b) && decide (b < (p.bins.length:Int)) && (kindOf p b.toNat == 0))=false
 rcases h with h | h
 ·rw [show decide (0≤b)=false by rw [decide_eq_false_iff_not]; omega]; rfl
 ·rw [show decide (b < (p.bins.length:Int))=false by rw [decide_eq_false_iff_not]; omega,Bool.and_false]; rfl
theorem AKR {p:Pt} {k:Nat} (hk:k < p.bins.length):AFP p [(k:Int)]=(p.bins[k].kind == 0):=by
 show (decide (0≤(k:Int)) && decide ((k:Int) < (p.bins.length:Int)) && (kindOf p (k:Int).toNat == 0))=_
 rw [qG,ARW hk,show decide (0≤(k:Int))=true by rw [decide_eq_true_eq]; omega,show decide ((k:Int) < (p.bins.length:Int))=true by rw [decide_eq_true_eq]; omega]; rfl
theorem VF (i:Nat):decide ((i:Int) < 0)=false:=by rw [decide_eq_false_iff_not]; omega
theorem ZI {i n:Nat} (h:i < n):decide ((i:Int)≥(n:Int))=false:=by rw [decide_eq_false_iff_not]; omega
theorem AUW {i n:Nat} (h:i < n):decide ((i:Int) < (n:Int))=true:=by rw [decide_eq_true_eq]; omega
theorem AVO (i:Nat):decide ((i:Int)≥0)=true:=by rw [decide_eq_true_eq]; omega
theorem ABP {l:List Int} (h:l.length=1) : ∃ b,l = [b]:=by
 match l,h with
 | [b],_=>exact ⟨b,rfl⟩
section
variable (G:Nat→AV)
set_option maxHeartbeats 1000000 in
theorem ASH (m:Mo) (hg:Cov.Good m) (x:Hl) (hn:x.bins.length≤1048576) (h:Hp):PCall (En G) 28 [.agg (EE m),.agg (IP x)] h (.bool (AA3 m x)):=by
 refine ACalls.pure0 rfl ?_
 refine acN Tryz.func28 rfl ?_
 show awp _ _ _ _ _ (D8 _ [.tmp 4] _)
 have t:=Hb.mk' h m x
 simp -implicitDefEqProofs only [BC,BA,A8,AY,BB,AO,AQ,AL,BD,AX,AC,AA,AZ,AU,BM,A7,FM,BX,BN,CB,AB,BF,BL,↓reduceIte,jC,jM,jA,jB,enP,ZN,bxM,bxH]
 generalize h ++ [ABlk.live 2 [EE m]] ++ [ABlk.live 3 [IP x]]=H at t ⊢
 generalize (h ++ [ABlk.live 2 [EE m]]).length=hb at t ⊢
 simp -implicitDefEqProofs only [BI,A8,BB,AC,AA,AZ,AB,↓reduceIte,AU2 t.gh]
 cases hc:x.cross
 case true =>
  have hf:AA3 m x=crF m x (AHI m x.idx):=by unfold AA3; rw [if_pos hc]
  simp -implicitDefEqProofs only [BC,BA,CZ,AY,AO,AQ,AL,BD,AX,AC,AA,AZ,BU,BX,BN,BZ,BO,AB,jE,jD,jF,↓reduceIte,jC,jG,jA,jB,enP,PM,PL,ldM t.gm,AM6 t.gh,AJ0 t.gh]
  rcases SL x.idx m.crs.length with hz | ⟨i,hi,hz⟩
  ·rw [AK6 hz] at hf; change AA3 m x=false at hf
   refine (ACN G m x.idx hz x.bins x.bm H).use ?_
   simp -implicitDefEqProofs only [zH,zL,BC,BA,BJ,A8,CQ,CJ,AY,BB,BK,BV,CO,JD,AO,AQ,AL,BD,AX,AC,AA,EK,AZ,AU,BM,BG,A7,CP,DN,EW,GG,AB,↓reduceIte,jC,jA,jB]
   exact ⟨by rw [hf],t.hx⟩
  ·rw [hz,O8 hi] at hf
   change AA3 m x=(J3 (szs m m.crs[i].pts) x.bins && VM m m.crs[i] x.bins) at hf
   have hcg:=hg.crs _ (List.getElem_mem hi)
   rw [hz]
   refine (UU G m i hi hcg x.bins x.bm hn H).use ?_
   cases hin:J3 (szs m m.crs[i].pts) x.bins
   ·simp -implicitDefEqProofs only [zH,zL,BC,BA,BJ,A8,CQ,CJ,AY,BB,BK,BV,CO,JD,AO,AQ,AL,BD,AX,AC,AA,EK,AZ,AU,BM,BG,A7,CP,DN,EW,GG,AB,↓reduceIte,jC,jA,jB]
    exact ⟨by rw [hf,hin,Bool.false_and],t.hx⟩
   ·simp -implicitDefEqProofs only [zH,zL,BC,BA,A8,AY,BB,BK,BV,CO,FY,AO,AQ,AL,BD,AX,AC,AA,AZ,BU,BG,A7,BX,BN,EW,GG,BZ,BO,AB,jE,jD,jF,↓reduceIte,jC,jG,jA,jB,enP,PM,PL,ldM t.gm,AM6 t.gh,AJ0 t.gh]
    rw [hz]
    refine (AEP G m i hi hcg x.bins x.bm hin H).use ?_
    simp -implicitDefEqProofs only [BJ,A8,CQ,CJ,AY,BB,BK,BV,CO,FY,AO,AQ,AL,BD,AX,AC,AA,AZ,AU,BM,A7,CP,DL,GU,AB,EP,↓reduceIte,jC,jA,jB]
    exact ⟨by rw [hf,hin,Bool.true_and,Bool.not_not],t.hx⟩
 have hf:AA3 m x=ptF x (AMS m x.idx):=by unfold AA3; rw [if_neg (by rw [hc]; decide)]
 have l1:=AM6 t.gh
 have l2:=AJ0 t.gh
 rcases SL x.idx m.pts.length with hz | ⟨i,hi,hz⟩
 ·rw [AJC hz] at hf; change AA3 m x=false at hf
  cases d0:decide (x.idx < 0)
  ·have d1:decide (x.idx≥(m.pts.length:Int))=true:=by rw [decide_eq_true_eq]; rw [decide_eq_false_iff_not] at d0; omega
   simp -implicitDefEqProofs only [BC,BA,BR,BJ,BI,A8,CQ,CJ,CZ,DI,AY,BB,BK,BV,CO,EF,FI,AO,AQ,AL,BD,AX,AC,AA,EK,AZ,AU,BH,BM,BG,A7,CP,DL,DN,BX,BQ,BN,D6,AB,C9,FX,↓reduceIte,jC,jM,jG,jA,jB,enP,UQ,JV,PM,l1,d0,UR t.gm,jI,d1]
   exact ⟨by rw [hf],t.hx⟩
  ·simp -implicitDefEqProofs only [BC,BA,BR,BJ,BI,A8,CQ,CJ,CZ,DI,AY,BB,BK,BV,CO,FI,AO,AQ,AL,BD,AX,AC,AA,EK,AZ,AU,BH,BM,BG,A7,CP,DL,BX,BQ,BN,AB,C9,↓reduceIte,jC,jG,jA,jB,enP,PM,l1,d0]
   exact ⟨by rw [hf],t.hx⟩
 rw [hz,AGL hi] at hf
 change AA3 m x=AFP m.pts[i] x.bins at hf
 rw [hz] at l1
 rcases Classical.em (x.bins.length=1) with hl | hl
 case inr =>
  have hne:((x.bins.length:Int) != 1)=true:=by simp; omega
  simp -implicitDefEqProofs only [BC,BA,BR,BJ,BI,A8,CQ,CJ,CZ,DI,AY,BB,BK,BV,CO,EF,AO,AQ,AL,BD,AX,AC,AA,AZ,AU,BH,BM,BG,A7,CP,DN,BX,BQ,BN,D6,AB,ET,C9,FX,↓reduceIte,jC,jM,jG,jA,jB,enP,UQ,JV,KH,PM,PL,l1,l2,VF,UR t.gm,jI,ZI hi,hne]
  exact ⟨by rw [hf,AKQ hl],t.hx⟩
 obtain ⟨b,hb1⟩:=ABP hl
 rw [hb1] at l2 hf
 have h01:0 < ([b]:List Int).length:=by simp
 have i0:JG 1 H (.sl x.bm 1 [qencI b]) (.int .i64 0)=some (.fptr 1 [qencI b] 0 0):=D7 (k:=1) h01
 have hne:(((([qencI b]:List (List AV)).length:Nat):Int) != 1)=false:=rfl
 have lb:DX Tryz.prog H 3 (.fptr 1 [qencI b] 0 0)=some (.int .i64 b):=(DZ ag3 h01).trans rfl
 simp -implicitDefEqProofs only [BC,BA,BR,BI,A8,DI,AY,BB,BK,BV,CO,EF,AO,AQ,AL,BD,AX,AC,AA,AZ,AU,BH,BM,BG,A7,CP,DN,BX,BQ,BN,CG,D6,AB,ET,C9,FX,jE,jD,↓reduceIte,jC,jM,jG,jA,jB,enP,WQ,UQ,JV,JS,KH,PM,PL,KU,l1,l2,VF,UR t.gm,jI,ZI hi,hne,D7 hi,DZ AD1 hi,U0,i0,lb]
 rcases SL b m.pts[i].bins.length with hb2 | ⟨k,hk,rfl⟩
 ·rw [AFO hb2] at hf
  cases d0:decide (b≥0)
  ·simp -implicitDefEqProofs only [BJ,A8,CJ,AY,BB,BK,BV,CO,JD,AO,AQ,AL,BD,AX,AC,AA,EK,AZ,AU,BM,BG,A7,CP,DN,↓reduceIte,jC,jA,jB,d0]
   exact ⟨by rw [hf],t.hx⟩
  ·have d1:decide (b < (m.pts[i].bins.length:Int))=false:=by rw [decide_eq_false_iff_not]; rw [decide_eq_true_eq] at d0; omega
   simp -implicitDefEqProofs only [BJ,A8,CJ,AY,BB,BK,BV,CO,FY,JD,AO,AQ,AL,BD,AX,AC,AA,EK,AZ,AU,BH,BM,BG,A7,CP,DL,DN,BX,BQ,BN,CG,D6,AB,C9,jE,jD,↓reduceIte,jC,jG,jA,jB,enP,JS,PL,XU,d0,l2,i0,lb,jI,d1]
   exact ⟨by rw [hf],t.hx⟩
 ·rw [AKR hk] at hf
  simp -implicitDefEqProofs only [BJ,A8,CJ,AY,BB,BK,BV,CO,FY,AO,AQ,AL,BD,AX,AC,AA,AZ,AU,BH,BM,BG,A7,CP,DL,BX,BQ,BN,CG,D6,AB,DR,C9,jE,jD,↓reduceIte,jC,jG,jA,jB,enP,JS,PL,ZC,XU,TM,AVO,l2,i0,lb,jI,AUW hk,D7 hk,DZ ag3 hk,YI]
  exact ⟨by rw [hf],t.hx⟩
end
end Go.Proofs.YtfpagfhhhlljjaaGreatDoor.Ho
namespace Go.Proofs.YtfpagfhhhlljjaaGreatDoor.Ho
open Sm Bins Cov Xe Go.RowKit
theorem cl4:Tryz.prog.cellsOf 4=1:=by kernel_rfl
theorem A8S:Tryz.prog.cellsOf 28=3:=by kernel_rfl
def A4N (x:Hl) (b:Nat):Prop:=okL okI x.bins b
theorem A8R:Rd Tryz.prog 28 IP A4N:=by
 intro n
 match n with
 | 0=>exact RdAt.zero
 | 1=>exact ABZ Tryz.underlying28
 | n+2 =>
   refine RdAt.map (fun x:Bool × Int × Is × Unit=>(⟨x.1,x.2.1,x.2.2.1.m,x.2.2.1.l⟩:Hl))
    (NR Tryz.underlying28 (IL rfl cl4 (fun _=>rfl) (AYL Tryz.underlying4 _) (IL rfl cl3 (fun _=>rfl) (rdI _) (IL rfl A3H ADF (A2J _) QT)))) (fun x=>rfl) ?_
   rintro ⟨a,b,c,_⟩ N ⟨_,hN,b1,b2,hb,h1,b3,b4,hb2,h2,b5,b6,hb3,h3,_⟩
   exact h3.mono (by omega)
theorem A7D {x:Hl} {b:Nat} (h:A4N x b) (hb:b≤1048576):x.bins.length≤1048576:=Nat.le_trans (okL.length h) hb
end Go.Proofs.YtfpagfhhhlljjaaGreatDoor.Ho
set_option linter.unusedSimpArgs false
set_option maxRecDepth 8000
namespace Go.Proofs.YtfpagfhhhlljjaaGreatDoor.Ho
open Sm Bins Cov Go.RowKit
open Bool renaming not_false→jB,and_eq_true→jU
open List renaming map_cons→jE,map_nil→jD,append_nil→jF,mem_cons_of_mem→qW
open Nat renaming reduceEqDiff→jC,one_mul→wK,add_mul→zX,mul_le_mul_right→wC
open Option renaming getD_some→jA
section
variable (G:Nat→AV)
theorem valid_prog (hG:GOk G) (m:Mo) (hm:MoOk m) (x:Hl) (hn:x.bins.length≤1048576) (h:Hp):PCall (En G) 11 [.agg (EE m),.agg (IP x)] h (.bool (NZ m x)):=by
 refine ACalls.pure0 rfl ?_
 refine acN Tryz.func11 rfl ?_
 show awp _ _ _ _ _ (D8 _ [.tmp 4] _)
 have t:=Hb.mk' h m x
 simp -implicitDefEqProofs only [BC,BA,A8,AY,BB,AO,AQ,AL,BD,AX,AC,AA,AZ,AU,BM,A7,FM,BX,CB,BF,BL,↓reduceIte,jC,jA,jB,enP,bxM,bxH]
 generalize h ++ [ABlk.live 2 [EE m]] ++ [ABlk.live 3 [IP x]]=H at t ⊢
 generalize (h ++ [ABlk.live 2 [EE m]]).length=hb at t ⊢
 simp -implicitDefEqProofs only [AY,AO,AQ,AL,BD,AX,AC,AA,AZ,BU,BZ,BO,AB,jE,jD,jF,↓reduceIte,jA,jB,ldM t.gm]
 refine (ACC G hG m hm H).use ?_
 unfold NZ
 cases h0:(IA m == 0)
 ·simp -implicitDefEqProofs only [BJ,A8,CJ,AY,BB,BK,BV,CO,JD,AO,AQ,AL,BD,AX,AC,AA,EK,AZ,AU,BH,BM,BG,A7,CP,DN,BQ,AB,DR,↓reduceIte,jC,jA,jB,enP,h0]
  exact ⟨by rw [Bool.false_and],t.hx⟩
 ·have hg:Cov.Good m:=X6 (by simpa using h0)
  simp -implicitDefEqProofs only [AY,BK,BV,CO,FY,AO,AQ,AL,BD,AX,AC,AA,AZ,AU,BU,BH,BG,BX,BQ,BZ,BO,AB,DR,jE,jD,jF,↓reduceIte,jC,jA,jB,enP,h0,ldM t.gm,ldH t.gh]
  refine (ASH G m hg x hn H).use ?_
  simp -implicitDefEqProofs only [BJ,A8,CJ,AY,BB,AO,AQ,AL,BD,AX,AC,AA,AZ,AU,BM,A7,CP,DL,↓reduceIte,jC,jA,jB]
  exact ⟨by rw [Bool.true_and],t.hx⟩
end
abbrev dot:ByteArray:=⟨#[46]⟩
abbrev comma:ByteArray:=⟨#[44]⟩
def V5 (m:Mo) (p b:Int):ByteArray:=match (JQ m p)[b.toNat]? with
 | some x=>x.name
 | none=>⟨#[]⟩
def prN (m:Mo):ByteArray→Bool→List Int→List Int→ByteArray
 | s,f,p :: ps,b :: bs=>prN m ((if f=true then s else s ++ comma) ++ V5 m p b) false ps bs
 | s,_,_,_=>s
def prC (m:Mo) (x:Hl):Option Cr→ByteArray
 | some c=>prN m (c.name ++ dot) true c.pts x.bins
 | none=>⟨#[]⟩
def prP (m:Mo) (x:Hl):Option Pt→ByteArray
 | some p=>p.name ++ dot ++ V5 m x.idx (x.bins.headD 0)
 | none=>⟨#[]⟩
def prH (m:Mo) (x:Hl):ByteArray:=if NZ m x=true then (if x.cross=true then prC m x (AHI m x.idx) else prP m x (AMS m x.idx)) else ⟨#[]⟩
theorem PZ {m:Mo} {x:Hl} (hv:NZ m x=true) (hc:x.cross=true) : ∃ i,∃ hi:i < m.crs.length,x.idx=(i:Int)∧J3 (szs m m.crs[i].pts) x.bins=true∧VM m m.crs[i] x.bins=true∧Cov.Good m:=by
 unfold NZ at hv
 rw [jU] at hv
 obtain ⟨h0,hf⟩:=hv
 unfold AA3 at hf
 rw [if_pos hc] at hf
 rcases SL x.idx m.crs.length with hz | ⟨i,hi,hz⟩
 ·rw [AK6 hz] at hf; exact Bool.noConfusion (show false=true from hf)
 ·rw [hz,O8 hi] at hf
  change (J3 (szs m m.crs[i].pts) x.bins && VM m m.crs[i] x.bins)=true at hf
  rw [jU] at hf
  exact ⟨i,hi,hz,hf.1,hf.2,X6 (by simpa using h0)⟩
theorem PY {m:Mo} {x:Hl} (hv:NZ m x=true) (hc:x.cross=false) : ∃ i,∃ hi:i < m.pts.length,∃ k,∃ hk:k < m.pts[i].bins.length,x.idx=(i:Int)∧x.bins = [(k:Int)]∧m.pts[i].bins[k].kind=0∧Cov.Good m:=by
 unfold NZ at hv
 rw [jU] at hv
 obtain ⟨h0,hf⟩:=hv
 unfold AA3 at hf
 rw [if_neg (by rw [hc]; decide)] at hf
 rcases SL x.idx m.pts.length with hz | ⟨i,hi,hz⟩
 ·rw [AJC hz] at hf; exact Bool.noConfusion (show false=true from hf)
 ·rw [hz,AGL hi] at hf
  change AFP m.pts[i] x.bins=true at hf
  rcases Classical.em (x.bins.length=1) with hl | hl
  ·obtain ⟨b,hb⟩:=ABP hl
   rw [hb] at hf
   rcases SL b m.pts[i].bins.length with hb2 | ⟨k,hk,rfl⟩
   ·rw [AFO hb2] at hf; exact Bool.noConfusion (show false=true from hf)
   ·rw [AKR hk] at hf
    exact ⟨i,hi,k,hk,hz,hb,by simpa using hf,X6 (by simpa using h0)⟩
  ·rw [AKQ hl] at hf; exact Bool.noConfusion (show false=true from hf)
theorem AO7 {a b:ByteArray} (h:a.size+b.size≤9223372036854775807):JB Tryz.prog 9 .add (.str a) (.str b)=some (.str (a ++ b)):=by
 show AOK .add a b=_
 unfold AOK
 have hm:IntKind.i64.max=9223372036854775807:=by decide
 simp only
 rw [if_pos (by rw [hm]; omega)]
theorem AK2:dot.size=1:=rfl
section
variable (G:Nat→AV)
end
theorem foldl_mul : ∀ (l:List Nat) (a:Nat),l.foldl (· * ·) a=a * l.foldl (· * ·) 1
 | [],a=>(Nat.mul_one a).symm
 | n :: l,a=>by
   show l.foldl (· * ·) (a * n)=a * l.foldl (· * ·) (1 * n)
   rw [foldl_mul l (a * n),foldl_mul l (1 * n),wK,Nat.mul_assoc]
theorem WI (n:Nat) (ns:List Nat):JO (n :: ns)=n * JO ns:=by
 unfold JO
 show ns.foldl (· * ·) (1 * n)=_
 rw [wK,foldl_mul]
theorem Y5 : ∀ {ns:List Nat},(∀ n∈ns,1≤n)→1≤JO ns
 | [],_=>Nat.le_refl 1
 | n :: ns,h=>by
   rw [WI]
   exact Nat.mul_le_mul (h n List.mem_cons_self) (Y5 fun k hk=>h k (qW _ hk))
theorem AVK : ∀ {ns:List Nat} {l:List Int} {z:Nat},J3 ns l=true→(∀ n∈ns,1≤n)→(z+1) * JO ns≤4611686018427387904→∃ r:Nat,VL ns l (z:Int)=((z * JO ns+r:Nat):Int)∧r < JO ns
 | [],[],z,_,_,_=>⟨0,by show (z:Int)=((z * 1+0:Nat):Int); omega,by decide⟩
 | [],_ :: _,_,h,_,_=>by simp [J3] at h
 | _ :: _,[],_,h,_,_=>by simp [J3] at h
 | n :: ns,x :: xs,z,h,h1,hb=>by
   simp only [J3,jU,decide_eq_true_eq] at h
   obtain ⟨⟨x0,x1⟩,hr⟩:=h
   have hP:=Y5 (ns:=ns) fun k hk=>h1 k (qW _ hk)
   rw [WI] at hb ⊢
   obtain ⟨y,rfl⟩ : ∃ y:Nat,x=(y:Int):=⟨x.toNat,by omega⟩
   have hy:y < n:=by omega
   generalize hp:JO ns=P at hP hb ⊢
   have e1:(z+1) * (n * P)=(z * n+n) * P:=by rw [← Nat.mul_assoc,zX,wK]
   have e2:(z * n+n)≤(z * n+n) * P:=Nat.le_mul_of_pos_right _ hP
   have e3:(z * n+y+1) * P≤(z * n+n) * P:=wC P (by omega)
   have w1:IntKind.i64.wrap ((z:Int) * (n:Int))=((z * n:Nat):Int):=by rw [← Int.natCast_mul]; exact KC (by omega)
   have w2:IntKind.i64.wrap (((z * n:Nat):Int)+(y:Int))=((z * n+y:Nat):Int):=by rw [← Int.natCast_add]; exact KC (by omega)
   obtain ⟨r,r1,r2⟩:=AVK (z:=z * n+y) hr (fun k hk=>h1 k (qW _ hk)) (by rw [hp]; omega)
   rw [hp] at r1 r2
   refine ⟨y * P+r,?_,?_⟩
   ·show VL ns xs (IntKind.i64.wrap (IntKind.i64.wrap ((z:Int) * (n:Int))+(y:Int)))=_
    rw [w1,w2,r1]
    congr 1
    rw [zX,Nat.mul_assoc]
    omega
   ·have:(y+1) * P≤n * P:=wC P hy
    rw [zX,wK] at this
    omega
theorem AKC {m:Mo} (hg:Cov.Good m) {i:Nat} (hi:i < m.crs.length) {l:List Int} (hin:J3 (szs m m.crs[i].pts) l=true) : ∃ k:Nat,VL (szs m m.crs[i].pts) l 0=(k:Int)∧k < JO (szs m m.crs[i].pts):=by
 have hcg:=hg.crs _ (List.getElem_mem hi)
 have hs:=hg.full.szs hcg.here
 have hfour:=hcg.four
 have hp:JO (szs m m.crs[i].pts)≤64 ^ 4:=AB3 _ 4 (fun n hn=>(hs n hn).2) (by rw [QR]; exact hfour)
 obtain ⟨r,r1,r2⟩:=AVK (z:=0) hin (fun n hn=>(hs n hn).1) (by omega)
 exact ⟨r,by rw [show (0:Int)=((0:Nat):Int) from rfl,r1,Nat.zero_mul,Nat.zero_add],r2⟩
end Go.Proofs.YtfpagfhhhlljjaaGreatDoor.Ho
set_option linter.unusedSimpArgs false
set_option maxRecDepth 8000
namespace Go.Proofs.YtfpagfhhhlljjaaGreatDoor.Ho
open Sm Bins Cov Xe Go.RowKit
open Bool renaming not_false→jB,not_true→jV
open List renaming getElem?_eq_getElem→jL,map_cons→jE,map_nil→jD,append_nil→jF,getElem?_cons_zero→zH,getElem?_cons_succ→zL,getElem_mem→jO,length_map→jI,getElem?_append_left→zM
open Nat renaming le_of_ble_eq_true→jH,reduceEqDiff→jC,add_zero→jM,zero_add→jG
open Option renaming getD_some→jA
theorem AE6 {m:Mo} : ∀ {l:List (List Sg)} {s:St},FitS m s→(P9 m s l).1=0→FitS m (P9 m s l).2
 | [],_,h,_=>h
 | e :: r,s,h,h0=>by
   unfold P9 at h0 ⊢
   split
   ·rename_i hn
    rw [if_pos hn] at h0
    exact absurd h0 hn
   ·rename_i hn
    rw [if_neg hn] at h0
    exact AE6 (h.step (Classical.byContradiction hn)) h0
theorem AT2 {m:Mo} {l:List (List Sg)} (h0:IA m=0) (h:N7 m l=0):AFN m (OX m l)=true:=by
 unfold N7 at h
 rw [if_pos h0] at h
 unfold OX
 rw [if_pos ⟨h0,h⟩]
 exact (AE6 (ATA h0) h).fits
theorem A0D {m:Mo} {c:Cvr} (hf:AFN m c=true) {i k:Nat} (hi:i < m.pts.length) (hk:k < m.pts[i].bins.length) : ∃ hi:i < c.pts.length,∃ hk:k < c.pts[i].l.length,cellAt c.pts i k=c.pts[i].l[k]:=by
 obtain ⟨_,h1,_⟩:=ZK.1 hf
 obtain ⟨x,e,ho⟩:=X9 h1 i m.pts[i] (jL hi)
 exact AFZ (AVJ e (AYW ho) hk)
theorem A0E {m:Mo} {c:Cvr} (hf:AFN m c=true) {i k:Nat} (hi:i < m.crs.length) (hk:k < JO (szs m m.crs[i].pts)) : ∃ hi:i < c.crs.length,∃ hk:k < c.crs[i].l.length,cellAt c.crs i k=c.crs[i].l[k]:=by
 obtain ⟨_,_,h2,_⟩:=ZK.1 hf
 obtain ⟨x,e,ho⟩:=X9 h2 i m.crs[i] (jL hi)
 exact AFZ (AVJ e (AYZ ho) hk)
def SI (m:Mo) (x:Hl) (c:Cvr):Int:=if x.cross=true then (match AHI m x.idx with
    | some r=>cellAt c.crs x.idx.toNat (ixV (szs m r.pts) x.bins).toNat
    | none=>0) else cellAt c.pts x.idx.toNat (x.bins.headD 0).toNat
def htV (m:Mo) (x:Hl) (c:Cvr) (e:Int):Bool × Int:=if NZ m x=true then (if e=0 then (decide (SI m x c > 0),0) else (false,e)) else (false,1)
structure H3 (h H:Hp) (m:Mo) (x:Hl) (c:Cvr) (hb cb:Nat):Prop where
 gm:H[h.length]? = some (ABlk.live 2 [EE m])
 gh:H[hb]? = some (ABlk.live 3 [IP x])
 gc:H[cb]? = some (ABlk.live 4 [encV c])
 hx:ext h H
theorem A7T {H:Hp} {b:Nat} {c:Cvr} (hb:H[b]? = some (.live 4 [encV c])):DX Tryz.prog H 67 (.ptr b 0 0)=some (.sl c.pm 1 (c.pts.map encL)):=by rw [DJ TR hb (row:=encV c) rfl]; rfl
theorem A7S {H:Hp} {b:Nat} {c:Cvr} (hb:H[b]? = some (.live 4 [encV c])):DX Tryz.prog H 67 (.ptr b 0 1)=some (.sl c.cm 1 (c.crs.map encL)):=by rw [DJ TR hb (row:=encV c) rfl]; rfl
section
variable (G:Nat→AV)
set_option maxHeartbeats 2000000 in
theorem hit_prog (hG:GOk G) (hT:Q8 G) (m:Mo) (hm:MoOk m) (x:Hl) (hn:x.bins.length≤1048576) (l:List Ss) (s:SM) (h:Hp) (hl:l.length≤1048576) (he : ∀ x∈l,x.l.length≤1048576∧∀ s∈x.l,VO s) :
  PCall (En G) 19 [.agg (EE m),.agg (IP x),.sl s 1 (l.map OV)] h (.tup [.bool (htV m x (OX m (l.map Ss.l)) (N7 m (l.map Ss.l))).1,.int .i64 (htV m x (OX m (l.map Ss.l)) (N7 m (l.map Ss.l))).2]):=by
 refine ACalls.pure 2 (R:=fun v H=>v = .tup [.bool (htV m x (OX m (l.map Ss.l)) (N7 m (l.map Ss.l))).1,.int .i64 (htV m x (OX m (l.map Ss.l)) (N7 m (l.map Ss.l))).2]∧ext h H) ?_ (fun v h' ⟨e,x⟩=>⟨x,by subst e; rfl⟩)
 refine acN Tryz.func19 rfl ?_
 show awp _ _ _ _ _ (D8 _ [.tmp 6,.tmp 7] _)
 have t:=Hb.mk' h m x
 simp -implicitDefEqProofs only [BC,BA,A8,AY,BB,AO,AQ,AL,BD,AX,AC,AA,AZ,AU,BH,BM,A7,FM,BX,CB,BF,BL,↓reduceIte,jC,jA,jB,enP,bxM,bxH]
 generalize h ++ [ABlk.live 2 [EE m]] ++ [ABlk.live 3 [IP x]]=H at t ⊢
 generalize (h ++ [ABlk.live 2 [EE m]]).length=hb at t ⊢
 simp -implicitDefEqProofs only [AY,AO,AQ,AL,BD,AX,AC,AA,AZ,BU,BX,BZ,BO,AB,jE,jD,jF,↓reduceIte,jC,jA,jB,enP,ldM t.gm,ldH t.gh]
 refine (valid_prog G hG m hm x hn H).use ?_
 cases hv:NZ m x
 ·have hr:htV m x (OX m (l.map Ss.l)) (N7 m (l.map Ss.l))=(false,1):=by unfold htV; rw [if_neg (by rw [hv]; decide)]
  simp -implicitDefEqProofs only [BC,BA,BJ,BI,A8,CQ,IU,CZ,AY,BB,AO,AQ,AL,BD,AX,AC,AA,AZ,AU,BH,BM,A7,GU,AB,EP,↓reduceIte,jC,jA,jB]
  exact ⟨by rw [hr],t.hx⟩
 have h0:IA m=0:=by unfold NZ at hv; rw [Bool.and_eq_true] at hv; simpa using hv.1
 simp -implicitDefEqProofs only [BC,BA,BR,BI,A8,DI,AY,BB,AO,AQ,AL,BD,AX,AC,AA,AZ,BU,BG,BX,GU,BZ,BO,AB,EP,BF,BL,jE,jD,jF,↓reduceIte,jC,jA,jV,jB,enP,ldM t.gm]
 refine (AXI G hG hT m hm l s H hl (fun x hx=>(he x hx).1)).use ?_
 have hfit:=fun e=>AT2 (m:=m) (l:=l.map Ss.l) h0 e
 generalize OX m (l.map Ss.l)=c at hfit ⊢
 generalize N7 m (l.map Ss.l)=e at hfit ⊢
 have t':H3 h (H ++ [ABlk.live 4 [encV c]]) m x c hb H.length:=⟨CU t.gm,CU t.gh,CW _ _,t.hx.app _⟩
 simp -implicitDefEqProofs only [zH,zL,BC,BA,BI,A8,AY,BB,AO,AQ,AL,BD,AX,AC,ES,AA,AZ,AU,BH,BG,A7,FO,EI,BQ,EW,GG,CB,AB,DT,ET,↓reduceIte,jC,jA,jB,enP,Option.getD_none,AD0,A2C,bne]
 generalize H ++ [ABlk.live 4 [encV c]]=H1 at t' ⊢
 generalize H.length=cb at t' ⊢
 cases hz:(e == 0)
 ·have hz':e≠0:=by simpa using hz
  have hr:htV m x c e=(false,e):=by unfold htV; rw [if_pos hv,if_neg hz']
  simp -implicitDefEqProofs only [BC,BA,BJ,A8,CQ,IU,CZ,AY,BB,AO,AQ,AL,BD,AX,AC,AA,AZ,AU,BM,BG,A7,↓reduceIte,jC,jA,jB]
  exact ⟨by rw [hr],t'.hx⟩
 have hz':e=0:=by simpa using hz
 have hf:=hfit hz'
 have hr:htV m x c e=(decide (SI m x c > 0),0):=by unfold htV; rw [if_pos hv,if_pos hz']
 rw [hr]
 clear hr hfit t
 have l1:=AM6 t'.gh
 have l2:=AJ0 t'.gh
 simp -implicitDefEqProofs only [BC,BA,BR,BI,A8,DI,AY,BB,AO,AQ,AL,BD,AX,AC,AA,AZ,BX,GU,BN,AB,EP,↓reduceIte,jC,jM,jA,jV,jB,enP,ZN,AU2 t'.gh]
 cases hc:x.cross
 ·obtain ⟨i,hi,k,hk,hzi,hbn,_,hg⟩:=PY hv hc
  rw [hzi] at l1
  rw [hbn] at l2
  have h01:0 < ([(k:Int)]:List Int).length:=by simp
  have i0:JG 1 H1 (.sl x.bm 1 [qencI k]) (.int .i64 0)=some (.fptr 1 [qencI k] 0 0):=D7 (k:=1) h01
  have lb:DX Tryz.prog H1 3 (.fptr 1 [qencI k] 0 0)=some (.int .i64 k):=(DZ ag3 h01).trans rfl
  obtain ⟨hi2,hk2,hcell⟩:=A0D hf hi hk
  have hce:SI m x c=c.pts[i].l[k]:=by
   unfold SI
   rw [if_neg (by rw [hc]; decide),hzi,hbn]
   exact hcell
  simp -implicitDefEqProofs only [BC,CZ,jB]
  refine FN (by kernel_rfl) ?_
  simp -implicitDefEqProofs only [G5,EM,D9,FU,EQ,JI,FT,J7,EX,EU,BJ,A8,CQ,IU,AO,AA,AZ,AU,BH,BX,BQ,BN,CG,AB,FD,jE,jD,↓reduceIte,jC,Nat.reduceAdd,jM,jG,jA,enP,JS,PM,PL,AEH,AG8,l1,l2,A7T t'.gc,D7 hi2,DZ OA hi2,AV2,i0,lb,D7 hk2,DZ ag3 hk2,Bins.encI0]
  exact ⟨by rw [hce],t'.hx⟩
 obtain ⟨i,hi,hzi,hin,_,hg⟩:=PZ hv hc
 have hcg:=hg.crs _ (jO hi)
 obtain ⟨k,hk1,hk⟩:=AKC hg hi hin
 have hiv:ixV (szs m m.crs[i].pts) x.bins=(k:Int):=by unfold ixV; rw [if_pos hin,hk1]
 rw [hzi] at l1
 obtain ⟨hi2,hk2,hcell⟩:=A0E hf hi hk
 have hce:SI m x c=c.crs[i].l[k]:=by
  unfold SI
  rw [if_pos hc,hzi,O8 hi]
  show cellAt c.crs i (ixV (szs m m.crs[i].pts) x.bins).toNat=_
  rw [hiv]
  exact hcell
 simp -implicitDefEqProofs only [BC,BA,BR,A8,DI,AY,AO,AQ,AL,BD,AX,AC,AA,AZ,BU,BX,BN,BZ,BO,AB,jE,jD,jF,↓reduceIte,jC,jG,jA,jV,jB,enP,PM,PL,ldM t'.gm,l1,l2]
 refine (UU G m i hi hcg x.bins x.bm hn H1).use ?_
 rw [hiv]
 simp -implicitDefEqProofs only [zH,zL,BC,BA,BJ,A8,IU,AY,BB,AO,AQ,AL,BD,AX,AC,AA,AZ,AU,BH,BG,A7,BX,BQ,BN,CG,EW,GG,AB,FD,↓reduceIte,jC,jG,jA,jB,enP,JS,PM,AEH,AC6,l1,A7S t'.gc,D7 hi2,DZ OA hi2,AV2,D7 hk2,DZ ag3 hk2,Bins.encI0]
 exact ⟨by rw [hce],t'.hx⟩
end
section
variable (G:Nat→AV)
theorem A0L (l:List Sg) (s:SM) (hn:l.length≤1048576) (h:Hp):Rk.SomeB (En G) 42 [.sl s 2 (l.map GI)] h:=by
 refine Rk.SomeB.of ?_
 refine acN Tryz.func42 rfl ?_
 show awp _ _ _ _ _ (D8 _ [.tmp 2] _)
 simp -implicitDefEqProofs only [BC,BP,BA,A8,AY,BB,AO,AQ,AL,BD,AX,AC,AU,BH,BM,A7,jA,jB,enP]
 refine DY (fun n F H => ∃ i,n+i=l.length∧F 0 = .sl s 2 (l.map GI)∧F 3 = .int .i64 (i:Nat)∧H=h) l.length ⟨0,by simp,by simp -implicitDefEqProofs only [AA,BF,↓reduceIte,jC],by simp -implicitDefEqProofs only [AA,↓reduceIte] <;> rfl,rfl⟩ ?_
 rintro n F H ⟨i,hi,f0,f3,rfl⟩
 simp -implicitDefEqProofs only [BC,BA,AY,BK,BV,CO,AO,AQ,AL,BD,AX,AC,AA,AZ,BG,BQ,D6,AB,C9,↓reduceIte,jC,jA,jB,enP,AUX,f0,f3,jI]
 cases hc:decide (((i:Nat):Int) < ((l.length:Nat):Int))
 ·simp -implicitDefEqProofs only [BC,BA,BJ,DW,BI,A8,EG,EY,EZ,CJ,DI,AY,BB,BK,BV,CO,JD,AO,AQ,AL,BD,AX,AC,AA,EK,AZ,AU,BH,BM,BG,A7,CP,DN,BQ,D6,AB,IJ,↓reduceIte,jC,jA,jB,enP,AUX,f0,jI]
  exact ⟨⟨_,rfl⟩,ext.rfl' _⟩
 have hi':i < l.length:=by simpa using hc
 simp -implicitDefEqProofs only [BI,A8,AY,BB,BK,BV,CO,FY,AO,AQ,AL,BD,AX,AC,AA,AZ,AU,BH,BM,BG,CP,DL,BQ,AB,C9,↓reduceIte,jC,jA,jB,enP,f3]
 refine CV (fun hb => ?_) (fun hb => ?_)
 ·simp -implicitDefEqProofs only [BC,BP,BA,BR,BI,A8,AY,BB,AO,AQ,AL,BD,AX,AC,AA,AZ,AU,BH,BG,BX,BQ,BN,CG,D6,AB,FD,↓reduceIte,jC,jM,jA,jB,enP,ln9,ANN,AZJ,f0,f3,D7 hi',DZ ag9 hi',A28]
  refine CV (fun hd => ?_) (fun hd => ?_)
  ·simp -implicitDefEqProofs only [BC,BA,BJ,A8,CQ,ED,F7,CJ,AY,BB,AO,AQ,AL,BD,AX,AC,AA,AU,BM,A7,↓reduceIte,jA,jB]
   exact ⟨⟨_,rfl⟩,ext.rfl' _⟩
  ·simp -implicitDefEqProofs only [BA,BR,A8,EH,ER,AY,BB,AO,AQ,AL,BD,AX,AC,AA,AZ,AU,BH,BG,A7,BQ,AB,DK,↓reduceIte,jC,jA,jB,enP,f3,wrap_succ (show i < 9223372036854775807 by omega)]
   exact ⟨n - 1,by omega,i+1,by omega,by trivial,by trivial,trivial⟩
 ·simp -implicitDefEqProofs only [BC,BA,BJ,DW,A8,EG,EY,EZ,CJ,AY,BB,AO,AQ,AL,BD,AX,AC,AA,AZ,AU,BH,BG,A7,BQ,D6,AB,IJ,↓reduceIte,jC,jA,jB,enP,AUX,f0,jI]
  exact ⟨⟨_,rfl⟩,ext.rfl' _⟩
theorem AQJ (l:List Ss) (s:SM) (hn:l.length≤1048576) (he : ∀ x∈l,x.l.length≤1048576) (h:Hp):Rk.SomeB (En G) 18 [.sl s 1 (l.map OV)] h:=by
 refine Rk.SomeB.of ?_
 refine acN Tryz.func18 rfl ?_
 show awp _ _ _ _ _ (D8 _ [.tmp 2] _)
 simp -implicitDefEqProofs only [BC,BP,BA,A8,AY,BB,AO,AQ,AL,BD,AX,AC,AU,BH,BM,A7,jA,jB,enP]
 refine DY (fun n F H => ∃ i,n+i=l.length∧F 0 = .sl s 1 (l.map OV)∧F 3 = .int .i64 (i:Nat)∧H=h) l.length ⟨0,by simp,by simp -implicitDefEqProofs only [AA,BF,↓reduceIte,jC],by simp -implicitDefEqProofs only [AA,↓reduceIte] <;> rfl,rfl⟩ ?_
 rintro n F H ⟨i,hi,f0,f3,rfl⟩
 simp -implicitDefEqProofs only [BC,BA,AY,BK,BV,CO,AO,AQ,AL,BD,AX,AC,AA,AZ,BG,BQ,D6,AB,C9,↓reduceIte,jC,jA,jB,enP,AJZ,f0,f3,jI]
 cases hc:decide (((i:Nat):Int) < ((l.length:Nat):Int))
 ·simp -implicitDefEqProofs only [BC,BA,BJ,DW,BI,A8,EG,EY,EZ,CJ,DI,AY,BB,BK,BV,CO,JD,AO,AQ,AL,BD,AX,AC,AA,EK,AZ,AU,BH,BM,BG,A7,CP,DN,BQ,D6,AB,IJ,↓reduceIte,jC,jA,jB,enP,AJZ,f0,jI]
  exact ⟨⟨_,rfl⟩,ext.rfl' _⟩
 have hi':i < l.length:=by simpa using hc
 simp -implicitDefEqProofs only [BI,A8,AY,BB,BK,BV,CO,FY,AO,AQ,AL,BD,AX,AC,AA,AZ,AU,BH,BM,BG,CP,DL,BQ,AB,C9,↓reduceIte,jC,jA,jB,enP,f3]
 refine CV (fun hb => ?_) (fun hb => ?_)
 ·simp -implicitDefEqProofs only [BC,BP,BA,BR,A8,AY,AO,AQ,AL,BD,AX,AC,AA,AZ,BU,BG,BX,CG,BZ,BO,AB,jE,jD,jF,↓reduceIte,jC,jA,jB,enP,A2X,f0,f3,D7 hi',DZ A0Y hi',ANR]
  refine (A0L G l[i].l l[i].m (he _ (jO hi')) _).use ?_
  intro b
  cases b
  ·simp -implicitDefEqProofs only [BC,BA,BJ,BI,A8,CQ,ED,F7,CJ,CZ,AY,BB,AO,AQ,AL,BD,AX,AC,AA,AZ,AU,BM,A7,GU,AB,EP,↓reduceIte,jA,jB]
   exact ⟨⟨_,rfl⟩,ext.rfl' _⟩
  ·simp -implicitDefEqProofs only [BA,BR,BI,A8,EH,ER,DI,AY,BB,AO,AQ,AL,BD,AX,AC,AA,AZ,AU,BH,BG,A7,BQ,GU,AB,DK,EP,↓reduceIte,jC,jA,jV,jB,enP,f3,wrap_succ (show i < 9223372036854775807 by omega)]
   exact ⟨n - 1,by omega,i+1,by omega,by trivial,by trivial,trivial⟩
 ·simp -implicitDefEqProofs only [BC,BA,BJ,DW,A8,EG,EY,EZ,CJ,AY,BB,AO,AQ,AL,BD,AX,AC,AA,AZ,AU,BH,BG,A7,BQ,D6,AB,IJ,↓reduceIte,jC,jA,jB,enP,AJZ,f0,jI]
  exact ⟨⟨_,rfl⟩,ext.rfl' _⟩
end
def SomeI (E:Env) (f:FuncId) (args:List AV) (h:Hp):Prop:=ACalls E f args h fun v H=>(∃ n:Int,v = .int .i64 n)∧H=h
theorem SomeI.of {E:Env} {f:FuncId} {args:List AV} {h:Hp} (hc:ACalls E f args h fun v H=>(∃ n:Int,v = .int .i64 n)∧ext h H):SomeI E f args h :=
 hc.trunc fun v H hR=>by
  obtain ⟨⟨b,rfl⟩,x,rfl⟩:=hR
  exact ⟨1,h,rfl,fun b hb => .inr (.inl ⟨by rw [zM hb],by rw [zM hb]⟩),⟨b,rfl⟩,rfl⟩
theorem SomeI.use {E:Env} {f:FuncId} {args:List AV} {h:Hp} {K:AV→Hp→Prop} (hc:SomeI E f args h) (hk : ∀ n:Int,K (.int .i64 n) h):ACalls E f args h K :=
 ACalls.mono hc fun v H ⟨⟨b,e⟩,e2⟩=>by rw [e,e2]; exact hk b
theorem AN1 (G:Nat→AV) : ∀ (w:Nat) (e:Ex) (n:Int) (h:Hp),wt e≤w→wt e≤1048576→SomeI (En G) 48 [.agg (CY e),.int .i64 n] h:=by
 intro w
 induction w with
 | zero=>intro e n h h1 _; have:=L9 e; omega
 | succ w ih =>
   intro e n h h1 h2
   have hlen:=SY e.args
   have hwt:=L9 e
   refine SomeI.of ?_
   refine acN Tryz.func48 rfl ?_
   show awp _ _ _ _ _ (D8 _ [.tmp 4] _)
   have hb:=CW h (.live 4 [CY e])
   have hx:ext h (h ++ [.live 4 [CY e]]):=(ext.rfl' h).app _
   simp -implicitDefEqProofs only [BC,BP,BA,A8,AY,BB,AO,AQ,AL,BD,AX,AC,AZ,AU,BH,A7,FM,CB,BF,jA,jB,enP,bxE]
   generalize h ++ [.live 4 [CY e]]=H at hb hx ⊢
   refine DY (fun N F H' => ∃ k z,N+k=e.args.length∧F 1 = .int .i64 n∧F 2 = .ptr h.length 0 0∧F 5 = .int .i64 z∧F 6 = .int .i64 (k:Nat)∧H'=H) e.args.length ⟨0,1,by simp,by simp -implicitDefEqProofs only [AA,BF,BL,↓reduceIte,jC],by simp -implicitDefEqProofs only [AA,↓reduceIte,jC],by simp -implicitDefEqProofs only [AA,↓reduceIte,jC] <;> rfl,by simp -implicitDefEqProofs only [AA,↓reduceIte] <;> rfl,rfl⟩ ?_
   rintro N F H' ⟨k,z,hk,f1,f2,f5,f6,rfl⟩
   simp -implicitDefEqProofs only [BC,BA,AY,BK,BV,CO,AO,AQ,AL,BD,AX,AC,AA,AZ,BG,BX,BQ,BN,D6,AB,C9,↓reduceIte,jC,jG,jA,jB,enP,TW,MR,f2,f6,Rk.ldE' hb,jI]
   cases hc:decide (((k:Nat):Int) < ((e.args.length:Nat):Int))
   ·simp -implicitDefEqProofs only [BC,BA,BJ,DW,BI,A8,EG,EY,EZ,CJ,DI,AY,BB,BK,BV,CO,JD,AO,AQ,AL,BD,AX,AC,AA,EK,AZ,AU,BM,BG,A7,CP,DN,↓reduceIte,jC,jA,jB,f5]
    exact ⟨⟨_,rfl⟩,hx⟩
   have hk':k < e.args.length:=by simpa using hc
   have hlt:=Rk.wt_arg hk'
   simp -implicitDefEqProofs only [BI,A8,AY,BB,BK,BV,CO,FY,AO,AQ,AL,BD,AX,AC,AA,AZ,AU,BM,BG,CP,DL,BQ,AB,IJ,↓reduceIte,jC,jA,jB,enP,f1,f5]
   refine CV (fun hd => ?_) (fun hd => ?_)
   ·simp -implicitDefEqProofs only [BC,BP,BA,BR,A8,AY,AO,AQ,AL,BD,AX,AC,AA,AZ,BU,BG,BX,BQ,BN,CG,BZ,BO,AB,JK,jE,jD,jF,↓reduceIte,jC,jG,jA,jB,enP,WP,MR,f1,f2,f5,f6,Rk.ldE' hb,D7 hk',FP U4 MM H7 hk']
    refine (ih e.args[k] _ H' (by omega) (by omega)).use ?_
    intro q
    simp -implicitDefEqProofs only [BA,A8,EH,ER,AY,BB,AO,AQ,AL,BD,AX,AC,AA,AZ,AU,BH,BG,A7,BQ,AB,DK,↓reduceIte,jC,jA,jB,enP,f6,wrap_succ (show k < 9223372036854775807 by omega)]
    exact ⟨N - 1,by omega,k+1,_,by omega,by first | exact True.intro | exact f1,by first | exact True.intro | exact f2,by first | exact True.intro | exact rfl,by first | exact True.intro | exact rfl,by first | exact True.intro | exact rfl⟩
   ·simp -implicitDefEqProofs only [BC,BA,BJ,DW,A8,EG,EY,EZ,CJ,AY,BB,AO,AQ,AL,BD,AX,AC,AA,AZ,BG,A7,↓reduceIte,jC,jA,jB,f5]
    exact ⟨⟨_,rfl⟩,hx⟩
theorem ANL (G:Nat→AV) (e:Ex) (n:Int) (hw:wt e≤1048576) (h:Hp):Rk.SomeB (En G) 25 [.agg (CY e),.int .i64 n] h:=by
 refine Rk.SomeB.of ?_
 refine acN Tryz.func25 rfl ?_
 show awp _ _ _ _ _ (D8 _ [.tmp 4] _)
 simp -implicitDefEqProofs only [BC,BA,A8,AY,BB,AO,AQ,AL,BD,AX,AC,AA,AZ,AU,BU,BM,BG,A7,FM,BX,BZ,BO,CB,AB,BF,BL,jE,jD,jF,↓reduceIte,jC,jA,jB,enP,bxE,ldE]
 refine (AN1 G _ e n _ (Nat.le_refl _) hw).use ?_
 intro q
 simp -implicitDefEqProofs only [BJ,A8,CJ,AY,BB,AO,AQ,AL,BD,AX,AC,AA,AZ,BG,A7,BQ,AB,IJ,BF,BL,↓reduceIte,jC,jA,jB,enP]
 exact ⟨⟨_,rfl⟩,(ext.rfl' h).app _⟩
end Go.Proofs.YtfpagfhhhlljjaaGreatDoor.Ho
set_option linter.unusedSimpArgs false
set_option maxRecDepth 8000
namespace Go.Proofs.YtfpagfhhhlljjaaGreatDoor.Ho
open Sm Bins Cov Go.RowKit
open Bool renaming and_eq_true→jU,not_false→jB,true_and→qM,false_and→wJ,not_true→jV
open List renaming length_map→jI,drop_eq_nil_of_le→zG,map_cons→jE,map_nil→jD,append_nil→jF,getElem_mem→jO,drop_zero→zO,take_of_length_le→jW,length_append→zZ
open Nat renaming le_of_ble_eq_true→jH,reduceEqDiff→jC,zero_add→jG,reduceAdd→jQ,add_zero→jM,le_refl→jK
open Option renaming getD_some→jA,getD_none→jT
def AAM (m:Mo) (l:List Int):Bool:=l.all fun p=>decide (0≤p) && decide (p < (m.pts.length:Int))
theorem ASB {m:Mo} {l:List Int}:AAM m l=true↔Here m l:=by
 unfold AAM Here
 rw [List.all_eq_true]
 constructor
 ·intro h p hp
  have:=h p hp
  simp only [jU,decide_eq_true_eq] at this
  exact this
 ·intro h p hp
  have:=h p hp
  simp only [jU,decide_eq_true_eq]
  exact this
section
variable (G:Nat→AV)
theorem AMI (m:Mo) (i:Nat) (hi:i < m.crs.length) (hl:m.crs[i].pts.length≤1048576) (h:Hp):PCall (En G) 59 [.agg (EE m),.int .i64 (i:Int)] h (.bool (AAM m m.crs[i].pts)):=by
 refine ACalls.pure0 rfl ?_
 have gm:=CW h (.live 2 [EE m])
 have hx : ∃ x,h ++ [ABlk.live 2 [EE m]]=h ++ x:=⟨_,rfl⟩
 refine acN Tryz.func59 rfl ?_
 show awp _ _ _ _ _ (D8 _ [.tmp 4] _)
 simp -implicitDefEqProofs only [BC,BP,BA,BR,BI,A8,DI,AY,BB,BK,BV,CO,EF,AO,AQ,AL,BD,AX,AC,AA,AZ,AU,BH,BM,BG,A7,CP,DN,FM,BX,BQ,BN,CG,D6,CB,AB,C9,FX,BF,BL,↓reduceIte,jC,jG,jA,jB,enP,XZ,AEF,L8,NH,bxM,VF,AEG gm,jI,ZI hi,D7 hi,DZ OA hi,U2]
 generalize h ++ [ABlk.live 2 [EE m]]=H at gm hx ⊢
 refine DY (fun n F H' => ∃ k,n+k=m.crs[i].pts.length∧F 2 = .ptr h.length 0 0∧F 5 = .sl m.crs[i].pm 1 (m.crs[i].pts.map qencI)∧F 6 = .int .i64 (k:Nat)∧H'=H∧AAM m m.crs[i].pts=AAM m (m.crs[i].pts.drop k)) m.crs[i].pts.length ⟨0,by simp,by simp -implicitDefEqProofs only [AA,↓reduceIte,jC],by simp -implicitDefEqProofs only [AA,↓reduceIte,jC],by simp -implicitDefEqProofs only [AA,↓reduceIte]; rfl,rfl,rfl⟩ ?_
 rintro n F H' ⟨k,hk,f2,f5,f6,rfl,hp⟩
 simp -implicitDefEqProofs only [BC,BA,BI,A8,AY,BB,AO,AQ,AL,BD,AX,AC,AA,AZ,BG,BQ,D6,AB,C9,↓reduceIte,jC,jA,jB,enP,KH,f5,f6,jI]
 refine CV (fun hc => ?_) (fun hc => ?_)
 ·have hk':k < m.crs[i].pts.length:=by simpa using hc
  rw [List.drop_eq_getElem_cons hk'] at hp
  change AAM m m.crs[i].pts=(decide (0≤m.crs[i].pts[k]) && decide (m.crs[i].pts[k] < (m.pts.length:Int)) && AAM m (m.crs[i].pts.drop (k+1))) at hp
  simp -implicitDefEqProofs only [BC,BP,BR,A8]
  refine FN (by kernel_rfl) ?_
  cases e0:decide (m.crs[i].pts[k] < 0)
  ·have p0:decide (0≤m.crs[i].pts[k])=true:=by rw [decide_eq_true_eq]; rw [decide_eq_false_iff_not] at e0; omega
   cases e1:decide (m.crs[i].pts[k]≥(m.pts.length:Int))
   ·have p1:decide (m.crs[i].pts[k] < (m.pts.length:Int))=true:=by rw [decide_eq_true_eq]; rw [decide_eq_false_iff_not] at e1; omega
    rw [p0,p1,qM,qM] at hp
    simp -implicitDefEqProofs only [G5,EM,D9,FU,EQ,GK,IY,AL7,GH,KA,FT,J7,EX,EU,JM,BA,BR,BI,A8,EH,ER,DI,AY,BB,CO,AO,AQ,AL,BD,AX,AC,AA,AZ,AU,BH,BM,BG,A7,CP,DN,BX,BQ,BN,CG,D6,AB,DK,C9,FX,↓reduceIte,jC,jQ,jM,jA,jB,enP,UQ,JV,JS,f2,f5,f6,D7 hk',DZ ag3 hk',Bins.encI0,e0,UR gm,jI,e1,wrap_succ (show k < 9223372036854775807 by omega)]
    exact ⟨n - 1,by omega,k+1,by omega,by first | exact True.intro | exact f2,by first | exact True.intro | exact f5,by first | exact True.intro | exact rfl,by first | exact True.intro | exact rfl,hp⟩
   ·have p1:decide (m.crs[i].pts[k] < (m.pts.length:Int))=false:=by rw [decide_eq_false_iff_not]; rw [decide_eq_true_eq] at e1; omega
    rw [p1,Bool.and_false,wJ] at hp
    simp -implicitDefEqProofs only [G5,EM,D9,FU,EQ,GK,IY,AL7,GH,KA,FT,J7,EX,EU,JM,BC,BA,BJ,BI,A8,CQ,ED,F7,CJ,CZ,AY,BB,CO,AO,AQ,AL,BD,AX,AC,AA,AZ,AU,BH,BM,A7,CP,DN,BX,BQ,BN,CG,D6,AB,C9,FX,↓reduceIte,jC,jQ,jM,jA,jB,enP,UQ,JV,JS,f2,f5,f6,D7 hk',DZ ag3 hk',Bins.encI0,e0,UR gm,jI,e1]
    exact ⟨by rw [hp],hx⟩
  ·have p0:decide (0≤m.crs[i].pts[k])=false:=by rw [decide_eq_false_iff_not]; rw [decide_eq_true_eq] at e0; omega
   rw [p0,wJ,wJ] at hp
   simp -implicitDefEqProofs only [G5,EM,D9,FU,EQ,GK,IY,AXK,GH,KA,FT,J7,EU,BC,BA,BJ,BI,A8,CQ,ED,F7,CJ,CZ,AY,BB,CO,AO,AQ,AL,BD,AX,AC,AA,EK,AZ,AU,BH,BM,A7,CP,DL,BX,BQ,CG,AB,C9,↓reduceIte,jC,jQ,jA,jB,enP,JS,f2,f5,f6,D7 hk',DZ ag3 hk',Bins.encI0,e0]
   exact ⟨by rw [hp],hx⟩
 ·have hk' : ¬ k < m.crs[i].pts.length:=by simpa using hc
  rw [zG (by omega)] at hp
  simp -implicitDefEqProofs only [BC,BA,BJ,DW,A8,EG,EY,EZ,CJ,AY,BB,AO,AQ,AL,BD,AX,AC,AA,AU,BM,A7,↓reduceIte,jA,jB]
  exact ⟨by rw [hp]; rfl,hx⟩
theorem AWU (m:Mo) (i:Nat) (hi:i < m.crs.length) (hh:Here m m.crs[i].pts) (k:Nat) (hk:k < m.crs[i].pts.length) (h:Hp):PCall (En G) 60 [.agg (EE m),.int .i64 (i:Int),.int .i64 (k:Int)] h (.int .i64 ((JQ m m.crs[i].pts[k]).length:Int)):=by
 refine ACalls.pure0 rfl ?_
 have gm:=CW h (.live 2 [EE m])
 obtain ⟨s,ls⟩:=hh.ld hk (h ++ [ABlk.live 2 [EE m]])
 refine acN Tryz.func60 rfl ?_
 show awp _ _ _ _ _ (D8 _ [.tmp 6] _)
 simp -implicitDefEqProofs only [BC,BA,A8,AY,BB,AO,AQ,AL,BD,AX,AC,AZ,AU,BH,A7,FM,CB,BF,jA,jB,enP,bxM]
 refine FN (by kernel_rfl) ?_
 simp -implicitDefEqProofs only [G5,EM,D9,FU,EQ,GH,JI,FT,EX,EU,JM,BJ,A8,CJ,AO,AA,AZ,BX,BN,CG,D6,AB,BF,BL,↓reduceIte,jC,jQ,jM,jG,jA,enP,WQ,XZ,JV,L8,JS,XU,KU,NH,UR gm,AEG gm,D7 hi,DZ OA hi,U2,D7 hk,DZ ag3 hk,Bins.encI0,hh.ix hk,ls,jI]
 exact ⟨trivial,_,rfl⟩
theorem AIS (m:Mo) (i:Nat) (hi:i < m.crs.length) (hl:m.crs[i].pts.length≤1048576) (h:Hp):SomeI (En G) 47 [.agg (EE m),.int .i64 (i:Int)] h:=by
 refine SomeI.of ?_
 have gm:=CW h (.live 2 [EE m])
 have hx:ext h (h ++ [ABlk.live 2 [EE m]]):=(ext.rfl' h).app _
 refine acN Tryz.func47 rfl ?_
 show awp _ _ _ _ _ (D8 _ [.tmp 4] _)
 simp -implicitDefEqProofs only [BC,BA,A8,AY,BB,AO,AQ,AL,BD,AX,AC,AA,AZ,AU,BU,BH,BG,A7,FM,BX,BZ,BO,CB,AB,BF,BL,jE,jD,jF,↓reduceIte,jC,jA,jB,enP,bxM,ldM gm]
 refine (AMI G m i hi hl _).use ?_
 cases hb:AAM m m.crs[i].pts
 ·simp -implicitDefEqProofs only [BC,BA,BJ,BI,A8,CQ,CJ,CZ,AY,BB,AO,AQ,AL,BD,AX,AC,AA,AZ,AU,BH,A7,GU,AB,EP,↓reduceIte,jA,jB]
  exact ⟨⟨_,rfl⟩,hx⟩
 have hh:=ASB.1 hb
 simp -implicitDefEqProofs only [BC,BP,BA,BR,BI,A8,DI,AY,BB,AO,AQ,AL,BD,AX,AC,AA,AZ,AU,BH,A7,GU,AB,EP,↓reduceIte,jA,jV,jB]
 generalize h ++ [ABlk.live 2 [EE m]]=H at gm hx ⊢
 refine DY (fun n F H' => ∃ k z,n+k=m.crs[i].pts.length∧F 1 = .int .i64 (i:Nat)∧F 2 = .ptr h.length 0 0∧F 5 = .int .i64 z∧F 6 = .int .i64 (k:Nat)∧H'=H) m.crs[i].pts.length ⟨0,1,by simp,by simp -implicitDefEqProofs only [AA,BF,BL,↓reduceIte,jC],by simp -implicitDefEqProofs only [AA,↓reduceIte,jC],by simp -implicitDefEqProofs only [AA,↓reduceIte,jC] <;> rfl,by simp -implicitDefEqProofs only [AA,↓reduceIte] <;> rfl,rfl⟩ ?_
 rintro n F H' ⟨k,z,hk,f1,f2,f5,f6,rfl⟩
 simp -implicitDefEqProofs only [BC,BA,BI,A8,AY,BB,AO,AQ,AL,BD,AX,AC,AA,AZ,BG,BX,BQ,BN,CG,D6,AB,C9,↓reduceIte,jC,jG,jA,jB,enP,XZ,L8,KH,NH,f1,f2,f6,AEG gm,D7 hi,DZ OA hi,U2,jI]
 refine CV (fun hc => ?_) (fun hc => ?_)
 ·have hk':k < m.crs[i].pts.length:=by simpa using hc
  simp -implicitDefEqProofs only [BC,BP,BA,BR,A8,AY,AO,AQ,AL,BD,AX,AC,AA,AZ,BU,BG,BX,BZ,BO,AB,jE,jD,jF,↓reduceIte,jC,jA,jB,enP,f1,f2,f5,f6,ldM gm]
  refine (AWU G m i hi hh k hk' _).use ?_
  simp -implicitDefEqProofs only [BA,A8,EH,ER,AY,BB,AO,AQ,AL,BD,AX,AC,AA,AZ,AU,BH,BG,A7,BQ,AB,DK,PV,↓reduceIte,jC,jA,jB,enP,f6,wrap_succ (show k < 9223372036854775807 by omega)]
  exact ⟨n - 1,by omega,k+1,_,by omega,by first | exact True.intro | exact f1,by first | exact True.intro | exact f2,by first | exact True.intro | exact rfl,by first | exact True.intro | exact rfl,by first | exact True.intro | exact rfl⟩
 ·simp -implicitDefEqProofs only [BC,BA,BJ,DW,A8,EG,EY,EZ,CJ,AY,BB,AO,AQ,AL,BD,AX,AC,AA,AZ,BG,A7,↓reduceIte,jC,jA,jB,f5]
  exact ⟨⟨_,rfl⟩,hx⟩
end
theorem A4Z {H:Hp} {b:Nat} {c:Cr} (hb:H[b]? = some (.live 3 [G6 c])):DX Tryz.prog H 26 (.ptr b 0 1)=some (.sl c.pm 1 (c.pts.map qencI)):=by rw [DJ OA hb (row:=G6 c) rfl]; rfl
theorem A4Y {H:Hp} {b:Nat} {c:Cr} (hb:H[b]? = some (.live 3 [G6 c])):DX Tryz.prog H 67 (.ptr b 0 2)=some (.sl c.xm 1 (c.excl.map encL)):=by rw [DJ TR hb (row:=G6 c) rfl]; rfl
section
variable (G:Nat→AV)
set_option maxHeartbeats 1000000 in
theorem ANK (m:Mo) (hm:MoOk m) (h:Hp):Rk.SomeB (En G) 24 [.agg (EE m)] h:=by
 refine Rk.SomeB.of ?_
 refine acN Tryz.func24 rfl ?_
 show awp _ _ _ _ _ (D8 _ [.tmp 2] _)
 have gm:=CW h (.live 2 [EE m])
 have hx:ext h (h ++ [ABlk.live 2 [EE m]]):=(ext.rfl' h).app _
 have np:=hm.np
 have nc:=hm.nc
 simp -implicitDefEqProofs only [BC,BA,A8,AY,BB,AO,AQ,AL,BD,AX,AC,AA,AZ,AU,BM,A7,FM,BX,BN,CB,AB,BF,↓reduceIte,jC,jM,jA,jB,enP,JV,bxM]
 generalize h ++ [ABlk.live 2 [EE m]]=H at gm hx ⊢
 simp -implicitDefEqProofs only [AY,BK,BV,CO,AO,AQ,AL,BD,AX,AC,AA,AZ,AU,BH,BG,BQ,D6,AB,FD,↓reduceIte,jA,jB,enP,UQ,UR gm,jI]
 cases d0:decide ((m.pts.length:Int) > 12)
 rotate_left
 ·simp -implicitDefEqProofs only [BC,BA,BJ,BI,A8,CQ,CJ,CZ,AY,BB,BK,BV,CO,FI,AO,AQ,AL,BD,AX,AC,AA,EK,AZ,AU,BM,A7,CP,DL,↓reduceIte,jC,jA,jB]
  exact ⟨⟨_,rfl⟩,hx⟩
 simp -implicitDefEqProofs only [BI,A8,AY,BB,BK,BV,CO,EF,AO,AQ,AL,BD,AX,AC,AA,AZ,AU,BH,BM,CP,DN,BX,BQ,BN,D6,AB,FD,↓reduceIte,jC,jG,jA,jB,enP,AEF,L8,AEG gm,jI]
 cases d1:decide ((m.crs.length:Int) > 8)
 rotate_left
 ·simp -implicitDefEqProofs only [BC,BA,BJ,A8,CQ,CJ,CZ,AY,BB,AO,AQ,AL,BD,AX,AC,AA,AU,BM,A7,↓reduceIte,jA,jB]
  exact ⟨⟨_,rfl⟩,hx⟩
 simp -implicitDefEqProofs only [BC,BP,BA,BR,A8,DI,AY,BB,AO,AQ,AL,BD,AX,AC,AU,BH,A7,jA,jB]
 refine JA 0 (fun F H'=>F 1 = .ptr h.length 0 0∧H'=H) (fun F H'=>(∃ b,F 2 = .bool b)∧ext h H') ?_ ?_ ?_
 ·refine DY (fun n F H' => ∃ k,n+k=m.pts.length∧F 1 = .ptr h.length 0 0∧F 3 = .int .i64 (k:Nat)∧H'=H) m.pts.length ⟨0,by simp,by simp -implicitDefEqProofs only [AA,↓reduceIte,jC],by simp -implicitDefEqProofs only [AA,↓reduceIte] <;> rfl,rfl⟩ ?_
  rintro n F H' ⟨k,hk,f1,f3,rfl⟩
  simp -implicitDefEqProofs only [BC,BA,BI,A8,AY,BB,AO,AQ,AL,BD,AX,AC,AA,AZ,BG,BX,BQ,BN,D6,AB,C9,↓reduceIte,jC,jM,jA,jB,enP,UQ,JV,f1,f3,UR gm,jI]
  refine CV (fun hc => ?_) (fun hc => ?_)
  ·have hk':k < m.pts.length:=by simpa using hc
   simp -implicitDefEqProofs only [BC,BP,BA,BR,BI,A8,AY,BB,AO,AQ,AL,BD,AX,AC,AA,AZ,AU,BH,BG,BX,BQ,BN,CG,D6,AB,FD,↓reduceIte,jC,jM,jG,jA,jB,enP,WQ,JV,XU,KU,f1,f3,UR gm,D7 hk',DZ AD1 hk',U0,jI]
   refine CV (fun hd => ?_) (fun hd => ?_)
   ·simp -implicitDefEqProofs only [BC,BA,BJ,A8,CQ,ED,RI,F7,AY,BB,AO,AQ,AL,BD,AX,AC,AA,AU,BM,A7,↓reduceIte,jA,jB]
    exact ⟨⟨_,rfl⟩,hx⟩
   ·simp -implicitDefEqProofs only [BA,BR,A8,EH,ER,AY,BB,AO,AQ,AL,BD,AX,AC,AA,AZ,AU,BH,BG,A7,BQ,AB,DK,↓reduceIte,jC,jA,jB,enP,f3,wrap_succ (show k < 9223372036854775807 by omega)]
    exact ⟨n - 1,by omega,k+1,by omega,by first | exact True.intro | exact f1,by first | exact True.intro | exact rfl,by first | exact True.intro | exact rfl⟩
  ·simp -implicitDefEqProofs only [DW,EG,NG,EZ,AA,↓reduceIte,jC]
   exact ⟨by first | exact True.intro | exact f1,by first | exact True.intro | exact rfl⟩
 ·rintro F H' ⟨f1,rfl⟩
  simp -implicitDefEqProofs only [BC,BP,BA,A8,EY,AY,BB,AO,AQ,AL,BD,AX,AC,AU,BH,A7,↓reduceIte,jA,jB]
  refine DY (fun n F H2 => ∃ k,n+k=m.crs.length∧F 1 = .ptr h.length 0 0∧F 4 = .int .i64 (k:Nat)∧ext H' H2) m.crs.length ⟨0,by simp,by simp -implicitDefEqProofs only [AA,↓reduceIte,jC,f1],by simp -implicitDefEqProofs only [AA,↓reduceIte] <;> rfl,ext.rfl' _⟩ ?_
  clear f1
  rintro n F H2 ⟨k,hk,f1,f4,he⟩
  have gm2:=E8 he gm
  simp -implicitDefEqProofs only [BC,BA,BI,A8,AY,BB,AO,AQ,AL,BD,AX,AC,AA,AZ,BG,BX,BQ,BN,D6,AB,C9,↓reduceIte,jC,jG,jA,jB,enP,AEF,L8,f1,f4,AEG gm2,jI]
  refine CV (fun hc => ?_) (fun hc => ?_)
  ·have hk':k < m.crs.length:=by simpa using hc
   have hco:=hm.crs _ (jO hk')
   have hcp:=hco.pts
   have gm3:=CU (x:=ABlk.live 3 [G6 m.crs[k]]) gm2
   have gc3:=CW H2 (ABlk.live 3 [G6 m.crs[k]])
   have he3:=he.app [ABlk.live 3 [G6 m.crs[k]]]
   simp -implicitDefEqProofs only [BC,BP,BA,BR,A8,AY,BB,AO,AQ,AL,BD,AX,AC,ES,AA,AZ,BG,FO,BX,EI,BN,CG,CB,AB,DT,↓reduceIte,jC,jG,jA,jB,enP,XZ,L8,NH,jT,f1,f4,AEG gm2,D7 hk',FP AOH AGH MH hk',A0W,AX7 _ _ [.str ⟨#[]⟩,.sl .nil 0 [],.sl .nil 0 []] rfl]
   generalize H2 ++ [ABlk.live 3 [G6 m.crs[k]]]=H3 at gm3 gc3 he3 ⊢
   simp -implicitDefEqProofs only [AY,BK,BV,CO,AO,AQ,AL,BD,AX,AC,AA,AZ,AU,BH,BG,BQ,D6,AB,FD,↓reduceIte,jA,jB,enP,KH,A4Z gc3,jI]
   cases e1:decide ((m.crs[k].pts.length:Int) > 4)
   ·simp -implicitDefEqProofs only [AY,BK,BV,CO,EF,AO,AQ,AL,BD,AX,AC,AA,AZ,AU,BH,BM,BG,CP,DN,BX,BQ,BN,D6,AB,FD,↓reduceIte,jC,jG,jA,jB,enP,AZD,AC7,A4Y gc3,jI]
    cases e2:decide ((m.crs[k].excl.length:Int) > 40)
    ·simp -implicitDefEqProofs only [BK,BV,CO,EF,AO,AQ,AL,BD,AX,AC,AA,AZ,BU,BG,BX,BZ,BO,AB,jE,jD,jF,↓reduceIte,jC,jA,jB,enP,f1,f4,ldM gm3]
     refine (AIS G m k hk' hcp _).use ?_
     intro z
     simp -implicitDefEqProofs only [BI,A8,AY,BB,BK,BV,CO,EF,AO,AQ,AL,BD,AX,AC,AA,AZ,AU,BH,BM,CP,DN,BQ,AB,FD,↓reduceIte,jC,jA,jB,enP]
     refine CV (fun hd => ?_) (fun hd => ?_)
     ·simp -implicitDefEqProofs only [BC,BA,BJ,A8,CQ,ED,F7,CJ,AY,BB,AO,AQ,AL,BD,AX,AC,AA,AU,BM,A7,↓reduceIte,jA,jB]
      exact ⟨⟨_,rfl⟩,hx.trans he3⟩
     ·simp -implicitDefEqProofs only [BA,BR,A8,EH,ER,AY,BB,AO,AQ,AL,BD,AX,AC,AA,AZ,AU,BH,BG,A7,BQ,AB,DK,↓reduceIte,jC,jA,jB,enP,f4,wrap_succ (show k < 9223372036854775807 by omega)]
      exact ⟨n - 1,by omega,k+1,by omega,by first | exact True.intro | exact f1,by first | exact True.intro | exact rfl,he3⟩
    ·simp -implicitDefEqProofs only [BC,BA,BJ,BI,A8,CQ,ED,F7,CJ,CZ,AY,BB,BK,BV,CO,FI,AO,AQ,AL,BD,AX,AC,AA,EK,AZ,AU,BM,A7,CP,DL,↓reduceIte,jC,jA,jB]
     exact ⟨⟨_,rfl⟩,hx.trans he3⟩
   ·simp -implicitDefEqProofs only [BC,BA,BJ,BI,A8,CQ,ED,F7,CJ,CZ,AY,BB,BK,BV,CO,FI,AO,AQ,AL,BD,AX,AC,AA,EK,AZ,AU,BM,BG,A7,CP,DL,↓reduceIte,jC,jA,jB]
    exact ⟨⟨_,rfl⟩,hx.trans he3⟩
  ·simp -implicitDefEqProofs only [BC,BA,BJ,DW,A8,EG,EY,EZ,CJ,AY,BB,AO,AQ,AL,BD,AX,AC,AA,AU,BM,A7,↓reduceIte,jA,jB]
   exact ⟨⟨_,rfl⟩,hx.trans he⟩
 ·rintro F H' ⟨⟨b,f2⟩,hx'⟩
  simp -implicitDefEqProofs only [CQ,ED,CJ,f2]
  exact ⟨⟨_,rfl⟩,hx'⟩
end
theorem AM5 {H:Hp} {b:Nat} {p:Pt} (hb:H[b]? = some (.live 6 [F9 p])):DX Tryz.prog H 49 (.ptr b 0 5)=some (.sl p.bm 4 (p.bins.map GV)):=by
 rw [DJ AD1 hb (row:=F9 p) rfl,U0]
theorem AU0 {H:Hp} {b:Nat} {p:Pt} (hb:H[b]? = some (.live 6 [F9 p])):DX Tryz.prog H 48 (.ptr b 0 1)=some (.agg (CY p.ex)):=by
 rw [G8 U4 MM hb rfl (by rw [I7]; exact jH rfl),AP9]
section
variable (G:Nat→AV)
set_option maxHeartbeats 2000000 in
theorem AC5 (m:Mo) (hm:MoOk m) (h:Hp):Rk.SomeB (En G) 9 [.agg (EE m)] h:=by
 refine Rk.SomeB.of ?_
 refine acN Tryz.func9 rfl ?_
 show awp _ _ _ _ _ (D8 _ [.tmp 2] _)
 have gm:=CW h (.live 2 [EE m])
 have hx:ext h (h ++ [ABlk.live 2 [EE m]]):=(ext.rfl' h).app _
 have np:=hm.np
 simp -implicitDefEqProofs only [BC,BA,A8,AY,BB,AO,AQ,AL,BD,AX,AC,AA,AZ,AU,BM,A7,FM,BX,CB,BF,↓reduceIte,jC,jA,jB,enP,bxM]
 generalize h ++ [ABlk.live 2 [EE m]]=H at gm hx ⊢
 simp -implicitDefEqProofs only [AY,AO,AQ,AL,BD,AX,AC,AA,AZ,BU,BZ,BO,AB,jE,jD,jF,↓reduceIte,jA,jB,ldM gm]
 refine (ANK G m hm H).use ?_
 intro b
 cases b
 ·simp -implicitDefEqProofs only [BC,BA,BJ,BI,A8,CQ,CJ,CZ,AY,BB,AO,AQ,AL,BD,AX,AC,AA,AZ,AU,BM,A7,GU,AB,EP,↓reduceIte,jA,jB]
  exact ⟨⟨_,rfl⟩,hx⟩
 simp -implicitDefEqProofs only [BC,BP,BA,BR,BI,A8,DI,AY,BB,AO,AQ,AL,BD,AX,AC,AA,AZ,AU,BH,A7,GU,AB,EP,↓reduceIte,jA,jV,jB]
 refine DY (fun n F H2 => ∃ k,n+k=m.pts.length∧F 1 = .ptr h.length 0 0∧F 3 = .int .i64 (k:Nat)∧ext H H2) m.pts.length ⟨0,by simp,by simp -implicitDefEqProofs only [AA,↓reduceIte,jC],by simp -implicitDefEqProofs only [AA,↓reduceIte] <;> rfl,ext.rfl' _⟩ ?_
 rintro n F H2 ⟨k,hk,f1,f3,he⟩
 have gm2:=E8 he gm
 simp -implicitDefEqProofs only [BC,BA,BI,A8,AY,BB,AO,AQ,AL,BD,AX,AC,AA,AZ,BG,BX,BQ,BN,D6,AB,C9,↓reduceIte,jC,jM,jA,jB,enP,UQ,JV,f1,f3,UR gm2,jI]
 refine CV (fun hc => ?_) (fun hc => ?_)
 rotate_left
 ·simp -implicitDefEqProofs only [BC,BA,BJ,DW,A8,EG,EY,EZ,CJ,AY,BB,AO,AQ,AL,BD,AX,AC,AA,AU,BM,A7,↓reduceIte,jA,jB]
  exact ⟨⟨_,rfl⟩,hx.trans he⟩
 have hk':k < m.pts.length:=by simpa using hc
 have hpo:=hm.pts _ (jO hk')
 have hpn:=hpo.num
 have gp3:=CW H2 (ABlk.live 6 [F9 m.pts[k]])
 have he3:=he.app [ABlk.live 6 [F9 m.pts[k]]]
 simp -implicitDefEqProofs only [BC,BP,BA,BR,A8,AY,BB,AO,AQ,AL,BD,AX,AC,ES,AA,AZ,BG,FO,BX,EI,BN,CG,CB,AB,DT,↓reduceIte,jC,jM,jG,jA,jB,enP,WQ,JV,AC8,jT,f1,f3,UR gm2,D7 hk',FP AEV AAY I7 hk',A0X,AX9 _ _ [.str ⟨#[]⟩,.int .i64 0,.int .i64 0,.str ⟨#[]⟩,.sl .nil 0 [],.sl .nil 0 []] rfl]
 generalize H2 ++ [ABlk.live 6 [F9 m.pts[k]]]=H3 at gp3 he3 ⊢
 generalize H2.length=pb at gp3 ⊢
 simp -implicitDefEqProofs only [AY,AO,AQ,AL,BD,AX,AC,AA,AZ,AU,BU,BH,BZ,BO,AB,jE,jD,jF,↓reduceIte,jA,jB,AU0 gp3]
 refine (ANL G m.pts[k].ex 40 hpo.ex H3).use ?_
 intro b
 cases b
 ·simp -implicitDefEqProofs only [BC,BA,BJ,BI,A8,CQ,ED,F7,CJ,CZ,AY,BB,AO,AQ,AL,BD,AX,AC,AA,AZ,AU,BM,A7,GU,AB,EP,↓reduceIte,jA,jB]
  exact ⟨⟨_,rfl⟩,hx.trans he3⟩
 simp -implicitDefEqProofs only [BC,BP,BA,BR,BI,A8,DI,AY,BB,AO,AQ,AL,BD,AX,AC,AA,AZ,AU,BH,A7,GU,AB,EP,↓reduceIte,jA,jV,jB]
 refine JA 2 (fun F H'=>F 1 = .ptr h.length 0 0∧F 3 = .int .i64 (k:Nat)∧H'=H3) (fun F H'=>(∃ b,F 2 = .bool b)∧ext h H') ?_ ?_ ?_
 ·refine DY (fun n F H' => ∃ j,n+j=m.pts[k].bins.length∧F 1 = .ptr h.length 0 0∧F 3 = .int .i64 (k:Nat)∧F 4 = .ptr pb 0 0∧F 5 = .int .i64 (j:Nat)∧H'=H3) m.pts[k].bins.length ⟨0,by simp,by simp -implicitDefEqProofs only [AA,↓reduceIte,jC,f1],by simp -implicitDefEqProofs only [AA,↓reduceIte,jC,f3],by simp -implicitDefEqProofs only [AA,↓reduceIte,jC],by simp -implicitDefEqProofs only [AA,↓reduceIte] <;> rfl,rfl⟩ ?_
  clear f1 f3
  rintro n2 F H' ⟨j,hj,f1,f3,f4,f5,rfl⟩
  simp -implicitDefEqProofs only [BC,BA,BI,A8,AY,BB,AO,AQ,AL,BD,AX,AC,AA,AZ,BG,BX,BQ,BN,D6,AB,C9,↓reduceIte,jC,jG,jA,jB,enP,XU,KU,f4,f5,AM5 gp3,jI]
  refine CV (fun hd => ?_) (fun hd => ?_)
  rotate_left
  ·simp -implicitDefEqProofs only [DW,EG,NG,EZ,AA,↓reduceIte,jC]
   exact ⟨by first | exact True.intro | exact f1,by first | exact True.intro | exact f3,by first | exact True.intro | exact rfl⟩
  have hj':j < m.pts[k].bins.length:=by simpa using hd
  have hbo:=hpo.bins _ (jO hj')
  have hbs:=hbo.steps
  simp -implicitDefEqProofs only [BC,BP,BA,BR,A8,AY,BK,BV,CO,AO,AQ,AL,BD,AX,AC,AA,AZ,AU,BH,BG,BX,BQ,BN,CG,D6,AB,FD,↓reduceIte,jC,jG,jA,jB,enP,ZC,KU,RJ,TL,f4,f5,AM5 gp3,D7 hj',DZ YR hj',ADH,jI]
  cases e1:decide ((m.pts[k].bins[j].ranges.l.length:Int) > 40)
  rotate_left
  ·simp -implicitDefEqProofs only [BC,BA,BJ,BI,A8,CQ,ED,RI,F7,CZ,AY,BB,BK,BV,CO,FI,AO,AQ,AL,BD,AX,AC,AA,EK,AZ,AU,BM,A7,CP,DL,↓reduceIte,jC,jA,jB]
   exact ⟨⟨_,rfl⟩,hx.trans he3⟩
  simp -implicitDefEqProofs only [BI,A8,AY,BB,BK,BV,CO,EF,AO,AQ,AL,BD,AX,AC,AA,AZ,AU,BH,BM,BG,CP,DN,BX,BQ,BN,CG,D6,AB,FD,↓reduceIte,jC,jG,jA,jB,enP,ZC,KU,AJY,WU,f4,f5,AM5 gp3,D7 hj',DZ AOI hj',ADG,jI]
  cases e2:decide ((m.pts[k].bins[j].steps.length:Int) > 10)
  rotate_left
  ·simp -implicitDefEqProofs only [BC,BA,BJ,A8,CQ,ED,RI,F7,CZ,AY,BB,AO,AQ,AL,BD,AX,AC,AA,AU,BM,A7,↓reduceIte,jA,jB]
   exact ⟨⟨_,rfl⟩,hx.trans he3⟩
  simp -implicitDefEqProofs only [BC,BP,BA,BR,A8,DI,AY,BB,AO,AQ,AL,BD,AX,AC,AU,BH,A7,jA,jB]
  refine JA 4 (fun F H2=>F 1 = .ptr h.length 0 0∧F 3 = .int .i64 (k:Nat)∧F 4 = .ptr pb 0 0∧F 5 = .int .i64 (j:Nat)∧H2=H') (fun F H'=>(∃ b,F 2 = .bool b)∧ext h H') ?_ ?_ ?_
  ·refine DY (fun n F H2 => ∃ i,n+i=m.pts[k].bins[j].steps.length∧F 1 = .ptr h.length 0 0∧F 3 = .int .i64 (k:Nat)∧F 4 = .ptr pb 0 0∧F 5 = .int .i64 (j:Nat)∧F 6 = .int .i64 (i:Nat)∧H2=H') m.pts[k].bins[j].steps.length ⟨0,by simp,by simp -implicitDefEqProofs only [AA,↓reduceIte,jC,f1],by simp -implicitDefEqProofs only [AA,↓reduceIte,jC,f3],by simp -implicitDefEqProofs only [AA,↓reduceIte,jC,f4],by simp -implicitDefEqProofs only [AA,↓reduceIte,jC,f5],by simp -implicitDefEqProofs only [AA,↓reduceIte] <;> rfl,rfl⟩ ?_
   clear f1 f3 f4 f5
   rintro n3 F H2 ⟨i,hi,f1,f3,f4,f5,f6,rfl⟩
   simp -implicitDefEqProofs only [BC,BA,BI,A8,AY,BB,AO,AQ,AL,BD,AX,AC,AA,AZ,BG,BX,BQ,BN,CG,D6,AB,C9,↓reduceIte,jC,jG,jA,jB,enP,ZC,KU,AJY,WU,f4,f5,f6,AM5 gp3,D7 hj',DZ AOI hj',ADG,jI]
   refine CV (fun hq => ?_) (fun hq => ?_)
   rotate_left
   ·simp -implicitDefEqProofs only [DW,EG,NG,EZ,AA,↓reduceIte,jC]
    exact ⟨by first | exact True.intro | exact f1,by first | exact True.intro | exact f3,by first | exact True.intro | exact f4,by first | exact True.intro | exact f5,by first | exact True.intro | exact rfl⟩
   have hi':i < m.pts[k].bins[j].steps.length:=by simpa using hq
   simp -implicitDefEqProofs only [BC,BP,BA,BR,BI,A8,AY,BB,AO,AQ,AL,BD,AX,AC,AA,AZ,AU,BH,BG,BX,BQ,BN,CG,D6,AB,FD,↓reduceIte,jC,jG,jA,jB,enP,ZC,KU,RJ,AVD,WU,f4,f5,f6,AM5 gp3,D7 hj',DZ AOI hj',ADG,D7 hi',DZ YR hi',AKY,jI]
   refine CV (fun hr => ?_) (fun hr => ?_)
   ·simp -implicitDefEqProofs only [BC,BA,BJ,A8,CQ,ED,RI,F7,AY,BB,AO,AQ,AL,BD,AX,AC,AA,AU,BM,A7,↓reduceIte,jA,jB]
    exact ⟨⟨_,rfl⟩,hx.trans he3⟩
   ·simp -implicitDefEqProofs only [BA,BR,A8,EH,ER,AY,BB,AO,AQ,AL,BD,AX,AC,AA,AZ,AU,BH,BG,A7,BQ,AB,DK,↓reduceIte,jC,jA,jB,enP,f6,wrap_succ (show i < 9223372036854775807 by omega)]
    exact ⟨n3 - 1,by omega,i+1,by omega,by first | exact True.intro | exact f1,by first | exact True.intro | exact f3,by first | exact True.intro | exact f4,by first | exact True.intro | exact f5,by first | exact True.intro | exact rfl,by first | exact True.intro | exact rfl⟩
  ·rintro F H2 ⟨g1,g3,g4,g5,rfl⟩
   simp -implicitDefEqProofs only [BA,A8,EH,EY,ER,AY,BB,AO,AQ,AL,BD,AX,AC,AA,AZ,AU,BH,BG,A7,BQ,AB,DK,↓reduceIte,jC,jA,jB,enP,g5,wrap_succ (show j < 9223372036854775807 by omega)]
   exact ⟨n2 - 1,by omega,j+1,by omega,by first | exact True.intro | exact g1,by first | exact True.intro | exact g3,by first | exact True.intro | exact g4,by first | exact True.intro | exact rfl,by first | exact True.intro | exact rfl⟩
  ·rintro F H2 ⟨⟨b,g2⟩,hx'⟩
   simp -implicitDefEqProofs only [CQ,ED,RI,F7,g2]
   exact ⟨⟨_,rfl⟩,hx'⟩
 ·rintro F H' ⟨g1,g3,rfl⟩
  simp -implicitDefEqProofs only [BA,A8,EH,EY,ER,AY,BB,AO,AQ,AL,BD,AX,AC,AA,AZ,AU,BH,BG,A7,BQ,AB,DK,↓reduceIte,jC,jA,jB,enP,g3,wrap_succ (show k < 9223372036854775807 by omega)]
  exact ⟨n - 1,by omega,k+1,by omega,by first | exact True.intro | exact g1,by first | exact True.intro | exact rfl,he3⟩
 ·rintro F H' ⟨⟨b,g2⟩,hx'⟩
  simp -implicitDefEqProofs only [CQ,ED,F7,CJ,g2]
  exact ⟨⟨_,rfl⟩,hx'⟩
end
theorem Y7 {P:Program} {t e:TypeId} {α:Type} {k bs:Nat} {f:α→List AV} {h H:Hp} {xs ys:List α} {v:AV} (s:SM) (ho:outG k f h xs v H) (hu:P.underlying t=some (.slice e)) (hs:szO P e=some k) (hz:UB P e=some k) (hb:MS P e=some bs) (hbs:bs≤4194304) (hl:xs.length+ys.length≤8388608) (he:ext h H) :
  ∃ v' H',FZ P true H t t v (.sl s k (ys.map f))=some (v',H')∧outG k f h (xs ++ ys) v' H'∧(∀ b x,H[b]? = some x→¬ isB v b→H'[b]? = some x)∧ext h H'∧H.length≤H'.length∧(∀ b,isB v' b→isB v b∨b=H.length):=by
 cases ys with
 | nil =>
   refine ⟨v,H,?_,by rw [jF]; exact ho,fun _ _ hx _=>hx,he,jK _,fun b hb => .inl hb⟩
   have hcs:JP H (.sl s k [])=some (k,[]):=IM H s k []
   rcases ho with ⟨rfl,rfl⟩ | ⟨hne,o,h2,rfl,h3⟩
   ·simp [FZ,hu,hs,TB,hcs,bump]
   ·have hc:JP H (.own o 0 xs.length)=some (k,xs.map f):=by rw [LG h3 (by simp),zO,jW (by simp)]
    simp [FZ,hu,hs,TB,hc,hcs,bump]
 | cons y ys =>
   have h1:(y :: ys).map f≠[]:=by simp
   rcases ho with ⟨rfl,rfl⟩ | ⟨hne,o,h2,rfl,h3⟩
   ·refine ⟨_,_,PX hu hs hz hb (IM H s k ((y :: ys).map f)) h1 (IX (by simp at hl ⊢; omega) hbs),.inr ⟨by simp,H.length,he.le,by simp,by simp⟩,fun b x hb _=>FQ hb,he.app _,by simp,fun b hb => .inr hb.symm⟩
   ·have hc:JP H (.own o 0 xs.length)=some (k,xs.map f):=by rw [LG h3 (by simp),zO,jW (by simp)]
    refine ⟨_,_,PW hu hs hz hb hc (IM H s k ((y :: ys).map f)) h1 (IX (by simp at hl ⊢; omega) hbs),.inr ⟨by simp,H.length,he.le,by simp,by simp⟩,fun b x hb hn => ?_,(he.set h2 _).app _,by simp,fun b hb => .inr hb.symm⟩
    have hn' : ¬ o=b:=hn
    refine FQ ?_
    rw [List.getElem?_set,if_neg hn']; exact hb
def J6:List Bin→List Rng
 | [] => []
 | b :: r=>(if b.kind≠0 then b.ranges.l else []) ++ J6 r
theorem ASW {l:List Bin} {k:Nat} (hk:k < l.length):J6 (l.take (k+1))=J6 (l.take k) ++ (if l[k].kind≠0 then l[k].ranges.l else []):=by
 induction l generalizing k with
 | nil=>simp at hk
 | cons b r ih =>
   cases k with
   | zero=>simp [J6]
   | succ k =>
     have:=ih (k:=k) (by simpa using hk)
     simp only [List.take_succ_cons,List.getElem_cons_succ]
     show _ ++ J6 (r.take (k+1))=(_ ++ J6 (r.take k)) ++ _
     rw [this,List.append_assoc]
theorem AWZ {l:List Bin} (k:Nat):(J6 (l.take k)).length≤(J6 l).length:=by
 induction l generalizing k with
 | nil=>simp
 | cons b r ih =>
   cases k with
   | zero=>simp [J6]
   | succ k =>
     have:=ih k
     show (_ ++ J6 (r.take k)).length≤(_ ++ J6 r).length
     rw [zZ,zZ]; omega
theorem A5J:Frz encR:=fun _ _ _ _=>⟨rfl,rfl⟩
theorem AU3 {H:Hp} {b:Nat} {x:Bin} (hb:H[b]? = some (.live 4 [GV x])):DX Tryz.prog H 53 (.ptr b 0 2)=some (.sl x.ranges.m 2 (x.ranges.l.map encR)):=by
 rw [DJ YR hb (row:=GV x) rfl,ADH]
theorem A41 {H:Hp} {b:Nat} {x:Bin} (hb:H[b]? = some (.live 4 [GV x])):DX Tryz.prog H 3 (.ptr b 0 1)=some (.int .i64 x.kind):=by
 rw [DJ ag3 hb (row:=GV x) rfl,YI]
theorem A5Y (h:Hp) (p:Pt):OT h (.agg (F9 p))=some (.ptr h.length 0 0,h ++ [.live 6 [F9 p]]):=by
 rw [TQ (ZR p),I7]
section
variable (G:Nat→AV)
set_option maxHeartbeats 1000000 in
theorem AWY (p:Pt) (hp:p.bins.length≤1048576) (hl:(J6 p.bins).length≤1048576) (h:Hp):PCall (En G) 66 [.agg (F9 p)] h (.sl (Cov.nm (J6 p.bins)) 2 ((J6 p.bins).map encR)):=by
 refine P5 A5J ?_
 refine acN Tryz.func66 rfl ?_
 show awp _ _ _ _ _ (D8 _ [.tmp 2] _)
 have gp:=CW h (.live 6 [F9 p])
 have hx:ext h (h ++ [ABlk.live 6 [F9 p]]):=(ext.rfl' h).app _
 simp -implicitDefEqProofs only [BC,BA,A8,AY,BB,AO,AQ,AL,BD,AX,AC,AA,AZ,AU,GZ,A7,FM,BX,BN,CB,AB,BF,↓reduceIte,jC,jG,jA,jB,enP,KU,A5Y]
 generalize h ++ [ABlk.live 6 [F9 p]]=H0 at gp hx ⊢
 simp -implicitDefEqProofs only [BP,A8,AY,BB,AO,AQ,AL,BD,AX,AC,AA,AZ,AU,BH,BG,D6,AB,↓reduceIte,jA,jB,enP,XU,AM5 gp,jI]
 refine DY (fun n F H => ∃ k u,n+k=p.bins.length∧F 3=u∧F 7 = .sl p.bm 4 (p.bins.map GV)∧F 8 = .int .i64 (p.bins.length:Nat)∧F 9 = .int .i64 (k:Nat)∧ext H0 H∧outG 2 encR H0 (J6 (p.bins.take k)) u H) p.bins.length
  ⟨0,.sl .nil 0 [],by simp,by simp -implicitDefEqProofs only [AA,↓reduceIte,jC],by simp -implicitDefEqProofs only [AA,↓reduceIte,jC],by simp -implicitDefEqProofs only [AA,↓reduceIte,jC],by simp -implicitDefEqProofs only [AA,↓reduceIte] <;> rfl,ext.rfl' _,outG.nil _ _ _ _⟩ ?_
 rintro n F H ⟨k,u,hk,f3,f7,f8,f9,he,ho⟩
 simp -implicitDefEqProofs only [BC,BA,BI,A8,AY,BB,AO,AQ,AL,BD,AX,AC,AA,AZ,BQ,AB,C9,↓reduceIte,jA,jB,enP,f8,f9]
 refine CV (fun hc => ?_) (fun hc => ?_)
 ·have hk':k < p.bins.length:=by simpa using hc
  have hst:=ASW hk'
  have hbl:=AWZ (l:=p.bins) (k+1)
  have gb:=CW H (ABlk.live 4 [GV p.bins[k]])
  have he1:=he.app [ABlk.live 4 [GV p.bins[k]]]
  have ho1:=ho.app [ABlk.live 4 [GV p.bins[k]]]
  simp -implicitDefEqProofs only [BC,BP,BA,BR,A8,AY,BB,AO,AQ,AL,BD,AX,AC,ES,AA,AZ,FO,BX,EI,BN,CG,CB,AB,DT,↓reduceIte,jC,jG,jA,jB,enP,ZC,TM,jT,f7,f9,D7 hk',FP AEU YY MI hk',AXA,AX8 _ _ [.str ⟨#[]⟩,.int .i64 0,.sl .nil 0 [],.sl .nil 0 []] rfl]
  generalize H ++ [ABlk.live 4 [GV p.bins[k]]]=H1 at gb he1 ho1 ⊢
  simp -implicitDefEqProofs only [BI,A8,AY,BB,AO,AQ,AL,BD,AX,AC,AA,AZ,AU,BH,BQ,AB,ET,↓reduceIte,jA,jB,enP,A41 gb,bne]
  cases hz:(p.bins[k].kind == 0)
  ·have hz':p.bins[k].kind≠0:=by simpa using hz
   rw [if_pos hz'] at hst
   rw [hst,zZ] at hbl
   obtain ⟨v',H2,ha,ho2,_,he2,_,_⟩:=Y7 p.bins[k].ranges.m ho1 AD9 RX AXR A0J (by omega) (ys:=p.bins[k].ranges.l) (by omega) he1
   rw [← hst] at ho2
   simp -implicitDefEqProofs only [BA,A8,EH,ER,CZ,AY,BB,AO,AQ,AL,BD,AX,AC,AA,AZ,AU,BH,BG,A7,BX,BQ,BN,GL,CB,AB,DK,↓reduceIte,jC,jG,jA,jB,enP,TL,f3,AU3 gb,ha,f9,wrap_succ (show k < 9223372036854775807 by omega)]
   exact ⟨n - 1,by omega,k+1,v',by omega,by first | exact True.intro | exact rfl,by first | exact True.intro | exact f7,by first | exact True.intro | exact f8,by first | exact True.intro | exact rfl,he2,ho2⟩
  ·have hz' : ¬ p.bins[k].kind≠0:=by simpa using hz
   rw [if_neg hz',jF] at hst
   rw [← hst] at ho1
   simp -implicitDefEqProofs only [BA,BR,A8,EH,ER,DI,AY,BB,AO,AQ,AL,BD,AX,AC,AA,AZ,AU,BH,BG,BQ,AB,DK,↓reduceIte,jC,jA,jV,jB,enP,f9,wrap_succ (show k < 9223372036854775807 by omega)]
   exact ⟨n - 1,by omega,k+1,u,by omega,by first | exact True.intro | exact f3,by first | exact True.intro | exact f7,by first | exact True.intro | exact f8,by first | exact True.intro | exact rfl,he1,ho1⟩
 ·have hk' : ¬ k < p.bins.length:=by simpa using hc
  rw [jW (by omega)] at ho
  simp -implicitDefEqProofs only [BC,BA,BJ,DW,A8,EG,EY,EZ,CJ,AY,BB,AO,AQ,AL,BD,AX,AC,AA,AZ,BG,A7,↓reduceIte,jC,jA,jB,f3]
  exact ⟨hx.trans he,ho.base hx.le⟩
end
def cE (n:Int):Ex := .mk 1 n ⟨#[]⟩ .nil []
def A0G (op n:Int):List AV := [.int .i64 op,.int .i64 n,.str ⟨#[]⟩,.sl .nil 0 []]
theorem A6H (n:Int):KW Tryz.prog 48 [(0,.int .i64 1),(1,.int .i64 n)]=some (.agg (A0G 1 n)):=by kernel_rfl
def cpE:Ex→Ex
 | .mk op n name _ args => .mk op n name (match args with | [] => .nil | _ => .any) (cpEs args)
 where cpEs:List Ex→List Ex
 | [] => []
 | e :: es=>cpE e :: cpEs es
theorem AK7 : ∀ l:List Ex,cpE.cpEs l=l.map cpE
 | []=>rfl
 | e :: es=>by show cpE e :: cpE.cpEs es=_; rw [AK7 es]; rfl
theorem WX (e:Ex):cpE e = .mk e.op e.n e.name (Cov.nm (e.args.map cpE)) (e.args.map cpE):=by
 cases e with
 | mk op n name m args =>
   show Ex.mk op n name _ (cpE.cpEs args)=Ex.mk op n name _ (args.map cpE)
   rw [AK7]
   cases args <;> rfl
theorem AP4:Frz CY:=fun n h d x=>by
 rw [II]; exact ⟨rfl,rfl⟩
def cpW (e:Ex):List AV := [.int .i64 e.op,.int .i64 e.n,.str e.name,fzG 4 CY (e.args.map cpE)]
theorem A3E (e:Ex):CvR (.agg (cpW e)) (.agg (CY (cpE e))):=by
 rw [II,WX]
 exact CvR.agg (CvRL.cons (CvR.refl _) (CvRL.cons (CvR.refl _) (CvRL.cons (CvR.refl _) (CvRL.cons ACS CvRL.nil))))
theorem AWJ (n:Int):CvR (.agg (A0G 1 n)) (.agg (CY (cE n))):=by
 rw [II]
 exact CvR.agg (CvRL.cons (CvR.refl _) (CvRL.cons (CvR.refl _) (CvRL.cons (CvR.refl _) (CvRL.cons (CvR.sl (Cv.nil 0 4)) CvRL.nil))))
theorem AO8 {H:Hp} {b:Nat} {row cs:List AV} (hb:H[b]? = some (.live 4 [row])) (hr:row.length=4) (hc:cs.length=4) (hl:cs.all AV.leaf=true):FB Tryz.prog H 48 (.ptr b 0 0) (.agg cs)=some (H.set b (.live 4 [cs])):=by
 rw [NQ (cs:=cs) (PN hl) (by rw [hc]; exact MM) hb (by rw [hr,hc]; exact jK 4)]
 have:splice row 0 cs=cs:=by unfold splice; rw [List.take_zero,zG (by rw [hr,hc]; exact jK 4)]; simp
 rw [this]
theorem XX {h:Hp} {b:Nat} {row:List AV} (hb:h[b]? = some (.live 4 [row])) (hr:row.length=4):DX Tryz.prog h 48 (.ptr b 0 0)=some (.agg row):=by
 rw [G8 U4 MM hb rfl (by rw [hr]; exact jK 4),zO,← hr,List.take_length]
theorem UO (G:Nat→AV) (n:Int) (h:Hp):PCall (En G) 103 [.int .i64 n] h (.agg (CY (cE n))):=by
 refine PCall.res ?_ (AWJ n)
 refine AB1 3 (fun n H=>rfl) ?_
 refine acN Tryz.func103 rfl ?_
 show awp _ _ _ _ _ (D8 _ [.cell 2 48] _)
 have g2:=CW h (ABlk.live 4 [[.int .i64 0,.int .i64 0,.str ⟨#[]⟩,.sl .nil 0 []]])
 have hx:ext h (h ++ [ABlk.live 4 [[.int .i64 0,.int .i64 0,.str ⟨#[]⟩,.sl .nil 0 []]]]):=(ext.rfl' h).app _
 simp -implicitDefEqProofs only [FK,FH,BC,BA,A8,AY,BB,AO,AQ,AL,BD,AX,AC,AA,AZ,AU,BH,BG,FO,KY,CB,BF,↓reduceIte,jC,jA,jB,enP,AA5]
 generalize h ++ [ABlk.live 4 [[.int .i64 0,.int .i64 0,.str ⟨#[]⟩,.sl .nil 0 []]]]=H at g2 hx ⊢
 simp -implicitDefEqProofs only [BJ,A8,AY,BB,AO,AQ,AL,BD,AX,AC,ES,AA,AZ,EI,AB,DT,↓reduceIte,jC,jB,enP,jT,A6H,AO8 (cs:=A0G 1 n) g2 rfl rfl rfl]
 rw [ADC (b:=h.length) (by simp -implicitDefEqProofs only [AA,↓reduceIte,jC]) (XX (EJ g2) rfl)]
 exact ⟨rfl,hx.set (jK _) _⟩
set_option maxHeartbeats 1000000 in
theorem AK9 (G:Nat→AV) : ∀ (w:Nat) (e:Ex) (h:Hp),wt e≤w→wt e≤1048576→PCall (En G) 102 [.agg (CY e)] h (.agg (CY (cpE e))):=by
 intro w
 induction w with
 | zero=>intro e h h1 _; have:=L9 e; omega
 | succ w ih =>
   intro e h h1 h2
   have hlen:=SY e.args
   have hwt:=L9 e
   refine PCall.res (r := .agg (cpW e)) ?_ (A3E e)
   refine ACalls.pure (R:=fun v H=>ext h H∧IG h.length H 4 v = .agg (cpW e)) 4 ?_ (fun v H ⟨a,b⟩=>⟨a,b⟩)
   refine acN Tryz.func102 rfl ?_
   show awp _ _ _ _ _ (D8 _ [.cell 2 48] _)
   have ge:=CU (x:=ABlk.live 4 [[.int .i64 0,.int .i64 0,.str ⟨#[]⟩,.sl .nil 0 []]]) (CW h (ABlk.live 4 [CY e]))
   have g2:=CW (h ++ [ABlk.live 4 [CY e]]) (ABlk.live 4 [[.int .i64 0,.int .i64 0,.str ⟨#[]⟩,.sl .nil 0 []]])
   have hx:ext h (h ++ [ABlk.live 4 [CY e]] ++ [ABlk.live 4 [[.int .i64 0,.int .i64 0,.str ⟨#[]⟩,.sl .nil 0 []]]]):=((ext.rfl' h).app _).app _
   have hb2:h.length < (h ++ [ABlk.live 4 [CY e]]).length:=by simp
   simp -implicitDefEqProofs only [BC,BA,A8,AY,BB,AO,AQ,AL,BD,AX,AC,AA,AZ,AU,GZ,A7,FO,FM,BX,BN,CB,AB,BF,↓reduceIte,jC,jG,jA,jB,enP,MR,bxE,AA5]
   generalize h ++ [ABlk.live 4 [CY e]] ++ [ABlk.live 4 [[.int .i64 0,.int .i64 0,.str ⟨#[]⟩,.sl .nil 0 []]]]=H0 at ge g2 hx ⊢
   generalize (h ++ [ABlk.live 4 [CY e]]).length=b2 at g2 hb2 ⊢
   have l2:=CE g2
   simp -implicitDefEqProofs only [BP,A8,AY,BB,AO,AQ,AL,BD,AX,AC,AA,AZ,AU,BH,BG,D6,AB,↓reduceIte,jA,jB,enP,TW,Rk.ldE' ge,jI]
   refine DY (fun n F H => ∃ k u,n+k=e.args.length∧F 1 = .ptr h.length 0 0∧F 2 = .ptr b2 0 0∧F 3=u∧F 7 = .sl e.m 4 (e.args.map CY)∧F 8 = .int .i64 (e.args.length:Nat)∧F 9 = .int .i64 (k:Nat)∧ext H0 H∧outG 4 CY H0 ((e.args.take k).map cpE) u H) e.args.length
    ⟨0,.sl .nil 0 [],by simp,by simp -implicitDefEqProofs only [AA,↓reduceIte,jC],by simp -implicitDefEqProofs only [AA,↓reduceIte,jC],by simp -implicitDefEqProofs only [AA,↓reduceIte,jC],by simp -implicitDefEqProofs only [AA,↓reduceIte,jC],by simp -implicitDefEqProofs only [AA,↓reduceIte,jC],by simp -implicitDefEqProofs only [AA,↓reduceIte] <;> rfl,ext.rfl' _,outG.nil _ _ _ _⟩ ?_
   rintro n F H ⟨k,u,hk,f1,f2,f3,f7,f8,f9,he,ho⟩
   simp -implicitDefEqProofs only [BC,BA,BI,A8,AY,BB,AO,AQ,AL,BD,AX,AC,AA,AZ,BQ,AB,C9,↓reduceIte,jA,jB,enP,f8,f9]
   refine CV (fun hc => ?_) (fun hc => ?_)
   ·have hk':k < e.args.length:=by simpa using hc
    have hlt:=Rk.wt_arg hk'
    have he1:=he.app [ABlk.live 4 [CY e.args[k]]]
    have ho1:=ho.app [ABlk.live 4 [CY e.args[k]]]
    have gT:=ldE H e.args[k]
    simp -implicitDefEqProofs only [BC,BP,BA,BR,A8,AY,BB,AO,AQ,AL,BD,AX,AC,ES,AA,AZ,BU,BG,FO,BX,EI,CG,BZ,BO,CB,AB,DT,jE,jD,jF,↓reduceIte,jC,jA,jB,enP,WP,jT,f7,f9,D7 hk',FP U4 MM H7 hk',AA5,AIM _ _ [.int .i64 0,.int .i64 0,.str ⟨#[]⟩,.sl .nil 0 []] rfl,gT]
    generalize H ++ [ABlk.live 4 [CY e.args[k]]]=H1 at he1 ho1 ⊢
    refine (ih e.args[k] H1 (by omega) (by omega)).use ?_
    have hbs:EN Tryz.prog false H1 46 1 [(0,.agg (CY (cpE e.args[k])))]=some (.sl .full 4 [CY (cpE e.args[k])],H1):=by
     rw [II]; exact (by kernel_rfl:EN Tryz.prog false H1 46 1 [(0,.agg [.int .i64 (cpE e.args[k]).op,.int .i64 (cpE e.args[k]).n,.str (cpE e.args[k]).name,.sl (cpE e.args[k]).m 4 ((cpE e.args[k]).args.map CY)])]=_)
    obtain ⟨v',H2,ha,ho2,_,he2,_,_⟩:=ho1.append AEA MM AMB AN8 (by omega) (by simp; omega) he1 (cpE e.args[k])
    have e3:(e.args.take k).map cpE ++ [cpE e.args[k]]=(e.args.take (k+1)).map cpE:=by rw [List.take_succ_eq_append_getElem hk',List.map_append]; rfl
    rw [e3] at ho2
    simp -implicitDefEqProofs only [FK,FH,BA,A8,EH,ER,AY,BB,AO,AQ,AL,BD,AX,AC,AA,AZ,AU,BH,BG,A7,EC,BQ,GL,CB,AB,DK,↓reduceIte,jC,jA,jB,enP,f3,hbs,ha,f9,wrap_succ (show k < 9223372036854775807 by omega)]
    exact ⟨n - 1,by omega,k+1,v',by omega,by first | exact True.intro | exact f1,by first | exact True.intro | exact f2,by first | exact True.intro | exact rfl,by first | exact True.intro | exact f7,by first | exact True.intro | exact f8,by first | exact True.intro | exact rfl,he2,ho2⟩
   ·have hk' : ¬ k < e.args.length:=by simpa using hc
    rw [jW (by omega)] at ho
    have ge1:=E8 he ge
    have g21:=E8 he g2
    have hle:=he.le
    have hlf:=ho.leaf
    have h0l:h.length < H0.length:=by omega
    have hst:FB Tryz.prog H 46 (.ptr h.length 0 3) u=some (H.set h.length (.live 4 [[.int .i64 e.op,.int .i64 e.n,.str e.name,u]])):=by
     rw [II] at ge1
     rcases ho with ⟨_,rfl⟩ | ⟨_,o,_,rfl,_⟩
     ·rw [NQ (cs := [.sl .nil 0 []]) rfl (by kernel_rfl:szO Tryz.prog 46=some 1) ge1 (by simp)]; rfl
     ·rw [NQ (cs := [.own o 0 _]) rfl (by kernel_rfl:szO Tryz.prog 46=some 1) ge1 (by simp)]; rfl
    have g1':(H.set h.length (.live 4 [[.int .i64 e.op,.int .i64 e.n,.str e.name,u]]))[h.length]? = some (.live 4 [[.int .i64 e.op,.int .i64 e.n,.str e.name,u]]):=EJ ge1
    have g2':(H.set h.length (.live 4 [[.int .i64 e.op,.int .i64 e.n,.str e.name,u]]))[b2]? = _:=DU g21 (by omega)
    have ho3:outG 4 CY H0 (e.args.map cpE) u (H.set h.length (.live 4 [[.int .i64 e.op,.int .i64 e.n,.str e.name,u]])):=ho.setB h0l _
    have hx3:ext h (H.set h.length (.live 4 [[.int .i64 e.op,.int .i64 e.n,.str e.name,u]])):=(hx.trans he).set (jK _) _
    simp -implicitDefEqProofs only [BC,BA,DW,A8,EG,EY,EZ,AY,BB,AO,AQ,AL,BD,AX,AC,ES,AA,AZ,BG,BX,EI,BN,AB,DT,↓reduceIte,jC,jG,jA,jB,enP,MR,jT,f1,f2,f3,hst]
    generalize H.set h.length (.live 4 [[.int .i64 e.op,.int .i64 e.n,.str e.name,u]])=H3 at g1' g2' ho3 hx3 ⊢
    have hlf4:([.int .i64 e.op,.int .i64 e.n,.str e.name,u]:List AV).all AV.leaf=true:=by simp [hlf]; exact ⟨rfl,rfl,rfl⟩
    simp -implicitDefEqProofs only [BJ,A8,AY,BB,AO,AQ,AL,BD,AX,AC,ES,AA,AZ,EI,AB,DT,↓reduceIte,jC,jB,enP,jT,f1,f2,XX g1' rfl,AO8 g2' rfl rfl hlf4]
    rw [ADC (b:=b2) (by simp -implicitDefEqProofs only [AA,↓reduceIte,jC,f2]) (XX (EJ g2') rfl)]
    refine ⟨hx3.set (by omega) _,?_⟩
    have ho4:=ho3.setB (b:=b2) l2 (.live 4 [[.int .i64 e.op,.int .i64 e.n,.str e.name,u]])
    have hz:=AKK AP4 ho4 h.length 1 (by have:=hx.le; omega)
    show AV.agg [.int .i64 e.op,.int .i64 e.n,.str e.name,IG h.length _ 3 u] = .agg (cpW e)
    rw [hz]; rfl
abbrev It:=Sum Ex Int
def A5C:It→List AV
 | .inl e=>CY e
 | .inr n=>A0G 1 n
def A5D:It→Ex
 | .inl e=>e
 | .inr n=>cE n
def AZK (l:List Rng):List It:=l.flatMap fun r => [.inr r.lo,.inr r.hi]
def AVH (e:Ex) (l:List Rng):List It := .inl e :: AZK l
def LU (e:Ex) (l:List Rng):Ex := .mk 23 0 ⟨#[]⟩ .any ((AVH e l).map A5D)
def insW (e:Ex) (l:List Rng):List AV := [.int .i64 23,.int .i64 0,.str ⟨#[]⟩,.sl .any 4 ((AVH e l).map A5C)]
theorem AR1 (a:Rng) (l:List Rng):AZK (a :: l) = .inr a.lo :: .inr a.hi :: AZK l:=rfl
theorem A0K (h:Hp) (a b:Int) (s:ByteArray) (m:SM) (xs:List (List AV)):EN Tryz.prog true h 46 1 [(0,.agg [.int .i64 a,.int .i64 b,.str s,.sl m 4 xs])]=some (.own h.length 0 1,h ++ [ABlk.live 4 [[.int .i64 a,.int .i64 b,.str s,.sl m 4 xs]]]):=by kernel_rfl
theorem A55 (h:Hp) (e:Ex):EN Tryz.prog true h 46 1 [(0,.agg (CY e))]=some (.own h.length 0 1,h ++ [ABlk.live 4 [CY e]]):=by
 rw [II]; exact A0K h _ _ _ _ _
theorem A6G (o n:Nat):KW Tryz.prog 48 [(0,.int .i64 23),(3,.own o 0 n)]=some (.agg [.int .i64 23,.int .i64 0,.str ⟨#[]⟩,.own o 0 n]):=by kernel_rfl
def orE (a b:Ex):Ex := .mk 20 0 ⟨#[]⟩ .full [a,b]
def AUS (e:Ex) (l:List Rng):Nat→Nat→Ex→Ex
 | 0,_,out=>out
 | f+1,i,out=>if i < l.length then AUS e l f (i+16) (orE out (LU e ((l.drop i).take (min l.length (i+16) - i)))) else out
def AGZ (e:Ex) (l:List Rng):Ex:=AUS e l l.length 16 (LU e (l.take (min l.length 16)))
theorem AWN (h:Hp) (a b:Ex):EN Tryz.prog false h 46 2 [(0,.agg (CY a)),(1,.agg (CY b))]=some (.sl .full 4 [CY a,CY b],h):=by
 rw [II a,II b]
 generalize a.args.map CY=xs
 generalize b.args.map CY=ys
 kernel_rfl
theorem A6E (xs:List (List AV)):KW Tryz.prog 48 [(0,.int .i64 20),(3,.sl .full 4 xs)]=some (.agg [.int .i64 20,.int .i64 0,.str ⟨#[]⟩,.sl .full 4 xs]):=by kernel_rfl
theorem AYT (a b:Ex):CY (orE a b) = [.int .i64 20,.int .i64 0,.str ⟨#[]⟩,.sl .full 4 [CY a,CY b]]:=by rw [II]; rfl
theorem AB7 (xs:List Rng):(normal xs).length≤xs.length:=by
 unfold normal VG
 have h1:=ZB ((xs.filter full).mergeSort ZX) []
 have h2:=List.length_filter_le full xs
 rw [List.length_mergeSort] at h1
 simp only [List.length_nil,jG] at h1
 omega
theorem ARR {H:Hp} {b:Nat} {e:Ex} (hb:H[b]? = some (.live 4 [CY e])):DX Tryz.prog H 48 (.ptr b 0 0)=some (.agg (CY e)):=XX hb (H7 e)
theorem ATT {H:Hp} {b:Nat} {row:List AV} {e:Ex} (hb:H[b]? = some (.live 4 [row])) (hr:row.length=4):FB Tryz.prog H 48 (.ptr b 0 0) (.agg (CY e))=some (H.set b (.live 4 [CY e])):=AO8 hb hr (H7 e) (ZT e)
end Go.Proofs.YtfpagfhhhlljjaaGreatDoor.Ho
set_option linter.unusedSimpArgs false
set_option maxRecDepth 8000
namespace Go.Proofs.YtfpagfhhhlljjaaGreatDoor.Ho
open Sm Bins Cov Wd Xe Go.RowKit
open Bool renaming not_false→jB,true_and→qM,false_and→wJ
open List renaming map_cons→jE,map_nil→jD,append_nil→jF,length_map→jI,drop_eq_nil_of_le→zG,drop_eq_getElem_cons→zQ,getElem_mem→jO
open Nat renaming le_of_ble_eq_true→jH,reduceEqDiff→jC
open Option renaming getD_some→jA
section
variable (G:Nat→AV)
theorem AH9 (l:List Sg) (m:SM) (e:Ex) (h:Hp) (hl:l.length≤1048576) (hok : ∀ s∈l,VO s) (hw:WN e) (a b:Int) (hv:evV (evE l e) = .tup [.int .i64 a,.int .i64 b]):PCall (En G) 46 [.agg (CY e),.sl m 2 (l.map GI)] h (.int .i64 a):=by
 refine ACalls.pure0 rfl ?_
 refine acN Tryz.func46 rfl ?_
 show awp _ _ _ _ _ (D8 _ [.tmp 4] _)
 have hx:ext h (h ++ [ABlk.live 4 [CY e]]):=(ext.rfl' h).app _
 have hc:=AS5 G l m e (h ++ [ABlk.live 4 [CY e]]) (by omega) hok hw
 rw [hv] at hc
 simp -implicitDefEqProofs only [BC,BA,A8,AY,BB,AO,AQ,AL,BD,AX,AC,AA,AZ,AU,BU,BH,BG,A7,FM,BX,BZ,BO,CB,AB,BF,BL,jE,jD,jF,↓reduceIte,jC,jA,jB,enP,bxE,ldE]
 refine hc.use ?_
 simp -implicitDefEqProofs only [List.getElem?_cons_zero,List.getElem?_cons_succ,BC,BA,BJ,A8,CJ,AY,BB,AO,AQ,AL,BD,AX,AC,AA,AZ,BG,A7,EW,GG,AB,↓reduceIte,jC,jA,jB]
 exact ⟨by first | exact True.intro | exact rfl,hx⟩
theorem value_ref (l:List Sg) (m:SM) (e:Ex) (h:Hp) (hl:l.length≤1048576) (hok : ∀ s∈l,VO s) (hw:WN e):PCall (En G) 46 [.agg (CY e),.sl m 2 (l.map GI)] h (.int .i64 ((evE l e).1:Nat)):=AH9 G l m e h hl hok hw _ _ rfl
end
structure Xs where
 m:SM
 l:List Ex
def AAP (x:Xs):List AV := [.sl x.m 4 (x.l.map CY)]
theorem AVY (x:Xs):(AAP x)[0]? = some (.sl x.m 4 (x.l.map CY)):=rfl
def okX (s:List Sg) (e:Ex):Bool := !(((evE s e).1:Int) == 0)
def ANI:List Xs→List Ss→Bool
 | [],_=>true
 | x :: c,s :: d=>x.l.all (okX s.l) && ANI c d
 | _ :: _,[]=>false
def ACT (c:List Xs) (l:List Ss):Bool:=if l.length < c.length then false else ANI c (l.drop (l.length - c.length))
section
variable (G:Nat→AV)
set_option maxHeartbeats 1000000 in
theorem AKG (c:List Xs) (s:SM) (l:List Ss) (s':SM) (h:Hp) (hc:c.length≤1048576) (hce : ∀ x∈c,x.l.length≤1048576∧∀ e∈x.l,WN e) (hl:l.length≤1048576) (he : ∀ x∈l,x.l.length≤1048576∧∀ s∈x.l,VO s) :
  PCall (En G) 21 [.sl s 1 (c.map AAP),.sl s' 1 (l.map OV)] h (.bool (ACT c l)):=by
 refine acN Tryz.func21 rfl ?_
 show awp _ _ _ _ _ (D8 _ [.tmp 4] _)
 simp -implicitDefEqProofs only [BC,BA,BI,A8,AY,BB,AO,AQ,AL,BD,AX,AC,AA,AZ,AU,BM,BG,A7,BQ,D6,AB,C9,BF,BL,↓reduceIte,jC,jA,jB,enP,ACI,AJZ,jI]
 cases d0:decide (((l.length:Nat):Int) < ((c.length:Nat):Int))
 rotate_left
 ·have hlt:l.length < c.length:=by rw [decide_eq_true_eq] at d0; omega
  simp -implicitDefEqProofs only [BC,BA,BJ,A8,CQ,CJ,CZ,AY,BB,AO,AQ,AL,BD,AX,AC,AA,AU,BM,A7,↓reduceIte,jA,jB]
  exact ⟨by unfold ACT; rw [if_pos hlt],trivial⟩
 have hle:c.length≤l.length:=by rw [decide_eq_false_iff_not] at d0; omega
 have hr:ACT c l=ANI (c.drop 0) ((l.drop (l.length - c.length)).drop 0):=by unfold ACT; rw [if_neg (by omega)]; rfl
 simp -implicitDefEqProofs only [BC,BP,BA,BR,A8,DI,AY,BB,AO,AQ,AL,BD,AX,AC,AU,BH,A7,jA,jB]
 refine DY (fun n F H => ∃ t,n+t=c.length∧F 0 = .sl s 1 (c.map AAP)∧F 1 = .sl s' 1 (l.map OV)∧F 5 = .int .i64 (t:Nat)∧H=h∧ACT c l=ANI (c.drop t) ((l.drop (l.length - c.length)).drop t)) c.length
  ⟨0,by simp,by simp -implicitDefEqProofs only [AA,BF,↓reduceIte,jC],by simp -implicitDefEqProofs only [AA,BF,BL,↓reduceIte,jC],by simp -implicitDefEqProofs only [AA,↓reduceIte] <;> rfl,rfl,hr⟩ ?_
 clear hr
 rintro n F H ⟨t,ht,f0,f1,f5,rfl,hr⟩
 simp -implicitDefEqProofs only [BC,BA,BI,A8,AY,BB,AO,AQ,AL,BD,AX,AC,AA,AZ,BG,BQ,D6,AB,C9,↓reduceIte,jC,jA,jB,enP,ACI,f0,f5,jI]
 refine CV (fun hd => ?_) (fun hd => ?_)
 rotate_left
 ·have ht' : ¬ t < c.length:=by simpa using hd
  rw [zG (show c.length≤t by omega)] at hr
  simp -implicitDefEqProofs only [BC,BA,BJ,DW,A8,EG,EY,EZ,CJ,AY,BB,AO,AQ,AL,BD,AX,AC,AA,AU,BM,A7,↓reduceIte,jA,jB]
  exact ⟨by rw [hr]; rfl,trivial⟩
 have ht':t < c.length:=by simpa using hd
 have hti:l.length - c.length+t < l.length:=by omega
 have hDt:t < (l.drop (l.length - c.length)).length:=by rw [List.length_drop]; omega
 have hDe:(l.drop (l.length - c.length))[t]=l[l.length - c.length+t]:=List.getElem_drop
 rw [zQ ht',zQ hDt,hDe] at hr
 change ACT c l=(c[t].l.all (okX l[l.length - c.length+t].l) && ANI (c.drop (t+1)) ((l.drop (l.length - c.length)).drop (t+1))) at hr
 obtain ⟨hxl,hxw⟩:=hce _ (jO ht')
 obtain ⟨hsl,hsk⟩:=he _ (jO hti)
 have w1:IntKind.i64.wrap (((l.length:Nat):Int) - ((c.length:Nat):Int))=((l.length - c.length:Nat):Int):=by rw [wrap_i64 (by omega) (by omega)]; omega
 have w2:IntKind.i64.wrap (((l.length - c.length:Nat):Int)+((t:Nat):Int))=((l.length - c.length+t:Nat):Int):=by rw [wrap_i64 (by omega) (by omega)]; omega
 simp -implicitDefEqProofs only [BC,BP,BA,BR,A8,AY,BB,AO,AQ,AL,BD,AX,AC,AU,BH,A7,jA,jB]
 refine JA 2 (fun F H'=>F 0 = .sl s 1 (c.map AAP)∧F 1 = .sl s' 1 (l.map OV)∧F 5 = .int .i64 (t:Nat)∧H'=H∧c[t].l.all (okX l[l.length - c.length+t].l)=true) (fun F H'=>F 4 = .bool (ACT c l)∧H'=H) ?_ ?_ ?_
 ·refine DY (fun n F H' => ∃ i,n+i=c[t].l.length∧F 0 = .sl s 1 (c.map AAP)∧F 1 = .sl s' 1 (l.map OV)∧F 5 = .int .i64 (t:Nat)∧F 6 = .int .i64 (i:Nat)∧H'=H∧c[t].l.all (okX l[l.length - c.length+t].l)=(c[t].l.drop i).all (okX l[l.length - c.length+t].l)) c[t].l.length
   ⟨0,by simp,by simp -implicitDefEqProofs only [AA,↓reduceIte,jC,f0],by simp -implicitDefEqProofs only [AA,↓reduceIte,jC,f1],by simp -implicitDefEqProofs only [AA,↓reduceIte,jC,f5],by simp -implicitDefEqProofs only [AA,↓reduceIte] <;> rfl,rfl,rfl⟩ ?_
  clear f0 f1 f5
  rintro n2 F H' ⟨i,hi,f0,f1,f5,f6,rfl,hq⟩
  simp -implicitDefEqProofs only [BC,BA,BI,A8,AY,BB,AO,AQ,AL,BD,AX,AC,AA,AZ,BG,BX,BQ,CG,D6,AB,C9,↓reduceIte,jC,jA,jB,enP,AJ1,TW,f0,f5,f6,D7 ht',DZ RQ ht',AVY,jI]
  refine CV (fun hd2 => ?_) (fun hd2 => ?_)
  ·have hi':i < c[t].l.length:=by simpa using hd2
   rw [zQ hi',List.all_cons] at hq
   simp -implicitDefEqProofs only [BC,BP,BR,A8]
   refine FN (by kernel_rfl) ?_
   simp -implicitDefEqProofs only [G5,EM,D9,EQ,GH,FT,J7,EU,JM,H6,GN,AO,AA,AZ,AU,BU,BH,BX,BQ,CG,D6,AB,DK,JK,jE,jD,jF,↓reduceIte,jC,Nat.reduceAdd,jA,enP,AJ1,ACI,A2X,AJZ,WP,f0,f1,f5,f6,D7 ht',DZ RQ ht',AVY,D7 hi',FP U4 MM H7 hi',jI,w1,w2,D7 hti,DZ A0Y hti,ANR]
   refine ⟨_,value_ref G l[l.length - c.length+t].l _ c[t].l[i] _ hsl hsk (hxw _ (jO hi')),?_⟩
   try simp -implicitDefEqProofs only [D9,FU,BI,A8,AA,AZ,AB,DR,↓reduceIte]
   cases hz:((((evE l[l.length - c.length+t].l c[t].l[i]).1:Nat):Int) == 0)
   ·have hz2:okX l[l.length - c.length+t].l c[t].l[i]=true:=by unfold okX; rw [hz]; rfl
    rw [hz2,qM] at hq
    simp -implicitDefEqProofs only [BA,BR,A8,EH,ER,DI,AY,BB,AO,AQ,AL,BD,AX,AC,AA,AZ,AU,BH,BG,A7,BQ,AB,DK,↓reduceIte,jC,jA,jB,enP,f6,wrap_succ (show i < 9223372036854775807 by omega)]
    exact ⟨n2 - 1,by omega,i+1,by omega,by first | exact True.intro | exact f0,by first | exact True.intro | exact f1,by first | exact True.intro | exact f5,by first | exact True.intro | exact rfl,by first | exact True.intro | exact rfl,hq⟩
   ·have hz2:okX l[l.length - c.length+t].l c[t].l[i]=false:=by unfold okX; rw [hz]; rfl
    rw [hz2,wJ] at hq
    rw [hq,wJ] at hr
    simp -implicitDefEqProofs only [BC,BA,BJ,A8,CQ,ED,RI,F7,CZ,AY,BB,AO,AQ,AL,BD,AX,AC,AA,AU,BM,A7,↓reduceIte,jA,jB]
    exact ⟨by rw [hr],by first | exact True.intro | exact rfl⟩
  ·have hi' : ¬ i < c[t].l.length:=by simpa using hd2
   rw [zG (by omega)] at hq
   simp -implicitDefEqProofs only [DW,EG,NG,EZ,AA,↓reduceIte,jC]
   exact ⟨by first | exact True.intro | exact f0,by first | exact True.intro | exact f1,by first | exact True.intro | exact f5,by first | exact True.intro | exact rfl,hq⟩
 ·rintro F H' ⟨g0,g1,g5,rfl,hq⟩
  rw [hq,qM] at hr
  simp -implicitDefEqProofs only [BA,A8,EH,EY,ER,AY,BB,AO,AQ,AL,BD,AX,AC,AA,AZ,AU,BH,BG,A7,BQ,AB,DK,↓reduceIte,jC,jA,jB,enP,g5,wrap_succ (show t < 9223372036854775807 by omega)]
  exact ⟨n - 1,by omega,t+1,by omega,by first | exact True.intro | exact g0,by first | exact True.intro | exact g1,by first | exact True.intro | exact rfl,by first | exact True.intro | exact rfl,hr⟩
 ·rintro F H' ⟨g4,rfl⟩
  simp -implicitDefEqProofs only [CQ,ED,F7,CJ,g4]
  exact ⟨by first | exact True.intro | exact rfl,by first | exact True.intro | exact rfl⟩
end
end Go.Proofs.YtfpagfhhhlljjaaGreatDoor.Ho
set_option linter.unusedSimpArgs false
set_option maxRecDepth 8000
namespace Go.Proofs.YtfpagfhhhlljjaaGreatDoor.Ho
open Sm Bins Cov Go.RowKit
open Bool renaming not_false→jB
open Nat renaming le_of_ble_eq_true→jH,reduceEqDiff→jC,add_zero→jM,zero_add→jG
open Option renaming getD_some→jA
section
variable (G:Nat→AV)
theorem AJJ (m:Mo) (x:Hl) (hc:x.cross=true) (i:Nat) (hi:i < m.crs.length) (hz:x.idx=(i:Int)) (h:Hp):PCall (En G) 32 [.agg (EE m),.agg (IP x)] h (.sl m.crs[i].pm 1 (m.crs[i].pts.map qencI)):=by
 refine ACalls.pure0 rfl ?_
 refine acN Tryz.func32 rfl ?_
 show awp _ _ _ _ _ (D8 _ [.tmp 4] _)
 have t:=Hb.mk' h m x
 simp -implicitDefEqProofs only [BC,BA,A8,AY,BB,AO,AQ,AL,BD,AX,AC,AA,AZ,AU,GZ,A7,FM,BX,BN,CB,AB,BF,BL,↓reduceIte,jC,jM,jA,jB,enP,ZN,bxM,bxH]
 generalize h ++ [ABlk.live 2 [EE m]] ++ [ABlk.live 3 [IP x]]=H at t ⊢
 generalize (h ++ [ABlk.live 2 [EE m]]).length=hb at t ⊢
 have l0:=AU2 t.gh
 have l1:=AM6 t.gh
 rw [hc] at l0
 rw [hz] at l1
 simp -implicitDefEqProofs only [BC,BA,BJ,BI,A8,CQ,CJ,CZ,AY,BB,AO,AQ,AL,BD,AX,AC,AA,AZ,A7,BX,BN,CG,AB,↓reduceIte,jC,jG,jA,jB,enP,XZ,L8,PM,NH,l0,l1,AEG t.gm,D7 hi,DZ OA hi,U2]
 exact ⟨by first | exact True.intro | exact rfl,t.hx⟩
theorem AJI (m:Mo) (x:Hl) (hc:x.cross=false) (h:Hp):PCall (En G) 32 [.agg (EE m),.agg (IP x)] h (.sl .full 1 ([x.idx].map qencI)):=by
 refine ACalls.pure0 rfl ?_
 refine acN Tryz.func32 rfl ?_
 show awp _ _ _ _ _ (D8 _ [.tmp 4] _)
 have t:=Hb.mk' h m x
 simp -implicitDefEqProofs only [BC,BA,A8,AY,BB,AO,AQ,AL,BD,AX,AC,AA,AZ,AU,GZ,A7,FM,BX,BN,CB,AB,BF,BL,List.map_cons,List.map_nil,↓reduceIte,jC,jM,jA,jB,enP,ZN,bxM,bxH]
 generalize h ++ [ABlk.live 2 [EE m]] ++ [ABlk.live 3 [IP x]]=H at t ⊢
 generalize (h ++ [ABlk.live 2 [EE m]]).length=hb at t ⊢
 have l0:=AU2 t.gh
 rw [hc] at l0
 simp -implicitDefEqProofs only [FK,FH,BC,BA,BR,BJ,BI,A8,CJ,DI,AY,BB,AO,AQ,AL,BD,AX,AC,AA,AZ,A7,EC,BX,BN,CB,AB,↓reduceIte,jC,jG,jA,jB,enP,PM,l0,AM6 t.gh,ALK]
 exact ⟨by first | exact True.intro | exact rfl,t.hx⟩
end
end Go.Proofs.YtfpagfhhhlljjaaGreatDoor.Ho
