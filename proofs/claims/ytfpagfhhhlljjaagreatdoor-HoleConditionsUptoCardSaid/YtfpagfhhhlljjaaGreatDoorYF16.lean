/- Part 16 of the proof (O1, O2, Ko, O3, O4, O5, O6, O8, O9, O10, O11, O12, O13, O14, O15, O16, O18, O19); no condition. -/
import Derived.Test.YtfpagfhhhlljjaaGreatDoorYF15
set_option linter.unusedVariables false
set_option linter.unusedSimpArgs false
set_option maxRecDepth 8000
namespace Go.Proofs.YtfpagfhhhlljjaaGreatDoor.Cov
open Sm Bins Go.RowKit
open Bool renaming not_false→jC,not_true→jV,true_and→qO,false_and→qW
open List renaming drop_eq_getElem_cons→zN,drop_eq_nil_of_le→jZ,length_map→jH,map_cons→jD,map_nil→jE,append_nil→jF
open Nat renaming le_of_ble_eq_true→jI,reduceEqDiff→jB,zero_add→jG
open Option renaming getD_some→jA
def ixV (ns:List Nat)(l:List Int):Int:=if JK ns l=true then U0 ns l 0 else 0
theorem AQR {ns:List Nat}{l:List Int}(h:l.length≠ns.length):JK ns l=false:=by
 cases e:JK ns l
 ·rfl
 ·exact absurd (NK e).symm h
theorem AGY {ns:List Nat}{l:List Int}{k:Nat}(hk:k < l.length)(hn:k < ns.length):JK (ns.drop k) (l.drop k)=(decide (0≤l[k]) && decide (l[k] < (ns[k]:Int)) && JK (ns.drop (k+1)) (l.drop (k+1))):=by
 rw[zN hk,zN hn]; rfl
theorem ALF {ns:List Nat}{l:List Int}{k:Nat}(hk:l.length≤k)(hn:ns.length≤k):JK (ns.drop k) (l.drop k)=true:=by
 rw[jZ hk,jZ hn]; rfl
theorem ANH (G:Nat→AV)(m:Mo)(z:Int)(hz:z < 0∨(m.crs.length:Int)≤z)(h:Hp):PCall (En G) 77 [.agg (EE m),.int .i64 z] h (.bool false):=by
 refine ACalls.pure0 rfl ?_
 refine acN Tryz.func77 rfl ?_
 show awp _ _ _ _ _ (EJ _ [.tmp 4] _)
 simp -implicitDefEqProofs only[vQ,CO,BD,↓reduceIte,jB,enP,bxM]
 cases d0:decide (z < 0)
 ·have d1:decide (z≥(m.crs.length:Int))=true:=by rw[decide_eq_true_eq]; rw[decide_eq_false_iff_not] at d0; omega
  simp -implicitDefEqProofs only[vQ,CO,BD,↓reduceIte,jB,enP,XW,JS,DF AAT,TP,jH,d1]
  exact⟨trivial,_,rfl⟩
 ·simp -implicitDefEqProofs only[vQ,CO,BD,EY,↓reduceIte,jB]
  exact⟨trivial,_,rfl⟩
theorem ACE (G:Nat→AV)(m:Mo)(z:Int)(hz:z < 0∨(m.crs.length:Int)≤z)(h:Hp):PCall (En G) 59 [.agg (EE m),.int .i64 z] h (.bool false):=by
 refine ACalls.pure0 rfl ?_
 refine acN Tryz.func59 rfl ?_
 show awp _ _ _ _ _ (EJ _ [.tmp 4] _)
 simp -implicitDefEqProofs only[vQ,CO,BD,↓reduceIte,jB,enP,bxM]
 cases d0:decide (z < 0)
 ·have d1:decide (z≥(m.crs.length:Int))=true:=by rw[decide_eq_true_eq]; rw[decide_eq_false_iff_not] at d0; omega
  simp -implicitDefEqProofs only[vQ,CO,BD,↓reduceIte,jB,enP,XW,JS,DF AAT,TP,jH,d1]
  exact⟨trivial,_,rfl⟩
 ·simp -implicitDefEqProofs only[vQ,CO,BD,EY,↓reduceIte,jB]
  exact⟨trivial,_,rfl⟩
theorem ADG (G:Nat→AV)(m:Mo)(z:Int)(hz:z < 0∨(m.crs.length:Int)≤z)(l:List Int)(s:SM)(h:Hp):PCall (En G) 44 [.agg (EE m),.int .i64 z,.sl s 1 (l.map qencI)] h (.tup [.int .i64 0,.bool false]):=by
 refine ACalls.pure 2 (R:=fun v H=>v = .tup [.int .i64 0,.bool false]∧∃ x,H=h++x) ?_ (fun v h' ⟨e,x⟩=>⟨x,by subst e; rfl⟩)
 refine acN Tryz.func44 rfl ?_
 show awp _ _ _ _ _ (EJ _ [.tmp 6,.tmp 7] _)
 simp -implicitDefEqProofs only[vQ,BD,↓reduceIte,jB,enP,bxM,ldM (CZ h (.live 2 [EE m]))]
 refine(ANH G m z hz _).use ?_
 simp -implicitDefEqProofs only[vQ,BD,↓reduceIte,jB]
 exact⟨trivial,_,rfl⟩
theorem AFI (G:Nat→AV)(m:Mo)(z:Int)(hz:z < 0∨(m.crs.length:Int)≤z)(l:List Int)(s:SM)(h:Hp):PCall (En G) 30 [.agg (EE m),.int .i64 z,.sl s 1 (l.map qencI)] h (.tup [.int .i64 0,.bool false]):=by
 refine ACalls.pure 2 (R:=fun v H=>v = .tup [.int .i64 0,.bool false]∧∃ x,H=h++x) ?_ (fun v h' ⟨e,x⟩=>⟨x,by subst e; rfl⟩)
 refine acN Tryz.func30 rfl ?_
 show awp _ _ _ _ _ (EJ _ [.tmp 6,.tmp 7] _)
 simp -implicitDefEqProofs only[vQ,BD,↓reduceIte,jB,enP,bxM,ldM (CZ h (.live 2 [EE m]))]
 refine(ACE G m z hz _).use ?_
 simp -implicitDefEqProofs only[vQ,CO,BD,EY,↓reduceIte,jB]
 exact⟨trivial,_,rfl⟩
theorem VR (G:Nat→AV)(m:Mo)(i:Nat)(hi:i < m.crs.length)(hg:CrGood m m.crs[i])(l:List Int)(s:SM)(hn:l.length≤1048576)(h:Hp):PCall (En G) 44 [.agg (EE m),.int .i64 (i:Int),.sl s 1 (l.map qencI)] h (.tup [.int .i64 (ixV (szs m m.crs[i].pts) l),.bool (JK (szs m m.crs[i].pts) l)]):=by
 refine ACalls.pure 2 (R:=fun v H=>v = .tup [.int .i64 (ixV (szs m m.crs[i].pts) l),.bool (JK (szs m m.crs[i].pts) l)]∧∃ x,H=h++x) ?_ (fun v h' ⟨e,x⟩=>⟨x,by subst e; rfl⟩)
 have hx : ∃ x,h++[ABlk.live 2 [EE m]]=h++x:=⟨_,rfl⟩
 refine acN Tryz.func44 rfl ?_
 show awp _ _ _ _ _ (EJ _ [.tmp 6,.tmp 7] _)
 simp -implicitDefEqProofs only[vQ,BD,↓reduceIte,jB,enP,bxM,ldM (CZ h (.live 2 [EE m]))]
 refine(AA1 G m i hi hg _).use ?_
 simp -implicitDefEqProofs only[vQ,BD,↓reduceIte,jB,jV,enP,ldM (CZ h (.live 2 [EE m]))]
 refine(ZC G m i hi hg _).use ?_
 generalize szs m m.crs[i].pts=ns
 rcases Classical.em (l.length=ns.length) with hlen | hlen
 case inr =>
  have hne:((l.length:Int) != (ns.length:Int))=true:=by simp; omega
  have hb:=AQR hlen
  have hv:ixV ns l=0:=by unfold ixV; rw[hb]; rfl
  simp -implicitDefEqProofs only[vQ,BD,↓reduceIte,jB,enP,JV,jH,hne]
  exact⟨by rw[hb,hv],hx⟩
 have hne:((l.length:Int) != (ns.length:Int))=false:=by rw[hlen]; simp
 simp -implicitDefEqProofs only[vQ,BD,↓reduceIte,jB,enP,JV,jH,hne]
 refine DK (fun n F H => ∃ k,n+k=l.length∧F 8 = .sl .any 1 (ns.map KH)∧(∃ z,F 9 = .int .i64 z∧U0 ns l 0=U0 (ns.drop k) (l.drop k) z)∧F 24 = .sl s 1 (l.map qencI)∧F 25 = .int .i64 l.length∧F 26 = .int .i64 (k:Nat)∧H=h++[ABlk.live 2 [EE m]]∧JK ns l=JK (ns.drop k) (l.drop k)) l.length ⟨0,by simp,by simp -implicitDefEqProofs only[AA,↓reduceIte,jB],⟨0,rfl,rfl⟩,by simp -implicitDefEqProofs only[AA,↓reduceIte,jB],by simp -implicitDefEqProofs only[AA,↓reduceIte,jB],by simp -implicitDefEqProofs only[AA,↓reduceIte]; rfl,rfl,rfl⟩ ?_
 rintro n F H ⟨k,hk,f8,⟨z,f9,hz⟩,f24,f25,f26,rfl,hin⟩
 simp -implicitDefEqProofs only[vQ,BD,↓reduceIte,enP,f25,f26]
 refine CU (fun hc => ?_) (fun hc => ?_)
 ·have hk':k < l.length:=by simpa using hc
  have hkn:k < ns.length:=by omega
  rw[AGY hk' hkn] at hin
  rw[zN hk',zN hkn] at hz
  cases d0:decide (l[k] < 0)
  ·have e0:decide (0≤l[k])=true:=by rw[decide_eq_true_eq]; rw[decide_eq_false_iff_not] at d0; omega
   cases d1:decide (l[k]≥(ns[k]:Int))
   ·have e1:decide (l[k] < (ns[k]:Int))=true:=by rw[decide_eq_true_eq]; rw[decide_eq_false_iff_not] at d1; omega
    rw[e0,e1,qO,qO] at hin
    simp -implicitDefEqProofs only[vQ,CO,BD,SA,↓reduceIte,jB,enP,JJ,f8,f9,f24,f26,DL hk',C9 ag3 hk',encI0,d0,DL hkn,C9 ag3 hkn,encN0,d1,wrap_succ (show k < 9223372036854775807 by omega)]
    exact⟨n - 1,by omega,k+1,by omega,trivial,⟨_,rfl,hz⟩,trivial,f25,rfl,trivial,hin⟩
   ·have e1:decide (l[k] < (ns[k]:Int))=false:=by rw[decide_eq_false_iff_not]; rw[decide_eq_true_eq] at d1; omega
    rw[e1,Bool.and_false,qW] at hin
    have hv:ixV ns l=0:=by unfold ixV; rw[hin]; rfl
    simp -implicitDefEqProofs only[vQ,CO,BD,↓reduceIte,jB,enP,JJ,f8,f9,f24,f26,DL hk',C9 ag3 hk',encI0,d0,DL hkn,C9 ag3 hkn,encN0,d1]
    exact⟨by rw[hin,hv],hx⟩
  ·have e0:decide (0≤l[k])=false:=by rw[decide_eq_false_iff_not]; rw[decide_eq_true_eq] at d0; omega
   rw[e0,qW,qW] at hin
   have hv:ixV ns l=0:=by unfold ixV; rw[hin]; rfl
   simp -implicitDefEqProofs only[vQ,CO,BD,EY,↓reduceIte,jB,enP,JJ,f8,f9,f24,f26,DL hk',C9 ag3 hk',encI0,d0]
   exact⟨by rw[hin,hv],hx⟩
 ·have hk' : ¬ k < l.length:=by simpa using hc
  rw[ALF (by omega) (by omega)] at hin
  rw[jZ (show l.length≤k by omega),YZ] at hz
  have hv:ixV ns l=z:=by unfold ixV; rw[if_pos hin,hz]
  simp -implicitDefEqProofs only[vQ,BD,↓reduceIte,jB,f9]
  exact⟨by rw[hin,hv],hx⟩
theorem AFJ (G:Nat→AV)(m:Mo)(i:Nat)(hi:i < m.crs.length)(hg:CrGood m m.crs[i])(l:List Int)(s:SM)(hn:l.length≤1048576)(h:Hp):PCall (En G) 30 [.agg (EE m),.int .i64 (i:Int),.sl s 1 (l.map qencI)] h (.tup [.int .i64 (ixV (szs m m.crs[i].pts) l),.bool (JK (szs m m.crs[i].pts) l)]):=by
 have hsl:=LY m m.crs[i].pts
 have hget:=ABX m m.crs[i].pts
 refine ACalls.pure 2 (R:=fun v H=>v = .tup [.int .i64 (ixV (szs m m.crs[i].pts) l),.bool (JK (szs m m.crs[i].pts) l)]∧∃ x,H=h++x) ?_ (fun v h' ⟨e,x⟩=>⟨x,by subst e; rfl⟩)
 have gm:=CZ h (.live 2 [EE m])
 have hx : ∃ x,h++[ABlk.live 2 [EE m]]=h++x:=⟨_,rfl⟩
 refine acN Tryz.func30 rfl ?_
 show awp _ _ _ _ _ (EJ _ [.tmp 6,.tmp 7] _)
 simp -implicitDefEqProofs only[vQ,BD,↓reduceIte,jB,enP,bxM,ldM gm]
 refine(ACF G m i hi hg _).use ?_
 rcases Classical.em (l.length=m.crs[i].pts.length) with hlen | hlen
 case inr =>
  have hne:((l.length:Int) != (m.crs[i].pts.length:Int))=true:=by simp; omega
  have hb:JK (szs m m.crs[i].pts) l=false:=AQR (by omega)
  have hv:ixV (szs m m.crs[i].pts) l=0:=by unfold ixV; rw[hb]; rfl
  simp -implicitDefEqProofs only[vQ,CO,BD,↓reduceIte,jB,jV,enP,QU,JS,JV,JO,VM gm,DL hi,C9 MG hi,PU,jH,hne]
  exact⟨by rw[hb,hv],hx⟩
 have hne:((l.length:Int) != (m.crs[i].pts.length:Int))=false:=by rw[hlen]; simp
 simp -implicitDefEqProofs only[vQ,CO,BD,↓reduceIte,jB,jV,enP,QU,JS,JV,JO,VM gm,DL hi,C9 MG hi,PU,jH,hne]
 generalize h++[ABlk.live 2 [EE m]]=H at gm hx ⊢
 generalize szs m m.crs[i].pts=ns at hsl hget ⊢
 refine DK (fun n F H' => ∃ k,n+k=l.length∧F 1 = .int .i64 (i:Nat)∧F 2 = .sl s 1 (l.map qencI)∧F 3 = .ptr h.length 0 0∧(∃ z,F 8 = .int .i64 z∧U0 ns l 0=U0 (ns.drop k) (l.drop k) z)∧F 9 = .int .i64 (k:Nat)∧H'=H∧JK ns l=JK (ns.drop k) (l.drop k)) l.length ⟨0,by simp,by simp -implicitDefEqProofs only[vQ,↓reduceIte,jB],by simp -implicitDefEqProofs only[vQ,↓reduceIte,jB],by simp -implicitDefEqProofs only[AA,↓reduceIte,jB],⟨0,rfl,rfl⟩,by simp -implicitDefEqProofs only[AA,↓reduceIte]; rfl,rfl,rfl⟩ ?_
 rintro n F H' ⟨k,hk,f1,f2,f3,⟨z,f8,hz⟩,f9,rfl,hin⟩
 simp -implicitDefEqProofs only[vQ,BD,↓reduceIte,jB,enP,JV,f2,f9,jH]
 refine CU (fun hc => ?_) (fun hc => ?_)
 ·have hk':k < l.length:=by simpa using hc
  have hkn:k < ns.length:=by omega
  have hkc:k < m.crs[i].pts.length:=by omega
  have hgk:ns[k]=(IU m m.crs[i].pts[k]).length:=IE (hget k hkc)
  rw[AGY hk' hkn] at hin
  rw[zN hk',zN hkn] at hz
  simp -implicitDefEqProofs only[vQ,BD,↓reduceIte,jB,enP,f1,f3,f9,ldM gm]
  refine(AEL G m i hi hg k hkc _).use ?_
  rw[← hgk]
  cases d0:decide (l[k] < 0)
  ·have e0:decide (0≤l[k])=true:=by rw[decide_eq_true_eq]; rw[decide_eq_false_iff_not] at d0; omega
   cases d1:decide (l[k]≥(ns[k]:Int))
   ·have e1:decide (l[k] < (ns[k]:Int))=true:=by rw[decide_eq_true_eq]; rw[decide_eq_false_iff_not] at d1; omega
    rw[e0,e1,qO,qO] at hin
    simp -implicitDefEqProofs only[vQ,CO,BD,SA,↓reduceIte,jB,enP,JJ,f2,f8,f9,DL hk',C9 ag3 hk',encI0,d0,d1,wrap_succ (show k < 9223372036854775807 by omega)]
    exact⟨n - 1,by omega,k+1,by omega,f1,trivial,f3,⟨_,rfl,hz⟩,rfl,trivial,hin⟩
   ·have e1:decide (l[k] < (ns[k]:Int))=false:=by rw[decide_eq_false_iff_not]; rw[decide_eq_true_eq] at d1; omega
    rw[e1,Bool.and_false,qW] at hin
    have hv:ixV ns l=0:=by unfold ixV; rw[hin]; rfl
    simp -implicitDefEqProofs only[vQ,CO,BD,↓reduceIte,jB,enP,JJ,f2,f8,f9,DL hk',C9 ag3 hk',encI0,d0,d1]
    exact⟨by rw[hin,hv],hx⟩
  ·have e0:decide (0≤l[k])=false:=by rw[decide_eq_false_iff_not]; rw[decide_eq_true_eq] at d0; omega
   rw[e0,qW,qW] at hin
   have hv:ixV ns l=0:=by unfold ixV; rw[hin]; rfl
   simp -implicitDefEqProofs only[vQ,CO,BD,EY,↓reduceIte,jB,enP,JJ,f2,f8,f9,DL hk',C9 ag3 hk',encI0,d0]
   exact⟨by rw[hin,hv],hx⟩
 ·have hk' : ¬ k < l.length:=by simpa using hc
  rw[ALF (by omega) (by omega)] at hin
  rw[jZ (show l.length≤k by omega),YZ] at hz
  have hv:ixV ns l=z:=by unfold ixV; rw[if_pos hin,hz]
  simp -implicitDefEqProofs only[vQ,BD,↓reduceIte,jB,f8]
  exact⟨by rw[hin,hv],hx⟩
end Go.Proofs.YtfpagfhhhlljjaaGreatDoor.Cov
set_option linter.unusedSimpArgs false
set_option maxRecDepth 8000
namespace Go.Proofs.YtfpagfhhhlljjaaGreatDoor.Ho
open Sm Bins Cov Go.RowKit
open Bool renaming not_false→jC
open Int renaming toNat_natCast→wR
open List renaming getElem?_eq_none→qP,getElem?_eq_getElem→jO,map_cons→jD,map_nil→jE,append_nil→jF,getElem?_cons_zero→zM,getElem?_cons_succ→zO,length_map→jH
open Nat renaming reduceEqDiff→jB,add_zero→jM,zero_add→jG
open Option renaming getD_some→jA
structure Hl where
 cross:Bool
 idx:Int
 bm:SM
 bins:List Int
def IP (x:Hl):List AV := [.bool x.cross,.int .i64 x.idx,.sl x.bm 1 (x.bins.map qencI)]
theorem AS4 (x:Hl):(IP x).length=3:=rfl
theorem bxH (h:Hp)(x:Hl):O1 h (.agg (IP x))=some (.ptr h.length 0 0,h++[.live 3 [IP x]]):=UM rfl
theorem ldH {H:Hp}{b:Nat}{x:Hl}(hb:H[b]? = some (.live 3 [IP x])):D5 Tryz.prog H 28 (.ptr b 0 0)=some (.agg (IP x)):=by
 rw[GV A6C A2G hb rfl (by rw[AS4]; exact Nat.le_refl 3)]; rfl
theorem AK9 {H:Hp}{b:Nat}{x:Hl}(hb:H[b]? = some (.live 3 [IP x])):D5 Tryz.prog H 4 (.ptr b 0 0)=some (.bool x.cross):=by rw[DU ag4 hb (row:=IP x) rfl]; rfl
theorem ABO {H:Hp}{b:Nat}{x:Hl}(hb:H[b]? = some (.live 3 [IP x])):D5 Tryz.prog H 3 (.ptr b 0 1)=some (.int .i64 x.idx):=by rw[DU ag3 hb (row:=IP x) rfl]; rfl
theorem ZZ {H:Hp}{b:Nat}{x:Hl}(hb:H[b]? = some (.live 3 [IP x])):D5 Tryz.prog H 26 (.ptr b 0 2)=some (.sl x.bm 1 (x.bins.map qencI)):=by rw[DU MG hb (row:=IP x) rfl]; rfl
def AFS (m:Mo)(z:Int):Option Cr:=if 0≤z then m.crs[z.toNat]? else none
def AKK (m:Mo)(z:Int):Option Pt:=if 0≤z then m.pts[z.toNat]? else none
def ADS (p:Pt):List Int→Bool
 | [b]=>decide (0≤b) && decide (b < (p.bins.length:Int)) && (kindOf p b.toNat == 0)
 | _=>false
def crF (m:Mo)(x:Hl):Option Cr→Bool
 | some c=>JK (szs m c.pts) x.bins && TI m c x.bins
 | none=>false
def ptF (x:Hl):Option Pt→Bool
 | some p=>ADS p x.bins
 | none=>false
def TM (m:Mo)(x:Hl):Bool:=if x.cross=true then crF m x (AFS m x.idx) else ptF x (AKK m x.idx)
def MX (m:Mo)(x:Hl):Bool:=(G8 m == 0) && TM m x
theorem AEA {m:Mo}{z:Int}(h:z < 0∨(m.crs.length:Int)≤z):AFS m z=none:=by
 unfold AFS
 split
 ·exact qP (by omega)
 ·rfl
theorem QI {m:Mo}{i:Nat}(hi:i < m.crs.length):AFS m (i:Int)=some m.crs[i]:=by
 unfold AFS
 rw[if_pos (by omega),wR,jO hi]
theorem ACV {m:Mo}{z:Int}(h:z < 0∨(m.pts.length:Int)≤z):AKK m z=none:=by
 unfold AKK
 split
 ·exact qP (by omega)
 ·rfl
theorem ABZ {m:Mo}{i:Nat}(hi:i < m.pts.length):AKK m (i:Int)=some m.pts[i]:=by
 unfold AKK
 rw[if_pos (by omega),wR,jO hi]
theorem OW (z:Int)(n:Nat):(z < 0∨(n:Int)≤z)∨∃ i:Nat,i < n∧z=(i:Int):=by
 rcases Classical.em (z < 0∨(n:Int)≤z) with h | h
 ·exact .inl h
 ·exact .inr ⟨z.toNat,by omega,by omega⟩
structure Hb (h H:Hp) (m:Mo) (x:Hl) (hb:Nat):Prop where
 gm:H[h.length]? = some (ABlk.live 2 [EE m])
 gh:H[hb]? = some (ABlk.live 3 [IP x])
 hx:ext h H
theorem Hb.mk' (h:Hp)(m:Mo)(x:Hl):Hb h (h++[ABlk.live 2 [EE m]]++[ABlk.live 3 [IP x]]) m x (h++[ABlk.live 2 [EE m]]).length :=
 ⟨CP (CZ _ _),CZ _ _,((ext.rfl' h).app _).app _⟩
theorem ADQ {p:Pt}{l:List Int}(h:l.length≠1):ADS p l=false:=by
 match l,h with
 | [],_=>rfl
 | [b],h=>exact absurd rfl h
 | _ :: _ :: _,_=>rfl
theorem ASF {p:Pt}{k:Nat}(hk:k < p.bins.length):kindOf p k=p.bins[k].kind:=by unfold kindOf; rw[jO hk]
theorem AAA {p:Pt}{b:Int}(h:b < 0∨(p.bins.length:Int)≤b):ADS p [b]=false:=by
 show(decide (0≤b) && decide (b < (p.bins.length:Int)) && (kindOf p b.toNat == 0))=false
 rcases h with h | h
 ·rw[show decide (0≤b)=false by rw[decide_eq_false_iff_not]; omega]; rfl
 ·rw[show decide (b < (p.bins.length:Int))=false by rw[decide_eq_false_iff_not]; omega,Bool.and_false]; rfl
theorem ADR {p:Pt}{k:Nat}(hk:k < p.bins.length):ADS p [(k:Int)]=(p.bins[k].kind == 0):=by
 show(decide (0≤(k:Int)) && decide ((k:Int) < (p.bins.length:Int)) && (kindOf p (k:Int).toNat == 0))=_
 rw[wR,ASF hk,show decide (0≤(k:Int))=true by rw[decide_eq_true_eq]; omega,show decide ((k:Int) < (p.bins.length:Int))=true by rw[decide_eq_true_eq]; omega]; rfl
theorem QO (i:Nat):decide ((i:Int) < 0)=false:=by rw[decide_eq_false_iff_not]; omega
theorem TK {i n:Nat}(h:i < n):decide ((i:Int)≥(n:Int))=false:=by rw[decide_eq_false_iff_not]; omega
theorem AK6 {i n:Nat}(h:i < n):decide ((i:Int) < (n:Int))=true:=by rw[decide_eq_true_eq]; omega
theorem ALM (i:Nat):decide ((i:Int)≥0)=true:=by rw[decide_eq_true_eq]; omega
theorem XJ {l:List Int}(h:l.length=1) : ∃ b,l = [b]:=by
 match l,h with
 | [b],_=>exact⟨b,rfl⟩
section
variable (G:Nat→AV)
set_option maxHeartbeats 1000000 in
theorem ASZ (m:Mo)(hg:Cov.Good m)(x:Hl)(hn:x.bins.length≤1048576)(h:Hp):PCall (En G) 28 [.agg (EE m),.agg (IP x)] h (.bool (TM m x)):=by
 refine ACalls.pure0 rfl ?_
 refine acN Tryz.func28 rfl ?_
 show awp _ _ _ _ _ (EJ _ [.tmp 4] _)
 have t:=Hb.mk' h m x
 simp -implicitDefEqProofs only[vQ,BD,↓reduceIte,jB,enP,UK,bxM,bxH]
 generalize h++[ABlk.live 2 [EE m]]++[ABlk.live 3 [IP x]]=H at t ⊢
 generalize (h++[ABlk.live 2 [EE m]]).length=hb at t ⊢
 simp -implicitDefEqProofs only[vQ,↓reduceIte,AK9 t.gh]
 cases hc:x.cross
 case true =>
  have hf:TM m x=crF m x (AFS m x.idx):=by unfold TM; rw[if_pos hc]
  simp -implicitDefEqProofs only[vQ,BD,↓reduceIte,jB,enP,LJ,LH,ldM t.gm,ABO t.gh,ZZ t.gh]
  rcases OW x.idx m.crs.length with hz | ⟨i,hi,hz⟩
  ·rw[AEA hz] at hf; change TM m x=false at hf
   refine(ADG G m x.idx hz x.bins x.bm H).use ?_
   simp -implicitDefEqProofs only[vQ,zM,zO,CO,BD,EY,↓reduceIte,jB]
   exact⟨by rw[hf],t.hx⟩
  ·rw[hz,QI hi] at hf
   change TM m x=(JK (szs m m.crs[i].pts) x.bins && TI m m.crs[i] x.bins) at hf
   have hcg:=hg.crs _ (List.getElem_mem hi)
   rw[hz]
   refine(VR G m i hi hcg x.bins x.bm hn H).use ?_
   cases hin:JK (szs m m.crs[i].pts) x.bins
   ·simp -implicitDefEqProofs only[vQ,zM,zO,CO,BD,EY,↓reduceIte,jB]
    exact⟨by rw[hf,hin,Bool.false_and],t.hx⟩
   ·simp -implicitDefEqProofs only[vQ,zM,zO,CO,BD,↓reduceIte,jB,enP,LJ,LH,ldM t.gm,ABO t.gh,ZZ t.gh]
    rw[hz]
    refine(AFQ G m i hi hcg x.bins x.bm hin H).use ?_
    simp -implicitDefEqProofs only[vQ,CO,BD,↓reduceIte,jB]
    exact⟨by rw[hf,hin,Bool.true_and,Bool.not_not],t.hx⟩
 have hf:TM m x=ptF x (AKK m x.idx):=by unfold TM; rw[if_neg (by rw[hc]; decide)]
 have l1:=ABO t.gh
 have l2:=ZZ t.gh
 rcases OW x.idx m.pts.length with hz | ⟨i,hi,hz⟩
 ·rw[ACV hz] at hf; change TM m x=false at hf
  cases d0:decide (x.idx < 0)
  ·have d1:decide (x.idx≥(m.pts.length:Int))=true:=by rw[decide_eq_true_eq]; rw[decide_eq_false_iff_not] at d0; omega
   simp -implicitDefEqProofs only[vQ,CO,BD,EY,↓reduceIte,jB,enP,PZ,H7,LJ,l1,d0,QF t.gm,jH,d1]
   exact⟨by rw[hf],t.hx⟩
  ·simp -implicitDefEqProofs only[vQ,CO,BD,EY,↓reduceIte,jB,enP,LJ,l1,d0]
   exact⟨by rw[hf],t.hx⟩
 rw[hz,ABZ hi] at hf
 change TM m x=ADS m.pts[i] x.bins at hf
 rw[hz] at l1
 rcases Classical.em (x.bins.length=1) with hl | hl
 case inr =>
  have hne:((x.bins.length:Int) != 1)=true:=by simp; omega
  simp -implicitDefEqProofs only[vQ,CO,BD,↓reduceIte,jB,enP,PZ,H7,JV,LJ,LH,l1,l2,QO,QF t.gm,jH,TK hi,hne]
  exact⟨by rw[hf,ADQ hl],t.hx⟩
 obtain⟨b,hb1⟩:=XJ hl
 rw[hb1] at l2 hf
 have h01:0 < ([b]:List Int).length:=by simp
 have i0:JZ 1 H (.sl x.bm 1 [qencI b]) (.int .i64 0)=some (.fptr 1 [qencI b] 0 0):=DL (k:=1) h01
 have hne:(((([qencI b]:List (List AV)).length:Nat):Int) != 1)=false:=rfl
 have lb:D5 Tryz.prog H 3 (.fptr 1 [qencI b] 0 0)=some (.int .i64 b):=(C9 ag3 h01).trans rfl
 simp -implicitDefEqProofs only[vQ,CO,BD,↓reduceIte,jB,enP,QG,PZ,H7,JJ,JV,LJ,LH,I4,l1,l2,QO,QF t.gm,jH,TK hi,hne,DL hi,C9 U2 hi,O6,i0,lb]
 rcases OW b m.pts[i].bins.length with hb2 | ⟨k,hk,rfl⟩
 ·rw[AAA hb2] at hf
  cases d0:decide (b≥0)
  ·simp -implicitDefEqProofs only[vQ,CO,BD,EY,↓reduceIte,jB,d0]
   exact⟨by rw[hf],t.hx⟩
  ·have d1:decide (b < (m.pts[i].bins.length:Int))=false:=by rw[decide_eq_false_iff_not]; rw[decide_eq_true_eq] at d0; omega
   simp -implicitDefEqProofs only[vQ,CO,BD,EY,↓reduceIte,jB,enP,JJ,LH,QD,d0,l2,i0,lb,jH,d1]
   exact⟨by rw[hf],t.hx⟩
 ·rw[ADR hk] at hf
  simp -implicitDefEqProofs only[vQ,CO,BD,↓reduceIte,jB,enP,JJ,LH,TG,QD,NV,ALM,l2,i0,lb,jH,AK6 hk,DL hk,C9 ag3 hk,QZ]
  exact⟨by rw[hf],t.hx⟩
end
end Go.Proofs.YtfpagfhhhlljjaaGreatDoor.Ho
namespace Go.Proofs.YtfpagfhhhlljjaaGreatDoor.Ho
open Sm Bins Cov Xe Go.RowKit
theorem cl4:Tryz.prog.cellsOf 4=1:=by kernel_rfl
theorem A7W:Tryz.prog.cellsOf 28=3:=by kernel_rfl
def A4L (x:Hl)(b:Nat):Prop:=okL okI x.bins b
theorem A7V:Rd Tryz.prog 28 IP A4L:=by
 intro n
 match n with
 | 0=>exact RdAt.zero
 | 1=>exact AHY Tryz.underlying28
 | n+2 =>
   refine RdAt.map (fun x:Bool × Int × Is × Unit=>(⟨x.1,x.2.1,x.2.2.1.m,x.2.2.1.l⟩:Hl))
    (O9 Tryz.underlying28 (JL rfl cl4 (fun _=>rfl) (AYP Tryz.underlying4 _) (JL rfl cl3 (fun _=>rfl) (rdI _) (JL rfl A3P AD6 (A2P _) UC)))) (fun x=>rfl) ?_
   rintro⟨a,b,c,_⟩ N ⟨_,hN,b1,b2,hb,h1,b3,b4,hb2,h2,b5,b6,hb3,h3,_⟩
   exact h3.mono (by omega)
theorem A6P {x:Hl}{b:Nat}(h:A4L x b)(hb:b≤1048576):x.bins.length≤1048576:=Nat.le_trans (okL.length h) hb
end Go.Proofs.YtfpagfhhhlljjaaGreatDoor.Ho
set_option linter.unusedSimpArgs false
set_option maxRecDepth 8000
namespace Go.Proofs.YtfpagfhhhlljjaaGreatDoor.Ho
open Sm Bins Cov Go.RowKit
open Bool renaming not_false→jC,false_and→qW,true_and→qO,not_true→jV,and_eq_true→jX
open List renaming map_cons→jD,map_nil→jE,append_nil→jF,getElem?_cons_zero→zM,getElem?_cons_succ→zO,getElem_mem→jS,length_map→jH,mem_cons_of_mem→yA
open Nat renaming le_of_ble_eq_true→jI,reduceEqDiff→jB,add_zero→jM,zero_add→jG,one_mul→wU,add_mul→zW,mul_le_mul_right→wI
open Option renaming getD_some→jA
section
variable (G:Nat→AV)
theorem valid_prog (hG:GOk G)(m:Mo)(hm:MoOk m)(x:Hl)(hn:x.bins.length≤1048576)(h:Hp):PCall (En G) 11 [.agg (EE m),.agg (IP x)] h (.bool (MX m x)):=by
 refine ACalls.pure0 rfl ?_
 refine acN Tryz.func11 rfl ?_
 show awp _ _ _ _ _ (EJ _ [.tmp 4] _)
 have t:=Hb.mk' h m x
 simp -implicitDefEqProofs only[vQ,BD,↓reduceIte,jB,enP,bxM,bxH]
 generalize h++[ABlk.live 2 [EE m]]++[ABlk.live 3 [IP x]]=H at t ⊢
 generalize (h++[ABlk.live 2 [EE m]]).length=hb at t ⊢
 simp -implicitDefEqProofs only[vQ,BD,↓reduceIte,ldM t.gm]
 refine(AC4 G hG m hm H).use ?_
 unfold MX
 cases h0:(G8 m == 0)
 ·simp -implicitDefEqProofs only[vQ,CO,BD,EY,↓reduceIte,jB,enP,h0]
  exact⟨by rw[qW],t.hx⟩
 ·have hg:Cov.Good m:=WE (by simpa using h0)
  simp -implicitDefEqProofs only[vQ,CO,BD,↓reduceIte,jB,enP,h0,ldM t.gm,ldH t.gh]
  refine(ASZ G m hg x hn H).use ?_
  simp -implicitDefEqProofs only[vQ,BD,↓reduceIte,jB]
  exact⟨by rw[qO],t.hx⟩
set_option maxHeartbeats 1000000 in
theorem valid_ref (m:Mo)(hm:MoOk m)(x:Hl)(hn:x.bins.length≤1048576)(h:Hp):PCall (En G) 12 [.agg (EE m),.agg (IP x)] h (.bool (MX m x)):=by
 refine ACalls.pure0 rfl ?_
 refine acN Tryz.func12 rfl ?_
 show awp _ _ _ _ _ (EJ _ [.tmp 4] _)
 have t:=Hb.mk' h m x
 simp -implicitDefEqProofs only[vQ,BD,↓reduceIte,jB,enP,bxM,bxH]
 generalize h++[ABlk.live 2 [EE m]]++[ABlk.live 3 [IP x]]=H at t ⊢
 generalize (h++[ABlk.live 2 [EE m]]).length=hb at t ⊢
 simp -implicitDefEqProofs only[vQ,BD,↓reduceIte,ldM t.gm]
 refine(ASB G m hm H).use ?_
 unfold MX
 cases h0:(G8 m == 0)
 ·simp -implicitDefEqProofs only[vQ,BD,↓reduceIte,enP,bne,h0]
  exact⟨by rw[qW],t.hx⟩
 have hg:Cov.Good m:=WE (by simpa using h0)
 rw[qO]
 simp -implicitDefEqProofs only[vQ,BD,↓reduceIte,jB,jV,enP,UK,bne,h0,AK9 t.gh]
 cases hc:x.cross
 case true =>
  have hf:TM m x=crF m x (AFS m x.idx):=by unfold TM; rw[if_pos hc]
  simp -implicitDefEqProofs only[vQ,BD,↓reduceIte,jB,enP,LJ,LH,ldM t.gm,ABO t.gh,ZZ t.gh]
  rcases OW x.idx m.crs.length with hz | ⟨i,hi,hz⟩
  ·rw[AEA hz] at hf; change TM m x=false at hf
   refine(AFI G m x.idx hz x.bins x.bm H).use ?_
   simp -implicitDefEqProofs only[vQ,zM,zO,CO,BD,EY,↓reduceIte,jB]
   exact⟨by rw[hf],t.hx⟩
  ·rw[hz,QI hi] at hf
   change TM m x=(JK (szs m m.crs[i].pts) x.bins && TI m m.crs[i] x.bins) at hf
   have hcg:=hg.crs _ (jS hi)
   rw[hz]
   refine(AFJ G m i hi hcg x.bins x.bm hn H).use ?_
   cases hin:JK (szs m m.crs[i].pts) x.bins
   ·simp -implicitDefEqProofs only[vQ,zM,zO,CO,BD,EY,↓reduceIte,jB]
    exact⟨by rw[hf,hin,qW],t.hx⟩
   ·simp -implicitDefEqProofs only[vQ,zM,zO,CO,BD,↓reduceIte,jB,enP,LJ,LH,ldM t.gm,ABO t.gh,ZZ t.gh]
    rw[hz]
    refine(AIN G m i hi hcg x.bins x.bm hin H).use ?_
    simp -implicitDefEqProofs only[vQ,CO,BD,↓reduceIte,jB]
    exact⟨by rw[hf,hin,qO,Bool.not_not],t.hx⟩
 have hf:TM m x=ptF x (AKK m x.idx):=by unfold TM; rw[if_neg (by rw[hc]; decide)]
 have l1:=ABO t.gh
 have l2:=ZZ t.gh
 rcases OW x.idx m.pts.length with hz | ⟨i,hi,hz⟩
 ·rw[ACV hz] at hf; change TM m x=false at hf
  cases d0:decide (x.idx < 0)
  ·have d1:decide (x.idx≥(m.pts.length:Int))=true:=by rw[decide_eq_true_eq]; rw[decide_eq_false_iff_not] at d0; omega
   simp -implicitDefEqProofs only[vQ,CO,BD,EY,↓reduceIte,jB,enP,PZ,H7,LJ,l1,d0,QF t.gm,jH,d1]
   exact⟨by rw[hf],t.hx⟩
  ·simp -implicitDefEqProofs only[vQ,CO,BD,EY,↓reduceIte,jB,enP,LJ,l1,d0]
   exact⟨by rw[hf],t.hx⟩
 rw[hz,ABZ hi] at hf
 change TM m x=ADS m.pts[i] x.bins at hf
 rw[hz] at l1
 rcases Classical.em (x.bins.length=1) with hl | hl
 case inr =>
  have hne:((x.bins.length:Int) == 1)=false:=by simp; omega
  simp -implicitDefEqProofs only[vQ,CO,BD,↓reduceIte,jB,enP,PZ,H7,JV,LJ,LH,l1,l2,QO,QF t.gm,jH,TK hi,bne,hne]
  exact⟨by rw[hf,ADQ hl],t.hx⟩
 obtain⟨b,hb1⟩:=XJ hl
 rw[hb1] at l2 hf
 have h01:0 < ([b]:List Int).length:=by simp
 have i0:JZ 1 H (.sl x.bm 1 [qencI b]) (.int .i64 0)=some (.fptr 1 [qencI b] 0 0):=DL (k:=1) h01
 have hne:(((([qencI b]:List (List AV)).length:Nat):Int) == 1)=true:=rfl
 have lb:D5 Tryz.prog H 3 (.fptr 1 [qencI b] 0 0)=some (.int .i64 b):=(C9 ag3 h01).trans rfl
 simp -implicitDefEqProofs only[vQ,CO,BD,↓reduceIte,jB,jV,enP,QG,PZ,H7,JJ,JV,LJ,LH,I4,l1,l2,QO,QF t.gm,jH,TK hi,bne,hne,DL hi,C9 U2 hi,O6,i0,lb]
 rcases OW b m.pts[i].bins.length with hb2 | ⟨k,hk,rfl⟩
 ·rw[AAA hb2] at hf
  cases d0:decide (b≥0)
  ·simp -implicitDefEqProofs only[vQ,CO,BD,EY,↓reduceIte,jB,d0]
   exact⟨by rw[hf],t.hx⟩
  ·have d1:decide (b < (m.pts[i].bins.length:Int))=false:=by rw[decide_eq_false_iff_not]; rw[decide_eq_true_eq] at d0; omega
   simp -implicitDefEqProofs only[vQ,CO,BD,EY,↓reduceIte,jB,enP,JJ,LH,QD,d0,l2,i0,lb,jH,d1]
   exact⟨by rw[hf],t.hx⟩
 ·rw[ADR hk] at hf
  simp -implicitDefEqProofs only[vQ,CO,BD,↓reduceIte,jB,enP,JJ,LH,TG,QD,NV,ALM,l2,i0,lb,jH,AK6 hk,DL hk,C9 ag3 hk,QZ]
  exact⟨by rw[hf],t.hx⟩
end
abbrev dot:ByteArray:=⟨#[46]⟩
abbrev comma:ByteArray:=⟨#[44]⟩
def XA (m:Mo)(p b:Int):ByteArray:=match (IU m p)[b.toNat]? with
 | some x=>x.name
 | none=>⟨#[]⟩
def prN (m:Mo):ByteArray→Bool→List Int→List Int→ByteArray
 | s,f,p :: ps,b :: bs=>prN m ((if f=true then s else s++comma)++XA m p b) false ps bs
 | s,_,_,_=>s
def prC (m:Mo)(x:Hl):Option Cr→ByteArray
 | some c=>prN m (c.name++dot) true c.pts x.bins
 | none=>⟨#[]⟩
def prP (m:Mo)(x:Hl):Option Pt→ByteArray
 | some p=>p.name++dot++XA m x.idx (x.bins.headD 0)
 | none=>⟨#[]⟩
def prH (m:Mo)(x:Hl):ByteArray:=if MX m x=true then (if x.cross=true then prC m x (AFS m x.idx) else prP m x (AKK m x.idx)) else ⟨#[]⟩
theorem TA {m:Mo}{x:Hl}(hv:MX m x=true)(hc:x.cross=true) : ∃ i,∃ hi:i < m.crs.length,x.idx=(i:Int)∧JK (szs m m.crs[i].pts) x.bins=true∧TI m m.crs[i] x.bins=true∧Cov.Good m:=by
 unfold MX at hv
 rw[jX] at hv
 obtain⟨h0,hf⟩:=hv
 unfold TM at hf
 rw[if_pos hc] at hf
 rcases OW x.idx m.crs.length with hz | ⟨i,hi,hz⟩
 ·rw[AEA hz] at hf; exact Bool.noConfusion (show false=true from hf)
 ·rw[hz,QI hi] at hf
  change (JK (szs m m.crs[i].pts) x.bins && TI m m.crs[i] x.bins)=true at hf
  rw[jX] at hf
  exact⟨i,hi,hz,hf.1,hf.2,WE (by simpa using h0)⟩
theorem S9 {m:Mo}{x:Hl}(hv:MX m x=true)(hc:x.cross=false) : ∃ i,∃ hi:i < m.pts.length,∃ k,∃ hk:k < m.pts[i].bins.length,x.idx=(i:Int)∧x.bins = [(k:Int)]∧m.pts[i].bins[k].kind=0∧Cov.Good m:=by
 unfold MX at hv
 rw[jX] at hv
 obtain⟨h0,hf⟩:=hv
 unfold TM at hf
 rw[if_neg (by rw[hc]; decide)] at hf
 rcases OW x.idx m.pts.length with hz | ⟨i,hi,hz⟩
 ·rw[ACV hz] at hf; exact Bool.noConfusion (show false=true from hf)
 ·rw[hz,ABZ hi] at hf
  change ADS m.pts[i] x.bins=true at hf
  rcases Classical.em (x.bins.length=1) with hl | hl
  ·obtain⟨b,hb⟩:=XJ hl
   rw[hb] at hf
   rcases OW b m.pts[i].bins.length with hb2 | ⟨k,hk,rfl⟩
   ·rw[AAA hb2] at hf; exact Bool.noConfusion (show false=true from hf)
   ·rw[ADR hk] at hf
    exact⟨i,hi,k,hk,hz,hb,by simpa using hf,WE (by simpa using h0)⟩
  ·rw[ADQ hl] at hf; exact Bool.noConfusion (show false=true from hf)
theorem APY {a b:ByteArray}(h:a.size+b.size≤9223372036854775807):J7 Tryz.prog 9 .add (.str a) (.str b)=some (.str (a++b)):=by
 show APE .add a b=_
 unfold APE
 have hm:IntKind.i64.max=9223372036854775807:=by decide
 simp only
 rw[if_pos (by rw[hm]; omega)]
theorem AL8:dot.size=1:=rfl
section
variable (G:Nat→AV)
end
theorem foldl_mul : ∀ (l:List Nat) (a:Nat),l.foldl (· * ·) a=a * l.foldl (· * ·) 1
 | [],a=>(Nat.mul_one a).symm
 | n :: l,a=>by
   show l.foldl (· * ·) (a * n)=a * l.foldl (· * ·) (1 * n)
   rw[foldl_mul l (a * n),foldl_mul l (1 * n),wU,Nat.mul_assoc]
theorem ACW (n:Nat)(ns:List Nat):JB (n :: ns)=n * JB ns:=by
 unfold JB
 show ns.foldl (· * ·) (1 * n)=_
 rw[wU,foldl_mul]
theorem AGI : ∀ {ns:List Nat},(∀ n∈ns,1≤n)→1≤JB ns
 | [],_=>Nat.le_refl 1
 | n :: ns,h=>by
   rw[ACW]
   exact Nat.mul_le_mul (h n List.mem_cons_self) (AGI fun k hk=>h k (yA _ hk))
theorem AVV : ∀ {ns:List Nat} {l:List Int} {z:Nat},JK ns l=true→(∀ n∈ns,1≤n)→(z+1) * JB ns≤4611686018427387904→∃ r:Nat,U0 ns l (z:Int)=((z * JB ns+r:Nat):Int)∧r < JB ns
 | [],[],z,_,_,_=>⟨0,by show(z:Int)=((z * 1+0:Nat):Int); omega,by decide⟩
 | [],_ :: _,_,h,_,_=>by simp [JK] at h
 | _ :: _,[],_,h,_,_=>by simp [JK] at h
 | n :: ns,x :: xs,z,h,h1,hb=>by
   simp only[JK,jX,decide_eq_true_eq] at h
   obtain⟨⟨x0,x1⟩,hr⟩:=h
   have hP:=AGI (ns:=ns) fun k hk=>h1 k (yA _ hk)
   rw[ACW] at hb ⊢
   obtain⟨y,rfl⟩ : ∃ y:Nat,x=(y:Int):=⟨x.toNat,by omega⟩
   have hy:y < n:=by omega
   generalize hp:JB ns=P at hP hb ⊢
   have e1:(z+1) * (n * P)=(z * n+n) * P:=by rw[← Nat.mul_assoc,zW,wU]
   have e2:(z * n+n)≤(z * n+n) * P:=Nat.le_mul_of_pos_right _ hP
   have e3:(z * n+y+1) * P≤(z * n+n) * P:=wI P (by omega)
   have w1:IntKind.i64.wrap ((z:Int) * (n:Int))=((z * n:Nat):Int):=by rw[← Int.natCast_mul]; exact NE (by omega)
   have w2:IntKind.i64.wrap (((z * n:Nat):Int)+(y:Int))=((z * n+y:Nat):Int):=by rw[← Int.natCast_add]; exact NE (by omega)
   obtain⟨r,r1,r2⟩:=AVV (z:=z * n+y) hr (fun k hk=>h1 k (yA _ hk)) (by rw[hp]; omega)
   rw[hp] at r1 r2
   refine⟨y * P+r,?_,?_⟩
   ·show U0 ns xs (IntKind.i64.wrap (IntKind.i64.wrap ((z:Int) * (n:Int))+(y:Int)))=_
    rw[w1,w2,r1]
    congr 1
    rw[zW,Nat.mul_assoc]
    omega
   ·have:(y+1) * P≤n * P:=wI P hy
    rw[zW,wU] at this
    omega
theorem AVW {m:Mo}(hg:Cov.Good m){i:Nat}(hi:i < m.crs.length){l:List Int}(hin:JK (szs m m.crs[i].pts) l=true) : ∃ k:Nat,U0 (szs m m.crs[i].pts) l 0=(k:Int)∧k < JB (szs m m.crs[i].pts):=by
 have hcg:=hg.crs _ (jS hi)
 have hs:=hg.full.szs hcg.here
 have hfour:=hcg.four
 have hp:JB (szs m m.crs[i].pts)≤64 ^ 4:=AKL _ 4 (fun n hn=>(hs n hn).2) (by rw[LY]; exact hfour)
 obtain⟨r,r1,r2⟩:=AVV (z:=0) hin (fun n hn=>(hs n hn).1) (by omega)
 exact⟨r,by rw[show(0:Int)=((0:Nat):Int) from rfl,r1,Nat.zero_mul,jG],r2⟩
end Go.Proofs.YtfpagfhhhlljjaaGreatDoor.Ho
set_option linter.unusedSimpArgs false
set_option maxRecDepth 8000
namespace Go.Proofs.YtfpagfhhhlljjaaGreatDoor.Ho
open Sm Bins Cov Xe Go.RowKit
open Bool renaming not_false→jC,not_true→jV
open List renaming getElem?_eq_getElem→jO,map_cons→jD,map_nil→jE,append_nil→jF,getElem?_cons_zero→zM,getElem?_cons_succ→zO,getElem?_append_left→zJ
open Nat renaming le_of_ble_eq_true→jI,reduceEqDiff→jB,add_zero→jM,zero_add→jG
open Option renaming getD_some→jA
theorem AGC {m:Mo} : ∀ {l:List (List Sg)} {s:St},FitS m s→(VC m s l).1=0→FitS m (VC m s l).2
 | [],_,h,_=>h
 | e :: r,s,h,h0=>by
   unfold VC at h0 ⊢
   split
   ·rename_i hn
    rw[if_pos hn] at h0
    exact absurd h0 hn
   ·rename_i hn
    rw[if_neg hn] at h0
    exact AGC (h.step (Classical.byContradiction hn)) h0
theorem AUP {m:Mo}{l:List (List Sg)}(h0:G8 m=0)(h:UY m l=0):AG5 m (XM m l)=true:=by
 unfold UY at h
 rw[if_pos h0] at h
 unfold XM
 rw[if_pos ⟨h0,h⟩]
 exact(AGC (AT0 h0) h).fits
theorem A0J {m:Mo}{c:Cvr}(hf:AG5 m c=true){i k:Nat}(hi:i < m.pts.length)(hk:k < m.pts[i].bins.length) : ∃ hi:i < c.pts.length,∃ hk:k < c.pts[i].l.length,cellAt c.pts i k=c.pts[i].l[k]:=by
 obtain⟨_,h1,_⟩:=Z9.1 hf
 obtain⟨x,e,ho⟩:=Y4 h1 i m.pts[i] (jO hi)
 exact AHD (AVU e (AYZ ho) hk)
theorem A0K {m:Mo}{c:Cvr}(hf:AG5 m c=true){i k:Nat}(hi:i < m.crs.length)(hk:k < JB (szs m m.crs[i].pts)) : ∃ hi:i < c.crs.length,∃ hk:k < c.crs[i].l.length,cellAt c.crs i k=c.crs[i].l[k]:=by
 obtain⟨_,_,h2,_⟩:=Z9.1 hf
 obtain⟨x,e,ho⟩:=Y4 h2 i m.crs[i] (jO hi)
 exact AHD (AVU e (AY2 ho) hk)
def AHC (m:Mo)(x:Hl)(c:Cvr):Int:=if x.cross=true then (match AFS m x.idx with
    | some r=>cellAt c.crs x.idx.toNat (ixV (szs m r.pts) x.bins).toNat
    | none=>0) else cellAt c.pts x.idx.toNat (x.bins.headD 0).toNat
def htV (m:Mo)(x:Hl)(c:Cvr)(e:Int):Bool × Int:=if MX m x=true then (if e=0 then (decide (AHC m x c > 0),0) else (false,e)) else (false,1)
structure H3 (h H:Hp) (m:Mo) (x:Hl) (c:Cvr) (hb cb:Nat):Prop where
 gm:H[h.length]? = some (ABlk.live 2 [EE m])
 gh:H[hb]? = some (ABlk.live 3 [IP x])
 gc:H[cb]? = some (ABlk.live 4 [encV c])
 hx:ext h H
theorem A61 {H:Hp}{b:Nat}{c:Cvr}(hb:H[b]? = some (.live 4 [encV c])):D5 Tryz.prog H 67 (.ptr b 0 0)=some (.sl c.pm 1 (c.pts.map encL)):=by rw[DU UN hb (row:=encV c) rfl]; rfl
theorem A60 {H:Hp}{b:Nat}{c:Cvr}(hb:H[b]? = some (.live 4 [encV c])):D5 Tryz.prog H 67 (.ptr b 0 1)=some (.sl c.cm 1 (c.crs.map encL)):=by rw[DU UN hb (row:=encV c) rfl]; rfl
section
variable (G:Nat→AV)
set_option maxHeartbeats 2000000 in
theorem hit_prog (hG:GOk G)(hT:UQ G)(m:Mo)(hm:MoOk m)(x:Hl)(hn:x.bins.length≤1048576)(l:List Ss)(s:SM)(h:Hp)(hl:l.length≤1048576)(he : ∀ x∈l,x.l.length≤1048576∧∀ s∈x.l,A6K s) :
  PCall (En G) 19 [.agg (EE m),.agg (IP x),.sl s 1 (l.map AQX)] h (.tup [.bool (htV m x (XM m (l.map Ss.l)) (UY m (l.map Ss.l))).1,.int .i64 (htV m x (XM m (l.map Ss.l)) (UY m (l.map Ss.l))).2]):=by
 refine ACalls.pure 2 (R:=fun v H=>v = .tup [.bool (htV m x (XM m (l.map Ss.l)) (UY m (l.map Ss.l))).1,.int .i64 (htV m x (XM m (l.map Ss.l)) (UY m (l.map Ss.l))).2]∧ext h H) ?_ (fun v h' ⟨e,x⟩=>⟨x,by subst e; rfl⟩)
 refine acN Tryz.func19 rfl ?_
 show awp _ _ _ _ _ (EJ _ [.tmp 6,.tmp 7] _)
 have t:=Hb.mk' h m x
 simp -implicitDefEqProofs only[vQ,BD,↓reduceIte,jB,enP,bxM,bxH]
 generalize h++[ABlk.live 2 [EE m]]++[ABlk.live 3 [IP x]]=H at t ⊢
 generalize (h++[ABlk.live 2 [EE m]]).length=hb at t ⊢
 simp -implicitDefEqProofs only[vQ,BD,↓reduceIte,jB,enP,ldM t.gm,ldH t.gh]
 refine(valid_prog G hG m hm x hn H).use ?_
 cases hv:MX m x
 ·have hr:htV m x (XM m (l.map Ss.l)) (UY m (l.map Ss.l))=(false,1):=by unfold htV; rw[if_neg (by rw[hv]; decide)]
  simp -implicitDefEqProofs only[vQ,BD,↓reduceIte,jB]
  exact⟨by rw[hr],t.hx⟩
 have h0:G8 m=0:=by unfold MX at hv; rw[Bool.and_eq_true] at hv; simpa using hv.1
 simp -implicitDefEqProofs only[vQ,BD,↓reduceIte,jB,jV,enP,ldM t.gm]
 refine(AXR G hG hT m hm l s H hl (fun x hx=>(he x hx).1)).use ?_
 have hfit:=fun e=>AUP (m:=m) (l:=l.map Ss.l) h0 e
 generalize XM m (l.map Ss.l)=c at hfit ⊢
 generalize UY m (l.map Ss.l)=e at hfit ⊢
 have t':H3 h (H++[ABlk.live 4 [encV c]]) m x c hb H.length:=⟨CP t.gm,CP t.gh,CZ _ _,t.hx.app _⟩
 simp -implicitDefEqProofs only[vQ,zM,zO,BD,↓reduceIte,jB,enP,Option.getD_none,AEW,A2I,bne]
 generalize H++[ABlk.live 4 [encV c]]=H1 at t' ⊢
 generalize H.length=cb at t' ⊢
 cases hz:(e == 0)
 ·have hz':e≠0:=by simpa using hz
  have hr:htV m x c e=(false,e):=by unfold htV; rw[if_pos hv,if_neg hz']
  simp -implicitDefEqProofs only[vQ,BD,↓reduceIte,jB]
  exact⟨by rw[hr],t'.hx⟩
 have hz':e=0:=by simpa using hz
 have hf:=hfit hz'
 have hr:htV m x c e=(decide (AHC m x c > 0),0):=by unfold htV; rw[if_pos hv,if_pos hz']
 rw[hr]
 clear hr hfit t
 have l1:=ABO t'.gh
 have l2:=ZZ t'.gh
 simp -implicitDefEqProofs only[vQ,BD,↓reduceIte,jB,jV,enP,UK,AK9 t'.gh]
 cases hc:x.cross
 ·obtain⟨i,hi,k,hk,hzi,hbn,_,hg⟩:=S9 hv hc
  rw[hzi] at l1
  rw[hbn] at l2
  have h01:0 < ([(k:Int)]:List Int).length:=by simp
  have i0:JZ 1 H1 (.sl x.bm 1 [qencI k]) (.int .i64 0)=some (.fptr 1 [qencI k] 0 0):=DL (k:=1) h01
  have lb:D5 Tryz.prog H1 3 (.fptr 1 [qencI k] 0 0)=some (.int .i64 k):=(C9 ag3 h01).trans rfl
  obtain⟨hi2,hk2,hcell⟩:=A0J hf hi hk
  have hce:AHC m x c=c.pts[i].l[k]:=by
   unfold AHC
   rw[if_neg (by rw[hc]; decide),hzi,hbn]
   exact hcell
  simp -implicitDefEqProofs only[vQ]
  refine ET (by kernel_rfl) ?_
  simp -implicitDefEqProofs only[vQ,↓reduceIte,jB,Nat.reduceAdd,enP,JJ,LJ,LH,ABQ,AIK,l1,l2,A61 t'.gc,DL hi2,C9 MG hi2,AL2,i0,lb,DL hk2,C9 ag3 hk2,Bins.encI0]
  exact⟨by rw[hce],t'.hx⟩
 obtain⟨i,hi,hzi,hin,_,hg⟩:=TA hv hc
 have hcg:=hg.crs _ (List.getElem_mem hi)
 obtain⟨k,hk1,hk⟩:=AVW hg hi hin
 have hiv:ixV (szs m m.crs[i].pts) x.bins=(k:Int):=by unfold ixV; rw[if_pos hin,hk1]
 rw[hzi] at l1
 obtain⟨hi2,hk2,hcell⟩:=A0K hf hi hk
 have hce:AHC m x c=c.crs[i].l[k]:=by
  unfold AHC
  rw[if_pos hc,hzi,QI hi]
  show cellAt c.crs i (ixV (szs m m.crs[i].pts) x.bins).toNat=_
  rw[hiv]
  exact hcell
 simp -implicitDefEqProofs only[vQ,BD,↓reduceIte,jB,jV,enP,LJ,LH,ldM t'.gm,l1,l2]
 refine(VR G m i hi hcg x.bins x.bm hn H1).use ?_
 rw[hiv]
 simp -implicitDefEqProofs only[vQ,zM,zO,BD,↓reduceIte,jB,enP,JJ,LJ,ABQ,ADY,l1,A60 t'.gc,DL hi2,C9 MG hi2,AL2,DL hk2,C9 ag3 hk2,Bins.encI0]
 exact⟨by rw[hce],t'.hx⟩
end
def SomeI (E:Env)(f:FuncId)(args:List AV)(h:Hp):Prop:=ACalls E f args h fun v H=>(∃ n:Int,v = .int .i64 n)∧H=h
theorem SomeI.of {E:Env}{f:FuncId}{args:List AV}{h:Hp}(hc:ACalls E f args h fun v H=>(∃ n:Int,v = .int .i64 n)∧ext h H):SomeI E f args h :=
 hc.trunc fun v H hR=>by
  obtain⟨⟨b,rfl⟩,x,rfl⟩:=hR
  exact⟨1,h,rfl,fun b hb => .inr (.inl ⟨by rw[zJ hb],by rw[zJ hb]⟩),⟨b,rfl⟩,rfl⟩
theorem SomeI.use {E:Env}{f:FuncId}{args:List AV}{h:Hp}{K:AV→Hp→Prop}(hc:SomeI E f args h)(hk : ∀ n:Int,K (.int .i64 n) h):ACalls E f args h K :=
 ACalls.mono hc fun v H ⟨⟨b,e⟩,e2⟩=>by rw[e,e2]; exact hk b
theorem AOW (G:Nat→AV) : ∀ (w:Nat) (e:Ex) (n:Int) (h:Hp),wt e≤w→wt e≤1048576→SomeI (En G) 48 [.agg (CX e),.int .i64 n] h:=by
 intro w
 induction w with
 | zero=>intro e n h h1 _; have:=LW e; omega
 | succ w ih =>
   intro e n h h1 h2
   have hlen:=RG e.args
   have hwt:=LW e
   refine SomeI.of ?_
   refine acN Tryz.func48 rfl ?_
   show awp _ _ _ _ _ (EJ _ [.tmp 4] _)
   have hb:=CZ h (.live 4 [CX e])
   have hx:ext h (h++[.live 4 [CX e]]):=(ext.rfl' h).app _
   simp -implicitDefEqProofs only[vQ,BD,enP,bxE]
   generalize h++[.live 4 [CX e]]=H at hb hx ⊢
   refine DK (fun N F H' => ∃ k z,N+k=e.args.length∧F 1 = .int .i64 n∧F 2 = .ptr h.length 0 0∧F 5 = .int .i64 z∧F 6 = .int .i64 (k:Nat)∧H'=H) e.args.length ⟨0,1,by simp,by simp -implicitDefEqProofs only[vQ,↓reduceIte,jB],by simp -implicitDefEqProofs only[AA,↓reduceIte,jB],by simp -implicitDefEqProofs only[AA,↓reduceIte,jB] <;> rfl,by simp -implicitDefEqProofs only[AA,↓reduceIte] <;> rfl,rfl⟩ ?_
   rintro N F H' ⟨k,z,hk,f1,f2,f5,f6,rfl⟩
   simp -implicitDefEqProofs only[vQ,CO,BD,↓reduceIte,jB,enP,SK,MK,f2,f6,Rk.ldE' hb,List.length_map]
   cases hc:decide (((k:Nat):Int) < ((e.args.length:Nat):Int))
   ·simp -implicitDefEqProofs only[vQ,CO,BD,EY,↓reduceIte,jB,f5]
    exact⟨⟨_,rfl⟩,hx⟩
   have hk':k < e.args.length:=by simpa using hc
   have hlt:=Rk.wt_arg hk'
   simp -implicitDefEqProofs only[vQ,CO,BD,↓reduceIte,jB,enP,f1,f5]
   refine CU (fun hd => ?_) (fun hd => ?_)
   ·simp -implicitDefEqProofs only[vQ,BD,↓reduceIte,jB,enP,WH,MK,f1,f2,f5,f6,Rk.ldE' hb,DL hk',FM TQ LD GU hk']
    refine(ih e.args[k] _ H' (by omega) (by omega)).use ?_
    intro q
    simp -implicitDefEqProofs only[vQ,BD,↓reduceIte,jB,enP,f6,wrap_succ (show k < 9223372036854775807 by omega)]
    exact⟨N - 1,by omega,k+1,_,by omega,by first | exact True.intro | exact f1,by first | exact True.intro | exact f2,by first | exact True.intro | exact rfl,by first | exact True.intro | exact rfl,by first | exact True.intro | exact rfl⟩
   ·simp -implicitDefEqProofs only[vQ,BD,↓reduceIte,jB,f5]
    exact⟨⟨_,rfl⟩,hx⟩
theorem AOO (G:Nat→AV)(e:Ex)(n:Int)(hw:wt e≤1048576)(h:Hp):Rk.SomeB (En G) 25 [.agg (CX e),.int .i64 n] h:=by
 refine Rk.SomeB.of ?_
 refine acN Tryz.func25 rfl ?_
 show awp _ _ _ _ _ (EJ _ [.tmp 4] _)
 simp -implicitDefEqProofs only[vQ,BD,↓reduceIte,jB,enP,bxE,ldE]
 refine(AOW G _ e n _ (Nat.le_refl _) hw).use ?_
 intro q
 simp -implicitDefEqProofs only[vQ,BD,↓reduceIte,jB,enP]
 exact⟨⟨_,rfl⟩,(ext.rfl' h).app _⟩
end Go.Proofs.YtfpagfhhhlljjaaGreatDoor.Ho
set_option linter.unusedSimpArgs false
set_option maxRecDepth 8000
namespace Go.Proofs.YtfpagfhhhlljjaaGreatDoor.Ho
open Sm Bins Cov Go.RowKit
open Bool renaming and_eq_true→jX,not_false→jC,true_and→qO,false_and→qW,not_true→jV,or_false→jQ,or_true→wZ
open List renaming length_map→jH,drop_eq_nil_of_le→jZ,map_cons→jD,map_nil→jE,append_nil→jF,getElem_mem→jS,drop_zero→zK,take_of_length_le→jU,length_append→qB,take_zero→qG,take_succ_eq_append_getElem→zL,length_cons→zT,contains_cons→jR,contains_nil→jJ,length_take→zF
open Nat renaming le_of_ble_eq_true→jI,reduceEqDiff→jB,zero_add→jG,reduceAdd→jP,add_zero→jM,le_refl→jL,reduceBEq→jK
open Option renaming getD_some→jA,getD_none→jT,map_some→wK
def AA9 (m:Mo)(l:List Int):Bool:=l.all fun p=>decide (0≤p) && decide (p < (m.pts.length:Int))
theorem AST {m:Mo}{l:List Int}:AA9 m l=true↔Here m l:=by
 unfold AA9 Here
 rw[List.all_eq_true]
 constructor
 ·intro h p hp
  have:=h p hp
  simp only[jX,decide_eq_true_eq] at this
  exact this
 ·intro h p hp
  have:=h p hp
  simp only[jX,decide_eq_true_eq]
  exact this
section
variable (G:Nat→AV)
theorem ANI (m:Mo)(i:Nat)(hi:i < m.crs.length)(hl:m.crs[i].pts.length≤1048576)(h:Hp):PCall (En G) 59 [.agg (EE m),.int .i64 (i:Int)] h (.bool (AA9 m m.crs[i].pts)):=by
 refine ACalls.pure0 rfl ?_
 have gm:=CZ h (.live 2 [EE m])
 have hx : ∃ x,h++[ABlk.live 2 [EE m]]=h++x:=⟨_,rfl⟩
 refine acN Tryz.func59 rfl ?_
 show awp _ _ _ _ _ (EJ _ [.tmp 4] _)
 simp -implicitDefEqProofs only[vQ,CO,BD,↓reduceIte,jB,enP,QU,XW,JS,JO,bxM,QO,VM gm,jH,TK hi,DL hi,C9 MG hi,PU]
 generalize h++[ABlk.live 2 [EE m]]=H at gm hx ⊢
 refine DK (fun n F H' => ∃ k,n+k=m.crs[i].pts.length∧F 2 = .ptr h.length 0 0∧F 5 = .sl m.crs[i].pm 1 (m.crs[i].pts.map qencI)∧F 6 = .int .i64 (k:Nat)∧H'=H∧AA9 m m.crs[i].pts=AA9 m (m.crs[i].pts.drop k)) m.crs[i].pts.length ⟨0,by simp,by simp -implicitDefEqProofs only[AA,↓reduceIte,jB],by simp -implicitDefEqProofs only[AA,↓reduceIte,jB],by simp -implicitDefEqProofs only[AA,↓reduceIte]; rfl,rfl,rfl⟩ ?_
 rintro n F H' ⟨k,hk,f2,f5,f6,rfl,hp⟩
 simp -implicitDefEqProofs only[vQ,BD,↓reduceIte,jB,enP,JV,f5,f6,jH]
 refine CU (fun hc => ?_) (fun hc => ?_)
 ·have hk':k < m.crs[i].pts.length:=by simpa using hc
  rw[List.drop_eq_getElem_cons hk'] at hp
  change AA9 m m.crs[i].pts=(decide (0≤m.crs[i].pts[k]) && decide (m.crs[i].pts[k] < (m.pts.length:Int)) && AA9 m (m.crs[i].pts.drop (k+1))) at hp
  simp -implicitDefEqProofs only[vQ]
  refine ET (by kernel_rfl) ?_
  cases e0:decide (m.crs[i].pts[k] < 0)
  ·have p0:decide (0≤m.crs[i].pts[k])=true:=by rw[decide_eq_true_eq]; rw[decide_eq_false_iff_not] at e0; omega
   cases e1:decide (m.crs[i].pts[k]≥(m.pts.length:Int))
   ·have p1:decide (m.crs[i].pts[k] < (m.pts.length:Int))=true:=by rw[decide_eq_true_eq]; rw[decide_eq_false_iff_not] at e1; omega
    rw[p0,p1,qO,qO] at hp
    simp -implicitDefEqProofs only[vQ,TS,CO,BD,↓reduceIte,jB,jP,enP,PZ,H7,JJ,f2,f5,f6,DL hk',C9 ag3 hk',Bins.encI0,e0,QF gm,jH,e1,wrap_succ (show k < 9223372036854775807 by omega)]
    exact⟨n - 1,by omega,k+1,by omega,by first | exact True.intro | exact f2,by first | exact True.intro | exact f5,by first | exact True.intro | exact rfl,by first | exact True.intro | exact rfl,hp⟩
   ·have p1:decide (m.crs[i].pts[k] < (m.pts.length:Int))=false:=by rw[decide_eq_false_iff_not]; rw[decide_eq_true_eq] at e1; omega
    rw[p1,Bool.and_false,qW] at hp
    simp -implicitDefEqProofs only[vQ,TS,CO,BD,↓reduceIte,jB,jP,enP,PZ,H7,JJ,f2,f5,f6,DL hk',C9 ag3 hk',Bins.encI0,e0,QF gm,jH,e1]
    exact⟨by rw[hp],hx⟩
  ·have p0:decide (0≤m.crs[i].pts[k])=false:=by rw[decide_eq_false_iff_not]; rw[decide_eq_true_eq] at e0; omega
   rw[p0,qW,qW] at hp
   simp -implicitDefEqProofs only[vQ,ZK,CO,BD,EY,↓reduceIte,jB,jP,enP,JJ,f2,f5,f6,DL hk',C9 ag3 hk',Bins.encI0,e0]
   exact⟨by rw[hp],hx⟩
 ·have hk' : ¬ k < m.crs[i].pts.length:=by simpa using hc
  rw[jZ (by omega)] at hp
  simp -implicitDefEqProofs only[vQ,BD,↓reduceIte]
  exact⟨by rw[hp]; rfl,hx⟩
theorem AW6 (m:Mo)(i:Nat)(hi:i < m.crs.length)(hh:Here m m.crs[i].pts)(k:Nat)(hk:k < m.crs[i].pts.length)(h:Hp):PCall (En G) 60 [.agg (EE m),.int .i64 (i:Int),.int .i64 (k:Int)] h (.int .i64 ((IU m m.crs[i].pts[k]).length:Int)):=by
 refine ACalls.pure0 rfl ?_
 have gm:=CZ h (.live 2 [EE m])
 obtain⟨s,ls⟩:=hh.ld hk (h++[ABlk.live 2 [EE m]])
 refine acN Tryz.func60 rfl ?_
 show awp _ _ _ _ _ (EJ _ [.tmp 6] _)
 simp -implicitDefEqProofs only[vQ,BD,enP,bxM]
 refine ET (by kernel_rfl) ?_
 simp -implicitDefEqProofs only[vQ,↓reduceIte,jB,jP,enP,QG,QU,H7,JS,JJ,QD,I4,JO,QF gm,VM gm,DL hi,C9 MG hi,PU,DL hk,C9 ag3 hk,Bins.encI0,hh.ix hk,ls,jH]
 exact⟨trivial,_,rfl⟩
theorem AJ2 (m:Mo)(i:Nat)(hi:i < m.crs.length)(hl:m.crs[i].pts.length≤1048576)(h:Hp):SomeI (En G) 47 [.agg (EE m),.int .i64 (i:Int)] h:=by
 refine SomeI.of ?_
 have gm:=CZ h (.live 2 [EE m])
 have hx:ext h (h++[ABlk.live 2 [EE m]]):=(ext.rfl' h).app _
 refine acN Tryz.func47 rfl ?_
 show awp _ _ _ _ _ (EJ _ [.tmp 4] _)
 simp -implicitDefEqProofs only[vQ,BD,↓reduceIte,jB,enP,bxM,ldM gm]
 refine(ANI G m i hi hl _).use ?_
 cases hb:AA9 m m.crs[i].pts
 ·simp -implicitDefEqProofs only[vQ,BD,↓reduceIte]
  exact⟨⟨_,rfl⟩,hx⟩
 have hh:=AST.1 hb
 simp -implicitDefEqProofs only[vQ,BD,↓reduceIte,jV]
 generalize h++[ABlk.live 2 [EE m]]=H at gm hx ⊢
 refine DK (fun n F H' => ∃ k z,n+k=m.crs[i].pts.length∧F 1 = .int .i64 (i:Nat)∧F 2 = .ptr h.length 0 0∧F 5 = .int .i64 z∧F 6 = .int .i64 (k:Nat)∧H'=H) m.crs[i].pts.length ⟨0,1,by simp,by simp -implicitDefEqProofs only[vQ,↓reduceIte,jB],by simp -implicitDefEqProofs only[AA,↓reduceIte,jB],by simp -implicitDefEqProofs only[AA,↓reduceIte,jB] <;> rfl,by simp -implicitDefEqProofs only[AA,↓reduceIte] <;> rfl,rfl⟩ ?_
 rintro n F H' ⟨k,z,hk,f1,f2,f5,f6,rfl⟩
 simp -implicitDefEqProofs only[vQ,BD,↓reduceIte,jB,enP,QU,JS,JV,JO,f1,f2,f6,VM gm,DL hi,C9 MG hi,PU,jH]
 refine CU (fun hc => ?_) (fun hc => ?_)
 ·have hk':k < m.crs[i].pts.length:=by simpa using hc
  simp -implicitDefEqProofs only[vQ,BD,↓reduceIte,jB,enP,f1,f2,f5,f6,ldM gm]
  refine(AW6 G m i hi hh k hk' _).use ?_
  simp -implicitDefEqProofs only[vQ,BD,SA,↓reduceIte,jB,enP,f6,wrap_succ (show k < 9223372036854775807 by omega)]
  exact⟨n - 1,by omega,k+1,_,by omega,by first | exact True.intro | exact f1,by first | exact True.intro | exact f2,by first | exact True.intro | exact rfl,by first | exact True.intro | exact rfl,by first | exact True.intro | exact rfl⟩
 ·simp -implicitDefEqProofs only[vQ,BD,↓reduceIte,jB,f5]
  exact⟨⟨_,rfl⟩,hx⟩
end
theorem A4V {H:Hp}{b:Nat}{c:Cr}(hb:H[b]? = some (.live 3 [G5 c])):D5 Tryz.prog H 26 (.ptr b 0 1)=some (.sl c.pm 1 (c.pts.map qencI)):=by rw[DU MG hb (row:=G5 c) rfl]; rfl
theorem A4U {H:Hp}{b:Nat}{c:Cr}(hb:H[b]? = some (.live 3 [G5 c])):D5 Tryz.prog H 67 (.ptr b 0 2)=some (.sl c.xm 1 (c.excl.map encL)):=by rw[DU UN hb (row:=G5 c) rfl]; rfl
section
variable (G:Nat→AV)
set_option maxHeartbeats 1000000 in
theorem AON (m:Mo)(hm:MoOk m)(h:Hp):Rk.SomeB (En G) 24 [.agg (EE m)] h:=by
 refine Rk.SomeB.of ?_
 refine acN Tryz.func24 rfl ?_
 show awp _ _ _ _ _ (EJ _ [.tmp 2] _)
 have gm:=CZ h (.live 2 [EE m])
 have hx:ext h (h++[ABlk.live 2 [EE m]]):=(ext.rfl' h).app _
 have np:=hm.np
 have nc:=hm.nc
 simp -implicitDefEqProofs only[vQ,BD,↓reduceIte,jB,enP,H7,bxM]
 generalize h++[ABlk.live 2 [EE m]]=H at gm hx ⊢
 simp -implicitDefEqProofs only[vQ,CO,BD,↓reduceIte,enP,PZ,QF gm,jH]
 cases d0:decide ((m.pts.length:Int) > 12)
 rotate_left
 ·simp -implicitDefEqProofs only[vQ,CO,BD,EY,↓reduceIte,jB]
  exact⟨⟨_,rfl⟩,hx⟩
 simp -implicitDefEqProofs only[vQ,CO,BD,↓reduceIte,jB,enP,XW,JS,VM gm,jH]
 cases d1:decide ((m.crs.length:Int) > 8)
 rotate_left
 ·simp -implicitDefEqProofs only[vQ,BD,↓reduceIte]
  exact⟨⟨_,rfl⟩,hx⟩
 simp -implicitDefEqProofs only[vQ,BD]
 refine G6 0 (fun F H'=>F 1 = .ptr h.length 0 0∧H'=H) (fun F H'=>(∃ b,F 2 = .bool b)∧ext h H') ?_ ?_ ?_
 ·refine DK (fun n F H' => ∃ k,n+k=m.pts.length∧F 1 = .ptr h.length 0 0∧F 3 = .int .i64 (k:Nat)∧H'=H) m.pts.length ⟨0,by simp,by simp -implicitDefEqProofs only[AA,↓reduceIte,jB],by simp -implicitDefEqProofs only[AA,↓reduceIte] <;> rfl,rfl⟩ ?_
  rintro n F H' ⟨k,hk,f1,f3,rfl⟩
  simp -implicitDefEqProofs only[vQ,BD,↓reduceIte,jB,enP,PZ,H7,f1,f3,QF gm,jH]
  refine CU (fun hc => ?_) (fun hc => ?_)
  ·have hk':k < m.pts.length:=by simpa using hc
   simp -implicitDefEqProofs only[vQ,BD,↓reduceIte,jB,enP,QG,H7,QD,I4,f1,f3,QF gm,DL hk',C9 U2 hk',O6,jH]
   refine CU (fun hd => ?_) (fun hd => ?_)
   ·simp -implicitDefEqProofs only[vQ,BD,↓reduceIte]
    exact⟨⟨_,rfl⟩,hx⟩
   ·simp -implicitDefEqProofs only[vQ,BD,↓reduceIte,jB,enP,f3,wrap_succ (show k < 9223372036854775807 by omega)]
    exact⟨n - 1,by omega,k+1,by omega,by first | exact True.intro | exact f1,by first | exact True.intro | exact rfl,by first | exact True.intro | exact rfl⟩
  ·simp -implicitDefEqProofs only[vQ,↓reduceIte,jB]
   exact⟨by first | exact True.intro | exact f1,by first | exact True.intro | exact rfl⟩
 ·rintro F H' ⟨f1,rfl⟩
  simp -implicitDefEqProofs only[vQ,BD,↓reduceIte]
  refine DK (fun n F H2 => ∃ k,n+k=m.crs.length∧F 1 = .ptr h.length 0 0∧F 4 = .int .i64 (k:Nat)∧ext H' H2) m.crs.length ⟨0,by simp,by simp -implicitDefEqProofs only[AA,↓reduceIte,jB,f1],by simp -implicitDefEqProofs only[AA,↓reduceIte] <;> rfl,ext.rfl' _⟩ ?_
  clear f1
  rintro n F H2 ⟨k,hk,f1,f4,he⟩
  have gm2:=FK he gm
  simp -implicitDefEqProofs only[vQ,BD,↓reduceIte,jB,enP,XW,JS,f1,f4,VM gm2,jH]
  refine CU (fun hc => ?_) (fun hc => ?_)
  ·have hk':k < m.crs.length:=by simpa using hc
   have hco:=hm.crs _ (jS hk')
   have hcp:=hco.pts
   have gm3:=CP (x:=ABlk.live 3 [G5 m.crs[k]]) gm2
   have gc3:=CZ H2 (ABlk.live 3 [G5 m.crs[k]])
   have he3:=he.app [ABlk.live 3 [G5 m.crs[k]]]
   simp -implicitDefEqProofs only[vQ,BD,↓reduceIte,jB,enP,QU,JS,JO,jT,f1,f4,VM gm2,DL hk',FM AI5 ACI LM hk',AXJ,AUF _ _ [.str ⟨#[]⟩,.sl .nil 0 [],.sl .nil 0 []] rfl]
   generalize H2++[ABlk.live 3 [G5 m.crs[k]]]=H3 at gm3 gc3 he3 ⊢
   simp -implicitDefEqProofs only[vQ,CO,BD,↓reduceIte,enP,JV,A4V gc3,jH]
   cases e1:decide ((m.crs[k].pts.length:Int) > 4)
   ·simp -implicitDefEqProofs only[vQ,CO,BD,↓reduceIte,jB,enP,AOA,SQ,A4U gc3,jH]
    cases e2:decide ((m.crs[k].excl.length:Int) > 40)
    ·simp -implicitDefEqProofs only[vQ,CO,BD,↓reduceIte,jB,enP,f1,f4,ldM gm3]
     refine(AJ2 G m k hk' hcp _).use ?_
     intro z
     simp -implicitDefEqProofs only[vQ,CO,BD,↓reduceIte,jB,enP]
     refine CU (fun hd => ?_) (fun hd => ?_)
     ·simp -implicitDefEqProofs only[vQ,BD,↓reduceIte]
      exact⟨⟨_,rfl⟩,hx.trans he3⟩
     ·simp -implicitDefEqProofs only[vQ,BD,↓reduceIte,jB,enP,f4,wrap_succ (show k < 9223372036854775807 by omega)]
      exact⟨n - 1,by omega,k+1,by omega,by first | exact True.intro | exact f1,by first | exact True.intro | exact rfl,he3⟩
    ·simp -implicitDefEqProofs only[vQ,CO,BD,EY,↓reduceIte,jB]
     exact⟨⟨_,rfl⟩,hx.trans he3⟩
   ·simp -implicitDefEqProofs only[vQ,CO,BD,EY,↓reduceIte,jB]
    exact⟨⟨_,rfl⟩,hx.trans he3⟩
  ·simp -implicitDefEqProofs only[vQ,BD,↓reduceIte]
   exact⟨⟨_,rfl⟩,hx.trans he⟩
 ·rintro F H' ⟨⟨b,f2⟩,hx'⟩
  simp -implicitDefEqProofs only[vQ,f2]
  exact⟨⟨_,rfl⟩,hx'⟩
end
theorem ADC {H:Hp}{b:Nat}{p:Pt}(hb:H[b]? = some (.live 6 [GG p])):D5 Tryz.prog H 49 (.ptr b 0 5)=some (.sl p.bm 4 (p.bins.map GR)):=by
 rw[DU U2 hb (row:=GG p) rfl,O6]
theorem AGS {H:Hp}{b:Nat}{p:Pt}(hb:H[b]? = some (.live 6 [GG p])):D5 Tryz.prog H 48 (.ptr b 0 1)=some (.agg (CX p.ex)):=by
 rw[GV TQ LD hb rfl (by rw[IY]; exact jI rfl),AQY]
section
variable (G:Nat→AV)
set_option maxHeartbeats 2000000 in
theorem AOM (m:Mo)(hm:MoOk m)(h:Hp):Rk.SomeB (En G) 9 [.agg (EE m)] h:=by
 refine Rk.SomeB.of ?_
 refine acN Tryz.func9 rfl ?_
 show awp _ _ _ _ _ (EJ _ [.tmp 2] _)
 have gm:=CZ h (.live 2 [EE m])
 have hx:ext h (h++[ABlk.live 2 [EE m]]):=(ext.rfl' h).app _
 have np:=hm.np
 simp -implicitDefEqProofs only[vQ,BD,↓reduceIte,jB,enP,bxM]
 generalize h++[ABlk.live 2 [EE m]]=H at gm hx ⊢
 simp -implicitDefEqProofs only[vQ,BD,↓reduceIte,ldM gm]
 refine(AON G m hm H).use ?_
 intro b
 cases b
 ·simp -implicitDefEqProofs only[vQ,BD,↓reduceIte]
  exact⟨⟨_,rfl⟩,hx⟩
 simp -implicitDefEqProofs only[vQ,BD,↓reduceIte,jV]
 refine DK (fun n F H2 => ∃ k,n+k=m.pts.length∧F 1 = .ptr h.length 0 0∧F 3 = .int .i64 (k:Nat)∧ext H H2) m.pts.length ⟨0,by simp,by simp -implicitDefEqProofs only[AA,↓reduceIte,jB],by simp -implicitDefEqProofs only[AA,↓reduceIte] <;> rfl,ext.rfl' _⟩ ?_
 rintro n F H2 ⟨k,hk,f1,f3,he⟩
 have gm2:=FK he gm
 simp -implicitDefEqProofs only[vQ,BD,↓reduceIte,jB,enP,PZ,H7,f1,f3,QF gm2,jH]
 refine CU (fun hc => ?_) (fun hc => ?_)
 rotate_left
 ·simp -implicitDefEqProofs only[vQ,BD,↓reduceIte]
  exact⟨⟨_,rfl⟩,hx.trans he⟩
 have hk':k < m.pts.length:=by simpa using hc
 have hpo:=hm.pts _ (jS hk')
 have hpn:=hpo.num
 have gp3:=CZ H2 (ABlk.live 6 [GG m.pts[k]])
 have he3:=he.app [ABlk.live 6 [GG m.pts[k]]]
 simp -implicitDefEqProofs only[vQ,BD,↓reduceIte,jB,enP,QG,H7,UJ,jT,f1,f3,QF gm2,DL hk',FM AAS XG IY hk',A02,AYC _ _ [.str ⟨#[]⟩,.int .i64 0,.int .i64 0,.str ⟨#[]⟩,.sl .nil 0 [],.sl .nil 0 []] rfl]
 generalize H2++[ABlk.live 6 [GG m.pts[k]]]=H3 at gp3 he3 ⊢
 generalize H2.length=pb at gp3 ⊢
 simp -implicitDefEqProofs only[vQ,BD,↓reduceIte,AGS gp3]
 refine(AOO G m.pts[k].ex 40 hpo.ex H3).use ?_
 intro b
 cases b
 ·simp -implicitDefEqProofs only[vQ,BD,↓reduceIte]
  exact⟨⟨_,rfl⟩,hx.trans he3⟩
 simp -implicitDefEqProofs only[vQ,BD,↓reduceIte,jV]
 refine G6 2 (fun F H'=>F 1 = .ptr h.length 0 0∧F 3 = .int .i64 (k:Nat)∧H'=H3) (fun F H'=>(∃ b,F 2 = .bool b)∧ext h H') ?_ ?_ ?_
 ·refine DK (fun n F H' => ∃ j,n+j=m.pts[k].bins.length∧F 1 = .ptr h.length 0 0∧F 3 = .int .i64 (k:Nat)∧F 4 = .ptr pb 0 0∧F 5 = .int .i64 (j:Nat)∧H'=H3) m.pts[k].bins.length ⟨0,by simp,by simp -implicitDefEqProofs only[AA,↓reduceIte,jB,f1],by simp -implicitDefEqProofs only[AA,↓reduceIte,jB,f3],by simp -implicitDefEqProofs only[AA,↓reduceIte,jB],by simp -implicitDefEqProofs only[AA,↓reduceIte] <;> rfl,rfl⟩ ?_
  clear f1 f3
  rintro n2 F H' ⟨j,hj,f1,f3,f4,f5,rfl⟩
  simp -implicitDefEqProofs only[vQ,BD,↓reduceIte,jB,enP,QD,I4,f4,f5,ADC gp3,jH]
  refine CU (fun hd => ?_) (fun hd => ?_)
  rotate_left
  ·simp -implicitDefEqProofs only[vQ,↓reduceIte,jB]
   exact⟨by first | exact True.intro | exact f1,by first | exact True.intro | exact f3,by first | exact True.intro | exact rfl⟩
  have hj':j < m.pts[k].bins.length:=by simpa using hd
  have hbo:=hpo.bins _ (jS hj')
  have hbs:=hbo.steps
  simp -implicitDefEqProofs only[vQ,CO,BD,↓reduceIte,jB,enP,TG,I4,L8,OU,f4,f5,ADC gp3,DL hj',C9 RF hj',VX,jH]
  cases e1:decide ((m.pts[k].bins[j].ranges.l.length:Int) > 40)
  rotate_left
  ·simp -implicitDefEqProofs only[vQ,CO,BD,EY,↓reduceIte,jB]
   exact⟨⟨_,rfl⟩,hx.trans he3⟩
  simp -implicitDefEqProofs only[vQ,CO,BD,↓reduceIte,jB,enP,TG,I4,UH,MB,f4,f5,ADC gp3,DL hj',C9 WM hj',P8,jH]
  cases e2:decide ((m.pts[k].bins[j].steps.length:Int) > 10)
  rotate_left
  ·simp -implicitDefEqProofs only[vQ,BD,↓reduceIte]
   exact⟨⟨_,rfl⟩,hx.trans he3⟩
  simp -implicitDefEqProofs only[vQ,BD]
  refine G6 4 (fun F H2=>F 1 = .ptr h.length 0 0∧F 3 = .int .i64 (k:Nat)∧F 4 = .ptr pb 0 0∧F 5 = .int .i64 (j:Nat)∧H2=H') (fun F H'=>(∃ b,F 2 = .bool b)∧ext h H') ?_ ?_ ?_
  ·refine DK (fun n F H2 => ∃ i,n+i=m.pts[k].bins[j].steps.length∧F 1 = .ptr h.length 0 0∧F 3 = .int .i64 (k:Nat)∧F 4 = .ptr pb 0 0∧F 5 = .int .i64 (j:Nat)∧F 6 = .int .i64 (i:Nat)∧H2=H') m.pts[k].bins[j].steps.length ⟨0,by simp,by simp -implicitDefEqProofs only[AA,↓reduceIte,jB,f1],by simp -implicitDefEqProofs only[AA,↓reduceIte,jB,f3],by simp -implicitDefEqProofs only[AA,↓reduceIte,jB,f4],by simp -implicitDefEqProofs only[AA,↓reduceIte,jB,f5],by simp -implicitDefEqProofs only[AA,↓reduceIte] <;> rfl,rfl⟩ ?_
   clear f1 f3 f4 f5
   rintro n3 F H2 ⟨i,hi,f1,f3,f4,f5,f6,rfl⟩
   simp -implicitDefEqProofs only[vQ,BD,↓reduceIte,jB,enP,TG,I4,UH,MB,f4,f5,f6,ADC gp3,DL hj',C9 WM hj',P8,jH]
   refine CU (fun hq => ?_) (fun hq => ?_)
   rotate_left
   ·simp -implicitDefEqProofs only[vQ,↓reduceIte,jB]
    exact⟨by first | exact True.intro | exact f1,by first | exact True.intro | exact f3,by first | exact True.intro | exact f4,by first | exact True.intro | exact f5,by first | exact True.intro | exact rfl⟩
   have hi':i < m.pts[k].bins[j].steps.length:=by simpa using hq
   simp -implicitDefEqProofs only[vQ,BD,↓reduceIte,jB,enP,TG,I4,L8,AIB,MB,f4,f5,f6,ADC gp3,DL hj',C9 WM hj',P8,DL hi',C9 RF hi',Y8,jH]
   refine CU (fun hr => ?_) (fun hr => ?_)
   ·simp -implicitDefEqProofs only[vQ,BD,↓reduceIte]
    exact⟨⟨_,rfl⟩,hx.trans he3⟩
   ·simp -implicitDefEqProofs only[vQ,BD,↓reduceIte,jB,enP,f6,wrap_succ (show i < 9223372036854775807 by omega)]
    exact⟨n3 - 1,by omega,i+1,by omega,by first | exact True.intro | exact f1,by first | exact True.intro | exact f3,by first | exact True.intro | exact f4,by first | exact True.intro | exact f5,by first | exact True.intro | exact rfl,by first | exact True.intro | exact rfl⟩
  ·rintro F H2 ⟨g1,g3,g4,g5,rfl⟩
   simp -implicitDefEqProofs only[vQ,BD,↓reduceIte,jB,enP,g5,wrap_succ (show j < 9223372036854775807 by omega)]
   exact⟨n2 - 1,by omega,j+1,by omega,by first | exact True.intro | exact g1,by first | exact True.intro | exact g3,by first | exact True.intro | exact g4,by first | exact True.intro | exact rfl,by first | exact True.intro | exact rfl⟩
  ·rintro F H2 ⟨⟨b,g2⟩,hx'⟩
   simp -implicitDefEqProofs only[vQ,g2]
   exact⟨⟨_,rfl⟩,hx'⟩
 ·rintro F H' ⟨g1,g3,rfl⟩
  simp -implicitDefEqProofs only[vQ,BD,↓reduceIte,jB,enP,g3,wrap_succ (show k < 9223372036854775807 by omega)]
  exact⟨n - 1,by omega,k+1,by omega,by first | exact True.intro | exact g1,by first | exact True.intro | exact rfl,he3⟩
 ·rintro F H' ⟨⟨b,g2⟩,hx'⟩
  simp -implicitDefEqProofs only[vQ,g2]
  exact⟨⟨_,rfl⟩,hx'⟩
end
theorem QM {P:Program}{t e:TypeId}{α:Type}{k bs:Nat}{f:α→List AV}{h H:Hp}{xs ys:List α}{v:AV}(s:SM)(ho:outG k f h xs v H)(hu:P.underlying t=some (.slice e))(hs:szO P e=some k)(hz:U3 P e=some k)(hb:ND P e=some bs)(hbs:bs≤4194304)(hl:xs.length+ys.length≤8388608)(he:ext h H) :
  ∃ v' H',FZ P true H t t v (.sl s k (ys.map f))=some (v',H')∧outG k f h (xs++ys) v' H'∧(∀ b x,H[b]? = some x→¬ isB v b→H'[b]? = some x)∧ext h H'∧H.length≤H'.length∧(∀ b,isB v' b→isB v b∨b=H.length):=by
 cases ys with
 | nil =>
   refine⟨v,H,?_,by rw[jF]; exact ho,fun _ _ hx _=>hx,he,jL _,fun b hb => .inl hb⟩
   have hcs:JR H (.sl s k [])=some (k,[]):=HY H s k []
   rcases ho with⟨rfl,rfl⟩ | ⟨hne,o,h2,rfl,h3⟩
   ·simp [FZ,hu,hs,SG,hcs,bump]
   ·have hc:JR H (.own o 0 xs.length)=some (k,xs.map f):=by rw[KU h3 (by simp),zK,jU (by simp)]
    simp [FZ,hu,hs,SG,hc,hcs,bump]
 | cons y ys =>
   have h1:(y :: ys).map f≠[]:=by simp
   rcases ho with⟨rfl,rfl⟩ | ⟨hne,o,h2,rfl,h3⟩
   ·refine⟨_,_,PP hu hs hz hb (HY H s k ((y :: ys).map f)) h1 (IR (by simp at hl ⊢; omega) hbs),.inr ⟨by simp,H.length,he.le,by simp,by simp⟩,fun b x hb _=>F8 hb,he.app _,by simp,fun b hb => .inr hb.symm⟩
   ·have hc:JR H (.own o 0 xs.length)=some (k,xs.map f):=by rw[KU h3 (by simp),zK,jU (by simp)]
    refine⟨_,_,PO hu hs hz hb hc (HY H s k ((y :: ys).map f)) h1 (IR (by simp at hl ⊢; omega) hbs),.inr ⟨by simp,H.length,he.le,by simp,by simp⟩,fun b x hb hn => ?_,(he.set h2 _).app _,by simp,fun b hb => .inr hb.symm⟩
    have hn' : ¬ o=b:=hn
    refine F8 ?_
    rw[List.getElem?_set,if_neg hn']; exact hb
def KF:List Bin→List Rng
 | [] => []
 | b :: r=>(if b.kind≠0 then b.ranges.l else [])++KF r
theorem AHG {l:List Bin}{k:Nat}(hk:k < l.length):KF (l.take (k+1))=KF (l.take k)++(if l[k].kind≠0 then l[k].ranges.l else []):=by
 induction l generalizing k with
 | nil=>simp at hk
 | cons b r ih =>
   cases k with
   | zero=>simp [KF]
   | succ k =>
     have:=ih (k:=k) (by simpa using hk)
     simp only[List.take_succ_cons,List.getElem_cons_succ]
     show _++KF (r.take (k+1))=(_++KF (r.take k))++_
     rw[this,List.append_assoc]
theorem AMV {l:List Bin}(k:Nat):(KF (l.take k)).length≤(KF l).length:=by
 induction l generalizing k with
 | nil=>simp
 | cons b r ih =>
   cases k with
   | zero=>simp [KF]
   | succ k =>
     have:=ih k
     show(_++KF (r.take k)).length≤(_++KF r).length
     rw[qB,qB]; omega
theorem A1N:Frz encR:=fun _ _ _ _=>⟨rfl,rfl⟩
theorem AQO {H:Hp}{b:Nat}{x:Bin}(hb:H[b]? = some (.live 4 [GR x])):D5 Tryz.prog H 53 (.ptr b 0 2)=some (.sl x.ranges.m 2 (x.ranges.l.map encR)):=by
 rw[DU RF hb (row:=GR x) rfl,VX]
theorem A4W {H:Hp}{b:Nat}{x:Bin}(hb:H[b]? = some (.live 4 [GR x])):D5 Tryz.prog H 3 (.ptr b 0 1)=some (.int .i64 x.kind):=by
 rw[DU ag3 hb (row:=GR x) rfl,QZ]
theorem A0P (h:Hp)(p:Pt):O1 h (.agg (GG p))=some (.ptr h.length 0 0,h++[.live 6 [GG p]]):=by
 rw[UM (AAG p),IY]
section
variable (G:Nat→AV)
set_option maxHeartbeats 1000000 in
theorem AXB (p:Pt)(hp:p.bins.length≤1048576)(hl:(KF p.bins).length≤1048576)(h:Hp):PCall (En G) 66 [.agg (GG p)] h (.sl (Cov.nm (KF p.bins)) 2 ((KF p.bins).map encR)):=by
 refine N7 A1N ?_
 refine acN Tryz.func66 rfl ?_
 show awp _ _ _ _ _ (EJ _ [.tmp 2] _)
 have gp:=CZ h (.live 6 [GG p])
 have hx:ext h (h++[ABlk.live 6 [GG p]]):=(ext.rfl' h).app _
 simp -implicitDefEqProofs only[vQ,BD,↓reduceIte,jB,enP,I4,A0P]
 generalize h++[ABlk.live 6 [GG p]]=H0 at gp hx ⊢
 simp -implicitDefEqProofs only[vQ,BD,↓reduceIte,enP,QD,ADC gp,jH]
 refine DK (fun n F H => ∃ k u,n+k=p.bins.length∧F 3=u∧F 7 = .sl p.bm 4 (p.bins.map GR)∧F 8 = .int .i64 (p.bins.length:Nat)∧F 9 = .int .i64 (k:Nat)∧ext H0 H∧outG 2 encR H0 (KF (p.bins.take k)) u H) p.bins.length
  ⟨0,.sl .nil 0 [],by simp,by simp -implicitDefEqProofs only[AA,↓reduceIte,jB],by simp -implicitDefEqProofs only[AA,↓reduceIte,jB],by simp -implicitDefEqProofs only[AA,↓reduceIte,jB],by simp -implicitDefEqProofs only[AA,↓reduceIte] <;> rfl,ext.rfl' _,outG.nil _ _ _ _⟩ ?_
 rintro n F H ⟨k,u,hk,f3,f7,f8,f9,he,ho⟩
 simp -implicitDefEqProofs only[vQ,BD,↓reduceIte,enP,f8,f9]
 refine CU (fun hc => ?_) (fun hc => ?_)
 ·have hk':k < p.bins.length:=by simpa using hc
  have hst:=AHG hk'
  have hbl:=AMV (l:=p.bins) (k+1)
  have gb:=CZ H (ABlk.live 4 [GR p.bins[k]])
  have he1:=he.app [ABlk.live 4 [GR p.bins[k]]]
  have ho1:=ho.app [ABlk.live 4 [GR p.bins[k]]]
  simp -implicitDefEqProofs only[vQ,BD,↓reduceIte,jB,enP,TG,NV,jT,f7,f9,DL hk',FM ABV XF LP hk',ATR,AUG _ _ [.str ⟨#[]⟩,.int .i64 0,.sl .nil 0 [],.sl .nil 0 []] rfl]
  generalize H++[ABlk.live 4 [GR p.bins[k]]]=H1 at gb he1 ho1 ⊢
  simp -implicitDefEqProofs only[vQ,BD,↓reduceIte,enP,A4W gb,bne]
  cases hz:(p.bins[k].kind == 0)
  ·have hz':p.bins[k].kind≠0:=by simpa using hz
   rw[if_pos hz'] at hst
   rw[hst,qB] at hbl
   obtain⟨v',H2,ha,ho2,_,he2,_,_⟩:=QM p.bins[k].ranges.m ho1 WF NG AJE AMO (by omega) (ys:=p.bins[k].ranges.l) (by omega) he1
   rw[← hst] at ho2
   simp -implicitDefEqProofs only[vQ,BD,↓reduceIte,jB,enP,OU,f3,AQO gb,ha,f9,wrap_succ (show k < 9223372036854775807 by omega)]
   exact⟨n - 1,by omega,k+1,v',by omega,by first | exact True.intro | exact rfl,by first | exact True.intro | exact f7,by first | exact True.intro | exact f8,by first | exact True.intro | exact rfl,he2,ho2⟩
  ·have hz' : ¬ p.bins[k].kind≠0:=by simpa using hz
   rw[if_neg hz',jF] at hst
   rw[← hst] at ho1
   simp -implicitDefEqProofs only[vQ,BD,↓reduceIte,jB,jV,enP,f9,wrap_succ (show k < 9223372036854775807 by omega)]
   exact⟨n - 1,by omega,k+1,u,by omega,by first | exact True.intro | exact f3,by first | exact True.intro | exact f7,by first | exact True.intro | exact f8,by first | exact True.intro | exact rfl,he1,ho1⟩
 ·have hk' : ¬ k < p.bins.length:=by simpa using hc
  rw[jU (by omega)] at ho
  simp -implicitDefEqProofs only[vQ,BD,↓reduceIte,jB,f3]
  exact⟨hx.trans he,ho.base hx.le⟩
set_option maxHeartbeats 1000000 in
theorem A0U (p:Pt)(hp:p.bins.length≤1048576)(hl:(KF p.bins).length≤1048576)(h:Hp):PCall (En G) 109 [.agg (GG p)] h (.sl (Cov.nm (KF p.bins)) 2 ((KF p.bins).map encR)):=by
 refine N7 A1N ?_
 refine acN Tryz.func109 rfl ?_
 show awp _ _ _ _ _ (EJ _ [.tmp 2] _)
 have gp:=CZ h (.live 6 [GG p])
 have hx:ext h (h++[ABlk.live 6 [GG p]]):=(ext.rfl' h).app _
 simp -implicitDefEqProofs only[vQ,BD,enP,A0P]
 generalize h++[ABlk.live 6 [GG p]]=H0 at gp hx ⊢
 refine DK (fun n F H => ∃ k u,n+k=p.bins.length∧F 1 = .ptr h.length 0 0∧F 3=u∧F 4 = .int .i64 (k:Nat)∧ext H0 H∧outG 2 encR H0 (KF (p.bins.take k)) u H) p.bins.length
  ⟨0,.sl .nil 0 [],by simp,by simp -implicitDefEqProofs only[AA,↓reduceIte,jB],by simp -implicitDefEqProofs only[AA,↓reduceIte,jB],by simp -implicitDefEqProofs only[AA,↓reduceIte] <;> rfl,ext.rfl' _,outG.nil _ _ _ _⟩ ?_
 rintro n F H ⟨k,u,hk,f1,f3,f4,he,ho⟩
 have gp1:=FK he gp
 simp -implicitDefEqProofs only[vQ,BD,↓reduceIte,jB,enP,QD,I4,f1,f4,ADC gp1,jH]
 refine CU (fun hc => ?_) (fun hc => ?_)
 ·have hk':k < p.bins.length:=by simpa using hc
  have hst:=AHG hk'
  have hbl:=AMV (l:=p.bins) (k+1)
  simp -implicitDefEqProofs only[vQ,BD,↓reduceIte,jB,enP,TG,I4,NV,f1,f4,ADC gp1,DL hk',C9 ag3 hk',QZ,bne]
  cases hz:(p.bins[k].kind == 0)
  ·have hz':p.bins[k].kind≠0:=by simpa using hz
   rw[if_pos hz'] at hst
   rw[hst,qB] at hbl
   obtain⟨v',H2,ha,ho2,_,he2,_,_⟩:=QM p.bins[k].ranges.m ho WF NG AJE AMO (by omega) (ys:=p.bins[k].ranges.l) (by omega) he
   rw[← hst] at ho2
   simp -implicitDefEqProofs only[vQ,BD,↓reduceIte,jB,enP,TG,I4,OU,f1,f3,f4,ADC gp1,DL hk',C9 RF hk',VX,ha,wrap_succ (show k < 9223372036854775807 by omega)]
   exact⟨n - 1,by omega,k+1,v',by omega,by first | exact True.intro | exact f1,by first | exact True.intro | exact rfl,by first | exact True.intro | exact rfl,he2,ho2⟩
  ·have hz' : ¬ p.bins[k].kind≠0:=by simpa using hz
   rw[if_neg hz',jF] at hst
   rw[← hst] at ho
   simp -implicitDefEqProofs only[vQ,BD,↓reduceIte,jB,jV,enP,f4,wrap_succ (show k < 9223372036854775807 by omega)]
   exact⟨n - 1,by omega,k+1,u,by omega,by first | exact True.intro | exact f1,by first | exact True.intro | exact f3,by first | exact True.intro | exact rfl,he,ho⟩
 ·have hk' : ¬ k < p.bins.length:=by simpa using hc
  rw[jU (by omega)] at ho
  simp -implicitDefEqProofs only[vQ,BD,↓reduceIte,jB,f3]
  exact⟨hx.trans he,ho.base hx.le⟩
end
def cE (n:Int):Ex := .mk 1 n ⟨#[]⟩ .nil []
def AEH (op n:Int):List AV := [.int .i64 op,.int .i64 n,.str ⟨#[]⟩,.sl .nil 0 []]
theorem A11 (n:Int):KZ Tryz.prog 48 [(0,.int .i64 1),(1,.int .i64 n)]=some (.agg (AEH 1 n)):=by kernel_rfl
theorem A0M (n:Int):CvRow (AEH 1 n) (CX (cE n)):=by
 rw[G9]
 exact CvRow.cons rfl (Cv.refl _) (CvRow.cons rfl (Cv.refl _) (CvRow.cons rfl (Cv.refl _) (CvRow.cons rfl (Cv.nil 0 4) CvRow.nil)))
def cpE:Ex→Ex
 | .mk op n name _ args => .mk op n name (match args with | [] => .nil | _ => .any) (cpEs args)
 where cpEs:List Ex→List Ex
 | [] => []
 | e :: es=>cpE e :: cpEs es
theorem AMD : ∀ l:List Ex,cpE.cpEs l=l.map cpE
 | []=>rfl
 | e :: es=>by show cpE e :: cpE.cpEs es=_; rw[AMD es]; rfl
theorem Q3 (e:Ex):cpE e = .mk e.op e.n e.name (Cov.nm (e.args.map cpE)) (e.args.map cpE):=by
 cases e with
 | mk op n name m args =>
   show Ex.mk op n name _ (cpE.cpEs args)=Ex.mk op n name _ (args.map cpE)
   rw[AMD]
   cases args <;> rfl
theorem ALN:Frz CX:=fun n h d x=>by
 rw[G9]; exact⟨rfl,rfl⟩
def cpW (e:Ex):List AV := [.int .i64 e.op,.int .i64 e.n,.str e.name,fzG 4 CX (e.args.map cpE)]
theorem A3J (e:Ex):CvR (.agg (cpW e)) (.agg (CX (cpE e))):=by
 rw[G9,Q3]
 exact CvR.agg (CvRL.cons (CvR.refl _) (CvRL.cons (CvR.refl _) (CvRL.cons (CvR.refl _) (CvRL.cons ADL CvRL.nil))))
theorem AWS (n:Int):CvR (.agg (AEH 1 n)) (.agg (CX (cE n))):=by
 rw[G9]
 exact CvR.agg (CvRL.cons (CvR.refl _) (CvRL.cons (CvR.refl _) (CvRL.cons (CvR.refl _) (CvRL.cons (CvR.sl (Cv.nil 0 4)) CvRL.nil))))
theorem AF9 {H:Hp}{b:Nat}{row cs:List AV}(hb:H[b]? = some (.live 4 [row]))(hr:row.length=4)(hc:cs.length=4)(hl:cs.all AV.leaf=true):FP Tryz.prog H 48 (.ptr b 0 0) (.agg cs)=some (H.set b (.live 4 [cs])):=by
 rw[NH (cs:=cs) (P5 hl) (by rw[hc]; exact LD) hb (by rw[hr,hc]; exact jL 4)]
 have:splice row 0 cs=cs:=by unfold splice; rw[qG,jZ (by rw[hr,hc]; exact jL 4)]; simp
 rw[this]
theorem RQ {h:Hp}{b:Nat}{row:List AV}(hb:h[b]? = some (.live 4 [row]))(hr:row.length=4):D5 Tryz.prog h 48 (.ptr b 0 0)=some (.agg row):=by
 rw[GV TQ LD hb rfl (by rw[hr]; exact jL 4),zK,← hr,List.take_length]
theorem VL (G:Nat→AV)(n:Int)(h:Hp):PCall (En G) 103 [.int .i64 n] h (.agg (CX (cE n))):=by
 refine PCall.res ?_ (AWS n)
 refine AP5 3 (fun n H=>rfl) ?_
 refine acN Tryz.func103 rfl ?_
 show awp _ _ _ _ _ (EJ _ [.cell 2 48] _)
 have g2:=CZ h (ABlk.live 4 [[.int .i64 0,.int .i64 0,.str ⟨#[]⟩,.sl .nil 0 []]])
 have hx:ext h (h++[ABlk.live 4 [[.int .i64 0,.int .i64 0,.str ⟨#[]⟩,.sl .nil 0 []]]]):=(ext.rfl' h).app _
 simp -implicitDefEqProofs only[vQ,BD,↓reduceIte,jB,enP,VZ]
 generalize h++[ABlk.live 4 [[.int .i64 0,.int .i64 0,.str ⟨#[]⟩,.sl .nil 0 []]]]=H at g2 hx ⊢
 simp -implicitDefEqProofs only[vQ,BD,↓reduceIte,jB,enP,jT,A11,AF9 (cs:=AEH 1 n) g2 rfl rfl rfl]
 rw[X3 (b:=h.length) (by simp -implicitDefEqProofs only[AA,↓reduceIte,jB]) (RQ (EM g2) rfl)]
 exact⟨rfl,hx.set (jL _) _⟩
set_option maxHeartbeats 1000000 in
theorem AMH (G:Nat→AV) : ∀ (w:Nat) (e:Ex) (h:Hp),wt e≤w→wt e≤1048576→PCall (En G) 102 [.agg (CX e)] h (.agg (CX (cpE e))):=by
 intro w
 induction w with
 | zero=>intro e h h1 _; have:=LW e; omega
 | succ w ih =>
   intro e h h1 h2
   have hlen:=RG e.args
   have hwt:=LW e
   refine PCall.res (r := .agg (cpW e)) ?_ (A3J e)
   refine ACalls.pure (R:=fun v H=>ext h H∧IL h.length H 4 v = .agg (cpW e)) 4 ?_ (fun v H ⟨a,b⟩=>⟨a,b⟩)
   refine acN Tryz.func102 rfl ?_
   show awp _ _ _ _ _ (EJ _ [.cell 2 48] _)
   have ge:=CP (x:=ABlk.live 4 [[.int .i64 0,.int .i64 0,.str ⟨#[]⟩,.sl .nil 0 []]]) (CZ h (ABlk.live 4 [CX e]))
   have g2:=CZ (h++[ABlk.live 4 [CX e]]) (ABlk.live 4 [[.int .i64 0,.int .i64 0,.str ⟨#[]⟩,.sl .nil 0 []]])
   have hx:ext h (h++[ABlk.live 4 [CX e]]++[ABlk.live 4 [[.int .i64 0,.int .i64 0,.str ⟨#[]⟩,.sl .nil 0 []]]]):=((ext.rfl' h).app _).app _
   have hb2:h.length < (h++[ABlk.live 4 [CX e]]).length:=by simp
   simp -implicitDefEqProofs only[vQ,BD,↓reduceIte,jB,enP,MK,bxE,VZ]
   generalize h++[ABlk.live 4 [CX e]]++[ABlk.live 4 [[.int .i64 0,.int .i64 0,.str ⟨#[]⟩,.sl .nil 0 []]]]=H0 at ge g2 hx ⊢
   generalize (h++[ABlk.live 4 [CX e]]).length=b2 at g2 hb2 ⊢
   have l2:=CB g2
   simp -implicitDefEqProofs only[vQ,BD,↓reduceIte,enP,SK,Rk.ldE' ge,jH]
   refine DK (fun n F H => ∃ k u,n+k=e.args.length∧F 1 = .ptr h.length 0 0∧F 2 = .ptr b2 0 0∧F 3=u∧F 7 = .sl e.m 4 (e.args.map CX)∧F 8 = .int .i64 (e.args.length:Nat)∧F 9 = .int .i64 (k:Nat)∧ext H0 H∧outG 4 CX H0 ((e.args.take k).map cpE) u H) e.args.length
    ⟨0,.sl .nil 0 [],by simp,by simp -implicitDefEqProofs only[AA,↓reduceIte,jB],by simp -implicitDefEqProofs only[AA,↓reduceIte,jB],by simp -implicitDefEqProofs only[AA,↓reduceIte,jB],by simp -implicitDefEqProofs only[AA,↓reduceIte,jB],by simp -implicitDefEqProofs only[AA,↓reduceIte,jB],by simp -implicitDefEqProofs only[AA,↓reduceIte] <;> rfl,ext.rfl' _,outG.nil _ _ _ _⟩ ?_
   rintro n F H ⟨k,u,hk,f1,f2,f3,f7,f8,f9,he,ho⟩
   simp -implicitDefEqProofs only[vQ,BD,↓reduceIte,enP,f8,f9]
   refine CU (fun hc => ?_) (fun hc => ?_)
   ·have hk':k < e.args.length:=by simpa using hc
    have hlt:=Rk.wt_arg hk'
    have he1:=he.app [ABlk.live 4 [CX e.args[k]]]
    have ho1:=ho.app [ABlk.live 4 [CX e.args[k]]]
    have gT:=ldE H e.args[k]
    simp -implicitDefEqProofs only[vQ,BD,↓reduceIte,jB,enP,WH,jT,f7,f9,DL hk',FM TQ LD GU hk',VZ,AFC _ _ [.int .i64 0,.int .i64 0,.str ⟨#[]⟩,.sl .nil 0 []] rfl,gT]
    generalize H++[ABlk.live 4 [CX e.args[k]]]=H1 at he1 ho1 ⊢
    refine(ih e.args[k] H1 (by omega) (by omega)).use ?_
    have hbs:EQ Tryz.prog false H1 46 1 [(0,.agg (CX (cpE e.args[k])))]=some (.sl .full 4 [CX (cpE e.args[k])],H1):=by
     rw[G9]; exact(by kernel_rfl:EQ Tryz.prog false H1 46 1 [(0,.agg [.int .i64 (cpE e.args[k]).op,.int .i64 (cpE e.args[k]).n,.str (cpE e.args[k]).name,.sl (cpE e.args[k]).m 4 ((cpE e.args[k]).args.map CX)])]=_)
    obtain⟨v',H2,ha,ho2,_,he2,_,_⟩:=ho1.append YF LD AE8 AFV (by omega) (by simp; omega) he1 (cpE e.args[k])
    have e3:(e.args.take k).map cpE++[cpE e.args[k]]=(e.args.take (k+1)).map cpE:=by rw[zL hk',List.map_append]; rfl
    rw[e3] at ho2
    simp -implicitDefEqProofs only[vQ,BD,↓reduceIte,jB,enP,f3,hbs,ha,f9,wrap_succ (show k < 9223372036854775807 by omega)]
    exact⟨n - 1,by omega,k+1,v',by omega,by first | exact True.intro | exact f1,by first | exact True.intro | exact f2,by first | exact True.intro | exact rfl,by first | exact True.intro | exact f7,by first | exact True.intro | exact f8,by first | exact True.intro | exact rfl,he2,ho2⟩
   ·have hk' : ¬ k < e.args.length:=by simpa using hc
    rw[jU (by omega)] at ho
    have ge1:=FK he ge
    have g21:=FK he g2
    have hle:=he.le
    have hlf:=ho.leaf
    have h0l:h.length < H0.length:=by omega
    have hst:FP Tryz.prog H 46 (.ptr h.length 0 3) u=some (H.set h.length (.live 4 [[.int .i64 e.op,.int .i64 e.n,.str e.name,u]])):=by
     rw[G9] at ge1
     rcases ho with⟨_,rfl⟩ | ⟨_,o,_,rfl,_⟩
     ·rw[NH (cs := [.sl .nil 0 []]) rfl (by kernel_rfl:szO Tryz.prog 46=some 1) ge1 (by simp)]; rfl
     ·rw[NH (cs := [.own o 0 _]) rfl (by kernel_rfl:szO Tryz.prog 46=some 1) ge1 (by simp)]; rfl
    have g1':(H.set h.length (.live 4 [[.int .i64 e.op,.int .i64 e.n,.str e.name,u]]))[h.length]? = some (.live 4 [[.int .i64 e.op,.int .i64 e.n,.str e.name,u]]):=EM ge1
    have g2':(H.set h.length (.live 4 [[.int .i64 e.op,.int .i64 e.n,.str e.name,u]]))[b2]? = _:=DT g21 (by omega)
    have ho3:outG 4 CX H0 (e.args.map cpE) u (H.set h.length (.live 4 [[.int .i64 e.op,.int .i64 e.n,.str e.name,u]])):=ho.setB h0l _
    have hx3:ext h (H.set h.length (.live 4 [[.int .i64 e.op,.int .i64 e.n,.str e.name,u]])):=(hx.trans he).set (jL _) _
    simp -implicitDefEqProofs only[vQ,BD,↓reduceIte,jB,enP,MK,jT,f1,f2,f3,hst]
    generalize H.set h.length (.live 4 [[.int .i64 e.op,.int .i64 e.n,.str e.name,u]])=H3 at g1' g2' ho3 hx3 ⊢
    have hlf4:([.int .i64 e.op,.int .i64 e.n,.str e.name,u]:List AV).all AV.leaf=true:=by simp [hlf]; exact⟨rfl,rfl,rfl⟩
    simp -implicitDefEqProofs only[vQ,BD,↓reduceIte,jB,enP,jT,f1,f2,RQ g1' rfl,AF9 g2' rfl rfl hlf4]
    rw[X3 (b:=b2) (by simp -implicitDefEqProofs only[AA,↓reduceIte,jB,f2]) (RQ (EM g2') rfl)]
    refine⟨hx3.set (by omega) _,?_⟩
    have ho4:=ho3.setB (b:=b2) l2 (.live 4 [[.int .i64 e.op,.int .i64 e.n,.str e.name,u]])
    have hz:=Y0 ALN ho4 h.length 1 (by have:=hx.le; omega)
    show AV.agg [.int .i64 e.op,.int .i64 e.n,.str e.name,IL h.length _ 3 u] = .agg (cpW e)
    rw[hz]; rfl
abbrev It:=Sum Ex Int
def AQQ:It→List AV
 | .inl e=>CX e
 | .inr n=>AEH 1 n
def AZK:It→Ex
 | .inl e=>e
 | .inr n=>cE n
theorem AVP : ∀ x:It,CvRow (AQQ x) (CX (AZK x))
 | .inl e=>by
   show CvRow (CX e) (CX e)
   rw[G9]
   exact CvRow.cons rfl (Cv.refl _) (CvRow.cons rfl (Cv.refl _) (CvRow.cons rfl (Cv.refl _) (CvRow.cons rfl (Cv.refl _) CvRow.nil)))
 | .inr n=>A0M n
theorem A46:Frz AQQ:=fun n h d x=>by
 cases x with
 | inl e=>exact ALN n h d e
 | inr k=>exact⟨rfl,rfl⟩
def ALC (l:List Rng):List It:=l.flatMap fun r => [.inr r.lo,.inr r.hi]
def WX (e:Ex)(l:List Rng):List It := .inl e :: ALC l
def J9 (e:Ex)(l:List Rng):Ex := .mk 23 0 ⟨#[]⟩ .any ((WX e l).map AZK)
def insW (e:Ex)(l:List Rng):List AV := [.int .i64 23,.int .i64 0,.str ⟨#[]⟩,.sl .any 4 ((WX e l).map AQQ)]
theorem AZL (e:Ex)(l:List Rng):CvR (.agg (insW e l)) (.agg (CX (J9 e l))):=by
 rw[G9]
 show CvR _ (.agg [.int .i64 23,.int .i64 0,.str ⟨#[]⟩,.sl .any 4 (((WX e l).map AZK).map CX)])
 rw[List.map_map]
 exact CvR.agg (CvRL.cons (CvR.refl _) (CvRL.cons (CvR.refl _) (CvRL.cons (CvR.refl _) (CvRL.cons (CvR.sl (Cv.map fun x _=>AVP x)) CvRL.nil))))
theorem ASL {l:List Rng}{k:Nat}(hk:k < l.length):ALC (l.take (k+1))=ALC (l.take k)++[.inr l[k].lo,.inr l[k].hi]:=by
 unfold ALC
 rw[zL hk,List.flatMap_append]
 rfl
theorem AGW (a:Rng)(l:List Rng):ALC (a :: l) = .inr a.lo :: .inr a.hi :: ALC l:=rfl
theorem ALB : ∀ l:List Rng,(ALC l).length=2 * l.length
 | []=>rfl
 | a :: l=>by
   rw[AGW,zT,zT,ALB l,zT]; omega
theorem A0Q (h:Hp)(a b:Int)(s:ByteArray)(m:SM)(xs:List (List AV)):EQ Tryz.prog true h 46 1 [(0,.agg [.int .i64 a,.int .i64 b,.str s,.sl m 4 xs])]=some (.own h.length 0 1,h++[ABlk.live 4 [[.int .i64 a,.int .i64 b,.str s,.sl m 4 xs]]]):=by kernel_rfl
theorem A1U (h:Hp)(e:Ex):EQ Tryz.prog true h 46 1 [(0,.agg (CX e))]=some (.own h.length 0 1,h++[ABlk.live 4 [CX e]]):=by
 rw[G9]; exact A0Q h _ _ _ _ _
theorem A0R (h:Hp)(a b:Int):EQ Tryz.prog false h 46 2 [(0,.agg (AEH 1 a)),(1,.agg (AEH 1 b))]=some (.sl .full 4 [AEH 1 a,AEH 1 b],h):=by kernel_rfl
theorem A10 (o n:Nat):KZ Tryz.prog 48 [(0,.int .i64 23),(3,.own o 0 n)]=some (.agg [.int .i64 23,.int .i64 0,.str ⟨#[]⟩,.own o 0 n]):=by kernel_rfl
structure Iw (h0 h H:Hp) (e:Ex) (l:List Rng) (b4 cb:Nat) (v:AV):Prop where
 ge:H[h0.length]? = some (ABlk.live 4 [CX e])
 g4:H[b4]? = some (ABlk.live 4 [[.int .i64 0,.int .i64 0,.str ⟨#[]⟩,.sl .nil 0 []]])
 gc:H[cb]? = some (ABlk.live 4 [[.int .i64 23,.int .i64 0,.str ⟨#[]⟩,v]])
 ho:outG 4 AQQ h (WX e l) v H
 hx:ext h H
 ne : ∀ b,isB v b→b≠cb
theorem A6Z {H:Hp}{cb:Nat}{v:AV}(gc:H[cb]? = some (ABlk.live 4 [[.int .i64 23,.int .i64 0,.str ⟨#[]⟩,v]])):D5 Tryz.prog H 46 (.ptr cb 0 3)=some v:=by
 rw[DU PX gc (row := [.int .i64 23,.int .i64 0,.str ⟨#[]⟩,v]) rfl]; rfl
set_option maxHeartbeats 2000000 in
theorem AA7 (G:Nat→AV)(e:Ex)(l:List Rng)(s:SM)(hl:l.length≤1048576)(h:Hp):PCall (En G) 152 [.agg (CX e),.sl s 2 (l.map encR)] h (.agg (CX (J9 e l))):=by
 refine PCall.res (r := .agg (insW e l)) ?_ (AZL e l)
 refine ACalls.pure (R:=fun v H=>ext h H∧IL h.length H 4 v = .agg (insW e l)) 4 ?_ (fun v H ⟨a,b⟩=>⟨a,b⟩)
 refine KW (H:=hint [8,31] []) (enM G) Tryz.func152 rfl (by kernel_rfl) (by kernel_rfl) (jI (by kernel_rfl)) ?_
 show awp _ _ _ _ _ (EJ _ [.cell 4 48] _)
 have ge:=CP (x:=ABlk.live 4 [[.int .i64 0,.int .i64 0,.str ⟨#[]⟩,.sl .nil 0 []]]) (CZ h (ABlk.live 4 [CX e]))
 have g4:=CZ (h++[ABlk.live 4 [CX e]]) (ABlk.live 4 [[.int .i64 0,.int .i64 0,.str ⟨#[]⟩,.sl .nil 0 []]])
 have hx:ext h (h++[ABlk.live 4 [CX e]]++[ABlk.live 4 [[.int .i64 0,.int .i64 0,.str ⟨#[]⟩,.sl .nil 0 []]]]):=((ext.rfl' h).app _).app _
 have hb4:h.length < (h++[ABlk.live 4 [CX e]]).length:=by simp
 simp -implicitDefEqProofs only[vQ,jR,jJ,jK,jQ,BD,↓reduceIte,jB,enP,bxE,VZ]
 generalize h++[ABlk.live 4 [CX e]]++[ABlk.live 4 [[.int .i64 0,.int .i64 0,.str ⟨#[]⟩,.sl .nil 0 []]]]=H0 at ge g4 hx ⊢
 generalize (h++[ABlk.live 4 [CX e]]).length=b4 at g4 hb4 ⊢
 have l4:=CB g4
 have hle:=hx.le
 have le0:D5 Tryz.prog H0 48 (.ptr h.length 0 0)=some (.agg (CX e)):=RQ ge (GU e)
 have gc0:(H0++[ABlk.live 4 [CX e]]++[ABlk.live 4 [[.int .i64 0,.int .i64 0,.str ⟨#[]⟩,.sl .nil 0 []]]])[(H0++[ABlk.live 4 [CX e]]).length]? = some (ABlk.live 4 [[.int .i64 0,.int .i64 0,.str ⟨#[]⟩,.sl .nil 0 []]]):=CZ _ _
 have sc0:=AF9 (cs := [.int .i64 23,.int .i64 0,.str ⟨#[]⟩,.own H0.length 0 1]) gc0 rfl rfl rfl
 have I0:Iw h H0 ((H0++[ABlk.live 4 [CX e]]++[ABlk.live 4 [[.int .i64 0,.int .i64 0,.str ⟨#[]⟩,.sl .nil 0 []]]]).set (H0++[ABlk.live 4 [CX e]]).length (.live 4 [[.int .i64 23,.int .i64 0,.str ⟨#[]⟩,.own H0.length 0 1]])) e (l.take 0) b4 (H0++[ABlk.live 4 [CX e]]).length (.own H0.length 0 1) :=
  ⟨DT (CP (CP ge)) (by simp; omega),DT (CP (CP g4)) (by simp; omega),EM gc0,
   .inr ⟨by rw[qG]; exact List.cons_ne_nil _ _,H0.length,jL _,rfl,DT (CP (CZ _ _)) (by simp)⟩,
   (((ext.rfl' H0).app _).app _).set (by simp) _,fun b hb=>by cases hb; simp⟩
 simp -implicitDefEqProofs only[vQ,jR,jJ,jK,jQ,BD,↓reduceIte,jB,enP,jT,le0,A1U,A10,VZ,sc0]
 generalize ((H0++[ABlk.live 4 [CX e]]++[ABlk.live 4 [[.int .i64 0,.int .i64 0,.str ⟨#[]⟩,.sl .nil 0 []]]]).set (H0++[ABlk.live 4 [CX e]]).length (.live 4 [[.int .i64 23,.int .i64 0,.str ⟨#[]⟩,.own H0.length 0 1]]))=H1 at I0 ⊢
 have hcb:H0.length < (H0++[ABlk.live 4 [CX e]]).length:=by simp
 generalize (H0++[ABlk.live 4 [CX e]]).length=cb at I0 hcb ⊢
 generalize AV.own H0.length 0 1=v0 at I0
 refine DK (fun n F H => ∃ k v,n+k=l.length∧F 1 = .sl s 2 (l.map encR)∧F 4 = .ptr b4 0 0∧F 5 = .ptr cb 0 0∧F 6 = .int .i64 (k:Nat)∧Iw h H0 H e (l.take k) b4 cb v) l.length
  ⟨0,v0,by simp,by simp -implicitDefEqProofs only[vQ,↓reduceIte,jB],by simp -implicitDefEqProofs only[AA,↓reduceIte,jB],by simp -implicitDefEqProofs only[AA,↓reduceIte,jB],by simp -implicitDefEqProofs only[AA,↓reduceIte] <;> rfl,I0⟩ ?_
 clear I0
 rintro n F H ⟨k,v,hk,f1,f4,f5,f6,I⟩
 simp -implicitDefEqProofs only[vQ,jR,jJ,jK,jQ,BD,↓reduceIte,jB,enP,L8,f1,f6,jH]
 refine CU (fun hc => ?_) (fun hc => ?_)
 ·have hk':k < l.length:=by simpa using hc
  have hlen:(WX e (l.take k)).length+2≤8388608:=by
   unfold WX
   rw[zT,ALB,zF]; omega
  obtain⟨v',H2,ha,ho2,hkeep,he2,hl2,hv2⟩:=QM .full I.ho YF LD AE8 AFV (by omega) (ys := [.inr l[k].lo,.inr l[k].hi]) hlen I.hx
  have ha':FZ Tryz.prog true H 46 46 v (.sl .full 4 [AEH 1 l[k].lo,AEH 1 l[k].hi])=some (v',H2):=ha
  have hits:WX e (l.take k)++[.inr l[k].lo,.inr l[k].hi]=WX e (l.take (k+1)):=by
   unfold WX
   rw[ASL hk']; rfl
  rw[hits] at ho2
  have lcb:=CB I.gc
  have gc2:=hkeep _ _ I.gc (fun q=>I.ne _ q rfl)
  have nlo : ∀ b,isB v b→H0.length≤b:=fun b hb=>(I.ho.lt hb).1
  have ge2:=hkeep _ _ I.ge (fun q=>by have:=nlo _ q; omega)
  have g42:=hkeep _ _ I.g4 (fun q=>by have:=nlo _ q; omega)
  have hlf:=ho2.leaf
  have hst:FP Tryz.prog H2 46 (.ptr cb 0 3) v'=some (H2.set cb (.live 4 [[.int .i64 23,.int .i64 0,.str ⟨#[]⟩,v']])):=by
   rcases ho2 with⟨e1,_⟩ | ⟨_,o,_,rfl,_⟩
   ·exact absurd e1 (List.cons_ne_nil _ _)
   ·rw[NH (cs := [.own o 0 _]) rfl (by kernel_rfl:szO Tryz.prog 46=some 1) gc2 (by simp)]; rfl
  have hv2' : ∀ b,isB v' b→b≠cb:=fun b hb=>by
   rcases hv2 b hb with q | q
   ·exact I.ne b q
   ·omega
  have I2:Iw h H0 (H2.set cb (.live 4 [[.int .i64 23,.int .i64 0,.str ⟨#[]⟩,v']])) e (l.take (k+1)) b4 cb v' :=
   ⟨DT ge2 (by omega),DT g42 (by omega),EM gc2,ho2.keep (fun b hb=>by rw[List.getElem?_set_ne (fun q=>hv2' b hb q.symm)]),he2.set (by omega) _,hv2'⟩
  simp -implicitDefEqProofs only[vQ]
  refine ET (by kernel_rfl) ?_
  simp -implicitDefEqProofs only[vQ,jR,jJ,jK,jQ,wZ,MC,YA,IC,LC,BD,↓reduceIte,jB,jP,enP,MK,TF,OT,NU,jT,f1,f5,f6,A6Z I.gc,DL hk',C9 ag3 hk',P7,O5,A11,A0R,ha',hst,wrap_succ (show k < 9223372036854775807 by omega)]
  exact⟨n - 1,by omega,k+1,v',by omega,by first | exact True.intro | exact f1,by first | exact True.intro | exact f4,by first | exact True.intro | exact f5,by first | exact True.intro | exact rfl,I2⟩
 ·have hk' : ¬ k < l.length:=by simpa using hc
  rw[jU (by omega)] at I
  have hlf:=I.ho.leaf
  have hlf4:([.int .i64 23,.int .i64 0,.str ⟨#[]⟩,v]:List AV).all AV.leaf=true:=by simp [hlf]; exact⟨rfl,rfl,rfl⟩
  simp -implicitDefEqProofs only[vQ,jR,jJ,jK,jQ,BD,↓reduceIte,jB,enP,jT,f4,f5,RQ I.gc rfl,AF9 I.g4 rfl rfl hlf4]
  rw[X3 (b:=b4) (by simp -implicitDefEqProofs only[AA,↓reduceIte,jB,f4]) (RQ (EM I.g4) rfl)]
  refine⟨(hx.trans I.hx).set (by omega) _,?_⟩
  have ho4:=I.ho.setB (b:=b4) l4 (.live 4 [[.int .i64 23,.int .i64 0,.str ⟨#[]⟩,v]])
  have hz:=Y0 A46 ho4 h.length 1 (by omega)
  show AV.agg [.int .i64 23,.int .i64 0,.str ⟨#[]⟩,IL h.length _ 3 v] = .agg (insW e l)
  rw[hz]; rfl
theorem AYH {P:Program}{t e:TypeId}{k:Nat}(hu:P.underlying t=some (.slice e))(hs:szO P e=some k){h:Hp}{m:SM}{xs:List (List AV)}{l u:Nat}(h1:l≤u)(h2:u≤xs.length) :
  JY P h t (.sl m k xs) (some (.int .i64 (l:Int))) (some (.int .i64 (u:Int))) none=some (.sl (AS8 m u xs.length) k ((xs.drop l).take (u - l))):=by
 have b1:IB (some (.int .i64 (u:Int))) (some xs.length)=some u:=by simp [IB]
 have b2:IB (some (.int .i64 (l:Int))) (some 0)=some l:=by simp [IB]
 simp only[JY,hu,b1,b2,hs,true_and]
 rw[if_pos ⟨h1,h2⟩]
 cases m <;> simp [AS8]
def orE (a b:Ex):Ex := .mk 20 0 ⟨#[]⟩ .full [a,b]
def AGP (e:Ex)(l:List Rng):Nat→Nat→Ex→Ex
 | 0,_,out=>out
 | f+1,i,out=>if i < l.length then AGP e l f (i+16) (orE out (J9 e ((l.drop i).take (min l.length (i+16) - i)))) else out
def PM (e:Ex)(l:List Rng):Ex:=AGP e l l.length 16 (J9 e (l.take (min l.length 16)))
theorem ASA {e:Ex}{l:List Rng}{n i:Nat}{out:Ex}(h : ¬ i < l.length):AGP e l n i out=out:=by
 cases n with
 | zero=>rfl
 | succ n=>show(if i < l.length then _ else out)=out; rw[if_neg h]
theorem AO5 (h:Hp)(a b:Ex):EQ Tryz.prog false h 46 2 [(0,.agg (CX a)),(1,.agg (CX b))]=some (.sl .full 4 [CX a,CX b],h):=by
 rw[G9 a,G9 b]
 generalize a.args.map CX=xs
 generalize b.args.map CX=ys
 kernel_rfl
theorem A1Y (xs:List (List AV)):KZ Tryz.prog 48 [(0,.int .i64 20),(3,.sl .full 4 xs)]=some (.agg [.int .i64 20,.int .i64 0,.str ⟨#[]⟩,.sl .full 4 xs]):=by kernel_rfl
theorem AP8 (a b:Ex):CX (orE a b) = [.int .i64 20,.int .i64 0,.str ⟨#[]⟩,.sl .full 4 [CX a,CX b]]:=by rw[G9]; rfl
theorem UE (xs:List Rng):(normal xs).length≤xs.length:=by
 unfold normal WA
 have h1:=V9 ((xs.filter full).mergeSort AAM) []
 have h2:=List.length_filter_le full xs
 rw[List.length_mergeSort] at h1
 simp only[List.length_nil,jG] at h1
 omega
theorem AK0 (G:Nat→AV)(xs:List Rng)(m:SM)(h:Hp)(hl:xs.length≤8388608):PCall (En G) 151 [.sl m 2 (xs.map encR)] h (.sl (Bins.nm (normal xs)) 2 ((normal xs).map encR)):=AGL (AK1 G xs m h hl)
structure Io (h H:Hp) (e out:Ex) (b4 cb:Nat):Prop where
 ge:H[h.length]? = some (ABlk.live 4 [CX e])
 g4:H[b4]? = some (ABlk.live 4 [[.int .i64 0,.int .i64 0,.str ⟨#[]⟩,.sl .nil 0 []]])
 gc:H[cb]? = some (ABlk.live 4 [CX out])
 o4:h.length < b4
 oc:b4 < cb
 hx:ext h H
theorem ABP {H:Hp}{b:Nat}{e:Ex}(hb:H[b]? = some (.live 4 [CX e])):D5 Tryz.prog H 48 (.ptr b 0 0)=some (.agg (CX e)):=RQ hb (GU e)
theorem AJX {H:Hp}{b:Nat}{row:List AV}{e:Ex}(hb:H[b]? = some (.live 4 [row]))(hr:row.length=4):FP Tryz.prog H 48 (.ptr b 0 0) (.agg (CX e))=some (H.set b (.live 4 [CX e])):=AF9 hb hr (GU e) (AAH e)
set_option maxHeartbeats 2000000 in
theorem X8 (G:Nat→AV)(e:Ex)(xs:List Rng)(s:SM)(hl:xs.length≤1048576)(h:Hp):PCall (En G) 108 [.agg (CX e),.sl s 2 (xs.map encR)] h (.agg (CX (PM e (normal xs)))):=by
 refine ACalls.pure (R:=fun v H=>ext h H∧IL h.length H 3 v = .agg (CX (PM e (normal xs)))) 3 ?_ (fun v H ⟨a,b⟩=>⟨a,b⟩)
 refine KW (H:=hint [17,33] []) (enM G) Tryz.func108 rfl (by kernel_rfl) (by kernel_rfl) (jI (by kernel_rfl)) ?_
 show awp _ _ _ _ _ (EJ _ [.cell 4 48] _)
 have ge:=CP (x:=ABlk.live 4 [[.int .i64 0,.int .i64 0,.str ⟨#[]⟩,.sl .nil 0 []]]) (CZ h (ABlk.live 4 [CX e]))
 have g4:=CZ (h++[ABlk.live 4 [CX e]]) (ABlk.live 4 [[.int .i64 0,.int .i64 0,.str ⟨#[]⟩,.sl .nil 0 []]])
 have hx:ext h (h++[ABlk.live 4 [CX e]]++[ABlk.live 4 [[.int .i64 0,.int .i64 0,.str ⟨#[]⟩,.sl .nil 0 []]]]):=((ext.rfl' h).app _).app _
 have hb4:h.length < (h++[ABlk.live 4 [CX e]]).length:=by simp
 simp -implicitDefEqProofs only[vQ,jR,jJ,jK,jQ,BD,↓reduceIte,jB,enP,bxE,VZ]
 generalize h++[ABlk.live 4 [CX e]]++[ABlk.live 4 [[.int .i64 0,.int .i64 0,.str ⟨#[]⟩,.sl .nil 0 []]]]=H0 at ge g4 hx ⊢
 generalize (h++[ABlk.live 4 [CX e]]).length=b4 at g4 hb4 ⊢
 have l4:=CB g4
 refine(AK0 G xs s H0 (by omega)).use ?_
 have hnl:=UE xs
 generalize normal xs=L at hnl ⊢
 generalize Bins.nm L=sL
 have e1:min ((L.length:Nat):Int) 16=((min L.length 16:Nat):Int):=by omega
 have hs1 : ∀ H:Hp,JY Tryz.prog H 53 (.sl sL 2 (L.map encR)) none (some (.int .i64 ((min L.length 16:Nat):Int))) none=some (.sl (AS8 sL (min L.length 16) L.length) 2 ((L.take (min L.length 16)).map encR)):=fun H=>by
  have:=A4E WF NG (h:=H) (m:=sL) (kk := .i64) (xs:=L.map encR) (u:=min L.length 16) (by simp; omega)
  rw[← List.map_take,jH] at this
  exact this
 have I0:Io h (H0++[ABlk.live 4 [CX (J9 e (L.take (min L.length 16)))]]) e (J9 e (L.take (min L.length 16))) b4 H0.length:=⟨CP ge,CP g4,CZ _ _,hb4,l4,hx.app _⟩
 have st0:=AFC H0 (J9 e (L.take (min L.length 16))) [.int .i64 0,.int .i64 0,.str ⟨#[]⟩,.sl .nil 0 []] rfl
 simp -implicitDefEqProofs only[vQ,jR,jJ,jK,jQ,BD,↓reduceIte]
 refine ET (by kernel_rfl) ?_
 simp -implicitDefEqProofs only[vQ,wK,Option.map_none,jR,jJ,jK,jQ,APP,AHQ,AHE,QB,AF1,ZX,↓reduceIte,jB,jP,enP,L8,ABP ge,jH,e1,hs1]
 refine⟨_,fun x=>AA7 G e (L.take (min L.length 16)) _ (by rw[zF]; omega) _,?_⟩
 try simp -implicitDefEqProofs only[vQ,jR,jJ,jK,jQ,MC,LC,BD,↓reduceIte,jB,enP,jT,VZ,st0]
 generalize H0++[ABlk.live 4 [CX (J9 e (L.take (min L.length 16)))]]=H1 at I0 ⊢
 generalize H0.length=cb at I0 ⊢
 clear st0 ge g4 hx l4
 refine DK (fun n F H => ∃ i out,L.length≤i+n∧i≤1048608∧F 2 = .ptr h.length 0 0∧F 4 = .ptr b4 0 0∧F 5 = .sl sL 2 (L.map encR)∧F 6 = .ptr cb 0 0∧F 7 = .int .i64 (i:Nat)∧Io h H e out b4 cb∧PM e L=AGP e L n i out) L.length
  ⟨16,_,by omega,by omega,by simp -implicitDefEqProofs only[AA,↓reduceIte,jB],by simp -implicitDefEqProofs only[AA,↓reduceIte,jB],by simp -implicitDefEqProofs only[AA,↓reduceIte,jB],by simp -implicitDefEqProofs only[AA,↓reduceIte,jB],by simp -implicitDefEqProofs only[AA,↓reduceIte] <;> rfl,I0,rfl⟩ ?_
 clear I0
 rintro n F H ⟨i,out,hi,hib,f2,f4,f5,f6,f7,I,hr⟩
 simp -implicitDefEqProofs only[vQ,jR,jJ,jK,jQ,BD,↓reduceIte,jB,enP,L8,f5,f7,jH]
 refine CU (fun hc => ?_) (fun hc => ?_)
 ·have hi':i < L.length:=by simpa using hc
  obtain⟨n',rfl⟩ : ∃ n',n=n'+1:=⟨n - 1,by omega⟩
  have hr2:PM e L=AGP e L n' (i+16) (orE out (J9 e ((L.drop i).take (min L.length (i+16) - i)))):=by
   rw[hr]
   show(if i < L.length then _ else _)=_
   rw[if_pos hi']
  have w1:IntKind.i64.wrap (((i:Nat):Int)+16)=((i+16:Nat):Int):=by rw[wrap_i64 (by omega) (by omega)]; omega
  have e2:min ((L.length:Nat):Int) ((i+16:Nat):Int)=((min L.length (i+16):Nat):Int):=by omega
  have hs2 : ∀ H:Hp,JY Tryz.prog H 53 (.sl sL 2 (L.map encR)) (some (.int .i64 (i:Nat))) (some (.int .i64 ((min L.length (i+16):Nat):Int))) none=some (.sl (AS8 sL (min L.length (i+16)) L.length) 2 (((L.drop i).take (min L.length (i+16) - i)).map encR)):=fun H=>by
   have:=AYH WF NG (h:=H) (m:=sL) (xs:=L.map encR) (l:=i) (u:=min L.length (i+16)) (by omega) (by simp; omega)
   rw[← List.map_drop,← List.map_take,jH] at this
   exact this
  have hml:((L.drop i).take (min L.length (i+16) - i)).length≤1048576:=by rw[zF,List.length_drop]; omega
  generalize (L.drop i).take (min L.length (i+16) - i)=M at hr2 hs2 hml
  have oc:=I.oc
  have o4:=I.o4
  have lcb:=CB I.gc
  have gc2:=CP (x:=ABlk.live 4 [CX (J9 e M)]) I.gc
  have gT:=ABP (CZ H (ABlk.live 4 [CX (J9 e M)]))
  have st2:=AFC H (J9 e M) [.int .i64 0,.int .i64 0,.str ⟨#[]⟩,.sl .nil 0 []] rfl
  have st3:FP Tryz.prog (H++[ABlk.live 4 [CX (J9 e M)]]) 48 (.ptr cb 0 0) (.agg [.int .i64 20,.int .i64 0,.str ⟨#[]⟩,.sl .full 4 [CX out,CX (J9 e M)]])=some ((H++[ABlk.live 4 [CX (J9 e M)]]).set cb (.live 4 [CX (orE out (J9 e M))])):=by
   have:=AJX (e:=orE out (J9 e M)) gc2 (GU _)
   rw[AP8] at this ⊢
   exact this
  have I2:Io h ((H++[ABlk.live 4 [CX (J9 e M)]]).set cb (.live 4 [CX (orE out (J9 e M))])) e (orE out (J9 e M)) b4 cb:=⟨DT (CP I.ge) (by omega),DT (CP I.g4) (by omega),EM gc2,o4,oc,(I.hx.app _).set (by omega) _⟩
  simp -implicitDefEqProofs only[vQ]
  refine ET (by kernel_rfl) ?_
  simp -implicitDefEqProofs only[vQ,wK,Option.map_none,jR,jJ,jK,jQ,wZ,APP,AHQ,AHE,QB,AF1,ZX,↓reduceIte,jB,jP,enP,L8,f2,f5,f7,ABP I.ge,jH,w1,e2,hs2]
  refine⟨_,fun x=>AA7 G e M _ hml _,?_⟩
  try simp -implicitDefEqProofs only[vQ,jR,jJ,jK,jQ,MC,LC,BD,↓reduceIte,jB,enP,jT,VZ,st2,f6,ABP gc2,gT,AO5,A1Y,st3,f7,w1]
  exact⟨n',by omega,i+16,_,by omega,by omega,by first | exact True.intro | exact f2,by first | exact True.intro | exact f4,by first | exact True.intro | exact f5,by first | exact True.intro | exact f6,by first | exact True.intro | exact rfl,I2,hr2⟩
 ·have hi' : ¬ i < L.length:=by simpa using hc
  rw[ASA hi'] at hr
  have o4:=I.o4
  simp -implicitDefEqProofs only[vQ,jR,jJ,jK,jQ,BD,↓reduceIte,jB,enP,jT,f4,f6,ABP I.gc,AJX I.g4 rfl]
  rw[X3 (b:=b4) (by simp -implicitDefEqProofs only[AA,↓reduceIte,jB,f4]) (ABP (EM I.g4))]
  refine⟨I.hx.set (by omega) _,?_⟩
  rw[hr,G9]
  rfl
end Go.Proofs.YtfpagfhhhlljjaaGreatDoor.Ho
set_option linter.unusedSimpArgs false
set_option maxRecDepth 8000
namespace Go.Proofs.YtfpagfhhhlljjaaGreatDoor.Ho
open Sm Bins Cov Wd Xe Go.RowKit
section
variable (G:Nat→AV)
end
structure Xs where
 m:SM
 l:List Ex
def UU (x:Xs):List AV := [.sl x.m 4 (x.l.map CX)]
theorem AOQ (x:Xs):(UU x)[0]? = some (.sl x.m 4 (x.l.map CX)):=rfl
section
variable (G:Nat→AV)
end
end Go.Proofs.YtfpagfhhhlljjaaGreatDoor.Ho
set_option linter.unusedSimpArgs false
set_option maxRecDepth 8000
namespace Go.Proofs.YtfpagfhhhlljjaaGreatDoor.Ho
open Sm Bins Cov Go.RowKit
open Bool renaming not_false→jC,not_true→jV
open List renaming map_cons→jD,map_nil→jE,length_map→jH,getElem?_map→jY,getElem?_eq_getElem→jO
open Nat renaming le_of_ble_eq_true→jI,reduceEqDiff→jB,add_zero→jM,zero_add→jG
open Option renaming getD_some→jA
section
variable (G:Nat→AV)
theorem AKQ (m:Mo)(x:Hl)(hc:x.cross=true)(i:Nat)(hi:i < m.crs.length)(hz:x.idx=(i:Int))(h:Hp):PCall (En G) 32 [.agg (EE m),.agg (IP x)] h (.sl m.crs[i].pm 1 (m.crs[i].pts.map qencI)):=by
 refine ACalls.pure0 rfl ?_
 refine acN Tryz.func32 rfl ?_
 show awp _ _ _ _ _ (EJ _ [.tmp 4] _)
 have t:=Hb.mk' h m x
 simp -implicitDefEqProofs only[vQ,BD,↓reduceIte,jB,enP,UK,bxM,bxH]
 generalize h++[ABlk.live 2 [EE m]]++[ABlk.live 3 [IP x]]=H at t ⊢
 generalize (h++[ABlk.live 2 [EE m]]).length=hb at t ⊢
 have l0:=AK9 t.gh
 have l1:=ABO t.gh
 rw[hc] at l0
 rw[hz] at l1
 simp -implicitDefEqProofs only[vQ,BD,↓reduceIte,jB,enP,QU,JS,LJ,JO,l0,l1,VM t.gm,DL hi,C9 MG hi,PU]
 exact⟨by first | exact True.intro | exact rfl,t.hx⟩
theorem AKP (m:Mo)(x:Hl)(hc:x.cross=false)(h:Hp):PCall (En G) 32 [.agg (EE m),.agg (IP x)] h (.sl .full 1 ([x.idx].map qencI)):=by
 refine ACalls.pure0 rfl ?_
 refine acN Tryz.func32 rfl ?_
 show awp _ _ _ _ _ (EJ _ [.tmp 4] _)
 have t:=Hb.mk' h m x
 simp -implicitDefEqProofs only[vQ,BD,↓reduceIte,jB,enP,UK,bxM,bxH]
 generalize h++[ABlk.live 2 [EE m]]++[ABlk.live 3 [IP x]]=H at t ⊢
 generalize (h++[ABlk.live 2 [EE m]]).length=hb at t ⊢
 have l0:=AK9 t.gh
 rw[hc] at l0
 simp -implicitDefEqProofs only[vQ,BD,↓reduceIte,jB,enP,LJ,l0,ABO t.gh,AO4]
 exact⟨by first | exact True.intro | exact rfl,t.hx⟩
end
theorem lx0 {H:Hp}{b:Nat}{e:Ex}(hb:H[b]? = some (.live 4 [CX e])):D5 Tryz.prog H 3 (.ptr b 0 0)=some (.int .i64 e.op):=by rw[DU ag3 hb (row:=CX e) rfl,G9]; rfl
theorem lx1 {H:Hp}{b:Nat}{e:Ex}(hb:H[b]? = some (.live 4 [CX e])):D5 Tryz.prog H 3 (.ptr b 0 1)=some (.int .i64 e.n):=by rw[DU ag3 hb (row:=CX e) rfl,G9]; rfl
theorem lx2 {H:Hp}{b:Nat}{e:Ex}(hb:H[b]? = some (.live 4 [CX e])):D5 Tryz.prog H 9 (.ptr b 0 2)=some (.str e.name):=by rw[DU ag9 hb (row:=CX e) rfl,G9]; rfl
theorem AWL {a b:Ex}(h:cpE a=cpE b):a.op=b.op∧a.n=b.n∧a.name=b.name∧a.args.map cpE=b.args.map cpE:=by
 rw[Q3 a,Q3 b] at h
 injection h with h1 h2 h3 _ h5
 exact⟨h1,h2,h3,h5⟩
set_option maxHeartbeats 1000000 in
theorem ANN (G:Nat→AV) : ∀ (w:Nat) (a b:Ex) (h:Hp),wt a≤w→wt a≤274877906944→cpE a=cpE b→PCall (En G) 41 [.agg (CX a),.agg (CX b)] h (.bool true):=by
 intro w
 induction w with
 | zero=>intro a b h h1 _ _; have:=LW a; omega
 | succ w ih =>
   intro a b h h1 h2 hcp
   obtain⟨p1,p2,p3,p4⟩:=AWL hcp
   have hlen:=RG a.args
   have hwt:=LW a
   have hll:a.args.length=b.args.length:=by have:=congrArg List.length p4; simpa using this
   refine ACalls.pure0 rfl ?_
   refine acN Tryz.func41 rfl ?_
   show awp _ _ _ _ _ (EJ _ [.tmp 4] _)
   have ga:=CP (x:=ABlk.live 4 [CX b]) (CZ h (ABlk.live 4 [CX a]))
   have gb:=CZ (h++[ABlk.live 4 [CX a]]) (ABlk.live 4 [CX b])
   have hx:ext h (h++[ABlk.live 4 [CX a]]++[ABlk.live 4 [CX b]]):=((ext.rfl' h).app _).app _
   simp -implicitDefEqProofs only[vQ,BD,↓reduceIte,jB,enP,JE,bxE]
   generalize h++[ABlk.live 4 [CX a]]++[ABlk.live 4 [CX b]]=H at ga gb hx ⊢
   generalize (h++[ABlk.live 4 [CX a]]).length=bb at gb ⊢
   simp -implicitDefEqProofs only[vQ,CO,BD,ZE,↓reduceIte,jB,jV,enP,SK,JE,AAC,MP,MK,lx0 ga,lx0 gb,lx1 ga,lx1 gb,lx2 ga,lx2 gb,Rk.ldE' ga,Rk.ldE' gb,jH,p1,p2,p3,hll,bne,beq_self_eq_true]
   refine DK (fun n F H' => ∃ k,n+k=a.args.length∧F 2 = .ptr h.length 0 0∧F 3 = .ptr bb 0 0∧F 5 = .int .i64 (k:Nat)∧H'=H) a.args.length ⟨0,by simp,by simp -implicitDefEqProofs only[AA,↓reduceIte,jB],by simp -implicitDefEqProofs only[AA,↓reduceIte,jB],by simp -implicitDefEqProofs only[AA,↓reduceIte] <;> rfl,rfl⟩ ?_
   rintro n F H' ⟨k,hk,f2,f3,f5,rfl⟩
   simp -implicitDefEqProofs only[vQ,BD,↓reduceIte,jB,enP,SK,MK,f2,f5,Rk.ldE' ga,jH]
   refine CU (fun hc => ?_) (fun hc => ?_)
   ·have hk':k < a.args.length:=by simpa using hc
    have hkb:k < b.args.length:=by omega
    have hlt:=Rk.wt_arg hk'
    have hce:cpE a.args[k]=cpE b.args[k]:=by
     have e1:(a.args.map cpE)[k]? = (b.args.map cpE)[k]? := by rw[p4]
     rw[jY,jY,jO hk',jO hkb] at e1
     simpa using e1
    simp -implicitDefEqProofs only[vQ]
    refine ET (by kernel_rfl) ?_
    simp -implicitDefEqProofs only[vQ,AJG,List.append_nil,↓reduceIte,jB,Nat.reduceAdd,enP,WH,MK,f2,f3,f5,Rk.ldE' ga,Rk.ldE' gb,DL hk',DL hkb,FM TQ LD GU hk',FM TQ LD GU hkb]
    refine⟨_,ih a.args[k] b.args[k] _ (by omega) (by omega) hce,?_⟩
    try simp -implicitDefEqProofs only[vQ,BD,↓reduceIte,jB,jV,enP,f5,wrap_succ (show k < 9223372036854775807 by omega)]
    exact⟨n - 1,by omega,k+1,by omega,by first | exact True.intro | exact f2,by first | exact True.intro | exact f3,by first | exact True.intro | exact rfl,by first | exact True.intro | exact rfl⟩
   ·simp -implicitDefEqProofs only[vQ,BD,↓reduceIte]
    exact⟨by first | exact True.intro | exact rfl,hx⟩
end Go.Proofs.YtfpagfhhhlljjaaGreatDoor.Ho
