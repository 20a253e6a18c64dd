/- Part 18 of the proof (O1, O2, Ko, O3, O4, O5, O6, O7, O8, O9, O10, O11, O12, O13, O14, O15, O16, O18); no condition. -/
import Derived.Test.YtfpagfhhhlljjaaGreatDoorYD17
set_option linter.unusedVariables false
set_option linter.unusedSimpArgs false
set_option maxRecDepth 8000
namespace Go.Proofs.YtfpagfhhhlljjaaGreatDoor.Cov
open Sm Bins Go.RowKit
open Bool renaming not_false→jC,not_true→jU,true_and→qF,false_and→qK
open List renaming drop_eq_getElem_cons→zK,drop_eq_nil_of_le→jV,length_map→jH,map_cons→jD,map_nil→jE,append_nil→jF
open Nat renaming le_of_ble_eq_true→jI,reduceEqDiff→jB,zero_add→jG
open Option renaming getD_some→jA
def ixV (ns:List Nat)(l:List Int):Int:=if JV ns l=true then V5 ns l 0 else 0
theorem AR1 {ns:List Nat}{l:List Int}(h:l.length≠ns.length):JV ns l=false:=by
 cases e:JV ns l
 ·rfl
 ·exact absurd (MR e).symm h
theorem AHV {ns:List Nat}{l:List Int}{k:Nat}(hk:k < l.length)(hn:k < ns.length):JV (ns.drop k) (l.drop k)=(decide (0≤l[k]) && decide (l[k] < (ns[k]:Int)) && JV (ns.drop (k+1)) (l.drop (k+1))):=by
 rw[zK hk,zK hn]; rfl
theorem AL9 {ns:List Nat}{l:List Int}{k:Nat}(hk:l.length≤k)(hn:ns.length≤k):JV (ns.drop k) (l.drop k)=true:=by
 rw[jV hk,jV hn]; rfl
theorem AN5 (G:Nat→AV)(m:Mo)(z:Int)(hz:z < 0∨(m.crs.length:Int)≤z)(h:Hp):PCall (En G) 77 [.agg (EE m),.int .i64 z] h (.bool false):=by
 refine ACalls.pure0 rfl ?_
 refine acN Tryz.func77 rfl ?_
 show awp _ _ _ _ _ (EM _ [.tmp 4] _)
 simp -implicitDefEqProofs only[vQ,CP,BD,↓reduceIte,jB,enP,bxM]
 cases d0:decide (z < 0)
 ·have d1:decide (z≥(m.crs.length:Int))=true:=by rw[decide_eq_true_eq]; rw[decide_eq_false_iff_not] at d0; omega
  simp -implicitDefEqProofs only[vQ,CP,BD,↓reduceIte,jB,enP,UU,IV,DW AB5,U2,jH,d1]
  exact⟨trivial,_,rfl⟩
 ·simp -implicitDefEqProofs only[vQ,CP,BD,EW,↓reduceIte,jB]
  exact⟨trivial,_,rfl⟩
theorem ADT (G:Nat→AV)(m:Mo)(z:Int)(hz:z < 0∨(m.crs.length:Int)≤z)(h:Hp):PCall (En G) 59 [.agg (EE m),.int .i64 z] h (.bool false):=by
 refine ACalls.pure0 rfl ?_
 refine acN Tryz.func59 rfl ?_
 show awp _ _ _ _ _ (EM _ [.tmp 4] _)
 simp -implicitDefEqProofs only[vQ,CP,BD,↓reduceIte,jB,enP,bxM]
 cases d0:decide (z < 0)
 ·have d1:decide (z≥(m.crs.length:Int))=true:=by rw[decide_eq_true_eq]; rw[decide_eq_false_iff_not] at d0; omega
  simp -implicitDefEqProofs only[vQ,CP,BD,↓reduceIte,jB,enP,UU,IV,DW AB5,U2,jH,d1]
  exact⟨trivial,_,rfl⟩
 ·simp -implicitDefEqProofs only[vQ,CP,BD,EW,↓reduceIte,jB]
  exact⟨trivial,_,rfl⟩
theorem AEX (G:Nat→AV)(m:Mo)(z:Int)(hz:z < 0∨(m.crs.length:Int)≤z)(l:List Int)(s:SM)(h:Hp):PCall (En G) 44 [.agg (EE m),.int .i64 z,.sl s 1 (l.map qencI)] h (.tup [.int .i64 0,.bool false]):=by
 refine ACalls.pure 2 (R:=fun v H=>v = .tup [.int .i64 0,.bool false]∧∃ x,H=h++x) ?_ (fun v h' ⟨e,x⟩=>⟨x,by subst e; rfl⟩)
 refine acN Tryz.func44 rfl ?_
 show awp _ _ _ _ _ (EM _ [.tmp 6,.tmp 7] _)
 simp -implicitDefEqProofs only[vQ,BD,↓reduceIte,jB,enP,bxM,ldM (CZ h (.live 2 [EE m]))]
 refine(AN5 G m z hz _).use ?_
 simp -implicitDefEqProofs only[vQ,BD,↓reduceIte,jB]
 exact⟨trivial,_,rfl⟩
theorem AGQ (G:Nat→AV)(m:Mo)(z:Int)(hz:z < 0∨(m.crs.length:Int)≤z)(l:List Int)(s:SM)(h:Hp):PCall (En G) 30 [.agg (EE m),.int .i64 z,.sl s 1 (l.map qencI)] h (.tup [.int .i64 0,.bool false]):=by
 refine ACalls.pure 2 (R:=fun v H=>v = .tup [.int .i64 0,.bool false]∧∃ x,H=h++x) ?_ (fun v h' ⟨e,x⟩=>⟨x,by subst e; rfl⟩)
 refine acN Tryz.func30 rfl ?_
 show awp _ _ _ _ _ (EM _ [.tmp 6,.tmp 7] _)
 simp -implicitDefEqProofs only[vQ,BD,↓reduceIte,jB,enP,bxM,ldM (CZ h (.live 2 [EE m]))]
 refine(ADT G m z hz _).use ?_
 simp -implicitDefEqProofs only[vQ,CP,BD,EW,↓reduceIte,jB]
 exact⟨trivial,_,rfl⟩
theorem WU (G:Nat→AV)(m:Mo)(i:Nat)(hi:i < m.crs.length)(hg:CrGood m m.crs[i])(l:List Int)(s:SM)(hn:l.length≤1048576)(h:Hp):PCall (En G) 44 [.agg (EE m),.int .i64 (i:Int),.sl s 1 (l.map qencI)] h (.tup [.int .i64 (ixV (szs m m.crs[i].pts) l),.bool (JV (szs m m.crs[i].pts) l)]):=by
 refine ACalls.pure 2 (R:=fun v H=>v = .tup [.int .i64 (ixV (szs m m.crs[i].pts) l),.bool (JV (szs m m.crs[i].pts) l)]∧∃ x,H=h++x) ?_ (fun v h' ⟨e,x⟩=>⟨x,by subst e; rfl⟩)
 have hx : ∃ x,h++[ABlk.live 2 [EE m]]=h++x:=⟨_,rfl⟩
 refine acN Tryz.func44 rfl ?_
 show awp _ _ _ _ _ (EM _ [.tmp 6,.tmp 7] _)
 simp -implicitDefEqProofs only[vQ,BD,↓reduceIte,jB,enP,bxM,ldM (CZ h (.live 2 [EE m]))]
 refine(ACB G m i hi hg _).use ?_
 simp -implicitDefEqProofs only[vQ,BD,↓reduceIte,jB,jU,enP,ldM (CZ h (.live 2 [EE m]))]
 refine(AAU G m i hi hg _).use ?_
 generalize szs m m.crs[i].pts=ns
 rcases Classical.em (l.length=ns.length) with hlen | hlen
 case inr =>
  have hne:((l.length:Int) != (ns.length:Int))=true:=by simp; omega
  have hb:=AR1 hlen
  have hv:ixV ns l=0:=by unfold ixV; rw[hb]; rfl
  simp -implicitDefEqProofs only[vQ,BD,↓reduceIte,jB,enP,IZ,jH,hne]
  exact⟨by rw[hb,hv],hx⟩
 have hne:((l.length:Int) != (ns.length:Int))=false:=by rw[hlen]; simp
 simp -implicitDefEqProofs only[vQ,BD,↓reduceIte,jB,enP,IZ,jH,hne]
 refine DL (fun n F H => ∃ k,n+k=l.length∧F 8 = .sl .any 1 (ns.map JI)∧(∃ z,F 9 = .int .i64 z∧V5 ns l 0=V5 (ns.drop k) (l.drop k) z)∧F 24 = .sl s 1 (l.map qencI)∧F 25 = .int .i64 l.length∧F 26 = .int .i64 (k:Nat)∧H=h++[ABlk.live 2 [EE m]]∧JV ns l=JV (ns.drop k) (l.drop k)) l.length ⟨0,by simp,by simp -implicitDefEqProofs only[AA,↓reduceIte,jB],⟨0,rfl,rfl⟩,by simp -implicitDefEqProofs only[AA,↓reduceIte,jB],by simp -implicitDefEqProofs only[AA,↓reduceIte,jB],by simp -implicitDefEqProofs only[AA,↓reduceIte]; rfl,rfl,rfl⟩ ?_
 rintro n F H ⟨k,hk,f8,⟨z,f9,hz⟩,f24,f25,f26,rfl,hin⟩
 simp -implicitDefEqProofs only[vQ,BD,↓reduceIte,enP,f25,f26]
 refine CU (fun hc => ?_) (fun hc => ?_)
 ·have hk':k < l.length:=by simpa using hc
  have hkn:k < ns.length:=by omega
  rw[AHV hk' hkn] at hin
  rw[zK hk',zK hkn] at hz
  cases d0:decide (l[k] < 0)
  ·have e0:decide (0≤l[k])=true:=by rw[decide_eq_true_eq]; rw[decide_eq_false_iff_not] at d0; omega
   cases d1:decide (l[k]≥(ns[k]:Int))
   ·have e1:decide (l[k] < (ns[k]:Int))=true:=by rw[decide_eq_true_eq]; rw[decide_eq_false_iff_not] at d1; omega
    rw[e0,e1,qF,qF] at hin
    simp -implicitDefEqProofs only[vQ,CP,BD,OJ,↓reduceIte,jB,enP,IB,f8,f9,f24,f26,DN hk',CY ag3 hk',encI0,d0,DN hkn,CY ag3 hkn,encN0,d1,wrap_succ (show k < 9223372036854775807 by omega)]
    exact⟨n - 1,by omega,k+1,by omega,trivial,⟨_,rfl,hz⟩,trivial,f25,rfl,trivial,hin⟩
   ·have e1:decide (l[k] < (ns[k]:Int))=false:=by rw[decide_eq_false_iff_not]; rw[decide_eq_true_eq] at d1; omega
    rw[e1,Bool.and_false,qK] at hin
    have hv:ixV ns l=0:=by unfold ixV; rw[hin]; rfl
    simp -implicitDefEqProofs only[vQ,CP,BD,↓reduceIte,jB,enP,IB,f8,f9,f24,f26,DN hk',CY ag3 hk',encI0,d0,DN hkn,CY ag3 hkn,encN0,d1]
    exact⟨by rw[hin,hv],hx⟩
  ·have e0:decide (0≤l[k])=false:=by rw[decide_eq_false_iff_not]; rw[decide_eq_true_eq] at d0; omega
   rw[e0,qK,qK] at hin
   have hv:ixV ns l=0:=by unfold ixV; rw[hin]; rfl
   simp -implicitDefEqProofs only[vQ,CP,BD,EW,↓reduceIte,jB,enP,IB,f8,f9,f24,f26,DN hk',CY ag3 hk',encI0,d0]
   exact⟨by rw[hin,hv],hx⟩
 ·have hk' : ¬ k < l.length:=by simpa using hc
  rw[AL9 (by omega) (by omega)] at hin
  rw[jV (show l.length≤k by omega),AAF] at hz
  have hv:ixV ns l=z:=by unfold ixV; rw[if_pos hin,hz]
  simp -implicitDefEqProofs only[vQ,BD,↓reduceIte,jB,f9]
  exact⟨by rw[hin,hv],hx⟩
theorem YD (G:Nat→AV)(m:Mo)(i:Nat)(hi:i < m.crs.length)(hg:CrGood m m.crs[i])(l:List Int)(s:SM)(hn:l.length≤1048576)(h:Hp):PCall (En G) 30 [.agg (EE m),.int .i64 (i:Int),.sl s 1 (l.map qencI)] h (.tup [.int .i64 (ixV (szs m m.crs[i].pts) l),.bool (JV (szs m m.crs[i].pts) l)]):=by
 have hsl:=LG m m.crs[i].pts
 have hget:=ZO m m.crs[i].pts
 refine ACalls.pure 2 (R:=fun v H=>v = .tup [.int .i64 (ixV (szs m m.crs[i].pts) l),.bool (JV (szs m m.crs[i].pts) l)]∧∃ x,H=h++x) ?_ (fun v h' ⟨e,x⟩=>⟨x,by subst e; rfl⟩)
 have gm:=CZ h (.live 2 [EE m])
 have hx : ∃ x,h++[ABlk.live 2 [EE m]]=h++x:=⟨_,rfl⟩
 refine acN Tryz.func30 rfl ?_
 show awp _ _ _ _ _ (EM _ [.tmp 6,.tmp 7] _)
 simp -implicitDefEqProofs only[vQ,BD,↓reduceIte,jB,enP,bxM,ldM gm]
 refine(ADU G m i hi hg _).use ?_
 rcases Classical.em (l.length=m.crs[i].pts.length) with hlen | hlen
 case inr =>
  have hne:((l.length:Int) != (m.crs[i].pts.length:Int))=true:=by simp; omega
  have hb:JV (szs m m.crs[i].pts) l=false:=AR1 (by omega)
  have hv:ixV (szs m m.crs[i].pts) l=0:=by unfold ixV; rw[hb]; rfl
  simp -implicitDefEqProofs only[vQ,CP,BD,↓reduceIte,jB,jU,enP,P5,IV,IZ,JH,XW gm,DN hi,CY KO hi,QJ,jH,hne]
  exact⟨by rw[hb,hv],hx⟩
 have hne:((l.length:Int) != (m.crs[i].pts.length:Int))=false:=by rw[hlen]; simp
 simp -implicitDefEqProofs only[vQ,CP,BD,↓reduceIte,jB,jU,enP,P5,IV,IZ,JH,XW gm,DN hi,CY KO hi,QJ,jH,hne]
 generalize h++[ABlk.live 2 [EE m]]=H at gm hx ⊢
 generalize szs m m.crs[i].pts=ns at hsl hget ⊢
 refine DL (fun n F H' => ∃ k,n+k=l.length∧F 1 = .int .i64 (i:Nat)∧F 2 = .sl s 1 (l.map qencI)∧F 3 = .ptr h.length 0 0∧(∃ z,F 8 = .int .i64 z∧V5 ns l 0=V5 (ns.drop k) (l.drop k) z)∧F 9 = .int .i64 (k:Nat)∧H'=H∧JV ns l=JV (ns.drop k) (l.drop k)) l.length ⟨0,by simp,by simp -implicitDefEqProofs only[vQ,↓reduceIte,jB],by simp -implicitDefEqProofs only[vQ,↓reduceIte,jB],by simp -implicitDefEqProofs only[AA,↓reduceIte,jB],⟨0,rfl,rfl⟩,by simp -implicitDefEqProofs only[AA,↓reduceIte]; rfl,rfl,rfl⟩ ?_
 rintro n F H' ⟨k,hk,f1,f2,f3,⟨z,f8,hz⟩,f9,rfl,hin⟩
 simp -implicitDefEqProofs only[vQ,BD,↓reduceIte,jB,enP,IZ,f2,f9,jH]
 refine CU (fun hc => ?_) (fun hc => ?_)
 ·have hk':k < l.length:=by simpa using hc
  have hkn:k < ns.length:=by omega
  have hkc:k < m.crs[i].pts.length:=by omega
  have hgk:ns[k]=(IX m m.crs[i].pts[k]).length:=IC (hget k hkc)
  rw[AHV hk' hkn] at hin
  rw[zK hk',zK hkn] at hz
  simp -implicitDefEqProofs only[vQ,BD,↓reduceIte,jB,enP,f1,f3,f9,ldM gm]
  refine(AFZ G m i hi hg k hkc _).use ?_
  rw[← hgk]
  cases d0:decide (l[k] < 0)
  ·have e0:decide (0≤l[k])=true:=by rw[decide_eq_true_eq]; rw[decide_eq_false_iff_not] at d0; omega
   cases d1:decide (l[k]≥(ns[k]:Int))
   ·have e1:decide (l[k] < (ns[k]:Int))=true:=by rw[decide_eq_true_eq]; rw[decide_eq_false_iff_not] at d1; omega
    rw[e0,e1,qF,qF] at hin
    simp -implicitDefEqProofs only[vQ,CP,BD,OJ,↓reduceIte,jB,enP,IB,f2,f8,f9,DN hk',CY ag3 hk',encI0,d0,d1,wrap_succ (show k < 9223372036854775807 by omega)]
    exact⟨n - 1,by omega,k+1,by omega,f1,trivial,f3,⟨_,rfl,hz⟩,rfl,trivial,hin⟩
   ·have e1:decide (l[k] < (ns[k]:Int))=false:=by rw[decide_eq_false_iff_not]; rw[decide_eq_true_eq] at d1; omega
    rw[e1,Bool.and_false,qK] at hin
    have hv:ixV ns l=0:=by unfold ixV; rw[hin]; rfl
    simp -implicitDefEqProofs only[vQ,CP,BD,↓reduceIte,jB,enP,IB,f2,f8,f9,DN hk',CY ag3 hk',encI0,d0,d1]
    exact⟨by rw[hin,hv],hx⟩
  ·have e0:decide (0≤l[k])=false:=by rw[decide_eq_false_iff_not]; rw[decide_eq_true_eq] at d0; omega
   rw[e0,qK,qK] at hin
   have hv:ixV ns l=0:=by unfold ixV; rw[hin]; rfl
   simp -implicitDefEqProofs only[vQ,CP,BD,EW,↓reduceIte,jB,enP,IB,f2,f8,f9,DN hk',CY ag3 hk',encI0,d0]
   exact⟨by rw[hin,hv],hx⟩
 ·have hk' : ¬ k < l.length:=by simpa using hc
  rw[AL9 (by omega) (by omega)] at hin
  rw[jV (show l.length≤k by omega),AAF] at hz
  have hv:ixV ns l=z:=by unfold ixV; rw[if_pos hin,hz]
  simp -implicitDefEqProofs only[vQ,BD,↓reduceIte,jB,f8]
  exact⟨by rw[hin,hv],hx⟩
end Go.Proofs.YtfpagfhhhlljjaaGreatDoor.Cov
set_option linter.unusedSimpArgs false
set_option maxRecDepth 8000
namespace Go.Proofs.YtfpagfhhhlljjaaGreatDoor.Ho
open Sm Bins Cov Go.RowKit
open Bool renaming not_false→jC
open Int renaming toNat_natCast→qV
open List renaming getElem?_eq_none→qP,getElem?_eq_getElem→jS,map_cons→jD,map_nil→jE,append_nil→jF,getElem?_cons_zero→zB,getElem?_cons_succ→zD,length_map→jH
open Nat renaming reduceEqDiff→jB,add_zero→jK,zero_add→jG
open Option renaming getD_some→jA
structure Hl where
 cross:Bool
 idx:Int
 bm:SM
 bins:List Int
def JD (x:Hl):List AV := [.bool x.cross,.int .i64 x.idx,.sl x.bm 1 (x.bins.map qencI)]
theorem AT8 (x:Hl):(JD x).length=3:=rfl
theorem bxH (h:Hp)(x:Hl):O7 h (.agg (JD x))=some (.ptr h.length 0 0,h++[.live 3 [JD x]]):=VS rfl
theorem ldH {H:Hp}{b:Nat}{x:Hl}(hb:H[b]? = some (.live 3 [JD x])):D8 Tryz.prog H 28 (.ptr b 0 0)=some (.agg (JD x)):=by
 rw[IJ A77 A3L hb rfl (by rw[AT8]; exact Nat.le_refl 3)]; rfl
theorem AOY {H:Hp}{b:Nat}{x:Hl}(hb:H[b]? = some (.live 3 [JD x])):D8 Tryz.prog H 4 (.ptr b 0 0)=some (.bool x.cross):=by rw[DY ag4 hb (row:=JD x) rfl]; rfl
theorem AET {H:Hp}{b:Nat}{x:Hl}(hb:H[b]? = some (.live 3 [JD x])):D8 Tryz.prog H 3 (.ptr b 0 1)=some (.int .i64 x.idx):=by rw[DY ag3 hb (row:=JD x) rfl]; rfl
theorem AES {H:Hp}{b:Nat}{x:Hl}(hb:H[b]? = some (.live 3 [JD x])):D8 Tryz.prog H 26 (.ptr b 0 2)=some (.sl x.bm 1 (x.bins.map qencI)):=by rw[DY KO hb (row:=JD x) rfl]; rfl
def AGY (m:Mo)(z:Int):Option Cr:=if 0≤z then m.crs[z.toNat]? else none
def ALI (m:Mo)(z:Int):Option Pt:=if 0≤z then m.pts[z.toNat]? else none
def AE8 (p:Pt):List Int→Bool
 | [b]=>decide (0≤b) && decide (b < (p.bins.length:Int)) && (kindOf p b.toNat == 0)
 | _=>false
def crF (m:Mo)(x:Hl):Option Cr→Bool
 | some c=>JV (szs m c.pts) x.bins && PH m c x.bins
 | none=>false
def ptF (x:Hl):Option Pt→Bool
 | some p=>AE8 p x.bins
 | none=>false
def U0 (m:Mo)(x:Hl):Bool:=if x.cross=true then crF m x (AGY m x.idx) else ptF x (ALI m x.idx)
def QF (m:Mo)(x:Hl):Bool:=(FX m == 0) && U0 m x
theorem AFO {m:Mo}{z:Int}(h:z < 0∨(m.crs.length:Int)≤z):AGY m z=none:=by
 unfold AGY
 split
 ·exact qP (by omega)
 ·rfl
theorem Q7 {m:Mo}{i:Nat}(hi:i < m.crs.length):AGY m (i:Int)=some m.crs[i]:=by
 unfold AGY
 rw[if_pos (by omega),qV,jS hi]
theorem AEC {m:Mo}{z:Int}(h:z < 0∨(m.pts.length:Int)≤z):ALI m z=none:=by
 unfold ALI
 split
 ·exact qP (by omega)
 ·rfl
theorem AC9 {m:Mo}{i:Nat}(hi:i < m.pts.length):ALI m (i:Int)=some m.pts[i]:=by
 unfold ALI
 rw[if_pos (by omega),qV,jS hi]
theorem PL (z:Int)(n:Nat):(z < 0∨(n:Int)≤z)∨∃ i:Nat,i < n∧z=(i:Int):=by
 rcases Classical.em (z < 0∨(n:Int)≤z) with h | h
 ·exact .inl h
 ·exact .inr ⟨z.toNat,by omega,by omega⟩
structure Hb (h H:Hp) (m:Mo) (x:Hl) (hb:Nat):Prop where
 gm:H[h.length]? = some (ABlk.live 2 [EE m])
 gh:H[hb]? = some (ABlk.live 3 [JD x])
 hx:ext h H
theorem Hb.mk' (h:Hp)(m:Mo)(x:Hl):Hb h (h++[ABlk.live 2 [EE m]]++[ABlk.live 3 [JD x]]) m x (h++[ABlk.live 2 [EE m]]).length :=
 ⟨CX (CZ _ _),CZ _ _,((ext.rfl' h).app _).app _⟩
theorem AE6 {p:Pt}{l:List Int}(h:l.length≠1):AE8 p l=false:=by
 match l,h with
 | [],_=>rfl
 | [b],h=>exact absurd rfl h
 | _ :: _ :: _,_=>rfl
theorem ATO {p:Pt}{k:Nat}(hk:k < p.bins.length):kindOf p k=p.bins[k].kind:=by unfold kindOf; rw[jS hk]
theorem ABR {p:Pt}{b:Int}(h:b < 0∨(p.bins.length:Int)≤b):AE8 p [b]=false:=by
 show(decide (0≤b) && decide (b < (p.bins.length:Int)) && (kindOf p b.toNat == 0))=false
 rcases h with h | h
 ·rw[show decide (0≤b)=false by rw[decide_eq_false_iff_not]; omega]; rfl
 ·rw[show decide (b < (p.bins.length:Int))=false by rw[decide_eq_false_iff_not]; omega,Bool.and_false]; rfl
theorem AE7 {p:Pt}{k:Nat}(hk:k < p.bins.length):AE8 p [(k:Int)]=(p.bins[k].kind == 0):=by
 show(decide (0≤(k:Int)) && decide ((k:Int) < (p.bins.length:Int)) && (kindOf p (k:Int).toNat == 0))=_
 rw[qV,ATO hk,show decide (0≤(k:Int))=true by rw[decide_eq_true_eq]; omega,show decide ((k:Int) < (p.bins.length:Int))=true by rw[decide_eq_true_eq]; omega]; rfl
theorem RI (i:Nat):decide ((i:Int) < 0)=false:=by rw[decide_eq_false_iff_not]; omega
theorem UX {i n:Nat}(h:i < n):decide ((i:Int)≥(n:Int))=false:=by rw[decide_eq_false_iff_not]; omega
theorem AL2 {i n:Nat}(h:i < n):decide ((i:Int) < (n:Int))=true:=by rw[decide_eq_true_eq]; omega
theorem AMG (i:Nat):decide ((i:Int)≥0)=true:=by rw[decide_eq_true_eq]; omega
theorem YT {l:List Int}(h:l.length=1) : ∃ b,l = [b]:=by
 match l,h with
 | [b],_=>exact⟨b,rfl⟩
section
variable (G:Nat→AV)
set_option maxHeartbeats 1000000 in
theorem AT5 (m:Mo)(hg:Cov.Good m)(x:Hl)(hn:x.bins.length≤1048576)(h:Hp):PCall (En G) 28 [.agg (EE m),.agg (JD x)] h (.bool (U0 m x)):=by
 refine ACalls.pure0 rfl ?_
 refine acN Tryz.func28 rfl ?_
 show awp _ _ _ _ _ (EM _ [.tmp 4] _)
 have t:=Hb.mk' h m x
 simp -implicitDefEqProofs only[vQ,BD,↓reduceIte,jB,enP,XA,bxM,bxH]
 generalize h++[ABlk.live 2 [EE m]]++[ABlk.live 3 [JD x]]=H at t ⊢
 generalize (h++[ABlk.live 2 [EE m]]).length=hb at t ⊢
 simp -implicitDefEqProofs only[vQ,↓reduceIte,AOY t.gh]
 cases hc:x.cross
 case true =>
  have hf:U0 m x=crF m x (AGY m x.idx):=by unfold U0; rw[if_pos hc]
  simp -implicitDefEqProofs only[vQ,BD,↓reduceIte,jB,enP,LY,MP,ldM t.gm,AET t.gh,AES t.gh]
  rcases PL x.idx m.crs.length with hz | ⟨i,hi,hz⟩
  ·rw[AFO hz] at hf; change U0 m x=false at hf
   refine(AEX G m x.idx hz x.bins x.bm H).use ?_
   simp -implicitDefEqProofs only[vQ,zB,zD,CP,BD,EW,↓reduceIte,jB]
   exact⟨by rw[hf],t.hx⟩
  ·rw[hz,Q7 hi] at hf
   change U0 m x=(JV (szs m m.crs[i].pts) x.bins && PH m m.crs[i] x.bins) at hf
   have hcg:=hg.crs _ (List.getElem_mem hi)
   rw[hz]
   refine(WU G m i hi hcg x.bins x.bm hn H).use ?_
   cases hin:JV (szs m m.crs[i].pts) x.bins
   ·simp -implicitDefEqProofs only[vQ,zB,zD,CP,BD,EW,↓reduceIte,jB]
    exact⟨by rw[hf,hin,Bool.false_and],t.hx⟩
   ·simp -implicitDefEqProofs only[vQ,zB,zD,CP,BD,↓reduceIte,jB,enP,LY,MP,ldM t.gm,AET t.gh,AES t.gh]
    rw[hz]
    refine(AGW G m i hi hcg x.bins x.bm hin H).use ?_
    simp -implicitDefEqProofs only[vQ,CP,BD,↓reduceIte,jB]
    exact⟨by rw[hf,hin,Bool.true_and,Bool.not_not],t.hx⟩
 have hf:U0 m x=ptF x (ALI m x.idx):=by unfold U0; rw[if_neg (by rw[hc]; decide)]
 have l1:=AET t.gh
 have l2:=AES t.gh
 rcases PL x.idx m.pts.length with hz | ⟨i,hi,hz⟩
 ·rw[AEC hz] at hf; change U0 m x=false at hf
  cases d0:decide (x.idx < 0)
  ·have d1:decide (x.idx≥(m.pts.length:Int))=true:=by rw[decide_eq_true_eq]; rw[decide_eq_false_iff_not] at d0; omega
   simp -implicitDefEqProofs only[vQ,CP,BD,EW,↓reduceIte,jB,enP,OE,GU,LY,l1,d0,TC t.gm,jH,d1]
   exact⟨by rw[hf],t.hx⟩
  ·simp -implicitDefEqProofs only[vQ,CP,BD,EW,↓reduceIte,jB,enP,LY,l1,d0]
   exact⟨by rw[hf],t.hx⟩
 rw[hz,AC9 hi] at hf
 change U0 m x=AE8 m.pts[i] x.bins at hf
 rw[hz] at l1
 rcases Classical.em (x.bins.length=1) with hl | hl
 case inr =>
  have hne:((x.bins.length:Int) != 1)=true:=by simp; omega
  simp -implicitDefEqProofs only[vQ,CP,BD,↓reduceIte,jB,enP,OE,GU,IZ,LY,MP,l1,l2,RI,TC t.gm,jH,UX hi,hne]
  exact⟨by rw[hf,AE6 hl],t.hx⟩
 obtain⟨b,hb1⟩:=YT hl
 rw[hb1] at l2 hf
 have h01:0 < ([b]:List Int).length:=by simp
 have i0:J3 1 H (.sl x.bm 1 [qencI b]) (.int .i64 0)=some (.fptr 1 [qencI b] 0 0):=DN (k:=1) h01
 have hne:(((([qencI b]:List (List AV)).length:Nat):Int) != 1)=false:=rfl
 have lb:D8 Tryz.prog H 3 (.fptr 1 [qencI b] 0 0)=some (.int .i64 b):=(CY ag3 h01).trans rfl
 simp -implicitDefEqProofs only[vQ,CP,BD,↓reduceIte,jB,enP,PG,OE,GU,IB,IZ,LY,MP,IE,l1,l2,RI,TC t.gm,jH,UX hi,hne,DN hi,CY RD hi,NG,i0,lb]
 rcases PL b m.pts[i].bins.length with hb2 | ⟨k,hk,rfl⟩
 ·rw[ABR hb2] at hf
  cases d0:decide (b≥0)
  ·simp -implicitDefEqProofs only[vQ,CP,BD,EW,↓reduceIte,jB,d0]
   exact⟨by rw[hf],t.hx⟩
  ·have d1:decide (b < (m.pts[i].bins.length:Int))=false:=by rw[decide_eq_false_iff_not]; rw[decide_eq_true_eq] at d0; omega
   simp -implicitDefEqProofs only[vQ,CP,BD,EW,↓reduceIte,jB,enP,IB,MP,PE,d0,l2,i0,lb,jH,d1]
   exact⟨by rw[hf],t.hx⟩
 ·rw[AE7 hk] at hf
  simp -implicitDefEqProofs only[vQ,CP,BD,↓reduceIte,jB,enP,IB,MP,SA,PE,ND,AMG,l2,i0,lb,jH,AL2 hk,DN hk,CY ag3 hk,QV]
  exact⟨by rw[hf],t.hx⟩
end
end Go.Proofs.YtfpagfhhhlljjaaGreatDoor.Ho
namespace Go.Proofs.YtfpagfhhhlljjaaGreatDoor.Ho
open Sm Bins Cov Xe Go.RowKit
theorem cl4:Tryz.prog.cellsOf 4=1:=by kernel_rfl
theorem A9S:Tryz.prog.cellsOf 28=3:=by kernel_rfl
def A5V (x:Hl)(b:Nat):Prop:=okL okI x.bins b
theorem A9R:Rd Tryz.prog 28 JD A5V:=by
 intro n
 match n with
 | 0=>exact RdAt.zero
 | 1=>exact AEA Tryz.underlying28
 | n+2 =>
   refine RdAt.map (fun x:Bool × Int × Is × Unit=>(⟨x.1,x.2.1,x.2.2.1.m,x.2.2.1.l⟩:Hl))
    (OX Tryz.underlying28 (JK rfl cl4 (fun _=>rfl) (AZ3 Tryz.underlying4 _) (JK rfl cl3 (fun _=>rfl) (rdI _) (JK rfl A4R AFL (A3Y _) TK)))) (fun x=>rfl) ?_
   rintro⟨a,b,c,_⟩ N ⟨_,hN,b1,b2,hb,h1,b3,b4,hb2,h2,b5,b6,hb3,h3,_⟩
   exact h3.mono (by omega)
theorem A8K {x:Hl}{b:Nat}(h:A5V x b)(hb:b≤1048576):x.bins.length≤1048576:=Nat.le_trans (okL.length h) hb
end Go.Proofs.YtfpagfhhhlljjaaGreatDoor.Ho
set_option linter.unusedSimpArgs false
set_option maxRecDepth 8000
namespace Go.Proofs.YtfpagfhhhlljjaaGreatDoor.Ho
open Sm Bins Cov Go.RowKit
open Bool renaming not_false→jC,false_and→qK,true_and→qF,not_true→jU,and_eq_true→jX
open List renaming map_cons→jD,map_nil→jE,append_nil→jF,getElem?_cons_zero→zB,getElem?_cons_succ→zD,getElem_mem→jP,length_map→jH,mem_cons_of_mem→wO
open Nat renaming le_of_ble_eq_true→jI,reduceEqDiff→jB,add_zero→jK,zero_add→jG,one_mul→wZ,add_mul→zZ,mul_le_mul_right→wJ
open Option renaming getD_some→jA
section
variable (G:Nat→AV)
theorem valid_prog (hG:GOk G)(m:Mo)(hm:MoOk m)(x:Hl)(hn:x.bins.length≤1048576)(h:Hp):PCall (En G) 11 [.agg (EE m),.agg (JD x)] h (.bool (QF m x)):=by
 refine ACalls.pure0 rfl ?_
 refine acN Tryz.func11 rfl ?_
 show awp _ _ _ _ _ (EM _ [.tmp 4] _)
 have t:=Hb.mk' h m x
 simp -implicitDefEqProofs only[vQ,BD,↓reduceIte,jB,enP,bxM,bxH]
 generalize h++[ABlk.live 2 [EE m]]++[ABlk.live 3 [JD x]]=H at t ⊢
 generalize (h++[ABlk.live 2 [EE m]]).length=hb at t ⊢
 simp -implicitDefEqProofs only[vQ,BD,↓reduceIte,ldM t.gm]
 refine(AEN G hG m hm H).use ?_
 unfold QF
 cases h0:(FX m == 0)
 ·simp -implicitDefEqProofs only[vQ,CP,BD,EW,↓reduceIte,jB,enP,h0]
  exact⟨by rw[qK],t.hx⟩
 ·have hg:Cov.Good m:=NY (by simpa using h0)
  simp -implicitDefEqProofs only[vQ,CP,BD,↓reduceIte,jB,enP,h0,ldM t.gm,ldH t.gh]
  refine(AT5 G m hg x hn H).use ?_
  simp -implicitDefEqProofs only[vQ,BD,↓reduceIte,jB]
  exact⟨by rw[qF],t.hx⟩
set_option maxHeartbeats 1000000 in
theorem valid_ref (m:Mo)(hm:MoOk m)(x:Hl)(hn:x.bins.length≤1048576)(h:Hp):PCall (En G) 12 [.agg (EE m),.agg (JD x)] h (.bool (QF m x)):=by
 refine ACalls.pure0 rfl ?_
 refine acN Tryz.func12 rfl ?_
 show awp _ _ _ _ _ (EM _ [.tmp 4] _)
 have t:=Hb.mk' h m x
 simp -implicitDefEqProofs only[vQ,BD,↓reduceIte,jB,enP,bxM,bxH]
 generalize h++[ABlk.live 2 [EE m]]++[ABlk.live 3 [JD x]]=H at t ⊢
 generalize (h++[ABlk.live 2 [EE m]]).length=hb at t ⊢
 simp -implicitDefEqProofs only[vQ,BD,↓reduceIte,ldM t.gm]
 refine(RH G m hm H).use ?_
 unfold QF
 cases h0:(FX m == 0)
 ·simp -implicitDefEqProofs only[vQ,BD,↓reduceIte,enP,bne,h0]
  exact⟨by rw[qK],t.hx⟩
 have hg:Cov.Good m:=NY (by simpa using h0)
 rw[qF]
 simp -implicitDefEqProofs only[vQ,BD,↓reduceIte,jB,jU,enP,XA,bne,h0,AOY t.gh]
 cases hc:x.cross
 case true =>
  have hf:U0 m x=crF m x (AGY m x.idx):=by unfold U0; rw[if_pos hc]
  simp -implicitDefEqProofs only[vQ,BD,↓reduceIte,jB,enP,LY,MP,ldM t.gm,AET t.gh,AES t.gh]
  rcases PL x.idx m.crs.length with hz | ⟨i,hi,hz⟩
  ·rw[AFO hz] at hf; change U0 m x=false at hf
   refine(AGQ G m x.idx hz x.bins x.bm H).use ?_
   simp -implicitDefEqProofs only[vQ,zB,zD,CP,BD,EW,↓reduceIte,jB]
   exact⟨by rw[hf],t.hx⟩
  ·rw[hz,Q7 hi] at hf
   change U0 m x=(JV (szs m m.crs[i].pts) x.bins && PH m m.crs[i] x.bins) at hf
   have hcg:=hg.crs _ (jP hi)
   rw[hz]
   refine(YD G m i hi hcg x.bins x.bm hn H).use ?_
   cases hin:JV (szs m m.crs[i].pts) x.bins
   ·simp -implicitDefEqProofs only[vQ,zB,zD,CP,BD,EW,↓reduceIte,jB]
    exact⟨by rw[hf,hin,qK],t.hx⟩
   ·simp -implicitDefEqProofs only[vQ,zB,zD,CP,BD,↓reduceIte,jB,enP,LY,MP,ldM t.gm,AET t.gh,AES t.gh]
    rw[hz]
    refine(AJT G m i hi hcg x.bins x.bm hin H).use ?_
    simp -implicitDefEqProofs only[vQ,CP,BD,↓reduceIte,jB]
    exact⟨by rw[hf,hin,qF,Bool.not_not],t.hx⟩
 have hf:U0 m x=ptF x (ALI m x.idx):=by unfold U0; rw[if_neg (by rw[hc]; decide)]
 have l1:=AET t.gh
 have l2:=AES t.gh
 rcases PL x.idx m.pts.length with hz | ⟨i,hi,hz⟩
 ·rw[AEC hz] at hf; change U0 m x=false at hf
  cases d0:decide (x.idx < 0)
  ·have d1:decide (x.idx≥(m.pts.length:Int))=true:=by rw[decide_eq_true_eq]; rw[decide_eq_false_iff_not] at d0; omega
   simp -implicitDefEqProofs only[vQ,CP,BD,EW,↓reduceIte,jB,enP,OE,GU,LY,l1,d0,TC t.gm,jH,d1]
   exact⟨by rw[hf],t.hx⟩
  ·simp -implicitDefEqProofs only[vQ,CP,BD,EW,↓reduceIte,jB,enP,LY,l1,d0]
   exact⟨by rw[hf],t.hx⟩
 rw[hz,AC9 hi] at hf
 change U0 m x=AE8 m.pts[i] x.bins at hf
 rw[hz] at l1
 rcases Classical.em (x.bins.length=1) with hl | hl
 case inr =>
  have hne:((x.bins.length:Int) == 1)=false:=by simp; omega
  simp -implicitDefEqProofs only[vQ,CP,BD,↓reduceIte,jB,enP,OE,GU,IZ,LY,MP,l1,l2,RI,TC t.gm,jH,UX hi,bne,hne]
  exact⟨by rw[hf,AE6 hl],t.hx⟩
 obtain⟨b,hb1⟩:=YT hl
 rw[hb1] at l2 hf
 have h01:0 < ([b]:List Int).length:=by simp
 have i0:J3 1 H (.sl x.bm 1 [qencI b]) (.int .i64 0)=some (.fptr 1 [qencI b] 0 0):=DN (k:=1) h01
 have hne:(((([qencI b]:List (List AV)).length:Nat):Int) == 1)=true:=rfl
 have lb:D8 Tryz.prog H 3 (.fptr 1 [qencI b] 0 0)=some (.int .i64 b):=(CY ag3 h01).trans rfl
 simp -implicitDefEqProofs only[vQ,CP,BD,↓reduceIte,jB,jU,enP,PG,OE,GU,IB,IZ,LY,MP,IE,l1,l2,RI,TC t.gm,jH,UX hi,bne,hne,DN hi,CY RD hi,NG,i0,lb]
 rcases PL b m.pts[i].bins.length with hb2 | ⟨k,hk,rfl⟩
 ·rw[ABR hb2] at hf
  cases d0:decide (b≥0)
  ·simp -implicitDefEqProofs only[vQ,CP,BD,EW,↓reduceIte,jB,d0]
   exact⟨by rw[hf],t.hx⟩
  ·have d1:decide (b < (m.pts[i].bins.length:Int))=false:=by rw[decide_eq_false_iff_not]; rw[decide_eq_true_eq] at d0; omega
   simp -implicitDefEqProofs only[vQ,CP,BD,EW,↓reduceIte,jB,enP,IB,MP,PE,d0,l2,i0,lb,jH,d1]
   exact⟨by rw[hf],t.hx⟩
 ·rw[AE7 hk] at hf
  simp -implicitDefEqProofs only[vQ,CP,BD,↓reduceIte,jB,enP,IB,MP,SA,PE,ND,AMG,l2,i0,lb,jH,AL2 hk,DN hk,CY ag3 hk,QV]
  exact⟨by rw[hf],t.hx⟩
end
abbrev dot:ByteArray:=⟨#[46]⟩
abbrev comma:ByteArray:=⟨#[44]⟩
def YK (m:Mo)(p b:Int):ByteArray:=match (IX m p)[b.toNat]? with
 | some x=>x.name
 | none=>⟨#[]⟩
def prN (m:Mo):ByteArray→Bool→List Int→List Int→ByteArray
 | s,f,p :: ps,b :: bs=>prN m ((if f=true then s else s++comma)++YK m p b) false ps bs
 | s,_,_,_=>s
def prC (m:Mo)(x:Hl):Option Cr→ByteArray
 | some c=>prN m (c.name++dot) true c.pts x.bins
 | none=>⟨#[]⟩
def prP (m:Mo)(x:Hl):Option Pt→ByteArray
 | some p=>p.name++dot++YK m x.idx (x.bins.headD 0)
 | none=>⟨#[]⟩
def prH (m:Mo)(x:Hl):ByteArray:=if QF m x=true then (if x.cross=true then prC m x (AGY m x.idx) else prP m x (ALI m x.idx)) else ⟨#[]⟩
theorem UI {m:Mo}{x:Hl}(hv:QF m x=true)(hc:x.cross=true) : ∃ i,∃ hi:i < m.crs.length,x.idx=(i:Int)∧JV (szs m m.crs[i].pts) x.bins=true∧PH m m.crs[i] x.bins=true∧Cov.Good m:=by
 unfold QF at hv
 rw[jX] at hv
 obtain⟨h0,hf⟩:=hv
 unfold U0 at hf
 rw[if_pos hc] at hf
 rcases PL x.idx m.crs.length with hz | ⟨i,hi,hz⟩
 ·rw[AFO hz] at hf; exact Bool.noConfusion (show false=true from hf)
 ·rw[hz,Q7 hi] at hf
  change (JV (szs m m.crs[i].pts) x.bins && PH m m.crs[i] x.bins)=true at hf
  rw[jX] at hf
  exact⟨i,hi,hz,hf.1,hf.2,NY (by simpa using h0)⟩
theorem UH {m:Mo}{x:Hl}(hv:QF m x=true)(hc:x.cross=false) : ∃ i,∃ hi:i < m.pts.length,∃ k,∃ hk:k < m.pts[i].bins.length,x.idx=(i:Int)∧x.bins = [(k:Int)]∧m.pts[i].bins[k].kind=0∧Cov.Good m:=by
 unfold QF at hv
 rw[jX] at hv
 obtain⟨h0,hf⟩:=hv
 unfold U0 at hf
 rw[if_neg (by rw[hc]; decide)] at hf
 rcases PL x.idx m.pts.length with hz | ⟨i,hi,hz⟩
 ·rw[AEC hz] at hf; exact Bool.noConfusion (show false=true from hf)
 ·rw[hz,AC9 hi] at hf
  change AE8 m.pts[i] x.bins=true at hf
  rcases Classical.em (x.bins.length=1) with hl | hl
  ·obtain⟨b,hb⟩:=YT hl
   rw[hb] at hf
   rcases PL b m.pts[i].bins.length with hb2 | ⟨k,hk,rfl⟩
   ·rw[ABR hb2] at hf; exact Bool.noConfusion (show false=true from hf)
   ·rw[AE7 hk] at hf
    exact⟨i,hi,k,hk,hz,hb,by simpa using hf,NY (by simpa using h0)⟩
  ·rw[AE6 hl] at hf; exact Bool.noConfusion (show false=true from hf)
theorem AQZ {a b:ByteArray}(h:a.size+b.size≤9223372036854775807):JY Tryz.prog 9 .add (.str a) (.str b)=some (.str (a++b)):=by
 show AP3 .add a b=_
 unfold AP3
 have hm:IntKind.i64.max=9223372036854775807:=by decide
 simp only
 rw[if_pos (by rw[hm]; omega)]
theorem AM3:dot.size=1:=rfl
section
variable (G:Nat→AV)
end
theorem foldl_mul : ∀ (l:List Nat) (a:Nat),l.foldl (· * ·) a=a * l.foldl (· * ·) 1
 | [],a=>(Nat.mul_one a).symm
 | n :: l,a=>by
   show l.foldl (· * ·) (a * n)=a * l.foldl (· * ·) (1 * n)
   rw[foldl_mul l (a * n),foldl_mul l (1 * n),wZ,Nat.mul_assoc]
theorem AEE (n:Nat)(ns:List Nat):H8 (n :: ns)=n * H8 ns:=by
 unfold H8
 show ns.foldl (· * ·) (1 * n)=_
 rw[wZ,foldl_mul]
theorem AHJ : ∀ {ns:List Nat},(∀ n∈ns,1≤n)→1≤H8 ns
 | [],_=>Nat.le_refl 1
 | n :: ns,h=>by
   rw[AEE]
   exact Nat.mul_le_mul (h n List.mem_cons_self) (AHJ fun k hk=>h k (wO _ hk))
theorem AXC : ∀ {ns:List Nat} {l:List Int} {z:Nat},JV ns l=true→(∀ n∈ns,1≤n)→(z+1) * H8 ns≤4611686018427387904→∃ r:Nat,V5 ns l (z:Int)=((z * H8 ns+r:Nat):Int)∧r < H8 ns
 | [],[],z,_,_,_=>⟨0,by show(z:Int)=((z * 1+0:Nat):Int); omega,by decide⟩
 | [],_ :: _,_,h,_,_=>by simp [JV] at h
 | _ :: _,[],_,h,_,_=>by simp [JV] at h
 | n :: ns,x :: xs,z,h,h1,hb=>by
   simp only[JV,jX,decide_eq_true_eq] at h
   obtain⟨⟨x0,x1⟩,hr⟩:=h
   have hP:=AHJ (ns:=ns) fun k hk=>h1 k (wO _ hk)
   rw[AEE] at hb ⊢
   obtain⟨y,rfl⟩ : ∃ y:Nat,x=(y:Int):=⟨x.toNat,by omega⟩
   have hy:y < n:=by omega
   generalize hp:H8 ns=P at hP hb ⊢
   have e1:(z+1) * (n * P)=(z * n+n) * P:=by rw[← Nat.mul_assoc,zZ,wZ]
   have e2:(z * n+n)≤(z * n+n) * P:=Nat.le_mul_of_pos_right _ hP
   have e3:(z * n+y+1) * P≤(z * n+n) * P:=wJ P (by omega)
   have w1:IntKind.i64.wrap ((z:Int) * (n:Int))=((z * n:Nat):Int):=by rw[← Int.natCast_mul]; exact LQ (by omega)
   have w2:IntKind.i64.wrap (((z * n:Nat):Int)+(y:Int))=((z * n+y:Nat):Int):=by rw[← Int.natCast_add]; exact LQ (by omega)
   obtain⟨r,r1,r2⟩:=AXC (z:=z * n+y) hr (fun k hk=>h1 k (wO _ hk)) (by rw[hp]; omega)
   rw[hp] at r1 r2
   refine⟨y * P+r,?_,?_⟩
   ·show V5 ns xs (IntKind.i64.wrap (IntKind.i64.wrap ((z:Int) * (n:Int))+(y:Int)))=_
    rw[w1,w2,r1]
    congr 1
    rw[zZ,Nat.mul_assoc]
    omega
   ·have:(y+1) * P≤n * P:=wJ P hy
    rw[zZ,wZ] at this
    omega
theorem AME {m:Mo}(hg:Cov.Good m){i:Nat}(hi:i < m.crs.length){l:List Int}(hin:JV (szs m m.crs[i].pts) l=true) : ∃ k:Nat,V5 (szs m m.crs[i].pts) l 0=(k:Int)∧k < H8 (szs m m.crs[i].pts):=by
 have hcg:=hg.crs _ (jP hi)
 have hs:=hg.full.szs hcg.here
 have hfour:=hcg.four
 have hp:H8 (szs m m.crs[i].pts)≤64 ^ 4:=ALJ _ 4 (fun n hn=>(hs n hn).2) (by rw[LG]; exact hfour)
 obtain⟨r,r1,r2⟩:=AXC (z:=0) hin (fun n hn=>(hs n hn).1) (by omega)
 exact⟨r,by rw[show(0:Int)=((0:Nat):Int) from rfl,r1,Nat.zero_mul,jG],r2⟩
end Go.Proofs.YtfpagfhhhlljjaaGreatDoor.Ho
set_option linter.unusedSimpArgs false
set_option maxRecDepth 8000
namespace Go.Proofs.YtfpagfhhhlljjaaGreatDoor.Ho
open Sm Bins Cov Xe Go.RowKit
open Bool renaming not_false→jC,and_eq_true→jX,not_true→jU
open List renaming getElem?_eq_getElem→jS,map_cons→jD,map_nil→jE,append_nil→jF,getElem?_cons_zero→zB,getElem?_cons_succ→zD,getElem_mem→jP,length_map→jH,getElem?_append_left→zO
open Nat renaming le_of_ble_eq_true→jI,reduceEqDiff→jB,add_zero→jK,reduceAdd→jM,zero_add→jG
open Option renaming getD_some→jA,getD_none→jT
theorem AHE {m:Mo} : ∀ {l:List (List Sg)} {s:St},FitS m s→(TA m s l).1=0→FitS m (TA m s l).2
 | [],_,h,_=>h
 | e :: r,s,h,h0=>by
   unfold TA at h0 ⊢
   split
   ·rename_i hn
    rw[if_pos hn] at h0
    exact absurd h0 hn
   ·rename_i hn
    rw[if_neg hn] at h0
    exact AHE (h.step (Classical.byContradiction hn)) h0
theorem AK6 {m:Mo}{l:List (List Sg)}(h0:FX m=0)(h:QX m l=0):LC m (UO m l)=true:=by
 unfold QX at h
 rw[if_pos h0] at h
 unfold UO
 rw[if_pos ⟨h0,h⟩]
 exact(AHE (AU8 h0) h).fits
theorem AVZ {m:Mo}{l:List (List Sg)}(h0:FX m=0)(h:QX m l=0):LC m (rnR m l).1=true:=by
 rw[AT6 (AIV m l).1]; exact AK6 h0 h
theorem ASE {m:Mo}{c:Cvr}(hf:LC m c=true){i k:Nat}(hi:i < m.pts.length)(hk:k < m.pts[i].bins.length) : ∃ hi:i < c.pts.length,∃ hk:k < c.pts[i].l.length,cellAt c.pts i k=c.pts[i].l[k]:=by
 obtain⟨_,h1,_⟩:=RP.1 hf
 obtain⟨x,e,ho⟩:=AAJ h1 i m.pts[i] (jS hi)
 exact AIC (AXB e (ARF ho) hk)
theorem ASF {m:Mo}{c:Cvr}(hf:LC m c=true){i k:Nat}(hi:i < m.crs.length)(hk:k < H8 (szs m m.crs[i].pts)) : ∃ hi:i < c.crs.length,∃ hk:k < c.crs[i].l.length,cellAt c.crs i k=c.crs[i].l[k]:=by
 obtain⟨_,_,h2,_⟩:=RP.1 hf
 obtain⟨x,e,ho⟩:=AAJ h2 i m.crs[i] (jS hi)
 exact AIC (AXB e (ARI ho) hk)
def TU (m:Mo)(x:Hl)(c:Cvr):Int:=if x.cross=true then (match AGY m x.idx with
    | some r=>cellAt c.crs x.idx.toNat (ixV (szs m r.pts) x.bins).toNat
    | none=>0) else cellAt c.pts x.idx.toNat (x.bins.headD 0).toNat
def htV (m:Mo)(x:Hl)(c:Cvr)(e:Int):Bool × Int:=if QF m x=true then (if e=0 then (decide (TU m x c > 0),0) else (false,e)) else (false,1)
theorem AUJ {m:Mo}{x:Hl}{a b:Cvr}(h:AAR a=AAR b):TU m x a=TU m x b:=by
 have h1:a.pts.map (·.l)=b.pts.map (·.l):=congrArg Dat.pts h
 have h2:a.crs.map (·.l)=b.crs.map (·.l):=congrArg Dat.crs h
 unfold TU
 split
 ·split
  ·rw[AAT,AAT,h2]
  ·rfl
 ·rw[AAT,AAT,h1]
theorem A4C (m:Mo)(x:Hl)(l:List (List Sg)):htV m x (rnR m l).1 (rnR m l).2=htV m x (UO m l) (QX m l):=by
 unfold htV
 rw[(AIV m l).2,AUJ (AIV m l).1]
structure H3 (h H:Hp) (m:Mo) (x:Hl) (c:Cvr) (hb cb:Nat):Prop where
 gm:H[h.length]? = some (ABlk.live 2 [EE m])
 gh:H[hb]? = some (ABlk.live 3 [JD x])
 gc:H[cb]? = some (ABlk.live 4 [encV c])
 hx:ext h H
theorem A6A {H:Hp}{b:Nat}{c:Cvr}(hb:H[b]? = some (.live 4 [encV c])):D8 Tryz.prog H 67 (.ptr b 0 0)=some (.sl c.pm 1 (c.pts.map encL)):=by rw[DY UE hb (row:=encV c) rfl]; rfl
theorem A59 {H:Hp}{b:Nat}{c:Cvr}(hb:H[b]? = some (.live 4 [encV c])):D8 Tryz.prog H 67 (.ptr b 0 1)=some (.sl c.cm 1 (c.crs.map encL)):=by rw[DY UE hb (row:=encV c) rfl]; rfl
section
variable (G:Nat→AV)
set_option maxHeartbeats 2000000 in
theorem hit_prog (hG:GOk G)(hT:VW G)(m:Mo)(hm:MoOk m)(x:Hl)(hn:x.bins.length≤1048576)(l:List Ss)(s:SM)(h:Hp)(hl:l.length≤1048576)(he : ∀ x∈l,x.l.length≤1048576∧∀ s∈x.l,XF s) :
  PCall (En G) 19 [.agg (EE m),.agg (JD x),.sl s 1 (l.map TQ)] h (.tup [.bool (htV m x (UO m (l.map Ss.l)) (QX m (l.map Ss.l))).1,.int .i64 (htV m x (UO m (l.map Ss.l)) (QX m (l.map Ss.l))).2]):=by
 refine ACalls.pure 2 (R:=fun v H=>v = .tup [.bool (htV m x (UO m (l.map Ss.l)) (QX m (l.map Ss.l))).1,.int .i64 (htV m x (UO m (l.map Ss.l)) (QX m (l.map Ss.l))).2]∧ext h H) ?_ (fun v h' ⟨e,x⟩=>⟨x,by subst e; rfl⟩)
 refine acN Tryz.func19 rfl ?_
 show awp _ _ _ _ _ (EM _ [.tmp 6,.tmp 7] _)
 have t:=Hb.mk' h m x
 simp -implicitDefEqProofs only[vQ,BD,↓reduceIte,jB,enP,bxM,bxH]
 generalize h++[ABlk.live 2 [EE m]]++[ABlk.live 3 [JD x]]=H at t ⊢
 generalize (h++[ABlk.live 2 [EE m]]).length=hb at t ⊢
 simp -implicitDefEqProofs only[vQ,BD,↓reduceIte,jB,enP,ldM t.gm,ldH t.gh]
 refine(valid_prog G hG m hm x hn H).use ?_
 cases hv:QF m x
 ·have hr:htV m x (UO m (l.map Ss.l)) (QX m (l.map Ss.l))=(false,1):=by unfold htV; rw[if_neg (by rw[hv]; decide)]
  simp -implicitDefEqProofs only[vQ,BD,↓reduceIte,jB]
  exact⟨by rw[hr],t.hx⟩
 have h0:FX m=0:=by unfold QF at hv; rw[jX] at hv; simpa using hv.1
 simp -implicitDefEqProofs only[vQ,BD,↓reduceIte,jB,jU,enP,ldM t.gm]
 refine(AY4 G hG hT m hm l s H hl (fun x hx=>(he x hx).1)).use ?_
 have hfit:=fun e=>AK6 (m:=m) (l:=l.map Ss.l) h0 e
 generalize UO m (l.map Ss.l)=c at hfit ⊢
 generalize QX m (l.map Ss.l)=e at hfit ⊢
 have t':H3 h (H++[ABlk.live 4 [encV c]]) m x c hb H.length:=⟨CX t.gm,CX t.gh,CZ _ _,t.hx.app _⟩
 simp -implicitDefEqProofs only[vQ,zB,zD,BD,↓reduceIte,jB,enP,jT,PU,AVP,bne]
 generalize H++[ABlk.live 4 [encV c]]=H1 at t' ⊢
 generalize H.length=cb at t' ⊢
 cases hz:(e == 0)
 ·have hz':e≠0:=by simpa using hz
  have hr:htV m x c e=(false,e):=by unfold htV; rw[if_pos hv,if_neg hz']
  simp -implicitDefEqProofs only[vQ,BD,↓reduceIte,jB]
  exact⟨by rw[hr],t'.hx⟩
 have hz':e=0:=by simpa using hz
 have hf:=hfit hz'
 have hr:htV m x c e=(decide (TU m x c > 0),0):=by unfold htV; rw[if_pos hv,if_pos hz']
 rw[hr]
 clear hr hfit t
 have l1:=AET t'.gh
 have l2:=AES t'.gh
 simp -implicitDefEqProofs only[vQ,BD,↓reduceIte,jB,jU,enP,XA,AOY t'.gh]
 cases hc:x.cross
 ·obtain⟨i,hi,k,hk,hzi,hbn,_,hg⟩:=UH hv hc
  rw[hzi] at l1
  rw[hbn] at l2
  have h01:0 < ([(k:Int)]:List Int).length:=by simp
  have i0:J3 1 H1 (.sl x.bm 1 [qencI k]) (.int .i64 0)=some (.fptr 1 [qencI k] 0 0):=DN (k:=1) h01
  have lb:D8 Tryz.prog H1 3 (.fptr 1 [qencI k] 0 0)=some (.int .i64 k):=(CY ag3 h01).trans rfl
  obtain⟨hi2,hk2,hcell⟩:=ASE hf hi hk
  have hce:TU m x c=c.pts[i].l[k]:=by
   unfold TU
   rw[if_neg (by rw[hc]; decide),hzi,hbn]
   exact hcell
  simp -implicitDefEqProofs only[vQ]
  refine EY (by kernel_rfl) ?_
  simp -implicitDefEqProofs only[vQ,↓reduceIte,jB,jM,enP,IB,LY,MP,PO,OO,l1,l2,A6A t'.gc,DN hi2,CY KO hi2,PT,i0,lb,DN hk2,CY ag3 hk2,Bins.encI0]
  exact⟨by rw[hce],t'.hx⟩
 obtain⟨i,hi,hzi,hin,_,hg⟩:=UI hv hc
 have hcg:=hg.crs _ (jP hi)
 obtain⟨k,hk1,hk⟩:=AME hg hi hin
 have hiv:ixV (szs m m.crs[i].pts) x.bins=(k:Int):=by unfold ixV; rw[if_pos hin,hk1]
 rw[hzi] at l1
 obtain⟨hi2,hk2,hcell⟩:=ASF hf hi hk
 have hce:TU m x c=c.crs[i].l[k]:=by
  unfold TU
  rw[if_pos hc,hzi,Q7 hi]
  show cellAt c.crs i (ixV (szs m m.crs[i].pts) x.bins).toNat=_
  rw[hiv]
  exact hcell
 simp -implicitDefEqProofs only[vQ,BD,↓reduceIte,jB,jU,enP,LY,MP,ldM t'.gm,l1,l2]
 refine(WU G m i hi hcg x.bins x.bm hn H1).use ?_
 rw[hiv]
 simp -implicitDefEqProofs only[vQ,zB,zD,BD,↓reduceIte,jB,enP,IB,LY,PO,N8,l1,A59 t'.gc,DN hi2,CY KO hi2,PT,DN hk2,CY ag3 hk2,Bins.encI0]
 exact⟨by rw[hce],t'.hx⟩
set_option maxHeartbeats 2000000 in
theorem AXE (m:Mo)(hm:MoOk m)(x:Hl)(hn:x.bins.length≤1048576)(l:List Ss)(s:SM)(h:Hp)(hl:l.length≤1048576)(he : ∀ x∈l,x.l.length≤1048576∧∀ s∈x.l,XF s) :
  PCall (En G) 20 [.agg (EE m),.agg (JD x),.sl s 1 (l.map TQ)] h (.tup [.bool (htV m x (rnR m (l.map Ss.l)).1 (rnR m (l.map Ss.l)).2).1,.int .i64 (htV m x (rnR m (l.map Ss.l)).1 (rnR m (l.map Ss.l)).2).2]):=by
 refine ACalls.pure 2 (R:=fun v H=>v = .tup [.bool (htV m x (rnR m (l.map Ss.l)).1 (rnR m (l.map Ss.l)).2).1,.int .i64 (htV m x (rnR m (l.map Ss.l)).1 (rnR m (l.map Ss.l)).2).2]∧ext h H) ?_ (fun v h' ⟨e,x⟩=>⟨x,by subst e; rfl⟩)
 refine acN Tryz.func20 rfl ?_
 show awp _ _ _ _ _ (EM _ [.tmp 6,.tmp 7] _)
 have t:=Hb.mk' h m x
 simp -implicitDefEqProofs only[vQ,BD,↓reduceIte,jB,enP,bxM,bxH]
 generalize h++[ABlk.live 2 [EE m]]++[ABlk.live 3 [JD x]]=H at t ⊢
 generalize (h++[ABlk.live 2 [EE m]]).length=hb at t ⊢
 simp -implicitDefEqProofs only[vQ,BD,↓reduceIte,jB,enP,ldM t.gm,ldH t.gh]
 refine(valid_ref G m hm x hn H).use ?_
 cases hv:QF m x
 ·have hr:htV m x (rnR m (l.map Ss.l)).1 (rnR m (l.map Ss.l)).2=(false,1):=by unfold htV; rw[if_neg (by rw[hv]; decide)]
  simp -implicitDefEqProofs only[vQ,BD,↓reduceIte,jB]
  exact⟨by rw[hr],t.hx⟩
 have h0:FX m=0:=by unfold QF at hv; rw[jX] at hv; simpa using hv.1
 simp -implicitDefEqProofs only[vQ,BD,↓reduceIte,jB,jU,enP,ldM t.gm]
 refine(A17 G m hm l s H hl he).use ?_
 have hfit:(rnR m (l.map Ss.l)).2=0→LC m (rnR m (l.map Ss.l)).1=true:=fun e=>AVZ (m:=m) (l:=l.map Ss.l) h0 (by rw[← (AIV m _).2]; exact e)
 generalize rnR m (l.map Ss.l)=ce at hfit ⊢
 obtain⟨c,e⟩:=ce
 change e=0→LC m c=true at hfit
 have t':H3 h (H++[ABlk.live 4 [encV c]]) m x c hb H.length:=⟨CX t.gm,CX t.gh,CZ _ _,t.hx.app _⟩
 simp -implicitDefEqProofs only[vQ,zB,zD,BD,↓reduceIte,jB,enP,jT,PU,AVP,bne]
 generalize H++[ABlk.live 4 [encV c]]=H1 at t' ⊢
 generalize H.length=cb at t' ⊢
 cases hz:(e == 0)
 ·have hz':e≠0:=by simpa using hz
  have hr:htV m x c e=(false,e):=by unfold htV; rw[if_pos hv,if_neg hz']
  simp -implicitDefEqProofs only[vQ,BD,↓reduceIte,jB]
  exact⟨by rw[hr],t'.hx⟩
 have hz':e=0:=by simpa using hz
 have hf:=hfit hz'
 have hr:htV m x c e=(decide (TU m x c > 0),0):=by unfold htV; rw[if_pos hv,if_pos hz']
 rw[hr]
 clear hr hfit t
 have l1:=AET t'.gh
 have l2:=AES t'.gh
 simp -implicitDefEqProofs only[vQ,BD,↓reduceIte,jB,jU,enP,XA,AOY t'.gh]
 cases hc:x.cross
 ·obtain⟨i,hi,k,hk,hzi,hbn,_,hg⟩:=UH hv hc
  rw[hzi] at l1
  rw[hbn] at l2
  have h01:0 < ([(k:Int)]:List Int).length:=by simp
  have i0:J3 1 H1 (.sl x.bm 1 [qencI k]) (.int .i64 0)=some (.fptr 1 [qencI k] 0 0):=DN (k:=1) h01
  have lb:D8 Tryz.prog H1 3 (.fptr 1 [qencI k] 0 0)=some (.int .i64 k):=(CY ag3 h01).trans rfl
  obtain⟨hi2,hk2,hcell⟩:=ASE hf hi hk
  have hce:TU m x c=c.pts[i].l[k]:=by
   unfold TU
   rw[if_neg (by rw[hc]; decide),hzi,hbn]
   exact hcell
  simp -implicitDefEqProofs only[vQ]
  refine EY (by kernel_rfl) ?_
  simp -implicitDefEqProofs only[vQ,↓reduceIte,jB,jM,enP,IB,LY,MP,PO,OO,l1,l2,A6A t'.gc,DN hi2,CY KO hi2,PT,i0,lb,DN hk2,CY ag3 hk2,Bins.encI0]
  exact⟨by rw[hce],t'.hx⟩
 obtain⟨i,hi,hzi,hin,_,hg⟩:=UI hv hc
 have hcg:=hg.crs _ (jP hi)
 obtain⟨k,hk1,hk⟩:=AME hg hi hin
 have hiv:ixV (szs m m.crs[i].pts) x.bins=(k:Int):=by unfold ixV; rw[if_pos hin,hk1]
 rw[hzi] at l1
 obtain⟨hi2,hk2,hcell⟩:=ASF hf hi hk
 have hce:TU m x c=c.crs[i].l[k]:=by
  unfold TU
  rw[if_pos hc,hzi,Q7 hi]
  show cellAt c.crs i (ixV (szs m m.crs[i].pts) x.bins).toNat=_
  rw[hiv]
  exact hcell
 simp -implicitDefEqProofs only[vQ,BD,↓reduceIte,jB,jU,enP,LY,MP,ldM t'.gm,l1,l2]
 refine(YD G m i hi hcg x.bins x.bm hn H1).use ?_
 rw[hiv]
 simp -implicitDefEqProofs only[vQ,zB,zD,BD,↓reduceIte,jB,enP,IB,LY,PO,N8,l1,A59 t'.gc,DN hi2,CY KO hi2,PT,DN hk2,CY ag3 hk2,Bins.encI0]
 exact⟨by rw[hce],t'.hx⟩
theorem hit_ref (m:Mo)(hm:MoOk m)(x:Hl)(hn:x.bins.length≤1048576)(l:List Ss)(s:SM)(h:Hp)(hl:l.length≤1048576)(he : ∀ x∈l,x.l.length≤1048576∧∀ s∈x.l,XF s) :
  PCall (En G) 20 [.agg (EE m),.agg (JD x),.sl s 1 (l.map TQ)] h (.tup [.bool (htV m x (UO m (l.map Ss.l)) (QX m (l.map Ss.l))).1,.int .i64 (htV m x (UO m (l.map Ss.l)) (QX m (l.map Ss.l))).2]):=by
 rw[← A4C]
 exact AXE G m hm x hn l s h hl he
end
section
variable (G:Nat→AV)
theorem A1S (l:List Sg)(s:SM)(hn:l.length≤1048576)(h:Hp):Rk.SomeB (En G) 42 [.sl s 2 (l.map G8)] h:=by
 refine Rk.SomeB.of ?_
 refine acN Tryz.func42 rfl ?_
 show awp _ _ _ _ _ (EM _ [.tmp 2] _)
 simp -implicitDefEqProofs only[vQ,BD,enP]
 refine DL (fun n F H => ∃ i,n+i=l.length∧F 0 = .sl s 2 (l.map G8)∧F 3 = .int .i64 (i:Nat)∧H=h) l.length ⟨0,by simp,by simp -implicitDefEqProofs only[vQ,↓reduceIte,jB],by simp -implicitDefEqProofs only[AA,↓reduceIte] <;> rfl,rfl⟩ ?_
 rintro n F H ⟨i,hi,f0,f3,rfl⟩
 simp -implicitDefEqProofs only[vQ,CP,BD,↓reduceIte,jB,enP,AWO,f0,f3,jH]
 cases hc:decide (((i:Nat):Int) < ((l.length:Nat):Int))
 ·simp -implicitDefEqProofs only[vQ,CP,BD,EW,↓reduceIte,jB,enP,AWO,f0,jH]
  exact⟨⟨_,rfl⟩,ext.rfl' _⟩
 have hi':i < l.length:=by simpa using hc
 simp -implicitDefEqProofs only[vQ,CP,BD,↓reduceIte,jB,enP,f3]
 refine CU (fun hb => ?_) (fun hb => ?_)
 ·simp -implicitDefEqProofs only[vQ,BD,↓reduceIte,jB,enP,ln9,APB,A0U,f0,f3,DN hi',CY ag9 hi',A4J]
  refine CU (fun hd => ?_) (fun hd => ?_)
  ·simp -implicitDefEqProofs only[vQ,BD,↓reduceIte]
   exact⟨⟨_,rfl⟩,ext.rfl' _⟩
  ·simp -implicitDefEqProofs only[vQ,BD,↓reduceIte,jB,enP,f3,wrap_succ (show i < 9223372036854775807 by omega)]
   exact⟨n - 1,by omega,i+1,by omega,by trivial,by trivial,trivial⟩
 ·simp -implicitDefEqProofs only[vQ,BD,↓reduceIte,jB,enP,AWO,f0,jH]
  exact⟨⟨_,rfl⟩,ext.rfl' _⟩
theorem A1R (l:List Ss)(s:SM)(hn:l.length≤1048576)(he : ∀ x∈l,x.l.length≤1048576)(h:Hp):Rk.SomeB (En G) 18 [.sl s 1 (l.map TQ)] h:=by
 refine Rk.SomeB.of ?_
 refine acN Tryz.func18 rfl ?_
 show awp _ _ _ _ _ (EM _ [.tmp 2] _)
 simp -implicitDefEqProofs only[vQ,BD,enP]
 refine DL (fun n F H => ∃ i,n+i=l.length∧F 0 = .sl s 1 (l.map TQ)∧F 3 = .int .i64 (i:Nat)∧H=h) l.length ⟨0,by simp,by simp -implicitDefEqProofs only[vQ,↓reduceIte,jB],by simp -implicitDefEqProofs only[AA,↓reduceIte] <;> rfl,rfl⟩ ?_
 rintro n F H ⟨i,hi,f0,f3,rfl⟩
 simp -implicitDefEqProofs only[vQ,CP,BD,↓reduceIte,jB,enP,AWP,f0,f3,jH]
 cases hc:decide (((i:Nat):Int) < ((l.length:Nat):Int))
 ·simp -implicitDefEqProofs only[vQ,CP,BD,EW,↓reduceIte,jB,enP,AWP,f0,jH]
  exact⟨⟨_,rfl⟩,ext.rfl' _⟩
 have hi':i < l.length:=by simpa using hc
 simp -implicitDefEqProofs only[vQ,CP,BD,↓reduceIte,jB,enP,f3]
 refine CU (fun hb => ?_) (fun hb => ?_)
 ·simp -implicitDefEqProofs only[vQ,BD,↓reduceIte,jB,enP,A4A,f0,f3,DN hi',CY A13 hi',APD]
  refine(A1S G l[i].l l[i].m (he _ (jP hi')) _).use ?_
  intro b
  cases b
  ·simp -implicitDefEqProofs only[vQ,BD,↓reduceIte]
   exact⟨⟨_,rfl⟩,ext.rfl' _⟩
  ·simp -implicitDefEqProofs only[vQ,BD,↓reduceIte,jB,jU,enP,f3,wrap_succ (show i < 9223372036854775807 by omega)]
   exact⟨n - 1,by omega,i+1,by omega,by trivial,by trivial,trivial⟩
 ·simp -implicitDefEqProofs only[vQ,BD,↓reduceIte,jB,enP,AWP,f0,jH]
  exact⟨⟨_,rfl⟩,ext.rfl' _⟩
end
def SomeI (E:Env)(f:FuncId)(args:List AV)(h:Hp):Prop:=ACalls E f args h fun v H=>(∃ n:Int,v = .int .i64 n)∧H=h
theorem SomeI.of {E:Env}{f:FuncId}{args:List AV}{h:Hp}(hc:ACalls E f args h fun v H=>(∃ n:Int,v = .int .i64 n)∧ext h H):SomeI E f args h :=
 hc.trunc fun v H hR=>by
  obtain⟨⟨b,rfl⟩,x,rfl⟩:=hR
  exact⟨1,h,rfl,fun b hb => .inr (.inl ⟨by rw[zO hb],by rw[zO hb]⟩),⟨b,rfl⟩,rfl⟩
theorem SomeI.use {E:Env}{f:FuncId}{args:List AV}{h:Hp}{K:AV→Hp→Prop}(hc:SomeI E f args h)(hk : ∀ n:Int,K (.int .i64 n) h):ACalls E f args h K :=
 ACalls.mono hc fun v H ⟨⟨b,e⟩,e2⟩=>by rw[e,e2]; exact hk b
theorem APM (G:Nat→AV) : ∀ (w:Nat) (e:Ex) (n:Int) (h:Hp),wt e≤w→wt e≤1048576→SomeI (En G) 48 [.agg (DX e),.int .i64 n] h:=by
 intro w
 induction w with
 | zero=>intro e n h h1 _; have:=NF e; omega
 | succ w ih =>
   intro e n h h1 h2
   have hlen:=VA e.args
   have hwt:=NF e
   refine SomeI.of ?_
   refine acN Tryz.func48 rfl ?_
   show awp _ _ _ _ _ (EM _ [.tmp 4] _)
   have hb:=CZ h (.live 4 [DX e])
   have hx:ext h (h++[.live 4 [DX e]]):=(ext.rfl' h).app _
   simp -implicitDefEqProofs only[vQ,BD,enP,bxE]
   generalize h++[.live 4 [DX e]]=H at hb hx ⊢
   refine DL (fun N F H' => ∃ k z,N+k=e.args.length∧F 1 = .int .i64 n∧F 2 = .ptr h.length 0 0∧F 5 = .int .i64 z∧F 6 = .int .i64 (k:Nat)∧H'=H) e.args.length ⟨0,1,by simp,by simp -implicitDefEqProofs only[vQ,↓reduceIte,jB],by simp -implicitDefEqProofs only[AA,↓reduceIte,jB],by simp -implicitDefEqProofs only[AA,↓reduceIte,jB] <;> rfl,by simp -implicitDefEqProofs only[AA,↓reduceIte] <;> rfl,rfl⟩ ?_
   rintro N F H' ⟨k,z,hk,f1,f2,f5,f6,rfl⟩
   simp -implicitDefEqProofs only[vQ,CP,BD,↓reduceIte,jB,enP,WS,OA,f2,f6,Rk.ldE' hb,jH]
   cases hc:decide (((k:Nat):Int) < ((e.args.length:Nat):Int))
   ·simp -implicitDefEqProofs only[vQ,CP,BD,EW,↓reduceIte,jB,f5]
    exact⟨⟨_,rfl⟩,hx⟩
   have hk':k < e.args.length:=by simpa using hc
   have hlt:=Rk.wt_arg hk'
   simp -implicitDefEqProofs only[vQ,CP,BD,↓reduceIte,jB,enP,f1,f5]
   refine CU (fun hd => ?_) (fun hd => ?_)
   ·simp -implicitDefEqProofs only[vQ,BD,↓reduceIte,jB,enP,AAC,OA,f1,f2,f5,f6,Rk.ldE' hb,DN hk',FU X4 N7 JE hk']
    refine(ih e.args[k] _ H' (by omega) (by omega)).use ?_
    intro q
    simp -implicitDefEqProofs only[vQ,BD,↓reduceIte,jB,enP,f6,wrap_succ (show k < 9223372036854775807 by omega)]
    exact⟨N - 1,by omega,k+1,_,by omega,by first | exact True.intro | exact f1,by first | exact True.intro | exact f2,by first | exact True.intro | exact rfl,by first | exact True.intro | exact rfl,by first | exact True.intro | exact rfl⟩
   ·simp -implicitDefEqProofs only[vQ,BD,↓reduceIte,jB,f5]
    exact⟨⟨_,rfl⟩,hx⟩
theorem APA (G:Nat→AV)(e:Ex)(n:Int)(hw:wt e≤1048576)(h:Hp):Rk.SomeB (En G) 25 [.agg (DX e),.int .i64 n] h:=by
 refine Rk.SomeB.of ?_
 refine acN Tryz.func25 rfl ?_
 show awp _ _ _ _ _ (EM _ [.tmp 4] _)
 simp -implicitDefEqProofs only[vQ,BD,↓reduceIte,jB,enP,bxE,ldE]
 refine(APM G _ e n _ (Nat.le_refl _) hw).use ?_
 intro q
 simp -implicitDefEqProofs only[vQ,BD,↓reduceIte,jB,enP]
 exact⟨⟨_,rfl⟩,(ext.rfl' h).app _⟩
end Go.Proofs.YtfpagfhhhlljjaaGreatDoor.Ho
set_option linter.unusedSimpArgs false
set_option maxRecDepth 8000
namespace Go.Proofs.YtfpagfhhhlljjaaGreatDoor.Ho
open Sm Bins Cov Go.RowKit
open Bool renaming and_eq_true→jX,not_false→jC,true_and→qF,false_and→qK,not_true→jU
open List renaming length_map→jH,drop_eq_nil_of_le→jV,map_cons→jD,map_nil→jE,append_nil→jF,getElem_mem→jP,drop_zero→zU,take_of_length_le→jW,length_append→qA
open Nat renaming le_of_ble_eq_true→jI,reduceEqDiff→jB,zero_add→jG,reduceAdd→jM,add_zero→jK,le_refl→jL
open Option renaming getD_some→jA,getD_none→jT
def ACJ (m:Mo)(l:List Int):Bool:=l.all fun p=>decide (0≤p) && decide (p < (m.pts.length:Int))
theorem AT0 {m:Mo}{l:List Int}:ACJ m l=true↔Here m l:=by
 unfold ACJ Here
 rw[List.all_eq_true]
 constructor
 ·intro h p hp
  have:=h p hp
  simp only[jX,decide_eq_true_eq] at this
  exact this
 ·intro h p hp
  have:=h p hp
  simp only[jX,decide_eq_true_eq]
  exact this
section
variable (G:Nat→AV)
theorem AN6 (m:Mo)(i:Nat)(hi:i < m.crs.length)(hl:m.crs[i].pts.length≤1048576)(h:Hp):PCall (En G) 59 [.agg (EE m),.int .i64 (i:Int)] h (.bool (ACJ m m.crs[i].pts)):=by
 refine ACalls.pure0 rfl ?_
 have gm:=CZ h (.live 2 [EE m])
 have hx : ∃ x,h++[ABlk.live 2 [EE m]]=h++x:=⟨_,rfl⟩
 refine acN Tryz.func59 rfl ?_
 show awp _ _ _ _ _ (EM _ [.tmp 4] _)
 simp -implicitDefEqProofs only[vQ,CP,BD,↓reduceIte,jB,enP,P5,UU,IV,JH,bxM,RI,XW gm,jH,UX hi,DN hi,CY KO hi,QJ]
 generalize h++[ABlk.live 2 [EE m]]=H at gm hx ⊢
 refine DL (fun n F H' => ∃ k,n+k=m.crs[i].pts.length∧F 2 = .ptr h.length 0 0∧F 5 = .sl m.crs[i].pm 1 (m.crs[i].pts.map qencI)∧F 6 = .int .i64 (k:Nat)∧H'=H∧ACJ m m.crs[i].pts=ACJ m (m.crs[i].pts.drop k)) m.crs[i].pts.length ⟨0,by simp,by simp -implicitDefEqProofs only[AA,↓reduceIte,jB],by simp -implicitDefEqProofs only[AA,↓reduceIte,jB],by simp -implicitDefEqProofs only[AA,↓reduceIte]; rfl,rfl,rfl⟩ ?_
 rintro n F H' ⟨k,hk,f2,f5,f6,rfl,hp⟩
 simp -implicitDefEqProofs only[vQ,BD,↓reduceIte,jB,enP,IZ,f5,f6,jH]
 refine CU (fun hc => ?_) (fun hc => ?_)
 ·have hk':k < m.crs[i].pts.length:=by simpa using hc
  rw[List.drop_eq_getElem_cons hk'] at hp
  change ACJ m m.crs[i].pts=(decide (0≤m.crs[i].pts[k]) && decide (m.crs[i].pts[k] < (m.pts.length:Int)) && ACJ m (m.crs[i].pts.drop (k+1))) at hp
  simp -implicitDefEqProofs only[vQ]
  refine EY (by kernel_rfl) ?_
  cases e0:decide (m.crs[i].pts[k] < 0)
  ·have p0:decide (0≤m.crs[i].pts[k])=true:=by rw[decide_eq_true_eq]; rw[decide_eq_false_iff_not] at e0; omega
   cases e1:decide (m.crs[i].pts[k]≥(m.pts.length:Int))
   ·have p1:decide (m.crs[i].pts[k] < (m.pts.length:Int))=true:=by rw[decide_eq_true_eq]; rw[decide_eq_false_iff_not] at e1; omega
    rw[p0,p1,qF,qF] at hp
    simp -implicitDefEqProofs only[vQ,SY,CP,BD,↓reduceIte,jB,jM,enP,OE,GU,IB,f2,f5,f6,DN hk',CY ag3 hk',Bins.encI0,e0,TC gm,jH,e1,wrap_succ (show k < 9223372036854775807 by omega)]
    exact⟨n - 1,by omega,k+1,by omega,by first | exact True.intro | exact f2,by first | exact True.intro | exact f5,by first | exact True.intro | exact rfl,by first | exact True.intro | exact rfl,hp⟩
   ·have p1:decide (m.crs[i].pts[k] < (m.pts.length:Int))=false:=by rw[decide_eq_false_iff_not]; rw[decide_eq_true_eq] at e1; omega
    rw[p1,Bool.and_false,qK] at hp
    simp -implicitDefEqProofs only[vQ,SY,CP,BD,↓reduceIte,jB,jM,enP,OE,GU,IB,f2,f5,f6,DN hk',CY ag3 hk',Bins.encI0,e0,TC gm,jH,e1]
    exact⟨by rw[hp],hx⟩
  ·have p0:decide (0≤m.crs[i].pts[k])=false:=by rw[decide_eq_false_iff_not]; rw[decide_eq_true_eq] at e0; omega
   rw[p0,qK,qK] at hp
   simp -implicitDefEqProofs only[vQ,AA4,CP,BD,EW,↓reduceIte,jB,jM,enP,IB,f2,f5,f6,DN hk',CY ag3 hk',Bins.encI0,e0]
   exact⟨by rw[hp],hx⟩
 ·have hk' : ¬ k < m.crs[i].pts.length:=by simpa using hc
  rw[jV (by omega)] at hp
  simp -implicitDefEqProofs only[vQ,BD,↓reduceIte]
  exact⟨by rw[hp]; rfl,hx⟩
theorem AYN (m:Mo)(i:Nat)(hi:i < m.crs.length)(hh:Here m m.crs[i].pts)(k:Nat)(hk:k < m.crs[i].pts.length)(h:Hp):PCall (En G) 60 [.agg (EE m),.int .i64 (i:Int),.int .i64 (k:Int)] h (.int .i64 ((IX m m.crs[i].pts[k]).length:Int)):=by
 refine ACalls.pure0 rfl ?_
 have gm:=CZ h (.live 2 [EE m])
 obtain⟨s,ls⟩:=hh.ld hk (h++[ABlk.live 2 [EE m]])
 refine acN Tryz.func60 rfl ?_
 show awp _ _ _ _ _ (EM _ [.tmp 6] _)
 simp -implicitDefEqProofs only[vQ,BD,enP,bxM]
 refine EY (by kernel_rfl) ?_
 simp -implicitDefEqProofs only[vQ,↓reduceIte,jB,jM,enP,PG,P5,GU,IV,IB,PE,IE,JH,TC gm,XW gm,DN hi,CY KO hi,QJ,DN hk,CY ag3 hk,Bins.encI0,hh.ix hk,ls,jH]
 exact⟨trivial,_,rfl⟩
theorem AK0 (m:Mo)(i:Nat)(hi:i < m.crs.length)(hl:m.crs[i].pts.length≤1048576)(h:Hp):SomeI (En G) 47 [.agg (EE m),.int .i64 (i:Int)] h:=by
 refine SomeI.of ?_
 have gm:=CZ h (.live 2 [EE m])
 have hx:ext h (h++[ABlk.live 2 [EE m]]):=(ext.rfl' h).app _
 refine acN Tryz.func47 rfl ?_
 show awp _ _ _ _ _ (EM _ [.tmp 4] _)
 simp -implicitDefEqProofs only[vQ,BD,↓reduceIte,jB,enP,bxM,ldM gm]
 refine(AN6 G m i hi hl _).use ?_
 cases hb:ACJ m m.crs[i].pts
 ·simp -implicitDefEqProofs only[vQ,BD,↓reduceIte]
  exact⟨⟨_,rfl⟩,hx⟩
 have hh:=AT0.1 hb
 simp -implicitDefEqProofs only[vQ,BD,↓reduceIte,jU]
 generalize h++[ABlk.live 2 [EE m]]=H at gm hx ⊢
 refine DL (fun n F H' => ∃ k z,n+k=m.crs[i].pts.length∧F 1 = .int .i64 (i:Nat)∧F 2 = .ptr h.length 0 0∧F 5 = .int .i64 z∧F 6 = .int .i64 (k:Nat)∧H'=H) m.crs[i].pts.length ⟨0,1,by simp,by simp -implicitDefEqProofs only[vQ,↓reduceIte,jB],by simp -implicitDefEqProofs only[AA,↓reduceIte,jB],by simp -implicitDefEqProofs only[AA,↓reduceIte,jB] <;> rfl,by simp -implicitDefEqProofs only[AA,↓reduceIte] <;> rfl,rfl⟩ ?_
 rintro n F H' ⟨k,z,hk,f1,f2,f5,f6,rfl⟩
 simp -implicitDefEqProofs only[vQ,BD,↓reduceIte,jB,enP,P5,IV,IZ,JH,f1,f2,f6,XW gm,DN hi,CY KO hi,QJ,jH]
 refine CU (fun hc => ?_) (fun hc => ?_)
 ·have hk':k < m.crs[i].pts.length:=by simpa using hc
  simp -implicitDefEqProofs only[vQ,BD,↓reduceIte,jB,enP,f1,f2,f5,f6,ldM gm]
  refine(AYN G m i hi hh k hk' _).use ?_
  simp -implicitDefEqProofs only[vQ,BD,OJ,↓reduceIte,jB,enP,f6,wrap_succ (show k < 9223372036854775807 by omega)]
  exact⟨n - 1,by omega,k+1,_,by omega,by first | exact True.intro | exact f1,by first | exact True.intro | exact f2,by first | exact True.intro | exact rfl,by first | exact True.intro | exact rfl,by first | exact True.intro | exact rfl⟩
 ·simp -implicitDefEqProofs only[vQ,BD,↓reduceIte,jB,f5]
  exact⟨⟨_,rfl⟩,hx⟩
end
theorem A58 {H:Hp}{b:Nat}{c:Cr}(hb:H[b]? = some (.live 3 [GV c])):D8 Tryz.prog H 26 (.ptr b 0 1)=some (.sl c.pm 1 (c.pts.map qencI)):=by rw[DY KO hb (row:=GV c) rfl]; rfl
theorem A57 {H:Hp}{b:Nat}{c:Cr}(hb:H[b]? = some (.live 3 [GV c])):D8 Tryz.prog H 67 (.ptr b 0 2)=some (.sl c.xm 1 (c.excl.map encL)):=by rw[DY UE hb (row:=GV c) rfl]; rfl
section
variable (G:Nat→AV)
set_option maxHeartbeats 1000000 in
theorem AO9 (m:Mo)(hm:MoOk m)(h:Hp):Rk.SomeB (En G) 24 [.agg (EE m)] h:=by
 refine Rk.SomeB.of ?_
 refine acN Tryz.func24 rfl ?_
 show awp _ _ _ _ _ (EM _ [.tmp 2] _)
 have gm:=CZ h (.live 2 [EE m])
 have hx:ext h (h++[ABlk.live 2 [EE m]]):=(ext.rfl' h).app _
 have np:=hm.np
 have nc:=hm.nc
 simp -implicitDefEqProofs only[vQ,BD,↓reduceIte,jB,enP,GU,bxM]
 generalize h++[ABlk.live 2 [EE m]]=H at gm hx ⊢
 simp -implicitDefEqProofs only[vQ,CP,BD,↓reduceIte,enP,OE,TC gm,jH]
 cases d0:decide ((m.pts.length:Int) > 12)
 rotate_left
 ·simp -implicitDefEqProofs only[vQ,CP,BD,EW,↓reduceIte,jB]
  exact⟨⟨_,rfl⟩,hx⟩
 simp -implicitDefEqProofs only[vQ,CP,BD,↓reduceIte,jB,enP,UU,IV,XW gm,jH]
 cases d1:decide ((m.crs.length:Int) > 8)
 rotate_left
 ·simp -implicitDefEqProofs only[vQ,BD,↓reduceIte]
  exact⟨⟨_,rfl⟩,hx⟩
 simp -implicitDefEqProofs only[vQ,BD]
 refine GZ 0 (fun F H'=>F 1 = .ptr h.length 0 0∧H'=H) (fun F H'=>(∃ b,F 2 = .bool b)∧ext h H') ?_ ?_ ?_
 ·refine DL (fun n F H' => ∃ k,n+k=m.pts.length∧F 1 = .ptr h.length 0 0∧F 3 = .int .i64 (k:Nat)∧H'=H) m.pts.length ⟨0,by simp,by simp -implicitDefEqProofs only[AA,↓reduceIte,jB],by simp -implicitDefEqProofs only[AA,↓reduceIte] <;> rfl,rfl⟩ ?_
  rintro n F H' ⟨k,hk,f1,f3,rfl⟩
  simp -implicitDefEqProofs only[vQ,BD,↓reduceIte,jB,enP,OE,GU,f1,f3,TC gm,jH]
  refine CU (fun hc => ?_) (fun hc => ?_)
  ·have hk':k < m.pts.length:=by simpa using hc
   simp -implicitDefEqProofs only[vQ,BD,↓reduceIte,jB,enP,PG,GU,PE,IE,f1,f3,TC gm,DN hk',CY RD hk',NG,jH]
   refine CU (fun hd => ?_) (fun hd => ?_)
   ·simp -implicitDefEqProofs only[vQ,BD,↓reduceIte]
    exact⟨⟨_,rfl⟩,hx⟩
   ·simp -implicitDefEqProofs only[vQ,BD,↓reduceIte,jB,enP,f3,wrap_succ (show k < 9223372036854775807 by omega)]
    exact⟨n - 1,by omega,k+1,by omega,by first | exact True.intro | exact f1,by first | exact True.intro | exact rfl,by first | exact True.intro | exact rfl⟩
  ·simp -implicitDefEqProofs only[vQ,↓reduceIte,jB]
   exact⟨by first | exact True.intro | exact f1,by first | exact True.intro | exact rfl⟩
 ·rintro F H' ⟨f1,rfl⟩
  simp -implicitDefEqProofs only[vQ,BD,↓reduceIte]
  refine DL (fun n F H2 => ∃ k,n+k=m.crs.length∧F 1 = .ptr h.length 0 0∧F 4 = .int .i64 (k:Nat)∧ext H' H2) m.crs.length ⟨0,by simp,by simp -implicitDefEqProofs only[AA,↓reduceIte,jB,f1],by simp -implicitDefEqProofs only[AA,↓reduceIte] <;> rfl,ext.rfl' _⟩ ?_
  clear f1
  rintro n F H2 ⟨k,hk,f1,f4,he⟩
  have gm2:=FD he gm
  simp -implicitDefEqProofs only[vQ,BD,↓reduceIte,jB,enP,UU,IV,f1,f4,XW gm2,jH]
  refine CU (fun hc => ?_) (fun hc => ?_)
  ·have hk':k < m.crs.length:=by simpa using hc
   have hco:=hm.crs _ (jP hk')
   have hcp:=hco.pts
   have gm3:=CX (x:=ABlk.live 3 [GV m.crs[k]]) gm2
   have gc3:=CZ H2 (ABlk.live 3 [GV m.crs[k]])
   have he3:=he.app [ABlk.live 3 [GV m.crs[k]]]
   simp -implicitDefEqProofs only[vQ,BD,↓reduceIte,jB,enP,P5,IV,JH,jT,f1,f4,XW gm2,DN hk',FU AAZ XV KH hk',AUX,AST _ _ [.str ⟨#[]⟩,.sl .nil 0 [],.sl .nil 0 []] rfl]
   generalize H2++[ABlk.live 3 [GV m.crs[k]]]=H3 at gm3 gc3 he3 ⊢
   simp -implicitDefEqProofs only[vQ,CP,BD,↓reduceIte,enP,IZ,A58 gc3,jH]
   cases e1:decide ((m.crs[k].pts.length:Int) > 4)
   ·simp -implicitDefEqProofs only[vQ,CP,BD,↓reduceIte,jB,enP,AC0,QP,A57 gc3,jH]
    cases e2:decide ((m.crs[k].excl.length:Int) > 40)
    ·simp -implicitDefEqProofs only[vQ,CP,BD,↓reduceIte,jB,enP,f1,f4,ldM gm3]
     refine(AK0 G m k hk' hcp _).use ?_
     intro z
     simp -implicitDefEqProofs only[vQ,CP,BD,↓reduceIte,jB,enP]
     refine CU (fun hd => ?_) (fun hd => ?_)
     ·simp -implicitDefEqProofs only[vQ,BD,↓reduceIte]
      exact⟨⟨_,rfl⟩,hx.trans he3⟩
     ·simp -implicitDefEqProofs only[vQ,BD,↓reduceIte,jB,enP,f4,wrap_succ (show k < 9223372036854775807 by omega)]
      exact⟨n - 1,by omega,k+1,by omega,by first | exact True.intro | exact f1,by first | exact True.intro | exact rfl,he3⟩
    ·simp -implicitDefEqProofs only[vQ,CP,BD,EW,↓reduceIte,jB]
     exact⟨⟨_,rfl⟩,hx.trans he3⟩
   ·simp -implicitDefEqProofs only[vQ,CP,BD,EW,↓reduceIte,jB]
    exact⟨⟨_,rfl⟩,hx.trans he3⟩
  ·simp -implicitDefEqProofs only[vQ,BD,↓reduceIte]
   exact⟨⟨_,rfl⟩,hx.trans he⟩
 ·rintro F H' ⟨⟨b,f2⟩,hx'⟩
  simp -implicitDefEqProofs only[vQ,f2]
  exact⟨⟨_,rfl⟩,hx'⟩
end
theorem AOX {H:Hp}{b:Nat}{p:Pt}(hb:H[b]? = some (.live 6 [GI p])):D8 Tryz.prog H 49 (.ptr b 0 5)=some (.sl p.bm 4 (p.bins.map G9)):=by
 rw[DY RD hb (row:=GI p) rfl,NG]
theorem AWT {H:Hp}{b:Nat}{p:Pt}(hb:H[b]? = some (.live 6 [GI p])):D8 Tryz.prog H 48 (.ptr b 0 1)=some (.agg (DX p.ex)):=by
 rw[IJ X4 N7 hb rfl (by rw[JL]; exact jI rfl),AR8]
section
variable (G:Nat→AV)
set_option maxHeartbeats 2000000 in
theorem AO8 (m:Mo)(hm:MoOk m)(h:Hp):Rk.SomeB (En G) 9 [.agg (EE m)] h:=by
 refine Rk.SomeB.of ?_
 refine acN Tryz.func9 rfl ?_
 show awp _ _ _ _ _ (EM _ [.tmp 2] _)
 have gm:=CZ h (.live 2 [EE m])
 have hx:ext h (h++[ABlk.live 2 [EE m]]):=(ext.rfl' h).app _
 have np:=hm.np
 simp -implicitDefEqProofs only[vQ,BD,↓reduceIte,jB,enP,bxM]
 generalize h++[ABlk.live 2 [EE m]]=H at gm hx ⊢
 simp -implicitDefEqProofs only[vQ,BD,↓reduceIte,ldM gm]
 refine(AO9 G m hm H).use ?_
 intro b
 cases b
 ·simp -implicitDefEqProofs only[vQ,BD,↓reduceIte]
  exact⟨⟨_,rfl⟩,hx⟩
 simp -implicitDefEqProofs only[vQ,BD,↓reduceIte,jU]
 refine DL (fun n F H2 => ∃ k,n+k=m.pts.length∧F 1 = .ptr h.length 0 0∧F 3 = .int .i64 (k:Nat)∧ext H H2) m.pts.length ⟨0,by simp,by simp -implicitDefEqProofs only[AA,↓reduceIte,jB],by simp -implicitDefEqProofs only[AA,↓reduceIte] <;> rfl,ext.rfl' _⟩ ?_
 rintro n F H2 ⟨k,hk,f1,f3,he⟩
 have gm2:=FD he gm
 simp -implicitDefEqProofs only[vQ,BD,↓reduceIte,jB,enP,OE,GU,f1,f3,TC gm2,jH]
 refine CU (fun hc => ?_) (fun hc => ?_)
 rotate_left
 ·simp -implicitDefEqProofs only[vQ,BD,↓reduceIte]
  exact⟨⟨_,rfl⟩,hx.trans he⟩
 have hk':k < m.pts.length:=by simpa using hc
 have hpo:=hm.pts _ (jP hk')
 have hpn:=hpo.num
 have gp3:=CZ H2 (ABlk.live 6 [GI m.pts[k]])
 have he3:=he.app [ABlk.live 6 [GI m.pts[k]]]
 simp -implicitDefEqProofs only[vQ,BD,↓reduceIte,jB,enP,PG,GU,Y6,jT,f1,f3,TC gm2,DN hk',FU AC7 ZP JL hk',A12,AZO _ _ [.str ⟨#[]⟩,.int .i64 0,.int .i64 0,.str ⟨#[]⟩,.sl .nil 0 [],.sl .nil 0 []] rfl]
 generalize H2++[ABlk.live 6 [GI m.pts[k]]]=H3 at gp3 he3 ⊢
 generalize H2.length=pb at gp3 ⊢
 simp -implicitDefEqProofs only[vQ,BD,↓reduceIte,AWT gp3]
 refine(APA G m.pts[k].ex 40 hpo.ex H3).use ?_
 intro b
 cases b
 ·simp -implicitDefEqProofs only[vQ,BD,↓reduceIte]
  exact⟨⟨_,rfl⟩,hx.trans he3⟩
 simp -implicitDefEqProofs only[vQ,BD,↓reduceIte,jU]
 refine GZ 2 (fun F H'=>F 1 = .ptr h.length 0 0∧F 3 = .int .i64 (k:Nat)∧H'=H3) (fun F H'=>(∃ b,F 2 = .bool b)∧ext h H') ?_ ?_ ?_
 ·refine DL (fun n F H' => ∃ j,n+j=m.pts[k].bins.length∧F 1 = .ptr h.length 0 0∧F 3 = .int .i64 (k:Nat)∧F 4 = .ptr pb 0 0∧F 5 = .int .i64 (j:Nat)∧H'=H3) m.pts[k].bins.length ⟨0,by simp,by simp -implicitDefEqProofs only[AA,↓reduceIte,jB,f1],by simp -implicitDefEqProofs only[AA,↓reduceIte,jB,f3],by simp -implicitDefEqProofs only[AA,↓reduceIte,jB],by simp -implicitDefEqProofs only[AA,↓reduceIte] <;> rfl,rfl⟩ ?_
  clear f1 f3
  rintro n2 F H' ⟨j,hj,f1,f3,f4,f5,rfl⟩
  simp -implicitDefEqProofs only[vQ,BD,↓reduceIte,jB,enP,PE,IE,f4,f5,AOX gp3,jH]
  refine CU (fun hd => ?_) (fun hd => ?_)
  rotate_left
  ·simp -implicitDefEqProofs only[vQ,↓reduceIte,jB]
   exact⟨by first | exact True.intro | exact f1,by first | exact True.intro | exact f3,by first | exact True.intro | exact rfl⟩
  have hj':j < m.pts[k].bins.length:=by simpa using hd
  have hbo:=hpo.bins _ (jP hj')
  have hbs:=hbo.steps
  simp -implicitDefEqProofs only[vQ,CP,BD,↓reduceIte,jB,enP,SA,IE,PN,P7,f4,f5,AOX gp3,DN hj',CY SV hj',YI,jH]
  cases e1:decide ((m.pts[k].bins[j].ranges.l.length:Int) > 40)
  rotate_left
  ·simp -implicitDefEqProofs only[vQ,CP,BD,EW,↓reduceIte,jB]
   exact⟨⟨_,rfl⟩,hx.trans he3⟩
  simp -implicitDefEqProofs only[vQ,CP,BD,↓reduceIte,jB,enP,SA,IE,V4,N9,f4,f5,AOX gp3,DN hj',CY X0 hj',QU,jH]
  cases e2:decide ((m.pts[k].bins[j].steps.length:Int) > 10)
  rotate_left
  ·simp -implicitDefEqProofs only[vQ,BD,↓reduceIte]
   exact⟨⟨_,rfl⟩,hx.trans he3⟩
  simp -implicitDefEqProofs only[vQ,BD]
  refine GZ 4 (fun F H2=>F 1 = .ptr h.length 0 0∧F 3 = .int .i64 (k:Nat)∧F 4 = .ptr pb 0 0∧F 5 = .int .i64 (j:Nat)∧H2=H') (fun F H'=>(∃ b,F 2 = .bool b)∧ext h H') ?_ ?_ ?_
  ·refine DL (fun n F H2 => ∃ i,n+i=m.pts[k].bins[j].steps.length∧F 1 = .ptr h.length 0 0∧F 3 = .int .i64 (k:Nat)∧F 4 = .ptr pb 0 0∧F 5 = .int .i64 (j:Nat)∧F 6 = .int .i64 (i:Nat)∧H2=H') m.pts[k].bins[j].steps.length ⟨0,by simp,by simp -implicitDefEqProofs only[AA,↓reduceIte,jB,f1],by simp -implicitDefEqProofs only[AA,↓reduceIte,jB,f3],by simp -implicitDefEqProofs only[AA,↓reduceIte,jB,f4],by simp -implicitDefEqProofs only[AA,↓reduceIte,jB,f5],by simp -implicitDefEqProofs only[AA,↓reduceIte] <;> rfl,rfl⟩ ?_
   clear f1 f3 f4 f5
   rintro n3 F H2 ⟨i,hi,f1,f3,f4,f5,f6,rfl⟩
   simp -implicitDefEqProofs only[vQ,BD,↓reduceIte,jB,enP,SA,IE,V4,N9,f4,f5,f6,AOX gp3,DN hj',CY X0 hj',QU,jH]
   refine CU (fun hq => ?_) (fun hq => ?_)
   rotate_left
   ·simp -implicitDefEqProofs only[vQ,↓reduceIte,jB]
    exact⟨by first | exact True.intro | exact f1,by first | exact True.intro | exact f3,by first | exact True.intro | exact f4,by first | exact True.intro | exact f5,by first | exact True.intro | exact rfl⟩
   have hi':i < m.pts[k].bins[j].steps.length:=by simpa using hq
   simp -implicitDefEqProofs only[vQ,BD,↓reduceIte,jB,enP,SA,IE,PN,AGO,N9,f4,f5,f6,AOX gp3,DN hj',CY X0 hj',QU,DN hi',CY SV hi',YH,jH]
   refine CU (fun hr => ?_) (fun hr => ?_)
   ·simp -implicitDefEqProofs only[vQ,BD,↓reduceIte]
    exact⟨⟨_,rfl⟩,hx.trans he3⟩
   ·simp -implicitDefEqProofs only[vQ,BD,↓reduceIte,jB,enP,f6,wrap_succ (show i < 9223372036854775807 by omega)]
    exact⟨n3 - 1,by omega,i+1,by omega,by first | exact True.intro | exact f1,by first | exact True.intro | exact f3,by first | exact True.intro | exact f4,by first | exact True.intro | exact f5,by first | exact True.intro | exact rfl,by first | exact True.intro | exact rfl⟩
  ·rintro F H2 ⟨g1,g3,g4,g5,rfl⟩
   simp -implicitDefEqProofs only[vQ,BD,↓reduceIte,jB,enP,g5,wrap_succ (show j < 9223372036854775807 by omega)]
   exact⟨n2 - 1,by omega,j+1,by omega,by first | exact True.intro | exact g1,by first | exact True.intro | exact g3,by first | exact True.intro | exact g4,by first | exact True.intro | exact rfl,by first | exact True.intro | exact rfl⟩
  ·rintro F H2 ⟨⟨b,g2⟩,hx'⟩
   simp -implicitDefEqProofs only[vQ,g2]
   exact⟨⟨_,rfl⟩,hx'⟩
 ·rintro F H' ⟨g1,g3,rfl⟩
  simp -implicitDefEqProofs only[vQ,BD,↓reduceIte,jB,enP,g3,wrap_succ (show k < 9223372036854775807 by omega)]
  exact⟨n - 1,by omega,k+1,by omega,by first | exact True.intro | exact g1,by first | exact True.intro | exact rfl,he3⟩
 ·rintro F H' ⟨⟨b,g2⟩,hx'⟩
  simp -implicitDefEqProofs only[vQ,g2]
  exact⟨⟨_,rfl⟩,hx'⟩
end
theorem ABH {P:Program}{t e:TypeId}{α:Type}{k bs:Nat}{f:α→List AV}{h H:Hp}{xs ys:List α}{v:AV}(s:SM)(ho:outG k f h xs v H)(hu:P.underlying t=some (.slice e))(hs:szO P e=some k)(hz:V8 P e=some k)(hb:OB P e=some bs)(hbs:bs≤4194304)(hl:xs.length+ys.length≤8388608)(he:ext h H) :
  ∃ v' H',GM P true H t t v (.sl s k (ys.map f))=some (v',H')∧outG k f h (xs++ys) v' H'∧(∀ b x,H[b]? = some x→¬ isB v b→H'[b]? = some x)∧ext h H'∧H.length≤H'.length∧(∀ b,isB v' b→isB v b∨b=H.length):=by
 cases ys with
 | nil =>
   refine⟨v,H,?_,by rw[jF]; exact ho,fun _ _ hx _=>hx,he,jL _,fun b hb => .inl hb⟩
   have hcs:KE H (.sl s k [])=some (k,[]):=JF H s k []
   rcases ho with⟨rfl,rfl⟩ | ⟨hne,o,h2,rfl,h3⟩
   ·simp [GM,hu,hs,VH,hcs,bump]
   ·have hc:KE H (.own o 0 xs.length)=some (k,xs.map f):=by rw[MH h3 (by simp),zU,jW (by simp)]
    simp [GM,hu,hs,VH,hc,hcs,bump]
 | cons y ys =>
   have h1:(y :: ys).map f≠[]:=by simp
   rcases ho with⟨rfl,rfl⟩ | ⟨hne,o,h2,rfl,h3⟩
   ·refine⟨_,_,QE hu hs hz hb (JF H s k ((y :: ys).map f)) h1 (JB (by simp at hl ⊢; omega) hbs),.inr ⟨by simp,H.length,he.le,by simp,by simp⟩,fun b x hb _=>F7 hb,he.app _,by simp,fun b hb => .inr hb.symm⟩
   ·have hc:KE H (.own o 0 xs.length)=some (k,xs.map f):=by rw[MH h3 (by simp),zU,jW (by simp)]
    refine⟨_,_,Q8 hu hs hz hb hc (JF H s k ((y :: ys).map f)) h1 (JB (by simp at hl ⊢; omega) hbs),.inr ⟨by simp,H.length,he.le,by simp,by simp⟩,fun b x hb hn => ?_,(he.set h2 _).app _,by simp,fun b hb => .inr hb.symm⟩
    have hn' : ¬ o=b:=hn
    refine F7 ?_
    rw[List.getElem?_set,if_neg hn']; exact hb
def NT:List Bin→List Rng
 | [] => []
 | b :: r=>(if b.kind≠0 then b.ranges.l else [])++NT r
theorem AUO {l:List Bin}{k:Nat}(hk:k < l.length):NT (l.take (k+1))=NT (l.take k)++(if l[k].kind≠0 then l[k].ranges.l else []):=by
 induction l generalizing k with
 | nil=>simp at hk
 | cons b r ih =>
   cases k with
   | zero=>simp [NT]
   | succ k =>
     have:=ih (k:=k) (by simpa using hk)
     simp only[List.take_succ_cons,List.getElem_cons_succ]
     show _++NT (r.take (k+1))=(_++NT (r.take k))++_
     rw[this,List.append_assoc]
theorem AYR {l:List Bin}(k:Nat):(NT (l.take k)).length≤(NT l).length:=by
 induction l generalizing k with
 | nil=>simp
 | cons b r ih =>
   cases k with
   | zero=>simp [NT]
   | succ k =>
     have:=ih k
     show(_++NT (r.take k)).length≤(_++NT r).length
     rw[qA,qA]; omega
theorem A6R:Frz encR:=fun _ _ _ _=>⟨rfl,rfl⟩
theorem AWU {H:Hp}{b:Nat}{x:Bin}(hb:H[b]? = some (.live 4 [G9 x])):D8 Tryz.prog H 53 (.ptr b 0 2)=some (.sl x.ranges.m 2 (x.ranges.l.map encR)):=by
 rw[DY SV hb (row:=G9 x) rfl,YI]
theorem A6C {H:Hp}{b:Nat}{x:Bin}(hb:H[b]? = some (.live 4 [G9 x])):D8 Tryz.prog H 3 (.ptr b 0 1)=some (.int .i64 x.kind):=by
 rw[DY ag3 hb (row:=G9 x) rfl,QV]
theorem A65 (h:Hp)(p:Pt):O7 h (.agg (GI p))=some (.ptr h.length 0 0,h++[.live 6 [GI p]]):=by
 rw[VS (ABX p),JL]
section
variable (G:Nat→AV)
set_option maxHeartbeats 1000000 in
theorem AYQ (p:Pt)(hp:p.bins.length≤1048576)(hl:(NT p.bins).length≤1048576)(h:Hp):PCall (En G) 66 [.agg (GI p)] h (.sl (Cov.nm (NT p.bins)) 2 ((NT p.bins).map encR)):=by
 refine PW A6R ?_
 refine acN Tryz.func66 rfl ?_
 show awp _ _ _ _ _ (EM _ [.tmp 2] _)
 have gp:=CZ h (.live 6 [GI p])
 have hx:ext h (h++[ABlk.live 6 [GI p]]):=(ext.rfl' h).app _
 simp -implicitDefEqProofs only[vQ,BD,↓reduceIte,jB,enP,IE,A65]
 generalize h++[ABlk.live 6 [GI p]]=H0 at gp hx ⊢
 simp -implicitDefEqProofs only[vQ,BD,↓reduceIte,enP,PE,AOX gp,jH]
 refine DL (fun n F H => ∃ k u,n+k=p.bins.length∧F 3=u∧F 7 = .sl p.bm 4 (p.bins.map G9)∧F 8 = .int .i64 (p.bins.length:Nat)∧F 9 = .int .i64 (k:Nat)∧ext H0 H∧outG 2 encR H0 (NT (p.bins.take k)) u H) p.bins.length
  ⟨0,.sl .nil 0 [],by simp,by simp -implicitDefEqProofs only[AA,↓reduceIte,jB],by simp -implicitDefEqProofs only[AA,↓reduceIte,jB],by simp -implicitDefEqProofs only[AA,↓reduceIte,jB],by simp -implicitDefEqProofs only[AA,↓reduceIte] <;> rfl,ext.rfl' _,outG.nil _ _ _ _⟩ ?_
 rintro n F H ⟨k,u,hk,f3,f7,f8,f9,he,ho⟩
 simp -implicitDefEqProofs only[vQ,BD,↓reduceIte,enP,f8,f9]
 refine CU (fun hc => ?_) (fun hc => ?_)
 ·have hk':k < p.bins.length:=by simpa using hc
  have hst:=AUO hk'
  have hbl:=AYR (l:=p.bins) (k+1)
  have gb:=CZ H (ABlk.live 4 [G9 p.bins[k]])
  have he1:=he.app [ABlk.live 4 [G9 p.bins[k]]]
  have ho1:=ho.app [ABlk.live 4 [G9 p.bins[k]]]
  simp -implicitDefEqProofs only[vQ,BD,↓reduceIte,jB,enP,SA,ND,jT,f7,f9,DN hk',FU AC6 YQ MG hk',AYX,AZN _ _ [.str ⟨#[]⟩,.int .i64 0,.sl .nil 0 [],.sl .nil 0 []] rfl]
  generalize H++[ABlk.live 4 [G9 p.bins[k]]]=H1 at gb he1 ho1 ⊢
  simp -implicitDefEqProofs only[vQ,BD,↓reduceIte,enP,A6C gb,bne]
  cases hz:(p.bins[k].kind == 0)
  ·have hz':p.bins[k].kind≠0:=by simpa using hz
   rw[if_pos hz'] at hst
   rw[hst,qA] at hbl
   obtain⟨v',H2,ha,ho2,_,he2,_,_⟩:=ABH p.bins[k].ranges.m ho1 AGJ UJ AZD A1P (by omega) (ys:=p.bins[k].ranges.l) (by omega) he1
   rw[← hst] at ho2
   simp -implicitDefEqProofs only[vQ,BD,↓reduceIte,jB,enP,P7,f3,AWU gb,ha,f9,wrap_succ (show k < 9223372036854775807 by omega)]
   exact⟨n - 1,by omega,k+1,v',by omega,by first | exact True.intro | exact rfl,by first | exact True.intro | exact f7,by first | exact True.intro | exact f8,by first | exact True.intro | exact rfl,he2,ho2⟩
  ·have hz' : ¬ p.bins[k].kind≠0:=by simpa using hz
   rw[if_neg hz',jF] at hst
   rw[← hst] at ho1
   simp -implicitDefEqProofs only[vQ,BD,↓reduceIte,jB,jU,enP,f9,wrap_succ (show k < 9223372036854775807 by omega)]
   exact⟨n - 1,by omega,k+1,u,by omega,by first | exact True.intro | exact f3,by first | exact True.intro | exact f7,by first | exact True.intro | exact f8,by first | exact True.intro | exact rfl,he1,ho1⟩
 ·have hk' : ¬ k < p.bins.length:=by simpa using hc
  rw[jW (by omega)] at ho
  simp -implicitDefEqProofs only[vQ,BD,↓reduceIte,jB,f3]
  exact⟨hx.trans he,ho.base hx.le⟩
end
def cE (n:Int):Ex := .mk 1 n ⟨#[]⟩ .nil []
def A4S (op n:Int):List AV := [.int .i64 op,.int .i64 n,.str ⟨#[]⟩,.sl .nil 0 []]
theorem A7P (n:Int):LM Tryz.prog 48 [(0,.int .i64 1),(1,.int .i64 n)]=some (.agg (A4S 1 n)):=by kernel_rfl
def cpE:Ex→Ex
 | .mk op n name _ args => .mk op n name (match args with | [] => .nil | _ => .any) (cpEs args)
 where cpEs:List Ex→List Ex
 | [] => []
 | e :: es=>cpE e :: cpEs es
theorem AM7 : ∀ l:List Ex,cpE.cpEs l=l.map cpE
 | []=>rfl
 | e :: es=>by show cpE e :: cpE.cpEs es=_; rw[AM7 es]; rfl
theorem APL (e:Ex):cpE e = .mk e.op e.n e.name (Cov.nm (e.args.map cpE)) (e.args.map cpE):=by
 cases e with
 | mk op n name m args =>
   show Ex.mk op n name _ (cpE.cpEs args)=Ex.mk op n name _ (args.map cpE)
   rw[AM7]
   cases args <;> rfl
theorem AR4:Frz DX:=fun n h d x=>by
 rw[JJ]; exact⟨rfl,rfl⟩
def cpW (e:Ex):List AV := [.int .i64 e.op,.int .i64 e.n,.str e.name,fzG 4 DX (e.args.map cpE)]
theorem A4O (e:Ex):CvR (.agg (cpW e)) (.agg (DX (cpE e))):=by
 rw[JJ,APL]
 exact CvR.agg (CvRL.cons (CvR.refl _) (CvRL.cons (CvR.refl _) (CvRL.cons (CvR.refl _) (CvRL.cons WY CvRL.nil))))
theorem AYB (n:Int):CvR (.agg (A4S 1 n)) (.agg (DX (cE n))):=by
 rw[JJ]
 exact CvR.agg (CvRL.cons (CvR.refl _) (CvRL.cons (CvR.refl _) (CvRL.cons (CvR.refl _) (CvRL.cons (CvR.sl (Cv.nil 0 4)) CvRL.nil))))
theorem AQ0 {H:Hp}{b:Nat}{row cs:List AV}(hb:H[b]? = some (.live 4 [row]))(hr:row.length=4)(hc:cs.length=4)(hl:cs.all AV.leaf=true):FP Tryz.prog H 48 (.ptr b 0 0) (.agg cs)=some (H.set b (.live 4 [cs])):=by
 rw[MK (cs:=cs) (QS hl) (by rw[hc]; exact N7) hb (by rw[hr,hc]; exact jL 4)]
 have:splice row 0 cs=cs:=by unfold splice; rw[List.take_zero,jV (by rw[hr,hc]; exact jL 4)]; simp
 rw[this]
theorem AAA {h:Hp}{b:Nat}{row:List AV}(hb:h[b]? = some (.live 4 [row]))(hr:row.length=4):D8 Tryz.prog h 48 (.ptr b 0 0)=some (.agg row):=by
 rw[IJ X4 N7 hb rfl (by rw[hr]; exact jL 4),zU,← hr,List.take_length]
theorem WP (G:Nat→AV)(n:Int)(h:Hp):PCall (En G) 103 [.int .i64 n] h (.agg (DX (cE n))):=by
 refine PCall.res ?_ (AYB n)
 refine X8 3 (fun n H=>rfl) ?_
 refine acN Tryz.func103 rfl ?_
 show awp _ _ _ _ _ (EM _ [.cell 2 48] _)
 have g2:=CZ h (ABlk.live 4 [[.int .i64 0,.int .i64 0,.str ⟨#[]⟩,.sl .nil 0 []]])
 have hx:ext h (h++[ABlk.live 4 [[.int .i64 0,.int .i64 0,.str ⟨#[]⟩,.sl .nil 0 []]]]):=(ext.rfl' h).app _
 simp -implicitDefEqProofs only[vQ,BD,↓reduceIte,jB,enP,AC4]
 generalize h++[ABlk.live 4 [[.int .i64 0,.int .i64 0,.str ⟨#[]⟩,.sl .nil 0 []]]]=H at g2 hx ⊢
 simp -implicitDefEqProofs only[vQ,BD,↓reduceIte,jB,enP,jT,A7P,AQ0 (cs:=A4S 1 n) g2 rfl rfl rfl]
 rw[Y7 (b:=h.length) (by simp -implicitDefEqProofs only[AA,↓reduceIte,jB]) (AAA (EG g2) rfl)]
 exact⟨rfl,hx.set (jL _) _⟩
set_option maxHeartbeats 1000000 in
theorem AM9 (G:Nat→AV) : ∀ (w:Nat) (e:Ex) (h:Hp),wt e≤w→wt e≤1048576→PCall (En G) 102 [.agg (DX e)] h (.agg (DX (cpE e))):=by
 intro w
 induction w with
 | zero=>intro e h h1 _; have:=NF e; omega
 | succ w ih =>
   intro e h h1 h2
   have hlen:=VA e.args
   have hwt:=NF e
   refine PCall.res (r := .agg (cpW e)) ?_ (A4O e)
   refine ACalls.pure (R:=fun v H=>ext h H∧IL h.length H 4 v = .agg (cpW e)) 4 ?_ (fun v H ⟨a,b⟩=>⟨a,b⟩)
   refine acN Tryz.func102 rfl ?_
   show awp _ _ _ _ _ (EM _ [.cell 2 48] _)
   have ge:=CX (x:=ABlk.live 4 [[.int .i64 0,.int .i64 0,.str ⟨#[]⟩,.sl .nil 0 []]]) (CZ h (ABlk.live 4 [DX e]))
   have g2:=CZ (h++[ABlk.live 4 [DX e]]) (ABlk.live 4 [[.int .i64 0,.int .i64 0,.str ⟨#[]⟩,.sl .nil 0 []]])
   have hx:ext h (h++[ABlk.live 4 [DX e]]++[ABlk.live 4 [[.int .i64 0,.int .i64 0,.str ⟨#[]⟩,.sl .nil 0 []]]]):=((ext.rfl' h).app _).app _
   have hb2:h.length < (h++[ABlk.live 4 [DX e]]).length:=by simp
   simp -implicitDefEqProofs only[vQ,BD,↓reduceIte,jB,enP,OA,bxE,AC4]
   generalize h++[ABlk.live 4 [DX e]]++[ABlk.live 4 [[.int .i64 0,.int .i64 0,.str ⟨#[]⟩,.sl .nil 0 []]]]=H0 at ge g2 hx ⊢
   generalize (h++[ABlk.live 4 [DX e]]).length=b2 at g2 hb2 ⊢
   have l2:=CJ g2
   simp -implicitDefEqProofs only[vQ,BD,↓reduceIte,enP,WS,Rk.ldE' ge,jH]
   refine DL (fun n F H => ∃ k u,n+k=e.args.length∧F 1 = .ptr h.length 0 0∧F 2 = .ptr b2 0 0∧F 3=u∧F 7 = .sl e.m 4 (e.args.map DX)∧F 8 = .int .i64 (e.args.length:Nat)∧F 9 = .int .i64 (k:Nat)∧ext H0 H∧outG 4 DX H0 ((e.args.take k).map cpE) u H) e.args.length
    ⟨0,.sl .nil 0 [],by simp,by simp -implicitDefEqProofs only[AA,↓reduceIte,jB],by simp -implicitDefEqProofs only[AA,↓reduceIte,jB],by simp -implicitDefEqProofs only[AA,↓reduceIte,jB],by simp -implicitDefEqProofs only[AA,↓reduceIte,jB],by simp -implicitDefEqProofs only[AA,↓reduceIte,jB],by simp -implicitDefEqProofs only[AA,↓reduceIte] <;> rfl,ext.rfl' _,outG.nil _ _ _ _⟩ ?_
   rintro n F H ⟨k,u,hk,f1,f2,f3,f7,f8,f9,he,ho⟩
   simp -implicitDefEqProofs only[vQ,BD,↓reduceIte,enP,f8,f9]
   refine CU (fun hc => ?_) (fun hc => ?_)
   ·have hk':k < e.args.length:=by simpa using hc
    have hlt:=Rk.wt_arg hk'
    have he1:=he.app [ABlk.live 4 [DX e.args[k]]]
    have ho1:=ho.app [ABlk.live 4 [DX e.args[k]]]
    have gT:=ldE H e.args[k]
    simp -implicitDefEqProofs only[vQ,BD,↓reduceIte,jB,enP,AAC,jT,f7,f9,DN hk',FU X4 N7 JE hk',AC4,AKT _ _ [.int .i64 0,.int .i64 0,.str ⟨#[]⟩,.sl .nil 0 []] rfl,gT]
    generalize H++[ABlk.live 4 [DX e.args[k]]]=H1 at he1 ho1 ⊢
    refine(ih e.args[k] H1 (by omega) (by omega)).use ?_
    have hbs:FM Tryz.prog false H1 46 1 [(0,.agg (DX (cpE e.args[k])))]=some (.sl .full 4 [DX (cpE e.args[k])],H1):=by
     rw[JJ]; exact(by kernel_rfl:FM Tryz.prog false H1 46 1 [(0,.agg [.int .i64 (cpE e.args[k]).op,.int .i64 (cpE e.args[k]).n,.str (cpE e.args[k]).name,.sl (cpE e.args[k]).m 4 ((cpE e.args[k]).args.map DX)])]=_)
    obtain⟨v',H2,ha,ho2,_,he2,_,_⟩:=ho1.append AGK N7 AN1 APT (by omega) (by simp; omega) he1 (cpE e.args[k])
    have e3:(e.args.take k).map cpE++[cpE e.args[k]]=(e.args.take (k+1)).map cpE:=by rw[List.take_succ_eq_append_getElem hk',List.map_append]; rfl
    rw[e3] at ho2
    simp -implicitDefEqProofs only[vQ,BD,↓reduceIte,jB,enP,f3,hbs,ha,f9,wrap_succ (show k < 9223372036854775807 by omega)]
    exact⟨n - 1,by omega,k+1,v',by omega,by first | exact True.intro | exact f1,by first | exact True.intro | exact f2,by first | exact True.intro | exact rfl,by first | exact True.intro | exact f7,by first | exact True.intro | exact f8,by first | exact True.intro | exact rfl,he2,ho2⟩
   ·have hk' : ¬ k < e.args.length:=by simpa using hc
    rw[jW (by omega)] at ho
    have ge1:=FD he ge
    have g21:=FD he g2
    have hle:=he.le
    have hlf:=ho.leaf
    have h0l:h.length < H0.length:=by omega
    have hst:FP Tryz.prog H 46 (.ptr h.length 0 3) u=some (H.set h.length (.live 4 [[.int .i64 e.op,.int .i64 e.n,.str e.name,u]])):=by
     rw[JJ] at ge1
     rcases ho with⟨_,rfl⟩ | ⟨_,o,_,rfl,_⟩
     ·rw[MK (cs := [.sl .nil 0 []]) rfl (by kernel_rfl:szO Tryz.prog 46=some 1) ge1 (by simp)]; rfl
     ·rw[MK (cs := [.own o 0 _]) rfl (by kernel_rfl:szO Tryz.prog 46=some 1) ge1 (by simp)]; rfl
    have g1':(H.set h.length (.live 4 [[.int .i64 e.op,.int .i64 e.n,.str e.name,u]]))[h.length]? = some (.live 4 [[.int .i64 e.op,.int .i64 e.n,.str e.name,u]]):=EG ge1
    have g2':(H.set h.length (.live 4 [[.int .i64 e.op,.int .i64 e.n,.str e.name,u]]))[b2]? = _:=CV g21 (by omega)
    have ho3:outG 4 DX H0 (e.args.map cpE) u (H.set h.length (.live 4 [[.int .i64 e.op,.int .i64 e.n,.str e.name,u]])):=ho.setB h0l _
    have hx3:ext h (H.set h.length (.live 4 [[.int .i64 e.op,.int .i64 e.n,.str e.name,u]])):=(hx.trans he).set (jL _) _
    simp -implicitDefEqProofs only[vQ,BD,↓reduceIte,jB,enP,OA,jT,f1,f2,f3,hst]
    generalize H.set h.length (.live 4 [[.int .i64 e.op,.int .i64 e.n,.str e.name,u]])=H3 at g1' g2' ho3 hx3 ⊢
    have hlf4:([.int .i64 e.op,.int .i64 e.n,.str e.name,u]:List AV).all AV.leaf=true:=by simp [hlf]; exact⟨rfl,rfl,rfl⟩
    simp -implicitDefEqProofs only[vQ,BD,↓reduceIte,jB,enP,jT,f1,f2,AAA g1' rfl,AQ0 g2' rfl rfl hlf4]
    rw[Y7 (b:=b2) (by simp -implicitDefEqProofs only[AA,↓reduceIte,jB,f2]) (AAA (EG g2') rfl)]
    refine⟨hx3.set (by omega) _,?_⟩
    have ho4:=ho3.setB (b:=b2) l2 (.live 4 [[.int .i64 e.op,.int .i64 e.n,.str e.name,u]])
    have hz:=UZ AR4 ho4 h.length 1 (by have:=hx.le; omega)
    show AV.agg [.int .i64 e.op,.int .i64 e.n,.str e.name,IL h.length _ 3 u] = .agg (cpW e)
    rw[hz]; rfl
abbrev It:=Sum Ex Int
def A6M:It→Ex
 | .inl e=>e
 | .inr n=>cE n
def A0V (l:List Rng):List It:=l.flatMap fun r => [.inr r.lo,.inr r.hi]
def A2Q (e:Ex)(l:List Rng):List It := .inl e :: A0V l
def NW (e:Ex)(l:List Rng):Ex := .mk 23 0 ⟨#[]⟩ .any ((A2Q e l).map A6M)
theorem ATU (a:Rng)(l:List Rng):A0V (a :: l) = .inr a.lo :: .inr a.hi :: A0V l:=rfl
theorem A1Q (h:Hp)(a b:Int)(s:ByteArray)(m:SM)(xs:List (List AV)):FM Tryz.prog true h 46 1 [(0,.agg [.int .i64 a,.int .i64 b,.str s,.sl m 4 xs])]=some (.own h.length 0 1,h++[ABlk.live 4 [[.int .i64 a,.int .i64 b,.str s,.sl m 4 xs]]]):=by kernel_rfl
theorem A7C (h:Hp)(e:Ex):FM Tryz.prog true h 46 1 [(0,.agg (DX e))]=some (.own h.length 0 1,h++[ABlk.live 4 [DX e]]):=by
 rw[JJ]; exact A1Q h _ _ _ _ _
theorem A7O (o n:Nat):LM Tryz.prog 48 [(0,.int .i64 23),(3,.own o 0 n)]=some (.agg [.int .i64 23,.int .i64 0,.str ⟨#[]⟩,.own o 0 n]):=by kernel_rfl
def orE (a b:Ex):Ex := .mk 20 0 ⟨#[]⟩ .full [a,b]
def AWM (e:Ex)(l:List Rng):Nat→Nat→Ex→Ex
 | 0,_,out=>out
 | f+1,i,out=>if i < l.length then AWM e l f (i+16) (orE out (NW e ((l.drop i).take (min l.length (i+16) - i)))) else out
def AJC (e:Ex)(l:List Rng):Ex:=AWM e l l.length 16 (NW e (l.take (min l.length 16)))
theorem AYF (h:Hp)(a b:Ex):FM Tryz.prog false h 46 2 [(0,.agg (DX a)),(1,.agg (DX b))]=some (.sl .full 4 [DX a,DX b],h):=by
 rw[JJ a,JJ b]
 generalize a.args.map DX=xs
 generalize b.args.map DX=ys
 kernel_rfl
theorem A7M (xs:List (List AV)):LM Tryz.prog 48 [(0,.int .i64 20),(3,.sl .full 4 xs)]=some (.agg [.int .i64 20,.int .i64 0,.str ⟨#[]⟩,.sl .full 4 xs]):=by kernel_rfl
theorem AZ9 (a b:Ex):DX (orE a b) = [.int .i64 20,.int .i64 0,.str ⟨#[]⟩,.sl .full 4 [DX a,DX b]]:=by rw[JJ]; rfl
theorem AEI (xs:List Rng):(normal xs).length≤xs.length:=by
 unfold normal AAB
 have h1:=ABL ((xs.filter full).mergeSort AUL) []
 have h2:=List.length_filter_le full xs
 rw[List.length_mergeSort] at h1
 simp only[List.length_nil,jG] at h1
 omega
theorem ATK {H:Hp}{b:Nat}{e:Ex}(hb:H[b]? = some (.live 4 [DX e])):D8 Tryz.prog H 48 (.ptr b 0 0)=some (.agg (DX e)):=AAA hb (JE e)
theorem AVQ {H:Hp}{b:Nat}{row:List AV}{e:Ex}(hb:H[b]? = some (.live 4 [row]))(hr:row.length=4):FP Tryz.prog H 48 (.ptr b 0 0) (.agg (DX e))=some (H.set b (.live 4 [DX e])):=AQ0 hb hr (JE e) (ABY e)
end Go.Proofs.YtfpagfhhhlljjaaGreatDoor.Ho
set_option linter.unusedSimpArgs false
set_option maxRecDepth 8000
namespace Go.Proofs.YtfpagfhhhlljjaaGreatDoor.Ho
open Sm Bins Cov Wd Xe Go.RowKit
section
variable (G:Nat→AV)
end
structure Xs where
 m:SM
 l:List Ex
def A2T (x:Xs):List AV := [.sl x.m 4 (x.l.map DX)]
section
variable (G:Nat→AV)
end
end Go.Proofs.YtfpagfhhhlljjaaGreatDoor.Ho
set_option linter.unusedSimpArgs false
set_option maxRecDepth 8000
namespace Go.Proofs.YtfpagfhhhlljjaaGreatDoor.Ho
open Sm Bins Cov Go.RowKit
open Bool renaming not_false→jC
open Nat renaming le_of_ble_eq_true→jI,reduceEqDiff→jB,add_zero→jK,zero_add→jG
open Option renaming getD_some→jA
section
variable (G:Nat→AV)
theorem ALP (m:Mo)(x:Hl)(hc:x.cross=true)(i:Nat)(hi:i < m.crs.length)(hz:x.idx=(i:Int))(h:Hp):PCall (En G) 32 [.agg (EE m),.agg (JD x)] h (.sl m.crs[i].pm 1 (m.crs[i].pts.map qencI)):=by
 refine ACalls.pure0 rfl ?_
 refine acN Tryz.func32 rfl ?_
 show awp _ _ _ _ _ (EM _ [.tmp 4] _)
 have t:=Hb.mk' h m x
 simp -implicitDefEqProofs only[vQ,BD,↓reduceIte,jB,enP,XA,bxM,bxH]
 generalize h++[ABlk.live 2 [EE m]]++[ABlk.live 3 [JD x]]=H at t ⊢
 generalize (h++[ABlk.live 2 [EE m]]).length=hb at t ⊢
 have l0:=AOY t.gh
 have l1:=AET t.gh
 rw[hc] at l0
 rw[hz] at l1
 simp -implicitDefEqProofs only[vQ,BD,↓reduceIte,jB,enP,P5,IV,LY,JH,l0,l1,XW t.gm,DN hi,CY KO hi,QJ]
 exact⟨by first | exact True.intro | exact rfl,t.hx⟩
theorem ALO (m:Mo)(x:Hl)(hc:x.cross=false)(h:Hp):PCall (En G) 32 [.agg (EE m),.agg (JD x)] h (.sl .full 1 ([x.idx].map qencI)):=by
 refine ACalls.pure0 rfl ?_
 refine acN Tryz.func32 rfl ?_
 show awp _ _ _ _ _ (EM _ [.tmp 4] _)
 have t:=Hb.mk' h m x
 simp -implicitDefEqProofs only[vQ,BD,List.map_cons,List.map_nil,↓reduceIte,jB,enP,XA,bxM,bxH]
 generalize h++[ABlk.live 2 [EE m]]++[ABlk.live 3 [JD x]]=H at t ⊢
 generalize (h++[ABlk.live 2 [EE m]]).length=hb at t ⊢
 have l0:=AOY t.gh
 rw[hc] at l0
 simp -implicitDefEqProofs only[vQ,BD,↓reduceIte,jB,enP,LY,l0,AET t.gh,AG2]
 exact⟨by first | exact True.intro | exact rfl,t.hx⟩
end
end Go.Proofs.YtfpagfhhhlljjaaGreatDoor.Ho
