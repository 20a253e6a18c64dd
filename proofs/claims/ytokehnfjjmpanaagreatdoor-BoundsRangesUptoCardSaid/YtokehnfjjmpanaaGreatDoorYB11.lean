/- Part 11 of the proof (W0, W1, W2, W3, W4, W5, W6, W7); no condition. -/
import Derived.Test.YtokehnfjjmpanaaGreatDoorYB10
set_option linter.unusedVariables false
namespace Go.Proofs.YtokehnfjjmpanaaGreatDoor.Bd
open Bins Cov Xe Wd
open Nat renaming eq_zero_or_pos→zZ
def wfR (r:Rng):Prop:=0≤r.lo∧r.lo≤r.hi∧r.hi≤65535
instance (r:Rng):Decidable (wfR r):=inferInstanceAs (Decidable (_∧_))
def GV:Rng:=⟨0,65535⟩
def knR (t f:Bool):Rng:=if t=true then ⟨1,1⟩ else if f=true then ⟨0,0⟩ else ⟨0,1⟩
def isT (r:Rng):Bool:=decide (r.lo > 0)
def isF (r:Rng):Bool:=r.hi == 0
def sgl (r:Rng):Bool:=r.lo == r.hi
def QN (lo hi:Int):Rng:=if hi > 65535 then GV else ⟨lo,hi⟩
def UH (a b:Rng):Rng:=if a.lo+b.lo > 65535 then ⟨a.lo+b.lo - 65536,a.hi+b.hi - 65536⟩ else QN (a.lo+b.lo) (a.hi+b.hi)
def UU (a b:Rng):Rng:=if 0≤a.lo - b.hi then ⟨a.lo - b.hi,a.hi - b.lo⟩ else if a.hi - b.lo < 0 then ⟨a.lo - b.hi+65536,a.hi - b.lo+65536⟩ else GV
def XM (a:Rng):Rng:=if isF a=true then ⟨0,0⟩ else if isT a=true then ⟨65536 - a.hi,65536 - a.lo⟩ else GV
def AJ3 (a b:Rng):Rng:=QN (a.lo * b.lo) (a.hi * b.hi)
def blN (n:Nat):Nat:=if n=0 then 0 else blN (n / 2)+1
theorem V8:blN 0=0:=by rw [blN]; simp
theorem WO {n:Nat} (h:0 < n):blN n=blN (n / 2)+1:=by rw [blN]; rw [if_neg (by omega)]
def VS (n:Int):Int:=((2 ^ blN n.toNat:Nat):Int) - 1
def AGM (a b:Int):Int:=((a.toNat &&& b.toNat:Nat):Int)
def orI (a b:Int):Int:=((a.toNat ||| b.toNat:Nat):Int)
def AJK (a b:Int):Int:=((a.toNat ^^^ b.toNat:Nat):Int)
def QQ (op:Int) (a b:Rng):Rng :=
 if op=10 then if (sgl a && sgl b)=true then ⟨AGM a.lo b.lo,AGM a.lo b.lo⟩ else ⟨0,min a.hi b.hi⟩
 else if op=11 then if (sgl a && sgl b)=true then ⟨orI a.lo b.lo,orI a.lo b.lo⟩ else ⟨max a.lo b.lo,VS (max a.hi b.hi)⟩
 else if (sgl a && sgl b)=true then ⟨AJK a.lo b.lo,AJK a.lo b.lo⟩ else ⟨0,VS (max a.hi b.hi)⟩
def QH (a b:Rng):Rng:=if (isF a || decide (b.lo≥16))=true then ⟨0,0⟩ else if sgl b=true then QN (a.lo * 2 ^ b.lo.toNat) (a.hi * 2 ^ b.lo.toNat) else GV
def VN (n k:Int):Int:=if k≥16 then 0 else n / 2 ^ k.toNat
def PZ (a b:Rng):Bool:=sgl a && sgl b && (a.lo == b.lo)
def dfB (a b:Rng):Bool:=decide (a.hi < b.lo) || decide (b.hi < a.lo)
def J4 (op:Int) (a b:Rng):Rng :=
 if op=7 then UH a b else if op=8 then UU a b else if op=9 then AJ3 a b else if op=10∨op=11∨op=12 then QQ op a b
 else if op=13 then QH a b else if op=14 then ⟨VN a.lo b.hi,VN a.hi b.lo⟩
 else if op=15 then knR (PZ a b) (dfB a b) else if op=16 then knR (dfB a b) (PZ a b)
 else if op=17 then knR (decide (a.hi < b.lo)) (decide (a.lo≥b.hi)) else if op=18 then knR (decide (a.hi≤b.lo)) (decide (a.lo > b.hi))
 else if op=19 then knR (isT a && isT b) (isF a || isF b) else if op=20 then knR (isT a || isT b) (isF a && isF b)
 else knR (isF a || isT b) (isT a && isF b)
def TS (a lo hi:Rng):Bool:=decide (a.lo≥lo.hi) && decide (a.hi≤hi.lo)
def VV (a lo hi:Rng):Bool:=decide (a.hi≥lo.lo) && decide (a.lo≤hi.hi) && decide (lo.lo≤hi.hi)
def QK (a:Rng):Bool→List Rng→Rng
 | imp,lo :: hi :: r=>if TS a lo hi=true then ⟨1,1⟩ else QK a (if VV a lo hi=true then false else imp) r
 | imp,_=>knR false imp
def onI (n:Int):Int:=(IL n.toNat 16:Nat)
def AA4 (a:Rng):Rng:=if sgl a=true then ⟨onI a.lo,onI a.lo⟩ else ⟨min a.lo 1,(blN a.hi.toNat:Nat)⟩
def Y3 (c a b:Rng):Rng:=if isT c=true then a else if isF c=true then b else ⟨min a.lo b.lo,max a.hi b.hi⟩
def opR (op:Int) (vs:List Rng):Rng :=
 if op=4 then knR (isF (vs.getD 0 GV)) (isT (vs.getD 0 GV)) else if op=5 then ⟨65535 - (vs.getD 0 GV).hi,65535 - (vs.getD 0 GV).lo⟩
 else if op=6 then XM (vs.getD 0 GV) else if op=25 then AA4 (vs.getD 0 GV) else if op=22 then Y3 (vs.getD 0 GV) (vs.getD 1 GV) (vs.getD 2 GV)
 else if op=23 then QK (vs.getD 0 GV) true (vs.drop 1) else J4 op (vs.getD 0 GV) (vs.getD 1 GV)
def AJM (p:List Vr) (l:List Rng) (name:ByteArray):Rng:=if 0≤plc p name then l.getD (plc p name).toNat GV else GV
def evO (p:List Vr) (l:List Rng) (op n:Int) (name:ByteArray) (vs:List Rng):Rng :=
 if op=1 then ⟨n,n⟩ else if op=2 then AJM p l name else if op=3∨op=24 then GV else opR op vs
mutual
def evS (p:List Vr) (l:List Rng):Ex→Rng
 | .mk op n name _ args=>evO p l op n name (MQ p l args)
def MQ (p:List Vr) (l:List Rng):List Ex→List Rng
 | [] => []
 | e :: es=>evS p l e :: MQ p l es
end
theorem ACT (p:List Vr) (l:List Rng) (e:Ex):evS p l e=evO p l e.op e.n e.name (MQ p l e.args):=by cases e; simp [evS,Ex.op,Ex.n,Ex.name,Ex.args]
theorem J6 (p:List Vr) (l:List Rng) : ∀ xs:List Ex,MQ p l xs=xs.map (evS p l)
 | []=>by simp [MQ]
 | e :: es=>by simp [MQ,J6 p l es]
theorem OQ (p:List Vr) (l:List Rng) (xs:List Ex):(MQ p l xs).length=xs.length:=by rw [J6,List.length_map]
theorem TB:wfR GV:=by decide
theorem XA (t f:Bool):wfR (knR t f):=by cases t <;> cases f <;> decide
theorem AFB {lo hi:Int} (h0:0≤lo) (h:lo≤hi):wfR (QN lo hi):=by
 unfold QN
 split
 ·exact TB
 ·exact ⟨h0,h,by show hi≤65535; omega⟩
theorem APC {a b:Rng} (ha:wfR a) (hb:wfR b):wfR (UH a b):=by
 obtain ⟨a0,a1,a2⟩:=ha
 obtain ⟨b0,b1,b2⟩:=hb
 unfold UH
 split
 ·refine ⟨?_,?_,?_⟩ <;> simp only <;> omega
 ·exact AFB (by omega) (by omega)
theorem APH {a b:Rng} (ha:wfR a) (hb:wfR b):wfR (UU a b):=by
 obtain ⟨a0,a1,a2⟩:=ha
 obtain ⟨b0,b1,b2⟩:=hb
 unfold UU
 split
 ·refine ⟨?_,?_,?_⟩ <;> simp only <;> omega
 split
 ·refine ⟨?_,?_,?_⟩ <;> simp only <;> omega
 ·exact TB
theorem APE {a:Rng} (ha:wfR a):wfR (XM a):=by
 obtain ⟨a0,a1,a2⟩:=ha
 unfold XM isF isT
 split
 ·decide
 split
 ·rename_i h; simp at h
  refine ⟨?_,?_,?_⟩ <;> simp only <;> omega
 ·exact TB
theorem AWU {a b:Rng} (ha:wfR a) (hb:wfR b):wfR (AJ3 a b):=by
 obtain ⟨a0,a1,a2⟩:=ha
 obtain ⟨b0,b1,b2⟩:=hb
 exact AFB (Int.mul_nonneg a0 b0) (Int.mul_le_mul a1 b1 b0 (by omega))
theorem UX : ∀ (k n:Nat),n < 2 ^ k↔blN n≤k:=by
 intro k
 induction k with
 | zero =>
   intro n
   rcases zZ n with h | h
   ·subst h; rw [V8]; decide
   ·rw [WO h]; simp; omega
 | succ k ih =>
   intro n
   rcases zZ n with h | h
   ·subst h; rw [V8]; simp; exact Nat.pos_of_ne_zero (by simp)
   ·rw [WO h,Nat.pow_succ]
    have:=ih (n / 2)
    omega
theorem AEU {n:Nat} (h:n≤65535):blN n≤16:=(UX 16 n).1 (by omega)
theorem AWB (n:Nat):n < 2 ^ blN n:=(UX _ n).2 (Nat.le_refl _)
theorem AGH {a b:Nat} (h:a≤b):blN a≤blN b:=(UX _ a).1 (Nat.lt_of_le_of_lt h (AWB b))
theorem AXT {n:Int} (h0:0≤n):n≤VS n:=by
 have:=AWB n.toNat
 unfold VS; omega
theorem AXS {n:Int} (h:n≤65535):VS n≤65535:=by
 have:=Nat.pow_le_pow_right (by decide:0 < 2) (AEU (n:=n.toNat) (by omega))
 unfold VS; omega
theorem AQI {a b:Int} (h:a≤b):VS a≤VS b:=by
 have:=Nat.pow_le_pow_right (by decide:0 < 2) (AGH (a:=a.toNat) (b:=b.toNat) (by omega))
 unfold VS; omega
theorem ABS {n:Int} (h0:0≤n) (h1:n≤65535):wfR ⟨n,n⟩:=⟨h0,Int.le_refl _,h1⟩
theorem AWW (op:Int) {a b:Rng} (ha:wfR a) (hb:wfR b):wfR (QQ op a b):=by
 obtain ⟨a0,a1,a2⟩:=ha
 obtain ⟨b0,b1,b2⟩:=hb
 have hm0:=AXT (n:=max a.hi b.hi) (by omega)
 have hm1:=AXS (n:=max a.hi b.hi) (by omega)
 have x:a.lo.toNat < 2 ^ 16:=by omega
 have y:b.lo.toNat < 2 ^ 16:=by omega
 unfold QQ
 split
 ·split
  ·have:=Nat.and_lt_two_pow a.lo.toNat y
   exact ABS (Int.natCast_nonneg _) (by unfold AGM; omega)
  ·refine ⟨?_,?_,?_⟩ <;> simp only <;> omega
 split
 ·split
  ·have:=Nat.or_lt_two_pow x y
   exact ABS (Int.natCast_nonneg _) (by unfold orI; omega)
  ·refine ⟨?_,?_,?_⟩ <;> simp only <;> omega
 split
 ·have:=Nat.xor_lt_two_pow x y
  exact ABS (Int.natCast_nonneg _) (by unfold AJK; omega)
 ·refine ⟨?_,?_,?_⟩ <;> simp only <;> omega
theorem VO (k:Nat):(0:Int) < 2 ^ k:=Int.pow_pos (by decide)
theorem APD {a b:Rng} (ha:wfR a):wfR (QH a b):=by
 obtain ⟨a0,a1,a2⟩:=ha
 have hp:=VO b.lo.toNat
 unfold QH
 split
 ·decide
 split
 ·exact AFB (Int.mul_nonneg a0 (by omega)) (Int.mul_le_mul_of_nonneg_right a1 (by omega))
 ·exact TB
theorem AXI {n:Int} (h:0≤n) (k:Int):0≤VN n k:=by
 unfold VN
 split
 ·decide
 ·exact Int.ediv_nonneg h (by have:=VO k.toNat; omega)
theorem AXJ {n:Int} (h:0≤n) (k:Int):VN n k≤n:=by
 unfold VN
 split
 ·exact h
 ·exact Int.ediv_le_self _ h
theorem AB1 {m n j k:Int} (h0:0≤m) (h:m≤n) (hj:j≤k):VN m k≤VN n j:=by
 unfold VN
 split
 ·split
  ·decide
  ·exact Int.ediv_nonneg (by omega) (by have:=VO j.toNat; omega)
 ·rw [if_neg (by omega)]
  have hp:=VO j.toNat
  have hd:((2:Int) ^ k.toNat)=2 ^ j.toNat * 2 ^ (k.toNat - j.toNat):=by rw [← Int.pow_add]; congr 1; omega
  rw [hd,Int.ediv_ediv_of_nonneg (by omega) |>.symm]
  have h2:m / 2 ^ j.toNat≤n / 2 ^ j.toNat:=Int.ediv_le_ediv hp h
  have h3:0≤m / 2 ^ j.toNat:=Int.ediv_nonneg h0 (by omega)
  exact Int.le_trans (Int.ediv_le_self _ h3) h2
theorem APF (a:Rng) : ∀ (imp:Bool) (l:List Rng),wfR (QK a imp l)
 | imp,[]=>XA _ _
 | imp,[_]=>XA _ _
 | imp,lo :: hi :: r=>by
   unfold QK
   split
   ·decide
   ·exact APF a _ r
theorem AWX (op:Int) {a b:Rng} (ha:wfR a) (hb:wfR b):wfR (J4 op a b):=by
 unfold J4
 by_cases h:op=7
 ·rw [if_pos h]; exact APC ha hb
 rw [if_neg h]; clear h
 by_cases h:op=8
 ·rw [if_pos h]; exact APH ha hb
 rw [if_neg h]; clear h
 by_cases h:op=9
 ·rw [if_pos h]; exact AWU ha hb
 rw [if_neg h]; clear h
 by_cases h:op=10∨op=11∨op=12
 ·rw [if_pos h]; exact AWW op ha hb
 rw [if_neg h]; clear h
 by_cases h:op=13
 ·rw [if_pos h]; exact APD ha
 rw [if_neg h]; clear h
 by_cases h:op=14
 ·rw [if_pos h]
  obtain ⟨a0,a1,a2⟩:=ha
  obtain ⟨b0,b1,b2⟩:=hb
  exact ⟨AXI a0 _,AB1 a0 a1 b1,Int.le_trans (AXJ (by omega) _) a2⟩
 rw [if_neg h]; clear h
 by_cases h:op=15
 ·rw [if_pos h]; exact XA _ _
 rw [if_neg h]; clear h
 by_cases h:op=16
 ·rw [if_pos h]; exact XA _ _
 rw [if_neg h]; clear h
 by_cases h:op=17
 ·rw [if_pos h]; exact XA _ _
 rw [if_neg h]; clear h
 by_cases h:op=18
 ·rw [if_pos h]; exact XA _ _
 rw [if_neg h]; clear h
 by_cases h:op=19
 ·rw [if_pos h]; exact XA _ _
 rw [if_neg h]; clear h
 by_cases h:op=20
 ·rw [if_pos h]; exact XA _ _
 rw [if_neg h]; exact XA _ _
theorem AY4 (n:Int):0≤onI n∧onI n≤16:=by
 have:=N9 n.toNat 16
 unfold onI; omega
theorem ATC {a:Rng} (ha:wfR a):wfR (AA4 a):=by
 obtain ⟨a0,a1,a2⟩:=ha
 unfold AA4
 by_cases h:sgl a=true
 ·rw [if_pos h]
  have:=AY4 a.lo
  exact ABS (by omega) (by omega)
 rw [if_neg h]
 have h16:=AEU (n:=a.hi.toNat) (by omega)
 refine ⟨?_,?_,?_⟩ <;> simp only
 ·omega
 ·by_cases hz:a.hi=0
  ·omega
  ·rw [WO (by omega)]; omega
 ·omega
theorem AWV (c:Rng) {a b:Rng} (ha:wfR a) (hb:wfR b):wfR (Y3 c a b):=by
 obtain ⟨a0,a1,a2⟩:=ha
 obtain ⟨b0,b1,b2⟩:=hb
 unfold Y3
 by_cases h:isT c=true
 ·rw [if_pos h]; exact ⟨a0,a1,a2⟩
 rw [if_neg h]
 by_cases h:isF c=true
 ·rw [if_pos h]; exact ⟨b0,b1,b2⟩
 rw [if_neg h]
 refine ⟨?_,?_,?_⟩ <;> simp only <;> omega
theorem SG {vs:List Rng} (hv : ∀ x∈vs,wfR x) (k:Nat):wfR (vs.getD k GV):=by
 rw [List.getD_eq_getElem?_getD]
 rcases Nat.lt_or_ge k vs.length with h | h
 ·rw [List.getElem?_eq_getElem h]; exact hv _ (List.getElem_mem h)
 ·rw [List.getElem?_eq_none h]; exact TB
theorem AY3 (op:Int) {vs:List Rng} (hv : ∀ x∈vs,wfR x):wfR (opR op vs):=by
 have h0:=SG hv 0
 have h1:=SG hv 1
 have h2:=SG hv 2
 unfold opR
 by_cases h:op=4
 ·rw [if_pos h]; exact XA _ _
 rw [if_neg h]; clear h
 by_cases h:op=5
 ·rw [if_pos h]
  obtain ⟨a0,a1,a2⟩:=h0
  refine ⟨?_,?_,?_⟩ <;> simp only <;> omega
 rw [if_neg h]; clear h
 by_cases h:op=6
 ·rw [if_pos h]; exact APE h0
 rw [if_neg h]; clear h
 by_cases h:op=25
 ·rw [if_pos h]; exact ATC h0
 rw [if_neg h]; clear h
 by_cases h:op=22
 ·rw [if_pos h]; exact AWV _ h1 h2
 rw [if_neg h]; clear h
 by_cases h:op=23
 ·rw [if_pos h]; exact APF _ _ _
 rw [if_neg h]; exact AWX op h0 h1
theorem X6 (p:List Vr) {l:List Rng} (hl : ∀ r∈l,wfR r) (e:Ex):(∀ x∈pre e,JH x=0)→wfR (evS p l e):=by
 induction e using Ex.induct with | h e ih => ?_
 intro hval
 have hnode:=hval e (by rw [pre_eq]; simp)
 rw [ACT]
 unfold evO
 by_cases h1:e.op=1
 ·rw [if_pos h1]
  have:=(VP hnode).1 h1
  exact ABS this.1 (by omega)
 rw [if_neg h1]
 by_cases h2:e.op=2
 ·rw [if_pos h2]
  unfold AJM
  by_cases h:0≤plc p e.name
  ·rw [if_pos h]; exact SG hl _
  ·rw [if_neg h]; exact TB
 rw [if_neg h2]
 by_cases h3:e.op=3∨e.op=24
 ·rw [if_pos h3]; exact TB
 rw [if_neg h3]
 refine AY3 _ fun x hx => ?_
 rw [J6] at hx
 obtain ⟨a,ha,rfl⟩:=List.mem_map.1 hx
 exact ih a ha fun x hx=>hval x (by rw [pre_eq]; exact List.mem_cons_of_mem _ (ND ha x hx))
end Go.Proofs.YtokehnfjjmpanaaGreatDoor.Bd
set_option linter.unusedSimpArgs false
set_option maxRecDepth 8000
namespace Go.Proofs.YtokehnfjjmpanaaGreatDoor.Bd
open Sm Bins Cov Xe Wd Go.RowKit
open Bool renaming not_false→jC
open Int renaming toNat_natCast→zG,eq_ofNat_of_zero_le→zI
open List renaming drop_eq_nil_of_le→zS,map_cons→jF,map_nil→jD,append_nil→jE,getElem?_cons_zero→zB,getElem?_cons_succ→zD,getElem?_map→zA,getElem?_eq_getElem→jU,drop_eq_getElem_cons→zO
open Nat renaming le_refl→jQ,le_of_ble_eq_true→jJ,reduceEqDiff→jA,add_zero→jH,zero_add→jG,reduceAdd→jL,add_assoc→qO
open Option renaming getD_some→jB,getD_none→jK
def zR:List AV := [.int .i64 0,.int .i64 0]
theorem KG (h:Hp):J8 Tryz.prog h 34=some (.ptr h.length 0 0,h ++ [ABlk.live 2 [zR]]):=A3O h
theorem KR (a b:Int):JZ Tryz.prog 34 [(0,.int .i64 a),(1,.int .i64 b)]=some (.agg (encR ⟨a,b⟩)):=by kernel_rfl
theorem AIZ (b:Int):JZ Tryz.prog 34 [(1,.int .i64 b)]=some (.agg (encR ⟨0,b⟩)):=by kernel_rfl
theorem ASI:JZ Tryz.prog 34 []=some (.agg (encR ⟨0,0⟩)):=by kernel_rfl
theorem AXD {H:Hp} {b:Nat} {row:List AV} (r:Rng) (hb:H[b]? = some (.live 2 [row])) (hr:row.length=2):GM Tryz.prog H 34 (.ptr b 0 0) (.agg (encR r))=some (H.set b (.live 2 [encR r])):=by
 rw [AAL (cs:=encR r) (U2 rfl) VC hb (by rw [hr]; exact jQ 2)]
 have:splice row 0 (encR r)=encR r:=by unfold splice; rw [List.take_zero,zS (by rw [hr]; exact jQ 2)]; simp
 rw [this]
theorem IW {h:Hp} {b:Nat} {r:Rng} (hb:h[b]? = some (.live 2 [encR r])):DR Tryz.prog h 34 (.ptr b 0 0)=some (.agg (encR r)):=by
 rw [H7 AJB VC hb rfl (jQ 2)]; rfl
theorem FX {h:Hp} {b:Nat} {r:Rng} (hb:h[b]? = some (.live 2 [encR r])):DR Tryz.prog h 3 (.ptr b 0 0)=some (.int .i64 r.lo):=by
 rw [DJ ag3 hb (row:=encR r) rfl]; rfl
theorem GI {h:Hp} {b:Nat} {r:Rng} (hb:h[b]? = some (.live 2 [encR r])):DR Tryz.prog h 3 (.ptr b 0 1)=some (.int .i64 r.hi):=by
 rw [DJ ag3 hb (row:=encR r) rfl]; rfl
theorem A2Z {c:Nat} {R:AV→Hp→Prop} {F:Fr} {H:Hp} {b:Nat} {x:ABlk} {r:Rng} (hF:F c = .ptr b 0 0) (hb:H[b]? = some x) (hR:R (.agg (encR r)) (H.set b (.live 2 [encR r]))):EN Tryz.prog [.cell c 34] R .ret F (H.set b (.live 2 [encR r])):=by
 rw [AKQ _ _ _ _ _ _ _ _ _ hF]
 exact ⟨_,IW (G7 hb),hR⟩
structure Z0 (h H:Hp) (bz:Nat):Prop where
 gz:H[bz]? = some (ABlk.live 2 [zR])
 hx:Sm.ext h H
 hl:h.length≤bz
structure Z1 (h H:Hp) (ba bz:Nat) (a:Rng):Prop extends Z0 h H bz where
 ga:H[ba]? = some (ABlk.live 2 [encR a])
structure Z2 (h H:Hp) (ba bb bz:Nat) (a b:Rng):Prop extends Z1 h H ba bz a where
 gb:H[bb]? = some (ABlk.live 2 [encR b])
theorem Z0.mk' (h:Hp):Z0 h (h ++ [ABlk.live 2 [zR]]) h.length:=⟨DF _ _,(ext.rfl' h).app _,jQ _⟩
theorem Z1.mk' (h:Hp) (a:Rng):Z1 h (h ++ [ABlk.live 2 [encR a]] ++ [ABlk.live 2 [zR]]) h.length (h ++ [ABlk.live 2 [encR a]]).length a:=⟨⟨DF _ _,((ext.rfl' h).app _).app _,by simp⟩,DC (DF _ _)⟩
theorem Z2.mk' (h:Hp) (a b:Rng):Z2 h (h ++ [ABlk.live 2 [encR a]] ++ [ABlk.live 2 [encR b]] ++ [ABlk.live 2 [zR]]) h.length (h ++ [ABlk.live 2 [encR a]]).length (h ++ [ABlk.live 2 [encR a]] ++ [ABlk.live 2 [encR b]]).length a b :=
 ⟨⟨⟨DF _ _,(((ext.rfl' h).app _).app _).app _,by simp⟩,DC (DC (DF _ _))⟩,DC (DF _ _)⟩
theorem Z0.out {h H:Hp} {bz:Nat} (z:Z0 h H bz) {c:Nat} {F:Fr} {r r':Rng} (hF:F c = .ptr bz 0 0) (he:r=r'):EN Tryz.prog [.cell c 34] (fun v H=>v = .agg (encR r')∧Sm.ext h H) .ret F (H.set bz (.live 2 [encR r])) :=
 A2Z hF z.gz ⟨by rw [he],(z.hx.set z.hl _)⟩
theorem Z0.st {h H:Hp} {bz:Nat} (z:Z0 h H bz) (r:Rng):GM Tryz.prog H 34 (.ptr bz 0 0) (.agg (encR r))=some (H.set bz (.live 2 [encR r])):=AXD r z.gz rfl
section
variable (G:Nat→AV)
theorem MM (a:Rng) (h:Hp):PCall (En G) 52 [.agg (encR a)] h (.bool (isT a)):=by
 refine ACalls.pure0 rfl ?_
 refine acN Tryz.func52 rfl ?_
 show awp _ _ _ _ _ (EN _ [.tmp 2] _)
 simp -implicitDefEqProofs only [BB,A8,BK,A7,CV,AZ,BA,AO,AQ,AL,BD,AY,AC,AA,AX,AU,BH,BM,BC,FQ,BO,BU,BG,CB,AB,FM,BF,↓reduceIte,jA,jH,jB,jC,enP,FB,bxR,FX (DF h (ABlk.live 2 [encR a]))]
 exact ⟨rfl,_,rfl⟩
theorem JX (a:Rng) (h:Hp):PCall (En G) 53 [.agg (encR a)] h (.bool (isF a)):=by
 refine ACalls.pure0 rfl ?_
 refine acN Tryz.func53 rfl ?_
 show awp _ _ _ _ _ (EN _ [.tmp 2] _)
 simp -implicitDefEqProofs only [BB,A8,BK,A7,CV,AZ,BA,AO,AQ,AL,BD,AY,AC,AA,AX,AU,BH,BM,BC,FQ,BO,BU,BG,CB,AB,CX,BF,↓reduceIte,jA,jG,jB,jC,enP,FN,bxR,GI (DF h (ABlk.live 2 [encR a]))]
 exact ⟨rfl,_,rfl⟩
theorem MK (a:Rng) (h:Hp):PCall (En G) 138 [.agg (encR a)] h (.bool (sgl a)):=by
 refine ACalls.pure0 rfl ?_
 refine acN Tryz.func138 rfl ?_
 show awp _ _ _ _ _ (EN _ [.tmp 2] _)
 simp -implicitDefEqProofs only [BB,A8,BK,A7,CV,AZ,BA,AO,AQ,AL,BD,AY,AC,AA,AX,AU,BM,BC,FQ,BO,BU,BG,CB,AB,CX,BF,↓reduceIte,jA,jH,jG,jB,jC,enP,FB,FN,bxR,FX (DF h (ABlk.live 2 [encR a])),GI (DF h (ABlk.live 2 [encR a]))]
 exact ⟨rfl,_,rfl⟩
theorem P5 (n:Int) (h:Hp):PCall (En G) 30 [.int .i64 n] h (.agg (encR ⟨n,n⟩)):=by
 refine JW 2 (fun n H=>rfl) ?_
 refine acN Tryz.func30 rfl ?_
 show awp _ _ _ _ _ (EN _ [.cell 2 34] _)
 have z:=Z0.mk' h
 simp -implicitDefEqProofs only [ER,EP,BB,A8,BK,A7,AZ,BA,AO,AQ,AL,BD,AY,AC,DU,AA,AX,BJ,EZ,FI,CU,CB,AB,BZ,BF,↓reduceIte,jA,jB,jC,enP,jK,KG,KR,z.st]
 exact z.out (by simp -implicitDefEqProofs only [AA,↓reduceIte,jA]) rfl
theorem LC (h:Hp):PCall (En G) 48 [] h (.agg (encR GV)):=by
 refine JW 2 (fun n H=>rfl) ?_
 refine acN Tryz.func48 rfl ?_
 show awp _ _ _ _ _ (EN _ [.cell 0 34] _)
 have z:=Z0.mk' h
 simp -implicitDefEqProofs only [ER,EP,BB,A8,BK,A7,AZ,BA,AO,AQ,AL,BD,AY,AC,DU,AA,AX,AU,BH,EZ,FI,CU,CB,AB,BZ,↓reduceIte,jA,jB,jC,enP,jK,KG,KR,z.st]
 exact z.out (by simp -implicitDefEqProofs only [AA,↓reduceIte,jA]) rfl
theorem AGS (h:Hp):PCall (En G) 135 [] h (.agg (encR ⟨1,1⟩)):=by
 refine JW 2 (fun n H=>rfl) ?_
 refine acN Tryz.func135 rfl ?_
 show awp _ _ _ _ _ (EN _ [.cell 0 34] _)
 have z:=Z0.mk' h
 simp -implicitDefEqProofs only [BB,A8,A7,AZ,BA,AO,AQ,AL,BD,AY,AC,AU,BN,BH,EZ,BV,BP,CB,jF,jD,jE,jB,jC,enP,KG]
 refine (P5 G 1 _).use ?_
 simp -implicitDefEqProofs only [BK,A7,AZ,BA,AO,AQ,AL,BD,AY,AC,DU,AA,AX,CU,BZ,↓reduceIte,jA,jC,enP,jK,z.st]
 exact z.out (by simp -implicitDefEqProofs only [AA,↓reduceIte,jA]) rfl
theorem ABJ (h:Hp):PCall (En G) 136 [] h (.agg (encR ⟨0,0⟩)):=by
 refine JW 2 (fun n H=>rfl) ?_
 refine acN Tryz.func136 rfl ?_
 show awp _ _ _ _ _ (EN _ [.cell 0 34] _)
 have z:=Z0.mk' h
 simp -implicitDefEqProofs only [BB,A8,A7,AZ,BA,AO,AQ,AL,BD,AY,AC,AU,BN,BH,EZ,BV,BP,CB,jF,jD,jE,jB,jC,enP,KG]
 refine (P5 G 0 _).use ?_
 simp -implicitDefEqProofs only [BK,A7,AZ,BA,AO,AQ,AL,BD,AY,AC,DU,AA,AX,CU,BZ,↓reduceIte,jA,jC,enP,jK,z.st]
 exact z.out (by simp -implicitDefEqProofs only [AA,↓reduceIte,jA]) rfl
theorem ANT (h:Hp):PCall (En G) 137 [] h (.agg (encR ⟨0,1⟩)):=by
 refine JW 2 (fun n H=>rfl) ?_
 refine acN Tryz.func137 rfl ?_
 show awp _ _ _ _ _ (EN _ [.cell 0 34] _)
 have z:=Z0.mk' h
 simp -implicitDefEqProofs only [ER,EP,BB,A8,BK,A7,AZ,BA,AO,AQ,AL,BD,AY,AC,DU,AA,AX,AU,BH,EZ,FI,CU,CB,AB,BZ,↓reduceIte,jA,jB,jC,enP,jK,KG,KR,z.st]
 exact z.out (by simp -implicitDefEqProofs only [AA,↓reduceIte,jA]) rfl
theorem KA (t f:Bool) (h:Hp):PCall (En G) 93 [.bool t,.bool f] h (.agg (encR (knR t f))):=by
 refine JW 2 (fun n H=>rfl) ?_
 refine acN Tryz.func93 rfl ?_
 show awp _ _ _ _ _ (EN _ [.cell 4 34] _)
 have z:=Z0.mk' h
 simp -implicitDefEqProofs only [BB,CE,A8,BI,A7,AZ,BA,AO,AQ,AL,BD,AY,AC,AA,AX,BJ,BC,EZ,CB,BF,↓reduceIte,jA,jB,jC,enP,KG]
 generalize h ++ [ABlk.live 2 [zR]]=H at z ⊢
 generalize h.length=bz at z ⊢
 cases t
 ·simp -implicitDefEqProofs only [BB,A8,BI,A7,DN,AZ,BA,AO,AQ,AL,BD,AY,AC,AA,AX,BJ,BC,BF,BQ,↓reduceIte,jA,jB,jC]
  cases f
  ·simp -implicitDefEqProofs only [BB,A8,BR,A7,EO,DN,AZ,AO,AQ,AL,BD,AY,BN,BV,BP,jD,jE,jB,jC]
   refine (ANT G _).use ?_
   simp -implicitDefEqProofs only [BK,A7,AZ,BA,AO,AQ,AL,BD,AY,AC,DU,AA,AX,CU,BZ,↓reduceIte,jA,jC,enP,jK,z.st]
   exact z.out (by simp -implicitDefEqProofs only [AA,↓reduceIte,jA]) rfl
  ·simp -implicitDefEqProofs only [BB,A8,DI,AZ,AO,AQ,AL,BD,AY,BN,BV,BP,jD,jE,jB,jC]
   refine (ABJ G _).use ?_
   simp -implicitDefEqProofs only [BK,A7,CJ,D8,AZ,BA,AO,AQ,AL,BD,AY,AC,DU,AA,AX,CU,BZ,↓reduceIte,jA,jC,enP,jK,z.st]
   exact z.out (by simp -implicitDefEqProofs only [AA,↓reduceIte,jA]) rfl
 ·simp -implicitDefEqProofs only [BB,A8,DI,AZ,AO,AQ,AL,BD,AY,BN,BV,BP,jD,jE,jB,jC]
  refine (AGS G _).use ?_
  simp -implicitDefEqProofs only [BK,A7,CJ,D8,AZ,BA,AO,AQ,AL,BD,AY,AC,DU,AA,AX,CU,BZ,↓reduceIte,jA,jC,enP,jK,z.st]
  exact z.out (by simp -implicitDefEqProofs only [AA,↓reduceIte,jA]) (by cases f <;> rfl)
theorem AC3 (lo hi:Int) (h:Hp):PCall (En G) 143 [.int .i64 lo,.int .i64 hi] h (.agg (encR (QN lo hi))):=by
 refine JW 2 (fun n H=>rfl) ?_
 refine acN Tryz.func143 rfl ?_
 show awp _ _ _ _ _ (EN _ [.cell 4 34] _)
 have z:=Z0.mk' h
 simp -implicitDefEqProofs only [BB,A8,BI,A7,AZ,BA,AO,AQ,AL,BD,AY,AC,AA,AX,AU,BH,BJ,EZ,BU,CB,AB,FM,BF,BQ,↓reduceIte,jA,jB,jC,enP,KG]
 generalize h ++ [ABlk.live 2 [zR]]=H at z ⊢
 generalize h.length=bz at z ⊢
 refine CQ (fun hc => ?_) (fun hc => ?_)
 ·have hc:hi > 65535:=by simpa using hc
  simp -implicitDefEqProofs only [BB,A8,AZ,AO,AQ,AL,BD,AY,BN,BV,BP,jD,jE,jB,jC]
  refine (LC G _).use ?_
  simp -implicitDefEqProofs only [BK,A7,CJ,AZ,BA,AO,AQ,AL,BD,AY,AC,DU,AA,AX,CU,BZ,↓reduceIte,jA,jC,enP,jK,z.st]
  exact z.out (by simp -implicitDefEqProofs only [AA,↓reduceIte,jA]) (by unfold QN; rw [if_pos hc])
 ·have hc : ¬ hi > 65535:=by simpa using hc
  simp -implicitDefEqProofs only [ER,EP,BB,A8,BR,BK,A7,AZ,BA,AO,AQ,AL,BD,AY,AC,DU,AA,AX,BJ,FI,CU,AB,BZ,BF,BQ,↓reduceIte,jA,jB,jC,enP,jK,KR,z.st]
  exact z.out (by simp -implicitDefEqProofs only [AA,↓reduceIte,jA]) (by unfold QN; rw [if_neg hc])
theorem AQF (a:Rng) (ha:wfR a) (h:Hp):PCall (En G) 94 [.agg (encR a)] h (.agg (encR (XM a))):=by
 obtain ⟨a0,a1,a2⟩:=ha
 refine JW 2 (fun n H=>rfl) ?_
 refine acN Tryz.func94 rfl ?_
 show awp _ _ _ _ _ (EN _ [.cell 2 34] _)
 have z:=Z1.mk' h a
 simp -implicitDefEqProofs only [BB,CE,A8,A7,AZ,BA,AO,AQ,AL,BD,AY,AC,AA,AX,EZ,FQ,BO,CB,BF,↓reduceIte,jA,jB,jC,enP,bxR,KG]
 generalize h ++ [ABlk.live 2 [encR a]] ++ [ABlk.live 2 [zR]]=H at z ⊢
 generalize (h ++ [ABlk.live 2 [encR a]]).length=bz at z ⊢
 generalize h.length=ba at z ⊢
 simp -implicitDefEqProofs only [AZ,AO,AQ,AL,BD,AY,AC,AA,AX,BN,BV,BP,AB,jF,jD,jE,↓reduceIte,jB,jC,IW z.ga]
 refine (JX G a _).use ?_
 simp -implicitDefEqProofs only [BI,A7,AZ,BA,AO,AQ,AL,BD,AY,AC,AA,AX,BC,↓reduceIte,jB,jC]
 refine CQ (fun hc => ?_) (fun hc => ?_)
 ·simp -implicitDefEqProofs only [BB,A8,AZ,AO,AQ,AL,BD,AY,BN,BV,BP,jD,jE,jB,jC]
  refine (ABJ G _).use ?_
  simp -implicitDefEqProofs only [BK,A7,CJ,D8,AZ,BA,AO,AQ,AL,BD,AY,AC,DU,AA,AX,CU,BZ,↓reduceIte,jA,jC,enP,jK,z.st]
  exact z.out (by simp -implicitDefEqProofs only [AA,↓reduceIte,jA]) (by unfold XM; rw [if_pos hc])
 simp -implicitDefEqProofs only [BB,A8,AZ,AO,AQ,AL,BD,AY,AC,AA,AX,BN,BO,BV,BP,AB,jF,jD,jE,↓reduceIte,jA,jB,jC,enP,IW z.ga]
 refine (MM G a _).use ?_
 simp -implicitDefEqProofs only [BI,A7,AZ,BA,AO,AQ,AL,BD,AY,AC,AA,AX,BC,↓reduceIte,jB,jC]
 refine CQ (fun hd => ?_) (fun hd => ?_)
 ·simp -implicitDefEqProofs only [ER,EP,BB,A8,BK,A7,CJ,D8,AZ,BA,AO,AQ,AL,BD,AY,AC,DU,AA,AX,AU,BH,FI,BO,CU,BU,BG,AB,BZ,II,↓reduceIte,jA,jH,jG,jB,jC,enP,FB,FN,jK,FX z.ga,GI z.ga,KR,z.st,wrap_i64 (n:=65536 - a.hi) (by omega) (by omega),wrap_i64 (n:=65536 - a.lo) (by omega) (by omega)]
  exact z.out (by simp -implicitDefEqProofs only [AA,↓reduceIte,jA]) (by unfold XM; rw [hc,hd]; rfl)
 ·simp -implicitDefEqProofs only [BB,A8,BR,A7,EO,AZ,AO,AQ,AL,BD,AY,BN,BV,BP,jD,jE,jB,jC]
  refine (LC G _).use ?_
  simp -implicitDefEqProofs only [BK,A7,AZ,BA,AO,AQ,AL,BD,AY,AC,DU,AA,AX,CU,BZ,↓reduceIte,jA,jC,enP,jK,z.st]
  exact z.out (by simp -implicitDefEqProofs only [AA,↓reduceIte,jA]) (by unfold XM; rw [hc,hd]; rfl)
theorem APT (a b:Rng) (ha:wfR a) (hb:wfR b) (h:Hp):PCall (En G) 141 [.agg (encR a),.agg (encR b)] h (.agg (encR (UH a b))):=by
 obtain ⟨a0,a1,a2⟩:=ha
 obtain ⟨b0,b1,b2⟩:=hb
 refine JW 2 (fun n H=>rfl) ?_
 refine acN Tryz.func141 rfl ?_
 show awp _ _ _ _ _ (EN _ [.cell 4 34] _)
 have z:=Z2.mk' h a b
 simp -implicitDefEqProofs only [BB,A8,A7,AZ,BA,AO,AQ,AL,BD,AY,AC,AA,AX,EZ,FQ,CB,BF,BQ,↓reduceIte,jA,jB,jC,enP,bxR,KG]
 generalize h ++ [ABlk.live 2 [encR a]] ++ [ABlk.live 2 [encR b]] ++ [ABlk.live 2 [zR]]=H at z ⊢
 generalize (h ++ [ABlk.live 2 [encR a]] ++ [ABlk.live 2 [encR b]]).length=bz at z ⊢
 generalize (h ++ [ABlk.live 2 [encR a]]).length=bb at z ⊢
 generalize h.length=ba at z ⊢
 refine EK (by kernel_rfl) ?_
 simp -implicitDefEqProofs only [ET,DK,CY,D7,DL,G5,EC,HY,C9,BB,A8,BI,A7,AZ,BA,AO,AQ,AL,BD,AY,AC,AA,AX,AU,BH,BJ,BO,BU,BG,AB,D6,FM,↓reduceIte,jA,jL,jH,jG,jB,jC,enP,FB,FN,FX z.ga,GI z.ga,FX z.gb,GI z.gb,wrap_i64 (n:=a.lo+b.lo) (by omega) (by omega),wrap_i64 (n:=a.hi+b.hi) (by omega) (by omega)]
 refine CQ (fun hc => ?_) (fun hc => ?_)
 ·have hc:a.lo+b.lo > 65535:=by simpa using hc
  simp -implicitDefEqProofs only [ER,EP,BB,A8,BK,A7,CJ,AZ,BA,AO,AQ,AL,BD,AY,AC,DU,AA,AX,AU,BH,BJ,FI,CU,BU,AB,BZ,II,↓reduceIte,jA,jB,jC,enP,jK,KR,z.st,wrap_i64 (n:=a.lo+b.lo - 65536) (by omega) (by omega),wrap_i64 (n:=a.hi+b.hi - 65536) (by omega) (by omega)]
  exact z.out (by simp -implicitDefEqProofs only [AA,↓reduceIte,jA]) (by unfold UH; rw [if_pos hc])
 ·have hc : ¬ a.lo+b.lo > 65535:=by simpa using hc
  simp -implicitDefEqProofs only [BB,A8,BR,A7,AZ,AO,AQ,AL,BD,AY,AC,AA,AX,BN,BJ,BV,BP,jF,jD,jE,↓reduceIte,jA,jB,jC]
  refine (AC3 G _ _ _).use ?_
  simp -implicitDefEqProofs only [BK,A7,AZ,BA,AO,AQ,AL,BD,AY,AC,DU,AA,AX,CU,BZ,↓reduceIte,jA,jC,enP,jK,z.st]
  exact z.out (by simp -implicitDefEqProofs only [AA,↓reduceIte,jA]) (by unfold UH; rw [if_neg hc])
theorem AR0 (a b:Rng) (ha:wfR a) (hb:wfR b) (h:Hp):PCall (En G) 142 [.agg (encR a),.agg (encR b)] h (.agg (encR (UU a b))):=by
 obtain ⟨a0,a1,a2⟩:=ha
 obtain ⟨b0,b1,b2⟩:=hb
 refine JW 2 (fun n H=>rfl) ?_
 refine acN Tryz.func142 rfl ?_
 show awp _ _ _ _ _ (EN _ [.cell 4 34] _)
 have z:=Z2.mk' h a b
 simp -implicitDefEqProofs only [BB,A8,A7,AZ,BA,AO,AQ,AL,BD,AY,AC,AA,AX,EZ,FQ,CB,BF,BQ,↓reduceIte,jA,jB,jC,enP,bxR,KG]
 generalize h ++ [ABlk.live 2 [encR a]] ++ [ABlk.live 2 [encR b]] ++ [ABlk.live 2 [zR]]=H at z ⊢
 generalize (h ++ [ABlk.live 2 [encR a]] ++ [ABlk.live 2 [encR b]]).length=bz at z ⊢
 generalize (h ++ [ABlk.live 2 [encR a]]).length=bb at z ⊢
 generalize h.length=ba at z ⊢
 refine EK (by kernel_rfl) ?_
 simp -implicitDefEqProofs only [ET,DK,CY,D7,DL,G5,EC,HY,C9,BB,CE,A8,BI,A7,AZ,BA,AO,AQ,AL,BD,AY,AC,AA,AX,AU,BH,BJ,BC,BO,BU,BG,AB,II,FV,↓reduceIte,jA,jL,jH,jG,jB,jC,enP,FB,FN,FX z.ga,GI z.ga,FX z.gb,GI z.gb,wrap_i64 (n:=a.lo - b.hi) (by omega) (by omega),wrap_i64 (n:=a.hi - b.lo) (by omega) (by omega)]
 refine CQ (fun hc => ?_) (fun hc => ?_)
 ·have hc:0≤a.lo - b.hi:=by simpa using hc
  simp -implicitDefEqProofs only [ER,EP,BB,A8,BK,A7,CJ,D8,AZ,BA,AO,AQ,AL,BD,AY,AC,DU,AA,AX,BJ,FI,CU,AB,BZ,↓reduceIte,jA,jB,jC,enP,jK,KR,z.st]
  exact z.out (by simp -implicitDefEqProofs only [AA,↓reduceIte,jA]) (by unfold UU; rw [if_pos hc])
 have hc : ¬ 0≤a.lo - b.hi:=by simpa using hc
 simp -implicitDefEqProofs only [BB,A8,BI,A7,AZ,BA,AO,AQ,AL,BD,AY,AC,AA,AX,AU,BH,BJ,BC,BU,AB,DV,↓reduceIte,jA,jB,jC,enP]
 refine CQ (fun hd => ?_) (fun hd => ?_)
 ·have hd:a.hi - b.lo < 0:=by simpa using hd
  simp -implicitDefEqProofs only [ER,EP,BB,A8,BK,A7,CJ,D8,AZ,BA,AO,AQ,AL,BD,AY,AC,DU,AA,AX,AU,BH,BJ,FI,CU,BU,AB,BZ,D6,↓reduceIte,jA,jB,jC,enP,jK,KR,z.st,wrap_i64 (n:=a.lo - b.hi+65536) (by omega) (by omega),wrap_i64 (n:=a.hi - b.lo+65536) (by omega) (by omega)]
  exact z.out (by simp -implicitDefEqProofs only [AA,↓reduceIte,jA]) (by unfold UU; rw [if_neg hc,if_pos hd])
 ·have hd : ¬ a.hi - b.lo < 0:=by simpa using hd
  simp -implicitDefEqProofs only [BB,A8,BR,A7,EO,AZ,AO,AQ,AL,BD,AY,BN,BV,BP,jD,jE,jB,jC]
  refine (LC G _).use ?_
  simp -implicitDefEqProofs only [BK,A7,AZ,BA,AO,AQ,AL,BD,AY,AC,DU,AA,AX,CU,BZ,↓reduceIte,jA,jC,enP,jK,z.st]
  exact z.out (by simp -implicitDefEqProofs only [AA,↓reduceIte,jA]) (by unfold UU; rw [if_neg hc,if_neg hd])
end
def AKC:Code→ByteArray
 | .seq a b=>let x:=AKC a; if x.size=0 then AKC b else x
 | .region _ ops _=>match ops.toList.find? (fun o=>match o.op with | .index _ (.const (.string _)) _=>true | _=>false) with
   | some o=>match o.op with
     | .index _ (.const (.string s)) _=>s
     | _=>⟨#[]⟩
   | none=>⟨#[]⟩
 | _=>⟨#[]⟩
def lenOf (fn:Func):ByteArray:=match fn.body with | some c=>AKC c | none=>⟨#[]⟩
def blF:Nat→Nat→Nat
 | 0,_=>0
 | f+1,n=>if n=0 then 0 else blF f (n / 2)+1
theorem ASA : ∀ (f n:Nat),n < 2 ^ f→blF f n=blN n
 | 0,n,h=>by
   have:n=0:=by simpa using h
   subst this; rw [V8]; rfl
 | f+1,n,h=>by
   rw [Nat.pow_succ] at h
   rcases Nat.eq_zero_or_pos n with h0 | h0
   ·subst h0; rw [V8]; simp [blF]
   ·rw [WO h0,← ASA f (n / 2) (by omega)]
    simp only [blF]; rw [if_neg (by omega)]
theorem AUJ:(List.range 256).all (fun y=>(lenOf Tryz.f177)[y]? == some (UInt8.ofNat (blF 8 y)))=true:=by kernel_rfl
theorem AQQ {y:Nat} (hy:y < 256) (h:Hp):ofO h (L9 Tryz.prog 9 (.str (lenOf Tryz.f177)) (.int .u8 (y:Nat)))=some (.int .u8 (blN y:Nat),h):=by
 have h1:=List.all_eq_true.1 AUJ y (by simpa using hy)
 have h2:(lenOf Tryz.f177)[y]? = some (UInt8.ofNat (blF 8 y)):=by simpa using h1
 rw [ASA 8 y (by omega)] at h2
 have hle:blN y≤8:=(UX 8 y).1 (by omega)
 have hu:Tryz.prog.underlying 9=some .string:=by kernel_rfl
 have h3:L9 Tryz.prog 9 (.str (lenOf Tryz.f177)) (.int .u8 (y:Nat))=some (.int .u8 (blN y:Nat)):=by
  unfold L9
  simp only [hu,zG,h2]
  rw [if_pos (by omega)]
  simp
  omega
 rw [h3]; rfl
theorem AYM {n:Nat} (h:256≤n):blN n=blN (n / 256)+8:=by
 have e : ∀ k m,0 < m / 2 ^ k→blN m=blN (m / 2 ^ k)+k:=by
  intro k
  induction k with
  | zero=>intro m _; simp
  | succ k ih =>
    intro m hm
    have h2:m / 2 ^ (k+1)=m / 2 ^ k / 2:=by rw [Nat.pow_succ,Nat.div_div_eq_div_mul]
    rw [ih m (by rw [h2] at hm; omega),WO (by rw [h2] at hm; omega),h2]; omega
 exact e 8 n (by simp only [Nat.reducePow]; omega)
section
variable (G:Nat→AV)
theorem AH1 (n:Nat) (hn:n < 65536) (h:Hp):PCall (En G) 140 [.int .u64 (n:Nat)] h (.int .i64 (blN n:Nat)):=by
 have hb16:=AEU (n:=n) (by omega)
 have hc:PCall (En G) 177 [.int .u64 (n:Nat)] h (.int .i64 (blN n:Nat)):=by
  refine acN Tryz.func177 rfl ?_
  show awp _ _ _ _ _ (EN _ [.tmp 2] _)
  have d1:decide (((n:Nat):Int)≥4294967296)=false:=by simp; omega
  have d2:decide (((n:Nat):Int)≥65536)=false:=by simp; omega
  have hs:IE Tryz.prog 175 .shr (.int .u64 (n:Nat)) (.int .u64 8)=some (.int .u64 ((n / 256:Nat):Int)):=by
   have e:IE Tryz.prog 175 .shr (.int .u64 (n:Nat)) (.int .u64 8)=some (.int .u64 ((n:Int).fdiv (2 ^ 8))):=rfl
   rw [e,Int.fdiv_eq_ediv_of_nonneg _ (by decide)]
   rfl
  have w8 : ∀ m:Nat,m < 256→IntKind.u8.wrap ((m:Nat):Int)=((m:Nat):Int):=fun m hm=>by
   have : ∀ n:Int,IntKind.u8.wrap n=n % 256:=fun n=>by simp [IntKind.wrap,IntKind.bits,IntKind.signed]
   rw [this]; omega
  have wn : ∀ m:Nat,m < 256→IntKind.i64.wrap ((m:Nat):Int)=((m:Nat):Int):=fun m hm=>MJ (by omega)
  simp -implicitDefEqProofs only [BB,A8,BR,BI,A7,DN,AZ,BA,AO,AQ,AL,BD,AY,AC,AA,AX,AU,BH,BJ,BC,BU,AB,FV,BF,↓reduceIte,jA,jB,jC,enX,enP,d1,d2]
  refine CQ (fun hc => ?_) (fun hc => ?_)
  ·have hc:256≤n:=by simp at hc; omega
   have hlt:n / 256 < 256:=by omega
   have hx:=AYM hc
   have la:=AQQ hlt h
   have hl8:blN (n / 256)≤8:=(UX 8 _).1 (by omega)
   simp -implicitDefEqProofs only [BB,A8,A7,AZ,BA,AO,AQ,AL,BD,AY,AC,AA,AX,AU,BH,IB,BJ,BC,BU,QF,LJ,AB,D6,BF,↓reduceIte,jA,jB,jC,enP,AMX,hs,w8 _ hlt]
   erw [la]
   have w8':IntKind.i64.wrap (0+8)=8:=by decide
   simp -implicitDefEqProofs only [BK,A7,CV,AZ,BA,AO,AQ,AL,BD,AY,AC,AA,AX,BC,BU,QF,CB,AB,D6,↓reduceIte,jA,jB,jC,enP,AIP,wn _ (show blN (n / 256) < 256 by omega),w8',show (8:Int)+((blN (n / 256):Nat):Int)=((blN n:Nat):Int) by omega,wn _ (show blN n < 256 by omega)]
   exact ⟨trivial,trivial⟩
  ·have hc:n < 256:=by simp at hc; omega
   have la:=AQQ hc h
   simp -implicitDefEqProofs only [BB,A8,BR,A7,AZ,AO,AQ,AL,BD,AY,AC,AA,AX,AU,IB,BJ,QF,LJ,AB,BF,↓reduceIte,jA,jB,jC,enP,AMX,w8 _ hc]
   erw [la]
   simp -implicitDefEqProofs only [BK,A7,CV,AZ,BA,AO,AQ,AL,BD,AY,AC,AA,AX,BC,BU,QF,CB,AB,D6,↓reduceIte,jA,jB,jC,enP,AIP,wn _ (show blN n < 256 by omega),show (0:Int)+((blN n:Nat):Int)=((blN n:Nat):Int) by omega]
   exact ⟨trivial,trivial⟩
 refine acN Tryz.func140 rfl ?_
 show awp _ _ _ _ _ (EN _ [.tmp 2] _)
 simp -implicitDefEqProofs only [BB,A8,BR,BI,A7,DN,AZ,BA,AO,AQ,AL,BD,AY,AC,AA,AX,AU,BN,BH,BM,BJ,BC,BV,BP,BF,jF,jD,jE,↓reduceIte,jA,jB,jC,enX,enP]
 refine hc.use ?_
 simp -implicitDefEqProofs only [BK,A7,CV,AZ,BA,AO,AQ,AL,BD,AY,AC,AA,AX,BC,↓reduceIte,jB,jC]
 exact ⟨trivial,trivial⟩
theorem AZM (n:Nat) (hn:n≤16):IE Tryz.prog 3 .shl (.int .i64 1) (.int .i64 (n:Nat))=some (.int .i64 ((2 ^ n:Nat):Int)):=by
 have hp:=Nat.pow_le_pow_right (by decide:0 < 2) hn
 have hm:min ((n:Nat):Int).toNat IntKind.i64.bits=n:=by have:IntKind.i64.bits=64:=rfl; omega
 have e:(2:Int) ^ n=((2 ^ n:Nat):Int):=by simp
 rw [AM3 _ _ _ _ _ _ (by omega),hm,Int.one_mul,e,MJ (by omega)]
theorem AN3 (n:Int) (h0:0≤n) (h1:n≤65535) (h:Hp):PCall (En G) 178 [.int .i64 n] h (.int .i64 (VS n)):=by
 obtain ⟨m,rfl⟩:=zI h0
 have hb:=AEU (n:=m) (by omega)
 refine acN Tryz.func178 rfl ?_
 show awp _ _ _ _ _ (EN _ [.tmp 2] _)
 have wu:IntKind.u64.wrap ((m:Nat):Int)=((m:Nat):Int):=by
  have : ∀ n:Int,IntKind.u64.wrap n=n % 18446744073709551616:=fun n=>by simp [IntKind.wrap,IntKind.bits,IntKind.signed]
  rw [this]; omega
 have hp:=Nat.pow_le_pow_right (by decide:0 < 2) hb
 have hp0:0 < 2 ^ blN m:=Nat.pow_pos (by decide)
 simp -implicitDefEqProofs only [BB,A8,A7,AZ,BA,AO,AQ,AL,BD,AY,AC,AA,AX,AU,BN,BH,BJ,BC,QF,BV,BP,AB,BF,jF,jD,jE,↓reduceIte,jA,jB,jC,enX,enP,AMW,wu]
 refine (AH1 G m (by omega) h).use ?_
 simp -implicitDefEqProofs only [BK,A7,CV,AZ,BA,AO,AQ,AL,BD,AY,AC,AA,AX,AU,BH,BC,BU,AB,II,↓reduceIte,jB,jC,enP,AZM _ hb,wrap_i64 (n:=((2 ^ blN m:Nat):Int) - 1) (by omega) (by omega)]
 exact ⟨by unfold VS; rw [zG],trivial⟩
theorem AWM {a b:Int} (a0:0≤a) (a1:a≤65535) (b0:0≤b) (b1:b≤65535):IE Tryz.prog 3 .and (.int .i64 a) (.int .i64 b)=some (.int .i64 (AGM a b)):=by
 obtain ⟨m,rfl⟩:=zI a0
 obtain ⟨n,rfl⟩:=zI b0
 exact A1I m n (by omega) (by omega)
theorem AZV {a b:Int} (a0:0≤a) (a1:a≤65535) (b0:0≤b) (b1:b≤65535):IE Tryz.prog 3 .or (.int .i64 a) (.int .i64 b)=some (.int .i64 (orI a b)):=by
 obtain ⟨m,rfl⟩:=zI a0
 obtain ⟨n,rfl⟩:=zI b0
 exact A2O m n (by omega) (by omega)
theorem AV2 {a b:Int} (a0:0≤a) (a1:a≤65535) (b0:0≤b) (b1:b≤65535):IE Tryz.prog 3 .xor (.int .i64 a) (.int .i64 b)=some (.int .i64 (AJK a b)):=by
 obtain ⟨m,rfl⟩:=zI a0
 obtain ⟨n,rfl⟩:=zI b0
 exact AY1 m n (by omega) (by omega)
theorem ATY {k:Nat} (hk:k≤15):(2:Int) ^ k≤32768:=by
 have hp:=Nat.pow_le_pow_right (by decide:0 < 2) hk
 have e:(2:Int) ^ k=((2 ^ k:Nat):Int):=by simp
 omega
theorem AL2 {a b:Int} (a0:0≤a) (a1:a≤65535) (b0:0≤b) (b1:b < 16):IE Tryz.prog 3 .shl (.int .i64 a) (.int .i64 b)=some (.int .i64 (a * 2 ^ b.toNat)):=by
 have hm:min b.toNat IntKind.i64.bits=b.toNat:=by have:IntKind.i64.bits=64:=rfl; omega
 have h1:=ATY (k:=b.toNat) (by omega)
 have h2:=VO b.toNat
 have h3:a * 2 ^ b.toNat≤65535 * 32768:=Int.mul_le_mul a1 h1 (by omega) (by decide)
 have h4:0≤a * 2 ^ b.toNat:=Int.mul_nonneg a0 (by omega)
 rw [AM3 _ _ _ _ _ _ (by omega),hm,wrap_i64 (by omega) (by omega)]
theorem AZJ {a b:Int} (b0:0≤b) (b1:b < 16):IE Tryz.prog 3 .shr (.int .i64 a) (.int .i64 b)=some (.int .i64 (a / 2 ^ b.toNat)):=by
 have hm:min b.toNat IntKind.i64.bits=b.toNat:=by have:IntKind.i64.bits=64:=rfl; omega
 have h2:=VO b.toNat
 rw [AVL _ _ _ _ _ _ (by omega),hm,Int.fdiv_eq_ediv_of_nonneg _ (by omega)]
end
structure Z3 (h H:Hp) (ba bb bc bz:Nat) (a b c:Rng):Prop extends Z2 h H ba bb bz a b where
 gc:H[bc]? = some (ABlk.live 2 [encR c])
theorem Z3.mk' (h:Hp) (a b c:Rng):Z3 h (h ++ [ABlk.live 2 [encR a]] ++ [ABlk.live 2 [encR b]] ++ [ABlk.live 2 [encR c]] ++ [ABlk.live 2 [zR]]) h.length (h ++ [ABlk.live 2 [encR a]]).length (h ++ [ABlk.live 2 [encR a]] ++ [ABlk.live 2 [encR b]]).length (h ++ [ABlk.live 2 [encR a]] ++ [ABlk.live 2 [encR b]] ++ [ABlk.live 2 [encR c]]).length a b c :=
 ⟨⟨⟨⟨DF _ _,((((ext.rfl' h).app _).app _).app _).app _,by simp⟩,DC (DC (DC (DF _ _)))⟩,DC (DC (DF _ _))⟩,DC (DF _ _)⟩
section
variable (G:Nat→AV)
theorem AHN (n k:Int) (k0:0≤k) (h:Hp):PCall (En G) 146 [.int .i64 n,.int .i64 k] h (.int .i64 (VN n k)):=by
 refine acN Tryz.func146 rfl ?_
 show awp _ _ _ _ _ (EN _ [.tmp 4] _)
 simp -implicitDefEqProofs only [BB,A8,BI,A7,AZ,BA,AO,AQ,AL,BD,AY,AC,AA,AX,AU,BH,BJ,BC,BU,AB,FV,BF,BQ,↓reduceIte,jA,jB,jC,enX,enP]
 refine CQ (fun hc => ?_) (fun hc => ?_)
 ·have hc:k≥16:=by simpa using hc
  simp -implicitDefEqProofs only [BB,A8,BK,A7,CJ,CV,AZ,BA,AO,AQ,AL,BD,AY,AC,AA,AU,BH,BC,↓reduceIte,jB,jC]
  exact ⟨by unfold VN; rw [if_pos hc],trivial⟩
 ·have hc : ¬ k≥16:=by simpa using hc
  simp -implicitDefEqProofs only [BB,A8,BR,BK,A7,CV,AZ,BA,AO,AQ,AL,BD,AY,AC,AA,AX,BJ,BC,BU,AB,BF,BQ,↓reduceIte,jA,jB,jC,enP,AZJ (a:=n) k0 (by omega)]
  exact ⟨by unfold VN; rw [if_neg hc],trivial⟩
theorem AC7 (op:Int) (a b:Rng) (ha:wfR a) (hb:wfR b) (h:Hp):PCall (En G) 144 [.int .i64 op,.agg (encR a),.agg (encR b)] h (.agg (encR (QQ op a b))):=by
 obtain ⟨a0,a1,a2⟩:=ha
 obtain ⟨b0,b1,b2⟩:=hb
 refine JW 2 (fun n H=>rfl) ?_
 refine acN Tryz.func144 rfl ?_
 show awp _ _ _ _ _ (EN _ [.cell 6 34] _)
 have z:=Z2.mk' h a b
 simp -implicitDefEqProofs only [BB,A8,A7,AZ,BA,AO,AQ,AL,BD,AY,AC,AA,AX,EZ,FQ,BO,BG,CB,AB,BF,BQ,↓reduceIte,jA,jG,jB,jC,enP,FN,bxR,KG]
 generalize h ++ [ABlk.live 2 [encR a]] ++ [ABlk.live 2 [encR b]] ++ [ABlk.live 2 [zR]]=H at z ⊢
 generalize (h ++ [ABlk.live 2 [encR a]] ++ [ABlk.live 2 [encR b]]).length=bz at z ⊢
 generalize (h ++ [ABlk.live 2 [encR a]]).length=bb at z ⊢
 generalize h.length=ba at z ⊢
 simp -implicitDefEqProofs only [AZ,AO,AQ,AL,BD,AY,AC,AA,AX,BN,BO,BG,Q8,BV,BP,AB,NU,jF,jD,jE,↓reduceIte,jA,jG,jB,jC,enP,FN,GI z.ga,GI z.gb]
 refine (AN3 G (max a.hi b.hi) (by omega) (by omega) _).use ?_
 simp -implicitDefEqProofs only [BB,CE,A8,BI,A7,AZ,BA,AO,AQ,AL,BD,AY,AC,AA,AX,AU,BH,BJ,BC,BU,AB,CX,BF,↓reduceIte,jA,jB,jC,enP]
 have hand:=AWM (a:=a.lo) (b:=b.lo) a0 (by omega) b0 (by omega)
 have hor:=AZV (a:=a.lo) (b:=b.lo) a0 (by omega) b0 (by omega)
 have hxor:=AV2 (a:=a.lo) (b:=b.lo) a0 (by omega) b0 (by omega)
 by_cases h10:op=10
 ·have c10:(op == 10)=true:=by simpa using h10
  simp -implicitDefEqProofs only [BB,A8,DI,AZ,AO,AQ,AL,BD,AY,AC,AA,AX,BN,BO,BV,BP,AB,jF,jD,jE,↓reduceIte,jA,jB,jC,enP,c10,IW z.ga]
  refine (MK G a _).use ?_
  simp -implicitDefEqProofs only [AZ,BL,BX,CO,AO,AQ,AL,BD,AY,AC,AA,AX,BJ,↓reduceIte,jB,jC]
  refine IA (fun hs => ?_) (fun hs => ?_)
  ·simp -implicitDefEqProofs only [BL,BX,CO,GL,AO,AQ,AL,BD,AY,AC,AA,AX,BN,BO,BV,BP,AB,jF,jD,jE,↓reduceIte,jA,jB,jC,enP,hs,IW z.gb]
   refine (MK G b _).use ?_
   simp -implicitDefEqProofs only [BI,A7,AZ,BA,AO,AQ,AL,BD,AY,AC,AA,AX,AU,BM,CP,DW,↓reduceIte,jA,jB,jC,hs]
   refine CQ (fun ht => ?_) (fun ht => ?_)
   ·simp -implicitDefEqProofs only [BB,A8,AZ,AO,AQ,AL,BD,AY,AC,AA,AX,BN,BO,BU,BG,BV,BP,AB,jF,jD,jE,↓reduceIte,jA,jH,jB,jC,enP,FB,FX z.ga,FX z.gb,hand]
    refine (P5 G _ _).use ?_
    simp -implicitDefEqProofs only [BK,A7,CJ,D8,AZ,BA,AO,AQ,AL,BD,AY,AC,DU,AA,AX,CU,BZ,↓reduceIte,jA,jC,enP,jK,z.st]
    exact z.out (by simp -implicitDefEqProofs only [AA,↓reduceIte,jA]) (by unfold QQ; rw [if_pos h10,hs,ht]; rfl)
   ·simp -implicitDefEqProofs only [ER,EP,BB,A8,BR,BK,A7,CJ,D8,AZ,BA,AO,AQ,AL,BD,AY,AC,DU,AA,AX,AU,BH,FI,BO,CU,BG,TK,AB,BZ,O6,↓reduceIte,jA,jG,jB,jC,enP,FN,jK,GI z.ga,GI z.gb,KR,z.st]
    exact z.out (by simp -implicitDefEqProofs only [AA,↓reduceIte,jA]) (by unfold QQ; rw [if_pos h10,hs,ht]; rfl)
  ·simp -implicitDefEqProofs only [ER,EP,BB,A8,BR,BK,BI,A7,CJ,D8,DN,AZ,BA,BL,BX,CO,IP,AO,AQ,AL,BD,AY,AC,DU,AA,EQ,AX,AU,BH,BM,CP,DZ,FI,BO,CU,BG,TK,AB,BZ,O6,↓reduceIte,jA,jG,jB,jC,enP,FN,jK,hs,GI z.ga,GI z.gb,KR,z.st]
   exact z.out (by simp -implicitDefEqProofs only [AA,↓reduceIte,jA]) (by unfold QQ; rw [if_pos h10,hs]; rfl)
 have c10:(op == 10)=false:=by simpa using h10
 by_cases h11:op=11
 ·have c11:(op == 11)=true:=by simpa using h11
  simp -implicitDefEqProofs only [BB,A8,BI,A7,DI,DN,AZ,BA,AO,AQ,AL,BD,AY,AC,AA,AX,AU,BN,BH,BC,BO,BU,BV,BP,AB,CX,jF,jD,jE,↓reduceIte,jA,jB,jC,enP,c10,c11,IW z.ga]
  refine (MK G a _).use ?_
  simp -implicitDefEqProofs only [AZ,BL,BX,CO,AO,AQ,AL,BD,AY,AC,AA,AX,BJ,↓reduceIte,jB,jC]
  refine IA (fun hs => ?_) (fun hs => ?_)
  ·simp -implicitDefEqProofs only [BL,BX,CO,GL,AO,AQ,AL,BD,AY,AC,AA,AX,BN,BO,BV,BP,AB,jF,jD,jE,↓reduceIte,jA,jB,jC,enP,hs,IW z.gb]
   refine (MK G b _).use ?_
   simp -implicitDefEqProofs only [BI,A7,AZ,BA,AO,AQ,AL,BD,AY,AC,AA,AX,AU,BM,CP,DW,↓reduceIte,jA,jB,jC,hs]
   refine CQ (fun ht => ?_) (fun ht => ?_)
   ·simp -implicitDefEqProofs only [BB,A8,AZ,AO,AQ,AL,BD,AY,AC,AA,AX,BN,BO,BU,BG,BV,BP,AB,jF,jD,jE,↓reduceIte,jA,jH,jB,jC,enP,FB,FX z.ga,FX z.gb,hor]
    refine (P5 G _ _).use ?_
    simp -implicitDefEqProofs only [BK,A7,CJ,D8,AZ,BA,AO,AQ,AL,BD,AY,AC,DU,AA,AX,CU,BZ,↓reduceIte,jA,jC,enP,jK,z.st]
    exact z.out (by simp -implicitDefEqProofs only [AA,↓reduceIte,jA]) (by unfold QQ; rw [if_neg h10,if_pos h11,hs,ht]; rfl)
   ·simp -implicitDefEqProofs only [ER,EP,BB,A8,BR,BK,A7,CJ,D8,AZ,BA,AO,AQ,AL,BD,AY,AC,DU,AA,AX,BJ,FI,BO,CU,BG,Q8,AB,BZ,NU,↓reduceIte,jA,jH,jB,jC,enP,FB,jK,FX z.ga,FX z.gb,KR,z.st]
    exact z.out (by simp -implicitDefEqProofs only [AA,↓reduceIte,jA]) (by unfold QQ; rw [if_neg h10,if_pos h11,hs,ht]; rfl)
  ·simp -implicitDefEqProofs only [ER,EP,BB,A8,BR,BK,BI,A7,CJ,D8,DN,AZ,BA,BL,BX,CO,IP,AO,AQ,AL,BD,AY,AC,DU,AA,EQ,AX,AU,BM,BJ,CP,DZ,FI,BO,CU,BG,Q8,AB,BZ,NU,↓reduceIte,jA,jH,jB,jC,enP,FB,jK,hs,FX z.ga,FX z.gb,KR,z.st]
   exact z.out (by simp -implicitDefEqProofs only [AA,↓reduceIte,jA]) (by unfold QQ; rw [if_neg h10,if_pos h11,hs]; rfl)
 have c11:(op == 11)=false:=by simpa using h11
 simp -implicitDefEqProofs only [BB,A8,BR,BI,A7,EO,DN,AZ,BA,AO,AQ,AL,BD,AY,AC,AA,AX,AU,BN,BH,BC,BO,BU,BV,BP,AB,CX,jF,jD,jE,↓reduceIte,jA,jB,jC,enP,c10,c11,IW z.ga]
 refine (MK G a _).use ?_
 simp -implicitDefEqProofs only [AZ,BL,BX,CO,AO,AQ,AL,BD,AY,AC,AA,AX,BJ,↓reduceIte,jB,jC]
 refine IA (fun hs => ?_) (fun hs => ?_)
 ·simp -implicitDefEqProofs only [BL,BX,CO,GL,AO,AQ,AL,BD,AY,AC,AA,AX,BN,BO,BV,BP,AB,jF,jD,jE,↓reduceIte,jA,jB,jC,enP,hs,IW z.gb]
  refine (MK G b _).use ?_
  simp -implicitDefEqProofs only [BI,A7,AZ,BA,AO,AQ,AL,BD,AY,AC,AA,AX,AU,BM,CP,DW,↓reduceIte,jA,jB,jC,hs]
  refine CQ (fun ht => ?_) (fun ht => ?_)
  ·simp -implicitDefEqProofs only [BB,A8,AZ,AO,AQ,AL,BD,AY,AC,AA,AX,BN,BO,BU,BG,BV,BP,AB,jF,jD,jE,↓reduceIte,jA,jH,jB,jC,enP,FB,FX z.ga,FX z.gb,hxor]
   refine (P5 G _ _).use ?_
   simp -implicitDefEqProofs only [BK,A7,CJ,AZ,BA,AO,AQ,AL,BD,AY,AC,DU,AA,AX,CU,BZ,↓reduceIte,jA,jC,enP,jK,z.st]
   exact z.out (by simp -implicitDefEqProofs only [AA,↓reduceIte,jA]) (by unfold QQ; rw [if_neg h10,if_neg h11,hs,ht]; rfl)
  ·simp -implicitDefEqProofs only [ER,EP,BB,A8,BR,BK,A7,AZ,BA,AO,AQ,AL,BD,AY,AC,DU,AA,AX,AU,BH,BJ,FI,CU,AB,BZ,↓reduceIte,jA,jB,jC,enP,jK,KR,z.st]
   exact z.out (by simp -implicitDefEqProofs only [AA,↓reduceIte,jA]) (by unfold QQ; rw [if_neg h10,if_neg h11,hs,ht]; rfl)
 ·simp -implicitDefEqProofs only [ER,EP,BB,A8,BR,BK,BI,A7,DN,AZ,BA,BL,BX,CO,IP,AO,AQ,AL,BD,AY,AC,DU,AA,EQ,AX,AU,BH,BM,BJ,CP,DZ,FI,CU,AB,BZ,↓reduceIte,jA,jB,jC,enP,jK,hs,KR,z.st]
  exact z.out (by simp -implicitDefEqProofs only [AA,↓reduceIte,jA]) (by unfold QQ; rw [if_neg h10,if_neg h11,hs]; rfl)
theorem APV (a b:Rng) (ha:wfR a) (hb:wfR b) (h:Hp):PCall (En G) 145 [.agg (encR a),.agg (encR b)] h (.agg (encR (QH a b))):=by
 obtain ⟨a0,a1,a2⟩:=ha
 obtain ⟨b0,b1,b2⟩:=hb
 refine JW 2 (fun n H=>rfl) ?_
 refine acN Tryz.func145 rfl ?_
 show awp _ _ _ _ _ (EN _ [.cell 4 34] _)
 have z:=Z2.mk' h a b
 simp -implicitDefEqProofs only [BB,CE,A8,A7,AZ,BA,AO,AQ,AL,BD,AY,AC,AA,AX,EZ,FQ,BO,CB,BF,BQ,↓reduceIte,jA,jB,jC,enP,bxR,KG]
 generalize h ++ [ABlk.live 2 [encR a]] ++ [ABlk.live 2 [encR b]] ++ [ABlk.live 2 [zR]]=H at z ⊢
 generalize (h ++ [ABlk.live 2 [encR a]] ++ [ABlk.live 2 [encR b]]).length=bz at z ⊢
 generalize (h ++ [ABlk.live 2 [encR a]]).length=bb at z ⊢
 generalize h.length=ba at z ⊢
 simp -implicitDefEqProofs only [AZ,AO,AQ,AL,BD,AY,AC,AA,AX,BN,BV,BP,AB,jF,jD,jE,↓reduceIte,jB,jC,IW z.ga]
 refine (JX G a _).use ?_
 simp -implicitDefEqProofs only [AZ,BL,BX,CO,AO,AQ,AL,BD,AY,AC,AA,AX,BJ,↓reduceIte,jB,jC]
 have zero : ∀ q:(isF a || decide (b.lo≥16))=true,QH a b=⟨0,0⟩:=fun q=>by unfold QH; rw [if_pos q]
 refine IA (fun hs => ?_) (fun hs => ?_)
 ·simp -implicitDefEqProofs only [BB,A8,BI,A7,DI,AZ,BA,BL,BX,CO,F7,AO,AQ,AL,BD,AY,AC,AA,EQ,AX,AU,BN,BM,BC,CP,DW,BV,BP,jD,jE,↓reduceIte,jA,jB,jC,hs]
  refine (ABJ G _).use ?_
  simp -implicitDefEqProofs only [BK,A7,CJ,D8,AZ,BA,AO,AQ,AL,BD,AY,AC,DU,AA,AX,CU,BZ,↓reduceIte,jA,jC,enP,jK,z.st]
  exact z.out (by simp -implicitDefEqProofs only [AA,↓reduceIte,jA]) (zero (by rw [hs]; rfl)).symm
 simp -implicitDefEqProofs only [BI,A7,AZ,BA,BL,BX,CO,EY,AO,AQ,AL,BD,AY,AC,AA,AX,AU,BH,BM,BC,CP,DZ,BO,BU,BG,AB,FV,↓reduceIte,jA,jH,jB,jC,enP,FB,hs,FX z.gb]
 refine CQ (fun ht => ?_) (fun ht => ?_)
 ·simp -implicitDefEqProofs only [BB,A8,AZ,AO,AQ,AL,BD,AY,BN,BV,BP,jD,jE,jB,jC]
  refine (ABJ G _).use ?_
  simp -implicitDefEqProofs only [BK,A7,CJ,D8,AZ,BA,AO,AQ,AL,BD,AY,AC,DU,AA,AX,CU,BZ,↓reduceIte,jA,jC,enP,jK,z.st]
  exact z.out (by simp -implicitDefEqProofs only [AA,↓reduceIte,jA]) (zero (by rw [ht]; simp)).symm
 have hb16 : ¬ b.lo≥16:=by simpa using ht
 have nz : ¬ (isF a || decide (b.lo≥16))=true:=by rw [hs,ht]; decide
 simp -implicitDefEqProofs only [BB,A8,AZ,AO,AQ,AL,BD,AY,AC,AA,AX,BN,BO,BV,BP,AB,jF,jD,jE,↓reduceIte,jA,jB,jC,enP,IW z.gb]
 refine (MK G b _).use ?_
 simp -implicitDefEqProofs only [BI,A7,AZ,BA,AO,AQ,AL,BD,AY,AC,AA,AX,BC,↓reduceIte,jB,jC]
 refine CQ (fun hu => ?_) (fun hu => ?_)
 ·simp -implicitDefEqProofs only [BB]
  refine EK (by kernel_rfl) ?_
  simp -implicitDefEqProofs only [ET,DK,CY,DL,EC,FH,HY,C9,EI,EE,AO,AA,AX,BN,BO,CU,BU,BG,AB,jF,jD,jE,↓reduceIte,jA,jL,jH,jG,jB,enP,FB,FN,jK,FX z.ga,GI z.ga,FX z.gb,AL2 (a:=a.lo) (b:=b.lo) a0 (by omega) b0 (by omega),AL2 (a:=a.hi) (b:=b.lo) (by omega) a2 b0 (by omega)]
  refine ⟨_,AC3 G _ _ _,?_⟩
  simp -implicitDefEqProofs only [FK,D7,BK,A7,CJ,D8,BZ,z.st]
  exact z.out (by simp -implicitDefEqProofs only [AA,↓reduceIte,jA]) (by unfold QH; rw [if_neg nz,if_pos hu])
 ·simp -implicitDefEqProofs only [BB,A8,BR,A7,EO,AZ,AO,AQ,AL,BD,AY,BN,BV,BP,jD,jE,jB,jC]
  refine (LC G _).use ?_
  simp -implicitDefEqProofs only [BK,A7,AZ,BA,AO,AQ,AL,BD,AY,AC,DU,AA,AX,CU,BZ,↓reduceIte,jA,jC,enP,jK,z.st]
  exact z.out (by simp -implicitDefEqProofs only [AA,↓reduceIte,jA]) (by unfold QH; rw [if_neg nz,hu]; rfl)
theorem ANV (a:Rng) (ha:wfR a) (h:Hp):PCall (En G) 95 [.agg (encR a)] h (.agg (encR (AA4 a))):=by
 obtain ⟨a0,a1,a2⟩:=ha
 refine JW 2 (fun n H=>rfl) ?_
 refine acN Tryz.func95 rfl ?_
 show awp _ _ _ _ _ (EN _ [.cell 2 34] _)
 have z:=Z1.mk' h a
 simp -implicitDefEqProofs only [BB,A8,A7,AZ,BA,AO,AQ,AL,BD,AY,AC,AA,AX,EZ,FQ,BO,CB,BF,↓reduceIte,jA,jB,jC,enP,bxR,KG]
 generalize h ++ [ABlk.live 2 [encR a]] ++ [ABlk.live 2 [zR]]=H at z ⊢
 generalize (h ++ [ABlk.live 2 [encR a]]).length=bz at z ⊢
 generalize h.length=ba at z ⊢
 simp -implicitDefEqProofs only [AZ,AO,AQ,AL,BD,AY,AC,AA,AX,BN,BV,BP,AB,jF,jD,jE,↓reduceIte,jB,jC,IW z.ga]
 refine (MK G a _).use ?_
 simp -implicitDefEqProofs only [BI,A7,BA,AC,AA,AX,↓reduceIte]
 refine CQ (fun hc => ?_) (fun hc => ?_)
 ·simp -implicitDefEqProofs only [BB,A8,AZ,AO,AQ,AL,BD,AY,AC,AA,AX,BN,BO,BG,BV,BP,AB,jF,jD,jE,↓reduceIte,jA,jH,jB,jC,enP,FB,FX z.ga]
  have ho:=ANU G a.lo.toNat (by omega) H
  rw [Int.toNat_of_nonneg a0] at ho
  refine ho.use ?_
  simp -implicitDefEqProofs only [AZ,AO,AQ,AL,BD,AY,AC,AA,AX,BN,BV,BP,jF,jD,jE,↓reduceIte,jB,jC]
  refine (P5 G _ _).use ?_
  simp -implicitDefEqProofs only [BK,A7,CJ,AZ,BA,AO,AQ,AL,BD,AY,AC,DU,AA,AX,CU,BZ,↓reduceIte,jA,jC,enP,jK,z.st]
  exact z.out (by simp -implicitDefEqProofs only [AA,↓reduceIte,jA]) (by unfold AA4 onI U4; rw [if_pos hc])
 ·have wu:IntKind.u64.wrap a.hi=((a.hi.toNat:Nat):Int):=by
   have : ∀ n:Int,IntKind.u64.wrap n=n % 18446744073709551616:=fun n=>by simp [IntKind.wrap,IntKind.bits,IntKind.signed]
   rw [this]; omega
  simp -implicitDefEqProofs only [BB,BR,A7]
  refine EK (by kernel_rfl) ?_
  simp -implicitDefEqProofs only [ET,ER,EP,DK,CY,DL,KT,EC,AE8,C9,MV,EI,EE,AO,AA,AX,AU,BN,BH,FI,BO,QF,BG,TK,AB,O6,jF,jD,jE,↓reduceIte,jA,jL,jH,jG,jB,enP,FB,FN,AMW,FX z.ga,GI z.ga,wu]
  refine ⟨_,AH1 G a.hi.toNat (by omega) _,?_⟩
  simp -implicitDefEqProofs only [ET,DK,CY,FK,D7,DL,FH,BK,A7,AO,AA,AX,CU,AB,BZ,↓reduceIte,jA,jG,enP,jK,KR,z.st]
  exact z.out (by simp -implicitDefEqProofs only [AA,↓reduceIte,jA]) (by unfold AA4; rw [hc]; rfl)
theorem AR5 (c a b:Rng) (h:Hp):PCall (En G) 96 [.agg (encR c),.agg (encR a),.agg (encR b)] h (.agg (encR (Y3 c a b))):=by
 refine JW 2 (fun n H=>rfl) ?_
 refine acN Tryz.func96 rfl ?_
 show awp _ _ _ _ _ (EN _ [.cell 6 34] _)
 have z:=Z3.mk' h c a b
 simp -implicitDefEqProofs only [BB,CE,A8,A7,AZ,BA,AO,AQ,AL,BD,AY,AC,AA,AX,EZ,FQ,BO,CB,BF,BQ,↓reduceIte,jA,jB,jC,enP,bxR,KG]
 generalize h ++ [ABlk.live 2 [encR c]] ++ [ABlk.live 2 [encR a]] ++ [ABlk.live 2 [encR b]] ++ [ABlk.live 2 [zR]]=H at z ⊢
 generalize (h ++ [ABlk.live 2 [encR c]] ++ [ABlk.live 2 [encR a]] ++ [ABlk.live 2 [encR b]]).length=bz at z ⊢
 generalize (h ++ [ABlk.live 2 [encR c]] ++ [ABlk.live 2 [encR a]]).length=bc at z ⊢
 generalize (h ++ [ABlk.live 2 [encR c]]).length=bb at z ⊢
 generalize h.length=ba at z ⊢
 simp -implicitDefEqProofs only [AZ,AO,AQ,AL,BD,AY,AC,AA,AX,BN,BV,BP,AB,jF,jD,jE,↓reduceIte,jB,jC,IW z.ga]
 refine (MM G c _).use ?_
 simp -implicitDefEqProofs only [BI,A7,AZ,BA,AO,AQ,AL,BD,AY,AC,AA,AX,BC,↓reduceIte,jB,jC]
 refine CQ (fun hc => ?_) (fun hc => ?_)
 ·simp -implicitDefEqProofs only [BB,A8,BK,A7,CJ,D8,AZ,BA,AO,AQ,AL,BD,AY,AC,DU,AA,AX,BO,CU,AB,BZ,↓reduceIte,jA,jB,jC,enP,jK,IW z.gb,z.st]
  exact z.out (by simp -implicitDefEqProofs only [AA,↓reduceIte,jA]) (by unfold Y3; rw [if_pos hc])
 simp -implicitDefEqProofs only [BB,A8,AZ,AO,AQ,AL,BD,AY,AC,AA,AX,BN,BO,BV,BP,AB,jF,jD,jE,↓reduceIte,jA,jB,jC,enP,IW z.ga]
 refine (JX G c _).use ?_
 simp -implicitDefEqProofs only [BI,A7,AZ,BA,AO,AQ,AL,BD,AY,AC,AA,AX,BC,↓reduceIte,jB,jC]
 refine CQ (fun hd => ?_) (fun hd => ?_)
 ·simp -implicitDefEqProofs only [BB,A8,BK,A7,CJ,D8,AZ,BA,AO,AQ,AL,BD,AY,AC,DU,AA,AX,BO,CU,AB,BZ,↓reduceIte,jA,jB,jC,enP,jK,IW z.gc,z.st]
  exact z.out (by simp -implicitDefEqProofs only [AA,↓reduceIte,jA]) (by unfold Y3; rw [hc,if_pos hd]; rfl)
 ·simp -implicitDefEqProofs only [ER,EP,BB,A8,BR,BK,A7,EO,AZ,BA,AO,AQ,AL,BD,AY,AC,DU,AA,AX,FI,BO,CU,BG,Q8,TK,AB,BZ,NU,O6,↓reduceIte,jA,jH,jG,jB,jC,enP,FB,FN,jK,FX z.gb,GI z.gb,FX z.gc,GI z.gc,KR,z.st]
  exact z.out (by simp -implicitDefEqProofs only [AA,↓reduceIte,jA]) (by unfold Y3; rw [hc,hd]; rfl)
end
section
variable (G:Nat→AV)
theorem AD9 (a b:Rng) (h:Hp):PCall (En G) 147 [.agg (encR a),.agg (encR b)] h (.tup [.bool (PZ a b),.bool (dfB a b)]):=by
 refine JW 2 (fun n H=>rfl) ?_
 refine acN Tryz.func147 rfl ?_
 show awp _ _ _ _ _ (EN _ [.tmp 4,.tmp 5] _)
 have ga:=DC (x:=ABlk.live 2 [encR b]) (DF h (ABlk.live 2 [encR a]))
 have gb:=DF (h ++ [ABlk.live 2 [encR a]]) (ABlk.live 2 [encR b])
 have hx:ext h (h ++ [ABlk.live 2 [encR a]] ++ [ABlk.live 2 [encR b]]):=((ext.rfl' h).app _).app _
 simp -implicitDefEqProofs only [BB,A8,A7,AZ,BA,AO,AQ,AL,BD,AY,AC,AA,AX,AU,BM,BC,FQ,CB,BF,BQ,↓reduceIte,jA,jB,jC,enP,bxR]
 generalize h ++ [ABlk.live 2 [encR a]] ++ [ABlk.live 2 [encR b]]=H at ga gb hx ⊢
 generalize (h ++ [ABlk.live 2 [encR a]]).length=bb at ga gb ⊢
 generalize h.length=ba at ga gb ⊢
 refine EK (by kernel_rfl) ?_
 have second : ∀ q:Bool,q=PZ a b→q=PZ a b:=fun _ h=>h
 simp -implicitDefEqProofs only [ET,DK,CY,DL,EJ,E8,EH,EC,EI,EE,CO,AO,AA,AX,BN,BO,AB,jF,jD,jE,↓reduceIte,jA,jL,jB,enP,IW ga]
 refine ⟨_,MK G a _,?_⟩
 try simp -implicitDefEqProofs only []
 refine OZ (fun h1 => ?_) (fun h1 => ?_)
 ·simp -implicitDefEqProofs only [ET,DK,CY,DL,EJ,E8,NQ,EH,GK,EC,EI,EE,CO,AO,AA,AX,AU,BN,BM,CP,DW,BO,AB,jF,jD,jE,↓reduceIte,jA,jL,jB,enP,h1,IW gb]
  refine ⟨_,MK G b _,?_⟩
  try simp -implicitDefEqProofs only [h1]
  refine OZ (fun h2 => ?_) (fun h2 => ?_)
  ·simp -implicitDefEqProofs only [ET,DK,CY,DL,EJ,E8,NQ,EH,GK,EC,HY,C9,CO,AO,AA,AX,AU,BM,CP,DW,BO,BU,BG,AB,CX,DV,↓reduceIte,jA,jL,jH,jG,jB,enP,FB,FN,h1,h2,FX ga,GI ga,FX gb,GI gb]
   refine OZ (fun h3 => ?_) (fun h3 => ?_)
   ·simp -implicitDefEqProofs only [ET,DK,CY,D7,DL,EJ,E8,QE,G5,GK,BK,A7,JU,CO,AO,AA,EQ,AX,AU,BM,CP,DW,↓reduceIte,jA,jL,jB,h1,h2,h3,FX ga,GI ga,FX gb,GI gb]
    exact ⟨by unfold PZ dfB; rw [h1,h2,h3]; simp,hx⟩
   ·simp -implicitDefEqProofs only [ET,DK,CY,D7,DL,EJ,E8,O0,G5,GK,EC,HY,C9,BK,A7,JU,CO,AO,AA,AX,AU,BM,CP,DZ,BO,BU,BG,AB,DV,↓reduceIte,jA,jL,jH,jG,jB,enP,FB,FN,h1,h2,h3,FX ga,GI ga,FX gb,GI gb]
    exact ⟨by unfold PZ dfB; rw [h1,h2,h3]; simp,hx⟩
  ·simp -implicitDefEqProofs only [ET,DK,CY,DL,EJ,E8,SC,EH,GK,EC,HY,C9,CO,AO,AA,EQ,AX,AU,BM,CP,DZ,BO,BU,BG,AB,DV,↓reduceIte,jA,jL,jH,jG,jB,enP,FB,FN,h1,h2,FX ga,GI ga,FX gb,GI gb]
   refine OZ (fun h3 => ?_) (fun h3 => ?_)
   ·simp -implicitDefEqProofs only [ET,DK,CY,D7,DL,EJ,E8,QE,G5,GK,BK,A7,JU,CO,AO,AA,EQ,AX,AU,BM,CP,DW,↓reduceIte,jA,jL,jB,h1,h2,h3,FX ga,GI ga,FX gb,GI gb]
    exact ⟨by unfold PZ dfB; rw [h1,h2,h3]; simp,hx⟩
   ·simp -implicitDefEqProofs only [ET,DK,CY,D7,DL,EJ,E8,O0,G5,GK,EC,HY,C9,BK,A7,JU,CO,AO,AA,AX,AU,BM,CP,DZ,BO,BU,BG,AB,DV,↓reduceIte,jA,jL,jH,jG,jB,enP,FB,FN,h1,h2,h3,FX ga,GI ga,FX gb,GI gb]
    exact ⟨by unfold PZ dfB; rw [h1,h2,h3]; simp,hx⟩
 ·simp -implicitDefEqProofs only [ET,DK,CY,DL,EJ,E8,SC,EH,GK,EC,HY,C9,CO,AO,AA,EQ,AX,AU,BM,CP,DZ,BO,BU,BG,AB,DV,↓reduceIte,jA,jL,jH,jG,jB,enP,FB,FN,h1,FX ga,GI ga,FX gb,GI gb]
  refine OZ (fun h3 => ?_) (fun h3 => ?_)
  ·simp -implicitDefEqProofs only [ET,DK,CY,D7,DL,EJ,E8,QE,G5,GK,BK,A7,JU,CO,AO,AA,EQ,AX,AU,BM,CP,DW,↓reduceIte,jA,jL,jB,h1,h3,FX ga,GI ga,FX gb,GI gb]
   exact ⟨by unfold PZ dfB; rw [h1,h3]; simp,hx⟩
  ·simp -implicitDefEqProofs only [ET,DK,CY,D7,DL,EJ,E8,O0,G5,GK,EC,HY,C9,BK,A7,JU,CO,AO,AA,AX,AU,BM,CP,DZ,BO,BU,BG,AB,DV,↓reduceIte,jA,jL,jH,jG,jB,enP,FB,FN,h1,h3,FX ga,GI ga,FX gb,GI gb]
   exact ⟨by unfold PZ dfB; rw [h1,h3]; simp,hx⟩
set_option maxHeartbeats 2000000 in
theorem ASF (op:Int) (a b:Rng) (ha:wfR a) (hb:wfR b) (_hop:7≤op∧op≤21) (h:Hp):PCall (En G) 98 [.int .i64 op,.agg (encR a),.agg (encR b)] h (.agg (encR (J4 op a b))):=by
 have ha':=ha
 have hb':=hb
 obtain ⟨a0,a1,a2⟩:=ha
 obtain ⟨b0,b1,b2⟩:=hb
 refine JW 2 (fun n H=>rfl) ?_
 refine acN Tryz.func98 rfl ?_
 show awp _ _ _ _ _ (EN _ [.cell 6 34] _)
 have z:=Z2.mk' h a b
 simp -implicitDefEqProofs only [BB,CE,A8,BI,A7,AZ,BA,AO,AQ,AL,BD,AY,AC,AA,AX,AU,BH,BJ,BC,EZ,FQ,BU,CB,AB,CX,BF,BQ,↓reduceIte,jA,jB,jC,enP,bxR,KG]
 generalize h ++ [ABlk.live 2 [encR a]] ++ [ABlk.live 2 [encR b]] ++ [ABlk.live 2 [zR]]=H at z ⊢
 generalize (h ++ [ABlk.live 2 [encR a]] ++ [ABlk.live 2 [encR b]]).length=bz at z ⊢
 generalize (h ++ [ABlk.live 2 [encR a]]).length=bb at z ⊢
 generalize h.length=ba at z ⊢
 by_cases h7:op=7
 ·have c7:(op == 7)=true:=by simpa using h7
  simp -implicitDefEqProofs only [BB,A8,DI,AZ,AO,AQ,AL,BD,AY,AC,AA,AX,BN,BO,BV,BP,AB,jF,jD,jE,↓reduceIte,jA,jB,jC,enP,c7,IW z.ga,IW z.gb]
  refine (APT G a b ha' hb' _).use ?_
  simp -implicitDefEqProofs only [BK,A7,CJ,D8,AZ,BA,AO,AQ,AL,BD,AY,AC,DU,AA,AX,CU,BZ,↓reduceIte,jA,jC,enP,jK,z.st]
  exact z.out (by simp -implicitDefEqProofs only [AA,↓reduceIte,jA]) (by unfold J4; rw [if_pos (by omega)])
 have c7:(op == 7)=false:=by simpa using h7
 by_cases h8:op=8
 ·have c8:(op == 8)=true:=by simpa using h8
  simp -implicitDefEqProofs only [BB,A8,BI,A7,DI,DN,AZ,BA,AO,AQ,AL,BD,AY,AC,AA,AX,AU,BN,BH,BC,BO,BU,BV,BP,AB,CX,jF,jD,jE,↓reduceIte,jA,jB,jC,enP,c7,c8,IW z.ga,IW z.gb]
  refine (AR0 G a b ha' hb' _).use ?_
  simp -implicitDefEqProofs only [BK,A7,CJ,D8,AZ,BA,AO,AQ,AL,BD,AY,AC,DU,AA,AX,CU,BZ,↓reduceIte,jA,jC,enP,jK,z.st]
  exact z.out (by simp -implicitDefEqProofs only [AA,↓reduceIte,jA]) (by unfold J4; rw [if_neg (by omega),if_pos (by omega)])
 have c8:(op == 8)=false:=by simpa using h8
 by_cases h9:op=9
 ·have c9:(op == 9)=true:=by simpa using h9
  have m1:0≤a.lo * b.lo:=Int.mul_nonneg a0 b0
  have m2:a.lo * b.lo≤65535 * 65535:=Int.mul_le_mul (by omega) (by omega) b0 (by decide)
  have m3:0≤a.hi * b.hi:=Int.mul_nonneg (by omega) (by omega)
  have m4:a.hi * b.hi≤65535 * 65535:=Int.mul_le_mul a2 b2 (by omega) (by decide)
  simp -implicitDefEqProofs only [BB,A8,BI,A7,DI,DN,AZ,BA,AO,AQ,AL,BD,AY,AC,AA,AX,AU,BN,BH,BC,BO,BU,BG,BV,BP,AB,UZ,CX,jF,jD,jE,↓reduceIte,jA,jH,jG,jB,jC,enP,FB,FN,c7,c8,c9,FX z.ga,GI z.ga,FX z.gb,GI z.gb,wrap_i64 (n:=a.lo * b.lo) (by omega) (by omega),wrap_i64 (n:=a.hi * b.hi) (by omega) (by omega)]
  refine (AC3 G _ _ _).use ?_
  simp -implicitDefEqProofs only [BK,A7,CJ,D8,AZ,BA,AO,AQ,AL,BD,AY,AC,DU,AA,AX,CU,BZ,↓reduceIte,jA,jC,enP,jK,z.st]
  exact z.out (by simp -implicitDefEqProofs only [AA,↓reduceIte,jA]) (by unfold J4; rw [if_neg (by omega),if_neg (by omega),if_pos (by omega)]; rfl)
 have c9:(op == 9)=false:=by simpa using h9
 by_cases h10:op=10
 ·have c10:(op == 10)=true:=by simpa using h10
  simp -implicitDefEqProofs only [BB,A8,BR,BI,A7,DI,DN,AZ,BA,AO,AQ,AL,BD,AY,AC,AA,AX,AU,BN,BH,BJ,BC,BO,BU,BV,BP,AB,CX,BF,jF,jD,jE,↓reduceIte,jA,jB,jC,enP,c7,c8,c9,c10,IW z.ga,IW z.gb]
  refine (AC7 G op a b ha' hb' _).use ?_
  simp -implicitDefEqProofs only [BK,A7,CJ,D8,AZ,BA,AO,AQ,AL,BD,AY,AC,DU,AA,AX,CU,BZ,↓reduceIte,jA,jC,enP,jK,z.st]
  exact z.out (by simp -implicitDefEqProofs only [AA,↓reduceIte,jA]) (by unfold J4; rw [if_neg (by omega),if_neg (by omega),if_neg (by omega),if_pos (by omega)])
 have c10:(op == 10)=false:=by simpa using h10
 by_cases h11:op=11
 ·have c11:(op == 11)=true:=by simpa using h11
  simp -implicitDefEqProofs only [BB,A8,BR,BI,A7,DI,DN,AZ,BA,AO,AQ,AL,BD,AY,AC,AA,AX,AU,BN,BH,BJ,BC,BO,BU,BV,BP,AB,CX,BF,jF,jD,jE,↓reduceIte,jA,jB,jC,enP,c7,c8,c9,c10,c11,IW z.ga,IW z.gb]
  refine (AC7 G op a b ha' hb' _).use ?_
  simp -implicitDefEqProofs only [BK,A7,CJ,D8,AZ,BA,AO,AQ,AL,BD,AY,AC,DU,AA,AX,CU,BZ,↓reduceIte,jA,jC,enP,jK,z.st]
  exact z.out (by simp -implicitDefEqProofs only [AA,↓reduceIte,jA]) (by unfold J4; rw [if_neg (by omega),if_neg (by omega),if_neg (by omega),if_pos (by omega)])
 have c11:(op == 11)=false:=by simpa using h11
 by_cases h12:op=12
 ·have c12:(op == 12)=true:=by simpa using h12
  simp -implicitDefEqProofs only [BB,A8,BI,A7,DI,DN,AZ,BA,AO,AQ,AL,BD,AY,AC,AA,AX,AU,BN,BH,BJ,BC,BO,BU,BV,BP,AB,CX,BF,jF,jD,jE,↓reduceIte,jA,jB,jC,enP,c7,c8,c9,c10,c11,c12,IW z.ga,IW z.gb]
  refine (AC7 G op a b ha' hb' _).use ?_
  simp -implicitDefEqProofs only [BK,A7,CJ,D8,AZ,BA,AO,AQ,AL,BD,AY,AC,DU,AA,AX,CU,BZ,↓reduceIte,jA,jC,enP,jK,z.st]
  exact z.out (by simp -implicitDefEqProofs only [AA,↓reduceIte,jA]) (by unfold J4; rw [if_neg (by omega),if_neg (by omega),if_neg (by omega),if_pos (by omega)])
 have c12:(op == 12)=false:=by simpa using h12
 by_cases h13:op=13
 ·have c13:(op == 13)=true:=by simpa using h13
  simp -implicitDefEqProofs only [BB,A8,BI,A7,DI,DN,AZ,BA,AO,AQ,AL,BD,AY,AC,AA,AX,AU,BN,BH,BC,BO,BU,BV,BP,AB,CX,jF,jD,jE,↓reduceIte,jA,jB,jC,enP,c7,c8,c9,c10,c11,c12,c13,IW z.ga,IW z.gb]
  refine (APV G a b ha' hb' _).use ?_
  simp -implicitDefEqProofs only [BK,A7,CJ,D8,AZ,BA,AO,AQ,AL,BD,AY,AC,DU,AA,AX,CU,BZ,↓reduceIte,jA,jC,enP,jK,z.st]
  exact z.out (by simp -implicitDefEqProofs only [AA,↓reduceIte,jA]) (by unfold J4; rw [if_neg (by omega),if_neg (by omega),if_neg (by omega),if_neg (by omega),if_pos (by omega)])
 have c13:(op == 13)=false:=by simpa using h13
 by_cases h14:op=14
 ·have c14:(op == 14)=true:=by simpa using h14
  simp -implicitDefEqProofs only [BB,A8,BI,A7,DI,DN,AZ,BA,AO,AQ,AL,BD,AY,AC,AA,AX,AU,BH,BC,BU,AB,CX,↓reduceIte,jA,jB,jC,enP,c7,c8,c9,c10,c11,c12,c13,c14]
  refine EK (by kernel_rfl) ?_
  simp -implicitDefEqProofs only [ET,ER,EP,DK,CY,DL,KT,EC,C9,EI,EE,AO,AA,AX,BN,FI,BO,BG,AB,jF,jD,jE,↓reduceIte,jA,jL,jH,jG,jB,enP,FB,FN,FX z.ga,GI z.ga,FX z.gb,GI z.gb]
  refine ⟨_,AHN G a.lo b.hi (by omega) _,?_⟩
  try simp -implicitDefEqProofs only [FX z.ga,GI z.ga,FX z.gb,GI z.gb]
  refine ⟨_,AHN G a.hi b.lo (by omega) _,?_⟩
  simp -implicitDefEqProofs only [ET,DK,CY,FK,D7,DL,FH,BK,A7,CJ,D8,AO,AA,AX,CU,AB,BZ,↓reduceIte,jA,jG,enP,jK,KR,z.st]
  exact z.out (by simp -implicitDefEqProofs only [AA,↓reduceIte,jA]) (by unfold J4; rw [if_neg (by omega),if_neg (by omega),if_neg (by omega),if_neg (by omega),if_neg (by omega),if_pos (by omega)])
 have c14:(op == 14)=false:=by simpa using h14
 by_cases h15:op=15
 ·have c15:(op == 15)=true:=by simpa using h15
  simp -implicitDefEqProofs only [BB,A8,BI,A7,DI,DN,AZ,BA,AO,AQ,AL,BD,AY,AC,AA,AX,AU,BN,BH,BC,BO,BU,BV,BP,AB,CX,jF,jD,jE,↓reduceIte,jA,jB,jC,enP,c7,c8,c9,c10,c11,c12,c13,c14,c15,IW z.ga,IW z.gb]
  refine (AD9 G a b _).use ?_
  simp -implicitDefEqProofs only [zB,zD,AZ,AO,AQ,AL,BD,AY,AC,AA,AX,BN,G8,JJ,BV,BP,AB,jF,jD,jE,↓reduceIte,jA,jB,jC]
  refine (KA G _ _ _).use ?_
  simp -implicitDefEqProofs only [BK,A7,CJ,D8,AZ,BA,AO,AQ,AL,BD,AY,AC,DU,AA,AX,CU,BZ,↓reduceIte,jA,jC,enP,jK,z.st]
  exact z.out (by simp -implicitDefEqProofs only [AA,↓reduceIte,jA]) (by unfold J4; rw [if_neg (by omega),if_neg (by omega),if_neg (by omega),if_neg (by omega),if_neg (by omega),if_neg (by omega),if_pos (by omega)])
 have c15:(op == 15)=false:=by simpa using h15
 by_cases h16:op=16
 ·have c16:(op == 16)=true:=by simpa using h16
  simp -implicitDefEqProofs only [BB,A8,BI,A7,DI,DN,AZ,BA,AO,AQ,AL,BD,AY,AC,AA,AX,AU,BN,BH,BC,BO,BU,BV,BP,AB,CX,jF,jD,jE,↓reduceIte,jA,jB,jC,enP,c7,c8,c9,c10,c11,c12,c13,c14,c15,c16,IW z.ga,IW z.gb]
  refine (AD9 G a b _).use ?_
  simp -implicitDefEqProofs only [zB,zD,BB,A8,A7,AZ,BA,AO,AQ,AL,BD,AY,AC,AA,AX,BN,BJ,BC,G8,JJ,BV,BP,AB,jF,jD,jE,↓reduceIte,jA,jB,jC]
  refine (KA G _ _ _).use ?_
  simp -implicitDefEqProofs only [BK,A7,CJ,D8,AZ,BA,AO,AQ,AL,BD,AY,AC,DU,AA,AX,CU,BZ,↓reduceIte,jA,jC,enP,jK,z.st]
  exact z.out (by simp -implicitDefEqProofs only [AA,↓reduceIte,jA]) (by unfold J4; rw [if_neg (by omega),if_neg (by omega),if_neg (by omega),if_neg (by omega),if_neg (by omega),if_neg (by omega),if_neg (by omega),if_pos (by omega)])
 have c16:(op == 16)=false:=by simpa using h16
 by_cases h17:op=17
 ·have c17:(op == 17)=true:=by simpa using h17
  simp -implicitDefEqProofs only [BB,A8,BI,A7,DI,DN,AZ,BA,AO,AQ,AL,BD,AY,AC,AA,AX,AU,BN,BH,BC,BO,BU,BG,BV,BP,AB,CX,DV,FV,jF,jD,jE,↓reduceIte,jA,jH,jG,jB,jC,enP,FB,FN,c7,c8,c9,c10,c11,c12,c13,c14,c15,c16,c17,FX z.ga,GI z.ga,FX z.gb,GI z.gb]
  refine (KA G _ _ _).use ?_
  simp -implicitDefEqProofs only [BK,A7,CJ,D8,AZ,BA,AO,AQ,AL,BD,AY,AC,DU,AA,AX,CU,BZ,↓reduceIte,jA,jC,enP,jK,z.st]
  exact z.out (by simp -implicitDefEqProofs only [AA,↓reduceIte,jA]) (by unfold J4; rw [if_neg (by omega),if_neg (by omega),if_neg (by omega),if_neg (by omega),if_neg (by omega),if_neg (by omega),if_neg (by omega),if_neg (by omega),if_pos (by omega)])
 have c17:(op == 17)=false:=by simpa using h17
 by_cases h18:op=18
 ·have c18:(op == 18)=true:=by simpa using h18
  simp -implicitDefEqProofs only [BB,A8,BI,A7,DI,DN,AZ,BA,AO,AQ,AL,BD,AY,AC,AA,AX,AU,BN,BH,BC,BO,BU,BG,BV,BP,AB,CX,IR,FM,jF,jD,jE,↓reduceIte,jA,jH,jG,jB,jC,enP,FB,FN,c7,c8,c9,c10,c11,c12,c13,c14,c15,c16,c17,c18,FX z.ga,GI z.ga,FX z.gb,GI z.gb]
  refine (KA G _ _ _).use ?_
  simp -implicitDefEqProofs only [BK,A7,CJ,D8,AZ,BA,AO,AQ,AL,BD,AY,AC,DU,AA,AX,CU,BZ,↓reduceIte,jA,jC,enP,jK,z.st]
  exact z.out (by simp -implicitDefEqProofs only [AA,↓reduceIte,jA]) (by unfold J4; rw [if_neg (by omega),if_neg (by omega),if_neg (by omega),if_neg (by omega),if_neg (by omega),if_neg (by omega),if_neg (by omega),if_neg (by omega),if_neg (by omega),if_pos (by omega)])
 have c18:(op == 18)=false:=by simpa using h18
 by_cases h19:op=19
 ·have c19:(op == 19)=true:=by simpa using h19
  simp -implicitDefEqProofs only [BB,A8,BI,A7,DI,DN,AZ,BA,AO,AQ,AL,BD,AY,AC,AA,AX,AU,BH,BC,BU,AB,CX,↓reduceIte,jA,jB,jC,enP,c7,c8,c9,c10,c11,c12,c13,c14,c15,c16,c17,c18,c19]
  refine EK (by kernel_rfl) ?_
  simp -implicitDefEqProofs only [ET,DK,CY,DL,EJ,E8,EH,EC,EI,EE,CO,AO,AA,AX,BN,BO,AB,jF,jD,jE,↓reduceIte,jA,jL,jB,enP,IW z.ga]
  refine ⟨_,MM G a _,?_⟩
  try simp -implicitDefEqProofs only []
  refine OZ (fun h1 => ?_) (fun h1 => ?_)
  ·simp -implicitDefEqProofs only [ET,DK,CY,DL,EJ,E8,NQ,GK,EC,EI,EE,CO,AO,AA,AX,AU,BN,BM,CP,DW,BO,AB,jF,jD,jE,↓reduceIte,jA,jL,jB,enP,h1,IW z.gb]
   refine ⟨_,MM G b _,?_⟩
   try simp -implicitDefEqProofs only [ET,DK,CY,DL,EJ,E8,EH,EI,EE,CO,AO,AA,AX,BN,AB,jF,jD,jE,↓reduceIte,jL,jB,h1,IW z.ga]
   refine ⟨_,JX G a _,?_⟩
   try simp -implicitDefEqProofs only [h1]
   refine OZ (fun h3 => ?_) (fun h3 => ?_)
   ·simp -implicitDefEqProofs only [ET,DK,CY,DL,EJ,E8,QE,GK,FH,EI,EE,CO,AO,AA,EQ,AX,AU,BN,BM,CP,DW,CU,jF,jD,jE,↓reduceIte,jA,jL,jG,jB,enP,jK,h1,h3]
    refine ⟨_,KA G _ _ _,?_⟩
    simp -implicitDefEqProofs only [FK,D7,BK,A7,CJ,D8,BZ,z.st]
    exact z.out (by simp -implicitDefEqProofs only [AA,↓reduceIte,jA]) (by unfold J4; rw [if_neg (by omega),if_neg (by omega),if_neg (by omega),if_neg (by omega),if_neg (by omega),if_neg (by omega),if_neg (by omega),if_neg (by omega),if_neg (by omega),if_neg (by omega),if_pos (by omega)]; rw [h1,h3]; simp)
   ·simp -implicitDefEqProofs only [ET,DK,CY,DL,EJ,E8,O0,GK,EC,FH,EI,EE,CO,AO,AA,AX,AU,BN,BM,CP,DZ,BO,CU,AB,jF,jD,jE,↓reduceIte,jA,jL,jG,jB,enP,jK,h1,h3,IW z.gb]
    refine ⟨_,JX G b _,?_⟩
    try simp -implicitDefEqProofs only [h1,h3]
    refine ⟨_,KA G _ _ _,?_⟩
    simp -implicitDefEqProofs only [FK,D7,BK,A7,CJ,D8,BZ,z.st]
    exact z.out (by simp -implicitDefEqProofs only [AA,↓reduceIte,jA]) (by unfold J4; rw [if_neg (by omega),if_neg (by omega),if_neg (by omega),if_neg (by omega),if_neg (by omega),if_neg (by omega),if_neg (by omega),if_neg (by omega),if_neg (by omega),if_neg (by omega),if_pos (by omega)]; rw [h1,h3]; simp)
  ·simp -implicitDefEqProofs only [ET,DK,CY,DL,EJ,E8,SC,EH,GK,EC,EI,EE,CO,AO,AA,EQ,AX,AU,BN,BM,CP,DZ,BO,AB,jF,jD,jE,↓reduceIte,jA,jL,jB,enP,h1,IW z.ga]
   refine ⟨_,JX G a _,?_⟩
   try simp -implicitDefEqProofs only [h1]
   refine OZ (fun h3 => ?_) (fun h3 => ?_)
   ·simp -implicitDefEqProofs only [ET,DK,CY,DL,EJ,E8,QE,GK,FH,EI,EE,CO,AO,AA,EQ,AX,AU,BN,BM,CP,DW,CU,jF,jD,jE,↓reduceIte,jA,jL,jG,jB,enP,jK,h1,h3]
    refine ⟨_,KA G _ _ _,?_⟩
    simp -implicitDefEqProofs only [FK,D7,BK,A7,CJ,D8,BZ,z.st]
    exact z.out (by simp -implicitDefEqProofs only [AA,↓reduceIte,jA]) (by unfold J4; rw [if_neg (by omega),if_neg (by omega),if_neg (by omega),if_neg (by omega),if_neg (by omega),if_neg (by omega),if_neg (by omega),if_neg (by omega),if_neg (by omega),if_neg (by omega),if_pos (by omega)]; rw [h1,h3]; simp)
   ·simp -implicitDefEqProofs only [ET,DK,CY,DL,EJ,E8,O0,GK,EC,FH,EI,EE,CO,AO,AA,AX,AU,BN,BM,CP,DZ,BO,CU,AB,jF,jD,jE,↓reduceIte,jA,jL,jG,jB,enP,jK,h1,h3,IW z.gb]
    refine ⟨_,JX G b _,?_⟩
    try simp -implicitDefEqProofs only [h1,h3]
    refine ⟨_,KA G _ _ _,?_⟩
    simp -implicitDefEqProofs only [FK,D7,BK,A7,CJ,D8,BZ,z.st]
    exact z.out (by simp -implicitDefEqProofs only [AA,↓reduceIte,jA]) (by unfold J4; rw [if_neg (by omega),if_neg (by omega),if_neg (by omega),if_neg (by omega),if_neg (by omega),if_neg (by omega),if_neg (by omega),if_neg (by omega),if_neg (by omega),if_neg (by omega),if_pos (by omega)]; rw [h1,h3]; simp)
 have c19:(op == 19)=false:=by simpa using h19
 by_cases h20:op=20
 ·have c20:(op == 20)=true:=by simpa using h20
  simp -implicitDefEqProofs only [BB,A8,BI,A7,DI,DN,AZ,BA,AO,AQ,AL,BD,AY,AC,AA,AX,AU,BH,BC,BU,AB,CX,↓reduceIte,jA,jB,jC,enP,c7,c8,c9,c10,c11,c12,c13,c14,c15,c16,c17,c18,c19,c20]
  refine EK (by kernel_rfl) ?_
  simp -implicitDefEqProofs only [ET,DK,CY,DL,EJ,E8,EH,EC,EI,EE,CO,AO,AA,AX,BN,BO,AB,jF,jD,jE,↓reduceIte,jA,jL,jB,enP,IW z.ga]
  refine ⟨_,MM G a _,?_⟩
  try simp -implicitDefEqProofs only []
  refine OZ (fun h1 => ?_) (fun h1 => ?_)
  ·simp -implicitDefEqProofs only [ET,DK,CY,DL,EJ,E8,QE,EH,GK,EC,EI,EE,CO,AO,AA,EQ,AX,AU,BN,BM,CP,DW,BO,AB,jF,jD,jE,↓reduceIte,jA,jL,jB,enP,h1,IW z.ga]
   refine ⟨_,JX G a _,?_⟩
   try simp -implicitDefEqProofs only [h1]
   refine OZ (fun h3 => ?_) (fun h3 => ?_)
   ·simp -implicitDefEqProofs only [ET,DK,CY,DL,EJ,E8,NQ,GK,EC,FH,EI,EE,CO,AO,AA,AX,AU,BN,BM,CP,DW,BO,CU,AB,jF,jD,jE,↓reduceIte,jA,jL,jG,jB,enP,jK,h1,h3,IW z.gb]
    refine ⟨_,JX G b _,?_⟩
    try simp -implicitDefEqProofs only [h1,h3]
    refine ⟨_,KA G _ _ _,?_⟩
    simp -implicitDefEqProofs only [FK,D7,BK,A7,CJ,D8,BZ,z.st]
    exact z.out (by simp -implicitDefEqProofs only [AA,↓reduceIte,jA]) (by unfold J4; rw [if_neg (by omega),if_neg (by omega),if_neg (by omega),if_neg (by omega),if_neg (by omega),if_neg (by omega),if_neg (by omega),if_neg (by omega),if_neg (by omega),if_neg (by omega),if_neg (by omega),if_pos (by omega)]; rw [h1,h3]; simp)
   ·simp -implicitDefEqProofs only [ET,DK,CY,DL,EJ,E8,SC,GK,FH,EI,EE,CO,AO,AA,EQ,AX,AU,BN,BM,CP,DZ,CU,jF,jD,jE,↓reduceIte,jA,jL,jG,jB,enP,jK,h1,h3]
    refine ⟨_,KA G _ _ _,?_⟩
    simp -implicitDefEqProofs only [FK,D7,BK,A7,CJ,D8,BZ,z.st]
    exact z.out (by simp -implicitDefEqProofs only [AA,↓reduceIte,jA]) (by unfold J4; rw [if_neg (by omega),if_neg (by omega),if_neg (by omega),if_neg (by omega),if_neg (by omega),if_neg (by omega),if_neg (by omega),if_neg (by omega),if_neg (by omega),if_neg (by omega),if_neg (by omega),if_pos (by omega)]; rw [h1,h3]; simp)
  ·simp -implicitDefEqProofs only [ET,DK,CY,DL,EJ,E8,O0,GK,EC,EI,EE,CO,AO,AA,AX,AU,BN,BM,CP,DZ,BO,AB,jF,jD,jE,↓reduceIte,jA,jL,jB,enP,h1,IW z.gb]
   refine ⟨_,MM G b _,?_⟩
   try simp -implicitDefEqProofs only [ET,DK,CY,DL,EJ,E8,EH,EI,EE,CO,AO,AA,AX,BN,AB,jF,jD,jE,↓reduceIte,jL,jB,h1,IW z.ga]
   refine ⟨_,JX G a _,?_⟩
   try simp -implicitDefEqProofs only [h1]
   refine OZ (fun h3 => ?_) (fun h3 => ?_)
   ·simp -implicitDefEqProofs only [ET,DK,CY,DL,EJ,E8,NQ,GK,EC,FH,EI,EE,CO,AO,AA,AX,AU,BN,BM,CP,DW,BO,CU,AB,jF,jD,jE,↓reduceIte,jA,jL,jG,jB,enP,jK,h1,h3,IW z.gb]
    refine ⟨_,JX G b _,?_⟩
    try simp -implicitDefEqProofs only [h1,h3]
    refine ⟨_,KA G _ _ _,?_⟩
    simp -implicitDefEqProofs only [FK,D7,BK,A7,CJ,D8,BZ,z.st]
    exact z.out (by simp -implicitDefEqProofs only [AA,↓reduceIte,jA]) (by unfold J4; rw [if_neg (by omega),if_neg (by omega),if_neg (by omega),if_neg (by omega),if_neg (by omega),if_neg (by omega),if_neg (by omega),if_neg (by omega),if_neg (by omega),if_neg (by omega),if_neg (by omega),if_pos (by omega)]; rw [h1,h3]; simp)
   ·simp -implicitDefEqProofs only [ET,DK,CY,DL,EJ,E8,SC,GK,FH,EI,EE,CO,AO,AA,EQ,AX,AU,BN,BM,CP,DZ,CU,jF,jD,jE,↓reduceIte,jA,jL,jG,jB,enP,jK,h1,h3]
    refine ⟨_,KA G _ _ _,?_⟩
    simp -implicitDefEqProofs only [FK,D7,BK,A7,CJ,D8,BZ,z.st]
    exact z.out (by simp -implicitDefEqProofs only [AA,↓reduceIte,jA]) (by unfold J4; rw [if_neg (by omega),if_neg (by omega),if_neg (by omega),if_neg (by omega),if_neg (by omega),if_neg (by omega),if_neg (by omega),if_neg (by omega),if_neg (by omega),if_neg (by omega),if_neg (by omega),if_pos (by omega)]; rw [h1,h3]; simp)
 have c20:(op == 20)=false:=by simpa using h20
 simp -implicitDefEqProofs only [BB,A8,BR,BI,A7,EO,DN,AZ,BA,AO,AQ,AL,BD,AY,AC,AA,AX,AU,BH,BC,BU,AB,CX,↓reduceIte,jA,jB,jC,enP,c7,c8,c9,c10,c11,c12,c13,c14,c15,c16,c17,c18,c19,c20]
 refine EK (by kernel_rfl) ?_
 simp -implicitDefEqProofs only [ET,DK,CY,DL,EJ,E8,EH,EC,EI,EE,CO,AO,AA,AX,BN,BO,AB,jF,jD,jE,↓reduceIte,jA,jL,jB,enP,IW z.ga]
 refine ⟨_,JX G a _,?_⟩
 try simp -implicitDefEqProofs only []
 refine OZ (fun h1 => ?_) (fun h1 => ?_)
 ·simp -implicitDefEqProofs only [ET,DK,CY,DL,EJ,E8,QE,EH,GK,EC,EI,EE,CO,AO,AA,EQ,AX,AU,BN,BM,CP,DW,BO,AB,jF,jD,jE,↓reduceIte,jA,jL,jB,enP,h1,IW z.ga]
  refine ⟨_,MM G a _,?_⟩
  try simp -implicitDefEqProofs only [h1]
  refine OZ (fun h3 => ?_) (fun h3 => ?_)
  ·simp -implicitDefEqProofs only [ET,DK,CY,DL,EJ,E8,NQ,GK,EC,FH,EI,EE,CO,AO,AA,AX,AU,BN,BM,CP,DW,BO,CU,AB,jF,jD,jE,↓reduceIte,jA,jL,jG,jB,enP,jK,h1,h3,IW z.gb]
   refine ⟨_,JX G b _,?_⟩
   try simp -implicitDefEqProofs only [h1,h3]
   refine ⟨_,KA G _ _ _,?_⟩
   simp -implicitDefEqProofs only [FK,D7,BK,A7,BZ,z.st]
   exact z.out (by simp -implicitDefEqProofs only [AA,↓reduceIte,jA]) (by unfold J4; rw [if_neg (by omega),if_neg (by omega),if_neg (by omega),if_neg (by omega),if_neg (by omega),if_neg (by omega),if_neg (by omega),if_neg (by omega),if_neg (by omega),if_neg (by omega),if_neg (by omega),if_neg (by omega)]; rw [h1,h3]; simp)
  ·simp -implicitDefEqProofs only [ET,DK,CY,DL,EJ,E8,SC,GK,FH,EI,EE,CO,AO,AA,EQ,AX,AU,BN,BM,CP,DZ,CU,jF,jD,jE,↓reduceIte,jA,jL,jG,jB,enP,jK,h1,h3]
   refine ⟨_,KA G _ _ _,?_⟩
   simp -implicitDefEqProofs only [FK,D7,BK,A7,BZ,z.st]
   exact z.out (by simp -implicitDefEqProofs only [AA,↓reduceIte,jA]) (by unfold J4; rw [if_neg (by omega),if_neg (by omega),if_neg (by omega),if_neg (by omega),if_neg (by omega),if_neg (by omega),if_neg (by omega),if_neg (by omega),if_neg (by omega),if_neg (by omega),if_neg (by omega),if_neg (by omega)]; rw [h1,h3]; simp)
 ·simp -implicitDefEqProofs only [ET,DK,CY,DL,EJ,E8,O0,GK,EC,EI,EE,CO,AO,AA,AX,AU,BN,BM,CP,DZ,BO,AB,jF,jD,jE,↓reduceIte,jA,jL,jB,enP,h1,IW z.gb]
  refine ⟨_,MM G b _,?_⟩
  try simp -implicitDefEqProofs only [ET,DK,CY,DL,EJ,E8,EH,EI,EE,CO,AO,AA,AX,BN,AB,jF,jD,jE,↓reduceIte,jL,jB,h1,IW z.ga]
  refine ⟨_,MM G a _,?_⟩
  try simp -implicitDefEqProofs only [h1]
  refine OZ (fun h3 => ?_) (fun h3 => ?_)
  ·simp -implicitDefEqProofs only [ET,DK,CY,DL,EJ,E8,NQ,GK,EC,FH,EI,EE,CO,AO,AA,AX,AU,BN,BM,CP,DW,BO,CU,AB,jF,jD,jE,↓reduceIte,jA,jL,jG,jB,enP,jK,h1,h3,IW z.gb]
   refine ⟨_,JX G b _,?_⟩
   try simp -implicitDefEqProofs only [h1,h3]
   refine ⟨_,KA G _ _ _,?_⟩
   simp -implicitDefEqProofs only [FK,D7,BK,A7,BZ,z.st]
   exact z.out (by simp -implicitDefEqProofs only [AA,↓reduceIte,jA]) (by unfold J4; rw [if_neg (by omega),if_neg (by omega),if_neg (by omega),if_neg (by omega),if_neg (by omega),if_neg (by omega),if_neg (by omega),if_neg (by omega),if_neg (by omega),if_neg (by omega),if_neg (by omega),if_neg (by omega)]; rw [h1,h3]; simp)
  ·simp -implicitDefEqProofs only [ET,DK,CY,DL,EJ,E8,SC,GK,FH,EI,EE,CO,AO,AA,EQ,AX,AU,BN,BM,CP,DZ,CU,jF,jD,jE,↓reduceIte,jA,jL,jG,jB,enP,jK,h1,h3]
   refine ⟨_,KA G _ _ _,?_⟩
   simp -implicitDefEqProofs only [FK,D7,BK,A7,BZ,z.st]
   exact z.out (by simp -implicitDefEqProofs only [AA,↓reduceIte,jA]) (by unfold J4; rw [if_neg (by omega),if_neg (by omega),if_neg (by omega),if_neg (by omega),if_neg (by omega),if_neg (by omega),if_neg (by omega),if_neg (by omega),if_neg (by omega),if_neg (by omega),if_neg (by omega),if_neg (by omega)]; rw [h1,h3]; simp)
end
theorem AD6 (H:Hp) (x:ABlk) (r:Rng):GM Tryz.prog (H ++ [ABlk.live 2 [zR]] ++ [x]) 34 (.ptr H.length 0 0) (.agg (encR r))=some (H ++ [ABlk.live 2 [encR r]] ++ [x]):=by
 rw [AXD r (DC (DF H (ABlk.live 2 [zR]))) rfl,List.set_append_left _ _ (by simp),MB]
theorem NF (H:Hp) (r:Rng):GM Tryz.prog (H ++ [ABlk.live 2 [zR]]) 34 (.ptr H.length 0 0) (.agg (encR r))=some (H ++ [ABlk.live 2 [encR r]]):=by
 rw [AXD r (DF H (ABlk.live 2 [zR])) rfl,MB]
theorem RI {h:Hp} {o:Nat} {vs:List Rng} {k:Nat} (ho:h[o]? = some (.live 2 (vs.map encR))) (hk:k < vs.length):DR Tryz.prog h 34 (.ptr o k 0)=some (.agg (encR vs[k])):=by
 rw [H7 AJB VC ho (row:=encR vs[k]) (by rw [zA,jU hk]; rfl) (jQ 2)]; rfl
theorem AQY (a:Rng) (imp:Bool) (l:List Rng) (k:Nat) (hk:k+1 < l.length):QK a imp (l.drop k)=if TS a l[k] l[k+1]=true then ⟨1,1⟩ else QK a (if VV a l[k] l[k+1]=true then false else imp) (l.drop (k+2)):=by
 rw [zO (by omega:k < l.length),zO hk]; rfl
theorem AUS (a:Rng) (imp:Bool) (l:List Rng) (k:Nat) (hk:l.length≤k+1):QK a imp (l.drop k)=knR false imp:=by
 rcases Nat.lt_or_ge k l.length with h | h
 ·rw [zO h,zS hk]; rfl
 ·rw [zS h]; rfl
section
variable (G:Nat→AV)
set_option maxHeartbeats 1000000 in
theorem AQZ (a:Rng) (vs:List Rng) (o:Nat) (h:Hp) (ho:h[o]? = some (.live 2 (vs.map encR))) (hn:vs.length≤1048576) (h1:1≤vs.length):PCall (En G) 97 [.agg (encR a),.own o 1 (vs.length - 1)] h (.agg (encR (QK a true (vs.drop 1)))):=by
 refine JW 2 (fun n H=>rfl) ?_
 refine acN Tryz.func97 rfl ?_
 show awp _ _ _ _ _ (EN _ [.cell 4 34] _)
 have z:=Z1.mk' h a
 have ho1:(h ++ [ABlk.live 2 [encR a]] ++ [ABlk.live 2 [zR]])[o]? = some (.live 2 (vs.map encR)):=DC (DC ho)
 simp -implicitDefEqProofs only [BB,CE,A8,A7,AZ,BA,AO,AQ,AL,BD,AY,AC,AX,AU,BH,BM,BC,EZ,FQ,CB,BF,jB,jC,enP,bxR,KG]
 generalize h ++ [ABlk.live 2 [encR a]] ++ [ABlk.live 2 [zR]]=H0 at z ho1 ⊢
 generalize (h ++ [ABlk.live 2 [encR a]]).length=bz at z ⊢
 generalize h.length=ba at z ⊢
 refine IY 0 (fun F H => ∃ imp,F 4 = .ptr bz 0 0∧F 5 = .bool imp∧ext H0 H∧QK a true (vs.drop 1)=knR false imp) (fun F H=>EN Tryz.prog [.cell 4 34] (fun v H=>v = .agg (encR (QK a true (vs.drop 1)))∧Sm.ext h H) .ret F H) ?_ ?_ ?_
 ·refine EG (fun n F H => ∃ i imp,n+i=vs.length+1∧F 1 = .own o 1 (vs.length - 1)∧F 2 = .ptr ba 0 0∧F 4 = .ptr bz 0 0∧F 5 = .bool imp∧F 6 = .int .i64 (i:Nat)∧ext H0 H∧QK a true (vs.drop 1)=QK a imp (vs.drop (1+i))) (vs.length+1)
   ⟨0,true,by simp,by simp -implicitDefEqProofs only [AA,BF,BQ,↓reduceIte,jA],by simp -implicitDefEqProofs only [AA,↓reduceIte,jA],by simp -implicitDefEqProofs only [AA,↓reduceIte,jA],by simp -implicitDefEqProofs only [AA,↓reduceIte,jA],by simp -implicitDefEqProofs only [AA,↓reduceIte]; rfl,ext.rfl' _,rfl⟩ ?_
  rintro n F H ⟨i,imp,hi,f1,f2,f4,f5,f6,hx,he⟩
  have zH:Z1 h H ba bz a:=⟨⟨FD hx z.gz,z.hx.trans hx,z.hl⟩,FD hx z.ga⟩
  have hoH:=FD hx ho1
  have hc1:((vs.length - 1:Nat):Int)=(vs.length:Int) - 1:=by omega
  simp -implicitDefEqProofs only [BB,A8,BI,A7,AZ,BA,AO,AQ,AL,BD,AY,AC,AA,AX,AU,BH,BJ,BU,FP,AB,D6,DV,↓reduceIte,jA,jB,jC,enP,ZL,f1,f6,wrap_succ (show i < 9223372036854775807 by omega)]
  refine CQ (fun hc => ?_) (fun hc => ?_)
  ·have hc:i+1 < vs.length - 1:=by simp at hc; omega
   have i1:I4 2 H (.own o 1 (vs.length - 1)) (.int .i64 (i:Nat))=some (.ptr o (1+i) 0):=JK hoH (by omega)
   have i2:I4 2 H (.own o 1 (vs.length - 1)) (.int .i64 ((i+1:Nat):Int))=some (.ptr o (1+(i+1)) 0):=JK hoH (by omega)
   have l1:=RI hoH (show 1+i < vs.length by omega)
   have l2:=RI hoH (show 1+(i+1) < vs.length by omega)
   have hst:=AQY a imp vs (1+i) (by omega)
   simp -implicitDefEqProofs only [BB,CE,BR,A7]
   refine QX (fun F H'=>F 1 = .own o 1 (vs.length - 1)∧F 2 = .ptr ba 0 0∧F 4 = .ptr bz 0 0∧F 5 = .bool imp∧F 6 = .int .i64 (i:Nat)∧ext H H'∧∃ b7 b8,F 7 = .ptr b7 0 0∧F 8 = .ptr b8 0 0∧H'[b7]? = some (.live 2 [encR vs[1+i]])∧H'[b8]? = some (.live 2 [encR vs[1+(i+1)]])) (fun _ _=>False) ?_ ?_ (fun _ _ q=>q.elim)
   ·refine Y5 (.ones [0,1,2,3,4,5,6,7] (.alt 8 (.alt 9 (.ones [10,11,12] .done) (.alt 10 (.ones [9,11,12] .done) (.non))) (.alt 9 (.alt 8 (.ones [10,11,12] .done) (.alt 10 (.alt 8 (.ones [11,12] .done) (.alt 11 (.ones [8,12] .done) (.non))) (.non))) (.alt 10 (.alt 8 (.ones [9,11,12] .done) (.alt 9 (.alt 8 (.ones [11,12] .done) (.alt 11 (.ones [8,12] .done) (.non))) (.non))) (.non))))) (by kernel_rfl) ?_
    have lA : ∀ x:ABlk,DR Tryz.prog (H ++ [x]) 34 (.ptr o (1+(i+1)) 0)=some (.agg (encR vs[1+(i+1)])):=fun x=>RI (DC hoH) (show 1+(i+1) < vs.length by omega)
    have lB : ∀ x y:ABlk,DR Tryz.prog (H ++ [x] ++ [y]) 34 (.ptr o (1+(i+1)) 0)=some (.agg (encR vs[1+(i+1)])):=fun x y=>RI (DC (DC hoH)) (show 1+(i+1) < vs.length by omega)
    have g : ∀ r s:Rng,(H ++ [ABlk.live 2 [encR r]] ++ [ABlk.live 2 [encR s]])[H.length]? = some (.live 2 [encR r])∧(H ++ [ABlk.live 2 [encR r]] ++ [ABlk.live 2 [encR s]])[(H ++ [ABlk.live 2 [zR]]).length]? = some (.live 2 [encR s]):=fun r s=>by
     refine ⟨DC (DF _ _),?_⟩
     have:=DF (H ++ [ABlk.live 2 [encR r]]) (ABlk.live 2 [encR s])
     rw [← this]; simp
    have sB : ∀ r s:Rng,GM Tryz.prog (H ++ [ABlk.live 2 [encR r]] ++ [ABlk.live 2 [zR]]) 34 (.ptr (H ++ [ABlk.live 2 [zR]]).length 0 0) (.agg (encR s))=some (H ++ [ABlk.live 2 [encR r]] ++ [ABlk.live 2 [encR s]]):=fun r s=>by
     have:=NF (H ++ [ABlk.live 2 [encR r]]) s
     rw [← this]; simp
    have hxx : ∀ r s:Rng,ext H (H ++ [ABlk.live 2 [encR r]] ++ [ABlk.live 2 [encR s]]):=fun r s=>((ext.rfl' H).app _).app _
    simp only [DT,KC,zD,zB]
    simp -implicitDefEqProofs only [ET,DK,CY,FK,D7,DL,EH,MW,EC,FH,HY,D9,KW,AO,AA,AX,AU,BH,EZ,BO,CU,BU,CG,CB,AB,BZ,D6,↓reduceIte,jA,jL,jG,jB,enP,JO,jK,f1,f2,f4,f5,f6,wrap_succ (show i < 9223372036854775807 by omega),i1,l1,KG,i2,l2,lA,lB,AD6,NF,sB,and_true]
    have A:=fun r s=>(g r s).1
    have B:=fun r s=>(g r s).2
    refine ⟨⟨?_,?_⟩,⟨?_,?_,?_⟩,?_,?_,?_⟩ <;> first | exact ⟨trivial,trivial,trivial,trivial,trivial,hxx _ _,_,_,rfl,rfl,A _ _,B _ _⟩ | exact ⟨trivial,trivial,trivial,trivial,trivial,hxx _ _,_,_,rfl,rfl,B _ _,A _ _⟩
   clear f1 f2 f4 f5 f6
   rintro F H1 ⟨f1,f2,f4,f5,f6,hx1,b7,b8,f7,f8,g7,g8⟩
   have hxx:=hx.trans hx1
   have z2:Z1 h H1 ba bz a:=⟨⟨FD hx1 zH.gz,zH.hx.trans hx1,zH.hl⟩,FD hx1 zH.ga⟩
   have yes : ∀ q:TS a vs[1+i] vs[1+(i+1)]=true,(⟨1,1⟩:Rng)=QK a true (vs.drop 1):=fun q=>by
    rw [he,hst,if_pos (by simpa [qO] using q)]
   have nxt : ∀ (q:TS a vs[1+i] vs[1+(i+1)]=false) (r:Bool),(VV a vs[1+i] vs[1+(i+1)]=r)→∃ m,m < n∧∃ i' imp',m+i'=vs.length+1∧i'=i+2∧imp'=(if r=true then false else imp)∧QK a true (vs.drop 1)=QK a imp' (vs.drop (1+i')):=fun q r hr=>by
    subst hr
    refine ⟨n - 2,by omega,i+2,_,by omega,rfl,rfl,?_⟩
    rw [he,hst,if_neg (by rw [show TS a vs[1+i] vs[1+i+1]=false by simpa [qO] using q]; decide)]
    rfl
   have w2:IntKind.i64.wrap ((i:Int)+2)=((i+2:Nat):Int):=by rw [wrap_i64 (by omega) (by omega)]; omega
   have ret1 : ∀ F':Fr,F' 4 = .ptr bz 0 0→TS a vs[1+i] vs[1+(i+1)]=true→EN Tryz.prog [.cell 4 34] (fun v H=>v = .agg (encR (QK a true (vs.drop 1)))∧Sm.ext h H) .ret F' (H1.set bz (.live 2 [encR ⟨1,1⟩])):=fun F' e4 q=>z2.out e4 (yes q)
   simp -implicitDefEqProofs only [BB,A8,A7,AZ,BL,BX,CO,AO,AQ,AL,BD,AY,AC,AA,AX,BJ,BO,BU,BG,AB,FV,↓reduceIte,jA,jH,jG,jB,jC,enP,FB,FN,f2,f7,f8,FX z2.ga,GI z2.ga,FX g7,GI g7,FX g8,GI g8]
   refine NZ (fun F' H'=>F' 1 = .own o 1 (vs.length - 1)∧F' 2 = .ptr ba 0 0∧F' 4 = .ptr bz 0 0∧F' 5 = .bool imp∧F' 6 = .int .i64 (i:Nat)∧F' 7 = .ptr b7 0 0∧F' 8 = .ptr b8 0 0∧F' 36 = .bool (TS a vs[1+i] vs[1+(i+1)])∧H'=H1) ?_ ?_
   ·unfold TS
    refine IA (fun hA => ?_) (fun hA => ?_)
    ·simp -implicitDefEqProofs only [AZ,BA,BL,BX,CO,GL,AO,AQ,AL,BD,AY,AC,AA,AX,AU,BM,CP,DW,BO,BU,BG,AB,IR,↓reduceIte,jA,jH,jG,jB,jC,enP,FB,FN,hA,f2,f7,f8,FX z2.ga,GI z2.ga,FX g7,GI g7,FX g8,GI g8]
     exact ⟨by trivial,by trivial,by trivial,by trivial,by trivial,by trivial,by trivial,by trivial,trivial⟩
    ·simp -implicitDefEqProofs only [AZ,BA,BL,BX,CO,IP,AO,AQ,AL,BD,AY,AC,AA,EQ,AX,AU,BM,CP,DZ,↓reduceIte,jA,jB,jC,hA,f2,f7,f8]
     exact ⟨by trivial,by trivial,by trivial,by trivial,by trivial,by trivial,by trivial,by trivial,trivial⟩
   clear f1 f2 f4 f5 f6 f7 f8
   rintro F H2 ⟨f1,f2,f4,f5,f6,f7,f8,f36,rfl⟩
   simp -implicitDefEqProofs only [BI,A7,AX,f36]
   refine CQ (fun hT => ?_) (fun hT => ?_)
   ·simp -implicitDefEqProofs only [BB,A8,AZ,AO,AQ,AL,BD,AY,BN,BV,BP,jD,jE,jB,jC]
    refine (AGS G _).use ?_
    simp -implicitDefEqProofs only [BK,A7,CJ,D8,L6,F9,AZ,BA,AO,AQ,AL,BD,AY,AC,DU,AA,AX,CU,BZ,↓reduceIte,jA,jC,enP,jK,f4,z2.st]
    exact ret1 _ (by simp -implicitDefEqProofs only [AA,↓reduceIte,jA,f4]) hT
   simp -implicitDefEqProofs only [BB,A8,BR,A7,AZ,BL,BX,CO,AO,AQ,AL,BD,AY,AC,AA,AX,BJ,BO,BU,BG,AB,FV,↓reduceIte,jA,jH,jG,jB,jC,enP,FB,FN,f2,f7,f8,FX z2.ga,GI z2.ga,FX g7,GI g7,FX g8,GI g8]
   refine NZ (fun F' H'=>F' 1 = .own o 1 (vs.length - 1)∧F' 2 = .ptr ba 0 0∧F' 4 = .ptr bz 0 0∧F' 5 = .bool imp∧F' 6 = .int .i64 (i:Nat)∧F' 7 = .ptr b7 0 0∧F' 8 = .ptr b8 0 0∧F' 56 = .bool (VV a vs[1+i] vs[1+(i+1)])∧H'=H2) ?_ ?_
   ·unfold VV
    refine IA (fun hA => ?_) (fun hA => ?_)
    ·simp -implicitDefEqProofs only [AZ,BL,BX,CO,GL,AO,AQ,AL,BD,AY,AC,AA,AX,AU,BM,BJ,CP,DW,BO,BU,BG,AB,IR,↓reduceIte,jA,jH,jG,jB,jC,enP,FB,FN,hA,f2,f7,f8,FX z2.ga,GI z2.ga,FX g7,GI g7,FX g8,GI g8]
     refine IA (fun hB => ?_) (fun hB => ?_)
     ·simp -implicitDefEqProofs only [AZ,BA,BL,BX,CO,GL,AO,AQ,AL,BD,AY,AC,AA,AX,AU,BM,CP,DW,BO,BU,BG,AB,IR,↓reduceIte,jA,jH,jG,jB,jC,enP,FB,FN,hA,hB,f2,f7,f8,FX z2.ga,GI z2.ga,FX g7,GI g7,FX g8,GI g8]
      exact ⟨by trivial,by trivial,by trivial,by trivial,by trivial,by trivial,by trivial,by trivial,trivial⟩
     ·simp -implicitDefEqProofs only [AZ,BA,BL,BX,CO,IP,AO,AQ,AL,BD,AY,AC,AA,EQ,AX,AU,BM,CP,DZ,↓reduceIte,jA,jB,jC,hA,hB,f2,f7,f8]
      exact ⟨by trivial,by trivial,by trivial,by trivial,by trivial,by trivial,by trivial,by trivial,trivial⟩
    ·simp -implicitDefEqProofs only [AZ,BA,BL,BX,CO,IP,AO,AQ,AL,BD,AY,AC,AA,EQ,AX,AU,BM,BJ,CP,DZ,↓reduceIte,jA,jB,jC,hA,f2,f7,f8]
     exact ⟨by trivial,by trivial,by trivial,by trivial,by trivial,by trivial,by trivial,by trivial,trivial⟩
   clear f1 f2 f4 f5 f6 f7 f8 f36
   rintro F H3 ⟨f1,f2,f4,f5,f6,f7,f8,f56,rfl⟩
   simp -implicitDefEqProofs only [BI,A7,AX,f56]
   refine CQ (fun hP => ?_) (fun hP => ?_)
   ·simp -implicitDefEqProofs only [A8,A7,EO,FO,AZ,BA,AO,AQ,AL,BD,AY,AC,AA,AX,AU,BH,BM,BJ,BC,BU,AB,D6,↓reduceIte,jA,jB,jC,enP,f6,w2]
    obtain ⟨m,hm,i',imp',e,rfl,rfl,e'⟩:=nxt hT true hP
    exact ⟨m,hm,i+2,_,e,by trivial,by trivial,by trivial,by first | exact f5 | trivial | rfl,by trivial,hxx,e'⟩
   ·simp -implicitDefEqProofs only [A8,BR,A7,EO,FO,AZ,BA,AO,AQ,AL,BD,AY,AC,AA,AX,AU,BH,BJ,BC,BU,AB,D6,↓reduceIte,jA,jB,jC,enP,f6,w2]
    obtain ⟨m,hm,i',imp',e,rfl,rfl,e'⟩:=nxt hT false hP
    exact ⟨m,hm,i+2,_,e,by trivial,by trivial,by trivial,by first | exact f5 | trivial | rfl,by trivial,hxx,e'⟩
  ·have hc : ¬ i+1 < vs.length - 1:=by simp at hc; omega
   rw [AUS a imp vs (1+i) (by omega)] at he
   simp -implicitDefEqProofs only [EF,FC,MG,F8,AA,↓reduceIte,jA]
   exact ⟨imp,by trivial,by trivial,hx,he⟩
 ·rintro F H ⟨imp,f4,f5,hx,he⟩
  have zH:Z1 h H ba bz a:=⟨⟨FD hx z.gz,z.hx.trans hx,z.hl⟩,FD hx z.ga⟩
  simp -implicitDefEqProofs only [BB,A8,A7,F6,AZ,AO,AQ,AL,BD,AY,AC,AA,AX,AU,BN,BM,BJ,BV,BP,jF,jD,jE,↓reduceIte,jB,jC,f5]
  refine (KA G _ _ _).use ?_
  simp -implicitDefEqProofs only [BK,A7,AZ,BA,AO,AQ,AL,BD,AY,AC,DU,AA,AX,CU,BZ,↓reduceIte,jA,jC,enP,jK,f4,zH.st]
  exact zH.out (by simp -implicitDefEqProofs only [AA,↓reduceIte,jA,f4]) he.symm
 ·intro F H hq
  simp -implicitDefEqProofs only [CJ,D8]
  exact hq
end
def AFK (n:ByteArray):List Vr→Nat→Option Nat
 | [],_=>none
 | v :: r,k=>if JB n v=true then some k else AFK n r (k+1)
theorem AL6 (n:ByteArray) : ∀ (l:List Vr) (k:Nat),AFK n l k=if plc l n < 0 then none else some (k+(plc l n).toNat)
 | [],k=>by simp [AFK,plc,KQ]
 | v :: r,k=>by
   have ih:=AL6 n r (k+1)
   have hr:=P9 (JB n) r
   unfold plc at ih ⊢
   by_cases h:JB n v=true
   ·have e:KQ (JB n) (v :: r)=0:=by simp [KQ,h]
    simp only [AFK]
    rw [if_pos h,e]; simp
   ·have e:KQ (JB n) (v :: r)=if KQ (JB n) r < 0 then -1 else KQ (JB n) r+1:=by simp [KQ,h]
    simp only [AFK]
    rw [if_neg h,ih,e]
    by_cases hn:KQ (JB n) r < 0
    ·rw [if_pos hn,if_pos hn]; simp
    ·rw [if_neg hn,if_neg hn,if_neg (by omega)]
     congr 1; omega
def VF (ents:List (ByteArray × Nat)):List (AV × AV):=ents.map fun x=>(.str x.1,.int .i64 (x.2:Nat))
def U5 (ents:List (ByteArray × Nat)) (n:ByteArray):Option Nat:=match ents.findIdx? (fun x=>n.toList == x.1.toList) with
 | some i=>(ents[i]?).map (·.2)
 | none=>none
theorem AIE (ents:List (ByteArray × Nat)) (n:ByteArray):YT Tryz.prog 9 (.str n) (VF ents)=some (ents.findIdx? fun x=>n.toList == x.1.toList):=by
 have hk:Tryz.prog.underlying 9=some .string:=by kernel_rfl
 induction ents with
 | nil=>rfl
 | cons x r ih =>
   have e:YT Tryz.prog 9 (.str n) (VF (x :: r))=match ZM Tryz.prog 9 (.str n) (.str x.1) with
    | some true=>some (some 0)
    | some false=>match YT Tryz.prog 9 (.str n) (VF r) with
      | some (some i)=>some (some (i+1))
      | some none=>some none
      | none=>none
    | none=>none:=rfl
   have ke:ZM Tryz.prog 9 (.str n) (.str x.1)=some (n.toList == x.1.toList):=by unfold ZM; rw [hk]
   rw [e,ke,ih,List.findIdx?_cons]
   cases hb:(n.toList == x.1.toList) with
   | true=>rfl
   | false =>
     cases List.findIdx? (fun x=>n.toList == x.1.toList) r <;> rfl
theorem AUN:ACD Tryz.prog 9=true:=by kernel_rfl
theorem ATI:Tryz.prog.underlying 67=some (.map 9 3):=by kernel_rfl
def AJO (ents:List (ByteArray × Nat)) (n:ByteArray) (i:Nat):List (ByteArray × Nat):=match ents.findIdx? (fun x=>n.toList == x.1.toList) with
 | some k=>ents.set k (n,i)
 | none=>ents ++ [(n,i)]
theorem AWA {h:Hp} {b i:Nat} {ents:List (ByteArray × Nat)} (n:ByteArray) (hb:h[b]? = some (.map (VF ents))):NY Tryz.prog h 67 (.mp b) (.str n) (.int .i64 (i:Nat))=some (h.set b (.map (VF (AJO ents n i))))∧∀ m,U5 (AJO ents n i) m=if m=n then some i else U5 ents m:=by
 unfold AJO
 have hf:=AIE ents n
 cases hx:ents.findIdx? (fun x=>n.toList == x.1.toList) with
 | none =>
   rw [hx] at hf
   refine ⟨?_,fun m => ?_⟩
   ·unfold NY
    simp only [ATI,hb,AUN,if_true,hf]
    simp [VF]
   ·unfold U5
    rw [List.findIdx?_append]
    by_cases hm:m=n
    ·subst hm
     rw [hx,if_pos rfl]
     simp
    ·rw [if_neg hm]
     have h1:List.findIdx? (fun x:ByteArray × Nat=>m.toList == x.1.toList) [(n,i)]=none:=by
      simp only [List.findIdx?_cons,List.findIdx?_nil,AYN hm]; rfl
     rw [h1]
     cases hy:ents.findIdx? (fun x=>m.toList == x.1.toList) with
     | none=>simp
     | some j =>
       have hj:j < ents.length:=(List.findIdx?_eq_some_iff_getElem.1 hy).1
       simp [List.getElem?_append_left hj]
 | some k =>
   rw [hx] at hf
   obtain ⟨hk,hkn,hkb⟩:=List.findIdx?_eq_some_iff_getElem.1 hx
   refine ⟨?_,fun m => ?_⟩
   ·unfold NY
    simp only [ATI,hb,AUN,if_true,hf]
    simp [VF]
   ·have hkey : ∀ q:ByteArray,(List.findIdx? (fun x:ByteArray × Nat=>q.toList == x.1.toList) (ents.set k (n,i)))=List.findIdx? (fun x:ByteArray × Nat=>q.toList == x.1.toList) ents:=fun q=>by
     have hnk:n=(ents[k]).1:=(Z7 _ _).1 hkn
     have e1 : ∀ l:List (ByteArray × Nat),List.findIdx? (fun x:ByteArray × Nat=>q.toList == x.1.toList) l=List.findIdx? (fun x:ByteArray=>q.toList == x.toList) (l.map (·.1)):=fun l=>by
      rw [List.findIdx?_map]; rfl
     rw [e1,e1,List.map_set]
     congr 1
     apply List.ext_getElem?
     intro j
     rw [List.getElem?_set]
     by_cases hjk:k=j
     ·subst hjk
      rw [if_pos rfl,if_pos (by simpa using hk),zA,jU hk,hnk]; rfl
     ·rw [if_neg hjk]
    unfold U5
    rw [hkey]
    by_cases hm:m=n
    ·subst hm
     rw [hx,if_pos rfl]
     simp [hk]
    ·rw [if_neg hm]
     cases hy:ents.findIdx? (fun x=>m.toList == x.1.toList) with
     | none=>rfl
     | some j =>
       obtain ⟨hj,hjn,_⟩:=List.findIdx?_eq_some_iff_getElem.1 hy
       have hjk:k≠j:=by
        intro e; subst e
        have a1:=(Z7 _ _).1 hjn
        have a2:=(Z7 _ _).1 hkn
        exact hm (a1.trans a2.symm)
       simp [List.getElem?_set_ne hjk]
theorem AKA {h:Hp} {b:Nat} {ents:List (ByteArray × Nat)} (n:ByteArray) (hb:h[b]? = some (.map (VF ents))):QY Tryz.prog h 67 (.mp b) (.str n) true=some (match U5 ents n with | some i => .tup [.int .i64 (i:Nat),.bool true] | none => .tup [.int .i64 0,.bool false]):=by
 have hf:=AIE ents n
 have hz:Q7 Tryz.prog 3=some (.int .i64 0):=by kernel_rfl
 unfold QY U5
 cases hx:ents.findIdx? (fun x=>n.toList == x.1.toList) with
 | none =>
   rw [hx] at hf
   simp only [ATI,hb,AUN,if_true,hf,hz]
   rfl
 | some k =>
   rw [hx] at hf
   have hk:=(List.findIdx?_eq_some_iff_getElem.1 hx).1
   simp only [ATI,hb,AUN,if_true,hf]
   have:(VF ents)[k]? = some (.str (ents[k]).1,.int .i64 ((ents[k]).2:Nat)):=by simp [VF,hk]
   rw [this,jU hk]
   rfl
def LOk (h:Hp) (L:AV) (l:List Rng):Prop:=(∃ m,L = .sl m 2 (l.map encR))∨∃ lb,L = .own lb 0 l.length∧h[lb]? = some (.live 2 (l.map encR))
theorem LOk.ext {h H:Hp} {L:AV} {l:List Rng} (hl:LOk h L l) (hx:Sm.ext h H):LOk H L l:=by
 rcases hl with ⟨m,rfl⟩ | ⟨lb,rfl,hb⟩
 ·exact .inl ⟨m,rfl⟩
 ·exact .inr ⟨lb,rfl,FD hx hb⟩
theorem LOk.at' {h:Hp} {L:AV} {l:List Rng} (hl:LOk h L l) {i:Nat} (hi:i < l.length) : ∃ q,I4 2 h L (.int .i64 (i:Nat))=some q∧DR Tryz.prog h 34 q=some (.agg (encR l[i]))∧DR Tryz.prog h 34 q=some (.agg (encR l[i])):=by
 rcases hl with ⟨m,rfl⟩ | ⟨lb,rfl,hb⟩
 ·exact ⟨_,EX hi,EU AJB VC RU hi,EU AJB VC RU hi⟩
 ·have:=RI hb hi
  exact ⟨_,JK hb hi,by rw [jG]; exact this,by rw [jG]; exact this⟩
structure EvO (h:Hp) (vb:Nat) (vars:List Vr) (l:List Rng):Prop where
 ex : ∃ mb L k tl ents,h[vb]? = some (.live k [.mp mb :: L :: tl])∧h[mb]? = some (.map (VF ents))∧(∀ n,U5 ents n=AFK n vars 0)∧LOk h L l
theorem EvO.ext {h H:Hp} {vb:Nat} {vars:List Vr} {l:List Rng} (e:EvO h vb vars l) (hx:Sm.ext h H):EvO H vb vars l:=by
 obtain ⟨mb,L,k,tl,ents,h1,h2,h3,h4⟩:=e.ex
 exact ⟨mb,L,k,tl,ents,FD hx h1,FD hx h2,h3,h4.ext hx⟩
section
variable (G:Nat→AV)
set_option maxHeartbeats 1000000 in
theorem PY (vars:List Vr) (l:List Rng) (vb:Nat) (e:Ex) (h:Hp) (he:EvO h vb vars l):PCall (En G) 92 [.ptr vb 0 0,.agg (CW e)] h (.int .i64 (if e.op=2 then plc vars e.name else -1)):=by
 refine ACalls.pure0 rfl ?_
 refine acN Tryz.func92 rfl ?_
 show awp _ _ _ _ _ (EN _ [.tmp 4] _)
 have ge:=DF h (ABlk.live 4 [CW e])
 have hx:ext h (h ++ [ABlk.live 4 [CW e]]):=(ext.rfl' h).app _
 have heX:=he.ext hx
 simp -implicitDefEqProofs only [BB,A8,A7,AZ,BA,AO,AQ,AL,BD,AY,AC,AX,AU,BH,BC,FQ,CB,BF,BQ,jB,jC,enP,bxE]
 generalize h ++ [ABlk.live 4 [CW e]]=H at ge hx heX ⊢
 generalize h.length=eb at ge ⊢
 obtain ⟨mb,L,k,tl,ents,h1,h2,h3,h4⟩:=heX.ex
 have l67:DR Tryz.prog H 67 (.ptr vb 0 0)=some (.mp mb):=by rw [DJ (by kernel_rfl) h1 (row := .mp mb :: L :: tl) rfl]; rfl
 have l9:DR Tryz.prog H 9 (.ptr eb 0 2)=some (.str e.name):=by rw [DJ ag9 ge (row:=CW e) rfl,OB]
 have l3:DR Tryz.prog H 3 (.ptr eb 0 0)=some (.int .i64 e.op):=by rw [DJ ag3 ge (row:=CW e) rfl,JC]
 have hlk:=AKA e.name h2
 rw [h3,AL6] at hlk
 refine EK (by kernel_rfl) ?_
 simp -implicitDefEqProofs only [ET,DK,CY,DL,EH,EC,C9,TJ,AO,AA,AX,BO,BG,G8,AO9,AO6,AB,BF,↓reduceIte,jA,jL,jH,jG,jB,enP,KF,AX4,EM,FZ,EW,l67,l9,hlk]
 have hr:=P9 (JB e.name) vars
 by_cases hp:plc vars e.name < 0
 ·rw [if_pos hp]
  simp -implicitDefEqProofs only [ET,zB,zD,DK,CY,D7,DL,G5,TJ,BB,A8,BR,BK,BI,A7,CV,DN,AZ,BA,BL,BX,CO,IP,AO,AQ,AL,BD,AY,AC,AA,EQ,AX,AU,BH,BM,BJ,BC,CP,DZ,G8,JJ,AB,↓reduceIte,jA,jL,jB,jC]
  have:plc vars e.name = -1:=by unfold plc at hp ⊢; omega
  exact ⟨by rw [this]; split <;> rfl,hx⟩
 ·rw [if_neg hp]
  simp -implicitDefEqProofs only [ET,zB,zD,DK,CY,D7,DL,G5,TJ,BB,A8,BI,A7,AZ,BA,BL,BX,CO,GL,AO,AQ,AL,BD,AY,AC,AA,AX,AU,BH,BM,BJ,CP,DW,BO,BU,BG,G8,JJ,AB,CX,↓reduceIte,jA,jL,jH,jB,jC,enP,FU,l3]
  refine CQ (fun hc => ?_) (fun hc => ?_)
  ·have hc:e.op=2:=by simpa using hc
   simp -implicitDefEqProofs only [BB,A8,BK,A7,CJ,CV,AZ,BA,AO,AQ,AL,BD,AY,AC,AA,AX,BJ,BC,↓reduceIte,jA,jB,jC]
   exact ⟨by rw [if_pos hc]; congr 1; omega,hx⟩
  ·have hc : ¬ e.op=2:=by simpa using hc
   simp -implicitDefEqProofs only [BB,A8,BR,BK,A7,CV,AZ,BA,AO,AQ,AL,BD,AY,AC,AA,AU,BH,BC,↓reduceIte,jB,jC]
   exact ⟨by rw [if_neg hc],hx⟩
end
def QM:List Vr→Nat→List (ByteArray × Nat)
 | [],_ => []
 | v :: r,k=>AJO (QM r (k+1)) v.name k
theorem AN5 (ents:List (ByteArray × Nat)) (n:ByteArray) (i:Nat) (m:ByteArray):U5 (AJO ents n i) m=if m=n then some i else U5 ents m :=
 (AWA (h := [.map (VF ents)]) (b:=0) n rfl).2 m
theorem SV (n:ByteArray) : ∀ (l:List Vr) (k:Nat),U5 (QM l k) n=AFK n l k
 | [],k=>rfl
 | v :: r,k=>by
   show U5 (AJO (QM r (k+1)) v.name k) n=_
   rw [AN5,SV n r (k+1)]
   have hn:JB n v=true↔n=v.name:=by unfold JB; rw [Z7]; exact ⟨fun h=>h.symm,fun h=>h.symm⟩
   simp only [AFK]
   by_cases h:n=v.name
   ·rw [if_pos h,if_pos (hn.2 h)]
   ·rw [if_neg h,if_neg (fun q=>h (hn.1 q))]
def evH (h:Hp) (p:Pr) (L:AV):Hp:=h ++ [ABlk.live 5 [DY p]] ++ [ABlk.map (VF (QM p.vars 0))] ++ [ABlk.live 2 [[AV.mp (h.length+1),L]]]
theorem SS (h:Hp) (p:Pr) (L:AV):Sm.ext h (evH h p L):=(((ext.rfl' h).app _).app _).app _
theorem ARP (h:Hp) (p:Pr) (L:AV) (l:List Rng) (hl:LOk h L l):EvO (evH h p L) (h.length+2) p.vars l:=by
 refine ⟨h.length+1,L,2,[],QM p.vars 0,?_,?_,fun n=>SV n _ _,hl.ext (SS h p L)⟩
 ·simp [evH]
 ·simp [evH]
theorem A09 (b:Nat) (m:SM) (xs:List (List AV)):JZ Tryz.prog 69 [(0,.mp b),(1,.sl m 2 xs)]=some (.agg [.mp b,.sl m 2 xs]):=by kernel_rfl
theorem A1A (b c n:Nat):JZ Tryz.prog 69 [(0,.mp b),(1,.own c 0 n)]=some (.agg [.mp b,.own c 0 n]):=by kernel_rfl
section
variable (G:Nat→AV)
theorem VQ (p:Pr) (L:AV) (hL:(∃ m xs,L = .sl m 2 xs)∨∃ b n,L = .own b 0 n) (hv:p.vars.length≤1048576) (h:Hp):ACalls (En G) 35 [.agg (DY p),L] h fun v H=>v = .ptr (h.length+2) 0 0∧H=evH h p L:=by
 refine acN Tryz.func35 rfl ?_
 show awp _ _ _ _ _ (EN _ [.tmp 4] _)
 have ge:=DF h (ABlk.live 5 [DY p])
 simp -implicitDefEqProofs only [BB,A8,A7,AZ,BA,AO,AQ,AL,BD,AY,AC,AA,AX,AU,AM6,BC,FQ,BO,BG,AM9,CB,AB,BF,↓reduceIte,jA,jH,jB,jC,enP,LU,QP]
 generalize hb0:h ++ [ABlk.live 5 [DY p]]=hb at ge ⊢
 have hbl:hb.length=h.length+1:=by rw [← hb0]; simp
 have geA : ∀ x:ABlk,(hb ++ [x])[h.length]? = some (ABlk.live 5 [DY p]):=fun x=>DC ge
 have lv : ∀ x:ABlk,DR Tryz.prog (hb ++ [x]) 22 (.ptr h.length 0 0)=some (.sl p.vm 4 (p.vars.map GH)):=fun x=>by rw [DJ VI (geA x) (row:=DY p) rfl]; rfl
 have w1:IntKind.i64.wrap ((p.vars.length:Int) - 1)=(p.vars.length:Int) - 1:=wrap_i64 (by omega) (by omega)
 simp -implicitDefEqProofs only [CE,A7,AZ,BA,AO,AQ,AL,BD,AY,AC,AA,AX,AU,BH,BC,BU,FP,AB,II,↓reduceIte,jB,jC,enP,RH,lv,List.length_map,w1]
 refine EG (fun n F H => ∃ i,n=i∧i≤p.vars.length∧F 1=L∧F 2 = .ptr h.length 0 0∧F 5 = .mp hb.length∧F 6 = .int .i64 ((i:Int) - 1)∧H=hb ++ [ABlk.map (VF (QM (p.vars.drop i) i))]) p.vars.length ⟨p.vars.length,rfl,jQ _,by simp -implicitDefEqProofs only [AA,BF,BQ,↓reduceIte,jA],by simp -implicitDefEqProofs only [AA,↓reduceIte,jA],by simp -implicitDefEqProofs only [AA,↓reduceIte,jA],by simp -implicitDefEqProofs only [AA,↓reduceIte],by rw [List.drop_length]; rfl⟩ ?_
 rintro n F H ⟨i,rfl,hi,f1,f2,f5,f6,rfl⟩
 simp -implicitDefEqProofs only [BB,A8,BI,A7,AZ,BA,AO,AQ,AL,BD,AY,AC,AA,AX,AU,BH,BJ,BU,AB,FV,↓reduceIte,jB,jC,enP,f6]
 refine CQ (fun hc => ?_) (fun hc => ?_)
 ·obtain ⟨i,rfl⟩ : ∃ j,n=j+1:=⟨n - 1,by simp at hc; omega⟩
  have hi':i < p.vars.length:=by omega
  have e1:(((i+1:Nat):Int) - 1)=(i:Nat):=by omega
  have l9 : ∀ H:Hp,DR Tryz.prog H 9 (.fptr 4 (p.vars.map GH) i 0)=some (.str p.vars[i].name):=fun H=>by rw [IC ag9 hi']; rfl
  have hmu:=(AWA (h:=hb ++ [ABlk.map (VF (QM (p.vars.drop (i+1)) (i+1)))]) (b:=hb.length) (i:=i) p.vars[i].name (DF _ _)).1
  rw [MB] at hmu
  have hd:AJO (QM (p.vars.drop (i+1)) (i+1)) p.vars[i].name i=QM (p.vars.drop i) i:=by rw [zO hi']; rfl
  rw [hd] at hmu
  simp -implicitDefEqProofs only [BB,CE,A8,BR,A7,EO,FO,AZ,BA,AO,AQ,AL,BD,AY,AC,DU,AA,AX,AU,BH,BJ,BC,BO,BU,BG,CG,AGT,AB,BZ,II,↓reduceIte,jA,jH,jB,jC,enP,VE,LU,PI,jK,f2,f5,f6,e1,lv,EX hi',l9,hmu,wrap_i64 (n:=(i:Int) - 1) (by omega) (by omega)]
  exact ⟨i,by omega,i,rfl,by omega,by trivial,by trivial,by trivial,by trivial,by trivial⟩
 ·have hz:n=0:=by simp at hc; omega
  subst hz
  have bx : ∀ H:Hp,PO H (.agg [.mp hb.length,L])=some (.ptr H.length 0 0,H ++ [ABlk.live 2 [[.mp hb.length,L]]]):=fun H=>by
   rcases hL with ⟨m,xs,rfl⟩ | ⟨b,n,rfl⟩ <;> rfl
  have bd:JZ Tryz.prog 69 [(0,.mp hb.length),(1,L)]=some (.agg [.mp hb.length,L]):=by
   rcases hL with ⟨m,xs,rfl⟩ | ⟨b,n,rfl⟩
   ·exact A09 _ _ _
   ·exact A1A _ _ _
  simp -implicitDefEqProofs only [ER,EP,BB,A8,BK,EF,A7,FC,F6,F8,CV,AZ,BA,AO,AQ,AL,BD,AY,AC,AA,AX,BJ,BC,FQ,FI,CB,AB,↓reduceIte,jA,jB,jC,enP,f1,f5,bd,bx]
  refine ⟨?_,?_⟩
  ·first | trivial | (congr 1; simp [hbl])
  ·unfold evH; rw [hb0,← hbl]; rfl
end
end Go.Proofs.YtokehnfjjmpanaaGreatDoor.Bd
