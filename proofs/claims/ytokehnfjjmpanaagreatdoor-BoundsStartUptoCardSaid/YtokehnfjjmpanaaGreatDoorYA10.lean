/- Part 10 of the proof (W0, W1, W2, W3, W4, W5, W6, W7); no condition. -/
import Derived.Test.YtokehnfjjmpanaaGreatDoorYA9
set_option linter.unusedVariables false
namespace Go.Proofs.YtokehnfjjmpanaaGreatDoor.Bd
open Bins Cov Xe Wd
open Nat renaming eq_zero_or_pos→zW
def wfR (r:Rng):Prop:=0≤r.lo∧r.lo≤r.hi∧r.hi≤65535
instance (r:Rng):Decidable (wfR r):=inferInstanceAs (Decidable (_∧_))
def JS:Rng:=⟨0,65535⟩
def knR (t f:Bool):Rng:=if t=true then ⟨1,1⟩ else if f=true then ⟨0,0⟩ else ⟨0,1⟩
def isT (r:Rng):Bool:=decide (r.lo > 0)
def isF (r:Rng):Bool:=r.hi == 0
def sgl (r:Rng):Bool:=r.lo == r.hi
def AFF (lo hi:Int):Rng:=if hi > 65535 then JS else ⟨lo,hi⟩
def AJF (a b:Rng):Rng:=if a.lo+b.lo > 65535 then ⟨a.lo+b.lo - 65536,a.hi+b.hi - 65536⟩ else AFF (a.lo+b.lo) (a.hi+b.hi)
def AHB (a b:Rng):Rng:=if 0≤a.lo - b.hi then ⟨a.lo - b.hi,a.hi - b.lo⟩ else if a.hi - b.lo < 0 then ⟨a.lo - b.hi+65536,a.hi - b.lo+65536⟩ else JS
def AGM (a:Rng):Rng:=if isF a=true then ⟨0,0⟩ else if isT a=true then ⟨65536 - a.hi,65536 - a.lo⟩ else JS
def ATW (a b:Rng):Rng:=AFF (a.lo * b.lo) (a.hi * b.hi)
def blN (n:Nat):Nat:=if n=0 then 0 else blN (n / 2)+1
theorem WA:blN 0=0:=by rw [blN]; simp
theorem WB {n:Nat} (h:0 < n):blN n=blN (n / 2)+1:=by rw [blN]; rw [if_neg (by omega)]
def AEH (n:Int):Int:=((2 ^ blN n.toNat:Nat):Int) - 1
def AP9 (a b:Int):Int:=((a.toNat &&& b.toNat:Nat):Int)
def orI (a b:Int):Int:=((a.toNat ||| b.toNat:Nat):Int)
def AN3 (a b:Int):Int:=((a.toNat ^^^ b.toNat:Nat):Int)
def W9 (op:Int) (a b:Rng):Rng :=
 if op=10 then if (sgl a && sgl b)=true then ⟨AP9 a.lo b.lo,AP9 a.lo b.lo⟩ else ⟨0,min a.hi b.hi⟩
 else if op=11 then if (sgl a && sgl b)=true then ⟨orI a.lo b.lo,orI a.lo b.lo⟩ else ⟨max a.lo b.lo,AEH (max a.hi b.hi)⟩
 else if (sgl a && sgl b)=true then ⟨AN3 a.lo b.lo,AN3 a.lo b.lo⟩ else ⟨0,AEH (max a.hi b.hi)⟩
def ADX (a b:Rng):Rng:=if (isF a || decide (b.lo≥16))=true then ⟨0,0⟩ else if sgl b=true then AFF (a.lo * 2 ^ b.lo.toNat) (a.hi * 2 ^ b.lo.toNat) else JS
def X7 (n k:Int):Int:=if k≥16 then 0 else n / 2 ^ k.toNat
def YY (a b:Rng):Bool:=sgl a && sgl b && (a.lo == b.lo)
def dfB (a b:Rng):Bool:=decide (a.hi < b.lo) || decide (b.hi < a.lo)
def MV (op:Int) (a b:Rng):Rng :=
 if op=7 then AJF a b else if op=8 then AHB a b else if op=9 then ATW a b else if op=10∨op=11∨op=12 then W9 op a b
 else if op=13 then ADX a b else if op=14 then ⟨X7 a.lo b.hi,X7 a.hi b.lo⟩
 else if op=15 then knR (YY a b) (dfB a b) else if op=16 then knR (dfB a b) (YY a b)
 else if op=17 then knR (decide (a.hi < b.lo)) (decide (a.lo≥b.hi)) else if op=18 then knR (decide (a.hi≤b.lo)) (decide (a.lo > b.hi))
 else if op=19 then knR (isT a && isT b) (isF a || isF b) else if op=20 then knR (isT a || isT b) (isF a && isF b)
 else knR (isF a || isT b) (isT a && isF b)
def AEP (a lo hi:Rng):Bool:=decide (a.lo≥lo.hi) && decide (a.hi≤hi.lo)
def AMF (a lo hi:Rng):Bool:=decide (a.hi≥lo.lo) && decide (a.lo≤hi.hi) && decide (lo.lo≤hi.hi)
def UA (a:Rng):Bool→List Rng→Rng
 | imp,lo :: hi :: r=>if AEP a lo hi=true then ⟨1,1⟩ else UA a (if AMF a lo hi=true then false else imp) r
 | imp,_=>knR false imp
def onI (n:Int):Int:=(JX n.toNat 16:Nat)
def AJR (a:Rng):Rng:=if sgl a=true then ⟨onI a.lo,onI a.lo⟩ else ⟨min a.lo 1,(blN a.hi.toNat:Nat)⟩
def AHF (c a b:Rng):Rng:=if isT c=true then a else if isF c=true then b else ⟨min a.lo b.lo,max a.hi b.hi⟩
def opR (op:Int) (vs:List Rng):Rng :=
 if op=4 then knR (isF (vs.getD 0 JS)) (isT (vs.getD 0 JS)) else if op=5 then ⟨65535 - (vs.getD 0 JS).hi,65535 - (vs.getD 0 JS).lo⟩
 else if op=6 then AGM (vs.getD 0 JS) else if op=25 then AJR (vs.getD 0 JS) else if op=22 then AHF (vs.getD 0 JS) (vs.getD 1 JS) (vs.getD 2 JS)
 else if op=23 then UA (vs.getD 0 JS) true (vs.drop 1) else MV op (vs.getD 0 JS) (vs.getD 1 JS)
def AN9 (p:List Vr) (l:List Rng) (name:ByteArray):Rng:=if 0≤plc p name then l.getD (plc p name).toNat JS else JS
def evO (p:List Vr) (l:List Rng) (op n:Int) (name:ByteArray) (vs:List Rng):Rng :=
 if op=1 then ⟨n,n⟩ else if op=2 then AN9 p l name else if op=3∨op=24 then JS else opR op vs
mutual
def evS (p:List Vr) (l:List Rng):Ex→Rng
 | .mk op n name _ args=>evO p l op n name (QM p l args)
def QM (p:List Vr) (l:List Rng):List Ex→List Rng
 | [] => []
 | e :: es=>evS p l e :: QM p l es
end
theorem AMV (p:List Vr) (l:List Rng) (e:Ex):evS p l e=evO p l e.op e.n e.name (QM p l e.args):=by cases e; simp [evS,Ex.op,Ex.n,Ex.name,Ex.args]
theorem NY (p:List Vr) (l:List Rng) : ∀ xs:List Ex,QM p l xs=xs.map (evS p l)
 | []=>by simp [QM]
 | e :: es=>by simp [QM,NY p l es]
theorem S9 (p:List Vr) (l:List Rng) (xs:List Ex):(QM p l xs).length=xs.length:=by rw [NY,List.length_map]
theorem UT:wfR JS:=by decide
theorem UI (t f:Bool):wfR (knR t f):=by cases t <;> cases f <;> decide
theorem AF6 {lo hi:Int} (h0:0≤lo) (h:lo≤hi):wfR (AFF lo hi):=by
 unfold AFF
 split
 ·exact UT
 ·exact ⟨h0,h,by show hi≤65535; omega⟩
theorem ARB {a b:Rng} (ha:wfR a) (hb:wfR b):wfR (AJF a b):=by
 obtain ⟨a0,a1,a2⟩:=ha
 obtain ⟨b0,b1,b2⟩:=hb
 unfold AJF
 split
 ·refine ⟨?_,?_,?_⟩ <;> simp only <;> omega
 ·exact AF6 (by omega) (by omega)
theorem ARH {a b:Rng} (ha:wfR a) (hb:wfR b):wfR (AHB a b):=by
 obtain ⟨a0,a1,a2⟩:=ha
 obtain ⟨b0,b1,b2⟩:=hb
 unfold AHB
 split
 ·refine ⟨?_,?_,?_⟩ <;> simp only <;> omega
 split
 ·refine ⟨?_,?_,?_⟩ <;> simp only <;> omega
 ·exact UT
theorem ARD {a:Rng} (ha:wfR a):wfR (AGM a):=by
 obtain ⟨a0,a1,a2⟩:=ha
 unfold AGM isF isT
 split
 ·decide
 split
 ·rename_i h; simp at h
  refine ⟨?_,?_,?_⟩ <;> simp only <;> omega
 ·exact UT
theorem ARF {a b:Rng} (ha:wfR a) (hb:wfR b):wfR (ATW a b):=by
 obtain ⟨a0,a1,a2⟩:=ha
 obtain ⟨b0,b1,b2⟩:=hb
 exact AF6 (Int.mul_nonneg a0 b0) (Int.mul_le_mul a1 b1 b0 (by omega))
theorem AC3 : ∀ (k n:Nat),n < 2 ^ k↔blN n≤k:=by
 intro k
 induction k with
 | zero =>
   intro n
   rcases zW n with h | h
   ·subst h; rw [WA]; decide
   ·rw [WB h]; simp; omega
 | succ k ih =>
   intro n
   rcases zW n with h | h
   ·subst h; rw [WA]; simp; exact Nat.pos_of_ne_zero (by simp)
   ·rw [WB h,Nat.pow_succ]
    have:=ih (n / 2)
    omega
theorem AI1 {n:Nat} (h:n≤65535):blN n≤16:=(AC3 16 n).1 (by omega)
theorem ATY (n:Nat):n < 2 ^ blN n:=(AC3 _ n).2 (Nat.le_refl _)
theorem AR5 {n:Int} (h0:0≤n):n≤AEH n:=by
 have:=ATY n.toNat
 unfold AEH; omega
theorem AR4 {n:Int} (h:n≤65535):AEH n≤65535:=by
 have:=Nat.pow_le_pow_right (by decide:0 < 2) (AI1 (n:=n.toNat) (by omega))
 unfold AEH; omega
theorem YS {n:Int} (h0:0≤n) (h1:n≤65535):wfR ⟨n,n⟩:=⟨h0,Int.le_refl _,h1⟩
theorem ARJ (op:Int) {a b:Rng} (ha:wfR a) (hb:wfR b):wfR (W9 op a b):=by
 obtain ⟨a0,a1,a2⟩:=ha
 obtain ⟨b0,b1,b2⟩:=hb
 have hm0:=AR5 (n:=max a.hi b.hi) (by omega)
 have hm1:=AR4 (n:=max a.hi b.hi) (by omega)
 have x:a.lo.toNat < 2 ^ 16:=by omega
 have y:b.lo.toNat < 2 ^ 16:=by omega
 unfold W9
 split
 ·split
  ·have:=Nat.and_lt_two_pow a.lo.toNat y
   exact YS (Int.natCast_nonneg _) (by unfold AP9; omega)
  ·refine ⟨?_,?_,?_⟩ <;> simp only <;> omega
 split
 ·split
  ·have:=Nat.or_lt_two_pow x y
   exact YS (Int.natCast_nonneg _) (by unfold orI; omega)
  ·refine ⟨?_,?_,?_⟩ <;> simp only <;> omega
 split
 ·have:=Nat.xor_lt_two_pow x y
  exact YS (Int.natCast_nonneg _) (by unfold AN3; omega)
 ·refine ⟨?_,?_,?_⟩ <;> simp only <;> omega
theorem U1 (k:Nat):(0:Int) < 2 ^ k:=Int.pow_pos (by decide)
theorem ARC {a b:Rng} (ha:wfR a):wfR (ADX a b):=by
 obtain ⟨a0,a1,a2⟩:=ha
 have hp:=U1 b.lo.toNat
 unfold ADX
 split
 ·decide
 split
 ·exact AF6 (Int.mul_nonneg a0 (by omega)) (Int.mul_le_mul_of_nonneg_right a1 (by omega))
 ·exact UT
theorem ARX {n:Int} (h:0≤n) (k:Int):0≤X7 n k:=by
 unfold X7
 split
 ·decide
 ·exact Int.ediv_nonneg h (by have:=U1 k.toNat; omega)
theorem ARY {n:Int} (h:0≤n) (k:Int):X7 n k≤n:=by
 unfold X7
 split
 ·exact h
 ·exact Int.ediv_le_self _ h
theorem ALO {m n j k:Int} (h0:0≤m) (h:m≤n) (hj:j≤k):X7 m k≤X7 n j:=by
 unfold X7
 split
 ·split
  ·decide
  ·exact Int.ediv_nonneg (by omega) (by have:=U1 j.toNat; omega)
 ·rw [if_neg (by omega)]
  have hp:=U1 j.toNat
  have hd:((2:Int) ^ k.toNat)=2 ^ j.toNat * 2 ^ (k.toNat - j.toNat):=by rw [← Int.pow_add]; congr 1; omega
  rw [hd,Int.ediv_ediv_of_nonneg (by omega) |>.symm]
  have h2:m / 2 ^ j.toNat≤n / 2 ^ j.toNat:=Int.ediv_le_ediv hp h
  have h3:0≤m / 2 ^ j.toNat:=Int.ediv_nonneg h0 (by omega)
  exact Int.le_trans (Int.ediv_le_self _ h3) h2
theorem AK5 (a:Rng) : ∀ (imp:Bool) (l:List Rng),wfR (UA a imp l)
 | imp,[]=>UI _ _
 | imp,[_]=>UI _ _
 | imp,lo :: hi :: r=>by
   unfold UA
   split
   ·decide
   ·exact AK5 a _ r
theorem ARK (op:Int) {a b:Rng} (ha:wfR a) (hb:wfR b):wfR (MV op a b):=by
 unfold MV
 by_cases h:op=7
 ·rw [if_pos h]; exact ARB ha hb
 rw [if_neg h]; clear h
 by_cases h:op=8
 ·rw [if_pos h]; exact ARH ha hb
 rw [if_neg h]; clear h
 by_cases h:op=9
 ·rw [if_pos h]; exact ARF ha hb
 rw [if_neg h]; clear h
 by_cases h:op=10∨op=11∨op=12
 ·rw [if_pos h]; exact ARJ op ha hb
 rw [if_neg h]; clear h
 by_cases h:op=13
 ·rw [if_pos h]; exact ARC ha
 rw [if_neg h]; clear h
 by_cases h:op=14
 ·rw [if_pos h]
  obtain ⟨a0,a1,a2⟩:=ha
  obtain ⟨b0,b1,b2⟩:=hb
  exact ⟨ARX a0 _,ALO a0 a1 b1,Int.le_trans (ARY (by omega) _) a2⟩
 rw [if_neg h]; clear h
 by_cases h:op=15
 ·rw [if_pos h]; exact UI _ _
 rw [if_neg h]; clear h
 by_cases h:op=16
 ·rw [if_pos h]; exact UI _ _
 rw [if_neg h]; clear h
 by_cases h:op=17
 ·rw [if_pos h]; exact UI _ _
 rw [if_neg h]; clear h
 by_cases h:op=18
 ·rw [if_pos h]; exact UI _ _
 rw [if_neg h]; clear h
 by_cases h:op=19
 ·rw [if_pos h]; exact UI _ _
 rw [if_neg h]; clear h
 by_cases h:op=20
 ·rw [if_pos h]; exact UI _ _
 rw [if_neg h]; exact UI _ _
theorem AS6 (n:Int):0≤onI n∧onI n≤16:=by
 have:=OT n.toNat 16
 unfold onI; omega
theorem AN6 {a:Rng} (ha:wfR a):wfR (AJR a):=by
 obtain ⟨a0,a1,a2⟩:=ha
 unfold AJR
 by_cases h:sgl a=true
 ·rw [if_pos h]
  have:=AS6 a.lo
  exact YS (by omega) (by omega)
 rw [if_neg h]
 have h16:=AI1 (n:=a.hi.toNat) (by omega)
 refine ⟨?_,?_,?_⟩ <;> simp only
 ·omega
 ·by_cases hz:a.hi=0
  ·omega
  ·rw [WB (by omega)]; omega
 ·omega
theorem ARI (c:Rng) {a b:Rng} (ha:wfR a) (hb:wfR b):wfR (AHF c a b):=by
 obtain ⟨a0,a1,a2⟩:=ha
 obtain ⟨b0,b1,b2⟩:=hb
 unfold AHF
 by_cases h:isT c=true
 ·rw [if_pos h]; exact ⟨a0,a1,a2⟩
 rw [if_neg h]
 by_cases h:isF c=true
 ·rw [if_pos h]; exact ⟨b0,b1,b2⟩
 rw [if_neg h]
 refine ⟨?_,?_,?_⟩ <;> simp only <;> omega
theorem TE {vs:List Rng} (hv : ∀ x∈vs,wfR x) (k:Nat):wfR (vs.getD k JS):=by
 rw [List.getD_eq_getElem?_getD]
 rcases Nat.lt_or_ge k vs.length with h | h
 ·rw [List.getElem?_eq_getElem h]; exact hv _ (List.getElem_mem h)
 ·rw [List.getElem?_eq_none h]; exact UT
theorem AS5 (op:Int) {vs:List Rng} (hv : ∀ x∈vs,wfR x):wfR (opR op vs):=by
 have h0:=TE hv 0
 have h1:=TE hv 1
 have h2:=TE hv 2
 unfold opR
 by_cases h:op=4
 ·rw [if_pos h]; exact UI _ _
 rw [if_neg h]; clear h
 by_cases h:op=5
 ·rw [if_pos h]
  obtain ⟨a0,a1,a2⟩:=h0
  refine ⟨?_,?_,?_⟩ <;> simp only <;> omega
 rw [if_neg h]; clear h
 by_cases h:op=6
 ·rw [if_pos h]; exact ARD h0
 rw [if_neg h]; clear h
 by_cases h:op=25
 ·rw [if_pos h]; exact AN6 h0
 rw [if_neg h]; clear h
 by_cases h:op=22
 ·rw [if_pos h]; exact ARI _ h1 h2
 rw [if_neg h]; clear h
 by_cases h:op=23
 ·rw [if_pos h]; exact AK5 _ _ _
 rw [if_neg h]; exact ARK op h0 h1
theorem AQL (p:List Vr) {l:List Rng} (hl : ∀ r∈l,wfR r) (e:Ex):(∀ x∈pre e,IZ x=0)→wfR (evS p l e):=by
 induction e using Ex.induct with | h e ih => ?_
 intro hval
 have hnode:=hval e (by rw [pre_eq]; simp)
 rw [AMV]
 unfold evO
 by_cases h1:e.op=1
 ·rw [if_pos h1]
  have:=(AED hnode).1 h1
  exact YS this.1 (by omega)
 rw [if_neg h1]
 by_cases h2:e.op=2
 ·rw [if_pos h2]
  unfold AN9
  by_cases h:0≤plc p e.name
  ·rw [if_pos h]; exact TE hl _
  ·rw [if_neg h]; exact UT
 rw [if_neg h2]
 by_cases h3:e.op=3∨e.op=24
 ·rw [if_pos h3]; exact UT
 rw [if_neg h3]
 refine AS5 _ fun x hx => ?_
 rw [NY] at hx
 obtain ⟨a,ha,rfl⟩:=List.mem_map.1 hx
 exact ih a ha fun x hx=>hval x (by rw [pre_eq]; exact List.mem_cons_of_mem _ (QW ha x hx))
end Go.Proofs.YtokehnfjjmpanaaGreatDoor.Bd
set_option linter.unusedSimpArgs false
set_option maxRecDepth 8000
namespace Go.Proofs.YtokehnfjjmpanaaGreatDoor.Bd
open Sm Bins Cov Xe Wd Go.RowKit
open Bool renaming not_false→jC
open Int renaming toNat_natCast→zM,eq_ofNat_of_zero_le→zL
open List renaming drop_eq_nil_of_le→zZ,map_cons→jF,map_nil→jD,append_nil→jE,getElem?_cons_zero→zG,getElem?_cons_succ→zK,getElem?_map→zB,getElem?_eq_getElem→jV,drop_eq_getElem_cons→qH
open Nat renaming le_refl→jL,le_of_ble_eq_true→jH,reduceEqDiff→jA,add_zero→jI,zero_add→jG,reduceAdd→jK,add_assoc→qK
open Option renaming getD_some→jB,getD_none→jJ
def zR:List AV := [.int .i64 0,.int .i64 0]
theorem OD (h:Hp):JF Tryz.prog h 34=some (.ptr h.length 0 0,h ++ [ABlk.live 2 [zR]]):=AW4 h
theorem OC (a b:Int):JL Tryz.prog 34 [(0,.int .i64 a),(1,.int .i64 b)]=some (.agg (encR ⟨a,b⟩)):=by kernel_rfl
theorem AQ1 (b:Int):JL Tryz.prog 34 [(1,.int .i64 b)]=some (.agg (encR ⟨0,b⟩)):=by kernel_rfl
theorem ART {H:Hp} {b:Nat} {row:List AV} (r:Rng) (hb:H[b]? = some (.live 2 [row])) (hr:row.length=2):FT Tryz.prog H 34 (.ptr b 0 0) (.agg (encR r))=some (H.set b (.live 2 [encR r])):=by
 rw [XP (cs:=encR r) (Q8 rfl) SA hb (by rw [hr]; exact jL 2)]
 have:splice row 0 (encR r)=encR r:=by unfold splice; rw [List.take_zero,zZ (by rw [hr]; exact jL 2)]; simp
 rw [this]
theorem IW {h:Hp} {b:Nat} {r:Rng} (hb:h[b]? = some (.live 2 [encR r])):DI Tryz.prog h 34 (.ptr b 0 0)=some (.agg (encR r)):=by
 rw [GV AFW SA hb rfl (jL 2)]; rfl
theorem GU {h:Hp} {b:Nat} {r:Rng} (hb:h[b]? = some (.live 2 [encR r])):DI Tryz.prog h 3 (.ptr b 0 0)=some (.int .i64 r.lo):=by
 rw [DC ag3 hb (row:=encR r) rfl]; rfl
theorem H6 {h:Hp} {b:Nat} {r:Rng} (hb:h[b]? = some (.live 2 [encR r])):DI Tryz.prog h 3 (.ptr b 0 1)=some (.int .i64 r.hi):=by
 rw [DC ag3 hb (row:=encR r) rfl]; rfl
theorem AWE {c:Nat} {R:AV→Hp→Prop} {F:Fr} {H:Hp} {b:Nat} {x:ABlk} {r:Rng} (hF:F c = .ptr b 0 0) (hb:H[b]? = some x) (hR:R (.agg (encR r)) (H.set b (.live 2 [encR r]))):EH Tryz.prog [.cell c 34] R .ret F (H.set b (.live 2 [encR r])):=by
 rw [AG6 _ _ _ _ _ _ _ _ _ hF]
 exact ⟨_,IW (G5 hb),hR⟩
structure Z0 (h H:Hp) (bz:Nat):Prop where
 gz:H[bz]? = some (ABlk.live 2 [zR])
 hx:Sm.ext h H
 hl:h.length≤bz
structure Z1 (h H:Hp) (ba bz:Nat) (a:Rng):Prop extends Z0 h H bz where
 ga:H[ba]? = some (ABlk.live 2 [encR a])
structure Z2 (h H:Hp) (ba bb bz:Nat) (a b:Rng):Prop extends Z1 h H ba bz a where
 gb:H[bb]? = some (ABlk.live 2 [encR b])
theorem Z0.mk' (h:Hp):Z0 h (h ++ [ABlk.live 2 [zR]]) h.length:=⟨C9 _ _,(ext.rfl' h).app _,jL _⟩
theorem Z1.mk' (h:Hp) (a:Rng):Z1 h (h ++ [ABlk.live 2 [encR a]] ++ [ABlk.live 2 [zR]]) h.length (h ++ [ABlk.live 2 [encR a]]).length a:=⟨⟨C9 _ _,((ext.rfl' h).app _).app _,by simp⟩,CX (C9 _ _)⟩
theorem Z2.mk' (h:Hp) (a b:Rng):Z2 h (h ++ [ABlk.live 2 [encR a]] ++ [ABlk.live 2 [encR b]] ++ [ABlk.live 2 [zR]]) h.length (h ++ [ABlk.live 2 [encR a]]).length (h ++ [ABlk.live 2 [encR a]] ++ [ABlk.live 2 [encR b]]).length a b :=
 ⟨⟨⟨C9 _ _,(((ext.rfl' h).app _).app _).app _,by simp⟩,CX (CX (C9 _ _))⟩,CX (C9 _ _)⟩
theorem Z0.out {h H:Hp} {bz:Nat} (z:Z0 h H bz) {c:Nat} {F:Fr} {r r':Rng} (hF:F c = .ptr bz 0 0) (he:r=r'):EH Tryz.prog [.cell c 34] (fun v H=>v = .agg (encR r')∧Sm.ext h H) .ret F (H.set bz (.live 2 [encR r])) :=
 AWE hF z.gz ⟨by rw [he],(z.hx.set z.hl _)⟩
theorem Z0.st {h H:Hp} {bz:Nat} (z:Z0 h H bz) (r:Rng):FT Tryz.prog H 34 (.ptr bz 0 0) (.agg (encR r))=some (H.set bz (.live 2 [encR r])):=ART r z.gz rfl
section
variable (G:Nat→AV)
theorem KO (a:Rng) (h:Hp):PCall (En G) 52 [.agg (encR a)] h (.bool (isT a)):=by
 refine ACalls.pure0 rfl ?_
 refine acN Tryz.func52 rfl ?_
 show awp _ _ _ _ _ (EH _ [.tmp 2] _)
 simp -implicitDefEqProofs only [BB,A8,BK,A7,CW,AZ,BA,AC,AQ,AO,BD,AX,AL,AA,AY,AU,BH,BM,BC,FN,BN,BR,BG,BV,AB,E8,BF,↓reduceIte,jA,jI,jB,jC,enP,GK,bxR,GU (C9 h (ABlk.live 2 [encR a]))]
 exact ⟨rfl,_,rfl⟩
theorem JE (a:Rng) (h:Hp):PCall (En G) 53 [.agg (encR a)] h (.bool (isF a)):=by
 refine ACalls.pure0 rfl ?_
 refine acN Tryz.func53 rfl ?_
 show awp _ _ _ _ _ (EH _ [.tmp 2] _)
 simp -implicitDefEqProofs only [BB,A8,BK,A7,CW,AZ,BA,AC,AQ,AO,BD,AX,AL,AA,AY,AU,BH,BM,BC,FN,BN,BR,BG,BV,AB,DW,BF,↓reduceIte,jA,jG,jB,jC,enP,GZ,bxR,H6 (C9 h (ABlk.live 2 [encR a]))]
 exact ⟨rfl,_,rfl⟩
theorem KL (a:Rng) (h:Hp):PCall (En G) 138 [.agg (encR a)] h (.bool (sgl a)):=by
 refine ACalls.pure0 rfl ?_
 refine acN Tryz.func138 rfl ?_
 show awp _ _ _ _ _ (EH _ [.tmp 2] _)
 simp -implicitDefEqProofs only [BB,A8,BK,A7,CW,AZ,BA,AC,AQ,AO,BD,AX,AL,AA,AY,AU,BM,BC,FN,BN,BR,BG,BV,AB,DW,BF,↓reduceIte,jA,jI,jG,jB,jC,enP,GK,GZ,bxR,GU (C9 h (ABlk.live 2 [encR a])),H6 (C9 h (ABlk.live 2 [encR a]))]
 exact ⟨rfl,_,rfl⟩
theorem NR (n:Int) (h:Hp):PCall (En G) 30 [.int .i64 n] h (.agg (encR ⟨n,n⟩)):=by
 refine MG 2 (fun n H=>rfl) ?_
 refine acN Tryz.func30 rfl ?_
 show awp _ _ _ _ _ (EH _ [.cell 2 34] _)
 have z:=Z0.mk' h
 simp -implicitDefEqProofs only [EU,EN,BB,A8,BK,A7,AZ,BA,AC,AQ,AO,BD,AX,AL,DV,AA,AY,BI,EX,FO,CY,BV,AB,BZ,BF,↓reduceIte,jA,jB,jC,enP,jJ,OD,OC,z.st]
 exact z.out (by simp -implicitDefEqProofs only [AA,↓reduceIte,jA]) rfl
theorem LW (h:Hp):PCall (En G) 48 [] h (.agg (encR JS)):=by
 refine MG 2 (fun n H=>rfl) ?_
 refine acN Tryz.func48 rfl ?_
 show awp _ _ _ _ _ (EH _ [.cell 0 34] _)
 have z:=Z0.mk' h
 simp -implicitDefEqProofs only [EU,EN,BB,A8,BK,A7,AZ,BA,AC,AQ,AO,BD,AX,AL,DV,AA,AY,AU,BH,EX,FO,CY,BV,AB,BZ,↓reduceIte,jA,jB,jC,enP,jJ,OD,OC,z.st]
 exact z.out (by simp -implicitDefEqProofs only [AA,↓reduceIte,jA]) rfl
theorem ADJ (h:Hp):PCall (En G) 135 [] h (.agg (encR ⟨1,1⟩)):=by
 refine MG 2 (fun n H=>rfl) ?_
 refine acN Tryz.func135 rfl ?_
 show awp _ _ _ _ _ (EH _ [.cell 0 34] _)
 have z:=Z0.mk' h
 simp -implicitDefEqProofs only [BB,A8,A7,AZ,BA,AC,AQ,AO,BD,AX,AL,AU,BO,BH,EX,BX,BP,BV,jF,jD,jE,jB,jC,enP,OD]
 refine (NR G 1 _).use ?_
 simp -implicitDefEqProofs only [BK,A7,AZ,BA,AC,AQ,AO,BD,AX,AL,DV,AA,AY,CY,BZ,↓reduceIte,jA,jC,enP,jJ,z.st]
 exact z.out (by simp -implicitDefEqProofs only [AA,↓reduceIte,jA]) rfl
theorem YK (h:Hp):PCall (En G) 136 [] h (.agg (encR ⟨0,0⟩)):=by
 refine MG 2 (fun n H=>rfl) ?_
 refine acN Tryz.func136 rfl ?_
 show awp _ _ _ _ _ (EH _ [.cell 0 34] _)
 have z:=Z0.mk' h
 simp -implicitDefEqProofs only [BB,A8,A7,AZ,BA,AC,AQ,AO,BD,AX,AL,AU,BO,BH,EX,BX,BP,BV,jF,jD,jE,jB,jC,enP,OD]
 refine (NR G 0 _).use ?_
 simp -implicitDefEqProofs only [BK,A7,AZ,BA,AC,AQ,AO,BD,AX,AL,DV,AA,AY,CY,BZ,↓reduceIte,jA,jC,enP,jJ,z.st]
 exact z.out (by simp -implicitDefEqProofs only [AA,↓reduceIte,jA]) rfl
theorem AJP (h:Hp):PCall (En G) 137 [] h (.agg (encR ⟨0,1⟩)):=by
 refine MG 2 (fun n H=>rfl) ?_
 refine acN Tryz.func137 rfl ?_
 show awp _ _ _ _ _ (EH _ [.cell 0 34] _)
 have z:=Z0.mk' h
 simp -implicitDefEqProofs only [EU,EN,BB,A8,BK,A7,AZ,BA,AC,AQ,AO,BD,AX,AL,DV,AA,AY,AU,BH,EX,FO,CY,BV,AB,BZ,↓reduceIte,jA,jB,jC,enP,jJ,OD,OC,z.st]
 exact z.out (by simp -implicitDefEqProofs only [AA,↓reduceIte,jA]) rfl
theorem JI (t f:Bool) (h:Hp):PCall (En G) 93 [.bool t,.bool f] h (.agg (encR (knR t f))):=by
 refine MG 2 (fun n H=>rfl) ?_
 refine acN Tryz.func93 rfl ?_
 show awp _ _ _ _ _ (EH _ [.cell 4 34] _)
 have z:=Z0.mk' h
 simp -implicitDefEqProofs only [BB,CJ,A8,BJ,A7,AZ,BA,AC,AQ,AO,BD,AX,AL,AA,AY,BI,BC,EX,BV,BF,↓reduceIte,jA,jB,jC,enP,OD]
 generalize h ++ [ABlk.live 2 [zR]]=H at z ⊢
 generalize h.length=bz at z ⊢
 cases t
 ·simp -implicitDefEqProofs only [BB,A8,BJ,A7,EC,AZ,BA,AC,AQ,AO,BD,AX,AL,AA,AY,BI,BC,BF,CE,↓reduceIte,jA,jB,jC]
  cases f
  ·simp -implicitDefEqProofs only [BB,A8,BQ,A7,EO,EC,AZ,AC,AQ,AO,BD,AX,BO,BX,BP,jD,jE,jB,jC]
   refine (AJP G _).use ?_
   simp -implicitDefEqProofs only [BK,A7,AZ,BA,AC,AQ,AO,BD,AX,AL,DV,AA,AY,CY,BZ,↓reduceIte,jA,jC,enP,jJ,z.st]
   exact z.out (by simp -implicitDefEqProofs only [AA,↓reduceIte,jA]) rfl
  ·simp -implicitDefEqProofs only [BB,A8,DY,AZ,AC,AQ,AO,BD,AX,BO,BX,BP,jD,jE,jB,jC]
   refine (YK G _).use ?_
   simp -implicitDefEqProofs only [BK,A7,CQ,D5,AZ,BA,AC,AQ,AO,BD,AX,AL,DV,AA,AY,CY,BZ,↓reduceIte,jA,jC,enP,jJ,z.st]
   exact z.out (by simp -implicitDefEqProofs only [AA,↓reduceIte,jA]) rfl
 ·simp -implicitDefEqProofs only [BB,A8,DY,AZ,AC,AQ,AO,BD,AX,BO,BX,BP,jD,jE,jB,jC]
  refine (ADJ G _).use ?_
  simp -implicitDefEqProofs only [BK,A7,CQ,D5,AZ,BA,AC,AQ,AO,BD,AX,AL,DV,AA,AY,CY,BZ,↓reduceIte,jA,jC,enP,jJ,z.st]
  exact z.out (by simp -implicitDefEqProofs only [AA,↓reduceIte,jA]) (by cases f <;> rfl)
theorem Z8 (lo hi:Int) (h:Hp):PCall (En G) 143 [.int .i64 lo,.int .i64 hi] h (.agg (encR (AFF lo hi))):=by
 refine MG 2 (fun n H=>rfl) ?_
 refine acN Tryz.func143 rfl ?_
 show awp _ _ _ _ _ (EH _ [.cell 4 34] _)
 have z:=Z0.mk' h
 simp -implicitDefEqProofs only [BB,A8,BJ,A7,AZ,BA,AC,AQ,AO,BD,AX,AL,AA,AY,AU,BH,BI,EX,BR,BV,AB,E8,BF,CE,↓reduceIte,jA,jB,jC,enP,OD]
 generalize h ++ [ABlk.live 2 [zR]]=H at z ⊢
 generalize h.length=bz at z ⊢
 refine CS (fun hc => ?_) (fun hc => ?_)
 ·have hc:hi > 65535:=by simpa using hc
  simp -implicitDefEqProofs only [BB,A8,AZ,AC,AQ,AO,BD,AX,BO,BX,BP,jD,jE,jB,jC]
  refine (LW G _).use ?_
  simp -implicitDefEqProofs only [BK,A7,CQ,AZ,BA,AC,AQ,AO,BD,AX,AL,DV,AA,AY,CY,BZ,↓reduceIte,jA,jC,enP,jJ,z.st]
  exact z.out (by simp -implicitDefEqProofs only [AA,↓reduceIte,jA]) (by unfold AFF; rw [if_pos hc])
 ·have hc : ¬ hi > 65535:=by simpa using hc
  simp -implicitDefEqProofs only [EU,EN,BB,A8,BQ,BK,A7,AZ,BA,AC,AQ,AO,BD,AX,AL,DV,AA,AY,BI,FO,CY,AB,BZ,BF,CE,↓reduceIte,jA,jB,jC,enP,jJ,OC,z.st]
  exact z.out (by simp -implicitDefEqProofs only [AA,↓reduceIte,jA]) (by unfold AFF; rw [if_neg hc])
theorem AL0 (a:Rng) (ha:wfR a) (h:Hp):PCall (En G) 94 [.agg (encR a)] h (.agg (encR (AGM a))):=by
 obtain ⟨a0,a1,a2⟩:=ha
 refine MG 2 (fun n H=>rfl) ?_
 refine acN Tryz.func94 rfl ?_
 show awp _ _ _ _ _ (EH _ [.cell 2 34] _)
 have z:=Z1.mk' h a
 simp -implicitDefEqProofs only [BB,CJ,A8,A7,AZ,BA,AC,AQ,AO,BD,AX,AL,AA,AY,EX,FN,BN,BV,BF,↓reduceIte,jA,jB,jC,enP,bxR,OD]
 generalize h ++ [ABlk.live 2 [encR a]] ++ [ABlk.live 2 [zR]]=H at z ⊢
 generalize (h ++ [ABlk.live 2 [encR a]]).length=bz at z ⊢
 generalize h.length=ba at z ⊢
 simp -implicitDefEqProofs only [AZ,AC,AQ,AO,BD,AX,AL,AA,AY,BO,BX,BP,AB,jF,jD,jE,↓reduceIte,jB,jC,IW z.ga]
 refine (JE G a _).use ?_
 simp -implicitDefEqProofs only [BJ,A7,AZ,BA,AC,AQ,AO,BD,AX,AL,AA,AY,BC,↓reduceIte,jB,jC]
 refine CS (fun hc => ?_) (fun hc => ?_)
 ·simp -implicitDefEqProofs only [BB,A8,AZ,AC,AQ,AO,BD,AX,BO,BX,BP,jD,jE,jB,jC]
  refine (YK G _).use ?_
  simp -implicitDefEqProofs only [BK,A7,CQ,D5,AZ,BA,AC,AQ,AO,BD,AX,AL,DV,AA,AY,CY,BZ,↓reduceIte,jA,jC,enP,jJ,z.st]
  exact z.out (by simp -implicitDefEqProofs only [AA,↓reduceIte,jA]) (by unfold AGM; rw [if_pos hc])
 simp -implicitDefEqProofs only [BB,A8,AZ,AC,AQ,AO,BD,AX,AL,AA,AY,BO,BN,BX,BP,AB,jF,jD,jE,↓reduceIte,jA,jB,jC,enP,IW z.ga]
 refine (KO G a _).use ?_
 simp -implicitDefEqProofs only [BJ,A7,AZ,BA,AC,AQ,AO,BD,AX,AL,AA,AY,BC,↓reduceIte,jB,jC]
 refine CS (fun hd => ?_) (fun hd => ?_)
 ·simp -implicitDefEqProofs only [EU,EN,BB,A8,BK,A7,CQ,D5,AZ,BA,AC,AQ,AO,BD,AX,AL,DV,AA,AY,AU,BH,FO,BN,CY,BR,BG,AB,BZ,JJ,↓reduceIte,jA,jI,jG,jB,jC,enP,GK,GZ,jJ,GU z.ga,H6 z.ga,OC,z.st,wrap_i64 (n:=65536 - a.hi) (by omega) (by omega),wrap_i64 (n:=65536 - a.lo) (by omega) (by omega)]
  exact z.out (by simp -implicitDefEqProofs only [AA,↓reduceIte,jA]) (by unfold AGM; rw [hc,hd]; rfl)
 ·simp -implicitDefEqProofs only [BB,A8,BQ,A7,EO,AZ,AC,AQ,AO,BD,AX,BO,BX,BP,jD,jE,jB,jC]
  refine (LW G _).use ?_
  simp -implicitDefEqProofs only [BK,A7,AZ,BA,AC,AQ,AO,BD,AX,AL,DV,AA,AY,CY,BZ,↓reduceIte,jA,jC,enP,jJ,z.st]
  exact z.out (by simp -implicitDefEqProofs only [AA,↓reduceIte,jA]) (by unfold AGM; rw [hc,hd]; rfl)
theorem ALG (a b:Rng) (ha:wfR a) (hb:wfR b) (h:Hp):PCall (En G) 141 [.agg (encR a),.agg (encR b)] h (.agg (encR (AJF a b))):=by
 obtain ⟨a0,a1,a2⟩:=ha
 obtain ⟨b0,b1,b2⟩:=hb
 refine MG 2 (fun n H=>rfl) ?_
 refine acN Tryz.func141 rfl ?_
 show awp _ _ _ _ _ (EH _ [.cell 4 34] _)
 have z:=Z2.mk' h a b
 simp -implicitDefEqProofs only [BB,A8,A7,AZ,BA,AC,AQ,AO,BD,AX,AL,AA,AY,EX,FN,BV,BF,CE,↓reduceIte,jA,jB,jC,enP,bxR,OD]
 generalize h ++ [ABlk.live 2 [encR a]] ++ [ABlk.live 2 [encR b]] ++ [ABlk.live 2 [zR]]=H at z ⊢
 generalize (h ++ [ABlk.live 2 [encR a]] ++ [ABlk.live 2 [encR b]]).length=bz at z ⊢
 generalize (h ++ [ABlk.live 2 [encR a]]).length=bb at z ⊢
 generalize h.length=ba at z ⊢
 refine EZ (by kernel_rfl) ?_
 simp -implicitDefEqProofs only [FD,DR,CZ,D9,DU,G9,ED,IJ,DK,BB,A8,BJ,A7,AZ,BA,AC,AQ,AO,BD,AX,AL,AA,AY,AU,BH,BI,BN,BR,BG,AB,DZ,E8,↓reduceIte,jA,jK,jI,jG,jB,jC,enP,GK,GZ,GU z.ga,H6 z.ga,GU z.gb,H6 z.gb,wrap_i64 (n:=a.lo+b.lo) (by omega) (by omega),wrap_i64 (n:=a.hi+b.hi) (by omega) (by omega)]
 refine CS (fun hc => ?_) (fun hc => ?_)
 ·have hc:a.lo+b.lo > 65535:=by simpa using hc
  simp -implicitDefEqProofs only [EU,EN,BB,A8,BK,A7,CQ,AZ,BA,AC,AQ,AO,BD,AX,AL,DV,AA,AY,AU,BH,BI,FO,CY,BR,AB,BZ,JJ,↓reduceIte,jA,jB,jC,enP,jJ,OC,z.st,wrap_i64 (n:=a.lo+b.lo - 65536) (by omega) (by omega),wrap_i64 (n:=a.hi+b.hi - 65536) (by omega) (by omega)]
  exact z.out (by simp -implicitDefEqProofs only [AA,↓reduceIte,jA]) (by unfold AJF; rw [if_pos hc])
 ·have hc : ¬ a.lo+b.lo > 65535:=by simpa using hc
  simp -implicitDefEqProofs only [BB,A8,BQ,A7,AZ,AC,AQ,AO,BD,AX,AL,AA,AY,BO,BI,BX,BP,jF,jD,jE,↓reduceIte,jA,jB,jC]
  refine (Z8 G _ _ _).use ?_
  simp -implicitDefEqProofs only [BK,A7,AZ,BA,AC,AQ,AO,BD,AX,AL,DV,AA,AY,CY,BZ,↓reduceIte,jA,jC,enP,jJ,z.st]
  exact z.out (by simp -implicitDefEqProofs only [AA,↓reduceIte,jA]) (by unfold AJF; rw [if_neg hc])
theorem AM4 (a b:Rng) (ha:wfR a) (hb:wfR b) (h:Hp):PCall (En G) 142 [.agg (encR a),.agg (encR b)] h (.agg (encR (AHB a b))):=by
 obtain ⟨a0,a1,a2⟩:=ha
 obtain ⟨b0,b1,b2⟩:=hb
 refine MG 2 (fun n H=>rfl) ?_
 refine acN Tryz.func142 rfl ?_
 show awp _ _ _ _ _ (EH _ [.cell 4 34] _)
 have z:=Z2.mk' h a b
 simp -implicitDefEqProofs only [BB,A8,A7,AZ,BA,AC,AQ,AO,BD,AX,AL,AA,AY,EX,FN,BV,BF,CE,↓reduceIte,jA,jB,jC,enP,bxR,OD]
 generalize h ++ [ABlk.live 2 [encR a]] ++ [ABlk.live 2 [encR b]] ++ [ABlk.live 2 [zR]]=H at z ⊢
 generalize (h ++ [ABlk.live 2 [encR a]] ++ [ABlk.live 2 [encR b]]).length=bz at z ⊢
 generalize (h ++ [ABlk.live 2 [encR a]]).length=bb at z ⊢
 generalize h.length=ba at z ⊢
 refine EZ (by kernel_rfl) ?_
 simp -implicitDefEqProofs only [FD,DR,CZ,D9,DU,G9,ED,IJ,DK,BB,CJ,A8,BJ,A7,AZ,BA,AC,AQ,AO,BD,AX,AL,AA,AY,AU,BH,BI,BC,BN,BR,BG,AB,JJ,FQ,↓reduceIte,jA,jK,jI,jG,jB,jC,enP,GK,GZ,GU z.ga,H6 z.ga,GU z.gb,H6 z.gb,wrap_i64 (n:=a.lo - b.hi) (by omega) (by omega),wrap_i64 (n:=a.hi - b.lo) (by omega) (by omega)]
 refine CS (fun hc => ?_) (fun hc => ?_)
 ·have hc:0≤a.lo - b.hi:=by simpa using hc
  simp -implicitDefEqProofs only [EU,EN,BB,A8,BK,A7,CQ,D5,AZ,BA,AC,AQ,AO,BD,AX,AL,DV,AA,AY,BI,FO,CY,AB,BZ,↓reduceIte,jA,jB,jC,enP,jJ,OC,z.st]
  exact z.out (by simp -implicitDefEqProofs only [AA,↓reduceIte,jA]) (by unfold AHB; rw [if_pos hc])
 have hc : ¬ 0≤a.lo - b.hi:=by simpa using hc
 simp -implicitDefEqProofs only [BB,A8,BJ,A7,AZ,BA,AC,AQ,AO,BD,AX,AL,AA,AY,AU,BH,BI,BC,BR,AB,DF,↓reduceIte,jA,jB,jC,enP]
 refine CS (fun hd => ?_) (fun hd => ?_)
 ·have hd:a.hi - b.lo < 0:=by simpa using hd
  simp -implicitDefEqProofs only [EU,EN,BB,A8,BK,A7,CQ,D5,AZ,BA,AC,AQ,AO,BD,AX,AL,DV,AA,AY,AU,BH,BI,FO,CY,BR,AB,BZ,DZ,↓reduceIte,jA,jB,jC,enP,jJ,OC,z.st,wrap_i64 (n:=a.lo - b.hi+65536) (by omega) (by omega),wrap_i64 (n:=a.hi - b.lo+65536) (by omega) (by omega)]
  exact z.out (by simp -implicitDefEqProofs only [AA,↓reduceIte,jA]) (by unfold AHB; rw [if_neg hc,if_pos hd])
 ·have hd : ¬ a.hi - b.lo < 0:=by simpa using hd
  simp -implicitDefEqProofs only [BB,A8,BQ,A7,EO,AZ,AC,AQ,AO,BD,AX,BO,BX,BP,jD,jE,jB,jC]
  refine (LW G _).use ?_
  simp -implicitDefEqProofs only [BK,A7,AZ,BA,AC,AQ,AO,BD,AX,AL,DV,AA,AY,CY,BZ,↓reduceIte,jA,jC,enP,jJ,z.st]
  exact z.out (by simp -implicitDefEqProofs only [AA,↓reduceIte,jA]) (by unfold AHB; rw [if_neg hc,if_neg hd])
end
def AGV:Code→ByteArray
 | .seq a b=>let x:=AGV a; if x.size=0 then AGV b else x
 | .region _ ops _=>match ops.toList.find? (fun o=>match o.op with | .index _ (.const (.string _)) _=>true | _=>false) with
   | some o=>match o.op with
     | .index _ (.const (.string s)) _=>s
     | _=>⟨#[]⟩
   | none=>⟨#[]⟩
 | _=>⟨#[]⟩
def lenOf (fn:Func):ByteArray:=match fn.body with | some c=>AGV c | none=>⟨#[]⟩
def blF:Nat→Nat→Nat
 | 0,_=>0
 | f+1,n=>if n=0 then 0 else blF f (n / 2)+1
theorem ANE : ∀ (f n:Nat),n < 2 ^ f→blF f n=blN n
 | 0,n,h=>by
   have:n=0:=by simpa using h
   subst this; rw [WA]; rfl
 | f+1,n,h=>by
   rw [Nat.pow_succ] at h
   rcases Nat.eq_zero_or_pos n with h0 | h0
   ·subst h0; rw [WA]; simp [blF]
   ·rw [WB h0,← ANE f (n / 2) (by omega)]
    simp only [blF]; rw [if_neg (by omega)]
theorem AO6:(List.range 256).all (fun y=>(lenOf Tryz.f177)[y]? == some (UInt8.ofNat (blF 8 y)))=true:=by kernel_rfl
theorem AL6 {y:Nat} (hy:y < 256) (h:Hp):ofO h (KF Tryz.prog 9 (.str (lenOf Tryz.f177)) (.int .u8 (y:Nat)))=some (.int .u8 (blN y:Nat),h):=by
 have h1:=List.all_eq_true.1 AO6 y (by simpa using hy)
 have h2:(lenOf Tryz.f177)[y]? = some (UInt8.ofNat (blF 8 y)):=by simpa using h1
 rw [ANE 8 y (by omega)] at h2
 have hle:blN y≤8:=(AC3 8 y).1 (by omega)
 have hu:Tryz.prog.underlying 9=some .string:=by kernel_rfl
 have h3:KF Tryz.prog 9 (.str (lenOf Tryz.f177)) (.int .u8 (y:Nat))=some (.int .u8 (blN y:Nat)):=by
  unfold KF
  simp only [hu,zM,h2]
  rw [if_pos (by omega)]
  simp
  omega
 rw [h3]; rfl
theorem ASO {n:Nat} (h:256≤n):blN n=blN (n / 256)+8:=by
 have e : ∀ k m,0 < m / 2 ^ k→blN m=blN (m / 2 ^ k)+k:=by
  intro k
  induction k with
  | zero=>intro m _; simp
  | succ k ih =>
    intro m hm
    have h2:m / 2 ^ (k+1)=m / 2 ^ k / 2:=by rw [Nat.pow_succ,Nat.div_div_eq_div_mul]
    rw [ih m (by rw [h2] at hm; omega),WB (by rw [h2] at hm; omega),h2]; omega
 exact e 8 n (by simp only [Nat.reducePow]; omega)
section
variable (G:Nat→AV)
theorem AEN (n:Nat) (hn:n < 65536) (h:Hp):PCall (En G) 140 [.int .u64 (n:Nat)] h (.int .i64 (blN n:Nat)):=by
 have hb16:=AI1 (n:=n) (by omega)
 have hc:PCall (En G) 177 [.int .u64 (n:Nat)] h (.int .i64 (blN n:Nat)):=by
  refine acN Tryz.func177 rfl ?_
  show awp _ _ _ _ _ (EH _ [.tmp 2] _)
  have d1:decide (((n:Nat):Int)≥4294967296)=false:=by simp; omega
  have d2:decide (((n:Nat):Int)≥65536)=false:=by simp; omega
  have hs:G6 Tryz.prog 175 .shr (.int .u64 (n:Nat)) (.int .u64 8)=some (.int .u64 ((n / 256:Nat):Int)):=by
   have e:G6 Tryz.prog 175 .shr (.int .u64 (n:Nat)) (.int .u64 8)=some (.int .u64 ((n:Int).fdiv (2 ^ 8))):=rfl
   rw [e,Int.fdiv_eq_ediv_of_nonneg _ (by decide)]
   rfl
  have w8 : ∀ m:Nat,m < 256→IntKind.u8.wrap ((m:Nat):Int)=((m:Nat):Int):=fun m hm=>by
   have : ∀ n:Int,IntKind.u8.wrap n=n % 256:=fun n=>by simp [IntKind.wrap,IntKind.bits,IntKind.signed]
   rw [this]; omega
  have wn : ∀ m:Nat,m < 256→IntKind.i64.wrap ((m:Nat):Int)=((m:Nat):Int):=fun m hm=>O0 (by omega)
  simp -implicitDefEqProofs only [BB,A8,BQ,BJ,A7,EC,AZ,BA,AC,AQ,AO,BD,AX,AL,AA,AY,AU,BH,BI,BC,BR,AB,FQ,BF,↓reduceIte,jA,jB,jC,enX,enP,d1,d2]
  refine CS (fun hc => ?_) (fun hc => ?_)
  ·have hc:256≤n:=by simp at hc; omega
   have hlt:n / 256 < 256:=by omega
   have hx:=ASO hc
   have la:=AL6 hlt h
   have hl8:blN (n / 256)≤8:=(AC3 8 _).1 (by omega)
   simp -implicitDefEqProofs only [BB,A8,A7,AZ,BA,AC,AQ,AO,BD,AX,AL,AA,AY,AU,BH,GN,BI,BC,BR,OZ,J5,AB,DZ,BF,↓reduceIte,jA,jB,jC,enP,AIW,hs,w8 _ hlt]
   erw [la]
   have w8':IntKind.i64.wrap (0+8)=8:=by decide
   simp -implicitDefEqProofs only [BK,A7,CW,AZ,BA,AC,AQ,AO,BD,AX,AL,AA,AY,BC,BR,OZ,BV,AB,DZ,↓reduceIte,jA,jB,jC,enP,AE9,wn _ (show blN (n / 256) < 256 by omega),w8',show (8:Int)+((blN (n / 256):Nat):Int)=((blN n:Nat):Int) by omega,wn _ (show blN n < 256 by omega)]
   exact ⟨trivial,trivial⟩
  ·have hc:n < 256:=by simp at hc; omega
   have la:=AL6 hc h
   simp -implicitDefEqProofs only [BB,A8,BQ,A7,AZ,AC,AQ,AO,BD,AX,AL,AA,AY,AU,GN,BI,OZ,J5,AB,BF,↓reduceIte,jA,jB,jC,enP,AIW,w8 _ hc]
   erw [la]
   simp -implicitDefEqProofs only [BK,A7,CW,AZ,BA,AC,AQ,AO,BD,AX,AL,AA,AY,BC,BR,OZ,BV,AB,DZ,↓reduceIte,jA,jB,jC,enP,AE9,wn _ (show blN n < 256 by omega),show (0:Int)+((blN n:Nat):Int)=((blN n:Nat):Int) by omega]
   exact ⟨trivial,trivial⟩
 refine acN Tryz.func140 rfl ?_
 show awp _ _ _ _ _ (EH _ [.tmp 2] _)
 simp -implicitDefEqProofs only [BB,A8,BQ,BJ,A7,EC,AZ,BA,AC,AQ,AO,BD,AX,AL,AA,AY,AU,BO,BH,BM,BI,BC,BX,BP,BF,jF,jD,jE,↓reduceIte,jA,jB,jC,enX,enP]
 refine hc.use ?_
 simp -implicitDefEqProofs only [BK,A7,CW,AZ,BA,AC,AQ,AO,BD,AX,AL,AA,AY,BC,↓reduceIte,jB,jC]
 exact ⟨trivial,trivial⟩
theorem ARU (n:Nat) (hn:n≤16):G6 Tryz.prog 3 .shl (.int .i64 1) (.int .i64 (n:Nat))=some (.int .i64 ((2 ^ n:Nat):Int)):=by
 have hp:=Nat.pow_le_pow_right (by decide:0 < 2) hn
 have hm:min ((n:Nat):Int).toNat IntKind.i64.bits=n:=by have:IntKind.i64.bits=64:=rfl; omega
 have e:(2:Int) ^ n=((2 ^ n:Nat):Int):=by simp
 rw [AI2 _ _ _ _ _ _ (by omega),hm,Int.one_mul,e,O0 (by omega)]
theorem AJW (n:Int) (h0:0≤n) (h1:n≤65535) (h:Hp):PCall (En G) 178 [.int .i64 n] h (.int .i64 (AEH n)):=by
 obtain ⟨m,rfl⟩:=zL h0
 have hb:=AI1 (n:=m) (by omega)
 refine acN Tryz.func178 rfl ?_
 show awp _ _ _ _ _ (EH _ [.tmp 2] _)
 have wu:IntKind.u64.wrap ((m:Nat):Int)=((m:Nat):Int):=by
  have : ∀ n:Int,IntKind.u64.wrap n=n % 18446744073709551616:=fun n=>by simp [IntKind.wrap,IntKind.bits,IntKind.signed]
  rw [this]; omega
 have hp:=Nat.pow_le_pow_right (by decide:0 < 2) hb
 have hp0:0 < 2 ^ blN m:=Nat.pow_pos (by decide)
 simp -implicitDefEqProofs only [BB,A8,A7,AZ,BA,AC,AQ,AO,BD,AX,AL,AA,AY,AU,BO,BH,BI,BC,OZ,BX,BP,AB,BF,jF,jD,jE,↓reduceIte,jA,jB,jC,enX,enP,AIV,wu]
 refine (AEN G m (by omega) h).use ?_
 simp -implicitDefEqProofs only [BK,A7,CW,AZ,BA,AC,AQ,AO,BD,AX,AL,AA,AY,AU,BH,BC,BR,AB,JJ,↓reduceIte,jB,jC,enP,ARU _ hb,wrap_i64 (n:=((2 ^ blN m:Nat):Int) - 1) (by omega) (by omega)]
 exact ⟨by unfold AEH; rw [zM],trivial⟩
theorem AU5 {a b:Int} (a0:0≤a) (a1:a≤65535) (b0:0≤b) (b1:b≤65535):G6 Tryz.prog 3 .and (.int .i64 a) (.int .i64 b)=some (.int .i64 (AP9 a b)):=by
 obtain ⟨m,rfl⟩:=zL a0
 obtain ⟨n,rfl⟩:=zL b0
 exact AU4 m n (by omega) (by omega)
theorem AV8 {a b:Int} (a0:0≤a) (a1:a≤65535) (b0:0≤b) (b1:b≤65535):G6 Tryz.prog 3 .or (.int .i64 a) (.int .i64 b)=some (.int .i64 (orI a b)):=by
 obtain ⟨m,rfl⟩:=zL a0
 obtain ⟨n,rfl⟩:=zL b0
 exact AV7 m n (by omega) (by omega)
theorem AS4 {a b:Int} (a0:0≤a) (a1:a≤65535) (b0:0≤b) (b1:b≤65535):G6 Tryz.prog 3 .xor (.int .i64 a) (.int .i64 b)=some (.int .i64 (AN3 a b)):=by
 obtain ⟨m,rfl⟩:=zL a0
 obtain ⟨n,rfl⟩:=zL b0
 exact AS3 m n (by omega) (by omega)
theorem AOL {k:Nat} (hk:k≤15):(2:Int) ^ k≤32768:=by
 have hp:=Nat.pow_le_pow_right (by decide:0 < 2) hk
 have e:(2:Int) ^ k=((2 ^ k:Nat):Int):=by simp
 omega
theorem AQQ {a b:Int} (a0:0≤a) (a1:a≤65535) (b0:0≤b) (b1:b < 16):G6 Tryz.prog 3 .shl (.int .i64 a) (.int .i64 b)=some (.int .i64 (a * 2 ^ b.toNat)):=by
 have hm:min b.toNat IntKind.i64.bits=b.toNat:=by have:IntKind.i64.bits=64:=rfl; omega
 have h1:=AOL (k:=b.toNat) (by omega)
 have h2:=U1 b.toNat
 have h3:a * 2 ^ b.toNat≤65535 * 32768:=Int.mul_le_mul a1 h1 (by omega) (by decide)
 have h4:0≤a * 2 ^ b.toNat:=Int.mul_nonneg a0 (by omega)
 rw [AI2 _ _ _ _ _ _ (by omega),hm,wrap_i64 (by omega) (by omega)]
theorem ATI {a b:Int} (b0:0≤b) (b1:b < 16):G6 Tryz.prog 3 .shr (.int .i64 a) (.int .i64 b)=some (.int .i64 (a / 2 ^ b.toNat)):=by
 have hm:min b.toNat IntKind.i64.bits=b.toNat:=by have:IntKind.i64.bits=64:=rfl; omega
 have h2:=U1 b.toNat
 rw [APZ _ _ _ _ _ _ (by omega),hm,Int.fdiv_eq_ediv_of_nonneg _ (by omega)]
end
structure Z3 (h H:Hp) (ba bb bc bz:Nat) (a b c:Rng):Prop extends Z2 h H ba bb bz a b where
 gc:H[bc]? = some (ABlk.live 2 [encR c])
theorem Z3.mk' (h:Hp) (a b c:Rng):Z3 h (h ++ [ABlk.live 2 [encR a]] ++ [ABlk.live 2 [encR b]] ++ [ABlk.live 2 [encR c]] ++ [ABlk.live 2 [zR]]) h.length (h ++ [ABlk.live 2 [encR a]]).length (h ++ [ABlk.live 2 [encR a]] ++ [ABlk.live 2 [encR b]]).length (h ++ [ABlk.live 2 [encR a]] ++ [ABlk.live 2 [encR b]] ++ [ABlk.live 2 [encR c]]).length a b c :=
 ⟨⟨⟨⟨C9 _ _,((((ext.rfl' h).app _).app _).app _).app _,by simp⟩,CX (CX (CX (C9 _ _)))⟩,CX (CX (C9 _ _))⟩,CX (C9 _ _)⟩
section
variable (G:Nat→AV)
theorem AD8 (n k:Int) (k0:0≤k) (h:Hp):PCall (En G) 146 [.int .i64 n,.int .i64 k] h (.int .i64 (X7 n k)):=by
 refine acN Tryz.func146 rfl ?_
 show awp _ _ _ _ _ (EH _ [.tmp 4] _)
 simp -implicitDefEqProofs only [BB,A8,BJ,A7,AZ,BA,AC,AQ,AO,BD,AX,AL,AA,AY,AU,BH,BI,BC,BR,AB,FQ,BF,CE,↓reduceIte,jA,jB,jC,enX,enP]
 refine CS (fun hc => ?_) (fun hc => ?_)
 ·have hc:k≥16:=by simpa using hc
  simp -implicitDefEqProofs only [BB,A8,BK,A7,CQ,CW,AZ,BA,AC,AQ,AO,BD,AX,AL,AA,AU,BH,BC,↓reduceIte,jB,jC]
  exact ⟨by unfold X7; rw [if_pos hc],trivial⟩
 ·have hc : ¬ k≥16:=by simpa using hc
  simp -implicitDefEqProofs only [BB,A8,BQ,BK,A7,CW,AZ,BA,AC,AQ,AO,BD,AX,AL,AA,AY,BI,BC,BR,AB,BF,CE,↓reduceIte,jA,jB,jC,enP,ATI (a:=n) k0 (by omega)]
  exact ⟨by unfold X7; rw [if_neg hc],trivial⟩
theorem AAC (op:Int) (a b:Rng) (ha:wfR a) (hb:wfR b) (h:Hp):PCall (En G) 144 [.int .i64 op,.agg (encR a),.agg (encR b)] h (.agg (encR (W9 op a b))):=by
 obtain ⟨a0,a1,a2⟩:=ha
 obtain ⟨b0,b1,b2⟩:=hb
 refine MG 2 (fun n H=>rfl) ?_
 refine acN Tryz.func144 rfl ?_
 show awp _ _ _ _ _ (EH _ [.cell 6 34] _)
 have z:=Z2.mk' h a b
 simp -implicitDefEqProofs only [BB,A8,A7,AZ,BA,AC,AQ,AO,BD,AX,AL,AA,AY,EX,FN,BN,BG,BV,AB,BF,CE,↓reduceIte,jA,jG,jB,jC,enP,GZ,bxR,OD]
 generalize h ++ [ABlk.live 2 [encR a]] ++ [ABlk.live 2 [encR b]] ++ [ABlk.live 2 [zR]]=H at z ⊢
 generalize (h ++ [ABlk.live 2 [encR a]] ++ [ABlk.live 2 [encR b]]).length=bz at z ⊢
 generalize (h ++ [ABlk.live 2 [encR a]]).length=bb at z ⊢
 generalize h.length=ba at z ⊢
 simp -implicitDefEqProofs only [AZ,AC,AQ,AO,BD,AX,AL,AA,AY,BO,BN,BG,XM,BX,BP,AB,SL,jF,jD,jE,↓reduceIte,jA,jG,jB,jC,enP,GZ,H6 z.ga,H6 z.gb]
 refine (AJW G (max a.hi b.hi) (by omega) (by omega) _).use ?_
 simp -implicitDefEqProofs only [BB,CJ,A8,BJ,A7,AZ,BA,AC,AQ,AO,BD,AX,AL,AA,AY,AU,BH,BI,BC,BR,AB,DW,BF,↓reduceIte,jA,jB,jC,enP]
 have hand:=AU5 (a:=a.lo) (b:=b.lo) a0 (by omega) b0 (by omega)
 have hor:=AV8 (a:=a.lo) (b:=b.lo) a0 (by omega) b0 (by omega)
 have hxor:=AS4 (a:=a.lo) (b:=b.lo) a0 (by omega) b0 (by omega)
 by_cases h10:op=10
 ·have c10:(op == 10)=true:=by simpa using h10
  simp -implicitDefEqProofs only [BB,A8,DY,AZ,AC,AQ,AO,BD,AX,AL,AA,AY,BO,BN,BX,BP,AB,jF,jD,jE,↓reduceIte,jA,jB,jC,enP,c10,IW z.ga]
  refine (KL G a _).use ?_
  simp -implicitDefEqProofs only [AZ,BL,BU,CO,AC,AQ,AO,BD,AX,AL,AA,AY,BI,↓reduceIte,jB,jC]
  refine IK (fun hs => ?_) (fun hs => ?_)
  ·simp -implicitDefEqProofs only [BL,BU,CO,GH,AC,AQ,AO,BD,AX,AL,AA,AY,BO,BN,BX,BP,AB,jF,jD,jE,↓reduceIte,jA,jB,jC,enP,hs,IW z.gb]
   refine (KL G b _).use ?_
   simp -implicitDefEqProofs only [BJ,A7,AZ,BA,AC,AQ,AO,BD,AX,AL,AA,AY,AU,BM,CP,DL,↓reduceIte,jA,jB,jC,hs]
   refine CS (fun ht => ?_) (fun ht => ?_)
   ·simp -implicitDefEqProofs only [BB,A8,AZ,AC,AQ,AO,BD,AX,AL,AA,AY,BO,BN,BR,BG,BX,BP,AB,jF,jD,jE,↓reduceIte,jA,jI,jB,jC,enP,GK,GU z.ga,GU z.gb,hand]
    refine (NR G _ _).use ?_
    simp -implicitDefEqProofs only [BK,A7,CQ,D5,AZ,BA,AC,AQ,AO,BD,AX,AL,DV,AA,AY,CY,BZ,↓reduceIte,jA,jC,enP,jJ,z.st]
    exact z.out (by simp -implicitDefEqProofs only [AA,↓reduceIte,jA]) (by unfold W9; rw [if_pos h10,hs,ht]; rfl)
   ·simp -implicitDefEqProofs only [EU,EN,BB,A8,BQ,BK,A7,CQ,D5,AZ,BA,AC,AQ,AO,BD,AX,AL,DV,AA,AY,AU,BH,FO,BN,CY,BG,YP,AB,BZ,U3,↓reduceIte,jA,jG,jB,jC,enP,GZ,jJ,H6 z.ga,H6 z.gb,OC,z.st]
    exact z.out (by simp -implicitDefEqProofs only [AA,↓reduceIte,jA]) (by unfold W9; rw [if_pos h10,hs,ht]; rfl)
  ·simp -implicitDefEqProofs only [EU,EN,BB,A8,BQ,BK,BJ,A7,CQ,D5,EC,AZ,BA,BL,BU,CO,I4,AC,AQ,AO,BD,AX,AL,DV,AA,EG,AY,AU,BH,BM,CP,DN,FO,BN,CY,BG,YP,AB,BZ,U3,↓reduceIte,jA,jG,jB,jC,enP,GZ,jJ,hs,H6 z.ga,H6 z.gb,OC,z.st]
   exact z.out (by simp -implicitDefEqProofs only [AA,↓reduceIte,jA]) (by unfold W9; rw [if_pos h10,hs]; rfl)
 have c10:(op == 10)=false:=by simpa using h10
 by_cases h11:op=11
 ·have c11:(op == 11)=true:=by simpa using h11
  simp -implicitDefEqProofs only [BB,A8,BJ,A7,DY,EC,AZ,BA,AC,AQ,AO,BD,AX,AL,AA,AY,AU,BO,BH,BC,BN,BR,BX,BP,AB,DW,jF,jD,jE,↓reduceIte,jA,jB,jC,enP,c10,c11,IW z.ga]
  refine (KL G a _).use ?_
  simp -implicitDefEqProofs only [AZ,BL,BU,CO,AC,AQ,AO,BD,AX,AL,AA,AY,BI,↓reduceIte,jB,jC]
  refine IK (fun hs => ?_) (fun hs => ?_)
  ·simp -implicitDefEqProofs only [BL,BU,CO,GH,AC,AQ,AO,BD,AX,AL,AA,AY,BO,BN,BX,BP,AB,jF,jD,jE,↓reduceIte,jA,jB,jC,enP,hs,IW z.gb]
   refine (KL G b _).use ?_
   simp -implicitDefEqProofs only [BJ,A7,AZ,BA,AC,AQ,AO,BD,AX,AL,AA,AY,AU,BM,CP,DL,↓reduceIte,jA,jB,jC,hs]
   refine CS (fun ht => ?_) (fun ht => ?_)
   ·simp -implicitDefEqProofs only [BB,A8,AZ,AC,AQ,AO,BD,AX,AL,AA,AY,BO,BN,BR,BG,BX,BP,AB,jF,jD,jE,↓reduceIte,jA,jI,jB,jC,enP,GK,GU z.ga,GU z.gb,hor]
    refine (NR G _ _).use ?_
    simp -implicitDefEqProofs only [BK,A7,CQ,D5,AZ,BA,AC,AQ,AO,BD,AX,AL,DV,AA,AY,CY,BZ,↓reduceIte,jA,jC,enP,jJ,z.st]
    exact z.out (by simp -implicitDefEqProofs only [AA,↓reduceIte,jA]) (by unfold W9; rw [if_neg h10,if_pos h11,hs,ht]; rfl)
   ·simp -implicitDefEqProofs only [EU,EN,BB,A8,BQ,BK,A7,CQ,D5,AZ,BA,AC,AQ,AO,BD,AX,AL,DV,AA,AY,BI,FO,BN,CY,BG,XM,AB,BZ,SL,↓reduceIte,jA,jI,jB,jC,enP,GK,jJ,GU z.ga,GU z.gb,OC,z.st]
    exact z.out (by simp -implicitDefEqProofs only [AA,↓reduceIte,jA]) (by unfold W9; rw [if_neg h10,if_pos h11,hs,ht]; rfl)
  ·simp -implicitDefEqProofs only [EU,EN,BB,A8,BQ,BK,BJ,A7,CQ,D5,EC,AZ,BA,BL,BU,CO,I4,AC,AQ,AO,BD,AX,AL,DV,AA,EG,AY,AU,BM,BI,CP,DN,FO,BN,CY,BG,XM,AB,BZ,SL,↓reduceIte,jA,jI,jB,jC,enP,GK,jJ,hs,GU z.ga,GU z.gb,OC,z.st]
   exact z.out (by simp -implicitDefEqProofs only [AA,↓reduceIte,jA]) (by unfold W9; rw [if_neg h10,if_pos h11,hs]; rfl)
 have c11:(op == 11)=false:=by simpa using h11
 simp -implicitDefEqProofs only [BB,A8,BQ,BJ,A7,EO,EC,AZ,BA,AC,AQ,AO,BD,AX,AL,AA,AY,AU,BO,BH,BC,BN,BR,BX,BP,AB,DW,jF,jD,jE,↓reduceIte,jA,jB,jC,enP,c10,c11,IW z.ga]
 refine (KL G a _).use ?_
 simp -implicitDefEqProofs only [AZ,BL,BU,CO,AC,AQ,AO,BD,AX,AL,AA,AY,BI,↓reduceIte,jB,jC]
 refine IK (fun hs => ?_) (fun hs => ?_)
 ·simp -implicitDefEqProofs only [BL,BU,CO,GH,AC,AQ,AO,BD,AX,AL,AA,AY,BO,BN,BX,BP,AB,jF,jD,jE,↓reduceIte,jA,jB,jC,enP,hs,IW z.gb]
  refine (KL G b _).use ?_
  simp -implicitDefEqProofs only [BJ,A7,AZ,BA,AC,AQ,AO,BD,AX,AL,AA,AY,AU,BM,CP,DL,↓reduceIte,jA,jB,jC,hs]
  refine CS (fun ht => ?_) (fun ht => ?_)
  ·simp -implicitDefEqProofs only [BB,A8,AZ,AC,AQ,AO,BD,AX,AL,AA,AY,BO,BN,BR,BG,BX,BP,AB,jF,jD,jE,↓reduceIte,jA,jI,jB,jC,enP,GK,GU z.ga,GU z.gb,hxor]
   refine (NR G _ _).use ?_
   simp -implicitDefEqProofs only [BK,A7,CQ,AZ,BA,AC,AQ,AO,BD,AX,AL,DV,AA,AY,CY,BZ,↓reduceIte,jA,jC,enP,jJ,z.st]
   exact z.out (by simp -implicitDefEqProofs only [AA,↓reduceIte,jA]) (by unfold W9; rw [if_neg h10,if_neg h11,hs,ht]; rfl)
  ·simp -implicitDefEqProofs only [EU,EN,BB,A8,BQ,BK,A7,AZ,BA,AC,AQ,AO,BD,AX,AL,DV,AA,AY,AU,BH,BI,FO,CY,AB,BZ,↓reduceIte,jA,jB,jC,enP,jJ,OC,z.st]
   exact z.out (by simp -implicitDefEqProofs only [AA,↓reduceIte,jA]) (by unfold W9; rw [if_neg h10,if_neg h11,hs,ht]; rfl)
 ·simp -implicitDefEqProofs only [EU,EN,BB,A8,BQ,BK,BJ,A7,EC,AZ,BA,BL,BU,CO,I4,AC,AQ,AO,BD,AX,AL,DV,AA,EG,AY,AU,BH,BM,BI,CP,DN,FO,CY,AB,BZ,↓reduceIte,jA,jB,jC,enP,jJ,hs,OC,z.st]
  exact z.out (by simp -implicitDefEqProofs only [AA,↓reduceIte,jA]) (by unfold W9; rw [if_neg h10,if_neg h11,hs]; rfl)
theorem ALI (a b:Rng) (ha:wfR a) (hb:wfR b) (h:Hp):PCall (En G) 145 [.agg (encR a),.agg (encR b)] h (.agg (encR (ADX a b))):=by
 obtain ⟨a0,a1,a2⟩:=ha
 obtain ⟨b0,b1,b2⟩:=hb
 refine MG 2 (fun n H=>rfl) ?_
 refine acN Tryz.func145 rfl ?_
 show awp _ _ _ _ _ (EH _ [.cell 4 34] _)
 have z:=Z2.mk' h a b
 simp -implicitDefEqProofs only [BB,CJ,A8,A7,AZ,BA,AC,AQ,AO,BD,AX,AL,AA,AY,EX,FN,BN,BV,BF,CE,↓reduceIte,jA,jB,jC,enP,bxR,OD]
 generalize h ++ [ABlk.live 2 [encR a]] ++ [ABlk.live 2 [encR b]] ++ [ABlk.live 2 [zR]]=H at z ⊢
 generalize (h ++ [ABlk.live 2 [encR a]] ++ [ABlk.live 2 [encR b]]).length=bz at z ⊢
 generalize (h ++ [ABlk.live 2 [encR a]]).length=bb at z ⊢
 generalize h.length=ba at z ⊢
 simp -implicitDefEqProofs only [AZ,AC,AQ,AO,BD,AX,AL,AA,AY,BO,BX,BP,AB,jF,jD,jE,↓reduceIte,jB,jC,IW z.ga]
 refine (JE G a _).use ?_
 simp -implicitDefEqProofs only [AZ,BL,BU,CO,AC,AQ,AO,BD,AX,AL,AA,AY,BI,↓reduceIte,jB,jC]
 have zero : ∀ q:(isF a || decide (b.lo≥16))=true,ADX a b=⟨0,0⟩:=fun q=>by unfold ADX; rw [if_pos q]
 refine IK (fun hs => ?_) (fun hs => ?_)
 ·simp -implicitDefEqProofs only [BB,A8,BJ,A7,DY,AZ,BA,BL,BU,CO,F6,AC,AQ,AO,BD,AX,AL,AA,EG,AY,AU,BO,BM,BC,CP,DL,BX,BP,jD,jE,↓reduceIte,jA,jB,jC,hs]
  refine (YK G _).use ?_
  simp -implicitDefEqProofs only [BK,A7,CQ,D5,AZ,BA,AC,AQ,AO,BD,AX,AL,DV,AA,AY,CY,BZ,↓reduceIte,jA,jC,enP,jJ,z.st]
  exact z.out (by simp -implicitDefEqProofs only [AA,↓reduceIte,jA]) (zero (by rw [hs]; rfl)).symm
 simp -implicitDefEqProofs only [BJ,A7,AZ,BA,BL,BU,CO,EQ,AC,AQ,AO,BD,AX,AL,AA,AY,AU,BH,BM,BC,CP,DN,BN,BR,BG,AB,FQ,↓reduceIte,jA,jI,jB,jC,enP,GK,hs,GU z.gb]
 refine CS (fun ht => ?_) (fun ht => ?_)
 ·simp -implicitDefEqProofs only [BB,A8,AZ,AC,AQ,AO,BD,AX,BO,BX,BP,jD,jE,jB,jC]
  refine (YK G _).use ?_
  simp -implicitDefEqProofs only [BK,A7,CQ,D5,AZ,BA,AC,AQ,AO,BD,AX,AL,DV,AA,AY,CY,BZ,↓reduceIte,jA,jC,enP,jJ,z.st]
  exact z.out (by simp -implicitDefEqProofs only [AA,↓reduceIte,jA]) (zero (by rw [ht]; simp)).symm
 have hb16 : ¬ b.lo≥16:=by simpa using ht
 have nz : ¬ (isF a || decide (b.lo≥16))=true:=by rw [hs,ht]; decide
 simp -implicitDefEqProofs only [BB,A8,AZ,AC,AQ,AO,BD,AX,AL,AA,AY,BO,BN,BX,BP,AB,jF,jD,jE,↓reduceIte,jA,jB,jC,enP,IW z.gb]
 refine (KL G b _).use ?_
 simp -implicitDefEqProofs only [BJ,A7,AZ,BA,AC,AQ,AO,BD,AX,AL,AA,AY,BC,↓reduceIte,jB,jC]
 refine CS (fun hu => ?_) (fun hu => ?_)
 ·simp -implicitDefEqProofs only [BB]
  refine EZ (by kernel_rfl) ?_
  simp -implicitDefEqProofs only [FD,DR,CZ,DU,ED,GI,IJ,DK,EP,EF,AC,AA,AY,BO,BN,CY,BR,BG,AB,jF,jD,jE,↓reduceIte,jA,jK,jI,jG,jB,enP,GK,GZ,jJ,GU z.ga,H6 z.ga,GU z.gb,AQQ (a:=a.lo) (b:=b.lo) a0 (by omega) b0 (by omega),AQQ (a:=a.hi) (b:=b.lo) (by omega) a2 b0 (by omega)]
  refine ⟨_,Z8 G _ _ _,?_⟩
  simp -implicitDefEqProofs only [GL,D9,BK,A7,CQ,D5,BZ,z.st]
  exact z.out (by simp -implicitDefEqProofs only [AA,↓reduceIte,jA]) (by unfold ADX; rw [if_neg nz,if_pos hu])
 ·simp -implicitDefEqProofs only [BB,A8,BQ,A7,EO,AZ,AC,AQ,AO,BD,AX,BO,BX,BP,jD,jE,jB,jC]
  refine (LW G _).use ?_
  simp -implicitDefEqProofs only [BK,A7,AZ,BA,AC,AQ,AO,BD,AX,AL,DV,AA,AY,CY,BZ,↓reduceIte,jA,jC,enP,jJ,z.st]
  exact z.out (by simp -implicitDefEqProofs only [AA,↓reduceIte,jA]) (by unfold ADX; rw [if_neg nz,hu]; rfl)
theorem AJS (a:Rng) (ha:wfR a) (h:Hp):PCall (En G) 95 [.agg (encR a)] h (.agg (encR (AJR a))):=by
 obtain ⟨a0,a1,a2⟩:=ha
 refine MG 2 (fun n H=>rfl) ?_
 refine acN Tryz.func95 rfl ?_
 show awp _ _ _ _ _ (EH _ [.cell 2 34] _)
 have z:=Z1.mk' h a
 simp -implicitDefEqProofs only [BB,A8,A7,AZ,BA,AC,AQ,AO,BD,AX,AL,AA,AY,EX,FN,BN,BV,BF,↓reduceIte,jA,jB,jC,enP,bxR,OD]
 generalize h ++ [ABlk.live 2 [encR a]] ++ [ABlk.live 2 [zR]]=H at z ⊢
 generalize (h ++ [ABlk.live 2 [encR a]]).length=bz at z ⊢
 generalize h.length=ba at z ⊢
 simp -implicitDefEqProofs only [AZ,AC,AQ,AO,BD,AX,AL,AA,AY,BO,BX,BP,AB,jF,jD,jE,↓reduceIte,jB,jC,IW z.ga]
 refine (KL G a _).use ?_
 simp -implicitDefEqProofs only [BJ,A7,BA,AL,AA,AY,↓reduceIte]
 refine CS (fun hc => ?_) (fun hc => ?_)
 ·simp -implicitDefEqProofs only [BB,A8,AZ,AC,AQ,AO,BD,AX,AL,AA,AY,BO,BN,BG,BX,BP,AB,jF,jD,jE,↓reduceIte,jA,jI,jB,jC,enP,GK,GU z.ga]
  have ho:=AJQ G a.lo.toNat (by omega) H
  rw [Int.toNat_of_nonneg a0] at ho
  refine ho.use ?_
  simp -implicitDefEqProofs only [AZ,AC,AQ,AO,BD,AX,AL,AA,AY,BO,BX,BP,jF,jD,jE,↓reduceIte,jB,jC]
  refine (NR G _ _).use ?_
  simp -implicitDefEqProofs only [BK,A7,CQ,AZ,BA,AC,AQ,AO,BD,AX,AL,DV,AA,AY,CY,BZ,↓reduceIte,jA,jC,enP,jJ,z.st]
  exact z.out (by simp -implicitDefEqProofs only [AA,↓reduceIte,jA]) (by unfold AJR onI VQ; rw [if_pos hc])
 ·have wu:IntKind.u64.wrap a.hi=((a.hi.toNat:Nat):Int):=by
   have : ∀ n:Int,IntKind.u64.wrap n=n % 18446744073709551616:=fun n=>by simp [IntKind.wrap,IntKind.bits,IntKind.signed]
   rw [this]; omega
  simp -implicitDefEqProofs only [BB,BQ,A7]
  refine EZ (by kernel_rfl) ?_
  simp -implicitDefEqProofs only [FD,EU,EN,DR,CZ,DU,NJ,ED,AF5,DK,OM,EP,EF,AC,AA,AY,AU,BO,BH,FO,BN,OZ,BG,YP,AB,U3,jF,jD,jE,↓reduceIte,jA,jK,jI,jG,jB,enP,GK,GZ,AIV,GU z.ga,H6 z.ga,wu]
  refine ⟨_,AEN G a.hi.toNat (by omega) _,?_⟩
  simp -implicitDefEqProofs only [FD,DR,CZ,GL,D9,DU,GI,BK,A7,AC,AA,AY,CY,AB,BZ,↓reduceIte,jA,jG,enP,jJ,OC,z.st]
  exact z.out (by simp -implicitDefEqProofs only [AA,↓reduceIte,jA]) (by unfold AJR; rw [hc]; rfl)
theorem AM9 (c a b:Rng) (h:Hp):PCall (En G) 96 [.agg (encR c),.agg (encR a),.agg (encR b)] h (.agg (encR (AHF c a b))):=by
 refine MG 2 (fun n H=>rfl) ?_
 refine acN Tryz.func96 rfl ?_
 show awp _ _ _ _ _ (EH _ [.cell 6 34] _)
 have z:=Z3.mk' h c a b
 simp -implicitDefEqProofs only [BB,CJ,A8,A7,AZ,BA,AC,AQ,AO,BD,AX,AL,AA,AY,EX,FN,BN,BV,BF,CE,↓reduceIte,jA,jB,jC,enP,bxR,OD]
 generalize h ++ [ABlk.live 2 [encR c]] ++ [ABlk.live 2 [encR a]] ++ [ABlk.live 2 [encR b]] ++ [ABlk.live 2 [zR]]=H at z ⊢
 generalize (h ++ [ABlk.live 2 [encR c]] ++ [ABlk.live 2 [encR a]] ++ [ABlk.live 2 [encR b]]).length=bz at z ⊢
 generalize (h ++ [ABlk.live 2 [encR c]] ++ [ABlk.live 2 [encR a]]).length=bc at z ⊢
 generalize (h ++ [ABlk.live 2 [encR c]]).length=bb at z ⊢
 generalize h.length=ba at z ⊢
 simp -implicitDefEqProofs only [AZ,AC,AQ,AO,BD,AX,AL,AA,AY,BO,BX,BP,AB,jF,jD,jE,↓reduceIte,jB,jC,IW z.ga]
 refine (KO G c _).use ?_
 simp -implicitDefEqProofs only [BJ,A7,AZ,BA,AC,AQ,AO,BD,AX,AL,AA,AY,BC,↓reduceIte,jB,jC]
 refine CS (fun hc => ?_) (fun hc => ?_)
 ·simp -implicitDefEqProofs only [BB,A8,BK,A7,CQ,D5,AZ,BA,AC,AQ,AO,BD,AX,AL,DV,AA,AY,BN,CY,AB,BZ,↓reduceIte,jA,jB,jC,enP,jJ,IW z.gb,z.st]
  exact z.out (by simp -implicitDefEqProofs only [AA,↓reduceIte,jA]) (by unfold AHF; rw [if_pos hc])
 simp -implicitDefEqProofs only [BB,A8,AZ,AC,AQ,AO,BD,AX,AL,AA,AY,BO,BN,BX,BP,AB,jF,jD,jE,↓reduceIte,jA,jB,jC,enP,IW z.ga]
 refine (JE G c _).use ?_
 simp -implicitDefEqProofs only [BJ,A7,AZ,BA,AC,AQ,AO,BD,AX,AL,AA,AY,BC,↓reduceIte,jB,jC]
 refine CS (fun hd => ?_) (fun hd => ?_)
 ·simp -implicitDefEqProofs only [BB,A8,BK,A7,CQ,D5,AZ,BA,AC,AQ,AO,BD,AX,AL,DV,AA,AY,BN,CY,AB,BZ,↓reduceIte,jA,jB,jC,enP,jJ,IW z.gc,z.st]
  exact z.out (by simp -implicitDefEqProofs only [AA,↓reduceIte,jA]) (by unfold AHF; rw [hc,if_pos hd]; rfl)
 ·simp -implicitDefEqProofs only [EU,EN,BB,A8,BQ,BK,A7,EO,AZ,BA,AC,AQ,AO,BD,AX,AL,DV,AA,AY,FO,BN,CY,BG,XM,YP,AB,BZ,SL,U3,↓reduceIte,jA,jI,jG,jB,jC,enP,GK,GZ,jJ,GU z.gb,H6 z.gb,GU z.gc,H6 z.gc,OC,z.st]
  exact z.out (by simp -implicitDefEqProofs only [AA,↓reduceIte,jA]) (by unfold AHF; rw [hc,hd]; rfl)
end
section
variable (G:Nat→AV)
theorem AA9 (a b:Rng) (h:Hp):PCall (En G) 147 [.agg (encR a),.agg (encR b)] h (.tup [.bool (YY a b),.bool (dfB a b)]):=by
 refine MG 2 (fun n H=>rfl) ?_
 refine acN Tryz.func147 rfl ?_
 show awp _ _ _ _ _ (EH _ [.tmp 4,.tmp 5] _)
 have ga:=CX (x:=ABlk.live 2 [encR b]) (C9 h (ABlk.live 2 [encR a]))
 have gb:=C9 (h ++ [ABlk.live 2 [encR a]]) (ABlk.live 2 [encR b])
 have hx:ext h (h ++ [ABlk.live 2 [encR a]] ++ [ABlk.live 2 [encR b]]):=((ext.rfl' h).app _).app _
 simp -implicitDefEqProofs only [BB,A8,A7,AZ,BA,AC,AQ,AO,BD,AX,AL,AA,AY,AU,BM,BC,FN,BV,BF,CE,↓reduceIte,jA,jB,jC,enP,bxR]
 generalize h ++ [ABlk.live 2 [encR a]] ++ [ABlk.live 2 [encR b]]=H at ga gb hx ⊢
 generalize (h ++ [ABlk.live 2 [encR a]]).length=bb at ga gb ⊢
 generalize h.length=ba at ga gb ⊢
 refine EZ (by kernel_rfl) ?_
 have second : ∀ q:Bool,q=YY a b→q=YY a b:=fun _ h=>h
 simp -implicitDefEqProofs only [FD,DR,CZ,DU,D7,EW,ES,ED,EP,EF,CO,AC,AA,AY,BO,BN,AB,jF,jD,jE,↓reduceIte,jA,jK,jB,enP,IW ga]
 refine ⟨_,KL G a _,?_⟩
 try simp -implicitDefEqProofs only []
 refine PM (fun h1 => ?_) (fun h1 => ?_)
 ·simp -implicitDefEqProofs only [FD,DR,CZ,DU,D7,EW,PL,ES,FZ,ED,EP,EF,CO,AC,AA,AY,AU,BO,BM,CP,DL,BN,AB,jF,jD,jE,↓reduceIte,jA,jK,jB,enP,h1,IW gb]
  refine ⟨_,KL G b _,?_⟩
  try simp -implicitDefEqProofs only [h1]
  refine PM (fun h2 => ?_) (fun h2 => ?_)
  ·simp -implicitDefEqProofs only [FD,DR,CZ,DU,D7,EW,PL,ES,FZ,ED,IJ,DK,CO,AC,AA,AY,AU,BM,CP,DL,BN,BR,BG,AB,DW,DF,↓reduceIte,jA,jK,jI,jG,jB,enP,GK,GZ,h1,h2,GU ga,H6 ga,GU gb,H6 gb]
   refine PM (fun h3 => ?_) (fun h3 => ?_)
   ·simp -implicitDefEqProofs only [FD,DR,CZ,D9,DU,D7,EW,PN,G9,FZ,BK,A7,QE,CO,AC,AA,EG,AY,AU,BM,CP,DL,↓reduceIte,jA,jK,jB,h1,h2,h3,GU ga,H6 ga,GU gb,H6 gb]
    exact ⟨by unfold YY dfB; rw [h1,h2,h3]; simp,hx⟩
   ·simp -implicitDefEqProofs only [FD,DR,CZ,D9,DU,D7,EW,MX,G9,FZ,ED,IJ,DK,BK,A7,QE,CO,AC,AA,AY,AU,BM,CP,DN,BN,BR,BG,AB,DF,↓reduceIte,jA,jK,jI,jG,jB,enP,GK,GZ,h1,h2,h3,GU ga,H6 ga,GU gb,H6 gb]
    exact ⟨by unfold YY dfB; rw [h1,h2,h3]; simp,hx⟩
  ·simp -implicitDefEqProofs only [FD,DR,CZ,DU,D7,EW,RN,ES,FZ,ED,IJ,DK,CO,AC,AA,EG,AY,AU,BM,CP,DN,BN,BR,BG,AB,DF,↓reduceIte,jA,jK,jI,jG,jB,enP,GK,GZ,h1,h2,GU ga,H6 ga,GU gb,H6 gb]
   refine PM (fun h3 => ?_) (fun h3 => ?_)
   ·simp -implicitDefEqProofs only [FD,DR,CZ,D9,DU,D7,EW,PN,G9,FZ,BK,A7,QE,CO,AC,AA,EG,AY,AU,BM,CP,DL,↓reduceIte,jA,jK,jB,h1,h2,h3,GU ga,H6 ga,GU gb,H6 gb]
    exact ⟨by unfold YY dfB; rw [h1,h2,h3]; simp,hx⟩
   ·simp -implicitDefEqProofs only [FD,DR,CZ,D9,DU,D7,EW,MX,G9,FZ,ED,IJ,DK,BK,A7,QE,CO,AC,AA,AY,AU,BM,CP,DN,BN,BR,BG,AB,DF,↓reduceIte,jA,jK,jI,jG,jB,enP,GK,GZ,h1,h2,h3,GU ga,H6 ga,GU gb,H6 gb]
    exact ⟨by unfold YY dfB; rw [h1,h2,h3]; simp,hx⟩
 ·simp -implicitDefEqProofs only [FD,DR,CZ,DU,D7,EW,RN,ES,FZ,ED,IJ,DK,CO,AC,AA,EG,AY,AU,BM,CP,DN,BN,BR,BG,AB,DF,↓reduceIte,jA,jK,jI,jG,jB,enP,GK,GZ,h1,GU ga,H6 ga,GU gb,H6 gb]
  refine PM (fun h3 => ?_) (fun h3 => ?_)
  ·simp -implicitDefEqProofs only [FD,DR,CZ,D9,DU,D7,EW,PN,G9,FZ,BK,A7,QE,CO,AC,AA,EG,AY,AU,BM,CP,DL,↓reduceIte,jA,jK,jB,h1,h3,GU ga,H6 ga,GU gb,H6 gb]
   exact ⟨by unfold YY dfB; rw [h1,h3]; simp,hx⟩
  ·simp -implicitDefEqProofs only [FD,DR,CZ,D9,DU,D7,EW,MX,G9,FZ,ED,IJ,DK,BK,A7,QE,CO,AC,AA,AY,AU,BM,CP,DN,BN,BR,BG,AB,DF,↓reduceIte,jA,jK,jI,jG,jB,enP,GK,GZ,h1,h3,GU ga,H6 ga,GU gb,H6 gb]
   exact ⟨by unfold YY dfB; rw [h1,h3]; simp,hx⟩
set_option maxHeartbeats 2000000 in
theorem ANG (op:Int) (a b:Rng) (ha:wfR a) (hb:wfR b) (_hop:7≤op∧op≤21) (h:Hp):PCall (En G) 98 [.int .i64 op,.agg (encR a),.agg (encR b)] h (.agg (encR (MV op a b))):=by
 have ha':=ha
 have hb':=hb
 obtain ⟨a0,a1,a2⟩:=ha
 obtain ⟨b0,b1,b2⟩:=hb
 refine MG 2 (fun n H=>rfl) ?_
 refine acN Tryz.func98 rfl ?_
 show awp _ _ _ _ _ (EH _ [.cell 6 34] _)
 have z:=Z2.mk' h a b
 simp -implicitDefEqProofs only [BB,CJ,A8,BJ,A7,AZ,BA,AC,AQ,AO,BD,AX,AL,AA,AY,AU,BH,BI,BC,EX,FN,BR,BV,AB,DW,BF,CE,↓reduceIte,jA,jB,jC,enP,bxR,OD]
 generalize h ++ [ABlk.live 2 [encR a]] ++ [ABlk.live 2 [encR b]] ++ [ABlk.live 2 [zR]]=H at z ⊢
 generalize (h ++ [ABlk.live 2 [encR a]] ++ [ABlk.live 2 [encR b]]).length=bz at z ⊢
 generalize (h ++ [ABlk.live 2 [encR a]]).length=bb at z ⊢
 generalize h.length=ba at z ⊢
 by_cases h7:op=7
 ·have c7:(op == 7)=true:=by simpa using h7
  simp -implicitDefEqProofs only [BB,A8,DY,AZ,AC,AQ,AO,BD,AX,AL,AA,AY,BO,BN,BX,BP,AB,jF,jD,jE,↓reduceIte,jA,jB,jC,enP,c7,IW z.ga,IW z.gb]
  refine (ALG G a b ha' hb' _).use ?_
  simp -implicitDefEqProofs only [BK,A7,CQ,D5,AZ,BA,AC,AQ,AO,BD,AX,AL,DV,AA,AY,CY,BZ,↓reduceIte,jA,jC,enP,jJ,z.st]
  exact z.out (by simp -implicitDefEqProofs only [AA,↓reduceIte,jA]) (by unfold MV; rw [if_pos (by omega)])
 have c7:(op == 7)=false:=by simpa using h7
 by_cases h8:op=8
 ·have c8:(op == 8)=true:=by simpa using h8
  simp -implicitDefEqProofs only [BB,A8,BJ,A7,DY,EC,AZ,BA,AC,AQ,AO,BD,AX,AL,AA,AY,AU,BO,BH,BC,BN,BR,BX,BP,AB,DW,jF,jD,jE,↓reduceIte,jA,jB,jC,enP,c7,c8,IW z.ga,IW z.gb]
  refine (AM4 G a b ha' hb' _).use ?_
  simp -implicitDefEqProofs only [BK,A7,CQ,D5,AZ,BA,AC,AQ,AO,BD,AX,AL,DV,AA,AY,CY,BZ,↓reduceIte,jA,jC,enP,jJ,z.st]
  exact z.out (by simp -implicitDefEqProofs only [AA,↓reduceIte,jA]) (by unfold MV; rw [if_neg (by omega),if_pos (by omega)])
 have c8:(op == 8)=false:=by simpa using h8
 by_cases h9:op=9
 ·have c9:(op == 9)=true:=by simpa using h9
  have m1:0≤a.lo * b.lo:=Int.mul_nonneg a0 b0
  have m2:a.lo * b.lo≤65535 * 65535:=Int.mul_le_mul (by omega) (by omega) b0 (by decide)
  have m3:0≤a.hi * b.hi:=Int.mul_nonneg (by omega) (by omega)
  have m4:a.hi * b.hi≤65535 * 65535:=Int.mul_le_mul a2 b2 (by omega) (by decide)
  simp -implicitDefEqProofs only [BB,A8,BJ,A7,DY,EC,AZ,BA,AC,AQ,AO,BD,AX,AL,AA,AY,AU,BO,BH,BC,BN,BR,BG,BX,BP,AB,AP1,DW,jF,jD,jE,↓reduceIte,jA,jI,jG,jB,jC,enP,GK,GZ,c7,c8,c9,GU z.ga,H6 z.ga,GU z.gb,H6 z.gb,wrap_i64 (n:=a.lo * b.lo) (by omega) (by omega),wrap_i64 (n:=a.hi * b.hi) (by omega) (by omega)]
  refine (Z8 G _ _ _).use ?_
  simp -implicitDefEqProofs only [BK,A7,CQ,D5,AZ,BA,AC,AQ,AO,BD,AX,AL,DV,AA,AY,CY,BZ,↓reduceIte,jA,jC,enP,jJ,z.st]
  exact z.out (by simp -implicitDefEqProofs only [AA,↓reduceIte,jA]) (by unfold MV; rw [if_neg (by omega),if_neg (by omega),if_pos (by omega)]; rfl)
 have c9:(op == 9)=false:=by simpa using h9
 by_cases h10:op=10
 ·have c10:(op == 10)=true:=by simpa using h10
  simp -implicitDefEqProofs only [BB,A8,BQ,BJ,A7,DY,EC,AZ,BA,AC,AQ,AO,BD,AX,AL,AA,AY,AU,BO,BH,BI,BC,BN,BR,BX,BP,AB,DW,BF,jF,jD,jE,↓reduceIte,jA,jB,jC,enP,c7,c8,c9,c10,IW z.ga,IW z.gb]
  refine (AAC G op a b ha' hb' _).use ?_
  simp -implicitDefEqProofs only [BK,A7,CQ,D5,AZ,BA,AC,AQ,AO,BD,AX,AL,DV,AA,AY,CY,BZ,↓reduceIte,jA,jC,enP,jJ,z.st]
  exact z.out (by simp -implicitDefEqProofs only [AA,↓reduceIte,jA]) (by unfold MV; rw [if_neg (by omega),if_neg (by omega),if_neg (by omega),if_pos (by omega)])
 have c10:(op == 10)=false:=by simpa using h10
 by_cases h11:op=11
 ·have c11:(op == 11)=true:=by simpa using h11
  simp -implicitDefEqProofs only [BB,A8,BQ,BJ,A7,DY,EC,AZ,BA,AC,AQ,AO,BD,AX,AL,AA,AY,AU,BO,BH,BI,BC,BN,BR,BX,BP,AB,DW,BF,jF,jD,jE,↓reduceIte,jA,jB,jC,enP,c7,c8,c9,c10,c11,IW z.ga,IW z.gb]
  refine (AAC G op a b ha' hb' _).use ?_
  simp -implicitDefEqProofs only [BK,A7,CQ,D5,AZ,BA,AC,AQ,AO,BD,AX,AL,DV,AA,AY,CY,BZ,↓reduceIte,jA,jC,enP,jJ,z.st]
  exact z.out (by simp -implicitDefEqProofs only [AA,↓reduceIte,jA]) (by unfold MV; rw [if_neg (by omega),if_neg (by omega),if_neg (by omega),if_pos (by omega)])
 have c11:(op == 11)=false:=by simpa using h11
 by_cases h12:op=12
 ·have c12:(op == 12)=true:=by simpa using h12
  simp -implicitDefEqProofs only [BB,A8,BJ,A7,DY,EC,AZ,BA,AC,AQ,AO,BD,AX,AL,AA,AY,AU,BO,BH,BI,BC,BN,BR,BX,BP,AB,DW,BF,jF,jD,jE,↓reduceIte,jA,jB,jC,enP,c7,c8,c9,c10,c11,c12,IW z.ga,IW z.gb]
  refine (AAC G op a b ha' hb' _).use ?_
  simp -implicitDefEqProofs only [BK,A7,CQ,D5,AZ,BA,AC,AQ,AO,BD,AX,AL,DV,AA,AY,CY,BZ,↓reduceIte,jA,jC,enP,jJ,z.st]
  exact z.out (by simp -implicitDefEqProofs only [AA,↓reduceIte,jA]) (by unfold MV; rw [if_neg (by omega),if_neg (by omega),if_neg (by omega),if_pos (by omega)])
 have c12:(op == 12)=false:=by simpa using h12
 by_cases h13:op=13
 ·have c13:(op == 13)=true:=by simpa using h13
  simp -implicitDefEqProofs only [BB,A8,BJ,A7,DY,EC,AZ,BA,AC,AQ,AO,BD,AX,AL,AA,AY,AU,BO,BH,BC,BN,BR,BX,BP,AB,DW,jF,jD,jE,↓reduceIte,jA,jB,jC,enP,c7,c8,c9,c10,c11,c12,c13,IW z.ga,IW z.gb]
  refine (ALI G a b ha' hb' _).use ?_
  simp -implicitDefEqProofs only [BK,A7,CQ,D5,AZ,BA,AC,AQ,AO,BD,AX,AL,DV,AA,AY,CY,BZ,↓reduceIte,jA,jC,enP,jJ,z.st]
  exact z.out (by simp -implicitDefEqProofs only [AA,↓reduceIte,jA]) (by unfold MV; rw [if_neg (by omega),if_neg (by omega),if_neg (by omega),if_neg (by omega),if_pos (by omega)])
 have c13:(op == 13)=false:=by simpa using h13
 by_cases h14:op=14
 ·have c14:(op == 14)=true:=by simpa using h14
  simp -implicitDefEqProofs only [BB,A8,BJ,A7,DY,EC,AZ,BA,AC,AQ,AO,BD,AX,AL,AA,AY,AU,BH,BC,BR,AB,DW,↓reduceIte,jA,jB,jC,enP,c7,c8,c9,c10,c11,c12,c13,c14]
  refine EZ (by kernel_rfl) ?_
  simp -implicitDefEqProofs only [FD,EU,EN,DR,CZ,DU,NJ,ED,DK,EP,EF,AC,AA,AY,BO,FO,BN,BG,AB,jF,jD,jE,↓reduceIte,jA,jK,jI,jG,jB,enP,GK,GZ,GU z.ga,H6 z.ga,GU z.gb,H6 z.gb]
  refine ⟨_,AD8 G a.lo b.hi (by omega) _,?_⟩
  try simp -implicitDefEqProofs only [GU z.ga,H6 z.ga,GU z.gb,H6 z.gb]
  refine ⟨_,AD8 G a.hi b.lo (by omega) _,?_⟩
  simp -implicitDefEqProofs only [FD,DR,CZ,GL,D9,DU,GI,BK,A7,CQ,D5,AC,AA,AY,CY,AB,BZ,↓reduceIte,jA,jG,enP,jJ,OC,z.st]
  exact z.out (by simp -implicitDefEqProofs only [AA,↓reduceIte,jA]) (by unfold MV; rw [if_neg (by omega),if_neg (by omega),if_neg (by omega),if_neg (by omega),if_neg (by omega),if_pos (by omega)])
 have c14:(op == 14)=false:=by simpa using h14
 by_cases h15:op=15
 ·have c15:(op == 15)=true:=by simpa using h15
  simp -implicitDefEqProofs only [BB,A8,BJ,A7,DY,EC,AZ,BA,AC,AQ,AO,BD,AX,AL,AA,AY,AU,BO,BH,BC,BN,BR,BX,BP,AB,DW,jF,jD,jE,↓reduceIte,jA,jB,jC,enP,c7,c8,c9,c10,c11,c12,c13,c14,c15,IW z.ga,IW z.gb]
  refine (AA9 G a b _).use ?_
  simp -implicitDefEqProofs only [zG,zK,AZ,AC,AQ,AO,BD,AX,AL,AA,AY,BO,H7,JO,BX,BP,AB,jF,jD,jE,↓reduceIte,jA,jB,jC]
  refine (JI G _ _ _).use ?_
  simp -implicitDefEqProofs only [BK,A7,CQ,D5,AZ,BA,AC,AQ,AO,BD,AX,AL,DV,AA,AY,CY,BZ,↓reduceIte,jA,jC,enP,jJ,z.st]
  exact z.out (by simp -implicitDefEqProofs only [AA,↓reduceIte,jA]) (by unfold MV; rw [if_neg (by omega),if_neg (by omega),if_neg (by omega),if_neg (by omega),if_neg (by omega),if_neg (by omega),if_pos (by omega)])
 have c15:(op == 15)=false:=by simpa using h15
 by_cases h16:op=16
 ·have c16:(op == 16)=true:=by simpa using h16
  simp -implicitDefEqProofs only [BB,A8,BJ,A7,DY,EC,AZ,BA,AC,AQ,AO,BD,AX,AL,AA,AY,AU,BO,BH,BC,BN,BR,BX,BP,AB,DW,jF,jD,jE,↓reduceIte,jA,jB,jC,enP,c7,c8,c9,c10,c11,c12,c13,c14,c15,c16,IW z.ga,IW z.gb]
  refine (AA9 G a b _).use ?_
  simp -implicitDefEqProofs only [zG,zK,BB,A8,A7,AZ,BA,AC,AQ,AO,BD,AX,AL,AA,AY,BO,BI,BC,H7,JO,BX,BP,AB,jF,jD,jE,↓reduceIte,jA,jB,jC]
  refine (JI G _ _ _).use ?_
  simp -implicitDefEqProofs only [BK,A7,CQ,D5,AZ,BA,AC,AQ,AO,BD,AX,AL,DV,AA,AY,CY,BZ,↓reduceIte,jA,jC,enP,jJ,z.st]
  exact z.out (by simp -implicitDefEqProofs only [AA,↓reduceIte,jA]) (by unfold MV; rw [if_neg (by omega),if_neg (by omega),if_neg (by omega),if_neg (by omega),if_neg (by omega),if_neg (by omega),if_neg (by omega),if_pos (by omega)])
 have c16:(op == 16)=false:=by simpa using h16
 by_cases h17:op=17
 ·have c17:(op == 17)=true:=by simpa using h17
  simp -implicitDefEqProofs only [BB,A8,BJ,A7,DY,EC,AZ,BA,AC,AQ,AO,BD,AX,AL,AA,AY,AU,BO,BH,BC,BN,BR,BG,BX,BP,AB,DW,DF,FQ,jF,jD,jE,↓reduceIte,jA,jI,jG,jB,jC,enP,GK,GZ,c7,c8,c9,c10,c11,c12,c13,c14,c15,c16,c17,GU z.ga,H6 z.ga,GU z.gb,H6 z.gb]
  refine (JI G _ _ _).use ?_
  simp -implicitDefEqProofs only [BK,A7,CQ,D5,AZ,BA,AC,AQ,AO,BD,AX,AL,DV,AA,AY,CY,BZ,↓reduceIte,jA,jC,enP,jJ,z.st]
  exact z.out (by simp -implicitDefEqProofs only [AA,↓reduceIte,jA]) (by unfold MV; rw [if_neg (by omega),if_neg (by omega),if_neg (by omega),if_neg (by omega),if_neg (by omega),if_neg (by omega),if_neg (by omega),if_neg (by omega),if_pos (by omega)])
 have c17:(op == 17)=false:=by simpa using h17
 by_cases h18:op=18
 ·have c18:(op == 18)=true:=by simpa using h18
  simp -implicitDefEqProofs only [BB,A8,BJ,A7,DY,EC,AZ,BA,AC,AQ,AO,BD,AX,AL,AA,AY,AU,BO,BH,BC,BN,BR,BG,BX,BP,AB,DW,KH,E8,jF,jD,jE,↓reduceIte,jA,jI,jG,jB,jC,enP,GK,GZ,c7,c8,c9,c10,c11,c12,c13,c14,c15,c16,c17,c18,GU z.ga,H6 z.ga,GU z.gb,H6 z.gb]
  refine (JI G _ _ _).use ?_
  simp -implicitDefEqProofs only [BK,A7,CQ,D5,AZ,BA,AC,AQ,AO,BD,AX,AL,DV,AA,AY,CY,BZ,↓reduceIte,jA,jC,enP,jJ,z.st]
  exact z.out (by simp -implicitDefEqProofs only [AA,↓reduceIte,jA]) (by unfold MV; rw [if_neg (by omega),if_neg (by omega),if_neg (by omega),if_neg (by omega),if_neg (by omega),if_neg (by omega),if_neg (by omega),if_neg (by omega),if_neg (by omega),if_pos (by omega)])
 have c18:(op == 18)=false:=by simpa using h18
 by_cases h19:op=19
 ·have c19:(op == 19)=true:=by simpa using h19
  simp -implicitDefEqProofs only [BB,A8,BJ,A7,DY,EC,AZ,BA,AC,AQ,AO,BD,AX,AL,AA,AY,AU,BH,BC,BR,AB,DW,↓reduceIte,jA,jB,jC,enP,c7,c8,c9,c10,c11,c12,c13,c14,c15,c16,c17,c18,c19]
  refine EZ (by kernel_rfl) ?_
  simp -implicitDefEqProofs only [FD,DR,CZ,DU,D7,EW,ES,ED,EP,EF,CO,AC,AA,AY,BO,BN,AB,jF,jD,jE,↓reduceIte,jA,jK,jB,enP,IW z.ga]
  refine ⟨_,KO G a _,?_⟩
  try simp -implicitDefEqProofs only []
  refine PM (fun h1 => ?_) (fun h1 => ?_)
  ·simp -implicitDefEqProofs only [FD,DR,CZ,DU,D7,EW,PL,FZ,ED,EP,EF,CO,AC,AA,AY,AU,BO,BM,CP,DL,BN,AB,jF,jD,jE,↓reduceIte,jA,jK,jB,enP,h1,IW z.gb]
   refine ⟨_,KO G b _,?_⟩
   try simp -implicitDefEqProofs only [FD,DR,CZ,DU,D7,EW,ES,EP,EF,CO,AC,AA,AY,BO,AB,jF,jD,jE,↓reduceIte,jK,jB,h1,IW z.ga]
   refine ⟨_,JE G a _,?_⟩
   try simp -implicitDefEqProofs only [h1]
   refine PM (fun h3 => ?_) (fun h3 => ?_)
   ·simp -implicitDefEqProofs only [FD,DR,CZ,DU,D7,EW,PN,FZ,GI,EP,EF,CO,AC,AA,EG,AY,AU,BO,BM,CP,DL,CY,jF,jD,jE,↓reduceIte,jA,jK,jG,jB,enP,jJ,h1,h3]
    refine ⟨_,JI G _ _ _,?_⟩
    simp -implicitDefEqProofs only [GL,D9,BK,A7,CQ,D5,BZ,z.st]
    exact z.out (by simp -implicitDefEqProofs only [AA,↓reduceIte,jA]) (by unfold MV; rw [if_neg (by omega),if_neg (by omega),if_neg (by omega),if_neg (by omega),if_neg (by omega),if_neg (by omega),if_neg (by omega),if_neg (by omega),if_neg (by omega),if_neg (by omega),if_pos (by omega)]; rw [h1,h3]; simp)
   ·simp -implicitDefEqProofs only [FD,DR,CZ,DU,D7,EW,MX,FZ,ED,GI,EP,EF,CO,AC,AA,AY,AU,BO,BM,CP,DN,BN,CY,AB,jF,jD,jE,↓reduceIte,jA,jK,jG,jB,enP,jJ,h1,h3,IW z.gb]
    refine ⟨_,JE G b _,?_⟩
    try simp -implicitDefEqProofs only [h1,h3]
    refine ⟨_,JI G _ _ _,?_⟩
    simp -implicitDefEqProofs only [GL,D9,BK,A7,CQ,D5,BZ,z.st]
    exact z.out (by simp -implicitDefEqProofs only [AA,↓reduceIte,jA]) (by unfold MV; rw [if_neg (by omega),if_neg (by omega),if_neg (by omega),if_neg (by omega),if_neg (by omega),if_neg (by omega),if_neg (by omega),if_neg (by omega),if_neg (by omega),if_neg (by omega),if_pos (by omega)]; rw [h1,h3]; simp)
  ·simp -implicitDefEqProofs only [FD,DR,CZ,DU,D7,EW,RN,ES,FZ,ED,EP,EF,CO,AC,AA,EG,AY,AU,BO,BM,CP,DN,BN,AB,jF,jD,jE,↓reduceIte,jA,jK,jB,enP,h1,IW z.ga]
   refine ⟨_,JE G a _,?_⟩
   try simp -implicitDefEqProofs only [h1]
   refine PM (fun h3 => ?_) (fun h3 => ?_)
   ·simp -implicitDefEqProofs only [FD,DR,CZ,DU,D7,EW,PN,FZ,GI,EP,EF,CO,AC,AA,EG,AY,AU,BO,BM,CP,DL,CY,jF,jD,jE,↓reduceIte,jA,jK,jG,jB,enP,jJ,h1,h3]
    refine ⟨_,JI G _ _ _,?_⟩
    simp -implicitDefEqProofs only [GL,D9,BK,A7,CQ,D5,BZ,z.st]
    exact z.out (by simp -implicitDefEqProofs only [AA,↓reduceIte,jA]) (by unfold MV; rw [if_neg (by omega),if_neg (by omega),if_neg (by omega),if_neg (by omega),if_neg (by omega),if_neg (by omega),if_neg (by omega),if_neg (by omega),if_neg (by omega),if_neg (by omega),if_pos (by omega)]; rw [h1,h3]; simp)
   ·simp -implicitDefEqProofs only [FD,DR,CZ,DU,D7,EW,MX,FZ,ED,GI,EP,EF,CO,AC,AA,AY,AU,BO,BM,CP,DN,BN,CY,AB,jF,jD,jE,↓reduceIte,jA,jK,jG,jB,enP,jJ,h1,h3,IW z.gb]
    refine ⟨_,JE G b _,?_⟩
    try simp -implicitDefEqProofs only [h1,h3]
    refine ⟨_,JI G _ _ _,?_⟩
    simp -implicitDefEqProofs only [GL,D9,BK,A7,CQ,D5,BZ,z.st]
    exact z.out (by simp -implicitDefEqProofs only [AA,↓reduceIte,jA]) (by unfold MV; rw [if_neg (by omega),if_neg (by omega),if_neg (by omega),if_neg (by omega),if_neg (by omega),if_neg (by omega),if_neg (by omega),if_neg (by omega),if_neg (by omega),if_neg (by omega),if_pos (by omega)]; rw [h1,h3]; simp)
 have c19:(op == 19)=false:=by simpa using h19
 by_cases h20:op=20
 ·have c20:(op == 20)=true:=by simpa using h20
  simp -implicitDefEqProofs only [BB,A8,BJ,A7,DY,EC,AZ,BA,AC,AQ,AO,BD,AX,AL,AA,AY,AU,BH,BC,BR,AB,DW,↓reduceIte,jA,jB,jC,enP,c7,c8,c9,c10,c11,c12,c13,c14,c15,c16,c17,c18,c19,c20]
  refine EZ (by kernel_rfl) ?_
  simp -implicitDefEqProofs only [FD,DR,CZ,DU,D7,EW,ES,ED,EP,EF,CO,AC,AA,AY,BO,BN,AB,jF,jD,jE,↓reduceIte,jA,jK,jB,enP,IW z.ga]
  refine ⟨_,KO G a _,?_⟩
  try simp -implicitDefEqProofs only []
  refine PM (fun h1 => ?_) (fun h1 => ?_)
  ·simp -implicitDefEqProofs only [FD,DR,CZ,DU,D7,EW,PN,ES,FZ,ED,EP,EF,CO,AC,AA,EG,AY,AU,BO,BM,CP,DL,BN,AB,jF,jD,jE,↓reduceIte,jA,jK,jB,enP,h1,IW z.ga]
   refine ⟨_,JE G a _,?_⟩
   try simp -implicitDefEqProofs only [h1]
   refine PM (fun h3 => ?_) (fun h3 => ?_)
   ·simp -implicitDefEqProofs only [FD,DR,CZ,DU,D7,EW,PL,FZ,ED,GI,EP,EF,CO,AC,AA,AY,AU,BO,BM,CP,DL,BN,CY,AB,jF,jD,jE,↓reduceIte,jA,jK,jG,jB,enP,jJ,h1,h3,IW z.gb]
    refine ⟨_,JE G b _,?_⟩
    try simp -implicitDefEqProofs only [h1,h3]
    refine ⟨_,JI G _ _ _,?_⟩
    simp -implicitDefEqProofs only [GL,D9,BK,A7,CQ,D5,BZ,z.st]
    exact z.out (by simp -implicitDefEqProofs only [AA,↓reduceIte,jA]) (by unfold MV; rw [if_neg (by omega),if_neg (by omega),if_neg (by omega),if_neg (by omega),if_neg (by omega),if_neg (by omega),if_neg (by omega),if_neg (by omega),if_neg (by omega),if_neg (by omega),if_neg (by omega),if_pos (by omega)]; rw [h1,h3]; simp)
   ·simp -implicitDefEqProofs only [FD,DR,CZ,DU,D7,EW,RN,FZ,GI,EP,EF,CO,AC,AA,EG,AY,AU,BO,BM,CP,DN,CY,jF,jD,jE,↓reduceIte,jA,jK,jG,jB,enP,jJ,h1,h3]
    refine ⟨_,JI G _ _ _,?_⟩
    simp -implicitDefEqProofs only [GL,D9,BK,A7,CQ,D5,BZ,z.st]
    exact z.out (by simp -implicitDefEqProofs only [AA,↓reduceIte,jA]) (by unfold MV; rw [if_neg (by omega),if_neg (by omega),if_neg (by omega),if_neg (by omega),if_neg (by omega),if_neg (by omega),if_neg (by omega),if_neg (by omega),if_neg (by omega),if_neg (by omega),if_neg (by omega),if_pos (by omega)]; rw [h1,h3]; simp)
  ·simp -implicitDefEqProofs only [FD,DR,CZ,DU,D7,EW,MX,FZ,ED,EP,EF,CO,AC,AA,AY,AU,BO,BM,CP,DN,BN,AB,jF,jD,jE,↓reduceIte,jA,jK,jB,enP,h1,IW z.gb]
   refine ⟨_,KO G b _,?_⟩
   try simp -implicitDefEqProofs only [FD,DR,CZ,DU,D7,EW,ES,EP,EF,CO,AC,AA,AY,BO,AB,jF,jD,jE,↓reduceIte,jK,jB,h1,IW z.ga]
   refine ⟨_,JE G a _,?_⟩
   try simp -implicitDefEqProofs only [h1]
   refine PM (fun h3 => ?_) (fun h3 => ?_)
   ·simp -implicitDefEqProofs only [FD,DR,CZ,DU,D7,EW,PL,FZ,ED,GI,EP,EF,CO,AC,AA,AY,AU,BO,BM,CP,DL,BN,CY,AB,jF,jD,jE,↓reduceIte,jA,jK,jG,jB,enP,jJ,h1,h3,IW z.gb]
    refine ⟨_,JE G b _,?_⟩
    try simp -implicitDefEqProofs only [h1,h3]
    refine ⟨_,JI G _ _ _,?_⟩
    simp -implicitDefEqProofs only [GL,D9,BK,A7,CQ,D5,BZ,z.st]
    exact z.out (by simp -implicitDefEqProofs only [AA,↓reduceIte,jA]) (by unfold MV; rw [if_neg (by omega),if_neg (by omega),if_neg (by omega),if_neg (by omega),if_neg (by omega),if_neg (by omega),if_neg (by omega),if_neg (by omega),if_neg (by omega),if_neg (by omega),if_neg (by omega),if_pos (by omega)]; rw [h1,h3]; simp)
   ·simp -implicitDefEqProofs only [FD,DR,CZ,DU,D7,EW,RN,FZ,GI,EP,EF,CO,AC,AA,EG,AY,AU,BO,BM,CP,DN,CY,jF,jD,jE,↓reduceIte,jA,jK,jG,jB,enP,jJ,h1,h3]
    refine ⟨_,JI G _ _ _,?_⟩
    simp -implicitDefEqProofs only [GL,D9,BK,A7,CQ,D5,BZ,z.st]
    exact z.out (by simp -implicitDefEqProofs only [AA,↓reduceIte,jA]) (by unfold MV; rw [if_neg (by omega),if_neg (by omega),if_neg (by omega),if_neg (by omega),if_neg (by omega),if_neg (by omega),if_neg (by omega),if_neg (by omega),if_neg (by omega),if_neg (by omega),if_neg (by omega),if_pos (by omega)]; rw [h1,h3]; simp)
 have c20:(op == 20)=false:=by simpa using h20
 simp -implicitDefEqProofs only [BB,A8,BQ,BJ,A7,EO,EC,AZ,BA,AC,AQ,AO,BD,AX,AL,AA,AY,AU,BH,BC,BR,AB,DW,↓reduceIte,jA,jB,jC,enP,c7,c8,c9,c10,c11,c12,c13,c14,c15,c16,c17,c18,c19,c20]
 refine EZ (by kernel_rfl) ?_
 simp -implicitDefEqProofs only [FD,DR,CZ,DU,D7,EW,ES,ED,EP,EF,CO,AC,AA,AY,BO,BN,AB,jF,jD,jE,↓reduceIte,jA,jK,jB,enP,IW z.ga]
 refine ⟨_,JE G a _,?_⟩
 try simp -implicitDefEqProofs only []
 refine PM (fun h1 => ?_) (fun h1 => ?_)
 ·simp -implicitDefEqProofs only [FD,DR,CZ,DU,D7,EW,PN,ES,FZ,ED,EP,EF,CO,AC,AA,EG,AY,AU,BO,BM,CP,DL,BN,AB,jF,jD,jE,↓reduceIte,jA,jK,jB,enP,h1,IW z.ga]
  refine ⟨_,KO G a _,?_⟩
  try simp -implicitDefEqProofs only [h1]
  refine PM (fun h3 => ?_) (fun h3 => ?_)
  ·simp -implicitDefEqProofs only [FD,DR,CZ,DU,D7,EW,PL,FZ,ED,GI,EP,EF,CO,AC,AA,AY,AU,BO,BM,CP,DL,BN,CY,AB,jF,jD,jE,↓reduceIte,jA,jK,jG,jB,enP,jJ,h1,h3,IW z.gb]
   refine ⟨_,JE G b _,?_⟩
   try simp -implicitDefEqProofs only [h1,h3]
   refine ⟨_,JI G _ _ _,?_⟩
   simp -implicitDefEqProofs only [GL,D9,BK,A7,BZ,z.st]
   exact z.out (by simp -implicitDefEqProofs only [AA,↓reduceIte,jA]) (by unfold MV; rw [if_neg (by omega),if_neg (by omega),if_neg (by omega),if_neg (by omega),if_neg (by omega),if_neg (by omega),if_neg (by omega),if_neg (by omega),if_neg (by omega),if_neg (by omega),if_neg (by omega),if_neg (by omega)]; rw [h1,h3]; simp)
  ·simp -implicitDefEqProofs only [FD,DR,CZ,DU,D7,EW,RN,FZ,GI,EP,EF,CO,AC,AA,EG,AY,AU,BO,BM,CP,DN,CY,jF,jD,jE,↓reduceIte,jA,jK,jG,jB,enP,jJ,h1,h3]
   refine ⟨_,JI G _ _ _,?_⟩
   simp -implicitDefEqProofs only [GL,D9,BK,A7,BZ,z.st]
   exact z.out (by simp -implicitDefEqProofs only [AA,↓reduceIte,jA]) (by unfold MV; rw [if_neg (by omega),if_neg (by omega),if_neg (by omega),if_neg (by omega),if_neg (by omega),if_neg (by omega),if_neg (by omega),if_neg (by omega),if_neg (by omega),if_neg (by omega),if_neg (by omega),if_neg (by omega)]; rw [h1,h3]; simp)
 ·simp -implicitDefEqProofs only [FD,DR,CZ,DU,D7,EW,MX,FZ,ED,EP,EF,CO,AC,AA,AY,AU,BO,BM,CP,DN,BN,AB,jF,jD,jE,↓reduceIte,jA,jK,jB,enP,h1,IW z.gb]
  refine ⟨_,KO G b _,?_⟩
  try simp -implicitDefEqProofs only [FD,DR,CZ,DU,D7,EW,ES,EP,EF,CO,AC,AA,AY,BO,AB,jF,jD,jE,↓reduceIte,jK,jB,h1,IW z.ga]
  refine ⟨_,KO G a _,?_⟩
  try simp -implicitDefEqProofs only [h1]
  refine PM (fun h3 => ?_) (fun h3 => ?_)
  ·simp -implicitDefEqProofs only [FD,DR,CZ,DU,D7,EW,PL,FZ,ED,GI,EP,EF,CO,AC,AA,AY,AU,BO,BM,CP,DL,BN,CY,AB,jF,jD,jE,↓reduceIte,jA,jK,jG,jB,enP,jJ,h1,h3,IW z.gb]
   refine ⟨_,JE G b _,?_⟩
   try simp -implicitDefEqProofs only [h1,h3]
   refine ⟨_,JI G _ _ _,?_⟩
   simp -implicitDefEqProofs only [GL,D9,BK,A7,BZ,z.st]
   exact z.out (by simp -implicitDefEqProofs only [AA,↓reduceIte,jA]) (by unfold MV; rw [if_neg (by omega),if_neg (by omega),if_neg (by omega),if_neg (by omega),if_neg (by omega),if_neg (by omega),if_neg (by omega),if_neg (by omega),if_neg (by omega),if_neg (by omega),if_neg (by omega),if_neg (by omega)]; rw [h1,h3]; simp)
  ·simp -implicitDefEqProofs only [FD,DR,CZ,DU,D7,EW,RN,FZ,GI,EP,EF,CO,AC,AA,EG,AY,AU,BO,BM,CP,DN,CY,jF,jD,jE,↓reduceIte,jA,jK,jG,jB,enP,jJ,h1,h3]
   refine ⟨_,JI G _ _ _,?_⟩
   simp -implicitDefEqProofs only [GL,D9,BK,A7,BZ,z.st]
   exact z.out (by simp -implicitDefEqProofs only [AA,↓reduceIte,jA]) (by unfold MV; rw [if_neg (by omega),if_neg (by omega),if_neg (by omega),if_neg (by omega),if_neg (by omega),if_neg (by omega),if_neg (by omega),if_neg (by omega),if_neg (by omega),if_neg (by omega),if_neg (by omega),if_neg (by omega)]; rw [h1,h3]; simp)
end
theorem ALH (H:Hp) (x:ABlk) (r:Rng):FT Tryz.prog (H ++ [ABlk.live 2 [zR]] ++ [x]) 34 (.ptr H.length 0 0) (.agg (encR r))=some (H ++ [ABlk.live 2 [encR r]] ++ [x]):=by
 rw [ART r (CX (C9 H (ABlk.live 2 [zR]))) rfl,List.set_append_left _ _ (by simp),LX]
theorem VJ (H:Hp) (r:Rng):FT Tryz.prog (H ++ [ABlk.live 2 [zR]]) 34 (.ptr H.length 0 0) (.agg (encR r))=some (H ++ [ABlk.live 2 [encR r]]):=by
 rw [ART r (C9 H (ABlk.live 2 [zR])) rfl,LX]
theorem ZF {h:Hp} {o:Nat} {vs:List Rng} {k:Nat} (ho:h[o]? = some (.live 2 (vs.map encR))) (hk:k < vs.length):DI Tryz.prog h 34 (.ptr o k 0)=some (.agg (encR vs[k])):=by
 rw [GV AFW SA ho (row:=encR vs[k]) (by rw [zB,jV hk]; rfl) (jL 2)]; rfl
theorem AMD (a:Rng) (imp:Bool) (l:List Rng) (k:Nat) (hk:k+1 < l.length):UA a imp (l.drop k)=if AEP a l[k] l[k+1]=true then ⟨1,1⟩ else UA a (if AMF a l[k] l[k+1]=true then false else imp) (l.drop (k+2)):=by
 rw [qH (by omega:k < l.length),qH hk]; rfl
theorem APB (a:Rng) (imp:Bool) (l:List Rng) (k:Nat) (hk:l.length≤k+1):UA a imp (l.drop k)=knR false imp:=by
 rcases Nat.lt_or_ge k l.length with h | h
 ·rw [qH h,zZ hk]; rfl
 ·rw [zZ h]; rfl
section
variable (G:Nat→AV)
set_option maxHeartbeats 1000000 in
theorem AME (a:Rng) (vs:List Rng) (o:Nat) (h:Hp) (ho:h[o]? = some (.live 2 (vs.map encR))) (hn:vs.length≤1048576) (h1:1≤vs.length):PCall (En G) 97 [.agg (encR a),.own o 1 (vs.length - 1)] h (.agg (encR (UA a true (vs.drop 1)))):=by
 refine MG 2 (fun n H=>rfl) ?_
 refine acN Tryz.func97 rfl ?_
 show awp _ _ _ _ _ (EH _ [.cell 4 34] _)
 have z:=Z1.mk' h a
 have ho1:(h ++ [ABlk.live 2 [encR a]] ++ [ABlk.live 2 [zR]])[o]? = some (.live 2 (vs.map encR)):=CX (CX ho)
 simp -implicitDefEqProofs only [BB,CJ,A8,A7,AZ,BA,AC,AQ,AO,BD,AX,AL,AY,AU,BH,BM,BC,EX,FN,BV,BF,jB,jC,enP,bxR,OD]
 generalize h ++ [ABlk.live 2 [encR a]] ++ [ABlk.live 2 [zR]]=H0 at z ho1 ⊢
 generalize (h ++ [ABlk.live 2 [encR a]]).length=bz at z ⊢
 generalize h.length=ba at z ⊢
 refine JC 0 (fun F H => ∃ imp,F 4 = .ptr bz 0 0∧F 5 = .bool imp∧ext H0 H∧UA a true (vs.drop 1)=knR false imp) (fun F H=>EH Tryz.prog [.cell 4 34] (fun v H=>v = .agg (encR (UA a true (vs.drop 1)))∧Sm.ext h H) .ret F H) ?_ ?_ ?_
 ·refine D8 (fun n F H => ∃ i imp,n+i=vs.length+1∧F 1 = .own o 1 (vs.length - 1)∧F 2 = .ptr ba 0 0∧F 4 = .ptr bz 0 0∧F 5 = .bool imp∧F 6 = .int .i64 (i:Nat)∧ext H0 H∧UA a true (vs.drop 1)=UA a imp (vs.drop (1+i))) (vs.length+1)
   ⟨0,true,by simp,by simp -implicitDefEqProofs only [AA,BF,CE,↓reduceIte,jA],by simp -implicitDefEqProofs only [AA,↓reduceIte,jA],by simp -implicitDefEqProofs only [AA,↓reduceIte,jA],by simp -implicitDefEqProofs only [AA,↓reduceIte,jA],by simp -implicitDefEqProofs only [AA,↓reduceIte]; rfl,ext.rfl' _,rfl⟩ ?_
  rintro n F H ⟨i,imp,hi,f1,f2,f4,f5,f6,hx,he⟩
  have zH:Z1 h H ba bz a:=⟨⟨FX hx z.gz,z.hx.trans hx,z.hl⟩,FX hx z.ga⟩
  have hoH:=FX hx ho1
  have hc1:((vs.length - 1:Nat):Int)=(vs.length:Int) - 1:=by omega
  simp -implicitDefEqProofs only [BB,A8,BJ,A7,AZ,BA,AC,AQ,AO,BD,AX,AL,AA,AY,AU,BH,BI,BR,FH,AB,DZ,DF,↓reduceIte,jA,jB,jC,enP,AEM,f1,f6,wrap_succ (show i < 9223372036854775807 by omega)]
  refine CS (fun hc => ?_) (fun hc => ?_)
  ·have hc:i+1 < vs.length - 1:=by simp at hc; omega
   have i1:JV 2 H (.own o 1 (vs.length - 1)) (.int .i64 (i:Nat))=some (.ptr o (1+i) 0):=KD hoH (by omega)
   have i2:JV 2 H (.own o 1 (vs.length - 1)) (.int .i64 ((i+1:Nat):Int))=some (.ptr o (1+(i+1)) 0):=KD hoH (by omega)
   have l1:=ZF hoH (show 1+i < vs.length by omega)
   have l2:=ZF hoH (show 1+(i+1) < vs.length by omega)
   have hst:=AMD a imp vs (1+i) (by omega)
   simp -implicitDefEqProofs only [BB,CJ,BQ,A7]
   refine TS (fun F H'=>F 1 = .own o 1 (vs.length - 1)∧F 2 = .ptr ba 0 0∧F 4 = .ptr bz 0 0∧F 5 = .bool imp∧F 6 = .int .i64 (i:Nat)∧ext H H'∧∃ b7 b8,F 7 = .ptr b7 0 0∧F 8 = .ptr b8 0 0∧H'[b7]? = some (.live 2 [encR vs[1+i]])∧H'[b8]? = some (.live 2 [encR vs[1+(i+1)]])) (fun _ _=>False) ?_ ?_ (fun _ _ q=>q.elim)
   ·refine AFN (.ones [0,1,2,3,4,5,6,7] (.alt 8 (.alt 9 (.ones [10,11,12] .done) (.alt 10 (.ones [9,11,12] .done) (.non))) (.alt 9 (.alt 8 (.ones [10,11,12] .done) (.alt 10 (.alt 8 (.ones [11,12] .done) (.alt 11 (.ones [8,12] .done) (.non))) (.non))) (.alt 10 (.alt 8 (.ones [9,11,12] .done) (.alt 9 (.alt 8 (.ones [11,12] .done) (.alt 11 (.ones [8,12] .done) (.non))) (.non))) (.non))))) (by kernel_rfl) ?_
    have lA : ∀ x:ABlk,DI Tryz.prog (H ++ [x]) 34 (.ptr o (1+(i+1)) 0)=some (.agg (encR vs[1+(i+1)])):=fun x=>ZF (CX hoH) (show 1+(i+1) < vs.length by omega)
    have lB : ∀ x y:ABlk,DI Tryz.prog (H ++ [x] ++ [y]) 34 (.ptr o (1+(i+1)) 0)=some (.agg (encR vs[1+(i+1)])):=fun x y=>ZF (CX (CX hoH)) (show 1+(i+1) < vs.length by omega)
    have g : ∀ r s:Rng,(H ++ [ABlk.live 2 [encR r]] ++ [ABlk.live 2 [encR s]])[H.length]? = some (.live 2 [encR r])∧(H ++ [ABlk.live 2 [encR r]] ++ [ABlk.live 2 [encR s]])[(H ++ [ABlk.live 2 [zR]]).length]? = some (.live 2 [encR s]):=fun r s=>by
     refine ⟨CX (C9 _ _),?_⟩
     have:=C9 (H ++ [ABlk.live 2 [encR r]]) (ABlk.live 2 [encR s])
     rw [← this]; simp
    have sB : ∀ r s:Rng,FT Tryz.prog (H ++ [ABlk.live 2 [encR r]] ++ [ABlk.live 2 [zR]]) 34 (.ptr (H ++ [ABlk.live 2 [zR]]).length 0 0) (.agg (encR s))=some (H ++ [ABlk.live 2 [encR r]] ++ [ABlk.live 2 [encR s]]):=fun r s=>by
     have:=VJ (H ++ [ABlk.live 2 [encR r]]) s
     rw [← this]; simp
    have hxx : ∀ r s:Rng,ext H (H ++ [ABlk.live 2 [encR r]] ++ [ABlk.live 2 [encR s]]):=fun r s=>((ext.rfl' H).app _).app _
    simp only [DT,J4,zK,zG]
    simp -implicitDefEqProofs only [FD,DR,CZ,GL,D9,DU,ES,VG,ED,GI,IJ,FI,MN,AC,AA,AY,AU,BH,EX,BN,CY,BR,CU,BV,AB,BZ,DZ,↓reduceIte,jA,jK,jG,jB,enP,RQ,jJ,f1,f2,f4,f5,f6,wrap_succ (show i < 9223372036854775807 by omega),i1,l1,OD,i2,l2,lA,lB,ALH,VJ,sB,and_true]
    have A:=fun r s=>(g r s).1
    have B:=fun r s=>(g r s).2
    refine ⟨⟨?_,?_⟩,⟨?_,?_,?_⟩,?_,?_,?_⟩ <;> first | exact ⟨trivial,trivial,trivial,trivial,trivial,hxx _ _,_,_,rfl,rfl,A _ _,B _ _⟩ | exact ⟨trivial,trivial,trivial,trivial,trivial,hxx _ _,_,_,rfl,rfl,B _ _,A _ _⟩
   clear f1 f2 f4 f5 f6
   rintro F H1 ⟨f1,f2,f4,f5,f6,hx1,b7,b8,f7,f8,g7,g8⟩
   have hxx:=hx.trans hx1
   have z2:Z1 h H1 ba bz a:=⟨⟨FX hx1 zH.gz,zH.hx.trans hx1,zH.hl⟩,FX hx1 zH.ga⟩
   have yes : ∀ q:AEP a vs[1+i] vs[1+(i+1)]=true,(⟨1,1⟩:Rng)=UA a true (vs.drop 1):=fun q=>by
    rw [he,hst,if_pos (by simpa [qK] using q)]
   have nxt : ∀ (q:AEP a vs[1+i] vs[1+(i+1)]=false) (r:Bool),(AMF a vs[1+i] vs[1+(i+1)]=r)→∃ m,m < n∧∃ i' imp',m+i'=vs.length+1∧i'=i+2∧imp'=(if r=true then false else imp)∧UA a true (vs.drop 1)=UA a imp' (vs.drop (1+i')):=fun q r hr=>by
    subst hr
    refine ⟨n - 2,by omega,i+2,_,by omega,rfl,rfl,?_⟩
    rw [he,hst,if_neg (by rw [show AEP a vs[1+i] vs[1+i+1]=false by simpa [qK] using q]; decide)]
    rfl
   have w2:IntKind.i64.wrap ((i:Int)+2)=((i+2:Nat):Int):=by rw [wrap_i64 (by omega) (by omega)]; omega
   have ret1 : ∀ F':Fr,F' 4 = .ptr bz 0 0→AEP a vs[1+i] vs[1+(i+1)]=true→EH Tryz.prog [.cell 4 34] (fun v H=>v = .agg (encR (UA a true (vs.drop 1)))∧Sm.ext h H) .ret F' (H1.set bz (.live 2 [encR ⟨1,1⟩])):=fun F' e4 q=>z2.out e4 (yes q)
   simp -implicitDefEqProofs only [BB,A8,A7,AZ,BL,BU,CO,AC,AQ,AO,BD,AX,AL,AA,AY,BI,BN,BR,BG,AB,FQ,↓reduceIte,jA,jI,jG,jB,jC,enP,GK,GZ,f2,f7,f8,GU z2.ga,H6 z2.ga,GU g7,H6 g7,GU g8,H6 g8]
   refine PO (fun F' H'=>F' 1 = .own o 1 (vs.length - 1)∧F' 2 = .ptr ba 0 0∧F' 4 = .ptr bz 0 0∧F' 5 = .bool imp∧F' 6 = .int .i64 (i:Nat)∧F' 7 = .ptr b7 0 0∧F' 8 = .ptr b8 0 0∧F' 36 = .bool (AEP a vs[1+i] vs[1+(i+1)])∧H'=H1) ?_ ?_
   ·unfold AEP
    refine IK (fun hA => ?_) (fun hA => ?_)
    ·simp -implicitDefEqProofs only [AZ,BA,BL,BU,CO,GH,AC,AQ,AO,BD,AX,AL,AA,AY,AU,BM,CP,DL,BN,BR,BG,AB,KH,↓reduceIte,jA,jI,jG,jB,jC,enP,GK,GZ,hA,f2,f7,f8,GU z2.ga,H6 z2.ga,GU g7,H6 g7,GU g8,H6 g8]
     exact ⟨by trivial,by trivial,by trivial,by trivial,by trivial,by trivial,by trivial,by trivial,trivial⟩
    ·simp -implicitDefEqProofs only [AZ,BA,BL,BU,CO,I4,AC,AQ,AO,BD,AX,AL,AA,EG,AY,AU,BM,CP,DN,↓reduceIte,jA,jB,jC,hA,f2,f7,f8]
     exact ⟨by trivial,by trivial,by trivial,by trivial,by trivial,by trivial,by trivial,by trivial,trivial⟩
   clear f1 f2 f4 f5 f6 f7 f8
   rintro F H2 ⟨f1,f2,f4,f5,f6,f7,f8,f36,rfl⟩
   simp -implicitDefEqProofs only [BJ,A7,AY,f36]
   refine CS (fun hT => ?_) (fun hT => ?_)
   ·simp -implicitDefEqProofs only [BB,A8,AZ,AC,AQ,AO,BD,AX,BO,BX,BP,jD,jE,jB,jC]
    refine (ADJ G _).use ?_
    simp -implicitDefEqProofs only [BK,A7,CQ,D5,MR,FV,AZ,BA,AC,AQ,AO,BD,AX,AL,DV,AA,AY,CY,BZ,↓reduceIte,jA,jC,enP,jJ,f4,z2.st]
    exact ret1 _ (by simp -implicitDefEqProofs only [AA,↓reduceIte,jA,f4]) hT
   simp -implicitDefEqProofs only [BB,A8,BQ,A7,AZ,BL,BU,CO,AC,AQ,AO,BD,AX,AL,AA,AY,BI,BN,BR,BG,AB,FQ,↓reduceIte,jA,jI,jG,jB,jC,enP,GK,GZ,f2,f7,f8,GU z2.ga,H6 z2.ga,GU g7,H6 g7,GU g8,H6 g8]
   refine PO (fun F' H'=>F' 1 = .own o 1 (vs.length - 1)∧F' 2 = .ptr ba 0 0∧F' 4 = .ptr bz 0 0∧F' 5 = .bool imp∧F' 6 = .int .i64 (i:Nat)∧F' 7 = .ptr b7 0 0∧F' 8 = .ptr b8 0 0∧F' 56 = .bool (AMF a vs[1+i] vs[1+(i+1)])∧H'=H2) ?_ ?_
   ·unfold AMF
    refine IK (fun hA => ?_) (fun hA => ?_)
    ·simp -implicitDefEqProofs only [AZ,BL,BU,CO,GH,AC,AQ,AO,BD,AX,AL,AA,AY,AU,BM,BI,CP,DL,BN,BR,BG,AB,KH,↓reduceIte,jA,jI,jG,jB,jC,enP,GK,GZ,hA,f2,f7,f8,GU z2.ga,H6 z2.ga,GU g7,H6 g7,GU g8,H6 g8]
     refine IK (fun hB => ?_) (fun hB => ?_)
     ·simp -implicitDefEqProofs only [AZ,BA,BL,BU,CO,GH,AC,AQ,AO,BD,AX,AL,AA,AY,AU,BM,CP,DL,BN,BR,BG,AB,KH,↓reduceIte,jA,jI,jG,jB,jC,enP,GK,GZ,hA,hB,f2,f7,f8,GU z2.ga,H6 z2.ga,GU g7,H6 g7,GU g8,H6 g8]
      exact ⟨by trivial,by trivial,by trivial,by trivial,by trivial,by trivial,by trivial,by trivial,trivial⟩
     ·simp -implicitDefEqProofs only [AZ,BA,BL,BU,CO,I4,AC,AQ,AO,BD,AX,AL,AA,EG,AY,AU,BM,CP,DN,↓reduceIte,jA,jB,jC,hA,hB,f2,f7,f8]
      exact ⟨by trivial,by trivial,by trivial,by trivial,by trivial,by trivial,by trivial,by trivial,trivial⟩
    ·simp -implicitDefEqProofs only [AZ,BA,BL,BU,CO,I4,AC,AQ,AO,BD,AX,AL,AA,EG,AY,AU,BM,BI,CP,DN,↓reduceIte,jA,jB,jC,hA,f2,f7,f8]
     exact ⟨by trivial,by trivial,by trivial,by trivial,by trivial,by trivial,by trivial,by trivial,trivial⟩
   clear f1 f2 f4 f5 f6 f7 f8 f36
   rintro F H3 ⟨f1,f2,f4,f5,f6,f7,f8,f56,rfl⟩
   simp -implicitDefEqProofs only [BJ,A7,AY,f56]
   refine CS (fun hP => ?_) (fun hP => ?_)
   ·simp -implicitDefEqProofs only [A8,A7,EO,FK,AZ,BA,AC,AQ,AO,BD,AX,AL,AA,AY,AU,BH,BM,BI,BC,BR,AB,DZ,↓reduceIte,jA,jB,jC,enP,f6,w2]
    obtain ⟨m,hm,i',imp',e,rfl,rfl,e'⟩:=nxt hT true hP
    exact ⟨m,hm,i+2,_,e,by trivial,by trivial,by trivial,by first | exact f5 | trivial | rfl,by trivial,hxx,e'⟩
   ·simp -implicitDefEqProofs only [A8,BQ,A7,EO,FK,AZ,BA,AC,AQ,AO,BD,AX,AL,AA,AY,AU,BH,BI,BC,BR,AB,DZ,↓reduceIte,jA,jB,jC,enP,f6,w2]
    obtain ⟨m,hm,i',imp',e,rfl,rfl,e'⟩:=nxt hT false hP
    exact ⟨m,hm,i+2,_,e,by trivial,by trivial,by trivial,by first | exact f5 | trivial | rfl,by trivial,hxx,e'⟩
  ·have hc : ¬ i+1 < vs.length - 1:=by simp at hc; omega
   rw [APB a imp vs (1+i) (by omega)] at he
   simp -implicitDefEqProofs only [D6,E5,N8,GG,AA,↓reduceIte,jA]
   exact ⟨imp,by trivial,by trivial,hx,he⟩
 ·rintro F H ⟨imp,f4,f5,hx,he⟩
  have zH:Z1 h H ba bz a:=⟨⟨FX hx z.gz,z.hx.trans hx,z.hl⟩,FX hx z.ga⟩
  simp -implicitDefEqProofs only [BB,A8,A7,FY,AZ,AC,AQ,AO,BD,AX,AL,AA,AY,AU,BO,BM,BI,BX,BP,jF,jD,jE,↓reduceIte,jB,jC,f5]
  refine (JI G _ _ _).use ?_
  simp -implicitDefEqProofs only [BK,A7,AZ,BA,AC,AQ,AO,BD,AX,AL,DV,AA,AY,CY,BZ,↓reduceIte,jA,jC,enP,jJ,f4,zH.st]
  exact zH.out (by simp -implicitDefEqProofs only [AA,↓reduceIte,jA,f4]) he.symm
 ·intro F H hq
  simp -implicitDefEqProofs only [CQ,D5]
  exact hq
end
def ACA (n:ByteArray):List Vr→Nat→Option Nat
 | [],_=>none
 | v :: r,k=>if JB n v=true then some k else ACA n r (k+1)
theorem AIB (n:ByteArray) : ∀ (l:List Vr) (k:Nat),ACA n l k=if plc l n < 0 then none else some (k+(plc l n).toNat)
 | [],k=>by simp [ACA,plc,JY]
 | v :: r,k=>by
   have ih:=AIB n r (k+1)
   have hr:=QJ (JB n) r
   unfold plc at ih ⊢
   by_cases h:JB n v=true
   ·have e:JY (JB n) (v :: r)=0:=by simp [JY,h]
    simp only [ACA]
    rw [if_pos h,e]; simp
   ·have e:JY (JB n) (v :: r)=if JY (JB n) r < 0 then -1 else JY (JB n) r+1:=by simp [JY,h]
    simp only [ACA]
    rw [if_neg h,ih,e]
    by_cases hn:JY (JB n) r < 0
    ·rw [if_pos hn,if_pos hn]; simp
    ·rw [if_neg hn,if_neg hn,if_neg (by omega)]
     congr 1; omega
def RV (ents:List (ByteArray × Nat)):List (AV × AV):=ents.map fun x=>(.str x.1,.int .i64 (x.2:Nat))
def RD (ents:List (ByteArray × Nat)) (n:ByteArray):Option Nat:=match ents.findIdx? (fun x=>n.toList == x.1.toList) with
 | some i=>(ents[i]?).map (·.2)
 | none=>none
theorem AE0 (ents:List (ByteArray × Nat)) (n:ByteArray):V3 Tryz.prog 9 (.str n) (RV ents)=some (ents.findIdx? fun x=>n.toList == x.1.toList):=by
 have hk:Tryz.prog.underlying 9=some .string:=by kernel_rfl
 induction ents with
 | nil=>rfl
 | cons x r ih =>
   have e:V3 Tryz.prog 9 (.str n) (RV (x :: r))=match WO Tryz.prog 9 (.str n) (.str x.1) with
    | some true=>some (some 0)
    | some false=>match V3 Tryz.prog 9 (.str n) (RV r) with
      | some (some i)=>some (some (i+1))
      | some none=>some none
      | none=>none
    | none=>none:=rfl
   have ke:WO Tryz.prog 9 (.str n) (.str x.1)=some (n.toList == x.1.toList):=by unfold WO; rw [hk]
   rw [e,ke,ih,List.findIdx?_cons]
   cases hb:(n.toList == x.1.toList) with
   | true=>rfl
   | false =>
     cases List.findIdx? (fun x=>n.toList == x.1.toList) r <;> rfl
theorem AO9:ZH Tryz.prog 9=true:=by kernel_rfl
theorem AOA:Tryz.prog.underlying 67=some (.map 9 3):=by kernel_rfl
def AF8 (ents:List (ByteArray × Nat)) (n:ByteArray) (i:Nat):List (ByteArray × Nat):=match ents.findIdx? (fun x=>n.toList == x.1.toList) with
 | some k=>ents.set k (n,i)
 | none=>ents ++ [(n,i)]
theorem AQT {h:Hp} {b i:Nat} {ents:List (ByteArray × Nat)} (n:ByteArray) (hb:h[b]? = some (.map (RV ents))):MF Tryz.prog h 67 (.mp b) (.str n) (.int .i64 (i:Nat))=some (h.set b (.map (RV (AF8 ents n i))))∧∀ m,RD (AF8 ents n i) m=if m=n then some i else RD ents m:=by
 unfold AF8
 have hf:=AE0 ents n
 cases hx:ents.findIdx? (fun x=>n.toList == x.1.toList) with
 | none =>
   rw [hx] at hf
   refine ⟨?_,fun m => ?_⟩
   ·unfold MF
    simp only [AOA,hb,AO9,if_true,hf]
    simp [RV]
   ·unfold RD
    rw [List.findIdx?_append]
    by_cases hm:m=n
    ·subst hm
     rw [hx,if_pos rfl]
     simp
    ·rw [if_neg hm]
     have h1:List.findIdx? (fun x:ByteArray × Nat=>m.toList == x.1.toList) [(n,i)]=none:=by
      simp only [List.findIdx?_cons,List.findIdx?_nil,ASP hm]; rfl
     rw [h1]
     cases hy:ents.findIdx? (fun x=>m.toList == x.1.toList) with
     | none=>simp
     | some j =>
       have hj:j < ents.length:=(List.findIdx?_eq_some_iff_getElem.1 hy).1
       simp [List.getElem?_append_left hj]
 | some k =>
   rw [hx] at hf
   obtain ⟨hk,hkn,hkb⟩:=List.findIdx?_eq_some_iff_getElem.1 hx
   refine ⟨?_,fun m => ?_⟩
   ·unfold MF
    simp only [AOA,hb,AO9,if_true,hf]
    simp [RV]
   ·have hkey : ∀ q:ByteArray,(List.findIdx? (fun x:ByteArray × Nat=>q.toList == x.1.toList) (ents.set k (n,i)))=List.findIdx? (fun x:ByteArray × Nat=>q.toList == x.1.toList) ents:=fun q=>by
     have hnk:n=(ents[k]).1:=(XA _ _).1 hkn
     have e1 : ∀ l:List (ByteArray × Nat),List.findIdx? (fun x:ByteArray × Nat=>q.toList == x.1.toList) l=List.findIdx? (fun x:ByteArray=>q.toList == x.toList) (l.map (·.1)):=fun l=>by
      rw [List.findIdx?_map]; rfl
     rw [e1,e1,List.map_set]
     congr 1
     apply List.ext_getElem?
     intro j
     rw [List.getElem?_set]
     by_cases hjk:k=j
     ·subst hjk
      rw [if_pos rfl,if_pos (by simpa using hk),zB,jV hk,hnk]; rfl
     ·rw [if_neg hjk]
    unfold RD
    rw [hkey]
    by_cases hm:m=n
    ·subst hm
     rw [hx,if_pos rfl]
     simp [hk]
    ·rw [if_neg hm]
     cases hy:ents.findIdx? (fun x=>m.toList == x.1.toList) with
     | none=>rfl
     | some j =>
       obtain ⟨hj,hjn,_⟩:=List.findIdx?_eq_some_iff_getElem.1 hy
       have hjk:k≠j:=by
        intro e; subst e
        have a1:=(XA _ _).1 hjn
        have a2:=(XA _ _).1 hkn
        exact hm (a1.trans a2.symm)
       simp [List.getElem?_set_ne hjk]
theorem AGU {h:Hp} {b:Nat} {ents:List (ByteArray × Nat)} (n:ByteArray) (hb:h[b]? = some (.map (RV ents))):OL Tryz.prog h 67 (.mp b) (.str n) true=some (match RD ents n with | some i => .tup [.int .i64 (i:Nat),.bool true] | none => .tup [.int .i64 0,.bool false]):=by
 have hf:=AE0 ents n
 have hz:OY Tryz.prog 3=some (.int .i64 0):=by kernel_rfl
 unfold OL RD
 cases hx:ents.findIdx? (fun x=>n.toList == x.1.toList) with
 | none =>
   rw [hx] at hf
   simp only [AOA,hb,AO9,if_true,hf,hz]
   rfl
 | some k =>
   rw [hx] at hf
   have hk:=(List.findIdx?_eq_some_iff_getElem.1 hx).1
   simp only [AOA,hb,AO9,if_true,hf]
   have:(RV ents)[k]? = some (.str (ents[k]).1,.int .i64 ((ents[k]).2:Nat)):=by simp [RV,hk]
   rw [this,jV hk]
   rfl
def LOk (h:Hp) (L:AV) (l:List Rng):Prop:=(∃ m,L = .sl m 2 (l.map encR))∨∃ lb,L = .own lb 0 l.length∧h[lb]? = some (.live 2 (l.map encR))
theorem LOk.ext {h H:Hp} {L:AV} {l:List Rng} (hl:LOk h L l) (hx:Sm.ext h H):LOk H L l:=by
 rcases hl with ⟨m,rfl⟩ | ⟨lb,rfl,hb⟩
 ·exact .inl ⟨m,rfl⟩
 ·exact .inr ⟨lb,rfl,FX hx hb⟩
theorem LOk.at' {h:Hp} {L:AV} {l:List Rng} (hl:LOk h L l) {i:Nat} (hi:i < l.length) : ∃ q,JV 2 h L (.int .i64 (i:Nat))=some q∧DI Tryz.prog h 34 q=some (.agg (encR l[i]))∧DI Tryz.prog h 34 q=some (.agg (encR l[i])):=by
 rcases hl with ⟨m,rfl⟩ | ⟨lb,rfl,hb⟩
 ·exact ⟨_,EJ hi,EM AFW SA O9 hi,EM AFW SA O9 hi⟩
 ·have:=ZF hb hi
  exact ⟨_,KD hb hi,by rw [jG]; exact this,by rw [jG]; exact this⟩
structure EvO (h:Hp) (vb:Nat) (vars:List Vr) (l:List Rng):Prop where
 ex : ∃ mb L k tl ents,h[vb]? = some (.live k [.mp mb :: L :: tl])∧h[mb]? = some (.map (RV ents))∧(∀ n,RD ents n=ACA n vars 0)∧LOk h L l
theorem EvO.ext {h H:Hp} {vb:Nat} {vars:List Vr} {l:List Rng} (e:EvO h vb vars l) (hx:Sm.ext h H):EvO H vb vars l:=by
 obtain ⟨mb,L,k,tl,ents,h1,h2,h3,h4⟩:=e.ex
 exact ⟨mb,L,k,tl,ents,FX hx h1,FX hx h2,h3,h4.ext hx⟩
section
variable (G:Nat→AV)
set_option maxHeartbeats 1000000 in
theorem NM (vars:List Vr) (l:List Rng) (vb:Nat) (e:Ex) (h:Hp) (he:EvO h vb vars l):PCall (En G) 92 [.ptr vb 0 0,.agg (CV e)] h (.int .i64 (if e.op=2 then plc vars e.name else -1)):=by
 refine ACalls.pure0 rfl ?_
 refine acN Tryz.func92 rfl ?_
 show awp _ _ _ _ _ (EH _ [.tmp 4] _)
 have ge:=C9 h (ABlk.live 4 [CV e])
 have hx:ext h (h ++ [ABlk.live 4 [CV e]]):=(ext.rfl' h).app _
 have heX:=he.ext hx
 simp -implicitDefEqProofs only [BB,A8,A7,AZ,BA,AC,AQ,AO,BD,AX,AL,AY,AU,BH,BC,FN,BV,BF,CE,jB,jC,enP,bxE]
 generalize h ++ [ABlk.live 4 [CV e]]=H at ge hx heX ⊢
 generalize h.length=eb at ge ⊢
 obtain ⟨mb,L,k,tl,ents,h1,h2,h3,h4⟩:=heX.ex
 have l67:DI Tryz.prog H 67 (.ptr vb 0 0)=some (.mp mb):=by rw [DC (by kernel_rfl) h1 (row := .mp mb :: L :: tl) rfl]; rfl
 have l9:DI Tryz.prog H 9 (.ptr eb 0 2)=some (.str e.name):=by rw [DC ag9 ge (row:=CV e) rfl,OH]
 have l3:DI Tryz.prog H 3 (.ptr eb 0 0)=some (.int .i64 e.op):=by rw [DC ag3 ge (row:=CV e) rfl,I8]
 have hlk:=AGU e.name h2
 rw [h3,AIB] at hlk
 refine EZ (by kernel_rfl) ?_
 simp -implicitDefEqProofs only [FD,DR,CZ,DU,ES,ED,DK,QF,AC,AA,AY,BN,BG,H7,AK2,AKZ,AB,BF,↓reduceIte,jA,jK,jI,jG,jB,enP,L9,ASB,EK,F7,EY,l67,l9,hlk]
 have hr:=QJ (JB e.name) vars
 by_cases hp:plc vars e.name < 0
 ·rw [if_pos hp]
  simp -implicitDefEqProofs only [FD,zG,zK,DR,CZ,D9,DU,G9,QF,BB,A8,BQ,BK,BJ,A7,CW,EC,AZ,BA,BL,BU,CO,I4,AC,AQ,AO,BD,AX,AL,AA,EG,AY,AU,BH,BM,BI,BC,CP,DN,H7,JO,AB,↓reduceIte,jA,jK,jB,jC]
  have:plc vars e.name = -1:=by unfold plc at hp ⊢; omega
  exact ⟨by rw [this]; split <;> rfl,hx⟩
 ·rw [if_neg hp]
  simp -implicitDefEqProofs only [FD,zG,zK,DR,CZ,D9,DU,G9,QF,BB,A8,BJ,A7,AZ,BA,BL,BU,CO,GH,AC,AQ,AO,BD,AX,AL,AA,AY,AU,BH,BM,BI,CP,DL,BN,BR,BG,H7,JO,AB,DW,↓reduceIte,jA,jK,jI,jB,jC,enP,G8,l3]
  refine CS (fun hc => ?_) (fun hc => ?_)
  ·have hc:e.op=2:=by simpa using hc
   simp -implicitDefEqProofs only [BB,A8,BK,A7,CQ,CW,AZ,BA,AC,AQ,AO,BD,AX,AL,AA,AY,BI,BC,↓reduceIte,jA,jB,jC]
   exact ⟨by rw [if_pos hc]; congr 1; omega,hx⟩
  ·have hc : ¬ e.op=2:=by simpa using hc
   simp -implicitDefEqProofs only [BB,A8,BQ,BK,A7,CW,AZ,BA,AC,AQ,AO,BD,AX,AL,AA,AU,BH,BC,↓reduceIte,jB,jC]
   exact ⟨by rw [if_neg hc],hx⟩
end
def OA:List Vr→Nat→List (ByteArray × Nat)
 | [],_ => []
 | v :: r,k=>AF8 (OA r (k+1)) v.name k
theorem AJY (ents:List (ByteArray × Nat)) (n:ByteArray) (i:Nat) (m:ByteArray):RD (AF8 ents n i) m=if m=n then some i else RD ents m :=
 (AQT (h := [.map (RV ents)]) (b:=0) n rfl).2 m
theorem PX (n:ByteArray) : ∀ (l:List Vr) (k:Nat),RD (OA l k) n=ACA n l k
 | [],k=>rfl
 | v :: r,k=>by
   show RD (AF8 (OA r (k+1)) v.name k) n=_
   rw [AJY,PX n r (k+1)]
   have hn:JB n v=true↔n=v.name:=by unfold JB; rw [XA]; exact ⟨fun h=>h.symm,fun h=>h.symm⟩
   simp only [ACA]
   by_cases h:n=v.name
   ·rw [if_pos h,if_pos (hn.2 h)]
   ·rw [if_neg h,if_neg (fun q=>h (hn.1 q))]
def evH (h:Hp) (p:Pr) (L:AV):Hp:=h ++ [ABlk.live 5 [DX p]] ++ [ABlk.map (RV (OA p.vars 0))] ++ [ABlk.live 2 [[AV.mp (h.length+1),L]]]
theorem Q3 (h:Hp) (p:Pr) (L:AV):Sm.ext h (evH h p L):=(((ext.rfl' h).app _).app _).app _
theorem ASF (h:Hp) (p:Pr) (L:AV) (l:List Rng) (hl:LOk h L l):EvO (evH h p L) (h.length+2) p.vars l:=by
 refine ⟨h.length+1,L,2,[],OA p.vars 0,?_,?_,fun n=>PX n _ _,hl.ext (Q3 h p L)⟩
 ·simp [evH]
 ·simp [evH]
theorem AUU (b:Nat) (m:SM) (xs:List (List AV)):JL Tryz.prog 69 [(0,.mp b),(1,.sl m 2 xs)]=some (.agg [.mp b,.sl m 2 xs]):=by kernel_rfl
theorem AUW (b c n:Nat):JL Tryz.prog 69 [(0,.mp b),(1,.own c 0 n)]=some (.agg [.mp b,.own c 0 n]):=by kernel_rfl
section
variable (G:Nat→AV)
theorem VR (p:Pr) (L:AV) (hL:(∃ m xs,L = .sl m 2 xs)∨∃ b n,L = .own b 0 n) (hv:p.vars.length≤1048576) (h:Hp):ACalls (En G) 35 [.agg (DX p),L] h fun v H=>v = .ptr (h.length+2) 0 0∧H=evH h p L:=by
 refine acN Tryz.func35 rfl ?_
 show awp _ _ _ _ _ (EH _ [.tmp 4] _)
 have ge:=C9 h (ABlk.live 5 [DX p])
 simp -implicitDefEqProofs only [BB,A8,A7,AZ,BA,AC,AQ,AO,BD,AX,AL,AA,AY,AU,AI3,BC,FN,BN,BG,AI6,BV,AB,BF,↓reduceIte,jA,jI,jB,jC,enP,KT,UC]
 generalize hb0:h ++ [ABlk.live 5 [DX p]]=hb at ge ⊢
 have hbl:hb.length=h.length+1:=by rw [← hb0]; simp
 have geA : ∀ x:ABlk,(hb ++ [x])[h.length]? = some (ABlk.live 5 [DX p]):=fun x=>CX ge
 have lv : ∀ x:ABlk,DI Tryz.prog (hb ++ [x]) 22 (.ptr h.length 0 0)=some (.sl p.vm 4 (p.vars.map FC)):=fun x=>by rw [DC UF (geA x) (row:=DX p) rfl]; rfl
 have w1:IntKind.i64.wrap ((p.vars.length:Int) - 1)=(p.vars.length:Int) - 1:=wrap_i64 (by omega) (by omega)
 simp -implicitDefEqProofs only [CJ,A7,AZ,BA,AC,AQ,AO,BD,AX,AL,AA,AY,AU,BH,BC,BR,FH,AB,JJ,↓reduceIte,jB,jC,enP,QA,lv,List.length_map,w1]
 refine D8 (fun n F H => ∃ i,n=i∧i≤p.vars.length∧F 1=L∧F 2 = .ptr h.length 0 0∧F 5 = .mp hb.length∧F 6 = .int .i64 ((i:Int) - 1)∧H=hb ++ [ABlk.map (RV (OA (p.vars.drop i) i))]) p.vars.length ⟨p.vars.length,rfl,jL _,by simp -implicitDefEqProofs only [AA,BF,CE,↓reduceIte,jA],by simp -implicitDefEqProofs only [AA,↓reduceIte,jA],by simp -implicitDefEqProofs only [AA,↓reduceIte,jA],by simp -implicitDefEqProofs only [AA,↓reduceIte],by rw [List.drop_length]; rfl⟩ ?_
 rintro n F H ⟨i,rfl,hi,f1,f2,f5,f6,rfl⟩
 simp -implicitDefEqProofs only [BB,A8,BJ,A7,AZ,BA,AC,AQ,AO,BD,AX,AL,AA,AY,AU,BH,BI,BR,AB,FQ,↓reduceIte,jB,jC,enP,f6]
 refine CS (fun hc => ?_) (fun hc => ?_)
 ·obtain ⟨i,rfl⟩ : ∃ j,n=j+1:=⟨n - 1,by simp at hc; omega⟩
  have hi':i < p.vars.length:=by omega
  have e1:(((i+1:Nat):Int) - 1)=(i:Nat):=by omega
  have l9 : ∀ H:Hp,DI Tryz.prog H 9 (.fptr 4 (p.vars.map FC) i 0)=some (.str p.vars[i].name):=fun H=>by rw [GR ag9 hi']; rfl
  have hmu:=(AQT (h:=hb ++ [ABlk.map (RV (OA (p.vars.drop (i+1)) (i+1)))]) (b:=hb.length) (i:=i) p.vars[i].name (C9 _ _)).1
  rw [LX] at hmu
  have hd:AF8 (OA (p.vars.drop (i+1)) (i+1)) p.vars[i].name i=OA (p.vars.drop i) i:=by rw [qH hi']; rfl
  rw [hd] at hmu
  simp -implicitDefEqProofs only [BB,CJ,A8,BQ,A7,EO,FK,AZ,BA,AC,AQ,AO,BD,AX,AL,DV,AA,AY,AU,BH,BI,BC,BN,BR,BG,CU,ADK,AB,BZ,JJ,↓reduceIte,jA,jI,jB,jC,enP,RS,KT,N9,jJ,f2,f5,f6,e1,lv,EJ hi',l9,hmu,wrap_i64 (n:=(i:Int) - 1) (by omega) (by omega)]
  exact ⟨i,by omega,i,rfl,by omega,by trivial,by trivial,by trivial,by trivial,by trivial⟩
 ·have hz:n=0:=by simp at hc; omega
  subst hz
  have bx : ∀ H:Hp,OE H (.agg [.mp hb.length,L])=some (.ptr H.length 0 0,H ++ [ABlk.live 2 [[.mp hb.length,L]]]):=fun H=>by
   rcases hL with ⟨m,xs,rfl⟩ | ⟨b,n,rfl⟩ <;> rfl
  have bd:JL Tryz.prog 69 [(0,.mp hb.length),(1,L)]=some (.agg [.mp hb.length,L]):=by
   rcases hL with ⟨m,xs,rfl⟩ | ⟨b,n,rfl⟩
   ·exact AUU _ _ _
   ·exact AUW _ _ _
  simp -implicitDefEqProofs only [EU,EN,BB,A8,BK,D6,A7,E5,FY,GG,CW,AZ,BA,AC,AQ,AO,BD,AX,AL,AA,AY,BI,BC,FN,FO,BV,AB,↓reduceIte,jA,jB,jC,enP,f1,f5,bd,bx]
  refine ⟨?_,?_⟩
  ·first | trivial | (congr 1; simp [hbl])
  ·unfold evH; rw [hb0,← hbl]; rfl
end
end Go.Proofs.YtokehnfjjmpanaaGreatDoor.Bd
