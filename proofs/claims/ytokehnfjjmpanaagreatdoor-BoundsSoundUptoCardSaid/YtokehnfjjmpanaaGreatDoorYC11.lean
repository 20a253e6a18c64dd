/- Part 11 of the proof (W0, W1, W2, W3, W4, W5, W6, W7); no condition. -/
import Derived.Test.YtokehnfjjmpanaaGreatDoorYC10
set_option linter.unusedVariables false
namespace Go.Proofs.YtokehnfjjmpanaaGreatDoor.Bd
open Bins Cov Xe Wd
open Nat renaming eq_zero_or_pos→qA
def wfR (r:Rng):Prop:=0≤r.lo∧r.lo≤r.hi∧r.hi≤65535
instance (r:Rng):Decidable (wfR r):=inferInstanceAs (Decidable (_∧_))
def IP:Rng:=⟨0,65535⟩
def knR (t f:Bool):Rng:=if t=true then ⟨1,1⟩ else if f=true then ⟨0,0⟩ else ⟨0,1⟩
def isT (r:Rng):Bool:=decide (r.lo > 0)
def isF (r:Rng):Bool:=r.hi == 0
def sgl (r:Rng):Bool:=r.lo == r.hi
def QT (lo hi:Int):Rng:=if hi > 65535 then IP else ⟨lo,hi⟩
def TZ (a b:Rng):Rng:=if a.lo+b.lo > 65535 then ⟨a.lo+b.lo - 65536,a.hi+b.hi - 65536⟩ else QT (a.lo+b.lo) (a.hi+b.hi)
def WQ (a b:Rng):Rng:=if 0≤a.lo - b.hi then ⟨a.lo - b.hi,a.hi - b.lo⟩ else if a.hi - b.lo < 0 then ⟨a.lo - b.hi+65536,a.hi - b.lo+65536⟩ else IP
def XO (a:Rng):Rng:=if isF a=true then ⟨0,0⟩ else if isT a=true then ⟨65536 - a.hi,65536 - a.lo⟩ else IP
def AS3 (a b:Rng):Rng:=QT (a.lo * b.lo) (a.hi * b.hi)
def blN (n:Nat):Nat:=if n=0 then 0 else blN (n / 2)+1
theorem YG:blN 0=0:=by rw [blN]; simp
theorem YH {n:Nat} (h:0 < n):blN n=blN (n / 2)+1:=by rw [blN]; rw [if_neg (by omega)]
def WH (n:Int):Int:=((2 ^ blN n.toNat:Nat):Int) - 1
def AF0 (a b:Int):Int:=((a.toNat &&& b.toNat:Nat):Int)
def orI (a b:Int):Int:=((a.toNat ||| b.toNat:Nat):Int)
def AIY (a b:Int):Int:=((a.toNat ^^^ b.toNat:Nat):Int)
def SE (op:Int) (a b:Rng):Rng :=
 if op=10 then if (sgl a && sgl b)=true then ⟨AF0 a.lo b.lo,AF0 a.lo b.lo⟩ else ⟨0,min a.hi b.hi⟩
 else if op=11 then if (sgl a && sgl b)=true then ⟨orI a.lo b.lo,orI a.lo b.lo⟩ else ⟨max a.lo b.lo,WH (max a.hi b.hi)⟩
 else if (sgl a && sgl b)=true then ⟨AIY a.lo b.lo,AIY a.lo b.lo⟩ else ⟨0,WH (max a.hi b.hi)⟩
def RP (a b:Rng):Rng:=if (isF a || decide (b.lo≥16))=true then ⟨0,0⟩ else if sgl b=true then QT (a.lo * 2 ^ b.lo.toNat) (a.hi * 2 ^ b.lo.toNat) else IP
def VN (n k:Int):Int:=if k≥16 then 0 else n / 2 ^ k.toNat
def UC (a b:Rng):Bool:=sgl a && sgl b && (a.lo == b.lo)
def dfB (a b:Rng):Bool:=decide (a.hi < b.lo) || decide (b.hi < a.lo)
def MJ (op:Int) (a b:Rng):Rng :=
 if op=7 then TZ a b else if op=8 then WQ a b else if op=9 then AS3 a b else if op=10∨op=11∨op=12 then SE op a b
 else if op=13 then RP a b else if op=14 then ⟨VN a.lo b.hi,VN a.hi b.lo⟩
 else if op=15 then knR (UC a b) (dfB a b) else if op=16 then knR (dfB a b) (UC a b)
 else if op=17 then knR (decide (a.hi < b.lo)) (decide (a.lo≥b.hi)) else if op=18 then knR (decide (a.hi≤b.lo)) (decide (a.lo > b.hi))
 else if op=19 then knR (isT a && isT b) (isF a || isF b) else if op=20 then knR (isT a || isT b) (isF a && isF b)
 else knR (isF a || isT b) (isT a && isF b)
def VQ (a lo hi:Rng):Bool:=decide (a.lo≥lo.hi) && decide (a.hi≤hi.lo)
def XV (a lo hi:Rng):Bool:=decide (a.hi≥lo.lo) && decide (a.lo≤hi.hi) && decide (lo.lo≤hi.hi)
def PN (a:Rng):Bool→List Rng→Rng
 | imp,lo :: hi :: r=>if VQ a lo hi=true then ⟨1,1⟩ else PN a (if XV a lo hi=true then false else imp) r
 | imp,_=>knR false imp
def onI (n:Int):Int:=(H7 n.toNat 16:Nat)
def ABJ (a:Rng):Rng:=if sgl a=true then ⟨onI a.lo,onI a.lo⟩ else ⟨min a.lo 1,(blN a.hi.toNat:Nat)⟩
def AAM (c a b:Rng):Rng:=if isT c=true then a else if isF c=true then b else ⟨min a.lo b.lo,max a.hi b.hi⟩
def opR (op:Int) (vs:List Rng):Rng :=
 if op=4 then knR (isF (vs.getD 0 IP)) (isT (vs.getD 0 IP)) else if op=5 then ⟨65535 - (vs.getD 0 IP).hi,65535 - (vs.getD 0 IP).lo⟩
 else if op=6 then XO (vs.getD 0 IP) else if op=25 then ABJ (vs.getD 0 IP) else if op=22 then AAM (vs.getD 0 IP) (vs.getD 1 IP) (vs.getD 2 IP)
 else if op=23 then PN (vs.getD 0 IP) true (vs.drop 1) else MJ op (vs.getD 0 IP) (vs.getD 1 IP)
def AOI (p:List Vr) (l:List Rng) (name:ByteArray):Rng:=if 0≤plc p name then l.getD (plc p name).toNat IP else IP
def evO (p:List Vr) (l:List Rng) (op n:Int) (name:ByteArray) (vs:List Rng):Rng :=
 if op=1 then ⟨n,n⟩ else if op=2 then AOI p l name else if op=3∨op=24 then IP else opR op vs
mutual
def evS (p:List Vr) (l:List Rng):Ex→Rng
 | .mk op n name _ args=>evO p l op n name (RZ p l args)
def RZ (p:List Vr) (l:List Rng):List Ex→List Rng
 | [] => []
 | e :: es=>evS p l e :: RZ p l es
end
theorem AJX (p:List Vr) (l:List Rng) (e:Ex):evS p l e=evO p l e.op e.n e.name (RZ p l e.args):=by cases e; simp [evS,Ex.op,Ex.n,Ex.name,Ex.args]
theorem MN (p:List Vr) (l:List Rng) : ∀ xs:List Ex,RZ p l xs=xs.map (evS p l)
 | []=>by simp [RZ]
 | e :: es=>by simp [RZ,MN p l es]
theorem UQ (p:List Vr) (l:List Rng) (xs:List Ex):(RZ p l xs).length=xs.length:=by rw [MN,List.length_map]
theorem SV:wfR IP:=by decide
theorem VX (t f:Bool):wfR (knR t f):=by cases t <;> cases f <;> decide
theorem AES {lo hi:Int} (h0:0≤lo) (h:lo≤hi):wfR (QT lo hi):=by
 unfold QT
 split
 ·exact SV
 ·exact ⟨h0,h,by show hi≤65535; omega⟩
theorem AOA {a b:Rng} (ha:wfR a) (hb:wfR b):wfR (TZ a b):=by
 obtain ⟨a0,a1,a2⟩:=ha
 obtain ⟨b0,b1,b2⟩:=hb
 unfold TZ
 split
 ·refine ⟨?_,?_,?_⟩ <;> simp only <;> omega
 ·exact AES (by omega) (by omega)
theorem AOF {a b:Rng} (ha:wfR a) (hb:wfR b):wfR (WQ a b):=by
 obtain ⟨a0,a1,a2⟩:=ha
 obtain ⟨b0,b1,b2⟩:=hb
 unfold WQ
 split
 ·refine ⟨?_,?_,?_⟩ <;> simp only <;> omega
 split
 ·refine ⟨?_,?_,?_⟩ <;> simp only <;> omega
 ·exact SV
theorem AOC {a:Rng} (ha:wfR a):wfR (XO a):=by
 obtain ⟨a0,a1,a2⟩:=ha
 unfold XO isF isT
 split
 ·decide
 split
 ·rename_i h; simp at h
  refine ⟨?_,?_,?_⟩ <;> simp only <;> omega
 ·exact SV
theorem AVF {a b:Rng} (ha:wfR a) (hb:wfR b):wfR (AS3 a b):=by
 obtain ⟨a0,a1,a2⟩:=ha
 obtain ⟨b0,b1,b2⟩:=hb
 exact AES (Int.mul_nonneg a0 b0) (Int.mul_le_mul a1 b1 b0 (by omega))
theorem WS : ∀ (k n:Nat),n < 2 ^ k↔blN n≤k:=by
 intro k
 induction k with
 | zero =>
   intro n
   rcases qA n with h | h
   ·subst h; rw [YG]; decide
   ·rw [YH h]; simp; omega
 | succ k ih =>
   intro n
   rcases qA n with h | h
   ·subst h; rw [YG]; simp; exact Nat.pos_of_ne_zero (by simp)
   ·rw [YH h,Nat.pow_succ]
    have:=ih (n / 2)
    omega
theorem AL2 {n:Nat} (h:n≤65535):blN n≤16:=(WS 16 n).1 (by omega)
theorem AUX (n:Nat):n < 2 ^ blN n:=(WS _ n).2 (Nat.le_refl _)
theorem AFU {a b:Nat} (h:a≤b):blN a≤blN b:=(WS _ a).1 (Nat.lt_of_le_of_lt h (AUX b))
theorem AWB {n:Int} (h0:0≤n):n≤WH n:=by
 have:=AUX n.toNat
 unfold WH; omega
theorem AWA {n:Int} (h:n≤65535):WH n≤65535:=by
 have:=Nat.pow_le_pow_right (by decide:0 < 2) (AL2 (n:=n.toNat) (by omega))
 unfold WH; omega
theorem API {a b:Int} (h:a≤b):WH a≤WH b:=by
 have:=Nat.pow_le_pow_right (by decide:0 < 2) (AFU (a:=a.toNat) (b:=b.toNat) (by omega))
 unfold WH; omega
theorem AA3 {n:Int} (h0:0≤n) (h1:n≤65535):wfR ⟨n,n⟩:=⟨h0,Int.le_refl _,h1⟩
theorem AVH (op:Int) {a b:Rng} (ha:wfR a) (hb:wfR b):wfR (SE op a b):=by
 obtain ⟨a0,a1,a2⟩:=ha
 obtain ⟨b0,b1,b2⟩:=hb
 have hm0:=AWB (n:=max a.hi b.hi) (by omega)
 have hm1:=AWA (n:=max a.hi b.hi) (by omega)
 have x:a.lo.toNat < 2 ^ 16:=by omega
 have y:b.lo.toNat < 2 ^ 16:=by omega
 unfold SE
 split
 ·split
  ·have:=Nat.and_lt_two_pow a.lo.toNat y
   exact AA3 (Int.natCast_nonneg _) (by unfold AF0; omega)
  ·refine ⟨?_,?_,?_⟩ <;> simp only <;> omega
 split
 ·split
  ·have:=Nat.or_lt_two_pow x y
   exact AA3 (Int.natCast_nonneg _) (by unfold orI; omega)
  ·refine ⟨?_,?_,?_⟩ <;> simp only <;> omega
 split
 ·have:=Nat.xor_lt_two_pow x y
  exact AA3 (Int.natCast_nonneg _) (by unfold AIY; omega)
 ·refine ⟨?_,?_,?_⟩ <;> simp only <;> omega
theorem WG (k:Nat):(0:Int) < 2 ^ k:=Int.pow_pos (by decide)
theorem AOB {a b:Rng} (ha:wfR a):wfR (RP a b):=by
 obtain ⟨a0,a1,a2⟩:=ha
 have hp:=WG b.lo.toNat
 unfold RP
 split
 ·decide
 split
 ·exact AES (Int.mul_nonneg a0 (by omega)) (Int.mul_le_mul_of_nonneg_right a1 (by omega))
 ·exact SV
theorem AV0 {n:Int} (h:0≤n) (k:Int):0≤VN n k:=by
 unfold VN
 split
 ·decide
 ·exact Int.ediv_nonneg h (by have:=WG k.toNat; omega)
theorem AV1 {n:Int} (h:0≤n) (k:Int):VN n k≤n:=by
 unfold VN
 split
 ·exact h
 ·exact Int.ediv_le_self _ h
theorem ABD {m n j k:Int} (h0:0≤m) (h:m≤n) (hj:j≤k):VN m k≤VN n j:=by
 unfold VN
 split
 ·split
  ·decide
  ·exact Int.ediv_nonneg (by omega) (by have:=WG j.toNat; omega)
 ·rw [if_neg (by omega)]
  have hp:=WG j.toNat
  have hd:((2:Int) ^ k.toNat)=2 ^ j.toNat * 2 ^ (k.toNat - j.toNat):=by rw [← Int.pow_add]; congr 1; omega
  rw [hd,Int.ediv_ediv_of_nonneg (by omega) |>.symm]
  have h2:m / 2 ^ j.toNat≤n / 2 ^ j.toNat:=Int.ediv_le_ediv hp h
  have h3:0≤m / 2 ^ j.toNat:=Int.ediv_nonneg h0 (by omega)
  exact Int.le_trans (Int.ediv_le_self _ h3) h2
theorem AOD (a:Rng) : ∀ (imp:Bool) (l:List Rng),wfR (PN a imp l)
 | imp,[]=>VX _ _
 | imp,[_]=>VX _ _
 | imp,lo :: hi :: r=>by
   unfold PN
   split
   ·decide
   ·exact AOD a _ r
theorem AVI (op:Int) {a b:Rng} (ha:wfR a) (hb:wfR b):wfR (MJ op a b):=by
 unfold MJ
 by_cases h:op=7
 ·rw [if_pos h]; exact AOA ha hb
 rw [if_neg h]; clear h
 by_cases h:op=8
 ·rw [if_pos h]; exact AOF ha hb
 rw [if_neg h]; clear h
 by_cases h:op=9
 ·rw [if_pos h]; exact AVF ha hb
 rw [if_neg h]; clear h
 by_cases h:op=10∨op=11∨op=12
 ·rw [if_pos h]; exact AVH op ha hb
 rw [if_neg h]; clear h
 by_cases h:op=13
 ·rw [if_pos h]; exact AOB ha
 rw [if_neg h]; clear h
 by_cases h:op=14
 ·rw [if_pos h]
  obtain ⟨a0,a1,a2⟩:=ha
  obtain ⟨b0,b1,b2⟩:=hb
  exact ⟨AV0 a0 _,ABD a0 a1 b1,Int.le_trans (AV1 (by omega) _) a2⟩
 rw [if_neg h]; clear h
 by_cases h:op=15
 ·rw [if_pos h]; exact VX _ _
 rw [if_neg h]; clear h
 by_cases h:op=16
 ·rw [if_pos h]; exact VX _ _
 rw [if_neg h]; clear h
 by_cases h:op=17
 ·rw [if_pos h]; exact VX _ _
 rw [if_neg h]; clear h
 by_cases h:op=18
 ·rw [if_pos h]; exact VX _ _
 rw [if_neg h]; clear h
 by_cases h:op=19
 ·rw [if_pos h]; exact VX _ _
 rw [if_neg h]; clear h
 by_cases h:op=20
 ·rw [if_pos h]; exact VX _ _
 rw [if_neg h]; exact VX _ _
theorem AXU (n:Int):0≤onI n∧onI n≤16:=by
 have:=NG n.toNat 16
 unfold onI; omega
theorem AR3 {a:Rng} (ha:wfR a):wfR (ABJ a):=by
 obtain ⟨a0,a1,a2⟩:=ha
 unfold ABJ
 by_cases h:sgl a=true
 ·rw [if_pos h]
  have:=AXU a.lo
  exact AA3 (by omega) (by omega)
 rw [if_neg h]
 have h16:=AL2 (n:=a.hi.toNat) (by omega)
 refine ⟨?_,?_,?_⟩ <;> simp only
 ·omega
 ·by_cases hz:a.hi=0
  ·omega
  ·rw [YH (by omega)]; omega
 ·omega
theorem AVG (c:Rng) {a b:Rng} (ha:wfR a) (hb:wfR b):wfR (AAM c a b):=by
 obtain ⟨a0,a1,a2⟩:=ha
 obtain ⟨b0,b1,b2⟩:=hb
 unfold AAM
 by_cases h:isT c=true
 ·rw [if_pos h]; exact ⟨a0,a1,a2⟩
 rw [if_neg h]
 by_cases h:isF c=true
 ·rw [if_pos h]; exact ⟨b0,b1,b2⟩
 rw [if_neg h]
 refine ⟨?_,?_,?_⟩ <;> simp only <;> omega
theorem UY {vs:List Rng} (hv : ∀ x∈vs,wfR x) (k:Nat):wfR (vs.getD k IP):=by
 rw [List.getD_eq_getElem?_getD]
 rcases Nat.lt_or_ge k vs.length with h | h
 ·rw [List.getElem?_eq_getElem h]; exact hv _ (List.getElem_mem h)
 ·rw [List.getElem?_eq_none h]; exact SV
theorem AXT (op:Int) {vs:List Rng} (hv : ∀ x∈vs,wfR x):wfR (opR op vs):=by
 have h0:=UY hv 0
 have h1:=UY hv 1
 have h2:=UY hv 2
 unfold opR
 by_cases h:op=4
 ·rw [if_pos h]; exact VX _ _
 rw [if_neg h]; clear h
 by_cases h:op=5
 ·rw [if_pos h]
  obtain ⟨a0,a1,a2⟩:=h0
  refine ⟨?_,?_,?_⟩ <;> simp only <;> omega
 rw [if_neg h]; clear h
 by_cases h:op=6
 ·rw [if_pos h]; exact AOC h0
 rw [if_neg h]; clear h
 by_cases h:op=25
 ·rw [if_pos h]; exact AR3 h0
 rw [if_neg h]; clear h
 by_cases h:op=22
 ·rw [if_pos h]; exact AVG _ h1 h2
 rw [if_neg h]; clear h
 by_cases h:op=23
 ·rw [if_pos h]; exact AOD _ _ _
 rw [if_neg h]; exact AVI op h0 h1
theorem AOE (p:List Vr) {l:List Rng} (hl : ∀ r∈l,wfR r) (e:Ex):(∀ x∈pre e,I4 x=0)→wfR (evS p l e):=by
 induction e using Ex.induct with | h e ih => ?_
 intro hval
 have hnode:=hval e (by rw [pre_eq]; simp)
 rw [AJX]
 unfold evO
 by_cases h1:e.op=1
 ·rw [if_pos h1]
  have:=(UG hnode).1 h1
  exact AA3 this.1 (by omega)
 rw [if_neg h1]
 by_cases h2:e.op=2
 ·rw [if_pos h2]
  unfold AOI
  by_cases h:0≤plc p e.name
  ·rw [if_pos h]; exact UY hl _
  ·rw [if_neg h]; exact SV
 rw [if_neg h2]
 by_cases h3:e.op=3∨e.op=24
 ·rw [if_pos h3]; exact SV
 rw [if_neg h3]
 refine AXT _ fun x hx => ?_
 rw [MN] at hx
 obtain ⟨a,ha,rfl⟩:=List.mem_map.1 hx
 exact ih a ha fun x hx=>hval x (by rw [pre_eq]; exact List.mem_cons_of_mem _ (LG ha x hx))
end Go.Proofs.YtokehnfjjmpanaaGreatDoor.Bd
set_option linter.unusedSimpArgs false
set_option maxRecDepth 8000
namespace Go.Proofs.YtokehnfjjmpanaaGreatDoor.Bd
open Sm Bins Cov Xe Wd Go.RowKit
open Bool renaming not_false→jC
open Int renaming toNat_natCast→zG,eq_ofNat_of_zero_le→zI
open List renaming drop_eq_nil_of_le→qF,map_cons→jF,map_nil→jD,append_nil→jE,getElem?_cons_zero→jZ,getElem?_cons_succ→zC,getElem?_map→zB,getElem?_eq_getElem→jU,drop_eq_getElem_cons→qC
open Nat renaming le_refl→jL,le_of_ble_eq_true→jH,reduceEqDiff→jB,add_zero→jI,zero_add→jG,reduceAdd→jK,add_assoc→qR
open Option renaming getD_some→jA,getD_none→jJ
def zR:List AV := [.int .i64 0,.int .i64 0]
theorem OU (h:Hp):JU Tryz.prog h 34=some (.ptr h.length 0 0,h ++ [ABlk.live 2 [zR]]):=A2B h
theorem PW (a b:Int):JZ Tryz.prog 34 [(0,.int .i64 a),(1,.int .i64 b)]=some (.agg (encR ⟨a,b⟩)):=by kernel_rfl
theorem ARB (b:Int):JZ Tryz.prog 34 [(1,.int .i64 b)]=some (.agg (encR ⟨0,b⟩)):=by kernel_rfl
theorem AVV {H:Hp} {b:Nat} {row:List AV} (r:Rng) (hb:H[b]? = some (.live 2 [row])) (hr:row.length=2):F7 Tryz.prog H 34 (.ptr b 0 0) (.agg (encR r))=some (H.set b (.live 2 [encR r])):=by
 rw [ZO (cs:=encR r) (TK rfl) TY hb (by rw [hr]; exact jL 2)]
 have:splice row 0 (encR r)=encR r:=by unfold splice; rw [List.take_zero,qF (by rw [hr]; exact jL 2)]; simp
 rw [this]
theorem JD {h:Hp} {b:Nat} {r:Rng} (hb:h[b]? = some (.live 2 [encR r])):DL Tryz.prog h 34 (.ptr b 0 0)=some (.agg (encR r)):=by
 rw [HY AF2 TY hb rfl (jL 2)]; rfl
theorem G5 {h:Hp} {b:Nat} {r:Rng} (hb:h[b]? = some (.live 2 [encR r])):DL Tryz.prog h 3 (.ptr b 0 0)=some (.int .i64 r.lo):=by
 rw [DC ag3 hb (row:=encR r) rfl]; rfl
theorem IA {h:Hp} {b:Nat} {r:Rng} (hb:h[b]? = some (.live 2 [encR r])):DL Tryz.prog h 3 (.ptr b 0 1)=some (.int .i64 r.hi):=by
 rw [DC ag3 hb (row:=encR r) rfl]; rfl
theorem A1K {c:Nat} {R:AV→Hp→Prop} {F:Fr} {H:Hp} {b:Nat} {x:ABlk} {r:Rng} (hF:F c = .ptr b 0 0) (hb:H[b]? = some x) (hR:R (.agg (encR r)) (H.set b (.live 2 [encR r]))):EE Tryz.prog [.cell c 34] R .ret F (H.set b (.live 2 [encR r])):=by
 rw [AJY _ _ _ _ _ _ _ _ _ hF]
 exact ⟨_,JD (G7 hb),hR⟩
structure Z0 (h H:Hp) (bz:Nat):Prop where
 gz:H[bz]? = some (ABlk.live 2 [zR])
 hx:Sm.ext h H
 hl:h.length≤bz
structure Z1 (h H:Hp) (ba bz:Nat) (a:Rng):Prop extends Z0 h H bz where
 ga:H[ba]? = some (ABlk.live 2 [encR a])
structure Z2 (h H:Hp) (ba bb bz:Nat) (a b:Rng):Prop extends Z1 h H ba bz a where
 gb:H[bb]? = some (ABlk.live 2 [encR b])
theorem Z0.mk' (h:Hp):Z0 h (h ++ [ABlk.live 2 [zR]]) h.length:=⟨C9 _ _,(ext.rfl' h).app _,jL _⟩
theorem Z1.mk' (h:Hp) (a:Rng):Z1 h (h ++ [ABlk.live 2 [encR a]] ++ [ABlk.live 2 [zR]]) h.length (h ++ [ABlk.live 2 [encR a]]).length a:=⟨⟨C9 _ _,((ext.rfl' h).app _).app _,by simp⟩,CX (C9 _ _)⟩
theorem Z2.mk' (h:Hp) (a b:Rng):Z2 h (h ++ [ABlk.live 2 [encR a]] ++ [ABlk.live 2 [encR b]] ++ [ABlk.live 2 [zR]]) h.length (h ++ [ABlk.live 2 [encR a]]).length (h ++ [ABlk.live 2 [encR a]] ++ [ABlk.live 2 [encR b]]).length a b :=
 ⟨⟨⟨C9 _ _,(((ext.rfl' h).app _).app _).app _,by simp⟩,CX (CX (C9 _ _))⟩,CX (C9 _ _)⟩
theorem Z0.out {h H:Hp} {bz:Nat} (z:Z0 h H bz) {c:Nat} {F:Fr} {r r':Rng} (hF:F c = .ptr bz 0 0) (he:r=r'):EE Tryz.prog [.cell c 34] (fun v H=>v = .agg (encR r')∧Sm.ext h H) .ret F (H.set bz (.live 2 [encR r])) :=
 A1K hF z.gz ⟨by rw [he],(z.hx.set z.hl _)⟩
theorem Z0.st {h H:Hp} {bz:Nat} (z:Z0 h H bz) (r:Rng):F7 Tryz.prog H 34 (.ptr bz 0 0) (.agg (encR r))=some (H.set bz (.live 2 [encR r])):=AVV r z.gz rfl
section
variable (G:Nat→AV)
theorem LX (a:Rng) (h:Hp):PCall (En G) 52 [.agg (encR a)] h (.bool (isT a)):=by
 refine ACalls.pure0 rfl ?_
 refine acN Tryz.func52 rfl ?_
 show awp _ _ _ _ _ (EE _ [.tmp 2] _)
 simp -implicitDefEqProofs only [BC,A8,BK,A7,CU,AZ,BA,AC,AQ,AO,BD,AX,AL,AA,AY,AU,BG,BM,BB,FN,BP,BU,BI,BZ,AB,EY,BF,↓reduceIte,jB,jI,jA,jC,enP,GI,bxR,G5 (C9 h (ABlk.live 2 [encR a]))]
 exact ⟨rfl,_,rfl⟩
theorem JI (a:Rng) (h:Hp):PCall (En G) 53 [.agg (encR a)] h (.bool (isF a)):=by
 refine ACalls.pure0 rfl ?_
 refine acN Tryz.func53 rfl ?_
 show awp _ _ _ _ _ (EE _ [.tmp 2] _)
 simp -implicitDefEqProofs only [BC,A8,BK,A7,CU,AZ,BA,AC,AQ,AO,BD,AX,AL,AA,AY,AU,BG,BM,BB,FN,BP,BU,BI,BZ,AB,DJ,BF,↓reduceIte,jB,jG,jA,jC,enP,GR,bxR,IA (C9 h (ABlk.live 2 [encR a]))]
 exact ⟨rfl,_,rfl⟩
theorem LQ (a:Rng) (h:Hp):PCall (En G) 138 [.agg (encR a)] h (.bool (sgl a)):=by
 refine ACalls.pure0 rfl ?_
 refine acN Tryz.func138 rfl ?_
 show awp _ _ _ _ _ (EE _ [.tmp 2] _)
 simp -implicitDefEqProofs only [BC,A8,BK,A7,CU,AZ,BA,AC,AQ,AO,BD,AX,AL,AA,AY,AU,BM,BB,FN,BP,BU,BI,BZ,AB,DJ,BF,↓reduceIte,jB,jI,jG,jA,jC,enP,GI,GR,bxR,G5 (C9 h (ABlk.live 2 [encR a])),IA (C9 h (ABlk.live 2 [encR a]))]
 exact ⟨rfl,_,rfl⟩
theorem O4 (n:Int) (h:Hp):PCall (En G) 30 [.int .i64 n] h (.agg (encR ⟨n,n⟩)):=by
 refine LU 2 (fun n H=>rfl) ?_
 refine acN Tryz.func30 rfl ?_
 show awp _ _ _ _ _ (EE _ [.cell 2 34] _)
 have z:=Z0.mk' h
 simp -implicitDefEqProofs only [FB,ES,BC,A8,BK,A7,AZ,BA,AC,AQ,AO,BD,AX,AL,DZ,AA,AY,BH,EZ,FZ,CZ,BZ,AB,CE,BF,↓reduceIte,jB,jA,jC,enP,jJ,OU,PW,z.st]
 exact z.out (by simp -implicitDefEqProofs only [AA,↓reduceIte,jB]) rfl
theorem MQ (h:Hp):PCall (En G) 48 [] h (.agg (encR IP)):=by
 refine LU 2 (fun n H=>rfl) ?_
 refine acN Tryz.func48 rfl ?_
 show awp _ _ _ _ _ (EE _ [.cell 0 34] _)
 have z:=Z0.mk' h
 simp -implicitDefEqProofs only [FB,ES,BC,A8,BK,A7,AZ,BA,AC,AQ,AO,BD,AX,AL,DZ,AA,AY,AU,BG,EZ,FZ,CZ,BZ,AB,CE,↓reduceIte,jB,jA,jC,enP,jJ,OU,PW,z.st]
 exact z.out (by simp -implicitDefEqProofs only [AA,↓reduceIte,jB]) rfl
theorem AGB (h:Hp):PCall (En G) 135 [] h (.agg (encR ⟨1,1⟩)):=by
 refine LU 2 (fun n H=>rfl) ?_
 refine acN Tryz.func135 rfl ?_
 show awp _ _ _ _ _ (EE _ [.cell 0 34] _)
 have z:=Z0.mk' h
 simp -implicitDefEqProofs only [BC,A8,A7,AZ,BA,AC,AQ,AO,BD,AX,AL,AU,BO,BG,EZ,BV,BN,BZ,jF,jD,jE,jA,jC,enP,OU]
 refine (O4 G 1 _).use ?_
 simp -implicitDefEqProofs only [BK,A7,AZ,BA,AC,AQ,AO,BD,AX,AL,DZ,AA,AY,CZ,CE,↓reduceIte,jB,jC,enP,jJ,z.st]
 exact z.out (by simp -implicitDefEqProofs only [AA,↓reduceIte,jB]) rfl
theorem AAW (h:Hp):PCall (En G) 136 [] h (.agg (encR ⟨0,0⟩)):=by
 refine LU 2 (fun n H=>rfl) ?_
 refine acN Tryz.func136 rfl ?_
 show awp _ _ _ _ _ (EE _ [.cell 0 34] _)
 have z:=Z0.mk' h
 simp -implicitDefEqProofs only [BC,A8,A7,AZ,BA,AC,AQ,AO,BD,AX,AL,AU,BO,BG,EZ,BV,BN,BZ,jF,jD,jE,jA,jC,enP,OU]
 refine (O4 G 0 _).use ?_
 simp -implicitDefEqProofs only [BK,A7,AZ,BA,AC,AQ,AO,BD,AX,AL,DZ,AA,AY,CZ,CE,↓reduceIte,jB,jC,enP,jJ,z.st]
 exact z.out (by simp -implicitDefEqProofs only [AA,↓reduceIte,jB]) rfl
theorem AMR (h:Hp):PCall (En G) 137 [] h (.agg (encR ⟨0,1⟩)):=by
 refine LU 2 (fun n H=>rfl) ?_
 refine acN Tryz.func137 rfl ?_
 show awp _ _ _ _ _ (EE _ [.cell 0 34] _)
 have z:=Z0.mk' h
 simp -implicitDefEqProofs only [FB,ES,BC,A8,BK,A7,AZ,BA,AC,AQ,AO,BD,AX,AL,DZ,AA,AY,AU,BG,EZ,FZ,CZ,BZ,AB,CE,↓reduceIte,jB,jA,jC,enP,jJ,OU,PW,z.st]
 exact z.out (by simp -implicitDefEqProofs only [AA,↓reduceIte,jB]) rfl
theorem J3 (t f:Bool) (h:Hp):PCall (En G) 93 [.bool t,.bool f] h (.agg (encR (knR t f))):=by
 refine LU 2 (fun n H=>rfl) ?_
 refine acN Tryz.func93 rfl ?_
 show awp _ _ _ _ _ (EE _ [.cell 4 34] _)
 have z:=Z0.mk' h
 simp -implicitDefEqProofs only [BC,CB,A8,BJ,A7,AZ,BA,AC,AQ,AO,BD,AX,AL,AA,AY,BH,BB,EZ,BZ,BF,↓reduceIte,jB,jA,jC,enP,OU]
 generalize h ++ [ABlk.live 2 [zR]]=H at z ⊢
 generalize h.length=bz at z ⊢
 cases t
 ·simp -implicitDefEqProofs only [BC,A8,BJ,A7,DX,AZ,BA,AC,AQ,AO,BD,AX,AL,AA,AY,BH,BB,BF,BQ,↓reduceIte,jB,jA,jC]
  cases f
  ·simp -implicitDefEqProofs only [BC,A8,BR,A7,EK,DX,AZ,AC,AQ,AO,BD,AX,BO,BV,BN,jD,jE,jA,jC]
   refine (AMR G _).use ?_
   simp -implicitDefEqProofs only [BK,A7,AZ,BA,AC,AQ,AO,BD,AX,AL,DZ,AA,AY,CZ,CE,↓reduceIte,jB,jC,enP,jJ,z.st]
   exact z.out (by simp -implicitDefEqProofs only [AA,↓reduceIte,jB]) rfl
  ·simp -implicitDefEqProofs only [BC,A8,DR,AZ,AC,AQ,AO,BD,AX,BO,BV,BN,jD,jE,jA,jC]
   refine (AAW G _).use ?_
   simp -implicitDefEqProofs only [BK,A7,CJ,D5,AZ,BA,AC,AQ,AO,BD,AX,AL,DZ,AA,AY,CZ,CE,↓reduceIte,jB,jC,enP,jJ,z.st]
   exact z.out (by simp -implicitDefEqProofs only [AA,↓reduceIte,jB]) rfl
 ·simp -implicitDefEqProofs only [BC,A8,DR,AZ,AC,AQ,AO,BD,AX,BO,BV,BN,jD,jE,jA,jC]
  refine (AGB G _).use ?_
  simp -implicitDefEqProofs only [BK,A7,CJ,D5,AZ,BA,AC,AQ,AO,BD,AX,AL,DZ,AA,AY,CZ,CE,↓reduceIte,jB,jC,enP,jJ,z.st]
  exact z.out (by simp -implicitDefEqProofs only [AA,↓reduceIte,jB]) (by cases f <;> rfl)
theorem ACI (lo hi:Int) (h:Hp):PCall (En G) 143 [.int .i64 lo,.int .i64 hi] h (.agg (encR (QT lo hi))):=by
 refine LU 2 (fun n H=>rfl) ?_
 refine acN Tryz.func143 rfl ?_
 show awp _ _ _ _ _ (EE _ [.cell 4 34] _)
 have z:=Z0.mk' h
 simp -implicitDefEqProofs only [BC,A8,BJ,A7,AZ,BA,AC,AQ,AO,BD,AX,AL,AA,AY,AU,BG,BH,EZ,BU,BZ,AB,EY,BF,BQ,↓reduceIte,jB,jA,jC,enP,OU]
 generalize h ++ [ABlk.live 2 [zR]]=H at z ⊢
 generalize h.length=bz at z ⊢
 refine CV (fun hc => ?_) (fun hc => ?_)
 ·have hc:hi > 65535:=by simpa using hc
  simp -implicitDefEqProofs only [BC,A8,AZ,AC,AQ,AO,BD,AX,BO,BV,BN,jD,jE,jA,jC]
  refine (MQ G _).use ?_
  simp -implicitDefEqProofs only [BK,A7,CJ,AZ,BA,AC,AQ,AO,BD,AX,AL,DZ,AA,AY,CZ,CE,↓reduceIte,jB,jC,enP,jJ,z.st]
  exact z.out (by simp -implicitDefEqProofs only [AA,↓reduceIte,jB]) (by unfold QT; rw [if_pos hc])
 ·have hc : ¬ hi > 65535:=by simpa using hc
  simp -implicitDefEqProofs only [FB,ES,BC,A8,BR,BK,A7,AZ,BA,AC,AQ,AO,BD,AX,AL,DZ,AA,AY,BH,FZ,CZ,AB,CE,BF,BQ,↓reduceIte,jB,jA,jC,enP,jJ,PW,z.st]
  exact z.out (by simp -implicitDefEqProofs only [AA,↓reduceIte,jB]) (by unfold QT; rw [if_neg hc])
theorem APE (a:Rng) (ha:wfR a) (h:Hp):PCall (En G) 94 [.agg (encR a)] h (.agg (encR (XO a))):=by
 obtain ⟨a0,a1,a2⟩:=ha
 refine LU 2 (fun n H=>rfl) ?_
 refine acN Tryz.func94 rfl ?_
 show awp _ _ _ _ _ (EE _ [.cell 2 34] _)
 have z:=Z1.mk' h a
 simp -implicitDefEqProofs only [BC,CB,A8,A7,AZ,BA,AC,AQ,AO,BD,AX,AL,AA,AY,EZ,FN,BP,BZ,BF,↓reduceIte,jB,jA,jC,enP,bxR,OU]
 generalize h ++ [ABlk.live 2 [encR a]] ++ [ABlk.live 2 [zR]]=H at z ⊢
 generalize (h ++ [ABlk.live 2 [encR a]]).length=bz at z ⊢
 generalize h.length=ba at z ⊢
 simp -implicitDefEqProofs only [AZ,AC,AQ,AO,BD,AX,AL,AA,AY,BO,BV,BN,AB,jF,jD,jE,↓reduceIte,jA,jC,JD z.ga]
 refine (JI G a _).use ?_
 simp -implicitDefEqProofs only [BJ,A7,AZ,BA,AC,AQ,AO,BD,AX,AL,AA,AY,BB,↓reduceIte,jA,jC]
 refine CV (fun hc => ?_) (fun hc => ?_)
 ·simp -implicitDefEqProofs only [BC,A8,AZ,AC,AQ,AO,BD,AX,BO,BV,BN,jD,jE,jA,jC]
  refine (AAW G _).use ?_
  simp -implicitDefEqProofs only [BK,A7,CJ,D5,AZ,BA,AC,AQ,AO,BD,AX,AL,DZ,AA,AY,CZ,CE,↓reduceIte,jB,jC,enP,jJ,z.st]
  exact z.out (by simp -implicitDefEqProofs only [AA,↓reduceIte,jB]) (by unfold XO; rw [if_pos hc])
 simp -implicitDefEqProofs only [BC,A8,AZ,AC,AQ,AO,BD,AX,AL,AA,AY,BO,BP,BV,BN,AB,jF,jD,jE,↓reduceIte,jB,jA,jC,enP,JD z.ga]
 refine (LX G a _).use ?_
 simp -implicitDefEqProofs only [BJ,A7,AZ,BA,AC,AQ,AO,BD,AX,AL,AA,AY,BB,↓reduceIte,jA,jC]
 refine CV (fun hd => ?_) (fun hd => ?_)
 ·simp -implicitDefEqProofs only [FB,ES,BC,A8,BK,A7,CJ,D5,AZ,BA,AC,AQ,AO,BD,AX,AL,DZ,AA,AY,AU,BG,FZ,BP,CZ,BU,BI,AB,CE,IZ,↓reduceIte,jB,jI,jG,jA,jC,enP,GI,GR,jJ,G5 z.ga,IA z.ga,PW,z.st,wrap_i64 (n:=65536 - a.hi) (by omega) (by omega),wrap_i64 (n:=65536 - a.lo) (by omega) (by omega)]
  exact z.out (by simp -implicitDefEqProofs only [AA,↓reduceIte,jB]) (by unfold XO; rw [hc,hd]; rfl)
 ·simp -implicitDefEqProofs only [BC,A8,BR,A7,EK,AZ,AC,AQ,AO,BD,AX,BO,BV,BN,jD,jE,jA,jC]
  refine (MQ G _).use ?_
  simp -implicitDefEqProofs only [BK,A7,AZ,BA,AC,AQ,AO,BD,AX,AL,DZ,AA,AY,CZ,CE,↓reduceIte,jB,jC,enP,jJ,z.st]
  exact z.out (by simp -implicitDefEqProofs only [AA,↓reduceIte,jB]) (by unfold XO; rw [hc,hd]; rfl)
theorem AOT (a b:Rng) (ha:wfR a) (hb:wfR b) (h:Hp):PCall (En G) 141 [.agg (encR a),.agg (encR b)] h (.agg (encR (TZ a b))):=by
 obtain ⟨a0,a1,a2⟩:=ha
 obtain ⟨b0,b1,b2⟩:=hb
 refine LU 2 (fun n H=>rfl) ?_
 refine acN Tryz.func141 rfl ?_
 show awp _ _ _ _ _ (EE _ [.cell 4 34] _)
 have z:=Z2.mk' h a b
 simp -implicitDefEqProofs only [BC,A8,A7,AZ,BA,AC,AQ,AO,BD,AX,AL,AA,AY,EZ,FN,BZ,BF,BQ,↓reduceIte,jB,jA,jC,enP,bxR,OU]
 generalize h ++ [ABlk.live 2 [encR a]] ++ [ABlk.live 2 [encR b]] ++ [ABlk.live 2 [zR]]=H at z ⊢
 generalize (h ++ [ABlk.live 2 [encR a]] ++ [ABlk.live 2 [encR b]]).length=bz at z ⊢
 generalize (h ++ [ABlk.live 2 [encR a]]).length=bb at z ⊢
 generalize h.length=ba at z ⊢
 refine EX (by kernel_rfl) ?_
 simp -implicitDefEqProofs only [FC,DV,CY,EC,DW,G9,ED,IJ,DN,BC,A8,BJ,A7,AZ,BA,AC,AQ,AO,BD,AX,AL,AA,AY,AU,BG,BH,BP,BU,BI,AB,DY,EY,↓reduceIte,jB,jK,jI,jG,jA,jC,enP,GI,GR,G5 z.ga,IA z.ga,G5 z.gb,IA z.gb,wrap_i64 (n:=a.lo+b.lo) (by omega) (by omega),wrap_i64 (n:=a.hi+b.hi) (by omega) (by omega)]
 refine CV (fun hc => ?_) (fun hc => ?_)
 ·have hc:a.lo+b.lo > 65535:=by simpa using hc
  simp -implicitDefEqProofs only [FB,ES,BC,A8,BK,A7,CJ,AZ,BA,AC,AQ,AO,BD,AX,AL,DZ,AA,AY,AU,BG,BH,FZ,CZ,BU,AB,CE,IZ,↓reduceIte,jB,jA,jC,enP,jJ,PW,z.st,wrap_i64 (n:=a.lo+b.lo - 65536) (by omega) (by omega),wrap_i64 (n:=a.hi+b.hi - 65536) (by omega) (by omega)]
  exact z.out (by simp -implicitDefEqProofs only [AA,↓reduceIte,jB]) (by unfold TZ; rw [if_pos hc])
 ·have hc : ¬ a.lo+b.lo > 65535:=by simpa using hc
  simp -implicitDefEqProofs only [BC,A8,BR,A7,AZ,AC,AQ,AO,BD,AX,AL,AA,AY,BO,BH,BV,BN,jF,jD,jE,↓reduceIte,jB,jA,jC]
  refine (ACI G _ _ _).use ?_
  simp -implicitDefEqProofs only [BK,A7,AZ,BA,AC,AQ,AO,BD,AX,AL,DZ,AA,AY,CZ,CE,↓reduceIte,jB,jC,enP,jJ,z.st]
  exact z.out (by simp -implicitDefEqProofs only [AA,↓reduceIte,jB]) (by unfold TZ; rw [if_neg hc])
theorem AQS (a b:Rng) (ha:wfR a) (hb:wfR b) (h:Hp):PCall (En G) 142 [.agg (encR a),.agg (encR b)] h (.agg (encR (WQ a b))):=by
 obtain ⟨a0,a1,a2⟩:=ha
 obtain ⟨b0,b1,b2⟩:=hb
 refine LU 2 (fun n H=>rfl) ?_
 refine acN Tryz.func142 rfl ?_
 show awp _ _ _ _ _ (EE _ [.cell 4 34] _)
 have z:=Z2.mk' h a b
 simp -implicitDefEqProofs only [BC,A8,A7,AZ,BA,AC,AQ,AO,BD,AX,AL,AA,AY,EZ,FN,BZ,BF,BQ,↓reduceIte,jB,jA,jC,enP,bxR,OU]
 generalize h ++ [ABlk.live 2 [encR a]] ++ [ABlk.live 2 [encR b]] ++ [ABlk.live 2 [zR]]=H at z ⊢
 generalize (h ++ [ABlk.live 2 [encR a]] ++ [ABlk.live 2 [encR b]]).length=bz at z ⊢
 generalize (h ++ [ABlk.live 2 [encR a]]).length=bb at z ⊢
 generalize h.length=ba at z ⊢
 refine EX (by kernel_rfl) ?_
 simp -implicitDefEqProofs only [FC,DV,CY,EC,DW,G9,ED,IJ,DN,BC,CB,A8,BJ,A7,AZ,BA,AC,AQ,AO,BD,AX,AL,AA,AY,AU,BG,BH,BB,BP,BU,BI,AB,IZ,FQ,↓reduceIte,jB,jK,jI,jG,jA,jC,enP,GI,GR,G5 z.ga,IA z.ga,G5 z.gb,IA z.gb,wrap_i64 (n:=a.lo - b.hi) (by omega) (by omega),wrap_i64 (n:=a.hi - b.lo) (by omega) (by omega)]
 refine CV (fun hc => ?_) (fun hc => ?_)
 ·have hc:0≤a.lo - b.hi:=by simpa using hc
  simp -implicitDefEqProofs only [FB,ES,BC,A8,BK,A7,CJ,D5,AZ,BA,AC,AQ,AO,BD,AX,AL,DZ,AA,AY,BH,FZ,CZ,AB,CE,↓reduceIte,jB,jA,jC,enP,jJ,PW,z.st]
  exact z.out (by simp -implicitDefEqProofs only [AA,↓reduceIte,jB]) (by unfold WQ; rw [if_pos hc])
 have hc : ¬ 0≤a.lo - b.hi:=by simpa using hc
 simp -implicitDefEqProofs only [BC,A8,BJ,A7,AZ,BA,AC,AQ,AO,BD,AX,AL,AA,AY,AU,BG,BH,BB,BU,AB,DF,↓reduceIte,jB,jA,jC,enP]
 refine CV (fun hd => ?_) (fun hd => ?_)
 ·have hd:a.hi - b.lo < 0:=by simpa using hd
  simp -implicitDefEqProofs only [FB,ES,BC,A8,BK,A7,CJ,D5,AZ,BA,AC,AQ,AO,BD,AX,AL,DZ,AA,AY,AU,BG,BH,FZ,CZ,BU,AB,CE,DY,↓reduceIte,jB,jA,jC,enP,jJ,PW,z.st,wrap_i64 (n:=a.lo - b.hi+65536) (by omega) (by omega),wrap_i64 (n:=a.hi - b.lo+65536) (by omega) (by omega)]
  exact z.out (by simp -implicitDefEqProofs only [AA,↓reduceIte,jB]) (by unfold WQ; rw [if_neg hc,if_pos hd])
 ·have hd : ¬ a.hi - b.lo < 0:=by simpa using hd
  simp -implicitDefEqProofs only [BC,A8,BR,A7,EK,AZ,AC,AQ,AO,BD,AX,BO,BV,BN,jD,jE,jA,jC]
  refine (MQ G _).use ?_
  simp -implicitDefEqProofs only [BK,A7,AZ,BA,AC,AQ,AO,BD,AX,AL,DZ,AA,AY,CZ,CE,↓reduceIte,jB,jC,enP,jJ,z.st]
  exact z.out (by simp -implicitDefEqProofs only [AA,↓reduceIte,jB]) (by unfold WQ; rw [if_neg hc,if_neg hd])
end
def AJL:Code→ByteArray
 | .seq a b=>let x:=AJL a; if x.size=0 then AJL b else x
 | .region _ ops _=>match ops.toList.find? (fun o=>match o.op with | .index _ (.const (.string _)) _=>true | _=>false) with
   | some o=>match o.op with
     | .index _ (.const (.string s)) _=>s
     | _=>⟨#[]⟩
   | none=>⟨#[]⟩
 | _=>⟨#[]⟩
def lenOf (fn:Func):ByteArray:=match fn.body with | some c=>AJL c | none=>⟨#[]⟩
def blF:Nat→Nat→Nat
 | 0,_=>0
 | f+1,n=>if n=0 then 0 else blF f (n / 2)+1
theorem AQ4 : ∀ (f n:Nat),n < 2 ^ f→blF f n=blN n
 | 0,n,h=>by
   have:n=0:=by simpa using h
   subst this; rw [YG]; rfl
 | f+1,n,h=>by
   rw [Nat.pow_succ] at h
   rcases Nat.eq_zero_or_pos n with h0 | h0
   ·subst h0; rw [YG]; simp [blF]
   ·rw [YH h0,← AQ4 f (n / 2) (by omega)]
    simp only [blF]; rw [if_neg (by omega)]
theorem AS8:(List.range 256).all (fun y=>(lenOf Tryz.f177)[y]? == some (UInt8.ofNat (blF 8 y)))=true:=by kernel_rfl
theorem APO {y:Nat} (hy:y < 256) (h:Hp):ofO h (LD Tryz.prog 9 (.str (lenOf Tryz.f177)) (.int .u8 (y:Nat)))=some (.int .u8 (blN y:Nat),h):=by
 have h1:=List.all_eq_true.1 AS8 y (by simpa using hy)
 have h2:(lenOf Tryz.f177)[y]? = some (UInt8.ofNat (blF 8 y)):=by simpa using h1
 rw [AQ4 8 y (by omega)] at h2
 have hle:blN y≤8:=(WS 8 y).1 (by omega)
 have hu:Tryz.prog.underlying 9=some .string:=by kernel_rfl
 have h3:LD Tryz.prog 9 (.str (lenOf Tryz.f177)) (.int .u8 (y:Nat))=some (.int .u8 (blN y:Nat)):=by
  unfold LD
  simp only [hu,zG,h2]
  rw [if_pos (by omega)]
  simp
  omega
 rw [h3]; rfl
theorem AW7 {n:Nat} (h:256≤n):blN n=blN (n / 256)+8:=by
 have e : ∀ k m,0 < m / 2 ^ k→blN m=blN (m / 2 ^ k)+k:=by
  intro k
  induction k with
  | zero=>intro m _; simp
  | succ k ih =>
    intro m hm
    have h2:m / 2 ^ (k+1)=m / 2 ^ k / 2:=by rw [Nat.pow_succ,Nat.div_div_eq_div_mul]
    rw [ih m (by rw [h2] at hm; omega),YH (by rw [h2] at hm; omega),h2]; omega
 exact e 8 n (by simp only [Nat.reducePow]; omega)
section
variable (G:Nat→AV)
theorem AHG (n:Nat) (hn:n < 65536) (h:Hp):PCall (En G) 140 [.int .u64 (n:Nat)] h (.int .i64 (blN n:Nat)):=by
 have hb16:=AL2 (n:=n) (by omega)
 have hc:PCall (En G) 177 [.int .u64 (n:Nat)] h (.int .i64 (blN n:Nat)):=by
  refine acN Tryz.func177 rfl ?_
  show awp _ _ _ _ _ (EE _ [.tmp 2] _)
  have d1:decide (((n:Nat):Int)≥4294967296)=false:=by simp; omega
  have d2:decide (((n:Nat):Int)≥65536)=false:=by simp; omega
  have hs:G8 Tryz.prog 175 .shr (.int .u64 (n:Nat)) (.int .u64 8)=some (.int .u64 ((n / 256:Nat):Int)):=by
   have e:G8 Tryz.prog 175 .shr (.int .u64 (n:Nat)) (.int .u64 8)=some (.int .u64 ((n:Int).fdiv (2 ^ 8))):=rfl
   rw [e,Int.fdiv_eq_ediv_of_nonneg _ (by decide)]
   rfl
  have w8 : ∀ m:Nat,m < 256→IntKind.u8.wrap ((m:Nat):Int)=((m:Nat):Int):=fun m hm=>by
   have : ∀ n:Int,IntKind.u8.wrap n=n % 256:=fun n=>by simp [IntKind.wrap,IntKind.bits,IntKind.signed]
   rw [this]; omega
  have wn : ∀ m:Nat,m < 256→IntKind.i64.wrap ((m:Nat):Int)=((m:Nat):Int):=fun m hm=>LP (by omega)
  simp -implicitDefEqProofs only [BC,A8,BR,BJ,A7,DX,AZ,BA,AC,AQ,AO,BD,AX,AL,AA,AY,AU,BG,BH,BB,BU,AB,FQ,BF,↓reduceIte,jB,jA,jC,enX,enP,d1,d2]
  refine CV (fun hc => ?_) (fun hc => ?_)
  ·have hc:256≤n:=by simp at hc; omega
   have hlt:n / 256 < 256:=by omega
   have hx:=AW7 hc
   have la:=APO hlt h
   have hl8:blN (n / 256)≤8:=(WS 8 _).1 (by omega)
   simp -implicitDefEqProofs only [BC,A8,A7,AZ,BA,AC,AQ,AO,BD,AX,AL,AA,AY,AU,BG,GV,BH,BB,BU,PK,KJ,AB,DY,BF,↓reduceIte,jB,jA,jC,enP,ALW,hs,w8 _ hlt]
   erw [la]
   have w8':IntKind.i64.wrap (0+8)=8:=by decide
   simp -implicitDefEqProofs only [BK,A7,CU,AZ,BA,AC,AQ,AO,BD,AX,AL,AA,AY,BB,BU,PK,BZ,AB,DY,↓reduceIte,jB,jA,jC,enP,AH4,wn _ (show blN (n / 256) < 256 by omega),w8',show (8:Int)+((blN (n / 256):Nat):Int)=((blN n:Nat):Int) by omega,wn _ (show blN n < 256 by omega)]
   exact ⟨trivial,trivial⟩
  ·have hc:n < 256:=by simp at hc; omega
   have la:=APO hc h
   simp -implicitDefEqProofs only [BC,A8,BR,A7,AZ,AC,AQ,AO,BD,AX,AL,AA,AY,AU,GV,BH,PK,KJ,AB,BF,↓reduceIte,jB,jA,jC,enP,ALW,w8 _ hc]
   erw [la]
   simp -implicitDefEqProofs only [BK,A7,CU,AZ,BA,AC,AQ,AO,BD,AX,AL,AA,AY,BB,BU,PK,BZ,AB,DY,↓reduceIte,jB,jA,jC,enP,AH4,wn _ (show blN n < 256 by omega),show (0:Int)+((blN n:Nat):Int)=((blN n:Nat):Int) by omega]
   exact ⟨trivial,trivial⟩
 refine acN Tryz.func140 rfl ?_
 show awp _ _ _ _ _ (EE _ [.tmp 2] _)
 simp -implicitDefEqProofs only [BC,A8,BR,BJ,A7,DX,AZ,BA,AC,AQ,AO,BD,AX,AL,AA,AY,AU,BO,BG,BM,BH,BB,BV,BN,BF,jF,jD,jE,↓reduceIte,jB,jA,jC,enX,enP]
 refine hc.use ?_
 simp -implicitDefEqProofs only [BK,A7,CU,AZ,BA,AC,AQ,AO,BD,AX,AL,AA,AY,BB,↓reduceIte,jA,jC]
 exact ⟨trivial,trivial⟩
theorem AX9 (n:Nat) (hn:n≤16):G8 Tryz.prog 3 .shl (.int .i64 1) (.int .i64 (n:Nat))=some (.int .i64 ((2 ^ n:Nat):Int)):=by
 have hp:=Nat.pow_le_pow_right (by decide:0 < 2) hn
 have hm:min ((n:Nat):Int).toNat IntKind.i64.bits=n:=by have:IntKind.i64.bits=64:=rfl; omega
 have e:(2:Int) ^ n=((2 ^ n:Nat):Int):=by simp
 rw [AL3 _ _ _ _ _ _ (by omega),hm,Int.one_mul,e,LP (by omega)]
theorem AMY (n:Int) (h0:0≤n) (h1:n≤65535) (h:Hp):PCall (En G) 178 [.int .i64 n] h (.int .i64 (WH n)):=by
 obtain ⟨m,rfl⟩:=zI h0
 have hb:=AL2 (n:=m) (by omega)
 refine acN Tryz.func178 rfl ?_
 show awp _ _ _ _ _ (EE _ [.tmp 2] _)
 have wu:IntKind.u64.wrap ((m:Nat):Int)=((m:Nat):Int):=by
  have : ∀ n:Int,IntKind.u64.wrap n=n % 18446744073709551616:=fun n=>by simp [IntKind.wrap,IntKind.bits,IntKind.signed]
  rw [this]; omega
 have hp:=Nat.pow_le_pow_right (by decide:0 < 2) hb
 have hp0:0 < 2 ^ blN m:=Nat.pow_pos (by decide)
 simp -implicitDefEqProofs only [BC,A8,A7,AZ,BA,AC,AQ,AO,BD,AX,AL,AA,AY,AU,BO,BG,BH,BB,PK,BV,BN,AB,BF,jF,jD,jE,↓reduceIte,jB,jA,jC,enX,enP,ALV,wu]
 refine (AHG G m (by omega) h).use ?_
 simp -implicitDefEqProofs only [BK,A7,CU,AZ,BA,AC,AQ,AO,BD,AX,AL,AA,AY,AU,BG,BB,BU,AB,IZ,↓reduceIte,jA,jC,enP,AX9 _ hb,wrap_i64 (n:=((2 ^ blN m:Nat):Int) - 1) (by omega) (by omega)]
 exact ⟨by unfold WH; rw [zG],trivial⟩
theorem AZ5 {a b:Int} (a0:0≤a) (a1:a≤65535) (b0:0≤b) (b1:b≤65535):G8 Tryz.prog 3 .and (.int .i64 a) (.int .i64 b)=some (.int .i64 (AF0 a b)):=by
 obtain ⟨m,rfl⟩:=zI a0
 obtain ⟨n,rfl⟩:=zI b0
 exact AZ3 m n (by omega) (by omega)
theorem A1B {a b:Int} (a0:0≤a) (a1:a≤65535) (b0:0≤b) (b1:b≤65535):G8 Tryz.prog 3 .or (.int .i64 a) (.int .i64 b)=some (.int .i64 (orI a b)):=by
 obtain ⟨m,rfl⟩:=zI a0
 obtain ⟨n,rfl⟩:=zI b0
 exact A09 m n (by omega) (by omega)
theorem AXS {a b:Int} (a0:0≤a) (a1:a≤65535) (b0:0≤b) (b1:b≤65535):G8 Tryz.prog 3 .xor (.int .i64 a) (.int .i64 b)=some (.int .i64 (AIY a b)):=by
 obtain ⟨m,rfl⟩:=zI a0
 obtain ⟨n,rfl⟩:=zI b0
 exact AXQ m n (by omega) (by omega)
theorem ASP {k:Nat} (hk:k≤15):(2:Int) ^ k≤32768:=by
 have hp:=Nat.pow_le_pow_right (by decide:0 < 2) hk
 have e:(2:Int) ^ k=((2 ^ k:Nat):Int):=by simp
 omega
theorem AUS {a b:Int} (a0:0≤a) (a1:a≤65535) (b0:0≤b) (b1:b < 16):G8 Tryz.prog 3 .shl (.int .i64 a) (.int .i64 b)=some (.int .i64 (a * 2 ^ b.toNat)):=by
 have hm:min b.toNat IntKind.i64.bits=b.toNat:=by have:IntKind.i64.bits=64:=rfl; omega
 have h1:=ASP (k:=b.toNat) (by omega)
 have h2:=WG b.toNat
 have h3:a * 2 ^ b.toNat≤65535 * 32768:=Int.mul_le_mul a1 h1 (by omega) (by decide)
 have h4:0≤a * 2 ^ b.toNat:=Int.mul_nonneg a0 (by omega)
 rw [AL3 _ _ _ _ _ _ (by omega),hm,wrap_i64 (by omega) (by omega)]
theorem AX6 {a b:Int} (b0:0≤b) (b1:b < 16):G8 Tryz.prog 3 .shr (.int .i64 a) (.int .i64 b)=some (.int .i64 (a / 2 ^ b.toNat)):=by
 have hm:min b.toNat IntKind.i64.bits=b.toNat:=by have:IntKind.i64.bits=64:=rfl; omega
 have h2:=WG b.toNat
 rw [AT5 _ _ _ _ _ _ (by omega),hm,Int.fdiv_eq_ediv_of_nonneg _ (by omega)]
end
structure Z3 (h H:Hp) (ba bb bc bz:Nat) (a b c:Rng):Prop extends Z2 h H ba bb bz a b where
 gc:H[bc]? = some (ABlk.live 2 [encR c])
theorem Z3.mk' (h:Hp) (a b c:Rng):Z3 h (h ++ [ABlk.live 2 [encR a]] ++ [ABlk.live 2 [encR b]] ++ [ABlk.live 2 [encR c]] ++ [ABlk.live 2 [zR]]) h.length (h ++ [ABlk.live 2 [encR a]]).length (h ++ [ABlk.live 2 [encR a]] ++ [ABlk.live 2 [encR b]]).length (h ++ [ABlk.live 2 [encR a]] ++ [ABlk.live 2 [encR b]] ++ [ABlk.live 2 [encR c]]).length a b c :=
 ⟨⟨⟨⟨C9 _ _,((((ext.rfl' h).app _).app _).app _).app _,by simp⟩,CX (CX (CX (C9 _ _)))⟩,CX (CX (C9 _ _))⟩,CX (C9 _ _)⟩
section
variable (G:Nat→AV)
theorem AG4 (n k:Int) (k0:0≤k) (h:Hp):PCall (En G) 146 [.int .i64 n,.int .i64 k] h (.int .i64 (VN n k)):=by
 refine acN Tryz.func146 rfl ?_
 show awp _ _ _ _ _ (EE _ [.tmp 4] _)
 simp -implicitDefEqProofs only [BC,A8,BJ,A7,AZ,BA,AC,AQ,AO,BD,AX,AL,AA,AY,AU,BG,BH,BB,BU,AB,FQ,BF,BQ,↓reduceIte,jB,jA,jC,enX,enP]
 refine CV (fun hc => ?_) (fun hc => ?_)
 ·have hc:k≥16:=by simpa using hc
  simp -implicitDefEqProofs only [BC,A8,BK,A7,CJ,CU,AZ,BA,AC,AQ,AO,BD,AX,AL,AA,AU,BG,BB,↓reduceIte,jA,jC]
  exact ⟨by unfold VN; rw [if_pos hc],trivial⟩
 ·have hc : ¬ k≥16:=by simpa using hc
  simp -implicitDefEqProofs only [BC,A8,BR,BK,A7,CU,AZ,BA,AC,AQ,AO,BD,AX,AL,AA,AY,BH,BB,BU,AB,BF,BQ,↓reduceIte,jB,jA,jC,enP,AX6 (a:=n) k0 (by omega)]
  exact ⟨by unfold VN; rw [if_neg hc],trivial⟩
theorem ACP (op:Int) (a b:Rng) (ha:wfR a) (hb:wfR b) (h:Hp):PCall (En G) 144 [.int .i64 op,.agg (encR a),.agg (encR b)] h (.agg (encR (SE op a b))):=by
 obtain ⟨a0,a1,a2⟩:=ha
 obtain ⟨b0,b1,b2⟩:=hb
 refine LU 2 (fun n H=>rfl) ?_
 refine acN Tryz.func144 rfl ?_
 show awp _ _ _ _ _ (EE _ [.cell 6 34] _)
 have z:=Z2.mk' h a b
 simp -implicitDefEqProofs only [BC,A8,A7,AZ,BA,AC,AQ,AO,BD,AX,AL,AA,AY,EZ,FN,BP,BI,BZ,AB,BF,BQ,↓reduceIte,jB,jG,jA,jC,enP,GR,bxR,OU]
 generalize h ++ [ABlk.live 2 [encR a]] ++ [ABlk.live 2 [encR b]] ++ [ABlk.live 2 [zR]]=H at z ⊢
 generalize (h ++ [ABlk.live 2 [encR a]] ++ [ABlk.live 2 [encR b]]).length=bz at z ⊢
 generalize (h ++ [ABlk.live 2 [encR a]]).length=bb at z ⊢
 generalize h.length=ba at z ⊢
 simp -implicitDefEqProofs only [AZ,AC,AQ,AO,BD,AX,AL,AA,AY,BO,BP,BI,ZL,BV,BN,AB,UH,jF,jD,jE,↓reduceIte,jB,jG,jA,jC,enP,GR,IA z.ga,IA z.gb]
 refine (AMY G (max a.hi b.hi) (by omega) (by omega) _).use ?_
 simp -implicitDefEqProofs only [BC,CB,A8,BJ,A7,AZ,BA,AC,AQ,AO,BD,AX,AL,AA,AY,AU,BG,BH,BB,BU,AB,DJ,BF,↓reduceIte,jB,jA,jC,enP]
 have hand:=AZ5 (a:=a.lo) (b:=b.lo) a0 (by omega) b0 (by omega)
 have hor:=A1B (a:=a.lo) (b:=b.lo) a0 (by omega) b0 (by omega)
 have hxor:=AXS (a:=a.lo) (b:=b.lo) a0 (by omega) b0 (by omega)
 by_cases h10:op=10
 ·have c10:(op == 10)=true:=by simpa using h10
  simp -implicitDefEqProofs only [BC,A8,DR,AZ,AC,AQ,AO,BD,AX,AL,AA,AY,BO,BP,BV,BN,AB,jF,jD,jE,↓reduceIte,jB,jA,jC,enP,c10,JD z.ga]
  refine (LQ G a _).use ?_
  simp -implicitDefEqProofs only [AZ,BL,BX,CG,AC,AQ,AO,BD,AX,AL,AA,AY,BH,↓reduceIte,jA,jC]
  refine IV (fun hs => ?_) (fun hs => ?_)
  ·simp -implicitDefEqProofs only [BL,BX,CG,F8,AC,AQ,AO,BD,AX,AL,AA,AY,BO,BP,BV,BN,AB,jF,jD,jE,↓reduceIte,jB,jA,jC,enP,hs,JD z.gb]
   refine (LQ G b _).use ?_
   simp -implicitDefEqProofs only [BJ,A7,AZ,BA,AC,AQ,AO,BD,AX,AL,AA,AY,AU,BM,CO,DK,↓reduceIte,jB,jA,jC,hs]
   refine CV (fun ht => ?_) (fun ht => ?_)
   ·simp -implicitDefEqProofs only [BC,A8,AZ,AC,AQ,AO,BD,AX,AL,AA,AY,BO,BP,BU,BI,BV,BN,AB,jF,jD,jE,↓reduceIte,jB,jI,jA,jC,enP,GI,G5 z.ga,G5 z.gb,hand]
    refine (O4 G _ _).use ?_
    simp -implicitDefEqProofs only [BK,A7,CJ,D5,AZ,BA,AC,AQ,AO,BD,AX,AL,DZ,AA,AY,CZ,CE,↓reduceIte,jB,jC,enP,jJ,z.st]
    exact z.out (by simp -implicitDefEqProofs only [AA,↓reduceIte,jB]) (by unfold SE; rw [if_pos h10,hs,ht]; rfl)
   ·simp -implicitDefEqProofs only [FB,ES,BC,A8,BR,BK,A7,CJ,D5,AZ,BA,AC,AQ,AO,BD,AX,AL,DZ,AA,AY,AU,BG,FZ,BP,CZ,BI,AA0,AB,CE,WI,↓reduceIte,jB,jG,jA,jC,enP,GR,jJ,IA z.ga,IA z.gb,PW,z.st]
    exact z.out (by simp -implicitDefEqProofs only [AA,↓reduceIte,jB]) (by unfold SE; rw [if_pos h10,hs,ht]; rfl)
  ·simp -implicitDefEqProofs only [FB,ES,BC,A8,BR,BK,BJ,A7,CJ,D5,DX,AZ,BA,BL,BX,CG,JA,AC,AQ,AO,BD,AX,AL,DZ,AA,EG,AY,AU,BG,BM,CO,DU,FZ,BP,CZ,BI,AA0,AB,CE,WI,↓reduceIte,jB,jG,jA,jC,enP,GR,jJ,hs,IA z.ga,IA z.gb,PW,z.st]
   exact z.out (by simp -implicitDefEqProofs only [AA,↓reduceIte,jB]) (by unfold SE; rw [if_pos h10,hs]; rfl)
 have c10:(op == 10)=false:=by simpa using h10
 by_cases h11:op=11
 ·have c11:(op == 11)=true:=by simpa using h11
  simp -implicitDefEqProofs only [BC,A8,BJ,A7,DR,DX,AZ,BA,AC,AQ,AO,BD,AX,AL,AA,AY,AU,BO,BG,BB,BP,BU,BV,BN,AB,DJ,jF,jD,jE,↓reduceIte,jB,jA,jC,enP,c10,c11,JD z.ga]
  refine (LQ G a _).use ?_
  simp -implicitDefEqProofs only [AZ,BL,BX,CG,AC,AQ,AO,BD,AX,AL,AA,AY,BH,↓reduceIte,jA,jC]
  refine IV (fun hs => ?_) (fun hs => ?_)
  ·simp -implicitDefEqProofs only [BL,BX,CG,F8,AC,AQ,AO,BD,AX,AL,AA,AY,BO,BP,BV,BN,AB,jF,jD,jE,↓reduceIte,jB,jA,jC,enP,hs,JD z.gb]
   refine (LQ G b _).use ?_
   simp -implicitDefEqProofs only [BJ,A7,AZ,BA,AC,AQ,AO,BD,AX,AL,AA,AY,AU,BM,CO,DK,↓reduceIte,jB,jA,jC,hs]
   refine CV (fun ht => ?_) (fun ht => ?_)
   ·simp -implicitDefEqProofs only [BC,A8,AZ,AC,AQ,AO,BD,AX,AL,AA,AY,BO,BP,BU,BI,BV,BN,AB,jF,jD,jE,↓reduceIte,jB,jI,jA,jC,enP,GI,G5 z.ga,G5 z.gb,hor]
    refine (O4 G _ _).use ?_
    simp -implicitDefEqProofs only [BK,A7,CJ,D5,AZ,BA,AC,AQ,AO,BD,AX,AL,DZ,AA,AY,CZ,CE,↓reduceIte,jB,jC,enP,jJ,z.st]
    exact z.out (by simp -implicitDefEqProofs only [AA,↓reduceIte,jB]) (by unfold SE; rw [if_neg h10,if_pos h11,hs,ht]; rfl)
   ·simp -implicitDefEqProofs only [FB,ES,BC,A8,BR,BK,A7,CJ,D5,AZ,BA,AC,AQ,AO,BD,AX,AL,DZ,AA,AY,BH,FZ,BP,CZ,BI,ZL,AB,CE,UH,↓reduceIte,jB,jI,jA,jC,enP,GI,jJ,G5 z.ga,G5 z.gb,PW,z.st]
    exact z.out (by simp -implicitDefEqProofs only [AA,↓reduceIte,jB]) (by unfold SE; rw [if_neg h10,if_pos h11,hs,ht]; rfl)
  ·simp -implicitDefEqProofs only [FB,ES,BC,A8,BR,BK,BJ,A7,CJ,D5,DX,AZ,BA,BL,BX,CG,JA,AC,AQ,AO,BD,AX,AL,DZ,AA,EG,AY,AU,BM,BH,CO,DU,FZ,BP,CZ,BI,ZL,AB,CE,UH,↓reduceIte,jB,jI,jA,jC,enP,GI,jJ,hs,G5 z.ga,G5 z.gb,PW,z.st]
   exact z.out (by simp -implicitDefEqProofs only [AA,↓reduceIte,jB]) (by unfold SE; rw [if_neg h10,if_pos h11,hs]; rfl)
 have c11:(op == 11)=false:=by simpa using h11
 simp -implicitDefEqProofs only [BC,A8,BR,BJ,A7,EK,DX,AZ,BA,AC,AQ,AO,BD,AX,AL,AA,AY,AU,BO,BG,BB,BP,BU,BV,BN,AB,DJ,jF,jD,jE,↓reduceIte,jB,jA,jC,enP,c10,c11,JD z.ga]
 refine (LQ G a _).use ?_
 simp -implicitDefEqProofs only [AZ,BL,BX,CG,AC,AQ,AO,BD,AX,AL,AA,AY,BH,↓reduceIte,jA,jC]
 refine IV (fun hs => ?_) (fun hs => ?_)
 ·simp -implicitDefEqProofs only [BL,BX,CG,F8,AC,AQ,AO,BD,AX,AL,AA,AY,BO,BP,BV,BN,AB,jF,jD,jE,↓reduceIte,jB,jA,jC,enP,hs,JD z.gb]
  refine (LQ G b _).use ?_
  simp -implicitDefEqProofs only [BJ,A7,AZ,BA,AC,AQ,AO,BD,AX,AL,AA,AY,AU,BM,CO,DK,↓reduceIte,jB,jA,jC,hs]
  refine CV (fun ht => ?_) (fun ht => ?_)
  ·simp -implicitDefEqProofs only [BC,A8,AZ,AC,AQ,AO,BD,AX,AL,AA,AY,BO,BP,BU,BI,BV,BN,AB,jF,jD,jE,↓reduceIte,jB,jI,jA,jC,enP,GI,G5 z.ga,G5 z.gb,hxor]
   refine (O4 G _ _).use ?_
   simp -implicitDefEqProofs only [BK,A7,CJ,AZ,BA,AC,AQ,AO,BD,AX,AL,DZ,AA,AY,CZ,CE,↓reduceIte,jB,jC,enP,jJ,z.st]
   exact z.out (by simp -implicitDefEqProofs only [AA,↓reduceIte,jB]) (by unfold SE; rw [if_neg h10,if_neg h11,hs,ht]; rfl)
  ·simp -implicitDefEqProofs only [FB,ES,BC,A8,BR,BK,A7,AZ,BA,AC,AQ,AO,BD,AX,AL,DZ,AA,AY,AU,BG,BH,FZ,CZ,AB,CE,↓reduceIte,jB,jA,jC,enP,jJ,PW,z.st]
   exact z.out (by simp -implicitDefEqProofs only [AA,↓reduceIte,jB]) (by unfold SE; rw [if_neg h10,if_neg h11,hs,ht]; rfl)
 ·simp -implicitDefEqProofs only [FB,ES,BC,A8,BR,BK,BJ,A7,DX,AZ,BA,BL,BX,CG,JA,AC,AQ,AO,BD,AX,AL,DZ,AA,EG,AY,AU,BG,BM,BH,CO,DU,FZ,CZ,AB,CE,↓reduceIte,jB,jA,jC,enP,jJ,hs,PW,z.st]
  exact z.out (by simp -implicitDefEqProofs only [AA,↓reduceIte,jB]) (by unfold SE; rw [if_neg h10,if_neg h11,hs]; rfl)
theorem AOV (a b:Rng) (ha:wfR a) (hb:wfR b) (h:Hp):PCall (En G) 145 [.agg (encR a),.agg (encR b)] h (.agg (encR (RP a b))):=by
 obtain ⟨a0,a1,a2⟩:=ha
 obtain ⟨b0,b1,b2⟩:=hb
 refine LU 2 (fun n H=>rfl) ?_
 refine acN Tryz.func145 rfl ?_
 show awp _ _ _ _ _ (EE _ [.cell 4 34] _)
 have z:=Z2.mk' h a b
 simp -implicitDefEqProofs only [BC,CB,A8,A7,AZ,BA,AC,AQ,AO,BD,AX,AL,AA,AY,EZ,FN,BP,BZ,BF,BQ,↓reduceIte,jB,jA,jC,enP,bxR,OU]
 generalize h ++ [ABlk.live 2 [encR a]] ++ [ABlk.live 2 [encR b]] ++ [ABlk.live 2 [zR]]=H at z ⊢
 generalize (h ++ [ABlk.live 2 [encR a]] ++ [ABlk.live 2 [encR b]]).length=bz at z ⊢
 generalize (h ++ [ABlk.live 2 [encR a]]).length=bb at z ⊢
 generalize h.length=ba at z ⊢
 simp -implicitDefEqProofs only [AZ,AC,AQ,AO,BD,AX,AL,AA,AY,BO,BV,BN,AB,jF,jD,jE,↓reduceIte,jA,jC,JD z.ga]
 refine (JI G a _).use ?_
 simp -implicitDefEqProofs only [AZ,BL,BX,CG,AC,AQ,AO,BD,AX,AL,AA,AY,BH,↓reduceIte,jA,jC]
 have zero : ∀ q:(isF a || decide (b.lo≥16))=true,RP a b=⟨0,0⟩:=fun q=>by unfold RP; rw [if_pos q]
 refine IV (fun hs => ?_) (fun hs => ?_)
 ·simp -implicitDefEqProofs only [BC,A8,BJ,A7,DR,AZ,BA,BL,BX,CG,FY,AC,AQ,AO,BD,AX,AL,AA,EG,AY,AU,BO,BM,BB,CO,DK,BV,BN,jD,jE,↓reduceIte,jB,jA,jC,hs]
  refine (AAW G _).use ?_
  simp -implicitDefEqProofs only [BK,A7,CJ,D5,AZ,BA,AC,AQ,AO,BD,AX,AL,DZ,AA,AY,CZ,CE,↓reduceIte,jB,jC,enP,jJ,z.st]
  exact z.out (by simp -implicitDefEqProofs only [AA,↓reduceIte,jB]) (zero (by rw [hs]; rfl)).symm
 simp -implicitDefEqProofs only [BJ,A7,AZ,BA,BL,BX,CG,EM,AC,AQ,AO,BD,AX,AL,AA,AY,AU,BG,BM,BB,CO,DU,BP,BU,BI,AB,FQ,↓reduceIte,jB,jI,jA,jC,enP,GI,hs,G5 z.gb]
 refine CV (fun ht => ?_) (fun ht => ?_)
 ·simp -implicitDefEqProofs only [BC,A8,AZ,AC,AQ,AO,BD,AX,BO,BV,BN,jD,jE,jA,jC]
  refine (AAW G _).use ?_
  simp -implicitDefEqProofs only [BK,A7,CJ,D5,AZ,BA,AC,AQ,AO,BD,AX,AL,DZ,AA,AY,CZ,CE,↓reduceIte,jB,jC,enP,jJ,z.st]
  exact z.out (by simp -implicitDefEqProofs only [AA,↓reduceIte,jB]) (zero (by rw [ht]; simp)).symm
 have hb16 : ¬ b.lo≥16:=by simpa using ht
 have nz : ¬ (isF a || decide (b.lo≥16))=true:=by rw [hs,ht]; decide
 simp -implicitDefEqProofs only [BC,A8,AZ,AC,AQ,AO,BD,AX,AL,AA,AY,BO,BP,BV,BN,AB,jF,jD,jE,↓reduceIte,jB,jA,jC,enP,JD z.gb]
 refine (LQ G b _).use ?_
 simp -implicitDefEqProofs only [BJ,A7,AZ,BA,AC,AQ,AO,BD,AX,AL,AA,AY,BB,↓reduceIte,jA,jC]
 refine CV (fun hu => ?_) (fun hu => ?_)
 ·simp -implicitDefEqProofs only [BC]
  refine EX (by kernel_rfl) ?_
  simp -implicitDefEqProofs only [FC,DV,CY,DW,ED,GL,IJ,DN,EW,EJ,AC,AA,AY,BO,BP,CZ,BU,BI,AB,jF,jD,jE,↓reduceIte,jB,jK,jI,jG,jA,enP,GI,GR,jJ,G5 z.ga,IA z.ga,G5 z.gb,AUS (a:=a.lo) (b:=b.lo) a0 (by omega) b0 (by omega),AUS (a:=a.hi) (b:=b.lo) (by omega) a2 b0 (by omega)]
  refine ⟨_,ACI G _ _ _,?_⟩
  simp -implicitDefEqProofs only [GN,EC,BK,A7,CJ,D5,CE,z.st]
  exact z.out (by simp -implicitDefEqProofs only [AA,↓reduceIte,jB]) (by unfold RP; rw [if_neg nz,if_pos hu])
 ·simp -implicitDefEqProofs only [BC,A8,BR,A7,EK,AZ,AC,AQ,AO,BD,AX,BO,BV,BN,jD,jE,jA,jC]
  refine (MQ G _).use ?_
  simp -implicitDefEqProofs only [BK,A7,AZ,BA,AC,AQ,AO,BD,AX,AL,DZ,AA,AY,CZ,CE,↓reduceIte,jB,jC,enP,jJ,z.st]
  exact z.out (by simp -implicitDefEqProofs only [AA,↓reduceIte,jB]) (by unfold RP; rw [if_neg nz,hu]; rfl)
theorem AMT (a:Rng) (ha:wfR a) (h:Hp):PCall (En G) 95 [.agg (encR a)] h (.agg (encR (ABJ a))):=by
 obtain ⟨a0,a1,a2⟩:=ha
 refine LU 2 (fun n H=>rfl) ?_
 refine acN Tryz.func95 rfl ?_
 show awp _ _ _ _ _ (EE _ [.cell 2 34] _)
 have z:=Z1.mk' h a
 simp -implicitDefEqProofs only [BC,A8,A7,AZ,BA,AC,AQ,AO,BD,AX,AL,AA,AY,EZ,FN,BP,BZ,BF,↓reduceIte,jB,jA,jC,enP,bxR,OU]
 generalize h ++ [ABlk.live 2 [encR a]] ++ [ABlk.live 2 [zR]]=H at z ⊢
 generalize (h ++ [ABlk.live 2 [encR a]]).length=bz at z ⊢
 generalize h.length=ba at z ⊢
 simp -implicitDefEqProofs only [AZ,AC,AQ,AO,BD,AX,AL,AA,AY,BO,BV,BN,AB,jF,jD,jE,↓reduceIte,jA,jC,JD z.ga]
 refine (LQ G a _).use ?_
 simp -implicitDefEqProofs only [BJ,A7,BA,AL,AA,AY,↓reduceIte]
 refine CV (fun hc => ?_) (fun hc => ?_)
 ·simp -implicitDefEqProofs only [BC,A8,AZ,AC,AQ,AO,BD,AX,AL,AA,AY,BO,BP,BI,BV,BN,AB,jF,jD,jE,↓reduceIte,jB,jI,jA,jC,enP,GI,G5 z.ga]
  have ho:=AMS G a.lo.toNat (by omega) H
  rw [Int.toNat_of_nonneg a0] at ho
  refine ho.use ?_
  simp -implicitDefEqProofs only [AZ,AC,AQ,AO,BD,AX,AL,AA,AY,BO,BV,BN,jF,jD,jE,↓reduceIte,jA,jC]
  refine (O4 G _ _).use ?_
  simp -implicitDefEqProofs only [BK,A7,CJ,AZ,BA,AC,AQ,AO,BD,AX,AL,DZ,AA,AY,CZ,CE,↓reduceIte,jB,jC,enP,jJ,z.st]
  exact z.out (by simp -implicitDefEqProofs only [AA,↓reduceIte,jB]) (by unfold ABJ onI TM; rw [if_pos hc])
 ·have wu:IntKind.u64.wrap a.hi=((a.hi.toNat:Nat):Int):=by
   have : ∀ n:Int,IntKind.u64.wrap n=n % 18446744073709551616:=fun n=>by simp [IntKind.wrap,IntKind.bits,IntKind.signed]
   rw [this]; omega
  simp -implicitDefEqProofs only [BC,BR,A7]
  refine EX (by kernel_rfl) ?_
  simp -implicitDefEqProofs only [FC,FB,ES,DV,CY,DW,NJ,ED,AEO,DN,OE,EW,EJ,AC,AA,AY,AU,BO,BG,FZ,BP,PK,BI,AA0,AB,WI,jF,jD,jE,↓reduceIte,jB,jK,jI,jG,jA,enP,GI,GR,ALV,G5 z.ga,IA z.ga,wu]
  refine ⟨_,AHG G a.hi.toNat (by omega) _,?_⟩
  simp -implicitDefEqProofs only [FC,DV,CY,GN,EC,DW,GL,BK,A7,AC,AA,AY,CZ,AB,CE,↓reduceIte,jB,jG,enP,jJ,PW,z.st]
  exact z.out (by simp -implicitDefEqProofs only [AA,↓reduceIte,jB]) (by unfold ABJ; rw [hc]; rfl)
theorem AQY (c a b:Rng) (h:Hp):PCall (En G) 96 [.agg (encR c),.agg (encR a),.agg (encR b)] h (.agg (encR (AAM c a b))):=by
 refine LU 2 (fun n H=>rfl) ?_
 refine acN Tryz.func96 rfl ?_
 show awp _ _ _ _ _ (EE _ [.cell 6 34] _)
 have z:=Z3.mk' h c a b
 simp -implicitDefEqProofs only [BC,CB,A8,A7,AZ,BA,AC,AQ,AO,BD,AX,AL,AA,AY,EZ,FN,BP,BZ,BF,BQ,↓reduceIte,jB,jA,jC,enP,bxR,OU]
 generalize h ++ [ABlk.live 2 [encR c]] ++ [ABlk.live 2 [encR a]] ++ [ABlk.live 2 [encR b]] ++ [ABlk.live 2 [zR]]=H at z ⊢
 generalize (h ++ [ABlk.live 2 [encR c]] ++ [ABlk.live 2 [encR a]] ++ [ABlk.live 2 [encR b]]).length=bz at z ⊢
 generalize (h ++ [ABlk.live 2 [encR c]] ++ [ABlk.live 2 [encR a]]).length=bc at z ⊢
 generalize (h ++ [ABlk.live 2 [encR c]]).length=bb at z ⊢
 generalize h.length=ba at z ⊢
 simp -implicitDefEqProofs only [AZ,AC,AQ,AO,BD,AX,AL,AA,AY,BO,BV,BN,AB,jF,jD,jE,↓reduceIte,jA,jC,JD z.ga]
 refine (LX G c _).use ?_
 simp -implicitDefEqProofs only [BJ,A7,AZ,BA,AC,AQ,AO,BD,AX,AL,AA,AY,BB,↓reduceIte,jA,jC]
 refine CV (fun hc => ?_) (fun hc => ?_)
 ·simp -implicitDefEqProofs only [BC,A8,BK,A7,CJ,D5,AZ,BA,AC,AQ,AO,BD,AX,AL,DZ,AA,AY,BP,CZ,AB,CE,↓reduceIte,jB,jA,jC,enP,jJ,JD z.gb,z.st]
  exact z.out (by simp -implicitDefEqProofs only [AA,↓reduceIte,jB]) (by unfold AAM; rw [if_pos hc])
 simp -implicitDefEqProofs only [BC,A8,AZ,AC,AQ,AO,BD,AX,AL,AA,AY,BO,BP,BV,BN,AB,jF,jD,jE,↓reduceIte,jB,jA,jC,enP,JD z.ga]
 refine (JI G c _).use ?_
 simp -implicitDefEqProofs only [BJ,A7,AZ,BA,AC,AQ,AO,BD,AX,AL,AA,AY,BB,↓reduceIte,jA,jC]
 refine CV (fun hd => ?_) (fun hd => ?_)
 ·simp -implicitDefEqProofs only [BC,A8,BK,A7,CJ,D5,AZ,BA,AC,AQ,AO,BD,AX,AL,DZ,AA,AY,BP,CZ,AB,CE,↓reduceIte,jB,jA,jC,enP,jJ,JD z.gc,z.st]
  exact z.out (by simp -implicitDefEqProofs only [AA,↓reduceIte,jB]) (by unfold AAM; rw [hc,if_pos hd]; rfl)
 ·simp -implicitDefEqProofs only [FB,ES,BC,A8,BR,BK,A7,EK,AZ,BA,AC,AQ,AO,BD,AX,AL,DZ,AA,AY,FZ,BP,CZ,BI,ZL,AA0,AB,CE,UH,WI,↓reduceIte,jB,jI,jG,jA,jC,enP,GI,GR,jJ,G5 z.gb,IA z.gb,G5 z.gc,IA z.gc,PW,z.st]
  exact z.out (by simp -implicitDefEqProofs only [AA,↓reduceIte,jB]) (by unfold AAM; rw [hc,hd]; rfl)
end
section
variable (G:Nat→AV)
theorem ADP (a b:Rng) (h:Hp):PCall (En G) 147 [.agg (encR a),.agg (encR b)] h (.tup [.bool (UC a b),.bool (dfB a b)]):=by
 refine LU 2 (fun n H=>rfl) ?_
 refine acN Tryz.func147 rfl ?_
 show awp _ _ _ _ _ (EE _ [.tmp 4,.tmp 5] _)
 have ga:=CX (x:=ABlk.live 2 [encR b]) (C9 h (ABlk.live 2 [encR a]))
 have gb:=C9 (h ++ [ABlk.live 2 [encR a]]) (ABlk.live 2 [encR b])
 have hx:ext h (h ++ [ABlk.live 2 [encR a]] ++ [ABlk.live 2 [encR b]]):=((ext.rfl' h).app _).app _
 simp -implicitDefEqProofs only [BC,A8,A7,AZ,BA,AC,AQ,AO,BD,AX,AL,AA,AY,AU,BM,BB,FN,BZ,BF,BQ,↓reduceIte,jB,jA,jC,enP,bxR]
 generalize h ++ [ABlk.live 2 [encR a]] ++ [ABlk.live 2 [encR b]]=H at ga gb hx ⊢
 generalize (h ++ [ABlk.live 2 [encR a]]).length=bb at ga gb ⊢
 generalize h.length=ba at ga gb ⊢
 refine EX (by kernel_rfl) ?_
 have second : ∀ q:Bool,q=UC a b→q=UC a b:=fun _ h=>h
 simp -implicitDefEqProofs only [FC,DV,CY,DW,D9,ET,EP,ED,EW,EJ,CG,AC,AA,AY,BO,BP,AB,jF,jD,jE,↓reduceIte,jB,jK,jA,enP,JD ga]
 refine ⟨_,LQ G a _,?_⟩
 try simp -implicitDefEqProofs only []
 refine PH (fun h1 => ?_) (fun h1 => ?_)
 ·simp -implicitDefEqProofs only [FC,DV,CY,DW,D9,ET,PS,EP,F6,ED,EW,EJ,CG,AC,AA,AY,AU,BO,BM,CO,DK,BP,AB,jF,jD,jE,↓reduceIte,jB,jK,jA,enP,h1,JD gb]
  refine ⟨_,LQ G b _,?_⟩
  try simp -implicitDefEqProofs only [h1]
  refine PH (fun h2 => ?_) (fun h2 => ?_)
  ·simp -implicitDefEqProofs only [FC,DV,CY,DW,D9,ET,PS,EP,F6,ED,IJ,DN,CG,AC,AA,AY,AU,BM,CO,DK,BP,BU,BI,AB,DJ,DF,↓reduceIte,jB,jK,jI,jG,jA,enP,GI,GR,h1,h2,G5 ga,IA ga,G5 gb,IA gb]
   refine PH (fun h3 => ?_) (fun h3 => ?_)
   ·simp -implicitDefEqProofs only [FC,DV,CY,EC,DW,D9,ET,PI,G9,F6,BK,A7,JX,CG,AC,AA,EG,AY,AU,BM,CO,DK,↓reduceIte,jB,jK,jA,h1,h2,h3,G5 ga,IA ga,G5 gb,IA gb]
    exact ⟨by unfold UC dfB; rw [h1,h2,h3]; simp,hx⟩
   ·simp -implicitDefEqProofs only [FC,DV,CY,EC,DW,D9,ET,OB,G9,F6,ED,IJ,DN,BK,A7,JX,CG,AC,AA,AY,AU,BM,CO,DU,BP,BU,BI,AB,DF,↓reduceIte,jB,jK,jI,jG,jA,enP,GI,GR,h1,h2,h3,G5 ga,IA ga,G5 gb,IA gb]
    exact ⟨by unfold UC dfB; rw [h1,h2,h3]; simp,hx⟩
  ·simp -implicitDefEqProofs only [FC,DV,CY,DW,D9,ET,SL,EP,F6,ED,IJ,DN,CG,AC,AA,EG,AY,AU,BM,CO,DU,BP,BU,BI,AB,DF,↓reduceIte,jB,jK,jI,jG,jA,enP,GI,GR,h1,h2,G5 ga,IA ga,G5 gb,IA gb]
   refine PH (fun h3 => ?_) (fun h3 => ?_)
   ·simp -implicitDefEqProofs only [FC,DV,CY,EC,DW,D9,ET,PI,G9,F6,BK,A7,JX,CG,AC,AA,EG,AY,AU,BM,CO,DK,↓reduceIte,jB,jK,jA,h1,h2,h3,G5 ga,IA ga,G5 gb,IA gb]
    exact ⟨by unfold UC dfB; rw [h1,h2,h3]; simp,hx⟩
   ·simp -implicitDefEqProofs only [FC,DV,CY,EC,DW,D9,ET,OB,G9,F6,ED,IJ,DN,BK,A7,JX,CG,AC,AA,AY,AU,BM,CO,DU,BP,BU,BI,AB,DF,↓reduceIte,jB,jK,jI,jG,jA,enP,GI,GR,h1,h2,h3,G5 ga,IA ga,G5 gb,IA gb]
    exact ⟨by unfold UC dfB; rw [h1,h2,h3]; simp,hx⟩
 ·simp -implicitDefEqProofs only [FC,DV,CY,DW,D9,ET,SL,EP,F6,ED,IJ,DN,CG,AC,AA,EG,AY,AU,BM,CO,DU,BP,BU,BI,AB,DF,↓reduceIte,jB,jK,jI,jG,jA,enP,GI,GR,h1,G5 ga,IA ga,G5 gb,IA gb]
  refine PH (fun h3 => ?_) (fun h3 => ?_)
  ·simp -implicitDefEqProofs only [FC,DV,CY,EC,DW,D9,ET,PI,G9,F6,BK,A7,JX,CG,AC,AA,EG,AY,AU,BM,CO,DK,↓reduceIte,jB,jK,jA,h1,h3,G5 ga,IA ga,G5 gb,IA gb]
   exact ⟨by unfold UC dfB; rw [h1,h3]; simp,hx⟩
  ·simp -implicitDefEqProofs only [FC,DV,CY,EC,DW,D9,ET,OB,G9,F6,ED,IJ,DN,BK,A7,JX,CG,AC,AA,AY,AU,BM,CO,DU,BP,BU,BI,AB,DF,↓reduceIte,jB,jK,jI,jG,jA,enP,GI,GR,h1,h3,G5 ga,IA ga,G5 gb,IA gb]
   exact ⟨by unfold UC dfB; rw [h1,h3]; simp,hx⟩
set_option maxHeartbeats 2000000 in
theorem AQ9 (op:Int) (a b:Rng) (ha:wfR a) (hb:wfR b) (_hop:7≤op∧op≤21) (h:Hp):PCall (En G) 98 [.int .i64 op,.agg (encR a),.agg (encR b)] h (.agg (encR (MJ op a b))):=by
 have ha':=ha
 have hb':=hb
 obtain ⟨a0,a1,a2⟩:=ha
 obtain ⟨b0,b1,b2⟩:=hb
 refine LU 2 (fun n H=>rfl) ?_
 refine acN Tryz.func98 rfl ?_
 show awp _ _ _ _ _ (EE _ [.cell 6 34] _)
 have z:=Z2.mk' h a b
 simp -implicitDefEqProofs only [BC,CB,A8,BJ,A7,AZ,BA,AC,AQ,AO,BD,AX,AL,AA,AY,AU,BG,BH,BB,EZ,FN,BU,BZ,AB,DJ,BF,BQ,↓reduceIte,jB,jA,jC,enP,bxR,OU]
 generalize h ++ [ABlk.live 2 [encR a]] ++ [ABlk.live 2 [encR b]] ++ [ABlk.live 2 [zR]]=H at z ⊢
 generalize (h ++ [ABlk.live 2 [encR a]] ++ [ABlk.live 2 [encR b]]).length=bz at z ⊢
 generalize (h ++ [ABlk.live 2 [encR a]]).length=bb at z ⊢
 generalize h.length=ba at z ⊢
 by_cases h7:op=7
 ·have c7:(op == 7)=true:=by simpa using h7
  simp -implicitDefEqProofs only [BC,A8,DR,AZ,AC,AQ,AO,BD,AX,AL,AA,AY,BO,BP,BV,BN,AB,jF,jD,jE,↓reduceIte,jB,jA,jC,enP,c7,JD z.ga,JD z.gb]
  refine (AOT G a b ha' hb' _).use ?_
  simp -implicitDefEqProofs only [BK,A7,CJ,D5,AZ,BA,AC,AQ,AO,BD,AX,AL,DZ,AA,AY,CZ,CE,↓reduceIte,jB,jC,enP,jJ,z.st]
  exact z.out (by simp -implicitDefEqProofs only [AA,↓reduceIte,jB]) (by unfold MJ; rw [if_pos (by omega)])
 have c7:(op == 7)=false:=by simpa using h7
 by_cases h8:op=8
 ·have c8:(op == 8)=true:=by simpa using h8
  simp -implicitDefEqProofs only [BC,A8,BJ,A7,DR,DX,AZ,BA,AC,AQ,AO,BD,AX,AL,AA,AY,AU,BO,BG,BB,BP,BU,BV,BN,AB,DJ,jF,jD,jE,↓reduceIte,jB,jA,jC,enP,c7,c8,JD z.ga,JD z.gb]
  refine (AQS G a b ha' hb' _).use ?_
  simp -implicitDefEqProofs only [BK,A7,CJ,D5,AZ,BA,AC,AQ,AO,BD,AX,AL,DZ,AA,AY,CZ,CE,↓reduceIte,jB,jC,enP,jJ,z.st]
  exact z.out (by simp -implicitDefEqProofs only [AA,↓reduceIte,jB]) (by unfold MJ; rw [if_neg (by omega),if_pos (by omega)])
 have c8:(op == 8)=false:=by simpa using h8
 by_cases h9:op=9
 ·have c9:(op == 9)=true:=by simpa using h9
  have m1:0≤a.lo * b.lo:=Int.mul_nonneg a0 b0
  have m2:a.lo * b.lo≤65535 * 65535:=Int.mul_le_mul (by omega) (by omega) b0 (by decide)
  have m3:0≤a.hi * b.hi:=Int.mul_nonneg (by omega) (by omega)
  have m4:a.hi * b.hi≤65535 * 65535:=Int.mul_le_mul a2 b2 (by omega) (by decide)
  simp -implicitDefEqProofs only [BC,A8,BJ,A7,DR,DX,AZ,BA,AC,AQ,AO,BD,AX,AL,AA,AY,AU,BO,BG,BB,BP,BU,BI,BV,BN,AB,YJ,DJ,jF,jD,jE,↓reduceIte,jB,jI,jG,jA,jC,enP,GI,GR,c7,c8,c9,G5 z.ga,IA z.ga,G5 z.gb,IA z.gb,wrap_i64 (n:=a.lo * b.lo) (by omega) (by omega),wrap_i64 (n:=a.hi * b.hi) (by omega) (by omega)]
  refine (ACI G _ _ _).use ?_
  simp -implicitDefEqProofs only [BK,A7,CJ,D5,AZ,BA,AC,AQ,AO,BD,AX,AL,DZ,AA,AY,CZ,CE,↓reduceIte,jB,jC,enP,jJ,z.st]
  exact z.out (by simp -implicitDefEqProofs only [AA,↓reduceIte,jB]) (by unfold MJ; rw [if_neg (by omega),if_neg (by omega),if_pos (by omega)]; rfl)
 have c9:(op == 9)=false:=by simpa using h9
 by_cases h10:op=10
 ·have c10:(op == 10)=true:=by simpa using h10
  simp -implicitDefEqProofs only [BC,A8,BR,BJ,A7,DR,DX,AZ,BA,AC,AQ,AO,BD,AX,AL,AA,AY,AU,BO,BG,BH,BB,BP,BU,BV,BN,AB,DJ,BF,jF,jD,jE,↓reduceIte,jB,jA,jC,enP,c7,c8,c9,c10,JD z.ga,JD z.gb]
  refine (ACP G op a b ha' hb' _).use ?_
  simp -implicitDefEqProofs only [BK,A7,CJ,D5,AZ,BA,AC,AQ,AO,BD,AX,AL,DZ,AA,AY,CZ,CE,↓reduceIte,jB,jC,enP,jJ,z.st]
  exact z.out (by simp -implicitDefEqProofs only [AA,↓reduceIte,jB]) (by unfold MJ; rw [if_neg (by omega),if_neg (by omega),if_neg (by omega),if_pos (by omega)])
 have c10:(op == 10)=false:=by simpa using h10
 by_cases h11:op=11
 ·have c11:(op == 11)=true:=by simpa using h11
  simp -implicitDefEqProofs only [BC,A8,BR,BJ,A7,DR,DX,AZ,BA,AC,AQ,AO,BD,AX,AL,AA,AY,AU,BO,BG,BH,BB,BP,BU,BV,BN,AB,DJ,BF,jF,jD,jE,↓reduceIte,jB,jA,jC,enP,c7,c8,c9,c10,c11,JD z.ga,JD z.gb]
  refine (ACP G op a b ha' hb' _).use ?_
  simp -implicitDefEqProofs only [BK,A7,CJ,D5,AZ,BA,AC,AQ,AO,BD,AX,AL,DZ,AA,AY,CZ,CE,↓reduceIte,jB,jC,enP,jJ,z.st]
  exact z.out (by simp -implicitDefEqProofs only [AA,↓reduceIte,jB]) (by unfold MJ; rw [if_neg (by omega),if_neg (by omega),if_neg (by omega),if_pos (by omega)])
 have c11:(op == 11)=false:=by simpa using h11
 by_cases h12:op=12
 ·have c12:(op == 12)=true:=by simpa using h12
  simp -implicitDefEqProofs only [BC,A8,BJ,A7,DR,DX,AZ,BA,AC,AQ,AO,BD,AX,AL,AA,AY,AU,BO,BG,BH,BB,BP,BU,BV,BN,AB,DJ,BF,jF,jD,jE,↓reduceIte,jB,jA,jC,enP,c7,c8,c9,c10,c11,c12,JD z.ga,JD z.gb]
  refine (ACP G op a b ha' hb' _).use ?_
  simp -implicitDefEqProofs only [BK,A7,CJ,D5,AZ,BA,AC,AQ,AO,BD,AX,AL,DZ,AA,AY,CZ,CE,↓reduceIte,jB,jC,enP,jJ,z.st]
  exact z.out (by simp -implicitDefEqProofs only [AA,↓reduceIte,jB]) (by unfold MJ; rw [if_neg (by omega),if_neg (by omega),if_neg (by omega),if_pos (by omega)])
 have c12:(op == 12)=false:=by simpa using h12
 by_cases h13:op=13
 ·have c13:(op == 13)=true:=by simpa using h13
  simp -implicitDefEqProofs only [BC,A8,BJ,A7,DR,DX,AZ,BA,AC,AQ,AO,BD,AX,AL,AA,AY,AU,BO,BG,BB,BP,BU,BV,BN,AB,DJ,jF,jD,jE,↓reduceIte,jB,jA,jC,enP,c7,c8,c9,c10,c11,c12,c13,JD z.ga,JD z.gb]
  refine (AOV G a b ha' hb' _).use ?_
  simp -implicitDefEqProofs only [BK,A7,CJ,D5,AZ,BA,AC,AQ,AO,BD,AX,AL,DZ,AA,AY,CZ,CE,↓reduceIte,jB,jC,enP,jJ,z.st]
  exact z.out (by simp -implicitDefEqProofs only [AA,↓reduceIte,jB]) (by unfold MJ; rw [if_neg (by omega),if_neg (by omega),if_neg (by omega),if_neg (by omega),if_pos (by omega)])
 have c13:(op == 13)=false:=by simpa using h13
 by_cases h14:op=14
 ·have c14:(op == 14)=true:=by simpa using h14
  simp -implicitDefEqProofs only [BC,A8,BJ,A7,DR,DX,AZ,BA,AC,AQ,AO,BD,AX,AL,AA,AY,AU,BG,BB,BU,AB,DJ,↓reduceIte,jB,jA,jC,enP,c7,c8,c9,c10,c11,c12,c13,c14]
  refine EX (by kernel_rfl) ?_
  simp -implicitDefEqProofs only [FC,FB,ES,DV,CY,DW,NJ,ED,DN,EW,EJ,AC,AA,AY,BO,FZ,BP,BI,AB,jF,jD,jE,↓reduceIte,jB,jK,jI,jG,jA,enP,GI,GR,G5 z.ga,IA z.ga,G5 z.gb,IA z.gb]
  refine ⟨_,AG4 G a.lo b.hi (by omega) _,?_⟩
  try simp -implicitDefEqProofs only [G5 z.ga,IA z.ga,G5 z.gb,IA z.gb]
  refine ⟨_,AG4 G a.hi b.lo (by omega) _,?_⟩
  simp -implicitDefEqProofs only [FC,DV,CY,GN,EC,DW,GL,BK,A7,CJ,D5,AC,AA,AY,CZ,AB,CE,↓reduceIte,jB,jG,enP,jJ,PW,z.st]
  exact z.out (by simp -implicitDefEqProofs only [AA,↓reduceIte,jB]) (by unfold MJ; rw [if_neg (by omega),if_neg (by omega),if_neg (by omega),if_neg (by omega),if_neg (by omega),if_pos (by omega)])
 have c14:(op == 14)=false:=by simpa using h14
 by_cases h15:op=15
 ·have c15:(op == 15)=true:=by simpa using h15
  simp -implicitDefEqProofs only [BC,A8,BJ,A7,DR,DX,AZ,BA,AC,AQ,AO,BD,AX,AL,AA,AY,AU,BO,BG,BB,BP,BU,BV,BN,AB,DJ,jF,jD,jE,↓reduceIte,jB,jA,jC,enP,c7,c8,c9,c10,c11,c12,c13,c14,c15,JD z.ga,JD z.gb]
  refine (ADP G a b _).use ?_
  simp -implicitDefEqProofs only [jZ,zC,AZ,AC,AQ,AO,BD,AX,AL,AA,AY,BO,GH,IW,BV,BN,AB,jF,jD,jE,↓reduceIte,jB,jA,jC]
  refine (J3 G _ _ _).use ?_
  simp -implicitDefEqProofs only [BK,A7,CJ,D5,AZ,BA,AC,AQ,AO,BD,AX,AL,DZ,AA,AY,CZ,CE,↓reduceIte,jB,jC,enP,jJ,z.st]
  exact z.out (by simp -implicitDefEqProofs only [AA,↓reduceIte,jB]) (by unfold MJ; rw [if_neg (by omega),if_neg (by omega),if_neg (by omega),if_neg (by omega),if_neg (by omega),if_neg (by omega),if_pos (by omega)])
 have c15:(op == 15)=false:=by simpa using h15
 by_cases h16:op=16
 ·have c16:(op == 16)=true:=by simpa using h16
  simp -implicitDefEqProofs only [BC,A8,BJ,A7,DR,DX,AZ,BA,AC,AQ,AO,BD,AX,AL,AA,AY,AU,BO,BG,BB,BP,BU,BV,BN,AB,DJ,jF,jD,jE,↓reduceIte,jB,jA,jC,enP,c7,c8,c9,c10,c11,c12,c13,c14,c15,c16,JD z.ga,JD z.gb]
  refine (ADP G a b _).use ?_
  simp -implicitDefEqProofs only [jZ,zC,BC,A8,A7,AZ,BA,AC,AQ,AO,BD,AX,AL,AA,AY,BO,BH,BB,GH,IW,BV,BN,AB,jF,jD,jE,↓reduceIte,jB,jA,jC]
  refine (J3 G _ _ _).use ?_
  simp -implicitDefEqProofs only [BK,A7,CJ,D5,AZ,BA,AC,AQ,AO,BD,AX,AL,DZ,AA,AY,CZ,CE,↓reduceIte,jB,jC,enP,jJ,z.st]
  exact z.out (by simp -implicitDefEqProofs only [AA,↓reduceIte,jB]) (by unfold MJ; rw [if_neg (by omega),if_neg (by omega),if_neg (by omega),if_neg (by omega),if_neg (by omega),if_neg (by omega),if_neg (by omega),if_pos (by omega)])
 have c16:(op == 16)=false:=by simpa using h16
 by_cases h17:op=17
 ·have c17:(op == 17)=true:=by simpa using h17
  simp -implicitDefEqProofs only [BC,A8,BJ,A7,DR,DX,AZ,BA,AC,AQ,AO,BD,AX,AL,AA,AY,AU,BO,BG,BB,BP,BU,BI,BV,BN,AB,DJ,DF,FQ,jF,jD,jE,↓reduceIte,jB,jI,jG,jA,jC,enP,GI,GR,c7,c8,c9,c10,c11,c12,c13,c14,c15,c16,c17,G5 z.ga,IA z.ga,G5 z.gb,IA z.gb]
  refine (J3 G _ _ _).use ?_
  simp -implicitDefEqProofs only [BK,A7,CJ,D5,AZ,BA,AC,AQ,AO,BD,AX,AL,DZ,AA,AY,CZ,CE,↓reduceIte,jB,jC,enP,jJ,z.st]
  exact z.out (by simp -implicitDefEqProofs only [AA,↓reduceIte,jB]) (by unfold MJ; rw [if_neg (by omega),if_neg (by omega),if_neg (by omega),if_neg (by omega),if_neg (by omega),if_neg (by omega),if_neg (by omega),if_neg (by omega),if_pos (by omega)])
 have c17:(op == 17)=false:=by simpa using h17
 by_cases h18:op=18
 ·have c18:(op == 18)=true:=by simpa using h18
  simp -implicitDefEqProofs only [BC,A8,BJ,A7,DR,DX,AZ,BA,AC,AQ,AO,BD,AX,AL,AA,AY,AU,BO,BG,BB,BP,BU,BI,BV,BN,AB,DJ,I7,EY,jF,jD,jE,↓reduceIte,jB,jI,jG,jA,jC,enP,GI,GR,c7,c8,c9,c10,c11,c12,c13,c14,c15,c16,c17,c18,G5 z.ga,IA z.ga,G5 z.gb,IA z.gb]
  refine (J3 G _ _ _).use ?_
  simp -implicitDefEqProofs only [BK,A7,CJ,D5,AZ,BA,AC,AQ,AO,BD,AX,AL,DZ,AA,AY,CZ,CE,↓reduceIte,jB,jC,enP,jJ,z.st]
  exact z.out (by simp -implicitDefEqProofs only [AA,↓reduceIte,jB]) (by unfold MJ; rw [if_neg (by omega),if_neg (by omega),if_neg (by omega),if_neg (by omega),if_neg (by omega),if_neg (by omega),if_neg (by omega),if_neg (by omega),if_neg (by omega),if_pos (by omega)])
 have c18:(op == 18)=false:=by simpa using h18
 by_cases h19:op=19
 ·have c19:(op == 19)=true:=by simpa using h19
  simp -implicitDefEqProofs only [BC,A8,BJ,A7,DR,DX,AZ,BA,AC,AQ,AO,BD,AX,AL,AA,AY,AU,BG,BB,BU,AB,DJ,↓reduceIte,jB,jA,jC,enP,c7,c8,c9,c10,c11,c12,c13,c14,c15,c16,c17,c18,c19]
  refine EX (by kernel_rfl) ?_
  simp -implicitDefEqProofs only [FC,DV,CY,DW,D9,ET,EP,ED,EW,EJ,CG,AC,AA,AY,BO,BP,AB,jF,jD,jE,↓reduceIte,jB,jK,jA,enP,JD z.ga]
  refine ⟨_,LX G a _,?_⟩
  try simp -implicitDefEqProofs only []
  refine PH (fun h1 => ?_) (fun h1 => ?_)
  ·simp -implicitDefEqProofs only [FC,DV,CY,DW,D9,ET,PS,F6,ED,EW,EJ,CG,AC,AA,AY,AU,BO,BM,CO,DK,BP,AB,jF,jD,jE,↓reduceIte,jB,jK,jA,enP,h1,JD z.gb]
   refine ⟨_,LX G b _,?_⟩
   try simp -implicitDefEqProofs only [FC,DV,CY,DW,D9,ET,EP,EW,EJ,CG,AC,AA,AY,BO,AB,jF,jD,jE,↓reduceIte,jK,jA,h1,JD z.ga]
   refine ⟨_,JI G a _,?_⟩
   try simp -implicitDefEqProofs only [h1]
   refine PH (fun h3 => ?_) (fun h3 => ?_)
   ·simp -implicitDefEqProofs only [FC,DV,CY,DW,D9,ET,PI,F6,GL,EW,EJ,CG,AC,AA,EG,AY,AU,BO,BM,CO,DK,CZ,jF,jD,jE,↓reduceIte,jB,jK,jG,jA,enP,jJ,h1,h3]
    refine ⟨_,J3 G _ _ _,?_⟩
    simp -implicitDefEqProofs only [GN,EC,BK,A7,CJ,D5,CE,z.st]
    exact z.out (by simp -implicitDefEqProofs only [AA,↓reduceIte,jB]) (by unfold MJ; rw [if_neg (by omega),if_neg (by omega),if_neg (by omega),if_neg (by omega),if_neg (by omega),if_neg (by omega),if_neg (by omega),if_neg (by omega),if_neg (by omega),if_neg (by omega),if_pos (by omega)]; rw [h1,h3]; simp)
   ·simp -implicitDefEqProofs only [FC,DV,CY,DW,D9,ET,OB,F6,ED,GL,EW,EJ,CG,AC,AA,AY,AU,BO,BM,CO,DU,BP,CZ,AB,jF,jD,jE,↓reduceIte,jB,jK,jG,jA,enP,jJ,h1,h3,JD z.gb]
    refine ⟨_,JI G b _,?_⟩
    try simp -implicitDefEqProofs only [h1,h3]
    refine ⟨_,J3 G _ _ _,?_⟩
    simp -implicitDefEqProofs only [GN,EC,BK,A7,CJ,D5,CE,z.st]
    exact z.out (by simp -implicitDefEqProofs only [AA,↓reduceIte,jB]) (by unfold MJ; rw [if_neg (by omega),if_neg (by omega),if_neg (by omega),if_neg (by omega),if_neg (by omega),if_neg (by omega),if_neg (by omega),if_neg (by omega),if_neg (by omega),if_neg (by omega),if_pos (by omega)]; rw [h1,h3]; simp)
  ·simp -implicitDefEqProofs only [FC,DV,CY,DW,D9,ET,SL,EP,F6,ED,EW,EJ,CG,AC,AA,EG,AY,AU,BO,BM,CO,DU,BP,AB,jF,jD,jE,↓reduceIte,jB,jK,jA,enP,h1,JD z.ga]
   refine ⟨_,JI G a _,?_⟩
   try simp -implicitDefEqProofs only [h1]
   refine PH (fun h3 => ?_) (fun h3 => ?_)
   ·simp -implicitDefEqProofs only [FC,DV,CY,DW,D9,ET,PI,F6,GL,EW,EJ,CG,AC,AA,EG,AY,AU,BO,BM,CO,DK,CZ,jF,jD,jE,↓reduceIte,jB,jK,jG,jA,enP,jJ,h1,h3]
    refine ⟨_,J3 G _ _ _,?_⟩
    simp -implicitDefEqProofs only [GN,EC,BK,A7,CJ,D5,CE,z.st]
    exact z.out (by simp -implicitDefEqProofs only [AA,↓reduceIte,jB]) (by unfold MJ; rw [if_neg (by omega),if_neg (by omega),if_neg (by omega),if_neg (by omega),if_neg (by omega),if_neg (by omega),if_neg (by omega),if_neg (by omega),if_neg (by omega),if_neg (by omega),if_pos (by omega)]; rw [h1,h3]; simp)
   ·simp -implicitDefEqProofs only [FC,DV,CY,DW,D9,ET,OB,F6,ED,GL,EW,EJ,CG,AC,AA,AY,AU,BO,BM,CO,DU,BP,CZ,AB,jF,jD,jE,↓reduceIte,jB,jK,jG,jA,enP,jJ,h1,h3,JD z.gb]
    refine ⟨_,JI G b _,?_⟩
    try simp -implicitDefEqProofs only [h1,h3]
    refine ⟨_,J3 G _ _ _,?_⟩
    simp -implicitDefEqProofs only [GN,EC,BK,A7,CJ,D5,CE,z.st]
    exact z.out (by simp -implicitDefEqProofs only [AA,↓reduceIte,jB]) (by unfold MJ; rw [if_neg (by omega),if_neg (by omega),if_neg (by omega),if_neg (by omega),if_neg (by omega),if_neg (by omega),if_neg (by omega),if_neg (by omega),if_neg (by omega),if_neg (by omega),if_pos (by omega)]; rw [h1,h3]; simp)
 have c19:(op == 19)=false:=by simpa using h19
 by_cases h20:op=20
 ·have c20:(op == 20)=true:=by simpa using h20
  simp -implicitDefEqProofs only [BC,A8,BJ,A7,DR,DX,AZ,BA,AC,AQ,AO,BD,AX,AL,AA,AY,AU,BG,BB,BU,AB,DJ,↓reduceIte,jB,jA,jC,enP,c7,c8,c9,c10,c11,c12,c13,c14,c15,c16,c17,c18,c19,c20]
  refine EX (by kernel_rfl) ?_
  simp -implicitDefEqProofs only [FC,DV,CY,DW,D9,ET,EP,ED,EW,EJ,CG,AC,AA,AY,BO,BP,AB,jF,jD,jE,↓reduceIte,jB,jK,jA,enP,JD z.ga]
  refine ⟨_,LX G a _,?_⟩
  try simp -implicitDefEqProofs only []
  refine PH (fun h1 => ?_) (fun h1 => ?_)
  ·simp -implicitDefEqProofs only [FC,DV,CY,DW,D9,ET,PI,EP,F6,ED,EW,EJ,CG,AC,AA,EG,AY,AU,BO,BM,CO,DK,BP,AB,jF,jD,jE,↓reduceIte,jB,jK,jA,enP,h1,JD z.ga]
   refine ⟨_,JI G a _,?_⟩
   try simp -implicitDefEqProofs only [h1]
   refine PH (fun h3 => ?_) (fun h3 => ?_)
   ·simp -implicitDefEqProofs only [FC,DV,CY,DW,D9,ET,PS,F6,ED,GL,EW,EJ,CG,AC,AA,AY,AU,BO,BM,CO,DK,BP,CZ,AB,jF,jD,jE,↓reduceIte,jB,jK,jG,jA,enP,jJ,h1,h3,JD z.gb]
    refine ⟨_,JI G b _,?_⟩
    try simp -implicitDefEqProofs only [h1,h3]
    refine ⟨_,J3 G _ _ _,?_⟩
    simp -implicitDefEqProofs only [GN,EC,BK,A7,CJ,D5,CE,z.st]
    exact z.out (by simp -implicitDefEqProofs only [AA,↓reduceIte,jB]) (by unfold MJ; rw [if_neg (by omega),if_neg (by omega),if_neg (by omega),if_neg (by omega),if_neg (by omega),if_neg (by omega),if_neg (by omega),if_neg (by omega),if_neg (by omega),if_neg (by omega),if_neg (by omega),if_pos (by omega)]; rw [h1,h3]; simp)
   ·simp -implicitDefEqProofs only [FC,DV,CY,DW,D9,ET,SL,F6,GL,EW,EJ,CG,AC,AA,EG,AY,AU,BO,BM,CO,DU,CZ,jF,jD,jE,↓reduceIte,jB,jK,jG,jA,enP,jJ,h1,h3]
    refine ⟨_,J3 G _ _ _,?_⟩
    simp -implicitDefEqProofs only [GN,EC,BK,A7,CJ,D5,CE,z.st]
    exact z.out (by simp -implicitDefEqProofs only [AA,↓reduceIte,jB]) (by unfold MJ; rw [if_neg (by omega),if_neg (by omega),if_neg (by omega),if_neg (by omega),if_neg (by omega),if_neg (by omega),if_neg (by omega),if_neg (by omega),if_neg (by omega),if_neg (by omega),if_neg (by omega),if_pos (by omega)]; rw [h1,h3]; simp)
  ·simp -implicitDefEqProofs only [FC,DV,CY,DW,D9,ET,OB,F6,ED,EW,EJ,CG,AC,AA,AY,AU,BO,BM,CO,DU,BP,AB,jF,jD,jE,↓reduceIte,jB,jK,jA,enP,h1,JD z.gb]
   refine ⟨_,LX G b _,?_⟩
   try simp -implicitDefEqProofs only [FC,DV,CY,DW,D9,ET,EP,EW,EJ,CG,AC,AA,AY,BO,AB,jF,jD,jE,↓reduceIte,jK,jA,h1,JD z.ga]
   refine ⟨_,JI G a _,?_⟩
   try simp -implicitDefEqProofs only [h1]
   refine PH (fun h3 => ?_) (fun h3 => ?_)
   ·simp -implicitDefEqProofs only [FC,DV,CY,DW,D9,ET,PS,F6,ED,GL,EW,EJ,CG,AC,AA,AY,AU,BO,BM,CO,DK,BP,CZ,AB,jF,jD,jE,↓reduceIte,jB,jK,jG,jA,enP,jJ,h1,h3,JD z.gb]
    refine ⟨_,JI G b _,?_⟩
    try simp -implicitDefEqProofs only [h1,h3]
    refine ⟨_,J3 G _ _ _,?_⟩
    simp -implicitDefEqProofs only [GN,EC,BK,A7,CJ,D5,CE,z.st]
    exact z.out (by simp -implicitDefEqProofs only [AA,↓reduceIte,jB]) (by unfold MJ; rw [if_neg (by omega),if_neg (by omega),if_neg (by omega),if_neg (by omega),if_neg (by omega),if_neg (by omega),if_neg (by omega),if_neg (by omega),if_neg (by omega),if_neg (by omega),if_neg (by omega),if_pos (by omega)]; rw [h1,h3]; simp)
   ·simp -implicitDefEqProofs only [FC,DV,CY,DW,D9,ET,SL,F6,GL,EW,EJ,CG,AC,AA,EG,AY,AU,BO,BM,CO,DU,CZ,jF,jD,jE,↓reduceIte,jB,jK,jG,jA,enP,jJ,h1,h3]
    refine ⟨_,J3 G _ _ _,?_⟩
    simp -implicitDefEqProofs only [GN,EC,BK,A7,CJ,D5,CE,z.st]
    exact z.out (by simp -implicitDefEqProofs only [AA,↓reduceIte,jB]) (by unfold MJ; rw [if_neg (by omega),if_neg (by omega),if_neg (by omega),if_neg (by omega),if_neg (by omega),if_neg (by omega),if_neg (by omega),if_neg (by omega),if_neg (by omega),if_neg (by omega),if_neg (by omega),if_pos (by omega)]; rw [h1,h3]; simp)
 have c20:(op == 20)=false:=by simpa using h20
 simp -implicitDefEqProofs only [BC,A8,BR,BJ,A7,EK,DX,AZ,BA,AC,AQ,AO,BD,AX,AL,AA,AY,AU,BG,BB,BU,AB,DJ,↓reduceIte,jB,jA,jC,enP,c7,c8,c9,c10,c11,c12,c13,c14,c15,c16,c17,c18,c19,c20]
 refine EX (by kernel_rfl) ?_
 simp -implicitDefEqProofs only [FC,DV,CY,DW,D9,ET,EP,ED,EW,EJ,CG,AC,AA,AY,BO,BP,AB,jF,jD,jE,↓reduceIte,jB,jK,jA,enP,JD z.ga]
 refine ⟨_,JI G a _,?_⟩
 try simp -implicitDefEqProofs only []
 refine PH (fun h1 => ?_) (fun h1 => ?_)
 ·simp -implicitDefEqProofs only [FC,DV,CY,DW,D9,ET,PI,EP,F6,ED,EW,EJ,CG,AC,AA,EG,AY,AU,BO,BM,CO,DK,BP,AB,jF,jD,jE,↓reduceIte,jB,jK,jA,enP,h1,JD z.ga]
  refine ⟨_,LX G a _,?_⟩
  try simp -implicitDefEqProofs only [h1]
  refine PH (fun h3 => ?_) (fun h3 => ?_)
  ·simp -implicitDefEqProofs only [FC,DV,CY,DW,D9,ET,PS,F6,ED,GL,EW,EJ,CG,AC,AA,AY,AU,BO,BM,CO,DK,BP,CZ,AB,jF,jD,jE,↓reduceIte,jB,jK,jG,jA,enP,jJ,h1,h3,JD z.gb]
   refine ⟨_,JI G b _,?_⟩
   try simp -implicitDefEqProofs only [h1,h3]
   refine ⟨_,J3 G _ _ _,?_⟩
   simp -implicitDefEqProofs only [GN,EC,BK,A7,CE,z.st]
   exact z.out (by simp -implicitDefEqProofs only [AA,↓reduceIte,jB]) (by unfold MJ; rw [if_neg (by omega),if_neg (by omega),if_neg (by omega),if_neg (by omega),if_neg (by omega),if_neg (by omega),if_neg (by omega),if_neg (by omega),if_neg (by omega),if_neg (by omega),if_neg (by omega),if_neg (by omega)]; rw [h1,h3]; simp)
  ·simp -implicitDefEqProofs only [FC,DV,CY,DW,D9,ET,SL,F6,GL,EW,EJ,CG,AC,AA,EG,AY,AU,BO,BM,CO,DU,CZ,jF,jD,jE,↓reduceIte,jB,jK,jG,jA,enP,jJ,h1,h3]
   refine ⟨_,J3 G _ _ _,?_⟩
   simp -implicitDefEqProofs only [GN,EC,BK,A7,CE,z.st]
   exact z.out (by simp -implicitDefEqProofs only [AA,↓reduceIte,jB]) (by unfold MJ; rw [if_neg (by omega),if_neg (by omega),if_neg (by omega),if_neg (by omega),if_neg (by omega),if_neg (by omega),if_neg (by omega),if_neg (by omega),if_neg (by omega),if_neg (by omega),if_neg (by omega),if_neg (by omega)]; rw [h1,h3]; simp)
 ·simp -implicitDefEqProofs only [FC,DV,CY,DW,D9,ET,OB,F6,ED,EW,EJ,CG,AC,AA,AY,AU,BO,BM,CO,DU,BP,AB,jF,jD,jE,↓reduceIte,jB,jK,jA,enP,h1,JD z.gb]
  refine ⟨_,LX G b _,?_⟩
  try simp -implicitDefEqProofs only [FC,DV,CY,DW,D9,ET,EP,EW,EJ,CG,AC,AA,AY,BO,AB,jF,jD,jE,↓reduceIte,jK,jA,h1,JD z.ga]
  refine ⟨_,LX G a _,?_⟩
  try simp -implicitDefEqProofs only [h1]
  refine PH (fun h3 => ?_) (fun h3 => ?_)
  ·simp -implicitDefEqProofs only [FC,DV,CY,DW,D9,ET,PS,F6,ED,GL,EW,EJ,CG,AC,AA,AY,AU,BO,BM,CO,DK,BP,CZ,AB,jF,jD,jE,↓reduceIte,jB,jK,jG,jA,enP,jJ,h1,h3,JD z.gb]
   refine ⟨_,JI G b _,?_⟩
   try simp -implicitDefEqProofs only [h1,h3]
   refine ⟨_,J3 G _ _ _,?_⟩
   simp -implicitDefEqProofs only [GN,EC,BK,A7,CE,z.st]
   exact z.out (by simp -implicitDefEqProofs only [AA,↓reduceIte,jB]) (by unfold MJ; rw [if_neg (by omega),if_neg (by omega),if_neg (by omega),if_neg (by omega),if_neg (by omega),if_neg (by omega),if_neg (by omega),if_neg (by omega),if_neg (by omega),if_neg (by omega),if_neg (by omega),if_neg (by omega)]; rw [h1,h3]; simp)
  ·simp -implicitDefEqProofs only [FC,DV,CY,DW,D9,ET,SL,F6,GL,EW,EJ,CG,AC,AA,EG,AY,AU,BO,BM,CO,DU,CZ,jF,jD,jE,↓reduceIte,jB,jK,jG,jA,enP,jJ,h1,h3]
   refine ⟨_,J3 G _ _ _,?_⟩
   simp -implicitDefEqProofs only [GN,EC,BK,A7,CE,z.st]
   exact z.out (by simp -implicitDefEqProofs only [AA,↓reduceIte,jB]) (by unfold MJ; rw [if_neg (by omega),if_neg (by omega),if_neg (by omega),if_neg (by omega),if_neg (by omega),if_neg (by omega),if_neg (by omega),if_neg (by omega),if_neg (by omega),if_neg (by omega),if_neg (by omega),if_neg (by omega)]; rw [h1,h3]; simp)
end
theorem AOU (H:Hp) (x:ABlk) (r:Rng):F7 Tryz.prog (H ++ [ABlk.live 2 [zR]] ++ [x]) 34 (.ptr H.length 0 0) (.agg (encR r))=some (H ++ [ABlk.live 2 [encR r]] ++ [x]):=by
 rw [AVV r (CX (C9 H (ABlk.live 2 [zR]))) rfl,List.set_append_left _ _ (by simp),MS]
theorem UA (H:Hp) (r:Rng):F7 Tryz.prog (H ++ [ABlk.live 2 [zR]]) 34 (.ptr H.length 0 0) (.agg (encR r))=some (H ++ [ABlk.live 2 [encR r]]):=by
 rw [AVV r (C9 H (ABlk.live 2 [zR])) rfl,MS]
theorem ABS {h:Hp} {o:Nat} {vs:List Rng} {k:Nat} (ho:h[o]? = some (.live 2 (vs.map encR))) (hk:k < vs.length):DL Tryz.prog h 34 (.ptr o k 0)=some (.agg (encR vs[k])):=by
 rw [HY AF2 TY ho (row:=encR vs[k]) (by rw [zB,jU hk]; rfl) (jL 2)]; rfl
theorem APW (a:Rng) (imp:Bool) (l:List Rng) (k:Nat) (hk:k+1 < l.length):PN a imp (l.drop k)=if VQ a l[k] l[k+1]=true then ⟨1,1⟩ else PN a (if XV a l[k] l[k+1]=true then false else imp) (l.drop (k+2)):=by
 rw [qC (by omega:k < l.length),qC hk]; rfl
theorem ATF (a:Rng) (imp:Bool) (l:List Rng) (k:Nat) (hk:l.length≤k+1):PN a imp (l.drop k)=knR false imp:=by
 rcases Nat.lt_or_ge k l.length with h | h
 ·rw [qC h,qF hk]; rfl
 ·rw [qF h]; rfl
section
variable (G:Nat→AV)
set_option maxHeartbeats 1000000 in
theorem APX (a:Rng) (vs:List Rng) (o:Nat) (h:Hp) (ho:h[o]? = some (.live 2 (vs.map encR))) (hn:vs.length≤1048576) (h1:1≤vs.length):PCall (En G) 97 [.agg (encR a),.own o 1 (vs.length - 1)] h (.agg (encR (PN a true (vs.drop 1)))):=by
 refine LU 2 (fun n H=>rfl) ?_
 refine acN Tryz.func97 rfl ?_
 show awp _ _ _ _ _ (EE _ [.cell 4 34] _)
 have z:=Z1.mk' h a
 have ho1:(h ++ [ABlk.live 2 [encR a]] ++ [ABlk.live 2 [zR]])[o]? = some (.live 2 (vs.map encR)):=CX (CX ho)
 simp -implicitDefEqProofs only [BC,CB,A8,A7,AZ,BA,AC,AQ,AO,BD,AX,AL,AY,AU,BG,BM,BB,EZ,FN,BZ,BF,jA,jC,enP,bxR,OU]
 generalize h ++ [ABlk.live 2 [encR a]] ++ [ABlk.live 2 [zR]]=H0 at z ho1 ⊢
 generalize (h ++ [ABlk.live 2 [encR a]]).length=bz at z ⊢
 generalize h.length=ba at z ⊢
 refine IY 0 (fun F H => ∃ imp,F 4 = .ptr bz 0 0∧F 5 = .bool imp∧ext H0 H∧PN a true (vs.drop 1)=knR false imp) (fun F H=>EE Tryz.prog [.cell 4 34] (fun v H=>v = .agg (encR (PN a true (vs.drop 1)))∧Sm.ext h H) .ret F H) ?_ ?_ ?_
 ·refine D7 (fun n F H => ∃ i imp,n+i=vs.length+1∧F 1 = .own o 1 (vs.length - 1)∧F 2 = .ptr ba 0 0∧F 4 = .ptr bz 0 0∧F 5 = .bool imp∧F 6 = .int .i64 (i:Nat)∧ext H0 H∧PN a true (vs.drop 1)=PN a imp (vs.drop (1+i))) (vs.length+1)
   ⟨0,true,by simp,by simp -implicitDefEqProofs only [AA,BF,BQ,↓reduceIte,jB],by simp -implicitDefEqProofs only [AA,↓reduceIte,jB],by simp -implicitDefEqProofs only [AA,↓reduceIte,jB],by simp -implicitDefEqProofs only [AA,↓reduceIte,jB],by simp -implicitDefEqProofs only [AA,↓reduceIte]; rfl,ext.rfl' _,rfl⟩ ?_
  rintro n F H ⟨i,imp,hi,f1,f2,f4,f5,f6,hx,he⟩
  have zH:Z1 h H ba bz a:=⟨⟨FP hx z.gz,z.hx.trans hx,z.hl⟩,FP hx z.ga⟩
  have hoH:=FP hx ho1
  have hc1:((vs.length - 1:Nat):Int)=(vs.length:Int) - 1:=by omega
  simp -implicitDefEqProofs only [BC,A8,BJ,A7,AZ,BA,AC,AQ,AO,BD,AX,AL,AA,AY,AU,BG,BH,BU,E5,AB,DY,DF,↓reduceIte,jB,jA,jC,enP,ADA,f1,f6,wrap_succ (show i < 9223372036854775807 by omega)]
  refine CV (fun hc => ?_) (fun hc => ?_)
  ·have hc:i+1 < vs.length - 1:=by simp at hc; omega
   have i1:JM 2 H (.own o 1 (vs.length - 1)) (.int .i64 (i:Nat))=some (.ptr o (1+i) 0):=J9 hoH (by omega)
   have i2:JM 2 H (.own o 1 (vs.length - 1)) (.int .i64 ((i+1:Nat):Int))=some (.ptr o (1+(i+1)) 0):=J9 hoH (by omega)
   have l1:=ABS hoH (show 1+i < vs.length by omega)
   have l2:=ABS hoH (show 1+(i+1) < vs.length by omega)
   have hst:=APW a imp vs (1+i) (by omega)
   simp -implicitDefEqProofs only [BC,CB,BR,A7]
   refine VG (fun F H'=>F 1 = .own o 1 (vs.length - 1)∧F 2 = .ptr ba 0 0∧F 4 = .ptr bz 0 0∧F 5 = .bool imp∧F 6 = .int .i64 (i:Nat)∧ext H H'∧∃ b7 b8,F 7 = .ptr b7 0 0∧F 8 = .ptr b8 0 0∧H'[b7]? = some (.live 2 [encR vs[1+i]])∧H'[b8]? = some (.live 2 [encR vs[1+(i+1)]])) (fun _ _=>False) ?_ ?_ (fun _ _ q=>q.elim)
   ·refine AIH (.ones [0,1,2,3,4,5,6,7] (.alt 8 (.alt 9 (.ones [10,11,12] .done) (.alt 10 (.ones [9,11,12] .done) (.non))) (.alt 9 (.alt 8 (.ones [10,11,12] .done) (.alt 10 (.alt 8 (.ones [11,12] .done) (.alt 11 (.ones [8,12] .done) (.non))) (.non))) (.alt 10 (.alt 8 (.ones [9,11,12] .done) (.alt 9 (.alt 8 (.ones [11,12] .done) (.alt 11 (.ones [8,12] .done) (.non))) (.non))) (.non))))) (by kernel_rfl) ?_
    have lA : ∀ x:ABlk,DL Tryz.prog (H ++ [x]) 34 (.ptr o (1+(i+1)) 0)=some (.agg (encR vs[1+(i+1)])):=fun x=>ABS (CX hoH) (show 1+(i+1) < vs.length by omega)
    have lB : ∀ x y:ABlk,DL Tryz.prog (H ++ [x] ++ [y]) 34 (.ptr o (1+(i+1)) 0)=some (.agg (encR vs[1+(i+1)])):=fun x y=>ABS (CX (CX hoH)) (show 1+(i+1) < vs.length by omega)
    have g : ∀ r s:Rng,(H ++ [ABlk.live 2 [encR r]] ++ [ABlk.live 2 [encR s]])[H.length]? = some (.live 2 [encR r])∧(H ++ [ABlk.live 2 [encR r]] ++ [ABlk.live 2 [encR s]])[(H ++ [ABlk.live 2 [zR]]).length]? = some (.live 2 [encR s]):=fun r s=>by
     refine ⟨CX (C9 _ _),?_⟩
     have:=C9 (H ++ [ABlk.live 2 [encR r]]) (ABlk.live 2 [encR s])
     rw [← this]; simp
    have sB : ∀ r s:Rng,F7 Tryz.prog (H ++ [ABlk.live 2 [encR r]] ++ [ABlk.live 2 [zR]]) 34 (.ptr (H ++ [ABlk.live 2 [zR]]).length 0 0) (.agg (encR s))=some (H ++ [ABlk.live 2 [encR r]] ++ [ABlk.live 2 [encR s]]):=fun r s=>by
     have:=UA (H ++ [ABlk.live 2 [encR r]]) s
     rw [← this]; simp
    have hxx : ∀ r s:Rng,ext H (H ++ [ABlk.live 2 [encR r]] ++ [ABlk.live 2 [encR s]]):=fun r s=>((ext.rfl' H).app _).app _
    simp only [DT,KI,zC,jZ]
    simp -implicitDefEqProofs only [FC,DV,CY,GN,EC,DW,EP,XB,ED,GL,IJ,EQ,NU,AC,AA,AY,AU,BG,EZ,BP,CZ,BU,CQ,BZ,AB,CE,DY,↓reduceIte,jB,jK,jG,jA,enP,QS,jJ,f1,f2,f4,f5,f6,wrap_succ (show i < 9223372036854775807 by omega),i1,l1,OU,i2,l2,lA,lB,AOU,UA,sB,and_true]
    have A:=fun r s=>(g r s).1
    have B:=fun r s=>(g r s).2
    refine ⟨⟨?_,?_⟩,⟨?_,?_,?_⟩,?_,?_,?_⟩ <;> first | exact ⟨trivial,trivial,trivial,trivial,trivial,hxx _ _,_,_,rfl,rfl,A _ _,B _ _⟩ | exact ⟨trivial,trivial,trivial,trivial,trivial,hxx _ _,_,_,rfl,rfl,B _ _,A _ _⟩
   clear f1 f2 f4 f5 f6
   rintro F H1 ⟨f1,f2,f4,f5,f6,hx1,b7,b8,f7,f8,g7,g8⟩
   have hxx:=hx.trans hx1
   have z2:Z1 h H1 ba bz a:=⟨⟨FP hx1 zH.gz,zH.hx.trans hx1,zH.hl⟩,FP hx1 zH.ga⟩
   have yes : ∀ q:VQ a vs[1+i] vs[1+(i+1)]=true,(⟨1,1⟩:Rng)=PN a true (vs.drop 1):=fun q=>by
    rw [he,hst,if_pos (by simpa [qR] using q)]
   have nxt : ∀ (q:VQ a vs[1+i] vs[1+(i+1)]=false) (r:Bool),(XV a vs[1+i] vs[1+(i+1)]=r)→∃ m,m < n∧∃ i' imp',m+i'=vs.length+1∧i'=i+2∧imp'=(if r=true then false else imp)∧PN a true (vs.drop 1)=PN a imp' (vs.drop (1+i')):=fun q r hr=>by
    subst hr
    refine ⟨n - 2,by omega,i+2,_,by omega,rfl,rfl,?_⟩
    rw [he,hst,if_neg (by rw [show VQ a vs[1+i] vs[1+i+1]=false by simpa [qR] using q]; decide)]
    rfl
   have w2:IntKind.i64.wrap ((i:Int)+2)=((i+2:Nat):Int):=by rw [wrap_i64 (by omega) (by omega)]; omega
   have ret1 : ∀ F':Fr,F' 4 = .ptr bz 0 0→VQ a vs[1+i] vs[1+(i+1)]=true→EE Tryz.prog [.cell 4 34] (fun v H=>v = .agg (encR (PN a true (vs.drop 1)))∧Sm.ext h H) .ret F' (H1.set bz (.live 2 [encR ⟨1,1⟩])):=fun F' e4 q=>z2.out e4 (yes q)
   simp -implicitDefEqProofs only [BC,A8,A7,AZ,BL,BX,CG,AC,AQ,AO,BD,AX,AL,AA,AY,BH,BP,BU,BI,AB,FQ,↓reduceIte,jB,jI,jG,jA,jC,enP,GI,GR,f2,f7,f8,G5 z2.ga,IA z2.ga,G5 g7,IA g7,G5 g8,IA g8]
   refine QP (fun F' H'=>F' 1 = .own o 1 (vs.length - 1)∧F' 2 = .ptr ba 0 0∧F' 4 = .ptr bz 0 0∧F' 5 = .bool imp∧F' 6 = .int .i64 (i:Nat)∧F' 7 = .ptr b7 0 0∧F' 8 = .ptr b8 0 0∧F' 36 = .bool (VQ a vs[1+i] vs[1+(i+1)])∧H'=H1) ?_ ?_
   ·unfold VQ
    refine IV (fun hA => ?_) (fun hA => ?_)
    ·simp -implicitDefEqProofs only [AZ,BA,BL,BX,CG,F8,AC,AQ,AO,BD,AX,AL,AA,AY,AU,BM,CO,DK,BP,BU,BI,AB,I7,↓reduceIte,jB,jI,jG,jA,jC,enP,GI,GR,hA,f2,f7,f8,G5 z2.ga,IA z2.ga,G5 g7,IA g7,G5 g8,IA g8]
     exact ⟨by trivial,by trivial,by trivial,by trivial,by trivial,by trivial,by trivial,by trivial,trivial⟩
    ·simp -implicitDefEqProofs only [AZ,BA,BL,BX,CG,JA,AC,AQ,AO,BD,AX,AL,AA,EG,AY,AU,BM,CO,DU,↓reduceIte,jB,jA,jC,hA,f2,f7,f8]
     exact ⟨by trivial,by trivial,by trivial,by trivial,by trivial,by trivial,by trivial,by trivial,trivial⟩
   clear f1 f2 f4 f5 f6 f7 f8
   rintro F H2 ⟨f1,f2,f4,f5,f6,f7,f8,f36,rfl⟩
   simp -implicitDefEqProofs only [BJ,A7,AY,f36]
   refine CV (fun hT => ?_) (fun hT => ?_)
   ·simp -implicitDefEqProofs only [BC,A8,AZ,AC,AQ,AO,BD,AX,BO,BV,BN,jD,jE,jA,jC]
    refine (AGB G _).use ?_
    simp -implicitDefEqProofs only [BK,A7,CJ,D5,LW,FV,AZ,BA,AC,AQ,AO,BD,AX,AL,DZ,AA,AY,CZ,CE,↓reduceIte,jB,jC,enP,jJ,f4,z2.st]
    exact ret1 _ (by simp -implicitDefEqProofs only [AA,↓reduceIte,jB,f4]) hT
   simp -implicitDefEqProofs only [BC,A8,BR,A7,AZ,BL,BX,CG,AC,AQ,AO,BD,AX,AL,AA,AY,BH,BP,BU,BI,AB,FQ,↓reduceIte,jB,jI,jG,jA,jC,enP,GI,GR,f2,f7,f8,G5 z2.ga,IA z2.ga,G5 g7,IA g7,G5 g8,IA g8]
   refine QP (fun F' H'=>F' 1 = .own o 1 (vs.length - 1)∧F' 2 = .ptr ba 0 0∧F' 4 = .ptr bz 0 0∧F' 5 = .bool imp∧F' 6 = .int .i64 (i:Nat)∧F' 7 = .ptr b7 0 0∧F' 8 = .ptr b8 0 0∧F' 56 = .bool (XV a vs[1+i] vs[1+(i+1)])∧H'=H2) ?_ ?_
   ·unfold XV
    refine IV (fun hA => ?_) (fun hA => ?_)
    ·simp -implicitDefEqProofs only [AZ,BL,BX,CG,F8,AC,AQ,AO,BD,AX,AL,AA,AY,AU,BM,BH,CO,DK,BP,BU,BI,AB,I7,↓reduceIte,jB,jI,jG,jA,jC,enP,GI,GR,hA,f2,f7,f8,G5 z2.ga,IA z2.ga,G5 g7,IA g7,G5 g8,IA g8]
     refine IV (fun hB => ?_) (fun hB => ?_)
     ·simp -implicitDefEqProofs only [AZ,BA,BL,BX,CG,F8,AC,AQ,AO,BD,AX,AL,AA,AY,AU,BM,CO,DK,BP,BU,BI,AB,I7,↓reduceIte,jB,jI,jG,jA,jC,enP,GI,GR,hA,hB,f2,f7,f8,G5 z2.ga,IA z2.ga,G5 g7,IA g7,G5 g8,IA g8]
      exact ⟨by trivial,by trivial,by trivial,by trivial,by trivial,by trivial,by trivial,by trivial,trivial⟩
     ·simp -implicitDefEqProofs only [AZ,BA,BL,BX,CG,JA,AC,AQ,AO,BD,AX,AL,AA,EG,AY,AU,BM,CO,DU,↓reduceIte,jB,jA,jC,hA,hB,f2,f7,f8]
      exact ⟨by trivial,by trivial,by trivial,by trivial,by trivial,by trivial,by trivial,by trivial,trivial⟩
    ·simp -implicitDefEqProofs only [AZ,BA,BL,BX,CG,JA,AC,AQ,AO,BD,AX,AL,AA,EG,AY,AU,BM,BH,CO,DU,↓reduceIte,jB,jA,jC,hA,f2,f7,f8]
     exact ⟨by trivial,by trivial,by trivial,by trivial,by trivial,by trivial,by trivial,by trivial,trivial⟩
   clear f1 f2 f4 f5 f6 f7 f8 f36
   rintro F H3 ⟨f1,f2,f4,f5,f6,f7,f8,f56,rfl⟩
   simp -implicitDefEqProofs only [BJ,A7,AY,f56]
   refine CV (fun hP => ?_) (fun hP => ?_)
   ·simp -implicitDefEqProofs only [A8,A7,EK,FI,AZ,BA,AC,AQ,AO,BD,AX,AL,AA,AY,AU,BG,BM,BH,BB,BU,AB,DY,↓reduceIte,jB,jA,jC,enP,f6,w2]
    obtain ⟨m,hm,i',imp',e,rfl,rfl,e'⟩:=nxt hT true hP
    exact ⟨m,hm,i+2,_,e,by trivial,by trivial,by trivial,by first | exact f5 | trivial | rfl,by trivial,hxx,e'⟩
   ·simp -implicitDefEqProofs only [A8,BR,A7,EK,FI,AZ,BA,AC,AQ,AO,BD,AX,AL,AA,AY,AU,BG,BH,BB,BU,AB,DY,↓reduceIte,jB,jA,jC,enP,f6,w2]
    obtain ⟨m,hm,i',imp',e,rfl,rfl,e'⟩:=nxt hT false hP
    exact ⟨m,hm,i+2,_,e,by trivial,by trivial,by trivial,by first | exact f5 | trivial | rfl,by trivial,hxx,e'⟩
  ·have hc : ¬ i+1 < vs.length - 1:=by simp at hc; omega
   rw [ATF a imp vs (1+i) (by omega)] at he
   simp -implicitDefEqProofs only [D6,EU,MX,FX,AA,↓reduceIte,jB]
   exact ⟨imp,by trivial,by trivial,hx,he⟩
 ·rintro F H ⟨imp,f4,f5,hx,he⟩
  have zH:Z1 h H ba bz a:=⟨⟨FP hx z.gz,z.hx.trans hx,z.hl⟩,FP hx z.ga⟩
  simp -implicitDefEqProofs only [BC,A8,A7,FT,AZ,AC,AQ,AO,BD,AX,AL,AA,AY,AU,BO,BM,BH,BV,BN,jF,jD,jE,↓reduceIte,jA,jC,f5]
  refine (J3 G _ _ _).use ?_
  simp -implicitDefEqProofs only [BK,A7,AZ,BA,AC,AQ,AO,BD,AX,AL,DZ,AA,AY,CZ,CE,↓reduceIte,jB,jC,enP,jJ,f4,zH.st]
  exact zH.out (by simp -implicitDefEqProofs only [AA,↓reduceIte,jB,f4]) he.symm
 ·intro F H hq
  simp -implicitDefEqProofs only [CJ,D5]
  exact hq
end
def AE0 (n:ByteArray):List Vr→Nat→Option Nat
 | [],_=>none
 | v :: r,k=>if JH n v=true then some k else AE0 n r (k+1)
theorem AK9 (n:ByteArray) : ∀ (l:List Vr) (k:Nat),AE0 n l k=if plc l n < 0 then none else some (k+(plc l n).toNat)
 | [],k=>by simp [AE0,plc,KC]
 | v :: r,k=>by
   have ih:=AK9 n r (k+1)
   have hr:=QD (JH n) r
   unfold plc at ih ⊢
   by_cases h:JH n v=true
   ·have e:KC (JH n) (v :: r)=0:=by simp [KC,h]
    simp only [AE0]
    rw [if_pos h,e]; simp
   ·have e:KC (JH n) (v :: r)=if KC (JH n) r < 0 then -1 else KC (JH n) r+1:=by simp [KC,h]
    simp only [AE0]
    rw [if_neg h,ih,e]
    by_cases hn:KC (JH n) r < 0
    ·rw [if_pos hn,if_pos hn]; simp
    ·rw [if_neg hn,if_neg hn,if_neg (by omega)]
     congr 1; omega
def TV (ents:List (ByteArray × Nat)):List (AV × AV):=ents.map fun x=>(.str x.1,.int .i64 (x.2:Nat))
def TN (ents:List (ByteArray × Nat)) (n:ByteArray):Option Nat:=match ents.findIdx? (fun x=>n.toList == x.1.toList) with
 | some i=>(ents[i]?).map (·.2)
 | none=>none
theorem AHT (ents:List (ByteArray × Nat)) (n:ByteArray):X4 Tryz.prog 9 (.str n) (TV ents)=some (ents.findIdx? fun x=>n.toList == x.1.toList):=by
 have hk:Tryz.prog.underlying 9=some .string:=by kernel_rfl
 induction ents with
 | nil=>rfl
 | cons x r ih =>
   have e:X4 Tryz.prog 9 (.str n) (TV (x :: r))=match YT Tryz.prog 9 (.str n) (.str x.1) with
    | some true=>some (some 0)
    | some false=>match X4 Tryz.prog 9 (.str n) (TV r) with
      | some (some i)=>some (some (i+1))
      | some none=>some none
      | none=>none
    | none=>none:=rfl
   have ke:YT Tryz.prog 9 (.str n) (.str x.1)=some (n.toList == x.1.toList):=by unfold YT; rw [hk]
   rw [e,ke,ih,List.findIdx?_cons]
   cases hb:(n.toList == x.1.toList) with
   | true=>rfl
   | false =>
     cases List.findIdx? (fun x=>n.toList == x.1.toList) r <;> rfl
theorem ATB:ABV Tryz.prog 9=true:=by kernel_rfl
theorem AR7:Tryz.prog.underlying 67=some (.map 9 3):=by kernel_rfl
def AI1 (ents:List (ByteArray × Nat)) (n:ByteArray) (i:Nat):List (ByteArray × Nat):=match ents.findIdx? (fun x=>n.toList == x.1.toList) with
 | some k=>ents.set k (n,i)
 | none=>ents ++ [(n,i)]
theorem AUW {h:Hp} {b i:Nat} {ents:List (ByteArray × Nat)} (n:ByteArray) (hb:h[b]? = some (.map (TV ents))):ND Tryz.prog h 67 (.mp b) (.str n) (.int .i64 (i:Nat))=some (h.set b (.map (TV (AI1 ents n i))))∧∀ m,TN (AI1 ents n i) m=if m=n then some i else TN ents m:=by
 unfold AI1
 have hf:=AHT ents n
 cases hx:ents.findIdx? (fun x=>n.toList == x.1.toList) with
 | none =>
   rw [hx] at hf
   refine ⟨?_,fun m => ?_⟩
   ·unfold ND
    simp only [AR7,hb,ATB,if_true,hf]
    simp [TV]
   ·unfold TN
    rw [List.findIdx?_append]
    by_cases hm:m=n
    ·subst hm
     rw [hx,if_pos rfl]
     simp
    ·rw [if_neg hm]
     have h1:List.findIdx? (fun x:ByteArray × Nat=>m.toList == x.1.toList) [(n,i)]=none:=by
      simp only [List.findIdx?_cons,List.findIdx?_nil,AW9 hm]; rfl
     rw [h1]
     cases hy:ents.findIdx? (fun x=>m.toList == x.1.toList) with
     | none=>simp
     | some j =>
       have hj:j < ents.length:=(List.findIdx?_eq_some_iff_getElem.1 hy).1
       simp [List.getElem?_append_left hj]
 | some k =>
   rw [hx] at hf
   obtain ⟨hk,hkn,hkb⟩:=List.findIdx?_eq_some_iff_getElem.1 hx
   refine ⟨?_,fun m => ?_⟩
   ·unfold ND
    simp only [AR7,hb,ATB,if_true,hf]
    simp [TV]
   ·have hkey : ∀ q:ByteArray,(List.findIdx? (fun x:ByteArray × Nat=>q.toList == x.1.toList) (ents.set k (n,i)))=List.findIdx? (fun x:ByteArray × Nat=>q.toList == x.1.toList) ents:=fun q=>by
     have hnk:n=(ents[k]).1:=(Y9 _ _).1 hkn
     have e1 : ∀ l:List (ByteArray × Nat),List.findIdx? (fun x:ByteArray × Nat=>q.toList == x.1.toList) l=List.findIdx? (fun x:ByteArray=>q.toList == x.toList) (l.map (·.1)):=fun l=>by
      rw [List.findIdx?_map]; rfl
     rw [e1,e1,List.map_set]
     congr 1
     apply List.ext_getElem?
     intro j
     rw [List.getElem?_set]
     by_cases hjk:k=j
     ·subst hjk
      rw [if_pos rfl,if_pos (by simpa using hk),zB,jU hk,hnk]; rfl
     ·rw [if_neg hjk]
    unfold TN
    rw [hkey]
    by_cases hm:m=n
    ·subst hm
     rw [hx,if_pos rfl]
     simp [hk]
    ·rw [if_neg hm]
     cases hy:ents.findIdx? (fun x=>m.toList == x.1.toList) with
     | none=>rfl
     | some j =>
       obtain ⟨hj,hjn,_⟩:=List.findIdx?_eq_some_iff_getElem.1 hy
       have hjk:k≠j:=by
        intro e; subst e
        have a1:=(Y9 _ _).1 hjn
        have a2:=(Y9 _ _).1 hkn
        exact hm (a1.trans a2.symm)
       simp [List.getElem?_set_ne hjk]
theorem AJK {h:Hp} {b:Nat} {ents:List (ByteArray × Nat)} (n:ByteArray) (hb:h[b]? = some (.map (TV ents))):PX Tryz.prog h 67 (.mp b) (.str n) true=some (match TN ents n with | some i => .tup [.int .i64 (i:Nat),.bool true] | none => .tup [.int .i64 0,.bool false]):=by
 have hf:=AHT ents n
 have hz:P6 Tryz.prog 3=some (.int .i64 0):=by kernel_rfl
 unfold PX TN
 cases hx:ents.findIdx? (fun x=>n.toList == x.1.toList) with
 | none =>
   rw [hx] at hf
   simp only [AR7,hb,ATB,if_true,hf,hz]
   rfl
 | some k =>
   rw [hx] at hf
   have hk:=(List.findIdx?_eq_some_iff_getElem.1 hx).1
   simp only [AR7,hb,ATB,if_true,hf]
   have:(TV ents)[k]? = some (.str (ents[k]).1,.int .i64 ((ents[k]).2:Nat)):=by simp [TV,hk]
   rw [this,jU hk]
   rfl
def LOk (h:Hp) (L:AV) (l:List Rng):Prop:=(∃ m,L = .sl m 2 (l.map encR))∨∃ lb,L = .own lb 0 l.length∧h[lb]? = some (.live 2 (l.map encR))
theorem LOk.ext {h H:Hp} {L:AV} {l:List Rng} (hl:LOk h L l) (hx:Sm.ext h H):LOk H L l:=by
 rcases hl with ⟨m,rfl⟩ | ⟨lb,rfl,hb⟩
 ·exact .inl ⟨m,rfl⟩
 ·exact .inr ⟨lb,rfl,FP hx hb⟩
theorem LOk.at' {h:Hp} {L:AV} {l:List Rng} (hl:LOk h L l) {i:Nat} (hi:i < l.length) : ∃ q,JM 2 h L (.int .i64 (i:Nat))=some q∧DL Tryz.prog h 34 q=some (.agg (encR l[i]))∧DL Tryz.prog h 34 q=some (.agg (encR l[i])):=by
 rcases hl with ⟨m,rfl⟩ | ⟨lb,rfl,hb⟩
 ·exact ⟨_,EF hi,EO AF2 TY O8 hi,EO AF2 TY O8 hi⟩
 ·have:=ABS hb hi
  exact ⟨_,J9 hb hi,by rw [jG]; exact this,by rw [jG]; exact this⟩
structure EvO (h:Hp) (vb:Nat) (vars:List Vr) (l:List Rng):Prop where
 ex : ∃ mb L k tl ents,h[vb]? = some (.live k [.mp mb :: L :: tl])∧h[mb]? = some (.map (TV ents))∧(∀ n,TN ents n=AE0 n vars 0)∧LOk h L l
theorem EvO.ext {h H:Hp} {vb:Nat} {vars:List Vr} {l:List Rng} (e:EvO h vb vars l) (hx:Sm.ext h H):EvO H vb vars l:=by
 obtain ⟨mb,L,k,tl,ents,h1,h2,h3,h4⟩:=e.ex
 exact ⟨mb,L,k,tl,ents,FP hx h1,FP hx h2,h3,h4.ext hx⟩
section
variable (G:Nat→AV)
set_option maxHeartbeats 1000000 in
theorem O1 (vars:List Vr) (l:List Rng) (vb:Nat) (e:Ex) (h:Hp) (he:EvO h vb vars l):PCall (En G) 92 [.ptr vb 0 0,.agg (CW e)] h (.int .i64 (if e.op=2 then plc vars e.name else -1)):=by
 refine ACalls.pure0 rfl ?_
 refine acN Tryz.func92 rfl ?_
 show awp _ _ _ _ _ (EE _ [.tmp 4] _)
 have ge:=C9 h (ABlk.live 4 [CW e])
 have hx:ext h (h ++ [ABlk.live 4 [CW e]]):=(ext.rfl' h).app _
 have heX:=he.ext hx
 simp -implicitDefEqProofs only [BC,A8,A7,AZ,BA,AC,AQ,AO,BD,AX,AL,AY,AU,BG,BB,FN,BZ,BF,BQ,jA,jC,enP,bxE]
 generalize h ++ [ABlk.live 4 [CW e]]=H at ge hx heX ⊢
 generalize h.length=eb at ge ⊢
 obtain ⟨mb,L,k,tl,ents,h1,h2,h3,h4⟩:=heX.ex
 have l67:DL Tryz.prog H 67 (.ptr vb 0 0)=some (.mp mb):=by rw [DC (by kernel_rfl) h1 (row := .mp mb :: L :: tl) rfl]; rfl
 have l9:DL Tryz.prog H 9 (.ptr eb 0 2)=some (.str e.name):=by rw [DC ag9 ge (row:=CW e) rfl,O9]
 have l3:DL Tryz.prog H 3 (.ptr eb 0 0)=some (.int .i64 e.op):=by rw [DC ag3 ge (row:=CW e) rfl,JE]
 have hlk:=AJK e.name h2
 rw [h3,AK9] at hlk
 refine EX (by kernel_rfl) ?_
 simp -implicitDefEqProofs only [FC,DV,CY,DW,EP,ED,DN,OD,AC,AA,AY,BP,BI,GH,AN7,AN4,AB,BF,↓reduceIte,jB,jK,jI,jG,jA,enP,KO,AWK,ER,GK,FK,l67,l9,hlk]
 have hr:=QD (JH e.name) vars
 by_cases hp:plc vars e.name < 0
 ·rw [if_pos hp]
  simp -implicitDefEqProofs only [FC,jZ,zC,DV,CY,EC,DW,G9,OD,BC,A8,BR,BK,BJ,A7,CU,DX,AZ,BA,BL,BX,CG,JA,AC,AQ,AO,BD,AX,AL,AA,EG,AY,AU,BG,BM,BH,BB,CO,DU,GH,IW,AB,↓reduceIte,jB,jK,jA,jC]
  have:plc vars e.name = -1:=by unfold plc at hp ⊢; omega
  exact ⟨by rw [this]; split <;> rfl,hx⟩
 ·rw [if_neg hp]
  simp -implicitDefEqProofs only [FC,jZ,zC,DV,CY,EC,DW,G9,OD,BC,A8,BJ,A7,AZ,BA,BL,BX,CG,F8,AC,AQ,AO,BD,AX,AL,AA,AY,AU,BG,BM,BH,CO,DK,BP,BU,BI,GH,IW,AB,DJ,↓reduceIte,jB,jK,jI,jA,jC,enP,GU,l3]
  refine CV (fun hc => ?_) (fun hc => ?_)
  ·have hc:e.op=2:=by simpa using hc
   simp -implicitDefEqProofs only [BC,A8,BK,A7,CJ,CU,AZ,BA,AC,AQ,AO,BD,AX,AL,AA,AY,BH,BB,↓reduceIte,jB,jA,jC]
   exact ⟨by rw [if_pos hc]; congr 1; omega,hx⟩
  ·have hc : ¬ e.op=2:=by simpa using hc
   simp -implicitDefEqProofs only [BC,A8,BR,BK,A7,CU,AZ,BA,AC,AQ,AO,BD,AX,AL,AA,AU,BG,BB,↓reduceIte,jA,jC]
   exact ⟨by rw [if_neg hc],hx⟩
end
def PP:List Vr→Nat→List (ByteArray × Nat)
 | [],_ => []
 | v :: r,k=>AI1 (PP r (k+1)) v.name k
theorem AM0 (ents:List (ByteArray × Nat)) (n:ByteArray) (i:Nat) (m:ByteArray):TN (AI1 ents n i) m=if m=n then some i else TN ents m :=
 (AUW (h := [.map (TV ents)]) (b:=0) n rfl).2 m
theorem Q4 (n:ByteArray) : ∀ (l:List Vr) (k:Nat),TN (PP l k) n=AE0 n l k
 | [],k=>rfl
 | v :: r,k=>by
   show TN (AI1 (PP r (k+1)) v.name k) n=_
   rw [AM0,Q4 n r (k+1)]
   have hn:JH n v=true↔n=v.name:=by unfold JH; rw [Y9]; exact ⟨fun h=>h.symm,fun h=>h.symm⟩
   simp only [AE0]
   by_cases h:n=v.name
   ·rw [if_pos h,if_pos (hn.2 h)]
   ·rw [if_neg h,if_neg (fun q=>h (hn.1 q))]
def evH (h:Hp) (p:Pr) (L:AV):Hp:=h ++ [ABlk.live 5 [D8 p]] ++ [ABlk.map (TV (PP p.vars 0))] ++ [ABlk.live 2 [[AV.mp (h.length+1),L]]]
theorem TG (h:Hp) (p:Pr) (L:AV):Sm.ext h (evH h p L):=(((ext.rfl' h).app _).app _).app _
theorem AWO (h:Hp) (p:Pr) (L:AV) (l:List Rng) (hl:LOk h L l):EvO (evH h p L) (h.length+2) p.vars l:=by
 refine ⟨h.length+1,L,2,[],PP p.vars 0,?_,?_,fun n=>Q4 n _ _,hl.ext (TG h p L)⟩
 ·simp [evH]
 ·simp [evH]
theorem AZU (b:Nat) (m:SM) (xs:List (List AV)):JZ Tryz.prog 69 [(0,.mp b),(1,.sl m 2 xs)]=some (.agg [.mp b,.sl m 2 xs]):=by kernel_rfl
theorem AZV (b c n:Nat):JZ Tryz.prog 69 [(0,.mp b),(1,.own c 0 n)]=some (.agg [.mp b,.own c 0 n]):=by kernel_rfl
section
variable (G:Nat→AV)
theorem XM (p:Pr) (L:AV) (hL:(∃ m xs,L = .sl m 2 xs)∨∃ b n,L = .own b 0 n) (hv:p.vars.length≤1048576) (h:Hp):ACalls (En G) 35 [.agg (D8 p),L] h fun v H=>v = .ptr (h.length+2) 0 0∧H=evH h p L:=by
 refine acN Tryz.func35 rfl ?_
 show awp _ _ _ _ _ (EE _ [.tmp 4] _)
 have ge:=C9 h (ABlk.live 5 [D8 p])
 simp -implicitDefEqProofs only [BC,A8,A7,AZ,BA,AC,AQ,AO,BD,AX,AL,AA,AY,AU,AL5,BB,FN,BP,BI,AL9,BZ,AB,BF,↓reduceIte,jB,jI,jA,jC,enP,KZ,VS]
 generalize hb0:h ++ [ABlk.live 5 [D8 p]]=hb at ge ⊢
 have hbl:hb.length=h.length+1:=by rw [← hb0]; simp
 have geA : ∀ x:ABlk,(hb ++ [x])[h.length]? = some (ABlk.live 5 [D8 p]):=fun x=>CX ge
 have lv : ∀ x:ABlk,DL Tryz.prog (hb ++ [x]) 22 (.ptr h.length 0 0)=some (.sl p.vm 4 (p.vars.map FM)):=fun x=>by rw [DC UW (geA x) (row:=D8 p) rfl]; rfl
 have w1:IntKind.i64.wrap ((p.vars.length:Int) - 1)=(p.vars.length:Int) - 1:=wrap_i64 (by omega) (by omega)
 simp -implicitDefEqProofs only [CB,A7,AZ,BA,AC,AQ,AO,BD,AX,AL,AA,AY,AU,BG,BB,BU,E5,AB,IZ,↓reduceIte,jA,jC,enP,QR,lv,List.length_map,w1]
 refine D7 (fun n F H => ∃ i,n=i∧i≤p.vars.length∧F 1=L∧F 2 = .ptr h.length 0 0∧F 5 = .mp hb.length∧F 6 = .int .i64 ((i:Int) - 1)∧H=hb ++ [ABlk.map (TV (PP (p.vars.drop i) i))]) p.vars.length ⟨p.vars.length,rfl,jL _,by simp -implicitDefEqProofs only [AA,BF,BQ,↓reduceIte,jB],by simp -implicitDefEqProofs only [AA,↓reduceIte,jB],by simp -implicitDefEqProofs only [AA,↓reduceIte,jB],by simp -implicitDefEqProofs only [AA,↓reduceIte],by rw [List.drop_length]; rfl⟩ ?_
 rintro n F H ⟨i,rfl,hi,f1,f2,f5,f6,rfl⟩
 simp -implicitDefEqProofs only [BC,A8,BJ,A7,AZ,BA,AC,AQ,AO,BD,AX,AL,AA,AY,AU,BG,BH,BU,AB,FQ,↓reduceIte,jA,jC,enP,f6]
 refine CV (fun hc => ?_) (fun hc => ?_)
 ·obtain ⟨i,rfl⟩ : ∃ j,n=j+1:=⟨n - 1,by simp at hc; omega⟩
  have hi':i < p.vars.length:=by omega
  have e1:(((i+1:Nat):Int) - 1)=(i:Nat):=by omega
  have l9 : ∀ H:Hp,DL Tryz.prog H 9 (.fptr 4 (p.vars.map FM) i 0)=some (.str p.vars[i].name):=fun H=>by rw [GG ag9 hi']; rfl
  have hmu:=(AUW (h:=hb ++ [ABlk.map (TV (PP (p.vars.drop (i+1)) (i+1)))]) (b:=hb.length) (i:=i) p.vars[i].name (C9 _ _)).1
  rw [MS] at hmu
  have hd:AI1 (PP (p.vars.drop (i+1)) (i+1)) p.vars[i].name i=PP (p.vars.drop i) i:=by rw [qC hi']; rfl
  rw [hd] at hmu
  simp -implicitDefEqProofs only [BC,CB,A8,BR,A7,EK,FI,AZ,BA,AC,AQ,AO,BD,AX,AL,DZ,AA,AY,AU,BG,BH,BB,BP,BU,BI,CQ,AGC,AB,CE,IZ,↓reduceIte,jB,jI,jA,jC,enP,TU,KZ,OO,jJ,f2,f5,f6,e1,lv,EF hi',l9,hmu,wrap_i64 (n:=(i:Int) - 1) (by omega) (by omega)]
  exact ⟨i,by omega,i,rfl,by omega,by trivial,by trivial,by trivial,by trivial,by trivial⟩
 ·have hz:n=0:=by simp at hc; omega
  subst hz
  have bx : ∀ H:Hp,PG H (.agg [.mp hb.length,L])=some (.ptr H.length 0 0,H ++ [ABlk.live 2 [[.mp hb.length,L]]]):=fun H=>by
   rcases hL with ⟨m,xs,rfl⟩ | ⟨b,n,rfl⟩ <;> rfl
  have bd:JZ Tryz.prog 69 [(0,.mp hb.length),(1,L)]=some (.agg [.mp hb.length,L]):=by
   rcases hL with ⟨m,xs,rfl⟩ | ⟨b,n,rfl⟩
   ·exact AZU _ _ _
   ·exact AZV _ _ _
  simp -implicitDefEqProofs only [FB,ES,BC,A8,BK,D6,A7,EU,FT,FX,CU,AZ,BA,AC,AQ,AO,BD,AX,AL,AA,AY,BH,BB,FN,FZ,BZ,AB,↓reduceIte,jB,jA,jC,enP,f1,f5,bd,bx]
  refine ⟨?_,?_⟩
  ·first | trivial | (congr 1; simp [hbl])
  ·unfold evH; rw [hb0,← hbl]; rfl
end
end Go.Proofs.YtokehnfjjmpanaaGreatDoor.Bd
