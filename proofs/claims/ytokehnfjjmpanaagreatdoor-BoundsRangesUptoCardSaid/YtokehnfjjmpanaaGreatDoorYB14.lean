/- Part 14 of the proof (Wo, Wp, Wq, Wr); no condition. -/
import Derived.Test.YtokehnfjjmpanaaGreatDoorYB13
set_option linter.unusedVariables false
namespace Go.Proofs.YtokehnfjjmpanaaGreatDoor.Bd
open Bins Cov Xe Wd
open Bool renaming and_eq_true→jX,or_eq_true→zU
open Int renaming le_refl→qK
open Nat renaming eq_zero_or_pos→zZ
def JV (a b:Rng):Prop:=b.lo≤a.lo∧a.hi≤b.hi
instance (a b:Rng):Decidable (JV a b):=inferInstanceAs (Decidable (_∧_))
theorem PU (a:Rng):JV a a:=⟨qK _,qK _⟩
theorem X9 {a:Rng} (h:wfR a):JV a GV:=⟨h.1,h.2.2⟩
theorem ABE {a b:Rng} (ha:wfR a) (h:JV a b) (hb:sgl b=true):a=b:=by
 obtain ⟨h1,h2⟩:=h
 obtain ⟨_,a1,_⟩:=ha
 have e:b.lo=b.hi:=by simpa [sgl] using hb
 cases a; cases b
 simp only at *
 congr 1 <;> omega
theorem VU {t f t' f':Bool} (h1:t'=true→t=true) (h2:f'=true→f=true) (h3 : ¬ (t=true∧f=true)):JV (knR t f) (knR t' f'):=by
 cases t <;> cases f <;> cases t' <;> cases f' <;> simp at h1 h2 h3 <;> decide
theorem YM {a b:Rng} (h:JV a b) (q:isT b=true):isT a=true:=by
 unfold isT at *; simp at *; have:=h.1; omega
theorem WL {a b:Rng} (ha:wfR a) (h:JV a b) (q:isF b=true):isF a=true:=by
 unfold isF at *; simp at *; have:=h.2; obtain ⟨_,_,_⟩:=ha; omega
theorem AB6 {a:Rng} (ha:wfR a) : ¬ (isT a=true∧isF a=true):=by
 unfold isT isF; simp; obtain ⟨_,_,_⟩:=ha; omega
theorem ATK {a b a' b':Rng} (ha:wfR a) (hb:wfR b) (h1:JV a a') (h2:JV b b'):JV (UH a b) (UH a' b'):=by
 obtain ⟨p1,p2⟩:=h1
 obtain ⟨q1,q2⟩:=h2
 have w:=APC ha hb
 obtain ⟨_,_,_⟩:=ha
 obtain ⟨_,_,_⟩:=hb
 by_cases c:a'.lo+b'.lo > 65535
 ·have c':a.lo+b.lo > 65535:=by omega
  unfold UH; rw [if_pos c,if_pos c']
  exact ⟨by show a'.lo+b'.lo - 65536≤a.lo+b.lo - 65536; omega,by show a.hi+b.hi - 65536≤a'.hi+b'.hi - 65536; omega⟩
 ·by_cases d:a'.hi+b'.hi > 65535
  ·have:UH a' b'=GV:=by unfold UH QN; rw [if_neg c,if_pos d]
   rw [this]; exact X9 w
  ·have e:UH a' b'=⟨a'.lo+b'.lo,a'.hi+b'.hi⟩:=by unfold UH QN; rw [if_neg c,if_neg d]
   have e':UH a b=⟨a.lo+b.lo,a.hi+b.hi⟩:=by unfold UH QN; rw [if_neg (by omega),if_neg (by omega)]
   rw [e,e']
   exact ⟨by show a'.lo+b'.lo≤a.lo+b.lo; omega,by show a.hi+b.hi≤a'.hi+b'.hi; omega⟩
theorem AU9 {a b a' b':Rng} (ha:wfR a) (hb:wfR b) (h1:JV a a') (h2:JV b b'):JV (UU a b) (UU a' b'):=by
 obtain ⟨p1,p2⟩:=h1
 obtain ⟨q1,q2⟩:=h2
 have w:=APH ha hb
 obtain ⟨_,_,_⟩:=ha
 obtain ⟨_,_,_⟩:=hb
 by_cases c:0≤a'.lo - b'.hi
 ·unfold UU; rw [if_pos c,if_pos (by omega)]
  exact ⟨by show a'.lo - b'.hi≤a.lo - b.hi; omega,by show a.hi - b.lo≤a'.hi - b'.lo; omega⟩
 ·by_cases d:a'.hi - b'.lo < 0
  ·unfold UU; rw [if_neg c,if_pos d,if_neg (by omega),if_pos (by omega)]
   exact ⟨by show a'.lo - b'.hi+65536≤a.lo - b.hi+65536; omega,by show a.hi - b.lo+65536≤a'.hi - b'.lo+65536; omega⟩
  ·have:UU a' b'=GV:=by unfold UU; rw [if_neg c,if_neg d]
   rw [this]; exact X9 w
theorem AUA {a a':Rng} (ha:wfR a) (h:JV a a'):JV (XM a) (XM a'):=by
 have w:=APE ha
 by_cases c:isF a'=true
 ·have:=WL ha h c
  unfold XM; rw [if_pos c,if_pos this]; exact PU _
 ·by_cases d:isT a'=true
  ·have t:=YM h d
   have nf : ¬ isF a=true:=fun q=>AB6 ha ⟨t,q⟩
   unfold XM; rw [if_neg c,if_pos d,if_neg nf,if_pos t]
   obtain ⟨p1,p2⟩:=h
   exact ⟨by show 65536 - a'.hi≤65536 - a.hi; omega,by show 65536 - a.lo≤65536 - a'.lo; omega⟩
  ·have:XM a'=GV:=by unfold XM; rw [if_neg c,if_neg d]
   rw [this]; exact X9 w
theorem AM0 {lo hi lo' hi':Int} (h0:0≤lo) (h1:lo≤hi) (h2:lo'≤lo) (h3:hi≤hi'):JV (QN lo hi) (QN lo' hi'):=by
 by_cases c:hi' > 65535
 ·have:QN lo' hi'=GV:=by unfold QN; rw [if_pos c]
  rw [this]; exact X9 (AFB h0 h1)
 ·unfold QN; rw [if_neg c,if_neg (by omega)]; exact ⟨h2,h3⟩
theorem AQH {a b a' b':Rng} (ha:wfR a) (hb:wfR b) (ha':wfR a') (hb':wfR b') (h1:JV a a') (h2:JV b b'):JV (AJ3 a b) (AJ3 a' b'):=by
 obtain ⟨p1,p2⟩:=h1
 obtain ⟨q1,q2⟩:=h2
 obtain ⟨_,_,_⟩:=ha
 obtain ⟨_,_,_⟩:=hb
 obtain ⟨_,_,_⟩:=ha'
 obtain ⟨_,_,_⟩:=hb'
 exact AM0 (Int.mul_nonneg (by omega) (by omega)) (Int.mul_le_mul (by omega) (by omega) (by omega) (by omega)) (Int.mul_le_mul (by omega) (by omega) (by omega) (by omega)) (Int.mul_le_mul (by omega) (by omega) (by omega) (by omega))
theorem AYU (a b:Int) (ha:0≤a) (hb:0≤b):AGM a b≤a∧AGM a b≤b:=by
 have h1:=@Nat.and_le_left a.toNat b.toNat
 have h2:=@Nat.and_le_right a.toNat b.toNat
 unfold AGM; omega
theorem AZW (a b:Int) (ha:0≤a) (hb:0≤b):a≤orI a b∧b≤orI a b:=by
 have h1:=@Nat.left_le_or a.toNat b.toNat
 have h2:=@Nat.right_le_or a.toNat b.toNat
 unfold orI; omega
theorem AFQ {a m:Int} (_ha:0≤a) (h:a≤m):a.toNat < 2 ^ blN m.toNat:=(UX _ _).2 (AGH (by omega))
theorem AZU (a b m:Int) (ha:0≤a) (hb:0≤b) (h1:a≤m) (h2:b≤m):orI a b≤VS m:=by
 have:=Nat.or_lt_two_pow (AFQ ha h1) (AFQ hb h2)
 unfold orI VS; omega
theorem AWT (a b m:Int) (ha:0≤a) (hb:0≤b) (h1:a≤m) (h2:b≤m):AJK a b≤VS m:=by
 have:=Nat.xor_lt_two_pow (AFQ ha h1) (AFQ hb h2)
 unfold AJK VS; omega
theorem AVK (op:Int) {a b a' b':Rng} (ha:wfR a) (hb:wfR b) (h1:JV a a') (h2:JV b b'):JV (QQ op a b) (QQ op a' b'):=by
 by_cases hs':(sgl a' && sgl b')=true
 ·rw [jX] at hs'
  rw [ABE ha h1 hs'.1,ABE hb h2 hs'.2]; exact PU _
 obtain ⟨p1,p2⟩:=h1
 obtain ⟨q1,q2⟩:=h2
 obtain ⟨a0,a1,a2⟩:=ha
 obtain ⟨b0,b1,b2⟩:=hb
 have hmm:=AQI (a:=max a.hi b.hi) (b:=max a'.hi b'.hi) (by omega)
 by_cases hs:(sgl a && sgl b)=true
 ·have k1:=AYU a.lo b.lo a0 b0
  have k2:=AZW a.lo b.lo a0 b0
  have k3:=AZU a.lo b.lo (max a'.hi b'.hi) a0 b0 (by omega) (by omega)
  have k4:=AWT a.lo b.lo (max a'.hi b'.hi) a0 b0 (by omega) (by omega)
  have k5:0≤AJK a.lo b.lo:=Int.natCast_nonneg _
  have k6:0≤AGM a.lo b.lo:=Int.natCast_nonneg _
  unfold QQ
  rw [if_pos hs,if_pos hs,if_pos hs,if_neg hs',if_neg hs',if_neg hs']
  by_cases c:op=10
  ·rw [if_pos c,if_pos c]
   exact ⟨k6,by show AGM a.lo b.lo≤min a'.hi b'.hi; omega⟩
  rw [if_neg c,if_neg c]
  by_cases c:op=11
  ·rw [if_pos c,if_pos c]
   exact ⟨by show max a'.lo b'.lo≤orI a.lo b.lo; omega,k3⟩
  ·rw [if_neg c,if_neg c]
   exact ⟨k5,k4⟩
 ·unfold QQ
  rw [if_neg hs,if_neg hs,if_neg hs,if_neg hs',if_neg hs',if_neg hs']
  by_cases c:op=10
  ·rw [if_pos c,if_pos c]
   exact ⟨qK 0,by show min a.hi b.hi≤min a'.hi b'.hi; omega⟩
  rw [if_neg c,if_neg c]
  by_cases c:op=11
  ·rw [if_pos c,if_pos c]
   exact ⟨by show max a'.lo b'.lo≤max a.lo b.lo; omega,hmm⟩
  ·rw [if_neg c,if_neg c]
   exact ⟨qK 0,hmm⟩
theorem ATO {a b a' b':Rng} (ha:wfR a) (hb:wfR b) (ha':wfR a') (h1:JV a a') (h2:JV b b'):JV (QH a b) (QH a' b'):=by
 have w:=APD (b:=b) ha
 by_cases c:(isF a' || decide (b'.lo≥16))=true
 ·have c':(isF a || decide (b.lo≥16))=true:=by
   rcases Bool.or_eq_true_iff.1 c with q | q
   ·rw [WL ha h1 q]; rfl
   ·have:=h2.1
    have q:b'.lo≥16:=by simpa using q
    rw [decide_eq_true (show b.lo≥16 by omega)]; simp
  unfold QH; rw [if_pos c,if_pos c']; exact PU _
 by_cases d:sgl b'=true
 ·have e:=ABE hb h2 d
  subst e
  have hp:=VO b.lo.toNat
  obtain ⟨p1,p2⟩:=h1
  obtain ⟨a0,a1,a2⟩:=ha
  obtain ⟨a0',a1',a2'⟩:=ha'
  have e':QH a' b=QN (a'.lo * 2 ^ b.lo.toNat) (a'.hi * 2 ^ b.lo.toNat):=by unfold QH; rw [if_neg c,if_pos d]
  rw [e']
  by_cases c2:(isF a || decide (b.lo≥16))=true
  ·have hz:a.hi=0:=by
    rcases Bool.or_eq_true_iff.1 c2 with q | q
    ·simpa [isF] using q
    ·rw [q] at c; simp at c
   have e2:QH a b=⟨0,0⟩:=by unfold QH; rw [if_pos c2]
   have e3:a'.lo=0:=by omega
   rw [e2,e3,Int.zero_mul]
   have:0≤a'.hi * 2 ^ b.lo.toNat:=Int.mul_nonneg (by omega) (by omega)
   unfold QN
   split
   ·exact ⟨qK 0,by decide⟩
   ·exact ⟨qK 0,this⟩
  ·have e2:QH a b=QN (a.lo * 2 ^ b.lo.toNat) (a.hi * 2 ^ b.lo.toNat):=by unfold QH; rw [if_neg c2,if_pos d]
   rw [e2]
   exact AM0 (Int.mul_nonneg a0 (by omega)) (Int.mul_le_mul_of_nonneg_right a1 (by omega)) (Int.mul_le_mul_of_nonneg_right p1 (by omega)) (Int.mul_le_mul_of_nonneg_right p2 (by omega))
 ·have:QH a' b'=GV:=by unfold QH; rw [if_neg c,if_neg d]
  rw [this]; exact X9 w
theorem ATR {a b a' b':Rng} (ha:wfR a) (hb:wfR b) (h1:JV a a') (h2:JV b b'):(PZ a' b'=true→PZ a b=true)∧(dfB a' b'=true→dfB a b=true)∧¬ (PZ a b=true∧dfB a b=true):=by
 obtain ⟨a0,a1,a2⟩:=ha
 obtain ⟨b0,b1,b2⟩:=hb
 obtain ⟨p1,p2⟩:=h1
 obtain ⟨q1,q2⟩:=h2
 unfold PZ dfB sgl
 simp only [jX,zU,beq_iff_eq,decide_eq_true_eq]
 refine ⟨?_,?_,?_⟩ <;> omega
theorem ASE (op:Int) {a b a' b':Rng} (ha:wfR a) (hb:wfR b) (ha':wfR a') (hb':wfR b') (h1:JV a a') (h2:JV b b'):JV (J4 op a b) (J4 op a' b'):=by
 have ks:=ATR ha hb h1 h2
 have Ta:=@YM _ _ h1
 have Tb:=@YM _ _ h2
 have Fa:=@WL _ _ ha h1
 have Fb:=@WL _ _ hb h2
 have na:=AB6 ha
 have nb:=AB6 hb
 unfold J4
 by_cases h:op=7
 ·rw [if_pos h,if_pos h]; exact ATK ha hb h1 h2
 rw [if_neg h,if_neg h]; clear h
 by_cases h:op=8
 ·rw [if_pos h,if_pos h]; exact AU9 ha hb h1 h2
 rw [if_neg h,if_neg h]; clear h
 by_cases h:op=9
 ·rw [if_pos h,if_pos h]; exact AQH ha hb ha' hb' h1 h2
 rw [if_neg h,if_neg h]; clear h
 by_cases h:op=10∨op=11∨op=12
 ·rw [if_pos h,if_pos h]; exact AVK op ha hb h1 h2
 rw [if_neg h,if_neg h]; clear h
 by_cases h:op=13
 ·rw [if_pos h,if_pos h]; exact ATO ha hb ha' h1 h2
 rw [if_neg h,if_neg h]; clear h
 by_cases h:op=14
 ·rw [if_pos h,if_pos h]
  obtain ⟨p1,p2⟩:=h1
  obtain ⟨q1,q2⟩:=h2
  obtain ⟨a0,a1,a2⟩:=ha
  obtain ⟨a0',a1',a2'⟩:=ha'
  exact ⟨AB1 a0' p1 q2,AB1 (by omega) p2 q1⟩
 rw [if_neg h,if_neg h]; clear h
 by_cases h:op=15
 ·rw [if_pos h,if_pos h]; exact VU ks.1 ks.2.1 ks.2.2
 rw [if_neg h,if_neg h]; clear h
 by_cases h:op=16
 ·rw [if_pos h,if_pos h]; exact VU ks.2.1 ks.1 fun q=>ks.2.2 ⟨q.2,q.1⟩
 rw [if_neg h,if_neg h]; clear h
 obtain ⟨p1,p2⟩:=h1
 obtain ⟨q1,q2⟩:=h2
 obtain ⟨a0,a1,a2⟩:=ha
 obtain ⟨b0,b1,b2⟩:=hb
 by_cases h:op=17
 ·rw [if_pos h,if_pos h]; exact VU (by simp; omega) (by simp; omega) (by simp; omega)
 rw [if_neg h,if_neg h]; clear h
 by_cases h:op=18
 ·rw [if_pos h,if_pos h]; exact VU (by simp; omega) (by simp; omega) (by simp; omega)
 rw [if_neg h,if_neg h]; clear h
 have bb : ∀ x y x' y':Bool,(x'=true→x=true)→(y'=true→y=true)→((x' && y')=true→(x && y)=true)∧((x' || y')=true→(x || y)=true):=by decide
 by_cases h:op=19
 ·rw [if_pos h,if_pos h]
  refine VU (bb _ _ _ _ Ta Tb).1 (bb _ _ _ _ Fa Fb).2 ?_
  revert na nb
  cases isT a <;> cases isT b <;> cases isF a <;> cases isF b <;> simp
 rw [if_neg h,if_neg h]; clear h
 by_cases h:op=20
 ·rw [if_pos h,if_pos h]
  refine VU (bb _ _ _ _ Ta Tb).2 (bb _ _ _ _ Fa Fb).1 ?_
  revert na nb
  cases isT a <;> cases isT b <;> cases isF a <;> cases isF b <;> simp
 rw [if_neg h,if_neg h]
 refine VU (bb _ _ _ _ Fa Tb).2 (bb _ _ _ _ Ta Fb).1 ?_
 revert na nb
 cases isT a <;> cases isT b <;> cases isF a <;> cases isF b <;> simp
inductive SubL:List Rng→List Rng→Prop
 | nil:SubL [] []
 | cons {a b:Rng} {l m:List Rng}:wfR a→wfR b→JV a b→SubL l m→SubL (a :: l) (b :: m)
theorem SubL.drop1 {l m:List Rng} (h:SubL l m):SubL (l.drop 1) (m.drop 1):=by
 cases h with
 | nil=>exact .nil
 | cons _ _ _ h=>exact h
theorem SubL.get {l m:List Rng} (h:SubL l m) : ∀ k:Nat,wfR (l.getD k GV)∧wfR (m.getD k GV)∧JV (l.getD k GV) (m.getD k GV):=by
 induction h with
 | nil=>intro k; exact ⟨TB,TB,PU _⟩
 | cons h1 h2 h3 _ ih =>
   intro k
   cases k with
   | zero=>exact ⟨h1,h2,h3⟩
   | succ k=>exact ih k
theorem AXX {a lo hi:Rng} (ha:wfR a) (hl:wfR lo) (hh:wfR hi) (h:TS a lo hi=true):VV a lo hi=true:=by
 obtain ⟨_,_,_⟩:=ha
 obtain ⟨_,_,_⟩:=hl
 obtain ⟨_,_,_⟩:=hh
 unfold TS VV at *
 simp at *; omega
theorem AQ2 {a lo hi a' lo' hi':Rng} (ha:wfR a) (hl:wfR lo) (hh:wfR hi) (h1:JV a a') (h2:JV lo lo') (h3:JV hi hi') (h:TS a' lo' hi'=true):TS a lo hi=true:=by
 obtain ⟨_,_,_⟩:=ha
 obtain ⟨_,_,_⟩:=hl
 obtain ⟨_,_,_⟩:=hh
 obtain ⟨_,_⟩:=h1
 obtain ⟨_,_⟩:=h2
 obtain ⟨_,_⟩:=h3
 unfold TS at *
 simp at *; omega
theorem AQ3 {a lo hi a' lo' hi':Rng} (h1:JV a a') (h2:JV lo lo') (h3:JV hi hi') (h:VV a lo hi=true):VV a' lo' hi'=true:=by
 obtain ⟨_,_⟩:=h1
 obtain ⟨_,_⟩:=h2
 obtain ⟨_,_⟩:=h3
 unfold VV at *
 simp at *; omega
def WY (a:Rng):List Rng→Bool
 | lo :: hi :: r=>TS a lo hi || WY a r
 | _=>false
def Y7 (a:Rng):List Rng→Bool
 | lo :: hi :: r=>VV a lo hi || Y7 a r
 | _=>false
theorem ins_any (a:Rng) : ∀ (imp:Bool) (l:List Rng),QK a imp l=if WY a l=true then ⟨1,1⟩ else knR false (imp && !Y7 a l)
 | imp,[]=>by simp [QK,WY,Y7]
 | imp,[_]=>by simp [QK,WY,Y7]
 | imp,lo :: hi :: r=>by
   have ih:=ins_any a (if VV a lo hi=true then false else imp) r
   simp only [QK,WY,Y7]
   rw [ih]
   have key : ∀ t p i x y:Bool,(if t=true then (⟨1,1⟩:Rng) else if x=true then ⟨1,1⟩ else knR false ((if p=true then false else i) && !y))=if (t || x)=true then ⟨1,1⟩ else knR false (i && !(p || y)):=by decide
   exact key _ _ _ _ _
theorem AVR {a a':Rng} (ha:wfR a) (h1:JV a a') : ∀ {l m:List Rng},SubL l m→(WY a' m=true→WY a l=true)∧(Y7 a l=true→Y7 a' m=true)∧(WY a l=true→Y7 a l=true):=by
 intro l
 induction hn:l.length using Nat.strongRecOn generalizing l with
 | _ n ih =>
   intro m h
   cases h with
   | nil=>exact ⟨fun h=>by simp [WY] at h,fun h=>by simp [Y7] at h,fun h=>by simp [WY] at h⟩
   | cons w1 w1' s1 h =>
     cases h with
     | nil=>exact ⟨fun h=>by simp [WY] at h,fun h=>by simp [Y7] at h,fun h=>by simp [WY] at h⟩
     | cons w2 w2' s2 h =>
       subst hn
       obtain ⟨i1,i2,i3⟩:=ih _ (by simp only [List.length_cons]; omega) rfl h
       refine ⟨fun q => ?_,fun q => ?_,fun q => ?_⟩
       ·simp only [WY,zU] at q ⊢
        rcases q with q | q
        ·exact .inl (AQ2 ha w1 w2 h1 s1 s2 q)
        ·exact .inr (i1 q)
       ·simp only [Y7,zU] at q ⊢
        rcases q with q | q
        ·exact .inl (AQ3 h1 s1 s2 q)
        ·exact .inr (i2 q)
       ·simp only [WY,Y7,zU] at q ⊢
        rcases q with q | q
        ·exact .inl (AXX ha w1 w2 q)
        ·exact .inr (i3 q)
theorem AUQ {a a':Rng} (ha:wfR a) (h1:JV a a') {l m:List Rng} (h:SubL l m):JV (QK a true l) (QK a' true m):=by
 obtain ⟨i1,i2,i3⟩:=AVR ha h1 h
 rw [ins_any,ins_any]
 revert i1 i2 i3
 cases WY a' m <;> cases WY a l <;> cases Y7 a l <;> cases Y7 a' m <;> simp <;> decide
theorem AL9 (n:Nat) : ∀ k:Nat,IL n k≤k∧IL n k≤blN n
 | 0=>⟨Nat.le_refl 0,Nat.zero_le _⟩
 | k+1=>by
   obtain ⟨h1,h2⟩:=AL9 n k
   have h3:=Y4 n k
   have e:IL n (k+1)=IL n k+J7 n k:=rfl
   rw [e]
   by_cases hk:k < blN n
   ·omega
   ·have hz:J7 n k=0:=by
     have hl:n < 2 ^ k:=(UX k n).2 (by omega)
     unfold J7
     rw [Nat.div_eq_of_lt hl]
    omega
theorem AEB (n:Nat) : ∀ k:Nat,n < 2 ^ k→IL n k=0→n=0
 | 0,h,_=>by simpa using h
 | k+1,h,hz=>by
   have e:IL n (k+1)=IL n k+J7 n k:=rfl
   rw [e] at hz
   have hb:J7 n k=0:=by omega
   have hlt:n / 2 ^ k < 2:=by
    rw [Nat.div_lt_iff_lt_mul (Nat.pow_pos (by decide))]
    rw [Nat.pow_succ] at h; omega
   unfold J7 at hb
   have hq:n / 2 ^ k=0:=by
    generalize n / 2 ^ k=q at hb hlt
    omega
   have hl:n < 2 ^ k:=by
    rcases Nat.div_eq_zero_iff.1 hq with q | q
    ·exact absurd q (Nat.ne_of_gt (Nat.pow_pos (by decide)))
    ·exact q
   exact AEB n k hl (by omega)
theorem AZY (n:Nat) (h:n < 65536):IL n 16≤blN n∧(1≤n→1≤IL n 16):=by
 refine ⟨(AL9 n 16).2,fun h1 => ?_⟩
 rcases zZ (IL n 16) with q | q
 ·have:=AEB n 16 (by omega) q; omega
 ·exact q
theorem AT0 {a a':Rng} (ha:wfR a) (h:JV a a'):JV (AA4 a) (AA4 a'):=by
 by_cases c:sgl a'=true
 ·rw [ABE ha h c]; exact PU _
 obtain ⟨p1,p2⟩:=h
 obtain ⟨a0,a1,a2⟩:=ha
 have hb:=AGH (a:=a.hi.toNat) (b:=a'.hi.toNat) (by omega)
 by_cases d:sgl a=true
 ·have e:a.lo=a.hi:=by simpa [sgl] using d
  obtain ⟨k1,k2⟩:=AZY a.lo.toNat (by omega)
  have k3:onI a.lo=((IL a.lo.toNat 16:Nat):Int):=rfl
  rw [e] at k1 k2 k3
  unfold AA4
  rw [if_neg c,if_pos d,e,k3]
  refine ⟨?_,?_⟩
  ·show min a'.lo 1≤((IL a.hi.toNat 16:Nat):Int)
   rcases zZ a.hi.toNat with q | q
   ·omega
   ·have:=k2 q; omega
  ·show ((IL a.hi.toNat 16:Nat):Int)≤((blN a'.hi.toNat:Nat):Int); omega
 ·unfold AA4
  rw [if_neg c,if_neg d]
  exact ⟨by show min a'.lo 1≤min a.lo 1; omega,by show ((blN a.hi.toNat:Nat):Int)≤((blN a'.hi.toNat:Nat):Int); omega⟩
theorem AVG {c a b c' a' b':Rng} (hc:wfR c) (h0:JV c c') (h1:JV a a') (h2:JV b b'):JV (Y3 c a b) (Y3 c' a' b'):=by
 obtain ⟨p1,p2⟩:=h1
 obtain ⟨q1,q2⟩:=h2
 unfold Y3
 by_cases k:isT c'=true
 ·rw [if_pos k,if_pos (YM h0 k)]; exact ⟨p1,p2⟩
 rw [if_neg k]
 by_cases k2:isF c'=true
 ·have f:=WL hc h0 k2
  have nt : ¬ isT c=true:=fun q=>AB6 hc ⟨q,f⟩
  rw [if_pos k2,if_neg nt,if_pos f]; exact ⟨q1,q2⟩
 rw [if_neg k2]
 split
 ·exact ⟨by show min a'.lo b'.lo≤a.lo; omega,by show a.hi≤max a'.hi b'.hi; omega⟩
 split
 ·exact ⟨by show min a'.lo b'.lo≤b.lo; omega,by show b.hi≤max a'.hi b'.hi; omega⟩
 ·exact ⟨by show min a'.lo b'.lo≤min a.lo b.lo; omega,by show max a.hi b.hi≤max a'.hi b'.hi; omega⟩
theorem AXL (op:Int) {l m:List Rng} (h:SubL l m):JV (opR op l) (opR op m):=by
 obtain ⟨a0,b0,s0⟩:=h.get 0
 obtain ⟨a1,b1,s1⟩:=h.get 1
 obtain ⟨a2,b2,s2⟩:=h.get 2
 unfold opR
 by_cases q:op=4
 ·rw [if_pos q,if_pos q]
  exact VU (WL a0 s0) (YM s0) fun r=>AB6 a0 ⟨r.2,r.1⟩
 rw [if_neg q,if_neg q]; clear q
 by_cases q:op=5
 ·rw [if_pos q,if_pos q]
  obtain ⟨p1,p2⟩:=s0
  exact ⟨by show 65535 - (m.getD 0 GV).hi≤65535 - (l.getD 0 GV).hi; omega,by show 65535 - (l.getD 0 GV).lo≤65535 - (m.getD 0 GV).lo; omega⟩
 rw [if_neg q,if_neg q]; clear q
 by_cases q:op=6
 ·rw [if_pos q,if_pos q]; exact AUA a0 s0
 rw [if_neg q,if_neg q]; clear q
 by_cases q:op=25
 ·rw [if_pos q,if_pos q]; exact AT0 a0 s0
 rw [if_neg q,if_neg q]; clear q
 by_cases q:op=22
 ·rw [if_pos q,if_pos q]; exact AVG a0 s0 s1 s2
 rw [if_neg q,if_neg q]; clear q
 by_cases q:op=23
 ·rw [if_pos q,if_pos q]; exact AUQ a0 s0 h.drop1
 rw [if_neg q,if_neg q]
 exact ASE op a0 a1 b0 b1 s0 s1
theorem AU4 (p:List Vr) {l m:List Rng} (h:SubL l m) (hl : ∀ r∈l,wfR r) (hm : ∀ r∈m,wfR r) (e:Ex):(∀ x∈pre e,JH x=0)→JV (evS p l e) (evS p m e):=by
 induction e using Ex.induct with | h e ih => ?_
 intro hval
 rw [ACT,ACT]
 unfold evO
 by_cases h1:e.op=1
 ·rw [if_pos h1,if_pos h1]; exact PU _
 rw [if_neg h1,if_neg h1]
 by_cases h2:e.op=2
 ·rw [if_pos h2,if_pos h2]
  unfold AJM
  by_cases q:0≤plc p e.name
  ·rw [if_pos q,if_pos q]; exact (h.get _).2.2
  ·rw [if_neg q,if_neg q]; exact PU _
 rw [if_neg h2,if_neg h2]
 by_cases h3:e.op=3∨e.op=24
 ·rw [if_pos h3,if_pos h3]; exact PU _
 rw [if_neg h3,if_neg h3]
 refine AXL _ ?_
 rw [J6,J6]
 have key : ∀ xs:List Ex,(∀ a∈xs,a∈e.args)→SubL (xs.map (evS p l)) (xs.map (evS p m)):=by
  intro xs
  induction xs with
  | nil=>intro _; exact .nil
  | cons x xs ihx =>
    intro hx
    have hv : ∀ y∈pre x,JH y=0:=fun y hy=>hval y (by rw [pre_eq]; exact List.mem_cons_of_mem _ (ND (hx x (by simp)) y hy))
    exact .cons (X6 p hl x hv) (X6 p hm x hv) (ih x (hx x (by simp)) hv) (ihx fun a ha=>hx a (by simp [ha]))
 exact key e.args fun a ha=>ha
end Go.Proofs.YtokehnfjjmpanaaGreatDoor.Bd
set_option linter.unusedSimpArgs false
set_option maxRecDepth 8000
namespace Go.Proofs.YtokehnfjjmpanaaGreatDoor.Bd
open Sm Bins Cov Xe Wd Go.RowKit
open Bool renaming not_false→jC,or_false→jM,not_true→jW
open Int renaming le_refl→qK
open List renaming length_map→jR,getElem_mem→jT,contains_cons→jO,contains_nil→jP,map_cons→jF,map_nil→jD,append_nil→jE,getElem?_cons_succ→zD,getElem?_cons_zero→zB,length_set→qH,getElem?_map→zA,getElem?_eq_getElem→jU,getElem?_set_ne→zL
open Nat renaming le_of_ble_eq_true→jJ,reduceEqDiff→jA,zero_add→jG,add_zero→jH,reduceBEq→jI,reduceAdd→jL
open Option renaming getD_some→jB,getD_none→jK
theorem LOk.form {h:Hp} {L:AV} {l:List Rng} (hl:LOk h L l):(∃ m xs,L = .sl m 2 xs)∨∃ b n,L = .own b 0 n:=by
 rcases hl with ⟨m,rfl⟩ | ⟨b,rfl,_⟩
 ·exact .inl ⟨_,_,rfl⟩
 ·exact .inr ⟨_,_,rfl⟩
section
variable (G:Nat→AV)
theorem AU1 (p:Pr) (l:List Rng) (lb:Nat) (hl:l.length≤1048576) (h:Hp) (hlb:h[lb]? = some (.live 2 (l.map encR))):PCall (En G) 34 [.agg (DY p),.own lb 0 l.length] h (.bool (MH p.vars l)):=by
 refine ACalls.pure0 rfl ?_
 refine acN Tryz.func34 rfl ?_
 show awp _ _ _ _ _ (EN _ [.tmp 4] _)
 have ge:=DF h (ABlk.live 5 [DY p])
 have hx:ext h (h ++ [ABlk.live 5 [DY p]]):=(ext.rfl' h).app _
 have hlb0:=DC (x:=ABlk.live 5 [DY p]) hlb
 simp -implicitDefEqProofs only [BB,CE,A8,A7,AZ,BA,AO,AQ,AL,BD,AY,AC,AA,AX,AU,BH,BM,BJ,BC,FQ,FP,CB,AB,BF,BQ,↓reduceIte,jA,jB,jC,enP,ZL,QP,jR]
 generalize h ++ [ABlk.live 5 [DY p]]=H0 at ge hx hlb0 ⊢
 generalize h.length=eb at ge ⊢
 refine EG (fun n F H => ∃ i,n+i=l.length∧F 1 = .own lb 0 l.length∧F 2 = .ptr eb 0 0∧F 7 = .own lb 0 l.length∧F 8 = .int .i64 (l.length:Nat)∧F 9 = .int .i64 (i:Nat)∧ext H0 H∧∀ r∈l.take i,wfR r) l.length ⟨0,by simp,by simp -implicitDefEqProofs only [AA,BF,BQ,↓reduceIte,jA],by simp -implicitDefEqProofs only [AA,↓reduceIte,jA],by simp -implicitDefEqProofs only [AA,↓reduceIte,jA],by simp -implicitDefEqProofs only [AA,↓reduceIte,jA],by simp -implicitDefEqProofs only [AA,↓reduceIte]; rfl,ext.rfl' _,by simp⟩ ?_
 rintro n F H ⟨i,hi,f1,f2,f7,f8,f9,hxH,hw⟩
 simp -implicitDefEqProofs only [BB,A8,BI,A7,AZ,BA,AO,AQ,AL,BD,AY,AC,AA,AX,BU,AB,DV,↓reduceIte,jB,jC,enP,f8,f9]
 refine CQ (fun hc => ?_) (fun hc => ?_)
 ·have hi':i < l.length:=by simpa using hc
  have hxx:=hx.trans hxH
  have hlbH:=FD hxH hlb0
  have ix:I4 2 H (.own lb 0 l.length) (.int .i64 (i:Nat))=some (.ptr lb (0+i) 0):=JK hlbH hi'
  rw [jG] at ix
  have g6:=DF H (ABlk.live 2 [encR l[i]])
  simp -implicitDefEqProofs only [BB,CE,A8,BR,A7,AZ,BA,AO,AQ,AL,BD,AY,AC,DU,AA,AX,EZ,BO,CU,BG,CG,CB,AB,BZ,↓reduceIte,jA,jH,jB,jC,enP,JO,FB,jK,f7,f9,ix,RI hlbH hi',KG,NF]
  have bad : ∀ q:(decide (l[i].lo < 0) || (decide (l[i].lo > l[i].hi) || decide (l[i].hi > 65535)))=true,MH p.vars l=false:=fun q=>by
   rw [← Bool.not_eq_true]
   exact fun h=>nwf q ((JD.1 h).1 _ (jT hi'))
  have hx2:=hxx.app [ABlk.live 2 [encR l[i]]]
  have hx3:=hxH.app [ABlk.live 2 [encR l[i]]]
  generalize H ++ [ABlk.live 2 [encR l[i]]]=H1 at g6 hx2 hx3 ⊢
  generalize H.length=rb at g6 ⊢
  simp -implicitDefEqProofs only [AZ,BL,BX,CO,AO,AQ,AL,BD,AY,AC,AA,AX,AU,BH,BJ,BU,AB,DV,↓reduceIte,jB,jC,enP,FX g6,GI g6]
  refine IA (fun h1 => ?_) (fun h1 => ?_)
  ·simp -implicitDefEqProofs only [BB,A8,BK,BI,A7,CJ,D8,F9,CV,DI,AZ,BA,BL,BX,CO,F7,AO,AQ,AL,BD,AY,AC,AA,EQ,AX,AU,BM,BJ,BC,CP,DW,↓reduceIte,jA,jB,jC,h1]
   exact ⟨by rw [bad (by rw [h1]; rfl)],hx2⟩
  simp -implicitDefEqProofs only [AZ,BL,BX,CO,EY,AO,AQ,AL,BD,AY,AC,AA,AX,AU,BM,BJ,CP,DZ,BO,BU,BG,AB,FM,↓reduceIte,jA,jH,jG,jB,jC,enP,FB,FN,h1,FX g6,GI g6]
  refine IA (fun h2 => ?_) (fun h2 => ?_)
  ·simp -implicitDefEqProofs only [BB,A8,BK,BI,A7,CJ,D8,F9,CV,DI,AZ,BA,BL,BX,CO,F7,AO,AQ,AL,BD,AY,AC,AA,EQ,AX,AU,BM,BC,CP,DW,↓reduceIte,jA,jB,jC,h1,h2]
   exact ⟨by rw [bad (by rw [h2]; simp)],hx2⟩
  simp -implicitDefEqProofs only [BI,A7,AZ,BA,BL,BX,CO,EY,AO,AQ,AL,BD,AY,AC,AA,AX,AU,BH,BM,CP,DZ,BO,BU,BG,AB,FM,↓reduceIte,jA,jG,jB,jC,enP,FN,h1,h2,FX g6,GI g6]
  refine CQ (fun h3 => ?_) (fun h3 => ?_)
  ·simp -implicitDefEqProofs only [BB,A8,BK,A7,CJ,D8,F9,CV,AZ,BA,AO,AQ,AL,BD,AY,AC,AA,AU,BM,BC,↓reduceIte,jB,jC]
   exact ⟨by rw [bad (by rw [h3]; simp)],hx2⟩
  ·simp -implicitDefEqProofs only [A8,BR,A7,EO,FO,AZ,BA,AO,AQ,AL,BD,AY,AC,AA,AX,AU,BH,BJ,BU,AB,D6,↓reduceIte,jA,jB,jC,enP,f9,wrap_succ (show i < 9223372036854775807 by omega)]
   refine ⟨n - 1,by omega,i+1,by omega,by trivial,by trivial,by trivial,by trivial,by trivial,hx3,fun r hr => ?_⟩
   rw [List.take_succ_eq_append_getElem hi'] at hr
   rcases List.mem_append.1 hr with hr | hr
   ·exact hw r hr
   ·rw [List.mem_singleton] at hr
    subst hr
    simp at h1 h2 h3
    exact ⟨by omega,by omega,by omega⟩
 ·have hi' : ¬ i < l.length:=by simpa using hc
  rw [List.take_of_length_le (by omega)] at hw
  have l0:DR Tryz.prog H 22 (.ptr eb 0 0)=some (.sl p.vm 4 (p.vars.map GH)):=by rw [DJ VI (FD hxH ge) (row:=DY p) rfl]; rfl
  simp -implicitDefEqProofs only [BB,A8,BK,EF,A7,FC,F6,F8,CV,AZ,BA,AO,AQ,AL,BD,AY,AC,AA,AX,BJ,BC,BO,BU,BG,FP,AB,CX,↓reduceIte,jA,jH,jB,jC,enP,RH,LU,ZL,f1,f2,l0,jR]
  refine ⟨?_,hx.trans hxH⟩
  congr 1
  rw [Bool.eq_iff_iff,JD]
  simp
  constructor
  ·intro h; exact ⟨hw,by omega⟩
  ·intro h; omega
theorem A0M (p:Pr) (hs:PrS p) (l:List Rng) (L:AV) (hl:l.length≤1048576) (h:Hp) (hL:LOk h L l):PCall (En G) 34 [.agg (DY p),L] h (.bool (MH p.vars l)):=by
 rcases hL with ⟨m,rfl⟩ | ⟨lb,rfl,hb⟩
 ·exact ACM G p hs l m hl h
 ·exact AU1 G p l lb hl h hb
set_option maxHeartbeats 1000000 in
theorem ALM (hG:GOk G) (e:Ex) (he:wt e≤1048576) (p:Pr) (hs:PrS p) (l:List Rng) (L:AV) (hl:l.length≤1048576) (h:Hp) (hL0:LOk h L l):PCall (En G) 22 [.agg (CW e),.agg (DY p),L] h (.agg (encR (evP e p l))):=by
 refine JW 2 (fun n H=>rfl) ?_
 refine IM (H:=hint [1000024] []) (enM G) Tryz.func22 rfl (by kernel_rfl) (by kernel_rfl) (jJ (by kernel_rfl)) ?_
 show awp _ _ _ _ _ (EN _ [.cell 6 34] _)
 have z:Z0 h (h ++ [ABlk.live 4 [CW e]] ++ [ABlk.live 5 [DY p]] ++ [ABlk.live 2 [zR]]) (h ++ [ABlk.live 4 [CW e]] ++ [ABlk.live 5 [DY p]]).length:=⟨DF _ _,(((ext.rfl' h).app _).app _).app _,by simp⟩
 have hLH:=hL0.ext ((((ext.rfl' h).app [ABlk.live 4 [CW e]]).app [ABlk.live 5 [DY p]]).app [ABlk.live 2 [zR]])
 have ge:=DC (x:=ABlk.live 2 [zR]) (DC (x:=ABlk.live 5 [DY p]) (DF h (ABlk.live 4 [CW e])))
 have gp:=DC (x:=ABlk.live 2 [zR]) (DF (h ++ [ABlk.live 4 [CW e]]) (ABlk.live 5 [DY p]))
 simp -implicitDefEqProofs only [D5,jO,jP,jI,jM,BB,A8,A7,AZ,BA,AL,BD,AY,AC,AA,AX,EZ,FQ,BO,CB,BF,BQ,↓reduceIte,jA,jB,jC,enP,ED,bxE,QP,KG]
 generalize h ++ [ABlk.live 4 [CW e]] ++ [ABlk.live 5 [DY p]] ++ [ABlk.live 2 [zR]]=H at z ge gp hLH ⊢
 generalize (h ++ [ABlk.live 4 [CW e]] ++ [ABlk.live 5 [DY p]]).length=bz at z ge gp ⊢
 generalize (h ++ [ABlk.live 4 [CW e]]).length=pb at z ge gp ⊢
 generalize h.length=eb at z ge gp ⊢
 have lp:DR Tryz.prog H 27 (.ptr pb 0 0)=some (.agg (DY p)):=by rw [H7 VH UG gp (row:=DY p) rfl (by rw [GZ]; exact Nat.le_refl 5)]; rfl
 simp -implicitDefEqProofs only [D5,jO,jP,jI,jM,AZ,AL,BD,AY,AC,AA,AX,BN,BV,BP,AB,jF,jD,jE,↓reduceIte,jB,jC,ED,G6 ge]
 refine (TG G hG e H (AE6 he)).use ?_
 simp -implicitDefEqProofs only [D5,jO,jP,jI,jM,AZ,BL,BX,CO,AL,BD,AY,AC,AA,AX,AU,BH,BJ,BU,AB,FT,↓reduceIte,jB,jC,enP,ED]
 refine IA (fun h1 => ?_) (fun h1 => ?_)
 ·have h1':exE e≠0:=by simpa using h1
  simp -implicitDefEqProofs only [D5,jO,jP,jI,jM,BB,A8,BI,A7,DI,AZ,BA,BL,BX,CO,F7,AL,BD,AY,AC,AA,EQ,AX,AU,BN,BM,BJ,CP,DW,BV,BP,jD,jE,↓reduceIte,jA,jB,jC,ED,h1]
  refine (LC G _).use ?_
  simp -implicitDefEqProofs only [D5,jO,jP,jI,jM,BK,A7,CJ,AZ,BA,AL,BD,AY,AC,DU,AA,AX,CU,BZ,↓reduceIte,jA,jC,enP,ED,jK,z.st]
  exact z.out (by simp -implicitDefEqProofs only [AA,↓reduceIte,jA]) (by unfold evP; rw [if_pos (.inl h1')])
 have h1':exE e=0:=by simpa using h1
 simp -implicitDefEqProofs only [D5,jO,jP,jI,jM,BL,BX,CO,EY,AL,BD,AY,AC,AA,AX,BN,BO,BV,BP,AB,jF,jD,jE,↓reduceIte,jA,jB,jC,enP,ED,h1,lp]
 refine (UF G hG p hs H).use ?_
 simp -implicitDefEqProofs only [D5,jO,jP,jI,jM,AZ,BL,BX,CO,EY,AL,BD,AY,AC,AA,AX,AU,BH,BM,BJ,CP,DZ,BU,AB,FT,↓reduceIte,jA,jB,jC,enP,ED,h1]
 refine IA (fun h2 => ?_) (fun h2 => ?_)
 ·have h2':KP p≠0:=by simpa using h2
  simp -implicitDefEqProofs only [D5,jO,jP,jI,jM,BB,A8,BI,A7,DI,AZ,BA,BL,BX,CO,F7,AL,BD,AY,AC,AA,EQ,AX,AU,BN,BM,CP,DW,BV,BP,jD,jE,↓reduceIte,jA,jB,jC,ED,h2]
  refine (LC G _).use ?_
  simp -implicitDefEqProofs only [D5,jO,jP,jI,jM,BK,A7,CJ,AZ,BA,AL,BD,AY,AC,DU,AA,AX,CU,BZ,↓reduceIte,jA,jC,enP,ED,jK,z.st]
  exact z.out (by simp -implicitDefEqProofs only [AA,↓reduceIte,jA]) (by unfold evP; rw [if_pos (.inr (.inl h2'))])
 have h2':KP p=0:=by simpa using h2
 simp -implicitDefEqProofs only [D5,jO,jP,jI,jM,BL,BX,CO,EY,AL,BD,AY,AC,AA,AX,BN,BJ,BO,BV,BP,AB,BF,BQ,jF,jD,jE,↓reduceIte,jA,jB,jC,enP,ED,h2,lp]
 refine (A0M G p hs l L hl H hLH).use ?_
 simp -implicitDefEqProofs only [D5,jO,jP,jI,jM,BI,A7,AZ,BA,BL,BX,CO,EY,AL,BD,AY,AC,AA,AX,AU,BM,CP,DZ,JG,AB,GG,↓reduceIte,jA,jB,jC,ED,h2]
 cases h3:MH p.vars l
 ·simp -implicitDefEqProofs only [D5,jO,jP,jI,jM,BB,A8,DI,AZ,AL,BD,AY,BN,BV,BP,jD,jE,jB,jC,ED]
  refine (LC G _).use ?_
  simp -implicitDefEqProofs only [D5,jO,jP,jI,jM,BK,A7,CJ,AZ,BA,AL,BD,AY,AC,DU,AA,AX,CU,BZ,↓reduceIte,jA,jC,enP,ED,jK,z.st]
  exact z.out (by simp -implicitDefEqProofs only [AA,↓reduceIte,jA]) (by unfold evP; rw [if_pos (.inr (.inr h3))])
 simp -implicitDefEqProofs only [BB,BR,A7,DN,jW]
 have hev:evP e p l=evS p.vars l e:=by unfold evP; rw [if_neg (by rw [h1',h2',h3]; simp)]
 obtain ⟨hw,hll⟩:=JD.1 h3
 have hE:=ARP H p L l hLH
 have hxE:=SS H p L
 have zE:Z0 h (evH H p L) bz:=⟨FD hxE z.gz,z.hx.trans hxE,z.hl⟩
 have hnew:=VQ G p L hLH.form hs.vars H
 have heval:=ZV G p.vars l hll hw (H.length+2) e (by have:=QI e; omega) (PK h1') _ hE
 refine Y6 [] [0,1] 2 3 [4,5] (by kernel_rfl) trivial ?_
 simp only [KC,zD,zB]
 simp -implicitDefEqProofs only [ET,Y9,V7,D5,jO,jP,jI,jM,DK,CY,D7,DL,EH,EC,AA,AX,BN,BO,AB,BF,BQ,jF,jD,jE,↓reduceIte,jA,jL,jB,enP,lp]
 refine ⟨?_,?_⟩
 ·try simp -implicitDefEqProofs only []
  refine ⟨_,_,hnew,?_⟩
  simp -implicitDefEqProofs only [ET,D5,jO,jP,jI,jM,DK,CY,DL,FH,EI,EE,AA,AX,BN,CU,AB,jF,jD,jE,↓reduceIte,jA,jL,jG,jB,enP,jK,G6 (FD hxE ge)]
  refine ⟨_,heval,?_⟩
  simp -implicitDefEqProofs only [FK,D7,BK,A7,BZ,zE.st]
  exact zE.out (by simp -implicitDefEqProofs only [AA,↓reduceIte,jA]) hev.symm
 ·simp -implicitDefEqProofs only [ET,Y9,V7,D5,jO,jP,jI,jM,DK,CY,DL,FH,EI,EE,AA,AX,BN,CU,AB,jF,jD,jE,↓reduceIte,jA,jL,jG,jB,enP,jK,G6 ge]
  refine ⟨_,_,hnew,?_⟩
  try simp -implicitDefEqProofs only []
  refine ⟨_,heval,?_⟩
  simp -implicitDefEqProofs only [FK,D7,BK,A7,BZ,zE.st]
  exact zE.out (by simp -implicitDefEqProofs only [AA,↓reduceIte,jA]) hev.symm
end
def ARW (z:Int):List AV := [.int .u16 z]
structure Cs where
 p:Pr
 e:Ex
 lm:SM
 l:List Rng
 am:SM
 at':List Int
def KD (c:Cs):List AV:=DY c.p ++ (CW c.e ++ [.sl c.lm 2 (c.l.map encR),.sl c.am 1 (c.at'.map ARW)])
theorem ZX (c:Cs):(KD c).length=11:=by simp [KD,GZ,ES]
structure CsS (c:Cs):Prop where
 p:PrS c.p
 e:wt c.e≤1048576
 l:c.l.length≤1048576
 at':c.at'.length≤1048576
 u : ∀ z∈c.at',0≤z∧z≤65535
theorem AKR (c:Cs):(KD c).all AV.leaf=true:=by
 unfold KD
 rw [List.all_append,List.all_append,LY]
 rfl
theorem A3G (h:Hp) (c:Cs):PO h (.agg (KD c))=some (.ptr h.length 0 0,h ++ [.live 11 [KD c]]):=by
 have:=AGG (h:=h) (AKR c)
 rw [ZX] at this; exact this
theorem AMI {H:Hp} {b:Nat} {c:Cs} (hb:H[b]? = some (.live 11 [KD c])):DR Tryz.prog H 27 (.ptr b 0 0)=some (.agg (DY c.p)):=by
 rw [H7 VH UG hb (row:=KD c) rfl (by rw [ZX]; omega)]
 have:((KD c).drop 0).take 5=DY c.p:=by
  unfold KD
  rw [List.drop_zero,← GZ c.p,List.take_left]
 rw [this]
theorem AWF {H:Hp} {b:Nat} {c:Cs} (hb:H[b]? = some (.live 11 [KD c])):DR Tryz.prog H 40 (.ptr b 0 5)=some (.agg (CW c.e)):=by
 rw [H7 KJ JR hb (row:=KD c) rfl (by rw [ZX]; omega)]
 have:((KD c).drop 5).take 4=CW c.e:=by
  unfold KD
  rw [← GZ c.p,List.drop_left,← ES c.e,List.take_left]
 rw [this]
theorem AIL (c:Cs):(KD c)[9]? = some (.sl c.lm 2 (c.l.map encR))∧(KD c)[10]? = some (.sl c.am 1 (c.at'.map ARW)):=by
 unfold KD
 refine ⟨?_,?_⟩
 ·rw [List.getElem?_append_right (by rw [GZ]; omega),List.getElem?_append_right (by rw [GZ,ES]; omega),GZ,ES]; rfl
 ·rw [List.getElem?_append_right (by rw [GZ]; omega),List.getElem?_append_right (by rw [GZ,ES]; omega),GZ,ES]; rfl
theorem AMJ {H:Hp} {b:Nat} {c:Cs} (hb:H[b]? = some (.live 11 [KD c])):DR Tryz.prog H 29 (.ptr b 0 9)=some (.sl c.lm 2 (c.l.map encR)):=by
 rw [DJ (by kernel_rfl) hb (row:=KD c) rfl]; exact (AIL c).1
theorem AWG {H:Hp} {b:Nat} {c:Cs} (hb:H[b]? = some (.live 11 [KD c])):DR Tryz.prog H 41 (.ptr b 0 10)=some (.sl c.am 1 (c.at'.map ARW)):=by
 rw [DJ (by kernel_rfl) hb (row:=KD c) rfl]; exact (AIL c).2
theorem AZP {a b:Int} (ha:0≤a) (hb:0 < b):IE Tryz.prog 3 .rem (.int .i64 a) (.int .i64 b)=some (.int .i64 (a % b)):=by
 rw [UY _ _ _ _ _ (by omega),Int.tmod_eq_emod_of_nonneg ha]
theorem AZO (a:Int) (ha:0≤a):IE Tryz.prog 55 .rem (.int .u16 a) (.int .u16 3)=some (.int .u16 (a % 3)):=by
 rw [UY _ _ _ _ _ (by decide),Int.tmod_eq_emod_of_nonneg ha]
structure LsL (H:Hp) (L:AV) (l cur:List Rng):Prop where
 ok:LOk H L cur
 len:cur.length=l.length
 sub : ∀ (j:Nat) (h1:j < cur.length) (h2:j < l.length),wfR cur[j]∧JV cur[j] l[j]
 own:l≠[]→∃ lb,L = .own lb 0 l.length∧H[lb]? = some (.live 2 (cur.map encR))
theorem AL1 : ∀ {a b:List Rng},a.length=b.length→(∀ (j:Nat) (h1:j < a.length) (h2:j < b.length),wfR a[j]∧JV a[j] b[j])→(∀ r∈b,wfR r)→SubL a b
 | [],[],_,_,_ => .nil
 | [],_ :: _,h,_,_=>by simp at h
 | _ :: _,[],h,_,_=>by simp at h
 | x :: a,y :: b,h,hs,hw=>by
   have h0:=hs 0 (by simp) (by simp)
   exact .cons h0.1 (hw y (by simp)) h0.2 (AL1 (by simpa using h) (fun j h1 h2=>hs (j+1) (by simpa using h1) (by simpa using h2)) fun r hr=>hw r (by simp [hr]))
theorem LsL.ext {H H':Hp} {L:AV} {l cur:List Rng} (q:LsL H L l cur) (hx:Sm.ext H H'):LsL H' L l cur :=
 ⟨q.ok.ext hx,q.len,q.sub,fun h=>let ⟨lb,e,hb⟩:=q.own h; ⟨lb,e,FD hx hb⟩⟩
theorem LsL.put {H:Hp} {lb:Nat} {l cur:List Rng} {i:Nat} (q:LsL H (.own lb 0 l.length) l cur) (hb:H[lb]? = some (.live 2 (cur.map encR))) (hi:i < cur.length) {r:Rng} (hw:wfR r) (hr:JV r cur[i]):LsL (H.set lb (.live 2 ((cur.set i r).map encR))) (.own lb 0 l.length) l (cur.set i r):=by
 refine ⟨.inr ⟨lb,by rw [qH,q.len],G7 hb⟩,by rw [qH]; exact q.len,fun j h1 h2 => ?_,fun _=>⟨lb,rfl,G7 hb⟩⟩
 rw [List.getElem_set]
 have hj:j < cur.length:=by simpa using h1
 obtain ⟨w,s⟩:=q.sub j hj h2
 by_cases e:i=j
 ·subst e
  rw [if_pos rfl]
  exact ⟨hw,Int.le_trans s.1 hr.1,Int.le_trans hr.2 s.2⟩
 ·rw [if_neg e]; exact ⟨w,s⟩
theorem AZG {H:Hp} {lb i:Nat} {cur:List Rng} (hb:H[lb]? = some (.live 2 (cur.map encR))) (hi:i < cur.length) (x:Int):GM Tryz.prog H 3 (.ptr lb i 0) (.int .i64 x)=some (H.set lb (.live 2 ((cur.set i ⟨x,cur[i].hi⟩).map encR))):=by
 rw [I5 (cs := [.int .i64 x]) rfl sz3 hb (row:=encR cur[i]) (by rw [zA,jU hi]; rfl) (by show 0+1≤2; omega),List.map_set]; rfl
theorem AZH {H:Hp} {lb i:Nat} {cur:List Rng} (hb:H[lb]? = some (.live 2 (cur.map encR))) (hi:i < cur.length) (x:Int):GM Tryz.prog H 3 (.ptr lb i 1) (.int .i64 x)=some (H.set lb (.live 2 ((cur.set i ⟨cur[i].lo,x⟩).map encR))):=by
 rw [I5 (cs := [.int .i64 x]) rfl sz3 hb (row:=encR cur[i]) (by rw [zA,jU hi]; rfl) (by show 1+1≤2; omega),List.map_set]; rfl
theorem AWD {H:Hp} {lb i:Nat} {cur:List Rng} (hb:H[lb]? = some (.live 2 (cur.map encR))) (hi:i < cur.length):DR Tryz.prog H 3 (.ptr lb i 0)=some (.int .i64 cur[i].lo):=by
 rw [DJ ag3 hb (row:=encR cur[i]) (by rw [zA,jU hi]; rfl)]; rfl
theorem AWE {H:Hp} {lb i:Nat} {cur:List Rng} (hb:H[lb]? = some (.live 2 (cur.map encR))) (hi:i < cur.length):DR Tryz.prog H 3 (.ptr lb i 1)=some (.int .i64 cur[i].hi):=by
 rw [DJ ag3 hb (row:=encR cur[i]) (by rw [zA,jU hi]; rfl)]; rfl
theorem AU5 (e:Ex) (p:Pr) {cur l:List Rng} (hlen:cur.length=l.length) (hs : ∀ (j:Nat) (h1:j < cur.length) (h2:j < l.length),wfR cur[j]∧JV cur[j] l[j]) (hv:KP p=0) (hf:MH p.vars l=true):JV (evP e p cur) (evP e p l):=by
 obtain ⟨hw,hl⟩:=JD.1 hf
 have hwc : ∀ r∈cur,wfR r:=fun r hr=>by
  obtain ⟨j,hj,rfl⟩:=List.getElem_of_mem hr
  exact (hs j hj (by omega)).1
 have hfc:MH p.vars cur=true:=JD.2 ⟨hwc,by omega⟩
 unfold evP
 by_cases q:exE e≠0
 ·rw [if_pos (.inl q),if_pos (.inl q)]; exact PU _
 ·have q':exE e=0:=by simpa using q
  rw [if_neg (by rw [q',hv,hfc]; simp),if_neg (by rw [q',hv,hf]; simp)]
  exact AU4 p.vars (AL1 hlen hs hw) hwc hw e (PK q')
section
variable (G:Nat→AV)
set_option maxHeartbeats 4000000 in
theorem AUL (hG:GOk G) (c:Cs) (hs:CsS c) (h:Hp):PCall (En G) 6 [.agg (KD c)] h (.bool true):=by
 refine ACalls.pure0 rfl ?_
 refine IM (H:=hint [89,96] []) (enM G) Tryz.func6 rfl (by kernel_rfl) (by kernel_rfl) (jJ (by kernel_rfl)) ?_
 show awp _ _ _ _ _ (EN _ [.tmp 2] _)
 have g1:=DF h (ABlk.live 11 [KD c])
 have hx:ext h (h ++ [ABlk.live 11 [KD c]]):=(ext.rfl' h).app _
 have hlen:h.length < (h ++ [ABlk.live 11 [KD c]]).length:=by simp
 simp -implicitDefEqProofs only [D5,jO,jP,jI,jM,BB,A8,A7,AZ,BA,AL,BD,AY,AC,AA,AX,AU,BM,BC,FQ,BO,BG,CB,AB,BF,↓reduceIte,jA,jH,jB,jC,enP,AKN,ED,A3G]
 generalize h ++ [ABlk.live 11 [KD c]]=H at g1 hx hlen ⊢
 generalize hb1:h.length=b1 at g1 hlen ⊢
 simp -implicitDefEqProofs only [D5,jO,jP,jI,jM,AZ,AL,BD,AY,AC,AA,AX,BN,BV,BP,AB,jF,jD,jE,↓reduceIte,jB,jC,ED,AMI g1]
 refine (ZF G c.p hs.p H).use ?_
 simp -implicitDefEqProofs only [D5,jO,jP,jI,jM,AZ,BL,BX,CO,AL,BD,AY,AC,AA,AX,AU,BH,BJ,BU,AB,FT,↓reduceIte,jB,jC,enP,ED]
 refine IA (fun h1 => ?_) (fun h1 => ?_)
 ·simp -implicitDefEqProofs only [D5,jO,jP,jI,jM,BB,A8,BI,A7,DI,AZ,BA,BL,BX,CO,F7,AL,BD,AY,AC,AA,EQ,AX,AU,BN,BM,CP,DW,BV,BP,jD,jE,↓reduceIte,jA,jB,jC,ED,h1]
  refine (PM G hG H).use ?_
  simp -implicitDefEqProofs only [D5,jO,jP,jI,jM,BK,A7,CJ,CV,AZ,BA,AL,BD,AY,AC,AA,AX,BC,↓reduceIte,jB,jC,ED]
  exact ⟨by trivial,hx⟩
 have hv:KP c.p=0:=by simpa using h1
 simp -implicitDefEqProofs only [D5,jO,jP,jI,jM,BL,BX,CO,EY,AL,BD,AY,AC,AA,AX,BN,BO,BG,BV,BP,AB,jF,jD,jE,↓reduceIte,jA,jH,jG,jB,jC,enP,AKN,AKM,ED,h1,AMI g1,AMJ g1]
 refine (ACK G c.p hs.p c.l c.lm hs.l H).use ?_
 simp -implicitDefEqProofs only [D5,jO,jP,jI,jM,BI,A7,AZ,BA,BL,BX,CO,EY,AL,BD,AY,AC,AA,AX,AU,BM,CP,DZ,JG,AB,GG,↓reduceIte,jA,jB,jC,ED,h1]
 cases hf:MH c.p.vars c.l
 ·simp -implicitDefEqProofs only [D5,jO,jP,jI,jM,BB,A8,DI,AZ,AL,BD,AY,BN,BV,BP,jD,jE,jB,jC,ED]
  refine (PM G hG H).use ?_
  simp -implicitDefEqProofs only [D5,jO,jP,jI,jM,BK,A7,CJ,CV,AZ,BA,AL,BD,AY,AC,AA,AX,BC,↓reduceIte,jB,jC,ED]
  exact ⟨by trivial,hx⟩
 obtain ⟨hwl,hll⟩:=JD.1 hf
 obtain ⟨L,H',ha,hxA,hL⟩:=AI4 H c.lm c.l hs.l
 have q0:LsL H' L c.l c.l:=by
  refine ⟨?_,rfl,fun j h1 h2=>⟨hwl _ (jT h1),PU _⟩,fun hne => ?_⟩
  ·rcases hL with ⟨e,rfl⟩ | ⟨_,rfl,hb⟩
   ·rw [e]; exact .inl ⟨.full,rfl⟩
   ·exact .inr ⟨_,rfl,hb⟩
  ·rcases hL with ⟨e,_⟩ | ⟨_,rfl,hb⟩
   ·exact absurd e hne
   ·exact ⟨_,rfl,hb⟩
 have hlow : ∀ lb n,L = .own lb 0 n→b1 < lb:=fun lb n e=>by
  rcases hL with ⟨_,e'⟩ | ⟨_,e',_⟩
  ·rw [e'] at e; cases e
  ·rw [e'] at e; cases e; exact hlen
 have hLl:aLen Tryz.prog 29 L=some (.int .i64 c.l.length):=by
  rcases hL with ⟨e,rfl⟩ | ⟨_,rfl,_⟩
  ·rw [e,ZL.1]; rfl
  ·rw [ZL.2]
 simp -implicitDefEqProofs only [ER,D5,jO,jP,jI,jM,BB,CE,A8,BR,A7,DN,AZ,BA,AL,BD,AY,AC,AA,AX,AU,BH,BJ,BC,GR,BO,BG,FP,LV,CB,AB,↓reduceIte,jA,jG,jB,jW,jC,enP,AKM,ED,AMJ g1,AM2,ha,hLl]
 refine IY 0 (fun F H2 => ∃ cur,F 1 = .ptr b1 0 0∧F 3=L∧H2[b1]? = some (.live 11 [KD c])∧Sm.ext h H2∧LsL H2 L c.l cur) (fun _ _=>False) ?_ ?_ (fun _ _ q=>q.elim)
 ·refine EG (fun n F H2 => ∃ i cur,n+i=c.l.length∧F 1 = .ptr b1 0 0∧F 3=L∧F 26 = .int .i64 (c.l.length:Nat)∧F 27 = .int .i64 (i:Nat)∧H2[b1]? = some (.live 11 [KD c])∧Sm.ext h H2∧LsL H2 L c.l cur) c.l.length
   ⟨0,c.l,by simp,by simp -implicitDefEqProofs only [AA,↓reduceIte,jA],by simp -implicitDefEqProofs only [AA,↓reduceIte,jA],by simp -implicitDefEqProofs only [AA,↓reduceIte,jA],by simp -implicitDefEqProofs only [AA,↓reduceIte]; rfl,FD hxA g1,hx.trans hxA,q0⟩ ?_
  rintro n F H2 ⟨i,cur,hi,f1,f3,f26,f27,g1,hx2,q⟩
  simp -implicitDefEqProofs only [D5,jO,jP,jI,jM,BB,A8,BI,A7,AZ,BA,AL,BD,AY,AC,AA,AX,BU,AB,DV,↓reduceIte,jB,jC,enP,ED,f26,f27]
  refine CQ (fun hc => ?_) (fun hc => ?_)
  ·have hi':i < c.l.length:=by simpa using hc
   have hic:i < cur.length:=by rw [q.len]; exact hi'
   obtain ⟨lb,rfl,hb⟩:=q.own (fun e=>by rw [e] at hi'; simp at hi')
   have hlb:=hlow lb _ rfl
   have ixo:I4 2 H2 (.own lb 0 c.l.length) (.int .i64 (i:Nat))=some (.ptr lb (0+i) 0):=JK hb hi'
   rw [jG] at ixo
   simp -implicitDefEqProofs only [D5,jO,jP,jI,jM,BB,CE,A8,BR,BI,A7,AZ,BA,AL,BD,AY,AC,AA,AX,BJ,BC,BO,BU,BG,FP,AB,DV,↓reduceIte,jA,jG,jB,jC,enP,A2U,ARK,ED,f1,f27,AWG g1,jR]
   refine CQ (fun hc => ?_) (fun hc => ?_)
   ·have hia:i < c.at'.length:=by simpa using hc
    obtain ⟨u0,u1⟩:=hs.u _ (jT hia)
    obtain ⟨⟨w0,w1,w2⟩,_⟩:=q.sub i hic hi'
    have l55:DR Tryz.prog H2 55 (.fptr 1 (c.at'.map ARW) i 0)=some (.int .u16 c.at'[i]):=by rw [IC (by kernel_rfl) hia]; rfl
    have hm0:=Int.emod_nonneg c.at'[i] (show cur[i].hi - cur[i].lo+1≠0 by omega)
    have hm1:=Int.emod_lt_of_pos c.at'[i] (show 0 < cur[i].hi - cur[i].lo+1 by omega)
    simp -implicitDefEqProofs only [BB]
    refine EK (by kernel_rfl) ?_
    simp -implicitDefEqProofs only [ET,D5,jO,jP,jI,jM,DK,CY,D7,DL,EH,G5,EC,HY,AE8,C9,D9,BB,A8,BI,A7,AZ,BA,AL,BD,AY,AC,AA,AX,AU,BH,BJ,BO,BU,QF,BG,CG,AB,D6,II,CX,↓reduceIte,jA,jL,jH,jG,jB,jC,enP,JO,FB,FN,A2W,ARK,AYC,ED,f1,f3,f27,AWG g1,EX hia,l55,ixo,AWD hb hic,AWE hb hic,wrap_i64 (n:=c.at'[i]) (by omega) (by omega),wrap_i64 (n:=cur[i].hi - cur[i].lo) (by omega) (by omega),wrap_i64 (n:=cur[i].hi - cur[i].lo+1) (by omega) (by omega),AZP u0 (show 0 < cur[i].hi - cur[i].lo+1 by omega),AZO c.at'[i] u0]
    generalize c.at'[i] % (cur[i].hi - cur[i].lo+1)=d at hm0 hm1 ⊢
    refine CQ (fun hz => ?_) (fun hz => ?_)
    ·simp -implicitDefEqProofs only [D5,jO,jP,jI,jM,A8,A7,EO,FO,AZ,BA,AL,BD,AY,AC,DU,AA,AX,AU,BH,BJ,BO,CU,BU,BG,CG,AB,BZ,D6,↓reduceIte,jA,jH,jB,jC,enP,JO,FB,ED,jK,f3,f27,ixo,AWD hb hic,wrap_i64 (n:=cur[i].lo+d) (by omega) (by omega),AZG hb hic,wrap_succ (show i < 9223372036854775807 by have:=hs.l; omega)]
     refine ⟨n - 1,by omega,i+1,_,by omega,by trivial,by trivial,by trivial,by trivial,by rw [zL (by omega)]; exact g1,hx2.set (by omega) _,q.put hb hic ⟨by show 0≤cur[i].lo+d; omega,by show cur[i].lo+d≤cur[i].hi; omega,w2⟩ ⟨by show cur[i].lo≤cur[i].lo+d; omega,qK _⟩⟩
    ·simp -implicitDefEqProofs only [D5,jO,jP,jI,jM,A8,A7,EO,FO,AZ,BA,AL,BD,AY,AC,DU,AA,AX,AU,BH,BJ,BO,CU,BU,BG,CG,AB,BZ,D6,II,↓reduceIte,jA,jG,jB,jC,enP,JO,FN,ED,jK,f3,f27,ixo,AWE hb hic,wrap_i64 (n:=cur[i].hi - d) (by omega) (by omega),AZH hb hic,wrap_succ (show i < 9223372036854775807 by have:=hs.l; omega)]
     refine ⟨n - 1,by omega,i+1,_,by omega,by trivial,by trivial,by trivial,by trivial,by rw [zL (by omega)]; exact g1,hx2.set (by omega) _,q.put hb hic ⟨w0,by show cur[i].lo≤cur[i].hi - d; omega,by show cur[i].hi - d≤65535; omega⟩ ⟨qK _,by show cur[i].hi - d≤cur[i].hi; omega⟩⟩
   ·simp -implicitDefEqProofs only [D5,jO,jP,jI,jM,A8,BR,A7,EO,FO,AZ,BA,AL,BD,AY,AC,AA,AX,AU,BH,BJ,BU,AB,D6,↓reduceIte,jA,jB,jC,enP,ED,f27,wrap_succ (show i < 9223372036854775807 by have:=hs.l; omega)]
    exact ⟨n - 1,by omega,i+1,cur,by omega,by trivial,by trivial,by trivial,by trivial,g1,hx2,q⟩
  ·simp -implicitDefEqProofs only [EF,FC,MG,F8,AA,↓reduceIte,jA]
   exact ⟨cur,f1,f3,g1,hx2,q⟩
 clear q0 hx g1
 rintro F H2 ⟨cur,f1,f3,g1,hx2,q⟩
 have hA:=fun x=>ALM G hG c.e hs.e c.p hs.p cur L (by rw [q.len]; exact hs.l) (H2 ++ x) (q.ok.ext ((ext.rfl' H2).app x))
 have hB:=fun x=>Q4 G hG c.e hs.e c.p hs.p c.l c.lm hs.l (H2 ++ x)
 have hsub:=AU5 c.e c.p q.len q.sub hv hf
 have hwA:=APG c.e c.p cur
 generalize evP c.e c.p cur=ra at hA hsub hwA
 generalize evP c.e c.p c.l=rb at hB hsub
 simp -implicitDefEqProofs only [BB,A7,F6,↓reduceIte]
 refine QX (fun F H3 => ∃ b6 b7,F 6 = .ptr b6 0 0∧F 7 = .ptr b7 0 0∧H3[b6]? = some (.live 2 [encR ra])∧H3[b7]? = some (.live 2 [encR rb])∧Sm.ext h H3) (fun _ _=>False) ?_ ?_ (fun _ _ q=>q.elim)
 ·refine Y6 [] [0,1,2,3,4,5,6,7,8,9,10,11,12] 13 14 [15,16] (by kernel_rfl) trivial ?_
  simp only [KC,zD,zB]
  have g : ∀ r s:Rng,(H2 ++ [ABlk.live 2 [encR r]] ++ [ABlk.live 2 [encR s]])[H2.length]? = some (.live 2 [encR r])∧(H2 ++ [ABlk.live 2 [encR r]] ++ [ABlk.live 2 [encR s]])[(H2 ++ [ABlk.live 2 [zR]]).length]? = some (.live 2 [encR s]):=fun r s=>by
   refine ⟨DC (DF _ _),?_⟩
   have:=DF (H2 ++ [ABlk.live 2 [encR r]]) (ABlk.live 2 [encR s])
   rw [← this]; simp
  have sB : ∀ r s:Rng,GM Tryz.prog (H2 ++ [ABlk.live 2 [encR r]] ++ [ABlk.live 2 [zR]]) 34 (.ptr (H2 ++ [ABlk.live 2 [zR]]).length 0 0) (.agg (encR s))=some (H2 ++ [ABlk.live 2 [encR r]] ++ [ABlk.live 2 [encR s]]):=fun r s=>by
   have:=NF (H2 ++ [ABlk.live 2 [encR r]]) s
   rw [← this]; simp
  have hxx : ∀ r s:Rng,Sm.ext h (H2 ++ [ABlk.live 2 [encR r]] ++ [ABlk.live 2 [encR s]]):=fun r s=>(hx2.app _).app _
  simp -implicitDefEqProofs only [ET,D5,jO,jP,jI,jM,Bool.or_true,DK,CY,D7,DL,EH,MW,EC,C9,EI,Q3,AA,AX,BN,EZ,BO,BG,AB,jF,jD,jE,↓reduceIte,jA,jL,jH,jG,jB,enP,AKN,AX5,AKM,f1,f3,AWF g1,AMI g1,AMJ g1]
  refine ⟨_,hA,?_⟩
  try simp -implicitDefEqProofs only [f1,f3,AWF g1,AMI g1,AMJ g1]
  refine ⟨_,hB,?_⟩
  try simp -implicitDefEqProofs only []
  have A:=fun r s=>(g r s).1
  have B:=fun r s=>(g r s).2
  refine ⟨?_,?_⟩
  ·simp -implicitDefEqProofs only [ET,D5,jO,jP,jI,jM,DK,CY,FK,D7,DL,MW,FH,KW,AA,AX,EZ,CU,CB,BZ,↓reduceIte,jA,jL,jG,jB,enP,jK,KG,AD6,NF,sB]
   exact ⟨_,_,by trivial,by trivial,A _ _,B _ _,hxx _ _⟩
  ·simp -implicitDefEqProofs only [ET,D5,jO,jP,jI,jM,DK,CY,FK,D7,DL,MW,FH,KW,AA,AX,EZ,CU,CB,BZ,↓reduceIte,jA,jL,jG,jB,enP,jK,KG,AD6,NF,sB]
   exact ⟨_,_,by trivial,by trivial,B _ _,A _ _,hxx _ _⟩
 clear f1 f3 g1 hx2 q hA hB
 rintro F H3 ⟨b6,b7,f6,f7,g6,g7,hx3⟩
 have c1:decide (rb.lo≤ra.lo)=true:=decide_eq_true hsub.1
 have c2:decide (ra.lo≤ra.hi)=true:=decide_eq_true hwA.2.1
 have c3:decide (ra.hi≤rb.hi)=true:=decide_eq_true hsub.2
 simp -implicitDefEqProofs only [D5,jO,jP,jI,jM,BB,A8,A7,AZ,BL,BX,CO,GL,AL,BD,AY,AC,AA,AX,AU,BN,BM,BJ,CP,DW,BO,BU,BG,BV,BP,AB,IR,jD,jE,↓reduceIte,jA,jH,jG,jB,jC,enP,FB,FN,ED,f6,f7,FX g6,GI g6,FX g7,GI g7,c1,c2,c3]
 refine (PM G hG H3).use ?_
 simp -implicitDefEqProofs only [D5,jO,jP,jI,jM,BK,A7,CV,AZ,BA,AL,BD,AY,AC,AA,AX,AU,BM,BC,CP,DW,↓reduceIte,jA,jB,jC,ED]
 exact ⟨by trivial,hx3⟩
end
end Go.Proofs.YtokehnfjjmpanaaGreatDoor.Bd
