/- Part 14 of the proof (Wo, Wp, Wr); no condition. -/
import Derived.Test.YtokehnfjjmpanaaGreatDoorYC13
set_option linter.unusedVariables false
namespace Go.Proofs.YtokehnfjjmpanaaGreatDoor.Bd
open Bins Cov Xe Wd
open Bool renaming and_eq_true→jV,or_eq_true→zN
open Int renaming le_refl→zJ
open Nat renaming eq_zero_or_pos→qA
def JO (a b:Rng):Prop:=b.lo≤a.lo∧a.hi≤b.hi
instance (a b:Rng):Decidable (JO a b):=inferInstanceAs (Decidable (_∧_))
theorem XF (a:Rng):JO a a:=⟨zJ _,zJ _⟩
theorem XG {a:Rng} (h:wfR a):JO a IP:=⟨h.1,h.2.2⟩
theorem AAQ {a b:Rng} (ha:wfR a) (h:JO a b) (hb:sgl b=true):a=b:=by
 obtain ⟨h1,h2⟩:=h
 obtain ⟨_,a1,_⟩:=ha
 have e:b.lo=b.hi:=by simpa [sgl] using hb
 cases a; cases b
 simp only at *
 congr 1 <;> omega
theorem UJ {t f t' f':Bool} (h1:t'=true→t=true) (h2:f'=true→f=true) (h3 : ¬ (t=true∧f=true)):JO (knR t f) (knR t' f'):=by
 cases t <;> cases f <;> cases t' <;> cases f' <;> simp at h1 h2 h3 <;> decide
theorem XT {a b:Rng} (h:JO a b) (q:isT b=true):isT a=true:=by
 unfold isT at *; simp at *; have:=h.1; omega
theorem VA {a b:Rng} (ha:wfR a) (h:JO a b) (q:isF b=true):isF a=true:=by
 unfold isF at *; simp at *; have:=h.2; obtain ⟨_,_,_⟩:=ha; omega
theorem ABK {a:Rng} (ha:wfR a) : ¬ (isT a=true∧isF a=true):=by
 unfold isT isF; simp; obtain ⟨_,_,_⟩:=ha; omega
theorem AR9 {a b a' b':Rng} (ha:wfR a) (hb:wfR b) (h1:JO a a') (h2:JO b b'):JO (TZ a b) (TZ a' b'):=by
 obtain ⟨p1,p2⟩:=h1
 obtain ⟨q1,q2⟩:=h2
 have w:=AOA ha hb
 obtain ⟨_,_,_⟩:=ha
 obtain ⟨_,_,_⟩:=hb
 by_cases c:a'.lo+b'.lo > 65535
 ·have c':a.lo+b.lo > 65535:=by omega
  unfold TZ; rw [if_pos c,if_pos c']
  exact ⟨by show a'.lo+b'.lo - 65536≤a.lo+b.lo - 65536; omega,by show a.hi+b.hi - 65536≤a'.hi+b'.hi - 65536; omega⟩
 ·by_cases d:a'.hi+b'.hi > 65535
  ·have:TZ a' b'=IP:=by unfold TZ QT; rw [if_neg c,if_pos d]
   rw [this]; exact XG w
  ·have e:TZ a' b'=⟨a'.lo+b'.lo,a'.hi+b'.hi⟩:=by unfold TZ QT; rw [if_neg c,if_neg d]
   have e':TZ a b=⟨a.lo+b.lo,a.hi+b.hi⟩:=by unfold TZ QT; rw [if_neg (by omega),if_neg (by omega)]
   rw [e,e']
   exact ⟨by show a'.lo+b'.lo≤a.lo+b.lo; omega,by show a.hi+b.hi≤a'.hi+b'.hi; omega⟩
theorem ATS {a b a' b':Rng} (ha:wfR a) (hb:wfR b) (h1:JO a a') (h2:JO b b'):JO (WQ a b) (WQ a' b'):=by
 obtain ⟨p1,p2⟩:=h1
 obtain ⟨q1,q2⟩:=h2
 have w:=AOF ha hb
 obtain ⟨_,_,_⟩:=ha
 obtain ⟨_,_,_⟩:=hb
 by_cases c:0≤a'.lo - b'.hi
 ·unfold WQ; rw [if_pos c,if_pos (by omega)]
  exact ⟨by show a'.lo - b'.hi≤a.lo - b.hi; omega,by show a.hi - b.lo≤a'.hi - b'.lo; omega⟩
 ·by_cases d:a'.hi - b'.lo < 0
  ·unfold WQ; rw [if_neg c,if_pos d,if_neg (by omega),if_pos (by omega)]
   exact ⟨by show a'.lo - b'.hi+65536≤a.lo - b.hi+65536; omega,by show a.hi - b.lo+65536≤a'.hi - b'.lo+65536; omega⟩
  ·have:WQ a' b'=IP:=by unfold WQ; rw [if_neg c,if_neg d]
   rw [this]; exact XG w
theorem AS0 {a a':Rng} (ha:wfR a) (h:JO a a'):JO (XO a) (XO a'):=by
 have w:=AOC ha
 by_cases c:isF a'=true
 ·have:=VA ha h c
  unfold XO; rw [if_pos c,if_pos this]; exact XF _
 ·by_cases d:isT a'=true
  ·have t:=XT h d
   have nf : ¬ isF a=true:=fun q=>ABK ha ⟨t,q⟩
   unfold XO; rw [if_neg c,if_pos d,if_neg nf,if_pos t]
   obtain ⟨p1,p2⟩:=h
   exact ⟨by show 65536 - a'.hi≤65536 - a.hi; omega,by show 65536 - a.lo≤65536 - a'.lo; omega⟩
  ·have:XO a'=IP:=by unfold XO; rw [if_neg c,if_neg d]
   rw [this]; exact XG w
theorem ALZ {lo hi lo' hi':Int} (h0:0≤lo) (h1:lo≤hi) (h2:lo'≤lo) (h3:hi≤hi'):JO (QT lo hi) (QT lo' hi'):=by
 by_cases c:hi' > 65535
 ·have:QT lo' hi'=IP:=by unfold QT; rw [if_pos c]
  rw [this]; exact XG (AES h0 h1)
 ·unfold QT; rw [if_neg c,if_neg (by omega)]; exact ⟨h2,h3⟩
theorem APH {a b a' b':Rng} (ha:wfR a) (hb:wfR b) (ha':wfR a') (hb':wfR b') (h1:JO a a') (h2:JO b b'):JO (AS3 a b) (AS3 a' b'):=by
 obtain ⟨p1,p2⟩:=h1
 obtain ⟨q1,q2⟩:=h2
 obtain ⟨_,_,_⟩:=ha
 obtain ⟨_,_,_⟩:=hb
 obtain ⟨_,_,_⟩:=ha'
 obtain ⟨_,_,_⟩:=hb'
 exact ALZ (Int.mul_nonneg (by omega) (by omega)) (Int.mul_le_mul (by omega) (by omega) (by omega) (by omega)) (Int.mul_le_mul (by omega) (by omega) (by omega) (by omega)) (Int.mul_le_mul (by omega) (by omega) (by omega) (by omega))
theorem AXF (a b:Int) (ha:0≤a) (hb:0≤b):AF0 a b≤a∧AF0 a b≤b:=by
 have h1:=@Nat.and_le_left a.toNat b.toNat
 have h2:=@Nat.and_le_right a.toNat b.toNat
 unfold AF0; omega
theorem AYH (a b:Int) (ha:0≤a) (hb:0≤b):a≤orI a b∧b≤orI a b:=by
 have h1:=@Nat.left_le_or a.toNat b.toNat
 have h2:=@Nat.right_le_or a.toNat b.toNat
 unfold orI; omega
theorem AE5 {a m:Int} (_ha:0≤a) (h:a≤m):a.toNat < 2 ^ blN m.toNat:=(WS _ _).2 (AFU (by omega))
theorem AYG (a b m:Int) (ha:0≤a) (hb:0≤b) (h1:a≤m) (h2:b≤m):orI a b≤WH m:=by
 have:=Nat.or_lt_two_pow (AE5 ha h1) (AE5 hb h2)
 unfold orI WH; omega
theorem AVE (a b m:Int) (ha:0≤a) (hb:0≤b) (h1:a≤m) (h2:b≤m):AIY a b≤WH m:=by
 have:=Nat.xor_lt_two_pow (AE5 ha h1) (AE5 hb h2)
 unfold AIY WH; omega
theorem AT4 (op:Int) {a b a' b':Rng} (ha:wfR a) (hb:wfR b) (h1:JO a a') (h2:JO b b'):JO (SE op a b) (SE op a' b'):=by
 by_cases hs':(sgl a' && sgl b')=true
 ·rw [jV] at hs'
  rw [AAQ ha h1 hs'.1,AAQ hb h2 hs'.2]; exact XF _
 obtain ⟨p1,p2⟩:=h1
 obtain ⟨q1,q2⟩:=h2
 obtain ⟨a0,a1,a2⟩:=ha
 obtain ⟨b0,b1,b2⟩:=hb
 have hmm:=API (a:=max a.hi b.hi) (b:=max a'.hi b'.hi) (by omega)
 by_cases hs:(sgl a && sgl b)=true
 ·have k1:=AXF a.lo b.lo a0 b0
  have k2:=AYH a.lo b.lo a0 b0
  have k3:=AYG a.lo b.lo (max a'.hi b'.hi) a0 b0 (by omega) (by omega)
  have k4:=AVE a.lo b.lo (max a'.hi b'.hi) a0 b0 (by omega) (by omega)
  have k5:0≤AIY a.lo b.lo:=Int.natCast_nonneg _
  have k6:0≤AF0 a.lo b.lo:=Int.natCast_nonneg _
  unfold SE
  rw [if_pos hs,if_pos hs,if_pos hs,if_neg hs',if_neg hs',if_neg hs']
  by_cases c:op=10
  ·rw [if_pos c,if_pos c]
   exact ⟨k6,by show AF0 a.lo b.lo≤min a'.hi b'.hi; omega⟩
  rw [if_neg c,if_neg c]
  by_cases c:op=11
  ·rw [if_pos c,if_pos c]
   exact ⟨by show max a'.lo b'.lo≤orI a.lo b.lo; omega,k3⟩
  ·rw [if_neg c,if_neg c]
   exact ⟨k5,k4⟩
 ·unfold SE
  rw [if_neg hs,if_neg hs,if_neg hs,if_neg hs',if_neg hs',if_neg hs']
  by_cases c:op=10
  ·rw [if_pos c,if_pos c]
   exact ⟨zJ 0,by show min a.hi b.hi≤min a'.hi b'.hi; omega⟩
  rw [if_neg c,if_neg c]
  by_cases c:op=11
  ·rw [if_pos c,if_pos c]
   exact ⟨by show max a'.lo b'.lo≤max a.lo b.lo; omega,hmm⟩
  ·rw [if_neg c,if_neg c]
   exact ⟨zJ 0,hmm⟩
theorem ASD {a b a' b':Rng} (ha:wfR a) (hb:wfR b) (ha':wfR a') (h1:JO a a') (h2:JO b b'):JO (RP a b) (RP a' b'):=by
 have w:=AOB (b:=b) ha
 by_cases c:(isF a' || decide (b'.lo≥16))=true
 ·have c':(isF a || decide (b.lo≥16))=true:=by
   rcases Bool.or_eq_true_iff.1 c with q | q
   ·rw [VA ha h1 q]; rfl
   ·have:=h2.1
    have q:b'.lo≥16:=by simpa using q
    rw [decide_eq_true (show b.lo≥16 by omega)]; simp
  unfold RP; rw [if_pos c,if_pos c']; exact XF _
 by_cases d:sgl b'=true
 ·have e:=AAQ hb h2 d
  subst e
  have hp:=WG b.lo.toNat
  obtain ⟨p1,p2⟩:=h1
  obtain ⟨a0,a1,a2⟩:=ha
  obtain ⟨a0',a1',a2'⟩:=ha'
  have e':RP a' b=QT (a'.lo * 2 ^ b.lo.toNat) (a'.hi * 2 ^ b.lo.toNat):=by unfold RP; rw [if_neg c,if_pos d]
  rw [e']
  by_cases c2:(isF a || decide (b.lo≥16))=true
  ·have hz:a.hi=0:=by
    rcases Bool.or_eq_true_iff.1 c2 with q | q
    ·simpa [isF] using q
    ·rw [q] at c; simp at c
   have e2:RP a b=⟨0,0⟩:=by unfold RP; rw [if_pos c2]
   have e3:a'.lo=0:=by omega
   rw [e2,e3,Int.zero_mul]
   have:0≤a'.hi * 2 ^ b.lo.toNat:=Int.mul_nonneg (by omega) (by omega)
   unfold QT
   split
   ·exact ⟨zJ 0,by decide⟩
   ·exact ⟨zJ 0,this⟩
  ·have e2:RP a b=QT (a.lo * 2 ^ b.lo.toNat) (a.hi * 2 ^ b.lo.toNat):=by unfold RP; rw [if_neg c2,if_pos d]
   rw [e2]
   exact ALZ (Int.mul_nonneg a0 (by omega)) (Int.mul_le_mul_of_nonneg_right a1 (by omega)) (Int.mul_le_mul_of_nonneg_right p1 (by omega)) (Int.mul_le_mul_of_nonneg_right p2 (by omega))
 ·have:RP a' b'=IP:=by unfold RP; rw [if_neg c,if_neg d]
  rw [this]; exact XG w
theorem ASG {a b a' b':Rng} (ha:wfR a) (hb:wfR b) (h1:JO a a') (h2:JO b b'):(UC a' b'=true→UC a b=true)∧(dfB a' b'=true→dfB a b=true)∧¬ (UC a b=true∧dfB a b=true):=by
 obtain ⟨a0,a1,a2⟩:=ha
 obtain ⟨b0,b1,b2⟩:=hb
 obtain ⟨p1,p2⟩:=h1
 obtain ⟨q1,q2⟩:=h2
 unfold UC dfB sgl
 simp only [jV,zN,beq_iff_eq,decide_eq_true_eq]
 refine ⟨?_,?_,?_⟩ <;> omega
theorem AQ8 (op:Int) {a b a' b':Rng} (ha:wfR a) (hb:wfR b) (ha':wfR a') (hb':wfR b') (h1:JO a a') (h2:JO b b'):JO (MJ op a b) (MJ op a' b'):=by
 have ks:=ASG ha hb h1 h2
 have Ta:=@XT _ _ h1
 have Tb:=@XT _ _ h2
 have Fa:=@VA _ _ ha h1
 have Fb:=@VA _ _ hb h2
 have na:=ABK ha
 have nb:=ABK hb
 unfold MJ
 by_cases h:op=7
 ·rw [if_pos h,if_pos h]; exact AR9 ha hb h1 h2
 rw [if_neg h,if_neg h]; clear h
 by_cases h:op=8
 ·rw [if_pos h,if_pos h]; exact ATS ha hb h1 h2
 rw [if_neg h,if_neg h]; clear h
 by_cases h:op=9
 ·rw [if_pos h,if_pos h]; exact APH ha hb ha' hb' h1 h2
 rw [if_neg h,if_neg h]; clear h
 by_cases h:op=10∨op=11∨op=12
 ·rw [if_pos h,if_pos h]; exact AT4 op ha hb h1 h2
 rw [if_neg h,if_neg h]; clear h
 by_cases h:op=13
 ·rw [if_pos h,if_pos h]; exact ASD ha hb ha' h1 h2
 rw [if_neg h,if_neg h]; clear h
 by_cases h:op=14
 ·rw [if_pos h,if_pos h]
  obtain ⟨p1,p2⟩:=h1
  obtain ⟨q1,q2⟩:=h2
  obtain ⟨a0,a1,a2⟩:=ha
  obtain ⟨a0',a1',a2'⟩:=ha'
  exact ⟨ABD a0' p1 q2,ABD (by omega) p2 q1⟩
 rw [if_neg h,if_neg h]; clear h
 by_cases h:op=15
 ·rw [if_pos h,if_pos h]; exact UJ ks.1 ks.2.1 ks.2.2
 rw [if_neg h,if_neg h]; clear h
 by_cases h:op=16
 ·rw [if_pos h,if_pos h]; exact UJ ks.2.1 ks.1 fun q=>ks.2.2 ⟨q.2,q.1⟩
 rw [if_neg h,if_neg h]; clear h
 obtain ⟨p1,p2⟩:=h1
 obtain ⟨q1,q2⟩:=h2
 obtain ⟨a0,a1,a2⟩:=ha
 obtain ⟨b0,b1,b2⟩:=hb
 by_cases h:op=17
 ·rw [if_pos h,if_pos h]; exact UJ (by simp; omega) (by simp; omega) (by simp; omega)
 rw [if_neg h,if_neg h]; clear h
 by_cases h:op=18
 ·rw [if_pos h,if_pos h]; exact UJ (by simp; omega) (by simp; omega) (by simp; omega)
 rw [if_neg h,if_neg h]; clear h
 have bb : ∀ x y x' y':Bool,(x'=true→x=true)→(y'=true→y=true)→((x' && y')=true→(x && y)=true)∧((x' || y')=true→(x || y)=true):=by decide
 by_cases h:op=19
 ·rw [if_pos h,if_pos h]
  refine UJ (bb _ _ _ _ Ta Tb).1 (bb _ _ _ _ Fa Fb).2 ?_
  revert na nb
  cases isT a <;> cases isT b <;> cases isF a <;> cases isF b <;> simp
 rw [if_neg h,if_neg h]; clear h
 by_cases h:op=20
 ·rw [if_pos h,if_pos h]
  refine UJ (bb _ _ _ _ Ta Tb).2 (bb _ _ _ _ Fa Fb).1 ?_
  revert na nb
  cases isT a <;> cases isT b <;> cases isF a <;> cases isF b <;> simp
 rw [if_neg h,if_neg h]
 refine UJ (bb _ _ _ _ Fa Tb).2 (bb _ _ _ _ Ta Fb).1 ?_
 revert na nb
 cases isT a <;> cases isT b <;> cases isF a <;> cases isF b <;> simp
inductive SubL:List Rng→List Rng→Prop
 | nil:SubL [] []
 | cons {a b:Rng} {l m:List Rng}:wfR a→wfR b→JO a b→SubL l m→SubL (a :: l) (b :: m)
theorem SubL.drop1 {l m:List Rng} (h:SubL l m):SubL (l.drop 1) (m.drop 1):=by
 cases h with
 | nil=>exact .nil
 | cons _ _ _ h=>exact h
theorem SubL.get {l m:List Rng} (h:SubL l m) : ∀ k:Nat,wfR (l.getD k IP)∧wfR (m.getD k IP)∧JO (l.getD k IP) (m.getD k IP):=by
 induction h with
 | nil=>intro k; exact ⟨SV,SV,XF _⟩
 | cons h1 h2 h3 _ ih =>
   intro k
   cases k with
   | zero=>exact ⟨h1,h2,h3⟩
   | succ k=>exact ih k
theorem AWC {a lo hi:Rng} (ha:wfR a) (hl:wfR lo) (hh:wfR hi) (h:VQ a lo hi=true):XV a lo hi=true:=by
 obtain ⟨_,_,_⟩:=ha
 obtain ⟨_,_,_⟩:=hl
 obtain ⟨_,_,_⟩:=hh
 unfold VQ XV at *
 simp at *; omega
theorem AP0 {a lo hi a' lo' hi':Rng} (ha:wfR a) (hl:wfR lo) (hh:wfR hi) (h1:JO a a') (h2:JO lo lo') (h3:JO hi hi') (h:VQ a' lo' hi'=true):VQ a lo hi=true:=by
 obtain ⟨_,_,_⟩:=ha
 obtain ⟨_,_,_⟩:=hl
 obtain ⟨_,_,_⟩:=hh
 obtain ⟨_,_⟩:=h1
 obtain ⟨_,_⟩:=h2
 obtain ⟨_,_⟩:=h3
 unfold VQ at *
 simp at *; omega
theorem AP1 {a lo hi a' lo' hi':Rng} (h1:JO a a') (h2:JO lo lo') (h3:JO hi hi') (h:XV a lo hi=true):XV a' lo' hi'=true:=by
 obtain ⟨_,_⟩:=h1
 obtain ⟨_,_⟩:=h2
 obtain ⟨_,_⟩:=h3
 unfold XV at *
 simp at *; omega
def VU (a:Rng):List Rng→Bool
 | lo :: hi :: r=>VQ a lo hi || VU a r
 | _=>false
def YK (a:Rng):List Rng→Bool
 | lo :: hi :: r=>XV a lo hi || YK a r
 | _=>false
theorem ins_any (a:Rng) : ∀ (imp:Bool) (l:List Rng),PN a imp l=if VU a l=true then ⟨1,1⟩ else knR false (imp && !YK a l)
 | imp,[]=>by simp [PN,VU,YK]
 | imp,[_]=>by simp [PN,VU,YK]
 | imp,lo :: hi :: r=>by
   have ih:=ins_any a (if XV a lo hi=true then false else imp) r
   simp only [PN,VU,YK]
   rw [ih]
   have key : ∀ t p i x y:Bool,(if t=true then (⟨1,1⟩:Rng) else if x=true then ⟨1,1⟩ else knR false ((if p=true then false else i) && !y))=if (t || x)=true then ⟨1,1⟩ else knR false (i && !(p || y)):=by decide
   exact key _ _ _ _ _
theorem AUC {a a':Rng} (ha:wfR a) (h1:JO a a') : ∀ {l m:List Rng},SubL l m→(VU a' m=true→VU a l=true)∧(YK a l=true→YK a' m=true)∧(VU a l=true→YK a l=true):=by
 intro l
 induction hn:l.length using Nat.strongRecOn generalizing l with
 | _ n ih =>
   intro m h
   cases h with
   | nil=>exact ⟨fun h=>by simp [VU] at h,fun h=>by simp [YK] at h,fun h=>by simp [VU] at h⟩
   | cons w1 w1' s1 h =>
     cases h with
     | nil=>exact ⟨fun h=>by simp [VU] at h,fun h=>by simp [YK] at h,fun h=>by simp [VU] at h⟩
     | cons w2 w2' s2 h =>
       subst hn
       obtain ⟨i1,i2,i3⟩:=ih _ (by simp only [List.length_cons]; omega) rfl h
       refine ⟨fun q => ?_,fun q => ?_,fun q => ?_⟩
       ·simp only [VU,zN] at q ⊢
        rcases q with q | q
        ·exact .inl (AP0 ha w1 w2 h1 s1 s2 q)
        ·exact .inr (i1 q)
       ·simp only [YK,zN] at q ⊢
        rcases q with q | q
        ·exact .inl (AP1 h1 s1 s2 q)
        ·exact .inr (i2 q)
       ·simp only [VU,YK,zN] at q ⊢
        rcases q with q | q
        ·exact .inl (AWC ha w1 w2 q)
        ·exact .inr (i3 q)
theorem ATE {a a':Rng} (ha:wfR a) (h1:JO a a') {l m:List Rng} (h:SubL l m):JO (PN a true l) (PN a' true m):=by
 obtain ⟨i1,i2,i3⟩:=AUC ha h1 h
 rw [ins_any,ins_any]
 revert i1 i2 i3
 cases VU a' m <;> cases VU a l <;> cases YK a l <;> cases YK a' m <;> simp <;> decide
theorem ALC (n:Nat) : ∀ k:Nat,H7 n k≤k∧H7 n k≤blN n
 | 0=>⟨Nat.le_refl 0,Nat.zero_le _⟩
 | k+1=>by
   obtain ⟨h1,h2⟩:=ALC n k
   have h3:=YI n k
   have e:H7 n (k+1)=H7 n k+JR n k:=rfl
   rw [e]
   by_cases hk:k < blN n
   ·omega
   ·have hz:JR n k=0:=by
     have hl:n < 2 ^ k:=(WS k n).2 (by omega)
     unfold JR
     rw [Nat.div_eq_of_lt hl]
    omega
theorem ADR (n:Nat) : ∀ k:Nat,n < 2 ^ k→H7 n k=0→n=0
 | 0,h,_=>by simpa using h
 | k+1,h,hz=>by
   have e:H7 n (k+1)=H7 n k+JR n k:=rfl
   rw [e] at hz
   have hb:JR n k=0:=by omega
   have hlt:n / 2 ^ k < 2:=by
    rw [Nat.div_lt_iff_lt_mul (Nat.pow_pos (by decide))]
    rw [Nat.pow_succ] at h; omega
   unfold JR at hb
   have hq:n / 2 ^ k=0:=by
    generalize n / 2 ^ k=q at hb hlt
    omega
   have hl:n < 2 ^ k:=by
    rcases Nat.div_eq_zero_iff.1 hq with q | q
    ·exact absurd q (Nat.ne_of_gt (Nat.pow_pos (by decide)))
    ·exact q
   exact ADR n k hl (by omega)
theorem AYK (n:Nat) (h:n < 65536):H7 n 16≤blN n∧(1≤n→1≤H7 n 16):=by
 refine ⟨(ALC n 16).2,fun h1 => ?_⟩
 rcases qA (H7 n 16) with q | q
 ·have:=ADR n 16 (by omega) q; omega
 ·exact q
theorem ASR {a a':Rng} (ha:wfR a) (h:JO a a'):JO (ABJ a) (ABJ a'):=by
 by_cases c:sgl a'=true
 ·rw [AAQ ha h c]; exact XF _
 obtain ⟨p1,p2⟩:=h
 obtain ⟨a0,a1,a2⟩:=ha
 have hb:=AFU (a:=a.hi.toNat) (b:=a'.hi.toNat) (by omega)
 by_cases d:sgl a=true
 ·have e:a.lo=a.hi:=by simpa [sgl] using d
  obtain ⟨k1,k2⟩:=AYK a.lo.toNat (by omega)
  have k3:onI a.lo=((H7 a.lo.toNat 16:Nat):Int):=rfl
  rw [e] at k1 k2 k3
  unfold ABJ
  rw [if_neg c,if_pos d,e,k3]
  refine ⟨?_,?_⟩
  ·show min a'.lo 1≤((H7 a.hi.toNat 16:Nat):Int)
   rcases qA a.hi.toNat with q | q
   ·omega
   ·have:=k2 q; omega
  ·show ((H7 a.hi.toNat 16:Nat):Int)≤((blN a'.hi.toNat:Nat):Int); omega
 ·unfold ABJ
  rw [if_neg c,if_neg d]
  exact ⟨by show min a'.lo 1≤min a.lo 1; omega,by show ((blN a.hi.toNat:Nat):Int)≤((blN a'.hi.toNat:Nat):Int); omega⟩
theorem ATZ {c a b c' a' b':Rng} (hc:wfR c) (h0:JO c c') (h1:JO a a') (h2:JO b b'):JO (AAM c a b) (AAM c' a' b'):=by
 obtain ⟨p1,p2⟩:=h1
 obtain ⟨q1,q2⟩:=h2
 unfold AAM
 by_cases k:isT c'=true
 ·rw [if_pos k,if_pos (XT h0 k)]; exact ⟨p1,p2⟩
 rw [if_neg k]
 by_cases k2:isF c'=true
 ·have f:=VA hc h0 k2
  have nt : ¬ isT c=true:=fun q=>ABK hc ⟨q,f⟩
  rw [if_pos k2,if_neg nt,if_pos f]; exact ⟨q1,q2⟩
 rw [if_neg k2]
 split
 ·exact ⟨by show min a'.lo b'.lo≤a.lo; omega,by show a.hi≤max a'.hi b'.hi; omega⟩
 split
 ·exact ⟨by show min a'.lo b'.lo≤b.lo; omega,by show b.hi≤max a'.hi b'.hi; omega⟩
 ·exact ⟨by show min a'.lo b'.lo≤min a.lo b.lo; omega,by show max a.hi b.hi≤max a'.hi b'.hi; omega⟩
theorem AV3 (op:Int) {l m:List Rng} (h:SubL l m):JO (opR op l) (opR op m):=by
 obtain ⟨a0,b0,s0⟩:=h.get 0
 obtain ⟨a1,b1,s1⟩:=h.get 1
 obtain ⟨a2,b2,s2⟩:=h.get 2
 unfold opR
 by_cases q:op=4
 ·rw [if_pos q,if_pos q]
  exact UJ (VA a0 s0) (XT s0) fun r=>ABK a0 ⟨r.2,r.1⟩
 rw [if_neg q,if_neg q]; clear q
 by_cases q:op=5
 ·rw [if_pos q,if_pos q]
  obtain ⟨p1,p2⟩:=s0
  exact ⟨by show 65535 - (m.getD 0 IP).hi≤65535 - (l.getD 0 IP).hi; omega,by show 65535 - (l.getD 0 IP).lo≤65535 - (m.getD 0 IP).lo; omega⟩
 rw [if_neg q,if_neg q]; clear q
 by_cases q:op=6
 ·rw [if_pos q,if_pos q]; exact AS0 a0 s0
 rw [if_neg q,if_neg q]; clear q
 by_cases q:op=25
 ·rw [if_pos q,if_pos q]; exact ASR a0 s0
 rw [if_neg q,if_neg q]; clear q
 by_cases q:op=22
 ·rw [if_pos q,if_pos q]; exact ATZ a0 s0 s1 s2
 rw [if_neg q,if_neg q]; clear q
 by_cases q:op=23
 ·rw [if_pos q,if_pos q]; exact ATE a0 s0 h.drop1
 rw [if_neg q,if_neg q]
 exact AQ8 op a0 a1 b0 b1 s0 s1
end Go.Proofs.YtokehnfjjmpanaaGreatDoor.Bd
set_option linter.unusedSimpArgs false
set_option maxRecDepth 8000
namespace Go.Proofs.YtokehnfjjmpanaaGreatDoor.Bd
open Sm Bins Cov Xe Wd Go.RowKit
def AJZ (z:Int):List AV := [.int .u16 z]
structure Cs where
 p:Pr
 e:Ex
 lm:SM
 l:List Rng
 am:SM
 at':List Int
def JQ (c:Cs):List AV:=D8 c.p ++ (CW c.e ++ [.sl c.lm 2 (c.l.map encR),.sl c.am 1 (c.at'.map AJZ)])
theorem Y4 (c:Cs):(JQ c).length=11:=by simp [JQ,GZ,EN]
structure CsS (c:Cs):Prop where
 p:PrS c.p
 e:wt c.e≤1048576
 l:c.l.length≤1048576
 at':c.at'.length≤1048576
 u : ∀ z∈c.at',0≤z∧z≤65535
theorem AJ0 (c:Cs):(JQ c).all AV.leaf=true:=by
 unfold JQ
 rw [List.all_append,List.all_append,KU]
 rfl
theorem AZH (h:Hp) (c:Cs):PG h (.agg (JQ c))=some (.ptr h.length 0 0,h ++ [.live 11 [JQ c]]):=by
 have:=AFT (h:=h) (AJ0 c)
 rw [Y4] at this; exact this
theorem Q3 {H:Hp} {b:Nat} {c:Cs} (hb:H[b]? = some (.live 11 [JQ c])):DL Tryz.prog H 27 (.ptr b 0 0)=some (.agg (D8 c.p)):=by
 rw [HY WX VL hb (row:=JQ c) rfl (by rw [Y4]; omega)]
 have:((JQ c).drop 0).take 5=D8 c.p:=by
  unfold JQ
  rw [List.drop_zero,← GZ c.p,List.take_left]
 rw [this]
theorem ZR {H:Hp} {b:Nat} {c:Cs} (hb:H[b]? = some (.live 11 [JQ c])):DL Tryz.prog H 40 (.ptr b 0 5)=some (.agg (CW c.e)):=by
 rw [HY MK J4 hb (row:=JQ c) rfl (by rw [Y4]; omega)]
 have:((JQ c).drop 5).take 4=CW c.e:=by
  unfold JQ
  rw [← GZ c.p,List.drop_left,← EN c.e,List.take_left]
 rw [this]
theorem AH0 (c:Cs):(JQ c)[9]? = some (.sl c.lm 2 (c.l.map encR))∧(JQ c)[10]? = some (.sl c.am 1 (c.at'.map AJZ)):=by
 unfold JQ
 refine ⟨?_,?_⟩
 ·rw [List.getElem?_append_right (by rw [GZ]; omega),List.getElem?_append_right (by rw [GZ,EN]; omega),GZ,EN]; rfl
 ·rw [List.getElem?_append_right (by rw [GZ]; omega),List.getElem?_append_right (by rw [GZ,EN]; omega),GZ,EN]; rfl
theorem RU {H:Hp} {b:Nat} {c:Cs} (hb:H[b]? = some (.live 11 [JQ c])):DL Tryz.prog H 29 (.ptr b 0 9)=some (.sl c.lm 2 (c.l.map encR)):=by
 rw [DC (by kernel_rfl) hb (row:=JQ c) rfl]; exact (AH0 c).1
theorem ALJ {H:Hp} {b:Nat} {c:Cs} (hb:H[b]? = some (.live 11 [JQ c])):DL Tryz.prog H 41 (.ptr b 0 10)=some (.sl c.am 1 (c.at'.map AJZ)):=by
 rw [DC (by kernel_rfl) hb (row:=JQ c) rfl]; exact (AH0 c).2
theorem AYB {a b:Int} (ha:0≤a) (hb:0 < b):G8 Tryz.prog 3 .rem (.int .i64 a) (.int .i64 b)=some (.int .i64 (a % b)):=by
 rw [VE _ _ _ _ _ (by omega),Int.tmod_eq_emod_of_nonneg ha]
structure LsL (H:Hp) (L:AV) (l cur:List Rng):Prop where
 ok:LOk H L cur
 len:cur.length=l.length
 sub : ∀ (j:Nat) (h1:j < cur.length) (h2:j < l.length),wfR cur[j]∧JO cur[j] l[j]
 own:l≠[]→∃ lb,L = .own lb 0 l.length∧H[lb]? = some (.live 2 (cur.map encR))
theorem LsL.ext {H H':Hp} {L:AV} {l cur:List Rng} (q:LsL H L l cur) (hx:Sm.ext H H'):LsL H' L l cur :=
 ⟨q.ok.ext hx,q.len,q.sub,fun h=>let ⟨lb,e,hb⟩:=q.own h; ⟨lb,e,FP hx hb⟩⟩
section
variable (G:Nat→AV)
end
end Go.Proofs.YtokehnfjjmpanaaGreatDoor.Bd
