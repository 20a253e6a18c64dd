/- Part 11 of the proof (R1, R2, R3, R4, R5, R6, R7, R8, R9); no condition. -/
import Derived.Test.YtocilianjfhifaaGreatDoorV10
set_option linter.unusedVariables false
/- Rankings: what Greedy, Gains, Unique and Least compute, and what holds of it; plain facts; no condition. -/
namespace Go.Proofs.YtocilianjfhifaaGreatDoor.Rk
open Go Go.Proofs Go.Proofs.YtocilianjfhifaaGreatDoor.Sm Go.Proofs.YtocilianjfhifaaGreatDoor.Bins Go.Proofs.YtocilianjfhifaaGreatDoor.Cov Go.RowKit

section
variable {γ:Type} (gs:List γ) (P:Nat→γ→Bool)
/-- is a goal reached by some of these? -/
def cov (out:List Nat) (x:γ):Bool:=out.any fun i=>P i x
/-- how many goals are reached in addition -/
def gain (out:List Nat) (i:Nat):Nat:=gs.countP fun x=>P i x && !cov P out x
theorem AL6 (a b:List Nat) (x:γ):cov P (a ++ b) x=(cov P a x || cov P b x):=by unfold cov; rw [List.any_append]
theorem AL5 (a:Nat) (x:γ):cov P [a] x=P a x:=by simp [cov]
theorem VY {a b:List Nat} (h : ∀ i∈a,i∈b) {x:γ} (hx:cov P a x=true):cov P b x=true:=by
 unfold cov at *
 rw [List.any_eq_true] at *
 obtain ⟨i,hi,hp⟩:=hx
 exact ⟨i,h i hi,hp⟩
theorem WP {a b:List Nat} (h : ∀ i∈a,i∈b) (i:Nat):gain gs P b i≤gain gs P a i:=by
 unfold gain
 refine List.countP_mono_left fun x _ hx => ?_
 simp only [Bool.and_eq_true,Bool.not_eq_true'] at *
 refine ⟨hx.1,?_⟩
 cases hc:cov P a x with
 | false=>rfl
 | true=>rw [VY P h hc] at hx; cases hx.2
theorem AEJ {a:List Nat} {i:Nat} (h:i∈a):gain gs P a i=0:=by
 unfold gain
 rw [List.countP_eq_zero]
 intro x _ hx
 simp only [Bool.and_eq_true,Bool.not_eq_true'] at hx
 have:cov P a x=true:=by
  unfold cov; rw [List.any_eq_true]; exact ⟨i,h,hx.1⟩
 rw [this] at hx; cases hx.2
theorem APY (a:List Nat) (i:Nat):gs.countP (cov P (a ++ [i]))=gs.countP (cov P a)+gain gs P a i:=by
 unfold gain
 rw [← ANZ]
 exact List.countP_congr fun x _=>by rw [AL6,AL5]
theorem WO {a:List Nat} {i:Nat} (h:gain gs P a i=0) {x:γ} (hx:x∈gs) (hp:P i x=true):cov P a x=true:=by
 unfold gain at h
 rw [List.countP_eq_zero] at h
 have:=h x hx
 simp only [Bool.and_eq_true,Bool.not_eq_true',not_and,Bool.not_eq_false] at this
 exact this hp
/- the index of the first greatest number -/
def IJ (f:Nat→Nat):Nat→Nat
 | 0=>0
 | i+1=>if f i > f (IJ f i) then i else IJ f i
theorem OQ (f:Nat→Nat) : ∀ n,0 < n→IJ f n < n
 | 0,h=>absurd h (by omega)
 | n+1,_=>by
   unfold IJ
   split
   ·omega
   ·rcases Nat.eq_zero_or_pos n with rfl | hn
    ·exact Nat.zero_lt_one
    ·have:=OQ f n hn; omega
theorem TT (f:Nat→Nat) : ∀ n i,i < n→f i≤f (IJ f n)
 | 0,_,h=>absurd h (by omega)
 | n+1,i,h=>by
   unfold IJ
   split
   ·rename_i hg
    rcases Nat.lt_or_ge i n with hi | hi
    ·have:=TT f n i hi; omega
    ·obtain rfl:i=n:=by omega
     exact Nat.le_refl _
   ·rename_i hg
    rcases Nat.lt_or_ge i n with hi | hi
    ·exact TT f n i hi
    ·obtain rfl:i=n:=by omega
     omega
/-- the reference's way: the greatest so far, none at 0 -/
def L6 (f:Nat→Nat):Nat→Int × Nat
 | 0=>(-1,0)
 | i+1=>if f i > (L6 f i).2 then ((i:Int),f i) else L6 f i
theorem AH3 (f:Nat→Nat) : ∀ n,(L6 f n).2=(if n=0 then 0 else f (IJ f n))∧(L6 f n).1=(if (L6 f n).2=0 then -1 else (IJ f n:Int))
 | 0=>⟨rfl,rfl⟩
 | n+1=>by
   obtain ⟨h1,h2⟩:=AH3 f n
   rw [if_neg (by omega)]
   by_cases hn:n=0
   ·subst hn
    simp only [L6,IJ,Nat.lt_irrefl,gt_iff_lt,if_false]
    split
    ·rename_i hp
     exact ⟨rfl,by simp; omega⟩
    ·rename_i hp
     exact ⟨by simp; omega,rfl⟩
   ·rw [if_neg hn] at h1
    unfold L6 IJ
    rw [h1]
    split
    ·rename_i hg
     refine ⟨rfl,?_⟩
     simp only
     rw [if_neg (by omega)]
    ·exact ⟨h1,h2⟩
variable (n:Nat)
/-- the rounds of Greedy -/
def KR:Nat→List Nat→List Nat
 | 0,out=>out
 | f+1,out=>if n=0∨gain gs P out (IJ (gain gs P out) n)=0 then out else KR f (out ++ [IJ (gain gs P out) n])
def cnt (out:List Nat):Nat:=(List.range n).countP fun i=>decide (0 < gain gs P out i)
theorem ADG {α:Type} (p q:α→Bool) : ∀ (xs:List α),(∀ x∈xs,q x=true→p x=true)→∀ a∈xs,p a=true→q a=false→xs.countP q+1≤xs.countP p
 | [],_,_,h,_,_=>by cases h
 | y :: ys,hm,a,ha,hp,hq=>by
   simp only [List.countP_cons]
   have hmono:ys.countP q≤ys.countP p:=List.countP_mono_left fun x hx=>hm x (by simp [hx])
   rcases List.mem_cons.1 ha with rfl | ha'
   ·rw [hp,hq]; simp; omega
   ·have ih:=ADG p q ys (fun x hx=>hm x (by simp [hx])) a ha' hp hq
    have:=hm y (by simp)
    cases h1:q y
    ·simp; omega
    ·rw [this h1]; simp; omega
theorem cnt_lt {out:List Nat} {a:Nat} (ha:a < n) (hg:gain gs P out a≠0):cnt gs P n (out ++ [a])+1≤cnt gs P n out:=by
 unfold cnt
 refine ADG _ _ _ (fun i _ hi => ?_) a (by simpa using ha) (by simp; omega) ?_
 ·simp only [decide_eq_true_eq] at *
  have:=WP gs P (a:=out) (b:=out ++ [a]) (fun i hi=>by simp [hi]) i
  omega
 ·rw [AEJ gs P (by simp)]; rfl
theorem AQT (out:List Nat):cnt gs P n out≤n:=by
 unfold cnt
 exact Nat.le_trans (List.countP_le_length) (by simp)
theorem AQS {out:List Nat} (h:cnt gs P n out=0) {i:Nat} (hi:i < n):gain gs P out i=0:=by
 unfold cnt at h
 rw [List.countP_eq_zero] at h
 have:=h i (by simpa using hi)
 simp at this; exact this
/-- when Greedy ends nothing is gained any more -/
theorem AAC : ∀ (f:Nat) (out:List Nat),cnt gs P n out≤f→∀ i,i < n→gain gs P (KR gs P n f out) i=0
 | 0,out,h,i,hi=>by unfold KR; exact AQS gs P n (by omega) hi
 | f+1,out,h,i,hi=>by
   unfold KR
   split
   ·rename_i hz
    rcases hz with hz | hz
    ·omega
    ·have:=TT (gain gs P out) n i hi; omega
   ·rename_i hz
    have hn:0 < n:=by omega
    have hz2:gain gs P out (IJ (gain gs P out) n)≠0:=fun e=>hz (.inr e)
    have:=cnt_lt gs P n (OQ _ n hn) hz2
    exact AAC f _ (by omega) i hi
/-- Greedy at its end stays -/
theorem AGZ {out:List Nat} (h:n=0∨gain gs P out (IJ (gain gs P out) n)=0) : ∀ f,KR gs P n f out=out
 | 0=>rfl
 | f+1=>by unfold KR; rw [if_pos h]
/-- the gains of a list of indices, one after the other -/
def gains (o:List Nat):List Nat:=(List.range o.length).map fun k=>gain gs P (o.take k) (o.getD k 0)
theorem AC0 (o:List Nat) (a:Nat):gains gs P (o ++ [a])=gains gs P o ++ [gain gs P o a]:=by
 unfold gains
 rw [List.length_append,List.length_singleton,List.range_succ,List.map_append,List.map_singleton]
 congr 1
 ·refine List.map_congr_left fun k hk => ?_
  have hk':k < o.length:=by simpa using hk
  rw [List.take_append_of_le_length (by omega)]
  congr 1
  simp only [List.getD_eq_getElem?_getD,List.getElem?_append_left hk']
 ·congr 2
  ·rw [List.take_left]
  ·simp [List.getD_eq_getElem?_getD]
def M4 (l:List Nat):Nat:=l.foldl (·+·) 0
theorem AFT (l:List Nat) (a:Nat):M4 (l ++ [a])=M4 l+a:=by unfold M4; rw [List.foldl_append]; rfl
theorem ACY (o:List Nat):M4 (gains gs P o)=gs.countP (cov P o):=by
 suffices h : ∀ k,k≤o.length→M4 (gains gs P (o.take k))=gs.countP (cov P (o.take k)) by
  have:=h o.length (Nat.le_refl _)
  rwa [List.take_length] at this
 intro k
 induction k with
 | zero =>
   intro _
   rw [List.take_zero]
   have:gs.countP (cov P [])=0:=by rw [List.countP_eq_zero]; intro x _ hx; cases hx
   rw [this]; rfl
 | succ k ih =>
   intro hk
   have hk':k < o.length:=by omega
   rw [List.take_succ_eq_append_getElem hk',AC0,AFT,ih (by omega),APY]
/-- all indices cover what some cover -/
theorem ATQ {a:List Nat} (ha : ∀ i∈a,i < n) (hz : ∀ i,i < n→gain gs P a i=0):gs.countP (cov P a)=gs.countP (cov P (List.range n)):=by
 refine List.countP_congr fun x hx => ?_
 constructor
 ·exact VY P fun i hi=>by simpa using ha i hi
 ·intro h
  unfold cov at h
  rw [List.any_eq_true] at h
  obtain ⟨i,hi,hp⟩:=h
  exact WO gs P (hz i (by simpa using hi)) hx hp
/-- the gains of Greedy: positive, and they do not rise -/
structure Falls (o:List Nat):Prop where
 pos : ∀ k,k < o.length→1≤gain gs P (o.take k) (o.getD k 0)
 fall : ∀ k,k+1 < o.length→gain gs P (o.take (k+1)) (o.getD (k+1) 0)≤gain gs P (o.take k) (o.getD k 0)
 top : ∀ k,k < o.length→∀ i,i < n→gain gs P (o.take k) i≤gain gs P (o.take k) (o.getD k 0)
 lt : ∀ i∈o,i < n
 nodup:o.Nodup
theorem QH {o:List Nat} {a k:Nat} (h:k < o.length):(o ++ [a]).getD k 0=o.getD k 0:=by
 simp only [List.getD_eq_getElem?_getD,List.getElem?_append_left h]
theorem WN (o:List Nat) (a:Nat):(o ++ [a]).getD o.length 0=a:=by simp [List.getD_eq_getElem?_getD]
theorem take_left' {o:List Nat} {a k:Nat} (h:k≤o.length):(o ++ [a]).take k=o.take k:=List.take_append_of_le_length h
theorem Falls.snoc {o:List Nat} (F:Falls gs P n o) {a:Nat} (ha:a < n) (hp:gain gs P o a≠0) (ht : ∀ i,i < n→gain gs P o i≤gain gs P o a):Falls gs P n (o ++ [a]):=by
 have hlen:(o ++ [a]).length=o.length+1:=by simp
 have htl:(o ++ [a]).take o.length=o:=by rw [take_left' (Nat.le_refl _),List.take_length]
 refine ⟨fun k hk => ?_,fun k hk => ?_,fun k hk i hi => ?_,fun i hi => ?_,?_⟩
 ·rcases Nat.lt_or_ge k o.length with h | h
  ·rw [take_left' (by omega),QH h]; exact F.pos k h
  ·obtain rfl:k=o.length:=by omega
   rw [htl,WN]; omega
 ·rcases Nat.lt_or_ge (k+1) o.length with h | h
  ·rw [take_left' (by omega),take_left' (by omega),QH h,QH (by omega)]; exact F.fall k h
  ·have e:k+1=o.length:=by omega
   rw [e,htl,WN,take_left' (by omega),QH (by omega)]
   have h1:=F.top k (by omega) a ha
   have h2:=WP gs P (a:=o.take k) (b:=o) (fun i hi=>List.mem_of_mem_take hi) a
   omega
 ·rcases Nat.lt_or_ge k o.length with h | h
  ·rw [take_left' (by omega),QH h]; exact F.top k h i hi
  ·obtain rfl:k=o.length:=by omega
   rw [htl,WN]; exact ht i hi
 ·rcases List.mem_append.1 hi with h | h
  ·exact F.lt i h
  ·simp at h; subst h; exact ha
 ·rw [List.nodup_append]
  refine ⟨F.nodup,by simp,fun x hx y hy e => ?_⟩
  simp at hy; subst hy; subst e
  exact hp (AEJ gs P hx)
theorem Falls.nil:Falls gs P n []:=⟨fun k h=>by simp at h,fun k h=>by simp at h,fun k h=>by simp at h,fun i h=>(by cases h),List.nodup_nil⟩
theorem Q8 : ∀ (f:Nat) (out:List Nat),Falls gs P n out→Falls gs P n (KR gs P n f out)
 | 0,out,h=>h
 | f+1,out,h=>by
   unfold KR
   split
   ·exact h
   ·rename_i hz
    have hn:0 < n:=by omega
    exact Q8 f _ (h.snoc gs P n (OQ _ n hn) (fun e=>hz (.inr e)) (TT _ n))
/- the shortest list -/
def full (x:γ):Bool:=cov P (List.range n) x
/-- is everything reached? -/
def SX (o:List Nat):Bool:=gs.countP (fun x=>full P n x && !cov P o x) == 0
theorem NS (o:List Nat):SX gs P n o=true↔∀ i,i < n→gain gs P o i=0:=by
 unfold SX full
 rw [beq_iff_eq,List.countP_eq_zero]
 constructor
 ·intro h i hi
  unfold gain
  rw [List.countP_eq_zero]
  intro x hx hp
  refine h x hx ?_
  simp only [Bool.and_eq_true] at *
  refine ⟨?_,hp.2⟩
  unfold cov; rw [List.any_eq_true]
  exact ⟨i,by simpa using hi,hp.1⟩
 ·intro h x hx hp
  simp only [Bool.and_eq_true,Bool.not_eq_true'] at hp
  obtain ⟨h1,h2⟩:=hp
  unfold cov at h1
  rw [List.any_eq_true] at h1
  obtain ⟨i,hi,hpi⟩:=h1
  have:=WO gs P (h i (by simpa using hi)) hx hpi
  rw [this] at h2; cases h2
/-- the first index from i on, of r, at which something is found -/
def OV {β:Type} (f:Nat→Option β):Nat→Nat→Option β
 | _,0=>none
 | i,r+1=>match f i with
   | some x=>some x
   | none=>OV f (i+1) r
theorem TF {β:Type} {f:Nat→Option β} {x:β} : ∀ {r i:Nat},OV f i r=some x→∃ j,i≤j∧j < i+r∧f j=some x∧∀ j',i≤j'→j' < j→f j'=none
 | 0,_,h=>by cases h
 | r+1,i,h=>by
   unfold OV at h
   split at h
   ·rename_i y hy
    cases h
    exact ⟨i,Nat.le_refl _,by omega,hy,fun j' h1 h2=>by omega⟩
   ·rename_i hn
    obtain ⟨j,h1,h2,h3,h4⟩:=TF h
    refine ⟨j,by omega,by omega,h3,fun j' p1 p2 => ?_⟩
    rcases Nat.eq_or_lt_of_le p1 with e | p1
    ·subst e; exact hn
    ·exact h4 j' p1 p2
theorem ZA {β:Type} {f:Nat→Option β} : ∀ {r i j:Nat},i≤j→j < i+r→f j≠none→OV f i r≠none
 | 0,_,_,h1,h2,_=>by omega
 | r+1,i,j,h1,h2,h3=>by
   unfold OV
   split
   ·simp
   ·rename_i hn
    rcases Nat.eq_or_lt_of_le h1 with e | h1
    ·subst e; exact absurd hn h3
    ·exact ZA h1 (by omega) h3
/-- the first list of k further indices from i on that reaches everything -/
def choose:Nat→List Nat→Nat→Option (List Nat)
 | 0,o,_=>if SX gs P n o=true then some o else none
 | k+1,o,i=>OV (fun j=>choose k (o ++ [j]) (j+1)) i (n - i)
theorem SQ : ∀ {k:Nat} {o x:List Nat} {i:Nat},choose gs P n k o i=some x→SX gs P n x=true∧x.length=o.length+k∧((∀ j∈o,j < n)→∀ j∈x,j < n)
 | 0,o,x,i,h=>by
   unfold choose at h
   split at h
   ·rename_i hb; cases h; exact ⟨hb,rfl,fun h=>h⟩
   ·cases h
 | k+1,o,x,i,h=>by
   unfold choose at h
   obtain ⟨j,h1,h2,h3,_⟩:=TF h
   obtain ⟨q1,q2,q3⟩:=SQ h3
   refine ⟨q1,by rw [q2]; simp; omega,fun ho=>q3 fun y hy => ?_⟩
   rcases List.mem_append.1 hy with hy | hy
   ·exact ho y hy
   ·simp at hy; omega
theorem U0 : ∀ {k:Nat} {o l:List Nat} {i:Nat},l.length=k→l.Pairwise (· < ·)→(∀ j∈l,i≤j∧j < n)→SX gs P n (o ++ l)=true→choose gs P n k o i≠none
 | 0,o,l,i,hl,_,_,hb=>by
   have:l = []:=List.eq_nil_of_length_eq_zero hl
   subst this
   rw [List.append_nil] at hb
   unfold choose
   rw [if_pos hb]; simp
 | k+1,o,[],i,hl,_,_,_=>by simp at hl
 | k+1,o,j :: l,i,hl,hp,hr,hb=>by
   unfold choose
   have hj:=hr j (by simp)
   refine ZA (j:=j) hj.1 (by omega) ?_
   rw [List.pairwise_cons] at hp
   refine U0 (l:=l) (by simpa using hl) hp.2 (fun y hy => ?_) (by rw [List.append_assoc]; exact hb)
   have:=hp.1 y hy
   exact ⟨by omega,(hr y (by simp [hy])).2⟩
def least:Option (List Nat):=OV (fun k=>choose gs P n k [] 0) 0 (n+1)
theorem ACM:SX gs P n (List.range n)=true:=(NS gs P n _).2 fun i hi=>AEJ gs P (by simpa using hi)
theorem Z6:least gs P n≠none:=by
 refine ZA (j:=n) (Nat.zero_le _) (by omega) ?_
 exact U0 gs P n (l:=List.range n) (by simp) List.pairwise_lt_range (fun j hj=>⟨Nat.zero_le _,by simpa using hj⟩) (by rw [List.nil_append]; exact ACM gs P n)
theorem least_some {x:List Nat} (h:least gs P n=some x):SX gs P n x=true∧∀ j∈x,j < n:=by
 obtain ⟨k,_,_,h3,_⟩:=TF h
 obtain ⟨q1,_,q3⟩:=SQ gs P n h3
 exact ⟨q1,q3 fun j hj=>by cases hj⟩
theorem WI {α:Type} [DecidableEq α] : ∀ {a b:List α},a.Nodup→(∀ x∈a,x∈b)→a.length≤b.length
 | [],_,_,_=>Nat.zero_le _
 | x :: a,b,hn,hs=>by
   rw [List.nodup_cons] at hn
   have hx:=hs x (by simp)
   have ih:=WI (a:=a) (b:=b.erase x) hn.2 fun y hy=>(List.mem_erase_of_ne (fun e=>by subst e; exact hn.1 hy)).2 (hs y (by simp [hy]))
   rw [List.length_erase_of_mem hx] at ih
   have:0 < b.length:=List.length_pos_of_mem hx
   simp; omega
theorem AGP {x o:List Nat} (h:least gs P n=some x) (ho : ∀ i∈o,i < n) (hb:SX gs P n o=true):x.length≤o.length:=by
 obtain ⟨k,_,hk,h3,h4⟩:=TF h
 obtain ⟨_,q2,_⟩:=SQ gs P n h3
 have hsub : ∀ i,i∈(List.range n).filter (fun i=>decide (i∈o))↔i∈o:=fun i=>by
  rw [List.mem_filter]
  simp only [List.mem_range,decide_eq_true_eq]
  exact ⟨fun h=>h.2,fun h=>⟨ho i h,h⟩⟩
 have hl:((List.range n).filter fun i=>decide (i∈o)).length≤o.length:=WI (List.nodup_range.filter _) fun i hi=>(hsub i).1 hi
 have hn:((List.range n).filter fun i=>decide (i∈o)).length≤n:=Nat.le_trans (List.length_filter_le _ _) (by simp)
 have hne:choose gs P n ((List.range n).filter fun i=>decide (i∈o)).length [] 0≠none:=by
  refine U0 gs P n rfl (List.pairwise_lt_range.filter _) (fun j hj=>⟨Nat.zero_le _,ho j ((hsub j).1 hj)⟩) ?_
  rw [List.nil_append,NS]
  rw [NS] at hb
  intro i hi
  have h1:=hb i hi
  have h2:=WP gs P (a:=o) (b:=(List.range n).filter fun i=>decide (i∈o)) (fun i hi=>(hsub i).2 hi) i
  omega
 have:k≤((List.range n).filter fun i=>decide (i∈o)).length:=by
  rcases Nat.lt_or_ge ((List.range n).filter fun i=>decide (i∈o)).length k with hlt | hge
  ·exact absurd (h4 _ (Nat.zero_le _) hlt) hne
  ·exact hge
 simp at q2
 omega
/- needed -/
def others (i:Nat):List Nat:=(List.range n).filter fun k=>k != i
def uniq (i:Nat):Nat:=gain gs P (others n i) i
def needed:List Nat:=(List.range n).filter fun i=>decide (0 < uniq gs P n i)
theorem AFL {o:List Nat} (ho : ∀ i∈o,i < n) (hb:SX gs P n o=true) {i:Nat} (hi:i < n) (hu:0 < uniq gs P n i):i∈o:=by
 unfold uniq gain at hu
 obtain ⟨x,hx,hp⟩:=List.countP_pos_iff.1 hu
 simp only [Bool.and_eq_true,Bool.not_eq_true'] at hp
 have hc:=WO gs P ((NS gs P n o).1 hb i hi) hx hp.1
 unfold cov at hc
 rw [List.any_eq_true] at hc
 obtain ⟨j,hj,hpj⟩:=hc
 rcases Nat.decEq j i with hne | e
 ·exfalso
  have:cov P (others n i) x=true:=by
   unfold cov; rw [List.any_eq_true]
   refine ⟨j,?_,hpj⟩
   unfold others
   rw [List.mem_filter]
   exact ⟨by simpa using ho j hj,by simpa using hne⟩
  rw [this] at hp; cases hp.2
 ·subst e; exact hj
end
end Go.Proofs.YtocilianjfhifaaGreatDoor.Rk
/- Goals differ from one another; what coverages reach, as a ranking sees it; plain facts; no condition. -/
namespace Go.Proofs.YtocilianjfhifaaGreatDoor.Rk
open Go Go.Proofs Go.Proofs.YtocilianjfhifaaGreatDoor.Sm Go.Proofs.YtocilianjfhifaaGreatDoor.Bins Go.Proofs.YtocilianjfhifaaGreatDoor.Cov Go.RowKit

theorem AFQ : ∀ {ns:List Nat} {k k':Nat},tupF ns k=tupF ns k'→k=k'
 | [],k,k',h=>by simpa [tupF] using h
 | n :: ns,k,k',h=>by
   simp only [tupF,Prod.mk.injEq,List.cons.injEq] at h
   obtain ⟨⟨h1,h2⟩,h3⟩:=h
   refine AFQ (ns:=ns) (Prod.ext h2 ?_)
   rw [← Nat.div_add_mod (tupF ns k).2 n,← Nat.div_add_mod (tupF ns k').2 n,h1,h3]
theorem ANK (ns:List Nat) : ∀ a,ns.foldl (· * ·) a=a * ns.foldl (· * ·) 1:=by
 induction ns with
 | nil=>intro a; simp
 | cons n ns ih=>intro a; simp only [List.foldl_cons]; rw [ih (a * n),ih (1 * n)]; simp [Nat.mul_assoc]
theorem Y9 : ∀ (ns:List Nat) (k:Nat),(tupF ns k).2=k / FM ns
 | [],k=>by simp [tupF,FM]
 | n :: ns,k=>by
   show (tupF ns k).2 / n=_
   rw [Y9 ns k,Nat.div_div_eq_div_mul]
   congr 1
   unfold FM
   rw [List.foldl_cons,ANK ns (1 * n),Nat.one_mul,Nat.mul_comm]
theorem AOT {ns:List Nat} {k k':Nat} (hk:k < FM ns) (hk':k' < FM ns) (h:L9 ns k=L9 ns k'):k=k':=by
 unfold L9 at h
 have h1:(tupF ns k).1=(tupF ns k').1:=(List.map_inj_right (f:=fun n:Nat=>(n:Int)) (fun (a b:Nat) (e:(a:Int)=(b:Int))=>by omega)).1 h
 exact AFQ (Prod.ext h1 (by rw [Y9,Y9,Nat.div_eq_of_lt hk,Nat.div_eq_of_lt hk']))
/-- what a goal is -/
def ADT (m:Mo) (g:Gl):Prop:=(g.cross=false∧g.bins = [(g.at_:Int)])∨(g.cross=true∧∃ c,m.crs[g.idx]? = some c∧g.bins=L9 (szs m c.pts) g.at_∧g.at_ < FM (szs m c.pts))
/-- two goals at different places -/
def Apart (a b:Gl):Prop := ¬ (a.cross=b.cross∧a.idx=b.idx∧a.at_=b.at_)
theorem apart_eq {m:Mo} {a b:Gl} (ha:ADT m a) (hb:ADT m b) (h:Apart a b):eqG a b=false:=by
 rw [← Bool.not_eq_true]
 intro e
 unfold eqG eqL at e
 simp only [Bool.and_eq_true,beq_iff_eq,decide_eq_true_eq] at e
 obtain ⟨⟨e1,e2⟩,e3⟩:=e
 refine h ⟨e1,by omega,?_⟩
 rcases ha with ⟨a1,a2⟩ | ⟨a1,c,a2,a3,a4⟩ <;> rcases hb with ⟨b1,b2⟩ | ⟨b1,d,b2,b3,b4⟩
 ·rw [a2,b2] at e3
  simp at e3; omega
 ·rw [a1,b1] at e1; cases e1
 ·rw [a1,b1] at e1; cases e1
 ·rw [show a.idx=b.idx by omega,b2] at a2
  cases a2
  rw [a3,b3] at e3
  exact AOT a4 b4 e3
theorem ALO (m:Mo) {i:Nat} {p:Pt} : ∀ {k:Nat} {g:Gl},g∈gPk i p k→ADT m g
 | 0,g,h=>by cases h
 | k+1,g,h=>by
   simp only [gPk,List.mem_append] at h
   rcases h with h | h
   ·exact ALO m h
   ·split at h
    ·simp at h; subst h; exact .inl ⟨rfl,rfl⟩
    ·cases h
theorem ALP {m:Mo} {i:Nat} {c:Cr} (hc:m.crs[i]? = some c) : ∀ {k:Nat} {g:Gl},k≤FM (szs m c.pts)→g∈gCk m i c k→ADT m g
 | 0,g,_,h=>by cases h
 | k+1,g,hk,h=>by
   simp only [gCk,List.mem_append] at h
   rcases h with h | h
   ·exact ALP hc (by omega) h
   ·split at h
    ·simp at h; subst h; exact .inr ⟨rfl,c,hc,rfl,by show k < _; omega⟩
    ·cases h
theorem AP1 {m:Mo} : ∀ {i:Nat} {g:Gl},g∈gP m i→ADT m g
 | 0,g,h=>by cases h
 | i+1,g,h=>by
   simp only [gP,List.mem_append] at h
   rcases h with h | h
   ·exact AP1 h
   ·split at h
    ·exact ALO m h
    ·cases h
theorem AJM {m:Mo} : ∀ {i:Nat} {g:Gl},g∈gC m i→ADT m g
 | 0,g,h=>AP1 h
 | i+1,g,h=>by
   simp only [gC,List.mem_append] at h
   rcases h with h | h
   ·exact AJM h
   ·split at h
    ·rename_i c hc; exact ALP hc (Nat.le_refl _) h
    ·cases h
theorem AP0 {m:Mo} : ∀ {i:Nat} {g:Gl},g∈gP m i→g.cross=false∧g.idx < i
 | 0,g,h=>by cases h
 | i+1,g,h=>by
   simp only [gP,List.mem_append] at h
   rcases h with h | h
   ·have:=AP0 h; exact ⟨this.1,by omega⟩
   ·split at h
    ·have:=AAI h; exact ⟨this.1,by omega⟩
    ·cases h
theorem AUV {m:Mo} : ∀ {i:Nat} {g:Gl},g∈gC m i→g.cross=true→g.idx < i
 | 0,g,h,hc=>by have:=AP0 h; rw [this.1] at hc; cases hc
 | i+1,g,h,hc=>by
   simp only [gC,List.mem_append] at h
   rcases h with h | h
   ·have:=AUV h hc; omega
   ·split at h
    ·have:=AAJ h; omega
    ·cases h
theorem AC1 (i:Nat) (p:Pt) : ∀ k,(gPk i p k).Pairwise Apart
 | 0=>List.Pairwise.nil
 | k+1=>by
   simp only [gPk]
   rw [List.pairwise_append]
   refine ⟨AC1 i p k,by split <;> simp,fun a ha b hb e => ?_⟩
   have h1:=AAI ha
   split at hb
   ·simp at hb; subst hb
    have:a.at_=k:=e.2.2
    omega
   ·cases hb
theorem AG2 (m:Mo) : ∀ i,(gP m i).Pairwise Apart
 | 0=>List.Pairwise.nil
 | i+1=>by
   simp only [gP]
   rw [List.pairwise_append]
   refine ⟨AG2 m i,by split; exact AC1 _ _ _; exact List.Pairwise.nil,fun a ha b hb e => ?_⟩
   have h1:=AP0 ha
   split at hb
   ·have h2:=AAI hb
    have:=e.2.1
    omega
   ·cases hb
theorem AC2 (m:Mo) (i:Nat) (c:Cr) : ∀ k,(gCk m i c k).Pairwise Apart
 | 0=>List.Pairwise.nil
 | k+1=>by
   simp only [gCk]
   rw [List.pairwise_append]
   refine ⟨AC2 m i c k,by split <;> simp,fun a ha b hb e => ?_⟩
   have h1:=AAJ ha
   split at hb
   ·simp at hb; subst hb
    have:a.at_=k:=e.2.2
    omega
   ·cases hb
theorem AG3 (m:Mo) : ∀ i,(gC m i).Pairwise Apart
 | 0=>AG2 m _
 | i+1=>by
   simp only [gC]
   rw [List.pairwise_append]
   refine ⟨AG3 m i,by split; exact AC2 _ _ _ _; exact List.Pairwise.nil,fun a ha b hb e => ?_⟩
   split at hb
   ·have h2:=AAJ hb
    have h3:=AUV ha (by rw [e.1]; exact h2.1)
    have:=e.2.1
    omega
   ·cases hb
/-- goals differ -/
theorem AEH (m:Mo):(goals m).Pairwise fun a b=>eqG a b=false :=
 List.Pairwise.imp_of_mem (fun ha hb h=>apart_eq (AJM ha) (AJM hb) h) (AG3 m _)
theorem AQE (g:Gl):eqG g g=true:=by unfold eqG eqL; simp

/- what coverages reach -/
def hit (v:Cvr) (g:Gl):Bool:=decide (F8 v g > 0)
/-- by number -/
def hits (l:List Cvr) (i:Nat) (g:Gl):Bool:=match l[i]? with
 | some v=>hit v g
 | none=>false
theorem YP {l:List Cvr} {i:Nat} (hi:i < l.length) (g:Gl):hits l i g=hit l[i] g:=by unfold hits; rw [List.getElem?_eq_getElem hi]
theorem AQV {α:Type} (f:α→Nat) (ws:List α) (i k:Nat):cellAt (ws.map fun a=>zIs (f a)) i k=0:=by
 unfold cellAt
 rw [List.getElem?_map]
 cases ws[i]? with
 | none=>rfl
 | some a =>
   simp only [Option.map_some,zIs,zeros]
   cases h:(List.replicate (f a) (0:Int))[k]? with
   | none=>rfl
   | some z =>
     have:=List.mem_of_getElem? h
     rw [List.mem_replicate] at this
     simp [this.2]
theorem AL7 (m:Mo) (g:Gl):F8 (JG m) g=0:=by
 unfold F8 JG zPs zCs
 split
 ·exact AQV (fun c:Cr=>FM (szs m c.pts)) m.crs _ _
 ·exact AQV (fun p:Pt=>p.bins.length) m.pts _ _
/-- the coverages with some numbers -/
def sel (l:List Cvr) (o:List Nat):List Cvr:=o.map fun i=>l.getD i zV
theorem AF1 {m:Mo} {l:List Cvr} (hl : ∀ v∈l,E9 m v=true) {o:List Nat} (ho : ∀ i∈o,i < l.length) : ∀ v∈sel l o,E9 m v=true:=by
 intro v hv
 obtain ⟨i,hi,rfl⟩:=List.mem_map.1 hv
 have:=ho i hi
 simp only [List.getD_eq_getElem?_getD,List.getElem?_eq_getElem this,Option.getD_some]
 exact hl _ (List.getElem_mem this)
/-- what is reached together -/
theorem AGY {m:Mo} {l:List Cvr} (hl : ∀ v∈l,E9 m v=true) : ∀ (o:List Nat) (c:Cvr),(∀ i∈o,i < l.length)→E9 m c=true→∀ g∈goals m,hit ((sel l o).foldl ND c) g=(hit c g || cov (hits l) o g)
 | [],c,_,_,g,_=>by simp [sel,cov]
 | i :: o,c,ho,hc,g,hg=>by
   have hi:=ho i (by simp)
   have hli:E9 m l[i]=true:=hl _ (List.getElem_mem hi)
   have e:l.getD i zV=l[i]:=by simp only [List.getD_eq_getElem?_getD,List.getElem?_eq_getElem hi,Option.getD_some]
   have ih:=AGY hl o (ND c l[i]) (fun j hj=>ho j (by simp [hj])) (AC5 hc hli) g hg
   simp only [sel,List.map_cons,List.foldl_cons,e] at ih ⊢
   rw [ih]
   have h1:hit (ND c l[i]) g=(hit c g || hit l[i] g):=AQR hc hli (AA0 _ _) hg
   rw [h1]
   simp only [cov,List.any_cons,YP hi,Bool.or_assoc]
theorem ALM {m:Mo} {l:List Cvr} (hm:FH m=0) (hl : ∀ v∈l,E9 m v=true) {o:List Nat} (ho : ∀ i∈o,i < l.length) {g:Gl} (hg:g∈goals m):hit (LF m (sel l o)) g=cov (hits l) o g:=by
 have hz:NV m (sel l o)=0:=OT.2 ⟨hm,AF1 hl ho⟩
 unfold LF ARA
 rw [if_pos hz,AGY hl o _ ho (MI hm) g hg]
 have:hit (JG m) g=false:=by unfold hit; rw [AL7]; rfl
 rw [this,Bool.false_or]
theorem QQ {m:Mo} {l:List Cvr} (hm:FH m=0) (hl : ∀ v∈l,E9 m v=true) {o:List Nat} (ho : ∀ i∈o,i < l.length):E9 m (LF m (sel l o))=true:=ADL (OT.2 ⟨hm,AF1 hl ho⟩)
/-- the reference's gain is the ranking's -/
theorem YR {m:Mo} {l:List Cvr} (hm:FH m=0) (hl : ∀ v∈l,E9 m v=true) {o:List Nat} (ho : ∀ i∈o,i < l.length) {i:Nat} (hi:i < l.length):UC m (LF m (sel l o)) l[i]=gain (goals m) (hits l) o i:=by
 unfold UC gain
 rw [if_pos ⟨QQ hm hl ho,hl _ (List.getElem_mem hi)⟩]
 refine List.countP_congr fun g hg => ?_
 have h1:=ALM hm hl ho hg
 unfold QJ
 unfold hit at h1
 rw [h1,YP hi]
 rfl
theorem VB {m:Mo} {l:List Cvr} (hm:FH m=0) (hl : ∀ v∈l,E9 m v=true) {o:List Nat} (ho : ∀ i∈o,i < l.length):PZ m (LF m (sel l o))=(goals m).countP (cov (hits l) o):=by
 unfold PZ
 rw [if_pos (QQ hm hl ho)]
 refine List.countP_congr fun g hg => ?_
 have h1:=ALM hm hl ho hg
 unfold hit at h1
 rw [h1]
/-- a row of truth values -/
def FU (b:Bool):List AV := [.bool b]
theorem AXU:Frz FU:=fun _ _ _ _=>⟨rfl,rfl⟩
/-- which goals are reached -/
def row (m:Mo) (v:Cvr):List Bool:=(goals m).map (hit v)
theorem AVT (m:Mo) (v:Cvr) {k:Nat} (hk:k < (goals m).length):(row m v)[k]'(by unfold row; rw [List.length_map]; exact hk)=hit v (goals m)[k]:=by unfold row; simp
/-- holes that are left, from a place on -/
def left (gs:List Gl) (v:Cvr) (k:Nat):List Gl:=(gs.drop k).filter fun g => !hit v g
theorem APJ {gs:List Gl} {v:Cvr} {k:Nat} (hk:k < gs.length) (h:hit v gs[k]=true):left gs v k=left gs v (k+1):=by
 unfold left; rw [List.drop_eq_getElem_cons hk,List.filter_cons,h]; rfl
theorem AM8 {gs:List Gl} {v:Cvr} {k:Nat} (hk:k < gs.length) (h:hit v gs[k]=false):left gs v k=gs[k] :: left gs v (k+1):=by
 unfold left; rw [List.drop_eq_getElem_cons hk,List.filter_cons,h]; rfl
theorem AS0 {gs:List Gl} {v:Cvr} {k:Nat} (hd:gs.Pairwise fun a b=>eqG a b=false) (hk:k < gs.length) : ∀ g∈left gs v (k+1),eqG gs[k] g=false:=by
 intro g hg
 have h1:=(List.mem_filter.1 hg).1
 have h2:(gs.drop k).Pairwise fun a b=>eqG a b=false:=hd.sublist (List.drop_sublist k gs)
 rw [List.drop_eq_getElem_cons hk,List.pairwise_cons] at h2
 exact h2.1 g h1
theorem AGX {m:Mo} (hm:FH m=0):P9 m (JG m)=goals m:=by
 unfold P9
 rw [if_pos (MI hm),List.filter_eq_self]
 intro g _
 rw [AL7]; rfl
theorem AJK {m:Mo} {v:Cvr} (hf:E9 m v=true):P9 m v=left (goals m) v 0:=by
 unfold P9 left
 rw [if_pos hf]; rfl
/-- what a ranking says of a model and coverages -/
def GQ (m:Mo) (l:List Cvr) (most:Nat):Int:=if FH m≠0 then FH m else if most < l.length then 2 else if l.all (E9 m)=true then 0 else 1
theorem I6 {m:Mo} {l:List Cvr} {most:Nat}:GQ m l most=0↔FH m=0∧l.length≤most∧∀ v∈l,E9 m v=true:=by
 unfold GQ
 split
 ·rename_i h; exact ⟨fun e=>absurd e h,fun e=>absurd e.1 h⟩
 rename_i h
 have h':FH m=0:=by simpa using h
 split
 ·rename_i h2; exact ⟨fun e=>by omega,fun e=>by omega⟩
 split
 ·rename_i h2 h3; exact ⟨fun _=>⟨h',by omega,List.all_eq_true.1 h3⟩,fun _=>rfl⟩
 ·rename_i h2 h3; exact ⟨fun e=>by omega,fun e=>absurd (List.all_eq_true.2 e.2.2) h3⟩
end Go.Proofs.YtocilianjfhifaaGreatDoor.Rk
/- Small models, and few coverages: these functions return some truth value; no condition but the bounds on lengths. -/
set_option linter.unusedSimpArgs false
set_option maxRecDepth 8000
namespace Go.Proofs.YtocilianjfhifaaGreatDoor.Rk
open Go Go.Proofs Go.Proofs.YtocilianjfhifaaGreatDoor.Sm Go.Proofs.YtocilianjfhifaaGreatDoor.Bins Go.Proofs.YtocilianjfhifaaGreatDoor.Cov Go.RowKit

/-- a call that returns some truth value and leaves everything as it was -/
def SomeB (E:Env) (f:FuncId) (args:List AV) (h:Hp):Prop:=ACalls E f args h fun v H=>(∃ b:Bool,v = .bool b)∧H=h
theorem SomeB.of {E:Env} {f:FuncId} {args:List AV} {h:Hp} (hc:ACalls E f args h fun v H=>(∃ b:Bool,v = .bool b)∧ext h H):SomeB E f args h :=
 hc.trunc fun v H hR=>by
  obtain ⟨⟨b,rfl⟩,x,rfl⟩:=hR
  exact ⟨1,h,rfl,fun b hb => .inr (.inl ⟨by rw [List.getElem?_append_left hb],by rw [List.getElem?_append_left hb]⟩),⟨b,rfl⟩,rfl⟩
theorem SomeB.use {E:Env} {f:FuncId} {args:List AV} {h:Hp} {K:AV→Hp→Prop} (hc:SomeB E f args h) (hk : ∀ b:Bool,K (.bool b) h):ACalls E f args h K :=
 ACalls.mono hc fun v H ⟨⟨b,e⟩,e2⟩=>by rw [e,e2]; exact hk b
theorem AVH {e:Ex} {k:Nat} (hk:k < e.args.length):wt e.args[k] < wt e:=by
 have h1:=U6 (List.getElem_mem hk)
 have h2:=OU e
 omega
theorem AV2 {H:Hp} {b:Nat} {e:Ex} (hb:H[b]? = some (.live 4 [F7 e])):D7 Tryz.prog H 51 (.ptr b 0 3)=some (.sl e.m 4 (e.args.map F7)):=by
 rw [DX AOB hb (row:=F7 e) rfl,ADE]
theorem AXO {H:Hp} {l:List Pt} {i:Nat} (hi:i < l.length):D7 Tryz.prog H 53 (.fptr 6 (l.map G9) i 1)=some (.agg (F7 l[i].ex)):=by
 have h1:=JJ l[i]
 simp only [D7,Sm.rowAt,List.getElem?_map,List.getElem?_eq_getElem hi,Option.map_some,AIB,ABP]
 rw [if_pos (by rw [h1]; omega),ALZ]
set_option maxHeartbeats 1000000 in
theorem AIQ (G:Nat→AV) : ∀ (w:Nat) (e:Ex) (lv:Nat) (h:Hp),wt e≤w→wt e≤1048576→lv≤1000→SomeB (En G) 93 [.agg (F7 e),.int .i64 (lv:Nat)] h:=by
 intro w
 induction w with
 | zero=>intro e lv h h1 _ _; have:=OU e; omega
 | succ w ih =>
   intro e lv h h1 h2 h3
   have hlen:=YF e.args
   have hwt:=OU e
   refine SomeB.of ?_
   refine BX (H:=Hint.none) (enM G) Tryz.func93 rfl (by kernel_rfl) (by kernel_rfl) (Nat.le_of_ble_eq_true (by kernel_rfl)) ?_
   show awp _ _ _ _ _ (EJ _ [.tmp 4] _)
   have hb:=CQ h (.live 4 [F7 e])
   have hx:ext h (h ++ [.live 4 [F7 e]]):=(ext.rfl' h).app _
   simp -implicitDefEqProofs only [A8,AX,AZ,AU,A9,BH,BQ,BZ,AL,AO,AJ,BA,AR,AC,AA,AY,AQ,BD,BI,BB,A7,EW,BN,BO,AB,D9,BC,BP,↓reduceIte,Nat.reduceEqDiff,Option.getD_some,Bool.not_false,enP,bxE]
   generalize h ++ [.live 4 [F7 e]]=H at hb hx ⊢
   cases h0:((lv:Int) == 0)
   rotate_left
   ·simp -implicitDefEqProofs only [A8,AX,BJ,BF,AZ,CJ,CK,DI,AU,A9,BH,BQ,BZ,FN,AL,AO,AJ,BA,AR,AC,AA,EM,AY,AQ,BI,A7,CF,DJ,↓reduceIte,Nat.reduceEqDiff,Option.getD_some,Bool.not_false]
    exact ⟨⟨_,rfl⟩,hx⟩
   have hlv:lv≠0:=by intro e; subst e; cases h0
   simp -implicitDefEqProofs only [BF,AZ,AU,A9,BH,BQ,BZ,EH,AL,AO,AJ,BA,AR,AC,AA,AY,AQ,BD,BI,CF,DK,BL,BN,BG,C8,AB,EK,↓reduceIte,Nat.reduceEqDiff,Nat.zero_add,Option.getD_some,Bool.not_false,enP,AJC,Q9,AV2 hb,List.length_map]
   refine CG (fun hc => ?_) (fun hc => ?_)
   ·simp -implicitDefEqProofs only [A8,AX,BJ,AZ,CJ,CK,AU,A9,AL,AO,AJ,BA,AR,AC,AA,AQ,BI,A7,↓reduceIte,Option.getD_some,Bool.not_false]
    exact ⟨⟨_,rfl⟩,hx⟩
   simp -implicitDefEqProofs only [A8,BM,AX,BK,AZ,AU,A9,AL,AO,AJ,BA,AR,AC,AQ,BD,A7,Option.getD_some,Bool.not_false]
   refine CS (fun n F H' => ∃ k,n+k=e.args.length∧F 1 = .int .i64 (lv:Nat)∧F 2 = .ptr h.length 0 0∧F 5 = .int .i64 (k:Nat)∧H'=H) e.args.length ⟨0,by simp,by simp -implicitDefEqProofs only [AA,BC,BP,↓reduceIte,Nat.reduceEqDiff],by simp -implicitDefEqProofs only [AA,↓reduceIte,Nat.reduceEqDiff],by simp -implicitDefEqProofs only [AA,↓reduceIte]; rfl,rfl⟩ ?_
   rintro n F H' ⟨k,hk,f1,f2,f5,rfl⟩
   simp -implicitDefEqProofs only [A8,AX,BF,AZ,AU,A9,AL,AO,AJ,BA,AR,AC,AA,AY,BB,BL,BN,BG,C8,AB,CO,↓reduceIte,Nat.reduceEqDiff,Nat.zero_add,Option.getD_some,Bool.not_false,enP,AJC,Q9,f2,f5,AV2 hb,List.length_map]
   refine CG (fun hc => ?_) (fun hc => ?_)
   ·have hk':k < e.args.length:=by simpa using hc
    have hlt:=AVH hk'
    have hwr:IntKind.i64.wrap ((lv:Int) - 1)=((lv - 1:Nat):Int):=by rw [wrap_i64 (by omega) (by omega)]; omega
    simp -implicitDefEqProofs only [A8,BM,AX,BK,AZ,AU,AL,AO,AJ,BA,AR,AC,AA,AY,AQ,BS,BD,BB,BL,BN,BG,BU,BV,BR,AB,J8,List.map_cons,List.map_nil,List.append_nil,↓reduceIte,Nat.reduceEqDiff,Nat.zero_add,Option.getD_some,Bool.not_false,enP,AS6,Q9,f1,f2,f5,AV2 hb,CW hk',ES AIB ABP J5 hk',hwr]
    refine (ih e.args[k] (lv - 1) H' (by omega) (by omega) (by omega)).use ?_
    intro b
    simp -implicitDefEqProofs only [BF,AZ,AU,A9,AL,AO,AJ,BA,AR,AC,AA,AY,F9,AB,ER,↓reduceIte,Option.getD_some,Bool.not_false]
    cases b
    ·simp -implicitDefEqProofs only [A8,AX,BJ,AZ,CJ,D6,EZ,CK,DI,AU,A9,AL,AO,AJ,BA,AR,AC,AA,AQ,BI,A7,↓reduceIte,Option.getD_some,Bool.not_false]
     exact ⟨⟨_,rfl⟩,hx⟩
    ·simp -implicitDefEqProofs only [AX,BK,AZ,DU,DZ,DL,AU,A9,AL,AO,AJ,BA,AR,AC,AA,AY,AQ,BD,BB,A7,BN,AB,CR,↓reduceIte,Nat.reduceEqDiff,Option.getD_some,Bool.not_true,Bool.not_false,enP,f5,CB (show k < 9223372036854775807 by omega)]
     exact ⟨n - 1,by omega,k+1,by omega,f1,f2,rfl,trivial⟩
   ·simp -implicitDefEqProofs only [A8,AX,BJ,CU,AZ,DR,EB,EF,CK,AU,A9,AL,AO,AJ,BA,AR,AC,AA,AQ,BI,A7,↓reduceIte,Option.getD_some,Bool.not_false]
    exact ⟨⟨_,rfl⟩,hx⟩
theorem AVR (G:Nat→AV) (e:Ex) (hw:wt e≤1048576) (h:Hp):PCall (En G) 94 [.agg (F7 e)] h (.int .i64 ((pre e).length:Nat)):=by
 refine ACalls.pure0 rfl ?_
 refine BX (H:=Hint.none) (enM G) Tryz.func94 rfl (by kernel_rfl) (by kernel_rfl) (Nat.le_of_ble_eq_true (by kernel_rfl)) ?_
 show awp _ _ _ _ _ (EJ _ [.tmp 2] _)
 simp -implicitDefEqProofs only [A8,AX,AZ,AU,A9,AL,AO,AJ,BA,AR,AC,AA,AY,AQ,BS,BD,A7,EW,BL,BV,BR,BO,AB,BC,List.map_cons,List.map_nil,List.append_nil,↓reduceIte,Nat.reduceEqDiff,Option.getD_some,Bool.not_false,enP,bxE,ldE]
 refine (AGH G e hw _).mono ?_
 rintro v h' ⟨c,m,u1,u2,rfl,s,x,rfl⟩
 simp -implicitDefEqProofs only [BJ,AZ,CK,AU,A9,AL,AO,AJ,BA,AR,AC,AA,AY,A7,BL,BG,AB,↓reduceIte,Nat.add_zero,Option.getD_some,Bool.not_false,enP,AEU,H9,JH,s.l0]
 exact ⟨trivial,_,by rw [List.append_assoc]⟩
set_option maxHeartbeats 1000000 in
theorem AGF (G:Nat→AV) (l:List Pt) (s:SM) (h:Hp) (hl : ∀ p∈l,PtOk p) (hn:l.length≤1048576):SomeB (En G) 41 [.sl s 6 (l.map G9)] h:=by
 refine SomeB.of ?_
 refine BX (H:=Hint.none) (enM G) Tryz.func41 rfl (by kernel_rfl) (by kernel_rfl) (Nat.le_of_ble_eq_true (by kernel_rfl)) ?_
 show awp _ _ _ _ _ (EJ _ [.tmp 2] _)
 simp -implicitDefEqProofs only [A8,BM,AX,AZ,AU,A9,AL,AO,AJ,BA,AR,AC,AQ,BD,BI,A7,Option.getD_some,Bool.not_false,enP]
 refine CS (fun n F H' => ∃ i,n+i=l.length∧F 0 = .sl s 6 (l.map G9)∧F 3 = .int .i64 (i:Nat)∧H'=h) l.length ⟨0,by simp,by simp -implicitDefEqProofs only [AA,BC,↓reduceIte,Nat.reduceEqDiff],by simp -implicitDefEqProofs only [AA,↓reduceIte]; rfl,rfl⟩ ?_
 rintro n F H ⟨i,hi,f0,f3,rfl⟩
 simp -implicitDefEqProofs only [A8,AX,AU,BH,BQ,BZ,AL,AO,AJ,BA,AR,AC,AA,AY,BB,BN,C8,AB,CO,↓reduceIte,Nat.reduceEqDiff,Option.getD_some,Bool.not_false,enP,OZ,f0,f3,List.length_map]
 refine GJ (fun hc => ?_) (fun hc => ?_)
 rotate_left
 ·simp -implicitDefEqProofs only [A8,AX,BJ,CU,BF,AZ,DR,EB,EF,CK,DL,AU,A9,BH,BQ,BZ,IQ,AL,AO,AJ,BA,AR,AC,AA,EM,AY,AQ,BD,BI,BB,A7,CF,DK,BN,C8,AB,J9,↓reduceIte,Nat.reduceEqDiff,Option.getD_some,Bool.not_false,enP,OZ,hc,f0,List.length_map]
  exact ⟨⟨_,rfl⟩,ext.rfl' _⟩
 have hi':i < l.length:=by simpa using hc
 have hp:=hl _ (List.getElem_mem hi')
 simp -implicitDefEqProofs only [BF,AZ,AU,A9,BH,BQ,BZ,FZ,AL,AO,AJ,BA,AR,AC,AA,AY,AQ,BD,BI,BB,CF,DJ,BN,AB,CO,↓reduceIte,Nat.reduceEqDiff,Option.getD_some,Bool.not_false,enP,hc,f3]
 refine CG (fun hc2 => ?_) (fun hc2 => ?_)
 rotate_left
 ·simp -implicitDefEqProofs only [A8,AX,BJ,CU,AZ,DR,EB,EF,CK,AU,A9,AL,AO,AJ,BA,AR,AC,AA,AY,AQ,BD,BB,A7,BN,C8,AB,J9,↓reduceIte,Nat.reduceEqDiff,Option.getD_some,Bool.not_false,enP,OZ,f0,List.length_map]
  exact ⟨⟨_,rfl⟩,ext.rfl' _⟩
 simp -implicitDefEqProofs only [A8,BM,AX,BK,AZ,AU,BH,BQ,BZ,AL,AO,AJ,BA,AR,AC,AA,AY,AQ,BD,BB,BL,BN,BG,BU,C8,AB,EK,↓reduceIte,Nat.reduceEqDiff,Nat.zero_add,Option.getD_some,Bool.not_false,enP,MV,PI,HZ,f0,f3,CW hi',CP NW hi',K3,List.length_map]
 refine GJ (fun h1 => ?_) (fun h1 => ?_)
 ·simp -implicitDefEqProofs only [A8,AX,BJ,BF,AZ,CJ,D6,EZ,CK,DI,AU,A9,BH,BQ,BZ,FN,AL,AO,AJ,BA,AR,AC,AA,EM,AY,AQ,BI,BB,A7,CF,DJ,↓reduceIte,Nat.reduceEqDiff,Option.getD_some,Bool.not_false,h1]
  exact ⟨⟨_,rfl⟩,ext.rfl' _⟩
 simp -implicitDefEqProofs only [BH,BQ,BZ,EH,AL,AO,AJ,BA,AR,AC,AA,AY,AQ,BS,BD,BB,BL,BG,BU,BV,BR,AB,List.map_cons,List.map_nil,List.append_nil,↓reduceIte,Nat.reduceEqDiff,Nat.zero_add,Option.getD_some,Bool.not_false,enP,MV,AEP,h1,f0,f3,CW hi',AXO hi']
 refine (AIQ G _ l[i].ex 12 H (Nat.le_refl _) hp.ex (by omega)).use ?_
 intro b
 cases b
 ·simp -implicitDefEqProofs only [A8,AX,BJ,BF,AZ,CJ,D6,EZ,CK,DI,AU,A9,BH,BQ,BZ,EH,FN,AL,AO,AJ,BA,AR,AC,AA,EM,AY,AQ,BI,BB,A7,CF,DJ,DK,F9,AB,ER,↓reduceIte,Nat.reduceEqDiff,Option.getD_some,Bool.not_false]
  exact ⟨⟨_,rfl⟩,ext.rfl' _⟩
 simp -implicitDefEqProofs only [AU,BH,BQ,BZ,EH,AL,AO,AJ,BA,AR,AC,AA,AY,AQ,BS,BI,BB,CF,DK,BL,F9,BG,BU,BV,BR,AB,ER,List.map_cons,List.map_nil,List.append_nil,↓reduceIte,Nat.reduceEqDiff,Nat.zero_add,Option.getD_some,Bool.not_true,Bool.not_false,enP,MV,AEP,f0,f3,CW hi',AXO hi']
 refine (AVR G l[i].ex hp.ex H).use ?_
 simp -implicitDefEqProofs only [BF,AZ,AU,A9,BH,BQ,BZ,EH,AL,AO,AJ,BA,AR,AC,AA,AY,AQ,BD,BI,CF,DK,BN,AB,EK,↓reduceIte,Nat.reduceEqDiff,Option.getD_some,Bool.not_false,enP]
 refine CG (fun h2 => ?_) (fun h2 => ?_)
 ·simp -implicitDefEqProofs only [A8,AX,BJ,AZ,CJ,D6,EZ,CK,AU,A9,AL,AO,AJ,BA,AR,AC,AA,AQ,BI,A7,↓reduceIte,Option.getD_some,Bool.not_false]
  exact ⟨⟨_,rfl⟩,ext.rfl' _⟩
 simp -implicitDefEqProofs only [A8,BM,AX,BK,AZ,AU,A9,AL,AO,AJ,BA,AR,AC,AQ,BD,A7,Option.getD_some,Bool.not_false]
 refine FO 2 (fun F' H'=>F' 0 = .sl s 6 (l.map G9)∧F' 3 = .int .i64 (i:Nat)∧H'=H) (fun F' H'=>F' 2 = .bool false∧H'=H) ?_ ?_ ?_
 ·refine CS (fun n F' H' => ∃ k,n+k=l[i].bins.length∧F' 0 = .sl s 6 (l.map G9)∧F' 3 = .int .i64 (i:Nat)∧F' 4 = .int .i64 (k:Nat)∧H'=H) l[i].bins.length ⟨0,by simp,by simp -implicitDefEqProofs only [AA,↓reduceIte,Nat.reduceEqDiff,f0],by simp -implicitDefEqProofs only [AA,↓reduceIte,Nat.reduceEqDiff,f3],by simp -implicitDefEqProofs only [AA,↓reduceIte]; rfl,rfl⟩ ?_
  rintro n' F' H' ⟨k,hk,g0,g3,g4,rfl⟩
  simp -implicitDefEqProofs only [A8,AX,BF,AZ,AU,A9,AL,AO,AJ,BA,AR,AC,AA,AY,BB,BL,BN,BG,BU,C8,AB,CO,↓reduceIte,Nat.reduceEqDiff,Nat.zero_add,Option.getD_some,Bool.not_false,enP,MV,PI,HZ,g0,g3,g4,CW hi',CP NW hi',K3,List.length_map]
  refine CG (fun hc => ?_) (fun hc => ?_)
  ·have hk':k < l[i].bins.length:=by simpa using hc
   have hbl:=hp.num
   simp -implicitDefEqProofs only [A8,BM,AX,BK,AZ,AU,BH,BQ,BZ,AL,AO,AJ,BA,AR,AC,AA,AY,AQ,BD,BB,BL,BN,BG,BU,C8,AB,EK,↓reduceIte,Nat.reduceEqDiff,Nat.zero_add,Option.getD_some,Bool.not_false,enP,MV,VH,HZ,QG,PS,g0,g3,g4,CW hi',CP NW hi',K3,CW hk',CP PV hk',VU,List.length_map]
   refine GJ (fun h3 => ?_) (fun h3 => ?_)
   ·simp -implicitDefEqProofs only [A8,AX,BJ,BF,AZ,CJ,D6,KC,EZ,DI,AU,A9,BH,BQ,BZ,FN,AL,AO,AJ,BA,AR,AC,AA,EM,AY,AQ,BI,A7,CF,DJ,↓reduceIte,Nat.reduceEqDiff,Option.getD_some,Bool.not_false,h3]
    exact ⟨trivial,trivial⟩
   simp -implicitDefEqProofs only [BF,AZ,AU,A9,BH,BQ,BZ,EH,AL,AO,AJ,BA,AR,AC,AA,AY,AQ,BD,BI,BB,CF,DK,BL,BN,BG,BU,C8,AB,EK,↓reduceIte,Nat.reduceEqDiff,Nat.zero_add,Option.getD_some,Bool.not_false,enP,MV,VH,HZ,QF,LC,h3,g0,g3,g4,CW hi',CP NW hi',K3,CW hk',CP QS hk',QN,List.length_map]
   refine CG (fun h4 => ?_) (fun h4 => ?_)
   ·simp -implicitDefEqProofs only [A8,AX,BJ,AZ,CJ,D6,KC,EZ,AU,A9,AL,AO,AJ,BA,AR,AC,AA,AQ,BI,A7,↓reduceIte,Option.getD_some,Bool.not_false]
    exact ⟨trivial,trivial⟩
   ·simp -implicitDefEqProofs only [AX,BK,AZ,DU,DZ,AU,A9,AL,AO,AJ,BA,AR,AC,AA,AY,AQ,BD,BB,A7,BN,AB,CR,↓reduceIte,Nat.reduceEqDiff,Option.getD_some,Bool.not_false,enP,g4,CB (show k < 9223372036854775807 by omega)]
    exact ⟨n' - 1,by omega,k+1,by omega,g0,g3,rfl,trivial⟩
  ·simp -implicitDefEqProofs only [CU,DR,II,EF,AA,↓reduceIte,Nat.reduceEqDiff]
   exact ⟨g0,g3,trivial⟩
 ·rintro F' H' ⟨g0,g3,rfl⟩
  simp -implicitDefEqProofs only [AX,AZ,DU,EB,DZ,AU,A9,AL,AO,AJ,BA,AR,AC,AA,AY,AQ,BD,BB,A7,BN,AB,CR,↓reduceIte,Nat.reduceEqDiff,Option.getD_some,Bool.not_false,enP,g3,CB (show i < 9223372036854775807 by omega)]
  exact ⟨n - 1,by omega,i+1,by omega,g0,rfl,trivial⟩
 ·rintro F' H' ⟨g2,rfl⟩
  simp -implicitDefEqProofs only [CJ,D6,EZ,CK,g2]
  exact ⟨⟨_,rfl⟩,ext.rfl' _⟩
set_option maxHeartbeats 1000000 in
theorem AIO (G:Nat→AV) (m:Mo) (hm:MoOk m) (h:Hp):SomeB (En G) 46 [.agg (DC m)] h:=by
 have hm1:=hm.np
 have hm2:=hm.nc
 refine SomeB.of ?_
 refine BX (H:=Hint.none) (enM G) Tryz.func46 rfl (by kernel_rfl) (by kernel_rfl) (Nat.le_of_ble_eq_true (by kernel_rfl)) ?_
 show awp _ _ _ _ _ (EJ _ [.tmp 2] _)
 have gm:=CQ h (.live 2 [DC m])
 have hx:ext h (h ++ [.live 2 [DC m]]):=(ext.rfl' h).app _
 have m0:D7 Tryz.prog (h ++ [.live 2 [DC m]]) 22 (.ptr h.length 0 0)=some (.sl m.pm 6 (m.pts.map G9)):=by rw [DX TW gm (row:=DC m) rfl,O7]
 have m1:D7 Tryz.prog (h ++ [.live 2 [DC m]]) 23 (.ptr h.length 0 1)=some (.sl m.cm 3 (m.crs.map GH)):=by rw [DX XA gm (row:=DC m) rfl,RO]
 simp -implicitDefEqProofs only [A8,AX,AZ,AU,A9,AL,AO,AJ,BA,AR,AC,AA,AY,AQ,BI,A7,EW,BL,BG,BO,AB,BC,↓reduceIte,Nat.reduceEqDiff,Nat.add_zero,Option.getD_some,Bool.not_false,enP,GZ,bxM]
 generalize h ++ [.live 2 [DC m]]=H at gm hx m0 m1 ⊢
 simp -implicitDefEqProofs only [AU,AL,AO,AJ,BA,AR,AC,AA,AY,BS,BV,BR,AB,List.map_cons,List.map_nil,List.append_nil,↓reduceIte,Option.getD_some,Bool.not_false,m0]
 refine (AGF G m.pts m.pm H hm.pts hm1).use ?_
 intro b
 cases b
 ·simp -implicitDefEqProofs only [A8,AX,BJ,BF,AZ,CJ,CK,DI,AU,A9,BH,BQ,BZ,FN,AL,AO,AJ,BA,AR,AC,AA,EM,AY,AQ,BI,BB,A7,CF,DJ,F9,AB,ER,↓reduceIte,Nat.reduceEqDiff,Option.getD_some,Bool.not_false]
  exact ⟨⟨_,rfl⟩,hx⟩
 simp -implicitDefEqProofs only [BF,AZ,AU,A9,BH,BQ,BZ,EH,AL,AO,AJ,BA,AR,AC,AA,AY,AQ,BD,BI,BB,CF,DK,BL,BN,F9,BG,C8,AB,EK,ER,↓reduceIte,Nat.reduceEqDiff,Nat.zero_add,Option.getD_some,Bool.not_true,Bool.not_false,enP,Q5,H7,m1,List.length_map]
 refine CG (fun hc => ?_) (fun hc => ?_)
 ·simp -implicitDefEqProofs only [A8,AX,BJ,AZ,CJ,CK,AU,A9,AL,AO,AJ,BA,AR,AC,AA,AQ,BI,A7,↓reduceIte,Option.getD_some,Bool.not_false]
  exact ⟨⟨_,rfl⟩,hx⟩
 simp -implicitDefEqProofs only [A8,BM,AX,BK,AZ,AU,A9,AL,AO,AJ,BA,AR,AC,AQ,BD,A7,Option.getD_some,Bool.not_false]
 refine CS (fun n F H' => ∃ i,n+i=m.crs.length∧F 1 = .ptr h.length 0 0∧F 3 = .int .i64 (i:Nat)∧H'=H) m.crs.length ⟨0,by simp,by simp -implicitDefEqProofs only [AA,↓reduceIte,Nat.reduceEqDiff],by simp -implicitDefEqProofs only [AA,↓reduceIte]; rfl,rfl⟩ ?_
 rintro n F H' ⟨i,hi,f1,f3,rfl⟩
 simp -implicitDefEqProofs only [A8,AX,BF,AZ,AU,A9,AL,AO,AJ,BA,AR,AC,AA,AY,BB,BL,BN,BG,C8,AB,CO,↓reduceIte,Nat.reduceEqDiff,Nat.zero_add,Option.getD_some,Bool.not_false,enP,Q5,H7,f1,f3,m1,List.length_map]
 refine CG (fun hc => ?_) (fun hc => ?_)
 ·have hi':i < m.crs.length:=by simpa using hc
  simp -implicitDefEqProofs only [A8,BM,AX,BK,AZ,AU,BH,BQ,BZ,AL,AO,AJ,BA,AR,AC,AA,AY,AQ,BD,BB,BL,BN,BG,BU,C8,AB,EK,↓reduceIte,Nat.reduceEqDiff,Nat.zero_add,Option.getD_some,Bool.not_false,enP,P7,H7,GV,IU,f1,f3,m1,CW hi',CP KA hi',RP,List.length_map]
  refine GJ (fun h1 => ?_) (fun h1 => ?_)
  ·simp -implicitDefEqProofs only [A8,AX,BJ,BF,AZ,CJ,D6,EZ,CK,DI,AU,A9,BH,BQ,BZ,FN,AL,AO,AJ,BA,AR,AC,AA,EM,AY,AQ,BI,A7,CF,DJ,↓reduceIte,Nat.reduceEqDiff,Option.getD_some,Bool.not_false,h1]
   exact ⟨⟨_,rfl⟩,hx⟩
  simp -implicitDefEqProofs only [BF,AZ,AU,A9,BH,BQ,BZ,EH,AL,AO,AJ,BA,AR,AC,AA,AY,AQ,BD,BI,BB,CF,DK,BL,BN,BG,BU,C8,AB,EK,↓reduceIte,Nat.reduceEqDiff,Nat.zero_add,Option.getD_some,Bool.not_false,enP,P7,H7,WM,NU,h1,f1,f3,m1,CW hi',CP QR hi',AHN,List.length_map]
  refine CG (fun h2 => ?_) (fun h2 => ?_)
  ·simp -implicitDefEqProofs only [A8,AX,BJ,AZ,CJ,D6,EZ,CK,AU,A9,AL,AO,AJ,BA,AR,AC,AA,AQ,BI,A7,↓reduceIte,Option.getD_some,Bool.not_false]
   exact ⟨⟨_,rfl⟩,hx⟩
  ·simp -implicitDefEqProofs only [AX,BK,AZ,DU,DZ,AU,A9,AL,AO,AJ,BA,AR,AC,AA,AY,AQ,BD,BB,A7,BN,AB,CR,↓reduceIte,Nat.reduceEqDiff,Option.getD_some,Bool.not_false,enP,f3,CB (show i < 9223372036854775807 by omega)]
   exact ⟨n - 1,by omega,i+1,by omega,f1,rfl,trivial⟩
 ·simp -implicitDefEqProofs only [A8,AX,BJ,CU,AZ,DR,EB,EF,CK,AU,A9,AL,AO,AJ,BA,AR,AC,AA,AQ,BI,A7,↓reduceIte,Option.getD_some,Bool.not_false]
  exact ⟨⟨_,rfl⟩,hx⟩
/-- a model and coverages -/
structure Qs where
 m:Mo
 s:SM
 l:List Cvr
def JI (q:Qs):List AV:=DC q.m ++ [.sl q.s 4 (q.l.map D5)]
theorem AHK (q:Qs):(JI q).length=3:=rfl
structure QOk (q:Qs):Prop where
 m:MoOk q.m
 l : ∀ v∈q.l,CvOk v
 n:q.l.length≤1048576
theorem bxQ (h:Hp) (q:Qs):OH h (.agg (JI q))=some (.ptr h.length 0 0,h ++ [.live 3 [JI q]]):=TR rfl
theorem ldQ {H:Hp} {b:Nat} {q:Qs} (hb:H[b]? = some (.live 3 [JI q])):D7 Tryz.prog H 75 (.ptr b 0 0)=some (.agg (JI q)):=by
 rw [IK AZ1 AY5 hb rfl (by rw [AHK]; exact Nat.le_refl 3)]; rfl
theorem P6 {H:Hp} {b:Nat} {q:Qs} (hb:H[b]? = some (.live 3 [JI q])):D7 Tryz.prog H 25 (.ptr b 0 0)=some (.agg (DC q.m)):=by
 rw [IK AWU ARW hb rfl (by rw [AHK]; exact Nat.le_of_ble_eq_true rfl)]; rfl
theorem OD {H:Hp} {b:Nat} {q:Qs} (hb:H[b]? = some (.live 3 [JI q])):D7 Tryz.prog H 37 (.ptr b 0 2)=some (.sl q.s 4 (q.l.map D5)):=by
 rw [DX AZ2 hb (row:=JI q) rfl]; rfl
theorem AZD {H:Hp} {b:Nat} {q:Qs} (hb:H[b]? = some (.live 3 [JI q])):D7 Tryz.prog H 22 (.ptr b 0 0)=some (.sl q.m.pm 6 (q.m.pts.map G9)):=by
 rw [DX TW hb (row:=JI q) rfl]; rfl
theorem AZC {H:Hp} {b:Nat} {q:Qs} (hb:H[b]? = some (.live 3 [JI q])):D7 Tryz.prog H 23 (.ptr b 0 1)=some (.sl q.m.cm 3 (q.m.crs.map GH)):=by
 rw [DX XA hb (row:=JI q) rfl]; rfl
theorem QL (G:Nat→AV) (q:Qs) (hq:QOk q) (h:Hp):SomeB (En G) 53 [.agg (JI q)] h:=by
 have hm1:=hq.m.np
 have hm2:=hq.m.nc
 refine SomeB.of ?_
 refine BX (H:=Hint.none) (enM G) Tryz.func53 rfl (by kernel_rfl) (by kernel_rfl) (Nat.le_of_ble_eq_true (by kernel_rfl)) ?_
 show awp _ _ _ _ _ (EJ _ [.tmp 2] _)
 have gq:=CQ h (.live 3 [JI q])
 have hx:ext h (h ++ [.live 3 [JI q]]):=(ext.rfl' h).app _
 simp -implicitDefEqProofs only [A8,AX,AZ,AU,A9,AL,AO,AJ,BA,AR,AC,AA,AY,AQ,BI,A7,EW,BL,BG,BO,AB,BC,↓reduceIte,Nat.reduceEqDiff,Nat.add_zero,Option.getD_some,Bool.not_false,enP,J3,bxQ]
 generalize h ++ [.live 3 [JI q]]=H at gq hx ⊢
 simp -implicitDefEqProofs only [AU,AL,AO,AJ,BA,AR,AC,AA,AY,BS,BV,BR,AB,List.map_cons,List.map_nil,List.append_nil,↓reduceIte,Option.getD_some,Bool.not_false,P6 gq]
 refine (AIO G q.m hq.m H).use ?_
 intro b
 cases b
 ·simp -implicitDefEqProofs only [BJ,AZ,CK,AU,A9,BH,BQ,BZ,IQ,AL,AO,AJ,BA,AR,AC,AA,EM,AY,AQ,BI,BB,A7,CF,DK,↓reduceIte,Nat.reduceEqDiff,Option.getD_some,Bool.not_false]
  exact ⟨⟨_,rfl⟩,hx⟩
 simp -implicitDefEqProofs only [AU,BH,BQ,BZ,FZ,AL,AO,AJ,BA,AR,AC,AA,AY,AQ,BD,BI,BB,CF,DJ,BL,BN,BG,C8,AB,CR,J9,↓reduceIte,Nat.reduceEqDiff,Nat.add_zero,Nat.zero_add,Option.getD_some,Bool.not_false,enP,OZ,Q5,GZ,H7,J3,AZD gq,AZC gq,List.length_map]
 refine GJ (fun h1 => ?_) (fun h1 => ?_)
 ·simp -implicitDefEqProofs only [BJ,AZ,CK,AU,A9,BH,BQ,BZ,FZ,AL,AO,AJ,BA,AR,AC,AA,AY,AQ,BD,BI,A7,CF,DJ,BL,BN,BG,C8,AB,J9,↓reduceIte,Nat.reduceEqDiff,Nat.zero_add,Option.getD_some,Bool.not_false,enP,OY,JM,h1,OD gq,List.length_map]
  exact ⟨⟨_,rfl⟩,hx⟩
 ·simp -implicitDefEqProofs only [BJ,AZ,CK,AU,A9,BH,BQ,BZ,IQ,AL,AO,AJ,BA,AR,AC,AA,EM,AY,AQ,BI,A7,CF,DK,↓reduceIte,Nat.reduceEqDiff,Option.getD_some,Bool.not_false,h1]
  exact ⟨⟨_,rfl⟩,hx⟩
end Go.Proofs.YtocilianjfhifaaGreatDoor.Rk
/- rank: same, none, gain, add, best; no condition but the bounds on lengths. -/
set_option linter.unusedSimpArgs false
set_option maxRecDepth 8000
namespace Go.Proofs.YtocilianjfhifaaGreatDoor.Rk
open Go Go.Proofs Go.Proofs.YtocilianjfhifaaGreatDoor.Sm Go.Proofs.YtocilianjfhifaaGreatDoor.Bins Go.Proofs.YtocilianjfhifaaGreatDoor.Cov Go.RowKit

theorem bxH (h:Hp) (g:Gl):OH h (.agg (I8 g))=some (.ptr h.length 0 0,h ++ [ABlk.live 3 [I8 g]]):=TR rfl
theorem ACJ (G:Nat→AV) (a b:Gl) (h:Hp) (hb:b.bins.length≤1048576):PCall (En G) 223 [.agg (I8 a),.agg (I8 b)] h (.bool (eqG a b)):=by
 refine ACalls.pure0 rfl ?_
 refine BX (H:=Hint.none) (enM G) Tryz.func223 rfl (by kernel_rfl) (by kernel_rfl) (Nat.le_of_ble_eq_true (by kernel_rfl)) ?_
 show awp _ _ _ _ _ (EJ _ [.tmp 4] _)
 have ga:=C9 (x := .live 3 [I8 b]) (CQ h (ABlk.live 3 [I8 a]))
 have gb:=CQ (h ++ [ABlk.live 3 [I8 a]]) (ABlk.live 3 [I8 b])
 have hx:ext h (h ++ [ABlk.live 3 [I8 a]] ++ [ABlk.live 3 [I8 b]]):=((ext.rfl' h).app _).app _
 simp -implicitDefEqProofs only [A8,AX,AZ,AU,A9,AL,AO,AJ,BA,AR,AC,AA,AY,AQ,BI,A7,EW,BL,BG,BO,AB,BC,BP,↓reduceIte,Nat.reduceEqDiff,Nat.add_zero,Option.getD_some,Bool.not_false,enP,YY,bxH]
 generalize h ++ [ABlk.live 3 [I8 a]] ++ [ABlk.live 3 [I8 b]]=H at ga gb hx ⊢
 generalize (h ++ [ABlk.live 3 [I8 a]]).length=bb at gb ⊢
 have a0:D7 Tryz.prog H 4 (.ptr h.length 0 0)=some (.bool a.cross):=by rw [DX ag4 ga (row:=I8 a) rfl]; rfl
 have b0:D7 Tryz.prog H 4 (.ptr bb 0 0)=some (.bool b.cross):=by rw [DX ag4 gb (row:=I8 b) rfl]; rfl
 have a1:D7 Tryz.prog H 3 (.ptr h.length 0 1)=some (.int .i64 (a.idx:Nat)):=by rw [DX ag3 ga (row:=I8 a) rfl]; rfl
 have b1:D7 Tryz.prog H 3 (.ptr bb 0 1)=some (.int .i64 (b.idx:Nat)):=by rw [DX ag3 gb (row:=I8 b) rfl]; rfl
 have a2:D7 Tryz.prog H 57 (.ptr h.length 0 2)=some (.sl a.bm 1 (a.bins.map encI)):=by rw [DX KA ga (row:=I8 a) rfl]; rfl
 have b2:D7 Tryz.prog H 57 (.ptr bb 0 2)=some (.sl b.bm 1 (b.bins.map encI)):=by rw [DX KA gb (row:=I8 b) rfl]; rfl
 simp -implicitDefEqProofs only [AU,BH,BQ,BZ,AL,AO,AJ,BA,AR,AC,AA,AY,BB,BL,BN,BG,AB,↓reduceIte,Nat.reduceEqDiff,Nat.add_zero,Option.getD_some,Bool.not_false,enP,be4,YY,a0,b0]
 cases h1:(a.cross == b.cross)
 ·simp -implicitDefEqProofs only [BJ,AZ,CK,AU,A9,BH,BQ,BZ,IQ,AL,AO,AJ,BA,AR,AC,AA,EM,AY,AQ,BI,BB,A7,CF,DK,↓reduceIte,Nat.reduceEqDiff,Option.getD_some,Bool.not_false]
  exact ⟨by unfold eqG; rw [h1]; rfl,hx⟩
 simp -implicitDefEqProofs only [AU,BH,BQ,BZ,FZ,AL,AO,AJ,BA,AR,AC,AA,AY,AQ,BI,BB,CF,DJ,BL,BN,BG,AB,D9,↓reduceIte,Nat.reduceEqDiff,Nat.zero_add,Option.getD_some,Bool.not_false,enP,VQ,a1,b1]
 cases h2:((a.idx:Int) == (b.idx:Int))
 ·simp -implicitDefEqProofs only [BJ,AZ,CK,AU,A9,BH,BQ,BZ,IQ,AL,AO,AJ,BA,AR,AC,AA,EM,AY,AQ,BI,A7,CF,DK,↓reduceIte,Nat.reduceEqDiff,Option.getD_some,Bool.not_false]
  exact ⟨by unfold eqG; rw [h1,h2]; rfl,hx⟩
 simp -implicitDefEqProofs only [BH,BQ,BZ,FZ,AL,AO,AJ,BA,AR,AC,AA,AY,BS,BL,BG,BV,BR,AB,List.map_cons,List.map_nil,List.append_nil,↓reduceIte,Nat.reduceEqDiff,Nat.zero_add,Option.getD_some,Bool.not_false,enP,ATD,a2,b2]
 refine (UY G a.bins b.bins _ _ H (by omega)).use ?_
 simp -implicitDefEqProofs only [BJ,AZ,CK,AU,A9,AL,AO,AJ,BA,AR,AC,AA,AY,AQ,BI,A7,CF,DJ,↓reduceIte,Nat.reduceEqDiff,Option.getD_some,Bool.not_false]
 exact ⟨by unfold eqG; rw [h1,h2]; rfl,hx⟩
/-- a row of truth values that can be read -/
structure Reads (H:Hp) (v:AV) (xs:List Bool):Prop where
 ln:JD Tryz.prog 146 v=some (.int .i64 (xs.length:Nat))
 ix : ∀ k (hk:k < xs.length),∃ p,KL 1 H v (.int .i64 (k:Int))=some p∧D7 Tryz.prog H 4 p=some (.bool xs[k])
theorem Reads.sl (H:Hp) (s:SM) (xs:List Bool):Reads H (.sl s 1 (xs.map FU)) xs :=
 ⟨by rw [Z4.1,List.length_map],fun k hk=>⟨_,CW hk,by rw [CP ag4 hk]; rfl⟩⟩
theorem Reads.nil (H:Hp):Reads H (.sl .nil 0 []) []:=⟨by rw [Z4.1]; rfl,fun k hk=>absurd hk (by simp)⟩
theorem AV1 {H:Hp} {b k:Nat} {xs:List Bool} (hb:H[b]? = some (ABlk.live 1 (xs.map FU))) (hk:k < xs.length):D7 Tryz.prog H 4 (.ptr b k 0)=some (.bool xs[k]):=by
 rw [DX ag4 hb (row:=FU xs[k]) (AD2 hk)]; rfl
theorem Reads.own {H:Hp} {b:Nat} {xs:List Bool} (hb:H[b]? = some (ABlk.live 1 (xs.map FU))):Reads H (.own b 0 xs.length) xs :=
 ⟨by rw [Z4.2],fun k hk=>⟨.ptr b k 0,by rw [Q7 hb hk,Nat.zero_add],AV1 hb hk⟩⟩
/-- how many are new -/
def AM5 (xs ys:List Bool):Nat:=(ys.zip xs).countP fun p=>p.1 && !p.2
theorem AGL {γ:Type} (gs:List γ) (f g:γ→Bool):AM5 (gs.map f) (gs.map g)=gs.countP fun x=>g x && !f x:=by
 unfold AM5
 induction gs with
 | nil=>rfl
 | cons x gs ih=>simp only [List.map_cons,List.zip_cons_cons,List.countP_cons,ih]
set_option maxHeartbeats 1000000 in
theorem QI (G:Nat→AV) {v u:AV} {xs ys:List Bool} {h:Hp} (hv:Reads h v xs) (hu:Reads h u ys) (hl:ys.length=xs.length) (hn:xs.length≤1048576):PCall (En G) 113 [v,u] h (.int .i64 (AM5 xs ys:Nat)):=by
 refine BX (H:=Hint.none) (enM G) Tryz.func113 rfl (by kernel_rfl) (by kernel_rfl) (Nat.le_of_ble_eq_true (by kernel_rfl)) ?_
 show awp _ _ _ _ _ (EJ _ [.tmp 4] _)
 have hz:(ys.zip xs).length=ys.length:=by rw [List.length_zip]; omega
 simp -implicitDefEqProofs only [A8,BM,AX,AZ,AU,A9,AL,AO,AJ,BA,AR,AC,AA,AY,AQ,BD,BB,A7,C8,AB,BC,BP,↓reduceIte,Nat.reduceEqDiff,Option.getD_some,Bool.not_false,enP,hu.ln]
 refine CS (fun n F H => ∃ k,n+k=ys.length∧F 0=v∧F 5 = .int .i64 (((ys.zip xs).take k).countP (fun p=>p.1 && !p.2):Nat)∧F 8=u∧F 9 = .int .i64 (ys.length:Nat)∧F 10 = .int .i64 (k:Nat)∧H=h) ys.length ⟨0,by simp,by simp -implicitDefEqProofs only [AA,BC,↓reduceIte,Nat.reduceEqDiff],by simp -implicitDefEqProofs only [AA,↓reduceIte,Nat.reduceEqDiff]; rfl,by simp -implicitDefEqProofs only [AA,↓reduceIte,Nat.reduceEqDiff],by simp -implicitDefEqProofs only [AA,↓reduceIte,Nat.reduceEqDiff],by simp -implicitDefEqProofs only [AA,↓reduceIte]; rfl,rfl⟩ ?_
 rintro n F H ⟨k,hk,f0,f5,f8,f9,f10,rfl⟩
 simp -implicitDefEqProofs only [A8,AX,BF,AZ,AU,A9,AL,AO,AJ,BA,AR,AC,AA,AY,BN,AB,CO,↓reduceIte,Option.getD_some,Bool.not_false,enP,f9,f10]
 refine CG (fun hc => ?_) (fun hc => ?_)
 ·have hk':k < ys.length:=by simpa using hc
  have hkx:k < xs.length:=by omega
  have hkz:k < (ys.zip xs).length:=by omega
  obtain ⟨p,p1,p2⟩:=hu.ix k hk'
  obtain ⟨q,q1,q2⟩:=hv.ix k hkx
  have hct:=SL (fun p:Bool × Bool=>p.1 && !p.2) (ys.zip xs) k hkz
  rw [List.getElem_zip] at hct
  have hcl:((ys.zip xs).take k).countP (fun p=>p.1 && !p.2)≤k:=Nat.le_trans (List.countP_le_length) (by simp; omega)
  simp -implicitDefEqProofs only [A8,BM,AX,BK,AZ,AU,A9,BH,BQ,BZ,AL,AO,AJ,BA,AR,AC,AA,AY,BB,A7,BL,BU,AB,↓reduceIte,Nat.reduceEqDiff,Option.getD_some,Bool.not_false,enP,Z7,f0,f8,f10,p1,p2]
  cases hy:ys[k]
  ·rw [hy] at hct
   simp -implicitDefEqProofs only [AX,BK,BF,AZ,DU,DZ,DL,AU,A9,BH,BQ,BZ,IQ,AL,AO,AJ,BA,AR,AC,AA,EM,AY,AQ,BD,BI,BB,CF,DK,BN,AB,CR,↓reduceIte,Nat.reduceEqDiff,Option.getD_some,Bool.not_false,enP,f10,CB (show k < 9223372036854775807 by omega)]
   exact ⟨n - 1,by omega,k+1,by omega,f0,by rw [f5,hct]; rfl,f8,f9,rfl,trivial⟩
  ·rw [hy] at hct
   simp -implicitDefEqProofs only [BF,AZ,AU,A9,BH,BQ,BZ,FZ,AL,AO,AJ,BA,AR,AC,AA,AY,AQ,BI,BB,CF,DJ,BL,F9,BU,AB,ER,↓reduceIte,Nat.reduceEqDiff,Option.getD_some,Bool.not_false,enP,Z7,f0,f10,q1,q2]
   cases hx:xs[k]
   ·rw [hx] at hct
    simp -implicitDefEqProofs only [AX,AZ,DU,DZ,DI,AU,A9,AL,AO,AJ,BA,AR,AC,AA,AY,AQ,BD,BB,A7,BN,AB,CR,↓reduceIte,Nat.reduceEqDiff,Option.getD_some,Bool.not_false,enP,f5,f10,CB (show k < 9223372036854775807 by omega),CB (show ((ys.zip xs).take k).countP (fun p=>p.1 && !p.2) < 9223372036854775807 by omega)]
    exact ⟨n - 1,by omega,k+1,by omega,f0,by rw [hct]; rfl,f8,f9,rfl,trivial⟩
   ·rw [hx] at hct
    simp -implicitDefEqProofs only [AX,BK,AZ,DU,DZ,DL,AU,A9,AL,AO,AJ,BA,AR,AC,AA,AY,AQ,BD,BB,BN,AB,CR,↓reduceIte,Nat.reduceEqDiff,Option.getD_some,Bool.not_true,Bool.not_false,enP,f10,CB (show k < 9223372036854775807 by omega)]
    exact ⟨n - 1,by omega,k+1,by omega,f0,by rw [f5,hct]; rfl,f8,f9,rfl,trivial⟩
 ·have hk' : ¬ k < ys.length:=by simpa using hc
  rw [List.take_of_length_le (by omega)] at f5
  simp -implicitDefEqProofs only [A8,AX,BJ,CU,AZ,DR,EB,EF,CK,AU,A9,AL,AO,AJ,BA,AR,AC,AA,AY,BB,A7,↓reduceIte,Nat.reduceEqDiff,Option.getD_some,Bool.not_false,f5]
  exact ⟨rfl,trivial⟩
theorem AO3 {h:Hp} {b:Nat} {x:ABlk} (hb:h[b]? = some x):h.set b x=h:=by
 obtain ⟨hlt,e⟩:=List.getElem?_eq_some_iff.1 hb
 rw [← e,List.set_getElem_self]
def orL (xs ys:List Bool):List Bool:=List.zipWith (fun a b=>a || b) xs ys
theorem ASB {γ:Type} (gs:List γ) (f g:γ→Bool):orL (gs.map f) (gs.map g)=gs.map fun x=>f x || g x:=by
 unfold orL
 induction gs with
 | nil=>rfl
 | cons x gs ih=>simp only [List.map_cons,List.zipWith_cons_cons,ih]
theorem AK1 {xs ys:List Bool} (hl:ys.length=xs.length):(orL xs ys).length=xs.length:=by unfold orL; rw [List.length_zipWith]; omega
theorem AVX {xs ys:List Bool} {k:Nat} (h:k < (orL xs ys).length) (hx:k < xs.length) (hy:k < ys.length):(orL xs ys)[k]=(xs[k] || ys[k]):=List.getElem_zipWith
theorem ALB {α:Type} {f:α→List AV} {os xs:List α} {k:Nat} (hl:os.length=xs.length) (hk:k < os.length):((os.take k ++ xs.drop k).map f).set k (f os[k])=(os.take (k+1) ++ xs.drop (k+1)).map f:=by
 rw [List.drop_eq_getElem_cons (show k < xs.length by omega),List.take_succ_eq_append_getElem hk]
 simp only [List.map_append,List.map_cons,List.map_nil,List.append_assoc,List.singleton_append]
 rw [List.set_append_right _ _ (by simp; omega)]
 simp [Nat.min_eq_left (Nat.le_of_lt hk)]
theorem ALC {os xs:List Bool} {k:Nat} (hl:os.length=xs.length) (hk:k < xs.length):(os.take k ++ xs.drop k)[k]? = some xs[k]:=by
 rw [List.getElem?_append_right (by simp; omega)]
 simp only [List.length_take,Nat.min_eq_left (show k≤os.length by omega),Nat.sub_self]
 rw [List.getElem?_drop]
 simp [hk]
theorem stB {H:Hp} {b k:Nat} {rows:List (List AV)} {x:Bool} (hb:H[b]? = some (ABlk.live 1 rows)) (hk : ∃ v,rows[k]? = some [v]):FQ Tryz.prog H 4 (.ptr b k 0) (.bool x)=some (H.set b (ABlk.live 1 (rows.set k (FU x)))):=by
 obtain ⟨v,hv⟩:=hk
 have s4:szO Tryz.prog 4=some 1:=by kernel_rfl
 rw [KV (i:=k) (cs := [.bool x]) rfl s4 hb hv (by simp)]
 rfl
set_option maxHeartbeats 1000000 in
theorem SY (G:Nat→AV) {b:Nat} {s:SM} {xs ys:List Bool} {h:Hp} (hb:h[b]? = some (ABlk.live 1 (xs.map FU))) (hl:ys.length=xs.length) (hn:xs.length≤1048576) :
  ACalls (En G) 115 [.own b 0 xs.length,.sl s 1 (ys.map FU)] h fun v H=>v = .tup []∧H=h.set b (ABlk.live 1 ((orL xs ys).map FU)):=by
 refine BX (H:=Hint.none) (enM G) Tryz.func115 rfl (by kernel_rfl) (by kernel_rfl) (Nat.le_of_ble_eq_true (by kernel_rfl)) ?_
 show awp _ _ _ _ _ (EJ _ [] _)
 have hol:=AK1 hl
 have hblt:=CE hb
 simp -implicitDefEqProofs only [A8,BM,AX,AZ,AU,A9,AL,AO,AJ,BA,AR,AC,AA,AY,AQ,BD,BB,C8,AB,BC,BP,↓reduceIte,Option.getD_some,Bool.not_false,enP,Z4,List.length_map]
 refine CS (fun n F H => ∃ k,n+k=ys.length∧F 0 = .own b 0 xs.length∧F 6 = .sl s 1 (ys.map FU)∧F 7 = .int .i64 (ys.length:Nat)∧F 8 = .int .i64 (k:Nat)∧H=h.set b (ABlk.live 1 (((orL xs ys).take k ++ xs.drop k).map FU))) ys.length
  ⟨0,by simp,by simp -implicitDefEqProofs only [AA,BC,↓reduceIte,Nat.reduceEqDiff],by simp -implicitDefEqProofs only [AA,↓reduceIte,Nat.reduceEqDiff],by simp -implicitDefEqProofs only [AA,↓reduceIte,Nat.reduceEqDiff],by simp -implicitDefEqProofs only [AA,↓reduceIte]; rfl,by rw [List.take_zero,List.nil_append,List.drop_zero]; exact (AO3 hb).symm⟩ ?_
 rintro n F H ⟨k,hk,f0,f6,f7,f8,rfl⟩
 simp -implicitDefEqProofs only [A8,AX,BF,AZ,AU,A9,AL,AO,AJ,BA,AR,AC,AA,AY,BN,AB,CO,↓reduceIte,Option.getD_some,Bool.not_false,enP,f7,f8]
 refine CG (fun hc => ?_) (fun hc => ?_)
 ·have hk':k < ys.length:=by simpa using hc
  have hkx:k < xs.length:=by omega
  have hko:k < (orL xs ys).length:=by omega
  have hg:(orL xs ys)[k]=(xs[k] || ys[k]):=AVX hko hkx hk'
  have hset:=ALB (f:=FU) hol hko
  rw [hg] at hset
  have hgb:(h.set b (ABlk.live 1 (((orL xs ys).take k ++ xs.drop k).map FU)))[b]? = some (ABlk.live 1 (((orL xs ys).take k ++ xs.drop k).map FU)):=EI hb
  have hm:=ALC hol hkx
  have hrow:(((orL xs ys).take k ++ xs.drop k).map FU)[k]? = some (FU xs[k]):=by rw [List.getElem?_map,hm]; rfl
  have hld:D7 Tryz.prog (h.set b (ABlk.live 1 (((orL xs ys).take k ++ xs.drop k).map FU))) 4 (.ptr b k 0)=some (.bool xs[k]):=by rw [DX ag4 hgb hrow]; rfl
  have hix:KL 1 (h.set b (ABlk.live 1 (((orL xs ys).take k ++ xs.drop k).map FU))) (.own b 0 xs.length) (.int .i64 (k:Int))=some (.ptr b k 0):=by rw [Q7 hgb hkx,Nat.zero_add]
  have hst : ∀ z:Bool,FQ Tryz.prog (h.set b (ABlk.live 1 (((orL xs ys).take k ++ xs.drop k).map FU))) 4 (.ptr b k 0) (.bool z)=some ((h.set b (ABlk.live 1 (((orL xs ys).take k ++ xs.drop k).map FU))).set b (ABlk.live 1 ((((orL xs ys).take k ++ xs.drop k).map FU).set k (FU z)))):=fun z=>stB hgb ⟨_,hrow⟩
  have hyl:D7 Tryz.prog (h.set b (ABlk.live 1 (((orL xs ys).take k ++ xs.drop k).map FU))) 4 (.fptr 1 (ys.map FU) k 0)=some (.bool ys[k]):=by rw [CP ag4 hk']; rfl
  simp -implicitDefEqProofs only [A8,BM,AX,BK,AZ,AU,A9,BH,BQ,BZ,AL,AO,AJ,BA,AR,AC,AA,AY,BB,A7,BL,BU,AB,↓reduceIte,Nat.reduceEqDiff,Option.getD_some,Bool.not_false,enP,Z7,f0,f6,f8,CW hk',hyl,hix,hld]
  cases hx:xs[k]
  ·rw [hx] at hset
   simp -implicitDefEqProofs only [AX,AZ,DU,DZ,AU,A9,EH,AL,AO,AJ,BA,AR,AC,EQ,AA,AY,AQ,BD,BI,BB,CF,DK,EC,BN,BU,AB,DF,CR,↓reduceIte,Nat.reduceEqDiff,Option.getD_some,Bool.not_false,enP,Z7,Option.getD_none,f0,f8,hix,hst]
   rw [Bool.false_or] at hset
   rw [hset,List.set_set]
   simp -implicitDefEqProofs only [f8,CB (show k < 9223372036854775807 by omega)]
   exact ⟨n - 1,by omega,k+1,by omega,trivial,f6,f7,rfl,rfl⟩
  ·rw [hx] at hset
   simp -implicitDefEqProofs only [AX,AZ,DU,DZ,AU,A9,FN,AL,AO,AJ,BA,AR,AC,EQ,AA,EM,AY,AQ,BD,BI,BB,CF,DJ,EC,BN,BU,AB,DF,CR,↓reduceIte,Nat.reduceEqDiff,Option.getD_some,Bool.not_false,enP,Z7,Option.getD_none,f0,f8,hix,hst]
   rw [Bool.true_or] at hset
   rw [hset,List.set_set]
   simp -implicitDefEqProofs only [f8,CB (show k < 9223372036854775807 by omega)]
   exact ⟨n - 1,by omega,k+1,by omega,trivial,f6,f7,rfl,rfl⟩
 ·have hk' : ¬ k < ys.length:=by simpa using hc
  rw [List.take_of_length_le (by omega),List.drop_eq_nil_of_le (by omega),List.append_nil]
  simp -implicitDefEqProofs only [CU,DR,EB,EF,AE0,↓reduceIte]
  exact ⟨trivial,trivial⟩
end Go.Proofs.YtocilianjfhifaaGreatDoor.Rk
/- rank: none, best, reached, open; no condition but the variables that are laid, the bounds on lengths, and cover.tuple's contract. -/
set_option linter.unusedSimpArgs false
set_option maxRecDepth 8000
namespace Go.Proofs.YtocilianjfhifaaGreatDoor.Rk
open Go Go.Proofs Go.Proofs.YtocilianjfhifaaGreatDoor.Sm Go.Proofs.YtocilianjfhifaaGreatDoor.Bins Go.Proofs.YtocilianjfhifaaGreatDoor.Cov Go.RowKit

def IC (r:List Bool):List AV := [.sl .any 1 (r.map FU)]
theorem RA (r:List Bool):(IC r)[0]? = some (.sl .any 1 (r.map FU)):=rfl
theorem AXS:Frz IC:=fun _ _ _ _=>⟨rfl,rfl⟩
theorem mkB (h:Hp) (n:Nat) (hn:n≤1048576):IY Tryz.prog true h 146 (.int .i64 (n:Int)) (.int .i64 (n:Int))=some (.own h.length 0 n,h ++ [ABlk.live 1 ((List.replicate n false).map FU)]):=by
 have hz:L8 Tryz.prog 4=some [.bool false]:=by kernel_rfl
 have hs:szO Tryz.prog 4=some 1:=by kernel_rfl
 have hb:KD Tryz.prog 4=some 1:=by kernel_rfl
 have hr:room n 1:=JY (by omega) (by omega)
 unfold IY
 simp only [ACE,hs,hb,hz,Int.toNat_natCast]
 rw [if_pos ⟨by omega,Int.le_refl _,hr,rfl⟩]
 simp [FU]
theorem VE (G:Nat→AV) (s:SM) (h:Hp):PCall (En G) 112 [.sl s 1 []] h (.sl .nil 0 []):=by
 refine BX (H:=Hint.none) (enM G) Tryz.func112 rfl (by kernel_rfl) (by kernel_rfl) (Nat.le_of_ble_eq_true (by kernel_rfl)) ?_
 show awp _ _ _ _ _ (EJ _ [.tmp 2] _)
 have e:(((([]:List (List AV)).length:Nat):Int) == 0)=true:=rfl
 simp -implicitDefEqProofs only [A8,AX,BJ,BF,AZ,CJ,CK,DI,AU,A9,AL,AO,AJ,BA,AR,AC,AA,AY,AQ,BD,EX,BB,A7,BN,C8,AB,D9,BC,↓reduceIte,Nat.reduceEqDiff,Option.getD_some,Bool.not_false,enP,O0,e]
 exact ⟨trivial,trivial⟩
theorem AM3 (G:Nat→AV) (s:SM) (V:List (List Bool)) (h:Hp) (h0:0 < V.length) (hn:V[0].length≤1048576) (hV:V.length≤1048576) :
  ACalls (En G) 112 [.sl s 1 (V.map IC)] h fun v H=>v = .own h.length 0 V[0].length∧H=h ++ [ABlk.live 1 ((List.replicate V[0].length false).map FU)]:=by
 refine BX (H:=Hint.none) (enM G) Tryz.func112 rfl (by kernel_rfl) (by kernel_rfl) (Nat.le_of_ble_eq_true (by kernel_rfl)) ?_
 show awp _ _ _ _ _ (EJ _ [.tmp 2] _)
 have e:(((V.length:Nat):Int) == 0)=false:=by rw [beq_eq_false_iff_ne]; omega
 have i0 : ∀ H:Hp,KL 1 H (.sl s 1 (V.map IC)) (.int .i64 0)=some (.fptr 1 (V.map IC) 0 0):=fun H=>CW h0
 simp -implicitDefEqProofs only [A8,AX,BK,BJ,BF,AZ,CK,DL,AU,A9,AL,AO,AJ,BA,AR,AC,AA,AY,AQ,BD,EX,BB,A7,BL,BN,I9,BU,C8,BO,AB,D9,BC,↓reduceIte,Nat.reduceEqDiff,Option.getD_some,Bool.not_false,enP,VI,O0,Z4,List.length_map,e,i0,CP UI h0,RA,mkB _ _ hn]
 exact ⟨by first | trivial | rfl,by first | trivial | rfl⟩
theorem ALK (h:Hp) (b:Nat) (i:Nat) (hi:i < 1024):FW Tryz.prog h 149 (.ptr b 0 0) (.int .i64 (i:Int))=some (.ptr b 0 i):=by
 have hu:Tryz.prog.underlying 149=some (.array 1024 3):=by kernel_rfl
 simp only [FW,hu,sz3]
 rw [if_pos ⟨by omega,by omega⟩]
 simp
theorem AN4 (G:Nat→AV) (f:Nat→Nat) (n:Nat) (row:List AV) (b:Nat) (h:Hp) (hb:h[b]? = some (ABlk.live 1024 [row])) (hr : ∀ i,i < n→row[i]? = some (.int .i64 (f i:Nat))) (hn:n≤1024) :
  PCall (En G) 114 [.ptr b 0 0,.int .i64 (n:Nat)] h (.int .i64 (IJ f n:Nat)):=by
 refine BX (H:=Hint.none) (enM G) Tryz.func114 rfl (by kernel_rfl) (by kernel_rfl) (Nat.le_of_ble_eq_true (by kernel_rfl)) ?_
 show awp _ _ _ _ _ (EJ _ [.tmp 4] _)
 simp -implicitDefEqProofs only [A8,BM,AX,AZ,AU,A9,AL,AO,AJ,BA,AR,AC,AA,AY,AQ,BD,BB,A7,BC,BP,↓reduceIte,Nat.reduceEqDiff,Option.getD_some,Bool.not_false,enP]
 refine CS (fun k F H => ∃ i,k+i=n∧F 0 = .ptr b 0 0∧F 5 = .int .i64 (IJ f i:Nat)∧F 7 = .int .i64 (n:Nat)∧F 8 = .int .i64 (i:Nat)∧H=h) n ⟨0,by simp,by simp -implicitDefEqProofs only [AA,BC,↓reduceIte,Nat.reduceEqDiff],by simp -implicitDefEqProofs only [AA,↓reduceIte,Nat.reduceEqDiff]; rfl,by simp -implicitDefEqProofs only [AA,↓reduceIte,Nat.reduceEqDiff],by simp -implicitDefEqProofs only [AA,↓reduceIte]; rfl,rfl⟩ ?_
 rintro k F H ⟨i,hi,f0,f5,f7,f8,rfl⟩
 simp -implicitDefEqProofs only [A8,AX,BF,AZ,AU,A9,AL,AO,AJ,BA,AR,AC,AA,AY,BN,AB,CO,↓reduceIte,Option.getD_some,Bool.not_false,enP,f7,f8]
 refine CG (fun hc => ?_) (fun hc => ?_)
 ·have hi':i < n:=by simpa using hc
  have hbl:IJ f i < n:=by
   rcases Nat.eq_zero_or_pos i with rfl | hp
   ·exact hi'
   ·have:=OQ f i hp; omega
  have l1:D7 Tryz.prog H 3 (.ptr b 0 i)=some (.int .i64 (f i:Nat)):=by rw [DX ag3 hb (row:=row) rfl,hr i hi']
  have l2:D7 Tryz.prog H 3 (.ptr b 0 (IJ f i))=some (.int .i64 (f (IJ f i):Nat)):=by rw [DX ag3 hb (row:=row) rfl,hr _ hbl]
  simp -implicitDefEqProofs only [A8,BM,AX,BK,AZ,AU,A9,AL,AO,AJ,BA,AR,AC,AA,AY,BB,A7,↓reduceIte,Nat.reduceEqDiff,Option.getD_some,Bool.not_false,f8]
  refine EG (by kernel_rfl) ?_
  simp -implicitDefEqProofs only [FJ,DT,CZ,EO,DV,ET,EN,GK,DN,BF,AZ,AL,AA,AY,BL,BN,BU,AB,EK,↓reduceIte,Nat.reduceEqDiff,Nat.reduceAdd,Option.getD_some,enP,H9,M3,JH,f0,f5,f8,ALK _ _ i (by omega),ALK _ _ (IJ f i) (by omega),l1,l2]
  refine CG (fun hg => ?_) (fun hg => ?_)
  ·have hg':f i > f (IJ f i):=by simp at hg; omega
   simp -implicitDefEqProofs only [AX,AZ,DU,DZ,AU,A9,AL,AO,AJ,BA,AR,AC,AA,AY,AQ,BD,BB,A7,BN,AB,CR,↓reduceIte,Nat.reduceEqDiff,Option.getD_some,Bool.not_false,enP,f8,CB (show i < 9223372036854775807 by omega)]
   exact ⟨k - 1,by omega,i+1,by omega,f0,by unfold IJ; rw [if_pos hg'],f7,rfl,trivial⟩
  ·have hg' : ¬ f i > f (IJ f i):=by simp at hg; omega
   simp -implicitDefEqProofs only [AX,BK,AZ,DU,DZ,AU,A9,AL,AO,AJ,BA,AR,AC,AA,AY,AQ,BD,BB,BN,AB,CR,↓reduceIte,Nat.reduceEqDiff,Option.getD_some,Bool.not_false,enP,f8,CB (show i < 9223372036854775807 by omega)]
   exact ⟨k - 1,by omega,i+1,by omega,f0,by rw [f5,IJ,if_neg hg'],f7,rfl,trivial⟩
 ·have h1 : ¬ i < n:=by simpa using hc
  obtain rfl:i=n:=by omega
  simp -implicitDefEqProofs only [A8,AX,BJ,CU,AZ,DR,EB,EF,CK,AU,A9,AL,AO,AJ,BA,AR,AC,AA,AY,BB,A7,↓reduceIte,Nat.reduceEqDiff,Option.getD_some,Bool.not_false,f5]
  exact ⟨by first | trivial | rfl,trivial⟩
end Go.Proofs.YtocilianjfhifaaGreatDoor.Rk
/- rank: reached, open; no condition but the variables that are laid, the bounds on lengths, and cover.tuple's contract. -/
set_option linter.unusedSimpArgs false
set_option maxRecDepth 8000
namespace Go.Proofs.YtocilianjfhifaaGreatDoor.Rk
open Go Go.Proofs Go.Proofs.YtocilianjfhifaaGreatDoor.Sm Go.Proofs.YtocilianjfhifaaGreatDoor.Bins Go.Proofs.YtocilianjfhifaaGreatDoor.Cov Go.RowKit

theorem AYP (h:Hp):JN Tryz.prog h 106=some (.ptr h.length 0 0,h ++ [ABlk.live 3 [[.bool false,.int .i64 0,.sl .nil 0 []]]]):=JC (row := [.bool false,.int .i64 0,.sl .nil 0 []]) (by kernel_rfl)
theorem AO0 (h:Hp) (g:Gl):FQ Tryz.prog (h ++ [ABlk.live 3 [[.bool false,.int .i64 0,.sl .nil 0 []]]]) 106 (.ptr h.length 0 0) (.agg (I8 g))=some (h ++ [ABlk.live 3 [I8 g]]):=by
 rw [NL (cs:=I8 g) (row := [.bool false,.int .i64 0,.sl .nil 0 []]) rfl TY (CQ _ _) (by exact Nat.le_refl 3),PN]
 rfl
theorem AZE {H:Hp} {b:Nat} {g:Gl} (hb:H[b]? = some (ABlk.live 3 [I8 g])):D7 Tryz.prog H 106 (.ptr b 0 0)=some (.agg (I8 g)):=by
 rw [IK AIC TY hb rfl (by rw [VT]; exact Nat.le_refl 3)]; rfl
/-- a slice of the call's own, handed back -/
theorem AUN {E:Env} {f:FuncId} {args:List AV} {h:Hp} (xs:List Bool) (hc:ACalls E f args h fun v H=>ext h H∧∃ o,h.length≤o∧v = .own o 0 xs.length∧H[o]? = some (ABlk.live 1 (xs.map FU))):PCall E f args h (.sl .any 1 (xs.map FU)):=by
 refine ACalls.pure 2 hc ?_
 rintro v H ⟨he,o,ho,rfl,hb⟩
 refine ⟨he,?_⟩
 exact VM AXU (n:=h.length) (d:=0) ho hb
set_option maxHeartbeats 2000000 in
theorem AD4 (G:Nat→AV) (hG:GOk G) (hT:I4 G) (m:Mo) (v:Cvr) (hm:MoOk m) (hv:CvOk v) (hf:E9 m v=true) (s:SM) (h:Hp) :
  PCall (En G) 175 [.agg (DC m),.sl s 3 ((goals m).map I8),.agg (D5 v)] h (.sl .any 1 ((row m v).map FU)):=by
 have hg:=JF (KS hf)
 have hgl:=J4 hg
 have hgb:=AJL hg
 have hdf:=AEH m
 have hlf:=AJK hf
 have hrl:(row m v).length=(goals m).length:=by unfold row; rw [List.length_map]
 have hrow : ∀ k (hk:k < (goals m).length) (hk':k < (row m v).length),(row m v)[k]=hit v (goals m)[k]:=fun k hk hk'=>AVT m v hk
 refine AUN _ ?_
 refine BX (H:=Hint.none) (enM G) Tryz.func175 rfl (by kernel_rfl) (by kernel_rfl) (Nat.le_of_ble_eq_true (by kernel_rfl)) ?_
 show awp _ _ _ _ _ (EJ _ [.tmp 6] _)
 have t:=TwoV.mk' h m v
 simp -implicitDefEqProofs only [A8,AX,AZ,AU,A9,AL,AO,AJ,BA,AR,AC,AA,AY,AQ,EX,A7,EW,BL,BO,BC,BP,↓reduceIte,Nat.reduceEqDiff,Option.getD_some,Bool.not_false,enP,bxM,bxV]
 generalize h ++ [ABlk.live 2 [DC m]] ++ [ABlk.live 4 [D5 v]]=H at t ⊢
 generalize (h ++ [ABlk.live 2 [DC m]]).length=vb at t ⊢
 simp -implicitDefEqProofs only [AU,AL,AO,AJ,BA,AR,AC,AA,AY,BS,BL,BV,BR,AB,List.map_cons,List.map_nil,List.append_nil,↓reduceIte,Nat.reduceEqDiff,Option.getD_some,Bool.not_false,enP,ldM t.gm,ldV t.gv]
 refine (AAB G hG hT m v hm hv _).use ?_
 rw [hlf]
 generalize nm (left (goals m) v 0)=hs
 generalize row m v=rw' at hrl hrow ⊢
 generalize goals m=gs at hgl hgb hdf hrl hrow ⊢
 have hx0:ext h H:=t.hx
 have hle:h.length≤H.length:=hx0.le
 simp -implicitDefEqProofs only [A8,BM,AX,AZ,AU,A9,AL,AO,AJ,BA,AR,AC,AA,AY,AQ,BD,BB,A7,I9,C8,BO,AB,BC,BP,↓reduceIte,Nat.reduceEqDiff,Option.getD_some,Bool.not_false,enP,ASY,List.length_map,mkB _ _ (show gs.length≤1048576 by omega)]
 have hob:=CQ H (ABlk.live 1 ((List.replicate gs.length false).map FU))
 have hx1:ext h (H ++ [ABlk.live 1 ((List.replicate gs.length false).map FU)]):=hx0.app _
 have hzl:rw'.length=(List.replicate gs.length false).length:=by rw [List.length_replicate]; exact hrl
 refine CS (fun n F H' => ∃ k,n+k=gs.length∧F 7 = .sl hs 3 ((left gs v k).map I8)∧F 8 = .own H.length 0 gs.length∧F 17 = .sl s 3 (gs.map I8)∧F 18 = .int .i64 (gs.length:Nat)∧F 19 = .int .i64 (k:Nat)∧ext h H'∧H'[H.length]? = some (ABlk.live 1 ((rw'.take k ++ (List.replicate gs.length false).drop k).map FU))) gs.length
  ⟨0,by simp,by simp -implicitDefEqProofs only [AA,↓reduceIte,Nat.reduceEqDiff],by simp -implicitDefEqProofs only [AA,↓reduceIte,Nat.reduceEqDiff],by simp -implicitDefEqProofs only [AA,↓reduceIte,Nat.reduceEqDiff],by simp -implicitDefEqProofs only [AA,↓reduceIte,Nat.reduceEqDiff],by simp -implicitDefEqProofs only [AA,↓reduceIte]; rfl,hx1,by rw [List.take_zero,List.nil_append,List.drop_zero]; exact hob⟩ ?_
 clear hob hx1
 rintro n F H' ⟨k,hk,f7,f8,f17,f18,f19,he,hb⟩
 have hlt:=CE hb
 simp -implicitDefEqProofs only [A8,AX,BF,AZ,AU,A9,AL,AO,AJ,BA,AR,AC,AA,AY,BN,AB,CO,↓reduceIte,Option.getD_some,Bool.not_false,enP,f18,f19]
 refine CG (fun hc => ?_) (fun hc => ?_)
 ·have hk':k < gs.length:=by simpa using hc
  have hkr:k < rw'.length:=by omega
  have hkz:k < (List.replicate gs.length false).length:=by omega
  have hrk:=hrow k hk' hkr
  have hset:=ALB (f:=FU) hzl hkr
  have hm:=ALC hzl hkz
  have hrowk:((rw'.take k ++ (List.replicate gs.length false).drop k).map FU)[k]? = some (FU (List.replicate gs.length false)[k]):=by rw [List.getElem?_map,hm]; rfl
  have hb1:=C9 (x := .live 3 [I8 gs[k]]) hb
  have he1:=he.app [ABlk.live 3 [I8 gs[k]]]
  have gT:=AZE (CQ H' (ABlk.live 3 [I8 gs[k]]))
  simp -implicitDefEqProofs only [A8,BM,AX,BK,AZ,AU,A9,AL,AO,AJ,BA,AR,AC,EQ,AA,AY,BB,A7,FL,BL,EC,BU,BO,AB,DF,↓reduceIte,Nat.reduceEqDiff,Option.getD_some,Bool.not_false,enP,AV5,Option.getD_none,f17,f19,CW hk',ES AIC TY VT hk',AYP,AO0]
  cases hh:hit v gs[k]
  ·have hlm:=AM8 hk' hh
   have hL0:(left gs v k)[0]? = some gs[k]:=by rw [hlm]; rfl
   have hpos:0 < (left gs v k).length:=by rw [hlm]; simp
   have hget:(left gs v k)[0]=gs[k]:=by
    rw [List.getElem?_eq_getElem hpos] at hL0; exact Option.some.inj hL0
   have hd1:decide ((((left gs v k).length:Nat):Int) > 0)=true:=by rw [decide_eq_true_iff]; omega
   have hdrop:(left gs v k).drop 1=left gs v (k+1):=by rw [hlm]; rfl
   have i0 : ∀ H:Hp,KL 3 H (.sl hs 3 ((left gs v k).map I8)) (.int .i64 0)=some (.fptr 3 ((left gs v k).map I8) 0 0):=fun H=>CW hpos
   have hcall:=ACJ G gs[k] gs[k] (H' ++ [ABlk.live 3 [I8 gs[k]]]) (hgb _ (List.getElem_mem hk'))
   rw [AQE] at hcall
   have hsl:=AKS AVI TY (h:=H' ++ [ABlk.live 3 [I8 gs[k]]]) (m:=hs) (kk := .i64) (xs:=(left gs v k).map I8) (l:=1) (by rw [List.length_map]; omega)
   rw [← List.map_drop,hdrop] at hsl
   have hsl':LM Tryz.prog (H' ++ [ABlk.live 3 [I8 gs[k]]]) 32 (.sl hs 3 ((left gs v k).map I8)) (some (.int .i64 1)) none none=some (.sl hs 3 ((left gs v (k+1)).map I8)):=hsl
   refine EG (by kernel_rfl) ?_
   simp -implicitDefEqProofs only [FJ,DT,CZ,EO,DV,EY,FR,QU,ET,G6,EN,GK,DN,FX,FP,FD,BF,AZ,BZ,AL,AA,AY,AQ,BS,BD,BI,CF,DJ,BL,BN,BU,C8,AB,EK,List.map_cons,List.map_nil,List.append_nil,↓reduceIte,Nat.reduceEqDiff,Nat.reduceAdd,Option.getD_some,enP,AV5,ASY,f7,List.length_map,hd1,gT,i0,ES AIC TY VT hpos,hget]
   refine ⟨_,hcall,?_⟩
   try simp -implicitDefEqProofs only [Option.map_some,Option.map_none,A8,AX,CU,AZ,DR,EB,DZ,DI,AU,A9,AL,AO,AJ,BA,AR,AC,AA,AY,AQ,BD,BB,A7,BN,PL,AB,CR,↓reduceIte,Nat.reduceEqDiff,Option.getD_some,Bool.not_false,enP,f7,hsl',f19,CB (show k < 9223372036854775807 by omega)]
   refine ⟨n - 1,by omega,k+1,by omega,rfl,f8,f17,f18,rfl,he1,?_⟩
   rw [hrk,hh] at hset
   rw [hb1,← hset]
   congr 2
   have hz:(List.replicate gs.length false)[k]=false:=by simp
   rw [hz] at hrowk
   obtain ⟨q1,q2⟩:=List.getElem?_eq_some_iff.1 hrowk
   rw [← q2,List.set_getElem_self]
  ·have hlh:=APJ hk' hh
   have hne:=AS0 (v:=v) hdf hk'
   have hst:=stB (x:=true) hb1 ⟨_,hrowk⟩
   rw [hrk,hh] at hset
   rw [hset] at hst
   have hkO:k < gs.length:=hk'
   have hix : ∀ Hq:Hp,Hq[H.length]? = some (ABlk.live 1 ((rw'.take k ++ (List.replicate gs.length false).drop k).map FU))→KL 1 Hq (.own H.length 0 gs.length) (.int .i64 (k:Int))=some (.ptr H.length k 0):=fun Hq hq=>by rw [Q7 hq hkO,Nat.zero_add]
   have hend:ext h ((H' ++ [ABlk.live 3 [I8 gs[k]]]).set H.length (ABlk.live 1 ((rw'.take (k+1) ++ (List.replicate gs.length false).drop (k+1)).map FU)))∧((H' ++ [ABlk.live 3 [I8 gs[k]]]).set H.length (ABlk.live 1 ((rw'.take (k+1) ++ (List.replicate gs.length false).drop (k+1)).map FU)))[H.length]? = some (ABlk.live 1 ((rw'.take (k+1) ++ (List.replicate gs.length false).drop (k+1)).map FU)) :=
    ⟨he1.set hle _,EI hb1⟩
   refine EG (by kernel_rfl) ?_
   by_cases hpos:0 < (left gs v k).length
   ·have hd1:decide ((((left gs v k).length:Nat):Int) > 0)=true:=by rw [decide_eq_true_iff]; omega
    have i0 : ∀ H:Hp,KL 3 H (.sl hs 3 ((left gs v k).map I8)) (.int .i64 0)=some (.fptr 3 ((left gs v k).map I8) 0 0):=fun H=>CW hpos
    have hmem:(left gs v k)[0]∈left gs v (k+1):=by rw [← hlh]; exact List.getElem_mem hpos
    have hin:(left gs v k)[0]∈gs:=List.mem_of_mem_drop (List.mem_filter.1 (show (left gs v k)[0]∈(gs.drop k).filter _ from List.getElem_mem hpos)).1
    have hcall:=ACJ G gs[k] (left gs v k)[0] (H' ++ [ABlk.live 3 [I8 gs[k]]]) (hgb _ hin)
    rw [hne _ hmem] at hcall
    simp -implicitDefEqProofs only [FJ,DT,CZ,EO,DV,EY,FR,QU,ET,G6,EN,GK,DN,FX,FP,FD,BF,AZ,BZ,AL,AA,AY,AQ,BS,BD,BI,CF,DJ,BL,BN,BU,C8,AB,EK,List.map_cons,List.map_nil,List.append_nil,↓reduceIte,Nat.reduceEqDiff,Nat.reduceAdd,Option.getD_some,enP,AV5,ASY,f7,List.length_map,hd1,gT,i0,ES AIC TY VT hpos]
    refine ⟨_,hcall,?_⟩
    try simp -implicitDefEqProofs only [AX,BK,AZ,DU,DZ,DL,AU,A9,AL,AO,AJ,BA,AR,AC,EQ,AA,AY,AQ,BD,BI,BB,EC,BN,BU,AB,DF,CR,↓reduceIte,Nat.reduceEqDiff,Option.getD_some,Bool.not_false,enP,Z7,Option.getD_none,f8,hix _ hb1,hst,f19,CB (show k < 9223372036854775807 by omega)]
    exact ⟨n - 1,by omega,k+1,by omega,by first | rw [f7,hlh] | rw [hlh],by first | exact f8 | trivial,f17,f18,rfl,hend.1,hend.2⟩
   ·have hd0:decide ((((left gs v k).length:Nat):Int) > 0)=false:=by rw [decide_eq_false_iff_not]; omega
    simp -implicitDefEqProofs only [FJ,DT,CZ,EO,DV,EY,FR,ABL,ET,G6,GK,FX,AX,BK,BF,AZ,DU,DZ,DL,AU,A9,BZ,AL,AO,AJ,BA,AR,AC,EQ,AA,EM,AY,AQ,BD,BI,BB,CF,DK,EC,BN,BU,C8,AB,DF,CR,EK,↓reduceIte,Nat.reduceEqDiff,Nat.reduceAdd,Option.getD_some,Bool.not_false,enP,ASY,Z7,Option.getD_none,f7,List.length_map,hd0,f8,hix _ hb1,hst,f19,CB (show k < 9223372036854775807 by omega)]
    exact ⟨n - 1,by omega,k+1,by omega,by first | rw [f7,hlh] | rw [hlh],by first | exact f8 | trivial,f17,f18,rfl,hend.1,hend.2⟩
 ·have hk' : ¬ k < gs.length:=by simpa using hc
  rw [List.take_of_length_le (by omega),List.drop_eq_nil_of_le (by rw [List.length_replicate]; omega),List.append_nil] at hb
  simp -implicitDefEqProofs only [A8,AX,BJ,CU,AZ,DR,EB,EF,CK,AU,A9,AL,AO,AJ,BA,AR,AC,AA,AY,BB,A7,↓reduceIte,Nat.reduceEqDiff,Option.getD_some,Bool.not_false,f8]
  exact ⟨he,H.length,hle,by rw [hrl],hb⟩
theorem AJI (G:Nat→AV) (xs:List Cvr) (m:SM) (fid:FuncId) (caps:List AV) (p:Cvr→Bool) (h:Hp) (hl:xs.length≤1099511627776)
  (hf : ∀ v∈xs,PCall (En G) fid (.agg (D5 v) :: caps) h (.bool (p v))) :
  PCall (En G) 222 [.sl m 4 (xs.map D5),.fn (.func fid) [] caps] h (.int .i64 (match xs.findIdx? p with | some i=>(i:Int) | none => -1)):=by
 refine BX (H:=Hint.none) (enM G) Tryz.func222 rfl (by kernel_rfl) (by kernel_rfl) (Nat.le_of_ble_eq_true (by kernel_rfl)) ?_
 show awp _ _ _ _ _ (EJ _ [.tmp 4] _)
 simp -implicitDefEqProofs only [A8,BM,AX,AZ,AU,A9,AL,AO,AJ,BA,AR,AC,AA,AY,AQ,BD,BB,A7,C8,AB,BC,↓reduceIte,Nat.reduceEqDiff,Option.getD_some,Bool.not_false,enP,OY,List.length_map]
 refine CS (fun n F H => ∃ k,n+k=xs.length∧F 0 = .sl m 4 (xs.map D5)∧F 1 = .fn (.func fid) [] caps∧F 7 = .int .i64 xs.length∧F 8 = .int .i64 (k:Nat)∧H=h∧(xs.take k).all (fun r => !p r)=true) xs.length ⟨0,by simp,rfl,rfl,rfl,rfl,rfl,rfl⟩ ?_
 rintro n F H ⟨k,hk,f0,f1,f7,f8,rfl,hin⟩
 simp -implicitDefEqProofs only [A8,AX,BF,AZ,AU,A9,AL,AO,AJ,BA,AR,AC,AA,AY,BN,AB,CO,↓reduceIte,Option.getD_some,Bool.not_false,enP,f0,f1,f7,f8,List.length_map]
 refine CG (fun hc => ?_) (fun hc => ?_)
 ·have hc':k < xs.length:=by simpa using hc
  simp -implicitDefEqProofs only [A8,BM,AX,BK,AZ,AU,A9,AL,AO,AJ,BA,AR,AC,AA,AY,BB,A7,BL,BU,BV,BR,AB,List.map_cons,List.map_nil,List.nil_append,List.cons_append,↓reduceIte,Nat.reduceEqDiff,Option.getD_some,Bool.not_false,enP,X6,f0,f1,f7,f8,CW hc',ES V6 PY JQ hc']
  refine (hf _ (List.getElem_mem hc')).use ?_
  simp -implicitDefEqProofs only [BF,AZ,A9,AC,AA,AY,↓reduceIte]
  refine CG (fun hb => ?_) (fun hb => ?_)
  ·simp -implicitDefEqProofs only [A8,AX,BJ,AZ,CJ,D6,EZ,CK,AU,A9,AL,AO,AJ,BA,AR,AC,AA,AY,BB,A7,↓reduceIte,Nat.reduceEqDiff,Option.getD_some,Bool.not_false]
   refine ⟨?_,trivial⟩
   rw [List.findIdx?_eq_some_iff_getElem.2 ⟨hc',hb,fun j hj=>by
    rw [List.all_eq_true] at hin
    have:=hin xs[j] (by rw [List.mem_take_iff_getElem]; exact ⟨j,by omega,rfl⟩)
    simpa using this⟩]
  ·simp -implicitDefEqProofs only [AX,BK,AZ,DU,DZ,AU,A9,AL,AO,AJ,BA,AR,AC,AA,AY,AQ,BD,BB,BN,AB,CR,↓reduceIte,Nat.reduceEqDiff,Option.getD_some,Bool.not_false,enP,f8,CB (show k < 9223372036854775807 by omega)]
   refine ⟨n - 1,by omega,k+1,by omega,f0,f1,f7,rfl,trivial,?_⟩
   rw [List.take_succ_eq_append_getElem hc',List.all_append,hin]
   simp only [List.all_cons,List.all_nil,hb]; rfl
 ·have hc' : ¬ k < xs.length:=by simpa using hc
  simp -implicitDefEqProofs only [A8,AX,BJ,CU,AZ,DR,EB,EF,CK,AU,A9,AL,AO,AJ,BA,AR,AC,AA,AQ,BD,A7,↓reduceIte,Option.getD_some,Bool.not_false]
  refine ⟨?_,trivial⟩
  rw [List.take_of_length_le (by omega)] at hin
  rw [List.findIdx?_eq_none_iff.2 (by simpa using hin)]
theorem UG (G:Nat→AV) (xs:List Cvr) (m:SM) (fid:FuncId) (caps:List AV) (p:Cvr→Bool) (h:Hp) (hl:xs.length≤1099511627776)
  (hf : ∀ v∈xs,PCall (En G) fid (.agg (D5 v) :: caps) h (.bool (p v))) :
  PCall (En G) 173 [.sl m 4 (xs.map D5),.fn (.func fid) [] caps] h (.bool (xs.any p)):=by
 refine BX (H:=Hint.none) (enM G) Tryz.func173 rfl (by kernel_rfl) (by kernel_rfl) (Nat.le_of_ble_eq_true (by kernel_rfl)) ?_
 show awp _ _ _ _ _ (EJ _ [.tmp 4] _)
 simp -implicitDefEqProofs only [A8,AX,AZ,AU,A9,AL,AO,AJ,BA,AR,AC,AA,AY,AQ,BS,BI,BB,A7,BV,BR,BC,BP,List.map_cons,List.map_nil,List.append_nil,↓reduceIte,Nat.reduceEqDiff,Option.getD_some,Bool.not_false,enP]
 refine (AJI G xs m fid caps p h hl hf).use ?_
 simp -implicitDefEqProofs only [BJ,AZ,CK,AU,A9,AL,AO,AJ,BA,AR,AC,AA,AY,AQ,BD,A7,BN,AB,F3,↓reduceIte,Option.getD_some,Bool.not_false,enP]
 refine ⟨?_,trivial⟩
 cases hx:xs.findIdx? p with
 | some i =>
   obtain ⟨h1,h2,_⟩:=List.findIdx?_eq_some_iff_getElem.1 hx
   have:xs.any p=true:=List.any_eq_true.2 ⟨xs[i],by simp,h2⟩
   simp [this]
 | none =>
   have:xs.any p=false:=by
    rw [List.findIdx?_eq_none_iff] at hx
    rw [List.any_eq_false]; intro x hx2; simp [hx x hx2]
   simp [this]
theorem AFM (G:Nat→AV) (hG:GOk G) (hT:I4 G) (m:Mo) (b:Nat) (v:Cvr) (hm:MoOk m) (hv:CvOk v) (h:Hp) (hb:h[b]? = some (ABlk.live 2 [DC m])):PCall (En G) 174 [.agg (D5 v),.ptr b 0 0] h (.bool (!E9 m v)):=by
 refine ACalls.pure0 rfl ?_
 refine BX (H:=Hint.none) (enM G) Tryz.func174 rfl (by kernel_rfl) (by kernel_rfl) (Nat.le_of_ble_eq_true (by kernel_rfl)) ?_
 show awp _ _ _ _ _ (EJ _ [.tmp 3] _)
 have gT:=ldV (CQ h (ABlk.live 4 [D5 v]))
 simp -implicitDefEqProofs only [A8,AX,AZ,AU,A9,AL,AO,AJ,BA,AR,AC,AA,AY,AQ,BS,BI,A7,EW,BL,BV,BR,BO,AB,BC,BP,List.map_cons,List.map_nil,List.append_nil,↓reduceIte,Nat.reduceEqDiff,Option.getD_some,Bool.not_false,enP,bxV,ldM (C9 (x := .live 4 [D5 v]) hb),gT]
 refine (TP G hG hT m v hm hv _).use ?_
 simp -implicitDefEqProofs only [BJ,AZ,CK,AU,A9,AL,AO,AJ,BA,AR,AC,AA,AY,A7,F9,AB,ER,↓reduceIte,Option.getD_some,Bool.not_false]
 exact ⟨by first | trivial | rfl,_,rfl⟩
end Go.Proofs.YtocilianjfhifaaGreatDoor.Rk
/- rank: open; no condition but the variables that are laid, the bounds on lengths, and cover.tuple's contract. -/
set_option linter.unusedSimpArgs false
set_option maxRecDepth 8000
namespace Go.Proofs.YtocilianjfhifaaGreatDoor.Rk
open Go Go.Proofs Go.Proofs.YtocilianjfhifaaGreatDoor.Sm Go.Proofs.YtocilianjfhifaaGreatDoor.Bins Go.Proofs.YtocilianjfhifaaGreatDoor.Cov Go.RowKit

def IW (m:Mo) (l:List Cvr):List (List Bool):=l.map (row m)
theorem NK (m:Mo) (l:List Cvr):(IW m l).length=l.length:=by unfold IW; rw [List.length_map]
theorem N7 (m:Mo) (l:List Cvr) {i:Nat} (hi:i < l.length) (hi':i < (IW m l).length):(IW m l)[i]=row m l[i]:=List.getElem_map (row m)
def opL (m:Mo) (l:List Cvr) (most:Nat):List (List Bool):=if GQ m l most=0 then IW m l else []
def opM (m:Mo) (l:List Cvr) (most:Nat):SM:=if GQ m l most=0 then (match l with | [] => .full | _ => .any) else .nil
theorem ATS (h:Hp):FC Tryz.prog false h 143 0 []=some (.sl .full 1 [],h):=by kernel_rfl
theorem AYB (h:Hp) (s:SM) (k:Nat) (xs:List (List AV)):FC Tryz.prog false h 143 1 [(0,.sl s k xs)]=some (.sl .full 1 [[.sl s k xs]],h):=by kernel_rfl
/-- the vectors so far -/
def opSt (h:Hp) (vs:List (List Bool)) (v:AV) (H:Hp):Prop:=(vs = []∧v = .sl .full 1 [])∨(vs≠[]∧outG 1 IC h vs v H)
theorem opSt.app {h H:Hp} {vs:List (List Bool)} {v:AV} (hs:opSt h vs v H) (he:ext h H) (hl:vs.length≤1048576) (r:List Bool) :
  ∃ v' H',F5 Tryz.prog true H 143 143 v (.sl .full 1 [IC r])=some (v',H')∧opSt h (vs ++ [r]) v' H'∧ext h H'∧∀ b x,b < h.length→H[b]? = some x→H'[b]? = some x:=by
 have AOJ:PG Tryz.prog 146=some 1:=by kernel_rfl
 have AQY:KD Tryz.prog 146=some 24:=by kernel_rfl
 rcases hs with ⟨rfl,rfl⟩ | ⟨hne,ho⟩
 ·refine ⟨_,_,ABA AUG AOY AOJ AQY (J7 H .full 1 [IC r]) (by simp) (JY (by simp) (by omega)),.inr ⟨by simp,.inr ⟨by simp,H.length,he.le,by simp,by simp⟩⟩,he.app _,fun b x _ hb=>H6 hb⟩
 ·obtain ⟨v',H',h1,h2,h3,h4,h5,h6,h7⟩:=ho.app2 AUG AOY AOJ AQY (by omega) (by omega) he.le r
  refine ⟨v',H',h1,.inr ⟨by simp,h2⟩,h7 h (Nat.le_refl _) he,fun b x hb hx=>h3 b x hx fun hB => ?_⟩
  have:=ho.lt hB
  omega
theorem opSt.ext {h H:Hp} {vs:List (List Bool)} {v:AV} (hs:opSt h vs v H) (x:Hp):opSt h vs v (H ++ x):=by
 rcases hs with h1 | ⟨h1,h2⟩
 ·exact .inl h1
 ·exact .inr ⟨h1,h2.app x⟩
def vsM (vs:List (List Bool)):SM:=match vs with
 | [] => .full
 | _ => .any
/-- frozen -/
theorem AM1 {E:Env} {f:FuncId} {args:List AV} {h:Hp} (vs:List (List Bool)) (e:Int) (hc:ACalls E f args h fun v H=>ext h H∧∃ w,v = .tup [w,.int .i64 e]∧opSt h vs w H) :
  PCall E f args h (.tup [.sl (vsM vs) 1 (vs.map IC),.int .i64 e]):=by
 refine ACalls.pure 3 hc ?_
 rintro v H ⟨he,w,rfl,hs⟩
 refine ⟨he,?_⟩
 show AV.tup [IM h.length H 2 w,.int .i64 e]=_
 rcases hs with ⟨rfl,rfl⟩ | ⟨hne,ho⟩
 ·rfl
 ·rw [O4 AXS ho h.length 0 (Nat.le_refl _)]
  cases vs with
  | nil=>exact absurd rfl hne
  | cons a bs=>rfl
set_option maxHeartbeats 2000000 in
theorem MG (G:Nat→AV) (hG:GOk G) (hT:I4 G) (m:Mo) (l:List Cvr) (s:SM) (most:Nat) (hm:MoOk m) (hl : ∀ v∈l,CvOk v) (hn:l.length≤1048576) (h:Hp) :
  PCall (En G) 111 [.agg (DC m),.sl s 4 (l.map D5),.int .i64 (most:Nat)] h (.tup [.sl (opM m l most) 1 ((opL m l most).map IC),.int .i64 (GQ m l most)]):=by
 by_cases hz:GQ m l most=0
 ·obtain ⟨h1,h2,h3⟩:=I6.1 hz
  have hem:emV m=JG m:=by unfold emV; rw [if_pos h1]
  have hfe:=MI h1
  have hoe:=NC hfe
  have hgl:=J4 (JF h1)
  have hany:(l.any fun v => !E9 m v)=false:=by
   rw [List.any_eq_false]; intro v hv; rw [h3 v hv]; simp
  have hres:(AV.tup [.sl (opM m l most) 1 ((opL m l most).map IC),.int .i64 (GQ m l most)]) = .tup [.sl (vsM (IW m l)) 1 ((IW m l).map IC),.int .i64 0]:=by
   unfold opM opL
   rw [if_pos hz,if_pos hz,hz]
   cases l <;> rfl
  rw [hres]
  refine AM1 (IW m l) 0 ?_
  refine BX (H:=Hint.none) (enM G) Tryz.func111 rfl (by kernel_rfl) (by kernel_rfl) (Nat.le_of_ble_eq_true (by kernel_rfl)) ?_
  show awp _ _ _ _ _ (EJ _ [.tmp 6,.tmp 7] _)
  have gm:=CQ h (ABlk.live 2 [DC m])
  have hx:ext h (h ++ [ABlk.live 2 [DC m]]):=(ext.rfl' h).app _
  simp -implicitDefEqProofs only [A8,AX,AZ,AU,A9,AL,AO,AJ,BA,AR,AC,AA,AY,AQ,BD,EX,A7,EW,BL,BO,BC,↓reduceIte,Nat.reduceEqDiff,Option.getD_some,Bool.not_false,enP,bxM]
  generalize h ++ [ABlk.live 2 [DC m]]=H0 at gm hx ⊢
  obtain ⟨s1,s2,g8,_,hx5⟩:=AS2 H0 (emV m) (emT m)
  have gm5:=GN hx5 gm
  have hx6:=hx.trans hx5
  simp -implicitDefEqProofs only [AU,AL,AO,AJ,BA,AR,AC,AA,AY,BS,BV,BR,AB,List.map_cons,List.map_nil,List.append_nil,↓reduceIte,Option.getD_some,Bool.not_false,ldM gm]
  refine (U5 G hG m hm _).use ?_
  have z0:((0:Int) == 0)=true:=rfl
  have hmo:decide (((l.length:Nat):Int) > ((most:Nat):Int))=false:=by simp; omega
  simp -implicitDefEqProofs only [List.getElem?_cons_zero,List.getElem?_cons_succ,A8,BM,AX,BF,AZ,DL,AU,A9,AL,AO,AJ,BA,AR,AC,EQ,AA,AY,AQ,BS,BD,BB,A7,FL,EC,BN,KO,D8,FB,C8,BV,BR,BO,AB,DF,ED,EK,BC,BP,List.map_cons,List.map_nil,List.append_nil,↓reduceIte,Nat.reduceEqDiff,Option.getD_some,Bool.not_true,Bool.not_false,enP,OY,Option.getD_none,KN,ACA,s1,s2,h1,bne,z0,List.length_map,hmo]
  generalize ((H0 ++ [ABlk.live 4 [FV]] ++ [ABlk.live 1 [IZ]]).set H0.length (ABlk.live 4 [D5 (emV m)])).set (H0 ++ [ABlk.live 4 [FV]]).length (ABlk.live 1 [MW (emT m)])=H1 at g8 gm5 hx6 ⊢
  rw [hem] at g8
  generalize H0.length=b8 at g8 ⊢
  clear s1 s2 hx5 gm hx
  refine (UG G l s 174 [.ptr h.length 0 0] (fun v => !E9 m v) H1 (by omega) (fun v hv=>AFM G hG hT m h.length v hm (hl v hv) H1 gm5)).use ?_
  simp -implicitDefEqProofs only [A8,AX,BK,BF,AZ,DU,DL,AU,A9,AL,AO,AJ,BA,AR,AC,AA,AY,BS,A7,BL,BV,BR,AB,List.map_cons,List.map_nil,List.append_nil,↓reduceIte,Nat.reduceEqDiff,Option.getD_some,Bool.not_false,enP,hany,ldM gm5,ldV g8]
  refine (AAB G hG hT m (JG m) hm hoe _).use ?_
  rw [AGX h1]
  simp -implicitDefEqProofs only [E8,A8,BM,AX,AZ,AU,A9,AL,AO,AJ,BA,AR,AC,AA,AY,AQ,BD,BB,A7,EA,C8,BO,AB,BC,BP,↓reduceIte,Nat.reduceEqDiff,Option.getD_some,Bool.not_false,enP,OY,ATS,List.length_map]
  refine CS (fun n F H => ∃ i,n+i=l.length∧F 3 = .ptr h.length 0 0∧F 11 = .sl (nm (goals m)) 3 ((goals m).map I8)∧F 38 = .sl s 4 (l.map D5)∧F 39 = .int .i64 (l.length:Nat)∧F 40 = .int .i64 (i:Nat)∧Sm.ext h H∧H[h.length]? = some (ABlk.live 2 [DC m])∧opSt H1 ((IW m l).take i) (F 12) H∧Sm.ext H1 H) l.length
   ⟨0,by simp,by simp -implicitDefEqProofs only [AA,↓reduceIte,Nat.reduceEqDiff],by simp -implicitDefEqProofs only [AA,↓reduceIte,Nat.reduceEqDiff],by simp -implicitDefEqProofs only [AA,↓reduceIte,Nat.reduceEqDiff],by simp -implicitDefEqProofs only [AA,↓reduceIte,Nat.reduceEqDiff],by simp -implicitDefEqProofs only [AA,↓reduceIte]; rfl,hx6,gm5,.inl ⟨rfl,by simp -implicitDefEqProofs only [AA,↓reduceIte,Nat.reduceEqDiff]⟩,ext.rfl' _⟩ ?_
  rintro n F H ⟨i,hi,f3,f11,f38,f39,f40,he,gm,ho,he1⟩
  simp -implicitDefEqProofs only [A8,AX,BF,AZ,AU,A9,AL,AO,AJ,BA,AR,AC,AA,AY,BN,AB,CO,↓reduceIte,Option.getD_some,Bool.not_false,enP,f39,f40]
  refine CG (fun hc => ?_) (fun hc => ?_)
  ·have hi':i < l.length:=by simpa using hc
   have hiv:i < (IW m l).length:=by unfold IW; rw [List.length_map]; exact hi'
   have hve:=N7 m l hi' hiv
   have gm1:=C9 (x := .live 4 [D5 l[i]]) gm
   have gT:=ldV (CQ H (ABlk.live 4 [D5 l[i]]))
   obtain ⟨v',H',q1,q2,q3,q4⟩:=(ho.ext [ABlk.live 4 [D5 l[i]]]).app (he1.app _) (by rw [List.length_take]; omega) (row m l[i])
   rw [← hve,← List.take_succ_eq_append_getElem hiv] at q2
   simp -implicitDefEqProofs only [A8,BM,AX,BK,AZ,AU,A9,AL,AO,AJ,BA,AR,AC,EQ,AA,AY,BS,BB,FL,BL,EC,BU,BV,BR,BO,AB,DF,List.map_cons,List.map_nil,List.append_nil,↓reduceIte,Nat.reduceEqDiff,Option.getD_some,Bool.not_false,enP,X6,Option.getD_none,f38,f40,CW hi',ES V6 PY JQ hi',KN,OW,f3,f11,ldM gm1,gT]
   refine (AD4 G hG hT m l[i] hm (hl _ (List.getElem_mem hi')) (h3 _ (List.getElem_mem hi')) _ _).use ?_
   simp -implicitDefEqProofs only [E8,FI,AU,AL,AO,AJ,BA,AR,AC,AA,AY,EA,FT,BO,↓reduceIte,Nat.reduceEqDiff,Option.getD_some,Bool.not_false,enP,AYB]
   refine FK (v:=v') (h:=H') q1 ?_
   simp -implicitDefEqProofs only [AX,AZ,DU,DZ,AU,A9,AL,AO,AJ,BA,AR,AC,AA,AY,AQ,BD,BB,A7,BN,AB,CR,↓reduceIte,Nat.reduceEqDiff,Option.getD_some,Bool.not_false,enP,f40,CB (show i < 9223372036854775807 by omega)]
   exact ⟨n - 1,by omega,i+1,by omega,f3,f11,f38,f39,rfl,hx6.trans q3,q4 _ _ (CE gm5) gm1,q2,q3⟩
  ·have hi' : ¬ i < l.length:=by simpa using hc
   rw [List.take_of_length_le (by unfold IW; rw [List.length_map]; omega)] at ho
   simp -implicitDefEqProofs only [A8,AX,BJ,CU,AZ,DR,EB,EF,F6,AU,A9,AL,AO,AJ,BA,AR,AC,AA,AY,AQ,BD,BB,A7,↓reduceIte,Nat.reduceEqDiff,Option.getD_some,Bool.not_false]
   refine ⟨he,F 12,rfl,?_⟩
   rcases ho with ho | ⟨ho1,ho2⟩
   ·exact .inl ho
   ·exact .inr ⟨ho1,ho2.base hx6.le⟩
 ·have hres:(AV.tup [.sl (opM m l most) 1 ((opL m l most).map IC),.int .i64 (GQ m l most)]) = .tup [.sl .nil 1 [],.int .i64 (GQ m l most)]:=by
   unfold opM opL
   rw [if_neg hz,if_neg hz]; rfl
  rw [hres]
  refine PCall.res (r := .tup [.sl .nil 0 [],.int .i64 (GQ m l most)]) ?_ (CvR.tup (CvRL.cons (CvR.sl (Cv.nil 0 1)) (CvRL.refl _)))
  refine LU 3 (fun n H=>rfl) ?_
  refine BX (H:=Hint.none) (enM G) Tryz.func111 rfl (by kernel_rfl) (by kernel_rfl) (Nat.le_of_ble_eq_true (by kernel_rfl)) ?_
  show awp _ _ _ _ _ (EJ _ [.tmp 6,.tmp 7] _)
  have gm:=CQ h (ABlk.live 2 [DC m])
  have hx:ext h (h ++ [ABlk.live 2 [DC m]]):=(ext.rfl' h).app _
  simp -implicitDefEqProofs only [A8,AX,AZ,AU,A9,AL,AO,AJ,BA,AR,AC,AA,AY,AQ,BD,EX,A7,EW,BL,BO,BC,↓reduceIte,Nat.reduceEqDiff,Option.getD_some,Bool.not_false,enP,bxM]
  generalize h ++ [ABlk.live 2 [DC m]]=H0 at gm hx ⊢
  obtain ⟨s1,s2,g8,_,hx5⟩:=AS2 H0 (emV m) (emT m)
  have gm5:=GN hx5 gm
  have hx6:=hx.trans hx5
  simp -implicitDefEqProofs only [AU,AL,AO,AJ,BA,AR,AC,AA,AY,BS,BV,BR,AB,List.map_cons,List.map_nil,List.append_nil,↓reduceIte,Option.getD_some,Bool.not_false,ldM gm]
  refine (U5 G hG m hm _).use ?_
  simp -implicitDefEqProofs only [List.getElem?_cons_zero,List.getElem?_cons_succ,A8,BM,AX,BF,AZ,AU,A9,AL,AO,AJ,BA,AR,AC,EQ,AA,AY,AQ,BD,BB,A7,FL,EC,BN,D8,FB,BO,AB,DF,ED,↓reduceIte,Nat.reduceEqDiff,Option.getD_some,Bool.not_false,enP,Option.getD_none,KN,ACA,s1,s2,bne]
  generalize ((H0 ++ [ABlk.live 4 [FV]] ++ [ABlk.live 1 [IZ]]).set H0.length (ABlk.live 4 [D5 (emV m)])).set (H0 ++ [ABlk.live 4 [FV]]).length (ABlk.live 1 [MW (emT m)])=H1 at g8 gm5 hx6 ⊢
  clear s1 s2 hx5 gm hx g8
  cases h1:(FH m == 0)
  ·have h1':FH m≠0:=by simpa using h1
   simp -implicitDefEqProofs only [A8,AX,BJ,AZ,CJ,D6,F6,DI,AU,A9,AL,AO,AJ,BA,AR,AC,AA,AY,AQ,EX,BB,A7,↓reduceIte,Nat.reduceEqDiff,Option.getD_some,Bool.not_false]
   exact ⟨by unfold GQ; rw [if_pos h1'],hx6⟩
  have h1':FH m=0:=by simpa using h1
  simp -implicitDefEqProofs only [A8,AX,BF,AZ,DL,AU,A9,AL,AO,AJ,BA,AR,AC,AA,AY,BB,A7,BN,C8,AB,EK,BC,BP,↓reduceIte,Nat.reduceEqDiff,Option.getD_some,Bool.not_true,Bool.not_false,enP,OY,List.length_map]
  refine CG (fun h2 => ?_) (fun h2 => ?_)
  ·have h2':most < l.length:=by simp at h2; omega
   simp -implicitDefEqProofs only [A8,AX,BJ,AZ,CJ,D6,F6,AU,A9,AL,AO,AJ,BA,AR,AC,AA,AQ,BD,EX,A7,↓reduceIte,Nat.reduceEqDiff,Option.getD_some,Bool.not_false]
   exact ⟨by unfold GQ; rw [if_neg (by simp [h1']),if_pos h2'],hx6⟩
  have h2' : ¬ most < l.length:=by simp at h2; omega
  have hall : ¬ l.all (E9 m)=true:=fun e=>hz (by unfold GQ; rw [if_neg (by simp [h1']),if_neg h2',if_pos e])
  have hany:(l.any fun v => !E9 m v)=true:=by
   rw [List.any_eq_true]
   have hall':l.all (E9 m)=false:=by rw [← Bool.not_eq_true]; exact hall
   rw [List.all_eq_false] at hall'
   obtain ⟨v,hv,hf⟩:=hall'
   exact ⟨v,hv,by simpa using hf⟩
  simp -implicitDefEqProofs only [A8,AX,AU,AL,AO,AJ,BA,AR,AC,AA,AY,BS,BB,KO,BV,BR,BC,BP,List.map_cons,List.map_nil,List.append_nil,↓reduceIte,Nat.reduceEqDiff,Option.getD_some,Bool.not_false]
  refine (UG G l s 174 [.ptr h.length 0 0] (fun v => !E9 m v) H1 (by omega) (fun v hv=>AFM G hG hT m h.length v hm (hl v hv) H1 gm5)).use ?_
  simp -implicitDefEqProofs only [A8,AX,BJ,BF,AZ,CJ,D6,F6,DI,AU,A9,AL,AO,AJ,BA,AR,AC,AA,AY,AQ,BD,EX,A7,↓reduceIte,Nat.reduceEqDiff,Option.getD_some,Bool.not_false,hany]
  exact ⟨by unfold GQ; rw [if_neg (by simp [h1']),if_neg h2',if_neg hall],hx6⟩
end Go.Proofs.YtocilianjfhifaaGreatDoor.Rk
/- rank.Greedy; no condition but the variables that are laid, the bounds on lengths, and cover.tuple's contract. -/
set_option linter.unusedSimpArgs false
set_option maxRecDepth 8000
namespace Go.Proofs.YtocilianjfhifaaGreatDoor.Rk
open Go Go.Proofs Go.Proofs.YtocilianjfhifaaGreatDoor.Sm Go.Proofs.YtocilianjfhifaaGreatDoor.Bins Go.Proofs.YtocilianjfhifaaGreatDoor.Cov Go.RowKit

/-- a list of numbers that has grown, handed back with an error -/
theorem M6 {E:Env} {f:FuncId} {args:List AV} {h:Hp} (xs:List Nat) (e:Int) (hc:ACalls E f args h fun v H=>ext h H∧∃ w,v = .tup [w,.int .i64 e]∧outG 1 EU h xs w H) :
  PCall E f args h (.tup [.sl (nm xs) 1 (xs.map EU),.int .i64 e]):=by
 have hp:PCall E f args h (.tup [fzG 1 EU xs,.int .i64 e]):=by
  refine ACalls.pure 3 hc ?_
  rintro v H ⟨he,w,rfl,ho⟩
  refine ⟨he,?_⟩
  show AV.tup [IM h.length H 2 w,.int .i64 e]=_
  rw [O4 ANG ho h.length 0 (Nat.le_refl _)]
 exact hp.res (CvR.tup (CvRL.cons UW (CvRL.refl _)))
theorem ACR {E:Env} {f:FuncId} {args:List AV} {h:Hp} (e:Int) (hc:ACalls E f args h fun v H=>v = .tup [.sl .nil 0 [],.int .i64 e]∧ext h H) :
  PCall E f args h (.tup [.sl (nm ([]:List Nat)) 1 (([]:List Nat).map EU),.int .i64 e]) :=
 M6 [] e (hc.mono fun _ _ ⟨hv,hx⟩=>⟨hx,_,hv,outG.nil _ _ _ _⟩)
/-- the vector of what is reached by some -/
def IB (m:Mo) (l:List Cvr) (o:List Nat):List Bool:=(goals m).map (cov (hits l) o)
theorem FY (m:Mo) (l:List Cvr) (o:List Nat):(IB m l o).length=(goals m).length:=by unfold IB; rw [List.length_map]
theorem OB (m:Mo) (v:Cvr):(row m v).length=(goals m).length:=by unfold row; rw [List.length_map]
theorem ADY (m:Mo) (l:List Cvr) (o:List Nat) {i:Nat} (hi:i < l.length):AM5 (IB m l o) (row m l[i])=gain (goals m) (hits l) o i:=by
 unfold IB row
 rw [AGL]
 unfold gain
 exact List.countP_congr fun x _=>by rw [YP hi]
theorem Y6 (m:Mo) (l:List Cvr) (o:List Nat) {i:Nat} (hi:i < l.length):orL (IB m l o) (row m l[i])=IB m l (o ++ [i]):=by
 unfold IB row
 rw [ASB]
 exact List.map_congr_left fun x _=>by rw [AL6,AL5,YP hi]
theorem ART (m:Mo) (l:List Cvr):IB m l []=List.replicate (goals m).length false:=by
 unfold IB cov
 simp [List.map_const']
theorem AME (h:Hp):JN Tryz.prog h 149=some (.ptr h.length 0 0,h ++ [ABlk.live 1024 [List.replicate 1024 (.int .i64 0)]]):=JC (row:=List.replicate 1024 (.int .i64 0)) (by kernel_rfl)
/-- the gains so far -/
def O3 (f:Nat→Nat) (i:Nat):List AV:=(List.range i).map (fun j=>AV.int .i64 (f j:Nat)) ++ List.replicate (1024 - i) (.int .i64 0)
theorem AG0 (f:Nat→Nat) {i:Nat} (hi:i≤1024):(O3 f i).length=1024:=by simp [O3]; omega
theorem AAH (f:Nat→Nat) {i j:Nat} (hj:j < i):(O3 f i)[j]? = some (.int .i64 (f j:Nat)):=by
 unfold O3
 rw [List.getElem?_append_left (by simpa using hj),List.getElem?_map,List.getElem?_range hj]; rfl
theorem AG1 (f:Nat→Nat) {i k:Nat} (hi:i≤1024):(O3 f i)[k]? = if k < i then some (.int .i64 (f k:Nat)) else if k < 1024 then some (.int .i64 0) else none:=by
 split
 ·rename_i h; exact AAH f h
 ·rename_i h
  unfold O3
  rw [List.getElem?_append_right (by simp; omega)]
  simp only [List.length_map,List.length_range]
  split
  ·rename_i h2; rw [List.getElem?_replicate,if_pos (by omega)]
  ·rename_i h2; rw [List.getElem?_replicate,if_neg (by omega)]
theorem APZ (f:Nat→Nat) {i:Nat} (hi:i < 1024):splice (O3 f i) i [.int .i64 (f i:Nat)]=O3 f (i+1):=by
 refine List.ext_getElem? fun k => ?_
 rw [QZ _ _ _ (by rw [AG0 f (by omega)]; simp; omega),AG1 f (by omega),AG1 f (by omega)]
 by_cases h1:k < i
 ·have c1 : ¬ (i≤k∧k < i+[AV.int .i64 (f i:Nat)].length):=by simp only [List.length_singleton]; omega
  have c2:k < i+1:=by omega
  rw [if_neg c1,if_pos h1,if_pos c2]
 ·by_cases h2:k=i
  ·subst h2
   have c1:k≤k∧k < k+[AV.int .i64 (f k:Nat)].length:=by simp only [List.length_singleton]; omega
   have c2:k < k+1:=by omega
   rw [if_pos c1,if_pos c2]; simp
  ·have c1 : ¬ (i≤k∧k < i+[AV.int .i64 (f i:Nat)].length):=by simp only [List.length_singleton]; omega
   have c2 : ¬ k < i+1:=by omega
   rw [if_neg c1,if_neg h1,if_neg c2]
theorem ANF (f:Nat→Nat):O3 f 0=List.replicate 1024 (.int .i64 0):=by simp [O3]
theorem ASA {f:Nat→List AV} {h H:Hp} {ys:List Nat} {v:AV} (ho:outG 1 f h ys v H):JD Tryz.prog 57 v=some (.int .i64 (ys.length:Nat)):=by
 rcases ho with ⟨rfl,rfl⟩ | ⟨_,o,_,rfl,_⟩
 ·rw [GV.1]; rfl
 ·rw [GV.2]
theorem QE (G:Nat→AV) (m:Mo) (l:List Cvr) (s:SM) (h:Hp) (h0:0 < l.length) (hn:l.length≤1048576) (hN:(goals m).length≤1048576) :
  ACalls (En G) 112 [.sl s 1 ((IW m l).map IC)] h fun v H=>v = .own h.length 0 (goals m).length∧H=h ++ [ABlk.live 1 ((IB m l []).map FU)]:=by
 have hl:=NK m l
 have h1:0 < (IW m l).length:=by omega
 have h2:(IW m l)[0].length=(goals m).length:=by rw [N7 m l h0 h1,OB]
 refine (AM3 G s (IW m l) h h1 (by omega) (by omega)).mono fun v H hv => ?_
 rw [h2,← ART m l] at hv
 exact hv
def grL (m:Mo) (l:List Cvr):List Nat:=if GQ m l 1024=0 then KR (goals m) (hits l) l.length l.length [] else []
set_option maxHeartbeats 4000000 in
theorem PX (G:Nat→AV) (hG:GOk G) (hT:I4 G) (m:Mo) (l:List Cvr) (s:SM) (hm:MoOk m) (hl : ∀ v∈l,CvOk v) (hn:l.length≤1048576) (h:Hp) :
  PCall (En G) 55 [.agg (DC m),.sl s 4 (l.map D5)] h (.tup [.sl (nm (grL m l)) 1 ((grL m l).map EU),.int .i64 (GQ m l 1024)]):=by
 have gm:=CQ h (ABlk.live 2 [DC m])
 have hx:ext h (h ++ [ABlk.live 2 [DC m]]):=(ext.rfl' h).app _
 by_cases hz:GQ m l 1024=0
 case neg =>
  have hb:(GQ m l 1024 == 0)=false:=by simpa using hz
  have hgr:grL m l = []:=by unfold grL; rw [if_neg hz]
  rw [hgr]
  refine ACR _ ?_
  refine BX (H:=Hint.none) (enM G) Tryz.func55 rfl (by kernel_rfl) (by kernel_rfl) (Nat.le_of_ble_eq_true (by kernel_rfl)) ?_
  show awp _ _ _ _ _ (EJ _ [.tmp 4,.tmp 5] _)
  simp -implicitDefEqProofs only [A8,AX,AZ,AU,A9,AL,AO,AJ,BA,AR,AC,AA,AY,AQ,BD,EX,A7,EW,BL,BO,BC,↓reduceIte,Nat.reduceEqDiff,Option.getD_some,Bool.not_false,enP,bxM]
  generalize h ++ [ABlk.live 2 [DC m]]=H at gm hx ⊢
  simp -implicitDefEqProofs only [AU,AL,AO,AJ,BA,AR,AC,AA,AY,AQ,BS,BD,BB,BV,BR,AB,BC,BP,List.map_cons,List.map_nil,List.append_nil,↓reduceIte,Nat.reduceEqDiff,Option.getD_some,Bool.not_false,ldM gm]
  refine (MG G hG hT m l s 1024 hm hl hn _).use ?_
  simp -implicitDefEqProofs only [List.getElem?_cons_zero,List.getElem?_cons_succ,A8,AX,BJ,BF,AZ,CJ,F6,DI,AU,A9,AL,AO,AJ,BA,AR,AC,AA,AY,AQ,BD,EX,BB,A7,BN,D8,FB,AB,ED,↓reduceIte,Nat.reduceEqDiff,Option.getD_some,Bool.not_false,enP,bne,hb]
  exact ⟨trivial,hx⟩
 obtain ⟨h1,h2,h3⟩:=I6.1 hz
 have hgl:=J4 (JF h1)
 have hb:((0:Int) == 0)=true:=rfl
 have hgr:grL m l=KR (goals m) (hits l) l.length l.length []:=by unfold grL; rw [if_pos hz]
 have hop:opL m l 1024=IW m l:=by unfold opL; rw [if_pos hz]
 rw [hz]
 refine M6 _ 0 ?_
 refine BX (H:=Hint.none) (enM G) Tryz.func55 rfl (by kernel_rfl) (by kernel_rfl) (Nat.le_of_ble_eq_true (by kernel_rfl)) ?_
 show awp _ _ _ _ _ (EJ _ [.tmp 4,.tmp 5] _)
 simp -implicitDefEqProofs only [A8,AX,AZ,AU,A9,AL,AO,AJ,BA,AR,AC,AA,AY,AQ,BD,EX,A7,EW,BL,BO,BC,↓reduceIte,Nat.reduceEqDiff,Option.getD_some,Bool.not_false,enP,bxM]
 generalize h ++ [ABlk.live 2 [DC m]]=H at gm hx ⊢
 simp -implicitDefEqProofs only [AU,AL,AO,AJ,BA,AR,AC,AA,AY,AQ,BS,BD,BB,BV,BR,AB,BC,BP,List.map_cons,List.map_nil,List.append_nil,↓reduceIte,Nat.reduceEqDiff,Option.getD_some,Bool.not_false,ldM gm]
 refine (MG G hG hT m l s 1024 hm hl hn _).use ?_
 rw [hop,hz]
 generalize opM m l 1024=om
 simp -implicitDefEqProofs only [List.getElem?_cons_zero,List.getElem?_cons_succ,A8,AX,BK,BF,AZ,DL,AU,A9,AL,AO,AJ,BA,AR,AC,AA,AY,AQ,BS,BD,EX,BB,A7,BN,D8,FB,BV,BR,AB,ED,List.map_cons,List.map_nil,List.append_nil,↓reduceIte,Nat.reduceEqDiff,Option.getD_some,Bool.not_true,Bool.not_false,enP,bne,hb]
 have hvl:=NK m l
 rcases Nat.eq_zero_or_pos l.length with hl0 | hl0
 ·have:l = []:=List.eq_nil_of_length_eq_zero hl0
  subst this
  have hv0:IW m [] = []:=rfl
  have hlt:decide (((0:Nat):Int) < ((0:Nat):Int))=false:=rfl
  have hg0:grL m [] = []:=hgr
  simp -implicitDefEqProofs only [List.map_nil,hv0]
  refine (VE G om H).use ?_
  simp -implicitDefEqProofs only [A8,BM,AZ,AU,A9,AL,AO,AJ,BA,AR,AC,AA,AY,A7,↓reduceIte,Option.getD_some,Bool.not_false]
  refine CS (fun n F H'=>F 6 = .sl om 1 []∧F 8 = .sl .nil 0 []∧H'=H) 0 ⟨by simp -implicitDefEqProofs only [AA,↓reduceIte,Nat.reduceEqDiff],by simp -implicitDefEqProofs only [AA,↓reduceIte,Nat.reduceEqDiff],rfl⟩ ?_
  rintro n F H' ⟨f6,f8,rfl⟩
  simp -implicitDefEqProofs only [A8,AX,BJ,CU,BF,AZ,DR,EB,EF,F6,DL,AU,A9,AL,AO,AJ,BA,AR,AC,AA,AY,AQ,BD,BB,A7,BN,C8,AB,CO,↓reduceIte,Nat.reduceEqDiff,Option.getD_some,Bool.not_false,enP,GV,O0,f6,f8,List.length_nil,hlt]
  exact ⟨hx,_,rfl,by rw [hg0]; exact outG.nil _ _ _ _⟩
 refine ACalls.mono (QE G m l om H hl0 hn (by omega)) ?_
 rintro v H0 ⟨rfl,rfl⟩
 have hs0:=CQ H (ABlk.live 1 ((IB m l []).map FU))
 have hx0:ext h (H ++ [ABlk.live 1 ((IB m l []).map FU)]):=hx.app _
 have hsl:H.length < (H ++ [ABlk.live 1 ((IB m l []).map FU)]).length:=by simp
 generalize H ++ [ABlk.live 1 ((IB m l []).map FU)]=H0 at hs0 hx0 hsl ⊢
 have hsb:=hx.le
 generalize H.length=sb at hs0 hsl hsb ⊢
 clear gm hx
 simp -implicitDefEqProofs only [A8,BM,AZ,AU,A9,AL,AO,AJ,BA,AR,AC,AA,AY,A7,↓reduceIte,Option.getD_some,Bool.not_false]
 refine FO 0 (fun F H => ∃ out,KR (goals m) (hits l) l.length l.length []=out∧outG 1 EU H0 out (F 8) H∧ext h H) (fun _ _=>False) ?_ ?_ (fun _ _ hh=>hh.elim)
 ·refine CS (fun n F H => ∃ out w,n+out.length=l.length∧F 6 = .sl om 1 ((IW m l).map IC)∧F 8=w∧outG 1 EU H0 out w H∧F 9 = .own sb 0 (goals m).length∧H[sb]? = some (ABlk.live 1 ((IB m l out).map FU))∧ext h H∧H0.length≤H.length∧(∀ i∈out,i < l.length)∧KR (goals m) (hits l) l.length l.length []=KR (goals m) (hits l) l.length (l.length - out.length) out) l.length
   ⟨[],_,by simp,by simp -implicitDefEqProofs only [AA,↓reduceIte,Nat.reduceEqDiff],by simp -implicitDefEqProofs only [AA,↓reduceIte,Nat.reduceEqDiff],outG.nil _ _ _ _,by simp -implicitDefEqProofs only [AA,↓reduceIte],hs0,hx0,Nat.le_refl _,by simp,by simp⟩ ?_
  clear hs0 hx0
  rintro n F H ⟨out,w,hno,f6,f8,ho,f9,hs,he,hle,hlt,hgd⟩
  have hln:=ASA ho
  simp -implicitDefEqProofs only [A8,AX,BF,AZ,AU,A9,AL,AO,AJ,BA,AR,AC,AA,AY,BB,BN,C8,AB,CO,↓reduceIte,Nat.reduceEqDiff,Option.getD_some,Bool.not_false,enP,O0,f6,f8,hln,List.length_map,hvl]
  refine CG (fun hc => ?_) (fun hc => ?_)
  rotate_left
  ·have:l.length - out.length=0:=by simp at hc; omega
   rw [this] at hgd
   simp -implicitDefEqProofs only [CU,DR,II,EF,AA,↓reduceIte,Nat.reduceEqDiff]
   exact ⟨out,hgd,by rw [f8]; exact ho,he⟩
  have hol:out.length < l.length:=by simpa using hc
  obtain ⟨fu,hfu⟩ : ∃ fu,l.length - out.length=fu+1:=⟨l.length - out.length - 1,by omega⟩
  rw [hfu,KR] at hgd
  simp -implicitDefEqProofs only [A8,BM,AX,BK,AZ,AU,A9,AL,AO,AJ,BA,AR,AC,AA,AY,AQ,BD,BB,FL,C8,BO,AB,↓reduceIte,Nat.reduceEqDiff,Option.getD_some,Bool.not_false,enP,O0,f6,AME,List.length_map,hvl]
  rw [← ANF (gain (goals m) (hits l) out)]
  refine FO 2 (fun F' H'=>F' 6 = .sl om 1 ((IW m l).map IC)∧F' 8=w∧F' 9 = .own sb 0 (goals m).length∧F' 10 = .ptr H.length 0 0∧H'=H ++ [ABlk.live 1024 [O3 (gain (goals m) (hits l) out) l.length]]) (fun _ _=>False) ?_ ?_ (fun _ _ hh=>hh.elim)
  ·refine CS (fun n F' H' => ∃ i,n+i=l.length∧F' 6 = .sl om 1 ((IW m l).map IC)∧F' 8=w∧F' 9 = .own sb 0 (goals m).length∧F' 10 = .ptr H.length 0 0∧F' 30 = .int .i64 (l.length:Nat)∧F' 31 = .int .i64 (i:Nat)∧H'=H ++ [ABlk.live 1024 [O3 (gain (goals m) (hits l) out) i]]) l.length
    ⟨0,by simp,by simp -implicitDefEqProofs only [AA,↓reduceIte,Nat.reduceEqDiff,f6],by simp -implicitDefEqProofs only [AA,↓reduceIte,Nat.reduceEqDiff,f8],by simp -implicitDefEqProofs only [AA,↓reduceIte,Nat.reduceEqDiff,f9],by simp -implicitDefEqProofs only [AA,↓reduceIte,Nat.reduceEqDiff],by simp -implicitDefEqProofs only [AA,↓reduceIte,Nat.reduceEqDiff],by simp -implicitDefEqProofs only [AA,↓reduceIte]; rfl,rfl⟩ ?_
   rintro n' F' H' ⟨i,hi,g6,g8,g9,g10,g30,g31,rfl⟩
   simp -implicitDefEqProofs only [A8,AX,BF,AZ,AU,A9,AL,AO,AJ,BA,AR,AC,AA,AY,BN,AB,CO,↓reduceIte,Option.getD_some,Bool.not_false,enP,g30,g31]
   refine CG (fun hc => ?_) (fun hc => ?_)
   ·have hi':i < l.length:=by simpa using hc
    have hiv:i < (IW m l).length:=by omega
    have hva:=N7 m l hi' hiv
    have hnew:=ADY m l out hi'
    have hs':=C9 (x:=ABlk.live 1024 [O3 (gain (goals m) (hits l) out) i]) hs
    have hr1:Reads (H ++ [ABlk.live 1024 [O3 (gain (goals m) (hits l) out) i]]) (.own sb 0 (goals m).length) (IB m l out):=by
     have:=Reads.own hs'
     rw [FY] at this; exact this
    have hcall:=QI G hr1 (Reads.sl _ .any (row m l[i])) (by rw [OB,FY]) (by rw [FY]; omega)
    rw [hnew] at hcall
    have hst:=NL (P:=Tryz.prog) (t:=3) (b:=H.length) (k:=1024) (j:=i) (row:=O3 (gain (goals m) (hits l) out) i) (cs := [.int .i64 (gain (goals m) (hits l) out i:Nat)]) (v := .int .i64 (gain (goals m) (hits l) out i:Nat)) rfl sz3 (CQ H _) (by rw [AG0 _ (by omega)]; simp; omega)
    rw [APZ _ (show i < 1024 by omega),PN] at hst
    simp -implicitDefEqProofs only [A8,BM,AX,BK,AZ,AU,A9,AL,AO,AJ,BA,AR,AC,AA,AY,BS,BB,A7,BL,BU,BV,BR,AB,List.map_cons,List.map_nil,List.append_nil,↓reduceIte,Nat.reduceEqDiff,Option.getD_some,Bool.not_false,enP,VI,g6,g9,g31,CW hiv,CP UI hiv,RA,hva]
    refine hcall.use ?_
    simp -implicitDefEqProofs only [AX,AZ,DU,DZ,AU,A9,AL,AO,AJ,BA,AR,AC,EQ,AA,AY,AQ,BD,BB,EC,BN,BU,AB,DF,CR,↓reduceIte,Nat.reduceEqDiff,Option.getD_some,Bool.not_false,enP,Option.getD_none,g10,ALK _ _ i (show i < 1024 by omega),hst,g31,CB (show i < 9223372036854775807 by omega)]
    exact ⟨n' - 1,by omega,i+1,by omega,g6,g8,g9,trivial,g30,rfl,rfl⟩
   ·have hi':i=l.length:=by
     have : ¬ i < l.length:=by simpa using hc
     omega
    subst hi'
    simp -implicitDefEqProofs only [CU,DR,II,EF,AA,↓reduceIte,Nat.reduceEqDiff]
    exact ⟨g6,g8,g9,g10,by first | trivial | rfl⟩
  ·rintro F' H' ⟨g6,g8,g9,g10,rfl⟩
   have hgx:=CQ H (ABlk.live 1024 [O3 (gain (goals m) (hits l) out) l.length])
   have hat:=OQ (gain (goals m) (hits l) out) l.length hl0
   have hld:D7 Tryz.prog (H ++ [ABlk.live 1024 [O3 (gain (goals m) (hits l) out) l.length]]) 3 (.ptr H.length 0 (IJ (gain (goals m) (hits l) out) l.length))=some (.int .i64 (gain (goals m) (hits l) out (IJ (gain (goals m) (hits l) out) l.length):Nat)):=by
    rw [DX ag3 hgx (row:=O3 (gain (goals m) (hits l) out) l.length) rfl,AAH _ hat]
   simp -implicitDefEqProofs only [A8,AX,AZ,EB,AU,AL,AO,AJ,BA,AR,AC,AA,AY,BS,BB,C8,BV,BR,AB,List.map_cons,List.map_nil,List.append_nil,↓reduceIte,Nat.reduceEqDiff,Option.getD_some,Bool.not_false,enP,O0,g6,g10,List.length_map,hvl]
   refine (AN4 G (gain (goals m) (hits l) out) l.length _ H.length _ hgx (fun i hi=>AAH _ hi) (by omega)).use ?_
   generalize hav:IJ (gain (goals m) (hits l) out) l.length=a at hat hld hgd ⊢
   simp -implicitDefEqProofs only [A8,AX,BF,AZ,AU,A9,AL,AO,AJ,BA,AR,AC,AA,AY,AQ,BD,BB,A7,BL,BN,BU,AB,D9,↓reduceIte,Nat.reduceEqDiff,Option.getD_some,Bool.not_false,enP,g10,ALK _ _ a (show a < 1024 by omega),hld]
   cases hga:((gain (goals m) (hits l) out a:Int) == 0)
   ·have hga':gain (goals m) (hits l) out a≠0:=fun e=>by rw [e] at hga; cases hga
    rw [if_neg (by rintro (e | e); omega; exact hga' e)] at hgd
    have he1:=he.app [ABlk.live 1024 [O3 (gain (goals m) (hits l) out) l.length]]
    have hs1:=C9 (x:=ABlk.live 1024 [O3 (gain (goals m) (hits l) out) l.length]) hs
    have ho1:=ho.app [ABlk.live 1024 [O3 (gain (goals m) (hits l) out) l.length]]
    have hle1:H0.length≤(H ++ [ABlk.live 1024 [O3 (gain (goals m) (hits l) out) l.length]]).length:=by simp; omega
    generalize H ++ [ABlk.live 1024 [O3 (gain (goals m) (hits l) out) l.length]]=H1 at he1 hs1 ho1 hle1 ⊢
    obtain ⟨w',H2,hap,ho2,hk2,hl2,hn2,⟨o,ol,rfl⟩,hx2⟩:=ho1.app2 ML sz3 RV RF (by omega) (by omega) hle1 a
    have hs2:=hk2 _ _ hs1 (fun hB=>by have:=ho1.lt hB; omega)
    have hav':a < (IW m l).length:=by omega
    have hva:=N7 m l hat hav'
    have hadd:=SY G (s := .any) (ys:=row m l[a]) hs2 (by rw [OB,FY]) (by rw [FY]; omega)
    rw [FY,Y6 m l out hat] at hadd
    simp -implicitDefEqProofs only [E8,FI,A8,AX,BK,AZ,DL,AU,AL,AO,AJ,BA,AR,AC,AA,AY,BB,EA,FT,BO,↓reduceIte,Nat.reduceEqDiff,Option.getD_some,Bool.not_false,enP,g8,U1]
    refine FK (v := .own o 0 ol) (h:=H2) hap ?_
    simp -implicitDefEqProofs only [AX,AZ,AU,A9,AL,AO,AJ,BA,AR,AC,AA,AY,BS,BB,A7,BL,BU,BV,BR,AB,List.map_cons,List.map_nil,List.append_nil,↓reduceIte,Nat.reduceEqDiff,Option.getD_some,Bool.not_false,enP,VI,g6,g9,CW hav',CP UI hav',RA,hva]
    refine ACalls.mono hadd ?_
    rintro v' H3 ⟨rfl,rfl⟩
    simp -implicitDefEqProofs only [DU,DZ,A9,AC,AA,↓reduceIte,Nat.reduceEqDiff]
    refine ⟨n - 1,by omega,out ++ [a],_,by simp; omega,g6,rfl,ho2.setB hsl _,g9,EI hs2,(hx2 h (by omega) he1).set hsb _,by rw [List.length_set]; omega,fun i hi => ?_,?_⟩
    ·rcases List.mem_append.1 hi with hi | hi
     ·exact hlt i hi
     ·simp at hi; omega
    ·rw [hgd]
     congr 1
     simp; omega
   ·have hga':gain (goals m) (hits l) out a=0:=by simpa using hga
    rw [if_pos (.inr hga')] at hgd
    simp -implicitDefEqProofs only [CU,DR,EB,II,EF,DI,AA,↓reduceIte,Nat.reduceEqDiff]
    exact ⟨out,hgd,by rw [g8]; exact ho.app _,he.app _⟩
 ·rintro F H ⟨out,hgd,ho,he⟩
  simp -implicitDefEqProofs only [A8,AX,BJ,AZ,EB,F6,AU,A9,AL,AO,AJ,BA,AR,AC,AA,AY,AQ,BD,BB,A7,↓reduceIte,Nat.reduceEqDiff,Option.getD_some,Bool.not_false]
  exact ⟨he,_,rfl,by rw [hgr,hgd]; exact ho.base (by omega)⟩
end Go.Proofs.YtocilianjfhifaaGreatDoor.Rk
/- The reference's rank: check, together, has; no condition but the variables that are laid, the bounds on lengths. -/
set_option linter.unusedSimpArgs false
set_option maxRecDepth 8000
namespace Go.Proofs.YtocilianjfhifaaGreatDoor.Rk
open Go Go.Proofs Go.Proofs.YtocilianjfhifaaGreatDoor.Sm Go.Proofs.YtocilianjfhifaaGreatDoor.Bins Go.Proofs.YtocilianjfhifaaGreatDoor.Cov Go.RowKit

/-- arguments that stand for the same values -/
theorem ACalls.args {E:Env} {f:FuncId} {as1 as2:List AV} {h:Hp} {R:AV→Hp→Prop} (hc:ACalls E f as2 h R) (ha : ∀ g cargs,RepL g as1 cargs→RepL g as2 cargs):ACalls E f as1 h R :=
 ⟨hc.1,fun g w cargs S hr=>hc.2 g w cargs S (ha g cargs hr)⟩
theorem RepL.nil2 {g:Gh} {a:AV} {k k':Nat} {cargs:Array Value} (h:RepL g [a,.sl .nil k []] cargs):RepL g [a,.sl .nil k' []] cargs:=by
 refine ⟨h.1,fun i v cv h1 h2 => ?_⟩
 match i,h1 with
 | 0,h1=>exact h.2 0 v cv h1 h2
 | 1,h1 =>
   simp at h1; subst h1
   exact AGK (h.2 1 _ cv rfl h2)
/-- a list of numbers that can be read -/
structure ReadsN (H:Hp) (v:AV) (xs:List Nat):Prop where
 ln:JD Tryz.prog 57 v=some (.int .i64 (xs.length:Nat))
 ix : ∀ k (hk:k < xs.length),∃ p,KL 1 H v (.int .i64 (k:Int))=some p∧D7 Tryz.prog H 3 p=some (.int .i64 (xs[k]:Nat))
theorem ReadsN.sl (H:Hp) (s:SM) (xs:List Nat):ReadsN H (.sl s 1 (xs.map EU)) xs :=
 ⟨by rw [GV.1,List.length_map],fun k hk=>⟨_,CW hk,by rw [CP ag3 hk]; rfl⟩⟩
theorem ReadsN.nil (H:Hp) (k:Nat):ReadsN H (.sl .nil k []) []:=⟨by rw [GV.1]; rfl,fun k hk=>absurd hk (by simp)⟩
theorem ReadsN.own {H:Hp} {b:Nat} {xs:List Nat} (hb:H[b]? = some (ABlk.live 1 (xs.map EU))):ReadsN H (.own b 0 xs.length) xs :=
 ⟨by rw [GV.2],fun k hk=>⟨.ptr b k 0,by rw [Q7 hb hk,Nat.zero_add],by rw [DX ag3 hb (row:=EU xs[k]) (AD2 hk)]; rfl⟩⟩
/-- numbers in a slice, wherever it lies -/
def RN (h:Hp) (v:AV) (xs:List Nat):Prop:=(∃ s,v = .sl s 1 (xs.map EU))∨(xs = []∧∃ k,v = .sl .nil k [])∨∃ b,v = .own b 0 xs.length∧h[b]? = some (ABlk.live 1 (xs.map EU))
theorem RN.up {h H:Hp} {v:AV} {xs:List Nat} (hr:RN h v xs) (he:ext h H):RN H v xs:=by
 rcases hr with h1 | h1 | ⟨b,h1,h2⟩
 ·exact .inl h1
 ·exact .inr (.inl h1)
 ·exact .inr (.inr ⟨b,h1,GN he h2⟩)
theorem RN.reads {h:Hp} {v:AV} {xs:List Nat} (hr:RN h v xs):ReadsN h v xs:=by
 rcases hr with ⟨s,rfl⟩ | ⟨rfl,k,rfl⟩ | ⟨b,rfl,h2⟩
 ·exact ReadsN.sl h s xs
 ·exact ReadsN.nil h k
 ·exact ReadsN.own h2
theorem RN.out {h H:Hp} {v:AV} {xs:List Nat} (ho:outG 1 EU h xs v H):RN H v xs:=by
 rcases ho with ⟨rfl,rfl⟩ | ⟨_,o,_,rfl,h3⟩
 ·exact .inr (.inl ⟨rfl,0,rfl⟩)
 ·exact .inr (.inr ⟨o,rfl,h3⟩)
theorem OP (G:Nat→AV) (m:Mo) (l:List Cvr) (s:SM) (most:Nat) (hm:MoOk m) (hl : ∀ v∈l,CvOk v) (hn:l.length≤1048576) (h:Hp) :
  PCall (En G) 116 [.agg (DC m),.sl s 4 (l.map D5),.int .i64 (most:Nat)] h (.int .i64 (GQ m l most)):=by
 refine ACalls.pure0 rfl ?_
 refine BX (H:=Hint.none) (enM G) Tryz.func116 rfl (by kernel_rfl) (by kernel_rfl) (Nat.le_of_ble_eq_true (by kernel_rfl)) ?_
 show awp _ _ _ _ _ (EJ _ [.tmp 6] _)
 have gm:=CQ h (ABlk.live 2 [DC m])
 have hx : ∃ x,h ++ [ABlk.live 2 [DC m]]=h ++ x:=⟨_,rfl⟩
 simp -implicitDefEqProofs only [A8,AX,AZ,AU,A9,AL,AO,AJ,BA,AR,AC,AA,AY,AQ,BD,A7,EW,BL,BO,BC,↓reduceIte,Nat.reduceEqDiff,Option.getD_some,Bool.not_false,enP,bxM]
 generalize h ++ [ABlk.live 2 [DC m]]=H at gm hx ⊢
 simp -implicitDefEqProofs only [AU,AL,AO,AJ,BA,AR,AC,AA,AY,BS,BV,BR,AB,List.map_cons,List.map_nil,List.append_nil,↓reduceIte,Option.getD_some,Bool.not_false,ldM gm]
 refine (OI G m hm _).use ?_
 simp -implicitDefEqProofs only [A8,AX,BF,AZ,AU,A9,AL,AO,AJ,BA,AR,AC,AA,AY,AQ,BD,BB,A7,BN,AB,ED,↓reduceIte,Option.getD_some,Bool.not_false,enP,bne]
 cases h1:(FH m == 0)
 ·have h1':FH m≠0:=by simpa using h1
  simp -implicitDefEqProofs only [A8,AX,BJ,AZ,CJ,CK,DI,AU,A9,AL,AO,AJ,BA,AR,AC,AA,AY,BB,A7,↓reduceIte,Nat.reduceEqDiff,Option.getD_some,Bool.not_false]
  exact ⟨by unfold GQ; rw [if_pos h1'],hx⟩
 have h1':FH m=0:=by simpa using h1
 simp -implicitDefEqProofs only [A8,AX,BK,BF,AZ,DL,AU,A9,AL,AO,AJ,BA,AR,AC,AA,AY,BB,BN,C8,AB,EK,BC,BP,↓reduceIte,Nat.reduceEqDiff,Option.getD_some,Bool.not_true,Bool.not_false,enP,OY,List.length_map]
 refine CG (fun h2 => ?_) (fun h2 => ?_)
 ·have h2':most < l.length:=by simp at h2; omega
  simp -implicitDefEqProofs only [A8,AX,BJ,AZ,CJ,CK,AU,A9,AL,AO,AJ,BA,AR,AC,AA,AQ,BD,A7,↓reduceIte,Option.getD_some,Bool.not_false]
  exact ⟨by unfold GQ; rw [if_neg (by simp [h1']),if_pos h2'],hx⟩
 have h2' : ¬ most < l.length:=by simp at h2; omega
 simp -implicitDefEqProofs only [A8,BM,AX,BK,AZ,AU,A9,AL,AO,AJ,BA,AR,AC,AQ,BD,A7,Option.getD_some,Bool.not_false]
 refine CS (fun n F H' => ∃ i,n+i=l.length∧F 1 = .sl s 4 (l.map D5)∧F 3 = .ptr h.length 0 0∧F 8 = .int .i64 (i:Nat)∧H'=H∧∀ v∈l.take i,E9 m v=true) l.length ⟨0,by simp,by simp -implicitDefEqProofs only [AA,BC,BP,↓reduceIte,Nat.reduceEqDiff],by simp -implicitDefEqProofs only [AA,↓reduceIte,Nat.reduceEqDiff],by simp -implicitDefEqProofs only [AA,↓reduceIte]; rfl,rfl,by simp⟩ ?_
 rintro n F H' ⟨i,hi,f1,f3,f8,rfl,hf⟩
 simp -implicitDefEqProofs only [A8,AX,BF,AZ,AU,A9,AL,AO,AJ,BA,AR,AC,AA,AY,BB,BN,C8,AB,CO,↓reduceIte,Nat.reduceEqDiff,Option.getD_some,Bool.not_false,enP,OY,f1,f8,List.length_map]
 refine CG (fun hc => ?_) (fun hc => ?_)
 ·have hi':i < l.length:=by simpa using hc
  have hmem:=List.getElem_mem hi'
  simp -implicitDefEqProofs only [A8,BM,BK,AZ]
  refine EG (by kernel_rfl) ?_
  simp -implicitDefEqProofs only [FJ,DT,CZ,DV,ET,EN,ADV,DN,FP,FD,AL,AA,AY,BS,BL,F9,BU,AB,List.map_cons,List.map_nil,List.append_nil,↓reduceIte,Nat.reduceEqDiff,Nat.reduceAdd,Option.getD_some,enP,X6,f1,f3,f8,ldM gm,CW hi',ES V6 PY JQ hi']
  refine ⟨_,SI G m l[i] hm (hl _ hmem) _,?_⟩
  try simp -implicitDefEqProofs only [CZ,EO,BF,AZ,AA,AY,AB,ER,↓reduceIte]
  cases hv:E9 m l[i]
  ·simp -implicitDefEqProofs only [A8,AX,BJ,AZ,CJ,D6,EZ,CK,DI,AU,A9,AL,AO,AJ,BA,AR,AC,AA,AQ,BD,A7,↓reduceIte,Option.getD_some,Bool.not_false]
   have hall : ¬ l.all (E9 m)=true:=fun e=>by rw [List.all_eq_true.1 e _ hmem] at hv; cases hv
   exact ⟨by unfold GQ; rw [if_neg (by simp [h1']),if_neg h2',if_neg hall],hx⟩
  ·simp -implicitDefEqProofs only [AX,BK,AZ,DU,DZ,DL,AU,A9,AL,AO,AJ,BA,AR,AC,AA,AY,AQ,BD,BB,A7,BN,AB,CR,↓reduceIte,Nat.reduceEqDiff,Option.getD_some,Bool.not_true,Bool.not_false,enP,f8,CB (show i < 9223372036854775807 by omega)]
   refine ⟨n - 1,by omega,i+1,by omega,f1,f3,rfl,trivial,fun v hv' => ?_⟩
   rw [List.take_succ_eq_append_getElem hi'] at hv'
   rcases List.mem_append.1 hv' with hv' | hv'
   ·exact hf v hv'
   ·simp at hv'; rw [hv']; exact hv
 ·have hi' : ¬ i < l.length:=by simpa using hc
  rw [List.take_of_length_le (by omega)] at hf
  simp -implicitDefEqProofs only [A8,AX,BJ,CU,AZ,DR,EB,EF,CK,AU,A9,AL,AO,AJ,BA,AR,AC,AA,AQ,BD,A7,↓reduceIte,Option.getD_some,Bool.not_false]
  exact ⟨by unfold GQ; rw [if_neg (by simp [h1']),if_neg h2',if_pos (List.all_eq_true.2 hf)],hx⟩
theorem AU7 (h:Hp) (a:Cvr):FC Tryz.prog false h 37 1 [(0,.agg (D5 a))]=some (.sl .full 4 [D5 a],h):=by
 have h1:Tryz.prog.underlying 37=some (.slice 28):=by kernel_rfl
 have h3:PG Tryz.prog 28=some 4:=by kernel_rfl
 unfold FC
 simp only [h1,PY,h3]
 have h2:R7 4 0 [(0,AV.agg (D5 a))]=some [D5 a]:=rfl
 have fr : ∀ x:Cvr,(D5 x).all AV.frozen=true:=fun _=>rfl
 simp [h2,fr]
theorem AUY (xs:List Cvr):LG (xs.map D5)=true:=by
 unfold LG
 rw [List.all_eq_true]
 intro r hr
 obtain ⟨v,_,rfl⟩:=List.mem_map.1 hr
 rfl
theorem AF0 (l:List Cvr) (o:List Nat) (i:Nat) (hi:i < o.length) (hl:o[i] < l.length):sel l (o.take (i+1))=sel l (o.take i) ++ [l[o[i]]]:=by
 unfold sel
 rw [List.take_succ_eq_append_getElem hi,List.map_append]
 simp [List.getD_eq_getElem?_getD,hl]
theorem YJ (l:List Cvr) (o:List Nat):(sel l o).length=o.length:=by unfold sel; rw [List.length_map]
theorem AO4 {l:List Cvr} (hl : ∀ v∈l,CvOk v) {o:List Nat} (ho : ∀ i∈o,i < l.length) : ∀ v∈sel l o,CvOk v:=by
 intro v hv
 obtain ⟨i,hi,rfl⟩:=List.mem_map.1 hv
 have:=ho i hi
 simp only [List.getD_eq_getElem?_getD,List.getElem?_eq_getElem this,Option.getD_some]
 exact hl _ (List.getElem_mem this)
set_option maxHeartbeats 2000000 in
theorem N9 (G:Nat→AV) (m:Mo) (l:List Cvr) (s:SM) (o:List Nat) (w:AV) (hm:MoOk m) (hl : ∀ v∈l,CvOk v) (hn:l.length≤1048576) (ho : ∀ i∈o,i < l.length) (hon:o.length≤1048576) (h:Hp) (hw:RN h w o) :
  PCall (En G) 117 [.agg (DC m),.sl s 4 (l.map D5),w] h (.agg (D5 (LF m (sel l o)))):=by
 refine LU 2 (fun n H=>rfl) ?_
 refine BX (H:=hint [] [(30,[29])]) (enM G) Tryz.func117 rfl (by kernel_rfl) (by kernel_rfl) (Nat.le_of_ble_eq_true (by kernel_rfl)) ?_
 show awp _ _ _ _ _ (EJ _ [.cell 6 28] _)
 have gm:=C9 (x:=ABlk.live 4 [FV]) (CQ h (ABlk.live 2 [DC m]))
 have g6:=CQ (h ++ [ABlk.live 2 [DC m]]) (ABlk.live 4 [FV])
 have hx:ext h (h ++ [ABlk.live 2 [DC m]] ++ [ABlk.live 4 [FV]]):=((ext.rfl' h).app _).app _
 have hlt:h.length < (h ++ [ABlk.live 2 [DC m]]).length:=by simp
 simp -implicitDefEqProofs only [CL,List.contains_nil,Nat.reduceBEq,A8,BM,AX,AZ,AU,A9,AJ,BA,AR,AC,AY,AQ,BD,EX,A7,FL,EW,BO,BC,↓reduceIte,Option.getD_some,Bool.not_false,enP,Bool.false_eq_true,EE,bxM,KN]
 generalize h ++ [ABlk.live 2 [DC m]] ++ [ABlk.live 4 [FV]]=H0 at gm g6 hx ⊢
 generalize (h ++ [ABlk.live 2 [DC m]]).length=b6 at g6 hlt ⊢
 have l6:=CE g6
 have lm:=CE gm
 refine FO 0 (fun F H=>F 3 = .ptr h.length 0 0∧F 6 = .ptr b6 0 0∧outG 4 D5 H0 (sel l o) (F 7) H∧ext H0 H) (fun _ _=>False) ?_ ?_ (fun _ _ hh=>hh.elim)
 ·refine CS (fun n F H => ∃ i v,n+i=o.length∧F 1 = .sl s 4 (l.map D5)∧F 2=w∧F 3 = .ptr h.length 0 0∧F 6 = .ptr b6 0 0∧F 7=v∧F 8 = .int .i64 (i:Nat)∧outG 4 D5 H0 (sel l (o.take i)) v H∧ext H0 H) o.length
   ⟨0,.sl .nil 0 [],by simp,by simp -implicitDefEqProofs only [AA,BC,BP,↓reduceIte,Nat.reduceEqDiff],by simp -implicitDefEqProofs only [AA,BC,BP,↓reduceIte,Nat.reduceEqDiff],by simp -implicitDefEqProofs only [AA,↓reduceIte,Nat.reduceEqDiff],by simp -implicitDefEqProofs only [AA,↓reduceIte,Nat.reduceEqDiff],by simp -implicitDefEqProofs only [AA,↓reduceIte,Nat.reduceEqDiff],by simp -implicitDefEqProofs only [AA,↓reduceIte]; rfl,by rw [List.take_zero]; exact outG.nil _ _ _ _,ext.rfl' _⟩ ?_
  rintro n F H ⟨i,v,hi,f1,f2,f3,f6,f7,f8,hv,he⟩
  have hr:=(hw.up (hx.trans he)).reads
  simp -implicitDefEqProofs only [CL,List.contains_nil,Nat.reduceBEq,A8,AX,BF,AZ,AU,A9,AJ,BA,AR,AC,AA,AY,BB,BN,C8,AB,CO,↓reduceIte,Nat.reduceEqDiff,Option.getD_some,Bool.not_false,enP,Bool.false_eq_true,EE,f2,f8,hr.ln]
  refine CG (fun hc => ?_) (fun hc => ?_)
  ·have hi':i < o.length:=by simpa using hc
   obtain ⟨p,p1,p2⟩:=hr.ix i hi'
   have hoi:=ho _ (List.getElem_mem hi')
   obtain ⟨v',H2,hap,hv2,_,he2,_,_⟩:=hv.append AXB PY AW7 AX4 (by omega) (by rw [YJ,List.length_take]; omega) he l[o[i]]
   rw [← AF0 l o i hi' hoi] at hv2
   simp -implicitDefEqProofs only [E8,FI,CL,List.contains_nil,Nat.reduceBEq,A8,BM,AX,BK,AZ,AU,AJ,BA,AR,AC,AA,AY,BB,EA,BL,BU,FT,BO,AB,↓reduceIte,Nat.reduceEqDiff,Option.getD_some,Bool.not_false,enP,X6,IL,Bool.false_eq_true,EE,f1,f2,f7,f8,p1,p2,CW hoi,ES V6 PY JQ hoi,AU7]
   refine FK (v:=v') (h:=H2) hap ?_
   simp -implicitDefEqProofs only [CL,List.contains_nil,Nat.reduceBEq,AX,AZ,DU,DZ,AU,A9,AJ,BA,AR,AC,AA,AY,AQ,BD,BB,A7,BN,AB,CR,↓reduceIte,Nat.reduceEqDiff,Option.getD_some,Bool.not_false,enP,Bool.false_eq_true,EE,f8,CB (show i < 9223372036854775807 by omega)]
   exact ⟨n - 1,by omega,i+1,v',by omega,f1,f2,f3,f6,rfl,rfl,hv2,he2⟩
  ·have hi' : ¬ i < o.length:=by simpa using hc
   rw [List.take_of_length_le (by omega)] at hv
   simp -implicitDefEqProofs only [CU,DR,II,EF,AA,↓reduceIte,Nat.reduceEqDiff]
   exact ⟨f3,f6,by rw [f7]; exact hv,he⟩
 ·rintro F H ⟨f3,f6,hv,he⟩
  have gm1:=GN he gm
  have g61:=GN he g6
  have hsl:=YJ l o
  have hok:=AO4 hl ho
  rcases hv with ⟨e,f7⟩ | ⟨hne,q,q1,f7,q3⟩
  ·rw [e] at hok hsl ⊢
   have hz:=ALR (H:=H) (i:=29) (k:=0) (m := .nil) (xs := [])
   simp -implicitDefEqProofs only [CL,List.contains_nil,Nat.reduceBEq,A8,AX,AZ,EB,AU,AJ,BA,AR,AC,AA,AY,BS,BB,BL,BV,BR,AB,List.map_cons,List.map_nil,List.append_nil,↓reduceIte,Nat.reduceEqDiff,Option.getD_some,Bool.not_false,enP,Bool.false_eq_true,EE,f3,f7,ldM gm1,NQ,AJ,hz]
   refine ACalls.mono (ACalls.args (AMD G m [] .nil hm (fun v hv=>by cases hv) (by simp) _) (fun g cargs hh=>RepL.nil2 hh)) ?_
   rintro v H' ⟨e1,e2⟩
   rw [e1,e2]
   have gT:=ldV (CQ H (ABlk.live 4 [D5 (LF m [])]))
   have g62:=C9 (x:=ABlk.live 4 [D5 (LF m [])]) g61
   simp -implicitDefEqProofs only [List.getElem?_cons_zero,List.getElem?_cons_succ,CL,List.contains_nil,Nat.reduceBEq,A8,AX,BJ,AZ,AU,A9,AJ,BA,AR,AC,EQ,AA,AY,BB,A7,FL,BL,EC,D8,FB,BO,AB,DF,↓reduceIte,Nat.reduceEqDiff,Option.getD_some,Bool.not_false,enP,Option.getD_none,Bool.false_eq_true,EE,KN,OW,gT,f6,stV g62 rfl]
   rw [AAV (b:=b6) (by simp -implicitDefEqProofs only [AA,↓reduceIte,Nat.reduceEqDiff,f6]) (ldV (EI g62))]
   exact ⟨rfl,(((hx.trans he).app _).set (by omega) _)⟩
  ·have hz:=QK (i:=29) (off:=0) (len:=(sel l o).length) q3 (by simp) (by rw [List.drop_zero,List.take_of_length_le (by simp)]; exact AUY _)
   rw [List.drop_zero,List.take_of_length_le (by simp)] at hz
   have he':ext H0 (H.set q ABlk.dead):=he.set q1 _
   have gm2:=GN he' gm
   have g62:=C9 (x:=ABlk.live 4 [D5 (LF m (sel l o))]) (GN he' g6)
   have gT:=ldV (CQ (H.set q ABlk.dead) (ABlk.live 4 [D5 (LF m (sel l o))]))
   simp -implicitDefEqProofs only [CL,List.contains_nil,Nat.reduceBEq,A8,AX,AZ,EB,AU,AJ,BA,AR,AC,AA,AY,BS,BB,BL,BV,BR,AB,List.map_cons,List.map_nil,List.append_nil,↓reduceIte,Nat.reduceEqDiff,Option.getD_some,Bool.not_false,enP,Bool.false_eq_true,EE,f3,f7,ldM gm1,NQ,AJ,hz]
   refine (AMD G m (sel l o) .any hm hok (by omega) _).use ?_
   simp -implicitDefEqProofs only [List.getElem?_cons_zero,List.getElem?_cons_succ,CL,List.contains_nil,Nat.reduceBEq,A8,AX,BJ,AZ,AU,A9,AJ,BA,AR,AC,EQ,AA,AY,BB,A7,FL,BL,EC,D8,FB,BO,AB,DF,↓reduceIte,Nat.reduceEqDiff,Option.getD_some,Bool.not_false,enP,Option.getD_none,Bool.false_eq_true,EE,KN,OW,gT,f6,stV g62 rfl]
   rw [AAV (b:=b6) (by simp -implicitDefEqProofs only [AA,↓reduceIte,Nat.reduceEqDiff,f6]) (ldV (EI g62))]
   exact ⟨rfl,(((hx.trans he').app _).set (by omega) _)⟩
/-- is a number in a list? -/
def hasB (xs:List Int) (z:Int):Bool:=xs.any fun x=>x == z
theorem APW (G:Nat→AV) (xs:List Int) (s:SM) (z:Int) (h:Hp) (hn:xs.length≤1048576):PCall (En G) 119 [.sl s 1 (xs.map encI),.int .i64 z] h (.bool (hasB xs z)):=by
 refine BX (H:=Hint.none) (enM G) Tryz.func119 rfl (by kernel_rfl) (by kernel_rfl) (Nat.le_of_ble_eq_true (by kernel_rfl)) ?_
 show awp _ _ _ _ _ (EJ _ [.tmp 4] _)
 simp -implicitDefEqProofs only [A8,BM,AX,AZ,AU,A9,AL,AO,AJ,BA,AR,AC,AQ,BD,BI,A7,Option.getD_some,Bool.not_false,enP]
 refine CS (fun n F H => ∃ i,n+i=xs.length∧F 0 = .sl s 1 (xs.map encI)∧F 1 = .int .i64 z∧F 5 = .int .i64 (i:Nat)∧H=h∧hasB xs z=hasB (xs.drop i) z) xs.length ⟨0,by simp,by simp -implicitDefEqProofs only [AA,BC,↓reduceIte,Nat.reduceEqDiff],by simp -implicitDefEqProofs only [AA,BC,BP,↓reduceIte,Nat.reduceEqDiff],by simp -implicitDefEqProofs only [AA,↓reduceIte]; rfl,rfl,rfl⟩ ?_
 rintro n F H ⟨i,hi,f0,f1,f5,rfl,hh⟩
 simp -implicitDefEqProofs only [A8,AX,BF,AZ,AU,A9,AL,AO,AJ,BA,AR,AC,AA,AY,BB,BN,C8,AB,CO,↓reduceIte,Nat.reduceEqDiff,Option.getD_some,Bool.not_false,enP,GV,f0,f5,List.length_map]
 refine CG (fun hc => ?_) (fun hc => ?_)
 ·have hi':i < xs.length:=by simpa using hc
  have hst:hasB (xs.drop i) z=((xs[i] == z) || hasB (xs.drop (i+1)) z):=by rw [List.drop_eq_getElem_cons hi']; rfl
  simp -implicitDefEqProofs only [A8,BM,AX,BK,BF,AZ,AU,A9,AL,AO,AJ,BA,AR,AC,AA,AY,BB,BL,BN,BU,AB,D9,↓reduceIte,Nat.reduceEqDiff,Option.getD_some,Bool.not_false,enP,IL,f0,f1,f5,CW hi',CP ag3 hi',Cov.encI0]
  cases hx:(xs[i] == z)
  ·rw [hx,Bool.false_or] at hst
   simp -implicitDefEqProofs only [AX,BK,AZ,DU,DZ,DL,AU,A9,AL,AO,AJ,BA,AR,AC,AA,AY,AQ,BD,BB,A7,BN,AB,CR,↓reduceIte,Nat.reduceEqDiff,Option.getD_some,Bool.not_false,enP,f5,CB (show i < 9223372036854775807 by omega)]
   exact ⟨n - 1,by omega,i+1,by omega,f0,f1,rfl,trivial,by rw [hh,hst]⟩
  ·rw [hx,Bool.true_or] at hst
   simp -implicitDefEqProofs only [A8,AX,BJ,AZ,CJ,D6,EZ,CK,DI,AU,A9,AL,AO,AJ,BA,AR,AC,AA,AQ,BI,A7,↓reduceIte,Option.getD_some,Bool.not_false]
   exact ⟨by rw [hh,hst],trivial⟩
 ·have hi' : ¬ i < xs.length:=by simpa using hc
  simp -implicitDefEqProofs only [A8,AX,BJ,CU,AZ,DR,EB,EF,CK,AU,A9,AL,AO,AJ,BA,AR,AC,AA,AQ,BI,A7,↓reduceIte,Option.getD_some,Bool.not_false]
  exact ⟨by rw [hh,List.drop_eq_nil_of_le (by omega)]; rfl,trivial⟩
theorem AJG (G:Nat→AV) (xs:List Int) (s:SM) (z:Int) (h:Hp) (hn:xs.length≤1048576) : ∃ k:Int,PCall (En G) 176 [.sl s 1 (xs.map encI),.int .i64 z] h (.int .i64 k)∧decide (k≥0)=hasB xs z:=by
 by_cases hb:hasB xs z=true
 ·obtain ⟨i,hi⟩ : ∃ i,xs.findIdx? (fun x=>x == z)=some i:=by
   cases he:xs.findIdx? (fun x=>x == z) with
   | some i=>exact ⟨i,rfl⟩
   | none =>
     rw [List.findIdx?_eq_none_iff] at he
     unfold hasB at hb
     rw [List.any_eq_true] at hb
     obtain ⟨x,hx,hz⟩:=hb
     rw [he x hx] at hz; cases hz
  refine ⟨(i:Int),?_,by rw [hb]; simp⟩
  obtain ⟨hil,hiz,hbef⟩:=List.findIdx?_eq_some_iff_getElem.1 hi
  refine BX (H:=Hint.none) (enM G) Tryz.func176 rfl (by kernel_rfl) (by kernel_rfl) (Nat.le_of_ble_eq_true (by kernel_rfl)) ?_
  show awp _ _ _ _ _ (EJ _ [.tmp 4] _)
  simp -implicitDefEqProofs only [A8,BM,AX,AZ,AU,A9,AL,AO,AJ,BA,AR,AC,AA,AY,AQ,BD,BB,A7,C8,AB,BC,↓reduceIte,Nat.reduceEqDiff,Option.getD_some,Bool.not_false,enP,GV,List.length_map]
  refine CS (fun n F H => ∃ k,n+k=xs.length∧k≤i∧F 0 = .sl s 1 (xs.map encI)∧F 1 = .int .i64 z∧F 7 = .int .i64 (xs.length:Nat)∧F 8 = .int .i64 (k:Nat)∧H=h) xs.length ⟨0,by simp,by omega,by simp -implicitDefEqProofs only [AA,BC,↓reduceIte,Nat.reduceEqDiff],by simp -implicitDefEqProofs only [AA,BC,BP,↓reduceIte,Nat.reduceEqDiff],by simp -implicitDefEqProofs only [AA,↓reduceIte,Nat.reduceEqDiff],by simp -implicitDefEqProofs only [AA,↓reduceIte]; rfl,rfl⟩ ?_
  rintro n F H ⟨k,hk,hki,f0,f1,f7,f8,rfl⟩
  have hk':k < xs.length:=by omega
  have hd:decide (((k:Nat):Int) < ((xs.length:Nat):Int))=true:=by simp; omega
  simp -implicitDefEqProofs only [A8,BM,AX,BK,BF,AZ,DI,AU,A9,AL,AO,AJ,BA,AR,AC,AA,AY,BB,A7,BL,BN,BU,AB,D9,CO,↓reduceIte,Nat.reduceEqDiff,Option.getD_some,Bool.not_false,enP,IL,f7,f8,hd,f0,f1,CW hk',CP ag3 hk',Cov.encI0]
  rcases Nat.eq_or_lt_of_le hki with e | hlt
  ·subst e
   have hzz:(z == xs[k])=true:=by rw [BEq.comm]; exact hiz
   simp -implicitDefEqProofs only [A8,AX,BJ,AZ,CJ,D6,EZ,CK,DI,AU,A9,AL,AO,AJ,BA,AR,AC,AA,AY,BB,A7,↓reduceIte,Nat.reduceEqDiff,Option.getD_some,Bool.not_false,hzz,f8]
   exact ⟨trivial,trivial⟩
  ·have hzz:(z == xs[k])=false:=by
    have:=hbef k hlt
    rw [BEq.comm]; simpa using this
   simp -implicitDefEqProofs only [AX,BK,AZ,DU,DZ,DL,AU,A9,AL,AO,AJ,BA,AR,AC,AA,AY,AQ,BD,BB,BN,AB,CR,↓reduceIte,Nat.reduceEqDiff,Option.getD_some,Bool.not_false,enP,hzz,f8,CB (show k < 9223372036854775807 by omega)]
   exact ⟨n - 1,by omega,k+1,by omega,by omega,by first | exact f0 | trivial,by first | exact f1 | trivial,by first | exact f7 | trivial,rfl,trivial⟩
 ·have hb':hasB xs z=false:=by simpa using hb
  refine ⟨-1,?_,by rw [hb']; decide⟩
  refine BX (H:=Hint.none) (enM G) Tryz.func176 rfl (by kernel_rfl) (by kernel_rfl) (Nat.le_of_ble_eq_true (by kernel_rfl)) ?_
  show awp _ _ _ _ _ (EJ _ [.tmp 4] _)
  simp -implicitDefEqProofs only [A8,BM,AX,AZ,AU,A9,AL,AO,AJ,BA,AR,AC,AA,AY,AQ,BD,BB,A7,C8,AB,BC,↓reduceIte,Nat.reduceEqDiff,Option.getD_some,Bool.not_false,enP,GV,List.length_map]
  refine CS (fun n F H => ∃ k,n+k=xs.length∧F 0 = .sl s 1 (xs.map encI)∧F 1 = .int .i64 z∧F 7 = .int .i64 (xs.length:Nat)∧F 8 = .int .i64 (k:Nat)∧H=h) xs.length ⟨0,by simp,by simp -implicitDefEqProofs only [AA,BC,↓reduceIte,Nat.reduceEqDiff],by simp -implicitDefEqProofs only [AA,BC,BP,↓reduceIte,Nat.reduceEqDiff],by simp -implicitDefEqProofs only [AA,↓reduceIte,Nat.reduceEqDiff],by simp -implicitDefEqProofs only [AA,↓reduceIte]; rfl,rfl⟩ ?_
  rintro n F H ⟨k,hk,f0,f1,f7,f8,rfl⟩
  simp -implicitDefEqProofs only [A8,AX,BF,AZ,AU,A9,AL,AO,AJ,BA,AR,AC,AA,AY,BN,AB,CO,↓reduceIte,Option.getD_some,Bool.not_false,enP,f7,f8]
  refine CG (fun hc => ?_) (fun hc => ?_)
  ·have hk':k < xs.length:=by simpa using hc
   have hzz:(z == xs[k])=false:=by
    rw [← Bool.not_eq_true]; intro e
    unfold hasB at hb'
    rw [List.any_eq_false] at hb'
    exact hb' xs[k] (List.getElem_mem hk') (by rw [BEq.comm]; exact e)
   simp -implicitDefEqProofs only [A8,BM,AX,BK,BF,AZ,DU,DZ,DL,AU,A9,AL,AO,AJ,BA,AR,AC,AA,AY,AQ,BD,BB,A7,BL,BN,BU,AB,CR,D9,↓reduceIte,Nat.reduceEqDiff,Option.getD_some,Bool.not_false,enP,IL,f0,f1,f8,CW hk',CP ag3 hk',Cov.encI0,hzz,CB (show k < 9223372036854775807 by omega)]
   exact ⟨n - 1,by omega,k+1,by omega,by first | exact f0 | trivial,by first | exact f1 | trivial,f7,rfl,trivial⟩
  ·simp -implicitDefEqProofs only [A8,AX,BJ,CU,AZ,DR,EB,EF,CK,AU,A9,AL,AO,AJ,BA,AR,AC,AA,AQ,BD,A7,↓reduceIte,Option.getD_some,Bool.not_false]
   exact ⟨trivial,trivial⟩
theorem AB4 (G:Nat→AV) (xs:List Int) (s:SM) (z:Int) (h:Hp) (hn:xs.length≤1048576):PCall (En G) 118 [.sl s 1 (xs.map encI),.int .i64 z] h (.bool (hasB xs z)):=by
 obtain ⟨k,hk,hd⟩:=AJG G xs s z h hn
 refine BX (H:=Hint.none) (enM G) Tryz.func118 rfl (by kernel_rfl) (by kernel_rfl) (Nat.le_of_ble_eq_true (by kernel_rfl)) ?_
 show awp _ _ _ _ _ (EJ _ [.tmp 4] _)
 simp -implicitDefEqProofs only [A8,AX,AZ,AU,A9,AL,AO,AJ,BA,AR,AC,AA,AY,AQ,BS,BI,BB,A7,BV,BR,BC,BP,List.map_cons,List.map_nil,List.append_nil,↓reduceIte,Nat.reduceEqDiff,Option.getD_some,Bool.not_false,enP]
 refine hk.use ?_
 simp -implicitDefEqProofs only [BJ,AZ,CK,AU,A9,AL,AO,AJ,BA,AR,AC,AA,AY,AQ,BD,A7,BN,AB,F3,↓reduceIte,Option.getD_some,Bool.not_false,enP,hd]
 exact ⟨trivial,trivial⟩
end Go.Proofs.YtocilianjfhifaaGreatDoor.Rk
