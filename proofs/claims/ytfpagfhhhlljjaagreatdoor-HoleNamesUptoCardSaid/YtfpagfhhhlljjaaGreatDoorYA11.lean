/- Part 11 of the proof (R1, R2, R3, R9); no condition. -/
import Derived.Test.YtfpagfhhhlljjaaGreatDoorYA10
set_option linter.unusedVariables false
namespace Go.Proofs.YtfpagfhhhlljjaaGreatDoor.Rk
open Sm Bins Cov Go.RowKit
open Bool renaming and_eq_true→jV
open List renaming any_eq_true→qC,range→zT,getD_eq_getElem?_getD→zW,getElem?_append_left→zI
open Nat renaming lt_or_ge→zD
section
variable {γ:Type} (gs:List γ) (P:Nat→γ→Bool)
def cov (out:List Nat) (x:γ):Bool:=out.any fun i=>P i x
def gain (out:List Nat) (i:Nat):Nat:=gs.countP fun x=>P i x && !cov P out x
theorem AUW {a b:List Nat} (h : ∀ i∈a,i∈b) {x:γ} (hx:cov P a x=true):cov P b x=true:=by
 unfold cov at *
 rw [qC] at *
 obtain ⟨i,hi,hp⟩:=hx
 exact ⟨i,h i hi,hp⟩
theorem AQ3 {a b:List Nat} (h : ∀ i∈a,i∈b) (i:Nat):gain gs P b i≤gain gs P a i:=by
 unfold gain
 refine List.countP_mono_left fun x _ hx => ?_
 simp only [jV,Bool.not_eq_true'] at *
 refine ⟨hx.1,?_⟩
 cases hc:cov P a x with
 | false=>rfl
 | true=>rw [AUW P h hc] at hx; cases hx.2
theorem AXY {a:List Nat} {i:Nat} (h:i∈a):gain gs P a i=0:=by
 unfold gain
 rw [List.countP_eq_zero]
 intro x _ hx
 simp only [jV,Bool.not_eq_true'] at hx
 have:cov P a x=true:=by
  unfold cov; rw [qC]; exact ⟨i,h,hx.1⟩
 rw [this] at hx; cases hx.2
variable (n:Nat)
def gains (o:List Nat):List Nat:=(zT o.length).map fun k=>gain gs P (o.take k) (o.getD k 0)
structure Falls (o:List Nat):Prop where
 pos : ∀ k,k < o.length→1≤gain gs P (o.take k) (o.getD k 0)
 fall : ∀ k,k+1 < o.length→gain gs P (o.take (k+1)) (o.getD (k+1) 0)≤gain gs P (o.take k) (o.getD k 0)
 top : ∀ k,k < o.length→∀ i,i < n→gain gs P (o.take k) i≤gain gs P (o.take k) (o.getD k 0)
 lt : ∀ i∈o,i < n
 nodup:o.Nodup
theorem SI {o:List Nat} {a k:Nat} (h:k < o.length):(o ++ [a]).getD k 0=o.getD k 0:=by
 simp only [zW,zI h]
theorem ZL (o:List Nat) (a:Nat):(o ++ [a]).getD o.length 0=a:=by simp [zW]
theorem take_left' {o:List Nat} {a k:Nat} (h:k≤o.length):(o ++ [a]).take k=o.take k:=List.take_append_of_le_length h
theorem Falls.snoc {o:List Nat} (F:Falls gs P n o) {a:Nat} (ha:a < n) (hp:gain gs P o a≠0) (ht : ∀ i,i < n→gain gs P o i≤gain gs P o a):Falls gs P n (o ++ [a]):=by
 have hlen:(o ++ [a]).length=o.length+1:=by simp
 have htl:(o ++ [a]).take o.length=o:=by rw [take_left' (Nat.le_refl _),List.take_length]
 refine ⟨fun k hk => ?_,fun k hk => ?_,fun k hk i hi => ?_,fun i hi => ?_,?_⟩
 ·rcases zD k o.length with h | h
  ·rw [take_left' (by omega),SI h]; exact F.pos k h
  ·obtain rfl:k=o.length:=by omega
   rw [htl,ZL]; omega
 ·rcases zD (k+1) o.length with h | h
  ·rw [take_left' (by omega),take_left' (by omega),SI h,SI (by omega)]; exact F.fall k h
  ·have e:k+1=o.length:=by omega
   rw [e,htl,ZL,take_left' (by omega),SI (by omega)]
   have h1:=F.top k (by omega) a ha
   have h2:=AQ3 gs P (a:=o.take k) (b:=o) (fun i hi=>List.mem_of_mem_take hi) a
   omega
 ·rcases zD k o.length with h | h
  ·rw [take_left' (by omega),SI h]; exact F.top k h i hi
  ·obtain rfl:k=o.length:=by omega
   rw [htl,ZL]; exact ht i hi
 ·rcases List.mem_append.1 hi with h | h
  ·exact F.lt i h
  ·simp at h; subst h; exact ha
 ·rw [List.nodup_append]
  refine ⟨F.nodup,by simp,fun x hx y hy e => ?_⟩
  simp at hy; subst hy; subst e
  exact hp (AXY gs P hx)
theorem Falls.nil:Falls gs P n []:=⟨fun k h=>by simp at h,fun k h=>by simp at h,fun k h=>by simp at h,fun i h=>(by cases h),List.nodup_nil⟩
def full (x:γ):Bool:=cov P (zT n) x
def allB (o:List Nat):Bool:=gs.countP (fun x=>full P n x && !cov P o x) == 0
end
theorem foldl_mul (ns:List Nat) : ∀ a,ns.foldl (· * ·) a=a * ns.foldl (· * ·) 1:=by
 induction ns with
 | nil=>intro a; simp
 | cons n ns ih=>intro a; simp only [List.foldl_cons]; rw [ih (a * n),ih (1 * n)]; simp [Nat.mul_assoc]
def hit (v:Cvr) (g:Gl):Bool:=decide (A1A v g > 0)
def hits (l:List Cvr) (i:Nat) (g:Gl):Bool:=match l[i]? with
 | some v=>hit v g
 | none=>false
def row (m:Mo) (v:Cvr):List Bool:=(goals m).map (hit v)
def left (gs:List Gl) (v:Cvr) (k:Nat):List Gl:=(gs.drop k).filter fun g => !hit v g
def SomeB (E:Env) (f:FuncId) (args:List AV) (h:Hp):Prop:=ACalls E f args h fun v H=>(∃ b:Bool,v = .bool b)∧H=h
theorem SomeB.of {E:Env} {f:FuncId} {args:List AV} {h:Hp} (hc:ACalls E f args h fun v H=>(∃ b:Bool,v = .bool b)∧ext h H):SomeB E f args h :=
 hc.trunc fun v H hR=>by
  obtain ⟨⟨b,rfl⟩,x,rfl⟩:=hR
  exact ⟨1,h,rfl,fun b hb => .inr (.inl ⟨by rw [zI hb],by rw [zI hb]⟩),⟨b,rfl⟩,rfl⟩
theorem SomeB.use {E:Env} {f:FuncId} {args:List AV} {h:Hp} {K:AV→Hp→Prop} (hc:SomeB E f args h) (hk : ∀ b:Bool,K (.bool b) h):ACalls E f args h K :=
 ACalls.mono hc fun v H ⟨⟨b,e⟩,e2⟩=>by rw [e,e2]; exact hk b
theorem wt_arg {e:Ex} {k:Nat} (hk:k < e.args.length):wt e.args[k] < wt e:=by
 have h1:=TE (List.getElem_mem hk)
 have h2:=L6 e
 omega
theorem ldE' {H:Hp} {b:Nat} {e:Ex} (hb:H[b]? = some (.live 4 [DC e])):D6 Tryz.prog H 46 (.ptr b 0 3)=some (.sl e.m 4 (e.args.map DC)):=by
 rw [DV UQ hb (row:=DC e) rfl,AAT]
end Go.Proofs.YtfpagfhhhlljjaaGreatDoor.Rk
set_option linter.unusedSimpArgs false
set_option maxRecDepth 8000
namespace Go.Proofs.YtfpagfhhhlljjaaGreatDoor.Rk
open Sm Bins Cov Go.RowKit
open Bool renaming not_false→jC
open List renaming length_map→jH
open Nat renaming le_of_ble_eq_true→jI,reduceEqDiff→jB
open Option renaming getD_some→jA
theorem ACalls.args {E:Env} {f:FuncId} {as1 as2:List AV} {h:Hp} {R:AV→Hp→Prop} (hc:ACalls E f as2 h R) (ha : ∀ g cargs,VZ g as1 cargs→VZ g as2 cargs):ACalls E f as1 h R :=
 ⟨hc.1,fun g w cargs S hr=>hc.2 g w cargs S (ha g cargs hr)⟩
structure ReadsN (H:Hp) (v:AV) (xs:List Nat):Prop where
 ln:KT Tryz.prog 26 v=some (.int .i64 (xs.length:Nat))
 ix : ∀ k (hk:k < xs.length),∃ p,JX 1 H v (.int .i64 (k:Int))=some p∧D6 Tryz.prog H 3 p=some (.int .i64 (xs[k]:Nat))
theorem ReadsN.sl (H:Hp) (s:SM) (xs:List Nat):ReadsN H (.sl s 1 (xs.map J9)) xs :=
 ⟨by rw [JG.1,jH],fun k hk=>⟨_,DF hk,by rw [CX ag3 hk]; rfl⟩⟩
theorem ReadsN.nil (H:Hp) (k:Nat):ReadsN H (.sl .nil k []) []:=⟨by rw [JG.1]; rfl,fun k hk=>absurd hk (by simp)⟩
theorem ReadsN.own {H:Hp} {b:Nat} {xs:List Nat} (hb:H[b]? = some (ABlk.live 1 (xs.map J9))):ReadsN H (.own b 0 xs.length) xs :=
 ⟨by rw [JG.2],fun k hk=>⟨.ptr b k 0,by rw [JS hb hk,Nat.zero_add],by rw [DV ag3 hb (row:=J9 xs[k]) (row_map hk)]; rfl⟩⟩
def RN (h:Hp) (v:AV) (xs:List Nat):Prop:=(∃ s,v = .sl s 1 (xs.map J9))∨(xs = []∧∃ k,v = .sl .nil k [])∨∃ b,v = .own b 0 xs.length∧h[b]? = some (ABlk.live 1 (xs.map J9))
theorem RN.up {h H:Hp} {v:AV} {xs:List Nat} (hr:RN h v xs) (he:ext h H):RN H v xs:=by
 rcases hr with h1 | h1 | ⟨b,h1,h2⟩
 ·exact .inl h1
 ·exact .inr (.inl h1)
 ·exact .inr (.inr ⟨b,h1,FO he h2⟩)
theorem RN.reads {h:Hp} {v:AV} {xs:List Nat} (hr:RN h v xs):ReadsN h v xs:=by
 rcases hr with ⟨s,rfl⟩ | ⟨rfl,k,rfl⟩ | ⟨b,rfl,h2⟩
 ·exact ReadsN.sl h s xs
 ·exact ReadsN.nil h k
 ·exact ReadsN.own h2
theorem RN.out {h H:Hp} {v:AV} {xs:List Nat} (ho:outG 1 J9 h xs v H):RN H v xs:=by
 rcases ho with ⟨rfl,rfl⟩ | ⟨_,o,_,rfl,h3⟩
 ·exact .inr (.inl ⟨rfl,0,rfl⟩)
 ·exact .inr (.inr ⟨o,rfl,h3⟩)
def hasB (xs:List Int) (z:Int):Bool:=xs.any fun x=>x == z
theorem AMI (G:Nat→AV) (xs:List Int) (s:SM) (z:Int) (h:Hp) (hn:xs.length≤1048576) : ∃ k:Int,PCall (En G) 193 [.sl s 1 (xs.map qencI),.int .i64 z] h (.int .i64 k)∧decide (k≥0)=hasB xs z:=by
 by_cases hb:hasB xs z=true
 ·obtain ⟨i,hi⟩ : ∃ i,xs.findIdx? (fun x=>x == z)=some i:=by
   cases he:xs.findIdx? (fun x=>x == z) with
   | some i=>exact ⟨i,rfl⟩
   | none =>
     rw [List.findIdx?_eq_none_iff] at he
     unfold hasB at hb
     rw [List.any_eq_true] at hb
     obtain ⟨x,hx,hz⟩:=hb
     rw [he x hx] at hz; cases hz
  refine ⟨(i:Int),?_,by rw [hb]; simp⟩
  obtain ⟨hil,hiz,hbef⟩:=List.findIdx?_eq_some_iff_getElem.1 hi
  refine acN Tryz.func193 rfl ?_
  show awp _ _ _ _ _ (EJ _ [.tmp 4] _)
  simp -implicitDefEqProofs only [BC,BQ,A8,BA,AY,BB,AO,AQ,AL,BD,AX,AC,AA,AZ,AU,BH,BG,A7,DU,AB,BF,↓reduceIte,jB,jA,jC,enP,JG,jH]
  refine DL (fun n F H => ∃ k,n+k=xs.length∧k≤i∧F 0 = .sl s 1 (xs.map qencI)∧F 1 = .int .i64 z∧F 7 = .int .i64 (xs.length:Nat)∧F 8 = .int .i64 (k:Nat)∧H=h) xs.length ⟨0,by simp,by omega,by simp -implicitDefEqProofs only [AA,BF,↓reduceIte,jB],by simp -implicitDefEqProofs only [AA,BF,BP,↓reduceIte,jB],by simp -implicitDefEqProofs only [AA,↓reduceIte,jB],by simp -implicitDefEqProofs only [AA,↓reduceIte]; rfl,rfl⟩ ?_
  rintro n F H ⟨k,hk,hki,f0,f1,f7,f8,rfl⟩
  have hk':k < xs.length:=by omega
  have hd:decide (((k:Nat):Int) < ((xs.length:Nat):Int))=true:=by simp; omega
  simp -implicitDefEqProofs only [BC,BQ,A8,BO,BI,BA,DT,AY,BB,AO,AQ,AL,BD,AX,AC,AA,AZ,BG,A7,BN,BR,BZ,AB,EG,CW,↓reduceIte,jB,jA,jC,enP,JB,f7,f8,hd,f0,f1,DF hk',CX ag3 hk',Cov.encI0]
  rcases Nat.eq_or_lt_of_le hki with e | hlt
  ·subst e
   have hzz:(z == xs[k])=true:=by rw [BEq.comm]; exact hiz
   simp -implicitDefEqProofs only [BC,A8,BK,BA,CQ,EE,FK,CJ,DT,AY,BB,AO,AQ,AL,BD,AX,AC,AA,AZ,BG,A7,↓reduceIte,jB,jA,jC,hzz,f8]
   exact ⟨trivial,trivial⟩
  ·have hzz:(z == xs[k])=false:=by
    have:=hbef k hlt
    rw [BEq.comm]; simpa using this
   simp -implicitDefEqProofs only [A8,BO,BA,EI,EP,D5,AY,BB,AO,AQ,AL,BD,AX,AC,AA,AZ,AU,BH,BG,BR,AB,DK,↓reduceIte,jB,jA,jC,enP,hzz,f8,wrap_succ (show k < 9223372036854775807 by omega)]
   exact ⟨n - 1,by omega,k+1,by omega,by omega,by trivial,by trivial,by trivial,rfl,trivial⟩
 ·have hb':hasB xs z=false:=by simpa using hb
  refine ⟨-1,?_,by rw [hb']; decide⟩
  refine acN Tryz.func193 rfl ?_
  show awp _ _ _ _ _ (EJ _ [.tmp 4] _)
  simp -implicitDefEqProofs only [BC,BQ,A8,BA,AY,BB,AO,AQ,AL,BD,AX,AC,AA,AZ,AU,BH,BG,A7,DU,AB,BF,↓reduceIte,jB,jA,jC,enP,JG,jH]
  refine DL (fun n F H => ∃ k,n+k=xs.length∧F 0 = .sl s 1 (xs.map qencI)∧F 1 = .int .i64 z∧F 7 = .int .i64 (xs.length:Nat)∧F 8 = .int .i64 (k:Nat)∧H=h) xs.length ⟨0,by simp,by simp -implicitDefEqProofs only [AA,BF,↓reduceIte,jB],by simp -implicitDefEqProofs only [AA,BF,BP,↓reduceIte,jB],by simp -implicitDefEqProofs only [AA,↓reduceIte,jB],by simp -implicitDefEqProofs only [AA,↓reduceIte]; rfl,rfl⟩ ?_
  rintro n F H ⟨k,hk,f0,f1,f7,f8,rfl⟩
  simp -implicitDefEqProofs only [BC,A8,BI,BA,AY,BB,AO,AQ,AL,BD,AX,AC,AA,AZ,BR,AB,CW,↓reduceIte,jA,jC,enP,f7,f8]
  refine CU (fun hc => ?_) (fun hc => ?_)
  ·have hk':k < xs.length:=by simpa using hc
   have hzz:(z == xs[k])=false:=by
    rw [← Bool.not_eq_true]; intro e
    unfold hasB at hb'
    rw [List.any_eq_false] at hb'
    exact hb' xs[k] (List.getElem_mem hk') (by rw [BEq.comm]; exact e)
   simp -implicitDefEqProofs only [BC,BQ,A8,BO,BI,BA,EI,EP,D5,AY,BB,AO,AQ,AL,BD,AX,AC,AA,AZ,AU,BH,BG,A7,BN,BR,BZ,AB,DK,EG,↓reduceIte,jB,jA,jC,enP,JB,f0,f1,f8,DF hk',CX ag3 hk',Cov.encI0,hzz,wrap_succ (show k < 9223372036854775807 by omega)]
   exact ⟨n - 1,by omega,k+1,by omega,by trivial,by trivial,f7,rfl,trivial⟩
  ·simp -implicitDefEqProofs only [BC,A8,BK,DI,BA,ED,EU,EW,CJ,AY,BB,AO,AQ,AL,BD,AX,AC,AA,AU,BH,A7,↓reduceIte,jA,jC]
   exact ⟨trivial,trivial⟩
theorem contains_rank (G:Nat→AV) (xs:List Int) (s:SM) (z:Int) (h:Hp) (hn:xs.length≤1048576):PCall (En G) 162 [.sl s 1 (xs.map qencI),.int .i64 z] h (.bool (hasB xs z)):=by
 obtain ⟨k,hk,hd⟩:=AMI G xs s z h hn
 refine acN Tryz.func162 rfl ?_
 show awp _ _ _ _ _ (EJ _ [.tmp 4] _)
 simp -implicitDefEqProofs only [BC,A8,BA,AY,BB,AO,AQ,AL,BD,AX,AC,AA,AZ,AU,CB,BM,BG,A7,CG,BX,BF,BP,List.map_cons,List.map_nil,List.append_nil,↓reduceIte,jB,jA,jC,enP]
 refine hk.use ?_
 simp -implicitDefEqProofs only [BK,BA,CJ,AY,BB,AO,AQ,AL,BD,AX,AC,AA,AZ,AU,BH,A7,BR,AB,FX,↓reduceIte,jA,jC,enP,hd]
 exact ⟨trivial,trivial⟩
end Go.Proofs.YtfpagfhhhlljjaaGreatDoor.Rk
