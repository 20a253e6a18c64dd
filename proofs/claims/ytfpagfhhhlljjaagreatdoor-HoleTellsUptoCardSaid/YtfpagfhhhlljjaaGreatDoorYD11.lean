/- Part 11 of the proof (R1, R2, R3, R9); no condition. -/
import Derived.Test.YtfpagfhhhlljjaaGreatDoorYD10
set_option linter.unusedVariables false
namespace Go.Proofs.YtfpagfhhhlljjaaGreatDoor.Rk
open Sm Bins Cov Go.RowKit
open Bool renaming and_eq_true→jX
open List renaming any_eq_true→qH,range→zY,getD_eq_getElem?_getD→zQ,getElem?_append_left→zO
open Nat renaming lt_or_ge→zM
section
variable {γ:Type} (gs:List γ) (P:Nat→γ→Bool)
def cov (out:List Nat)(x:γ):Bool:=out.any fun i=>P i x
def gain (out:List Nat)(i:Nat):Nat:=gs.countP fun x=>P i x && !cov P out x
theorem AX7 {a b:List Nat}(h : ∀ i∈a,i∈b){x:γ}(hx:cov P a x=true):cov P b x=true:=by
 unfold cov at *
 rw[qH] at *
 obtain⟨i,hi,hp⟩:=hx
 exact⟨i,h i hi,hp⟩
theorem AT2 {a b:List Nat}(h : ∀ i∈a,i∈b)(i:Nat):gain gs P b i≤gain gs P a i:=by
 unfold gain
 refine List.countP_mono_left fun x _ hx => ?_
 simp only[jX,Bool.not_eq_true'] at *
 refine⟨hx.1,?_⟩
 cases hc:cov P a x with
 | false=>rfl
 | true=>rw[AX7 P h hc] at hx; cases hx.2
theorem A0Z {a:List Nat}{i:Nat}(h:i∈a):gain gs P a i=0:=by
 unfold gain
 rw[List.countP_eq_zero]
 intro x _ hx
 simp only[jX,Bool.not_eq_true'] at hx
 have:cov P a x=true:=by
  unfold cov; rw[qH]; exact⟨i,h,hx.1⟩
 rw[this] at hx; cases hx.2
variable (n:Nat)
def gains (o:List Nat):List Nat:=(zY o.length).map fun k=>gain gs P (o.take k) (o.getD k 0)
structure Falls (o:List Nat):Prop where
 pos : ∀ k,k < o.length→1≤gain gs P (o.take k) (o.getD k 0)
 fall : ∀ k,k+1 < o.length→gain gs P (o.take (k+1)) (o.getD (k+1) 0)≤gain gs P (o.take k) (o.getD k 0)
 top : ∀ k,k < o.length→∀ i,i < n→gain gs P (o.take k) i≤gain gs P (o.take k) (o.getD k 0)
 lt : ∀ i∈o,i < n
 nodup:o.Nodup
theorem UW {o:List Nat}{a k:Nat}(h:k < o.length):(o++[a]).getD k 0=o.getD k 0:=by
 simp only[zQ,zO h]
theorem ABP (o:List Nat)(a:Nat):(o++[a]).getD o.length 0=a:=by simp [zQ]
theorem take_left' {o:List Nat}{a k:Nat}(h:k≤o.length):(o++[a]).take k=o.take k:=List.take_append_of_le_length h
theorem Falls.snoc {o:List Nat}(F:Falls gs P n o){a:Nat}(ha:a < n)(hp:gain gs P o a≠0)(ht : ∀ i,i < n→gain gs P o i≤gain gs P o a):Falls gs P n (o++[a]):=by
 have hlen:(o++[a]).length=o.length+1:=by simp
 have htl:(o++[a]).take o.length=o:=by rw[take_left' (Nat.le_refl _),List.take_length]
 refine⟨fun k hk => ?_,fun k hk => ?_,fun k hk i hi => ?_,fun i hi => ?_,?_⟩
 ·rcases zM k o.length with h | h
  ·rw[take_left' (by omega),UW h]; exact F.pos k h
  ·obtain rfl:k=o.length:=by omega
   rw[htl,ABP]; omega
 ·rcases zM (k+1) o.length with h | h
  ·rw[take_left' (by omega),take_left' (by omega),UW h,UW (by omega)]; exact F.fall k h
  ·have e:k+1=o.length:=by omega
   rw[e,htl,ABP,take_left' (by omega),UW (by omega)]
   have h1:=F.top k (by omega) a ha
   have h2:=AT2 gs P (a:=o.take k) (b:=o) (fun i hi=>List.mem_of_mem_take hi) a
   omega
 ·rcases zM k o.length with h | h
  ·rw[take_left' (by omega),UW h]; exact F.top k h i hi
  ·obtain rfl:k=o.length:=by omega
   rw[htl,ABP]; exact ht i hi
 ·rcases List.mem_append.1 hi with h | h
  ·exact F.lt i h
  ·simp at h; subst h; exact ha
 ·rw[List.nodup_append]
  refine⟨F.nodup,by simp,fun x hx y hy e => ?_⟩
  simp at hy; subst hy; subst e
  exact hp (A0Z gs P hx)
theorem Falls.nil:Falls gs P n []:=⟨fun k h=>by simp at h,fun k h=>by simp at h,fun k h=>by simp at h,fun i h=>(by cases h),List.nodup_nil⟩
def full (x:γ):Bool:=cov P (zY n) x
def allB (o:List Nat):Bool:=gs.countP (fun x=>full P n x && !cov P o x) == 0
end
theorem foldl_mul (ns:List Nat) : ∀ a,ns.foldl (· * ·) a=a * ns.foldl (· * ·) 1:=by
 induction ns with
 | nil=>intro a; simp
 | cons n ns ih=>intro a; simp only[List.foldl_cons]; rw[ih (a * n),ih (1 * n)]; simp [Nat.mul_assoc]
def hit (v:Cvr)(g:Gl):Bool:=decide (A4P v g > 0)
def hits (l:List Cvr)(i:Nat)(g:Gl):Bool:=match l[i]? with
 | some v=>hit v g
 | none=>false
def row (m:Mo)(v:Cvr):List Bool:=(goals m).map (hit v)
def left (gs:List Gl)(v:Cvr)(k:Nat):List Gl:=(gs.drop k).filter fun g => !hit v g
def SomeB (E:Env)(f:FuncId)(args:List AV)(h:Hp):Prop:=ACalls E f args h fun v H=>(∃ b:Bool,v = .bool b)∧H=h
theorem SomeB.of {E:Env}{f:FuncId}{args:List AV}{h:Hp}(hc:ACalls E f args h fun v H=>(∃ b:Bool,v = .bool b)∧ext h H):SomeB E f args h :=
 hc.trunc fun v H hR=>by
  obtain⟨⟨b,rfl⟩,x,rfl⟩:=hR
  exact⟨1,h,rfl,fun b hb => .inr (.inl ⟨by rw[zO hb],by rw[zO hb]⟩),⟨b,rfl⟩,rfl⟩
theorem SomeB.use {E:Env}{f:FuncId}{args:List AV}{h:Hp}{K:AV→Hp→Prop}(hc:SomeB E f args h)(hk : ∀ b:Bool,K (.bool b) h):ACalls E f args h K :=
 ACalls.mono hc fun v H ⟨⟨b,e⟩,e2⟩=>by rw[e,e2]; exact hk b
theorem wt_arg {e:Ex}{k:Nat}(hk:k < e.args.length):wt e.args[k] < wt e:=by
 have h1:=U9 (List.getElem_mem hk)
 have h2:=NF e
 omega
theorem ldE' {H:Hp}{b:Nat}{e:Ex}(hb:H[b]? = some (.live 4 [DX e])):D8 Tryz.prog H 46 (.ptr b 0 3)=some (.sl e.m 4 (e.args.map DX)):=by
 rw[DY VT hb (row:=DX e) rfl,AAO]
end Go.Proofs.YtfpagfhhhlljjaaGreatDoor.Rk
set_option linter.unusedSimpArgs false
set_option maxRecDepth 8000
namespace Go.Proofs.YtfpagfhhhlljjaaGreatDoor.Rk
open Sm Bins Cov Go.RowKit
open Bool renaming not_false→jC
open List renaming length_map→jH
open Nat renaming le_of_ble_eq_true→jI,reduceEqDiff→jB
open Option renaming getD_some→jA
theorem ACalls.args {E:Env}{f:FuncId}{as1 as2:List AV}{h:Hp}{R:AV→Hp→Prop}(hc:ACalls E f as2 h R)(ha : ∀ g cargs,X5 g as1 cargs→X5 g as2 cargs):ACalls E f as1 h R :=
 ⟨hc.1,fun g w cargs S hr=>hc.2 g w cargs S (ha g cargs hr)⟩
structure ReadsN (H:Hp) (v:AV) (xs:List Nat):Prop where
 ln:L9 Tryz.prog 26 v=some (.int .i64 (xs.length:Nat))
 ix : ∀ k (hk:k < xs.length),∃ p,J3 1 H v (.int .i64 (k:Int))=some p∧D8 Tryz.prog H 3 p=some (.int .i64 (xs[k]:Nat))
theorem ReadsN.sl (H:Hp)(s:SM)(xs:List Nat):ReadsN H (.sl s 1 (xs.map JI)) xs :=
 ⟨by rw[IZ.1,jH],fun k hk=>⟨_,DN hk,by rw[CY ag3 hk]; rfl⟩⟩
theorem ReadsN.nil (H:Hp)(k:Nat):ReadsN H (.sl .nil k []) []:=⟨by rw[IZ.1]; rfl,fun k hk=>absurd hk (by simp)⟩
theorem ReadsN.own {H:Hp}{b:Nat}{xs:List Nat}(hb:H[b]? = some (ABlk.live 1 (xs.map JI))):ReadsN H (.own b 0 xs.length) xs :=
 ⟨by rw[IZ.2],fun k hk=>⟨.ptr b k 0,by rw[JR hb hk,Nat.zero_add],by rw[DY ag3 hb (row:=JI xs[k]) (row_map hk)]; rfl⟩⟩
def RN (h:Hp)(v:AV)(xs:List Nat):Prop:=(∃ s,v = .sl s 1 (xs.map JI))∨(xs = []∧∃ k,v = .sl .nil k [])∨∃ b,v = .own b 0 xs.length∧h[b]? = some (ABlk.live 1 (xs.map JI))
theorem RN.up {h H:Hp}{v:AV}{xs:List Nat}(hr:RN h v xs)(he:ext h H):RN H v xs:=by
 rcases hr with h1 | h1 | ⟨b,h1,h2⟩
 ·exact .inl h1
 ·exact .inr (.inl h1)
 ·exact .inr (.inr ⟨b,h1,FD he h2⟩)
theorem RN.reads {h:Hp}{v:AV}{xs:List Nat}(hr:RN h v xs):ReadsN h v xs:=by
 rcases hr with⟨s,rfl⟩ | ⟨rfl,k,rfl⟩ | ⟨b,rfl,h2⟩
 ·exact ReadsN.sl h s xs
 ·exact ReadsN.nil h k
 ·exact ReadsN.own h2
theorem RN.out {h H:Hp}{v:AV}{xs:List Nat}(ho:outG 1 JI h xs v H):RN H v xs:=by
 rcases ho with⟨rfl,rfl⟩ | ⟨_,o,_,rfl,h3⟩
 ·exact .inr (.inl ⟨rfl,0,rfl⟩)
 ·exact .inr (.inr ⟨o,rfl,h3⟩)
def hasB (xs:List Int)(z:Int):Bool:=xs.any fun x=>x == z
theorem AO3 (G:Nat→AV)(xs:List Int)(s:SM)(z:Int)(h:Hp)(hn:xs.length≤1048576) : ∃ k:Int,PCall (En G) 193 [.sl s 1 (xs.map qencI),.int .i64 z] h (.int .i64 k)∧decide (k≥0)=hasB xs z:=by
 by_cases hb:hasB xs z=true
 ·obtain⟨i,hi⟩ : ∃ i,xs.findIdx? (fun x=>x == z)=some i:=by
   cases he:xs.findIdx? (fun x=>x == z) with
   | some i=>exact⟨i,rfl⟩
   | none =>
     rw[List.findIdx?_eq_none_iff] at he
     unfold hasB at hb
     rw[List.any_eq_true] at hb
     obtain⟨x,hx,hz⟩:=hb
     rw[he x hx] at hz; cases hz
  refine⟨(i:Int),?_,by rw[hb]; simp⟩
  obtain⟨hil,hiz,hbef⟩:=List.findIdx?_eq_some_iff_getElem.1 hi
  refine acN Tryz.func193 rfl ?_
  show awp _ _ _ _ _ (EM _ [.tmp 4] _)
  simp -implicitDefEqProofs only[vQ,BD,↓reduceIte,jB,enP,IZ,jH]
  refine DL (fun n F H => ∃ k,n+k=xs.length∧k≤i∧F 0 = .sl s 1 (xs.map qencI)∧F 1 = .int .i64 z∧F 7 = .int .i64 (xs.length:Nat)∧F 8 = .int .i64 (k:Nat)∧H=h) xs.length ⟨0,by simp,by omega,by simp -implicitDefEqProofs only[vQ,↓reduceIte,jB],by simp -implicitDefEqProofs only[vQ,↓reduceIte,jB],by simp -implicitDefEqProofs only[AA,↓reduceIte,jB],by simp -implicitDefEqProofs only[AA,↓reduceIte]; rfl,rfl⟩ ?_
  rintro n F H ⟨k,hk,hki,f0,f1,f7,f8,rfl⟩
  have hk':k < xs.length:=by omega
  have hd:decide (((k:Nat):Int) < ((xs.length:Nat):Int))=true:=by simp; omega
  simp -implicitDefEqProofs only[vQ,BD,↓reduceIte,jB,enP,IB,f7,f8,hd,f0,f1,DN hk',CY ag3 hk',Cov.encI0]
  rcases Nat.eq_or_lt_of_le hki with e | hlt
  ·subst e
   have hzz:(z == xs[k])=true:=by rw[BEq.comm]; exact hiz
   simp -implicitDefEqProofs only[vQ,BD,↓reduceIte,jB,hzz,f8]
   exact⟨trivial,trivial⟩
  ·have hzz:(z == xs[k])=false:=by
    have:=hbef k hlt
    rw[BEq.comm]; simpa using this
   simp -implicitDefEqProofs only[vQ,BD,↓reduceIte,jB,enP,hzz,f8,wrap_succ (show k < 9223372036854775807 by omega)]
   exact⟨n - 1,by omega,k+1,by omega,by omega,by trivial,by trivial,by trivial,rfl,trivial⟩
 ·have hb':hasB xs z=false:=by simpa using hb
  refine⟨-1,?_,by rw[hb']; decide⟩
  refine acN Tryz.func193 rfl ?_
  show awp _ _ _ _ _ (EM _ [.tmp 4] _)
  simp -implicitDefEqProofs only[vQ,BD,↓reduceIte,jB,enP,IZ,jH]
  refine DL (fun n F H => ∃ k,n+k=xs.length∧F 0 = .sl s 1 (xs.map qencI)∧F 1 = .int .i64 z∧F 7 = .int .i64 (xs.length:Nat)∧F 8 = .int .i64 (k:Nat)∧H=h) xs.length ⟨0,by simp,by simp -implicitDefEqProofs only[vQ,↓reduceIte,jB],by simp -implicitDefEqProofs only[vQ,↓reduceIte,jB],by simp -implicitDefEqProofs only[AA,↓reduceIte,jB],by simp -implicitDefEqProofs only[AA,↓reduceIte]; rfl,rfl⟩ ?_
  rintro n F H ⟨k,hk,f0,f1,f7,f8,rfl⟩
  simp -implicitDefEqProofs only[vQ,BD,↓reduceIte,enP,f7,f8]
  refine CU (fun hc => ?_) (fun hc => ?_)
  ·have hk':k < xs.length:=by simpa using hc
   have hzz:(z == xs[k])=false:=by
    rw[← Bool.not_eq_true]; intro e
    unfold hasB at hb'
    rw[List.any_eq_false] at hb'
    exact hb' xs[k] (List.getElem_mem hk') (by rw[BEq.comm]; exact e)
   simp -implicitDefEqProofs only[vQ,BD,↓reduceIte,jB,enP,IB,f0,f1,f8,DN hk',CY ag3 hk',Cov.encI0,hzz,wrap_succ (show k < 9223372036854775807 by omega)]
   exact⟨n - 1,by omega,k+1,by omega,by trivial,by trivial,f7,rfl,trivial⟩
  ·simp -implicitDefEqProofs only[vQ,BD,↓reduceIte]
   exact⟨trivial,trivial⟩
theorem contains_rank (G:Nat→AV)(xs:List Int)(s:SM)(z:Int)(h:Hp)(hn:xs.length≤1048576):PCall (En G) 162 [.sl s 1 (xs.map qencI),.int .i64 z] h (.bool (hasB xs z)):=by
 obtain⟨k,hk,hd⟩:=AO3 G xs s z h hn
 refine acN Tryz.func162 rfl ?_
 show awp _ _ _ _ _ (EM _ [.tmp 4] _)
 simp -implicitDefEqProofs only[vQ,BD,List.map_cons,List.map_nil,List.append_nil,↓reduceIte,jB,enP]
 refine hk.use ?_
 simp -implicitDefEqProofs only[vQ,BD,↓reduceIte,enP,hd]
 exact⟨trivial,trivial⟩
end Go.Proofs.YtfpagfhhhlljjaaGreatDoor.Rk
