/- Part 10 of the proof (R1, R2, R3, R4, R5, R7, R9); no condition. -/
import Derived.Test.YtocilianjfhifaaGreatDoorW9
set_option linter.unusedVariables false
namespace Go.Proofs.YtocilianjfhifaaGreatDoor.Rk
open Sm Bins Cov Go.RowKit
section
variable {γ:Type} (gs:List γ) (P:Nat→γ→Bool)
def cov (out:List Nat) (x:γ):Bool:=out.any fun i=>P i x
def gain (out:List Nat) (i:Nat):Nat:=gs.countP fun x=>P i x && !cov P out x
theorem AQQ {a b:List Nat} (h : ∀ i∈a,i∈b) {x:γ} (hx:cov P a x=true):cov P b x=true:=by
 unfold cov at *
 rw [List.any_eq_true] at *
 obtain ⟨i,hi,hp⟩:=hx
 exact ⟨i,h i hi,hp⟩
theorem ANG {a b:List Nat} (h : ∀ i∈a,i∈b) (i:Nat):gain gs P b i≤gain gs P a i:=by
 unfold gain
 refine List.countP_mono_left fun x _ hx => ?_
 simp only [Bool.and_eq_true,Bool.not_eq_true'] at *
 refine ⟨hx.1,?_⟩
 cases hc:cov P a x with
 | false=>rfl
 | true=>rw [AQQ P h hc] at hx; cases hx.2
theorem ATK {a:List Nat} {i:Nat} (h:i∈a):gain gs P a i=0:=by
 unfold gain
 rw [List.countP_eq_zero]
 intro x _ hx
 simp only [Bool.and_eq_true,Bool.not_eq_true'] at hx
 have:cov P a x=true:=by
  unfold cov; rw [List.any_eq_true]; exact ⟨i,h,hx.1⟩
 rw [this] at hx; cases hx.2
variable (n:Nat)
def gains (o:List Nat):List Nat:=(List.range o.length).map fun k=>gain gs P (o.take k) (o.getD k 0)
structure Falls (o:List Nat):Prop where
 pos : ∀ k,k < o.length→1≤gain gs P (o.take k) (o.getD k 0)
 fall : ∀ k,k+1 < o.length→gain gs P (o.take (k+1)) (o.getD (k+1) 0)≤gain gs P (o.take k) (o.getD k 0)
 top : ∀ k,k < o.length→∀ i,i < n→gain gs P (o.take k) i≤gain gs P (o.take k) (o.getD k 0)
 lt : ∀ i∈o,i < n
 nodup:o.Nodup
theorem SE {o:List Nat} {a k:Nat} (h:k < o.length):(o ++ [a]).getD k 0=o.getD k 0:=by
 simp only [List.getD_eq_getElem?_getD,List.getElem?_append_left h]
theorem YY (o:List Nat) (a:Nat):(o ++ [a]).getD o.length 0=a:=by simp [List.getD_eq_getElem?_getD]
theorem take_left' {o:List Nat} {a k:Nat} (h:k≤o.length):(o ++ [a]).take k=o.take k:=List.take_append_of_le_length h
theorem Falls.snoc {o:List Nat} (F:Falls gs P n o) {a:Nat} (ha:a < n) (hp:gain gs P o a≠0) (ht : ∀ i,i < n→gain gs P o i≤gain gs P o a):Falls gs P n (o ++ [a]):=by
 have hlen:(o ++ [a]).length=o.length+1:=by simp
 have htl:(o ++ [a]).take o.length=o:=by rw [take_left' (Nat.le_refl _),List.take_length]
 refine ⟨fun k hk => ?_,fun k hk => ?_,fun k hk i hi => ?_,fun i hi => ?_,?_⟩
 ·rcases Nat.lt_or_ge k o.length with h | h
  ·rw [take_left' (by omega),SE h]; exact F.pos k h
  ·obtain rfl:k=o.length:=by omega
   rw [htl,YY]; omega
 ·rcases Nat.lt_or_ge (k+1) o.length with h | h
  ·rw [take_left' (by omega),take_left' (by omega),SE h,SE (by omega)]; exact F.fall k h
  ·have e:k+1=o.length:=by omega
   rw [e,htl,YY,take_left' (by omega),SE (by omega)]
   have h1:=F.top k (by omega) a ha
   have h2:=ANG gs P (a:=o.take k) (b:=o) (fun i hi=>List.mem_of_mem_take hi) a
   omega
 ·rcases Nat.lt_or_ge k o.length with h | h
  ·rw [take_left' (by omega),SE h]; exact F.top k h i hi
  ·obtain rfl:k=o.length:=by omega
   rw [htl,YY]; exact ht i hi
 ·rcases List.mem_append.1 hi with h | h
  ·exact F.lt i h
  ·simp at h; subst h; exact ha
 ·rw [List.nodup_append]
  refine ⟨F.nodup,by simp,fun x hx y hy e => ?_⟩
  simp at hy; subst hy; subst e
  exact hp (ATK gs P hx)
theorem Falls.nil:Falls gs P n []:=⟨fun k h=>by simp at h,fun k h=>by simp at h,fun k h=>by simp at h,fun i h=>(by cases h),List.nodup_nil⟩
def full (x:γ):Bool:=cov P (List.range n) x
def allB (o:List Nat):Bool:=gs.countP (fun x=>full P n x && !cov P o x) == 0
end
def hit (v:Cvr) (g:Gl):Bool:=decide (AWL v g > 0)
def hits (l:List Cvr) (i:Nat) (g:Gl):Bool:=match l[i]? with
 | some v=>hit v g
 | none=>false
def ACF (b:Bool):List AV := [.bool b]
def row (m:Mo) (v:Cvr):List Bool:=(goals m).map (hit v)
def left (gs:List Gl) (v:Cvr) (k:Nat):List Gl:=(gs.drop k).filter fun g => !hit v g
end Go.Proofs.YtocilianjfhifaaGreatDoor.Rk
set_option linter.unusedSimpArgs false
set_option maxRecDepth 8000
namespace Go.Proofs.YtocilianjfhifaaGreatDoor.Rk
open Sm Bins Cov Go.RowKit
def SomeB (E:Env) (f:FuncId) (args:List AV) (h:Hp):Prop:=ACalls E f args h fun v H=>(∃ b:Bool,v = .bool b)∧H=h
theorem SomeB.of {E:Env} {f:FuncId} {args:List AV} {h:Hp} (hc:ACalls E f args h fun v H=>(∃ b:Bool,v = .bool b)∧ext h H):SomeB E f args h :=
 hc.trunc fun v H hR=>by
  obtain ⟨⟨b,rfl⟩,x,rfl⟩:=hR
  exact ⟨1,h,rfl,fun b hb => .inr (.inl ⟨by rw [List.getElem?_append_left hb],by rw [List.getElem?_append_left hb]⟩),⟨b,rfl⟩,rfl⟩
theorem SomeB.use {E:Env} {f:FuncId} {args:List AV} {h:Hp} {K:AV→Hp→Prop} (hc:SomeB E f args h) (hk : ∀ b:Bool,K (.bool b) h):ACalls E f args h K :=
 ACalls.mono hc fun v H ⟨⟨b,e⟩,e2⟩=>by rw [e,e2]; exact hk b
theorem AVG {e:Ex} {k:Nat} (hk:k < e.args.length):wt e.args[k] < wt e:=by
 have h1:=QU (List.getElem_mem hk)
 have h2:=MI e
 omega
theorem AV1 {H:Hp} {b:Nat} {e:Ex} (hb:H[b]? = some (.live 4 [EU e])):D7 Tryz.prog H 51 (.ptr b 0 3)=some (.sl e.m 4 (e.args.map EU)):=by
 rw [DL AF5 hb (row:=EU e) rfl,X7]
theorem AX5 {H:Hp} {l:List Pt} {i:Nat} (hi:i < l.length):D7 Tryz.prog H 53 (.fptr 6 (l.map FH) i 1)=some (.agg (EU l[i].ex)):=by
 have h1:=IW l[i]
 simp only [D7,Sm.rowAt,List.getElem?_map,List.getElem?_eq_getElem hi,Option.map_some,AAK,WI]
 rw [if_pos (by rw [h1]; omega),AL1]
set_option maxHeartbeats 1000000 in
theorem AI9 (G:Nat→AV) : ∀ (w:Nat) (e:Ex) (lv:Nat) (h:Hp),wt e≤w→wt e≤1048576→lv≤1000→SomeB (En G) 93 [.agg (EU e),.int .i64 (lv:Nat)] h:=by
 intro w
 induction w with
 | zero=>intro e lv h h1 _ _; have:=MI e; omega
 | succ w ih =>
   intro e lv h h1 h2 h3
   have hlen:=SY e.args
   have hwt:=MI e
   refine SomeB.of ?_
   refine CE (H:=Hint.none) (enM G) Tryz.func93 rfl (by kernel_rfl) (by kernel_rfl) (nLb (by kernel_rfl)) ?_
   show awp _ _ _ _ _ (EJ _ [.tmp 4] _)
   have hb:=CZ h (.live 4 [EU e])
   have hx:ext h (h ++ [.live 4 [EU e]]):=(ext.rfl' h).app _
   simp -implicitDefEqProofs only [BC,BA,A8,AY,BB,BJ,BP,CO,AO,AQ,AL,BD,AX,AC,AA,AZ,AU,BH,BM,BG,A7,FV,BQ,CB,AB,D5,BF,BN,↓reduceIte,Nat.reduceEqDiff,oGs,bNf,enP,bxE]
   generalize h ++ [.live 4 [EU e]]=H at hb hx ⊢
   cases h0:((lv:Int) == 0)
   rotate_left
   ·simp -implicitDefEqProofs only [BC,BA,BL,BI,A8,CQ,CJ,CY,AY,BB,BJ,BP,CO,FQ,AO,AQ,AL,BD,AX,AC,AA,EP,AZ,AU,BM,A7,CP,DN,↓reduceIte,Nat.reduceEqDiff,oGs,bNf]
    exact ⟨⟨_,rfl⟩,hx⟩
   have hlv:lv≠0:=by intro e; subst e; cases h0
   simp -implicitDefEqProofs only [BI,A8,AY,BB,BJ,BP,CO,EM,AO,AQ,AL,BD,AX,AC,AA,AZ,AU,BH,BM,CP,DR,BV,BQ,BK,DZ,AB,EZ,↓reduceIte,Nat.reduceEqDiff,Nat.zero_add,oGs,bNf,enP,AC6,O1,AV1 hb,lLm]
   refine CV (fun hc => ?_) (fun hc => ?_)
   ·simp -implicitDefEqProofs only [BC,BA,BL,A8,CQ,CJ,AY,BB,AO,AQ,AL,BD,AX,AC,AA,AU,BM,A7,↓reduceIte,oGs,bNf]
    exact ⟨⟨_,rfl⟩,hx⟩
   simp -implicitDefEqProofs only [BC,BR,BA,BO,A8,AY,BB,AO,AQ,AL,BD,AX,AC,AU,BH,A7,oGs,bNf]
   refine DT (fun n F H' => ∃ k,n+k=e.args.length∧F 1 = .int .i64 (lv:Nat)∧F 2 = .ptr h.length 0 0∧F 5 = .int .i64 (k:Nat)∧H'=H) e.args.length ⟨0,by simp,by simp -implicitDefEqProofs only [AA,BF,BN,↓reduceIte,Nat.reduceEqDiff],by simp -implicitDefEqProofs only [AA,↓reduceIte,Nat.reduceEqDiff],by simp -implicitDefEqProofs only [AA,↓reduceIte]; rfl,rfl⟩ ?_
   rintro n F H' ⟨k,hk,f1,f2,f5,rfl⟩
   simp -implicitDefEqProofs only [BC,BA,BI,A8,AY,BB,AO,AQ,AL,BD,AX,AC,AA,AZ,BG,BV,BQ,BK,DZ,AB,DC,↓reduceIte,Nat.reduceEqDiff,Nat.zero_add,oGs,bNf,enP,AC6,O1,f2,f5,AV1 hb,lLm]
   refine CV (fun hc => ?_) (fun hc => ?_)
   ·have hk':k < e.args.length:=by simpa using hc
    have hlt:=AVG hk'
    have hwr:IntKind.i64.wrap ((lv:Int) - 1)=((lv - 1:Nat):Int):=by rw [wrap_i64 (by omega) (by omega)]; omega
    simp -implicitDefEqProofs only [BC,BR,BA,BO,A8,AY,AO,AQ,AL,BD,AX,AC,AA,AZ,AU,BX,BH,BG,BV,BQ,BK,CG,BZ,BU,AB,JV,lMc,lMn,lAn,↓reduceIte,Nat.reduceEqDiff,Nat.zero_add,oGs,bNf,enP,AJS,O1,f1,f2,f5,AV1 hb,D6 hk',FP AAK WI JX hk',hwr]
    refine (ih e.args[k] (lv - 1) H' (by omega) (by omega) (by omega)).use ?_
    intro b
    simp -implicitDefEqProofs only [BI,A8,AY,BB,AO,AQ,AL,BD,AX,AC,AA,AZ,G6,AB,EY,↓reduceIte,oGs,bNf]
    cases b
    ·simp -implicitDefEqProofs only [BC,BA,BL,A8,CQ,D8,FI,CJ,CY,AY,BB,AO,AQ,AL,BD,AX,AC,AA,AU,BM,A7,↓reduceIte,oGs,bNf]
     exact ⟨⟨_,rfl⟩,hx⟩
    ·simp -implicitDefEqProofs only [BA,BO,A8,EE,EN,DU,AY,BB,AO,AQ,AL,BD,AX,AC,AA,AZ,AU,BH,BG,A7,BQ,AB,DF,↓reduceIte,Nat.reduceEqDiff,oGs,bNt,bNf,enP,f5,wrap_succ (show k < 9223372036854775807 by omega)]
     exact ⟨n - 1,by omega,k+1,by omega,f1,f2,rfl,trivial⟩
   ·simp -implicitDefEqProofs only [BC,BA,BL,DJ,A8,D9,EX,EW,CJ,AY,BB,AO,AQ,AL,BD,AX,AC,AA,AU,BM,A7,↓reduceIte,oGs,bNf]
    exact ⟨⟨_,rfl⟩,hx⟩
theorem AVO (G:Nat→AV) (e:Ex) (hw:wt e≤1048576) (h:Hp):PCall (En G) 94 [.agg (EU e)] h (.int .i64 ((pre e).length:Nat)):=by
 refine ACalls.pure0 rfl ?_
 refine CE (H:=Hint.none) (enM G) Tryz.func94 rfl (by kernel_rfl) (by kernel_rfl) (nLb (by kernel_rfl)) ?_
 show awp _ _ _ _ _ (EJ _ [.tmp 2] _)
 simp -implicitDefEqProofs only [BC,BA,A8,AY,BB,AO,AQ,AL,BD,AX,AC,AA,AZ,AU,BX,BH,A7,FV,BV,BZ,BU,CB,AB,BF,lMc,lMn,lAn,↓reduceIte,Nat.reduceEqDiff,oGs,bNf,enP,bxE,ldE]
 refine (AHG G e hw _).mono ?_
 rintro v h' ⟨c,m,u1,u2,rfl,s,x,rfl⟩
 simp -implicitDefEqProofs only [BL,A8,CJ,AY,BB,AO,AQ,AL,BD,AX,AC,AA,AZ,A7,BV,BK,AB,↓reduceIte,Nat.add_zero,oGs,bNf,enP,AFM,G5,IV,s.l0]
 exact ⟨trivial,_,by rw [List.append_assoc]⟩
set_option maxHeartbeats 1000000 in
theorem points_some (G:Nat→AV) (l:List Pt) (s:SM) (h:Hp) (hl : ∀ p∈l,PtOk p) (hn:l.length≤1048576):SomeB (En G) 41 [.sl s 6 (l.map FH)] h:=by
 refine SomeB.of ?_
 refine CE (H:=Hint.none) (enM G) Tryz.func41 rfl (by kernel_rfl) (by kernel_rfl) (nLb (by kernel_rfl)) ?_
 show awp _ _ _ _ _ (EJ _ [.tmp 2] _)
 simp -implicitDefEqProofs only [BC,BR,BA,A8,AY,BB,AO,AQ,AL,BD,AX,AC,AU,BH,BM,A7,oGs,bNf,enP]
 refine DT (fun n F H' => ∃ i,n+i=l.length∧F 0 = .sl s 6 (l.map FH)∧F 3 = .int .i64 (i:Nat)∧H'=h) l.length ⟨0,by simp,by simp -implicitDefEqProofs only [AA,BF,↓reduceIte,Nat.reduceEqDiff],by simp -implicitDefEqProofs only [AA,↓reduceIte]; rfl,rfl⟩ ?_
 rintro n F H ⟨i,hi,f0,f3,rfl⟩
 simp -implicitDefEqProofs only [BC,BA,AY,BJ,BP,CO,AO,AQ,AL,BD,AX,AC,AA,AZ,BG,BQ,DZ,AB,DC,↓reduceIte,Nat.reduceEqDiff,oGs,bNf,enP,PM,f0,f3,lLm]
 refine G9 (fun hc => ?_) (fun hc => ?_)
 rotate_left
 ·simp -implicitDefEqProofs only [BC,BA,BL,DJ,BI,A8,D9,EX,EW,CJ,DU,AY,BB,BJ,BP,CO,H8,AO,AQ,AL,BD,AX,AC,AA,EP,AZ,AU,BH,BM,BG,A7,CP,DR,BQ,DZ,AB,IE,↓reduceIte,Nat.reduceEqDiff,oGs,bNf,enP,PM,hc,f0,lLm]
  exact ⟨⟨_,rfl⟩,ext.rfl' _⟩
 have hi':i < l.length:=by simpa using hc
 have hp:=hl _ (List.getElem_mem hi')
 simp -implicitDefEqProofs only [BI,A8,AY,BB,BJ,BP,CO,F7,AO,AQ,AL,BD,AX,AC,AA,AZ,AU,BH,BM,BG,CP,DN,BQ,AB,DC,↓reduceIte,Nat.reduceEqDiff,oGs,bNf,enP,hc,f3]
 refine CV (fun hc2 => ?_) (fun hc2 => ?_)
 rotate_left
 ·simp -implicitDefEqProofs only [BC,BA,BL,DJ,A8,D9,EX,EW,CJ,AY,BB,AO,AQ,AL,BD,AX,AC,AA,AZ,AU,BH,BG,A7,BQ,DZ,AB,IE,↓reduceIte,Nat.reduceEqDiff,oGs,bNf,enP,PM,f0,lLm]
  exact ⟨⟨_,rfl⟩,ext.rfl' _⟩
 simp -implicitDefEqProofs only [BC,BR,BA,BO,A8,AY,BJ,BP,CO,AO,AQ,AL,BD,AX,AC,AA,AZ,AU,BH,BG,BV,BQ,BK,CG,DZ,AB,EZ,↓reduceIte,Nat.reduceEqDiff,Nat.zero_add,oGs,bNf,enP,OJ,OV,H9,f0,f3,D6 hi',DV O5 hi',LH,lLm]
 refine G9 (fun h1 => ?_) (fun h1 => ?_)
 ·simp -implicitDefEqProofs only [BC,BA,BL,BI,A8,CQ,D8,FI,CJ,CY,AY,BB,BJ,BP,CO,FQ,AO,AQ,AL,BD,AX,AC,AA,EP,AZ,AU,BM,BG,A7,CP,DN,↓reduceIte,Nat.reduceEqDiff,oGs,bNf,h1]
  exact ⟨⟨_,rfl⟩,ext.rfl' _⟩
 simp -implicitDefEqProofs only [BJ,BP,CO,EM,AO,AQ,AL,BD,AX,AC,AA,AZ,AU,BX,BH,BG,BV,BK,CG,BZ,BU,AB,lMc,lMn,lAn,↓reduceIte,Nat.reduceEqDiff,Nat.zero_add,oGs,bNf,enP,OJ,Y3,h1,f0,f3,D6 hi',AX5 hi']
 refine (AI9 G _ l[i].ex 12 H (Nat.le_refl _) hp.ex (by omega)).use ?_
 intro b
 cases b
 ·simp -implicitDefEqProofs only [BC,BA,BL,BI,A8,CQ,D8,FI,CJ,CY,AY,BB,BJ,BP,CO,EM,FQ,AO,AQ,AL,BD,AX,AC,AA,EP,AZ,AU,BM,BG,A7,CP,DN,DR,G6,AB,EY,↓reduceIte,Nat.reduceEqDiff,oGs,bNf]
  exact ⟨⟨_,rfl⟩,ext.rfl' _⟩
 simp -implicitDefEqProofs only [AY,BJ,BP,CO,EM,AO,AQ,AL,BD,AX,AC,AA,AZ,AU,BX,BM,BG,CP,DR,BV,G6,BK,CG,BZ,BU,AB,EY,lMc,lMn,lAn,↓reduceIte,Nat.reduceEqDiff,Nat.zero_add,oGs,bNt,bNf,enP,OJ,Y3,f0,f3,D6 hi',AX5 hi']
 refine (AVO G l[i].ex hp.ex H).use ?_
 simp -implicitDefEqProofs only [BI,A8,AY,BB,BJ,BP,CO,EM,AO,AQ,AL,BD,AX,AC,AA,AZ,AU,BH,BM,CP,DR,BQ,AB,EZ,↓reduceIte,Nat.reduceEqDiff,oGs,bNf,enP]
 refine CV (fun h2 => ?_) (fun h2 => ?_)
 ·simp -implicitDefEqProofs only [BC,BA,BL,A8,CQ,D8,FI,CJ,AY,BB,AO,AQ,AL,BD,AX,AC,AA,AU,BM,A7,↓reduceIte,oGs,bNf]
  exact ⟨⟨_,rfl⟩,ext.rfl' _⟩
 simp -implicitDefEqProofs only [BC,BR,BA,BO,A8,AY,BB,AO,AQ,AL,BD,AX,AC,AU,BH,A7,oGs,bNf]
 refine GV 2 (fun F' H'=>F' 0 = .sl s 6 (l.map FH)∧F' 3 = .int .i64 (i:Nat)∧H'=H) (fun F' H'=>F' 2 = .bool false∧H'=H) ?_ ?_ ?_
 ·refine DT (fun n F' H' => ∃ k,n+k=l[i].bins.length∧F' 0 = .sl s 6 (l.map FH)∧F' 3 = .int .i64 (i:Nat)∧F' 4 = .int .i64 (k:Nat)∧H'=H) l[i].bins.length ⟨0,by simp,by simp -implicitDefEqProofs only [AA,↓reduceIte,Nat.reduceEqDiff,f0],by simp -implicitDefEqProofs only [AA,↓reduceIte,Nat.reduceEqDiff,f3],by simp -implicitDefEqProofs only [AA,↓reduceIte]; rfl,rfl⟩ ?_
  rintro n' F' H' ⟨k,hk,g0,g3,g4,rfl⟩
  simp -implicitDefEqProofs only [BC,BA,BI,A8,AY,BB,AO,AQ,AL,BD,AX,AC,AA,AZ,BG,BV,BQ,BK,CG,DZ,AB,DC,↓reduceIte,Nat.reduceEqDiff,Nat.zero_add,oGs,bNf,enP,OJ,OV,H9,g0,g3,g4,D6 hi',DV O5 hi',LH,lLm]
  refine CV (fun hc => ?_) (fun hc => ?_)
  ·have hk':k < l[i].bins.length:=by simpa using hc
   have hbl:=hp.num
   simp -implicitDefEqProofs only [BC,BR,BA,BO,A8,AY,BJ,BP,CO,AO,AQ,AL,BD,AX,AC,AA,AZ,AU,BH,BG,BV,BQ,BK,CG,DZ,AB,EZ,↓reduceIte,Nat.reduceEqDiff,Nat.zero_add,oGs,bNf,enP,OJ,WV,H9,QL,PE,g0,g3,g4,D6 hi',DV O5 hi',LH,D6 hk',DV OI hk',X9,lLm]
   refine G9 (fun h3 => ?_) (fun h3 => ?_)
   ·simp -implicitDefEqProofs only [BC,BA,BL,BI,A8,CQ,D8,MZ,FI,CY,AY,BB,BJ,BP,CO,FQ,AO,AQ,AL,BD,AX,AC,AA,EP,AZ,AU,BM,A7,CP,DN,↓reduceIte,Nat.reduceEqDiff,oGs,bNf,h3]
    exact ⟨trivial,trivial⟩
   simp -implicitDefEqProofs only [BI,A8,AY,BB,BJ,BP,CO,EM,AO,AQ,AL,BD,AX,AC,AA,AZ,AU,BH,BM,BG,CP,DR,BV,BQ,BK,CG,DZ,AB,EZ,↓reduceIte,Nat.reduceEqDiff,Nat.zero_add,oGs,bNf,enP,OJ,WV,H9,PW,MV,h3,g0,g3,g4,D6 hi',DV O5 hi',LH,D6 hk',DV SS hk',SK,lLm]
   refine CV (fun h4 => ?_) (fun h4 => ?_)
   ·simp -implicitDefEqProofs only [BC,BA,BL,A8,CQ,D8,MZ,FI,AY,BB,AO,AQ,AL,BD,AX,AC,AA,AU,BM,A7,↓reduceIte,oGs,bNf]
    exact ⟨trivial,trivial⟩
   ·simp -implicitDefEqProofs only [BA,BO,A8,EE,EN,AY,BB,AO,AQ,AL,BD,AX,AC,AA,AZ,AU,BH,BG,A7,BQ,AB,DF,↓reduceIte,Nat.reduceEqDiff,oGs,bNf,enP,g4,wrap_succ (show k < 9223372036854775807 by omega)]
    exact ⟨n' - 1,by omega,k+1,by omega,g0,g3,rfl,trivial⟩
  ·simp -implicitDefEqProofs only [DJ,D9,J4,EW,AA,↓reduceIte,Nat.reduceEqDiff]
   exact ⟨g0,g3,trivial⟩
 ·rintro F' H' ⟨g0,g3,rfl⟩
  simp -implicitDefEqProofs only [BA,A8,EE,EX,EN,AY,BB,AO,AQ,AL,BD,AX,AC,AA,AZ,AU,BH,BG,A7,BQ,AB,DF,↓reduceIte,Nat.reduceEqDiff,oGs,bNf,enP,g3,wrap_succ (show i < 9223372036854775807 by omega)]
  exact ⟨n - 1,by omega,i+1,by omega,g0,rfl,trivial⟩
 ·rintro F' H' ⟨g2,rfl⟩
  simp -implicitDefEqProofs only [CQ,D8,FI,CJ,g2]
  exact ⟨⟨_,rfl⟩,ext.rfl' _⟩
set_option maxHeartbeats 1000000 in
theorem small_some (G:Nat→AV) (m:Mo) (hm:MoOk m) (h:Hp):SomeB (En G) 46 [.agg (EH m)] h:=by
 have hm1:=hm.np
 have hm2:=hm.nc
 refine SomeB.of ?_
 refine CE (H:=Hint.none) (enM G) Tryz.func46 rfl (by kernel_rfl) (by kernel_rfl) (nLb (by kernel_rfl)) ?_
 show awp _ _ _ _ _ (EJ _ [.tmp 2] _)
 have gm:=CZ h (.live 2 [EH m])
 have hx:ext h (h ++ [.live 2 [EH m]]):=(ext.rfl' h).app _
 have m0:D7 Tryz.prog (h ++ [.live 2 [EH m]]) 22 (.ptr h.length 0 0)=some (.sl m.pm 6 (m.pts.map FH)):=by rw [DL TQ gm (row:=EH m) rfl,OC]
 have m1:D7 Tryz.prog (h ++ [.live 2 [EH m]]) 23 (.ptr h.length 0 1)=some (.sl m.cm 3 (m.crs.map F9)):=by rw [DL ACS gm (row:=EH m) rfl,U7]
 simp -implicitDefEqProofs only [BC,BA,A8,AY,BB,AO,AQ,AL,BD,AX,AC,AA,AZ,AU,BM,A7,FV,BV,BK,CB,AB,BF,↓reduceIte,Nat.reduceEqDiff,Nat.add_zero,oGs,bNf,enP,IC,bxM]
 generalize h ++ [.live 2 [EH m]]=H at gm hx m0 m1 ⊢
 simp -implicitDefEqProofs only [AY,AO,AQ,AL,BD,AX,AC,AA,AZ,BX,BZ,BU,AB,lMc,lMn,lAn,↓reduceIte,oGs,bNf,m0]
 refine (points_some G m.pts m.pm H hm.pts hm1).use ?_
 intro b
 cases b
 ·simp -implicitDefEqProofs only [BC,BA,BL,BI,A8,CQ,CJ,CY,AY,BB,BJ,BP,CO,FQ,AO,AQ,AL,BD,AX,AC,AA,EP,AZ,AU,BM,BG,A7,CP,DN,G6,AB,EY,↓reduceIte,Nat.reduceEqDiff,oGs,bNf]
  exact ⟨⟨_,rfl⟩,hx⟩
 simp -implicitDefEqProofs only [BI,A8,AY,BB,BJ,BP,CO,EM,AO,AQ,AL,BD,AX,AC,AA,AZ,AU,BH,BM,BG,CP,DR,BV,BQ,G6,BK,DZ,AB,EZ,EY,↓reduceIte,Nat.reduceEqDiff,Nat.zero_add,oGs,bNt,bNf,enP,UA,JW,m1,lLm]
 refine CV (fun hc => ?_) (fun hc => ?_)
 ·simp -implicitDefEqProofs only [BC,BA,BL,A8,CQ,CJ,AY,BB,AO,AQ,AL,BD,AX,AC,AA,AU,BM,A7,↓reduceIte,oGs,bNf]
  exact ⟨⟨_,rfl⟩,hx⟩
 simp -implicitDefEqProofs only [BC,BR,BA,BO,A8,AY,BB,AO,AQ,AL,BD,AX,AC,AU,BH,A7,oGs,bNf]
 refine DT (fun n F H' => ∃ i,n+i=m.crs.length∧F 1 = .ptr h.length 0 0∧F 3 = .int .i64 (i:Nat)∧H'=H) m.crs.length ⟨0,by simp,by simp -implicitDefEqProofs only [AA,↓reduceIte,Nat.reduceEqDiff],by simp -implicitDefEqProofs only [AA,↓reduceIte]; rfl,rfl⟩ ?_
 rintro n F H' ⟨i,hi,f1,f3,rfl⟩
 simp -implicitDefEqProofs only [BC,BA,BI,A8,AY,BB,AO,AQ,AL,BD,AX,AC,AA,AZ,BG,BV,BQ,BK,DZ,AB,DC,↓reduceIte,Nat.reduceEqDiff,Nat.zero_add,oGs,bNf,enP,UA,JW,f1,f3,m1,lLm]
 refine CV (fun hc => ?_) (fun hc => ?_)
 ·have hi':i < m.crs.length:=by simpa using hc
  simp -implicitDefEqProofs only [BC,BR,BA,BO,A8,AY,BJ,BP,CO,AO,AQ,AL,BD,AX,AC,AA,AZ,AU,BH,BG,BV,BQ,BK,CG,DZ,AB,EZ,↓reduceIte,Nat.reduceEqDiff,Nat.zero_add,oGs,bNf,enP,XV,JW,I8,J3,f1,f3,m1,D6 hi',DV L8 hi',AEG,lLm]
  refine G9 (fun h1 => ?_) (fun h1 => ?_)
  ·simp -implicitDefEqProofs only [BC,BA,BL,BI,A8,CQ,D8,FI,CJ,CY,AY,BB,BJ,BP,CO,FQ,AO,AQ,AL,BD,AX,AC,AA,EP,AZ,AU,BM,A7,CP,DN,↓reduceIte,Nat.reduceEqDiff,oGs,bNf,h1]
   exact ⟨⟨_,rfl⟩,hx⟩
  simp -implicitDefEqProofs only [BI,A8,AY,BB,BJ,BP,CO,EM,AO,AQ,AL,BD,AX,AC,AA,AZ,AU,BH,BM,BG,CP,DR,BV,BQ,BK,CG,DZ,AB,EZ,↓reduceIte,Nat.reduceEqDiff,Nat.zero_add,oGs,bNf,enP,XV,JW,QT,QO,h1,f1,f3,m1,D6 hi',DV OM hi',AIA,lLm]
  refine CV (fun h2 => ?_) (fun h2 => ?_)
  ·simp -implicitDefEqProofs only [BC,BA,BL,A8,CQ,D8,FI,CJ,AY,BB,AO,AQ,AL,BD,AX,AC,AA,AU,BM,A7,↓reduceIte,oGs,bNf]
   exact ⟨⟨_,rfl⟩,hx⟩
  ·simp -implicitDefEqProofs only [BA,BO,A8,EE,EN,AY,BB,AO,AQ,AL,BD,AX,AC,AA,AZ,AU,BH,BG,A7,BQ,AB,DF,↓reduceIte,Nat.reduceEqDiff,oGs,bNf,enP,f3,wrap_succ (show i < 9223372036854775807 by omega)]
   exact ⟨n - 1,by omega,i+1,by omega,f1,rfl,trivial⟩
 ·simp -implicitDefEqProofs only [BC,BA,BL,DJ,A8,D9,EX,EW,CJ,AY,BB,AO,AQ,AL,BD,AX,AC,AA,AU,BM,A7,↓reduceIte,oGs,bNf]
  exact ⟨⟨_,rfl⟩,hx⟩
structure Reads (H:Hp) (v:AV) (xs:List Bool):Prop where
 ln:LW Tryz.prog 146 v=some (.int .i64 (xs.length:Nat))
 ix : ∀ k (hk:k < xs.length),∃ p,JK 1 H v (.int .i64 (k:Int))=some p∧D7 Tryz.prog H 4 p=some (.bool xs[k])
theorem Reads.sl (H:Hp) (s:SM) (xs:List Bool):Reads H (.sl s 1 (xs.map ACF)) xs :=
 ⟨by rw [APG.1,lLm],fun k hk=>⟨_,D6 hk,by rw [DV ag4 hk]; rfl⟩⟩
theorem Reads.nil (H:Hp):Reads H (.sl .nil 0 []) []:=⟨by rw [APG.1]; rfl,fun k hk=>absurd hk (by simp)⟩
theorem AV0 {H:Hp} {b k:Nat} {xs:List Bool} (hb:H[b]? = some (ABlk.live 1 (xs.map ACF))) (hk:k < xs.length):D7 Tryz.prog H 4 (.ptr b k 0)=some (.bool xs[k]):=by
 rw [DL ag4 hb (row:=ACF xs[k]) (KL hk)]; rfl
theorem Reads.own {H:Hp} {b:Nat} {xs:List Bool} (hb:H[b]? = some (ABlk.live 1 (xs.map ACF))):Reads H (.own b 0 xs.length) xs :=
 ⟨by rw [APG.2],fun k hk=>⟨.ptr b k 0,by rw [KW hb hk,Nat.zero_add],AV0 hb hk⟩⟩
theorem mix_set {α:Type} {f:α→List AV} {os xs:List α} {k:Nat} (hl:os.length=xs.length) (hk:k < os.length):((os.take k ++ xs.drop k).map f).set k (f os[k])=(os.take (k+1) ++ xs.drop (k+1)).map f:=by
 rw [List.drop_eq_getElem_cons (show k < xs.length by omega),List.take_succ_eq_append_getElem hk]
 simp only [List.map_append,lMc,lMn,List.append_assoc,List.singleton_append]
 rw [List.set_append_right _ _ (by simp; omega)]
 simp [Nat.min_eq_left (Nat.le_of_lt hk)]
theorem mix_get {os xs:List Bool} {k:Nat} (hl:os.length=xs.length) (hk:k < xs.length):(os.take k ++ xs.drop k)[k]? = some xs[k]:=by
 rw [List.getElem?_append_right (by simp; omega)]
 simp only [List.length_take,Nat.min_eq_left (show k≤os.length by omega),Nat.sub_self]
 rw [List.getElem?_drop]
 simp [hk]
theorem mix_len {os xs:List Bool} {k:Nat} (hl:os.length=xs.length) (hk:k≤xs.length):(os.take k ++ xs.drop k).length=xs.length:=by simp; omega
def AQE (r:List Bool):List AV := [.sl .any 1 (r.map ACF)]
theorem mkB (h:Hp) (n:Nat) (hn:n≤1048576):IG Tryz.prog true h 146 (.int .i64 (n:Int)) (.int .i64 (n:Int))=some (.own h.length 0 n,h ++ [ABlk.live 1 ((List.replicate n false).map ACF)]):=by
 have hz:MF Tryz.prog 4=some [.bool false]:=by kernel_rfl
 have hs:szO Tryz.prog 4=some 1:=by kernel_rfl
 have hb:ND Tryz.prog 4=some 1:=by kernel_rfl
 have hr:room n 1:=JH (by omega) (by omega)
 unfold IG
 simp only [AW8,hs,hb,hz,Int.toNat_natCast]
 rw [if_pos ⟨by omega,Int.le_refl _,hr,rfl⟩]
 simp [ACF]
def opSt (h:Hp) (vs:List (List Bool)) (v:AV) (H:Hp):Prop:=(vs = []∧v = .sl .full 1 [])∨(vs≠[]∧outG 1 AQE h vs v H)
theorem opSt.app {h H:Hp} {vs:List (List Bool)} {v:AV} (hs:opSt h vs v H) (he:ext h H) (hl:vs.length≤1048576) (r:List Bool) :
  ∃ v' H',H7 Tryz.prog true H 143 143 v (.sl .full 1 [AQE r])=some (v',H')∧opSt h (vs ++ [r]) v' H'∧ext h H'∧∀ b x,b < h.length→H[b]? = some x→H'[b]? = some x:=by
 have AOD:UB Tryz.prog 146=some 1:=by kernel_rfl
 have AQT:ND Tryz.prog 146=some 24:=by kernel_rfl
 rcases hs with ⟨rfl,rfl⟩ | ⟨hne,ho⟩
 ·refine ⟨_,_,VC AUS AUW AOD AQT (KF H .full 1 [AQE r]) (by simp) (JH (by simp) (by omega)),.inr ⟨by simp,.inr ⟨by simp,H.length,he.le,by simp,by simp⟩⟩,he.app _,fun b x _ hb=>GI hb⟩
 ·obtain ⟨v',H',h1,h2,h3,h4,h5,h6,h7⟩:=ho.app2 AUS AUW AOD AQT (by omega) (by omega) he.le r
  refine ⟨v',H',h1,.inr ⟨by simp,h2⟩,h7 h (Nat.le_refl _) he,fun b x hb hx=>h3 b x hx fun hB => ?_⟩
  have:=ho.lt hB
  omega
theorem opSt.ext {h H:Hp} {vs:List (List Bool)} {v:AV} (hs:opSt h vs v H) (x:Hp):opSt h vs v (H ++ x):=by
 rcases hs with h1 | ⟨h1,h2⟩
 ·exact .inl h1
 ·exact .inr ⟨h1,h2.app x⟩
theorem ACalls.args {E:Env} {f:FuncId} {as1 as2:List AV} {h:Hp} {R:AV→Hp→Prop} (hc:ACalls E f as2 h R) (ha : ∀ g cargs,ZL g as1 cargs→ZL g as2 cargs):ACalls E f as1 h R :=
 ⟨hc.1,fun g w cargs S hr=>hc.2 g w cargs S (ha g cargs hr)⟩
structure ReadsN (H:Hp) (v:AV) (xs:List Nat):Prop where
 ln:LW Tryz.prog 57 v=some (.int .i64 (xs.length:Nat))
 ix : ∀ k (hk:k < xs.length),∃ p,JK 1 H v (.int .i64 (k:Int))=some p∧D7 Tryz.prog H 3 p=some (.int .i64 (xs[k]:Nat))
theorem ReadsN.sl (H:Hp) (s:SM) (xs:List Nat):ReadsN H (.sl s 1 (xs.map IZ)) xs :=
 ⟨by rw [I8.1,lLm],fun k hk=>⟨_,D6 hk,by rw [DV ag3 hk]; rfl⟩⟩
theorem ReadsN.nil (H:Hp) (k:Nat):ReadsN H (.sl .nil k []) []:=⟨by rw [I8.1]; rfl,fun k hk=>absurd hk (by simp)⟩
theorem ReadsN.own {H:Hp} {b:Nat} {xs:List Nat} (hb:H[b]? = some (ABlk.live 1 (xs.map IZ))):ReadsN H (.own b 0 xs.length) xs :=
 ⟨by rw [I8.2],fun k hk=>⟨.ptr b k 0,by rw [KW hb hk,Nat.zero_add],by rw [DL ag3 hb (row:=IZ xs[k]) (KL hk)]; rfl⟩⟩
def RN (h:Hp) (v:AV) (xs:List Nat):Prop:=(∃ s,v = .sl s 1 (xs.map IZ))∨(xs = []∧∃ k,v = .sl .nil k [])∨∃ b,v = .own b 0 xs.length∧h[b]? = some (ABlk.live 1 (xs.map IZ))
theorem RN.up {h H:Hp} {v:AV} {xs:List Nat} (hr:RN h v xs) (he:ext h H):RN H v xs:=by
 rcases hr with h1 | h1 | ⟨b,h1,h2⟩
 ·exact .inl h1
 ·exact .inr (.inl h1)
 ·exact .inr (.inr ⟨b,h1,F5 he h2⟩)
theorem RN.reads {h:Hp} {v:AV} {xs:List Nat} (hr:RN h v xs):ReadsN h v xs:=by
 rcases hr with ⟨s,rfl⟩ | ⟨rfl,k,rfl⟩ | ⟨b,rfl,h2⟩
 ·exact ReadsN.sl h s xs
 ·exact ReadsN.nil h k
 ·exact ReadsN.own h2
theorem RN.out {h H:Hp} {v:AV} {xs:List Nat} (ho:outG 1 IZ h xs v H):RN H v xs:=by
 rcases ho with ⟨rfl,rfl⟩ | ⟨_,o,_,rfl,h3⟩
 ·exact .inr (.inl ⟨rfl,0,rfl⟩)
 ·exact .inr (.inr ⟨o,rfl,h3⟩)
def hasB (xs:List Int) (z:Int):Bool:=xs.any fun x=>x == z
theorem AJV (G:Nat→AV) (xs:List Int) (s:SM) (z:Int) (h:Hp) (hn:xs.length≤1048576) : ∃ k:Int,PCall (En G) 176 [.sl s 1 (xs.map encI),.int .i64 z] h (.int .i64 k)∧decide (k≥0)=hasB xs z:=by
 by_cases hb:hasB xs z=true
 ·obtain ⟨i,hi⟩ : ∃ i,xs.findIdx? (fun x=>x == z)=some i:=by
   cases he:xs.findIdx? (fun x=>x == z) with
   | some i=>exact ⟨i,rfl⟩
   | none =>
     rw [List.findIdx?_eq_none_iff] at he
     unfold hasB at hb
     rw [List.any_eq_true] at hb
     obtain ⟨x,hx,hz⟩:=hb
     rw [he x hx] at hz; cases hz
  refine ⟨(i:Int),?_,by rw [hb]; simp⟩
  obtain ⟨hil,hiz,hbef⟩:=List.findIdx?_eq_some_iff_getElem.1 hi
  refine CE (H:=Hint.none) (enM G) Tryz.func176 rfl (by kernel_rfl) (by kernel_rfl) (nLb (by kernel_rfl)) ?_
  show awp _ _ _ _ _ (EJ _ [.tmp 4] _)
  simp -implicitDefEqProofs only [BC,BR,BA,A8,AY,BB,AO,AQ,AL,BD,AX,AC,AA,AZ,AU,BH,BG,A7,DZ,AB,BF,↓reduceIte,Nat.reduceEqDiff,oGs,bNf,enP,I8,lLm]
  refine DT (fun n F H => ∃ k,n+k=xs.length∧k≤i∧F 0 = .sl s 1 (xs.map encI)∧F 1 = .int .i64 z∧F 7 = .int .i64 (xs.length:Nat)∧F 8 = .int .i64 (k:Nat)∧H=h) xs.length ⟨0,by simp,by omega,by simp -implicitDefEqProofs only [AA,BF,↓reduceIte,Nat.reduceEqDiff],by simp -implicitDefEqProofs only [AA,BF,BN,↓reduceIte,Nat.reduceEqDiff],by simp -implicitDefEqProofs only [AA,↓reduceIte,Nat.reduceEqDiff],by simp -implicitDefEqProofs only [AA,↓reduceIte]; rfl,rfl⟩ ?_
  rintro n F H ⟨k,hk,hki,f0,f1,f7,f8,rfl⟩
  have hk':k < xs.length:=by omega
  have hd:decide (((k:Nat):Int) < ((xs.length:Nat):Int))=true:=by simp; omega
  simp -implicitDefEqProofs only [BC,BR,BA,BO,BI,A8,CY,AY,BB,AO,AQ,AL,BD,AX,AC,AA,AZ,BG,A7,BV,BQ,CG,AB,D5,DC,↓reduceIte,Nat.reduceEqDiff,oGs,bNf,enP,JL,f7,f8,hd,f0,f1,D6 hk',DV ag3 hk',Cov.encI0]
  rcases Nat.eq_or_lt_of_le hki with e | hlt
  ·subst e
   have hzz:(z == xs[k])=true:=by rw [BEq.comm]; exact hiz
   simp -implicitDefEqProofs only [BC,BA,BL,A8,CQ,D8,FI,CJ,CY,AY,BB,AO,AQ,AL,BD,AX,AC,AA,AZ,BG,A7,↓reduceIte,Nat.reduceEqDiff,oGs,bNf,hzz,f8]
   exact ⟨trivial,trivial⟩
  ·have hzz:(z == xs[k])=false:=by
    have:=hbef k hlt
    rw [BEq.comm]; simpa using this
   simp -implicitDefEqProofs only [BA,BO,A8,EE,EN,DU,AY,BB,AO,AQ,AL,BD,AX,AC,AA,AZ,AU,BH,BG,BQ,AB,DF,↓reduceIte,Nat.reduceEqDiff,oGs,bNf,enP,hzz,f8,wrap_succ (show k < 9223372036854775807 by omega)]
   exact ⟨n - 1,by omega,k+1,by omega,by omega,by first | exact f0 | trivial,by first | exact f1 | trivial,by first | exact f7 | trivial,rfl,trivial⟩
 ·have hb':hasB xs z=false:=by simpa using hb
  refine ⟨-1,?_,by rw [hb']; decide⟩
  refine CE (H:=Hint.none) (enM G) Tryz.func176 rfl (by kernel_rfl) (by kernel_rfl) (nLb (by kernel_rfl)) ?_
  show awp _ _ _ _ _ (EJ _ [.tmp 4] _)
  simp -implicitDefEqProofs only [BC,BR,BA,A8,AY,BB,AO,AQ,AL,BD,AX,AC,AA,AZ,AU,BH,BG,A7,DZ,AB,BF,↓reduceIte,Nat.reduceEqDiff,oGs,bNf,enP,I8,lLm]
  refine DT (fun n F H => ∃ k,n+k=xs.length∧F 0 = .sl s 1 (xs.map encI)∧F 1 = .int .i64 z∧F 7 = .int .i64 (xs.length:Nat)∧F 8 = .int .i64 (k:Nat)∧H=h) xs.length ⟨0,by simp,by simp -implicitDefEqProofs only [AA,BF,↓reduceIte,Nat.reduceEqDiff],by simp -implicitDefEqProofs only [AA,BF,BN,↓reduceIte,Nat.reduceEqDiff],by simp -implicitDefEqProofs only [AA,↓reduceIte,Nat.reduceEqDiff],by simp -implicitDefEqProofs only [AA,↓reduceIte]; rfl,rfl⟩ ?_
  rintro n F H ⟨k,hk,f0,f1,f7,f8,rfl⟩
  simp -implicitDefEqProofs only [BC,BA,BI,A8,AY,BB,AO,AQ,AL,BD,AX,AC,AA,AZ,BQ,AB,DC,↓reduceIte,oGs,bNf,enP,f7,f8]
  refine CV (fun hc => ?_) (fun hc => ?_)
  ·have hk':k < xs.length:=by simpa using hc
   have hzz:(z == xs[k])=false:=by
    rw [← Bool.not_eq_true]; intro e
    unfold hasB at hb'
    rw [List.any_eq_false] at hb'
    exact hb' xs[k] (List.getElem_mem hk') (by rw [BEq.comm]; exact e)
   simp -implicitDefEqProofs only [BC,BR,BA,BO,BI,A8,EE,EN,DU,AY,BB,AO,AQ,AL,BD,AX,AC,AA,AZ,AU,BH,BG,A7,BV,BQ,CG,AB,DF,D5,↓reduceIte,Nat.reduceEqDiff,oGs,bNf,enP,JL,f0,f1,f8,D6 hk',DV ag3 hk',Cov.encI0,hzz,wrap_succ (show k < 9223372036854775807 by omega)]
   exact ⟨n - 1,by omega,k+1,by omega,by first | exact f0 | trivial,by first | exact f1 | trivial,f7,rfl,trivial⟩
  ·simp -implicitDefEqProofs only [BC,BA,BL,DJ,A8,D9,EX,EW,CJ,AY,BB,AO,AQ,AL,BD,AX,AC,AA,AU,BH,A7,↓reduceIte,oGs,bNf]
   exact ⟨trivial,trivial⟩
theorem contains_rank (G:Nat→AV) (xs:List Int) (s:SM) (z:Int) (h:Hp) (hn:xs.length≤1048576):PCall (En G) 118 [.sl s 1 (xs.map encI),.int .i64 z] h (.bool (hasB xs z)):=by
 obtain ⟨k,hk,hd⟩:=AJV G xs s z h hn
 refine CE (H:=Hint.none) (enM G) Tryz.func118 rfl (by kernel_rfl) (by kernel_rfl) (nLb (by kernel_rfl)) ?_
 show awp _ _ _ _ _ (EJ _ [.tmp 4] _)
 simp -implicitDefEqProofs only [BC,BA,A8,AY,BB,AO,AQ,AL,BD,AX,AC,AA,AZ,AU,BX,BM,BG,A7,BZ,BU,BF,BN,lMc,lMn,lAn,↓reduceIte,Nat.reduceEqDiff,oGs,bNf,enP]
 refine hk.use ?_
 simp -implicitDefEqProofs only [BL,A8,CJ,AY,BB,AO,AQ,AL,BD,AX,AC,AA,AZ,AU,BH,A7,BQ,AB,G8,↓reduceIte,oGs,bNf,enP,hd]
 exact ⟨trivial,trivial⟩
end Go.Proofs.YtocilianjfhifaaGreatDoor.Rk
