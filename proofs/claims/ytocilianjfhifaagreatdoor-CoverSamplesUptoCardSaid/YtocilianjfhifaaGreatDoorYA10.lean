/- Part 10 of the proof (R1, R2, R3, R4, R5, R7, R9); no condition. -/
import Derived.Test.YtocilianjfhifaaGreatDoorYA9
set_option linter.unusedVariables false
namespace Go.Proofs.YtocilianjfhifaaGreatDoor.Rk
open Sm Bins Cov Go.RowKit
section
variable {γ:Type} (gs:List γ) (P:Nat→γ→Bool)
def cov (out:List Nat) (x:γ):Bool:=out.any fun i=>P i x
def gain (out:List Nat) (i:Nat):Nat:=gs.countP fun x=>P i x && !cov P out x
theorem AQ3 {a b:List Nat} (h : ∀ i∈a,i∈b) {x:γ} (hx:cov P a x=true):cov P b x=true:=by
 unfold cov at *
 rw [List.any_eq_true] at *
 obtain ⟨i,hi,hp⟩:=hx
 exact ⟨i,h i hi,hp⟩
theorem ANT {a b:List Nat} (h : ∀ i∈a,i∈b) (i:Nat):gain gs P b i≤gain gs P a i:=by
 unfold gain
 refine List.countP_mono_left fun x _ hx => ?_
 simp only [Bool.and_eq_true,Bool.not_eq_true'] at *
 refine ⟨hx.1,?_⟩
 cases hc:cov P a x with
 | false=>rfl
 | true=>rw [AQ3 P h hc] at hx; cases hx.2
theorem ATP {a:List Nat} {i:Nat} (h:i∈a):gain gs P a i=0:=by
 unfold gain
 rw [List.countP_eq_zero]
 intro x _ hx
 simp only [Bool.and_eq_true,Bool.not_eq_true'] at hx
 have:cov P a x=true:=by
  unfold cov; rw [List.any_eq_true]; exact ⟨i,h,hx.1⟩
 rw [this] at hx; cases hx.2
variable (n:Nat)
def gains (o:List Nat):List Nat:=(List.range o.length).map fun k=>gain gs P (o.take k) (o.getD k 0)
structure Falls (o:List Nat):Prop where
 pos : ∀ k,k < o.length→1≤gain gs P (o.take k) (o.getD k 0)
 fall : ∀ k,k+1 < o.length→gain gs P (o.take (k+1)) (o.getD (k+1) 0)≤gain gs P (o.take k) (o.getD k 0)
 top : ∀ k,k < o.length→∀ i,i < n→gain gs P (o.take k) i≤gain gs P (o.take k) (o.getD k 0)
 lt : ∀ i∈o,i < n
 nodup:o.Nodup
theorem RV {o:List Nat} {a k:Nat} (h:k < o.length):(o ++ [a]).getD k 0=o.getD k 0:=by
 simp only [List.getD_eq_getElem?_getD,List.getElem?_append_left h]
theorem ZE (o:List Nat) (a:Nat):(o ++ [a]).getD o.length 0=a:=by simp [List.getD_eq_getElem?_getD]
theorem take_left' {o:List Nat} {a k:Nat} (h:k≤o.length):(o ++ [a]).take k=o.take k:=List.take_append_of_le_length h
theorem Falls.snoc {o:List Nat} (F:Falls gs P n o) {a:Nat} (ha:a < n) (hp:gain gs P o a≠0) (ht : ∀ i,i < n→gain gs P o i≤gain gs P o a):Falls gs P n (o ++ [a]):=by
 have hlen:(o ++ [a]).length=o.length+1:=by simp
 have htl:(o ++ [a]).take o.length=o:=by rw [take_left' (Nat.le_refl _),List.take_length]
 refine ⟨fun k hk => ?_,fun k hk => ?_,fun k hk i hi => ?_,fun i hi => ?_,?_⟩
 ·rcases Nat.lt_or_ge k o.length with h | h
  ·rw [take_left' (by omega),RV h]; exact F.pos k h
  ·obtain rfl:k=o.length:=by omega
   rw [htl,ZE]; omega
 ·rcases Nat.lt_or_ge (k+1) o.length with h | h
  ·rw [take_left' (by omega),take_left' (by omega),RV h,RV (by omega)]; exact F.fall k h
  ·have e:k+1=o.length:=by omega
   rw [e,htl,ZE,take_left' (by omega),RV (by omega)]
   have h1:=F.top k (by omega) a ha
   have h2:=ANT gs P (a:=o.take k) (b:=o) (fun i hi=>List.mem_of_mem_take hi) a
   omega
 ·rcases Nat.lt_or_ge k o.length with h | h
  ·rw [take_left' (by omega),RV h]; exact F.top k h i hi
  ·obtain rfl:k=o.length:=by omega
   rw [htl,ZE]; exact ht i hi
 ·rcases List.mem_append.1 hi with h | h
  ·exact F.lt i h
  ·simp at h; subst h; exact ha
 ·rw [List.nodup_append]
  refine ⟨F.nodup,by simp,fun x hx y hy e => ?_⟩
  simp at hy; subst hy; subst e
  exact hp (ATP gs P hx)
theorem Falls.nil:Falls gs P n []:=⟨fun k h=>by simp at h,fun k h=>by simp at h,fun k h=>by simp at h,fun i h=>(by cases h),List.nodup_nil⟩
def full (x:γ):Bool:=cov P (List.range n) x
def allB (o:List Nat):Bool:=gs.countP (fun x=>full P n x && !cov P o x) == 0
end
def hit (v:Cvr) (g:Gl):Bool:=decide (AWR v g > 0)
def hits (l:List Cvr) (i:Nat) (g:Gl):Bool:=match l[i]? with
 | some v=>hit v g
 | none=>false
def ACQ (b:Bool):List AV := [.bool b]
def row (m:Mo) (v:Cvr):List Bool:=(goals m).map (hit v)
def left (gs:List Gl) (v:Cvr) (k:Nat):List Gl:=(gs.drop k).filter fun g => !hit v g
end Go.Proofs.YtocilianjfhifaaGreatDoor.Rk
set_option linter.unusedSimpArgs false
set_option maxRecDepth 8000
namespace Go.Proofs.YtocilianjfhifaaGreatDoor.Rk
open Sm Bins Cov Go.RowKit
def SomeB (E:Env) (f:FuncId) (args:List AV) (h:Hp):Prop:=ACalls E f args h fun v H=>(∃ b:Bool,v = .bool b)∧H=h
theorem SomeB.of {E:Env} {f:FuncId} {args:List AV} {h:Hp} (hc:ACalls E f args h fun v H=>(∃ b:Bool,v = .bool b)∧ext h H):SomeB E f args h :=
 hc.trunc fun v H hR=>by
  obtain ⟨⟨b,rfl⟩,x,rfl⟩:=hR
  exact ⟨1,h,rfl,fun b hb => .inr (.inl ⟨by rw [List.getElem?_append_left hb],by rw [List.getElem?_append_left hb]⟩),⟨b,rfl⟩,rfl⟩
theorem SomeB.use {E:Env} {f:FuncId} {args:List AV} {h:Hp} {K:AV→Hp→Prop} (hc:SomeB E f args h) (hk : ∀ b:Bool,K (.bool b) h):ACalls E f args h K :=
 ACalls.mono hc fun v H ⟨⟨b,e⟩,e2⟩=>by rw [e,e2]; exact hk b
theorem AVO {e:Ex} {k:Nat} (hk:k < e.args.length):wt e.args[k] < wt e:=by
 have h1:=QR (List.getElem_mem hk)
 have h2:=MH e
 omega
theorem AWC {H:Hp} {b:Nat} {e:Ex} (hb:H[b]? = some (.live 4 [ET e])):DZ Tryz.prog H 51 (.ptr b 0 3)=some (.sl e.m 4 (e.args.map ET)):=by
 rw [DJ AGT hb (row:=ET e) rfl,YD]
theorem AYC {H:Hp} {l:List Pt} {i:Nat} (hi:i < l.length):DZ Tryz.prog H 53 (.fptr 6 (l.map FX) i 1)=some (.agg (ET l[i].ex)):=by
 have h1:=JC l[i]
 simp only [DZ,Sm.rowAt,List.getElem?_map,List.getElem?_eq_getElem hi,Option.map_some,AAY,WB]
 rw [if_pos (by rw [h1]; omega),AMK]
set_option maxHeartbeats 1000000 in
theorem AJL (G:Nat→AV) : ∀ (w:Nat) (e:Ex) (lv:Nat) (h:Hp),wt e≤w→wt e≤1048576→lv≤1000→SomeB (En G) 93 [.agg (ET e),.int .i64 (lv:Nat)] h:=by
 intro w
 induction w with
 | zero=>intro e lv h h1 _ _; have:=MH e; omega
 | succ w ih =>
   intro e lv h h1 h2 h3
   have hlen:=SI e.args
   have hwt:=MH e
   refine SomeB.of ?_
   refine CB (H:=Hint.none) (enM G) Tryz.func93 rfl (by kernel_rfl) (by kernel_rfl) (nLb (by kernel_rfl)) ?_
   show awp _ _ _ _ _ (EE _ [.tmp 4] _)
   have hb:=CY h (.live 4 [ET e])
   have hx:ext h (h ++ [.live 4 [ET e]]):=(ext.rfl' h).app _
   simp -implicitDefEqProofs only [BC,BA,A8,AY,BB,BJ,BP,CO,AO,AQ,AL,BD,AX,AC,AA,A7,AU,BH,BM,BG,AZ,FV,BR,CE,AB,DY,BF,BN,↓reduceIte,Nat.reduceEqDiff,oGs,bNf,enP,bxE]
   generalize h ++ [.live 4 [ET e]]=H at hb hx ⊢
   cases h0:((lv:Int) == 0)
   rotate_left
   ·simp -implicitDefEqProofs only [BC,BA,BL,BI,A8,CP,CJ,C9,AY,BB,BJ,BP,CO,FK,AO,AQ,AL,BD,AX,AC,AA,EQ,A7,AU,BM,AZ,CQ,DN,↓reduceIte,Nat.reduceEqDiff,oGs,bNf]
    exact ⟨⟨_,rfl⟩,hx⟩
   have hlv:lv≠0:=by intro e; subst e; cases h0
   simp -implicitDefEqProofs only [BI,A8,AY,BB,BJ,BP,CO,EK,AO,AQ,AL,BD,AX,AC,AA,A7,AU,BH,BM,CQ,DK,BV,BR,BK,D6,AB,EZ,↓reduceIte,Nat.reduceEqDiff,Nat.zero_add,oGs,bNf,enP,ADP,OY,AWC hb,lLm]
   refine CW (fun hc => ?_) (fun hc => ?_)
   ·simp -implicitDefEqProofs only [BC,BA,BL,A8,CP,CJ,AY,BB,AO,AQ,AL,BD,AX,AC,AA,AU,BM,AZ,↓reduceIte,oGs,bNf]
    exact ⟨⟨_,rfl⟩,hx⟩
   simp -implicitDefEqProofs only [BC,BQ,BA,BO,A8,AY,BB,AO,AQ,AL,BD,AX,AC,AU,BH,AZ,oGs,bNf]
   refine DR (fun n F H' => ∃ k,n+k=e.args.length∧F 1 = .int .i64 (lv:Nat)∧F 2 = .ptr h.length 0 0∧F 5 = .int .i64 (k:Nat)∧H'=H) e.args.length ⟨0,by simp,by simp -implicitDefEqProofs only [AA,BF,BN,↓reduceIte,Nat.reduceEqDiff],by simp -implicitDefEqProofs only [AA,↓reduceIte,Nat.reduceEqDiff],by simp -implicitDefEqProofs only [AA,↓reduceIte]; rfl,rfl⟩ ?_
   rintro n F H' ⟨k,hk,f1,f2,f5,rfl⟩
   simp -implicitDefEqProofs only [BC,BA,BI,A8,AY,BB,AO,AQ,AL,BD,AX,AC,AA,A7,BG,BV,BR,BK,D6,AB,DF,↓reduceIte,Nat.reduceEqDiff,Nat.zero_add,oGs,bNf,enP,ADP,OY,f2,f5,AWC hb,lLm]
   refine CW (fun hc => ?_) (fun hc => ?_)
   ·have hk':k < e.args.length:=by simpa using hc
    have hlt:=AVO hk'
    have hwr:IntKind.i64.wrap ((lv:Int) - 1)=((lv - 1:Nat):Int):=by rw [wrap_i64 (by omega) (by omega)]; omega
    simp -implicitDefEqProofs only [BC,BQ,BA,BO,A8,AY,AO,AQ,AL,BD,AX,AC,AA,A7,AU,BX,BH,BG,BV,BR,BK,CG,BZ,BU,AB,JQ,lMc,lMn,lAn,↓reduceIte,Nat.reduceEqDiff,Nat.zero_add,oGs,bNf,enP,AJ9,OY,f1,f2,f5,AWC hb,D5 hk',FO AAY WB JU hk',hwr]
    refine (ih e.args[k] (lv - 1) H' (by omega) (by omega) (by omega)).use ?_
    intro b
    simp -implicitDefEqProofs only [BI,A8,AY,BB,AO,AQ,AL,BD,AX,AC,AA,A7,G6,AB,EX,↓reduceIte,oGs,bNf]
    cases b
    ·simp -implicitDefEqProofs only [BC,BA,BL,A8,CP,D8,FB,CJ,C9,AY,BB,AO,AQ,AL,BD,AX,AC,AA,AU,BM,AZ,↓reduceIte,oGs,bNf]
     exact ⟨⟨_,rfl⟩,hx⟩
    ·simp -implicitDefEqProofs only [BA,BO,A8,EF,ER,DU,AY,BB,AO,AQ,AL,BD,AX,AC,AA,A7,AU,BH,BG,AZ,BR,AB,DI,↓reduceIte,Nat.reduceEqDiff,oGs,bNt,bNf,enP,f5,wrap_succ (show k < 9223372036854775807 by omega)]
     exact ⟨n - 1,by omega,k+1,by omega,f1,f2,rfl,trivial⟩
   ·simp -implicitDefEqProofs only [BC,BA,BL,DL,A8,EC,EY,EW,CJ,AY,BB,AO,AQ,AL,BD,AX,AC,AA,AU,BM,AZ,↓reduceIte,oGs,bNf]
    exact ⟨⟨_,rfl⟩,hx⟩
theorem AVZ (G:Nat→AV) (e:Ex) (hw:wt e≤1048576) (h:Hp):PCall (En G) 94 [.agg (ET e)] h (.int .i64 ((pre e).length:Nat)):=by
 refine ACalls.pure0 rfl ?_
 refine CB (H:=Hint.none) (enM G) Tryz.func94 rfl (by kernel_rfl) (by kernel_rfl) (nLb (by kernel_rfl)) ?_
 show awp _ _ _ _ _ (EE _ [.tmp 2] _)
 simp -implicitDefEqProofs only [BC,BA,A8,AY,BB,AO,AQ,AL,BD,AX,AC,AA,A7,AU,BX,BH,AZ,FV,BV,BZ,BU,CE,AB,BF,lMc,lMn,lAn,↓reduceIte,Nat.reduceEqDiff,oGs,bNf,enP,bxE,ldE]
 refine (AHY G e hw _).mono ?_
 rintro v h' ⟨c,m,u1,u2,rfl,s,x,rfl⟩
 simp -implicitDefEqProofs only [BL,A8,CJ,AY,BB,AO,AQ,AL,BD,AX,AC,AA,A7,AZ,BV,BK,AB,↓reduceIte,Nat.add_zero,oGs,bNf,enP,AF8,GR,IL,s.l0]
 exact ⟨trivial,_,by rw [List.append_assoc]⟩
set_option maxHeartbeats 1000000 in
theorem AHU (G:Nat→AV) (l:List Pt) (s:SM) (h:Hp) (hl : ∀ p∈l,PtOk p) (hn:l.length≤1048576):SomeB (En G) 41 [.sl s 6 (l.map FX)] h:=by
 refine SomeB.of ?_
 refine CB (H:=Hint.none) (enM G) Tryz.func41 rfl (by kernel_rfl) (by kernel_rfl) (nLb (by kernel_rfl)) ?_
 show awp _ _ _ _ _ (EE _ [.tmp 2] _)
 simp -implicitDefEqProofs only [BC,BQ,BA,A8,AY,BB,AO,AQ,AL,BD,AX,AC,AU,BH,BM,AZ,oGs,bNf,enP]
 refine DR (fun n F H' => ∃ i,n+i=l.length∧F 0 = .sl s 6 (l.map FX)∧F 3 = .int .i64 (i:Nat)∧H'=h) l.length ⟨0,by simp,by simp -implicitDefEqProofs only [AA,BF,↓reduceIte,Nat.reduceEqDiff],by simp -implicitDefEqProofs only [AA,↓reduceIte]; rfl,rfl⟩ ?_
 rintro n F H ⟨i,hi,f0,f3,rfl⟩
 simp -implicitDefEqProofs only [BC,BA,AY,BJ,BP,CO,AO,AQ,AL,BD,AX,AC,AA,A7,BG,BR,D6,AB,DF,↓reduceIte,Nat.reduceEqDiff,oGs,bNf,enP,QI,f0,f3,lLm]
 refine G5 (fun hc => ?_) (fun hc => ?_)
 rotate_left
 ·simp -implicitDefEqProofs only [BC,BA,BL,DL,BI,A8,EC,EY,EW,CJ,DU,AY,BB,BJ,BP,CO,H7,AO,AQ,AL,BD,AX,AC,AA,EQ,A7,AU,BH,BM,BG,AZ,CQ,DK,BR,D6,AB,IE,↓reduceIte,Nat.reduceEqDiff,oGs,bNf,enP,QI,hc,f0,lLm]
  exact ⟨⟨_,rfl⟩,ext.rfl' _⟩
 have hi':i < l.length:=by simpa using hc
 have hp:=hl _ (List.getElem_mem hi')
 simp -implicitDefEqProofs only [BI,A8,AY,BB,BJ,BP,CO,FY,AO,AQ,AL,BD,AX,AC,AA,A7,AU,BH,BM,BG,CQ,DN,BR,AB,DF,↓reduceIte,Nat.reduceEqDiff,oGs,bNf,enP,hc,f3]
 refine CW (fun hc2 => ?_) (fun hc2 => ?_)
 rotate_left
 ·simp -implicitDefEqProofs only [BC,BA,BL,DL,A8,EC,EY,EW,CJ,AY,BB,AO,AQ,AL,BD,AX,AC,AA,A7,AU,BH,BG,AZ,BR,D6,AB,IE,↓reduceIte,Nat.reduceEqDiff,oGs,bNf,enP,QI,f0,lLm]
  exact ⟨⟨_,rfl⟩,ext.rfl' _⟩
 simp -implicitDefEqProofs only [BC,BQ,BA,BO,A8,AY,BJ,BP,CO,AO,AQ,AL,BD,AX,AC,AA,A7,AU,BH,BG,BV,BR,BK,CG,D6,AB,EZ,↓reduceIte,Nat.reduceEqDiff,Nat.zero_add,oGs,bNf,enP,PY,Q9,IW,f0,f3,D5 hi',DT P6 hi',MC,lLm]
 refine G5 (fun h1 => ?_) (fun h1 => ?_)
 ·simp -implicitDefEqProofs only [BC,BA,BL,BI,A8,CP,D8,FB,CJ,C9,AY,BB,BJ,BP,CO,FK,AO,AQ,AL,BD,AX,AC,AA,EQ,A7,AU,BM,BG,AZ,CQ,DN,↓reduceIte,Nat.reduceEqDiff,oGs,bNf,h1]
  exact ⟨⟨_,rfl⟩,ext.rfl' _⟩
 simp -implicitDefEqProofs only [BJ,BP,CO,EK,AO,AQ,AL,BD,AX,AC,AA,A7,AU,BX,BH,BG,BV,BK,CG,BZ,BU,AB,lMc,lMn,lAn,↓reduceIte,Nat.reduceEqDiff,Nat.zero_add,oGs,bNf,enP,PY,ZH,h1,f0,f3,D5 hi',AYC hi']
 refine (AJL G _ l[i].ex 12 H (Nat.le_refl _) hp.ex (by omega)).use ?_
 intro b
 cases b
 ·simp -implicitDefEqProofs only [BC,BA,BL,BI,A8,CP,D8,FB,CJ,C9,AY,BB,BJ,BP,CO,EK,FK,AO,AQ,AL,BD,AX,AC,AA,EQ,A7,AU,BM,BG,AZ,CQ,DN,DK,G6,AB,EX,↓reduceIte,Nat.reduceEqDiff,oGs,bNf]
  exact ⟨⟨_,rfl⟩,ext.rfl' _⟩
 simp -implicitDefEqProofs only [AY,BJ,BP,CO,EK,AO,AQ,AL,BD,AX,AC,AA,A7,AU,BX,BM,BG,CQ,DK,BV,G6,BK,CG,BZ,BU,AB,EX,lMc,lMn,lAn,↓reduceIte,Nat.reduceEqDiff,Nat.zero_add,oGs,bNt,bNf,enP,PY,ZH,f0,f3,D5 hi',AYC hi']
 refine (AVZ G l[i].ex hp.ex H).use ?_
 simp -implicitDefEqProofs only [BI,A8,AY,BB,BJ,BP,CO,EK,AO,AQ,AL,BD,AX,AC,AA,A7,AU,BH,BM,CQ,DK,BR,AB,EZ,↓reduceIte,Nat.reduceEqDiff,oGs,bNf,enP]
 refine CW (fun h2 => ?_) (fun h2 => ?_)
 ·simp -implicitDefEqProofs only [BC,BA,BL,A8,CP,D8,FB,CJ,AY,BB,AO,AQ,AL,BD,AX,AC,AA,AU,BM,AZ,↓reduceIte,oGs,bNf]
  exact ⟨⟨_,rfl⟩,ext.rfl' _⟩
 simp -implicitDefEqProofs only [BC,BQ,BA,BO,A8,AY,BB,AO,AQ,AL,BD,AX,AC,AU,BH,AZ,oGs,bNf]
 refine G9 2 (fun F' H'=>F' 0 = .sl s 6 (l.map FX)∧F' 3 = .int .i64 (i:Nat)∧H'=H) (fun F' H'=>F' 2 = .bool false∧H'=H) ?_ ?_ ?_
 ·refine DR (fun n F' H' => ∃ k,n+k=l[i].bins.length∧F' 0 = .sl s 6 (l.map FX)∧F' 3 = .int .i64 (i:Nat)∧F' 4 = .int .i64 (k:Nat)∧H'=H) l[i].bins.length ⟨0,by simp,by simp -implicitDefEqProofs only [AA,↓reduceIte,Nat.reduceEqDiff,f0],by simp -implicitDefEqProofs only [AA,↓reduceIte,Nat.reduceEqDiff,f3],by simp -implicitDefEqProofs only [AA,↓reduceIte]; rfl,rfl⟩ ?_
  rintro n' F' H' ⟨k,hk,g0,g3,g4,rfl⟩
  simp -implicitDefEqProofs only [BC,BA,BI,A8,AY,BB,AO,AQ,AL,BD,AX,AC,AA,A7,BG,BV,BR,BK,CG,D6,AB,DF,↓reduceIte,Nat.reduceEqDiff,Nat.zero_add,oGs,bNf,enP,PY,Q9,IW,g0,g3,g4,D5 hi',DT P6 hi',MC,lLm]
  refine CW (fun hc => ?_) (fun hc => ?_)
  ·have hk':k < l[i].bins.length:=by simpa using hc
   have hbl:=hp.num
   simp -implicitDefEqProofs only [BC,BQ,BA,BO,A8,AY,BJ,BP,CO,AO,AQ,AL,BD,AX,AC,AA,A7,AU,BH,BG,BV,BR,BK,CG,D6,AB,EZ,↓reduceIte,Nat.reduceEqDiff,Nat.zero_add,oGs,bNf,enP,PY,WQ,IW,QJ,O8,g0,g3,g4,D5 hi',DT P6 hi',MC,D5 hk',DT OI hk',YG,lLm]
   refine G5 (fun h3 => ?_) (fun h3 => ?_)
   ·simp -implicitDefEqProofs only [BC,BA,BL,BI,A8,CP,D8,MR,FB,C9,AY,BB,BJ,BP,CO,FK,AO,AQ,AL,BD,AX,AC,AA,EQ,A7,AU,BM,AZ,CQ,DN,↓reduceIte,Nat.reduceEqDiff,oGs,bNf,h3]
    exact ⟨trivial,trivial⟩
   simp -implicitDefEqProofs only [BI,A8,AY,BB,BJ,BP,CO,EK,AO,AQ,AL,BD,AX,AC,AA,A7,AU,BH,BM,BG,CQ,DK,BV,BR,BK,CG,D6,AB,EZ,↓reduceIte,Nat.reduceEqDiff,Nat.zero_add,oGs,bNf,enP,PY,WQ,IW,PT,MV,h3,g0,g3,g4,D5 hi',DT P6 hi',MC,D5 hk',DT SC hk',RZ,lLm]
   refine CW (fun h4 => ?_) (fun h4 => ?_)
   ·simp -implicitDefEqProofs only [BC,BA,BL,A8,CP,D8,MR,FB,AY,BB,AO,AQ,AL,BD,AX,AC,AA,AU,BM,AZ,↓reduceIte,oGs,bNf]
    exact ⟨trivial,trivial⟩
   ·simp -implicitDefEqProofs only [BA,BO,A8,EF,ER,AY,BB,AO,AQ,AL,BD,AX,AC,AA,A7,AU,BH,BG,AZ,BR,AB,DI,↓reduceIte,Nat.reduceEqDiff,oGs,bNf,enP,g4,wrap_succ (show k < 9223372036854775807 by omega)]
    exact ⟨n' - 1,by omega,k+1,by omega,g0,g3,rfl,trivial⟩
  ·simp -implicitDefEqProofs only [DL,EC,KG,EW,AA,↓reduceIte,Nat.reduceEqDiff]
   exact ⟨g0,g3,trivial⟩
 ·rintro F' H' ⟨g0,g3,rfl⟩
  simp -implicitDefEqProofs only [BA,A8,EF,EY,ER,AY,BB,AO,AQ,AL,BD,AX,AC,AA,A7,AU,BH,BG,AZ,BR,AB,DI,↓reduceIte,Nat.reduceEqDiff,oGs,bNf,enP,g3,wrap_succ (show i < 9223372036854775807 by omega)]
  exact ⟨n - 1,by omega,i+1,by omega,g0,rfl,trivial⟩
 ·rintro F' H' ⟨g2,rfl⟩
  simp -implicitDefEqProofs only [CP,D8,FB,CJ,g2]
  exact ⟨⟨_,rfl⟩,ext.rfl' _⟩
set_option maxHeartbeats 1000000 in
theorem small_some (G:Nat→AV) (m:Mo) (hm:MoOk m) (h:Hp):SomeB (En G) 46 [.agg (EN m)] h:=by
 have hm1:=hm.np
 have hm2:=hm.nc
 refine SomeB.of ?_
 refine CB (H:=Hint.none) (enM G) Tryz.func46 rfl (by kernel_rfl) (by kernel_rfl) (nLb (by kernel_rfl)) ?_
 show awp _ _ _ _ _ (EE _ [.tmp 2] _)
 have gm:=CY h (.live 2 [EN m])
 have hx:ext h (h ++ [.live 2 [EN m]]):=(ext.rfl' h).app _
 have m0:DZ Tryz.prog (h ++ [.live 2 [EN m]]) 22 (.ptr h.length 0 0)=some (.sl m.pm 6 (m.pts.map FX)):=by rw [DJ TS gm (row:=EN m) rfl,OO]
 have m1:DZ Tryz.prog (h ++ [.live 2 [EN m]]) 23 (.ptr h.length 0 1)=some (.sl m.cm 3 (m.crs.map F7)):=by rw [DJ AC9 gm (row:=EN m) rfl,UR]
 simp -implicitDefEqProofs only [BC,BA,A8,AY,BB,AO,AQ,AL,BD,AX,AC,AA,A7,AU,BM,AZ,FV,BV,BK,CE,AB,BF,↓reduceIte,Nat.reduceEqDiff,Nat.add_zero,oGs,bNf,enP,IX,bxM]
 generalize h ++ [.live 2 [EN m]]=H at gm hx m0 m1 ⊢
 simp -implicitDefEqProofs only [AY,AO,AQ,AL,BD,AX,AC,AA,A7,BX,BZ,BU,AB,lMc,lMn,lAn,↓reduceIte,oGs,bNf,m0]
 refine (AHU G m.pts m.pm H hm.pts hm1).use ?_
 intro b
 cases b
 ·simp -implicitDefEqProofs only [BC,BA,BL,BI,A8,CP,CJ,C9,AY,BB,BJ,BP,CO,FK,AO,AQ,AL,BD,AX,AC,AA,EQ,A7,AU,BM,BG,AZ,CQ,DN,G6,AB,EX,↓reduceIte,Nat.reduceEqDiff,oGs,bNf]
  exact ⟨⟨_,rfl⟩,hx⟩
 simp -implicitDefEqProofs only [BI,A8,AY,BB,BJ,BP,CO,EK,AO,AQ,AL,BD,AX,AC,AA,A7,AU,BH,BM,BG,CQ,DK,BV,BR,G6,BK,D6,AB,EZ,EX,↓reduceIte,Nat.reduceEqDiff,Nat.zero_add,oGs,bNt,bNf,enP,VQ,JZ,m1,lLm]
 refine CW (fun hc => ?_) (fun hc => ?_)
 ·simp -implicitDefEqProofs only [BC,BA,BL,A8,CP,CJ,AY,BB,AO,AQ,AL,BD,AX,AC,AA,AU,BM,AZ,↓reduceIte,oGs,bNf]
  exact ⟨⟨_,rfl⟩,hx⟩
 simp -implicitDefEqProofs only [BC,BQ,BA,BO,A8,AY,BB,AO,AQ,AL,BD,AX,AC,AU,BH,AZ,oGs,bNf]
 refine DR (fun n F H' => ∃ i,n+i=m.crs.length∧F 1 = .ptr h.length 0 0∧F 3 = .int .i64 (i:Nat)∧H'=H) m.crs.length ⟨0,by simp,by simp -implicitDefEqProofs only [AA,↓reduceIte,Nat.reduceEqDiff],by simp -implicitDefEqProofs only [AA,↓reduceIte]; rfl,rfl⟩ ?_
 rintro n F H' ⟨i,hi,f1,f3,rfl⟩
 simp -implicitDefEqProofs only [BC,BA,BI,A8,AY,BB,AO,AQ,AL,BD,AX,AC,AA,A7,BG,BV,BR,BK,D6,AB,DF,↓reduceIte,Nat.reduceEqDiff,Nat.zero_add,oGs,bNf,enP,VQ,JZ,f1,f3,m1,lLm]
 refine CW (fun hc => ?_) (fun hc => ?_)
 ·have hi':i < m.crs.length:=by simpa using hc
  simp -implicitDefEqProofs only [BC,BQ,BA,BO,A8,AY,BJ,BP,CO,AO,AQ,AL,BD,AX,AC,AA,A7,AU,BH,BG,BV,BR,BK,CG,D6,AB,EZ,↓reduceIte,Nat.reduceEqDiff,Nat.zero_add,oGs,bNf,enP,ZA,JZ,JB,J9,f1,f3,m1,D5 hi',DT LD hi',AEZ,lLm]
  refine G5 (fun h1 => ?_) (fun h1 => ?_)
  ·simp -implicitDefEqProofs only [BC,BA,BL,BI,A8,CP,D8,FB,CJ,C9,AY,BB,BJ,BP,CO,FK,AO,AQ,AL,BD,AX,AC,AA,EQ,A7,AU,BM,AZ,CQ,DN,↓reduceIte,Nat.reduceEqDiff,oGs,bNf,h1]
   exact ⟨⟨_,rfl⟩,hx⟩
  simp -implicitDefEqProofs only [BI,A8,AY,BB,BJ,BP,CO,EK,AO,AQ,AL,BD,AX,AC,AA,A7,AU,BH,BM,BG,CQ,DK,BV,BR,BK,CG,D6,AB,EZ,↓reduceIte,Nat.reduceEqDiff,Nat.zero_add,oGs,bNf,enP,ZA,JZ,TA,TB,h1,f1,f3,m1,D5 hi',DT NZ hi',AMN,lLm]
  refine CW (fun h2 => ?_) (fun h2 => ?_)
  ·simp -implicitDefEqProofs only [BC,BA,BL,A8,CP,D8,FB,CJ,AY,BB,AO,AQ,AL,BD,AX,AC,AA,AU,BM,AZ,↓reduceIte,oGs,bNf]
   exact ⟨⟨_,rfl⟩,hx⟩
  ·simp -implicitDefEqProofs only [BA,BO,A8,EF,ER,AY,BB,AO,AQ,AL,BD,AX,AC,AA,A7,AU,BH,BG,AZ,BR,AB,DI,↓reduceIte,Nat.reduceEqDiff,oGs,bNf,enP,f3,wrap_succ (show i < 9223372036854775807 by omega)]
   exact ⟨n - 1,by omega,i+1,by omega,f1,rfl,trivial⟩
 ·simp -implicitDefEqProofs only [BC,BA,BL,DL,A8,EC,EY,EW,CJ,AY,BB,AO,AQ,AL,BD,AX,AC,AA,AU,BM,AZ,↓reduceIte,oGs,bNf]
  exact ⟨⟨_,rfl⟩,hx⟩
structure Reads (H:Hp) (v:AV) (xs:List Bool):Prop where
 ln:LQ Tryz.prog 146 v=some (.int .i64 (xs.length:Nat))
 ix : ∀ k (hk:k < xs.length),∃ p,JR 1 H v (.int .i64 (k:Int))=some p∧DZ Tryz.prog H 4 p=some (.bool xs[k])
theorem Reads.sl (H:Hp) (s:SM) (xs:List Bool):Reads H (.sl s 1 (xs.map ACQ)) xs :=
 ⟨by rw [APX.1,lLm],fun k hk=>⟨_,D5 hk,by rw [DT ag4 hk]; rfl⟩⟩
theorem Reads.nil (H:Hp):Reads H (.sl .nil 0 []) []:=⟨by rw [APX.1]; rfl,fun k hk=>absurd hk (by simp)⟩
theorem AWB {H:Hp} {b k:Nat} {xs:List Bool} (hb:H[b]? = some (ABlk.live 1 (xs.map ACQ))) (hk:k < xs.length):DZ Tryz.prog H 4 (.ptr b k 0)=some (.bool xs[k]):=by
 rw [DJ ag4 hb (row:=ACQ xs[k]) (MB hk)]; rfl
theorem Reads.own {H:Hp} {b:Nat} {xs:List Bool} (hb:H[b]? = some (ABlk.live 1 (xs.map ACQ))):Reads H (.own b 0 xs.length) xs :=
 ⟨by rw [APX.2],fun k hk=>⟨.ptr b k 0,by rw [LM hb hk,Nat.zero_add],AWB hb hk⟩⟩
theorem mix_set {α:Type} {f:α→List AV} {os xs:List α} {k:Nat} (hl:os.length=xs.length) (hk:k < os.length):((os.take k ++ xs.drop k).map f).set k (f os[k])=(os.take (k+1) ++ xs.drop (k+1)).map f:=by
 rw [List.drop_eq_getElem_cons (show k < xs.length by omega),List.take_succ_eq_append_getElem hk]
 simp only [List.map_append,lMc,lMn,List.append_assoc,List.singleton_append]
 rw [List.set_append_right _ _ (by simp; omega)]
 simp [Nat.min_eq_left (Nat.le_of_lt hk)]
theorem mix_get {os xs:List Bool} {k:Nat} (hl:os.length=xs.length) (hk:k < xs.length):(os.take k ++ xs.drop k)[k]? = some xs[k]:=by
 rw [List.getElem?_append_right (by simp; omega)]
 simp only [List.length_take,Nat.min_eq_left (show k≤os.length by omega),Nat.sub_self]
 rw [List.getElem?_drop]
 simp [hk]
theorem mix_len {os xs:List Bool} {k:Nat} (hl:os.length=xs.length) (hk:k≤xs.length):(os.take k ++ xs.drop k).length=xs.length:=by simp; omega
def AQS (r:List Bool):List AV := [.sl .any 1 (r.map ACQ)]
theorem mkB (h:Hp) (n:Nat) (hn:n≤1048576):JM Tryz.prog true h 146 (.int .i64 (n:Int)) (.int .i64 (n:Int))=some (.own h.length 0 n,h ++ [ABlk.live 1 ((List.replicate n false).map ACQ)]):=by
 have hz:N7 Tryz.prog 4=some [.bool false]:=by kernel_rfl
 have hs:szO Tryz.prog 4=some 1:=by kernel_rfl
 have hb:NI Tryz.prog 4=some 1:=by kernel_rfl
 have hr:room n 1:=JO (by omega) (by omega)
 unfold JM
 simp only [AXF,hs,hb,hz,Int.toNat_natCast]
 rw [if_pos ⟨by omega,Int.le_refl _,hr,rfl⟩]
 simp [ACQ]
def opSt (h:Hp) (vs:List (List Bool)) (v:AV) (H:Hp):Prop:=(vs = []∧v = .sl .full 1 [])∨(vs≠[]∧outG 1 AQS h vs v H)
theorem opSt.app {h H:Hp} {vs:List (List Bool)} {v:AV} (hs:opSt h vs v H) (he:ext h H) (hl:vs.length≤1048576) (r:List Bool) :
  ∃ v' H',GU Tryz.prog true H 143 143 v (.sl .full 1 [AQS r])=some (v',H')∧opSt h (vs ++ [r]) v' H'∧ext h H'∧∀ b x,b < h.length→H[b]? = some x→H'[b]? = some x:=by
 have AOR:VN Tryz.prog 146=some 1:=by kernel_rfl
 have AQ5:NI Tryz.prog 146=some 24:=by kernel_rfl
 rcases hs with ⟨rfl,rfl⟩ | ⟨hne,ho⟩
 ·refine ⟨_,_,UY AUZ AU2 AOR AQ5 (KA H .full 1 [AQS r]) (by simp) (JO (by simp) (by omega)),.inr ⟨by simp,.inr ⟨by simp,H.length,he.le,by simp,by simp⟩⟩,he.app _,fun b x _ hb=>FU hb⟩
 ·obtain ⟨v',H',h1,h2,h3,h4,h5,h6,h7⟩:=ho.app2 AUZ AU2 AOR AQ5 (by omega) (by omega) he.le r
  refine ⟨v',H',h1,.inr ⟨by simp,h2⟩,h7 h (Nat.le_refl _) he,fun b x hb hx=>h3 b x hx fun hB => ?_⟩
  have:=ho.lt hB
  omega
theorem opSt.ext {h H:Hp} {vs:List (List Bool)} {v:AV} (hs:opSt h vs v H) (x:Hp):opSt h vs v (H ++ x):=by
 rcases hs with h1 | ⟨h1,h2⟩
 ·exact .inl h1
 ·exact .inr ⟨h1,h2.app x⟩
theorem ACalls.args {E:Env} {f:FuncId} {as1 as2:List AV} {h:Hp} {R:AV→Hp→Prop} (hc:ACalls E f as2 h R) (ha : ∀ g cargs,ZV g as1 cargs→ZV g as2 cargs):ACalls E f as1 h R :=
 ⟨hc.1,fun g w cargs S hr=>hc.2 g w cargs S (ha g cargs hr)⟩
structure ReadsN (H:Hp) (v:AV) (xs:List Nat):Prop where
 ln:LQ Tryz.prog 57 v=some (.int .i64 (xs.length:Nat))
 ix : ∀ k (hk:k < xs.length),∃ p,JR 1 H v (.int .i64 (k:Int))=some p∧DZ Tryz.prog H 3 p=some (.int .i64 (xs[k]:Nat))
theorem ReadsN.sl (H:Hp) (s:SM) (xs:List Nat):ReadsN H (.sl s 1 (xs.map IV)) xs :=
 ⟨by rw [JB.1,lLm],fun k hk=>⟨_,D5 hk,by rw [DT ag3 hk]; rfl⟩⟩
theorem ReadsN.nil (H:Hp) (k:Nat):ReadsN H (.sl .nil k []) []:=⟨by rw [JB.1]; rfl,fun k hk=>absurd hk (by simp)⟩
theorem ReadsN.own {H:Hp} {b:Nat} {xs:List Nat} (hb:H[b]? = some (ABlk.live 1 (xs.map IV))):ReadsN H (.own b 0 xs.length) xs :=
 ⟨by rw [JB.2],fun k hk=>⟨.ptr b k 0,by rw [LM hb hk,Nat.zero_add],by rw [DJ ag3 hb (row:=IV xs[k]) (MB hk)]; rfl⟩⟩
def RN (h:Hp) (v:AV) (xs:List Nat):Prop:=(∃ s,v = .sl s 1 (xs.map IV))∨(xs = []∧∃ k,v = .sl .nil k [])∨∃ b,v = .own b 0 xs.length∧h[b]? = some (ABlk.live 1 (xs.map IV))
theorem RN.up {h H:Hp} {v:AV} {xs:List Nat} (hr:RN h v xs) (he:ext h H):RN H v xs:=by
 rcases hr with h1 | h1 | ⟨b,h1,h2⟩
 ·exact .inl h1
 ·exact .inr (.inl h1)
 ·exact .inr (.inr ⟨b,h1,EU he h2⟩)
theorem RN.reads {h:Hp} {v:AV} {xs:List Nat} (hr:RN h v xs):ReadsN h v xs:=by
 rcases hr with ⟨s,rfl⟩ | ⟨rfl,k,rfl⟩ | ⟨b,rfl,h2⟩
 ·exact ReadsN.sl h s xs
 ·exact ReadsN.nil h k
 ·exact ReadsN.own h2
theorem RN.out {h H:Hp} {v:AV} {xs:List Nat} (ho:outG 1 IV h xs v H):RN H v xs:=by
 rcases ho with ⟨rfl,rfl⟩ | ⟨_,o,_,rfl,h3⟩
 ·exact .inr (.inl ⟨rfl,0,rfl⟩)
 ·exact .inr (.inr ⟨o,rfl,h3⟩)
def hasB (xs:List Int) (z:Int):Bool:=xs.any fun x=>x == z
theorem AKC (G:Nat→AV) (xs:List Int) (s:SM) (z:Int) (h:Hp) (hn:xs.length≤1048576) : ∃ k:Int,PCall (En G) 176 [.sl s 1 (xs.map encI),.int .i64 z] h (.int .i64 k)∧decide (k≥0)=hasB xs z:=by
 by_cases hb:hasB xs z=true
 ·obtain ⟨i,hi⟩ : ∃ i,xs.findIdx? (fun x=>x == z)=some i:=by
   cases he:xs.findIdx? (fun x=>x == z) with
   | some i=>exact ⟨i,rfl⟩
   | none =>
     rw [List.findIdx?_eq_none_iff] at he
     unfold hasB at hb
     rw [List.any_eq_true] at hb
     obtain ⟨x,hx,hz⟩:=hb
     rw [he x hx] at hz; cases hz
  refine ⟨(i:Int),?_,by rw [hb]; simp⟩
  obtain ⟨hil,hiz,hbef⟩:=List.findIdx?_eq_some_iff_getElem.1 hi
  refine CB (H:=Hint.none) (enM G) Tryz.func176 rfl (by kernel_rfl) (by kernel_rfl) (nLb (by kernel_rfl)) ?_
  show awp _ _ _ _ _ (EE _ [.tmp 4] _)
  simp -implicitDefEqProofs only [BC,BQ,BA,A8,AY,BB,AO,AQ,AL,BD,AX,AC,AA,A7,AU,BH,BG,AZ,D6,AB,BF,↓reduceIte,Nat.reduceEqDiff,oGs,bNf,enP,JB,lLm]
  refine DR (fun n F H => ∃ k,n+k=xs.length∧k≤i∧F 0 = .sl s 1 (xs.map encI)∧F 1 = .int .i64 z∧F 7 = .int .i64 (xs.length:Nat)∧F 8 = .int .i64 (k:Nat)∧H=h) xs.length ⟨0,by simp,by omega,by simp -implicitDefEqProofs only [AA,BF,↓reduceIte,Nat.reduceEqDiff],by simp -implicitDefEqProofs only [AA,BF,BN,↓reduceIte,Nat.reduceEqDiff],by simp -implicitDefEqProofs only [AA,↓reduceIte,Nat.reduceEqDiff],by simp -implicitDefEqProofs only [AA,↓reduceIte]; rfl,rfl⟩ ?_
  rintro n F H ⟨k,hk,hki,f0,f1,f7,f8,rfl⟩
  have hk':k < xs.length:=by omega
  have hd:decide (((k:Nat):Int) < ((xs.length:Nat):Int))=true:=by simp; omega
  simp -implicitDefEqProofs only [BC,BQ,BA,BO,BI,A8,C9,AY,BB,AO,AQ,AL,BD,AX,AC,AA,A7,BG,AZ,BV,BR,CG,AB,DY,DF,↓reduceIte,Nat.reduceEqDiff,oGs,bNf,enP,JH,f7,f8,hd,f0,f1,D5 hk',DT ag3 hk',Cov.encI0]
  rcases Nat.eq_or_lt_of_le hki with e | hlt
  ·subst e
   have hzz:(z == xs[k])=true:=by rw [BEq.comm]; exact hiz
   simp -implicitDefEqProofs only [BC,BA,BL,A8,CP,D8,FB,CJ,C9,AY,BB,AO,AQ,AL,BD,AX,AC,AA,A7,BG,AZ,↓reduceIte,Nat.reduceEqDiff,oGs,bNf,hzz,f8]
   exact ⟨trivial,trivial⟩
  ·have hzz:(z == xs[k])=false:=by
    have:=hbef k hlt
    rw [BEq.comm]; simpa using this
   simp -implicitDefEqProofs only [BA,BO,A8,EF,ER,DU,AY,BB,AO,AQ,AL,BD,AX,AC,AA,A7,AU,BH,BG,BR,AB,DI,↓reduceIte,Nat.reduceEqDiff,oGs,bNf,enP,hzz,f8,wrap_succ (show k < 9223372036854775807 by omega)]
   exact ⟨n - 1,by omega,k+1,by omega,by omega,by first | exact f0 | trivial,by first | exact f1 | trivial,by first | exact f7 | trivial,rfl,trivial⟩
 ·have hb':hasB xs z=false:=by simpa using hb
  refine ⟨-1,?_,by rw [hb']; decide⟩
  refine CB (H:=Hint.none) (enM G) Tryz.func176 rfl (by kernel_rfl) (by kernel_rfl) (nLb (by kernel_rfl)) ?_
  show awp _ _ _ _ _ (EE _ [.tmp 4] _)
  simp -implicitDefEqProofs only [BC,BQ,BA,A8,AY,BB,AO,AQ,AL,BD,AX,AC,AA,A7,AU,BH,BG,AZ,D6,AB,BF,↓reduceIte,Nat.reduceEqDiff,oGs,bNf,enP,JB,lLm]
  refine DR (fun n F H => ∃ k,n+k=xs.length∧F 0 = .sl s 1 (xs.map encI)∧F 1 = .int .i64 z∧F 7 = .int .i64 (xs.length:Nat)∧F 8 = .int .i64 (k:Nat)∧H=h) xs.length ⟨0,by simp,by simp -implicitDefEqProofs only [AA,BF,↓reduceIte,Nat.reduceEqDiff],by simp -implicitDefEqProofs only [AA,BF,BN,↓reduceIte,Nat.reduceEqDiff],by simp -implicitDefEqProofs only [AA,↓reduceIte,Nat.reduceEqDiff],by simp -implicitDefEqProofs only [AA,↓reduceIte]; rfl,rfl⟩ ?_
  rintro n F H ⟨k,hk,f0,f1,f7,f8,rfl⟩
  simp -implicitDefEqProofs only [BC,BA,BI,A8,AY,BB,AO,AQ,AL,BD,AX,AC,AA,A7,BR,AB,DF,↓reduceIte,oGs,bNf,enP,f7,f8]
  refine CW (fun hc => ?_) (fun hc => ?_)
  ·have hk':k < xs.length:=by simpa using hc
   have hzz:(z == xs[k])=false:=by
    rw [← Bool.not_eq_true]; intro e
    unfold hasB at hb'
    rw [List.any_eq_false] at hb'
    exact hb' xs[k] (List.getElem_mem hk') (by rw [BEq.comm]; exact e)
   simp -implicitDefEqProofs only [BC,BQ,BA,BO,BI,A8,EF,ER,DU,AY,BB,AO,AQ,AL,BD,AX,AC,AA,A7,AU,BH,BG,AZ,BV,BR,CG,AB,DI,DY,↓reduceIte,Nat.reduceEqDiff,oGs,bNf,enP,JH,f0,f1,f8,D5 hk',DT ag3 hk',Cov.encI0,hzz,wrap_succ (show k < 9223372036854775807 by omega)]
   exact ⟨n - 1,by omega,k+1,by omega,by first | exact f0 | trivial,by first | exact f1 | trivial,f7,rfl,trivial⟩
  ·simp -implicitDefEqProofs only [BC,BA,BL,DL,A8,EC,EY,EW,CJ,AY,BB,AO,AQ,AL,BD,AX,AC,AA,AU,BH,AZ,↓reduceIte,oGs,bNf]
   exact ⟨trivial,trivial⟩
theorem contains_rank (G:Nat→AV) (xs:List Int) (s:SM) (z:Int) (h:Hp) (hn:xs.length≤1048576):PCall (En G) 118 [.sl s 1 (xs.map encI),.int .i64 z] h (.bool (hasB xs z)):=by
 obtain ⟨k,hk,hd⟩:=AKC G xs s z h hn
 refine CB (H:=Hint.none) (enM G) Tryz.func118 rfl (by kernel_rfl) (by kernel_rfl) (nLb (by kernel_rfl)) ?_
 show awp _ _ _ _ _ (EE _ [.tmp 4] _)
 simp -implicitDefEqProofs only [BC,BA,A8,AY,BB,AO,AQ,AL,BD,AX,AC,AA,A7,AU,BX,BM,BG,AZ,BZ,BU,BF,BN,lMc,lMn,lAn,↓reduceIte,Nat.reduceEqDiff,oGs,bNf,enP]
 refine hk.use ?_
 simp -implicitDefEqProofs only [BL,A8,CJ,AY,BB,AO,AQ,AL,BD,AX,AC,AA,A7,AU,BH,AZ,BR,AB,GZ,↓reduceIte,oGs,bNf,enP,hd]
 exact ⟨trivial,trivial⟩
end Go.Proofs.YtocilianjfhifaaGreatDoor.Rk
