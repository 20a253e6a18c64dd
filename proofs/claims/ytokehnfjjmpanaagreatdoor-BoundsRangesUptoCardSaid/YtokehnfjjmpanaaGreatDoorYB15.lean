/- Part 15 of the proof (Ra, Rb, Rc, Rd, Xr, Na); no condition. -/
import Derived.Test.YtokehnfjjmpanaaGreatDoorYB14
set_option linter.unusedVariables false
set_option linter.unusedSimpArgs false
set_option maxRecDepth 8000
namespace Go.Proofs.YtokehnfjjmpanaaGreatDoor.Bd
open Sm Bins Cov Xe Wd Go.RowKit
open Bool renaming not_false→jC,not_true→jW,true_or→wB
open Int renaming reduceBEq→jS
open List renaming length_map→jR,map_nil→jD,append_nil→jE,map_cons→jF,drop_eq_getElem_cons→zO,drop_eq_nil_of_le→zS,getD_eq_getElem?_getD→zF,getElem?_eq_getElem→jU,getElem_mem→jT,mem_cons_of_mem→qU,getElem?_map→zA,getElem?_set_ne→zL,length_set→qH
open Nat renaming le_of_ble_eq_true→jJ,reduceEqDiff→jA,add_zero→jH,zero_add→jG,lt_or_ge→jV,reduceAdd→jL,le_refl→jQ,reduceBEq→jI
open Option renaming getD_some→jB,getD_none→jK
def tri (t f:Bool):Int:=if t=true then 1 else if f=true then 0 else 2
theorem gl0 (h:Hp) (a:Rng):DR Tryz.prog (h ++ [ABlk.live 2 [encR a]]) 3 (.ptr h.length 0 0)=some (.int .i64 a.lo):=FX (DF _ _)
theorem gl1 (h:Hp) (a:Rng):DR Tryz.prog (h ++ [ABlk.live 2 [encR a]]) 3 (.ptr h.length 0 1)=some (.int .i64 a.hi):=GI (DF _ _)
section
variable (G:Nat→AV)
theorem OY (h:Hp):PCall (En G) 51 [] h (.agg (encR GV)):=by
 refine JW 2 (fun n H=>rfl) ?_
 refine acN Tryz.func51 rfl ?_
 show awp _ _ _ _ _ (EN _ [.cell 0 34] _)
 have z:=Z0.mk' h
 simp -implicitDefEqProofs only [ER,EP,BB,A8,BK,A7,AZ,BA,AO,AQ,AL,BD,AY,AC,DU,AA,AX,AU,BH,EZ,FI,CU,CB,AB,BZ,↓reduceIte,jA,jB,jC,enP,jK,KG,AIZ,z.st]
 exact z.out (by simp -implicitDefEqProofs only [AA,↓reduceIte,jA]) rfl
theorem SL (a:Rng) (h:Hp):PCall (En G) 80 [.agg (encR a)] h (.bool (sgl a)):=by
 refine ACalls.pure0 rfl ?_
 refine acN Tryz.func80 rfl ?_
 show awp _ _ _ _ _ (EN _ [.tmp 2] _)
 simp -implicitDefEqProofs only [BB,A8,BK,A7,CV,AZ,BA,AO,AQ,AL,BD,AY,AC,AA,AX,AU,BM,BC,FQ,BO,BU,BG,CB,AB,CX,BF,↓reduceIte,jA,jH,jG,jB,jC,enP,FB,FN,bxR,gl0,gl1]
 exact ⟨rfl,_,rfl⟩
theorem KX (a:Rng) (h:Hp):PCall (En G) 41 [.agg (encR a)] h (.int .i64 (tri (isT a) (isF a))):=by
 refine ACalls.pure0 rfl ?_
 refine acN Tryz.func41 rfl ?_
 show awp _ _ _ _ _ (EN _ [.tmp 2] _)
 simp -implicitDefEqProofs only [BB,A8,BI,A7,AZ,BA,AO,AQ,AL,BD,AY,AC,AA,AX,AU,BH,BC,FQ,BO,BU,BG,CB,AB,FM,BF,↓reduceIte,jA,jH,jB,jC,enP,FB,bxR,gl0]
 refine CQ (fun hc => ?_) (fun hc => ?_)
 ·simp -implicitDefEqProofs only [BB,A8,BK,A7,CJ,CV,AZ,BA,AO,AQ,AL,BD,AY,AC,AA,AU,BH,BC,↓reduceIte,jB,jC]
  have:isT a=true:=hc
  exact ⟨by rw [this]; rfl,_,rfl⟩
 simp -implicitDefEqProofs only [BB,A8,BR,BI,A7,AZ,BA,AO,AQ,AL,BD,AY,AC,AA,AX,AU,BH,BO,BU,BG,AB,CX,↓reduceIte,jA,jG,jB,jC,enP,FN,gl1]
 have ht:isT a=false:=hc
 refine CQ (fun hd => ?_) (fun hd => ?_)
 ·simp -implicitDefEqProofs only [BB,A8,BK,A7,CJ,CV,AZ,BA,AO,AQ,AL,BD,AY,AC,AA,AU,BH,BC,↓reduceIte,jB,jC]
  have:isF a=true:=hd
  exact ⟨by rw [ht,this]; rfl,_,rfl⟩
 ·simp -implicitDefEqProofs only [BB,A8,BR,BK,A7,CV,AZ,BA,AO,AQ,AL,BD,AY,AC,AA,AU,BH,BC,↓reduceIte,jB,jC]
  have:isF a=false:=hd
  exact ⟨by rw [ht,this]; rfl,_,rfl⟩
theorem truth_ref (t f:Bool) (h:Hp):PCall (En G) 72 [.int .i64 (tri t f)] h (.agg (encR (knR t f))):=by
 refine JW 2 (fun n H=>rfl) ?_
 refine acN Tryz.func72 rfl ?_
 show awp _ _ _ _ _ (EN _ [.cell 2 34] _)
 have z:=Z0.mk' h
 cases t
 ·cases f
  ·have e:tri false false=2:=rfl
   rw [e]
   simp -implicitDefEqProofs only [ER,EP,BB,A8,BR,BK,BI,A7,DN,AZ,BA,BL,BX,CO,EY,AO,AQ,AL,BD,AY,AC,DU,AA,AX,AU,BH,BM,BJ,CP,DZ,EZ,FI,CU,BU,CB,AB,BZ,CX,BF,↓reduceIte,jA,jB,jC,enP,jK,KG,jS,AIZ,z.st]
   exact z.out (by simp -implicitDefEqProofs only [AA,↓reduceIte,jA]) rfl
  ·have e:tri false true=0:=rfl
   rw [e]
   simp -implicitDefEqProofs only [ER,EP,BB,A8,BK,BI,A7,CJ,DI,AZ,BA,BL,BX,CO,F7,AO,AQ,AL,BD,AY,AC,DU,AA,EQ,AX,AU,BH,BM,BJ,CP,DW,EZ,FI,CU,BU,CB,AB,BZ,CX,BF,↓reduceIte,jA,jB,jC,enP,jK,KG,jS,KR,z.st]
   exact z.out (by simp -implicitDefEqProofs only [AA,↓reduceIte,jA]) rfl
 ·have e:tri true f=1:=rfl
  rw [e]
  simp -implicitDefEqProofs only [ER,EP,BB,A8,BK,BI,A7,CJ,DI,AZ,BA,BL,BX,CO,EY,AO,AQ,AL,BD,AY,AC,DU,AA,AX,AU,BH,BM,BJ,CP,DZ,EZ,FI,CU,BU,CB,AB,BZ,CX,BF,↓reduceIte,jA,jB,jC,enP,jK,KG,jS,KR,z.st]
  exact z.out (by simp -implicitDefEqProofs only [AA,↓reduceIte,jA]) (by cases f <;> rfl)
theorem UL (t f:Bool) (h:Hp):PCall (En G) 73 [.int .i64 (tri t f)] h (.int .i64 (tri (!t && f) t)):=by
 refine acN Tryz.func73 rfl ?_
 show awp _ _ _ _ _ (EN _ [.tmp 2] _)
 have d2:decide ((2:Int) < 2)=false:=by decide
 have d1:decide ((1:Int) < 2)=true:=by decide
 have d0:decide ((0:Int) < 2)=true:=by decide
 have w1:IntKind.i64.wrap (1 - 1)=0:=by decide
 have w0:IntKind.i64.wrap (1 - 0)=1:=by decide
 cases t
 ·cases f
  ·have e:tri false false=2:=rfl
   rw [e]
   simp -implicitDefEqProofs only [BB,A8,BR,BK,BI,A7,CV,DN,AZ,BA,AO,AQ,AL,BD,AY,AC,AA,AX,AU,BH,BJ,BC,BU,AB,DV,BF,↓reduceIte,jA,jB,jC,enX,enP,d2]
   exact ⟨by trivial,trivial⟩
  ·have e:tri false true=0:=rfl
   rw [e]
   simp -implicitDefEqProofs only [BB,A8,BK,BI,A7,CJ,CV,DI,AZ,BA,AO,AQ,AL,BD,AY,AC,AA,AX,AU,BH,BJ,BC,BU,AB,II,DV,BF,↓reduceIte,jA,jB,jC,enX,enP,d0,w0]
   exact ⟨by trivial,trivial⟩
 ·have e:tri true f=1:=rfl
  rw [e]
  simp -implicitDefEqProofs only [BB,A8,BK,BI,A7,CJ,CV,DI,AZ,BA,AO,AQ,AL,BD,AY,AC,AA,AX,AU,BH,BJ,BC,BU,AB,II,DV,BF,↓reduceIte,jA,jB,jW,jC,enX,enP,d1,w1]
  exact ⟨by first | (cases f <;> rfl) | trivial,trivial⟩
theorem AKW (n:Nat) (hn:n < 65536) (h:Hp):PCall (En G) 82 [.int .i64 (n:Nat)] h (.int .i64 (blN n:Nat)):=by
 refine acN Tryz.func82 rfl ?_
 show awp _ _ _ _ _ (EN _ [.tmp 2] _)
 simp -implicitDefEqProofs only [BB,CE,A8,A7,AZ,BA,AO,AQ,AL,BD,AY,AC,AU,BH,BC,jB,jC,enX,enP]
 refine EG (fun m F H => ∃ k:Nat,m < 65536∧k≤16∧F 0 = .int .i64 (m:Nat)∧F 3 = .int .i64 (k:Nat)∧H=h∧blN n=k+blN m) n ⟨0,hn,by omega,by simp -implicitDefEqProofs only [AA,BF,↓reduceIte,jA],by simp -implicitDefEqProofs only [AA,↓reduceIte]; rfl,rfl,by omega⟩ ?_
 rintro m F H ⟨k,hm,hk,f0,f3,rfl,he⟩
 have h16:=AEU (n:=n) (by omega)
 simp -implicitDefEqProofs only [BB,A8,BI,A7,AZ,BA,AO,AQ,AL,BD,AY,AC,AA,AX,AU,BH,BJ,BU,AB,FM,↓reduceIte,jB,jC,enP,f0]
 refine CQ (fun hc => ?_) (fun hc => ?_)
 ·have hc:0 < m:=by simp at hc; omega
  have hb:=WO hc
  have hq:IE Tryz.prog 3 .quo (.int .i64 (m:Nat)) (.int .i64 2)=some (.int .i64 ((m / 2:Nat):Int)):=AL4 m 2 (by omega) (by omega)
  simp -implicitDefEqProofs only [BB,CE,A8,BR,A7,EO,FO,AZ,BA,AO,AQ,AL,BD,AY,AC,AA,AX,AU,BH,BJ,BC,BU,AB,D6,↓reduceIte,jA,jB,jC,enP,f0,hq,f3,wrap_succ (show k < 9223372036854775807 by omega)]
  exact ⟨m / 2,by omega,k+1,by omega,by omega,by trivial,by trivial,trivial,by omega⟩
 ·have hc:m=0:=by simp at hc; omega
  subst hc
  rw [V8,jH] at he
  simp -implicitDefEqProofs only [BB,A8,BK,EF,A7,FC,F6,F8,CV,AZ,BA,AO,AQ,AL,BD,AY,AC,AA,AX,BJ,BC,↓reduceIte,jA,jB,jC,f3]
  exact ⟨by rw [he],trivial⟩
theorem AQL (n:Int) (h0:0≤n) (h1:n≤65535) (h:Hp):PCall (En G) 123 [.int .i64 n] h (.int .i64 (VS n)):=by
 refine acN Tryz.func123 rfl ?_
 show awp _ _ _ _ _ (EN _ [.tmp 2] _)
 simp -implicitDefEqProofs only [BB,CE,A8,A7,AZ,BA,AO,AQ,AL,BD,AY,AC,AU,BH,BC,jB,jC,enX,enP]
 have hb:=AEU (n:=n.toNat) (by omega)
 refine EG (fun m F H => ∃ k:Nat,m+k=blN n.toNat∧F 0 = .int .i64 n∧F 3 = .int .i64 (((2 ^ k:Nat):Int) - 1)∧H=h) (blN n.toNat) ⟨0,by simp,by simp -implicitDefEqProofs only [AA,BF,↓reduceIte,jA],by simp -implicitDefEqProofs only [AA,↓reduceIte]; rfl,rfl⟩ ?_
 rintro m F H ⟨k,hk,f0,f3,rfl⟩
 have hp:=Nat.pow_le_pow_right (by decide:0 < 2) (show k≤16 by omega)
 have hp0:0 < 2 ^ k:=Nat.pow_pos (by decide)
 simp -implicitDefEqProofs only [BB,A8,BI,A7,AZ,BA,AO,AQ,AL,BD,AY,AC,AA,AX,BJ,BU,AB,DV,↓reduceIte,jA,jB,jC,enP,f0,f3]
 refine CQ (fun hc => ?_) (fun hc => ?_)
 ·have hc:((2 ^ k:Nat):Int) - 1 < n:=by simpa using hc
  have hm:0 < m:=by
   rcases Nat.eq_zero_or_pos m with q | q
   ·have:=(UX k n.toNat).2 (by omega); omega
   ·exact q
  have e:(2:Int) * (((2 ^ k:Nat):Int) - 1)+1=((2 ^ (k+1):Nat):Int) - 1:=by rw [Nat.pow_succ]; omega
  have hp2:=Nat.pow_le_pow_right (by decide:0 < 2) (show k+1≤17 by omega)
  have hp3:0 < 2 ^ (k+1):=Nat.pow_pos (by decide)
  have hw2:IntKind.i64.wrap (((2 ^ (k+1):Nat):Int) - 1)=((2 ^ (k+1):Nat):Int) - 1:=wrap_i64 (by omega) (by omega)
  simp -implicitDefEqProofs only [CE,A8,BR,A7,EO,FO,AZ,BA,AO,AQ,AL,BD,AY,AC,AA,AX,AU,BH,BJ,BC,BU,AB,D6,UZ,↓reduceIte,jA,jB,jC,enP,f3,wrap_i64 (n:=2 * (((2 ^ k:Nat):Int) - 1)) (by omega) (by omega),wrap_i64 (n:=2 * (((2 ^ k:Nat):Int) - 1)+1) (by omega) (by omega),e,hw2]
  exact ⟨m - 1,by omega,k+1,by omega,by trivial,by trivial,trivial⟩
 ·have hc : ¬ ((2 ^ k:Nat):Int) - 1 < n:=by simpa using hc
  have hm:m=0:=by
   have:=(UX k n.toNat).1 (by omega); omega
  subst hm
  have hk:k=blN n.toNat:=by omega
  simp -implicitDefEqProofs only [BB,A8,BK,EF,A7,FC,F6,F8,CV,AZ,BA,AO,AQ,AL,BD,AY,AC,AA,AX,BJ,BC,↓reduceIte,jA,jB,jC,f3]
  exact ⟨by unfold VS; rw [hk],trivial⟩
theorem ZO (p:Pr) (hs:PrS p) (n:ByteArray) (h:Hp):PCall (En G) 68 [.agg (DY p),.str n] h (.int .i64 (plc p.vars n)):=by
 refine ACalls.pure0 rfl ?_
 refine acN Tryz.func68 rfl ?_
 show awp _ _ _ _ _ (EN _ [.tmp 4] _)
 have ge:=DF h (ABlk.live 5 [DY p])
 have hx:ext h (h ++ [ABlk.live 5 [DY p]]):=(ext.rfl' h).app _
 simp -implicitDefEqProofs only [BB,CE,A8,A7,AZ,BA,AO,AQ,AL,BD,AY,AC,AX,AU,BH,BC,FQ,CB,BF,jB,jC,enP,QP]
 generalize h ++ [ABlk.live 5 [DY p]]=H at ge hx ⊢
 generalize h.length=eb at ge ⊢
 have l0:DR Tryz.prog H 22 (.ptr eb 0 0)=some (.sl p.vm 4 (p.vars.map GH)):=by rw [DJ VI ge (row:=DY p) rfl]; rfl
 refine EG (fun m F H' => ∃ k,m+k=p.vars.length∧(∀ (j:Nat) (hj:j < k) (hl:j < p.vars.length),JB n p.vars[j]=false)∧F 1 = .str n∧F 2 = .ptr eb 0 0∧F 5 = .int .i64 (k:Nat)∧H'=H) p.vars.length ⟨0,by simp,by intro j hj; omega,by simp -implicitDefEqProofs only [AA,BF,BQ,↓reduceIte,jA],by simp -implicitDefEqProofs only [AA,↓reduceIte,jA],by simp -implicitDefEqProofs only [AA,↓reduceIte]; rfl,rfl⟩ ?_
 rintro m F H' ⟨k,hk,hb,f1,f2,f5,rfl⟩
 simp -implicitDefEqProofs only [BB,A8,BI,A7,AZ,BA,AO,AQ,AL,BD,AY,AC,AA,AX,BJ,BO,BU,BG,FP,AB,DV,↓reduceIte,jA,jH,jB,jC,enP,RH,LU,f2,f5,l0,jR]
 refine CQ (fun hc => ?_) (fun hc => ?_)
 ·have hk':k < p.vars.length:=by simpa using hc
  have ln:DR Tryz.prog H' 9 (.fptr 4 (p.vars.map GH) k 0)=some (.str p.vars[k].name):=by rw [IC ag9 hk']; rfl
  simp -implicitDefEqProofs only [BB,CE,A8,BR,BI,A7,AZ,BA,AO,AQ,AL,BD,AY,AC,AA,AX,BJ,BO,BU,BG,CG,AB,KY,↓reduceIte,jA,jH,jB,jC,enP,VE,LU,PI,f1,f2,f5,l0,EX hk',ln]
  refine CQ (fun hd => ?_) (fun hd => ?_)
  ·have hd:JB n p.vars[k]=true:=hd
   simp -implicitDefEqProofs only [BB,A8,BK,A7,CJ,D8,F9,CV,AZ,BA,AO,AQ,AL,BD,AY,AC,AA,AX,BJ,BC,↓reduceIte,jA,jB,jC,f5]
   exact ⟨by unfold plc; rw [QA (JB n) p.vars k hk' (fun j hj=>hb j hj (by omega)) hd],hx⟩
  ·have hd:JB n p.vars[k]=false:=hd
   simp -implicitDefEqProofs only [A8,BR,A7,EO,FO,AZ,BA,AO,AQ,AL,BD,AY,AC,AA,AX,AU,BH,BJ,BC,BU,AB,D6,↓reduceIte,jA,jB,jC,enP,f5,wrap_succ (show k < 9223372036854775807 by have:=hs.vars; omega)]
   refine ⟨m - 1,by omega,k+1,by omega,fun j hj hl => ?_,by trivial,by trivial,by trivial,trivial⟩
   rcases jV j k with h1 | h1
   ·exact hb j h1 hl
   ·obtain rfl:j=k:=by omega
    exact hd
 ·have hk' : ¬ k < p.vars.length:=by simpa using hc
  simp -implicitDefEqProofs only [BB,A8,BK,EF,A7,FC,F6,F8,CV,AZ,BA,AO,AQ,AL,BD,AY,AC,AA,AU,BH,BC,↓reduceIte,jB,jC]
  exact ⟨by unfold plc; rw [O9 (JB n) p.vars fun j hj=>hb j (by omega) hj],hx⟩
end
section
variable (G:Nat→AV)
set_option maxHeartbeats 2000000 in
theorem WR (op:Int) (hop:op=7∨op=8∨op=9) (a b:Rng) (ha:wfR a) (hb:wfR b) (h:Hp):PCall (En G) 74 [.int .i64 op,.agg (encR a),.agg (encR b)] h (.agg (encR (J4 op a b))):=by
 obtain ⟨a0,a1,a2⟩:=ha
 obtain ⟨b0,b1,b2⟩:=hb
 refine JW 2 (fun n H=>rfl) ?_
 refine acN Tryz.func74 rfl ?_
 show awp _ _ _ _ _ (EN _ [.cell 6 34] _)
 have z:=Z2.mk' h a b
 simp -implicitDefEqProofs only [BB,A8,A7,AZ,BA,AO,AQ,AL,BD,AY,AC,AA,AX,EZ,FQ,CB,BF,BQ,↓reduceIte,jA,jB,jC,enP,bxR,KG]
 generalize h ++ [ABlk.live 2 [encR a]] ++ [ABlk.live 2 [encR b]] ++ [ABlk.live 2 [zR]]=H at z ⊢
 generalize (h ++ [ABlk.live 2 [encR a]] ++ [ABlk.live 2 [encR b]]).length=bz at z ⊢
 generalize (h ++ [ABlk.live 2 [encR a]]).length=bb at z ⊢
 generalize h.length=ba at z ⊢
 have w1:IntKind.i64.wrap (a.lo+b.lo)=a.lo+b.lo:=wrap_i64 (by omega) (by omega)
 have w2:IntKind.i64.wrap (a.hi+b.hi)=a.hi+b.hi:=wrap_i64 (by omega) (by omega)
 refine EK (by kernel_rfl) ?_
 simp -implicitDefEqProofs only [ET,DK,CY,D7,DL,G5,EC,HY,C9,BB,A8,BI,A7,AZ,BA,AO,AQ,AL,BD,AY,AC,AA,AX,AU,BH,BJ,BO,BU,BG,AB,D6,CX,BF,↓reduceIte,jA,jL,jH,jG,jB,jC,enP,FB,FN,FX z.ga,GI z.ga,FX z.gb,GI z.gb,w1,w2]
 rcases hop with rfl | rfl | rfl
 ·have e:J4 7 a b=UH a b:=by unfold J4; rw [if_pos rfl]
  rw [e]
  have d0:decide (a.lo+b.lo≥0)=true:=decide_eq_true (by omega)
  simp -implicitDefEqProofs only [BB,A8,BR,BI,A7,DN,AZ,BA,BL,BX,CO,GL,AO,AQ,AL,BD,AY,AC,AA,AX,AU,BH,BM,BJ,CP,DW,BU,AB,CX,IR,FV,BF,↓reduceIte,jA,jB,jC,enP,jS,d0]
  refine CQ (fun hc => ?_) (fun hc => ?_)
  ·have hc:a.hi+b.hi≤65535:=by simpa using hc
   simp -implicitDefEqProofs only [ER,EP,BB,A8,BK,A7,CJ,AZ,BA,AO,AQ,AL,BD,AY,AC,DU,AA,AX,BJ,FI,CU,AB,BZ,↓reduceIte,jA,jB,jC,enP,jK,KR,z.st]
   exact z.out (by simp -implicitDefEqProofs only [AA,↓reduceIte,jA]) (by unfold UH QN; rw [if_neg (by omega),if_neg (by omega)])
  have hc : ¬ a.hi+b.hi≤65535:=by simpa using hc
  simp -implicitDefEqProofs only [BB,A8,BR,BI,A7,AZ,BA,BL,BX,CO,GL,AO,AQ,AL,BD,AY,AC,AA,AX,AU,BH,BM,BJ,CP,DW,BU,AB,CX,FM,BF,↓reduceIte,jA,jB,jC,enP,jS]
  refine CQ (fun hd => ?_) (fun hd => ?_)
  ·have hd:a.lo+b.lo > 65535:=by simpa using hd
   simp -implicitDefEqProofs only [ER,EP,BB,A8,BK,A7,CJ,AZ,BA,AO,AQ,AL,BD,AY,AC,DU,AA,AX,AU,BH,BJ,FI,CU,BU,AB,BZ,II,↓reduceIte,jA,jB,jC,enP,jK,wrap_i64 (n:=a.lo+b.lo - 65535) (by omega) (by omega),wrap_i64 (n:=a.lo+b.lo - 65535 - 1) (by omega) (by omega),wrap_i64 (n:=a.hi+b.hi - 65535) (by omega) (by omega),wrap_i64 (n:=a.hi+b.hi - 65535 - 1) (by omega) (by omega),KR,z.st]
   exact z.out (by simp -implicitDefEqProofs only [AA,↓reduceIte,jA]) (by unfold UH; rw [if_pos hd]; congr 1 <;> omega)
  ·have hd : ¬ a.lo+b.lo > 65535:=by simpa using hd
   simp -implicitDefEqProofs only [BB,A8,BR,BI,A7,DN,AZ,BA,BL,BX,CO,IP,AO,AQ,AL,BD,AY,AC,AA,EQ,AX,AU,BN,BH,BM,BJ,CP,DZ,BU,BV,BP,AB,CX,BF,jD,jE,↓reduceIte,jA,jB,jC,enP,jS]
   refine (OY G _).use ?_
   simp -implicitDefEqProofs only [BK,A7,AZ,BA,AO,AQ,AL,BD,AY,AC,DU,AA,AX,CU,BZ,↓reduceIte,jA,jC,enP,jK,z.st]
   exact z.out (by simp -implicitDefEqProofs only [AA,↓reduceIte,jA]) (by unfold UH QN; rw [if_neg hd,if_pos (by omega)])
 ·have e:J4 8 a b=UU a b:=by unfold J4; rw [if_neg (by decide),if_pos rfl]
  rw [e]
  simp -implicitDefEqProofs only [DI,jS]
  refine EK (by kernel_rfl) ?_
  simp -implicitDefEqProofs only [ET,DK,CY,D7,DL,G5,EC,HY,C9,BB,A8,BR,BI,A7,DN,AZ,BA,BL,BX,CO,AO,AQ,AL,BD,AY,AC,AA,AX,AU,BH,BJ,BO,BU,BG,AB,II,CX,FV,BF,↓reduceIte,jA,jL,jH,jG,jB,jC,enP,FB,FN,jS,FX z.ga,GI z.ga,FX z.gb,GI z.gb,wrap_i64 (n:=a.lo - b.hi) (by omega) (by omega),wrap_i64 (n:=a.hi - b.lo) (by omega) (by omega)]
  refine IA (fun hc => ?_) (fun hc => ?_)
  ·have hc':0≤a.lo - b.hi:=by simpa using hc
   have d1:decide (a.hi - b.lo≤65535)=true:=decide_eq_true (by omega)
   simp -implicitDefEqProofs only [ER,EP,BB,A8,BK,BI,A7,CJ,DI,AZ,BA,BL,BX,CO,GL,AO,AQ,AL,BD,AY,AC,DU,AA,AX,AU,BH,BM,BJ,CP,DW,FI,CU,BU,AB,BZ,IR,↓reduceIte,jA,jB,jC,enP,jK,hc,d1,KR,z.st]
   exact z.out (by simp -implicitDefEqProofs only [AA,↓reduceIte,jA]) (by unfold UU; rw [if_pos hc'])
  have hc' : ¬ 0≤a.lo - b.hi:=by simpa using hc
  simp -implicitDefEqProofs only [BB,A8,BR,BI,A7,DN,AZ,BA,BL,BX,CO,GL,IP,AO,AQ,AL,BD,AY,AC,AA,EQ,AX,AU,BH,BM,BJ,CP,DW,DZ,BU,AB,CX,DV,BF,↓reduceIte,jA,jB,jC,enP,hc,jS]
  refine CQ (fun hd => ?_) (fun hd => ?_)
  ·have hd:a.hi - b.lo < 0:=by simpa using hd
   simp -implicitDefEqProofs only [ER,EP,BB,A8,BK,A7,CJ,AZ,BA,AO,AQ,AL,BD,AY,AC,DU,AA,AX,AU,BH,BJ,FI,CU,BU,AB,BZ,D6,↓reduceIte,jA,jB,jC,enP,jK,wrap_i64 (n:=a.lo - b.hi+65535) (by omega) (by omega),wrap_i64 (n:=a.lo - b.hi+65535+1) (by omega) (by omega),wrap_i64 (n:=a.hi - b.lo+65535) (by omega) (by omega),wrap_i64 (n:=a.hi - b.lo+65535+1) (by omega) (by omega),KR,z.st]
   exact z.out (by simp -implicitDefEqProofs only [AA,↓reduceIte,jA]) (by unfold UU; rw [if_neg hc',if_pos hd]; congr 1 <;> omega)
  ·have hd : ¬ a.hi - b.lo < 0:=by simpa using hd
   simp -implicitDefEqProofs only [BB,A8,BR,A7,AZ,AO,AQ,AL,BD,AY,BN,BV,BP,jD,jE,jB,jC]
   refine (OY G _).use ?_
   simp -implicitDefEqProofs only [BK,A7,AZ,BA,AO,AQ,AL,BD,AY,AC,DU,AA,AX,CU,BZ,↓reduceIte,jA,jC,enP,jK,z.st]
   exact z.out (by simp -implicitDefEqProofs only [AA,↓reduceIte,jA]) (by unfold UU; rw [if_neg hc',if_neg hd])
 ·have e:J4 9 a b=AJ3 a b:=by unfold J4; rw [if_neg (by decide),if_neg (by decide),if_pos rfl]
  rw [e]
  have m1:0≤a.lo * b.lo:=Int.mul_nonneg a0 b0
  have m2:a.lo * b.lo≤65535 * 65535:=Int.mul_le_mul (by omega) (by omega) b0 (by decide)
  have m3:0≤a.hi * b.hi:=Int.mul_nonneg (by omega) (by omega)
  have m4:a.hi * b.hi≤65535 * 65535:=Int.mul_le_mul a2 b2 (by omega) (by decide)
  have d0:decide (a.lo * b.lo≥0)=true:=decide_eq_true m1
  simp -implicitDefEqProofs only [BB,A8,BR,BI,A7,DI,DN,AZ,BA,AO,AQ,AL,BD,AY,AC,AA,AX,AU,BH,BJ,BU,AB,CX,BF,↓reduceIte,jA,jB,jC,enP,jS]
  refine EK (by kernel_rfl) ?_
  simp -implicitDefEqProofs only [ET,DK,CY,D7,DL,G5,EC,HY,C9,BB,A8,BI,A7,AZ,BA,BL,BX,CO,GL,AO,AQ,AL,BD,AY,AC,AA,AX,AU,BH,BM,BJ,CP,DW,BO,BU,BG,AB,UZ,IR,FV,↓reduceIte,jA,jL,jH,jG,jB,jC,enP,FB,FN,jS,FX z.ga,GI z.ga,FX z.gb,GI z.gb,wrap_i64 (n:=a.lo * b.lo) (by omega) (by omega),wrap_i64 (n:=a.hi * b.hi) (by omega) (by omega),d0]
  refine CQ (fun hc => ?_) (fun hc => ?_)
  ·have hc:a.hi * b.hi≤65535:=by simpa using hc
   simp -implicitDefEqProofs only [ER,EP,BB,A8,BK,A7,CJ,AZ,BA,AO,AQ,AL,BD,AY,AC,DU,AA,AX,BJ,FI,CU,AB,BZ,↓reduceIte,jA,jB,jC,enP,jK,KR,z.st]
   exact z.out (by simp -implicitDefEqProofs only [AA,↓reduceIte,jA]) (by unfold AJ3 QN; rw [if_neg (by omega)])
  ·have hc : ¬ a.hi * b.hi≤65535:=by simpa using hc
   simp -implicitDefEqProofs only [BB,A8,BR,BI,A7,DN,AZ,BA,BL,BX,CO,IP,AO,AQ,AL,BD,AY,AC,AA,EQ,AX,AU,BN,BH,BM,BJ,CP,DZ,BU,BV,BP,AB,CX,BF,jD,jE,↓reduceIte,jA,jB,jC,enP,jS]
   refine (OY G _).use ?_
   simp -implicitDefEqProofs only [BK,A7,AZ,BA,AO,AQ,AL,BD,AY,AC,DU,AA,AX,CU,BZ,↓reduceIte,jA,jC,enP,jK,z.st]
   exact z.out (by simp -implicitDefEqProofs only [AA,↓reduceIte,jA]) (by unfold AJ3 QN; rw [if_pos (by omega)])
set_option maxHeartbeats 2000000 in
theorem bit_ref (op:Int) (hop:op=10∨op=11∨op=12) (a b:Rng) (ha:wfR a) (hb:wfR b) (h:Hp):PCall (En G) 75 [.int .i64 op,.agg (encR a),.agg (encR b)] h (.agg (encR (QQ op a b))):=by
 obtain ⟨a0,a1,a2⟩:=ha
 obtain ⟨b0,b1,b2⟩:=hb
 refine JW 2 (fun n H=>rfl) ?_
 refine acN Tryz.func75 rfl ?_
 show awp _ _ _ _ _ (EN _ [.cell 6 34] _)
 have z:=Z2.mk' h a b
 simp -implicitDefEqProofs only [BB,A8,A7,AZ,BA,AO,AQ,AL,BD,AY,AC,AA,AX,EZ,FQ,BO,CB,BF,BQ,↓reduceIte,jA,jB,jC,enP,bxR,KG]
 generalize h ++ [ABlk.live 2 [encR a]] ++ [ABlk.live 2 [encR b]] ++ [ABlk.live 2 [zR]]=H at z ⊢
 generalize (h ++ [ABlk.live 2 [encR a]] ++ [ABlk.live 2 [encR b]]).length=bz at z ⊢
 generalize (h ++ [ABlk.live 2 [encR a]]).length=bb at z ⊢
 generalize h.length=ba at z ⊢
 have hand:=AWM (a:=a.lo) (b:=b.lo) a0 (by omega) b0 (by omega)
 have hor:=AZV (a:=a.lo) (b:=b.lo) a0 (by omega) b0 (by omega)
 have hxor:=AV2 (a:=a.lo) (b:=b.lo) a0 (by omega) b0 (by omega)
 simp -implicitDefEqProofs only [AZ,AO,AQ,AL,BD,AY,AC,AA,AX,BN,BV,BP,AB,jF,jD,jE,↓reduceIte,jB,jC,IW z.ga]
 refine (SL G a _).use ?_
 simp -implicitDefEqProofs only [AZ,BL,BX,CO,AO,AQ,AL,BD,AY,AC,AA,AX,BJ,↓reduceIte,jB,jC]
 have two:(sgl a && sgl b)=false→EN Tryz.prog [.cell 6 34] (fun v H=>v = .agg (encR (QQ op a b))∧Sm.ext h H) .ret (fun _ => .junk) H→True:=fun _ _=>trivial
 clear two
 have hmask:=AQL G (max a.hi b.hi) (by omega) (by omega) H
 refine NZ (fun F' H'=>F' 0 = .int .i64 op∧F' 4 = .ptr ba 0 0∧F' 5 = .ptr bb 0 0∧F' 6 = .ptr bz 0 0∧F' 14 = .bool (sgl a && sgl b)∧H'=H) ?_ ?_
 ·refine IA (fun hs => ?_) (fun hs => ?_)
  ·simp -implicitDefEqProofs only [BL,BX,CO,GL,AO,AQ,AL,BD,AY,AC,AA,AX,BN,BO,BV,BP,AB,jF,jD,jE,↓reduceIte,jA,jB,jC,enP,hs,IW z.gb]
   refine (SL G b _).use ?_
   simp -implicitDefEqProofs only [AZ,BA,AO,AQ,AL,BD,AY,AC,AA,AX,AU,BM,CP,DW,BF,↓reduceIte,jA,jB,jC,hs]
   exact ⟨by trivial,by trivial,by trivial,by trivial,by trivial,trivial⟩
  ·simp -implicitDefEqProofs only [AZ,BA,BL,BX,CO,IP,AO,AQ,AL,BD,AY,AC,AA,EQ,AX,AU,BM,CP,DZ,BF,↓reduceIte,jA,jB,jC,hs]
   exact ⟨by trivial,by trivial,by trivial,by trivial,by trivial,trivial⟩
 rintro F H' ⟨f0,f4,f5,f6,f14,rfl⟩
 simp -implicitDefEqProofs only [BI,A7,AX,f14]
 refine CQ (fun hs => ?_) (fun hs => ?_)
 ·simp -implicitDefEqProofs only [BB,A8,BI,A7,AZ,BA,AO,AQ,AL,BD,AY,AC,AA,AX,AU,BH,BJ,BC,BO,BU,BG,AB,CX,↓reduceIte,jA,jH,jB,jC,enP,FB,f0,f4,f5,FX z.ga,FX z.gb,hand]
  rcases hop with rfl | rfl | rfl
  ·simp -implicitDefEqProofs only [ER,EP,BB,A8,BR,BK,BI,A7,CJ,DN,AZ,BA,AO,AQ,AL,BD,AY,AC,DU,AA,AX,AU,BH,BJ,FI,CU,BU,AB,BZ,CX,↓reduceIte,jA,jB,jC,enP,jK,f0,jS,KR,f6,z.st]
   exact z.out (by simp -implicitDefEqProofs only [AA,↓reduceIte,jA,f6]) (by unfold QQ; rw [if_pos rfl,if_pos hs])
  ·simp -implicitDefEqProofs only [ER,EP,BB,A8,BR,BK,BI,A7,CJ,DI,DN,AZ,BA,AO,AQ,AL,BD,AY,AC,DU,AA,AX,AU,BH,BJ,BC,FI,BO,CU,BU,BG,AB,BZ,CX,↓reduceIte,jA,jH,jB,jC,enP,FB,jK,f0,f4,f5,jS,FX z.ga,FX z.gb,hor,KR,f6,z.st]
   exact z.out (by simp -implicitDefEqProofs only [AA,↓reduceIte,jA,f6]) (by unfold QQ; rw [if_neg (by decide),if_pos rfl,if_pos hs])
  ·simp -implicitDefEqProofs only [ER,EP,BB,A8,BR,BK,BI,A7,CJ,DI,DN,AZ,BA,AO,AQ,AL,BD,AY,AC,DU,AA,AX,AU,BH,BJ,BC,FI,BO,CU,BU,BG,AB,BZ,CX,↓reduceIte,jA,jH,jB,jC,enP,FB,jK,f0,f4,f5,jS,FX z.ga,FX z.gb,hxor,KR,f6,z.st]
   exact z.out (by simp -implicitDefEqProofs only [AA,↓reduceIte,jA,f6]) (by unfold QQ; rw [if_neg (by decide),if_neg (by decide),if_pos hs])
 ·have hs' : ¬ (sgl a && sgl b)=true:=by rw [hs]; decide
  simp -implicitDefEqProofs only [BB,A8,BR,BI,A7,AZ,BA,AO,AQ,AL,BD,AY,AC,AA,AX,AU,BH,BJ,BU,AB,CX,↓reduceIte,jB,jC,enP,f0]
  rcases hop with rfl | rfl | rfl
  ·simp -implicitDefEqProofs only [ER,EP,BB,A8,BK,A7,CJ,DI,AZ,BA,AO,AQ,AL,BD,AY,AC,DU,AA,AX,FI,BO,CU,BG,TK,AB,BZ,O6,↓reduceIte,jA,jG,jB,jC,enP,FN,jK,f4,f5,jS,GI z.ga,GI z.gb,AIZ,f6,z.st]
   exact z.out (by simp -implicitDefEqProofs only [AA,↓reduceIte,jA,f6]) (by unfold QQ; rw [if_pos rfl,if_neg hs'])
  ·simp -implicitDefEqProofs only [BB,A8,BR,A7,DN,AZ,AO,AQ,AL,BD,AY,AC,AA,AX,BN,BO,BG,Q8,BV,BP,AB,NU,jF,jD,jE,↓reduceIte,jA,jG,jB,jC,enP,FN,f4,f5,jS,GI z.ga,GI z.gb]
   refine hmask.use ?_
   simp -implicitDefEqProofs only [ER,EP,BB,A8,BR,BK,BI,A7,DN,AZ,BA,AO,AQ,AL,BD,AY,AC,DU,AA,AX,AU,BH,BJ,BC,FI,BO,CU,BU,BG,Q8,AB,BZ,CX,NU,↓reduceIte,jA,jH,jB,jC,enP,FB,jK,f0,f4,f5,jS,FX z.ga,FX z.gb,KR,f6,z.st]
   exact z.out (by simp -implicitDefEqProofs only [AA,↓reduceIte,jA,f6]) (by unfold QQ; rw [if_neg (by decide),if_pos rfl,if_neg hs'])
  ·simp -implicitDefEqProofs only [BB,A8,BR,A7,DN,AZ,AO,AQ,AL,BD,AY,AC,AA,AX,BN,BO,BG,Q8,BV,BP,AB,NU,jF,jD,jE,↓reduceIte,jA,jG,jB,jC,enP,FN,f4,f5,jS,GI z.ga,GI z.gb]
   refine hmask.use ?_
   simp -implicitDefEqProofs only [ER,EP,BB,A8,BK,BI,A7,CJ,DI,AZ,BA,AO,AQ,AL,BD,AY,AC,DU,AA,AX,AU,BH,BJ,BC,FI,CU,BU,AB,BZ,CX,↓reduceIte,jA,jB,jC,enP,jK,f0,jS,AIZ,f6,z.st]
   exact z.out (by simp -implicitDefEqProofs only [AA,↓reduceIte,jA,f6]) (by unfold QQ; rw [if_neg (by decide),if_neg (by decide),if_neg hs'])
theorem AV7 {a n:Int} (a0:0≤a) (a1:a≤65535) (n0:0≤n) (h:Hp):PCall (En G) 124 [.int .i64 a,.int .i64 n] h (.int .i64 (VN a n)):=by
 have:=APU G a.toNat n (by omega) h
 rw [Int.toNat_of_nonneg a0] at this
 have e:((AA1 a.toNat n:Nat):Int)=VN a n:=by
  unfold AA1 VN
  by_cases q:n≥16
  ·rw [if_pos (.inr q),if_pos q]; rfl
  ·rw [if_neg (by omega),if_neg q]
   rw [Int.natCast_ediv,Int.toNat_of_nonneg a0]
   congr 1
 rw [e] at this
 exact this
set_option maxHeartbeats 2000000 in
theorem AD8 (op:Int) (hop:op=13∨op=14) (a b:Rng) (ha:wfR a) (hb:wfR b) (h:Hp):PCall (En G) 76 [.int .i64 op,.agg (encR a),.agg (encR b)] h (.agg (encR (J4 op a b))):=by
 obtain ⟨a0,a1,a2⟩:=ha
 obtain ⟨b0,b1,b2⟩:=hb
 refine JW 2 (fun n H=>rfl) ?_
 refine acN Tryz.func76 rfl ?_
 show awp _ _ _ _ _ (EN _ [.cell 6 34] _)
 have z:=Z2.mk' h a b
 simp -implicitDefEqProofs only [BB,A8,BI,A7,AZ,BA,AO,AQ,AL,BD,AY,AC,AA,AX,AU,BH,BJ,EZ,FQ,BU,CB,AB,CX,BF,BQ,↓reduceIte,jA,jB,jC,enP,bxR,KG]
 generalize h ++ [ABlk.live 2 [encR a]] ++ [ABlk.live 2 [encR b]] ++ [ABlk.live 2 [zR]]=H at z ⊢
 generalize (h ++ [ABlk.live 2 [encR a]] ++ [ABlk.live 2 [encR b]]).length=bz at z ⊢
 generalize (h ++ [ABlk.live 2 [encR a]]).length=bb at z ⊢
 generalize h.length=ba at z ⊢
 rcases hop with rfl | rfl
 ·have e:J4 13 a b=QH a b:=by unfold J4; rw [if_neg (by decide),if_neg (by decide),if_neg (by decide),if_neg (by decide),if_pos rfl]
  rw [e]
  simp -implicitDefEqProofs only [BB,A8,BR,A7,DN,AZ,BL,BX,CO,AO,AQ,AL,BD,AY,AC,AA,AX,AU,BH,BJ,BO,BU,BG,AB,CX,↓reduceIte,jA,jG,jB,jC,enP,FN,jS,GI z.ga]
  have zero : ∀ q:(isF a || decide (b.lo≥16))=true,QH a b=⟨0,0⟩:=fun q=>by unfold QH; rw [if_pos q]
  refine IA (fun hs => ?_) (fun hs => ?_)
  ·simp -implicitDefEqProofs only [ER,BB,A8,BK,BI,A7,CJ,DI,AZ,BA,BL,BX,CO,F7,AO,AQ,AL,BD,AY,AC,DU,AA,EQ,AX,AU,BM,CP,DW,FI,CU,AB,BZ,↓reduceIte,jA,jB,jC,enP,jK,hs,ASI,z.st]
   exact z.out (by simp -implicitDefEqProofs only [AA,↓reduceIte,jA]) (zero (by have:isF a=true:=hs; rw [this]; rfl)).symm
  have hs':isF a=false:=hs
  simp -implicitDefEqProofs only [BI,A7,AZ,BA,BL,BX,CO,EY,AO,AQ,AL,BD,AY,AC,AA,AX,AU,BH,BM,CP,DZ,BO,BU,BG,AB,FM,↓reduceIte,jA,jH,jB,jC,enP,FB,hs,FX z.gb]
  refine CQ (fun ht => ?_) (fun ht => ?_)
  ·have ht:b.lo > 15:=by simpa using ht
   simp -implicitDefEqProofs only [ER,BB,A8,BK,A7,CJ,AZ,BA,AO,AQ,AL,BD,AY,AC,DU,AA,AX,FI,CU,AB,BZ,↓reduceIte,jA,jB,jC,enP,jK,ASI,z.st]
   exact z.out (by simp -implicitDefEqProofs only [AA,↓reduceIte,jA]) (zero (by rw [decide_eq_true (show b.lo≥16 by omega)]; simp)).symm
  have ht : ¬ b.lo > 15:=by simpa using ht
  have nz : ¬ (isF a || decide (b.lo≥16))=true:=by rw [hs',decide_eq_false (by omega)]; decide
  have s1:=AL2 (a:=a.lo) (b:=b.lo) a0 (by omega) b0 (by omega)
  have s2:=AL2 (a:=a.hi) (b:=b.lo) (by omega) a2 b0 (by omega)
  have hle:a.lo * 2 ^ b.lo.toNat≤a.hi * 2 ^ b.lo.toNat:=Int.mul_le_mul_of_nonneg_right a1 (by have:=VO b.lo.toNat; omega)
  simp -implicitDefEqProofs only [BB,A8,BR,A7,AZ,AO,AQ,AL,BD,AY,AC,AA,AX,BN,BO,BV,BP,AB,jF,jD,jE,↓reduceIte,jA,jB,jC,enP,IW z.gb]
  refine (SL G b _).use ?_
  simp -implicitDefEqProofs only [AZ,BL,BX,CO,AO,AQ,AL,BD,AY,AC,AA,AX,BJ,↓reduceIte,jB,jC]
  refine IA (fun hu => ?_) (fun hu => ?_)
  ·simp -implicitDefEqProofs only [BI,A7,AZ,BA,BL,BX,CO,GL,AO,AQ,AL,BD,AY,AC,AA,AX,AU,BH,BM,CP,DW,BO,BU,BG,AB,IR,↓reduceIte,jA,jH,jG,jB,jC,enP,FB,FN,hu,GI z.ga,FX z.gb,s2]
   refine CQ (fun hv => ?_) (fun hv => ?_)
   ·have hv:a.hi * 2 ^ b.lo.toNat≤65535:=by simpa using hv
    simp -implicitDefEqProofs only [BB]
    refine EK (by kernel_rfl) ?_
    simp -implicitDefEqProofs only [ET,ER,EP,DK,CY,FK,D7,DL,KT,EC,FH,HY,C9,BK,A7,CJ,AO,AA,AX,FI,BO,CU,BU,BG,AB,BZ,↓reduceIte,jA,jL,jH,jG,jB,enP,FB,FN,jK,FX z.ga,GI z.ga,FX z.gb,s1,s2,KR,z.st]
    exact z.out (by simp -implicitDefEqProofs only [AA,↓reduceIte,jA]) (by unfold QH QN; rw [if_neg nz,if_pos hu,if_neg (by omega)])
   ·have hv : ¬ a.hi * 2 ^ b.lo.toNat≤65535:=by simpa using hv
    simp -implicitDefEqProofs only [BB,A8,BR,A7,AZ,AO,AQ,AL,BD,AY,BN,BV,BP,jD,jE,jB,jC]
    refine (OY G _).use ?_
    simp -implicitDefEqProofs only [BK,A7,AZ,BA,AO,AQ,AL,BD,AY,AC,DU,AA,AX,CU,BZ,↓reduceIte,jA,jC,enP,jK,z.st]
    exact z.out (by simp -implicitDefEqProofs only [AA,↓reduceIte,jA]) (by unfold QH QN; rw [if_neg nz,if_pos hu,if_pos (by omega)])
  ·simp -implicitDefEqProofs only [BB,A8,BR,BI,A7,DN,AZ,BA,BL,BX,CO,IP,AO,AQ,AL,BD,AY,AC,AA,EQ,AX,AU,BN,BM,CP,DZ,BV,BP,jD,jE,↓reduceIte,jA,jB,jC,hu]
   refine (OY G _).use ?_
   simp -implicitDefEqProofs only [BK,A7,AZ,BA,AO,AQ,AL,BD,AY,AC,DU,AA,AX,CU,BZ,↓reduceIte,jA,jC,enP,jK,z.st]
   exact z.out (by simp -implicitDefEqProofs only [AA,↓reduceIte,jA]) (by unfold QH; rw [if_neg nz,hu]; rfl)
 ·have e:J4 14 a b=⟨VN a.lo b.hi,VN a.hi b.lo⟩:=by unfold J4; rw [if_neg (by decide),if_neg (by decide),if_neg (by decide),if_neg (by decide),if_neg (by decide),if_pos rfl]
  rw [e]
  simp -implicitDefEqProofs only [BB,DI,jS]
  refine EK (by kernel_rfl) ?_
  simp -implicitDefEqProofs only [ET,ER,EP,DK,CY,DL,KT,EC,C9,EI,EE,AO,AA,AX,BN,FI,BO,BG,AB,jF,jD,jE,↓reduceIte,jA,jL,jH,jG,jB,enP,FB,FN,FX z.ga,GI z.ga,FX z.gb,GI z.gb]
  refine ⟨_,AV7 G a0 (by omega) (by omega) _,?_⟩
  try simp -implicitDefEqProofs only [FX z.ga,GI z.ga,FX z.gb,GI z.gb]
  refine ⟨_,AV7 G (by omega) a2 b0 _,?_⟩
  simp -implicitDefEqProofs only [ET,DK,CY,FK,D7,DL,FH,BK,A7,CJ,AO,AA,AX,CU,AB,BZ,↓reduceIte,jA,jG,enP,jK,KR,z.st]
  exact z.out (by simp -implicitDefEqProofs only [AA,↓reduceIte,jA]) rfl
end
def AK1 (op:Int) (a b:Rng):Bool:=if op=15 then PZ a b else if op=16 then dfB a b else if op=17 then decide (a.hi < b.lo) else decide (a.hi≤b.lo)
def AK2 (op:Int) (a b:Rng):Bool:=if op=15 then dfB a b else if op=16 then PZ a b else if op=17 then decide (a.lo≥b.hi) else decide (a.lo > b.hi)
def AXU (op:Int) (x y:Bool × Bool):Bool:=if op=19 then x.1 && y.1 else if op=20 then x.1 || y.1 else x.2 || y.1
def AXV (op:Int) (x y:Bool × Bool):Bool:=if op=19 then x.2 || y.2 else if op=20 then x.2 && y.2 else x.1 && y.2
theorem AGE {op:Int} (hop:op=15∨op=16∨op=17∨op=18) (a b:Rng):J4 op a b=knR (AK1 op a b) (AK2 op a b):=by
 rcases hop with rfl | rfl | rfl | rfl <;> simp [J4,AK1,AK2]
theorem AKB {op:Int} (hop:op=19∨op=20∨op=21) (a b:Rng):J4 op a b=knR (AXU op (isT a,isF a) (isT b,isF b)) (AXV op (isT a,isF a) (isT b,isF b)):=by
 rcases hop with rfl | rfl | rfl <;> simp [J4,AXU,AXV]
theorem ADU {a:Rng} (ha:wfR a):isT a=true→isF a=false:=by
 obtain ⟨a0,a1,a2⟩:=ha
 unfold isT isF
 intro h
 have h:a.lo > 0:=by simpa using h
 simp; omega
def AA8 (a:Rng):Bool→List Rng→Bool × Bool
 | imp,lo :: hi :: r=>if TS a lo hi=true then (true,false) else AA8 a (if VV a lo hi=true then false else imp) r
 | imp,_=>(false,imp)
theorem AQ0 (a:Rng) : ∀ (imp:Bool) (l:List Rng),QK a imp l=knR (AA8 a imp l).1 (AA8 a imp l).2
 | imp,[]=>rfl
 | imp,[_]=>rfl
 | imp,lo :: hi :: r=>by
   unfold QK AA8
   by_cases h:TS a lo hi=true
   ·rw [if_pos h,if_pos h]; rfl
   ·rw [if_neg h,if_neg h]; exact AQ0 a _ r
theorem AOC (a:Rng) (imp:Bool) (l:List Rng) (k:Nat) (hk:k+1 < l.length):AA8 a imp (l.drop k)=if TS a l[k] l[k+1]=true then (true,false) else AA8 a (if VV a l[k] l[k+1]=true then false else imp) (l.drop (k+2)):=by
 rw [zO (by omega:k < l.length),zO hk]; rfl
theorem AQ4 (a:Rng) (imp:Bool) (l:List Rng) (k:Nat) (hk:l.length≤k+1):AA8 a imp (l.drop k)=(false,imp):=by
 rcases jV k l.length with h | h
 ·rw [zO h,zS hk]; rfl
 ·rw [zS h]; rfl
section
variable (G:Nat→AV)
theorem Y2 (op:Int) (hop:op=15∨op=17) (a b:Rng) (ha:wfR a) (hb:wfR b) (h:Hp):PCall (En G) 77 [.int .i64 op,.agg (encR a),.agg (encR b)] h (.int .i64 (tri (AK1 op a b) (AK2 op a b))):=by
 obtain ⟨a0,a1,a2⟩:=ha
 obtain ⟨b0,b1,b2⟩:=hb
 refine JW 2 (fun n H=>rfl) ?_
 refine acN Tryz.func77 rfl ?_
 show awp _ _ _ _ _ (EN _ [.tmp 6] _)
 have ga:=DC (x:=ABlk.live 2 [encR b]) (DF h (ABlk.live 2 [encR a]))
 have gb:=DF (h ++ [ABlk.live 2 [encR a]]) (ABlk.live 2 [encR b])
 have hx:Sm.ext h (h ++ [ABlk.live 2 [encR a]] ++ [ABlk.live 2 [encR b]]):=((ext.rfl' h).app _).app _
 simp -implicitDefEqProofs only [BB,CE,A8,BI,A7,AZ,BA,AO,AQ,AL,BD,AY,AC,AA,AX,AU,BH,BJ,BC,FQ,BU,CB,AB,CX,BF,BQ,↓reduceIte,jA,jB,jC,enP,bxR]
 generalize h ++ [ABlk.live 2 [encR a]] ++ [ABlk.live 2 [encR b]]=H at ga gb hx ⊢
 generalize (h ++ [ABlk.live 2 [encR a]]).length=bb at gb ⊢
 generalize h.length=ba at ga ⊢
 rcases hop with rfl | rfl
 ·simp -implicitDefEqProofs only [BB,A8,DI,AZ,AO,AQ,AL,BD,AY,AC,AA,AX,BN,BO,BV,BP,AB,jF,jD,jE,↓reduceIte,jA,jB,jC,enP,jS,IW ga]
  refine (SL G a _).use ?_
  simp -implicitDefEqProofs only [AZ,BL,BX,CO,AO,AQ,AL,BD,AY,AC,AA,AX,BJ,↓reduceIte,jB,jC]
  refine NZ (fun F' H'=>F' 4 = .ptr ba 0 0∧F' 5 = .ptr bb 0 0∧F' 24 = .bool (PZ a b)∧H'=H) ?_ ?_
  ·unfold PZ
   refine IA (fun hs => ?_) (fun hs => ?_)
   ·simp -implicitDefEqProofs only [BL,BX,CO,GL,AO,AQ,AL,BD,AY,AC,AA,AX,BN,BO,BV,BP,AB,jF,jD,jE,↓reduceIte,jA,jB,jC,enP,hs,IW gb]
    refine (SL G b _).use ?_
    simp -implicitDefEqProofs only [AZ,BL,BX,CO,AO,AQ,AL,BD,AY,AC,AA,AX,AU,BM,BJ,CP,DW,↓reduceIte,jA,jB,jC]
    refine IA (fun ht => ?_) (fun ht => ?_)
    ·have e:(a == b)=(a.lo == b.lo):=by
      have hs':a.lo=a.hi:=by unfold sgl at hs; simpa using hs
      have ht':b.lo=b.hi:=by unfold sgl at ht; simpa using ht
      rw [Bool.eq_iff_iff]
      constructor
      ·intro q; have:=eq_of_beq q; rw [this]; simp
      ·intro q
       have q:a.lo=b.lo:=by simpa using q
       have:a=b:=by cases a; cases b; simp at *; omega
       rw [this]; simp
     simp -implicitDefEqProofs only [AZ,BA,BL,BX,CO,GL,AO,AQ,AL,BD,AY,AC,AA,AX,AU,BM,CP,DW,BO,BU,AB,↓reduceIte,jA,jB,jC,enP,hs,ht,IW ga,IW gb,AMQ,e]
     exact ⟨by trivial,by trivial,by trivial,trivial⟩
    ·simp -implicitDefEqProofs only [AZ,BA,BL,BX,CO,IP,AO,AQ,AL,BD,AY,AC,AA,EQ,AX,AU,BM,CP,DZ,↓reduceIte,jA,jB,jC,hs,ht]
     exact ⟨by trivial,by trivial,by trivial,trivial⟩
   ·simp -implicitDefEqProofs only [AZ,BA,BL,BX,CO,IP,AO,AQ,AL,BD,AY,AC,AA,EQ,AX,AU,BM,BJ,CP,DZ,↓reduceIte,jA,jB,jC,hs]
    exact ⟨by trivial,by trivial,by trivial,trivial⟩
  rintro F H' ⟨f4,f5,f24,rfl⟩
  have hT:AK1 15 a b=PZ a b:=rfl
  have hF:AK2 15 a b=dfB a b:=rfl
  rw [hT,hF]
  simp -implicitDefEqProofs only [BI,A7,AX,f24]
  refine CQ (fun hs => ?_) (fun hs => ?_)
  ·simp -implicitDefEqProofs only [BB,A8,BK,A7,CJ,D8,CV,AZ,BA,AO,AQ,AL,BD,AY,AC,AA,AU,BH,BC,↓reduceIte,jB,jC,hs]
   exact ⟨by rfl,hx⟩
  simp -implicitDefEqProofs only [BB,A8,BR,A7,AZ,BL,BX,CO,AO,AQ,AL,BD,AY,AC,AA,AX,BJ,BO,BU,BG,AB,DV,↓reduceIte,jA,jH,jG,jB,jC,enP,FB,FN,f4,f5,GI ga,FX gb]
  unfold dfB
  rw [hs]
  refine IA (fun hA => ?_) (fun hA => ?_)
  ·simp -implicitDefEqProofs only [wB,BB,A8,BK,BI,A7,CJ,D8,CV,DI,AZ,BA,BL,BX,CO,F7,AO,AQ,AL,BD,AY,AC,AA,EQ,AX,AU,BH,BM,BC,CP,DW,↓reduceIte,jA,jB,jC,hA]
   exact ⟨by rfl,hx⟩
  ·simp -implicitDefEqProofs only [Bool.false_or,BI,A7,AZ,BA,BL,BX,CO,EY,AO,AQ,AL,BD,AY,AC,AA,AX,AU,BM,CP,DZ,BO,BU,BG,AB,DV,↓reduceIte,jA,jH,jG,jB,jC,enP,FB,FN,hA,f4,f5,GI gb,FX ga]
   refine CQ (fun hB => ?_) (fun hB => ?_)
   ·simp -implicitDefEqProofs only [BB,A8,BK,A7,CJ,D8,CV,AZ,BA,AO,AQ,AL,BD,AY,AC,AA,AU,BH,BC,↓reduceIte,jB,jC,hB]
    exact ⟨by rfl,hx⟩
   ·simp -implicitDefEqProofs only [BB,A8,BR,BK,A7,EO,CV,AZ,BA,AO,AQ,AL,BD,AY,AC,AA,AU,BH,BC,↓reduceIte,jB,jC,hB]
    exact ⟨by rfl,hx⟩
 ·simp -implicitDefEqProofs only [BB,A8,BI,A7,DI,DN,AZ,BA,AO,AQ,AL,BD,AY,AC,AA,AX,AU,BH,BC,BO,BU,BG,AB,CX,DV,↓reduceIte,jA,jH,jG,jB,jC,enP,FB,FN,jS,GI ga,FX gb]
  refine CQ (fun hc => ?_) (fun hc => ?_)
  ·have hc:a.hi < b.lo:=by simpa using hc
   simp -implicitDefEqProofs only [BB,A8,BK,A7,CJ,D8,CV,AZ,BA,AO,AQ,AL,BD,AY,AC,AA,AU,BH,BC,↓reduceIte,jB,jC]
   exact ⟨by rw [show AK1 17 a b=true from decide_eq_true hc]; rfl,hx⟩
  ·have hc : ¬ a.hi < b.lo:=by simpa using hc
   have ht:AK1 17 a b=false:=decide_eq_false hc
   simp -implicitDefEqProofs only [BB,A8,BR,BI,A7,AZ,BA,AO,AQ,AL,BD,AY,AC,AA,AX,BO,BU,BG,AB,FV,↓reduceIte,jA,jH,jG,jB,jC,enP,FB,FN,FX ga,GI gb]
   refine CQ (fun hd => ?_) (fun hd => ?_)
   ·have hd:AK2 17 a b=true:=hd
    simp -implicitDefEqProofs only [BB,A8,BK,A7,CJ,D8,CV,AZ,BA,AO,AQ,AL,BD,AY,AC,AA,AU,BH,BC,↓reduceIte,jB,jC]
    exact ⟨by rw [ht,hd]; rfl,hx⟩
   ·have hd:AK2 17 a b=false:=hd
    simp -implicitDefEqProofs only [BB,A8,BR,BK,A7,EO,CV,AZ,BA,AO,AQ,AL,BD,AY,AC,AA,AU,BH,BC,↓reduceIte,jB,jC]
    exact ⟨by rw [ht,hd]; rfl,hx⟩
theorem AEE (t f t' f':Bool) (h:Hp):PCall (En G) 78 [.int .i64 20,.int .i64 (tri t f),.int .i64 (tri t' f')] h (.int .i64 (tri (t || t') (f && f'))):=by
 refine acN Tryz.func78 rfl ?_
 show awp _ _ _ _ _ (EN _ [.tmp 6] _)
 have e1 : ∀ x y:Bool,((tri x y) == 1)=x:=by decide
 have e0 : ∀ y:Bool,((tri false y) == 0)=y:=by decide
 simp -implicitDefEqProofs only [BB,A8,BR,BI,A7,DN,AZ,BA,BL,BX,CO,AO,AQ,AL,BD,AY,AC,AA,AX,AU,BH,BJ,BC,BU,AB,CX,BF,BQ,↓reduceIte,jA,jB,jC,enX,enP,jS,e1]
 cases t
 ·cases t'
  ·simp -implicitDefEqProofs only [Bool.or_false,BB,A8,BR,BI,A7,DN,AZ,BA,BL,BX,CO,EY,AO,AQ,AL,BD,AY,AC,AA,AX,AU,BH,BM,BJ,CP,DZ,BU,AB,CX,BF,BQ,↓reduceIte,jA,jB,jC,enP,jS,e1,e0]
   cases f
   ·simp -implicitDefEqProofs only [BB,A8,BR,BK,BI,A7,CV,DN,AZ,BA,BL,BX,CO,IP,AO,AQ,AL,BD,AY,AC,AA,EQ,AX,AU,BH,BM,BC,CP,DZ,↓reduceIte,jA,jB,jC,jS,e0]
    exact ⟨by trivial,trivial⟩
   ·cases f'
    ·simp -implicitDefEqProofs only [BB,A8,BR,BK,BI,A7,CV,DN,AZ,BA,BL,BX,CO,GL,AO,AQ,AL,BD,AY,AC,AA,AX,AU,BH,BM,BJ,BC,CP,DW,BU,AB,CX,BF,BQ,↓reduceIte,jA,jB,jC,enP,jS,e0]
     exact ⟨by trivial,trivial⟩
    ·simp -implicitDefEqProofs only [BB,A8,BK,BI,A7,CJ,CV,DI,AZ,BA,BL,BX,CO,GL,AO,AQ,AL,BD,AY,AC,AA,AX,AU,BH,BM,BJ,BC,CP,DW,BU,AB,CX,BF,BQ,↓reduceIte,jA,jB,jC,enP,jS,e0]
     exact ⟨by trivial,trivial⟩
  ·simp -implicitDefEqProofs only [Bool.or_true,BB,A8,BK,BI,A7,CJ,CV,DI,AZ,BA,BL,BX,CO,EY,AO,AQ,AL,BD,AY,AC,AA,AX,AU,BH,BM,BJ,BC,CP,DZ,BU,AB,CX,BF,BQ,↓reduceIte,jA,jB,jC,enP,jS,e1,e0]
   exact ⟨by first | trivial | (cases f <;> cases f' <;> rfl),trivial⟩
 ·simp -implicitDefEqProofs only [wB,BB,A8,BK,BI,A7,CJ,CV,DI,AZ,BA,BL,BX,CO,F7,AO,AQ,AL,BD,AY,AC,AA,EQ,AX,AU,BH,BM,BC,CP,DW,↓reduceIte,jA,jB,jC,jS,e1,e0]
  exact ⟨by first | trivial | (cases f <;> cases f' <;> rfl),trivial⟩
theorem ABL (op:Int) (hop:op=15∨op=16∨op=17∨op=18) (a b:Rng) (ha:wfR a) (hb:wfR b) (h:Hp):PCall (En G) 77 [.int .i64 op,.agg (encR a),.agg (encR b)] h (.int .i64 (tri (AK1 op a b) (AK2 op a b))):=by
 rcases hop with rfl | rfl | rfl | rfl
 ·exact Y2 G 15 (.inl rfl) a b ha hb h
 ·refine JW 2 (fun n H=>rfl) ?_
  refine acN Tryz.func77 rfl ?_
  show awp _ _ _ _ _ (EN _ [.tmp 6] _)
  have ga:=DC (x:=ABlk.live 2 [encR b]) (DF h (ABlk.live 2 [encR a]))
  have gb:=DF (h ++ [ABlk.live 2 [encR a]]) (ABlk.live 2 [encR b])
  have hx:Sm.ext h (h ++ [ABlk.live 2 [encR a]] ++ [ABlk.live 2 [encR b]]):=((ext.rfl' h).app _).app _
  simp -implicitDefEqProofs only [BB,CE,A8,BI,A7,DI,DN,AZ,BA,AO,AQ,AL,BD,AY,AC,AA,AX,AU,BN,BH,BJ,BC,FQ,BO,BU,BV,BP,CB,AB,CX,BF,BQ,jF,jD,jE,↓reduceIte,jA,jB,jC,enP,bxR,jS,IW ga,IW gb]
  refine (Y2 G 15 (.inl rfl) a b ha hb _).use ?_
  simp -implicitDefEqProofs only [AZ,AO,AQ,AL,BD,AY,AC,AA,AX,BN,BV,BP,jF,jD,jE,↓reduceIte,jB,jC]
  refine (UL G _ _ _).use ?_
  simp -implicitDefEqProofs only [BK,A7,CJ,D8,CV,AZ,BA,AO,AQ,AL,BD,AY,AC,AA,AX,BC,↓reduceIte,jB,jC]
  refine ⟨?_,hx⟩
  show AV.int .i64 (tri (!(PZ a b) && dfB a b) (PZ a b)) = .int .i64 (tri (dfB a b) (PZ a b))
  have:PZ a b=true→dfB a b=false:=by
   obtain ⟨a0,a1,a2⟩:=ha
   obtain ⟨b0,b1,b2⟩:=hb
   unfold PZ dfB sgl
   intro q
   simp at q
   simp
   omega
  cases hs:PZ a b
  ·rfl
  ·rw [this hs]; rfl
 ·exact Y2 G 17 (.inr rfl) a b ha hb h
 ·refine JW 2 (fun n H=>rfl) ?_
  refine acN Tryz.func77 rfl ?_
  show awp _ _ _ _ _ (EN _ [.tmp 6] _)
  have ga:=DC (x:=ABlk.live 2 [encR b]) (DF h (ABlk.live 2 [encR a]))
  have gb:=DF (h ++ [ABlk.live 2 [encR a]]) (ABlk.live 2 [encR b])
  have hx:Sm.ext h (h ++ [ABlk.live 2 [encR a]] ++ [ABlk.live 2 [encR b]]):=((ext.rfl' h).app _).app _
  simp -implicitDefEqProofs only [BB,CE,A8,BI,A7,DN,AZ,BA,AO,AQ,AL,BD,AY,AC,AA,AX,AU,BN,BH,BJ,BC,FQ,BO,BU,BV,BP,CB,AB,CX,BF,BQ,jF,jD,jE,↓reduceIte,jA,jB,jC,enP,bxR,jS,IW ga,IW gb]
  refine (Y2 G 17 (.inr rfl) b a hb ha _).use ?_
  simp -implicitDefEqProofs only [AZ,AO,AQ,AL,BD,AY,AC,AA,AX,BN,BV,BP,jF,jD,jE,↓reduceIte,jB,jC]
  refine (UL G _ _ _).use ?_
  simp -implicitDefEqProofs only [BK,A7,CJ,D8,CV,AZ,BA,AO,AQ,AL,BD,AY,AC,AA,AX,BC,↓reduceIte,jB,jC]
  refine ⟨?_,hx⟩
  show AV.int .i64 (tri (!(decide (b.hi < a.lo)) && decide (b.lo≥a.hi)) (decide (b.hi < a.lo))) = .int .i64 (tri (decide (a.hi≤b.lo)) (decide (a.lo > b.hi)))
  obtain ⟨a0,a1,a2⟩:=ha
  obtain ⟨b0,b1,b2⟩:=hb
  have e1:decide (a.lo > b.hi)=decide (b.hi < a.lo):=rfl
  have e2:decide (b.lo≥a.hi)=decide (a.hi≤b.lo):=rfl
  rw [e1,e2]
  by_cases q:b.hi < a.lo
  ·rw [decide_eq_true q,decide_eq_false (show ¬ a.hi≤b.lo by omega)]; rfl
  ·rw [decide_eq_false q]; simp
theorem AFS (op:Int) (hop:op=19∨op=20∨op=21) (t f t' f':Bool) (h1:t=true→f=false) (h2:t'=true→f'=false) (h:Hp):PCall (En G) 78 [.int .i64 op,.int .i64 (tri t f),.int .i64 (tri t' f')] h (.int .i64 (tri (AXU op (t,f) (t',f')) (AXV op (t,f) (t',f')))):=by
 rcases hop with rfl | rfl | rfl
 ·refine acN Tryz.func78 rfl ?_
  show awp _ _ _ _ _ (EN _ [.tmp 6] _)
  simp -implicitDefEqProofs only [BB,A8,BR,BI,A7,DI,DN,AZ,BA,AO,AQ,AL,BD,AY,AC,AA,AX,AU,BN,BH,BJ,BC,BU,BV,BP,AB,CX,BF,BQ,jF,jD,jE,↓reduceIte,jA,jB,jC,enX,enP,jS]
  refine (UL G t f _).use ?_
  simp -implicitDefEqProofs only [AZ,AO,AQ,AL,BD,AY,AC,AA,AX,BN,BJ,BV,BP,BF,BQ,jF,jD,jE,↓reduceIte,jA,jB,jC]
  refine (UL G t' f' _).use ?_
  simp -implicitDefEqProofs only [AZ,AO,AQ,AL,BD,AY,AC,AA,AX,AU,BN,BH,BV,BP,jF,jD,jE,↓reduceIte,jA,jB,jC]
  refine (AEE G _ _ _ _ _).use ?_
  simp -implicitDefEqProofs only [AZ,AO,AQ,AL,BD,AY,AC,AA,AX,BN,BV,BP,jF,jD,jE,↓reduceIte,jB,jC]
  refine (UL G _ _ _).use ?_
  simp -implicitDefEqProofs only [BK,A7,CJ,CV,AZ,BA,AO,AQ,AL,BD,AY,AC,AA,AX,BC,↓reduceIte,jB,jC]
  refine ⟨?_,trivial⟩
  show AV.int .i64 _=AV.int .i64 (tri (t && t') (f || f'))
  revert h1 h2
  cases t <;> cases f <;> cases t' <;> cases f' <;> intro h1 h2 <;> first | rfl | (exfalso; revert h1; decide) | (exfalso; revert h2; decide)
 ·exact AEE G t f t' f' h
 ·refine acN Tryz.func78 rfl ?_
  show awp _ _ _ _ _ (EN _ [.tmp 6] _)
  simp -implicitDefEqProofs only [BB,A8,BI,A7,DI,AZ,BA,AO,AQ,AL,BD,AY,AC,AA,AX,AU,BN,BH,BJ,BC,BU,BV,BP,AB,CX,BF,BQ,jF,jD,jE,↓reduceIte,jA,jB,jC,enX,enP,jS]
  refine (UL G t f _).use ?_
  have e1 : ∀ x y:Bool,((tri x y) == 1)=x:=by decide
  have e0 : ∀ y:Bool,((tri false y) == 0)=y:=by decide
  simp -implicitDefEqProofs only [BB,A8,BR,BI,A7,DN,AZ,BA,BL,BX,CO,AO,AQ,AL,BD,AY,AC,AA,AX,AU,BH,BJ,BC,BU,AB,CX,BF,↓reduceIte,jA,jB,jC,enP,jS,e1]
  revert h1 h2
  cases t <;> cases f <;> cases t' <;> cases f' <;> intro h1 h2 <;> (try (exfalso; revert h1; decide)) <;> (try (exfalso; revert h2; decide)) <;> (try simp -implicitDefEqProofs only [BB,A8,BR,BK,BI,A7,CJ,CV,DI,DN,AZ,BA,BL,BX,CO,GL,EY,IP,F7,AO,AQ,AL,BD,AY,AC,AA,EQ,AX,AU,BH,BM,BJ,BC,CP,DW,DZ,BU,AB,CX,BF,BQ,↓reduceIte,jA,jB,jW,jC,enP,jS,e1,e0,jC,jW,Bool.and_true,Bool.and_false,Bool.false_and,Bool.true_and]) <;> (try simp -implicitDefEqProofs only [jS,e1,e0]) <;> exact ⟨by trivial,trivial⟩
set_option maxHeartbeats 1000000 in
theorem AUR (vs:List Rng) (o:Nat) (h:Hp) (ho:h[o]? = some (.live 2 (vs.map encR))) (hn:vs.length≤1048576) (h1:1≤vs.length):PCall (En G) 79 [.own o 0 vs.length] h (.int .i64 (tri (AA8 (vs.getD 0 GV) true (vs.drop 1)).1 (AA8 (vs.getD 0 GV) true (vs.drop 1)).2)):=by
 obtain ⟨a,hva⟩ : ∃ a,vs.getD 0 GV=a:=⟨_,rfl⟩
 have hv0:vs[0]'h1=a:=by rw [← hva,zF,jU h1]; rfl
 rw [hva]
 refine JW 2 (fun n H=>rfl) ?_
 refine acN Tryz.func79 rfl ?_
 show awp _ _ _ _ _ (EN _ [.tmp 2] _)
 have i0:I4 2 h (.own o 0 vs.length) (.int .i64 0)=some (.ptr o 0 0):=by
  have:=JK (kk := .i64) (off:=0) (n:=0) (len:=vs.length) ho (by omega)
  rw [jG] at this; exact this
 have l0:=RI ho (show 0 < vs.length by omega)
 rw [hv0] at l0
 simp -implicitDefEqProofs only [BB,CE,A8,A7,AZ,BA,AO,AQ,AL,BD,AY,AC,DU,AA,AX,AU,BH,BM,BJ,BC,EZ,BO,CU,CG,CB,AB,BZ,BF,↓reduceIte,jA,jB,jC,enP,JO,jK,i0,l0,KG,NF h a]
 have ga:=DF h (ABlk.live 2 [encR a])
 have hx0:Sm.ext h (h ++ [ABlk.live 2 [encR a]]):=(ext.rfl' h).app _
 have ho1:(h ++ [ABlk.live 2 [encR a]])[o]? = some (.live 2 (vs.map encR)):=DC ho
 generalize h ++ [ABlk.live 2 [encR a]]=H0 at ga hx0 ho1 ⊢
 generalize h.length=ba at ga ⊢
 generalize hR:AA8 a true (vs.drop 1)=R
 refine IY 0 (fun F H => ∃ imp,F 3 = .bool (!imp)∧Sm.ext H0 H∧R=(false,imp)) (fun F H=>EN Tryz.prog [.tmp 2] (fun v H=>v = .int .i64 (tri R.1 R.2)∧Sm.ext h H) .ret F H) ?_ ?_ ?_
 ·refine EG (fun n F H => ∃ i imp,n+i=vs.length+2∧1≤i∧F 0 = .own o 0 vs.length∧F 3 = .bool (!imp)∧F 4 = .ptr ba 0 0∧F 5 = .int .i64 (i:Nat)∧Sm.ext H0 H∧R=AA8 a imp (vs.drop i)) (vs.length+1)
   ⟨1,true,by omega,by omega,by simp -implicitDefEqProofs only [AA,BF,↓reduceIte,jA],by simp -implicitDefEqProofs only [AA,↓reduceIte,jA,jW],by simp -implicitDefEqProofs only [AA,↓reduceIte,jA],by simp -implicitDefEqProofs only [AA,↓reduceIte]; rfl,ext.rfl' _,hR.symm⟩ ?_
  rintro n F H ⟨i,imp,hi,hi1,f0,f3,f4,f5,hx,he⟩
  have gaH:=FD hx ga
  have hoH:=FD hx ho1
  simp -implicitDefEqProofs only [BB,A8,BI,A7,CV,AZ,BA,AO,AQ,AL,BD,AY,AC,AA,AX,AU,BH,BJ,BU,FP,AB,D6,DV,↓reduceIte,jA,jB,jC,enP,ZL,f0,f5,wrap_succ (show i < 9223372036854775807 by omega)]
  refine CQ (fun hc => ?_) (fun hc => ?_)
  ·have hc:i+1 < vs.length:=by simp at hc; omega
   have i1:I4 2 H (.own o 0 vs.length) (.int .i64 (i:Nat))=some (.ptr o i 0):=by
    have:=JK (kk := .i64) (off:=0) (n:=i) (len:=vs.length) hoH (by omega)
    rw [jG] at this; exact this
   have i2:I4 2 H (.own o 0 vs.length) (.int .i64 ((i+1:Nat):Int))=some (.ptr o (i+1) 0):=by
    have:=JK (kk := .i64) (off:=0) (n:=i+1) (len:=vs.length) hoH (by omega)
    rw [jG] at this; exact this
   have l1:=RI hoH (show i < vs.length by omega)
   have l2:=RI hoH (show i+1 < vs.length by omega)
   have hst:=AOC a imp vs i hc
   simp -implicitDefEqProofs only [BB,CE,BR,A7]
   refine QX (fun F H'=>F 0 = .own o 0 vs.length∧F 3 = .bool (!imp)∧F 4 = .ptr ba 0 0∧F 5 = .int .i64 (i:Nat)∧Sm.ext H H'∧∃ b7 b8,F 6 = .ptr b7 0 0∧F 7 = .ptr b8 0 0∧H'[b7]? = some (.live 2 [encR vs[i]])∧H'[b8]? = some (.live 2 [encR vs[i+1]])) (fun _ _=>False) ?_ ?_ (fun _ _ q=>q.elim)
   ·refine Y5 (.ones [0,1,2,3,4,5,6,7] (.alt 8 (.alt 9 (.ones [10,11,12] .done) (.alt 10 (.ones [9,11,12] .done) (.non))) (.alt 9 (.alt 8 (.ones [10,11,12] .done) (.alt 10 (.alt 8 (.ones [11,12] .done) (.alt 11 (.ones [8,12] .done) (.non))) (.non))) (.alt 10 (.alt 8 (.ones [9,11,12] .done) (.alt 9 (.alt 8 (.ones [11,12] .done) (.alt 11 (.ones [8,12] .done) (.non))) (.non))) (.non))))) (by kernel_rfl) ?_
    have lA : ∀ x:ABlk,DR Tryz.prog (H ++ [x]) 34 (.ptr o (i+1) 0)=some (.agg (encR vs[i+1])):=fun x=>RI (DC hoH) (show i+1 < vs.length by omega)
    have lB : ∀ x y:ABlk,DR Tryz.prog (H ++ [x] ++ [y]) 34 (.ptr o (i+1) 0)=some (.agg (encR vs[i+1])):=fun x y=>RI (DC (DC hoH)) (show i+1 < vs.length by omega)
    have g : ∀ r s:Rng,(H ++ [ABlk.live 2 [encR r]] ++ [ABlk.live 2 [encR s]])[H.length]? = some (.live 2 [encR r])∧(H ++ [ABlk.live 2 [encR r]] ++ [ABlk.live 2 [encR s]])[(H ++ [ABlk.live 2 [zR]]).length]? = some (.live 2 [encR s]):=fun r s=>by
     refine ⟨DC (DF _ _),?_⟩
     have:=DF (H ++ [ABlk.live 2 [encR r]]) (ABlk.live 2 [encR s])
     rw [← this]; simp
    have sB : ∀ r s:Rng,GM Tryz.prog (H ++ [ABlk.live 2 [encR r]] ++ [ABlk.live 2 [zR]]) 34 (.ptr (H ++ [ABlk.live 2 [zR]]).length 0 0) (.agg (encR s))=some (H ++ [ABlk.live 2 [encR r]] ++ [ABlk.live 2 [encR s]]):=fun r s=>by
     have:=NF (H ++ [ABlk.live 2 [encR r]]) s
     rw [← this]; simp
    have hxx : ∀ r s:Rng,Sm.ext H (H ++ [ABlk.live 2 [encR r]] ++ [ABlk.live 2 [encR s]]):=fun r s=>((ext.rfl' H).app _).app _
    simp only [DT,KC,List.getElem?_cons_succ,List.getElem?_cons_zero]
    simp -implicitDefEqProofs only [ET,DK,CY,FK,D7,DL,EH,MW,EC,FH,HY,D9,KW,AO,AA,AX,AU,BH,EZ,BO,CU,BU,CG,CB,AB,BZ,D6,↓reduceIte,jA,jL,jG,jB,enP,JO,jK,f0,f3,f4,f5,wrap_succ (show i < 9223372036854775807 by omega),i1,l1,KG,i2,l2,lA,lB,AD6,NF,sB,and_true]
    have A:=fun r s=>(g r s).1
    have B:=fun r s=>(g r s).2
    refine ⟨⟨?_,?_⟩,⟨?_,?_,?_⟩,?_,?_,?_⟩ <;> first | exact ⟨trivial,trivial,trivial,trivial,hxx _ _,_,_,rfl,rfl,A _ _,B _ _⟩ | exact ⟨trivial,trivial,trivial,trivial,hxx _ _,_,_,rfl,rfl,B _ _,A _ _⟩
   clear f0 f3 f4 f5
   rintro F H1 ⟨f0,f3,f4,f5,hx1,b7,b8,f6,f7,g7,g8⟩
   have hxx:=hx.trans hx1
   have ga2:=FD hx1 gaH
   have nxt : ∀ (q:TS a vs[i] vs[i+1]=false) (r:Bool),(VV a vs[i] vs[i+1]=r)→∃ m,m < n∧∃ i' imp',m+i'=vs.length+2∧i'=i+2∧imp'=(if r=true then false else imp)∧R=AA8 a imp' (vs.drop i'):=fun q r hr=>by
    subst hr
    refine ⟨n - 2,by omega,i+2,_,by omega,rfl,rfl,?_⟩
    rw [he,hst,if_neg (by rw [q]; decide)]
   have w2:IntKind.i64.wrap ((i:Int)+2)=((i+2:Nat):Int):=by rw [wrap_i64 (by omega) (by omega)]; omega
   simp -implicitDefEqProofs only [BB,A8,A7,AZ,BL,BX,CO,AO,AQ,AL,BD,AY,AC,AA,AX,BJ,BO,BU,BG,AB,FV,↓reduceIte,jA,jH,jG,jB,jC,enP,FB,FN,f4,f6,f7,FX ga2,GI ga2,FX g7,GI g7,FX g8,GI g8]
   refine NZ (fun F' H'=>F' 0 = .own o 0 vs.length∧F' 3 = .bool (!imp)∧F' 4 = .ptr ba 0 0∧F' 5 = .int .i64 (i:Nat)∧F' 6 = .ptr b7 0 0∧F' 7 = .ptr b8 0 0∧F' 38 = .bool (TS a vs[i] vs[i+1])∧H'=H1) ?_ ?_
   ·unfold TS
    refine IA (fun hA => ?_) (fun hA => ?_)
    ·simp -implicitDefEqProofs only [AZ,BA,BL,BX,CO,GL,AO,AQ,AL,BD,AY,AC,AA,AX,AU,BM,CP,DW,BO,BU,BG,AB,IR,↓reduceIte,jA,jH,jG,jB,jC,enP,FB,FN,hA,f4,f6,f7,FX ga2,GI ga2,FX g7,GI g7,FX g8,GI g8]
     exact ⟨by trivial,by trivial,by trivial,by trivial,by trivial,by trivial,by trivial,trivial⟩
    ·simp -implicitDefEqProofs only [AZ,BA,BL,BX,CO,IP,AO,AQ,AL,BD,AY,AC,AA,EQ,AX,AU,BM,CP,DZ,↓reduceIte,jA,jB,jC,hA,f4,f6,f7]
     exact ⟨by trivial,by trivial,by trivial,by trivial,by trivial,by trivial,by trivial,trivial⟩
   clear f0 f3 f4 f5 f6 f7
   rintro F H2 ⟨f0,f3,f4,f5,f6,f7,f38,rfl⟩
   simp -implicitDefEqProofs only [BI,A7,AX,f38]
   refine CQ (fun hT => ?_) (fun hT => ?_)
   ·simp -implicitDefEqProofs only [BB,A8,BK,A7,CJ,D8,L6,F9,AZ,BA,AO,AQ,AL,BD,AY,AC,AA,AU,BH,BC,↓reduceIte,jB,jC]
    refine ⟨?_,hx0.trans hxx⟩
    rw [he,hst,if_pos hT]; rfl
   simp -implicitDefEqProofs only [BB,A8,BR,A7,AZ,BL,BX,CO,AO,AQ,AL,BD,AY,AC,AA,AX,BJ,BO,BU,BG,AB,FV,↓reduceIte,jA,jH,jG,jB,jC,enP,FB,FN,f4,f6,f7,FX ga2,GI ga2,FX g7,GI g7,FX g8,GI g8]
   refine NZ (fun F' H'=>F' 0 = .own o 0 vs.length∧F' 3 = .bool (!imp)∧F' 4 = .ptr ba 0 0∧F' 5 = .int .i64 (i:Nat)∧F' 6 = .ptr b7 0 0∧F' 7 = .ptr b8 0 0∧F' 57 = .bool (VV a vs[i] vs[i+1])∧H'=H2) ?_ ?_
   ·unfold VV
    refine IA (fun hA => ?_) (fun hA => ?_)
    ·simp -implicitDefEqProofs only [AZ,BL,BX,CO,GL,AO,AQ,AL,BD,AY,AC,AA,AX,AU,BM,BJ,CP,DW,BO,BU,BG,AB,IR,↓reduceIte,jA,jH,jG,jB,jC,enP,FB,FN,hA,f4,f6,f7,FX ga2,GI ga2,FX g7,GI g7,FX g8,GI g8]
     refine IA (fun hB => ?_) (fun hB => ?_)
     ·simp -implicitDefEqProofs only [AZ,BA,BL,BX,CO,GL,AO,AQ,AL,BD,AY,AC,AA,AX,AU,BM,CP,DW,BO,BU,BG,AB,IR,↓reduceIte,jA,jH,jG,jB,jC,enP,FB,FN,hA,hB,f4,f6,f7,FX ga2,GI ga2,FX g7,GI g7,FX g8,GI g8]
      exact ⟨by trivial,by trivial,by trivial,by trivial,by trivial,by trivial,by trivial,trivial⟩
     ·simp -implicitDefEqProofs only [AZ,BA,BL,BX,CO,IP,AO,AQ,AL,BD,AY,AC,AA,EQ,AX,AU,BM,CP,DZ,↓reduceIte,jA,jB,jC,hA,hB,f4,f6,f7]
      exact ⟨by trivial,by trivial,by trivial,by trivial,by trivial,by trivial,by trivial,trivial⟩
    ·simp -implicitDefEqProofs only [AZ,BA,BL,BX,CO,IP,AO,AQ,AL,BD,AY,AC,AA,EQ,AX,AU,BM,BJ,CP,DZ,↓reduceIte,jA,jB,jC,hA,f4,f6,f7]
     exact ⟨by trivial,by trivial,by trivial,by trivial,by trivial,by trivial,by trivial,trivial⟩
   clear f0 f3 f4 f5 f6 f7 f38
   rintro F H3 ⟨f0,f3,f4,f5,f6,f7,f57,rfl⟩
   simp -implicitDefEqProofs only [BI,A7,AX,f57]
   refine CQ (fun hP => ?_) (fun hP => ?_)
   ·simp -implicitDefEqProofs only [A8,A7,EO,FO,AZ,BA,AO,AQ,AL,BD,AY,AC,AA,AX,AU,BH,BM,BJ,BC,BU,AB,D6,↓reduceIte,jA,jB,jC,enP,f5,w2]
    obtain ⟨m,hm,i',imp',e,rfl,rfl,e'⟩:=nxt hT true hP
    exact ⟨m,hm,i+2,_,e,by omega,by trivial,by first | exact f3 | trivial | rfl,by trivial,by trivial,hxx,e'⟩
   ·simp -implicitDefEqProofs only [A8,BR,A7,EO,FO,AZ,BA,AO,AQ,AL,BD,AY,AC,AA,AX,AU,BH,BJ,BC,BU,AB,D6,↓reduceIte,jA,jB,jC,enP,f5,w2]
    obtain ⟨m,hm,i',imp',e,rfl,rfl,e'⟩:=nxt hT false hP
    exact ⟨m,hm,i+2,_,e,by omega,by trivial,by first | exact f3 | trivial | rfl,by trivial,by trivial,hxx,e'⟩
  ·have hc : ¬ i+1 < vs.length:=by simp at hc; omega
   rw [AQ4 a imp vs i (by omega)] at he
   simp -implicitDefEqProofs only [EF,FC,MG,F8,AA,↓reduceIte,jA]
   exact ⟨imp,by trivial,hx,he⟩
 ·rintro F H ⟨imp,f3,hx,rfl⟩
  simp -implicitDefEqProofs only [BB,A8,BI,A7,F6,AZ,BA,AO,AQ,AL,BD,AY,AC,AA,AX,BJ,↓reduceIte,jB,jC,f3]
  cases imp
  ·simp -implicitDefEqProofs only [BB,A8,BK,A7,CJ,CV,DI,AZ,BA,AO,AQ,AL,BD,AY,AC,AA,AU,BH,BC,↓reduceIte,jB,jC,jC]
   exact ⟨by trivial,hx0.trans hx⟩
  ·simp -implicitDefEqProofs only [BB,A8,BR,BK,A7,CV,DN,AZ,BA,AO,AQ,AL,BD,AY,AC,AA,AU,BH,BC,↓reduceIte,jB,jW,jC,jW]
   exact ⟨by trivial,hx0.trans hx⟩
 ·intro F H hq
  rw [CV] at hq
  simp -implicitDefEqProofs only [CJ,D8,CV]
  exact hq
end
theorem J3 {h:Hp} {b:Nat} {p:Pr} (hb:h[b]? = some (.live 5 [DY p])):DR Tryz.prog h 27 (.ptr b 0 0)=some (.agg (DY p)):=by rw [H7 VH UG hb (row:=DY p) rfl (by rw [GZ]; exact jQ 5)]; rfl
theorem AUB {a:Rng} (ha:wfR a):J4 8 ⟨0,0⟩ a=XM a:=by
 obtain ⟨a0,a1,a2⟩:=ha
 have e:J4 8 ⟨0,0⟩ a=UU ⟨0,0⟩ a:=by unfold J4; rw [if_neg (by decide),if_pos rfl]
 rw [e]
 unfold UU XM
 by_cases q:isF a=true
 ·have q':a.hi=0:=by unfold isF at q; simpa using q
  rw [if_pos q,if_pos (by simp only; omega)]
  congr 1 <;> simp only <;> omega
 ·have q' : ¬ a.hi=0:=by unfold isF at q; simpa using q
  rw [if_neg q,if_neg (by simp only; omega)]
  by_cases t:isT a=true
  ·have t':a.lo > 0:=by unfold isT at t; simpa using t
   rw [if_pos t,if_pos (by simp only; omega)]
   congr 1 <;> simp only <;> omega
  ·have t' : ¬ a.lo > 0:=by unfold isT at t; simpa using t
   rw [if_neg t,if_neg (by simp only; omega)]
section
variable (G:Nat→AV)
set_option maxHeartbeats 4000000 in
theorem YV (p:Pr) (hs:PrS p) (l:List Rng) (hl:l.length=p.vars.length) (hln:l.length≤1048576) (hw : ∀ r∈l,wfR r) (e:Ex):(pre e).length≤1048576→(∀ x∈pre e,JH x=0)→∀ (h:Hp) (L:AV),LOk h L l→PCall (En G) 42 [.agg (CW e),.agg (DY p),L] h (.agg (encR (evS p.vars l e))):=by
 induction e using Ex.induct with | h e ih => ?_
 intro hwt hval h L hL
 have hpl:=congrArg List.length (pre_eq e)
 rw [List.length_cons] at hpl
 have hal:e.args.length≤1048576:=by have:=TN e.args; omega
 have hnode:=hval e (by rw [pre_eq]; simp)
 obtain ⟨a1,a25,ar1,ar3,arI,ar2⟩:=YH hnode
 have hn1:=(VP hnode).1
 refine JW 2 (fun n H=>rfl) ?_
 refine IM (H:=⟨fun d=>d == 26,fun _ => []⟩) (enM G) Tryz.func42 rfl (by kernel_rfl) (by kernel_rfl) (jJ (by kernel_rfl)) ?_
 show awp _ _ _ _ _ (EN _ [.cell 6 34] _)
 have ge:=DC (x:=ABlk.live 2 [zR]) (DC (x:=ABlk.live 5 [DY p]) (DF h (ABlk.live 4 [CW e])))
 have gp:=DC (x:=ABlk.live 2 [zR]) (DF (h ++ [ABlk.live 4 [CW e]]) (ABlk.live 5 [DY p]))
 have gz:=DF (h ++ [ABlk.live 4 [CW e]] ++ [ABlk.live 5 [DY p]]) (ABlk.live 2 [zR])
 have hx:Sm.ext h (h ++ [ABlk.live 4 [CW e]] ++ [ABlk.live 5 [DY p]] ++ [ABlk.live 2 [zR]]):=(((ext.rfl' h).app _).app _).app _
 have hzl:h.length≤(h ++ [ABlk.live 4 [CW e]] ++ [ABlk.live 5 [DY p]]).length:=by simp
 simp -implicitDefEqProofs only [jI,BB,CE,A8,A7,AZ,BA,AL,BD,AY,AC,AA,AX,AU,BH,KZ,BC,EZ,FQ,CB,BF,BQ,↓reduceIte,jA,jB,jC,enP,bxE,QP,KG]
 generalize h ++ [ABlk.live 4 [CW e]] ++ [ABlk.live 5 [DY p]] ++ [ABlk.live 2 [zR]]=H1 at ge gp gz hx ⊢
 generalize (h ++ [ABlk.live 4 [CW e]] ++ [ABlk.live 5 [DY p]]).length=bz at gz hzl ⊢
 generalize (h ++ [ABlk.live 4 [CW e]]).length=pb at gp ⊢
 generalize h.length=eb at ge ⊢
 refine EG (fun n F H => ∃ j v,n+j=e.args.length∧F 2=L∧F 3 = .ptr eb 0 0∧F 4 = .ptr pb 0 0∧F 6 = .ptr bz 0 0∧F 7=v∧F 8 = .int .i64 (j:Nat)∧Sm.ext H1 H∧outG 2 encR H1 (MQ p.vars l (e.args.take j)) v H) e.args.length
  ⟨0,.sl .nil 0 [],by simp,by simp -implicitDefEqProofs only [AA,BF,BQ,↓reduceIte,jA],by simp -implicitDefEqProofs only [AA,↓reduceIte,jA],by simp -implicitDefEqProofs only [AA,↓reduceIte,jA],by simp -implicitDefEqProofs only [AA,↓reduceIte,jA],by simp -implicitDefEqProofs only [AA,↓reduceIte,jA],by simp -implicitDefEqProofs only [AA,↓reduceIte]; rfl,ext.rfl' _,outG.nil _ _ _ _⟩ ?_
 rintro n F H ⟨j,v,hj,f2,f3,f4,f6,f7,f8,hxH,ho⟩
 have geH:=FD hxH ge
 have gpH:=FD hxH gp
 have l3:DR Tryz.prog H 23 (.ptr eb 0 3)=some (.sl e.m 4 (e.args.map CW)):=by rw [DJ NM geH (row:=CW e) rfl,NE]
 simp -implicitDefEqProofs only [jI,BB,A8,BI,A7,AZ,BA,AL,BD,AY,AC,AA,AX,BJ,BO,BU,BG,FP,AB,DV,↓reduceIte,jA,jG,jB,jC,enP,TD,IJ,f3,f8,l3,jR]
 refine CQ (fun hc => ?_) (fun hc => ?_)
 ·have hj':j < e.args.length:=by simpa using hc
  have hmem:e.args[j]∈e.args:=jT hj'
  have hpm:=N7 hmem
  have hlen:(MQ p.vars l (e.args.take j)).length=j:=by rw [OQ,List.length_take]; omega
  simp -implicitDefEqProofs only [BB,CE,BR,A7]
  refine EK (by kernel_rfl) ?_
  simp -implicitDefEqProofs only [ET,jI,DK,CY,DL,EH,MW,EC,C9,D9,EI,Q3,AA,AX,BN,EZ,BO,BG,CG,AB,jF,jD,jE,↓reduceIte,jA,jL,jG,jB,enP,LQ,IJ,f2,f3,f4,f8,l3,EX hj',EU KJ JR ES hj',J3 gpH]
  refine ⟨_,fun x=>ih e.args[j] hmem (by omega) (fun x hx=>hval x (by rw [pre_eq]; exact qU _ (ND hmem x hx))) (H ++ x) L (hL.ext ((hx.trans hxH).app x)),?_⟩
  have ho1:=ho.app [ABlk.live 2 [encR (evS p.vars l e.args[j])]]
  have hx1:=hxH.app [ABlk.live 2 [encR (evS p.vars l e.args[j])]]
  have g9:=DF H (ABlk.live 2 [encR (evS p.vars l e.args[j])])
  simp -implicitDefEqProofs only [ET,jI,DK,CY,FK,D7,DL,FH,A8,A7,AZ,AL,BD,AY,AC,AA,AX,BJ,BO,CU,CB,BZ,↓reduceIte,jA,jG,jB,jC,enP,jK,KG,NF]
  generalize H ++ [ABlk.live 2 [encR (evS p.vars l e.args[j])]]=H2 at ho1 hx1 g9 ⊢
  generalize H.length=xb at g9 ⊢
  obtain ⟨v',H',ha,ho',_,hx',_,_⟩:=ho1.append (P:=Tryz.prog) AG2 VC AS7 AR6 (by omega) (by rw [hlen]; omega) hx1 (evS p.vars l e.args[j])
  rw [← AEL p.vars l e.args j hj'] at ho'
  simp -implicitDefEqProofs only [ER,EP,jI,A8,A7,EO,FO,AZ,BA,AL,BD,AY,AC,AA,AX,AU,BH,BJ,BC,GR,BU,LV,CB,AB,D6,↓reduceIte,jA,jB,jC,enP,f7,IW g9,AYK,ha,f8,wrap_succ (show j < 9223372036854775807 by omega)]
  exact ⟨n - 1,by omega,j+1,v',by omega,by trivial,by trivial,by trivial,by trivial,by trivial,by trivial,hx',ho'⟩
 have hj' : ¬ j < e.args.length:=by simpa using hc
 rw [List.take_of_length_le (by omega)] at ho
 have z:Z0 h H bz:=⟨FD hxH gz,hx.trans hxH,hzl⟩
 have hLH:=hL.ext (hx.trans hxH)
 generalize hvs:MQ p.vars l e.args=vs at ho
 have hvl:vs.length=e.args.length:=by rw [← hvs,OQ]
 have hwf : ∀ r∈vs,wfR r:=by
  intro r hr
  rw [← hvs,J6] at hr
  obtain ⟨a,ha,rfl⟩:=List.mem_map.1 hr
  exact X6 p.vars hw a fun x hx=>hval x (by rw [pre_eq]; exact qU _ (ND ha x hx))
 have hes:evS p.vars l e=evO p.vars l e.op e.n e.name vs:=by rw [ACT,hvs]
 have l0:DR Tryz.prog H 3 (.ptr eb 0 0)=some (.int .i64 e.op):=by rw [DJ ag3 geH (row:=CW e) rfl,JC]
 have l1:DR Tryz.prog H 3 (.ptr eb 0 1)=some (.int .i64 e.n):=by rw [DJ ag3 geH (row:=CW e) rfl,XF]
 have l2:DR Tryz.prog H 9 (.ptr eb 0 2)=some (.str e.name):=by rw [DJ ag9 geH (row:=CW e) rfl,OB]
 have fin : ∀ {F:Fr} {r:Rng},F 6 = .ptr bz 0 0→r=evO p.vars l e.op e.n e.name vs→EN Tryz.prog [.cell 6 34] (fun v H=>v = .agg (encR (evS p.vars l e))∧Sm.ext h H) .ret F (H.set bz (.live 2 [encR r])):=fun hF hr=>z.out hF (by rw [hr,hes])
 simp -implicitDefEqProofs only [jI,BB,CE,A8,EF,BI,A7,FC,F6,F8,AZ,BA,AL,BD,AY,AC,AA,AX,AU,BH,BC,BO,BU,BG,AB,CX,↓reduceIte,jA,jH,jB,jC,enP,FU,f3,l0]
 by_cases h1:e.op=1
 ·have c1:(e.op == 1)=true:=by simpa using h1
  simp -implicitDefEqProofs only [ER,EP,jI,BB,A8,BK,A7,CJ,D8,DI,AZ,BA,AL,BD,AY,AC,DU,AA,AX,FI,BO,CU,BG,AB,BZ,↓reduceIte,jA,jG,jB,jC,enP,XR,jK,c1,f3,l1,KR,f6,z.st]
  exact fin (by simp -implicitDefEqProofs only [AA,↓reduceIte,jA,f6]) (by unfold evO; rw [if_pos h1])
 have c1:(e.op == 1)=false:=by simpa using h1
 by_cases h2:e.op=2
 ·have c2:(e.op == 2)=true:=by simpa using h2
  simp -implicitDefEqProofs only [jI,BB,A8,BI,A7,DI,DN,AZ,BA,AL,BD,AY,AC,AA,AX,AU,BN,BH,BC,BO,BU,BG,BV,BP,AB,CX,jF,jD,jE,↓reduceIte,jA,jG,jB,jC,enP,KF,c1,c2,f3,f4,J3 gpH,l2]
  refine (ZO G p hs e.name H).use ?_
  simp -implicitDefEqProofs only [jI,BB,A8,BI,A7,AZ,BA,AL,BD,AY,AC,AA,AX,AU,BH,BJ,BC,BU,AB,FV,↓reduceIte,jB,jC,enP]
  have hr:=P9 (JB e.name) p.vars
  refine CQ (fun hp => ?_) (fun hp => ?_)
  ·have hp:0≤plc p.vars e.name:=by simpa using hp
   obtain ⟨i,hi⟩:=Int.eq_ofNat_of_zero_le hp
   have hil:i < l.length:=by unfold plc at hi; omega
   obtain ⟨qp,s1,s2,_⟩:=hLH.at' hil
   simp -implicitDefEqProofs only [jI,BB,A8,BK,A7,CJ,D8,AZ,BA,AL,BD,AY,AC,DU,AA,AX,BJ,BO,CU,CG,AB,BZ,↓reduceIte,jA,jB,jC,enP,JO,jK,f2,hi,s1,s2,f6,z.st]
   refine fin (by simp -implicitDefEqProofs only [AA,↓reduceIte,jA,f6]) ?_
   unfold evO AJM
   rw [if_neg h1,if_pos h2,if_pos hp,hi,Int.toNat_natCast,zF,jU hil]; rfl
  ·have hp : ¬ 0≤plc p.vars e.name:=by simpa using hp
   simp -implicitDefEqProofs only [jI,BB,A8,BR,A7,AZ,AL,BD,AY,BN,BV,BP,jD,jE,jB,jC]
   refine (OY G _).use ?_
   simp -implicitDefEqProofs only [jI,BK,A7,CJ,D8,AZ,BA,AL,BD,AY,AC,DU,AA,AX,CU,BZ,↓reduceIte,jA,jC,enP,jK,f6,z.st]
   exact fin (by simp -implicitDefEqProofs only [AA,↓reduceIte,jA,f6]) (by unfold evO AJM; rw [if_neg h1,if_pos h2,if_neg hp])
 have c2:(e.op == 2)=false:=by simpa using h2
 by_cases h3:e.op=3
 ·have c3:(e.op == 3)=true:=by simpa using h3
  simp -implicitDefEqProofs only [jI,BB,A8,BR,BI,A7,DI,DN,AZ,BA,AL,BD,AY,AC,AA,AX,AU,BN,BH,BC,BU,BV,BP,AB,CX,jD,jE,↓reduceIte,jA,jB,jC,enP,c1,c2,c3]
  refine (OY G _).use ?_
  simp -implicitDefEqProofs only [jI,BK,A7,CJ,D8,AZ,BA,AL,BD,AY,AC,DU,AA,AX,CU,BZ,↓reduceIte,jA,jC,enP,jK,f6,z.st]
  exact fin (by simp -implicitDefEqProofs only [AA,↓reduceIte,jA,f6]) (by unfold evO; rw [if_neg h1,if_neg h2,if_pos (.inl h3)])
 have c3:(e.op == 3)=false:=by simpa using h3
 by_cases h24:e.op=24
 ·have c24:(e.op == 24)=true:=by simpa using h24
  simp -implicitDefEqProofs only [jI,BB,A8,BI,A7,DI,DN,AZ,BA,AL,BD,AY,AC,AA,AX,AU,BN,BH,BC,BU,BV,BP,AB,CX,jD,jE,↓reduceIte,jA,jB,jC,enP,c1,c2,c3,c24]
  refine (OY G _).use ?_
  simp -implicitDefEqProofs only [jI,BK,A7,CJ,D8,AZ,BA,AL,BD,AY,AC,DU,AA,AX,CU,BZ,↓reduceIte,jA,jC,enP,jK,f6,z.st]
  exact fin (by simp -implicitDefEqProofs only [AA,↓reduceIte,jA,f6]) (by unfold evO; rw [if_neg h1,if_neg h2,if_pos (.inr h24)])
 have c24:(e.op == 24)=false:=by simpa using h24
 have hO:evO p.vars l e.op e.n e.name vs=opR e.op vs:=by unfold evO; rw [if_neg h1,if_neg h2,if_neg (by omega)]
 rw [hO] at fin
 have len1:0 < vs.length:=by
  rcases (show (e.op=4∨e.op=5∨e.op=6∨e.op=25)∨e.op=22∨e.op=23∨(7≤e.op∧e.op≤21) by omega) with h | h | h | h
  ·have:=ar1 h; omega
  ·have:=ar3 h; omega
  ·have:=arI h; omega
  ·have:=ar2 h.1 h.2; omega
 obtain ⟨ob,rfl,go⟩ : ∃ o,v = .own o 0 vs.length∧H[o]? = some (.live 2 (vs.map encR)):=by
  rcases ho with ⟨h0,_⟩ | ⟨_,o,_,rfl,hb⟩
  ·rw [h0] at len1; exact absurd len1 (by decide)
  ·exact ⟨o,rfl,hb⟩
 have ix : ∀ k:Nat,k < vs.length→I4 2 H (.own ob 0 vs.length) (.int .i64 (k:Nat))=some (.ptr ob k 0):=fun k hk=>by
  have:=JK (kk := .i64) (off:=0) (n:=k) (len:=vs.length) go (by omega)
  rw [jG] at this; exact this
 have ld : ∀ k:Nat,∀ hk:k < vs.length,DR Tryz.prog H 34 (.ptr ob k 0)=some (.agg (encR (vs.getD k GV))):=fun k hk=>by
  rw [RI go hk,zF,jU hk]; rfl
 have ldl : ∀ k:Nat,∀ hk:k < vs.length,DR Tryz.prog H 3 (.ptr ob k 0)=some (.int .i64 (vs.getD k GV).lo):=fun k hk=>by
  rw [DJ ag3 go (row:=encR (vs.getD k GV)) (by rw [zA,zF,jU hk]; rfl)]; rfl
 have ldh : ∀ k:Nat,∀ hk:k < vs.length,DR Tryz.prog H 3 (.ptr ob k 1)=some (.int .i64 (vs.getD k GV).hi):=fun k hk=>by
  rw [DJ ag3 go (row:=encR (vs.getD k GV)) (by rw [zA,zF,jU hk]; rfl)]; rfl
 have w0:=SG hwf 0
 have w1:=SG hwf 1
 have x0:I4 2 H (.own ob 0 vs.length) (.int .i64 0)=some (.ptr ob 0 0):=ix 0 len1
 have d0:=ld 0 len1
 by_cases h4:e.op=4
 ·have c4:(e.op == 4)=true:=by simpa using h4
  have e4:tri (!(isT (vs.getD 0 GV)) && isF (vs.getD 0 GV)) (isT (vs.getD 0 GV))=tri (isF (vs.getD 0 GV)) (isT (vs.getD 0 GV)):=by
   have:=ADU w0
   cases hq:isT (vs.getD 0 GV)
   ·rfl
   ·rw [this hq]; rfl
  simp -implicitDefEqProofs only [jI,BB,A8,BI,A7,DI,DN,AZ,BA,AL,BD,AY,AC,AA,AX,AU,BN,BH,BJ,BC,BO,BU,CG,BV,BP,AB,CX,jF,jD,jE,↓reduceIte,jA,jB,jC,enP,JO,c1,c2,c3,c24,c4,f7,x0,d0]
  refine (KX G _ _).use ?_
  simp -implicitDefEqProofs only [jI,AZ,AL,BD,AY,AC,AA,AX,BN,BV,BP,jF,jD,jE,↓reduceIte,jB,jC]
  refine (UL G _ _ _).use ?_
  simp -implicitDefEqProofs only [jI,AZ,AL,BD,AY,AC,AA,AX,BN,BV,BP,jF,jD,jE,↓reduceIte,jB,jC,e4]
  refine (truth_ref G _ _ _).use ?_
  simp -implicitDefEqProofs only [jI,BK,A7,CJ,D8,AZ,BA,AL,BD,AY,AC,DU,AA,AX,CU,BZ,↓reduceIte,jA,jC,enP,jK,f6,z.st]
  exact fin (by simp -implicitDefEqProofs only [AA,↓reduceIte,jA,f6]) (by unfold opR; rw [if_pos h4])
 have c4:(e.op == 4)=false:=by simpa using h4
 by_cases h5:e.op=5
 ·have c5:(e.op == 5)=true:=by simpa using h5
  have dl:=ldl 0 len1
  have dh:=ldh 0 len1
  obtain ⟨v0,v1,v2⟩:=w0
  simp -implicitDefEqProofs only [jI,BB,A8,BI,A7,DI,DN,AZ,BA,AL,BD,AY,AC,AA,AX,AU,BH,BC,BU,AB,CX,↓reduceIte,jA,jB,jC,enP,c1,c2,c3,c24,c4,c5]
  refine EK (by kernel_rfl) ?_
  simp -implicitDefEqProofs only [ET,ER,EP,jI,DK,CY,FK,D7,DL,EH,KT,EC,FH,HY,C9,D9,BK,A7,CJ,D8,AA,AX,AU,BH,FI,BO,CU,BU,BG,CG,AB,BZ,II,↓reduceIte,jA,jL,jH,jG,jB,enP,JO,FB,FN,jK,f7,x0,dl,dh,wrap_i64 (n:=65535 - (vs.getD 0 GV).hi) (by omega) (by omega),wrap_i64 (n:=65535 - (vs.getD 0 GV).lo) (by omega) (by omega),KR,f6,z.st]
  exact fin (by simp -implicitDefEqProofs only [AA,↓reduceIte,jA,f6]) (by unfold opR; rw [if_neg h4,if_pos h5])
 have c5:(e.op == 5)=false:=by simpa using h5
 by_cases h6:e.op=6
 ·have c6:(e.op == 6)=true:=by simpa using h6
  have en:=AUB w0
  have har:=WR G 8 (by omega) ⟨0,0⟩ (vs.getD 0 GV) (by decide) w0 H
  rw [en] at har
  simp -implicitDefEqProofs only [ER,jI,BB,A8,BI,A7,DI,DN,AZ,BA,AL,BD,AY,AC,AA,AX,AU,BN,BH,BJ,BC,FI,BO,BU,CG,BV,BP,AB,CX,jF,jD,jE,↓reduceIte,jA,jB,jC,enP,JO,c1,c2,c3,c24,c4,c5,c6,f7,x0,d0,ASI]
  refine har.use ?_
  simp -implicitDefEqProofs only [jI,BK,A7,CJ,D8,AZ,BA,AL,BD,AY,AC,DU,AA,AX,CU,BZ,↓reduceIte,jA,jC,enP,jK,f6,z.st]
  exact fin (by simp -implicitDefEqProofs only [AA,↓reduceIte,jA,f6]) (by unfold opR; rw [if_neg h4,if_neg h5,if_pos h6])
 have c6:(e.op == 6)=false:=by simpa using h6
 by_cases h25:e.op=25
 ·have c25:(e.op == 25)=true:=by simpa using h25
  obtain ⟨v0,v1,v2⟩:=w0
  have dl:=ldl 0 len1
  have dh:=ldh 0 len1
  have cX : ∀ k:Int,k≠25→(e.op == k)=false:=fun k hk=>by rw [h25]; simpa using hk.symm
  simp -implicitDefEqProofs only [jI,BB,A8,BR,BI,A7,EO,DN,AZ,BA,AL,BD,AY,AC,AA,AX,AU,BN,BH,BJ,BC,BO,BU,CG,BV,BP,AB,CX,jF,jD,jE,↓reduceIte,jA,jB,jC,enP,JO,c1,c2,c3,c24,c4,c5,c6,cX 7 (by decide),cX 8 (by decide),cX 9 (by decide),cX 10 (by decide),cX 11 (by decide),cX 12 (by decide),cX 13 (by decide),cX 14 (by decide),cX 15 (by decide),cX 16 (by decide),cX 17 (by decide),cX 18 (by decide),cX 19 (by decide),cX 20 (by decide),cX 21 (by decide),cX 22 (by decide),cX 23 (by decide),f7,x0,d0]
  refine (SL G _ _).use ?_
  simp -implicitDefEqProofs only [BI,A7,BA,AC,AA,AX,↓reduceIte]
  refine CQ (fun hq => ?_) (fun hq => ?_)
  ·have hon:=AP9 G (vs.getD 0 GV).lo.toNat (by omega) H
   rw [Int.toNat_of_nonneg v0] at hon
   simp -implicitDefEqProofs only [jI,BB,A8,AZ,AL,BD,AY,AC,AA,AX,AU,BN,BH,BJ,BO,BG,CG,BV,BP,AB,jF,jD,jE,↓reduceIte,jA,jH,jB,jC,enP,JO,FB,f7,x0,dl]
   refine hon.use ?_
   simp -implicitDefEqProofs only [ER,EP,jI,BB,A8,BK,A7,CJ,AZ,BA,AL,BD,AY,AC,DU,AA,AX,BJ,BC,FI,CU,AB,BZ,↓reduceIte,jA,jB,jC,enP,jK,KR,f6,z.st]
   exact fin (by simp -implicitDefEqProofs only [AA,↓reduceIte,jA,f6]) (by unfold opR AA4; rw [if_neg h4,if_neg h5,if_neg h6,if_pos h25,if_pos hq]; rfl)
  ·have hdg:=AKW G (vs.getD 0 GV).hi.toNat (by omega) H
   rw [Int.toNat_of_nonneg (by omega)] at hdg
   simp -implicitDefEqProofs only [BB,BR,A7]
   refine EK (by kernel_rfl) ?_
   simp -implicitDefEqProofs only [ET,ER,EP,jI,DK,CY,DL,EH,KT,EC,C9,D9,MV,EI,EE,AA,AX,AU,BN,BH,FI,BO,BG,CG,TK,AB,O6,jF,jD,jE,↓reduceIte,jA,jL,jH,jG,jB,enP,JO,FB,FN,f7,x0,dl,dh]
   refine ⟨_,hdg,?_⟩
   simp -implicitDefEqProofs only [ET,jI,DK,CY,FK,D7,DL,FH,BK,A7,AA,AX,CU,AB,BZ,↓reduceIte,jA,jG,enP,jK,KR,f6,z.st]
   exact fin (by simp -implicitDefEqProofs only [AA,↓reduceIte,jA,f6]) (by unfold opR AA4; rw [if_neg h4,if_neg h5,if_neg h6,if_pos h25,if_neg (by rw [hq]; decide)])
 have c25:(e.op == 25)=false:=by simpa using h25
 by_cases h22:e.op=22
 ·have hv3:vs.length=3:=by rw [hvl,ar3 h22]
  have cX : ∀ k:Int,k≠22→(e.op == k)=false:=fun k hk=>by rw [h22]; simpa using hk.symm
  have c22:(e.op == 22)=true:=by simpa using h22
  have x1:I4 2 H (.own ob 0 vs.length) (.int .i64 1)=some (.ptr ob 1 0):=ix 1 (by omega)
  have x2:I4 2 H (.own ob 0 vs.length) (.int .i64 2)=some (.ptr ob 2 0):=ix 2 (by omega)
  have hop':opR e.op vs=Y3 (vs.getD 0 GV) (vs.getD 1 GV) (vs.getD 2 GV):=by unfold opR; rw [if_neg h4,if_neg h5,if_neg h6,if_neg h25,if_pos h22]
  rw [hop'] at fin
  have tF:=ADU w0
  simp -implicitDefEqProofs only [jI,BB,A8,BI,A7,DI,DN,AZ,BA,AL,BD,AY,AC,AA,AX,AU,BN,BH,BJ,BC,BO,BU,CG,BV,BP,AB,CX,jF,jD,jE,↓reduceIte,jA,jB,jC,enP,JO,c1,c2,c3,c24,c4,c5,c6,cX 7 (by decide),cX 8 (by decide),cX 9 (by decide),cX 10 (by decide),cX 11 (by decide),cX 12 (by decide),cX 13 (by decide),cX 14 (by decide),cX 15 (by decide),cX 16 (by decide),cX 17 (by decide),cX 18 (by decide),cX 19 (by decide),cX 20 (by decide),cX 21 (by decide),c22,f7,x0,d0]
  refine (KX G _ _).use ?_
  cases hT:isT (vs.getD 0 GV)
  ·cases hF:isF (vs.getD 0 GV)
   ·have e:tri false false=2:=rfl
    rw [e]
    simp -implicitDefEqProofs only [jI,BB,CE,A8,BR,BI,A7,EO,DN,AZ,BA,AL,BD,AY,AC,AA,AX,AU,BH,BC,BU,AB,CX,↓reduceIte,jA,jB,jC,enP,jS]
    refine EK (by kernel_rfl) ?_
    simp -implicitDefEqProofs only [ET,ER,EP,jI,DK,CY,FK,D7,DL,EH,KT,EC,FH,C9,D9,MV,BK,A7,CJ,D8,AA,AX,AU,BH,FI,BO,CU,BG,CG,Q8,TK,AB,BZ,NU,O6,↓reduceIte,jA,jL,jH,jG,jB,enP,JO,FB,FN,jK,f7,x1,x2,ldl 1 (by omega),ldh 1 (by omega),ldl 2 (by omega),ldh 2 (by omega),KR,f6,z.st]
    exact fin (by simp -implicitDefEqProofs only [AA,↓reduceIte,jA,f6]) (by unfold Y3; rw [hT,hF]; rfl)
   ·have e:tri false true=0:=rfl
    rw [e]
    simp -implicitDefEqProofs only [jI,BB,CE,A8,BK,BI,A7,CJ,D8,DI,AZ,BA,AL,BD,AY,AC,DU,AA,AX,AU,BH,BJ,BC,BO,CU,BU,CG,AB,BZ,CX,↓reduceIte,jA,jB,jC,enP,JO,jK,jS,f7,x2,ld 2 (by omega),f6,z.st]
    exact fin (by simp -implicitDefEqProofs only [AA,↓reduceIte,jA,f6]) (by unfold Y3; rw [hT,hF]; rfl)
  ·have e:tri true (isF (vs.getD 0 GV))=1:=rfl
   rw [e]
   simp -implicitDefEqProofs only [jI,BB,CE,A8,BK,BI,A7,CJ,D8,DI,DN,AZ,BA,AL,BD,AY,AC,DU,AA,AX,AU,BH,BJ,BC,BO,CU,BU,CG,AB,BZ,CX,↓reduceIte,jA,jB,jC,enP,JO,jK,jS,f7,x1,ld 1 (by omega),f6,z.st]
   exact fin (by simp -implicitDefEqProofs only [AA,↓reduceIte,jA,f6]) (by unfold Y3; rw [hT]; rfl)
 have c22:(e.op == 22)=false:=by simpa using h22
 by_cases h23:e.op=23
 ·have cX : ∀ k:Int,k≠23→(e.op == k)=false:=fun k hk=>by rw [h23]; simpa using hk.symm
  have c23:(e.op == 23)=true:=by simpa using h23
  have hop':opR e.op vs=QK (vs.getD 0 GV) true (vs.drop 1):=by unfold opR; rw [if_neg h4,if_neg h5,if_neg h6,if_neg h25,if_neg h22,if_pos h23]
  rw [hop',AQ0] at fin
  simp -implicitDefEqProofs only [jI,BB,A8,BI,A7,DI,DN,AZ,BA,AL,BD,AY,AC,AA,AX,AU,BN,BH,BJ,BC,BU,BV,BP,AB,CX,jF,jD,jE,↓reduceIte,jA,jB,jC,enP,c1,c2,c3,c24,c4,c5,c6,cX 7 (by decide),cX 8 (by decide),cX 9 (by decide),cX 10 (by decide),cX 11 (by decide),cX 12 (by decide),cX 13 (by decide),cX 14 (by decide),cX 15 (by decide),cX 16 (by decide),cX 17 (by decide),cX 18 (by decide),cX 19 (by decide),cX 20 (by decide),cX 21 (by decide),c22,c23,f7]
  refine (AUR G vs ob H go (by omega) (by omega)).use ?_
  simp -implicitDefEqProofs only [jI,AZ,AL,BD,AY,AC,AA,AX,BN,BV,BP,jF,jD,jE,↓reduceIte,jB,jC]
  refine (truth_ref G _ _ _).use ?_
  simp -implicitDefEqProofs only [jI,BK,A7,CJ,D8,AZ,BA,AL,BD,AY,AC,DU,AA,AX,CU,BZ,↓reduceIte,jA,jC,enP,jK,f6,z.st]
  exact fin (by simp -implicitDefEqProofs only [AA,↓reduceIte,jA,f6]) rfl
 have c23:(e.op == 23)=false:=by simpa using h23
 have hop:7≤e.op∧e.op≤21:=by omega
 have hv2:vs.length=2:=by rw [hvl,ar2 hop.1 hop.2]
 have x1:I4 2 H (.own ob 0 vs.length) (.int .i64 1)=some (.ptr ob 1 0):=ix 1 (by omega)
 have d1:=ld 1 (by omega)
 have hop':opR e.op vs=J4 e.op (vs.getD 0 GV) (vs.getD 1 GV):=by unfold opR; rw [if_neg h4,if_neg h5,if_neg h6,if_neg h25,if_neg h22,if_neg h23]
 rw [hop'] at fin
 have seven : ∀ {op:Int},e.op=op→(op=7∨op=8∨op=9)→True:=fun _ _=>trivial
 clear seven
 simp -implicitDefEqProofs only [jI,BB,A8,BI,A7,DN,AZ,BA,AL,BD,AY,AC,AA,AX,AU,BH,BC,BU,AB,CX,↓reduceIte,jA,jB,jC,enP,c1,c2,c3,c24,c4,c5,c6]
 rcases (show e.op=7∨e.op=8∨e.op=9∨e.op=10∨e.op=11∨e.op=12∨e.op=13∨e.op=14∨e.op=15∨e.op=16∨e.op=17∨e.op=18∨e.op=19∨e.op=20∨e.op=21 by omega) with ho | ho | ho | ho | ho | ho | ho | ho | ho | ho | ho | ho | ho | ho | ho
 ·rw [ho] at fin l0 ⊢
  simp -implicitDefEqProofs only [BB,BR,BI,A7,DI,AA,AX,↓reduceIte,jS]
  refine EK (by kernel_rfl) ?_
  simp -implicitDefEqProofs only [ET,jI,DK,CY,DL,EH,EC,FH,C9,D9,EI,EE,AA,AX,AU,BN,BH,BO,CU,BG,CG,AB,jF,jD,jE,↓reduceIte,jA,jL,jH,jG,jB,enP,JO,FU,jK,f3,l0,f7,x0,d0,x1,d1]
  refine ⟨_,WR G 7 (by omega) _ _ w0 w1 _,?_⟩
  simp -implicitDefEqProofs only [FK,D7,BK,A7,CJ,D8,BZ,f6,z.st]
  exact fin (by simp -implicitDefEqProofs only [AA,↓reduceIte,jA,f6]) rfl
 ·rw [ho] at fin l0 ⊢
  simp -implicitDefEqProofs only [jI,BB,A8,BR,BI,A7,DI,DN,AZ,BA,AL,BD,AY,AC,AA,AX,AU,BH,BC,BU,AB,CX,↓reduceIte,jA,jB,jC,enP,jS]
  refine EK (by kernel_rfl) ?_
  simp -implicitDefEqProofs only [ET,jI,DK,CY,DL,EH,EC,FH,C9,D9,EI,EE,AA,AX,AU,BN,BH,BO,CU,BG,CG,AB,jF,jD,jE,↓reduceIte,jA,jL,jH,jG,jB,enP,JO,FU,jK,f3,l0,f7,x0,d0,x1,d1]
  refine ⟨_,WR G 8 (by omega) _ _ w0 w1 _,?_⟩
  simp -implicitDefEqProofs only [FK,D7,BK,A7,CJ,D8,BZ,f6,z.st]
  exact fin (by simp -implicitDefEqProofs only [AA,↓reduceIte,jA,f6]) rfl
 ·rw [ho] at fin l0 ⊢
  simp -implicitDefEqProofs only [jI,BB,A8,BI,A7,DI,DN,AZ,BA,AL,BD,AY,AC,AA,AX,AU,BH,BC,BU,AB,CX,↓reduceIte,jA,jB,jC,enP,jS]
  refine EK (by kernel_rfl) ?_
  simp -implicitDefEqProofs only [ET,jI,DK,CY,DL,EH,EC,FH,C9,D9,EI,EE,AA,AX,AU,BN,BH,BO,CU,BG,CG,AB,jF,jD,jE,↓reduceIte,jA,jL,jH,jG,jB,enP,JO,FU,jK,f3,l0,f7,x0,d0,x1,d1]
  refine ⟨_,WR G 9 (by omega) _ _ w0 w1 _,?_⟩
  simp -implicitDefEqProofs only [FK,D7,BK,A7,CJ,D8,BZ,f6,z.st]
  exact fin (by simp -implicitDefEqProofs only [AA,↓reduceIte,jA,f6]) rfl
 ·rw [ho] at fin l0 ⊢
  simp -implicitDefEqProofs only [jI,BB,A8,BR,BI,A7,DI,DN,AZ,BA,AL,BD,AY,AC,AA,AX,AU,BH,BC,BU,AB,CX,↓reduceIte,jA,jB,jC,enP,jS]
  refine EK (by kernel_rfl) ?_
  simp -implicitDefEqProofs only [ET,jI,DK,CY,DL,EH,EC,FH,C9,D9,EI,EE,AA,AX,AU,BN,BH,BO,CU,BG,CG,AB,jF,jD,jE,↓reduceIte,jA,jL,jH,jG,jB,enP,JO,FU,jK,f3,l0,f7,x0,d0,x1,d1]
  refine ⟨_,bit_ref G 10 (by omega) _ _ w0 w1 _,?_⟩
  simp -implicitDefEqProofs only [FK,D7,BK,A7,CJ,D8,BZ,f6,z.st]
  exact fin (by simp -implicitDefEqProofs only [AA,↓reduceIte,jA,f6]) rfl
 ·rw [ho] at fin l0 ⊢
  simp -implicitDefEqProofs only [jI,BB,A8,BR,BI,A7,DI,DN,AZ,BA,AL,BD,AY,AC,AA,AX,AU,BH,BC,BU,AB,CX,↓reduceIte,jA,jB,jC,enP,jS]
  refine EK (by kernel_rfl) ?_
  simp -implicitDefEqProofs only [ET,jI,DK,CY,DL,EH,EC,FH,C9,D9,EI,EE,AA,AX,AU,BN,BH,BO,CU,BG,CG,AB,jF,jD,jE,↓reduceIte,jA,jL,jH,jG,jB,enP,JO,FU,jK,f3,l0,f7,x0,d0,x1,d1]
  refine ⟨_,bit_ref G 11 (by omega) _ _ w0 w1 _,?_⟩
  simp -implicitDefEqProofs only [FK,D7,BK,A7,CJ,D8,BZ,f6,z.st]
  exact fin (by simp -implicitDefEqProofs only [AA,↓reduceIte,jA,f6]) rfl
 ·rw [ho] at fin l0 ⊢
  simp -implicitDefEqProofs only [jI,BB,A8,BI,A7,DI,DN,AZ,BA,AL,BD,AY,AC,AA,AX,AU,BH,BC,BU,AB,CX,↓reduceIte,jA,jB,jC,enP,jS]
  refine EK (by kernel_rfl) ?_
  simp -implicitDefEqProofs only [ET,jI,DK,CY,DL,EH,EC,FH,C9,D9,EI,EE,AA,AX,AU,BN,BH,BO,CU,BG,CG,AB,jF,jD,jE,↓reduceIte,jA,jL,jH,jG,jB,enP,JO,FU,jK,f3,l0,f7,x0,d0,x1,d1]
  refine ⟨_,bit_ref G 12 (by omega) _ _ w0 w1 _,?_⟩
  simp -implicitDefEqProofs only [FK,D7,BK,A7,CJ,D8,BZ,f6,z.st]
  exact fin (by simp -implicitDefEqProofs only [AA,↓reduceIte,jA,f6]) rfl
 ·rw [ho] at fin l0 ⊢
  simp -implicitDefEqProofs only [jI,BB,A8,BR,BI,A7,DI,DN,AZ,BA,AL,BD,AY,AC,AA,AX,AU,BH,BC,BU,AB,CX,↓reduceIte,jA,jB,jC,enP,jS]
  refine EK (by kernel_rfl) ?_
  simp -implicitDefEqProofs only [ET,jI,DK,CY,DL,EH,EC,FH,C9,D9,EI,EE,AA,AX,AU,BN,BH,BO,CU,BG,CG,AB,jF,jD,jE,↓reduceIte,jA,jL,jH,jG,jB,enP,JO,FU,jK,f3,l0,f7,x0,d0,x1,d1]
  refine ⟨_,AD8 G 13 (by omega) _ _ w0 w1 _,?_⟩
  simp -implicitDefEqProofs only [FK,D7,BK,A7,CJ,D8,BZ,f6,z.st]
  exact fin (by simp -implicitDefEqProofs only [AA,↓reduceIte,jA,f6]) rfl
 ·rw [ho] at fin l0 ⊢
  simp -implicitDefEqProofs only [jI,BB,A8,BI,A7,DI,DN,AZ,BA,AL,BD,AY,AC,AA,AX,AU,BH,BC,BU,AB,CX,↓reduceIte,jA,jB,jC,enP,jS]
  refine EK (by kernel_rfl) ?_
  simp -implicitDefEqProofs only [ET,jI,DK,CY,DL,EH,EC,FH,C9,D9,EI,EE,AA,AX,AU,BN,BH,BO,CU,BG,CG,AB,jF,jD,jE,↓reduceIte,jA,jL,jH,jG,jB,enP,JO,FU,jK,f3,l0,f7,x0,d0,x1,d1]
  refine ⟨_,AD8 G 14 (by omega) _ _ w0 w1 _,?_⟩
  simp -implicitDefEqProofs only [FK,D7,BK,A7,CJ,D8,BZ,f6,z.st]
  exact fin (by simp -implicitDefEqProofs only [AA,↓reduceIte,jA,f6]) rfl
 ·rw [ho] at fin l0 ⊢
  simp -implicitDefEqProofs only [jI,BB,A8,BR,BI,A7,DI,DN,AZ,BA,AL,BD,AY,AC,AA,AX,AU,BH,BC,BU,AB,CX,↓reduceIte,jA,jB,jC,enP,jS]
  refine EK (by kernel_rfl) ?_
  simp -implicitDefEqProofs only [ET,jI,DK,CY,DL,EH,EC,FH,C9,D9,EI,EE,AA,AX,AU,BN,BH,BO,CU,BG,CG,AB,jF,jD,jE,↓reduceIte,jA,jL,jH,jG,jB,enP,JO,FU,jK,f3,l0,f7,x0,d0,x1,d1]
  refine ⟨_,ABL G 15 (by omega) _ _ w0 w1 _,?_⟩
  try simp -implicitDefEqProofs only []
  refine ⟨_,truth_ref G _ _ _,?_⟩
  simp -implicitDefEqProofs only [FK,D7,BK,A7,CJ,D8,BZ,f6,z.st]
  exact fin (by simp -implicitDefEqProofs only [AA,↓reduceIte,jA,f6]) (AGE (by omega) _ _).symm
 ·rw [ho] at fin l0 ⊢
  simp -implicitDefEqProofs only [jI,BB,A8,BR,BI,A7,DI,DN,AZ,BA,AL,BD,AY,AC,AA,AX,AU,BH,BC,BU,AB,CX,↓reduceIte,jA,jB,jC,enP,jS]
  refine EK (by kernel_rfl) ?_
  simp -implicitDefEqProofs only [ET,jI,DK,CY,DL,EH,EC,FH,C9,D9,EI,EE,AA,AX,AU,BN,BH,BO,CU,BG,CG,AB,jF,jD,jE,↓reduceIte,jA,jL,jH,jG,jB,enP,JO,FU,jK,f3,l0,f7,x0,d0,x1,d1]
  refine ⟨_,ABL G 16 (by omega) _ _ w0 w1 _,?_⟩
  try simp -implicitDefEqProofs only []
  refine ⟨_,truth_ref G _ _ _,?_⟩
  simp -implicitDefEqProofs only [FK,D7,BK,A7,CJ,D8,BZ,f6,z.st]
  exact fin (by simp -implicitDefEqProofs only [AA,↓reduceIte,jA,f6]) (AGE (by omega) _ _).symm
 ·rw [ho] at fin l0 ⊢
  simp -implicitDefEqProofs only [jI,BB,A8,BR,BI,A7,DI,DN,AZ,BA,AL,BD,AY,AC,AA,AX,AU,BH,BC,BU,AB,CX,↓reduceIte,jA,jB,jC,enP,jS]
  refine EK (by kernel_rfl) ?_
  simp -implicitDefEqProofs only [ET,jI,DK,CY,DL,EH,EC,FH,C9,D9,EI,EE,AA,AX,AU,BN,BH,BO,CU,BG,CG,AB,jF,jD,jE,↓reduceIte,jA,jL,jH,jG,jB,enP,JO,FU,jK,f3,l0,f7,x0,d0,x1,d1]
  refine ⟨_,ABL G 17 (by omega) _ _ w0 w1 _,?_⟩
  try simp -implicitDefEqProofs only []
  refine ⟨_,truth_ref G _ _ _,?_⟩
  simp -implicitDefEqProofs only [FK,D7,BK,A7,CJ,D8,BZ,f6,z.st]
  exact fin (by simp -implicitDefEqProofs only [AA,↓reduceIte,jA,f6]) (AGE (by omega) _ _).symm
 ·rw [ho] at fin l0 ⊢
  simp -implicitDefEqProofs only [jI,BB,A8,BI,A7,DI,DN,AZ,BA,AL,BD,AY,AC,AA,AX,AU,BH,BC,BU,AB,CX,↓reduceIte,jA,jB,jC,enP,jS]
  refine EK (by kernel_rfl) ?_
  simp -implicitDefEqProofs only [ET,jI,DK,CY,DL,EH,EC,FH,C9,D9,EI,EE,AA,AX,AU,BN,BH,BO,CU,BG,CG,AB,jF,jD,jE,↓reduceIte,jA,jL,jH,jG,jB,enP,JO,FU,jK,f3,l0,f7,x0,d0,x1,d1]
  refine ⟨_,ABL G 18 (by omega) _ _ w0 w1 _,?_⟩
  try simp -implicitDefEqProofs only []
  refine ⟨_,truth_ref G _ _ _,?_⟩
  simp -implicitDefEqProofs only [FK,D7,BK,A7,CJ,D8,BZ,f6,z.st]
  exact fin (by simp -implicitDefEqProofs only [AA,↓reduceIte,jA,f6]) (AGE (by omega) _ _).symm
 ·rw [ho] at fin l0 ⊢
  simp -implicitDefEqProofs only [jI,BB,A8,BR,BI,A7,DI,DN,AZ,BA,AL,BD,AY,AC,AA,AX,AU,BH,BC,BU,AB,CX,↓reduceIte,jA,jB,jC,enP,jS]
  refine EK (by kernel_rfl) ?_
  simp -implicitDefEqProofs only [ET,jI,DK,CY,DL,EH,EC,FH,C9,D9,EI,EE,AA,AX,AU,BN,BH,BO,CU,BG,CG,AB,jF,jD,jE,↓reduceIte,jA,jL,jH,jG,jB,enP,JO,FU,jK,f3,l0,f7,x0,d0,x1,d1]
  refine ⟨_,KX G _ _,?_⟩
  try simp -implicitDefEqProofs only [f7,x1,d1]
  refine ⟨_,KX G _ _,?_⟩
  try simp -implicitDefEqProofs only []
  refine ⟨_,AFS G 19 (by omega) _ _ _ _ (ADU w0) (ADU w1) _,?_⟩
  try simp -implicitDefEqProofs only []
  refine ⟨_,truth_ref G _ _ _,?_⟩
  simp -implicitDefEqProofs only [FK,D7,BK,A7,CJ,D8,BZ,f6,z.st]
  exact fin (by simp -implicitDefEqProofs only [AA,↓reduceIte,jA,f6]) (AKB (by omega) _ _).symm
 ·rw [ho] at fin l0 ⊢
  simp -implicitDefEqProofs only [jI,BB,A8,BR,BI,A7,DI,DN,AZ,BA,AL,BD,AY,AC,AA,AX,AU,BH,BC,BU,AB,CX,↓reduceIte,jA,jB,jC,enP,jS]
  refine EK (by kernel_rfl) ?_
  simp -implicitDefEqProofs only [ET,jI,DK,CY,DL,EH,EC,FH,C9,D9,EI,EE,AA,AX,AU,BN,BH,BO,CU,BG,CG,AB,jF,jD,jE,↓reduceIte,jA,jL,jH,jG,jB,enP,JO,FU,jK,f3,l0,f7,x0,d0,x1,d1]
  refine ⟨_,KX G _ _,?_⟩
  try simp -implicitDefEqProofs only [f7,x1,d1]
  refine ⟨_,KX G _ _,?_⟩
  try simp -implicitDefEqProofs only []
  refine ⟨_,AFS G 20 (by omega) _ _ _ _ (ADU w0) (ADU w1) _,?_⟩
  try simp -implicitDefEqProofs only []
  refine ⟨_,truth_ref G _ _ _,?_⟩
  simp -implicitDefEqProofs only [FK,D7,BK,A7,CJ,D8,BZ,f6,z.st]
  exact fin (by simp -implicitDefEqProofs only [AA,↓reduceIte,jA,f6]) (AKB (by omega) _ _).symm
 ·rw [ho] at fin l0 ⊢
  simp -implicitDefEqProofs only [jI,BB,A8,BI,A7,DI,DN,AZ,BA,AL,BD,AY,AC,AA,AX,AU,BH,BC,BU,AB,CX,↓reduceIte,jA,jB,jC,enP,jS]
  refine EK (by kernel_rfl) ?_
  simp -implicitDefEqProofs only [ET,jI,DK,CY,DL,EH,EC,FH,C9,D9,EI,EE,AA,AX,AU,BN,BH,BO,CU,BG,CG,AB,jF,jD,jE,↓reduceIte,jA,jL,jH,jG,jB,enP,JO,FU,jK,f3,l0,f7,x0,d0,x1,d1]
  refine ⟨_,KX G _ _,?_⟩
  try simp -implicitDefEqProofs only [f7,x1,d1]
  refine ⟨_,KX G _ _,?_⟩
  try simp -implicitDefEqProofs only []
  refine ⟨_,AFS G 21 (by omega) _ _ _ _ (ADU w0) (ADU w1) _,?_⟩
  try simp -implicitDefEqProofs only []
  refine ⟨_,truth_ref G _ _ _,?_⟩
  simp -implicitDefEqProofs only [FK,D7,BK,A7,CJ,D8,BZ,f6,z.st]
  exact fin (by simp -implicitDefEqProofs only [AA,↓reduceIte,jA,f6]) (AKB (by omega) _ _).symm
end
section
variable (G:Nat→AV)
set_option maxHeartbeats 1000000 in
theorem Eval_ref (e:Ex) (he:wt e≤1048576) (p:Pr) (hs:PrS p) (l:List Rng) (m:SM) (hl:l.length≤1048576) (h:Hp):PCall (En G) 23 [.agg (CW e),.agg (DY p),.sl m 2 (l.map encR)] h (.agg (encR (evP e p l))):=by
 refine JW 2 (fun n H=>rfl) ?_
 refine acN Tryz.func23 rfl ?_
 show awp _ _ _ _ _ (EN _ [.cell 6 34] _)
 have z:Z0 h (h ++ [ABlk.live 4 [CW e]] ++ [ABlk.live 5 [DY p]] ++ [ABlk.live 2 [zR]]) (h ++ [ABlk.live 4 [CW e]] ++ [ABlk.live 5 [DY p]]).length:=⟨DF _ _,(((ext.rfl' h).app _).app _).app _,by simp⟩
 have ge:=DC (x:=ABlk.live 2 [zR]) (DC (x:=ABlk.live 5 [DY p]) (DF h (ABlk.live 4 [CW e])))
 have gp:=DC (x:=ABlk.live 2 [zR]) (DF (h ++ [ABlk.live 4 [CW e]]) (ABlk.live 5 [DY p]))
 simp -implicitDefEqProofs only [BB,A8,A7,AZ,BA,AO,AQ,AL,BD,AY,AC,AA,AX,EZ,FQ,BO,CB,BF,BQ,↓reduceIte,jA,jB,jC,enP,bxE,QP,KG]
 generalize h ++ [ABlk.live 4 [CW e]] ++ [ABlk.live 5 [DY p]] ++ [ABlk.live 2 [zR]]=H at z ge gp ⊢
 generalize (h ++ [ABlk.live 4 [CW e]] ++ [ABlk.live 5 [DY p]]).length=bz at z ge gp ⊢
 generalize (h ++ [ABlk.live 4 [CW e]]).length=pb at z ge gp ⊢
 generalize h.length=eb at z ge gp ⊢
 simp -implicitDefEqProofs only [AZ,AO,AQ,AL,BD,AY,AC,AA,AX,BN,BV,BP,AB,jF,jD,jE,↓reduceIte,jB,jC,G6 ge]
 refine (UR G e H (AE6 he)).use ?_
 simp -implicitDefEqProofs only [AZ,BL,BX,CO,AO,AQ,AL,BD,AY,AC,AA,AX,AU,BH,BJ,BU,AB,FT,↓reduceIte,jB,jC,enP]
 refine IA (fun h1 => ?_) (fun h1 => ?_)
 ·have h1':exE e≠0:=by simpa using h1
  simp -implicitDefEqProofs only [BB,A8,BI,A7,DI,AZ,BA,BL,BX,CO,F7,AO,AQ,AL,BD,AY,AC,AA,EQ,AX,AU,BN,BM,BJ,CP,DW,BV,BP,jD,jE,↓reduceIte,jA,jB,jC,h1]
  refine (OY G _).use ?_
  simp -implicitDefEqProofs only [BK,A7,CJ,AZ,BA,AO,AQ,AL,BD,AY,AC,DU,AA,AX,CU,BZ,↓reduceIte,jA,jC,enP,jK,z.st]
  exact z.out (by simp -implicitDefEqProofs only [AA,↓reduceIte,jA]) (by unfold evP; rw [if_pos (.inl h1')])
 have h1':exE e=0:=by simpa using h1
 simp -implicitDefEqProofs only [BL,BX,CO,EY,AO,AQ,AL,BD,AY,AC,AA,AX,BN,BO,BV,BP,AB,jF,jD,jE,↓reduceIte,jA,jB,jC,enP,h1,J3 gp]
 refine (ZF G p hs H).use ?_
 simp -implicitDefEqProofs only [AZ,BL,BX,CO,EY,AO,AQ,AL,BD,AY,AC,AA,AX,AU,BH,BM,BJ,CP,DZ,BU,AB,FT,↓reduceIte,jA,jB,jC,enP,h1]
 refine IA (fun h2 => ?_) (fun h2 => ?_)
 ·have h2':KP p≠0:=by simpa using h2
  simp -implicitDefEqProofs only [BB,A8,BI,A7,DI,AZ,BA,BL,BX,CO,F7,AO,AQ,AL,BD,AY,AC,AA,EQ,AX,AU,BN,BM,CP,DW,BV,BP,jD,jE,↓reduceIte,jA,jB,jC,h2]
  refine (OY G _).use ?_
  simp -implicitDefEqProofs only [BK,A7,CJ,AZ,BA,AO,AQ,AL,BD,AY,AC,DU,AA,AX,CU,BZ,↓reduceIte,jA,jC,enP,jK,z.st]
  exact z.out (by simp -implicitDefEqProofs only [AA,↓reduceIte,jA]) (by unfold evP; rw [if_pos (.inr (.inl h2'))])
 have h2':KP p=0:=by simpa using h2
 simp -implicitDefEqProofs only [BL,BX,CO,EY,AO,AQ,AL,BD,AY,AC,AA,AX,BN,BJ,BO,BV,BP,AB,BF,BQ,jF,jD,jE,↓reduceIte,jA,jB,jC,enP,h2,J3 gp]
 refine (ACK G p hs l m hl H).use ?_
 simp -implicitDefEqProofs only [BI,A7,AZ,BA,BL,BX,CO,EY,AO,AQ,AL,BD,AY,AC,AA,AX,AU,BM,CP,DZ,JG,AB,GG,↓reduceIte,jA,jB,jC,h2]
 cases h3:MH p.vars l
 ·simp -implicitDefEqProofs only [BB,A8,DI,AZ,AO,AQ,AL,BD,AY,BN,BV,BP,jD,jE,jB,jC]
  refine (OY G _).use ?_
  simp -implicitDefEqProofs only [BK,A7,CJ,AZ,BA,AO,AQ,AL,BD,AY,AC,DU,AA,AX,CU,BZ,↓reduceIte,jA,jC,enP,jK,z.st]
  exact z.out (by simp -implicitDefEqProofs only [AA,↓reduceIte,jA]) (by unfold evP; rw [if_pos (.inr (.inr h3))])
 have hev:evP e p l=evS p.vars l e:=by unfold evP; rw [if_neg (by rw [h1',h2',h3]; simp)]
 obtain ⟨hw,hll⟩:=JD.1 h3
 simp -implicitDefEqProofs only [BB,A8,BR,A7,DN,AZ,AO,AQ,AL,BD,AY,AC,AA,AX,BN,BJ,BO,BV,BP,AB,BF,BQ,jF,jD,jE,↓reduceIte,jA,jB,jW,jC,enP,G6 ge,J3 gp]
 refine (YV G p hs l hll hl hw e (by have:=QI e; omega) (PK h1') H (.sl m 2 (l.map encR)) (.inl ⟨m,rfl⟩)).use ?_
 simp -implicitDefEqProofs only [BK,A7,AZ,BA,AO,AQ,AL,BD,AY,AC,DU,AA,AX,CU,BZ,↓reduceIte,jA,jC,enP,jK,z.st]
 exact z.out (by simp -implicitDefEqProofs only [AA,↓reduceIte,jA]) hev.symm
theorem ALP (e:Ex) (he:wt e≤1048576) (p:Pr) (hs:PrS p) (l:List Rng) (m:SM) (hl:l.length≤1048576) (h:Hp):PCall (En G) 25 [.agg (CW e),.agg (DY p),.sl m 2 (l.map encR)] h (.bool (isT (evP e p l))):=by
 refine ACalls.pure0 rfl ?_
 refine acN Tryz.func25 rfl ?_
 show awp _ _ _ _ _ (EN _ [.tmp 6] _)
 have ge:=DC (x:=ABlk.live 5 [DY p]) (DF h (ABlk.live 4 [CW e]))
 have gp:=DF (h ++ [ABlk.live 4 [CW e]]) (ABlk.live 5 [DY p])
 have hx:=((ext.rfl' h).app [ABlk.live 4 [CW e]]).app [ABlk.live 5 [DY p]]
 have e1 : ∀ x y:Bool,((tri x y) == 1)=x:=by decide
 simp -implicitDefEqProofs only [BB,A8,A7,AZ,BA,AO,AQ,AL,BD,AY,AC,AA,AX,AU,BN,BM,BJ,BC,FQ,BO,BV,BP,CB,AB,BF,BQ,jF,jD,jE,↓reduceIte,jA,jB,jC,enP,bxE,QP,G6 ge,J3 gp]
 refine (Eval_ref G e he p hs l m hl _).use ?_
 simp -implicitDefEqProofs only [AZ,AO,AQ,AL,BD,AY,AC,AA,AX,BN,BV,BP,jF,jD,jE,↓reduceIte,jB,jC]
 refine (KX G _ _).use ?_
 simp -implicitDefEqProofs only [BK,A7,CV,AZ,BA,AO,AQ,AL,BD,AY,AC,AA,AX,AU,BH,BC,BU,AB,CX,↓reduceIte,jB,jC,enP,e1]
 exact ⟨by trivial,hx⟩
theorem AOZ (e:Ex) (he:wt e≤1048576) (p:Pr) (hs:PrS p) (l:List Rng) (m:SM) (hl:l.length≤1048576) (h:Hp):PCall (En G) 27 [.agg (CW e),.agg (DY p),.sl m 2 (l.map encR)] h (.bool (isF (evP e p l))):=by
 refine ACalls.pure0 rfl ?_
 refine acN Tryz.func27 rfl ?_
 show awp _ _ _ _ _ (EN _ [.tmp 6] _)
 have ge:=DC (x:=ABlk.live 5 [DY p]) (DF h (ABlk.live 4 [CW e]))
 have gp:=DF (h ++ [ABlk.live 4 [CW e]]) (ABlk.live 5 [DY p])
 have hx:=((ext.rfl' h).app [ABlk.live 4 [CW e]]).app [ABlk.live 5 [DY p]]
 have e0 : ∀ x y:Bool,((tri x y) == 0)=(!x && y):=by decide
 have htf:=ADU (APG e p l)
 have e2:(!(isT (evP e p l)) && isF (evP e p l))=isF (evP e p l):=by
  cases q:isT (evP e p l)
  ·rfl
  ·rw [htf q]; rfl
 simp -implicitDefEqProofs only [BB,A8,A7,AZ,BA,AO,AQ,AL,BD,AY,AC,AA,AX,AU,BN,BM,BJ,BC,FQ,BO,BV,BP,CB,AB,BF,BQ,jF,jD,jE,↓reduceIte,jA,jB,jC,enP,bxE,QP,G6 ge,J3 gp]
 refine (Eval_ref G e he p hs l m hl _).use ?_
 simp -implicitDefEqProofs only [AZ,AO,AQ,AL,BD,AY,AC,AA,AX,BN,BV,BP,jF,jD,jE,↓reduceIte,jB,jC]
 refine (KX G _ _).use ?_
 simp -implicitDefEqProofs only [BK,A7,CV,AZ,BA,AO,AQ,AL,BD,AY,AC,AA,AX,AU,BH,BC,BU,AB,CX,↓reduceIte,jB,jC,enP,e0,e2]
 exact ⟨by trivial,hx⟩
set_option maxHeartbeats 2000000 in
theorem AXW (hG:GOk G) (e:Ex) (he:wt e≤1048576) (p:Pr) (hs:PrS p) (l:List Rng) (m:SM) (hl:l.length≤1048576) (h:Hp):PCall (En G) 8 [.agg (CW e),.agg (DY p),.sl m 2 (l.map encR)] h (.bool true):=by
 refine ACalls.pure0 rfl ?_
 refine acN Tryz.func8 rfl ?_
 show awp _ _ _ _ _ (EN _ [.tmp 6] _)
 have ge:=DC (x:=ABlk.live 5 [DY p]) (DF h (ABlk.live 4 [CW e]))
 have gp:=DF (h ++ [ABlk.live 4 [CW e]]) (ABlk.live 5 [DY p])
 have hx:=((ext.rfl' h).app [ABlk.live 4 [CW e]]).app [ABlk.live 5 [DY p]]
 have hq:(evP e p l == evP e p l)=true:=by simp
 have hT : ∀ b:Bool,(b == b)=true:=by decide
 simp -implicitDefEqProofs only [BB,A8,A7,AZ,BA,AO,AQ,AL,BD,AY,AC,AA,AX,AU,BM,BC,FQ,CB,BF,BQ,↓reduceIte,jA,jB,jC,enP,bxE,QP]
 generalize h ++ [ABlk.live 4 [CW e]] ++ [ABlk.live 5 [DY p]]=H at hx ge gp ⊢
 generalize (h ++ [ABlk.live 4 [CW e]]).length=pb at ge gp ⊢
 generalize h.length=eb at ge gp ⊢
 refine EK (by kernel_rfl) ?_
 simp -implicitDefEqProofs only [ET,DK,CY,DL,EH,EC,HY,EI,EE,AO,AA,AX,BN,BO,BU,AB,BF,BQ,jF,jD,jE,↓reduceIte,jA,jL,jB,enP,G6 ge,J3 gp]
 refine ⟨_,Q4 G hG e he p hs l m hl H,?_⟩
 try simp -implicitDefEqProofs only [G6 ge,J3 gp]
 refine ⟨_,Eval_ref G e he p hs l m hl H,?_⟩
 simp -implicitDefEqProofs only [ET,DK,CY,DL,EJ,E8,NQ,EH,EC,HY,EI,EE,CO,AO,AA,AX,BN,BO,BU,AB,BF,BQ,jF,jD,jE,↓reduceIte,jA,jL,jB,enP,AMQ,hq,G6 ge,J3 gp]
 refine ⟨_,AAZ G hG e he p hs l m hl H,?_⟩
 try simp -implicitDefEqProofs only [G6 ge,J3 gp]
 refine ⟨_,ALP G e he p hs l m hl H,?_⟩
 simp -implicitDefEqProofs only [ET,DK,CY,DL,EJ,E8,NQ,EH,GK,EC,HY,EI,EE,CO,AO,AA,AX,AU,BN,BM,CP,DW,BO,BU,AB,BF,BQ,jF,jD,jE,↓reduceIte,jA,jL,jB,enP,be4,hT,G6 ge,J3 gp]
 refine ⟨_,ALG G hG e he p hs l m hl H,?_⟩
 try simp -implicitDefEqProofs only [G6 ge,J3 gp]
 refine ⟨_,AOZ G e he p hs l m hl H,?_⟩
 simp -implicitDefEqProofs only [ET,DK,CY,D7,DL,EJ,E8,NQ,EH,G5,GK,EI,EE,BK,A7,CV,CO,AO,AA,AX,AU,BN,BM,CP,DW,AB,jD,jE,↓reduceIte,jA,jL,jB,be4,hT]
 refine ⟨_,PM G hG H,?_⟩
 simp -implicitDefEqProofs only []
 exact ⟨by trivial,hx⟩
end
def OM (l:List Rng) (i:Nat) (lo hi:Int):Option (List Rng):=if (nxR (l.getD i GV) lo hi).lo > (nxR (l.getD i GV) lo hi).hi then none else some (l.set i (nxR (l.getD i GV) lo hi))
theorem O8 (s:NS) (i:Nat) (lo hi:Int):(NI s i lo hi).map Prod.fst=OM s.1 i lo hi:=by
 unfold NI OM
 split <;> rfl
def SxR (cur:List Rng) (em:Bool):Option (List Rng)→Prop
 | some l=>em=false∧cur=l∧∀ x∈l,wfR x
 | none=>em=true
structure Sx (H:Hp) (sb lb:Nat) (p:Pr) (r:Option (List Rng)):Prop where
 ex : ∃ L cur em,H[sb]? = some (.live 7 [DY p ++ [L,.bool em]])∧NwL H L lb cur∧cur.length=p.vars.length∧SxR cur em r
 ne:0 < p.vars.length→sb≠lb
 lbl:lb < H.length
def SP (sb lb:Nat) (p:Pr) (h:Hp) (r:Option (List Rng)):AV→Hp→Prop:=fun _ H=>Sx H sb lb p r∧Kp sb lb h H
theorem Sx.ext {h H:Hp} {sb lb:Nat} {p:Pr} {r:Option (List Rng)} (n:Sx h sb lb p r) (hx:Sm.ext h H):Sx H sb lb p r:=by
 obtain ⟨L,cur,em,h1,h2,h3,h4⟩:=n.ex
 refine ⟨⟨L,cur,em,FD hx h1,?_,h3,h4⟩,n.ne,Nat.lt_of_lt_of_le n.lbl hx.le⟩
 rcases h2 with h2 | ⟨e,hb,hn⟩
 ·exact .inl h2
 ·exact .inr ⟨e,FD hx hb,hn⟩
theorem Sx.lt {h:Hp} {sb lb:Nat} {p:Pr} {r:Option (List Rng)} (n:Sx h sb lb p r) {b:Nat} (hb:h.length≤b):b≠sb∧b≠lb:=by
 obtain ⟨L,cur,em,h1,_⟩:=n.ex
 have:=CS h1
 have:=n.lbl
 exact ⟨by omega,by omega⟩
theorem SP.post {sb lb:Nat} {p:Pr} {h h':Hp} {r:Option (List Rng)} {v:AV} {H:Hp} (hk:Kp sb lb h h') (q:SP sb lb p h' r v H):SP sb lb p h r v H:=⟨q.1,hk.trans q.2⟩
theorem AXA (h:Hp) (r:Rng) (z:Int):GM Tryz.prog (h ++ [ABlk.live 2 [encR r]]) 3 (.ptr h.length 0 0) (.int .i64 z)=some (h ++ [ABlk.live 2 [encR ⟨z,r.hi⟩]]):=by
 rw [I5 (cs := [.int .i64 z]) rfl sz3 (DF h (ABlk.live 2 [encR r])) rfl (by simp [encR]),MB]; rfl
theorem AXB (h:Hp) (r:Rng) (z:Int):GM Tryz.prog (h ++ [ABlk.live 2 [encR r]]) 3 (.ptr h.length 0 1) (.int .i64 z)=some (h ++ [ABlk.live 2 [encR ⟨r.lo,z⟩]]):=by
 rw [I5 (cs := [.int .i64 z]) rfl sz3 (DF h (ABlk.live 2 [encR r])) rfl (by simp [encR]),MB]; rfl
theorem A0A (h:Hp) (r:Rng):DR Tryz.prog (h ++ [ABlk.live 2 [encR r]]) 3 (.ptr h.length 0 0)=some (.int .i64 r.lo):=FX (DF _ _)
theorem A0B (h:Hp) (r:Rng):DR Tryz.prog (h ++ [ABlk.live 2 [encR r]]) 3 (.ptr h.length 0 1)=some (.int .i64 r.hi):=GI (DF _ _)
theorem RF {H:Hp} {sb:Nat} {p:Pr} {L:AV} {em:Bool} (q:H[sb]? = some (.live 7 [DY p ++ [L,.bool em]])):DR Tryz.prog H 29 (.ptr sb 0 5)=some L:=by rw [DJ (by kernel_rfl) q (row:=_) rfl]; rfl
theorem AAJ {H:Hp} {sb:Nat} {p:Pr} {L:AV} {em:Bool} (q:H[sb]? = some (.live 7 [DY p ++ [L,.bool em]])):DR Tryz.prog H 4 (.ptr sb 0 6)=some (.bool em):=by rw [DJ ag4 q (row:=_) rfl]; rfl
theorem ABU {H:Hp} {sb:Nat} {p:Pr} {L:AV} {em:Bool} (q:H[sb]? = some (.live 7 [DY p ++ [L,.bool em]])):DR Tryz.prog H 27 (.ptr sb 0 0)=some (.agg (DY p)):=by
 rw [H7 VH UG q (row:=_) rfl (by simp [GZ])]; rfl
theorem AV5 {H:Hp} {sb:Nat} {p:Pr} {L:AV} {em:Bool} (q:H[sb]? = some (.live 7 [DY p ++ [L,.bool em]])):GM Tryz.prog H 4 (.ptr sb 0 6) (.bool true)=some (H.set sb (.live 7 [DY p ++ [L,.bool true]])):=by
 rw [I5 (cs := [.bool true]) rfl sz4 q rfl (by simp [GZ])]; rfl
section
variable (G:Nat→AV)
set_option maxHeartbeats 2000000 in
theorem QW (sb lb:Nat) (p:Pr) (r:Option (List Rng)) (i:Nat) (hi:i < p.vars.length) (lo hi':Int) (h:Hp) (n:Sx h sb lb p r) :
  ACalls (En G) 67 [.ptr sb 0 0,.int .i64 (i:Nat),.int .i64 lo,.int .i64 hi'] h (SP sb lb p h (r.bind fun l=>OM l i lo hi')):=by
 obtain ⟨L,cur,em,h1,h2,h3,h4⟩:=n.ex
 have hil:i < cur.length:=by omega
 obtain ⟨rfl,hb,hnn⟩:L = .own lb 0 cur.length∧h[lb]? = some (.live 2 (cur.map encR))∧cur≠[]:=by
  rcases h2 with ⟨e,_⟩ | h2
  ·rw [e] at hil; simp at hil
  ·exact h2
 refine acN Tryz.func67 rfl ?_
 show awp _ _ _ _ _ (EN _ [] _)
 have i1:I4 2 h (.own lb 0 cur.length) (.int .i64 (i:Nat))=some (.ptr lb (0+i) 0):=JK hb hil
 rw [jG] at i1
 simp -implicitDefEqProofs only [BB,A8,A7,AZ,BA,AO,AQ,AL,BD,AY,AC,DU,AA,AX,BJ,EZ,BO,CU,BG,CG,Q8,TK,CB,AB,BZ,NU,O6,BF,BQ,↓reduceIte,jA,jH,jG,jB,jC,enP,JO,FB,FN,RS,jK,EM,EW,RF h1,i1,RI hb hil,KG,NF,A0A,AXA,A0B,AXB]
 have e:(⟨max cur[i].lo lo,min cur[i].hi hi'⟩:Rng)=nxR cur[i] lo hi':=rfl
 rw [e]
 have hgd:cur.getD i GV=cur[i]:=by rw [zF,jU hil]; rfl
 have g8:=DF h (ABlk.live 2 [encR (nxR cur[i] lo hi')])
 have n8:=n.ext ((ext.rfl' h).app [ABlk.live 2 [encR (nxR cur[i] lo hi')]])
 have k8:=(Kp.rfl' sb lb h).app (ABlk.live 2 [encR (nxR cur[i] lo hi')])
 have sb8:=DC (x:=ABlk.live 2 [encR (nxR cur[i] lo hi')]) h1
 have lb8:=DC (x:=ABlk.live 2 [encR (nxR cur[i] lo hi')]) hb
 have o8:=n.lt (jQ h.length)
 generalize h ++ [ABlk.live 2 [encR (nxR cur[i] lo hi')]]=H8 at g8 n8 k8 sb8 lb8 ⊢
 generalize h.length=b8 at g8 o8 ⊢
 have hst:=AFH (nxR cur[i] lo hi') lb8 (i:=i) (row:=encR cur[i]) (by rw [zA,jU hil]; rfl) rfl
 rw [← List.map_set] at hst
 have i9:I4 2 H8 (.own lb 0 cur.length) (.int .i64 (i:Nat))=some (.ptr lb (0+i) 0):=JK lb8 hil
 rw [jG] at i9
 refine EK (by kernel_rfl) ?_
 simp -implicitDefEqProofs only [ET,DK,CY,FK,D7,DL,EH,EC,FH,C9,D9,BB,A8,A7,AZ,AO,AQ,AL,BD,AY,AC,AA,AX,BO,CU,BG,CG,AB,BZ,BF,BQ,↓reduceIte,jA,jL,jH,jG,jB,jC,enP,JO,FB,RS,jK,EM,FZ,EW,RF sb8,IW g8,i9,hst]
 have sb9:(H8.set lb (.live 2 ((cur.set i (nxR cur[i] lo hi')).map encR)))[sb]? = some (.live 7 [DY p ++ [.own lb 0 cur.length,.bool em]]):=by rw [zL (Ne.symm (n.ne (by omega)))]; exact sb8
 have lb9:(H8.set lb (.live 2 ((cur.set i (nxR cur[i] lo hi')).map encR)))[lb]? = some (.live 2 ((cur.set i (nxR cur[i] lo hi')).map encR)):=G7 lb8
 have g9:(H8.set lb (.live 2 ((cur.set i (nxR cur[i] lo hi')).map encR)))[b8]? = some (.live 2 [encR (nxR cur[i] lo hi')]):=by rw [zL (Ne.symm o8.2)]; exact g8
 have k9:=k8.setL (ABlk.live 2 ((cur.set i (nxR cur[i] lo hi')).map encR))
 have hl9:lb < (H8.set lb (.live 2 ((cur.set i (nxR cur[i] lo hi')).map encR))).length:=CS lb9
 have hnn':cur.set i (nxR cur[i] lo hi')≠[]:=by
  intro q; have:=congrArg List.length q; simp at this; exact hnn this
 have hL9 : ∀ {H:Hp},H[lb]? = some (.live 2 ((cur.set i (nxR cur[i] lo hi')).map encR))→NwL H (.own lb 0 cur.length) lb (cur.set i (nxR cur[i] lo hi')):=fun q => .inr ⟨by rw [qH],q,hnn'⟩
 have hlen':(cur.set i (nxR cur[i] lo hi')).length=p.vars.length:=by rw [qH]; exact h3
 generalize H8.set lb (.live 2 ((cur.set i (nxR cur[i] lo hi')).map encR))=H9 at sb9 lb9 g9 k9 hl9 ⊢
 simp -implicitDefEqProofs only [BI,A7,AZ,BA,AO,AQ,AL,BD,AY,AC,AA,AX,BO,BU,BG,AB,FM,↓reduceIte,jA,jG,jB,jC,enP,FN,FX g9,GI g9]
 refine CQ (fun hc => ?_) (fun hc => ?_)
 ·have hc:(nxR cur[i] lo hi').lo > (nxR cur[i] lo hi').hi:=by simpa using hc
  have hr:(r.bind fun l=>OM l i lo hi')=none:=by
   cases r with
   | none=>rfl
   | some l =>
     obtain ⟨_,rfl,_⟩:=h4
     show OM cur i lo hi'=none
     unfold OM
     rw [hgd,if_pos hc]
  rw [hr]
  simp -implicitDefEqProofs only [A8,G9,AZ,BA,AO,AQ,AL,BD,AY,AC,DU,AA,AX,AU,BM,BJ,CU,BG,AB,BZ,BF,↓reduceIte,jA,jG,jB,jC,enP,UQ,jK,EM,EW,AV5 sb9]
  exact ⟨⟨⟨_,_,true,G7 sb9,hL9 (by rw [zL (n.ne (by omega))]; exact lb9),hlen',rfl⟩,n.ne,by rw [qH]; exact hl9⟩,k9.setN _⟩
 ·have hc : ¬ (nxR cur[i] lo hi').lo > (nxR cur[i] lo hi').hi:=by simpa using hc
  simp -implicitDefEqProofs only [BR,G9]
  refine ⟨⟨⟨_,_,em,sb9,hL9 lb9,hlen',?_⟩,n.ne,hl9⟩,k9⟩
  cases r with
  | none=>exact h4
  | some l =>
    obtain ⟨h5,rfl,h6⟩:=h4
    show SxR _ em (OM cur i lo hi')
    unfold OM
    rw [hgd,if_neg hc]
    refine ⟨h5,rfl,fun x hx => ?_⟩
    rcases List.mem_or_eq_of_mem_set hx with hx | rfl
    ·exact h6 x hx
    ·obtain ⟨q0,q1,q2⟩:=h6 _ (jT hil)
     have a1:(nxR cur[i] lo hi').lo=max cur[i].lo lo:=rfl
     have a2:(nxR cur[i] lo hi').hi=min cur[i].hi hi':=rfl
     exact ⟨by omega,by omega,by omega⟩
theorem PS (sb lb:Nat) (p:Pr) (hs:PrS p) (r:Option (List Rng)) (e:Ex) (h:Hp) (n:Sx h sb lb p r):PCall (En G) 69 [.ptr sb 0 0,.agg (CW e)] h (.int .i64 (vix p.vars e)):=by
 obtain ⟨L,cur,em,h1,h2,h3,h4⟩:=n.ex
 refine ACalls.pure0 rfl ?_
 refine acN Tryz.func69 rfl ?_
 show awp _ _ _ _ _ (EN _ [.tmp 4] _)
 have ge:=DF h (ABlk.live 4 [CW e])
 have h1':=DC (x:=ABlk.live 4 [CW e]) h1
 have hx:=(ext.rfl' h).app [ABlk.live 4 [CW e]]
 simp -implicitDefEqProofs only [BB,A8,A7,AZ,BA,AO,AQ,AL,BD,AY,AC,AA,AX,AU,BH,BC,FQ,BO,BG,CB,AB,BF,BQ,↓reduceIte,jA,jH,jB,jC,enP,FU,bxE]
 generalize h ++ [ABlk.live 4 [CW e]]=H at ge h1' hx ⊢
 generalize h.length=eb at ge ⊢
 have l0:DR Tryz.prog H 3 (.ptr eb 0 0)=some (.int .i64 e.op):=by rw [DJ ag3 ge (row:=CW e) rfl,JC]
 have l2:DR Tryz.prog H 9 (.ptr eb 0 2)=some (.str e.name):=by rw [DJ ag9 ge (row:=CW e) rfl,OB]
 simp -implicitDefEqProofs only [BI,A7,AZ,BA,AO,AQ,AL,BD,AY,AC,AA,AX,AU,BH,BU,AB,FT,↓reduceIte,jB,jC,enP,l0]
 unfold vix
 refine CQ (fun hc => ?_) (fun hc => ?_)
 ·have hc : ¬ e.op=2:=by simpa using hc
  simp -implicitDefEqProofs only [BB,A8,BK,A7,CJ,CV,AZ,BA,AO,AQ,AL,BD,AY,AC,AA,AU,BH,BC,↓reduceIte,jB,jC]
  rw [if_neg hc]
  exact ⟨by rfl,hx⟩
 ·have hc:e.op=2:=by simpa using hc
  rw [if_pos hc]
  simp -implicitDefEqProofs only [BB,BR,A7]
  refine EK (by kernel_rfl) ?_
  simp -implicitDefEqProofs only [ET,DK,CY,D7,DL,EH,G5,EC,C9,EI,EE,BK,A7,CV,AO,AA,AX,BN,BO,BG,AB,BF,jF,jD,jE,↓reduceIte,jA,jL,jH,jG,jB,enP,KF,ACQ,EM,FZ,EW,ABU h1',l2]
  refine ⟨_,ZO G p hs e.name H,?_⟩
  simp -implicitDefEqProofs only []
  exact ⟨by trivial,hx⟩
end
end Go.Proofs.YtokehnfjjmpanaaGreatDoor.Bd
