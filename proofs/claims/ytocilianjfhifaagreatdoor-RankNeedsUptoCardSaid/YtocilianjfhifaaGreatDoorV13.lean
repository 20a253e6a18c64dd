/- Part 13 of the proof (R19, R20, R21, R22, R23, Kx); no condition. -/
import Derived.Test.YtocilianjfhifaaGreatDoorV12
set_option linter.unusedVariables false
/- What the laws of rank call: numbers, has, all, reached; no condition but the variables that are laid, the bounds on lengths, and cover.tuple's contract. -/
set_option linter.unusedSimpArgs false
set_option maxRecDepth 8000
namespace Go.Proofs.YtocilianjfhifaaGreatDoor.Rk
open Go Go.Proofs Go.Proofs.YtocilianjfhifaaGreatDoor.Sm Go.Proofs.YtocilianjfhifaaGreatDoor.Bins Go.Proofs.YtocilianjfhifaaGreatDoor.Cov Go.RowKit

theorem ADM {m:Mo} {l:List Cvr}:CvOk (LF m l):=by
 by_cases hz:NV m l=0
 ·exact NC (ADL hz)
 ·unfold LF; rw [if_neg hz]; exact ⟨by decide,by decide,fun x hx=>(by cases hx),fun x hx=>(by cases hx)⟩
theorem OC (G:Nat→AV) (xs:List Nat) (s s':SM) (hn:xs.length≤1048576) (h:Hp):PCall (En G) 59 [.sl s 1 (xs.map EU),.sl s' 1 (xs.map EU)] h (.bool true):=by
 refine BX (H:=Hint.none) (enM G) Tryz.func59 rfl (by kernel_rfl) (by kernel_rfl) (Nat.le_of_ble_eq_true (by kernel_rfl)) ?_
 show awp _ _ _ _ _ (EJ _ [.tmp 4] _)
 have e0:((xs.length:Int) == (xs.length:Int))=true:=by simp
 simp -implicitDefEqProofs only [A8,BM,AX,BK,BF,AZ,DL,AU,A9,AL,AO,AJ,BA,AR,AC,AA,AY,AQ,BD,BI,BB,A7,BN,C8,AB,ED,BC,BP,↓reduceIte,Nat.reduceEqDiff,Option.getD_some,Bool.not_true,Bool.not_false,enP,GV,List.length_map,bne,e0]
 refine CS (fun n F H => ∃ i,n+i=xs.length∧F 0 = .sl s 1 (xs.map EU)∧F 1 = .sl s' 1 (xs.map EU)∧F 5 = .int .i64 (i:Nat)∧H=h) xs.length ⟨0,by simp,by simp -implicitDefEqProofs only [AA,BC,↓reduceIte,Nat.reduceEqDiff],by simp -implicitDefEqProofs only [AA,BC,BP,↓reduceIte,Nat.reduceEqDiff],by simp -implicitDefEqProofs only [AA,↓reduceIte]; rfl,rfl⟩ ?_
 rintro n F H ⟨i,hi,f0,f1,f5,rfl⟩
 simp -implicitDefEqProofs only [A8,AX,BF,AZ,AU,A9,AL,AO,AJ,BA,AR,AC,AA,AY,BB,BN,C8,AB,CO,↓reduceIte,Nat.reduceEqDiff,Option.getD_some,Bool.not_false,enP,GV,f0,f5,List.length_map]
 refine CG (fun hc => ?_) (fun hc => ?_)
 ·have hi':i < xs.length:=by simpa using hc
  have e1:(((xs[i]:Nat):Int) == ((xs[i]:Nat):Int))=true:=by simp
  simp -implicitDefEqProofs only [A8,BM,BK,AZ]
  refine EG (by kernel_rfl) ?_
  simp -implicitDefEqProofs only [FJ,DT,CZ,EO,DV,ET,EN,GK,DN,AX,BK,BF,AZ,DU,DZ,DL,AU,A9,AL,AO,AJ,BA,AR,AC,AA,AY,AQ,BD,BB,A7,BL,BN,BU,AB,CR,ED,↓reduceIte,Nat.reduceEqDiff,Nat.reduceAdd,Option.getD_some,Bool.not_true,Bool.not_false,enP,IL,f0,f1,f5,CW hi',CP ag3 hi',SK,bne,e1,CB (show i < 9223372036854775807 by omega)]
  exact ⟨n - 1,by omega,i+1,by omega,by first | exact f0 | trivial,by first | exact f1 | trivial,rfl,trivial⟩
 ·simp -implicitDefEqProofs only [A8,AX,BJ,CU,AZ,DR,EB,EF,CK,AU,A9,AL,AO,AJ,BA,AR,AC,AA,AQ,BI,A7,↓reduceIte,Option.getD_some,Bool.not_false]
  exact ⟨trivial,trivial⟩
theorem ALN (G:Nat→AV) (xs:List Nat) (s:SM) (z:Nat) (hz:z∈xs) (hn:xs.length≤1048576) (h:Hp):PCall (En G) 76 [.sl s 1 (xs.map EU),.int .i64 (z:Nat)] h (.bool true):=by
 refine BX (H:=Hint.none) (enM G) Tryz.func76 rfl (by kernel_rfl) (by kernel_rfl) (Nat.le_of_ble_eq_true (by kernel_rfl)) ?_
 show awp _ _ _ _ _ (EJ _ [.tmp 4] _)
 simp -implicitDefEqProofs only [A8,BM,AX,AZ,AU,A9,AL,AO,AJ,BA,AR,AC,AQ,BD,BI,A7,Option.getD_some,Bool.not_false,enP]
 refine CS (fun n F H => ∃ i,n+i=xs.length∧F 0 = .sl s 1 (xs.map EU)∧F 1 = .int .i64 (z:Nat)∧F 5 = .int .i64 (i:Nat)∧H=h∧z∈xs.drop i) xs.length ⟨0,by simp,by simp -implicitDefEqProofs only [AA,BC,↓reduceIte,Nat.reduceEqDiff],by simp -implicitDefEqProofs only [AA,BC,BP,↓reduceIte,Nat.reduceEqDiff],by simp -implicitDefEqProofs only [AA,↓reduceIte]; rfl,rfl,by simpa using hz⟩ ?_
 rintro n F H ⟨i,hi,f0,f1,f5,rfl,hm⟩
 simp -implicitDefEqProofs only [A8,AX,BF,AZ,AU,A9,AL,AO,AJ,BA,AR,AC,AA,AY,BB,BN,C8,AB,CO,↓reduceIte,Nat.reduceEqDiff,Option.getD_some,Bool.not_false,enP,GV,f0,f5,List.length_map]
 refine CG (fun hc => ?_) (fun hc => ?_)
 ·have hi':i < xs.length:=by simpa using hc
  rw [List.drop_eq_getElem_cons hi',List.mem_cons] at hm
  simp -implicitDefEqProofs only [A8,BM,AX,BK,BF,AZ,AU,A9,AL,AO,AJ,BA,AR,AC,AA,AY,BB,BL,BN,BU,AB,D9,↓reduceIte,Nat.reduceEqDiff,Option.getD_some,Bool.not_false,enP,IL,f0,f1,f5,CW hi',CP ag3 hi',SK]
  cases he:(((xs[i]:Nat):Int) == ((z:Nat):Int))
  ·have hne:z≠xs[i]:=by simp at he; omega
   simp -implicitDefEqProofs only [AX,BK,AZ,DU,DZ,DL,AU,A9,AL,AO,AJ,BA,AR,AC,AA,AY,AQ,BD,BB,A7,BN,AB,CR,↓reduceIte,Nat.reduceEqDiff,Option.getD_some,Bool.not_false,enP,f5,CB (show i < 9223372036854775807 by omega)]
   exact ⟨n - 1,by omega,i+1,by omega,f0,f1,rfl,trivial,hm.resolve_left hne⟩
  ·simp -implicitDefEqProofs only [A8,AX,BJ,AZ,CJ,D6,EZ,CK,DI,AU,A9,AL,AO,AJ,BA,AR,AC,AA,AQ,BI,A7,↓reduceIte,Option.getD_some,Bool.not_false]
   exact ⟨trivial,trivial⟩
 ·have hi' : ¬ i < xs.length:=by simpa using hc
  rw [List.drop_eq_nil_of_le (by omega)] at hm
  cases hm
theorem V5 (G:Nat→AV) (q:Qs) (hq:q.l.length≤1048576) (h:Hp):PCall (En G) 75 [.agg (JI q)] h (.sl (nm (List.range q.l.length)) 1 ((List.range q.l.length).map EU)):=by
 refine LA ANG ?_
 refine BX (H:=Hint.none) (enM G) Tryz.func75 rfl (by kernel_rfl) (by kernel_rfl) (Nat.le_of_ble_eq_true (by kernel_rfl)) ?_
 show awp _ _ _ _ _ (EJ _ [.tmp 2] _)
 have gq:=CQ h (ABlk.live 3 [JI q])
 have hx:ext h (h ++ [ABlk.live 3 [JI q]]):=(ext.rfl' h).app _
 simp -implicitDefEqProofs only [A8,BM,AX,AZ,AU,A9,AL,AO,AJ,BA,AR,AC,AY,AQ,BD,EX,A7,EW,BO,BC,Option.getD_some,Bool.not_false,enP,bxQ]
 generalize h ++ [ABlk.live 3 [JI q]]=H0 at gq hx ⊢
 refine CS (fun n F H => ∃ i w,n+i=q.l.length∧F 1 = .ptr h.length 0 0∧F 3=w∧F 4 = .int .i64 (i:Nat)∧outG 1 EU H0 (List.range i) w H∧ext H0 H) q.l.length
  ⟨0,_,by simp,by simp -implicitDefEqProofs only [AA,↓reduceIte,Nat.reduceEqDiff],by simp -implicitDefEqProofs only [AA,↓reduceIte,Nat.reduceEqDiff],by simp -implicitDefEqProofs only [AA,↓reduceIte]; rfl,outG.nil _ _ _ _,ext.rfl' _⟩ ?_
 rintro n F H ⟨i,w,hi,f1,f3,f4,ho,he⟩
 have gq1:=GN he gq
 simp -implicitDefEqProofs only [A8,AX,BF,AZ,AU,A9,AL,AO,AJ,BA,AR,AC,AA,AY,BB,BL,BN,BG,C8,AB,CO,↓reduceIte,Nat.reduceEqDiff,Nat.zero_add,Option.getD_some,Bool.not_false,enP,OY,JM,f1,f4,OD gq1,List.length_map]
 refine CG (fun hc => ?_) (fun hc => ?_)
 ·have hi':i < q.l.length:=by simpa using hc
  obtain ⟨w',H2,hap,ho2,_,he2,_,_⟩:=ho.append ML sz3 RV RF (by omega) (by simp; omega) he i
  rw [← List.range_succ] at ho2
  simp -implicitDefEqProofs only [E8,FI,A8,BM,AX,BK,AZ,AU,AL,AO,AJ,BA,AR,AC,AA,AY,BB,EA,FT,BO,↓reduceIte,Nat.reduceEqDiff,Option.getD_some,Bool.not_false,enP,f3,f4,U1]
  refine FK (v:=w') (h:=H2) hap ?_
  simp -implicitDefEqProofs only [AX,AZ,DU,DZ,AU,A9,AL,AO,AJ,BA,AR,AC,AA,AY,AQ,BD,BB,A7,BN,AB,CR,↓reduceIte,Nat.reduceEqDiff,Option.getD_some,Bool.not_false,enP,f4,CB (show i < 9223372036854775807 by omega)]
  exact ⟨n - 1,by omega,i+1,w',by omega,f1,rfl,rfl,ho2,he2⟩
 ·have hi':i=q.l.length:=by
   have : ¬ i < q.l.length:=by simpa using hc
   omega
  subst hi'
  simp -implicitDefEqProofs only [A8,AX,BJ,CU,AZ,DR,EB,EF,CK,AU,A9,AL,AO,AJ,BA,AR,AC,AA,AY,BB,A7,↓reduceIte,Nat.reduceEqDiff,Option.getD_some,Bool.not_false,f3]
  exact ⟨hx.trans he,ho.base hx.le⟩
set_option maxHeartbeats 2000000 in
theorem NN (G:Nat→AV) (hG:GOk G) (hT:I4 G) (q:Qs) (hq:QOk q) (o:List Nat) (s:SM) (ho : ∀ i∈o,i < q.l.length) (hon:o.length≤1048576) (h:Hp) :
  PCall (En G) 74 [.agg (JI q),.sl s 1 (o.map EU)] h (.int .i64 (PZ q.m (LF q.m (sel q.l o)):Nat)):=by
 refine ACalls.pure0 rfl ?_
 refine BX (H:=hint [40] [(45,[44])]) (enM G) Tryz.func74 rfl (by kernel_rfl) (by kernel_rfl) (Nat.le_of_ble_eq_true (by kernel_rfl)) ?_
 show awp _ _ _ _ _ (EJ _ [.tmp 4] _)
 have gq:=CQ h (ABlk.live 3 [JI q])
 have hx:ext h (h ++ [ABlk.live 3 [JI q]]):=(ext.rfl' h).app _
 simp -implicitDefEqProofs only [CL,List.contains_cons,List.contains_nil,Nat.reduceBEq,Bool.or_false,A8,BM,AX,AZ,AU,A9,AJ,BA,AR,AC,AY,AQ,BD,EX,A7,EW,BO,BC,↓reduceIte,Option.getD_some,Bool.not_false,enP,Bool.false_eq_true,EE,bxQ]
 generalize h ++ [ABlk.live 3 [JI q]]=H0 at gq hx ⊢
 refine FO 0 (fun F H=>F 2 = .ptr h.length 0 0∧outG 4 D5 H0 (sel q.l o) (F 5) H∧ext H0 H) (fun _ _=>False) ?_ ?_ (fun _ _ hh=>hh.elim)
 ·refine CS (fun n F H => ∃ i v,n+i=o.length∧F 1 = .sl s 1 (o.map EU)∧F 2 = .ptr h.length 0 0∧F 5=v∧F 6 = .int .i64 (i:Nat)∧outG 4 D5 H0 (sel q.l (o.take i)) v H∧ext H0 H) o.length
   ⟨0,.sl .nil 0 [],by simp,by simp -implicitDefEqProofs only [AA,BC,BP,↓reduceIte,Nat.reduceEqDiff],by simp -implicitDefEqProofs only [AA,↓reduceIte,Nat.reduceEqDiff],by simp -implicitDefEqProofs only [AA,↓reduceIte,Nat.reduceEqDiff],by simp -implicitDefEqProofs only [AA,↓reduceIte]; rfl,by rw [List.take_zero]; exact outG.nil _ _ _ _,ext.rfl' _⟩ ?_
  rintro n F H ⟨i,v,hi,f1,f2,f5,f6,hv,he⟩
  have gq1:=GN he gq
  simp -implicitDefEqProofs only [CL,List.contains_cons,List.contains_nil,Nat.reduceBEq,Bool.or_false,A8,AX,BF,AZ,AU,A9,AJ,BA,AR,AC,AA,AY,BB,BN,C8,AB,CO,↓reduceIte,Nat.reduceEqDiff,Option.getD_some,Bool.not_false,enP,GV,Bool.false_eq_true,EE,f1,f6,List.length_map]
  refine CG (fun hc => ?_) (fun hc => ?_)
  ·have hi':i < o.length:=by simpa using hc
   have hoi:=ho _ (List.getElem_mem hi')
   have d1:decide (((o[i]:Nat):Int) < 0)=false:=by rw [decide_eq_false_iff_not]; omega
   have d2:decide (((o[i]:Nat):Int)≥((q.l.length:Nat):Int))=false:=by rw [decide_eq_false_iff_not]; omega
   have hsl:=YJ q.l (o.take i)
   obtain ⟨v',H2,hap,hv2,_,he2,_,_⟩:=hv.append AXB PY AW7 AX4 (by omega) (by rw [hsl,List.length_take]; omega) he q.l[o[i]]
   rw [← AF0 q.l o i hi' hoi] at hv2
   simp -implicitDefEqProofs only [A8,BM,BK,AZ]
   refine EG (by kernel_rfl) ?_
   simp -implicitDefEqProofs only [FJ,CL,List.contains_cons,List.contains_nil,Nat.reduceBEq,Bool.or_false,DT,CZ,EO,DV,EY,FR,NT,ET,G6,EN,GK,DW,DN,FX,BK,BF,AZ,DL,BZ,AA,AY,AQ,BD,BI,CF,DK,BL,BN,BG,BU,C8,AB,CO,F3,↓reduceIte,Nat.reduceEqDiff,Nat.reduceAdd,Nat.zero_add,Option.getD_some,enP,OY,IL,JM,f1,f2,f6,CW hi',CP ag3 hi',SK,d1,OD gq1,List.length_map,d2]
   refine EG (by kernel_rfl) ?_
   simp -implicitDefEqProofs only [FJ,E8,FI,CL,List.contains_cons,List.contains_nil,Nat.reduceBEq,Bool.or_false,DT,CZ,EO,DV,ET,GM,I7,EN,DW,DN,FX,AX,AZ,DU,DZ,AU,A9,AJ,BA,AR,AC,AA,AY,AQ,BD,BB,A7,EA,BL,BN,BG,BU,FT,BO,AB,CR,↓reduceIte,Nat.reduceEqDiff,Nat.reduceAdd,Nat.zero_add,Option.getD_some,Bool.not_false,enP,X6,IL,JM,Bool.false_eq_true,EE,f1,f2,f5,f6,CW hi',CP ag3 hi',SK,OD gq1,CW hoi,ES V6 PY JQ hoi,AU7,hap]
   simp -implicitDefEqProofs only [f6,CB (show i < 9223372036854775807 by omega)]
   exact ⟨n - 1,by omega,i+1,v',by omega,by first | exact f1 | trivial,by first | exact f2 | trivial,by first | trivial | rfl,by first | trivial | rfl,hv2,he2⟩
  ·have hi' : ¬ i < o.length:=by simpa using hc
   rw [List.take_of_length_le (by omega)] at hv
   simp -implicitDefEqProofs only [CU,DR,II,EF,AA,↓reduceIte,Nat.reduceEqDiff]
   exact ⟨f2,by rw [f5]; exact hv,he⟩
 ·rintro F H ⟨f2,hv,he⟩
  have gq1:=GN he gq
  have hsl:=YJ q.l o
  have hok:=AO4 hq.l ho
  rcases hv with ⟨e,f5⟩ | ⟨hne,b,b1,f5,b3⟩
  ·rw [e] at hok hsl ⊢
   have hz:=ALR (H:=H) (i:=44) (k:=0) (m := .nil) (xs := [])
   have gq2:=C9 (x:=ABlk.live 4 [D5 (LF q.m [])]) gq1
   have gT:=ldV (CQ H (ABlk.live 4 [D5 (LF q.m [])]))
   simp -implicitDefEqProofs only [CL,List.contains_cons,List.contains_nil,Nat.reduceBEq,Bool.or_false,A8,AX,AZ,EB,AU,AJ,BA,AR,AC,AA,AY,BS,BB,BL,BG,BV,BR,AB,List.map_cons,List.map_nil,List.append_nil,↓reduceIte,Nat.reduceEqDiff,Nat.add_zero,Option.getD_some,Bool.not_false,enP,J3,Bool.false_eq_true,EE,f2,f5,P6 gq1,NQ,AJ,hz]
   refine ((AIJ G hG hT q.m [] .nil hq.m (fun v hv=>by cases hv) (by simp) _).args (CvRL.cons (CvR.refl _) (CvRL.cons (CvR.sl (Cv.nil 0 4)) CvRL.nil))).use ?_
   simp -implicitDefEqProofs only [List.getElem?_cons_zero,List.getElem?_cons_succ,CL,List.contains_cons,List.contains_nil,Nat.reduceBEq,Bool.or_false,A8,AX,AZ,AU,A9,AJ,BA,AR,AC,EQ,AA,AY,BS,BB,A7,FL,BL,EC,BG,D8,FB,BV,BR,BO,AB,DF,List.map_cons,List.map_nil,List.append_nil,↓reduceIte,Nat.reduceEqDiff,Nat.add_zero,Option.getD_some,Bool.not_false,enP,J3,Option.getD_none,Bool.false_eq_true,EE,KN,OW,f2,P6 gq2,gT]
   refine (ZO G hG hT q.m (LF q.m []) hq.m ADM _).use ?_
   simp -implicitDefEqProofs only [CL,List.contains_cons,List.contains_nil,Nat.reduceBEq,Bool.or_false,BJ,AZ,CK,AU,A9,AJ,BA,AR,AC,AA,AY,A7,↓reduceIte,Option.getD_some,Bool.not_false,Bool.false_eq_true,EE]
   exact ⟨by first | trivial | rfl,(hx.trans he).app _⟩
  ·have hz:=QK (i:=44) (off:=0) (len:=(sel q.l o).length) b3 (by simp) (by rw [List.drop_zero,List.take_of_length_le (by simp)]; exact AUY _)
   rw [List.drop_zero,List.take_of_length_le (by simp)] at hz
   have he':ext H0 (H.set b ABlk.dead):=he.set b1 _
   have gq2:=GN he' gq
   have gq3:=C9 (x:=ABlk.live 4 [D5 (LF q.m (sel q.l o))]) gq2
   have gT:=ldV (CQ (H.set b ABlk.dead) (ABlk.live 4 [D5 (LF q.m (sel q.l o))]))
   simp -implicitDefEqProofs only [CL,List.contains_cons,List.contains_nil,Nat.reduceBEq,Bool.or_false,A8,AX,AZ,EB,AU,AJ,BA,AR,AC,AA,AY,BS,BB,BL,BG,BV,BR,AB,List.map_cons,List.map_nil,List.append_nil,↓reduceIte,Nat.reduceEqDiff,Nat.add_zero,Option.getD_some,Bool.not_false,enP,J3,Bool.false_eq_true,EE,f2,f5,P6 gq1,NQ,AJ,hz]
   refine (AIJ G hG hT q.m (sel q.l o) .any hq.m hok (by omega) _).use ?_
   simp -implicitDefEqProofs only [List.getElem?_cons_zero,List.getElem?_cons_succ,CL,List.contains_cons,List.contains_nil,Nat.reduceBEq,Bool.or_false,A8,AX,AZ,AU,A9,AJ,BA,AR,AC,EQ,AA,AY,BS,BB,A7,FL,BL,EC,BG,D8,FB,BV,BR,BO,AB,DF,List.map_cons,List.map_nil,List.append_nil,↓reduceIte,Nat.reduceEqDiff,Nat.add_zero,Option.getD_some,Bool.not_false,enP,J3,Option.getD_none,Bool.false_eq_true,EE,KN,OW,f2,P6 gq3,gT]
   refine (ZO G hG hT q.m (LF q.m (sel q.l o)) hq.m ADM _).use ?_
   simp -implicitDefEqProofs only [CL,List.contains_cons,List.contains_nil,Nat.reduceBEq,Bool.or_false,BJ,AZ,CK,AU,A9,AJ,BA,AR,AC,AA,AY,A7,↓reduceIte,Option.getD_some,Bool.not_false,Bool.false_eq_true,EE]
   exact ⟨by first | trivial | rfl,(hx.trans he').app _⟩
end Go.Proofs.YtocilianjfhifaaGreatDoor.Rk
/- The example of the chapter on rankings; no condition but the variables that are laid, and cover.tuple's contract. -/
set_option linter.unusedSimpArgs false
set_option maxRecDepth 8000
namespace Go.Proofs.YtocilianjfhifaaGreatDoor.Rk
open Go Go.Proofs Go.Proofs.YtocilianjfhifaaGreatDoor.Sm Go.Proofs.YtocilianjfhifaaGreatDoor.Bins Go.Proofs.YtocilianjfhifaaGreatDoor.Cov Go.RowKit

def AI6 (i:Nat):ByteArray:=⟨#[UInt8.ofNat (97+i)]⟩
def AWQ (i:Nat):Bin:=Cov.mkB (AI6 i) 0 (i:Nat) (i:Nat)
def pt9:Pt:=⟨⟨#[112]⟩,AZH,.any,(List.range 4).map AWQ⟩
def RU:Mo:=⟨.any,[pt9],.nil,[]⟩
def cv9 (l:List Int):Cvr:=⟨.full,[⟨.full,l⟩],.nil,[],0,0⟩
def exL9:List Cvr := [cv9 [1,2,0,0],cv9 [0,1,1,1],cv9 [3,0,0,1]]
/- what is built -/
def AB8 (i:Nat):List AV := [.str (AI6 i),.int .i64 0,.sl .full 2 [[.int .i64 (i:Nat),.int .i64 (i:Nat)]],.sl .nil 0 []]
theorem AXV:Frz AB8:=fun _ _ _ _=>⟨rfl,rfl⟩
def KE (v:AV):List AV := [.str ⟨#[112]⟩,.int .i64 2,.int .i64 0,.str ⟨#[97]⟩,.sl .nil 0 [],v]
theorem al56 (h:Hp):JN Tryz.prog h 56=some (.ptr h.length 0 0,h ++ [ABlk.live 6 [[.str ⟨#[]⟩,.int .i64 0,.int .i64 0,.str ⟨#[]⟩,.sl .nil 0 [],.sl .nil 0 []]]]):=JC (row := [.str ⟨#[]⟩,.int .i64 0,.int .i64 0,.str ⟨#[]⟩,.sl .nil 0 [],.sl .nil 0 []]) (by kernel_rfl)
theorem AZX (s t:ByteArray) (n:Int):JX Tryz.prog 56 [(0,.str s),(1,.agg [.int .i64 n,.int .i64 0,.str t,.sl .nil 0 []])]=some (.agg [.str s,.int .i64 n,.int .i64 0,.str t,.sl .nil 0 [],.sl .nil 0 []]):=by kernel_rfl
theorem AY6 (h:Hp) (row:List AV) (hr:row.length=6):FQ Tryz.prog (h ++ [ABlk.live 6 [row]]) 56 (.ptr h.length 0 0) (.agg [.str ⟨#[112]⟩,.int .i64 2,.int .i64 0,.str ⟨#[97]⟩,.sl .nil 0 [],.sl .nil 0 []])=some (h ++ [ABlk.live 6 [KE (.sl .nil 0 [])]]):=by
 have h1:=M5 (P:=Tryz.prog) (t:=56) (h:=h) (k:=6) (j:=0) (row:=row) (cs:=KE (.sl .nil 0 [])) (v := .agg (KE (.sl .nil 0 []))) rfl X3 (by rw [hr]; exact Nat.le_refl 6)
 have h2:splice row 0 (KE (.sl .nil 0 []))=KE (.sl .nil 0 []):=by unfold splice; simp [hr,KE]
 rw [h2] at h1
 exact h1
theorem AV3 {H:Hp} {b:Nat} {v:AV} (hb:H[b]? = some (ABlk.live 6 [KE v])):D7 Tryz.prog H 54 (.ptr b 0 5)=some v:=by
 rw [DX NW hb (row:=KE v) rfl]; rfl
theorem AVN {H:Hp} {b:Nat} {v w:AV} (hb:H[b]? = some (ABlk.live 6 [KE v])) (hw:IV w=some [w]):FQ Tryz.prog H 54 (.ptr b 0 5) w=some (H.set b (ABlk.live 6 [KE w])):=by
 have s54:szO Tryz.prog 54=some 1:=by kernel_rfl
 rw [NL (cs := [w]) hw s54 hb (Nat.le_refl 6)]
 rfl
theorem AZF {H:Hp} {b:Nat} {v:AV} (hb:H[b]? = some (ABlk.live 6 [KE v])):D7 Tryz.prog H 56 (.ptr b 0 0)=some (.agg (KE v)):=by
 rw [IK AE9 X3 hb rfl (Nat.le_refl 6)]; rfl
theorem AYA (h:Hp) (n:Int):FC Tryz.prog false h 206 1 [(0,.int .u8 n)]=some (.sl .full 1 [[.int .u8 n]],h):=by kernel_rfl
theorem ATN:QT Tryz.prog 206 9 (.sl .full 1 [[.int .u8 (IntKind.u8.wrap (IntKind.i64.wrap (97+((0:Nat):Int))))]])=some (.str (AI6 0)):=by kernel_rfl
theorem ATM:QT Tryz.prog 206 9 (.sl .full 1 [[.int .u8 (IntKind.u8.wrap (IntKind.i64.wrap (97+((1:Nat):Int))))]])=some (.str (AI6 1)):=by kernel_rfl
theorem ATL:QT Tryz.prog 206 9 (.sl .full 1 [[.int .u8 (IntKind.u8.wrap (IntKind.i64.wrap (97+((2:Nat):Int))))]])=some (.str (AI6 2)):=by kernel_rfl
theorem ATK:QT Tryz.prog 206 9 (.sl .full 1 [[.int .u8 (IntKind.u8.wrap (IntKind.i64.wrap (97+((3:Nat):Int))))]])=some (.str (AI6 3)):=by kernel_rfl
theorem lt4 {i:Nat} (hi:i < 4):i=0∨i=1∨i=2∨i=3:=by omega
theorem AXY (i:Nat) (hi:i < 4):QT Tryz.prog 206 9 (.sl .full 1 [[.int .u8 (IntKind.u8.wrap (IntKind.i64.wrap (97+(i:Int))))]])=some (.str (AI6 i)):=by
 rcases lt4 hi with rfl | rfl | rfl | rfl
 ·exact ATN
 ·exact ATM
 ·exact ATL
 ·exact ATK
theorem AWT (s:ByteArray) (xs:List (List AV)):JX Tryz.prog 121 [(0,.str s),(2,.sl .full 2 xs)]=some (.agg [.str s,.int .i64 0,.sl .full 2 xs,.sl .nil 0 []]):=by kernel_rfl
theorem bs54 (h:Hp) (s:ByteArray) (xs:List (List AV)):FC Tryz.prog false h 54 1 [(0,.agg [.str s,.int .i64 0,.sl .full 2 xs,.sl .nil 0 []])]=some (.sl .full 4 [[.str s,.int .i64 0,.sl .full 2 xs,.sl .nil 0 []]],h):=by kernel_rfl
theorem ATR (h:Hp) (s t:ByteArray) (n:Int) (b l:Nat):FC Tryz.prog true h 22 1 [(0,.agg [.str s,.int .i64 n,.int .i64 0,.str t,.sl .nil 0 [],.own b 0 l])]=some (.own h.length 0 1,h ++ [ABlk.live 6 [[.str s,.int .i64 n,.int .i64 0,.str t,.sl .nil 0 [],.own b 0 l]]]):=by kernel_rfl
theorem ATU (b l:Nat):JX Tryz.prog 25 [(0,.own b 0 l)]=some (.agg [.own b 0 l,.sl .nil 0 []]):=by kernel_rfl
theorem AR0 (H:Hp) {c b l:Nat} (hb:H[c]? = some (ABlk.live 2 [[.sl .nil 0 [],.sl .nil 0 []]])):FQ Tryz.prog H 25 (.ptr c 0 0) (.agg [.own b 0 l,.sl .nil 0 []])=some (H.set c (ABlk.live 2 [[.own b 0 l,.sl .nil 0 []]])):=by
 rw [NL (cs := [.own b 0 l,.sl .nil 0 []]) rfl ARW hb (Nat.le_refl 2)]
 rfl
def AUM:List AV := [.sl .any 6 [KE (.sl .any 4 ((List.range 4).map AB8))],.sl .nil 0 []]
theorem AN3 : ∀ (i:Nat),CvRow (AB8 i) (JK (AWQ i)):=fun i=>CvRow.cons rfl (Cv.refl _) (CvRow.cons rfl (Cv.refl _) (CvRow.cons rfl (Cv.refl _) (CvRow.cons rfl (Cv.nil 0 1) CvRow.nil)))
theorem AIV:CvR (.agg AUM) (.agg (DC RU)):=by
 have hbins:Cv (.sl .any 4 ((List.range 4).map AB8)) (.sl .any 4 (((List.range 4).map AWQ).map JK)):=by
  refine Cv.rows (by simp) ?_
  intro i r r' h1 h2
  rw [List.map_map,List.getElem?_map] at h2
  rw [List.getElem?_map] at h1
  cases hr:(List.range 4)[i]? with
  | none=>rw [hr] at h1; cases h1
  | some j =>
    rw [hr] at h1 h2
    cases h1; cases h2
    exact AN3 j
 refine CvR.agg (CvRL.cons (CvR.sl (Cv.rows rfl ?_)) (CvRL.cons (CvR.sl (Cv.nil 0 3)) CvRL.nil))
 intro i r r' h1 h2
 match i,h1,h2 with
 | 0,h1,h2 =>
   cases h1; cases h2
   exact CvRow.cons rfl (Cv.refl _) (CvRow.cons rfl (Cv.refl _) (CvRow.cons rfl (Cv.refl _) (CvRow.cons rfl (Cv.refl _) (CvRow.cons rfl (Cv.nil 0 4) (CvRow.cons rfl hbins CvRow.nil)))))
 | _+1,h1,_=>cases h1
set_option maxHeartbeats 1000000 in
theorem ZW (G:Nat→AV) (h:Hp):PCall (En G) 109 [] h (.agg (DC RU)):=by
 have AW6:PG Tryz.prog 121=some 4:=by kernel_rfl
 have AX3:KD Tryz.prog 121=some 72:=by kernel_rfl
 have hp:PCall (En G) 109 [] h (.agg AUM):=by
  refine ACalls.pure 5 (R:=fun v H => ∃ b c,v = .agg [.own b 0 1,.sl .nil 0 []]∧h.length≤b∧h.length≤c∧H[b]? = some (ABlk.live 6 [KE (.own c 0 4)])∧H[c]? = some (ABlk.live 4 ((List.range 4).map AB8))∧ext h H) ?_ ?_
  rotate_left
  ·rintro v H ⟨b,c,rfl,hbl,hcl,hb,hc,he⟩
   refine ⟨he,?_⟩
   have q1:IM h.length H 3 (.own c 0 4) = .sl .any 4 ((List.range 4).map AB8):=VM AXV (d:=1) (xs:=List.range 4) hcl hc
   have q2:IM h.length H 4 (.own b 0 1) = .sl .any 6 [KE (.sl .any 4 ((List.range 4).map AB8))]:=by
    rw [AG4 h.length H 3 b 0 1 6 _ (by omega) hb]
    have e:((([KE (.own c 0 4)]:List (List AV)).drop 0).take 1).map (·.map (IM h.length H 3)) = [KE (.sl .any 4 ((List.range 4).map AB8))]:=by
     show [[AV.str _,.int .i64 2,.int .i64 0,.str _,.sl .nil 0 [],IM h.length H 3 (.own c 0 4)]]=_
     rw [q1]; rfl
    rw [e,if_pos ⟨Nat.le_refl 1,rfl⟩]
   show AV.agg [IM h.length H 4 (.own b 0 1),.sl .nil 0 []]=_
   rw [q2]; rfl
  refine BX (H:=hint [25] []) (enM G) Tryz.func109 rfl (by kernel_rfl) (by kernel_rfl) (Nat.le_of_ble_eq_true (by kernel_rfl)) ?_
  show awp _ _ _ _ _ (EJ _ [.cell 0 25] _)
  have g0:=C9 (x:=ABlk.live 6 [KE (.sl .nil 0 [])]) (CQ h (ABlk.live 2 [[.sl .nil 0 [],.sl .nil 0 []]]))
  have g1:=CQ (h ++ [ABlk.live 2 [[.sl .nil 0 [],.sl .nil 0 []]]]) (ABlk.live 6 [KE (.sl .nil 0 [])])
  have hx:ext h (h ++ [ABlk.live 2 [[.sl .nil 0 [],.sl .nil 0 []]]] ++ [ABlk.live 6 [KE (.sl .nil 0 [])]]):=((ext.rfl' h).app _).app _
  have hlt:h.length < (h ++ [ABlk.live 2 [[.sl .nil 0 [],.sl .nil 0 []]]]).length:=by simp
  simp -implicitDefEqProofs only [E8,FI,CL,List.contains_cons,List.contains_nil,Nat.reduceBEq,Bool.or_false,A8,BM,AX,AZ,AU,A9,AJ,BA,AR,AC,EQ,AA,AY,AQ,BD,JU,A7,FL,IR,EC,BO,AB,DF,↓reduceIte,Nat.reduceEqDiff,Option.getD_some,Bool.not_false,enP,DY,Option.getD_none,AZ0,AZW,AZX,al56,AY6 (h ++ [ABlk.live 2 [[.sl .nil 0 [],.sl .nil 0 []]]]) [.str ⟨#[]⟩,.int .i64 0,.int .i64 0,.str ⟨#[]⟩,.sl .nil 0 [],.sl .nil 0 []] rfl]
  generalize h ++ [ABlk.live 2 [[.sl .nil 0 [],.sl .nil 0 []]]] ++ [ABlk.live 6 [KE (.sl .nil 0 [])]]=H0 at g0 g1 hx ⊢
  generalize (h ++ [ABlk.live 2 [[.sl .nil 0 [],.sl .nil 0 []]]]).length=pb at g1 hlt ⊢
  have hpl:=CE g1
  refine FO 0 (fun F H=>F 0 = .ptr h.length 0 0∧F 1 = .ptr pb 0 0∧H[h.length]? = some (ABlk.live 2 [[.sl .nil 0 [],.sl .nil 0 []]])∧(∃ w,H[pb]? = some (ABlk.live 6 [KE w])∧outG 4 AB8 H0 (List.range 4) w H)∧ext h H) (fun _ _=>False) ?_ ?_ (fun _ _ hh=>hh.elim)
  ·refine CS (fun n F H => ∃ i w,n+i=4∧F 0 = .ptr h.length 0 0∧F 1 = .ptr pb 0 0∧F 2 = .int .i64 (i:Nat)∧H[h.length]? = some (ABlk.live 2 [[.sl .nil 0 [],.sl .nil 0 []]])∧H[pb]? = some (ABlk.live 6 [KE w])∧outG 4 AB8 H0 (List.range i) w H∧ext h H∧H0.length≤H.length) 4
    ⟨0,.sl .nil 0 [],by simp,by simp -implicitDefEqProofs only [AA,↓reduceIte,Nat.reduceEqDiff],by simp -implicitDefEqProofs only [AA,↓reduceIte,Nat.reduceEqDiff],by simp -implicitDefEqProofs only [AA,↓reduceIte]; rfl,g0,g1,outG.nil _ _ _ _,hx,Nat.le_refl _⟩ ?_
   rintro n F H ⟨i,w,hi,f0,f1,f2,g0,g1,ho,he,hle⟩
   simp -implicitDefEqProofs only [CL,List.contains_cons,List.contains_nil,Nat.reduceBEq,Bool.or_false,A8,AX,BF,AZ,AU,A9,AJ,BA,AR,AC,AA,AY,AQ,BD,BB,BN,AB,CO,↓reduceIte,Option.getD_some,Bool.not_false,enP,DY,f2]
   refine CG (fun hc => ?_) (fun hc => ?_)
   ·have hi':i < 4:=by simp at hc; omega
    obtain ⟨w',H2,hap,ho2,hk2,hl2,hn2,⟨o,ol,rfl⟩,hx2⟩:=ho.app2 AY4 R4 AW6 AX3 (by omega) (by simp; omega) hle i
    rw [← List.range_succ] at ho2
    have nb : ∀ b:Nat,b < H0.length→¬ isB w b:=fun b hb hB=>by have:=ho.lt hB; omega
    have g02:=hk2 _ _ g0 (nb _ (by omega))
    have g12:=hk2 _ _ g1 (nb _ hpl)
    have hol:H0.length≤o:=(ho2.lt (b:=o) rfl).1
    simp -implicitDefEqProofs only [E8,FI,CL,List.contains_cons,List.contains_nil,Nat.reduceBEq,Bool.or_false,A8,BM,AX,BK,AZ,AU,AJ,BA,AR,AC,AA,AY,AQ,BD,BB,IR,EA,BL,BN,ADX,BG,FT,BO,AB,CR,↓reduceIte,Nat.reduceEqDiff,Nat.zero_add,Option.getD_some,Bool.not_false,enP,HZ,AXX,DY,f1,f2,AV3 g1,AYA,AXY i hi',AYK,AX6,AWT,bs54]
    refine FK (v := .own o 0 ol) (h:=H2) hap ?_
    simp -implicitDefEqProofs only [CL,List.contains_cons,List.contains_nil,Nat.reduceBEq,Bool.or_false,AX,AZ,DU,DZ,AU,A9,AJ,BA,AR,AC,EQ,AA,AY,AQ,BD,BB,A7,EC,BN,BG,AB,DF,CR,↓reduceIte,Nat.reduceEqDiff,Nat.zero_add,Option.getD_some,Bool.not_false,enP,HZ,DY,Option.getD_none,f1,AVN (w := .own o 0 ol) g12 rfl,f2,CB (show i < 9223372036854775807 by omega)]
    exact ⟨n - 1,by omega,i+1,_,by omega,by first | exact f0 | trivial,by first | exact f1 | trivial,by first | trivial | rfl,EP g02 (by omega),EI g12,ho2.keep fun b hb=>by
     have hne:b≠pb:=by rintro rfl; have:=ho2.lt hb; omega
     rw [List.getElem?_set_ne (fun e=>hne e.symm)],(hx2 h hx.le he).set (by omega) _,by rw [List.length_set]; omega⟩
   ·have hi':i=4:=by simp at hc; omega
    subst hi'
    simp -implicitDefEqProofs only [CU,DR,II,EF,AA,↓reduceIte,Nat.reduceEqDiff]
    exact ⟨f0,f1,g0,⟨w,g1,ho⟩,he⟩
  ·rintro F H ⟨f0,f1,g0,⟨w,g1,ho⟩,he⟩
   rcases ho with ⟨e,_⟩ | ⟨_,c,c1,rfl,c3⟩
   ·cases e
   have g02:=C9 (x:=ABlk.live 6 [KE (.own c 0 4)]) g0
   have c32:=C9 (x:=ABlk.live 6 [KE (.own c 0 4)]) c3
   have gT:=CQ H (ABlk.live 6 [KE (.own c 0 4)])
   have h0:=CE g0
   have hc0:=hx.le
   have hl4:(List.range 4).length=4:=rfl
   rw [hl4] at g1
   have hstep:=ATR H ⟨#[112]⟩ ⟨#[97]⟩ 2 c 4
   simp -implicitDefEqProofs only [E8,FI,CL,List.contains_cons,List.contains_nil,Nat.reduceBEq,Bool.or_false,A8,AX,AZ,EB,AU,AJ,BA,AR,AC,AA,AY,EA,BL,AB,↓reduceIte,Option.getD_some,Bool.not_false,enP,DY,f0,f1,AZF g1]
   refine FK (v := .own H.length 0 1) (h:=H ++ [ABlk.live 6 [KE (.own c 0 4)]]) hstep ?_
   simp -implicitDefEqProofs only [E8,FI,CL,List.contains_cons,List.contains_nil,Nat.reduceBEq,Bool.or_false,BJ,AZ,AU,A9,AJ,BA,AR,AC,EQ,AA,AY,IR,EC,AB,DF,↓reduceIte,Nat.reduceEqDiff,Option.getD_some,Bool.not_false,enP,DY,Option.getD_none,ATU,f0,AR0 _ g02]
   have g03:((H ++ [ABlk.live 6 [KE (.own c 0 4)]]).set h.length (ABlk.live 2 [[.own H.length 0 1,.sl .nil 0 []]]))[h.length]? = some (ABlk.live 2 [[.own H.length 0 1,.sl .nil 0 []]]):=EI g02
   rw [AAV (b:=h.length) (x := .agg [.own H.length 0 1,.sl .nil 0 []]) (by simp -implicitDefEqProofs only [AA,↓reduceIte,Nat.reduceEqDiff,f0]) (by rw [IK AWU ARW g03 rfl (Nat.le_refl 2)]; rfl)]
   exact ⟨H.length,c,rfl,by omega,by omega,EP gT (by omega),EP c32 (by omega),(he.app _).set (Nat.le_refl _) _⟩
 exact hp.res AIV
theorem AWL (h:Hp) (a b c d:Int):FC Tryz.prog false h 57 4 [(0,.int .i64 a),(1,.int .i64 b),(2,.int .i64 c),(3,.int .i64 d)]=some (.sl .full 1 [[.int .i64 a],[.int .i64 b],[.int .i64 c],[.int .i64 d]],h):=by kernel_rfl
theorem AWM (h:Hp) (a b:Int):FC Tryz.prog false h 57 2 [(0,.int .i64 a),(1,.int .i64 b)]=some (.sl .full 1 [[.int .i64 a],[.int .i64 b]],h):=by kernel_rfl
theorem AWR (xs:List (List AV)):JX Tryz.prog 28 [(0,.sl .full 1 xs)]=some (.agg [.sl .full 1 xs,.sl .nil 0 [],.int .i64 0,.int .i64 0]):=by kernel_rfl
def AKW (xs:List (List AV)):List AV := [.sl .full 1 [[.sl .full 1 xs]],.sl .nil 0 [],.int .i64 0,.int .i64 0]
theorem AWN (h:Hp) (x y z:List (List AV)):FC Tryz.prog false h 37 3 [(0,.agg [.sl .full 1 x,.sl .nil 0 [],.int .i64 0,.int .i64 0]),(1,.agg [.sl .full 1 y,.sl .nil 0 [],.int .i64 0,.int .i64 0]),(2,.agg [.sl .full 1 z,.sl .nil 0 [],.int .i64 0,.int .i64 0])]=some (.sl .full 4 [[.sl .full 1 x,.sl .nil 0 [],.int .i64 0,.int .i64 0],[.sl .full 1 y,.sl .nil 0 [],.int .i64 0,.int .i64 0],[.sl .full 1 z,.sl .nil 0 [],.int .i64 0,.int .i64 0]],h):=by kernel_rfl
theorem UN (l:List Int):CvRow (AKW (l.map encI)) (D5 (cv9 l)):=CvRow.cons rfl (Cv.refl _) (CvRow.cons rfl (Cv.nil 0 1) (CvRow.cons rfl (Cv.refl _) (CvRow.cons rfl (Cv.refl _) CvRow.nil)))
theorem AF2 (G:Nat→AV) (h:Hp):PCall (En G) 110 [] h (.sl .full 4 (exL9.map D5)):=by
 have hp:PCall (En G) 110 [] h (.sl .full 4 [AKW ([1,2,0,0].map encI),AKW ([0,1,1,1].map encI),AKW ([3,0,0,1].map encI)]):=by
  refine BX (H:=Hint.none) (enM G) Tryz.func110 rfl (by kernel_rfl) (by kernel_rfl) (Nat.le_of_ble_eq_true (by kernel_rfl)) ?_
  show awp _ _ _ _ _ (EJ _ [.tmp 0] _)
  simp -implicitDefEqProofs only [E8,FI,A8,AX,BJ,AZ,CK,AU,A9,AL,AO,AJ,BA,AR,AC,AA,AY,AQ,BD,EX,A7,IR,EA,BO,AB,List.map_cons,List.map_nil,↓reduceIte,Nat.reduceEqDiff,Option.getD_some,Bool.not_false,enP,AWL,AWO,AWR,AWN]
  exact ⟨rfl,trivial⟩
 refine hp.res (CvR.sl (Cv.rows rfl ?_))
 intro i r r' h1 h2
 match i,h1,h2 with
 | 0,h1,h2=>cases h1; cases h2; exact UN _
 | 1,h1,h2=>cases h1; cases h2; exact UN _
 | 2,h1,h2=>cases h1; cases h2; exact UN _
 | _+3,h1,_=>cases h1
theorem VR:MoOk RU:=⟨by decide,by decide,fun p hp=>by
 simp only [RU,List.mem_singleton] at hp
 subst hp
 exact ⟨by decide +kernel,by decide,by decide,fun b hb=>by
  obtain ⟨i,hi,rfl⟩:=List.mem_map.1 hb
  rcases lt4 (show i < 4 by simpa using hi) with rfl | rfl | rfl | rfl <;> exact ⟨by decide,by decide,by decide,by decide⟩⟩,fun c hc=>by cases hc⟩
theorem VS : ∀ v∈exL9,CvOk v:=by
 intro v hv
 simp only [exL9,List.mem_cons,List.not_mem_nil,or_false] at hv
 rcases hv with rfl | rfl | rfl <;> exact ⟨by decide,by decide,by decide,by decide⟩
theorem ALW:GQ RU exL9 1024=0:=by decide +kernel
theorem AQB:GQ RU exL9 12=0:=by decide +kernel
theorem AWE:grL RU exL9 = [1,0]:=by decide +kernel
theorem AWC:ndL RU exL9 = [1]:=by decide +kernel
theorem AWA:uqV RU exL9 1=1:=by decide +kernel
theorem AWB:uqE RU exL9 1=0:=by decide +kernel
theorem AWD:leL RU exL9 = [0,1]:=by decide +kernel
theorem AWF:gnL RU exL9 [1,0] = [3,1]:=by decide +kernel
theorem AWG:gnE RU exL9 [1,0]=0:=by decide +kernel
end Go.Proofs.YtocilianjfhifaaGreatDoor.Rk
/- The laws RankGreedy, RankNeeds, RankLeast; no condition but the variables that are laid, the bounds on lengths, and cover.tuple's contract. -/
set_option linter.unusedSimpArgs false
set_option maxRecDepth 8000
namespace Go.Proofs.YtocilianjfhifaaGreatDoor.Rk
open Go Go.Proofs Go.Proofs.YtocilianjfhifaaGreatDoor.Sm Go.Proofs.YtocilianjfhifaaGreatDoor.Bins Go.Proofs.YtocilianjfhifaaGreatDoor.Cov Go.RowKit

theorem APN {α:Type} (a:α) (l r:List α):List.append (a :: l) r=a :: List.append l r:=rfl
theorem AS5 {α:Type} (r:List α):List.append [] r=r:=rfl
theorem lnN (s:SM) (xs:List Nat):JD Tryz.prog 57 (.sl s 1 (xs.map EU))=some (.int .i64 (xs.length:Nat)):=by rw [GV.1,List.length_map]
theorem ixN {xs:List Nat} {k:Nat} (hk:k < xs.length) (s:SM) (H:Hp):KL 1 H (.sl s 1 (xs.map EU)) (.int .i64 (k:Int))=some (.fptr 1 (xs.map EU) k 0):=CW hk
theorem ldN {xs:List Nat} {k:Nat} (hk:k < xs.length) (H:Hp):D7 Tryz.prog H 3 (.fptr 1 (xs.map EU) k 0)=some (.int .i64 (xs[k]:Nat)):=by rw [CP ag3 hk]; rfl
set_option maxHeartbeats 1000000 in
theorem KX (G:Nat→AV) (hG:GOk G) (hT:I4 G) (h:Hp):PCall (En G) 54 [] h (.bool true):=by
 have hn:exL9.length≤1048576:=by decide
 have p1:=PX G hG hT RU exL9 .full VR VS hn h
 rw [AWE,ALW] at p1
 have p2:=TC G hG hT RU exL9 .full VR VS hn h
 rw [AWC,ALW] at p2
 have p3:=XZ G hG hT RU exL9 .full 1 VR VS hn h
 rw [AWA,AWB] at p3
 have p4:=U4 G hG hT RU exL9 .full VR VS hn h
 rw [AWD,AQB] at p4
 have p5:=RJ G hG hT RU exL9 .full .full [1,0] VR VS hn (by decide) h
 rw [AWF,AWG] at p5
 have a1:=lnN (nm [1,0]) [1,0]
 have a2:=fun H=>ixN (xs := [1,0]) (k:=0) (by decide) (nm [1,0]) H
 have a3:=fun H=>ldN (xs := [1,0]) (k:=0) (by decide) H
 have b1:=lnN (nm [1]) [1]
 have b2:=fun H=>ixN (xs := [1]) (k:=0) (by decide) (nm [1]) H
 have b3:=fun H=>ldN (xs := [1]) (k:=0) (by decide) H
 have c1:=lnN (nm [0,1]) [0,1]
 have c2:=fun H=>ixN (xs := [0,1]) (k:=1) (by decide) (nm [0,1]) H
 have c3:=fun H=>ldN (xs := [0,1]) (k:=1) (by decide) H
 have d1:=lnN (nm [3,1]) [3,1]
 have d2:=fun H=>ixN (xs := [3,1]) (k:=0) (by decide) (nm [3,1]) H
 have d3:=fun H=>ldN (xs := [3,1]) (k:=0) (by decide) H
 have d4:=fun H=>ixN (xs := [3,1]) (k:=1) (by decide) (nm [3,1]) H
 have d5:=fun H=>ldN (xs := [3,1]) (k:=1) (by decide) H
 generalize AV.sl (nm [1,0]) 1 ([1,0].map EU)=v1 at p1 a1 a2
 generalize AV.sl (nm [1]) 1 ([1].map EU)=v2 at p2 b1 b2
 generalize AV.sl (nm [0,1]) 1 ([0,1].map EU)=v4 at p4 c1 c2
 generalize AV.sl (nm [3,1]) 1 ([3,1].map EU)=v5 at p5 d1 d2 d4
 generalize AV.fptr 1 ([1,0].map EU) 0 0=q1 at a2 a3
 generalize AV.fptr 1 ([1].map EU) 0 0=q2 at b2 b3
 generalize AV.fptr 1 ([0,1].map EU) 1 0=q4 at c2 c3
 generalize AV.fptr 1 ([3,1].map EU) 0 0=q5 at d2 d3
 generalize AV.fptr 1 ([3,1].map EU) 1 0=q6 at d4 d5
 have a1':JD Tryz.prog 57 v1=some (.int .i64 2):=a1
 have a2' : ∀ H,KL 1 H v1 (.int .i64 0)=some q1:=a2
 have a3' : ∀ H,D7 Tryz.prog H 3 q1=some (.int .i64 1):=a3
 have b1':JD Tryz.prog 57 v2=some (.int .i64 1):=b1
 have b2' : ∀ H,KL 1 H v2 (.int .i64 0)=some q2:=b2
 have b3' : ∀ H,D7 Tryz.prog H 3 q2=some (.int .i64 1):=b3
 have c1':JD Tryz.prog 57 v4=some (.int .i64 2):=c1
 have c2' : ∀ H,KL 1 H v4 (.int .i64 1)=some q4:=c2
 have c3' : ∀ H,D7 Tryz.prog H 3 q4=some (.int .i64 1):=c3
 have d1':JD Tryz.prog 57 v5=some (.int .i64 2):=d1
 have d2' : ∀ H,KL 1 H v5 (.int .i64 0)=some q5:=d2
 have d3' : ∀ H,D7 Tryz.prog H 3 q5=some (.int .i64 3):=d3
 have d4' : ∀ H,KL 1 H v5 (.int .i64 1)=some q6:=d4
 have d5' : ∀ H,D7 Tryz.prog H 3 q6=some (.int .i64 1):=d5
 clear a1 a2 a3 b1 b2 b3 c1 c2 c3 d1 d2 d3 d4 d5
 have e0:((0:Int) == 0)=true:=rfl
 have e1:((1:Int) == 1)=true:=rfl
 have e2:((2:Int) == 2)=true:=rfl
 have e3:((3:Int) == 3)=true:=rfl
 have e1n:(((1:Nat):Int) == 1)=true:=rfl
 refine BX (H:=Hint.none) (enM G) Tryz.func54 rfl (by kernel_rfl) (by kernel_rfl) (Nat.le_of_ble_eq_true (by kernel_rfl)) ?_
 show awp _ _ _ _ _ (EJ _ [.tmp 0] _)
 simp -implicitDefEqProofs only [A8,AX,AZ,AU,A9,AL,AO,AJ,BA,AR,AC,AQ,BS,BI,A7,BV,BR,List.map_nil,List.append_nil,Option.getD_some,Bool.not_false,enP]
 refine (ZW G h).use ?_
 simp -implicitDefEqProofs only [AU,AL,AO,AJ,BA,AR,AC,BS,BV,BR,List.map_nil,List.append_nil,Option.getD_some,Bool.not_false]
 refine (AF2 G h).use ?_
 simp -implicitDefEqProofs only [AU,AL,AO,AJ,BA,AR,AC,AA,AY,BS,BV,BR,List.map_cons,List.map_nil,List.append_nil,↓reduceIte,Nat.reduceEqDiff,Option.getD_some,Bool.not_false]
 refine p1.use ?_
 simp -implicitDefEqProofs only [List.getElem?_cons_zero,List.getElem?_cons_succ,A8,AX,AZ,AU,A9,AL,AO,AJ,BA,AR,AC,AA,AY,BS,BB,A7,D8,FB,BV,BR,AB,List.map_nil,List.append_nil,↓reduceIte,Nat.reduceEqDiff,Option.getD_some,Bool.not_false]
 refine (ZW G h).use ?_
 simp -implicitDefEqProofs only [AU,AL,AO,AJ,BA,AR,AC,BS,BV,BR,List.map_nil,List.append_nil,Option.getD_some,Bool.not_false]
 refine (AF2 G h).use ?_
 simp -implicitDefEqProofs only [AU,AL,AO,AJ,BA,AR,AC,AA,AY,BS,BV,BR,List.map_cons,List.map_nil,List.append_nil,↓reduceIte,Nat.reduceEqDiff,Option.getD_some,Bool.not_false]
 refine p2.use ?_
 simp -implicitDefEqProofs only [List.getElem?_cons_zero,List.getElem?_cons_succ,A8,AX,AZ,AU,A9,AL,AO,AJ,BA,AR,AC,AA,AY,BS,BB,A7,D8,FB,BV,BR,AB,List.map_nil,List.append_nil,↓reduceIte,Nat.reduceEqDiff,Option.getD_some,Bool.not_false]
 refine (ZW G h).use ?_
 simp -implicitDefEqProofs only [AU,AL,AO,AJ,BA,AR,AC,BS,BV,BR,List.map_nil,List.append_nil,Option.getD_some,Bool.not_false]
 refine (AF2 G h).use ?_
 simp -implicitDefEqProofs only [AU,AL,AO,AJ,BA,AR,AC,AA,AY,AQ,BS,BD,BV,BR,List.map_cons,List.map_nil,List.append_nil,↓reduceIte,Nat.reduceEqDiff,Option.getD_some,Bool.not_false]
 refine p3.use ?_
 simp -implicitDefEqProofs only [List.getElem?_cons_zero,List.getElem?_cons_succ,A8,AX,AZ,AU,A9,AL,AO,AJ,BA,AR,AC,AA,AY,BS,BB,A7,D8,FB,BV,BR,AB,List.map_nil,List.append_nil,↓reduceIte,Nat.reduceEqDiff,Option.getD_some,Bool.not_false]
 refine (ZW G h).use ?_
 simp -implicitDefEqProofs only [AU,AL,AO,AJ,BA,AR,AC,BS,BV,BR,List.map_nil,List.append_nil,Option.getD_some,Bool.not_false]
 refine (AF2 G h).use ?_
 simp -implicitDefEqProofs only [AU,AL,AO,AJ,BA,AR,AC,AA,AY,BS,BV,BR,List.map_cons,List.map_nil,List.append_nil,↓reduceIte,Nat.reduceEqDiff,Option.getD_some,Bool.not_false]
 refine p4.use ?_
 simp -implicitDefEqProofs only [List.getElem?_cons_zero,List.getElem?_cons_succ,A8,AX,AZ,AU,A9,AL,AO,AJ,BA,AR,AC,AA,AY,BS,BB,A7,D8,FB,BV,BR,AB,List.map_nil,List.append_nil,↓reduceIte,Nat.reduceEqDiff,Option.getD_some,Bool.not_false]
 refine (ZW G h).use ?_
 simp -implicitDefEqProofs only [AU,AL,AO,AJ,BA,AR,AC,BS,BV,BR,List.map_nil,List.append_nil,Option.getD_some,Bool.not_false]
 refine (AF2 G h).use ?_
 simp -implicitDefEqProofs only [E8,FI,AU,AL,AO,AJ,BA,AR,AC,AA,AY,AQ,BS,BD,EA,BV,BR,BO,List.map_cons,List.map_nil,List.append_nil,↓reduceIte,Nat.reduceEqDiff,Option.getD_some,Bool.not_false,enP,AWM]
 refine p5.use ?_
 simp -implicitDefEqProofs only [List.getElem?_cons_zero,List.getElem?_cons_succ,A8,AX,BJ,AZ,CK,AU,A9,BH,BQ,BZ,FZ,AL,AO,AJ,BA,AR,AC,AA,AY,AQ,BD,BI,BB,A7,CF,DJ,BL,BN,BU,D8,FB,C8,AB,D9,↓reduceIte,Nat.reduceEqDiff,Option.getD_some,Bool.not_false,enP,IL,APN,AS5,e0,e1,e1n,e2,e3,a1',a2',a3',b1',b2',b3',c1',c2',c3',d1',d2',d3',d4',d5']
 exact ⟨trivial,trivial⟩
theorem AEG (m:Mo) (l:List Cvr):(grL m l).length≤l.length∨l.length≤1048576→(grL m l).length≤1048576:=by
 suffices hs:(grL m l).length≤l.length∧(grL m l).length≤1024 from fun _=>by omega
 unfold grL
 split
 ·rename_i hz
  have hF:=Q8 (goals m) (hits l) l.length l.length [] (Falls.nil _ _ _)
  have h1:=WI (b:=List.range l.length) hF.nodup fun i hi=>by simpa using hF.lt i hi
  rw [List.length_range] at h1
  have:=(I6.1 hz).2.1
  omega
 ·simp
theorem ATA (m:Mo) (l:List Cvr) (xs:List Int):(gnL m l xs).length≤xs.length:=by
 unfold gnL
 split
 ·unfold gains; simp
 ·simp
theorem AK6 (m:Mo) (l:List Cvr):(ndL m l).length≤l.length:=by
 unfold ndL
 split
 ·unfold needed; exact Nat.le_trans (List.length_filter_le _ _) (by simp)
 ·simp
theorem AS1 (m:Mo) (l:List Cvr):(leL m l).length≤l.length:=by
 unfold leL
 split
 ·cases hc:least (goals m) (hits l) l.length with
  | none=>simp
  | some x =>
    have:=AGP (goals m) (hits l) l.length hc (o:=List.range l.length) (by simp) (ACM _ _ _)
    simpa using this
 ·simp
theorem AV4 (G:Nat→AV) (hG:GOk G) (hT:I4 G) (q:Qs) (hq:QOk q) (t:SM) (xs:List Int) (hxn:xs.length≤1048576) (h:Hp):PCall (En G) 10 [.agg (JI q),.sl t 1 (xs.map encI)] h (.bool true):=by
 refine ACalls.pure0 rfl ?_
 refine BX (H:=Hint.none) (enM G) Tryz.func10 rfl (by kernel_rfl) (by kernel_rfl) (Nat.le_of_ble_eq_true (by kernel_rfl)) ?_
 show awp _ _ _ _ _ (EJ _ [.tmp 4] _)
 have gq:=CQ h (ABlk.live 3 [JI q])
 have hx:ext h (h ++ [ABlk.live 3 [JI q]]):=(ext.rfl' h).app _
 simp -implicitDefEqProofs only [A8,AX,AZ,AU,A9,AL,AO,AJ,BA,AR,AC,AA,AY,AQ,BI,A7,EW,BL,BO,BC,↓reduceIte,Nat.reduceEqDiff,Option.getD_some,Bool.not_false,enP,bxQ]
 generalize h ++ [ABlk.live 3 [JI q]]=H at gq hx ⊢
 have hmain : ∀ c:Bool,c=true∨c=false:=fun c=>by cases c <;> simp
 simp -implicitDefEqProofs only [AU,AL,AO,AJ,BA,AR,AC,AA,AY,BS,BV,BR,AB,List.map_cons,List.map_nil,List.append_nil,↓reduceIte,Option.getD_some,Bool.not_false,ldQ gq]
 refine (QL G q hq H).use ?_
 intro b
 have hl1:=AEG q.m q.l (.inr hq.n)
 have hl2:=ATA q.m q.l xs
 have e1:(GQ q.m q.l 1024 == GQ q.m q.l 1024)=true:=by simp
 have e2:(gnE q.m q.l xs == gnE q.m q.l xs)=true:=by simp
 cases b
 ·simp -implicitDefEqProofs only [A8,AX,BF,AZ,DI,AU,A9,BH,BQ,BZ,FN,AL,AO,AJ,BA,AR,AC,AA,EM,AY,AQ,BS,BI,BB,CF,DJ,F9,BV,BR,AB,ER,List.map_nil,List.append_nil,↓reduceIte,Nat.reduceEqDiff,Option.getD_some,Bool.not_false]
  refine (KX G hG hT H).use ?_
  simp -implicitDefEqProofs only [BJ,AZ,CJ,CK,AU,A9,AL,AO,AJ,BA,AR,AC,AA,AY,A7,↓reduceIte,Option.getD_some,Bool.not_false]
  exact ⟨trivial,hx⟩
 simp -implicitDefEqProofs only [BF,AZ,AU,A9,BH,BQ,BZ,EH,AL,AO,AJ,BA,AR,AC,AA,AY,AQ,BD,BI,BB,CF,DK,BN,F9,C8,AB,EK,ER,BC,BP,↓reduceIte,Nat.reduceEqDiff,Option.getD_some,Bool.not_true,Bool.not_false,enP,GV,List.length_map]
 refine CG (fun hc => ?_) (fun hc => ?_)
 ·simp -implicitDefEqProofs only [A8,AX,AU,AL,AO,AJ,BA,AR,BS,BV,BR,List.map_nil,List.append_nil,Option.getD_some,Bool.not_false]
  refine (KX G hG hT H).use ?_
  simp -implicitDefEqProofs only [BJ,AZ,CJ,CK,AU,A9,AL,AO,AJ,BA,AR,AC,AA,AY,A7,↓reduceIte,Option.getD_some,Bool.not_false]
  exact ⟨trivial,hx⟩
 simp -implicitDefEqProofs only [A8,AX,BK,AZ,AU,AL,AO,AJ,BA,AR,AC,AA,AY,BS,BL,BG,BV,BR,AB,List.map_cons,List.map_nil,List.append_nil,↓reduceIte,Nat.reduceEqDiff,Nat.add_zero,Nat.zero_add,Option.getD_some,Bool.not_false,enP,J3,JM,P6 gq,OD gq]
 refine (PX G hG hT q.m q.l q.s hq.m hq.l hq.n H).use ?_
 simp -implicitDefEqProofs only [List.getElem?_cons_zero,List.getElem?_cons_succ,A8,AX,AZ,AU,A9,AL,AO,AJ,BA,AR,AC,AA,AY,BS,BB,A7,BL,BG,D8,FB,BV,BR,AB,List.map_cons,List.map_nil,List.append_nil,↓reduceIte,Nat.reduceEqDiff,Nat.add_zero,Nat.zero_add,Option.getD_some,Bool.not_false,enP,J3,JM,P6 gq,OD gq]
 refine (AKI G q.m q.l q.s hq.m hq.l hq.n H).use ?_
 simp -implicitDefEqProofs only [List.getElem?_cons_zero,List.getElem?_cons_succ,A8,AX,AZ,AU,A9,AL,AO,AJ,BA,AR,AC,AA,AY,BS,BB,A7,BL,BG,D8,FB,BV,BR,AB,BC,BP,List.map_cons,List.map_nil,List.append_nil,↓reduceIte,Nat.reduceEqDiff,Nat.add_zero,Nat.zero_add,Option.getD_some,Bool.not_false,enP,J3,JM,P6 gq,OD gq]
 refine (RJ G hG hT q.m q.l q.s t xs hq.m hq.l hq.n hxn H).use ?_
 simp -implicitDefEqProofs only [List.getElem?_cons_zero,List.getElem?_cons_succ,A8,AX,AZ,AU,A9,AL,AO,AJ,BA,AR,AC,AA,AY,BS,BB,A7,BL,BG,D8,FB,BV,BR,AB,BC,BP,List.map_cons,List.map_nil,List.append_nil,↓reduceIte,Nat.reduceEqDiff,Nat.add_zero,Nat.zero_add,Option.getD_some,Bool.not_false,enP,J3,JM,P6 gq,OD gq]
 refine (AOF G q.m q.l q.s t xs hq.m hq.l hq.n hxn H).use ?_
 simp -implicitDefEqProofs only [List.getElem?_cons_zero,List.getElem?_cons_succ,A8,AX,AZ,AU,A9,AL,AO,AJ,BA,AR,AC,AA,AY,BS,BB,A7,D8,FB,BV,BR,AB,List.map_cons,List.map_nil,List.append_nil,↓reduceIte,Nat.reduceEqDiff,Option.getD_some,Bool.not_false]
 refine (OC G (grL q.m q.l) _ _ hl1 H).use ?_
 simp -implicitDefEqProofs only [AU,BH,BQ,BZ,FZ,AL,AO,AJ,BA,AR,AC,AA,AY,AQ,BS,BI,BB,CF,DJ,BN,BV,BR,AB,D9,List.map_cons,List.map_nil,List.append_nil,↓reduceIte,Nat.reduceEqDiff,Option.getD_some,Bool.not_false,enP,e1]
 refine (OC G (gnL q.m q.l xs) _ _ (by omega) H).use ?_
 simp -implicitDefEqProofs only [AU,BH,BQ,BZ,FZ,AL,AO,AJ,BA,AR,AC,AA,AY,AQ,BS,BI,BB,CF,DJ,BN,BV,BR,AB,D9,List.map_nil,List.append_nil,↓reduceIte,Nat.reduceEqDiff,Option.getD_some,Bool.not_false,enP,e2]
 refine (KX G hG hT H).use ?_
 simp -implicitDefEqProofs only [BJ,AZ,CK,AU,A9,AL,AO,AJ,BA,AR,AC,AA,AY,AQ,BI,A7,CF,DJ,↓reduceIte,Nat.reduceEqDiff,Option.getD_some,Bool.not_false]
 exact ⟨trivial,hx⟩
theorem AWZ (G:Nat→AV) (hG:GOk G) (hT:I4 G) (q:Qs) (hq:QOk q) (i:Int) (h:Hp):PCall (En G) 11 [.agg (JI q),.int .i64 i] h (.bool true):=by
 refine ACalls.pure0 rfl ?_
 refine BX (H:=Hint.none) (enM G) Tryz.func11 rfl (by kernel_rfl) (by kernel_rfl) (Nat.le_of_ble_eq_true (by kernel_rfl)) ?_
 show awp _ _ _ _ _ (EJ _ [.tmp 4] _)
 have gq:=CQ h (ABlk.live 3 [JI q])
 have hx:ext h (h ++ [ABlk.live 3 [JI q]]):=(ext.rfl' h).app _
 simp -implicitDefEqProofs only [A8,AX,AZ,AU,A9,AL,AO,AJ,BA,AR,AC,AA,AY,AQ,BI,A7,EW,BL,BO,BC,↓reduceIte,Nat.reduceEqDiff,Option.getD_some,Bool.not_false,enP,bxQ]
 generalize h ++ [ABlk.live 3 [JI q]]=H at gq hx ⊢
 simp -implicitDefEqProofs only [AU,AL,AO,AJ,BA,AR,AC,AA,AY,BS,BV,BR,AB,List.map_cons,List.map_nil,List.append_nil,↓reduceIte,Option.getD_some,Bool.not_false,ldQ gq]
 refine (QL G q hq H).use ?_
 intro b
 have hqn:=hq.n
 have hl1:=AK6 q.m q.l
 have e1:(GQ q.m q.l 1024 == GQ q.m q.l 1024)=true:=by simp
 have e2:(((uqV q.m q.l i:Nat):Int) == ((uqV q.m q.l i:Nat):Int))=true:=by simp
 have e3:(uqE q.m q.l i == uqE q.m q.l i)=true:=by simp
 cases b
 ·simp -implicitDefEqProofs only [A8,AX,BF,AZ,DI,AU,A9,AL,AO,AJ,BA,AR,AC,AA,AY,BS,F9,BV,BR,AB,ER,List.map_nil,List.append_nil,↓reduceIte,Option.getD_some,Bool.not_false]
  refine (KX G hG hT H).use ?_
  simp -implicitDefEqProofs only [BJ,AZ,CJ,CK,AU,A9,AL,AO,AJ,BA,AR,AC,AA,AY,A7,↓reduceIte,Option.getD_some,Bool.not_false]
  exact ⟨trivial,hx⟩
 simp -implicitDefEqProofs only [A8,AX,BK,BF,AZ,DL,AU,A9,AL,AO,AJ,BA,AR,AC,AA,AY,BS,BL,F9,BG,BV,BR,AB,ER,List.map_cons,List.map_nil,List.append_nil,↓reduceIte,Nat.reduceEqDiff,Nat.add_zero,Nat.zero_add,Option.getD_some,Bool.not_true,Bool.not_false,enP,J3,JM,P6 gq,OD gq]
 refine (TC G hG hT q.m q.l q.s hq.m hq.l hq.n H).use ?_
 simp -implicitDefEqProofs only [List.getElem?_cons_zero,List.getElem?_cons_succ,A8,AX,AZ,AU,A9,AL,AO,AJ,BA,AR,AC,AA,AY,BS,BB,A7,BL,BG,D8,FB,BV,BR,AB,List.map_cons,List.map_nil,List.append_nil,↓reduceIte,Nat.reduceEqDiff,Nat.add_zero,Nat.zero_add,Option.getD_some,Bool.not_false,enP,J3,JM,P6 gq,OD gq]
 refine (AKH G q.m q.l q.s hq.m hq.l hq.n H).use ?_
 simp -implicitDefEqProofs only [List.getElem?_cons_zero,List.getElem?_cons_succ,A8,AX,AZ,AU,A9,AL,AO,AJ,BA,AR,AC,AA,AY,BS,BB,A7,BL,BG,D8,FB,BV,BR,AB,BC,BP,List.map_cons,List.map_nil,List.append_nil,↓reduceIte,Nat.reduceEqDiff,Nat.add_zero,Nat.zero_add,Option.getD_some,Bool.not_false,enP,J3,JM,P6 gq,OD gq]
 refine (XZ G hG hT q.m q.l q.s i hq.m hq.l hq.n H).use ?_
 simp -implicitDefEqProofs only [List.getElem?_cons_zero,List.getElem?_cons_succ,A8,AX,AZ,AU,A9,AL,AO,AJ,BA,AR,AC,AA,AY,BS,BB,A7,BL,BG,D8,FB,BV,BR,AB,BC,BP,List.map_cons,List.map_nil,List.append_nil,↓reduceIte,Nat.reduceEqDiff,Nat.add_zero,Nat.zero_add,Option.getD_some,Bool.not_false,enP,J3,JM,P6 gq,OD gq]
 refine (AKF G q.m q.l q.s i hq.m hq.l hq.n H).use ?_
 simp -implicitDefEqProofs only [List.getElem?_cons_zero,List.getElem?_cons_succ,A8,AX,AZ,AU,A9,AL,AO,AJ,BA,AR,AC,AA,AY,BS,BB,A7,D8,FB,BV,BR,AB,List.map_cons,List.map_nil,List.append_nil,↓reduceIte,Nat.reduceEqDiff,Option.getD_some,Bool.not_false]
 refine (OC G (ndL q.m q.l) _ _ (by omega) H).use ?_
 simp -implicitDefEqProofs only [AU,BH,BQ,BZ,FZ,AL,AO,AJ,BA,AR,AC,AA,AY,AQ,BS,BI,BB,CF,DJ,BN,BV,BR,AB,D9,List.map_nil,List.append_nil,↓reduceIte,Nat.reduceEqDiff,Option.getD_some,Bool.not_false,enP,e1,e2,e3]
 refine (KX G hG hT H).use ?_
 simp -implicitDefEqProofs only [BJ,AZ,CK,AU,A9,AL,AO,AJ,BA,AR,AC,AA,AY,AQ,BI,A7,CF,DJ,↓reduceIte,Nat.reduceEqDiff,Option.getD_some,Bool.not_false]
 exact ⟨trivial,hx⟩
theorem AW4 (G:Nat→AV) (hG:GOk G) (hT:I4 G) (q:Qs) (hq:QOk q) (h:Hp):PCall (En G) 12 [.agg (JI q)] h (.bool true):=by
 refine ACalls.pure0 rfl ?_
 refine BX (H:=Hint.none) (enM G) Tryz.func12 rfl (by kernel_rfl) (by kernel_rfl) (Nat.le_of_ble_eq_true (by kernel_rfl)) ?_
 show awp _ _ _ _ _ (EJ _ [.tmp 2] _)
 have gq:=CQ h (ABlk.live 3 [JI q])
 have hx:ext h (h ++ [ABlk.live 3 [JI q]]):=(ext.rfl' h).app _
 simp -implicitDefEqProofs only [A8,AX,AZ,AU,A9,AL,AO,AJ,BA,AR,AC,AA,AY,AQ,BI,A7,EW,BL,BO,BC,↓reduceIte,Nat.reduceEqDiff,Option.getD_some,Bool.not_false,enP,bxQ]
 generalize h ++ [ABlk.live 3 [JI q]]=H at gq hx ⊢
 simp -implicitDefEqProofs only [AU,AL,AO,AJ,BA,AR,AC,AA,AY,BS,BV,BR,AB,List.map_cons,List.map_nil,List.append_nil,↓reduceIte,Option.getD_some,Bool.not_false,ldQ gq]
 refine (QL G q hq H).use ?_
 intro b
 have hqn:=hq.n
 have hl1:=AS1 q.m q.l
 have e1:(GQ q.m q.l 12 == GQ q.m q.l 12)=true:=by simp
 cases b
 ·simp -implicitDefEqProofs only [A8,AX,BF,AZ,DI,AU,A9,AL,AO,AJ,BA,AR,AC,AA,AY,BS,F9,BV,BR,AB,ER,List.map_nil,List.append_nil,↓reduceIte,Option.getD_some,Bool.not_false]
  refine (KX G hG hT H).use ?_
  simp -implicitDefEqProofs only [BJ,AZ,CJ,CK,AU,A9,AL,AO,AJ,BA,AR,AC,AA,AY,A7,↓reduceIte,Option.getD_some,Bool.not_false]
  exact ⟨trivial,hx⟩
 simp -implicitDefEqProofs only [A8,AX,BK,BF,AZ,DL,AU,A9,AL,AO,AJ,BA,AR,AC,AA,AY,BS,BL,F9,BG,BV,BR,AB,ER,List.map_cons,List.map_nil,List.append_nil,↓reduceIte,Nat.reduceEqDiff,Nat.add_zero,Nat.zero_add,Option.getD_some,Bool.not_true,Bool.not_false,enP,J3,JM,P6 gq,OD gq]
 refine (U4 G hG hT q.m q.l q.s hq.m hq.l hq.n H).use ?_
 simp -implicitDefEqProofs only [List.getElem?_cons_zero,List.getElem?_cons_succ,A8,AX,AZ,AU,A9,AL,AO,AJ,BA,AR,AC,AA,AY,BS,BB,A7,BL,BG,D8,FB,BV,BR,AB,List.map_cons,List.map_nil,List.append_nil,↓reduceIte,Nat.reduceEqDiff,Nat.add_zero,Nat.zero_add,Option.getD_some,Bool.not_false,enP,J3,JM,P6 gq,OD gq]
 refine (AOE G q.m q.l q.s hq.m hq.l hq.n H).use ?_
 simp -implicitDefEqProofs only [List.getElem?_cons_zero,List.getElem?_cons_succ,A8,AX,AZ,AU,A9,AL,AO,AJ,BA,AR,AC,AA,AY,BS,BB,A7,D8,FB,BV,BR,AB,List.map_cons,List.map_nil,List.append_nil,↓reduceIte,Nat.reduceEqDiff,Option.getD_some,Bool.not_false]
 refine (OC G (leL q.m q.l) _ _ (by omega) H).use ?_
 simp -implicitDefEqProofs only [AU,BH,BQ,BZ,FZ,AL,AO,AJ,BA,AR,AC,AA,AY,AQ,BS,BI,BB,CF,DJ,BN,BV,BR,AB,D9,List.map_nil,List.append_nil,↓reduceIte,Nat.reduceEqDiff,Option.getD_some,Bool.not_false,enP,e1]
 refine (KX G hG hT H).use ?_
 simp -implicitDefEqProofs only [BJ,AZ,CK,AU,A9,AL,AO,AJ,BA,AR,AC,AA,AY,AQ,BI,A7,CF,DJ,↓reduceIte,Nat.reduceEqDiff,Option.getD_some,Bool.not_false]
 exact ⟨trivial,hx⟩
end Go.Proofs.YtocilianjfhifaaGreatDoor.Rk
/- The laws RankReaches, RankContains; no condition but the variables that are laid, the bounds on lengths, and cover.tuple's contract. -/
set_option linter.unusedSimpArgs false
set_option maxRecDepth 8000
namespace Go.Proofs.YtocilianjfhifaaGreatDoor.Rk
open Go Go.Proofs Go.Proofs.YtocilianjfhifaaGreatDoor.Sm Go.Proofs.YtocilianjfhifaaGreatDoor.Bins Go.Proofs.YtocilianjfhifaaGreatDoor.Cov Go.RowKit

def toI (o:List Nat):List Int:=o.map fun n:Nat=>(n:Int)
theorem AKQ (o:List Nat):(toI o).map encI=o.map EU:=by unfold toI; rw [List.map_map]; rfl
theorem AKP (o:List Nat):(toI o).map Int.toNat=o:=by
 unfold toI
 rw [List.map_map]
 exact List.map_id'' (fun n=>Int.toNat_natCast n) o
theorem YI (o:List Nat):(toI o).length=o.length:=by unfold toI; rw [List.length_map]
theorem ACQ {n:Nat} {o:List Nat} (hlt : ∀ i∈o,i < n) (hnd:o.Nodup):SB n (toI o)=true:=by
 rw [QD]
 intro i hi
 have hi':i < o.length:=by rw [YI] at hi; exact hi
 have hv:(toI o)[i]=((o[i]:Nat):Int):=List.getElem_map _
 rw [YM hi,hv]
 have h1:=hlt _ (List.getElem_mem hi')
 have h2:hasB ((toI o).take i) ((o[i]:Nat):Int)=false:=by
  unfold hasB
  rw [List.any_eq_false]
  intro x hx
  obtain ⟨j,hj,rfl⟩:=List.mem_take_iff_getElem.1 hx
  have hj':j < o.length:=by rw [YI] at hj; omega
  have e:(toI o)[j]=((o[j]:Nat):Int):=List.getElem_map _
  rw [e]
  simp only [beq_iff_eq]
  intro e2
  have e3:o[j]=o[i]:=by omega
  have:=(List.getElem_inj hnd).1 e3
  omega
 rw [h2]
 simp
 omega
theorem AOZ (a b:List Nat):M4 (a ++ b)=M4 a+M4 b:=by
 have key : ∀ (b:List Nat) (s:Nat),b.foldl (·+·) s=s+b.foldl (·+·) 0:=by
  intro b
  induction b with
  | nil=>intro s; rfl
  | cons x b ih=>intro s; rw [List.foldl_cons,List.foldl_cons,ih (s+x),ih (0+x)]; omega
 unfold M4
 rw [List.foldl_append,key b]
theorem OA (l:List Nat) (i:Nat):M4 (l.take i)≤M4 l:=by
 have h1:=AOZ (l.take i) (l.drop i)
 rw [List.take_append_drop] at h1
 omega
theorem ACH (l:List Nat) (i:Nat) (hi:i < l.length):M4 (l.take (i+1))=M4 (l.take i)+l[i]:=by rw [List.take_succ_eq_append_getElem hi,AFT]
theorem ACZ {γ:Type} (gs:List γ) (P:Nat→γ→Bool) (o:List Nat):(gains gs P o).length=o.length:=by unfold gains; simp
theorem AAG {γ:Type} (gs:List γ) (P:Nat→γ→Bool) (o:List Nat) {k:Nat} (hk:k < (gains gs P o).length):(gains gs P o)[k]=gain gs P (o.take k) (o.getD k 0):=by unfold gains; simp
/-- what Greedy's list is -/
structure GrOk (m:Mo) (l:List Cvr) (o:List Nat):Prop where
 F:Falls (goals m) (hits l) l.length o
 Z : ∀ i,i < l.length→gain (goals m) (hits l) o i=0
theorem AUT {m:Mo} {l:List Cvr} (hz:GQ m l 1024=0):GrOk m l (grL m l):=by
 have e:grL m l=KR (goals m) (hits l) l.length l.length []:=by unfold grL; rw [if_pos hz]
 rw [e]
 exact ⟨Q8 _ _ _ _ _ (Falls.nil _ _ _),AAC _ _ _ _ _ (AQT _ _ _ _)⟩
theorem ACK {m:Mo} {l:List Cvr} (h1:FH m=0) (h3 : ∀ v∈l,E9 m v=true) {o:List Nat} (ho : ∀ i∈o,i < l.length) (hz : ∀ i,i < l.length→gain (goals m) (hits l) o i=0) :
  PZ m (LF m (sel l o))=PZ m (LF m (sel l (List.range l.length))):=by
 rw [VB h1 h3 ho,VB h1 h3 (fun i hi=>by simpa using hi)]
 exact ATQ _ _ _ ho hz
theorem ANA {xs:List Nat} {k:Nat} (hk:k < xs.length) (s:SM) (H:Hp):KL 1 H (.sl s 1 (xs.map EU)) (.int .i64 (k:Nat))=some (.fptr 1 (xs.map EU) k 0):=CW hk
set_option maxHeartbeats 2000000 in
theorem AUP (G:Nat→AV) (hG:GOk G) (hT:I4 G) (q:Qs) (hq:QOk q) (h:Hp):PCall (En G) 17 [.agg (JI q)] h (.bool true):=by
 refine ACalls.pure0 rfl ?_
 refine BX (H:=Hint.none) (enM G) Tryz.func17 rfl (by kernel_rfl) (by kernel_rfl) (Nat.le_of_ble_eq_true (by kernel_rfl)) ?_
 show awp _ _ _ _ _ (EJ _ [.tmp 2] _)
 have gq:=CQ h (ABlk.live 3 [JI q])
 have hx:ext h (h ++ [ABlk.live 3 [JI q]]):=(ext.rfl' h).app _
 simp -implicitDefEqProofs only [A8,AX,AZ,AU,A9,AL,AO,AJ,BA,AR,AC,AA,AY,AQ,BI,A7,EW,BL,BO,BC,↓reduceIte,Nat.reduceEqDiff,Option.getD_some,Bool.not_false,enP,bxQ]
 generalize h ++ [ABlk.live 3 [JI q]]=H at gq hx ⊢
 simp -implicitDefEqProofs only [AU,AL,AO,AJ,BA,AR,AC,AA,AY,BS,BV,BR,AB,List.map_cons,List.map_nil,List.append_nil,↓reduceIte,Option.getD_some,Bool.not_false,ldQ gq]
 refine (QL G q hq H).use ?_
 intro b
 have hqn:=hq.n
 cases b
 ·simp -implicitDefEqProofs only [A8,AX,BF,AZ,DI,AU,A9,AL,AO,AJ,BA,AR,AC,AA,AY,BS,F9,BV,BR,AB,ER,List.map_nil,List.append_nil,↓reduceIte,Option.getD_some,Bool.not_false]
  refine (KX G hG hT H).use ?_
  simp -implicitDefEqProofs only [BJ,AZ,CJ,CK,AU,A9,AL,AO,AJ,BA,AR,AC,AA,AY,A7,↓reduceIte,Option.getD_some,Bool.not_false]
  exact ⟨trivial,hx⟩
 simp -implicitDefEqProofs only [A8,AX,BK,BF,AZ,DL,AU,A9,AL,AO,AJ,BA,AR,AC,AA,AY,BS,BL,F9,BG,BV,BR,AB,ER,List.map_cons,List.map_nil,List.append_nil,↓reduceIte,Nat.reduceEqDiff,Nat.add_zero,Nat.zero_add,Option.getD_some,Bool.not_true,Bool.not_false,enP,J3,JM,P6 gq,OD gq]
 refine (PX G hG hT q.m q.l q.s hq.m hq.l hq.n H).use ?_
 simp -implicitDefEqProofs only [List.getElem?_cons_zero,List.getElem?_cons_succ,A8,AX,BF,AZ,AU,A9,AL,AO,AJ,BA,AR,AC,AA,AY,AQ,BD,BB,A7,BN,D8,FB,AB,ED,↓reduceIte,Nat.reduceEqDiff,Option.getD_some,Bool.not_false,enP,bne]
 by_cases hz:GQ q.m q.l 1024=0
 case neg =>
  have hb:(GQ q.m q.l 1024 == 0)=false:=by simpa using hz
  have he:grL q.m q.l = []:=by unfold grL; rw [if_neg hz]
  have e0:(((0:Nat):Int) == 0)=true:=rfl
  rw [he]
  simp -implicitDefEqProofs only [A8,AX,DI,AU,BH,BQ,BZ,FZ,AL,AO,AJ,BA,AR,AC,AA,AY,AQ,BS,BD,BB,BN,C8,BV,BR,AB,D9,List.map_nil,List.append_nil,↓reduceIte,Nat.reduceEqDiff,Option.getD_some,Bool.not_false,enP,GV,hb,List.length_nil,e0]
  refine (KX G hG hT H).use ?_
  simp -implicitDefEqProofs only [BJ,AZ,CJ,CK,AU,A9,AL,AO,AJ,BA,AR,AC,AA,AY,AQ,BI,A7,CF,DJ,↓reduceIte,Nat.reduceEqDiff,Option.getD_some,Bool.not_false]
  exact ⟨trivial,hx⟩
 obtain ⟨h1,h2,h3⟩:=I6.1 hz
 have hok:=AUT hz
 have hol:(grL q.m q.l).length≤1048576:=AEG q.m q.l (.inr hqn)
 rw [hz]
 generalize grL q.m q.l=o at hok hol ⊢
 have hge:gnE q.m q.l (toI o)=0:=AAE.2 ⟨hz,ACQ hok.F.lt hok.F.nodup⟩
 have hgl:gnL q.m q.l (toI o)=gains (goals q.m) (hits q.l) o:=by unfold gnL; rw [if_pos hge,AKP]
 have hcall:=RJ G hG hT q.m q.l q.s (nm o) (toI o) hq.m hq.l hq.n (by rw [YI]; exact hol) H
 rw [hge,hgl,AKQ] at hcall
 have z0:((0:Int) == 0)=true:=rfl
 obtain ⟨gl,hgl0⟩ : ∃ gl,gl=gains (goals q.m) (hits q.l) o:=⟨_,rfl⟩
 have hlen:gl.length=o.length:=by rw [hgl0]; exact ACZ _ _ _
 have hsum:M4 gl=(goals q.m).countP (cov (hits q.l) o):=by rw [hgl0]; exact ACY _ _ _
 have hpos : ∀ k (hk:k < gl.length),1≤gl[k]:=by
  subst hgl0
  exact fun k hk=>by rw [AAG]; exact hok.F.pos k (by omega)
 have hfall : ∀ k (hk:k < gl.length),0 < k→gl[k]≤gl[k - 1]:=by
  subst hgl0
  exact fun k hk h0=>by
   rw [AAG,AAG]
   have:=hok.F.fall (k - 1) (by omega)
   rw [show k - 1+1=k by omega] at this
   exact this
 rw [← hgl0] at hcall
 have hrn:=VB h1 h3 hok.F.lt
 have hcv:=ACK h1 h3 hok.F.lt hok.Z
 have hg:=J4 (JF h1)
 have hcl:(goals q.m).countP (cov (hits q.l) o)≤(goals q.m).length:=List.countP_le_length
 clear hgl hgl0
 simp -implicitDefEqProofs only [A8,AX,BK,AZ,DL,AU,AL,AO,AJ,BA,AR,AC,AA,AY,BS,BB,BL,BG,BV,BR,AB,List.map_cons,List.map_nil,List.append_nil,↓reduceIte,Nat.reduceEqDiff,Nat.add_zero,Nat.zero_add,Option.getD_some,Bool.not_true,Bool.not_false,enP,J3,JM,z0,P6 gq,OD gq]
 refine hcall.use ?_
 have ell:(((gl.length:Nat):Int) == ((o.length:Nat):Int))=true:=by rw [hlen]; simp
 simp -implicitDefEqProofs only [List.getElem?_cons_zero,List.getElem?_cons_succ,A8,BM,AX,BK,BF,AZ,DL,AU,A9,BH,BQ,BZ,EH,AL,AO,AJ,BA,AR,AC,AA,AY,AQ,BD,BI,BB,A7,CF,DK,BN,D8,FB,C8,AB,ED,↓reduceIte,Nat.reduceEqDiff,Option.getD_some,Bool.not_true,Bool.not_false,enP,GV,bne,z0,List.length_map,ell]
 refine FO 0 (fun F H'=>F 1 = .ptr h.length 0 0∧F 3 = .sl (nm o) 1 (o.map EU)∧F 7 = .int .i64 (M4 gl:Nat)∧H'=H) (fun _ _=>False) ?_ ?_ (fun _ _ hh=>hh.elim)
 ·refine CS (fun n F H' => ∃ i,n+i=gl.length∧F 1 = .ptr h.length 0 0∧F 3 = .sl (nm o) 1 (o.map EU)∧F 5 = .sl (nm gl) 1 (gl.map EU)∧F 7 = .int .i64 (M4 (gl.take i):Nat)∧F 8 = .int .i64 (i:Nat)∧H'=H) gl.length
   ⟨0,by simp,by simp -implicitDefEqProofs only [AA,↓reduceIte,Nat.reduceEqDiff],by simp -implicitDefEqProofs only [AA,↓reduceIte,Nat.reduceEqDiff],by simp -implicitDefEqProofs only [AA,↓reduceIte,Nat.reduceEqDiff],by simp -implicitDefEqProofs only [AA,↓reduceIte,Nat.reduceEqDiff] <;> rfl,by simp -implicitDefEqProofs only [AA,↓reduceIte] <;> rfl,rfl⟩ ?_
  rintro n F H' ⟨i,hi,f1,f3,f5,f7,f8,rfl⟩
  simp -implicitDefEqProofs only [A8,AX,BF,AZ,AU,A9,AL,AO,AJ,BA,AR,AC,AA,AY,BB,BN,C8,AB,CO,↓reduceIte,Nat.reduceEqDiff,Option.getD_some,Bool.not_false,enP,GV,f5,f8,List.length_map]
  refine CG (fun hc => ?_) (fun hc => ?_)
  ·have hi':i < gl.length:=by simpa using hc
   have hp:=hpos i hi'
   have hf:=hfall i hi'
   have hst:=ACH gl i hi'
   have hle:=OA gl (i+1)
   have hle0:=OA gl i
   have d1:decide (((gl[i]:Nat):Int) < 1)=false:=by rw [decide_eq_false_iff_not]; omega
   have hws:IntKind.i64.wrap (((M4 (gl.take i):Nat):Int)+((gl[i]:Nat):Int))=((M4 (gl.take (i+1)):Nat):Int):=by rw [hst,wrap_i64 (by omega) (by omega)]; omega
   simp -implicitDefEqProofs only [A8,BM,BK,AZ]
   refine EG (by kernel_rfl) ?_
   rcases Nat.eq_zero_or_pos i with h0 | h0
   ·have d2:decide (((i:Nat):Int) > 0)=false:=by rw [decide_eq_false_iff_not]; omega
    simp -implicitDefEqProofs only [FJ,DT,CZ,EO,DV,EY,FR,NT,ABL,ET,G6,EN,GK,DN,AX,BK,BF,AZ,DU,DZ,DL,AU,A9,BZ,AL,AO,AJ,BA,AR,AC,AA,EM,AY,AQ,BD,BI,BB,A7,CF,DK,BL,BN,BU,AB,CR,CO,EK,↓reduceIte,Nat.reduceEqDiff,Nat.reduceAdd,Option.getD_some,Bool.not_false,enP,IL,f1,f3,f5,f7,f8,ANA hi',ldN hi',d1,d2,hws,CB (show i < 9223372036854775807 by omega)]
    exact ⟨n - 1,by omega,i+1,by omega,by first | exact f1 | trivial,by first | exact f3 | trivial,by first | exact f5 | trivial,by first | trivial | rfl,by first | trivial | rfl,trivial⟩
   ·have d2:decide (((i:Nat):Int) > 0)=true:=by rw [decide_eq_true_iff]; omega
    have hw1:IntKind.i64.wrap (((i:Nat):Int) - 1)=((i - 1:Nat):Int):=by rw [wrap_i64 (by omega) (by omega)]; omega
    have hi1:i - 1 < gl.length:=by omega
    have hf:=hf h0
    have d3:decide (((gl[i]:Nat):Int) > ((gl[i - 1]:Nat):Int))=false:=by rw [decide_eq_false_iff_not]; omega
    simp -implicitDefEqProofs only [FJ,DT,CZ,EO,DV,EY,FR,QU,NT,ET,G6,EN,GK,DN,AX,BK,BF,AZ,DU,DZ,DL,AU,A9,BZ,AL,AO,AJ,BA,AR,AC,AA,AY,AQ,BD,BI,BB,A7,CF,DJ,DK,BL,BN,BU,AB,CR,J8,CO,EK,↓reduceIte,Nat.reduceEqDiff,Nat.reduceAdd,Option.getD_some,Bool.not_false,enP,IL,f1,f3,f5,f7,f8,ANA hi',ldN hi',d1,d2,hw1,ANA hi1,ldN hi1,d3,hws,CB (show i < 9223372036854775807 by omega)]
    exact ⟨n - 1,by omega,i+1,by omega,by first | exact f1 | trivial,by first | exact f3 | trivial,by first | exact f5 | trivial,by first | trivial | rfl,by first | trivial | rfl,trivial⟩
  ·have hi' : ¬ i < gl.length:=by simpa using hc
   rw [List.take_of_length_le (by omega)] at f7
   simp -implicitDefEqProofs only [CU,DR,II,EF,AA,↓reduceIte,Nat.reduceEqDiff]
   exact ⟨f1,f3,f7,trivial⟩
 ·rintro F H' ⟨f1,f3,f7,rfl⟩
  have ha:=NN G hG hT q hq (List.range q.l.length) (nm (List.range q.l.length)) (fun i hi=>by simpa using hi) (by simp; omega) H'
  have hb:=NN G hG hT q hq o (nm o) hok.F.lt hol H'
  rw [← hcv,hrn,← hsum] at ha
  rw [hrn,← hsum] at hb
  have es:(((M4 gl:Nat):Int) == ((M4 gl:Nat):Int))=true:=by simp
  simp -implicitDefEqProofs only [A8,AZ,EB,↓reduceIte]
  refine EG (by kernel_rfl) ?_
  simp -implicitDefEqProofs only [FJ,DT,CZ,EO,DV,GM,EN,FP,FD,A8,AX,AZ,AU,AL,AO,AJ,BA,AR,AC,AA,AY,BS,BB,BL,BN,AB,List.map_cons,List.map_nil,List.append_nil,↓reduceIte,Nat.reduceEqDiff,Nat.reduceAdd,Option.getD_some,Bool.not_false,enP,f1,ldQ gq]
  refine ⟨_,V5 G q hqn H',?_⟩
  try simp -implicitDefEqProofs only []
  refine ⟨_,ha,?_⟩
  simp -implicitDefEqProofs only [AU,BH,BQ,BZ,FZ,AL,AO,AJ,BA,AR,AC,AA,AY,BS,BB,BL,BV,BR,AB,D9,List.map_cons,List.map_nil,List.append_nil,↓reduceIte,Nat.reduceEqDiff,Option.getD_some,Bool.not_false,enP,f1,f3,f7,es,ldQ gq]
  refine hb.use ?_
  simp -implicitDefEqProofs only [AU,BH,BQ,BZ,FZ,AL,AO,AJ,BA,AR,AC,AA,AY,AQ,BS,BI,BB,CF,DJ,BN,BV,BR,AB,D9,List.map_nil,List.append_nil,↓reduceIte,Nat.reduceEqDiff,Option.getD_some,Bool.not_false,enP,es]
  refine (KX G hG hT H').use ?_
  simp -implicitDefEqProofs only [BJ,AZ,CK,AU,A9,AL,AO,AJ,BA,AR,AC,AA,AY,AQ,BI,A7,CF,DJ,↓reduceIte,Nat.reduceEqDiff,Option.getD_some,Bool.not_false]
  exact ⟨trivial,hx⟩
set_option maxHeartbeats 2000000 in
theorem AS4 (G:Nat→AV) (hG:GOk G) (hT:I4 G) (q:Qs) (hq:QOk q) (h:Hp):PCall (En G) 18 [.agg (JI q)] h (.bool true):=by
 refine ACalls.pure0 rfl ?_
 refine BX (H:=Hint.none) (enM G) Tryz.func18 rfl (by kernel_rfl) (by kernel_rfl) (Nat.le_of_ble_eq_true (by kernel_rfl)) ?_
 show awp _ _ _ _ _ (EJ _ [.tmp 2] _)
 have gq:=CQ h (ABlk.live 3 [JI q])
 have hx:ext h (h ++ [ABlk.live 3 [JI q]]):=(ext.rfl' h).app _
 simp -implicitDefEqProofs only [A8,AX,AZ,AU,A9,AL,AO,AJ,BA,AR,AC,AA,AY,AQ,BI,A7,EW,BL,BO,BC,↓reduceIte,Nat.reduceEqDiff,Option.getD_some,Bool.not_false,enP,bxQ]
 generalize h ++ [ABlk.live 3 [JI q]]=H at gq hx ⊢
 simp -implicitDefEqProofs only [AU,AL,AO,AJ,BA,AR,AC,AA,AY,BS,BV,BR,AB,List.map_cons,List.map_nil,List.append_nil,↓reduceIte,Option.getD_some,Bool.not_false,ldQ gq]
 refine (QL G q hq H).use ?_
 intro b
 have hqn:=hq.n
 cases b
 ·simp -implicitDefEqProofs only [A8,AX,BF,AZ,DI,AU,A9,BH,BQ,BZ,FN,AL,AO,AJ,BA,AR,AC,AA,EM,AY,AQ,BS,BI,BB,CF,DJ,F9,BV,BR,AB,ER,List.map_nil,List.append_nil,↓reduceIte,Nat.reduceEqDiff,Option.getD_some,Bool.not_false]
  refine (KX G hG hT H).use ?_
  simp -implicitDefEqProofs only [BJ,AZ,CJ,CK,AU,A9,AL,AO,AJ,BA,AR,AC,AA,AY,A7,↓reduceIte,Option.getD_some,Bool.not_false]
  exact ⟨trivial,hx⟩
 simp -implicitDefEqProofs only [BF,AZ,AU,A9,BH,BQ,BZ,EH,AL,AO,AJ,BA,AR,AC,AA,AY,AQ,BD,BI,BB,CF,DK,BL,BN,F9,BG,C8,AB,EK,ER,↓reduceIte,Nat.reduceEqDiff,Nat.zero_add,Option.getD_some,Bool.not_true,Bool.not_false,enP,OY,JM,OD gq,List.length_map]
 refine CG (fun hc => ?_) (fun hc => ?_)
 ·simp -implicitDefEqProofs only [A8,AX,AU,AL,AO,AJ,BA,AR,BS,BV,BR,List.map_nil,List.append_nil,Option.getD_some,Bool.not_false]
  refine (KX G hG hT H).use ?_
  simp -implicitDefEqProofs only [BJ,AZ,CJ,CK,AU,A9,AL,AO,AJ,BA,AR,AC,AA,AY,A7,↓reduceIte,Option.getD_some,Bool.not_false]
  exact ⟨trivial,hx⟩
 have h12:q.l.length≤12:=by simp at hc; omega
 have hce:GQ q.m q.l 12=GQ q.m q.l 1024:=by
  unfold GQ
  rw [if_neg (show ¬ 12 < q.l.length by omega),if_neg (show ¬ 1024 < q.l.length by omega)]
 simp -implicitDefEqProofs only [A8,AX,BK,AZ,AU,AL,AO,AJ,BA,AR,AC,AA,AY,BS,BL,BG,BV,BR,AB,List.map_cons,List.map_nil,List.append_nil,↓reduceIte,Nat.reduceEqDiff,Nat.add_zero,Nat.zero_add,Option.getD_some,Bool.not_false,enP,J3,JM,P6 gq,OD gq]
 refine (PX G hG hT q.m q.l q.s hq.m hq.l hq.n H).use ?_
 simp -implicitDefEqProofs only [List.getElem?_cons_zero,List.getElem?_cons_succ,A8,AX,AZ,AU,A9,AL,AO,AJ,BA,AR,AC,AA,AY,BS,BB,A7,BL,BG,D8,FB,BV,BR,AB,List.map_cons,List.map_nil,List.append_nil,↓reduceIte,Nat.reduceEqDiff,Nat.add_zero,Nat.zero_add,Option.getD_some,Bool.not_false,enP,J3,JM,P6 gq,OD gq]
 refine (U4 G hG hT q.m q.l q.s hq.m hq.l hq.n H).use ?_
 simp -implicitDefEqProofs only [List.getElem?_cons_zero,List.getElem?_cons_succ,A8,AX,AZ,AU,A9,AL,AO,AJ,BA,AR,AC,AA,AY,BS,BB,A7,BL,BG,D8,FB,BV,BR,AB,List.map_cons,List.map_nil,List.append_nil,↓reduceIte,Nat.reduceEqDiff,Nat.add_zero,Nat.zero_add,Option.getD_some,Bool.not_false,enP,J3,JM,P6 gq,OD gq]
 refine (TC G hG hT q.m q.l q.s hq.m hq.l hq.n H).use ?_
 rw [hce]
 simp -implicitDefEqProofs only [List.getElem?_cons_zero,List.getElem?_cons_succ,A8,AX,BF,AZ,AU,A9,AL,AO,AJ,BA,AR,AC,AA,AY,AQ,BD,BB,A7,BN,D8,FB,AB,ED,↓reduceIte,Nat.reduceEqDiff,Option.getD_some,Bool.not_false,enP,bne]
 by_cases hz:GQ q.m q.l 1024=0
 case neg =>
  have hb:(GQ q.m q.l 1024 == 0)=false:=by simpa using hz
  have e1:(GQ q.m q.l 1024 == GQ q.m q.l 1024)=true:=by simp
  simp -implicitDefEqProofs only [A8,AX,DI,AU,BH,BQ,BZ,FZ,AL,AO,AJ,BA,AR,AC,AA,AY,AQ,BS,BI,BB,CF,DJ,BN,BV,BR,AB,D9,List.map_nil,List.append_nil,↓reduceIte,Nat.reduceEqDiff,Option.getD_some,Bool.not_false,enP,hb,e1]
  refine (KX G hG hT H).use ?_
  simp -implicitDefEqProofs only [BJ,AZ,CJ,CK,AU,A9,AL,AO,AJ,BA,AR,AC,AA,AY,AQ,BI,A7,CF,DJ,↓reduceIte,Nat.reduceEqDiff,Option.getD_some,Bool.not_false]
  exact ⟨trivial,hx⟩
 obtain ⟨h1,h2,h3⟩:=I6.1 hz
 have hok:=AUT hz
 have hol:(grL q.m q.l).length≤1048576:=AEG q.m q.l (.inr hqn)
 have hnl:=AK6 q.m q.l
 have hnd : ∀ i∈ndL q.m q.l,i < q.l.length∧0 < uniq (goals q.m) (hits q.l) q.l.length i:=fun i hi=>by
  unfold ndL at hi
  rw [if_pos hz] at hi
  have:=List.mem_filter.1 hi
  simpa using this
 obtain ⟨x,hxl⟩ : ∃ x,least (goals q.m) (hits q.l) q.l.length=some x:=by
  cases he:least (goals q.m) (hits q.l) q.l.length with
  | none=>exact absurd he (Z6 _ _ _)
  | some x=>exact ⟨x,rfl⟩
 have hle:leL q.m q.l=x:=by unfold leL; rw [if_pos (by rw [hce]; exact hz),hxl]; rfl
 obtain ⟨hxa,hxlt⟩:=least_some _ _ _ hxl
 have hga:SX (goals q.m) (hits q.l) q.l.length (grL q.m q.l)=true:=(NS _ _ _ _).2 hok.Z
 have hlel:=AGP _ _ _ hxl hok.F.lt hga
 rw [hle,hz]
 generalize grL q.m q.l=o at hok hol hga hlel ⊢
 generalize ndL q.m q.l=nd at hnl hnd ⊢
 have z0:((0:Int) == 0)=true:=rfl
 simp -implicitDefEqProofs only [A8,BM,AX,BK,AZ,DL,AU,A9,AL,AO,AJ,BA,AR,AC,AQ,BD,A7,Option.getD_some,Bool.not_true,Bool.not_false,z0]
 refine FO 0 (fun F H'=>F 1 = .ptr h.length 0 0∧F 3 = .sl (nm o) 1 (o.map EU)∧F 5 = .sl (nm x) 1 (x.map EU)∧F 6 = .int .i64 0∧F 8 = .int .i64 0∧H'=H) (fun _ _=>False) ?_ ?_ (fun _ _ hh=>hh.elim)
 ·refine CS (fun n F H' => ∃ i,n+i=nd.length∧F 1 = .ptr h.length 0 0∧F 3 = .sl (nm o) 1 (o.map EU)∧F 5 = .sl (nm x) 1 (x.map EU)∧F 6 = .int .i64 0∧F 7 = .sl (nm nd) 1 (nd.map EU)∧F 8 = .int .i64 0∧F 9 = .int .i64 (i:Nat)∧H'=H) nd.length
   ⟨0,by simp,by simp -implicitDefEqProofs only [AA,↓reduceIte,Nat.reduceEqDiff],by simp -implicitDefEqProofs only [AA,↓reduceIte,Nat.reduceEqDiff],by simp -implicitDefEqProofs only [AA,↓reduceIte,Nat.reduceEqDiff],by simp -implicitDefEqProofs only [AA,↓reduceIte,Nat.reduceEqDiff],by simp -implicitDefEqProofs only [AA,↓reduceIte,Nat.reduceEqDiff],by simp -implicitDefEqProofs only [AA,↓reduceIte,Nat.reduceEqDiff],by simp -implicitDefEqProofs only [AA,↓reduceIte] <;> rfl,rfl⟩ ?_
  rintro n F H' ⟨i,hi,f1,f3,f5,f6,f7,f8,f9,rfl⟩
  simp -implicitDefEqProofs only [A8,AX,BF,AZ,AU,A9,AL,AO,AJ,BA,AR,AC,AA,AY,BB,BN,C8,AB,CO,↓reduceIte,Nat.reduceEqDiff,Option.getD_some,Bool.not_false,enP,GV,f7,f9,List.length_map]
  refine CG (fun hc => ?_) (fun hc => ?_)
  ·have hi':i < nd.length:=by simpa using hc
   obtain ⟨hn1,hn2⟩:=hnd _ (List.getElem_mem hi')
   have m1:=AFL _ _ _ hok.F.lt hga hn1 hn2
   have m2:=AFL _ _ _ hxlt hxa hn1 hn2
   simp -implicitDefEqProofs only [A8,BM,AX,BK,AZ,AU,AL,AO,AJ,BA,AR,AC,AA,AY,BS,BB,BL,BU,BV,BR,AB,List.map_cons,List.map_nil,List.append_nil,↓reduceIte,Nat.reduceEqDiff,Option.getD_some,Bool.not_false,enP,IL,f3,f7,f9,ANA hi',ldN hi']
   refine (ALN G o (nm o) nd[i] m1 hol H').use ?_
   simp -implicitDefEqProofs only [AU,BH,BQ,BZ,EH,AL,AO,AJ,BA,AR,AC,AA,AY,BS,BB,BL,F9,BU,BV,BR,AB,ER,List.map_cons,List.map_nil,List.append_nil,↓reduceIte,Nat.reduceEqDiff,Option.getD_some,Bool.not_true,Bool.not_false,enP,IL,f5,f7,f9,ANA hi',ldN hi']
   refine (ALN G x (nm x) nd[i] m2 (by omega) H').use ?_
   simp -implicitDefEqProofs only [AX,BK,BF,AZ,DU,DZ,DL,AU,A9,BH,BQ,BZ,EH,AL,AO,AJ,BA,AR,AC,AA,AY,AQ,BD,BI,BB,A7,CF,DK,BN,F9,AB,CR,ER,↓reduceIte,Nat.reduceEqDiff,Option.getD_some,Bool.not_true,Bool.not_false,enP,f9,CB (show i < 9223372036854775807 by omega)]
   exact ⟨n - 1,by omega,i+1,by omega,f1,f3,f5,f6,f7,f8,by first | trivial | rfl,trivial⟩
  ·simp -implicitDefEqProofs only [CU,DR,II,EF,AA,↓reduceIte,Nat.reduceEqDiff]
   exact ⟨f1,f3,f5,f6,f8,trivial⟩
 ·rintro F H' ⟨f1,f3,f5,f6,f8,rfl⟩
  have ha:=NN G hG hT q hq (List.range q.l.length) (nm (List.range q.l.length)) (fun i hi=>by simpa using hi) (by simp; omega) H'
  have hb:=NN G hG hT q hq x (nm x) hxlt (by omega) H'
  rw [ACK h1 h3 hxlt ((NS _ _ _ _).1 hxa)] at hb
  generalize PZ q.m (LF q.m (sel q.l (List.range q.l.length)))=N at ha hb
  have es:(((N:Nat):Int) == ((N:Nat):Int))=true:=by simp
  have dl:decide (((x.length:Nat):Int)≤((o.length:Nat):Int))=true:=by rw [decide_eq_true_iff]; omega
  simp -implicitDefEqProofs only [A8,AZ,EB,↓reduceIte]
  refine EG (by kernel_rfl) ?_
  simp -implicitDefEqProofs only [FJ,DT,CZ,DV,EY,FR,QU,ET,G6,EN,GK,FX,FP,FD,BZ,AL,AA,AY,AQ,BS,BD,BI,CF,DJ,BL,BN,C8,AB,D9,J9,List.map_cons,List.map_nil,List.append_nil,↓reduceIte,Nat.reduceEqDiff,Nat.reduceAdd,Option.getD_some,enP,GV,f1,f3,f5,f6,f8,z0,List.length_map,dl,ldQ gq]
  refine ⟨_,hb,?_⟩
  try simp -implicitDefEqProofs only [f1,ldQ gq]
  refine ⟨_,V5 G q hqn H',?_⟩
  try simp -implicitDefEqProofs only []
  refine ⟨_,ha,?_⟩
  try simp -implicitDefEqProofs only [FJ,DT,CZ,EO,DV,EY,FR,QU,ET,GM,G6,FP,FD,BJ,AZ,CK,BZ,AL,AA,AY,AQ,BS,BI,CF,DJ,AB,D9,List.map_nil,List.append_nil,↓reduceIte,Nat.reduceEqDiff,Nat.reduceAdd,Option.getD_some,es]
  refine ⟨_,KX G hG hT H',?_⟩
  try simp -implicitDefEqProofs only []
  exact ⟨trivial,hx⟩
end Go.Proofs.YtocilianjfhifaaGreatDoor.Rk
/- The law RankSums; no condition but the variables that are laid, the bounds on lengths, and cover.tuple's contract. -/
set_option linter.unusedSimpArgs false
set_option maxRecDepth 8000
namespace Go.Proofs.YtocilianjfhifaaGreatDoor.Rk
open Go Go.Proofs Go.Proofs.YtocilianjfhifaaGreatDoor.Sm Go.Proofs.YtocilianjfhifaaGreatDoor.Bins Go.Proofs.YtocilianjfhifaaGreatDoor.Cov Go.RowKit

theorem ATZ {H:Hp} {b:Nat} {xs ys:List Nat} {s:SM} (hb:H[b]? = some (ABlk.live 1 (xs.map EU))) (hl:xs.length+ys.length≤8388608) :
  ∃ c H',F5 Tryz.prog true H 57 57 (.own b 0 xs.length) (.sl s 1 (ys.map EU))=some (.own c 0 (xs ++ ys).length,H')∧H'[c]? = some (ABlk.live 1 ((xs ++ ys).map EU))∧b≤c∧(∀ e:Hp,e.length≤b→ext e H→ext e H'):=by
 have hc:JL H (.own b 0 xs.length)=some (1,xs.map EU):=by rw [OO hb (by simp),List.drop_zero,List.take_of_length_le (by simp)]
 have hbl:=CE hb
 cases ys with
 | nil =>
   refine ⟨b,H,?_,by simpa using hb,Nat.le_refl _,fun e _ hx=>hx⟩
   have hs:JL H (.sl s 1 [])=some (1,[]):=J7 H s 1 []
   simp [F5,ML,sz3,QC,hc,hs,bump]
 | cons y ys =>
   refine ⟨H.length,H.set b .dead ++ [ABlk.live 1 ((xs ++ y :: ys).map EU)],?_,?_,by omega,fun e he hx=>(hx.set he _).app _⟩
   ·rw [Y2 ML sz3 RV RF hc (J7 H s 1 ((y :: ys).map EU)) (by simp) (JY (by simp at hl ⊢; omega) (by omega)),List.map_append,List.length_map,List.length_map,List.length_append]
   ·rw [List.getElem?_append_right (by simp)]
    simp
def rot (n j:Nat):List Nat:=(List.range n).drop j ++ (List.range n).take j
theorem AD3 {n j i:Nat}:i∈rot n j↔i < n:=by
 unfold rot
 rw [List.mem_append,or_comm,← List.mem_append,List.take_append_drop,List.mem_range]
theorem AR3 (n j:Nat):(rot n j).length=n:=by
 unfold rot
 rw [List.length_append,Nat.add_comm,← List.length_append,List.take_append_drop,List.length_range]
theorem AMU (n j:Nat):(rot n j).Nodup:=by
 unfold rot
 have h:((List.range n).take j ++ (List.range n).drop j).Nodup:=by rw [List.take_append_drop]; exact List.nodup_range
 rw [List.nodup_append] at h ⊢
 exact ⟨h.2.1,h.1,fun a ha b hb e=>h.2.2 b hb a ha e.symm⟩
theorem AR4 {γ:Type} (gs:List γ) (P:Nat→γ→Bool) (n j:Nat):gs.countP (cov P (rot n j))=gs.countP (cov P (List.range n)):=by
 refine List.countP_congr fun x _=>⟨VY P fun i hi => ?_,VY P fun i hi => ?_⟩
 ·rw [AD3] at hi; simpa using hi
 ·rw [AD3]; simpa using hi
set_option maxHeartbeats 2000000 in
theorem AXQ (G:Nat→AV) (hG:GOk G) (hT:I4 G) (q:Qs) (hq:QOk q) (k:Nat) (hk:k < 256) (h:Hp):PCall (En G) 19 [.agg (JI q),.int .u8 (k:Nat)] h (.bool true):=by
 refine ACalls.pure0 rfl ?_
 refine BX (H:=hint [] [(45,[44])]) (enM G) Tryz.func19 rfl (by kernel_rfl) (by kernel_rfl) (Nat.le_of_ble_eq_true (by kernel_rfl)) ?_
 show awp _ _ _ _ _ (EJ _ [.tmp 4] _)
 have gq:=CQ h (ABlk.live 3 [JI q])
 have hx:ext h (h ++ [ABlk.live 3 [JI q]]):=(ext.rfl' h).app _
 simp -implicitDefEqProofs only [CL,List.contains_nil,Nat.reduceBEq,A8,AX,AZ,AU,A9,AJ,BA,AR,AC,AA,AY,AQ,BI,A7,EW,BL,BO,BC,↓reduceIte,Nat.reduceEqDiff,Option.getD_some,Bool.not_false,enP,Bool.false_eq_true,EE,bxQ]
 generalize h ++ [ABlk.live 3 [JI q]]=H at gq hx ⊢
 simp -implicitDefEqProofs only [CL,List.contains_nil,Nat.reduceBEq,AU,AJ,BA,AR,AC,AA,AY,BS,BV,BR,AB,List.map_cons,List.map_nil,List.append_nil,↓reduceIte,Option.getD_some,Bool.not_false,Bool.false_eq_true,EE,ldQ gq]
 refine (QL G q hq H).use ?_
 intro b
 have hqn:=hq.n
 cases b
 ·simp -implicitDefEqProofs only [CL,List.contains_nil,Nat.reduceBEq,A8,AX,BF,AZ,DI,AU,A9,BH,BQ,BZ,FN,AJ,BA,AR,AC,AA,EM,AY,AQ,BS,BI,BB,CF,DJ,F9,BV,BR,AB,ER,List.map_nil,List.append_nil,↓reduceIte,Nat.reduceEqDiff,Option.getD_some,Bool.not_false,Bool.false_eq_true,EE]
  refine (KX G hG hT H).use ?_
  simp -implicitDefEqProofs only [CL,List.contains_nil,Nat.reduceBEq,BJ,AZ,CJ,CK,AU,A9,AJ,BA,AR,AC,AA,AY,A7,↓reduceIte,Option.getD_some,Bool.not_false,Bool.false_eq_true,EE]
  exact ⟨trivial,hx⟩
 by_cases h0:q.l.length=0
 case pos =>
  have e0:(((q.l.length:Nat):Int) == 0)=true:=by rw [h0]; rfl
  simp -implicitDefEqProofs only [CL,List.contains_nil,Nat.reduceBEq,A8,AX,BF,AZ,DI,AU,A9,BH,BQ,BZ,EH,AJ,BA,AR,AC,AA,AY,AQ,BS,BD,BI,BB,CF,DK,BL,BN,F9,BG,C8,BV,BR,AB,D9,ER,List.map_nil,List.append_nil,↓reduceIte,Nat.reduceEqDiff,Nat.zero_add,Option.getD_some,Bool.not_true,Bool.not_false,enP,OY,JM,Bool.false_eq_true,EE,OD gq,List.length_map,e0]
  refine (KX G hG hT H).use ?_
  simp -implicitDefEqProofs only [CL,List.contains_nil,Nat.reduceBEq,BJ,AZ,CJ,CK,AU,A9,AJ,BA,AR,AC,AA,AY,A7,↓reduceIte,Option.getD_some,Bool.not_false,Bool.false_eq_true,EE]
  exact ⟨trivial,hx⟩
 have e0:(((q.l.length:Nat):Int) == 0)=false:=by rw [beq_eq_false_iff_ne]; omega
 have hmod:=Nat.mod_lt k (show 0 < q.l.length by omega)
 have hwk:IntKind.i64.wrap ((k:Nat):Int)=((k:Nat):Int):=wrap_i64 (by omega) (by omega)
 simp -implicitDefEqProofs only [CL,List.contains_nil,Nat.reduceBEq,A8,AX,BK,BF,AZ,DL,AU,A9,BH,BQ,BZ,EH,AJ,BA,AR,AC,AA,AY,AQ,BD,BI,EX,BB,A7,CF,DK,BL,BN,F9,ADX,BG,C8,AB,D9,ER,BC,BP,↓reduceIte,Nat.reduceEqDiff,Nat.zero_add,Option.getD_some,Bool.not_true,Bool.not_false,enP,OY,JM,AQO,Bool.false_eq_true,EE,OD gq,List.length_map,e0,hwk,YK k q.l.length (by omega)]
 generalize hj0:k % q.l.length=j at hmod ⊢
 simp -implicitDefEqProofs only [CL,List.contains_nil,Nat.reduceBEq,AU,AJ,BA,AR,AC,AA,AY,BS,BV,BR,AB,List.map_cons,List.map_nil,List.append_nil,↓reduceIte,Option.getD_some,Bool.not_false,Bool.false_eq_true,EE,ldQ gq]
 refine (V5 G q hqn H).use ?_
 have hrl:(List.range q.l.length).length=q.l.length:=List.length_range
 have hsf:=AKS ML sz3 (h:=H) (m:=nm (List.range q.l.length)) (kk := .i64) (xs:=(List.range q.l.length).map EU) (l:=j) (by rw [List.length_map,hrl]; omega)
 rw [← List.map_drop] at hsf
 have hne:((List.range q.l.length).drop j).map EU≠[]:=by
  intro e
  have:=congrArg List.length e
  simp at this
  omega
 have hdl:((List.range q.l.length).drop j).length≤1048576:=by rw [List.length_drop,hrl]; omega
 have hap:=V4 (h:=H) (k':=0) (xs := []) ML sz3 RV RF (J7 H (nm (List.range q.l.length)) 1 (((List.range q.l.length).drop j).map EU)) hne (JY (by rw [List.length_map]; omega) (by omega))
 rw [List.length_map] at hap
 have hb1:=CQ H (ABlk.live 1 (((List.range q.l.length).drop j).map EU))
 have gq1:=C9 (x:=ABlk.live 1 (((List.range q.l.length).drop j).map EU)) gq
 have hx1:ext h (H ++ [ABlk.live 1 (((List.range q.l.length).drop j).map EU)]):=hx.app _
 have hxH:ext H (H ++ [ABlk.live 1 (((List.range q.l.length).drop j).map EU)]):=(ext.rfl' H).app _
 have hHl:=hx.le
 simp -implicitDefEqProofs only [Option.map_some,Option.map_none,CL,List.contains_nil,Nat.reduceBEq,AU,AJ,BA,AR,AC,AA,AY,BB,PL,FT,AB,↓reduceIte,Nat.reduceEqDiff,Option.getD_some,Bool.not_false,enP,Bool.false_eq_true,EE,hsf]
 refine FK (v := .own H.length 0 ((List.range q.l.length).drop j).length) (h:=H ++ [ABlk.live 1 (((List.range q.l.length).drop j).map EU)]) hap ?_
 obtain ⟨c,H2,ha2,hc2,hcb,he2⟩:=ATZ (s:=ANU (nm (List.range q.l.length)) j (List.range q.l.length).length) (ys:=(List.range q.l.length).take j) hb1 (by rw [List.length_take,hrl]; omega)
 have hst:=AKR ML sz3 (h:=H ++ [ABlk.live 1 (((List.range q.l.length).drop j).map EU)]) (m:=nm (List.range q.l.length)) (kk := .i64) (xs:=(List.range q.l.length).map EU) (u:=j) (by rw [List.length_map,hrl]; omega)
 rw [← List.map_take,List.length_map] at hst
 simp -implicitDefEqProofs only [CL,List.contains_nil,Nat.reduceBEq,A8,AX,AZ,AU,A9,AJ,BA,AR,AC,AA,AY,BS,BB,A7,BL,BV,BR,AB,List.map_cons,List.map_nil,List.append_nil,↓reduceIte,Nat.reduceEqDiff,Option.getD_some,Bool.not_false,enP,Bool.false_eq_true,EE,ldQ gq1]
 refine (V5 G q hqn _).use ?_
 simp -implicitDefEqProofs only [Option.map_some,Option.map_none,CL,List.contains_nil,Nat.reduceBEq,AU,AJ,BA,AR,AC,AA,AY,BB,PL,FT,AB,↓reduceIte,Nat.reduceEqDiff,Option.getD_some,Bool.not_false,enP,Bool.false_eq_true,EE,hst]
 refine FK (v := .own c 0 ((List.range q.l.length).drop j ++ (List.range q.l.length).take j).length) (h:=H2) ha2 ?_
 have hxx:=he2 H (Nat.le_refl _) hxH
 have gq2:=GN hxx gq
 have hx2:=hx.trans hxx
 change H2[c]? = some (ABlk.live 1 ((rot q.l.length j).map EU)) at hc2
 have hrlen:=AR3 q.l.length j
 have hz:=QK (i:=44) (off:=0) (len:=(rot q.l.length j).length) hc2 (by simp) (by rw [List.drop_zero,List.take_of_length_le (by simp)]; exact AUW _)
 rw [List.drop_zero,List.take_of_length_le (by simp)] at hz
 have hz' : ∀ F:Fr,F 44 = .own c 0 ((List.range q.l.length).drop j ++ (List.range q.l.length).take j).length→NG (F,H2) 44=(upd F 44 (.sl .any 1 ((rot q.l.length j).map EU)),H2.set c ABlk.dead):=fun F hF=>hz F hF
 have hx3:ext h (H2.set c ABlk.dead):=hx2.set (by omega) _
 have gq3:(H2.set c ABlk.dead)[h.length]? = some (ABlk.live 3 [JI q]):=EP gq2 (by have:=CE gq; omega)
 have hcall:=RJ G hG hT q.m q.l q.s .any (toI (rot q.l.length j)) hq.m hq.l hq.n (by rw [YI,hrlen]; exact hqn) (H2.set c ABlk.dead)
 rw [AKQ] at hcall
 simp -implicitDefEqProofs only [CL,List.contains_nil,Nat.reduceBEq,A8,AX,AZ,AU,A9,AJ,BA,AR,AC,AA,AY,BS,BB,A7,BL,BG,BV,BR,AB,List.map_cons,List.map_nil,List.append_nil,↓reduceIte,Nat.reduceEqDiff,Nat.add_zero,Nat.zero_add,Option.getD_some,Bool.not_false,enP,J3,JM,Bool.false_eq_true,EE,P6 gq2,OD gq2,NQ,AJ,hz']
 refine hcall.use ?_
 have hgE:gnE q.m q.l (toI (rot q.l.length j))=GQ q.m q.l 1024:=by
  unfold gnE
  rw [if_pos (ACQ (fun i hi=>AD3.1 hi) (AMU _ _))]
  split
  ·rfl
  ·rename_i hh; exact (Classical.byContradiction fun e=>hh (fun e2=>e e2.symm))
 rw [hgE]
 generalize H2.set c ABlk.dead=H3 at hx3 gq3
 simp -implicitDefEqProofs only [List.getElem?_cons_zero,List.getElem?_cons_succ,CL,List.contains_nil,Nat.reduceBEq,A8,AX,BF,AZ,AU,A9,AJ,BA,AR,AC,AA,AY,AQ,BD,BB,A7,BN,D8,FB,AB,ED,↓reduceIte,Nat.reduceEqDiff,Option.getD_some,Bool.not_false,enP,Bool.false_eq_true,EE,bne]
 by_cases hz:GQ q.m q.l 1024=0
 case neg =>
  have hb:(GQ q.m q.l 1024 == 0)=false:=by simpa using hz
  have he:gnL q.m q.l (toI (rot q.l.length j)) = []:=by unfold gnL; rw [if_neg (by rw [hgE]; exact hz)]
  have e0:(((0:Nat):Int) == 0)=true:=rfl
  rw [he]
  simp -implicitDefEqProofs only [CL,List.contains_nil,Nat.reduceBEq,A8,AX,DI,AU,BH,BQ,BZ,FZ,AJ,BA,AR,AC,AA,AY,AQ,BS,BD,BB,BN,C8,BV,BR,AB,D9,List.map_nil,List.append_nil,↓reduceIte,Nat.reduceEqDiff,Option.getD_some,Bool.not_false,enP,GV,Bool.false_eq_true,EE,hb,List.length_nil,e0]
  refine (KX G hG hT H3).use ?_
  simp -implicitDefEqProofs only [CL,List.contains_nil,Nat.reduceBEq,BJ,AZ,CJ,CK,AU,A9,AJ,BA,AR,AC,AA,AY,AQ,BI,A7,CF,DJ,↓reduceIte,Nat.reduceEqDiff,Option.getD_some,Bool.not_false,Bool.false_eq_true,EE]
  exact ⟨trivial,hx3⟩
 obtain ⟨h1,h2,h3⟩:=I6.1 hz
 have hgl:gnL q.m q.l (toI (rot q.l.length j))=gains (goals q.m) (hits q.l) (rot q.l.length j):=by unfold gnL; rw [if_pos (by rw [hgE]; exact hz),AKP]
 rw [hgl,hz]
 obtain ⟨gl,hgl0⟩ : ∃ gl,gl=gains (goals q.m) (hits q.l) (rot q.l.length j):=⟨_,rfl⟩
 have hlen:gl.length=q.l.length:=by rw [hgl0,ACZ,hrlen]
 have hsum:M4 gl=(goals q.m).countP (cov (hits q.l) (List.range q.l.length)):=by rw [hgl0,ACY,AR4]
 rw [← hgl0]
 have hrn:=VB h1 h3 (o:=List.range q.l.length) (fun i hi=>by simpa using hi)
 have hg:=J4 (JF h1)
 have hcl:(goals q.m).countP (cov (hits q.l) (List.range q.l.length))≤(goals q.m).length:=List.countP_le_length
 clear hgl hgl0
 have z0:((0:Int) == 0)=true:=rfl
 simp -implicitDefEqProofs only [CL,List.contains_nil,Nat.reduceBEq,A8,BM,AX,BK,AZ,DL,AU,A9,AJ,BA,AR,AC,AQ,BD,A7,↓reduceIte,Option.getD_some,Bool.not_true,Bool.not_false,Bool.false_eq_true,EE,z0]
 refine FO 0 (fun F H'=>F 2 = .ptr h.length 0 0∧F 7 = .sl (nm gl) 1 (gl.map EU)∧F 9 = .int .i64 (M4 gl:Nat)∧H'=H3) (fun _ _=>False) ?_ ?_ (fun _ _ hh=>hh.elim)
 ·refine CS (fun n F H' => ∃ i,n+i=gl.length∧F 2 = .ptr h.length 0 0∧F 7 = .sl (nm gl) 1 (gl.map EU)∧F 9 = .int .i64 (M4 (gl.take i):Nat)∧F 10 = .int .i64 (i:Nat)∧H'=H3) gl.length
   ⟨0,by simp,by simp -implicitDefEqProofs only [AA,↓reduceIte,Nat.reduceEqDiff],by simp -implicitDefEqProofs only [AA,↓reduceIte,Nat.reduceEqDiff],by simp -implicitDefEqProofs only [AA,↓reduceIte,Nat.reduceEqDiff] <;> rfl,by simp -implicitDefEqProofs only [AA,↓reduceIte] <;> rfl,rfl⟩ ?_
  rintro n F H' ⟨i,hi,f2,f7,f9,f10,rfl⟩
  simp -implicitDefEqProofs only [CL,List.contains_nil,Nat.reduceBEq,A8,AX,BF,AZ,AU,A9,AJ,BA,AR,AC,AA,AY,BB,BN,C8,AB,CO,↓reduceIte,Nat.reduceEqDiff,Option.getD_some,Bool.not_false,enP,GV,Bool.false_eq_true,EE,f7,f10,List.length_map]
  refine CG (fun hc => ?_) (fun hc => ?_)
  ·have hi':i < gl.length:=by simpa using hc
   have hst:=ACH gl i hi'
   have hle:=OA gl (i+1)
   have hle0:=OA gl i
   have hws:IntKind.i64.wrap (((M4 (gl.take i):Nat):Int)+((gl[i]:Nat):Int))=((M4 (gl.take (i+1)):Nat):Int):=by rw [hst,wrap_i64 (by omega) (by omega)]; omega
   simp -implicitDefEqProofs only [CL,List.contains_nil,Nat.reduceBEq,A8,BM,AX,BK,AZ,DU,DZ,AU,A9,AJ,BA,AR,AC,AA,AY,AQ,BD,BB,A7,BL,BN,BU,AB,CR,↓reduceIte,Nat.reduceEqDiff,Option.getD_some,Bool.not_false,enP,IL,Bool.false_eq_true,EE,f7,f9,f10,ANA hi',ldN hi',hws,CB (show i < 9223372036854775807 by omega)]
   exact ⟨n - 1,by omega,i+1,by omega,by first | exact f2 | trivial,by first | exact f7 | trivial,by first | trivial | rfl,by first | trivial | rfl,trivial⟩
  ·have hi' : ¬ i < gl.length:=by simpa using hc
   rw [List.take_of_length_le (by omega)] at f9
   simp -implicitDefEqProofs only [CU,DR,II,EF,AA,↓reduceIte,Nat.reduceEqDiff]
   exact ⟨f2,f7,f9,trivial⟩
 ·rintro F H' ⟨f2,f7,f9,rfl⟩
  have ha:=NN G hG hT q hq (List.range q.l.length) (nm (List.range q.l.length)) (fun i hi=>by simpa using hi) (by simp; omega) H'
  rw [hrn,← hsum] at ha
  have es:(((M4 gl:Nat):Int) == ((M4 gl:Nat):Int))=true:=by simp
  have el:(((gl.length:Nat):Int) == ((q.l.length:Nat):Int))=true:=by rw [hlen]; simp
  simp -implicitDefEqProofs only [A8,AZ,EB,↓reduceIte]
  refine EG (by kernel_rfl) ?_
  simp -implicitDefEqProofs only [FJ,CL,List.contains_nil,DT,CZ,DV,EY,FR,QU,ET,EN,GK,DW,FX,FP,FD,BZ,AA,AY,BS,BL,BN,BG,C8,AB,D9,List.map_cons,List.map_nil,List.append_nil,↓reduceIte,Nat.reduceEqDiff,Nat.reduceAdd,Nat.zero_add,Option.getD_some,enP,OY,GV,JM,f2,f7,f9,List.length_map,OD gq3,el,ldQ gq3]
  refine ⟨_,V5 G q hqn H',?_⟩
  try simp -implicitDefEqProofs only []
  refine ⟨_,ha,?_⟩
  try simp -implicitDefEqProofs only [FJ,CL,List.contains_nil,DT,CZ,EO,DV,EY,FR,QU,ET,GM,G6,FP,FD,BJ,AZ,CK,BZ,AA,AY,AQ,BS,BI,CF,DJ,AB,D9,List.map_nil,List.append_nil,↓reduceIte,Nat.reduceEqDiff,Nat.reduceAdd,Option.getD_some,es]
  refine ⟨_,KX G hG hT H',?_⟩
  try simp -implicitDefEqProofs only []
  exact ⟨trivial,hx3⟩
end Go.Proofs.YtocilianjfhifaaGreatDoor.Rk
/- Readers of a model with coverages, of a small number; no condition. -/
namespace Go.Proofs.YtocilianjfhifaaGreatDoor.Rk
open Go Go.Proofs Go.Proofs.YtocilianjfhifaaGreatDoor.Sm Go.Proofs.YtocilianjfhifaaGreatDoor.Bins Go.Proofs.YtocilianjfhifaaGreatDoor.Cov Go.RowKit

theorem AZO:Tryz.prog.cellsOf 37=1:=by kernel_rfl
theorem AZ5:Tryz.prog.cellsOf 75=3:=by kernel_rfl
def okQ (q:Qs) (b:Nat):Prop := ∃ b1 b2,b1+b2≤b∧okM q.m b1∧okL okV q.l b2
theorem rdQ:Rd Tryz.prog 75 JI okQ:=by
 intro n
 match n with
 | 0=>exact RdAt.zero
 | 1=>exact ZP Tryz.underlying75
 | n+2 =>
   have rdVs:RdAt Tryz.prog (n+1) 37 (fun x:SM × List Cvr => [.sl x.1 4 (x.2.map D5)]) (fun x b => ∃ b',b'+1≤b∧okL okV x.2 b'):=LQ Tryz.underlying37 AZP (by decide) JQ (rdV n)
   refine RdAt.map (fun x:Mo × (SM × List Cvr) × Unit=>(⟨x.1,x.2.1.1,x.2.1.2⟩:Qs))
    (MF Tryz.underlying75 (G8 rfl AZQ AHL (rdM _) (G8 rfl AZO (fun _=>rfl) rdVs PP))) (fun x=>rfl) ?_
   rintro ⟨a,b,_⟩ N ⟨_,hN,b1,b2,hb,h1,b3,b4,hb2,h2,_⟩
   exact ⟨b1,b3,by omega,h1,P5 h2⟩
theorem AY9 {q:Qs} {b:Nat} (h:okQ q b) (hb:b≤1048576):QOk q:=by
 obtain ⟨b1,b2,h0,h1,h2⟩:=h
 refine ⟨ASN h1 (by omega),fun v hv => ?_,Nat.le_trans (okL.length h2) (by omega)⟩
 obtain ⟨b3,h3,h4⟩:=okL.each h2 v hv
 exact ATJ h4 (by omega)
def AZB (z:Int) (_:Nat):Prop:=0≤z∧z≤255
theorem AZ4:Rd Tryz.prog 5 (fun z:Int => [.int .u8 z]) AZB:=by
 intro n H ench w cs d ps h
 obtain ⟨z,rfl,hx,hz⟩:=DataW.trod_int Tryz.underlying5 h
 refine ⟨z,?_,RowP.one rfl (.int _ _)⟩
 simp only [Lit.wf,Bool.and_eq_true,decide_eq_true_eq] at hz
 exact hz
end Go.Proofs.YtocilianjfhifaaGreatDoor.Rk
