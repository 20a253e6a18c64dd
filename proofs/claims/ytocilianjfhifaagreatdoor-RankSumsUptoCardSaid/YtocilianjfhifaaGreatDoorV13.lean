/- Part 13 of the proof (R22, R23, Kx); no condition. -/
import Derived.Test.YtocilianjfhifaaGreatDoorV12
set_option linter.unusedVariables false
/- The laws RankReaches, RankContains; no condition but the variables that are laid, the bounds on lengths, and cover.tuple's contract. -/
set_option linter.unusedSimpArgs false
set_option maxRecDepth 8000
namespace Go.Proofs.YtocilianjfhifaaGreatDoor.Rk
open Go Go.Proofs Go.Proofs.YtocilianjfhifaaGreatDoor.Sm Go.Proofs.YtocilianjfhifaaGreatDoor.Bins Go.Proofs.YtocilianjfhifaaGreatDoor.Cov Go.RowKit

def toI (o:List Nat):List Int:=o.map fun n:Nat=>(n:Int)
theorem ALZ (o:List Nat):(toI o).map encI=o.map FI:=by unfold toI; rw [List.map_map]; rfl
theorem ALY (o:List Nat):(toI o).map Int.toNat=o:=by
 unfold toI
 rw [List.map_map]
 exact List.map_id'' (fun n=>Int.toNat_natCast n) o
theorem Z4 (o:List Nat):(toI o).length=o.length:=by unfold toI; rw [List.length_map]
theorem AD4 {n:Nat} {o:List Nat} (hlt : ∀ i∈o,i < n) (hnd:o.Nodup):W9 n (toI o)=true:=by
 rw [VB]
 intro i hi
 have hi':i < o.length:=by rw [Z4] at hi; exact hi
 have hv:(toI o)[i]=((o[i]:Nat):Int):=List.getElem_map _
 rw [AFK hi,hv]
 have h1:=hlt _ (List.getElem_mem hi')
 have h2:hasB ((toI o).take i) ((o[i]:Nat):Int)=false:=by
  unfold hasB
  rw [List.any_eq_false]
  intro x hx
  obtain ⟨j,hj,rfl⟩:=List.mem_take_iff_getElem.1 hx
  have hj':j < o.length:=by rw [Z4] at hj; omega
  have e:(toI o)[j]=((o[j]:Nat):Int):=List.getElem_map _
  rw [e]
  simp only [beq_iff_eq]
  intro e2
  have e3:o[j]=o[i]:=by omega
  have:=(List.getElem_inj hnd).1 e3
  omega
 rw [h2]
 simp
 omega
theorem AP8 (a b:List Nat):OT (a ++ b)=OT a+OT b:=by
 have key : ∀ (b:List Nat) (s:Nat),b.foldl (·+·) s=s+b.foldl (·+·) 0:=by
  intro b
  induction b with
  | nil=>intro s; rfl
  | cons x b ih=>intro s; rw [List.foldl_cons,List.foldl_cons,ih (s+x),ih (0+x)]; omega
 unfold OT
 rw [List.foldl_append,key b]
theorem PU (l:List Nat) (i:Nat):OT (l.take i)≤OT l:=by
 have h1:=AP8 (l.take i) (l.drop i)
 rw [List.take_append_drop] at h1
 omega
theorem ADX (l:List Nat) (i:Nat) (hi:i < l.length):OT (l.take (i+1))=OT (l.take i)+l[i]:=by rw [List.take_succ_eq_append_getElem hi,AG5]
theorem AEB {γ:Type} (gs:List γ) (P:Nat→γ→Bool) (o:List Nat):(gains gs P o).length=o.length:=by unfold gains; simp
theorem ABR {γ:Type} (gs:List γ) (P:Nat→γ→Bool) (o:List Nat) {k:Nat} (hk:k < (gains gs P o).length):(gains gs P o)[k]=gain gs P (o.take k) (o.getD k 0):=by unfold gains; simp
/-- what Greedy's list is -/
structure GrOk (m:Mo) (l:List Cvr) (o:List Nat):Prop where
 F:Falls (goals m) (hits l) l.length o
 Z : ∀ i,i < l.length→gain (goals m) (hits l) o i=0
theorem AV7 {m:Mo} {l:List Cvr} (hz:JC m l 1024=0):GrOk m l (grL m l):=by
 have e:grL m l=OX (goals m) (hits l) l.length l.length []:=by unfold grL; rw [if_pos hz]
 rw [e]
 exact ⟨TE _ _ _ _ _ (Falls.nil _ _ _),ABP _ _ _ _ _ (cnt_le _ _ _ _)⟩
theorem AD0 {m:Mo} {l:List Cvr} (h1:FU m=0) (h3 : ∀ v∈l,FN m v=true) {o:List Nat} (ho : ∀ i∈o,i < l.length) (hz : ∀ i,i < l.length→gain (goals m) (hits l) o i=0) :
  Q9 m (N7 m (sel l o))=Q9 m (N7 m (sel l (List.range l.length))):=by
 rw [reach_eq h1 h3 ho,reach_eq h1 h3 (fun i hi=>by simpa using hi)]
 exact AU3 _ _ _ ho hz
theorem AON {xs:List Nat} {k:Nat} (hk:k < xs.length) (s:SM) (H:Hp):LX 1 H (.sl s 1 (xs.map FI)) (.int .i64 (k:Nat))=some (.fptr 1 (xs.map FI) k 0):=DJ hk
set_option maxHeartbeats 2000000 in
theorem AV3 (G:Nat→AV) (hG:GOk G) (hT:J5 G) (q:Qs) (hq:QOk q) (h:Hp):PCall (En G) 17 [.agg (LJ q)] h (.bool true):=by
 refine ACalls.pure0 rfl ?_
 refine CG (H:=Hint.none) (enM G) Tryz.func17 rfl (by kernel_rfl) (by kernel_rfl) (Nat.le_of_ble_eq_true (by kernel_rfl)) ?_
 show awp _ _ _ _ _ (EU _ [.tmp 2] _)
 have gq:=CX h (ABlk.live 3 [LJ q])
 have hx:ext h (h ++ [ABlk.live 3 [LJ q]]):=(ext.rfl' h).app _
 simp -implicitDefEqProofs only [BB,AZ,A8,AY,BC,AO,AQ,AL,BD,AX,AC,AA,A7,AU,BL,BA,FK,BO,BR,BG,↓reduceIte,Nat.reduceEqDiff,Option.getD_some,Bool.not_false,enP,bxQ]
 generalize h ++ [ABlk.live 3 [LJ q]]=H at gq hx ⊢
 simp -implicitDefEqProofs only [AY,AO,AQ,AL,BD,AX,AC,AA,A7,CB,CE,BX,AB,List.map_cons,List.map_nil,List.append_nil,↓reduceIte,Option.getD_some,Bool.not_false,ldQ gq]
 refine (XL G q hq H).use ?_
 intro b
 have hqn:=hq.n
 cases b
 ·simp -implicitDefEqProofs only [BB,AZ,BI,A8,DX,AY,BC,AO,AQ,AL,BD,AX,AC,AA,A7,CB,H9,CE,BX,AB,FB,List.map_nil,List.append_nil,↓reduceIte,Option.getD_some,Bool.not_false]
  refine (O0 G hG hT H).use ?_
  simp -implicitDefEqProofs only [BM,A8,CS,CU,AY,BC,AO,AQ,AL,BD,AX,AC,AA,A7,BA,↓reduceIte,Option.getD_some,Bool.not_false]
  exact ⟨trivial,hx⟩
 simp -implicitDefEqProofs only [BB,AZ,BN,BI,A8,DY,AY,BC,AO,AQ,AL,BD,AX,AC,AA,A7,CB,BO,H9,BJ,CE,BX,AB,FB,List.map_cons,List.map_nil,List.append_nil,↓reduceIte,Nat.reduceEqDiff,Nat.add_zero,Nat.zero_add,Option.getD_some,Bool.not_true,Bool.not_false,enP,OC,ND,YG gq,VK gq]
 refine (U0 G hG hT q.m q.l q.s hq.m hq.l hq.n H).use ?_
 simp -implicitDefEqProofs only [List.getElem?_cons_zero,List.getElem?_cons_succ,BB,AZ,BI,A8,AY,BC,AO,AQ,AL,BD,AX,AC,AA,A7,AU,BH,BF,BA,BQ,ET,FX,AB,EQ,↓reduceIte,Nat.reduceEqDiff,Option.getD_some,Bool.not_false,enP,bne]
 by_cases hz:JC q.m q.l 1024=0
 case neg =>
  have hb:(JC q.m q.l 1024 == 0)=false:=by simpa using hz
  have he:grL q.m q.l = []:=by unfold grL; rw [if_neg hz]
  have e0:(((0:Nat):Int) == 0)=true:=rfl
  rw [he]
  simp -implicitDefEqProofs only [BB,AZ,DX,AY,BK,BU,CO,GN,AO,AQ,AL,BD,AX,AC,AA,A7,AU,CB,BH,BF,BQ,DN,CE,BX,AB,EJ,List.map_nil,List.append_nil,↓reduceIte,Nat.reduceEqDiff,Option.getD_some,Bool.not_false,enP,IL,hb,List.length_nil,e0]
  refine (O0 G hG hT H).use ?_
  simp -implicitDefEqProofs only [BM,A8,CS,CU,AY,BC,AO,AQ,AL,BD,AX,AC,AA,A7,AU,BL,BA,CP,DW,↓reduceIte,Nat.reduceEqDiff,Option.getD_some,Bool.not_false]
  exact ⟨trivial,hx⟩
 obtain ⟨h1,h2,h3⟩:=LU.1 hz
 have hok:=AV7 hz
 have hol:(grL q.m q.l).length≤1048576:=AMU q.m q.l (.inr hqn)
 rw [hz]
 generalize grL q.m q.l=o at hok hol ⊢
 have hge:gnE q.m q.l (toI o)=0:=AIA.2 ⟨hz,AD4 hok.F.lt hok.F.nodup⟩
 have hgl:gnL q.m q.l (toI o)=gains (goals q.m) (hits q.l) o:=by unfold gnL; rw [if_pos hge,ALY]
 have hcall:=WR G hG hT q.m q.l q.s (nm o) (toI o) hq.m hq.l hq.n (by rw [Z4]; exact hol) H
 rw [hge,hgl,ALZ] at hcall
 have z0:((0:Int) == 0)=true:=rfl
 obtain ⟨gl,hgl0⟩ : ∃ gl,gl=gains (goals q.m) (hits q.l) o:=⟨_,rfl⟩
 have hlen:gl.length=o.length:=by rw [hgl0]; exact AEB _ _ _
 have hsum:OT gl=(goals q.m).countP (cov (hits q.l) o):=by rw [hgl0]; exact AEA _ _ _
 have hpos : ∀ k (hk:k < gl.length),1≤gl[k]:=by
  subst hgl0
  exact fun k hk=>by rw [ABR]; exact hok.F.pos k (by omega)
 have hfall : ∀ k (hk:k < gl.length),0 < k→gl[k]≤gl[k - 1]:=by
  subst hgl0
  exact fun k hk h0=>by
   rw [ABR,ABR]
   have:=hok.F.fall (k - 1) (by omega)
   rw [show k - 1+1=k by omega] at this
   exact this
 rw [← hgl0] at hcall
 have hrn:=reach_eq h1 h3 hok.F.lt
 have hcv:=AD0 h1 h3 hok.F.lt hok.Z
 have hg:=KT (J4 h1)
 have hcl:(goals q.m).countP (cov (hits q.l) o)≤(goals q.m).length:=List.countP_le_length
 clear hgl hgl0
 simp -implicitDefEqProofs only [BB,AZ,BN,A8,DY,AY,AO,AQ,AL,BD,AX,AC,AA,A7,CB,BF,BO,BJ,CE,BX,AB,List.map_cons,List.map_nil,List.append_nil,↓reduceIte,Nat.reduceEqDiff,Nat.add_zero,Nat.zero_add,Option.getD_some,Bool.not_true,Bool.not_false,enP,OC,ND,z0,YG gq,VK gq]
 refine hcall.use ?_
 have ell:(((gl.length:Nat):Int) == ((o.length:Nat):Int))=true:=by rw [hlen]; simp
 simp -implicitDefEqProofs only [List.getElem?_cons_zero,List.getElem?_cons_succ,BB,BP,AZ,BN,BI,A8,DY,AY,BC,BK,BU,CO,EO,AO,AQ,AL,BD,AX,AC,AA,A7,AU,BH,BL,BF,BA,CP,DV,BQ,ET,FX,DN,AB,EQ,↓reduceIte,Nat.reduceEqDiff,Option.getD_some,Bool.not_true,Bool.not_false,enP,IL,bne,z0,List.length_map,ell]
 refine F8 0 (fun F H'=>F 1 = .ptr h.length 0 0∧F 3 = .sl (nm o) 1 (o.map FI)∧F 7 = .int .i64 (OT gl:Nat)∧H'=H) (fun _ _=>False) ?_ ?_ (fun _ _ hh=>hh.elim)
 ·refine C9 (fun n F H' => ∃ i,n+i=gl.length∧F 1 = .ptr h.length 0 0∧F 3 = .sl (nm o) 1 (o.map FI)∧F 5 = .sl (nm gl) 1 (gl.map FI)∧F 7 = .int .i64 (OT (gl.take i):Nat)∧F 8 = .int .i64 (i:Nat)∧H'=H) gl.length
   ⟨0,by simp,by simp -implicitDefEqProofs only [AA,↓reduceIte,Nat.reduceEqDiff],by simp -implicitDefEqProofs only [AA,↓reduceIte,Nat.reduceEqDiff],by simp -implicitDefEqProofs only [AA,↓reduceIte,Nat.reduceEqDiff],by simp -implicitDefEqProofs only [AA,↓reduceIte,Nat.reduceEqDiff] <;> rfl,by simp -implicitDefEqProofs only [AA,↓reduceIte] <;> rfl,rfl⟩ ?_
  rintro n F H' ⟨i,hi,f1,f3,f5,f7,f8,rfl⟩
  simp -implicitDefEqProofs only [BB,AZ,BI,A8,AY,BC,AO,AQ,AL,BD,AX,AC,AA,A7,BF,BQ,DN,AB,CW,↓reduceIte,Nat.reduceEqDiff,Option.getD_some,Bool.not_false,enP,IL,f5,f8,List.length_map]
  refine CQ (fun hc => ?_) (fun hc => ?_)
  ·have hi':i < gl.length:=by simpa using hc
   have hp:=hpos i hi'
   have hf:=hfall i hi'
   have hst:=ADX gl i hi'
   have hle:=PU gl (i+1)
   have hle0:=PU gl i
   have d1:decide (((gl[i]:Nat):Int) < 1)=false:=by rw [decide_eq_false_iff_not]; omega
   have hws:IntKind.i64.wrap (((OT (gl.take i):Nat):Int)+((gl[i]:Nat):Int))=((OT (gl.take (i+1)):Nat):Int):=by rw [hst,wrap_i64 (by omega) (by omega)]; omega
   simp -implicitDefEqProofs only [BB,BP,BN,A8]
   refine ER (by kernel_rfl) ?_
   rcases Nat.eq_zero_or_pos i with h0 | h0
   ·have d2:decide (((i:Nat):Int) > 0)=false:=by rw [decide_eq_false_iff_not]; omega
    simp -implicitDefEqProofs only [F7,D9,DT,E8,EC,FQ,GR,QO,ACZ,FH,I4,FC,IE,D7,AZ,BN,BI,A8,D8,ED,DY,AY,BC,CO,AO,AQ,AL,BD,AX,AC,AA,EY,A7,AU,BH,BL,BF,BA,CP,DV,BO,BQ,BZ,AB,CZ,CW,EW,↓reduceIte,Nat.reduceEqDiff,Nat.reduceAdd,Option.getD_some,Bool.not_false,enP,JQ,f1,f3,f5,f7,f8,AON hi',ldN hi',d1,d2,hws,wrap_succ (show i < 9223372036854775807 by omega)]
    exact ⟨n - 1,by omega,i+1,by omega,by first | exact f1 | trivial,by first | exact f3 | trivial,by first | exact f5 | trivial,by first | trivial | rfl,by first | trivial | rfl,trivial⟩
   ·have d2:decide (((i:Nat):Int) > 0)=true:=by rw [decide_eq_true_iff]; omega
    have hw1:IntKind.i64.wrap (((i:Nat):Int) - 1)=((i - 1:Nat):Int):=by rw [wrap_i64 (by omega) (by omega)]; omega
    have hi1:i - 1 < gl.length:=by omega
    have hf:=hf h0
    have d3:decide (((gl[i]:Nat):Int) > ((gl[i - 1]:Nat):Int))=false:=by rw [decide_eq_false_iff_not]; omega
    simp -implicitDefEqProofs only [F7,D9,DT,E8,EC,FQ,GR,SL,QO,FH,I4,FC,IE,D7,AZ,BN,BI,A8,D8,ED,DY,AY,BC,CO,AO,AQ,AL,BD,AX,AC,AA,A7,AU,BH,BL,BF,BA,CP,DW,DV,BO,BQ,BZ,AB,CZ,KY,CW,EW,↓reduceIte,Nat.reduceEqDiff,Nat.reduceAdd,Option.getD_some,Bool.not_false,enP,JQ,f1,f3,f5,f7,f8,AON hi',ldN hi',d1,d2,hw1,AON hi1,ldN hi1,d3,hws,wrap_succ (show i < 9223372036854775807 by omega)]
    exact ⟨n - 1,by omega,i+1,by omega,by first | exact f1 | trivial,by first | exact f3 | trivial,by first | exact f5 | trivial,by first | trivial | rfl,by first | trivial | rfl,trivial⟩
  ·have hi' : ¬ i < gl.length:=by simpa using hc
   rw [List.take_of_length_le (by omega)] at f7
   simp -implicitDefEqProofs only [DC,DZ,JM,EP,AA,↓reduceIte,Nat.reduceEqDiff]
   exact ⟨f1,f3,f7,trivial⟩
 ·rintro F H' ⟨f1,f3,f7,rfl⟩
  have ha:=PG G hG hT q hq (List.range q.l.length) (nm (List.range q.l.length)) (fun i hi=>by simpa using hi) (by simp; omega) H'
  have hb:=PG G hG hT q hq o (nm o) hok.F.lt hol H'
  rw [← hcv,hrn,← hsum] at ha
  rw [hrn,← hsum] at hb
  have es:(((OT gl:Nat):Int) == ((OT gl:Nat):Int))=true:=by simp
  simp -implicitDefEqProofs only [BB,A8,EN,↓reduceIte]
  refine ER (by kernel_rfl) ?_
  simp -implicitDefEqProofs only [F7,D9,DT,E8,EC,IQ,FC,GM,F6,BB,AZ,A8,AY,AO,AQ,AL,BD,AX,AC,AA,A7,CB,BF,BO,BQ,AB,List.map_cons,List.map_nil,List.append_nil,↓reduceIte,Nat.reduceEqDiff,Nat.reduceAdd,Option.getD_some,Bool.not_false,enP,f1,ldQ gq]
  refine ⟨_,XZ G q hqn H',?_⟩
  try simp -implicitDefEqProofs only []
  refine ⟨_,ha,?_⟩
  simp -implicitDefEqProofs only [AY,BK,BU,CO,GN,AO,AQ,AL,BD,AX,AC,AA,A7,CB,BF,BO,CE,BX,AB,EJ,List.map_cons,List.map_nil,List.append_nil,↓reduceIte,Nat.reduceEqDiff,Option.getD_some,Bool.not_false,enP,f1,f3,f7,es,ldQ gq]
  refine hb.use ?_
  simp -implicitDefEqProofs only [AY,BK,BU,CO,GN,AO,AQ,AL,BD,AX,AC,AA,A7,AU,CB,BL,BF,CP,DW,BQ,CE,BX,AB,EJ,List.map_nil,List.append_nil,↓reduceIte,Nat.reduceEqDiff,Option.getD_some,Bool.not_false,enP,es]
  refine (O0 G hG hT H').use ?_
  simp -implicitDefEqProofs only [BM,A8,CU,AY,BC,AO,AQ,AL,BD,AX,AC,AA,A7,AU,BL,BA,CP,DW,↓reduceIte,Nat.reduceEqDiff,Option.getD_some,Bool.not_false]
  exact ⟨trivial,hx⟩
set_option maxHeartbeats 2000000 in
theorem AUF (G:Nat→AV) (hG:GOk G) (hT:J5 G) (q:Qs) (hq:QOk q) (h:Hp):PCall (En G) 18 [.agg (LJ q)] h (.bool true):=by
 refine ACalls.pure0 rfl ?_
 refine CG (H:=Hint.none) (enM G) Tryz.func18 rfl (by kernel_rfl) (by kernel_rfl) (Nat.le_of_ble_eq_true (by kernel_rfl)) ?_
 show awp _ _ _ _ _ (EU _ [.tmp 2] _)
 have gq:=CX h (ABlk.live 3 [LJ q])
 have hx:ext h (h ++ [ABlk.live 3 [LJ q]]):=(ext.rfl' h).app _
 simp -implicitDefEqProofs only [BB,AZ,A8,AY,BC,AO,AQ,AL,BD,AX,AC,AA,A7,AU,BL,BA,FK,BO,BR,BG,↓reduceIte,Nat.reduceEqDiff,Option.getD_some,Bool.not_false,enP,bxQ]
 generalize h ++ [ABlk.live 3 [LJ q]]=H at gq hx ⊢
 simp -implicitDefEqProofs only [AY,AO,AQ,AL,BD,AX,AC,AA,A7,CB,CE,BX,AB,List.map_cons,List.map_nil,List.append_nil,↓reduceIte,Option.getD_some,Bool.not_false,ldQ gq]
 refine (XL G q hq H).use ?_
 intro b
 have hqn:=hq.n
 cases b
 ·simp -implicitDefEqProofs only [BB,AZ,BI,A8,DX,AY,BC,BK,BU,CO,F5,AO,AQ,AL,BD,AX,AC,AA,EY,A7,AU,CB,BL,BF,CP,DW,H9,CE,BX,AB,FB,List.map_nil,List.append_nil,↓reduceIte,Nat.reduceEqDiff,Option.getD_some,Bool.not_false]
  refine (O0 G hG hT H).use ?_
  simp -implicitDefEqProofs only [BM,A8,CS,CU,AY,BC,AO,AQ,AL,BD,AX,AC,AA,A7,BA,↓reduceIte,Option.getD_some,Bool.not_false]
  exact ⟨trivial,hx⟩
 simp -implicitDefEqProofs only [BI,A8,AY,BC,BK,BU,CO,EO,AO,AQ,AL,BD,AX,AC,AA,A7,AU,BH,BL,BF,CP,DV,BO,BQ,H9,BJ,DN,AB,EW,FB,↓reduceIte,Nat.reduceEqDiff,Nat.zero_add,Option.getD_some,Bool.not_true,Bool.not_false,enP,TU,ND,VK gq,List.length_map]
 refine CQ (fun hc => ?_) (fun hc => ?_)
 ·simp -implicitDefEqProofs only [BB,AZ,AY,AO,AQ,AL,BD,AX,CB,CE,BX,List.map_nil,List.append_nil,Option.getD_some,Bool.not_false]
  refine (O0 G hG hT H).use ?_
  simp -implicitDefEqProofs only [BM,A8,CS,CU,AY,BC,AO,AQ,AL,BD,AX,AC,AA,A7,BA,↓reduceIte,Option.getD_some,Bool.not_false]
  exact ⟨trivial,hx⟩
 have h12:q.l.length≤12:=by simp at hc; omega
 have hce:JC q.m q.l 12=JC q.m q.l 1024:=by
  unfold JC
  rw [if_neg (show ¬ 12 < q.l.length by omega),if_neg (show ¬ 1024 < q.l.length by omega)]
 simp -implicitDefEqProofs only [BB,AZ,BN,A8,AY,AO,AQ,AL,BD,AX,AC,AA,A7,CB,BO,BJ,CE,BX,AB,List.map_cons,List.map_nil,List.append_nil,↓reduceIte,Nat.reduceEqDiff,Nat.add_zero,Nat.zero_add,Option.getD_some,Bool.not_false,enP,OC,ND,YG gq,VK gq]
 refine (U0 G hG hT q.m q.l q.s hq.m hq.l hq.n H).use ?_
 simp -implicitDefEqProofs only [List.getElem?_cons_zero,List.getElem?_cons_succ,BB,AZ,A8,AY,BC,AO,AQ,AL,BD,AX,AC,AA,A7,CB,BF,BA,BO,BJ,ET,FX,CE,BX,AB,List.map_cons,List.map_nil,List.append_nil,↓reduceIte,Nat.reduceEqDiff,Nat.add_zero,Nat.zero_add,Option.getD_some,Bool.not_false,enP,OC,ND,YG gq,VK gq]
 refine (WQ G hG hT q.m q.l q.s hq.m hq.l hq.n H).use ?_
 simp -implicitDefEqProofs only [List.getElem?_cons_zero,List.getElem?_cons_succ,BB,AZ,A8,AY,BC,AO,AQ,AL,BD,AX,AC,AA,A7,CB,BF,BA,BO,BJ,ET,FX,CE,BX,AB,List.map_cons,List.map_nil,List.append_nil,↓reduceIte,Nat.reduceEqDiff,Nat.add_zero,Nat.zero_add,Option.getD_some,Bool.not_false,enP,OC,ND,YG gq,VK gq]
 refine (ZK G hG hT q.m q.l q.s hq.m hq.l hq.n H).use ?_
 rw [hce]
 simp -implicitDefEqProofs only [List.getElem?_cons_zero,List.getElem?_cons_succ,BB,AZ,BI,A8,AY,BC,AO,AQ,AL,BD,AX,AC,AA,A7,AU,BH,BF,BA,BQ,ET,FX,AB,EQ,↓reduceIte,Nat.reduceEqDiff,Option.getD_some,Bool.not_false,enP,bne]
 by_cases hz:JC q.m q.l 1024=0
 case neg =>
  have hb:(JC q.m q.l 1024 == 0)=false:=by simpa using hz
  have e1:(JC q.m q.l 1024 == JC q.m q.l 1024)=true:=by simp
  simp -implicitDefEqProofs only [BB,AZ,DX,AY,BK,BU,CO,GN,AO,AQ,AL,BD,AX,AC,AA,A7,AU,CB,BL,BF,CP,DW,BQ,CE,BX,AB,EJ,List.map_nil,List.append_nil,↓reduceIte,Nat.reduceEqDiff,Option.getD_some,Bool.not_false,enP,hb,e1]
  refine (O0 G hG hT H).use ?_
  simp -implicitDefEqProofs only [BM,A8,CS,CU,AY,BC,AO,AQ,AL,BD,AX,AC,AA,A7,AU,BL,BA,CP,DW,↓reduceIte,Nat.reduceEqDiff,Option.getD_some,Bool.not_false]
  exact ⟨trivial,hx⟩
 obtain ⟨h1,h2,h3⟩:=LU.1 hz
 have hok:=AV7 hz
 have hol:(grL q.m q.l).length≤1048576:=AMU q.m q.l (.inr hqn)
 have hnl:=ATX q.m q.l
 have hnd : ∀ i∈ndL q.m q.l,i < q.l.length∧0 < uniq (goals q.m) (hits q.l) q.l.length i:=fun i hi=>by
  unfold ndL at hi
  rw [if_pos hz] at hi
  have:=List.mem_filter.1 hi
  simpa using this
 obtain ⟨x,hxl⟩ : ∃ x,least (goals q.m) (hits q.l) q.l.length=some x:=by
  cases he:least (goals q.m) (hits q.l) q.l.length with
  | none=>exact absurd he (ABJ _ _ _)
  | some x=>exact ⟨x,rfl⟩
 have hle:leL q.m q.l=x:=by unfold leL; rw [if_pos (by rw [hce]; exact hz),hxl]; rfl
 obtain ⟨hxa,hxlt⟩:=least_some _ _ _ hxl
 have hga:allB (goals q.m) (hits q.l) q.l.length (grL q.m q.l)=true:=(PL _ _ _ _).2 hok.Z
 have hlel:=AH0 _ _ _ hxl hok.F.lt hga
 rw [hle,hz]
 generalize grL q.m q.l=o at hok hol hga hlel ⊢
 generalize ndL q.m q.l=nd at hnl hnd ⊢
 have z0:((0:Int) == 0)=true:=rfl
 simp -implicitDefEqProofs only [BB,BP,AZ,BN,A8,DY,AY,BC,AO,AQ,AL,BD,AX,AC,AU,BH,BA,Option.getD_some,Bool.not_true,Bool.not_false,z0]
 refine F8 0 (fun F H'=>F 1 = .ptr h.length 0 0∧F 3 = .sl (nm o) 1 (o.map FI)∧F 5 = .sl (nm x) 1 (x.map FI)∧F 6 = .int .i64 0∧F 8 = .int .i64 0∧H'=H) (fun _ _=>False) ?_ ?_ (fun _ _ hh=>hh.elim)
 ·refine C9 (fun n F H' => ∃ i,n+i=nd.length∧F 1 = .ptr h.length 0 0∧F 3 = .sl (nm o) 1 (o.map FI)∧F 5 = .sl (nm x) 1 (x.map FI)∧F 6 = .int .i64 0∧F 7 = .sl (nm nd) 1 (nd.map FI)∧F 8 = .int .i64 0∧F 9 = .int .i64 (i:Nat)∧H'=H) nd.length
   ⟨0,by simp,by simp -implicitDefEqProofs only [AA,↓reduceIte,Nat.reduceEqDiff],by simp -implicitDefEqProofs only [AA,↓reduceIte,Nat.reduceEqDiff],by simp -implicitDefEqProofs only [AA,↓reduceIte,Nat.reduceEqDiff],by simp -implicitDefEqProofs only [AA,↓reduceIte,Nat.reduceEqDiff],by simp -implicitDefEqProofs only [AA,↓reduceIte,Nat.reduceEqDiff],by simp -implicitDefEqProofs only [AA,↓reduceIte,Nat.reduceEqDiff],by simp -implicitDefEqProofs only [AA,↓reduceIte] <;> rfl,rfl⟩ ?_
  rintro n F H' ⟨i,hi,f1,f3,f5,f6,f7,f8,f9,rfl⟩
  simp -implicitDefEqProofs only [BB,AZ,BI,A8,AY,BC,AO,AQ,AL,BD,AX,AC,AA,A7,BF,BQ,DN,AB,CW,↓reduceIte,Nat.reduceEqDiff,Option.getD_some,Bool.not_false,enP,IL,f7,f9,List.length_map]
  refine CQ (fun hc => ?_) (fun hc => ?_)
  ·have hi':i < nd.length:=by simpa using hc
   obtain ⟨hn1,hn2⟩:=hnd _ (List.getElem_mem hi')
   have m1:=AGX _ _ _ hok.F.lt hga hn1 hn2
   have m2:=AGX _ _ _ hxlt hxa hn1 hn2
   simp -implicitDefEqProofs only [BB,BP,AZ,BN,A8,AY,AO,AQ,AL,BD,AX,AC,AA,A7,CB,BF,BO,BZ,CE,BX,AB,List.map_cons,List.map_nil,List.append_nil,↓reduceIte,Nat.reduceEqDiff,Option.getD_some,Bool.not_false,enP,JQ,f3,f7,f9,AON hi',ldN hi']
   refine (AMT G o (nm o) nd[i] m1 hol H').use ?_
   simp -implicitDefEqProofs only [AY,BK,BU,CO,EO,AO,AQ,AL,BD,AX,AC,AA,A7,CB,BF,BO,H9,BZ,CE,BX,AB,FB,List.map_cons,List.map_nil,List.append_nil,↓reduceIte,Nat.reduceEqDiff,Option.getD_some,Bool.not_true,Bool.not_false,enP,JQ,f5,f7,f9,AON hi',ldN hi']
   refine (AMT G x (nm x) nd[i] m2 (by omega) H').use ?_
   simp -implicitDefEqProofs only [AZ,BN,BI,A8,D8,ED,DY,AY,BC,BK,BU,CO,EO,AO,AQ,AL,BD,AX,AC,AA,A7,AU,BH,BL,BF,BA,CP,DV,BQ,H9,AB,CZ,FB,↓reduceIte,Nat.reduceEqDiff,Option.getD_some,Bool.not_true,Bool.not_false,enP,f9,wrap_succ (show i < 9223372036854775807 by omega)]
   exact ⟨n - 1,by omega,i+1,by omega,f1,f3,f5,f6,f7,f8,by first | trivial | rfl,trivial⟩
  ·simp -implicitDefEqProofs only [DC,DZ,JM,EP,AA,↓reduceIte,Nat.reduceEqDiff]
   exact ⟨f1,f3,f5,f6,f8,trivial⟩
 ·rintro F H' ⟨f1,f3,f5,f6,f8,rfl⟩
  have ha:=PG G hG hT q hq (List.range q.l.length) (nm (List.range q.l.length)) (fun i hi=>by simpa using hi) (by simp; omega) H'
  have hb:=PG G hG hT q hq x (nm x) hxlt (by omega) H'
  rw [AD0 h1 h3 hxlt ((PL _ _ _ _).1 hxa)] at hb
  generalize Q9 q.m (N7 q.m (sel q.l (List.range q.l.length)))=N at ha hb
  have es:(((N:Nat):Int) == ((N:Nat):Int))=true:=by simp
  have dl:decide (((x.length:Nat):Int)≤((o.length:Nat):Int))=true:=by rw [decide_eq_true_iff]; omega
  simp -implicitDefEqProofs only [BB,A8,EN,↓reduceIte]
  refine ER (by kernel_rfl) ?_
  simp -implicitDefEqProofs only [F7,D9,DT,EC,FQ,GR,SL,FH,I4,FC,IE,GV,GM,F6,CO,AO,AA,A7,AU,CB,BH,BL,CP,DW,BO,BQ,DN,AB,EJ,KZ,List.map_cons,List.map_nil,List.append_nil,↓reduceIte,Nat.reduceEqDiff,Nat.reduceAdd,Option.getD_some,enP,IL,f1,f3,f5,f6,f8,z0,List.length_map,dl,ldQ gq]
  refine ⟨_,hb,?_⟩
  try simp -implicitDefEqProofs only [f1,ldQ gq]
  refine ⟨_,XZ G q hqn H',?_⟩
  try simp -implicitDefEqProofs only []
  refine ⟨_,ha,?_⟩
  try simp -implicitDefEqProofs only [F7,D9,DT,E8,EC,FQ,GR,SL,FH,IQ,I4,GM,F6,BM,A8,CU,CO,AO,AA,A7,AU,CB,BL,CP,DW,AB,EJ,List.map_nil,List.append_nil,↓reduceIte,Nat.reduceEqDiff,Nat.reduceAdd,Option.getD_some,es]
  refine ⟨_,O0 G hG hT H',?_⟩
  try simp -implicitDefEqProofs only []
  exact ⟨trivial,hx⟩
end Go.Proofs.YtocilianjfhifaaGreatDoor.Rk
/- The law RankSums; no condition but the variables that are laid, the bounds on lengths, and cover.tuple's contract. -/
set_option linter.unusedSimpArgs false
set_option maxRecDepth 8000
namespace Go.Proofs.YtocilianjfhifaaGreatDoor.Rk
open Go Go.Proofs Go.Proofs.YtocilianjfhifaaGreatDoor.Sm Go.Proofs.YtocilianjfhifaaGreatDoor.Bins Go.Proofs.YtocilianjfhifaaGreatDoor.Cov Go.RowKit

theorem AVC {H:Hp} {b:Nat} {xs ys:List Nat} {s:SM} (hb:H[b]? = some (ABlk.live 1 (xs.map FI))) (hl:xs.length+ys.length≤8388608) :
  ∃ c H',G5 Tryz.prog true H 57 57 (.own b 0 xs.length) (.sl s 1 (ys.map FI))=some (.own c 0 (xs ++ ys).length,H')∧H'[c]? = some (ABlk.live 1 ((xs ++ ys).map FI))∧b≤c∧(∀ e:Hp,e.length≤b→ext e H→ext e H'):=by
 have hc:KA H (.own b 0 xs.length)=some (1,xs.map FI):=by rw [P8 hb (by simp),List.drop_zero,List.take_of_length_le (by simp)]
 have hbl:=CJ hb
 cases ys with
 | nil =>
   refine ⟨b,H,?_,by simpa using hb,Nat.le_refl _,fun e _ hx=>hx⟩
   have hs:KA H (.sl s 1 [])=some (1,[]):=KX H s 1 []
   simp [G5,QB,sz3,RP,hc,hs,bump]
 | cons y ys =>
   refine ⟨H.length,H.set b .dead ++ [ABlk.live 1 ((xs ++ y :: ys).map FI)],?_,?_,by omega,fun e he hx=>(hx.set he _).app _⟩
   ·rw [AAL QB sz3 X6 WN hc (KX H s 1 ((y :: ys).map FI)) (by simp) (KO (by simp at hl ⊢; omega) (by omega)),List.map_append,List.length_map,List.length_map,List.length_append]
   ·rw [List.getElem?_append_right (by simp)]
    simp
def rot (n j:Nat):List Nat:=(List.range n).drop j ++ (List.range n).take j
theorem AFF {n j i:Nat}:i∈rot n j↔i < n:=by
 unfold rot
 rw [List.mem_append,or_comm,← List.mem_append,List.take_append_drop,List.mem_range]
theorem ATE (n j:Nat):(rot n j).length=n:=by
 unfold rot
 rw [List.length_append,Nat.add_comm,← List.length_append,List.take_append_drop,List.length_range]
theorem AN4 (n j:Nat):(rot n j).Nodup:=by
 unfold rot
 have h:((List.range n).take j ++ (List.range n).drop j).Nodup:=by rw [List.take_append_drop]; exact List.nodup_range
 rw [List.nodup_append] at h ⊢
 exact ⟨h.2.1,h.1,fun a ha b hb e=>h.2.2 b hb a ha e.symm⟩
theorem ATF {γ:Type} (gs:List γ) (P:Nat→γ→Bool) (n j:Nat):gs.countP (cov P (rot n j))=gs.countP (cov P (List.range n)):=by
 refine List.countP_congr fun x _=>⟨XV P fun i hi => ?_,XV P fun i hi => ?_⟩
 ·rw [AFF] at hi; simpa using hi
 ·rw [AFF]; simpa using hi
set_option maxHeartbeats 2000000 in
theorem AYZ (G:Nat→AV) (hG:GOk G) (hT:J5 G) (q:Qs) (hq:QOk q) (k:Nat) (hk:k < 256) (h:Hp):PCall (En G) 19 [.agg (LJ q),.int .u8 (k:Nat)] h (.bool true):=by
 refine ACalls.pure0 rfl ?_
 refine CG (H:=hint [] [(45,[44])]) (enM G) Tryz.func19 rfl (by kernel_rfl) (by kernel_rfl) (Nat.le_of_ble_eq_true (by kernel_rfl)) ?_
 show awp _ _ _ _ _ (EU _ [.tmp 4] _)
 have gq:=CX h (ABlk.live 3 [LJ q])
 have hx:ext h (h ++ [ABlk.live 3 [LJ q]]):=(ext.rfl' h).app _
 simp -implicitDefEqProofs only [CY,List.contains_nil,Nat.reduceBEq,BB,AZ,A8,AY,BC,AL,BD,AX,AC,AA,A7,AU,BL,BA,FK,BO,BR,BG,↓reduceIte,Nat.reduceEqDiff,Option.getD_some,Bool.not_false,enP,Bool.false_eq_true,EH,bxQ]
 generalize h ++ [ABlk.live 3 [LJ q]]=H at gq hx ⊢
 simp -implicitDefEqProofs only [CY,List.contains_nil,Nat.reduceBEq,AY,AL,BD,AX,AC,AA,A7,CB,CE,BX,AB,List.map_cons,List.map_nil,List.append_nil,↓reduceIte,Option.getD_some,Bool.not_false,Bool.false_eq_true,EH,ldQ gq]
 refine (XL G q hq H).use ?_
 intro b
 have hqn:=hq.n
 cases b
 ·simp -implicitDefEqProofs only [CY,List.contains_nil,Nat.reduceBEq,BB,AZ,BI,A8,DX,AY,BC,BK,BU,CO,F5,AL,BD,AX,AC,AA,EY,A7,AU,CB,BL,BF,CP,DW,H9,CE,BX,AB,FB,List.map_nil,List.append_nil,↓reduceIte,Nat.reduceEqDiff,Option.getD_some,Bool.not_false,Bool.false_eq_true,EH]
  refine (O0 G hG hT H).use ?_
  simp -implicitDefEqProofs only [CY,List.contains_nil,Nat.reduceBEq,BM,A8,CS,CU,AY,BC,AL,BD,AX,AC,AA,A7,BA,↓reduceIte,Option.getD_some,Bool.not_false,Bool.false_eq_true,EH]
  exact ⟨trivial,hx⟩
 by_cases h0:q.l.length=0
 case pos =>
  have e0:(((q.l.length:Nat):Int) == 0)=true:=by rw [h0]; rfl
  simp -implicitDefEqProofs only [CY,List.contains_nil,Nat.reduceBEq,BB,AZ,BI,A8,DX,AY,BC,BK,BU,CO,EO,AL,BD,AX,AC,AA,A7,AU,CB,BH,BL,BF,CP,DV,BO,BQ,H9,BJ,DN,CE,BX,AB,EJ,FB,List.map_nil,List.append_nil,↓reduceIte,Nat.reduceEqDiff,Nat.zero_add,Option.getD_some,Bool.not_true,Bool.not_false,enP,TU,ND,Bool.false_eq_true,EH,VK gq,List.length_map,e0]
  refine (O0 G hG hT H).use ?_
  simp -implicitDefEqProofs only [CY,List.contains_nil,Nat.reduceBEq,BM,A8,CS,CU,AY,BC,AL,BD,AX,AC,AA,A7,BA,↓reduceIte,Option.getD_some,Bool.not_false,Bool.false_eq_true,EH]
  exact ⟨trivial,hx⟩
 have e0:(((q.l.length:Nat):Int) == 0)=false:=by rw [beq_eq_false_iff_ne]; omega
 have hmod:=Nat.mod_lt k (show 0 < q.l.length by omega)
 have hwk:IntKind.i64.wrap ((k:Nat):Int)=((k:Nat):Int):=wrap_i64 (by omega) (by omega)
 simp -implicitDefEqProofs only [CY,List.contains_nil,Nat.reduceBEq,BB,AZ,BN,BI,A8,DY,AY,BC,BK,BU,CO,EO,AL,BD,AX,AC,AA,A7,AU,BH,BL,FV,BF,BA,CP,DV,BO,BQ,H9,AE8,BJ,DN,AB,EJ,FB,BG,BV,↓reduceIte,Nat.reduceEqDiff,Nat.zero_add,Option.getD_some,Bool.not_true,Bool.not_false,enP,TU,ND,AR1,Bool.false_eq_true,EH,VK gq,List.length_map,e0,hwk,Z7 k q.l.length (by omega)]
 generalize hj0:k % q.l.length=j at hmod ⊢
 simp -implicitDefEqProofs only [CY,List.contains_nil,Nat.reduceBEq,AY,AL,BD,AX,AC,AA,A7,CB,CE,BX,AB,List.map_cons,List.map_nil,List.append_nil,↓reduceIte,Option.getD_some,Bool.not_false,Bool.false_eq_true,EH,ldQ gq]
 refine (XZ G q hqn H).use ?_
 have hrl:(List.range q.l.length).length=q.l.length:=List.length_range
 have hsf:=AL0 QB sz3 (h:=H) (m:=nm (List.range q.l.length)) (kk := .i64) (xs:=(List.range q.l.length).map FI) (l:=j) (by rw [List.length_map,hrl]; omega)
 rw [← List.map_drop] at hsf
 have hne:((List.range q.l.length).drop j).map FI≠[]:=by
  intro e
  have:=congrArg List.length e
  simp at this
  omega
 have hdl:((List.range q.l.length).drop j).length≤1048576:=by rw [List.length_drop,hrl]; omega
 have hap:=XY (h:=H) (k':=0) (xs := []) QB sz3 X6 WN (KX H (nm (List.range q.l.length)) 1 (((List.range q.l.length).drop j).map FI)) hne (KO (by rw [List.length_map]; omega) (by omega))
 rw [List.length_map] at hap
 have hb1:=CX H (ABlk.live 1 (((List.range q.l.length).drop j).map FI))
 have gq1:=DL (x:=ABlk.live 1 (((List.range q.l.length).drop j).map FI)) gq
 have hx1:ext h (H ++ [ABlk.live 1 (((List.range q.l.length).drop j).map FI)]):=hx.app _
 have hxH:ext H (H ++ [ABlk.live 1 (((List.range q.l.length).drop j).map FI)]):=(ext.rfl' H).app _
 have hHl:=hx.le
 simp -implicitDefEqProofs only [Option.map_some,Option.map_none,CY,List.contains_nil,Nat.reduceBEq,AY,AL,BD,AX,AC,AA,A7,BF,U1,GU,AB,↓reduceIte,Nat.reduceEqDiff,Option.getD_some,Bool.not_false,enP,Bool.false_eq_true,EH,hsf]
 refine F9 (v := .own H.length 0 ((List.range q.l.length).drop j).length) (h:=H ++ [ABlk.live 1 (((List.range q.l.length).drop j).map FI)]) hap ?_
 obtain ⟨c,H2,ha2,hc2,hcb,he2⟩:=AVC (s:=AU1 (nm (List.range q.l.length)) j (List.range q.l.length).length) (ys:=(List.range q.l.length).take j) hb1 (by rw [List.length_take,hrl]; omega)
 have hst:=AVZ QB sz3 (h:=H ++ [ABlk.live 1 (((List.range q.l.length).drop j).map FI)]) (m:=nm (List.range q.l.length)) (kk := .i64) (xs:=(List.range q.l.length).map FI) (u:=j) (by rw [List.length_map,hrl]; omega)
 rw [← List.map_take,List.length_map] at hst
 simp -implicitDefEqProofs only [CY,List.contains_nil,Nat.reduceBEq,BB,AZ,A8,AY,BC,AL,BD,AX,AC,AA,A7,CB,BF,BA,BO,CE,BX,AB,List.map_cons,List.map_nil,List.append_nil,↓reduceIte,Nat.reduceEqDiff,Option.getD_some,Bool.not_false,enP,Bool.false_eq_true,EH,ldQ gq1]
 refine (XZ G q hqn _).use ?_
 simp -implicitDefEqProofs only [Option.map_some,Option.map_none,CY,List.contains_nil,Nat.reduceBEq,AY,AL,BD,AX,AC,AA,A7,BF,U1,GU,AB,↓reduceIte,Nat.reduceEqDiff,Option.getD_some,Bool.not_false,enP,Bool.false_eq_true,EH,hst]
 refine F9 (v := .own c 0 ((List.range q.l.length).drop j ++ (List.range q.l.length).take j).length) (h:=H2) ha2 ?_
 have hxx:=he2 H (Nat.le_refl _) hxH
 have gq2:=IZ hxx gq
 have hx2:=hx.trans hxx
 change H2[c]? = some (ABlk.live 1 ((rot q.l.length j).map FI)) at hc2
 have hrlen:=ATE q.l.length j
 have hz:=RZ (i:=44) (off:=0) (len:=(rot q.l.length j).length) hc2 (by simp) (by rw [List.drop_zero,List.take_of_length_le (by simp)]; exact AWA _)
 rw [List.drop_zero,List.take_of_length_le (by simp)] at hz
 have hz' : ∀ F:Fr,F 44 = .own c 0 ((List.range q.l.length).drop j ++ (List.range q.l.length).take j).length→O5 (F,H2) 44=(upd F 44 (.sl .any 1 ((rot q.l.length j).map FI)),H2.set c ABlk.dead):=fun F hF=>hz F hF
 have hx3:ext h (H2.set c ABlk.dead):=hx2.set (by omega) _
 have gq3:(H2.set c ABlk.dead)[h.length]? = some (ABlk.live 3 [LJ q]):=EX gq2 (by have:=CJ gq; omega)
 have hcall:=WR G hG hT q.m q.l q.s .any (toI (rot q.l.length j)) hq.m hq.l hq.n (by rw [Z4,hrlen]; exact hqn) (H2.set c ABlk.dead)
 rw [ALZ] at hcall
 simp -implicitDefEqProofs only [CY,List.contains_nil,Nat.reduceBEq,BB,AZ,A8,AY,BC,AL,BD,AX,AC,AA,A7,CB,BF,BA,BO,BJ,CE,BX,AB,List.map_cons,List.map_nil,List.append_nil,↓reduceIte,Nat.reduceEqDiff,Nat.add_zero,Nat.zero_add,Option.getD_some,Bool.not_false,enP,OC,ND,Bool.false_eq_true,EH,YG gq2,VK gq2,PI,AL,hz']
 refine hcall.use ?_
 have hgE:gnE q.m q.l (toI (rot q.l.length j))=JC q.m q.l 1024:=by
  unfold gnE
  rw [if_pos (AD4 (fun i hi=>AFF.1 hi) (AN4 _ _))]
  split
  ·rfl
  ·rename_i hh; exact (Classical.byContradiction fun e=>hh (fun e2=>e e2.symm))
 rw [hgE]
 generalize H2.set c ABlk.dead=H3 at hx3 gq3
 simp -implicitDefEqProofs only [List.getElem?_cons_zero,List.getElem?_cons_succ,CY,List.contains_nil,Nat.reduceBEq,BB,AZ,BI,A8,AY,BC,AL,BD,AX,AC,AA,A7,AU,BH,BF,BA,BQ,ET,FX,AB,EQ,↓reduceIte,Nat.reduceEqDiff,Option.getD_some,Bool.not_false,enP,Bool.false_eq_true,EH,bne]
 by_cases hz:JC q.m q.l 1024=0
 case neg =>
  have hb:(JC q.m q.l 1024 == 0)=false:=by simpa using hz
  have he:gnL q.m q.l (toI (rot q.l.length j)) = []:=by unfold gnL; rw [if_neg (by rw [hgE]; exact hz)]
  have e0:(((0:Nat):Int) == 0)=true:=rfl
  rw [he]
  simp -implicitDefEqProofs only [CY,List.contains_nil,Nat.reduceBEq,BB,AZ,DX,AY,BK,BU,CO,GN,AL,BD,AX,AC,AA,A7,AU,CB,BH,BF,BQ,DN,CE,BX,AB,EJ,List.map_nil,List.append_nil,↓reduceIte,Nat.reduceEqDiff,Option.getD_some,Bool.not_false,enP,IL,Bool.false_eq_true,EH,hb,List.length_nil,e0]
  refine (O0 G hG hT H3).use ?_
  simp -implicitDefEqProofs only [CY,List.contains_nil,Nat.reduceBEq,BM,A8,CS,CU,AY,BC,AL,BD,AX,AC,AA,A7,AU,BL,BA,CP,DW,↓reduceIte,Nat.reduceEqDiff,Option.getD_some,Bool.not_false,Bool.false_eq_true,EH]
  exact ⟨trivial,hx3⟩
 obtain ⟨h1,h2,h3⟩:=LU.1 hz
 have hgl:gnL q.m q.l (toI (rot q.l.length j))=gains (goals q.m) (hits q.l) (rot q.l.length j):=by unfold gnL; rw [if_pos (by rw [hgE]; exact hz),ALY]
 rw [hgl,hz]
 obtain ⟨gl,hgl0⟩ : ∃ gl,gl=gains (goals q.m) (hits q.l) (rot q.l.length j):=⟨_,rfl⟩
 have hlen:gl.length=q.l.length:=by rw [hgl0,AEB,hrlen]
 have hsum:OT gl=(goals q.m).countP (cov (hits q.l) (List.range q.l.length)):=by rw [hgl0,AEA,ATF]
 rw [← hgl0]
 have hrn:=reach_eq h1 h3 (o:=List.range q.l.length) (fun i hi=>by simpa using hi)
 have hg:=KT (J4 h1)
 have hcl:(goals q.m).countP (cov (hits q.l) (List.range q.l.length))≤(goals q.m).length:=List.countP_le_length
 clear hgl hgl0
 have z0:((0:Int) == 0)=true:=rfl
 simp -implicitDefEqProofs only [CY,List.contains_nil,Nat.reduceBEq,BB,BP,AZ,BN,A8,DY,AY,BC,AL,BD,AX,AC,AU,BH,BA,↓reduceIte,Option.getD_some,Bool.not_true,Bool.not_false,Bool.false_eq_true,EH,z0]
 refine F8 0 (fun F H'=>F 2 = .ptr h.length 0 0∧F 7 = .sl (nm gl) 1 (gl.map FI)∧F 9 = .int .i64 (OT gl:Nat)∧H'=H3) (fun _ _=>False) ?_ ?_ (fun _ _ hh=>hh.elim)
 ·refine C9 (fun n F H' => ∃ i,n+i=gl.length∧F 2 = .ptr h.length 0 0∧F 7 = .sl (nm gl) 1 (gl.map FI)∧F 9 = .int .i64 (OT (gl.take i):Nat)∧F 10 = .int .i64 (i:Nat)∧H'=H3) gl.length
   ⟨0,by simp,by simp -implicitDefEqProofs only [AA,↓reduceIte,Nat.reduceEqDiff],by simp -implicitDefEqProofs only [AA,↓reduceIte,Nat.reduceEqDiff],by simp -implicitDefEqProofs only [AA,↓reduceIte,Nat.reduceEqDiff] <;> rfl,by simp -implicitDefEqProofs only [AA,↓reduceIte] <;> rfl,rfl⟩ ?_
  rintro n F H' ⟨i,hi,f2,f7,f9,f10,rfl⟩
  simp -implicitDefEqProofs only [CY,List.contains_nil,Nat.reduceBEq,BB,AZ,BI,A8,AY,BC,AL,BD,AX,AC,AA,A7,BF,BQ,DN,AB,CW,↓reduceIte,Nat.reduceEqDiff,Option.getD_some,Bool.not_false,enP,IL,Bool.false_eq_true,EH,f7,f10,List.length_map]
  refine CQ (fun hc => ?_) (fun hc => ?_)
  ·have hi':i < gl.length:=by simpa using hc
   have hst:=ADX gl i hi'
   have hle:=PU gl (i+1)
   have hle0:=PU gl i
   have hws:IntKind.i64.wrap (((OT (gl.take i):Nat):Int)+((gl[i]:Nat):Int))=((OT (gl.take (i+1)):Nat):Int):=by rw [hst,wrap_i64 (by omega) (by omega)]; omega
   simp -implicitDefEqProofs only [CY,List.contains_nil,Nat.reduceBEq,BB,BP,AZ,BN,A8,D8,ED,AY,BC,AL,BD,AX,AC,AA,A7,AU,BH,BF,BA,BO,BQ,BZ,AB,CZ,↓reduceIte,Nat.reduceEqDiff,Option.getD_some,Bool.not_false,enP,JQ,Bool.false_eq_true,EH,f7,f9,f10,AON hi',ldN hi',hws,wrap_succ (show i < 9223372036854775807 by omega)]
   exact ⟨n - 1,by omega,i+1,by omega,by first | exact f2 | trivial,by first | exact f7 | trivial,by first | trivial | rfl,by first | trivial | rfl,trivial⟩
  ·have hi' : ¬ i < gl.length:=by simpa using hc
   rw [List.take_of_length_le (by omega)] at f9
   simp -implicitDefEqProofs only [DC,DZ,JM,EP,AA,↓reduceIte,Nat.reduceEqDiff]
   exact ⟨f2,f7,f9,trivial⟩
 ·rintro F H' ⟨f2,f7,f9,rfl⟩
  have ha:=PG G hG hT q hq (List.range q.l.length) (nm (List.range q.l.length)) (fun i hi=>by simpa using hi) (by simp; omega) H'
  rw [hrn,← hsum] at ha
  have es:(((OT gl:Nat):Int) == ((OT gl:Nat):Int))=true:=by simp
  have el:(((gl.length:Nat):Int) == ((q.l.length:Nat):Int))=true:=by rw [hlen]; simp
  simp -implicitDefEqProofs only [BB,A8,EN,↓reduceIte]
  refine ER (by kernel_rfl) ?_
  simp -implicitDefEqProofs only [F7,CY,List.contains_nil,D9,DT,EC,FQ,GR,SL,FH,FC,IE,D5,GV,GM,F6,CO,AA,A7,CB,BO,BQ,BJ,DN,AB,EJ,List.map_cons,List.map_nil,List.append_nil,↓reduceIte,Nat.reduceEqDiff,Nat.reduceAdd,Nat.zero_add,Option.getD_some,enP,TU,IL,ND,f2,f7,f9,List.length_map,VK gq3,el,ldQ gq3]
  refine ⟨_,XZ G q hqn H',?_⟩
  try simp -implicitDefEqProofs only []
  refine ⟨_,ha,?_⟩
  try simp -implicitDefEqProofs only [F7,CY,List.contains_nil,D9,DT,E8,EC,FQ,GR,SL,FH,IQ,I4,GM,F6,BM,A8,CU,CO,AA,A7,AU,CB,BL,CP,DW,AB,EJ,List.map_nil,List.append_nil,↓reduceIte,Nat.reduceEqDiff,Nat.reduceAdd,Option.getD_some,es]
  refine ⟨_,O0 G hG hT H',?_⟩
  try simp -implicitDefEqProofs only []
  exact ⟨trivial,hx3⟩
end Go.Proofs.YtocilianjfhifaaGreatDoor.Rk
/- Readers of a model with coverages, of a small number; no condition. -/
namespace Go.Proofs.YtocilianjfhifaaGreatDoor.Rk
open Go Go.Proofs Go.Proofs.YtocilianjfhifaaGreatDoor.Sm Go.Proofs.YtocilianjfhifaaGreatDoor.Bins Go.Proofs.YtocilianjfhifaaGreatDoor.Cov Go.RowKit

theorem A0W:Tryz.prog.cellsOf 37=1:=by kernel_rfl
theorem A1C:Tryz.prog.cellsOf 75=3:=by kernel_rfl
def okQ (q:Qs) (b:Nat):Prop := ∃ b1 b2,b1+b2≤b∧okM q.m b1∧okL okV q.l b2
theorem rdQ:Rd Tryz.prog 75 LJ okQ:=by
 intro n
 match n with
 | 0=>exact RdAt.zero
 | 1=>exact AA6 Tryz.underlying75
 | n+2 =>
   have rdVs:RdAt Tryz.prog (n+1) 37 (fun x:SM × List Cvr => [.sl x.1 4 (x.2.map EF)]) (fun x b => ∃ b',b'+1≤b∧okL okV x.2 b'):=NG Tryz.underlying37 A0X (by decide) MC (rdV n)
   refine RdAt.map (fun x:Mo × (SM × List Cvr) × Unit=>(⟨x.1,x.2.1.1,x.2.1.2⟩:Qs))
    (NT Tryz.underlying75 (IK rfl A0Y AIW (rdM _) (IK rfl A0W (fun _=>rfl) rdVs QX))) (fun x=>rfl) ?_
   rintro ⟨a,b,_⟩ N ⟨_,hN,b1,b2,hb,h1,b3,b4,hb2,h2,_⟩
   exact ⟨b1,b3,by omega,h1,RD h2⟩
theorem A0H {q:Qs} {b:Nat} (h:okQ q b) (hb:b≤1048576):QOk q:=by
 obtain ⟨b1,b2,h0,h1,h2⟩:=h
 refine ⟨ATY h1 (by omega),fun v hv => ?_,Nat.le_trans (okL.length h2) (by omega)⟩
 obtain ⟨b3,h3,h4⟩:=okL.each h2 v hv
 exact AUU h4 (by omega)
def A0J (z:Int) (_:Nat):Prop:=0≤z∧z≤255
theorem A1B:Rd Tryz.prog 5 (fun z:Int => [.int .u8 z]) A0J:=by
 intro n H ench w cs d ps h
 obtain ⟨z,rfl,hx,hz⟩:=DataW.trod_int Tryz.underlying5 h
 refine ⟨z,?_,RowP.one rfl (.int _ _)⟩
 simp only [Lit.wf,Bool.and_eq_true,decide_eq_true_eq] at hz
 exact hz
end Go.Proofs.YtocilianjfhifaaGreatDoor.Rk
