/- Part 11 of the proof (H1, H2, H3, X1); no condition. -/
import Derived.Test.YtocilianjfhifaaGreatDoorYA10
set_option linter.unusedVariables false
set_option linter.unusedSimpArgs false
set_option maxRecDepth 8000
namespace Go.Proofs.YtocilianjfhifaaGreatDoor.Bins
open Sm
instance:Inhabited Rs:=⟨⟨.nil,[]⟩⟩
set_option maxHeartbeats 400000 in
theorem WR (G:Nat→AV) (xs:List Rng) (m:SM) (v:Int) (h:Hp) (hl:xs.length≤1099511627776) :
  PCall (En G) 164 [.sl m 2 (xs.map encR),.int .i64 v] h (.bool (inside xs v)):=by
 refine CB (H:=Hint.none) (enM G) Tryz.func164 rfl (by kernel_rfl) (by kernel_rfl) (nLb (by kernel_rfl)) ?_
 show awp _ _ _ _ _ (EE _ [.tmp 4] _)
 simp -implicitDefEqProofs only [BC,BQ,BA,A8,AY,BB,AO,AQ,AL,BD,AX,AC,AU,BH,BM,AZ,oGs,bNf,enP]
 refine DR (fun n F H => ∃ k,n+k=xs.length∧F 0 = .sl m 2 (xs.map encR)∧F 1 = .int .i64 v∧F 5 = .int .i64 (k:Nat)∧H=h∧inside xs v=inside (xs.drop k) v) xs.length ⟨0,by simp,rfl,rfl,rfl,rfl,rfl⟩ ?_
 rintro n F H ⟨k,hk,f0,f1,f5,rfl,hin⟩
 simp -implicitDefEqProofs only [BC,BA,BI,A8,AY,BB,AO,AQ,AL,BD,AX,AC,AA,A7,BG,BR,D6,AB,DF,↓reduceIte,Nat.reduceEqDiff,oGs,bNf,enP,QJ,f0,f1,f5,lLm]
 refine CW (fun hc => ?_) (fun hc => ?_)
 ·have hc':k < xs.length:=by simpa using hc
  have hs:inside (xs.drop k) v=(decide (xs[k].lo≤v) && decide (v≤xs[k].hi) || inside (xs.drop (k+1)) v):=KF _ xs k hc'
  simp -implicitDefEqProofs only [BC,BQ,BA,BO,A8,AY,BJ,BP,CO,AO,AQ,AL,BD,AX,AC,AA,A7,BG,BV,BR,BK,CG,AB,IE,↓reduceIte,Nat.reduceEqDiff,Nat.add_zero,oGs,bNf,enP,AB5,VH,f0,f1,f5,D5 hc',DT ag3 hc',V4,V3]
  refine G5 (fun ha => ?_) (fun ha => ?_)
  ·simp -implicitDefEqProofs only [BI,A8,AY,BB,BJ,BP,CO,FY,AO,AQ,AL,BD,AX,AC,AA,A7,AU,BM,BG,CQ,DN,BV,BR,BK,CG,AB,IE,↓reduceIte,Nat.reduceEqDiff,Nat.zero_add,oGs,bNf,enP,AB5,VG,f0,f1,f5,D5 hc',DT ag3 hc',V4,V3,ha]
   refine CW (fun hb => ?_) (fun hb => ?_)
   ·simp -implicitDefEqProofs only [BC,BA,BL,A8,CP,D8,FB,CJ,AY,BB,AO,AQ,AL,BD,AX,AC,AA,AU,BM,AZ,↓reduceIte,oGs,bNf]
    exact ⟨by rw [hin,hs,ha,hb]; rfl,trivial⟩
   ·simp -implicitDefEqProofs only [BA,BO,A8,EF,ER,AY,BB,AO,AQ,AL,BD,AX,AC,AA,A7,AU,BH,BG,AZ,BR,AB,DI,↓reduceIte,Nat.reduceEqDiff,oGs,bNf,enP,f5,wrap_succ (show k < 9223372036854775807 by omega)]
    exact ⟨n - 1,by omega,k+1,by omega,f0,f1,rfl,trivial,by rw [hin,hs,ha,hb]; rfl⟩
  ·simp -implicitDefEqProofs only [BA,BO,BI,A8,EF,ER,DU,AY,BB,BJ,BP,CO,H7,AO,AQ,AL,BD,AX,AC,AA,EQ,A7,AU,BH,BM,BG,AZ,CQ,DK,BR,AB,DI,↓reduceIte,Nat.reduceEqDiff,oGs,bNf,enP,ha,f5,wrap_succ (show k < 9223372036854775807 by omega)]
   exact ⟨n - 1,by omega,k+1,by omega,f0,f1,rfl,trivial,by rw [hin,hs,ha]; rfl⟩
 ·have hc' : ¬ k < xs.length:=by simpa using hc
  simp -implicitDefEqProofs only [BC,BA,BL,DL,A8,EC,EY,EW,CJ,AY,BB,AO,AQ,AL,BD,AX,AC,AA,AU,BM,AZ,↓reduceIte,oGs,bNf]
  exact ⟨by rw [hin,List.drop_eq_nil_of_le (by omega)]; rfl,trivial⟩
theorem ANO (G:Nat→AV) (r:Rng) (b:Nat) (v:Int) (h:Hp) (hv:DZ Tryz.prog h 3 (.ptr b 0 0)=some (.int .i64 v)) :
  PCall (En G) 275 [.agg (encR r),.ptr b 0 0] h (.bool (decide (r.lo≤v) && decide (v≤r.hi))):=by
 refine ACalls.pure0 rfl ?_
 refine CB (H:=Hint.none) (enM G) Tryz.func275 rfl (by kernel_rfl) (by kernel_rfl) (nLb (by kernel_rfl)) ?_
 show awp _ _ _ _ _ (EE _ [.tmp 3] _)
 simp -implicitDefEqProofs only [BC,BA,A8,AY,BB,BJ,BP,CO,AO,AQ,AL,BD,AX,AC,AA,A7,AU,BM,BG,AZ,FV,BV,BR,BK,CE,AB,IE,BF,BN,↓reduceIte,Nat.reduceEqDiff,Nat.add_zero,oGs,bNf,enP,VH,bxR,DC ag3,AH5 hv,V4,V3]
 refine G5 (fun ha => ?_) (fun ha => ?_)
 ·simp -implicitDefEqProofs only [BL,A8,CJ,AY,BB,BJ,BP,CO,FY,AO,AQ,AL,BD,AX,AC,AA,A7,AU,BM,AZ,CQ,DN,BV,BR,BK,AB,IE,BF,BN,↓reduceIte,Nat.reduceEqDiff,Nat.zero_add,oGs,bNf,enP,VG,bxR,DC ag3,AH5 hv,V4,V3,ha]
  exact ⟨by simp,_,rfl⟩
 ·simp -implicitDefEqProofs only [BL,A8,CJ,AY,BB,BJ,BP,CO,H7,AO,AQ,AL,BD,AX,AC,AA,EQ,A7,AU,BM,AZ,CQ,DK,↓reduceIte,Nat.reduceEqDiff,oGs,bNf,ha]
  exact ⟨by simp,_,rfl⟩
theorem indexFunc (G:Nat→AV) (xs:List Rng) (m:SM) (fid:FuncId) (caps:List AV) (p:Rng→Bool) (h:Hp) (hl:xs.length≤1099511627776)
  (hf : ∀ r,PCall (En G) fid (.agg (encR r) :: caps) h (.bool (p r))) :
  PCall (En G) 300 [.sl m 2 (xs.map encR),.fn (.func fid) [] caps] h (.int .i64 (match xs.findIdx? p with | some i=>(i:Int) | none => -1)):=by
 refine CB (H:=Hint.none) (enM G) Tryz.func300 rfl (by kernel_rfl) (by kernel_rfl) (nLb (by kernel_rfl)) ?_
 show awp _ _ _ _ _ (EE _ [.tmp 4] _)
 simp -implicitDefEqProofs only [BC,BQ,BA,A8,AY,BB,AO,AQ,AL,BD,AX,AC,AA,A7,AU,BH,BG,AZ,D6,AB,BF,↓reduceIte,Nat.reduceEqDiff,oGs,bNf,enP,QJ,lLm]
 refine DR (fun n F H => ∃ k,n+k=xs.length∧F 0 = .sl m 2 (xs.map encR)∧F 1 = .fn (.func fid) [] caps∧F 7 = .int .i64 xs.length∧F 8 = .int .i64 (k:Nat)∧H=h∧(xs.take k).all (fun r => !p r)=true) xs.length ⟨0,by simp,rfl,rfl,rfl,rfl,rfl,rfl⟩ ?_
 rintro n F H ⟨k,hk,f0,f1,f7,f8,rfl,hin⟩
 simp -implicitDefEqProofs only [BC,BA,BI,A8,AY,BB,AO,AQ,AL,BD,AX,AC,AA,A7,BR,AB,DF,↓reduceIte,oGs,bNf,enP,f0,f1,f7,f8,lLm]
 refine CW (fun hc => ?_) (fun hc => ?_)
 ·have hc':k < xs.length:=by simpa using hc
  simp -implicitDefEqProofs only [BC,BQ,BA,BO,A8,AY,BB,AO,AQ,AL,BD,AX,AC,AA,A7,BG,AZ,BV,CG,BZ,BU,AB,lMc,lMn,List.nil_append,List.cons_append,↓reduceIte,Nat.reduceEqDiff,oGs,bNf,enP,AB5,f0,f1,f7,f8,D5 hc',FO AVH ALK ACP hc']
  refine (hf _).use ?_
  simp -implicitDefEqProofs only [BI,A8,BB,AC,AA,A7,↓reduceIte]
  refine CW (fun hb => ?_) (fun hb => ?_)
  ·simp -implicitDefEqProofs only [BC,BA,BL,A8,CP,D8,FB,CJ,AY,BB,AO,AQ,AL,BD,AX,AC,AA,A7,BG,AZ,↓reduceIte,Nat.reduceEqDiff,oGs,bNf]
   refine ⟨?_,trivial⟩
   rw [List.findIdx?_eq_some_iff_getElem.2 ⟨hc',hb,fun j hj=>by
    rw [List.all_eq_true] at hin
    have:=hin xs[j] (by rw [List.mem_take_iff_getElem]; exact ⟨j,by omega,rfl⟩)
    simpa using this⟩]
  ·simp -implicitDefEqProofs only [BA,BO,A8,EF,ER,AY,BB,AO,AQ,AL,BD,AX,AC,AA,A7,AU,BH,BG,BR,AB,DI,↓reduceIte,Nat.reduceEqDiff,oGs,bNf,enP,f8,wrap_succ (show k < 9223372036854775807 by omega)]
   refine ⟨n - 1,by omega,k+1,by omega,f0,f1,f7,rfl,trivial,?_⟩
   rw [List.take_succ_eq_append_getElem hc',List.all_append,hin]
   simp only [List.all_cons,List.all_nil,hb]; rfl
 ·have hc' : ¬ k < xs.length:=by simpa using hc
  simp -implicitDefEqProofs only [BC,BA,BL,DL,A8,EC,EY,EW,CJ,AY,BB,AO,AQ,AL,BD,AX,AC,AA,AU,BH,AZ,↓reduceIte,oGs,bNf]
  refine ⟨?_,trivial⟩
  rw [List.take_of_length_le (by omega)] at hin
  rw [List.findIdx?_eq_none_iff.2 (by simpa using hin)]
theorem AGI (G:Nat→AV) (xs:List Rng) (m:SM) (fid:FuncId) (caps:List AV) (p:Rng→Bool) (h:Hp) (hl:xs.length≤1099511627776)
  (hf : ∀ r,PCall (En G) fid (.agg (encR r) :: caps) h (.bool (p r))) :
  PCall (En G) 274 [.sl m 2 (xs.map encR),.fn (.func fid) [] caps] h (.bool (xs.any p)):=by
 refine CB (H:=Hint.none) (enM G) Tryz.func274 rfl (by kernel_rfl) (by kernel_rfl) (nLb (by kernel_rfl)) ?_
 show awp _ _ _ _ _ (EE _ [.tmp 4] _)
 simp -implicitDefEqProofs only [BC,BA,A8,AY,BB,AO,AQ,AL,BD,AX,AC,AA,A7,AU,BX,BM,BG,AZ,BZ,BU,BF,BN,lMc,lMn,lAn,↓reduceIte,Nat.reduceEqDiff,oGs,bNf,enP]
 refine (indexFunc G xs m fid caps p h hl hf).use ?_
 simp -implicitDefEqProofs only [BL,A8,CJ,AY,BB,AO,AQ,AL,BD,AX,AC,AA,A7,AU,BH,AZ,BR,AB,GZ,↓reduceIte,oGs,bNf,enP]
 refine ⟨?_,trivial⟩
 cases hx:xs.findIdx? p with
 | some i =>
   obtain ⟨h1,h2,_⟩:=List.findIdx?_eq_some_iff_getElem.1 hx
   have:xs.any p=true:=List.any_eq_true.2 ⟨xs[i],by simp,h2⟩
   simp [this]
 | none =>
   have:xs.any p=false:=by
    rw [List.findIdx?_eq_none_iff] at hx
    rw [List.any_eq_false]; intro x hx2; simp [hx x hx2]
   simp [this]
theorem inside_prog (G:Nat→AV) (xs:List Rng) (m:SM) (v:Int) (h:Hp) (hl:xs.length≤1099511627776) :
  PCall (En G) 242 [.sl m 2 (xs.map encR),.int .i64 v] h (.bool (inside xs v)):=by
 refine ACalls.pure0 rfl ?_
 refine CB (H:=Hint.none) (enM G) Tryz.func242 rfl (by kernel_rfl) (by kernel_rfl) (nLb (by kernel_rfl)) ?_
 show awp _ _ _ _ _ (EE _ [.tmp 4] _)
 simp -implicitDefEqProofs only [AT9,BC,BA,A8,AY,BB,AO,AQ,AL,BD,AX,AC,AA,A7,AU,BX,BM,BG,AZ,FV,I7,BZ,BU,CE,BF,BN,lMc,lMn,lAn,↓reduceIte,Nat.reduceEqDiff,oGs,bNf,enP]
 refine (AGI G xs m 275 _ _ _ hl fun r=>ANO G r h.length v _ (DC ag3)).use ?_
 simp -implicitDefEqProofs only [BL,A8,CJ,AY,BB,AO,AQ,AL,BD,AX,AC,AA,A7,AZ,↓reduceIte,oGs,bNf]
 exact ⟨rfl,_,rfl⟩
theorem AGJ (G:Nat→AV) (xs:List Int) (m:SM) (h:Hp) (hl:xs.length≤16777216) :
  ACalls (En G) 100 [.sl m 1 (xs.map encI)] h (AKR 1 (xs.map encI) h):=by
 refine ACalls.of_rep (cok _ _ (by kernel_rfl)) fun ⟨g,cargs,ha⟩ => ?_
 refine CB (H:=Hint.none) (enM G) Tryz.func100 rfl (by kernel_rfl) (by kernel_rfl) (nLb (by kernel_rfl)) ?_
 show awp _ _ _ _ _ (EE _ [.tmp 2] _)
 simp -implicitDefEqProofs only [BC,BA,BI,A8,AY,BB,AO,AQ,AL,BD,AX,AC,AA,A7,AU,JD,BG,AZ,BR,AB,BF,↓reduceIte,Nat.reduceEqDiff,oGs,bNf,enP,AX5]
 refine CW (fun hc => ?_) (fun hc => ?_)
 ·have hm:m = .nil:=by simpa using hc
  subst hm
  simp -implicitDefEqProofs only [BC,BA,BL,A8,CP,CJ,AY,BB,AO,AQ,AL,BD,AX,AC,AA,AU,JD,AZ,↓reduceIte,oGs,bNf,decide_true]
  exact .inl ⟨AJ1 ha (i:=0) rfl,⟨_,rfl⟩,rfl⟩
 ·simp -implicitDefEqProofs only [FT,BC,BA,BO,A8,AY,AO,AQ,AL,BD,AX,AC,AA,A7,BG,ES,IJ,CE,BF,↓reduceIte,Nat.reduceEqDiff,oGs,bNf,enP,AQ8]
  rcases Classical.em (xs = []) with hx | hx
  ·subst hx
   simp -implicitDefEqProofs only [BL,A8,CJ,AY,BB,AO,AQ,AL,BD,AX,AC,AA,A7,AZ,CE,lMn,↓reduceIte,oGs,bNf,ARQ TY sz3 (.inr rfl)]
   exact .inr (.inl ⟨rfl,rfl,rfl⟩)
  ·have hr:room (([]:List (List AV)).length+(xs.map encI).length) 8:=JO (by simpa using hl) (by omega)
   have hne:xs.map encI≠[]:=by simpa using hx
   simp -implicitDefEqProofs only [BL,A8,CJ,AY,BB,AO,AQ,AL,BD,AX,AC,AA,A7,AZ,CE,List.nil_append,↓reduceIte,oGs,bNf,UY TY sz3 XE WX (KA h m 1 (xs.map encI)) hne hr]
   exact .inr (.inr ⟨by simpa using hx,by simp,by simp⟩)
def setAt (b:Bin) (i:Nat):List Rng:=((sets b)[i]?.getD default).l
def TW (last:List Int) (n:Nat) (v:Int) (i:Nat):Int:=if i+1 < n then last[last.length+1 - n+i]?.getD 0 else v
def AFY (b:Bin) (last:List Int) (v:Int) (k:Nat):Bool:=(List.range k).all fun i=>inside (setAt b i) (TW last (sets b).length v i)
def hit (b:Bin) (last:List Int) (v:Int):Bool:=decide (G7 b=0) && decide ((sets b).length≤last.length+1) && AFY b last v (sets b).length
theorem ZC (b:Bin) (last:List Int) (v:Int) (k:Nat):AFY b last v (k+1)=(AFY b last v k && inside (setAt b k) (TW last (sets b).length v k)):=by
 unfold AFY; rw [List.range_succ,List.all_append,List.all_cons,List.all_nil,Bool.and_true]
theorem AFX {b:Bin} {last:List Int} {v:Int} {k n:Nat} (hk:k < n) (h:inside (setAt b k) (TW last (sets b).length v k)=false):AFY b last v n=false:=by
 unfold AFY; rw [List.all_eq_false]; exact ⟨k,by simpa using hk,by simp [h]⟩
theorem ABF {b:Bin} (h:G7 b=0):1≤(sets b).length:=by
 unfold G7 at h
 split at h
 ·split at h
  ·cases h
  ·rename_i hr
   unfold sets
   split
   ·simp
   ·rename_i hz
    simp only [JJ,Bool.not_eq_true,Bool.or_eq_false_iff] at hr
    have:=hr.1.1.1.2
    have hz':decide ((b.ranges.l.length:Int) > 0)=false:=decide_eq_false (by omega)
    rw [hz'] at this
    simp at this
    rcases hs:b.steps with _ | ⟨x,l⟩
    ·rw [hs] at this; simp at this
    ·simp
 ·cases h
theorem AP7 {xs:List Int} {i:Nat} (h:i < xs.length):(xs.map encI)[i]? = some [.int .i64 xs[i]]:=by simp [h,encI]
theorem AKT (h:Hp) (v:Int):FH Tryz.prog false h 57 1 [(0,.int .i64 v)]=some (.sl .full 1 [[.int .i64 v]],h):=by kernel_rfl
def vals (last:List Int) (n:Nat) (v:Int):List Int:=last.drop (last.length+1 - n) ++ [v]
theorem AG5 {last:List Int} {n:Nat} {v:Int} (h1:1≤n) (h2:n≤last.length+1):(vals last n v).length=n:=by simp [vals]; omega
theorem AOW {last:List Int} {n:Nat} {v:Int} {i:Nat} (h1:1≤n) (h2:n≤last.length+1) (hi:i < (vals last n v).length):(vals last n v)[i]=TW last n v i:=by
 have hl:=AG5 (v:=v) h1 h2
 unfold vals TW at *
 rw [List.getElem_append]
 split
 ·rename_i h
  have h':i < last.length - (last.length+1 - n):=by simpa using h
  rw [if_pos (by omega),List.getElem_drop,List.getElem?_eq_getElem (by omega)]
  rfl
 ·rename_i h
  have h' : ¬ i < last.length - (last.length+1 - n):=by simpa using h
  rw [if_neg (by omega)]
  simp
theorem AQB (G:Nat→AV) (hG:KwG G) (b:Bin) (hb:BinOk b) (last:List Int) (m:SM) (v:Int) (h:Hp) (hl:last.length≤8388608) :
  PCall (En G) 241 [.agg (GM b),.sl m 1 (last.map encI),.int .i64 v] h (.bool (hit b last v)):=by
 refine ACalls.pure0 rfl ?_
 refine CB (H:=Hint.none) (enM G) Tryz.func241 rfl (by kernel_rfl) (by kernel_rfl) (nLb (by kernel_rfl)) ?_
 show awp _ _ _ _ _ (EE _ [.tmp 6] _)
 simp -implicitDefEqProofs only [BC,BA,A8,AY,BB,AO,AQ,AL,BD,AX,AC,AA,A7,AU,BX,BM,AZ,FV,BV,BZ,BU,CE,AB,BF,lMc,lMn,lAn,↓reduceIte,Nat.reduceEqDiff,oGs,bNf,enP,bxB,ldB]
 refine (ABG G hG b hb _).use ?_
 simp -implicitDefEqProofs only [BI,A8,AY,BB,AO,AQ,AL,BD,AX,AC,AA,A7,AU,BH,BR,AB,EJ,↓reduceIte,oGs,bNf,enP]
 refine CW (fun hv => ?_) (fun hv => ?_)
 ·simp -implicitDefEqProofs only [BC,BA,BL,A8,CP,CJ,AY,BB,AO,AQ,AL,BD,AX,AC,AA,AU,BM,AZ,↓reduceIte,oGs,bNf]
  refine ⟨?_,_,rfl⟩
  have:G7 b≠0:=by simpa using hv
  simp [hit,this]
 have hv0:G7 b=0:=by simpa using hv
 have h1:=ABF hv0
 have hnum:=hb.num
 simp -implicitDefEqProofs only [BC,BA,BO,A8,AY,AO,AQ,AL,BD,AX,AC,AA,A7,BX,BV,BZ,BU,AB,lMc,lMn,lAn,↓reduceIte,Nat.reduceEqDiff,oGs,bNf,enP,ldB]
 refine (AD8 G b _).use ?_
 have hw:IntKind.i64.wrap (((sets b).length:Int) - 1)=(((sets b).length - 1:Nat):Int):=by rw [wrap_i64 (by omega) (by omega)]; omega
 simp -implicitDefEqProofs only [BC,BA,BI,A8,AY,BB,AO,AQ,AL,BD,AX,AC,AA,A7,AU,BH,BG,AZ,BR,D6,AB,JQ,DF,BF,BN,↓reduceIte,Nat.reduceEqDiff,oGs,bNf,enP,JB,PT,lLm,hw]
 refine CW (fun hc => ?_) (fun hc => ?_)
 ·simp -implicitDefEqProofs only [BC,BA,BL,A8,CP,CJ,AY,BB,AO,AQ,AL,BD,AX,AC,AA,AU,BM,AZ,↓reduceIte,oGs,bNf]
  refine ⟨?_,_,rfl⟩
  have : ¬ (sets b).length≤last.length+1:=by simp at hc; omega
  simp [hit,this]
 have hc':(sets b).length≤last.length+1:=by simp at hc; omega
 have hw2:IntKind.i64.wrap ((last.length:Int) - (((sets b).length - 1:Nat):Int))=((last.length+1 - (sets b).length:Nat):Int):=by rw [wrap_i64 (by omega) (by omega)]; omega
 simp -implicitDefEqProofs only [Option.map_some,Option.map_none,BC,BA,BO,A8,AY,AO,AQ,AL,BD,AX,AC,AA,A7,AU,BX,BH,BG,BR,XF,D6,BZ,BU,AB,JQ,BF,BN,lMc,lMn,lAn,↓reduceIte,Nat.reduceEqDiff,oGs,bNf,enP,JB,PT,lLm,hw,hw2,ASO TY sz3 (h:=h ++ [.live 4 [GM b]]) (m:=m) (kk := .i64) (xs:=last.map encI) (l:=last.length+1 - (sets b).length) (by simp; omega),← List.map_drop]
 refine (AGJ G _ m _ (by simp; omega)).mono fun vv H' hcl => ?_
 have hn:=AG5 (v:=v) h1 hc'
 refine AMX (fun F H=>F 7 = .sl (QU b) 1 ((sets b).map encS)∧∃ o,F 8 = .own o 0 (sets b).length∧H[o]? = some (.live 1 ((vals last (sets b).length v).map encI))∧∃ x,H=h ++ x) ?_ ?_
 ·have hv1:([[AV.int .i64 v]]:List (List AV))≠[]:=by simp
  rcases hcl with ⟨hx,⟨k0,rfl⟩,rfl⟩ | ⟨hx,rfl,rfl⟩ | ⟨hx,rfl,rfl⟩
  ·have hx':last.drop (last.length+1 - (sets b).length) = []:=by simpa using hx
   have e1:vals last (sets b).length v = [v]:=by unfold vals; rw [hx']; rfl
   rw [e1] at hn
   simp at hn
   simp -implicitDefEqProofs only [FT,F6,AY,BB,AO,AQ,AL,BD,AX,AC,AA,A7,BG,AZ,ES,IJ,CE,BF,BN,↓reduceIte,Nat.reduceEqDiff,oGs,bNf,enP,AKT,TI TY sz3 XE WX (KA (h ++ [ABlk.live 4 [GM b]]) .full 1 [[AV.int .i64 v]]) hv1 (JO (by simp) (by omega))]
   exact ⟨trivial,_,by rw [← hn]; rfl,by rw [e1]; simp [encI],_,by rw [List.append_assoc]⟩
  ·have hx':last.drop (last.length+1 - (sets b).length) = []:=by simpa using hx
   have e1:vals last (sets b).length v = [v]:=by unfold vals; rw [hx']; rfl
   rw [e1] at hn
   simp at hn
   simp -implicitDefEqProofs only [FT,F6,AY,BB,AO,AQ,AL,BD,AX,AC,AA,A7,BG,AZ,ES,IJ,CE,BF,BN,List.nil_append,↓reduceIte,Nat.reduceEqDiff,oGs,bNf,enP,AKT,UY TY sz3 XE WX (KA (h ++ [ABlk.live 4 [GM b]]) .full 1 [[AV.int .i64 v]]) (xs := []) hv1 (JO (by simp) (by omega))]
   exact ⟨trivial,_,by rw [← hn]; rfl,by rw [e1]; simp [encI],_,by rw [List.append_assoc]⟩
  ·have hle:(last.drop (last.length+1 - (sets b).length)).length+1≤16777216:=by simp; omega
   simp -implicitDefEqProofs only [FT,F6,AY,BB,AO,AQ,AL,BD,AX,AC,AA,A7,BG,AZ,ES,IJ,CE,BF,BN,↓reduceIte,Nat.reduceEqDiff,oGs,bNf,enP,AKT,VL TY sz3 XE WX (AE2 (h:=h ++ [ABlk.live 4 [GM b]])) (KA ((h ++ [ABlk.live 4 [GM b]]) ++ [.live 1 ((last.drop (last.length+1 - (sets b).length)).map encI)]) .full 1 [[AV.int .i64 v]]) hv1 (JO (by simpa using hle) (by omega))]
   refine ⟨trivial,((h ++ [ABlk.live 4 [GM b]]) ++ [ABlk.live 1 ((last.drop (last.length+1 - (sets b).length)).map encI)]).length,?_,?_,?_⟩
   ·congr 1
    rw [← hn]; simp [vals]; omega
   ·simp [vals,encI]
   ·refine ⟨[.live 4 [GM b],.dead,.live 1 ((last.drop (last.length+1 - (sets b).length)).map encI ++ [[AV.int .i64 v]])],?_⟩
    rw [List.append_assoc,List.set_append_right _ _ (by simp)]
    simp
 rintro F H ⟨f7,o,f8,ho,hx⟩
 simp -implicitDefEqProofs only [BC,BQ,BA,A8,AY,BB,AO,AQ,AL,BD,AX,AC,AA,A7,AU,BH,BG,D6,AB,↓reduceIte,oGs,bNf,enP,JB,f8]
 refine DR (fun n F H' => ∃ k,n+k=(sets b).length∧F 7 = .sl (QU b) 1 ((sets b).map encS)∧F 34 = .own o 0 (sets b).length∧F 35 = .int .i64 (sets b).length∧F 36 = .int .i64 (k:Nat)∧H'=H∧AFY b last v k=true) (sets b).length ⟨0,by simp,by simp -implicitDefEqProofs only [AA,↓reduceIte,Nat.reduceEqDiff,f7],by simp -implicitDefEqProofs only [AA,↓reduceIte,Nat.reduceEqDiff],by simp -implicitDefEqProofs only [AA,↓reduceIte,Nat.reduceEqDiff],by simp -implicitDefEqProofs only [AA,↓reduceIte]; rfl,rfl,rfl⟩ ?_
 rintro n F H' ⟨k,hk,f7,f34,f35,f36,rfl,hin⟩
 simp -implicitDefEqProofs only [BC,BA,BI,A8,AY,BB,AO,AQ,AL,BD,AX,AC,AA,A7,BR,AB,DF,↓reduceIte,oGs,bNf,enP,f35,f36]
 refine CW (fun hd => ?_) (fun hd => ?_)
 ·have hd':k < (sets b).length:=by simpa using hd
  have hdv:k < (vals last (sets b).length v).length:=by omega
  have e1:((vals last (sets b).length v).map encI)[k]? = some [.int .i64 (TW last (sets b).length v k)]:=by rw [AP7 hdv,AOW h1 hc' hdv]
  have e2:setAt b k=(sets b)[k].l:=by unfold setAt; simp [hd']
  simp -implicitDefEqProofs only [List.getElem?_cons_zero,BC,BQ,BA,BO,A8,AY,BB,AO,AQ,AL,BD,AX,AC,AA,A7,BX,BG,AZ,BV,CG,BZ,BU,AB,lMc,lMn,lAn,↓reduceIte,Nat.reduceEqDiff,Nat.zero_add,oGs,bNf,enP,JH,AAB,f7,f34,f36,LM ho hd',DJ ag3 ho e1,D5 hd',DT OI hd',AAG]
  refine (inside_prog G _ _ _ _ (hb.sets _ (List.getElem_mem hd'))).use ?_
  simp -implicitDefEqProofs only [BI,A8,AY,BB,AO,AQ,AL,BD,AX,AC,AA,A7,G6,AB,EX,↓reduceIte,oGs,bNf]
  refine CW (fun hi => ?_) (fun hi => ?_)
  ·simp -implicitDefEqProofs only [BC,BA,BL,A8,CP,D8,FB,CJ,AY,BB,AO,AQ,AL,BD,AX,AC,AA,AU,BM,AZ,↓reduceIte,oGs,bNf]
   refine ⟨?_,hx⟩
   have hi':inside (sets b)[k].l (TW last (sets b).length v k)=false:=by simpa using hi
   unfold hit
   rw [AFX hd' (by rw [e2]; exact hi')]; simp
  ·simp -implicitDefEqProofs only [BA,BO,A8,EF,ER,AY,BB,AO,AQ,AL,BD,AX,AC,AA,A7,AU,BH,BG,BR,AB,DI,↓reduceIte,Nat.reduceEqDiff,oGs,bNf,enP,f36,wrap_succ (show k < 9223372036854775807 by omega)]
   refine ⟨n - 1,by omega,k+1,by omega,f7,f34,f35,rfl,trivial,?_⟩
   rw [ZC,hin,e2]; simpa using hi
 ·have hd' : ¬ k < (sets b).length:=by simpa using hd
  simp -implicitDefEqProofs only [BC,BA,BL,DL,A8,EC,EY,EW,CJ,AY,BB,AO,AQ,AL,BD,AX,AC,AA,AU,BM,AZ,↓reduceIte,oGs,bNf]
  refine ⟨?_,hx⟩
  have:k=(sets b).length:=by omega
  subst this
  unfold hit; rw [hin,hv0]; simp [hc']
theorem ATM (G:Nat→AV) (b:Bin) (hb:BinOk b) (last:List Int) (m:SM) (v:Int) (h:Hp) (hl:last.length≤8388608) :
  PCall (En G) 106 [.agg (GM b),.sl m 1 (last.map encI),.int .i64 v] h (.bool (hit b last v)):=by
 refine ACalls.pure0 rfl ?_
 refine CB (H:=Hint.none) (enM G) Tryz.func106 rfl (by kernel_rfl) (by kernel_rfl) (nLb (by kernel_rfl)) ?_
 show awp _ _ _ _ _ (EE _ [.tmp 6] _)
 simp -implicitDefEqProofs only [BC,BA,A8,AY,BB,AO,AQ,AL,BD,AX,AC,AA,A7,AU,BX,BM,AZ,FV,BV,BZ,BU,CE,AB,BF,lMc,lMn,lAn,↓reduceIte,Nat.reduceEqDiff,oGs,bNf,enP,bxB,ldB]
 refine (AD4 G b hb _).use ?_
 simp -implicitDefEqProofs only [BI,A8,AY,BB,AO,AQ,AL,BD,AX,AC,AA,A7,AU,BH,BR,AB,EJ,↓reduceIte,oGs,bNf,enP]
 refine CW (fun hv => ?_) (fun hv => ?_)
 ·simp -implicitDefEqProofs only [BC,BA,BL,A8,CP,CJ,AY,BB,AO,AQ,AL,BD,AX,AC,AA,AU,BM,AZ,↓reduceIte,oGs,bNf]
  refine ⟨?_,_,rfl⟩
  have:G7 b≠0:=by simpa using hv
  simp [hit,this]
 have hv0:G7 b=0:=by simpa using hv
 have h1:=ABF hv0
 have hnum:=hb.num
 simp -implicitDefEqProofs only [BC,BA,BO,A8,AY,AO,AQ,AL,BD,AX,AC,AA,A7,BX,BV,BZ,BU,AB,lMc,lMn,lAn,↓reduceIte,Nat.reduceEqDiff,oGs,bNf,enP,ldB]
 refine (AHH G b _).use ?_
 have hw:IntKind.i64.wrap (((sets b).length:Int) - 1)=(((sets b).length - 1:Nat):Int):=by rw [wrap_i64 (by omega) (by omega)]; omega
 simp -implicitDefEqProofs only [BC,BA,A8,AY,BB,BJ,BP,CO,AO,AQ,AL,BD,AX,AC,AA,A7,AU,BH,BG,AZ,BR,D6,AB,JQ,DF,BF,BN,↓reduceIte,Nat.reduceEqDiff,oGs,bNf,enP,JB,PT,lLm,hw]
 have hd1:(sets b).length - 1 < (sets b).length:=by omega
 have e2:setAt b ((sets b).length - 1)=(sets b)[(sets b).length - 1].l:=by unfold setAt; simp [hd1]
 have ev:TW last (sets b).length v ((sets b).length - 1)=v:=by unfold TW; rw [if_neg (by omega)]
 refine QO (fun F H=>F 30 = .bool (decide (¬ (sets b).length≤last.length+1) || !inside (setAt b ((sets b).length - 1)) v)∧F 1 = .sl m 1 (last.map encI)∧F 7 = .sl (QU b) 1 ((sets b).map encS)∧F 8 = .int .i64 ((sets b).length - 1:Nat)∧H=h ++ [.live 4 [GM b]]) ?_ ?_
 ·refine G5 (fun hc => ?_) (fun hc => ?_)
  ·simp -implicitDefEqProofs only [AY,BB,BJ,BP,CO,FK,AO,AQ,AL,BD,AX,AC,AA,EQ,A7,AU,BM,CQ,DN,BF,BN,↓reduceIte,Nat.reduceEqDiff,oGs,bNf,hc]
   have : ¬ (sets b).length≤last.length+1:=by simp at hc; omega
   exact ⟨by simp [this],trivial,trivial,trivial,trivial⟩
  ·simp -implicitDefEqProofs only [BJ,BP,CO,EK,AO,AQ,AL,BD,AX,AC,AA,A7,BX,BG,BV,CG,BZ,BU,AB,BF,BN,lMc,lMn,lAn,↓reduceIte,Nat.reduceEqDiff,oGs,bNf,enP,AAB,hc,D5 hd1,DT OI hd1,AAG]
   refine (WR G _ _ _ _ (hb.sets _ (List.getElem_mem hd1))).use ?_
   simp -implicitDefEqProofs only [AY,BB,BJ,BP,CO,EK,AO,AQ,AL,BD,AX,AC,AA,A7,AU,BM,CQ,DK,G6,AB,EX,BF,BN,↓reduceIte,Nat.reduceEqDiff,oGs,bNf,hc]
   have:(sets b).length≤last.length+1:=by simp at hc; omega
   exact ⟨by simp [this,e2],trivial,trivial,trivial,trivial⟩
 rintro F H ⟨f30,f1,f7,f8,rfl⟩
 simp -implicitDefEqProofs only [BI,A8,A7,f30]
 refine CW (fun hc => ?_) (fun hc => ?_)
 ·simp -implicitDefEqProofs only [BC,BA,BL,A8,CP,CJ,AY,BB,AO,AQ,AL,BD,AX,AC,AA,AU,BM,AZ,↓reduceIte,oGs,bNf]
  refine ⟨?_,_,rfl⟩
  rw [Bool.or_eq_true] at hc
  rcases hc with h' | h'
  ·have : ¬ (sets b).length≤last.length+1:=by simpa using h'
   simp [hit,this]
  ·unfold hit
   rw [AFX hd1 (by rw [ev]; simpa using h')]; simp
 have hc1:(sets b).length≤last.length+1:=by
  have:=(Bool.or_eq_false_iff.1 hc).1
  simpa using this
 have hc2:inside (setAt b ((sets b).length - 1)) v=true:=by
  have:=(Bool.or_eq_false_iff.1 hc).2
  simpa using this
 simp -implicitDefEqProofs only [BC,BQ,BA,BO,A8,AY,BB,AO,AQ,AL,BD,AX,AC,AU,BH,AZ,oGs,bNf,f1,f7,f8]
 refine DR (fun n F H' => ∃ k,n+k=(sets b).length - 1∧F 1 = .sl m 1 (last.map encI)∧F 7 = .sl (QU b) 1 ((sets b).map encS)∧F 8 = .int .i64 ((sets b).length - 1:Nat)∧F 9 = .int .i64 (k:Nat)∧H'=h ++ [.live 4 [GM b]]∧AFY b last v k=true) ((sets b).length - 1) ⟨0,by simp,by simp -implicitDefEqProofs only [AA,↓reduceIte,Nat.reduceEqDiff,f1],by simp -implicitDefEqProofs only [AA,↓reduceIte,Nat.reduceEqDiff,f7],by simp -implicitDefEqProofs only [AA,↓reduceIte,Nat.reduceEqDiff,f8],by simp -implicitDefEqProofs only [AA,↓reduceIte]; rfl,rfl,rfl⟩ ?_
 rintro n F H' ⟨k,hk,f1,f7,f8,f9,rfl,hin⟩
 simp -implicitDefEqProofs only [BC,BA,BI,A8,AY,BB,AO,AQ,AL,BD,AX,AC,AA,A7,BG,BR,AB,DF,↓reduceIte,Nat.reduceEqDiff,oGs,bNf,enP,f8,f9]
 refine CW (fun hd => ?_) (fun hd => ?_)
 ·have hd':k < (sets b).length - 1:=by simp at hd; omega
  have hd2:k < (sets b).length:=by omega
  have hdl:last.length+1 - (sets b).length+k < last.length:=by omega
  have e3:setAt b k=(sets b)[k].l:=by unfold setAt; simp [hd2]
  have e4:TW last (sets b).length v k=last[last.length+1 - (sets b).length+k]:=by unfold TW; rw [if_pos (by omega),List.getElem?_eq_getElem hdl]; rfl
  have w1:IntKind.i64.wrap ((last.length:Int) - (((sets b).length - 1:Nat):Int))=((last.length+1 - (sets b).length:Nat):Int):=by rw [wrap_i64 (by omega) (by omega)]; omega
  have w2:IntKind.i64.wrap (((last.length+1 - (sets b).length:Nat):Int)+(k:Int))=((last.length+1 - (sets b).length+k:Nat):Int):=by rw [wrap_i64 (by omega) (by omega)]; omega
  simp -implicitDefEqProofs only [BC,BQ,BO,A8]
  refine FD (by kernel_rfl) ?_
  simp -implicitDefEqProofs only [F9,EH,DX,EM,FP,FQ,JA,ABB,ED,JK,GV,GI,AO,AA,A7,BX,BV,BR,G6,CG,D6,AB,DI,JQ,lMc,lMn,lAn,↓reduceIte,Nat.reduceEqDiff,Nat.reduceAdd,oGs,enP,JH,JB,AAB,f1,f7,f8,f9,lLm,w1,w2,D5 hd2,DT OI hd2,AAG,D5 hdl,DT ag3 hdl,encI0]
  refine ⟨_,WR G _ _ _ _ (hb.sets _ (List.getElem_mem hd2)),?_⟩
  simp -implicitDefEqProofs only [DX,FC,BI,A8,AA,A7,AB,EX,↓reduceIte]
  refine CW (fun hi => ?_) (fun hi => ?_)
  ·simp -implicitDefEqProofs only [BC,BA,BL,A8,CP,D8,FB,CJ,AY,BB,AO,AQ,AL,BD,AX,AC,AA,AU,BM,AZ,↓reduceIte,oGs,bNf]
   refine ⟨?_,_,rfl⟩
   have hi':inside (sets b)[k].l last[last.length+1 - (sets b).length+k]=false:=by simpa using hi
   unfold hit
   rw [AFX hd2 (by rw [e3,e4]; exact hi')]; simp
  ·simp -implicitDefEqProofs only [BA,BO,A8,EF,ER,AY,BB,AO,AQ,AL,BD,AX,AC,AA,A7,AU,BH,BG,AZ,BR,AB,DI,↓reduceIte,Nat.reduceEqDiff,oGs,bNf,enP,f9,wrap_succ (show k < 9223372036854775807 by omega)]
   refine ⟨n - 1,by omega,k+1,by omega,f1,f7,f8,rfl,trivial,?_⟩
   rw [ZC,hin,e3,e4]; simpa using hi
 ·have hd' : ¬ k < (sets b).length - 1:=by simp at hd; omega
  simp -implicitDefEqProofs only [BC,BA,BL,DL,A8,EC,EY,EW,CJ,AY,BB,AO,AQ,AL,BD,AX,AC,AA,AU,BM,AZ,↓reduceIte,oGs,bNf]
  refine ⟨?_,_,rfl⟩
  have:k=(sets b).length - 1:=by omega
  subst this
  have hall:AFY b last v (sets b).length=true:=by
   have:=ZC b last v ((sets b).length - 1)
   rw [show (sets b).length - 1+1=(sets b).length by omega] at this
   rw [this,hin,ev,hc2]; rfl
  unfold hit; rw [hall,hv0]; simp [hc1]
end Go.Proofs.YtocilianjfhifaaGreatDoor.Bins
set_option linter.unusedSimpArgs false
set_option maxRecDepth 8000
namespace Go.Proofs.YtocilianjfhifaaGreatDoor.Wd
open Sm Bins Cov Go.RowKit
def wW (z:Int):Nat:=(z % 65536).toNat
theorem ALE (z:Int):wW z < 65536:=by unfold wW; omega
theorem Q7 {a:Nat} (h:a < 65536):wW (a:Int)=a:=by unfold wW; omega
theorem ASA (z:Int):((wW z:Nat):Int)=z % 65536:=by unfold wW; omega
def KO (a i:Nat):Nat:=a / 2 ^ i % 2
def JY (a:Nat):Nat→Nat
 | 0=>0
 | k+1=>JY a k+KO a k
def UG (a:Nat):Nat:=JY a 16
def YZ (a:Nat) (n:Int):Nat:=if n < 0∨n≥16 then 0 else a * 2 ^ n.toNat % 65536
def WF (a:Nat) (n:Int):Nat:=if n < 0∨n≥16 then 0 else a / 2 ^ n.toNat
theorem AA7 (a i:Nat):KO a i < 2:=Nat.mod_lt _ (by omega)
theorem OU (a:Nat) : ∀ k,JY a k≤k
 | 0=>Nat.le_refl 0
 | k+1=>by have:=OU a k; have:=AA7 a k; unfold JY; omega
theorem QY (a i:Nat) (hi:i < 8):KO (a % 256) i=KO a i:=by
 unfold KO
 have:i=0∨i=1∨i=2∨i=3∨i=4∨i=5∨i=6∨i=7:=by omega
 rcases this with rfl | rfl | rfl | rfl | rfl | rfl | rfl | rfl <;> simp only [Nat.reducePow] <;> omega
theorem ARD (a i:Nat):KO (a / 256) i=KO a (8+i):=by
 unfold KO
 rw [Nat.div_div_eq_div_mul,Nat.pow_add]
theorem APQ (a:Nat):UG a=JY (a / 256) 8+JY (a % 256) 8:=by
 unfold UG
 simp only [JY,ARD,QY a 0 (by omega),QY a 1 (by omega),QY a 2 (by omega),QY a 3 (by omega),QY a 4 (by omega),QY a 5 (by omega),QY a 6 (by omega),QY a 7 (by omega),Nat.reduceAdd,Nat.add_zero]
 omega
theorem AOV {n:Int} (h0:0≤n) (h1:n < 65536):IntKind.u16.wrap n=n:=by
 have e:IntKind.u16.wrap n=n % 65536:=by simp [IntKind.wrap,IntKind.bits,IntKind.signed]
 rw [e]; omega
theorem RF (n:Int):IntKind.u16.wrap n=n % 65536:=by simp [IntKind.wrap,IntKind.bits,IntKind.signed]
theorem AUI (z:Int):I4 Tryz.prog 3 .and (.int .i64 z) (.int .i64 65535)=some (.int .i64 ((wW z:Nat):Int)):=by
 have e:I4 Tryz.prog 3 .and (.int .i64 z) (.int .i64 65535)=some (.int .i64 (IntKind.i64.wrap ((BitVec.ofInt 64 z &&& BitVec.ofInt 64 65535).toNat:Int))):=rfl
 rw [e,BitVec.toNat_and]
 have h1:(BitVec.ofInt 64 65535).toNat=2 ^ 16 - 1:=by decide
 rw [h1,Nat.and_two_pow_sub_one_eq_mod,BitVec.toNat_ofInt]
 have h2:((z % ((2 ^ 64:Nat):Int)).toNat % 2 ^ 16)=wW z:=by
  unfold wW
  simp only [Nat.reducePow]
  omega
 rw [h2,LU (by have:=ALE z; omega)]
theorem AOB (a:Nat) (h:a < 65536):(BitVec.ofInt 64 (a:Int)).toNat=a:=by
 rw [BitVec.ofInt_natCast,BitVec.toNat_ofNat]
 exact Nat.mod_eq_of_lt (by omega)
theorem AZJ (a b:Nat) (ha:a < 65536) (hb:b < 65536):I4 Tryz.prog 3 .and (.int .i64 (a:Nat)) (.int .i64 (b:Nat))=some (.int .i64 ((a &&& b:Nat):Int)):=by
 have e:I4 Tryz.prog 3 .and (.int .i64 (a:Nat)) (.int .i64 (b:Nat))=some (.int .i64 (IntKind.i64.wrap ((BitVec.ofInt 64 (a:Int) &&& BitVec.ofInt 64 (b:Int)).toNat:Int))):=rfl
 have hx:a &&& b < 2 ^ 16:=Nat.and_lt_two_pow _ (by omega)
 rw [e,BitVec.toNat_and,AOB a ha,AOB b hb,LU (by omega)]
theorem A0B (a b:Nat) (ha:a < 65536) (hb:b < 65536):I4 Tryz.prog 3 .or (.int .i64 (a:Nat)) (.int .i64 (b:Nat))=some (.int .i64 ((a ||| b:Nat):Int)):=by
 have e:I4 Tryz.prog 3 .or (.int .i64 (a:Nat)) (.int .i64 (b:Nat))=some (.int .i64 (IntKind.i64.wrap ((BitVec.ofInt 64 (a:Int) ||| BitVec.ofInt 64 (b:Int)).toNat:Int))):=rfl
 have hx:a ||| b < 2 ^ 16:=Nat.or_lt_two_pow (by omega) (by omega)
 rw [e,BitVec.toNat_or,AOB a ha,AOB b hb,LU (by omega)]
theorem AXD (a b:Nat) (ha:a < 65536) (hb:b < 65536):I4 Tryz.prog 3 .xor (.int .i64 (a:Nat)) (.int .i64 (b:Nat))=some (.int .i64 ((a ^^^ b:Nat):Int)):=by
 have e:I4 Tryz.prog 3 .xor (.int .i64 (a:Nat)) (.int .i64 (b:Nat))=some (.int .i64 (IntKind.i64.wrap ((BitVec.ofInt 64 (a:Int) ^^^ BitVec.ofInt 64 (b:Int)).toNat:Int))):=rfl
 have hx:a ^^^ b < 2 ^ 16:=Nat.xor_lt_two_pow (by omega) (by omega)
 rw [e,BitVec.toNat_xor,AOB a ha,AOB b hb,LU (by omega)]
theorem ZN (E:Env) (fid:FuncId) (a:AV) (l args caps:List AV) (h:Hp) (K:AV→Hp→Prop):AMS E (.fn (.func fid) (a :: l) caps) args h K=ACalls E fid ((a :: l) ++ (args ++ caps)) h K:=rfl
theorem O6 (G:Nat→AV) (z:Int) (h:Hp):PCall (En G) 262 [.int .i64 z] h (.int .u16 ((wW z:Nat):Int)):=by
 have:=ALE z
 refine CB (H:=Hint.none) (enM G) Tryz.func262 rfl (by kernel_rfl) (by kernel_rfl) (nLb (by kernel_rfl)) ?_
 show awp _ _ _ _ _ (EE _ [.tmp 2] _)
 simp -implicitDefEqProofs only [BC,BA,BL,A8,CJ,AY,BB,AO,AQ,AL,BD,AX,AC,AA,A7,AU,BH,BG,AZ,BR,YU,AB,BF,↓reduceIte,Nat.reduceEqDiff,oGs,bNf,enP,AT3,AUI,AOV (n:=((wW z:Nat):Int)) (by omega) (by omega)]
 exact ⟨trivial,trivial⟩
theorem SN (G:Nat→AV) (a:Nat) (ha:a < 65536) (h:Hp):PCall (En G) 263 [.int .u16 (a:Nat)] h (.int .i64 (a:Nat)):=by
 refine CB (H:=Hint.none) (enM G) Tryz.func263 rfl (by kernel_rfl) (by kernel_rfl) (nLb (by kernel_rfl)) ?_
 show awp _ _ _ _ _ (EE _ [.tmp 2] _)
 simp -implicitDefEqProofs only [BC,BA,BL,A8,CJ,AY,BB,AO,AQ,AL,BD,AX,AC,AA,A7,AU,BH,BG,AZ,YU,AB,BF,↓reduceIte,Nat.reduceEqDiff,oGs,bNf,enP,AT4,LU (n:=a) (by omega)]
 exact ⟨trivial,trivial⟩
theorem AMV (G:Nat→AV) (z:Int) (h:Hp):PCall (En G) 237 [.int .i64 z] h (.int .i64 ((wW z:Nat):Int)):=by
 refine CB (H:=Hint.none) (enM G) Tryz.func237 rfl (by kernel_rfl) (by kernel_rfl) (nLb (by kernel_rfl)) ?_
 show awp _ _ _ _ _ (EE _ [.tmp 2] _)
 simp -implicitDefEqProofs only [BC,BA,A8,AY,BB,AO,AQ,AL,BD,AX,AC,AA,A7,AU,BX,BH,BG,AZ,BZ,BU,BF,lMc,lMn,lAn,↓reduceIte,Nat.reduceEqDiff,oGs,bNf,enP]
 refine (O6 G z h).use ?_
 simp -implicitDefEqProofs only [AY,AO,AQ,AL,BD,AX,AC,AA,A7,BX,BZ,BU,lMc,lMn,lAn,↓reduceIte,oGs,bNf]
 refine (SN G _ (ALE z) h).use ?_
 simp -implicitDefEqProofs only [BL,A8,CJ,AY,BB,AO,AQ,AL,BD,AX,AC,AA,A7,AZ,↓reduceIte,oGs,bNf]
 exact ⟨trivial,trivial⟩
theorem ABJ (G:Nat→AV) (k:FuncId) (a b r:Nat) (hb:b < 65536) (hr:r < 65536) (h:Hp) (hc:PCall (En G) k [.int .u16 (a:Nat),.int .u16 (b:Nat)] h (.int .u16 (r:Nat))) :
  PCall (En G) 264 [.fn (.func k) [.int .u16 (a:Nat)] [],.int .i64 (b:Nat)] h (.int .i64 (r:Nat)):=by
 have ho:=O6 G (b:Nat) h
 rw [Q7 hb] at ho
 refine CB (H:=Hint.none) (enM G) Tryz.func264 rfl (by kernel_rfl) (by kernel_rfl) (nLb (by kernel_rfl)) ?_
 show awp _ _ _ _ _ (EE _ [.tmp 4] _)
 simp -implicitDefEqProofs only [BC,BA,A8,AY,BB,AO,AQ,AL,BD,AX,AC,AA,A7,AU,BX,BH,BG,AZ,BZ,BU,BF,BN,lMc,lMn,lAn,↓reduceIte,Nat.reduceEqDiff,oGs,bNf,enP]
 refine ho.use ?_
 simp -implicitDefEqProofs only [AY,AO,AQ,AL,BD,AX,AC,AA,A7,BZ,lMc,lMn,lAn,List.nil_append,List.cons_append,↓reduceIte,Nat.reduceEqDiff,oGs,bNf,ZN]
 refine hc.use ?_
 simp -implicitDefEqProofs only [AY,AO,AQ,AL,BD,AX,AC,AA,A7,BX,BZ,BU,lMc,lMn,lAn,↓reduceIte,oGs,bNf]
 refine (SN G r hr h).use ?_
 simp -implicitDefEqProofs only [BL,A8,CJ,AY,BB,AO,AQ,AL,BD,AX,AC,AA,A7,AZ,↓reduceIte,oGs,bNf]
 exact ⟨trivial,trivial⟩
theorem AHZ (G:Nat→AV) (k:FuncId) (a r:Nat) (hr:r < 65536) (h:Hp) (hc:PCall (En G) k [.int .u16 (a:Nat)] h (.int .u16 (r:Nat))) :
  PCall (En G) 291 [.fn (.func k) [.int .u16 (a:Nat)] []] h (.int .i64 (r:Nat)):=by
 refine CB (H:=Hint.none) (enM G) Tryz.func291 rfl (by kernel_rfl) (by kernel_rfl) (nLb (by kernel_rfl)) ?_
 show awp _ _ _ _ _ (EE _ [.tmp 2] _)
 simp -implicitDefEqProofs only [BC,BA,A8,AY,BB,AO,AQ,AL,BD,AX,AC,AA,A7,AU,BH,BG,AZ,BZ,BF,lMn,lAn,↓reduceIte,Nat.reduceEqDiff,oGs,bNf,enP,ZN]
 refine hc.use ?_
 simp -implicitDefEqProofs only [AY,AO,AQ,AL,BD,AX,AC,AA,A7,BX,BZ,BU,lMc,lMn,lAn,↓reduceIte,oGs,bNf]
 refine (SN G r hr h).use ?_
 simp -implicitDefEqProofs only [BL,A8,CJ,AY,BB,AO,AQ,AL,BD,AX,AC,AA,A7,AZ,↓reduceIte,oGs,bNf]
 exact ⟨trivial,trivial⟩
theorem AVI (G:Nat→AV) (a b:Nat) (ha:a < 65536) (hb:b < 65536) (h:Hp):PCall (En G) 238 [.int .i64 (a:Nat),.int .i64 (b:Nat)] h (.int .i64 (((a+b) % 65536:Nat):Int)):=by
 have hc:PCall (En G) 265 [.int .u16 (a:Nat),.int .u16 (b:Nat)] h (.int .u16 (((a+b) % 65536:Nat):Int)):=by
  have e:IntKind.u16.wrap ((a:Int)+(b:Int))=(((a+b) % 65536:Nat):Int):=by rw [RF]; omega
  refine CB (H:=Hint.none) (enM G) Tryz.func265 rfl (by kernel_rfl) (by kernel_rfl) (nLb (by kernel_rfl)) ?_
  show awp _ _ _ _ _ (EE _ [.tmp 4] _)
  simp -implicitDefEqProofs only [BC,BA,BL,A8,CJ,AY,BB,AO,AQ,AL,BD,AX,AC,AA,A7,AU,BH,BG,AZ,BR,AB,DI,BF,BN,↓reduceIte,Nat.reduceEqDiff,oGs,bNf,enP,e]
  exact ⟨trivial,trivial⟩
 have ho:=O6 G (a:Nat) h
 rw [Q7 ha] at ho
 refine CB (H:=Hint.none) (enM G) Tryz.func238 rfl (by kernel_rfl) (by kernel_rfl) (nLb (by kernel_rfl)) ?_
 show awp _ _ _ _ _ (EE _ [.tmp 4] _)
 simp -implicitDefEqProofs only [BC,BA,A8,AY,BB,AO,AQ,AL,BD,AX,AC,AA,A7,AU,BX,BH,BG,AZ,BZ,BU,BF,lMc,lMn,lAn,↓reduceIte,Nat.reduceEqDiff,oGs,bNf,enP]
 refine ho.use ?_
 simp -implicitDefEqProofs only [AY,AO,AQ,AL,BD,AX,AC,AA,A7,BX,BG,I7,BZ,BU,BF,BN,lMc,lMn,lAn,↓reduceIte,Nat.reduceEqDiff,oGs,bNf]
 refine (ABJ G 265 a b _ hb (Nat.mod_lt _ (by omega)) h hc).use ?_
 simp -implicitDefEqProofs only [BL,A8,CJ,AY,BB,AO,AQ,AL,BD,AX,AC,AA,A7,AZ,↓reduceIte,oGs,bNf]
 exact ⟨trivial,trivial⟩
theorem AXI (G:Nat→AV) (a b:Nat) (ha:a < 65536) (hb:b < 65536) (h:Hp):PCall (En G) 270 [.int .i64 (a:Nat),.int .i64 (b:Nat)] h (.int .i64 (((a+65536 - b) % 65536:Nat):Int)):=by
 have hc:PCall (En G) 295 [.int .u16 (a:Nat),.int .u16 (b:Nat)] h (.int .u16 (((a+65536 - b) % 65536:Nat):Int)):=by
  have e:IntKind.u16.wrap ((a:Int) - (b:Int))=(((a+65536 - b) % 65536:Nat):Int):=by rw [RF]; omega
  refine CB (H:=Hint.none) (enM G) Tryz.func295 rfl (by kernel_rfl) (by kernel_rfl) (nLb (by kernel_rfl)) ?_
  show awp _ _ _ _ _ (EE _ [.tmp 4] _)
  simp -implicitDefEqProofs only [BC,BA,BL,A8,CJ,AY,BB,AO,AQ,AL,BD,AX,AC,AA,A7,AU,BH,BG,AZ,BR,AB,JQ,BF,BN,↓reduceIte,Nat.reduceEqDiff,oGs,bNf,enP,e]
  exact ⟨trivial,trivial⟩
 have ho:=O6 G (a:Nat) h
 rw [Q7 ha] at ho
 refine CB (H:=Hint.none) (enM G) Tryz.func270 rfl (by kernel_rfl) (by kernel_rfl) (nLb (by kernel_rfl)) ?_
 show awp _ _ _ _ _ (EE _ [.tmp 4] _)
 simp -implicitDefEqProofs only [BC,BA,A8,AY,BB,AO,AQ,AL,BD,AX,AC,AA,A7,AU,BX,BH,BG,AZ,BZ,BU,BF,lMc,lMn,lAn,↓reduceIte,Nat.reduceEqDiff,oGs,bNf,enP]
 refine ho.use ?_
 simp -implicitDefEqProofs only [AY,AO,AQ,AL,BD,AX,AC,AA,A7,BX,BG,I7,BZ,BU,BF,BN,lMc,lMn,lAn,↓reduceIte,Nat.reduceEqDiff,oGs,bNf]
 refine (ABJ G 295 a b _ hb (Nat.mod_lt _ (by omega)) h hc).use ?_
 simp -implicitDefEqProofs only [BL,A8,CJ,AY,BB,AO,AQ,AL,BD,AX,AC,AA,A7,AZ,↓reduceIte,oGs,bNf]
 exact ⟨trivial,trivial⟩
theorem AX8 (G:Nat→AV) (a b:Nat) (ha:a < 65536) (hb:b < 65536) (h:Hp):PCall (En G) 271 [.int .i64 (a:Nat),.int .i64 (b:Nat)] h (.int .i64 ((a * b % 65536:Nat):Int)):=by
 have hc:PCall (En G) 296 [.int .u16 (a:Nat),.int .u16 (b:Nat)] h (.int .u16 ((a * b % 65536:Nat):Int)):=by
  have e:IntKind.u16.wrap ((a:Int) * (b:Int))=((a * b % 65536:Nat):Int):=by rw [RF]; rw [← Int.natCast_mul]; rfl
  refine CB (H:=Hint.none) (enM G) Tryz.func296 rfl (by kernel_rfl) (by kernel_rfl) (nLb (by kernel_rfl)) ?_
  show awp _ _ _ _ _ (EE _ [.tmp 4] _)
  simp -implicitDefEqProofs only [BC,BA,BL,A8,CJ,AY,BB,AO,AQ,AL,BD,AX,AC,AA,A7,AU,BH,BG,AZ,BR,AB,TG,BF,BN,↓reduceIte,Nat.reduceEqDiff,oGs,bNf,enP,e]
  exact ⟨trivial,trivial⟩
 have ho:=O6 G (a:Nat) h
 rw [Q7 ha] at ho
 refine CB (H:=Hint.none) (enM G) Tryz.func271 rfl (by kernel_rfl) (by kernel_rfl) (nLb (by kernel_rfl)) ?_
 show awp _ _ _ _ _ (EE _ [.tmp 4] _)
 simp -implicitDefEqProofs only [BC,BA,A8,AY,BB,AO,AQ,AL,BD,AX,AC,AA,A7,AU,BX,BH,BG,AZ,BZ,BU,BF,lMc,lMn,lAn,↓reduceIte,Nat.reduceEqDiff,oGs,bNf,enP]
 refine ho.use ?_
 simp -implicitDefEqProofs only [AY,AO,AQ,AL,BD,AX,AC,AA,A7,BX,BG,I7,BZ,BU,BF,BN,lMc,lMn,lAn,↓reduceIte,Nat.reduceEqDiff,oGs,bNf]
 refine (ABJ G 296 a b _ hb (Nat.mod_lt _ (by omega)) h hc).use ?_
 simp -implicitDefEqProofs only [BL,A8,CJ,AY,BB,AO,AQ,AL,BD,AX,AC,AA,A7,AZ,↓reduceIte,oGs,bNf]
 exact ⟨trivial,trivial⟩
theorem AYG (G:Nat→AV) (a:Nat) (ha:a < 65536) (h:Hp):PCall (En G) 267 [.int .i64 (a:Nat)] h (.int .i64 ((65535 - a:Nat):Int)):=by
 have hu:aUn .xor (.int .u16 (a:Nat))=some (.int .u16 ((65535 - a:Nat):Int)):=by
  have e:aUn .xor (.int .u16 (a:Nat))=some (.int .u16 (IntKind.u16.wrap ((BitVec.ofInt 16 65535 ^^^ BitVec.ofInt 16 (a:Int)).toNat:Int))):=rfl
  have h1:BitVec.ofInt 16 65535=BitVec.allOnes 16:=by decide
  have h2:(BitVec.ofInt 16 (a:Int)).toNat=a:=by
   rw [BitVec.ofInt_natCast,BitVec.toNat_ofNat]
   exact Nat.mod_eq_of_lt (by omega)
  rw [e,h1,BitVec.allOnes_xor,BitVec.toNat_not,h2,AOV (by omega) (by simp only [Nat.reducePow]; omega)]
 have hc:PCall (En G) 292 [.int .u16 (a:Nat)] h (.int .u16 ((65535 - a:Nat):Int)):=by
  refine CB (H:=Hint.none) (enM G) Tryz.func292 rfl (by kernel_rfl) (by kernel_rfl) (nLb (by kernel_rfl)) ?_
  show awp _ _ _ _ _ (EE _ [.tmp 2] _)
  simp -implicitDefEqProofs only [BC,BA,BL,A8,CJ,AY,BB,AO,AQ,AL,BD,AX,AC,AA,A7,AU,BH,BG,AZ,G6,AB,BF,↓reduceIte,Nat.reduceEqDiff,oGs,bNf,enP,hu]
  exact ⟨trivial,trivial⟩
 have ho:=O6 G (a:Nat) h
 rw [Q7 ha] at ho
 refine CB (H:=Hint.none) (enM G) Tryz.func267 rfl (by kernel_rfl) (by kernel_rfl) (nLb (by kernel_rfl)) ?_
 show awp _ _ _ _ _ (EE _ [.tmp 2] _)
 simp -implicitDefEqProofs only [BC,BA,A8,AY,BB,AO,AQ,AL,BD,AX,AC,AA,A7,AU,BX,BH,BG,AZ,BZ,BU,BF,lMc,lMn,lAn,↓reduceIte,Nat.reduceEqDiff,oGs,bNf,enP]
 refine ho.use ?_
 simp -implicitDefEqProofs only [AY,AO,AQ,AL,BD,AX,AC,AA,A7,BX,I7,BZ,BU,lMc,lMn,lAn,↓reduceIte,oGs,bNf]
 refine (AHZ G 292 a _ (by omega) h hc).use ?_
 simp -implicitDefEqProofs only [BL,A8,CJ,AY,BB,AO,AQ,AL,BD,AX,AC,AA,A7,AZ,↓reduceIte,oGs,bNf]
 exact ⟨trivial,trivial⟩
theorem AX6 (G:Nat→AV) (a:Nat) (ha:a < 65536) (h:Hp):PCall (En G) 268 [.int .i64 (a:Nat)] h (.int .i64 (((65536 - a) % 65536:Nat):Int)):=by
 have hc:PCall (En G) 293 [.int .u16 (a:Nat)] h (.int .u16 (((65536 - a) % 65536:Nat):Int)):=by
  have e:IntKind.u16.wrap (0 - (a:Int))=(((65536 - a) % 65536:Nat):Int):=by rw [RF]; omega
  refine CB (H:=Hint.none) (enM G) Tryz.func293 rfl (by kernel_rfl) (by kernel_rfl) (nLb (by kernel_rfl)) ?_
  show awp _ _ _ _ _ (EE _ [.tmp 2] _)
  simp -implicitDefEqProofs only [BC,BA,BL,A8,CJ,AY,BB,AO,AQ,AL,BD,AX,AC,AA,A7,AU,BH,BG,AZ,G6,AB,AVP,BF,↓reduceIte,Nat.reduceEqDiff,oGs,bNf,enP,e]
  exact ⟨trivial,trivial⟩
 have ho:=O6 G (a:Nat) h
 rw [Q7 ha] at ho
 refine CB (H:=Hint.none) (enM G) Tryz.func268 rfl (by kernel_rfl) (by kernel_rfl) (nLb (by kernel_rfl)) ?_
 show awp _ _ _ _ _ (EE _ [.tmp 2] _)
 simp -implicitDefEqProofs only [BC,BA,A8,AY,BB,AO,AQ,AL,BD,AX,AC,AA,A7,AU,BX,BH,BG,AZ,BZ,BU,BF,lMc,lMn,lAn,↓reduceIte,Nat.reduceEqDiff,oGs,bNf,enP]
 refine ho.use ?_
 simp -implicitDefEqProofs only [AY,AO,AQ,AL,BD,AX,AC,AA,A7,BX,I7,BZ,BU,lMc,lMn,lAn,↓reduceIte,oGs,bNf]
 refine (AHZ G 293 a _ (Nat.mod_lt _ (by omega)) h hc).use ?_
 simp -implicitDefEqProofs only [BL,A8,CJ,AY,BB,AO,AQ,AL,BD,AX,AC,AA,A7,AZ,↓reduceIte,oGs,bNf]
 exact ⟨trivial,trivial⟩
theorem ABO (G:Nat→AV) (k:FuncId) (a r:Nat) (n:Int) (hr:r < 65536) (h:Hp) (hc : ¬ (n < 0∨n≥16)→PCall (En G) k [.int .u16 (a:Nat),.int .i64 n] h (.int .u16 (r:Nat))) (h0:n < 0∨n≥16→r=0) :
  PCall (En G) 297 [.fn (.func k) [.int .u16 (a:Nat)] [],.int .i64 n] h (.int .i64 (r:Nat)):=by
 refine CB (H:=Hint.none) (enM G) Tryz.func297 rfl (by kernel_rfl) (by kernel_rfl) (nLb (by kernel_rfl)) ?_
 show awp _ _ _ _ _ (EE _ [.tmp 4] _)
 simp -implicitDefEqProofs only [BC,BA,A8,AY,BB,BJ,BP,CO,AO,AQ,AL,BD,AX,AC,AA,A7,AU,BH,BG,AZ,BR,AB,DF,BF,BN,↓reduceIte,Nat.reduceEqDiff,oGs,bNf,enP]
 cases h1:decide (n < 0)
 ·have h1' : ¬ n < 0:=by simpa using h1
  cases h2:decide (n≥16)
  ·have h2' : ¬ n≥16:=by simpa using h2
   simp -implicitDefEqProofs only [BC,BA,BO,BI,A8,DU,AY,BB,BJ,BP,CO,EK,AO,AQ,AL,BD,AX,AC,AA,A7,AU,BH,BM,BG,CQ,DK,BR,BZ,AB,GZ,BF,BN,lMc,lMn,lAn,List.nil_append,List.cons_append,↓reduceIte,Nat.reduceEqDiff,oGs,bNf,enP,h2,ZN]
   refine (hc (by omega)).use ?_
   simp -implicitDefEqProofs only [AY,AO,AQ,AL,BD,AX,AC,AA,A7,BX,BZ,BU,lMc,lMn,lAn,↓reduceIte,oGs,bNf]
   refine (SN G r hr h).use ?_
   simp -implicitDefEqProofs only [BL,A8,CJ,AY,BB,AO,AQ,AL,BD,AX,AC,AA,A7,AZ,↓reduceIte,oGs,bNf]
   exact ⟨trivial,trivial⟩
  ·have h2':n≥16:=by simpa using h2
   simp -implicitDefEqProofs only [BC,BA,BL,BI,A8,CP,CJ,C9,AY,BB,BJ,BP,CO,EK,AO,AQ,AL,BD,AX,AC,AA,A7,AU,BH,BM,BG,AZ,CQ,DK,BR,AB,GZ,BF,BN,↓reduceIte,Nat.reduceEqDiff,oGs,bNf,enP,h2]
   exact ⟨by rw [h0 (.inr h2')]; rfl,trivial⟩
 ·have h1':n < 0:=by simpa using h1
  simp -implicitDefEqProofs only [BC,BA,BL,BI,A8,CP,CJ,C9,AY,BB,BJ,BP,CO,FK,AO,AQ,AL,BD,AX,AC,AA,EQ,A7,AU,BH,BM,AZ,CQ,DN,↓reduceIte,Nat.reduceEqDiff,oGs,bNf]
  exact ⟨by rw [h0 (.inl h1')]; rfl,trivial⟩
theorem ALO {a:Nat} {n:Int}:YZ a n < 65536:=by
 unfold YZ
 split
 ·omega
 ·exact Nat.mod_lt _ (by omega)
theorem ALN {a:Nat} {n:Int} (ha:a < 65536):WF a n < 65536:=by
 unfold WF
 split
 ·omega
 ·exact Nat.lt_of_le_of_lt (Nat.div_le_self _ _) ha
theorem AXT (G:Nat→AV) (a:Nat) (n:Int) (ha:a < 65536) (h:Hp):PCall (En G) 272 [.int .i64 (a:Nat),.int .i64 n] h (.int .i64 (YZ a n:Nat)):=by
 have hc : ¬ (n < 0∨n≥16)→PCall (En G) 298 [.int .u16 (a:Nat),.int .i64 n] h (.int .u16 (YZ a n:Nat)):=fun hn=>by
  have hb:I4 Tryz.prog 252 .shl (.int .u16 (a:Nat)) (.int .i64 n)=some (.int .u16 (YZ a n:Nat)):=by
   have e:I4 Tryz.prog 252 .shl (.int .u16 (a:Nat)) (.int .i64 n)=if n < 0 then none else some (.int .u16 (IntKind.u16.wrap ((a:Int) * 2 ^ (min n.toNat 16)))):=rfl
   have h1:min n.toNat 16=n.toNat:=by omega
   rw [e,if_neg (by omega),h1,RF]
   unfold YZ
   rw [if_neg hn,Int.natCast_emod,Int.natCast_mul,Int.natCast_pow]
   rfl
  refine CB (H:=Hint.none) (enM G) Tryz.func298 rfl (by kernel_rfl) (by kernel_rfl) (nLb (by kernel_rfl)) ?_
  show awp _ _ _ _ _ (EE _ [.tmp 4] _)
  simp -implicitDefEqProofs only [BC,BA,BL,A8,CJ,AY,BB,AO,AQ,AL,BD,AX,AC,AA,A7,AU,BH,BG,AZ,BR,AB,BF,BN,↓reduceIte,Nat.reduceEqDiff,oGs,bNf,enP,hb]
  exact ⟨trivial,trivial⟩
 have ho:=O6 G (a:Nat) h
 rw [Q7 ha] at ho
 refine CB (H:=Hint.none) (enM G) Tryz.func272 rfl (by kernel_rfl) (by kernel_rfl) (nLb (by kernel_rfl)) ?_
 show awp _ _ _ _ _ (EE _ [.tmp 4] _)
 simp -implicitDefEqProofs only [BC,BA,A8,AY,BB,AO,AQ,AL,BD,AX,AC,AA,A7,AU,BX,BH,BG,AZ,BZ,BU,BF,lMc,lMn,lAn,↓reduceIte,Nat.reduceEqDiff,oGs,bNf,enP]
 refine ho.use ?_
 simp -implicitDefEqProofs only [AY,AO,AQ,AL,BD,AX,AC,AA,A7,BX,BG,I7,BZ,BU,BF,BN,lMc,lMn,lAn,↓reduceIte,Nat.reduceEqDiff,oGs,bNf]
 refine (ABO G 298 a _ n ALO h hc (fun hh=>by unfold YZ; rw [if_pos hh])).use ?_
 simp -implicitDefEqProofs only [BL,A8,CJ,AY,BB,AO,AQ,AL,BD,AX,AC,AA,A7,AZ,↓reduceIte,oGs,bNf]
 exact ⟨trivial,trivial⟩
theorem AXS (G:Nat→AV) (a:Nat) (n:Int) (ha:a < 65536) (h:Hp):PCall (En G) 273 [.int .i64 (a:Nat),.int .i64 n] h (.int .i64 (WF a n:Nat)):=by
 have hc : ¬ (n < 0∨n≥16)→PCall (En G) 299 [.int .u16 (a:Nat),.int .i64 n] h (.int .u16 (WF a n:Nat)):=fun hn=>by
  have hb:I4 Tryz.prog 252 .shr (.int .u16 (a:Nat)) (.int .i64 n)=some (.int .u16 (WF a n:Nat)):=by
   have e:I4 Tryz.prog 252 .shr (.int .u16 (a:Nat)) (.int .i64 n)=if n < 0 then none else some (.int .u16 ((a:Int).fdiv (2 ^ (min n.toNat 16)))):=rfl
   have h1:min n.toNat 16=n.toNat:=by omega
   rw [e,if_neg (by omega),h1]
   unfold WF
   rw [if_neg hn,Int.fdiv_eq_ediv_of_nonneg _ (by exact Int.le_of_lt (Int.pow_pos (by decide))),Int.natCast_ediv,Int.natCast_pow]
   rfl
  refine CB (H:=Hint.none) (enM G) Tryz.func299 rfl (by kernel_rfl) (by kernel_rfl) (nLb (by kernel_rfl)) ?_
  show awp _ _ _ _ _ (EE _ [.tmp 4] _)
  simp -implicitDefEqProofs only [BC,BA,BL,A8,CJ,AY,BB,AO,AQ,AL,BD,AX,AC,AA,A7,AU,BH,BG,AZ,BR,AB,BF,BN,↓reduceIte,Nat.reduceEqDiff,oGs,bNf,enP,hb]
  exact ⟨trivial,trivial⟩
 have ho:=O6 G (a:Nat) h
 rw [Q7 ha] at ho
 refine CB (H:=Hint.none) (enM G) Tryz.func273 rfl (by kernel_rfl) (by kernel_rfl) (nLb (by kernel_rfl)) ?_
 show awp _ _ _ _ _ (EE _ [.tmp 4] _)
 simp -implicitDefEqProofs only [BC,BA,A8,AY,BB,AO,AQ,AL,BD,AX,AC,AA,A7,AU,BX,BH,BG,AZ,BZ,BU,BF,lMc,lMn,lAn,↓reduceIte,Nat.reduceEqDiff,oGs,bNf,enP]
 refine ho.use ?_
 simp -implicitDefEqProofs only [AY,AO,AQ,AL,BD,AX,AC,AA,A7,BX,BG,I7,BZ,BU,BF,BN,lMc,lMn,lAn,↓reduceIte,Nat.reduceEqDiff,oGs,bNf]
 refine (ABO G 299 a _ n (ALN ha) h hc (fun hh=>by unfold WF; rw [if_pos hh])).use ?_
 simp -implicitDefEqProofs only [BL,A8,CJ,AY,BB,AO,AQ,AL,BD,AX,AC,AA,A7,AZ,↓reduceIte,oGs,bNf]
 exact ⟨trivial,trivial⟩
def ALJ (fn:Func):ByteArray:=match fn.body with
 | some (.seq _ (.seq (.region _ ops _) _))=>match ops[2]? with
   | some o=>match o.op with
     | .index _ (.const (.string s)) _=>s
     | _=>⟨#[]⟩
   | none=>⟨#[]⟩
 | _=>⟨#[]⟩
theorem ASG:(List.range 256).all (fun y=>(ALJ Tryz.f294)[y]? == some (UInt8.ofNat (JY y 8)))=true:=by kernel_rfl
theorem AO1 {y:Nat} (hy:y < 256) (h:Hp):ofO h (NK Tryz.prog 9 (.str (ALJ Tryz.f294)) (.int .u16 (y:Nat)))=some (.int .u8 (JY y 8:Nat),h):=by
 have h1:=List.all_eq_true.1 ASG y (by simpa using hy)
 have h2:(ALJ Tryz.f294)[y]? = some (UInt8.ofNat (JY y 8)):=by simpa using h1
 have hle:=OU y 8
 have hu:Tryz.prog.underlying 9=some .string:=by kernel_rfl
 have h3:NK Tryz.prog 9 (.str (ALJ Tryz.f294)) (.int .u16 (y:Nat))=some (.int .u8 (JY y 8:Nat)):=by
  unfold NK
  simp only [hu,Int.toNat_natCast,h2]
  rw [if_pos (by omega)]
  simp
  omega
 rw [h3]; rfl
set_option maxHeartbeats 1000000 in
theorem ANI (G:Nat→AV) (a:Nat) (ha:a < 65536) (h:Hp):PCall (En G) 269 [.int .i64 (a:Nat)] h (.int .i64 (UG a:Nat)):=by
 have hs:I4 Tryz.prog 251 .shr (.int .u16 (a:Nat)) (.int .u64 8)=some (.int .u16 ((a / 256:Nat):Int)):=by
  have e:I4 Tryz.prog 251 .shr (.int .u16 (a:Nat)) (.int .u64 8)=some (.int .u16 ((a:Int).fdiv (2 ^ 8))):=rfl
  rw [e,Int.fdiv_eq_ediv_of_nonneg _ (by decide)]
  rfl
 have hl:I4 Tryz.prog 251 .and (.int .u16 (a:Nat)) (.int .u16 255)=some (.int .u16 ((a % 256:Nat):Int)):=by
  have e:I4 Tryz.prog 251 .and (.int .u16 (a:Nat)) (.int .u16 255)=some (.int .u16 (IntKind.u16.wrap ((BitVec.ofInt 16 (a:Int) &&& BitVec.ofInt 16 255).toNat:Int))):=rfl
  have h1:(BitVec.ofInt 16 255).toNat=2 ^ 8 - 1:=by decide
  have h2:(BitVec.ofInt 16 (a:Int)).toNat=a:=by
   rw [BitVec.ofInt_natCast,BitVec.toNat_ofNat]
   exact Nat.mod_eq_of_lt (by omega)
  rw [e,BitVec.toNat_and,h1,Nat.and_two_pow_sub_one_eq_mod,h2,AOV (by omega) (by simp only [Nat.reducePow]; omega)]
 have l1:=OU (a / 256) 8
 have l2:=OU (a % 256) 8
 have hadd:I4 Tryz.prog 5 .add (.int .u8 (JY (a / 256) 8:Nat)) (.int .u8 (JY (a % 256) 8:Nat))=some (.int .u8 (UG a:Nat)):=by
  have e:I4 Tryz.prog 5 .add (.int .u8 (JY (a / 256) 8:Nat)) (.int .u8 (JY (a % 256) 8:Nat))=some (.int .u8 (IntKind.u8.wrap ((JY (a / 256) 8:Int)+(JY (a % 256) 8:Int)))):=rfl
  have e2 : ∀ n:Int,IntKind.u8.wrap n=n % 256:=fun n=>by simp [IntKind.wrap,IntKind.bits,IntKind.signed]
  have e3:=APQ a
  rw [e,e2]
  congr 2
  omega
 have h64:IntKind.i64.wrap ((UG a:Nat):Int)=((UG a:Nat):Int):=LU (by have:=OU a 16; unfold UG; omega)
 have hc:PCall (En G) 294 [.int .u16 (a:Nat)] h (.int .i64 (UG a:Nat)):=by
  refine CB (H:=Hint.none) (enM G) Tryz.func294 rfl (by kernel_rfl) (by kernel_rfl) (nLb (by kernel_rfl)) ?_
  show awp _ _ _ _ _ (EE _ [.tmp 2] _)
  simp -implicitDefEqProofs only [BC,BA,A8,AY,BB,AO,AQ,AL,BD,AX,AC,AU,BH,AZ,oGs,bNf,enP]
  refine FD (by kernel_rfl) ?_
  simp -implicitDefEqProofs only [F9,EH,DX,EM,FP,JA,AFE,AO,AA,A7,AU,BH,IP,BR,N8,AB,BF,↓reduceIte,Nat.reduceEqDiff,Nat.reduceAdd,oGs,enP,hs,hl]
  refine KJ (v := .int .u8 (JY (a / 256) 8:Nat)) (h:=h) (AO1 (by omega) h) ?_
  simp -implicitDefEqProofs only [F9,EH,DX,EM,FP,JA,AFE,AO,AA,A7,AU,BH,IP,BR,N8,AB,BF,↓reduceIte,Nat.reduceEqDiff,Nat.reduceAdd,oGs,enP,hs,hl]
  refine KJ (v := .int .u8 (JY (a % 256) 8:Nat)) (h:=h) (AO1 (by omega) h) ?_
  simp -implicitDefEqProofs only [F9,EH,DX,FC,EM,J8,JA,AOS,BL,A8,CJ,AO,AA,A7,BR,YU,AB,↓reduceIte,Nat.reduceEqDiff,Nat.reduceAdd,oGs,enP,AQ0,hadd,h64]
  exact ⟨trivial,trivial⟩
 have ho:=O6 G (a:Nat) h
 rw [Q7 ha] at ho
 refine CB (H:=Hint.none) (enM G) Tryz.func269 rfl (by kernel_rfl) (by kernel_rfl) (nLb (by kernel_rfl)) ?_
 show awp _ _ _ _ _ (EE _ [.tmp 2] _)
 simp -implicitDefEqProofs only [BC,BA,A8,AY,BB,AO,AQ,AL,BD,AX,AC,AA,A7,AU,BX,BH,BG,AZ,BZ,BU,BF,lMc,lMn,lAn,↓reduceIte,Nat.reduceEqDiff,oGs,bNf,enP]
 refine ho.use ?_
 simp -implicitDefEqProofs only [AY,AO,AQ,AL,BD,AX,AC,AA,A7,BX,BZ,BU,lMc,lMn,lAn,↓reduceIte,oGs,bNf]
 refine hc.use ?_
 simp -implicitDefEqProofs only [BL,A8,CJ,AY,BB,AO,AQ,AL,BD,AX,AC,AA,A7,AZ,↓reduceIte,oGs,bNf]
 exact ⟨trivial,trivial⟩
theorem QC (G:Nat→AV) (z:Int) (h:Hp) (hz : -9223372036854775808≤z∧z≤9223372036854775807):PCall (En G) 276 [.int .i64 z] h (.int .i64 (wW z:Nat)):=by
 have hr:I4 Tryz.prog 3 .rem (.int .i64 z) (.int .i64 65536)=some (.int .i64 (z.tmod 65536)):=AA8 _ _ _ _ _ (by decide)
 have hm:z.tmod 65536=if z < 0 then -((-z) % 65536) else z % 65536:=by
  split
  ·have h1:z = -(-z):=by omega
   conv=>lhs; rw [h1]
   rw [Int.neg_tmod,Int.tmod_eq_emod_of_nonneg (by omega)]
  ·rw [Int.tmod_eq_emod_of_nonneg (by omega)]
 have hw:=ASA z
 refine CB (H:=Hint.none) (enM G) Tryz.func276 rfl (by kernel_rfl) (by kernel_rfl) (nLb (by kernel_rfl)) ?_
 show awp _ _ _ _ _ (EE _ [.tmp 2] _)
 simp -implicitDefEqProofs only [BC,BA,BI,A8,AY,BB,AO,AQ,AL,BD,AX,AC,AA,A7,AU,BH,BG,AZ,BR,AB,DF,BF,↓reduceIte,Nat.reduceEqDiff,oGs,bNf,enP,hr]
 generalize z.tmod 65536=t at hm ⊢
 have h0 : -65536 < t∧t < 65536:=by
  rw [hm]; split <;> omega
 cases hc:decide (t < 0)
 ·have hc' : ¬ t < 0:=by simpa using hc
  have e:t=((wW z:Nat):Int):=by
   rw [hw]; split at hm <;> omega
  simp -implicitDefEqProofs only [BC,BA,BO,BL,A8,CJ,DU,AY,BB,AO,AQ,AL,BD,AX,AC,AA,A7,BG,AZ,↓reduceIte,Nat.reduceEqDiff,oGs,bNf,hc]
  exact ⟨by rw [e],trivial⟩
 ·have hc':t < 0:=by simpa using hc
  have e:IntKind.i64.wrap (IntKind.i64.wrap (t+65535)+1)=((wW z:Nat):Int):=by
   have e1:IntKind.i64.wrap (t+65535)=t+65535:=wrap_i64 (by omega) (by omega)
   rw [hw,e1,wrap_i64 (by omega) (by omega)]
   split at hm <;> omega
  simp -implicitDefEqProofs only [BC,BA,BL,A8,CJ,C9,AY,BB,AO,AQ,AL,BD,AX,AC,AA,A7,AU,BH,BG,AZ,BR,AB,DI,↓reduceIte,Nat.reduceEqDiff,oGs,bNf,enP,hc,e]
  exact ⟨trivial,trivial⟩
theorem LX (G:Nat→AV) (a:Nat) (ha:a < 65536) (h:Hp):PCall (En G) 276 [.int .i64 (a:Nat)] h (.int .i64 (a:Nat)):=by
 have:=QC G (a:Nat) h (by omega)
 rwa [Q7 ha] at this
theorem AED (G:Nat→AV) (n:Nat) (hn:n≤16) (h:Hp):PCall (En G) 303 [.int .i64 (n:Nat)] h (.int .i64 ((2 ^ n:Nat):Int)):=by
 refine CB (H:=Hint.none) (enM G) Tryz.func303 rfl (by kernel_rfl) (by kernel_rfl) (nLb (by kernel_rfl)) ?_
 show awp _ _ _ _ _ (EE _ [.tmp 2] _)
 simp -implicitDefEqProofs only [BC,BQ,BA,A8,AY,BB,AO,AQ,AL,BD,AX,AC,AU,BH,AZ,oGs,bNf,enP]
 refine DR (fun k F H => ∃ i,k+i=n∧F 0 = .int .i64 (n:Nat)∧F 3 = .int .i64 ((2 ^ i:Nat):Int)∧F 4 = .int .i64 (i:Nat)∧H=h) n ⟨0,by simp,by simp -implicitDefEqProofs only [AA,BF,↓reduceIte,Nat.reduceEqDiff],by simp -implicitDefEqProofs only [AA,↓reduceIte,Nat.reduceEqDiff] <;> rfl,by simp -implicitDefEqProofs only [AA,↓reduceIte] <;> rfl,rfl⟩ ?_
 rintro k F H ⟨i,hi,f0,f3,f4,rfl⟩
 simp -implicitDefEqProofs only [BC,BA,BI,A8,AY,BB,AO,AQ,AL,BD,AX,AC,AA,A7,BG,BR,AB,DF,↓reduceIte,Nat.reduceEqDiff,oGs,bNf,enP,f0,f4]
 refine CW (fun hc => ?_) (fun hc => ?_)
 ·have hi':i < n:=by simpa using hc
  have hp:2 ^ i≤2 ^ 16:=Nat.pow_le_pow_right (by omega) (by omega)
  have e:IntKind.i64.wrap (2 * ((2 ^ i:Nat):Int))=((2 ^ (i+1):Nat):Int):=by
   simp only [Nat.reducePow] at hp
   rw [show (2:Int) * ((2 ^ i:Nat):Int)=((2 ^ i * 2:Nat):Int) by rw [Int.natCast_mul,Int.mul_comm]; rfl,Nat.pow_succ]
   exact LU (by omega)
  simp -implicitDefEqProofs only [BC,BQ,BA,BO,A8,EF,ER,AY,BB,AO,AQ,AL,BD,AX,AC,AA,A7,AU,BH,BG,AZ,BR,AB,DI,TG,↓reduceIte,Nat.reduceEqDiff,oGs,bNf,enP,f3,f4,e,wrap_succ (show i < 9223372036854775807 by omega)]
  exact ⟨k - 1,by omega,i+1,by omega,f0,by first | trivial | rfl,by first | trivial | rfl,trivial⟩
 ·have hi':i=n:=by
   have : ¬ i < n:=by simpa using hc
   omega
  subst hi'
  simp -implicitDefEqProofs only [BC,BA,BL,DL,A8,EC,EY,EW,CJ,AY,BB,AO,AQ,AL,BD,AX,AC,AA,A7,BG,AZ,↓reduceIte,Nat.reduceEqDiff,oGs,bNf,f3]
  exact ⟨by first | trivial | rfl,trivial⟩
theorem AVJ (G:Nat→AV) (a b:Nat) (ha:a < 65536) (hb:b < 65536) (h:Hp):PCall (En G) 250 [.int .i64 (a:Nat),.int .i64 (b:Nat)] h (.int .i64 (((a+b) % 65536:Nat):Int)):=by
 have e:IntKind.i64.wrap ((a:Int)+(b:Int))=(a:Int)+(b:Int):=wrap_i64 (by omega) (by omega)
 have e2:wW ((a:Int)+(b:Int))=(a+b) % 65536:=by unfold wW; omega
 refine CB (H:=Hint.none) (enM G) Tryz.func250 rfl (by kernel_rfl) (by kernel_rfl) (nLb (by kernel_rfl)) ?_
 show awp _ _ _ _ _ (EE _ [.tmp 4] _)
 simp -implicitDefEqProofs only [BC,BA,A8,AY,BB,AO,AQ,AL,BD,AX,AC,AA,A7,AU,BX,BH,BG,AZ,BZ,BU,BF,lMc,lMn,lAn,↓reduceIte,Nat.reduceEqDiff,oGs,bNf,enP]
 refine (LX G a ha h).use ?_
 simp -implicitDefEqProofs only [AY,AO,AQ,AL,BD,AX,AC,AA,A7,BX,BG,BZ,BU,BF,BN,lMc,lMn,lAn,↓reduceIte,Nat.reduceEqDiff,oGs,bNf]
 refine (LX G b hb h).use ?_
 simp -implicitDefEqProofs only [AY,AO,AQ,AL,BD,AX,AC,AA,A7,BX,BR,BZ,BU,AB,DI,lMc,lMn,lAn,↓reduceIte,Nat.reduceEqDiff,oGs,bNf,enP,e]
 refine (QC G _ h (by omega)).use ?_
 simp -implicitDefEqProofs only [BL,A8,CJ,AY,BB,AO,AQ,AL,BD,AX,AC,AA,A7,AZ,↓reduceIte,oGs,bNf,e2]
 exact ⟨trivial,trivial⟩
theorem AXJ (G:Nat→AV) (a b:Nat) (ha:a < 65536) (hb:b < 65536) (h:Hp):PCall (En G) 282 [.int .i64 (a:Nat),.int .i64 (b:Nat)] h (.int .i64 (((a+65536 - b) % 65536:Nat):Int)):=by
 have e:IntKind.i64.wrap ((a:Int) - (b:Int))=(a:Int) - (b:Int):=wrap_i64 (by omega) (by omega)
 have e2:wW ((a:Int) - (b:Int))=(a+65536 - b) % 65536:=by unfold wW; omega
 refine CB (H:=Hint.none) (enM G) Tryz.func282 rfl (by kernel_rfl) (by kernel_rfl) (nLb (by kernel_rfl)) ?_
 show awp _ _ _ _ _ (EE _ [.tmp 4] _)
 simp -implicitDefEqProofs only [BC,BA,A8,AY,BB,AO,AQ,AL,BD,AX,AC,AA,A7,AU,BX,BH,BG,AZ,BZ,BU,BF,lMc,lMn,lAn,↓reduceIte,Nat.reduceEqDiff,oGs,bNf,enP]
 refine (LX G a ha h).use ?_
 simp -implicitDefEqProofs only [AY,AO,AQ,AL,BD,AX,AC,AA,A7,BX,BG,BZ,BU,BF,BN,lMc,lMn,lAn,↓reduceIte,Nat.reduceEqDiff,oGs,bNf]
 refine (LX G b hb h).use ?_
 simp -implicitDefEqProofs only [AY,AO,AQ,AL,BD,AX,AC,AA,A7,BX,BR,BZ,BU,AB,JQ,lMc,lMn,lAn,↓reduceIte,Nat.reduceEqDiff,oGs,bNf,enP,e]
 refine (QC G _ h (by omega)).use ?_
 simp -implicitDefEqProofs only [BL,A8,CJ,AY,BB,AO,AQ,AL,BD,AX,AC,AA,A7,AZ,↓reduceIte,oGs,bNf,e2]
 exact ⟨trivial,trivial⟩
theorem mul_lt {a b:Nat} (ha:a < 65536) (hb:b≤65536):a * b≤65535 * 65536:=Nat.mul_le_mul (by omega) hb
theorem AX9 (G:Nat→AV) (a b:Nat) (ha:a < 65536) (hb:b < 65536) (h:Hp):PCall (En G) 283 [.int .i64 (a:Nat),.int .i64 (b:Nat)] h (.int .i64 ((a * b % 65536:Nat):Int)):=by
 have hm:=mul_lt ha (Nat.le_of_lt hb)
 have e:IntKind.i64.wrap ((a:Int) * (b:Int))=((a * b:Nat):Int):=by rw [← Int.natCast_mul]; exact LU (by omega)
 have e2:wW ((a * b:Nat):Int)=a * b % 65536:=by unfold wW; omega
 refine CB (H:=Hint.none) (enM G) Tryz.func283 rfl (by kernel_rfl) (by kernel_rfl) (nLb (by kernel_rfl)) ?_
 show awp _ _ _ _ _ (EE _ [.tmp 4] _)
 simp -implicitDefEqProofs only [BC,BA,A8,AY,BB,AO,AQ,AL,BD,AX,AC,AA,A7,AU,BX,BH,BG,AZ,BZ,BU,BF,lMc,lMn,lAn,↓reduceIte,Nat.reduceEqDiff,oGs,bNf,enP]
 refine (LX G a ha h).use ?_
 simp -implicitDefEqProofs only [AY,AO,AQ,AL,BD,AX,AC,AA,A7,BX,BG,BZ,BU,BF,BN,lMc,lMn,lAn,↓reduceIte,Nat.reduceEqDiff,oGs,bNf]
 refine (LX G b hb h).use ?_
 simp -implicitDefEqProofs only [AY,AO,AQ,AL,BD,AX,AC,AA,A7,BX,BR,BZ,BU,AB,TG,lMc,lMn,lAn,↓reduceIte,Nat.reduceEqDiff,oGs,bNf,enP,e]
 refine (QC G _ h (by omega)).use ?_
 simp -implicitDefEqProofs only [BL,A8,CJ,AY,BB,AO,AQ,AL,BD,AX,AC,AA,A7,AZ,↓reduceIte,oGs,bNf,e2]
 exact ⟨trivial,trivial⟩
theorem AYH (G:Nat→AV) (a:Nat) (ha:a < 65536) (h:Hp):PCall (En G) 279 [.int .i64 (a:Nat)] h (.int .i64 ((65535 - a:Nat):Int)):=by
 have e:IntKind.i64.wrap (65535 - (a:Int))=((65535 - a:Nat):Int):=by rw [wrap_i64 (by omega) (by omega)]; omega
 refine CB (H:=Hint.none) (enM G) Tryz.func279 rfl (by kernel_rfl) (by kernel_rfl) (nLb (by kernel_rfl)) ?_
 show awp _ _ _ _ _ (EE _ [.tmp 2] _)
 simp -implicitDefEqProofs only [BC,BA,A8,AY,BB,AO,AQ,AL,BD,AX,AC,AA,A7,AU,BX,BH,BG,AZ,BZ,BU,BF,lMc,lMn,lAn,↓reduceIte,Nat.reduceEqDiff,oGs,bNf,enP]
 refine (LX G a ha h).use ?_
 simp -implicitDefEqProofs only [BL,A8,CJ,AY,BB,AO,AQ,AL,BD,AX,AC,AA,A7,AU,BH,AZ,BR,AB,JQ,↓reduceIte,oGs,bNf,enP,e]
 exact ⟨trivial,trivial⟩
theorem AX7 (G:Nat→AV) (a:Nat) (ha:a < 65536) (h:Hp):PCall (En G) 280 [.int .i64 (a:Nat)] h (.int .i64 (((65536 - a) % 65536:Nat):Int)):=by
 have e:IntKind.i64.wrap (0 - (a:Int))=0 - (a:Int):=wrap_i64 (by omega) (by omega)
 have e2:wW (0 - (a:Int))=(65536 - a) % 65536:=by unfold wW; omega
 refine CB (H:=Hint.none) (enM G) Tryz.func280 rfl (by kernel_rfl) (by kernel_rfl) (nLb (by kernel_rfl)) ?_
 show awp _ _ _ _ _ (EE _ [.tmp 2] _)
 simp -implicitDefEqProofs only [BC,BA,A8,AY,BB,AO,AQ,AL,BD,AX,AC,AA,A7,AU,BX,BH,BG,AZ,BZ,BU,BF,lMc,lMn,lAn,↓reduceIte,Nat.reduceEqDiff,oGs,bNf,enP]
 refine (LX G a ha h).use ?_
 simp -implicitDefEqProofs only [AY,AO,AQ,AL,BD,AX,AC,AA,A7,AU,BX,BH,BR,BZ,BU,AB,JQ,lMc,lMn,lAn,↓reduceIte,oGs,bNf,enP,e]
 refine (QC G _ h (by omega)).use ?_
 simp -implicitDefEqProofs only [BL,A8,CJ,AY,BB,AO,AQ,AL,BD,AX,AC,AA,A7,AZ,↓reduceIte,oGs,bNf,e2]
 exact ⟨trivial,trivial⟩
theorem AXU (G:Nat→AV) (a:Nat) (n:Int) (ha:a < 65536) (h:Hp):PCall (En G) 287 [.int .i64 (a:Nat),.int .i64 n] h (.int .i64 (YZ a n:Nat)):=by
 refine CB (H:=Hint.none) (enM G) Tryz.func287 rfl (by kernel_rfl) (by kernel_rfl) (nLb (by kernel_rfl)) ?_
 show awp _ _ _ _ _ (EE _ [.tmp 4] _)
 simp -implicitDefEqProofs only [BC,BA,A8,AY,BB,BJ,BP,CO,AO,AQ,AL,BD,AX,AC,AA,A7,AU,BH,BG,AZ,BR,AB,DF,BF,BN,↓reduceIte,Nat.reduceEqDiff,oGs,bNf,enP]
 cases h1:decide (n < 0)
 ·have h1' : ¬ n < 0:=by simpa using h1
  cases h2:decide (n > 15)
  ·have h2' : ¬ n > 15:=by simpa using h2
   obtain ⟨k,rfl⟩:=Int.eq_ofNat_of_zero_le (show 0≤n by omega)
   have hp:2 ^ k≤2 ^ 16:=Nat.pow_le_pow_right (by omega) (by omega)
   have hm:=mul_lt ha hp
   have e:IntKind.i64.wrap ((a:Int) * ((2 ^ k:Nat):Int))=((a * 2 ^ k:Nat):Int):=by rw [← Int.natCast_mul]; exact LU (by omega)
   have e2:wW ((a * 2 ^ k:Nat):Int)=YZ a (k:Nat):=by
    unfold YZ wW
    rw [if_neg (by omega),Int.toNat_natCast]
    omega
   simp -implicitDefEqProofs only [BC,BA,BO,BI,A8,DU,AY,BB,BJ,BP,CO,EK,AO,AQ,AL,BD,AX,AC,AA,A7,AU,BX,BH,BM,BG,CQ,DK,BR,BZ,BU,AB,EZ,BF,BN,lMc,lMn,lAn,↓reduceIte,Nat.reduceEqDiff,oGs,bNf,enP,h2]
   refine (LX G a ha h).use ?_
   simp -implicitDefEqProofs only [AY,AO,AQ,AL,BD,AX,AC,AA,A7,BX,BG,BZ,BU,BF,BN,lMc,lMn,lAn,↓reduceIte,Nat.reduceEqDiff,oGs,bNf]
   refine (AED G k (by omega) h).use ?_
   simp -implicitDefEqProofs only [AY,AO,AQ,AL,BD,AX,AC,AA,A7,BX,BR,BZ,BU,AB,TG,lMc,lMn,lAn,↓reduceIte,Nat.reduceEqDiff,oGs,bNf,enP,e]
   refine (QC G _ h (by omega)).use ?_
   simp -implicitDefEqProofs only [BL,A8,CJ,AY,BB,AO,AQ,AL,BD,AX,AC,AA,A7,AZ,↓reduceIte,oGs,bNf,e2]
   exact ⟨trivial,trivial⟩
  ·have h2':n > 15:=by simpa using h2
   simp -implicitDefEqProofs only [BC,BA,BL,BI,A8,CP,CJ,C9,AY,BB,BJ,BP,CO,EK,AO,AQ,AL,BD,AX,AC,AA,A7,AU,BH,BM,BG,AZ,CQ,DK,BR,AB,EZ,BF,BN,↓reduceIte,Nat.reduceEqDiff,oGs,bNf,enP,h2]
   exact ⟨by unfold YZ; rw [if_pos (by omega)]; rfl,trivial⟩
 ·have h1':n < 0:=by simpa using h1
  simp -implicitDefEqProofs only [BC,BA,BL,BI,A8,CP,CJ,C9,AY,BB,BJ,BP,CO,FK,AO,AQ,AL,BD,AX,AC,AA,EQ,A7,AU,BH,BM,AZ,CQ,DN,↓reduceIte,Nat.reduceEqDiff,oGs,bNf]
  exact ⟨by unfold YZ; rw [if_pos (by omega)]; rfl,trivial⟩
theorem AU6 (G:Nat→AV) (a:Nat) (n:Int) (ha:a < 65536) (h:Hp):PCall (En G) 288 [.int .i64 (a:Nat),.int .i64 n] h (.int .i64 (WF a n:Nat)):=by
 refine CB (H:=Hint.none) (enM G) Tryz.func288 rfl (by kernel_rfl) (by kernel_rfl) (nLb (by kernel_rfl)) ?_
 show awp _ _ _ _ _ (EE _ [.tmp 4] _)
 simp -implicitDefEqProofs only [BC,BA,A8,AY,BB,BJ,BP,CO,AO,AQ,AL,BD,AX,AC,AA,A7,AU,BH,BG,AZ,BR,AB,DF,BF,BN,↓reduceIte,Nat.reduceEqDiff,oGs,bNf,enP]
 cases h1:decide (n < 0)
 ·have h1' : ¬ n < 0:=by simpa using h1
  cases h2:decide (n > 15)
  ·have h2' : ¬ n > 15:=by simpa using h2
   obtain ⟨k,rfl⟩:=Int.eq_ofNat_of_zero_le (show 0≤n by omega)
   have hp:0 < 2 ^ k:=Nat.pow_pos (by omega)
   have e2:a / 2 ^ k=WF a (k:Nat):=by
    unfold WF
    rw [if_neg (by omega),Int.toNat_natCast]
   simp -implicitDefEqProofs only [BC,BA,BO,BI,A8,DU,AY,BB,BJ,BP,CO,EK,AO,AQ,AL,BD,AX,AC,AA,A7,AU,BX,BH,BM,BG,CQ,DK,BR,BZ,BU,AB,EZ,BF,BN,lMc,lMn,lAn,↓reduceIte,Nat.reduceEqDiff,oGs,bNf,enP,h2]
   refine (LX G a ha h).use ?_
   simp -implicitDefEqProofs only [AY,AO,AQ,AL,BD,AX,AC,AA,A7,BX,BG,BZ,BU,BF,BN,lMc,lMn,lAn,↓reduceIte,Nat.reduceEqDiff,oGs,bNf]
   refine (AED G k (by omega) h).use ?_
   simp -implicitDefEqProofs only [BL,A8,CJ,AY,BB,AO,AQ,AL,BD,AX,AC,AA,A7,AZ,BR,AB,↓reduceIte,Nat.reduceEqDiff,oGs,bNf,enP,ALS a (2 ^ k) hp (by omega),e2]
   exact ⟨trivial,trivial⟩
  ·have h2':n > 15:=by simpa using h2
   simp -implicitDefEqProofs only [BC,BA,BL,BI,A8,CP,CJ,C9,AY,BB,BJ,BP,CO,EK,AO,AQ,AL,BD,AX,AC,AA,A7,AU,BH,BM,BG,AZ,CQ,DK,BR,AB,EZ,BF,BN,↓reduceIte,Nat.reduceEqDiff,oGs,bNf,enP,h2]
   exact ⟨by unfold WF; rw [if_pos (by omega)]; rfl,trivial⟩
 ·have h1':n < 0:=by simpa using h1
  simp -implicitDefEqProofs only [BC,BA,BL,BI,A8,CP,CJ,C9,AY,BB,BJ,BP,CO,FK,AO,AQ,AL,BD,AX,AC,AA,EQ,A7,AU,BH,BM,AZ,CQ,DN,↓reduceIte,Nat.reduceEqDiff,oGs,bNf]
  exact ⟨by unfold WF; rw [if_pos (by omega)]; rfl,trivial⟩
theorem AGM (G:Nat→AV) (a i:Nat) (ha:a < 65536) (hi:i < 16) (h:Hp):PCall (En G) 301 [.int .i64 (a:Nat),.int .i64 (i:Nat)] h (.int .i64 (KO a i:Nat)):=by
 have e:WF a (i:Nat)=a / 2 ^ i:=by
  unfold WF
  rw [if_neg (by omega),Int.toNat_natCast]
 refine CB (H:=Hint.none) (enM G) Tryz.func301 rfl (by kernel_rfl) (by kernel_rfl) (nLb (by kernel_rfl)) ?_
 show awp _ _ _ _ _ (EE _ [.tmp 4] _)
 have hr:=ALR (a / 2 ^ i) 2 (by omega)
 have hr':I4 Tryz.prog 3 .rem (.int .i64 ((a / 2 ^ i:Nat):Int)) (.int .i64 2)=some (.int .i64 (KO a i:Nat)):=hr
 simp -implicitDefEqProofs only [BC,BA,A8,AY,BB,AO,AQ,AL,BD,AX,AC,AA,A7,AU,BX,BH,BG,AZ,BZ,BU,BF,BN,lMc,lMn,lAn,↓reduceIte,Nat.reduceEqDiff,oGs,bNf,enP]
 refine (AU6 G a i ha h).use ?_
 simp -implicitDefEqProofs only [BL,A8,CJ,AY,BB,AO,AQ,AL,BD,AX,AC,AA,A7,AU,BH,AZ,BR,AB,↓reduceIte,oGs,bNf,enP,e,hr']
 exact ⟨trivial,trivial⟩
theorem AV6 (G:Nat→AV) (a:Nat) (ha:a < 65536) (h:Hp):PCall (En G) 281 [.int .i64 (a:Nat)] h (.int .i64 (UG a:Nat)):=by
 refine CB (H:=Hint.none) (enM G) Tryz.func281 rfl (by kernel_rfl) (by kernel_rfl) (nLb (by kernel_rfl)) ?_
 show awp _ _ _ _ _ (EE _ [.tmp 2] _)
 simp -implicitDefEqProofs only [BC,BQ,BA,A8,AY,BB,AO,AQ,AL,BD,AX,AC,AU,BH,AZ,oGs,bNf,enP]
 refine DR (fun k F H => ∃ i,k+i=16∧F 0 = .int .i64 (a:Nat)∧F 3 = .int .i64 (JY a i:Nat)∧F 4 = .int .i64 (i:Nat)∧H=h) 16 ⟨0,by simp,by simp -implicitDefEqProofs only [AA,BF,↓reduceIte,Nat.reduceEqDiff],by simp -implicitDefEqProofs only [AA,↓reduceIte,Nat.reduceEqDiff] <;> rfl,by simp -implicitDefEqProofs only [AA,↓reduceIte] <;> rfl,rfl⟩ ?_
 rintro k F H ⟨i,hi,f0,f3,f4,rfl⟩
 simp -implicitDefEqProofs only [BC,BA,BI,A8,AY,BB,AO,AQ,AL,BD,AX,AC,AA,A7,AU,BH,BG,BR,AB,DF,↓reduceIte,oGs,bNf,enP,f4]
 refine CW (fun hc => ?_) (fun hc => ?_)
 ·have hi':i < 16:=by simp at hc; omega
  have hle:=OU a (i+1)
  have e:IntKind.i64.wrap (((JY a i:Nat):Int)+((KO a i:Nat):Int))=((JY a (i+1):Nat):Int):=by
   have:JY a (i+1)=JY a i+KO a i:=rfl
   rw [wrap_i64 (by omega) (by omega)]; omega
  simp -implicitDefEqProofs only [BC,BQ,BA,BO,A8,AY,AO,AQ,AL,BD,AX,AC,AA,A7,BX,BG,BZ,BU,lMc,lMn,lAn,↓reduceIte,Nat.reduceEqDiff,oGs,bNf,f0,f3,f4]
  refine (AGM G a i ha hi' H).use ?_
  simp -implicitDefEqProofs only [BA,A8,EF,ER,AY,BB,AO,AQ,AL,BD,AX,AC,AA,A7,AU,BH,BG,AZ,BR,AB,DI,↓reduceIte,Nat.reduceEqDiff,oGs,bNf,enP,f3,f4,e,wrap_succ (show i < 9223372036854775807 by omega)]
  exact ⟨k - 1,by omega,i+1,by omega,f0,by first | trivial | rfl,by first | trivial | rfl,trivial⟩
 ·have hi':i=16:=by simp at hc; omega
  subst hi'
  simp -implicitDefEqProofs only [BC,BA,BL,DL,A8,EC,EY,EW,CJ,AY,BB,AO,AQ,AL,BD,AX,AC,AA,A7,BG,AZ,↓reduceIte,Nat.reduceEqDiff,oGs,bNf,f3]
  exact ⟨by first | trivial | rfl,trivial⟩
def MO (lo hi a b:Nat):Nat→Nat
 | 0=>0
 | k+1=>2 * MO lo hi a b k+(if lo≤KO a (15 - k)+KO b (15 - k)∧KO a (15 - k)+KO b (15 - k)≤hi then 1 else 0)
theorem AE4 (lo hi a b:Nat) : ∀ k,MO lo hi a b k < 2 ^ k
 | 0=>by simp [MO]
 | k+1=>by
   have:=AE4 lo hi a b k
   unfold MO
   rw [Nat.pow_succ]
   split <;> omega
theorem AA6 (lo hi a b x:Nat) (hx:x < 65536) (hb : ∀ i,i < 16→KO x i=if lo≤KO a i+KO b i∧KO a i+KO b i≤hi then 1 else 0) : ∀ k,k≤16→MO lo hi a b k=x / 2 ^ (16 - k)
 | 0,_=>by
   unfold MO
   rw [Nat.div_eq_of_lt (by simpa using hx)]
 | k+1,hk=>by
   unfold MO
   rw [AA6 lo hi a b x hx hb k (by omega),← hb (15 - k) (by omega)]
   unfold KO
   rw [show 16 - (k+1)=15 - k by omega,show 16 - k=(15 - k)+1 by omega,Nat.pow_succ,← Nat.div_div_eq_div_mul]
   omega
theorem OG (x i:Nat):KO x i=if x.testBit i=true then 1 else 0:=by
 have:=AA7 x i
 rw [Nat.testBit_eq_decide_div_mod_eq]
 unfold KO at *
 simp only [decide_eq_true_eq]
 split <;> omega
theorem ARC (a b:Nat) (ha:a < 65536):MO 2 2 a b 16=a &&& b:=by
 rw [AA6 2 2 a b (a &&& b) (Nat.lt_of_le_of_lt Nat.and_le_left ha) (fun i _ => ?_) 16 (Nat.le_refl _)]
 ·simp
 ·rw [OG,OG,OG,Nat.testBit_and]
  cases a.testBit i <;> cases b.testBit i <;> simp
theorem AUA (a b:Nat) (ha:a < 65536) (hb:b < 65536):MO 1 2 a b 16=a ||| b:=by
 rw [AA6 1 2 a b (a ||| b) (Nat.or_lt_two_pow (n:=16) (by omega) (by omega)) (fun i _ => ?_) 16 (Nat.le_refl _)]
 ·simp
 ·rw [OG,OG,OG,Nat.testBit_or]
  cases a.testBit i <;> cases b.testBit i <;> simp
theorem ARB (a b:Nat) (ha:a < 65536) (hb:b < 65536):MO 1 1 a b 16=a ^^^ b:=by
 rw [AA6 1 1 a b (a ^^^ b) (Nat.xor_lt_two_pow (n:=16) (by omega) (by omega)) (fun i _ => ?_) 16 (Nat.le_refl _)]
 ·simp
 ·rw [OG,OG,OG,Nat.testBit_xor]
  cases a.testBit i <;> cases b.testBit i <;> simp
theorem AC1 (G:Nat→AV) (lo hi a b:Nat) (ha:a < 65536) (hb:b < 65536) (h:Hp):PCall (En G) 302 [.int .i64 (a:Nat),.int .i64 (b:Nat),.int .i64 (lo:Nat),.int .i64 (hi:Nat)] h (.int .i64 (MO lo hi a b 16:Nat)):=by
 refine CB (H:=Hint.none) (enM G) Tryz.func302 rfl (by kernel_rfl) (by kernel_rfl) (nLb (by kernel_rfl)) ?_
 show awp _ _ _ _ _ (EE _ [.tmp 8] _)
 simp -implicitDefEqProofs only [BC,BQ,BA,A8,AY,BB,AO,AQ,AL,BD,AX,AC,AU,BH,AZ,oGs,bNf,enP]
 refine DR (fun n F H => ∃ k,n+k=16∧F 0 = .int .i64 (a:Nat)∧F 1 = .int .i64 (b:Nat)∧F 2 = .int .i64 (lo:Nat)∧F 3 = .int .i64 (hi:Nat)∧F 9 = .int .i64 (MO lo hi a b k:Nat)∧F 10 = .int .i64 (15 - (k:Int))∧H=h) 16
  ⟨0,by simp,by simp -implicitDefEqProofs only [AA,BF,↓reduceIte,Nat.reduceEqDiff],by simp -implicitDefEqProofs only [AA,BF,BN,↓reduceIte,Nat.reduceEqDiff],by simp -implicitDefEqProofs only [AA,BF,BN,↓reduceIte,Nat.reduceEqDiff],by simp -implicitDefEqProofs only [AA,BF,BN,↓reduceIte,Nat.reduceEqDiff],by simp -implicitDefEqProofs only [AA,↓reduceIte,Nat.reduceEqDiff] <;> rfl,by simp -implicitDefEqProofs only [AA,↓reduceIte] <;> rfl,rfl⟩ ?_
 rintro n F H ⟨k,hk,f0,f1,f2,f3,f9,f10,rfl⟩
 simp -implicitDefEqProofs only [BC,BA,BI,A8,AY,BB,AO,AQ,AL,BD,AX,AC,AA,A7,AU,BH,BG,BR,AB,GZ,↓reduceIte,oGs,bNf,enP,f10]
 refine CW (fun hc => ?_) (fun hc => ?_)
 ·have hk':k < 16:=by simp at hc; omega
  have e0:(15 - (k:Int))=((15 - k:Nat):Int):=by omega
  have l1:=AA7 a (15 - k)
  have l2:=AA7 b (15 - k)
  have l3:=AE4 lo hi a b k
  have l4:2 ^ k≤2 ^ 15:=Nat.pow_le_pow_right (by omega) (by omega)
  simp only [Nat.reducePow] at l4
  have es:IntKind.i64.wrap (((KO a (15 - k):Nat):Int)+((KO b (15 - k):Nat):Int))=((KO a (15 - k)+KO b (15 - k):Nat):Int):=by rw [wrap_i64 (by omega) (by omega)]; omega
  have e2:IntKind.i64.wrap (2 * ((MO lo hi a b k:Nat):Int))=((2 * MO lo hi a b k:Nat):Int):=by rw [wrap_i64 (by omega) (by omega)]; omega
  have e3:IntKind.i64.wrap (((15 - k:Nat):Int) - 1)=15 - ((k+1:Nat):Int):=by rw [wrap_i64 (by omega) (by omega)]; omega
  have hst:MO lo hi a b (k+1)=2 * MO lo hi a b k+(if lo≤KO a (15 - k)+KO b (15 - k)∧KO a (15 - k)+KO b (15 - k)≤hi then 1 else 0):=rfl
  simp -implicitDefEqProofs only [BC,BQ,BA,BO,A8,AY,AO,AQ,AL,BD,AX,AC,AA,A7,BX,BG,BZ,BU,lMc,lMn,lAn,↓reduceIte,Nat.reduceEqDiff,oGs,bNf,f0,f10,e0]
  refine (AGM G a (15 - k) ha (by omega) H).use ?_
  simp -implicitDefEqProofs only [AY,AO,AQ,AL,BD,AX,AC,AA,A7,BX,BG,BZ,BU,lMc,lMn,lAn,↓reduceIte,Nat.reduceEqDiff,oGs,bNf,f1,f10,e0]
  refine (AGM G b (15 - k) hb (by omega) H).use ?_
  simp -implicitDefEqProofs only [BC,BA,A8,AY,BB,BJ,BP,CO,AO,AQ,AL,BD,AX,AC,AA,A7,AU,BH,BG,AZ,BR,AB,DI,TG,GZ,↓reduceIte,Nat.reduceEqDiff,oGs,bNf,enP,f2,f3,f9,es,e2]
  cases h1:decide (((KO a (15 - k)+KO b (15 - k):Nat):Int)≥((lo:Nat):Int))
  ·have h1' : ¬ lo≤KO a (15 - k)+KO b (15 - k):=by simp at h1; omega
   rw [if_neg (fun q=>h1' q.1),Nat.add_zero] at hst
   simp -implicitDefEqProofs only [BA,BO,BI,A8,EF,ER,DU,AY,BB,BJ,BP,CO,H7,AO,AQ,AL,BD,AX,AC,AA,EQ,A7,AU,BH,BM,BG,AZ,CQ,DK,BR,AB,JQ,↓reduceIte,Nat.reduceEqDiff,oGs,bNf,enP,h1,f10,e0,e3]
   exact ⟨n - 1,by omega,k+1,by omega,f0,f1,f2,f3,by rw [hst] <;> rfl,by first | trivial | rfl,trivial⟩
  ·have h1':lo≤KO a (15 - k)+KO b (15 - k):=by simp at h1; omega
   cases h2:decide (((KO a (15 - k)+KO b (15 - k):Nat):Int)≤((hi:Nat):Int))
   ·have h2' : ¬ KO a (15 - k)+KO b (15 - k)≤hi:=by simp at h2; omega
    rw [if_neg (fun q=>h2' q.2),Nat.add_zero] at hst
    simp -implicitDefEqProofs only [BA,BO,BI,A8,EF,ER,DU,AY,BB,BJ,BP,CO,FY,AO,AQ,AL,BD,AX,AC,AA,A7,AU,BH,BM,BG,AZ,CQ,DN,BR,AB,JQ,IE,↓reduceIte,Nat.reduceEqDiff,oGs,bNf,enP,h1,h2,f3,f10,e0,e3]
    exact ⟨n - 1,by omega,k+1,by omega,f0,f1,f2,by first | exact f3 | trivial,by rw [hst] <;> rfl,by first | trivial | rfl,trivial⟩
   ·have h2':KO a (15 - k)+KO b (15 - k)≤hi:=by simp at h2; omega
    rw [if_pos ⟨h1',h2'⟩] at hst
    simp -implicitDefEqProofs only [BA,BI,A8,EF,ER,C9,AY,BB,BJ,BP,CO,FY,AO,AQ,AL,BD,AX,AC,AA,A7,AU,BH,BM,BG,AZ,CQ,DN,BR,AB,DI,JQ,IE,↓reduceIte,Nat.reduceEqDiff,oGs,bNf,enP,h1,h2,f3,f10,e0,e3,wrap_succ (show 2 * MO lo hi a b k < 9223372036854775807 by omega)]
    exact ⟨n - 1,by omega,k+1,by omega,f0,f1,f2,by first | exact f3 | trivial,by rw [hst] <;> rfl,by first | trivial | rfl,trivial⟩
 ·have hk':k=16:=by simp at hc; omega
  subst hk'
  simp -implicitDefEqProofs only [BC,BA,BL,DL,A8,EC,EY,EW,CJ,AY,BB,AO,AQ,AL,BD,AX,AC,AA,A7,BG,AZ,↓reduceIte,Nat.reduceEqDiff,oGs,bNf,f9]
  exact ⟨by first | trivial | rfl,trivial⟩
theorem AZK (G:Nat→AV) (a b:Nat) (ha:a < 65536) (hb:b < 65536) (h:Hp):PCall (En G) 284 [.int .i64 (a:Nat),.int .i64 (b:Nat)] h (.int .i64 ((a &&& b:Nat):Int)):=by
 have hc:=AC1 G 2 2 a b ha hb h
 rw [ARC a b ha] at hc
 have hc':PCall (En G) 302 [.int .i64 (a:Nat),.int .i64 (b:Nat),.int .i64 2,.int .i64 2] h (.int .i64 ((a &&& b:Nat):Int)):=hc
 refine CB (H:=Hint.none) (enM G) Tryz.func284 rfl (by kernel_rfl) (by kernel_rfl) (nLb (by kernel_rfl)) ?_
 show awp _ _ _ _ _ (EE _ [.tmp 4] _)
 simp -implicitDefEqProofs only [BC,BA,A8,AY,BB,AO,AQ,AL,BD,AX,AC,AA,A7,AU,BX,BH,BG,AZ,BZ,BU,BF,BN,lMc,lMn,lAn,↓reduceIte,Nat.reduceEqDiff,oGs,bNf,enP]
 refine hc'.use ?_
 simp -implicitDefEqProofs only [BL,A8,CJ,AY,BB,AO,AQ,AL,BD,AX,AC,AA,A7,AZ,↓reduceIte,oGs,bNf]
 exact ⟨trivial,trivial⟩
theorem A0C (G:Nat→AV) (a b:Nat) (ha:a < 65536) (hb:b < 65536) (h:Hp):PCall (En G) 285 [.int .i64 (a:Nat),.int .i64 (b:Nat)] h (.int .i64 ((a ||| b:Nat):Int)):=by
 have hc:=AC1 G 1 2 a b ha hb h
 rw [AUA a b ha hb] at hc
 have hc':PCall (En G) 302 [.int .i64 (a:Nat),.int .i64 (b:Nat),.int .i64 1,.int .i64 2] h (.int .i64 ((a ||| b:Nat):Int)):=hc
 refine CB (H:=Hint.none) (enM G) Tryz.func285 rfl (by kernel_rfl) (by kernel_rfl) (nLb (by kernel_rfl)) ?_
 show awp _ _ _ _ _ (EE _ [.tmp 4] _)
 simp -implicitDefEqProofs only [BC,BA,A8,AY,BB,AO,AQ,AL,BD,AX,AC,AA,A7,AU,BX,BH,BG,AZ,BZ,BU,BF,BN,lMc,lMn,lAn,↓reduceIte,Nat.reduceEqDiff,oGs,bNf,enP]
 refine hc'.use ?_
 simp -implicitDefEqProofs only [BL,A8,CJ,AY,BB,AO,AQ,AL,BD,AX,AC,AA,A7,AZ,↓reduceIte,oGs,bNf]
 exact ⟨trivial,trivial⟩
theorem AXE (G:Nat→AV) (a b:Nat) (ha:a < 65536) (hb:b < 65536) (h:Hp):PCall (En G) 286 [.int .i64 (a:Nat),.int .i64 (b:Nat)] h (.int .i64 ((a ^^^ b:Nat):Int)):=by
 have hc:=AC1 G 1 1 a b ha hb h
 rw [ARB a b ha hb] at hc
 have hc':PCall (En G) 302 [.int .i64 (a:Nat),.int .i64 (b:Nat),.int .i64 1,.int .i64 1] h (.int .i64 ((a ^^^ b:Nat):Int)):=hc
 refine CB (H:=Hint.none) (enM G) Tryz.func286 rfl (by kernel_rfl) (by kernel_rfl) (nLb (by kernel_rfl)) ?_
 show awp _ _ _ _ _ (EE _ [.tmp 4] _)
 simp -implicitDefEqProofs only [BC,BA,A8,AY,BB,AO,AQ,AL,BD,AX,AC,AA,A7,AU,BX,BH,BG,AZ,BZ,BU,BF,BN,lMc,lMn,lAn,↓reduceIte,Nat.reduceEqDiff,oGs,bNf,enP]
 refine hc'.use ?_
 simp -implicitDefEqProofs only [BL,A8,CJ,AY,BB,AO,AQ,AL,BD,AX,AC,AA,A7,AZ,↓reduceIte,oGs,bNf]
 exact ⟨trivial,trivial⟩
end Go.Proofs.YtocilianjfhifaaGreatDoor.Wd
set_option linter.unusedSimpArgs false
set_option maxRecDepth 8000
namespace Go.Proofs.YtocilianjfhifaaGreatDoor.Xe
open Sm Bins Cov Wd Go.RowKit
def tr (b:Bool):Nat:=if b then 1 else 0
def sgW (op:Int) (a:Nat):Nat:=if op=4 then tr (a == 0) else if op=5 then 65535 - a else if op=6 then (65536 - a) % 65536 else UG a
def dbW (op:Int) (a b:Nat):Nat :=
 if op=7 then (a+b) % 65536 else if op=8 then (a+65536 - b) % 65536 else if op=9 then a * b % 65536 else if op=10 then a &&& b else if op=11 then a ||| b else if op=12 then a ^^^ b
 else if op=13 then YZ a (b:Nat) else if op=14 then WF a (b:Nat) else if op=15 then tr (a == b) else if op=16 then tr (!(a == b)) else if op=17 then tr (decide (a < b)) else if op=18 then tr (decide (a≤b))
 else if op=19 then tr (!(a == 0) && !(b == 0)) else if op=20 then tr (!(a == 0) || !(b == 0)) else tr ((a == 0) || !(b == 0))
theorem XJ (b:Bool):tr b < 65536:=by cases b <;> decide
theorem AV0 {op:Int} {a:Nat} (ha:a < 65536):sgW op a < 65536:=by
 unfold sgW
 by_cases h4:op=4
 ·rw [if_pos h4]; exact XJ _
 by_cases h5:op=5
 ·rw [if_neg h4,if_pos h5]; omega
 by_cases h6:op=6
 ·rw [if_neg h4,if_neg h5,if_pos h6]; exact Nat.mod_lt _ (by omega)
 ·rw [if_neg h4,if_neg h5,if_neg h6]
  have:=OU a 16
  unfold UG; omega
theorem AWO {op:Int} {a b:Nat} (ha:a < 65536) (hb:b < 65536):dbW op a b < 65536:=by
 unfold dbW
 by_cases h7:op=7
 ·rw [if_pos h7]; exact Nat.mod_lt _ (by omega)
 by_cases h8:op=8
 ·rw [if_neg h7,if_pos h8]; exact Nat.mod_lt _ (by omega)
 by_cases h9:op=9
 ·rw [if_neg h7,if_neg h8,if_pos h9]; exact Nat.mod_lt _ (by omega)
 by_cases h10:op=10
 ·rw [if_neg h7,if_neg h8,if_neg h9,if_pos h10]; exact Nat.lt_of_le_of_lt Nat.and_le_left ha
 by_cases h11:op=11
 ·rw [if_neg h7,if_neg h8,if_neg h9,if_neg h10,if_pos h11]; exact Nat.or_lt_two_pow (n:=16) (by omega) (by omega)
 by_cases h12:op=12
 ·rw [if_neg h7,if_neg h8,if_neg h9,if_neg h10,if_neg h11,if_pos h12]; exact Nat.xor_lt_two_pow (n:=16) (by omega) (by omega)
 by_cases h13:op=13
 ·rw [if_neg h7,if_neg h8,if_neg h9,if_neg h10,if_neg h11,if_neg h12,if_pos h13]; exact ALO
 by_cases h14:op=14
 ·rw [if_neg h7,if_neg h8,if_neg h9,if_neg h10,if_neg h11,if_neg h12,if_neg h13,if_pos h14]; exact ALN ha
 by_cases h15:op=15
 ·rw [if_neg h7,if_neg h8,if_neg h9,if_neg h10,if_neg h11,if_neg h12,if_neg h13,if_neg h14,if_pos h15]; exact XJ _
 by_cases h16:op=16
 ·rw [if_neg h7,if_neg h8,if_neg h9,if_neg h10,if_neg h11,if_neg h12,if_neg h13,if_neg h14,if_neg h15,if_pos h16]; exact XJ _
 by_cases h17:op=17
 ·rw [if_neg h7,if_neg h8,if_neg h9,if_neg h10,if_neg h11,if_neg h12,if_neg h13,if_neg h14,if_neg h15,if_neg h16,if_pos h17]; exact XJ _
 by_cases h18:op=18
 ·rw [if_neg h7,if_neg h8,if_neg h9,if_neg h10,if_neg h11,if_neg h12,if_neg h13,if_neg h14,if_neg h15,if_neg h16,if_neg h17,if_pos h18]; exact XJ _
 by_cases h19:op=19
 ·rw [if_neg h7,if_neg h8,if_neg h9,if_neg h10,if_neg h11,if_neg h12,if_neg h13,if_neg h14,if_neg h15,if_neg h16,if_neg h17,if_neg h18,if_pos h19]; exact XJ _
 by_cases h20:op=20
 ·rw [if_neg h7,if_neg h8,if_neg h9,if_neg h10,if_neg h11,if_neg h12,if_neg h13,if_neg h14,if_neg h15,if_neg h16,if_neg h17,if_neg h18,if_neg h19,if_pos h20]; exact XJ _
 ·rw [if_neg h7,if_neg h8,if_neg h9,if_neg h10,if_neg h11,if_neg h12,if_neg h13,if_neg h14,if_neg h15,if_neg h16,if_neg h17,if_neg h18,if_neg h19,if_neg h20]; exact XJ _
theorem eqc (a b:Nat):((a:Int) == (b:Int))=(a == b):=by
 rw [Bool.eq_iff_iff]; simp only [beq_iff_eq]; omega
theorem eqz (a:Nat):((a:Int) == 0)=(a == 0):=eqc a 0
theorem nec (a b:Nat):((a:Int) != (b:Int)) = !(a == b):=congrArg not (eqc a b)
theorem nez (a:Nat):((a:Int) != 0) = !(a == 0):=nec a 0
theorem ltc (a b:Nat):decide ((a:Int) < (b:Int))=decide (a < b):=by
 rw [Bool.eq_iff_iff]; simp only [decide_eq_true_eq]; omega
theorem lec (a b:Nat):decide ((a:Int)≤(b:Int))=decide (a≤b):=by
 rw [Bool.eq_iff_iff]; simp only [decide_eq_true_eq]; omega
theorem MI (G:Nat→AV) (b:Bool) (h:Hp):PCall (En G) 266 [.bool b] h (.int .i64 (tr b:Nat)):=by
 refine CB (H:=Hint.none) (enM G) Tryz.func266 rfl (by kernel_rfl) (by kernel_rfl) (nLb (by kernel_rfl)) ?_
 show awp _ _ _ _ _ (EE _ [.tmp 2] _)
 cases b
 all_goals
  simp -implicitDefEqProofs only [BC,BA,BO,BL,BI,A8,CP,CJ,C9,DU,AY,BB,AO,AQ,AL,BD,AX,AC,AA,A7,AU,BH,BG,AZ,BF,↓reduceIte,Nat.reduceEqDiff,oGs,bNf,enP]
  exact ⟨rfl,trivial⟩
theorem AHF (G:Nat→AV) (op:Int) (a:Nat) (ha:a < 65536) (h:Hp):PCall (En G) 239 [.int .i64 op,.int .i64 (a:Nat)] h (.int .i64 (sgW op a:Nat)):=by
 refine CB (H:=Hint.none) (enM G) Tryz.func239 rfl (by kernel_rfl) (by kernel_rfl) (nLb (by kernel_rfl)) ?_
 show awp _ _ _ _ _ (EE _ [.tmp 4] _)
 have hcase:op=4∨op=5∨op=6∨(op≠4∧op≠5∧op≠6):=by omega
 rcases hcase with rfl | rfl | rfl | ⟨n4,n5,n6⟩
 ·simp -implicitDefEqProofs only [BC,BQ,BA,BI,A8,C9,AY,BB,AO,AQ,AL,BD,AX,AC,AA,A7,AU,BX,BH,BG,AZ,BR,BZ,BU,AB,DY,BF,BN,lMc,lMn,lAn,↓reduceIte,Nat.reduceEqDiff,oGs,bNf,enP,Int.reduceBEq,eqz]
  refine (MI G _ h).use ?_
  simp -implicitDefEqProofs only [BL,A8,CP,D8,CJ,AY,BB,AO,AQ,AL,BD,AX,AC,AA,A7,AZ,↓reduceIte,oGs,bNf]
  exact ⟨rfl,trivial⟩
 ·simp -implicitDefEqProofs only [BC,BQ,BA,BI,A8,C9,DU,AY,BB,AO,AQ,AL,BD,AX,AC,AA,A7,AU,BX,BH,BG,AZ,BR,BZ,BU,AB,DY,BF,BN,lMc,lMn,lAn,↓reduceIte,Nat.reduceEqDiff,oGs,bNf,enP,Int.reduceBEq]
  refine (AYG G a ha h).use ?_
  simp -implicitDefEqProofs only [BL,A8,CP,D8,CJ,AY,BB,AO,AQ,AL,BD,AX,AC,AA,A7,AZ,↓reduceIte,oGs,bNf]
  exact ⟨rfl,trivial⟩
 ·simp -implicitDefEqProofs only [BC,BQ,BA,BI,A8,C9,DU,AY,BB,AO,AQ,AL,BD,AX,AC,AA,A7,AU,BX,BH,BG,AZ,BR,BZ,BU,AB,DY,BF,BN,lMc,lMn,lAn,↓reduceIte,Nat.reduceEqDiff,oGs,bNf,enP,Int.reduceBEq]
  refine (AX6 G a ha h).use ?_
  simp -implicitDefEqProofs only [BL,A8,CP,D8,CJ,AY,BB,AO,AQ,AL,BD,AX,AC,AA,A7,AZ,↓reduceIte,oGs,bNf]
  exact ⟨rfl,trivial⟩
 ·simp -implicitDefEqProofs only [BC,BQ,BA,BO,BI,A8,EF,DU,AY,BB,AO,AQ,AL,BD,AX,AC,AA,A7,AU,BX,BH,BG,AZ,BR,BZ,BU,AB,DY,BF,BN,lMc,lMn,lAn,↓reduceIte,Nat.reduceEqDiff,oGs,bNf,enP,beq_eq_false_iff_ne.2 n4,beq_eq_false_iff_ne.2 n5,beq_eq_false_iff_ne.2 n6]
  refine (ANI G a ha h).use ?_
  simp -implicitDefEqProofs only [BL,A8,CJ,AY,BB,AO,AQ,AL,BD,AX,AC,AA,A7,AZ,↓reduceIte,oGs,bNf]
  exact ⟨by unfold sgW; rw [if_neg n4,if_neg n5,if_neg n6],trivial⟩
set_option maxHeartbeats 4000000 in
theorem AIP (G:Nat→AV) (op:Int) (a b:Nat) (ha:a < 65536) (hb:b < 65536) (h:Hp):PCall (En G) 240 [.int .i64 op,.int .i64 (a:Nat),.int .i64 (b:Nat)] h (.int .i64 (dbW op a b:Nat)):=by
 refine CB (H:=Hint.none) (enM G) Tryz.func240 rfl (by kernel_rfl) (by kernel_rfl) (nLb (by kernel_rfl)) ?_
 show awp _ _ _ _ _ (EE _ [.tmp 6] _)
 have hcase:op=7∨op=8∨op=9∨op=10∨op=11∨op=12∨op=13∨op=14∨op=15∨op=16∨op=17∨op=18∨op=19∨op=20∨(op < 7∨20 < op):=by omega
 rcases hcase with rfl | rfl | rfl | rfl | rfl | rfl | rfl | rfl | rfl | rfl | rfl | rfl | rfl | rfl | hop
 ·simp -implicitDefEqProofs only [BC,BQ,BA,BI,A8,C9,AY,BB,AO,AQ,AL,BD,AX,AC,AA,A7,AU,BX,BH,BG,AZ,BR,BZ,BU,AB,DY,BF,BN,lMc,lMn,lAn,↓reduceIte,Nat.reduceEqDiff,oGs,bNf,enP,Int.reduceBEq]
  refine (AVI G a b ha hb h).use ?_
  simp -implicitDefEqProofs only [BL,A8,CP,D8,CJ,AY,BB,AO,AQ,AL,BD,AX,AC,AA,A7,AZ,↓reduceIte,oGs,bNf]
  exact ⟨rfl,trivial⟩
 ·simp -implicitDefEqProofs only [BC,BQ,BA,BI,A8,C9,DU,AY,BB,AO,AQ,AL,BD,AX,AC,AA,A7,AU,BX,BH,BG,AZ,BR,BZ,BU,AB,DY,BF,BN,lMc,lMn,lAn,↓reduceIte,Nat.reduceEqDiff,oGs,bNf,enP,Int.reduceBEq]
  refine (AXI G a b ha hb h).use ?_
  simp -implicitDefEqProofs only [BL,A8,CP,D8,CJ,AY,BB,AO,AQ,AL,BD,AX,AC,AA,A7,AZ,↓reduceIte,oGs,bNf]
  exact ⟨rfl,trivial⟩
 ·simp -implicitDefEqProofs only [BC,BQ,BA,BI,A8,C9,DU,AY,BB,AO,AQ,AL,BD,AX,AC,AA,A7,AU,BX,BH,BG,AZ,BR,BZ,BU,AB,DY,BF,BN,lMc,lMn,lAn,↓reduceIte,Nat.reduceEqDiff,oGs,bNf,enP,Int.reduceBEq]
  refine (AX8 G a b ha hb h).use ?_
  simp -implicitDefEqProofs only [BL,A8,CP,D8,CJ,AY,BB,AO,AQ,AL,BD,AX,AC,AA,A7,AZ,↓reduceIte,oGs,bNf]
  exact ⟨rfl,trivial⟩
 ·simp -implicitDefEqProofs only [BC,BQ,BA,BL,BI,A8,CP,D8,CJ,C9,DU,AY,BB,AO,AQ,AL,BD,AX,AC,AA,A7,AU,BH,BG,AZ,BR,AB,DY,BF,BN,↓reduceIte,Nat.reduceEqDiff,oGs,bNf,enP,Int.reduceBEq,AZJ a b ha hb]
  exact ⟨rfl,trivial⟩
 ·simp -implicitDefEqProofs only [BC,BQ,BA,BL,BI,A8,CP,D8,CJ,C9,DU,AY,BB,AO,AQ,AL,BD,AX,AC,AA,A7,AU,BH,BG,AZ,BR,AB,DY,BF,BN,↓reduceIte,Nat.reduceEqDiff,oGs,bNf,enP,Int.reduceBEq,A0B a b ha hb]
  exact ⟨rfl,trivial⟩
 ·simp -implicitDefEqProofs only [BC,BQ,BA,BL,BI,A8,CP,D8,CJ,C9,DU,AY,BB,AO,AQ,AL,BD,AX,AC,AA,A7,AU,BH,BG,AZ,BR,AB,DY,BF,BN,↓reduceIte,Nat.reduceEqDiff,oGs,bNf,enP,Int.reduceBEq,AXD a b ha hb]
  exact ⟨rfl,trivial⟩
 ·simp -implicitDefEqProofs only [BC,BQ,BA,BI,A8,C9,DU,AY,BB,AO,AQ,AL,BD,AX,AC,AA,A7,AU,BX,BH,BG,AZ,BR,BZ,BU,AB,DY,BF,BN,lMc,lMn,lAn,↓reduceIte,Nat.reduceEqDiff,oGs,bNf,enP,Int.reduceBEq]
  refine (AXT G a (b:Nat) ha h).use ?_
  simp -implicitDefEqProofs only [BL,A8,CP,D8,CJ,AY,BB,AO,AQ,AL,BD,AX,AC,AA,A7,AZ,↓reduceIte,oGs,bNf]
  exact ⟨rfl,trivial⟩
 ·simp -implicitDefEqProofs only [BC,BQ,BA,BI,A8,C9,DU,AY,BB,AO,AQ,AL,BD,AX,AC,AA,A7,AU,BX,BH,BG,AZ,BR,BZ,BU,AB,DY,BF,BN,lMc,lMn,lAn,↓reduceIte,Nat.reduceEqDiff,oGs,bNf,enP,Int.reduceBEq]
  refine (AXS G a (b:Nat) ha h).use ?_
  simp -implicitDefEqProofs only [BL,A8,CP,D8,CJ,AY,BB,AO,AQ,AL,BD,AX,AC,AA,A7,AZ,↓reduceIte,oGs,bNf]
  exact ⟨rfl,trivial⟩
 ·simp -implicitDefEqProofs only [BC,BQ,BA,BI,A8,C9,DU,AY,BB,AO,AQ,AL,BD,AX,AC,AA,A7,AU,BX,BH,BG,AZ,BR,BZ,BU,AB,DY,BF,BN,lMc,lMn,lAn,↓reduceIte,Nat.reduceEqDiff,oGs,bNf,enP,Int.reduceBEq,eqc,nec,ltc,lec]
  refine (MI G _ h).use ?_
  simp -implicitDefEqProofs only [BL,A8,CP,D8,CJ,AY,BB,AO,AQ,AL,BD,AX,AC,AA,A7,AZ,↓reduceIte,oGs,bNf]
  exact ⟨rfl,trivial⟩
 ·simp -implicitDefEqProofs only [BC,BQ,BA,BI,A8,C9,DU,AY,BB,AO,AQ,AL,BD,AX,AC,AA,A7,AU,BX,BH,BG,AZ,BR,BZ,BU,AB,DY,EJ,BF,BN,lMc,lMn,lAn,↓reduceIte,Nat.reduceEqDiff,oGs,bNf,enP,Int.reduceBEq,eqc,nec,ltc,lec]
  refine (MI G _ h).use ?_
  simp -implicitDefEqProofs only [BL,A8,CP,D8,CJ,AY,BB,AO,AQ,AL,BD,AX,AC,AA,A7,AZ,↓reduceIte,oGs,bNf]
  exact ⟨rfl,trivial⟩
 ·simp -implicitDefEqProofs only [BC,BQ,BA,BI,A8,C9,DU,AY,BB,AO,AQ,AL,BD,AX,AC,AA,A7,AU,BX,BH,BG,AZ,BR,BZ,BU,AB,DY,DF,BF,BN,lMc,lMn,lAn,↓reduceIte,Nat.reduceEqDiff,oGs,bNf,enP,Int.reduceBEq,eqc,nec,ltc,lec]
  refine (MI G _ h).use ?_
  simp -implicitDefEqProofs only [BL,A8,CP,D8,CJ,AY,BB,AO,AQ,AL,BD,AX,AC,AA,A7,AZ,↓reduceIte,oGs,bNf]
  exact ⟨rfl,trivial⟩
 ·simp -implicitDefEqProofs only [BC,BQ,BA,BI,A8,C9,DU,AY,BB,AO,AQ,AL,BD,AX,AC,AA,A7,AU,BX,BH,BG,AZ,BR,BZ,BU,AB,DY,IE,BF,BN,lMc,lMn,lAn,↓reduceIte,Nat.reduceEqDiff,oGs,bNf,enP,Int.reduceBEq,eqc,nec,ltc,lec]
  refine (MI G _ h).use ?_
  simp -implicitDefEqProofs only [BL,A8,CP,D8,CJ,AY,BB,AO,AQ,AL,BD,AX,AC,AA,A7,AZ,↓reduceIte,oGs,bNf]
  exact ⟨rfl,trivial⟩
 ·simp -implicitDefEqProofs only [BC,BQ,BA,BI,A8,C9,DU,AY,BB,BJ,BP,CO,AO,AQ,AL,BD,AX,AC,AA,A7,AU,BH,BG,AZ,BR,AB,DY,EJ,BF,BN,↓reduceIte,Nat.reduceEqDiff,oGs,bNf,enP,Int.reduceBEq,eqz,nez]
  cases h1:(a == 0) <;> cases h2:(b == 0)
  all_goals
   simp -implicitDefEqProofs only [AY,BJ,BP,CO,FY,H7,AO,AQ,AL,BD,AX,AC,AA,EQ,A7,AU,BX,BH,BM,BG,CQ,DN,DK,BR,BZ,BU,AB,EJ,BF,BN,lMc,lMn,lAn,↓reduceIte,Nat.reduceEqDiff,oGs,bNt,bNf,enP,h1,h2,nez]
   refine (MI G _ h).use ?_
   simp -implicitDefEqProofs only [BL,A8,CP,D8,CJ,AY,BB,AO,AQ,AL,BD,AX,AC,AA,A7,AZ,↓reduceIte,oGs,bNf]
   exact ⟨by unfold dbW; rw [h1,h2]; rfl,trivial⟩
 ·simp -implicitDefEqProofs only [BC,BQ,BA,BI,A8,C9,DU,AY,BB,BJ,BP,CO,AO,AQ,AL,BD,AX,AC,AA,A7,AU,BH,BG,AZ,BR,AB,DY,EJ,BF,BN,↓reduceIte,Nat.reduceEqDiff,oGs,bNf,enP,Int.reduceBEq,eqz,nez]
  cases h1:(a == 0) <;> cases h2:(b == 0)
  all_goals
   simp -implicitDefEqProofs only [AY,BJ,BP,CO,EK,FK,AO,AQ,AL,BD,AX,AC,AA,EQ,A7,AU,BX,BH,BM,BG,CQ,DN,DK,BR,BZ,BU,AB,EJ,BF,BN,lMc,lMn,lAn,↓reduceIte,Nat.reduceEqDiff,oGs,bNt,bNf,enP,h1,h2,nez]
   refine (MI G _ h).use ?_
   simp -implicitDefEqProofs only [BL,A8,CP,D8,CJ,AY,BB,AO,AQ,AL,BD,AX,AC,AA,A7,AZ,↓reduceIte,oGs,bNf]
   exact ⟨by unfold dbW; rw [h1,h2]; rfl,trivial⟩
 ·have hne : ∀ k:Int,7≤k→k≤20→(op == k)=false:=fun k _ _=>beq_eq_false_iff_ne.2 (by omega)
  have hd:dbW op a b=tr ((a == 0) || !(b == 0)):=by
   unfold dbW
   rw [if_neg (by omega : ¬ op=7),if_neg (by omega : ¬ op=8),if_neg (by omega : ¬ op=9),if_neg (by omega : ¬ op=10),if_neg (by omega : ¬ op=11),if_neg (by omega : ¬ op=12),if_neg (by omega : ¬ op=13),if_neg (by omega : ¬ op=14),if_neg (by omega : ¬ op=15),if_neg (by omega : ¬ op=16),if_neg (by omega : ¬ op=17),if_neg (by omega : ¬ op=18),if_neg (by omega : ¬ op=19),if_neg (by omega : ¬ op=20)]
  rw [hd]
  simp -implicitDefEqProofs only [BC,BQ,BA,BO,BI,A8,EF,DU,AY,BB,BJ,BP,CO,AO,AQ,AL,BD,AX,AC,AA,A7,AU,BH,BG,AZ,BR,AB,DY,BF,BN,↓reduceIte,Nat.reduceEqDiff,oGs,bNf,enP,hne 7 (by decide) (by decide),hne 8 (by decide) (by decide),hne 9 (by decide) (by decide),hne 10 (by decide) (by decide),hne 11 (by decide) (by decide),hne 12 (by decide) (by decide),hne 13 (by decide) (by decide),hne 14 (by decide) (by decide),hne 15 (by decide) (by decide),hne 16 (by decide) (by decide),hne 17 (by decide) (by decide),hne 18 (by decide) (by decide),hne 19 (by decide) (by decide),hne 20 (by decide) (by decide),eqz,nez]
  cases h1:(a == 0) <;> cases h2:(b == 0)
  all_goals
   simp -implicitDefEqProofs only [Bool.or_false,Bool.or_true,AY,BJ,BP,CO,EK,FK,AO,AQ,AL,BD,AX,AC,AA,EQ,A7,AU,BX,BH,BM,BG,CQ,DN,DK,BR,BZ,BU,AB,EJ,BF,BN,lMc,lMn,lAn,↓reduceIte,Nat.reduceEqDiff,oGs,bNt,bNf,enP,h1,h2,nez]
   refine (MI G _ h).use ?_
   simp -implicitDefEqProofs only [BL,A8,CJ,AY,BB,AO,AQ,AL,BD,AX,AC,AA,A7,AZ,↓reduceIte,oGs,bNf]
   exact ⟨by first | trivial | rfl,trivial⟩
theorem NR (G:Nat→AV) (b:Bool) (h:Hp):PCall (En G) 278 [.bool b] h (.int .i64 (tr b:Nat)):=by
 refine CB (H:=Hint.none) (enM G) Tryz.func278 rfl (by kernel_rfl) (by kernel_rfl) (nLb (by kernel_rfl)) ?_
 show awp _ _ _ _ _ (EE _ [.tmp 2] _)
 cases b
 all_goals
  simp -implicitDefEqProofs only [BC,BA,BO,BL,BI,A8,CP,CJ,C9,DU,AY,BB,AO,AQ,AL,BD,AX,AC,AA,A7,AU,BH,BG,AZ,BF,↓reduceIte,Nat.reduceEqDiff,oGs,bNf,enP]
  exact ⟨rfl,trivial⟩
theorem AJK (G:Nat→AV) (op:Int) (a:Nat) (ha:a < 65536) (h:Hp):PCall (En G) 251 [.int .i64 op,.int .i64 (a:Nat)] h (.int .i64 (sgW op a:Nat)):=by
 refine CB (H:=Hint.none) (enM G) Tryz.func251 rfl (by kernel_rfl) (by kernel_rfl) (nLb (by kernel_rfl)) ?_
 show awp _ _ _ _ _ (EE _ [.tmp 4] _)
 have hcase:op=4∨op=5∨op=6∨(op≠4∧op≠5∧op≠6):=by omega
 rcases hcase with rfl | rfl | rfl | ⟨n4,n5,n6⟩
 ·simp -implicitDefEqProofs only [BC,BQ,BA,BI,A8,C9,AY,BB,AO,AQ,AL,BD,AX,AC,AA,A7,AU,BX,BH,BG,AZ,BR,BZ,BU,AB,DY,BF,BN,lMc,lMn,lAn,↓reduceIte,Nat.reduceEqDiff,oGs,bNf,enP,Int.reduceBEq,eqz]
  refine (NR G _ h).use ?_
  simp -implicitDefEqProofs only [BL,A8,CP,D8,CJ,AY,BB,AO,AQ,AL,BD,AX,AC,AA,A7,AZ,↓reduceIte,oGs,bNf]
  exact ⟨rfl,trivial⟩
 ·simp -implicitDefEqProofs only [BC,BQ,BA,BI,A8,C9,DU,AY,BB,AO,AQ,AL,BD,AX,AC,AA,A7,AU,BX,BH,BG,AZ,BR,BZ,BU,AB,DY,BF,BN,lMc,lMn,lAn,↓reduceIte,Nat.reduceEqDiff,oGs,bNf,enP,Int.reduceBEq]
  refine (AYH G a ha h).use ?_
  simp -implicitDefEqProofs only [BL,A8,CP,D8,CJ,AY,BB,AO,AQ,AL,BD,AX,AC,AA,A7,AZ,↓reduceIte,oGs,bNf]
  exact ⟨rfl,trivial⟩
 ·simp -implicitDefEqProofs only [BC,BQ,BA,BI,A8,C9,DU,AY,BB,AO,AQ,AL,BD,AX,AC,AA,A7,AU,BX,BH,BG,AZ,BR,BZ,BU,AB,DY,BF,BN,lMc,lMn,lAn,↓reduceIte,Nat.reduceEqDiff,oGs,bNf,enP,Int.reduceBEq]
  refine (AX7 G a ha h).use ?_
  simp -implicitDefEqProofs only [BL,A8,CP,D8,CJ,AY,BB,AO,AQ,AL,BD,AX,AC,AA,A7,AZ,↓reduceIte,oGs,bNf]
  exact ⟨rfl,trivial⟩
 ·simp -implicitDefEqProofs only [BC,BQ,BA,BO,BI,A8,EF,DU,AY,BB,AO,AQ,AL,BD,AX,AC,AA,A7,AU,BX,BH,BG,AZ,BR,BZ,BU,AB,DY,BF,BN,lMc,lMn,lAn,↓reduceIte,Nat.reduceEqDiff,oGs,bNf,enP,beq_eq_false_iff_ne.2 n4,beq_eq_false_iff_ne.2 n5,beq_eq_false_iff_ne.2 n6]
  refine (AV6 G a ha h).use ?_
  simp -implicitDefEqProofs only [BL,A8,CJ,AY,BB,AO,AQ,AL,BD,AX,AC,AA,A7,AZ,↓reduceIte,oGs,bNf]
  exact ⟨by unfold sgW; rw [if_neg n4,if_neg n5,if_neg n6],trivial⟩
set_option maxHeartbeats 4000000 in
theorem AKJ (G:Nat→AV) (op:Int) (a b:Nat) (ha:a < 65536) (hb:b < 65536) (h:Hp):PCall (En G) 252 [.int .i64 op,.int .i64 (a:Nat),.int .i64 (b:Nat)] h (.int .i64 (dbW op a b:Nat)):=by
 refine CB (H:=Hint.none) (enM G) Tryz.func252 rfl (by kernel_rfl) (by kernel_rfl) (nLb (by kernel_rfl)) ?_
 show awp _ _ _ _ _ (EE _ [.tmp 6] _)
 have hcase:op=7∨op=8∨op=9∨op=10∨op=11∨op=12∨op=13∨op=14∨op=15∨op=16∨op=17∨op=18∨op=19∨op=20∨(op < 7∨20 < op):=by omega
 rcases hcase with rfl | rfl | rfl | rfl | rfl | rfl | rfl | rfl | rfl | rfl | rfl | rfl | rfl | rfl | hop
 ·simp -implicitDefEqProofs only [BC,BQ,BA,BI,A8,C9,AY,BB,AO,AQ,AL,BD,AX,AC,AA,A7,AU,BX,BH,BG,AZ,BR,BZ,BU,AB,DY,BF,BN,lMc,lMn,lAn,↓reduceIte,Nat.reduceEqDiff,oGs,bNf,enP,Int.reduceBEq]
  refine (AVJ G a b ha hb h).use ?_
  simp -implicitDefEqProofs only [BL,A8,CP,D8,CJ,AY,BB,AO,AQ,AL,BD,AX,AC,AA,A7,AZ,↓reduceIte,oGs,bNf]
  exact ⟨rfl,trivial⟩
 ·simp -implicitDefEqProofs only [BC,BQ,BA,BI,A8,C9,DU,AY,BB,AO,AQ,AL,BD,AX,AC,AA,A7,AU,BX,BH,BG,AZ,BR,BZ,BU,AB,DY,BF,BN,lMc,lMn,lAn,↓reduceIte,Nat.reduceEqDiff,oGs,bNf,enP,Int.reduceBEq]
  refine (AXJ G a b ha hb h).use ?_
  simp -implicitDefEqProofs only [BL,A8,CP,D8,CJ,AY,BB,AO,AQ,AL,BD,AX,AC,AA,A7,AZ,↓reduceIte,oGs,bNf]
  exact ⟨rfl,trivial⟩
 ·simp -implicitDefEqProofs only [BC,BQ,BA,BI,A8,C9,DU,AY,BB,AO,AQ,AL,BD,AX,AC,AA,A7,AU,BX,BH,BG,AZ,BR,BZ,BU,AB,DY,BF,BN,lMc,lMn,lAn,↓reduceIte,Nat.reduceEqDiff,oGs,bNf,enP,Int.reduceBEq]
  refine (AX9 G a b ha hb h).use ?_
  simp -implicitDefEqProofs only [BL,A8,CP,D8,CJ,AY,BB,AO,AQ,AL,BD,AX,AC,AA,A7,AZ,↓reduceIte,oGs,bNf]
  exact ⟨rfl,trivial⟩
 ·simp -implicitDefEqProofs only [BC,BQ,BA,BI,A8,C9,DU,AY,BB,AO,AQ,AL,BD,AX,AC,AA,A7,AU,BX,BH,BG,AZ,BR,BZ,BU,AB,DY,BF,BN,lMc,lMn,lAn,↓reduceIte,Nat.reduceEqDiff,oGs,bNf,enP,Int.reduceBEq]
  refine (AZK G a b ha hb h).use ?_
  simp -implicitDefEqProofs only [BL,A8,CP,D8,CJ,AY,BB,AO,AQ,AL,BD,AX,AC,AA,A7,AZ,↓reduceIte,oGs,bNf]
  exact ⟨rfl,trivial⟩
 ·simp -implicitDefEqProofs only [BC,BQ,BA,BI,A8,C9,DU,AY,BB,AO,AQ,AL,BD,AX,AC,AA,A7,AU,BX,BH,BG,AZ,BR,BZ,BU,AB,DY,BF,BN,lMc,lMn,lAn,↓reduceIte,Nat.reduceEqDiff,oGs,bNf,enP,Int.reduceBEq]
  refine (A0C G a b ha hb h).use ?_
  simp -implicitDefEqProofs only [BL,A8,CP,D8,CJ,AY,BB,AO,AQ,AL,BD,AX,AC,AA,A7,AZ,↓reduceIte,oGs,bNf]
  exact ⟨rfl,trivial⟩
 ·simp -implicitDefEqProofs only [BC,BQ,BA,BI,A8,C9,DU,AY,BB,AO,AQ,AL,BD,AX,AC,AA,A7,AU,BX,BH,BG,AZ,BR,BZ,BU,AB,DY,BF,BN,lMc,lMn,lAn,↓reduceIte,Nat.reduceEqDiff,oGs,bNf,enP,Int.reduceBEq]
  refine (AXE G a b ha hb h).use ?_
  simp -implicitDefEqProofs only [BL,A8,CP,D8,CJ,AY,BB,AO,AQ,AL,BD,AX,AC,AA,A7,AZ,↓reduceIte,oGs,bNf]
  exact ⟨rfl,trivial⟩
 ·simp -implicitDefEqProofs only [BC,BQ,BA,BI,A8,C9,DU,AY,BB,AO,AQ,AL,BD,AX,AC,AA,A7,AU,BX,BH,BG,AZ,BR,BZ,BU,AB,DY,BF,BN,lMc,lMn,lAn,↓reduceIte,Nat.reduceEqDiff,oGs,bNf,enP,Int.reduceBEq]
  refine (AXU G a (b:Nat) ha h).use ?_
  simp -implicitDefEqProofs only [BL,A8,CP,D8,CJ,AY,BB,AO,AQ,AL,BD,AX,AC,AA,A7,AZ,↓reduceIte,oGs,bNf]
  exact ⟨rfl,trivial⟩
 ·simp -implicitDefEqProofs only [BC,BQ,BA,BI,A8,C9,DU,AY,BB,AO,AQ,AL,BD,AX,AC,AA,A7,AU,BX,BH,BG,AZ,BR,BZ,BU,AB,DY,BF,BN,lMc,lMn,lAn,↓reduceIte,Nat.reduceEqDiff,oGs,bNf,enP,Int.reduceBEq]
  refine (AU6 G a (b:Nat) ha h).use ?_
  simp -implicitDefEqProofs only [BL,A8,CP,D8,CJ,AY,BB,AO,AQ,AL,BD,AX,AC,AA,A7,AZ,↓reduceIte,oGs,bNf]
  exact ⟨rfl,trivial⟩
 ·simp -implicitDefEqProofs only [BC,BQ,BA,BI,A8,C9,DU,AY,BB,AO,AQ,AL,BD,AX,AC,AA,A7,AU,BX,BH,BG,AZ,BR,BZ,BU,AB,DY,BF,BN,lMc,lMn,lAn,↓reduceIte,Nat.reduceEqDiff,oGs,bNf,enP,Int.reduceBEq,eqc,nec,ltc,lec]
  refine (NR G _ h).use ?_
  simp -implicitDefEqProofs only [BL,A8,CP,D8,CJ,AY,BB,AO,AQ,AL,BD,AX,AC,AA,A7,AZ,↓reduceIte,oGs,bNf]
  exact ⟨rfl,trivial⟩
 ·simp -implicitDefEqProofs only [BC,BQ,BA,BI,A8,C9,DU,AY,BB,AO,AQ,AL,BD,AX,AC,AA,A7,AU,BX,BH,BG,AZ,BR,BZ,BU,AB,DY,EJ,BF,BN,lMc,lMn,lAn,↓reduceIte,Nat.reduceEqDiff,oGs,bNf,enP,Int.reduceBEq,eqc,nec,ltc,lec]
  refine (NR G _ h).use ?_
  simp -implicitDefEqProofs only [BL,A8,CP,D8,CJ,AY,BB,AO,AQ,AL,BD,AX,AC,AA,A7,AZ,↓reduceIte,oGs,bNf]
  exact ⟨rfl,trivial⟩
 ·simp -implicitDefEqProofs only [BC,BQ,BA,BI,A8,C9,DU,AY,BB,AO,AQ,AL,BD,AX,AC,AA,A7,AU,BX,BH,BG,AZ,BR,BZ,BU,AB,DY,DF,BF,BN,lMc,lMn,lAn,↓reduceIte,Nat.reduceEqDiff,oGs,bNf,enP,Int.reduceBEq,eqc,nec,ltc,lec]
  refine (NR G _ h).use ?_
  simp -implicitDefEqProofs only [BL,A8,CP,D8,CJ,AY,BB,AO,AQ,AL,BD,AX,AC,AA,A7,AZ,↓reduceIte,oGs,bNf]
  exact ⟨rfl,trivial⟩
 ·simp -implicitDefEqProofs only [BC,BQ,BA,BI,A8,C9,DU,AY,BB,AO,AQ,AL,BD,AX,AC,AA,A7,AU,BX,BH,BG,AZ,BR,BZ,BU,AB,DY,IE,BF,BN,lMc,lMn,lAn,↓reduceIte,Nat.reduceEqDiff,oGs,bNf,enP,Int.reduceBEq,eqc,nec,ltc,lec]
  refine (NR G _ h).use ?_
  simp -implicitDefEqProofs only [BL,A8,CP,D8,CJ,AY,BB,AO,AQ,AL,BD,AX,AC,AA,A7,AZ,↓reduceIte,oGs,bNf]
  exact ⟨rfl,trivial⟩
 ·simp -implicitDefEqProofs only [BC,BQ,BA,BI,A8,C9,DU,AY,BB,BJ,BP,CO,AO,AQ,AL,BD,AX,AC,AA,A7,AU,BH,BG,AZ,BR,AB,DY,EJ,BF,BN,↓reduceIte,Nat.reduceEqDiff,oGs,bNf,enP,Int.reduceBEq,eqz,nez]
  cases h1:(a == 0) <;> cases h2:(b == 0)
  all_goals
   simp -implicitDefEqProofs only [AY,BJ,BP,CO,FY,H7,AO,AQ,AL,BD,AX,AC,AA,EQ,A7,AU,BX,BH,BM,BG,CQ,DN,DK,BR,BZ,BU,AB,EJ,BF,BN,lMc,lMn,lAn,↓reduceIte,Nat.reduceEqDiff,oGs,bNt,bNf,enP,h1,h2,nez]
   refine (NR G _ h).use ?_
   simp -implicitDefEqProofs only [BL,A8,CP,D8,CJ,AY,BB,AO,AQ,AL,BD,AX,AC,AA,A7,AZ,↓reduceIte,oGs,bNf]
   exact ⟨by unfold dbW; rw [h1,h2]; rfl,trivial⟩
 ·simp -implicitDefEqProofs only [BC,BQ,BA,BI,A8,C9,DU,AY,BB,BJ,BP,CO,AO,AQ,AL,BD,AX,AC,AA,A7,AU,BH,BG,AZ,BR,AB,DY,EJ,BF,BN,↓reduceIte,Nat.reduceEqDiff,oGs,bNf,enP,Int.reduceBEq,eqz,nez]
  cases h1:(a == 0) <;> cases h2:(b == 0)
  all_goals
   simp -implicitDefEqProofs only [AY,BJ,BP,CO,EK,FK,AO,AQ,AL,BD,AX,AC,AA,EQ,A7,AU,BX,BH,BM,BG,CQ,DN,DK,BR,BZ,BU,AB,EJ,BF,BN,lMc,lMn,lAn,↓reduceIte,Nat.reduceEqDiff,oGs,bNt,bNf,enP,h1,h2,nez]
   refine (NR G _ h).use ?_
   simp -implicitDefEqProofs only [BL,A8,CP,D8,CJ,AY,BB,AO,AQ,AL,BD,AX,AC,AA,A7,AZ,↓reduceIte,oGs,bNf]
   exact ⟨by unfold dbW; rw [h1,h2]; rfl,trivial⟩
 ·have hne : ∀ k:Int,7≤k→k≤20→(op == k)=false:=fun k _ _=>beq_eq_false_iff_ne.2 (by omega)
  have hd:dbW op a b=tr ((a == 0) || !(b == 0)):=by
   unfold dbW
   rw [if_neg (by omega : ¬ op=7),if_neg (by omega : ¬ op=8),if_neg (by omega : ¬ op=9),if_neg (by omega : ¬ op=10),if_neg (by omega : ¬ op=11),if_neg (by omega : ¬ op=12),if_neg (by omega : ¬ op=13),if_neg (by omega : ¬ op=14),if_neg (by omega : ¬ op=15),if_neg (by omega : ¬ op=16),if_neg (by omega : ¬ op=17),if_neg (by omega : ¬ op=18),if_neg (by omega : ¬ op=19),if_neg (by omega : ¬ op=20)]
  rw [hd]
  simp -implicitDefEqProofs only [BC,BQ,BA,BO,BI,A8,EF,DU,AY,BB,BJ,BP,CO,AO,AQ,AL,BD,AX,AC,AA,A7,AU,BH,BG,AZ,BR,AB,DY,BF,BN,↓reduceIte,Nat.reduceEqDiff,oGs,bNf,enP,hne 7 (by decide) (by decide),hne 8 (by decide) (by decide),hne 9 (by decide) (by decide),hne 10 (by decide) (by decide),hne 11 (by decide) (by decide),hne 12 (by decide) (by decide),hne 13 (by decide) (by decide),hne 14 (by decide) (by decide),hne 15 (by decide) (by decide),hne 16 (by decide) (by decide),hne 17 (by decide) (by decide),hne 18 (by decide) (by decide),hne 19 (by decide) (by decide),hne 20 (by decide) (by decide),eqz,nez]
  cases h1:(a == 0) <;> cases h2:(b == 0)
  all_goals
   simp -implicitDefEqProofs only [Bool.or_false,Bool.or_true,AY,BJ,BP,CO,EK,FK,AO,AQ,AL,BD,AX,AC,AA,EQ,A7,AU,BX,BH,BM,BG,CQ,DN,DK,BR,BZ,BU,AB,EJ,BF,BN,lMc,lMn,lAn,↓reduceIte,Nat.reduceEqDiff,oGs,bNt,bNf,enP,h1,h2,nez]
   refine (NR G _ h).use ?_
   simp -implicitDefEqProofs only [BL,A8,CJ,AY,BB,AO,AQ,AL,BD,AX,AC,AA,A7,AZ,↓reduceIte,oGs,bNf]
   exact ⟨by first | trivial | rfl,trivial⟩
end Go.Proofs.YtocilianjfhifaaGreatDoor.Xe
