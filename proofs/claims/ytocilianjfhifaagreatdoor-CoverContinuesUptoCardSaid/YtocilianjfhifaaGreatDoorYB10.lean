/- Part 10 of the proof (H1, H2, H3, X1, X2, X3, X4, X5); no condition. -/
import Derived.Test.YtocilianjfhifaaGreatDoorYB9
set_option linter.unusedVariables false
set_option linter.unusedSimpArgs false
set_option maxRecDepth 8000
namespace Go.Proofs.YtocilianjfhifaaGreatDoor.Bins
open Sm
instance:Inhabited Rs:=⟨⟨.nil,[]⟩⟩
theorem ALH (G:Nat→AV) (r:Rng) (b:Nat) (v:Int) (h:Hp) (hv:DL Tryz.prog h 3 (.ptr b 0 0)=some (.int .i64 v)) :
  PCall (En G) 275 [.agg (encR r),.ptr b 0 0] h (.bool (decide (r.lo≤v) && decide (v≤r.hi))):=by
 refine ACalls.pure0 rfl ?_
 refine CE (H:=Hint.none) (enM G) Tryz.func275 rfl (by kernel_rfl) (by kernel_rfl) (nLb (by kernel_rfl)) ?_
 show awp _ _ _ _ _ (D9 _ [.tmp 3] _)
 simp -implicitDefEqProofs only [BC,BA,A8,AY,BB,BH,BN,CO,AO,AQ,AL,BD,AX,AC,AA,AZ,AU,BJ,BG,A7,FX,BQ,BU,BM,BX,AB,IV,BF,BO,↓reduceIte,Nat.reduceEqDiff,Nat.add_zero,oGs,bNf,enP,ADJ,bxR,DJ ag3,AFM hv,AF8,AF7]
 refine GU (fun ha => ?_) (fun ha => ?_)
 ·simp -implicitDefEqProofs only [BK,A8,CP,AY,BB,BH,BN,CO,FV,AO,AQ,AL,BD,AX,AC,AA,AZ,AU,BJ,A7,CQ,DR,BQ,BU,BM,AB,IV,BF,BO,↓reduceIte,Nat.reduceEqDiff,Nat.zero_add,oGs,bNf,enP,ADI,bxR,DJ ag3,AFM hv,AF8,AF7,ha]
  exact ⟨by simp,_,rfl⟩
 ·simp -implicitDefEqProofs only [BK,A8,CP,AY,BB,BH,BN,CO,G5,AO,AQ,AL,BD,AX,AC,AA,EJ,AZ,AU,BJ,A7,CQ,DN,↓reduceIte,Nat.reduceEqDiff,oGs,bNf,ha]
  exact ⟨by simp,_,rfl⟩
theorem indexFunc (G:Nat→AV) (xs:List Rng) (m:SM) (fid:FuncId) (caps:List AV) (p:Rng→Bool) (h:Hp) (hl:xs.length≤1099511627776)
  (hf : ∀ r,PCall (En G) fid (.agg (encR r) :: caps) h (.bool (p r))) :
  PCall (En G) 300 [.sl m 2 (xs.map encR),.fn (.func fid) [] caps] h (.int .i64 (match xs.findIdx? p with | some i=>(i:Int) | none => -1)):=by
 refine CE (H:=Hint.none) (enM G) Tryz.func300 rfl (by kernel_rfl) (by kernel_rfl) (nLb (by kernel_rfl)) ?_
 show awp _ _ _ _ _ (D9 _ [.tmp 4] _)
 simp -implicitDefEqProofs only [BC,BV,BA,A8,AY,BB,AO,AQ,AL,BD,AX,AC,AA,AZ,AU,BI,BG,A7,D8,AB,BF,↓reduceIte,Nat.reduceEqDiff,oGs,bNf,enP,XN,lLm]
 refine DY (fun n F H => ∃ k,n+k=xs.length∧F 0 = .sl m 2 (xs.map encR)∧F 1 = .fn (.func fid) [] caps∧F 7 = .int .i64 xs.length∧F 8 = .int .i64 (k:Nat)∧H=h∧(xs.take k).all (fun r => !p r)=true) xs.length ⟨0,by simp,rfl,rfl,rfl,rfl,rfl,rfl⟩ ?_
 rintro n F H ⟨k,hk,f0,f1,f7,f8,rfl,hin⟩
 simp -implicitDefEqProofs only [BC,BA,BL,A8,AY,BB,AO,AQ,AL,BD,AX,AC,AA,AZ,BU,AB,DT,↓reduceIte,oGs,bNf,enP,f0,f1,f7,f8,lLm]
 refine DC (fun hc => ?_) (fun hc => ?_)
 ·have hc':k < xs.length:=by simpa using hc
  simp -implicitDefEqProofs only [BC,BV,BA,BR,A8,AY,BB,AO,AQ,AL,BD,AX,AC,AA,AZ,BG,A7,BQ,CV,CG,BP,AB,lMc,lMn,List.nil_append,List.cons_append,↓reduceIte,Nat.reduceEqDiff,oGs,bNf,enP,ATJ,f0,f1,f7,f8,EF hc',FK ATT AJB Z5 hc']
  refine (hf _).use ?_
  simp -implicitDefEqProofs only [BL,A8,BB,AC,AA,AZ,↓reduceIte]
  refine DC (fun hb => ?_) (fun hb => ?_)
  ·simp -implicitDefEqProofs only [BC,BA,BK,A8,CX,ED,FY,CP,AY,BB,AO,AQ,AL,BD,AX,AC,AA,AZ,BG,A7,↓reduceIte,Nat.reduceEqDiff,oGs,bNf]
   refine ⟨?_,trivial⟩
   rw [List.findIdx?_eq_some_iff_getElem.2 ⟨hc',hb,fun j hj=>by
    rw [List.all_eq_true] at hin
    have:=hin xs[j] (by rw [List.mem_take_iff_getElem]; exact ⟨j,by omega,rfl⟩)
    simpa using this⟩]
  ·simp -implicitDefEqProofs only [BA,BR,A8,EP,FC,AY,BB,AO,AQ,AL,BD,AX,AC,AA,AZ,AU,BI,BG,BU,AB,DV,↓reduceIte,Nat.reduceEqDiff,oGs,bNf,enP,f8,wrap_succ (show k < 9223372036854775807 by omega)]
   refine ⟨n - 1,by omega,k+1,by omega,f0,f1,f7,rfl,trivial,?_⟩
   rw [List.take_succ_eq_append_getElem hc',List.all_append,hin]
   simp only [List.all_cons,List.all_nil,hb]; rfl
 ·have hc' : ¬ k < xs.length:=by simpa using hc
  simp -implicitDefEqProofs only [BC,BA,BK,DW,A8,ER,FN,FM,CP,AY,BB,AO,AQ,AL,BD,AX,AC,AA,AU,BI,A7,↓reduceIte,oGs,bNf]
  refine ⟨?_,trivial⟩
  rw [List.take_of_length_le (by omega)] at hin
  rw [List.findIdx?_eq_none_iff.2 (by simpa using hin)]
theorem ADU (G:Nat→AV) (xs:List Rng) (m:SM) (fid:FuncId) (caps:List AV) (p:Rng→Bool) (h:Hp) (hl:xs.length≤1099511627776)
  (hf : ∀ r,PCall (En G) fid (.agg (encR r) :: caps) h (.bool (p r))) :
  PCall (En G) 274 [.sl m 2 (xs.map encR),.fn (.func fid) [] caps] h (.bool (xs.any p)):=by
 refine CE (H:=Hint.none) (enM G) Tryz.func274 rfl (by kernel_rfl) (by kernel_rfl) (nLb (by kernel_rfl)) ?_
 show awp _ _ _ _ _ (D9 _ [.tmp 4] _)
 simp -implicitDefEqProofs only [BC,BA,A8,AY,BB,AO,AQ,AL,BD,AX,AC,AA,AZ,AU,CB,BJ,BG,A7,CG,BP,BF,BO,lMc,lMn,lAn,↓reduceIte,Nat.reduceEqDiff,oGs,bNf,enP]
 refine (indexFunc G xs m fid caps p h hl hf).use ?_
 simp -implicitDefEqProofs only [BK,A8,CP,AY,BB,AO,AQ,AL,BD,AX,AC,AA,AZ,AU,BI,A7,BU,AB,G6,↓reduceIte,oGs,bNf,enP]
 refine ⟨?_,trivial⟩
 cases hx:xs.findIdx? p with
 | some i =>
   obtain ⟨h1,h2,_⟩:=List.findIdx?_eq_some_iff_getElem.1 hx
   have:xs.any p=true:=List.any_eq_true.2 ⟨xs[i],by simp,h2⟩
   simp [this]
 | none =>
   have:xs.any p=false:=by
    rw [List.findIdx?_eq_none_iff] at hx
    rw [List.any_eq_false]; intro x hx2; simp [hx x hx2]
   simp [this]
theorem inside_prog (G:Nat→AV) (xs:List Rng) (m:SM) (v:Int) (h:Hp) (hl:xs.length≤1099511627776) :
  PCall (En G) 242 [.sl m 2 (xs.map encR),.int .i64 v] h (.bool (inside xs v)):=by
 refine ACalls.pure0 rfl ?_
 refine CE (H:=Hint.none) (enM G) Tryz.func242 rfl (by kernel_rfl) (by kernel_rfl) (nLb (by kernel_rfl)) ?_
 show awp _ _ _ _ _ (D9 _ [.tmp 4] _)
 simp -implicitDefEqProofs only [ASM,BC,BA,A8,AY,BB,AO,AQ,AL,BD,AX,AC,AA,AZ,AU,CB,BJ,BG,A7,FX,G8,CG,BP,BX,BF,BO,lMc,lMn,lAn,↓reduceIte,Nat.reduceEqDiff,oGs,bNf,enP]
 refine (ADU G xs m 275 _ _ _ hl fun r=>ALH G r h.length v _ (DJ ag3)).use ?_
 simp -implicitDefEqProofs only [BK,A8,CP,AY,BB,AO,AQ,AL,BD,AX,AC,AA,AZ,A7,↓reduceIte,oGs,bNf]
 exact ⟨rfl,_,rfl⟩
theorem ADV (G:Nat→AV) (xs:List Int) (m:SM) (h:Hp) (hl:xs.length≤16777216) :
  ACalls (En G) 100 [.sl m 1 (xs.map encI)] h (AO8 1 (xs.map encI) h):=by
 refine ACalls.of_rep (cok _ _ (by kernel_rfl)) fun ⟨g,cargs,ha⟩ => ?_
 refine CE (H:=Hint.none) (enM G) Tryz.func100 rfl (by kernel_rfl) (by kernel_rfl) (nLb (by kernel_rfl)) ?_
 show awp _ _ _ _ _ (D9 _ [.tmp 2] _)
 simp -implicitDefEqProofs only [BC,BA,BL,A8,AY,BB,AO,AQ,AL,BD,AX,AC,AA,AZ,AU,JS,BG,A7,BU,AB,BF,↓reduceIte,Nat.reduceEqDiff,oGs,bNf,enP,AWA]
 refine DC (fun hc => ?_) (fun hc => ?_)
 ·have hm:m = .nil:=by simpa using hc
  subst hm
  simp -implicitDefEqProofs only [BC,BA,BK,A8,CX,CP,AY,BB,AO,AQ,AL,BD,AX,AC,AA,AU,JS,A7,↓reduceIte,oGs,bNf,decide_true]
  exact .inl ⟨AHS ha (i:=0) rfl,⟨_,rfl⟩,rfl⟩
 ·simp -implicitDefEqProofs only [FI,BC,BA,BR,A8,AY,AO,AQ,AL,BD,AX,AC,AA,AZ,BG,EE,H9,BX,BF,↓reduceIte,Nat.reduceEqDiff,oGs,bNf,enP,APD]
  rcases Classical.em (xs = []) with hx | hx
  ·subst hx
   simp -implicitDefEqProofs only [BK,A8,CP,AY,BB,AO,AQ,AL,BD,AX,AC,AA,AZ,A7,BX,lMn,↓reduceIte,oGs,bNf,APO UN sz3 (.inr rfl)]
   exact .inr (.inl ⟨rfl,rfl,rfl⟩)
  ·have hr:room (([]:List (List AV)).length+(xs.map encI).length) 8:=IR (by simpa using hl) (by omega)
   have hne:xs.map encI≠[]:=by simpa using hx
   simp -implicitDefEqProofs only [BK,A8,CP,AY,BB,AO,AQ,AL,BD,AX,AC,AA,AZ,A7,BX,List.nil_append,↓reduceIte,oGs,bNf,SN UN sz3 YP WV (JR h m 1 (xs.map encI)) hne hr]
   exact .inr (.inr ⟨by simpa using hx,by simp,by simp⟩)
def setAt (b:Bin) (i:Nat):List Rng:=((sets b)[i]?.getD default).l
def YU (last:List Int) (n:Nat) (v:Int) (i:Nat):Int:=if i+1 < n then last[last.length+1 - n+i]?.getD 0 else v
def AH5 (b:Bin) (last:List Int) (v:Int) (k:Nat):Bool:=(List.range k).all fun i=>inside (setAt b i) (YU last (sets b).length v i)
def hit (b:Bin) (last:List Int) (v:Int):Bool:=decide (IP b=0) && decide ((sets b).length≤last.length+1) && AH5 b last v (sets b).length
theorem ALO (b:Bin) (last:List Int) (v:Int) (k:Nat):AH5 b last v (k+1)=(AH5 b last v k && inside (setAt b k) (YU last (sets b).length v k)):=by
 unfold AH5; rw [List.range_succ,List.all_append,List.all_cons,List.all_nil,Bool.and_true]
theorem ARW {b:Bin} {last:List Int} {v:Int} {k n:Nat} (hk:k < n) (h:inside (setAt b k) (YU last (sets b).length v k)=false):AH5 b last v n=false:=by
 unfold AH5; rw [List.all_eq_false]; exact ⟨k,by simpa using hk,by simp [h]⟩
theorem AG7 {b:Bin} (h:IP b=0):1≤(sets b).length:=by
 unfold IP at h
 split at h
 ·split at h
  ·cases h
  ·rename_i hr
   unfold sets
   split
   ·simp
   ·rename_i hz
    simp only [NK,Bool.not_eq_true,Bool.or_eq_false_iff] at hr
    have:=hr.1.1.1.2
    have hz':decide ((b.ranges.l.length:Int) > 0)=false:=decide_eq_false (by omega)
    rw [hz'] at this
    simp at this
    rcases hs:b.steps with _ | ⟨x,l⟩
    ·rw [hs] at this; simp at this
    ·simp
 ·cases h
theorem AN9 {xs:List Int} {i:Nat} (h:i < xs.length):(xs.map encI)[i]? = some [.int .i64 xs[i]]:=by simp [h,encI]
theorem AIN (h:Hp) (v:Int):EN Tryz.prog false h 57 1 [(0,.int .i64 v)]=some (.sl .full 1 [[.int .i64 v]],h):=by kernel_rfl
def vals (last:List Int) (n:Nat) (v:Int):List Int:=last.drop (last.length+1 - n) ++ [v]
theorem AEI {last:List Int} {n:Nat} {v:Int} (h1:1≤n) (h2:n≤last.length+1):(vals last n v).length=n:=by simp [vals]; omega
theorem AMS {last:List Int} {n:Nat} {v:Int} {i:Nat} (h1:1≤n) (h2:n≤last.length+1) (hi:i < (vals last n v).length):(vals last n v)[i]=YU last n v i:=by
 have hl:=AEI (v:=v) h1 h2
 unfold vals YU at *
 rw [List.getElem_append]
 split
 ·rename_i h
  have h':i < last.length - (last.length+1 - n):=by simpa using h
  rw [if_pos (by omega),List.getElem_drop,List.getElem?_eq_getElem (by omega)]
  rfl
 ·rename_i h
  have h' : ¬ i < last.length - (last.length+1 - n):=by simpa using h
  rw [if_neg (by omega)]
  simp
theorem AOC (G:Nat→AV) (hG:KwG G) (b:Bin) (hb:BinOk b) (last:List Int) (m:SM) (v:Int) (h:Hp) (hl:last.length≤8388608) :
  PCall (En G) 241 [.agg (F6 b),.sl m 1 (last.map encI),.int .i64 v] h (.bool (hit b last v)):=by
 refine ACalls.pure0 rfl ?_
 refine CE (H:=Hint.none) (enM G) Tryz.func241 rfl (by kernel_rfl) (by kernel_rfl) (nLb (by kernel_rfl)) ?_
 show awp _ _ _ _ _ (D9 _ [.tmp 6] _)
 simp -implicitDefEqProofs only [BC,BA,A8,AY,BB,AO,AQ,AL,BD,AX,AC,AA,AZ,AU,CB,BJ,A7,FX,BQ,CG,BP,BX,AB,BF,lMc,lMn,lAn,↓reduceIte,Nat.reduceEqDiff,oGs,bNf,enP,bxB,ldB]
 refine (YT G hG b hb _).use ?_
 simp -implicitDefEqProofs only [BL,A8,AY,BB,AO,AQ,AL,BD,AX,AC,AA,AZ,AU,BI,BU,AB,EQ,↓reduceIte,oGs,bNf,enP]
 refine DC (fun hv => ?_) (fun hv => ?_)
 ·simp -implicitDefEqProofs only [BC,BA,BK,A8,CX,CP,AY,BB,AO,AQ,AL,BD,AX,AC,AA,AU,BJ,A7,↓reduceIte,oGs,bNf]
  refine ⟨?_,_,rfl⟩
  have:IP b≠0:=by simpa using hv
  simp [hit,this]
 have hv0:IP b=0:=by simpa using hv
 have h1:=AG7 hv0
 have hnum:=hb.num
 simp -implicitDefEqProofs only [BC,BA,BR,A8,AY,AO,AQ,AL,BD,AX,AC,AA,AZ,CB,BQ,CG,BP,AB,lMc,lMn,lAn,↓reduceIte,Nat.reduceEqDiff,oGs,bNf,enP,ldB]
 refine (ABK G b _).use ?_
 have hw:IntKind.i64.wrap (((sets b).length:Int) - 1)=(((sets b).length - 1:Nat):Int):=by rw [wrap_i64 (by omega) (by omega)]; omega
 simp -implicitDefEqProofs only [BC,BA,BL,A8,AY,BB,AO,AQ,AL,BD,AX,AC,AA,AZ,AU,BI,BG,A7,BU,D8,AB,NH,DT,BF,BO,↓reduceIte,Nat.reduceEqDiff,oGs,bNf,enP,J6,ABS,lLm,hw]
 refine DC (fun hc => ?_) (fun hc => ?_)
 ·simp -implicitDefEqProofs only [BC,BA,BK,A8,CX,CP,AY,BB,AO,AQ,AL,BD,AX,AC,AA,AU,BJ,A7,↓reduceIte,oGs,bNf]
  refine ⟨?_,_,rfl⟩
  have : ¬ (sets b).length≤last.length+1:=by simp at hc; omega
  simp [hit,this]
 have hc':(sets b).length≤last.length+1:=by simp at hc; omega
 have hw2:IntKind.i64.wrap ((last.length:Int) - (((sets b).length - 1:Nat):Int))=((last.length+1 - (sets b).length:Nat):Int):=by rw [wrap_i64 (by omega) (by omega)]; omega
 simp -implicitDefEqProofs only [Option.map_some,Option.map_none,BC,BA,BR,A8,AY,AO,AQ,AL,BD,AX,AC,AA,AZ,AU,CB,BI,BG,BU,YH,D8,CG,BP,AB,NH,BF,BO,lMc,lMn,lAn,↓reduceIte,Nat.reduceEqDiff,oGs,bNf,enP,J6,ABS,lLm,hw,hw2,AQQ UN sz3 (h:=h ++ [.live 4 [F6 b]]) (m:=m) (kk := .i64) (xs:=last.map encI) (l:=last.length+1 - (sets b).length) (by simp; omega),← List.map_drop]
 refine (ADV G _ m _ (by simp; omega)).mono fun vv H' hcl => ?_
 have hn:=AEI (v:=v) h1 hc'
 refine AKP (fun F H=>F 7 = .sl (ABL b) 1 ((sets b).map encS)∧∃ o,F 8 = .own o 0 (sets b).length∧H[o]? = some (.live 1 ((vals last (sets b).length v).map encI))∧∃ x,H=h ++ x) ?_ ?_
 ·have hv1:([[AV.int .i64 v]]:List (List AV))≠[]:=by simp
  rcases hcl with ⟨hx,⟨k0,rfl⟩,rfl⟩ | ⟨hx,rfl,rfl⟩ | ⟨hx,rfl,rfl⟩
  ·have hx':last.drop (last.length+1 - (sets b).length) = []:=by simpa using hx
   have e1:vals last (sets b).length v = [v]:=by unfold vals; rw [hx']; rfl
   rw [e1] at hn
   simp at hn
   simp -implicitDefEqProofs only [FI,FQ,AY,BB,AO,AQ,AL,BD,AX,AC,AA,AZ,BG,A7,EE,H9,BX,BF,BO,↓reduceIte,Nat.reduceEqDiff,oGs,bNf,enP,AIN,TQ UN sz3 YP WV (JR (h ++ [ABlk.live 4 [F6 b]]) .full 1 [[AV.int .i64 v]]) hv1 (IR (by simp) (by omega))]
   exact ⟨trivial,_,by rw [← hn]; rfl,by rw [e1]; simp [encI],_,by rw [List.append_assoc]⟩
  ·have hx':last.drop (last.length+1 - (sets b).length) = []:=by simpa using hx
   have e1:vals last (sets b).length v = [v]:=by unfold vals; rw [hx']; rfl
   rw [e1] at hn
   simp at hn
   simp -implicitDefEqProofs only [FI,FQ,AY,BB,AO,AQ,AL,BD,AX,AC,AA,AZ,BG,A7,EE,H9,BX,BF,BO,List.nil_append,↓reduceIte,Nat.reduceEqDiff,oGs,bNf,enP,AIN,SN UN sz3 YP WV (JR (h ++ [ABlk.live 4 [F6 b]]) .full 1 [[AV.int .i64 v]]) (xs := []) hv1 (IR (by simp) (by omega))]
   exact ⟨trivial,_,by rw [← hn]; rfl,by rw [e1]; simp [encI],_,by rw [List.append_assoc]⟩
  ·have hle:(last.drop (last.length+1 - (sets b).length)).length+1≤16777216:=by simp; omega
   simp -implicitDefEqProofs only [FI,FQ,AY,BB,AO,AQ,AL,BD,AX,AC,AA,AZ,BG,A7,EE,H9,BX,BF,BO,↓reduceIte,Nat.reduceEqDiff,oGs,bNf,enP,AIN,TP UN sz3 YP WV (ACC (h:=h ++ [ABlk.live 4 [F6 b]])) (JR ((h ++ [ABlk.live 4 [F6 b]]) ++ [.live 1 ((last.drop (last.length+1 - (sets b).length)).map encI)]) .full 1 [[AV.int .i64 v]]) hv1 (IR (by simpa using hle) (by omega))]
   refine ⟨trivial,((h ++ [ABlk.live 4 [F6 b]]) ++ [ABlk.live 1 ((last.drop (last.length+1 - (sets b).length)).map encI)]).length,?_,?_,?_⟩
   ·congr 1
    rw [← hn]; simp [vals]; omega
   ·simp [vals,encI]
   ·refine ⟨[.live 4 [F6 b],.dead,.live 1 ((last.drop (last.length+1 - (sets b).length)).map encI ++ [[AV.int .i64 v]])],?_⟩
    rw [List.append_assoc,List.set_append_right _ _ (by simp)]
    simp
 rintro F H ⟨f7,o,f8,ho,hx⟩
 simp -implicitDefEqProofs only [BC,BV,BA,A8,AY,BB,AO,AQ,AL,BD,AX,AC,AA,AZ,AU,BI,BG,D8,AB,↓reduceIte,oGs,bNf,enP,J6,f8]
 refine DY (fun n F H' => ∃ k,n+k=(sets b).length∧F 7 = .sl (ABL b) 1 ((sets b).map encS)∧F 34 = .own o 0 (sets b).length∧F 35 = .int .i64 (sets b).length∧F 36 = .int .i64 (k:Nat)∧H'=H∧AH5 b last v k=true) (sets b).length ⟨0,by simp,by simp -implicitDefEqProofs only [AA,↓reduceIte,Nat.reduceEqDiff,f7],by simp -implicitDefEqProofs only [AA,↓reduceIte,Nat.reduceEqDiff],by simp -implicitDefEqProofs only [AA,↓reduceIte,Nat.reduceEqDiff],by simp -implicitDefEqProofs only [AA,↓reduceIte]; rfl,rfl,rfl⟩ ?_
 rintro n F H' ⟨k,hk,f7,f34,f35,f36,rfl,hin⟩
 simp -implicitDefEqProofs only [BC,BA,BL,A8,AY,BB,AO,AQ,AL,BD,AX,AC,AA,AZ,BU,AB,DT,↓reduceIte,oGs,bNf,enP,f35,f36]
 refine DC (fun hd => ?_) (fun hd => ?_)
 ·have hd':k < (sets b).length:=by simpa using hd
  have hdv:k < (vals last (sets b).length v).length:=by omega
  have e1:((vals last (sets b).length v).map encI)[k]? = some [.int .i64 (YU last (sets b).length v k)]:=by rw [AN9 hdv,AMS h1 hc' hdv]
  have e2:setAt b k=(sets b)[k].l:=by unfold setAt; simp [hd']
  simp -implicitDefEqProofs only [List.getElem?_cons_zero,BC,BV,BA,BR,A8,AY,BB,AO,AQ,AL,BD,AX,AC,AA,AZ,CB,BG,A7,BQ,CV,CG,BP,AB,lMc,lMn,lAn,↓reduceIte,Nat.reduceEqDiff,Nat.zero_add,oGs,bNf,enP,MB,AN8,f7,f34,f36,LJ ho hd',DK ag3 ho e1,EF hd',EI UJ hd',AOS]
  refine (inside_prog G _ _ _ _ (hb.sets _ (List.getElem_mem hd'))).use ?_
  simp -implicitDefEqProofs only [BL,A8,AY,BB,AO,AQ,AL,BD,AX,AC,AA,AZ,GV,AB,EX,↓reduceIte,oGs,bNf]
  refine DC (fun hi => ?_) (fun hi => ?_)
  ·simp -implicitDefEqProofs only [BC,BA,BK,A8,CX,ED,FY,CP,AY,BB,AO,AQ,AL,BD,AX,AC,AA,AU,BJ,A7,↓reduceIte,oGs,bNf]
   refine ⟨?_,hx⟩
   have hi':inside (sets b)[k].l (YU last (sets b).length v k)=false:=by simpa using hi
   unfold hit
   rw [ARW hd' (by rw [e2]; exact hi')]; simp
  ·simp -implicitDefEqProofs only [BA,BR,A8,EP,FC,AY,BB,AO,AQ,AL,BD,AX,AC,AA,AZ,AU,BI,BG,BU,AB,DV,↓reduceIte,Nat.reduceEqDiff,oGs,bNf,enP,f36,wrap_succ (show k < 9223372036854775807 by omega)]
   refine ⟨n - 1,by omega,k+1,by omega,f7,f34,f35,rfl,trivial,?_⟩
   rw [ALO,hin,e2]; simpa using hi
 ·have hd' : ¬ k < (sets b).length:=by simpa using hd
  simp -implicitDefEqProofs only [BC,BA,BK,DW,A8,ER,FN,FM,CP,AY,BB,AO,AQ,AL,BD,AX,AC,AA,AU,BJ,A7,↓reduceIte,oGs,bNf]
  refine ⟨?_,hx⟩
  have:k=(sets b).length:=by omega
  subst this
  unfold hit; rw [hin,hv0]; simp [hc']
end Go.Proofs.YtocilianjfhifaaGreatDoor.Bins
set_option linter.unusedSimpArgs false
set_option maxRecDepth 8000
namespace Go.Proofs.YtocilianjfhifaaGreatDoor.Wd
open Sm Bins Cov Go.RowKit
def wW (z:Int):Nat:=(z % 65536).toNat
theorem AI5 (z:Int):wW z < 65536:=by unfold wW; omega
theorem QM {a:Nat} (h:a < 65536):wW (a:Int)=a:=by unfold wW; omega
def AGM (a i:Nat):Nat:=a / 2 ^ i % 2
def JZ (a:Nat):Nat→Nat
 | 0=>0
 | k+1=>JZ a k+AGM a k
def UC (a:Nat):Nat:=JZ a 16
def AEV (a:Nat) (n:Int):Nat:=if n < 0∨n≥16 then 0 else a * 2 ^ n.toNat % 65536
def AEU (a:Nat) (n:Int):Nat:=if n < 0∨n≥16 then 0 else a / 2 ^ n.toNat
theorem ASN (a i:Nat):AGM a i < 2:=Nat.mod_lt _ (by omega)
theorem OO (a:Nat) : ∀ k,JZ a k≤k
 | 0=>Nat.le_refl 0
 | k+1=>by have:=OO a k; have:=ASN a k; unfold JZ; omega
theorem PT (a i:Nat) (hi:i < 8):AGM (a % 256) i=AGM a i:=by
 unfold AGM
 have:i=0∨i=1∨i=2∨i=3∨i=4∨i=5∨i=6∨i=7:=by omega
 rcases this with rfl | rfl | rfl | rfl | rfl | rfl | rfl | rfl <;> simp only [Nat.reducePow] <;> omega
theorem APG (a i:Nat):AGM (a / 256) i=AGM a (8+i):=by
 unfold AGM
 rw [Nat.div_div_eq_div_mul,Nat.pow_add]
theorem ANO (a:Nat):UC a=JZ (a / 256) 8+JZ (a % 256) 8:=by
 unfold UC
 simp only [JZ,APG,PT a 0 (by omega),PT a 1 (by omega),PT a 2 (by omega),PT a 3 (by omega),PT a 4 (by omega),PT a 5 (by omega),PT a 6 (by omega),PT a 7 (by omega),Nat.reduceAdd,Nat.add_zero]
 omega
theorem AMR {n:Int} (h0:0≤n) (h1:n < 65536):IntKind.u16.wrap n=n:=by
 have e:IntKind.u16.wrap n=n % 65536:=by simp [IntKind.wrap,IntKind.bits,IntKind.signed]
 rw [e]; omega
theorem P7 (n:Int):IntKind.u16.wrap n=n % 65536:=by simp [IntKind.wrap,IntKind.bits,IntKind.signed]
theorem ASU (z:Int):IZ Tryz.prog 3 .and (.int .i64 z) (.int .i64 65535)=some (.int .i64 ((wW z:Nat):Int)):=by
 have e:IZ Tryz.prog 3 .and (.int .i64 z) (.int .i64 65535)=some (.int .i64 (IntKind.i64.wrap ((BitVec.ofInt 64 z &&& BitVec.ofInt 64 65535).toNat:Int))):=rfl
 rw [e,BitVec.toNat_and]
 have h1:(BitVec.ofInt 64 65535).toNat=2 ^ 16 - 1:=by decide
 rw [h1,Nat.and_two_pow_sub_one_eq_mod,BitVec.toNat_ofInt]
 have h2:((z % ((2 ^ 64:Nat):Int)).toNat % 2 ^ 16)=wW z:=by
  unfold wW
  simp only [Nat.reducePow]
  omega
 rw [h2,OU (by have:=AI5 z; omega)]
theorem AL6 (a:Nat) (h:a < 65536):(BitVec.ofInt 64 (a:Int)).toNat=a:=by
 rw [BitVec.ofInt_natCast,BitVec.toNat_ofNat]
 exact Nat.mod_eq_of_lt (by omega)
theorem AXT (a b:Nat) (ha:a < 65536) (hb:b < 65536):IZ Tryz.prog 3 .and (.int .i64 (a:Nat)) (.int .i64 (b:Nat))=some (.int .i64 ((a &&& b:Nat):Int)):=by
 have e:IZ Tryz.prog 3 .and (.int .i64 (a:Nat)) (.int .i64 (b:Nat))=some (.int .i64 (IntKind.i64.wrap ((BitVec.ofInt 64 (a:Int) &&& BitVec.ofInt 64 (b:Int)).toNat:Int))):=rfl
 have hx:a &&& b < 2 ^ 16:=Nat.and_lt_two_pow _ (by omega)
 rw [e,BitVec.toNat_and,AL6 a ha,AL6 b hb,OU (by omega)]
theorem AYL (a b:Nat) (ha:a < 65536) (hb:b < 65536):IZ Tryz.prog 3 .or (.int .i64 (a:Nat)) (.int .i64 (b:Nat))=some (.int .i64 ((a ||| b:Nat):Int)):=by
 have e:IZ Tryz.prog 3 .or (.int .i64 (a:Nat)) (.int .i64 (b:Nat))=some (.int .i64 (IntKind.i64.wrap ((BitVec.ofInt 64 (a:Int) ||| BitVec.ofInt 64 (b:Int)).toNat:Int))):=rfl
 have hx:a ||| b < 2 ^ 16:=Nat.or_lt_two_pow (by omega) (by omega)
 rw [e,BitVec.toNat_or,AL6 a ha,AL6 b hb,OU (by omega)]
theorem AVK (a b:Nat) (ha:a < 65536) (hb:b < 65536):IZ Tryz.prog 3 .xor (.int .i64 (a:Nat)) (.int .i64 (b:Nat))=some (.int .i64 ((a ^^^ b:Nat):Int)):=by
 have e:IZ Tryz.prog 3 .xor (.int .i64 (a:Nat)) (.int .i64 (b:Nat))=some (.int .i64 (IntKind.i64.wrap ((BitVec.ofInt 64 (a:Int) ^^^ BitVec.ofInt 64 (b:Int)).toNat:Int))):=rfl
 have hx:a ^^^ b < 2 ^ 16:=Nat.xor_lt_two_pow (by omega) (by omega)
 rw [e,BitVec.toNat_xor,AL6 a ha,AL6 b hb,OU (by omega)]
theorem WU (E:Env) (fid:FuncId) (a:AV) (l args caps:List AV) (h:Hp) (K:AV→Hp→Prop):AKE E (.fn (.func fid) (a :: l) caps) args h K=ACalls E fid ((a :: l) ++ (args ++ caps)) h K:=rfl
theorem NF (G:Nat→AV) (z:Int) (h:Hp):PCall (En G) 262 [.int .i64 z] h (.int .u16 ((wW z:Nat):Int)):=by
 have:=AI5 z
 refine CE (H:=Hint.none) (enM G) Tryz.func262 rfl (by kernel_rfl) (by kernel_rfl) (nLb (by kernel_rfl)) ?_
 show awp _ _ _ _ _ (D9 _ [.tmp 2] _)
 simp -implicitDefEqProofs only [BC,BA,BK,A8,CP,AY,BB,AO,AQ,AL,BD,AX,AC,AA,AZ,AU,BI,BG,A7,BU,V8,AB,BF,↓reduceIte,Nat.reduceEqDiff,oGs,bNf,enP,ASG,ASU,AMR (n:=((wW z:Nat):Int)) (by omega) (by omega)]
 exact ⟨trivial,trivial⟩
theorem QN (G:Nat→AV) (a:Nat) (ha:a < 65536) (h:Hp):PCall (En G) 263 [.int .u16 (a:Nat)] h (.int .i64 (a:Nat)):=by
 refine CE (H:=Hint.none) (enM G) Tryz.func263 rfl (by kernel_rfl) (by kernel_rfl) (nLb (by kernel_rfl)) ?_
 show awp _ _ _ _ _ (D9 _ [.tmp 2] _)
 simp -implicitDefEqProofs only [BC,BA,BK,A8,CP,AY,BB,AO,AQ,AL,BD,AX,AC,AA,AZ,AU,BI,BG,A7,V8,AB,BF,↓reduceIte,Nat.reduceEqDiff,oGs,bNf,enP,ASH,OU (n:=a) (by omega)]
 exact ⟨trivial,trivial⟩
theorem AKN (G:Nat→AV) (z:Int) (h:Hp):PCall (En G) 237 [.int .i64 z] h (.int .i64 ((wW z:Nat):Int)):=by
 refine CE (H:=Hint.none) (enM G) Tryz.func237 rfl (by kernel_rfl) (by kernel_rfl) (nLb (by kernel_rfl)) ?_
 show awp _ _ _ _ _ (D9 _ [.tmp 2] _)
 simp -implicitDefEqProofs only [BC,BA,A8,AY,BB,AO,AQ,AL,BD,AX,AC,AA,AZ,AU,CB,BI,BG,A7,CG,BP,BF,lMc,lMn,lAn,↓reduceIte,Nat.reduceEqDiff,oGs,bNf,enP]
 refine (NF G z h).use ?_
 simp -implicitDefEqProofs only [AY,AO,AQ,AL,BD,AX,AC,AA,AZ,CB,CG,BP,lMc,lMn,lAn,↓reduceIte,oGs,bNf]
 refine (QN G _ (AI5 z) h).use ?_
 simp -implicitDefEqProofs only [BK,A8,CP,AY,BB,AO,AQ,AL,BD,AX,AC,AA,AZ,A7,↓reduceIte,oGs,bNf]
 exact ⟨trivial,trivial⟩
theorem YV (G:Nat→AV) (k:FuncId) (a b r:Nat) (hb:b < 65536) (hr:r < 65536) (h:Hp) (hc:PCall (En G) k [.int .u16 (a:Nat),.int .u16 (b:Nat)] h (.int .u16 (r:Nat))) :
  PCall (En G) 264 [.fn (.func k) [.int .u16 (a:Nat)] [],.int .i64 (b:Nat)] h (.int .i64 (r:Nat)):=by
 have ho:=NF G (b:Nat) h
 rw [QM hb] at ho
 refine CE (H:=Hint.none) (enM G) Tryz.func264 rfl (by kernel_rfl) (by kernel_rfl) (nLb (by kernel_rfl)) ?_
 show awp _ _ _ _ _ (D9 _ [.tmp 4] _)
 simp -implicitDefEqProofs only [BC,BA,A8,AY,BB,AO,AQ,AL,BD,AX,AC,AA,AZ,AU,CB,BI,BG,A7,CG,BP,BF,BO,lMc,lMn,lAn,↓reduceIte,Nat.reduceEqDiff,oGs,bNf,enP]
 refine ho.use ?_
 simp -implicitDefEqProofs only [AY,AO,AQ,AL,BD,AX,AC,AA,AZ,CG,lMc,lMn,lAn,List.nil_append,List.cons_append,↓reduceIte,Nat.reduceEqDiff,oGs,bNf,WU]
 refine hc.use ?_
 simp -implicitDefEqProofs only [AY,AO,AQ,AL,BD,AX,AC,AA,AZ,CB,CG,BP,lMc,lMn,lAn,↓reduceIte,oGs,bNf]
 refine (QN G r hr h).use ?_
 simp -implicitDefEqProofs only [BK,A8,CP,AY,BB,AO,AQ,AL,BD,AX,AC,AA,AZ,A7,↓reduceIte,oGs,bNf]
 exact ⟨trivial,trivial⟩
theorem AFI (G:Nat→AV) (k:FuncId) (a r:Nat) (hr:r < 65536) (h:Hp) (hc:PCall (En G) k [.int .u16 (a:Nat)] h (.int .u16 (r:Nat))) :
  PCall (En G) 291 [.fn (.func k) [.int .u16 (a:Nat)] []] h (.int .i64 (r:Nat)):=by
 refine CE (H:=Hint.none) (enM G) Tryz.func291 rfl (by kernel_rfl) (by kernel_rfl) (nLb (by kernel_rfl)) ?_
 show awp _ _ _ _ _ (D9 _ [.tmp 2] _)
 simp -implicitDefEqProofs only [BC,BA,A8,AY,BB,AO,AQ,AL,BD,AX,AC,AA,AZ,AU,BI,BG,A7,CG,BF,lMn,lAn,↓reduceIte,Nat.reduceEqDiff,oGs,bNf,enP,WU]
 refine hc.use ?_
 simp -implicitDefEqProofs only [AY,AO,AQ,AL,BD,AX,AC,AA,AZ,CB,CG,BP,lMc,lMn,lAn,↓reduceIte,oGs,bNf]
 refine (QN G r hr h).use ?_
 simp -implicitDefEqProofs only [BK,A8,CP,AY,BB,AO,AQ,AL,BD,AX,AC,AA,AZ,A7,↓reduceIte,oGs,bNf]
 exact ⟨trivial,trivial⟩
theorem ATU (G:Nat→AV) (a b:Nat) (ha:a < 65536) (hb:b < 65536) (h:Hp):PCall (En G) 238 [.int .i64 (a:Nat),.int .i64 (b:Nat)] h (.int .i64 (((a+b) % 65536:Nat):Int)):=by
 have hc:PCall (En G) 265 [.int .u16 (a:Nat),.int .u16 (b:Nat)] h (.int .u16 (((a+b) % 65536:Nat):Int)):=by
  have e:IntKind.u16.wrap ((a:Int)+(b:Int))=(((a+b) % 65536:Nat):Int):=by rw [P7]; omega
  refine CE (H:=Hint.none) (enM G) Tryz.func265 rfl (by kernel_rfl) (by kernel_rfl) (nLb (by kernel_rfl)) ?_
  show awp _ _ _ _ _ (D9 _ [.tmp 4] _)
  simp -implicitDefEqProofs only [BC,BA,BK,A8,CP,AY,BB,AO,AQ,AL,BD,AX,AC,AA,AZ,AU,BI,BG,A7,BU,AB,DV,BF,BO,↓reduceIte,Nat.reduceEqDiff,oGs,bNf,enP,e]
  exact ⟨trivial,trivial⟩
 have ho:=NF G (a:Nat) h
 rw [QM ha] at ho
 refine CE (H:=Hint.none) (enM G) Tryz.func238 rfl (by kernel_rfl) (by kernel_rfl) (nLb (by kernel_rfl)) ?_
 show awp _ _ _ _ _ (D9 _ [.tmp 4] _)
 simp -implicitDefEqProofs only [BC,BA,A8,AY,BB,AO,AQ,AL,BD,AX,AC,AA,AZ,AU,CB,BI,BG,A7,CG,BP,BF,lMc,lMn,lAn,↓reduceIte,Nat.reduceEqDiff,oGs,bNf,enP]
 refine ho.use ?_
 simp -implicitDefEqProofs only [AY,AO,AQ,AL,BD,AX,AC,AA,AZ,CB,BG,G8,CG,BP,BF,BO,lMc,lMn,lAn,↓reduceIte,Nat.reduceEqDiff,oGs,bNf]
 refine (YV G 265 a b _ hb (Nat.mod_lt _ (by omega)) h hc).use ?_
 simp -implicitDefEqProofs only [BK,A8,CP,AY,BB,AO,AQ,AL,BD,AX,AC,AA,AZ,A7,↓reduceIte,oGs,bNf]
 exact ⟨trivial,trivial⟩
theorem AVP (G:Nat→AV) (a b:Nat) (ha:a < 65536) (hb:b < 65536) (h:Hp):PCall (En G) 270 [.int .i64 (a:Nat),.int .i64 (b:Nat)] h (.int .i64 (((a+65536 - b) % 65536:Nat):Int)):=by
 have hc:PCall (En G) 295 [.int .u16 (a:Nat),.int .u16 (b:Nat)] h (.int .u16 (((a+65536 - b) % 65536:Nat):Int)):=by
  have e:IntKind.u16.wrap ((a:Int) - (b:Int))=(((a+65536 - b) % 65536:Nat):Int):=by rw [P7]; omega
  refine CE (H:=Hint.none) (enM G) Tryz.func295 rfl (by kernel_rfl) (by kernel_rfl) (nLb (by kernel_rfl)) ?_
  show awp _ _ _ _ _ (D9 _ [.tmp 4] _)
  simp -implicitDefEqProofs only [BC,BA,BK,A8,CP,AY,BB,AO,AQ,AL,BD,AX,AC,AA,AZ,AU,BI,BG,A7,BU,AB,NH,BF,BO,↓reduceIte,Nat.reduceEqDiff,oGs,bNf,enP,e]
  exact ⟨trivial,trivial⟩
 have ho:=NF G (a:Nat) h
 rw [QM ha] at ho
 refine CE (H:=Hint.none) (enM G) Tryz.func270 rfl (by kernel_rfl) (by kernel_rfl) (nLb (by kernel_rfl)) ?_
 show awp _ _ _ _ _ (D9 _ [.tmp 4] _)
 simp -implicitDefEqProofs only [BC,BA,A8,AY,BB,AO,AQ,AL,BD,AX,AC,AA,AZ,AU,CB,BI,BG,A7,CG,BP,BF,lMc,lMn,lAn,↓reduceIte,Nat.reduceEqDiff,oGs,bNf,enP]
 refine ho.use ?_
 simp -implicitDefEqProofs only [AY,AO,AQ,AL,BD,AX,AC,AA,AZ,CB,BG,G8,CG,BP,BF,BO,lMc,lMn,lAn,↓reduceIte,Nat.reduceEqDiff,oGs,bNf]
 refine (YV G 295 a b _ hb (Nat.mod_lt _ (by omega)) h hc).use ?_
 simp -implicitDefEqProofs only [BK,A8,CP,AY,BB,AO,AQ,AL,BD,AX,AC,AA,AZ,A7,↓reduceIte,oGs,bNf]
 exact ⟨trivial,trivial⟩
theorem AWC (G:Nat→AV) (a b:Nat) (ha:a < 65536) (hb:b < 65536) (h:Hp):PCall (En G) 271 [.int .i64 (a:Nat),.int .i64 (b:Nat)] h (.int .i64 ((a * b % 65536:Nat):Int)):=by
 have hc:PCall (En G) 296 [.int .u16 (a:Nat),.int .u16 (b:Nat)] h (.int .u16 ((a * b % 65536:Nat):Int)):=by
  have e:IntKind.u16.wrap ((a:Int) * (b:Int))=((a * b % 65536:Nat):Int):=by rw [P7]; rw [← Int.natCast_mul]; rfl
  refine CE (H:=Hint.none) (enM G) Tryz.func296 rfl (by kernel_rfl) (by kernel_rfl) (nLb (by kernel_rfl)) ?_
  show awp _ _ _ _ _ (D9 _ [.tmp 4] _)
  simp -implicitDefEqProofs only [BC,BA,BK,A8,CP,AY,BB,AO,AQ,AL,BD,AX,AC,AA,AZ,AU,BI,BG,A7,BU,AB,AKG,BF,BO,↓reduceIte,Nat.reduceEqDiff,oGs,bNf,enP,e]
  exact ⟨trivial,trivial⟩
 have ho:=NF G (a:Nat) h
 rw [QM ha] at ho
 refine CE (H:=Hint.none) (enM G) Tryz.func271 rfl (by kernel_rfl) (by kernel_rfl) (nLb (by kernel_rfl)) ?_
 show awp _ _ _ _ _ (D9 _ [.tmp 4] _)
 simp -implicitDefEqProofs only [BC,BA,A8,AY,BB,AO,AQ,AL,BD,AX,AC,AA,AZ,AU,CB,BI,BG,A7,CG,BP,BF,lMc,lMn,lAn,↓reduceIte,Nat.reduceEqDiff,oGs,bNf,enP]
 refine ho.use ?_
 simp -implicitDefEqProofs only [AY,AO,AQ,AL,BD,AX,AC,AA,AZ,CB,BG,G8,CG,BP,BF,BO,lMc,lMn,lAn,↓reduceIte,Nat.reduceEqDiff,oGs,bNf]
 refine (YV G 296 a b _ hb (Nat.mod_lt _ (by omega)) h hc).use ?_
 simp -implicitDefEqProofs only [BK,A8,CP,AY,BB,AO,AQ,AL,BD,AX,AC,AA,AZ,A7,↓reduceIte,oGs,bNf]
 exact ⟨trivial,trivial⟩
theorem AWI (G:Nat→AV) (a:Nat) (ha:a < 65536) (h:Hp):PCall (En G) 267 [.int .i64 (a:Nat)] h (.int .i64 ((65535 - a:Nat):Int)):=by
 have hu:aUn .xor (.int .u16 (a:Nat))=some (.int .u16 ((65535 - a:Nat):Int)):=by
  have e:aUn .xor (.int .u16 (a:Nat))=some (.int .u16 (IntKind.u16.wrap ((BitVec.ofInt 16 65535 ^^^ BitVec.ofInt 16 (a:Int)).toNat:Int))):=rfl
  have h1:BitVec.ofInt 16 65535=BitVec.allOnes 16:=by decide
  have h2:(BitVec.ofInt 16 (a:Int)).toNat=a:=by
   rw [BitVec.ofInt_natCast,BitVec.toNat_ofNat]
   exact Nat.mod_eq_of_lt (by omega)
  rw [e,h1,BitVec.allOnes_xor,BitVec.toNat_not,h2,AMR (by omega) (by simp only [Nat.reducePow]; omega)]
 have hc:PCall (En G) 292 [.int .u16 (a:Nat)] h (.int .u16 ((65535 - a:Nat):Int)):=by
  refine CE (H:=Hint.none) (enM G) Tryz.func292 rfl (by kernel_rfl) (by kernel_rfl) (nLb (by kernel_rfl)) ?_
  show awp _ _ _ _ _ (D9 _ [.tmp 2] _)
  simp -implicitDefEqProofs only [BC,BA,BK,A8,CP,AY,BB,AO,AQ,AL,BD,AX,AC,AA,AZ,AU,BI,BG,A7,GV,AB,BF,↓reduceIte,Nat.reduceEqDiff,oGs,bNf,enP,hu]
  exact ⟨trivial,trivial⟩
 have ho:=NF G (a:Nat) h
 rw [QM ha] at ho
 refine CE (H:=Hint.none) (enM G) Tryz.func267 rfl (by kernel_rfl) (by kernel_rfl) (nLb (by kernel_rfl)) ?_
 show awp _ _ _ _ _ (D9 _ [.tmp 2] _)
 simp -implicitDefEqProofs only [BC,BA,A8,AY,BB,AO,AQ,AL,BD,AX,AC,AA,AZ,AU,CB,BI,BG,A7,CG,BP,BF,lMc,lMn,lAn,↓reduceIte,Nat.reduceEqDiff,oGs,bNf,enP]
 refine ho.use ?_
 simp -implicitDefEqProofs only [AY,AO,AQ,AL,BD,AX,AC,AA,AZ,CB,G8,CG,BP,lMc,lMn,lAn,↓reduceIte,oGs,bNf]
 refine (AFI G 292 a _ (by omega) h hc).use ?_
 simp -implicitDefEqProofs only [BK,A8,CP,AY,BB,AO,AQ,AL,BD,AX,AC,AA,AZ,A7,↓reduceIte,oGs,bNf]
 exact ⟨trivial,trivial⟩
theorem AWB (G:Nat→AV) (a:Nat) (ha:a < 65536) (h:Hp):PCall (En G) 268 [.int .i64 (a:Nat)] h (.int .i64 (((65536 - a) % 65536:Nat):Int)):=by
 have hc:PCall (En G) 293 [.int .u16 (a:Nat)] h (.int .u16 (((65536 - a) % 65536:Nat):Int)):=by
  have e:IntKind.u16.wrap (0 - (a:Int))=(((65536 - a) % 65536:Nat):Int):=by rw [P7]; omega
  refine CE (H:=Hint.none) (enM G) Tryz.func293 rfl (by kernel_rfl) (by kernel_rfl) (nLb (by kernel_rfl)) ?_
  show awp _ _ _ _ _ (D9 _ [.tmp 2] _)
  simp -implicitDefEqProofs only [BC,BA,BK,A8,CP,AY,BB,AO,AQ,AL,BD,AX,AC,AA,AZ,AU,BI,BG,A7,GV,AB,AT0,BF,↓reduceIte,Nat.reduceEqDiff,oGs,bNf,enP,e]
  exact ⟨trivial,trivial⟩
 have ho:=NF G (a:Nat) h
 rw [QM ha] at ho
 refine CE (H:=Hint.none) (enM G) Tryz.func268 rfl (by kernel_rfl) (by kernel_rfl) (nLb (by kernel_rfl)) ?_
 show awp _ _ _ _ _ (D9 _ [.tmp 2] _)
 simp -implicitDefEqProofs only [BC,BA,A8,AY,BB,AO,AQ,AL,BD,AX,AC,AA,AZ,AU,CB,BI,BG,A7,CG,BP,BF,lMc,lMn,lAn,↓reduceIte,Nat.reduceEqDiff,oGs,bNf,enP]
 refine ho.use ?_
 simp -implicitDefEqProofs only [AY,AO,AQ,AL,BD,AX,AC,AA,AZ,CB,G8,CG,BP,lMc,lMn,lAn,↓reduceIte,oGs,bNf]
 refine (AFI G 293 a _ (Nat.mod_lt _ (by omega)) h hc).use ?_
 simp -implicitDefEqProofs only [BK,A8,CP,AY,BB,AO,AQ,AL,BD,AX,AC,AA,AZ,A7,↓reduceIte,oGs,bNf]
 exact ⟨trivial,trivial⟩
theorem Y0 (G:Nat→AV) (k:FuncId) (a r:Nat) (n:Int) (hr:r < 65536) (h:Hp) (hc : ¬ (n < 0∨n≥16)→PCall (En G) k [.int .u16 (a:Nat),.int .i64 n] h (.int .u16 (r:Nat))) (h0:n < 0∨n≥16→r=0) :
  PCall (En G) 297 [.fn (.func k) [.int .u16 (a:Nat)] [],.int .i64 n] h (.int .i64 (r:Nat)):=by
 refine CE (H:=Hint.none) (enM G) Tryz.func297 rfl (by kernel_rfl) (by kernel_rfl) (nLb (by kernel_rfl)) ?_
 show awp _ _ _ _ _ (D9 _ [.tmp 4] _)
 simp -implicitDefEqProofs only [BC,BA,A8,AY,BB,BH,BN,CO,AO,AQ,AL,BD,AX,AC,AA,AZ,AU,BI,BG,A7,BU,AB,DT,BF,BO,↓reduceIte,Nat.reduceEqDiff,oGs,bNf,enP]
 cases h1:decide (n < 0)
 ·have h1' : ¬ n < 0:=by simpa using h1
  cases h2:decide (n≥16)
  ·have h2' : ¬ n≥16:=by simpa using h2
   simp -implicitDefEqProofs only [BC,BA,BR,BL,A8,D5,AY,BB,BH,BN,CO,EG,AO,AQ,AL,BD,AX,AC,AA,AZ,AU,BI,BJ,BG,CQ,DN,BU,CG,AB,G6,BF,BO,lMc,lMn,lAn,List.nil_append,List.cons_append,↓reduceIte,Nat.reduceEqDiff,oGs,bNf,enP,h2,WU]
   refine (hc (by omega)).use ?_
   simp -implicitDefEqProofs only [AY,AO,AQ,AL,BD,AX,AC,AA,AZ,CB,CG,BP,lMc,lMn,lAn,↓reduceIte,oGs,bNf]
   refine (QN G r hr h).use ?_
   simp -implicitDefEqProofs only [BK,A8,CP,AY,BB,AO,AQ,AL,BD,AX,AC,AA,AZ,A7,↓reduceIte,oGs,bNf]
   exact ⟨trivial,trivial⟩
  ·have h2':n≥16:=by simpa using h2
   simp -implicitDefEqProofs only [BC,BA,BK,BL,A8,CX,CP,DU,AY,BB,BH,BN,CO,EG,AO,AQ,AL,BD,AX,AC,AA,AZ,AU,BI,BJ,BG,A7,CQ,DN,BU,AB,G6,BF,BO,↓reduceIte,Nat.reduceEqDiff,oGs,bNf,enP,h2]
   exact ⟨by rw [h0 (.inr h2')]; rfl,trivial⟩
 ·have h1':n < 0:=by simpa using h1
  simp -implicitDefEqProofs only [BC,BA,BK,BL,A8,CX,CP,DU,AY,BB,BH,BN,CO,FP,AO,AQ,AL,BD,AX,AC,AA,EJ,AZ,AU,BI,BJ,A7,CQ,DR,↓reduceIte,Nat.reduceEqDiff,oGs,bNf]
  exact ⟨by rw [h0 (.inl h1')]; rfl,trivial⟩
theorem AJF {a:Nat} {n:Int}:AEV a n < 65536:=by
 unfold AEV
 split
 ·omega
 ·exact Nat.mod_lt _ (by omega)
theorem AJE {a:Nat} {n:Int} (ha:a < 65536):AEU a n < 65536:=by
 unfold AEU
 split
 ·omega
 ·exact Nat.lt_of_le_of_lt (Nat.div_le_self _ _) ha
theorem AV0 (G:Nat→AV) (a:Nat) (n:Int) (ha:a < 65536) (h:Hp):PCall (En G) 272 [.int .i64 (a:Nat),.int .i64 n] h (.int .i64 (AEV a n:Nat)):=by
 have hc : ¬ (n < 0∨n≥16)→PCall (En G) 298 [.int .u16 (a:Nat),.int .i64 n] h (.int .u16 (AEV a n:Nat)):=fun hn=>by
  have hb:IZ Tryz.prog 252 .shl (.int .u16 (a:Nat)) (.int .i64 n)=some (.int .u16 (AEV a n:Nat)):=by
   have e:IZ Tryz.prog 252 .shl (.int .u16 (a:Nat)) (.int .i64 n)=if n < 0 then none else some (.int .u16 (IntKind.u16.wrap ((a:Int) * 2 ^ (min n.toNat 16)))):=rfl
   have h1:min n.toNat 16=n.toNat:=by omega
   rw [e,if_neg (by omega),h1,P7]
   unfold AEV
   rw [if_neg hn,Int.natCast_emod,Int.natCast_mul,Int.natCast_pow]
   rfl
  refine CE (H:=Hint.none) (enM G) Tryz.func298 rfl (by kernel_rfl) (by kernel_rfl) (nLb (by kernel_rfl)) ?_
  show awp _ _ _ _ _ (D9 _ [.tmp 4] _)
  simp -implicitDefEqProofs only [BC,BA,BK,A8,CP,AY,BB,AO,AQ,AL,BD,AX,AC,AA,AZ,AU,BI,BG,A7,BU,AB,BF,BO,↓reduceIte,Nat.reduceEqDiff,oGs,bNf,enP,hb]
  exact ⟨trivial,trivial⟩
 have ho:=NF G (a:Nat) h
 rw [QM ha] at ho
 refine CE (H:=Hint.none) (enM G) Tryz.func272 rfl (by kernel_rfl) (by kernel_rfl) (nLb (by kernel_rfl)) ?_
 show awp _ _ _ _ _ (D9 _ [.tmp 4] _)
 simp -implicitDefEqProofs only [BC,BA,A8,AY,BB,AO,AQ,AL,BD,AX,AC,AA,AZ,AU,CB,BI,BG,A7,CG,BP,BF,lMc,lMn,lAn,↓reduceIte,Nat.reduceEqDiff,oGs,bNf,enP]
 refine ho.use ?_
 simp -implicitDefEqProofs only [AY,AO,AQ,AL,BD,AX,AC,AA,AZ,CB,BG,G8,CG,BP,BF,BO,lMc,lMn,lAn,↓reduceIte,Nat.reduceEqDiff,oGs,bNf]
 refine (Y0 G 298 a _ n AJF h hc (fun hh=>by unfold AEV; rw [if_pos hh])).use ?_
 simp -implicitDefEqProofs only [BK,A8,CP,AY,BB,AO,AQ,AL,BD,AX,AC,AA,AZ,A7,↓reduceIte,oGs,bNf]
 exact ⟨trivial,trivial⟩
theorem AVZ (G:Nat→AV) (a:Nat) (n:Int) (ha:a < 65536) (h:Hp):PCall (En G) 273 [.int .i64 (a:Nat),.int .i64 n] h (.int .i64 (AEU a n:Nat)):=by
 have hc : ¬ (n < 0∨n≥16)→PCall (En G) 299 [.int .u16 (a:Nat),.int .i64 n] h (.int .u16 (AEU a n:Nat)):=fun hn=>by
  have hb:IZ Tryz.prog 252 .shr (.int .u16 (a:Nat)) (.int .i64 n)=some (.int .u16 (AEU a n:Nat)):=by
   have e:IZ Tryz.prog 252 .shr (.int .u16 (a:Nat)) (.int .i64 n)=if n < 0 then none else some (.int .u16 ((a:Int).fdiv (2 ^ (min n.toNat 16)))):=rfl
   have h1:min n.toNat 16=n.toNat:=by omega
   rw [e,if_neg (by omega),h1]
   unfold AEU
   rw [if_neg hn,Int.fdiv_eq_ediv_of_nonneg _ (by exact Int.le_of_lt (Int.pow_pos (by decide))),Int.natCast_ediv,Int.natCast_pow]
   rfl
  refine CE (H:=Hint.none) (enM G) Tryz.func299 rfl (by kernel_rfl) (by kernel_rfl) (nLb (by kernel_rfl)) ?_
  show awp _ _ _ _ _ (D9 _ [.tmp 4] _)
  simp -implicitDefEqProofs only [BC,BA,BK,A8,CP,AY,BB,AO,AQ,AL,BD,AX,AC,AA,AZ,AU,BI,BG,A7,BU,AB,BF,BO,↓reduceIte,Nat.reduceEqDiff,oGs,bNf,enP,hb]
  exact ⟨trivial,trivial⟩
 have ho:=NF G (a:Nat) h
 rw [QM ha] at ho
 refine CE (H:=Hint.none) (enM G) Tryz.func273 rfl (by kernel_rfl) (by kernel_rfl) (nLb (by kernel_rfl)) ?_
 show awp _ _ _ _ _ (D9 _ [.tmp 4] _)
 simp -implicitDefEqProofs only [BC,BA,A8,AY,BB,AO,AQ,AL,BD,AX,AC,AA,AZ,AU,CB,BI,BG,A7,CG,BP,BF,lMc,lMn,lAn,↓reduceIte,Nat.reduceEqDiff,oGs,bNf,enP]
 refine ho.use ?_
 simp -implicitDefEqProofs only [AY,AO,AQ,AL,BD,AX,AC,AA,AZ,CB,BG,G8,CG,BP,BF,BO,lMc,lMn,lAn,↓reduceIte,Nat.reduceEqDiff,oGs,bNf]
 refine (Y0 G 299 a _ n (AJE ha) h hc (fun hh=>by unfold AEU; rw [if_pos hh])).use ?_
 simp -implicitDefEqProofs only [BK,A8,CP,AY,BB,AO,AQ,AL,BD,AX,AC,AA,AZ,A7,↓reduceIte,oGs,bNf]
 exact ⟨trivial,trivial⟩
def AJA (fn:Func):ByteArray:=match fn.body with
 | some (.seq _ (.seq (.region _ ops _) _))=>match ops[2]? with
   | some o=>match o.op with
     | .index _ (.const (.string s)) _=>s
     | _=>⟨#[]⟩
   | none=>⟨#[]⟩
 | _=>⟨#[]⟩
theorem AQI:(List.range 256).all (fun y=>(AJA Tryz.f294)[y]? == some (UInt8.ofNat (JZ y 8)))=true:=by kernel_rfl
theorem AMZ {y:Nat} (hy:y < 256) (h:Hp):ofO h (LU Tryz.prog 9 (.str (AJA Tryz.f294)) (.int .u16 (y:Nat)))=some (.int .u8 (JZ y 8:Nat),h):=by
 have h1:=List.all_eq_true.1 AQI y (by simpa using hy)
 have h2:(AJA Tryz.f294)[y]? = some (UInt8.ofNat (JZ y 8)):=by simpa using h1
 have hle:=OO y 8
 have hu:Tryz.prog.underlying 9=some .string:=by kernel_rfl
 have h3:LU Tryz.prog 9 (.str (AJA Tryz.f294)) (.int .u16 (y:Nat))=some (.int .u8 (JZ y 8:Nat)):=by
  unfold LU
  simp only [hu,Int.toNat_natCast,h2]
  rw [if_pos (by omega)]
  simp
  omega
 rw [h3]; rfl
set_option maxHeartbeats 1000000 in
theorem AK9 (G:Nat→AV) (a:Nat) (ha:a < 65536) (h:Hp):PCall (En G) 269 [.int .i64 (a:Nat)] h (.int .i64 (UC a:Nat)):=by
 have hs:IZ Tryz.prog 251 .shr (.int .u16 (a:Nat)) (.int .u64 8)=some (.int .u16 ((a / 256:Nat):Int)):=by
  have e:IZ Tryz.prog 251 .shr (.int .u16 (a:Nat)) (.int .u64 8)=some (.int .u16 ((a:Int).fdiv (2 ^ 8))):=rfl
  rw [e,Int.fdiv_eq_ediv_of_nonneg _ (by decide)]
  rfl
 have hl:IZ Tryz.prog 251 .and (.int .u16 (a:Nat)) (.int .u16 255)=some (.int .u16 ((a % 256:Nat):Int)):=by
  have e:IZ Tryz.prog 251 .and (.int .u16 (a:Nat)) (.int .u16 255)=some (.int .u16 (IntKind.u16.wrap ((BitVec.ofInt 16 (a:Int) &&& BitVec.ofInt 16 255).toNat:Int))):=rfl
  have h1:(BitVec.ofInt 16 255).toNat=2 ^ 8 - 1:=by decide
  have h2:(BitVec.ofInt 16 (a:Int)).toNat=a:=by
   rw [BitVec.ofInt_natCast,BitVec.toNat_ofNat]
   exact Nat.mod_eq_of_lt (by omega)
  rw [e,BitVec.toNat_and,h1,Nat.and_two_pow_sub_one_eq_mod,h2,AMR (by omega) (by simp only [Nat.reducePow]; omega)]
 have l1:=OO (a / 256) 8
 have l2:=OO (a % 256) 8
 have hadd:IZ Tryz.prog 5 .add (.int .u8 (JZ (a / 256) 8:Nat)) (.int .u8 (JZ (a % 256) 8:Nat))=some (.int .u8 (UC a:Nat)):=by
  have e:IZ Tryz.prog 5 .add (.int .u8 (JZ (a / 256) 8:Nat)) (.int .u8 (JZ (a % 256) 8:Nat))=some (.int .u8 (IntKind.u8.wrap ((JZ (a / 256) 8:Int)+(JZ (a % 256) 8:Int)))):=rfl
  have e2 : ∀ n:Int,IntKind.u8.wrap n=n % 256:=fun n=>by simp [IntKind.wrap,IntKind.bits,IntKind.signed]
  have e3:=ANO a
  rw [e,e2]
  congr 2
  omega
 have h64:IntKind.i64.wrap ((UC a:Nat):Int)=((UC a:Nat):Int):=OU (by have:=OO a 16; unfold UC; omega)
 have hc:PCall (En G) 294 [.int .u16 (a:Nat)] h (.int .i64 (UC a:Nat)):=by
  refine CE (H:=Hint.none) (enM G) Tryz.func294 rfl (by kernel_rfl) (by kernel_rfl) (nLb (by kernel_rfl)) ?_
  show awp _ _ _ _ _ (D9 _ [.tmp 2] _)
  simp -implicitDefEqProofs only [BC,BA,A8,AY,BB,AO,AQ,AL,BD,AX,AC,AU,BI,A7,oGs,bNf,enP]
  refine F7 (by kernel_rfl) ?_
  simp -implicitDefEqProofs only [GR,EU,D7,EW,G7,LW,ACR,AO,AA,AZ,AU,BI,GZ,BU,MF,AB,BF,↓reduceIte,Nat.reduceEqDiff,Nat.reduceAdd,oGs,enP,hs,hl]
  refine JC (v := .int .u8 (JZ (a / 256) 8:Nat)) (h:=h) (AMZ (by omega) h) ?_
  simp -implicitDefEqProofs only [GR,EU,D7,EW,G7,LW,ACR,AO,AA,AZ,AU,BI,GZ,BU,MF,AB,BF,↓reduceIte,Nat.reduceEqDiff,Nat.reduceAdd,oGs,enP,hs,hl]
  refine JC (v := .int .u8 (JZ (a % 256) 8:Nat)) (h:=h) (AMZ (by omega) h) ?_
  simp -implicitDefEqProofs only [GR,EU,D7,FZ,EW,J5,LW,AMP,BK,A8,CP,AO,AA,AZ,BU,V8,AB,↓reduceIte,Nat.reduceEqDiff,Nat.reduceAdd,oGs,enP,AO3,hadd,h64]
  exact ⟨trivial,trivial⟩
 have ho:=NF G (a:Nat) h
 rw [QM ha] at ho
 refine CE (H:=Hint.none) (enM G) Tryz.func269 rfl (by kernel_rfl) (by kernel_rfl) (nLb (by kernel_rfl)) ?_
 show awp _ _ _ _ _ (D9 _ [.tmp 2] _)
 simp -implicitDefEqProofs only [BC,BA,A8,AY,BB,AO,AQ,AL,BD,AX,AC,AA,AZ,AU,CB,BI,BG,A7,CG,BP,BF,lMc,lMn,lAn,↓reduceIte,Nat.reduceEqDiff,oGs,bNf,enP]
 refine ho.use ?_
 simp -implicitDefEqProofs only [AY,AO,AQ,AL,BD,AX,AC,AA,AZ,CB,CG,BP,lMc,lMn,lAn,↓reduceIte,oGs,bNf]
 refine hc.use ?_
 simp -implicitDefEqProofs only [BK,A8,CP,AY,BB,AO,AQ,AL,BD,AX,AC,AA,AZ,A7,↓reduceIte,oGs,bNf]
 exact ⟨trivial,trivial⟩
end Go.Proofs.YtocilianjfhifaaGreatDoor.Wd
set_option linter.unusedSimpArgs false
set_option maxRecDepth 8000
namespace Go.Proofs.YtocilianjfhifaaGreatDoor.Xe
open Sm Bins Cov Wd Go.RowKit
def tr (b:Bool):Nat:=if b then 1 else 0
def sgW (op:Int) (a:Nat):Nat:=if op=4 then tr (a == 0) else if op=5 then 65535 - a else if op=6 then (65536 - a) % 65536 else UC a
def dbW (op:Int) (a b:Nat):Nat :=
 if op=7 then (a+b) % 65536 else if op=8 then (a+65536 - b) % 65536 else if op=9 then a * b % 65536 else if op=10 then a &&& b else if op=11 then a ||| b else if op=12 then a ^^^ b
 else if op=13 then AEV a (b:Nat) else if op=14 then AEU a (b:Nat) else if op=15 then tr (a == b) else if op=16 then tr (!(a == b)) else if op=17 then tr (decide (a < b)) else if op=18 then tr (decide (a≤b))
 else if op=19 then tr (!(a == 0) && !(b == 0)) else if op=20 then tr (!(a == 0) || !(b == 0)) else tr ((a == 0) || !(b == 0))
theorem VD (b:Bool):tr b < 65536:=by cases b <;> decide
theorem AUB {op:Int} {a:Nat} (ha:a < 65536):sgW op a < 65536:=by
 unfold sgW
 by_cases h4:op=4
 ·rw [if_pos h4]; exact VD _
 by_cases h5:op=5
 ·rw [if_neg h4,if_pos h5]; omega
 by_cases h6:op=6
 ·rw [if_neg h4,if_neg h5,if_pos h6]; exact Nat.mod_lt _ (by omega)
 ·rw [if_neg h4,if_neg h5,if_neg h6]
  have:=OO a 16
  unfold UC; omega
theorem AU3 {op:Int} {a b:Nat} (ha:a < 65536) (hb:b < 65536):dbW op a b < 65536:=by
 unfold dbW
 by_cases h7:op=7
 ·rw [if_pos h7]; exact Nat.mod_lt _ (by omega)
 by_cases h8:op=8
 ·rw [if_neg h7,if_pos h8]; exact Nat.mod_lt _ (by omega)
 by_cases h9:op=9
 ·rw [if_neg h7,if_neg h8,if_pos h9]; exact Nat.mod_lt _ (by omega)
 by_cases h10:op=10
 ·rw [if_neg h7,if_neg h8,if_neg h9,if_pos h10]; exact Nat.lt_of_le_of_lt Nat.and_le_left ha
 by_cases h11:op=11
 ·rw [if_neg h7,if_neg h8,if_neg h9,if_neg h10,if_pos h11]; exact Nat.or_lt_two_pow (n:=16) (by omega) (by omega)
 by_cases h12:op=12
 ·rw [if_neg h7,if_neg h8,if_neg h9,if_neg h10,if_neg h11,if_pos h12]; exact Nat.xor_lt_two_pow (n:=16) (by omega) (by omega)
 by_cases h13:op=13
 ·rw [if_neg h7,if_neg h8,if_neg h9,if_neg h10,if_neg h11,if_neg h12,if_pos h13]; exact AJF
 by_cases h14:op=14
 ·rw [if_neg h7,if_neg h8,if_neg h9,if_neg h10,if_neg h11,if_neg h12,if_neg h13,if_pos h14]; exact AJE ha
 by_cases h15:op=15
 ·rw [if_neg h7,if_neg h8,if_neg h9,if_neg h10,if_neg h11,if_neg h12,if_neg h13,if_neg h14,if_pos h15]; exact VD _
 by_cases h16:op=16
 ·rw [if_neg h7,if_neg h8,if_neg h9,if_neg h10,if_neg h11,if_neg h12,if_neg h13,if_neg h14,if_neg h15,if_pos h16]; exact VD _
 by_cases h17:op=17
 ·rw [if_neg h7,if_neg h8,if_neg h9,if_neg h10,if_neg h11,if_neg h12,if_neg h13,if_neg h14,if_neg h15,if_neg h16,if_pos h17]; exact VD _
 by_cases h18:op=18
 ·rw [if_neg h7,if_neg h8,if_neg h9,if_neg h10,if_neg h11,if_neg h12,if_neg h13,if_neg h14,if_neg h15,if_neg h16,if_neg h17,if_pos h18]; exact VD _
 by_cases h19:op=19
 ·rw [if_neg h7,if_neg h8,if_neg h9,if_neg h10,if_neg h11,if_neg h12,if_neg h13,if_neg h14,if_neg h15,if_neg h16,if_neg h17,if_neg h18,if_pos h19]; exact VD _
 by_cases h20:op=20
 ·rw [if_neg h7,if_neg h8,if_neg h9,if_neg h10,if_neg h11,if_neg h12,if_neg h13,if_neg h14,if_neg h15,if_neg h16,if_neg h17,if_neg h18,if_neg h19,if_pos h20]; exact VD _
 ·rw [if_neg h7,if_neg h8,if_neg h9,if_neg h10,if_neg h11,if_neg h12,if_neg h13,if_neg h14,if_neg h15,if_neg h16,if_neg h17,if_neg h18,if_neg h19,if_neg h20]; exact VD _
theorem eqc (a b:Nat):((a:Int) == (b:Int))=(a == b):=by
 rw [Bool.eq_iff_iff]; simp only [beq_iff_eq]; omega
theorem eqz (a:Nat):((a:Int) == 0)=(a == 0):=eqc a 0
theorem nec (a b:Nat):((a:Int) != (b:Int)) = !(a == b):=congrArg not (eqc a b)
theorem nez (a:Nat):((a:Int) != 0) = !(a == 0):=nec a 0
theorem ltc (a b:Nat):decide ((a:Int) < (b:Int))=decide (a < b):=by
 rw [Bool.eq_iff_iff]; simp only [decide_eq_true_eq]; omega
theorem lec (a b:Nat):decide ((a:Int)≤(b:Int))=decide (a≤b):=by
 rw [Bool.eq_iff_iff]; simp only [decide_eq_true_eq]; omega
theorem KH (G:Nat→AV) (b:Bool) (h:Hp):PCall (En G) 266 [.bool b] h (.int .i64 (tr b:Nat)):=by
 refine CE (H:=Hint.none) (enM G) Tryz.func266 rfl (by kernel_rfl) (by kernel_rfl) (nLb (by kernel_rfl)) ?_
 show awp _ _ _ _ _ (D9 _ [.tmp 2] _)
 cases b
 all_goals
  simp -implicitDefEqProofs only [BC,BA,BR,BK,BL,A8,CX,CP,DU,D5,AY,BB,AO,AQ,AL,BD,AX,AC,AA,AZ,AU,BI,BG,A7,BF,↓reduceIte,Nat.reduceEqDiff,oGs,bNf,enP]
  exact ⟨rfl,trivial⟩
theorem AET (G:Nat→AV) (op:Int) (a:Nat) (ha:a < 65536) (h:Hp):PCall (En G) 239 [.int .i64 op,.int .i64 (a:Nat)] h (.int .i64 (sgW op a:Nat)):=by
 refine CE (H:=Hint.none) (enM G) Tryz.func239 rfl (by kernel_rfl) (by kernel_rfl) (nLb (by kernel_rfl)) ?_
 show awp _ _ _ _ _ (D9 _ [.tmp 4] _)
 have hcase:op=4∨op=5∨op=6∨(op≠4∧op≠5∧op≠6):=by omega
 rcases hcase with rfl | rfl | rfl | ⟨n4,n5,n6⟩
 ·simp -implicitDefEqProofs only [BC,BV,BA,BL,A8,DU,AY,BB,AO,AQ,AL,BD,AX,AC,AA,AZ,AU,CB,BI,BG,A7,BU,CG,BP,AB,DX,BF,BO,lMc,lMn,lAn,↓reduceIte,Nat.reduceEqDiff,oGs,bNf,enP,Int.reduceBEq,eqz]
  refine (KH G _ h).use ?_
  simp -implicitDefEqProofs only [BK,A8,CX,ED,CP,AY,BB,AO,AQ,AL,BD,AX,AC,AA,AZ,A7,↓reduceIte,oGs,bNf]
  exact ⟨rfl,trivial⟩
 ·simp -implicitDefEqProofs only [BC,BV,BA,BL,A8,DU,D5,AY,BB,AO,AQ,AL,BD,AX,AC,AA,AZ,AU,CB,BI,BG,A7,BU,CG,BP,AB,DX,BF,BO,lMc,lMn,lAn,↓reduceIte,Nat.reduceEqDiff,oGs,bNf,enP,Int.reduceBEq]
  refine (AWI G a ha h).use ?_
  simp -implicitDefEqProofs only [BK,A8,CX,ED,CP,AY,BB,AO,AQ,AL,BD,AX,AC,AA,AZ,A7,↓reduceIte,oGs,bNf]
  exact ⟨rfl,trivial⟩
 ·simp -implicitDefEqProofs only [BC,BV,BA,BL,A8,DU,D5,AY,BB,AO,AQ,AL,BD,AX,AC,AA,AZ,AU,CB,BI,BG,A7,BU,CG,BP,AB,DX,BF,BO,lMc,lMn,lAn,↓reduceIte,Nat.reduceEqDiff,oGs,bNf,enP,Int.reduceBEq]
  refine (AWB G a ha h).use ?_
  simp -implicitDefEqProofs only [BK,A8,CX,ED,CP,AY,BB,AO,AQ,AL,BD,AX,AC,AA,AZ,A7,↓reduceIte,oGs,bNf]
  exact ⟨rfl,trivial⟩
 ·simp -implicitDefEqProofs only [BC,BV,BA,BR,BL,A8,EP,D5,AY,BB,AO,AQ,AL,BD,AX,AC,AA,AZ,AU,CB,BI,BG,A7,BU,CG,BP,AB,DX,BF,BO,lMc,lMn,lAn,↓reduceIte,Nat.reduceEqDiff,oGs,bNf,enP,beq_eq_false_iff_ne.2 n4,beq_eq_false_iff_ne.2 n5,beq_eq_false_iff_ne.2 n6]
  refine (AK9 G a ha h).use ?_
  simp -implicitDefEqProofs only [BK,A8,CP,AY,BB,AO,AQ,AL,BD,AX,AC,AA,AZ,A7,↓reduceIte,oGs,bNf]
  exact ⟨by unfold sgW; rw [if_neg n4,if_neg n5,if_neg n6],trivial⟩
set_option maxHeartbeats 4000000 in
theorem AGD (G:Nat→AV) (op:Int) (a b:Nat) (ha:a < 65536) (hb:b < 65536) (h:Hp):PCall (En G) 240 [.int .i64 op,.int .i64 (a:Nat),.int .i64 (b:Nat)] h (.int .i64 (dbW op a b:Nat)):=by
 refine CE (H:=Hint.none) (enM G) Tryz.func240 rfl (by kernel_rfl) (by kernel_rfl) (nLb (by kernel_rfl)) ?_
 show awp _ _ _ _ _ (D9 _ [.tmp 6] _)
 have hcase:op=7∨op=8∨op=9∨op=10∨op=11∨op=12∨op=13∨op=14∨op=15∨op=16∨op=17∨op=18∨op=19∨op=20∨(op < 7∨20 < op):=by omega
 rcases hcase with rfl | rfl | rfl | rfl | rfl | rfl | rfl | rfl | rfl | rfl | rfl | rfl | rfl | rfl | hop
 ·simp -implicitDefEqProofs only [BC,BV,BA,BL,A8,DU,AY,BB,AO,AQ,AL,BD,AX,AC,AA,AZ,AU,CB,BI,BG,A7,BU,CG,BP,AB,DX,BF,BO,lMc,lMn,lAn,↓reduceIte,Nat.reduceEqDiff,oGs,bNf,enP,Int.reduceBEq]
  refine (ATU G a b ha hb h).use ?_
  simp -implicitDefEqProofs only [BK,A8,CX,ED,CP,AY,BB,AO,AQ,AL,BD,AX,AC,AA,AZ,A7,↓reduceIte,oGs,bNf]
  exact ⟨rfl,trivial⟩
 ·simp -implicitDefEqProofs only [BC,BV,BA,BL,A8,DU,D5,AY,BB,AO,AQ,AL,BD,AX,AC,AA,AZ,AU,CB,BI,BG,A7,BU,CG,BP,AB,DX,BF,BO,lMc,lMn,lAn,↓reduceIte,Nat.reduceEqDiff,oGs,bNf,enP,Int.reduceBEq]
  refine (AVP G a b ha hb h).use ?_
  simp -implicitDefEqProofs only [BK,A8,CX,ED,CP,AY,BB,AO,AQ,AL,BD,AX,AC,AA,AZ,A7,↓reduceIte,oGs,bNf]
  exact ⟨rfl,trivial⟩
 ·simp -implicitDefEqProofs only [BC,BV,BA,BL,A8,DU,D5,AY,BB,AO,AQ,AL,BD,AX,AC,AA,AZ,AU,CB,BI,BG,A7,BU,CG,BP,AB,DX,BF,BO,lMc,lMn,lAn,↓reduceIte,Nat.reduceEqDiff,oGs,bNf,enP,Int.reduceBEq]
  refine (AWC G a b ha hb h).use ?_
  simp -implicitDefEqProofs only [BK,A8,CX,ED,CP,AY,BB,AO,AQ,AL,BD,AX,AC,AA,AZ,A7,↓reduceIte,oGs,bNf]
  exact ⟨rfl,trivial⟩
 ·simp -implicitDefEqProofs only [BC,BV,BA,BK,BL,A8,CX,ED,CP,DU,D5,AY,BB,AO,AQ,AL,BD,AX,AC,AA,AZ,AU,BI,BG,A7,BU,AB,DX,BF,BO,↓reduceIte,Nat.reduceEqDiff,oGs,bNf,enP,Int.reduceBEq,AXT a b ha hb]
  exact ⟨rfl,trivial⟩
 ·simp -implicitDefEqProofs only [BC,BV,BA,BK,BL,A8,CX,ED,CP,DU,D5,AY,BB,AO,AQ,AL,BD,AX,AC,AA,AZ,AU,BI,BG,A7,BU,AB,DX,BF,BO,↓reduceIte,Nat.reduceEqDiff,oGs,bNf,enP,Int.reduceBEq,AYL a b ha hb]
  exact ⟨rfl,trivial⟩
 ·simp -implicitDefEqProofs only [BC,BV,BA,BK,BL,A8,CX,ED,CP,DU,D5,AY,BB,AO,AQ,AL,BD,AX,AC,AA,AZ,AU,BI,BG,A7,BU,AB,DX,BF,BO,↓reduceIte,Nat.reduceEqDiff,oGs,bNf,enP,Int.reduceBEq,AVK a b ha hb]
  exact ⟨rfl,trivial⟩
 ·simp -implicitDefEqProofs only [BC,BV,BA,BL,A8,DU,D5,AY,BB,AO,AQ,AL,BD,AX,AC,AA,AZ,AU,CB,BI,BG,A7,BU,CG,BP,AB,DX,BF,BO,lMc,lMn,lAn,↓reduceIte,Nat.reduceEqDiff,oGs,bNf,enP,Int.reduceBEq]
  refine (AV0 G a (b:Nat) ha h).use ?_
  simp -implicitDefEqProofs only [BK,A8,CX,ED,CP,AY,BB,AO,AQ,AL,BD,AX,AC,AA,AZ,A7,↓reduceIte,oGs,bNf]
  exact ⟨rfl,trivial⟩
 ·simp -implicitDefEqProofs only [BC,BV,BA,BL,A8,DU,D5,AY,BB,AO,AQ,AL,BD,AX,AC,AA,AZ,AU,CB,BI,BG,A7,BU,CG,BP,AB,DX,BF,BO,lMc,lMn,lAn,↓reduceIte,Nat.reduceEqDiff,oGs,bNf,enP,Int.reduceBEq]
  refine (AVZ G a (b:Nat) ha h).use ?_
  simp -implicitDefEqProofs only [BK,A8,CX,ED,CP,AY,BB,AO,AQ,AL,BD,AX,AC,AA,AZ,A7,↓reduceIte,oGs,bNf]
  exact ⟨rfl,trivial⟩
 ·simp -implicitDefEqProofs only [BC,BV,BA,BL,A8,DU,D5,AY,BB,AO,AQ,AL,BD,AX,AC,AA,AZ,AU,CB,BI,BG,A7,BU,CG,BP,AB,DX,BF,BO,lMc,lMn,lAn,↓reduceIte,Nat.reduceEqDiff,oGs,bNf,enP,Int.reduceBEq,eqc,nec,ltc,lec]
  refine (KH G _ h).use ?_
  simp -implicitDefEqProofs only [BK,A8,CX,ED,CP,AY,BB,AO,AQ,AL,BD,AX,AC,AA,AZ,A7,↓reduceIte,oGs,bNf]
  exact ⟨rfl,trivial⟩
 ·simp -implicitDefEqProofs only [BC,BV,BA,BL,A8,DU,D5,AY,BB,AO,AQ,AL,BD,AX,AC,AA,AZ,AU,CB,BI,BG,A7,BU,CG,BP,AB,DX,EQ,BF,BO,lMc,lMn,lAn,↓reduceIte,Nat.reduceEqDiff,oGs,bNf,enP,Int.reduceBEq,eqc,nec,ltc,lec]
  refine (KH G _ h).use ?_
  simp -implicitDefEqProofs only [BK,A8,CX,ED,CP,AY,BB,AO,AQ,AL,BD,AX,AC,AA,AZ,A7,↓reduceIte,oGs,bNf]
  exact ⟨rfl,trivial⟩
 ·simp -implicitDefEqProofs only [BC,BV,BA,BL,A8,DU,D5,AY,BB,AO,AQ,AL,BD,AX,AC,AA,AZ,AU,CB,BI,BG,A7,BU,CG,BP,AB,DX,DT,BF,BO,lMc,lMn,lAn,↓reduceIte,Nat.reduceEqDiff,oGs,bNf,enP,Int.reduceBEq,eqc,nec,ltc,lec]
  refine (KH G _ h).use ?_
  simp -implicitDefEqProofs only [BK,A8,CX,ED,CP,AY,BB,AO,AQ,AL,BD,AX,AC,AA,AZ,A7,↓reduceIte,oGs,bNf]
  exact ⟨rfl,trivial⟩
 ·simp -implicitDefEqProofs only [BC,BV,BA,BL,A8,DU,D5,AY,BB,AO,AQ,AL,BD,AX,AC,AA,AZ,AU,CB,BI,BG,A7,BU,CG,BP,AB,DX,IV,BF,BO,lMc,lMn,lAn,↓reduceIte,Nat.reduceEqDiff,oGs,bNf,enP,Int.reduceBEq,eqc,nec,ltc,lec]
  refine (KH G _ h).use ?_
  simp -implicitDefEqProofs only [BK,A8,CX,ED,CP,AY,BB,AO,AQ,AL,BD,AX,AC,AA,AZ,A7,↓reduceIte,oGs,bNf]
  exact ⟨rfl,trivial⟩
 ·simp -implicitDefEqProofs only [BC,BV,BA,BL,A8,DU,D5,AY,BB,BH,BN,CO,AO,AQ,AL,BD,AX,AC,AA,AZ,AU,BI,BG,A7,BU,AB,DX,EQ,BF,BO,↓reduceIte,Nat.reduceEqDiff,oGs,bNf,enP,Int.reduceBEq,eqz,nez]
  cases h1:(a == 0) <;> cases h2:(b == 0)
  all_goals
   simp -implicitDefEqProofs only [AY,BH,BN,CO,FV,G5,AO,AQ,AL,BD,AX,AC,AA,EJ,AZ,AU,CB,BI,BJ,BG,CQ,DR,DN,BU,CG,BP,AB,EQ,BF,BO,lMc,lMn,lAn,↓reduceIte,Nat.reduceEqDiff,oGs,bNt,bNf,enP,h1,h2,nez]
   refine (KH G _ h).use ?_
   simp -implicitDefEqProofs only [BK,A8,CX,ED,CP,AY,BB,AO,AQ,AL,BD,AX,AC,AA,AZ,A7,↓reduceIte,oGs,bNf]
   exact ⟨by unfold dbW; rw [h1,h2]; rfl,trivial⟩
 ·simp -implicitDefEqProofs only [BC,BV,BA,BL,A8,DU,D5,AY,BB,BH,BN,CO,AO,AQ,AL,BD,AX,AC,AA,AZ,AU,BI,BG,A7,BU,AB,DX,EQ,BF,BO,↓reduceIte,Nat.reduceEqDiff,oGs,bNf,enP,Int.reduceBEq,eqz,nez]
  cases h1:(a == 0) <;> cases h2:(b == 0)
  all_goals
   simp -implicitDefEqProofs only [AY,BH,BN,CO,EG,FP,AO,AQ,AL,BD,AX,AC,AA,EJ,AZ,AU,CB,BI,BJ,BG,CQ,DR,DN,BU,CG,BP,AB,EQ,BF,BO,lMc,lMn,lAn,↓reduceIte,Nat.reduceEqDiff,oGs,bNt,bNf,enP,h1,h2,nez]
   refine (KH G _ h).use ?_
   simp -implicitDefEqProofs only [BK,A8,CX,ED,CP,AY,BB,AO,AQ,AL,BD,AX,AC,AA,AZ,A7,↓reduceIte,oGs,bNf]
   exact ⟨by unfold dbW; rw [h1,h2]; rfl,trivial⟩
 ·have hne : ∀ k:Int,7≤k→k≤20→(op == k)=false:=fun k _ _=>beq_eq_false_iff_ne.2 (by omega)
  have hd:dbW op a b=tr ((a == 0) || !(b == 0)):=by
   unfold dbW
   rw [if_neg (by omega : ¬ op=7),if_neg (by omega : ¬ op=8),if_neg (by omega : ¬ op=9),if_neg (by omega : ¬ op=10),if_neg (by omega : ¬ op=11),if_neg (by omega : ¬ op=12),if_neg (by omega : ¬ op=13),if_neg (by omega : ¬ op=14),if_neg (by omega : ¬ op=15),if_neg (by omega : ¬ op=16),if_neg (by omega : ¬ op=17),if_neg (by omega : ¬ op=18),if_neg (by omega : ¬ op=19),if_neg (by omega : ¬ op=20)]
  rw [hd]
  simp -implicitDefEqProofs only [BC,BV,BA,BR,BL,A8,EP,D5,AY,BB,BH,BN,CO,AO,AQ,AL,BD,AX,AC,AA,AZ,AU,BI,BG,A7,BU,AB,DX,BF,BO,↓reduceIte,Nat.reduceEqDiff,oGs,bNf,enP,hne 7 (by decide) (by decide),hne 8 (by decide) (by decide),hne 9 (by decide) (by decide),hne 10 (by decide) (by decide),hne 11 (by decide) (by decide),hne 12 (by decide) (by decide),hne 13 (by decide) (by decide),hne 14 (by decide) (by decide),hne 15 (by decide) (by decide),hne 16 (by decide) (by decide),hne 17 (by decide) (by decide),hne 18 (by decide) (by decide),hne 19 (by decide) (by decide),hne 20 (by decide) (by decide),eqz,nez]
  cases h1:(a == 0) <;> cases h2:(b == 0)
  all_goals
   simp -implicitDefEqProofs only [Bool.or_false,Bool.or_true,AY,BH,BN,CO,EG,FP,AO,AQ,AL,BD,AX,AC,AA,EJ,AZ,AU,CB,BI,BJ,BG,CQ,DR,DN,BU,CG,BP,AB,EQ,BF,BO,lMc,lMn,lAn,↓reduceIte,Nat.reduceEqDiff,oGs,bNt,bNf,enP,h1,h2,nez]
   refine (KH G _ h).use ?_
   simp -implicitDefEqProofs only [BK,A8,CP,AY,BB,AO,AQ,AL,BD,AX,AC,AA,AZ,A7,↓reduceIte,oGs,bNf]
   exact ⟨by first | trivial | rfl,trivial⟩
end Go.Proofs.YtocilianjfhifaaGreatDoor.Xe
set_option linter.unusedSimpArgs false
set_option maxRecDepth 8000
namespace Go.Proofs.YtocilianjfhifaaGreatDoor.Xe
open Sm Bins Cov Go.RowKit
theorem AUS:Frz encStr:=fun _ _ _ _=>⟨rfl,rfl⟩
theorem encStr0 (s:ByteArray):(encStr s)[0]? = some (.str s):=rfl
theorem ALK (G:Nat→AV) (xs:List ByteArray) (b:Nat) (v:ByteArray) (h:Hp) (hb:h[b]? = some (.live 1 (xs.map encStr))) (hl:xs.length≤1099511627776) :
  ∃ k:Int,PCall (En G) 257 [.own b 0 xs.length,.str v] h (.int .i64 k)∧decide (k≥0)=IQ xs v:=by
 have key : ∀ r:Int,(∀ i (hi:i < xs.length),(∀ j (hj:j < i),(v.toList == xs[j].toList)=false)→(v.toList == xs[i].toList)=true→r=(i:Int))→(IQ xs v=false→r = -1)→PCall (En G) 257 [.own b 0 xs.length,.str v] h (.int .i64 r):=by
  intro r hr hr0
  refine CE (H:=Hint.none) (enM G) Tryz.func257 rfl (by kernel_rfl) (by kernel_rfl) (nLb (by kernel_rfl)) ?_
  show awp _ _ _ _ _ (D9 _ [.tmp 4] _)
  simp -implicitDefEqProofs only [BC,BV,BA,A8,AY,BB,AO,AQ,AL,BD,AX,AC,AA,AZ,AU,BI,BG,A7,D8,AB,BF,↓reduceIte,Nat.reduceEqDiff,oGs,bNf,enP,XM]
  refine DY (fun n F H => ∃ k,n+k=xs.length∧F 0 = .own b 0 xs.length∧F 1 = .str v∧F 7 = .int .i64 (xs.length:Nat)∧F 8 = .int .i64 (k:Nat)∧H=h∧(∀ j (hj:j < xs.length),j < k→(v.toList == xs[j].toList)=false)∧IQ xs v=IQ (xs.drop k) v) xs.length ⟨0,by simp,by simp -implicitDefEqProofs only [AA,BF,↓reduceIte,Nat.reduceEqDiff],by simp -implicitDefEqProofs only [AA,BF,BO,↓reduceIte,Nat.reduceEqDiff],by simp -implicitDefEqProofs only [AA,↓reduceIte,Nat.reduceEqDiff],by simp -implicitDefEqProofs only [AA,↓reduceIte]; rfl,rfl,fun j _ hj=>by omega,rfl⟩ ?_
  rintro n F H ⟨k,hk,f0,f1,f7,f8,rfl,hbef,hin⟩
  simp -implicitDefEqProofs only [BC,BA,BL,A8,AY,BB,AO,AQ,AL,BD,AX,AC,AA,AZ,BU,AB,DT,↓reduceIte,oGs,bNf,enP,f7,f8]
  refine DC (fun hc => ?_) (fun hc => ?_)
  ·have hk':k < xs.length:=by simpa using hc
   have hs:IQ (xs.drop k) v=((v.toList == xs[k].toList) || IQ (xs.drop (k+1)) v):=PG _ xs k hk'
   have l1:DL Tryz.prog H 9 (.ptr b k 0)=some (.str xs[k]):=by rw [DK ag9 hb (row:=encStr xs[k]) (NE hk')]; rfl
   simp -implicitDefEqProofs only [BC,BV,BA,BR,BL,A8,AY,BB,AO,AQ,AL,BD,AX,AC,AA,AZ,BG,A7,BQ,BU,CV,AB,MP,↓reduceIte,Nat.reduceEqDiff,Nat.zero_add,oGs,bNf,enP,ABV,f0,f1,f8,LJ hb hk',l1]
   refine DC (fun hx => ?_) (fun hx => ?_)
   ·simp -implicitDefEqProofs only [BC,BA,BK,A8,CX,ED,FY,CP,AY,BB,AO,AQ,AL,BD,AX,AC,AA,AZ,BG,A7,↓reduceIte,Nat.reduceEqDiff,oGs,bNf]
    exact ⟨by rw [hr k hk' (fun j hj=>hbef j (by omega) hj) hx],trivial⟩
   ·simp -implicitDefEqProofs only [BA,BR,A8,EP,FC,AY,BB,AO,AQ,AL,BD,AX,AC,AA,AZ,AU,BI,BG,BU,AB,DV,↓reduceIte,Nat.reduceEqDiff,oGs,bNf,enP,f8,wrap_succ (show k < 9223372036854775807 by omega)]
    refine ⟨n - 1,by omega,k+1,by omega,by first | exact f0 | trivial,by first | exact f1 | trivial,by first | exact f7 | trivial,rfl,trivial,fun j hj hjk => ?_,by rw [hin,hs,hx,Bool.false_or]⟩
    rcases Nat.lt_or_ge j k with h1 | h1
    ·exact hbef j hj h1
    ·have:j=k:=by omega
     subst this; exact hx
  ·have hk' : ¬ k < xs.length:=by simpa using hc
   simp -implicitDefEqProofs only [BC,BA,BK,DW,A8,ER,FN,FM,CP,AY,BB,AO,AQ,AL,BD,AX,AC,AA,AU,BI,A7,↓reduceIte,oGs,bNf]
   refine ⟨?_,trivial⟩
   rw [hr0 (by rw [hin,List.drop_eq_nil_of_le (by omega)]; rfl)]
 by_cases hh:IQ xs v=true
 ·obtain ⟨i,hi⟩ : ∃ i,xs.findIdx? (fun u=>v.toList == u.toList)=some i:=by
   cases he:xs.findIdx? (fun u=>v.toList == u.toList) with
   | some i=>exact ⟨i,rfl⟩
   | none =>
     rw [List.findIdx?_eq_none_iff] at he
     unfold IQ at hh
     rw [List.any_eq_true] at hh
     obtain ⟨x,hx,hz⟩:=hh
     rw [he x hx] at hz; cases hz
  obtain ⟨hil,hiz,hbef⟩:=List.findIdx?_eq_some_iff_getElem.1 hi
  refine ⟨(i:Int),key i (fun k hk hb' hx => ?_) (fun h0=>by rw [hh] at h0; cases h0),by rw [hh]; simp⟩
  rcases Nat.lt_trichotomy i k with h1 | h1 | h1
  ·have:=hb' i h1; rw [hiz] at this; cases this
  ·rw [h1]
  ·have:=hbef k h1; rw [hx] at this; simp at this
 ·have hh':IQ xs v=false:=by simpa using hh
  refine ⟨-1,key (-1) (fun k hk _ hx => ?_) (fun _=>rfl),by rw [hh']; decide⟩
  unfold IQ at hh'
  rw [List.any_eq_false] at hh'
  exact absurd hx (hh' xs[k] (List.getElem_mem hk))
theorem ALM (G:Nat→AV) (k:Nat) (v:ByteArray) (h:Hp):PCall (En G) 257 [.sl .nil k [],.str v] h (.int .i64 (-1)):=by
 refine CE (H:=Hint.none) (enM G) Tryz.func257 rfl (by kernel_rfl) (by kernel_rfl) (nLb (by kernel_rfl)) ?_
 show awp _ _ _ _ _ (D9 _ [.tmp 4] _)
 simp -implicitDefEqProofs only [BC,BV,BA,A8,AY,BB,AO,AQ,AL,BD,AX,AC,AA,AZ,AU,BI,BG,A7,D8,AB,BF,↓reduceIte,Nat.reduceEqDiff,oGs,bNf,enP,XM,List.length_nil]
 refine DY (fun n F H=>F 7 = .int .i64 0∧F 8 = .int .i64 0∧H=h) 0 ⟨by simp -implicitDefEqProofs only [AA,↓reduceIte,Nat.reduceEqDiff] <;> rfl,by simp -implicitDefEqProofs only [AA,↓reduceIte],rfl⟩ ?_
 rintro n F H ⟨f7,f8,rfl⟩
 have hc:((0:Int) < 0)=False:=by simp
 simp -implicitDefEqProofs only [BC,BA,BK,DW,BL,A8,ER,FN,FM,CP,D5,AY,BB,AO,AQ,AL,BD,AX,AC,AA,AZ,AU,BI,A7,BU,AB,DT,↓reduceIte,oGs,bNf,decide_false,enP,f7,f8,hc,decide_false]
 exact ⟨by first | trivial | rfl,trivial⟩
theorem AWX (G:Nat→AV) {h0 h:Hp} {ns:List ByteArray} {u:AV} (ho:outG 1 encStr h0 ns u h) (v:ByteArray) (hl:ns.length≤8388608):PCall (En G) 229 [u,.str v] h (.bool (IQ ns v)):=by
 have hi : ∃ k:Int,PCall (En G) 257 [u,.str v] h (.int .i64 k)∧decide (k≥0)=IQ ns v:=by
  rcases ho with ⟨rfl,rfl⟩ | ⟨_,o,_,rfl,hb⟩
  ·exact ⟨-1,ALM G 0 v h,rfl⟩
  ·exact ALK G ns o v h hb (by omega)
 obtain ⟨k,hk,hd⟩:=hi
 refine CE (H:=Hint.none) (enM G) Tryz.func229 rfl (by kernel_rfl) (by kernel_rfl) (nLb (by kernel_rfl)) ?_
 show awp _ _ _ _ _ (D9 _ [.tmp 4] _)
 simp -implicitDefEqProofs only [BC,BA,A8,AY,BB,AO,AQ,AL,BD,AX,AC,AA,AZ,AU,CB,BJ,BG,A7,CG,BP,BF,BO,lMc,lMn,lAn,↓reduceIte,Nat.reduceEqDiff,oGs,bNf,enP]
 refine hk.use ?_
 simp -implicitDefEqProofs only [BK,A8,CP,AY,BB,AO,AQ,AL,BD,AX,AC,AA,AZ,AU,BI,A7,BU,AB,G6,↓reduceIte,oGs,bNf,enP,hd]
 exact ⟨trivial,trivial⟩
def nmU (ops:List Int) (ns:List ByteArray) (e:Ex):List ByteArray:=if (Rk.hasB ops e.op && !IQ ns e.name)=true then ns ++ [e.name] else ns
def nmL (ops:List Int) (ns:List ByteArray) (l:List Ex):List ByteArray:=l.foldl (nmU ops) ns
theorem AJN (ops:List Int) (ns:List ByteArray) (e:Ex):(nmU ops ns e).length≤ns.length+1:=by
 unfold nmU; split <;> simp
theorem YJ (ops:List Int) : ∀ (l:List Ex) (ns:List ByteArray),(nmL ops ns l).length≤ns.length+l.length
 | [],ns=>by simp [nmL]
 | e :: l,ns=>by
   have h1:=YJ ops l (nmU ops ns e)
   have h2:=AJN ops ns e
   simp only [nmL,List.foldl_cons,List.length_cons] at h1 ⊢
   omega
theorem ARB (ops:List Int) (ns:List ByteArray) (l r:List Ex):nmL ops ns (l ++ r)=nmL ops (nmL ops ns l) r:=List.foldl_append
structure NSt (h0:Hp) (c:Nat) (ns:List ByteArray) (v:AV) (h:Hp):Prop where
 cell:h[c]? = some (.live 1 [[v]])
 out:outG 1 encStr h0 ns v h
 base:h0.length≤c
 ex:ext h0 h
abbrev Cn (c:Nat) (v:AV) (h:Hp) (v':AV) (h':Hp):Prop:=Ch c v .nilfn h v' .nilfn h'
theorem NSt.ne {h0 h:Hp} {c b k:Nat} {ns:List ByteArray} {v:AV} {row:List AV} (s:NSt h0 c ns v h) (hb:h[b]? = some (.live k [row])) (hr:k≠1∨∀ x,row≠[.str x]) : ¬ isB v b:=by
 intro hi
 rcases s.out with ⟨_,rfl⟩ | ⟨hne,o,_,rfl,ho⟩
 ·exact hi
 ·have e:o=b:=hi
  subst e
  rw [ho] at hb
  injection Option.some.inj hb with e1 e2
  rcases hr with hr | hr
  ·exact hr e1.symm
  ·match ns,e2 with
   | [x],e2=>simp [encStr] at e2; exact hr x e2.symm
theorem NSt.app {h0 h:Hp} {c:Nat} {ns:List ByteArray} {v:AV} (s:NSt h0 c ns v h) (x:Hp):NSt h0 c ns v (h ++ x):=⟨FH s.cell,s.out.app x,s.base,s.ex.app x⟩
theorem NSt.cne {h0 h:Hp} {c:Nat} {ns:List ByteArray} {v:AV} (s:NSt h0 c ns v h) : ¬ isB v c:=by
 refine s.ne s.cell (.inr fun x e => ?_)
 rcases s.out with ⟨_,rfl⟩ | ⟨_,o,_,rfl,_⟩ <;> simp at e
theorem Cn.keep {c b:Nat} {h h':Hp} {v v':AV} {x:ABlk} (hc:Cn c v h v' h') (hb:h[b]? = some x) (hne:b≠c) (hn : ¬ isB v b):h'[b]? = some x:=by
 rw [hc.get b (BZ hb) hne hn (fun e=>e)]; exact hb
theorem AEG (G:Nat→AV) (ops:List Int) (hops:ops.length≤1048576) (h0:Hp) (c ob:Nat) (s0:SM) (e:Ex) (h:Hp) (ns:List ByteArray) (v:AV) (S:NSt h0 c ns v h) (hob:h[ob]? = some (.live 1 [[.sl s0 1 (ops.map encI)]])) (hn:ns.length < 8388608) :
  ACalls (En G) 261 [.agg (EH e),.ptr ob 0 0,.ptr c 0 0] h fun r h'=>r = .bool true∧∃ v',Cn c v h v' h'∧NSt h0 c (nmU ops ns e) v' h':=by
 refine CE (H:=Hint.none) (enM G) Tryz.func261 rfl (by kernel_rfl) (by kernel_rfl) (nLb (by kernel_rfl)) ?_
 show awp _ _ _ _ _ (D9 _ [.tmp 4] _)
 have S1:=S.app [ABlk.live 4 [EH e]]
 have hob1:(h ++ [ABlk.live 4 [EH e]])[ob]? = _:=CJ hob
 have hC1:Cn c v h v (h ++ [ABlk.live 4 [EH e]]):=Ch.app c v .nilfn h _
 have ge:=C9 h (ABlk.live 4 [EH e])
 have hcl:=BZ S.cell
 simp -implicitDefEqProofs only [BC,BA,A8,AY,BB,AO,AQ,AL,BD,AX,AC,AA,AZ,AU,BJ,A7,FX,BQ,BX,BF,BO,↓reduceIte,Nat.reduceEqDiff,oGs,bNf,enP,bxE]
 generalize h ++ [ABlk.live 4 [EH e]]=H at S1 hob1 hC1 ge ⊢
 have l0:DL Tryz.prog H 3 (.ptr h.length 0 0)=some (.int .i64 e.op):=by rw [DK ag3 ge (row:=EH e) rfl,JF]
 have l2:DL Tryz.prog H 9 (.ptr h.length 0 2)=some (.str e.name):=by rw [DK ag9 ge (row:=EH e) rfl,PD]
 simp -implicitDefEqProofs only [AY,AO,AQ,AL,BD,AX,AC,AA,AZ,CB,BQ,BM,CG,BP,AB,lMc,lMn,lAn,↓reduceIte,Nat.reduceEqDiff,Nat.add_zero,oGs,bNf,enP,H6,IU NR hob1,l0]
 refine (Rk.contains_rank G ops s0 e.op H hops).use ?_
 simp -implicitDefEqProofs only [AY,BH,BN,CO,AO,AQ,AL,BD,AX,AC,AA,AZ,BG,↓reduceIte,oGs,bNf]
 have key : ∀ b1 b2:Bool,Rk.hasB ops e.op=b1→IQ ns e.name=b2→(b1 && !b2)=false→nmU ops ns e=ns:=fun b1 b2 e1 e2 e3=>by
  unfold nmU; rw [e1,e2,e3]; simp
 cases hb1:Rk.hasB ops e.op
 ·simp -implicitDefEqProofs only [BC,BA,BR,BK,BL,A8,CP,D5,AY,BB,BH,BN,CO,G5,AO,AQ,AL,BD,AX,AC,AA,EJ,AZ,AU,BJ,A7,CQ,DN,↓reduceIte,Nat.reduceEqDiff,oGs,bNf]
  exact ⟨trivial,v,hC1,by rw [key _ _ hb1 rfl rfl]; exact S1⟩
 simp -implicitDefEqProofs only [BH,BN,CO,FV,AO,AQ,AL,BD,AX,AC,AA,AZ,CB,BQ,BM,CG,BP,AB,BF,BO,lMc,lMn,lAn,↓reduceIte,Nat.reduceEqDiff,Nat.zero_add,oGs,bNf,enP,KR,IU ACK S1.cell,l2]
 refine (AWX G S1.out e.name (by omega)).use ?_
 simp -implicitDefEqProofs only [BL,A8,AY,BB,BH,BN,CO,FV,AO,AQ,AL,BD,AX,AC,AA,AZ,AU,BJ,CQ,DR,GV,AB,EX,↓reduceIte,Nat.reduceEqDiff,oGs,bNf]
 cases hb2:IQ ns e.name
 ·have hu:nmU ops ns e=ns ++ [e.name]:=by unfold nmU; rw [hb1,hb2]; rfl
  obtain ⟨v',H',ha,ho,hk,hex,hle,hnew⟩:=S1.out.append (P:=Tryz.prog) AMW sz9 AMK AO9 (by omega) hn S1.ex e.name
  have ha':GI Tryz.prog true H 179 179 v (.sl .full 1 [[.str e.name]])=some (v',H'):=ha
  have hc':=hk c _ S1.cell S1.cne
  have hcl2:=BZ S1.cell
  have hac:H7 v'=some [v']:=by
   rcases ho with ⟨_,rfl⟩ | ⟨_,o,_,rfl,_⟩ <;> rfl
  simp -implicitDefEqProofs only [FI,FQ,BC,BA,BK,A8,CP,DU,AY,BB,AO,AQ,AL,BD,AX,AC,EM,AA,AZ,AU,BJ,A7,EE,BQ,D6,BM,H9,BX,AB,DI,BF,BO,↓reduceIte,Nat.reduceEqDiff,Nat.zero_add,oGs,bNf,enP,KR,Option.getD_none,IU ACK S1.cell,l2,APE,ha',PM AM4 hac hc']
  refine ⟨trivial,v',hC1.trans ⟨by simpa using hle,fun b hb hbc hbv _ => ?_,fun b hb => .inr (by rw [hnew b hb]; exact Nat.le_refl _),fun b hb=>hb.elim⟩,?_⟩
  ·rw [List.getElem?_set,if_neg (fun e=>hbc e.symm),List.getElem?_eq_getElem hb]
   exact hk b _ (List.getElem?_eq_getElem hb) hbv
  ·rw [hu]
   exact ⟨DZ hc',ho.keep fun b hb=>by rw [List.getElem?_set,if_neg (fun e=>by have:=hnew b hb; omega)],S1.base,hex.set S1.base _⟩
 ·simp -implicitDefEqProofs only [BC,BA,BR,BK,A8,CP,D5,AY,BB,AO,AQ,AL,BD,AX,AC,AA,AU,BJ,A7,↓reduceIte,oGs,bNt,bNf]
  exact ⟨trivial,v,hC1,by rw [key _ _ hb1 hb2 rfl]; exact S1⟩
theorem ANT (ops:List Int) (ns:List ByteArray) (e:Ex):nmL ops ns (pre e)=nmL ops (nmU ops ns e) (JB e.args):=by rw [pre_eq]; rfl
theorem AIF (G:Nat→AV) (ops:List Int) (hops:ops.length≤1048576) (h0:Hp) (c ob vb db:Nat) (s0:SM) (hv:vb≠c) (hd:db≠c) (hoc:ob≠c) (e:Ex) :
  wt e≤1099511627776→∀ (h:Hp) (ns:List ByteArray) (v:AV),NSt h0 c ns v h→h[ob]? = some (.live 1 [[.sl s0 1 (ops.map encI)]])→ns.length+(pre e).length≤8388608 →
   h[vb]? = some (.live 1 [[.fn (.func 261) [] [.ptr ob 0 0,.ptr c 0 0]]])→h[db]? = some (.live 1 [[.fn (.func 230) [] [.ptr vb 0 0,.ptr db 0 0]]]) →
   ACalls (En G) 230 [.agg (EH e),.ptr vb 0 0,.ptr db 0 0] h fun r h'=>r = .bool true∧∃ v',Cn c v h v' h'∧NSt h0 c (nmL ops ns (pre e)) v' h':=by
 induction e using Ex.induct with | h e ih => ?_
 intro hw h ns v S hob hlen hvb hdb
 have hcl:=BZ S.cell
 have hal:e.args.length≤1099511627776:=by have:=S9 e.args; have:=LY e; omega
 have hpe:(pre e).length=(JB e.args).length+1:=by rw [pre_eq]; rfl
 have hfn : ∀ (k:FuncId) (a b:List AV) (x:ByteArray),[AV.fn (.func k) a b]≠[.str x]:=fun _ _ _ _ q=>by simp at q
 have hsl : ∀ (xs:List (List AV)) (x:ByteArray),[AV.sl s0 1 xs]≠[.str x]:=fun _ _ q=>by simp at q
 refine CE (H:=Hint.none) (enM G) Tryz.func230 rfl (by kernel_rfl) (by kernel_rfl) (nLb (by kernel_rfl)) ?_
 show awp _ _ _ _ _ (D9 _ [.tmp 4] _)
 have S0:=S.app [ABlk.live 4 [EH e]]
 simp -implicitDefEqProofs only [BC,BA,A8,AY,BB,AO,AQ,AL,BD,AX,AC,AA,AZ,AU,BJ,A7,FX,BQ,CG,BP,BX,AB,BF,BO,lMc,lMn,List.nil_append,List.cons_append,↓reduceIte,Nat.reduceEqDiff,oGs,bNf,enP,bxE,IU ACJ (CJ hvb),ldE]
 refine (AEG G ops hops h0 c ob s0 e _ ns v S0 (CJ hob) (by omega)).mono ?_
 rintro r h1 ⟨rfl,v1,hch,S1⟩
 have hch0:Cn c v h v1 h1:=(Ch.app c v .nilfn h _).trans hch
 have hb3:h1[h.length]? = some (.live 4 [EH e]):=hch.keep (C9 _ _) (by omega) (S0.ne (C9 _ _) (.inl (by decide)))
 have hvb1:=hch0.keep hvb hv (S.ne hvb (.inr (hfn _ _ _)))
 have hdb1:=hch0.keep hdb hd (S.ne hdb (.inr (hfn _ _ _)))
 have hob1:=hch0.keep hob hoc (S.ne hob (.inr (hsl _)))
 have l3:DL Tryz.prog h1 51 (.ptr h.length 0 3)=some (.sl e.m 4 (e.args.map EH)):=by rw [DK AGW hb3 (row:=EH e) rfl,XV]
 have hn1:=AJN ops ns e
 simp -implicitDefEqProofs only [BC,BV,BA,BR,BL,A8,D5,AY,BB,AO,AQ,AL,BD,AX,AC,AA,AZ,AU,BI,BG,BQ,GV,BM,D8,AB,EX,↓reduceIte,Nat.reduceEqDiff,Nat.zero_add,oGs,bNt,bNf,enP,AC4,O7,l3,lLm]
 refine DY (fun n F H => ∃ j v',n+j=e.args.length∧F 1 = .ptr vb 0 0∧F 2 = .ptr db 0 0∧F 12 = .sl e.m 4 (e.args.map EH)∧F 13 = .int .i64 e.args.length∧F 14 = .int .i64 (j:Nat)∧Cn c v h v' H∧NSt h0 c (nmL ops (nmU ops ns e) (JB (e.args.take j))) v' H∧H[vb]? = some (.live 1 [[.fn (.func 261) [] [.ptr ob 0 0,.ptr c 0 0]]])∧H[db]? = some (.live 1 [[.fn (.func 230) [] [.ptr vb 0 0,.ptr db 0 0]]])∧H[ob]? = some (.live 1 [[.sl s0 1 (ops.map encI)]])) e.args.length
  ⟨0,v1,by simp,by simp -implicitDefEqProofs only [AA,BF,BO,↓reduceIte,Nat.reduceEqDiff],by simp -implicitDefEqProofs only [AA,BF,BO,↓reduceIte,Nat.reduceEqDiff],by simp -implicitDefEqProofs only [AA,↓reduceIte,Nat.reduceEqDiff],by simp -implicitDefEqProofs only [AA,↓reduceIte,Nat.reduceEqDiff],by simp -implicitDefEqProofs only [AA,↓reduceIte]; rfl,hch0,S1,hvb1,hdb1,hob1⟩ ?_
 rintro n F H ⟨j,v',hj,f1,f2,f12,f13,f14,hC,SH,hvH,hdH,hoH⟩
 simp -implicitDefEqProofs only [BC,BA,BL,A8,AY,BB,AO,AQ,AL,BD,AX,AC,AA,AZ,BU,AB,DT,↓reduceIte,oGs,bNf,enP,f13,f14]
 refine DC (fun hlt => ?_) (fun hlt => ?_)
 ·have hj':j < e.args.length:=by simpa using hlt
  have hmem:e.args[j]∈e.args:=List.getElem_mem hj'
  have hsplit:JB e.args=JB (e.args.take j) ++ (pre e.args[j] ++ JB (e.args.drop (j+1))):=by
   rw [← List.append_assoc,← OM _ _ hj',← PO,List.take_append_drop]
  have hln:=YJ ops (JB (e.args.take j)) (nmU ops ns e)
  have hls:(JB e.args).length=(JB (e.args.take j)).length+((pre e.args[j]).length+(JB (e.args.drop (j+1))).length):=by rw [hsplit,List.length_append,List.length_append]
  simp -implicitDefEqProofs only [BC,BV,BA,BR,A8,AY,BB,AO,AQ,AL,BD,AX,AC,EM,AA,AZ,EZ,BQ,D6,CV,CG,BP,BX,AB,DI,lMc,lMn,List.nil_append,List.cons_append,↓reduceIte,Nat.reduceEqDiff,oGs,bNf,enP,ALF,Option.getD_none,f12,f14,EF hj',FK AAM VF I8 hj',ASW,AQL _ _ [.int .i64 0,.int .i64 0,.str ⟨#[]⟩,.sl .nil 0 []] rfl,f2,IU ACJ (CJ hdH),ldE]
  have SH1:=SH.app [ABlk.live 4 [EH e.args[j]]]
  refine (ih e.args[j] hmem (by have:=QK hmem; have:=LY e; omega) _ _ v' SH1 (CJ hoH) (by omega) (CJ hvH) (CJ hdH)).mono ?_
  rintro r h2 ⟨rfl,v2,hch2,S2⟩
  have hch2':Cn c v' H v2 h2:=(Ch.app c v' .nilfn H _).trans hch2
  have hvH2:=hch2'.keep hvH hv (SH.ne hvH (.inr (hfn _ _ _)))
  have hdH2:=hch2'.keep hdH hd (SH.ne hdH (.inr (hfn _ _ _)))
  have hoH2:=hch2'.keep hoH hoc (SH.ne hoH (.inr (hsl _)))
  simp -implicitDefEqProofs only [BA,BR,BL,A8,EP,FC,D5,AY,BB,AO,AQ,AL,BD,AX,AC,AA,AZ,AU,BI,BG,BU,GV,AB,DV,EX,↓reduceIte,Nat.reduceEqDiff,oGs,bNt,bNf,enP,f1,f2,f12,f13,f14,wrap_succ (show j < 9223372036854775807 by omega)]
  refine ⟨n - 1,by omega,j+1,v2,by omega,trivial,trivial,trivial,trivial,rfl,hC.trans hch2',?_,hvH2,hdH2,hoH2⟩
  rw [OM _ _ hj',ARB]; exact S2
 ·have hj' : ¬ j < e.args.length:=by simpa using hlt
  simp -implicitDefEqProofs only [BC,BA,BK,DW,A8,ER,FN,FM,CP,AY,BB,AO,AQ,AL,BD,AX,AC,AA,AU,BJ,A7,↓reduceIte,oGs,bNf]
  rw [List.take_of_length_le (by omega),← ANT] at SH
  exact ⟨trivial,v',hC,SH⟩
theorem AG6 (G:Nat→AV) (ops:List Int) (hops:ops.length≤1048576) (h0:Hp) (c ob:Nat) (s0:SM) (hoc:ob≠c) (e:Ex) (hw:wt e≤1048576) (h:Hp) (ns:List ByteArray) (v:AV) (S:NSt h0 c ns v h) (hob:h[ob]? = some (.live 1 [[.sl s0 1 (ops.map encI)]])) (hn:ns.length≤1048576) :
  ACalls (En G) 196 [.agg (EH e),.fn (.func 261) [] [.ptr ob 0 0,.ptr c 0 0]] h fun _ h' => ∃ v',Cn c v h v' h'∧NSt h0 c (nmL ops ns (pre e)) v' h':=by
 have hcl:=BZ S.cell
 have hol:=BZ hob
 refine CE (H:=Hint.none) (enM G) Tryz.func196 rfl (by kernel_rfl) (by kernel_rfl) (nLb (by kernel_rfl)) ?_
 show awp _ _ _ _ _ (D9 _ [] _)
 generalize hfv:AV.fn (.func 261) [] [.ptr ob 0 0,.ptr c 0 0]=fv
 have hbx : ∀ H:Hp,NU H fv=some (.ptr H.length 0 0,H ++ [.live 1 [[fv]]]):=fun H=>by rw [← hfv]; rfl
 simp -implicitDefEqProofs only [BC,BA,A8,AY,BB,AO,AQ,AL,BD,AX,AC,AA,AZ,EZ,FX,D6,G8,BX,BF,BO,lMc,lMn,↓reduceIte,Nat.reduceEqDiff,oGs,bNf,enP,Option.getD_none,bxE,hbx,ATS]
 have g0:(h ++ [ABlk.live 4 [EH e]] ++ [ABlk.live 1 [[fv]]] ++ [ABlk.live 1 [[AV.nilfn]]])[(h ++ [ABlk.live 4 [EH e]] ++ [ABlk.live 1 [[fv]]]).length]? = some (.live 1 [[.nilfn]]):=C9 _ _
 simp -implicitDefEqProofs only [BA,A8,AY,BB,AO,AQ,AL,BD,AX,EM,AA,AZ,BQ,DI,↓reduceIte,Nat.reduceEqDiff,oGs,bNf,enP,PM ATB (ATW _ _ _) g0]
 have S3:=((S.app [ABlk.live 4 [EH e]]).app [ABlk.live 1 [[fv]]]).app [ABlk.live 1 [[AV.nilfn]]]
 have c3:Cn c v h v (h ++ [ABlk.live 4 [EH e]] ++ [ABlk.live 1 [[fv]]] ++ [ABlk.live 1 [[AV.nilfn]]]):=((Ch.app c v .nilfn h _).trans (Ch.app _ _ _ _ _)).trans (Ch.app _ _ _ _ _)
 have v3:(h ++ [ABlk.live 4 [EH e]] ++ [ABlk.live 1 [[fv]]] ++ [ABlk.live 1 [[AV.nilfn]]])[(h ++ [ABlk.live 4 [EH e]]).length]? = some (.live 1 [[fv]]):=CJ (C9 _ _)
 have e3:(h ++ [ABlk.live 4 [EH e]] ++ [ABlk.live 1 [[fv]]] ++ [ABlk.live 1 [[AV.nilfn]]])[h.length]? = some (.live 4 [EH e]):=CJ (CJ (C9 _ _))
 have o3:(h ++ [ABlk.live 4 [EH e]] ++ [ABlk.live 1 [[fv]]] ++ [ABlk.live 1 [[AV.nilfn]]])[ob]? = some (.live 1 [[.sl s0 1 (ops.map encI)]]):=CJ (CJ (CJ hob))
 have hdl:(h ++ [ABlk.live 4 [EH e]] ++ [ABlk.live 1 [[fv]]]).length=h.length+2:=by simp
 have hvl:(h ++ [ABlk.live 4 [EH e]]).length=h.length+1:=by simp
 generalize (h ++ [ABlk.live 4 [EH e]] ++ [ABlk.live 1 [[fv]]]).length=db at g0 hdl ⊢
 generalize (h ++ [ABlk.live 4 [EH e]]).length=vb at v3 hvl ⊢
 generalize h ++ [ABlk.live 4 [EH e]] ++ [ABlk.live 1 [[fv]]] ++ [ABlk.live 1 [[AV.nilfn]]]=H at g0 S3 c3 v3 e3 o3 ⊢
 have hdn : ¬ isB v db:=S3.ne g0 (.inr fun x q=>by simp at q)
 generalize hH:H.set db (.live 1 [[AV.fn (.func 230) [] [.ptr vb 0 0,.ptr db 0 0]]])=H'
 have gd:H'[db]? = some (.live 1 [[.fn (.func 230) [] [.ptr vb 0 0,.ptr db 0 0]]]):=by rw [← hH]; exact DZ g0
 have gv:H'[vb]? = some (.live 1 [[fv]]):=by rw [← hH]; exact CU v3 (by omega)
 have ge:H'[h.length]? = some (.live 4 [EH e]):=by rw [← hH]; exact CU e3 (by omega)
 have go:H'[ob]? = some (.live 1 [[.sl s0 1 (ops.map encI)]]):=by rw [← hH]; exact CU o3 (by omega)
 have hb0:=S.ex.le
 have S4:NSt h0 c ns v H':=by
  rw [← hH]
  exact ⟨CU S3.cell (by omega),S3.out.keep fun b hb=>by rw [List.getElem?_set,if_neg (fun q=>hdn (by rw [q]; exact hb))],S3.base,S3.ex.set (by omega) _⟩
 have c4:Cn c v h v H':=by
  rw [← hH]
  exact ⟨by have:=c3.len; simpa using this,fun b hb hbc hbv hbu=>by rw [List.getElem?_set,if_neg (by omega)]; exact c3.get b hb hbc hbv hbu,fun _ q => .inl q,fun _ q => .inl q⟩
 simp -implicitDefEqProofs only [AY,AO,AQ,AL,BD,AX,AC,AA,AZ,BQ,CG,BP,AB,lMc,lMn,List.nil_append,List.cons_append,↓reduceIte,Nat.reduceEqDiff,oGs,bNf,enP,IU ACJ gd,ML ge]
 rw [← hfv] at gv
 have hp:=ACY e
 refine (AIF G ops hops h0 c ob vb db s0 (by omega) (by omega) hoc e (by omega) H' ns v S4 go (by omega) gv gd).mono ?_
 rintro r h' ⟨rfl,v',hch,S5⟩
 simp -implicitDefEqProofs only [ADN,BB,AC]
 exact ⟨v',c4.trans hch,S5⟩
theorem AXX (h:Hp):I9 Tryz.prog h 179=some (.ptr h.length 0 0,h ++ [.live 1 [[.sl .nil 0 []]]]):=IY (row := [.sl .nil 0 []]) (by kernel_rfl)
theorem ZC (G:Nat→AV) (ops:List Int) (hops:ops.length≤1048576) (s0:SM) (e:Ex) (hw:wt e≤1048576) (h:Hp):PCall (En G) 236 [.agg (EH e),.sl s0 1 (ops.map encI)] h (.sl (nm (nmL ops [] (pre e))) 1 ((nmL ops [] (pre e)).map encStr)):=by
 refine TF AUS ?_
 refine CE (H:=Hint.none) (enM G) Tryz.func236 rfl (by kernel_rfl) (by kernel_rfl) (nLb (by kernel_rfl)) ?_
 show awp _ _ _ _ _ (D9 _ [.tmp 4] _)
 have ge:=CJ (x:=ABlk.live 1 [[.sl .nil 0 []]]) (CJ (x:=ABlk.live 1 [[AV.sl s0 1 (ops.map encI)]]) (C9 h (.live 4 [EH e])))
 have go:=CJ (x:=ABlk.live 1 [[.sl .nil 0 []]]) (C9 (h ++ [ABlk.live 4 [EH e]]) (ABlk.live 1 [[AV.sl s0 1 (ops.map encI)]]))
 have gc:=C9 (h ++ [ABlk.live 4 [EH e]] ++ [ABlk.live 1 [[AV.sl s0 1 (ops.map encI)]]]) (ABlk.live 1 [[.sl .nil 0 []]])
 have hx:ext h (h ++ [ABlk.live 4 [EH e]] ++ [ABlk.live 1 [[AV.sl s0 1 (ops.map encI)]]] ++ [ABlk.live 1 [[.sl .nil 0 []]]]):=(((ext.rfl' h).app _).app _).app _
 have hol:(h ++ [ABlk.live 4 [EH e]]).length=h.length+1:=by simp
 have hcl:(h ++ [ABlk.live 4 [EH e]] ++ [ABlk.live 1 [[AV.sl s0 1 (ops.map encI)]]]).length=h.length+2:=by simp
 simp -implicitDefEqProofs only [APF,BC,BA,A8,AY,BB,AO,AQ,AL,BD,AX,AC,AA,AZ,AU,JS,A7,EZ,FX,BQ,BX,BF,BO,↓reduceIte,Nat.reduceEqDiff,oGs,bNf,enP,bxE,AXX]
 generalize h ++ [ABlk.live 4 [EH e]] ++ [ABlk.live 1 [[AV.sl s0 1 (ops.map encI)]]] ++ [ABlk.live 1 [[.sl .nil 0 []]]]=H at ge go gc hx ⊢
 generalize (h ++ [ABlk.live 4 [EH e]] ++ [ABlk.live 1 [[AV.sl s0 1 (ops.map encI)]]]).length=c at gc hcl ⊢
 generalize (h ++ [ABlk.live 4 [EH e]]).length=ob at go hol ⊢
 simp -implicitDefEqProofs only [AY,AO,AQ,AL,BD,AX,AC,AA,AZ,CB,G8,CG,BP,AB,lMc,lMn,lAn,↓reduceIte,Nat.reduceEqDiff,oGs,bNf,ML ge]
 have S:NSt h c [] (.sl .nil 0 []) H:=⟨gc,outG.nil _ _ _ _,by omega,hx⟩
 refine (AG6 G ops hops h c ob s0 (by omega) e hw H [] _ S go (by simp)).mono ?_
 rintro r h' ⟨v',hch,S5⟩
 simp -implicitDefEqProofs only [BC,BA,BK,A8,CP,AY,BB,AO,AQ,AL,BD,AX,AC,AA,AZ,A7,BQ,AB,↓reduceIte,Nat.reduceEqDiff,oGs,bNf,enP,IU ACK S5.cell]
 exact ⟨S5.ex,S5.out⟩
theorem AW9 (h:Hp) (a b:Int):EN Tryz.prog false h 57 2 [(0,.int .i64 a),(1,.int .i64 b)]=some (.sl .full 1 [[.int .i64 a],[.int .i64 b]],h):=by kernel_rfl
theorem AIY (G:Nat→AV) (e:Ex) (hw:wt e≤1048576) (h:Hp):PCall (En G) 205 [.agg (EH e)] h (.sl (nm (nmL [2] [] (pre e))) 1 ((nmL [2] [] (pre e)).map encStr)):=by
 refine ACalls.pure0 rfl ?_
 refine CE (H:=Hint.none) (enM G) Tryz.func205 rfl (by kernel_rfl) (by kernel_rfl) (nLb (by kernel_rfl)) ?_
 show awp _ _ _ _ _ (D9 _ [.tmp 2] _)
 simp -implicitDefEqProofs only [FI,FQ,BC,BA,A8,AY,BB,AO,AQ,AL,BD,AX,AC,AA,AZ,AU,CB,BI,JS,A7,FX,EE,BQ,CG,BP,BX,AB,BF,lMc,lMn,lAn,↓reduceIte,Nat.reduceEqDiff,oGs,bNf,enP,bxE,ldE,AL7]
 refine (ZC G [2] (by decide) .full e hw _).use ?_
 simp -implicitDefEqProofs only [BK,A8,CP,AY,BB,AO,AQ,AL,BD,AX,AC,AA,AZ,A7,↓reduceIte,oGs,bNf]
 exact ⟨trivial,_,rfl⟩
theorem AG2 (G:Nat→AV) (e:Ex) (hw:wt e≤1048576) (h:Hp):PCall (En G) 207 [.agg (EH e)] h (.sl (nm (nmL [3,24] [] (pre e))) 1 ((nmL [3,24] [] (pre e)).map encStr)):=by
 refine ACalls.pure0 rfl ?_
 refine CE (H:=Hint.none) (enM G) Tryz.func207 rfl (by kernel_rfl) (by kernel_rfl) (nLb (by kernel_rfl)) ?_
 show awp _ _ _ _ _ (D9 _ [.tmp 2] _)
 simp -implicitDefEqProofs only [FI,FQ,BC,BA,A8,AY,BB,AO,AQ,AL,BD,AX,AC,AA,AZ,AU,CB,BI,JS,A7,FX,EE,BQ,CG,BP,BX,AB,BF,lMc,lMn,lAn,↓reduceIte,Nat.reduceEqDiff,oGs,bNf,enP,bxE,ldE,AW9]
 refine (ZC G [3,24] (by decide) .full e hw _).use ?_
 simp -implicitDefEqProofs only [BK,A8,CP,AY,BB,AO,AQ,AL,BD,AX,AC,AA,AZ,A7,↓reduceIte,oGs,bNf]
 exact ⟨trivial,_,rfl⟩
end Go.Proofs.YtocilianjfhifaaGreatDoor.Xe
set_option linter.unusedSimpArgs false
set_option maxRecDepth 8000
namespace Go.Proofs.YtocilianjfhifaaGreatDoor.Xe
open Sm Bins Cov Wd Go.RowKit
abbrev Sg:=ByteArray × Int
def GH (s:Sg):List AV := [.str s.1,.int .i64 s.2]
theorem AB4 (s:Sg):(GH s).length=2:=rfl
def AS0 (s:Sg):Prop := -9223372036854775808≤s.2∧s.2≤9223372036854775807
def MS:List Sg→ByteArray→Nat × Bool
 | [],_=>(0,false)
 | s :: l,n=>if (s.1.toList == n.toList)=true then (wW s.2,true) else MS l n
theorem ZW : ∀ (l:List Sg) (n:ByteArray),(MS l n).1 < 65536
 | [],_=>by simp [MS]
 | s :: l,n=>by unfold MS; split; exact AI5 _; exact ZW l n
theorem AH7 (l:List Sg) (n:ByteArray) (k:Nat) (hk:k < l.length):MS (l.drop k) n=if (l[k].1.toList == n.toList)=true then (wW l[k].2,true) else MS (l.drop (k+1)) n:=by
 rw [List.drop_eq_getElem_cons hk]; rfl
def UA (p:Nat × Bool):AV := .tup [.int .i64 (p.1:Nat),.bool p.2]
theorem AFH (p:Nat × Bool) (n:Nat) (H:Hp):HY n H 2 (UA p)=UA p:=rfl
theorem AXW (h:Hp):I9 Tryz.prog h 187=some (.ptr h.length 0 0,h ++ [.live 2 [[.str ⟨#[]⟩,.int .i64 0]]]):=IY (row := [.str ⟨#[]⟩,.int .i64 0]) (by kernel_rfl)
theorem AVV (h:Hp) (s:Sg):EY Tryz.prog (h ++ [.live 2 [[.str ⟨#[]⟩,.int .i64 0]]]) 187 (.ptr h.length 0 0) (.agg (GH s))=some (h ++ [.live 2 [GH s]]):=by
 rw [NJ (cs:=GH s) (row := [.str ⟨#[]⟩,.int .i64 0]) rfl AM3 (C9 _ _) (by exact Nat.le_refl 2),TB]
 rfl
theorem AGK (h:Hp) (u:AV) (hu:u.leaf=true):NU h (.agg [u])=some (.ptr h.length 0 0,h ++ [ABlk.live 1 [[u]]]):=V3 (by simp only [List.all_cons,hu,List.all_nil]; rfl)
theorem UD {h:Hp} {b:Nat} {u:AV} (hb:h[b]? = some (.live 1 [[u]])):DL Tryz.prog h 195 (.ptr b 0 0)=some (.agg [u]):=by
 rw [IK AX1 ATC hb rfl (by exact Nat.le_refl 1)]; rfl
theorem AAH {P:Program} {t:TypeId} {a b:ByteArray} (h:a.size+b.size≤9223372036854775807):IZ P t .add (.str a) (.str b)=some (.str (a ++ b)):=by
 show APW .add a b=_
 unfold APW
 have:((a.size+b.size:Nat):Int)≤IntKind.i64.max:=by
  show _≤(9223372036854775807:Int)
  omega
 simp only [if_pos this]
section
variable (G:Nat→AV)
theorem WP (l:List Sg) (m:SM) (n:ByteArray) (h:Hp) (hl:l.length≤1099511627776):PCall (En G) 206 [.agg [.sl m 2 (l.map GH)],.str n] h (UA (MS l n)):=by
 refine AFB 2 (AFH _) ?_
 refine CE (H:=Hint.none) (enM G) Tryz.func206 rfl (by kernel_rfl) (by kernel_rfl) (nLb (by kernel_rfl)) ?_
 show awp _ _ _ _ _ (D9 _ [.tmp 4,.tmp 5] _)
 simp -implicitDefEqProofs only [BC,BV,BA,A8,AY,BB,AO,AQ,AL,BD,AX,AC,AA,AZ,AU,BI,BJ,BG,A7,FX,BQ,BM,D8,BX,AB,BF,↓reduceIte,Nat.reduceEqDiff,Nat.add_zero,oGs,bNf,enP,AWF,AR2,AGK h (.sl m 2 (l.map GH)) rfl,IU APT (C9 h (ABlk.live 1 [[.sl m 2 (l.map GH)]])),lLm]
 refine DY (fun k F H => ∃ j,k+j=l.length∧F 1 = .str n∧F 9 = .sl m 2 (l.map GH)∧F 10 = .int .i64 (l.length:Nat)∧F 11 = .int .i64 (j:Nat)∧ext h H∧MS l n=MS (l.drop j) n) l.length ⟨0,by simp,by simp -implicitDefEqProofs only [AA,BF,BO,↓reduceIte,Nat.reduceEqDiff],by simp -implicitDefEqProofs only [AA,↓reduceIte,Nat.reduceEqDiff],by simp -implicitDefEqProofs only [AA,↓reduceIte,Nat.reduceEqDiff],by simp -implicitDefEqProofs only [AA,↓reduceIte]; rfl,(ext.rfl' h).app _,rfl⟩ ?_
 rintro k F H ⟨j,hj,f1,f9,f10,f11,hx,hf⟩
 simp -implicitDefEqProofs only [BC,BA,BL,A8,AY,BB,AO,AQ,AL,BD,AX,AC,AA,AZ,BU,AB,DT,↓reduceIte,oGs,bNf,enP,f10,f11]
 refine DC (fun hc => ?_) (fun hc => ?_)
 ·have hj':j < l.length:=by simpa using hc
  have g:=C9 H (ABlk.live 2 [GH l[j]])
  have l0:DL Tryz.prog (H ++ [ABlk.live 2 [GH l[j]]]) 9 (.ptr H.length 0 0)=some (.str l[j].1):=by rw [DK ag9 g (row:=GH l[j]) rfl]; rfl
  have l1:DL Tryz.prog (H ++ [ABlk.live 2 [GH l[j]]]) 3 (.ptr H.length 0 1)=some (.int .i64 l[j].2):=by rw [DK ag3 g (row:=GH l[j]) rfl]; rfl
  rw [AH7 l n j hj'] at hf
  simp -implicitDefEqProofs only [BC,BV,BA,BR,BL,A8,AY,BB,AO,AQ,AL,BD,AX,AC,EM,AA,AZ,BG,EZ,BQ,D6,BU,BM,CV,BX,AB,DI,MP,↓reduceIte,Nat.reduceEqDiff,Nat.add_zero,oGs,bNf,enP,AYO,AR4,Option.getD_none,f1,f9,f11,EF hj',FK AX2 AM3 AB4 hj',AXW,AVV,l0]
  refine DC (fun hb => ?_) (fun hb => ?_)
  ·simp -implicitDefEqProofs only [BC,BA,AY,AO,AQ,AL,BD,AX,AC,AA,AZ,CB,BQ,BM,CG,BP,AB,lMc,lMn,lAn,↓reduceIte,Nat.reduceEqDiff,Nat.zero_add,oGs,bNf,enP,AR3,l1]
   refine (AKN G _ _).use ?_
   simp -implicitDefEqProofs only [BK,A8,CX,ED,FY,SG,AY,BB,AO,AQ,AL,BD,AX,AC,AA,AZ,AU,BJ,A7,↓reduceIte,Nat.reduceEqDiff,oGs,bNf]
   exact ⟨by rw [hf,if_pos hb]; rfl,hx.app _⟩
  ·simp -implicitDefEqProofs only [BA,BR,A8,EP,FC,AY,BB,AO,AQ,AL,BD,AX,AC,AA,AZ,AU,BI,BG,BU,AB,DV,↓reduceIte,Nat.reduceEqDiff,oGs,bNf,enP,f11,wrap_succ (show j < 9223372036854775807 by omega)]
   exact ⟨k - 1,by omega,j+1,by omega,by first | exact f1 | trivial,by first | exact f9 | trivial,by first | exact f10 | trivial,rfl,hx.app _,by rw [hf,if_neg (by rw [hb]; decide)]⟩
 ·have hj' : ¬ j < l.length:=by simpa using hc
  simp -implicitDefEqProofs only [BC,BA,BK,DW,A8,ER,FN,FM,SG,AY,BB,AO,AQ,AL,BD,AX,AC,AA,AU,BI,BJ,A7,↓reduceIte,Nat.reduceEqDiff,oGs,bNf]
  exact ⟨by rw [hf,List.drop_eq_nil_of_le (by omega)]; rfl,hx⟩
def elN (a:ByteArray) (i:Nat):ByteArray:=a ++ (⟨#[91]⟩:ByteArray) ++ (⟨#[UInt8.ofNat (48+i)]⟩:ByteArray) ++ (⟨#[93]⟩:ByteArray)
def atG (l:List Sg) (a:ByteArray) (i:Int):Nat × Bool:=if i < 0∨i≥8 then (0,false) else MS l (elN a i.toNat)
theorem APL (l:List Sg) (a:ByteArray) (i:Int):(atG l a i).1 < 65536:=by unfold atG; split; decide; exact ZW _ _
theorem AOZ : ∀ i:Nat,i < 8→SV Tryz.prog 206 9 (.sl .full 1 [[.int .u8 (IntKind.u8.wrap (IntKind.i64.wrap (48+(i:Int))))]])=some (.str ⟨#[UInt8.ofNat (48+i)]⟩)
 | 0,_=>by kernel_rfl
 | 1,_=>by kernel_rfl
 | 2,_=>by kernel_rfl
 | 3,_=>by kernel_rfl
 | 4,_=>by kernel_rfl
 | 5,_=>by kernel_rfl
 | 6,_=>by kernel_rfl
 | 7,_=>by kernel_rfl
 | n+8,h=>absurd h (by omega)
theorem AXG (h:Hp) (v:Int):EN Tryz.prog false h 206 1 [(0,.int .u8 v)]=some (.sl .full 1 [[.int .u8 v]],h):=by kernel_rfl
theorem AD0 (a b:ByteArray):(a ++ b).size=a.size+b.size:=ByteArray.size_append
theorem AD1 (l:List Sg) (m:SM) (a:ByteArray) (i:Int) (h:Hp) (hl:l.length≤1099511627776) (ha:a.size≤1048576):PCall (En G) 208 [.agg [.sl m 2 (l.map GH)],.str a,.int .i64 i] h (UA (atG l a i)):=by
 refine AFB 2 (AFH _) ?_
 refine CE (H:=Hint.none) (enM G) Tryz.func208 rfl (by kernel_rfl) (by kernel_rfl) (nLb (by kernel_rfl)) ?_
 show awp _ _ _ _ _ (D9 _ [.tmp 6,.tmp 7] _)
 have hx:ext h (h ++ [ABlk.live 1 [[.sl m 2 (l.map GH)]]]):=(ext.rfl' h).app _
 simp -implicitDefEqProofs only [BC,BA,A8,AY,BB,BH,BN,CO,AO,AQ,AL,BD,AX,AC,AA,AZ,AU,BI,BJ,BG,A7,FX,BU,BX,AB,DT,BF,BO,↓reduceIte,Nat.reduceEqDiff,oGs,bNf,enP,AGK h (.sl m 2 (l.map GH)) rfl]
 cases h1:decide (i < 0)
 ·cases h2:decide (i≥8)
  ·have h1' : ¬ i < 0:=by simpa using h1
   have h2' : ¬ i≥8:=by simpa using h2
   obtain ⟨k,rfl⟩:=Int.eq_ofNat_of_zero_le (show 0≤i by omega)
   have hk:k < 8:=by omega
   have e1:IZ Tryz.prog 9 .add (.str a) (.str ⟨#[91]⟩)=_:=AAH (by show a.size+1≤_; omega)
   have e2:IZ Tryz.prog 9 .add (.str (a ++ (⟨#[91]⟩:ByteArray))) (.str ⟨#[UInt8.ofNat (48+k)]⟩)=_:=AAH (by rw [AD0]; show a.size+1+1≤_; omega)
   have e3:IZ Tryz.prog 9 .add (.str (a ++ (⟨#[91]⟩:ByteArray) ++ (⟨#[UInt8.ofNat (48+k)]⟩:ByteArray))) (.str ⟨#[93]⟩)=_:=AAH (by rw [AD0,AD0]; show a.size+1+1+1≤_; omega)
   simp -implicitDefEqProofs only [FI,FQ,BC,BA,BR,BL,A8,D5,AY,BB,BH,BN,CO,EG,AO,AQ,AL,BD,AX,AC,AA,AZ,AU,CB,BI,BJ,GZ,BG,CQ,DN,EE,BQ,BU,V8,CG,BP,BX,AB,DV,G6,BF,BO,lMc,lMn,lAn,↓reduceIte,Nat.reduceEqDiff,oGs,bNf,enP,AWW,h2,UD (C9 h (ABlk.live 1 [[.sl m 2 (l.map GH)]])),e1,AXG,AOZ k hk,e2,e3]
   refine (WP G l m _ _ hl).use ?_
   unfold UA
   simp -implicitDefEqProofs only [List.getElem?_cons_zero,List.getElem?_cons_succ,BK,A8,SG,AY,BB,AO,AQ,AL,BD,AX,AC,AA,AZ,A7,FT,IG,AB,↓reduceIte,Nat.reduceEqDiff,oGs,bNf]
   exact ⟨by unfold atG; rw [if_neg (by omega)]; rfl,hx⟩
  ·simp -implicitDefEqProofs only [BC,BA,BK,BL,A8,CX,SG,DU,AY,BB,BH,BN,CO,EG,AO,AQ,AL,BD,AX,AC,AA,AZ,AU,BI,BJ,BG,A7,CQ,DN,BU,AB,G6,BF,BO,↓reduceIte,Nat.reduceEqDiff,oGs,bNf,enP,h2]
   have h2':i≥8:=by simpa using h2
   exact ⟨by unfold atG; rw [if_pos (.inr h2')]; rfl,hx⟩
 ·simp -implicitDefEqProofs only [BC,BA,BK,BL,A8,CX,SG,DU,AY,BB,BH,BN,CO,FP,AO,AQ,AL,BD,AX,AC,AA,EJ,AZ,AU,BI,BJ,A7,CQ,DR,↓reduceIte,Nat.reduceEqDiff,oGs,bNf]
  have h1':i < 0:=by simpa using h1
  exact ⟨by unfold atG; rw [if_pos (.inl h1')]; rfl,hx⟩
def sumTo (l:List Sg) (a:ByteArray):Nat→Nat
 | 0=>0
 | k+1=>(sumTo l a k+(atG l a (k:Nat)).1) % 65536
theorem AEM (l:List Sg) (a:ByteArray) (k:Nat):sumTo l a k < 65536:=by
 cases k with
 | zero=>show 0 < 65536; decide
 | succ k=>exact Nat.mod_lt _ (by omega)
theorem AM5 (l:List Sg) (m:SM) (a:ByteArray) (h:Hp) (hl:l.length≤1099511627776) (ha:a.size≤1048576):PCall (En G) 209 [.agg [.sl m 2 (l.map GH)],.str a] h (.int .i64 (sumTo l a 8:Nat)):=by
 refine ACalls.pure0 rfl ?_
 refine CE (H:=Hint.none) (enM G) Tryz.func209 rfl (by kernel_rfl) (by kernel_rfl) (nLb (by kernel_rfl)) ?_
 show awp _ _ _ _ _ (D9 _ [.tmp 4] _)
 have g:=C9 h (ABlk.live 1 [[.sl m 2 (l.map GH)]])
 simp -implicitDefEqProofs only [BC,BV,BA,A8,AY,BB,AO,AQ,AL,BD,AX,AC,AZ,AU,BI,BG,A7,FX,BX,BF,oGs,bNf,enP,AGK h (.sl m 2 (l.map GH)) rfl]
 generalize hH:h ++ [ABlk.live 1 [[.sl m 2 (l.map GH)]]]=H at g ⊢
 refine DY (fun k F H' => ∃ j,k+j=8∧F 1 = .str a∧F 2 = .ptr h.length 0 0∧F 5 = .int .i64 (sumTo l a j:Nat)∧F 9 = .int .i64 (j:Nat)∧H'=H) 8 ⟨0,by simp,by simp -implicitDefEqProofs only [AA,BF,BO,↓reduceIte,Nat.reduceEqDiff],by simp -implicitDefEqProofs only [AA,↓reduceIte,Nat.reduceEqDiff],by simp -implicitDefEqProofs only [AA,↓reduceIte,Nat.reduceEqDiff] <;> rfl,by simp -implicitDefEqProofs only [AA,↓reduceIte] <;> rfl,rfl⟩ ?_
 rintro k F H' ⟨j,hj,f1,f2,f5,f9,rfl⟩
 simp -implicitDefEqProofs only [BC,BA,BL,A8,AY,BB,AO,AQ,AL,BD,AX,AC,AA,AZ,AU,BI,BU,AB,DT,↓reduceIte,oGs,bNf,enP,f9]
 refine DC (fun hc => ?_) (fun hc => ?_)
 ·have hj':j < 8:=by simp at hc; omega
  simp -implicitDefEqProofs only [BC,BV,BA,BR,A8,AY,BB,AO,AQ,AL,BD,AX,AC,AA,AZ,CB,BG,A7,BQ,CG,BP,AB,lMc,lMn,lAn,↓reduceIte,Nat.reduceEqDiff,oGs,bNf,enP,f1,f2,f9,UD g]
  refine (AD1 G l m a (j:Nat) H' hl ha).use ?_
  unfold UA
  simp -implicitDefEqProofs only [List.getElem?_cons_zero,List.getElem?_cons_succ,BA,A8,AY,BB,AO,AQ,AL,BD,AX,AC,AA,AZ,CB,BG,A7,FT,IG,CG,BP,AB,lMc,lMn,lAn,↓reduceIte,Nat.reduceEqDiff,oGs,bNf,f5]
  refine (ATU G _ _ (AEM l a j) (APL l a (j:Nat)) H').use ?_
  simp -implicitDefEqProofs only [BA,A8,EP,FC,AY,BB,AO,AQ,AL,BD,AX,AC,AA,AZ,AU,BI,BG,A7,BU,AB,DV,↓reduceIte,Nat.reduceEqDiff,oGs,bNf,enP,f1,f2,f9,wrap_succ (show j < 9223372036854775807 by omega)]
  exact ⟨k - 1,by omega,j+1,by omega,by first | trivial | rfl,by first | trivial | rfl,by first | trivial | rfl,by first | trivial | rfl,trivial⟩
 ·have hj':j=8:=by simp at hc; omega
  subst hj'
  simp -implicitDefEqProofs only [BC,BA,BK,DW,A8,ER,FN,FM,CP,AY,BB,AO,AQ,AL,BD,AX,AC,AA,AZ,BG,A7,↓reduceIte,Nat.reduceEqDiff,oGs,bNf,f5]
  exact ⟨trivial,_,hH.symm⟩
end
def AFP (x:Nat):List Nat→Bool
 | a :: b :: r=>(decide (a≤x) && decide (x≤b)) || AFP x r
 | _=>false
def opW (op:Int) (vs:List Nat):Nat :=
 if op=22 then (if vs.getD 0 0≠0 then vs.getD 1 0 else vs.getD 2 0) else if op=23 then tr (AFP (vs.getD 0 0) (vs.drop 1))
 else if vs.length=1 then sgW op (vs.getD 0 0) else dbW op (vs.getD 0 0) (vs.getD 1 0)
theorem getD_lt {vs:List Nat} (hv : ∀ x∈vs,x < 65536) (k:Nat):vs.getD k 0 < 65536:=by
 rw [List.getD_eq_getElem?_getD]
 rcases Nat.lt_or_ge k vs.length with h | h
 ·rw [List.getElem?_eq_getElem h]; exact hv _ (List.getElem_mem h)
 ·rw [List.getElem?_eq_none h]; decide
theorem AUF (op:Int) {vs:List Nat} (hv : ∀ x∈vs,x < 65536):opW op vs < 65536:=by
 unfold opW
 have h0:=getD_lt hv 0
 have h1:=getD_lt hv 1
 have h2:=getD_lt hv 2
 split
 ·split <;> assumption
 split
 ·exact VD _
 split
 ·exact AUB h0
 ·exact AU3 h0 h1
theorem ALI (x:Nat) (l:List Nat) (k:Nat) (hk:k+1 < l.length):AFP x (l.drop k)=((decide (l[k]≤x) && decide (x≤l[k+1])) || AFP x (l.drop (k+2))):=by
 rw [List.drop_eq_getElem_cons (by omega:k < l.length),List.drop_eq_getElem_cons hk]; rfl
theorem AOA (x:Nat) (l:List Nat) (k:Nat) (hk:l.length≤k+1):AFP x (l.drop k)=false:=by
 have:(l.drop k).length≤1:=by simp; omega
 match hm:l.drop k,this with
 | [],_=>rfl
 | [a],_=>rfl
theorem gec (a b:Nat):decide ((a:Int)≥(b:Int))=decide (b≤a):=lec b a
def APZ (op:Int) (n:Nat):Prop:=(op=22→n=3)∧(op=23→n % 2=1∧3≤n)∧(op≠22→op≠23→n=1∨n=2)
set_option maxHeartbeats 2000000 in
theorem AK8 (G:Nat→AV) (op:Int) (vs:List Nat) (o:Nat) (H:Hp) (ho:H[o]? = some (.live 1 (vs.map JE))) (hv : ∀ x∈vs,x < 65536) (hl:vs.length≤1048576) (hops:APZ op vs.length) :
  PCall (En G) 210 [.int .i64 op,.own o 0 vs.length] H (.int .i64 (opW op vs:Nat)):=by
 have hix : ∀ k:Nat,k < vs.length→JP 1 H (.own o 0 vs.length) (.int .i64 (k:Nat))=some (.ptr o k 0):=fun k hk=>by rw [LJ ho hk,Nat.zero_add]
 have hld : ∀ (k:Nat) (hk:k < vs.length),DL Tryz.prog H 3 (.ptr o k 0)=some (.int .i64 (vs[k]:Nat)):=fun k hk=>by rw [DK ag3 ho (row:=JE vs[k]) (NE hk)]; rfl
 have h1:1≤vs.length:=by
  obtain ⟨a,b,c⟩:=hops
  by_cases e:op=22
  ·have:=a e; omega
  by_cases e':op=23
  ·have:=b e'; omega
  ·have:=c e e'; omega
 have i0:JP 1 H (.own o 0 vs.length) (.int .i64 0)=some (.ptr o 0 0):=hix 0 h1
 have d0:=hld 0 h1
 have g0:vs.getD 0 0=vs[0]:=by rw [List.getD_eq_getElem?_getD,List.getElem?_eq_getElem h1]; rfl
 have v0:vs[0] < 65536:=hv _ (List.getElem_mem _)
 refine CE (H:=Hint.none) (enM G) Tryz.func210 rfl (by kernel_rfl) (by kernel_rfl) (nLb (by kernel_rfl)) ?_
 show awp _ _ _ _ _ (D9 _ [.tmp 4] _)
 by_cases e22:op=22
 ·subst e22
  have hl3:vs.length=3:=hops.1 rfl
  have i1:JP 1 H (.own o 0 vs.length) (.int .i64 1)=some (.ptr o 1 0):=hix 1 (by omega)
  have i2:JP 1 H (.own o 0 vs.length) (.int .i64 2)=some (.ptr o 2 0):=hix 2 (by omega)
  have d1:=hld 1 (by omega)
  have d2:=hld 2 (by omega)
  have g1:vs.getD 1 0=vs[1]:=by rw [List.getD_eq_getElem?_getD,List.getElem?_eq_getElem (by omega)]; rfl
  have g2:vs.getD 2 0=vs[2]:=by rw [List.getD_eq_getElem?_getD,List.getElem?_eq_getElem (by omega)]; rfl
  simp -implicitDefEqProofs only [BC,BV,BA,BL,A8,DU,AY,BB,AO,AQ,AL,BD,AX,AC,AA,AZ,AU,BI,BG,A7,BQ,BU,CV,AB,DX,EQ,BF,BO,↓reduceIte,Nat.reduceEqDiff,oGs,bNf,enP,MB,Int.reduceBEq,i0,d0,eqz,nez]
  cases hz:(vs[0] == 0)
  ·simp -implicitDefEqProofs only [BC,BA,BK,A8,CX,ED,CP,DU,AY,BB,AO,AQ,AL,BD,AX,AC,AA,AZ,AU,BI,BG,A7,BQ,CV,AB,BF,BO,↓reduceIte,Nat.reduceEqDiff,oGs,bNf,enP,MB,i1,d1]
   have:vs[0]≠0:=by simpa using hz
   exact ⟨by unfold opW; rw [if_pos rfl,g0,if_pos this,g1],trivial⟩
  ·simp -implicitDefEqProofs only [BC,BA,BR,BK,A8,CX,ED,CP,D5,AY,BB,AO,AQ,AL,BD,AX,AC,AA,AZ,AU,BI,BG,A7,BQ,CV,AB,BF,BO,↓reduceIte,Nat.reduceEqDiff,oGs,bNt,bNf,enP,MB,i2,d2]
   have : ¬ vs[0]≠0:=by simpa using hz
   exact ⟨by unfold opW; rw [if_pos rfl,g0,if_neg this,g2],trivial⟩
 by_cases e23:op=23
 ·subst e23
  obtain ⟨hodd,h3⟩:=hops.2.1 rfl
  simp -implicitDefEqProofs only [BC,BV,BA,BL,A8,DU,D5,AY,BB,AO,AQ,AL,BD,AX,AC,AA,AZ,AU,BI,BG,A7,BU,AB,DX,BF,↓reduceIte,Nat.reduceEqDiff,oGs,bNf,enP,Int.reduceBEq]
  have hval:opW 23 vs=tr (AFP vs[0] (vs.drop 1)):=by unfold opW; rw [if_neg (by decide),if_pos rfl,g0]
  rw [hval]
  refine DY (fun n F H' => ∃ j,n+j=vs.length∧j % 2=1∧F 1 = .own o 0 vs.length∧F 5 = .int .i64 (j:Nat)∧H'=H∧AFP vs[0] (vs.drop 1)=AFP vs[0] (vs.drop j)) (vs.length - 1) ⟨1,by omega,rfl,by simp -implicitDefEqProofs only [AA,BF,BO,↓reduceIte,Nat.reduceEqDiff],by simp -implicitDefEqProofs only [AA,↓reduceIte] <;> rfl,rfl,rfl⟩ ?_
  rintro n F H' ⟨j,hj,hj2,f1,f5,rfl,hin⟩
  simp -implicitDefEqProofs only [BC,BA,BL,A8,AY,BB,AO,AQ,AL,BD,AX,AC,AA,AZ,AU,BI,BG,BU,D8,AB,DV,DT,↓reduceIte,Nat.reduceEqDiff,oGs,bNf,enP,J6,f1,f5,wrap_succ (show j < 9223372036854775807 by omega)]
  refine DC (fun hc => ?_) (fun hc => ?_)
  ·have hc':j+1 < vs.length:=by simp at hc; omega
   have ij:=hix j (by omega)
   have ij1:=hix (j+1) hc'
   have dj:=hld j (by omega)
   have dj1:=hld (j+1) hc'
   rw [ALI _ _ _ hc'] at hin
   have e2:IntKind.i64.wrap (((j:Nat):Int)+2)=((j+2:Nat):Int):=by rw [wrap_i64 (by omega) (by omega)]; omega
   have es:IntKind.i64.wrap (((j:Nat):Int)+1)=((j+1:Nat):Int):=wrap_succ (show j < 9223372036854775807 by omega)
   simp -implicitDefEqProofs only [BC,BV,BR,A8]
   refine F7 (by kernel_rfl) ?_
   simp -implicitDefEqProofs only [GR,EU,D7,EW,JD,KQ,G7,F9,LW,GG,CO,AO,AA,AZ,AU,BI,BQ,BU,CV,AB,IV,↓reduceIte,Nat.reduceEqDiff,Nat.reduceAdd,oGs,enP,MB,f1,f5,i0,d0,ij,dj,es,ij1,dj1,lec,gec]
   cases ha:decide (vs[j]≤vs[0])
   ·simp -implicitDefEqProofs only [GR,EU,D7,FZ,EW,JD,KQ,AKJ,NV,BA,BR,BL,A8,EP,FC,D5,AY,BB,CO,AO,AQ,AL,BD,AX,AC,AA,EJ,AZ,AU,BI,BJ,BG,A7,CQ,DN,BU,AB,DV,↓reduceIte,Nat.reduceEqDiff,Nat.reduceAdd,oGs,bNf,enP,ha,f5,e2]
    exact ⟨n - 2,by omega,j+2,by omega,by omega,by first | exact f1 | trivial,by first | rfl | trivial,trivial,by rw [hin,ha]; rfl⟩
   ·cases hb:decide (vs[0]≤vs[j+1])
    ·simp -implicitDefEqProofs only [GR,EU,D7,FZ,EW,JD,KQ,AAT,G7,NV,F9,LW,GG,BA,BR,BL,A8,EP,FC,D5,AY,BB,CO,AO,AQ,AL,BD,AX,AC,AA,AZ,AU,BI,BJ,BG,A7,CQ,DR,BQ,BU,CV,AB,DV,IV,↓reduceIte,Nat.reduceEqDiff,Nat.reduceAdd,oGs,bNf,enP,MB,ha,hb,f1,f5,es,ij1,dj1,lec,i0,d0,e2]
     exact ⟨n - 2,by omega,j+2,by omega,by omega,by first | exact f1 | trivial,by first | rfl | trivial,trivial,by rw [hin,ha,hb]; rfl⟩
    ·simp -implicitDefEqProofs only [GR,EU,D7,FZ,EW,JD,KQ,AAT,G7,NV,F9,LW,GG,BC,BA,BK,BL,A8,CX,ED,FY,CP,DU,AY,BB,CO,AO,AQ,AL,BD,AX,AC,AA,AZ,AU,BI,BJ,A7,CQ,DR,BQ,BU,CV,AB,DV,IV,↓reduceIte,Nat.reduceEqDiff,Nat.reduceAdd,oGs,bNf,enP,MB,ha,hb,f1,f5,es,ij1,dj1,lec,i0,d0]
     exact ⟨by rw [hin,ha,hb]; rfl,trivial⟩
  ·have hc':vs.length≤j+1:=by simp at hc; omega
   simp -implicitDefEqProofs only [BC,BA,BK,DW,A8,ER,CX,ED,FN,FM,CP,AY,BB,AO,AQ,AL,BD,AX,AC,AA,AU,BI,A7,↓reduceIte,oGs,bNf]
   exact ⟨by rw [hin,AOA _ _ _ hc']; rfl,trivial⟩
 ·have n12:=hops.2.2 e22 e23
  have c1:(op == 22)=false:=beq_eq_false_iff_ne.2 e22
  have c2:(op == 23)=false:=beq_eq_false_iff_ne.2 e23
  have hval:opW op vs=if vs.length=1 then sgW op (vs.getD 0 0) else dbW op (vs.getD 0 0) (vs.getD 1 0):=by unfold opW; rw [if_neg e22,if_neg e23]
  rw [hval]
  simp -implicitDefEqProofs only [BC,BV,BA,BR,BL,A8,EP,D5,AY,BB,AO,AQ,AL,BD,AX,AC,AA,AZ,AU,BI,BG,A7,BU,D8,AB,DX,BF,BO,↓reduceIte,Nat.reduceEqDiff,oGs,bNf,enP,J6,c1,c2]
  refine DC (fun hc => ?_) (fun hc => ?_)
  ·have hl1:vs.length=1:=by simp at hc; omega
   simp -implicitDefEqProofs only [BC,BA,AY,AO,AQ,AL,BD,AX,AC,AA,AZ,AU,CB,BI,BG,BQ,CV,CG,BP,AB,BF,BO,lMc,lMn,lAn,↓reduceIte,Nat.reduceEqDiff,oGs,bNf,enP,MB,i0,d0]
   refine (AET G op _ v0 H).use ?_
   simp -implicitDefEqProofs only [BK,A8,CX,CP,AY,BB,AO,AQ,AL,BD,AX,AC,AA,AZ,A7,↓reduceIte,oGs,bNf]
   exact ⟨by rw [if_pos hl1,g0],trivial⟩
  ·have hl1:vs.length≠1:=by simp at hc; omega
   have i1:JP 1 H (.own o 0 vs.length) (.int .i64 1)=some (.ptr o 1 0):=hix 1 (by omega)
   have d1:=hld 1 (by omega)
   have g1:vs.getD 1 0=vs[1]:=by rw [List.getD_eq_getElem?_getD,List.getElem?_eq_getElem (by omega)]; rfl
   have v1:vs[1] < 65536:=hv _ (List.getElem_mem _)
   simp -implicitDefEqProofs only [BC,BR,A8]
   refine F7 (by kernel_rfl) ?_
   simp -implicitDefEqProofs only [GR,EU,D7,FZ,EW,G7,J5,F9,GG,IJ,IB,BK,A8,CP,AO,AA,AZ,AU,CB,BI,BQ,CV,AB,BF,BO,lMc,lMn,lAn,↓reduceIte,Nat.reduceEqDiff,Nat.reduceAdd,oGs,enP,MB,i0,d0,i1,d1]
   refine ⟨_,AGD G op _ _ v0 v1 H,?_⟩
   exact ⟨by rw [if_neg hl1,g0,g1],trivial⟩
def AEK (l:List Sg) (op n:Int) (name:ByteArray) (vs:List Nat):Nat :=
 if op=1 then n.toNat % 65536 else if op=2 then (MS l name).1 else if op=3 then (atG l name (vs.getD 0 0:Nat)).1 else if op=24 then sumTo l name 8 else opW op vs
mutual
def AAW (l:List Sg):Ex→Nat
 | .mk op n name _ args=>AEK l op n name (KU l args)
def KU (l:List Sg):List Ex→List Nat
 | [] => []
 | e :: es=>AAW l e :: KU l es
end
theorem AI7 (l:List Sg) (e:Ex):AAW l e=AEK l e.op e.n e.name (KU l e.args):=by cases e; simp [AAW,Ex.op,Ex.n,Ex.name,Ex.args]
theorem OL (l:List Sg) : ∀ xs:List Ex,KU l xs=xs.map (AAW l)
 | []=>by simp [KU]
 | e :: es=>by simp [KU,OL l es]
theorem ABE (l:List Sg) (xs:List Ex):(KU l xs).length=xs.length:=by rw [OL,lLm]
theorem AG8 (l:List Sg) (xs:List Ex) (j:Nat) (hj:j < xs.length):KU l (xs.take (j+1))=KU l (xs.take j) ++ [AAW l xs[j]]:=by
 rw [OL,OL,List.take_succ_eq_append_getElem hj,List.map_append]; rfl
theorem AI6 (l:List Sg) (e:Ex):AAW l e < 65536:=by
 induction e using Ex.induct with | h e ih => ?_
 rw [AI7]
 have hv : ∀ x∈KU l e.args,x < 65536:=by
  intro x hx
  rw [OL] at hx
  obtain ⟨a,ha,rfl⟩:=List.mem_map.1 hx
  exact ih a ha
 unfold AEK
 split
 ·exact Nat.mod_lt _ (by omega)
 split
 ·exact ZW _ _
 split
 ·exact APL _ _ _
 split
 ·exact AEM _ _ _
 ·exact AUF _ hv
theorem AMU (l:List Sg) (xs:List Ex) : ∀ x∈KU l xs,x < 65536:=by
 intro x hx
 rw [OL] at hx
 obtain ⟨a,_,rfl⟩:=List.mem_map.1 hx
 exact AI6 l a
def knE (l:List Sg) (e:Ex):Bool:=if e.op=2 then (MS l e.name).2 else if e.op=3∨e.op=24 then (atG l e.name 0).2 else true
theorem ANR {e:Ex} (h:JO e=0):(e.op=1→0≤e.n∧e.n≤65535)∧(e.op=3→e.args.length=1)∧(e.op≠1→e.op≠2→e.op≠3→e.op≠24→APZ e.op e.args.length):=by
 unfold JO at h
 have hO:U5 e=false:=by
  cases hb:U5 e
  ·rfl
  ·rw [hb] at h; simp at h
 have hN:ADZ e=false:=by
  cases hb:ADZ e
  ·rfl
  ·rw [hO,hb] at h; simp at h
 have hS:AA8 e=false:=by
  cases hb:AA8 e
  ·rfl
  ·rw [hO,hN,hb] at h; simp at h
 have hops:WF e.op e.args.length=true:=by
  unfold AA8 at hS
  rw [Bool.or_eq_false_iff] at hS
  simpa using hS.2
 have h1:1≤e.op∧e.op≤25:=by unfold U5 at hO; simp at hO; omega
 refine ⟨fun h1 => ?_,fun h3 => ?_,fun n1 n2 n3 n24=>⟨fun h22 => ?_,fun h23 => ?_,fun n22 n23 => ?_⟩⟩
 ·unfold ADZ at hN; simp [h1] at hN; omega
 ·unfold WF at hops; rw [h3] at hops; simp [arity] at hops; omega
 ·unfold WF at hops; rw [h22] at hops; simp [arity] at hops; omega
 ·unfold WF at hops; rw [h23] at hops; simp at hops; omega
 ·unfold WF at hops
  rw [if_neg (by simpa using n23)] at hops
  have h5:arity e.op=1∨arity e.op=2:=by
   by_cases hq:e.op=3∨e.op=4∨e.op=5∨e.op=6∨e.op=25
   ·left; unfold arity; rw [if_neg (by omega),if_neg (by omega),if_pos hq]
   ·right; unfold arity; rw [if_neg (by omega),if_neg (by omega),if_neg hq,if_neg n22,if_neg n23]
  have h6:((e.args.length:Nat):Int)=arity e.op:=by simpa using hops
  omega
theorem str_eq {a b:ByteArray} (h:(a.toList == b.toList)=true):a=b:=by
 rw [ByteArray.toList_eq,ByteArray.toList_eq] at h
 exact ByteArray.ext (Array.toList_inj.1 (beq_iff_eq.1 h))
theorem ARA (P:ByteArray→Bool) (ops:List Int) (ns:List ByteArray) (e:Ex):(nmU ops ns e).all P=(ns.all P && (!Rk.hasB ops e.op || P e.name)):=by
 unfold nmU
 cases hb:Rk.hasB ops e.op
 ·simp
 cases hs:IQ ns e.name
 ·simp
 ·simp
  intro ha
  unfold IQ at hs
  rw [List.any_eq_true] at hs
  obtain ⟨u,hu,he⟩:=hs
  rw [str_eq he]; exact ha u hu
theorem AC2 (P:ByteArray→Bool) (ops:List Int) : ∀ (xs:List Ex) (ns:List ByteArray),(nmL ops ns xs).all P=(ns.all P && xs.all fun e => !Rk.hasB ops e.op || P e.name)
 | [],ns=>by simp [nmL]
 | e :: xs,ns=>by
   have:=AC2 P ops xs (nmU ops ns e)
   simp only [nmL,List.foldl_cons,List.all_cons] at this ⊢
   rw [this,ARA,Bool.and_assoc]
theorem ALE (l:List Sg) (xs:List Ex):((nmL [2] [] xs).all (fun n=>(MS l n).2) && (nmL [3,24] [] xs).all fun n=>(atG l n 0).2)=xs.all (knE l):=by
 rw [AC2,AC2,Bool.eq_iff_iff]
 simp only [List.all_nil,Bool.true_and,Bool.and_eq_true,List.all_eq_true]
 constructor
 ·rintro ⟨h1,h2⟩ x hx
  have a:=h1 x hx
  have b:=h2 x hx
  unfold knE
  unfold Rk.hasB at a b
  by_cases e2:x.op=2
  ·rw [if_pos e2]; simpa [e2] using a
  by_cases e3:x.op=3∨x.op=24
  ·rw [if_neg e2,if_pos e3]; rcases e3 with e3 | e3 <;> simpa [e3] using b
  ·rw [if_neg e2,if_neg e3]
 ·intro h
  refine ⟨fun x hx => ?_,fun x hx => ?_⟩
  ·have a:=h x hx
   unfold knE at a
   unfold Rk.hasB
   by_cases e2:x.op=2
   ·rw [if_pos e2] at a; simp [e2,a]
   ·have : ¬ 2=x.op:=fun q=>e2 q.symm
    simp [this]
  ·have a:=h x hx
   unfold knE at a
   unfold Rk.hasB
   by_cases e3:x.op=3∨x.op=24
   ·have e2 : ¬ x.op=2:=by omega
    rw [if_neg e2,if_pos e3] at a; simp [a]
   ·have e4 : ¬ 3=x.op:=fun q=>e3 (.inl q.symm)
    have e5 : ¬ 24=x.op:=fun q=>e3 (.inr q.symm)
    simp [e4,e5]
theorem AGU {α:Type} (P:α→Bool) (xs:List α) (k:Nat) (hk:k < xs.length):(xs.drop k).all P=(P xs[k] && (xs.drop (k+1)).all P):=by
 rw [List.drop_eq_getElem_cons hk]; rfl
theorem AJO (ops:List Int) : ∀ (xs:List Ex) (ns:List ByteArray) (n:ByteArray),n∈nmL ops ns xs→n∈ns∨∃ x∈xs,n=x.name
 | [],ns,n,h => .inl h
 | e :: xs,ns,n,h=>by
   rcases AJO ops xs (nmU ops ns e) n h with h1 | ⟨x,hx,hn⟩
   ·unfold nmU at h1
    split at h1
    ·rcases List.mem_append.1 h1 with h2 | h2
     ·exact .inl h2
     ·exact .inr ⟨e,by simp,by simpa using h2⟩
    ·exact .inl h1
   ·exact .inr ⟨x,List.mem_cons_of_mem _ hx,hn⟩
section
variable (G:Nat→AV)
theorem AHY (l:List Sg) (m:SM) (e:Ex) (h:Hp) (hl:l.length≤1099511627776) (hw:wt e≤1048576):PCall (En G) 157 [.agg [.sl m 2 (l.map GH)],.agg (EH e)] h (.bool ((pre e).all (knE l))):=by
 refine ACalls.pure0 rfl ?_
 rw [← ALE]
 have hpl:=ACY e
 have hn1:=YJ [2] (pre e) []
 have hn2:=YJ [3,24] (pre e) []
 have hm2 : ∀ n∈nmL [3,24] [] (pre e),n.size≤1048576:=fun n hn=>by
  rcases AJO _ _ _ n hn with h1 | ⟨x,hx,rfl⟩
  ·cases h1
  ·have:=AFD hx; omega
 have hN:=AIY G e hw
 have hA:=AG2 G e hw
 simp only [List.length_nil,Nat.zero_add] at hn1 hn2
 generalize nmL [2] [] (pre e)=ns at hn1 hN ⊢
 generalize nmL [3,24] [] (pre e)=ars at hn2 hA hm2 ⊢
 refine CE (H:=Hint.none) (enM G) Tryz.func157 rfl (by kernel_rfl) (by kernel_rfl) (nLb (by kernel_rfl)) ?_
 show awp _ _ _ _ _ (D9 _ [.tmp 4] _)
 have gs:=CJ (x:=ABlk.live 4 [EH e]) (C9 h (ABlk.live 1 [[.sl m 2 (l.map GH)]]))
 have ge:=C9 (h ++ [ABlk.live 1 [[.sl m 2 (l.map GH)]]]) (ABlk.live 4 [EH e])
 have hx:ext h (h ++ [ABlk.live 1 [[.sl m 2 (l.map GH)]]] ++ [ABlk.live 4 [EH e]]):=((ext.rfl' h).app _).app _
 simp -implicitDefEqProofs only [BC,BA,A8,AY,BB,AO,AQ,AL,BD,AX,AC,AA,AZ,AU,BJ,A7,FX,BQ,BX,BF,BO,↓reduceIte,Nat.reduceEqDiff,oGs,bNf,enP,AGK h (.sl m 2 (l.map GH)) rfl,bxE]
 generalize h ++ [ABlk.live 1 [[.sl m 2 (l.map GH)]]] ++ [ABlk.live 4 [EH e]]=H at gs ge hx ⊢
 generalize (h ++ [ABlk.live 1 [[.sl m 2 (l.map GH)]]]).length=eb at ge ⊢
 simp -implicitDefEqProofs only [AY,AO,AQ,AL,BD,AX,AC,AA,AZ,CB,CG,BP,AB,lMc,lMn,lAn,↓reduceIte,oGs,bNf,ML ge]
 refine (hN H).use ?_
 simp -implicitDefEqProofs only [BV,A8,AY,BB,AO,AQ,AL,BD,AX,AC,AA,AZ,AU,BI,BG,D8,AB,↓reduceIte,oGs,bNf,enP,XM,lLm]
 refine JJ 0 (fun F H'=>F 2 = .ptr h.length 0 0∧F 3 = .ptr eb 0 0∧H'=H∧ns.all (fun n=>(MS l n).2)=true) (fun F H'=>F 4 = .bool false∧H'=H∧ns.all (fun n=>(MS l n).2)=false) ?_ ?_ ?_
 ·refine DY (fun k F H' => ∃ j,k+j=ns.length∧F 2 = .ptr h.length 0 0∧F 3 = .ptr eb 0 0∧F 14 = .sl (nm ns) 1 (ns.map encStr)∧F 15 = .int .i64 (ns.length:Nat)∧F 16 = .int .i64 (j:Nat)∧H'=H∧ns.all (fun n=>(MS l n).2)=(ns.drop j).all fun n=>(MS l n).2) ns.length ⟨0,by simp,by simp -implicitDefEqProofs only [AA,↓reduceIte,Nat.reduceEqDiff],by simp -implicitDefEqProofs only [AA,↓reduceIte,Nat.reduceEqDiff],by simp -implicitDefEqProofs only [AA,↓reduceIte,Nat.reduceEqDiff],by simp -implicitDefEqProofs only [AA,↓reduceIte,Nat.reduceEqDiff],by simp -implicitDefEqProofs only [AA,↓reduceIte]; rfl,rfl,rfl⟩ ?_
  rintro k F H' ⟨j,hj,f2,f3,f14,f15,f16,rfl,hall⟩
  simp -implicitDefEqProofs only [BC,BA,BL,A8,AY,BB,AO,AQ,AL,BD,AX,AC,AA,AZ,BU,AB,DT,↓reduceIte,oGs,bNf,enP,f15,f16]
  refine DC (fun hc => ?_) (fun hc => ?_)
  ·have hj':j < ns.length:=by simpa using hc
   rw [AGU _ ns j hj'] at hall
   simp -implicitDefEqProofs only [BC,BV,BA,BR,A8,AY,BB,AO,AQ,AL,BD,AX,AC,AA,AZ,CB,BG,A7,BQ,CV,CG,BP,AB,lMc,lMn,lAn,↓reduceIte,Nat.reduceEqDiff,oGs,bNf,enP,ABV,f2,f14,f16,EF hj',EI ag9 hj',encStr0,UD gs]
   refine (WP G l m _ H' hl).use ?_
   unfold UA
   simp -implicitDefEqProofs only [List.getElem?_cons_zero,List.getElem?_cons_succ,BC,BA,BL,A8,AY,BB,AO,AQ,AL,BD,AX,AC,AA,AZ,BG,A7,GV,FT,IG,AB,EX,↓reduceIte,Nat.reduceEqDiff,oGs,bNf]
   cases hk:(MS l ns[j]).2
   ·simp -implicitDefEqProofs only [BC,BA,BK,A8,CX,ED,TU,FY,DU,AY,BB,AO,AQ,AL,BD,AX,AC,AA,AU,BJ,A7,↓reduceIte,oGs,bNf]
    exact ⟨trivial,trivial,by rw [hall,hk]; rfl⟩
   ·simp -implicitDefEqProofs only [BA,BR,A8,EP,FC,D5,AY,BB,AO,AQ,AL,BD,AX,AC,AA,AZ,AU,BI,BG,BU,AB,DV,↓reduceIte,Nat.reduceEqDiff,oGs,bNt,bNf,enP,f2,f3,f14,f15,f16,wrap_succ (show j < 9223372036854775807 by omega)]
    exact ⟨k - 1,by omega,j+1,by omega,by first | trivial | exact f2,by first | trivial | exact f3,by first | trivial | exact f14,by first | trivial | exact f15,by first | trivial | rfl,trivial,by rw [hall,hk]; rfl⟩
  ·have hj' : ¬ j < ns.length:=by simpa using hc
   simp -implicitDefEqProofs only [DW,ER,O1,FM,AA,↓reduceIte,Nat.reduceEqDiff]
   exact ⟨f2,f3,trivial,by rw [hall,List.drop_eq_nil_of_le (by omega)]; rfl⟩
 ·rintro F H' ⟨f2,f3,rfl,hall⟩
  rw [hall,Bool.true_and]
  simp -implicitDefEqProofs only [BC,BA,A8,FN,AY,AO,AQ,AL,BD,AX,AC,AA,AZ,CB,BQ,CG,BP,AB,lMc,lMn,lAn,↓reduceIte,oGs,bNf,enP,f3,ML ge]
  refine (hA H').use ?_
  simp -implicitDefEqProofs only [BV,A8,AY,BB,AO,AQ,AL,BD,AX,AC,AA,AZ,AU,BI,BG,D8,AB,↓reduceIte,oGs,bNf,enP,XM,lLm]
  refine DY (fun k F' H2 => ∃ j,k+j=ars.length∧F' 2 = .ptr h.length 0 0∧F' 30 = .sl (nm ars) 1 (ars.map encStr)∧F' 31 = .int .i64 (ars.length:Nat)∧F' 32 = .int .i64 (j:Nat)∧H2=H'∧ars.all (fun n=>(atG l n 0).2)=(ars.drop j).all fun n=>(atG l n 0).2) ars.length ⟨0,by simp,by simp -implicitDefEqProofs only [AA,↓reduceIte,Nat.reduceEqDiff,f2],by simp -implicitDefEqProofs only [AA,↓reduceIte,Nat.reduceEqDiff],by simp -implicitDefEqProofs only [AA,↓reduceIte,Nat.reduceEqDiff],by simp -implicitDefEqProofs only [AA,↓reduceIte]; rfl,rfl,rfl⟩ ?_
  rintro k F' H2 ⟨j,hj,g2,g30,g31,g32,rfl,hall2⟩
  simp -implicitDefEqProofs only [BC,BA,BL,A8,AY,BB,AO,AQ,AL,BD,AX,AC,AA,AZ,BU,AB,DT,↓reduceIte,oGs,bNf,enP,g31,g32]
  refine DC (fun hc => ?_) (fun hc => ?_)
  ·have hj':j < ars.length:=by simpa using hc
   rw [AGU _ ars j hj'] at hall2
   simp -implicitDefEqProofs only [BC,BV,BA,BR,A8,AY,BB,AO,AQ,AL,BD,AX,AC,AA,AZ,AU,CB,BI,BG,A7,BQ,CV,CG,BP,AB,lMc,lMn,lAn,↓reduceIte,Nat.reduceEqDiff,oGs,bNf,enP,ABV,g2,g30,g32,EF hj',EI ag9 hj',encStr0,UD gs]
   refine (AD1 G l m _ 0 H2 hl (hm2 _ (List.getElem_mem hj'))).use ?_
   unfold UA
   simp -implicitDefEqProofs only [List.getElem?_cons_zero,List.getElem?_cons_succ,BC,BA,BL,A8,AY,BB,AO,AQ,AL,BD,AX,AC,AA,AZ,BG,A7,GV,FT,IG,AB,EX,↓reduceIte,Nat.reduceEqDiff,oGs,bNf]
   cases hk:(atG l ars[j] 0).2
   ·simp -implicitDefEqProofs only [BC,BA,BK,A8,CX,ED,FY,CP,DU,AY,BB,AO,AQ,AL,BD,AX,AC,AA,AU,BJ,A7,↓reduceIte,oGs,bNf]
    exact ⟨by rw [hall2,hk]; rfl,hx⟩
   ·simp -implicitDefEqProofs only [BA,BR,A8,EP,FC,D5,AY,BB,AO,AQ,AL,BD,AX,AC,AA,AZ,AU,BI,BG,BU,AB,DV,↓reduceIte,Nat.reduceEqDiff,oGs,bNt,bNf,enP,g2,g30,g31,g32,wrap_succ (show j < 9223372036854775807 by omega)]
    exact ⟨k - 1,by omega,j+1,by omega,by first | trivial | exact g2,by first | trivial | exact g30,by first | trivial | exact g31,by first | trivial | rfl,trivial,by rw [hall2,hk]; rfl⟩
  ·have hj' : ¬ j < ars.length:=by simpa using hc
   simp -implicitDefEqProofs only [BC,BA,BK,DW,A8,ER,FN,FM,CP,AY,BB,AO,AQ,AL,BD,AX,AC,AA,AU,BJ,A7,↓reduceIte,oGs,bNf]
   exact ⟨by rw [hall2,List.drop_eq_nil_of_le (by omega)]; rfl,hx⟩
 ·rintro F H' ⟨f4,rfl,hall⟩
  simp -implicitDefEqProofs only [CX,ED,CP,f4]
  exact ⟨by rw [hall]; rfl,hx⟩
theorem encN0 (n:Nat):(JE n)[0]? = some (.int .i64 (n:Int)):=rfl
theorem AEH (l:List Sg) (m:SM) (hl:l.length≤1099511627776) (e:Ex):wt e≤1048576→(∀ x∈pre e,JO x=0)→∀ h:Hp,PCall (En G) 158 [.agg [.sl m 2 (l.map GH)],.agg (EH e)] h (.int .i64 (AAW l e:Nat)):=by
 induction e using Ex.induct with | h e ih => ?_
 intro hw hval h
 have hal:e.args.length≤1048576:=by have:=S9 e.args; have:=LY e; omega
 have hnz:e.name.size≤1048576:=by have:=LY e; omega
 obtain ⟨o1,o3,oo⟩:=ANR (hval e (by rw [pre_eq]; simp))
 refine ACalls.pure0 rfl ?_
 refine CE (H:=Hint.none) (enM G) Tryz.func158 rfl (by kernel_rfl) (by kernel_rfl) (nLb (by kernel_rfl)) ?_
 show awp _ _ _ _ _ (D9 _ [.tmp 4] _)
 have gs:=CJ (x:=ABlk.live 4 [EH e]) (C9 h (ABlk.live 1 [[.sl m 2 (l.map GH)]]))
 have ge:=C9 (h ++ [ABlk.live 1 [[.sl m 2 (l.map GH)]]]) (ABlk.live 4 [EH e])
 have hx:ext h (h ++ [ABlk.live 1 [[.sl m 2 (l.map GH)]]] ++ [ABlk.live 4 [EH e]]):=((ext.rfl' h).app _).app _
 simp -implicitDefEqProofs only [BC,BA,A8,AY,BB,AO,AQ,AL,BD,AX,AC,AA,AZ,AU,BI,JS,A7,FX,BQ,BM,BX,AB,BF,BO,↓reduceIte,Nat.reduceEqDiff,Nat.zero_add,oGs,bNf,enP,O7,AGK h (.sl m 2 (l.map GH)) rfl,bxE]
 generalize h ++ [ABlk.live 1 [[.sl m 2 (l.map GH)]]] ++ [ABlk.live 4 [EH e]]=H1 at gs ge hx ⊢
 generalize (h ++ [ABlk.live 1 [[.sl m 2 (l.map GH)]]]).length=eb at ge ⊢
 have l3:DL Tryz.prog H1 51 (.ptr eb 0 3)=some (.sl e.m 4 (e.args.map EH)):=by rw [DK AGW ge (row:=EH e) rfl,XV]
 simp -implicitDefEqProofs only [BV,A8,AY,BB,AO,AQ,AL,BD,AX,AC,AA,AZ,AU,BI,BG,D8,AB,↓reduceIte,oGs,bNf,enP,AC4,l3,lLm]
 refine JJ 0 (fun F H => ∃ v,F 2 = .ptr h.length 0 0∧F 3 = .ptr eb 0 0∧F 5=v∧ext H1 H∧outG 1 JE H1 (KU l e.args) v H) (fun _ _=>False) ?_ ?_ (fun _ _ hh=>hh.elim)
 ·refine DY (fun k F H => ∃ j v,k+j=e.args.length∧F 2 = .ptr h.length 0 0∧F 3 = .ptr eb 0 0∧F 5=v∧F 13 = .sl e.m 4 (e.args.map EH)∧F 14 = .int .i64 (e.args.length:Nat)∧F 15 = .int .i64 (j:Nat)∧ext H1 H∧outG 1 JE H1 (KU l (e.args.take j)) v H) e.args.length
   ⟨0,.sl .nil 0 [],by simp,by simp -implicitDefEqProofs only [AA,↓reduceIte,Nat.reduceEqDiff],by simp -implicitDefEqProofs only [AA,↓reduceIte,Nat.reduceEqDiff],by simp -implicitDefEqProofs only [AA,↓reduceIte,Nat.reduceEqDiff],by simp -implicitDefEqProofs only [AA,↓reduceIte,Nat.reduceEqDiff],by simp -implicitDefEqProofs only [AA,↓reduceIte,Nat.reduceEqDiff],by simp -implicitDefEqProofs only [AA,↓reduceIte]; rfl,ext.rfl' H1,outG.nil _ _ _ _⟩ ?_
  rintro k F H ⟨j,v,hj,f2,f3,f5,f13,f14,f15,hxH,ho⟩
  simp -implicitDefEqProofs only [BC,BA,BL,A8,AY,BB,AO,AQ,AL,BD,AX,AC,AA,AZ,BU,AB,DT,↓reduceIte,oGs,bNf,enP,f14,f15]
  refine DC (fun hc => ?_) (fun hc => ?_)
  ·have hj':j < e.args.length:=by simpa using hc
   have hmem:e.args[j]∈e.args:=List.getElem_mem hj'
   have ho1:=ho.app [ABlk.live 4 [EH e.args[j]]]
   have hx1:=hxH.app [ABlk.live 4 [EH e.args[j]]]
   have htl:(KU l (e.args.take j)).length < 8388608:=by rw [ABE]; simp; omega
   obtain ⟨v',H',ha,ho',_,hx',_,_⟩:=ho1.append (P:=Tryz.prog) UN sz3 YP WV (by omega) htl hx1 (AAW l e.args[j])
   have ha':GI Tryz.prog true (H ++ [ABlk.live 4 [EH e.args[j]]]) 57 57 v (.sl .full 1 [[.int .i64 ((AAW l e.args[j]:Nat):Int)]])=some (v',H'):=ha
   simp -implicitDefEqProofs only [BC,BV,BA,BR,A8,AY,BB,AO,AQ,AL,BD,AX,AC,EM,AA,AZ,CB,BG,EZ,BQ,D6,CV,CG,BP,BX,AB,DI,lMc,lMn,lAn,↓reduceIte,Nat.reduceEqDiff,oGs,bNf,enP,ALF,Option.getD_none,f13,f15,EF hj',FK AAM VF I8 hj',ASW,AQL _ _ [.int .i64 0,.int .i64 0,.str ⟨#[]⟩,.sl .nil 0 []] rfl,f2,f5,UD (EK hx1 gs),ldE]
   refine (ih e.args[j] hmem (by have:=QK hmem; have:=LY e; omega) (fun x hx=>hval x (by rw [pre_eq]; exact List.mem_cons_of_mem _ (ACZ hmem x hx))) _).use ?_
   simp -implicitDefEqProofs only [FI,FQ,BA,A8,EP,FC,AY,BB,AO,AQ,AL,BD,AX,AC,AA,AZ,AU,BI,BG,A7,EE,BU,H9,BX,AB,DV,↓reduceIte,Nat.reduceEqDiff,oGs,bNf,enP,f5,AL7,ha',f2,f3,f13,f14,f15,wrap_succ (show j < 9223372036854775807 by omega)]
   exact ⟨k - 1,by omega,j+1,v',by omega,by first | trivial | exact f2,by first | trivial | exact f3,by first | trivial | rfl,by first | trivial | exact f13,by first | trivial | exact f14,by first | trivial | rfl,hx',by rw [AG8 _ _ _ hj']; exact ho'⟩
  ·have hj' : ¬ j < e.args.length:=by simpa using hc
   rw [List.take_of_length_le (by omega)] at ho
   simp -implicitDefEqProofs only [DW,ER,O1,FM,AA,↓reduceIte,Nat.reduceEqDiff]
   exact ⟨v,f2,f3,f5,hxH,ho⟩
 ·rintro F H ⟨v,f2,f3,f5,hxH,ho⟩
  have gsH:=EK hxH gs
  have geH:=EK hxH ge
  have hxx:=hx.trans hxH
  have l0:DL Tryz.prog H 3 (.ptr eb 0 0)=some (.int .i64 e.op):=by rw [DK ag3 geH (row:=EH e) rfl,JF]
  have l1:DL Tryz.prog H 3 (.ptr eb 0 1)=some (.int .i64 e.n):=by rw [DK ag3 geH (row:=EH e) rfl,XW]
  have l2:DL Tryz.prog H 9 (.ptr eb 0 2)=some (.str e.name):=by rw [DK ag9 geH (row:=EH e) rfl,PD]
  have hvl:=ABE l e.args
  rw [AI7]
  simp -implicitDefEqProofs only [BC,BV,BA,BL,A8,FN,AY,BB,AO,AQ,AL,BD,AX,AC,AA,AZ,AU,BI,A7,BQ,BU,BM,AB,DX,↓reduceIte,Nat.add_zero,oGs,bNf,enP,H6,f3,l0]
  by_cases e1:e.op=1
  ·have c1:(e.op == 1)=true:=by simpa using e1
   simp -implicitDefEqProofs only [BC,BA,BK,A8,CX,ED,CP,DU,AY,BB,AO,AQ,AL,BD,AX,AC,AA,AZ,A7,BQ,BM,AB,↓reduceIte,Nat.reduceEqDiff,Nat.zero_add,oGs,bNf,enP,ZY,c1,f3,l1]
   have:=o1 e1
   exact ⟨by unfold AEK; rw [if_pos e1]; congr 1; omega,hxx⟩
  have c1:(e.op == 1)=false:=by simpa using e1
  by_cases e2:e.op=2
  ·have c2:(e.op == 2)=true:=by simpa using e2
   simp -implicitDefEqProofs only [BC,BA,BL,A8,DU,D5,AY,BB,AO,AQ,AL,BD,AX,AC,AA,AZ,AU,CB,BI,A7,BQ,BU,BM,CG,BP,AB,DX,lMc,lMn,lAn,↓reduceIte,Nat.reduceEqDiff,Nat.zero_add,oGs,bNf,enP,KR,c1,c2,f2,f3,l2,UD gsH]
   refine (WP G l m _ H hl).use ?_
   unfold UA
   simp -implicitDefEqProofs only [List.getElem?_cons_zero,List.getElem?_cons_succ,BC,BA,BK,A8,CX,ED,CP,AY,BB,AO,AQ,AL,BD,AX,AC,AA,AZ,BG,A7,FT,IG,AB,↓reduceIte,Nat.reduceEqDiff,oGs,bNf]
   exact ⟨by unfold AEK; rw [if_neg e1,if_pos e2],hxx⟩
  have c2:(e.op == 2)=false:=by simpa using e2
  by_cases e3:e.op=3
  ·have c3:(e.op == 3)=true:=by simpa using e3
   have hl1:=o3 e3
   obtain ⟨o,rfl,hob⟩ : ∃ o,v = .own o 0 1∧H[o]? = some (.live 1 ((KU l e.args).map JE)):=by
    rcases ho with ⟨h0,_⟩ | ⟨_,o,_,rfl,hb⟩
    ·rw [h0] at hvl; simp at hvl; omega
    ·exact ⟨o,by rw [hvl,hl1],hb⟩
   have hlen:0 < (KU l e.args).length:=by omega
   have i0:JP 1 H (.own o 0 1) (.int .i64 0)=some (.ptr o 0 0):=LJ (n:=0) hob (by decide)
   have d0:DL Tryz.prog H 3 (.ptr o 0 0)=some (.int .i64 ((KU l e.args).getD 0 0:Nat)):=by
    rw [DK ag3 hob (row:=JE (KU l e.args)[0]) (NE hlen),List.getD_eq_getElem?_getD,List.getElem?_eq_getElem hlen]; rfl
   simp -implicitDefEqProofs only [BC,BA,BL,A8,DU,D5,AY,BB,AO,AQ,AL,BD,AX,AC,AA,AZ,AU,BI,A7,BU,AB,DX,↓reduceIte,Nat.reduceEqDiff,oGs,bNf,enP,c1,c2,c3]
   refine F7 (by kernel_rfl) ?_
   simp -implicitDefEqProofs only [GR,EU,D7,EW,G7,F9,FB,GG,J9,IJ,IB,AO,AA,AZ,AU,CB,BI,BQ,BM,CV,FT,AB,lMc,lMn,lAn,↓reduceIte,Nat.reduceEqDiff,Nat.reduceAdd,Nat.zero_add,oGs,enP,KR,MB,f2,f3,f5,l2,UD gsH,i0,d0]
   refine ⟨_,AD1 G l m _ _ H hl hnz,?_⟩
   unfold UA
   simp -implicitDefEqProofs only [GR,List.getElem?_cons_zero,List.getElem?_cons_succ,EU,D7,FZ,EW,J5,J9,BC,BA,BK,A8,CX,ED,CP,AY,BB,AO,AQ,AL,BD,AX,AC,AA,AZ,BG,A7,FT,IG,AB,↓reduceIte,Nat.reduceEqDiff,Nat.reduceAdd,oGs,bNf]
   exact ⟨by unfold AEK; rw [if_neg e1,if_neg e2,if_pos e3],hxx⟩
  have c3:(e.op == 3)=false:=by simpa using e3
  by_cases e24:e.op=24
  ·have c24:(e.op == 24)=true:=by simpa using e24
   simp -implicitDefEqProofs only [BC,BA,BL,A8,DU,D5,AY,BB,AO,AQ,AL,BD,AX,AC,AA,AZ,AU,CB,BI,A7,BQ,BU,BM,CG,BP,AB,DX,lMc,lMn,lAn,↓reduceIte,Nat.reduceEqDiff,Nat.zero_add,oGs,bNf,enP,KR,c1,c2,c3,c24,f2,f3,l2,UD gsH]
   refine (AM5 G l m _ H hl hnz).use ?_
   simp -implicitDefEqProofs only [BK,A8,CX,ED,CP,AY,BB,AO,AQ,AL,BD,AX,AC,AA,AZ,A7,↓reduceIte,oGs,bNf]
   exact ⟨by unfold AEK; rw [if_neg e1,if_neg e2,if_neg e3,if_pos e24],hxx⟩
  have c24:(e.op == 24)=false:=by simpa using e24
  have hok:=oo e1 e2 e3 e24
  have hok':APZ e.op (KU l e.args).length:=by rw [hvl]; exact hok
  obtain ⟨o,rfl,hob⟩ : ∃ o,v = .own o 0 (KU l e.args).length∧H[o]? = some (.live 1 ((KU l e.args).map JE)):=by
   rcases ho with ⟨h0,_⟩ | ⟨_,o,_,rfl,hb⟩
   ·exfalso
    rw [h0] at hok'
    obtain ⟨a,b,c⟩:=hok'
    by_cases q:e.op=22
    ·have:=a q; simp at this
    by_cases q':e.op=23
    ·have:=b q'; simp at this
    ·have:=c q q'; simp at this
   ·exact ⟨o,rfl,hb⟩
  simp -implicitDefEqProofs only [BC,BA,BR,BL,A8,EP,D5,AY,BB,AO,AQ,AL,BD,AX,AC,AA,AZ,AU,CB,BI,BG,A7,BQ,BU,BM,CG,BP,AB,DX,lMc,lMn,lAn,↓reduceIte,Nat.reduceEqDiff,Nat.add_zero,oGs,bNf,enP,H6,c1,c2,c3,c24,f3,l0,f5]
  refine (AK8 G e.op _ o H hob (AMU l _) (by omega) hok').use ?_
  simp -implicitDefEqProofs only [BK,A8,CP,AY,BB,AO,AQ,AL,BD,AX,AC,AA,AZ,A7,↓reduceIte,oGs,bNf]
  exact ⟨by unfold AEK; rw [if_neg e1,if_neg e2,if_neg e3,if_neg e24],hxx⟩
end
end Go.Proofs.YtocilianjfhifaaGreatDoor.Xe
