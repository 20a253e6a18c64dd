/- Part 12 of the proof (X3, X4, X5, X6, X7, X8, X9); no condition. -/
import Derived.Test.YtfpagfhhhlljjaaGreatDoorYC11
set_option linter.unusedVariables false
set_option linter.unusedSimpArgs false
set_option maxRecDepth 8000
namespace Go.Proofs.YtfpagfhhhlljjaaGreatDoor.Xe
open Sm Bins Cov Wd Go.RowKit
open Bool renaming not_false→jB,not_true→jV,eq_iff_iff→qP,true_and→qM,and_eq_true→jU,false_eq_true→zA
open Int renaming reduceBEq→zD
open List renaming drop_eq_getElem_cons→zQ,all_cons→qQ,length_map→jI,map_cons→jE,map_nil→jD,append_nil→jF,drop_eq_nil_of_le→zG,getElem_mem→jO,getElem?_cons_zero→zH,getElem?_cons_succ→zL,getD_eq_getElem?_getD→jZ,getElem?_eq_getElem→jL,getElem?_eq_none→qN,take_succ_eq_append_getElem→zN,map_append→yC,mem_map→zJ,any_eq_true→qC,all_eq_true→zF,mem_append→zY,mem_cons_of_mem→qW,take_of_length_le→jW,mem_cons→qI,length_append→zZ,length_cons→zW,length→wR,all_append→yA,findIdx?_eq_some_iff_getElem→qX,findIdx?_eq_none_iff→qY,drop_zero→zO,getElem?_set_ne→zT
open Nat renaming le_refl→jK,le_of_ble_eq_true→jH,reduceEqDiff→jC,add_zero→jM,zero_add→jG,mod_lt→qU,lt_or_ge→zK,reduceAdd→jQ,le_trans→qJ
open Option renaming getD_some→jA,getD_none→jT,map_some→wV
abbrev Sg:=ByteArray × Int
def GI (s:Sg):List AV := [.str s.1,.int .i64 s.2]
theorem AFT (s:Sg):(GI s).length=2:=rfl
theorem A28 (s:Sg):(GI s)[0]? = some (.str s.1):=rfl
def VO (s:Sg):Prop := -9223372036854775808≤s.2∧s.2≤9223372036854775807
def LV:List Sg→ByteArray→Nat × Bool
 | [],_=>(0,false)
 | s :: l,n=>if (s.1.toList == n.toList)=true then (wW s.2,true) else LV l n
theorem AC3 : ∀ (l:List Sg) (n:ByteArray),(LV l n).1 < 65536
 | [],_=>by simp [LV]
 | s :: l,n=>by unfold LV; split; exact AO1 _; exact AC3 l n
theorem AC2 (l:List Sg) (n:ByteArray) (k:Nat) (hk:k < l.length):LV (l.drop k) n=if (l[k].1.toList == n.toList)=true then (wW l[k].2,true) else LV (l.drop (k+1)) n:=by
 rw [zQ hk]; rfl
def QV (p:Nat × Bool):AV := .tup [.int .i64 (p.1:Nat),.bool p.2]
theorem AJN (p:Nat × Bool) (n:Nat) (H:Hp):IG n H 2 (QV p)=QV p:=rfl
theorem A6U (h:Hp):JY Tryz.prog h 59=some (.ptr h.length 0 0,h ++ [.live 2 [[.str ⟨#[]⟩,.int .i64 0]]]):=JL (row := [.str ⟨#[]⟩,.int .i64 0]) (by kernel_rfl)
theorem A4A (h:Hp) (s:Sg):FB Tryz.prog (h ++ [.live 2 [[.str ⟨#[]⟩,.int .i64 0]]]) 59 (.ptr h.length 0 0) (.agg (GI s))=some (h ++ [.live 2 [GI s]]):=by
 rw [NQ (cs:=GI s) (row := [.str ⟨#[]⟩,.int .i64 0]) rfl A18 (CW _ _) (by exact jK 2),AA7]
 rfl
theorem ALI (h:Hp) (u:AV) (hu:u.leaf=true):OT h (.agg [u])=some (.ptr h.length 0 0,h ++ [ABlk.live 1 [[u]]]):=TQ (by simp only [qQ,hu,List.all_nil]; rfl)
theorem VU {h:Hp} {b:Nat} {u:AV} (hb:h[b]? = some (.live 1 [[u]])):DX Tryz.prog h 205 (.ptr b 0 0)=some (.agg [u]):=by
 rw [G8 A60 A1B hb rfl (by exact jK 1)]; rfl
theorem SK {P:Program} {t:TypeId} {a b:ByteArray} (h:a.size+b.size≤9223372036854775807):JB P t .add (.str a) (.str b)=some (.str (a ++ b)):=by
 show AOK .add a b=_
 unfold AOK
 have:((a.size+b.size:Nat):Int)≤IntKind.i64.max:=by
  show _≤(9223372036854775807:Int)
  omega
 simp only [if_pos this]
section
variable (G:Nat→AV)
theorem ZL (l:List Sg) (m:SM) (n:ByteArray) (h:Hp) (hl:l.length≤1099511627776):PCall (En G) 217 [.agg [.sl m 2 (l.map GI)],.str n] h (QV (LV l n)):=by
 refine AB1 2 (AJN _) ?_
 refine acN Tryz.func217 rfl ?_
 show awp _ _ _ _ _ (D8 _ [.tmp 4,.tmp 5] _)
 simp -implicitDefEqProofs only [BC,BP,BA,A8,AY,BB,AO,AQ,AL,BD,AX,AC,AA,AZ,AU,BH,BM,BG,A7,FM,BX,BN,D6,CB,AB,BF,↓reduceIte,jC,jM,jA,jB,enP,AUX,AZU,ALI h (.sl m 2 (l.map GI)) rfl,JF A0Y (CW h (ABlk.live 1 [[.sl m 2 (l.map GI)]])),jI]
 refine DY (fun k F H => ∃ j,k+j=l.length∧F 1 = .str n∧F 9 = .sl m 2 (l.map GI)∧F 10 = .int .i64 (l.length:Nat)∧F 11 = .int .i64 (j:Nat)∧ext h H∧LV l n=LV (l.drop j) n) l.length ⟨0,by simp,by simp -implicitDefEqProofs only [AA,BF,BL,↓reduceIte,jC],by simp -implicitDefEqProofs only [AA,↓reduceIte,jC],by simp -implicitDefEqProofs only [AA,↓reduceIte,jC],by simp -implicitDefEqProofs only [AA,↓reduceIte]; rfl,(ext.rfl' h).app _,rfl⟩ ?_
 rintro k F H ⟨j,hj,f1,f9,f10,f11,hx,hf⟩
 simp -implicitDefEqProofs only [BC,BA,BI,A8,AY,BB,AO,AQ,AL,BD,AX,AC,AA,AZ,BQ,AB,C9,↓reduceIte,jA,jB,enP,f10,f11]
 refine CV (fun hc => ?_) (fun hc => ?_)
 ·have hj':j < l.length:=by simpa using hc
  have g:=CW H (ABlk.live 2 [GI l[j]])
  have l0:DX Tryz.prog (H ++ [ABlk.live 2 [GI l[j]]]) 9 (.ptr H.length 0 0)=some (.str l[j].1):=by rw [DJ ag9 g (row:=GI l[j]) rfl]; rfl
  have l1:DX Tryz.prog (H ++ [ABlk.live 2 [GI l[j]]]) 3 (.ptr H.length 0 1)=some (.int .i64 l[j].2):=by rw [DJ ag3 g (row:=GI l[j]) rfl]; rfl
  rw [AC2 l n j hj'] at hf
  simp -implicitDefEqProofs only [BC,BP,BA,BR,BI,A8,AY,BB,AO,AQ,AL,BD,AX,AC,ES,AA,AZ,BG,FO,BX,EI,BQ,BN,CG,CB,AB,DT,MK,↓reduceIte,jC,jM,jA,jB,enP,ANN,AZJ,jT,f1,f9,f11,D7 hj',FP A8O A18 AFT hj',A6U,A4A,l0]
  refine CV (fun hb => ?_) (fun hb => ?_)
  ·simp -implicitDefEqProofs only [BC,BA,AY,AO,AQ,AL,BD,AX,AC,AA,AZ,BU,BX,BN,BZ,BO,AB,jE,jD,jF,↓reduceIte,jC,jG,jA,jB,enP,AVT,l1]
   refine (AQP G _ _).use ?_
   simp -implicitDefEqProofs only [BJ,A8,CQ,ED,F7,IU,AY,BB,AO,AQ,AL,BD,AX,AC,AA,AZ,AU,BM,A7,↓reduceIte,jC,jA,jB]
   exact ⟨by rw [hf,if_pos hb]; rfl,hx.app _⟩
  ·simp -implicitDefEqProofs only [BA,BR,A8,EH,ER,AY,BB,AO,AQ,AL,BD,AX,AC,AA,AZ,AU,BH,BG,BQ,AB,DK,↓reduceIte,jC,jA,jB,enP,f11,wrap_succ (show j < 9223372036854775807 by omega)]
   exact ⟨k - 1,by omega,j+1,by omega,by trivial,by trivial,by trivial,rfl,hx.app _,by rw [hf,if_neg (by rw [hb]; decide)]⟩
 ·have hj' : ¬ j < l.length:=by simpa using hc
  simp -implicitDefEqProofs only [BC,BA,BJ,DW,A8,EG,EY,EZ,IU,AY,BB,AO,AQ,AL,BD,AX,AC,AA,AU,BH,BM,A7,↓reduceIte,jC,jA,jB]
  exact ⟨by rw [hf,zG (by omega)]; rfl,hx⟩
theorem AC1 (l:List Sg) (m:SM) (n:ByteArray) (h:Hp) (hl:l.length≤1099511627776) (hok : ∀ s∈l,VO s):PCall (En G) 195 [.sl m 2 (l.map GI),.str n] h (QV (LV l n)):=by
 refine acN Tryz.func195 rfl ?_
 show awp _ _ _ _ _ (D8 _ [.tmp 4,.tmp 5] _)
 simp -implicitDefEqProofs only [BC,BP,BA,A8,AY,BB,AO,AQ,AL,BD,AX,AC,AU,BH,BM,A7,jA,jB,enP]
 refine DY (fun k F H => ∃ j,k+j=l.length∧F 0 = .sl m 2 (l.map GI)∧F 1 = .str n∧F 6 = .int .i64 (j:Nat)∧H=h∧LV l n=LV (l.drop j) n) l.length ⟨0,by simp,by simp -implicitDefEqProofs only [AA,BF,↓reduceIte,jC],by simp -implicitDefEqProofs only [AA,BF,BL,↓reduceIte,jC],by simp -implicitDefEqProofs only [AA,↓reduceIte]; rfl,rfl,rfl⟩ ?_
 rintro k F H ⟨j,hj,f0,f1,f6,rfl,hf⟩
 simp -implicitDefEqProofs only [BC,BA,BI,A8,AY,BB,AO,AQ,AL,BD,AX,AC,AA,AZ,BG,BQ,D6,AB,C9,↓reduceIte,jC,jA,jB,enP,AUX,f0,f6,jI]
 refine CV (fun hc => ?_) (fun hc => ?_)
 ·have hj':j < l.length:=by simpa using hc
  rw [AC2 l n j hj'] at hf
  have l0:DX Tryz.prog H 9 (.fptr 2 (l.map GI) j 0)=some (.str l[j].1):=by rw [DZ ag9 hj']; rfl
  have l1:DX Tryz.prog H 3 (.fptr 2 (l.map GI) j 1)=some (.int .i64 l[j].2):=by rw [DZ ag3 hj']; rfl
  simp -implicitDefEqProofs only [BC,BP,BA,BR,BI,A8,AY,BB,AO,AQ,AL,BD,AX,AC,AA,AZ,BG,BX,BQ,BN,CG,AB,MK,↓reduceIte,jC,jM,jA,jB,enP,ANN,AZJ,f0,f1,f6,D7 hj',l0]
  refine CV (fun hb => ?_) (fun hb => ?_)
  ·simp -implicitDefEqProofs only [BC,BA,AY,AO,AQ,AL,BD,AX,AC,AA,AZ,BU,BG,BX,BN,CG,BZ,BO,AB,jE,jD,jF,↓reduceIte,jC,jG,jA,jB,enP,AVT,AZJ,f0,f6,D7 hj',l1]
   refine (P7 G _ _ (hok _ (jO hj'))).use ?_
   simp -implicitDefEqProofs only [BJ,A8,CQ,ED,F7,IU,AY,BB,AO,AQ,AL,BD,AX,AC,AA,AZ,AU,BM,A7,↓reduceIte,jC,jA,jB]
   exact ⟨by rw [hf,if_pos hb]; rfl,trivial⟩
  ·simp -implicitDefEqProofs only [BA,BR,A8,EH,ER,AY,BB,AO,AQ,AL,BD,AX,AC,AA,AZ,AU,BH,BG,A7,BQ,AB,DK,↓reduceIte,jC,jA,jB,enP,f6,wrap_succ (show j < 9223372036854775807 by omega)]
   exact ⟨k - 1,by omega,j+1,by omega,by trivial,by trivial,rfl,trivial,by rw [hf,if_neg (by rw [hb]; decide)]⟩
 ·have hj' : ¬ j < l.length:=by simpa using hc
  simp -implicitDefEqProofs only [BC,BA,BJ,DW,A8,EG,EY,EZ,IU,AY,BB,AO,AQ,AL,BD,AX,AC,AA,AU,BH,BM,A7,↓reduceIte,jC,jA,jB]
  exact ⟨by rw [hf,zG (by omega)]; rfl,trivial⟩
def elN (a:ByteArray) (i:Nat):ByteArray:=a ++ (⟨#[91]⟩:ByteArray) ++ (⟨#[UInt8.ofNat (48+i)]⟩:ByteArray) ++ (⟨#[93]⟩:ByteArray)
def atG (l:List Sg) (a:ByteArray) (i:Int):Nat × Bool:=if i < 0∨i≥8 then (0,false) else LV l (elN a i.toNat)
theorem AOE (l:List Sg) (a:ByteArray) (i:Int):(atG l a i).1 < 65536:=by unfold atG; split; decide; exact AC3 _ _
theorem AWA : ∀ i:Nat,i < 8→U6 Tryz.prog 100 9 (.sl .full 1 [[.int .u8 (IntKind.u8.wrap (IntKind.i64.wrap (48+(i:Int))))]])=some (.str ⟨#[UInt8.ofNat (48+i)]⟩)
 | 0,_=>by kernel_rfl
 | 1,_=>by kernel_rfl
 | 2,_=>by kernel_rfl
 | 3,_=>by kernel_rfl
 | 4,_=>by kernel_rfl
 | 5,_=>by kernel_rfl
 | 6,_=>by kernel_rfl
 | 7,_=>by kernel_rfl
 | n+8,h=>absurd h (by omega)
theorem A6A (h:Hp) (v:Int):EN Tryz.prog false h 100 1 [(0,.int .u8 v)]=some (.sl .full 1 [[.int .u8 v]],h):=by kernel_rfl
theorem VI (a b:ByteArray):(a ++ b).size=a.size+b.size:=ByteArray.size_append
theorem AHS (l:List Sg) (m:SM) (a:ByteArray) (i:Int) (h:Hp) (hl:l.length≤1099511627776) (ha:a.size≤1048576):PCall (En G) 219 [.agg [.sl m 2 (l.map GI)],.str a,.int .i64 i] h (QV (atG l a i)):=by
 refine AB1 2 (AJN _) ?_
 refine acN Tryz.func219 rfl ?_
 show awp _ _ _ _ _ (D8 _ [.tmp 6,.tmp 7] _)
 have hx:ext h (h ++ [ABlk.live 1 [[.sl m 2 (l.map GI)]]]):=(ext.rfl' h).app _
 simp -implicitDefEqProofs only [BC,BA,A8,AY,BB,BK,BV,CO,AO,AQ,AL,BD,AX,AC,AA,AZ,AU,BH,BM,BG,A7,FM,BQ,CB,AB,C9,BF,BL,↓reduceIte,jC,jA,jB,enP,ALI h (.sl m 2 (l.map GI)) rfl]
 cases h1:decide (i < 0)
 ·cases h2:decide (i≥8)
  ·have h1' : ¬ i < 0:=by simpa using h1
   have h2' : ¬ i≥8:=by simpa using h2
   obtain ⟨k,rfl⟩:=Int.eq_ofNat_of_zero_le (show 0≤i by omega)
   have hk:k < 8:=by omega
   have e1:JB Tryz.prog 9 .add (.str a) (.str ⟨#[91]⟩)=_:=SK (by show a.size+1≤_; omega)
   have e2:JB Tryz.prog 9 .add (.str (a ++ (⟨#[91]⟩:ByteArray))) (.str ⟨#[UInt8.ofNat (48+k)]⟩)=_:=SK (by rw [VI]; show a.size+1+1≤_; omega)
   have e3:JB Tryz.prog 9 .add (.str (a ++ (⟨#[91]⟩:ByteArray) ++ (⟨#[UInt8.ofNat (48+k)]⟩:ByteArray))) (.str ⟨#[93]⟩)=_:=SK (by rw [VI,VI]; show a.size+1+1+1≤_; omega)
   simp -implicitDefEqProofs only [FK,FH,BC,BA,BR,BI,A8,DI,AY,BB,BK,BV,CO,EF,AO,AQ,AL,BD,AX,AC,AA,AZ,AU,BU,BH,BM,H9,BG,CP,DN,EC,BX,BQ,YW,BZ,BO,CB,AB,DK,FX,BF,BL,jE,jD,jF,↓reduceIte,jC,jA,jB,enP,A5T,h2,VU (CW h (ABlk.live 1 [[.sl m 2 (l.map GI)]])),e1,A6A,AWA k hk,e2,e3]
   refine (ZL G l m _ _ hl).use ?_
   unfold QV
   simp -implicitDefEqProofs only [zH,zL,BJ,A8,IU,AY,BB,AO,AQ,AL,BD,AX,AC,AA,AZ,A7,EW,GG,AB,↓reduceIte,jC,jA,jB]
   exact ⟨by unfold atG; rw [if_neg (by omega)]; rfl,hx⟩
  ·simp -implicitDefEqProofs only [BC,BA,BJ,BI,A8,CQ,IU,CZ,AY,BB,BK,BV,CO,EF,AO,AQ,AL,BD,AX,AC,AA,AZ,AU,BH,BM,BG,A7,CP,DN,BQ,AB,FX,BF,BL,↓reduceIte,jC,jA,jB,enP,h2]
   have h2':i≥8:=by simpa using h2
   exact ⟨by unfold atG; rw [if_pos (.inr h2')]; rfl,hx⟩
 ·simp -implicitDefEqProofs only [BC,BA,BJ,BI,A8,CQ,IU,CZ,AY,BB,BK,BV,CO,FI,AO,AQ,AL,BD,AX,AC,AA,EK,AZ,AU,BH,BM,A7,CP,DL,↓reduceIte,jC,jA,jB]
  have h1':i < 0:=by simpa using h1
  exact ⟨by unfold atG; rw [if_pos (.inl h1')]; rfl,hx⟩
theorem AV9 : ∀ (k:Nat),k < 8→∀ h:Hp,JR Tryz.prog h 9 (.str ⟨#[48,49,50,51,52,53,54,55,56,57]⟩) (some (.int .i64 (k:Nat))) (some (.int .i64 ((k+1:Nat):Int))) none=some (.str ⟨#[UInt8.ofNat (48+k)]⟩)
 | 0,_,h=>by kernel_rfl
 | 1,_,h=>by kernel_rfl
 | 2,_,h=>by kernel_rfl
 | 3,_,h=>by kernel_rfl
 | 4,_,h=>by kernel_rfl
 | 5,_,h=>by kernel_rfl
 | 6,_,h=>by kernel_rfl
 | 7,_,h=>by kernel_rfl
 | n+8,q,_=>absurd q (by omega)
theorem digit_ref (k:Nat) (hk:k < 8) (h:Hp):PCall (En G) 225 [.int .i64 (k:Nat)] h (.str ⟨#[UInt8.ofNat (48+k)]⟩):=by
 refine acN Tryz.func225 rfl ?_
 show awp _ _ _ _ _ (D8 _ [.tmp 2] _)
 simp -implicitDefEqProofs only [wV,Option.map_none,BC,BA,BJ,A8,CJ,AY,BB,AO,AQ,AL,BD,AX,AC,AA,AZ,AU,BH,H9,BG,A7,BQ,QP,AB,DK,BF,↓reduceIte,jC,jA,jB,enP,wrap_succ (show k < 9223372036854775807 by omega),AV9 k hk]
 exact ⟨trivial,trivial⟩
theorem AAX (a:ByteArray) (k:Nat) (hk:k < 8) (h:Hp) (ha:a.size≤1048576):PCall (En G) 196 [.str a,.int .i64 (k:Nat)] h (.str (elN a k)):=by
 refine acN Tryz.func196 rfl ?_
 show awp _ _ _ _ _ (D8 _ [.tmp 4] _)
 have e1:JB Tryz.prog 9 .add (.str a) (.str ⟨#[91]⟩)=_:=SK (by show a.size+1≤_; omega)
 have e2:JB Tryz.prog 9 .add (.str (a ++ (⟨#[91]⟩:ByteArray))) (.str ⟨#[UInt8.ofNat (48+k)]⟩)=_:=SK (by rw [VI]; show a.size+1+1≤_; omega)
 have e3:JB Tryz.prog 9 .add (.str (a ++ (⟨#[91]⟩:ByteArray) ++ (⟨#[UInt8.ofNat (48+k)]⟩:ByteArray))) (.str ⟨#[93]⟩)=_:=SK (by rw [VI,VI]; show a.size+1+1+1≤_; omega)
 simp -implicitDefEqProofs only [BC,BA,A8,AY,BB,AO,AQ,AL,BD,AX,AC,AA,AZ,AU,BU,H9,BG,A7,BQ,BZ,BO,AB,BF,BL,jE,jD,jF,↓reduceIte,jC,jA,jB,enP,e1]
 refine (digit_ref G k hk h).use ?_
 simp -implicitDefEqProofs only [BJ,A8,CJ,AY,BB,AO,AQ,AL,BD,AX,AC,AA,AZ,AU,H9,A7,BQ,AB,↓reduceIte,jC,jA,jB,enP,e2,e3]
 exact ⟨rfl,trivial⟩
theorem AAQ (l:List Sg) (m:SM) (a:ByteArray) (i:Int) (h:Hp) (hl:l.length≤1099511627776) (hok : ∀ s∈l,VO s) (ha:a.size≤1048576):PCall (En G) 197 [.sl m 2 (l.map GI),.str a,.int .i64 i] h (.int .i64 ((atG l a i).1:Nat)):=by
 refine acN Tryz.func197 rfl ?_
 show awp _ _ _ _ _ (D8 _ [.tmp 6] _)
 simp -implicitDefEqProofs only [BC,BA,A8,AY,BB,BK,BV,CO,AO,AQ,AL,BD,AX,AC,AA,AZ,AU,BH,BG,A7,BQ,AB,C9,BF,BL,↓reduceIte,jC,jA,jB,enP]
 cases h1:decide (i < 0)
 ·cases h2:decide (i≥8)
  ·have h1' : ¬ i < 0:=by simpa using h1
   have h2' : ¬ i≥8:=by simpa using h2
   obtain ⟨k,rfl⟩:=Int.eq_ofNat_of_zero_le (show 0≤i by omega)
   simp -implicitDefEqProofs only [BC,BA,BR,BI,A8,DI,AY,BB,BK,BV,CO,EF,AO,AQ,AL,BD,AX,AC,AA,AZ,AU,BU,BH,BM,BG,CP,DN,BQ,BZ,BO,AB,FX,BF,BL,jE,jD,jF,↓reduceIte,jC,jA,jB,enP,h2]
   refine (AAX G a k (by omega) h ha).use ?_
   simp -implicitDefEqProofs only [AY,AO,AQ,AL,BD,AX,AC,AA,AZ,BU,BZ,BO,jE,jD,jF,↓reduceIte,jC,jA,jB]
   refine (AC1 G l m _ h hl hok).use ?_
   unfold QV
   simp -implicitDefEqProofs only [zH,zL,BC,BA,BJ,A8,CJ,AY,BB,AO,AQ,AL,BD,AX,AC,AA,AZ,BG,A7,EW,GG,AB,↓reduceIte,jC,jA,jB]
   exact ⟨by unfold atG; rw [if_neg (by omega)]; rfl,trivial⟩
  ·simp -implicitDefEqProofs only [BC,BA,BJ,BI,A8,CQ,CJ,CZ,AY,BB,BK,BV,CO,EF,AO,AQ,AL,BD,AX,AC,AA,AZ,AU,BH,BM,BG,A7,CP,DN,BQ,AB,FX,BF,BL,↓reduceIte,jC,jA,jB,enP,h2]
   have h2':i≥8:=by simpa using h2
   exact ⟨by unfold atG; rw [if_pos (.inr h2')]; rfl,trivial⟩
 ·simp -implicitDefEqProofs only [BC,BA,BJ,BI,A8,CQ,CJ,CZ,AY,BB,BK,BV,CO,FI,AO,AQ,AL,BD,AX,AC,AA,EK,AZ,AU,BH,BM,A7,CP,DL,↓reduceIte,jC,jA,jB]
  have h1':i < 0:=by simpa using h1
  exact ⟨by unfold atG; rw [if_pos (.inl h1')]; rfl,trivial⟩
def sumTo (l:List Sg) (a:ByteArray):Nat→Nat
 | 0=>0
 | k+1=>(sumTo l a k+(atG l a (k:Nat)).1) % 65536
theorem ABO (l:List Sg) (a:ByteArray) (k:Nat):sumTo l a k < 65536:=by
 cases k with
 | zero=>show 0 < 65536; decide
 | succ k=>exact qU _ (by omega)
theorem ATS (l:List Sg) (m:SM) (a:ByteArray) (h:Hp) (hl:l.length≤1099511627776) (ha:a.size≤1048576):PCall (En G) 220 [.agg [.sl m 2 (l.map GI)],.str a] h (.int .i64 (sumTo l a 8:Nat)):=by
 refine ACalls.pure0 rfl ?_
 refine acN Tryz.func220 rfl ?_
 show awp _ _ _ _ _ (D8 _ [.tmp 4] _)
 have g:=CW h (ABlk.live 1 [[.sl m 2 (l.map GI)]])
 simp -implicitDefEqProofs only [BC,BP,BA,A8,AY,BB,AO,AQ,AL,BD,AX,AC,AZ,AU,BH,BG,A7,FM,CB,BF,jA,jB,enP,ALI h (.sl m 2 (l.map GI)) rfl]
 generalize hH:h ++ [ABlk.live 1 [[.sl m 2 (l.map GI)]]]=H at g ⊢
 refine DY (fun k F H' => ∃ j,k+j=8∧F 1 = .str a∧F 2 = .ptr h.length 0 0∧F 5 = .int .i64 (sumTo l a j:Nat)∧F 9 = .int .i64 (j:Nat)∧H'=H) 8 ⟨0,by simp,by simp -implicitDefEqProofs only [AA,BF,BL,↓reduceIte,jC],by simp -implicitDefEqProofs only [AA,↓reduceIte,jC],by simp -implicitDefEqProofs only [AA,↓reduceIte,jC] <;> rfl,by simp -implicitDefEqProofs only [AA,↓reduceIte] <;> rfl,rfl⟩ ?_
 rintro k F H' ⟨j,hj,f1,f2,f5,f9,rfl⟩
 simp -implicitDefEqProofs only [BC,BA,BI,A8,AY,BB,AO,AQ,AL,BD,AX,AC,AA,AZ,AU,BH,BQ,AB,C9,↓reduceIte,jA,jB,enP,f9]
 refine CV (fun hc => ?_) (fun hc => ?_)
 ·have hj':j < 8:=by simp at hc; omega
  simp -implicitDefEqProofs only [BC,BP,BA,BR,A8,AY,BB,AO,AQ,AL,BD,AX,AC,AA,AZ,BU,BG,A7,BX,BZ,BO,AB,jE,jD,jF,↓reduceIte,jC,jA,jB,enP,f1,f2,f9,VU g]
  refine (AHS G l m a (j:Nat) H' hl ha).use ?_
  unfold QV
  simp -implicitDefEqProofs only [zH,zL,BA,A8,AY,BB,AO,AQ,AL,BD,AX,AC,AA,AZ,BU,BG,A7,EW,GG,BZ,BO,AB,jE,jD,jF,↓reduceIte,jC,jA,jB,f5]
  refine (A1V G _ _ (ABO l a j) (AOE l a (j:Nat)) H').use ?_
  simp -implicitDefEqProofs only [BA,A8,EH,ER,AY,BB,AO,AQ,AL,BD,AX,AC,AA,AZ,AU,BH,BG,A7,BQ,AB,DK,↓reduceIte,jC,jA,jB,enP,f1,f2,f9,wrap_succ (show j < 9223372036854775807 by omega)]
  exact ⟨k - 1,by omega,j+1,by omega,by trivial,by trivial,by trivial,by trivial,trivial⟩
 ·have hj':j=8:=by simp at hc; omega
  subst hj'
  simp -implicitDefEqProofs only [BC,BA,BJ,DW,A8,EG,EY,EZ,CJ,AY,BB,AO,AQ,AL,BD,AX,AC,AA,AZ,BG,A7,↓reduceIte,jC,jA,jB,f5]
  exact ⟨trivial,_,hH.symm⟩
end
def insW (x:Nat):List Nat→Bool
 | a :: b :: r=>(decide (a≤x) && decide (x≤b)) || insW x r
 | _=>false
def opW (op:Int) (vs:List Nat):Nat :=
 if op=22 then (if vs.getD 0 0≠0 then vs.getD 1 0 else vs.getD 2 0) else if op=23 then tr (insW (vs.getD 0 0) (vs.drop 1))
 else if vs.length=1 then sgW op (vs.getD 0 0) else dbW op (vs.getD 0 0) (vs.getD 1 0)
theorem getD_lt {vs:List Nat} (hv : ∀ x∈vs,x < 65536) (k:Nat):vs.getD k 0 < 65536:=by
 rw [jZ]
 rcases zK k vs.length with h | h
 ·rw [jL h]; exact hv _ (jO h)
 ·rw [qN h]; decide
theorem A2O (op:Int) {vs:List Nat} (hv : ∀ x∈vs,x < 65536):opW op vs < 65536:=by
 unfold opW
 have h0:=getD_lt hv 0
 have h1:=getD_lt hv 1
 have h2:=getD_lt hv 2
 split
 ·split <;> assumption
 split
 ·exact XF _
 split
 ·exact A2G h0
 ·exact A29 h0 h1
theorem AFH (x:Nat) (l:List Nat) (k:Nat) (hk:k+1 < l.length):insW x (l.drop k)=((decide (l[k]≤x) && decide (x≤l[k+1])) || insW x (l.drop (k+2))):=by
 rw [zQ (by omega:k < l.length),zQ hk]; rfl
theorem AJ6 (x:Nat) (l:List Nat) (k:Nat) (hk:l.length≤k+1):insW x (l.drop k)=false:=by
 have:(l.drop k).length≤1:=by simp; omega
 match hm:l.drop k,this with
 | [],_=>rfl
 | [a],_=>rfl
theorem gec (a b:Nat):decide ((a:Int)≥(b:Int))=decide (b≤a):=lec b a
def AL3 (op:Int) (n:Nat):Prop:=(op=22→n=3)∧(op=23→n % 2=1∧3≤n)∧(op≠22→op≠23→n=1∨n=2)
set_option maxHeartbeats 2000000 in
theorem ARH (G:Nat→AV) (op:Int) (vs:List Nat) (o:Nat) (H:Hp) (ho:H[o]? = some (.live 1 (vs.map JH))) (hv : ∀ x∈vs,x < 65536) (hl:vs.length≤1048576) (hops:AL3 op vs.length) :
  PCall (En G) 221 [.int .i64 op,.own o 0 vs.length] H (.int .i64 (opW op vs:Nat)):=by
 have hix : ∀ k:Nat,k < vs.length→JG 1 H (.own o 0 vs.length) (.int .i64 (k:Nat))=some (.ptr o k 0):=fun k hk=>by rw [I5 ho hk,jG]
 have hld : ∀ (k:Nat) (hk:k < vs.length),DX Tryz.prog H 3 (.ptr o k 0)=some (.int .i64 (vs[k]:Nat)):=fun k hk=>by rw [DJ ag3 ho (row:=JH vs[k]) (row_map hk)]; rfl
 have h1:1≤vs.length:=by
  obtain ⟨a,b,c⟩:=hops
  by_cases e:op=22
  ·have:=a e; omega
  by_cases e':op=23
  ·have:=b e'; omega
  ·have:=c e e'; omega
 have i0:JG 1 H (.own o 0 vs.length) (.int .i64 0)=some (.ptr o 0 0):=hix 0 h1
 have d0:=hld 0 h1
 have g0:vs.getD 0 0=vs[0]:=by rw [jZ,jL h1]; rfl
 have v0:vs[0] < 65536:=hv _ (jO _)
 refine acN Tryz.func221 rfl ?_
 show awp _ _ _ _ _ (D8 _ [.tmp 4] _)
 by_cases e22:op=22
 ·subst e22
  have hl3:vs.length=3:=hops.1 rfl
  have i1:JG 1 H (.own o 0 vs.length) (.int .i64 1)=some (.ptr o 1 0):=hix 1 (by omega)
  have i2:JG 1 H (.own o 0 vs.length) (.int .i64 2)=some (.ptr o 2 0):=hix 2 (by omega)
  have d1:=hld 1 (by omega)
  have d2:=hld 2 (by omega)
  have g1:vs.getD 1 0=vs[1]:=by rw [jZ,jL (by omega)]; rfl
  have g2:vs.getD 2 0=vs[2]:=by rw [jZ,jL (by omega)]; rfl
  simp -implicitDefEqProofs only [BC,BP,BA,BI,A8,CZ,AY,BB,AO,AQ,AL,BD,AX,AC,AA,AZ,AU,BH,BG,A7,BX,BQ,CG,AB,DR,ET,BF,BL,↓reduceIte,jC,jA,jB,enP,JS,zD,i0,d0,eqz,nez]
  cases hz:(vs[0] == 0)
  ·simp -implicitDefEqProofs only [BC,BA,BJ,A8,CQ,ED,CJ,CZ,AY,BB,AO,AQ,AL,BD,AX,AC,AA,AZ,AU,BH,BG,A7,BX,CG,AB,BF,BL,↓reduceIte,jC,jA,jB,enP,JS,i1,d1]
   have:vs[0]≠0:=by simpa using hz
   exact ⟨by unfold opW; rw [if_pos rfl,g0,if_pos this,g1],trivial⟩
  ·simp -implicitDefEqProofs only [BC,BA,BR,BJ,A8,CQ,ED,CJ,DI,AY,BB,AO,AQ,AL,BD,AX,AC,AA,AZ,AU,BH,BG,A7,BX,CG,AB,BF,BL,↓reduceIte,jC,jA,jV,jB,enP,JS,i2,d2]
   have : ¬ vs[0]≠0:=by simpa using hz
   exact ⟨by unfold opW; rw [if_pos rfl,g0,if_neg this,g2],trivial⟩
 by_cases e23:op=23
 ·subst e23
  obtain ⟨hodd,h3⟩:=hops.2.1 rfl
  simp -implicitDefEqProofs only [BC,BP,BA,BI,A8,CZ,DI,AY,BB,AO,AQ,AL,BD,AX,AC,AA,AZ,AU,BH,BG,A7,BQ,AB,DR,BF,↓reduceIte,jC,jA,jB,enP,zD]
  have hval:opW 23 vs=tr (insW vs[0] (vs.drop 1)):=by unfold opW; rw [if_neg (by decide),if_pos rfl,g0]
  rw [hval]
  refine DY (fun n F H' => ∃ j,n+j=vs.length∧j % 2=1∧F 1 = .own o 0 vs.length∧F 5 = .int .i64 (j:Nat)∧H'=H∧insW vs[0] (vs.drop 1)=insW vs[0] (vs.drop j)) (vs.length - 1) ⟨1,by omega,rfl,by simp -implicitDefEqProofs only [AA,BF,BL,↓reduceIte,jC],by simp -implicitDefEqProofs only [AA,↓reduceIte] <;> rfl,rfl,rfl⟩ ?_
  rintro n F H' ⟨j,hj,hj2,f1,f5,rfl,hin⟩
  simp -implicitDefEqProofs only [BC,BA,BI,A8,AY,BB,AO,AQ,AL,BD,AX,AC,AA,AZ,AU,BH,BG,BQ,D6,AB,DK,C9,↓reduceIte,jC,jA,jB,enP,KH,f1,f5,wrap_succ (show j < 9223372036854775807 by omega)]
  refine CV (fun hc => ?_) (fun hc => ?_)
  ·have hc':j+1 < vs.length:=by simp at hc; omega
   have ij:=hix j (by omega)
   have ij1:=hix (j+1) hc'
   have dj:=hld j (by omega)
   have dj1:=hld (j+1) hc'
   rw [AFH _ _ _ hc'] at hin
   have e2:IntKind.i64.wrap (((j:Nat):Int)+2)=((j+2:Nat):Int):=by rw [wrap_i64 (by omega) (by omega)]; omega
   have es:IntKind.i64.wrap (((j:Nat):Int)+1)=((j+1:Nat):Int):=wrap_succ (show j < 9223372036854775807 by omega)
   simp -implicitDefEqProofs only [BC,BP,BR,A8]
   refine FN (by kernel_rfl) ?_
   simp -implicitDefEqProofs only [G5,EM,D9,EQ,GK,IY,GH,FT,J7,EU,CO,AO,AA,AZ,AU,BH,BX,BQ,CG,AB,IJ,↓reduceIte,jC,jQ,jA,enP,JS,f1,f5,i0,d0,ij,dj,es,ij1,dj1,lec,gec]
   cases ha:decide (vs[j]≤vs[0])
   ·simp -implicitDefEqProofs only [G5,EM,D9,FU,EQ,GK,IY,AGA,KA,BA,BR,BI,A8,EH,ER,DI,AY,BB,CO,AO,AQ,AL,BD,AX,AC,AA,EK,AZ,AU,BH,BM,BG,A7,CP,DN,BQ,AB,DK,↓reduceIte,jC,jQ,jA,jB,enP,ha,f5,e2]
    exact ⟨n - 2,by omega,j+2,by omega,by omega,by trivial,by first | rfl | trivial,trivial,by rw [hin,ha]; rfl⟩
   ·cases hb:decide (vs[0]≤vs[j+1])
    ·simp -implicitDefEqProofs only [G5,EM,D9,FU,EQ,GK,IY,Q9,GH,KA,FT,J7,EU,BA,BR,BI,A8,EH,ER,DI,AY,BB,CO,AO,AQ,AL,BD,AX,AC,AA,AZ,AU,BH,BM,BG,A7,CP,DL,BX,BQ,CG,AB,DK,IJ,↓reduceIte,jC,jQ,jA,jB,enP,JS,ha,hb,f1,f5,es,ij1,dj1,lec,i0,d0,e2]
     exact ⟨n - 2,by omega,j+2,by omega,by omega,by trivial,by first | rfl | trivial,trivial,by rw [hin,ha,hb]; rfl⟩
    ·simp -implicitDefEqProofs only [G5,EM,D9,FU,EQ,GK,IY,Q9,GH,KA,FT,J7,EU,BC,BA,BJ,BI,A8,CQ,ED,F7,CJ,CZ,AY,BB,CO,AO,AQ,AL,BD,AX,AC,AA,AZ,AU,BH,BM,A7,CP,DL,BX,BQ,CG,AB,DK,IJ,↓reduceIte,jC,jQ,jA,jB,enP,JS,ha,hb,f1,f5,es,ij1,dj1,lec,i0,d0]
     exact ⟨by rw [hin,ha,hb]; rfl,trivial⟩
  ·have hc':vs.length≤j+1:=by simp at hc; omega
   simp -implicitDefEqProofs only [BC,BA,BJ,DW,A8,EG,CQ,ED,EY,EZ,CJ,AY,BB,AO,AQ,AL,BD,AX,AC,AA,AU,BH,A7,↓reduceIte,jA,jB]
   exact ⟨by rw [hin,AJ6 _ _ _ hc']; rfl,trivial⟩
 ·have n12:=hops.2.2 e22 e23
  have c1:(op == 22)=false:=beq_eq_false_iff_ne.2 e22
  have c2:(op == 23)=false:=beq_eq_false_iff_ne.2 e23
  have hval:opW op vs=if vs.length=1 then sgW op (vs.getD 0 0) else dbW op (vs.getD 0 0) (vs.getD 1 0):=by unfold opW; rw [if_neg e22,if_neg e23]
  rw [hval]
  simp -implicitDefEqProofs only [BC,BP,BA,BR,BI,A8,EH,DI,AY,BB,AO,AQ,AL,BD,AX,AC,AA,AZ,AU,BH,BG,A7,BQ,D6,AB,DR,BF,BL,↓reduceIte,jC,jA,jB,enP,KH,c1,c2]
  refine CV (fun hc => ?_) (fun hc => ?_)
  ·have hl1:vs.length=1:=by simp at hc; omega
   simp -implicitDefEqProofs only [BC,BA,AY,AO,AQ,AL,BD,AX,AC,AA,AZ,AU,BU,BH,BG,BX,CG,BZ,BO,AB,BF,BL,jE,jD,jF,↓reduceIte,jC,jA,jB,enP,JS,i0,d0]
   refine (AIT G op _ v0 H).use ?_
   simp -implicitDefEqProofs only [BJ,A8,CQ,CJ,AY,BB,AO,AQ,AL,BD,AX,AC,AA,AZ,A7,↓reduceIte,jA,jB]
   exact ⟨by rw [if_pos hl1,g0],trivial⟩
  ·have hl1:vs.length≠1:=by simp at hc; omega
   have i1:JG 1 H (.own o 0 vs.length) (.int .i64 1)=some (.ptr o 1 0):=hix 1 (by omega)
   have d1:=hld 1 (by omega)
   have g1:vs.getD 1 0=vs[1]:=by rw [jZ,jL (by omega)]; rfl
   have v1:vs[1] < 65536:=hv _ (jO _)
   simp -implicitDefEqProofs only [BC,BR,A8]
   refine FN (by kernel_rfl) ?_
   simp -implicitDefEqProofs only [G5,EM,D9,FU,EQ,GH,JI,FT,EU,H6,GN,BJ,A8,CJ,AO,AA,AZ,AU,BU,BH,BX,CG,AB,BF,BL,jE,jD,jF,↓reduceIte,jC,jQ,jA,enP,JS,i0,d0,i1,d1]
   refine ⟨_,AK1 G op _ _ v0 v1 H,?_⟩
   exact ⟨by rw [if_neg hl1,g0,g1],trivial⟩
set_option maxHeartbeats 2000000 in
theorem AUH (G:Nat→AV) (op:Int) (vs:List Nat) (o:Nat) (H:Hp) (ho:H[o]? = some (.live 1 (vs.map JH))) (hv : ∀ x∈vs,x < 65536) (hl:vs.length≤1048576) (hops:AL3 op vs.length) :
  PCall (En G) 171 [.int .i64 op,.own o 0 vs.length] H (.int .i64 (opW op vs:Nat)):=by
 have hix : ∀ k:Nat,k < vs.length→JG 1 H (.own o 0 vs.length) (.int .i64 (k:Nat))=some (.ptr o k 0):=fun k hk=>by rw [I5 ho hk,jG]
 have hld : ∀ (k:Nat) (hk:k < vs.length),DX Tryz.prog H 3 (.ptr o k 0)=some (.int .i64 (vs[k]:Nat)):=fun k hk=>by rw [DJ ag3 ho (row:=JH vs[k]) (row_map hk)]; rfl
 have h1:1≤vs.length:=by
  obtain ⟨a,b,c⟩:=hops
  by_cases e:op=22
  ·have:=a e; omega
  by_cases e':op=23
  ·have:=b e'; omega
  ·have:=c e e'; omega
 have i0:JG 1 H (.own o 0 vs.length) (.int .i64 0)=some (.ptr o 0 0):=hix 0 h1
 have d0:=hld 0 h1
 have g0:vs.getD 0 0=vs[0]:=by rw [jZ,jL h1]; rfl
 have v0:vs[0] < 65536:=hv _ (jO _)
 refine acN Tryz.func171 rfl ?_
 show awp _ _ _ _ _ (D8 _ [.tmp 4] _)
 by_cases e22:op=22
 ·subst e22
  have hl3:vs.length=3:=hops.1 rfl
  have i1:JG 1 H (.own o 0 vs.length) (.int .i64 1)=some (.ptr o 1 0):=hix 1 (by omega)
  have i2:JG 1 H (.own o 0 vs.length) (.int .i64 2)=some (.ptr o 2 0):=hix 2 (by omega)
  have d1:=hld 1 (by omega)
  have d2:=hld 2 (by omega)
  have g1:vs.getD 1 0=vs[1]:=by rw [jZ,jL (by omega)]; rfl
  have g2:vs.getD 2 0=vs[2]:=by rw [jZ,jL (by omega)]; rfl
  simp -implicitDefEqProofs only [BC,BA,BI,A8,CZ,AY,BB,AO,AQ,AL,BD,AX,AC,AA,AZ,AU,BH,BG,A7,BX,BQ,CG,AB,DR,ET,BF,BL,↓reduceIte,jC,jA,jB,enP,JS,zD,i0,d0,eqz,nez]
  cases hz:(vs[0] == 0)
  ·simp -implicitDefEqProofs only [BC,BA,BJ,A8,CQ,CJ,CZ,AY,BB,AO,AQ,AL,BD,AX,AC,AA,AZ,AU,BH,BG,A7,BX,CG,AB,BF,BL,↓reduceIte,jC,jA,jB,enP,JS,i1,d1]
   have:vs[0]≠0:=by simpa using hz
   exact ⟨by unfold opW; rw [if_pos rfl,g0,if_pos this,g1],trivial⟩
  ·simp -implicitDefEqProofs only [BC,BA,BR,BJ,A8,CQ,CJ,DI,AY,BB,AO,AQ,AL,BD,AX,AC,AA,AZ,AU,BH,BG,A7,BX,CG,AB,BF,BL,↓reduceIte,jC,jA,jV,jB,enP,JS,i2,d2]
   have : ¬ vs[0]≠0:=by simpa using hz
   exact ⟨by unfold opW; rw [if_pos rfl,g0,if_neg this,g2],trivial⟩
 by_cases e23:op=23
 ·subst e23
  obtain ⟨hodd,h3⟩:=hops.2.1 rfl
  simp -implicitDefEqProofs only [BC,BP,BA,BR,BI,A8,CZ,DI,AY,BB,AO,AQ,AL,BD,AX,AC,AA,AZ,AU,BH,BG,A7,BQ,AB,DR,BF,↓reduceIte,jC,jA,jB,enP,zD]
  have hval:opW 23 vs=tr (insW vs[0] (vs.drop 1)):=by unfold opW; rw [if_neg (by decide),if_pos rfl,g0]
  rw [hval]
  refine DY (fun n F H' => ∃ j,n+j=vs.length∧j % 2=1∧F 1 = .own o 0 vs.length∧F 5 = .int .i64 (j:Nat)∧H'=H∧insW vs[0] (vs.drop 1)=insW vs[0] (vs.drop j)) (vs.length - 1) ⟨1,by omega,rfl,by simp -implicitDefEqProofs only [AA,BF,BL,↓reduceIte,jC],by simp -implicitDefEqProofs only [AA,↓reduceIte] <;> rfl,rfl,rfl⟩ ?_
  rintro n F H' ⟨j,hj,hj2,f1,f5,rfl,hin⟩
  simp -implicitDefEqProofs only [BC,BA,BI,A8,AY,BB,AO,AQ,AL,BD,AX,AC,AA,AZ,AU,BH,BG,BQ,D6,AB,DK,C9,↓reduceIte,jC,jA,jB,enP,KH,f1,f5,wrap_succ (show j < 9223372036854775807 by omega)]
  refine CV (fun hc => ?_) (fun hc => ?_)
  ·have hc':j+1 < vs.length:=by simp at hc; omega
   have ij:=hix j (by omega)
   have ij1:=hix (j+1) hc'
   have dj:=hld j (by omega)
   have dj1:=hld (j+1) hc'
   rw [AFH _ _ _ hc'] at hin
   have e2:IntKind.i64.wrap (((j:Nat):Int)+2)=((j+2:Nat):Int):=by rw [wrap_i64 (by omega) (by omega)]; omega
   have es:IntKind.i64.wrap (((j:Nat):Int)+1)=((j+1:Nat):Int):=wrap_succ (show j < 9223372036854775807 by omega)
   simp -implicitDefEqProofs only [BC,BP,BR,A8]
   refine FN (by kernel_rfl) ?_
   simp -implicitDefEqProofs only [G5,EM,D9,EQ,GK,IY,GH,FT,J7,EU,CO,AO,AA,AZ,AU,BH,BX,BQ,CG,AB,FX,↓reduceIte,jC,jQ,jA,enP,JS,f1,f5,i0,d0,ij,dj,es,ij1,dj1,lec,gec]
   cases ha:decide (vs[j]≤vs[0])
   ·simp -implicitDefEqProofs only [G5,EM,D9,FU,EQ,GK,IY,AGA,KA,BA,BR,BI,A8,EH,ER,DI,AY,BB,CO,AO,AQ,AL,BD,AX,AC,AA,EK,AZ,AU,BH,BM,BG,A7,CP,DN,BQ,AB,DK,↓reduceIte,jC,jQ,jA,jB,enP,ha,f5,e2]
    exact ⟨n - 2,by omega,j+2,by omega,by omega,by trivial,by first | rfl | trivial,trivial,by rw [hin,ha]; rfl⟩
   ·cases hb:decide (vs[0]≤vs[j+1])
    ·simp -implicitDefEqProofs only [G5,EM,D9,FU,EQ,GK,IY,Q9,GH,KA,FT,J7,EU,BA,BR,BI,A8,EH,ER,DI,AY,BB,CO,AO,AQ,AL,BD,AX,AC,AA,AZ,AU,BH,BM,BG,A7,CP,DL,BX,BQ,CG,AB,DK,IJ,↓reduceIte,jC,jQ,jA,jB,enP,JS,ha,hb,f1,f5,es,ij1,dj1,lec,i0,d0,e2]
     exact ⟨n - 2,by omega,j+2,by omega,by omega,by trivial,by first | rfl | trivial,trivial,by rw [hin,ha,hb]; rfl⟩
    ·simp -implicitDefEqProofs only [G5,EM,D9,FU,EQ,GK,IY,Q9,GH,KA,FT,J7,EU,BC,BA,BJ,BI,A8,CQ,ED,F7,CJ,CZ,AY,BB,CO,AO,AQ,AL,BD,AX,AC,AA,AZ,AU,BH,BM,A7,CP,DL,BX,BQ,CG,AB,DK,IJ,↓reduceIte,jC,jQ,jA,jB,enP,JS,ha,hb,f1,f5,es,ij1,dj1,lec,i0,d0]
     exact ⟨by rw [hin,ha,hb]; rfl,trivial⟩
  ·have hc':vs.length≤j+1:=by simp at hc; omega
   simp -implicitDefEqProofs only [BC,BA,BJ,DW,A8,EG,CQ,EY,EZ,CJ,AY,BB,AO,AQ,AL,BD,AX,AC,AA,AU,BH,A7,↓reduceIte,jA,jB]
   exact ⟨by rw [hin,AJ6 _ _ _ hc']; rfl,trivial⟩
 ·have n12:=hops.2.2 e22 e23
  have c1:(op == 22)=false:=beq_eq_false_iff_ne.2 e22
  have c2:(op == 23)=false:=beq_eq_false_iff_ne.2 e23
  have hval:opW op vs=if vs.length=1 then sgW op (vs.getD 0 0) else dbW op (vs.getD 0 0) (vs.getD 1 0):=by unfold opW; rw [if_neg e22,if_neg e23]
  rw [hval]
  simp -implicitDefEqProofs only [BC,BA,BR,BI,A8,DI,AY,BB,AO,AQ,AL,BD,AX,AC,AA,AZ,AU,BH,BG,A7,BQ,D6,AB,DR,BF,BL,↓reduceIte,jC,jA,jB,enP,KH,c1,c2]
  refine CV (fun hc => ?_) (fun hc => ?_)
  ·have hl1:vs.length=1:=by simp at hc; omega
   simp -implicitDefEqProofs only [BC,BA,AY,AO,AQ,AL,BD,AX,AC,AA,AZ,AU,BU,BH,BG,BX,CG,BZ,BO,AB,BF,BL,jE,jD,jF,↓reduceIte,jC,jA,jB,enP,JS,i0,d0]
   refine (AMK G op _ v0 H).use ?_
   simp -implicitDefEqProofs only [BJ,A8,CQ,CJ,AY,BB,AO,AQ,AL,BD,AX,AC,AA,AZ,A7,↓reduceIte,jA,jB]
   exact ⟨by rw [if_pos hl1,g0],trivial⟩
  ·have hl1:vs.length≠1:=by simp at hc; omega
   have i1:JG 1 H (.own o 0 vs.length) (.int .i64 1)=some (.ptr o 1 0):=hix 1 (by omega)
   have d1:=hld 1 (by omega)
   have g1:vs.getD 1 0=vs[1]:=by rw [jZ,jL (by omega)]; rfl
   have v1:vs[1] < 65536:=hv _ (jO _)
   simp -implicitDefEqProofs only [BC,BR,A8]
   refine FN (by kernel_rfl) ?_
   simp -implicitDefEqProofs only [G5,EM,D9,FU,EQ,GH,JI,FT,EU,H6,GN,BJ,A8,CJ,AO,AA,AZ,AU,BU,BH,BX,CG,AB,BF,BL,jE,jD,jF,↓reduceIte,jC,jQ,jA,enP,JS,i0,d0,i1,d1]
   refine ⟨_,ANV G op _ _ v0 v1 H,?_⟩
   exact ⟨by rw [if_neg hl1,g0,g1],trivial⟩
def RV (l:List Sg) (op n:Int) (name:ByteArray) (vs:List Nat):Nat :=
 if op=1 then n.toNat % 65536 else if op=2 then (LV l name).1 else if op=3 then (atG l name (vs.getD 0 0:Nat)).1 else if op=24 then sumTo l name 8 else opW op vs
mutual
def LP (l:List Sg):Ex→Nat
 | .mk op n name _ args=>RV l op n name (KD l args)
def KD (l:List Sg):List Ex→List Nat
 | [] => []
 | e :: es=>LP l e :: KD l es
end
theorem O6 (l:List Sg) (e:Ex):LP l e=RV l e.op e.n e.name (KD l e.args):=by cases e; simp [LP,Ex.op,Ex.n,Ex.name,Ex.args]
theorem KZ (l:List Sg) : ∀ xs:List Ex,KD l xs=xs.map (LP l)
 | []=>by simp [KD]
 | e :: es=>by simp [KD,KZ l es]
theorem U8 (l:List Sg) (xs:List Ex):(KD l xs).length=xs.length:=by rw [KZ,jI]
theorem ABL (l:List Sg) (xs:List Ex) (j:Nat) (hj:j < xs.length):KD l (xs.take (j+1))=KD l (xs.take j) ++ [LP l xs[j]]:=by
 rw [KZ,KZ,zN hj,yC]; rfl
theorem AO2 (l:List Sg) (e:Ex):LP l e < 65536:=by
 induction e using Ex.induct with | h e ih => ?_
 rw [O6]
 have hv : ∀ x∈KD l e.args,x < 65536:=by
  intro x hx
  rw [KZ] at hx
  obtain ⟨a,ha,rfl⟩:=zJ.1 hx
  exact ih a ha
 unfold RV
 split
 ·exact qU _ (by omega)
 split
 ·exact AC3 _ _
 split
 ·exact AOE _ _ _
 split
 ·exact ABO _ _ _
 ·exact A2O _ hv
theorem AIF (l:List Sg) (xs:List Ex) : ∀ x∈KD l xs,x < 65536:=by
 intro x hx
 rw [KZ] at hx
 obtain ⟨a,_,rfl⟩:=zJ.1 hx
 exact AO2 l a
def knE (l:List Sg) (e:Ex):Bool:=if e.op=2 then (LV l e.name).2 else if e.op=3∨e.op=24 then (atG l e.name 0).2 else true
theorem AB9 {e:Ex} (h:J8 e=0):(e.op=1→0≤e.n∧e.n≤65535)∧(e.op=3→e.args.length=1)∧(e.op≠1→e.op≠2→e.op≠3→e.op≠24→AL3 e.op e.args.length):=by
 unfold J8 at h
 have hO:badO e=false:=by
  cases hb:badO e
  ·rfl
  ·rw [hb] at h; simp at h
 have hN:AHP e=false:=by
  cases hb:AHP e
  ·rfl
  ·rw [hO,hb] at h; simp at h
 have hS:AET e=false:=by
  cases hb:AET e
  ·rfl
  ·rw [hO,hN,hb] at h; simp at h
 have hops:Y8 e.op e.args.length=true:=by
  unfold AET at hS
  rw [Bool.or_eq_false_iff] at hS
  simpa using hS.2
 have h1:1≤e.op∧e.op≤25:=by unfold badO at hO; simp at hO; omega
 refine ⟨fun h1 => ?_,fun h3 => ?_,fun n1 n2 n3 n24=>⟨fun h22 => ?_,fun h23 => ?_,fun n22 n23 => ?_⟩⟩
 ·unfold AHP at hN; simp [h1] at hN; omega
 ·unfold Y8 at hops; rw [h3] at hops; simp [arity] at hops; omega
 ·unfold Y8 at hops; rw [h22] at hops; simp [arity] at hops; omega
 ·unfold Y8 at hops; rw [h23] at hops; simp at hops; omega
 ·unfold Y8 at hops
  rw [if_neg (by simpa using n23)] at hops
  have h5:arity e.op=1∨arity e.op=2:=by
   by_cases hq:e.op=3∨e.op=4∨e.op=5∨e.op=6∨e.op=25
   ·left; unfold arity; rw [if_neg (by omega),if_neg (by omega),if_pos hq]
   ·right; unfold arity; rw [if_neg (by omega),if_neg (by omega),if_neg hq,if_neg n22,if_neg n23]
  have h6:((e.args.length:Nat):Int)=arity e.op:=by simpa using hops
  omega
theorem str_eq {a b:ByteArray} (h:(a.toList == b.toList)=true):a=b:=by
 rw [ByteArray.toList_eq,ByteArray.toList_eq] at h
 exact ByteArray.ext (Array.toList_inj.1 (beq_iff_eq.1 h))
theorem AY3 (P:ByteArray→Bool) (ops:List Int) (ns:List ByteArray) (e:Ex):(nmU ops ns e).all P=(ns.all P && (!Rk.hasB ops e.op || P e.name)):=by
 unfold nmU
 cases hb:Rk.hasB ops e.op
 ·simp
 cases hs:JU ns e.name
 ·simp
 ·simp
  intro ha
  unfold JU at hs
  rw [qC] at hs
  obtain ⟨u,hu,he⟩:=hs
  rw [str_eq he]; exact ha u hu
theorem AGR (P:ByteArray→Bool) (ops:List Int) : ∀ (xs:List Ex) (ns:List ByteArray),(nmL ops ns xs).all P=(ns.all P && xs.all fun e => !Rk.hasB ops e.op || P e.name)
 | [],ns=>by simp [nmL]
 | e :: xs,ns=>by
   have:=AGR P ops xs (nmU ops ns e)
   simp only [nmL,List.foldl_cons,qQ] at this ⊢
   rw [this,AY3,Bool.and_assoc]
theorem ARV (l:List Sg) (xs:List Ex):((nmL [2] [] xs).all (fun n=>(LV l n).2) && (nmL [3,24] [] xs).all fun n=>(atG l n 0).2)=xs.all (knE l):=by
 rw [AGR,AGR,qP]
 simp only [List.all_nil,qM,jU,zF]
 constructor
 ·rintro ⟨h1,h2⟩ x hx
  have a:=h1 x hx
  have b:=h2 x hx
  unfold knE
  unfold Rk.hasB at a b
  by_cases e2:x.op=2
  ·rw [if_pos e2]; simpa [e2] using a
  by_cases e3:x.op=3∨x.op=24
  ·rw [if_neg e2,if_pos e3]; rcases e3 with e3 | e3 <;> simpa [e3] using b
  ·rw [if_neg e2,if_neg e3]
 ·intro h
  refine ⟨fun x hx => ?_,fun x hx => ?_⟩
  ·have a:=h x hx
   unfold knE at a
   unfold Rk.hasB
   by_cases e2:x.op=2
   ·rw [if_pos e2] at a; simp [e2,a]
   ·have : ¬ 2=x.op:=fun q=>e2 q.symm
    simp [this]
  ·have a:=h x hx
   unfold knE at a
   unfold Rk.hasB
   by_cases e3:x.op=3∨x.op=24
   ·have e2 : ¬ x.op=2:=by omega
    rw [if_neg e2,if_pos e3] at a; simp [a]
   ·have e4 : ¬ 3=x.op:=fun q=>e3 (.inl q.symm)
    have e5 : ¬ 24=x.op:=fun q=>e3 (.inr q.symm)
    simp [e4,e5]
theorem ALX {α:Type} (P:α→Bool) (xs:List α) (k:Nat) (hk:k < xs.length):(xs.drop k).all P=(P xs[k] && (xs.drop (k+1)).all P):=by
 rw [zQ hk]; rfl
theorem APN (ops:List Int) : ∀ (xs:List Ex) (ns:List ByteArray) (n:ByteArray),n∈nmL ops ns xs→n∈ns∨∃ x∈xs,n=x.name
 | [],ns,n,h => .inl h
 | e :: xs,ns,n,h=>by
   rcases APN ops xs (nmU ops ns e) n h with h1 | ⟨x,hx,hn⟩
   ·unfold nmU at h1
    split at h1
    ·rcases zY.1 h1 with h2 | h2
     ·exact .inl h2
     ·exact .inr ⟨e,by simp,by simpa using h2⟩
    ·exact .inl h1
   ·exact .inr ⟨x,qW _ hx,hn⟩
section
variable (G:Nat→AV)
theorem AM8 (l:List Sg) (m:SM) (e:Ex) (h:Hp) (hl:l.length≤1099511627776) (hw:wt e≤1048576):PCall (En G) 189 [.agg [.sl m 2 (l.map GI)],.agg (CY e)] h (.bool ((pre e).all (knE l))):=by
 refine ACalls.pure0 rfl ?_
 rw [← ARV]
 have hpl:=AGM e
 have hn1:=AA9 [2] (pre e) []
 have hn2:=AA9 [3,24] (pre e) []
 have hm2 : ∀ n∈nmL [3,24] [] (pre e),n.size≤1048576:=fun n hn=>by
  rcases APN _ _ _ n hn with h1 | ⟨x,hx,rfl⟩
  ·cases h1
  ·have:=AJG hx; omega
 have hN:=AOS G e hw
 have hA:=AMA G e hw
 simp only [List.length_nil,jG] at hn1 hn2
 generalize nmL [2] [] (pre e)=ns at hn1 hN ⊢
 generalize nmL [3,24] [] (pre e)=ars at hn2 hA hm2 ⊢
 refine acN Tryz.func189 rfl ?_
 show awp _ _ _ _ _ (D8 _ [.tmp 4] _)
 have gs:=CU (x:=ABlk.live 4 [CY e]) (CW h (ABlk.live 1 [[.sl m 2 (l.map GI)]]))
 have ge:=CW (h ++ [ABlk.live 1 [[.sl m 2 (l.map GI)]]]) (ABlk.live 4 [CY e])
 have hx:ext h (h ++ [ABlk.live 1 [[.sl m 2 (l.map GI)]]] ++ [ABlk.live 4 [CY e]]):=((ext.rfl' h).app _).app _
 simp -implicitDefEqProofs only [BC,BA,A8,AY,BB,AO,AQ,AL,BD,AX,AC,AA,AZ,AU,BM,A7,FM,BX,CB,BF,BL,↓reduceIte,jC,jA,jB,enP,ALI h (.sl m 2 (l.map GI)) rfl,bxE]
 generalize h ++ [ABlk.live 1 [[.sl m 2 (l.map GI)]]] ++ [ABlk.live 4 [CY e]]=H at gs ge hx ⊢
 generalize (h ++ [ABlk.live 1 [[.sl m 2 (l.map GI)]]]).length=eb at ge ⊢
 simp -implicitDefEqProofs only [AY,AO,AQ,AL,BD,AX,AC,AA,AZ,BU,BZ,BO,AB,jE,jD,jF,↓reduceIte,jA,jB,MG ge]
 refine (hN H).use ?_
 simp -implicitDefEqProofs only [BP,A8,AY,BB,AO,AQ,AL,BD,AX,AC,AA,AZ,AU,BH,BG,D6,AB,↓reduceIte,jA,jB,enP,AJX,jI]
 refine JA 0 (fun F H'=>F 2 = .ptr h.length 0 0∧F 3 = .ptr eb 0 0∧H'=H∧ns.all (fun n=>(LV l n).2)=true) (fun F H'=>F 4 = .bool false∧H'=H∧ns.all (fun n=>(LV l n).2)=false) ?_ ?_ ?_
 ·refine DY (fun k F H' => ∃ j,k+j=ns.length∧F 2 = .ptr h.length 0 0∧F 3 = .ptr eb 0 0∧F 14 = .sl (nm ns) 1 (ns.map encStr)∧F 15 = .int .i64 (ns.length:Nat)∧F 16 = .int .i64 (j:Nat)∧H'=H∧ns.all (fun n=>(LV l n).2)=(ns.drop j).all fun n=>(LV l n).2) ns.length ⟨0,by simp,by simp -implicitDefEqProofs only [AA,↓reduceIte,jC],by simp -implicitDefEqProofs only [AA,↓reduceIte,jC],by simp -implicitDefEqProofs only [AA,↓reduceIte,jC],by simp -implicitDefEqProofs only [AA,↓reduceIte,jC],by simp -implicitDefEqProofs only [AA,↓reduceIte]; rfl,rfl,rfl⟩ ?_
  rintro k F H' ⟨j,hj,f2,f3,f14,f15,f16,rfl,hall⟩
  simp -implicitDefEqProofs only [BC,BA,BI,A8,AY,BB,AO,AQ,AL,BD,AX,AC,AA,AZ,BQ,AB,C9,↓reduceIte,jA,jB,enP,f15,f16]
  refine CV (fun hc => ?_) (fun hc => ?_)
  ·have hj':j < ns.length:=by simpa using hc
   rw [ALX _ ns j hj'] at hall
   simp -implicitDefEqProofs only [BC,BP,BA,BR,A8,AY,BB,AO,AQ,AL,BD,AX,AC,AA,AZ,BU,BG,A7,BX,CG,BZ,BO,AB,jE,jD,jF,↓reduceIte,jC,jA,jB,enP,AR0,f2,f14,f16,D7 hj',DZ ag9 hj',encStr0,VU gs]
   refine (ZL G l m _ H' hl).use ?_
   unfold QV
   simp -implicitDefEqProofs only [zH,zL,BC,BA,BI,A8,AY,BB,AO,AQ,AL,BD,AX,AC,AA,AZ,BG,A7,GU,EW,GG,AB,EP,↓reduceIte,jC,jA,jB]
   cases hk:(LV l ns[j]).2
   ·simp -implicitDefEqProofs only [BC,BA,BJ,A8,CQ,ED,RI,F7,CZ,AY,BB,AO,AQ,AL,BD,AX,AC,AA,AU,BM,A7,↓reduceIte,jA,jB]
    exact ⟨trivial,trivial,by rw [hall,hk]; rfl⟩
   ·simp -implicitDefEqProofs only [BA,BR,A8,EH,ER,DI,AY,BB,AO,AQ,AL,BD,AX,AC,AA,AZ,AU,BH,BG,BQ,AB,DK,↓reduceIte,jC,jA,jV,jB,enP,f2,f3,f14,f15,f16,wrap_succ (show j < 9223372036854775807 by omega)]
    exact ⟨k - 1,by omega,j+1,by omega,by trivial,by trivial,by trivial,by trivial,by trivial,trivial,by rw [hall,hk]; rfl⟩
  ·have hj' : ¬ j < ns.length:=by simpa using hc
   simp -implicitDefEqProofs only [DW,EG,NG,EZ,AA,↓reduceIte,jC]
   exact ⟨f2,f3,trivial,by rw [hall,zG (by omega)]; rfl⟩
 ·rintro F H' ⟨f2,f3,rfl,hall⟩
  rw [hall,qM]
  simp -implicitDefEqProofs only [BC,BA,A8,EY,AY,AO,AQ,AL,BD,AX,AC,AA,AZ,BU,BX,BZ,BO,AB,jE,jD,jF,↓reduceIte,jA,jB,enP,f3,MG ge]
  refine (hA H').use ?_
  simp -implicitDefEqProofs only [BP,A8,AY,BB,AO,AQ,AL,BD,AX,AC,AA,AZ,AU,BH,BG,D6,AB,↓reduceIte,jA,jB,enP,AJX,jI]
  refine DY (fun k F' H2 => ∃ j,k+j=ars.length∧F' 2 = .ptr h.length 0 0∧F' 30 = .sl (nm ars) 1 (ars.map encStr)∧F' 31 = .int .i64 (ars.length:Nat)∧F' 32 = .int .i64 (j:Nat)∧H2=H'∧ars.all (fun n=>(atG l n 0).2)=(ars.drop j).all fun n=>(atG l n 0).2) ars.length ⟨0,by simp,by simp -implicitDefEqProofs only [AA,↓reduceIte,jC,f2],by simp -implicitDefEqProofs only [AA,↓reduceIte,jC],by simp -implicitDefEqProofs only [AA,↓reduceIte,jC],by simp -implicitDefEqProofs only [AA,↓reduceIte]; rfl,rfl,rfl⟩ ?_
  rintro k F' H2 ⟨j,hj,g2,g30,g31,g32,rfl,hall2⟩
  simp -implicitDefEqProofs only [BC,BA,BI,A8,AY,BB,AO,AQ,AL,BD,AX,AC,AA,AZ,BQ,AB,C9,↓reduceIte,jA,jB,enP,g31,g32]
  refine CV (fun hc => ?_) (fun hc => ?_)
  ·have hj':j < ars.length:=by simpa using hc
   rw [ALX _ ars j hj'] at hall2
   simp -implicitDefEqProofs only [BC,BP,BA,BR,A8,AY,BB,AO,AQ,AL,BD,AX,AC,AA,AZ,AU,BU,BH,BG,A7,BX,CG,BZ,BO,AB,jE,jD,jF,↓reduceIte,jC,jA,jB,enP,AR0,g2,g30,g32,D7 hj',DZ ag9 hj',encStr0,VU gs]
   refine (AHS G l m _ 0 H2 hl (hm2 _ (jO hj'))).use ?_
   unfold QV
   simp -implicitDefEqProofs only [zH,zL,BC,BA,BI,A8,AY,BB,AO,AQ,AL,BD,AX,AC,AA,AZ,BG,A7,GU,EW,GG,AB,EP,↓reduceIte,jC,jA,jB]
   cases hk:(atG l ars[j] 0).2
   ·simp -implicitDefEqProofs only [BC,BA,BJ,A8,CQ,ED,F7,CJ,CZ,AY,BB,AO,AQ,AL,BD,AX,AC,AA,AU,BM,A7,↓reduceIte,jA,jB]
    exact ⟨by rw [hall2,hk]; rfl,hx⟩
   ·simp -implicitDefEqProofs only [BA,BR,A8,EH,ER,DI,AY,BB,AO,AQ,AL,BD,AX,AC,AA,AZ,AU,BH,BG,BQ,AB,DK,↓reduceIte,jC,jA,jV,jB,enP,g2,g30,g31,g32,wrap_succ (show j < 9223372036854775807 by omega)]
    exact ⟨k - 1,by omega,j+1,by omega,by first | trivial | exact g2,by first | trivial | exact g30,by first | trivial | exact g31,by trivial,trivial,by rw [hall2,hk]; rfl⟩
  ·have hj' : ¬ j < ars.length:=by simpa using hc
   simp -implicitDefEqProofs only [BC,BA,BJ,DW,A8,EG,EY,EZ,CJ,AY,BB,AO,AQ,AL,BD,AX,AC,AA,AU,BM,A7,↓reduceIte,jA,jB]
   exact ⟨by rw [hall2,zG (by omega)]; rfl,hx⟩
 ·rintro F H' ⟨f4,rfl,hall⟩
  simp -implicitDefEqProofs only [CQ,ED,CJ,f4]
  exact ⟨by rw [hall]; rfl,hx⟩
theorem encN0 (n:Nat):(JH n)[0]? = some (.int .i64 (n:Int)):=rfl
theorem AIA (l:List Sg) (m:SM) (hl:l.length≤1099511627776) (e:Ex):wt e≤1048576→(∀ x∈pre e,J8 x=0)→∀ h:Hp,PCall (En G) 190 [.agg [.sl m 2 (l.map GI)],.agg (CY e)] h (.int .i64 (LP l e:Nat)):=by
 induction e using Ex.induct with | h e ih => ?_
 intro hw hval h
 have hal:e.args.length≤1048576:=by have:=SY e.args; have:=L9 e; omega
 have hnz:e.name.size≤1048576:=by have:=L9 e; omega
 obtain ⟨o1,o3,oo⟩:=AB9 (hval e (by rw [pre_eq]; simp))
 refine ACalls.pure0 rfl ?_
 refine acN Tryz.func190 rfl ?_
 show awp _ _ _ _ _ (D8 _ [.tmp 4] _)
 have gs:=CU (x:=ABlk.live 4 [CY e]) (CW h (ABlk.live 1 [[.sl m 2 (l.map GI)]]))
 have ge:=CW (h ++ [ABlk.live 1 [[.sl m 2 (l.map GI)]]]) (ABlk.live 4 [CY e])
 have hx:ext h (h ++ [ABlk.live 1 [[.sl m 2 (l.map GI)]]] ++ [ABlk.live 4 [CY e]]):=((ext.rfl' h).app _).app _
 simp -implicitDefEqProofs only [BC,BA,A8,AY,BB,AO,AQ,AL,BD,AX,AC,AA,AZ,AU,BH,GZ,A7,FM,BX,BN,CB,AB,BF,BL,↓reduceIte,jC,jG,jA,jB,enP,MR,ALI h (.sl m 2 (l.map GI)) rfl,bxE]
 generalize h ++ [ABlk.live 1 [[.sl m 2 (l.map GI)]]] ++ [ABlk.live 4 [CY e]]=H1 at gs ge hx ⊢
 generalize (h ++ [ABlk.live 1 [[.sl m 2 (l.map GI)]]]).length=eb at ge ⊢
 have l3:DX Tryz.prog H1 46 (.ptr eb 0 3)=some (.sl e.m 4 (e.args.map CY)):=by rw [DJ RQ ge (row:=CY e) rfl,YG]
 simp -implicitDefEqProofs only [BP,A8,AY,BB,AO,AQ,AL,BD,AX,AC,AA,AZ,AU,BH,BG,D6,AB,↓reduceIte,jA,jB,enP,TW,l3,jI]
 refine JA 0 (fun F H => ∃ v,F 2 = .ptr h.length 0 0∧F 3 = .ptr eb 0 0∧F 5=v∧ext H1 H∧outG 1 JH H1 (KD l e.args) v H) (fun _ _=>False) ?_ ?_ (fun _ _ hh=>hh.elim)
 ·refine DY (fun k F H => ∃ j v,k+j=e.args.length∧F 2 = .ptr h.length 0 0∧F 3 = .ptr eb 0 0∧F 5=v∧F 13 = .sl e.m 4 (e.args.map CY)∧F 14 = .int .i64 (e.args.length:Nat)∧F 15 = .int .i64 (j:Nat)∧ext H1 H∧outG 1 JH H1 (KD l (e.args.take j)) v H) e.args.length
   ⟨0,.sl .nil 0 [],by simp,by simp -implicitDefEqProofs only [AA,↓reduceIte,jC],by simp -implicitDefEqProofs only [AA,↓reduceIte,jC],by simp -implicitDefEqProofs only [AA,↓reduceIte,jC],by simp -implicitDefEqProofs only [AA,↓reduceIte,jC],by simp -implicitDefEqProofs only [AA,↓reduceIte,jC],by simp -implicitDefEqProofs only [AA,↓reduceIte]; rfl,ext.rfl' H1,outG.nil _ _ _ _⟩ ?_
  rintro k F H ⟨j,v,hj,f2,f3,f5,f13,f14,f15,hxH,ho⟩
  simp -implicitDefEqProofs only [BC,BA,BI,A8,AY,BB,AO,AQ,AL,BD,AX,AC,AA,AZ,BQ,AB,C9,↓reduceIte,jA,jB,enP,f14,f15]
  refine CV (fun hc => ?_) (fun hc => ?_)
  ·have hj':j < e.args.length:=by simpa using hc
   have hmem:e.args[j]∈e.args:=jO hj'
   have ho1:=ho.app [ABlk.live 4 [CY e.args[j]]]
   have hx1:=hxH.app [ABlk.live 4 [CY e.args[j]]]
   have htl:(KD l (e.args.take j)).length < 8388608:=by rw [U8]; simp; omega
   obtain ⟨v',H',ha,ho',_,hx',_,_⟩:=ho1.append (P:=Tryz.prog) VJ sz3 YV YM (by omega) htl hx1 (LP l e.args[j])
   have ha':FZ Tryz.prog true (H ++ [ABlk.live 4 [CY e.args[j]]]) 26 26 v (.sl .full 1 [[.int .i64 ((LP l e.args[j]:Nat):Int)]])=some (v',H'):=ha
   simp -implicitDefEqProofs only [BC,BP,BA,BR,A8,AY,BB,AO,AQ,AL,BD,AX,AC,ES,AA,AZ,BU,BG,FO,BX,EI,CG,BZ,BO,CB,AB,DT,jE,jD,jF,↓reduceIte,jC,jA,jB,enP,WP,jT,f13,f15,D7 hj',FP U4 MM H7 hj',AA5,AIM _ _ [.int .i64 0,.int .i64 0,.str ⟨#[]⟩,.sl .nil 0 []] rfl,f2,f5,VU (E8 hx1 gs),ldE]
   refine (ih e.args[j] hmem (by have:=SX hmem; have:=L9 e; omega) (fun x hx=>hval x (by rw [pre_eq]; exact qW _ (VC hmem x hx))) _).use ?_
   simp -implicitDefEqProofs only [FK,FH,BA,A8,EH,ER,AY,BB,AO,AQ,AL,BD,AX,AC,AA,AZ,AU,BH,BG,A7,EC,BQ,GL,CB,AB,DK,↓reduceIte,jC,jA,jB,enP,f5,ALK,ha',f2,f3,f13,f14,f15,wrap_succ (show j < 9223372036854775807 by omega)]
   exact ⟨k - 1,by omega,j+1,v',by omega,by trivial,by trivial,by trivial,by trivial,by trivial,by trivial,hx',by rw [ABL _ _ _ hj']; exact ho'⟩
  ·have hj' : ¬ j < e.args.length:=by simpa using hc
   rw [jW (by omega)] at ho
   simp -implicitDefEqProofs only [DW,EG,NG,EZ,AA,↓reduceIte,jC]
   exact ⟨v,f2,f3,f5,hxH,ho⟩
 ·rintro F H ⟨v,f2,f3,f5,hxH,ho⟩
  have gsH:=E8 hxH gs
  have geH:=E8 hxH ge
  have hxx:=hx.trans hxH
  have l0:DX Tryz.prog H 3 (.ptr eb 0 0)=some (.int .i64 e.op):=by rw [DJ ag3 geH (row:=CY e) rfl,J4]
  have l1:DX Tryz.prog H 3 (.ptr eb 0 1)=some (.int .i64 e.n):=by rw [DJ ag3 geH (row:=CY e) rfl,YH]
  have l2:DX Tryz.prog H 9 (.ptr eb 0 2)=some (.str e.name):=by rw [DJ ag9 geH (row:=CY e) rfl,PO]
  have hvl:=U8 l e.args
  rw [O6]
  simp -implicitDefEqProofs only [BC,BP,BA,BI,A8,EY,AY,BB,AO,AQ,AL,BD,AX,AC,AA,AZ,AU,BH,A7,BX,BQ,BN,AB,DR,↓reduceIte,jM,jA,jB,enP,HY,f3,l0]
  by_cases e1:e.op=1
  ·have c1:(e.op == 1)=true:=by simpa using e1
   simp -implicitDefEqProofs only [BC,BA,BJ,A8,CQ,ED,CJ,CZ,AY,BB,AO,AQ,AL,BD,AX,AC,AA,AZ,A7,BX,BN,AB,↓reduceIte,jC,jG,jA,jB,enP,ZM,c1,f3,l1]
   have:=o1 e1
   exact ⟨by unfold RV; rw [if_pos e1]; congr 1; omega,hxx⟩
  have c1:(e.op == 1)=false:=by simpa using e1
  by_cases e2:e.op=2
  ·have c2:(e.op == 2)=true:=by simpa using e2
   simp -implicitDefEqProofs only [BC,BA,BI,A8,CZ,DI,AY,BB,AO,AQ,AL,BD,AX,AC,AA,AZ,AU,BU,BH,A7,BX,BQ,BN,BZ,BO,AB,DR,jE,jD,jF,↓reduceIte,jC,jG,jA,jB,enP,LD,c1,c2,f2,f3,l2,VU gsH]
   refine (ZL G l m _ H hl).use ?_
   unfold QV
   simp -implicitDefEqProofs only [zH,zL,BC,BA,BJ,A8,CQ,ED,CJ,AY,BB,AO,AQ,AL,BD,AX,AC,AA,AZ,BG,A7,EW,GG,AB,↓reduceIte,jC,jA,jB]
   exact ⟨by unfold RV; rw [if_neg e1,if_pos e2],hxx⟩
  have c2:(e.op == 2)=false:=by simpa using e2
  by_cases e3:e.op=3
  ·have c3:(e.op == 3)=true:=by simpa using e3
   have hl1:=o3 e3
   obtain ⟨o,rfl,hob⟩ : ∃ o,v = .own o 0 1∧H[o]? = some (.live 1 ((KD l e.args).map JH)):=by
    rcases ho with ⟨h0,_⟩ | ⟨_,o,_,rfl,hb⟩
    ·rw [h0] at hvl; simp at hvl; omega
    ·exact ⟨o,by rw [hvl,hl1],hb⟩
   have hlen:0 < (KD l e.args).length:=by omega
   have i0:JG 1 H (.own o 0 1) (.int .i64 0)=some (.ptr o 0 0):=I5 (n:=0) hob (by decide)
   have d0:DX Tryz.prog H 3 (.ptr o 0 0)=some (.int .i64 ((KD l e.args).getD 0 0:Nat)):=by
    rw [DJ ag3 hob (row:=JH (KD l e.args)[0]) (row_map hlen),jZ,jL hlen]; rfl
   simp -implicitDefEqProofs only [BC,BA,BI,A8,CZ,DI,AY,BB,AO,AQ,AL,BD,AX,AC,AA,AZ,AU,BH,A7,BQ,AB,DR,↓reduceIte,jC,jA,jB,enP,c1,c2,c3]
   refine FN (by kernel_rfl) ?_
   simp -implicitDefEqProofs only [G5,EM,D9,EQ,GH,FT,EX,EU,KL,H6,GN,AO,AA,AZ,AU,BU,BH,BX,BN,CG,EW,AB,jE,jD,jF,↓reduceIte,jC,jQ,jG,jA,enP,JS,LD,f2,f3,f5,l2,VU gsH,i0,d0]
   refine ⟨_,AHS G l m _ _ H hl hnz,?_⟩
   unfold QV
   simp -implicitDefEqProofs only [G5,zH,zL,EM,D9,FU,EQ,JI,KL,BC,BA,BJ,A8,CQ,ED,CJ,AY,BB,AO,AQ,AL,BD,AX,AC,AA,AZ,BG,A7,EW,GG,AB,↓reduceIte,jC,jQ,jA,jB]
   exact ⟨by unfold RV; rw [if_neg e1,if_neg e2,if_pos e3],hxx⟩
  have c3:(e.op == 3)=false:=by simpa using e3
  by_cases e24:e.op=24
  ·have c24:(e.op == 24)=true:=by simpa using e24
   simp -implicitDefEqProofs only [BC,BA,BI,A8,CZ,DI,AY,BB,AO,AQ,AL,BD,AX,AC,AA,AZ,AU,BU,BH,A7,BX,BQ,BN,BZ,BO,AB,DR,jE,jD,jF,↓reduceIte,jC,jG,jA,jB,enP,LD,c1,c2,c3,c24,f2,f3,l2,VU gsH]
   refine (ATS G l m _ H hl hnz).use ?_
   simp -implicitDefEqProofs only [BJ,A8,CQ,ED,CJ,AY,BB,AO,AQ,AL,BD,AX,AC,AA,AZ,A7,↓reduceIte,jA,jB]
   exact ⟨by unfold RV; rw [if_neg e1,if_neg e2,if_neg e3,if_pos e24],hxx⟩
  have c24:(e.op == 24)=false:=by simpa using e24
  have hok:=oo e1 e2 e3 e24
  have hok':AL3 e.op (KD l e.args).length:=by rw [hvl]; exact hok
  obtain ⟨o,rfl,hob⟩ : ∃ o,v = .own o 0 (KD l e.args).length∧H[o]? = some (.live 1 ((KD l e.args).map JH)):=by
   rcases ho with ⟨h0,_⟩ | ⟨_,o,_,rfl,hb⟩
   ·exfalso
    rw [h0] at hok'
    obtain ⟨a,b,c⟩:=hok'
    by_cases q:e.op=22
    ·have:=a q; simp at this
    by_cases q':e.op=23
    ·have:=b q'; simp at this
    ·have:=c q q'; simp at this
   ·exact ⟨o,rfl,hb⟩
  simp -implicitDefEqProofs only [BC,BA,BR,BI,A8,EH,DI,AY,BB,AO,AQ,AL,BD,AX,AC,AA,AZ,AU,BU,BH,BG,A7,BX,BQ,BN,BZ,BO,AB,DR,jE,jD,jF,↓reduceIte,jC,jM,jA,jB,enP,HY,c1,c2,c3,c24,f3,l0,f5]
  refine (ARH G e.op _ o H hob (AIF l _) (by omega) hok').use ?_
  simp -implicitDefEqProofs only [BJ,A8,CJ,AY,BB,AO,AQ,AL,BD,AX,AC,AA,AZ,A7,↓reduceIte,jA,jB]
  exact ⟨by unfold RV; rw [if_neg e1,if_neg e2,if_neg e3,if_neg e24],hxx⟩
end
theorem AVV {xs:List Ex} (h:errs xs=0) : ∀ x∈xs,J8 x=0:=by
 induction xs with
 | nil=>intro x hx; cases hx
 | cons y ys ih =>
   have h1:ys.foldl (fun z e=>if z=0 then J8 e else z) (J8 y)=0:=h
   have hy:J8 y=0:=by
    rcases Classical.em (J8 y=0) with q | q
    ·exact q
    ·rw [AHD _ _ q] at h1; exact h1
   rw [hy] at h1
   intro x hx
   rcases qI.1 hx with rfl | hx
   ·exact hy
   ·exact ih h1 x hx
theorem AFR {e:Ex} (h:exE e=0) : ∀ x∈pre e,J8 x=0:=by
 unfold exE at h
 split at h
 ·cases h
 ·exact AVV h
def evE (l:List Sg) (e:Ex):Nat × Int:=if exE e≠0 then (0,1) else if (pre e).all (knE l)=true then (LP l e,0) else (0,7)
def evV (p:Nat × Int):AV := .tup [.int .i64 (p.1:Nat),.int .i64 p.2]
theorem AHC (p:Nat × Int) (n:Nat) (H:Hp):IG n H 2 (evV p)=evV p:=rfl
theorem A6T (h:Hp):JY Tryz.prog h 205=some (.ptr h.length 0 0,h ++ [.live 1 [[.sl .nil 0 []]]]):=JL (row := [.sl .nil 0 []]) (by kernel_rfl)
theorem A6K (s:SM) (k:Nat) (xs:List (List AV)):KW Tryz.prog 205 [(0,.sl s k xs)]=some (.agg [.sl s k xs]):=by kernel_rfl
theorem A39 (h:Hp) (s:SM) (k:Nat) (xs:List (List AV)):FB Tryz.prog (h ++ [.live 1 [[.sl .nil 0 []]]]) 205 (.ptr h.length 0 0) (.agg [.sl s k xs])=some (h ++ [.live 1 [[.sl s k xs]]]):=by
 rw [NQ (cs := [.sl s k xs]) (row := [.sl .nil 0 []]) rfl A1B (CW _ _) (by exact jK 1),AA7]
 rfl
section
variable (G:Nat→AV)
theorem AS6 (hG:GOk G) (l:List Sg) (m:SM) (e:Ex) (h:Hp) (hl:l.length≤1099511627776) (hw:wt e≤1048576):PCall (En G) 156 [.agg (CY e),.sl m 2 (l.map GI)] h (evV (evE l e)):=by
 refine AB1 2 (AHC _) ?_
 refine acN Tryz.func156 rfl ?_
 show awp _ _ _ _ _ (D8 _ [.tmp 4,.tmp 5] _)
 have ge:=CU (x:=ABlk.live 1 [[.sl m 2 (l.map GI)]]) (CW h (ABlk.live 4 [CY e]))
 have gs:=CW (h ++ [ABlk.live 4 [CY e]]) (ABlk.live 1 [[.sl m 2 (l.map GI)]])
 have hx:ext h (h ++ [ABlk.live 4 [CY e]] ++ [ABlk.live 1 [[.sl m 2 (l.map GI)]]]):=((ext.rfl' h).app _).app _
 simp -implicitDefEqProofs only [FK,FH,BC,BP,BA,A8,AY,BB,AO,AQ,AL,BD,AX,AC,ES,AA,AZ,AU,BH,BG,A7,FO,FM,KY,BX,EI,CB,AB,DT,BF,BL,↓reduceIte,jC,jA,jB,enP,jT,bxE,A6K,A6T,A39]
 generalize h ++ [ABlk.live 4 [CY e]] ++ [ABlk.live 1 [[.sl m 2 (l.map GI)]]]=H at ge gs hx ⊢
 generalize (h ++ [ABlk.live 4 [CY e]]).length=sb at gs ⊢
 simp -implicitDefEqProofs only [AY,AO,AQ,AL,BD,AX,AC,AA,AZ,BU,BZ,BO,AB,jE,jD,jF,↓reduceIte,jA,jB,MG ge]
 refine (YB G hG e H hw).use ?_
 simp -implicitDefEqProofs only [BI,A8,AY,BB,AO,AQ,AL,BD,AX,AC,AA,AZ,AU,BH,A7,BQ,AB,ET,↓reduceIte,jA,jB,enP]
 cases hv:(exE e == 0)
 ·have hne:exE e≠0:=by simpa using hv
  simp -implicitDefEqProofs only [BC,BA,BJ,A8,CQ,ED,IU,CZ,AY,BB,AO,AQ,AL,BD,AX,AC,AA,AU,BH,A7,↓reduceIte,jC,jA,jB,bne,hv]
  exact ⟨by unfold evE; rw [if_pos hne]; rfl,hx⟩
 have h0:exE e=0:=by simpa using hv
 simp -implicitDefEqProofs only [BC,BA,DI,AY,AO,AQ,AL,BD,AX,AC,AA,AZ,BU,BX,BZ,BO,AB,jE,jD,jF,↓reduceIte,jC,jA,jV,jB,enP,bne,hv,MG ge,VU gs]
 refine (AM8 G l m e H hl hw).use ?_
 simp -implicitDefEqProofs only [BI,A8,AY,BB,AO,AQ,AL,BD,AX,AC,AA,AZ,A7,GU,AB,EP,↓reduceIte,jA,jB]
 cases hk:(pre e).all (knE l)
 ·simp -implicitDefEqProofs only [BC,BA,BJ,A8,CQ,ED,IU,CZ,AY,BB,AO,AQ,AL,BD,AX,AC,AA,AU,BH,A7,↓reduceIte,jC,jA,jB]
  exact ⟨by unfold evE; rw [if_neg (by simpa using h0),if_neg (by rw [hk]; decide)]; rfl,hx⟩
 simp -implicitDefEqProofs only [BC,BA,BR,A8,EH,DI,AY,AO,AQ,AL,BD,AX,AC,AA,AZ,BU,BX,BZ,BO,AB,jE,jD,jF,↓reduceIte,jC,jA,jV,jB,enP,MG ge,VU gs]
 refine (AIA G l m hl e hw (AFR h0) H).use ?_
 simp -implicitDefEqProofs only [BJ,A8,IU,AY,BB,AO,AQ,AL,BD,AX,AC,AA,AZ,AU,BH,A7,↓reduceIte,jC,jA,jB]
 exact ⟨by unfold evE; rw [if_neg (by simpa using h0),if_pos hk]; rfl,hx⟩
theorem AW5 (op:Int) (h:Hp):PCall (En G) 169 [.int .i64 op] h (.bool ((op == 1) || KR op)):=by
 refine acN Tryz.func169 rfl ?_
 show awp _ _ _ _ _ (D8 _ [.tmp 2] _)
 simp -implicitDefEqProofs only [BC,BA,A8,AY,BB,BK,BV,CO,AO,AQ,AL,BD,AX,AC,AA,AZ,AU,BH,BM,BG,A7,BQ,AB,DR,BF,↓reduceIte,jC,jA,jB,enP]
 cases ha:(op == 1)
 ·simp -implicitDefEqProofs only [Bool.false_or,BK,BV,CO,EF,AO,AQ,AL,BD,AX,AC,AA,AZ,BU,BG,BZ,BO,BF,jE,jD,jF,↓reduceIte,jC,jA,jB,ha]
  refine (VE G op h).use ?_
  simp -implicitDefEqProofs only [BJ,A8,CJ,AY,BB,AO,AQ,AL,BD,AX,AC,AA,AZ,AU,BM,A7,CP,DN,↓reduceIte,jC,jA,jB]
  exact ⟨by trivial,trivial⟩
 ·simp -implicitDefEqProofs only [Bool.true_or,BJ,A8,CJ,AY,BB,BK,BV,CO,FI,AO,AQ,AL,BD,AX,AC,AA,EK,AZ,AU,BM,A7,CP,DL,↓reduceIte,jC,jA,jB,ha]
  exact ⟨by trivial,trivial⟩
def lfE (l:List Sg) (e:Ex) (vs:List Nat):Nat × Int:=if knE l e=true then (RV l e.op e.n e.name vs,0) else (0,7)
theorem AUZ (l:List Sg) (m:SM) (e:Ex) (vs:List Nat) (v:AV) (h0 h:Hp) (hl:l.length≤1099511627776) (hok : ∀ s∈l,VO s) (hnz:e.name.size≤1048576) (hnode:J8 e=0) (hask:e.op=1∨e.op=2∨e.op=3∨e.op=24) (hvs:vs.length=e.args.length) (ho:outG 1 JH h0 vs v h) :
  PCall (En G) 170 [.agg (CY e),.sl m 2 (l.map GI),v] h (evV (lfE l e vs)):=by
 refine AB1 2 (AHC _) ?_
 obtain ⟨o1,o3,_⟩:=AB9 hnode
 refine acN Tryz.func170 rfl ?_
 show awp _ _ _ _ _ (D8 _ [.tmp 6,.tmp 7] _)
 have ge:=CW h (ABlk.live 4 [CY e])
 have hx:ext h (h ++ [ABlk.live 4 [CY e]]):=(ext.rfl' h).app _
 have ho1:=ho.app [ABlk.live 4 [CY e]]
 simp -implicitDefEqProofs only [BC,BA,A8,AY,BB,AO,AQ,AL,BD,AX,AC,AA,AZ,AU,BH,A7,FM,BX,BN,CB,AB,BF,↓reduceIte,jC,jM,jA,jB,enP,HY,bxE]
 generalize h ++ [ABlk.live 4 [CY e]]=H at ge hx ho1 ⊢
 have l0:DX Tryz.prog H 3 (.ptr h.length 0 0)=some (.int .i64 e.op):=by rw [DJ ag3 ge (row:=CY e) rfl,J4]
 have l1:DX Tryz.prog H 3 (.ptr h.length 0 1)=some (.int .i64 e.n):=by rw [DJ ag3 ge (row:=CY e) rfl,YH]
 have l2:DX Tryz.prog H 9 (.ptr h.length 0 2)=some (.str e.name):=by rw [DJ ag9 ge (row:=CY e) rfl,PO]
 simp -implicitDefEqProofs only [BI,A8,AY,BB,AO,AQ,AL,BD,AX,AC,AA,AZ,AU,BH,BQ,AB,DR,↓reduceIte,jA,jB,enP,l0]
 by_cases e1:e.op=1
 ·have c1:(e.op == 1)=true:=by simpa using e1
  have hk:knE l e=true:=by unfold knE; rw [if_neg (by omega),if_neg (by omega)]
  have:=o1 e1
  simp -implicitDefEqProofs only [BC,BA,BJ,A8,CQ,IU,CZ,AY,BB,AO,AQ,AL,BD,AX,AC,AA,AZ,AU,BH,A7,BX,BN,AB,↓reduceIte,jC,jG,jA,jB,enP,ZM,c1,l1]
  refine ⟨?_,hx⟩
  unfold lfE RV evV
  rw [if_pos hk,if_pos e1]
  congr 3; show e.n=((e.n.toNat % 65536:Nat):Int); omega
 have c1:(e.op == 1)=false:=by simpa using e1
 by_cases e2:e.op=2
 ·have c2:(e.op == 2)=true:=by simpa using e2
  have hkn:knE l e=(LV l e.name).2:=by unfold knE; rw [if_pos e2]
  simp -implicitDefEqProofs only [BC,BA,BR,BI,A8,CZ,DI,AY,BB,AO,AQ,AL,BD,AX,AC,AA,AZ,AU,BU,BH,BG,BX,BQ,BN,BZ,BO,AB,DR,BF,BL,jE,jD,jF,↓reduceIte,jC,jM,jG,jA,jB,enP,HY,LD,c1,c2,l0,l2]
  refine (AC1 G l m _ H hl hok).use ?_
  unfold QV
  simp -implicitDefEqProofs only [zH,zL,BC,BA,BI,A8,AY,BB,AO,AQ,AL,BD,AX,AC,AA,AZ,BG,A7,GU,EW,GG,AB,EP,↓reduceIte,jC,jA,jB]
  cases hk:(LV l e.name).2
  ·simp -implicitDefEqProofs only [BC,BA,BJ,A8,CQ,IU,CZ,AY,BB,AO,AQ,AL,BD,AX,AC,AA,AU,BH,A7,↓reduceIte,jC,jA,jB]
   exact ⟨by unfold lfE; rw [if_neg (by rw [hkn,hk]; decide)]; rfl,hx⟩
  ·simp -implicitDefEqProofs only [BC,BA,BR,BJ,A8,CQ,IU,DI,AY,BB,AO,AQ,AL,BD,AX,AC,AA,AZ,AU,BH,BG,A7,↓reduceIte,jC,jA,jV,jB]
   exact ⟨by unfold lfE RV; rw [if_pos (by rw [hkn,hk]),if_neg e1,if_pos e2]; rfl,hx⟩
 have c2:(e.op == 2)=false:=by simpa using e2
 have hkn:knE l e=(LV l (elN e.name 0)).2:=by
  unfold knE
  rw [if_neg e2,if_pos (by omega)]
  unfold atG
  rw [if_neg (by omega)]; rfl
 simp -implicitDefEqProofs only [BC,BA,BR,BI,A8,DI,AY,BB,AO,AQ,AL,BD,AX,AC,AA,AZ,AU,BU,BH,BG,BX,BQ,BN,BZ,BO,AB,DR,BF,BL,jE,jD,jF,↓reduceIte,jC,jM,jG,jA,jB,enP,HY,LD,c1,c2,l0,l2]
 refine (AAX G e.name 0 (by omega) H hnz).use ?_
 simp -implicitDefEqProofs only [AY,AO,AQ,AL,BD,AX,AC,AA,AZ,BU,BZ,BO,jE,jD,jF,↓reduceIte,jC,jA,jB]
 refine (AC1 G l m _ H hl hok).use ?_
 unfold QV
 simp -implicitDefEqProofs only [zH,zL,BC,BA,BI,A8,AY,BB,AO,AQ,AL,BD,AX,AC,AA,AZ,BG,A7,GU,EW,GG,AB,EP,↓reduceIte,jC,jA,jB]
 cases hk:(LV l (elN e.name 0)).2
 ·simp -implicitDefEqProofs only [BC,BA,BJ,A8,CQ,IU,CZ,AY,BB,AO,AQ,AL,BD,AX,AC,AA,AU,BH,A7,↓reduceIte,jC,jA,jB]
  exact ⟨by unfold lfE; rw [if_neg (by rw [hkn,hk]; decide)]; rfl,hx⟩
 have hk':knE l e=true:=by rw [hkn,hk]
 by_cases e3:e.op=3
 ·have c3:(e.op == 3)=true:=by simpa using e3
  have hl1:vs.length=1:=by rw [hvs,o3 e3]
  obtain ⟨o,rfl,hob⟩ : ∃ o,v = .own o 0 1∧H[o]? = some (.live 1 (vs.map JH)):=by
   rcases ho1 with ⟨h0,_⟩ | ⟨_,o,_,rfl,hb⟩
   ·rw [h0] at hl1; simp at hl1
   ·exact ⟨o,by rw [hl1],hb⟩
  have hlen:0 < vs.length:=by omega
  have i0:JG 1 H (.own o 0 1) (.int .i64 0)=some (.ptr o 0 0):=I5 (n:=0) hob (by decide)
  have d0:DX Tryz.prog H 3 (.ptr o 0 0)=some (.int .i64 (vs.getD 0 0:Nat)):=by
   rw [DJ ag3 hob (row:=JH vs[0]) (row_map hlen),jZ,jL hlen]; rfl
  simp -implicitDefEqProofs only [BC,BA,BR,BI,A8,CZ,DI,AY,BB,AO,AQ,AL,BD,AX,AC,AA,AZ,AU,BH,BX,BQ,BN,AB,DR,↓reduceIte,jC,jM,jA,jV,jB,enP,HY,l0,c3]
  refine FN (by kernel_rfl) ?_
  simp -implicitDefEqProofs only [G5,EM,D9,FU,EQ,GH,JI,FT,EX,EU,H6,GN,BJ,A8,CQ,IU,AO,AA,AZ,AU,BU,BH,BX,BN,CG,AB,BF,BL,jE,jD,jF,↓reduceIte,jC,jQ,jG,jA,enP,JS,LD,l2,i0,d0]
  refine ⟨_,AAQ G l m _ _ H hl hok hnz,?_⟩
  try simp -implicitDefEqProofs only []
  exact ⟨by unfold lfE RV; rw [if_pos hk',if_neg e1,if_neg e2,if_pos e3]; rfl,hx⟩
 have c3:(e.op == 3)=false:=by simpa using e3
 have e24:e.op=24:=by omega
 simp -implicitDefEqProofs only [BC,BP,BA,BR,BI,A8,DI,AY,BB,AO,AQ,AL,BD,AX,AC,AA,AZ,AU,BH,A7,BX,BQ,BN,AB,DR,↓reduceIte,jC,jM,jA,jV,jB,enP,HY,l0,c3]
 refine DY (fun k F H' => ∃ j,k+j=8∧F 1 = .sl m 2 (l.map GI)∧F 3 = .ptr h.length 0 0∧F 12 = .int .i64 (sumTo l e.name j:Nat)∧F 13 = .int .i64 (j:Nat)∧H'=H) 8 ⟨0,by simp,by simp -implicitDefEqProofs only [AA,BF,BL,↓reduceIte,jC],by simp -implicitDefEqProofs only [AA,↓reduceIte,jC],by simp -implicitDefEqProofs only [AA,↓reduceIte,jC] <;> rfl,by simp -implicitDefEqProofs only [AA,↓reduceIte] <;> rfl,rfl⟩ ?_
 rintro k F H' ⟨j,hj,f1,f3,f12,f13,rfl⟩
 simp -implicitDefEqProofs only [BC,BA,BI,A8,AY,BB,AO,AQ,AL,BD,AX,AC,AA,AZ,AU,BH,BG,BQ,AB,C9,↓reduceIte,jA,jB,enP,f13]
 refine CV (fun hc => ?_) (fun hc => ?_)
 ·have hj':j < 8:=by simp at hc; omega
  simp -implicitDefEqProofs only [BC,BP,BA,BR,A8,AY,AO,AQ,AL,BD,AX,AC,AA,AZ,BU,BG,BX,BN,BZ,BO,AB,jE,jD,jF,↓reduceIte,jC,jG,jA,jB,enP,LD,f1,f3,f12,f13,l2]
  refine (AAQ G l m _ _ H' hl hok hnz).use ?_
  simp -implicitDefEqProofs only [AY,AO,AQ,AL,BD,AX,AC,AA,AZ,BU,BZ,BO,jE,jD,jF,↓reduceIte,jC,jA,jB]
  refine (A1W G _ _ (ABO l _ j) (AOE l _ (j:Nat)) H').use ?_
  simp -implicitDefEqProofs only [BA,A8,EH,ER,AY,BB,AO,AQ,AL,BD,AX,AC,AA,AZ,AU,BH,BG,A7,BQ,AB,DK,↓reduceIte,jC,jA,jB,enP,f1,f3,f12,f13,wrap_succ (show j < 9223372036854775807 by omega)]
  exact ⟨k - 1,by omega,j+1,by omega,by trivial,by trivial,by trivial,by trivial,trivial⟩
 ·have hj':j=8:=by simp at hc; omega
  subst hj'
  simp -implicitDefEqProofs only [BC,BA,BJ,DW,A8,EG,EY,EZ,IU,AY,BB,AO,AQ,AL,BD,AX,AC,AA,AZ,AU,BH,BG,A7,↓reduceIte,jC,jA,jB,f12]
  exact ⟨by unfold lfE RV; rw [if_pos hk',if_neg e1,if_neg e2,if_neg e3,if_pos e24]; rfl,hx⟩
def vlE (l:List Sg) (e:Ex):Nat × Int:=if (pre e).all (knE l)=true then (LP l e,0) else (0,7)
theorem AJF : ∀ xs:List Ex,xs.length≤(IQ xs).length
 | []=>by simp [IQ]
 | x :: xs=>by
   have:=AJF xs
   simp only [IQ,zZ,zW,pre_eq x]; omega
theorem AAG {a:Ex} : ∀ {xs:List Ex},a∈xs→(pre a).length≤(IQ xs).length
 | x :: xs,h=>by
   simp only [IQ,zZ]
   rcases qI.1 h with rfl | h
   ·omega
   ·have:=AAG h; omega
theorem APF (l:List Sg) (e:Ex):(pre e).all (knE l)=(knE l e && (IQ e.args).all (knE l)):=by rw [pre_eq]; rfl
set_option maxHeartbeats 1000000 in
theorem value_ref (l:List Sg) (m:SM) (hl:l.length≤1099511627776) (hok : ∀ s∈l,VO s) (e:Ex):(pre e).length≤1048576→(∀ x∈pre e,x.name.size≤1048576)→(∀ x∈pre e,J8 x=0)→∀ h:Hp,PCall (En G) 128 [.agg (CY e),.sl m 2 (l.map GI)] h (evV (vlE l e)):=by
 induction e using Ex.induct with | h e ih => ?_
 intro hw hnm hval h
 have hpl:=congrArg wR (pre_eq e)
 rw [zW] at hpl
 have hal:e.args.length≤1048576:=by have:=AJF e.args; omega
 have hnode:=hval e (by rw [pre_eq]; simp)
 obtain ⟨o1,o3,oo⟩:=AB9 hnode
 refine AB1 2 (AHC _) ?_
 refine acN Tryz.func128 rfl ?_
 show awp _ _ _ _ _ (D8 _ [.tmp 4,.tmp 5] _)
 have ge:=CW h (ABlk.live 4 [CY e])
 have hx:ext h (h ++ [ABlk.live 4 [CY e]]):=(ext.rfl' h).app _
 simp -implicitDefEqProofs only [BC,BP,BA,A8,AY,BB,AO,AQ,AL,BD,AX,AC,AZ,AU,BH,GZ,A7,FM,CB,BF,jA,jB,enP,bxE]
 generalize h ++ [ABlk.live 4 [CY e]]=H1 at ge hx ⊢
 generalize h.length=eb at ge ⊢
 refine JA 0 (fun F H => ∃ v,F 1 = .sl m 2 (l.map GI)∧F 2 = .ptr eb 0 0∧F 6=v∧ext H1 H∧outG 1 JH H1 (KD l e.args) v H∧(IQ e.args).all (knE l)=true) (fun F H=>F 4 = .int .i64 0∧F 5 = .int .i64 7∧ext H1 H∧(IQ e.args).all (knE l)=false) ?_ ?_ ?_
 ·refine DY (fun k F H => ∃ j v,k+j=e.args.length∧F 1 = .sl m 2 (l.map GI)∧F 2 = .ptr eb 0 0∧F 6=v∧F 7 = .int .i64 (j:Nat)∧ext H1 H∧outG 1 JH H1 (KD l (e.args.take j)) v H∧(IQ (e.args.take j)).all (knE l)=true) e.args.length
   ⟨0,.sl .nil 0 [],by simp,by simp -implicitDefEqProofs only [AA,BF,BL,↓reduceIte,jC],by simp -implicitDefEqProofs only [AA,↓reduceIte,jC],by simp -implicitDefEqProofs only [AA,↓reduceIte,jC],by simp -implicitDefEqProofs only [AA,↓reduceIte] <;> rfl,ext.rfl' H1,outG.nil _ _ _ _,rfl⟩ ?_
  rintro k F H ⟨j,v,hj,f1,f2,f6,f7,hxH,ho,hkn⟩
  have geH:=E8 hxH ge
  have l3:DX Tryz.prog H 46 (.ptr eb 0 3)=some (.sl e.m 4 (e.args.map CY)):=by rw [DJ RQ geH (row:=CY e) rfl,YG]
  simp -implicitDefEqProofs only [BC,BA,BI,A8,AY,BB,AO,AQ,AL,BD,AX,AC,AA,AZ,BG,BX,BQ,BN,D6,AB,C9,↓reduceIte,jC,jG,jA,jB,enP,TW,MR,f2,f7,l3,jI]
  refine CV (fun hc => ?_) (fun hc => ?_)
  ·have hj':j < e.args.length:=by simpa using hc
   have hmem:e.args[j]∈e.args:=jO hj'
   have htl:(KD l (e.args.take j)).length < 8388608:=by rw [U8]; simp; omega
   have hsplit:IQ e.args=IQ (e.args.take j) ++ (pre e.args[j] ++ IQ (e.args.drop (j+1))):=by
    rw [← List.append_assoc,← NT _ _ hj',← PE,List.take_append_drop]
   obtain ⟨v',H',ha,ho',_,hx',_,_⟩:=ho.append (P:=Tryz.prog) VJ sz3 YV YM (by omega) htl hxH (LP l e.args[j])
   have ha':FZ Tryz.prog true H 26 26 v (.sl .full 1 [[.int .i64 ((LP l e.args[j]:Nat):Int)]])=some (v',H'):=ha
   simp -implicitDefEqProofs only [BC,BP,BA,BR,A8,AY,AO,AQ,AL,BD,AX,AC,AA,AZ,BU,BG,BX,BN,CG,BZ,BO,AB,jE,jD,jF,↓reduceIte,jC,jG,jA,jB,enP,WP,MR,f1,f2,f7,l3,D7 hj',FP U4 MM H7 hj']
   refine (ih e.args[j] hmem (by have:=AAG hmem; omega) (fun x hx=>hnm x (by rw [pre_eq]; exact qW _ (VC hmem x hx))) (fun x hx=>hval x (by rw [pre_eq]; exact qW _ (VC hmem x hx))) _).use ?_
   unfold vlE
   cases hk:(pre e.args[j]).all (knE l)
   ·simp only [zA,if_false,evV]
    simp -implicitDefEqProofs only [zH,zL,BC,BA,BJ,BI,A8,CQ,ED,RI,F7,CZ,AY,BB,AO,AQ,AL,BD,AX,AC,AA,AZ,AU,BH,BG,A7,BQ,EW,GG,AB,ET,↓reduceIte,jC,jA,jB,enP,Int.reduceBNe,zD]
    exact ⟨by trivial,by trivial,hxH,by rw [hsplit,yA,yA,hk]; simp⟩
   ·simp only [if_true,evV]
    simp -implicitDefEqProofs only [zH,zL,FK,FH,BC,BA,BR,BI,A8,EH,ER,DI,AY,BB,AO,AQ,AL,BD,AX,AC,AA,AZ,AU,BH,BG,A7,EC,BQ,EW,GG,GL,CB,AB,DK,ET,↓reduceIte,jC,jA,jB,enP,Int.reduceBNe,zD,bne_self_eq_false,f6,ALK,ha',f1,f2,f7,wrap_succ (show j < 9223372036854775807 by omega)]
    exact ⟨k - 1,by omega,j+1,v',by omega,by trivial,by trivial,by trivial,by trivial,hx',by rw [ABL _ _ _ hj']; exact ho',by rw [NT _ _ hj',yA,hkn,hk]; rfl⟩
  ·have hj' : ¬ j < e.args.length:=by simpa using hc
   rw [jW (by omega)] at ho hkn
   simp -implicitDefEqProofs only [DW,EG,NG,EZ,AA,↓reduceIte,jC]
   exact ⟨v,f1,f2,f6,hxH,ho,hkn⟩
 ·rintro F H ⟨v,f1,f2,f6,hxH,ho,hkn⟩
  have geH:=E8 hxH ge
  have hxx:=hx.trans hxH
  have l0:DX Tryz.prog H 3 (.ptr eb 0 0)=some (.int .i64 e.op):=by rw [DJ ag3 geH (row:=CY e) rfl,J4]
  have hvl:=U8 l e.args
  have hpa:(pre e).all (knE l)=knE l e:=by rw [APF,hkn,Bool.and_true]
  simp -implicitDefEqProofs only [BC,BA,A8,EY,AY,AO,AQ,AL,BD,AX,AC,AA,AZ,BU,BX,BN,BZ,BO,AB,jE,jD,jF,↓reduceIte,jM,jA,jB,enP,HY,f2,l0]
  refine (AW5 G e.op H).use ?_
  simp -implicitDefEqProofs only [BI,A8,BB,AC,AA,AZ,↓reduceIte]
  cases hq:((e.op == 1) || KR e.op)
  ·have hne:e.op≠1∧e.op≠2∧e.op≠3∧e.op≠24:=by
    unfold KR at hq; simp at hq; omega
   obtain ⟨e1,e2,e3,e24⟩:=hne
   have hok':AL3 e.op (KD l e.args).length:=by rw [hvl]; exact oo e1 e2 e3 e24
   obtain ⟨o,rfl,hob⟩ : ∃ o,v = .own o 0 (KD l e.args).length∧H[o]? = some (.live 1 ((KD l e.args).map JH)):=by
    rcases ho with ⟨h0,_⟩ | ⟨_,o,_,rfl,hb⟩
    ·exfalso
     rw [h0] at hok'
     obtain ⟨a,b,c⟩:=hok'
     by_cases q:e.op=22
     ·have:=a q; simp at this
     by_cases q':e.op=23
     ·have:=b q'; simp at this
     ·have:=c q q'; simp at this
    ·exact ⟨o,rfl,hb⟩
   simp -implicitDefEqProofs only [BC,BA,BR,A8,DI,AY,AO,AQ,AL,BD,AX,AC,AA,AZ,BU,BG,BX,BN,BZ,BO,AB,jE,jD,jF,↓reduceIte,jC,jM,jA,jB,enP,HY,f2,l0,f6]
   refine (AUH G e.op _ o H hob (AIF l _) (by omega) hok').use ?_
   simp -implicitDefEqProofs only [BJ,A8,IU,AY,BB,AO,AQ,AL,BD,AX,AC,AA,AZ,AU,BH,A7,↓reduceIte,jC,jA,jB]
   have hk:knE l e=true:=by unfold knE; rw [if_neg e2,if_neg (by omega)]
   refine ⟨?_,hxx⟩
   unfold vlE
   rw [hpa,if_pos hk,O6]
   unfold RV
   rw [if_neg e1,if_neg e2,if_neg e3,if_neg e24]; rfl
  ·have hask:e.op=1∨e.op=2∨e.op=3∨e.op=24:=by
    unfold KR at hq; simp at hq; omega
   simp -implicitDefEqProofs only [BC,BA,CZ,AY,AO,AQ,AL,BD,AX,AC,AA,AZ,BU,BG,BX,BZ,BO,AB,jE,jD,jF,↓reduceIte,jC,jA,jB,enP,f1,f2,f6,MG geH]
   refine (AUZ G l m e _ v H1 H hl hok (hnm e (by rw [pre_eq]; simp)) hnode hask hvl ho).use ?_
   have hlf:lfE l e (KD l e.args)=vlE l e:=by unfold lfE vlE; rw [hpa,O6]
   rw [hlf]
   unfold evV
   simp -implicitDefEqProofs only [zH,zL,BJ,A8,CQ,IU,AY,BB,AO,AQ,AL,BD,AX,AC,AA,AZ,A7,EW,GG,AB,↓reduceIte,jC,jA,jB]
   exact ⟨by trivial,hxx⟩
 ·rintro F H ⟨f4,f5,hxH,hkn⟩
  simp -implicitDefEqProofs only [CQ,ED,IU,f4,f5]
  exact ⟨by unfold vlE; rw [APF,hkn,Bool.and_false]; rfl,hx.trans hxH⟩
theorem AS5 (l:List Sg) (m:SM) (e:Ex) (h:Hp) (hl:l.length≤1099511627776) (hok : ∀ s∈l,VO s) (hw:WN e):PCall (En G) 81 [.agg (CY e),.sl m 2 (l.map GI)] h (evV (evE l e)):=by
 refine AB1 2 (AHC _) ?_
 refine acN Tryz.func81 rfl ?_
 show awp _ _ _ _ _ (D8 _ [.tmp 4,.tmp 5] _)
 have ge:=CW h (ABlk.live 4 [CY e])
 have hx:ext h (h ++ [ABlk.live 4 [CY e]]):=(ext.rfl' h).app _
 simp -implicitDefEqProofs only [BC,BA,A8,AY,BB,AO,AQ,AL,BD,AX,AC,AA,AZ,AU,BH,A7,FM,BX,CB,BF,↓reduceIte,jC,jA,jB,enP,bxE]
 generalize h ++ [ABlk.live 4 [CY e]]=H at ge hx ⊢
 simp -implicitDefEqProofs only [AY,AO,AQ,AL,BD,AX,AC,AA,AZ,BU,BZ,BO,AB,jE,jD,jF,↓reduceIte,jA,jB,MG ge]
 refine (AHB G e H hw).use ?_
 simp -implicitDefEqProofs only [BI,A8,AY,BB,AO,AQ,AL,BD,AX,AC,AA,AZ,AU,BH,BQ,AB,ET,↓reduceIte,jA,jB,enP]
 cases hv:(exE e == 0)
 ·have hne:exE e≠0:=by simpa using hv
  simp -implicitDefEqProofs only [BC,BA,BJ,A8,CQ,IU,CZ,AY,BB,AO,AQ,AL,BD,AX,AC,AA,AU,BH,A7,↓reduceIte,jC,jA,jB,bne,hv]
  exact ⟨by unfold evE; rw [if_pos hne]; rfl,hx⟩
 have h0:exE e=0:=by simpa using hv
 simp -implicitDefEqProofs only [BC,BA,BR,A8,DI,AY,AO,AQ,AL,BD,AX,AC,AA,AZ,BU,BG,BX,BZ,BO,AB,BF,BL,jE,jD,jF,↓reduceIte,jC,jA,jV,jB,enP,bne,hv,MG ge]
 have h400:(pre e).length≤1048576:=by
  unfold exE at h0
  split at h0
  ·cases h0
  ·rename_i q; rw [h0] at q; simp at q; omega
 refine (value_ref G l m hl hok e h400 hw.2 (AFR h0) H).use ?_
 have he:evE l e=vlE l e:=by unfold evE vlE; rw [if_neg (by simpa using h0)]
 rw [he]
 unfold evV
 simp -implicitDefEqProofs only [zH,zL,BJ,A8,IU,AY,BB,AO,AQ,AL,BD,AX,AC,AA,AZ,A7,EW,GG,AB,↓reduceIte,jC,jA,jB]
 exact ⟨by trivial,hx⟩
end
def outW (v:Int):Bool:=decide (v < 0) || decide (v > 65535)
def lastB (xs:List Int):Bool:=decide (xs.length≤7) && !xs.any outW
theorem AV3 (n:Int):(qencI n)[0]? = some (.int .i64 n):=rfl
section
variable (G:Nat→AV)
theorem AYQ (v:Int) (h:Hp):PCall (En G) 188 [.int .i64 v] h (.bool (outW v)):=by
 refine acN Tryz.func188 rfl ?_
 show awp _ _ _ _ _ (D8 _ [.tmp 2] _)
 simp -implicitDefEqProofs only [BC,BA,A8,AY,BB,BK,BV,CO,AO,AQ,AL,BD,AX,AC,AA,AZ,AU,BH,BM,BG,A7,BQ,AB,C9,BF,↓reduceIte,jC,jA,jB,enP]
 cases h1:decide (v < 0)
 ·simp -implicitDefEqProofs only [BJ,A8,CJ,AY,BB,BK,BV,CO,EF,AO,AQ,AL,BD,AX,AC,AA,AZ,AU,BH,BM,BG,A7,CP,DN,BQ,AB,FD,BF,↓reduceIte,jC,jA,jB,enP,h1]
  exact ⟨by unfold outW; rw [h1]; rfl,trivial⟩
 ·simp -implicitDefEqProofs only [BJ,A8,CJ,AY,BB,BK,BV,CO,FI,AO,AQ,AL,BD,AX,AC,AA,EK,AZ,AU,BM,A7,CP,DL,↓reduceIte,jC,jA,jB,h1]
  exact ⟨by unfold outW; rw [h1]; rfl,trivial⟩
theorem A2Y (xs:List Int) (m:SM) (fid:FuncId) (p:Int→Bool) (h:Hp) (hl:xs.length≤1099511627776) (hf : ∀ r,PCall (En G) fid [.int .i64 r] h (.bool (p r))) :
  PCall (En G) 163 [.sl m 1 (xs.map qencI),.fn (.func fid) [] []] h (.int .i64 (match xs.findIdx? p with | some i=>(i:Int) | none => -1)):=by
 refine acN Tryz.func163 rfl ?_
 show awp _ _ _ _ _ (D8 _ [.tmp 4] _)
 simp -implicitDefEqProofs only [BC,BP,BA,A8,AY,BB,AO,AQ,AL,BD,AX,AC,AA,AZ,AU,BH,BG,A7,D6,AB,BF,↓reduceIte,jC,jA,jB,enP,KH,jI]
 refine DY (fun n F H => ∃ k,n+k=xs.length∧F 0 = .sl m 1 (xs.map qencI)∧F 1 = .fn (.func fid) [] []∧F 7 = .int .i64 xs.length∧F 8 = .int .i64 (k:Nat)∧H=h∧(xs.take k).all (fun r => !p r)=true) xs.length ⟨0,by simp,rfl,rfl,rfl,rfl,rfl,rfl⟩ ?_
 rintro n F H ⟨k,hk,f0,f1,f7,f8,rfl,hin⟩
 simp -implicitDefEqProofs only [BC,BA,BI,A8,AY,BB,AO,AQ,AL,BD,AX,AC,AA,AZ,BQ,AB,C9,↓reduceIte,jA,jB,enP,f0,f1,f7,f8,jI]
 refine CV (fun hc => ?_) (fun hc => ?_)
 ·have hc':k < xs.length:=by simpa using hc
  simp -implicitDefEqProofs only [BC,BP,BA,BR,A8,AY,BB,AO,AQ,AL,BD,AX,AC,AA,AZ,BG,A7,BX,CG,BZ,BO,AB,jE,jD,jF,↓reduceIte,jC,jA,jB,enP,JS,f0,f1,f7,f8,D7 hc',DZ ag3 hc',AV3]
  refine (hf _).use ?_
  simp -implicitDefEqProofs only [BI,A8,BB,AC,AA,AZ,↓reduceIte]
  refine CV (fun hb => ?_) (fun hb => ?_)
  ·simp -implicitDefEqProofs only [BC,BA,BJ,A8,CQ,ED,F7,CJ,AY,BB,AO,AQ,AL,BD,AX,AC,AA,AZ,BG,A7,↓reduceIte,jC,jA,jB]
   refine ⟨?_,trivial⟩
   rw [qX.2 ⟨hc',hb,fun j hj=>by
    rw [zF] at hin
    have:=hin xs[j] (by rw [List.mem_take_iff_getElem]; exact ⟨j,by omega,rfl⟩)
    simpa using this⟩]
  ·simp -implicitDefEqProofs only [BA,BR,A8,EH,ER,AY,BB,AO,AQ,AL,BD,AX,AC,AA,AZ,AU,BH,BG,BQ,AB,DK,↓reduceIte,jC,jA,jB,enP,f8,wrap_succ (show k < 9223372036854775807 by omega)]
   refine ⟨n - 1,by omega,k+1,by omega,f0,f1,f7,rfl,trivial,?_⟩
   rw [zN hc',yA,hin]
   simp only [qQ,List.all_nil,hb]; rfl
 ·have hc' : ¬ k < xs.length:=by simpa using hc
  simp -implicitDefEqProofs only [BC,BA,BJ,DW,A8,EG,EY,EZ,CJ,AY,BB,AO,AQ,AL,BD,AX,AC,AA,AU,BH,A7,↓reduceIte,jA,jB]
  refine ⟨?_,trivial⟩
  rw [jW (by omega)] at hin
  rw [qY.2 (by simpa using hin)]
theorem ASO (xs:List Int) (m:SM) (fid:FuncId) (p:Int→Bool) (h:Hp) (hl:xs.length≤1099511627776) (hf : ∀ r,PCall (En G) fid [.int .i64 r] h (.bool (p r))) :
  PCall (En G) 118 [.sl m 1 (xs.map qencI),.fn (.func fid) [] []] h (.bool (xs.any p)):=by
 refine acN Tryz.func118 rfl ?_
 show awp _ _ _ _ _ (D8 _ [.tmp 4] _)
 simp -implicitDefEqProofs only [BC,BA,A8,AY,BB,AO,AQ,AL,BD,AX,AC,AA,AZ,AU,BU,BM,BG,A7,BZ,BO,BF,BL,jE,jD,jF,↓reduceIte,jC,jA,jB,enP]
 refine (A2Y G xs m fid p h hl hf).use ?_
 simp -implicitDefEqProofs only [BJ,A8,CJ,AY,BB,AO,AQ,AL,BD,AX,AC,AA,AZ,AU,BH,A7,BQ,AB,FX,↓reduceIte,jA,jB,enP]
 refine ⟨?_,trivial⟩
 cases hx:xs.findIdx? p with
 | some i =>
   obtain ⟨h1,h2,_⟩:=qX.1 hx
   have:xs.any p=true:=qC.2 ⟨xs[i],by simp,h2⟩
   simp [this]
 | none =>
   have:xs.any p=false:=by
    rw [qY] at hx
    rw [List.any_eq_false]; intro x hx2; simp [hx x hx2]
   simp [this]
theorem AGW (xs:List Int) (m:SM) (h:Hp) (hl:xs.length≤1099511627776):PCall (En G) 155 [.sl m 1 (xs.map qencI)] h (.bool (lastB xs)):=by
 refine acN Tryz.func155 rfl ?_
 show awp _ _ _ _ _ (D8 _ [.tmp 2] _)
 simp -implicitDefEqProofs only [BC,BA,A8,AY,BB,BK,BV,CO,AO,AQ,AL,BD,AX,AC,AA,AZ,AU,BH,BM,BG,A7,BQ,D6,AB,IJ,BF,↓reduceIte,jC,jA,jB,enP,KH,jI]
 have e7:decide (((xs.length:Nat):Int)≤7)=decide (xs.length≤7):=lec xs.length 7
 rw [e7]
 cases h7:decide (xs.length≤7)
 ·simp -implicitDefEqProofs only [BJ,A8,CJ,AY,BB,BK,BV,CO,JD,AO,AQ,AL,BD,AX,AC,AA,EK,AZ,AU,BM,A7,CP,DN,↓reduceIte,jC,jA,jB]
  exact ⟨by unfold lastB; rw [h7]; rfl,trivial⟩
 ·simp -implicitDefEqProofs only [BK,BV,CO,FY,AO,AQ,AL,BD,AX,AC,AA,AZ,BU,BG,BZ,BO,BF,jE,jD,jF,↓reduceIte,jC,jA,jB]
  refine (ASO G xs m 188 outW h hl (fun r=>AYQ G r h)).use ?_
  simp -implicitDefEqProofs only [BJ,A8,CJ,AY,BB,BK,BV,CO,FY,AO,AQ,AL,BD,AX,AC,AA,AZ,AU,BM,A7,CP,DL,GU,AB,EP,↓reduceIte,jC,jA,jB]
  exact ⟨by unfold lastB; rw [h7]; rfl,trivial⟩
end
def hK (last:List Int) (v kind:Int) (b:Bin):Bool:=(b.kind == kind) && (if (kind == 0)=true then hit b last v else inside b.ranges.l v)
def MB (bins:List Bin) (last:List Int) (v kind:Int):Nat→List Nat
 | 0 => []
 | k+1=>MB bins last v kind k ++ (if ((bins[k]?.map (hK last v kind)).getD false)=true then [k] else [])
def X5 (p:Pt) (last:List Int) (v kind:Int):List Nat:=MB p.bins last v kind p.bins.length
theorem ACP (bins:List Bin) (last:List Int) (v kind:Int) (k:Nat) (hk:k < bins.length):MB bins last v kind (k+1)=MB bins last v kind k ++ (if hK last v kind bins[k]=true then [k] else []):=by
 simp only [MB,jL hk,wV,jA]
theorem ZG (bins:List Bin) (last:List Int) (v kind:Int) : ∀ k,(MB bins last v kind k).length≤k
 | 0=>by simp [MB]
 | k+1=>by
   have:=ZG bins last v kind k
   simp only [MB,zZ]
   split <;> simp <;> omega
theorem ACQ (bins:List Bin) (last:List Int) (v kind:Int) : ∀ k,∀ x∈MB bins last v kind k,x < k
 | 0,x,hx=>by simp [MB] at hx
 | k+1,x,hx=>by
   simp only [MB] at hx
   rcases zY.1 hx with h | h
   ·have:=ACQ bins last v kind k x h; omega
   ·split at h
    ·simp at h; omega
    ·cases h
theorem AFJ (bins:List Bin) (last:List Int) (v kind:Int) : ∀ k,decide (0 < (MB bins last v kind k).length)=(bins.take k).any (hK last v kind)
 | 0=>by simp [MB]
 | k+1=>by
   have ih:=AFJ bins last v kind k
   rcases zK k bins.length with hk | hk
   ·rw [ACP _ _ _ _ _ hk,zN hk,List.any_append,← ih,zZ,qP]
    simp only [List.any_cons,List.any_nil,Bool.or_false,Bool.or_eq_true,decide_eq_true_eq]
    split
    ·rename_i h; simp [h]
    ·rename_i h; simp [h]
   ·rw [jW (by omega)]
    rw [jW hk] at ih
    rw [← ih]
    simp only [MB,qN hk,Option.map_none,jT,zA,if_false,jF]
def encX (m:SM) (last:List Int) (v:Int):List AV := [.sl m 1 (last.map qencI),.int .i64 v]
theorem AWL (h:Hp) (m:SM) (last:List Int) (v:Int):OT h (.agg (encX m last v))=some (.ptr h.length 0 0,h ++ [ABlk.live 2 [encX m last v]]):=TQ rfl
theorem APZ {h:Hp} {b:Nat} {m:SM} {last:List Int} {v:Int} (hb:h[b]? = some (.live 2 [encX m last v])):DX Tryz.prog h 184 (.ptr b 0 0)=some (.agg (encX m last v)):=by
 rw [G8 A61 A1C hb rfl (by exact jK 2)]; rfl
theorem AU4 {h:Hp} {b:Nat} {x:Bin} (hb:h[b]? = some (.live 4 [GV x])):DX Tryz.prog h 56 (.ptr b 0 0)=some (.agg (GV x)):=by
 rw [G8 AEU YY hb rfl (by exact jK 4)]; rfl
theorem ARB {b:Bin} (hb:BinOk b):b.ranges.l.length≤1099511627776:=by
 rcases Nat.eq_zero_or_pos b.ranges.l.length with h | h
 ·omega
 ·exact hb.sets b.ranges (by unfold sets; rw [if_pos h]; simp)
section
variable (G:Nat→AV)
theorem AHJ (hG:GOk G) (b:Bin) (hb:BinOk b) (last:List Int) (m:SM) (v:Int) (h:Hp) (hl:last.length≤8388608):PCall (En G) 222 [.agg (encX m last v),.agg (GV b)] h (.bool (hit b last v)):=by
 refine ACalls.pure0 rfl ?_
 refine acN Tryz.func222 rfl ?_
 show awp _ _ _ _ _ (D8 _ [.tmp 4] _)
 have g1:=CU (x:=ABlk.live 4 [GV b]) (CW h (ABlk.live 2 [encX m last v]))
 have g2:=CW (h ++ [ABlk.live 2 [encX m last v]]) (ABlk.live 4 [GV b])
 have hx:ext h (h ++ [ABlk.live 2 [encX m last v]] ++ [ABlk.live 4 [GV b]]):=((ext.rfl' h).app _).app _
 simp -implicitDefEqProofs only [BC,BA,A8,AY,BB,AO,AQ,AL,BD,AX,AC,AA,AZ,AU,BM,A7,FM,BX,CB,BF,BL,↓reduceIte,jC,jA,jB,enP,AWL,bxB]
 generalize h ++ [ABlk.live 2 [encX m last v]] ++ [ABlk.live 4 [GV b]]=H at g1 g2 hx ⊢
 generalize (h ++ [ABlk.live 2 [encX m last v]]).length=bb at g2 ⊢
 have l0:DX Tryz.prog H 26 (.ptr h.length 0 0)=some (.sl m 1 (last.map qencI)):=by rw [DJ OA g1 (row:=encX m last v) rfl]; rfl
 have l1:DX Tryz.prog H 3 (.ptr h.length 0 1)=some (.int .i64 v):=by rw [DJ ag3 g1 (row:=encX m last v) rfl]; rfl
 simp -implicitDefEqProofs only [AY,AO,AQ,AL,BD,AX,AC,AA,AZ,BU,BX,BN,BZ,BO,AB,jE,jD,jF,↓reduceIte,jC,jM,jG,jA,jB,enP,AZV,AP5,AU4 g2,l0,l1]
 refine (hit_prog G hG.kw b hb last m v H hl).use ?_
 simp -implicitDefEqProofs only [BJ,A8,CJ,AY,BB,AO,AQ,AL,BD,AX,AC,AA,AZ,A7,↓reduceIte,jA,jB]
 exact ⟨trivial,hx⟩
theorem ADL (b:Bin) (hb:BinOk b) (last:List Int) (m:SM) (v:Int) (h:Hp):PCall (En G) 223 [.agg (encX m last v),.agg (GV b)] h (.bool (inside b.ranges.l v)):=by
 refine ACalls.pure0 rfl ?_
 refine acN Tryz.func223 rfl ?_
 show awp _ _ _ _ _ (D8 _ [.tmp 4] _)
 have g1:=CU (x:=ABlk.live 4 [GV b]) (CW h (ABlk.live 2 [encX m last v]))
 have g2:=CW (h ++ [ABlk.live 2 [encX m last v]]) (ABlk.live 4 [GV b])
 have hx:ext h (h ++ [ABlk.live 2 [encX m last v]] ++ [ABlk.live 4 [GV b]]):=((ext.rfl' h).app _).app _
 simp -implicitDefEqProofs only [BC,BA,A8,AY,BB,AO,AQ,AL,BD,AX,AC,AA,AZ,AU,BM,A7,FM,BX,BN,CB,AB,BF,BL,↓reduceIte,jC,jG,jA,jB,enP,TL,AWL,bxB]
 generalize h ++ [ABlk.live 2 [encX m last v]] ++ [ABlk.live 4 [GV b]]=H at g1 g2 hx ⊢
 generalize (h ++ [ABlk.live 2 [encX m last v]]).length=bb at g2 ⊢
 have l2:DX Tryz.prog H 53 (.ptr bb 0 2)=some (.sl b.ranges.m 2 (b.ranges.l.map encR)):=by rw [DJ YR g2 (row:=GV b) rfl]; rfl
 have l1:DX Tryz.prog H 3 (.ptr h.length 0 1)=some (.int .i64 v):=by rw [DJ ag3 g1 (row:=encX m last v) rfl]; rfl
 simp -implicitDefEqProofs only [AY,AO,AQ,AL,BD,AX,AC,AA,AZ,BU,BX,BN,BZ,BO,AB,jE,jD,jF,↓reduceIte,jC,jG,jA,jB,enP,AP5,l2,l1]
 refine (inside_prog G b.ranges.l b.ranges.m v H (ARB hb)).use ?_
 simp -implicitDefEqProofs only [BJ,A8,CJ,AY,BB,AO,AQ,AL,BD,AX,AC,AA,AZ,A7,↓reduceIte,jA,jB]
 exact ⟨trivial,hx⟩
theorem AGV (kind:Int) (h:Hp):PCall (En G) 191 [.int .i64 kind] h (.fn (.func (if (kind == 0)=true then 222 else 223)) [] []):=by
 refine acN Tryz.func191 rfl ?_
 show awp _ _ _ _ _ (D8 _ [.tmp 2] _)
 simp -implicitDefEqProofs only [BC,BA,BI,A8,AY,BB,AO,AQ,AL,BD,AX,AC,AA,AZ,AU,BH,ALQ,BG,A7,BQ,AB,DR,BF,↓reduceIte,jC,jA,jB,enP]
 cases hk:(kind == 0)
 ·simp -implicitDefEqProofs only [BC,BA,BR,BJ,A8,CJ,DI,AY,BB,AO,AQ,AL,BD,AX,AC,AA,BU,A7,↓reduceIte,jA,jB,zA]
  exact ⟨by simp,trivial⟩
 ·simp -implicitDefEqProofs only [BC,BA,BJ,A8,CQ,CJ,CZ,AY,BB,AO,AQ,AL,BD,AX,AC,AA,BU,A7,↓reduceIte,jA,jB]
  exact ⟨by simp,trivial⟩
theorem ZF (hG:GOk G) (p:Pt) (hp:PtOk p) (last:List Int) (m:SM) (v kind:Int) (h:Hp) (hl:last.length≤8388608) :
  PCall (En G) 158 [.agg (F9 p),.agg (encX m last v),.int .i64 kind] h (.sl (nm (X5 p last v kind)) 1 ((X5 p last v kind).map JH)):=by
 refine P5 A21 ?_
 have hnum:=hp.num
 refine acN Tryz.func158 rfl ?_
 show awp _ _ _ _ _ (D8 _ [.tmp 6] _)
 have gp:=CU (x:=ABlk.live 2 [encX m last v]) (CW h (ABlk.live 6 [F9 p]))
 have gx:=CW (h ++ [ABlk.live 6 [F9 p]]) (ABlk.live 2 [encX m last v])
 have hx:ext h (h ++ [ABlk.live 6 [F9 p]] ++ [ABlk.live 2 [encX m last v]]):=((ext.rfl' h).app _).app _
 have hbl:h.length≤(h ++ [ABlk.live 6 [F9 p]]).length:=by simp
 simp -implicitDefEqProofs only [BC,BA,A8,AY,BB,AO,AQ,AL,BD,AX,AC,AA,AZ,AU,GZ,A7,FM,BX,BN,CB,AB,BF,BL,↓reduceIte,jC,jG,jA,jB,enP,KU,bxP,AWL]
 generalize h ++ [ABlk.live 6 [F9 p]] ++ [ABlk.live 2 [encX m last v]]=H1 at gp gx hx ⊢
 generalize (h ++ [ABlk.live 6 [F9 p]]).length=xb at gx hbl ⊢
 have l5:DX Tryz.prog H1 49 (.ptr h.length 0 5)=some (.sl p.bm 4 (p.bins.map GV)):=by rw [DJ AD1 gp (row:=F9 p) rfl,U0]
 simp -implicitDefEqProofs only [BP,A8,AY,BB,AO,AQ,AL,BD,AX,AC,AA,AZ,AU,BH,BG,D6,AB,↓reduceIte,jA,jB,enP,XU,l5,jI]
 refine DY (fun n F H => ∃ k u,n+k=p.bins.length∧F 2 = .int .i64 kind∧F 4 = .ptr xb 0 0∧F 7=u∧F 11 = .sl p.bm 4 (p.bins.map GV)∧F 12 = .int .i64 (p.bins.length:Nat)∧F 13 = .int .i64 (k:Nat)∧ext H1 H∧outG 1 JH H1 (MB p.bins last v kind k) u H) p.bins.length
  ⟨0,.sl .nil 0 [],by simp,by simp -implicitDefEqProofs only [AA,BF,BL,↓reduceIte,jC],by simp -implicitDefEqProofs only [AA,↓reduceIte,jC],by simp -implicitDefEqProofs only [AA,↓reduceIte,jC],by simp -implicitDefEqProofs only [AA,↓reduceIte,jC],by simp -implicitDefEqProofs only [AA,↓reduceIte,jC],by simp -implicitDefEqProofs only [AA,↓reduceIte]; rfl,ext.rfl' _,outG.nil _ _ _ _⟩ ?_
 rintro n F H ⟨k,u,hk,f2,f4,f7,f11,f12,f13,hxH,ho⟩
 simp -implicitDefEqProofs only [BC,BA,BI,A8,AY,BB,AO,AQ,AL,BD,AX,AC,AA,AZ,BQ,AB,C9,↓reduceIte,jA,jB,enP,f12,f13]
 refine CV (fun hc => ?_) (fun hc => ?_)
 ·have hk':k < p.bins.length:=by simpa using hc
  have hbok:=hp.bins _ (jO hk')
  have gxH:=E8 (hxH.app [ABlk.live 4 [GV p.bins[k]]]) gx
  have gb:=CW H (ABlk.live 4 [GV p.bins[k]])
  have hx1:=hxH.app [ABlk.live 4 [GV p.bins[k]]]
  have ho1:=ho.app [ABlk.live 4 [GV p.bins[k]]]
  have hlen:=ZG p.bins last v kind k
  have hs:=ACP p.bins last v kind k hk'
  simp -implicitDefEqProofs only [BC,BP,BA,BR,A8,AY,BB,AO,AQ,AL,BD,AX,AC,ES,AA,AZ,BG,A7,FO,BX,EI,CG,CB,AB,DT,↓reduceIte,jC,jA,jB,enP,ZC,jT,f11,f13,D7 hk',FP AEU YY MI hk',AXA,AX8 _ _ [.str ⟨#[]⟩,.int .i64 0,.sl .nil 0 [],.sl .nil 0 []] rfl]
  generalize H ++ [ABlk.live 4 [GV p.bins[k]]]=H2 at gxH gb hx1 ho1 ⊢
  have lk:DX Tryz.prog H2 3 (.ptr H.length 0 1)=some (.int .i64 p.bins[k].kind):=by rw [DJ ag3 gb (row:=GV p.bins[k]) rfl,YI]
  refine FN (by kernel_rfl) ?_
  simp -implicitDefEqProofs only [G5,EM,D9,EQ,GK,IY,GH,FT,J7,EX,CO,AO,AA,AZ,BX,BQ,BN,AB,DR,↓reduceIte,jC,jQ,jG,jA,enP,TM,lk,f2]
  cases hq:(p.bins[k].kind == kind)
  ·have hK0:hK last v kind p.bins[k]=false:=by unfold hK; rw [hq]; rfl
   rw [hK0] at hs
   simp -implicitDefEqProofs only [G5,EM,D9,FU,EQ,GK,IY,AGA,KA,BA,BR,BI,A8,EH,ER,DI,AY,BB,CO,AO,AQ,AL,BD,AX,AC,AA,EK,AZ,AU,BH,BM,BG,CP,DN,BQ,AB,DK,↓reduceIte,jC,jQ,jA,jB,enP,hq,f13,wrap_succ (show k < 9223372036854775807 by omega)]
   exact ⟨n - 1,by omega,k+1,u,by omega,by trivial,by trivial,by trivial,by trivial,by trivial,by trivial,hx1,by rw [hs]; simpa using ho1⟩
  ·have hKv:hK last v kind p.bins[k]=if (kind == 0)=true then hit p.bins[k] last v else inside p.bins[k].ranges.l v:=by unfold hK; rw [hq]; rfl
   have hcall:PCall (En G) (if (kind == 0)=true then 222 else 223) [.agg (encX m last v),.agg (GV p.bins[k])] H2 (.bool (hK last v kind p.bins[k])):=by
    rw [hKv]
    split
    ·exact AHJ G hG _ hbok last m v H2 hl
    ·exact ADL G _ hbok last m v H2
   generalize hf:(if (kind == 0)=true then 222 else 223:Nat)=fid at hcall
   have hm:=AGV G kind H2
   rw [hf] at hm
   simp -implicitDefEqProofs only [G5,EM,D9,GK,IY,Q9,GH,FT,H6,GN,CO,AO,AA,AZ,BU,BX,jE,jD,jF,↓reduceIte,jC,jQ,jA,enP,hq,f2]
   refine ⟨_,hm,?_⟩
   simp -implicitDefEqProofs only [G5,EM,D9,FU,EQ,GK,IY,Q9,KA,FT,H6,GN,BI,A8,CO,AO,AA,AZ,AU,BM,CP,DL,BX,AB,jE,jD,jF,↓reduceIte,jC,jQ,jA,enP,f4,APZ gxH,AU4 gb]
   refine ⟨_,hcall,?_⟩
   cases hv:hK last v kind p.bins[k]
   ·rw [hv] at hs
    simp -implicitDefEqProofs only [BA,BR,A8,EH,ER,DI,AY,BB,AO,AQ,AL,BD,AX,AC,AA,AZ,AU,BH,BG,BQ,AB,DK,↓reduceIte,jC,jA,jB,enP,f13,wrap_succ (show k < 9223372036854775807 by omega)]
    exact ⟨n - 1,by omega,k+1,u,by omega,by trivial,by trivial,by trivial,by trivial,by trivial,by trivial,hx1,by rw [hs]; simpa using ho1⟩
   ·rw [hv,if_pos rfl] at hs
    obtain ⟨u',H3,ha,ho2,_,hx2,_,_⟩:=ho1.append (P:=Tryz.prog) VJ sz3 YV YM (by omega) (by omega) hx1 k
    have ha':FZ Tryz.prog true H2 26 26 u (.sl .full 1 [[.int .i64 ((k:Nat):Int)]])=some (u',H3):=ha
    simp -implicitDefEqProofs only [FK,FH,BA,A8,EH,ER,CZ,AY,BB,AO,AQ,AL,BD,AX,AC,AA,AZ,AU,BH,BG,A7,EC,BQ,GL,CB,AB,DK,↓reduceIte,jC,jA,jB,enP,f7,f13,ALK,ha',wrap_succ (show k < 9223372036854775807 by omega)]
    exact ⟨n - 1,by omega,k+1,u',by omega,by trivial,by trivial,by trivial,by trivial,by trivial,by trivial,hx2,by rw [hs]; exact ho2⟩
 ·have hk':k=p.bins.length:=by
   have : ¬ k < p.bins.length:=by simpa using hc
   omega
  subst hk'
  simp -implicitDefEqProofs only [BC,BA,BJ,DW,A8,EG,EY,EZ,CJ,AY,BB,AO,AQ,AL,BD,AX,AC,AA,AZ,BG,A7,↓reduceIte,jC,jA,jB,f7]
  refine ⟨hx.trans hxH,?_⟩
  rcases ho with ⟨e,hu⟩ | ⟨e,o,h1,h2,h3⟩
  ·exact .inl ⟨e,hu⟩
  ·exact .inr ⟨e,o,qJ hx.le h1,h2,h3⟩
def inK (bins:List Bin) (kind v:Int):Bool:=bins.any fun b=>(b.kind == kind) && inside b.ranges.l v
theorem AKE (p:Pt) (last:List Int) (v kind:Int) (hk:kind≠0):decide (0 < (X5 p last v kind).length)=inK p.bins kind v:=by
 unfold X5
 rw [AFJ,List.take_length]
 unfold inK
 congr 1
 funext b
 unfold hK
 have:(kind == 0)=false:=by simpa using hk
 rw [this]; rfl
end
structure PtR where
 hit:List Nat
 next:List Int
 bad:Bool
 err:Int
def nextL (last:List Int) (v:Nat):List Int:=(last ++ [(v:Int)]).drop (last.length+1 - 7)
def ptE (p:Pt) (last:List Int) (l:List Sg):PtR :=
 if I4 p≠0∨lastB last=false then ⟨[],[],false,1⟩
 else if (evE l p.ex).2≠0 then ⟨[],[],false,(evE l p.ex).2⟩
 else if inK p.bins 2 (evE l p.ex).1=true then ⟨[],nextL last (evE l p.ex).1,true,0⟩
 else if inK p.bins 1 (evE l p.ex).1=true then ⟨[],nextL last (evE l p.ex).1,false,0⟩
 else ⟨X5 p last (evE l p.ex).1 0,nextL last (evE l p.ex).1,false,0⟩
def ptV (r:PtR):AV := .tup [.sl (nm r.hit) 1 (r.hit.map JH),.sl (nm r.next) 1 (r.next.map qencI),.bool r.bad,.int .i64 r.err]
def ptW (r:PtR):AV := .tup [fzG 1 JH r.hit,fzG 1 qencI r.next,.bool r.bad,.int .i64 r.err]
theorem A2K (r:PtR):CvR (ptW r) (ptV r):=CvR.tup (CvRL.cons ACS (CvRL.cons ACS (CvRL.refl _)))
theorem AUP (last:List Int) (v:Nat):nextL last v≠[]:=by
 intro h
 have:=congrArg wR h
 unfold nextL at this
 simp at this; omega
theorem AVP {α:Type} {k:Nat} {f:α→List AV} {ys:List α} (h:ys≠[]):fzG k f ys = .sl .any k (ys.map f):=by
 cases ys with
 | nil=>exact absurd rfl h
 | cons y ys=>rfl
theorem A2F {h:Hp} {o n u:Nat} {xs:List (List AV)} (hb:h[o]? = some (.live 1 xs)) (hu:u≤n):JR Tryz.prog h 26 (.own o 0 n) (some (.int .i64 (u:Nat))) none none=some (.own o u (n - u)):=by
 simp [JR,Tryz.underlying26,H8,hb,sz3,hu]
theorem A2S (o off len:Nat):JB Tryz.prog 26 .eql (.own o off len) (.sl .nil 0 [])=some (.bool false):=by kernel_rfl
theorem ASS (G:Nat→AV) {h:Hp} {o off len:Nat} {xs:List Int} (ho:h[o]? = some (.live 1 (xs.map qencI))) (hl:off+len=xs.length) (h0:0 < len) (hm:xs.length≤1048576) :
  ACalls (En G) 157 [.own o off len] h fun v H=>v = .own h.length 0 len∧H=h ++ [ABlk.live 1 ((xs.drop off).map qencI)]:=by
 refine acN Tryz.func157 rfl ?_
 show awp _ _ _ _ _ (D8 _ [.tmp 2] _)
 have hc:JP h (.own o off len)=some (1,(xs.drop off).map qencI):=by
  rw [LG ho (by simp; omega),← List.map_drop,jW (by simp; omega)]
 have hne:(xs.drop off).map qencI≠[]:=by
  intro e
  have:=congrArg wR e
  simp at this; omega
 simp -implicitDefEqProofs only [FK,BC,BA,BR,BI,A8,DI,AY,BB,AO,AQ,AL,BD,AX,AC,AA,AZ,AU,GZ,BG,A7,EC,BQ,GL,CB,AB,BF,↓reduceIte,jC,jA,jB,enP,A2S,AWO]
 refine LY (SN VJ sz3 YV YM hc hne (IX (by simp; omega) (by omega))) ?_
 simp -implicitDefEqProofs only [BJ,A8,CJ,AY,BB,AO,AQ,AL,BD,AX,AC,AA,AZ,A7,List.nil_append,↓reduceIte,jA,jB]
 exact ⟨by simp; omega,by simp⟩
theorem AST {h h':Hp} {last:List Int} {u:AV} (v:Int) (hc:AN4 1 (last.map qencI) h u h') (hl:last.length≤1048576) :
  ∃ o H,FZ Tryz.prog true h' 26 26 u (.sl .full 1 [[.int .i64 v]])=some (.own o 0 (last.length+1),H)∧H[o]? = some (.live 1 ((last ++ [v]).map qencI))∧h.length≤o∧ext h H:=by
 have h1:([[AV.int .i64 v]]:List (List AV))≠[]:=by simp
 rcases hc with ⟨he,⟨k0,rfl⟩,rfl⟩ | ⟨he,rfl,rfl⟩ | ⟨hne,rfl,rfl⟩
 ·have:last = []:=by simpa using he
  subst this
  exact ⟨h'.length,_,PX VJ sz3 YV YM (IM _ .full 1 [[.int .i64 v]]) h1 (IX (by simp) (by omega)),CW _ _,jK _,(ext.rfl' _).app _⟩
 ·have:last = []:=by simpa using he
  subst this
  exact ⟨h'.length,_,SN VJ sz3 YV YM (IM _ .full 1 [[.int .i64 v]]) h1 (IX (by simp) (by omega)),CW _ _,jK _,(ext.rfl' _).app _⟩
 ·have hcc:JP (h ++ [ABlk.live 1 (last.map qencI)]) (.own h.length 0 (last.map qencI).length)=some (1,last.map qencI):=AFX
  refine ⟨(h ++ [ABlk.live 1 (last.map qencI)]).length,(h ++ [ABlk.live 1 (last.map qencI)]).set h.length .dead ++ [ABlk.live 1 (last.map qencI ++ [[.int .i64 v]])],?_,?_,?_,?_⟩
  ·have:=PW VJ sz3 YV YM hcc (IM _ .full 1 [[.int .i64 v]]) h1 (IX (by simp; omega) (by omega))
   rw [this]
   simp
  ·have e:(h ++ [ABlk.live 1 (last.map qencI)]).length=((h ++ [ABlk.live 1 (last.map qencI)]).set h.length .dead).length:=by simp
   rw [e,CW]
   simp [qencI]
  ·simp
  ·exact (((ext.rfl' h).app _).set (jK _) _).app _
section
variable (G:Nat→AV)
theorem A6W (h:Hp):JY Tryz.prog h 184=some (.ptr h.length 0 0,h ++ [.live 2 [[.sl .nil 0 [],.int .i64 0]]]):=JL (row := [.sl .nil 0 [],.int .i64 0]) (by kernel_rfl)
theorem A6M (s:SM) (k:Nat) (xs:List (List AV)) (v:Int):KW Tryz.prog 184 [(0,.sl s k xs),(1,.int .i64 v)]=some (.agg [.sl s k xs,.int .i64 v]):=by kernel_rfl
theorem A4B (h:Hp) (s:SM) (xs:List Int) (v:Int):FB Tryz.prog (h ++ [.live 2 [[.sl .nil 0 [],.int .i64 0]]]) 184 (.ptr h.length 0 0) (.agg [.sl s 1 (xs.map qencI),.int .i64 v])=some (h ++ [.live 2 [encX s xs v]]):=by
 rw [NQ (cs := [.sl s 1 (xs.map qencI),.int .i64 v]) (row := [.sl .nil 0 [],.int .i64 0]) rfl A1C (CW _ _) (by exact jK 2),AA7]
 rfl
theorem ldP {h:Hp} {b:Nat} {p:Pt} (hb:h[b]? = some (.live 6 [F9 p])):DX Tryz.prog h 51 (.ptr b 0 0)=some (.agg (F9 p)):=by
 rw [G8 AEV AAY hb rfl (by rw [I7]; exact jK 6),zO,jW (by rw [I7]; exact jK 6)]
set_option maxHeartbeats 1000000 in
theorem AD6 (hG:GOk G) (p:Pt) (hp:PtOk p) (last:List Int) (lm:SM) (l:List Sg) (m:SM) (h:Hp) (hll:last.length≤1048576) (hl:l.length≤1099511627776) :
  PCall (En G) 112 [.agg (F9 p),.sl lm 1 (last.map qencI),.sl m 2 (l.map GI)] h (ptV (ptE p last l)):=by
 refine PCall.res (r:=ptW (ptE p last l)) ?_ (A2K _)
 have hE : ∀ (e:Int) (n:Nat) (H:Hp),IG n H 4 (.tup [.sl .nil 0 [],.sl .nil 0 [],.bool false,.int .i64 e])=ptW ⟨[],[],false,e⟩:=fun _ _ _=>rfl
 refine ACalls.pure (R:=fun v H=>ext h H∧IG h.length H 4 v=ptW (ptE p last l)) 4 ?_ (fun v H ⟨a,b⟩=>⟨a,b⟩)
 refine acN Tryz.func112 rfl ?_
 show awp _ _ _ _ _ (D8 _ [.tmp 6,.tmp 7,.tmp 8,.tmp 9] _)
 have gp:=CW h (ABlk.live 6 [F9 p])
 have hx:ext h (h ++ [ABlk.live 6 [F9 p]]):=(ext.rfl' h).app _
 simp -implicitDefEqProofs only [BC,BA,A8,AY,BB,AO,AQ,AL,BD,AX,AC,AA,AZ,AU,BH,BM,GZ,A7,FM,BX,CB,BF,↓reduceIte,jC,jA,jB,enP,bxP]
 generalize h ++ [ABlk.live 6 [F9 p]]=H1 at gp hx ⊢
 simp -implicitDefEqProofs only [AY,AO,AQ,AL,BD,AX,AC,AA,AZ,BU,BZ,BO,AB,jE,jD,jF,↓reduceIte,jA,jB,ldP gp]
 refine (AB4 G hG p hp H1).use ?_
 simp -implicitDefEqProofs only [AY,BK,BV,CO,AO,AQ,AL,BD,AX,AC,AA,AZ,AU,BH,BG,BQ,AB,ET,↓reduceIte,jA,jB,enP]
 cases h1:(I4 p == 0)
 ·have hne:I4 p≠0:=by simpa using h1
  simp -implicitDefEqProofs only [BC,BA,BJ,BI,A8,CQ,WV,CZ,AY,BB,BK,BV,CO,FI,AO,AQ,AL,BD,AX,AC,AA,EK,AZ,AU,BH,BM,GZ,A7,CP,DL,↓reduceIte,jC,jA,jB,bne,h1]
  exact ⟨hx,by unfold ptE; rw [if_pos (.inl hne)]; rfl⟩
 have hp0:I4 p=0:=by simpa using h1
 simp -implicitDefEqProofs only [BK,BV,CO,EF,AO,AQ,AL,BD,AX,AC,AA,AZ,BU,BG,BZ,BO,BF,BL,jE,jD,jF,↓reduceIte,jC,jA,jV,jB,bne,h1]
 refine (AGW G last lm H1 (by omega)).use ?_
 simp -implicitDefEqProofs only [BI,A8,AY,BB,BK,BV,CO,EF,AO,AQ,AL,BD,AX,AC,AA,AZ,AU,BM,CP,DN,GU,AB,EP,↓reduceIte,jC,jA,jB]
 cases h2:lastB last
 ·simp -implicitDefEqProofs only [BC,BA,BJ,A8,CQ,WV,CZ,AY,BB,AO,AQ,AL,BD,AX,AC,AA,AU,BH,BM,GZ,A7,↓reduceIte,jC,jA,jB]
  exact ⟨hx,by unfold ptE; rw [if_pos (.inr h2)]; rfl⟩
 have hneg : ¬ (I4 p≠0∨lastB last=false):=by rw [hp0,h2]; simp
 have h7:last.length≤7:=by
  unfold lastB at h2
  rw [jU] at h2
  simpa using h2.1
 simp -implicitDefEqProofs only [BC,BA,BR,A8,DI,AY,AO,AQ,AL,BD,AX,AC,AA,AZ,BU,BG,BX,BN,BZ,BO,AB,BF,BL,jE,jD,jF,↓reduceIte,jC,jG,jA,jV,jB,enP,AC8,AU1 gp]
 refine (AS6 G hG l m p.ex H1 hl hp.ex).use ?_
 unfold ptE
 rw [if_neg hneg]
 generalize evE l p.ex=ev
 obtain ⟨v,e⟩:=ev
 unfold evV
 simp -implicitDefEqProofs only [zH,zL,BC,BA,BI,A8,AY,BB,AO,AQ,AL,BD,AX,AC,AA,AZ,AU,BH,BG,A7,BQ,EW,GG,AB,ET,↓reduceIte,jC,jA,jB,enP]
 cases h3:(e == 0)
 ·have hne:e≠0:=by simpa using h3
  simp -implicitDefEqProofs only [BC,BA,BJ,A8,CQ,WV,CZ,AY,BB,AO,AQ,AL,BD,AX,AC,AA,AZ,AU,BM,GZ,BG,A7,↓reduceIte,jC,jA,jB,bne,h3]
  exact ⟨hx,by rw [if_pos hne]; rfl⟩
 have he0:e=0:=by simpa using h3
 rw [if_neg (by simpa using he0)]
 simp -implicitDefEqProofs only [FK,FH,BC,BA,BR,A8,DI,AY,BB,AO,AQ,AL,BD,AX,AC,ES,AA,AZ,BU,BG,FO,KY,EI,BZ,BO,CB,AB,DT,BF,BL,jE,jD,jF,↓reduceIte,jC,jA,jV,jB,enP,jT,bne,h3,A6M,A6W,A4B]
 have gp2:=CU (x:=ABlk.live 2 [encX lm last (v:Nat)]) gp
 have gx2:=CW H1 (ABlk.live 2 [encX lm last (v:Nat)])
 have hx2:=hx.app [ABlk.live 2 [encX lm last (v:Nat)]]
 generalize H1 ++ [ABlk.live 2 [encX lm last (v:Nat)]]=H2 at gp2 gx2 hx2 ⊢
 refine (AQG G last lm H2 (by omega)).mono ?_
 rintro u H2' hcl
 obtain ⟨o,H3,ha,ho,hol,hx3⟩:=AST (v:Nat) hcl hll
 have gp3:=E8 hx3 gp2
 have gx3:=E8 hx3 gx2
 have hx4:=hx2.trans hx3
 simp -implicitDefEqProofs only [wV,Option.map_none,FK,FH,BC,BA,A8,AY,BB,AO,AQ,AL,BD,AX,AC,AA,AZ,AU,BH,BG,A7,EC,BQ,QP,D6,AOW,GL,CB,AB,JK,AGU,↓reduceIte,jC,jA,jB,enP,KH,ALK,ha]
 have hsub:IntKind.i64.wrap (((last.length+1:Nat):Int) - 7)=((last.length+1:Nat):Int) - 7:=wrap_i64 (by omega) (by omega)
 have hmax:max (0:Int) (((last.length+1:Nat):Int) - 7)=((last.length+1 - 7:Nat):Int):=by omega
 have hsl:=A2F (n:=last.length+1) (u:=last.length+1 - 7) ho (by omega)
 simp -implicitDefEqProofs only [AY,AO,AQ,AL,BD,AX,AC,AA,AZ,BU,BZ,BO,AB,jE,jD,jF,↓reduceIte,jA,jB,hsub,hmax,hsl]
 refine (ASS G (off:=last.length+1 - 7) (len:=last.length+1 - (last.length+1 - 7)) ho (by simp <;> omega) (by omega) (by simp <;> omega)).mono ?_
 rintro u' H4 ⟨rfl,rfl⟩
 have hnl:(last ++ [((v:Nat):Int)]).drop (last.length+1 - 7)=nextL last v:=rfl
 have hlen:last.length+1 - (last.length+1 - 7)=(nextL last v).length:=by unfold nextL; rw [List.length_drop,zZ]; rfl
 rw [hnl,hlen]
 have gp5:=CU (x:=ABlk.live 1 ((nextL last v).map qencI)) gp3
 have gx5:=CU (x:=ABlk.live 1 ((nextL last v).map qencI)) gx3
 have go5:=CW H3 (ABlk.live 1 ((nextL last v).map qencI))
 have hx5:=hx4.app [ABlk.live 1 ((nextL last v).map qencI)]
 have hle:=hx4.le
 generalize H3 ++ [ABlk.live 1 ((nextL last v).map qencI)]=H5 at gp5 gx5 go5 hx5 ⊢
 generalize H3.length=ob at go5 hle ⊢
 have hne:=AUP last v
 have hfz:IG h.length H5 3 (.own ob 0 (nextL last v).length)=fzG 1 qencI (nextL last v):=by
  rw [AVP hne]; exact frz_own (d:=1) A5K hle go5
 have h2K:=AKE p last (v:Nat) 2 (by decide)
 have h1K:=AKE p last (v:Nat) 1 (by decide)
 have hgt : ∀ n:Nat,decide (((n:Nat):Int) > 0)=decide (0 < n):=fun n=>by
  rw [qP]; simp only [decide_eq_true_eq]; omega
 simp -implicitDefEqProofs only [BC,BA,A8,AY,BB,AO,AQ,AL,BD,AX,AC,AA,AZ,AU,BU,BH,A7,BX,BZ,BO,AB,jE,jD,jF,↓reduceIte,jC,jA,jB,enP,ldP gp5,APZ gx5]
 refine (ZF G hG p hp last lm (v:Nat) 2 H5 (by omega)).use ?_
 simp -implicitDefEqProofs only [BC,BA,A8,AY,BB,BK,BV,CO,AO,AQ,AL,BD,AX,AC,AA,AZ,AU,BH,BG,A7,BQ,D6,AB,FD,↓reduceIte,jA,jB,enP,KH,jI,hgt,h2K]
 have hfin : ∀ (hits:List Nat) (bad:Bool) (s:SM),(hits = []→s = .nil)→(hits≠[]→s = .any)→IG h.length H5 4 (.tup [.sl s (if hits = [] then 0 else 1) (hits.map JH),.own ob 0 (nextL last v).length,.bool bad,.int .i64 0])=ptW ⟨hits,nextL last v,bad,0⟩:=by
  intro hits bad s e1 e2
  have:IG h.length H5 4 (.tup [.sl s (if hits = [] then 0 else 1) (hits.map JH),.own ob 0 (nextL last v).length,.bool bad,.int .i64 0]) = .tup [.sl s (if hits = [] then 0 else 1) (hits.map JH),IG h.length H5 3 (.own ob 0 (nextL last v).length),.bool bad,.int .i64 0]:=rfl
  rw [this,hfz]
  unfold ptW
  cases hits with
  | nil=>rw [e1 rfl]; rfl
  | cons x xs=>rw [e2 (by simp)]; rfl
 cases h2i:inK p.bins 2 (v:Nat)
 ·simp -implicitDefEqProofs only [BK,BV,CO,EF,AO,AQ,AL,BD,AX,AC,AA,AZ,AU,BU,BH,BX,BZ,BO,AB,jE,jD,jF,↓reduceIte,jC,jA,jB,enP,zA,ldP gp5,APZ gx5]
  refine (ZF G hG p hp last lm (v:Nat) 1 H5 (by omega)).use ?_
  simp -implicitDefEqProofs only [BI,A8,AY,BB,BK,BV,CO,EF,AO,AQ,AL,BD,AX,AC,AA,AZ,AU,BH,BM,CP,DN,BQ,D6,AB,FD,↓reduceIte,jC,jA,jB,enP,KH,jI,hgt,h1K]
  cases h1i:inK p.bins 1 (v:Nat)
  ·simp -implicitDefEqProofs only [BC,BA,BR,A8,DI,AY,AO,AQ,AL,BD,AX,AC,AA,AZ,AU,BU,BH,BX,BZ,BO,AB,jE,jD,jF,↓reduceIte,jC,jA,jB,enP,zA,ldP gp5,APZ gx5]
   have hlast:=ZF G hG p hp last lm (v:Nat) 0 H5 (by omega)
   generalize X5 p last (v:Nat) 0=hs at hlast ⊢
   cases hs with
   | nil =>
     refine (PCall.res hlast (r' := .sl .nil 0 []) (CvR.sl (Cv.nil 1 0))).use ?_
     simp -implicitDefEqProofs only [BJ,A8,WV,AY,BB,AO,AQ,AL,BD,AX,AC,AA,AZ,AU,BH,BM,BG,A7,↓reduceIte,jC,jA,jB]
     exact ⟨hx5,hfin [] false .nil (fun _=>rfl) (fun q=>absurd rfl q)⟩
   | cons x xs =>
     refine hlast.use ?_
     simp -implicitDefEqProofs only [BJ,A8,WV,AY,BB,AO,AQ,AL,BD,AX,AC,AA,AZ,AU,BH,BM,BG,A7,jE,↓reduceIte,jC,jA,jB]
     exact ⟨hx5,hfin (x :: xs) false .any (fun q=>by cases q) (fun _=>rfl)⟩
  ·simp -implicitDefEqProofs only [BC,BA,BJ,A8,CQ,WV,CZ,AY,BB,AO,AQ,AL,BD,AX,AC,AA,AZ,AU,BH,GZ,BG,A7,↓reduceIte,jC,jA,jB]
   exact ⟨hx5,hfin [] false .nil (fun _=>rfl) (fun q=>absurd rfl q)⟩
 ·simp -implicitDefEqProofs only [BC,BA,BJ,BI,A8,CQ,WV,CZ,AY,BB,BK,BV,CO,FI,AO,AQ,AL,BD,AX,AC,AA,EK,AZ,AU,BH,BM,GZ,BG,A7,CP,DL,↓reduceIte,jC,jA,jB]
  exact ⟨hx5,hfin [] true .nil (fun _=>rfl) (fun q=>absurd rfl q)⟩
end
def rz (n:Int):Int:=min (n+1) 1099511627776
theorem TD (G:Nat→AV) {H:Hp} {b i j k:Nat} {xs:List (List AV)} {row:List AV} {n:Int} (hb:H[b]? = some (.live k xs)) (hr:xs[i]? = some row) (hj:row[j]? = some (.int .i64 n)) (h0 : -9223372036854775808≤n) (h1:n < 9223372036854775807) :
  ACalls (En G) 113 [.ptr b i j] H fun _ H'=>H'=H.set b (.live k (xs.set i (splice row j [.int .i64 (rz n)]))):=by
 refine acN Tryz.func113 rfl ?_
 show awp _ _ _ _ _ (D8 _ [] _)
 have hld:DX Tryz.prog H 3 (.ptr b i j)=some (.int .i64 n):=by rw [DJ ag3 hb hr,hj]
 have hst:FB Tryz.prog H 3 (.ptr b i j) (.int .i64 (rz n))=some (H.set b (.live k (xs.set i (splice row j [.int .i64 (rz n)])))):=JC (U5 _ _) sz3 hb hr (by have:=CE hj; simp; omega)
 have hw:IntKind.i64.wrap (n+1)=n+1:=wrap_i64 (by omega) (by omega)
 have hm:min (n+1) 1099511627776=rz n:=rfl
 simp -implicitDefEqProofs only [BA,ADB,AY,BB,AO,AQ,AL,BD,AX,AC,ES,AA,AZ,AU,BH,BG,BX,EI,BQ,A1A,AB,DT,DK,AUT,BF,↓reduceIte,jC,jA,jB,enP,jT,GR,IV,hld,hw,hm,hst]
def WJ (p:Nat × List Int):List AV := [.own p.1 0 p.2.length]
structure NL (n0:Nat) (H:Hp) (o:Nat) (bs:List Nat) (xss:List (List Int)):Prop where
 len:bs.length=xss.length
 top:xss≠[]→H[o]? = some (.live 1 ((bs.zip xss).map WJ))
 row : ∀ (i:Nat) (hb:i < bs.length) (hx:i < xss.length),H[bs[i]]? = some (.live 1 (xss[i].map qencI))
 nodup:bs.Nodup
 out:xss≠[]→o ∉ bs
 lo : ∀ b∈bs,n0≤b
 lo':xss≠[]→n0≤o
def nlV (o:Nat):List (List Int)→AV
 | [] => .sl .nil 0 []
 | _ :: xss => .own o 0 (xss.length+1)
theorem TG (o:Nat) {xss:List (List Int)} (h:xss≠[]):nlV o xss = .own o 0 xss.length:=by
 cases xss with
 | nil=>exact absurd rfl h
 | cons x xs=>rfl
theorem OG (o:Nat) (xss:List (List Int)):(nlV o xss).leaf=true:=by cases xss <;> rfl
theorem NL.nil (n0:Nat) (H:Hp) (o:Nat):NL n0 H o [] []:=⟨rfl,fun h=>absurd rfl h,fun i hb=>by simp at hb,List.nodup_nil,fun h=>absurd rfl h,fun b hb=>(by cases hb),fun h=>absurd rfl h⟩
section
variable {n0:Nat} {H:Hp} {o:Nat} {bs:List Nat} {xss:List (List Int)} (N:NL n0 H o bs xss)
include N
theorem NL.keep {H':Hp} (hk : ∀ b x,((xss≠[]∧b=o)∨b∈bs)→H[b]? = some x→H'[b]? = some x):NL n0 H' o bs xss :=
 ⟨N.len,fun h=>hk _ _ (.inl ⟨h,rfl⟩) (N.top h),fun i hb hx=>hk _ _ (.inr (jO hb)) (N.row i hb hx),N.nodup,N.out,N.lo,N.lo'⟩
theorem NL.app (x:Hp):NL n0 (H ++ x) o bs xss:=N.keep fun _ _ _ hb=>FQ hb
theorem NL.mem_lt {b:Nat} (hb:b∈bs):b < H.length:=by
 obtain ⟨i,hi,rfl⟩:=List.getElem_of_mem hb
 exact CE (N.row i hi (by rw [← N.len]; exact hi))
theorem NL.top_lt (h:xss≠[]):o < H.length:=CE (N.top h)
theorem NL.set {i:Nat} (hi:i < bs.length) (ys:List Int) (hl : ∀ hx:i < xss.length,ys.length=xss[i].length):NL n0 (H.set bs[i] (.live 1 (ys.map qencI))) o bs (xss.set i ys):=by
 have hlen:=N.len
 have hix:i < xss.length:=by omega
 have hne:xss≠[]:=by intro e; subst e; simp at hix
 have hob:o≠bs[i]:=fun e=>N.out hne (by rw [e]; exact jO hi)
 refine ⟨by rw [List.length_set]; exact hlen,fun _ => ?_,fun j hb hx => ?_,N.nodup,fun _=>N.out hne,N.lo,fun _=>N.lo' hne⟩
 ·have e:(bs.zip (xss.set i ys)).map WJ=(bs.zip xss).map WJ:=by
   refine List.ext_getElem (by simp) fun j h1 h2 => ?_
   simp only [List.getElem_map,List.getElem_zip,WJ,List.getElem_set]
   split
   ·rename_i e; subst e; rw [hl hix]
   ·rfl
  rw [e,zT (Ne.symm hob)]; exact N.top hne
 ·rcases Nat.decEq i j with h | h
  ·have hbb:bs[j]≠bs[i]:=fun e=>h (by
    have:=(List.getElem_inj N.nodup).1 e
    exact this.symm)
   rw [zT (Ne.symm hbb)]
   have:=N.row j hb (by rw [List.length_set] at hx; exact hx)
   rw [this]
   congr 3
   rw [List.getElem_set_ne h]
  ·subst h
   rw [List.getElem?_set_self (N.mem_lt (jO hi))]
   congr 3
   rw [List.getElem_set_self]
theorem NL.rowAt {i:Nat} (hi:i < xss.length):H[o]? = some (.live 1 ((bs.zip xss).map WJ))∧((bs.zip xss).map WJ)[i]? = some [.own (bs[i]'(by rw [N.len]; exact hi)) 0 xss[i].length]:=by
 have hne:xss≠[]:=by intro e; subst e; simp at hi
 refine ⟨N.top hne,?_⟩
 have hlen:=N.len
 rw [List.getElem?_map,jL (by rw [List.length_zip]; omega),List.getElem_zip]; rfl
theorem NL.ld {i:Nat} (hi:i < xss.length):DX Tryz.prog H 26 (.ptr o i 0)=some (.own (bs[i]'(by rw [N.len]; exact hi)) 0 xss[i].length):=by
 obtain ⟨h1,h2⟩:=N.rowAt hi
 rw [DJ OA h1 h2]; rfl
theorem NL.ix {i:Nat} (hi:i < xss.length):JG 1 H (nlV o xss) (.int .i64 (i:Nat))=some (.ptr o i 0):=by
 have hne:xss≠[]:=by intro e; subst e; simp at hi
 rw [TG o hne,I5 (N.top hne) hi,jG]
theorem NL.snoc {b t:Nat} {xs:List Int} (hb:H[b]? = some (.live 1 (xs.map qencI))) (hlo:n0≤b) (hlo':n0≤H.length) (hbn:b ∉ bs) (hbo:xss≠[]→b≠o) (ht:H[t]? = some (.live 1 [[.own b 0 xs.length]])) (hm:xss.length≤1048576) :
  ∃ H',FZ Tryz.prog true H 67 67 (nlV o xss) (.own t 0 1)=some (nlV H.length (xss ++ [xs]),H')∧NL n0 H' H.length (bs ++ [b]) (xss ++ [xs])∧(∀ q x,H[q]? = some x→¬ isB (nlV o xss) q→H'[q]? = some x)∧H'.length=H.length+1∧∀ e:Hp,e.length≤n0→ext e H→ext e H':=by
 have hc:JP H (.own t 0 1)=some (1,[[.own b 0 xs.length]]):=by rw [LG ht (by simp)]; rfl
 have hlen:=N.len
 have hzip:((bs ++ [b]).zip (xss ++ [xs])).map WJ=(bs.zip xss).map WJ ++ [[.own b 0 xs.length]]:=by
  rw [List.zip_append hlen,yC]; rfl
 have hnd:(bs ++ [b]).Nodup:=List.nodup_append.2 ⟨N.nodup,by simp,fun a ha c hc e=>by simp at hc; subst hc; subst e; exact hbn ha⟩
 have hlos : ∀ q∈bs ++ [b],n0≤q:=fun q hq=>by
  rcases zY.1 hq with h | h
  ·exact N.lo q h
  ·simp at h; omega
 have hlts : ∀ q∈bs ++ [b],q < H.length:=fun q hq=>by
  rcases zY.1 hq with h | h
  ·exact N.mem_lt h
  ·simp at h; subst h; exact CE hb
 have hrows : ∀ (H':Hp),(∀ q x,H[q]? = some x→¬ isB (nlV o xss) q→H'[q]? = some x)→∀ (i:Nat) (h1:i < (bs ++ [b]).length) (h2:i < (xss ++ [xs]).length),H'[(bs ++ [b])[i]]? = some (.live 1 ((xss ++ [xs])[i].map qencI)):=by
  intro H' hk i h1 h2
  have hnb : ∀ q,q∈bs ++ [b]→¬ isB (nlV o xss) q:=fun q hq hi=>by
   cases xss with
   | nil=>exact hi
   | cons y ys =>
     have e:o=q:=hi
     subst e
     rcases zY.1 hq with h | h
     ·exact N.out (by simp) h
     ·simp at h; exact hbo (by simp) h.symm
  refine hk _ _ ?_ (hnb _ (jO h1))
  rcases zK i bs.length with h | h
  ·rw [List.getElem_append_left h,List.getElem_append_left (by omega)]
   exact N.row i h (by omega)
  ·have:i=bs.length:=by simp at h1; omega
   subst this
   rw [List.getElem_concat_length rfl,List.getElem_concat_length (by omega)]
   exact hb
 cases hx:xss with
 | nil =>
   subst hx
   have hbs:bs = []:=List.eq_nil_of_length_eq_zero (by simpa using hlen)
   subst hbs
   refine ⟨H ++ [.live 1 [[.own b 0 xs.length]]],?_,⟨by simp,fun _=>CW _ _,hrows _ fun q x hq _=>FQ hq,hnd,fun _ hq=>by have:=hlts _ hq; omega,hlos,fun _=>hlo'⟩,fun q x hq _=>FQ hq,by simp,fun e _ he=>he.app _⟩
   exact PX (k':=0) AX1 AIJ A1Z A0H hc (by simp) (IX (by simp) (by omega))
 | cons y ys =>
   have hne:xss≠[]:=by rw [hx]; simp
   have htop:=N.top hne
   have hco:JP H (.own o 0 xss.length)=some (1,(bs.zip xss).map WJ):=by
    rw [LG htop (by simp; omega),zO,jW (by simp; omega)]
   have hap:=PW AX1 AIJ A1Z A0H hco hc (by simp) (IX (by simp; omega) (by omega))
   have hk : ∀ q x,H[q]? = some x→¬ isB (nlV o xss) q→(H.set o .dead ++ [ABlk.live 1 ((bs.zip xss).map WJ ++ [[.own b 0 xs.length]])])[q]? = some x:=fun q x hq hn=>by
    rw [TG o hne] at hn
    have hn' : ¬ o=q:=hn
    refine FQ ?_
    rw [List.getElem?_set,if_neg hn']; exact hq
   rw [← hx]
   refine ⟨H.set o .dead ++ [.live 1 ((bs.zip xss).map WJ ++ [[.own b 0 xs.length]])],?_,⟨by simp [hlen],fun _ => ?_,hrows _ hk,hnd,fun _ hq=>by have:=hlts _ hq; omega,hlos,fun _=>hlo'⟩,hk,by simp,fun e he hex=>(hex.set (by have:=N.lo' hne; omega) _).app _⟩
   ·rw [TG o hne,TG H.length (by simp),hap]
    simp
    omega
   ·rw [hzip]
    have e:H.length=(H.set o .dead).length:=by simp
    rw [e]; exact CW _ _
end
theorem AQI (h:Hp) (b l:Nat):EN Tryz.prog true h 67 1 [(0,.own b 0 l)]=some (.own h.length 0 1,h ++ [ABlk.live 1 [[.own b 0 l]]]):=by kernel_rfl
theorem AGY {o q:Nat} {xss:List (List Int)} (h:isB (nlV o xss) q):xss≠[]∧q=o:=by
 cases xss with
 | nil=>exact h.elim
 | cons x xs=>exact ⟨by simp,Eq.symm h⟩
theorem NL.frz {n0:Nat} {H:Hp} {o:Nat} {bs:List Nat} {xss:List (List Int)} (N:NL n0 H o bs xss) (n d:Nat) (hn:n≤n0):IG n H (d+3) (nlV o xss)=fzG 1 encL (xss.map fun xs=>⟨.any,xs⟩):=by
 cases hx:xss with
 | nil=>rfl
 | cons y ys =>
   have hne:xss≠[]:=by rw [hx]; simp
   rw [← hx,TG o hne,frzF_own n H (d+2) o 0 xss.length 1 _ (by have:=N.lo' hne; omega) (N.top hne)]
   have e:(((bs.zip xss).map WJ).drop 0).take xss.length=(bs.zip xss).map WJ:=by
    rw [zO,jW (by simp; omega)]
   have hlen:=N.len
   have e2:((bs.zip xss).map WJ).map (·.map (IG n H (d+2)))=(xss.map fun xs=>(⟨.any,xs⟩:Is)).map encL:=by
    refine List.ext_getElem (by simp; omega) fun j h1 h2 => ?_
    have hj1:j < bs.length:=by simp at h1; omega
    have hj2:j < xss.length:=by omega
    simp only [List.getElem_map,List.getElem_zip,WJ,jE,jD,encL]
    rw [frz_own (d:=d) A5K (qJ hn (N.lo _ (jO hj1))) (N.row j hj1 hj2)]
   rw [e,e2,if_pos,AVP (by simpa using hne)]
   refine ⟨by simp; omega,?_⟩
   rw [zF]
   intro row hr
   obtain ⟨x,_,rfl⟩:=zJ.1 hr
   rfl
def allB:List Int→List Int→List (List Nat)→Bool
 | p :: ps,b :: l,hits=>Rk.hasB ((hits.getD p.toNat []).map fun n:Nat=>(n:Int)) b && allB ps l hits
 | _,_,_=>true
theorem AS2 (ps l:List Int) (hits:List (List Nat)) (k:Nat) (h1:k < ps.length) (h2:k < l.length):allB (ps.drop k) (l.drop k) hits=(Rk.hasB ((hits.getD ps[k].toNat []).map fun n:Nat=>(n:Int)) l[k] && allB (ps.drop (k+1)) (l.drop (k+1)) hits):=by
 rw [zQ h1,zQ h2]; rfl
theorem AW9 (ps l:List Int) (hits:List (List Nat)) (k:Nat) (h2:l.length≤k):allB (ps.drop k) (l.drop k) hits=true:=by
 rw [zG h2]
 cases ps.drop k <;> rfl
def QH (x:List Nat):List AV := [.sl (nm x) 1 (x.map JH)]
theorem A4W (xs:List Nat):xs.map JH=(xs.map fun n:Nat=>(n:Int)).map qencI:=by rw [List.map_map]; rfl
section
variable (G:Nat→AV)
theorem AW8 (c:Cr) (l:List Int) (s:SM) (hits:List (List Nat)) (hb:Nat) (h:Hp) (gh:h[hb]? = some (.live 1 (hits.map QH))) (hp : ∀ p∈c.pts,0≤p∧p < (hits.length:Int)) (hl:l.length=c.pts.length) (h64 : ∀ x∈hits,x.length≤1048576) (hlen:l.length≤1048576) :
  PCall (En G) 116 [.agg (G6 c),.sl s 1 (l.map qencI),.own hb 0 hits.length] h (.bool (allB c.pts l hits)):=by
 refine ACalls.pure0 rfl ?_
 refine acN Tryz.func116 rfl ?_
 show awp _ _ _ _ _ (D8 _ [.tmp 6] _)
 have gc:=CW h (ABlk.live 3 [G6 c])
 have gh1:=CU (x:=ABlk.live 3 [G6 c]) gh
 have hx:ext h (h ++ [ABlk.live 3 [G6 c]]):=(ext.rfl' h).app _
 simp -implicitDefEqProofs only [BC,BP,BA,A8,AY,BB,AO,AQ,AL,BD,AX,AC,AA,AZ,AU,BH,BM,BG,A7,FM,D6,CB,AB,BF,BL,↓reduceIte,jC,jA,jB,enP,KH,bxC]
 generalize h ++ [ABlk.live 3 [G6 c]]=H at gc gh1 hx ⊢
 have l1:DX Tryz.prog H 26 (.ptr h.length 0 1)=some (.sl c.pm 1 (c.pts.map qencI)):=by rw [DJ OA gc (row:=G6 c) rfl,U2]
 simp -implicitDefEqProofs only [jI]
 refine DY (fun n F H' => ∃ k,n+k=l.length∧F 2 = .own hb 0 hits.length∧F 3 = .ptr h.length 0 0∧F 9 = .sl s 1 (l.map qencI)∧F 10 = .int .i64 (l.length:Nat)∧F 11 = .int .i64 (k:Nat)∧H'=H∧allB c.pts l hits=allB (c.pts.drop k) (l.drop k) hits) l.length ⟨0,by simp,by simp -implicitDefEqProofs only [AA,BF,BL,↓reduceIte,jC],by simp -implicitDefEqProofs only [AA,↓reduceIte,jC],by simp -implicitDefEqProofs only [AA,↓reduceIte,jC],by simp -implicitDefEqProofs only [AA,↓reduceIte,jC],by simp -implicitDefEqProofs only [AA,↓reduceIte]; rfl,rfl,rfl⟩ ?_
 rintro n F H' ⟨k,hk,f2,f3,f9,f10,f11,rfl,hin⟩
 simp -implicitDefEqProofs only [BC,BA,BI,A8,AY,BB,AO,AQ,AL,BD,AX,AC,AA,AZ,BQ,AB,C9,↓reduceIte,jA,jB,enP,f10,f11]
 refine CV (fun hc => ?_) (fun hc => ?_)
 ·have hk':k < l.length:=by simpa using hc
  have hkp:k < c.pts.length:=by omega
  obtain ⟨hp0,hp1⟩:=hp _ (jO hkp)
  have hpn:c.pts[k].toNat < hits.length:=by omega
  have ih:=AZI (kk := .i64) (off:=0) gh1 hp0 hp1
  rw [jG] at ih
  have lh:DX Tryz.prog H' 26 (.ptr hb c.pts[k].toNat 0)=some (.sl (nm hits[c.pts[k].toNat]) 1 ((hits[c.pts[k].toNat].map fun n:Nat=>(n:Int)).map qencI)):=by
   rw [DJ OA gh1 (row:=QH hits[c.pts[k].toNat]) (row_map hpn),← A4W]; rfl
  rw [AS2 _ _ _ _ hkp hk'] at hin
  have hg:hits.getD c.pts[k].toNat []=hits[c.pts[k].toNat]:=by rw [jZ,jL hpn]; rfl
  rw [hg] at hin
  simp -implicitDefEqProofs only [BC,BP,BA,BR,A8,AY,BB,AO,AQ,AL,BD,AX,AC,AA,AZ,BU,BG,A7,BX,BN,CG,BZ,BO,AB,jE,jD,jF,↓reduceIte,jC,jG,jA,jB,enP,JS,AEH,NH,f2,f3,f9,f11,D7 hk',DZ ag3 hk',AV3,l1,D7 hkp,DZ ag3 hkp,ih,lh]
  refine (Rk.contains_rank G _ _ _ H' (by rw [jI]; exact h64 _ (jO hpn))).use ?_
  simp -implicitDefEqProofs only [BI,A8,AY,BB,AO,AQ,AL,BD,AX,AC,AA,AZ,GU,AB,EP,↓reduceIte,jA,jB]
  cases hq:Rk.hasB (hits[c.pts[k].toNat].map fun n:Nat=>(n:Int)) l[k]
  ·rw [hq,Bool.false_and] at hin
   simp -implicitDefEqProofs only [BC,BA,BJ,A8,CQ,ED,F7,CJ,CZ,AY,BB,AO,AQ,AL,BD,AX,AC,AA,AU,BM,A7,↓reduceIte,jA,jB]
   exact ⟨by rw [hin],hx⟩
  ·rw [hq,qM] at hin
   simp -implicitDefEqProofs only [BA,BR,A8,EH,ER,DI,AY,BB,AO,AQ,AL,BD,AX,AC,AA,AZ,AU,BH,BG,BQ,AB,DK,↓reduceIte,jC,jA,jV,jB,enP,f11,wrap_succ (show k < 9223372036854775807 by omega)]
   exact ⟨n - 1,by omega,k+1,by omega,by trivial,by trivial,by trivial,by trivial,by trivial,trivial,hin⟩
 ·have hk' : ¬ k < l.length:=by simpa using hc
  rw [AW9 _ _ _ _ (by omega)] at hin
  simp -implicitDefEqProofs only [BC,BA,BJ,DW,A8,EG,EY,EZ,CJ,AY,BB,AO,AQ,AL,BD,AX,AC,AA,AU,BM,A7,↓reduceIte,jA,jB]
  exact ⟨by rw [hin],hx⟩
end
end Go.Proofs.YtfpagfhhhlljjaaGreatDoor.Xe
