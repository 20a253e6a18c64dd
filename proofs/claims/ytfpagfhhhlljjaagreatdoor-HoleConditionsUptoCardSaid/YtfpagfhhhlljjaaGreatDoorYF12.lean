/- Part 12 of the proof (H1, H2, H3, X1, X2, X3, X4, X5); no condition. -/
import Derived.Test.YtfpagfhhhlljjaaGreatDoorYF11
set_option linter.unusedVariables false
set_option linter.unusedSimpArgs false
set_option maxRecDepth 8000
namespace Go.Proofs.YtfpagfhhhlljjaaGreatDoor.Bins
open Sm
open Bool renaming not_false→jC
open List renaming length_map→jH,map_cons→jD,map_nil→jE,nil_append→qE,findIdx?_eq_some_iff_getElem→qZ,all_cons→wG,findIdx?_eq_none_iff→wC,append_nil→jF,append_assoc→zD
open Nat renaming le_of_ble_eq_true→jI,reduceEqDiff→jB,zero_add→jG
open Option renaming getD_some→jA
instance:Inhabited Rs:=⟨⟨.nil,[]⟩⟩
theorem ASN (G:Nat→AV)(r:Rng)(b:Nat)(v:Int)(h:Hp)(hv:D5 Tryz.prog h 3 (.ptr b 0 0)=some (.int .i64 v)) :
  PCall (En G) 272 [.agg (encR r),.ptr b 0 0] h (.bool (decide (r.lo≤v) && decide (v≤r.hi))):=by
 refine ACalls.pure0 rfl ?_
 refine acN Tryz.func272 rfl ?_
 show awp _ _ _ _ _ (EJ _ [.tmp 3] _)
 simp -implicitDefEqProofs only[vQ,CO,BD,↓reduceIte,jB,Nat.add_zero,enP,OT,bxR,DF ag3,ADA hv,P7,O5]
 refine IQ (fun ha => ?_) (fun ha => ?_)
 ·simp -implicitDefEqProofs only[vQ,CO,BD,↓reduceIte,jB,enP,NU,bxR,DF ag3,ADA hv,P7,O5,ha]
  exact⟨by simp,_,rfl⟩
 ·simp -implicitDefEqProofs only[vQ,CO,BD,EY,↓reduceIte,jB,ha]
  exact⟨by simp,_,rfl⟩
theorem indexFunc (G:Nat→AV)(xs:List Rng)(m:SM)(fid:FuncId)(caps:List AV)(p:Rng→Bool)(h:Hp)(hl:xs.length≤1099511627776)
  (hf : ∀ r,PCall (En G) fid (.agg (encR r) :: caps) h (.bool (p r))) :
  PCall (En G) 180 [.sl m 2 (xs.map encR),.fn (.func fid) [] caps] h (.int .i64 (match xs.findIdx? p with | some i=>(i:Int) | none => -1)):=by
 refine acN Tryz.func180 rfl ?_
 show awp _ _ _ _ _ (EJ _ [.tmp 4] _)
 simp -implicitDefEqProofs only[vQ,BD,↓reduceIte,jB,enP,L8,jH]
 refine DK (fun n F H => ∃ k,n+k=xs.length∧F 0 = .sl m 2 (xs.map encR)∧F 1 = .fn (.func fid) [] caps∧F 7 = .int .i64 xs.length∧F 8 = .int .i64 (k:Nat)∧H=h∧(xs.take k).all (fun r => !p r)=true) xs.length ⟨0,by simp,rfl,rfl,rfl,rfl,rfl,rfl⟩ ?_
 rintro n F H ⟨k,hk,f0,f1,f7,f8,rfl,hin⟩
 simp -implicitDefEqProofs only[vQ,BD,↓reduceIte,enP,f0,f1,f7,f8,jH]
 refine CU (fun hc => ?_) (fun hc => ?_)
 ·have hc':k < xs.length:=by simpa using hc
  simp -implicitDefEqProofs only[vQ,BD,qE,List.cons_append,↓reduceIte,jB,enP,TF,f0,f1,f7,f8,DL hc',FM AEX NG Y9 hc']
  refine(hf _).use ?_
  simp -implicitDefEqProofs only[vQ,↓reduceIte]
  refine CU (fun hb => ?_) (fun hb => ?_)
  ·simp -implicitDefEqProofs only[vQ,BD,↓reduceIte,jB]
   refine⟨?_,trivial⟩
   rw[qZ.2 ⟨hc',hb,fun j hj=>by
    rw[List.all_eq_true] at hin
    have:=hin xs[j] (by rw[List.mem_take_iff_getElem]; exact⟨j,by omega,rfl⟩)
    simpa using this⟩]
  ·simp -implicitDefEqProofs only[vQ,BD,↓reduceIte,jB,enP,f8,wrap_succ (show k < 9223372036854775807 by omega)]
   refine⟨n - 1,by omega,k+1,by omega,f0,f1,f7,rfl,trivial,?_⟩
   rw[List.take_succ_eq_append_getElem hc',List.all_append,hin]
   simp only[wG,List.all_nil,hb]; rfl
 ·have hc' : ¬ k < xs.length:=by simpa using hc
  simp -implicitDefEqProofs only[vQ,BD,↓reduceIte]
  refine⟨?_,trivial⟩
  rw[List.take_of_length_le (by omega)] at hin
  rw[wC.2 (by simpa using hin)]
theorem AIV (G:Nat→AV)(xs:List Rng)(m:SM)(fid:FuncId)(caps:List AV)(p:Rng→Bool)(h:Hp)(hl:xs.length≤1099511627776)
  (hf : ∀ r,PCall (En G) fid (.agg (encR r) :: caps) h (.bool (p r))) :
  PCall (En G) 271 [.sl m 2 (xs.map encR),.fn (.func fid) [] caps] h (.bool (xs.any p)):=by
 refine acN Tryz.func271 rfl ?_
 show awp _ _ _ _ _ (EJ _ [.tmp 4] _)
 simp -implicitDefEqProofs only[vQ,BD,↓reduceIte,jB,enP]
 refine(indexFunc G xs m fid caps p h hl hf).use ?_
 simp -implicitDefEqProofs only[vQ,BD,↓reduceIte,enP]
 refine⟨?_,trivial⟩
 cases hx:xs.findIdx? p with
 | some i =>
   obtain⟨h1,h2,_⟩:=qZ.1 hx
   have:xs.any p=true:=List.any_eq_true.2 ⟨xs[i],by simp,h2⟩
   simp [this]
 | none =>
   have:xs.any p=false:=by
    rw[wC] at hx
    rw[List.any_eq_false]; intro x hx2; simp [hx x hx2]
   simp [this]
theorem inside_prog (G:Nat→AV)(xs:List Rng)(m:SM)(v:Int)(h:Hp)(hl:xs.length≤1099511627776) :
  PCall (En G) 249 [.sl m 2 (xs.map encR),.int .i64 v] h (.bool (inside xs v)):=by
 refine ACalls.pure0 rfl ?_
 refine acN Tryz.func249 rfl ?_
 show awp _ _ _ _ _ (EJ _ [.tmp 4] _)
 simp -implicitDefEqProofs only[vQ,AQ6,BD,IM,↓reduceIte,jB,enP]
 refine(AIV G xs m 272 _ _ _ hl fun r=>ASN G r h.length v _ (DF ag3)).use ?_
 simp -implicitDefEqProofs only[vQ,BD,↓reduceIte]
 exact⟨rfl,_,rfl⟩
theorem AQ2 (G:Nat→AV)(xs:List Int)(m:SM)(h:Hp)(hl:xs.length≤16777216) :
  ACalls (En G) 157 [.sl m 1 (xs.map qencI)] h (AOZ 1 (xs.map qencI) h):=by
 refine ACalls.of_rep (cok _ _ (by kernel_rfl)) fun⟨g,cargs,ha⟩ => ?_
 refine acN Tryz.func157 rfl ?_
 show awp _ _ _ _ _ (EJ _ [.tmp 2] _)
 simp -implicitDefEqProofs only[vQ,BD,↓reduceIte,jB,enP,A4N]
 refine CU (fun hc => ?_) (fun hc => ?_)
 ·have hm:m = .nil:=by simpa using hc
  subst hm
  simp -implicitDefEqProofs only[vQ,BD,↓reduceIte,decide_true]
  exact .inl ⟨AC2 ha (i:=0) rfl,⟨_,rfl⟩,rfl⟩
 ·simp -implicitDefEqProofs only[vQ,BD,↓reduceIte,jB,enP,AWY]
  rcases Classical.em (xs = []) with hx | hx
  ·subst hx
   simp -implicitDefEqProofs only[vQ,BD,↓reduceIte,AER XE sz3 (.inr rfl)]
   exact .inr (.inl ⟨rfl,rfl,rfl⟩)
  ·have hr:room (([]:List (List AV)).length+(xs.map qencI).length) 8:=IR (by simpa using hl) (by omega)
   have hne:xs.map qencI≠[]:=by simpa using hx
   simp -implicitDefEqProofs only[vQ,BD,qE,↓reduceIte,Q7 XE sz3 ABL AAN (HY h m 1 (xs.map qencI)) hne hr]
   exact .inr (.inr ⟨by simpa using hx,by simp,by simp⟩)
def setAt (b:Bin)(i:Nat):List Rng:=((sets b)[i]?.getD default).l
def ACD (last:List Int)(n:Nat)(v:Int)(i:Nat):Int:=if i+1 < n then last[last.length+1 - n+i]?.getD 0 else v
def AOI (b:Bin)(last:List Int)(v:Int)(k:Nat):Bool:=(List.range k).all fun i=>inside (setAt b i) (ACD last (sets b).length v i)
def hit (b:Bin)(last:List Int)(v:Int):Bool:=decide (H9 b=0) && decide ((sets b).length≤last.length+1) && AOI b last v (sets b).length
theorem ASS (b:Bin)(last:List Int)(v:Int)(k:Nat):AOI b last v (k+1)=(AOI b last v k && inside (setAt b k) (ACD last (sets b).length v k)):=by
 unfold AOI; rw[List.range_succ,List.all_append,wG,List.all_nil,Bool.and_true]
theorem AZM {b:Bin}{last:List Int}{v:Int}{k n:Nat}(hk:k < n)(h:inside (setAt b k) (ACD last (sets b).length v k)=false):AOI b last v n=false:=by
 unfold AOI; rw[List.all_eq_false]; exact⟨k,by simpa using hk,by simp [h]⟩
theorem ANF {b:Bin}(h:H9 b=0):1≤(sets b).length:=by
 unfold H9 at h
 split at h
 ·split at h
  ·cases h
  ·rename_i hr
   unfold sets
   split
   ·simp
   ·rename_i hz
    simp only[JU,Bool.not_eq_true,Bool.or_eq_false_iff] at hr
    have:=hr.1.1.1.2
    have hz':decide ((b.ranges.l.length:Int) > 0)=false:=decide_eq_false (by omega)
    rw[hz'] at this
    simp at this
    rcases hs:b.steps with _ | ⟨x,l⟩
    ·rw[hs] at this; simp at this
    ·simp
 ·cases h
theorem AVQ {xs:List Int}{i:Nat}(h:i < xs.length):(xs.map qencI)[i]? = some [.int .i64 xs[i]]:=by simp [h,qencI]
theorem AO6 (h:Hp)(v:Int):EQ Tryz.prog false h 26 1 [(0,.int .i64 v)]=some (.sl .full 1 [[.int .i64 v]],h):=by kernel_rfl
def vals (last:List Int)(n:Nat)(v:Int):List Int:=last.drop (last.length+1 - n)++[v]
theorem AJO {last:List Int}{n:Nat}{v:Int}(h1:1≤n)(h2:n≤last.length+1):(vals last n v).length=n:=by simp [vals]; omega
theorem AT5 {last:List Int}{n:Nat}{v:Int}{i:Nat}(h1:1≤n)(h2:n≤last.length+1)(hi:i < (vals last n v).length):(vals last n v)[i]=ACD last n v i:=by
 have hl:=AJO (v:=v) h1 h2
 unfold vals ACD at *
 rw[List.getElem_append]
 split
 ·rename_i h
  have h':i < last.length - (last.length+1 - n):=by simpa using h
  rw[if_pos (by omega),List.getElem_drop,List.getElem?_eq_getElem (by omega)]
  rfl
 ·rename_i h
  have h' : ¬ i < last.length - (last.length+1 - n):=by simpa using h
  rw[if_neg (by omega)]
  simp
theorem hit_prog (G:Nat→AV)(hG:KwG G)(b:Bin)(hb:BinOk b)(last:List Int)(m:SM)(v:Int)(h:Hp)(hl:last.length≤8388608) :
  PCall (En G) 248 [.agg (GR b),.sl m 1 (last.map qencI),.int .i64 v] h (.bool (hit b last v)):=by
 refine ACalls.pure0 rfl ?_
 refine acN Tryz.func248 rfl ?_
 show awp _ _ _ _ _ (EJ _ [.tmp 6] _)
 simp -implicitDefEqProofs only[vQ,BD,↓reduceIte,jB,enP,bxB,ldB]
 refine(valid_prog G hG b hb _).use ?_
 simp -implicitDefEqProofs only[vQ,BD,↓reduceIte,enP]
 refine CU (fun hv => ?_) (fun hv => ?_)
 ·simp -implicitDefEqProofs only[vQ,BD,↓reduceIte]
  refine⟨?_,_,rfl⟩
  have:H9 b≠0:=by simpa using hv
  simp [hit,this]
 have hv0:H9 b=0:=by simpa using hv
 have h1:=ANF hv0
 have hnum:=hb.num
 simp -implicitDefEqProofs only[vQ,BD,↓reduceIte,jB,enP,ldB]
 refine(AGB G b _).use ?_
 have hw:IntKind.i64.wrap (((sets b).length:Int) - 1)=(((sets b).length - 1:Nat):Int):=by rw[wrap_i64 (by omega) (by omega)]; omega
 simp -implicitDefEqProofs only[vQ,BD,↓reduceIte,jB,enP,JV,UH,jH,hw]
 refine CU (fun hc => ?_) (fun hc => ?_)
 ·simp -implicitDefEqProofs only[vQ,BD,↓reduceIte]
  refine⟨?_,_,rfl⟩
  have : ¬ (sets b).length≤last.length+1:=by simp at hc; omega
  simp [hit,this]
 have hc':(sets b).length≤last.length+1:=by simp at hc; omega
 have hw2:IntKind.i64.wrap ((last.length:Int) - (((sets b).length - 1:Nat):Int))=((last.length+1 - (sets b).length:Nat):Int):=by rw[wrap_i64 (by omega) (by omega)]; omega
 simp -implicitDefEqProofs only[vQ,Option.map_some,Option.map_none,BD,QB,↓reduceIte,jB,enP,JV,UH,jH,hw,hw2,APZ XE sz3 (h:=h++[.live 4 [GR b]]) (m:=m) (kk := .i64) (xs:=last.map qencI) (l:=last.length+1 - (sets b).length) (by simp; omega),← List.map_drop]
 refine(AQ2 G _ m _ (by simp; omega)).mono fun vv H' hcl => ?_
 have hn:=AJO (v:=v) h1 hc'
 refine AF4 (fun F H=>F 7 = .sl (UT b) 1 ((sets b).map encS)∧∃ o,F 8 = .own o 0 (sets b).length∧H[o]? = some (.live 1 ((vals last (sets b).length v).map qencI))∧∃ x,H=h++x) ?_ ?_
 ·have hv1:([[AV.int .i64 v]]:List (List AV))≠[]:=by simp
  rcases hcl with⟨hx,⟨k0,rfl⟩,rfl⟩ | ⟨hx,rfl,rfl⟩ | ⟨hx,rfl,rfl⟩
  ·have hx':last.drop (last.length+1 - (sets b).length) = []:=by simpa using hx
   have e1:vals last (sets b).length v = [v]:=by unfold vals; rw[hx']; rfl
   rw[e1] at hn
   simp at hn
   simp -implicitDefEqProofs only[vQ,BD,↓reduceIte,jB,enP,AO6,PP XE sz3 ABL AAN (HY (h++[ABlk.live 4 [GR b]]) .full 1 [[AV.int .i64 v]]) hv1 (IR (by simp) (by omega))]
   exact⟨trivial,_,by rw[← hn]; rfl,by rw[e1]; simp [qencI],_,by rw[zD]⟩
  ·have hx':last.drop (last.length+1 - (sets b).length) = []:=by simpa using hx
   have e1:vals last (sets b).length v = [v]:=by unfold vals; rw[hx']; rfl
   rw[e1] at hn
   simp at hn
   simp -implicitDefEqProofs only[vQ,BD,qE,↓reduceIte,jB,enP,AO6,Q7 XE sz3 ABL AAN (HY (h++[ABlk.live 4 [GR b]]) .full 1 [[AV.int .i64 v]]) (xs := []) hv1 (IR (by simp) (by omega))]
   exact⟨trivial,_,by rw[← hn]; rfl,by rw[e1]; simp [qencI],_,by rw[zD]⟩
  ·have hle:(last.drop (last.length+1 - (sets b).length)).length+1≤16777216:=by simp; omega
   simp -implicitDefEqProofs only[vQ,BD,↓reduceIte,jB,enP,AO6,PO XE sz3 ABL AAN (AHB (h:=h++[ABlk.live 4 [GR b]])) (HY ((h++[ABlk.live 4 [GR b]])++[.live 1 ((last.drop (last.length+1 - (sets b).length)).map qencI)]) .full 1 [[AV.int .i64 v]]) hv1 (IR (by simpa using hle) (by omega))]
   refine⟨trivial,((h++[ABlk.live 4 [GR b]])++[ABlk.live 1 ((last.drop (last.length+1 - (sets b).length)).map qencI)]).length,?_,?_,?_⟩
   ·congr 1
    rw[← hn]; simp [vals]; omega
   ·simp [vals,qencI]
   ·refine⟨[.live 4 [GR b],.dead,.live 1 ((last.drop (last.length+1 - (sets b).length)).map qencI++[[AV.int .i64 v]])],?_⟩
    rw[zD,List.set_append_right _ _ (by simp)]
    simp
 rintro F H ⟨f7,o,f8,ho,hx⟩
 simp -implicitDefEqProofs only[vQ,BD,↓reduceIte,enP,JV,f8]
 refine DK (fun n F H' => ∃ k,n+k=(sets b).length∧F 7 = .sl (UT b) 1 ((sets b).map encS)∧F 34 = .own o 0 (sets b).length∧F 35 = .int .i64 (sets b).length∧F 36 = .int .i64 (k:Nat)∧H'=H∧AOI b last v k=true) (sets b).length ⟨0,by simp,by simp -implicitDefEqProofs only[AA,↓reduceIte,jB,f7],by simp -implicitDefEqProofs only[AA,↓reduceIte,jB],by simp -implicitDefEqProofs only[AA,↓reduceIte,jB],by simp -implicitDefEqProofs only[AA,↓reduceIte]; rfl,rfl,rfl⟩ ?_
 rintro n F H' ⟨k,hk,f7,f34,f35,f36,rfl,hin⟩
 simp -implicitDefEqProofs only[vQ,BD,↓reduceIte,enP,f35,f36]
 refine CU (fun hd => ?_) (fun hd => ?_)
 ·have hd':k < (sets b).length:=by simpa using hd
  have hdv:k < (vals last (sets b).length v).length:=by omega
  have e1:((vals last (sets b).length v).map qencI)[k]? = some [.int .i64 (ACD last (sets b).length v k)]:=by rw[AVQ hdv,AT5 h1 hc' hdv]
  have e2:setAt b k=(sets b)[k].l:=by unfold setAt; simp [hd']
  simp -implicitDefEqProofs only[vQ,List.getElem?_cons_zero,BD,↓reduceIte,jB,enP,JJ,AIB,f7,f34,f36,II ho hd',DU ag3 ho e1,DL hd',C9 RF hd',Y8]
  refine(inside_prog G _ _ _ _ (hb.sets _ (List.getElem_mem hd'))).use ?_
  simp -implicitDefEqProofs only[vQ,BD,↓reduceIte]
  refine CU (fun hi => ?_) (fun hi => ?_)
  ·simp -implicitDefEqProofs only[vQ,BD,↓reduceIte]
   refine⟨?_,hx⟩
   have hi':inside (sets b)[k].l (ACD last (sets b).length v k)=false:=by simpa using hi
   unfold hit
   rw[AZM hd' (by rw[e2]; exact hi')]; simp
  ·simp -implicitDefEqProofs only[vQ,BD,↓reduceIte,jB,enP,f36,wrap_succ (show k < 9223372036854775807 by omega)]
   refine⟨n - 1,by omega,k+1,by omega,f7,f34,f35,rfl,trivial,?_⟩
   rw[ASS,hin,e2]; simpa using hi
 ·have hd' : ¬ k < (sets b).length:=by simpa using hd
  simp -implicitDefEqProofs only[vQ,BD,↓reduceIte]
  refine⟨?_,hx⟩
  have:k=(sets b).length:=by omega
  subst this
  unfold hit; rw[hin,hv0]; simp [hc']
end Go.Proofs.YtfpagfhhhlljjaaGreatDoor.Bins
set_option linter.unusedSimpArgs false
set_option maxRecDepth 8000
namespace Go.Proofs.YtfpagfhhhlljjaaGreatDoor.Wd
open Sm Bins Cov Go.RowKit
open Bool renaming not_false→jC
open List renaming map_cons→jD,map_nil→jE,append_nil→jF,nil_append→qE,cons_append→qK
open Nat renaming mod_lt→qQ,reduceAdd→jP,le_of_ble_eq_true→jI,reduceEqDiff→jB
open Option renaming getD_some→jA
def wW (z:Int):Nat:=(z % 65536).toNat
theorem APS (z:Int):wW z < 65536:=by unfold wW; omega
theorem TY {a:Nat}(h:a < 65536):wW (a:Int)=a:=by unfold wW; omega
def AMS (a i:Nat):Nat:=a / 2 ^ i % 2
def L6 (a:Nat):Nat→Nat
 | 0=>0
 | k+1=>L6 a k+AMS a k
def WT (a:Nat):Nat:=L6 a 16
def AJ5 (a:Nat)(n:Int):Nat:=if n < 0∨n≥16 then 0 else a * 2 ^ n.toNat % 65536
def AJ4 (a:Nat)(n:Int):Nat:=if n < 0∨n≥16 then 0 else a / 2 ^ n.toNat
theorem A0S (a i:Nat):AMS a i < 2:=qQ _ (by omega)
theorem QN (a:Nat) : ∀ k,L6 a k≤k
 | 0=>Nat.le_refl 0
 | k+1=>by have:=QN a k; have:=A0S a k; unfold L6; omega
theorem RZ (a i:Nat)(hi:i < 8):AMS (a % 256) i=AMS a i:=by
 unfold AMS
 have:i=0∨i=1∨i=2∨i=3∨i=4∨i=5∨i=6∨i=7:=by omega
 rcases this with rfl | rfl | rfl | rfl | rfl | rfl | rfl | rfl <;> simp only[Nat.reducePow] <;> omega
theorem AW5 (a i:Nat):AMS (a / 256) i=AMS a (8+i):=by
 unfold AMS
 rw[Nat.div_div_eq_div_mul,Nat.pow_add]
theorem AU4 (a:Nat):WT a=L6 (a / 256) 8+L6 (a % 256) 8:=by
 unfold WT
 simp only[L6,AW5,RZ a 0 (by omega),RZ a 1 (by omega),RZ a 2 (by omega),RZ a 3 (by omega),RZ a 4 (by omega),RZ a 5 (by omega),RZ a 6 (by omega),RZ a 7 (by omega),jP,Nat.add_zero]
 omega
theorem AT4 {n:Int}(h0:0≤n)(h1:n < 65536):IntKind.u16.wrap n=n:=by
 have e:IntKind.u16.wrap n=n % 65536:=by simp [IntKind.wrap,IntKind.bits,IntKind.signed]
 rw[e]; omega
theorem SX (n:Int):IntKind.u16.wrap n=n % 65536:=by simp [IntKind.wrap,IntKind.bits,IntKind.signed]
theorem A01 (z:Int):J7 Tryz.prog 3 .and (.int .i64 z) (.int .i64 65535)=some (.int .i64 ((wW z:Nat):Int)):=by
 have e:J7 Tryz.prog 3 .and (.int .i64 z) (.int .i64 65535)=some (.int .i64 (IntKind.i64.wrap ((BitVec.ofInt 64 z &&& BitVec.ofInt 64 65535).toNat:Int))):=rfl
 rw[e,BitVec.toNat_and]
 have h1:(BitVec.ofInt 64 65535).toNat=2 ^ 16 - 1:=by decide
 rw[h1,Nat.and_two_pow_sub_one_eq_mod,BitVec.toNat_ofInt]
 have h2:((z % ((2 ^ 64:Nat):Int)).toNat % 2 ^ 16)=wW z:=by
  unfold wW
  simp only[Nat.reducePow]
  omega
 rw[h2,NE (by have:=APS z; omega)]
theorem ATJ (a:Nat)(h:a < 65536):(BitVec.ofInt 64 (a:Int)).toNat=a:=by
 rw[BitVec.ofInt_natCast,BitVec.toNat_ofNat]
 exact Nat.mod_eq_of_lt (by omega)
theorem A54 (a b:Nat)(ha:a < 65536)(hb:b < 65536):J7 Tryz.prog 3 .and (.int .i64 (a:Nat)) (.int .i64 (b:Nat))=some (.int .i64 ((a &&& b:Nat):Int)):=by
 have e:J7 Tryz.prog 3 .and (.int .i64 (a:Nat)) (.int .i64 (b:Nat))=some (.int .i64 (IntKind.i64.wrap ((BitVec.ofInt 64 (a:Int) &&& BitVec.ofInt 64 (b:Int)).toNat:Int))):=rfl
 have hx:a &&& b < 2 ^ 16:=Nat.and_lt_two_pow _ (by omega)
 rw[e,BitVec.toNat_and,ATJ a ha,ATJ b hb,NE (by omega)]
theorem A6U (a b:Nat)(ha:a < 65536)(hb:b < 65536):J7 Tryz.prog 3 .or (.int .i64 (a:Nat)) (.int .i64 (b:Nat))=some (.int .i64 ((a ||| b:Nat):Int)):=by
 have e:J7 Tryz.prog 3 .or (.int .i64 (a:Nat)) (.int .i64 (b:Nat))=some (.int .i64 (IntKind.i64.wrap ((BitVec.ofInt 64 (a:Int) ||| BitVec.ofInt 64 (b:Int)).toNat:Int))):=rfl
 have hx:a ||| b < 2 ^ 16:=Nat.or_lt_two_pow (by omega) (by omega)
 rw[e,BitVec.toNat_or,ATJ a ha,ATJ b hb,NE (by omega)]
theorem A3X (a b:Nat)(ha:a < 65536)(hb:b < 65536):J7 Tryz.prog 3 .xor (.int .i64 (a:Nat)) (.int .i64 (b:Nat))=some (.int .i64 ((a ^^^ b:Nat):Int)):=by
 have e:J7 Tryz.prog 3 .xor (.int .i64 (a:Nat)) (.int .i64 (b:Nat))=some (.int .i64 (IntKind.i64.wrap ((BitVec.ofInt 64 (a:Int) ^^^ BitVec.ofInt 64 (b:Int)).toNat:Int))):=rfl
 have hx:a ^^^ b < 2 ^ 16:=Nat.xor_lt_two_pow (by omega) (by omega)
 rw[e,BitVec.toNat_xor,ATJ a ha,ATJ b hb,NE (by omega)]
theorem AAL (E:Env)(fid:FuncId)(a:AV)(l args caps:List AV)(h:Hp)(K:AV→Hp→Prop):AMN E (.fn (.func fid) (a :: l) caps) args h K=ACalls E fid ((a :: l)++(args++caps)) h K:=rfl
theorem PK (G:Nat→AV)(z:Int)(h:Hp):PCall (En G) 259 [.int .i64 z] h (.int .u16 ((wW z:Nat):Int)):=by
 have:=APS z
 refine acN Tryz.func259 rfl ?_
 show awp _ _ _ _ _ (EJ _ [.tmp 2] _)
 simp -implicitDefEqProofs only[vQ,BD,ZM,↓reduceIte,jB,enP,AZ4,A01,AT4 (n:=((wW z:Nat):Int)) (by omega) (by omega)]
 exact⟨trivial,trivial⟩
theorem TZ (G:Nat→AV)(a:Nat)(ha:a < 65536)(h:Hp):PCall (En G) 260 [.int .u16 (a:Nat)] h (.int .i64 (a:Nat)):=by
 refine acN Tryz.func260 rfl ?_
 show awp _ _ _ _ _ (EJ _ [.tmp 2] _)
 simp -implicitDefEqProofs only[vQ,BD,ZM,↓reduceIte,jB,enP,AZ5,NE (n:=a) (by omega)]
 exact⟨trivial,trivial⟩
theorem ARC (G:Nat→AV)(z:Int)(h:Hp):PCall (En G) 244 [.int .i64 z] h (.int .i64 ((wW z:Nat):Int)):=by
 refine acN Tryz.func244 rfl ?_
 show awp _ _ _ _ _ (EJ _ [.tmp 2] _)
 simp -implicitDefEqProofs only[vQ,BD,↓reduceIte,jB,enP]
 refine(PK G z h).use ?_
 simp -implicitDefEqProofs only[vQ,BD,↓reduceIte]
 refine(TZ G _ (APS z) h).use ?_
 simp -implicitDefEqProofs only[vQ,BD,↓reduceIte]
 exact⟨trivial,trivial⟩
theorem ACG (G:Nat→AV)(k:FuncId)(a b r:Nat)(hb:b < 65536)(hr:r < 65536)(h:Hp)(hc:PCall (En G) k [.int .u16 (a:Nat),.int .u16 (b:Nat)] h (.int .u16 (r:Nat))) :
  PCall (En G) 261 [.fn (.func k) [.int .u16 (a:Nat)] [],.int .i64 (b:Nat)] h (.int .i64 (r:Nat)):=by
 have ho:=PK G (b:Nat) h
 rw[TY hb] at ho
 refine acN Tryz.func261 rfl ?_
 show awp _ _ _ _ _ (EJ _ [.tmp 4] _)
 simp -implicitDefEqProofs only[vQ,BD,↓reduceIte,jB,enP]
 refine ho.use ?_
 simp -implicitDefEqProofs only[vQ,BD,qE,qK,↓reduceIte,jB,AAL]
 refine hc.use ?_
 simp -implicitDefEqProofs only[vQ,BD,↓reduceIte]
 refine(TZ G r hr h).use ?_
 simp -implicitDefEqProofs only[vQ,BD,↓reduceIte]
 exact⟨trivial,trivial⟩
theorem AKW (G:Nat→AV)(k:FuncId)(a r:Nat)(hr:r < 65536)(h:Hp)(hc:PCall (En G) k [.int .u16 (a:Nat)] h (.int .u16 (r:Nat))) :
  PCall (En G) 275 [.fn (.func k) [.int .u16 (a:Nat)] []] h (.int .i64 (r:Nat)):=by
 refine acN Tryz.func275 rfl ?_
 show awp _ _ _ _ _ (EJ _ [.tmp 2] _)
 simp -implicitDefEqProofs only[vQ,BD,↓reduceIte,jB,enP,AAL]
 refine hc.use ?_
 simp -implicitDefEqProofs only[vQ,BD,↓reduceIte]
 refine(TZ G r hr h).use ?_
 simp -implicitDefEqProofs only[vQ,BD,↓reduceIte]
 exact⟨trivial,trivial⟩
theorem A13 (G:Nat→AV)(a b:Nat)(ha:a < 65536)(hb:b < 65536)(h:Hp):PCall (En G) 245 [.int .i64 (a:Nat),.int .i64 (b:Nat)] h (.int .i64 (((a+b) % 65536:Nat):Int)):=by
 have hc:PCall (En G) 262 [.int .u16 (a:Nat),.int .u16 (b:Nat)] h (.int .u16 (((a+b) % 65536:Nat):Int)):=by
  have e:IntKind.u16.wrap ((a:Int)+(b:Int))=(((a+b) % 65536:Nat):Int):=by rw[SX]; omega
  refine acN Tryz.func262 rfl ?_
  show awp _ _ _ _ _ (EJ _ [.tmp 4] _)
  simp -implicitDefEqProofs only[vQ,BD,↓reduceIte,jB,enP,e]
  exact⟨trivial,trivial⟩
 have ho:=PK G (a:Nat) h
 rw[TY ha] at ho
 refine acN Tryz.func245 rfl ?_
 show awp _ _ _ _ _ (EJ _ [.tmp 4] _)
 simp -implicitDefEqProofs only[vQ,BD,↓reduceIte,jB,enP]
 refine ho.use ?_
 simp -implicitDefEqProofs only[vQ,BD,IM,↓reduceIte,jB]
 refine(ACG G 262 a b _ hb (qQ _ (by omega)) h hc).use ?_
 simp -implicitDefEqProofs only[vQ,BD,↓reduceIte]
 exact⟨trivial,trivial⟩
theorem A34 (G:Nat→AV)(a b:Nat)(ha:a < 65536)(hb:b < 65536)(h:Hp):PCall (En G) 267 [.int .i64 (a:Nat),.int .i64 (b:Nat)] h (.int .i64 (((a+65536 - b) % 65536:Nat):Int)):=by
 have hc:PCall (En G) 279 [.int .u16 (a:Nat),.int .u16 (b:Nat)] h (.int .u16 (((a+65536 - b) % 65536:Nat):Int)):=by
  have e:IntKind.u16.wrap ((a:Int) - (b:Int))=(((a+65536 - b) % 65536:Nat):Int):=by rw[SX]; omega
  refine acN Tryz.func279 rfl ?_
  show awp _ _ _ _ _ (EJ _ [.tmp 4] _)
  simp -implicitDefEqProofs only[vQ,BD,↓reduceIte,jB,enP,e]
  exact⟨trivial,trivial⟩
 have ho:=PK G (a:Nat) h
 rw[TY ha] at ho
 refine acN Tryz.func267 rfl ?_
 show awp _ _ _ _ _ (EJ _ [.tmp 4] _)
 simp -implicitDefEqProofs only[vQ,BD,↓reduceIte,jB,enP]
 refine ho.use ?_
 simp -implicitDefEqProofs only[vQ,BD,IM,↓reduceIte,jB]
 refine(ACG G 279 a b _ hb (qQ _ (by omega)) h hc).use ?_
 simp -implicitDefEqProofs only[vQ,BD,↓reduceIte]
 exact⟨trivial,trivial⟩
theorem A4Q (G:Nat→AV)(a b:Nat)(ha:a < 65536)(hb:b < 65536)(h:Hp):PCall (En G) 268 [.int .i64 (a:Nat),.int .i64 (b:Nat)] h (.int .i64 ((a * b % 65536:Nat):Int)):=by
 have hc:PCall (En G) 280 [.int .u16 (a:Nat),.int .u16 (b:Nat)] h (.int .u16 ((a * b % 65536:Nat):Int)):=by
  have e:IntKind.u16.wrap ((a:Int) * (b:Int))=((a * b % 65536:Nat):Int):=by rw[SX]; rw[← Int.natCast_mul]; rfl
  refine acN Tryz.func280 rfl ?_
  show awp _ _ _ _ _ (EJ _ [.tmp 4] _)
  simp -implicitDefEqProofs only[vQ,BD,SA,↓reduceIte,jB,enP,e]
  exact⟨trivial,trivial⟩
 have ho:=PK G (a:Nat) h
 rw[TY ha] at ho
 refine acN Tryz.func268 rfl ?_
 show awp _ _ _ _ _ (EJ _ [.tmp 4] _)
 simp -implicitDefEqProofs only[vQ,BD,↓reduceIte,jB,enP]
 refine ho.use ?_
 simp -implicitDefEqProofs only[vQ,BD,IM,↓reduceIte,jB]
 refine(ACG G 280 a b _ hb (qQ _ (by omega)) h hc).use ?_
 simp -implicitDefEqProofs only[vQ,BD,↓reduceIte]
 exact⟨trivial,trivial⟩
theorem A44 (G:Nat→AV)(a:Nat)(ha:a < 65536)(h:Hp):PCall (En G) 264 [.int .i64 (a:Nat)] h (.int .i64 ((65535 - a:Nat):Int)):=by
 have hu:aUn .xor (.int .u16 (a:Nat))=some (.int .u16 ((65535 - a:Nat):Int)):=by
  have e:aUn .xor (.int .u16 (a:Nat))=some (.int .u16 (IntKind.u16.wrap ((BitVec.ofInt 16 65535 ^^^ BitVec.ofInt 16 (a:Int)).toNat:Int))):=rfl
  have h1:BitVec.ofInt 16 65535=BitVec.allOnes 16:=by decide
  have h2:(BitVec.ofInt 16 (a:Int)).toNat=a:=by
   rw[BitVec.ofInt_natCast,BitVec.toNat_ofNat]
   exact Nat.mod_eq_of_lt (by omega)
  rw[e,h1,BitVec.allOnes_xor,BitVec.toNat_not,h2,AT4 (by omega) (by simp only[Nat.reducePow]; omega)]
 have hc:PCall (En G) 276 [.int .u16 (a:Nat)] h (.int .u16 ((65535 - a:Nat):Int)):=by
  refine acN Tryz.func276 rfl ?_
  show awp _ _ _ _ _ (EJ _ [.tmp 2] _)
  simp -implicitDefEqProofs only[vQ,BD,↓reduceIte,jB,enP,hu]
  exact⟨trivial,trivial⟩
 have ho:=PK G (a:Nat) h
 rw[TY ha] at ho
 refine acN Tryz.func264 rfl ?_
 show awp _ _ _ _ _ (EJ _ [.tmp 2] _)
 simp -implicitDefEqProofs only[vQ,BD,↓reduceIte,jB,enP]
 refine ho.use ?_
 simp -implicitDefEqProofs only[vQ,BD,IM,↓reduceIte]
 refine(AKW G 276 a _ (by omega) h hc).use ?_
 simp -implicitDefEqProofs only[vQ,BD,↓reduceIte]
 exact⟨trivial,trivial⟩
theorem A4P (G:Nat→AV)(a:Nat)(ha:a < 65536)(h:Hp):PCall (En G) 265 [.int .i64 (a:Nat)] h (.int .i64 (((65536 - a) % 65536:Nat):Int)):=by
 have hc:PCall (En G) 277 [.int .u16 (a:Nat)] h (.int .u16 (((65536 - a) % 65536:Nat):Int)):=by
  have e:IntKind.u16.wrap (0 - (a:Int))=(((65536 - a) % 65536:Nat):Int):=by rw[SX]; omega
  refine acN Tryz.func277 rfl ?_
  show awp _ _ _ _ _ (EJ _ [.tmp 2] _)
  simp -implicitDefEqProofs only[vQ,BD,A2A,↓reduceIte,jB,enP,e]
  exact⟨trivial,trivial⟩
 have ho:=PK G (a:Nat) h
 rw[TY ha] at ho
 refine acN Tryz.func265 rfl ?_
 show awp _ _ _ _ _ (EJ _ [.tmp 2] _)
 simp -implicitDefEqProofs only[vQ,BD,↓reduceIte,jB,enP]
 refine ho.use ?_
 simp -implicitDefEqProofs only[vQ,BD,IM,↓reduceIte]
 refine(AKW G 277 a _ (qQ _ (by omega)) h hc).use ?_
 simp -implicitDefEqProofs only[vQ,BD,↓reduceIte]
 exact⟨trivial,trivial⟩
theorem ACJ (G:Nat→AV)(k:FuncId)(a r:Nat)(n:Int)(hr:r < 65536)(h:Hp)(hc : ¬ (n < 0∨n≥16)→PCall (En G) k [.int .u16 (a:Nat),.int .i64 n] h (.int .u16 (r:Nat)))(h0:n < 0∨n≥16→r=0) :
  PCall (En G) 281 [.fn (.func k) [.int .u16 (a:Nat)] [],.int .i64 n] h (.int .i64 (r:Nat)):=by
 refine acN Tryz.func281 rfl ?_
 show awp _ _ _ _ _ (EJ _ [.tmp 4] _)
 simp -implicitDefEqProofs only[vQ,CO,BD,↓reduceIte,jB,enP]
 cases h1:decide (n < 0)
 ·have h1' : ¬ n < 0:=by simpa using h1
  cases h2:decide (n≥16)
  ·have h2' : ¬ n≥16:=by simpa using h2
   simp -implicitDefEqProofs only[vQ,CO,BD,qE,qK,↓reduceIte,jB,enP,h2,AAL]
   refine(hc (by omega)).use ?_
   simp -implicitDefEqProofs only[vQ,BD,↓reduceIte]
   refine(TZ G r hr h).use ?_
   simp -implicitDefEqProofs only[vQ,BD,↓reduceIte]
   exact⟨trivial,trivial⟩
  ·have h2':n≥16:=by simpa using h2
   simp -implicitDefEqProofs only[vQ,CO,BD,↓reduceIte,jB,enP,h2]
   exact⟨by rw[h0 (.inr h2')]; rfl,trivial⟩
 ·have h1':n < 0:=by simpa using h1
  simp -implicitDefEqProofs only[vQ,CO,BD,EY,↓reduceIte,jB]
  exact⟨by rw[h0 (.inl h1')]; rfl,trivial⟩
theorem AP1 {a:Nat}{n:Int}:AJ5 a n < 65536:=by
 unfold AJ5
 split
 ·omega
 ·exact qQ _ (by omega)
theorem AP0 {a:Nat}{n:Int}(ha:a < 65536):AJ4 a n < 65536:=by
 unfold AJ4
 split
 ·omega
 ·exact Nat.lt_of_le_of_lt (Nat.div_le_self _ _) ha
theorem A4G (G:Nat→AV)(a:Nat)(n:Int)(ha:a < 65536)(h:Hp):PCall (En G) 269 [.int .i64 (a:Nat),.int .i64 n] h (.int .i64 (AJ5 a n:Nat)):=by
 have hc : ¬ (n < 0∨n≥16)→PCall (En G) 282 [.int .u16 (a:Nat),.int .i64 n] h (.int .u16 (AJ5 a n:Nat)):=fun hn=>by
  have hb:J7 Tryz.prog 247 .shl (.int .u16 (a:Nat)) (.int .i64 n)=some (.int .u16 (AJ5 a n:Nat)):=by
   have e:J7 Tryz.prog 247 .shl (.int .u16 (a:Nat)) (.int .i64 n)=if n < 0 then none else some (.int .u16 (IntKind.u16.wrap ((a:Int) * 2 ^ (min n.toNat 16)))):=rfl
   have h1:min n.toNat 16=n.toNat:=by omega
   rw[e,if_neg (by omega),h1,SX]
   unfold AJ5
   rw[if_neg hn,Int.natCast_emod,Int.natCast_mul,Int.natCast_pow]
   rfl
  refine acN Tryz.func282 rfl ?_
  show awp _ _ _ _ _ (EJ _ [.tmp 4] _)
  simp -implicitDefEqProofs only[vQ,BD,↓reduceIte,jB,enP,hb]
  exact⟨trivial,trivial⟩
 have ho:=PK G (a:Nat) h
 rw[TY ha] at ho
 refine acN Tryz.func269 rfl ?_
 show awp _ _ _ _ _ (EJ _ [.tmp 4] _)
 simp -implicitDefEqProofs only[vQ,BD,↓reduceIte,jB,enP]
 refine ho.use ?_
 simp -implicitDefEqProofs only[vQ,BD,IM,↓reduceIte,jB]
 refine(ACJ G 282 a _ n AP1 h hc (fun hh=>by unfold AJ5; rw[if_pos hh])).use ?_
 simp -implicitDefEqProofs only[vQ,BD,↓reduceIte]
 exact⟨trivial,trivial⟩
theorem A4F (G:Nat→AV)(a:Nat)(n:Int)(ha:a < 65536)(h:Hp):PCall (En G) 270 [.int .i64 (a:Nat),.int .i64 n] h (.int .i64 (AJ4 a n:Nat)):=by
 have hc : ¬ (n < 0∨n≥16)→PCall (En G) 283 [.int .u16 (a:Nat),.int .i64 n] h (.int .u16 (AJ4 a n:Nat)):=fun hn=>by
  have hb:J7 Tryz.prog 247 .shr (.int .u16 (a:Nat)) (.int .i64 n)=some (.int .u16 (AJ4 a n:Nat)):=by
   have e:J7 Tryz.prog 247 .shr (.int .u16 (a:Nat)) (.int .i64 n)=if n < 0 then none else some (.int .u16 ((a:Int).fdiv (2 ^ (min n.toNat 16)))):=rfl
   have h1:min n.toNat 16=n.toNat:=by omega
   rw[e,if_neg (by omega),h1]
   unfold AJ4
   rw[if_neg hn,Int.fdiv_eq_ediv_of_nonneg _ (by exact Int.le_of_lt (Int.pow_pos (by decide))),Int.natCast_ediv,Int.natCast_pow]
   rfl
  refine acN Tryz.func283 rfl ?_
  show awp _ _ _ _ _ (EJ _ [.tmp 4] _)
  simp -implicitDefEqProofs only[vQ,BD,↓reduceIte,jB,enP,hb]
  exact⟨trivial,trivial⟩
 have ho:=PK G (a:Nat) h
 rw[TY ha] at ho
 refine acN Tryz.func270 rfl ?_
 show awp _ _ _ _ _ (EJ _ [.tmp 4] _)
 simp -implicitDefEqProofs only[vQ,BD,↓reduceIte,jB,enP]
 refine ho.use ?_
 simp -implicitDefEqProofs only[vQ,BD,IM,↓reduceIte,jB]
 refine(ACJ G 283 a _ n (AP0 ha) h hc (fun hh=>by unfold AJ4; rw[if_pos hh])).use ?_
 simp -implicitDefEqProofs only[vQ,BD,↓reduceIte]
 exact⟨trivial,trivial⟩
def APX (fn:Func):ByteArray:=match fn.body with
 | some (.seq _ (.seq (.region _ ops _) _))=>match ops[2]? with
   | some o=>match o.op with
     | .index _ (.const (.string s)) _=>s
     | _=>⟨#[]⟩
   | none=>⟨#[]⟩
 | _=>⟨#[]⟩
theorem AYA:(List.range 256).all (fun y=>(APX Tryz.f278)[y]? == some (UInt8.ofNat (L6 y 8)))=true:=by kernel_rfl
theorem AUA {y:Nat}(hy:y < 256)(h:Hp):ofO h (NW Tryz.prog 9 (.str (APX Tryz.f278)) (.int .u16 (y:Nat)))=some (.int .u8 (L6 y 8:Nat),h):=by
 have h1:=List.all_eq_true.1 AYA y (by simpa using hy)
 have h2:(APX Tryz.f278)[y]? = some (UInt8.ofNat (L6 y 8)):=by simpa using h1
 have hle:=QN y 8
 have hu:Tryz.prog.underlying 9=some .string:=by kernel_rfl
 have h3:NW Tryz.prog 9 (.str (APX Tryz.f278)) (.int .u16 (y:Nat))=some (.int .u8 (L6 y 8:Nat)):=by
  unfold NW
  simp only[hu,Int.toNat_natCast,h2]
  rw[if_pos (by omega)]
  simp
  omega
 rw[h3]; rfl
set_option maxHeartbeats 1000000 in
theorem AR6 (G:Nat→AV)(a:Nat)(ha:a < 65536)(h:Hp):PCall (En G) 266 [.int .i64 (a:Nat)] h (.int .i64 (WT a:Nat)):=by
 have hs:J7 Tryz.prog 246 .shr (.int .u16 (a:Nat)) (.int .u64 8)=some (.int .u16 ((a / 256:Nat):Int)):=by
  have e:J7 Tryz.prog 246 .shr (.int .u16 (a:Nat)) (.int .u64 8)=some (.int .u16 ((a:Int).fdiv (2 ^ 8))):=rfl
  rw[e,Int.fdiv_eq_ediv_of_nonneg _ (by decide)]
  rfl
 have hl:J7 Tryz.prog 246 .and (.int .u16 (a:Nat)) (.int .u16 255)=some (.int .u16 ((a % 256:Nat):Int)):=by
  have e:J7 Tryz.prog 246 .and (.int .u16 (a:Nat)) (.int .u16 255)=some (.int .u16 (IntKind.u16.wrap ((BitVec.ofInt 16 (a:Int) &&& BitVec.ofInt 16 255).toNat:Int))):=rfl
  have h1:(BitVec.ofInt 16 255).toNat=2 ^ 8 - 1:=by decide
  have h2:(BitVec.ofInt 16 (a:Int)).toNat=a:=by
   rw[BitVec.ofInt_natCast,BitVec.toNat_ofNat]
   exact Nat.mod_eq_of_lt (by omega)
  rw[e,BitVec.toNat_and,h1,Nat.and_two_pow_sub_one_eq_mod,h2,AT4 (by omega) (by simp only[Nat.reducePow]; omega)]
 have l1:=QN (a / 256) 8
 have l2:=QN (a % 256) 8
 have hadd:J7 Tryz.prog 5 .add (.int .u8 (L6 (a / 256) 8:Nat)) (.int .u8 (L6 (a % 256) 8:Nat))=some (.int .u8 (WT a:Nat)):=by
  have e:J7 Tryz.prog 5 .add (.int .u8 (L6 (a / 256) 8:Nat)) (.int .u8 (L6 (a % 256) 8:Nat))=some (.int .u8 (IntKind.u8.wrap ((L6 (a / 256) 8:Int)+(L6 (a % 256) 8:Int)))):=rfl
  have e2 : ∀ n:Int,IntKind.u8.wrap n=n % 256:=fun n=>by simp [IntKind.wrap,IntKind.bits,IntKind.signed]
  have e3:=AU4 a
  rw[e,e2]
  congr 2
  omega
 have h64:IntKind.i64.wrap ((WT a:Nat):Int)=((WT a:Nat):Int):=NE (by have:=QN a 16; unfold WT; omega)
 have hc:PCall (En G) 278 [.int .u16 (a:Nat)] h (.int .i64 (WT a:Nat)):=by
  refine acN Tryz.func278 rfl ?_
  show awp _ _ _ _ _ (EJ _ [.tmp 2] _)
  simp -implicitDefEqProofs only[vQ,BD,enP]
  refine ET (by kernel_rfl) ?_
  simp -implicitDefEqProofs only[vQ,AHR,OD,↓reduceIte,jB,jP,enP,hs,hl]
  refine MI (v := .int .u8 (L6 (a / 256) 8:Nat)) (h:=h) (AUA (by omega) h) ?_
  simp -implicitDefEqProofs only[vQ,AHR,OD,↓reduceIte,jB,jP,enP,hs,hl]
  refine MI (v := .int .u8 (L6 (a % 256) 8:Nat)) (h:=h) (AUA (by omega) h) ?_
  simp -implicitDefEqProofs only[vQ,AT1,ZM,↓reduceIte,jB,jP,enP,AWI,hadd,h64]
  exact⟨trivial,trivial⟩
 have ho:=PK G (a:Nat) h
 rw[TY ha] at ho
 refine acN Tryz.func266 rfl ?_
 show awp _ _ _ _ _ (EJ _ [.tmp 2] _)
 simp -implicitDefEqProofs only[vQ,BD,↓reduceIte,jB,enP]
 refine ho.use ?_
 simp -implicitDefEqProofs only[vQ,BD,↓reduceIte]
 refine hc.use ?_
 simp -implicitDefEqProofs only[vQ,BD,↓reduceIte]
 exact⟨trivial,trivial⟩
end Go.Proofs.YtfpagfhhhlljjaaGreatDoor.Wd
set_option linter.unusedSimpArgs false
set_option maxRecDepth 8000
namespace Go.Proofs.YtfpagfhhhlljjaaGreatDoor.Xe
open Sm Bins Cov Wd Go.RowKit
open Bool renaming eq_iff_iff→qU,not_false→jC,not_true→jV
open Int renaming reduceBEq→qH
open List renaming map_cons→jD,map_nil→jE,append_nil→jF
open Nat renaming mod_lt→qQ,le_of_ble_eq_true→jI,reduceEqDiff→jB
open Option renaming getD_some→jA
def tr (b:Bool):Nat:=if b then 1 else 0
def sgW (op:Int)(a:Nat):Nat:=if op=4 then tr (a == 0) else if op=5 then 65535 - a else if op=6 then (65536 - a) % 65536 else WT a
def dbW (op:Int)(a b:Nat):Nat :=
 if op=7 then (a+b) % 65536 else if op=8 then (a+65536 - b) % 65536 else if op=9 then a * b % 65536 else if op=10 then a &&& b else if op=11 then a ||| b else if op=12 then a ^^^ b
 else if op=13 then AJ5 a (b:Nat) else if op=14 then AJ4 a (b:Nat) else if op=15 then tr (a == b) else if op=16 then tr (!(a == b)) else if op=17 then tr (decide (a < b)) else if op=18 then tr (decide (a≤b))
 else if op=19 then tr (!(a == 0) && !(b == 0)) else if op=20 then tr (!(a == 0) || !(b == 0)) else tr ((a == 0) || !(b == 0))
theorem YH (b:Bool):tr b < 65536:=by cases b <;> decide
theorem A2M {op:Int}{a:Nat}(ha:a < 65536):sgW op a < 65536:=by
 unfold sgW
 by_cases h4:op=4
 ·rw[if_pos h4]; exact YH _
 by_cases h5:op=5
 ·rw[if_neg h4,if_pos h5]; omega
 by_cases h6:op=6
 ·rw[if_neg h4,if_neg h5,if_pos h6]; exact qQ _ (by omega)
 ·rw[if_neg h4,if_neg h5,if_neg h6]
  have:=QN a 16
  unfold WT; omega
theorem A3F {op:Int}{a b:Nat}(ha:a < 65536)(hb:b < 65536):dbW op a b < 65536:=by
 unfold dbW
 by_cases h7:op=7
 ·rw[if_pos h7]; exact qQ _ (by omega)
 by_cases h8:op=8
 ·rw[if_neg h7,if_pos h8]; exact qQ _ (by omega)
 by_cases h9:op=9
 ·rw[if_neg h7,if_neg h8,if_pos h9]; exact qQ _ (by omega)
 by_cases h10:op=10
 ·rw[if_neg h7,if_neg h8,if_neg h9,if_pos h10]; exact Nat.lt_of_le_of_lt Nat.and_le_left ha
 by_cases h11:op=11
 ·rw[if_neg h7,if_neg h8,if_neg h9,if_neg h10,if_pos h11]; exact Nat.or_lt_two_pow (n:=16) (by omega) (by omega)
 by_cases h12:op=12
 ·rw[if_neg h7,if_neg h8,if_neg h9,if_neg h10,if_neg h11,if_pos h12]; exact Nat.xor_lt_two_pow (n:=16) (by omega) (by omega)
 by_cases h13:op=13
 ·rw[if_neg h7,if_neg h8,if_neg h9,if_neg h10,if_neg h11,if_neg h12,if_pos h13]; exact AP1
 by_cases h14:op=14
 ·rw[if_neg h7,if_neg h8,if_neg h9,if_neg h10,if_neg h11,if_neg h12,if_neg h13,if_pos h14]; exact AP0 ha
 by_cases h15:op=15
 ·rw[if_neg h7,if_neg h8,if_neg h9,if_neg h10,if_neg h11,if_neg h12,if_neg h13,if_neg h14,if_pos h15]; exact YH _
 by_cases h16:op=16
 ·rw[if_neg h7,if_neg h8,if_neg h9,if_neg h10,if_neg h11,if_neg h12,if_neg h13,if_neg h14,if_neg h15,if_pos h16]; exact YH _
 by_cases h17:op=17
 ·rw[if_neg h7,if_neg h8,if_neg h9,if_neg h10,if_neg h11,if_neg h12,if_neg h13,if_neg h14,if_neg h15,if_neg h16,if_pos h17]; exact YH _
 by_cases h18:op=18
 ·rw[if_neg h7,if_neg h8,if_neg h9,if_neg h10,if_neg h11,if_neg h12,if_neg h13,if_neg h14,if_neg h15,if_neg h16,if_neg h17,if_pos h18]; exact YH _
 by_cases h19:op=19
 ·rw[if_neg h7,if_neg h8,if_neg h9,if_neg h10,if_neg h11,if_neg h12,if_neg h13,if_neg h14,if_neg h15,if_neg h16,if_neg h17,if_neg h18,if_pos h19]; exact YH _
 by_cases h20:op=20
 ·rw[if_neg h7,if_neg h8,if_neg h9,if_neg h10,if_neg h11,if_neg h12,if_neg h13,if_neg h14,if_neg h15,if_neg h16,if_neg h17,if_neg h18,if_neg h19,if_pos h20]; exact YH _
 ·rw[if_neg h7,if_neg h8,if_neg h9,if_neg h10,if_neg h11,if_neg h12,if_neg h13,if_neg h14,if_neg h15,if_neg h16,if_neg h17,if_neg h18,if_neg h19,if_neg h20]; exact YH _
theorem eqc (a b:Nat):((a:Int) == (b:Int))=(a == b):=by
 rw[qU]; simp only[beq_iff_eq]; omega
theorem eqz (a:Nat):((a:Int) == 0)=(a == 0):=eqc a 0
theorem nec (a b:Nat):((a:Int) != (b:Int)) = !(a == b):=congrArg not (eqc a b)
theorem nez (a:Nat):((a:Int) != 0) = !(a == 0):=nec a 0
theorem ltc (a b:Nat):decide ((a:Int) < (b:Int))=decide (a < b):=by
 rw[qU]; simp only[decide_eq_true_eq]; omega
theorem lec (a b:Nat):decide ((a:Int)≤(b:Int))=decide (a≤b):=by
 rw[qU]; simp only[decide_eq_true_eq]; omega
theorem MN (G:Nat→AV)(b:Bool)(h:Hp):PCall (En G) 263 [.bool b] h (.int .i64 (tr b:Nat)):=by
 refine acN Tryz.func263 rfl ?_
 show awp _ _ _ _ _ (EJ _ [.tmp 2] _)
 cases b
 all_goals
  simp -implicitDefEqProofs only[vQ,BD,↓reduceIte,jB,enP]
  exact⟨rfl,trivial⟩
theorem AJ3 (G:Nat→AV)(op:Int)(a:Nat)(ha:a < 65536)(h:Hp):PCall (En G) 246 [.int .i64 op,.int .i64 (a:Nat)] h (.int .i64 (sgW op a:Nat)):=by
 refine acN Tryz.func246 rfl ?_
 show awp _ _ _ _ _ (EJ _ [.tmp 4] _)
 have hcase:op=4∨op=5∨op=6∨(op≠4∧op≠5∧op≠6):=by omega
 rcases hcase with rfl | rfl | rfl | ⟨n4,n5,n6⟩
 ·simp -implicitDefEqProofs only[vQ,BD,↓reduceIte,jB,enP,qH,eqz]
  refine(MN G _ h).use ?_
  simp -implicitDefEqProofs only[vQ,BD,↓reduceIte]
  exact⟨rfl,trivial⟩
 ·simp -implicitDefEqProofs only[vQ,BD,↓reduceIte,jB,enP,qH]
  refine(A44 G a ha h).use ?_
  simp -implicitDefEqProofs only[vQ,BD,↓reduceIte]
  exact⟨rfl,trivial⟩
 ·simp -implicitDefEqProofs only[vQ,BD,↓reduceIte,jB,enP,qH]
  refine(A4P G a ha h).use ?_
  simp -implicitDefEqProofs only[vQ,BD,↓reduceIte]
  exact⟨rfl,trivial⟩
 ·simp -implicitDefEqProofs only[vQ,BD,↓reduceIte,jB,enP,beq_eq_false_iff_ne.2 n4,beq_eq_false_iff_ne.2 n5,beq_eq_false_iff_ne.2 n6]
  refine(AR6 G a ha h).use ?_
  simp -implicitDefEqProofs only[vQ,BD,↓reduceIte]
  exact⟨by unfold sgW; rw[if_neg n4,if_neg n5,if_neg n6],trivial⟩
set_option maxHeartbeats 4000000 in
theorem AL7 (G:Nat→AV)(op:Int)(a b:Nat)(ha:a < 65536)(hb:b < 65536)(h:Hp):PCall (En G) 247 [.int .i64 op,.int .i64 (a:Nat),.int .i64 (b:Nat)] h (.int .i64 (dbW op a b:Nat)):=by
 refine acN Tryz.func247 rfl ?_
 show awp _ _ _ _ _ (EJ _ [.tmp 6] _)
 have hcase:op=7∨op=8∨op=9∨op=10∨op=11∨op=12∨op=13∨op=14∨op=15∨op=16∨op=17∨op=18∨op=19∨op=20∨(op < 7∨20 < op):=by omega
 rcases hcase with rfl | rfl | rfl | rfl | rfl | rfl | rfl | rfl | rfl | rfl | rfl | rfl | rfl | rfl | hop
 ·simp -implicitDefEqProofs only[vQ,BD,↓reduceIte,jB,enP,qH]
  refine(A13 G a b ha hb h).use ?_
  simp -implicitDefEqProofs only[vQ,BD,↓reduceIte]
  exact⟨rfl,trivial⟩
 ·simp -implicitDefEqProofs only[vQ,BD,↓reduceIte,jB,enP,qH]
  refine(A34 G a b ha hb h).use ?_
  simp -implicitDefEqProofs only[vQ,BD,↓reduceIte]
  exact⟨rfl,trivial⟩
 ·simp -implicitDefEqProofs only[vQ,BD,↓reduceIte,jB,enP,qH]
  refine(A4Q G a b ha hb h).use ?_
  simp -implicitDefEqProofs only[vQ,BD,↓reduceIte]
  exact⟨rfl,trivial⟩
 ·simp -implicitDefEqProofs only[vQ,BD,↓reduceIte,jB,enP,qH,A54 a b ha hb]
  exact⟨rfl,trivial⟩
 ·simp -implicitDefEqProofs only[vQ,BD,↓reduceIte,jB,enP,qH,A6U a b ha hb]
  exact⟨rfl,trivial⟩
 ·simp -implicitDefEqProofs only[vQ,BD,↓reduceIte,jB,enP,qH,A3X a b ha hb]
  exact⟨rfl,trivial⟩
 ·simp -implicitDefEqProofs only[vQ,BD,↓reduceIte,jB,enP,qH]
  refine(A4G G a (b:Nat) ha h).use ?_
  simp -implicitDefEqProofs only[vQ,BD,↓reduceIte]
  exact⟨rfl,trivial⟩
 ·simp -implicitDefEqProofs only[vQ,BD,↓reduceIte,jB,enP,qH]
  refine(A4F G a (b:Nat) ha h).use ?_
  simp -implicitDefEqProofs only[vQ,BD,↓reduceIte]
  exact⟨rfl,trivial⟩
 ·simp -implicitDefEqProofs only[vQ,BD,↓reduceIte,jB,enP,qH,eqc,nec,ltc,lec]
  refine(MN G _ h).use ?_
  simp -implicitDefEqProofs only[vQ,BD,↓reduceIte]
  exact⟨rfl,trivial⟩
 ·simp -implicitDefEqProofs only[vQ,BD,↓reduceIte,jB,enP,qH,eqc,nec,ltc,lec]
  refine(MN G _ h).use ?_
  simp -implicitDefEqProofs only[vQ,BD,↓reduceIte]
  exact⟨rfl,trivial⟩
 ·simp -implicitDefEqProofs only[vQ,BD,↓reduceIte,jB,enP,qH,eqc,nec,ltc,lec]
  refine(MN G _ h).use ?_
  simp -implicitDefEqProofs only[vQ,BD,↓reduceIte]
  exact⟨rfl,trivial⟩
 ·simp -implicitDefEqProofs only[vQ,BD,↓reduceIte,jB,enP,qH,eqc,nec,ltc,lec]
  refine(MN G _ h).use ?_
  simp -implicitDefEqProofs only[vQ,BD,↓reduceIte]
  exact⟨rfl,trivial⟩
 ·simp -implicitDefEqProofs only[vQ,CO,BD,↓reduceIte,jB,enP,qH,eqz,nez]
  cases h1:(a == 0) <;> cases h2:(b == 0)
  all_goals
   simp -implicitDefEqProofs only[vQ,CO,BD,EY,↓reduceIte,jB,jV,enP,h1,h2,nez]
   refine(MN G _ h).use ?_
   simp -implicitDefEqProofs only[vQ,BD,↓reduceIte]
   exact⟨by unfold dbW; rw[h1,h2]; rfl,trivial⟩
 ·simp -implicitDefEqProofs only[vQ,CO,BD,↓reduceIte,jB,enP,qH,eqz,nez]
  cases h1:(a == 0) <;> cases h2:(b == 0)
  all_goals
   simp -implicitDefEqProofs only[vQ,CO,BD,EY,↓reduceIte,jB,jV,enP,h1,h2,nez]
   refine(MN G _ h).use ?_
   simp -implicitDefEqProofs only[vQ,BD,↓reduceIte]
   exact⟨by unfold dbW; rw[h1,h2]; rfl,trivial⟩
 ·have hne : ∀ k:Int,7≤k→k≤20→(op == k)=false:=fun k _ _=>beq_eq_false_iff_ne.2 (by omega)
  have hd:dbW op a b=tr ((a == 0) || !(b == 0)):=by
   unfold dbW
   rw[if_neg (by omega : ¬ op=7),if_neg (by omega : ¬ op=8),if_neg (by omega : ¬ op=9),if_neg (by omega : ¬ op=10),if_neg (by omega : ¬ op=11),if_neg (by omega : ¬ op=12),if_neg (by omega : ¬ op=13),if_neg (by omega : ¬ op=14),if_neg (by omega : ¬ op=15),if_neg (by omega : ¬ op=16),if_neg (by omega : ¬ op=17),if_neg (by omega : ¬ op=18),if_neg (by omega : ¬ op=19),if_neg (by omega : ¬ op=20)]
  rw[hd]
  simp -implicitDefEqProofs only[vQ,CO,BD,↓reduceIte,jB,enP,hne 7 (by decide) (by decide),hne 8 (by decide) (by decide),hne 9 (by decide) (by decide),hne 10 (by decide) (by decide),hne 11 (by decide) (by decide),hne 12 (by decide) (by decide),hne 13 (by decide) (by decide),hne 14 (by decide) (by decide),hne 15 (by decide) (by decide),hne 16 (by decide) (by decide),hne 17 (by decide) (by decide),hne 18 (by decide) (by decide),hne 19 (by decide) (by decide),hne 20 (by decide) (by decide),eqz,nez]
  cases h1:(a == 0) <;> cases h2:(b == 0)
  all_goals
   simp -implicitDefEqProofs only[vQ,Bool.or_false,Bool.or_true,CO,BD,EY,↓reduceIte,jB,jV,enP,h1,h2,nez]
   refine(MN G _ h).use ?_
   simp -implicitDefEqProofs only[vQ,BD,↓reduceIte]
   exact⟨by trivial,trivial⟩
end Go.Proofs.YtfpagfhhhlljjaaGreatDoor.Xe
set_option linter.unusedSimpArgs false
set_option maxRecDepth 8000
namespace Go.Proofs.YtfpagfhhhlljjaaGreatDoor.Xe
open Sm Bins Cov Go.RowKit
open Bool renaming not_false→jC,not_true→jV
open List renaming getElem_mem→jS,map_cons→jD,map_nil→jE,append_nil→jF,getElem?_set→zB,getElem?_eq_getElem→jO,nil_append→qE,cons_append→qK,length_append→qB
open Nat renaming le_of_ble_eq_true→jI,reduceEqDiff→jB,zero_add→jG
open Option renaming getD_some→jA,getD_none→jT
theorem A21:Frz encStr:=fun _ _ _ _=>⟨rfl,rfl⟩
theorem encStr0 (s:ByteArray):(encStr s)[0]? = some (.str s):=rfl
theorem ASQ (G:Nat→AV)(xs:List ByteArray)(b:Nat)(v:ByteArray)(h:Hp)(hb:h[b]? = some (.live 1 (xs.map encStr)))(hl:xs.length≤1099511627776) :
  ∃ k:Int,PCall (En G) 202 [.own b 0 xs.length,.str v] h (.int .i64 k)∧decide (k≥0)=IZ xs v:=by
 have key : ∀ r:Int,(∀ i (hi:i < xs.length),(∀ j (hj:j < i),(v.toList == xs[j].toList)=false)→(v.toList == xs[i].toList)=true→r=(i:Int))→(IZ xs v=false→r = -1)→PCall (En G) 202 [.own b 0 xs.length,.str v] h (.int .i64 r):=by
  intro r hr hr0
  refine acN Tryz.func202 rfl ?_
  show awp _ _ _ _ _ (EJ _ [.tmp 4] _)
  simp -implicitDefEqProofs only[vQ,BD,↓reduceIte,jB,enP,AK8]
  refine DK (fun n F H => ∃ k,n+k=xs.length∧F 0 = .own b 0 xs.length∧F 1 = .str v∧F 7 = .int .i64 (xs.length:Nat)∧F 8 = .int .i64 (k:Nat)∧H=h∧(∀ j (hj:j < xs.length),j < k→(v.toList == xs[j].toList)=false)∧IZ xs v=IZ (xs.drop k) v) xs.length ⟨0,by simp,by simp -implicitDefEqProofs only[vQ,↓reduceIte,jB],by simp -implicitDefEqProofs only[vQ,↓reduceIte,jB],by simp -implicitDefEqProofs only[AA,↓reduceIte,jB],by simp -implicitDefEqProofs only[AA,↓reduceIte]; rfl,rfl,fun j _ hj=>by omega,rfl⟩ ?_
  rintro n F H ⟨k,hk,f0,f1,f7,f8,rfl,hbef,hin⟩
  simp -implicitDefEqProofs only[vQ,BD,↓reduceIte,enP,f7,f8]
  refine CU (fun hc => ?_) (fun hc => ?_)
  ·have hk':k < xs.length:=by simpa using hc
   have hs:IZ (xs.drop k) v=((v.toList == xs[k].toList) || IZ (xs.drop (k+1)) v):=LU _ xs k hk'
   have l1:D5 Tryz.prog H 9 (.ptr b k 0)=some (.str xs[k]):=by rw[DU ag9 hb (row:=encStr xs[k]) (row_map hk')]; rfl
   simp -implicitDefEqProofs only[vQ,BD,LQ,↓reduceIte,jB,enP,ASJ,f0,f1,f8,II hb hk',l1]
   refine CU (fun hx => ?_) (fun hx => ?_)
   ·simp -implicitDefEqProofs only[vQ,BD,↓reduceIte,jB]
    exact⟨by rw[hr k hk' (fun j hj=>hbef j (by omega) hj) hx],trivial⟩
   ·simp -implicitDefEqProofs only[vQ,BD,↓reduceIte,jB,enP,f8,wrap_succ (show k < 9223372036854775807 by omega)]
    refine⟨n - 1,by omega,k+1,by omega,by trivial,by trivial,by trivial,rfl,trivial,fun j hj hjk => ?_,by rw[hin,hs,hx,Bool.false_or]⟩
    rcases Nat.lt_or_ge j k with h1 | h1
    ·exact hbef j hj h1
    ·have:j=k:=by omega
     subst this; exact hx
  ·have hk' : ¬ k < xs.length:=by simpa using hc
   simp -implicitDefEqProofs only[vQ,BD,↓reduceIte]
   refine⟨?_,trivial⟩
   rw[hr0 (by rw[hin,List.drop_eq_nil_of_le (by omega)]; rfl)]
 by_cases hh:IZ xs v=true
 ·obtain⟨i,hi⟩ : ∃ i,xs.findIdx? (fun u=>v.toList == u.toList)=some i:=by
   cases he:xs.findIdx? (fun u=>v.toList == u.toList) with
   | some i=>exact⟨i,rfl⟩
   | none =>
     rw[List.findIdx?_eq_none_iff] at he
     unfold IZ at hh
     rw[List.any_eq_true] at hh
     obtain⟨x,hx,hz⟩:=hh
     rw[he x hx] at hz; cases hz
  obtain⟨hil,hiz,hbef⟩:=List.findIdx?_eq_some_iff_getElem.1 hi
  refine⟨(i:Int),key i (fun k hk hb' hx => ?_) (fun h0=>by rw[hh] at h0; cases h0),by rw[hh]; simp⟩
  rcases Nat.lt_trichotomy i k with h1 | h1 | h1
  ·have:=hb' i h1; rw[hiz] at this; cases this
  ·rw[h1]
  ·have:=hbef k h1; rw[hx] at this; simp at this
 ·have hh':IZ xs v=false:=by simpa using hh
  refine⟨-1,key (-1) (fun k hk _ hx => ?_) (fun _=>rfl),by rw[hh']; decide⟩
  unfold IZ at hh'
  rw[List.any_eq_false] at hh'
  exact absurd hx (hh' xs[k] (jS hk))
theorem ASR (G:Nat→AV)(k:Nat)(v:ByteArray)(h:Hp):PCall (En G) 202 [.sl .nil k [],.str v] h (.int .i64 (-1)):=by
 refine acN Tryz.func202 rfl ?_
 show awp _ _ _ _ _ (EJ _ [.tmp 4] _)
 simp -implicitDefEqProofs only[vQ,BD,↓reduceIte,jB,enP,AK8,List.length_nil]
 refine DK (fun n F H=>F 7 = .int .i64 0∧F 8 = .int .i64 0∧H=h) 0 ⟨by simp -implicitDefEqProofs only[AA,↓reduceIte,jB] <;> rfl,by simp -implicitDefEqProofs only[AA,↓reduceIte],rfl⟩ ?_
 rintro n F H ⟨f7,f8,rfl⟩
 have hc:((0:Int) < 0)=False:=by simp
 simp -implicitDefEqProofs only[vQ,BD,↓reduceIte,decide_false,enP,f7,f8,hc,decide_false]
 exact⟨by trivial,trivial⟩
theorem A5G (G:Nat→AV){h0 h:Hp}{ns:List ByteArray}{u:AV}(ho:outG 1 encStr h0 ns u h)(v:ByteArray)(hl:ns.length≤8388608):PCall (En G) 174 [u,.str v] h (.bool (IZ ns v)):=by
 have hi : ∃ k:Int,PCall (En G) 202 [u,.str v] h (.int .i64 k)∧decide (k≥0)=IZ ns v:=by
  rcases ho with⟨rfl,rfl⟩ | ⟨_,o,_,rfl,hb⟩
  ·exact⟨-1,ASR G 0 v h,rfl⟩
  ·exact ASQ G ns o v h hb (by omega)
 obtain⟨k,hk,hd⟩:=hi
 refine acN Tryz.func174 rfl ?_
 show awp _ _ _ _ _ (EJ _ [.tmp 4] _)
 simp -implicitDefEqProofs only[vQ,BD,↓reduceIte,jB,enP]
 refine hk.use ?_
 simp -implicitDefEqProofs only[vQ,BD,↓reduceIte,enP,hd]
 exact⟨trivial,trivial⟩
def nmU (ops:List Int)(ns:List ByteArray)(e:Ex):List ByteArray:=if(Rk.hasB ops e.op && !IZ ns e.name)=true then ns++[e.name] else ns
def nmL (ops:List Int)(ns:List ByteArray)(l:List Ex):List ByteArray:=l.foldl (nmU ops) ns
theorem AQA (ops:List Int)(ns:List ByteArray)(e:Ex):(nmU ops ns e).length≤ns.length+1:=by
 unfold nmU; split <;> simp
theorem AB2 (ops:List Int) : ∀ (l:List Ex) (ns:List ByteArray),(nmL ops ns l).length≤ns.length+l.length
 | [],ns=>by simp [nmL]
 | e :: l,ns=>by
   have h1:=AB2 ops l (nmU ops ns e)
   have h2:=AQA ops ns e
   simp only[nmL,List.foldl_cons,List.length_cons] at h1 ⊢
   omega
theorem AY7 (ops:List Int)(ns:List ByteArray)(l r:List Ex):nmL ops ns (l++r)=nmL ops (nmL ops ns l) r:=List.foldl_append
structure NSt (h0:Hp) (c:Nat) (ns:List ByteArray) (v:AV) (h:Hp):Prop where
 cell:h[c]? = some (.live 1 [[v]])
 out:outG 1 encStr h0 ns v h
 base:h0.length≤c
 ex:ext h0 h
abbrev Cn (c:Nat)(v:AV)(h:Hp)(v':AV)(h':Hp):Prop:=Ch c v .nilfn h v' .nilfn h'
theorem NSt.ne {h0 h:Hp}{c b k:Nat}{ns:List ByteArray}{v:AV}{row:List AV}(s:NSt h0 c ns v h)(hb:h[b]? = some (.live k [row]))(hr:k≠1∨∀ x,row≠[.str x]) : ¬ isB v b:=by
 intro hi
 rcases s.out with⟨_,rfl⟩ | ⟨hne,o,_,rfl,ho⟩
 ·exact hi
 ·have e:o=b:=hi
  subst e
  rw[ho] at hb
  injection Option.some.inj hb with e1 e2
  rcases hr with hr | hr
  ·exact hr e1.symm
  ·match ns,e2 with
   | [x],e2=>simp [encStr] at e2; exact hr x e2.symm
theorem NSt.app {h0 h:Hp}{c:Nat}{ns:List ByteArray}{v:AV}(s:NSt h0 c ns v h)(x:Hp):NSt h0 c ns v (h++x):=⟨F8 s.cell,s.out.app x,s.base,s.ex.app x⟩
theorem NSt.cne {h0 h:Hp}{c:Nat}{ns:List ByteArray}{v:AV}(s:NSt h0 c ns v h) : ¬ isB v c:=by
 refine s.ne s.cell (.inr fun x e => ?_)
 rcases s.out with⟨_,rfl⟩ | ⟨_,o,_,rfl,_⟩ <;> simp at e
theorem Cn.keep {c b:Nat}{h h':Hp}{v v':AV}{x:ABlk}(hc:Cn c v h v' h')(hb:h[b]? = some x)(hne:b≠c)(hn : ¬ isB v b):h'[b]? = some x:=by
 rw[hc.get b (CB hb) hne hn (fun e=>e)]; exact hb
theorem AJM (G:Nat→AV)(ops:List Int)(hops:ops.length≤1048576)(h0:Hp)(c ob:Nat)(s0:SM)(e:Ex)(h:Hp)(ns:List ByteArray)(v:AV)(S:NSt h0 c ns v h)(hob:h[ob]? = some (.live 1 [[.sl s0 1 (ops.map qencI)]]))(hn:ns.length < 8388608) :
  ACalls (En G) 258 [.agg (CX e),.ptr ob 0 0,.ptr c 0 0] h fun r h'=>r = .bool true∧∃ v',Cn c v h v' h'∧NSt h0 c (nmU ops ns e) v' h':=by
 refine acN Tryz.func258 rfl ?_
 show awp _ _ _ _ _ (EJ _ [.tmp 4] _)
 have S1:=S.app [ABlk.live 4 [CX e]]
 have hob1:(h++[ABlk.live 4 [CX e]])[ob]? = _:=CP hob
 have hC1:Cn c v h v (h++[ABlk.live 4 [CX e]]):=Ch.app c v .nilfn h _
 have ge:=CZ h (ABlk.live 4 [CX e])
 have hcl:=CB S.cell
 simp -implicitDefEqProofs only[vQ,BD,↓reduceIte,jB,enP,bxE]
 generalize h++[ABlk.live 4 [CX e]]=H at S1 hob1 hC1 ge ⊢
 have l0:D5 Tryz.prog H 3 (.ptr h.length 0 0)=some (.int .i64 e.op):=by rw[DU ag3 ge (row:=CX e) rfl,KN]
 have l2:D5 Tryz.prog H 9 (.ptr h.length 0 2)=some (.str e.name):=by rw[DU ag9 ge (row:=CX e) rfl,QY]
 simp -implicitDefEqProofs only[vQ,BD,↓reduceIte,jB,Nat.add_zero,enP,JE,JW MG hob1,l0]
 refine(Rk.contains_rank G ops s0 e.op H hops).use ?_
 simp -implicitDefEqProofs only[vQ,CO,BD,↓reduceIte]
 have key : ∀ b1 b2:Bool,Rk.hasB ops e.op=b1→IZ ns e.name=b2→(b1 && !b2)=false→nmU ops ns e=ns:=fun b1 b2 e1 e2 e3=>by
  unfold nmU; rw[e1,e2,e3]; simp
 cases hb1:Rk.hasB ops e.op
 ·simp -implicitDefEqProofs only[vQ,CO,BD,EY,↓reduceIte,jB]
  exact⟨trivial,v,hC1,by rw[key _ _ hb1 rfl rfl]; exact S1⟩
 simp -implicitDefEqProofs only[vQ,CO,BD,↓reduceIte,jB,enP,MP,JW ATT S1.cell,l2]
 refine(A5G G S1.out e.name (by omega)).use ?_
 simp -implicitDefEqProofs only[vQ,CO,BD,↓reduceIte,jB]
 cases hb2:IZ ns e.name
 ·have hu:nmU ops ns e=ns++[e.name]:=by unfold nmU; rw[hb1,hb2]; rfl
  obtain⟨v',H',ha,ho,hk,hex,hle,hnew⟩:=S1.out.append (P:=Tryz.prog) AX9 sz9 AX0 A0O (by omega) hn S1.ex e.name
  have ha':FZ Tryz.prog true H 65 65 v (.sl .full 1 [[.str e.name]])=some (v',H'):=ha
  have hc':=hk c _ S1.cell S1.cne
  have hcl2:=CB S1.cell
  have hac:JI v'=some [v']:=by
   rcases ho with⟨_,rfl⟩ | ⟨_,o,_,rfl,_⟩ <;> rfl
  simp -implicitDefEqProofs only[vQ,BD,↓reduceIte,jB,enP,MP,jT,JW ATT S1.cell,l2,AW4,ha',RI A2C hac hc']
  refine⟨trivial,v',hC1.trans ⟨by simpa using hle,fun b hb hbc hbv _ => ?_,fun b hb => .inr (by rw[hnew b hb]; exact Nat.le_refl _),fun b hb=>hb.elim⟩,?_⟩
  ·rw[zB,if_neg (fun e=>hbc e.symm),jO hb]
   exact hk b _ (jO hb) hbv
  ·rw[hu]
   exact⟨EM hc',ho.keep fun b hb=>by rw[zB,if_neg (fun e=>by have:=hnew b hb; omega)],S1.base,hex.set S1.base _⟩
 ·simp -implicitDefEqProofs only[vQ,BD,↓reduceIte,jV]
  exact⟨trivial,v,hC1,by rw[key _ _ hb1 hb2 rfl]; exact S1⟩
theorem AVA (ops:List Int)(ns:List ByteArray)(e:Ex):nmL ops ns (pre e)=nmL ops (nmU ops ns e) (J8 e.args):=by rw[pre_eq]; rfl
theorem AOR (G:Nat→AV)(ops:List Int)(hops:ops.length≤1048576)(h0:Hp)(c ob vb db:Nat)(s0:SM)(hv:vb≠c)(hd:db≠c)(hoc:ob≠c)(e:Ex) :
  wt e≤1099511627776→∀ (h:Hp) (ns:List ByteArray) (v:AV),NSt h0 c ns v h→h[ob]? = some (.live 1 [[.sl s0 1 (ops.map qencI)]])→ns.length+(pre e).length≤8388608 →
   h[vb]? = some (.live 1 [[.fn (.func 258) [] [.ptr ob 0 0,.ptr c 0 0]]])→h[db]? = some (.live 1 [[.fn (.func 104) [] [.ptr vb 0 0,.ptr db 0 0]]]) →
   ACalls (En G) 104 [.agg (CX e),.ptr vb 0 0,.ptr db 0 0] h fun r h'=>r = .bool true∧∃ v',Cn c v h v' h'∧NSt h0 c (nmL ops ns (pre e)) v' h':=by
 induction e using Ex.induct with | h e ih => ?_
 intro hw h ns v S hob hlen hvb hdb
 have hcl:=CB S.cell
 have hal:e.args.length≤1099511627776:=by have:=RG e.args; have:=LW e; omega
 have hpe:(pre e).length=(J8 e.args).length+1:=by rw[pre_eq]; rfl
 have hfn : ∀ (k:FuncId) (a b:List AV) (x:ByteArray),[AV.fn (.func k) a b]≠[.str x]:=fun _ _ _ _ q=>by simp at q
 have hsl : ∀ (xs:List (List AV)) (x:ByteArray),[AV.sl s0 1 xs]≠[.str x]:=fun _ _ q=>by simp at q
 refine acN Tryz.func104 rfl ?_
 show awp _ _ _ _ _ (EJ _ [.tmp 4] _)
 have S0:=S.app [ABlk.live 4 [CX e]]
 simp -implicitDefEqProofs only[vQ,BD,qE,qK,↓reduceIte,jB,enP,bxE,JW AHL (CP hvb),ldE]
 refine(AJM G ops hops h0 c ob s0 e _ ns v S0 (CP hob) (by omega)).mono ?_
 rintro r h1 ⟨rfl,v1,hch,S1⟩
 have hch0:Cn c v h v1 h1:=(Ch.app c v .nilfn h _).trans hch
 have hb3:h1[h.length]? = some (.live 4 [CX e]):=hch.keep (CZ _ _) (by omega) (S0.ne (CZ _ _) (.inl (by decide)))
 have hvb1:=hch0.keep hvb hv (S.ne hvb (.inr (hfn _ _ _)))
 have hdb1:=hch0.keep hdb hd (S.ne hdb (.inr (hfn _ _ _)))
 have hob1:=hch0.keep hob hoc (S.ne hob (.inr (hsl _)))
 have l3:D5 Tryz.prog h1 46 (.ptr h.length 0 3)=some (.sl e.m 4 (e.args.map CX)):=by rw[DU PX hb3 (row:=CX e) rfl,ABC]
 have hn1:=AQA ops ns e
 simp -implicitDefEqProofs only[vQ,BD,↓reduceIte,jB,jV,enP,SK,MK,l3,List.length_map]
 refine DK (fun n F H => ∃ j v',n+j=e.args.length∧F 1 = .ptr vb 0 0∧F 2 = .ptr db 0 0∧F 12 = .sl e.m 4 (e.args.map CX)∧F 13 = .int .i64 e.args.length∧F 14 = .int .i64 (j:Nat)∧Cn c v h v' H∧NSt h0 c (nmL ops (nmU ops ns e) (J8 (e.args.take j))) v' H∧H[vb]? = some (.live 1 [[.fn (.func 258) [] [.ptr ob 0 0,.ptr c 0 0]]])∧H[db]? = some (.live 1 [[.fn (.func 104) [] [.ptr vb 0 0,.ptr db 0 0]]])∧H[ob]? = some (.live 1 [[.sl s0 1 (ops.map qencI)]])) e.args.length
  ⟨0,v1,by simp,by simp -implicitDefEqProofs only[vQ,↓reduceIte,jB],by simp -implicitDefEqProofs only[vQ,↓reduceIte,jB],by simp -implicitDefEqProofs only[AA,↓reduceIte,jB],by simp -implicitDefEqProofs only[AA,↓reduceIte,jB],by simp -implicitDefEqProofs only[AA,↓reduceIte]; rfl,hch0,S1,hvb1,hdb1,hob1⟩ ?_
 rintro n F H ⟨j,v',hj,f1,f2,f12,f13,f14,hC,SH,hvH,hdH,hoH⟩
 simp -implicitDefEqProofs only[vQ,BD,↓reduceIte,enP,f13,f14]
 refine CU (fun hlt => ?_) (fun hlt => ?_)
 ·have hj':j < e.args.length:=by simpa using hlt
  have hmem:e.args[j]∈e.args:=jS hj'
  have hsplit:J8 e.args=J8 (e.args.take j)++(pre e.args[j]++J8 (e.args.drop (j+1))):=by
   rw[← List.append_assoc,← QL _ _ hj',← RP,List.take_append_drop]
  have hln:=AB2 ops (J8 (e.args.take j)) (nmU ops ns e)
  have hls:(J8 e.args).length=(J8 (e.args.take j)).length+((pre e.args[j]).length+(J8 (e.args.drop (j+1))).length):=by rw[hsplit,qB,qB]
  simp -implicitDefEqProofs only[vQ,BD,qE,qK,↓reduceIte,jB,enP,WH,jT,f12,f14,DL hj',FM TQ LD GU hj',VZ,AFC _ _ [.int .i64 0,.int .i64 0,.str ⟨#[]⟩,.sl .nil 0 []] rfl,f2,JW AHL (CP hdH),ldE]
  have SH1:=SH.app [ABlk.live 4 [CX e.args[j]]]
  refine(ih e.args[j] hmem (by have:=TV hmem; have:=LW e; omega) _ _ v' SH1 (CP hoH) (by omega) (CP hvH) (CP hdH)).mono ?_
  rintro r h2 ⟨rfl,v2,hch2,S2⟩
  have hch2':Cn c v' H v2 h2:=(Ch.app c v' .nilfn H _).trans hch2
  have hvH2:=hch2'.keep hvH hv (SH.ne hvH (.inr (hfn _ _ _)))
  have hdH2:=hch2'.keep hdH hd (SH.ne hdH (.inr (hfn _ _ _)))
  have hoH2:=hch2'.keep hoH hoc (SH.ne hoH (.inr (hsl _)))
  simp -implicitDefEqProofs only[vQ,BD,↓reduceIte,jB,jV,enP,f1,f2,f12,f13,f14,wrap_succ (show j < 9223372036854775807 by omega)]
  refine⟨n - 1,by omega,j+1,v2,by omega,trivial,trivial,trivial,trivial,rfl,hC.trans hch2',?_,hvH2,hdH2,hoH2⟩
  rw[QL _ _ hj',AY7]; exact S2
 ·have hj' : ¬ j < e.args.length:=by simpa using hlt
  simp -implicitDefEqProofs only[vQ,BD,↓reduceIte]
  rw[List.take_of_length_le (by omega),← AVA] at SH
  exact⟨trivial,v',hC,SH⟩
theorem ANE (G:Nat→AV)(ops:List Int)(hops:ops.length≤1048576)(h0:Hp)(c ob:Nat)(s0:SM)(hoc:ob≠c)(e:Ex)(hw:wt e≤1048576)(h:Hp)(ns:List ByteArray)(v:AV)(S:NSt h0 c ns v h)(hob:h[ob]? = some (.live 1 [[.sl s0 1 (ops.map qencI)]]))(hn:ns.length≤1048576) :
  ACalls (En G) 68 [.agg (CX e),.fn (.func 258) [] [.ptr ob 0 0,.ptr c 0 0]] h fun _ h' => ∃ v',Cn c v h v' h'∧NSt h0 c (nmL ops ns (pre e)) v' h':=by
 have hcl:=CB S.cell
 have hol:=CB hob
 refine acN Tryz.func68 rfl ?_
 show awp _ _ _ _ _ (EJ _ [] _)
 generalize hfv:AV.fn (.func 258) [] [.ptr ob 0 0,.ptr c 0 0]=fv
 have hbx : ∀ H:Hp,O1 H fv=some (.ptr H.length 0 0,H++[.live 1 [[fv]]]):=fun H=>by rw[← hfv]; rfl
 simp -implicitDefEqProofs only[vQ,BD,IM,↓reduceIte,jB,enP,jT,bxE,hbx,A12]
 have g0:(h++[ABlk.live 4 [CX e]]++[ABlk.live 1 [[fv]]]++[ABlk.live 1 [[AV.nilfn]]])[(h++[ABlk.live 4 [CX e]]++[ABlk.live 1 [[fv]]]).length]? = some (.live 1 [[.nilfn]]):=CZ _ _
 simp -implicitDefEqProofs only[vQ,BD,↓reduceIte,jB,enP,RI A1H (A14 _ _ _) g0]
 have S3:=((S.app [ABlk.live 4 [CX e]]).app [ABlk.live 1 [[fv]]]).app [ABlk.live 1 [[AV.nilfn]]]
 have c3:Cn c v h v (h++[ABlk.live 4 [CX e]]++[ABlk.live 1 [[fv]]]++[ABlk.live 1 [[AV.nilfn]]]):=((Ch.app c v .nilfn h _).trans (Ch.app _ _ _ _ _)).trans (Ch.app _ _ _ _ _)
 have v3:(h++[ABlk.live 4 [CX e]]++[ABlk.live 1 [[fv]]]++[ABlk.live 1 [[AV.nilfn]]])[(h++[ABlk.live 4 [CX e]]).length]? = some (.live 1 [[fv]]):=CP (CZ _ _)
 have e3:(h++[ABlk.live 4 [CX e]]++[ABlk.live 1 [[fv]]]++[ABlk.live 1 [[AV.nilfn]]])[h.length]? = some (.live 4 [CX e]):=CP (CP (CZ _ _))
 have o3:(h++[ABlk.live 4 [CX e]]++[ABlk.live 1 [[fv]]]++[ABlk.live 1 [[AV.nilfn]]])[ob]? = some (.live 1 [[.sl s0 1 (ops.map qencI)]]):=CP (CP (CP hob))
 have hdl:(h++[ABlk.live 4 [CX e]]++[ABlk.live 1 [[fv]]]).length=h.length+2:=by simp
 have hvl:(h++[ABlk.live 4 [CX e]]).length=h.length+1:=by simp
 generalize (h++[ABlk.live 4 [CX e]]++[ABlk.live 1 [[fv]]]).length=db at g0 hdl ⊢
 generalize (h++[ABlk.live 4 [CX e]]).length=vb at v3 hvl ⊢
 generalize h++[ABlk.live 4 [CX e]]++[ABlk.live 1 [[fv]]]++[ABlk.live 1 [[AV.nilfn]]]=H at g0 S3 c3 v3 e3 o3 ⊢
 have hdn : ¬ isB v db:=S3.ne g0 (.inr fun x q=>by simp at q)
 generalize hH:H.set db (.live 1 [[AV.fn (.func 104) [] [.ptr vb 0 0,.ptr db 0 0]]])=H'
 have gd:H'[db]? = some (.live 1 [[.fn (.func 104) [] [.ptr vb 0 0,.ptr db 0 0]]]):=by rw[← hH]; exact EM g0
 have gv:H'[vb]? = some (.live 1 [[fv]]):=by rw[← hH]; exact DT v3 (by omega)
 have ge:H'[h.length]? = some (.live 4 [CX e]):=by rw[← hH]; exact DT e3 (by omega)
 have go:H'[ob]? = some (.live 1 [[.sl s0 1 (ops.map qencI)]]):=by rw[← hH]; exact DT o3 (by omega)
 have hb0:=S.ex.le
 have S4:NSt h0 c ns v H':=by
  rw[← hH]
  exact⟨DT S3.cell (by omega),S3.out.keep fun b hb=>by rw[zB,if_neg (fun q=>hdn (by rw[q]; exact hb))],S3.base,S3.ex.set (by omega) _⟩
 have c4:Cn c v h v H':=by
  rw[← hH]
  exact⟨by have:=c3.len; simpa using this,fun b hb hbc hbv hbu=>by rw[zB,if_neg (by omega)]; exact c3.get b hb hbc hbv hbu,fun _ q => .inl q,fun _ q => .inl q⟩
 simp -implicitDefEqProofs only[vQ,BD,qE,qK,↓reduceIte,jB,enP,JW AHL gd,OO ge]
 rw[← hfv] at gv
 have hp:=AH0 e
 refine(AOR G ops hops h0 c ob vb db s0 (by omega) (by omega) hoc e (by omega) H' ns v S4 go (by omega) gv gd).mono ?_
 rintro r h' ⟨rfl,v',hch,S5⟩
 simp -implicitDefEqProofs only[vQ,AD4]
 exact⟨v',c4.trans hch,S5⟩
theorem A59 (h:Hp):KG Tryz.prog h 65=some (.ptr h.length 0 0,h++[.live 1 [[.sl .nil 0 []]]]):=J4 (row := [.sl .nil 0 []]) (by kernel_rfl)
theorem AC3 (G:Nat→AV)(ops:List Int)(hops:ops.length≤1048576)(s0:SM)(e:Ex)(hw:wt e≤1048576)(h:Hp):PCall (En G) 243 [.agg (CX e),.sl s0 1 (ops.map qencI)] h (.sl (nm (nmL ops [] (pre e))) 1 ((nmL ops [] (pre e)).map encStr)):=by
 refine N7 A21 ?_
 refine acN Tryz.func243 rfl ?_
 show awp _ _ _ _ _ (EJ _ [.tmp 4] _)
 have ge:=CP (x:=ABlk.live 1 [[.sl .nil 0 []]]) (CP (x:=ABlk.live 1 [[AV.sl s0 1 (ops.map qencI)]]) (CZ h (.live 4 [CX e])))
 have go:=CP (x:=ABlk.live 1 [[.sl .nil 0 []]]) (CZ (h++[ABlk.live 4 [CX e]]) (ABlk.live 1 [[AV.sl s0 1 (ops.map qencI)]]))
 have gc:=CZ (h++[ABlk.live 4 [CX e]]++[ABlk.live 1 [[AV.sl s0 1 (ops.map qencI)]]]) (ABlk.live 1 [[.sl .nil 0 []]])
 have hx:ext h (h++[ABlk.live 4 [CX e]]++[ABlk.live 1 [[AV.sl s0 1 (ops.map qencI)]]]++[ABlk.live 1 [[.sl .nil 0 []]]]):=(((ext.rfl' h).app _).app _).app _
 have hol:(h++[ABlk.live 4 [CX e]]).length=h.length+1:=by simp
 have hcl:(h++[ABlk.live 4 [CX e]]++[ABlk.live 1 [[AV.sl s0 1 (ops.map qencI)]]]).length=h.length+2:=by simp
 simp -implicitDefEqProofs only[vQ,AO7,BD,↓reduceIte,jB,enP,bxE,A59]
 generalize h++[ABlk.live 4 [CX e]]++[ABlk.live 1 [[AV.sl s0 1 (ops.map qencI)]]]++[ABlk.live 1 [[.sl .nil 0 []]]]=H at ge go gc hx ⊢
 generalize (h++[ABlk.live 4 [CX e]]++[ABlk.live 1 [[AV.sl s0 1 (ops.map qencI)]]]).length=c at gc hcl ⊢
 generalize (h++[ABlk.live 4 [CX e]]).length=ob at go hol ⊢
 simp -implicitDefEqProofs only[vQ,BD,IM,↓reduceIte,jB,OO ge]
 have S:NSt h c [] (.sl .nil 0 []) H:=⟨gc,outG.nil _ _ _ _,by omega,hx⟩
 refine(ANE G ops hops h c ob s0 (by omega) e hw H [] _ S go (by simp)).mono ?_
 rintro r h' ⟨v',hch,S5⟩
 simp -implicitDefEqProofs only[vQ,BD,↓reduceIte,jB,enP,JW ATT S5.cell]
 exact⟨S5.ex,S5.out⟩
theorem A5N (h:Hp)(a b:Int):EQ Tryz.prog false h 26 2 [(0,.int .i64 a),(1,.int .i64 b)]=some (.sl .full 1 [[.int .i64 a],[.int .i64 b]],h):=by kernel_rfl
theorem APM (G:Nat→AV)(e:Ex)(hw:wt e≤1048576)(h:Hp):PCall (En G) 216 [.agg (CX e)] h (.sl (nm (nmL [2] [] (pre e))) 1 ((nmL [2] [] (pre e)).map encStr)):=by
 refine ACalls.pure0 rfl ?_
 refine acN Tryz.func216 rfl ?_
 show awp _ _ _ _ _ (EJ _ [.tmp 2] _)
 simp -implicitDefEqProofs only[vQ,BD,↓reduceIte,jB,enP,bxE,ldE,AO4]
 refine(AC3 G [2] (by decide) .full e hw _).use ?_
 simp -implicitDefEqProofs only[vQ,BD,↓reduceIte]
 exact⟨trivial,_,rfl⟩
theorem AM9 (G:Nat→AV)(e:Ex)(hw:wt e≤1048576)(h:Hp):PCall (En G) 218 [.agg (CX e)] h (.sl (nm (nmL [3,24] [] (pre e))) 1 ((nmL [3,24] [] (pre e)).map encStr)):=by
 refine ACalls.pure0 rfl ?_
 refine acN Tryz.func218 rfl ?_
 show awp _ _ _ _ _ (EJ _ [.tmp 2] _)
 simp -implicitDefEqProofs only[vQ,BD,↓reduceIte,jB,enP,bxE,ldE,A5N]
 refine(AC3 G [3,24] (by decide) .full e hw _).use ?_
 simp -implicitDefEqProofs only[vQ,BD,↓reduceIte]
 exact⟨trivial,_,rfl⟩
end Go.Proofs.YtfpagfhhhlljjaaGreatDoor.Xe
set_option linter.unusedSimpArgs false
set_option maxRecDepth 8000
namespace Go.Proofs.YtfpagfhhhlljjaaGreatDoor.Xe
open Sm Bins Cov Wd Go.RowKit
open Bool renaming not_false→jC,not_true→jV,true_and→qO
open Int renaming reduceBEq→qH
open List renaming drop_eq_getElem_cons→zN,all_cons→wG,length_map→jH,map_cons→jD,map_nil→jE,append_nil→jF,drop_eq_nil_of_le→jZ,getElem?_cons_zero→zM,getElem?_cons_succ→zO,getD_eq_getElem?_getD→zZ,getElem?_eq_getElem→jO,getElem_mem→jS,mem_map→zI,mem_cons_of_mem→yA
open Nat renaming le_refl→jL,le_of_ble_eq_true→jI,reduceEqDiff→jB,add_zero→jM,zero_add→jG,mod_lt→qQ,reduceAdd→jP
open Option renaming getD_some→jA,getD_none→jT
abbrev Sg:=ByteArray × Int
def JC (s:Sg):List AV := [.str s.1,.int .i64 s.2]
theorem AS3 (s:Sg):(JC s).length=2:=rfl
def A6K (s:Sg):Prop := -9223372036854775808≤s.2∧s.2≤9223372036854775807
def O4:List Sg→ByteArray→Nat × Bool
 | [],_=>(0,false)
 | s :: l,n=>if(s.1.toList == n.toList)=true then (wW s.2,true) else O4 l n
theorem ADW : ∀ (l:List Sg) (n:ByteArray),(O4 l n).1 < 65536
 | [],_=>by simp [O4]
 | s :: l,n=>by unfold O4; split; exact APS _; exact ADW l n
theorem AOL (l:List Sg)(n:ByteArray)(k:Nat)(hk:k < l.length):O4 (l.drop k) n=if(l[k].1.toList == n.toList)=true then (wW l[k].2,true) else O4 (l.drop (k+1)) n:=by
 rw[zN hk]; rfl
def WR (p:Nat × Bool):AV := .tup [.int .i64 (p.1:Nat),.bool p.2]
theorem AKU (p:Nat × Bool)(n:Nat)(H:Hp):IL n H 2 (WR p)=WR p:=rfl
theorem A58 (h:Hp):KG Tryz.prog h 59=some (.ptr h.length 0 0,h++[.live 2 [[.str ⟨#[]⟩,.int .i64 0]]]):=J4 (row := [.str ⟨#[]⟩,.int .i64 0]) (by kernel_rfl)
theorem A4B (h:Hp)(s:Sg):FP Tryz.prog (h++[.live 2 [[.str ⟨#[]⟩,.int .i64 0]]]) 59 (.ptr h.length 0 0) (.agg (JC s))=some (h++[.live 2 [JC s]]):=by
 rw[NH (cs:=JC s) (row := [.str ⟨#[]⟩,.int .i64 0]) rfl A2D (CZ _ _) (by exact jL 2),ABY]
 rfl
theorem AMP (h:Hp)(u:AV)(hu:u.leaf=true):O1 h (.agg [u])=some (.ptr h.length 0 0,h++[ABlk.live 1 [[u]]]):=UM (by simp only[wG,hu,List.all_nil]; rfl)
theorem WU {h:Hp}{b:Nat}{u:AV}(hb:h[b]? = some (.live 1 [[u]])):D5 Tryz.prog h 205 (.ptr b 0 0)=some (.agg [u]):=by
 rw[GV A6E A1F hb rfl (by exact jL 1)]; rfl
theorem AEM {P:Program}{t:TypeId}{a b:ByteArray}(h:a.size+b.size≤9223372036854775807):J7 P t .add (.str a) (.str b)=some (.str (a++b)):=by
 show APE .add a b=_
 unfold APE
 have:((a.size+b.size:Nat):Int)≤IntKind.i64.max:=by
  show _≤(9223372036854775807:Int)
  omega
 simp only[if_pos this]
section
variable (G:Nat→AV)
theorem AAB (l:List Sg)(m:SM)(n:ByteArray)(h:Hp)(hl:l.length≤1099511627776):PCall (En G) 217 [.agg [.sl m 2 (l.map JC)],.str n] h (WR (O4 l n)):=by
 refine AP5 2 (AKU _) ?_
 refine acN Tryz.func217 rfl ?_
 show awp _ _ _ _ _ (EJ _ [.tmp 4,.tmp 5] _)
 simp -implicitDefEqProofs only[vQ,BD,↓reduceIte,jB,enP,A6X,AZU,AMP h (.sl m 2 (l.map JC)) rfl,JW A6B (CZ h (ABlk.live 1 [[.sl m 2 (l.map JC)]])),jH]
 refine DK (fun k F H => ∃ j,k+j=l.length∧F 1 = .str n∧F 9 = .sl m 2 (l.map JC)∧F 10 = .int .i64 (l.length:Nat)∧F 11 = .int .i64 (j:Nat)∧ext h H∧O4 l n=O4 (l.drop j) n) l.length ⟨0,by simp,by simp -implicitDefEqProofs only[vQ,↓reduceIte,jB],by simp -implicitDefEqProofs only[AA,↓reduceIte,jB],by simp -implicitDefEqProofs only[AA,↓reduceIte,jB],by simp -implicitDefEqProofs only[AA,↓reduceIte]; rfl,(ext.rfl' h).app _,rfl⟩ ?_
 rintro k F H ⟨j,hj,f1,f9,f10,f11,hx,hf⟩
 simp -implicitDefEqProofs only[vQ,BD,↓reduceIte,enP,f10,f11]
 refine CU (fun hc => ?_) (fun hc => ?_)
 ·have hj':j < l.length:=by simpa using hc
  have g:=CZ H (ABlk.live 2 [JC l[j]])
  have l0:D5 Tryz.prog (H++[ABlk.live 2 [JC l[j]]]) 9 (.ptr H.length 0 0)=some (.str l[j].1):=by rw[DU ag9 g (row:=JC l[j]) rfl]; rfl
  have l1:D5 Tryz.prog (H++[ABlk.live 2 [JC l[j]]]) 3 (.ptr H.length 0 1)=some (.int .i64 l[j].2):=by rw[DU ag3 g (row:=JC l[j]) rfl]; rfl
  rw[AOL l n j hj'] at hf
  simp -implicitDefEqProofs only[vQ,BD,LQ,↓reduceIte,jB,enP,A27,A66,jT,f1,f9,f11,DL hj',FM A7U A2D AS3 hj',A58,A4B,l0]
  refine CU (fun hb => ?_) (fun hb => ?_)
  ·simp -implicitDefEqProofs only[vQ,BD,↓reduceIte,jB,enP,A26,l1]
   refine(ARC G _ _).use ?_
   simp -implicitDefEqProofs only[vQ,BD,↓reduceIte,jB]
   exact⟨by rw[hf,if_pos hb]; rfl,hx.app _⟩
  ·simp -implicitDefEqProofs only[vQ,BD,↓reduceIte,jB,enP,f11,wrap_succ (show j < 9223372036854775807 by omega)]
   exact⟨k - 1,by omega,j+1,by omega,by trivial,by trivial,by trivial,rfl,hx.app _,by rw[hf,if_neg (by rw[hb]; decide)]⟩
 ·have hj' : ¬ j < l.length:=by simpa using hc
  simp -implicitDefEqProofs only[vQ,BD,↓reduceIte,jB]
  exact⟨by rw[hf,jZ (by omega)]; rfl,hx⟩
def elN (a:ByteArray)(i:Nat):ByteArray:=a++(⟨#[91]⟩:ByteArray)++(⟨#[UInt8.ofNat (48+i)]⟩:ByteArray)++(⟨#[93]⟩:ByteArray)
def atG (l:List Sg)(a:ByteArray)(i:Int):Nat × Bool:=if i < 0∨i≥8 then (0,false) else O4 l (elN a i.toNat)
theorem AXD (l:List Sg)(a:ByteArray)(i:Int):(atG l a i).1 < 65536:=by unfold atG; split; decide; exact ADW _ _
theorem AWF : ∀ i:Nat,i < 8→V4 Tryz.prog 100 9 (.sl .full 1 [[.int .u8 (IntKind.u8.wrap (IntKind.i64.wrap (48+(i:Int))))]])=some (.str ⟨#[UInt8.ofNat (48+i)]⟩)
 | 0,_=>by kernel_rfl
 | 1,_=>by kernel_rfl
 | 2,_=>by kernel_rfl
 | 3,_=>by kernel_rfl
 | 4,_=>by kernel_rfl
 | 5,_=>by kernel_rfl
 | 6,_=>by kernel_rfl
 | 7,_=>by kernel_rfl
 | n+8,h=>absurd h (by omega)
theorem A5T (h:Hp)(v:Int):EQ Tryz.prog false h 100 1 [(0,.int .u8 v)]=some (.sl .full 1 [[.int .u8 v]],h):=by kernel_rfl
theorem AIZ (a b:ByteArray):(a++b).size=a.size+b.size:=ByteArray.size_append
theorem AI2 (l:List Sg)(m:SM)(a:ByteArray)(i:Int)(h:Hp)(hl:l.length≤1099511627776)(ha:a.size≤1048576):PCall (En G) 219 [.agg [.sl m 2 (l.map JC)],.str a,.int .i64 i] h (WR (atG l a i)):=by
 refine AP5 2 (AKU _) ?_
 refine acN Tryz.func219 rfl ?_
 show awp _ _ _ _ _ (EJ _ [.tmp 6,.tmp 7] _)
 have hx:ext h (h++[ABlk.live 1 [[.sl m 2 (l.map JC)]]]):=(ext.rfl' h).app _
 simp -implicitDefEqProofs only[vQ,CO,BD,↓reduceIte,jB,enP,AMP h (.sl m 2 (l.map JC)) rfl]
 cases h1:decide (i < 0)
 ·cases h2:decide (i≥8)
  ·have h1' : ¬ i < 0:=by simpa using h1
   have h2' : ¬ i≥8:=by simpa using h2
   obtain⟨k,rfl⟩:=Int.eq_ofNat_of_zero_le (show 0≤i by omega)
   have hk:k < 8:=by omega
   have e1:J7 Tryz.prog 9 .add (.str a) (.str ⟨#[91]⟩)=_:=AEM (by show a.size+1≤_; omega)
   have e2:J7 Tryz.prog 9 .add (.str (a++(⟨#[91]⟩:ByteArray))) (.str ⟨#[UInt8.ofNat (48+k)]⟩)=_:=AEM (by rw[AIZ]; show a.size+1+1≤_; omega)
   have e3:J7 Tryz.prog 9 .add (.str (a++(⟨#[91]⟩:ByteArray)++(⟨#[UInt8.ofNat (48+k)]⟩:ByteArray))) (.str ⟨#[93]⟩)=_:=AEM (by rw[AIZ,AIZ]; show a.size+1+1+1≤_; omega)
   simp -implicitDefEqProofs only[vQ,CO,BD,ZM,↓reduceIte,jB,enP,A5E,h2,WU (CZ h (ABlk.live 1 [[.sl m 2 (l.map JC)]])),e1,A5T,AWF k hk,e2,e3]
   refine(AAB G l m _ _ hl).use ?_
   unfold WR
   simp -implicitDefEqProofs only[vQ,zM,zO,BD,↓reduceIte,jB]
   exact⟨by unfold atG; rw[if_neg (by omega)]; rfl,hx⟩
  ·simp -implicitDefEqProofs only[vQ,CO,BD,↓reduceIte,jB,enP,h2]
   have h2':i≥8:=by simpa using h2
   exact⟨by unfold atG; rw[if_pos (.inr h2')]; rfl,hx⟩
 ·simp -implicitDefEqProofs only[vQ,CO,BD,EY,↓reduceIte,jB]
  have h1':i < 0:=by simpa using h1
  exact⟨by unfold atG; rw[if_pos (.inl h1')]; rfl,hx⟩
def sumTo (l:List Sg)(a:ByteArray):Nat→Nat
 | 0=>0
 | k+1=>(sumTo l a k+(atG l a (k:Nat)).1) % 65536
theorem AJU (l:List Sg)(a:ByteArray)(k:Nat):sumTo l a k < 65536:=by
 cases k with
 | zero=>show 0 < 65536; decide
 | succ k=>exact qQ _ (by omega)
theorem AUE (l:List Sg)(m:SM)(a:ByteArray)(h:Hp)(hl:l.length≤1099511627776)(ha:a.size≤1048576):PCall (En G) 220 [.agg [.sl m 2 (l.map JC)],.str a] h (.int .i64 (sumTo l a 8:Nat)):=by
 refine ACalls.pure0 rfl ?_
 refine acN Tryz.func220 rfl ?_
 show awp _ _ _ _ _ (EJ _ [.tmp 4] _)
 have g:=CZ h (ABlk.live 1 [[.sl m 2 (l.map JC)]])
 simp -implicitDefEqProofs only[vQ,BD,enP,AMP h (.sl m 2 (l.map JC)) rfl]
 generalize hH:h++[ABlk.live 1 [[.sl m 2 (l.map JC)]]]=H at g ⊢
 refine DK (fun k F H' => ∃ j,k+j=8∧F 1 = .str a∧F 2 = .ptr h.length 0 0∧F 5 = .int .i64 (sumTo l a j:Nat)∧F 9 = .int .i64 (j:Nat)∧H'=H) 8 ⟨0,by simp,by simp -implicitDefEqProofs only[vQ,↓reduceIte,jB],by simp -implicitDefEqProofs only[AA,↓reduceIte,jB],by simp -implicitDefEqProofs only[AA,↓reduceIte,jB] <;> rfl,by simp -implicitDefEqProofs only[AA,↓reduceIte] <;> rfl,rfl⟩ ?_
 rintro k F H' ⟨j,hj,f1,f2,f5,f9,rfl⟩
 simp -implicitDefEqProofs only[vQ,BD,↓reduceIte,enP,f9]
 refine CU (fun hc => ?_) (fun hc => ?_)
 ·have hj':j < 8:=by simp at hc; omega
  simp -implicitDefEqProofs only[vQ,BD,↓reduceIte,jB,enP,f1,f2,f9,WU g]
  refine(AI2 G l m a (j:Nat) H' hl ha).use ?_
  unfold WR
  simp -implicitDefEqProofs only[vQ,zM,zO,BD,↓reduceIte,jB,f5]
  refine(A13 G _ _ (AJU l a j) (AXD l a (j:Nat)) H').use ?_
  simp -implicitDefEqProofs only[vQ,BD,↓reduceIte,jB,enP,f1,f2,f9,wrap_succ (show j < 9223372036854775807 by omega)]
  exact⟨k - 1,by omega,j+1,by omega,by trivial,by trivial,by trivial,by trivial,trivial⟩
 ·have hj':j=8:=by simp at hc; omega
  subst hj'
  simp -implicitDefEqProofs only[vQ,BD,↓reduceIte,jB,f5]
  exact⟨trivial,_,hH.symm⟩
end
def insW (x:Nat):List Nat→Bool
 | a :: b :: r=>(decide (a≤x) && decide (x≤b)) || insW x r
 | _=>false
def opW (op:Int)(vs:List Nat):Nat :=
 if op=22 then (if vs.getD 0 0≠0 then vs.getD 1 0 else vs.getD 2 0) else if op=23 then tr (insW (vs.getD 0 0) (vs.drop 1))
 else if vs.length=1 then sgW op (vs.getD 0 0) else dbW op (vs.getD 0 0) (vs.getD 1 0)
theorem getD_lt {vs:List Nat}(hv : ∀ x∈vs,x < 65536)(k:Nat):vs.getD k 0 < 65536:=by
 rw[zZ]
 rcases Nat.lt_or_ge k vs.length with h | h
 ·rw[jO h]; exact hv _ (jS h)
 ·rw[List.getElem?_eq_none h]; decide
theorem A2T (op:Int){vs:List Nat}(hv : ∀ x∈vs,x < 65536):opW op vs < 65536:=by
 unfold opW
 have h0:=getD_lt hv 0
 have h1:=getD_lt hv 1
 have h2:=getD_lt hv 2
 split
 ·split <;> assumption
 split
 ·exact YH _
 split
 ·exact A2M h0
 ·exact A3F h0 h1
theorem ASO (x:Nat)(l:List Nat)(k:Nat)(hk:k+1 < l.length):insW x (l.drop k)=((decide (l[k]≤x) && decide (x≤l[k+1])) || insW x (l.drop (k+2))):=by
 rw[zN (by omega:k < l.length),zN hk]; rfl
theorem AVR (x:Nat)(l:List Nat)(k:Nat)(hk:l.length≤k+1):insW x (l.drop k)=false:=by
 have:(l.drop k).length≤1:=by simp; omega
 match hm:l.drop k,this with
 | [],_=>rfl
 | [a],_=>rfl
theorem gec (a b:Nat):decide ((a:Int)≥(b:Int))=decide (b≤a):=lec b a
def AXS (op:Int)(n:Nat):Prop:=(op=22→n=3)∧(op=23→n % 2=1∧3≤n)∧(op≠22→op≠23→n=1∨n=2)
set_option maxHeartbeats 2000000 in
theorem AR5 (G:Nat→AV)(op:Int)(vs:List Nat)(o:Nat)(H:Hp)(ho:H[o]? = some (.live 1 (vs.map KH)))(hv : ∀ x∈vs,x < 65536)(hl:vs.length≤1048576)(hops:AXS op vs.length) :
  PCall (En G) 221 [.int .i64 op,.own o 0 vs.length] H (.int .i64 (opW op vs:Nat)):=by
 have hix : ∀ k:Nat,k < vs.length→JZ 1 H (.own o 0 vs.length) (.int .i64 (k:Nat))=some (.ptr o k 0):=fun k hk=>by rw[II ho hk,jG]
 have hld : ∀ (k:Nat) (hk:k < vs.length),D5 Tryz.prog H 3 (.ptr o k 0)=some (.int .i64 (vs[k]:Nat)):=fun k hk=>by rw[DU ag3 ho (row:=KH vs[k]) (row_map hk)]; rfl
 have h1:1≤vs.length:=by
  obtain⟨a,b,c⟩:=hops
  by_cases e:op=22
  ·have:=a e; omega
  by_cases e':op=23
  ·have:=b e'; omega
  ·have:=c e e'; omega
 have i0:JZ 1 H (.own o 0 vs.length) (.int .i64 0)=some (.ptr o 0 0):=hix 0 h1
 have d0:=hld 0 h1
 have g0:vs.getD 0 0=vs[0]:=by rw[zZ,jO h1]; rfl
 have v0:vs[0] < 65536:=hv _ (jS _)
 refine acN Tryz.func221 rfl ?_
 show awp _ _ _ _ _ (EJ _ [.tmp 4] _)
 by_cases e22:op=22
 ·subst e22
  have hl3:vs.length=3:=hops.1 rfl
  have i1:JZ 1 H (.own o 0 vs.length) (.int .i64 1)=some (.ptr o 1 0):=hix 1 (by omega)
  have i2:JZ 1 H (.own o 0 vs.length) (.int .i64 2)=some (.ptr o 2 0):=hix 2 (by omega)
  have d1:=hld 1 (by omega)
  have d2:=hld 2 (by omega)
  have g1:vs.getD 1 0=vs[1]:=by rw[zZ,jO (by omega)]; rfl
  have g2:vs.getD 2 0=vs[2]:=by rw[zZ,jO (by omega)]; rfl
  simp -implicitDefEqProofs only[vQ,BD,↓reduceIte,jB,enP,JJ,qH,i0,d0,eqz,nez]
  cases hz:(vs[0] == 0)
  ·simp -implicitDefEqProofs only[vQ,BD,↓reduceIte,jB,enP,JJ,i1,d1]
   have:vs[0]≠0:=by simpa using hz
   exact⟨by unfold opW; rw[if_pos rfl,g0,if_pos this,g1],trivial⟩
  ·simp -implicitDefEqProofs only[vQ,BD,↓reduceIte,jB,jV,enP,JJ,i2,d2]
   have : ¬ vs[0]≠0:=by simpa using hz
   exact⟨by unfold opW; rw[if_pos rfl,g0,if_neg this,g2],trivial⟩
 by_cases e23:op=23
 ·subst e23
  obtain⟨hodd,h3⟩:=hops.2.1 rfl
  simp -implicitDefEqProofs only[vQ,BD,↓reduceIte,jB,enP,qH]
  have hval:opW 23 vs=tr (insW vs[0] (vs.drop 1)):=by unfold opW; rw[if_neg (by decide),if_pos rfl,g0]
  rw[hval]
  refine DK (fun n F H' => ∃ j,n+j=vs.length∧j % 2=1∧F 1 = .own o 0 vs.length∧F 5 = .int .i64 (j:Nat)∧H'=H∧insW vs[0] (vs.drop 1)=insW vs[0] (vs.drop j)) (vs.length - 1) ⟨1,by omega,rfl,by simp -implicitDefEqProofs only[vQ,↓reduceIte,jB],by simp -implicitDefEqProofs only[AA,↓reduceIte] <;> rfl,rfl,rfl⟩ ?_
  rintro n F H' ⟨j,hj,hj2,f1,f5,rfl,hin⟩
  simp -implicitDefEqProofs only[vQ,BD,↓reduceIte,jB,enP,JV,f1,f5,wrap_succ (show j < 9223372036854775807 by omega)]
  refine CU (fun hc => ?_) (fun hc => ?_)
  ·have hc':j+1 < vs.length:=by simp at hc; omega
   have ij:=hix j (by omega)
   have ij1:=hix (j+1) hc'
   have dj:=hld j (by omega)
   have dj1:=hld (j+1) hc'
   rw[ASO _ _ _ hc'] at hin
   have e2:IntKind.i64.wrap (((j:Nat):Int)+2)=((j+2:Nat):Int):=by rw[wrap_i64 (by omega) (by omega)]; omega
   have es:IntKind.i64.wrap (((j:Nat):Int)+1)=((j+1:Nat):Int):=wrap_succ (show j < 9223372036854775807 by omega)
   simp -implicitDefEqProofs only[vQ]
   refine ET (by kernel_rfl) ?_
   simp -implicitDefEqProofs only[vQ,CO,↓reduceIte,jB,jP,enP,JJ,f1,f5,i0,d0,ij,dj,es,ij1,dj1,lec,gec]
   cases ha:decide (vs[j]≤vs[0])
   ·simp -implicitDefEqProofs only[vQ,AE4,CO,BD,EY,↓reduceIte,jB,jP,enP,ha,f5,e2]
    exact⟨n - 2,by omega,j+2,by omega,by omega,by trivial,by first | rfl | trivial,trivial,by rw[hin,ha]; rfl⟩
   ·cases hb:decide (vs[0]≤vs[j+1])
    ·simp -implicitDefEqProofs only[vQ,QA,CO,BD,↓reduceIte,jB,jP,enP,JJ,ha,hb,f1,f5,es,ij1,dj1,lec,i0,d0,e2]
     exact⟨n - 2,by omega,j+2,by omega,by omega,by trivial,by first | rfl | trivial,trivial,by rw[hin,ha,hb]; rfl⟩
    ·simp -implicitDefEqProofs only[vQ,QA,CO,BD,↓reduceIte,jB,jP,enP,JJ,ha,hb,f1,f5,es,ij1,dj1,lec,i0,d0]
     exact⟨by rw[hin,ha,hb]; rfl,trivial⟩
  ·have hc':vs.length≤j+1:=by simp at hc; omega
   simp -implicitDefEqProofs only[vQ,BD,↓reduceIte]
   exact⟨by rw[hin,AVR _ _ _ hc']; rfl,trivial⟩
 ·have n12:=hops.2.2 e22 e23
  have c1:(op == 22)=false:=beq_eq_false_iff_ne.2 e22
  have c2:(op == 23)=false:=beq_eq_false_iff_ne.2 e23
  have hval:opW op vs=if vs.length=1 then sgW op (vs.getD 0 0) else dbW op (vs.getD 0 0) (vs.getD 1 0):=by unfold opW; rw[if_neg e22,if_neg e23]
  rw[hval]
  simp -implicitDefEqProofs only[vQ,BD,↓reduceIte,jB,enP,JV,c1,c2]
  refine CU (fun hc => ?_) (fun hc => ?_)
  ·have hl1:vs.length=1:=by simp at hc; omega
   simp -implicitDefEqProofs only[vQ,BD,↓reduceIte,jB,enP,JJ,i0,d0]
   refine(AJ3 G op _ v0 H).use ?_
   simp -implicitDefEqProofs only[vQ,BD,↓reduceIte]
   exact⟨by rw[if_pos hl1,g0],trivial⟩
  ·have hl1:vs.length≠1:=by simp at hc; omega
   have i1:JZ 1 H (.own o 0 vs.length) (.int .i64 1)=some (.ptr o 1 0):=hix 1 (by omega)
   have d1:=hld 1 (by omega)
   have g1:vs.getD 1 0=vs[1]:=by rw[zZ,jO (by omega)]; rfl
   have v1:vs[1] < 65536:=hv _ (jS _)
   simp -implicitDefEqProofs only[vQ]
   refine ET (by kernel_rfl) ?_
   simp -implicitDefEqProofs only[vQ,↓reduceIte,jB,jP,enP,JJ,i0,d0,i1,d1]
   refine⟨_,AL7 G op _ _ v0 v1 H,?_⟩
   exact⟨by rw[if_neg hl1,g0,g1],trivial⟩
def AJP (l:List Sg)(op n:Int)(name:ByteArray)(vs:List Nat):Nat :=
 if op=1 then n.toNat % 65536 else if op=2 then (O4 l name).1 else if op=3 then (atG l name (vs.getD 0 0:Nat)).1 else if op=24 then sumTo l name 8 else opW op vs
mutual
def AE9 (l:List Sg):Ex→Nat
 | .mk op n name _ args=>AJP l op n name (NF l args)
def NF (l:List Sg):List Ex→List Nat
 | [] => []
 | e :: es=>AE9 l e :: NF l es
end
theorem APU (l:List Sg)(e:Ex):AE9 l e=AJP l e.op e.n e.name (NF l e.args):=by cases e; simp [AE9,Ex.op,Ex.n,Ex.name,Ex.args]
theorem QK (l:List Sg) : ∀ xs:List Ex,NF l xs=xs.map (AE9 l)
 | []=>by simp [NF]
 | e :: es=>by simp [NF,QK l es]
theorem AF7 (l:List Sg)(xs:List Ex):(NF l xs).length=xs.length:=by rw[QK,jH]
theorem ANG (l:List Sg)(xs:List Ex)(j:Nat)(hj:j < xs.length):NF l (xs.take (j+1))=NF l (xs.take j)++[AE9 l xs[j]]:=by
 rw[QK,QK,List.take_succ_eq_append_getElem hj,List.map_append]; rfl
theorem APT (l:List Sg)(e:Ex):AE9 l e < 65536:=by
 induction e using Ex.induct with | h e ih => ?_
 rw[APU]
 have hv : ∀ x∈NF l e.args,x < 65536:=by
  intro x hx
  rw[QK] at hx
  obtain⟨a,ha,rfl⟩:=zI.1 hx
  exact ih a ha
 unfold AJP
 split
 ·exact qQ _ (by omega)
 split
 ·exact ADW _ _
 split
 ·exact AXD _ _ _
 split
 ·exact AJU _ _ _
 ·exact A2T _ hv
theorem AT7 (l:List Sg)(xs:List Ex) : ∀ x∈NF l xs,x < 65536:=by
 intro x hx
 rw[QK] at hx
 obtain⟨a,_,rfl⟩:=zI.1 hx
 exact APT l a
def knE (l:List Sg)(e:Ex):Bool:=if e.op=2 then (O4 l e.name).2 else if e.op=3∨e.op=24 then (atG l e.name 0).2 else true
theorem AU7 {e:Ex}(h:KJ e=0):(e.op=1→0≤e.n∧e.n≤65535)∧(e.op=3→e.args.length=1)∧(e.op≠1→e.op≠2→e.op≠3→e.op≠24→AXS e.op e.args.length):=by
 unfold KJ at h
 have hO:badO e=false:=by
  cases hb:badO e
  ·rfl
  ·rw[hb] at h; simp at h
 have hN:AFX e=false:=by
  cases hb:AFX e
  ·rfl
  ·rw[hO,hb] at h; simp at h
 have hS:AEO e=false:=by
  cases hb:AEO e
  ·rfl
  ·rw[hO,hN,hb] at h; simp at h
 have hops:ZU e.op e.args.length=true:=by
  unfold AEO at hS
  rw[Bool.or_eq_false_iff] at hS
  simpa using hS.2
 have h1:1≤e.op∧e.op≤25:=by unfold badO at hO; simp at hO; omega
 refine⟨fun h1 => ?_,fun h3 => ?_,fun n1 n2 n3 n24=>⟨fun h22 => ?_,fun h23 => ?_,fun n22 n23 => ?_⟩⟩
 ·unfold AFX at hN; simp [h1] at hN; omega
 ·unfold ZU at hops; rw[h3] at hops; simp [arity] at hops; omega
 ·unfold ZU at hops; rw[h22] at hops; simp [arity] at hops; omega
 ·unfold ZU at hops; rw[h23] at hops; simp at hops; omega
 ·unfold ZU at hops
  rw[if_neg (by simpa using n23)] at hops
  have h5:arity e.op=1∨arity e.op=2:=by
   by_cases hq:e.op=3∨e.op=4∨e.op=5∨e.op=6∨e.op=25
   ·left; unfold arity; rw[if_neg (by omega),if_neg (by omega),if_pos hq]
   ·right; unfold arity; rw[if_neg (by omega),if_neg (by omega),if_neg hq,if_neg n22,if_neg n23]
  have h6:((e.args.length:Nat):Int)=arity e.op:=by simpa using hops
  omega
theorem str_eq {a b:ByteArray}(h:(a.toList == b.toList)=true):a=b:=by
 rw[ByteArray.toList_eq,ByteArray.toList_eq] at h
 exact ByteArray.ext (Array.toList_inj.1 (beq_iff_eq.1 h))
theorem AY6 (P:ByteArray→Bool)(ops:List Int)(ns:List ByteArray)(e:Ex):(nmU ops ns e).all P=(ns.all P && (!Rk.hasB ops e.op || P e.name)):=by
 unfold nmU
 cases hb:Rk.hasB ops e.op
 ·simp
 cases hs:IZ ns e.name
 ·simp
 ·simp
  intro ha
  unfold IZ at hs
  rw[List.any_eq_true] at hs
  obtain⟨u,hu,he⟩:=hs
  rw[str_eq he]; exact ha u hu
theorem AH5 (P:ByteArray→Bool)(ops:List Int) : ∀ (xs:List Ex) (ns:List ByteArray),(nmL ops ns xs).all P=(ns.all P && xs.all fun e => !Rk.hasB ops e.op || P e.name)
 | [],ns=>by simp [nmL]
 | e :: xs,ns=>by
   have:=AH5 P ops xs (nmU ops ns e)
   simp only[nmL,List.foldl_cons,wG] at this ⊢
   rw[this,AY6,Bool.and_assoc]
theorem ASE (l:List Sg)(xs:List Ex):((nmL [2] [] xs).all (fun n=>(O4 l n).2) && (nmL [3,24] [] xs).all fun n=>(atG l n 0).2)=xs.all (knE l):=by
 rw[AH5,AH5,Bool.eq_iff_iff]
 simp only[List.all_nil,qO,Bool.and_eq_true,List.all_eq_true]
 constructor
 ·rintro⟨h1,h2⟩ x hx
  have a:=h1 x hx
  have b:=h2 x hx
  unfold knE
  unfold Rk.hasB at a b
  by_cases e2:x.op=2
  ·rw[if_pos e2]; simpa [e2] using a
  by_cases e3:x.op=3∨x.op=24
  ·rw[if_neg e2,if_pos e3]; rcases e3 with e3 | e3 <;> simpa [e3] using b
  ·rw[if_neg e2,if_neg e3]
 ·intro h
  refine⟨fun x hx => ?_,fun x hx => ?_⟩
  ·have a:=h x hx
   unfold knE at a
   unfold Rk.hasB
   by_cases e2:x.op=2
   ·rw[if_pos e2] at a; simp [e2,a]
   ·have : ¬ 2=x.op:=fun q=>e2 q.symm
    simp [this]
  ·have a:=h x hx
   unfold knE at a
   unfold Rk.hasB
   by_cases e3:x.op=3∨x.op=24
   ·have e2 : ¬ x.op=2:=by omega
    rw[if_neg e2,if_pos e3] at a; simp [a]
   ·have e4 : ¬ 3=x.op:=fun q=>e3 (.inl q.symm)
    have e5 : ¬ 24=x.op:=fun q=>e3 (.inr q.symm)
    simp [e4,e5]
theorem AM3 {α:Type}(P:α→Bool)(xs:List α)(k:Nat)(hk:k < xs.length):(xs.drop k).all P=(P xs[k] && (xs.drop (k+1)).all P):=by
 rw[zN hk]; rfl
theorem AQB (ops:List Int) : ∀ (xs:List Ex) (ns:List ByteArray) (n:ByteArray),n∈nmL ops ns xs→n∈ns∨∃ x∈xs,n=x.name
 | [],ns,n,h => .inl h
 | e :: xs,ns,n,h=>by
   rcases AQB ops xs (nmU ops ns e) n h with h1 | ⟨x,hx,hn⟩
   ·unfold nmU at h1
    split at h1
    ·rcases List.mem_append.1 h1 with h2 | h2
     ·exact .inl h2
     ·exact .inr ⟨e,by simp,by simpa using h2⟩
    ·exact .inl h1
   ·exact .inr ⟨x,yA _ hx,hn⟩
section
variable (G:Nat→AV)
theorem AOC (l:List Sg)(m:SM)(e:Ex)(h:Hp)(hl:l.length≤1099511627776)(hw:wt e≤1048576):PCall (En G) 189 [.agg [.sl m 2 (l.map JC)],.agg (CX e)] h (.bool ((pre e).all (knE l))):=by
 refine ACalls.pure0 rfl ?_
 rw[← ASE]
 have hpl:=AH0 e
 have hn1:=AB2 [2] (pre e) []
 have hn2:=AB2 [3,24] (pre e) []
 have hm2 : ∀ n∈nmL [3,24] [] (pre e),n.size≤1048576:=fun n hn=>by
  rcases AQB _ _ _ n hn with h1 | ⟨x,hx,rfl⟩
  ·cases h1
  ·have:=AKO hx; omega
 have hN:=APM G e hw
 have hA:=AM9 G e hw
 simp only[List.length_nil,jG] at hn1 hn2
 generalize nmL [2] [] (pre e)=ns at hn1 hN ⊢
 generalize nmL [3,24] [] (pre e)=ars at hn2 hA hm2 ⊢
 refine acN Tryz.func189 rfl ?_
 show awp _ _ _ _ _ (EJ _ [.tmp 4] _)
 have gs:=CP (x:=ABlk.live 4 [CX e]) (CZ h (ABlk.live 1 [[.sl m 2 (l.map JC)]]))
 have ge:=CZ (h++[ABlk.live 1 [[.sl m 2 (l.map JC)]]]) (ABlk.live 4 [CX e])
 have hx:ext h (h++[ABlk.live 1 [[.sl m 2 (l.map JC)]]]++[ABlk.live 4 [CX e]]):=((ext.rfl' h).app _).app _
 simp -implicitDefEqProofs only[vQ,BD,↓reduceIte,jB,enP,AMP h (.sl m 2 (l.map JC)) rfl,bxE]
 generalize h++[ABlk.live 1 [[.sl m 2 (l.map JC)]]]++[ABlk.live 4 [CX e]]=H at gs ge hx ⊢
 generalize (h++[ABlk.live 1 [[.sl m 2 (l.map JC)]]]).length=eb at ge ⊢
 simp -implicitDefEqProofs only[vQ,BD,↓reduceIte,OO ge]
 refine(hN H).use ?_
 simp -implicitDefEqProofs only[vQ,BD,↓reduceIte,enP,AK8,jH]
 refine G6 0 (fun F H'=>F 2 = .ptr h.length 0 0∧F 3 = .ptr eb 0 0∧H'=H∧ns.all (fun n=>(O4 l n).2)=true) (fun F H'=>F 4 = .bool false∧H'=H∧ns.all (fun n=>(O4 l n).2)=false) ?_ ?_ ?_
 ·refine DK (fun k F H' => ∃ j,k+j=ns.length∧F 2 = .ptr h.length 0 0∧F 3 = .ptr eb 0 0∧F 14 = .sl (nm ns) 1 (ns.map encStr)∧F 15 = .int .i64 (ns.length:Nat)∧F 16 = .int .i64 (j:Nat)∧H'=H∧ns.all (fun n=>(O4 l n).2)=(ns.drop j).all fun n=>(O4 l n).2) ns.length ⟨0,by simp,by simp -implicitDefEqProofs only[AA,↓reduceIte,jB],by simp -implicitDefEqProofs only[AA,↓reduceIte,jB],by simp -implicitDefEqProofs only[AA,↓reduceIte,jB],by simp -implicitDefEqProofs only[AA,↓reduceIte,jB],by simp -implicitDefEqProofs only[AA,↓reduceIte]; rfl,rfl,rfl⟩ ?_
  rintro k F H' ⟨j,hj,f2,f3,f14,f15,f16,rfl,hall⟩
  simp -implicitDefEqProofs only[vQ,BD,↓reduceIte,enP,f15,f16]
  refine CU (fun hc => ?_) (fun hc => ?_)
  ·have hj':j < ns.length:=by simpa using hc
   rw[AM3 _ ns j hj'] at hall
   simp -implicitDefEqProofs only[vQ,BD,↓reduceIte,jB,enP,ASJ,f2,f14,f16,DL hj',C9 ag9 hj',encStr0,WU gs]
   refine(AAB G l m _ H' hl).use ?_
   unfold WR
   simp -implicitDefEqProofs only[vQ,zM,zO,BD,↓reduceIte,jB]
   cases hk:(O4 l ns[j]).2
   ·simp -implicitDefEqProofs only[vQ,BD,↓reduceIte]
    exact⟨trivial,trivial,by rw[hall,hk]; rfl⟩
   ·simp -implicitDefEqProofs only[vQ,BD,↓reduceIte,jB,jV,enP,f2,f3,f14,f15,f16,wrap_succ (show j < 9223372036854775807 by omega)]
    exact⟨k - 1,by omega,j+1,by omega,by trivial,by trivial,by trivial,by trivial,by trivial,trivial,by rw[hall,hk]; rfl⟩
  ·have hj' : ¬ j < ns.length:=by simpa using hc
   simp -implicitDefEqProofs only[vQ,↓reduceIte,jB]
   exact⟨f2,f3,trivial,by rw[hall,jZ (by omega)]; rfl⟩
 ·rintro F H' ⟨f2,f3,rfl,hall⟩
  rw[hall,qO]
  simp -implicitDefEqProofs only[vQ,BD,↓reduceIte,enP,f3,OO ge]
  refine(hA H').use ?_
  simp -implicitDefEqProofs only[vQ,BD,↓reduceIte,enP,AK8,jH]
  refine DK (fun k F' H2 => ∃ j,k+j=ars.length∧F' 2 = .ptr h.length 0 0∧F' 30 = .sl (nm ars) 1 (ars.map encStr)∧F' 31 = .int .i64 (ars.length:Nat)∧F' 32 = .int .i64 (j:Nat)∧H2=H'∧ars.all (fun n=>(atG l n 0).2)=(ars.drop j).all fun n=>(atG l n 0).2) ars.length ⟨0,by simp,by simp -implicitDefEqProofs only[AA,↓reduceIte,jB,f2],by simp -implicitDefEqProofs only[AA,↓reduceIte,jB],by simp -implicitDefEqProofs only[AA,↓reduceIte,jB],by simp -implicitDefEqProofs only[AA,↓reduceIte]; rfl,rfl,rfl⟩ ?_
  rintro k F' H2 ⟨j,hj,g2,g30,g31,g32,rfl,hall2⟩
  simp -implicitDefEqProofs only[vQ,BD,↓reduceIte,enP,g31,g32]
  refine CU (fun hc => ?_) (fun hc => ?_)
  ·have hj':j < ars.length:=by simpa using hc
   rw[AM3 _ ars j hj'] at hall2
   simp -implicitDefEqProofs only[vQ,BD,↓reduceIte,jB,enP,ASJ,g2,g30,g32,DL hj',C9 ag9 hj',encStr0,WU gs]
   refine(AI2 G l m _ 0 H2 hl (hm2 _ (jS hj'))).use ?_
   unfold WR
   simp -implicitDefEqProofs only[vQ,zM,zO,BD,↓reduceIte,jB]
   cases hk:(atG l ars[j] 0).2
   ·simp -implicitDefEqProofs only[vQ,BD,↓reduceIte]
    exact⟨by rw[hall2,hk]; rfl,hx⟩
   ·simp -implicitDefEqProofs only[vQ,BD,↓reduceIte,jB,jV,enP,g2,g30,g31,g32,wrap_succ (show j < 9223372036854775807 by omega)]
    exact⟨k - 1,by omega,j+1,by omega,by first | trivial | exact g2,by first | trivial | exact g30,by first | trivial | exact g31,by trivial,trivial,by rw[hall2,hk]; rfl⟩
  ·have hj' : ¬ j < ars.length:=by simpa using hc
   simp -implicitDefEqProofs only[vQ,BD,↓reduceIte]
   exact⟨by rw[hall2,jZ (by omega)]; rfl,hx⟩
 ·rintro F H' ⟨f4,rfl,hall⟩
  simp -implicitDefEqProofs only[vQ,f4]
  exact⟨by rw[hall]; rfl,hx⟩
theorem encN0 (n:Nat):(KH n)[0]? = some (.int .i64 (n:Int)):=rfl
theorem AJN (l:List Sg)(m:SM)(hl:l.length≤1099511627776)(e:Ex):wt e≤1048576→(∀ x∈pre e,KJ x=0)→∀ h:Hp,PCall (En G) 190 [.agg [.sl m 2 (l.map JC)],.agg (CX e)] h (.int .i64 (AE9 l e:Nat)):=by
 induction e using Ex.induct with | h e ih => ?_
 intro hw hval h
 have hal:e.args.length≤1048576:=by have:=RG e.args; have:=LW e; omega
 have hnz:e.name.size≤1048576:=by have:=LW e; omega
 obtain⟨o1,o3,oo⟩:=AU7 (hval e (by rw[pre_eq]; simp))
 refine ACalls.pure0 rfl ?_
 refine acN Tryz.func190 rfl ?_
 show awp _ _ _ _ _ (EJ _ [.tmp 4] _)
 have gs:=CP (x:=ABlk.live 4 [CX e]) (CZ h (ABlk.live 1 [[.sl m 2 (l.map JC)]]))
 have ge:=CZ (h++[ABlk.live 1 [[.sl m 2 (l.map JC)]]]) (ABlk.live 4 [CX e])
 have hx:ext h (h++[ABlk.live 1 [[.sl m 2 (l.map JC)]]]++[ABlk.live 4 [CX e]]):=((ext.rfl' h).app _).app _
 simp -implicitDefEqProofs only[vQ,BD,↓reduceIte,jB,enP,MK,AMP h (.sl m 2 (l.map JC)) rfl,bxE]
 generalize h++[ABlk.live 1 [[.sl m 2 (l.map JC)]]]++[ABlk.live 4 [CX e]]=H1 at gs ge hx ⊢
 generalize (h++[ABlk.live 1 [[.sl m 2 (l.map JC)]]]).length=eb at ge ⊢
 have l3:D5 Tryz.prog H1 46 (.ptr eb 0 3)=some (.sl e.m 4 (e.args.map CX)):=by rw[DU PX ge (row:=CX e) rfl,ABC]
 simp -implicitDefEqProofs only[vQ,BD,↓reduceIte,enP,SK,l3,jH]
 refine G6 0 (fun F H => ∃ v,F 2 = .ptr h.length 0 0∧F 3 = .ptr eb 0 0∧F 5=v∧ext H1 H∧outG 1 KH H1 (NF l e.args) v H) (fun _ _=>False) ?_ ?_ (fun _ _ hh=>hh.elim)
 ·refine DK (fun k F H => ∃ j v,k+j=e.args.length∧F 2 = .ptr h.length 0 0∧F 3 = .ptr eb 0 0∧F 5=v∧F 13 = .sl e.m 4 (e.args.map CX)∧F 14 = .int .i64 (e.args.length:Nat)∧F 15 = .int .i64 (j:Nat)∧ext H1 H∧outG 1 KH H1 (NF l (e.args.take j)) v H) e.args.length
   ⟨0,.sl .nil 0 [],by simp,by simp -implicitDefEqProofs only[AA,↓reduceIte,jB],by simp -implicitDefEqProofs only[AA,↓reduceIte,jB],by simp -implicitDefEqProofs only[AA,↓reduceIte,jB],by simp -implicitDefEqProofs only[AA,↓reduceIte,jB],by simp -implicitDefEqProofs only[AA,↓reduceIte,jB],by simp -implicitDefEqProofs only[AA,↓reduceIte]; rfl,ext.rfl' H1,outG.nil _ _ _ _⟩ ?_
  rintro k F H ⟨j,v,hj,f2,f3,f5,f13,f14,f15,hxH,ho⟩
  simp -implicitDefEqProofs only[vQ,BD,↓reduceIte,enP,f14,f15]
  refine CU (fun hc => ?_) (fun hc => ?_)
  ·have hj':j < e.args.length:=by simpa using hc
   have hmem:e.args[j]∈e.args:=jS hj'
   have ho1:=ho.app [ABlk.live 4 [CX e.args[j]]]
   have hx1:=hxH.app [ABlk.live 4 [CX e.args[j]]]
   have htl:(NF l (e.args.take j)).length < 8388608:=by rw[AF7]; simp; omega
   obtain⟨v',H',ha,ho',_,hx',_,_⟩:=ho1.append (P:=Tryz.prog) XE sz3 ABL AAN (by omega) htl hx1 (AE9 l e.args[j])
   have ha':FZ Tryz.prog true (H++[ABlk.live 4 [CX e.args[j]]]) 26 26 v (.sl .full 1 [[.int .i64 ((AE9 l e.args[j]:Nat):Int)]])=some (v',H'):=ha
   simp -implicitDefEqProofs only[vQ,BD,↓reduceIte,jB,enP,WH,jT,f13,f15,DL hj',FM TQ LD GU hj',VZ,AFC _ _ [.int .i64 0,.int .i64 0,.str ⟨#[]⟩,.sl .nil 0 []] rfl,f2,f5,WU (FK hx1 gs),ldE]
   refine(ih e.args[j] hmem (by have:=TV hmem; have:=LW e; omega) (fun x hx=>hval x (by rw[pre_eq]; exact yA _ (AB0 hmem x hx))) _).use ?_
   simp -implicitDefEqProofs only[vQ,BD,↓reduceIte,jB,enP,f5,AO4,ha',f2,f3,f13,f14,f15,wrap_succ (show j < 9223372036854775807 by omega)]
   exact⟨k - 1,by omega,j+1,v',by omega,by trivial,by trivial,by trivial,by trivial,by trivial,by trivial,hx',by rw[ANG _ _ _ hj']; exact ho'⟩
  ·have hj' : ¬ j < e.args.length:=by simpa using hc
   rw[List.take_of_length_le (by omega)] at ho
   simp -implicitDefEqProofs only[vQ,↓reduceIte,jB]
   exact⟨v,f2,f3,f5,hxH,ho⟩
 ·rintro F H ⟨v,f2,f3,f5,hxH,ho⟩
  have gsH:=FK hxH gs
  have geH:=FK hxH ge
  have hxx:=hx.trans hxH
  have l0:D5 Tryz.prog H 3 (.ptr eb 0 0)=some (.int .i64 e.op):=by rw[DU ag3 geH (row:=CX e) rfl,KN]
  have l1:D5 Tryz.prog H 3 (.ptr eb 0 1)=some (.int .i64 e.n):=by rw[DU ag3 geH (row:=CX e) rfl,ABD]
  have l2:D5 Tryz.prog H 9 (.ptr eb 0 2)=some (.str e.name):=by rw[DU ag9 geH (row:=CX e) rfl,QY]
  have hvl:=AF7 l e.args
  rw[APU]
  simp -implicitDefEqProofs only[vQ,BD,↓reduceIte,enP,JE,f3,l0]
  by_cases e1:e.op=1
  ·have c1:(e.op == 1)=true:=by simpa using e1
   simp -implicitDefEqProofs only[vQ,BD,↓reduceIte,jB,enP,AAC,c1,f3,l1]
   have:=o1 e1
   exact⟨by unfold AJP; rw[if_pos e1]; congr 1; omega,hxx⟩
  have c1:(e.op == 1)=false:=by simpa using e1
  by_cases e2:e.op=2
  ·have c2:(e.op == 2)=true:=by simpa using e2
   simp -implicitDefEqProofs only[vQ,BD,↓reduceIte,jB,enP,MP,c1,c2,f2,f3,l2,WU gsH]
   refine(AAB G l m _ H hl).use ?_
   unfold WR
   simp -implicitDefEqProofs only[vQ,zM,zO,BD,↓reduceIte,jB]
   exact⟨by unfold AJP; rw[if_neg e1,if_pos e2],hxx⟩
  have c2:(e.op == 2)=false:=by simpa using e2
  by_cases e3:e.op=3
  ·have c3:(e.op == 3)=true:=by simpa using e3
   have hl1:=o3 e3
   obtain⟨o,rfl,hob⟩ : ∃ o,v = .own o 0 1∧H[o]? = some (.live 1 ((NF l e.args).map KH)):=by
    rcases ho with⟨h0,_⟩ | ⟨_,o,_,rfl,hb⟩
    ·rw[h0] at hvl; simp at hvl; omega
    ·exact⟨o,by rw[hvl,hl1],hb⟩
   have hlen:0 < (NF l e.args).length:=by omega
   have i0:JZ 1 H (.own o 0 1) (.int .i64 0)=some (.ptr o 0 0):=II (n:=0) hob (by decide)
   have d0:D5 Tryz.prog H 3 (.ptr o 0 0)=some (.int .i64 ((NF l e.args).getD 0 0:Nat)):=by
    rw[DU ag3 hob (row:=KH (NF l e.args)[0]) (row_map hlen),zZ,jO hlen]; rfl
   simp -implicitDefEqProofs only[vQ,BD,↓reduceIte,jB,enP,c1,c2,c3]
   refine ET (by kernel_rfl) ?_
   simp -implicitDefEqProofs only[vQ,MH,↓reduceIte,jB,jP,enP,JJ,MP,f2,f3,f5,l2,WU gsH,i0,d0]
   refine⟨_,AI2 G l m _ _ H hl hnz,?_⟩
   unfold WR
   simp -implicitDefEqProofs only[vQ,zM,zO,MH,BD,↓reduceIte,jB,jP]
   exact⟨by unfold AJP; rw[if_neg e1,if_neg e2,if_pos e3],hxx⟩
  have c3:(e.op == 3)=false:=by simpa using e3
  by_cases e24:e.op=24
  ·have c24:(e.op == 24)=true:=by simpa using e24
   simp -implicitDefEqProofs only[vQ,BD,↓reduceIte,jB,enP,MP,c1,c2,c3,c24,f2,f3,l2,WU gsH]
   refine(AUE G l m _ H hl hnz).use ?_
   simp -implicitDefEqProofs only[vQ,BD,↓reduceIte]
   exact⟨by unfold AJP; rw[if_neg e1,if_neg e2,if_neg e3,if_pos e24],hxx⟩
  have c24:(e.op == 24)=false:=by simpa using e24
  have hok:=oo e1 e2 e3 e24
  have hok':AXS e.op (NF l e.args).length:=by rw[hvl]; exact hok
  obtain⟨o,rfl,hob⟩ : ∃ o,v = .own o 0 (NF l e.args).length∧H[o]? = some (.live 1 ((NF l e.args).map KH)):=by
   rcases ho with⟨h0,_⟩ | ⟨_,o,_,rfl,hb⟩
   ·exfalso
    rw[h0] at hok'
    obtain⟨a,b,c⟩:=hok'
    by_cases q:e.op=22
    ·have:=a q; simp at this
    by_cases q':e.op=23
    ·have:=b q'; simp at this
    ·have:=c q q'; simp at this
   ·exact⟨o,rfl,hb⟩
  simp -implicitDefEqProofs only[vQ,BD,↓reduceIte,jB,enP,JE,c1,c2,c3,c24,f3,l0,f5]
  refine(AR5 G e.op _ o H hob (AT7 l _) (by omega) hok').use ?_
  simp -implicitDefEqProofs only[vQ,BD,↓reduceIte]
  exact⟨by unfold AJP; rw[if_neg e1,if_neg e2,if_neg e3,if_neg e24],hxx⟩
end
end Go.Proofs.YtfpagfhhhlljjaaGreatDoor.Xe
