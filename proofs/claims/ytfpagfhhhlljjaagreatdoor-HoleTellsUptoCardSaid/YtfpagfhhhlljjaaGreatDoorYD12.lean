/- Part 12 of the proof (H1, H2, H3, X1); no condition. -/
import Derived.Test.YtfpagfhhhlljjaaGreatDoorYD11
set_option linter.unusedVariables false
set_option linter.unusedSimpArgs false
set_option maxRecDepth 8000
namespace Go.Proofs.YtfpagfhhhlljjaaGreatDoor.Bins
open Sm
open Bool renaming not_false→jC
open List renaming length_map→jH,map_cons→jD,map_nil→jE,nil_append→qE,findIdx?_eq_some_iff_getElem→qZ,all_cons→wR,findIdx?_eq_none_iff→wC,append_nil→jF,getElem?_eq_getElem→jS,append_assoc→zH,getElem_mem→jP
open Nat renaming le_of_ble_eq_true→jI,reduceEqDiff→jB,add_zero→jK,zero_add→jG
open Option renaming getD_some→jA
instance:Inhabited Rs:=⟨⟨.nil,[]⟩⟩
set_option maxHeartbeats 400000 in
theorem Y3 (G:Nat→AV)(xs:List Rng)(m:SM)(v:Int)(h:Hp)(hl:xs.length≤1099511627776) :
  PCall (En G) 194 [.sl m 2 (xs.map encR),.int .i64 v] h (.bool (inside xs v)):=by
 refine acN Tryz.func194 rfl ?_
 show awp _ _ _ _ _ (EM _ [.tmp 4] _)
 simp -implicitDefEqProofs only[vQ,BD,enP]
 refine DL (fun n F H => ∃ k,n+k=xs.length∧F 0 = .sl m 2 (xs.map encR)∧F 1 = .int .i64 v∧F 5 = .int .i64 (k:Nat)∧H=h∧inside xs v=inside (xs.drop k) v) xs.length ⟨0,by simp,rfl,rfl,rfl,rfl,rfl⟩ ?_
 rintro n F H ⟨k,hk,f0,f1,f5,rfl,hin⟩
 simp -implicitDefEqProofs only[vQ,BD,↓reduceIte,jB,enP,PN,f0,f1,f5,jH]
 refine CU (fun hc => ?_) (fun hc => ?_)
 ·have hc':k < xs.length:=by simpa using hc
  have hs:inside (xs.drop k) v=(decide (xs[k].lo≤v) && decide (v≤xs[k].hi) || inside (xs.drop (k+1)) v):=KT _ xs k hc'
  simp -implicitDefEqProofs only[vQ,CP,BD,↓reduceIte,jB,enP,XX,UD,f0,f1,f5,DN hc',CY ag3 hc',TR,SK]
  refine I4 (fun ha => ?_) (fun ha => ?_)
  ·simp -implicitDefEqProofs only[vQ,CP,BD,↓reduceIte,jB,enP,XX,SI,f0,f1,f5,DN hc',CY ag3 hc',TR,SK,ha]
   refine CU (fun hb => ?_) (fun hb => ?_)
   ·simp -implicitDefEqProofs only[vQ,BD,↓reduceIte]
    exact⟨by rw[hin,hs,ha,hb]; rfl,trivial⟩
   ·simp -implicitDefEqProofs only[vQ,BD,↓reduceIte,jB,enP,f5,wrap_succ (show k < 9223372036854775807 by omega)]
    exact⟨n - 1,by omega,k+1,by omega,f0,f1,rfl,trivial,by rw[hin,hs,ha,hb]; rfl⟩
  ·simp -implicitDefEqProofs only[vQ,CP,BD,EW,↓reduceIte,jB,enP,ha,f5,wrap_succ (show k < 9223372036854775807 by omega)]
   exact⟨n - 1,by omega,k+1,by omega,f0,f1,rfl,trivial,by rw[hin,hs,ha]; rfl⟩
 ·have hc' : ¬ k < xs.length:=by simpa using hc
  simp -implicitDefEqProofs only[vQ,BD,↓reduceIte]
  exact⟨by rw[hin,List.drop_eq_nil_of_le (by omega)]; rfl,trivial⟩
theorem ATW (G:Nat→AV)(r:Rng)(b:Nat)(v:Int)(h:Hp)(hv:D8 Tryz.prog h 3 (.ptr b 0 0)=some (.int .i64 v)) :
  PCall (En G) 272 [.agg (encR r),.ptr b 0 0] h (.bool (decide (r.lo≤v) && decide (v≤r.hi))):=by
 refine ACalls.pure0 rfl ?_
 refine acN Tryz.func272 rfl ?_
 show awp _ _ _ _ _ (EM _ [.tmp 3] _)
 simp -implicitDefEqProofs only[vQ,CP,BD,↓reduceIte,jB,enP,UD,bxR,DW ag3,AL4 hv,TR,SK]
 refine I4 (fun ha => ?_) (fun ha => ?_)
 ·simp -implicitDefEqProofs only[vQ,CP,BD,↓reduceIte,jB,enP,SI,bxR,DW ag3,AL4 hv,TR,SK,ha]
  exact⟨by simp,_,rfl⟩
 ·simp -implicitDefEqProofs only[vQ,CP,BD,EW,↓reduceIte,jB,ha]
  exact⟨by simp,_,rfl⟩
theorem indexFunc (G:Nat→AV)(xs:List Rng)(m:SM)(fid:FuncId)(caps:List AV)(p:Rng→Bool)(h:Hp)(hl:xs.length≤1099511627776)
  (hf : ∀ r,PCall (En G) fid (.agg (encR r) :: caps) h (.bool (p r))) :
  PCall (En G) 180 [.sl m 2 (xs.map encR),.fn (.func fid) [] caps] h (.int .i64 (match xs.findIdx? p with | some i=>(i:Int) | none => -1)):=by
 refine acN Tryz.func180 rfl ?_
 show awp _ _ _ _ _ (EM _ [.tmp 4] _)
 simp -implicitDefEqProofs only[vQ,BD,↓reduceIte,jB,enP,PN,jH]
 refine DL (fun n F H => ∃ k,n+k=xs.length∧F 0 = .sl m 2 (xs.map encR)∧F 1 = .fn (.func fid) [] caps∧F 7 = .int .i64 xs.length∧F 8 = .int .i64 (k:Nat)∧H=h∧(xs.take k).all (fun r => !p r)=true) xs.length ⟨0,by simp,rfl,rfl,rfl,rfl,rfl,rfl⟩ ?_
 rintro n F H ⟨k,hk,f0,f1,f7,f8,rfl,hin⟩
 simp -implicitDefEqProofs only[vQ,BD,↓reduceIte,enP,f0,f1,f7,f8,jH]
 refine CU (fun hc => ?_) (fun hc => ?_)
 ·have hc':k < xs.length:=by simpa using hc
  simp -implicitDefEqProofs only[vQ,BD,qE,List.cons_append,↓reduceIte,jB,enP,XX,f0,f1,f7,f8,DN hc',FU ANQ UJ AAN hc']
  refine(hf _).use ?_
  simp -implicitDefEqProofs only[vQ,↓reduceIte]
  refine CU (fun hb => ?_) (fun hb => ?_)
  ·simp -implicitDefEqProofs only[vQ,BD,↓reduceIte,jB]
   refine⟨?_,trivial⟩
   rw[qZ.2 ⟨hc',hb,fun j hj=>by
    rw[List.all_eq_true] at hin
    have:=hin xs[j] (by rw[List.mem_take_iff_getElem]; exact⟨j,by omega,rfl⟩)
    simpa using this⟩]
  ·simp -implicitDefEqProofs only[vQ,BD,↓reduceIte,jB,enP,f8,wrap_succ (show k < 9223372036854775807 by omega)]
   refine⟨n - 1,by omega,k+1,by omega,f0,f1,f7,rfl,trivial,?_⟩
   rw[List.take_succ_eq_append_getElem hc',List.all_append,hin]
   simp only[wR,List.all_nil,hb]; rfl
 ·have hc' : ¬ k < xs.length:=by simpa using hc
  simp -implicitDefEqProofs only[vQ,BD,↓reduceIte]
  refine⟨?_,trivial⟩
  rw[List.take_of_length_le (by omega)] at hin
  rw[wC.2 (by simpa using hin)]
theorem AJ0 (G:Nat→AV)(xs:List Rng)(m:SM)(fid:FuncId)(caps:List AV)(p:Rng→Bool)(h:Hp)(hl:xs.length≤1099511627776)
  (hf : ∀ r,PCall (En G) fid (.agg (encR r) :: caps) h (.bool (p r))) :
  PCall (En G) 271 [.sl m 2 (xs.map encR),.fn (.func fid) [] caps] h (.bool (xs.any p)):=by
 refine acN Tryz.func271 rfl ?_
 show awp _ _ _ _ _ (EM _ [.tmp 4] _)
 simp -implicitDefEqProofs only[vQ,BD,↓reduceIte,jB,enP]
 refine(indexFunc G xs m fid caps p h hl hf).use ?_
 simp -implicitDefEqProofs only[vQ,BD,↓reduceIte,enP]
 refine⟨?_,trivial⟩
 cases hx:xs.findIdx? p with
 | some i =>
   obtain⟨h1,h2,_⟩:=qZ.1 hx
   have:xs.any p=true:=List.any_eq_true.2 ⟨xs[i],by simp,h2⟩
   simp [this]
 | none =>
   have:xs.any p=false:=by
    rw[wC] at hx
    rw[List.any_eq_false]; intro x hx2; simp [hx x hx2]
   simp [this]
theorem inside_prog (G:Nat→AV)(xs:List Rng)(m:SM)(v:Int)(h:Hp)(hl:xs.length≤1099511627776) :
  PCall (En G) 249 [.sl m 2 (xs.map encR),.int .i64 v] h (.bool (inside xs v)):=by
 refine ACalls.pure0 rfl ?_
 refine acN Tryz.func249 rfl ?_
 show awp _ _ _ _ _ (EM _ [.tmp 4] _)
 simp -implicitDefEqProofs only[vQ,ASH,BD,I5,↓reduceIte,jB,enP]
 refine(AJ0 G xs m 272 _ _ _ hl fun r=>ATW G r h.length v _ (DW ag3)).use ?_
 simp -implicitDefEqProofs only[vQ,BD,↓reduceIte]
 exact⟨rfl,_,rfl⟩
theorem ASD (G:Nat→AV)(xs:List Int)(m:SM)(h:Hp)(hl:xs.length≤16777216) :
  ACalls (En G) 157 [.sl m 1 (xs.map qencI)] h (AJ1 1 (xs.map qencI) h):=by
 refine ACalls.of_rep (cok _ _ (by kernel_rfl)) fun⟨g,cargs,ha⟩ => ?_
 refine acN Tryz.func157 rfl ?_
 show awp _ _ _ _ _ (EM _ [.tmp 2] _)
 simp -implicitDefEqProofs only[vQ,BD,↓reduceIte,jB,enP,A5X]
 refine CU (fun hc => ?_) (fun hc => ?_)
 ·have hm:m = .nil:=by simpa using hc
  subst hm
  simp -implicitDefEqProofs only[vQ,BD,↓reduceIte,decide_true]
  exact .inl ⟨AEL ha (i:=0) rfl,⟨_,rfl⟩,rfl⟩
 ·simp -implicitDefEqProofs only[vQ,BD,↓reduceIte,jB,enP,AYG]
  rcases Classical.em (xs = []) with hx | hx
  ·subst hx
   simp -implicitDefEqProofs only[vQ,BD,↓reduceIte,ANK VF sz3 (.inr rfl)]
   exact .inr (.inl ⟨rfl,rfl,rfl⟩)
  ·have hr:room (([]:List (List AV)).length+(xs.map qencI).length) 8:=JB (by simpa using hl) (by omega)
   have hne:xs.map qencI≠[]:=by simpa using hx
   simp -implicitDefEqProofs only[vQ,BD,qE,↓reduceIte,U5 VF sz3 YL XC (JF h m 1 (xs.map qencI)) hne hr]
   exact .inr (.inr ⟨by simpa using hx,by simp,by simp⟩)
def setAt (b:Bin)(i:Nat):List Rng:=((sets b)[i]?.getD default).l
def WC (last:List Int)(n:Nat)(v:Int)(i:Nat):Int:=if i+1 < n then last[last.length+1 - n+i]?.getD 0 else v
def AJH (b:Bin)(last:List Int)(v:Int)(k:Nat):Bool:=(List.range k).all fun i=>inside (setAt b i) (WC last (sets b).length v i)
def hit (b:Bin)(last:List Int)(v:Int):Bool:=decide (IA b=0) && decide ((sets b).length≤last.length+1) && AJH b last v (sets b).length
theorem ABO (b:Bin)(last:List Int)(v:Int)(k:Nat):AJH b last v (k+1)=(AJH b last v k && inside (setAt b k) (WC last (sets b).length v k)):=by
 unfold AJH; rw[List.range_succ,List.all_append,wR,List.all_nil,Bool.and_true]
theorem AJG {b:Bin}{last:List Int}{v:Int}{k n:Nat}(hk:k < n)(h:inside (setAt b k) (WC last (sets b).length v k)=false):AJH b last v n=false:=by
 unfold AJH; rw[List.all_eq_false]; exact⟨k,by simpa using hk,by simp [h]⟩
theorem ADR {b:Bin}(h:IA b=0):1≤(sets b).length:=by
 unfold IA at h
 split at h
 ·split at h
  ·cases h
  ·rename_i hr
   unfold sets
   split
   ·simp
   ·rename_i hz
    simp only[J6,Bool.not_eq_true,Bool.or_eq_false_iff] at hr
    have:=hr.1.1.1.2
    have hz':decide ((b.ranges.l.length:Int) > 0)=false:=decide_eq_false (by omega)
    rw[hz'] at this
    simp at this
    rcases hs:b.steps with _ | ⟨x,l⟩
    ·rw[hs] at this; simp at this
    ·simp
 ·cases h
theorem AW7 {xs:List Int}{i:Nat}(h:i < xs.length):(xs.map qencI)[i]? = some [.int .i64 xs[i]]:=by simp [h,qencI]
theorem APV (h:Hp)(v:Int):FM Tryz.prog false h 26 1 [(0,.int .i64 v)]=some (.sl .full 1 [[.int .i64 v]],h):=by kernel_rfl
def vals (last:List Int)(n:Nat)(v:Int):List Int:=last.drop (last.length+1 - n)++[v]
theorem AKM {last:List Int}{n:Nat}{v:Int}(h1:1≤n)(h2:n≤last.length+1):(vals last n v).length=n:=by simp [vals]; omega
theorem AVF {last:List Int}{n:Nat}{v:Int}{i:Nat}(h1:1≤n)(h2:n≤last.length+1)(hi:i < (vals last n v).length):(vals last n v)[i]=WC last n v i:=by
 have hl:=AKM (v:=v) h1 h2
 unfold vals WC at *
 rw[List.getElem_append]
 split
 ·rename_i h
  have h':i < last.length - (last.length+1 - n):=by simpa using h
  rw[if_pos (by omega),List.getElem_drop,jS (by omega)]
  rfl
 ·rename_i h
  have h' : ¬ i < last.length - (last.length+1 - n):=by simpa using h
  rw[if_neg (by omega)]
  simp
theorem hit_prog (G:Nat→AV)(hG:KwG G)(b:Bin)(hb:BinOk b)(last:List Int)(m:SM)(v:Int)(h:Hp)(hl:last.length≤8388608) :
  PCall (En G) 248 [.agg (G9 b),.sl m 1 (last.map qencI),.int .i64 v] h (.bool (hit b last v)):=by
 refine ACalls.pure0 rfl ?_
 refine acN Tryz.func248 rfl ?_
 show awp _ _ _ _ _ (EM _ [.tmp 6] _)
 simp -implicitDefEqProofs only[vQ,BD,↓reduceIte,jB,enP,bxB,ldB]
 refine(valid_prog G hG b hb _).use ?_
 simp -implicitDefEqProofs only[vQ,BD,↓reduceIte,enP]
 refine CU (fun hv => ?_) (fun hv => ?_)
 ·simp -implicitDefEqProofs only[vQ,BD,↓reduceIte]
  refine⟨?_,_,rfl⟩
  have:IA b≠0:=by simpa using hv
  simp [hit,this]
 have hv0:IA b=0:=by simpa using hv
 have h1:=ADR hv0
 have hnum:=hb.num
 simp -implicitDefEqProofs only[vQ,BD,↓reduceIte,jB,enP,ldB]
 refine(AHD G b _).use ?_
 have hw:IntKind.i64.wrap (((sets b).length:Int) - 1)=(((sets b).length - 1:Nat):Int):=by rw[wrap_i64 (by omega) (by omega)]; omega
 simp -implicitDefEqProofs only[vQ,BD,↓reduceIte,jB,enP,IZ,V4,jH,hw]
 refine CU (fun hc => ?_) (fun hc => ?_)
 ·simp -implicitDefEqProofs only[vQ,BD,↓reduceIte]
  refine⟨?_,_,rfl⟩
  have : ¬ (sets b).length≤last.length+1:=by simp at hc; omega
  simp [hit,this]
 have hc':(sets b).length≤last.length+1:=by simp at hc; omega
 have hw2:IntKind.i64.wrap ((last.length:Int) - (((sets b).length - 1:Nat):Int))=((last.length+1 - (sets b).length:Nat):Int):=by rw[wrap_i64 (by omega) (by omega)]; omega
 simp -implicitDefEqProofs only[vQ,Option.map_some,Option.map_none,BD,TE,↓reduceIte,jB,enP,IZ,V4,jH,hw,hw2,AQ1 VF sz3 (h:=h++[.live 4 [G9 b]]) (m:=m) (kk := .i64) (xs:=last.map qencI) (l:=last.length+1 - (sets b).length) (by simp; omega),← List.map_drop]
 refine(ASD G _ m _ (by simp; omega)).mono fun vv H' hcl => ?_
 have hn:=AKM (v:=v) h1 hc'
 refine AG5 (fun F H=>F 7 = .sl (TI b) 1 ((sets b).map encS)∧∃ o,F 8 = .own o 0 (sets b).length∧H[o]? = some (.live 1 ((vals last (sets b).length v).map qencI))∧∃ x,H=h++x) ?_ ?_
 ·have hv1:([[AV.int .i64 v]]:List (List AV))≠[]:=by simp
  rcases hcl with⟨hx,⟨k0,rfl⟩,rfl⟩ | ⟨hx,rfl,rfl⟩ | ⟨hx,rfl,rfl⟩
  ·have hx':last.drop (last.length+1 - (sets b).length) = []:=by simpa using hx
   have e1:vals last (sets b).length v = [v]:=by unfold vals; rw[hx']; rfl
   rw[e1] at hn
   simp at hn
   simp -implicitDefEqProofs only[vQ,BD,↓reduceIte,jB,enP,APV,QE VF sz3 YL XC (JF (h++[ABlk.live 4 [G9 b]]) .full 1 [[AV.int .i64 v]]) hv1 (JB (by simp) (by omega))]
   exact⟨trivial,_,by rw[← hn]; rfl,by rw[e1]; simp [qencI],_,by rw[zH]⟩
  ·have hx':last.drop (last.length+1 - (sets b).length) = []:=by simpa using hx
   have e1:vals last (sets b).length v = [v]:=by unfold vals; rw[hx']; rfl
   rw[e1] at hn
   simp at hn
   simp -implicitDefEqProofs only[vQ,BD,qE,↓reduceIte,jB,enP,APV,U5 VF sz3 YL XC (JF (h++[ABlk.live 4 [G9 b]]) .full 1 [[AV.int .i64 v]]) (xs := []) hv1 (JB (by simp) (by omega))]
   exact⟨trivial,_,by rw[← hn]; rfl,by rw[e1]; simp [qencI],_,by rw[zH]⟩
  ·have hle:(last.drop (last.length+1 - (sets b).length)).length+1≤16777216:=by simp; omega
   simp -implicitDefEqProofs only[vQ,BD,↓reduceIte,jB,enP,APV,Q8 VF sz3 YL XC (AIA (h:=h++[ABlk.live 4 [G9 b]])) (JF ((h++[ABlk.live 4 [G9 b]])++[.live 1 ((last.drop (last.length+1 - (sets b).length)).map qencI)]) .full 1 [[AV.int .i64 v]]) hv1 (JB (by simpa using hle) (by omega))]
   refine⟨trivial,((h++[ABlk.live 4 [G9 b]])++[ABlk.live 1 ((last.drop (last.length+1 - (sets b).length)).map qencI)]).length,?_,?_,?_⟩
   ·congr 1
    rw[← hn]; simp [vals]; omega
   ·simp [vals,qencI]
   ·refine⟨[.live 4 [G9 b],.dead,.live 1 ((last.drop (last.length+1 - (sets b).length)).map qencI++[[AV.int .i64 v]])],?_⟩
    rw[zH,List.set_append_right _ _ (by simp)]
    simp
 rintro F H ⟨f7,o,f8,ho,hx⟩
 simp -implicitDefEqProofs only[vQ,BD,↓reduceIte,enP,IZ,f8]
 refine DL (fun n F H' => ∃ k,n+k=(sets b).length∧F 7 = .sl (TI b) 1 ((sets b).map encS)∧F 34 = .own o 0 (sets b).length∧F 35 = .int .i64 (sets b).length∧F 36 = .int .i64 (k:Nat)∧H'=H∧AJH b last v k=true) (sets b).length ⟨0,by simp,by simp -implicitDefEqProofs only[AA,↓reduceIte,jB,f7],by simp -implicitDefEqProofs only[AA,↓reduceIte,jB],by simp -implicitDefEqProofs only[AA,↓reduceIte,jB],by simp -implicitDefEqProofs only[AA,↓reduceIte]; rfl,rfl,rfl⟩ ?_
 rintro n F H' ⟨k,hk,f7,f34,f35,f36,rfl,hin⟩
 simp -implicitDefEqProofs only[vQ,BD,↓reduceIte,enP,f35,f36]
 refine CU (fun hd => ?_) (fun hd => ?_)
 ·have hd':k < (sets b).length:=by simpa using hd
  have hdv:k < (vals last (sets b).length v).length:=by omega
  have e1:((vals last (sets b).length v).map qencI)[k]? = some [.int .i64 (WC last (sets b).length v k)]:=by rw[AW7 hdv,AVF h1 hc' hdv]
  have e2:setAt b k=(sets b)[k].l:=by unfold setAt; simp [hd']
  simp -implicitDefEqProofs only[vQ,List.getElem?_cons_zero,BD,↓reduceIte,jB,enP,IB,AGO,f7,f34,f36,JR ho hd',DY ag3 ho e1,DN hd',CY SV hd',YH]
  refine(inside_prog G _ _ _ _ (hb.sets _ (jP hd'))).use ?_
  simp -implicitDefEqProofs only[vQ,BD,↓reduceIte]
  refine CU (fun hi => ?_) (fun hi => ?_)
  ·simp -implicitDefEqProofs only[vQ,BD,↓reduceIte]
   refine⟨?_,hx⟩
   have hi':inside (sets b)[k].l (WC last (sets b).length v k)=false:=by simpa using hi
   unfold hit
   rw[AJG hd' (by rw[e2]; exact hi')]; simp
  ·simp -implicitDefEqProofs only[vQ,BD,↓reduceIte,jB,enP,f36,wrap_succ (show k < 9223372036854775807 by omega)]
   refine⟨n - 1,by omega,k+1,by omega,f7,f34,f35,rfl,trivial,?_⟩
   rw[ABO,hin,e2]; simpa using hi
 ·have hd' : ¬ k < (sets b).length:=by simpa using hd
  simp -implicitDefEqProofs only[vQ,BD,↓reduceIte]
  refine⟨?_,hx⟩
  have:k=(sets b).length:=by omega
  subst this
  unfold hit; rw[hin,hv0]; simp [hc']
theorem hit_ref (G:Nat→AV)(b:Bin)(hb:BinOk b)(last:List Int)(m:SM)(v:Int)(h:Hp)(hl:last.length≤8388608) :
  PCall (En G) 167 [.agg (G9 b),.sl m 1 (last.map qencI),.int .i64 v] h (.bool (hit b last v)):=by
 refine ACalls.pure0 rfl ?_
 refine acN Tryz.func167 rfl ?_
 show awp _ _ _ _ _ (EM _ [.tmp 6] _)
 simp -implicitDefEqProofs only[vQ,BD,↓reduceIte,jB,enP,bxB,ldB]
 refine(valid_ref G b hb _).use ?_
 simp -implicitDefEqProofs only[vQ,BD,↓reduceIte,enP]
 refine CU (fun hv => ?_) (fun hv => ?_)
 ·simp -implicitDefEqProofs only[vQ,BD,↓reduceIte]
  refine⟨?_,_,rfl⟩
  have:IA b≠0:=by simpa using hv
  simp [hit,this]
 have hv0:IA b=0:=by simpa using hv
 have h1:=ADR hv0
 have hnum:=hb.num
 simp -implicitDefEqProofs only[vQ,BD,↓reduceIte,jB,enP,ldB]
 refine(AK3 G b _).use ?_
 have hw:IntKind.i64.wrap (((sets b).length:Int) - 1)=(((sets b).length - 1:Nat):Int):=by rw[wrap_i64 (by omega) (by omega)]; omega
 simp -implicitDefEqProofs only[vQ,CP,BD,↓reduceIte,jB,enP,IZ,V4,jH,hw]
 have hd1:(sets b).length - 1 < (sets b).length:=by omega
 have e2:setAt b ((sets b).length - 1)=(sets b)[(sets b).length - 1].l:=by unfold setAt; simp [hd1]
 have ev:WC last (sets b).length v ((sets b).length - 1)=v:=by unfold WC; rw[if_neg (by omega)]
 refine S9 (fun F H=>F 30 = .bool (decide (¬ (sets b).length≤last.length+1) || !inside (setAt b ((sets b).length - 1)) v)∧F 1 = .sl m 1 (last.map qencI)∧F 7 = .sl (TI b) 1 ((sets b).map encS)∧F 8 = .int .i64 ((sets b).length - 1:Nat)∧H=h++[.live 4 [G9 b]]) ?_ ?_
 ·refine I4 (fun hc => ?_) (fun hc => ?_)
  ·simp -implicitDefEqProofs only[vQ,CP,BD,EW,↓reduceIte,jB,hc]
   have : ¬ (sets b).length≤last.length+1:=by simp at hc; omega
   exact⟨by simp [this],trivial,trivial,trivial,trivial⟩
  ·simp -implicitDefEqProofs only[vQ,CP,BD,↓reduceIte,jB,enP,AGO,hc,DN hd1,CY SV hd1,YH]
   refine(Y3 G _ _ _ _ (hb.sets _ (jP hd1))).use ?_
   simp -implicitDefEqProofs only[vQ,CP,BD,↓reduceIte,jB,hc]
   have:(sets b).length≤last.length+1:=by simp at hc; omega
   exact⟨by simp [this,e2],trivial,trivial,trivial,trivial⟩
 rintro F H ⟨f30,f1,f7,f8,rfl⟩
 simp -implicitDefEqProofs only[vQ,f30]
 refine CU (fun hc => ?_) (fun hc => ?_)
 ·simp -implicitDefEqProofs only[vQ,BD,↓reduceIte]
  refine⟨?_,_,rfl⟩
  rw[Bool.or_eq_true] at hc
  rcases hc with h' | h'
  ·have : ¬ (sets b).length≤last.length+1:=by simpa using h'
   simp [hit,this]
  ·unfold hit
   rw[AJG hd1 (by rw[ev]; simpa using h')]; simp
 have hc1:(sets b).length≤last.length+1:=by
  have:=(Bool.or_eq_false_iff.1 hc).1
  simpa using this
 have hc2:inside (setAt b ((sets b).length - 1)) v=true:=by
  have:=(Bool.or_eq_false_iff.1 hc).2
  simpa using this
 simp -implicitDefEqProofs only[vQ,BD,f1,f7,f8]
 refine DL (fun n F H' => ∃ k,n+k=(sets b).length - 1∧F 1 = .sl m 1 (last.map qencI)∧F 7 = .sl (TI b) 1 ((sets b).map encS)∧F 8 = .int .i64 ((sets b).length - 1:Nat)∧F 9 = .int .i64 (k:Nat)∧H'=h++[.live 4 [G9 b]]∧AJH b last v k=true) ((sets b).length - 1) ⟨0,by simp,by simp -implicitDefEqProofs only[AA,↓reduceIte,jB,f1],by simp -implicitDefEqProofs only[AA,↓reduceIte,jB,f7],by simp -implicitDefEqProofs only[AA,↓reduceIte,jB,f8],by simp -implicitDefEqProofs only[AA,↓reduceIte]; rfl,rfl,rfl⟩ ?_
 rintro n F H' ⟨k,hk,f1,f7,f8,f9,rfl,hin⟩
 simp -implicitDefEqProofs only[vQ,BD,↓reduceIte,jB,enP,f8,f9]
 refine CU (fun hd => ?_) (fun hd => ?_)
 ·have hd':k < (sets b).length - 1:=by simp at hd; omega
  have hd2:k < (sets b).length:=by omega
  have hdl:last.length+1 - (sets b).length+k < last.length:=by omega
  have e3:setAt b k=(sets b)[k].l:=by unfold setAt; simp [hd2]
  have e4:WC last (sets b).length v k=last[last.length+1 - (sets b).length+k]:=by unfold WC; rw[if_pos (by omega),jS hdl]; rfl
  have w1:IntKind.i64.wrap ((last.length:Int) - (((sets b).length - 1:Nat):Int))=((last.length+1 - (sets b).length:Nat):Int):=by rw[wrap_i64 (by omega) (by omega)]; omega
  have w2:IntKind.i64.wrap (((last.length+1 - (sets b).length:Nat):Int)+(k:Int))=((last.length+1 - (sets b).length+k:Nat):Int):=by rw[wrap_i64 (by omega) (by omega)]; omega
  simp -implicitDefEqProofs only[vQ]
  refine EY (by kernel_rfl) ?_
  simp -implicitDefEqProofs only[vQ,AGI,↓reduceIte,jB,Nat.reduceAdd,enP,IB,IZ,AGO,f1,f7,f8,f9,jH,w1,w2,DN hd2,CY SV hd2,YH,DN hdl,CY ag3 hdl,encI0]
  refine⟨_,Y3 G _ _ _ _ (hb.sets _ (jP hd2)),?_⟩
  simp -implicitDefEqProofs only[vQ,↓reduceIte]
  refine CU (fun hi => ?_) (fun hi => ?_)
  ·simp -implicitDefEqProofs only[vQ,BD,↓reduceIte]
   refine⟨?_,_,rfl⟩
   have hi':inside (sets b)[k].l last[last.length+1 - (sets b).length+k]=false:=by simpa using hi
   unfold hit
   rw[AJG hd2 (by rw[e3,e4]; exact hi')]; simp
  ·simp -implicitDefEqProofs only[vQ,BD,↓reduceIte,jB,enP,f9,wrap_succ (show k < 9223372036854775807 by omega)]
   refine⟨n - 1,by omega,k+1,by omega,f1,f7,f8,rfl,trivial,?_⟩
   rw[ABO,hin,e3,e4]; simpa using hi
 ·have hd' : ¬ k < (sets b).length - 1:=by simp at hd; omega
  simp -implicitDefEqProofs only[vQ,BD,↓reduceIte]
  refine⟨?_,_,rfl⟩
  have:k=(sets b).length - 1:=by omega
  subst this
  have hall:AJH b last v (sets b).length=true:=by
   have:=ABO b last v ((sets b).length - 1)
   rw[show(sets b).length - 1+1=(sets b).length by omega] at this
   rw[this,hin,ev,hc2]; rfl
  unfold hit; rw[hall,hv0]; simp [hc1]
end Go.Proofs.YtfpagfhhhlljjaaGreatDoor.Bins
set_option linter.unusedSimpArgs false
set_option maxRecDepth 8000
namespace Go.Proofs.YtfpagfhhhlljjaaGreatDoor.Wd
open Sm Bins Cov Go.RowKit
open Bool renaming not_false→jC
open Int renaming toNat_natCast→qV
open List renaming map_cons→jD,map_nil→jE,append_nil→jF,nil_append→qE,cons_append→qO
open Nat renaming mod_lt→qQ,le_refl→jL,reduceAdd→jM,add_zero→jK,le_of_ble_eq_true→jI,reduceEqDiff→jB
open Option renaming getD_some→jA
def wW (z:Int):Nat:=(z % 65536).toNat
theorem AQS (z:Int):wW z < 65536:=by unfold wW; omega
theorem UA {a:Nat}(h:a < 65536):wW (a:Int)=a:=by unfold wW; omega
theorem AZI (z:Int):((wW z:Nat):Int)=z % 65536:=by unfold wW; omega
def LU (a i:Nat):Nat:=a / 2 ^ i % 2
def KU (a:Nat):Nat→Nat
 | 0=>0
 | k+1=>KU a k+LU a k
def WO (a:Nat):Nat:=KU a 16
def ABC (a:Nat)(n:Int):Nat:=if n < 0∨n≥16 then 0 else a * 2 ^ n.toNat % 65536
def YU (a:Nat)(n:Int):Nat:=if n < 0∨n≥16 then 0 else a / 2 ^ n.toNat
theorem ADI (a i:Nat):LU a i < 2:=qQ _ (by omega)
theorem PX (a:Nat) : ∀ k,KU a k≤k
 | 0=>jL 0
 | k+1=>by have:=PX a k; have:=ADI a k; unfold KU; omega
theorem TV (a i:Nat)(hi:i < 8):LU (a % 256) i=LU a i:=by
 unfold LU
 have:i=0∨i=1∨i=2∨i=3∨i=4∨i=5∨i=6∨i=7:=by omega
 rcases this with rfl | rfl | rfl | rfl | rfl | rfl | rfl | rfl <;> simp only[Nat.reducePow] <;> omega
theorem AYM (a i:Nat):LU (a / 256) i=LU a (8+i):=by
 unfold LU
 rw[Nat.div_div_eq_div_mul,Nat.pow_add]
theorem AWF (a:Nat):WO a=KU (a / 256) 8+KU (a % 256) 8:=by
 unfold WO
 simp only[KU,AYM,TV a 0 (by omega),TV a 1 (by omega),TV a 2 (by omega),TV a 3 (by omega),TV a 4 (by omega),TV a 5 (by omega),TV a 6 (by omega),TV a 7 (by omega),jM,jK]
 omega
theorem AVE {n:Int}(h0:0≤n)(h1:n < 65536):IntKind.u16.wrap n=n:=by
 have e:IntKind.u16.wrap n=n % 65536:=by simp [IntKind.wrap,IntKind.bits,IntKind.signed]
 rw[e]; omega
theorem UF (n:Int):IntKind.u16.wrap n=n % 65536:=by simp [IntKind.wrap,IntKind.bits,IntKind.signed]
theorem A11 (z:Int):JY Tryz.prog 3 .and (.int .i64 z) (.int .i64 65535)=some (.int .i64 ((wW z:Nat):Int)):=by
 have e:JY Tryz.prog 3 .and (.int .i64 z) (.int .i64 65535)=some (.int .i64 (IntKind.i64.wrap ((BitVec.ofInt 64 z &&& BitVec.ofInt 64 65535).toNat:Int))):=rfl
 rw[e,BitVec.toNat_and]
 have h1:(BitVec.ofInt 64 65535).toNat=2 ^ 16 - 1:=by decide
 rw[h1,Nat.and_two_pow_sub_one_eq_mod,BitVec.toNat_ofInt]
 have h2:((z % ((2 ^ 64:Nat):Int)).toNat % 2 ^ 16)=wW z:=by
  unfold wW
  simp only[Nat.reducePow]
  omega
 rw[h2,LQ (by have:=AQS z; omega)]
theorem AUM (a:Nat)(h:a < 65536):(BitVec.ofInt 64 (a:Int)).toNat=a:=by
 rw[BitVec.ofInt_natCast,BitVec.toNat_ofNat]
 exact Nat.mod_eq_of_lt (by omega)
theorem A7X (a b:Nat)(ha:a < 65536)(hb:b < 65536):JY Tryz.prog 3 .and (.int .i64 (a:Nat)) (.int .i64 (b:Nat))=some (.int .i64 ((a &&& b:Nat):Int)):=by
 have e:JY Tryz.prog 3 .and (.int .i64 (a:Nat)) (.int .i64 (b:Nat))=some (.int .i64 (IntKind.i64.wrap ((BitVec.ofInt 64 (a:Int) &&& BitVec.ofInt 64 (b:Int)).toNat:Int))):=rfl
 have hx:a &&& b < 2 ^ 16:=Nat.and_lt_two_pow _ (by omega)
 rw[e,BitVec.toNat_and,AUM a ha,AUM b hb,LQ (by omega)]
theorem A8U (a b:Nat)(ha:a < 65536)(hb:b < 65536):JY Tryz.prog 3 .or (.int .i64 (a:Nat)) (.int .i64 (b:Nat))=some (.int .i64 ((a ||| b:Nat):Int)):=by
 have e:JY Tryz.prog 3 .or (.int .i64 (a:Nat)) (.int .i64 (b:Nat))=some (.int .i64 (IntKind.i64.wrap ((BitVec.ofInt 64 (a:Int) ||| BitVec.ofInt 64 (b:Int)).toNat:Int))):=rfl
 have hx:a ||| b < 2 ^ 16:=Nat.or_lt_two_pow (by omega) (by omega)
 rw[e,BitVec.toNat_or,AUM a ha,AUM b hb,LQ (by omega)]
theorem A44 (a b:Nat)(ha:a < 65536)(hb:b < 65536):JY Tryz.prog 3 .xor (.int .i64 (a:Nat)) (.int .i64 (b:Nat))=some (.int .i64 ((a ^^^ b:Nat):Int)):=by
 have e:JY Tryz.prog 3 .xor (.int .i64 (a:Nat)) (.int .i64 (b:Nat))=some (.int .i64 (IntKind.i64.wrap ((BitVec.ofInt 64 (a:Int) ^^^ BitVec.ofInt 64 (b:Int)).toNat:Int))):=rfl
 have hx:a ^^^ b < 2 ^ 16:=Nat.xor_lt_two_pow (by omega) (by omega)
 rw[e,BitVec.toNat_xor,AUM a ha,AUM b hb,LQ (by omega)]
theorem AB0 (E:Env)(fid:FuncId)(a:AV)(l args caps:List AV)(h:Hp)(K:AV→Hp→Prop):ANF E (.fn (.func fid) (a :: l) caps) args h K=ACalls E fid ((a :: l)++(args++caps)) h K:=rfl
theorem QB (G:Nat→AV)(z:Int)(h:Hp):PCall (En G) 259 [.int .i64 z] h (.int .u16 ((wW z:Nat):Int)):=by
 have:=AQS z
 refine acN Tryz.func259 rfl ?_
 show awp _ _ _ _ _ (EM _ [.tmp 2] _)
 simp -implicitDefEqProofs only[vQ,BD,AA8,↓reduceIte,jB,enP,A1D,A11,AVE (n:=((wW z:Nat):Int)) (by omega) (by omega)]
 exact⟨trivial,trivial⟩
theorem VE (G:Nat→AV)(a:Nat)(ha:a < 65536)(h:Hp):PCall (En G) 260 [.int .u16 (a:Nat)] h (.int .i64 (a:Nat)):=by
 refine acN Tryz.func260 rfl ?_
 show awp _ _ _ _ _ (EM _ [.tmp 2] _)
 simp -implicitDefEqProofs only[vQ,BD,AA8,↓reduceIte,jB,enP,A1E,LQ (n:=a) (by omega)]
 exact⟨trivial,trivial⟩
theorem ASN (G:Nat→AV)(z:Int)(h:Hp):PCall (En G) 244 [.int .i64 z] h (.int .i64 ((wW z:Nat):Int)):=by
 refine acN Tryz.func244 rfl ?_
 show awp _ _ _ _ _ (EM _ [.tmp 2] _)
 simp -implicitDefEqProofs only[vQ,BD,↓reduceIte,jB,enP]
 refine(QB G z h).use ?_
 simp -implicitDefEqProofs only[vQ,BD,↓reduceIte]
 refine(VE G _ (AQS z) h).use ?_
 simp -implicitDefEqProofs only[vQ,BD,↓reduceIte]
 exact⟨trivial,trivial⟩
theorem ADV (G:Nat→AV)(k:FuncId)(a b r:Nat)(hb:b < 65536)(hr:r < 65536)(h:Hp)(hc:PCall (En G) k [.int .u16 (a:Nat),.int .u16 (b:Nat)] h (.int .u16 (r:Nat))) :
  PCall (En G) 261 [.fn (.func k) [.int .u16 (a:Nat)] [],.int .i64 (b:Nat)] h (.int .i64 (r:Nat)):=by
 have ho:=QB G (b:Nat) h
 rw[UA hb] at ho
 refine acN Tryz.func261 rfl ?_
 show awp _ _ _ _ _ (EM _ [.tmp 4] _)
 simp -implicitDefEqProofs only[vQ,BD,↓reduceIte,jB,enP]
 refine ho.use ?_
 simp -implicitDefEqProofs only[vQ,BD,qE,qO,↓reduceIte,jB,AB0]
 refine hc.use ?_
 simp -implicitDefEqProofs only[vQ,BD,↓reduceIte]
 refine(VE G r hr h).use ?_
 simp -implicitDefEqProofs only[vQ,BD,↓reduceIte]
 exact⟨trivial,trivial⟩
theorem ALV (G:Nat→AV)(k:FuncId)(a r:Nat)(hr:r < 65536)(h:Hp)(hc:PCall (En G) k [.int .u16 (a:Nat)] h (.int .u16 (r:Nat))) :
  PCall (En G) 275 [.fn (.func k) [.int .u16 (a:Nat)] []] h (.int .i64 (r:Nat)):=by
 refine acN Tryz.func275 rfl ?_
 show awp _ _ _ _ _ (EM _ [.tmp 2] _)
 simp -implicitDefEqProofs only[vQ,BD,↓reduceIte,jB,enP,AB0]
 refine hc.use ?_
 simp -implicitDefEqProofs only[vQ,BD,↓reduceIte]
 refine(VE G r hr h).use ?_
 simp -implicitDefEqProofs only[vQ,BD,↓reduceIte]
 exact⟨trivial,trivial⟩
theorem A27 (G:Nat→AV)(a b:Nat)(ha:a < 65536)(hb:b < 65536)(h:Hp):PCall (En G) 245 [.int .i64 (a:Nat),.int .i64 (b:Nat)] h (.int .i64 (((a+b) % 65536:Nat):Int)):=by
 have hc:PCall (En G) 262 [.int .u16 (a:Nat),.int .u16 (b:Nat)] h (.int .u16 (((a+b) % 65536:Nat):Int)):=by
  have e:IntKind.u16.wrap ((a:Int)+(b:Int))=(((a+b) % 65536:Nat):Int):=by rw[UF]; omega
  refine acN Tryz.func262 rfl ?_
  show awp _ _ _ _ _ (EM _ [.tmp 4] _)
  simp -implicitDefEqProofs only[vQ,BD,↓reduceIte,jB,enP,e]
  exact⟨trivial,trivial⟩
 have ho:=QB G (a:Nat) h
 rw[UA ha] at ho
 refine acN Tryz.func245 rfl ?_
 show awp _ _ _ _ _ (EM _ [.tmp 4] _)
 simp -implicitDefEqProofs only[vQ,BD,↓reduceIte,jB,enP]
 refine ho.use ?_
 simp -implicitDefEqProofs only[vQ,BD,I5,↓reduceIte,jB]
 refine(ADV G 262 a b _ hb (qQ _ (by omega)) h hc).use ?_
 simp -implicitDefEqProofs only[vQ,BD,↓reduceIte]
 exact⟨trivial,trivial⟩
theorem A5D (G:Nat→AV)(a b:Nat)(ha:a < 65536)(hb:b < 65536)(h:Hp):PCall (En G) 267 [.int .i64 (a:Nat),.int .i64 (b:Nat)] h (.int .i64 (((a+65536 - b) % 65536:Nat):Int)):=by
 have hc:PCall (En G) 279 [.int .u16 (a:Nat),.int .u16 (b:Nat)] h (.int .u16 (((a+65536 - b) % 65536:Nat):Int)):=by
  have e:IntKind.u16.wrap ((a:Int) - (b:Int))=(((a+65536 - b) % 65536:Nat):Int):=by rw[UF]; omega
  refine acN Tryz.func279 rfl ?_
  show awp _ _ _ _ _ (EM _ [.tmp 4] _)
  simp -implicitDefEqProofs only[vQ,BD,↓reduceIte,jB,enP,e]
  exact⟨trivial,trivial⟩
 have ho:=QB G (a:Nat) h
 rw[UA ha] at ho
 refine acN Tryz.func267 rfl ?_
 show awp _ _ _ _ _ (EM _ [.tmp 4] _)
 simp -implicitDefEqProofs only[vQ,BD,↓reduceIte,jB,enP]
 refine ho.use ?_
 simp -implicitDefEqProofs only[vQ,BD,I5,↓reduceIte,jB]
 refine(ADV G 279 a b _ hb (qQ _ (by omega)) h hc).use ?_
 simp -implicitDefEqProofs only[vQ,BD,↓reduceIte]
 exact⟨trivial,trivial⟩
theorem A51 (G:Nat→AV)(a b:Nat)(ha:a < 65536)(hb:b < 65536)(h:Hp):PCall (En G) 268 [.int .i64 (a:Nat),.int .i64 (b:Nat)] h (.int .i64 ((a * b % 65536:Nat):Int)):=by
 have hc:PCall (En G) 280 [.int .u16 (a:Nat),.int .u16 (b:Nat)] h (.int .u16 ((a * b % 65536:Nat):Int)):=by
  have e:IntKind.u16.wrap ((a:Int) * (b:Int))=((a * b % 65536:Nat):Int):=by rw[UF]; rw[← Int.natCast_mul]; rfl
  refine acN Tryz.func280 rfl ?_
  show awp _ _ _ _ _ (EM _ [.tmp 4] _)
  simp -implicitDefEqProofs only[vQ,BD,OJ,↓reduceIte,jB,enP,e]
  exact⟨trivial,trivial⟩
 have ho:=QB G (a:Nat) h
 rw[UA ha] at ho
 refine acN Tryz.func268 rfl ?_
 show awp _ _ _ _ _ (EM _ [.tmp 4] _)
 simp -implicitDefEqProofs only[vQ,BD,↓reduceIte,jB,enP]
 refine ho.use ?_
 simp -implicitDefEqProofs only[vQ,BD,I5,↓reduceIte,jB]
 refine(ADV G 280 a b _ hb (qQ _ (by omega)) h hc).use ?_
 simp -implicitDefEqProofs only[vQ,BD,↓reduceIte]
 exact⟨trivial,trivial⟩
theorem A6N (G:Nat→AV)(a:Nat)(ha:a < 65536)(h:Hp):PCall (En G) 264 [.int .i64 (a:Nat)] h (.int .i64 ((65535 - a:Nat):Int)):=by
 have hu:aUn .xor (.int .u16 (a:Nat))=some (.int .u16 ((65535 - a:Nat):Int)):=by
  have e:aUn .xor (.int .u16 (a:Nat))=some (.int .u16 (IntKind.u16.wrap ((BitVec.ofInt 16 65535 ^^^ BitVec.ofInt 16 (a:Int)).toNat:Int))):=rfl
  have h1:BitVec.ofInt 16 65535=BitVec.allOnes 16:=by decide
  have h2:(BitVec.ofInt 16 (a:Int)).toNat=a:=by
   rw[BitVec.ofInt_natCast,BitVec.toNat_ofNat]
   exact Nat.mod_eq_of_lt (by omega)
  rw[e,h1,BitVec.allOnes_xor,BitVec.toNat_not,h2,AVE (by omega) (by simp only[Nat.reducePow]; omega)]
 have hc:PCall (En G) 276 [.int .u16 (a:Nat)] h (.int .u16 ((65535 - a:Nat):Int)):=by
  refine acN Tryz.func276 rfl ?_
  show awp _ _ _ _ _ (EM _ [.tmp 2] _)
  simp -implicitDefEqProofs only[vQ,BD,↓reduceIte,jB,enP,hu]
  exact⟨trivial,trivial⟩
 have ho:=QB G (a:Nat) h
 rw[UA ha] at ho
 refine acN Tryz.func264 rfl ?_
 show awp _ _ _ _ _ (EM _ [.tmp 2] _)
 simp -implicitDefEqProofs only[vQ,BD,↓reduceIte,jB,enP]
 refine ho.use ?_
 simp -implicitDefEqProofs only[vQ,BD,I5,↓reduceIte]
 refine(ALV G 276 a _ (by omega) h hc).use ?_
 simp -implicitDefEqProofs only[vQ,BD,↓reduceIte]
 exact⟨trivial,trivial⟩
theorem A5Z (G:Nat→AV)(a:Nat)(ha:a < 65536)(h:Hp):PCall (En G) 265 [.int .i64 (a:Nat)] h (.int .i64 (((65536 - a) % 65536:Nat):Int)):=by
 have hc:PCall (En G) 277 [.int .u16 (a:Nat)] h (.int .u16 (((65536 - a) % 65536:Nat):Int)):=by
  have e:IntKind.u16.wrap (0 - (a:Int))=(((65536 - a) % 65536:Nat):Int):=by rw[UF]; omega
  refine acN Tryz.func277 rfl ?_
  show awp _ _ _ _ _ (EM _ [.tmp 2] _)
  simp -implicitDefEqProofs only[vQ,BD,A3E,↓reduceIte,jB,enP,e]
  exact⟨trivial,trivial⟩
 have ho:=QB G (a:Nat) h
 rw[UA ha] at ho
 refine acN Tryz.func265 rfl ?_
 show awp _ _ _ _ _ (EM _ [.tmp 2] _)
 simp -implicitDefEqProofs only[vQ,BD,↓reduceIte,jB,enP]
 refine ho.use ?_
 simp -implicitDefEqProofs only[vQ,BD,I5,↓reduceIte]
 refine(ALV G 277 a _ (qQ _ (by omega)) h hc).use ?_
 simp -implicitDefEqProofs only[vQ,BD,↓reduceIte]
 exact⟨trivial,trivial⟩
theorem AD0 (G:Nat→AV)(k:FuncId)(a r:Nat)(n:Int)(hr:r < 65536)(h:Hp)(hc : ¬ (n < 0∨n≥16)→PCall (En G) k [.int .u16 (a:Nat),.int .i64 n] h (.int .u16 (r:Nat)))(h0:n < 0∨n≥16→r=0) :
  PCall (En G) 281 [.fn (.func k) [.int .u16 (a:Nat)] [],.int .i64 n] h (.int .i64 (r:Nat)):=by
 refine acN Tryz.func281 rfl ?_
 show awp _ _ _ _ _ (EM _ [.tmp 4] _)
 simp -implicitDefEqProofs only[vQ,CP,BD,↓reduceIte,jB,enP]
 cases h1:decide (n < 0)
 ·have h1' : ¬ n < 0:=by simpa using h1
  cases h2:decide (n≥16)
  ·have h2' : ¬ n≥16:=by simpa using h2
   simp -implicitDefEqProofs only[vQ,CP,BD,qE,qO,↓reduceIte,jB,enP,h2,AB0]
   refine(hc (by omega)).use ?_
   simp -implicitDefEqProofs only[vQ,BD,↓reduceIte]
   refine(VE G r hr h).use ?_
   simp -implicitDefEqProofs only[vQ,BD,↓reduceIte]
   exact⟨trivial,trivial⟩
  ·have h2':n≥16:=by simpa using h2
   simp -implicitDefEqProofs only[vQ,CP,BD,↓reduceIte,jB,enP,h2]
   exact⟨by rw[h0 (.inr h2')]; rfl,trivial⟩
 ·have h1':n < 0:=by simpa using h1
  simp -implicitDefEqProofs only[vQ,CP,BD,EW,↓reduceIte,jB]
  exact⟨by rw[h0 (.inl h1')]; rfl,trivial⟩
theorem AQ3 {a:Nat}{n:Int}:ABC a n < 65536:=by
 unfold ABC
 split
 ·omega
 ·exact qQ _ (by omega)
theorem AQ2 {a:Nat}{n:Int}(ha:a < 65536):YU a n < 65536:=by
 unfold YU
 split
 ·omega
 ·exact Nat.lt_of_le_of_lt (Nat.div_le_self _ _) ha
theorem A5N (G:Nat→AV)(a:Nat)(n:Int)(ha:a < 65536)(h:Hp):PCall (En G) 269 [.int .i64 (a:Nat),.int .i64 n] h (.int .i64 (ABC a n:Nat)):=by
 have hc : ¬ (n < 0∨n≥16)→PCall (En G) 282 [.int .u16 (a:Nat),.int .i64 n] h (.int .u16 (ABC a n:Nat)):=fun hn=>by
  have hb:JY Tryz.prog 247 .shl (.int .u16 (a:Nat)) (.int .i64 n)=some (.int .u16 (ABC a n:Nat)):=by
   have e:JY Tryz.prog 247 .shl (.int .u16 (a:Nat)) (.int .i64 n)=if n < 0 then none else some (.int .u16 (IntKind.u16.wrap ((a:Int) * 2 ^ (min n.toNat 16)))):=rfl
   have h1:min n.toNat 16=n.toNat:=by omega
   rw[e,if_neg (by omega),h1,UF]
   unfold ABC
   rw[if_neg hn,Int.natCast_emod,Int.natCast_mul,Int.natCast_pow]
   rfl
  refine acN Tryz.func282 rfl ?_
  show awp _ _ _ _ _ (EM _ [.tmp 4] _)
  simp -implicitDefEqProofs only[vQ,BD,↓reduceIte,jB,enP,hb]
  exact⟨trivial,trivial⟩
 have ho:=QB G (a:Nat) h
 rw[UA ha] at ho
 refine acN Tryz.func269 rfl ?_
 show awp _ _ _ _ _ (EM _ [.tmp 4] _)
 simp -implicitDefEqProofs only[vQ,BD,↓reduceIte,jB,enP]
 refine ho.use ?_
 simp -implicitDefEqProofs only[vQ,BD,I5,↓reduceIte,jB]
 refine(AD0 G 282 a _ n AQ3 h hc (fun hh=>by unfold ABC; rw[if_pos hh])).use ?_
 simp -implicitDefEqProofs only[vQ,BD,↓reduceIte]
 exact⟨trivial,trivial⟩
theorem A5M (G:Nat→AV)(a:Nat)(n:Int)(ha:a < 65536)(h:Hp):PCall (En G) 270 [.int .i64 (a:Nat),.int .i64 n] h (.int .i64 (YU a n:Nat)):=by
 have hc : ¬ (n < 0∨n≥16)→PCall (En G) 283 [.int .u16 (a:Nat),.int .i64 n] h (.int .u16 (YU a n:Nat)):=fun hn=>by
  have hb:JY Tryz.prog 247 .shr (.int .u16 (a:Nat)) (.int .i64 n)=some (.int .u16 (YU a n:Nat)):=by
   have e:JY Tryz.prog 247 .shr (.int .u16 (a:Nat)) (.int .i64 n)=if n < 0 then none else some (.int .u16 ((a:Int).fdiv (2 ^ (min n.toNat 16)))):=rfl
   have h1:min n.toNat 16=n.toNat:=by omega
   rw[e,if_neg (by omega),h1]
   unfold YU
   rw[if_neg hn,Int.fdiv_eq_ediv_of_nonneg _ (by exact Int.le_of_lt (Int.pow_pos (by decide))),Int.natCast_ediv,Int.natCast_pow]
   rfl
  refine acN Tryz.func283 rfl ?_
  show awp _ _ _ _ _ (EM _ [.tmp 4] _)
  simp -implicitDefEqProofs only[vQ,BD,↓reduceIte,jB,enP,hb]
  exact⟨trivial,trivial⟩
 have ho:=QB G (a:Nat) h
 rw[UA ha] at ho
 refine acN Tryz.func270 rfl ?_
 show awp _ _ _ _ _ (EM _ [.tmp 4] _)
 simp -implicitDefEqProofs only[vQ,BD,↓reduceIte,jB,enP]
 refine ho.use ?_
 simp -implicitDefEqProofs only[vQ,BD,I5,↓reduceIte,jB]
 refine(AD0 G 283 a _ n (AQ2 ha) h hc (fun hh=>by unfold YU; rw[if_pos hh])).use ?_
 simp -implicitDefEqProofs only[vQ,BD,↓reduceIte]
 exact⟨trivial,trivial⟩
def AQY (fn:Func):ByteArray:=match fn.body with
 | some (.seq _ (.seq (.region _ ops _) _))=>match ops[2]? with
   | some o=>match o.op with
     | .index _ (.const (.string s)) _=>s
     | _=>⟨#[]⟩
   | none=>⟨#[]⟩
 | _=>⟨#[]⟩
theorem AZM:(List.range 256).all (fun y=>(AQY Tryz.f278)[y]? == some (UInt8.ofNat (KU y 8)))=true:=by kernel_rfl
theorem AVJ {y:Nat}(hy:y < 256)(h:Hp):ofO h (OT Tryz.prog 9 (.str (AQY Tryz.f278)) (.int .u16 (y:Nat)))=some (.int .u8 (KU y 8:Nat),h):=by
 have h1:=List.all_eq_true.1 AZM y (by simpa using hy)
 have h2:(AQY Tryz.f278)[y]? = some (UInt8.ofNat (KU y 8)):=by simpa using h1
 have hle:=PX y 8
 have hu:Tryz.prog.underlying 9=some .string:=by kernel_rfl
 have h3:OT Tryz.prog 9 (.str (AQY Tryz.f278)) (.int .u16 (y:Nat))=some (.int .u8 (KU y 8:Nat)):=by
  unfold OT
  simp only[hu,qV,h2]
  rw[if_pos (by omega)]
  simp
  omega
 rw[h3]; rfl
set_option maxHeartbeats 1000000 in
theorem ATE (G:Nat→AV)(a:Nat)(ha:a < 65536)(h:Hp):PCall (En G) 266 [.int .i64 (a:Nat)] h (.int .i64 (WO a:Nat)):=by
 have hs:JY Tryz.prog 246 .shr (.int .u16 (a:Nat)) (.int .u64 8)=some (.int .u16 ((a / 256:Nat):Int)):=by
  have e:JY Tryz.prog 246 .shr (.int .u16 (a:Nat)) (.int .u64 8)=some (.int .u16 ((a:Int).fdiv (2 ^ 8))):=rfl
  rw[e,Int.fdiv_eq_ediv_of_nonneg _ (by decide)]
  rfl
 have hl:JY Tryz.prog 246 .and (.int .u16 (a:Nat)) (.int .u16 255)=some (.int .u16 ((a % 256:Nat):Int)):=by
  have e:JY Tryz.prog 246 .and (.int .u16 (a:Nat)) (.int .u16 255)=some (.int .u16 (IntKind.u16.wrap ((BitVec.ofInt 16 (a:Int) &&& BitVec.ofInt 16 255).toNat:Int))):=rfl
  have h1:(BitVec.ofInt 16 255).toNat=2 ^ 8 - 1:=by decide
  have h2:(BitVec.ofInt 16 (a:Int)).toNat=a:=by
   rw[BitVec.ofInt_natCast,BitVec.toNat_ofNat]
   exact Nat.mod_eq_of_lt (by omega)
  rw[e,BitVec.toNat_and,h1,Nat.and_two_pow_sub_one_eq_mod,h2,AVE (by omega) (by simp only[Nat.reducePow]; omega)]
 have l1:=PX (a / 256) 8
 have l2:=PX (a % 256) 8
 have hadd:JY Tryz.prog 5 .add (.int .u8 (KU (a / 256) 8:Nat)) (.int .u8 (KU (a % 256) 8:Nat))=some (.int .u8 (WO a:Nat)):=by
  have e:JY Tryz.prog 5 .add (.int .u8 (KU (a / 256) 8:Nat)) (.int .u8 (KU (a % 256) 8:Nat))=some (.int .u8 (IntKind.u8.wrap ((KU (a / 256) 8:Int)+(KU (a % 256) 8:Int)))):=rfl
  have e2 : ∀ n:Int,IntKind.u8.wrap n=n % 256:=fun n=>by simp [IntKind.wrap,IntKind.bits,IntKind.signed]
  have e3:=AWF a
  rw[e,e2]
  congr 2
  omega
 have h64:IntKind.i64.wrap ((WO a:Nat):Int)=((WO a:Nat):Int):=LQ (by have:=PX a 16; unfold WO; omega)
 have hc:PCall (En G) 278 [.int .u16 (a:Nat)] h (.int .i64 (WO a:Nat)):=by
  refine acN Tryz.func278 rfl ?_
  show awp _ _ _ _ _ (EM _ [.tmp 2] _)
  simp -implicitDefEqProofs only[vQ,BD,enP]
  refine EY (by kernel_rfl) ?_
  simp -implicitDefEqProofs only[vQ,AIN,O8,↓reduceIte,jB,jM,enP,hs,hl]
  refine KQ (v := .int .u8 (KU (a / 256) 8:Nat)) (h:=h) (AVJ (by omega) h) ?_
  simp -implicitDefEqProofs only[vQ,AIN,O8,↓reduceIte,jB,jM,enP,hs,hl]
  refine KQ (v := .int .u8 (KU (a % 256) 8:Nat)) (h:=h) (AVJ (by omega) h) ?_
  simp -implicitDefEqProofs only[vQ,AVB,AA8,↓reduceIte,jB,jM,enP,AX3,hadd,h64]
  exact⟨trivial,trivial⟩
 have ho:=QB G (a:Nat) h
 rw[UA ha] at ho
 refine acN Tryz.func266 rfl ?_
 show awp _ _ _ _ _ (EM _ [.tmp 2] _)
 simp -implicitDefEqProofs only[vQ,BD,↓reduceIte,jB,enP]
 refine ho.use ?_
 simp -implicitDefEqProofs only[vQ,BD,↓reduceIte]
 refine hc.use ?_
 simp -implicitDefEqProofs only[vQ,BD,↓reduceIte]
 exact⟨trivial,trivial⟩
theorem RS (G:Nat→AV)(z:Int)(h:Hp)(hz : -9223372036854775808≤z∧z≤9223372036854775807):PCall (En G) 224 [.int .i64 z] h (.int .i64 (wW z:Nat)):=by
 have hr:JY Tryz.prog 3 .rem (.int .i64 z) (.int .i64 65536)=some (.int .i64 (z.tmod 65536)):=ADJ _ _ _ _ _ (by decide)
 have hm:z.tmod 65536=if z < 0 then -((-z) % 65536) else z % 65536:=by
  split
  ·have h1:z = -(-z):=by omega
   conv=>lhs; rw[h1]
   rw[Int.neg_tmod,Int.tmod_eq_emod_of_nonneg (by omega)]
  ·rw[Int.tmod_eq_emod_of_nonneg (by omega)]
 have hw:=AZI z
 refine acN Tryz.func224 rfl ?_
 show awp _ _ _ _ _ (EM _ [.tmp 2] _)
 simp -implicitDefEqProofs only[vQ,BD,↓reduceIte,jB,enP,hr]
 generalize z.tmod 65536=t at hm ⊢
 have h0 : -65536 < t∧t < 65536:=by
  rw[hm]; split <;> omega
 cases hc:decide (t < 0)
 ·have hc' : ¬ t < 0:=by simpa using hc
  have e:t=((wW z:Nat):Int):=by
   rw[hw]; split at hm <;> omega
  simp -implicitDefEqProofs only[vQ,BD,↓reduceIte,jB,hc]
  exact⟨by rw[e],trivial⟩
 ·have hc':t < 0:=by simpa using hc
  have e:IntKind.i64.wrap (IntKind.i64.wrap (t+65535)+1)=((wW z:Nat):Int):=by
   have e1:IntKind.i64.wrap (t+65535)=t+65535:=wrap_i64 (by omega) (by omega)
   rw[hw,e1,wrap_i64 (by omega) (by omega)]
   split at hm <;> omega
  simp -implicitDefEqProofs only[vQ,BD,↓reduceIte,jB,enP,hc,e]
  exact⟨trivial,trivial⟩
theorem MX (G:Nat→AV)(a:Nat)(ha:a < 65536)(h:Hp):PCall (En G) 224 [.int .i64 (a:Nat)] h (.int .i64 (a:Nat)):=by
 have:=RS G (a:Nat) h (by omega)
 rwa [UA ha] at this
theorem AHK (G:Nat→AV)(n:Nat)(hn:n≤16)(h:Hp):PCall (En G) 252 [.int .i64 (n:Nat)] h (.int .i64 ((2 ^ n:Nat):Int)):=by
 refine acN Tryz.func252 rfl ?_
 show awp _ _ _ _ _ (EM _ [.tmp 2] _)
 simp -implicitDefEqProofs only[vQ,BD,enP]
 refine DL (fun k F H => ∃ i,k+i=n∧F 0 = .int .i64 (n:Nat)∧F 3 = .int .i64 ((2 ^ i:Nat):Int)∧F 4 = .int .i64 (i:Nat)∧H=h) n ⟨0,by simp,by simp -implicitDefEqProofs only[vQ,↓reduceIte,jB],by simp -implicitDefEqProofs only[AA,↓reduceIte,jB] <;> rfl,by simp -implicitDefEqProofs only[AA,↓reduceIte] <;> rfl,rfl⟩ ?_
 rintro k F H ⟨i,hi,f0,f3,f4,rfl⟩
 simp -implicitDefEqProofs only[vQ,BD,↓reduceIte,jB,enP,f0,f4]
 refine CU (fun hc => ?_) (fun hc => ?_)
 ·have hi':i < n:=by simpa using hc
  have hp:2 ^ i≤2 ^ 16:=Nat.pow_le_pow_right (by omega) (by omega)
  have e:IntKind.i64.wrap (2 * ((2 ^ i:Nat):Int))=((2 ^ (i+1):Nat):Int):=by
   simp only[Nat.reducePow] at hp
   rw[show(2:Int) * ((2 ^ i:Nat):Int)=((2 ^ i * 2:Nat):Int) by rw[Int.natCast_mul,Int.mul_comm]; rfl,Nat.pow_succ]
   exact LQ (by omega)
  simp -implicitDefEqProofs only[vQ,BD,OJ,↓reduceIte,jB,enP,f3,f4,e,wrap_succ (show i < 9223372036854775807 by omega)]
  exact⟨k - 1,by omega,i+1,by omega,f0,by trivial,by trivial,trivial⟩
 ·have hi':i=n:=by
   have : ¬ i < n:=by simpa using hc
   omega
  subst hi'
  simp -implicitDefEqProofs only[vQ,BD,↓reduceIte,jB,f3]
  exact⟨by trivial,trivial⟩
theorem A28 (G:Nat→AV)(a b:Nat)(ha:a < 65536)(hb:b < 65536)(h:Hp):PCall (En G) 198 [.int .i64 (a:Nat),.int .i64 (b:Nat)] h (.int .i64 (((a+b) % 65536:Nat):Int)):=by
 have e:IntKind.i64.wrap ((a:Int)+(b:Int))=(a:Int)+(b:Int):=wrap_i64 (by omega) (by omega)
 have e2:wW ((a:Int)+(b:Int))=(a+b) % 65536:=by unfold wW; omega
 refine acN Tryz.func198 rfl ?_
 show awp _ _ _ _ _ (EM _ [.tmp 4] _)
 simp -implicitDefEqProofs only[vQ,BD,↓reduceIte,jB,enP]
 refine(MX G a ha h).use ?_
 simp -implicitDefEqProofs only[vQ,BD,↓reduceIte,jB]
 refine(MX G b hb h).use ?_
 simp -implicitDefEqProofs only[vQ,BD,↓reduceIte,jB,enP,e]
 refine(RS G _ h (by omega)).use ?_
 simp -implicitDefEqProofs only[vQ,BD,↓reduceIte,e2]
 exact⟨trivial,trivial⟩
theorem A5E (G:Nat→AV)(a b:Nat)(ha:a < 65536)(hb:b < 65536)(h:Hp):PCall (En G) 230 [.int .i64 (a:Nat),.int .i64 (b:Nat)] h (.int .i64 (((a+65536 - b) % 65536:Nat):Int)):=by
 have e:IntKind.i64.wrap ((a:Int) - (b:Int))=(a:Int) - (b:Int):=wrap_i64 (by omega) (by omega)
 have e2:wW ((a:Int) - (b:Int))=(a+65536 - b) % 65536:=by unfold wW; omega
 refine acN Tryz.func230 rfl ?_
 show awp _ _ _ _ _ (EM _ [.tmp 4] _)
 simp -implicitDefEqProofs only[vQ,BD,↓reduceIte,jB,enP]
 refine(MX G a ha h).use ?_
 simp -implicitDefEqProofs only[vQ,BD,↓reduceIte,jB]
 refine(MX G b hb h).use ?_
 simp -implicitDefEqProofs only[vQ,BD,↓reduceIte,jB,enP,e]
 refine(RS G _ h (by omega)).use ?_
 simp -implicitDefEqProofs only[vQ,BD,↓reduceIte,e2]
 exact⟨trivial,trivial⟩
theorem mul_lt {a b:Nat}(ha:a < 65536)(hb:b≤65536):a * b≤65535 * 65536:=Nat.mul_le_mul (by omega) hb
theorem A52 (G:Nat→AV)(a b:Nat)(ha:a < 65536)(hb:b < 65536)(h:Hp):PCall (En G) 231 [.int .i64 (a:Nat),.int .i64 (b:Nat)] h (.int .i64 ((a * b % 65536:Nat):Int)):=by
 have hm:=mul_lt ha (Nat.le_of_lt hb)
 have e:IntKind.i64.wrap ((a:Int) * (b:Int))=((a * b:Nat):Int):=by rw[← Int.natCast_mul]; exact LQ (by omega)
 have e2:wW ((a * b:Nat):Int)=a * b % 65536:=by unfold wW; omega
 refine acN Tryz.func231 rfl ?_
 show awp _ _ _ _ _ (EM _ [.tmp 4] _)
 simp -implicitDefEqProofs only[vQ,BD,↓reduceIte,jB,enP]
 refine(MX G a ha h).use ?_
 simp -implicitDefEqProofs only[vQ,BD,↓reduceIte,jB]
 refine(MX G b hb h).use ?_
 simp -implicitDefEqProofs only[vQ,BD,OJ,↓reduceIte,jB,enP,e]
 refine(RS G _ h (by omega)).use ?_
 simp -implicitDefEqProofs only[vQ,BD,↓reduceIte,e2]
 exact⟨trivial,trivial⟩
theorem A6O (G:Nat→AV)(a:Nat)(ha:a < 65536)(h:Hp):PCall (En G) 227 [.int .i64 (a:Nat)] h (.int .i64 ((65535 - a:Nat):Int)):=by
 have e:IntKind.i64.wrap (65535 - (a:Int))=((65535 - a:Nat):Int):=by rw[wrap_i64 (by omega) (by omega)]; omega
 refine acN Tryz.func227 rfl ?_
 show awp _ _ _ _ _ (EM _ [.tmp 2] _)
 simp -implicitDefEqProofs only[vQ,BD,↓reduceIte,jB,enP]
 refine(MX G a ha h).use ?_
 simp -implicitDefEqProofs only[vQ,BD,↓reduceIte,enP,e]
 exact⟨trivial,trivial⟩
theorem A50 (G:Nat→AV)(a:Nat)(ha:a < 65536)(h:Hp):PCall (En G) 228 [.int .i64 (a:Nat)] h (.int .i64 (((65536 - a) % 65536:Nat):Int)):=by
 have e:IntKind.i64.wrap (0 - (a:Int))=0 - (a:Int):=wrap_i64 (by omega) (by omega)
 have e2:wW (0 - (a:Int))=(65536 - a) % 65536:=by unfold wW; omega
 refine acN Tryz.func228 rfl ?_
 show awp _ _ _ _ _ (EM _ [.tmp 2] _)
 simp -implicitDefEqProofs only[vQ,BD,↓reduceIte,jB,enP]
 refine(MX G a ha h).use ?_
 simp -implicitDefEqProofs only[vQ,BD,↓reduceIte,enP,e]
 refine(RS G _ h (by omega)).use ?_
 simp -implicitDefEqProofs only[vQ,BD,↓reduceIte,e2]
 exact⟨trivial,trivial⟩
theorem A5O (G:Nat→AV)(a:Nat)(n:Int)(ha:a < 65536)(h:Hp):PCall (En G) 235 [.int .i64 (a:Nat),.int .i64 n] h (.int .i64 (ABC a n:Nat)):=by
 refine acN Tryz.func235 rfl ?_
 show awp _ _ _ _ _ (EM _ [.tmp 4] _)
 simp -implicitDefEqProofs only[vQ,CP,BD,↓reduceIte,jB,enP]
 cases h1:decide (n < 0)
 ·have h1' : ¬ n < 0:=by simpa using h1
  cases h2:decide (n > 15)
  ·have h2' : ¬ n > 15:=by simpa using h2
   obtain⟨k,rfl⟩:=Int.eq_ofNat_of_zero_le (show 0≤n by omega)
   have hp:2 ^ k≤2 ^ 16:=Nat.pow_le_pow_right (by omega) (by omega)
   have hm:=mul_lt ha hp
   have e:IntKind.i64.wrap ((a:Int) * ((2 ^ k:Nat):Int))=((a * 2 ^ k:Nat):Int):=by rw[← Int.natCast_mul]; exact LQ (by omega)
   have e2:wW ((a * 2 ^ k:Nat):Int)=ABC a (k:Nat):=by
    unfold ABC wW
    rw[if_neg (by omega),qV]
    omega
   simp -implicitDefEqProofs only[vQ,CP,BD,↓reduceIte,jB,enP,h2]
   refine(MX G a ha h).use ?_
   simp -implicitDefEqProofs only[vQ,BD,↓reduceIte,jB]
   refine(AHK G k (by omega) h).use ?_
   simp -implicitDefEqProofs only[vQ,BD,OJ,↓reduceIte,jB,enP,e]
   refine(RS G _ h (by omega)).use ?_
   simp -implicitDefEqProofs only[vQ,BD,↓reduceIte,e2]
   exact⟨trivial,trivial⟩
  ·have h2':n > 15:=by simpa using h2
   simp -implicitDefEqProofs only[vQ,CP,BD,↓reduceIte,jB,enP,h2]
   exact⟨by unfold ABC; rw[if_pos (by omega)]; rfl,trivial⟩
 ·have h1':n < 0:=by simpa using h1
  simp -implicitDefEqProofs only[vQ,CP,BD,EW,↓reduceIte,jB]
  exact⟨by unfold ABC; rw[if_pos (by omega)]; rfl,trivial⟩
theorem A2M (G:Nat→AV)(a:Nat)(n:Int)(ha:a < 65536)(h:Hp):PCall (En G) 236 [.int .i64 (a:Nat),.int .i64 n] h (.int .i64 (YU a n:Nat)):=by
 refine acN Tryz.func236 rfl ?_
 show awp _ _ _ _ _ (EM _ [.tmp 4] _)
 simp -implicitDefEqProofs only[vQ,CP,BD,↓reduceIte,jB,enP]
 cases h1:decide (n < 0)
 ·have h1' : ¬ n < 0:=by simpa using h1
  cases h2:decide (n > 15)
  ·have h2' : ¬ n > 15:=by simpa using h2
   obtain⟨k,rfl⟩:=Int.eq_ofNat_of_zero_le (show 0≤n by omega)
   have hp:0 < 2 ^ k:=Nat.pow_pos (by omega)
   have e2:a / 2 ^ k=YU a (k:Nat):=by
    unfold YU
    rw[if_neg (by omega),qV]
   simp -implicitDefEqProofs only[vQ,CP,BD,↓reduceIte,jB,enP,h2]
   refine(MX G a ha h).use ?_
   simp -implicitDefEqProofs only[vQ,BD,↓reduceIte,jB]
   refine(AHK G k (by omega) h).use ?_
   simp -implicitDefEqProofs only[vQ,BD,↓reduceIte,jB,enP,AQ9 a (2 ^ k) hp (by omega),e2]
   exact⟨trivial,trivial⟩
  ·have h2':n > 15:=by simpa using h2
   simp -implicitDefEqProofs only[vQ,CP,BD,↓reduceIte,jB,enP,h2]
   exact⟨by unfold YU; rw[if_pos (by omega)]; rfl,trivial⟩
 ·have h1':n < 0:=by simpa using h1
  simp -implicitDefEqProofs only[vQ,CP,BD,EW,↓reduceIte,jB]
  exact⟨by unfold YU; rw[if_pos (by omega)]; rfl,trivial⟩
theorem AJ4 (G:Nat→AV)(a i:Nat)(ha:a < 65536)(hi:i < 16)(h:Hp):PCall (En G) 250 [.int .i64 (a:Nat),.int .i64 (i:Nat)] h (.int .i64 (LU a i:Nat)):=by
 have e:YU a (i:Nat)=a / 2 ^ i:=by
  unfold YU
  rw[if_neg (by omega),qV]
 refine acN Tryz.func250 rfl ?_
 show awp _ _ _ _ _ (EM _ [.tmp 4] _)
 have hr:=AQ8 (a / 2 ^ i) 2 (by omega)
 have hr':JY Tryz.prog 3 .rem (.int .i64 ((a / 2 ^ i:Nat):Int)) (.int .i64 2)=some (.int .i64 (LU a i:Nat)):=hr
 simp -implicitDefEqProofs only[vQ,BD,↓reduceIte,jB,enP]
 refine(A2M G a i ha h).use ?_
 simp -implicitDefEqProofs only[vQ,BD,↓reduceIte,enP,e,hr']
 exact⟨trivial,trivial⟩
theorem A33 (G:Nat→AV)(a:Nat)(ha:a < 65536)(h:Hp):PCall (En G) 229 [.int .i64 (a:Nat)] h (.int .i64 (WO a:Nat)):=by
 refine acN Tryz.func229 rfl ?_
 show awp _ _ _ _ _ (EM _ [.tmp 2] _)
 simp -implicitDefEqProofs only[vQ,BD,enP]
 refine DL (fun k F H => ∃ i,k+i=16∧F 0 = .int .i64 (a:Nat)∧F 3 = .int .i64 (KU a i:Nat)∧F 4 = .int .i64 (i:Nat)∧H=h) 16 ⟨0,by simp,by simp -implicitDefEqProofs only[vQ,↓reduceIte,jB],by simp -implicitDefEqProofs only[AA,↓reduceIte,jB] <;> rfl,by simp -implicitDefEqProofs only[AA,↓reduceIte] <;> rfl,rfl⟩ ?_
 rintro k F H ⟨i,hi,f0,f3,f4,rfl⟩
 simp -implicitDefEqProofs only[vQ,BD,↓reduceIte,enP,f4]
 refine CU (fun hc => ?_) (fun hc => ?_)
 ·have hi':i < 16:=by simp at hc; omega
  have hle:=PX a (i+1)
  have e:IntKind.i64.wrap (((KU a i:Nat):Int)+((LU a i:Nat):Int))=((KU a (i+1):Nat):Int):=by
   have:KU a (i+1)=KU a i+LU a i:=rfl
   rw[wrap_i64 (by omega) (by omega)]; omega
  simp -implicitDefEqProofs only[vQ,BD,↓reduceIte,jB,f0,f3,f4]
  refine(AJ4 G a i ha hi' H).use ?_
  simp -implicitDefEqProofs only[vQ,BD,↓reduceIte,jB,enP,f3,f4,e,wrap_succ (show i < 9223372036854775807 by omega)]
  exact⟨k - 1,by omega,i+1,by omega,f0,by trivial,by trivial,trivial⟩
 ·have hi':i=16:=by simp at hc; omega
  subst hi'
  simp -implicitDefEqProofs only[vQ,BD,↓reduceIte,jB,f3]
  exact⟨by trivial,trivial⟩
def NR (lo hi a b:Nat):Nat→Nat
 | 0=>0
 | k+1=>2 * NR lo hi a b k+(if lo≤LU a (15 - k)+LU b (15 - k)∧LU a (15 - k)+LU b (15 - k)≤hi then 1 else 0)
theorem AIE (lo hi a b:Nat) : ∀ k,NR lo hi a b k < 2 ^ k
 | 0=>by simp [NR]
 | k+1=>by
   have:=AIE lo hi a b k
   unfold NR
   rw[Nat.pow_succ]
   split <;> omega
theorem ADH (lo hi a b x:Nat)(hx:x < 65536)(hb : ∀ i,i < 16→LU x i=if lo≤LU a i+LU b i∧LU a i+LU b i≤hi then 1 else 0) : ∀ k,k≤16→NR lo hi a b k=x / 2 ^ (16 - k)
 | 0,_=>by
   unfold NR
   rw[Nat.div_eq_of_lt (by simpa using hx)]
 | k+1,hk=>by
   unfold NR
   rw[ADH lo hi a b x hx hb k (by omega),← hb (15 - k) (by omega)]
   unfold LU
   rw[show 16 - (k+1)=15 - k by omega,show 16 - k=(15 - k)+1 by omega,Nat.pow_succ,← Nat.div_div_eq_div_mul]
   omega
theorem PK (x i:Nat):LU x i=if x.testBit i=true then 1 else 0:=by
 have:=ADI x i
 rw[Nat.testBit_eq_decide_div_mod_eq]
 unfold LU at *
 simp only[decide_eq_true_eq]
 split <;> omega
theorem AYL (a b:Nat)(ha:a < 65536):NR 2 2 a b 16=a &&& b:=by
 rw[ADH 2 2 a b (a &&& b) (Nat.lt_of_le_of_lt Nat.and_le_left ha) (fun i _ => ?_) 16 (jL _)]
 ·simp
 ·rw[PK,PK,PK,Nat.testBit_and]
  cases a.testBit i <;> cases b.testBit i <;> simp
theorem A1T (a b:Nat)(ha:a < 65536)(hb:b < 65536):NR 1 2 a b 16=a ||| b:=by
 rw[ADH 1 2 a b (a ||| b) (Nat.or_lt_two_pow (n:=16) (by omega) (by omega)) (fun i _ => ?_) 16 (jL _)]
 ·simp
 ·rw[PK,PK,PK,Nat.testBit_or]
  cases a.testBit i <;> cases b.testBit i <;> simp
theorem AYK (a b:Nat)(ha:a < 65536)(hb:b < 65536):NR 1 1 a b 16=a ^^^ b:=by
 rw[ADH 1 1 a b (a ^^^ b) (Nat.xor_lt_two_pow (n:=16) (by omega) (by omega)) (fun i _ => ?_) 16 (jL _)]
 ·simp
 ·rw[PK,PK,PK,Nat.testBit_xor]
  cases a.testBit i <;> cases b.testBit i <;> simp
theorem AFY (G:Nat→AV)(lo hi a b:Nat)(ha:a < 65536)(hb:b < 65536)(h:Hp):PCall (En G) 251 [.int .i64 (a:Nat),.int .i64 (b:Nat),.int .i64 (lo:Nat),.int .i64 (hi:Nat)] h (.int .i64 (NR lo hi a b 16:Nat)):=by
 refine acN Tryz.func251 rfl ?_
 show awp _ _ _ _ _ (EM _ [.tmp 8] _)
 simp -implicitDefEqProofs only[vQ,BD,enP]
 refine DL (fun n F H => ∃ k,n+k=16∧F 0 = .int .i64 (a:Nat)∧F 1 = .int .i64 (b:Nat)∧F 2 = .int .i64 (lo:Nat)∧F 3 = .int .i64 (hi:Nat)∧F 9 = .int .i64 (NR lo hi a b k:Nat)∧F 10 = .int .i64 (15 - (k:Int))∧H=h) 16
  ⟨0,by simp,by simp -implicitDefEqProofs only[vQ,↓reduceIte,jB],by simp -implicitDefEqProofs only[vQ,↓reduceIte,jB],by simp -implicitDefEqProofs only[vQ,↓reduceIte,jB],by simp -implicitDefEqProofs only[vQ,↓reduceIte,jB],by simp -implicitDefEqProofs only[AA,↓reduceIte,jB] <;> rfl,by simp -implicitDefEqProofs only[AA,↓reduceIte] <;> rfl,rfl⟩ ?_
 rintro n F H ⟨k,hk,f0,f1,f2,f3,f9,f10,rfl⟩
 simp -implicitDefEqProofs only[vQ,BD,↓reduceIte,enP,f10]
 refine CU (fun hc => ?_) (fun hc => ?_)
 ·have hk':k < 16:=by simp at hc; omega
  have e0:(15 - (k:Int))=((15 - k:Nat):Int):=by omega
  have l1:=ADI a (15 - k)
  have l2:=ADI b (15 - k)
  have l3:=AIE lo hi a b k
  have l4:2 ^ k≤2 ^ 15:=Nat.pow_le_pow_right (by omega) (by omega)
  simp only[Nat.reducePow] at l4
  have es:IntKind.i64.wrap (((LU a (15 - k):Nat):Int)+((LU b (15 - k):Nat):Int))=((LU a (15 - k)+LU b (15 - k):Nat):Int):=by rw[wrap_i64 (by omega) (by omega)]; omega
  have e2:IntKind.i64.wrap (2 * ((NR lo hi a b k:Nat):Int))=((2 * NR lo hi a b k:Nat):Int):=by rw[wrap_i64 (by omega) (by omega)]; omega
  have e3:IntKind.i64.wrap (((15 - k:Nat):Int) - 1)=15 - ((k+1:Nat):Int):=by rw[wrap_i64 (by omega) (by omega)]; omega
  have hst:NR lo hi a b (k+1)=2 * NR lo hi a b k+(if lo≤LU a (15 - k)+LU b (15 - k)∧LU a (15 - k)+LU b (15 - k)≤hi then 1 else 0):=rfl
  simp -implicitDefEqProofs only[vQ,BD,↓reduceIte,jB,f0,f10,e0]
  refine(AJ4 G a (15 - k) ha (by omega) H).use ?_
  simp -implicitDefEqProofs only[vQ,BD,↓reduceIte,jB,f1,f10,e0]
  refine(AJ4 G b (15 - k) hb (by omega) H).use ?_
  simp -implicitDefEqProofs only[vQ,CP,BD,OJ,↓reduceIte,jB,enP,f2,f3,f9,es,e2]
  cases h1:decide (((LU a (15 - k)+LU b (15 - k):Nat):Int)≥((lo:Nat):Int))
  ·have h1' : ¬ lo≤LU a (15 - k)+LU b (15 - k):=by simp at h1; omega
   rw[if_neg (fun q=>h1' q.1),jK] at hst
   simp -implicitDefEqProofs only[vQ,CP,BD,EW,↓reduceIte,jB,enP,h1,f10,e0,e3]
   exact⟨n - 1,by omega,k+1,by omega,f0,f1,f2,f3,by rw[hst] <;> rfl,by trivial,trivial⟩
  ·have h1':lo≤LU a (15 - k)+LU b (15 - k):=by simp at h1; omega
   cases h2:decide (((LU a (15 - k)+LU b (15 - k):Nat):Int)≤((hi:Nat):Int))
   ·have h2' : ¬ LU a (15 - k)+LU b (15 - k)≤hi:=by simp at h2; omega
    rw[if_neg (fun q=>h2' q.2),jK] at hst
    simp -implicitDefEqProofs only[vQ,CP,BD,↓reduceIte,jB,enP,h1,h2,f3,f10,e0,e3]
    exact⟨n - 1,by omega,k+1,by omega,f0,f1,f2,by trivial,by rw[hst] <;> rfl,by trivial,trivial⟩
   ·have h2':LU a (15 - k)+LU b (15 - k)≤hi:=by simp at h2; omega
    rw[if_pos ⟨h1',h2'⟩] at hst
    simp -implicitDefEqProofs only[vQ,CP,BD,↓reduceIte,jB,enP,h1,h2,f3,f10,e0,e3,wrap_succ (show 2 * NR lo hi a b k < 9223372036854775807 by omega)]
    exact⟨n - 1,by omega,k+1,by omega,f0,f1,f2,by trivial,by rw[hst] <;> rfl,by trivial,trivial⟩
 ·have hk':k=16:=by simp at hc; omega
  subst hk'
  simp -implicitDefEqProofs only[vQ,BD,↓reduceIte,jB,f9]
  exact⟨by trivial,trivial⟩
theorem A7Y (G:Nat→AV)(a b:Nat)(ha:a < 65536)(hb:b < 65536)(h:Hp):PCall (En G) 232 [.int .i64 (a:Nat),.int .i64 (b:Nat)] h (.int .i64 ((a &&& b:Nat):Int)):=by
 have hc:=AFY G 2 2 a b ha hb h
 rw[AYL a b ha] at hc
 have hc':PCall (En G) 251 [.int .i64 (a:Nat),.int .i64 (b:Nat),.int .i64 2,.int .i64 2] h (.int .i64 ((a &&& b:Nat):Int)):=hc
 refine acN Tryz.func232 rfl ?_
 show awp _ _ _ _ _ (EM _ [.tmp 4] _)
 simp -implicitDefEqProofs only[vQ,BD,↓reduceIte,jB,enP]
 refine hc'.use ?_
 simp -implicitDefEqProofs only[vQ,BD,↓reduceIte]
 exact⟨trivial,trivial⟩
theorem A8V (G:Nat→AV)(a b:Nat)(ha:a < 65536)(hb:b < 65536)(h:Hp):PCall (En G) 233 [.int .i64 (a:Nat),.int .i64 (b:Nat)] h (.int .i64 ((a ||| b:Nat):Int)):=by
 have hc:=AFY G 1 2 a b ha hb h
 rw[A1T a b ha hb] at hc
 have hc':PCall (En G) 251 [.int .i64 (a:Nat),.int .i64 (b:Nat),.int .i64 1,.int .i64 2] h (.int .i64 ((a ||| b:Nat):Int)):=hc
 refine acN Tryz.func233 rfl ?_
 show awp _ _ _ _ _ (EM _ [.tmp 4] _)
 simp -implicitDefEqProofs only[vQ,BD,↓reduceIte,jB,enP]
 refine hc'.use ?_
 simp -implicitDefEqProofs only[vQ,BD,↓reduceIte]
 exact⟨trivial,trivial⟩
theorem A45 (G:Nat→AV)(a b:Nat)(ha:a < 65536)(hb:b < 65536)(h:Hp):PCall (En G) 234 [.int .i64 (a:Nat),.int .i64 (b:Nat)] h (.int .i64 ((a ^^^ b:Nat):Int)):=by
 have hc:=AFY G 1 1 a b ha hb h
 rw[AYK a b ha hb] at hc
 have hc':PCall (En G) 251 [.int .i64 (a:Nat),.int .i64 (b:Nat),.int .i64 1,.int .i64 1] h (.int .i64 ((a ^^^ b:Nat):Int)):=hc
 refine acN Tryz.func234 rfl ?_
 show awp _ _ _ _ _ (EM _ [.tmp 4] _)
 simp -implicitDefEqProofs only[vQ,BD,↓reduceIte,jB,enP]
 refine hc'.use ?_
 simp -implicitDefEqProofs only[vQ,BD,↓reduceIte]
 exact⟨trivial,trivial⟩
end Go.Proofs.YtfpagfhhhlljjaaGreatDoor.Wd
set_option linter.unusedSimpArgs false
set_option maxRecDepth 8000
namespace Go.Proofs.YtfpagfhhhlljjaaGreatDoor.Xe
open Sm Bins Cov Wd Go.RowKit
open Bool renaming eq_iff_iff→qU,not_false→jC,not_true→jU,or_false→jQ,or_true→wK
open Int renaming reduceBEq→zF
open List renaming map_cons→jD,map_nil→jE,append_nil→jF
open Nat renaming mod_lt→qQ,le_of_ble_eq_true→jI,reduceEqDiff→jB
open Option renaming getD_some→jA
def tr (b:Bool):Nat:=if b then 1 else 0
def sgW (op:Int)(a:Nat):Nat:=if op=4 then tr (a == 0) else if op=5 then 65535 - a else if op=6 then (65536 - a) % 65536 else WO a
def dbW (op:Int)(a b:Nat):Nat :=
 if op=7 then (a+b) % 65536 else if op=8 then (a+65536 - b) % 65536 else if op=9 then a * b % 65536 else if op=10 then a &&& b else if op=11 then a ||| b else if op=12 then a ^^^ b
 else if op=13 then ABC a (b:Nat) else if op=14 then YU a (b:Nat) else if op=15 then tr (a == b) else if op=16 then tr (!(a == b)) else if op=17 then tr (decide (a < b)) else if op=18 then tr (decide (a≤b))
 else if op=19 then tr (!(a == 0) && !(b == 0)) else if op=20 then tr (!(a == 0) || !(b == 0)) else tr ((a == 0) || !(b == 0))
theorem ZM (b:Bool):tr b < 65536:=by cases b <;> decide
theorem A3T {op:Int}{a:Nat}(ha:a < 65536):sgW op a < 65536:=by
 unfold sgW
 by_cases h4:op=4
 ·rw[if_pos h4]; exact ZM _
 by_cases h5:op=5
 ·rw[if_neg h4,if_pos h5]; omega
 by_cases h6:op=6
 ·rw[if_neg h4,if_neg h5,if_pos h6]; exact qQ _ (by omega)
 ·rw[if_neg h4,if_neg h5,if_neg h6]
  have:=PX a 16
  unfold WO; omega
theorem A4M {op:Int}{a b:Nat}(ha:a < 65536)(hb:b < 65536):dbW op a b < 65536:=by
 unfold dbW
 by_cases h7:op=7
 ·rw[if_pos h7]; exact qQ _ (by omega)
 by_cases h8:op=8
 ·rw[if_neg h7,if_pos h8]; exact qQ _ (by omega)
 by_cases h9:op=9
 ·rw[if_neg h7,if_neg h8,if_pos h9]; exact qQ _ (by omega)
 by_cases h10:op=10
 ·rw[if_neg h7,if_neg h8,if_neg h9,if_pos h10]; exact Nat.lt_of_le_of_lt Nat.and_le_left ha
 by_cases h11:op=11
 ·rw[if_neg h7,if_neg h8,if_neg h9,if_neg h10,if_pos h11]; exact Nat.or_lt_two_pow (n:=16) (by omega) (by omega)
 by_cases h12:op=12
 ·rw[if_neg h7,if_neg h8,if_neg h9,if_neg h10,if_neg h11,if_pos h12]; exact Nat.xor_lt_two_pow (n:=16) (by omega) (by omega)
 by_cases h13:op=13
 ·rw[if_neg h7,if_neg h8,if_neg h9,if_neg h10,if_neg h11,if_neg h12,if_pos h13]; exact AQ3
 by_cases h14:op=14
 ·rw[if_neg h7,if_neg h8,if_neg h9,if_neg h10,if_neg h11,if_neg h12,if_neg h13,if_pos h14]; exact AQ2 ha
 by_cases h15:op=15
 ·rw[if_neg h7,if_neg h8,if_neg h9,if_neg h10,if_neg h11,if_neg h12,if_neg h13,if_neg h14,if_pos h15]; exact ZM _
 by_cases h16:op=16
 ·rw[if_neg h7,if_neg h8,if_neg h9,if_neg h10,if_neg h11,if_neg h12,if_neg h13,if_neg h14,if_neg h15,if_pos h16]; exact ZM _
 by_cases h17:op=17
 ·rw[if_neg h7,if_neg h8,if_neg h9,if_neg h10,if_neg h11,if_neg h12,if_neg h13,if_neg h14,if_neg h15,if_neg h16,if_pos h17]; exact ZM _
 by_cases h18:op=18
 ·rw[if_neg h7,if_neg h8,if_neg h9,if_neg h10,if_neg h11,if_neg h12,if_neg h13,if_neg h14,if_neg h15,if_neg h16,if_neg h17,if_pos h18]; exact ZM _
 by_cases h19:op=19
 ·rw[if_neg h7,if_neg h8,if_neg h9,if_neg h10,if_neg h11,if_neg h12,if_neg h13,if_neg h14,if_neg h15,if_neg h16,if_neg h17,if_neg h18,if_pos h19]; exact ZM _
 by_cases h20:op=20
 ·rw[if_neg h7,if_neg h8,if_neg h9,if_neg h10,if_neg h11,if_neg h12,if_neg h13,if_neg h14,if_neg h15,if_neg h16,if_neg h17,if_neg h18,if_neg h19,if_pos h20]; exact ZM _
 ·rw[if_neg h7,if_neg h8,if_neg h9,if_neg h10,if_neg h11,if_neg h12,if_neg h13,if_neg h14,if_neg h15,if_neg h16,if_neg h17,if_neg h18,if_neg h19,if_neg h20]; exact ZM _
theorem eqc (a b:Nat):((a:Int) == (b:Int))=(a == b):=by
 rw[qU]; simp only[beq_iff_eq]; omega
theorem eqz (a:Nat):((a:Int) == 0)=(a == 0):=eqc a 0
theorem nec (a b:Nat):((a:Int) != (b:Int)) = !(a == b):=congrArg not (eqc a b)
theorem nez (a:Nat):((a:Int) != 0) = !(a == 0):=nec a 0
theorem ltc (a b:Nat):decide ((a:Int) < (b:Int))=decide (a < b):=by
 rw[qU]; simp only[decide_eq_true_eq]; omega
theorem lec (a b:Nat):decide ((a:Int)≤(b:Int))=decide (a≤b):=by
 rw[qU]; simp only[decide_eq_true_eq]; omega
theorem NJ (G:Nat→AV)(b:Bool)(h:Hp):PCall (En G) 263 [.bool b] h (.int .i64 (tr b:Nat)):=by
 refine acN Tryz.func263 rfl ?_
 show awp _ _ _ _ _ (EM _ [.tmp 2] _)
 cases b
 all_goals
  simp -implicitDefEqProofs only[vQ,BD,↓reduceIte,jB,enP]
  exact⟨rfl,trivial⟩
theorem AK1 (G:Nat→AV)(op:Int)(a:Nat)(ha:a < 65536)(h:Hp):PCall (En G) 246 [.int .i64 op,.int .i64 (a:Nat)] h (.int .i64 (sgW op a:Nat)):=by
 refine acN Tryz.func246 rfl ?_
 show awp _ _ _ _ _ (EM _ [.tmp 4] _)
 have hcase:op=4∨op=5∨op=6∨(op≠4∧op≠5∧op≠6):=by omega
 rcases hcase with rfl | rfl | rfl | ⟨n4,n5,n6⟩
 ·simp -implicitDefEqProofs only[vQ,BD,↓reduceIte,jB,enP,zF,eqz]
  refine(NJ G _ h).use ?_
  simp -implicitDefEqProofs only[vQ,BD,↓reduceIte]
  exact⟨rfl,trivial⟩
 ·simp -implicitDefEqProofs only[vQ,BD,↓reduceIte,jB,enP,zF]
  refine(A6N G a ha h).use ?_
  simp -implicitDefEqProofs only[vQ,BD,↓reduceIte]
  exact⟨rfl,trivial⟩
 ·simp -implicitDefEqProofs only[vQ,BD,↓reduceIte,jB,enP,zF]
  refine(A5Z G a ha h).use ?_
  simp -implicitDefEqProofs only[vQ,BD,↓reduceIte]
  exact⟨rfl,trivial⟩
 ·simp -implicitDefEqProofs only[vQ,BD,↓reduceIte,jB,enP,beq_eq_false_iff_ne.2 n4,beq_eq_false_iff_ne.2 n5,beq_eq_false_iff_ne.2 n6]
  refine(ATE G a ha h).use ?_
  simp -implicitDefEqProofs only[vQ,BD,↓reduceIte]
  exact⟨by unfold sgW; rw[if_neg n4,if_neg n5,if_neg n6],trivial⟩
set_option maxHeartbeats 4000000 in
theorem AM2 (G:Nat→AV)(op:Int)(a b:Nat)(ha:a < 65536)(hb:b < 65536)(h:Hp):PCall (En G) 247 [.int .i64 op,.int .i64 (a:Nat),.int .i64 (b:Nat)] h (.int .i64 (dbW op a b:Nat)):=by
 refine acN Tryz.func247 rfl ?_
 show awp _ _ _ _ _ (EM _ [.tmp 6] _)
 have hcase:op=7∨op=8∨op=9∨op=10∨op=11∨op=12∨op=13∨op=14∨op=15∨op=16∨op=17∨op=18∨op=19∨op=20∨(op < 7∨20 < op):=by omega
 rcases hcase with rfl | rfl | rfl | rfl | rfl | rfl | rfl | rfl | rfl | rfl | rfl | rfl | rfl | rfl | hop
 ·simp -implicitDefEqProofs only[vQ,BD,↓reduceIte,jB,enP,zF]
  refine(A27 G a b ha hb h).use ?_
  simp -implicitDefEqProofs only[vQ,BD,↓reduceIte]
  exact⟨rfl,trivial⟩
 ·simp -implicitDefEqProofs only[vQ,BD,↓reduceIte,jB,enP,zF]
  refine(A5D G a b ha hb h).use ?_
  simp -implicitDefEqProofs only[vQ,BD,↓reduceIte]
  exact⟨rfl,trivial⟩
 ·simp -implicitDefEqProofs only[vQ,BD,↓reduceIte,jB,enP,zF]
  refine(A51 G a b ha hb h).use ?_
  simp -implicitDefEqProofs only[vQ,BD,↓reduceIte]
  exact⟨rfl,trivial⟩
 ·simp -implicitDefEqProofs only[vQ,BD,↓reduceIte,jB,enP,zF,A7X a b ha hb]
  exact⟨rfl,trivial⟩
 ·simp -implicitDefEqProofs only[vQ,BD,↓reduceIte,jB,enP,zF,A8U a b ha hb]
  exact⟨rfl,trivial⟩
 ·simp -implicitDefEqProofs only[vQ,BD,↓reduceIte,jB,enP,zF,A44 a b ha hb]
  exact⟨rfl,trivial⟩
 ·simp -implicitDefEqProofs only[vQ,BD,↓reduceIte,jB,enP,zF]
  refine(A5N G a (b:Nat) ha h).use ?_
  simp -implicitDefEqProofs only[vQ,BD,↓reduceIte]
  exact⟨rfl,trivial⟩
 ·simp -implicitDefEqProofs only[vQ,BD,↓reduceIte,jB,enP,zF]
  refine(A5M G a (b:Nat) ha h).use ?_
  simp -implicitDefEqProofs only[vQ,BD,↓reduceIte]
  exact⟨rfl,trivial⟩
 ·simp -implicitDefEqProofs only[vQ,BD,↓reduceIte,jB,enP,zF,eqc,nec,ltc,lec]
  refine(NJ G _ h).use ?_
  simp -implicitDefEqProofs only[vQ,BD,↓reduceIte]
  exact⟨rfl,trivial⟩
 ·simp -implicitDefEqProofs only[vQ,BD,↓reduceIte,jB,enP,zF,eqc,nec,ltc,lec]
  refine(NJ G _ h).use ?_
  simp -implicitDefEqProofs only[vQ,BD,↓reduceIte]
  exact⟨rfl,trivial⟩
 ·simp -implicitDefEqProofs only[vQ,BD,↓reduceIte,jB,enP,zF,eqc,nec,ltc,lec]
  refine(NJ G _ h).use ?_
  simp -implicitDefEqProofs only[vQ,BD,↓reduceIte]
  exact⟨rfl,trivial⟩
 ·simp -implicitDefEqProofs only[vQ,BD,↓reduceIte,jB,enP,zF,eqc,nec,ltc,lec]
  refine(NJ G _ h).use ?_
  simp -implicitDefEqProofs only[vQ,BD,↓reduceIte]
  exact⟨rfl,trivial⟩
 ·simp -implicitDefEqProofs only[vQ,CP,BD,↓reduceIte,jB,enP,zF,eqz,nez]
  cases h1:(a == 0) <;> cases h2:(b == 0)
  all_goals
   simp -implicitDefEqProofs only[vQ,CP,BD,EW,↓reduceIte,jB,jU,enP,h1,h2,nez]
   refine(NJ G _ h).use ?_
   simp -implicitDefEqProofs only[vQ,BD,↓reduceIte]
   exact⟨by unfold dbW; rw[h1,h2]; rfl,trivial⟩
 ·simp -implicitDefEqProofs only[vQ,CP,BD,↓reduceIte,jB,enP,zF,eqz,nez]
  cases h1:(a == 0) <;> cases h2:(b == 0)
  all_goals
   simp -implicitDefEqProofs only[vQ,CP,BD,EW,↓reduceIte,jB,jU,enP,h1,h2,nez]
   refine(NJ G _ h).use ?_
   simp -implicitDefEqProofs only[vQ,BD,↓reduceIte]
   exact⟨by unfold dbW; rw[h1,h2]; rfl,trivial⟩
 ·have hne : ∀ k:Int,7≤k→k≤20→(op == k)=false:=fun k _ _=>beq_eq_false_iff_ne.2 (by omega)
  have hd:dbW op a b=tr ((a == 0) || !(b == 0)):=by
   unfold dbW
   rw[if_neg (by omega : ¬ op=7),if_neg (by omega : ¬ op=8),if_neg (by omega : ¬ op=9),if_neg (by omega : ¬ op=10),if_neg (by omega : ¬ op=11),if_neg (by omega : ¬ op=12),if_neg (by omega : ¬ op=13),if_neg (by omega : ¬ op=14),if_neg (by omega : ¬ op=15),if_neg (by omega : ¬ op=16),if_neg (by omega : ¬ op=17),if_neg (by omega : ¬ op=18),if_neg (by omega : ¬ op=19),if_neg (by omega : ¬ op=20)]
  rw[hd]
  simp -implicitDefEqProofs only[vQ,CP,BD,↓reduceIte,jB,enP,hne 7 (by decide) (by decide),hne 8 (by decide) (by decide),hne 9 (by decide) (by decide),hne 10 (by decide) (by decide),hne 11 (by decide) (by decide),hne 12 (by decide) (by decide),hne 13 (by decide) (by decide),hne 14 (by decide) (by decide),hne 15 (by decide) (by decide),hne 16 (by decide) (by decide),hne 17 (by decide) (by decide),hne 18 (by decide) (by decide),hne 19 (by decide) (by decide),hne 20 (by decide) (by decide),eqz,nez]
  cases h1:(a == 0) <;> cases h2:(b == 0)
  all_goals
   simp -implicitDefEqProofs only[vQ,jQ,wK,CP,BD,EW,↓reduceIte,jB,jU,enP,h1,h2,nez]
   refine(NJ G _ h).use ?_
   simp -implicitDefEqProofs only[vQ,BD,↓reduceIte]
   exact⟨by trivial,trivial⟩
theorem OV (G:Nat→AV)(b:Bool)(h:Hp):PCall (En G) 226 [.bool b] h (.int .i64 (tr b:Nat)):=by
 refine acN Tryz.func226 rfl ?_
 show awp _ _ _ _ _ (EM _ [.tmp 2] _)
 cases b
 all_goals
  simp -implicitDefEqProofs only[vQ,BD,↓reduceIte,jB,enP]
  exact⟨rfl,trivial⟩
theorem AN9 (G:Nat→AV)(op:Int)(a:Nat)(ha:a < 65536)(h:Hp):PCall (En G) 199 [.int .i64 op,.int .i64 (a:Nat)] h (.int .i64 (sgW op a:Nat)):=by
 refine acN Tryz.func199 rfl ?_
 show awp _ _ _ _ _ (EM _ [.tmp 4] _)
 have hcase:op=4∨op=5∨op=6∨(op≠4∧op≠5∧op≠6):=by omega
 rcases hcase with rfl | rfl | rfl | ⟨n4,n5,n6⟩
 ·simp -implicitDefEqProofs only[vQ,BD,↓reduceIte,jB,enP,zF,eqz]
  refine(OV G _ h).use ?_
  simp -implicitDefEqProofs only[vQ,BD,↓reduceIte]
  exact⟨rfl,trivial⟩
 ·simp -implicitDefEqProofs only[vQ,BD,↓reduceIte,jB,enP,zF]
  refine(A6O G a ha h).use ?_
  simp -implicitDefEqProofs only[vQ,BD,↓reduceIte]
  exact⟨rfl,trivial⟩
 ·simp -implicitDefEqProofs only[vQ,BD,↓reduceIte,jB,enP,zF]
  refine(A50 G a ha h).use ?_
  simp -implicitDefEqProofs only[vQ,BD,↓reduceIte]
  exact⟨rfl,trivial⟩
 ·simp -implicitDefEqProofs only[vQ,BD,↓reduceIte,jB,enP,beq_eq_false_iff_ne.2 n4,beq_eq_false_iff_ne.2 n5,beq_eq_false_iff_ne.2 n6]
  refine(A33 G a ha h).use ?_
  simp -implicitDefEqProofs only[vQ,BD,↓reduceIte]
  exact⟨by unfold sgW; rw[if_neg n4,if_neg n5,if_neg n6],trivial⟩
set_option maxHeartbeats 4000000 in
theorem APG (G:Nat→AV)(op:Int)(a b:Nat)(ha:a < 65536)(hb:b < 65536)(h:Hp):PCall (En G) 200 [.int .i64 op,.int .i64 (a:Nat),.int .i64 (b:Nat)] h (.int .i64 (dbW op a b:Nat)):=by
 refine acN Tryz.func200 rfl ?_
 show awp _ _ _ _ _ (EM _ [.tmp 6] _)
 have hcase:op=7∨op=8∨op=9∨op=10∨op=11∨op=12∨op=13∨op=14∨op=15∨op=16∨op=17∨op=18∨op=19∨op=20∨(op < 7∨20 < op):=by omega
 rcases hcase with rfl | rfl | rfl | rfl | rfl | rfl | rfl | rfl | rfl | rfl | rfl | rfl | rfl | rfl | hop
 ·simp -implicitDefEqProofs only[vQ,BD,↓reduceIte,jB,enP,zF]
  refine(A28 G a b ha hb h).use ?_
  simp -implicitDefEqProofs only[vQ,BD,↓reduceIte]
  exact⟨rfl,trivial⟩
 ·simp -implicitDefEqProofs only[vQ,BD,↓reduceIte,jB,enP,zF]
  refine(A5E G a b ha hb h).use ?_
  simp -implicitDefEqProofs only[vQ,BD,↓reduceIte]
  exact⟨rfl,trivial⟩
 ·simp -implicitDefEqProofs only[vQ,BD,↓reduceIte,jB,enP,zF]
  refine(A52 G a b ha hb h).use ?_
  simp -implicitDefEqProofs only[vQ,BD,↓reduceIte]
  exact⟨rfl,trivial⟩
 ·simp -implicitDefEqProofs only[vQ,BD,↓reduceIte,jB,enP,zF]
  refine(A7Y G a b ha hb h).use ?_
  simp -implicitDefEqProofs only[vQ,BD,↓reduceIte]
  exact⟨rfl,trivial⟩
 ·simp -implicitDefEqProofs only[vQ,BD,↓reduceIte,jB,enP,zF]
  refine(A8V G a b ha hb h).use ?_
  simp -implicitDefEqProofs only[vQ,BD,↓reduceIte]
  exact⟨rfl,trivial⟩
 ·simp -implicitDefEqProofs only[vQ,BD,↓reduceIte,jB,enP,zF]
  refine(A45 G a b ha hb h).use ?_
  simp -implicitDefEqProofs only[vQ,BD,↓reduceIte]
  exact⟨rfl,trivial⟩
 ·simp -implicitDefEqProofs only[vQ,BD,↓reduceIte,jB,enP,zF]
  refine(A5O G a (b:Nat) ha h).use ?_
  simp -implicitDefEqProofs only[vQ,BD,↓reduceIte]
  exact⟨rfl,trivial⟩
 ·simp -implicitDefEqProofs only[vQ,BD,↓reduceIte,jB,enP,zF]
  refine(A2M G a (b:Nat) ha h).use ?_
  simp -implicitDefEqProofs only[vQ,BD,↓reduceIte]
  exact⟨rfl,trivial⟩
 ·simp -implicitDefEqProofs only[vQ,BD,↓reduceIte,jB,enP,zF,eqc,nec,ltc,lec]
  refine(OV G _ h).use ?_
  simp -implicitDefEqProofs only[vQ,BD,↓reduceIte]
  exact⟨rfl,trivial⟩
 ·simp -implicitDefEqProofs only[vQ,BD,↓reduceIte,jB,enP,zF,eqc,nec,ltc,lec]
  refine(OV G _ h).use ?_
  simp -implicitDefEqProofs only[vQ,BD,↓reduceIte]
  exact⟨rfl,trivial⟩
 ·simp -implicitDefEqProofs only[vQ,BD,↓reduceIte,jB,enP,zF,eqc,nec,ltc,lec]
  refine(OV G _ h).use ?_
  simp -implicitDefEqProofs only[vQ,BD,↓reduceIte]
  exact⟨rfl,trivial⟩
 ·simp -implicitDefEqProofs only[vQ,BD,↓reduceIte,jB,enP,zF,eqc,nec,ltc,lec]
  refine(OV G _ h).use ?_
  simp -implicitDefEqProofs only[vQ,BD,↓reduceIte]
  exact⟨rfl,trivial⟩
 ·simp -implicitDefEqProofs only[vQ,CP,BD,↓reduceIte,jB,enP,zF,eqz,nez]
  cases h1:(a == 0) <;> cases h2:(b == 0)
  all_goals
   simp -implicitDefEqProofs only[vQ,CP,BD,EW,↓reduceIte,jB,jU,enP,h1,h2,nez]
   refine(OV G _ h).use ?_
   simp -implicitDefEqProofs only[vQ,BD,↓reduceIte]
   exact⟨by unfold dbW; rw[h1,h2]; rfl,trivial⟩
 ·simp -implicitDefEqProofs only[vQ,CP,BD,↓reduceIte,jB,enP,zF,eqz,nez]
  cases h1:(a == 0) <;> cases h2:(b == 0)
  all_goals
   simp -implicitDefEqProofs only[vQ,CP,BD,EW,↓reduceIte,jB,jU,enP,h1,h2,nez]
   refine(OV G _ h).use ?_
   simp -implicitDefEqProofs only[vQ,BD,↓reduceIte]
   exact⟨by unfold dbW; rw[h1,h2]; rfl,trivial⟩
 ·have hne : ∀ k:Int,7≤k→k≤20→(op == k)=false:=fun k _ _=>beq_eq_false_iff_ne.2 (by omega)
  have hd:dbW op a b=tr ((a == 0) || !(b == 0)):=by
   unfold dbW
   rw[if_neg (by omega : ¬ op=7),if_neg (by omega : ¬ op=8),if_neg (by omega : ¬ op=9),if_neg (by omega : ¬ op=10),if_neg (by omega : ¬ op=11),if_neg (by omega : ¬ op=12),if_neg (by omega : ¬ op=13),if_neg (by omega : ¬ op=14),if_neg (by omega : ¬ op=15),if_neg (by omega : ¬ op=16),if_neg (by omega : ¬ op=17),if_neg (by omega : ¬ op=18),if_neg (by omega : ¬ op=19),if_neg (by omega : ¬ op=20)]
  rw[hd]
  simp -implicitDefEqProofs only[vQ,CP,BD,↓reduceIte,jB,enP,hne 7 (by decide) (by decide),hne 8 (by decide) (by decide),hne 9 (by decide) (by decide),hne 10 (by decide) (by decide),hne 11 (by decide) (by decide),hne 12 (by decide) (by decide),hne 13 (by decide) (by decide),hne 14 (by decide) (by decide),hne 15 (by decide) (by decide),hne 16 (by decide) (by decide),hne 17 (by decide) (by decide),hne 18 (by decide) (by decide),hne 19 (by decide) (by decide),hne 20 (by decide) (by decide),eqz,nez]
  cases h1:(a == 0) <;> cases h2:(b == 0)
  all_goals
   simp -implicitDefEqProofs only[vQ,jQ,wK,CP,BD,EW,↓reduceIte,jB,jU,enP,h1,h2,nez]
   refine(OV G _ h).use ?_
   simp -implicitDefEqProofs only[vQ,BD,↓reduceIte]
   exact⟨by trivial,trivial⟩
end Go.Proofs.YtfpagfhhhlljjaaGreatDoor.Xe
