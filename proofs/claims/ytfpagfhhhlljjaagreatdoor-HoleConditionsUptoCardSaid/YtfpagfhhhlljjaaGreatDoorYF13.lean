/- Part 13 of the proof (X6, X7, X8, X9, X10, X11, X12, X13); no condition. -/
import Derived.Test.YtfpagfhhhlljjaaGreatDoorYF12
set_option linter.unusedVariables false
set_option linter.unusedSimpArgs false
set_option maxRecDepth 8000
namespace Go.Proofs.YtfpagfhhhlljjaaGreatDoor.Xe
open Sm Bins Cov Wd Go.RowKit
open Bool renaming not_false→jC,not_true→jV,eq_iff_iff→qU,or_false→jQ,false_eq_true→jW,false_and→qW,true_and→qO,or_true→wZ
open List renaming map_cons→jD,map_nil→jE,append_nil→jF,length_map→jH,findIdx?_eq_some_iff_getElem→qZ,all_eq_true→zH,take_succ_eq_append_getElem→zL,take_of_length_le→jU,findIdx?_eq_none_iff→wC,getElem?_eq_getElem→jO,length_append→qB,mem_append→qC,getElem_mem→jS,length→qF,drop_zero→zK,getElem?_cons_zero→zM,getElem?_cons_succ→zO,getElem_of_mem→qJ,getElem?_set_ne→zQ,getElem?_map→jY,getElem?_set→zB,mem_map→zI,drop_eq_getElem_cons→zN,drop_eq_nil_of_le→jZ,getD_eq_getElem?_getD→zZ,replicate→zA,getElem?_append_right→wJ,getElem?_drop→qY,getElem?_append_left→zJ,contains_nil→jJ,contains_cons→jR,take_zero→qG,length_take→zF
open Nat renaming le_refl→jL,le_of_ble_eq_true→jI,reduceEqDiff→jB,lt_or_ge→zG,add_zero→jM,zero_add→jG,reduceAdd→jP,le_trans→qL,reduceBEq→jK
open Option renaming getD_some→jA,getD_none→jT,map_some→wK
theorem AV5 {xs:List Ex}(h:errs xs=0) : ∀ x∈xs,KJ x=0:=by
 induction xs with
 | nil=>intro x hx; cases hx
 | cons y ys ih =>
   have h1:ys.foldl (fun z e=>if z=0 then KJ e else z) (KJ y)=0:=h
   have hy:KJ y=0:=by
    rcases Classical.em (KJ y=0) with q | q
    ·exact q
    ·rw[AIO _ _ q] at h1; exact h1
   rw[hy] at h1
   intro x hx
   rcases List.mem_cons.1 hx with rfl | hx
   ·exact hy
   ·exact ih h1 x hx
theorem AS1 {e:Ex}(h:exE e=0) : ∀ x∈pre e,KJ x=0:=by
 unfold exE at h
 split at h
 ·cases h
 ·exact AV5 h
def evE (l:List Sg)(e:Ex):Nat × Int:=if exE e≠0 then (0,1) else if(pre e).all (knE l)=true then (AE9 l e,0) else (0,7)
def evV (p:Nat × Int):AV := .tup [.int .i64 (p.1:Nat),.int .i64 p.2]
theorem A3A (p:Nat × Int)(n:Nat)(H:Hp):IL n H 2 (evV p)=evV p:=rfl
theorem A57 (h:Hp):KG Tryz.prog h 205=some (.ptr h.length 0 0,h++[.live 1 [[.sl .nil 0 []]]]):=J4 (row := [.sl .nil 0 []]) (by kernel_rfl)
theorem A5Z (s:SM)(k:Nat)(xs:List (List AV)):KZ Tryz.prog 205 [(0,.sl s k xs)]=some (.agg [.sl s k xs]):=by kernel_rfl
theorem A4A (h:Hp)(s:SM)(k:Nat)(xs:List (List AV)):FP Tryz.prog (h++[.live 1 [[.sl .nil 0 []]]]) 205 (.ptr h.length 0 0) (.agg [.sl s k xs])=some (h++[.live 1 [[.sl s k xs]]]):=by
 rw[NH (cs := [.sl s k xs]) (row := [.sl .nil 0 []]) rfl A1F (CZ _ _) (by exact jL 1),ABY]
 rfl
section
variable (G:Nat→AV)
theorem ATV (hG:GOk G)(l:List Sg)(m:SM)(e:Ex)(h:Hp)(hl:l.length≤1099511627776)(hw:wt e≤1048576):PCall (En G) 156 [.agg (CX e),.sl m 2 (l.map JC)] h (evV (evE l e)):=by
 refine AP5 2 (A3A _) ?_
 refine acN Tryz.func156 rfl ?_
 show awp _ _ _ _ _ (EJ _ [.tmp 4,.tmp 5] _)
 have ge:=CP (x:=ABlk.live 1 [[.sl m 2 (l.map JC)]]) (CZ h (ABlk.live 4 [CX e]))
 have gs:=CZ (h++[ABlk.live 4 [CX e]]) (ABlk.live 1 [[.sl m 2 (l.map JC)]])
 have hx:ext h (h++[ABlk.live 4 [CX e]]++[ABlk.live 1 [[.sl m 2 (l.map JC)]]]):=((ext.rfl' h).app _).app _
 simp -implicitDefEqProofs only[vQ,BD,↓reduceIte,jB,enP,jT,bxE,A5Z,A57,A4A]
 generalize h++[ABlk.live 4 [CX e]]++[ABlk.live 1 [[.sl m 2 (l.map JC)]]]=H at ge gs hx ⊢
 generalize (h++[ABlk.live 4 [CX e]]).length=sb at gs ⊢
 simp -implicitDefEqProofs only[vQ,BD,↓reduceIte,OO ge]
 refine(Y7 G hG e H hw).use ?_
 simp -implicitDefEqProofs only[vQ,BD,↓reduceIte,enP]
 cases hv:(exE e == 0)
 ·have hne:exE e≠0:=by simpa using hv
  simp -implicitDefEqProofs only[vQ,BD,↓reduceIte,jB,bne,hv]
  exact⟨by unfold evE; rw[if_pos hne]; rfl,hx⟩
 have h0:exE e=0:=by simpa using hv
 simp -implicitDefEqProofs only[vQ,BD,↓reduceIte,jB,jV,enP,bne,hv,OO ge,WU gs]
 refine(AOC G l m e H hl hw).use ?_
 simp -implicitDefEqProofs only[vQ,BD,↓reduceIte]
 cases hk:(pre e).all (knE l)
 ·simp -implicitDefEqProofs only[vQ,BD,↓reduceIte,jB]
  exact⟨by unfold evE; rw[if_neg (by simpa using h0),if_neg (by rw[hk]; decide)]; rfl,hx⟩
 simp -implicitDefEqProofs only[vQ,BD,↓reduceIte,jB,jV,enP,OO ge,WU gs]
 refine(AJN G l m hl e hw (AS1 h0) H).use ?_
 simp -implicitDefEqProofs only[vQ,BD,↓reduceIte,jB]
 exact⟨by unfold evE; rw[if_neg (by simpa using h0),if_pos hk]; rfl,hx⟩
end
def outW (v:Int):Bool:=decide (v < 0) || decide (v > 65535)
def lastB (xs:List Int):Bool:=decide (xs.length≤7) && !xs.any outW
theorem AWB (n:Int):(qencI n)[0]? = some (.int .i64 n):=rfl
section
variable (G:Nat→AV)
theorem AYU (v:Int)(h:Hp):PCall (En G) 188 [.int .i64 v] h (.bool (outW v)):=by
 refine acN Tryz.func188 rfl ?_
 show awp _ _ _ _ _ (EJ _ [.tmp 2] _)
 simp -implicitDefEqProofs only[vQ,CO,BD,↓reduceIte,jB,enP]
 cases h1:decide (v < 0)
 ·simp -implicitDefEqProofs only[vQ,CO,BD,↓reduceIte,jB,enP,h1]
  exact⟨by unfold outW; rw[h1]; rfl,trivial⟩
 ·simp -implicitDefEqProofs only[vQ,CO,BD,EY,↓reduceIte,jB,h1]
  exact⟨by unfold outW; rw[h1]; rfl,trivial⟩
theorem A2Z (xs:List Int)(m:SM)(fid:FuncId)(p:Int→Bool)(h:Hp)(hl:xs.length≤1099511627776)(hf : ∀ r,PCall (En G) fid [.int .i64 r] h (.bool (p r))) :
  PCall (En G) 163 [.sl m 1 (xs.map qencI),.fn (.func fid) [] []] h (.int .i64 (match xs.findIdx? p with | some i=>(i:Int) | none => -1)):=by
 refine acN Tryz.func163 rfl ?_
 show awp _ _ _ _ _ (EJ _ [.tmp 4] _)
 simp -implicitDefEqProofs only[vQ,BD,↓reduceIte,jB,enP,JV,jH]
 refine DK (fun n F H => ∃ k,n+k=xs.length∧F 0 = .sl m 1 (xs.map qencI)∧F 1 = .fn (.func fid) [] []∧F 7 = .int .i64 xs.length∧F 8 = .int .i64 (k:Nat)∧H=h∧(xs.take k).all (fun r => !p r)=true) xs.length ⟨0,by simp,rfl,rfl,rfl,rfl,rfl,rfl⟩ ?_
 rintro n F H ⟨k,hk,f0,f1,f7,f8,rfl,hin⟩
 simp -implicitDefEqProofs only[vQ,BD,↓reduceIte,enP,f0,f1,f7,f8,jH]
 refine CU (fun hc => ?_) (fun hc => ?_)
 ·have hc':k < xs.length:=by simpa using hc
  simp -implicitDefEqProofs only[vQ,BD,↓reduceIte,jB,enP,JJ,f0,f1,f7,f8,DL hc',C9 ag3 hc',AWB]
  refine(hf _).use ?_
  simp -implicitDefEqProofs only[vQ,↓reduceIte]
  refine CU (fun hb => ?_) (fun hb => ?_)
  ·simp -implicitDefEqProofs only[vQ,BD,↓reduceIte,jB]
   refine⟨?_,trivial⟩
   rw[qZ.2 ⟨hc',hb,fun j hj=>by
    rw[zH] at hin
    have:=hin xs[j] (by rw[List.mem_take_iff_getElem]; exact⟨j,by omega,rfl⟩)
    simpa using this⟩]
  ·simp -implicitDefEqProofs only[vQ,BD,↓reduceIte,jB,enP,f8,wrap_succ (show k < 9223372036854775807 by omega)]
   refine⟨n - 1,by omega,k+1,by omega,f0,f1,f7,rfl,trivial,?_⟩
   rw[zL hc',List.all_append,hin]
   simp only[List.all_cons,List.all_nil,hb]; rfl
 ·have hc' : ¬ k < xs.length:=by simpa using hc
  simp -implicitDefEqProofs only[vQ,BD,↓reduceIte]
  refine⟨?_,trivial⟩
  rw[jU (by omega)] at hin
  rw[wC.2 (by simpa using hin)]
theorem ATC (xs:List Int)(m:SM)(fid:FuncId)(p:Int→Bool)(h:Hp)(hl:xs.length≤1099511627776)(hf : ∀ r,PCall (En G) fid [.int .i64 r] h (.bool (p r))) :
  PCall (En G) 118 [.sl m 1 (xs.map qencI),.fn (.func fid) [] []] h (.bool (xs.any p)):=by
 refine acN Tryz.func118 rfl ?_
 show awp _ _ _ _ _ (EJ _ [.tmp 4] _)
 simp -implicitDefEqProofs only[vQ,BD,↓reduceIte,jB,enP]
 refine(A2Z G xs m fid p h hl hf).use ?_
 simp -implicitDefEqProofs only[vQ,BD,↓reduceIte,enP]
 refine⟨?_,trivial⟩
 cases hx:xs.findIdx? p with
 | some i =>
   obtain⟨h1,h2,_⟩:=qZ.1 hx
   have:xs.any p=true:=List.any_eq_true.2 ⟨xs[i],by simp,h2⟩
   simp [this]
 | none =>
   have:xs.any p=false:=by
    rw[wC] at hx
    rw[List.any_eq_false]; intro x hx2; simp [hx x hx2]
   simp [this]
theorem AH9 (xs:List Int)(m:SM)(h:Hp)(hl:xs.length≤1099511627776):PCall (En G) 155 [.sl m 1 (xs.map qencI)] h (.bool (lastB xs)):=by
 refine acN Tryz.func155 rfl ?_
 show awp _ _ _ _ _ (EJ _ [.tmp 2] _)
 simp -implicitDefEqProofs only[vQ,CO,BD,↓reduceIte,jB,enP,JV,jH]
 have e7:decide (((xs.length:Nat):Int)≤7)=decide (xs.length≤7):=lec xs.length 7
 rw[e7]
 cases h7:decide (xs.length≤7)
 ·simp -implicitDefEqProofs only[vQ,CO,BD,EY,↓reduceIte,jB]
  exact⟨by unfold lastB; rw[h7]; rfl,trivial⟩
 ·simp -implicitDefEqProofs only[vQ,CO,BD,↓reduceIte,jB]
  refine(ATC G xs m 188 outW h hl (fun r=>AYU G r h)).use ?_
  simp -implicitDefEqProofs only[vQ,CO,BD,↓reduceIte,jB]
  exact⟨by unfold lastB; rw[h7]; rfl,trivial⟩
end
def hK (last:List Int)(v kind:Int)(b:Bin):Bool:=(b.kind == kind) && (if(kind == 0)=true then hit b last v else inside b.ranges.l v)
def NM (bins:List Bin)(last:List Int)(v kind:Int):Nat→List Nat
 | 0 => []
 | k+1=>NM bins last v kind k++(if((bins[k]?.map (hK last v kind)).getD false)=true then [k] else [])
def AG1 (p:Pt)(last:List Int)(v kind:Int):List Nat:=NM p.bins last v kind p.bins.length
theorem ADI (bins:List Bin)(last:List Int)(v kind:Int)(k:Nat)(hk:k < bins.length):NM bins last v kind (k+1)=NM bins last v kind k++(if hK last v kind bins[k]=true then [k] else []):=by
 simp only[NM,jO hk,wK,jA]
theorem Z5 (bins:List Bin)(last:List Int)(v kind:Int) : ∀ k,(NM bins last v kind k).length≤k
 | 0=>by simp [NM]
 | k+1=>by
   have:=Z5 bins last v kind k
   simp only[NM,qB]
   split <;> simp <;> omega
theorem ADJ (bins:List Bin)(last:List Int)(v kind:Int) : ∀ k,∀ x∈NM bins last v kind k,x < k
 | 0,x,hx=>by simp [NM] at hx
 | k+1,x,hx=>by
   simp only[NM] at hx
   rcases qC.1 hx with h | h
   ·have:=ADJ bins last v kind k x h; omega
   ·split at h
    ·simp at h; omega
    ·cases h
theorem AG0 (bins:List Bin)(last:List Int)(v kind:Int) : ∀ k,decide (0 < (NM bins last v kind k).length)=(bins.take k).any (hK last v kind)
 | 0=>by simp [NM]
 | k+1=>by
   have ih:=AG0 bins last v kind k
   rcases zG k bins.length with hk | hk
   ·rw[ADI _ _ _ _ _ hk,zL hk,List.any_append,← ih,qB,qU]
    simp only[List.any_cons,List.any_nil,jQ,Bool.or_eq_true,decide_eq_true_eq]
    split
    ·rename_i h; simp [h]
    ·rename_i h; simp [h]
   ·rw[jU (by omega)]
    rw[jU hk] at ih
    rw[← ih]
    simp only[NM,List.getElem?_eq_none hk,Option.map_none,jT,jW,if_false,jF]
def encX (m:SM)(last:List Int)(v:Int):List AV := [.sl m 1 (last.map qencI),.int .i64 v]
theorem AWU (h:Hp)(m:SM)(last:List Int)(v:Int):O1 h (.agg (encX m last v))=some (.ptr h.length 0 0,h++[ABlk.live 2 [encX m last v]]):=UM rfl
theorem AQP {h:Hp}{b:Nat}{m:SM}{last:List Int}{v:Int}(hb:h[b]? = some (.live 2 [encX m last v])):D5 Tryz.prog h 184 (.ptr b 0 0)=some (.agg (encX m last v)):=by
 rw[GV A6F A1G hb rfl (by exact jL 2)]; rfl
theorem AVG {h:Hp}{b:Nat}{x:Bin}(hb:h[b]? = some (.live 4 [GR x])):D5 Tryz.prog h 56 (.ptr b 0 0)=some (.agg (GR x)):=by
 rw[GV ABV XF hb rfl (by exact jL 4)]; rfl
theorem AR0 {b:Bin}(hb:BinOk b):b.ranges.l.length≤1099511627776:=by
 rcases Nat.eq_zero_or_pos b.ranges.l.length with h | h
 ·omega
 ·exact hb.sets b.ranges (by unfold sets; rw[if_pos h]; simp)
section
variable (G:Nat→AV)
theorem AIU (hG:GOk G)(b:Bin)(hb:BinOk b)(last:List Int)(m:SM)(v:Int)(h:Hp)(hl:last.length≤8388608):PCall (En G) 222 [.agg (encX m last v),.agg (GR b)] h (.bool (hit b last v)):=by
 refine ACalls.pure0 rfl ?_
 refine acN Tryz.func222 rfl ?_
 show awp _ _ _ _ _ (EJ _ [.tmp 4] _)
 have g1:=CP (x:=ABlk.live 4 [GR b]) (CZ h (ABlk.live 2 [encX m last v]))
 have g2:=CZ (h++[ABlk.live 2 [encX m last v]]) (ABlk.live 4 [GR b])
 have hx:ext h (h++[ABlk.live 2 [encX m last v]]++[ABlk.live 4 [GR b]]):=((ext.rfl' h).app _).app _
 simp -implicitDefEqProofs only[vQ,BD,↓reduceIte,jB,enP,AWU,bxB]
 generalize h++[ABlk.live 2 [encX m last v]]++[ABlk.live 4 [GR b]]=H at g1 g2 hx ⊢
 generalize (h++[ABlk.live 2 [encX m last v]]).length=bb at g2 ⊢
 have l0:D5 Tryz.prog H 26 (.ptr h.length 0 0)=some (.sl m 1 (last.map qencI)):=by rw[DU MG g1 (row:=encX m last v) rfl]; rfl
 have l1:D5 Tryz.prog H 3 (.ptr h.length 0 1)=some (.int .i64 v):=by rw[DU ag3 g1 (row:=encX m last v) rfl]; rfl
 simp -implicitDefEqProofs only[vQ,BD,↓reduceIte,jB,enP,AZV,AQS,AVG g2,l0,l1]
 refine(hit_prog G hG.kw b hb last m v H hl).use ?_
 simp -implicitDefEqProofs only[vQ,BD,↓reduceIte]
 exact⟨trivial,hx⟩
theorem AED (b:Bin)(hb:BinOk b)(last:List Int)(m:SM)(v:Int)(h:Hp):PCall (En G) 223 [.agg (encX m last v),.agg (GR b)] h (.bool (inside b.ranges.l v)):=by
 refine ACalls.pure0 rfl ?_
 refine acN Tryz.func223 rfl ?_
 show awp _ _ _ _ _ (EJ _ [.tmp 4] _)
 have g1:=CP (x:=ABlk.live 4 [GR b]) (CZ h (ABlk.live 2 [encX m last v]))
 have g2:=CZ (h++[ABlk.live 2 [encX m last v]]) (ABlk.live 4 [GR b])
 have hx:ext h (h++[ABlk.live 2 [encX m last v]]++[ABlk.live 4 [GR b]]):=((ext.rfl' h).app _).app _
 simp -implicitDefEqProofs only[vQ,BD,↓reduceIte,jB,enP,OU,AWU,bxB]
 generalize h++[ABlk.live 2 [encX m last v]]++[ABlk.live 4 [GR b]]=H at g1 g2 hx ⊢
 generalize (h++[ABlk.live 2 [encX m last v]]).length=bb at g2 ⊢
 have l2:D5 Tryz.prog H 53 (.ptr bb 0 2)=some (.sl b.ranges.m 2 (b.ranges.l.map encR)):=by rw[DU RF g2 (row:=GR b) rfl]; rfl
 have l1:D5 Tryz.prog H 3 (.ptr h.length 0 1)=some (.int .i64 v):=by rw[DU ag3 g1 (row:=encX m last v) rfl]; rfl
 simp -implicitDefEqProofs only[vQ,BD,↓reduceIte,jB,enP,AQS,l2,l1]
 refine(inside_prog G b.ranges.l b.ranges.m v H (AR0 hb)).use ?_
 simp -implicitDefEqProofs only[vQ,BD,↓reduceIte]
 exact⟨trivial,hx⟩
theorem AH8 (kind:Int)(h:Hp):PCall (En G) 191 [.int .i64 kind] h (.fn (.func (if(kind == 0)=true then 222 else 223)) [] []):=by
 refine acN Tryz.func191 rfl ?_
 show awp _ _ _ _ _ (EJ _ [.tmp 2] _)
 simp -implicitDefEqProofs only[vQ,BD,AMY,↓reduceIte,jB,enP]
 cases hk:(kind == 0)
 ·simp -implicitDefEqProofs only[vQ,BD,↓reduceIte,jW]
  exact⟨by simp,trivial⟩
 ·simp -implicitDefEqProofs only[vQ,BD,↓reduceIte]
  exact⟨by simp,trivial⟩
theorem Z4 (hG:GOk G)(p:Pt)(hp:PtOk p)(last:List Int)(m:SM)(v kind:Int)(h:Hp)(hl:last.length≤8388608) :
  PCall (En G) 158 [.agg (GG p),.agg (encX m last v),.int .i64 kind] h (.sl (nm (AG1 p last v kind)) 1 ((AG1 p last v kind).map KH)):=by
 refine N7 A22 ?_
 have hnum:=hp.num
 refine acN Tryz.func158 rfl ?_
 show awp _ _ _ _ _ (EJ _ [.tmp 6] _)
 have gp:=CP (x:=ABlk.live 2 [encX m last v]) (CZ h (ABlk.live 6 [GG p]))
 have gx:=CZ (h++[ABlk.live 6 [GG p]]) (ABlk.live 2 [encX m last v])
 have hx:ext h (h++[ABlk.live 6 [GG p]]++[ABlk.live 2 [encX m last v]]):=((ext.rfl' h).app _).app _
 have hbl:h.length≤(h++[ABlk.live 6 [GG p]]).length:=by simp
 simp -implicitDefEqProofs only[vQ,BD,↓reduceIte,jB,enP,I4,bxP,AWU]
 generalize h++[ABlk.live 6 [GG p]]++[ABlk.live 2 [encX m last v]]=H1 at gp gx hx ⊢
 generalize (h++[ABlk.live 6 [GG p]]).length=xb at gx hbl ⊢
 have l5:D5 Tryz.prog H1 49 (.ptr h.length 0 5)=some (.sl p.bm 4 (p.bins.map GR)):=by rw[DU U2 gp (row:=GG p) rfl,O6]
 simp -implicitDefEqProofs only[vQ,BD,↓reduceIte,enP,QD,l5,jH]
 refine DK (fun n F H => ∃ k u,n+k=p.bins.length∧F 2 = .int .i64 kind∧F 4 = .ptr xb 0 0∧F 7=u∧F 11 = .sl p.bm 4 (p.bins.map GR)∧F 12 = .int .i64 (p.bins.length:Nat)∧F 13 = .int .i64 (k:Nat)∧ext H1 H∧outG 1 KH H1 (NM p.bins last v kind k) u H) p.bins.length
  ⟨0,.sl .nil 0 [],by simp,by simp -implicitDefEqProofs only[vQ,↓reduceIte,jB],by simp -implicitDefEqProofs only[AA,↓reduceIte,jB],by simp -implicitDefEqProofs only[AA,↓reduceIte,jB],by simp -implicitDefEqProofs only[AA,↓reduceIte,jB],by simp -implicitDefEqProofs only[AA,↓reduceIte,jB],by simp -implicitDefEqProofs only[AA,↓reduceIte]; rfl,ext.rfl' _,outG.nil _ _ _ _⟩ ?_
 rintro n F H ⟨k,u,hk,f2,f4,f7,f11,f12,f13,hxH,ho⟩
 simp -implicitDefEqProofs only[vQ,BD,↓reduceIte,enP,f12,f13]
 refine CU (fun hc => ?_) (fun hc => ?_)
 ·have hk':k < p.bins.length:=by simpa using hc
  have hbok:=hp.bins _ (jS hk')
  have gxH:=FK (hxH.app [ABlk.live 4 [GR p.bins[k]]]) gx
  have gb:=CZ H (ABlk.live 4 [GR p.bins[k]])
  have hx1:=hxH.app [ABlk.live 4 [GR p.bins[k]]]
  have ho1:=ho.app [ABlk.live 4 [GR p.bins[k]]]
  have hlen:=Z5 p.bins last v kind k
  have hs:=ADI p.bins last v kind k hk'
  simp -implicitDefEqProofs only[vQ,BD,↓reduceIte,jB,enP,TG,jT,f11,f13,DL hk',FM ABV XF LP hk',ATR,AUG _ _ [.str ⟨#[]⟩,.int .i64 0,.sl .nil 0 [],.sl .nil 0 []] rfl]
  generalize H++[ABlk.live 4 [GR p.bins[k]]]=H2 at gxH gb hx1 ho1 ⊢
  have lk:D5 Tryz.prog H2 3 (.ptr H.length 0 1)=some (.int .i64 p.bins[k].kind):=by rw[DU ag3 gb (row:=GR p.bins[k]) rfl,QZ]
  refine ET (by kernel_rfl) ?_
  simp -implicitDefEqProofs only[vQ,CO,↓reduceIte,jB,jP,enP,NV,lk,f2]
  cases hq:(p.bins[k].kind == kind)
  ·have hK0:hK last v kind p.bins[k]=false:=by unfold hK; rw[hq]; rfl
   rw[hK0] at hs
   simp -implicitDefEqProofs only[vQ,AE4,CO,BD,EY,↓reduceIte,jB,jP,enP,hq,f13,wrap_succ (show k < 9223372036854775807 by omega)]
   exact⟨n - 1,by omega,k+1,u,by omega,by trivial,by trivial,by trivial,by trivial,by trivial,by trivial,hx1,by rw[hs]; simpa using ho1⟩
  ·have hKv:hK last v kind p.bins[k]=if(kind == 0)=true then hit p.bins[k] last v else inside p.bins[k].ranges.l v:=by unfold hK; rw[hq]; rfl
   have hcall:PCall (En G) (if(kind == 0)=true then 222 else 223) [.agg (encX m last v),.agg (GR p.bins[k])] H2 (.bool (hK last v kind p.bins[k])):=by
    rw[hKv]
    split
    ·exact AIU G hG _ hbok last m v H2 hl
    ·exact AED G _ hbok last m v H2
   generalize hf:(if(kind == 0)=true then 222 else 223:Nat)=fid at hcall
   have hm:=AH8 G kind H2
   rw[hf] at hm
   simp -implicitDefEqProofs only[vQ,QA,CO,↓reduceIte,jB,jP,enP,hq,f2]
   refine⟨_,hm,?_⟩
   simp -implicitDefEqProofs only[vQ,QA,CO,↓reduceIte,jB,jP,enP,f4,AQP gxH,AVG gb]
   refine⟨_,hcall,?_⟩
   cases hv:hK last v kind p.bins[k]
   ·rw[hv] at hs
    simp -implicitDefEqProofs only[vQ,BD,↓reduceIte,jB,enP,f13,wrap_succ (show k < 9223372036854775807 by omega)]
    exact⟨n - 1,by omega,k+1,u,by omega,by trivial,by trivial,by trivial,by trivial,by trivial,by trivial,hx1,by rw[hs]; simpa using ho1⟩
   ·rw[hv,if_pos rfl] at hs
    obtain⟨u',H3,ha,ho2,_,hx2,_,_⟩:=ho1.append (P:=Tryz.prog) XE sz3 ABL AAN (by omega) (by omega) hx1 k
    have ha':FZ Tryz.prog true H2 26 26 u (.sl .full 1 [[.int .i64 ((k:Nat):Int)]])=some (u',H3):=ha
    simp -implicitDefEqProofs only[vQ,BD,↓reduceIte,jB,enP,f7,f13,AO4,ha',wrap_succ (show k < 9223372036854775807 by omega)]
    exact⟨n - 1,by omega,k+1,u',by omega,by trivial,by trivial,by trivial,by trivial,by trivial,by trivial,hx2,by rw[hs]; exact ho2⟩
 ·have hk':k=p.bins.length:=by
   have : ¬ k < p.bins.length:=by simpa using hc
   omega
  subst hk'
  simp -implicitDefEqProofs only[vQ,BD,↓reduceIte,jB,f7]
  refine⟨hx.trans hxH,?_⟩
  rcases ho with⟨e,hu⟩ | ⟨e,o,h1,h2,h3⟩
  ·exact .inl ⟨e,hu⟩
  ·exact .inr ⟨e,o,qL hx.le h1,h2,h3⟩
def inK (bins:List Bin)(kind v:Int):Bool:=bins.any fun b=>(b.kind == kind) && inside b.ranges.l v
theorem ALK (p:Pt)(last:List Int)(v kind:Int)(hk:kind≠0):decide (0 < (AG1 p last v kind).length)=inK p.bins kind v:=by
 unfold AG1
 rw[AG0,List.take_length]
 unfold inK
 congr 1
 funext b
 unfold hK
 have:(kind == 0)=false:=by simpa using hk
 rw[this]; rfl
end
structure PtR where
 hit:List Nat
 next:List Int
 bad:Bool
 err:Int
def nextL (last:List Int)(v:Nat):List Int:=(last++[(v:Int)]).drop (last.length+1 - 7)
def ptE (p:Pt)(last:List Int)(l:List Sg):PtR :=
 if GN p≠0∨lastB last=false then ⟨[],[],false,1⟩
 else if(evE l p.ex).2≠0 then ⟨[],[],false,(evE l p.ex).2⟩
 else if inK p.bins 2 (evE l p.ex).1=true then ⟨[],nextL last (evE l p.ex).1,true,0⟩
 else if inK p.bins 1 (evE l p.ex).1=true then ⟨[],nextL last (evE l p.ex).1,false,0⟩
 else ⟨AG1 p last (evE l p.ex).1 0,nextL last (evE l p.ex).1,false,0⟩
def ptV (r:PtR):AV := .tup [.sl (nm r.hit) 1 (r.hit.map KH),.sl (nm r.next) 1 (r.next.map qencI),.bool r.bad,.int .i64 r.err]
def ptW (r:PtR):AV := .tup [fzG 1 KH r.hit,fzG 1 qencI r.next,.bool r.bad,.int .i64 r.err]
theorem A2Q (r:PtR):CvR (ptW r) (ptV r):=CvR.tup (CvRL.cons ADL (CvRL.cons ADL (CvRL.refl _)))
theorem AVC (last:List Int)(v:Nat):nextL last v≠[]:=by
 intro h
 have:=congrArg qF h
 unfold nextL at this
 simp at this; omega
theorem AV0 {α:Type}{k:Nat}{f:α→List AV}{ys:List α}(h:ys≠[]):fzG k f ys = .sl .any k (ys.map f):=by
 cases ys with
 | nil=>exact absurd rfl h
 | cons y ys=>rfl
theorem A2L {h:Hp}{o n u:Nat}{xs:List (List AV)}(hb:h[o]? = some (.live 1 xs))(hu:u≤n):JY Tryz.prog h 26 (.own o 0 n) (some (.int .i64 (u:Nat))) none none=some (.own o u (n - u)):=by
 simp [JY,Tryz.underlying26,IB,hb,sz3,hu]
theorem A2V (o off len:Nat):J7 Tryz.prog 26 .eql (.own o off len) (.sl .nil 0 [])=some (.bool false):=by kernel_rfl
theorem ATG (G:Nat→AV){h:Hp}{o off len:Nat}{xs:List Int}(ho:h[o]? = some (.live 1 (xs.map qencI)))(hl:off+len=xs.length)(h0:0 < len)(hm:xs.length≤1048576) :
  ACalls (En G) 157 [.own o off len] h fun v H=>v = .own h.length 0 len∧H=h++[ABlk.live 1 ((xs.drop off).map qencI)]:=by
 refine acN Tryz.func157 rfl ?_
 show awp _ _ _ _ _ (EJ _ [.tmp 2] _)
 have hc:JR h (.own o off len)=some (1,(xs.drop off).map qencI):=by
  rw[KU ho (by simp; omega),← List.map_drop,jU (by simp; omega)]
 have hne:(xs.drop off).map qencI≠[]:=by
  intro e
  have:=congrArg qF e
  simp at this; omega
 simp -implicitDefEqProofs only[vQ,BD,↓reduceIte,jB,enP,A2V,AWY]
 refine MI (Q7 XE sz3 ABL AAN hc hne (IR (by simp; omega) (by omega))) ?_
 simp -implicitDefEqProofs only[vQ,BD,List.nil_append,↓reduceIte]
 exact⟨by simp; omega,by simp⟩
theorem ATH {h h':Hp}{last:List Int}{u:AV}(v:Int)(hc:AOZ 1 (last.map qencI) h u h')(hl:last.length≤1048576) :
  ∃ o H,FZ Tryz.prog true h' 26 26 u (.sl .full 1 [[.int .i64 v]])=some (.own o 0 (last.length+1),H)∧H[o]? = some (.live 1 ((last++[v]).map qencI))∧h.length≤o∧ext h H:=by
 have h1:([[AV.int .i64 v]]:List (List AV))≠[]:=by simp
 rcases hc with⟨he,⟨k0,rfl⟩,rfl⟩ | ⟨he,rfl,rfl⟩ | ⟨hne,rfl,rfl⟩
 ·have:last = []:=by simpa using he
  subst this
  exact⟨h'.length,_,PP XE sz3 ABL AAN (HY _ .full 1 [[.int .i64 v]]) h1 (IR (by simp) (by omega)),CZ _ _,jL _,(ext.rfl' _).app _⟩
 ·have:last = []:=by simpa using he
  subst this
  exact⟨h'.length,_,Q7 XE sz3 ABL AAN (HY _ .full 1 [[.int .i64 v]]) h1 (IR (by simp) (by omega)),CZ _ _,jL _,(ext.rfl' _).app _⟩
 ·have hcc:JR (h++[ABlk.live 1 (last.map qencI)]) (.own h.length 0 (last.map qencI).length)=some (1,last.map qencI):=AHB
  refine⟨(h++[ABlk.live 1 (last.map qencI)]).length,(h++[ABlk.live 1 (last.map qencI)]).set h.length .dead++[ABlk.live 1 (last.map qencI++[[.int .i64 v]])],?_,?_,?_,?_⟩
  ·have:=PO XE sz3 ABL AAN hcc (HY _ .full 1 [[.int .i64 v]]) h1 (IR (by simp; omega) (by omega))
   rw[this]
   simp
  ·have e:(h++[ABlk.live 1 (last.map qencI)]).length=((h++[ABlk.live 1 (last.map qencI)]).set h.length .dead).length:=by simp
   rw[e,CZ]
   simp [qencI]
  ·simp
  ·exact(((ext.rfl' h).app _).set (jL _) _).app _
section
variable (G:Nat→AV)
theorem A6A (h:Hp):KG Tryz.prog h 184=some (.ptr h.length 0 0,h++[.live 2 [[.sl .nil 0 [],.int .i64 0]]]):=J4 (row := [.sl .nil 0 [],.int .i64 0]) (by kernel_rfl)
theorem A51 (s:SM)(k:Nat)(xs:List (List AV))(v:Int):KZ Tryz.prog 184 [(0,.sl s k xs),(1,.int .i64 v)]=some (.agg [.sl s k xs,.int .i64 v]):=by kernel_rfl
theorem A4C (h:Hp)(s:SM)(xs:List Int)(v:Int):FP Tryz.prog (h++[.live 2 [[.sl .nil 0 [],.int .i64 0]]]) 184 (.ptr h.length 0 0) (.agg [.sl s 1 (xs.map qencI),.int .i64 v])=some (h++[.live 2 [encX s xs v]]):=by
 rw[NH (cs := [.sl s 1 (xs.map qencI),.int .i64 v]) (row := [.sl .nil 0 [],.int .i64 0]) rfl A1G (CZ _ _) (by exact jL 2),ABY]
 rfl
theorem ldP {h:Hp}{b:Nat}{p:Pt}(hb:h[b]? = some (.live 6 [GG p])):D5 Tryz.prog h 51 (.ptr b 0 0)=some (.agg (GG p)):=by
 rw[GV AAS XG hb rfl (by rw[IY]; exact jL 6),zK,jU (by rw[IY]; exact jL 6)]
set_option maxHeartbeats 1000000 in
theorem AE1 (hG:GOk G)(p:Pt)(hp:PtOk p)(last:List Int)(lm:SM)(l:List Sg)(m:SM)(h:Hp)(hll:last.length≤1048576)(hl:l.length≤1099511627776) :
  PCall (En G) 112 [.agg (GG p),.sl lm 1 (last.map qencI),.sl m 2 (l.map JC)] h (ptV (ptE p last l)):=by
 refine PCall.res (r:=ptW (ptE p last l)) ?_ (A2Q _)
 have hE : ∀ (e:Int) (n:Nat) (H:Hp),IL n H 4 (.tup [.sl .nil 0 [],.sl .nil 0 [],.bool false,.int .i64 e])=ptW ⟨[],[],false,e⟩:=fun _ _ _=>rfl
 refine ACalls.pure (R:=fun v H=>ext h H∧IL h.length H 4 v=ptW (ptE p last l)) 4 ?_ (fun v H ⟨a,b⟩=>⟨a,b⟩)
 refine acN Tryz.func112 rfl ?_
 show awp _ _ _ _ _ (EJ _ [.tmp 6,.tmp 7,.tmp 8,.tmp 9] _)
 have gp:=CZ h (ABlk.live 6 [GG p])
 have hx:ext h (h++[ABlk.live 6 [GG p]]):=(ext.rfl' h).app _
 simp -implicitDefEqProofs only[vQ,BD,↓reduceIte,jB,enP,bxP]
 generalize h++[ABlk.live 6 [GG p]]=H1 at gp hx ⊢
 simp -implicitDefEqProofs only[vQ,BD,↓reduceIte,ldP gp]
 refine(ACX G hG p hp H1).use ?_
 simp -implicitDefEqProofs only[vQ,CO,BD,↓reduceIte,enP]
 cases h1:(GN p == 0)
 ·have hne:GN p≠0:=by simpa using h1
  simp -implicitDefEqProofs only[vQ,X0,CO,BD,EY,↓reduceIte,jB,bne,h1]
  exact⟨hx,by unfold ptE; rw[if_pos (.inl hne)]; rfl⟩
 have hp0:GN p=0:=by simpa using h1
 simp -implicitDefEqProofs only[vQ,CO,BD,↓reduceIte,jB,jV,bne,h1]
 refine(AH9 G last lm H1 (by omega)).use ?_
 simp -implicitDefEqProofs only[vQ,CO,BD,↓reduceIte,jB]
 cases h2:lastB last
 ·simp -implicitDefEqProofs only[vQ,X0,BD,↓reduceIte,jB]
  exact⟨hx,by unfold ptE; rw[if_pos (.inr h2)]; rfl⟩
 have hneg : ¬ (GN p≠0∨lastB last=false):=by rw[hp0,h2]; simp
 have h7:last.length≤7:=by
  unfold lastB at h2
  rw[Bool.and_eq_true] at h2
  simpa using h2.1
 simp -implicitDefEqProofs only[vQ,BD,↓reduceIte,jB,jV,enP,UJ,AOB gp]
 refine(ATV G hG l m p.ex H1 hl hp.ex).use ?_
 unfold ptE
 rw[if_neg hneg]
 generalize evE l p.ex=ev
 obtain⟨v,e⟩:=ev
 unfold evV
 simp -implicitDefEqProofs only[vQ,zM,zO,BD,↓reduceIte,jB,enP]
 cases h3:(e == 0)
 ·have hne:e≠0:=by simpa using h3
  simp -implicitDefEqProofs only[vQ,X0,BD,↓reduceIte,jB,bne,h3]
  exact⟨hx,by rw[if_pos hne]; rfl⟩
 have he0:e=0:=by simpa using h3
 rw[if_neg (by simpa using he0)]
 simp -implicitDefEqProofs only[vQ,BD,↓reduceIte,jB,jV,enP,jT,bne,h3,A51,A6A,A4C]
 have gp2:=CP (x:=ABlk.live 2 [encX lm last (v:Nat)]) gp
 have gx2:=CZ H1 (ABlk.live 2 [encX lm last (v:Nat)])
 have hx2:=hx.app [ABlk.live 2 [encX lm last (v:Nat)]]
 generalize H1++[ABlk.live 2 [encX lm last (v:Nat)]]=H2 at gp2 gx2 hx2 ⊢
 refine(AQ2 G last lm H2 (by omega)).mono ?_
 rintro u H2' hcl
 obtain⟨o,H3,ha,ho,hol,hx3⟩:=ATH (v:Nat) hcl hll
 have gp3:=FK hx3 gp2
 have gx3:=FK hx3 gx2
 have hx4:=hx2.trans hx3
 simp -implicitDefEqProofs only[vQ,wK,Option.map_none,BD,QB,AF2,ZY,↓reduceIte,jB,enP,JV,AO4,ha]
 have hsub:IntKind.i64.wrap (((last.length+1:Nat):Int) - 7)=((last.length+1:Nat):Int) - 7:=wrap_i64 (by omega) (by omega)
 have hmax:max (0:Int) (((last.length+1:Nat):Int) - 7)=((last.length+1 - 7:Nat):Int):=by omega
 have hsl:=A2L (n:=last.length+1) (u:=last.length+1 - 7) ho (by omega)
 simp -implicitDefEqProofs only[vQ,BD,↓reduceIte,hsub,hmax,hsl]
 refine(ATG G (off:=last.length+1 - 7) (len:=last.length+1 - (last.length+1 - 7)) ho (by simp <;> omega) (by omega) (by simp <;> omega)).mono ?_
 rintro u' H4 ⟨rfl,rfl⟩
 have hnl:(last++[((v:Nat):Int)]).drop (last.length+1 - 7)=nextL last v:=rfl
 have hlen:last.length+1 - (last.length+1 - 7)=(nextL last v).length:=by unfold nextL; rw[List.length_drop,qB]; rfl
 rw[hnl,hlen]
 have gp5:=CP (x:=ABlk.live 1 ((nextL last v).map qencI)) gp3
 have gx5:=CP (x:=ABlk.live 1 ((nextL last v).map qencI)) gx3
 have go5:=CZ H3 (ABlk.live 1 ((nextL last v).map qencI))
 have hx5:=hx4.app [ABlk.live 1 ((nextL last v).map qencI)]
 have hle:=hx4.le
 generalize H3++[ABlk.live 1 ((nextL last v).map qencI)]=H5 at gp5 gx5 go5 hx5 ⊢
 generalize H3.length=ob at go5 hle ⊢
 have hne:=AVC last v
 have hfz:IL h.length H5 3 (.own ob 0 (nextL last v).length)=fzG 1 qencI (nextL last v):=by
  rw[AV0 hne]; exact frz_own (d:=1) A47 hle go5
 have h2K:=ALK p last (v:Nat) 2 (by decide)
 have h1K:=ALK p last (v:Nat) 1 (by decide)
 have hgt : ∀ n:Nat,decide (((n:Nat):Int) > 0)=decide (0 < n):=fun n=>by
  rw[qU]; simp only[decide_eq_true_eq]; omega
 simp -implicitDefEqProofs only[vQ,BD,↓reduceIte,jB,enP,ldP gp5,AQP gx5]
 refine(Z4 G hG p hp last lm (v:Nat) 2 H5 (by omega)).use ?_
 simp -implicitDefEqProofs only[vQ,CO,BD,↓reduceIte,enP,JV,jH,hgt,h2K]
 have hfin : ∀ (hits:List Nat) (bad:Bool) (s:SM),(hits = []→s = .nil)→(hits≠[]→s = .any)→IL h.length H5 4 (.tup [.sl s (if hits = [] then 0 else 1) (hits.map KH),.own ob 0 (nextL last v).length,.bool bad,.int .i64 0])=ptW ⟨hits,nextL last v,bad,0⟩:=by
  intro hits bad s e1 e2
  have:IL h.length H5 4 (.tup [.sl s (if hits = [] then 0 else 1) (hits.map KH),.own ob 0 (nextL last v).length,.bool bad,.int .i64 0]) = .tup [.sl s (if hits = [] then 0 else 1) (hits.map KH),IL h.length H5 3 (.own ob 0 (nextL last v).length),.bool bad,.int .i64 0]:=rfl
  rw[this,hfz]
  unfold ptW
  cases hits with
  | nil=>rw[e1 rfl]; rfl
  | cons x xs=>rw[e2 (by simp)]; rfl
 cases h2i:inK p.bins 2 (v:Nat)
 ·simp -implicitDefEqProofs only[vQ,CO,BD,↓reduceIte,jB,enP,jW,ldP gp5,AQP gx5]
  refine(Z4 G hG p hp last lm (v:Nat) 1 H5 (by omega)).use ?_
  simp -implicitDefEqProofs only[vQ,CO,BD,↓reduceIte,jB,enP,JV,jH,hgt,h1K]
  cases h1i:inK p.bins 1 (v:Nat)
  ·simp -implicitDefEqProofs only[vQ,BD,↓reduceIte,jB,enP,jW,ldP gp5,AQP gx5]
   have hlast:=Z4 G hG p hp last lm (v:Nat) 0 H5 (by omega)
   generalize AG1 p last (v:Nat) 0=hs at hlast ⊢
   cases hs with
   | nil =>
     refine(PCall.res hlast (r' := .sl .nil 0 []) (CvR.sl (Cv.nil 1 0))).use ?_
     simp -implicitDefEqProofs only[vQ,X0,BD,↓reduceIte,jB]
     exact⟨hx5,hfin [] false .nil (fun _=>rfl) (fun q=>absurd rfl q)⟩
   | cons x xs =>
     refine hlast.use ?_
     simp -implicitDefEqProofs only[vQ,X0,BD,↓reduceIte,jB]
     exact⟨hx5,hfin (x :: xs) false .any (fun q=>by cases q) (fun _=>rfl)⟩
  ·simp -implicitDefEqProofs only[vQ,X0,BD,↓reduceIte,jB]
   exact⟨hx5,hfin [] false .nil (fun _=>rfl) (fun q=>absurd rfl q)⟩
 ·simp -implicitDefEqProofs only[vQ,X0,CO,BD,EY,↓reduceIte,jB]
  exact⟨hx5,hfin [] true .nil (fun _=>rfl) (fun q=>absurd rfl q)⟩
end
def rz (n:Int):Int:=min (n+1) 1099511627776
theorem UD (G:Nat→AV){H:Hp}{b i j k:Nat}{xs:List (List AV)}{row:List AV}{n:Int}(hb:H[b]? = some (.live k xs))(hr:xs[i]? = some row)(hj:row[j]? = some (.int .i64 n))(h0 : -9223372036854775808≤n)(h1:n < 9223372036854775807) :
  ACalls (En G) 113 [.ptr b i j] H fun _ H'=>H'=H.set b (.live k (xs.set i (splice row j [.int .i64 (rz n)]))):=by
 refine acN Tryz.func113 rfl ?_
 show awp _ _ _ _ _ (EJ _ [] _)
 have hld:D5 Tryz.prog H 3 (.ptr b i j)=some (.int .i64 n):=by rw[DU ag3 hb hr,hj]
 have hst:FP Tryz.prog H 3 (.ptr b i j) (.int .i64 (rz n))=some (H.set b (.live k (xs.set i (splice row j [.int .i64 (rz n)])))):=I5 (V3 _ _) sz3 hb hr (by have:=CB hj; simp; omega)
 have hw:IntKind.i64.wrap (n+1)=n+1:=wrap_i64 (by omega) (by omega)
 have hm:min (n+1) 1099511627776=rz n:=rfl
 simp -implicitDefEqProofs only[vQ,AD4,BD,AF1,ZX,↓reduceIte,jB,enP,jT,hld,hw,hm,hst]
def XQ (p:Nat × List Int):List AV := [.own p.1 0 p.2.length]
structure NL (n0:Nat) (H:Hp) (o:Nat) (bs:List Nat) (xss:List (List Int)):Prop where
 len:bs.length=xss.length
 top:xss≠[]→H[o]? = some (.live 1 ((bs.zip xss).map XQ))
 row : ∀ (i:Nat) (hb:i < bs.length) (hx:i < xss.length),H[bs[i]]? = some (.live 1 (xss[i].map qencI))
 nodup:bs.Nodup
 out:xss≠[]→o ∉ bs
 lo : ∀ b∈bs,n0≤b
 lo':xss≠[]→n0≤o
def nlV (o:Nat):List (List Int)→AV
 | [] => .sl .nil 0 []
 | _ :: xss => .own o 0 (xss.length+1)
theorem UG (o:Nat){xss:List (List Int)}(h:xss≠[]):nlV o xss = .own o 0 xss.length:=by
 cases xss with
 | nil=>exact absurd rfl h
 | cons x xs=>rfl
theorem OJ (o:Nat)(xss:List (List Int)):(nlV o xss).leaf=true:=by cases xss <;> rfl
theorem NL.nil (n0:Nat)(H:Hp)(o:Nat):NL n0 H o [] []:=⟨rfl,fun h=>absurd rfl h,fun i hb=>by simp at hb,List.nodup_nil,fun h=>absurd rfl h,fun b hb=>(by cases hb),fun h=>absurd rfl h⟩
section
variable {n0:Nat} {H:Hp} {o:Nat} {bs:List Nat} {xss:List (List Int)} (N:NL n0 H o bs xss)
include N
theorem NL.keep {H':Hp}(hk : ∀ b x,((xss≠[]∧b=o)∨b∈bs)→H[b]? = some x→H'[b]? = some x):NL n0 H' o bs xss :=
 ⟨N.len,fun h=>hk _ _ (.inl ⟨h,rfl⟩) (N.top h),fun i hb hx=>hk _ _ (.inr (jS hb)) (N.row i hb hx),N.nodup,N.out,N.lo,N.lo'⟩
theorem NL.app (x:Hp):NL n0 (H++x) o bs xss:=N.keep fun _ _ _ hb=>F8 hb
theorem NL.mem_lt {b:Nat}(hb:b∈bs):b < H.length:=by
 obtain⟨i,hi,rfl⟩:=qJ hb
 exact CB (N.row i hi (by rw[← N.len]; exact hi))
theorem NL.top_lt (h:xss≠[]):o < H.length:=CB (N.top h)
theorem NL.set {i:Nat}(hi:i < bs.length)(ys:List Int)(hl : ∀ hx:i < xss.length,ys.length=xss[i].length):NL n0 (H.set bs[i] (.live 1 (ys.map qencI))) o bs (xss.set i ys):=by
 have hlen:=N.len
 have hix:i < xss.length:=by omega
 have hne:xss≠[]:=by intro e; subst e; simp at hix
 have hob:o≠bs[i]:=fun e=>N.out hne (by rw[e]; exact jS hi)
 refine⟨by rw[List.length_set]; exact hlen,fun _ => ?_,fun j hb hx => ?_,N.nodup,fun _=>N.out hne,N.lo,fun _=>N.lo' hne⟩
 ·have e:(bs.zip (xss.set i ys)).map XQ=(bs.zip xss).map XQ:=by
   refine List.ext_getElem (by simp) fun j h1 h2 => ?_
   simp only[List.getElem_map,List.getElem_zip,XQ,List.getElem_set]
   split
   ·rename_i e; subst e; rw[hl hix]
   ·rfl
  rw[e,zQ (Ne.symm hob)]; exact N.top hne
 ·rcases Nat.decEq i j with h | h
  ·have hbb:bs[j]≠bs[i]:=fun e=>h (by
    have:=(List.getElem_inj N.nodup).1 e
    exact this.symm)
   rw[zQ (Ne.symm hbb)]
   have:=N.row j hb (by rw[List.length_set] at hx; exact hx)
   rw[this]
   congr 3
   rw[List.getElem_set_ne h]
  ·subst h
   rw[List.getElem?_set_self (N.mem_lt (jS hi))]
   congr 3
   rw[List.getElem_set_self]
theorem NL.rowAt {i:Nat}(hi:i < xss.length):H[o]? = some (.live 1 ((bs.zip xss).map XQ))∧((bs.zip xss).map XQ)[i]? = some [.own (bs[i]'(by rw[N.len]; exact hi)) 0 xss[i].length]:=by
 have hne:xss≠[]:=by intro e; subst e; simp at hi
 refine⟨N.top hne,?_⟩
 have hlen:=N.len
 rw[jY,jO (by rw[List.length_zip]; omega),List.getElem_zip]; rfl
theorem NL.ld {i:Nat}(hi:i < xss.length):D5 Tryz.prog H 26 (.ptr o i 0)=some (.own (bs[i]'(by rw[N.len]; exact hi)) 0 xss[i].length):=by
 obtain⟨h1,h2⟩:=N.rowAt hi
 rw[DU MG h1 h2]; rfl
theorem NL.ix {i:Nat}(hi:i < xss.length):JZ 1 H (nlV o xss) (.int .i64 (i:Nat))=some (.ptr o i 0):=by
 have hne:xss≠[]:=by intro e; subst e; simp at hi
 rw[UG o hne,II (N.top hne) hi,jG]
theorem NL.snoc {b t:Nat}{xs:List Int}(hb:H[b]? = some (.live 1 (xs.map qencI)))(hlo:n0≤b)(hlo':n0≤H.length)(hbn:b ∉ bs)(hbo:xss≠[]→b≠o)(ht:H[t]? = some (.live 1 [[.own b 0 xs.length]]))(hm:xss.length≤1048576) :
  ∃ H',FZ Tryz.prog true H 67 67 (nlV o xss) (.own t 0 1)=some (nlV H.length (xss++[xs]),H')∧NL n0 H' H.length (bs++[b]) (xss++[xs])∧(∀ q x,H[q]? = some x→¬ isB (nlV o xss) q→H'[q]? = some x)∧H'.length=H.length+1∧∀ e:Hp,e.length≤n0→ext e H→ext e H':=by
 have hc:JR H (.own t 0 1)=some (1,[[.own b 0 xs.length]]):=by rw[KU ht (by simp)]; rfl
 have hlen:=N.len
 have hzip:((bs++[b]).zip (xss++[xs])).map XQ=(bs.zip xss).map XQ++[[.own b 0 xs.length]]:=by
  rw[List.zip_append hlen,List.map_append]; rfl
 have hnd:(bs++[b]).Nodup:=List.nodup_append.2 ⟨N.nodup,by simp,fun a ha c hc e=>by simp at hc; subst hc; subst e; exact hbn ha⟩
 have hlos : ∀ q∈bs++[b],n0≤q:=fun q hq=>by
  rcases qC.1 hq with h | h
  ·exact N.lo q h
  ·simp at h; omega
 have hlts : ∀ q∈bs++[b],q < H.length:=fun q hq=>by
  rcases qC.1 hq with h | h
  ·exact N.mem_lt h
  ·simp at h; subst h; exact CB hb
 have hrows : ∀ (H':Hp),(∀ q x,H[q]? = some x→¬ isB (nlV o xss) q→H'[q]? = some x)→∀ (i:Nat) (h1:i < (bs++[b]).length) (h2:i < (xss++[xs]).length),H'[(bs++[b])[i]]? = some (.live 1 ((xss++[xs])[i].map qencI)):=by
  intro H' hk i h1 h2
  have hnb : ∀ q,q∈bs++[b]→¬ isB (nlV o xss) q:=fun q hq hi=>by
   cases xss with
   | nil=>exact hi
   | cons y ys =>
     have e:o=q:=hi
     subst e
     rcases qC.1 hq with h | h
     ·exact N.out (by simp) h
     ·simp at h; exact hbo (by simp) h.symm
  refine hk _ _ ?_ (hnb _ (jS h1))
  rcases zG i bs.length with h | h
  ·rw[List.getElem_append_left h,List.getElem_append_left (by omega)]
   exact N.row i h (by omega)
  ·have:i=bs.length:=by simp at h1; omega
   subst this
   rw[List.getElem_concat_length rfl,List.getElem_concat_length (by omega)]
   exact hb
 cases hx:xss with
 | nil =>
   subst hx
   have hbs:bs = []:=List.eq_nil_of_length_eq_zero (by simpa using hlen)
   subst hbs
   refine⟨H++[.live 1 [[.own b 0 xs.length]]],?_,⟨by simp,fun _=>CZ _ _,hrows _ fun q x hq _=>F8 hq,hnd,fun _ hq=>by have:=hlts _ hq; omega,hlos,fun _=>hlo'⟩,fun q x hq _=>F8 hq,by simp,fun e _ he=>he.app _⟩
   exact PP (k':=0) AX8 AJT A15 A0N hc (by simp) (IR (by simp) (by omega))
 | cons y ys =>
   have hne:xss≠[]:=by rw[hx]; simp
   have htop:=N.top hne
   have hco:JR H (.own o 0 xss.length)=some (1,(bs.zip xss).map XQ):=by
    rw[KU htop (by simp; omega),zK,jU (by simp; omega)]
   have hap:=PO AX8 AJT A15 A0N hco hc (by simp) (IR (by simp; omega) (by omega))
   have hk : ∀ q x,H[q]? = some x→¬ isB (nlV o xss) q→(H.set o .dead++[ABlk.live 1 ((bs.zip xss).map XQ++[[.own b 0 xs.length]])])[q]? = some x:=fun q x hq hn=>by
    rw[UG o hne] at hn
    have hn' : ¬ o=q:=hn
    refine F8 ?_
    rw[zB,if_neg hn']; exact hq
   rw[← hx]
   refine⟨H.set o .dead++[.live 1 ((bs.zip xss).map XQ++[[.own b 0 xs.length]])],?_,⟨by simp [hlen],fun _ => ?_,hrows _ hk,hnd,fun _ hq=>by have:=hlts _ hq; omega,hlos,fun _=>hlo'⟩,hk,by simp,fun e he hex=>(hex.set (by have:=N.lo' hne; omega) _).app _⟩
   ·rw[UG o hne,UG H.length (by simp),hap]
    simp
    omega
   ·rw[hzip]
    have e:H.length=(H.set o .dead).length:=by simp
    rw[e]; exact CZ _ _
end
theorem AQ5 (h:Hp)(b l:Nat):EQ Tryz.prog true h 67 1 [(0,.own b 0 l)]=some (.own h.length 0 1,h++[ABlk.live 1 [[.own b 0 l]]]):=by kernel_rfl
theorem AIC {o q:Nat}{xss:List (List Int)}(h:isB (nlV o xss) q):xss≠[]∧q=o:=by
 cases xss with
 | nil=>exact h.elim
 | cons x xs=>exact⟨by simp,Eq.symm h⟩
theorem NL.frz {n0:Nat}{H:Hp}{o:Nat}{bs:List Nat}{xss:List (List Int)}(N:NL n0 H o bs xss)(n d:Nat)(hn:n≤n0):IL n H (d+3) (nlV o xss)=fzG 1 encL (xss.map fun xs=>⟨.any,xs⟩):=by
 cases hx:xss with
 | nil=>rfl
 | cons y ys =>
   have hne:xss≠[]:=by rw[hx]; simp
   rw[← hx,UG o hne,frzF_own n H (d+2) o 0 xss.length 1 _ (by have:=N.lo' hne; omega) (N.top hne)]
   have e:(((bs.zip xss).map XQ).drop 0).take xss.length=(bs.zip xss).map XQ:=by
    rw[zK,jU (by simp; omega)]
   have hlen:=N.len
   have e2:((bs.zip xss).map XQ).map (·.map (IL n H (d+2)))=(xss.map fun xs=>(⟨.any,xs⟩:Is)).map encL:=by
    refine List.ext_getElem (by simp; omega) fun j h1 h2 => ?_
    have hj1:j < bs.length:=by simp at h1; omega
    have hj2:j < xss.length:=by omega
    simp only[List.getElem_map,List.getElem_zip,XQ,jD,jE,encL]
    rw[frz_own (d:=d) A47 (qL hn (N.lo _ (jS hj1))) (N.row j hj1 hj2)]
   rw[e,e2,if_pos,AV0 (by simpa using hne)]
   refine⟨by simp; omega,?_⟩
   rw[zH]
   intro row hr
   obtain⟨x,_,rfl⟩:=zI.1 hr
   rfl
def allB:List Int→List Int→List (List Nat)→Bool
 | p :: ps,b :: l,hits=>Rk.hasB ((hits.getD p.toNat []).map fun n:Nat=>(n:Int)) b && allB ps l hits
 | _,_,_=>true
theorem ATQ (ps l:List Int)(hits:List (List Nat))(k:Nat)(h1:k < ps.length)(h2:k < l.length):allB (ps.drop k) (l.drop k) hits=(Rk.hasB ((hits.getD ps[k].toNat []).map fun n:Nat=>(n:Int)) l[k] && allB (ps.drop (k+1)) (l.drop (k+1)) hits):=by
 rw[zN h1,zN h2]; rfl
theorem AXI (ps l:List Int)(hits:List (List Nat))(k:Nat)(h2:l.length≤k):allB (ps.drop k) (l.drop k) hits=true:=by
 rw[jZ h2]
 cases ps.drop k <;> rfl
def QX (x:List Nat):List AV := [.sl (nm x) 1 (x.map KH)]
theorem A4S (xs:List Nat):xs.map KH=(xs.map fun n:Nat=>(n:Int)).map qencI:=by rw[List.map_map]; rfl
section
variable (G:Nat→AV)
theorem AXG (c:Cr)(l:List Int)(s:SM)(hits:List (List Nat))(hb:Nat)(h:Hp)(gh:h[hb]? = some (.live 1 (hits.map QX)))(hp : ∀ p∈c.pts,0≤p∧p < (hits.length:Int))(hl:l.length=c.pts.length)(h64 : ∀ x∈hits,x.length≤1048576)(hlen:l.length≤1048576) :
  PCall (En G) 116 [.agg (G5 c),.sl s 1 (l.map qencI),.own hb 0 hits.length] h (.bool (allB c.pts l hits)):=by
 refine ACalls.pure0 rfl ?_
 refine acN Tryz.func116 rfl ?_
 show awp _ _ _ _ _ (EJ _ [.tmp 6] _)
 have gc:=CZ h (ABlk.live 3 [G5 c])
 have gh1:=CP (x:=ABlk.live 3 [G5 c]) gh
 have hx:ext h (h++[ABlk.live 3 [G5 c]]):=(ext.rfl' h).app _
 simp -implicitDefEqProofs only[vQ,BD,↓reduceIte,jB,enP,JV,bxC]
 generalize h++[ABlk.live 3 [G5 c]]=H at gc gh1 hx ⊢
 have l1:D5 Tryz.prog H 26 (.ptr h.length 0 1)=some (.sl c.pm 1 (c.pts.map qencI)):=by rw[DU MG gc (row:=G5 c) rfl,PU]
 simp -implicitDefEqProofs only[jH]
 refine DK (fun n F H' => ∃ k,n+k=l.length∧F 2 = .own hb 0 hits.length∧F 3 = .ptr h.length 0 0∧F 9 = .sl s 1 (l.map qencI)∧F 10 = .int .i64 (l.length:Nat)∧F 11 = .int .i64 (k:Nat)∧H'=H∧allB c.pts l hits=allB (c.pts.drop k) (l.drop k) hits) l.length ⟨0,by simp,by simp -implicitDefEqProofs only[vQ,↓reduceIte,jB],by simp -implicitDefEqProofs only[AA,↓reduceIte,jB],by simp -implicitDefEqProofs only[AA,↓reduceIte,jB],by simp -implicitDefEqProofs only[AA,↓reduceIte,jB],by simp -implicitDefEqProofs only[AA,↓reduceIte]; rfl,rfl,rfl⟩ ?_
 rintro n F H' ⟨k,hk,f2,f3,f9,f10,f11,rfl,hin⟩
 simp -implicitDefEqProofs only[vQ,BD,↓reduceIte,enP,f10,f11]
 refine CU (fun hc => ?_) (fun hc => ?_)
 ·have hk':k < l.length:=by simpa using hc
  have hkp:k < c.pts.length:=by omega
  obtain⟨hp0,hp1⟩:=hp _ (jS hkp)
  have hpn:c.pts[k].toNat < hits.length:=by omega
  have ih:=AZJ (kk := .i64) (off:=0) gh1 hp0 hp1
  rw[jG] at ih
  have lh:D5 Tryz.prog H' 26 (.ptr hb c.pts[k].toNat 0)=some (.sl (nm hits[c.pts[k].toNat]) 1 ((hits[c.pts[k].toNat].map fun n:Nat=>(n:Int)).map qencI)):=by
   rw[DU MG gh1 (row:=QX hits[c.pts[k].toNat]) (row_map hpn),← A4S]; rfl
  rw[ATQ _ _ _ _ hkp hk'] at hin
  have hg:hits.getD c.pts[k].toNat []=hits[c.pts[k].toNat]:=by rw[zZ,jO hpn]; rfl
  rw[hg] at hin
  simp -implicitDefEqProofs only[vQ,BD,↓reduceIte,jB,enP,JJ,ABQ,JO,f2,f3,f9,f11,DL hk',C9 ag3 hk',AWB,l1,DL hkp,C9 ag3 hkp,ih,lh]
  refine(Rk.contains_rank G _ _ _ H' (by rw[jH]; exact h64 _ (jS hpn))).use ?_
  simp -implicitDefEqProofs only[vQ,BD,↓reduceIte]
  cases hq:Rk.hasB (hits[c.pts[k].toNat].map fun n:Nat=>(n:Int)) l[k]
  ·rw[hq,qW] at hin
   simp -implicitDefEqProofs only[vQ,BD,↓reduceIte]
   exact⟨by rw[hin],hx⟩
  ·rw[hq,qO] at hin
   simp -implicitDefEqProofs only[vQ,BD,↓reduceIte,jB,jV,enP,f11,wrap_succ (show k < 9223372036854775807 by omega)]
   exact⟨n - 1,by omega,k+1,by omega,by trivial,by trivial,by trivial,by trivial,by trivial,trivial,hin⟩
 ·have hk' : ¬ k < l.length:=by simpa using hc
  rw[AXI _ _ _ _ (by omega)] at hin
  simp -implicitDefEqProofs only[vQ,BD,↓reduceIte]
  exact⟨by rw[hin],hx⟩
end
def RV (x:List Int):List AV := [.sl (nm x) 1 (x.map qencI)]
def RowsL (rows:List (List AV))(ls:List (List Int)):Prop:=rows.length=ls.length∧∀ (i:Nat) (r:List AV) (l:List Int),rows[i]? = some r→ls[i]? = some l→∃ s k,r = [.sl s k (l.map qencI)]∧(k=1∨l = [])
def TLs (H:Hp)(v:AV)(ls:List (List Int)):Prop:=ls = []∨(∃ s rows,v = .sl s 1 rows∧RowsL rows ls)∨∃ q rows,v = .own q 0 ls.length∧H[q]? = some (.live 1 rows)∧RowsL rows ls
theorem TLs.ext {h H:Hp}{v:AV}{ls:List (List Int)}(t:TLs h v ls)(hx:Sm.ext h H):TLs H v ls:=by
 rcases t with h1 | h2 | ⟨q,rows,rfl,hq,hr⟩
 ·exact .inl h1
 ·exact .inr (.inl h2)
 ·exact .inr (.inr ⟨q,rows,rfl,FK hx hq,hr⟩)
theorem TLs.ld {H:Hp}{v:AV}{ls:List (List Int)}(t:TLs H v ls)(i:Nat)(hi:i < ls.length) : ∃ a s k,JZ 1 H v (.int .i64 (i:Nat))=some a∧D5 Tryz.prog H 26 a=some (.sl s k (ls[i].map qencI))∧(k=1∨ls[i] = []):=by
 have hl:ls[i]? = some ls[i]:=jO hi
 rcases t with rfl | ⟨s,rows,rfl,hlen,hr⟩ | ⟨q,rows,rfl,hq,hlen,hr⟩
 ·simp at hi
 ·have hi':i < rows.length:=by omega
  obtain⟨s',k,e,hk⟩:=hr i rows[i] ls[i] (jO hi') hl
  have h1:JZ 1 H (.sl s 1 (rows.map id)) (.int .i64 (i:Nat))=some (.fptr 1 (rows.map id) i 0):=DL hi'
  have h2:D5 Tryz.prog H 26 (.fptr 1 (rows.map id) i 0)=(id rows[i])[0]? := C9 MG hi'
  rw[List.map_id] at h1 h2
  exact⟨_,s',k,h1,by rw[h2,e]; rfl,hk⟩
 ·have hi':i < rows.length:=by omega
  obtain⟨s',k,e,hk⟩:=hr i rows[i] ls[i] (jO hi') hl
  have h1:=II (kk := .i64) (off:=0) (len:=ls.length) hq hi
  rw[jG] at h1
  exact⟨_,s',k,h1,by rw[DU MG hq (jO hi'),e]; rfl,hk⟩
theorem RowsL.map (ls:List (List Int)):RowsL (ls.map RV) ls:=by
 refine⟨by simp,fun i r l h1 h2 => ?_⟩
 rw[jY,h2] at h1
 cases h1
 exact⟨_,1,rfl,.inl rfl⟩
theorem RowsL.encL (ls:List Is):RowsL (ls.map encL) (ls.map (·.l)):=by
 refine⟨by simp,fun i r l h1 h2 => ?_⟩
 rw[jY] at h1 h2
 cases hx:ls[i]? with
 | none=>rw[hx] at h1; cases h1
 | some x=>rw[hx] at h1 h2; cases h1; cases h2; exact⟨_,1,rfl,.inl rfl⟩
theorem RowsL.nils (n:Nat):RowsL (zA n IK) (zA n []):=by
 refine⟨by simp,fun i r l h1 h2 => ?_⟩
 rw[List.getElem?_replicate] at h1 h2
 split at h1
 ·rename_i hi
  rw[if_pos hi] at h2
  cases h1; cases h2
  exact⟨_,0,rfl,.inr rfl⟩
 ·cases h1
def mix {α:Type}(ys xs:List α)(i:Nat):List α:=ys.take i++xs.drop i
theorem AH6 {α:Type}{ys xs:List α}{i:Nat}(h:ys.length=xs.length)(hi:i≤xs.length):(mix ys xs i).length=xs.length:=by simp [mix]; omega
theorem YS {α:Type}{ys xs:List α}(h:ys.length=xs.length):mix ys xs xs.length=ys:=by unfold mix; rw[List.drop_length,jF,jU (by omega)]
theorem AH7 {α:Type}{ys xs:List α}{i j:Nat}(h:ys.length=xs.length)(hij:i≤j)(hj:j < xs.length):(mix ys xs i)[j]? = some xs[j]:=by
 unfold mix
 have hl:(ys.take i).length=i:=by simp; omega
 rw[wJ (by omega),hl,qY,show i+(j - i)=j by omega,jO hj]
theorem AC5 {α:Type}{ys xs:List α}{i j:Nat}(h:ys.length=xs.length)(hij:i≤j)(hj:j < xs.length)(hj':j < (mix ys xs i).length):(mix ys xs i)[j]=xs[j]:=by
 have:=AH7 h hij hj
 rw[jO hj'] at this; exact Option.some.inj this
theorem YR {α:Type}{ys xs:List α}{i:Nat}(h:ys.length=xs.length)(hi:i < xs.length)(hy:i < ys.length):(mix ys xs i).set i ys[i]=mix ys xs (i+1):=by
 refine List.ext_getElem? fun j => ?_
 have hl:(ys.take i).length=i:=by simp; omega
 have hl':(ys.take (i+1)).length=i+1:=by simp; omega
 rw[zB]
 unfold mix
 rcases Nat.lt_trichotomy i j with h1 | h1 | h1
 ·rw[if_neg (by omega),wJ (by omega),wJ (by omega),hl,hl',qY,qY]
  congr 1; omega
 ·subst h1
  rw[if_pos rfl,if_pos (by simp; omega),zJ (by omega),List.getElem?_take_of_lt (by omega),jO hy]
 ·rw[if_neg (by omega),zJ (by omega),zJ (by omega),List.getElem?_take_of_lt h1,List.getElem?_take_of_lt (by omega)]
def OB (m:Mo)(ls:List (List Int))(env:List Sg):List PtR:=(m.pts.zip ls).map fun p=>ptE p.1 p.2 env
theorem VK (m:Mo)(ls:List (List Int))(env:List Sg)(h:ls.length=m.pts.length):(OB m ls env).length=m.pts.length:=by simp [OB,h]
theorem ACU (m:Mo)(ls:List (List Int))(env:List Sg)(i:Nat)(h1:i < m.pts.length)(h2:i < ls.length)(h3:i < (OB m ls env).length):(OB m ls env)[i]=ptE m.pts[i] ls[i] env:=by simp [OB]
def raiseAt (xs:List Int)(b:Nat):List Int:=xs.set b (rz (xs.getD b 0))
def rowP (hit:List Nat)(xs:List Int):List Int:=hit.foldl raiseAt xs
theorem RJ (xs:List Int)(b:Nat):(raiseAt xs b).length=xs.length:=by simp [raiseAt]
theorem QS : ∀ (hit:List Nat) (xs:List Int),(rowP hit xs).length=xs.length
 | [],_=>rfl
 | b :: hit,xs=>by
   have:=QS hit (raiseAt xs b)
   rw[RJ] at this; exact this
theorem rowP_step (hit:List Nat)(xs:List Int)(j:Nat)(hj:j < hit.length):rowP (hit.take (j+1)) xs=raiseAt (rowP (hit.take j) xs) hit[j]:=by
 unfold rowP
 rw[zL hj,List.foldl_append]; rfl
def Wn (xs:List Int):Prop := ∀ x∈xs,0≤x∧x≤1099511627776
theorem AP3 {n:Int}(h:0≤n∧n≤1099511627776):0≤rz n∧rz n≤1099511627776:=by unfold rz; omega
theorem Wn.getD {xs:List Int}(h:Wn xs)(b:Nat):0≤xs.getD b 0∧xs.getD b 0≤1099511627776:=by
 rw[zZ]
 cases hx:xs[b]? with
 | none=>decide
 | some x=>exact h x (List.mem_of_getElem? hx)
theorem Wn.raiseAt {xs:List Int}(h:Wn xs)(b:Nat):Wn (raiseAt xs b):=by
 intro x hx
 rcases List.mem_or_eq_of_mem_set hx with h1 | h1
 ·exact h x h1
 ·rw[h1]; exact AP3 (h.getD b)
theorem Wn.rowP : ∀ (hit:List Nat) {xs:List Int},Wn xs→Wn (rowP hit xs)
 | [],_,h=>h
 | b :: hit,_,h=>Wn.rowP hit (h.raiseAt b)
def QC (rs:List PtR)(P:List (List Int)):List (List Int):=(rs.zip P).map fun p=>rowP p.1.hit p.2
def crK (m:Mo)(x:Cr)(hits:List (List Nat))(k:Nat):Bool:=TI m x (TB (szs m x.pts) k) && allB x.pts (TB (szs m x.pts) k) hits
def rowC (m:Mo)(x:Cr)(hits:List (List Nat))(xs:List Int):List Int:=(List.range xs.length).map fun k=>if crK m x hits k=true then rz (xs.getD k 0) else xs.getD k 0
def TC (m:Mo)(hits:List (List Nat))(C:List (List Int)):List (List Int):=(m.crs.zip C).map fun p=>rowC m p.1 hits p.2
theorem rowC_len (m:Mo)(x:Cr)(hits:List (List Nat))(xs:List Int):(rowC m x hits xs).length=xs.length:=by simp [rowC]
theorem ACR (m:Mo)(x:Cr)(hits:List (List Nat))(xs:List Int)(k:Nat)(hk:k < xs.length)(hk':k < (rowC m x hits xs).length):(rowC m x hits xs)[k]=if crK m x hits k=true then rz xs[k] else xs[k]:=by
 have e:xs.getD k 0=xs[k]:=by rw[zZ,jO hk]; rfl
 simp only[rowC,List.getElem_map,List.getElem_range,e]
theorem Wn.rowC {m:Mo}{x:Cr}{hits:List (List Nat)}{xs:List Int}(h:Wn xs):Wn (rowC m x hits xs):=by
 intro y hy
 unfold Xe.rowC at hy
 obtain⟨k,_,rfl⟩:=zI.1 hy
 split
 ·exact AP3 (h.getD k)
 ·exact h.getD k
theorem U7 (rs:List PtR)(P:List (List Int))(h:rs.length=P.length):(QC rs P).length=P.length:=by simp [QC,h]
theorem U8 (rs:List PtR)(P:List (List Int))(i:Nat)(h1:i < rs.length)(h2:i < P.length)(h3:i < (QC rs P).length):(QC rs P)[i]=rowP rs[i].hit P[i]:=by simp [QC]
theorem U9 (m:Mo)(hits:List (List Nat))(C:List (List Int))(h:C.length=m.crs.length):(TC m hits C).length=C.length:=by simp [TC,h]
theorem VA (m:Mo)(hits:List (List Nat))(C:List (List Int))(i:Nat)(h1:i < m.crs.length)(h2:i < C.length)(h3:i < (TC m hits C).length):(TC m hits C)[i]=rowC m m.crs[i] hits C[i]:=by simp [TC]
theorem AYF {rs:List PtR}{P:List (List Int)}(h : ∀ xs∈P,Wn xs) : ∀ xs∈QC rs P,Wn xs:=by
 intro xs hx
 obtain⟨p,hp,rfl⟩:=zI.1 hx
 exact Wn.rowP _ (h _ (List.of_mem_zip hp).2)
theorem AYG {m:Mo}{hits:List (List Nat)}{C:List (List Int)}(h : ∀ xs∈C,Wn xs) : ∀ xs∈TC m hits C,Wn xs:=by
 intro xs hx
 obtain⟨p,hp,rfl⟩:=zI.1 hx
 exact Wn.rowC (h _ (List.of_mem_zip hp).2)
theorem AQC (o:Nat)(P:List (List Int))(i:Nat)(ys:List Int):nlV o (P.set i ys)=nlV o P:=by
 cases P with
 | nil=>rfl
 | cons x xs =>
   cases i with
   | zero=>rfl
   | succ i=>simp [nlV]
def cvR (po:Nat)(P:List (List Int))(co:Nat)(C:List (List Int))(sam ill:Int):List AV := [nlV po P,nlV co C,.int .i64 sam,.int .i64 ill]
structure CS (n0:Nat) (H:Hp) (cb tb po co:Nat) (pb cbs:List Nat) (P C:List (List Int)) (sam ill:Int) (v3:AV):Prop where
 gc:H[cb]? = some (.live 4 [cvR po P co C sam ill])
 gt:H[tb]? = some (.live 1 [[v3]])
 np:NL n0 H po pb P
 nc:NL n0 H co cbs C
 dis : ∀ b∈pb,b ∉ cbs
 xcp:cb ∉ pb
 xcc:cb ∉ cbs
 xtp:tb ∉ pb
 xtc:tb ∉ cbs
 xpo:P≠[]→po ∉ cbs∧cb≠po∧tb≠po
 xco:C≠[]→co ∉ pb∧cb≠co∧tb≠co
 ct:cb≠tb
section
variable {n0:Nat} {H:Hp} {cb tb po co:Nat} {pb cbs:List Nat} {P C:List (List Int)} {sam ill:Int} {v3:AV} (S:CS n0 H cb tb po co pb cbs P C sam ill v3)
include S
theorem CS.keep {H':Hp}(hk : ∀ b x,H[b]? = some x→b < H.length→H'[b]? = some x):CS n0 H' cb tb po co pb cbs P C sam ill v3 :=
 ⟨hk _ _ S.gc (CB S.gc),hk _ _ S.gt (CB S.gt),S.np.keep fun _ _ _ h=>hk _ _ h (CB h),S.nc.keep fun _ _ _ h=>hk _ _ h (CB h),S.dis,S.xcp,S.xcc,S.xtp,S.xtc,S.xpo,S.xco,S.ct⟩
theorem CS.app (x:Hp):CS n0 (H++x) cb tb po co pb cbs P C sam ill v3:=S.keep fun _ _ h _=>F8 h
theorem CS.ext {H':Hp}(hx:Sm.ext H H'):CS n0 H' cb tb po co pb cbs P C sam ill v3:=S.keep fun _ _ h _=>FK hx h
theorem CS.setP {i:Nat}(hi:i < pb.length)(ys:List Int)(hl : ∀ hx:i < P.length,ys.length=P[i].length):CS n0 (H.set pb[i] (.live 1 (ys.map qencI))) cb tb po co pb cbs (P.set i ys) C sam ill v3:=by
 have hm:=jS hi
 have hne : ∀ b,b ∉ pb→pb[i]≠b:=fun b hb e=>hb (by rw[← e]; exact hm)
 have hPne:P.set i ys≠[]→P≠[]:=fun h e=>h (by rw[e]; rfl)
 refine⟨?_,?_,S.np.set hi ys hl,S.nc.keep fun b x hb hx => ?_,S.dis,S.xcp,S.xcc,S.xtp,S.xtc,fun h=>S.xpo (hPne h),S.xco,S.ct⟩
 ·rw[zQ (hne _ S.xcp),S.gc]
  unfold cvR; rw[AQC]
 ·rw[zQ (hne _ S.xtp)]; exact S.gt
 ·rw[zQ]
  ·exact hx
  ·rcases hb with⟨hC,rfl⟩ | hb
   ·exact hne _ (S.xco hC).1
   ·exact fun e=>S.dis _ hm (by rw[e]; exact hb)
theorem CS.setC {i:Nat}(hi:i < cbs.length)(ys:List Int)(hl : ∀ hx:i < C.length,ys.length=C[i].length):CS n0 (H.set cbs[i] (.live 1 (ys.map qencI))) cb tb po co pb cbs P (C.set i ys) sam ill v3:=by
 have hm:=jS hi
 have hne : ∀ b,b ∉ cbs→cbs[i]≠b:=fun b hb e=>hb (by rw[← e]; exact hm)
 have hCne:C.set i ys≠[]→C≠[]:=fun h e=>h (by rw[e]; rfl)
 refine⟨?_,?_,S.np.keep fun b x hb hx => ?_,S.nc.set hi ys hl,S.dis,S.xcp,S.xcc,S.xtp,S.xtc,S.xpo,fun h=>S.xco (hCne h),S.ct⟩
 ·rw[zQ (hne _ S.xcc),S.gc]
  unfold cvR; rw[AQC]
 ·rw[zQ (hne _ S.xtc)]; exact S.gt
 ·rw[zQ]
  ·exact hx
  ·rcases hb with⟨hP,rfl⟩ | hb
   ·exact hne _ (S.xpo hP).1
   ·exact fun e=>S.dis _ hb (by rw[← e]; exact hm)
theorem CS.setT (w:AV):CS n0 (H.set tb (.live 1 [[w]])) cb tb po co pb cbs P C sam ill w:=by
 refine⟨by rw[zQ (Ne.symm S.ct)]; exact S.gc,EM S.gt,S.np.keep fun b x hb hx => ?_,S.nc.keep fun b x hb hx => ?_,S.dis,S.xcp,S.xcc,S.xtp,S.xtc,S.xpo,S.xco,S.ct⟩
 ·rw[zQ]
  ·exact hx
  ·rcases hb with⟨hP,rfl⟩ | hb
   ·exact(S.xpo hP).2.2
   ·exact fun e=>S.xtp (by rw[e]; exact hb)
 ·rw[zQ]
  ·exact hx
  ·rcases hb with⟨hC,rfl⟩ | hb
   ·exact(S.xco hC).2.2
   ·exact fun e=>S.xtc (by rw[e]; exact hb)
theorem CS.setN (sam' ill':Int):CS n0 (H.set cb (.live 4 [cvR po P co C sam' ill'])) cb tb po co pb cbs P C sam' ill' v3:=by
 refine⟨EM S.gc,by rw[zQ S.ct]; exact S.gt,S.np.keep fun b x hb hx => ?_,S.nc.keep fun b x hb hx => ?_,S.dis,S.xcp,S.xcc,S.xtp,S.xtc,S.xpo,S.xco,S.ct⟩
 ·rw[zQ]
  ·exact hx
  ·rcases hb with⟨hP,rfl⟩ | hb
   ·exact(S.xpo hP).2.1
   ·exact fun e=>S.xcp (by rw[e]; exact hb)
 ·rw[zQ]
  ·exact hx
  ·rcases hb with⟨hC,rfl⟩ | hb
   ·exact(S.xco hC).2.1
   ·exact fun e=>S.xcc (by rw[e]; exact hb)
theorem CS.l0:D5 Tryz.prog H 67 (.ptr cb 0 0)=some (nlV po P):=by rw[DU UN S.gc (row:=cvR po P co C sam ill) rfl]; rfl
theorem CS.l1:D5 Tryz.prog H 67 (.ptr cb 0 1)=some (nlV co C):=by rw[DU UN S.gc (row:=cvR po P co C sam ill) rfl]; rfl
theorem CS.lt0:D5 Tryz.prog H 67 (.ptr tb 0 0)=some v3:=by rw[DU UN S.gt (row := [v3]) rfl]; rfl
end
theorem A4D (n x:Int):splice [.int .i64 n] 0 [.int .i64 x]=qencI x:=rfl
theorem AGG (xs:List Int)(b:Nat):(xs.map qencI).set b (qencI (rz (xs.getD b 0)))=(raiseAt xs b).map qencI:=by rw[raiseAt,List.map_set]
structure Fr1 (h H:Hp) (cb tb:Nat) (pb cbs:List Nat):Prop where
 le:h.length≤H.length
 get : ∀ b x,h[b]? = some x→b≠cb→b≠tb→b ∉ pb→b ∉ cbs→H[b]? = some x
theorem Fr1.of_ext {h H:Hp}{cb tb:Nat}{pb cbs:List Nat}(hx:ext h H):Fr1 h H cb tb pb cbs:=⟨hx.le,fun _ _ hb _ _ _ _=>FK hx hb⟩
theorem Fr1.trans {a b c:Hp}{cb tb:Nat}{pb cbs:List Nat}(h1:Fr1 a b cb tb pb cbs)(h2:Fr1 b c cb tb pb cbs):Fr1 a c cb tb pb cbs :=
 ⟨qL h1.le h2.le,fun q x hq e1 e2 e3 e4=>h2.get q x (h1.get q x hq e1 e2 e3 e4) e1 e2 e3 e4⟩
theorem Fr1.set {h H:Hp}{cb tb:Nat}{pb cbs:List Nat}(hf:Fr1 h H cb tb pb cbs){q:Nat}(hq:q=cb∨q=tb∨q∈pb∨q∈cbs)(y:ABlk):Fr1 h (H.set q y) cb tb pb cbs:=by
 refine⟨by simpa using hf.le,fun b x hb e1 e2 e3 e4 => ?_⟩
 rw[zQ]
 ·exact hf.get b x hb e1 e2 e3 e4
 ·rintro rfl
  rcases hq with q | q | q | q
  ·exact e1 q
  ·exact e2 q
  ·exact e3 q
  ·exact e4 q
theorem A4R (h:Hp)(n:Nat)(hn:n≤1048576):KC Tryz.prog true h 67 (.int .i64 (n:Int)) (.int .i64 (n:Int))=some (.own h.length 0 n,h++[ABlk.live 1 (zA n IK)]):=by
 have hz:NR Tryz.prog 26=some IK:=by kernel_rfl
 have hr:room n 24:=IR (by omega) (by omega)
 unfold KC
 simp only[AX8,AJT,A0N,hz,Int.toNat_natCast]
 rw[if_pos ⟨by omega,Int.le_refl _,hr,rfl⟩]
 simp
theorem ANV (p:Pt)(last:List Int)(l:List Sg) : ∀ x∈(ptE p last l).hit,x < p.bins.length:=by
 intro x hx
 unfold ptE at hx
 split at hx
 ·cases hx
 ·split at hx
  ·cases hx
  ·split at hx
   ·cases hx
   ·split at hx
    ·cases hx
    ·exact ADJ _ _ _ _ _ x hx
theorem AYR (p:Pt)(last:List Int)(l:List Sg):(ptE p last l).hit.length≤p.bins.length:=by
 unfold ptE
 split
 ·simp
 ·split
  ·simp
  ·split
   ·simp
   ·split
    ·simp
    ·exact Z5 _ _ _ _ _
theorem A06 (G:Nat→AV)(hG:GOk G)(p:Pt)(hp:PtOk p)(last:List Int)(lm:SM)(k:Nat)(hk:k=1∨last = [])(l:List Sg)(m:SM)(h:Hp)(hll:last.length≤1048576)(hl:l.length≤1099511627776) :
  PCall (En G) 112 [.agg (GG p),.sl lm k (last.map qencI),.sl m 2 (l.map JC)] h (ptV (ptE p last l)):=by
 rcases hk with rfl | rfl
 ·exact AE1 G hG p hp last lm l m h hll hl
 ·exact PCall.args (AE1 G hG p hp [] lm l m h hll hl) (CvRL.cons (CvR.refl _) (CvRL.cons (CvR.sl (Cv.empty lm k 1)) (CvRL.refl _)))
def A3S (n0:Nat)(h:Hp)(cb tb po co:Nat)(pb cbs:List Nat)(m:Mo)(P C:List (List Int))(sam ill:Int)(ls:List (List Int))(env:List Sg)(v:AV)(H:Hp):Prop :=
 (∃ e,e≠0∧KA PtR.err (OB m ls env)=e∧v = .int .i64 e∧ext h H) ∨
 (KA PtR.err (OB m ls env)=0∧v = .int .i64 0∧∃ lb,h.length≤lb∧H[lb]? = some (.live 1 (((OB m ls env).map PtR.next).map RV)) ∧
  CS n0 H cb tb po co pb cbs (QC (OB m ls env) P) (TC m ((OB m ls env).map PtR.hit) C) (rz sam) (if(OB m ls env).any PtR.bad=true then rz ill else ill) (.own lb 0 m.pts.length)∧Fr1 h H cb tb pb cbs)
structure Ph (n0:Nat) (h H:Hp) (cb tb po co:Nat) (pb cbs:List Nat) (m:Mo) (mb hb lb:Nat) (P C:List (List Int)) (sam ill:Int) (hits:List (List Nat)) (nexts:List (List Int)):Prop where
 gm:H[mb]? = some (.live 2 [EE m])
 gh:H[hb]? = some (.live 1 (hits.map QX))
 gl:H[lb]? = some (.live 1 (nexts.map RV))
 cs:CS n0 H cb tb po co pb cbs P C sam ill (.own lb 0 m.pts.length)
 fr:Fr1 h H cb tb pb cbs
 wp : ∀ b∈pb,b < h.length
 wc : ∀ b∈cbs,b < h.length
 em:h.length≤mb
 eh:h.length≤hb
 el:h.length≤lb
section
variable {n0:Nat} {h H:Hp} {cb tb po co:Nat} {pb cbs:List Nat} {m:Mo} {mb hb lb:Nat} {P C:List (List Int)} {sam ill:Int} {hits:List (List Nat)} {nexts:List (List Int)} (S:Ph n0 h H cb tb po co pb cbs m mb hb lb P C sam ill hits nexts)
include S
theorem Ph.app (x:Hp):Ph n0 h (H++x) cb tb po co pb cbs m mb hb lb P C sam ill hits nexts :=
 ⟨F8 S.gm,F8 S.gh,F8 S.gl,S.cs.app x,⟨by have:=S.fr.le; simp; omega,fun b y hb e1 e2 e3 e4=>F8 (S.fr.get b y hb e1 e2 e3 e4)⟩,S.wp,S.wc,S.em,S.eh,S.el⟩
theorem Ph.setP {i:Nat}(hi:i < pb.length)(ys:List Int)(hl : ∀ hx:i < P.length,ys.length=P[i].length):Ph n0 h (H.set pb[i] (.live 1 (ys.map qencI))) cb tb po co pb cbs m mb hb lb (P.set i ys) C sam ill hits nexts:=by
 have hm:=jS hi
 have hw:=S.wp _ hm
 have a:=S.em; have b:=S.eh; have c:=S.el
 exact⟨by rw[zQ (by omega)]; exact S.gm,by rw[zQ (by omega)]; exact S.gh,by rw[zQ (by omega)]; exact S.gl,S.cs.setP hi ys hl,S.fr.set (.inr (.inr (.inl hm))) _,S.wp,S.wc,S.em,S.eh,S.el⟩
theorem Ph.setC {i:Nat}(hi:i < cbs.length)(ys:List Int)(hl : ∀ hx:i < C.length,ys.length=C[i].length):Ph n0 h (H.set cbs[i] (.live 1 (ys.map qencI))) cb tb po co pb cbs m mb hb lb P (C.set i ys) sam ill hits nexts:=by
 have hm:=jS hi
 have hw:=S.wc _ hm
 have a:=S.em; have b:=S.eh; have c:=S.el
 exact⟨by rw[zQ (by omega)]; exact S.gm,by rw[zQ (by omega)]; exact S.gh,by rw[zQ (by omega)]; exact S.gl,S.cs.setC hi ys hl,S.fr.set (.inr (.inr (.inr hm))) _,S.wp,S.wc,S.em,S.eh,S.el⟩
theorem Ph.raiseP (G:Nat→AV){i:Nat}(hi:i < P.length)(hip:i < pb.length)(b:Nat)(hb:b < P[i].length)(hw:Wn P[i]) :
  D5 Tryz.prog H 67 (.ptr cb 0 0)=some (nlV po P)∧JZ 1 H (nlV po P) (.int .i64 (i:Nat))=some (.ptr po i 0)∧D5 Tryz.prog H 26 (.ptr po i 0)=some (.own pb[i] 0 P[i].length) ∧
   JZ 1 H (.own pb[i] 0 P[i].length) (.int .i64 (b:Nat))=some (.ptr pb[i] b 0)∧ACalls (En G) 113 [.ptr pb[i] b 0] H fun _ H'=>H'=H.set pb[i] (.live 1 ((raiseAt P[i] b).map qencI)):=by
 have N:=S.cs.np
 have hrow:=N.row i hip hi
 refine⟨S.cs.l0,N.ix hi,N.ld hi,by have:=II (kk := .i64) (off:=0) (len:=P[i].length) hrow hb; rw[jG] at this; exact this,?_⟩
 have hg:P[i].getD b 0=P[i][b]:=by rw[zZ,jO hb]; rfl
 have hin:=hw.getD b
 have hr:(P[i].map qencI)[b]? = some [.int .i64 (P[i].getD b 0)]:=by rw[row_map hb,hg]; rfl
 refine(UD G hrow hr (n:=P[i].getD b 0) rfl (by omega) (by omega)).mono ?_
 rintro _ H' rfl
 rw[A4D,AGG]
theorem Ph.raiseC (G:Nat→AV){i:Nat}(hi:i < C.length)(hip:i < cbs.length)(b:Nat)(hb:b < C[i].length)(hw:Wn C[i]) :
  D5 Tryz.prog H 67 (.ptr cb 0 1)=some (nlV co C)∧JZ 1 H (nlV co C) (.int .i64 (i:Nat))=some (.ptr co i 0)∧D5 Tryz.prog H 26 (.ptr co i 0)=some (.own cbs[i] 0 C[i].length) ∧
   JZ 1 H (.own cbs[i] 0 C[i].length) (.int .i64 (b:Nat))=some (.ptr cbs[i] b 0)∧ACalls (En G) 113 [.ptr cbs[i] b 0] H fun _ H'=>H'=H.set cbs[i] (.live 1 ((raiseAt C[i] b).map qencI)):=by
 have N:=S.cs.nc
 have hrow:=N.row i hip hi
 refine⟨S.cs.l1,N.ix hi,N.ld hi,by have:=II (kk := .i64) (off:=0) (len:=C[i].length) hrow hb; rw[jG] at this; exact this,?_⟩
 have hg:C[i].getD b 0=C[i][b]:=by rw[zZ,jO hb]; rfl
 have hin:=hw.getD b
 have hr:(C[i].map qencI)[b]? = some [.int .i64 (C[i].getD b 0)]:=by rw[row_map hb,hg]; rfl
 refine(UD G hrow hr (n:=C[i].getD b 0) rfl (by omega) (by omega)).mono ?_
 rintro _ H' rfl
 rw[A4D,AGG]
end
structure ShapeOk (m:Mo) (P C:List (List Int)):Prop where
 pl:P.length=m.pts.length
 cl:C.length=m.crs.length
 pe : ∀ i (h1:i < P.length) (h2:i < m.pts.length),P[i].length=m.pts[i].bins.length
 ce : ∀ i (h1:i < C.length) (h2:i < m.crs.length),C[i].length=JB (szs m m.crs[i].pts)
 wp : ∀ xs∈P,Wn xs
 wc : ∀ xs∈C,Wn xs
set_option maxHeartbeats 8000000 in
theorem AJ8 (G:Nat→AV)(hG:GOk G)(hT:UQ G)(m:Mo)(hm:MoOk m)(hg:Cov.Good m){n0:Nat}{h:Hp}{cb tb po co:Nat}{pb cbs:List Nat}{P C:List (List Int)}{sam ill:Int}{v3:AV}(S:CS n0 h cb tb po co pb cbs P C sam ill v3)(hS:ShapeOk m P C)
  (ls:List (List Int)) (hls:ls.length=m.pts.length) (hlen : ∀ l∈ls,l.length≤1048576) (T:TLs h v3 ls) (env:List Sg) (sm:SM) (henv:env.length≤1099511627776) (hsam:0≤sam∧sam≤1099511627776) (hill:0≤ill∧ill≤1099511627776) :
  ACalls (En G) 76 [.agg (EE m),.ptr cb 0 0,.ptr tb 0 0,.sl sm 2 (env.map JC)] h (A3S n0 h cb tb po co pb cbs m P C sam ill ls env):=by
 have hnp:m.pts.length≤16:=by have:=hg.num; omega
 have hnc:m.crs.length≤16:=by have:=hg.num; omega
 have hrl:=VK m ls env hls
 have hrg:=ACU m ls env
 refine KW (H:=hint [] []) (enM G) Tryz.func76 rfl (by kernel_rfl) (by kernel_rfl) (jI (by kernel_rfl)) ?_
 show awp _ _ _ _ _ (EJ _ [.tmp 8] _)
 unfold A3S
 generalize OB m ls env=rs at hrl hrg ⊢
 have gm:=CZ h (ABlk.live 2 [EE m])
 have hx:=(ext.rfl' h).app [ABlk.live 2 [EE m]]
 have hl0:(h++[ABlk.live 2 [EE m]]).length=h.length+1:=by simp
 simp -implicitDefEqProofs only[vQ,jJ,BD,↓reduceIte,jB,enP,H7,bxM]
 generalize h++[ABlk.live 2 [EE m]]=H0 at gm hx hl0 ⊢
 have lm0 : ∀ H:Hp,H[h.length]? = some (.live 2 [EE m])→D5 Tryz.prog H 22 (.ptr h.length 0 0)=some (.sl m.pm 6 (m.pts.map GG)):=fun H g=>by rw[DU ZI g (row:=EE m) rfl,RU]
 have lm1 : ∀ H:Hp,H[h.length]? = some (.live 2 [EE m])→D5 Tryz.prog H 23 (.ptr h.length 0 1)=some (.sl m.cm 3 (m.crs.map G5)):=fun H g=>by rw[DU AAT g (row:=EE m) rfl,TP]
 have gm1:=CP (x:=ABlk.live 1 (zA m.pts.length IK)) gm
 have gh1:=CZ H0 (ABlk.live 1 (zA m.pts.length IK))
 have hx1:=hx.app [ABlk.live 1 (zA m.pts.length IK)]
 have hl1:(H0++[ABlk.live 1 (zA m.pts.length IK)]).length=h.length+2:=by simp; omega
 simp -implicitDefEqProofs only[vQ,jJ,BD,PQ,↓reduceIte,jB,enP,PZ,H7,lm0 _ gm,jH,A4R _ _ (show m.pts.length≤1048576 by omega)]
 generalize H0++[ABlk.live 1 (zA m.pts.length IK)]=H1 at gm1 gh1 hx1 hl1 ⊢
 rw[hl0] at gh1 ⊢
 have gm2:=CP (x:=ABlk.live 1 (zA m.pts.length IK)) gm1
 have gh2:=CP (x:=ABlk.live 1 (zA m.pts.length IK)) gh1
 have gl2:=CZ H1 (ABlk.live 1 (zA m.pts.length IK))
 have hx2:=hx1.app [ABlk.live 1 (zA m.pts.length IK)]
 simp -implicitDefEqProofs only[vQ,jJ,BD,PQ,↓reduceIte,jB,enP,PZ,H7,lm0 _ gm1,jH,A4R _ _ (show m.pts.length≤1048576 by omega)]
 generalize H1++[ABlk.live 1 (zA m.pts.length IK)]=H2 at gm2 gh2 gl2 hx2 ⊢
 rw[hl1] at gl2 ⊢
 have hhl:(rs.map PtR.hit).length=m.pts.length:=by simp [hrl]
 have hnl:(rs.map PtR.next).length=m.pts.length:=by simp [hrl]
 simp -implicitDefEqProofs only[vQ,jJ,BD,↓reduceIte,enP,PZ,lm0 _ gm2,jH]
 refine G6 0 (fun F H=>F 1 = .ptr cb 0 0∧F 2 = .ptr tb 0 0∧F 4 = .ptr h.length 0 0∧F 9 = .own (h.length+1) 0 m.pts.length∧F 10 = .own (h.length+2) 0 m.pts.length∧F 11 = .bool (rs.any PtR.bad)∧ext h H∧H[h.length]? = some (.live 2 [EE m]) ∧
   H[h.length+1]? = some (.live 1 ((rs.map PtR.hit).map QX))∧H[h.length+2]? = some (.live 1 ((rs.map PtR.next).map RV))∧KA PtR.err rs=0)
  (fun F H => ∃ e,F 8 = .int .i64 e∧e≠0∧KA PtR.err rs=e∧ext h H) ?_ ?_ ?_
 ·refine DK (fun n F H => ∃ i,n+i=m.pts.length∧F 1 = .ptr cb 0 0∧F 2 = .ptr tb 0 0∧F 3 = .sl sm 2 (env.map JC)∧F 4 = .ptr h.length 0 0∧F 9 = .own (h.length+1) 0 m.pts.length∧F 10 = .own (h.length+2) 0 m.pts.length∧F 11 = .bool ((rs.take i).any PtR.bad)∧F 36 = .sl m.pm 6 (m.pts.map GG)∧F 37 = .int .i64 (m.pts.length:Nat)∧F 38 = .int .i64 (i:Nat)∧ext h H∧H[h.length]? = some (.live 2 [EE m]) ∧
   H[h.length+1]? = some (.live 1 (mix ((rs.map PtR.hit).map QX) (zA m.pts.length IK) i))∧H[h.length+2]? = some (.live 1 (mix ((rs.map PtR.next).map RV) (zA m.pts.length IK) i))∧KA PtR.err rs=KA PtR.err (rs.drop i)) m.pts.length
   ⟨0,by simp,by simp -implicitDefEqProofs only[vQ,↓reduceIte,jB],by simp -implicitDefEqProofs only[vQ,↓reduceIte,jB],by simp -implicitDefEqProofs only[vQ,↓reduceIte,jB],by simp -implicitDefEqProofs only[AA,↓reduceIte,jB],by simp -implicitDefEqProofs only[AA,↓reduceIte,jB],by simp -implicitDefEqProofs only[AA,↓reduceIte,jB],by simp -implicitDefEqProofs only[AA,↓reduceIte,jB]; rfl,by simp -implicitDefEqProofs only[AA,↓reduceIte,jB],by simp -implicitDefEqProofs only[AA,↓reduceIte,jB],by simp -implicitDefEqProofs only[AA,↓reduceIte]; rfl,hx2,gm2,gh2,gl2,rfl⟩ ?_
  rintro n F H ⟨i,hi,f1,f2,f3,f4,f9,f10,f11,f36,f37,f38,hxH,gmH,ghH,glH,hfst⟩
  simp -implicitDefEqProofs only[vQ,jJ,BD,↓reduceIte,enP,f37,f38]
  refine CU (fun hc => ?_) (fun hc => ?_)
  ·have hi':i < m.pts.length:=by simpa using hc
   have hir:i < rs.length:=by omega
   have hil:i < ls.length:=by omega
   have hp:=hm.pts _ (jS hi')
   have hri:rs[i]=ptE m.pts[i] ls[i] env:=hrg i hi' hil hir
   rw[PG _ _ _ hir] at hfst
   have hbad:(rs.take (i+1)).any PtR.bad=((rs.take i).any PtR.bad || rs[i].bad):=by rw[zL hir,List.any_append]; simp
   have hxa:=hxH.app [ABlk.live 6 [GG m.pts[i]]]
   have gma:=CP (x:=ABlk.live 6 [GG m.pts[i]]) gmH
   have gha:=CP (x:=ABlk.live 6 [GG m.pts[i]]) ghH
   have gla:=CP (x:=ABlk.live 6 [GG m.pts[i]]) glH
   have gpa:=CZ H (ABlk.live 6 [GG m.pts[i]])
   simp -implicitDefEqProofs only[vQ,jJ,BD,↓reduceIte,jB,enP,QG,jT,f36,f38,DL hi',FM AAS XG IY hi',A02,AYC _ _ [.str ⟨#[]⟩,.int .i64 0,.int .i64 0,.str ⟨#[]⟩,.sl .nil 0 [],.sl .nil 0 []] rfl]
   generalize H++[ABlk.live 6 [GG m.pts[i]]]=Ha at hxa gma gha gla gpa ⊢
   have Sa:=S.ext hxa
   obtain⟨a,s',k',hix,hld,hk'⟩:=(T.ext hxa).ld i hil
   have hcall:=A06 G hG m.pts[i] hp ls[i] s' k' hk' env sm Ha (hlen _ (jS hil)) henv
   rw[← hri] at hcall
   unfold ptV at hcall
   refine ET (by kernel_rfl) ?_
   simp -implicitDefEqProofs only[vQ,jJ,MH,↓reduceIte,jB,jP,enP,ABQ,AB6,O8,f2,f3,ldP gpa,Sa.lt0,hix,hld]
   refine⟨_,hcall,?_⟩
   simp -implicitDefEqProofs only[vQ,zM,zO,jJ,MH,BD,↓reduceIte,jB,jP,enP]
   cases he:(rs[i].err == 0)
   ·have hne:rs[i].err≠0:=by simpa using he
    rw[if_neg hne] at hfst
    simp -implicitDefEqProofs only[vQ,jJ,BD,↓reduceIte,jB,bne,he]
    exact⟨rs[i].err,by trivial,hne,hfst,hxa⟩
   ·have hz:rs[i].err=0:=by simpa using he
    rw[if_pos hz] at hfst
    have hm1:=AH7 (ys:=(rs.map PtR.hit).map QX) (xs:=zA m.pts.length IK) (i:=i) (j:=i) (by simp [hrl]) (jL _) (by simp; omega)
    have hm2:=AH7 (ys:=(rs.map PtR.next).map RV) (xs:=zA m.pts.length IK) (i:=i) (j:=i) (by simp [hrl]) (jL _) (by simp; omega)
    rw[List.getElem_replicate] at hm1 hm2
    have hs1:=YR (ys:=(rs.map PtR.hit).map QX) (xs:=zA m.pts.length IK) (i:=i) (by simp [hrl]) (by simp; omega) (by simp; omega)
    have hs2:=YR (ys:=(rs.map PtR.next).map RV) (xs:=zA m.pts.length IK) (i:=i) (by simp [hrl]) (by simp; omega) (by simp; omega)
    rw[List.getElem_map,List.getElem_map] at hs1 hs2
    have hi1:=II (kk := .i64) (off:=0) (len:=m.pts.length) gha hi'
    rw[jG] at hi1
    have hst1:FP Tryz.prog Ha 26 (.ptr (h.length+1) i 0) (.sl (nm rs[i].hit) 1 (rs[i].hit.map KH))=some (Ha.set (h.length+1) (.live 1 (mix ((rs.map PtR.hit).map QX) (zA m.pts.length IK) (i+1)))):=by
     rw[I5 (AXN _ _ _) AJT gha hm1 (by simp [IK]),← hs1]; rfl
    have gmb:(Ha.set (h.length+1) (.live 1 (mix ((rs.map PtR.hit).map QX) (zA m.pts.length IK) (i+1))))[h.length]? = _:=DT gma (by omega)
    have glb:(Ha.set (h.length+1) (.live 1 (mix ((rs.map PtR.hit).map QX) (zA m.pts.length IK) (i+1))))[h.length+2]? = _:=DT gla (by omega)
    have ghb:(Ha.set (h.length+1) (.live 1 (mix ((rs.map PtR.hit).map QX) (zA m.pts.length IK) (i+1))))[h.length+1]? = _:=EM gha
    have hxb:=hxa.set (b:=h.length+1) (by omega) (.live 1 (mix ((rs.map PtR.hit).map QX) (zA m.pts.length IK) (i+1)))
    have hi1l:=II (kk := .i64) (off:=0) (len:=m.pts.length) gla hi'
    rw[jG] at hi1l
    simp -implicitDefEqProofs only[vQ,jJ,BD,↓reduceIte,jB,jV,enP,ABQ,jT,bne,he,f9,f10,hi1,hst1]
    generalize Ha.set (h.length+1) (.live 1 (mix ((rs.map PtR.hit).map QX) (zA m.pts.length IK) (i+1)))=Hb at gmb glb ghb hxb ⊢
    have hi2:=II (kk := .i64) (off:=0) (len:=m.pts.length) glb hi'
    rw[jG] at hi2
    have hst2:FP Tryz.prog Hb 26 (.ptr (h.length+2) i 0) (.sl (nm rs[i].next) 1 (rs[i].next.map qencI))=some (Hb.set (h.length+2) (.live 1 (mix ((rs.map PtR.next).map RV) (zA m.pts.length IK) (i+1)))):=by
     rw[I5 (AXN _ _ _) AJT glb hm2 (by simp [IK]),← hs2]; rfl
    simp -implicitDefEqProofs only[vQ,jJ,CO,BD,↓reduceIte,jB,enP,jT,f10,hi2,hst2]
    have gmc:(Hb.set (h.length+2) (.live 1 (mix ((rs.map PtR.next).map RV) (zA m.pts.length IK) (i+1))))[h.length]? = _:=DT gmb (by omega)
    have ghc:(Hb.set (h.length+2) (.live 1 (mix ((rs.map PtR.next).map RV) (zA m.pts.length IK) (i+1))))[h.length+1]? = _:=DT ghb (by omega)
    have glc:(Hb.set (h.length+2) (.live 1 (mix ((rs.map PtR.next).map RV) (zA m.pts.length IK) (i+1))))[h.length+2]? = _:=EM glb
    have hxc:=hxb.set (b:=h.length+2) (by omega) (.live 1 (mix ((rs.map PtR.next).map RV) (zA m.pts.length IK) (i+1)))
    generalize Hb.set (h.length+2) (.live 1 (mix ((rs.map PtR.next).map RV) (zA m.pts.length IK) (i+1)))=Hc at gmc ghc glc hxc ⊢
    simp -implicitDefEqProofs only[f11]
    cases hq:(rs.take i).any PtR.bad
    ·rw[hq,Bool.false_or] at hbad
     simp -implicitDefEqProofs only[vQ,jJ,BD,↓reduceIte,jB,enP,f38,wrap_succ (show i < 9223372036854775807 by omega)]
     exact⟨n - 1,by omega,i+1,by omega,by trivial,by trivial,by trivial,by trivial,by trivial,by trivial,by first | rw[hbad] | (rw[hbad]; rfl),by trivial,by trivial,by trivial,hxc,gmc,ghc,glc,hfst⟩
    ·rw[hq,Bool.true_or] at hbad
     simp -implicitDefEqProofs only[vQ,jJ,BD,EY,↓reduceIte,jB,enP,f38,wrap_succ (show i < 9223372036854775807 by omega)]
     exact⟨n - 1,by omega,i+1,by omega,by trivial,by trivial,by trivial,by trivial,by trivial,by trivial,by first | rw[hbad] | (rw[hbad]; rfl),by trivial,by trivial,by trivial,hxc,gmc,ghc,glc,hfst⟩
  ·have hi':i=m.pts.length:=by
    have : ¬ i < m.pts.length:=by simpa using hc
    omega
   subst hi'
   have e1:=YS (ys:=(rs.map PtR.hit).map QX) (xs:=zA m.pts.length IK) (by simp [hrl])
   have e2:=YS (ys:=(rs.map PtR.next).map RV) (xs:=zA m.pts.length IK) (by simp [hrl])
   rw[List.length_replicate] at e1 e2
   rw[e1] at ghH
   rw[e2] at glH
   rw[jU (by omega)] at f11
   rw[jZ (by omega)] at hfst
   simp -implicitDefEqProofs only[vQ,↓reduceIte,jB]
   exact⟨f1,f2,f4,f9,f10,f11,hxH,gmH,ghH,glH,hfst⟩
 ·rintro F H ⟨f1,f2,f4,f9,f10,f11,hxH,gmH,ghH,glH,hfst⟩
  have S1:=S.ext hxH
  have hwp : ∀ b∈pb,b < h.length:=fun b hb=>S.np.mem_lt hb
  have hwc : ∀ b∈cbs,b < h.length:=fun b hb=>S.nc.mem_lt hb
  have htl:=CB S.gt
  have hcl:=CB S.gc
  have hstT:FP Tryz.prog H 67 (.ptr tb 0 0) (.own (h.length+2) 0 m.pts.length)=some (H.set tb (.live 1 [[.own (h.length+2) 0 m.pts.length]])):=NH (row := [v3]) (AI6 _ _ _) AYB S1.gt (by simp)
  have S2:=S1.setT (.own (h.length+2) 0 m.pts.length)
  have fr2:Fr1 h (H.set tb (.live 1 [[.own (h.length+2) 0 m.pts.length]])) cb tb pb cbs:=(Fr1.of_ext hxH).set (.inr (.inl rfl)) _
  have gm2:(H.set tb (.live 1 [[.own (h.length+2) 0 m.pts.length]]))[h.length]? = _:=DT gmH (by omega)
  have gh2:(H.set tb (.live 1 [[.own (h.length+2) 0 m.pts.length]]))[h.length+1]? = _:=DT ghH (by omega)
  have gl2:(H.set tb (.live 1 [[.own (h.length+2) 0 m.pts.length]]))[h.length+2]? = _:=DT glH (by omega)
  simp -implicitDefEqProofs only[vQ,jJ,BD,↓reduceIte,jB,enP,AB6,jT,f2,f10,hstT]
  generalize H.set tb (.live 1 [[.own (h.length+2) 0 m.pts.length]])=H3 at S2 fr2 gm2 gh2 gl2 ⊢
  simp -implicitDefEqProofs only[vQ,jJ,BD,↓reduceIte,enP,A25,f1]
  refine(UD G S2.gc (i:=0) (j:=2) (n:=sam) rfl rfl (by omega) (by omega)).mono ?_
  intro _ H4 e4
  have e4':H4=H3.set cb (.live 4 [cvR po P co C (rz sam) ill]):=e4
  have S4:=S2.setN (rz sam) ill
  have fr4:=fr2.set (.inl rfl) (.live 4 [cvR po P co C (rz sam) ill])
  have gm4:(H3.set cb (.live 4 [cvR po P co C (rz sam) ill]))[h.length]? = _:=DT gm2 (by omega)
  have gh4:(H3.set cb (.live 4 [cvR po P co C (rz sam) ill]))[h.length+1]? = _:=DT gh2 (by omega)
  have gl4:(H3.set cb (.live 4 [cvR po P co C (rz sam) ill]))[h.length+2]? = _:=DT gl2 (by omega)
  rw[← e4'] at S4 fr4 gm4 gh4 gl4
  clear e4 e4'
  have P4:Ph n0 h H4 cb tb po co pb cbs m h.length (h.length+1) (h.length+2) P C (rz sam) ill (rs.map PtR.hit) (rs.map PtR.next):=⟨gm4,gh4,gl4,S4,fr4,hwp,hwc,jL _,by omega,by omega⟩
  simp -implicitDefEqProofs only[vQ,jJ,BD,↓reduceIte,jB,f11]
  refine PW (fun F H=>F 1 = .ptr cb 0 0∧F 4 = .ptr h.length 0 0∧F 9 = .own (h.length+1) 0 m.pts.length∧Ph n0 h H cb tb po co pb cbs m h.length (h.length+1) (h.length+2) P C (rz sam) (if rs.any PtR.bad=true then rz ill else ill) (rs.map PtR.hit) (rs.map PtR.next)) (fun _ _=>False) ?_ ?_ ?_ (fun _ _ hh=>hh.elim)
  ·intro hb
   simp -implicitDefEqProofs only[vQ,jJ,BD,↓reduceIte,jB,enP,A24,f1]
   refine(UD G S4.gc (i:=0) (j:=3) (n:=ill) rfl rfl (by omega) (by omega)).mono ?_
   intro _ H5 e5
   have e5':H5=H4.set cb (.live 4 [cvR po P co C (rz sam) (rz ill)]):=e5
   have S5:=S4.setN (rz sam) (rz ill)
   have fr5:=fr4.set (.inl rfl) (.live 4 [cvR po P co C (rz sam) (rz ill)])
   have gm5:(H4.set cb (.live 4 [cvR po P co C (rz sam) (rz ill)]))[h.length]? = _:=DT gm4 (by omega)
   have gh5:(H4.set cb (.live 4 [cvR po P co C (rz sam) (rz ill)]))[h.length+1]? = _:=DT gh4 (by omega)
   have gl5:(H4.set cb (.live 4 [cvR po P co C (rz sam) (rz ill)]))[h.length+2]? = _:=DT gl4 (by omega)
   rw[← e5'] at S5 fr5 gm5 gh5 gl5
   rw[if_pos hb]
   simp -implicitDefEqProofs only[vQ,OM,↓reduceIte,jB,f4,f9]
   exact⟨by trivial,by trivial,by trivial,gm5,gh5,gl5,S5,fr5,hwp,hwc,jL _,by omega,by omega⟩
  ·intro hb
   rw[if_neg (by rw[hb]; decide)]
   simp -implicitDefEqProofs only[vQ,OM,↓reduceIte,jB]
   exact⟨f1,f4,f9,P4⟩
  clear P4 S4 fr4 gm4 gh4 gl4 S2 fr2 gm2 gh2 gl2 hstT S1 f1 f2 f4 f9 f10 f11
  rintro F H ⟨f1,f4,f9,PS⟩
  generalize (if rs.any PtR.bad=true then rz ill else ill)=ill' at PS ⊢
  have hbl:=S.np.len
  have hcl2:=S.nc.len
  have hpl:=hS.pl
  have hcll:=hS.cl
  have hsl:=U7 rs P (by omega)
  have hscl:=U9 m (rs.map PtR.hit) C hcll
  have h64 : ∀ x∈rs.map PtR.hit,x.length≤1048576:=by
   intro x hx
   obtain⟨r,hr,rfl⟩:=zI.1 hx
   obtain⟨i,hi,rfl⟩:=qJ hr
   rw[hrg i (by omega) (by omega) hi]
   have h1:=AYR m.pts[i] ls[i] env
   have h2:=(hg.full _ (jS (show i < m.pts.length by omega))).2
   omega
  simp -implicitDefEqProofs only[vQ,jJ,BD,↓reduceIte,enP,AOA,f9]
  refine G6 2 (fun F H=>F 1 = .ptr cb 0 0∧F 4 = .ptr h.length 0 0∧F 9 = .own (h.length+1) 0 m.pts.length∧Ph n0 h H cb tb po co pb cbs m h.length (h.length+1) (h.length+2) (QC rs P) C (rz sam) ill' (rs.map PtR.hit) (rs.map PtR.next)) (fun _ _=>False) ?_ ?_ (fun _ _ hh=>hh.elim)
  ·refine DK (fun n F H => ∃ i,n+i=m.pts.length∧F 1 = .ptr cb 0 0∧F 4 = .ptr h.length 0 0∧F 9 = .own (h.length+1) 0 m.pts.length∧F 87 = .own (h.length+1) 0 m.pts.length∧F 88 = .int .i64 (m.pts.length:Nat)∧F 89 = .int .i64 (i:Nat) ∧
    Ph n0 h H cb tb po co pb cbs m h.length (h.length+1) (h.length+2) (mix (QC rs P) P i) C (rz sam) ill' (rs.map PtR.hit) (rs.map PtR.next)) m.pts.length ⟨0,by simp,by simp -implicitDefEqProofs only[AA,↓reduceIte,jB,f1],by simp -implicitDefEqProofs only[AA,↓reduceIte,jB,f4],by simp -implicitDefEqProofs only[AA,↓reduceIte,jB,f9],by simp -implicitDefEqProofs only[AA,↓reduceIte,jB],by simp -implicitDefEqProofs only[AA,↓reduceIte,jB],by simp -implicitDefEqProofs only[AA,↓reduceIte] <;> rfl,PS⟩ ?_
   rintro n F H ⟨i,hi,f1,f4,f9,f87,f88,f89,PS⟩
   simp -implicitDefEqProofs only[vQ,jJ,BD,↓reduceIte,enP,f88,f89]
   refine CU (fun hc => ?_) (fun hc => ?_)
   ·have hi':i < m.pts.length:=by simpa using hc
    have hir:i < rs.length:=by omega
    have hiP:i < P.length:=by omega
    have hipb:i < pb.length:=by omega
    have hmx:=AH6 (ys:=QC rs P) (xs:=P) (i:=i) hsl (by omega)
    have hmi:=AC5 (ys:=QC rs P) (xs:=P) (i:=i) (j:=i) hsl (jL _) hiP (by omega)
    have hsg:=U8 rs P i hir hiP (by omega)
    have hms:=YR (ys:=QC rs P) (xs:=P) (i:=i) hsl hiP (by omega)
    have hri:rs[i]=ptE m.pts[i] ls[i] env:=hrg i hi' (by omega) hir
    have hpe:=hS.pe i hiP hi'
    have hlt : ∀ x∈rs[i].hit,x < P[i].length:=fun x hx=>by rw[hri] at hx; rw[hpe]; exact ANV _ _ _ x hx
    have hll:rs[i].hit.length≤1048576:=h64 _ (zI.2 ⟨rs[i],jS hir,rfl⟩)
    have hwi:Wn P[i]:=hS.wp _ (jS hiP)
    have hi1:=II (kk := .i64) (off:=0) (len:=m.pts.length) PS.gh hi'
    rw[jG] at hi1
    have lh:D5 Tryz.prog H 26 (.ptr (h.length+1) i 0)=some (.sl (nm rs[i].hit) 1 (rs[i].hit.map KH)):=by
     rw[DU MG PS.gh (row:=QX rs[i].hit) (by rw[row_map (by simpa using hir)]; simp)]; rfl
    generalize hht:rs[i].hit=hit at hlt hll lh hsg
    obtain⟨M,hmm,hmx,hmi,hms⟩ : ∃ M,mix (QC rs P) P i=M∧M.length=P.length∧(∀ h:i < M.length,M[i]=P[i])∧M.set i (QC rs P)[i]=mix (QC rs P) P (i+1):=⟨_,rfl,hmx,fun _=>hmi,hms⟩
    rw[hmm] at PS
    simp -implicitDefEqProofs only[vQ,jJ,BD,↓reduceIte,jB,enP,JV,ABQ,f87,f89,hi1,lh,jH]
    refine G6 4 (fun F H=>F 1 = .ptr cb 0 0∧F 4 = .ptr h.length 0 0∧F 9 = .own (h.length+1) 0 m.pts.length∧F 87 = .own (h.length+1) 0 m.pts.length∧F 88 = .int .i64 (m.pts.length:Nat)∧F 89 = .int .i64 (i:Nat)∧Ph n0 h H cb tb po co pb cbs m h.length (h.length+1) (h.length+2) (M.set i (rowP hit P[i])) C (rz sam) ill' (rs.map PtR.hit) (rs.map PtR.next)) (fun _ _=>False) ?_ ?_ (fun _ _ hh=>hh.elim)
    ·have e0:M.set i (rowP (hit.take 0) P[i])=M:=by
      show M.set i P[i]=M
      rw[← hmi (by omega),List.set_getElem_self]
     refine DK (fun n F H => ∃ j,n+j=hit.length∧F 1 = .ptr cb 0 0∧F 4 = .ptr h.length 0 0∧F 9 = .own (h.length+1) 0 m.pts.length∧F 87 = .own (h.length+1) 0 m.pts.length∧F 88 = .int .i64 (m.pts.length:Nat)∧F 89 = .int .i64 (i:Nat)∧F 18 = .int .i64 (i:Nat)∧F 94 = .sl (nm hit) 1 (hit.map KH)∧F 95 = .int .i64 (hit.length:Nat)∧F 96 = .int .i64 (j:Nat) ∧
      Ph n0 h H cb tb po co pb cbs m h.length (h.length+1) (h.length+2) (M.set i (rowP (hit.take j) P[i])) C (rz sam) ill' (rs.map PtR.hit) (rs.map PtR.next)) hit.length
      ⟨0,by simp,by simp -implicitDefEqProofs only[AA,↓reduceIte,jB,f1],by simp -implicitDefEqProofs only[AA,↓reduceIte,jB,f4],by simp -implicitDefEqProofs only[AA,↓reduceIte,jB,f9],by simp -implicitDefEqProofs only[AA,↓reduceIte,jB,f87],by simp -implicitDefEqProofs only[AA,↓reduceIte,jB,f88],by simp -implicitDefEqProofs only[AA,↓reduceIte,jB,f89],by simp -implicitDefEqProofs only[AA,↓reduceIte,jB] <;> rfl,by simp -implicitDefEqProofs only[AA,↓reduceIte,jB] <;> rfl,by simp -implicitDefEqProofs only[AA,↓reduceIte,jB] <;> rfl,by simp -implicitDefEqProofs only[AA,↓reduceIte] <;> rfl,by rw[e0]; exact PS⟩ ?_
     clear PS lh hi1
     rintro n' F H ⟨j,hj,f1,f4,f9,f87,f88,f89,f18,f94,f95,f96,PS⟩
     simp -implicitDefEqProofs only[vQ,jJ,BD,↓reduceIte,enP,f95,f96]
     refine CU (fun hc => ?_) (fun hc => ?_)
     ·have hj':j < hit.length:=by simpa using hc
      have hb:=hlt _ (jS hj')
      have hrl2:=QS (hit.take j) P[i]
      have hiM:i < (M.set i (rowP (hit.take j) P[i])).length:=by rw[List.length_set]; omega
      have hcur:(M.set i (rowP (hit.take j) P[i]))[i]=rowP (hit.take j) P[i]:=List.getElem_set_self _
      have hR:=PS.raiseP G hiM hipb hit[j] (by rw[hcur,hrl2]; exact hb) (by rw[hcur]; exact Wn.rowP _ hwi)
      rw[hcur] at hR
      obtain⟨r1,r2,r3,r4,r5⟩:=hR
      have PS2:=PS.setP hipb (raiseAt (rowP (hit.take j) P[i]) hit[j]) (fun _=>by rw[hcur,RJ])
      rw[List.set_set,← rowP_step _ _ _ hj'] at PS2
      rw[← rowP_step _ _ _ hj'] at r5
      simp -implicitDefEqProofs only[vQ,jJ,BD,↓reduceIte,jB,enP,JJ,ABQ,AIK,f94,f96,DL hj',C9 ag3 hj',encN0,f1,f18,r1,r2,r3,r4]
      refine r5.mono ?_
      rintro _ H' rfl
      simp -implicitDefEqProofs only[vQ,jJ,BD,↓reduceIte,jB,enP,f96,wrap_succ (show j < 9223372036854775807 by omega)]
      exact⟨n' - 1,by omega,j+1,by omega,by trivial,by trivial,by trivial,by trivial,by trivial,by trivial,by trivial,by trivial,by trivial,by trivial,PS2⟩
     ·have hj' : ¬ j < hit.length:=by simpa using hc
      rw[jU (by omega)] at PS
      simp -implicitDefEqProofs only[vQ,↓reduceIte,jB]
      exact⟨f1,f4,f9,f87,f88,f89,PS⟩
    ·rintro F H ⟨f1,f4,f9,f87,f88,f89,PS⟩
     have e1:M.set i (rowP hit P[i])=mix (QC rs P) P (i+1):=by rw[← hms,hsg]
     rw[e1] at PS
     simp -implicitDefEqProofs only[vQ,jJ,BD,↓reduceIte,jB,enP,f89,wrap_succ (show i < 9223372036854775807 by omega)]
     exact⟨n - 1,by omega,i+1,by omega,by trivial,by trivial,by trivial,by trivial,by trivial,by trivial,PS⟩
   ·have hi':i=P.length:=by
     have : ¬ i < m.pts.length:=by simpa using hc
     omega
    subst hi'
    rw[YS hsl] at PS
    simp -implicitDefEqProofs only[vQ,↓reduceIte,jB]
    exact⟨f1,f4,f9,PS⟩
  clear PS f1 f4 f9
  rintro F H ⟨f1,f4,f9,PS⟩
  simp -implicitDefEqProofs only[vQ,jJ,BD,↓reduceIte,enP,XW,JS,f4,lm1 _ PS.gm,jH]
  refine G6 6 (fun F H=>Ph n0 h H cb tb po co pb cbs m h.length (h.length+1) (h.length+2) (QC rs P) (TC m (rs.map PtR.hit) C) (rz sam) ill' (rs.map PtR.hit) (rs.map PtR.next)) (fun _ _=>False) ?_ ?_ (fun _ _ hh=>hh.elim)
  ·refine DK (fun n F H => ∃ i,n+i=m.crs.length∧F 1 = .ptr cb 0 0∧F 4 = .ptr h.length 0 0∧F 9 = .own (h.length+1) 0 m.pts.length∧F 113 = .sl m.cm 3 (m.crs.map G5)∧F 114 = .int .i64 (m.crs.length:Nat)∧F 115 = .int .i64 (i:Nat) ∧
    Ph n0 h H cb tb po co pb cbs m h.length (h.length+1) (h.length+2) (QC rs P) (mix (TC m (rs.map PtR.hit) C) C i) (rz sam) ill' (rs.map PtR.hit) (rs.map PtR.next)) m.crs.length ⟨0,by simp,by simp -implicitDefEqProofs only[AA,↓reduceIte,jB,f1],by simp -implicitDefEqProofs only[AA,↓reduceIte,jB,f4],by simp -implicitDefEqProofs only[AA,↓reduceIte,jB,f9],by simp -implicitDefEqProofs only[AA,↓reduceIte,jB],by simp -implicitDefEqProofs only[AA,↓reduceIte,jB],by simp -implicitDefEqProofs only[AA,↓reduceIte] <;> rfl,PS⟩ ?_
   clear PS f1 f4 f9
   rintro n F H ⟨i,hi,f1,f4,f9,f113,f114,f115,PS⟩
   simp -implicitDefEqProofs only[vQ,jJ,BD,↓reduceIte,enP,f114,f115]
   refine CU (fun hc => ?_) (fun hc => ?_)
   ·have hi':i < m.crs.length:=by simpa using hc
    have hiC:i < C.length:=by omega
    have hicb:i < cbs.length:=by omega
    have hcg:=hg.crs _ (jS hi')
    have hfs:=hg.full.szs hcg.here
    have hzl:=LY m m.crs[i].pts
    have htwo:=hcg.two
    have hfour:=hcg.four
    have hmx:=AH6 (ys:=TC m (rs.map PtR.hit) C) (xs:=C) (i:=i) hscl (by omega)
    have hmi:=AC5 (ys:=TC m (rs.map PtR.hit) C) (xs:=C) (i:=i) (j:=i) hscl (jL _) hiC (by omega)
    have hsg:=VA m (rs.map PtR.hit) C i hi' hiC (by omega)
    have hms:=YR (ys:=TC m (rs.map PtR.hit) C) (xs:=C) (i:=i) hscl hiC (by omega)
    have hce:=hS.ce i hiC hi'
    have hpr:=hcg.prod
    have hwi:Wn C[i]:=hS.wc _ (jS hiC)
    have PSa:=PS.app [ABlk.live 3 [G5 m.crs[i]]]
    have gx:=CZ H (ABlk.live 3 [G5 m.crs[i]])
    have hxl:=PS.fr.le
    simp -implicitDefEqProofs only[vQ,jJ,BD,↓reduceIte,jB,enP,QU,jT,f113,f115,DL hi',FM AI5 ACI LM hi',AXJ,AUF _ _ [.str ⟨#[]⟩,.sl .nil 0 [],.sl .nil 0 []] rfl]
    generalize H++[ABlk.live 3 [G5 m.crs[i]]]=Ha at PSa gx ⊢
    generalize H.length=xb at gx hxl ⊢
    obtain⟨M,hmm,hmx,hmi,hms⟩ : ∃ M,mix (TC m (rs.map PtR.hit) C) C i=M∧M.length=C.length∧(∀ h:i < M.length,M[i]=C[i])∧M.set i (TC m (rs.map PtR.hit) C)[i]=mix (TC m (rs.map PtR.hit) C) C (i+1):=⟨_,rfl,hmx,fun _=>hmi,hms⟩
    rw[hmm] at PSa
    have hxpb:xb ∉ pb:=fun q=>by have:=hwp _ q; omega
    have hxcb : ∀ (k:Nat) (hk:k < cbs.length),cbs[k]≠xb:=fun k hk q=>by have:=hwc _ (jS hk); omega
    simp -implicitDefEqProofs only[vQ,jJ,BD,↓reduceIte,jB,enP,f4,ldM PSa.gm,ldC gx]
    refine(XI G m m.crs[i] Ha hcg.here (by omega)).use ?_
    have N:=PSa.cs.nc
    have q2:=N.ix (show i < M.length by omega)
    have q3:=N.ld (show i < M.length by omega)
    rw[hmi] at q3
    simp -implicitDefEqProofs only[vQ,jJ,BD,↓reduceIte,jB,enP,JV,ABQ,ADY,f1,PSa.cs.l1,q2,q3]
    refine G6 8 (fun F H=>F 1 = .ptr cb 0 0∧F 4 = .ptr h.length 0 0∧F 9 = .own (h.length+1) 0 m.pts.length∧F 113 = .sl m.cm 3 (m.crs.map G5)∧F 114 = .int .i64 (m.crs.length:Nat)∧F 115 = .int .i64 (i:Nat)∧Ph n0 h H cb tb po co pb cbs m h.length (h.length+1) (h.length+2) (QC rs P) (M.set i (rowC m m.crs[i] (rs.map PtR.hit) C[i])) (rz sam) ill' (rs.map PtR.hit) (rs.map PtR.next)) (fun _ _=>False) ?_ ?_ (fun _ _ hh=>hh.elim)
    ·have e0:M.set i (mix (rowC m m.crs[i] (rs.map PtR.hit) C[i]) C[i] 0)=M:=by
      show M.set i C[i]=M
      rw[← hmi (by omega),List.set_getElem_self]
     refine DK (fun n F H => ∃ k,n+k=C[i].length∧F 1 = .ptr cb 0 0∧F 4 = .ptr h.length 0 0∧F 9 = .own (h.length+1) 0 m.pts.length∧F 113 = .sl m.cm 3 (m.crs.map G5)∧F 114 = .int .i64 (m.crs.length:Nat)∧F 115 = .int .i64 (i:Nat)∧F 22 = .int .i64 (i:Nat)∧F 23 = .ptr xb 0 0∧F 24 = .sl (nm (szs m m.crs[i].pts)) 1 ((szs m m.crs[i].pts).map KH)∧F 130 = .int .i64 (C[i].length:Nat)∧F 131 = .int .i64 (k:Nat)∧H[xb]? = some (.live 3 [G5 m.crs[i]]) ∧
      Ph n0 h H cb tb po co pb cbs m h.length (h.length+1) (h.length+2) (QC rs P) (M.set i (mix (rowC m m.crs[i] (rs.map PtR.hit) C[i]) C[i] k)) (rz sam) ill' (rs.map PtR.hit) (rs.map PtR.next)) C[i].length
      ⟨0,by simp,by simp -implicitDefEqProofs only[AA,↓reduceIte,jB,f1],by simp -implicitDefEqProofs only[AA,↓reduceIte,jB,f4],by simp -implicitDefEqProofs only[AA,↓reduceIte,jB,f9],by simp -implicitDefEqProofs only[AA,↓reduceIte,jB,f113],by simp -implicitDefEqProofs only[AA,↓reduceIte,jB,f114],by simp -implicitDefEqProofs only[AA,↓reduceIte,jB,f115],by simp -implicitDefEqProofs only[AA,↓reduceIte,jB] <;> rfl,by simp -implicitDefEqProofs only[AA,↓reduceIte,jB],by simp -implicitDefEqProofs only[AA,↓reduceIte,jB] <;> rfl,by simp -implicitDefEqProofs only[AA,↓reduceIte,jB] <;> rfl,by simp -implicitDefEqProofs only[AA,↓reduceIte] <;> rfl,gx,by rw[e0]; exact PSa⟩ ?_
     clear PS PSa gx q2 q3 N
     rintro n' F H ⟨k,hk,f1,f4,f9,f113,f114,f115,f22,f23,f24,f130,f131,gx,PS⟩
     simp -implicitDefEqProofs only[vQ,jJ,BD,↓reduceIte,enP,f130,f131]
     refine CU (fun hc => ?_) (fun hc => ?_)
     ·have hk':k < C[i].length:=by simpa using hc
      have hrcl:=rowC_len m m.crs[i] (rs.map PtR.hit) C[i]
      have hrcg:=ACR m m.crs[i] (rs.map PtR.hit) C[i] k hk' (by omega)
      have hkl:=AH6 (ys:=rowC m m.crs[i] (rs.map PtR.hit) C[i]) (xs:=C[i]) (i:=k) hrcl (by omega)
      have hkg:=AC5 (ys:=rowC m m.crs[i] (rs.map PtR.hit) C[i]) (xs:=C[i]) (i:=k) (j:=k) hrcl (jL _) hk' (by omega)
      have hks:=YR (ys:=rowC m m.crs[i] (rs.map PtR.hit) C[i]) (xs:=C[i]) (i:=k) hrcl hk' (by omega)
      have hins:=AJR (szs m m.crs[i].pts) k (fun n hn=>(hfs n hn).1)
      have htl:=NK hins
      have hck:crK m m.crs[i] (rs.map PtR.hit) k=(TI m m.crs[i] (TB (szs m m.crs[i].pts) k) && allB m.crs[i].pts (TB (szs m m.crs[i].pts) k) (rs.map PtR.hit)):=rfl
      have skip:crK m m.crs[i] (rs.map PtR.hit) k=false→mix (rowC m m.crs[i] (rs.map PtR.hit) C[i]) C[i] (k+1)=mix (rowC m m.crs[i] (rs.map PtR.hit) C[i]) C[i] k:=fun hq=>by
       rw[← hks,hrcg,if_neg (by rw[hq]; decide),← hkg,List.set_getElem_self]
      simp -implicitDefEqProofs only[vQ,jJ,BD,↓reduceIte,jB,f24,f131]
      refine(hT (szs m m.crs[i].pts) _ k H (by omega) (by omega) hfs (by omega)).use ?_
      simp -implicitDefEqProofs only[vQ,jJ,BD,↓reduceIte,jB,enP,f4,f23,ldM PS.gm,ldC gx]
      refine(AFL G m m.crs[i] (TB (szs m m.crs[i].pts) k) .any H hcg.here hins (by omega) (by have:=hcg.num; omega)).use ?_
      simp -implicitDefEqProofs only[vQ,jJ,CO,BD,↓reduceIte]
      cases h1:TI m m.crs[i] (TB (szs m m.crs[i].pts) k)
      ·rw[h1,qW] at hck
       rw[← skip hck] at PS
       simp -implicitDefEqProofs only[vQ,jJ,CO,BD,EY,↓reduceIte,jB,enP,f131,wrap_succ (show k < 9223372036854775807 by omega)]
       exact⟨n' - 1,by omega,k+1,by omega,by trivial,by trivial,by trivial,by trivial,by trivial,by trivial,by trivial,by trivial,by trivial,by trivial,by trivial,gx,PS⟩
      rw[h1,qO] at hck
      simp -implicitDefEqProofs only[vQ,jJ,CO,BD,↓reduceIte,jB,enP,f9,f23,ldC gx]
      have hall:=AXG G m.crs[i] (TB (szs m m.crs[i].pts) k) .any (rs.map PtR.hit) (h.length+1) H PS.gh (fun p hp=>by have:=hcg.here p hp; rw[hhl]; exact this) (by omega) h64 (by omega)
      rw[hhl] at hall
      refine hall.use ?_
      simp -implicitDefEqProofs only[vQ,jJ,BD,↓reduceIte,jB]
      cases h2:allB m.crs[i].pts (TB (szs m m.crs[i].pts) k) (rs.map PtR.hit)
      ·rw[h2] at hck
       rw[← skip hck] at PS
       simp -implicitDefEqProofs only[vQ,jJ,BD,↓reduceIte,jB,enP,f131,wrap_succ (show k < 9223372036854775807 by omega)]
       exact⟨n' - 1,by omega,k+1,by omega,by trivial,by trivial,by trivial,by trivial,by trivial,by trivial,by trivial,by trivial,by trivial,by trivial,by trivial,gx,PS⟩
      rw[h2] at hck
      have hiM:i < (M.set i (mix (rowC m m.crs[i] (rs.map PtR.hit) C[i]) C[i] k)).length:=by rw[List.length_set]; omega
      have hcur:(M.set i (mix (rowC m m.crs[i] (rs.map PtR.hit) C[i]) C[i] k))[i]=mix (rowC m m.crs[i] (rs.map PtR.hit) C[i]) C[i] k:=List.getElem_set_self _
      have hwm:Wn (mix (rowC m m.crs[i] (rs.map PtR.hit) C[i]) C[i] k):=by
       intro x hx
       unfold mix at hx
       rcases qC.1 hx with hx | hx
       ·exact Wn.rowC hwi x (List.mem_of_mem_take hx)
       ·exact hwi x (List.mem_of_mem_drop hx)
      have hR:=PS.raiseC G hiM hicb k (by rw[hcur,hkl]; exact hk') (by rw[hcur]; exact hwm)
      rw[hcur] at hR
      obtain⟨r1,r2,r3,r4,r5⟩:=hR
      have hra:raiseAt (mix (rowC m m.crs[i] (rs.map PtR.hit) C[i]) C[i] k) k=mix (rowC m m.crs[i] (rs.map PtR.hit) C[i]) C[i] (k+1):=by
       rw[← hks,hrcg,if_pos hck]
       unfold raiseAt
       congr 2
       rw[zZ,jO (by omega)]
       exact hkg
      have PS2:=PS.setC hicb (raiseAt (mix (rowC m m.crs[i] (rs.map PtR.hit) C[i]) C[i] k) k) (fun _=>by rw[hcur,RJ])
      rw[List.set_set,hra] at PS2
      rw[hra] at r5
      have gx2:=DT (y := .live 1 ((mix (rowC m m.crs[i] (rs.map PtR.hit) C[i]) C[i] (k+1)).map qencI)) gx (hxcb i hicb).symm
      simp -implicitDefEqProofs only[vQ,jJ,BD,↓reduceIte,jB,enP,JJ,ABQ,ADY,f1,f22,f131,r1,r2,r3,r4]
      refine r5.mono ?_
      rintro _ H' rfl
      simp -implicitDefEqProofs only[vQ,jJ,BD,↓reduceIte,jB,enP,f131,wrap_succ (show k < 9223372036854775807 by omega)]
      exact⟨n' - 1,by omega,k+1,by omega,by trivial,by trivial,by trivial,by trivial,by trivial,by trivial,by trivial,by trivial,by trivial,by trivial,by trivial,gx2,PS2⟩
     ·have hk':k=C[i].length:=by
       have : ¬ k < C[i].length:=by simpa using hc
       omega
      rw[hk',YS (rowC_len m m.crs[i] (rs.map PtR.hit) C[i])] at PS
      simp -implicitDefEqProofs only[vQ,↓reduceIte,jB]
      exact⟨f1,f4,f9,f113,f114,f115,PS⟩
    ·rintro F H ⟨f1,f4,f9,f113,f114,f115,PS⟩
     have e1:M.set i (rowC m m.crs[i] (rs.map PtR.hit) C[i])=mix (TC m (rs.map PtR.hit) C) C (i+1):=by rw[← hms,hsg]
     rw[e1] at PS
     simp -implicitDefEqProofs only[vQ,jJ,BD,↓reduceIte,jB,enP,f115,wrap_succ (show i < 9223372036854775807 by omega)]
     exact⟨n - 1,by omega,i+1,by omega,by trivial,by trivial,by trivial,by trivial,by trivial,by trivial,PS⟩
   ·have hi':i=C.length:=by
     have : ¬ i < m.crs.length:=by simpa using hc
     omega
    subst hi'
    rw[YS hscl] at PS
    simp -implicitDefEqProofs only[vQ,↓reduceIte]
    exact PS
  ·rintro F H PS
   simp -implicitDefEqProofs only[vQ,jJ,BD,↓reduceIte]
   exact .inr ⟨hfst,by trivial,h.length+2,by omega,PS.gl,PS.cs,PS.fr⟩
 ·rintro F H ⟨e,f8,hne,hfst,hxH⟩
  simp -implicitDefEqProofs only[vQ,f8]
  exact .inl ⟨e,hne,hfst,by trivial,hxH⟩
section
variable (G:Nat→AV)
theorem A5C (t:Tk):(AL0 t)[0]? = some (.sl t.m 1 (t.last.map encL)):=rfl
end
def NLB (o:Nat)(bs:List Nat)(xss:List (List Int))(b:Nat):Prop:=(xss≠[]∧b=o)∨b∈bs
theorem NL.lt {n0:Nat}{H:Hp}{o:Nat}{bs:List Nat}{xss:List (List Int)}(N:NL n0 H o bs xss){b:Nat}(hb:NLB o bs xss b):n0≤b∧b < H.length:=by
 rcases hb with⟨h,rfl⟩ | h
 ·exact⟨N.lo' h,N.top_lt h⟩
 ·exact⟨N.lo _ h,N.mem_lt h⟩
theorem NL.base {n0 k:Nat}{H:Hp}{o:Nat}{bs:List Nat}{xss:List (List Int)}(N:NL n0 H o bs xss)(h:k≤n0):NL k H o bs xss :=
 ⟨N.len,N.top,N.row,N.nodup,N.out,fun b hb=>qL h (N.lo b hb),fun q=>qL h (N.lo' q)⟩
theorem AJC {o:Nat}{bs:List Nat}{xss:List (List Int)}{q:Nat}(h:isB (nlV o xss) q):NLB o bs xss q := .inl (AIC h)
theorem AM6 {o t b:Nat}{bs:List Nat}{xss:List (List Int)}{xs:List Int}{q:Nat}(h:NLB t (bs++[b]) (xss++[xs]) q):q=t∨NLB o bs xss q∨q=b:=by
 rcases h with⟨_,rfl⟩ | h
 ·exact .inl rfl
 ·rcases qC.1 h with h | h
  ·exact .inr (.inl (.inr h))
  ·exact .inr (.inr (by simpa using h))
def zP (m:Mo):List (List Int):=m.pts.map fun p=>zeros p.bins.length
def zC (m:Mo):List (List Int):=m.crs.map fun c=>zeros (JB (szs m c.pts))
theorem ANB (m:Mo):(zP m).length=m.pts.length:=by simp [zP]
theorem ANC (m:Mo):(zC m).length=m.crs.length:=by simp [zC]
theorem AX2 (m:Mo)(i:Nat)(hi:i < m.pts.length):(zP m).take (i+1)=(zP m).take i++[zeros m.pts[i].bins.length]:=by
 have hl:i < (zP m).length:=by unfold zP; simpa using hi
 rw[zL hl]; simp [zP]
theorem AX3 (m:Mo)(i:Nat)(hi:i < m.crs.length):(zC m).take (i+1)=(zC m).take i++[zeros (JB (szs m m.crs[i].pts))]:=by
 have hl:i < (zC m).length:=by unfold zC; simpa using hi
 rw[zL hl]; simp [zC]
theorem AF0 (n:Nat):(zeros n).length=n:=by simp [zeros]
structure NC (n0:Nat) (H:Hp) (po:Nat) (pb:List Nat) (co:Nat) (cbs:List Nat) (P C:List (List Int)):Prop where
 np:NL n0 H po pb P
 nc:NL n0 H co cbs C
 dis : ∀ b,NLB po pb P b→¬ NLB co cbs C b
theorem NC.keep {n0:Nat}{H H':Hp}{po:Nat}{pb:List Nat}{co:Nat}{cbs:List Nat}{P C:List (List Int)}(N:NC n0 H po pb co cbs P C)(hk : ∀ b x,n0≤b→b < H.length→H[b]? = some x→H'[b]? = some x):NC n0 H' po pb co cbs P C :=
 ⟨N.np.keep fun b x hb h=>hk b x (N.np.lt hb).1 (N.np.lt hb).2 h,N.nc.keep fun b x hb h=>hk b x (N.nc.lt hb).1 (N.nc.lt hb).2 h,N.dis⟩
theorem NC.base {n0 k:Nat}{H:Hp}{po:Nat}{pb:List Nat}{co:Nat}{cbs:List Nat}{P C:List (List Int)}(N:NC n0 H po pb co cbs P C)(h:k≤n0):NC k H po pb co cbs P C:=⟨N.np.base h,N.nc.base h,N.dis⟩
theorem NC.cs {n0:Nat}{H:Hp}{po:Nat}{pb:List Nat}{co:Nat}{cbs:List Nat}{P C:List (List Int)}(N:NC n0 H po pb co cbs P C){cb tb:Nat}{sam ill:Int}{v3:AV}(gc:H[cb]? = some (.live 4 [cvR po P co C sam ill]))(gt:H[tb]? = some (.live 1 [[v3]]))(ht:cb≠tb)
  (hc : ∀ b,NLB po pb P b∨NLB co cbs C b→b≠cb∧b≠tb):CS n0 H cb tb po co pb cbs P C sam ill v3:=by
 refine⟨gc,gt,N.np,N.nc,fun b h1 h2=>N.dis b (.inr h1) (.inr h2),fun h=>(hc _ (.inl (.inr h))).1 rfl,fun h=>(hc _ (.inr (.inr h))).1 rfl,fun h=>(hc _ (.inl (.inr h))).2 rfl,fun h=>(hc _ (.inr (.inr h))).2 rfl,fun h=>⟨fun q=>N.dis _ (.inl ⟨h,rfl⟩) (.inr q),?_,?_⟩,fun h=>⟨fun q=>N.dis _ (.inr q) (.inl ⟨h,rfl⟩),?_,?_⟩,ht⟩
 ·exact fun e=>(hc _ (.inl (.inl ⟨h,rfl⟩))).1 e.symm
 ·exact fun e=>(hc _ (.inl (.inl ⟨h,rfl⟩))).2 e.symm
 ·exact fun e=>(hc _ (.inr (.inl ⟨h,rfl⟩))).1 e.symm
 ·exact fun e=>(hc _ (.inr (.inl ⟨h,rfl⟩))).2 e.symm
structure EmO (h H:Hp) (m:Mo) (po:Nat) (pb:List Nat) (co:Nat) (cbs:List Nat) (v3:AV):Prop where
 nc:NC h.length H po pb co cbs (zP m) (zC m)
 o3:outG 1 (fun _:Pt=>IK) h m.pts v3 H
set_option maxHeartbeats 4000000 in
theorem AS5 (G:Nat→AV)(m:Mo)(hm:MoOk m)(hg:Cov.Good m)(h:Hp):ACalls (En G) 111 [.agg (EE m)] h fun v H=>ext h H∧∃ po pb co cbs v3,v = .tup [.agg (KX (nlV po (zP m)) (nlV co (zC m))),.agg [v3]]∧EmO h H m po pb co cbs v3:=by
 have hm1:=hm.np
 have hm2:=hm.nc
 have hnum:=hg.num
 refine KW (H:=hint [22,23,24,45,46,47] []) (enM G) Tryz.func111 rfl (by kernel_rfl) (by kernel_rfl) (jI (by kernel_rfl)) ?_
 show awp _ _ _ _ _ (EJ _ [.cell 2 81,.cell 3 120] _)
 have E:=Em.mk' h m
 simp -implicitDefEqProofs only[vQ,jR,jJ,jK,jQ,BD,↓reduceIte,jB,enP,H7,bxM,AEW,AXK]
 generalize h++[ABlk.live 2 [EE m]]++[ABlk.live 4 [IW]]++[ABlk.live 1 [IK]]++[ABlk.live 4 [IW]]++[ABlk.live 1 [IK]]=H0 at E ⊢
 generalize (h++[ABlk.live 2 [EE m]]++[ABlk.live 4 [IW]]++[ABlk.live 1 [IK]]++[ABlk.live 4 [IW]]).length=b5 at E ⊢
 generalize (h++[ABlk.live 2 [EE m]]++[ABlk.live 4 [IW]]++[ABlk.live 1 [IK]]).length=b4 at E ⊢
 generalize (h++[ABlk.live 2 [EE m]]++[ABlk.live 4 [IW]]).length=b3 at E ⊢
 generalize (h++[ABlk.live 2 [EE m]]).length=b2 at E ⊢
 have o2:=E.o2; have o3:=E.o3; have o4:=E.o4; have o5:=E.o5
 have hlt0:=E.lt
 simp -implicitDefEqProofs only[vQ,jR,jJ,jK,jQ,BD,↓reduceIte,enP,PZ,E.m0,jH]
 refine G6 0 (fun F H => ∃ po pb v3,F 1 = .ptr h.length 0 0∧F 2 = .ptr b2 0 0∧F 3 = .ptr b3 0 0∧F 4 = .ptr b4 0 0∧F 5 = .ptr b5 0 0∧Em h H m b2 b3 b4 b5 (nlV po (zP m)) (.sl .nil 0 []) v3∧NL H0.length H po pb (zP m)∧outG 1 (fun _:Pt=>IK) H0 m.pts v3 H∧(∀ b,NLB po pb (zP m) b→¬ isB v3 b)∧H0.length≤H.length) (fun _ _=>False) ?_ ?_ (fun _ _ hh=>hh.elim)
 ·refine DK (fun n F H => ∃ i po pb v3,n+i=m.pts.length∧F 1 = .ptr h.length 0 0∧F 2 = .ptr b2 0 0∧F 3 = .ptr b3 0 0∧F 4 = .ptr b4 0 0∧F 5 = .ptr b5 0 0∧F 11 = .sl m.pm 6 (m.pts.map GG)∧F 12 = .int .i64 m.pts.length∧F 13 = .int .i64 (i:Nat)∧Em h H m b2 b3 b4 b5 (nlV po ((zP m).take i)) (.sl .nil 0 []) v3∧NL H0.length H po pb ((zP m).take i)∧outG 1 (fun _:Pt=>IK) H0 (m.pts.take i) v3 H∧(∀ b,NLB po pb ((zP m).take i) b→¬ isB v3 b)∧H0.length≤H.length) m.pts.length
   ⟨0,0,[],.sl .nil 0 [],by simp,by simp -implicitDefEqProofs only[AA,↓reduceIte,jB],by simp -implicitDefEqProofs only[AA,↓reduceIte,jB],by simp -implicitDefEqProofs only[AA,↓reduceIte,jB],by simp -implicitDefEqProofs only[AA,↓reduceIte,jB],by simp -implicitDefEqProofs only[AA,↓reduceIte,jB],by simp -implicitDefEqProofs only[AA,↓reduceIte,jB],by simp -implicitDefEqProofs only[AA,↓reduceIte,jB],by simp -implicitDefEqProofs only[AA,↓reduceIte]; rfl,by rw[qG]; exact E,by rw[qG]; exact NL.nil _ _ _,by rw[qG]; exact outG.nil _ _ _ _,fun b _ hb'=>hb',jL _⟩ ?_
  clear E
  rintro n F H ⟨i,po,pb,v3,hi,f1,f2,f3,f4,f5,f11,f12,f13,E,N,ho3,hdis,hle⟩
  simp -implicitDefEqProofs only[vQ,jR,jJ,jK,jQ,BD,↓reduceIte,enP,f12,f13]
  refine CU (fun hc => ?_) (fun hc => ?_)
  ·have hi':i < m.pts.length:=by simpa using hc
   have h64:=(hg.full _ (jS hi')).2
   have hP:=AX2 m i hi'
   have hzl:=AF0 m.pts[i].bins.length
   have htl:((zP m).take i).length≤1048576:=by rw[zF,ANB]; omega
   simp -implicitDefEqProofs only[vQ,jR,jJ,jK,jQ,BD,↓reduceIte,jB,enP,QG,jT,f11,f13,DL hi',FM AAS XG IY hi',A02,AYC _ _ [.str ⟨#[]⟩,.int .i64 0,.int .i64 0,.str ⟨#[]⟩,.sl .nil 0 [],.sl .nil 0 []] rfl]
   have hl1:(H++[ABlk.live 6 [GG m.pts[i]]]).length=H.length+1:=by simp
   have E1:=E.app [.live 6 [GG m.pts[i]]]
   have N1:=N.app [.live 6 [GG m.pts[i]]]
   have ho1:=ho3.app [.live 6 [GG m.pts[i]]]
   have lp:D5 Tryz.prog (H++[ABlk.live 6 [GG m.pts[i]]]) 49 (.ptr H.length 0 5)=some (.sl m.pts[i].bm 4 (m.pts[i].bins.map GR)):=by rw[DF U2,O6]
   generalize H++[ABlk.live 6 [GG m.pts[i]]]=Ha at hl1 E1 N1 ho1 lp ⊢
   have N2:=(N1.app [.live 1 ((zeros m.pts[i].bins.length).map qencI)]).app [.live 1 [[.own Ha.length 0 m.pts[i].bins.length]]]
   have E2:=(E1.app [.live 1 ((zeros m.pts[i].bins.length).map qencI)]).app [.live 1 [[.own Ha.length 0 m.pts[i].bins.length]]]
   have ho2:=(ho1.app [.live 1 ((zeros m.pts[i].bins.length).map qencI)]).app [.live 1 [[.own Ha.length 0 m.pts[i].bins.length]]]
   have gb:=CP (x:=ABlk.live 1 [[.own Ha.length 0 m.pts[i].bins.length]]) (CZ Ha (ABlk.live 1 ((zeros m.pts[i].bins.length).map qencI)))
   have gt:=CZ (Ha++[ABlk.live 1 ((zeros m.pts[i].bins.length).map qencI)]) (ABlk.live 1 [[.own Ha.length 0 m.pts[i].bins.length]])
   have hl2:(Ha++[ABlk.live 1 ((zeros m.pts[i].bins.length).map qencI)]++[ABlk.live 1 [[.own Ha.length 0 m.pts[i].bins.length]]]).length=Ha.length+2:=by simp
   refine ET (by kernel_rfl) ?_
   simp -implicitDefEqProofs only[vQ,jR,jJ,jK,jQ,wZ,IC,AAY,PQ,↓reduceIte,jB,jP,enP,QD,I4,AIK,f4,E1.l4,lp,jH,mkI _ _ (show m.pts[i].bins.length≤1048576 by omega),AQ5]
   generalize Ha++[ABlk.live 1 ((zeros m.pts[i].bins.length).map qencI)]++[ABlk.live 1 [[.own Ha.length 0 m.pts[i].bins.length]]]=Hb at N2 E2 ho2 gb gt hl2 ⊢
   generalize (Ha++[ABlk.live 1 ((zeros m.pts[i].bins.length).map qencI)]).length=tb at gt ⊢
   obtain⟨H2,hap,N3,hk,hl3,hx3⟩:=N2.snoc gb (by omega) (by omega) (fun q=>by have:=N.mem_lt q; omega) (fun q e=>by have:=N.top_lt q; omega) (by rw[hzl]; exact gt) htl
   rw[← hP] at N3 hap
   have hne:(zP m).take (i+1)≠[]:=by rw[hP]; simp
   have E3:=E2.keep hk (fun b hb=>by
    obtain⟨q,rfl⟩:=AIC hb
    have:=N.lo' q; omega) (hx3 h (by omega))
   rw[UG _ hne] at hap
   refine MI hap ?_
   have E4:=E3.set4 (.own Hb.length 0 ((zP m).take (i+1)).length) (.sl .nil 0 [])
   have ho4:=(ho2.keepA hk (fun b hb hb'=>hdis b (AJC hb') hb)).setB (b:=b4) (by omega) (.live 4 [KX (.own Hb.length 0 ((zP m).take (i+1)).length) (.sl .nil 0 [])])
   have N4:NL H0.length (H2.set b4 (.live 4 [KX (.own Hb.length 0 ((zP m).take (i+1)).length) (.sl .nil 0 [])])) Hb.length (pb++[Ha.length]) ((zP m).take (i+1)):=N3.keep fun b x hb hg=>DT hg (by have:=N3.lt hb; omega)
   have hl4:(H2.set b4 (.live 4 [KX (.own Hb.length 0 ((zP m).take (i+1)).length) (.sl .nil 0 [])])).length=H2.length:=by simp
   simp -implicitDefEqProofs only[vQ,jR,jJ,jK,jQ,MC,LC,BD,↓reduceIte,jB,jP,enP,AIK,jT,f4,E3.s4]
   generalize H2.set b4 (.live 4 [KX (.own Hb.length 0 ((zP m).take (i+1)).length) (.sl .nil 0 [])])=H4 at E4 ho4 N4 hl4 ⊢
   obtain⟨v3',H5,hap3,ho5,hk3,hl5,hn3,⟨o3',l3,rfl⟩,hx5⟩:=ho4.app2 AX8 AJT A15 A0N (by omega) (by rw[zF]; omega) (by omega) m.pts[i]
   rw[← zL hi'] at ho5
   have E5:=E4.keep hk3 (fun b hb=>by have:=ho4.lt hb; omega) (hx5 h (by omega))
   have E6:=E5.set5 (.own o3' 0 l3)
   have ho6:=ho5.setB (b:=b5) (by omega) (.live 1 [[.own o3' 0 l3]])
   have N5:NL H0.length (H5.set b5 (.live 1 [[.own o3' 0 l3]])) Hb.length (pb++[Ha.length]) ((zP m).take (i+1)):=N4.keep fun b x hb hg=>DT (hk3 b x hg (fun q=>by
    rw[hP] at hb
    rcases AM6 (o:=po) hb with rfl | hb | rfl
    ·have:=ho3.lt q; omega
    ·exact hdis _ hb q
    ·have:=ho3.lt q; omega)) (by have:=N4.lt hb; omega)
   simp -implicitDefEqProofs only[vQ,jR,jJ,jK,jQ,BD,↓reduceIte,jB,enP,AB6,f5,E4.l5,A5Q]
   refine MI (v := .own o3' 0 l3) (h:=H5) hap3 ?_
   simp -implicitDefEqProofs only[vQ,jR,jJ,jK,jQ,BD,↓reduceIte,jB,enP,AB6,jT,f5,E5.s5,f13,wrap_succ (show i < 9223372036854775807 by omega)]
   rw[← UG _ hne] at E6
   exact⟨n - 1,by omega,i+1,Hb.length,_,.own o3' 0 l3,by omega,by trivial,by trivial,by trivial,by trivial,by trivial,by trivial,by trivial,by trivial,E6,N5,ho6,fun b hb hb'=>by
    have h1:=hn3 b hb'
    have h2:=N4.lt hb
    omega,by rw[List.length_set]; omega⟩
  ·have hi' : ¬ i < m.pts.length:=by simpa using hc
   rw[jU (by rw[ANB]; omega)] at N E hdis
   rw[jU (by omega)] at ho3
   simp -implicitDefEqProofs only[vQ,↓reduceIte,jB]
   exact⟨po,pb,v3,f1,f2,f3,f4,f5,E,N,ho3,hdis,hle⟩
 ·rintro F H ⟨po,pb,v3,f1,f2,f3,f4,f5,E,N,ho3,hdis,hle⟩
  simp -implicitDefEqProofs only[vQ,jR,jJ,jK,jQ,BD,↓reduceIte,enP,XW,JS,f1,E.m1,jH]
  refine G6 2 (fun F H => ∃ co cbs,F 2 = .ptr b2 0 0∧F 3 = .ptr b3 0 0∧F 4 = .ptr b4 0 0∧F 5 = .ptr b5 0 0∧Em h H m b2 b3 b4 b5 (nlV po (zP m)) (nlV co (zC m)) v3∧NC H0.length H po pb co cbs (zP m) (zC m)∧outG 1 (fun _:Pt=>IK) H0 m.pts v3 H) (fun _ _=>False) ?_ ?_ (fun _ _ hh=>hh.elim)
  ·refine DK (fun n F H => ∃ i co cbs,n+i=m.crs.length∧F 1 = .ptr h.length 0 0∧F 2 = .ptr b2 0 0∧F 3 = .ptr b3 0 0∧F 4 = .ptr b4 0 0∧F 5 = .ptr b5 0 0∧F 33 = .sl m.cm 3 (m.crs.map G5)∧F 34 = .int .i64 m.crs.length∧F 35 = .int .i64 (i:Nat)∧Em h H m b2 b3 b4 b5 (nlV po (zP m)) (nlV co ((zC m).take i)) v3∧NL H0.length H po pb (zP m)∧NL H0.length H co cbs ((zC m).take i)∧outG 1 (fun _:Pt=>IK) H0 m.pts v3 H∧(∀ b,NLB co cbs ((zC m).take i) b→¬ NLB po pb (zP m) b∧¬ isB v3 b)∧H0.length≤H.length) m.crs.length
    ⟨0,0,[],by simp,by simp -implicitDefEqProofs only[AA,↓reduceIte,jB,f1],by simp -implicitDefEqProofs only[AA,↓reduceIte,jB,f2],by simp -implicitDefEqProofs only[AA,↓reduceIte,jB,f3],by simp -implicitDefEqProofs only[AA,↓reduceIte,jB,f4],by simp -implicitDefEqProofs only[AA,↓reduceIte,jB,f5],by simp -implicitDefEqProofs only[AA,↓reduceIte,jB],by simp -implicitDefEqProofs only[AA,↓reduceIte,jB],by simp -implicitDefEqProofs only[AA,↓reduceIte]; rfl,by rw[qG]; exact E,N,by rw[qG]; exact NL.nil _ _ _,ho3,(fun b hb=>by
     rcases hb with⟨q,_⟩ | q
     ·exact absurd rfl q
     ·cases q),hle⟩ ?_
   clear f1 f2 f3 f4 f5 E N ho3 hdis hle
   rintro n F H ⟨i,co,cbs,hi,f1,f2,f3,f4,f5,f33,f34,f35,E,NP,N,ho3,hdis,hle⟩
   simp -implicitDefEqProofs only[vQ,jR,jJ,jK,jQ,BD,↓reduceIte,enP,f34,f35]
   refine CU (fun hc => ?_) (fun hc => ?_)
   ·have hi':i < m.crs.length:=by simpa using hc
    have hcg:=hg.crs _ (jS hi')
    have hfs:=hg.full.szs hcg.here
    have hsl:=LY m m.crs[i].pts
    have hfour:=hcg.four
    have hpr:=hcg.prod
    have hC:=AX3 m i hi'
    have hzl:=AF0 (JB (szs m m.crs[i].pts))
    have htl:((zC m).take i).length≤1048576:=by rw[zF,ANC]; omega
    simp -implicitDefEqProofs only[vQ,jR,jJ,jK,jQ,BD,↓reduceIte,jB,enP,QU,jT,f33,f35,DL hi',FM AI5 ACI LM hi',AXJ,AUF _ _ [.str ⟨#[]⟩,.sl .nil 0 [],.sl .nil 0 []] rfl]
    have hl1:(H++[ABlk.live 3 [G5 m.crs[i]]]).length=H.length+1:=by simp
    have E1:=E.app [.live 3 [G5 m.crs[i]]]
    have N1:=N.app [.live 3 [G5 m.crs[i]]]
    have NP1:=NP.app [.live 3 [G5 m.crs[i]]]
    have ho1:=ho3.app [.live 3 [G5 m.crs[i]]]
    have gc1:=CZ H (.live 3 [G5 m.crs[i]])
    generalize H++[ABlk.live 3 [G5 m.crs[i]]]=Ha at hl1 E1 N1 NP1 ho1 gc1 ⊢
    generalize hpn:JB (szs m m.crs[i].pts)=pn at hC hzl hpr
    have N2:=(N1.app [.live 1 ((zeros pn).map qencI)]).app [.live 1 [[.own Ha.length 0 pn]]]
    have NP2:=(NP1.app [.live 1 ((zeros pn).map qencI)]).app [.live 1 [[.own Ha.length 0 pn]]]
    have E2:=(E1.app [.live 1 ((zeros pn).map qencI)]).app [.live 1 [[.own Ha.length 0 pn]]]
    have ho2:=(ho1.app [.live 1 ((zeros pn).map qencI)]).app [.live 1 [[.own Ha.length 0 pn]]]
    have gb:=CP (x:=ABlk.live 1 [[.own Ha.length 0 pn]]) (CZ Ha (ABlk.live 1 ((zeros pn).map qencI)))
    have gt:=CZ (Ha++[ABlk.live 1 ((zeros pn).map qencI)]) (ABlk.live 1 [[.own Ha.length 0 pn]])
    have hl2:(Ha++[ABlk.live 1 ((zeros pn).map qencI)]++[ABlk.live 1 [[.own Ha.length 0 pn]]]).length=Ha.length+2:=by simp
    refine ET (by kernel_rfl) ?_
    simp -implicitDefEqProofs only[vQ,jR,jJ,jK,jQ,wZ,AAY,PQ,↓reduceIte,jB,jP,enP,ADY,f1,f4,E1.l4',ldM E1.gm,ldC gc1]
    refine⟨_,XI G m _ _ hcg.here (by omega),?_⟩
    try simp -implicitDefEqProofs only[]
    refine⟨_,YM G _ _ _ (fun n hn=>(hfs n hn).2) (by omega),?_⟩
    rw[hpn]
    try simp -implicitDefEqProofs only[vQ,jR,jJ,jK,jQ,wZ,IC,↓reduceIte,jB,jP,enP,mkI _ _ (show pn≤1048576 by omega),AQ5]
    generalize Ha++[ABlk.live 1 ((zeros pn).map qencI)]++[ABlk.live 1 [[.own Ha.length 0 pn]]]=Hb at N2 NP2 E2 ho2 gb gt hl2 ⊢
    generalize (Ha++[ABlk.live 1 ((zeros pn).map qencI)]).length=tb at gt ⊢
    obtain⟨H2,hap,N3,hk,hl3,hx3⟩:=N2.snoc gb (by omega) (by omega) (fun q=>by have:=N.mem_lt q; omega) (fun q e=>by have:=N.top_lt q; omega) (by rw[hzl]; exact gt) htl
    rw[← hC] at N3 hap
    have hne:(zC m).take (i+1)≠[]:=by rw[hC]; simp
    have E3:=E2.keep hk (fun b hb=>by
     obtain⟨q,rfl⟩:=AIC hb
     have:=N.lo' q; omega) (hx3 h (by omega))
    rw[UG _ hne] at hap
    refine MI hap ?_
    have E4:=E3.set4 (nlV po (zP m)) (.own Hb.length 0 ((zC m).take (i+1)).length)
    have ho4:=(ho2.keepA hk (fun b hb hb'=>(hdis b (AJC hb')).2 hb)).setB (b:=b4) (by omega) (.live 4 [KX (nlV po (zP m)) (.own Hb.length 0 ((zC m).take (i+1)).length)])
    have N4:NL H0.length (H2.set b4 (.live 4 [KX (nlV po (zP m)) (.own Hb.length 0 ((zC m).take (i+1)).length)])) Hb.length (cbs++[Ha.length]) ((zC m).take (i+1)):=N3.keep fun b x hb hg=>DT hg (by have:=N3.lt hb; omega)
    have NP4:NL H0.length (H2.set b4 (.live 4 [KX (nlV po (zP m)) (.own Hb.length 0 ((zC m).take (i+1)).length)])) po pb (zP m):=NP2.keep fun b x hb hg=>DT (hk b x hg (fun q=>(hdis b (AJC q)).1 hb)) (by have:=NP.lt hb; omega)
    simp -implicitDefEqProofs only[vQ,jR,jJ,jK,jQ,MC,LC,BD,↓reduceIte,jB,jP,enP,ADY,jT,f4,E3.s4',f35,wrap_succ (show i < 9223372036854775807 by omega)]
    have hl4:(H2.set b4 (.live 4 [KX (nlV po (zP m)) (.own Hb.length 0 ((zC m).take (i+1)).length)])).length=H2.length:=by simp
    generalize H2.set b4 (.live 4 [KX (nlV po (zP m)) (.own Hb.length 0 ((zC m).take (i+1)).length)])=H4 at E4 ho4 N4 NP4 hl4 ⊢
    rw[← UG Hb.length hne] at E4
    exact⟨n - 1,by omega,i+1,Hb.length,_,by omega,by trivial,by trivial,by trivial,by trivial,by trivial,by trivial,by trivial,by trivial,E4,NP4,N4,ho4,fun b hb=>by
     rw[hC] at hb
     rcases AM6 (o:=co) hb with rfl | hb | rfl
     ·exact⟨fun q=>by have:=NP.lt q; omega,fun q=>by have:=ho3.lt q; omega⟩
     ·exact hdis _ hb
     ·exact⟨fun q=>by have:=NP.lt q; omega,fun q=>by have:=ho3.lt q; omega⟩,by omega⟩
   ·have hi' : ¬ i < m.crs.length:=by simpa using hc
    rw[jU (by rw[ANC]; omega)] at N E hdis
    simp -implicitDefEqProofs only[vQ,↓reduceIte,jB]
    exact⟨co,cbs,f2,f3,f4,f5,E,⟨NP,N,fun b h1 h2=>(hdis b h2).1 h1⟩,ho3⟩
  ·rintro F' H' ⟨co,cbs,g2,g3,g4,g5,E',N,q3⟩
   simp -implicitDefEqProofs only[vQ,↓reduceIte]
   have p2:=E'.o2; have p3:=E'.o3; have p4:=E'.o4; have p5:=E'.o5
   refine AHH [(5,2)] (by kernel_rfl) ?_ ?_
   ·simp -implicitDefEqProofs only[g2,g5,AHP,AM5,AJ7,and_true]
    omega
   simp -implicitDefEqProofs only[vQ,jR,jJ,jK,jQ,MC,LC,↓reduceIte,jB,jP,enP,jT,g2,g3,g4,g5,QE E'.g4 rfl,YW E'.g5 rfl,AUI E'.g2 rfl (OJ _ _) (OJ _ _),AUH (DT E'.g3 (show b3≠b2 by omega)) rfl q3.leaf]
   rw[A3C (ba:=b2) (bb:=b3) (by simp -implicitDefEqProofs only[AA,↓reduceIte,jB,g2]) (by simp -implicitDefEqProofs only[AA,↓reduceIte,jB,g3]) (QE (DT (EM E'.g2) (show b2≠b3 by omega)) rfl) (YW (EM (DT E'.g3 (show b3≠b2 by omega))) rfl)]
   exact⟨(E'.hx.set (by omega) _).set (by omega) _,po,pb,co,cbs,v3,rfl,(N.keep (H':=(H'.set b2 (.live 4 [KX (nlV po (zP m)) (nlV co (zC m))])).set b3 (.live 1 [[v3]])) fun b x hb _ hg=>DT (DT hg (by omega)) (by omega)).base (by omega),((q3.setB (b:=b2) (by omega) _).setB (b:=b3) (by omega) _).base (by omega)⟩
end Go.Proofs.YtfpagfhhhlljjaaGreatDoor.Xe
