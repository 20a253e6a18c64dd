/- Part 8 of the proof (N1, N2, N3, N4, N7, N8, N10, N12, N13); no condition. -/
import Derived.Test.YtfpagfhhhlljjaaGreatDoorYA7
set_option linter.unusedVariables false
set_option linter.unusedSimpArgs false
set_option maxRecDepth 8000
namespace Go.Proofs.YtfpagfhhhlljjaaGreatDoor.Cov
open Sm Bins Go.RowKit
open Bool renaming not_false→jC,and_eq_true→jV,not_true→jU
open List renaming length_map→jH,map_cons→jE,map_nil→jD,findIdx?_eq_some_iff_getElem→qV,take_of_length_le→jW,findIdx?_eq_none_iff→qW,append_nil→jF,any_eq_false→wH,drop_eq_getElem_cons→zH,drop_eq_nil_of_le→jX,append_assoc→zF,getElem?_cons_zero→zL,getElem?_cons_succ→zQ,getElem?_eq_getElem→jO
open Nat renaming le_of_ble_eq_true→jI,reduceEqDiff→jB,add_zero→jK,zero_add→jG,reduceAdd→jM
open Option renaming getD_some→jA
theorem AMK (G:Nat→AV) (xs:List Int) (m:SM) (fid:FuncId) (caps:List AV) (p:Int→Bool) (h:Hp) (hl:xs.length≤1099511627776)
  (hf : ∀ r,PCall (En G) fid (.int .i64 r :: caps) h (.bool (p r))) :
  PCall (En G) 163 [.sl m 1 (xs.map qencI),.fn (.func fid) [] caps] h (.int .i64 (match xs.findIdx? p with | some i=>(i:Int) | none => -1)):=by
 refine acN Tryz.func163 rfl ?_
 show awp _ _ _ _ _ (EJ _ [.tmp 4] _)
 simp -implicitDefEqProofs only [BC,BQ,A8,BA,AY,BB,AO,AQ,AL,BD,AX,AC,AA,AZ,AU,BH,BG,A7,DU,AB,BF,↓reduceIte,jB,jA,jC,enP,JG,jH]
 refine DL (fun n F H => ∃ k,n+k=xs.length∧F 0 = .sl m 1 (xs.map qencI)∧F 1 = .fn (.func fid) [] caps∧F 7 = .int .i64 xs.length∧F 8 = .int .i64 (k:Nat)∧H=h∧(xs.take k).all (fun r => !p r)=true) xs.length ⟨0,by simp,rfl,rfl,rfl,rfl,rfl,rfl⟩ ?_
 rintro n F H ⟨k,hk,f0,f1,f7,f8,rfl,hin⟩
 simp -implicitDefEqProofs only [BC,A8,BI,BA,AY,BB,AO,AQ,AL,BD,AX,AC,AA,AZ,BR,AB,CW,↓reduceIte,jA,jC,enP,f0,f1,f7,f8,jH]
 refine CU (fun hc => ?_) (fun hc => ?_)
 ·have hc':k < xs.length:=by simpa using hc
  simp -implicitDefEqProofs only [BC,BQ,A8,BO,BA,AY,BB,AO,AQ,AL,BD,AX,AC,AA,AZ,BG,A7,BN,BZ,CG,BX,AB,jE,jD,List.nil_append,List.cons_append,↓reduceIte,jB,jA,jC,enP,JB,f0,f1,f7,f8,DF hc',CX ag3 hc',encI0]
  refine (hf _).use ?_
  simp -implicitDefEqProofs only [BI,BA,BB,AC,AA,AZ,↓reduceIte]
  refine CU (fun hb => ?_) (fun hb => ?_)
  ·simp -implicitDefEqProofs only [BC,A8,BK,BA,CQ,EE,FK,CJ,AY,BB,AO,AQ,AL,BD,AX,AC,AA,AZ,BG,A7,↓reduceIte,jB,jA,jC]
   refine ⟨?_,trivial⟩
   rw [qV.2 ⟨hc',hb,fun j hj=>by
    rw [List.all_eq_true] at hin
    have:=hin xs[j] (by rw [List.mem_take_iff_getElem]; exact ⟨j,by omega,rfl⟩)
    simpa using this⟩]
  ·simp -implicitDefEqProofs only [A8,BO,BA,EI,EP,AY,BB,AO,AQ,AL,BD,AX,AC,AA,AZ,AU,BH,BG,BR,AB,DK,↓reduceIte,jB,jA,jC,enP,f8,wrap_succ (show k < 9223372036854775807 by omega)]
   refine ⟨n - 1,by omega,k+1,by omega,f0,f1,f7,rfl,trivial,?_⟩
   rw [List.take_succ_eq_append_getElem hc',List.all_append,hin]
   simp only [List.all_cons,List.all_nil,hb]; rfl
 ·have hc' : ¬ k < xs.length:=by simpa using hc
  simp -implicitDefEqProofs only [BC,A8,BK,DI,BA,ED,EU,EW,CJ,AY,BB,AO,AQ,AL,BD,AX,AC,AA,AU,BH,A7,↓reduceIte,jA,jC]
  refine ⟨?_,trivial⟩
  rw [jW (by omega)] at hin
  rw [qW.2 (by simpa using hin)]
theorem AEU (G:Nat→AV) (xs:List Int) (m:SM) (fid:FuncId) (caps:List AV) (p:Int→Bool) (h:Hp) (hl:xs.length≤1099511627776)
  (hf : ∀ r,PCall (En G) fid (.int .i64 r :: caps) h (.bool (p r))) :
  PCall (En G) 118 [.sl m 1 (xs.map qencI),.fn (.func fid) [] caps] h (.bool (xs.any p)):=by
 refine acN Tryz.func118 rfl ?_
 show awp _ _ _ _ _ (EJ _ [.tmp 4] _)
 simp -implicitDefEqProofs only [BC,A8,BA,AY,BB,AO,AQ,AL,BD,AX,AC,AA,AZ,AU,CB,BM,BG,A7,CG,BX,BF,BP,jE,jD,jF,↓reduceIte,jB,jA,jC,enP]
 refine (AMK G xs m fid caps p h hl hf).use ?_
 simp -implicitDefEqProofs only [BK,BA,CJ,AY,BB,AO,AQ,AL,BD,AX,AC,AA,AZ,AU,BH,A7,BR,AB,FX,↓reduceIte,jA,jC,enP]
 refine ⟨?_,trivial⟩
 cases hx:xs.findIdx? p with
 | some i =>
   obtain ⟨h1,h2,_⟩:=qV.1 hx
   have:xs.any p=true:=List.any_eq_true.2 ⟨xs[i],by simp,h2⟩
   simp [this]
 | none =>
   have:xs.any p=false:=by
    rw [qW] at hx
    rw [wH]; intro x hx2; simp [hx x hx2]
   simp [this]
theorem OJ {h:Hp} {b:Nat} {m:Mo} (hb:h[b]? = some (.live 2 [D8 m])):D6 Tryz.prog h 22 (.ptr b 0 0)=some (.sl m.pm 6 (m.pts.map F8)):=by rw [DV YX hb (row:=D8 m) rfl,QY]
theorem RI {h:Hp} {b:Nat} {m:Mo} (hb:h[b]? = some (.live 2 [D8 m])):D6 Tryz.prog h 23 (.ptr b 0 1)=some (.sl m.cm 3 (m.crs.map G6)):=by rw [DV AAA hb (row:=D8 m) rfl,SS]
theorem AL7 (G:Nat→AV) (m:Mo) (b:Nat) (p:Int) (h:Hp) (hb:h[b]? = some (.live 2 [D8 m])):PCall (En G) 117 [.int .i64 p,.ptr b 0 0] h (.bool (decide (p < 0) || decide (p≥(m.pts.length:Int)))):=by
 refine acN Tryz.func117 rfl ?_
 show awp _ _ _ _ _ (EJ _ [.tmp 3] _)
 simp -implicitDefEqProofs only [BC,A8,BA,AY,BB,BL,BV,CO,AO,AQ,AL,BD,AX,AC,AA,AZ,AU,BH,BM,BG,A7,BR,AB,CW,BF,↓reduceIte,jB,jA,jC,enP]
 cases ha:decide (p < 0)
 ·simp -implicitDefEqProofs only [Bool.false_or,BK,BA,CJ,AY,BB,BL,BV,CO,EM,AO,AQ,AL,BD,AX,AC,AA,AZ,AU,BM,BG,A7,CP,DR,BN,BR,BJ,DU,AB,FX,BF,BP,↓reduceIte,jB,jK,jA,jC,enP,PD,GR,OJ hb,jH]
  exact ⟨by simp,trivial⟩
 ·simp -implicitDefEqProofs only [Bool.true_or,BK,BA,CJ,AY,BB,BL,BV,CO,FP,AO,AQ,AL,BD,AX,AC,AA,EQ,AZ,AU,BM,A7,CP,DY,↓reduceIte,jB,jA,jC]
  exact ⟨by simp,trivial⟩
theorem AT7 {m:Mo} {l:List Int} (hh:Here m l):(l.any fun p=>decide (p < 0) || decide (p≥(m.pts.length:Int)))=false:=by
 rw [wH]
 intro p hp
 have:=hh p hp
 simp; omega
theorem AAI (G:Nat→AV) (m:Mo) (i:Nat) (hi:i < m.crs.length) (hg:CrGood m m.crs[i]) (h:Hp):PCall (En G) 77 [.agg (D8 m),.int .i64 (i:Int)] h (.bool true):=by
 refine ACalls.pure0 rfl ?_
 have hfour:=hg.four
 refine acN Tryz.func77 rfl ?_
 show awp _ _ _ _ _ (EJ _ [.tmp 4] _)
 have d0:decide ((i:Int) < 0)=false:=by simp
 have d1:decide ((i:Int)≥(m.crs.length:Int))=false:=by simp; omega
 simp -implicitDefEqProofs only [BC,A8,BO,BI,BA,D5,AY,BB,BL,BV,CO,EM,AO,AQ,AL,BD,AX,AC,AA,AZ,AU,CB,BH,BM,BG,A7,CP,DR,FD,BN,BR,IG,BJ,BZ,DU,CG,BX,BU,AB,CW,FX,BF,BP,jE,jD,jF,↓reduceIte,jB,jG,jA,jC,enP,PE,VW,IW,JD,bxM,d0,C9 AAA,SS,jH,d1,DF hi,CX LQ hi,OT]
 refine (AEU G m.crs[i].pts m.crs[i].pm 117 _ _ _ (by omega) fun r=>AL7 G m _ r _ (CY _ _)).use ?_
 simp -implicitDefEqProofs only [BK,BA,CJ,AY,BB,AO,AQ,AL,BD,AX,AC,AA,AZ,A7,G7,AB,ES,↓reduceIte,jA,jC,AT7 hg.here]
 exact ⟨trivial,_,rfl⟩
theorem YT (G:Nat→AV) (m:Mo) (i:Nat) (hi:i < m.crs.length) (hg:CrGood m m.crs[i]) (h:Hp):PCall (En G) 78 [.agg (D8 m),.int .i64 (i:Int)] h (.sl .any 1 ((szs m m.crs[i].pts).map J9)):=by
 have hfour:=hg.four
 have htwo:=hg.two
 have hh:=hg.here
 have hp:PCall (En G) 78 [.agg (D8 m),.int .i64 (i:Int)] h (.sl (nm (szs m m.crs[i].pts)) 1 ((szs m m.crs[i].pts).map J9)):=by
  refine P8 A0U ?_
  refine acN Tryz.func78 rfl ?_
  show awp _ _ _ _ _ (EJ _ [.tmp 4] _)
  simp -implicitDefEqProofs only [BC,BQ,A8,BA,AY,BB,AO,AQ,AL,BD,AX,AC,AA,AZ,AU,BH,H9,BG,A7,FD,BN,BJ,BZ,DU,BU,AB,BF,BP,↓reduceIte,jB,jG,jA,jC,enP,PE,IW,JG,JD,bxM,C9 AAA,SS,DF hi,CX LQ hi,OT,jH]
  refine DL (fun n F H => ∃ k,n+k=m.crs[i].pts.length∧F 2 = .ptr h.length 0 0∧F 13 = .sl m.crs[i].pm 1 (m.crs[i].pts.map qencI)∧F 14 = .int .i64 m.crs[i].pts.length∧F 15 = .int .i64 (k:Nat)∧H[h.length]? = some (.live 2 [D8 m])∧ext h H∧(∀ b,isB (F 5) b→h.length < b)∧outG 1 J9 h (szs m (m.crs[i].pts.take k)) (F 5) H) m.crs[i].pts.length ⟨0,by simp,by simp -implicitDefEqProofs only [AA,↓reduceIte,jB],by simp -implicitDefEqProofs only [AA,↓reduceIte,jB],by simp -implicitDefEqProofs only [AA,↓reduceIte,jB],by simp -implicitDefEqProofs only [AA,↓reduceIte]; rfl,CY _ _,(ext.rfl' h).app _,fun b hb=>hb.elim,outG.nil _ _ _ _⟩ ?_
  rintro n F H ⟨k,hk,f2,f13,f14,f15,hb,he,hlt,ho⟩
  simp -implicitDefEqProofs only [BC,A8,BI,BA,AY,BB,AO,AQ,AL,BD,AX,AC,AA,AZ,BR,AB,CW,↓reduceIte,jA,jC,enP,f14,f15]
  refine CU (fun hc => ?_) (fun hc => ?_)
  ·have hk':k < m.crs[i].pts.length:=by simpa using hc
   obtain ⟨s,ls⟩:=hh.ld hk' H
   have hzl:(szs m (m.crs[i].pts.take k)).length < 8388608:=by unfold szs; simp; omega
   obtain ⟨v',H',ha,ho',hkeep,he',hle,hb'⟩:=ho.append WH sz3 AA3 ZZ (by omega) hzl he (F9 m m.crs[i].pts[k]).length
   simp -implicitDefEqProofs only [FU,FQ,BC,BQ,A8,BO,BA,AY,BB,AO,AQ,AL,BD,AX,AC,AA,AZ,BG,A7,EK,BN,BJ,BZ,DU,G8,BU,AB,↓reduceIte,jB,jK,jG,jA,jC,enP,OY,GR,JB,PU,IQ,f2,f13,f15,DF hk',CX ag3 hk',encI0,OJ hb,hh.ix hk',ls,jH,AM9]
   refine LY (v:=v') (h:=H') (by rw [show [[AV.int .i64 ((F9 m m.crs[i].pts[k]).length:Int)]] = [J9 (F9 m m.crs[i].pts[k]).length] from rfl,ha]) ?_
   simp -implicitDefEqProofs only [A8,BA,EI,EP,AY,BB,AO,AQ,AL,BD,AX,AC,AA,AZ,AU,BH,BG,A7,BR,AB,DK,↓reduceIte,jB,jA,jC,enP,f15,wrap_succ (show k < 9223372036854775807 by omega)]
   refine ⟨n - 1,by omega,k+1,by omega,f2,f13,f14,rfl,hkeep _ _ hb (fun e=>by have:=hlt _ e; omega),he',fun b hbb => ?_,?_⟩
   ·have:=hb' b hbb; have:=CE hb; omega
   ·rw [AH6 m m.crs[i].pts k hk']; exact ho'
  ·have hk' : ¬ k < m.crs[i].pts.length:=by simpa using hc
   rw [jW (by omega)] at ho
   simp -implicitDefEqProofs only [BC,A8,BK,DI,BA,ED,EU,EW,CJ,AY,BB,AO,AQ,AL,BD,AX,AC,AA,AZ,BG,A7,↓reduceIte,jB,jA,jC]
   exact ⟨he,ho⟩
 have hnm:nm (szs m m.crs[i].pts)=SM.any:=by
  have:=KW m m.crs[i].pts
  cases hx:szs m m.crs[i].pts with
  | nil=>rw [hx] at this; simp at this; omega
  | cons a l=>rfl
 rw [hnm] at hp
 exact hp
def UL:List Nat→List Int→Int→Int
 | n :: ns,x :: xs,z=>UL ns xs (IntKind.i64.wrap (IntKind.i64.wrap (z * (n:Int))+x))
 | _,_,z=>z
theorem YI (ns:List Nat) (z:Int):UL ns [] z=z:=by cases ns <;> rfl
theorem YH : ∀ {ns:List Nat} {l:List Int},JH ns l=true→∀ (k:Nat) (hk:k < l.length) (hp:k < ns.length),0≤l[k]∧l[k] < (ns[k]:Int)
 | n :: ns,b :: bs,h,k,hk,hp=>by
   simp only [JH,jV,decide_eq_true_eq] at h
   cases k with
   | zero=>exact h.1
   | succ k=>exact YH (ns:=ns) h.2 k (by simpa using hk) (by simpa using hp)
 | [],b :: bs,h,k,hk,hp=>by simp at hp
 | _,[],h,k,hk,hp=>by simp at hk
theorem AGX (G:Nat→AV) (m:Mo) (i:Nat) (hi:i < m.crs.length) (hg:CrGood m m.crs[i]) (l:List Int) (s:SM) (hin:JH (szs m m.crs[i].pts) l=true) (h:Hp):PCall (En G) 44 [.agg (D8 m),.int .i64 (i:Int),.sl s 1 (l.map qencI)] h (.tup [.int .i64 (UL (szs m m.crs[i].pts) l 0),.bool true]):=by
 have hfour:=hg.four
 have hsl:=KW m m.crs[i].pts
 have hlen:=MC hin
 refine ACalls.pure 2 (R:=fun v H=>v = .tup [.int .i64 (UL (szs m m.crs[i].pts) l 0),.bool true]∧∃ x,H=h ++ x) ?_ (fun v h' ⟨e,x⟩=>⟨x,by subst e; rfl⟩)
 have hx : ∃ x,h ++ [ABlk.live 2 [D8 m]]=h ++ x:=⟨_,rfl⟩
 refine acN Tryz.func44 rfl ?_
 show awp _ _ _ _ _ (EJ _ [.tmp 6,.tmp 7] _)
 simp -implicitDefEqProofs only [BC,A8,BA,AY,BB,AO,AQ,AL,BD,AX,AC,AA,AZ,AU,CB,BH,BM,BG,A7,FD,BN,CG,BX,BU,AB,BF,BP,jE,jD,jF,↓reduceIte,jB,jA,jC,enP,bxM,ldM (CY h (.live 2 [D8 m]))]
 refine (AAI G m i hi hg _).use ?_
 simp -implicitDefEqProofs only [BC,A8,BO,BI,BA,D5,AY,BB,AO,AQ,AL,BD,AX,AC,AA,AZ,CB,BG,BN,G7,CG,BX,AB,ES,BF,BP,jE,jD,jF,↓reduceIte,jB,jA,jU,jC,enP,ldM (CY h (.live 2 [D8 m]))]
 refine (YT G m i hi hg _).use ?_
 generalize szs m m.crs[i].pts=ns at hin hsl hlen ⊢
 have hne:((l.length:Int) != (ns.length:Int))=false:=by rw [hlen]; simp
 simp -implicitDefEqProofs only [BC,BQ,A8,BO,BI,BA,D5,AY,BB,AO,AQ,AL,BD,AX,AC,AA,AZ,AU,BH,BG,A7,BR,DU,AB,ET,BF,BP,↓reduceIte,jB,jA,jC,enP,JG,jH,hne]
 refine DL (fun n F H => ∃ k,n+k=l.length∧F 8 = .sl .any 1 (ns.map J9)∧(∃ z,F 9 = .int .i64 z∧UL ns l 0=UL (ns.drop k) (l.drop k) z)∧F 24 = .sl s 1 (l.map qencI)∧F 25 = .int .i64 l.length∧F 26 = .int .i64 (k:Nat)∧H=h ++ [ABlk.live 2 [D8 m]]) l.length ⟨0,by simp,by simp -implicitDefEqProofs only [AA,↓reduceIte,jB],⟨0,rfl,rfl⟩,by simp -implicitDefEqProofs only [AA,↓reduceIte,jB],by simp -implicitDefEqProofs only [AA,↓reduceIte,jB],by simp -implicitDefEqProofs only [AA,↓reduceIte]; rfl,rfl⟩ ?_
 rintro n F H ⟨k,hk,f8,⟨z,f9,hz⟩,f24,f25,f26,rfl⟩
 simp -implicitDefEqProofs only [BC,A8,BI,BA,AY,BB,AO,AQ,AL,BD,AX,AC,AA,AZ,BR,AB,CW,↓reduceIte,jA,jC,enP,f25,f26]
 refine CU (fun hc => ?_) (fun hc => ?_)
 ·have hk':k < l.length:=by simpa using hc
  have hkn:k < ns.length:=by omega
  obtain ⟨h0,h1⟩:=YH hin k hk' hkn
  have d0:decide (l[k] < 0)=false:=by simp; omega
  have d1:decide (l[k]≥(ns[k]:Int))=false:=by simp; omega
  rw [zH hk',zH hkn] at hz
  simp -implicitDefEqProofs only [BC,BQ,A8,BO,BI,BA,EI,EP,D5,AY,BB,BL,BV,CO,EM,AO,AQ,AL,BD,AX,AC,AA,AZ,AU,BH,BM,BG,A7,CP,DR,BN,BR,BZ,AB,DK,Q8,CW,FX,↓reduceIte,jB,jA,jC,enP,JB,f8,f9,f24,f26,DF hk',CX ag3 hk',encI0,d0,DF hkn,CX ag3 hkn,encN0,d1,wrap_succ (show k < 9223372036854775807 by omega)]
  exact ⟨n - 1,by omega,k+1,by omega,trivial,⟨_,rfl,hz⟩,trivial,f25,rfl,trivial⟩
 ·have hk' : ¬ k < l.length:=by simpa using hc
  rw [jX (show l.length≤k by omega),YI] at hz
  simp -implicitDefEqProofs only [BC,A8,BK,DI,BA,ED,EU,EW,J3,AY,BB,AO,AQ,AL,BD,AX,AC,AA,AZ,AU,BM,BG,A7,↓reduceIte,jB,jA,jC,f9,hz]
  exact ⟨trivial,hx⟩
theorem AJ5 (G:Nat→AV) (l:List Int) (s:SM) (b:Nat) (r:Is) (h:Hp) (hb:h[b]? = some (.live 1 [[.sl s 1 (l.map qencI)]])) (hl:l.length≤1099511627776) :
  PCall (En G) 91 [.sl r.m 1 (r.l.map qencI),.ptr b 0 0] h (.bool (eqL r.l l)):=by
 refine acN Tryz.func91 rfl ?_
 show awp _ _ _ _ _ (EJ _ [.tmp 3] _)
 simp -implicitDefEqProofs only [BC,A8,BA,AY,BB,AO,AQ,AL,BD,AX,AC,AA,AZ,AU,CB,BM,BG,A7,BN,CG,BX,AB,BF,BP,jE,jD,jF,↓reduceIte,jB,jA,jC,enP,JR LQ hb]
 refine (ADA G r.l l r.m s h hl).use ?_
 simp -implicitDefEqProofs only [BK,BA,CJ,AY,BB,AO,AQ,AL,BD,AX,AC,AA,AZ,A7,↓reduceIte,jA,jC]
 exact ⟨trivial,trivial⟩
theorem AER (G:Nat→AV) (m:Mo) (i:Nat) (hi:i < m.crs.length) (hg:CrGood m m.crs[i]) (l:List Int) (s:SM) (hin:JH (szs m m.crs[i].pts) l=true) (h:Hp):PCall (En G) 56 [.agg (D8 m),.int .i64 (i:Int),.sl s 1 (l.map qencI)] h (.bool (!SG m m.crs[i] l)):=by
 refine ACalls.pure0 rfl ?_
 have hh:=hg.here
 have hfour:=hg.four
 have hnum:=hg.num
 have hlen:l.length=m.crs[i].pts.length:=by have:=MC hin; rw [KW] at this; omega
 refine acN Tryz.func56 rfl ?_
 show awp _ _ _ _ _ (EJ _ [.tmp 6] _)
 have gm:(h ++ [ABlk.live 2 [D8 m]] ++ [ABlk.live 1 [[.sl s 1 (l.map qencI)]]])[h.length]? = some (.live 2 [D8 m]):=CV (CY _ _)
 have gl:=CY (h ++ [ABlk.live 2 [D8 m]]) (.live 1 [[.sl s 1 (l.map qencI)]])
 have hx : ∃ x,h ++ [ABlk.live 2 [D8 m]] ++ [ABlk.live 1 [[.sl s 1 (l.map qencI)]]]=h ++ x:=⟨_,zF _ _ _⟩
 simp -implicitDefEqProofs only [ANB,BC,A8,BA,AY,BB,AO,AQ,AL,BD,AX,AC,AA,AZ,AU,BM,A7,FD,BN,BU,BF,BP,↓reduceIte,jB,jA,jC,enP,bxM]
 generalize h ++ [ABlk.live 2 [D8 m]] ++ [ABlk.live 1 [[.sl s 1 (l.map qencI)]]]=H at gm gl hx ⊢
 generalize (h ++ [ABlk.live 2 [D8 m]]).length=lb at gl ⊢
 simp -implicitDefEqProofs only [AY,AO,AQ,AL,BD,AX,AC,AA,AZ,CB,BG,BN,CG,BX,AB,BF,BP,jE,jD,jF,↓reduceIte,jB,jA,jC,enP,ldM gm,JR LQ gl]
 refine (AGX G m i hi hg l s hin _).use ?_
 simp -implicitDefEqProofs only [zL,zQ,BC,BQ,A8,BO,BI,BA,D5,AY,BB,AO,AQ,AL,BD,AX,AC,AA,AZ,AU,BH,BG,A7,BN,G7,BJ,BZ,FY,IP,DU,AB,ES,BF,BP,↓reduceIte,jB,jG,jA,jU,jC,enP,PE,IW,JG,JD,RI gm,DF hi,CX LQ hi,OT,jH]
 have hkb:=VC m m.crs[i].pts l
 refine H7 0 (fun F H'=>F 1 = .int .i64 (i:Nat)∧F 3 = .ptr h.length 0 0∧F 5 = .ptr lb 0 0∧H'=H∧MK m m.crs[i].pts l=true) (fun F H'=>F 6 = .bool true∧H'=H∧MK m m.crs[i].pts l=false) ?_ ?_ ?_
 ·refine DL (fun n F H' => ∃ k,n+k=l.length∧F 1 = .int .i64 (i:Nat)∧F 3 = .ptr h.length 0 0∧F 5 = .ptr lb 0 0∧F 25 = .sl m.crs[i].pm 1 (m.crs[i].pts.map qencI)∧F 26 = .int .i64 m.crs[i].pts.length∧F 27 = .int .i64 (k:Nat)∧H'=H∧MK m m.crs[i].pts l=MK m (m.crs[i].pts.drop k) (l.drop k)) l.length ⟨0,by simp,by simp -implicitDefEqProofs only [AA,BF,BP,↓reduceIte,jB],by simp -implicitDefEqProofs only [AA,↓reduceIte,jB],by simp -implicitDefEqProofs only [AA,↓reduceIte,jB],by simp -implicitDefEqProofs only [AA,↓reduceIte,jB],by simp -implicitDefEqProofs only [AA,↓reduceIte,jB],by simp -implicitDefEqProofs only [AA,↓reduceIte]; rfl,rfl,rfl⟩ ?_
  rintro n F H' ⟨k,hk,f1,f3,f5,f25,f26,f27,rfl,hk0⟩
  simp -implicitDefEqProofs only [BC,A8,BI,BA,AY,BB,AO,AQ,AL,BD,AX,AC,AA,AZ,BR,AB,CW,↓reduceIte,jA,jC,enP,f26,f27]
  refine CU (fun hc => ?_) (fun hc => ?_)
  ·have hkc:k < m.crs[i].pts.length:=by simpa using hc
   have hk':k < l.length:=by omega
   rw [hkb k hkc hk'] at hk0
   obtain ⟨h0,h1⟩:=VQ hin k hk' hkc
   obtain ⟨s2,ls⟩:=hh.ld hkc H'
   have hlt:l[k].toNat < (F9 m m.crs[i].pts[k]).length:=by omega
   simp -implicitDefEqProofs only [BC,BQ,A8,BO,BA,AY,BB,AO,AQ,AL,BD,AX,AC,AA,AZ,BG,A7,BN,BZ,AB,↓reduceIte,jB,jA,jC,enP,JB,f25,f27,DF hkc,CX ag3 hkc,encI0]
   refine EX (by kernel_rfl) ?_
   simp -implicitDefEqProofs only [F6,EF,DZ,FC,EH,FI,FB,IB,D9,EC,BI,BA,AO,AA,AZ,AU,BH,BN,BR,BJ,BZ,AB,ET,↓reduceIte,jB,jM,jK,jG,jA,enP,OY,GR,JB,RJ,IQ,OC,bne,f3,f5,f27,OJ gm,hh.ix hkc,ls,JR LQ gl,DF hk',CX ag3 hk',encI0,ANC h0 h1,CX ag3 hlt,Q3,ADV h0 h1]
   cases hkd:(W9 m m.crs[i].pts[k] l[k] == 0)
   ·simp -implicitDefEqProofs only [BC,A8,BK,BA,CQ,EE,MS,FK,DT,AY,BB,AO,AQ,AL,BD,AX,AC,AA,AU,BM,A7,↓reduceIte,jA,jC]
    exact ⟨trivial,trivial,by rw [hk0,hkd]; rfl⟩
   ·simp -implicitDefEqProofs only [A8,BO,BA,EI,EP,D5,AY,BB,AO,AQ,AL,BD,AX,AC,AA,AZ,AU,BH,BG,BR,AB,DK,↓reduceIte,jB,jA,jU,jC,enP,f27,wrap_succ (show k < 9223372036854775807 by omega)]
    exact ⟨n - 1,by omega,k+1,by omega,f1,f3,f5,f25,f26,rfl,trivial,by rw [hk0,hkd]; rfl⟩
  ·have hk' : ¬ k < m.crs[i].pts.length:=by simpa using hc
   simp -implicitDefEqProofs only [DI,ED,KQ,EW,AA,↓reduceIte,jB]
   exact ⟨f1,f3,f5,trivial,by rw [hk0,jX (show l.length≤k by omega),WZ]⟩
 ·rintro F H' ⟨f1,f3,f5,rfl,hk⟩
  simp -implicitDefEqProofs only [BC,A8,BA,EU,AY,AO,AQ,AL,BD,AX,AC,AA,AZ,CB,BG,BN,IG,BJ,BZ,CG,BX,AB,jE,jD,jF,↓reduceIte,jB,jG,jA,jC,enP,PE,IW,RS,f1,f3,f5,RI gm,DF hi,CX UA hi,AO8]
  refine (QN G m.crs[i].excl m.crs[i].xm 91 _ (fun x=>eqL x.l l) _ (by omega) fun r=>AJ5 G l s _ r _ gl (by omega)).use ?_
  simp -implicitDefEqProofs only [BK,BA,CJ,AY,BB,AO,AQ,AL,BD,AX,AC,AA,AZ,A7,↓reduceIte,jA,jC]
  exact ⟨by unfold SG; rw [hk]; simp,hx⟩
 ·rintro F H' ⟨f6,rfl,hk⟩
  simp -implicitDefEqProofs only [CQ,EE,CJ,f6]
  exact ⟨by unfold SG; rw [hk]; rfl,hx⟩
theorem ABR (G:Nat→AV) (m:Mo) (i:Nat) (hi:i < m.crs.length) (hg:CrGood m m.crs[i]) (h:Hp):PCall (En G) 59 [.agg (D8 m),.int .i64 (i:Int)] h (.bool true):=by
 refine ACalls.pure0 rfl ?_
 have hfour:=hg.four
 have gm:=CY h (.live 2 [D8 m])
 have hx : ∃ x,h ++ [ABlk.live 2 [D8 m]]=h ++ x:=⟨_,rfl⟩
 refine acN Tryz.func59 rfl ?_
 show awp _ _ _ _ _ (EJ _ [.tmp 4] _)
 have d0:decide ((i:Int) < 0)=false:=by simp
 have d1:decide ((i:Int)≥(m.crs.length:Int))=false:=by simp; omega
 simp -implicitDefEqProofs only [BC,BQ,A8,BO,BI,BA,D5,AY,BB,BL,BV,CO,EM,AO,AQ,AL,BD,AX,AC,AA,AZ,AU,BH,BM,BG,A7,CP,DR,FD,BN,BR,BJ,BZ,DU,BU,AB,CW,FX,BF,BP,↓reduceIte,jB,jG,jA,jC,enP,PE,VW,IW,JD,bxM,d0,RI gm,jH,d1,DF hi,CX LQ hi,OT]
 generalize h ++ [ABlk.live 2 [D8 m]]=H at gm hx ⊢
 refine DL (fun n F H' => ∃ k,n+k=m.crs[i].pts.length∧F 2 = .ptr h.length 0 0∧F 5 = .sl m.crs[i].pm 1 (m.crs[i].pts.map qencI)∧F 6 = .int .i64 (k:Nat)∧H'=H) m.crs[i].pts.length ⟨0,by simp,by simp -implicitDefEqProofs only [AA,↓reduceIte,jB],by simp -implicitDefEqProofs only [AA,↓reduceIte,jB],by simp -implicitDefEqProofs only [AA,↓reduceIte]; rfl,rfl⟩ ?_
 rintro n F H' ⟨k,hk,f2,f5,f6,rfl⟩
 simp -implicitDefEqProofs only [BC,A8,BI,BA,AY,BB,AO,AQ,AL,BD,AX,AC,AA,AZ,BG,BR,DU,AB,CW,↓reduceIte,jB,jA,jC,enP,JG,f5,f6,jH]
 refine CU (fun hc => ?_) (fun hc => ?_)
 ·have hk':k < m.crs[i].pts.length:=by simpa using hc
  have hb:=hg.here _ (List.getElem_mem hk')
  have e0:decide (m.crs[i].pts[k] < 0)=false:=by simp; omega
  have e1:decide (m.crs[i].pts[k]≥(m.pts.length:Int))=false:=by simp; omega
  simp -implicitDefEqProofs only [BC,BQ,BO,BA]
  refine EX (by kernel_rfl) ?_
  simp -implicitDefEqProofs only [F6,EF,DZ,FC,EH,FH,GK,UI,FI,I7,FB,IB,D9,EC,I8,A8,BO,BI,BA,EI,EP,D5,AY,BB,CO,AO,AQ,AL,BD,AX,AC,AA,AZ,AU,BH,BM,BG,A7,CP,DR,BN,BR,BJ,BZ,DU,AB,DK,CW,FX,↓reduceIte,jB,jM,jK,jA,jC,enP,PD,GR,JB,f2,f5,f6,DF hk',CX ag3 hk',encI0,e0,OJ gm,jH,e1,wrap_succ (show k < 9223372036854775807 by omega)]
  exact ⟨n - 1,by omega,k+1,by omega,trivial,trivial,rfl,trivial⟩
 ·simp -implicitDefEqProofs only [BC,A8,BK,DI,BA,ED,EU,EW,CJ,AY,BB,AO,AQ,AL,BD,AX,AC,AA,AU,BM,A7,↓reduceIte,jA,jC]
  exact ⟨trivial,hx⟩
theorem ADS (G:Nat→AV) (m:Mo) (i:Nat) (hi:i < m.crs.length) (hg:CrGood m m.crs[i]) (k:Nat) (hk:k < m.crs[i].pts.length) (h:Hp):PCall (En G) 60 [.agg (D8 m),.int .i64 (i:Int),.int .i64 (k:Int)] h (.int .i64 ((F9 m m.crs[i].pts[k]).length:Int)):=by
 refine ACalls.pure0 rfl ?_
 have gm:=CY h (.live 2 [D8 m])
 obtain ⟨s,ls⟩:=hg.here.ld hk (h ++ [ABlk.live 2 [D8 m]])
 refine acN Tryz.func60 rfl ?_
 show awp _ _ _ _ _ (EJ _ [.tmp 6] _)
 simp -implicitDefEqProofs only [BC,A8,BA,AY,BB,AO,AQ,AL,BD,AX,AC,AZ,AU,BH,A7,FD,BU,BF,jA,jC,enP,bxM]
 refine EX (by kernel_rfl) ?_
 simp -implicitDefEqProofs only [F6,EF,DZ,FC,EH,FI,IK,FB,D9,EC,I8,BK,BA,CJ,AO,AA,AZ,BN,BJ,BZ,DU,AB,BF,BP,↓reduceIte,jB,jM,jK,jG,jA,enP,OY,PE,GR,IW,JB,PU,IQ,JD,OJ gm,RI gm,DF hi,CX LQ hi,OT,DF hk,CX ag3 hk,encI0,hg.here.ix hk,ls,jH]
 exact ⟨trivial,_,rfl⟩
theorem AJQ (G:Nat→AV) (m:Mo) (i:Nat) (hi:i < m.crs.length) (hg:CrGood m m.crs[i]) (l:List Int) (s:SM) (hin:JH (szs m m.crs[i].pts) l=true) (h:Hp):PCall (En G) 30 [.agg (D8 m),.int .i64 (i:Int),.sl s 1 (l.map qencI)] h (.tup [.int .i64 (UL (szs m m.crs[i].pts) l 0),.bool true]):=by
 have hfour:=hg.four
 have hsl:=KW m m.crs[i].pts
 have hget:=XQ m m.crs[i].pts
 have hlen:=MC hin
 refine ACalls.pure 2 (R:=fun v H=>v = .tup [.int .i64 (UL (szs m m.crs[i].pts) l 0),.bool true]∧∃ x,H=h ++ x) ?_ (fun v h' ⟨e,x⟩=>⟨x,by subst e; rfl⟩)
 have gm:=CY h (.live 2 [D8 m])
 have hx : ∃ x,h ++ [ABlk.live 2 [D8 m]]=h ++ x:=⟨_,rfl⟩
 refine acN Tryz.func30 rfl ?_
 show awp _ _ _ _ _ (EJ _ [.tmp 6,.tmp 7] _)
 simp -implicitDefEqProofs only [BC,A8,BA,AY,BB,AO,AQ,AL,BD,AX,AC,AA,AZ,AU,CB,BH,BM,BG,A7,FD,BN,CG,BX,BU,AB,BF,BP,jE,jD,jF,↓reduceIte,jB,jA,jC,enP,bxM,ldM gm]
 refine (ABR G m i hi hg _).use ?_
 have hne:((l.length:Int) != (m.crs[i].pts.length:Int))=false:=by rw [← hsl,hlen]; simp
 simp -implicitDefEqProofs only [BC,BQ,A8,BO,BI,BA,D5,AY,BB,BL,BV,CO,EM,AO,AQ,AL,BD,AX,AC,AA,AZ,AU,BH,BM,BG,A7,CP,DR,BN,BR,G7,BJ,BZ,DU,AB,ET,ES,BF,BP,↓reduceIte,jB,jG,jA,jU,jC,enP,PE,IW,JG,JD,RI gm,DF hi,CX LQ hi,OT,jH,hne]
 generalize h ++ [ABlk.live 2 [D8 m]]=H at gm hx ⊢
 generalize szs m m.crs[i].pts=ns at hin hsl hlen hget ⊢
 refine DL (fun n F H' => ∃ k,n+k=l.length∧F 1 = .int .i64 (i:Nat)∧F 2 = .sl s 1 (l.map qencI)∧F 3 = .ptr h.length 0 0∧(∃ z,F 8 = .int .i64 z∧UL ns l 0=UL (ns.drop k) (l.drop k) z)∧F 9 = .int .i64 (k:Nat)∧H'=H) l.length ⟨0,by simp,by simp -implicitDefEqProofs only [AA,BF,BP,↓reduceIte,jB],by simp -implicitDefEqProofs only [AA,BF,BP,↓reduceIte,jB],by simp -implicitDefEqProofs only [AA,↓reduceIte,jB],⟨0,rfl,rfl⟩,by simp -implicitDefEqProofs only [AA,↓reduceIte]; rfl,rfl⟩ ?_
 rintro n F H' ⟨k,hk,f1,f2,f3,⟨z,f8,hz⟩,f9,rfl⟩
 simp -implicitDefEqProofs only [BC,A8,BI,BA,AY,BB,AO,AQ,AL,BD,AX,AC,AA,AZ,BG,BR,DU,AB,CW,↓reduceIte,jB,jA,jC,enP,JG,f2,f9,jH]
 refine CU (fun hc => ?_) (fun hc => ?_)
 ·have hk':k < l.length:=by simpa using hc
  have hkn:k < ns.length:=by omega
  have hkc:k < m.crs[i].pts.length:=by omega
  have hgk:ns[k]=(F9 m m.crs[i].pts[k]).length:=G9 (hget k hkc)
  obtain ⟨h0,h1⟩:=YH hin k hk' hkn
  have d0:decide (l[k] < 0)=false:=by simp; omega
  have d1:decide (l[k]≥(ns[k]:Int))=false:=by simp; omega
  rw [zH hk',zH hkn] at hz
  simp -implicitDefEqProofs only [BC,BQ,A8,BO,BA,AY,AO,AQ,AL,BD,AX,AC,AA,AZ,CB,BG,BN,CG,BX,AB,jE,jD,jF,↓reduceIte,jB,jA,jC,enP,f1,f3,f9,ldM gm]
  refine (ADS G m i hi hg k hkc _).use ?_
  rw [← hgk]
  simp -implicitDefEqProofs only [BC,A8,BO,BI,BA,EI,EP,D5,AY,BB,BL,BV,CO,EM,AO,AQ,AL,BD,AX,AC,AA,AZ,AU,BH,BM,BG,A7,CP,DR,BN,BR,BZ,AB,DK,Q8,CW,FX,↓reduceIte,jB,jA,jC,enP,JB,f2,f8,f9,DF hk',CX ag3 hk',encI0,d0,d1,wrap_succ (show k < 9223372036854775807 by omega)]
  exact ⟨n - 1,by omega,k+1,by omega,f1,trivial,f3,⟨_,rfl,hz⟩,rfl,trivial⟩
 ·have hk' : ¬ k < l.length:=by simpa using hc
  rw [jX (show l.length≤k by omega),YI] at hz
  simp -implicitDefEqProofs only [BC,A8,BK,DI,BA,ED,EU,EW,J3,AY,BB,AO,AQ,AL,BD,AX,AC,AA,AZ,AU,BM,BG,A7,↓reduceIte,jB,jA,jC,f8,hz]
  exact ⟨trivial,hx⟩
theorem AG7 (G:Nat→AV) (m:Mo) (i:Nat) (hi:i < m.crs.length) (hg:CrGood m m.crs[i]) (l:List Int) (s:SM) (hin:JH (szs m m.crs[i].pts) l=true) (h:Hp):PCall (En G) 31 [.agg (D8 m),.int .i64 (i:Int),.sl s 1 (l.map qencI)] h (.bool (!SG m m.crs[i] l)):=by
 refine ACalls.pure0 rfl ?_
 have hh:=hg.here
 have hfour:=hg.four
 have hnum:=hg.num
 have hlen:l.length=m.crs[i].pts.length:=by have:=MC hin; rw [KW] at this; omega
 refine acN Tryz.func31 rfl ?_
 show awp _ _ _ _ _ (EJ _ [.tmp 6] _)
 have t:=Two.mk' h m m.crs[i]
 simp -implicitDefEqProofs only [BC,A8,BA,AY,BB,AO,AQ,AL,BD,AX,AC,AA,AZ,AU,CB,BM,BG,A7,FD,BN,CG,BX,BU,AB,BF,BP,jE,jD,jF,↓reduceIte,jB,jA,jC,enP,bxM,ldM (CY h (.live 2 [D8 m]))]
 refine (AJQ G m i hi hg l s hin _).use ?_
 simp -implicitDefEqProofs only [zL,zQ,BC,BQ,A8,BO,BI,BA,D5,AY,BB,AO,AQ,AL,BD,AX,AC,E8,AA,AZ,AU,BH,BG,A7,FV,BN,EN,G7,BJ,BZ,FY,IP,BU,AB,DW,ES,BF,BP,↓reduceIte,jB,jG,jA,jU,jC,enP,PE,IW,Option.getD_none,RI (CY h (.live 2 [D8 m])),DF hi,FT AHM ABU KZ hi,AVN,ASO _ _ [.str ⟨#[]⟩,.sl .nil 0 [],.sl .nil 0 []] rfl]
 generalize h ++ [ABlk.live 2 [D8 m]] ++ [ABlk.live 3 [G6 m.crs[i]]]=H at t ⊢
 generalize (h ++ [ABlk.live 2 [D8 m]]).length=cb at t ⊢
 have hkb:=VC m m.crs[i].pts l
 refine H7 0 (fun F H'=>F 2 = .sl s 1 (l.map qencI)∧F 3 = .ptr h.length 0 0∧F 9 = .ptr cb 0 0∧H'=H∧(m.crs[i].excl.any fun x=>eqL x.l l)=false) (fun F H'=>F 6 = .bool true∧H'=H∧(m.crs[i].excl.any fun x=>eqL x.l l)=true) ?_ ?_ ?_
 ·refine DL (fun n F H' => ∃ k,n+k=m.crs[i].excl.length∧F 2 = .sl s 1 (l.map qencI)∧F 3 = .ptr h.length 0 0∧F 9 = .ptr cb 0 0∧F 10 = .int .i64 (k:Nat)∧H'=H∧(m.crs[i].excl.any fun x=>eqL x.l l)=((m.crs[i].excl.drop k).any fun x=>eqL x.l l)) m.crs[i].excl.length ⟨0,by simp,by simp -implicitDefEqProofs only [AA,BF,BP,↓reduceIte,jB],by simp -implicitDefEqProofs only [AA,↓reduceIte,jB],by simp -implicitDefEqProofs only [AA,↓reduceIte,jB],by simp -implicitDefEqProofs only [AA,↓reduceIte]; rfl,rfl,rfl⟩ ?_
  rintro n F H' ⟨k,hk,f2,f3,f9,f10,rfl,ha⟩
  simp -implicitDefEqProofs only [BC,A8,BI,BA,AY,BB,AO,AQ,AL,BD,AX,AC,AA,AZ,BG,BN,BR,BJ,DU,AB,CW,↓reduceIte,jB,jG,jA,jC,enP,AMB,RS,f9,f10,t.l2,jH]
  refine CU (fun hc => ?_) (fun hc => ?_)
  ·have hk':k < m.crs[i].excl.length:=by simpa using hc
   have hs:=LD (fun x:Is=>eqL x.l l) m.crs[i].excl k hk'
   simp -implicitDefEqProofs only [BC,BQ,A8,BO,BA,AY,AO,AQ,AL,BD,AX,AC,AA,AZ,CB,BG,BN,BJ,BZ,CG,BX,AB,jE,jD,jF,↓reduceIte,jB,jG,jA,jC,enP,AA6,RS,f2,f9,f10,t.l2,DF hk',CX LQ hk',AKA]
   refine (ALS G m.crs[i].excl[k].l l _ s _ (by omega)).use ?_
   simp -implicitDefEqProofs only [BI,BA,BB,AC,AA,AZ,↓reduceIte]
   cases he:eqL m.crs[i].excl[k].l l
   ·simp -implicitDefEqProofs only [A8,BO,BA,EI,EP,D5,AY,BB,AO,AQ,AL,BD,AX,AC,AA,AZ,AU,BH,BG,A7,BR,AB,DK,↓reduceIte,jB,jA,jC,enP,f10,wrap_succ (show k < 9223372036854775807 by omega)]
    exact ⟨n - 1,by omega,k+1,by omega,f2,f3,f9,rfl,trivial,by rw [ha,hs,he]; rfl⟩
   ·simp -implicitDefEqProofs only [BC,A8,BK,BA,CQ,EE,MS,FK,DT,AY,BB,AO,AQ,AL,BD,AX,AC,AA,AU,BM,A7,↓reduceIte,jA,jC]
    exact ⟨trivial,trivial,by rw [ha,hs,he]; rfl⟩
  ·have hk' : ¬ k < m.crs[i].excl.length:=by simpa using hc
   simp -implicitDefEqProofs only [DI,ED,KQ,EW,AA,↓reduceIte,jB]
   exact ⟨f2,f3,f9,trivial,by rw [ha,jX (by omega)]; rfl⟩
 ·rintro F H' ⟨f2,f3,f9,rfl,ha⟩
  have hhb:SG m m.crs[i] l=MK m m.crs[i].pts l:=by unfold SG; rw [ha]; simp
  rw [hhb]
  simp -implicitDefEqProofs only [BC,BQ,A8,BA,EU,AY,BB,AO,AQ,AL,BD,AX,AC,AU,BH,A7,↓reduceIte,jA,jC]
  refine DL (fun n F H => ∃ k,n+k=l.length∧F 2 = .sl s 1 (l.map qencI)∧F 3 = .ptr h.length 0 0∧F 9 = .ptr cb 0 0∧F 11 = .int .i64 (k:Nat)∧H=H'∧MK m m.crs[i].pts l=MK m (m.crs[i].pts.drop k) (l.drop k)) l.length ⟨0,by simp,by simp -implicitDefEqProofs only [AA,↓reduceIte,jB,f2],by simp -implicitDefEqProofs only [AA,↓reduceIte,jB,f3],by simp -implicitDefEqProofs only [AA,↓reduceIte,jB,f9],by simp -implicitDefEqProofs only [AA,↓reduceIte]; rfl,rfl,rfl⟩ ?_
  clear f2 f3 f9
  rintro n F H' ⟨k,hk,f2,f3,f9,f11,rfl,hk0⟩
  simp -implicitDefEqProofs only [BC,A8,BI,BA,AY,BB,AO,AQ,AL,BD,AX,AC,AA,AZ,BG,BR,DU,AB,CW,↓reduceIte,jB,jA,jC,enP,JG,f2,f11,jH]
  refine CU (fun hc => ?_) (fun hc => ?_)
  ·have hk':k < l.length:=by simpa using hc
   have hkc:k < m.crs[i].pts.length:=by omega
   rw [hkb k hkc hk'] at hk0
   obtain ⟨h0,h1⟩:=VQ hin k hk' hkc
   obtain ⟨s2,ls⟩:=hh.ld hkc H'
   have hlt:l[k].toNat < (F9 m m.crs[i].pts[k]).length:=by omega
   simp -implicitDefEqProofs only [BC,BQ,BO,BA]
   refine EX (by kernel_rfl) ?_
   simp -implicitDefEqProofs only [F6,EF,DZ,FC,EH,FI,FB,IB,D9,EC,BI,BA,AO,AA,AZ,AU,BH,BN,BR,BJ,BZ,AB,ET,↓reduceIte,jB,jM,jK,jG,jA,enP,OY,GR,JB,RJ,IQ,OC,JD,bne,f2,f3,f9,f11,t.lm,t.l1,DF hkc,CX ag3 hkc,DF hk',CX ag3 hk',encI0,hh.ix hkc,ls,ANC h0 h1,CX ag3 hlt,Q3,ADV h0 h1]
   cases hkd:(W9 m m.crs[i].pts[k] l[k] == 0)
   ·simp -implicitDefEqProofs only [BC,A8,BK,BA,CQ,EE,FK,CJ,DT,AY,BB,AO,AQ,AL,BD,AX,AC,AA,AU,BM,A7,↓reduceIte,jA,jC]
    exact ⟨by rw [hk0,hkd]; rfl,t.hx⟩
   ·simp -implicitDefEqProofs only [A8,BO,BA,EI,EP,D5,AY,BB,AO,AQ,AL,BD,AX,AC,AA,AZ,AU,BH,BG,A7,BR,AB,DK,↓reduceIte,jB,jA,jU,jC,enP,f11,wrap_succ (show k < 9223372036854775807 by omega)]
    exact ⟨n - 1,by omega,k+1,by omega,f2,f3,f9,rfl,trivial,by rw [hk0,hkd]; rfl⟩
  ·have hk' : ¬ k < l.length:=by simpa using hc
   simp -implicitDefEqProofs only [BC,A8,BK,DI,BA,ED,EU,EW,CJ,AY,BB,AO,AQ,AL,BD,AX,AC,AA,AU,BM,A7,↓reduceIte,jA,jC]
   exact ⟨by rw [hk0,jX (show l.length≤k by omega),WZ]; rfl,t.hx⟩
 ·rintro F H' ⟨f6,rfl,ha⟩
  simp -implicitDefEqProofs only [CQ,EE,CJ,f6]
  exact ⟨by unfold SG; rw [ha]; simp,t.hx⟩
structure Gl where
 cross:Bool
 idx:Nat
 bm:SM
 bins:List Int
 at_:Nat
def A3B (g:Gl):List AV := [.bool g.cross,.int .i64 (g.idx:Int),.sl g.bm 1 (g.bins.map qencI),.int .i64 (g.at_:Int)]
def A5I (g:Gl):List AV := [.bool g.cross,.int .i64 (g.idx:Int),.sl g.bm 1 (g.bins.map qencI)]
theorem AUJ (g:Gl):(A3B g).length=4:=rfl
def mkP (i k:Nat):Gl:=⟨false,i,.full,[(k:Int)],k⟩
def mkC (m:Mo) (i k:Nat) (c:Cr):Gl:=⟨true,i,.any,SA (szs m c.pts) k,k⟩
def gPk (i:Nat) (p:Pt):Nat→List Gl
 | 0 => []
 | k+1=>gPk i p k ++ (if (kindOf p k == 0)=true then [mkP i k] else [])
def gP (m:Mo):Nat→List Gl
 | 0 => []
 | i+1=>gP m i ++ (match m.pts[i]? with | some p=>gPk i p p.bins.length | none => [])
def gCk (m:Mo) (i:Nat) (c:Cr):Nat→List Gl
 | 0 => []
 | k+1=>gCk m i c k ++ (if SG m c (SA (szs m c.pts) k)=true then [mkC m i k c] else [])
def gC (m:Mo):Nat→List Gl
 | 0=>gP m m.pts.length
 | i+1=>gC m i ++ (match m.crs[i]? with | some c=>gCk m i c (I4 (szs m c.pts)) | none => [])
def goals (m:Mo):List Gl:=gC m m.crs.length
def cellAt (l:List Is) (i k:Nat):Int:=match l[i]? with
 | some x=>(match x.l[k]? with | some z=>z | none=>0)
 | none=>0
def A1A (v:Cvr) (g:Gl):Int:=if g.cross then cellAt v.crs g.idx g.at_ else cellAt v.pts g.idx g.at_
def InL (l:List Is) (i k:Nat):Prop := ∃ hi:i < l.length,k < (l[i]'hi).l.length
theorem AFW {l:List Is} {i k:Nat} (h:InL l i k) : ∃ (hi:i < l.length) (hk:k < l[i].l.length),cellAt l i k=l[i].l[k]:=by
 obtain ⟨hi,hk⟩:=h
 refine ⟨hi,hk,?_⟩
 unfold cellAt
 rw [jO hi]
 simp only
 rw [jO hk]
theorem YL {α:Type} {ok:α→Is→Bool} : ∀ {ws:List α} {xs:List Is},QJ ok ws xs=true→∀ (i:Nat) (a:α),ws[i]? = some a→∃ x,xs[i]? = some x∧ok a x=true
 | [],[],_,i,a,h=>by simp at h
 | w :: ws,x :: xs,h,i,a,ha=>by
   simp only [QJ,jV] at h
   cases i with
   | zero=>simp at ha; subst ha; exact ⟨x,rfl,h.1⟩
   | succ i=>exact YL h.2 i a (by simpa using ha)
 | [],_ :: _,h,_,_,_=>by cases h
 | _ :: _,[],h,_,_,_=>by cases h
theorem AT4 {l:List Is} {i k n:Nat} {x:Is} (hx:l[i]? = some x) (hn:x.l.length=n) (hk:k < n):InL l i k:=by
 obtain ⟨hi,e⟩:=List.getElem?_eq_some_iff.1 hx
 exact ⟨hi,by rw [e]; omega⟩
theorem ldH {h:Hp} {b:Nat} {g:Gl} (hb:h[b]? = some (.live 4 [A3B g])):D6 Tryz.prog h 28 (.ptr b 0 0)=some (.agg (A5I g)):=by
 rw [IE A4J AZ6 hb rfl (by rw [AUJ]; omega)]; rfl
structure Three (h H:Hp) (m:Mo) (a b:Cvr) (ab bb:Nat):Prop where
 gm:H[h.length]? = some (.live 2 [D8 m])
 ga:H[ab]? = some (.live 4 [encV a])
 gb:H[bb]? = some (.live 4 [encV b])
 hx : ∃ x,H=h ++ x
theorem Three.mk' (h:Hp) (m:Mo) (a b:Cvr):Three h (h ++ [.live 2 [D8 m]] ++ [.live 4 [encV a]] ++ [.live 4 [encV b]]) m a b (h ++ [ABlk.live 2 [D8 m]]).length (h ++ [ABlk.live 2 [D8 m]] ++ [ABlk.live 4 [encV a]]).length :=
 ⟨CV (CV (CY _ _)),CV (CY _ _),CY _ _,⟨_,by rw [zF,zF]⟩⟩
def mkB (name:ByteArray) (kind lo hi:Int):Bin:=⟨name,kind,⟨.full,[⟨lo,hi⟩]⟩,.nil,[]⟩
theorem A38 (a b:Int):KR Tryz.prog 88 [(0,.int .i64 a),(1,.int .i64 b)]=some (.agg [.int .i64 a,.int .i64 b]):=by kernel_rfl
theorem A3K (h:Hp) (a b:Int):EZ Tryz.prog false h 53 1 [(0,.agg [.int .i64 a,.int .i64 b])]=some (.sl .full 2 [[.int .i64 a,.int .i64 b]],h):=by kernel_rfl
theorem A5X (s:ByteArray) (k:Int) (xs:List (List AV)):KR Tryz.prog 56 [(0,.str s),(1,.int .i64 k),(2,.sl .full 2 xs)]=some (.agg [.str s,.int .i64 k,.sl .full 2 xs,.sl .nil 0 []]):=by kernel_rfl
def rowB (s:ByteArray) (k lo hi:Int):List AV := [.str s,.int .i64 k,.sl .full 2 [[.int .i64 lo,.int .i64 hi]],.sl .nil 0 []]
theorem A10 (h:Hp) (s:ByteArray) (k lo hi:Int) (row:List AV) (hr:row.length=4):FM Tryz.prog (h ++ [.live 4 [row]]) 56 (.ptr h.length 0 0) (.agg [.str s,.int .i64 k,.sl .full 2 [[.int .i64 lo,.int .i64 hi]],.sl .nil 0 []])=some (h ++ [.live 4 [rowB s k lo hi]]):=by
 have h1:=NI (P:=Tryz.prog) (t:=56) (h:=h) (k:=4) (j:=0) (row:=row) (cs:=rowB s k lo hi) (v := .agg (rowB s k lo hi)) rfl XR (by rw [hr]; exact Nat.le_refl 4)
 have h2:splice row 0 (rowB s k lo hi)=rowB s k lo hi:=by unfold splice; simp [hr,rowB]
 rw [h2] at h1
 exact h1
theorem A5Y (n:Int) (s:ByteArray):KR Tryz.prog 48 [(0,.int .i64 n),(2,.str s)]=some (.agg [.int .i64 n,.int .i64 0,.str s,.sl .nil 0 []]):=by kernel_rfl
theorem A52 (h:Hp):J8 Tryz.prog h 25=some (.ptr h.length 0 0,h ++ [.live 2 [[.sl .nil 0 [],.sl .nil 0 []]]]):=JW (row := [.sl .nil 0 [],.sl .nil 0 []]) (by kernel_rfl)
theorem A3W (xs:List (List AV)):KR Tryz.prog 28 [(2,.sl .full 1 xs)]=some (.agg [.bool false,.int .i64 0,.sl .full 1 xs]):=by kernel_rfl
end Go.Proofs.YtfpagfhhhlljjaaGreatDoor.Cov
