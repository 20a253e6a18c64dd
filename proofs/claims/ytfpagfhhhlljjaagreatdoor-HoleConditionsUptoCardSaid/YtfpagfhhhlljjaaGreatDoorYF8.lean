/- Part 8 of the proof (N1, N2, N3, N4, N7, N8, N10, N12, N13); no condition. -/
import Derived.Test.YtfpagfhhhlljjaaGreatDoorYF7
set_option linter.unusedVariables false
set_option linter.unusedSimpArgs false
set_option maxRecDepth 8000
namespace Go.Proofs.YtfpagfhhhlljjaaGreatDoor.Cov
open Sm Bins Go.RowKit
open Bool renaming not_false→jC,and_eq_true→jX,not_true→jV
open List renaming length_map→jH,map_cons→jD,map_nil→jE,findIdx?_eq_some_iff_getElem→qZ,take_of_length_le→jU,findIdx?_eq_none_iff→wC,append_nil→jF,any_eq_false→wQ,drop_eq_getElem_cons→zN,drop_eq_nil_of_le→jZ,append_assoc→zD,getElem?_cons_zero→zM,getElem?_cons_succ→zO,getElem?_eq_getElem→jO
open Nat renaming le_of_ble_eq_true→jI,reduceEqDiff→jB,add_zero→jM,zero_add→jG,reduceAdd→jP
open Option renaming getD_some→jA
theorem AOH (G:Nat→AV)(xs:List Int)(m:SM)(fid:FuncId)(caps:List AV)(p:Int→Bool)(h:Hp)(hl:xs.length≤1099511627776)
  (hf : ∀ r,PCall (En G) fid (.int .i64 r :: caps) h (.bool (p r))) :
  PCall (En G) 163 [.sl m 1 (xs.map qencI),.fn (.func fid) [] caps] h (.int .i64 (match xs.findIdx? p with | some i=>(i:Int) | none => -1)):=by
 refine acN Tryz.func163 rfl ?_
 show awp _ _ _ _ _ (EJ _ [.tmp 4] _)
 simp -implicitDefEqProofs only[vQ,BD,↓reduceIte,jB,enP,JV,jH]
 refine DK (fun n F H => ∃ k,n+k=xs.length∧F 0 = .sl m 1 (xs.map qencI)∧F 1 = .fn (.func fid) [] caps∧F 7 = .int .i64 xs.length∧F 8 = .int .i64 (k:Nat)∧H=h∧(xs.take k).all (fun r => !p r)=true) xs.length ⟨0,by simp,rfl,rfl,rfl,rfl,rfl,rfl⟩ ?_
 rintro n F H ⟨k,hk,f0,f1,f7,f8,rfl,hin⟩
 simp -implicitDefEqProofs only[vQ,BD,↓reduceIte,enP,f0,f1,f7,f8,jH]
 refine CU (fun hc => ?_) (fun hc => ?_)
 ·have hc':k < xs.length:=by simpa using hc
  simp -implicitDefEqProofs only[vQ,BD,List.nil_append,List.cons_append,↓reduceIte,jB,enP,JJ,f0,f1,f7,f8,DL hc',C9 ag3 hc',encI0]
  refine(hf _).use ?_
  simp -implicitDefEqProofs only[vQ,↓reduceIte]
  refine CU (fun hb => ?_) (fun hb => ?_)
  ·simp -implicitDefEqProofs only[vQ,BD,↓reduceIte,jB]
   refine⟨?_,trivial⟩
   rw[qZ.2 ⟨hc',hb,fun j hj=>by
    rw[List.all_eq_true] at hin
    have:=hin xs[j] (by rw[List.mem_take_iff_getElem]; exact⟨j,by omega,rfl⟩)
    simpa using this⟩]
  ·simp -implicitDefEqProofs only[vQ,BD,↓reduceIte,jB,enP,f8,wrap_succ (show k < 9223372036854775807 by omega)]
   refine⟨n - 1,by omega,k+1,by omega,f0,f1,f7,rfl,trivial,?_⟩
   rw[List.take_succ_eq_append_getElem hc',List.all_append,hin]
   simp only[List.all_cons,List.all_nil,hb]; rfl
 ·have hc' : ¬ k < xs.length:=by simpa using hc
  simp -implicitDefEqProofs only[vQ,BD,↓reduceIte]
  refine⟨?_,trivial⟩
  rw[jU (by omega)] at hin
  rw[wC.2 (by simpa using hin)]
theorem AFU (G:Nat→AV)(xs:List Int)(m:SM)(fid:FuncId)(caps:List AV)(p:Int→Bool)(h:Hp)(hl:xs.length≤1099511627776)
  (hf : ∀ r,PCall (En G) fid (.int .i64 r :: caps) h (.bool (p r))) :
  PCall (En G) 118 [.sl m 1 (xs.map qencI),.fn (.func fid) [] caps] h (.bool (xs.any p)):=by
 refine acN Tryz.func118 rfl ?_
 show awp _ _ _ _ _ (EJ _ [.tmp 4] _)
 simp -implicitDefEqProofs only[vQ,BD,↓reduceIte,jB,enP]
 refine(AOH G xs m fid caps p h hl hf).use ?_
 simp -implicitDefEqProofs only[vQ,BD,↓reduceIte,enP]
 refine⟨?_,trivial⟩
 cases hx:xs.findIdx? p with
 | some i =>
   obtain⟨h1,h2,_⟩:=qZ.1 hx
   have:xs.any p=true:=List.any_eq_true.2 ⟨xs[i],by simp,h2⟩
   simp [this]
 | none =>
   have:xs.any p=false:=by
    rw[wC] at hx
    rw[wQ]; intro x hx2; simp [hx x hx2]
   simp [this]
theorem QF {h:Hp}{b:Nat}{m:Mo}(hb:h[b]? = some (.live 2 [EE m])):D5 Tryz.prog h 22 (.ptr b 0 0)=some (.sl m.pm 6 (m.pts.map GG)):=by rw[DU ZI hb (row:=EE m) rfl,RU]
theorem VM {h:Hp}{b:Nat}{m:Mo}(hb:h[b]? = some (.live 2 [EE m])):D5 Tryz.prog h 23 (.ptr b 0 1)=some (.sl m.cm 3 (m.crs.map G5)):=by rw[DU AAT hb (row:=EE m) rfl,TP]
theorem AN6 (G:Nat→AV)(m:Mo)(b:Nat)(p:Int)(h:Hp)(hb:h[b]? = some (.live 2 [EE m])):PCall (En G) 117 [.int .i64 p,.ptr b 0 0] h (.bool (decide (p < 0) || decide (p≥(m.pts.length:Int)))):=by
 refine acN Tryz.func117 rfl ?_
 show awp _ _ _ _ _ (EJ _ [.tmp 3] _)
 simp -implicitDefEqProofs only[vQ,CO,BD,↓reduceIte,jB,enP]
 cases ha:decide (p < 0)
 ·simp -implicitDefEqProofs only[vQ,Bool.false_or,CO,BD,↓reduceIte,jB,enP,PZ,H7,QF hb,jH]
  exact⟨by simp,trivial⟩
 ·simp -implicitDefEqProofs only[vQ,Bool.true_or,CO,BD,EY,↓reduceIte,jB]
  exact⟨by simp,trivial⟩
theorem AVX {m:Mo}{l:List Int}(hh:Here m l):(l.any fun p=>decide (p < 0) || decide (p≥(m.pts.length:Int)))=false:=by
 rw[wQ]
 intro p hp
 have:=hh p hp
 simp; omega
theorem AA1 (G:Nat→AV)(m:Mo)(i:Nat)(hi:i < m.crs.length)(hg:CrGood m m.crs[i])(h:Hp):PCall (En G) 77 [.agg (EE m),.int .i64 (i:Int)] h (.bool true):=by
 refine ACalls.pure0 rfl ?_
 have hfour:=hg.four
 refine acN Tryz.func77 rfl ?_
 show awp _ _ _ _ _ (EJ _ [.tmp 4] _)
 have d0:decide ((i:Int) < 0)=false:=by simp
 have d1:decide ((i:Int)≥(m.crs.length:Int))=false:=by simp; omega
 simp -implicitDefEqProofs only[vQ,CO,BD,IM,↓reduceIte,jB,enP,QU,XW,JS,JO,bxM,d0,DF AAT,TP,jH,d1,DL hi,C9 MG hi,PU]
 refine(AFU G m.crs[i].pts m.crs[i].pm 117 _ _ _ (by omega) fun r=>AN6 G m _ r _ (CZ _ _)).use ?_
 simp -implicitDefEqProofs only[vQ,BD,↓reduceIte,AVX hg.here]
 exact⟨trivial,_,rfl⟩
theorem ZC (G:Nat→AV)(m:Mo)(i:Nat)(hi:i < m.crs.length)(hg:CrGood m m.crs[i])(h:Hp):PCall (En G) 78 [.agg (EE m),.int .i64 (i:Int)] h (.sl .any 1 ((szs m m.crs[i].pts).map KH)):=by
 have hfour:=hg.four
 have htwo:=hg.two
 have hh:=hg.here
 have hp:PCall (En G) 78 [.agg (EE m),.int .i64 (i:Int)] h (.sl (nm (szs m m.crs[i].pts)) 1 ((szs m m.crs[i].pts).map KH)):=by
  refine N7 A22 ?_
  refine acN Tryz.func78 rfl ?_
  show awp _ _ _ _ _ (EJ _ [.tmp 4] _)
  simp -implicitDefEqProofs only[vQ,BD,↓reduceIte,jB,enP,QU,JS,JV,JO,bxM,DF AAT,TP,DL hi,C9 MG hi,PU,jH]
  refine DK (fun n F H => ∃ k,n+k=m.crs[i].pts.length∧F 2 = .ptr h.length 0 0∧F 13 = .sl m.crs[i].pm 1 (m.crs[i].pts.map qencI)∧F 14 = .int .i64 m.crs[i].pts.length∧F 15 = .int .i64 (k:Nat)∧H[h.length]? = some (.live 2 [EE m])∧ext h H∧(∀ b,isB (F 5) b→h.length < b)∧outG 1 KH h (szs m (m.crs[i].pts.take k)) (F 5) H) m.crs[i].pts.length ⟨0,by simp,by simp -implicitDefEqProofs only[AA,↓reduceIte,jB],by simp -implicitDefEqProofs only[AA,↓reduceIte,jB],by simp -implicitDefEqProofs only[AA,↓reduceIte,jB],by simp -implicitDefEqProofs only[AA,↓reduceIte]; rfl,CZ _ _,(ext.rfl' h).app _,fun b hb=>hb.elim,outG.nil _ _ _ _⟩ ?_
  rintro n F H ⟨k,hk,f2,f13,f14,f15,hb,he,hlt,ho⟩
  simp -implicitDefEqProofs only[vQ,BD,↓reduceIte,enP,f14,f15]
  refine CU (fun hc => ?_) (fun hc => ?_)
  ·have hk':k < m.crs[i].pts.length:=by simpa using hc
   obtain⟨s,ls⟩:=hh.ld hk' H
   have hzl:(szs m (m.crs[i].pts.take k)).length < 8388608:=by unfold szs; simp; omega
   obtain⟨v',H',ha,ho',hkeep,he',hle,hb'⟩:=ho.append XE sz3 ABL AAN (by omega) hzl he (IU m m.crs[i].pts[k]).length
   simp -implicitDefEqProofs only[vQ,BD,↓reduceIte,jB,enP,QG,H7,JJ,QD,I4,f2,f13,f15,DL hk',C9 ag3 hk',encI0,QF hb,hh.ix hk',ls,jH,AO4]
   refine MI (v:=v') (h:=H') (by rw[show [[AV.int .i64 ((IU m m.crs[i].pts[k]).length:Int)]] = [KH (IU m m.crs[i].pts[k]).length] from rfl,ha]) ?_
   simp -implicitDefEqProofs only[vQ,BD,↓reduceIte,jB,enP,f15,wrap_succ (show k < 9223372036854775807 by omega)]
   refine⟨n - 1,by omega,k+1,by omega,f2,f13,f14,rfl,hkeep _ _ hb (fun e=>by have:=hlt _ e; omega),he',fun b hbb => ?_,?_⟩
   ·have:=hb' b hbb; have:=CB hb; omega
   ·rw[AJS m m.crs[i].pts k hk']; exact ho'
  ·have hk' : ¬ k < m.crs[i].pts.length:=by simpa using hc
   rw[jU (by omega)] at ho
   simp -implicitDefEqProofs only[vQ,BD,↓reduceIte,jB]
   exact⟨he,ho⟩
 have hnm:nm (szs m m.crs[i].pts)=SM.any:=by
  have:=LY m m.crs[i].pts
  cases hx:szs m m.crs[i].pts with
  | nil=>rw[hx] at this; simp at this; omega
  | cons a l=>rfl
 rw[hnm] at hp
 exact hp
def U0:List Nat→List Int→Int→Int
 | n :: ns,x :: xs,z=>U0 ns xs (IntKind.i64.wrap (IntKind.i64.wrap (z * (n:Int))+x))
 | _,_,z=>z
theorem YZ (ns:List Nat)(z:Int):U0 ns [] z=z:=by cases ns <;> rfl
theorem ADF : ∀ {ns:List Nat} {l:List Int},JK ns l=true→∀ (k:Nat) (hk:k < l.length) (hp:k < ns.length),0≤l[k]∧l[k] < (ns[k]:Int)
 | n :: ns,b :: bs,h,k,hk,hp=>by
   simp only[JK,jX,decide_eq_true_eq] at h
   cases k with
   | zero=>exact h.1
   | succ k=>exact ADF (ns:=ns) h.2 k (by simpa using hk) (by simpa using hp)
 | [],b :: bs,h,k,hk,hp=>by simp at hp
 | _,[],h,k,hk,hp=>by simp at hk
theorem AIE (G:Nat→AV)(m:Mo)(i:Nat)(hi:i < m.crs.length)(hg:CrGood m m.crs[i])(l:List Int)(s:SM)(hin:JK (szs m m.crs[i].pts) l=true)(h:Hp):PCall (En G) 44 [.agg (EE m),.int .i64 (i:Int),.sl s 1 (l.map qencI)] h (.tup [.int .i64 (U0 (szs m m.crs[i].pts) l 0),.bool true]):=by
 have hfour:=hg.four
 have hsl:=LY m m.crs[i].pts
 have hlen:=NK hin
 refine ACalls.pure 2 (R:=fun v H=>v = .tup [.int .i64 (U0 (szs m m.crs[i].pts) l 0),.bool true]∧∃ x,H=h++x) ?_ (fun v h' ⟨e,x⟩=>⟨x,by subst e; rfl⟩)
 have hx : ∃ x,h++[ABlk.live 2 [EE m]]=h++x:=⟨_,rfl⟩
 refine acN Tryz.func44 rfl ?_
 show awp _ _ _ _ _ (EJ _ [.tmp 6,.tmp 7] _)
 simp -implicitDefEqProofs only[vQ,BD,↓reduceIte,jB,enP,bxM,ldM (CZ h (.live 2 [EE m]))]
 refine(AA1 G m i hi hg _).use ?_
 simp -implicitDefEqProofs only[vQ,BD,↓reduceIte,jB,jV,enP,ldM (CZ h (.live 2 [EE m]))]
 refine(ZC G m i hi hg _).use ?_
 generalize szs m m.crs[i].pts=ns at hin hsl hlen ⊢
 have hne:((l.length:Int) != (ns.length:Int))=false:=by rw[hlen]; simp
 simp -implicitDefEqProofs only[vQ,BD,↓reduceIte,jB,enP,JV,jH,hne]
 refine DK (fun n F H => ∃ k,n+k=l.length∧F 8 = .sl .any 1 (ns.map KH)∧(∃ z,F 9 = .int .i64 z∧U0 ns l 0=U0 (ns.drop k) (l.drop k) z)∧F 24 = .sl s 1 (l.map qencI)∧F 25 = .int .i64 l.length∧F 26 = .int .i64 (k:Nat)∧H=h++[ABlk.live 2 [EE m]]) l.length ⟨0,by simp,by simp -implicitDefEqProofs only[AA,↓reduceIte,jB],⟨0,rfl,rfl⟩,by simp -implicitDefEqProofs only[AA,↓reduceIte,jB],by simp -implicitDefEqProofs only[AA,↓reduceIte,jB],by simp -implicitDefEqProofs only[AA,↓reduceIte]; rfl,rfl⟩ ?_
 rintro n F H ⟨k,hk,f8,⟨z,f9,hz⟩,f24,f25,f26,rfl⟩
 simp -implicitDefEqProofs only[vQ,BD,↓reduceIte,enP,f25,f26]
 refine CU (fun hc => ?_) (fun hc => ?_)
 ·have hk':k < l.length:=by simpa using hc
  have hkn:k < ns.length:=by omega
  obtain⟨h0,h1⟩:=ADF hin k hk' hkn
  have d0:decide (l[k] < 0)=false:=by simp; omega
  have d1:decide (l[k]≥(ns[k]:Int))=false:=by simp; omega
  rw[zN hk',zN hkn] at hz
  simp -implicitDefEqProofs only[vQ,CO,BD,SA,↓reduceIte,jB,enP,JJ,f8,f9,f24,f26,DL hk',C9 ag3 hk',encI0,d0,DL hkn,C9 ag3 hkn,encN0,d1,wrap_succ (show k < 9223372036854775807 by omega)]
  exact⟨n - 1,by omega,k+1,by omega,trivial,⟨_,rfl,hz⟩,trivial,f25,rfl,trivial⟩
 ·have hk' : ¬ k < l.length:=by simpa using hc
  rw[jZ (show l.length≤k by omega),YZ] at hz
  simp -implicitDefEqProofs only[vQ,BD,↓reduceIte,jB,f9,hz]
  exact⟨trivial,hx⟩
theorem ALW (G:Nat→AV)(l:List Int)(s:SM)(b:Nat)(r:Is)(h:Hp)(hb:h[b]? = some (.live 1 [[.sl s 1 (l.map qencI)]]))(hl:l.length≤1099511627776) :
  PCall (En G) 91 [.sl r.m 1 (r.l.map qencI),.ptr b 0 0] h (.bool (eqL r.l l)):=by
 refine acN Tryz.func91 rfl ?_
 show awp _ _ _ _ _ (EJ _ [.tmp 3] _)
 simp -implicitDefEqProofs only[vQ,BD,↓reduceIte,jB,enP,JW MG hb]
 refine(AD3 G r.l l r.m s h hl).use ?_
 simp -implicitDefEqProofs only[vQ,BD,↓reduceIte]
 exact⟨trivial,trivial⟩
theorem AFQ (G:Nat→AV)(m:Mo)(i:Nat)(hi:i < m.crs.length)(hg:CrGood m m.crs[i])(l:List Int)(s:SM)(hin:JK (szs m m.crs[i].pts) l=true)(h:Hp):PCall (En G) 56 [.agg (EE m),.int .i64 (i:Int),.sl s 1 (l.map qencI)] h (.bool (!TI m m.crs[i] l)):=by
 refine ACalls.pure0 rfl ?_
 have hh:=hg.here
 have hfour:=hg.four
 have hnum:=hg.num
 have hlen:l.length=m.crs[i].pts.length:=by have:=NK hin; rw[LY] at this; omega
 refine acN Tryz.func56 rfl ?_
 show awp _ _ _ _ _ (EJ _ [.tmp 6] _)
 have gm:(h++[ABlk.live 2 [EE m]]++[ABlk.live 1 [[.sl s 1 (l.map qencI)]]])[h.length]? = some (.live 2 [EE m]):=CP (CZ _ _)
 have gl:=CZ (h++[ABlk.live 2 [EE m]]) (.live 1 [[.sl s 1 (l.map qencI)]])
 have hx : ∃ x,h++[ABlk.live 2 [EE m]]++[ABlk.live 1 [[.sl s 1 (l.map qencI)]]]=h++x:=⟨_,zD _ _ _⟩
 simp -implicitDefEqProofs only[vQ,AO7,BD,↓reduceIte,jB,enP,bxM]
 generalize h++[ABlk.live 2 [EE m]]++[ABlk.live 1 [[.sl s 1 (l.map qencI)]]]=H at gm gl hx ⊢
 generalize (h++[ABlk.live 2 [EE m]]).length=lb at gl ⊢
 simp -implicitDefEqProofs only[vQ,BD,↓reduceIte,jB,enP,ldM gm,JW MG gl]
 refine(AIE G m i hi hg l s hin _).use ?_
 simp -implicitDefEqProofs only[vQ,zM,zO,BD,↓reduceIte,jB,jV,enP,QU,JS,JV,JO,VM gm,DL hi,C9 MG hi,PU,jH]
 have hkb:=VN m m.crs[i].pts l
 refine G6 0 (fun F H'=>F 1 = .int .i64 (i:Nat)∧F 3 = .ptr h.length 0 0∧F 5 = .ptr lb 0 0∧H'=H∧MZ m m.crs[i].pts l=true) (fun F H'=>F 6 = .bool true∧H'=H∧MZ m m.crs[i].pts l=false) ?_ ?_ ?_
 ·refine DK (fun n F H' => ∃ k,n+k=l.length∧F 1 = .int .i64 (i:Nat)∧F 3 = .ptr h.length 0 0∧F 5 = .ptr lb 0 0∧F 25 = .sl m.crs[i].pm 1 (m.crs[i].pts.map qencI)∧F 26 = .int .i64 m.crs[i].pts.length∧F 27 = .int .i64 (k:Nat)∧H'=H∧MZ m m.crs[i].pts l=MZ m (m.crs[i].pts.drop k) (l.drop k)) l.length ⟨0,by simp,by simp -implicitDefEqProofs only[vQ,↓reduceIte,jB],by simp -implicitDefEqProofs only[AA,↓reduceIte,jB],by simp -implicitDefEqProofs only[AA,↓reduceIte,jB],by simp -implicitDefEqProofs only[AA,↓reduceIte,jB],by simp -implicitDefEqProofs only[AA,↓reduceIte,jB],by simp -implicitDefEqProofs only[AA,↓reduceIte]; rfl,rfl,rfl⟩ ?_
  rintro n F H' ⟨k,hk,f1,f3,f5,f25,f26,f27,rfl,hk0⟩
  simp -implicitDefEqProofs only[vQ,BD,↓reduceIte,enP,f26,f27]
  refine CU (fun hc => ?_) (fun hc => ?_)
  ·have hkc:k < m.crs[i].pts.length:=by simpa using hc
   have hk':k < l.length:=by omega
   rw[hkb k hkc hk'] at hk0
   obtain⟨h0,h1⟩:=WB hin k hk' hkc
   obtain⟨s2,ls⟩:=hh.ld hkc H'
   have hlt:l[k].toNat < (IU m m.crs[i].pts[k]).length:=by omega
   simp -implicitDefEqProofs only[vQ,BD,↓reduceIte,jB,enP,JJ,f25,f27,DL hkc,C9 ag3 hkc,encI0]
   refine ET (by kernel_rfl) ?_
   simp -implicitDefEqProofs only[vQ,↓reduceIte,jB,jP,enP,QG,H7,JJ,TG,I4,NV,bne,f3,f5,f27,QF gm,hh.ix hkc,ls,JW MG gl,DL hk',C9 ag3 hk',encI0,AO8 h0 h1,C9 ag3 hlt,QZ,AEN h0 h1]
   cases hkd:(XY m m.crs[i].pts[k] l[k] == 0)
   ·simp -implicitDefEqProofs only[vQ,BD,↓reduceIte]
    exact⟨trivial,trivial,by rw[hk0,hkd]; rfl⟩
   ·simp -implicitDefEqProofs only[vQ,BD,↓reduceIte,jB,jV,enP,f27,wrap_succ (show k < 9223372036854775807 by omega)]
    exact⟨n - 1,by omega,k+1,by omega,f1,f3,f5,f25,f26,rfl,trivial,by rw[hk0,hkd]; rfl⟩
  ·have hk' : ¬ k < m.crs[i].pts.length:=by simpa using hc
   simp -implicitDefEqProofs only[vQ,↓reduceIte,jB]
   exact⟨f1,f3,f5,trivial,by rw[hk0,jZ (show l.length≤k by omega),XX]⟩
 ·rintro F H' ⟨f1,f3,f5,rfl,hk⟩
  simp -implicitDefEqProofs only[vQ,BD,IM,↓reduceIte,jB,enP,QU,JS,SQ,f1,f3,f5,VM gm,DL hi,C9 UN hi,AQZ]
  refine(Q5 G m.crs[i].excl m.crs[i].xm 91 _ (fun x=>eqL x.l l) _ (by omega) fun r=>ALW G l s _ r _ gl (by omega)).use ?_
  simp -implicitDefEqProofs only[vQ,BD,↓reduceIte]
  exact⟨by unfold TI; rw[hk]; simp,hx⟩
 ·rintro F H' ⟨f6,rfl,hk⟩
  simp -implicitDefEqProofs only[vQ,f6]
  exact⟨by unfold TI; rw[hk]; rfl,hx⟩
theorem ACF (G:Nat→AV)(m:Mo)(i:Nat)(hi:i < m.crs.length)(hg:CrGood m m.crs[i])(h:Hp):PCall (En G) 59 [.agg (EE m),.int .i64 (i:Int)] h (.bool true):=by
 refine ACalls.pure0 rfl ?_
 have hfour:=hg.four
 have gm:=CZ h (.live 2 [EE m])
 have hx : ∃ x,h++[ABlk.live 2 [EE m]]=h++x:=⟨_,rfl⟩
 refine acN Tryz.func59 rfl ?_
 show awp _ _ _ _ _ (EJ _ [.tmp 4] _)
 have d0:decide ((i:Int) < 0)=false:=by simp
 have d1:decide ((i:Int)≥(m.crs.length:Int))=false:=by simp; omega
 simp -implicitDefEqProofs only[vQ,CO,BD,↓reduceIte,jB,enP,QU,XW,JS,JO,bxM,d0,VM gm,jH,d1,DL hi,C9 MG hi,PU]
 generalize h++[ABlk.live 2 [EE m]]=H at gm hx ⊢
 refine DK (fun n F H' => ∃ k,n+k=m.crs[i].pts.length∧F 2 = .ptr h.length 0 0∧F 5 = .sl m.crs[i].pm 1 (m.crs[i].pts.map qencI)∧F 6 = .int .i64 (k:Nat)∧H'=H) m.crs[i].pts.length ⟨0,by simp,by simp -implicitDefEqProofs only[AA,↓reduceIte,jB],by simp -implicitDefEqProofs only[AA,↓reduceIte,jB],by simp -implicitDefEqProofs only[AA,↓reduceIte]; rfl,rfl⟩ ?_
 rintro n F H' ⟨k,hk,f2,f5,f6,rfl⟩
 simp -implicitDefEqProofs only[vQ,BD,↓reduceIte,jB,enP,JV,f5,f6,jH]
 refine CU (fun hc => ?_) (fun hc => ?_)
 ·have hk':k < m.crs[i].pts.length:=by simpa using hc
  have hb:=hg.here _ (List.getElem_mem hk')
  have e0:decide (m.crs[i].pts[k] < 0)=false:=by simp; omega
  have e1:decide (m.crs[i].pts[k]≥(m.pts.length:Int))=false:=by simp; omega
  simp -implicitDefEqProofs only[vQ]
  refine ET (by kernel_rfl) ?_
  simp -implicitDefEqProofs only[vQ,TS,CO,BD,↓reduceIte,jB,jP,enP,PZ,H7,JJ,f2,f5,f6,DL hk',C9 ag3 hk',encI0,e0,QF gm,jH,e1,wrap_succ (show k < 9223372036854775807 by omega)]
  exact⟨n - 1,by omega,k+1,by omega,trivial,trivial,rfl,trivial⟩
 ·simp -implicitDefEqProofs only[vQ,BD,↓reduceIte]
  exact⟨trivial,hx⟩
theorem AEL (G:Nat→AV)(m:Mo)(i:Nat)(hi:i < m.crs.length)(hg:CrGood m m.crs[i])(k:Nat)(hk:k < m.crs[i].pts.length)(h:Hp):PCall (En G) 60 [.agg (EE m),.int .i64 (i:Int),.int .i64 (k:Int)] h (.int .i64 ((IU m m.crs[i].pts[k]).length:Int)):=by
 refine ACalls.pure0 rfl ?_
 have gm:=CZ h (.live 2 [EE m])
 obtain⟨s,ls⟩:=hg.here.ld hk (h++[ABlk.live 2 [EE m]])
 refine acN Tryz.func60 rfl ?_
 show awp _ _ _ _ _ (EJ _ [.tmp 6] _)
 simp -implicitDefEqProofs only[vQ,BD,enP,bxM]
 refine ET (by kernel_rfl) ?_
 simp -implicitDefEqProofs only[vQ,↓reduceIte,jB,jP,enP,QG,QU,H7,JS,JJ,QD,I4,JO,QF gm,VM gm,DL hi,C9 MG hi,PU,DL hk,C9 ag3 hk,encI0,hg.here.ix hk,ls,jH]
 exact⟨trivial,_,rfl⟩
theorem ALH (G:Nat→AV)(m:Mo)(i:Nat)(hi:i < m.crs.length)(hg:CrGood m m.crs[i])(l:List Int)(s:SM)(hin:JK (szs m m.crs[i].pts) l=true)(h:Hp):PCall (En G) 30 [.agg (EE m),.int .i64 (i:Int),.sl s 1 (l.map qencI)] h (.tup [.int .i64 (U0 (szs m m.crs[i].pts) l 0),.bool true]):=by
 have hfour:=hg.four
 have hsl:=LY m m.crs[i].pts
 have hget:=ABX m m.crs[i].pts
 have hlen:=NK hin
 refine ACalls.pure 2 (R:=fun v H=>v = .tup [.int .i64 (U0 (szs m m.crs[i].pts) l 0),.bool true]∧∃ x,H=h++x) ?_ (fun v h' ⟨e,x⟩=>⟨x,by subst e; rfl⟩)
 have gm:=CZ h (.live 2 [EE m])
 have hx : ∃ x,h++[ABlk.live 2 [EE m]]=h++x:=⟨_,rfl⟩
 refine acN Tryz.func30 rfl ?_
 show awp _ _ _ _ _ (EJ _ [.tmp 6,.tmp 7] _)
 simp -implicitDefEqProofs only[vQ,BD,↓reduceIte,jB,enP,bxM,ldM gm]
 refine(ACF G m i hi hg _).use ?_
 have hne:((l.length:Int) != (m.crs[i].pts.length:Int))=false:=by rw[← hsl,hlen]; simp
 simp -implicitDefEqProofs only[vQ,CO,BD,↓reduceIte,jB,jV,enP,QU,JS,JV,JO,VM gm,DL hi,C9 MG hi,PU,jH,hne]
 generalize h++[ABlk.live 2 [EE m]]=H at gm hx ⊢
 generalize szs m m.crs[i].pts=ns at hin hsl hlen hget ⊢
 refine DK (fun n F H' => ∃ k,n+k=l.length∧F 1 = .int .i64 (i:Nat)∧F 2 = .sl s 1 (l.map qencI)∧F 3 = .ptr h.length 0 0∧(∃ z,F 8 = .int .i64 z∧U0 ns l 0=U0 (ns.drop k) (l.drop k) z)∧F 9 = .int .i64 (k:Nat)∧H'=H) l.length ⟨0,by simp,by simp -implicitDefEqProofs only[vQ,↓reduceIte,jB],by simp -implicitDefEqProofs only[vQ,↓reduceIte,jB],by simp -implicitDefEqProofs only[AA,↓reduceIte,jB],⟨0,rfl,rfl⟩,by simp -implicitDefEqProofs only[AA,↓reduceIte]; rfl,rfl⟩ ?_
 rintro n F H' ⟨k,hk,f1,f2,f3,⟨z,f8,hz⟩,f9,rfl⟩
 simp -implicitDefEqProofs only[vQ,BD,↓reduceIte,jB,enP,JV,f2,f9,jH]
 refine CU (fun hc => ?_) (fun hc => ?_)
 ·have hk':k < l.length:=by simpa using hc
  have hkn:k < ns.length:=by omega
  have hkc:k < m.crs[i].pts.length:=by omega
  have hgk:ns[k]=(IU m m.crs[i].pts[k]).length:=IE (hget k hkc)
  obtain⟨h0,h1⟩:=ADF hin k hk' hkn
  have d0:decide (l[k] < 0)=false:=by simp; omega
  have d1:decide (l[k]≥(ns[k]:Int))=false:=by simp; omega
  rw[zN hk',zN hkn] at hz
  simp -implicitDefEqProofs only[vQ,BD,↓reduceIte,jB,enP,f1,f3,f9,ldM gm]
  refine(AEL G m i hi hg k hkc _).use ?_
  rw[← hgk]
  simp -implicitDefEqProofs only[vQ,CO,BD,SA,↓reduceIte,jB,enP,JJ,f2,f8,f9,DL hk',C9 ag3 hk',encI0,d0,d1,wrap_succ (show k < 9223372036854775807 by omega)]
  exact⟨n - 1,by omega,k+1,by omega,f1,trivial,f3,⟨_,rfl,hz⟩,rfl,trivial⟩
 ·have hk' : ¬ k < l.length:=by simpa using hc
  rw[jZ (show l.length≤k by omega),YZ] at hz
  simp -implicitDefEqProofs only[vQ,BD,↓reduceIte,jB,f8,hz]
  exact⟨trivial,hx⟩
theorem AIN (G:Nat→AV)(m:Mo)(i:Nat)(hi:i < m.crs.length)(hg:CrGood m m.crs[i])(l:List Int)(s:SM)(hin:JK (szs m m.crs[i].pts) l=true)(h:Hp):PCall (En G) 31 [.agg (EE m),.int .i64 (i:Int),.sl s 1 (l.map qencI)] h (.bool (!TI m m.crs[i] l)):=by
 refine ACalls.pure0 rfl ?_
 have hh:=hg.here
 have hfour:=hg.four
 have hnum:=hg.num
 have hlen:l.length=m.crs[i].pts.length:=by have:=NK hin; rw[LY] at this; omega
 refine acN Tryz.func31 rfl ?_
 show awp _ _ _ _ _ (EJ _ [.tmp 6] _)
 have t:=Two.mk' h m m.crs[i]
 simp -implicitDefEqProofs only[vQ,BD,↓reduceIte,jB,enP,bxM,ldM (CZ h (.live 2 [EE m]))]
 refine(ALH G m i hi hg l s hin _).use ?_
 simp -implicitDefEqProofs only[vQ,zM,zO,BD,↓reduceIte,jB,jV,enP,QU,JS,Option.getD_none,VM (CZ h (.live 2 [EE m])),DL hi,FM AI5 ACI LM hi,AXJ,AUF _ _ [.str ⟨#[]⟩,.sl .nil 0 [],.sl .nil 0 []] rfl]
 generalize h++[ABlk.live 2 [EE m]]++[ABlk.live 3 [G5 m.crs[i]]]=H at t ⊢
 generalize (h++[ABlk.live 2 [EE m]]).length=cb at t ⊢
 have hkb:=VN m m.crs[i].pts l
 refine G6 0 (fun F H'=>F 2 = .sl s 1 (l.map qencI)∧F 3 = .ptr h.length 0 0∧F 9 = .ptr cb 0 0∧H'=H∧(m.crs[i].excl.any fun x=>eqL x.l l)=false) (fun F H'=>F 6 = .bool true∧H'=H∧(m.crs[i].excl.any fun x=>eqL x.l l)=true) ?_ ?_ ?_
 ·refine DK (fun n F H' => ∃ k,n+k=m.crs[i].excl.length∧F 2 = .sl s 1 (l.map qencI)∧F 3 = .ptr h.length 0 0∧F 9 = .ptr cb 0 0∧F 10 = .int .i64 (k:Nat)∧H'=H∧(m.crs[i].excl.any fun x=>eqL x.l l)=((m.crs[i].excl.drop k).any fun x=>eqL x.l l)) m.crs[i].excl.length ⟨0,by simp,by simp -implicitDefEqProofs only[vQ,↓reduceIte,jB],by simp -implicitDefEqProofs only[AA,↓reduceIte,jB],by simp -implicitDefEqProofs only[AA,↓reduceIte,jB],by simp -implicitDefEqProofs only[AA,↓reduceIte]; rfl,rfl,rfl⟩ ?_
  rintro n F H' ⟨k,hk,f2,f3,f9,f10,rfl,ha⟩
  simp -implicitDefEqProofs only[vQ,BD,↓reduceIte,jB,enP,AOA,SQ,f9,f10,t.l2,jH]
  refine CU (fun hc => ?_) (fun hc => ?_)
  ·have hk':k < m.crs[i].excl.length:=by simpa using hc
   have hs:=LU (fun x:Is=>eqL x.l l) m.crs[i].excl k hk'
   simp -implicitDefEqProofs only[vQ,BD,↓reduceIte,jB,enP,ABQ,SQ,f2,f9,f10,t.l2,DL hk',C9 MG hk',AL2]
   refine(ANP G m.crs[i].excl[k].l l _ s _ (by omega)).use ?_
   simp -implicitDefEqProofs only[vQ,↓reduceIte]
   cases he:eqL m.crs[i].excl[k].l l
   ·simp -implicitDefEqProofs only[vQ,BD,↓reduceIte,jB,enP,f10,wrap_succ (show k < 9223372036854775807 by omega)]
    exact⟨n - 1,by omega,k+1,by omega,f2,f3,f9,rfl,trivial,by rw[ha,hs,he]; rfl⟩
   ·simp -implicitDefEqProofs only[vQ,BD,↓reduceIte]
    exact⟨trivial,trivial,by rw[ha,hs,he]; rfl⟩
  ·have hk' : ¬ k < m.crs[i].excl.length:=by simpa using hc
   simp -implicitDefEqProofs only[vQ,↓reduceIte,jB]
   exact⟨f2,f3,f9,trivial,by rw[ha,jZ (by omega)]; rfl⟩
 ·rintro F H' ⟨f2,f3,f9,rfl,ha⟩
  have hhb:TI m m.crs[i] l=MZ m m.crs[i].pts l:=by unfold TI; rw[ha]; simp
  rw[hhb]
  simp -implicitDefEqProofs only[vQ,BD,↓reduceIte]
  refine DK (fun n F H => ∃ k,n+k=l.length∧F 2 = .sl s 1 (l.map qencI)∧F 3 = .ptr h.length 0 0∧F 9 = .ptr cb 0 0∧F 11 = .int .i64 (k:Nat)∧H=H'∧MZ m m.crs[i].pts l=MZ m (m.crs[i].pts.drop k) (l.drop k)) l.length ⟨0,by simp,by simp -implicitDefEqProofs only[AA,↓reduceIte,jB,f2],by simp -implicitDefEqProofs only[AA,↓reduceIte,jB,f3],by simp -implicitDefEqProofs only[AA,↓reduceIte,jB,f9],by simp -implicitDefEqProofs only[AA,↓reduceIte]; rfl,rfl,rfl⟩ ?_
  clear f2 f3 f9
  rintro n F H' ⟨k,hk,f2,f3,f9,f11,rfl,hk0⟩
  simp -implicitDefEqProofs only[vQ,BD,↓reduceIte,jB,enP,JV,f2,f11,jH]
  refine CU (fun hc => ?_) (fun hc => ?_)
  ·have hk':k < l.length:=by simpa using hc
   have hkc:k < m.crs[i].pts.length:=by omega
   rw[hkb k hkc hk'] at hk0
   obtain⟨h0,h1⟩:=WB hin k hk' hkc
   obtain⟨s2,ls⟩:=hh.ld hkc H'
   have hlt:l[k].toNat < (IU m m.crs[i].pts[k]).length:=by omega
   simp -implicitDefEqProofs only[vQ]
   refine ET (by kernel_rfl) ?_
   simp -implicitDefEqProofs only[vQ,↓reduceIte,jB,jP,enP,QG,H7,JJ,TG,I4,NV,JO,bne,f2,f3,f9,f11,t.lm,t.l1,DL hkc,C9 ag3 hkc,DL hk',C9 ag3 hk',encI0,hh.ix hkc,ls,AO8 h0 h1,C9 ag3 hlt,QZ,AEN h0 h1]
   cases hkd:(XY m m.crs[i].pts[k] l[k] == 0)
   ·simp -implicitDefEqProofs only[vQ,BD,↓reduceIte]
    exact⟨by rw[hk0,hkd]; rfl,t.hx⟩
   ·simp -implicitDefEqProofs only[vQ,BD,↓reduceIte,jB,jV,enP,f11,wrap_succ (show k < 9223372036854775807 by omega)]
    exact⟨n - 1,by omega,k+1,by omega,f2,f3,f9,rfl,trivial,by rw[hk0,hkd]; rfl⟩
  ·have hk' : ¬ k < l.length:=by simpa using hc
   simp -implicitDefEqProofs only[vQ,BD,↓reduceIte]
   exact⟨by rw[hk0,jZ (show l.length≤k by omega),XX]; rfl,t.hx⟩
 ·rintro F H' ⟨f6,rfl,ha⟩
  simp -implicitDefEqProofs only[vQ,f6]
  exact⟨by unfold TI; rw[ha]; simp,t.hx⟩
structure Gl where
 cross:Bool
 idx:Nat
 bm:SM
 bins:List Int
 at_:Nat
def A5D (g:Gl):List AV := [.bool g.cross,.int .i64 (g.idx:Int),.sl g.bm 1 (g.bins.map qencI),.int .i64 (g.at_:Int)]
def A68 (g:Gl):List AV := [.bool g.cross,.int .i64 (g.idx:Int),.sl g.bm 1 (g.bins.map qencI)]
theorem AWC (g:Gl):(A5D g).length=4:=rfl
def mkP (i k:Nat):Gl:=⟨false,i,.full,[(k:Int)],k⟩
def mkC (m:Mo)(i k:Nat)(c:Cr):Gl:=⟨true,i,.any,TB (szs m c.pts) k,k⟩
def gPk (i:Nat)(p:Pt):Nat→List Gl
 | 0 => []
 | k+1=>gPk i p k++(if(kindOf p k == 0)=true then [mkP i k] else [])
def gP (m:Mo):Nat→List Gl
 | 0 => []
 | i+1=>gP m i++(match m.pts[i]? with | some p=>gPk i p p.bins.length | none => [])
def gCk (m:Mo)(i:Nat)(c:Cr):Nat→List Gl
 | 0 => []
 | k+1=>gCk m i c k++(if TI m c (TB (szs m c.pts) k)=true then [mkC m i k c] else [])
def gC (m:Mo):Nat→List Gl
 | 0=>gP m m.pts.length
 | i+1=>gC m i++(match m.crs[i]? with | some c=>gCk m i c (JB (szs m c.pts)) | none => [])
def goals (m:Mo):List Gl:=gC m m.crs.length
def cellAt (l:List Is)(i k:Nat):Int:=match l[i]? with
 | some x=>(match x.l[k]? with | some z=>z | none=>0)
 | none=>0
def A3K (v:Cvr)(g:Gl):Int:=if g.cross then cellAt v.crs g.idx g.at_ else cellAt v.pts g.idx g.at_
def InL (l:List Is)(i k:Nat):Prop := ∃ hi:i < l.length,k < (l[i]'hi).l.length
theorem AHD {l:List Is}{i k:Nat}(h:InL l i k) : ∃ (hi:i < l.length) (hk:k < l[i].l.length),cellAt l i k=l[i].l[k]:=by
 obtain⟨hi,hk⟩:=h
 refine⟨hi,hk,?_⟩
 unfold cellAt
 rw[jO hi]
 simp only
 rw[jO hk]
theorem Y4 {α:Type}{ok:α→Is→Bool} : ∀ {ws:List α} {xs:List Is},QW ok ws xs=true→∀ (i:Nat) (a:α),ws[i]? = some a→∃ x,xs[i]? = some x∧ok a x=true
 | [],[],_,i,a,h=>by simp at h
 | w :: ws,x :: xs,h,i,a,ha=>by
   simp only[QW,jX] at h
   cases i with
   | zero=>simp at ha; subst ha; exact⟨x,rfl,h.1⟩
   | succ i=>exact Y4 h.2 i a (by simpa using ha)
 | [],_ :: _,h,_,_,_=>by cases h
 | _ :: _,[],h,_,_,_=>by cases h
theorem AVU {l:List Is}{i k n:Nat}{x:Is}(hx:l[i]? = some x)(hn:x.l.length=n)(hk:k < n):InL l i k:=by
 obtain⟨hi,e⟩:=List.getElem?_eq_some_iff.1 hx
 exact⟨hi,by rw[e]; omega⟩
theorem ldH {h:Hp}{b:Nat}{g:Gl}(hb:h[b]? = some (.live 4 [A5D g])):D5 Tryz.prog h 28 (.ptr b 0 0)=some (.agg (A68 g)):=by
 rw[GV A6C A2G hb rfl (by rw[AWC]; omega)]; rfl
structure Three (h H:Hp) (m:Mo) (a b:Cvr) (ab bb:Nat):Prop where
 gm:H[h.length]? = some (.live 2 [EE m])
 ga:H[ab]? = some (.live 4 [encV a])
 gb:H[bb]? = some (.live 4 [encV b])
 hx : ∃ x,H=h++x
theorem Three.mk' (h:Hp)(m:Mo)(a b:Cvr):Three h (h++[.live 2 [EE m]]++[.live 4 [encV a]]++[.live 4 [encV b]]) m a b (h++[ABlk.live 2 [EE m]]).length (h++[ABlk.live 2 [EE m]]++[ABlk.live 4 [encV a]]).length :=
 ⟨CP (CP (CZ _ _)),CP (CZ _ _),CZ _ _,⟨_,by rw[zD,zD]⟩⟩
def mkB (name:ByteArray)(kind lo hi:Int):Bin:=⟨name,kind,⟨.full,[⟨lo,hi⟩]⟩,.nil,[]⟩
theorem A52 (a b:Int):KZ Tryz.prog 88 [(0,.int .i64 a),(1,.int .i64 b)]=some (.agg [.int .i64 a,.int .i64 b]):=by kernel_rfl
theorem A5L (h:Hp)(a b:Int):EQ Tryz.prog false h 53 1 [(0,.agg [.int .i64 a,.int .i64 b])]=some (.sl .full 2 [[.int .i64 a,.int .i64 b]],h):=by kernel_rfl
theorem A7N (s:ByteArray)(k:Int)(xs:List (List AV)):KZ Tryz.prog 56 [(0,.str s),(1,.int .i64 k),(2,.sl .full 2 xs)]=some (.agg [.str s,.int .i64 k,.sl .full 2 xs,.sl .nil 0 []]):=by kernel_rfl
def rowB (s:ByteArray)(k lo hi:Int):List AV := [.str s,.int .i64 k,.sl .full 2 [[.int .i64 lo,.int .i64 hi]],.sl .nil 0 []]
theorem A36 (h:Hp)(s:ByteArray)(k lo hi:Int)(row:List AV)(hr:row.length=4):FP Tryz.prog (h++[.live 4 [row]]) 56 (.ptr h.length 0 0) (.agg [.str s,.int .i64 k,.sl .full 2 [[.int .i64 lo,.int .i64 hi]],.sl .nil 0 []])=some (h++[.live 4 [rowB s k lo hi]]):=by
 have h1:=NZ (P:=Tryz.prog) (t:=56) (h:=h) (k:=4) (j:=0) (row:=row) (cs:=rowB s k lo hi) (v := .agg (rowB s k lo hi)) rfl XF (by rw[hr]; exact Nat.le_refl 4)
 have h2:splice row 0 (rowB s k lo hi)=rowB s k lo hi:=by unfold splice; simp [hr,rowB]
 rw[h2] at h1
 exact h1
theorem A7O (n:Int)(s:ByteArray):KZ Tryz.prog 48 [(0,.int .i64 n),(2,.str s)]=some (.agg [.int .i64 n,.int .i64 0,.str s,.sl .nil 0 []]):=by kernel_rfl
theorem A7S (h:Hp):KG Tryz.prog h 25=some (.ptr h.length 0 0,h++[.live 2 [[.sl .nil 0 [],.sl .nil 0 []]]]):=J4 (row := [.sl .nil 0 [],.sl .nil 0 []]) (by kernel_rfl)
theorem A5U (xs:List (List AV)):KZ Tryz.prog 28 [(2,.sl .full 1 xs)]=some (.agg [.bool false,.int .i64 0,.sl .full 1 xs]):=by kernel_rfl
end Go.Proofs.YtfpagfhhhlljjaaGreatDoor.Cov
