/- Part 12 of the proof (R10, R11, R12, R13, R14, R15, R16, R17, R18); no condition. -/
import Derived.Test.YtocilianjfhifaaGreatDoorV11
set_option linter.unusedVariables false
/- The reference's Greedy; no condition but the variables that are laid, the bounds on lengths. -/
set_option linter.unusedSimpArgs false
set_option maxRecDepth 8000
namespace Go.Proofs.YtocilianjfhifaaGreatDoor.Rk
open Go Go.Proofs Go.Proofs.YtocilianjfhifaaGreatDoor.Sm Go.Proofs.YtocilianjfhifaaGreatDoor.Bins Go.Proofs.YtocilianjfhifaaGreatDoor.Cov Go.RowKit

set_option maxHeartbeats 4000000 in
theorem AKI (G:Nat→AV) (m:Mo) (l:List Cvr) (s:SM) (hm:MoOk m) (hl : ∀ v∈l,CvOk v) (hn:l.length≤1048576) (h:Hp) :
  PCall (En G) 56 [.agg (DC m),.sl s 4 (l.map D5)] h (.tup [.sl (nm (grL m l)) 1 ((grL m l).map EU),.int .i64 (GQ m l 1024)]):=by
 have gm:=CQ h (ABlk.live 2 [DC m])
 have hx:ext h (h ++ [ABlk.live 2 [DC m]]):=(ext.rfl' h).app _
 by_cases hz:GQ m l 1024=0
 case neg =>
  have hb:(GQ m l 1024 == 0)=false:=by simpa using hz
  have hgr:grL m l = []:=by unfold grL; rw [if_neg hz]
  rw [hgr]
  refine ACR _ ?_
  refine BX (H:=Hint.none) (enM G) Tryz.func56 rfl (by kernel_rfl) (by kernel_rfl) (Nat.le_of_ble_eq_true (by kernel_rfl)) ?_
  show awp _ _ _ _ _ (EJ _ [.tmp 4,.tmp 5] _)
  simp -implicitDefEqProofs only [A8,AX,AZ,AU,A9,AL,AO,AJ,BA,AR,AC,AA,AY,AQ,BD,EX,A7,EW,BL,BO,BC,↓reduceIte,Nat.reduceEqDiff,Option.getD_some,Bool.not_false,enP,bxM]
  generalize h ++ [ABlk.live 2 [DC m]]=H at gm hx ⊢
  simp -implicitDefEqProofs only [AU,AL,AO,AJ,BA,AR,AC,AA,AY,AQ,BS,BD,BB,BV,BR,AB,BC,BP,List.map_cons,List.map_nil,List.append_nil,↓reduceIte,Nat.reduceEqDiff,Option.getD_some,Bool.not_false,ldM gm]
  refine (OP G m l s 1024 hm hl hn _).use ?_
  simp -implicitDefEqProofs only [A8,AX,BJ,BF,AZ,CJ,F6,DI,AU,A9,AL,AO,AJ,BA,AR,AC,AA,AY,AQ,BD,EX,BB,A7,BN,AB,ED,↓reduceIte,Nat.reduceEqDiff,Option.getD_some,Bool.not_false,enP,bne,hb]
  exact ⟨trivial,hx⟩
 obtain ⟨h1,h2,h3⟩:=I6.1 hz
 have hb:((0:Int) == 0)=true:=rfl
 have hgr:grL m l=KR (goals m) (hits l) l.length l.length []:=by unfold grL; rw [if_pos hz]
 rw [hz]
 refine M6 _ 0 ?_
 refine BX (H:=Hint.none) (enM G) Tryz.func56 rfl (by kernel_rfl) (by kernel_rfl) (Nat.le_of_ble_eq_true (by kernel_rfl)) ?_
 show awp _ _ _ _ _ (EJ _ [.tmp 4,.tmp 5] _)
 simp -implicitDefEqProofs only [A8,AX,AZ,AU,A9,AL,AO,AJ,BA,AR,AC,AA,AY,AQ,BD,EX,A7,EW,BL,BO,BC,↓reduceIte,Nat.reduceEqDiff,Option.getD_some,Bool.not_false,enP,bxM]
 generalize h ++ [ABlk.live 2 [DC m]]=H0 at gm hx ⊢
 simp -implicitDefEqProofs only [AU,AL,AO,AJ,BA,AR,AC,AA,AY,AQ,BS,BD,BB,BV,BR,AB,BC,BP,List.map_cons,List.map_nil,List.append_nil,↓reduceIte,Nat.reduceEqDiff,Option.getD_some,Bool.not_false,ldM gm]
 refine (OP G m l s 1024 hm hl hn _).use ?_
 rw [hz]
 simp -implicitDefEqProofs only [A8,BM,AX,BK,BF,AZ,DL,AU,A9,AL,AO,AJ,BA,AR,AC,AA,AY,AQ,BD,EX,BB,A7,BN,AB,ED,↓reduceIte,Option.getD_some,Bool.not_true,Bool.not_false,enP,bne,hb]
 have lm:=CE gm
 refine CS (fun n F H => ∃ out w,n+out.length=l.length∧F 1 = .sl s 4 (l.map D5)∧F 2 = .ptr h.length 0 0∧F 7=w∧outG 1 EU H0 out w H∧ext H0 H∧(∀ i∈out,i < l.length)∧cnt (goals m) (hits l) l.length out≤l.length - out.length∧KR (goals m) (hits l) l.length l.length []=KR (goals m) (hits l) l.length (l.length - out.length) out) l.length
  ⟨[],_,by simp,by simp -implicitDefEqProofs only [AA,BC,BP,↓reduceIte,Nat.reduceEqDiff],by simp -implicitDefEqProofs only [AA,↓reduceIte,Nat.reduceEqDiff],by simp -implicitDefEqProofs only [AA,↓reduceIte],outG.nil _ _ _ _,ext.rfl' _,by simp,by simpa using AQT _ _ _ _,by simp⟩ ?_
 rintro n F H ⟨out,w,hno,f1,f2,f7,ho,he,hlt,hcn,hgd⟩
 have gm1:=GN he gm
 simp -implicitDefEqProofs only [A8,BM,AX,AU,AL,AO,AJ,BA,AR,AC,AA,AY,BS,BB,BL,BV,BR,AB,List.map_cons,List.map_nil,List.append_nil,↓reduceIte,Nat.reduceEqDiff,Option.getD_some,Bool.not_false,enP,f1,f2,f7,ldM gm1]
 refine (N9 G m l s out w hm hl hn hlt (by omega) H (RN.out ho)).use ?_
 have hfit:=QQ h1 h3 hlt
 have hge : ∀ i (hi:i < l.length),UC m (LF m (sel l out)) l[i]=gain (goals m) (hits l) out i:=fun i hi=>YR h1 h3 hlt hi
 generalize LF m (sel l out)=now at hfit hge ⊢
 have gm2:=C9 (x:=ABlk.live 4 [D5 now]) gm1
 have gT:=ldV (CQ H (ABlk.live 4 [D5 now]))
 have he2:=he.app [ABlk.live 4 [D5 now]]
 have ho2:=ho.app [ABlk.live 4 [D5 now]]
 simp -implicitDefEqProofs only [A8,BM,AX,AZ,AU,A9,AL,AO,AJ,BA,AR,AC,EQ,AA,AY,AQ,BD,A7,FL,EC,BO,DF,↓reduceIte,Nat.reduceEqDiff,Option.getD_some,Bool.not_false,enP,Option.getD_none,KN,OW]
 generalize H ++ [ABlk.live 4 [D5 now]]=H1 at gm2 gT he2 ho2 ⊢
 generalize H.length=nb at gT ⊢
 generalize hfd:gain (goals m) (hits l) out=f at hge hgd ⊢
 refine FO 2 (fun F' H'=>F' 1 = .sl s 4 (l.map D5)∧F' 2 = .ptr h.length 0 0∧F' 7=w∧F' 9 = .int .i64 (L6 f l.length).1∧H'=H1) (fun _ _=>False) ?_ ?_ (fun _ _ hh=>hh.elim)
 ·refine CS (fun n F' H' => ∃ i,n+i=l.length∧F' 1 = .sl s 4 (l.map D5)∧F' 2 = .ptr h.length 0 0∧F' 7=w∧F' 8 = .ptr nb 0 0∧F' 9 = .int .i64 (L6 f i).1∧F' 10 = .int .i64 ((L6 f i).2:Nat)∧F' 11 = .int .i64 (i:Nat)∧H'=H1) l.length ⟨0,by simp,by simp -implicitDefEqProofs only [AA,↓reduceIte,Nat.reduceEqDiff,f1],by simp -implicitDefEqProofs only [AA,↓reduceIte,Nat.reduceEqDiff,f2],by simp -implicitDefEqProofs only [AA,↓reduceIte,Nat.reduceEqDiff,f7],by simp -implicitDefEqProofs only [AA,↓reduceIte,Nat.reduceEqDiff],by simp -implicitDefEqProofs only [AA,↓reduceIte,Nat.reduceEqDiff]; rfl,by simp -implicitDefEqProofs only [AA,↓reduceIte,Nat.reduceEqDiff]; rfl,by simp -implicitDefEqProofs only [AA,↓reduceIte]; rfl,rfl⟩ ?_
  rintro n' F' H' ⟨i,hi,g1,g2,g7,g8,g9,g10,g11,rfl⟩
  simp -implicitDefEqProofs only [A8,AX,BF,AZ,AU,A9,AL,AO,AJ,BA,AR,AC,AA,AY,BB,BN,C8,AB,CO,↓reduceIte,Nat.reduceEqDiff,Option.getD_some,Bool.not_false,enP,OY,g1,g11,List.length_map]
  refine CG (fun hc => ?_) (fun hc => ?_)
  ·have hi':i < l.length:=by simpa using hc
   have hcall:=VL G m now l[i] hm (NC hfit) (hl _ (List.getElem_mem hi')) H'
   rw [hge i hi'] at hcall
   simp -implicitDefEqProofs only [A8,BM,BK,AZ]
   refine EG (by kernel_rfl) ?_
   simp -implicitDefEqProofs only [FJ,DT,CZ,EO,DV,ET,GM,EN,DN,FP,FD,A8,AX,AZ,AU,AL,AO,AJ,BA,AR,AC,AA,AY,BS,BB,BL,BN,BU,AB,List.map_cons,List.map_nil,List.append_nil,↓reduceIte,Nat.reduceEqDiff,Nat.reduceAdd,Option.getD_some,Bool.not_false,enP,X6,g1,g2,g8,g11,ldM gm2,gT,CW hi',ES V6 PY JQ hi']
   refine ⟨_,hcall,?_⟩
   try simp -implicitDefEqProofs only [BF,AZ,A9,AC,AA,AY,AB,EK,↓reduceIte,g10]
   refine CG (fun hg => ?_) (fun hg => ?_)
   ·have hg':f i > (L6 f i).2:=by simp at hg; omega
    have e:L6 f (i+1)=((i:Int),f i):=by rw [L6,if_pos hg']
    simp -implicitDefEqProofs only [A8,AX,AZ,DU,DZ,AU,A9,AL,AO,AJ,BA,AR,AC,AA,AY,AQ,BD,BB,A7,BN,AB,CR,↓reduceIte,Nat.reduceEqDiff,Option.getD_some,Bool.not_false,enP,g11,CB (show i < 9223372036854775807 by omega)]
    exact ⟨n' - 1,by omega,i+1,by omega,g1,g2,g7,g8,by rw [e],by rw [e],rfl,trivial⟩
   ·have hg' : ¬ f i > (L6 f i).2:=by simp at hg; omega
    have e:L6 f (i+1)=L6 f i:=by rw [L6,if_neg hg']
    simp -implicitDefEqProofs only [AX,BK,AZ,DU,DZ,AU,A9,AL,AO,AJ,BA,AR,AC,AA,AY,AQ,BD,BB,A7,BN,AB,CR,↓reduceIte,Nat.reduceEqDiff,Option.getD_some,Bool.not_false,enP,g11,CB (show i < 9223372036854775807 by omega)]
    exact ⟨n' - 1,by omega,i+1,by omega,g1,g2,g7,g8,by rw [e]; exact g9,by rw [e]; exact g10,rfl,trivial⟩
  ·have hi':i=l.length:=by
    have : ¬ i < l.length:=by simpa using hc
    omega
   subst hi'
   simp -implicitDefEqProofs only [CU,DR,II,EF,AA,↓reduceIte,Nat.reduceEqDiff]
   exact ⟨g1,g2,g7,g9,trivial⟩
 ·rintro F' H' ⟨g1,g2,g7,g9,rfl⟩
  obtain ⟨b1,b2⟩:=AH3 f l.length
  by_cases hst:l.length=0∨f (IJ f l.length)=0
  ·have b3:(L6 f l.length).2=0:=by
    rw [b1]; split
    ·rfl
    ·rcases hst with e | e
     ·omega
     ·exact e
   have b4:(L6 f l.length).1 = -1:=by rw [b2,if_pos b3]
   have hd:decide ((-1:Int) < 0)=true:=rfl
   rw [b4] at g9
   rw [← hfd] at hst
   have:=AGZ (goals m) (hits l) l.length (out:=out) hst (l.length - out.length)
   simp -implicitDefEqProofs only [A8,AX,BJ,BF,AZ,CJ,D6,EB,EZ,F6,DI,AU,A9,AL,AO,AJ,BA,AR,AC,AA,AY,AQ,BD,BB,A7,BN,AB,CO,↓reduceIte,Nat.reduceEqDiff,Option.getD_some,Bool.not_false,enP,g9,hd,g7]
   exact ⟨hx.trans he2,_,rfl,by rw [hgr,hgd,this]; exact ho2.base hx.le⟩
  ·have h0:0 < l.length:=by omega
   have hfa:f (IJ f l.length)≠0:=fun e=>hst (.inr e)
   have hal:=OQ f l.length h0
   have b3:(L6 f l.length).2≠0:=by rw [b1,if_neg (by omega)]; exact hfa
   have b4:(L6 f l.length).1=((IJ f l.length:Nat):Int):=by rw [b2,if_neg b3]
   have hcl:=cnt_lt (goals m) (hits l) l.length (out:=out) hal (by rw [hfd]; exact hfa)
   obtain ⟨fu,hfu⟩ : ∃ fu,l.length - out.length=fu+1:=⟨l.length - out.length - 1,by omega⟩
   rw [hfu,KR,hfd,if_neg hst] at hgd
   rw [b4] at g9
   generalize IJ f l.length=a at hal hcl hgd g9 ⊢
   have hd:decide (((a:Nat):Int) < 0)=false:=by rw [decide_eq_false_iff_not]; omega
   obtain ⟨w',H2,hap,ho3,_,he3,_,_⟩:=ho2.append ML sz3 RV RF (by omega) (by omega) he2 a
   simp -implicitDefEqProofs only [E8,FI,A8,AX,BK,BF,AZ,EB,DL,AU,A9,AL,AO,AJ,BA,AR,AC,AA,AY,AQ,BD,BB,EA,BN,FT,BO,AB,CO,↓reduceIte,Nat.reduceEqDiff,Option.getD_some,Bool.not_false,enP,g7,g9,hd,U1]
   refine FK (v:=w') (h:=H2) hap ?_
   simp -implicitDefEqProofs only [DU,DZ,AU,A9,AL,AO,AJ,BA,AR,AC,AA,AY,A7,↓reduceIte,Nat.reduceEqDiff,Option.getD_some,Bool.not_false]
   refine ⟨n - 1,by omega,out ++ [a],w',by simp; omega,g1,g2,rfl,ho3,he3,fun i hi => ?_,by simp; omega,?_⟩
   ·rcases List.mem_append.1 hi with hi | hi
    ·exact hlt i hi
    ·simp at hi; omega
   ·rw [hgd]
    congr 1
    simp; omega
end Go.Proofs.YtocilianjfhifaaGreatDoor.Rk
/- Gains of both sides; no condition but the variables that are laid, the bounds on lengths, and cover.tuple's contract. -/
set_option linter.unusedSimpArgs false
set_option maxRecDepth 8000
namespace Go.Proofs.YtocilianjfhifaaGreatDoor.Rk
open Go Go.Proofs Go.Proofs.YtocilianjfhifaaGreatDoor.Sm Go.Proofs.YtocilianjfhifaaGreatDoor.Bins Go.Proofs.YtocilianjfhifaaGreatDoor.Cov Go.RowKit

/-- is this index of an order in order? -/
def AI4 (n:Nat) (xs:List Int) (i:Nat):Bool := !decide (xs.getD i 0 < 0) && !decide (xs.getD i 0≥(n:Int)) && !hasB (xs.take i) (xs.getD i 0)
def SB (n:Nat) (xs:List Int):Bool:=(List.range xs.length).all fun i=>AI4 n xs i
theorem QD {n:Nat} {xs:List Int}:SB n xs=true↔∀ i,i < xs.length→AI4 n xs i=true:=by
 unfold SB
 rw [List.all_eq_true]
 simp only [List.mem_range]
theorem YM {n:Nat} {xs:List Int} {i:Nat} (hi:i < xs.length):AI4 n xs i=(!decide (xs[i] < 0) && !decide (xs[i]≥(n:Int)) && !hasB (xs.take i) xs[i]):=by
 have e:xs.getD i 0=xs[i]:=by simp [List.getD_eq_getElem?_getD,hi]
 unfold AI4
 rw [e]
def gnE (m:Mo) (l:List Cvr) (xs:List Int):Int:=if GQ m l 1024≠0 then GQ m l 1024 else if SB l.length xs=true then 0 else 1
def gnL (m:Mo) (l:List Cvr) (xs:List Int):List Nat:=if gnE m l xs=0 then gains (goals m) (hits l) (xs.map Int.toNat) else []
theorem AAE {m:Mo} {l:List Cvr} {xs:List Int}:gnE m l xs=0↔GQ m l 1024=0∧SB l.length xs=true:=by
 unfold gnE
 split
 ·rename_i h; exact ⟨fun e=>absurd e h,fun e=>absurd e.1 h⟩
 ·rename_i h
  have h':GQ m l 1024=0:=by simpa using h
  split
  ·rename_i h2; exact ⟨fun _=>⟨h',h2⟩,fun _=>rfl⟩
  ·rename_i h2; exact ⟨fun e=>by omega,fun e=>absurd e.2 h2⟩
theorem AAF (γ:Type) (gs:List γ) (P:Nat→γ→Bool) (o:List Nat) (k:Nat) (hk:k < o.length):gains gs P (o.take (k+1))=gains gs P (o.take k) ++ [gain gs P (o.take k) o[k]]:=by
 rw [List.take_succ_eq_append_getElem hk,AC0]
theorem ACP {n:Nat} {xs:List Int} (h:SB n xs=true):(xs.map Int.toNat).map EU=xs.map encI∧∀ i∈xs.map Int.toNat,i < n:=by
 rw [QD] at h
 have hb : ∀ z∈xs,0≤z∧z < (n:Int):=fun z hz=>by
  obtain ⟨i,hi,rfl⟩:=List.getElem_of_mem hz
  have:=h i hi
  rw [YM hi] at this
  simp at this
  omega
 refine ⟨?_,fun i hi => ?_⟩
 ·rw [List.map_map]
  refine List.map_congr_left fun z hz => ?_
  have:=hb z hz
  show [AV.int .i64 ((z.toNat:Nat):Int)] = [AV.int .i64 z]
  rw [Int.toNat_of_nonneg this.1]
 ·obtain ⟨z,hz,rfl⟩:=List.mem_map.1 hi
  have:=hb z hz
  omega
theorem M7 {n:Nat} {xs:List Int} {i:Nat} (hi:i < xs.length) (h:AI4 n xs i=false):SB n xs=false:=by
 rw [← Bool.not_eq_true]
 intro e
 rw [QD.1 e i hi] at h; cases h
set_option maxHeartbeats 4000000 in
theorem RJ (G:Nat→AV) (hG:GOk G) (hT:I4 G) (m:Mo) (l:List Cvr) (s t:SM) (xs:List Int) (hm:MoOk m) (hl : ∀ v∈l,CvOk v) (hn:l.length≤1048576) (hxn:xs.length≤1048576) (h:Hp) :
  PCall (En G) 57 [.agg (DC m),.sl s 4 (l.map D5),.sl t 1 (xs.map encI)] h (.tup [.sl (nm (gnL m l xs)) 1 ((gnL m l xs).map EU),.int .i64 (gnE m l xs)]):=by
 have gm:=CQ h (ABlk.live 2 [DC m])
 have hx:ext h (h ++ [ABlk.live 2 [DC m]]):=(ext.rfl' h).app _
 refine M6 _ _ ?_
 refine BX (H:=Hint.none) (enM G) Tryz.func57 rfl (by kernel_rfl) (by kernel_rfl) (Nat.le_of_ble_eq_true (by kernel_rfl)) ?_
 show awp _ _ _ _ _ (EJ _ [.tmp 6,.tmp 7] _)
 simp -implicitDefEqProofs only [A8,AX,AZ,AU,A9,AL,AO,AJ,BA,AR,AC,AA,AY,AQ,BD,EX,A7,EW,BL,BO,BC,↓reduceIte,Nat.reduceEqDiff,Option.getD_some,Bool.not_false,enP,bxM]
 generalize h ++ [ABlk.live 2 [DC m]]=H at gm hx ⊢
 simp -implicitDefEqProofs only [AU,AL,AO,AJ,BA,AR,AC,AA,AY,AQ,BS,BD,BB,BV,BR,AB,BC,BP,List.map_cons,List.map_nil,List.append_nil,↓reduceIte,Nat.reduceEqDiff,Option.getD_some,Bool.not_false,ldM gm]
 refine (MG G hG hT m l s 1024 hm hl hn _).use ?_
 simp -implicitDefEqProofs only [List.getElem?_cons_zero,List.getElem?_cons_succ,A8,AX,BF,AZ,AU,A9,AL,AO,AJ,BA,AR,AC,AA,AY,AQ,BD,BB,A7,BN,D8,FB,AB,ED,↓reduceIte,Nat.reduceEqDiff,Option.getD_some,Bool.not_false,enP,bne]
 by_cases hz:GQ m l 1024=0
 case neg =>
  have hb:(GQ m l 1024 == 0)=false:=by simpa using hz
  have hge:gnE m l xs=GQ m l 1024:=by unfold gnE; rw [if_pos hz]
  have hgl:gnL m l xs = []:=by unfold gnL; rw [if_neg (by rw [hge]; exact hz)]
  simp -implicitDefEqProofs only [A8,AX,BJ,AZ,CJ,F6,DI,AU,A9,AL,AO,AJ,BA,AR,AC,AA,AY,AQ,EX,BB,A7,↓reduceIte,Nat.reduceEqDiff,Option.getD_some,Bool.not_false,hb]
  exact ⟨hx,_,by rw [hge],by rw [hgl]; exact outG.nil _ _ _ _⟩
 obtain ⟨h1,h2,h3⟩:=I6.1 hz
 have hgl:=J4 (JF h1)
 have hb:((0:Int) == 0)=true:=rfl
 have hop:opL m l 1024=IW m l:=by unfold opL; rw [if_pos hz]
 rw [hop,hz]
 generalize opM m l 1024=om
 have hvl:=NK m l
 simp -implicitDefEqProofs only [A8,BM,AX,BK,AZ,DL,AU,A9,AL,AO,AJ,BA,AR,AC,AA,AY,AQ,BD,BB,C8,AB,BC,BP,↓reduceIte,Nat.reduceEqDiff,Option.getD_some,Bool.not_true,Bool.not_false,enP,GV,hb,List.length_map]
 refine FO 0 (fun F H'=>F 2 = .sl t 1 (xs.map encI)∧F 8 = .sl om 1 ((IW m l).map IC)∧H'=H∧SB l.length xs=true) (fun F H'=>F 6 = .sl .nil 0 []∧F 7 = .int .i64 1∧H'=H∧SB l.length xs=false) ?_ ?_ ?_
 ·refine CS (fun n F H' => ∃ i,n+i=xs.length∧F 2 = .sl t 1 (xs.map encI)∧F 8 = .sl om 1 ((IW m l).map IC)∧F 25 = .sl t 1 (xs.map encI)∧F 26 = .int .i64 (xs.length:Nat)∧F 27 = .int .i64 (i:Nat)∧H'=H∧∀ j,j < i→AI4 l.length xs j=true) xs.length
   ⟨0,by simp,by simp -implicitDefEqProofs only [AA,BC,BP,↓reduceIte,Nat.reduceEqDiff],by simp -implicitDefEqProofs only [AA,↓reduceIte,Nat.reduceEqDiff],by simp -implicitDefEqProofs only [AA,↓reduceIte,Nat.reduceEqDiff],by simp -implicitDefEqProofs only [AA,↓reduceIte,Nat.reduceEqDiff],by simp -implicitDefEqProofs only [AA,↓reduceIte]; rfl,rfl,fun j hj=>absurd hj (by omega)⟩ ?_
  rintro n F H' ⟨i,hi,f2,f8,f25,f26,f27,rfl,hok⟩
  simp -implicitDefEqProofs only [A8,AX,BF,AZ,AU,A9,AL,AO,AJ,BA,AR,AC,AA,AY,BN,AB,CO,↓reduceIte,Option.getD_some,Bool.not_false,enP,f26,f27]
  refine CG (fun hc => ?_) (fun hc => ?_)
  ·have hi':i < xs.length:=by simpa using hc
   have hat:=YM (n:=l.length) hi'
   have hcall:=AB4 G (xs.take i) (ANU t i xs.length) xs[i] H' (by rw [List.length_take]; omega)
   have hsl:=AKR ML sz3 (h:=H') (m:=t) (kk := .i64) (xs:=xs.map encI) (u:=i) (by rw [List.length_map]; omega)
   rw [← List.map_take,List.length_map] at hsl
   simp -implicitDefEqProofs only [A8,BM,AX,BK,AZ,AU,A9,BH,BQ,BZ,AL,AO,AJ,BA,AR,AC,AA,AY,AQ,BD,BB,A7,BL,BN,BU,AB,CO,↓reduceIte,Nat.reduceEqDiff,Option.getD_some,Bool.not_false,enP,IL,f25,f27,CW hi',CP ag3 hi',Cov.encI0]
   cases ha:decide (xs[i] < 0)
   ·rw [ha] at hat
    simp -implicitDefEqProofs only [AU,BH,BQ,BZ,EH,AL,AO,AJ,BA,AR,AC,AA,AY,AQ,BI,BB,CF,DK,BN,C8,AB,F3,↓reduceIte,Nat.reduceEqDiff,Option.getD_some,Bool.not_false,enP,O0,f8,List.length_map,hvl]
    cases hb2:decide (xs[i]≥((l.length:Nat):Int))
    ·rw [hb2] at hat
     simp -implicitDefEqProofs only [Option.map_some,Option.map_none,BH,BQ,BZ,EH,AL,AO,AJ,BA,AR,AC,AA,AY,BS,BB,PL,BV,BR,AB,List.map_cons,List.map_nil,List.append_nil,↓reduceIte,Nat.reduceEqDiff,Option.getD_some,Bool.not_false,enP,f2,hsl]
     refine hcall.use ?_
     simp -implicitDefEqProofs only [BF,AZ,AU,A9,AL,AO,AJ,BA,AR,AC,AA,AY,AQ,BI,CF,DK,↓reduceIte,Nat.reduceEqDiff,Option.getD_some,Bool.not_false]
     cases hd:hasB (xs.take i) xs[i]
     ·rw [hd] at hat
      simp -implicitDefEqProofs only [AX,BK,AZ,DU,DZ,DL,AU,A9,AL,AO,AJ,BA,AR,AC,AA,AY,AQ,BD,BB,BN,AB,CR,↓reduceIte,Nat.reduceEqDiff,Option.getD_some,Bool.not_false,enP,f27,CB (show i < 9223372036854775807 by omega)]
      refine ⟨n - 1,by omega,i+1,by omega,f2,f8,f25,f26,rfl,trivial,fun j hj => ?_⟩
      rcases Nat.eq_or_lt_of_le (Nat.le_of_lt_succ hj) with e | hj'
      ·subst e; exact hat
      ·exact hok j hj'
     ·rw [hd] at hat
      simp -implicitDefEqProofs only [A8,AX,BJ,AZ,CJ,D6,KC,EZ,DI,AU,A9,AL,AO,AJ,BA,AR,AC,AA,AQ,BD,EX,A7,↓reduceIte,Nat.reduceEqDiff,Option.getD_some,Bool.not_false]
      exact ⟨trivial,trivial,trivial,M7 hi' hat⟩
    ·rw [hb2] at hat
     simp -implicitDefEqProofs only [A8,AX,BJ,BF,AZ,CJ,D6,KC,EZ,DI,AU,A9,BH,BQ,BZ,FN,AL,AO,AJ,BA,AR,AC,AA,EM,AY,AQ,BD,BI,EX,A7,CF,DJ,↓reduceIte,Nat.reduceEqDiff,Option.getD_some,Bool.not_false]
     exact ⟨trivial,trivial,trivial,M7 hi' hat⟩
   ·rw [ha] at hat
    simp -implicitDefEqProofs only [A8,AX,BJ,BF,AZ,CJ,D6,KC,EZ,DI,AU,A9,BH,BQ,BZ,FN,AL,AO,AJ,BA,AR,AC,AA,EM,AY,AQ,BD,BI,EX,BB,A7,CF,DJ,↓reduceIte,Nat.reduceEqDiff,Option.getD_some,Bool.not_false]
    exact ⟨trivial,trivial,trivial,M7 hi' hat⟩
  ·have hi':i=xs.length:=by
    have : ¬ i < xs.length:=by simpa using hc
    omega
   subst hi'
   simp -implicitDefEqProofs only [CU,DR,II,EF,AA,↓reduceIte,Nat.reduceEqDiff]
   exact ⟨f2,f8,trivial,QD.2 fun j hj=>hok j hj⟩
 ·rintro F H' ⟨f2,f8,rfl,hok⟩
  have hge:gnE m l xs=0:=AAE.2 ⟨hz,hok⟩
  have hgn:gnL m l xs=gains (goals m) (hits l) (xs.map Int.toNat):=by unfold gnL; rw [if_pos hge]
  obtain ⟨e1,hlt⟩:=ACP hok
  have hol:(xs.map Int.toNat).length=xs.length:=by rw [List.length_map]
  rw [hge,hgn]
  rw [← e1] at f2
  generalize xs.map Int.toNat=o at f2 hlt hol ⊢
  clear e1 hgn hge
  simp -implicitDefEqProofs only [A8,AX,AZ,EB,AU,A9,AL,AO,AJ,BA,AR,AC,AA,AY,AQ,BS,EX,BB,A7,BV,BR,List.map_cons,List.map_nil,List.append_nil,↓reduceIte,Nat.reduceEqDiff,Option.getD_some,Bool.not_false,f8]
  rcases Nat.eq_zero_or_pos l.length with hl0 | hl0
  ·have:l = []:=List.eq_nil_of_length_eq_zero hl0
   subst this
   have ho0:o = []:=by
    cases o with
    | nil=>rfl
    | cons a b=>exact absurd (hlt a (by simp)) (by simp)
   subst ho0
   have hv0:IW m [] = []:=rfl
   have hltd:decide (((0:Nat):Int) < ((0:Nat):Int))=false:=rfl
   simp -implicitDefEqProofs only [List.map_nil,hv0]
   refine (VE G om _).use ?_
   simp -implicitDefEqProofs only [A8,BM,AX,AZ,AU,A9,AL,AO,AJ,BA,AR,AC,AA,AY,AQ,BD,BB,A7,C8,AB,List.map_nil,↓reduceIte,Nat.reduceEqDiff,Option.getD_some,Bool.not_false,enP,GV,f2,List.length_nil]
   refine CS (fun n F H1=>F 12 = .sl .nil 0 []∧F 51 = .int .i64 ((0:Nat):Int)∧F 52 = .int .i64 ((0:Nat):Int)∧H1=H') 0 ⟨by simp -implicitDefEqProofs only [AA,↓reduceIte,Nat.reduceEqDiff],by simp -implicitDefEqProofs only [AA,↓reduceIte,Nat.reduceEqDiff],by simp -implicitDefEqProofs only [AA,↓reduceIte]; rfl,rfl⟩ ?_
   rintro n F1 H1 ⟨g12,g51,g52,rfl⟩
   simp -implicitDefEqProofs only [A8,AX,BJ,CU,BF,AZ,DR,EB,EF,F6,DL,AU,A9,AL,AO,AJ,BA,AR,AC,AA,AY,AQ,BD,BB,A7,BN,AB,CO,↓reduceIte,Nat.reduceEqDiff,Option.getD_some,Bool.not_false,enP,g51,g52,hltd,g12]
   exact ⟨hx,_,rfl,outG.nil _ _ _ _⟩
  refine ACalls.mono (QE G m l om H' hl0 hn (by omega)) ?_
  rintro v H0 ⟨rfl,rfl⟩
  have hs0:=CQ H' (ABlk.live 1 ((IB m l []).map FU))
  have hx0:ext h (H' ++ [ABlk.live 1 ((IB m l []).map FU)]):=hx.app _
  have hsl:H'.length < (H' ++ [ABlk.live 1 ((IB m l []).map FU)]).length:=by simp
  generalize H' ++ [ABlk.live 1 ((IB m l []).map FU)]=H0 at hs0 hx0 hsl ⊢
  have hsb:=hx.le
  generalize H'.length=sb at hs0 hsl hsb ⊢
  simp -implicitDefEqProofs only [A8,BM,AX,AZ,AU,A9,AL,AO,AJ,BA,AR,AC,AA,AY,AQ,BD,BB,A7,C8,AB,↓reduceIte,Nat.reduceEqDiff,Option.getD_some,Bool.not_false,enP,GV,f2,List.length_map]
  refine FO 2 (fun F H=>outG 1 EU H0 (gains (goals m) (hits l) o) (F 12) H∧ext h H) (fun _ _=>False) ?_ ?_ (fun _ _ hh=>hh.elim)
  ·refine CS (fun n F H => ∃ k w,n+k=o.length∧F 8 = .sl om 1 ((IW m l).map IC)∧F 12=w∧outG 1 EU H0 (gains (goals m) (hits l) (o.take k)) w H∧F 13 = .own sb 0 (goals m).length∧F 50 = .sl t 1 (o.map EU)∧F 51 = .int .i64 (o.length:Nat)∧F 52 = .int .i64 (k:Nat)∧H[sb]? = some (ABlk.live 1 ((IB m l (o.take k)).map FU))∧ext h H∧H0.length≤H.length) o.length
    ⟨0,.sl .nil 0 [],by simp,by simp -implicitDefEqProofs only [AA,↓reduceIte,Nat.reduceEqDiff,f8],by simp -implicitDefEqProofs only [AA,↓reduceIte,Nat.reduceEqDiff],by rw [List.take_zero]; exact outG.nil _ _ _ _,by simp -implicitDefEqProofs only [AA,↓reduceIte,Nat.reduceEqDiff],by simp -implicitDefEqProofs only [AA,↓reduceIte,Nat.reduceEqDiff],by simp -implicitDefEqProofs only [AA,↓reduceIte,Nat.reduceEqDiff],by simp -implicitDefEqProofs only [AA,↓reduceIte]; rfl,by rw [List.take_zero]; exact hs0,hx0,Nat.le_refl _⟩ ?_
   clear hs0 hx0
   rintro n F H ⟨k,w,hk,g8,g12,ho,g13,g50,g51,g52,hs,he,hle⟩
   simp -implicitDefEqProofs only [A8,AX,BF,AZ,AU,A9,AL,AO,AJ,BA,AR,AC,AA,AY,BN,AB,CO,↓reduceIte,Option.getD_some,Bool.not_false,enP,g51,g52]
   refine CG (fun hc => ?_) (fun hc => ?_)
   ·have hk':k < o.length:=by simpa using hc
    have hok':=hlt _ (List.getElem_mem hk')
    have hov:o[k] < (IW m l).length:=by omega
    have hva:=N7 m l hok' hov
    have hnew:=ADY m l (o.take k) hok'
    have hr1:Reads H (.own sb 0 (goals m).length) (IB m l (o.take k)):=by
     have:=Reads.own hs
     rw [FY] at this; exact this
    have hcall:=QI G hr1 (Reads.sl _ .any (row m l[o[k]])) (by rw [OB,FY]) (by rw [FY]; omega)
    rw [hnew] at hcall
    have hgt:=AAF Gl (goals m) (hits l) o k hk'
    have hgl2:(gains (goals m) (hits l) (o.take k)).length≤1048576:=by unfold gains; simp; omega
    obtain ⟨w',H2,hap,ho2,hk2,hl2,hn2,⟨q,ql,rfl⟩,hx2⟩:=ho.app2 ML sz3 RV RF (by omega) (by omega) hle (gain (goals m) (hits l) (o.take k) o[k])
    rw [← hgt] at ho2
    have hs2:=hk2 _ _ hs (fun hB=>by have:=ho.lt hB; omega)
    have hadd:=SY G (s := .any) (ys:=row m l[o[k]]) hs2 (by rw [OB,FY]) (by rw [FY]; omega)
    rw [FY,Y6 m l (o.take k) hok',← List.take_succ_eq_append_getElem hk'] at hadd
    simp -implicitDefEqProofs only [A8,BM,AX,BK,AZ,AU,A9,AL,AO,AJ,BA,AR,AC,AA,AY,BS,BB,A7,BL,BU,BV,BR,AB,List.map_cons,List.map_nil,List.append_nil,↓reduceIte,Nat.reduceEqDiff,Option.getD_some,Bool.not_false,enP,IL,VI,g50,g52,CW hk',CP ag3 hk',SK,g8,g12,g13,CW hov,CP UI hov,RA,hva]
    refine hcall.use ?_
    simp -implicitDefEqProofs only [E8,FI,AU,AL,AO,AJ,BA,AR,AC,AA,AY,EA,FT,BO,↓reduceIte,Nat.reduceEqDiff,Option.getD_some,Bool.not_false,enP,U1]
    refine FK (v := .own q 0 ql) (h:=H2) hap ?_
    simp -implicitDefEqProofs only [AX,AZ,AU,A9,AL,AO,AJ,BA,AR,AC,AA,AY,BS,BB,A7,BL,BU,BV,BR,AB,List.map_cons,List.map_nil,List.append_nil,↓reduceIte,Nat.reduceEqDiff,Option.getD_some,Bool.not_false,enP,VI,g8,g13,CW hov,CP UI hov,RA,hva]
    refine ACalls.mono hadd ?_
    rintro v' H3 ⟨rfl,rfl⟩
    simp -implicitDefEqProofs only [AX,AZ,DU,DZ,AU,A9,AL,AO,AJ,BA,AR,AC,AA,AY,AQ,BD,BB,BN,AB,CR,↓reduceIte,Nat.reduceEqDiff,Option.getD_some,Bool.not_false,enP,g52,CB (show k < 9223372036854775807 by omega)]
    exact ⟨n - 1,by omega,k+1,_,by omega,g8,rfl,ho2.setB hsl _,g13,g50,g51,rfl,EI hs2,(hx2 h (by omega) he).set hsb _,by rw [List.length_set]; omega⟩
   ·have hk' : ¬ k < o.length:=by simpa using hc
    rw [List.take_of_length_le (by omega)] at ho
    simp -implicitDefEqProofs only [CU,DR,II,EF,AA,↓reduceIte,Nat.reduceEqDiff]
    exact ⟨by rw [g12]; exact ho,he⟩
  ·rintro F H ⟨ho,he⟩
   simp -implicitDefEqProofs only [A8,AX,BJ,AZ,EB,F6,AU,A9,AL,AO,AJ,BA,AR,AC,AA,AY,AQ,BD,BB,A7,↓reduceIte,Nat.reduceEqDiff,Option.getD_some,Bool.not_false]
   exact ⟨he,_,rfl,ho.base (by omega)⟩
 ·rintro F H' ⟨f6,f7,rfl,hok⟩
  have hge:gnE m l xs=1:=by unfold gnE; rw [if_neg (by simp [hz]),if_neg (by simp [hok])]
  have hgn:gnL m l xs = []:=by unfold gnL; rw [if_neg (by rw [hge]; decide)]
  simp -implicitDefEqProofs only [CJ,D6,F6,f6,f7]
  exact ⟨hx,_,by rw [hge],by rw [hgn]; exact outG.nil _ _ _ _⟩
end Go.Proofs.YtocilianjfhifaaGreatDoor.Rk
/- The reference's Gains; no condition but the variables that are laid, the bounds on lengths. -/
set_option linter.unusedSimpArgs false
set_option maxRecDepth 8000
namespace Go.Proofs.YtocilianjfhifaaGreatDoor.Rk
open Go Go.Proofs Go.Proofs.YtocilianjfhifaaGreatDoor.Sm Go.Proofs.YtocilianjfhifaaGreatDoor.Bins Go.Proofs.YtocilianjfhifaaGreatDoor.Cov Go.RowKit

set_option maxHeartbeats 4000000 in
theorem AOF (G:Nat→AV) (m:Mo) (l:List Cvr) (s t:SM) (xs:List Int) (hm:MoOk m) (hl : ∀ v∈l,CvOk v) (hn:l.length≤1048576) (hxn:xs.length≤1048576) (h:Hp) :
  PCall (En G) 58 [.agg (DC m),.sl s 4 (l.map D5),.sl t 1 (xs.map encI)] h (.tup [.sl (nm (gnL m l xs)) 1 ((gnL m l xs).map EU),.int .i64 (gnE m l xs)]):=by
 have gm:=CQ h (ABlk.live 2 [DC m])
 have hx:ext h (h ++ [ABlk.live 2 [DC m]]):=(ext.rfl' h).app _
 refine M6 _ _ ?_
 refine BX (H:=hint [71] []) (enM G) Tryz.func58 rfl (by kernel_rfl) (by kernel_rfl) (Nat.le_of_ble_eq_true (by kernel_rfl)) ?_
 show awp _ _ _ _ _ (EJ _ [.tmp 6,.tmp 7] _)
 simp -implicitDefEqProofs only [CL,List.contains_cons,List.contains_nil,Nat.reduceBEq,Bool.or_false,A8,AX,AZ,AU,A9,AJ,BA,AR,AC,AA,AY,AQ,BD,EX,A7,EW,BL,BO,BC,↓reduceIte,Nat.reduceEqDiff,Option.getD_some,Bool.not_false,enP,DY,bxM]
 generalize h ++ [ABlk.live 2 [DC m]]=H at gm hx ⊢
 simp -implicitDefEqProofs only [CL,List.contains_cons,List.contains_nil,Nat.reduceBEq,Bool.or_false,AU,AJ,BA,AR,AC,AA,AY,AQ,BS,BD,BB,BV,BR,AB,BC,BP,List.map_cons,List.map_nil,List.append_nil,↓reduceIte,Nat.reduceEqDiff,Option.getD_some,Bool.not_false,DY,ldM gm]
 refine (OP G m l s 1024 hm hl hn _).use ?_
 simp -implicitDefEqProofs only [CL,List.contains_cons,List.contains_nil,Nat.reduceBEq,Bool.or_false,A8,AX,BF,AZ,AU,A9,AJ,BA,AR,AC,AA,AY,AQ,BD,BB,A7,BN,AB,ED,↓reduceIte,Option.getD_some,Bool.not_false,enP,DY,bne]
 by_cases hz:GQ m l 1024=0
 case neg =>
  have hb:(GQ m l 1024 == 0)=false:=by simpa using hz
  have hge:gnE m l xs=GQ m l 1024:=by unfold gnE; rw [if_pos hz]
  have hgl:gnL m l xs = []:=by unfold gnL; rw [if_neg (by rw [hge]; exact hz)]
  simp -implicitDefEqProofs only [CL,List.contains_cons,List.contains_nil,Nat.reduceBEq,Bool.or_false,A8,AX,BJ,AZ,CJ,F6,DI,AU,A9,AJ,BA,AR,AC,AA,AY,AQ,EX,BB,A7,↓reduceIte,Nat.reduceEqDiff,Option.getD_some,Bool.not_false,DY,hb]
  exact ⟨hx,_,by rw [hge],by rw [hgl]; exact outG.nil _ _ _ _⟩
 obtain ⟨h1,h2,h3⟩:=I6.1 hz
 have hb:((0:Int) == 0)=true:=rfl
 rw [hz]
 simp -implicitDefEqProofs only [CL,List.contains_cons,List.contains_nil,Nat.reduceBEq,Bool.or_false,A8,BM,AX,BK,AZ,DL,AU,A9,AJ,BA,AR,AC,AQ,BD,A7,Option.getD_some,Bool.not_true,Bool.not_false,DY,hb]
 refine FO 0 (fun F H'=>F 1 = .sl s 4 (l.map D5)∧F 2 = .sl t 1 (xs.map encI)∧F 3 = .ptr h.length 0 0∧H'=H∧SB l.length xs=true) (fun F H'=>F 6 = .sl .nil 0 []∧F 7 = .int .i64 1∧H'=H∧SB l.length xs=false) ?_ ?_ ?_
 ·refine CS (fun n F H' => ∃ i,n+i=xs.length∧F 1 = .sl s 4 (l.map D5)∧F 2 = .sl t 1 (xs.map encI)∧F 3 = .ptr h.length 0 0∧F 9 = .int .i64 (i:Nat)∧H'=H∧∀ j,j < i→AI4 l.length xs j=true) xs.length
   ⟨0,by simp,by simp -implicitDefEqProofs only [AA,BC,BP,↓reduceIte,Nat.reduceEqDiff],by simp -implicitDefEqProofs only [AA,BC,BP,↓reduceIte,Nat.reduceEqDiff],by simp -implicitDefEqProofs only [AA,↓reduceIte,Nat.reduceEqDiff],by simp -implicitDefEqProofs only [AA,↓reduceIte]; rfl,rfl,fun j hj=>absurd hj (by omega)⟩ ?_
  rintro n F H' ⟨i,hi,f1,f2,f3,f9,rfl,hok⟩
  simp -implicitDefEqProofs only [CL,List.contains_cons,List.contains_nil,Nat.reduceBEq,Bool.or_false,A8,AX,BF,AZ,AU,A9,AJ,BA,AR,AC,AA,AY,BB,BN,C8,AB,CO,↓reduceIte,Nat.reduceEqDiff,Option.getD_some,Bool.not_false,enP,GV,DY,f2,f9,List.length_map]
  refine CG (fun hc => ?_) (fun hc => ?_)
  ·have hi':i < xs.length:=by simpa using hc
   have hat:=YM (n:=l.length) hi'
   have hcall:=APW G (xs.take i) (ANU t i xs.length) xs[i] H' (by rw [List.length_take]; omega)
   have hsl:=AKR ML sz3 (h:=H') (m:=t) (kk := .i64) (xs:=xs.map encI) (u:=i) (by rw [List.length_map]; omega)
   rw [← List.map_take,List.length_map] at hsl
   simp -implicitDefEqProofs only [A8,BM,BK,AZ]
   refine EG (by kernel_rfl) ?_
   simp -implicitDefEqProofs only [FJ,CL,List.contains_cons,List.contains_nil,Nat.reduceBEq,Bool.or_false,DT,CZ,DV,EY,FR,ET,EN,GK,DN,BZ,AA,AY,AQ,BD,BL,BN,BU,AB,CO,↓reduceIte,Nat.reduceEqDiff,Nat.reduceAdd,Option.getD_some,enP,IL,f2,f9,CW hi',CP ag3 hi',Cov.encI0]
   cases ha:decide (xs[i] < 0)
   ·rw [ha] at hat
    simp -implicitDefEqProofs only [FJ,CL,List.contains_cons,List.contains_nil,Nat.reduceBEq,Bool.or_false,DT,CZ,DV,EY,FR,NT,ET,G6,EN,GK,DN,FX,BZ,AA,AY,AQ,BI,CF,DK,BL,BN,BU,C8,AB,F3,↓reduceIte,Nat.reduceEqDiff,Nat.reduceAdd,Option.getD_some,enP,OY,IL,f1,f2,f9,CW hi',CP ag3 hi',Cov.encI0,List.length_map]
    cases hb2:decide (xs[i]≥((l.length:Nat):Int))
    ·rw [hb2] at hat
     simp -implicitDefEqProofs only [FJ,Option.map_some,Option.map_none,CL,List.contains_cons,List.contains_nil,Nat.reduceBEq,Bool.or_false,DT,CZ,EO,DV,EY,FR,NT,ET,G6,EN,AKL,DN,FP,FD,BF,AZ,BZ,AA,AY,AQ,BS,BI,CF,DK,BL,PL,BU,AB,List.map_cons,List.map_nil,List.append_nil,↓reduceIte,Nat.reduceEqDiff,Nat.reduceAdd,Option.getD_some,enP,IL,f2,f9,hsl,CW hi',CP ag3 hi',Cov.encI0]
     refine ⟨_,hcall,?_⟩
     try simp -implicitDefEqProofs only []
     cases hd:hasB (xs.take i) xs[i]
     ·rw [hd] at hat
      simp -implicitDefEqProofs only [CL,List.contains_cons,List.contains_nil,Nat.reduceBEq,Bool.or_false,AX,BK,AZ,DU,DZ,DL,AU,A9,AJ,BA,AR,AC,AA,AY,AQ,BD,BB,A7,BN,AB,CR,↓reduceIte,Nat.reduceEqDiff,Option.getD_some,Bool.not_false,enP,DY,f9,CB (show i < 9223372036854775807 by omega)]
      refine ⟨n - 1,by omega,i+1,by omega,f1,f2,f3,rfl,trivial,fun j hj => ?_⟩
      rcases Nat.eq_or_lt_of_le (Nat.le_of_lt_succ hj) with e | hj'
      ·subst e; exact hat
      ·exact hok j hj'
     ·rw [hd] at hat
      simp -implicitDefEqProofs only [CL,List.contains_cons,List.contains_nil,Nat.reduceBEq,Bool.or_false,A8,AX,BJ,AZ,CJ,D6,KC,EZ,DI,AU,A9,AJ,BA,AR,AC,AA,AQ,BD,EX,A7,↓reduceIte,Nat.reduceEqDiff,Option.getD_some,Bool.not_false,DY]
      exact ⟨trivial,trivial,trivial,M7 hi' hat⟩
    ·rw [hb2] at hat
     simp -implicitDefEqProofs only [FJ,CL,List.contains_cons,List.contains_nil,Nat.reduceBEq,Bool.or_false,DT,CZ,EO,DV,EY,FR,WB,G6,A8,AX,BJ,BF,AZ,CJ,D6,KC,EZ,DI,AU,A9,BZ,AJ,BA,AR,AC,AA,EM,AY,AQ,BD,BI,EX,A7,CF,DJ,↓reduceIte,Nat.reduceEqDiff,Nat.reduceAdd,Option.getD_some,Bool.not_false,DY]
     exact ⟨trivial,trivial,trivial,M7 hi' hat⟩
   ·rw [ha] at hat
    simp -implicitDefEqProofs only [FJ,CL,List.contains_cons,List.contains_nil,Nat.reduceBEq,Bool.or_false,DT,CZ,EO,DV,EY,FR,WB,ET,G6,A8,AX,BJ,BF,AZ,CJ,D6,KC,EZ,DI,AU,A9,BZ,AJ,BA,AR,AC,AA,EM,AY,AQ,BD,BI,EX,A7,CF,DJ,↓reduceIte,Nat.reduceEqDiff,Nat.reduceAdd,Option.getD_some,Bool.not_false,DY]
    exact ⟨trivial,trivial,trivial,M7 hi' hat⟩
  ·have hi':i=xs.length:=by
    have : ¬ i < xs.length:=by simpa using hc
    omega
   subst hi'
   simp -implicitDefEqProofs only [CU,DR,II,EF,AA,↓reduceIte,Nat.reduceEqDiff]
   exact ⟨f1,f2,f3,trivial,QD.2 fun j hj=>hok j hj⟩
 ·rintro F H0 ⟨f1,f2,f3,rfl,hok⟩
  have hge:gnE m l xs=0:=AAE.2 ⟨hz,hok⟩
  have hgn:gnL m l xs=gains (goals m) (hits l) (xs.map Int.toNat):=by unfold gnL; rw [if_pos hge]
  obtain ⟨e1,hlt⟩:=ACP hok
  have hol:(xs.map Int.toNat).length=xs.length:=by rw [List.length_map]
  rw [hge,hgn]
  rw [← e1] at f2
  generalize xs.map Int.toNat=o at f2 hlt hol ⊢
  clear e1 hgn hge
  simp -implicitDefEqProofs only [CL,List.contains_cons,List.contains_nil,Nat.reduceBEq,Bool.or_false,A8,BM,AX,AZ,EB,AU,A9,AJ,BA,AR,AC,AQ,BD,EX,A7,↓reduceIte,Option.getD_some,Bool.not_false,DY]
  refine FO 2 (fun F H=>outG 1 EU H0 (gains (goals m) (hits l) o) (F 10) H∧ext H0 H) (fun _ _=>False) ?_ ?_ (fun _ _ hh=>hh.elim)
  ·refine CS (fun n F H => ∃ k w,n+k=o.length∧F 1 = .sl s 4 (l.map D5)∧F 2 = .sl t 1 (o.map EU)∧F 3 = .ptr h.length 0 0∧F 10=w∧outG 1 EU H0 (gains (goals m) (hits l) (o.take k)) w H∧F 11 = .int .i64 (k:Nat)∧ext H0 H) o.length
    ⟨0,.sl .nil 0 [],by simp,by simp -implicitDefEqProofs only [AA,↓reduceIte,Nat.reduceEqDiff,f1],by simp -implicitDefEqProofs only [AA,↓reduceIte,Nat.reduceEqDiff,f2],by simp -implicitDefEqProofs only [AA,↓reduceIte,Nat.reduceEqDiff,f3],by simp -implicitDefEqProofs only [AA,↓reduceIte,Nat.reduceEqDiff],by rw [List.take_zero]; exact outG.nil _ _ _ _,by simp -implicitDefEqProofs only [AA,↓reduceIte]; rfl,ext.rfl' _⟩ ?_
   rintro n F H ⟨k,w,hk,g1,g2,g3,g10,ho,g11,he⟩
   simp -implicitDefEqProofs only [CL,List.contains_cons,List.contains_nil,Nat.reduceBEq,Bool.or_false,A8,AX,BF,AZ,AU,A9,AJ,BA,AR,AC,AA,AY,BB,BN,C8,AB,CO,↓reduceIte,Nat.reduceEqDiff,Option.getD_some,Bool.not_false,enP,GV,DY,g2,g11,List.length_map]
   refine CG (fun hc => ?_) (fun hc => ?_)
   ·have hk':k < o.length:=by simpa using hc
    have hok':=hlt _ (List.getElem_mem hk')
    have htk : ∀ i∈o.take k,i < l.length:=fun i hi=>hlt i (List.mem_of_mem_take hi)
    have gm1:=GN he gm
    have hsl:=AKR ML sz3 (h:=H) (m:=t) (kk := .i64) (xs:=o.map EU) (u:=k) (by rw [List.length_map]; omega)
    rw [← List.map_take,List.length_map] at hsl
    have hto:=N9 G m l s (o.take k) (.sl (ANU t k o.length) 1 ((o.take k).map EU)) hm hl hn htk (by rw [List.length_take]; omega) H (.inl ⟨_,rfl⟩)
    have hgc:=VL G m (LF m (sel l (o.take k))) l[o[k]] hm (NC (QQ h1 h3 htk)) (hl _ (List.getElem_mem hok')) H
    rw [YR h1 h3 htk hok'] at hgc
    have hgt:=AAF Gl (goals m) (hits l) o k hk'
    have hgl2:(gains (goals m) (hits l) (o.take k)).length≤1048576:=by unfold gains; simp; omega
    obtain ⟨w',H2,hap,ho2,_,he2,_,_⟩:=ho.append ML sz3 RV RF (by omega) (by omega) he (gain (goals m) (hits l) (o.take k) o[k])
    rw [← hgt] at ho2
    simp -implicitDefEqProofs only [A8,BM,BK,AZ]
    refine EG (by kernel_rfl) ?_
    simp -implicitDefEqProofs only [FJ,Option.map_some,Option.map_none,CL,List.contains_cons,List.contains_nil,Nat.reduceBEq,Bool.or_false,DT,CZ,DV,ET,EN,AKL,DN,FP,FD,AA,AY,BS,BL,PL,BU,AB,List.map_cons,List.map_nil,List.append_nil,↓reduceIte,Nat.reduceEqDiff,Nat.reduceAdd,Option.getD_some,enP,IL,g1,g2,g3,g10,g11,ldM gm1,hsl]
    refine ⟨_,hto,?_⟩
    try simp -implicitDefEqProofs only [FJ,E8,FI,CL,List.contains_cons,List.contains_nil,Nat.reduceBEq,Bool.or_false,DT,CZ,DV,I7,EN,DN,FP,FD,AA,AY,BS,EA,BL,BU,AB,List.map_cons,List.map_nil,List.append_nil,↓reduceIte,Nat.reduceEqDiff,Nat.reduceAdd,Option.getD_some,enP,X6,g1,g2,g11,CW hk',CP ag3 hk',SK,CW hok',ES V6 PY JQ hok']
    refine ⟨_,hgc,?_⟩
    try simp -implicitDefEqProofs only [FJ,CL,List.contains_cons,List.contains_nil,Nat.reduceBEq,Bool.or_false,DT,CZ,DV,FX,AA,AY,FT,BO,↓reduceIte,Nat.reduceEqDiff,Nat.reduceAdd,Option.getD_some,enP,U1,g10]
    refine FK (v:=w') (h:=H2) hap ?_
    simp -implicitDefEqProofs only [FJ,CL,List.contains_cons,List.contains_nil,Nat.reduceBEq,Bool.or_false,DT,CZ,EO,DV,GM,AX,AZ,DU,DZ,AU,A9,AJ,BA,AR,AC,AA,AY,AQ,BD,BB,A7,BN,AB,CR,↓reduceIte,Nat.reduceEqDiff,Nat.reduceAdd,Option.getD_some,Bool.not_false,enP,DY,g11,CB (show k < 9223372036854775807 by omega)]
    exact ⟨n - 1,by omega,k+1,w',by omega,g1,g2,g3,rfl,ho2,rfl,he2⟩
   ·have hk' : ¬ k < o.length:=by simpa using hc
    rw [List.take_of_length_le (by omega)] at ho
    simp -implicitDefEqProofs only [CU,DR,II,EF,AA,↓reduceIte,Nat.reduceEqDiff]
    exact ⟨by rw [g10]; exact ho,he⟩
  ·rintro F H ⟨ho,he⟩
   simp -implicitDefEqProofs only [CL,List.contains_cons,List.contains_nil,Nat.reduceBEq,Bool.or_false,A8,AX,BJ,AZ,EB,F6,AU,A9,AJ,BA,AR,AC,AA,AY,AQ,BD,BB,A7,↓reduceIte,Nat.reduceEqDiff,Option.getD_some,Bool.not_false,DY]
   exact ⟨hx.trans he,_,rfl,ho.base hx.le⟩
 ·rintro F H' ⟨f6,f7,rfl,hok⟩
  have hge:gnE m l xs=1:=by unfold gnE; rw [if_neg (by simp [hz]),if_neg (by simp [hok])]
  have hgn:gnL m l xs = []:=by unfold gnL; rw [if_neg (by rw [hge]; decide)]
  simp -implicitDefEqProofs only [CJ,D6,F6,f6,f7]
  exact ⟨hx,_,by rw [hge],by rw [hgn]; exact outG.nil _ _ _ _⟩
end Go.Proofs.YtocilianjfhifaaGreatDoor.Rk
/- Unique and Needed of both sides; no condition but the variables that are laid, the bounds on lengths, and cover.tuple's contract. -/
set_option linter.unusedSimpArgs false
set_option maxRecDepth 8000
namespace Go.Proofs.YtocilianjfhifaaGreatDoor.Rk
open Go Go.Proofs Go.Proofs.YtocilianjfhifaaGreatDoor.Sm Go.Proofs.YtocilianjfhifaaGreatDoor.Bins Go.Proofs.YtocilianjfhifaaGreatDoor.Cov Go.RowKit

theorem XP (at_ i:Nat):others (i+1) at_=others i at_ ++ (if (i != at_)=true then [i] else []):=by
 unfold others
 rw [List.range_succ,List.filter_append]
 congr 1
 rw [List.filter_cons,List.filter_nil]
theorem AM0 (n at_:Nat) : ∀ i∈others n at_,i < n:=fun i hi=>by
 unfold others at hi
 simpa using (List.mem_filter.1 hi).1
theorem ZT (n at_:Nat):(others n at_).length≤n:=by
 unfold others
 exact Nat.le_trans (List.length_filter_le _ _) (by simp)
theorem XJ (G:Nat→AV) (m:Mo) (l:List Cvr) (om:SM) (at_:Nat) (hat:at_ < l.length) (hn:l.length≤1048576) (hN:(goals m).length≤1048576) (h:Hp) :
  PCall (En G) 120 [.sl om 1 ((IW m l).map IC),.int .i64 (at_:Nat)] h (.int .i64 (uniq (goals m) (hits l) l.length at_:Nat)):=by
 have hvl:=NK m l
 refine ACalls.pure0 rfl ?_
 refine BX (H:=Hint.none) (enM G) Tryz.func120 rfl (by kernel_rfl) (by kernel_rfl) (Nat.le_of_ble_eq_true (by kernel_rfl)) ?_
 show awp _ _ _ _ _ (EJ _ [.tmp 4] _)
 simp -implicitDefEqProofs only [A8,AX,AZ,AU,A9,AL,AO,AJ,BA,AR,AC,AA,AY,AQ,BS,BD,BB,A7,BV,BR,BC,List.map_cons,List.map_nil,List.append_nil,↓reduceIte,Nat.reduceEqDiff,Option.getD_some,Bool.not_false,enP]
 refine ACalls.mono (QE G m l om h (by omega) hn hN) ?_
 rintro v H0 ⟨rfl,rfl⟩
 have hs0:=CQ h (ABlk.live 1 ((IB m l []).map FU))
 have hx0:ext h (h ++ [ABlk.live 1 ((IB m l []).map FU)]):=(ext.rfl' h).app _
 generalize h ++ [ABlk.live 1 ((IB m l []).map FU)]=H0 at hs0 hx0 ⊢
 simp -implicitDefEqProofs only [A8,BM,AX,AZ,AU,A9,AL,AO,AJ,BA,AR,AC,AA,AY,AQ,BD,BB,A7,C8,AB,BC,↓reduceIte,Nat.reduceEqDiff,Option.getD_some,Bool.not_false,enP,O0,List.length_map,hvl]
 refine FO 0 (fun F H=>F 0 = .sl om 1 ((IW m l).map IC)∧F 1 = .int .i64 (at_:Nat)∧F 5 = .own h.length 0 (goals m).length∧H[h.length]? = some (ABlk.live 1 ((IB m l (others l.length at_)).map FU))∧ext h H) (fun _ _=>False) ?_ ?_ (fun _ _ hh=>hh.elim)
 ·refine CS (fun n F H => ∃ i,n+i=l.length∧F 0 = .sl om 1 ((IW m l).map IC)∧F 1 = .int .i64 (at_:Nat)∧F 5 = .own h.length 0 (goals m).length∧F 10 = .int .i64 (l.length:Nat)∧F 11 = .int .i64 (i:Nat)∧H[h.length]? = some (ABlk.live 1 ((IB m l (others i at_)).map FU))∧ext h H) l.length
   ⟨0,by simp,by simp -implicitDefEqProofs only [AA,BC,↓reduceIte,Nat.reduceEqDiff],by simp -implicitDefEqProofs only [AA,BC,BP,↓reduceIte,Nat.reduceEqDiff],by simp -implicitDefEqProofs only [AA,↓reduceIte,Nat.reduceEqDiff],by simp -implicitDefEqProofs only [AA,↓reduceIte,Nat.reduceEqDiff],by simp -implicitDefEqProofs only [AA,↓reduceIte]; rfl,hs0,hx0⟩ ?_
  clear hs0 hx0
  rintro n F H ⟨i,hi,f0,f1,f5,f10,f11,hs,he⟩
  simp -implicitDefEqProofs only [A8,AX,BF,AZ,AU,A9,AL,AO,AJ,BA,AR,AC,AA,AY,BN,AB,CO,↓reduceIte,Option.getD_some,Bool.not_false,enP,f10,f11]
  refine CG (fun hc => ?_) (fun hc => ?_)
  ·have hi':i < l.length:=by simpa using hc
   have hiv:i < (IW m l).length:=by omega
   have hva:=N7 m l hi' hiv
   have hst:=XP at_ i
   simp -implicitDefEqProofs only [A8,BM,AX,BK,BF,AZ,AU,A9,AL,AO,AJ,BA,AR,AC,AA,AY,BB,A7,BN,AB,ED,↓reduceIte,Nat.reduceEqDiff,Option.getD_some,Bool.not_false,enP,f1,f11,bne]
   cases heq:((i:Int) == (at_:Int))
   ·have hne:(i != at_)=true:=by simp at heq ⊢; omega
    rw [if_pos hne] at hst
    have hadd:=SY G (s := .any) (ys:=row m l[i]) hs (by rw [OB,FY]) (by rw [FY]; omega)
    rw [FY,Y6 m l (others i at_) hi',← hst] at hadd
    simp -implicitDefEqProofs only [AX,DI,AU,AL,AO,AJ,BA,AR,AC,AA,AY,BS,BB,BL,BU,BV,BR,AB,List.map_cons,List.map_nil,List.append_nil,↓reduceIte,Nat.reduceEqDiff,Option.getD_some,Bool.not_false,enP,VI,f0,f5,f11,CW hiv,CP UI hiv,RA,hva]
    refine ACalls.mono hadd ?_
    rintro v' H3 ⟨rfl,rfl⟩
    simp -implicitDefEqProofs only [AX,AZ,DU,DZ,AU,A9,AL,AO,AJ,BA,AR,AC,AA,AY,AQ,BD,BB,BN,AB,CR,↓reduceIte,Nat.reduceEqDiff,Option.getD_some,Bool.not_false,enP,f11,CB (show i < 9223372036854775807 by omega)]
    exact ⟨n - 1,by omega,i+1,by omega,f0,f1,f5,f10,rfl,EI hs,he.set (Nat.le_refl _) _⟩
   ·have hne : ¬ (i != at_)=true:=by simp at heq ⊢; omega
    rw [if_neg hne,List.append_nil] at hst
    simp -implicitDefEqProofs only [AX,BK,AZ,DU,DZ,DL,AU,A9,AL,AO,AJ,BA,AR,AC,AA,AY,AQ,BD,BB,BN,AB,CR,↓reduceIte,Nat.reduceEqDiff,Option.getD_some,Bool.not_true,Bool.not_false,enP,f11,CB (show i < 9223372036854775807 by omega)]
    exact ⟨n - 1,by omega,i+1,by omega,f0,f1,f5,f10,rfl,by rw [hst]; exact hs,he⟩
  ·have hi':i=l.length:=by
    have : ¬ i < l.length:=by simpa using hc
    omega
   subst hi'
   simp -implicitDefEqProofs only [CU,DR,II,EF,AA,↓reduceIte,Nat.reduceEqDiff]
   exact ⟨f0,f1,f5,hs,he⟩
 ·rintro F H ⟨f0,f1,f5,hs,he⟩
  have hav:at_ < (IW m l).length:=by omega
  have hva:=N7 m l hat hav
  have hr1:Reads H (.own h.length 0 (goals m).length) (IB m l (others l.length at_)):=by
   have:=Reads.own hs
   rw [FY] at this; exact this
  have hcall:=QI G hr1 (Reads.sl _ .any (row m l[at_])) (by rw [OB,FY]) (by rw [FY]; omega)
  rw [ADY m l (others l.length at_) hat] at hcall
  simp -implicitDefEqProofs only [A8,AX,AZ,EB,AU,AL,AO,AJ,BA,AR,AC,AA,AY,BS,BB,BL,BU,BV,BR,AB,List.map_cons,List.map_nil,List.append_nil,↓reduceIte,Nat.reduceEqDiff,Option.getD_some,Bool.not_false,enP,VI,f0,f1,f5,CW hav,CP UI hav,RA,hva]
  refine hcall.use ?_
  simp -implicitDefEqProofs only [BJ,AZ,CK,AU,A9,AL,AO,AJ,BA,AR,AC,AA,AY,A7,↓reduceIte,Option.getD_some,Bool.not_false]
  exact ⟨rfl,he⟩
set_option maxHeartbeats 2000000 in
theorem Y8 (G:Nat→AV) (m:Mo) (l:List Cvr) (s:SM) (at_:Nat) (hat:at_ < l.length) (hm:MoOk m) (hl : ∀ v∈l,CvOk v) (hn:l.length≤1048576) (h1:FH m=0) (h3 : ∀ v∈l,E9 m v=true) (h:Hp) :
  PCall (En G) 121 [.agg (DC m),.sl s 4 (l.map D5),.int .i64 (at_:Nat)] h (.int .i64 (uniq (goals m) (hits l) l.length at_:Nat)):=by
 refine ACalls.pure0 rfl ?_
 refine BX (H:=Hint.none) (enM G) Tryz.func121 rfl (by kernel_rfl) (by kernel_rfl) (Nat.le_of_ble_eq_true (by kernel_rfl)) ?_
 show awp _ _ _ _ _ (EJ _ [.tmp 6] _)
 have gm:=CQ h (ABlk.live 2 [DC m])
 have hx:ext h (h ++ [ABlk.live 2 [DC m]]):=(ext.rfl' h).app _
 simp -implicitDefEqProofs only [A8,BM,AX,AZ,AU,A9,AL,AO,AJ,BA,AR,AC,AY,AQ,BD,EX,A7,EW,BO,BC,Option.getD_some,Bool.not_false,enP,bxM]
 generalize h ++ [ABlk.live 2 [DC m]]=H0 at gm hx ⊢
 refine FO 0 (fun F H=>F 1 = .sl s 4 (l.map D5)∧F 2 = .int .i64 (at_:Nat)∧F 3 = .ptr h.length 0 0∧outG 1 EU H0 (others l.length at_) (F 7) H∧ext H0 H) (fun _ _=>False) ?_ ?_ (fun _ _ hh=>hh.elim)
 ·refine CS (fun n F H => ∃ i w,n+i=l.length∧F 1 = .sl s 4 (l.map D5)∧F 2 = .int .i64 (at_:Nat)∧F 3 = .ptr h.length 0 0∧F 7=w∧F 8 = .int .i64 (i:Nat)∧outG 1 EU H0 (others i at_) w H∧ext H0 H) l.length
   ⟨0,_,by simp,by simp -implicitDefEqProofs only [AA,BC,BP,↓reduceIte,Nat.reduceEqDiff],by simp -implicitDefEqProofs only [AA,BC,BP,↓reduceIte,Nat.reduceEqDiff],by simp -implicitDefEqProofs only [AA,↓reduceIte,Nat.reduceEqDiff],by simp -implicitDefEqProofs only [AA,↓reduceIte,Nat.reduceEqDiff],by simp -implicitDefEqProofs only [AA,↓reduceIte]; rfl,outG.nil _ _ _ _,ext.rfl' _⟩ ?_
  rintro n F H ⟨i,w,hi,f1,f2,f3,f7,f8,ho,he⟩
  simp -implicitDefEqProofs only [A8,AX,BF,AZ,AU,A9,AL,AO,AJ,BA,AR,AC,AA,AY,BB,BN,C8,AB,CO,↓reduceIte,Nat.reduceEqDiff,Option.getD_some,Bool.not_false,enP,OY,f1,f8,List.length_map]
  refine CG (fun hc => ?_) (fun hc => ?_)
  ·have hi':i < l.length:=by simpa using hc
   have hst:=XP at_ i
   have hlen:=ZT i at_
   simp -implicitDefEqProofs only [A8,BM,AX,BK,BF,AZ,AU,A9,AL,AO,AJ,BA,AR,AC,AA,AY,BB,BN,AB,ED,↓reduceIte,Nat.reduceEqDiff,Option.getD_some,Bool.not_false,enP,f2,f8,bne]
   cases heq:((i:Int) == (at_:Int))
   ·have hne:(i != at_)=true:=by simp at heq ⊢; omega
    rw [if_pos hne] at hst
    obtain ⟨w',H2,hap,ho2,_,he2,_,_⟩:=ho.append ML sz3 RV RF (by omega) (by omega) he i
    rw [← hst] at ho2
    simp -implicitDefEqProofs only [E8,FI,AX,DI,AU,AL,AO,AJ,BA,AR,AC,AA,AY,BB,EA,FT,BO,↓reduceIte,Nat.reduceEqDiff,Option.getD_some,Bool.not_false,enP,f7,f8,U1]
    refine FK (v:=w') (h:=H2) hap ?_
    simp -implicitDefEqProofs only [AX,AZ,DU,DZ,AU,A9,AL,AO,AJ,BA,AR,AC,AA,AY,AQ,BD,BB,A7,BN,AB,CR,↓reduceIte,Nat.reduceEqDiff,Option.getD_some,Bool.not_false,enP,f8,CB (show i < 9223372036854775807 by omega)]
    exact ⟨n - 1,by omega,i+1,w',by omega,f1,f2,f3,rfl,rfl,ho2,he2⟩
   ·have hne : ¬ (i != at_)=true:=by simp at heq ⊢; omega
    rw [if_neg hne,List.append_nil] at hst
    simp -implicitDefEqProofs only [AX,BK,AZ,DU,DZ,DL,AU,A9,AL,AO,AJ,BA,AR,AC,AA,AY,AQ,BD,BB,A7,BN,AB,CR,↓reduceIte,Nat.reduceEqDiff,Option.getD_some,Bool.not_true,Bool.not_false,enP,f8,CB (show i < 9223372036854775807 by omega)]
    exact ⟨n - 1,by omega,i+1,w,by omega,f1,f2,f3,f7,rfl,by rw [hst]; exact ho,he⟩
  ·have hi':i=l.length:=by
    have : ¬ i < l.length:=by simpa using hc
    omega
   subst hi'
   simp -implicitDefEqProofs only [CU,DR,II,EF,AA,↓reduceIte,Nat.reduceEqDiff]
   exact ⟨f1,f2,f3,by rw [f7]; exact ho,he⟩
 ·rintro F H ⟨f1,f2,f3,ho,he⟩
  obtain ⟨w,f7⟩ : ∃ w,F 7=w:=⟨_,rfl⟩
  rw [f7] at ho
  have gm1:=GN he gm
  have hlt:=AM0 l.length at_
  have hlen:=ZT l.length at_
  have hto:=N9 G m l s (others l.length at_) w hm hl hn hlt (by omega) H (RN.out ho)
  have hgc:=VL G m (LF m (sel l (others l.length at_))) l[at_] hm (NC (QQ h1 h3 hlt)) (hl _ (List.getElem_mem hat)) H
  rw [YR h1 h3 hlt hat] at hgc
  simp -implicitDefEqProofs only [A8,AZ,EB,↓reduceIte]
  refine EG (by kernel_rfl) ?_
  simp -implicitDefEqProofs only [FJ,DT,CZ,DV,ET,EN,DN,FP,FD,AL,AA,AY,BS,BL,BU,AB,List.map_cons,List.map_nil,List.append_nil,↓reduceIte,Nat.reduceEqDiff,Nat.reduceAdd,Option.getD_some,enP,X6,f1,f2,f3,f7,ldM gm1]
  refine ⟨_,hto,?_⟩
  try simp -implicitDefEqProofs only [FJ,DT,CZ,EO,DV,GM,EN,FP,FD,BJ,AZ,CK,AL,AA,AY,BS,BL,AB,List.map_cons,List.map_nil,List.append_nil,↓reduceIte,Nat.reduceEqDiff,Nat.reduceAdd,Option.getD_some,enP,f1,f2,CW hat,ES V6 PY JQ hat]
  refine ⟨_,hgc,?_⟩
  try simp -implicitDefEqProofs only []
  exact ⟨rfl,hx.trans he⟩
/-- Unique's results -/
def uqE (m:Mo) (l:List Cvr) (i:Int):Int:=if GQ m l 1024≠0 then GQ m l 1024 else if i < 0∨i≥(l.length:Int) then 1 else 0
def uqV (m:Mo) (l:List Cvr) (i:Int):Nat:=if uqE m l i=0 then uniq (goals m) (hits l) l.length i.toNat else 0
theorem WC {m:Mo} {l:List Cvr} {i:Int} (h:uqE m l i≠0):uqV m l i=0:=by unfold uqV; rw [if_neg h]
theorem XZ (G:Nat→AV) (hG:GOk G) (hT:I4 G) (m:Mo) (l:List Cvr) (s:SM) (i:Int) (hm:MoOk m) (hl : ∀ v∈l,CvOk v) (hn:l.length≤1048576) (h:Hp) :
  PCall (En G) 62 [.agg (DC m),.sl s 4 (l.map D5),.int .i64 i] h (.tup [.int .i64 (uqV m l i:Nat),.int .i64 (uqE m l i)]):=by
 refine LU 2 (fun n H=>rfl) ?_
 refine BX (H:=Hint.none) (enM G) Tryz.func62 rfl (by kernel_rfl) (by kernel_rfl) (Nat.le_of_ble_eq_true (by kernel_rfl)) ?_
 show awp _ _ _ _ _ (EJ _ [.tmp 6,.tmp 7] _)
 have gm:=CQ h (ABlk.live 2 [DC m])
 have hx:ext h (h ++ [ABlk.live 2 [DC m]]):=(ext.rfl' h).app _
 simp -implicitDefEqProofs only [A8,AX,AZ,AU,A9,AL,AO,AJ,BA,AR,AC,AA,AY,AQ,BD,A7,EW,BL,BO,BC,↓reduceIte,Nat.reduceEqDiff,Option.getD_some,Bool.not_false,enP,bxM]
 generalize h ++ [ABlk.live 2 [DC m]]=H at gm hx ⊢
 simp -implicitDefEqProofs only [AU,AL,AO,AJ,BA,AR,AC,AA,AY,AQ,BS,BD,BB,BV,BR,AB,BC,BP,List.map_cons,List.map_nil,List.append_nil,↓reduceIte,Nat.reduceEqDiff,Option.getD_some,Bool.not_false,ldM gm]
 refine (MG G hG hT m l s 1024 hm hl hn _).use ?_
 simp -implicitDefEqProofs only [List.getElem?_cons_zero,List.getElem?_cons_succ,A8,BM,AX,BF,AZ,AU,A9,AL,AO,AJ,BA,AR,AC,AA,AY,AQ,BD,BB,A7,BN,D8,FB,AB,ED,↓reduceIte,Nat.reduceEqDiff,Option.getD_some,Bool.not_false,enP,bne]
 by_cases hz:GQ m l 1024=0
 case neg =>
  have hb:(GQ m l 1024 == 0)=false:=by simpa using hz
  have he:uqE m l i=GQ m l 1024:=by unfold uqE; rw [if_pos hz]
  have hv:uqV m l i=0:=WC (by rw [he]; exact hz)
  simp -implicitDefEqProofs only [A8,AX,BJ,AZ,CJ,D6,F6,DI,AU,A9,AL,AO,AJ,BA,AR,AC,AA,AY,AQ,BD,BB,A7,↓reduceIte,Nat.reduceEqDiff,Option.getD_some,Bool.not_false,hb,hv,he]
  exact ⟨by first | trivial | rfl,hx⟩
 obtain ⟨h1,h2,h3⟩:=I6.1 hz
 have hgl:=J4 (JF h1)
 have hb:((0:Int) == 0)=true:=rfl
 have hop:opL m l 1024=IW m l:=by unfold opL; rw [if_pos hz]
 rw [hop,hz]
 generalize opM m l 1024=om
 have hvl:=NK m l
 simp -implicitDefEqProofs only [A8,AX,DL,AU,BH,BQ,BZ,AL,AO,AJ,BA,AR,AC,AA,AY,AQ,BD,BB,BN,AB,CO,BC,BP,↓reduceIte,Nat.reduceEqDiff,Option.getD_some,Bool.not_true,Bool.not_false,enP,hb]
 cases ha:decide (i < 0)
 ·have ha' : ¬ i < 0:=by simpa using ha
  simp -implicitDefEqProofs only [BF,AZ,AU,A9,BH,BQ,BZ,EH,AL,AO,AJ,BA,AR,AC,AA,AY,AQ,BI,BB,A7,CF,DK,BN,C8,AB,F3,BC,BP,↓reduceIte,Nat.reduceEqDiff,Option.getD_some,Bool.not_false,enP,O0,List.length_map,hvl]
  cases hb2:decide (i≥((l.length:Nat):Int))
  ·have hb' : ¬ i≥((l.length:Nat):Int):=by simpa using hb2
   have he:uqE m l i=0:=by unfold uqE; rw [if_neg (by simp [hz]),if_neg (by omega)]
   have hv:uqV m l i=uniq (goals m) (hits l) l.length i.toNat:=by unfold uqV; rw [if_pos he]
   have hcall:=XJ G m l om i.toNat (by omega) hn (by omega) H
   rw [Int.toNat_of_nonneg (by omega)] at hcall
   simp -implicitDefEqProofs only [A8,AX,BK,AZ,DU,DL,AU,AL,AO,AJ,BA,AR,AC,AA,AY,BS,BB,BV,BR,BC,BP,List.map_cons,List.map_nil,List.append_nil,↓reduceIte,Nat.reduceEqDiff,Option.getD_some,Bool.not_false]
   refine hcall.use ?_
   simp -implicitDefEqProofs only [BJ,AZ,F6,AU,A9,AL,AO,AJ,BA,AR,AC,AA,AY,AQ,BD,A7,↓reduceIte,Nat.reduceEqDiff,Option.getD_some,Bool.not_false,he,hv]
   exact ⟨by first | trivial | rfl,hx⟩
  ·have hb':i≥((l.length:Nat):Int):=by simpa using hb2
   have he:uqE m l i=1:=by unfold uqE; rw [if_neg (by simp [hz]),if_pos (.inr hb')]
   have hv:uqV m l i=0:=WC (by rw [he]; decide)
   simp -implicitDefEqProofs only [A8,AX,BJ,AZ,CJ,D6,F6,DI,AU,A9,AL,AO,AJ,BA,AR,AC,AA,AQ,BD,A7,↓reduceIte,Nat.reduceEqDiff,Option.getD_some,Bool.not_false,he,hv]
   exact ⟨by first | trivial | rfl,hx⟩
 ·have ha':i < 0:=by simpa using ha
  have he:uqE m l i=1:=by unfold uqE; rw [if_neg (by simp [hz]),if_pos (.inl ha')]
  have hv:uqV m l i=0:=WC (by rw [he]; decide)
  simp -implicitDefEqProofs only [A8,AX,BJ,BF,AZ,CJ,D6,F6,DI,AU,A9,BH,BQ,BZ,FN,AL,AO,AJ,BA,AR,AC,AA,EM,AY,AQ,BD,BI,A7,CF,DJ,↓reduceIte,Nat.reduceEqDiff,Option.getD_some,Bool.not_false,he,hv]
  exact ⟨by first | trivial | rfl,hx⟩
theorem AKF (G:Nat→AV) (m:Mo) (l:List Cvr) (s:SM) (i:Int) (hm:MoOk m) (hl : ∀ v∈l,CvOk v) (hn:l.length≤1048576) (h:Hp) :
  PCall (En G) 63 [.agg (DC m),.sl s 4 (l.map D5),.int .i64 i] h (.tup [.int .i64 (uqV m l i:Nat),.int .i64 (uqE m l i)]):=by
 refine LU 2 (fun n H=>rfl) ?_
 refine BX (H:=Hint.none) (enM G) Tryz.func63 rfl (by kernel_rfl) (by kernel_rfl) (Nat.le_of_ble_eq_true (by kernel_rfl)) ?_
 show awp _ _ _ _ _ (EJ _ [.tmp 6,.tmp 7] _)
 have gm:=CQ h (ABlk.live 2 [DC m])
 have hx:ext h (h ++ [ABlk.live 2 [DC m]]):=(ext.rfl' h).app _
 simp -implicitDefEqProofs only [A8,AX,AZ,AU,A9,AL,AO,AJ,BA,AR,AC,AA,AY,AQ,BD,A7,EW,BL,BO,BC,↓reduceIte,Nat.reduceEqDiff,Option.getD_some,Bool.not_false,enP,bxM]
 generalize h ++ [ABlk.live 2 [DC m]]=H at gm hx ⊢
 simp -implicitDefEqProofs only [AU,AL,AO,AJ,BA,AR,AC,AA,AY,AQ,BS,BD,BB,BV,BR,AB,BC,BP,List.map_cons,List.map_nil,List.append_nil,↓reduceIte,Nat.reduceEqDiff,Option.getD_some,Bool.not_false,ldM gm]
 refine (OP G m l s 1024 hm hl hn _).use ?_
 simp -implicitDefEqProofs only [A8,AX,BF,AZ,AU,A9,AL,AO,AJ,BA,AR,AC,AA,AY,AQ,BD,BB,A7,BN,AB,ED,↓reduceIte,Option.getD_some,Bool.not_false,enP,bne]
 by_cases hz:GQ m l 1024=0
 case neg =>
  have hb:(GQ m l 1024 == 0)=false:=by simpa using hz
  have he:uqE m l i=GQ m l 1024:=by unfold uqE; rw [if_pos hz]
  have hv:uqV m l i=0:=WC (by rw [he]; exact hz)
  simp -implicitDefEqProofs only [A8,AX,BJ,AZ,CJ,F6,DI,AU,A9,AL,AO,AJ,BA,AR,AC,AA,AY,AQ,BD,BB,A7,↓reduceIte,Nat.reduceEqDiff,Option.getD_some,Bool.not_false,hb,hv,he]
  exact ⟨by first | trivial | rfl,hx⟩
 obtain ⟨h1,h2,h3⟩:=I6.1 hz
 have hb:((0:Int) == 0)=true:=rfl
 rw [hz]
 simp -implicitDefEqProofs only [A8,AX,BK,AZ,DL,AU,BH,BQ,BZ,AL,AO,AJ,BA,AR,AC,AA,AY,AQ,BD,BB,BN,AB,CO,BC,BP,↓reduceIte,Nat.reduceEqDiff,Option.getD_some,Bool.not_true,Bool.not_false,enP,hb]
 cases ha:decide (i < 0)
 ·have ha' : ¬ i < 0:=by simpa using ha
  simp -implicitDefEqProofs only [BF,AZ,AU,A9,BH,BQ,BZ,EH,AL,AO,AJ,BA,AR,AC,AA,AY,AQ,BI,BB,CF,DK,BN,C8,AB,F3,BC,BP,↓reduceIte,Nat.reduceEqDiff,Option.getD_some,Bool.not_false,enP,OY,List.length_map]
  cases hb2:decide (i≥((l.length:Nat):Int))
  ·have hb' : ¬ i≥((l.length:Nat):Int):=by simpa using hb2
   have he:uqE m l i=0:=by unfold uqE; rw [if_neg (by simp [hz]),if_neg (by omega)]
   have hv:uqV m l i=uniq (goals m) (hits l) l.length i.toNat:=by unfold uqV; rw [if_pos he]
   have hcall:=Y8 G m l s i.toNat (by omega) hm hl hn h1 h3 H
   rw [Int.toNat_of_nonneg (by omega)] at hcall
   simp -implicitDefEqProofs only [A8,AX,BK,AZ,DL,AU,AL,AO,AJ,BA,AR,AC,AA,AY,BS,BB,BL,BV,BR,AB,BC,BP,List.map_cons,List.map_nil,List.append_nil,↓reduceIte,Nat.reduceEqDiff,Option.getD_some,Bool.not_false,enP,ldM gm]
   refine hcall.use ?_
   simp -implicitDefEqProofs only [BJ,AZ,F6,AU,A9,AL,AO,AJ,BA,AR,AC,AA,AY,AQ,BD,A7,↓reduceIte,Nat.reduceEqDiff,Option.getD_some,Bool.not_false,he,hv]
   exact ⟨by first | trivial | rfl,hx⟩
  ·have hb':i≥((l.length:Nat):Int):=by simpa using hb2
   have he:uqE m l i=1:=by unfold uqE; rw [if_neg (by simp [hz]),if_pos (.inr hb')]
   have hv:uqV m l i=0:=WC (by rw [he]; decide)
   simp -implicitDefEqProofs only [A8,AX,BJ,AZ,CJ,F6,DI,AU,A9,AL,AO,AJ,BA,AR,AC,AA,AQ,BD,A7,↓reduceIte,Nat.reduceEqDiff,Option.getD_some,Bool.not_false,he,hv]
   exact ⟨by first | trivial | rfl,hx⟩
 ·have ha':i < 0:=by simpa using ha
  have he:uqE m l i=1:=by unfold uqE; rw [if_neg (by simp [hz]),if_pos (.inl ha')]
  have hv:uqV m l i=0:=WC (by rw [he]; decide)
  simp -implicitDefEqProofs only [A8,AX,BJ,BF,AZ,CJ,F6,DI,AU,A9,BH,BQ,BZ,FN,AL,AO,AJ,BA,AR,AC,AA,EM,AY,AQ,BD,BI,A7,CF,DJ,↓reduceIte,Nat.reduceEqDiff,Option.getD_some,Bool.not_false,he,hv]
  exact ⟨by first | trivial | rfl,hx⟩
/-- Needed's results -/
def ndL (m:Mo) (l:List Cvr):List Nat:=if GQ m l 1024=0 then needed (goals m) (hits l) l.length else []
def AEA (m:Mo) (l:List Cvr) (i:Nat):List Nat:=(List.range i).filter fun j=>decide (0 < uniq (goals m) (hits l) l.length j)
theorem ACS (m:Mo) (l:List Cvr) (i:Nat):AEA m l (i+1)=AEA m l i ++ (if 0 < uniq (goals m) (hits l) l.length i then [i] else []):=by
 unfold AEA
 rw [List.range_succ,List.filter_append]
 congr 1
 by_cases h:0 < uniq (goals m) (hits l) l.length i
 ·rw [if_pos h]; simp [h]
 ·rw [if_neg h]; simp [h]
theorem AGM (m:Mo) (l:List Cvr) (i:Nat):(AEA m l i).length≤i:=by
 unfold AEA
 exact Nat.le_trans (List.length_filter_le _ _) (by simp)
theorem TC (G:Nat→AV) (hG:GOk G) (hT:I4 G) (m:Mo) (l:List Cvr) (s:SM) (hm:MoOk m) (hl : ∀ v∈l,CvOk v) (hn:l.length≤1048576) (h:Hp) :
  PCall (En G) 60 [.agg (DC m),.sl s 4 (l.map D5)] h (.tup [.sl (nm (ndL m l)) 1 ((ndL m l).map EU),.int .i64 (GQ m l 1024)]):=by
 refine M6 _ _ ?_
 refine BX (H:=Hint.none) (enM G) Tryz.func60 rfl (by kernel_rfl) (by kernel_rfl) (Nat.le_of_ble_eq_true (by kernel_rfl)) ?_
 show awp _ _ _ _ _ (EJ _ [.tmp 4,.tmp 5] _)
 have gm:=CQ h (ABlk.live 2 [DC m])
 have hx:ext h (h ++ [ABlk.live 2 [DC m]]):=(ext.rfl' h).app _
 simp -implicitDefEqProofs only [A8,AX,AZ,AU,A9,AL,AO,AJ,BA,AR,AC,AA,AY,AQ,BD,EX,A7,EW,BL,BO,BC,↓reduceIte,Nat.reduceEqDiff,Option.getD_some,Bool.not_false,enP,bxM]
 generalize h ++ [ABlk.live 2 [DC m]]=H0 at gm hx ⊢
 simp -implicitDefEqProofs only [AU,AL,AO,AJ,BA,AR,AC,AA,AY,AQ,BS,BD,BB,BV,BR,AB,BC,BP,List.map_cons,List.map_nil,List.append_nil,↓reduceIte,Nat.reduceEqDiff,Option.getD_some,Bool.not_false,ldM gm]
 refine (MG G hG hT m l s 1024 hm hl hn _).use ?_
 simp -implicitDefEqProofs only [List.getElem?_cons_zero,List.getElem?_cons_succ,A8,AX,BF,AZ,AU,A9,AL,AO,AJ,BA,AR,AC,AA,AY,AQ,BD,BB,A7,BN,D8,FB,AB,ED,↓reduceIte,Nat.reduceEqDiff,Option.getD_some,Bool.not_false,enP,bne]
 by_cases hz:GQ m l 1024=0
 case neg =>
  have hb:(GQ m l 1024 == 0)=false:=by simpa using hz
  have hv:ndL m l = []:=by unfold ndL; rw [if_neg hz]
  simp -implicitDefEqProofs only [A8,AX,BJ,AZ,CJ,F6,DI,AU,A9,AL,AO,AJ,BA,AR,AC,AA,AY,AQ,EX,BB,A7,↓reduceIte,Nat.reduceEqDiff,Option.getD_some,Bool.not_false,hb]
  exact ⟨hx,_,rfl,by rw [hv]; exact outG.nil _ _ _ _⟩
 obtain ⟨h1,h2,h3⟩:=I6.1 hz
 have hgl:=J4 (JF h1)
 have hb:((0:Int) == 0)=true:=rfl
 have hop:opL m l 1024=IW m l:=by unfold opL; rw [if_pos hz]
 have hv:ndL m l=AEA m l l.length:=by unfold ndL; rw [if_pos hz]; rfl
 rw [hop,hz,hv]
 generalize opM m l 1024=om
 have hvl:=NK m l
 simp -implicitDefEqProofs only [A8,BM,AX,BK,AZ,DL,AU,A9,AL,AO,AJ,BA,AR,AC,AA,AY,AQ,BD,EX,BB,A7,C8,AB,↓reduceIte,Nat.reduceEqDiff,Option.getD_some,Bool.not_true,Bool.not_false,enP,O0,hb,List.length_map,hvl]
 refine CS (fun n F H => ∃ i w,n+i=l.length∧F 6 = .sl om 1 ((IW m l).map IC)∧F 8=w∧F 20 = .int .i64 (l.length:Nat)∧F 21 = .int .i64 (i:Nat)∧outG 1 EU H0 (AEA m l i) w H∧ext H0 H) l.length
  ⟨0,_,by simp,by simp -implicitDefEqProofs only [AA,↓reduceIte,Nat.reduceEqDiff],by simp -implicitDefEqProofs only [AA,↓reduceIte,Nat.reduceEqDiff],by simp -implicitDefEqProofs only [AA,↓reduceIte,Nat.reduceEqDiff],by simp -implicitDefEqProofs only [AA,↓reduceIte]; rfl,outG.nil _ _ _ _,ext.rfl' _⟩ ?_
 rintro n F H ⟨i,w,hi,f6,f8,f20,f21,ho,he⟩
 simp -implicitDefEqProofs only [A8,AX,BF,AZ,AU,A9,AL,AO,AJ,BA,AR,AC,AA,AY,BN,AB,CO,↓reduceIte,Option.getD_some,Bool.not_false,enP,f20,f21]
 refine CG (fun hc => ?_) (fun hc => ?_)
 ·have hi':i < l.length:=by simpa using hc
  have hst:=ACS m l i
  have hlen:=AGM m l i
  simp -implicitDefEqProofs only [A8,BM,AX,BK,AZ,AU,A9,AL,AO,AJ,BA,AR,AC,AA,AY,BS,BB,A7,BV,BR,List.map_cons,List.map_nil,List.append_nil,↓reduceIte,Nat.reduceEqDiff,Option.getD_some,Bool.not_false,f6,f21]
  refine (XJ G m l om i hi' hn (by omega) H).use ?_
  simp -implicitDefEqProofs only [BF,AZ,AU,A9,AL,AO,AJ,BA,AR,AC,AA,AY,AQ,BD,BN,AB,EK,↓reduceIte,Option.getD_some,Bool.not_false,enP]
  refine CG (fun hg => ?_) (fun hg => ?_)
  ·have hg':0 < uniq (goals m) (hits l) l.length i:=by simp at hg; omega
   rw [if_pos hg'] at hst
   obtain ⟨w',H2,hap,ho2,_,he2,_,_⟩:=ho.append ML sz3 RV RF (by omega) (by omega) he i
   rw [← hst] at ho2
   simp -implicitDefEqProofs only [E8,FI,AX,AU,AL,AO,AJ,BA,AR,AC,AA,AY,BB,EA,FT,BO,↓reduceIte,Nat.reduceEqDiff,Option.getD_some,Bool.not_false,enP,f8,U1]
   refine FK (v:=w') (h:=H2) hap ?_
   simp -implicitDefEqProofs only [AX,AZ,DU,DZ,AU,A9,AL,AO,AJ,BA,AR,AC,AA,AY,AQ,BD,BB,A7,BN,AB,CR,↓reduceIte,Nat.reduceEqDiff,Option.getD_some,Bool.not_false,enP,f21,CB (show i < 9223372036854775807 by omega)]
   exact ⟨n - 1,by omega,i+1,w',by omega,f6,rfl,f20,rfl,ho2,he2⟩
  ·have hg' : ¬ 0 < uniq (goals m) (hits l) l.length i:=by simp at hg; omega
   rw [if_neg hg',List.append_nil] at hst
   simp -implicitDefEqProofs only [AX,BK,AZ,DU,DZ,AU,A9,AL,AO,AJ,BA,AR,AC,AA,AY,AQ,BD,BB,BN,AB,CR,↓reduceIte,Nat.reduceEqDiff,Option.getD_some,Bool.not_false,enP,f21,CB (show i < 9223372036854775807 by omega)]
   exact ⟨n - 1,by omega,i+1,w,by omega,f6,f8,f20,rfl,by rw [hst]; exact ho,he⟩
 ·have hi':i=l.length:=by
   have : ¬ i < l.length:=by simpa using hc
   omega
  subst hi'
  simp -implicitDefEqProofs only [A8,AX,BJ,CU,AZ,DR,EB,EF,F6,AU,A9,AL,AO,AJ,BA,AR,AC,AA,AY,AQ,BD,BB,A7,↓reduceIte,Nat.reduceEqDiff,Option.getD_some,Bool.not_false,f8]
  exact ⟨hx.trans he,_,rfl,ho.base hx.le⟩
theorem AKH (G:Nat→AV) (m:Mo) (l:List Cvr) (s:SM) (hm:MoOk m) (hl : ∀ v∈l,CvOk v) (hn:l.length≤1048576) (h:Hp) :
  PCall (En G) 61 [.agg (DC m),.sl s 4 (l.map D5)] h (.tup [.sl (nm (ndL m l)) 1 ((ndL m l).map EU),.int .i64 (GQ m l 1024)]):=by
 refine M6 _ _ ?_
 refine BX (H:=Hint.none) (enM G) Tryz.func61 rfl (by kernel_rfl) (by kernel_rfl) (Nat.le_of_ble_eq_true (by kernel_rfl)) ?_
 show awp _ _ _ _ _ (EJ _ [.tmp 4,.tmp 5] _)
 have gm:=CQ h (ABlk.live 2 [DC m])
 have hx:ext h (h ++ [ABlk.live 2 [DC m]]):=(ext.rfl' h).app _
 simp -implicitDefEqProofs only [A8,AX,AZ,AU,A9,AL,AO,AJ,BA,AR,AC,AA,AY,AQ,BD,EX,A7,EW,BL,BO,BC,↓reduceIte,Nat.reduceEqDiff,Option.getD_some,Bool.not_false,enP,bxM]
 generalize h ++ [ABlk.live 2 [DC m]]=H0 at gm hx ⊢
 simp -implicitDefEqProofs only [AU,AL,AO,AJ,BA,AR,AC,AA,AY,AQ,BS,BD,BB,BV,BR,AB,BC,BP,List.map_cons,List.map_nil,List.append_nil,↓reduceIte,Nat.reduceEqDiff,Option.getD_some,Bool.not_false,ldM gm]
 refine (OP G m l s 1024 hm hl hn _).use ?_
 simp -implicitDefEqProofs only [A8,AX,BF,AZ,AU,A9,AL,AO,AJ,BA,AR,AC,AA,AY,AQ,BD,BB,A7,BN,AB,ED,↓reduceIte,Option.getD_some,Bool.not_false,enP,bne]
 by_cases hz:GQ m l 1024=0
 case neg =>
  have hb:(GQ m l 1024 == 0)=false:=by simpa using hz
  have hv:ndL m l = []:=by unfold ndL; rw [if_neg hz]
  simp -implicitDefEqProofs only [A8,AX,BJ,AZ,CJ,F6,DI,AU,A9,AL,AO,AJ,BA,AR,AC,AA,AY,AQ,EX,BB,A7,↓reduceIte,Nat.reduceEqDiff,Option.getD_some,Bool.not_false,hb]
  exact ⟨hx,_,rfl,by rw [hv]; exact outG.nil _ _ _ _⟩
 obtain ⟨h1,h2,h3⟩:=I6.1 hz
 have hb:((0:Int) == 0)=true:=rfl
 have hv:ndL m l=AEA m l l.length:=by unfold ndL; rw [if_pos hz]; rfl
 rw [hz,hv]
 simp -implicitDefEqProofs only [A8,BM,AX,BK,AZ,DL,AU,A9,AL,AO,AJ,BA,AR,AC,AQ,BD,EX,A7,Option.getD_some,Bool.not_true,Bool.not_false,hb]
 refine CS (fun n F H => ∃ i w,n+i=l.length∧F 1 = .sl s 4 (l.map D5)∧F 2 = .ptr h.length 0 0∧F 7=w∧F 8 = .int .i64 (i:Nat)∧outG 1 EU H0 (AEA m l i) w H∧ext H0 H) l.length
  ⟨0,_,by simp,by simp -implicitDefEqProofs only [AA,BC,BP,↓reduceIte,Nat.reduceEqDiff],by simp -implicitDefEqProofs only [AA,↓reduceIte,Nat.reduceEqDiff],by simp -implicitDefEqProofs only [AA,↓reduceIte,Nat.reduceEqDiff],by simp -implicitDefEqProofs only [AA,↓reduceIte]; rfl,outG.nil _ _ _ _,ext.rfl' _⟩ ?_
 rintro n F H ⟨i,w,hi,f1,f2,f7,f8,ho,he⟩
 simp -implicitDefEqProofs only [A8,AX,BF,AZ,AU,A9,AL,AO,AJ,BA,AR,AC,AA,AY,BB,BN,C8,AB,CO,↓reduceIte,Nat.reduceEqDiff,Option.getD_some,Bool.not_false,enP,OY,f1,f8,List.length_map]
 refine CG (fun hc => ?_) (fun hc => ?_)
 ·have hi':i < l.length:=by simpa using hc
  have hst:=ACS m l i
  have hlen:=AGM m l i
  simp -implicitDefEqProofs only [A8,BM,AX,BK,AZ,AU,AL,AO,AJ,BA,AR,AC,AA,AY,BS,BB,BL,BV,BR,AB,List.map_cons,List.map_nil,List.append_nil,↓reduceIte,Nat.reduceEqDiff,Option.getD_some,Bool.not_false,enP,f1,f2,f8,ldM (GN he gm)]
  refine (Y8 G m l s i hi' hm hl hn h1 h3 H).use ?_
  simp -implicitDefEqProofs only [BF,AZ,AU,A9,AL,AO,AJ,BA,AR,AC,AA,AY,AQ,BD,BN,AB,EK,↓reduceIte,Option.getD_some,Bool.not_false,enP]
  refine CG (fun hg => ?_) (fun hg => ?_)
  ·have hg':0 < uniq (goals m) (hits l) l.length i:=by simp at hg; omega
   rw [if_pos hg'] at hst
   obtain ⟨w',H2,hap,ho2,_,he2,_,_⟩:=ho.append ML sz3 RV RF (by omega) (by omega) he i
   rw [← hst] at ho2
   simp -implicitDefEqProofs only [E8,FI,AX,AU,AL,AO,AJ,BA,AR,AC,AA,AY,BB,EA,FT,BO,↓reduceIte,Nat.reduceEqDiff,Option.getD_some,Bool.not_false,enP,f7,f8,U1]
   refine FK (v:=w') (h:=H2) hap ?_
   simp -implicitDefEqProofs only [AX,AZ,DU,DZ,AU,A9,AL,AO,AJ,BA,AR,AC,AA,AY,AQ,BD,BB,A7,BN,AB,CR,↓reduceIte,Nat.reduceEqDiff,Option.getD_some,Bool.not_false,enP,f8,CB (show i < 9223372036854775807 by omega)]
   exact ⟨n - 1,by omega,i+1,w',by omega,f1,f2,rfl,rfl,ho2,he2⟩
  ·have hg' : ¬ 0 < uniq (goals m) (hits l) l.length i:=by simp at hg; omega
   rw [if_neg hg',List.append_nil] at hst
   simp -implicitDefEqProofs only [AX,BK,AZ,DU,DZ,AU,A9,AL,AO,AJ,BA,AR,AC,AA,AY,AQ,BD,BB,A7,BN,AB,CR,↓reduceIte,Nat.reduceEqDiff,Option.getD_some,Bool.not_false,enP,f8,CB (show i < 9223372036854775807 by omega)]
   exact ⟨n - 1,by omega,i+1,w,by omega,f1,f2,f7,rfl,by rw [hst]; exact ho,he⟩
 ·have hi':i=l.length:=by
   have : ¬ i < l.length:=by simpa using hc
   omega
  subst hi'
  simp -implicitDefEqProofs only [A8,AX,BJ,CU,AZ,DR,EB,EF,F6,AU,A9,AL,AO,AJ,BA,AR,AC,AA,AY,AQ,BD,BB,A7,↓reduceIte,Nat.reduceEqDiff,Option.getD_some,Bool.not_false,f7]
  exact ⟨hx.trans he,_,rfl,ho.base hx.le⟩
end Go.Proofs.YtocilianjfhifaaGreatDoor.Rk
/- The reference's chosen and Least; no condition but the variables that are laid, the bounds on lengths. -/
set_option linter.unusedSimpArgs false
set_option maxRecDepth 8000
namespace Go.Proofs.YtocilianjfhifaaGreatDoor.Rk
open Go Go.Proofs Go.Proofs.YtocilianjfhifaaGreatDoor.Sm Go.Proofs.YtocilianjfhifaaGreatDoor.Bins Go.Proofs.YtocilianjfhifaaGreatDoor.Cov Go.RowKit

/-- a list, or nothing -/
def chA:Option (List Nat)→AV
 | some x=>fzG 1 EU x
 | none => .sl .nil 0 []
theorem ALQ (n d:Nat) (H:Hp) (x:List Nat):IM n H (d+1) (fzG 1 EU x)=fzG 1 EU x:=by cases x <;> rfl
theorem AL9 (n:Nat) (H:Hp) (c:Option (List Nat)) (b:Bool):IM n H 2 (.tup [chA c,.bool b]) = .tup [chA c,.bool b]:=by
 show AV.tup [IM n H 1 (chA c),.bool b]=_
 cases c with
 | none=>rfl
 | some x=>unfold chA; simp only; rw [ALQ]
theorem RN.fz (h:Hp) (x:List Nat):RN h (fzG 1 EU x) x:=by
 cases x with
 | nil=>exact .inr (.inl ⟨rfl,0,rfl⟩)
 | cons a b=>exact .inl ⟨.any,rfl⟩
theorem AQ7 (H:Hp) (o:List Nat) (hl:o.length≤8388608) : ∃ v' H',F5 Tryz.prog true H 57 57 (.sl .nil 0 []) (fzG 1 EU o)=some (v',H')∧outG 1 EU H o v' H'∧ext H H':=by
 cases o with
 | nil =>
   refine ⟨.sl .nil 0 [],H,?_,.inl ⟨rfl,rfl⟩,ext.rfl' _⟩
   show F5 Tryz.prog true H 57 57 (.sl .nil 0 []) (.sl .nil 0 [])=_
   simp [F5,ML,sz3,QC,JL,bump]
 | cons a b =>
   refine ⟨_,_,V4 ML sz3 RV RF (J7 H .any 1 ((a :: b).map EU)) (by simp) (JY (by simp at hl ⊢; omega) (by omega)),.inr ⟨by simp,H.length,Nat.le_refl _,by simp,by simp⟩,(ext.rfl' H).app _⟩
theorem AUW (xs:List Nat):LG (xs.map EU)=true:=by
 unfold LG
 rw [List.all_eq_true]
 intro r hr
 obtain ⟨v,_,rfl⟩:=List.mem_map.1 hr
 rfl
theorem TE {β:Type} (f:Nat→Option β) (n j:Nat) (hj:j < n):OV f j (n - j)=(match f j with | some x=>some x | none=>OV f (j+1) (n - (j+1))):=by
 rw [show n - j=(n - (j+1))+1 by omega]
 rfl
set_option maxHeartbeats 4000000 in
theorem AJ0 (G:Nat→AV) (m:Mo) (l:List Cvr) (s:SM) (hm:MoOk m) (hl : ∀ v∈l,CvOk v) (hn:l.length≤1048576) (h1:FH m=0) (h3 : ∀ v∈l,E9 m v=true) :
  ∀ (k:Nat) (o:List Nat) (i:Nat) (h:Hp),(∀ j∈o,j < l.length)→o.length+k≤1048576→i≤1048577 →
  PCall (En G) 123 [.agg (DC m),.sl s 4 (l.map D5),fzG 1 EU o,.int .i64 (i:Nat),.int .i64 (k:Nat)] h (.tup [chA (choose (goals m) (hits l) l.length k o i),.bool (choose (goals m) (hits l) l.length k o i).isSome]):=by
 intro k
 induction k with
 | zero =>
   intro o i h ho hol hi0
   refine LU 2 (fun n H=>AL9 n H _ _) ?_
   refine BX (H:=hint [] [(61,[56])]) (enM G) Tryz.func123 rfl (by kernel_rfl) (by kernel_rfl) (Nat.le_of_ble_eq_true (by kernel_rfl)) ?_
   show awp _ _ _ _ _ (EJ _ [.tmp 10,.tmp 11] _)
   have gm:=CQ h (ABlk.live 2 [DC m])
   have hx:ext h (h ++ [ABlk.live 2 [DC m]]):=(ext.rfl' h).app _
   have z0:(((0:Nat):Int) == 0)=true:=rfl
   simp -implicitDefEqProofs only [CL,List.contains_nil,Nat.reduceBEq,A8,AX,BF,AZ,AU,A9,AJ,BA,AR,AC,AA,AY,AQ,BD,BI,EX,BB,A7,EW,BN,BO,AB,D9,BC,BP,↓reduceIte,Nat.reduceEqDiff,Option.getD_some,Bool.not_false,enP,Bool.false_eq_true,EE,bxM]
   generalize h ++ [ABlk.live 2 [DC m]]=H at gm hx ⊢
   simp -implicitDefEqProofs only [CL,List.contains_nil,Nat.reduceBEq,A8,AX,DI,AU,AJ,BA,AR,AC,AA,AY,BS,BB,BL,BV,BR,AB,BC,BP,List.map_cons,List.map_nil,List.append_nil,↓reduceIte,Nat.reduceEqDiff,Option.getD_some,Bool.not_false,enP,Bool.false_eq_true,EE,z0,ldM gm]
   refine (N9 G m l s o (fzG 1 EU o) hm hl hn ho (by omega) H (RN.fz H o)).use ?_
   have hfit:=QQ h1 h3 ho
   have hge : ∀ j (hj:j < l.length),UC m (LF m (sel l o)) l[j]=gain (goals m) (hits l) o j:=fun j hj=>YR h1 h3 ho hj
   generalize LF m (sel l o)=now at hfit hge ⊢
   have gm2:=C9 (x:=ABlk.live 4 [D5 now]) gm
   have gT:=ldV (CQ H (ABlk.live 4 [D5 now]))
   have hx2:=hx.app [ABlk.live 4 [D5 now]]
   simp -implicitDefEqProofs only [CL,List.contains_nil,Nat.reduceBEq,A8,BM,AX,AZ,AU,A9,AJ,BA,AR,AC,EQ,AA,AY,AQ,BD,A7,FL,EC,BO,DF,↓reduceIte,Nat.reduceEqDiff,Option.getD_some,Bool.not_false,enP,Option.getD_none,Bool.false_eq_true,EE,KN,OW]
   generalize H ++ [ABlk.live 4 [D5 now]]=H1 at gm2 gT hx2 ⊢
   generalize H.length=nb at gT ⊢
   refine FO 0 (fun F' H'=>F' 2=fzG 1 EU o∧H'=H1∧SX (goals m) (hits l) l.length o=true) (fun F' H'=>F' 10 = .sl .nil 0 []∧F' 11 = .bool false∧H'=H1∧SX (goals m) (hits l) l.length o=false) ?_ ?_ ?_
   ·refine CS (fun n F' H' => ∃ j,n+j=l.length∧F' 1 = .sl s 4 (l.map D5)∧F' 2=fzG 1 EU o∧F' 5 = .ptr h.length 0 0∧F' 12 = .ptr nb 0 0∧F' 13 = .int .i64 (j:Nat)∧H'=H1∧∀ q,q < j→gain (goals m) (hits l) o q=0) l.length
     ⟨0,by simp,by simp -implicitDefEqProofs only [AA,BC,BP,↓reduceIte,Nat.reduceEqDiff],by simp -implicitDefEqProofs only [AA,BC,BP,↓reduceIte,Nat.reduceEqDiff],by simp -implicitDefEqProofs only [AA,↓reduceIte,Nat.reduceEqDiff],by simp -implicitDefEqProofs only [AA,↓reduceIte,Nat.reduceEqDiff],by simp -implicitDefEqProofs only [AA,↓reduceIte]; rfl,rfl,fun q hq=>absurd hq (by omega)⟩ ?_
    rintro n F' H' ⟨j,hj,g1,g2,g5,g12,g13,rfl,hq⟩
    simp -implicitDefEqProofs only [CL,List.contains_nil,Nat.reduceBEq,A8,AX,BF,AZ,AU,A9,AJ,BA,AR,AC,AA,AY,BB,BN,C8,AB,CO,↓reduceIte,Nat.reduceEqDiff,Option.getD_some,Bool.not_false,enP,OY,Bool.false_eq_true,EE,g1,g13,List.length_map]
    refine CG (fun hc => ?_) (fun hc => ?_)
    ·have hj':j < l.length:=by simpa using hc
     have hcall:=VL G m now l[j] hm (NC hfit) (hl _ (List.getElem_mem hj')) H'
     rw [hge j hj'] at hcall
     simp -implicitDefEqProofs only [A8,BM,BK,AZ]
     refine EG (by kernel_rfl) ?_
     simp -implicitDefEqProofs only [FJ,CL,List.contains_nil,DT,CZ,DV,ET,EN,GK,DN,FP,FD,AA,AY,AQ,BS,BD,BL,BN,BU,AB,List.map_cons,List.map_nil,List.append_nil,↓reduceIte,Nat.reduceEqDiff,Nat.reduceAdd,Option.getD_some,enP,X6,g1,g5,g12,g13,ldM gm2,gT,CW hj',ES V6 PY JQ hj']
     refine ⟨_,hcall,?_⟩
     try simp -implicitDefEqProofs only [CZ,EO,BF,AZ,AA,AY,AB,EK,↓reduceIte]
     refine CG (fun hg => ?_) (fun hg => ?_)
     ·have hg':0 < gain (goals m) (hits l) o j:=by simp at hg; omega
      have hb:SX (goals m) (hits l) l.length o=false:=by
       rw [← Bool.not_eq_true]
       intro e
       have:=(NS _ _ _ _).1 e j hj'
       omega
      simp -implicitDefEqProofs only [CL,List.contains_nil,Nat.reduceBEq,A8,AX,BJ,AZ,CJ,D6,KC,EZ,AU,A9,AJ,BA,AR,AC,AA,AQ,BI,EX,A7,↓reduceIte,Nat.reduceEqDiff,Option.getD_some,Bool.not_false,Bool.false_eq_true,EE]
      exact ⟨trivial,trivial,trivial,hb⟩
     ·have hg':gain (goals m) (hits l) o j=0:=by simp at hg; omega
      simp -implicitDefEqProofs only [CL,List.contains_nil,Nat.reduceBEq,AX,BK,AZ,DU,DZ,AU,A9,AJ,BA,AR,AC,AA,AY,AQ,BD,BB,A7,BN,AB,CR,↓reduceIte,Nat.reduceEqDiff,Option.getD_some,Bool.not_false,enP,Bool.false_eq_true,EE,g13,CB (show j < 9223372036854775807 by omega)]
      refine ⟨n - 1,by omega,j+1,by omega,g1,g2,g5,g12,rfl,trivial,fun q hq' => ?_⟩
      rcases Nat.eq_or_lt_of_le (Nat.le_of_lt_succ hq') with e | hq'
      ·subst e; exact hg'
      ·exact hq q hq'
    ·have hj':j=l.length:=by
      have : ¬ j < l.length:=by simpa using hc
      omega
     subst hj'
     simp -implicitDefEqProofs only [CU,DR,II,EF,AA,↓reduceIte,Nat.reduceEqDiff]
     exact ⟨g2,trivial,(NS _ _ _ _).2 hq⟩
   ·rintro F' H' ⟨g2,rfl,hb⟩
    have e:choose (goals m) (hits l) l.length 0 o i=some o:=by unfold choose; rw [if_pos hb]
    rw [e]
    simp -implicitDefEqProofs only [CL,List.contains_nil,Nat.reduceBEq,A8,AX,BJ,AZ,CJ,EB,F6,AU,A9,AJ,BA,AR,AC,AA,AY,AQ,BI,BB,A7,↓reduceIte,Nat.reduceEqDiff,Option.getD_some,Bool.not_false,Bool.false_eq_true,EE,g2]
    exact ⟨rfl,hx2⟩
   ·rintro F' H' ⟨g10,g11,rfl,hb⟩
    have e:choose (goals m) (hits l) l.length 0 o i=none:=by unfold choose; rw [if_neg (by rw [hb]; decide)]
    rw [e]
    simp -implicitDefEqProofs only [CJ,D6,F6,g10,g11]
    exact ⟨rfl,hx2⟩
 | succ k ih =>
   intro o i h ho hol hi0
   have hch:choose (goals m) (hits l) l.length (k+1) o i=OV (fun j=>choose (goals m) (hits l) l.length k (o ++ [j]) (j+1)) i (l.length - i):=rfl
   rw [hch]
   refine LU 2 (fun n H=>AL9 n H _ _) ?_
   refine BX (H:=hint [] [(61,[56])]) (enM G) Tryz.func123 rfl (by kernel_rfl) (by kernel_rfl) (Nat.le_of_ble_eq_true (by kernel_rfl)) ?_
   show awp _ _ _ _ _ (EJ _ [.tmp 10,.tmp 11] _)
   have gm:=CQ h (ABlk.live 2 [DC m])
   have hx:ext h (h ++ [ABlk.live 2 [DC m]]):=(ext.rfl' h).app _
   have z0:(((k+1:Nat):Int) == 0)=false:=by rw [beq_eq_false_iff_ne]; omega
   have hwk:IntKind.i64.wrap (((k+1:Nat):Int) - 1)=((k:Nat):Int):=by rw [wrap_i64 (by omega) (by omega)]; omega
   simp -implicitDefEqProofs only [CL,List.contains_nil,Nat.reduceBEq,A8,AX,BF,AZ,AU,A9,AJ,BA,AR,AC,AA,AY,AQ,BD,BI,EX,BB,A7,EW,BN,BO,AB,D9,BC,BP,↓reduceIte,Nat.reduceEqDiff,Option.getD_some,Bool.not_false,enP,Bool.false_eq_true,EE,bxM]
   generalize h ++ [ABlk.live 2 [DC m]]=H at gm hx ⊢
   simp -implicitDefEqProofs only [CL,List.contains_nil,Nat.reduceBEq,A8,BM,AX,BK,AZ,DL,AU,A9,AJ,BA,AR,AC,AA,AY,BB,A7,BC,BP,↓reduceIte,Nat.reduceEqDiff,Option.getD_some,Bool.not_false,Bool.false_eq_true,EE,z0]
   refine FO 2 (fun F' H'=>ext h H'∧OV (fun j=>choose (goals m) (hits l) l.length k (o ++ [j]) (j+1)) i (l.length - i)=none) (fun F' H'=>F' 11 = .bool true∧ext h H'∧∃ x,F' 10=fzG 1 EU x∧OV (fun j=>choose (goals m) (hits l) l.length k (o ++ [j]) (j+1)) i (l.length - i)=some x) ?_ ?_ ?_
   ·refine CS (fun n F' H' => ∃ j,n+min j l.length=l.length∧i≤j∧j≤1048577∧F' 1 = .sl s 4 (l.map D5)∧F' 2=fzG 1 EU o∧F' 4 = .int .i64 (k+1:Nat)∧F' 5 = .ptr h.length 0 0∧F' 14 = .int .i64 (j:Nat)∧ext H H'∧OV (fun j=>choose (goals m) (hits l) l.length k (o ++ [j]) (j+1)) i (l.length - i)=OV (fun j=>choose (goals m) (hits l) l.length k (o ++ [j]) (j+1)) j (l.length - j)) (l.length - min i l.length)
     ⟨i,by omega,Nat.le_refl _,hi0,by simp -implicitDefEqProofs only [AA,BC,BP,↓reduceIte,Nat.reduceEqDiff],by simp -implicitDefEqProofs only [AA,BC,BP,↓reduceIte,Nat.reduceEqDiff],by simp -implicitDefEqProofs only [AA,BC,BP,↓reduceIte,Nat.reduceEqDiff],by simp -implicitDefEqProofs only [AA,↓reduceIte,Nat.reduceEqDiff],by simp -implicitDefEqProofs only [AA,↓reduceIte],ext.rfl' _,rfl⟩ ?_
    rintro n F' H' ⟨j,hj,hij,hjb,g1,g2,g4,g5,g14,he,htl⟩
    simp -implicitDefEqProofs only [CL,List.contains_nil,Nat.reduceBEq,A8,AX,BF,AZ,AU,A9,AJ,BA,AR,AC,AA,AY,BB,BN,C8,AB,CO,↓reduceIte,Nat.reduceEqDiff,Option.getD_some,Bool.not_false,enP,OY,Bool.false_eq_true,EE,g1,g14,List.length_map]
    refine CG (fun hc => ?_) (fun hc => ?_)
    ·have hj':j < l.length:=by simpa using hc
     rw [TE _ _ _ hj'] at htl
     obtain ⟨v1,H1,a1,o1,e1⟩:=AQ7 H' o (by omega)
     obtain ⟨v2,H2,a2,o2,_,e2,_,_⟩:=o1.append ML sz3 RV RF (by omega) (by omega) e1 j
     simp -implicitDefEqProofs only [CL,List.contains_nil,Nat.reduceBEq,A8,BM,AX,BK,AZ,AU,A9,AJ,BA,AR,AC,AA,AY,AQ,EX,BB,A7,FT,↓reduceIte,Nat.reduceEqDiff,Option.getD_some,Bool.not_false,enP,Bool.false_eq_true,EE,g2]
     refine FK (v:=v1) (h:=H1) a1 ?_
     simp -implicitDefEqProofs only [E8,FI,CL,List.contains_nil,Nat.reduceBEq,A8,AX,AZ,AU,A9,AJ,BA,AR,AC,AA,AY,BB,A7,EA,FT,BO,↓reduceIte,Nat.reduceEqDiff,Option.getD_some,Bool.not_false,enP,Bool.false_eq_true,EE,g14,U1]
     refine FK (v:=v2) (h:=H2) a2 ?_
     rcases o2 with ⟨e,_⟩ | ⟨hne,q,q1,rfl,q3⟩
     ·simp at e
     have hz:=QK (i:=56) (off:=0) (len:=(o ++ [j]).length) q3 (by simp) (by rw [List.drop_zero,List.take_of_length_le (by simp)]; exact AUW _)
     rw [List.drop_zero,List.take_of_length_le (by simp)] at hz
     have he2:ext H' (H2.set q ABlk.dead):=e2.set q1 _
     have gm2:=GN (he.trans he2) gm
     have hfz:fzG 1 EU (o ++ [j]) = .sl .any 1 ((o ++ [j]).map EU):=by cases o <;> rfl
     have hcall:=ih (o ++ [j]) (j+1) (H2.set q ABlk.dead) (fun y hy=>by
      rcases List.mem_append.1 hy with hy | hy
      ·exact ho y hy
      ·simp at hy; omega) (by simp; omega) (by omega)
     rw [hfz] at hcall
     simp -implicitDefEqProofs only [CL,List.contains_nil,Nat.reduceBEq,A8,AX,AZ,AU,A9,AJ,BA,AR,AC,AA,AY,AQ,BS,BD,BB,A7,BL,BN,BV,BR,AB,CR,J8,List.map_cons,List.map_nil,List.append_nil,↓reduceIte,Nat.reduceEqDiff,Option.getD_some,Bool.not_false,enP,Bool.false_eq_true,EE,g1,g4,g5,g14,ldM (GN (he.trans e2) gm),CB (show j < 9223372036854775807 by omega),hwk,NQ,AJ,hz]
     refine hcall.use ?_
     cases hcc:choose (goals m) (hits l) l.length k (o ++ [j]) (j+1) with
     | none =>
       rw [hcc] at htl
       simp -implicitDefEqProofs only [List.getElem?_cons_zero,List.getElem?_cons_succ,CL,List.contains_nil,Nat.reduceBEq,A8,AX,BK,BF,AZ,DU,DZ,DL,AU,A9,AJ,BA,AR,AC,AA,AY,AQ,BD,BB,A7,BN,D8,FB,AB,CR,↓reduceIte,Nat.reduceEqDiff,Option.getD_some,Bool.not_false,enP,Bool.false_eq_true,EE,Option.isSome_none,g14,CB (show j < 9223372036854775807 by omega)]
       exact ⟨n - 1,by omega,j+1,by omega,by omega,by omega,g1,g2,g4,g5,rfl,he.trans he2,htl⟩
     | some x =>
       rw [hcc] at htl
       simp -implicitDefEqProofs only [List.getElem?_cons_zero,List.getElem?_cons_succ,CL,List.contains_nil,Nat.reduceBEq,A8,AX,BJ,BF,AZ,CJ,D6,KC,EZ,DI,AU,A9,AJ,BA,AR,AC,AA,AY,AQ,BI,BB,A7,D8,FB,AB,↓reduceIte,Nat.reduceEqDiff,Option.getD_some,Bool.not_false,Bool.false_eq_true,EE,Option.isSome_some]
       exact ⟨trivial,hx.trans (he.trans he2),x,rfl,htl⟩
    ·have hj' : ¬ j < l.length:=by simpa using hc
     rw [show l.length - j=0 by omega] at htl
     simp -implicitDefEqProofs only [CU,DR,II,EF,↓reduceIte]
     exact ⟨hx.trans he,htl⟩
   ·rintro F' H' ⟨he,htl⟩
    rw [htl]
    simp -implicitDefEqProofs only [CL,List.contains_nil,Nat.reduceBEq,A8,AX,BJ,AZ,EB,F6,AU,A9,AJ,BA,AR,AC,AA,AQ,BI,EX,A7,↓reduceIte,Nat.reduceEqDiff,Option.getD_some,Bool.not_false,Bool.false_eq_true,EE]
    exact ⟨rfl,he⟩
   ·rintro F' H' ⟨g11,he,x,g10,htl⟩
    rw [htl]
    simp -implicitDefEqProofs only [CJ,D6,F6,g10,g11]
    exact ⟨rfl,he⟩
end Go.Proofs.YtocilianjfhifaaGreatDoor.Rk
/- The reference's Least; Clone and Clip; no condition but the variables that are laid, the bounds on lengths. -/
set_option linter.unusedSimpArgs false
set_option maxRecDepth 8000
namespace Go.Proofs.YtocilianjfhifaaGreatDoor.Rk
open Go Go.Proofs Go.Proofs.YtocilianjfhifaaGreatDoor.Sm Go.Proofs.YtocilianjfhifaaGreatDoor.Bins Go.Proofs.YtocilianjfhifaaGreatDoor.Cov Go.RowKit

/-- Least's list -/
def leL (m:Mo) (l:List Cvr):List Nat:=if GQ m l 12=0 then (least (goals m) (hits l) l.length).getD [] else []
theorem ATB {E:Env} {f:FuncId} {args:List AV} {h:Hp} (x:List Nat) (e:Int) (hc:ACalls E f args h fun v H=>v = .tup [fzG 1 EU x,.int .i64 e]∧ext h H):PCall E f args h (.tup [.sl (nm x) 1 (x.map EU),.int .i64 e]):=by
 refine PCall.res (LU 2 (fun n H => ?_) hc) (CvR.tup (CvRL.cons UW (CvRL.refl _)))
 show AV.tup [IM n H 1 (fzG 1 EU x),.int .i64 e]=_
 rw [ALQ]
theorem AOE (G:Nat→AV) (m:Mo) (l:List Cvr) (s:SM) (hm:MoOk m) (hl : ∀ v∈l,CvOk v) (hn:l.length≤1048576) (h:Hp) :
  PCall (En G) 65 [.agg (DC m),.sl s 4 (l.map D5)] h (.tup [.sl (nm (leL m l)) 1 ((leL m l).map EU),.int .i64 (GQ m l 12)]):=by
 refine ATB _ _ ?_
 refine BX (H:=Hint.none) (enM G) Tryz.func65 rfl (by kernel_rfl) (by kernel_rfl) (Nat.le_of_ble_eq_true (by kernel_rfl)) ?_
 show awp _ _ _ _ _ (EJ _ [.tmp 4,.tmp 5] _)
 have gm:=CQ h (ABlk.live 2 [DC m])
 have hx:ext h (h ++ [ABlk.live 2 [DC m]]):=(ext.rfl' h).app _
 simp -implicitDefEqProofs only [A8,AX,AZ,AU,A9,AL,AO,AJ,BA,AR,AC,AA,AY,AQ,BD,EX,A7,EW,BL,BO,BC,↓reduceIte,Nat.reduceEqDiff,Option.getD_some,Bool.not_false,enP,bxM]
 generalize h ++ [ABlk.live 2 [DC m]]=H at gm hx ⊢
 simp -implicitDefEqProofs only [AU,AL,AO,AJ,BA,AR,AC,AA,AY,AQ,BS,BD,BB,BV,BR,AB,BC,BP,List.map_cons,List.map_nil,List.append_nil,↓reduceIte,Nat.reduceEqDiff,Option.getD_some,Bool.not_false,ldM gm]
 refine (OP G m l s 12 hm hl hn _).use ?_
 simp -implicitDefEqProofs only [A8,AX,BF,AZ,AU,A9,AL,AO,AJ,BA,AR,AC,AA,AY,AQ,BD,BB,A7,BN,AB,ED,↓reduceIte,Option.getD_some,Bool.not_false,enP,bne]
 by_cases hz:GQ m l 12=0
 case neg =>
  have hb:(GQ m l 12 == 0)=false:=by simpa using hz
  have hv:leL m l = []:=by unfold leL; rw [if_neg hz]
  rw [hv]
  simp -implicitDefEqProofs only [A8,AX,BJ,AZ,CJ,F6,DI,AU,A9,AL,AO,AJ,BA,AR,AC,AA,AY,AQ,EX,BB,A7,↓reduceIte,Nat.reduceEqDiff,Option.getD_some,Bool.not_false,hb]
  exact ⟨rfl,hx⟩
 obtain ⟨h1,h2,h3⟩:=I6.1 hz
 have hb:((0:Int) == 0)=true:=rfl
 have hv:leL m l=(least (goals m) (hits l) l.length).getD []:=by unfold leL; rw [if_pos hz]
 have hne:=Z6 (goals m) (hits l) l.length
 rw [hz,hv]
 simp -implicitDefEqProofs only [A8,BM,AX,BK,AZ,DL,AU,A9,AL,AO,AJ,BA,AR,AC,AQ,BD,A7,Option.getD_some,Bool.not_true,Bool.not_false,hb]
 have hlz:least (goals m) (hits l) l.length=OV (fun k=>choose (goals m) (hits l) l.length k [] 0) 0 (l.length+1 - 0):=rfl
 generalize hle:least (goals m) (hits l) l.length=r at hne hlz ⊢
 refine CS (fun n F H' => ∃ k,n+k=l.length+1∧F 1 = .sl s 4 (l.map D5)∧F 2 = .ptr h.length 0 0∧F 7 = .int .i64 (k:Nat)∧H'=H∧r=OV (fun k=>choose (goals m) (hits l) l.length k [] 0) k (l.length+1 - k)) (l.length+1)
  ⟨0,by omega,by simp -implicitDefEqProofs only [AA,BC,BP,↓reduceIte,Nat.reduceEqDiff],by simp -implicitDefEqProofs only [AA,↓reduceIte,Nat.reduceEqDiff],by simp -implicitDefEqProofs only [AA,↓reduceIte]; rfl,rfl,hlz⟩ ?_
 rintro n F H' ⟨k,hk,f1,f2,f7,rfl,htl⟩
 have hkn:k < l.length+1:=by
  rcases Nat.lt_or_ge k (l.length+1) with h4 | h4
  ·exact h4
  ·rw [show l.length+1 - k=0 by omega] at htl
   exact absurd htl hne
 rw [TE _ _ _ hkn] at htl
 have hcall:=AJ0 G m l s hm hl hn h1 h3 k [] 0 H' (by simp) (by simp; omega) (by omega)
 simp -implicitDefEqProofs only [A8,BM,AX,AU,AL,AO,AJ,BA,AR,AC,AA,AY,AQ,BS,BD,EX,BB,BL,BV,BR,AB,List.map_cons,List.map_nil,List.append_nil,↓reduceIte,Nat.reduceEqDiff,Option.getD_some,Bool.not_false,enP,f1,f2,f7,ldM gm]
 refine hcall.use ?_
 cases hcc:choose (goals m) (hits l) l.length k [] 0 with
 | none =>
   rw [hcc] at htl
   simp -implicitDefEqProofs only [List.getElem?_cons_zero,List.getElem?_cons_succ,A8,AX,BK,BF,AZ,DU,DZ,DL,AU,A9,AL,AO,AJ,BA,AR,AC,AA,AY,AQ,BD,BB,A7,BN,D8,FB,AB,CR,↓reduceIte,Nat.reduceEqDiff,Option.getD_some,Bool.not_false,enP,Option.isSome_none,f7,CB (show k < 9223372036854775807 by omega)]
   exact ⟨n - 1,by omega,k+1,by omega,f1,f2,rfl,trivial,htl⟩
 | some x =>
   rw [hcc] at htl
   simp -implicitDefEqProofs only [List.getElem?_cons_zero,List.getElem?_cons_succ,A8,AX,BJ,BF,AZ,CJ,D6,EZ,F6,DI,AU,A9,AL,AO,AJ,BA,AR,AC,AA,AY,AQ,BD,BB,A7,D8,FB,AB,↓reduceIte,Nat.reduceEqDiff,Option.getD_some,Bool.not_false,Option.isSome_some]
   rw [htl]
   exact ⟨rfl,hx⟩
end Go.Proofs.YtocilianjfhifaaGreatDoor.Rk
/- rank: Clone, Clip, what marks goals; chooser.choose; no condition but the bounds on lengths. -/
set_option linter.unusedSimpArgs false
set_option maxRecDepth 8000
namespace Go.Proofs.YtocilianjfhifaaGreatDoor.Rk
open Go Go.Proofs Go.Proofs.YtocilianjfhifaaGreatDoor.Sm Go.Proofs.YtocilianjfhifaaGreatDoor.Bins Go.Proofs.YtocilianjfhifaaGreatDoor.Cov Go.RowKit

theorem APF (m:SM) (k:Nat) (xs:List (List AV)):KY Tryz.prog 146 .eql (.sl m k xs) (.sl .nil 0 [])=some (.bool (decide (m = .nil))):=by cases m <;> kernel_rfl
theorem ASL (b o l:Nat):KY Tryz.prog 146 .eql (.own b o l) (.sl .nil 0 [])=some (.bool false):=by kernel_rfl
theorem AE4 (h:Hp):FC Tryz.prog false h 146 0 []=some (.sl .full 1 [],h):=by kernel_rfl
/-- a row of truth values, in a block from n on, or empty -/
def SumV (n:Nat) (h:Hp) (v:AV) (xs:List Bool):Prop:=(∃ b,n≤b∧v = .own b 0 xs.length∧h[b]? = some (ABlk.live 1 (xs.map FU)))∨(xs = []∧∃ s k,v = .sl s k [])
theorem SumV.reads {n:Nat} {h:Hp} {v:AV} {xs:List Bool} (hs:SumV n h v xs):Reads h v xs:=by
 rcases hs with ⟨b,_,rfl,hb⟩ | ⟨rfl,s,k,rfl⟩
 ·exact Reads.own hb
 ·exact ⟨by rw [Z4.1]; rfl,fun k hk=>absurd hk (by simp)⟩
theorem SumV.ext {n:Nat} {h H:Hp} {v:AV} {xs:List Bool} (hs:SumV n h v xs) (he:ext h H):SumV n H v xs:=by
 rcases hs with ⟨b,hn,rfl,hb⟩ | h2
 ·exact .inl ⟨b,hn,rfl,GN he hb⟩
 ·exact .inr h2
theorem SumV.low {n n':Nat} {h:Hp} {v:AV} {xs:List Bool} (hs:SumV n h v xs) (hn:n'≤n):SumV n' h v xs:=by
 rcases hs with ⟨b,h1,rfl,hb⟩ | h2
 ·exact .inl ⟨b,by omega,rfl,hb⟩
 ·exact .inr h2
theorem SumV.leaf {n:Nat} {h:Hp} {v:AV} {xs:List Bool} (hs:SumV n h v xs):v.leaf=true:=by
 rcases hs with ⟨b,hn,rfl,hb⟩ | ⟨_,s,k,rfl⟩ <;> rfl
theorem AE8 (H:Hp) {b:Nat} (hb:H[b]? = some (ABlk.live 1 [])):F5 Tryz.prog true H 146 146 (.sl .full 1 []) (.own b 0 0)=some (.sl .full 1 [],H):=by
 have hc:JL H (.own b 0 0)=some (1,[]):=by rw [OO hb (by simp)]; rfl
 simp [F5,ACE,sz4,QC,hc,bump]
theorem AJZ (G:Nat→AV) {n:Nat} {v:AV} {xs:List Bool} {h:Hp} (hs:SumV n h v xs) (hl:xs.length≤1048576):ACalls (En G) 177 [v] h fun v' H=>SumV h.length H v' xs∧ext h H:=by
 refine BX (H:=Hint.none) (enM G) Tryz.func177 rfl (by kernel_rfl) (by kernel_rfl) (Nat.le_of_ble_eq_true (by kernel_rfl)) ?_
 show awp _ _ _ _ _ (EJ _ [.tmp 2] _)
 rcases hs with ⟨b,hn,rfl,hb⟩ | ⟨rfl,s,k,rfl⟩
 ·simp -implicitDefEqProofs only [E8,A8,AX,BK,BF,AZ,DL,AU,A9,AL,AO,AJ,BA,AR,AC,AA,AY,AQ,EX,BB,A7,EA,BN,FT,BO,AB,BC,↓reduceIte,Nat.reduceEqDiff,Option.getD_some,Bool.not_false,enP,ASL,AE4]
  cases xs with
  | nil =>
    refine FK (v := .sl .full 1 []) (h:=h) (AE8 h hb) ?_
    simp -implicitDefEqProofs only [BJ,AZ,CK,AU,A9,AL,AO,AJ,BA,AR,AC,AA,AY,A7,↓reduceIte,Option.getD_some,Bool.not_false]
    exact ⟨.inr ⟨rfl,_,_,rfl⟩,ext.rfl' _⟩
  | cons x xs =>
    have hc:JL h (.own b 0 (x :: xs).length)=some (1,(x :: xs).map FU):=by rw [OO hb (by simp),List.drop_zero,List.take_of_length_le (by simp)]
    refine FK (ABA ACE sz4 AUE AU4 hc (by simp) (JY (by simp at hl ⊢; omega) (by omega))) ?_
    simp -implicitDefEqProofs only [BJ,AZ,CK,AU,A9,AL,AO,AJ,BA,AR,AC,AA,AY,A7,List.map_cons,List.nil_append,↓reduceIte,Option.getD_some,Bool.not_false]
    refine ⟨.inl ⟨h.length,Nat.le_refl _,by simp,?_⟩,(ext.rfl' h).app _⟩
    exact CQ _ _
 ·simp -implicitDefEqProofs only [A8,AX,BF,AZ,AU,A9,AL,AO,AJ,BA,AR,AC,AA,AY,AQ,EX,BB,A7,BN,AB,BC,↓reduceIte,Nat.reduceEqDiff,Option.getD_some,Bool.not_false,enP,APF]
  refine CG (fun hc => ?_) (fun hc => ?_)
  ·simp -implicitDefEqProofs only [A8,AX,BJ,AZ,CJ,CK,AU,A9,AL,AO,AJ,BA,AR,AC,AA,AQ,EX,A7,↓reduceIte,Option.getD_some,Bool.not_false]
   exact ⟨.inr ⟨rfl,_,_,rfl⟩,ext.rfl' _⟩
  ·simp -implicitDefEqProofs only [E8,A8,AX,BK,BJ,AZ,CK,AU,A9,AL,AO,AJ,BA,AR,AC,AA,AY,BB,A7,EA,FT,BO,BC,↓reduceIte,Nat.reduceEqDiff,Option.getD_some,Bool.not_false,enP,AE4,AH6 ACE sz4 (.inr rfl)]
   exact ⟨.inr ⟨rfl,_,_,rfl⟩,ext.rfl' _⟩
theorem AT4 (G:Nat→AV) {n:Nat} {s:SM} {v:AV} {xs ys:List Bool} {h:Hp} (hs:SumV n h v xs) (hl:ys.length=xs.length) (hn:xs.length≤1048576) :
  ∃ H',ACalls (En G) 115 [v,.sl s 1 (ys.map FU)] h (fun r H=>r = .tup []∧H=H')∧SumV n H' v (orL xs ys)∧(∀ e,e.length≤n→Sm.ext e h→Sm.ext e H')∧∀ q x,h[q]? = some x→¬ isB v q→H'[q]? = some x:=by
 rcases hs with ⟨b,h1,rfl,hb⟩ | ⟨rfl,s',k,rfl⟩
 ·refine ⟨_,SY G hb hl hn,.inl ⟨b,h1,by rw [AK1 hl],EI hb⟩,fun e he hx=>hx.set (by omega) _,fun q x hq hn => ?_⟩
  have hn' : ¬ b=q:=hn
  rw [List.getElem?_set,if_neg hn']; exact hq
 ·obtain rfl:ys = []:=by simpa using hl
  refine ⟨h,?_,.inr ⟨rfl,_,_,rfl⟩,fun e _ hx=>hx,fun q x hq _=>hq⟩
  refine BX (H:=Hint.none) (enM G) Tryz.func115 rfl (by kernel_rfl) (by kernel_rfl) (Nat.le_of_ble_eq_true (by kernel_rfl)) ?_
  show awp _ _ _ _ _ (EJ _ [] _)
  simp -implicitDefEqProofs only [A8,BM,AX,AZ,AU,A9,AL,AO,AJ,BA,AR,AC,AA,AY,AQ,BD,BB,C8,AB,BC,BP,List.map_nil,↓reduceIte,Option.getD_some,Bool.not_false,enP,Z4,List.length_map]
  refine CS (fun n F H=>F 7 = .int .i64 0∧F 8 = .int .i64 0∧H=h) 0 ⟨by simp -implicitDefEqProofs only [AA,↓reduceIte,Nat.reduceEqDiff] <;> rfl,by simp -implicitDefEqProofs only [AA,↓reduceIte] <;> rfl,rfl⟩ ?_
  rintro n F H ⟨f7,f8,rfl⟩
  have hc:((0:Int) < 0)=False:=by simp
  simp -implicitDefEqProofs only [A8,AX,CU,BF,AZ,DR,EB,EF,AE0,DL,AU,A9,AL,AO,AJ,BA,AR,AC,AA,AY,BN,AB,CO,↓reduceIte,Option.getD_some,Bool.not_false,decide_false,enP,f7,f8,hc,decide_false]
  exact ⟨trivial,trivial⟩
/-- or frozen -/
def SumW (h:Hp) (v:AV) (xs:List Bool):Prop:=SumV 0 h v xs∨v = .sl .any 1 (xs.map FU)
theorem SumW.reads {h:Hp} {v:AV} {xs:List Bool} (hs:SumW h v xs):Reads h v xs:=by
 rcases hs with h1 | rfl
 ·exact h1.reads
 ·exact Reads.sl h _ xs
theorem SumW.ext {h H:Hp} {v:AV} {xs:List Bool} (hs:SumW h v xs) (he:ext h H):SumW H v xs:=by
 rcases hs with h1 | h2
 ·exact .inl (h1.ext he)
 ·exact .inr h2
theorem AHT (G:Nat→AV) {v:AV} {xs:List Bool} {h:Hp} (hs:SumW h v xs) (hl:xs.length≤1048576):ACalls (En G) 177 [v] h fun v' H=>SumV h.length H v' xs∧ext h H:=by
 rcases hs with h1 | rfl
 ·exact AJZ G h1 hl
 refine BX (H:=Hint.none) (enM G) Tryz.func177 rfl (by kernel_rfl) (by kernel_rfl) (Nat.le_of_ble_eq_true (by kernel_rfl)) ?_
 show awp _ _ _ _ _ (EJ _ [.tmp 2] _)
 have hd:decide (SM.any=SM.nil)=false:=rfl
 simp -implicitDefEqProofs only [E8,A8,AX,BK,BF,AZ,DL,AU,A9,AL,AO,AJ,BA,AR,AC,AA,AY,AQ,EX,BB,A7,EA,BN,FT,BO,AB,BC,↓reduceIte,Nat.reduceEqDiff,Option.getD_some,Bool.not_false,enP,APF,hd,AE4]
 cases xs with
 | nil =>
   simp -implicitDefEqProofs only [BJ,AZ,CK,AU,A9,AL,AO,AJ,BA,AR,AC,AA,AY,A7,BO,List.map_nil,↓reduceIte,Option.getD_some,Bool.not_false,List.map_nil,AH6 ACE sz4 (.inr rfl)]
   exact ⟨.inr ⟨rfl,_,_,rfl⟩,ext.rfl' _⟩
 | cons x xs =>
   refine FK (ABA ACE sz4 AUE AU4 (J7 h .any 1 ((x :: xs).map FU)) (by simp) (JY (by simp at hl ⊢; omega) (by omega))) ?_
   simp -implicitDefEqProofs only [BJ,AZ,CK,AU,A9,AL,AO,AJ,BA,AR,AC,AA,AY,A7,List.map_cons,List.nil_append,↓reduceIte,Option.getD_some,Bool.not_false]
   refine ⟨.inl ⟨h.length,Nat.le_refl _,by simp,?_⟩,(ext.rfl' h).app _⟩
   exact CQ _ _
/-- Clip's list -/
def AA5 (o:List Nat):AV:=match o with
 | [] => .sl .nil 1 []
 | _ => .sl .full 1 (o.map EU)
theorem AQU (h:Hp) (o:List Nat):LM Tryz.prog h 57 (.sl (nm o) 1 (o.map EU)) none (some (.int .i64 (o.length:Nat))) (some (.int .i64 (o.length:Nat)))=some (AA5 o):=by
 have hb:IE (some (.int .i64 (o.length:Nat))) none=some o.length:=by first | (simp [IE]; done) | (simp [IE]; omega)
 have hb':IE (some (.int .i64 (o.length:Nat))) (some (o.map EU).length)=some o.length:=by first | (simp [IE]; done) | (simp [IE]; omega)
 have h0:IE none (some 0)=some 0:=rfl
 unfold LM
 simp only [ML,sz3,hb,hb',h0]
 rw [if_pos ⟨trivial,Nat.zero_le _,Nat.le_refl _,by simp,rfl⟩]
 cases o with
 | nil=>rfl
 | cons a o =>
   simp only [List.drop_zero,Nat.sub_zero]
   rw [List.take_of_length_le (by simp)]
   rfl
theorem AN0 (G:Nat→AV) (o:List Nat) (h:Hp):PCall (En G) 178 [.sl (nm o) 1 (o.map EU)] h (AA5 o):=by
 refine BX (H:=Hint.none) (enM G) Tryz.func178 rfl (by kernel_rfl) (by kernel_rfl) (Nat.le_of_ble_eq_true (by kernel_rfl)) ?_
 show awp _ _ _ _ _ (EJ _ [.tmp 2] _)
 simp -implicitDefEqProofs only [Option.map_some,Option.map_none,A8,AX,BJ,AZ,CK,AU,A9,AL,AO,AJ,BA,AR,AC,AA,AY,AQ,EX,BB,A7,PL,C8,AB,BC,↓reduceIte,Nat.reduceEqDiff,Option.getD_some,Bool.not_false,enP,GV,List.length_map,AQU]
 exact ⟨by first | trivial | rfl,by first | trivial | rfl⟩
theorem AQ8 (h:Hp) (o:List Nat) (i:Nat) (hl:o.length≤8388608):F5 Tryz.prog false h 57 57 (AA5 o) (.sl .full 1 [EU i])=some (.sl (nm (o ++ [i])) 1 ((o ++ [i]).map EU),h):=by
 cases o with
 | nil =>
   have hr:room 1 8:=JY (by omega) (by omega)
   simp [F5,AA5,ML,sz3,RV,RF,QC,JL,bump,hr,nm]
 | cons a o =>
   show F5 Tryz.prog false h 57 57 (.sl .full 1 ((a :: o).map EU)) _=_
   rw [AJ6 ML sz3 RV RF (J7 h .full 1 [EU i]) (by simp) (JY (by simp at hl ⊢; omega) (by omega))]
   simp [nm]
end Go.Proofs.YtocilianjfhifaaGreatDoor.Rk
/- rank: chooser.choose; no condition but the bounds on lengths. -/
set_option linter.unusedSimpArgs false
set_option maxRecDepth 8000
namespace Go.Proofs.YtocilianjfhifaaGreatDoor.Rk
open Go Go.Proofs Go.Proofs.YtocilianjfhifaaGreatDoor.Sm Go.Proofs.YtocilianjfhifaaGreatDoor.Bins Go.Proofs.YtocilianjfhifaaGreatDoor.Cov Go.RowKit

def AB1 (o:List Nat):AV := .sl (nm o) 1 (o.map EU)
theorem AXM (o:List Nat):JD Tryz.prog 57 (AB1 o)=some (.int .i64 (o.length:Nat)):=by unfold AB1; rw [GV.1,List.length_map]
/-- what choose hands back -/
def chP (k:Nat) (o:List Nat) (c:Option (List Nat)):AV:=match c with
 | some x=>AB1 x
 | none=>if k=0 then AB1 o else .sl .nil 0 []
theorem AL8 (n:Nat) (H:Hp) (k:Nat) (o:List Nat) (c:Option (List Nat)) (b:Bool):IM n H 2 (.tup [chP k o c,.bool b]) = .tup [chP k o c,.bool b]:=by
 show AV.tup [IM n H 1 (chP k o c),.bool b]=_
 cases c with
 | some x=>rfl
 | none=>unfold chP; simp only; split <;> rfl
/-- where to go on -/
def LW (o:List Nat):Nat:=if 0 < o.length then o.getD (o.length - 1) 0+1 else 0
theorem ANI (o:List Nat) (j:Nat):LW (o ++ [j])=j+1:=by
 unfold LW
 rw [if_pos (by simp)]
 simp [List.getD_eq_getElem?_getD]
theorem AP4 (m:Mo) (l:List Cvr) (o:List Nat):AM5 (IB m l o) (IB m l (List.range l.length))=(goals m).countP (fun x=>full (hits l) l.length x && !cov (hits l) o x):=by
 unfold IB
 rw [AGL]
 rfl
theorem AQZ (h:Hp) (s:SM) (k:Nat) (xs:List (List AV)) (u:AV) (hu:u.leaf=true):OH h (.agg [.sl s k xs,u])=some (.ptr h.length 0 0,h ++ [ABlk.live 2 [[.sl s k xs,u]]]):=TR (by simp only [List.all_cons,hu,List.all_nil]; rfl)
theorem APL {h:Hp} {b:Nat} {a u:AV} (hb:h[b]? = some (ABlk.live 2 [[a,u]])):D7 Tryz.prog h 158 (.ptr b 0 0)=some (.agg [a,u]):=by
 rw [IK AYS AOX hb rfl (Nat.le_refl 2)]; rfl
theorem ALI {h:Hp} {b:Nat} {a u:AV} (hb:h[b]? = some (ABlk.live 2 [[a,u]])):D7 Tryz.prog h 143 (.ptr b 0 0)=some a:=by
 rw [DX AYT hb (row := [a,u]) rfl]; rfl
theorem AEC {h:Hp} {b:Nat} {a u:AV} (hb:h[b]? = some (ABlk.live 2 [[a,u]])):D7 Tryz.prog h 146 (.ptr b 0 1)=some u:=by
 rw [DX UI hb (row := [a,u]) rfl]; rfl
theorem AP3 (h:Hp) (o:List Nat) (j:Nat):K6 Tryz.prog h 57 57 (AA5 o) (.sl .full 1 [[.int .i64 (j:Nat)]])=true:=by
 have e : ∀ o:List Nat,((o.map EU).all fun x=>x.all AV.frozen)=true:=fun o=>by
  rw [List.all_eq_true]
  intro r hr
  obtain ⟨v,_,rfl⟩:=List.mem_map.1 hr
  rfl
 have c:JL h (AA5 o)=some (1,o.map EU):=by cases o <;> rfl
 unfold K6
 simp only [ML,sz3,c]
 show ((o.map EU ++ [[AV.int .i64 (j:Nat)]]).all fun x=>x.all AV.frozen)=true
 rw [List.all_append,e]
 rfl
theorem AN8 (h:Hp) (o:List Nat) (i:Nat) (hl:o.length≤8388608):F5 Tryz.prog false h 57 57 (AA5 o) (.sl .full 1 [[.int .i64 (i:Nat)]])=some (AB1 (o ++ [i]),h):=AQ8 h o i hl
set_option maxHeartbeats 4000000 in
theorem AHV (G:Nat→AV) (m:Mo) (l:List Cvr) (s:SM) (hn:l.length≤1048576) (hN:(goals m).length≤1048576) :
  ∀ (k:Nat) (o:List Nat) (h:Hp) (v u:AV),(∀ j∈o,j < l.length)→o.length+k≤1048576→SumW h v (IB m l o)→SumV 0 h u (IB m l (List.range l.length)) →
  PCall (En G) 122 [.agg [.sl s 1 ((IW m l).map IC),u],AB1 o,v,.int .i64 (k:Nat)] h (.tup [chP k o (choose (goals m) (hits l) l.length k o (LW o)),.bool (choose (goals m) (hits l) l.length k o (LW o)).isSome]):=by
 have hvl:=NK m l
 intro k
 induction k with
 | zero =>
   intro o h v u ho hol hv hu
   refine LU 2 (fun n H=>AL8 n H _ _ _ _) ?_
   refine BX (H:=Hint.none) (enM G) Tryz.func122 rfl (by kernel_rfl) (by kernel_rfl) (Nat.le_of_ble_eq_true (by kernel_rfl)) ?_
   show awp _ _ _ _ _ (EJ _ [.tmp 8,.tmp 9] _)
   have gm:=CQ h (ABlk.live 2 [[.sl s 1 ((IW m l).map IC),u]])
   have hx:ext h (h ++ [ABlk.live 2 [[.sl s 1 ((IW m l).map IC),u]]]):=(ext.rfl' h).app _
   have hv1:=hv.ext hx
   have hu1:=hu.ext hx
   have z0:(((0:Nat):Int) == 0)=true:=rfl
   simp -implicitDefEqProofs only [A8,AX,BF,AZ,AU,A9,AL,AO,AJ,BA,AR,AC,AA,AY,AQ,BD,BI,EX,BB,A7,EW,BN,BO,AB,D9,BC,BP,↓reduceIte,Nat.reduceEqDiff,Option.getD_some,Bool.not_false,enP,AQZ h s 1 ((IW m l).map IC) u hu.leaf]
   generalize h ++ [ABlk.live 2 [[.sl s 1 ((IW m l).map IC),u]]]=H at gm hx hv1 hu1 ⊢
   have hcall:=QI G hv1.reads hu1.reads (by rw [FY,FY]) (by rw [FY]; exact hN)
   rw [AP4] at hcall
   simp -implicitDefEqProofs only [A8,AX,DI,AU,AL,AO,AJ,BA,AR,AC,AA,AY,BS,BB,BL,BG,BV,BR,AB,BC,BP,List.map_cons,List.map_nil,List.append_nil,↓reduceIte,Nat.reduceEqDiff,Nat.zero_add,Option.getD_some,Bool.not_false,enP,AEV,z0,AEC gm]
   refine hcall.use ?_
   have hch:choose (goals m) (hits l) l.length 0 o (LW o)=if SX (goals m) (hits l) l.length o=true then some o else none:=rfl
   rw [hch]
   unfold SX
   generalize (goals m).countP (fun x=>full (hits l) l.length x && !cov (hits l) o x)=q
   cases q with
   | zero =>
     simp -implicitDefEqProofs only [Nat.reduceBEq,BJ,AZ,CJ,F6,AU,A9,AL,AO,AJ,BA,AR,AC,AA,AY,AQ,BD,A7,BN,AB,D9,↓reduceIte,Nat.reduceEqDiff,Option.getD_some,Bool.not_false,enP]
     exact ⟨rfl,hx⟩
   | succ q =>
     have e1:(((q+1:Nat):Int) == 0)=false:=by rw [beq_eq_false_iff_ne]; omega
     have e2:(q+1 == 0)=false:=rfl
     simp -implicitDefEqProofs only [BJ,AZ,CJ,F6,AU,A9,AL,AO,AJ,BA,AR,AC,AA,AY,AQ,BD,A7,BN,AB,D9,↓reduceIte,Nat.reduceEqDiff,Option.getD_some,Bool.not_false,enP,e1]
     exact ⟨rfl,hx⟩
 | succ k ih =>
   intro o h v u ho hol hv hu
   have hch:choose (goals m) (hits l) l.length (k+1) o (LW o)=OV (fun j=>choose (goals m) (hits l) l.length k (o ++ [j]) (j+1)) (LW o) (l.length - LW o):=rfl
   rw [hch]
   have hfr:LW o≤1048577:=by
    unfold LW
    split
    ·rename_i h0
     have:=ho (o.getD (o.length - 1) 0) (by rw [List.getD_eq_getElem?_getD,List.getElem?_eq_getElem (by omega)]; exact List.getElem_mem _)
     omega
    ·omega
   refine LU 2 (fun n H=>AL8 n H _ _ _ _) ?_
   refine BX (H:=Hint.none) (enM G) Tryz.func122 rfl (by kernel_rfl) (by kernel_rfl) (Nat.le_of_ble_eq_true (by kernel_rfl)) ?_
   show awp _ _ _ _ _ (EJ _ [.tmp 8,.tmp 9] _)
   have gm:=CQ h (ABlk.live 2 [[.sl s 1 ((IW m l).map IC),u]])
   have hx:ext h (h ++ [ABlk.live 2 [[.sl s 1 ((IW m l).map IC),u]]]):=(ext.rfl' h).app _
   have hv1:=hv.ext hx
   have hu1:=hu.ext hx
   have z0:(((k+1:Nat):Int) == 0)=false:=by rw [beq_eq_false_iff_ne]; omega
   have hwk:IntKind.i64.wrap (((k+1:Nat):Int) - 1)=((k:Nat):Int):=by rw [wrap_i64 (by omega) (by omega)]; omega
   simp -implicitDefEqProofs only [A8,AX,BF,AZ,AU,A9,AL,AO,AJ,BA,AR,AC,AA,AY,AQ,BD,BI,EX,BB,A7,EW,BN,BO,AB,D9,BC,BP,↓reduceIte,Nat.reduceEqDiff,Option.getD_some,Bool.not_false,enP,AQZ h s 1 ((IW m l).map IC) u hu.leaf]
   generalize h ++ [ABlk.live 2 [[.sl s 1 ((IW m l).map IC),u]]]=H at gm hx hv1 hu1 ⊢
   simp -implicitDefEqProofs only [A8,AX,BK,BF,AZ,DL,AU,A9,AL,AO,AJ,BA,AR,AC,AA,AY,AQ,BD,BB,A7,BN,C8,AB,EK,BC,BP,↓reduceIte,Nat.reduceEqDiff,Option.getD_some,Bool.not_false,enP,z0,AXM]
   refine SN (fun F' H'=>F' 1=AB1 o∧F' 2=v∧F' 3 = .int .i64 (k+1:Nat)∧F' 4 = .ptr h.length 0 0∧F' 10 = .int .i64 (LW o:Nat)∧H'=H) (fun _ _=>False) ?_ ?_ ?_ ?_
   ·intro hc
    have h0:0 < o.length:=by simpa using hc
    have hw:IntKind.i64.wrap (((o.length:Nat):Int) - 1)=((o.length - 1:Nat):Int):=by rw [wrap_i64 (by omega) (by omega)]; omega
    have hlt:o.length - 1 < o.length:=by omega
    have hf:LW o=o[o.length - 1]+1:=by
     unfold LW
     rw [if_pos h0,List.getD_eq_getElem?_getD,List.getElem?_eq_getElem hlt]; rfl
    have hlt2:=ho _ (List.getElem_mem hlt)
    have hix : ∀ H:Hp,KL 1 H (AB1 o) (.int .i64 (o.length - 1:Nat))=some (.fptr 1 (o.map EU) (o.length - 1) 0):=fun H=>CW hlt
    have hld : ∀ H:Hp,D7 Tryz.prog H 3 (.fptr 1 (o.map EU) (o.length - 1) 0)=some (.int .i64 (o[o.length - 1]:Nat)):=fun H=>by rw [CP ag3 hlt]; rfl
    rw [hf]
    generalize o[o.length - 1]=y at hld hlt2 ⊢
    simp -implicitDefEqProofs only [AX,UB,AU,A9,AL,AO,AJ,BA,AR,AC,AA,AY,AQ,BD,BB,A7,BL,BN,BU,C8,AB,CR,J8,BC,BP,↓reduceIte,Nat.reduceEqDiff,Option.getD_some,Bool.not_false,enP,IL,AXM,hw,hix,hld,CB (show y < 9223372036854775807 by omega)]
    exact ⟨by first | trivial | rfl,by first | trivial | rfl,by first | trivial | rfl,by first | trivial | rfl,by first | trivial | rfl,by first | trivial | rfl⟩
   ·intro hc
    have h0 : ¬ 0 < o.length:=by simpa using hc
    have hf:LW o=0:=by unfold LW; rw [if_neg h0]
    rw [hf]
    simp -implicitDefEqProofs only [BK,UB,AA,BC,BP,↓reduceIte,Nat.reduceEqDiff]
    exact ⟨by first | trivial | rfl,by first | trivial | rfl,by first | trivial | rfl,by first | trivial | rfl,by first | trivial | rfl,by first | trivial | rfl⟩
   case refine_4=>exact fun _ _ h=>h.elim
   rintro F H' ⟨f1,f2,f3,f4,f10,rfl⟩
   simp -implicitDefEqProofs only [A8,BM,AX,AZ,AU,A9,AL,AO,AJ,BA,AR,AC,AA,AY,BB,A7,↓reduceIte,Option.getD_some,Bool.not_false,f10]
   generalize hT:OV (fun j=>choose (goals m) (hits l) l.length k (o ++ [j]) (j+1)) (LW o) (l.length - LW o)=T
   refine FO 0 (fun F' H'=>Sm.ext h H'∧T=none) (fun F' H'=>F' 9 = .bool true∧Sm.ext h H'∧∃ x,F' 8=AB1 x∧T=some x) ?_ ?_ ?_
   ·refine CS (fun n F' H1 => ∃ j,n+min j l.length=l.length∧LW o≤j∧j≤1048577∧F' 1=AB1 o∧F' 2=v∧F' 3 = .int .i64 (k+1:Nat)∧F' 4 = .ptr h.length 0 0∧F' 11 = .int .i64 (j:Nat)∧Sm.ext H' H1∧T=OV (fun j=>choose (goals m) (hits l) l.length k (o ++ [j]) (j+1)) j (l.length - j)) (l.length - min (LW o) l.length)
     ⟨LW o,by omega,Nat.le_refl _,hfr,by simp -implicitDefEqProofs only [AA,↓reduceIte,Nat.reduceEqDiff,f1],by simp -implicitDefEqProofs only [AA,↓reduceIte,Nat.reduceEqDiff,f2],by simp -implicitDefEqProofs only [AA,↓reduceIte,Nat.reduceEqDiff,f3],by simp -implicitDefEqProofs only [AA,↓reduceIte,Nat.reduceEqDiff,f4],by simp -implicitDefEqProofs only [AA,↓reduceIte],ext.rfl' _,hT.symm⟩ ?_
    rintro n F' H1 ⟨j,hj,hij,hjb,g1,g2,g3,g4,g11,he,htl⟩
    have gm1:=GN he gm
    have hv2:=hv1.ext he
    have hu2:=hu1.ext he
    simp -implicitDefEqProofs only [A8,AX,BF,AZ,AU,A9,AL,AO,AJ,BA,AR,AC,AA,AY,BB,BL,BN,BG,C8,AB,CO,↓reduceIte,Nat.reduceEqDiff,Nat.add_zero,Option.getD_some,Bool.not_false,enP,O0,ALT,g4,g11,ALI gm1,List.length_map,hvl]
    refine CG (fun hc => ?_) (fun hc => ?_)
    ·have hj':j < l.length:=by simpa using hc
     have hjv:j < (IW m l).length:=by omega
     have hva:=N7 m l hj' hjv
     rw [TE _ _ _ hj'] at htl
     simp -implicitDefEqProofs only [A8,BM,AX,BK,AZ,AU,AL,AO,AJ,BA,AR,AC,AA,AY,BS,BB,BV,BR,List.map_cons,List.map_nil,List.append_nil,↓reduceIte,Nat.reduceEqDiff,Option.getD_some,Bool.not_false,g2]
     refine ACalls.mono (AHT G hv2 (by rw [FY]; exact hN)) ?_
     rintro w H2 ⟨hw,he2⟩
     obtain ⟨H3,hadd,hw3,he3,_⟩:=AT4 G (s := .any) (ys:=row m l[j]) hw (by rw [OB,FY]) (by rw [FY]; exact hN)
     rw [Y6 m l o hj'] at hw3
     have hx3:Sm.ext h H3:=he3 h (by have:=he.le; have:=hx.le; omega) (hx.trans (he.trans he2))
     have hx4:Sm.ext H' H3:=he3 H' he.le (he.trans he2)
     have gm2:=GN he2 gm1
     have gm3:=GN hx4 gm
     simp -implicitDefEqProofs only [A8,AX,AZ,AU,A9,AL,AO,AJ,BA,AR,AC,AA,AY,BS,BB,A7,BL,BG,BU,BV,BR,AB,List.map_cons,List.map_nil,List.append_nil,↓reduceIte,Nat.reduceEqDiff,Nat.add_zero,Option.getD_some,Bool.not_false,enP,VI,ALT,g4,g11,ALI gm2,CW hjv,CP UI hjv,RA,hva]
     refine ACalls.mono hadd ?_
     rintro r H4 ⟨rfl,rfl⟩
     have hcall:=ih (o ++ [j]) H4 w u (fun y hy=>by
      rcases List.mem_append.1 hy with hy | hy
      ·exact ho y hy
      ·simp at hy; omega) (by simp; omega) (.inl (hw3.low (Nat.zero_le _))) (hu1.ext hx4)
     rw [ANI] at hcall
     simp -implicitDefEqProofs only [A8,AZ,A9,AC]
     refine EG (by kernel_rfl) ?_
     simp -implicitDefEqProofs only [FJ,E8,FI,DT,CZ,DV,ET,I7,EN,FP,FD,AL,AA,AY,BS,EA,BL,AB,List.map_cons,List.map_nil,List.append_nil,↓reduceIte,Nat.reduceEqDiff,Nat.reduceAdd,Option.getD_some,enP,g1,g3,g4,g11,APL gm3]
     refine ⟨_,AN0 G o _,?_⟩
     simp -implicitDefEqProofs only [FJ,DT,CZ,DV,ET,GK,KU,FX,FP,FD,AL,AA,AY,AQ,BS,BD,BN,D8,AMF,BO,AB,J8,List.map_cons,List.map_nil,List.append_nil,↓reduceIte,Nat.reduceEqDiff,Nat.reduceAdd,Option.getD_some,enP,U1,AP3,AN8 H4 o j (by omega),g1,g2,g3,g4,g11,hwk]
     refine ⟨_,hcall,?_⟩
     cases hcc:choose (goals m) (hits l) l.length k (o ++ [j]) (j+1) with
     | none =>
       rw [hcc] at htl
       simp -implicitDefEqProofs only [FJ,List.getElem?_cons_zero,List.getElem?_cons_succ,DT,CZ,EO,DV,GM,KU,A8,AX,BK,BF,AZ,DU,DZ,DL,AU,A9,AL,AO,AJ,BA,AR,AC,AA,AY,AQ,BD,BB,A7,BN,D8,FB,AB,CR,↓reduceIte,Nat.reduceEqDiff,Nat.reduceAdd,Option.getD_some,Bool.not_false,enP,Option.isSome_none,g1,g2,g3,g4,g11,CB (show j < 9223372036854775807 by omega)]
       exact ⟨n - 1,by omega,j+1,by omega,by omega,by omega,by first | trivial | exact g1,by first | trivial | exact g2,by first | trivial | exact g3,by first | trivial | exact g4,rfl,hx4,htl⟩
     | some x =>
       rw [hcc] at htl
       simp -implicitDefEqProofs only [FJ,List.getElem?_cons_zero,List.getElem?_cons_succ,DT,CZ,EO,DV,GM,KU,A8,AX,BJ,BF,AZ,CJ,D6,KC,EZ,DI,AU,A9,AL,AO,AJ,BA,AR,AC,AA,AY,AQ,BI,BB,A7,D8,FB,AB,↓reduceIte,Nat.reduceEqDiff,Nat.reduceAdd,Option.getD_some,Bool.not_false,Option.isSome_some]
       exact ⟨trivial,hx3,x,rfl,htl⟩
    ·have hj' : ¬ j < l.length:=by simpa using hc
     rw [show l.length - j=0 by omega] at htl
     simp -implicitDefEqProofs only [CU,DR,II,EF,↓reduceIte]
     exact ⟨hx.trans he,htl⟩
   ·rintro F' H1 ⟨he,rfl⟩
    simp -implicitDefEqProofs only [A8,AX,BJ,AZ,EB,F6,AU,A9,AL,AO,AJ,BA,AR,AC,AA,AQ,BI,EX,A7,↓reduceIte,Nat.reduceEqDiff,Option.getD_some,Bool.not_false]
    exact ⟨rfl,he⟩
   ·rintro F' H1 ⟨g9,he,x,g8,rfl⟩
    simp -implicitDefEqProofs only [CJ,D6,F6,g8,g9]
    exact ⟨rfl,he⟩
end Go.Proofs.YtocilianjfhifaaGreatDoor.Rk
/- rank.Least; no condition but the variables that are laid, the bounds on lengths, and cover.tuple's contract. -/
set_option linter.unusedSimpArgs false
set_option maxRecDepth 8000
namespace Go.Proofs.YtocilianjfhifaaGreatDoor.Rk
open Go Go.Proofs Go.Proofs.YtocilianjfhifaaGreatDoor.Sm Go.Proofs.YtocilianjfhifaaGreatDoor.Bins Go.Proofs.YtocilianjfhifaaGreatDoor.Cov Go.RowKit

theorem AVC (h:Hp):JN Tryz.prog h 158=some (.ptr h.length 0 0,h ++ [ABlk.live 2 [[.sl .nil 0 [],.sl .nil 0 []]]]):=JC (row := [.sl .nil 0 [],.sl .nil 0 []]) (by kernel_rfl)
theorem AYI (s:SM) (k:Nat) (xs:List (List AV)) (b o n:Nat):JX Tryz.prog 158 [(0,.sl s k xs),(1,.own b o n)]=some (.agg [.sl s k xs,.own b o n]):=by kernel_rfl
theorem AWS (s:SM) (k:Nat) (xs:List (List AV)):JX Tryz.prog 158 [(0,.sl s k xs),(1,.sl .nil 0 [])]=some (.agg [.sl s k xs,.sl .nil 0 []]):=by kernel_rfl
theorem AXH (h:Hp) (s:SM) (k:Nat) (xs:List (List AV)) (b o n:Nat):FQ Tryz.prog (h ++ [ABlk.live 2 [[.sl .nil 0 [],.sl .nil 0 []]]]) 158 (.ptr h.length 0 0) (.agg [.sl s k xs,.own b o n])=some (h ++ [ABlk.live 2 [[.sl s k xs,.own b o n]]]):=by
 rw [NL (cs := [.sl s k xs,.own b o n]) (row := [.sl .nil 0 [],.sl .nil 0 []]) rfl AOX (CQ _ _) (by exact Nat.le_refl 2),PN]
 rfl
theorem AVO (h:Hp) (s:SM) (k:Nat) (xs:List (List AV)):FQ Tryz.prog (h ++ [ABlk.live 2 [[.sl .nil 0 [],.sl .nil 0 []]]]) 158 (.ptr h.length 0 0) (.agg [.sl s k xs,.sl .nil 0 []])=some (h ++ [ABlk.live 2 [[.sl s k xs,.sl .nil 0 []]]]):=by
 rw [NL (cs := [.sl s k xs,.sl .nil 0 []]) (row := [.sl .nil 0 [],.sl .nil 0 []]) rfl AOX (CQ _ _) (by exact Nat.le_refl 2),PN]
 rfl
theorem APD (G:Nat→AV) (m:Mo) (l:List Cvr) (s:SM) (h:Hp) (h0:0 < l.length) (hn:l.length≤1048576) (hN:(goals m).length≤1048576) :
  PCall (En G) 112 [.sl s 1 ((IW m l).map IC)] h (.sl .any 1 ((IB m l []).map FU)) :=
 AUN _ ((QE G m l s h h0 hn hN).mono fun v H ⟨e1,e2⟩=>⟨⟨_,e2⟩,h.length,Nat.le_refl _,by rw [e1,FY],by rw [e2]; exact CQ _ _⟩)
theorem AHW (G:Nat→AV) (s:SM) (h:Hp):PCall (En G) 122 [.agg [.sl s 1 [],.sl .nil 0 []],.sl .nil 0 [],.sl .nil 0 [],.int .i64 0] h (.tup [.sl .nil 0 [],.bool true]):=by
 refine LU 2 (fun n H=>rfl) ?_
 refine BX (H:=Hint.none) (enM G) Tryz.func122 rfl (by kernel_rfl) (by kernel_rfl) (Nat.le_of_ble_eq_true (by kernel_rfl)) ?_
 show awp _ _ _ _ _ (EJ _ [.tmp 8,.tmp 9] _)
 have gm:=CQ h (ABlk.live 2 [[.sl s 1 [],.sl .nil 0 []]])
 have hx:ext h (h ++ [ABlk.live 2 [[.sl s 1 [],.sl .nil 0 []]]]):=(ext.rfl' h).app _
 have z0:((0:Int) == 0)=true:=rfl
 simp -implicitDefEqProofs only [A8,AX,BF,AZ,AU,A9,AL,AO,AJ,BA,AR,AC,AA,AY,AQ,BD,BI,EX,BB,A7,EW,BN,BO,AB,D9,BC,BP,↓reduceIte,Nat.reduceEqDiff,Option.getD_some,Bool.not_false,enP,AQZ h s 1 [] (.sl .nil 0 []) rfl]
 generalize h ++ [ABlk.live 2 [[.sl s 1 [],.sl .nil 0 []]]]=H at gm hx ⊢
 have hcall:=QI G (Reads.nil H) (Reads.nil H) rfl (Nat.zero_le _)
 have e:((AM5 [] []:Nat):Int)=0:=rfl
 rw [e] at hcall
 simp -implicitDefEqProofs only [A8,AX,DI,AU,AL,AO,AJ,BA,AR,AC,AA,AY,BS,BB,BL,BG,BV,BR,AB,BC,BP,List.map_cons,List.map_nil,List.append_nil,↓reduceIte,Nat.reduceEqDiff,Nat.zero_add,Option.getD_some,Bool.not_false,enP,AEV,z0,AEC gm]
 refine hcall.use ?_
 simp -implicitDefEqProofs only [BJ,AZ,CJ,F6,AU,A9,AL,AO,AJ,BA,AR,AC,AA,AY,AQ,BD,A7,BN,AB,D9,↓reduceIte,Nat.reduceEqDiff,Option.getD_some,Bool.not_false,enP]
 exact ⟨rfl,hx⟩
theorem AJD {γ:Type} (gs:List γ) (P:Nat→γ→Bool):least gs P 0=some []:=by
 have hb:SX gs P 0 []=true:=by
  unfold SX
  rw [beq_iff_eq,List.countP_eq_zero]
  intro x _ hx
  cases hx
 have hc:choose gs P 0 0 [] 0=some []:=by unfold choose; rw [if_pos hb]
 have hl:least gs P 0=OV (fun k=>choose gs P 0 k [] 0) 0 1:=rfl
 rw [hl,OV,hc]
set_option maxHeartbeats 4000000 in
theorem U4 (G:Nat→AV) (hG:GOk G) (hT:I4 G) (m:Mo) (l:List Cvr) (s:SM) (hm:MoOk m) (hl : ∀ v∈l,CvOk v) (hn:l.length≤1048576) (h:Hp) :
  PCall (En G) 64 [.agg (DC m),.sl s 4 (l.map D5)] h (.tup [.sl (nm (leL m l)) 1 ((leL m l).map EU),.int .i64 (GQ m l 12)]):=by
 by_cases hz:GQ m l 12=0
 case neg =>
  have hv:leL m l = []:=by unfold leL; rw [if_neg hz]
  rw [hv]
  refine PCall.res (r := .tup [.sl .nil 0 [],.int .i64 (GQ m l 12)]) ?_ (CvR.tup (CvRL.cons (CvR.sl (Cv.nil 0 1)) (CvRL.refl _)))
  refine LU 3 (fun n H=>rfl) ?_
  refine BX (H:=hint [1000037] []) (enM G) Tryz.func64 rfl (by kernel_rfl) (by kernel_rfl) (Nat.le_of_ble_eq_true (by kernel_rfl)) ?_
  show awp _ _ _ _ _ (EJ _ [.tmp 4,.tmp 5] _)
  have gm:=CQ h (ABlk.live 2 [DC m])
  have hx:ext h (h ++ [ABlk.live 2 [DC m]]):=(ext.rfl' h).app _
  have hb:(GQ m l 12 == 0)=false:=by simpa using hz
  simp -implicitDefEqProofs only [CL,List.contains_cons,List.contains_nil,Nat.reduceBEq,Bool.or_false,A8,AX,AZ,AU,A9,AJ,BA,AR,AC,AA,AY,AQ,BD,EX,A7,EW,BL,BO,BC,↓reduceIte,Nat.reduceEqDiff,Option.getD_some,Bool.not_false,enP,DY,bxM]
  generalize h ++ [ABlk.live 2 [DC m]]=H0 at gm hx ⊢
  simp -implicitDefEqProofs only [CL,List.contains_cons,List.contains_nil,Nat.reduceBEq,Bool.or_false,AU,AJ,BA,AR,AC,AA,AY,AQ,BS,BD,BB,BV,BR,AB,BC,BP,List.map_cons,List.map_nil,List.append_nil,↓reduceIte,Nat.reduceEqDiff,Option.getD_some,Bool.not_false,DY,ldM gm]
  refine (MG G hG hT m l s 12 hm hl hn _).use ?_
  simp -implicitDefEqProofs only [List.getElem?_cons_zero,List.getElem?_cons_succ,CL,List.contains_cons,List.contains_nil,Nat.reduceBEq,Bool.or_false,A8,AX,BJ,BF,AZ,CJ,F6,DI,AU,A9,AJ,BA,AR,AC,AA,AY,AQ,BD,EX,BB,A7,BN,D8,FB,AB,ED,↓reduceIte,Nat.reduceEqDiff,Option.getD_some,Bool.not_false,enP,DY,bne,hb]
  exact ⟨by first | trivial | rfl,hx⟩
 obtain ⟨h1,h2,h3⟩:=I6.1 hz
 have hgl:=J4 (JF h1)
 have hb:((0:Int) == 0)=true:=rfl
 have hop:opL m l 12=IW m l:=by unfold opL; rw [if_pos hz]
 have hv:leL m l=(least (goals m) (hits l) l.length).getD []:=by unfold leL; rw [if_pos hz]
 have hvl:=NK m l
 rw [hv]
 by_cases h0:0 < l.length
 case neg =>
  have hl0:l = []:=List.eq_nil_of_length_eq_zero (by omega)
  subst hl0
  have hle:(least (goals m) (hits []) ([]:List Cvr).length).getD [] = []:=by
   rw [show ([]:List Cvr).length=0 from rfl,AJD]; rfl
  rw [hle,hz]
  refine PCall.res (r := .tup [.sl .nil 0 [],.int .i64 0]) ?_ (CvR.tup (CvRL.cons (CvR.sl (Cv.nil 0 1)) (CvRL.refl _)))
  refine LU 3 (fun n H=>rfl) ?_
  refine BX (H:=hint [1000037] []) (enM G) Tryz.func64 rfl (by kernel_rfl) (by kernel_rfl) (Nat.le_of_ble_eq_true (by kernel_rfl)) ?_
  show awp _ _ _ _ _ (EJ _ [.tmp 4,.tmp 5] _)
  have gm:=CQ h (ABlk.live 2 [DC m])
  have hx:ext h (h ++ [ABlk.live 2 [DC m]]):=(ext.rfl' h).app _
  simp -implicitDefEqProofs only [CL,List.contains_cons,List.contains_nil,Nat.reduceBEq,Bool.or_false,A8,AX,AZ,AU,A9,AJ,BA,AR,AC,AA,AY,AQ,BD,EX,A7,EW,BL,BO,BC,List.map_nil,↓reduceIte,Nat.reduceEqDiff,Option.getD_some,Bool.not_false,enP,DY,bxM]
  generalize h ++ [ABlk.live 2 [DC m]]=H0 at gm hx ⊢
  simp -implicitDefEqProofs only [CL,List.contains_cons,List.contains_nil,Nat.reduceBEq,Bool.or_false,AU,AJ,BA,AR,AC,AA,AY,AQ,BS,BD,BB,BV,BR,AB,BC,BP,List.map_cons,List.map_nil,List.append_nil,↓reduceIte,Nat.reduceEqDiff,Option.getD_some,Bool.not_false,DY,ldM gm]
  have hopen:=MG G hG hT m [] s 12 hm hl hn H0
  rw [hop,hz] at hopen
  refine hopen.use ?_
  generalize opM m [] 12=om
  have hv0:(IW m []).map IC = []:=rfl
  rw [hv0]
  simp -implicitDefEqProofs only [List.getElem?_cons_zero,List.getElem?_cons_succ,CL,List.contains_cons,List.contains_nil,Nat.reduceBEq,Bool.or_false,A8,AX,BK,BF,AZ,DL,AU,A9,AJ,BA,AR,AC,AA,AY,AQ,BS,BD,BB,A7,BN,D8,FB,BV,BR,AB,ED,List.map_cons,List.map_nil,List.append_nil,↓reduceIte,Nat.reduceEqDiff,Option.getD_some,Bool.not_true,Bool.not_false,enP,DY,bne,hb]
  refine (VE G om H0).use ?_
  have hx1:ext h (H0 ++ [ABlk.live 2 [[.sl om 1 [],.sl .nil 0 []]]]):=hx.app _
  have gc:=CQ H0 (ABlk.live 2 [[.sl om 1 [],.sl .nil 0 []]])
  simp -implicitDefEqProofs only [E8,FI,CL,List.contains_cons,List.contains_nil,Nat.reduceBEq,Bool.or_false,A8,BM,AX,AZ,AU,A9,AJ,BA,AR,AC,EQ,AA,AY,AQ,BD,BB,FL,IR,EC,C8,BO,AB,DF,↓reduceIte,Nat.reduceEqDiff,Option.getD_some,Bool.not_false,enP,O0,DY,Option.getD_none,AWS,AVC,AVO,List.length_nil]
  generalize H0 ++ [ABlk.live 2 [[.sl om 1 [],.sl .nil 0 []]]]=H1 at gc hx1 ⊢
  generalize H0.length=cb at gc ⊢
  clear gm hx
  have hc0:decide ((((0:Nat):Int)) < ((0:Nat):Int))=false:=rfl
  have hc1:decide ((0:Int) < 0+1)=true:=rfl
  refine FO 0 (fun F H=>F 6 = .sl om 1 []∧F 8 = .ptr cb 0 0∧H=H1) (fun _ _=>False) ?_ ?_ (fun _ _ hh=>hh.elim)
  ·refine CS (fun n F H=>F 6 = .sl om 1 []∧F 8 = .ptr cb 0 0∧F 27 = .int .i64 0∧F 28 = .int .i64 0∧H=H1) 0 ⟨by simp -implicitDefEqProofs only [AA,↓reduceIte,Nat.reduceEqDiff],by simp -implicitDefEqProofs only [AA,↓reduceIte,Nat.reduceEqDiff],by simp -implicitDefEqProofs only [AA,↓reduceIte,Nat.reduceEqDiff] <;> rfl,by simp -implicitDefEqProofs only [AA,↓reduceIte] <;> rfl,rfl⟩ ?_
   rintro n F H ⟨f6,f8,f27,f28,rfl⟩
   have hc:((0:Int) < 0)=False:=by simp
   simp -implicitDefEqProofs only [CL,List.contains_cons,List.contains_nil,Nat.reduceBEq,Bool.or_false,A8,AX,CU,BF,AZ,DR,II,EF,DL,AU,A9,AJ,BA,AR,AC,AA,AY,BN,AB,CO,↓reduceIte,Nat.reduceEqDiff,Option.getD_some,Bool.not_false,decide_false,enP,DY,f27,f28,hc,decide_false]
   exact ⟨f6,f8,trivial⟩
  ·rintro F H ⟨f6,f8,rfl⟩
   have hw:IntKind.i64.wrap ((((0:Nat):Int))+1)=1:=by decide
   simp -implicitDefEqProofs only [CL,List.contains_cons,List.contains_nil,Nat.reduceBEq,Bool.or_false,A8,BM,AX,AZ,EB,AU,A9,AJ,BA,AR,AC,AA,AY,AQ,BD,BB,BN,C8,AB,CR,↓reduceIte,Option.getD_some,Bool.not_false,enP,O0,DY,f6,List.length_nil,hw]
   refine CS (fun n F' H'=>F' 6 = .sl om 1 []∧F' 8 = .ptr cb 0 0∧F' 41 = .int .i64 1∧F' 42 = .int .i64 0∧H'=H) 0 ⟨by simp -implicitDefEqProofs only [AA,↓reduceIte,Nat.reduceEqDiff,f6],by simp -implicitDefEqProofs only [AA,↓reduceIte,Nat.reduceEqDiff,f8],by simp -implicitDefEqProofs only [AA,↓reduceIte,Nat.reduceEqDiff],by simp -implicitDefEqProofs only [AA,↓reduceIte],rfl⟩ ?_
   rintro n F' H' ⟨g6,g8,g41,g42,rfl⟩
   have hc:((0:Int) < 1)=True:=by simp
   simp -implicitDefEqProofs only [CL,List.contains_cons,List.contains_nil,Nat.reduceBEq,Bool.or_false,A8,BM,AX,BK,BF,AZ,DI,AU,A9,AJ,BA,AR,AC,AA,AY,BB,A7,BN,AB,CO,↓reduceIte,Nat.reduceEqDiff,Option.getD_some,Bool.not_false,decide_true,enP,DY,g41,g42,hc,decide_true]
   refine EG (by kernel_rfl) ?_
   simp -implicitDefEqProofs only [FJ,CL,List.contains_cons,List.contains_nil,Nat.reduceBEq,Bool.or_false,DT,CZ,DV,ET,EN,KU,FP,FD,AA,AY,AQ,BS,EX,BL,D8,AB,List.map_cons,List.map_nil,List.append_nil,↓reduceIte,Nat.reduceEqDiff,Nat.reduceAdd,Option.getD_some,enP,g6,g8,APL gc]
   refine ⟨_,VE G om _,?_⟩
   try simp -implicitDefEqProofs only []
   refine ⟨_,AHW G om _,?_⟩
   try simp -implicitDefEqProofs only [FJ,List.getElem?_cons_zero,List.getElem?_cons_succ,CL,List.contains_cons,List.contains_nil,Nat.reduceBEq,Bool.or_false,DT,CZ,EO,DV,GM,KU,A8,AX,BJ,BF,AZ,CJ,D6,EZ,F6,DI,AU,A9,AJ,BA,AR,AC,AA,AY,AQ,BD,BB,A7,D8,FB,AB,↓reduceIte,Nat.reduceEqDiff,Nat.reduceAdd,Option.getD_some,Bool.not_false,DY]
   exact ⟨by first | trivial | rfl,hx1⟩
 have hne:=Z6 (goals m) (hits l) l.length
 have hlz:least (goals m) (hits l) l.length=OV (fun k=>choose (goals m) (hits l) l.length k [] 0) 0 (l.length+1 - 0):=rfl
 rw [hz]
 generalize least (goals m) (hits l) l.length=r at hne hlz ⊢
 refine LU 3 (fun n H=>rfl) ?_
 refine BX (H:=hint [1000037] []) (enM G) Tryz.func64 rfl (by kernel_rfl) (by kernel_rfl) (Nat.le_of_ble_eq_true (by kernel_rfl)) ?_
 show awp _ _ _ _ _ (EJ _ [.tmp 4,.tmp 5] _)
 have gm:=CQ h (ABlk.live 2 [DC m])
 have hx:ext h (h ++ [ABlk.live 2 [DC m]]):=(ext.rfl' h).app _
 simp -implicitDefEqProofs only [CL,List.contains_cons,List.contains_nil,Nat.reduceBEq,Bool.or_false,A8,AX,AZ,AU,A9,AJ,BA,AR,AC,AA,AY,AQ,BD,EX,A7,EW,BL,BO,BC,↓reduceIte,Nat.reduceEqDiff,Option.getD_some,Bool.not_false,enP,DY,bxM]
 generalize h ++ [ABlk.live 2 [DC m]]=H0 at gm hx ⊢
 simp -implicitDefEqProofs only [CL,List.contains_cons,List.contains_nil,Nat.reduceBEq,Bool.or_false,AU,AJ,BA,AR,AC,AA,AY,AQ,BS,BD,BB,BV,BR,AB,BC,BP,List.map_cons,List.map_nil,List.append_nil,↓reduceIte,Nat.reduceEqDiff,Option.getD_some,Bool.not_false,DY,ldM gm]
 have hopen:=MG G hG hT m l s 12 hm hl hn H0
 rw [hop,hz] at hopen
 refine hopen.use ?_
 generalize opM m l 12=om
 simp -implicitDefEqProofs only [List.getElem?_cons_zero,List.getElem?_cons_succ,CL,List.contains_cons,List.contains_nil,Nat.reduceBEq,Bool.or_false,A8,AX,BK,BF,AZ,DL,AU,A9,AJ,BA,AR,AC,AA,AY,AQ,BS,BD,BB,A7,BN,D8,FB,BV,BR,AB,ED,List.map_cons,List.map_nil,List.append_nil,↓reduceIte,Nat.reduceEqDiff,Option.getD_some,Bool.not_true,Bool.not_false,enP,DY,bne,hb]
 refine ACalls.mono (QE G m l om H0 h0 hn (by omega)) ?_
 rintro v H1 ⟨rfl,rfl⟩
 have hs0:=C9 (x:=ABlk.live 2 [[.sl om 1 ((IW m l).map IC),.own H0.length 0 (goals m).length]]) (CQ H0 (ABlk.live 1 ((IB m l []).map FU)))
 have gc:=CQ (H0 ++ [ABlk.live 1 ((IB m l []).map FU)]) (ABlk.live 2 [[.sl om 1 ((IW m l).map IC),.own H0.length 0 (goals m).length]])
 have hx1:ext h (H0 ++ [ABlk.live 1 ((IB m l []).map FU)] ++ [ABlk.live 2 [[.sl om 1 ((IW m l).map IC),.own H0.length 0 (goals m).length]]]):=(hx.app _).app _
 have hle0:=hx.le
 have hcb:H0.length < (H0 ++ [ABlk.live 1 ((IB m l []).map FU)]).length:=by simp
 simp -implicitDefEqProofs only [E8,FI,CL,List.contains_cons,List.contains_nil,Nat.reduceBEq,Bool.or_false,A8,BM,AX,AZ,AU,A9,AJ,BA,AR,AC,EQ,AA,AY,AQ,BD,BB,FL,IR,EC,C8,BO,AB,DF,↓reduceIte,Nat.reduceEqDiff,Option.getD_some,Bool.not_false,enP,O0,DY,Option.getD_none,AYI,AVC,AXH,List.length_map,hvl]
 generalize H0 ++ [ABlk.live 1 ((IB m l []).map FU)] ++ [ABlk.live 2 [[.sl om 1 ((IW m l).map IC),.own H0.length 0 (goals m).length]]]=H1 at hs0 gc hx1 ⊢
 generalize (H0 ++ [ABlk.live 1 ((IB m l []).map FU)]).length=cb at gc hcb ⊢
 generalize H0.length=nb at hs0 gc hle0 hcb ⊢
 clear gm hx
 refine FO 0 (fun F H=>F 6 = .sl om 1 ((IW m l).map IC)∧F 8 = .ptr cb 0 0∧H[nb]? = some (ABlk.live 1 ((IB m l (List.range l.length)).map FU))∧H[cb]? = some (ABlk.live 2 [[.sl om 1 ((IW m l).map IC),.own nb 0 (goals m).length]])∧ext h H) (fun _ _=>False) ?_ ?_ (fun _ _ hh=>hh.elim)
 ·refine CS (fun n F H => ∃ i,n+i=l.length∧F 6 = .sl om 1 ((IW m l).map IC)∧F 8 = .ptr cb 0 0∧F 27 = .int .i64 (l.length:Nat)∧F 28 = .int .i64 (i:Nat)∧H[nb]? = some (ABlk.live 1 ((IB m l (List.range i)).map FU))∧H[cb]? = some (ABlk.live 2 [[.sl om 1 ((IW m l).map IC),.own nb 0 (goals m).length]])∧ext h H) l.length
   ⟨0,by simp,by simp -implicitDefEqProofs only [AA,↓reduceIte,Nat.reduceEqDiff],by simp -implicitDefEqProofs only [AA,↓reduceIte,Nat.reduceEqDiff],by simp -implicitDefEqProofs only [AA,↓reduceIte,Nat.reduceEqDiff],by simp -implicitDefEqProofs only [AA,↓reduceIte] <;> rfl,hs0,gc,hx1⟩ ?_
  clear hs0 gc hx1
  rintro n F H ⟨i,hi,f6,f8,f27,f28,hs,gc,he⟩
  simp -implicitDefEqProofs only [CL,List.contains_cons,List.contains_nil,Nat.reduceBEq,Bool.or_false,A8,AX,BF,AZ,AU,A9,AJ,BA,AR,AC,AA,AY,BN,AB,CO,↓reduceIte,Option.getD_some,Bool.not_false,enP,DY,f27,f28]
  refine CG (fun hc => ?_) (fun hc => ?_)
  ·have hi':i < l.length:=by simpa using hc
   have hiv:i < (IW m l).length:=by omega
   have hva:=N7 m l hi' hiv
   have hadd:=SY G (s := .any) (ys:=row m l[i]) hs (by rw [OB,FY]) (by rw [FY]; omega)
   rw [FY,Y6 m l (List.range i) hi',← List.range_succ] at hadd
   simp -implicitDefEqProofs only [CL,List.contains_cons,List.contains_nil,Nat.reduceBEq,Bool.or_false,A8,BM,AX,BK,AZ,AU,A9,AJ,BA,AR,AC,AA,AY,BB,A7,↓reduceIte,Nat.reduceEqDiff,Option.getD_some,Bool.not_false,DY]
   refine EG (by kernel_rfl) ?_
   simp -implicitDefEqProofs only [FJ,AT5,AQW,CL,List.contains_cons,List.contains_nil,Nat.reduceBEq,Bool.or_false,DT,CZ,EO,DV,ET,EN,DW,DN,AX,AZ,DU,DZ,AU,A9,AJ,BA,AR,AC,AA,AY,AQ,BS,BD,BB,BL,BN,BG,BU,AB,CR,List.map_cons,List.map_nil,List.append_nil,↓reduceIte,Nat.reduceEqDiff,Nat.reduceAdd,Nat.zero_add,Option.getD_some,Bool.not_false,enP,VI,AEV,DY,f6,f8,f28,AEC gc,CW hiv,CP UI hiv,RA,hva]
   refine ⟨_,_,hadd,?_⟩
   try simp -implicitDefEqProofs only [f28,CB (show i < 9223372036854775807 by omega)]
   exact ⟨n - 1,by omega,i+1,by omega,by first | exact f6 | trivial,by first | exact f8 | trivial,by first | exact f27 | trivial,by first | trivial | rfl,EI hs,EP gc (by omega),he.set hle0 _⟩
  ·have hi':i=l.length:=by
    have : ¬ i < l.length:=by simpa using hc
    omega
   subst hi'
   simp -implicitDefEqProofs only [CU,DR,II,EF,AA,↓reduceIte,Nat.reduceEqDiff]
   exact ⟨f6,f8,hs,gc,he⟩
 ·clear hs0 gc hx1
  rintro F H ⟨f6,f8,hs,gc,he⟩
  have hu:SumV 0 H (.own nb 0 (goals m).length) (IB m l (List.range l.length)) := .inl ⟨nb,Nat.zero_le _,by rw [FY],hs⟩
  simp -implicitDefEqProofs only [CL,List.contains_cons,List.contains_nil,Nat.reduceBEq,Bool.or_false,A8,BM,AX,AZ,EB,AU,A9,AJ,BA,AR,AC,AA,AY,AQ,BD,BB,BN,C8,AB,CR,↓reduceIte,Option.getD_some,Bool.not_false,enP,O0,DY,f6,List.length_map,hvl,CB (show l.length < 9223372036854775807 by omega)]
  refine CS (fun n F' H' => ∃ k,n+k=l.length+1∧F' 6 = .sl om 1 ((IW m l).map IC)∧F' 8 = .ptr cb 0 0∧F' 41 = .int .i64 (l.length+1:Nat)∧F' 42 = .int .i64 (k:Nat)∧H'=H∧r=OV (fun k=>choose (goals m) (hits l) l.length k [] 0) k (l.length+1 - k)) (l.length+1)
   ⟨0,by omega,by simp -implicitDefEqProofs only [AA,↓reduceIte,Nat.reduceEqDiff,f6],by simp -implicitDefEqProofs only [AA,↓reduceIte,Nat.reduceEqDiff,f8],by simp -implicitDefEqProofs only [AA,↓reduceIte,Nat.reduceEqDiff] <;> rfl,by simp -implicitDefEqProofs only [AA,↓reduceIte] <;> rfl,rfl,hlz⟩ ?_
  rintro n F' H' ⟨k,hk,g6,g8,g41,g42,rfl,htl⟩
  have hkn:k < l.length+1:=by
   rcases Nat.lt_or_ge k (l.length+1) with h4 | h4
   ·exact h4
   ·rw [show l.length+1 - k=0 by omega] at htl
    exact absurd htl hne
  rw [TE _ _ _ hkn] at htl
  have hd:decide (((k:Nat):Int) < ((l.length+1:Nat):Int))=true:=by rw [decide_eq_true_iff]; omega
  have hcall:=(AHV G m l om hn (by omega) k [] H' (.sl .any 1 ((IB m l []).map FU)) (.own nb 0 (goals m).length) (by simp) (by simp; omega) (.inr rfl) hu).args (CvRL.cons (CvR.refl _) (CvRL.cons (CvR.sl (Cv.nil 0 1)) (CvRL.refl _)))
  simp -implicitDefEqProofs only [CL,List.contains_cons,List.contains_nil,Nat.reduceBEq,Bool.or_false,A8,BM,AX,BK,BF,AZ,DI,AU,A9,AJ,BA,AR,AC,AA,AY,BB,A7,BN,AB,CO,↓reduceIte,Nat.reduceEqDiff,Option.getD_some,Bool.not_false,enP,DY,g41,g42,hd]
  refine EG (by kernel_rfl) ?_
  simp -implicitDefEqProofs only [FJ,CL,List.contains_cons,List.contains_nil,Nat.reduceBEq,Bool.or_false,DT,CZ,DV,ET,EN,KU,FP,FD,AA,AY,AQ,BS,EX,BL,D8,AB,List.map_cons,List.map_nil,List.append_nil,↓reduceIte,Nat.reduceEqDiff,Nat.reduceAdd,Option.getD_some,enP,g6,g8,g42,APL gc]
  refine ⟨_,APD G m l om H' h0 hn (by omega),?_⟩
  try simp -implicitDefEqProofs only [g42]
  refine ⟨_,hcall,?_⟩
  have hf0:LW []=0:=rfl
  rw [hf0]
  cases hcc:choose (goals m) (hits l) l.length k [] 0 with
  | none =>
    rw [hcc] at htl
    simp -implicitDefEqProofs only [FJ,List.getElem?_cons_zero,List.getElem?_cons_succ,CL,List.contains_cons,List.contains_nil,Nat.reduceBEq,Bool.or_false,DT,CZ,EO,DV,GM,KU,A8,AX,BK,BF,AZ,DU,DZ,DL,AU,A9,AJ,BA,AR,AC,AA,AY,AQ,BD,BB,BN,D8,FB,AB,CR,↓reduceIte,Nat.reduceEqDiff,Nat.reduceAdd,Option.getD_some,Bool.not_false,enP,DY,Option.isSome_none,g42,CB (show k < 9223372036854775807 by omega)]
    exact ⟨n - 1,by omega,k+1,by omega,by first | exact g6 | trivial,by first | exact g8 | trivial,by first | exact g41 | trivial,by first | trivial | rfl,trivial,htl⟩
  | some x =>
    rw [hcc] at htl
    simp -implicitDefEqProofs only [FJ,List.getElem?_cons_zero,List.getElem?_cons_succ,CL,List.contains_cons,List.contains_nil,Nat.reduceBEq,Bool.or_false,DT,CZ,EO,DV,GM,KU,A8,AX,BJ,BF,AZ,CJ,D6,EZ,F6,DI,AU,A9,AJ,BA,AR,AC,AA,AY,AQ,BD,BB,A7,D8,FB,AB,↓reduceIte,Nat.reduceEqDiff,Nat.reduceAdd,Option.getD_some,Bool.not_false,DY,Option.isSome_some]
    rw [htl]
    exact ⟨by first | trivial | rfl,he⟩
end Go.Proofs.YtocilianjfhifaaGreatDoor.Rk
