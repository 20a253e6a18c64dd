/- Part 12 of the proof (R11, R13, R14, R15, R16, R17, R18, R19, R20, R21); no condition. -/
import Derived.Test.YtocilianjfhifaaGreatDoorV11
set_option linter.unusedVariables false
/- Gains of both sides; no condition but the variables that are laid, the bounds on lengths, and cover.tuple's contract. -/
set_option linter.unusedSimpArgs false
set_option maxRecDepth 8000
namespace Go.Proofs.YtocilianjfhifaaGreatDoor.Rk
open Go Go.Proofs Go.Proofs.YtocilianjfhifaaGreatDoor.Sm Go.Proofs.YtocilianjfhifaaGreatDoor.Bins Go.Proofs.YtocilianjfhifaaGreatDoor.Cov Go.RowKit

/-- is this index of an order in order? -/
def AOD (n:Nat) (xs:List Int) (i:Nat):Bool := !decide (xs.getD i 0 < 0) && !decide (xs.getD i 0≥(n:Int)) && !hasB (xs.take i) (xs.getD i 0)
def W9 (n:Nat) (xs:List Int):Bool:=(List.range xs.length).all fun i=>AOD n xs i
theorem VB {n:Nat} {xs:List Int}:W9 n xs=true↔∀ i,i < xs.length→AOD n xs i=true:=by
 unfold W9
 rw [List.all_eq_true]
 simp only [List.mem_range]
theorem AFK {n:Nat} {xs:List Int} {i:Nat} (hi:i < xs.length):AOD n xs i=(!decide (xs[i] < 0) && !decide (xs[i]≥(n:Int)) && !hasB (xs.take i) xs[i]):=by
 have e:xs.getD i 0=xs[i]:=by simp [List.getD_eq_getElem?_getD,hi]
 unfold AOD
 rw [e]
def gnE (m:Mo) (l:List Cvr) (xs:List Int):Int:=if JC m l 1024≠0 then JC m l 1024 else if W9 l.length xs=true then 0 else 1
def gnL (m:Mo) (l:List Cvr) (xs:List Int):List Nat:=if gnE m l xs=0 then gains (goals m) (hits l) (xs.map Int.toNat) else []
theorem AIA {m:Mo} {l:List Cvr} {xs:List Int}:gnE m l xs=0↔JC m l 1024=0∧W9 l.length xs=true:=by
 unfold gnE
 split
 ·rename_i h; exact ⟨fun e=>absurd e h,fun e=>absurd e.1 h⟩
 ·rename_i h
  have h':JC m l 1024=0:=by simpa using h
  split
  ·rename_i h2; exact ⟨fun _=>⟨h',h2⟩,fun _=>rfl⟩
  ·rename_i h2; exact ⟨fun e=>by omega,fun e=>absurd e.2 h2⟩
theorem AKX (γ:Type) (gs:List γ) (P:Nat→γ→Bool) (o:List Nat) (k:Nat) (hk:k < o.length):gains gs P (o.take (k+1))=gains gs P (o.take k) ++ [gain gs P (o.take k) o[k]]:=by
 rw [List.take_succ_eq_append_getElem hk,AEC]
theorem AOA {n:Nat} {xs:List Int} (h:W9 n xs=true):(xs.map Int.toNat).map FI=xs.map encI∧∀ i∈xs.map Int.toNat,i < n:=by
 rw [VB] at h
 have hb : ∀ z∈xs,0≤z∧z < (n:Int):=fun z hz=>by
  obtain ⟨i,hi,rfl⟩:=List.getElem_of_mem hz
  have:=h i hi
  rw [AFK hi] at this
  simp at this
  omega
 refine ⟨?_,fun i hi => ?_⟩
 ·rw [List.map_map]
  refine List.map_congr_left fun z hz => ?_
  have:=hb z hz
  show [AV.int .i64 ((z.toNat:Nat):Int)] = [AV.int .i64 z]
  rw [Int.toNat_of_nonneg this.1]
 ·obtain ⟨z,hz,rfl⟩:=List.mem_map.1 hi
  have:=hb z hz
  omega
theorem WA {n:Nat} {xs:List Int} {i:Nat} (hi:i < xs.length) (h:AOD n xs i=false):W9 n xs=false:=by
 rw [← Bool.not_eq_true]
 intro e
 rw [VB.1 e i hi] at h; cases h
set_option maxHeartbeats 4000000 in
theorem WR (G:Nat→AV) (hG:GOk G) (hT:J5 G) (m:Mo) (l:List Cvr) (s t:SM) (xs:List Int) (hm:MoOk m) (hl : ∀ v∈l,CvOk v) (hn:l.length≤1048576) (hxn:xs.length≤1048576) (h:Hp) :
  PCall (En G) 57 [.agg (DU m),.sl s 4 (l.map EF),.sl t 1 (xs.map encI)] h (.tup [.sl (nm (gnL m l xs)) 1 ((gnL m l xs).map FI),.int .i64 (gnE m l xs)]):=by
 have gm:=CX h (ABlk.live 2 [DU m])
 have hx:ext h (h ++ [ABlk.live 2 [DU m]]):=(ext.rfl' h).app _
 refine VA _ _ ?_
 refine CG (H:=Hint.none) (enM G) Tryz.func57 rfl (by kernel_rfl) (by kernel_rfl) (Nat.le_of_ble_eq_true (by kernel_rfl)) ?_
 show awp _ _ _ _ _ (EU _ [.tmp 6,.tmp 7] _)
 simp -implicitDefEqProofs only [BB,AZ,A8,AY,BC,AO,AQ,AL,BD,AX,AC,AA,A7,AU,BH,FV,BA,FK,BO,BR,BG,↓reduceIte,Nat.reduceEqDiff,Option.getD_some,Bool.not_false,enP,bxM]
 generalize h ++ [ABlk.live 2 [DU m]]=H at gm hx ⊢
 simp -implicitDefEqProofs only [AY,AO,AQ,AL,BD,AX,AC,AA,A7,AU,CB,BH,BF,CE,BX,AB,BG,BV,List.map_cons,List.map_nil,List.append_nil,↓reduceIte,Nat.reduceEqDiff,Option.getD_some,Bool.not_false,ldM gm]
 refine (NV G hG hT m l s 1024 hm hl hn _).use ?_
 simp -implicitDefEqProofs only [List.getElem?_cons_zero,List.getElem?_cons_succ,BB,AZ,BI,A8,AY,BC,AO,AQ,AL,BD,AX,AC,AA,A7,AU,BH,BF,BA,BQ,ET,FX,AB,EQ,↓reduceIte,Nat.reduceEqDiff,Option.getD_some,Bool.not_false,enP,bne]
 by_cases hz:JC m l 1024=0
 case neg =>
  have hb:(JC m l 1024 == 0)=false:=by simpa using hz
  have hge:gnE m l xs=JC m l 1024:=by unfold gnE; rw [if_pos hz]
  have hgl:gnL m l xs = []:=by unfold gnL; rw [if_neg (by rw [hge]; exact hz)]
  simp -implicitDefEqProofs only [BB,AZ,BM,A8,CS,IV,DX,AY,BC,AO,AQ,AL,BD,AX,AC,AA,A7,AU,FV,BF,BA,↓reduceIte,Nat.reduceEqDiff,Option.getD_some,Bool.not_false,hb]
  exact ⟨hx,_,by rw [hge],by rw [hgl]; exact outG.nil _ _ _ _⟩
 obtain ⟨h1,h2,h3⟩:=LU.1 hz
 have hgl:=KT (J4 h1)
 have hb:((0:Int) == 0)=true:=rfl
 have hop:opL m l 1024=JL m l:=by unfold opL; rw [if_pos hz]
 rw [hop,hz]
 generalize opM m l 1024=om
 have hvl:=O9 m l
 simp -implicitDefEqProofs only [BB,BP,AZ,BN,A8,DY,AY,BC,AO,AQ,AL,BD,AX,AC,AA,A7,AU,BH,BF,DN,AB,BG,BV,↓reduceIte,Nat.reduceEqDiff,Option.getD_some,Bool.not_true,Bool.not_false,enP,IL,hb,List.length_map]
 refine F8 0 (fun F H'=>F 2 = .sl t 1 (xs.map encI)∧F 8 = .sl om 1 ((JL m l).map I9)∧H'=H∧W9 l.length xs=true) (fun F H'=>F 6 = .sl .nil 0 []∧F 7 = .int .i64 1∧H'=H∧W9 l.length xs=false) ?_ ?_ ?_
 ·refine C9 (fun n F H' => ∃ i,n+i=xs.length∧F 2 = .sl t 1 (xs.map encI)∧F 8 = .sl om 1 ((JL m l).map I9)∧F 25 = .sl t 1 (xs.map encI)∧F 26 = .int .i64 (xs.length:Nat)∧F 27 = .int .i64 (i:Nat)∧H'=H∧∀ j,j < i→AOD l.length xs j=true) xs.length
   ⟨0,by simp,by simp -implicitDefEqProofs only [AA,BG,BV,↓reduceIte,Nat.reduceEqDiff],by simp -implicitDefEqProofs only [AA,↓reduceIte,Nat.reduceEqDiff],by simp -implicitDefEqProofs only [AA,↓reduceIte,Nat.reduceEqDiff],by simp -implicitDefEqProofs only [AA,↓reduceIte,Nat.reduceEqDiff],by simp -implicitDefEqProofs only [AA,↓reduceIte]; rfl,rfl,fun j hj=>absurd hj (by omega)⟩ ?_
  rintro n F H' ⟨i,hi,f2,f8,f25,f26,f27,rfl,hok⟩
  simp -implicitDefEqProofs only [BB,AZ,BI,A8,AY,BC,AO,AQ,AL,BD,AX,AC,AA,A7,BQ,AB,CW,↓reduceIte,Option.getD_some,Bool.not_false,enP,f26,f27]
  refine CQ (fun hc => ?_) (fun hc => ?_)
  ·have hi':i < xs.length:=by simpa using hc
   have hat:=AFK (n:=l.length) hi'
   have hcall:=ADK G (xs.take i) (AU1 t i xs.length) xs[i] H' (by rw [List.length_take]; omega)
   have hsl:=AVZ QB sz3 (h:=H') (m:=t) (kk := .i64) (xs:=xs.map encI) (u:=i) (by rw [List.length_map]; omega)
   rw [← List.map_take,List.length_map] at hsl
   simp -implicitDefEqProofs only [BB,BP,AZ,BN,A8,AY,BC,BK,BU,CO,AO,AQ,AL,BD,AX,AC,AA,A7,AU,BH,BF,BA,BO,BQ,BZ,AB,CW,↓reduceIte,Nat.reduceEqDiff,Option.getD_some,Bool.not_false,enP,JQ,f25,f27,DJ hi',CV ag3 hi',Cov.encI0]
   cases ha:decide (xs[i] < 0)
   ·rw [ha] at hat
    simp -implicitDefEqProofs only [AY,BK,BU,CO,EO,AO,AQ,AL,BD,AX,AC,AA,A7,AU,BL,BF,CP,DV,BQ,DN,AB,G7,↓reduceIte,Nat.reduceEqDiff,Option.getD_some,Bool.not_false,enP,QF,f8,List.length_map,hvl]
    cases hb2:decide (xs[i]≥((l.length:Nat):Int))
    ·rw [hb2] at hat
     simp -implicitDefEqProofs only [Option.map_some,Option.map_none,BK,BU,CO,EO,AO,AQ,AL,BD,AX,AC,AA,A7,CB,BF,U1,CE,BX,AB,List.map_cons,List.map_nil,List.append_nil,↓reduceIte,Nat.reduceEqDiff,Option.getD_some,Bool.not_false,enP,f2,hsl]
     refine hcall.use ?_
     simp -implicitDefEqProofs only [BI,A8,AY,BC,AO,AQ,AL,BD,AX,AC,AA,A7,AU,BL,CP,DV,↓reduceIte,Nat.reduceEqDiff,Option.getD_some,Bool.not_false]
     cases hd:hasB (xs.take i) xs[i]
     ·rw [hd] at hat
      simp -implicitDefEqProofs only [AZ,BN,A8,D8,ED,DY,AY,BC,AO,AQ,AL,BD,AX,AC,AA,A7,AU,BH,BF,BQ,AB,CZ,↓reduceIte,Nat.reduceEqDiff,Option.getD_some,Bool.not_false,enP,f27,wrap_succ (show i < 9223372036854775807 by omega)]
      refine ⟨n - 1,by omega,i+1,by omega,f2,f8,f25,f26,rfl,trivial,fun j hj => ?_⟩
      rcases Nat.eq_or_lt_of_le (Nat.le_of_lt_succ hj) with e | hj'
      ·subst e; exact hat
      ·exact hok j hj'
     ·rw [hd] at hat
      simp -implicitDefEqProofs only [BB,AZ,BM,A8,CS,EG,LW,FM,DX,AY,BC,AO,AQ,AL,BD,AX,AC,AA,AU,BH,FV,BA,↓reduceIte,Nat.reduceEqDiff,Option.getD_some,Bool.not_false]
      exact ⟨trivial,trivial,trivial,WA hi' hat⟩
    ·rw [hb2] at hat
     simp -implicitDefEqProofs only [BB,AZ,BM,BI,A8,CS,EG,LW,FM,DX,AY,BC,BK,BU,CO,F5,AO,AQ,AL,BD,AX,AC,AA,EY,A7,AU,BH,BL,FV,BA,CP,DW,↓reduceIte,Nat.reduceEqDiff,Option.getD_some,Bool.not_false]
     exact ⟨trivial,trivial,trivial,WA hi' hat⟩
   ·rw [ha] at hat
    simp -implicitDefEqProofs only [BB,AZ,BM,BI,A8,CS,EG,LW,FM,DX,AY,BC,BK,BU,CO,F5,AO,AQ,AL,BD,AX,AC,AA,EY,A7,AU,BH,BL,FV,BF,BA,CP,DW,↓reduceIte,Nat.reduceEqDiff,Option.getD_some,Bool.not_false]
    exact ⟨trivial,trivial,trivial,WA hi' hat⟩
  ·have hi':i=xs.length:=by
    have : ¬ i < xs.length:=by simpa using hc
    omega
   subst hi'
   simp -implicitDefEqProofs only [DC,DZ,JM,EP,AA,↓reduceIte,Nat.reduceEqDiff]
   exact ⟨f2,f8,trivial,VB.2 fun j hj=>hok j hj⟩
 ·rintro F H' ⟨f2,f8,rfl,hok⟩
  have hge:gnE m l xs=0:=AIA.2 ⟨hz,hok⟩
  have hgn:gnL m l xs=gains (goals m) (hits l) (xs.map Int.toNat):=by unfold gnL; rw [if_pos hge]
  obtain ⟨e1,hlt⟩:=AOA hok
  have hol:(xs.map Int.toNat).length=xs.length:=by rw [List.length_map]
  rw [hge,hgn]
  rw [← e1] at f2
  generalize xs.map Int.toNat=o at f2 hlt hol ⊢
  clear e1 hgn hge
  simp -implicitDefEqProofs only [BB,AZ,A8,EN,AY,BC,AO,AQ,AL,BD,AX,AC,AA,A7,AU,CB,FV,BF,BA,CE,BX,List.map_cons,List.map_nil,List.append_nil,↓reduceIte,Nat.reduceEqDiff,Option.getD_some,Bool.not_false,f8]
  rcases Nat.eq_zero_or_pos l.length with hl0 | hl0
  ·have:l = []:=List.eq_nil_of_length_eq_zero hl0
   subst this
   have ho0:o = []:=by
    cases o with
    | nil=>rfl
    | cons a b=>exact absurd (hlt a (by simp)) (by simp)
   subst ho0
   have hv0:JL m [] = []:=rfl
   have hltd:decide (((0:Nat):Int) < ((0:Nat):Int))=false:=rfl
   simp -implicitDefEqProofs only [List.map_nil,hv0]
   refine (XA G om _).use ?_
   simp -implicitDefEqProofs only [BB,BP,AZ,A8,AY,BC,AO,AQ,AL,BD,AX,AC,AA,A7,AU,BH,BF,BA,DN,AB,List.map_nil,↓reduceIte,Nat.reduceEqDiff,Option.getD_some,Bool.not_false,enP,IL,f2,List.length_nil]
   refine C9 (fun n F H1=>F 12 = .sl .nil 0 []∧F 51 = .int .i64 ((0:Nat):Int)∧F 52 = .int .i64 ((0:Nat):Int)∧H1=H') 0 ⟨by simp -implicitDefEqProofs only [AA,↓reduceIte,Nat.reduceEqDiff],by simp -implicitDefEqProofs only [AA,↓reduceIte,Nat.reduceEqDiff],by simp -implicitDefEqProofs only [AA,↓reduceIte]; rfl,rfl⟩ ?_
   rintro n F1 H1 ⟨g12,g51,g52,rfl⟩
   simp -implicitDefEqProofs only [BB,AZ,BM,DC,BI,A8,DZ,EN,EP,IV,DY,AY,BC,AO,AQ,AL,BD,AX,AC,AA,A7,AU,BH,BF,BA,BQ,AB,CW,↓reduceIte,Nat.reduceEqDiff,Option.getD_some,Bool.not_false,enP,g51,g52,hltd,g12]
   exact ⟨hx,_,rfl,outG.nil _ _ _ _⟩
  refine ACalls.mono (RQ G m l om H' hl0 hn (by omega)) ?_
  rintro v H0 ⟨rfl,rfl⟩
  have hs0:=CX H' (ABlk.live 1 ((I8 m l []).map GH))
  have hx0:ext h (H' ++ [ABlk.live 1 ((I8 m l []).map GH)]):=hx.app _
  have hsl:H'.length < (H' ++ [ABlk.live 1 ((I8 m l []).map GH)]).length:=by simp
  generalize H' ++ [ABlk.live 1 ((I8 m l []).map GH)]=H0 at hs0 hx0 hsl ⊢
  have hsb:=hx.le
  generalize H'.length=sb at hs0 hsl hsb ⊢
  simp -implicitDefEqProofs only [BB,BP,AZ,A8,AY,BC,AO,AQ,AL,BD,AX,AC,AA,A7,AU,BH,BF,BA,DN,AB,↓reduceIte,Nat.reduceEqDiff,Option.getD_some,Bool.not_false,enP,IL,f2,List.length_map]
  refine F8 2 (fun F H=>outG 1 FI H0 (gains (goals m) (hits l) o) (F 12) H∧ext h H) (fun _ _=>False) ?_ ?_ (fun _ _ hh=>hh.elim)
  ·refine C9 (fun n F H => ∃ k w,n+k=o.length∧F 8 = .sl om 1 ((JL m l).map I9)∧F 12=w∧outG 1 FI H0 (gains (goals m) (hits l) (o.take k)) w H∧F 13 = .own sb 0 (goals m).length∧F 50 = .sl t 1 (o.map FI)∧F 51 = .int .i64 (o.length:Nat)∧F 52 = .int .i64 (k:Nat)∧H[sb]? = some (ABlk.live 1 ((I8 m l (o.take k)).map GH))∧ext h H∧H0.length≤H.length) o.length
    ⟨0,.sl .nil 0 [],by simp,by simp -implicitDefEqProofs only [AA,↓reduceIte,Nat.reduceEqDiff,f8],by simp -implicitDefEqProofs only [AA,↓reduceIte,Nat.reduceEqDiff],by rw [List.take_zero]; exact outG.nil _ _ _ _,by simp -implicitDefEqProofs only [AA,↓reduceIte,Nat.reduceEqDiff],by simp -implicitDefEqProofs only [AA,↓reduceIte,Nat.reduceEqDiff],by simp -implicitDefEqProofs only [AA,↓reduceIte,Nat.reduceEqDiff],by simp -implicitDefEqProofs only [AA,↓reduceIte]; rfl,by rw [List.take_zero]; exact hs0,hx0,Nat.le_refl _⟩ ?_
   clear hs0 hx0
   rintro n F H ⟨k,w,hk,g8,g12,ho,g13,g50,g51,g52,hs,he,hle⟩
   simp -implicitDefEqProofs only [BB,AZ,BI,A8,AY,BC,AO,AQ,AL,BD,AX,AC,AA,A7,BQ,AB,CW,↓reduceIte,Option.getD_some,Bool.not_false,enP,g51,g52]
   refine CQ (fun hc => ?_) (fun hc => ?_)
   ·have hk':k < o.length:=by simpa using hc
    have hok':=hlt _ (List.getElem_mem hk')
    have hov:o[k] < (JL m l).length:=by omega
    have hva:=PS m l hok' hov
    have hnew:=AE9 m l (o.take k) hok'
    have hr1:Reads H (.own sb 0 (goals m).length) (I8 m l (o.take k)):=by
     have:=Reads.own hs
     rw [GL] at this; exact this
    have hcall:=RX G hr1 (Reads.sl _ .any (row m l[o[k]])) (by rw [PV,GL]) (by rw [GL]; omega)
    rw [hnew] at hcall
    have hgt:=AKX Gl (goals m) (hits l) o k hk'
    have hgl2:(gains (goals m) (hits l) (o.take k)).length≤1048576:=by unfold gains; simp; omega
    obtain ⟨w',H2,hap,ho2,hk2,hl2,hn2,⟨q,ql,rfl⟩,hx2⟩:=ho.app2 QB sz3 X6 WN (by omega) (by omega) hle (gain (goals m) (hits l) (o.take k) o[k])
    rw [← hgt] at ho2
    have hs2:=hk2 _ _ hs (fun hB=>by have:=ho.lt hB; omega)
    have hadd:=UW G (s := .any) (ys:=row m l[o[k]]) hs2 (by rw [PV,GL]) (by rw [GL]; omega)
    rw [GL,AAP m l (o.take k) hok',← List.take_succ_eq_append_getElem hk'] at hadd
    simp -implicitDefEqProofs only [BB,BP,AZ,BN,A8,AY,BC,AO,AQ,AL,BD,AX,AC,AA,A7,CB,BF,BA,BO,BZ,CE,BX,AB,List.map_cons,List.map_nil,List.append_nil,↓reduceIte,Nat.reduceEqDiff,Option.getD_some,Bool.not_false,enP,JQ,XE,g50,g52,DJ hk',CV ag3 hk',VU,g8,g12,g13,DJ hov,CV V3 hov,TG,hva]
    refine hcall.use ?_
    simp -implicitDefEqProofs only [FP,FZ,AY,AO,AQ,AL,BD,AX,AC,AA,A7,ES,GU,BR,↓reduceIte,Nat.reduceEqDiff,Option.getD_some,Bool.not_false,enP,ACI]
    refine F9 (v := .own q 0 ql) (h:=H2) hap ?_
    simp -implicitDefEqProofs only [AZ,A8,AY,BC,AO,AQ,AL,BD,AX,AC,AA,A7,CB,BF,BA,BO,BZ,CE,BX,AB,List.map_cons,List.map_nil,List.append_nil,↓reduceIte,Nat.reduceEqDiff,Option.getD_some,Bool.not_false,enP,XE,g8,g13,DJ hov,CV V3 hov,TG,hva]
    refine ACalls.mono hadd ?_
    rintro v' H3 ⟨rfl,rfl⟩
    simp -implicitDefEqProofs only [AZ,A8,D8,ED,AY,BC,AO,AQ,AL,BD,AX,AC,AA,A7,AU,BH,BF,BQ,AB,CZ,↓reduceIte,Nat.reduceEqDiff,Option.getD_some,Bool.not_false,enP,g52,wrap_succ (show k < 9223372036854775807 by omega)]
    exact ⟨n - 1,by omega,k+1,_,by omega,g8,rfl,ho2.setB hsl _,g13,g50,g51,rfl,EM hs2,(hx2 h (by omega) he).set hsb _,by rw [List.length_set]; omega⟩
   ·have hk' : ¬ k < o.length:=by simpa using hc
    rw [List.take_of_length_le (by omega)] at ho
    simp -implicitDefEqProofs only [DC,DZ,JM,EP,AA,↓reduceIte,Nat.reduceEqDiff]
    exact ⟨by rw [g12]; exact ho,he⟩
  ·rintro F H ⟨ho,he⟩
   simp -implicitDefEqProofs only [BB,AZ,BM,A8,EN,IV,AY,BC,AO,AQ,AL,BD,AX,AC,AA,A7,AU,BH,BF,BA,↓reduceIte,Nat.reduceEqDiff,Option.getD_some,Bool.not_false]
   exact ⟨he,_,rfl,ho.base (by omega)⟩
 ·rintro F H' ⟨f6,f7,rfl,hok⟩
  have hge:gnE m l xs=1:=by unfold gnE; rw [if_neg (by simp [hz]),if_neg (by simp [hok])]
  have hgn:gnL m l xs = []:=by unfold gnL; rw [if_neg (by rw [hge]; decide)]
  simp -implicitDefEqProofs only [CS,EG,IV,f6,f7]
  exact ⟨hx,_,by rw [hge],by rw [hgn]; exact outG.nil _ _ _ _⟩
end Go.Proofs.YtocilianjfhifaaGreatDoor.Rk
/- Unique and Needed of both sides; no condition but the variables that are laid, the bounds on lengths, and cover.tuple's contract. -/
set_option linter.unusedSimpArgs false
set_option maxRecDepth 8000
namespace Go.Proofs.YtocilianjfhifaaGreatDoor.Rk
open Go Go.Proofs Go.Proofs.YtocilianjfhifaaGreatDoor.Sm Go.Proofs.YtocilianjfhifaaGreatDoor.Bins Go.Proofs.YtocilianjfhifaaGreatDoor.Cov Go.RowKit

theorem AHT (at_ i:Nat):others (i+1) at_=others i at_ ++ (if (i != at_)=true then [i] else []):=by
 unfold others
 rw [List.range_succ,List.filter_append]
 congr 1
 rw [List.filter_cons,List.filter_nil]
theorem Y5 (G:Nat→AV) (m:Mo) (l:List Cvr) (om:SM) (at_:Nat) (hat:at_ < l.length) (hn:l.length≤1048576) (hN:(goals m).length≤1048576) (h:Hp) :
  PCall (En G) 120 [.sl om 1 ((JL m l).map I9),.int .i64 (at_:Nat)] h (.int .i64 (uniq (goals m) (hits l) l.length at_:Nat)):=by
 have hvl:=O9 m l
 refine ACalls.pure0 rfl ?_
 refine CG (H:=Hint.none) (enM G) Tryz.func120 rfl (by kernel_rfl) (by kernel_rfl) (Nat.le_of_ble_eq_true (by kernel_rfl)) ?_
 show awp _ _ _ _ _ (EU _ [.tmp 4] _)
 simp -implicitDefEqProofs only [BB,AZ,A8,AY,BC,AO,AQ,AL,BD,AX,AC,AA,A7,AU,CB,BH,BF,BA,CE,BX,BG,List.map_cons,List.map_nil,List.append_nil,↓reduceIte,Nat.reduceEqDiff,Option.getD_some,Bool.not_false,enP]
 refine ACalls.mono (RQ G m l om h (by omega) hn hN) ?_
 rintro v H0 ⟨rfl,rfl⟩
 have hs0:=CX h (ABlk.live 1 ((I8 m l []).map GH))
 have hx0:ext h (h ++ [ABlk.live 1 ((I8 m l []).map GH)]):=(ext.rfl' h).app _
 generalize h ++ [ABlk.live 1 ((I8 m l []).map GH)]=H0 at hs0 hx0 ⊢
 simp -implicitDefEqProofs only [BB,BP,AZ,A8,AY,BC,AO,AQ,AL,BD,AX,AC,AA,A7,AU,BH,BF,BA,DN,AB,BG,↓reduceIte,Nat.reduceEqDiff,Option.getD_some,Bool.not_false,enP,QF,List.length_map,hvl]
 refine F8 0 (fun F H=>F 0 = .sl om 1 ((JL m l).map I9)∧F 1 = .int .i64 (at_:Nat)∧F 5 = .own h.length 0 (goals m).length∧H[h.length]? = some (ABlk.live 1 ((I8 m l (others l.length at_)).map GH))∧ext h H) (fun _ _=>False) ?_ ?_ (fun _ _ hh=>hh.elim)
 ·refine C9 (fun n F H => ∃ i,n+i=l.length∧F 0 = .sl om 1 ((JL m l).map I9)∧F 1 = .int .i64 (at_:Nat)∧F 5 = .own h.length 0 (goals m).length∧F 10 = .int .i64 (l.length:Nat)∧F 11 = .int .i64 (i:Nat)∧H[h.length]? = some (ABlk.live 1 ((I8 m l (others i at_)).map GH))∧ext h H) l.length
   ⟨0,by simp,by simp -implicitDefEqProofs only [AA,BG,↓reduceIte,Nat.reduceEqDiff],by simp -implicitDefEqProofs only [AA,BG,BV,↓reduceIte,Nat.reduceEqDiff],by simp -implicitDefEqProofs only [AA,↓reduceIte,Nat.reduceEqDiff],by simp -implicitDefEqProofs only [AA,↓reduceIte,Nat.reduceEqDiff],by simp -implicitDefEqProofs only [AA,↓reduceIte]; rfl,hs0,hx0⟩ ?_
  clear hs0 hx0
  rintro n F H ⟨i,hi,f0,f1,f5,f10,f11,hs,he⟩
  simp -implicitDefEqProofs only [BB,AZ,BI,A8,AY,BC,AO,AQ,AL,BD,AX,AC,AA,A7,BQ,AB,CW,↓reduceIte,Option.getD_some,Bool.not_false,enP,f10,f11]
  refine CQ (fun hc => ?_) (fun hc => ?_)
  ·have hi':i < l.length:=by simpa using hc
   have hiv:i < (JL m l).length:=by omega
   have hva:=PS m l hi' hiv
   have hst:=AHT at_ i
   simp -implicitDefEqProofs only [BB,BP,AZ,BN,BI,A8,AY,BC,AO,AQ,AL,BD,AX,AC,AA,A7,BF,BA,BQ,AB,EQ,↓reduceIte,Nat.reduceEqDiff,Option.getD_some,Bool.not_false,enP,f1,f11,bne]
   cases heq:((i:Int) == (at_:Int))
   ·have hne:(i != at_)=true:=by simp at heq ⊢; omega
    rw [if_pos hne] at hst
    have hadd:=UW G (s := .any) (ys:=row m l[i]) hs (by rw [PV,GL]) (by rw [GL]; omega)
    rw [GL,AAP m l (others i at_) hi',← hst] at hadd
    simp -implicitDefEqProofs only [AZ,DX,AY,AO,AQ,AL,BD,AX,AC,AA,A7,CB,BF,BO,BZ,CE,BX,AB,List.map_cons,List.map_nil,List.append_nil,↓reduceIte,Nat.reduceEqDiff,Option.getD_some,Bool.not_false,enP,XE,f0,f5,f11,DJ hiv,CV V3 hiv,TG,hva]
    refine ACalls.mono hadd ?_
    rintro v' H3 ⟨rfl,rfl⟩
    simp -implicitDefEqProofs only [AZ,A8,D8,ED,AY,BC,AO,AQ,AL,BD,AX,AC,AA,A7,AU,BH,BF,BQ,AB,CZ,↓reduceIte,Nat.reduceEqDiff,Option.getD_some,Bool.not_false,enP,f11,wrap_succ (show i < 9223372036854775807 by omega)]
    exact ⟨n - 1,by omega,i+1,by omega,f0,f1,f5,f10,rfl,EM hs,he.set (Nat.le_refl _) _⟩
   ·have hne : ¬ (i != at_)=true:=by simp at heq ⊢; omega
    rw [if_neg hne,List.append_nil] at hst
    simp -implicitDefEqProofs only [AZ,BN,A8,D8,ED,DY,AY,BC,AO,AQ,AL,BD,AX,AC,AA,A7,AU,BH,BF,BQ,AB,CZ,↓reduceIte,Nat.reduceEqDiff,Option.getD_some,Bool.not_true,Bool.not_false,enP,f11,wrap_succ (show i < 9223372036854775807 by omega)]
    exact ⟨n - 1,by omega,i+1,by omega,f0,f1,f5,f10,rfl,by rw [hst]; exact hs,he⟩
  ·have hi':i=l.length:=by
    have : ¬ i < l.length:=by simpa using hc
    omega
   subst hi'
   simp -implicitDefEqProofs only [DC,DZ,JM,EP,AA,↓reduceIte,Nat.reduceEqDiff]
   exact ⟨f0,f1,f5,hs,he⟩
 ·rintro F H ⟨f0,f1,f5,hs,he⟩
  have hav:at_ < (JL m l).length:=by omega
  have hva:=PS m l hat hav
  have hr1:Reads H (.own h.length 0 (goals m).length) (I8 m l (others l.length at_)):=by
   have:=Reads.own hs
   rw [GL] at this; exact this
  have hcall:=RX G hr1 (Reads.sl _ .any (row m l[at_])) (by rw [PV,GL]) (by rw [GL]; omega)
  rw [AE9 m l (others l.length at_) hat] at hcall
  simp -implicitDefEqProofs only [BB,AZ,A8,EN,AY,AO,AQ,AL,BD,AX,AC,AA,A7,CB,BF,BO,BZ,CE,BX,AB,List.map_cons,List.map_nil,List.append_nil,↓reduceIte,Nat.reduceEqDiff,Option.getD_some,Bool.not_false,enP,XE,f0,f1,f5,DJ hav,CV V3 hav,TG,hva]
  refine hcall.use ?_
  simp -implicitDefEqProofs only [BM,A8,CU,AY,BC,AO,AQ,AL,BD,AX,AC,AA,A7,BA,↓reduceIte,Option.getD_some,Bool.not_false]
  exact ⟨rfl,he⟩
/-- Unique's results -/
def uqE (m:Mo) (l:List Cvr) (i:Int):Int:=if JC m l 1024≠0 then JC m l 1024 else if i < 0∨i≥(l.length:Int) then 1 else 0
def uqV (m:Mo) (l:List Cvr) (i:Int):Nat:=if uqE m l i=0 then uniq (goals m) (hits l) l.length i.toNat else 0
theorem AJX {m:Mo} {l:List Cvr} {i:Int} (h:uqE m l i≠0):uqV m l i=0:=by unfold uqV; rw [if_neg h]
theorem AJP (G:Nat→AV) (hG:GOk G) (hT:J5 G) (m:Mo) (l:List Cvr) (s:SM) (i:Int) (hm:MoOk m) (hl : ∀ v∈l,CvOk v) (hn:l.length≤1048576) (h:Hp) :
  PCall (En G) 62 [.agg (DU m),.sl s 4 (l.map EF),.int .i64 i] h (.tup [.int .i64 (uqV m l i:Nat),.int .i64 (uqE m l i)]):=by
 refine NU 2 (fun n H=>rfl) ?_
 refine CG (H:=Hint.none) (enM G) Tryz.func62 rfl (by kernel_rfl) (by kernel_rfl) (Nat.le_of_ble_eq_true (by kernel_rfl)) ?_
 show awp _ _ _ _ _ (EU _ [.tmp 6,.tmp 7] _)
 have gm:=CX h (ABlk.live 2 [DU m])
 have hx:ext h (h ++ [ABlk.live 2 [DU m]]):=(ext.rfl' h).app _
 simp -implicitDefEqProofs only [BB,AZ,A8,AY,BC,AO,AQ,AL,BD,AX,AC,AA,A7,AU,BH,BA,FK,BO,BR,BG,↓reduceIte,Nat.reduceEqDiff,Option.getD_some,Bool.not_false,enP,bxM]
 generalize h ++ [ABlk.live 2 [DU m]]=H at gm hx ⊢
 simp -implicitDefEqProofs only [AY,AO,AQ,AL,BD,AX,AC,AA,A7,AU,CB,BH,BF,CE,BX,AB,BG,BV,List.map_cons,List.map_nil,List.append_nil,↓reduceIte,Nat.reduceEqDiff,Option.getD_some,Bool.not_false,ldM gm]
 refine (NV G hG hT m l s 1024 hm hl hn _).use ?_
 simp -implicitDefEqProofs only [List.getElem?_cons_zero,List.getElem?_cons_succ,BB,BP,AZ,BI,A8,AY,BC,AO,AQ,AL,BD,AX,AC,AA,A7,AU,BH,BF,BA,BQ,ET,FX,AB,EQ,↓reduceIte,Nat.reduceEqDiff,Option.getD_some,Bool.not_false,enP,bne]
 by_cases hz:JC m l 1024=0
 case neg =>
  have hb:(JC m l 1024 == 0)=false:=by simpa using hz
  have he:uqE m l i=JC m l 1024:=by unfold uqE; rw [if_pos hz]
  have hv:uqV m l i=0:=AJX (by rw [he]; exact hz)
  simp -implicitDefEqProofs only [BB,AZ,BM,A8,CS,EG,IV,DX,AY,BC,AO,AQ,AL,BD,AX,AC,AA,A7,AU,BH,BF,BA,↓reduceIte,Nat.reduceEqDiff,Option.getD_some,Bool.not_false,hb,hv,he]
  exact ⟨by first | trivial | rfl,hx⟩
 obtain ⟨h1,h2,h3⟩:=LU.1 hz
 have hgl:=KT (J4 h1)
 have hb:((0:Int) == 0)=true:=rfl
 have hop:opL m l 1024=JL m l:=by unfold opL; rw [if_pos hz]
 rw [hop,hz]
 generalize opM m l 1024=om
 have hvl:=O9 m l
 simp -implicitDefEqProofs only [BB,AZ,DY,AY,BK,BU,CO,AO,AQ,AL,BD,AX,AC,AA,A7,AU,BH,BF,BQ,AB,CW,BG,BV,↓reduceIte,Nat.reduceEqDiff,Option.getD_some,Bool.not_true,Bool.not_false,enP,hb]
 cases ha:decide (i < 0)
 ·have ha' : ¬ i < 0:=by simpa using ha
  simp -implicitDefEqProofs only [BI,A8,AY,BC,BK,BU,CO,EO,AO,AQ,AL,BD,AX,AC,AA,A7,AU,BL,BF,BA,CP,DV,BQ,DN,AB,G7,BG,BV,↓reduceIte,Nat.reduceEqDiff,Option.getD_some,Bool.not_false,enP,QF,List.length_map,hvl]
  cases hb2:decide (i≥((l.length:Nat):Int))
  ·have hb' : ¬ i≥((l.length:Nat):Int):=by simpa using hb2
   have he:uqE m l i=0:=by unfold uqE; rw [if_neg (by simp [hz]),if_neg (by omega)]
   have hv:uqV m l i=uniq (goals m) (hits l) l.length i.toNat:=by unfold uqV; rw [if_pos he]
   have hcall:=Y5 G m l om i.toNat (by omega) hn (by omega) H
   rw [Int.toNat_of_nonneg (by omega)] at hcall
   simp -implicitDefEqProofs only [BB,AZ,BN,A8,D8,DY,AY,AO,AQ,AL,BD,AX,AC,AA,A7,CB,BF,CE,BX,BG,BV,List.map_cons,List.map_nil,List.append_nil,↓reduceIte,Nat.reduceEqDiff,Option.getD_some,Bool.not_false]
   refine hcall.use ?_
   simp -implicitDefEqProofs only [BM,A8,IV,AY,BC,AO,AQ,AL,BD,AX,AC,AA,A7,AU,BH,BA,↓reduceIte,Nat.reduceEqDiff,Option.getD_some,Bool.not_false,he,hv]
   exact ⟨by first | trivial | rfl,hx⟩
  ·have hb':i≥((l.length:Nat):Int):=by simpa using hb2
   have he:uqE m l i=1:=by unfold uqE; rw [if_neg (by simp [hz]),if_pos (.inr hb')]
   have hv:uqV m l i=0:=AJX (by rw [he]; decide)
   simp -implicitDefEqProofs only [BB,AZ,BM,A8,CS,EG,IV,DX,AY,BC,AO,AQ,AL,BD,AX,AC,AA,AU,BH,BA,↓reduceIte,Nat.reduceEqDiff,Option.getD_some,Bool.not_false,he,hv]
   exact ⟨by first | trivial | rfl,hx⟩
 ·have ha':i < 0:=by simpa using ha
  have he:uqE m l i=1:=by unfold uqE; rw [if_neg (by simp [hz]),if_pos (.inl ha')]
  have hv:uqV m l i=0:=AJX (by rw [he]; decide)
  simp -implicitDefEqProofs only [BB,AZ,BM,BI,A8,CS,EG,IV,DX,AY,BC,BK,BU,CO,F5,AO,AQ,AL,BD,AX,AC,AA,EY,A7,AU,BH,BL,BA,CP,DW,↓reduceIte,Nat.reduceEqDiff,Option.getD_some,Bool.not_false,he,hv]
  exact ⟨by first | trivial | rfl,hx⟩
/-- Needed's results -/
def ndL (m:Mo) (l:List Cvr):List Nat:=if JC m l 1024=0 then needed (goals m) (hits l) l.length else []
def AKG (m:Mo) (l:List Cvr) (i:Nat):List Nat:=(List.range i).filter fun j=>decide (0 < uniq (goals m) (hits l) l.length j)
theorem AOI (m:Mo) (l:List Cvr) (i:Nat):AKG m l (i+1)=AKG m l i ++ (if 0 < uniq (goals m) (hits l) l.length i then [i] else []):=by
 unfold AKG
 rw [List.range_succ,List.filter_append]
 congr 1
 by_cases h:0 < uniq (goals m) (hits l) l.length i
 ·rw [if_pos h]; simp [h]
 ·rw [if_neg h]; simp [h]
theorem AQQ (m:Mo) (l:List Cvr) (i:Nat):(AKG m l i).length≤i:=by
 unfold AKG
 exact Nat.le_trans (List.length_filter_le _ _) (by simp)
theorem ZK (G:Nat→AV) (hG:GOk G) (hT:J5 G) (m:Mo) (l:List Cvr) (s:SM) (hm:MoOk m) (hl : ∀ v∈l,CvOk v) (hn:l.length≤1048576) (h:Hp) :
  PCall (En G) 60 [.agg (DU m),.sl s 4 (l.map EF)] h (.tup [.sl (nm (ndL m l)) 1 ((ndL m l).map FI),.int .i64 (JC m l 1024)]):=by
 refine VA _ _ ?_
 refine CG (H:=Hint.none) (enM G) Tryz.func60 rfl (by kernel_rfl) (by kernel_rfl) (Nat.le_of_ble_eq_true (by kernel_rfl)) ?_
 show awp _ _ _ _ _ (EU _ [.tmp 4,.tmp 5] _)
 have gm:=CX h (ABlk.live 2 [DU m])
 have hx:ext h (h ++ [ABlk.live 2 [DU m]]):=(ext.rfl' h).app _
 simp -implicitDefEqProofs only [BB,AZ,A8,AY,BC,AO,AQ,AL,BD,AX,AC,AA,A7,AU,BH,FV,BA,FK,BO,BR,BG,↓reduceIte,Nat.reduceEqDiff,Option.getD_some,Bool.not_false,enP,bxM]
 generalize h ++ [ABlk.live 2 [DU m]]=H0 at gm hx ⊢
 simp -implicitDefEqProofs only [AY,AO,AQ,AL,BD,AX,AC,AA,A7,AU,CB,BH,BF,CE,BX,AB,BG,BV,List.map_cons,List.map_nil,List.append_nil,↓reduceIte,Nat.reduceEqDiff,Option.getD_some,Bool.not_false,ldM gm]
 refine (NV G hG hT m l s 1024 hm hl hn _).use ?_
 simp -implicitDefEqProofs only [List.getElem?_cons_zero,List.getElem?_cons_succ,BB,AZ,BI,A8,AY,BC,AO,AQ,AL,BD,AX,AC,AA,A7,AU,BH,BF,BA,BQ,ET,FX,AB,EQ,↓reduceIte,Nat.reduceEqDiff,Option.getD_some,Bool.not_false,enP,bne]
 by_cases hz:JC m l 1024=0
 case neg =>
  have hb:(JC m l 1024 == 0)=false:=by simpa using hz
  have hv:ndL m l = []:=by unfold ndL; rw [if_neg hz]
  simp -implicitDefEqProofs only [BB,AZ,BM,A8,CS,IV,DX,AY,BC,AO,AQ,AL,BD,AX,AC,AA,A7,AU,FV,BF,BA,↓reduceIte,Nat.reduceEqDiff,Option.getD_some,Bool.not_false,hb]
  exact ⟨hx,_,rfl,by rw [hv]; exact outG.nil _ _ _ _⟩
 obtain ⟨h1,h2,h3⟩:=LU.1 hz
 have hgl:=KT (J4 h1)
 have hb:((0:Int) == 0)=true:=rfl
 have hop:opL m l 1024=JL m l:=by unfold opL; rw [if_pos hz]
 have hv:ndL m l=AKG m l l.length:=by unfold ndL; rw [if_pos hz]; rfl
 rw [hop,hz,hv]
 generalize opM m l 1024=om
 have hvl:=O9 m l
 simp -implicitDefEqProofs only [BB,BP,AZ,BN,A8,DY,AY,BC,AO,AQ,AL,BD,AX,AC,AA,A7,AU,BH,FV,BF,BA,DN,AB,↓reduceIte,Nat.reduceEqDiff,Option.getD_some,Bool.not_true,Bool.not_false,enP,QF,hb,List.length_map,hvl]
 refine C9 (fun n F H => ∃ i w,n+i=l.length∧F 6 = .sl om 1 ((JL m l).map I9)∧F 8=w∧F 20 = .int .i64 (l.length:Nat)∧F 21 = .int .i64 (i:Nat)∧outG 1 FI H0 (AKG m l i) w H∧ext H0 H) l.length
  ⟨0,_,by simp,by simp -implicitDefEqProofs only [AA,↓reduceIte,Nat.reduceEqDiff],by simp -implicitDefEqProofs only [AA,↓reduceIte,Nat.reduceEqDiff],by simp -implicitDefEqProofs only [AA,↓reduceIte,Nat.reduceEqDiff],by simp -implicitDefEqProofs only [AA,↓reduceIte]; rfl,outG.nil _ _ _ _,ext.rfl' _⟩ ?_
 rintro n F H ⟨i,w,hi,f6,f8,f20,f21,ho,he⟩
 simp -implicitDefEqProofs only [BB,AZ,BI,A8,AY,BC,AO,AQ,AL,BD,AX,AC,AA,A7,BQ,AB,CW,↓reduceIte,Option.getD_some,Bool.not_false,enP,f20,f21]
 refine CQ (fun hc => ?_) (fun hc => ?_)
 ·have hi':i < l.length:=by simpa using hc
  have hst:=AOI m l i
  have hlen:=AQQ m l i
  simp -implicitDefEqProofs only [BB,BP,AZ,BN,A8,AY,BC,AO,AQ,AL,BD,AX,AC,AA,A7,CB,BF,BA,CE,BX,List.map_cons,List.map_nil,List.append_nil,↓reduceIte,Nat.reduceEqDiff,Option.getD_some,Bool.not_false,f6,f21]
  refine (Y5 G m l om i hi' hn (by omega) H).use ?_
  simp -implicitDefEqProofs only [BI,A8,AY,BC,AO,AQ,AL,BD,AX,AC,AA,A7,AU,BH,BQ,AB,EW,↓reduceIte,Option.getD_some,Bool.not_false,enP]
  refine CQ (fun hg => ?_) (fun hg => ?_)
  ·have hg':0 < uniq (goals m) (hits l) l.length i:=by simp at hg; omega
   rw [if_pos hg'] at hst
   obtain ⟨w',H2,hap,ho2,_,he2,_,_⟩:=ho.append QB sz3 X6 WN (by omega) (by omega) he i
   rw [← hst] at ho2
   simp -implicitDefEqProofs only [FP,FZ,AZ,AY,AO,AQ,AL,BD,AX,AC,AA,A7,BF,ES,GU,BR,↓reduceIte,Nat.reduceEqDiff,Option.getD_some,Bool.not_false,enP,f8,ACI]
   refine F9 (v:=w') (h:=H2) hap ?_
   simp -implicitDefEqProofs only [AZ,A8,D8,ED,AY,BC,AO,AQ,AL,BD,AX,AC,AA,A7,AU,BH,BF,BA,BQ,AB,CZ,↓reduceIte,Nat.reduceEqDiff,Option.getD_some,Bool.not_false,enP,f21,wrap_succ (show i < 9223372036854775807 by omega)]
   exact ⟨n - 1,by omega,i+1,w',by omega,f6,rfl,f20,rfl,ho2,he2⟩
  ·have hg' : ¬ 0 < uniq (goals m) (hits l) l.length i:=by simp at hg; omega
   rw [if_neg hg',List.append_nil] at hst
   simp -implicitDefEqProofs only [AZ,BN,A8,D8,ED,AY,BC,AO,AQ,AL,BD,AX,AC,AA,A7,AU,BH,BF,BQ,AB,CZ,↓reduceIte,Nat.reduceEqDiff,Option.getD_some,Bool.not_false,enP,f21,wrap_succ (show i < 9223372036854775807 by omega)]
   exact ⟨n - 1,by omega,i+1,w,by omega,f6,f8,f20,rfl,by rw [hst]; exact ho,he⟩
 ·have hi':i=l.length:=by
   have : ¬ i < l.length:=by simpa using hc
   omega
  subst hi'
  simp -implicitDefEqProofs only [BB,AZ,BM,DC,A8,DZ,EN,EP,IV,AY,BC,AO,AQ,AL,BD,AX,AC,AA,A7,AU,BH,BF,BA,↓reduceIte,Nat.reduceEqDiff,Option.getD_some,Bool.not_false,f8]
  exact ⟨hx.trans he,_,rfl,ho.base hx.le⟩
end Go.Proofs.YtocilianjfhifaaGreatDoor.Rk
/- The reference's chosen and Least; no condition but the variables that are laid, the bounds on lengths. -/
set_option linter.unusedSimpArgs false
set_option maxRecDepth 8000
namespace Go.Proofs.YtocilianjfhifaaGreatDoor.Rk
open Go Go.Proofs Go.Proofs.YtocilianjfhifaaGreatDoor.Sm Go.Proofs.YtocilianjfhifaaGreatDoor.Bins Go.Proofs.YtocilianjfhifaaGreatDoor.Cov Go.RowKit

/-- a list, or nothing -/
def chA:Option (List Nat)→AV
 | some x=>fzG 1 FI x
 | none => .sl .nil 0 []
theorem AMX (n d:Nat) (H:Hp) (x:List Nat):JF n H (d+1) (fzG 1 FI x)=fzG 1 FI x:=by cases x <;> rfl
theorem ANH (n:Nat) (H:Hp) (c:Option (List Nat)) (b:Bool):JF n H 2 (.tup [chA c,.bool b]) = .tup [chA c,.bool b]:=by
 show AV.tup [JF n H 1 (chA c),.bool b]=_
 cases c with
 | none=>rfl
 | some x=>unfold chA; simp only; rw [AMX]
theorem RN.fz (h:Hp) (x:List Nat):RN h (fzG 1 FI x) x:=by
 cases x with
 | nil=>exact .inr (.inl ⟨rfl,0,rfl⟩)
 | cons a b=>exact .inl ⟨.any,rfl⟩
theorem ASJ (H:Hp) (o:List Nat) (hl:o.length≤8388608) : ∃ v' H',G5 Tryz.prog true H 57 57 (.sl .nil 0 []) (fzG 1 FI o)=some (v',H')∧outG 1 FI H o v' H'∧ext H H':=by
 cases o with
 | nil =>
   refine ⟨.sl .nil 0 [],H,?_,.inl ⟨rfl,rfl⟩,ext.rfl' _⟩
   show G5 Tryz.prog true H 57 57 (.sl .nil 0 []) (.sl .nil 0 [])=_
   simp [G5,QB,sz3,RP,KA,bump]
 | cons a b =>
   refine ⟨_,_,XY QB sz3 X6 WN (KX H .any 1 ((a :: b).map FI)) (by simp) (KO (by simp at hl ⊢; omega) (by omega)),.inr ⟨by simp,H.length,Nat.le_refl _,by simp,by simp⟩,(ext.rfl' H).app _⟩
theorem AWA (xs:List Nat):MZ (xs.map FI)=true:=by
 unfold MZ
 rw [List.all_eq_true]
 intro r hr
 obtain ⟨v,_,rfl⟩:=List.mem_map.1 hr
 rfl
theorem U2 {β:Type} (f:Nat→Option β) (n j:Nat) (hj:j < n):QC f j (n - j)=(match f j with | some x=>some x | none=>QC f (j+1) (n - (j+1))):=by
 rw [show n - j=(n - (j+1))+1 by omega]
 rfl
set_option maxHeartbeats 4000000 in
theorem ALC (G:Nat→AV) (m:Mo) (l:List Cvr) (s:SM) (hm:MoOk m) (hl : ∀ v∈l,CvOk v) (hn:l.length≤1048576) (h1:FU m=0) (h3 : ∀ v∈l,FN m v=true) :
  ∀ (k:Nat) (o:List Nat) (i:Nat) (h:Hp),(∀ j∈o,j < l.length)→o.length+k≤1048576→i≤1048577 →
  PCall (En G) 123 [.agg (DU m),.sl s 4 (l.map EF),fzG 1 FI o,.int .i64 (i:Nat),.int .i64 (k:Nat)] h (.tup [chA (choose (goals m) (hits l) l.length k o i),.bool (choose (goals m) (hits l) l.length k o i).isSome]):=by
 intro k
 induction k with
 | zero =>
   intro o i h ho hol hi0
   refine NU 2 (fun n H=>ANH n H _ _) ?_
   refine CG (H:=hint [] [(61,[56])]) (enM G) Tryz.func123 rfl (by kernel_rfl) (by kernel_rfl) (Nat.le_of_ble_eq_true (by kernel_rfl)) ?_
   show awp _ _ _ _ _ (EU _ [.tmp 10,.tmp 11] _)
   have gm:=CX h (ABlk.live 2 [DU m])
   have hx:ext h (h ++ [ABlk.live 2 [DU m]]):=(ext.rfl' h).app _
   have z0:(((0:Nat):Int) == 0)=true:=rfl
   simp -implicitDefEqProofs only [CY,List.contains_nil,Nat.reduceBEq,BB,AZ,BI,A8,AY,BC,AL,BD,AX,AC,AA,A7,AU,BH,BL,FV,BF,BA,FK,BQ,BR,AB,EJ,BG,BV,↓reduceIte,Nat.reduceEqDiff,Option.getD_some,Bool.not_false,enP,Bool.false_eq_true,EH,bxM]
   generalize h ++ [ABlk.live 2 [DU m]]=H at gm hx ⊢
   simp -implicitDefEqProofs only [CY,List.contains_nil,Nat.reduceBEq,BB,AZ,DX,AY,AL,BD,AX,AC,AA,A7,CB,BF,BO,CE,BX,AB,BG,BV,List.map_cons,List.map_nil,List.append_nil,↓reduceIte,Nat.reduceEqDiff,Option.getD_some,Bool.not_false,enP,Bool.false_eq_true,EH,z0,ldM gm]
   refine (AFB G m l s o (fzG 1 FI o) hm hl hn ho (by omega) H (RN.fz H o)).use ?_
   have hfit:=ACO h1 h3 ho
   have hge : ∀ j (hj:j < l.length),XH m (N7 m (sel l o)) l[j]=gain (goals m) (hits l) o j:=fun j hj=>AUL h1 h3 ho hj
   generalize N7 m (sel l o)=now at hfit hge ⊢
   have gm2:=DL (x:=ABlk.live 4 [EF now]) gm
   have gT:=ldV (CX H (ABlk.live 4 [EF now]))
   have hx2:=hx.app [ABlk.live 4 [EF now]]
   simp -implicitDefEqProofs only [CY,List.contains_nil,Nat.reduceBEq,BB,BP,AZ,A8,AY,BC,AL,BD,AX,AC,EZ,AA,A7,AU,BH,BA,FW,EI,BR,DR,↓reduceIte,Nat.reduceEqDiff,Option.getD_some,Bool.not_false,enP,Option.getD_none,Bool.false_eq_true,EH,MF,Q8]
   generalize H ++ [ABlk.live 4 [EF now]]=H1 at gm2 gT hx2 ⊢
   generalize H.length=nb at gT ⊢
   refine F8 0 (fun F' H'=>F' 2=fzG 1 FI o∧H'=H1∧allB (goals m) (hits l) l.length o=true) (fun F' H'=>F' 10 = .sl .nil 0 []∧F' 11 = .bool false∧H'=H1∧allB (goals m) (hits l) l.length o=false) ?_ ?_ ?_
   ·refine C9 (fun n F' H' => ∃ j,n+j=l.length∧F' 1 = .sl s 4 (l.map EF)∧F' 2=fzG 1 FI o∧F' 5 = .ptr h.length 0 0∧F' 12 = .ptr nb 0 0∧F' 13 = .int .i64 (j:Nat)∧H'=H1∧∀ q,q < j→gain (goals m) (hits l) o q=0) l.length
     ⟨0,by simp,by simp -implicitDefEqProofs only [AA,BG,BV,↓reduceIte,Nat.reduceEqDiff],by simp -implicitDefEqProofs only [AA,BG,BV,↓reduceIte,Nat.reduceEqDiff],by simp -implicitDefEqProofs only [AA,↓reduceIte,Nat.reduceEqDiff],by simp -implicitDefEqProofs only [AA,↓reduceIte,Nat.reduceEqDiff],by simp -implicitDefEqProofs only [AA,↓reduceIte]; rfl,rfl,fun q hq=>absurd hq (by omega)⟩ ?_
    rintro n F' H' ⟨j,hj,g1,g2,g5,g12,g13,rfl,hq⟩
    simp -implicitDefEqProofs only [CY,List.contains_nil,Nat.reduceBEq,BB,AZ,BI,A8,AY,BC,AL,BD,AX,AC,AA,A7,BF,BQ,DN,AB,CW,↓reduceIte,Nat.reduceEqDiff,Option.getD_some,Bool.not_false,enP,TU,Bool.false_eq_true,EH,g1,g13,List.length_map]
    refine CQ (fun hc => ?_) (fun hc => ?_)
    ·have hj':j < l.length:=by simpa using hc
     have hcall:=AQ7 G m now l[j] hm (VG hfit) (hl _ (List.getElem_mem hj')) H'
     rw [hge j hj'] at hcall
     simp -implicitDefEqProofs only [BB,BP,BN,A8]
     refine ER (by kernel_rfl) ?_
     simp -implicitDefEqProofs only [F7,CY,List.contains_nil,D9,DT,EC,FH,FC,IE,D7,GM,F6,AA,A7,AU,CB,BH,BO,BQ,BZ,AB,List.map_cons,List.map_nil,List.append_nil,↓reduceIte,Nat.reduceEqDiff,Nat.reduceAdd,Option.getD_some,enP,AFR,g1,g5,g12,g13,ldM gm2,gT,DJ hj',FD ACR TS MC hj']
     refine ⟨_,hcall,?_⟩
     try simp -implicitDefEqProofs only [DT,E8,BI,A8,AA,A7,AB,EW,↓reduceIte]
     refine CQ (fun hg => ?_) (fun hg => ?_)
     ·have hg':0 < gain (goals m) (hits l) o j:=by simp at hg; omega
      have hb:allB (goals m) (hits l) l.length o=false:=by
       rw [← Bool.not_eq_true]
       intro e
       have:=(PL _ _ _ _).1 e j hj'
       omega
      simp -implicitDefEqProofs only [CY,List.contains_nil,Nat.reduceBEq,BB,AZ,BM,A8,CS,EG,LW,FM,AY,BC,AL,BD,AX,AC,AA,AU,BL,FV,BA,↓reduceIte,Nat.reduceEqDiff,Option.getD_some,Bool.not_false,Bool.false_eq_true,EH]
      exact ⟨trivial,trivial,trivial,hb⟩
     ·have hg':gain (goals m) (hits l) o j=0:=by simp at hg; omega
      simp -implicitDefEqProofs only [CY,List.contains_nil,Nat.reduceBEq,AZ,BN,A8,D8,ED,AY,BC,AL,BD,AX,AC,AA,A7,AU,BH,BF,BA,BQ,AB,CZ,↓reduceIte,Nat.reduceEqDiff,Option.getD_some,Bool.not_false,enP,Bool.false_eq_true,EH,g13,wrap_succ (show j < 9223372036854775807 by omega)]
      refine ⟨n - 1,by omega,j+1,by omega,g1,g2,g5,g12,rfl,trivial,fun q hq' => ?_⟩
      rcases Nat.eq_or_lt_of_le (Nat.le_of_lt_succ hq') with e | hq'
      ·subst e; exact hg'
      ·exact hq q hq'
    ·have hj':j=l.length:=by
      have : ¬ j < l.length:=by simpa using hc
      omega
     subst hj'
     simp -implicitDefEqProofs only [DC,DZ,JM,EP,AA,↓reduceIte,Nat.reduceEqDiff]
     exact ⟨g2,trivial,(PL _ _ _ _).2 hq⟩
   ·rintro F' H' ⟨g2,rfl,hb⟩
    have e:choose (goals m) (hits l) l.length 0 o i=some o:=by unfold choose; rw [if_pos hb]
    rw [e]
    simp -implicitDefEqProofs only [CY,List.contains_nil,Nat.reduceBEq,BB,AZ,BM,A8,CS,EN,IV,AY,BC,AL,BD,AX,AC,AA,A7,AU,BL,BF,BA,↓reduceIte,Nat.reduceEqDiff,Option.getD_some,Bool.not_false,Bool.false_eq_true,EH,g2]
    exact ⟨rfl,hx2⟩
   ·rintro F' H' ⟨g10,g11,rfl,hb⟩
    have e:choose (goals m) (hits l) l.length 0 o i=none:=by unfold choose; rw [if_neg (by rw [hb]; decide)]
    rw [e]
    simp -implicitDefEqProofs only [CS,EG,IV,g10,g11]
    exact ⟨rfl,hx2⟩
 | succ k ih =>
   intro o i h ho hol hi0
   have hch:choose (goals m) (hits l) l.length (k+1) o i=QC (fun j=>choose (goals m) (hits l) l.length k (o ++ [j]) (j+1)) i (l.length - i):=rfl
   rw [hch]
   refine NU 2 (fun n H=>ANH n H _ _) ?_
   refine CG (H:=hint [] [(61,[56])]) (enM G) Tryz.func123 rfl (by kernel_rfl) (by kernel_rfl) (Nat.le_of_ble_eq_true (by kernel_rfl)) ?_
   show awp _ _ _ _ _ (EU _ [.tmp 10,.tmp 11] _)
   have gm:=CX h (ABlk.live 2 [DU m])
   have hx:ext h (h ++ [ABlk.live 2 [DU m]]):=(ext.rfl' h).app _
   have z0:(((k+1:Nat):Int) == 0)=false:=by rw [beq_eq_false_iff_ne]; omega
   have hwk:IntKind.i64.wrap (((k+1:Nat):Int) - 1)=((k:Nat):Int):=by rw [wrap_i64 (by omega) (by omega)]; omega
   simp -implicitDefEqProofs only [CY,List.contains_nil,Nat.reduceBEq,BB,AZ,BI,A8,AY,BC,AL,BD,AX,AC,AA,A7,AU,BH,BL,FV,BF,BA,FK,BQ,BR,AB,EJ,BG,BV,↓reduceIte,Nat.reduceEqDiff,Option.getD_some,Bool.not_false,enP,Bool.false_eq_true,EH,bxM]
   generalize h ++ [ABlk.live 2 [DU m]]=H at gm hx ⊢
   simp -implicitDefEqProofs only [CY,List.contains_nil,Nat.reduceBEq,BB,BP,AZ,BN,A8,DY,AY,BC,AL,BD,AX,AC,AA,A7,BF,BA,BG,BV,↓reduceIte,Nat.reduceEqDiff,Option.getD_some,Bool.not_false,Bool.false_eq_true,EH,z0]
   refine F8 2 (fun F' H'=>ext h H'∧QC (fun j=>choose (goals m) (hits l) l.length k (o ++ [j]) (j+1)) i (l.length - i)=none) (fun F' H'=>F' 11 = .bool true∧ext h H'∧∃ x,F' 10=fzG 1 FI x∧QC (fun j=>choose (goals m) (hits l) l.length k (o ++ [j]) (j+1)) i (l.length - i)=some x) ?_ ?_ ?_
   ·refine C9 (fun n F' H' => ∃ j,n+min j l.length=l.length∧i≤j∧j≤1048577∧F' 1 = .sl s 4 (l.map EF)∧F' 2=fzG 1 FI o∧F' 4 = .int .i64 (k+1:Nat)∧F' 5 = .ptr h.length 0 0∧F' 14 = .int .i64 (j:Nat)∧ext H H'∧QC (fun j=>choose (goals m) (hits l) l.length k (o ++ [j]) (j+1)) i (l.length - i)=QC (fun j=>choose (goals m) (hits l) l.length k (o ++ [j]) (j+1)) j (l.length - j)) (l.length - min i l.length)
     ⟨i,by omega,Nat.le_refl _,hi0,by simp -implicitDefEqProofs only [AA,BG,BV,↓reduceIte,Nat.reduceEqDiff],by simp -implicitDefEqProofs only [AA,BG,BV,↓reduceIte,Nat.reduceEqDiff],by simp -implicitDefEqProofs only [AA,BG,BV,↓reduceIte,Nat.reduceEqDiff],by simp -implicitDefEqProofs only [AA,↓reduceIte,Nat.reduceEqDiff],by simp -implicitDefEqProofs only [AA,↓reduceIte],ext.rfl' _,rfl⟩ ?_
    rintro n F' H' ⟨j,hj,hij,hjb,g1,g2,g4,g5,g14,he,htl⟩
    simp -implicitDefEqProofs only [CY,List.contains_nil,Nat.reduceBEq,BB,AZ,BI,A8,AY,BC,AL,BD,AX,AC,AA,A7,BF,BQ,DN,AB,CW,↓reduceIte,Nat.reduceEqDiff,Option.getD_some,Bool.not_false,enP,TU,Bool.false_eq_true,EH,g1,g14,List.length_map]
    refine CQ (fun hc => ?_) (fun hc => ?_)
    ·have hj':j < l.length:=by simpa using hc
     rw [U2 _ _ _ hj'] at htl
     obtain ⟨v1,H1,a1,o1,e1⟩:=ASJ H' o (by omega)
     obtain ⟨v2,H2,a2,o2,_,e2,_,_⟩:=o1.append QB sz3 X6 WN (by omega) (by omega) e1 j
     simp -implicitDefEqProofs only [CY,List.contains_nil,Nat.reduceBEq,BB,BP,AZ,BN,A8,AY,BC,AL,BD,AX,AC,AA,A7,AU,FV,BF,BA,GU,↓reduceIte,Nat.reduceEqDiff,Option.getD_some,Bool.not_false,enP,Bool.false_eq_true,EH,g2]
     refine F9 (v:=v1) (h:=H1) a1 ?_
     simp -implicitDefEqProofs only [FP,FZ,CY,List.contains_nil,Nat.reduceBEq,BB,AZ,A8,AY,BC,AL,BD,AX,AC,AA,A7,BF,BA,ES,GU,BR,↓reduceIte,Nat.reduceEqDiff,Option.getD_some,Bool.not_false,enP,Bool.false_eq_true,EH,g14,ACI]
     refine F9 (v:=v2) (h:=H2) a2 ?_
     rcases o2 with ⟨e,_⟩ | ⟨hne,q,q1,rfl,q3⟩
     ·simp at e
     have hz:=RZ (i:=56) (off:=0) (len:=(o ++ [j]).length) q3 (by simp) (by rw [List.drop_zero,List.take_of_length_le (by simp)]; exact AWA _)
     rw [List.drop_zero,List.take_of_length_le (by simp)] at hz
     have he2:ext H' (H2.set q ABlk.dead):=e2.set q1 _
     have gm2:=IZ (he.trans he2) gm
     have hfz:fzG 1 FI (o ++ [j]) = .sl .any 1 ((o ++ [j]).map FI):=by cases o <;> rfl
     have hcall:=ih (o ++ [j]) (j+1) (H2.set q ABlk.dead) (fun y hy=>by
      rcases List.mem_append.1 hy with hy | hy
      ·exact ho y hy
      ·simp at hy; omega) (by simp; omega) (by omega)
     rw [hfz] at hcall
     simp -implicitDefEqProofs only [CY,List.contains_nil,Nat.reduceBEq,BB,AZ,A8,AY,BC,AL,BD,AX,AC,AA,A7,AU,CB,BH,BF,BA,BO,BQ,CE,BX,AB,CZ,KY,List.map_cons,List.map_nil,List.append_nil,↓reduceIte,Nat.reduceEqDiff,Option.getD_some,Bool.not_false,enP,Bool.false_eq_true,EH,g1,g4,g5,g14,ldM (IZ (he.trans e2) gm),wrap_succ (show j < 9223372036854775807 by omega),hwk,PI,AL,hz]
     refine hcall.use ?_
     cases hcc:choose (goals m) (hits l) l.length k (o ++ [j]) (j+1) with
     | none =>
       rw [hcc] at htl
       simp -implicitDefEqProofs only [List.getElem?_cons_zero,List.getElem?_cons_succ,CY,List.contains_nil,Nat.reduceBEq,BB,AZ,BN,BI,A8,D8,ED,DY,AY,BC,AL,BD,AX,AC,AA,A7,AU,BH,BF,BA,BQ,ET,FX,AB,CZ,↓reduceIte,Nat.reduceEqDiff,Option.getD_some,Bool.not_false,enP,Bool.false_eq_true,EH,Option.isSome_none,g14,wrap_succ (show j < 9223372036854775807 by omega)]
       exact ⟨n - 1,by omega,j+1,by omega,by omega,by omega,g1,g2,g4,g5,rfl,he.trans he2,htl⟩
     | some x =>
       rw [hcc] at htl
       simp -implicitDefEqProofs only [List.getElem?_cons_zero,List.getElem?_cons_succ,CY,List.contains_nil,Nat.reduceBEq,BB,AZ,BM,BI,A8,CS,EG,LW,FM,DX,AY,BC,AL,BD,AX,AC,AA,A7,AU,BL,BF,BA,ET,FX,AB,↓reduceIte,Nat.reduceEqDiff,Option.getD_some,Bool.not_false,Bool.false_eq_true,EH,Option.isSome_some]
       exact ⟨trivial,hx.trans (he.trans he2),x,rfl,htl⟩
    ·have hj' : ¬ j < l.length:=by simpa using hc
     rw [show l.length - j=0 by omega] at htl
     simp -implicitDefEqProofs only [DC,DZ,JM,EP,↓reduceIte]
     exact ⟨hx.trans he,htl⟩
   ·rintro F' H' ⟨he,htl⟩
    rw [htl]
    simp -implicitDefEqProofs only [CY,List.contains_nil,Nat.reduceBEq,BB,AZ,BM,A8,EN,IV,AY,BC,AL,BD,AX,AC,AA,AU,BL,FV,BA,↓reduceIte,Nat.reduceEqDiff,Option.getD_some,Bool.not_false,Bool.false_eq_true,EH]
    exact ⟨rfl,he⟩
   ·rintro F' H' ⟨g11,he,x,g10,htl⟩
    rw [htl]
    simp -implicitDefEqProofs only [CS,EG,IV,g10,g11]
    exact ⟨rfl,he⟩
end Go.Proofs.YtocilianjfhifaaGreatDoor.Rk
/- The reference's Least; Clone and Clip; no condition but the variables that are laid, the bounds on lengths. -/
set_option linter.unusedSimpArgs false
set_option maxRecDepth 8000
namespace Go.Proofs.YtocilianjfhifaaGreatDoor.Rk
open Go Go.Proofs Go.Proofs.YtocilianjfhifaaGreatDoor.Sm Go.Proofs.YtocilianjfhifaaGreatDoor.Bins Go.Proofs.YtocilianjfhifaaGreatDoor.Cov Go.RowKit

/-- Least's list -/
def leL (m:Mo) (l:List Cvr):List Nat:=if JC m l 12=0 then (least (goals m) (hits l) l.length).getD [] else []
theorem AUM {E:Env} {f:FuncId} {args:List AV} {h:Hp} (x:List Nat) (e:Int) (hc:ACalls E f args h fun v H=>v = .tup [fzG 1 FI x,.int .i64 e]∧ext h H):PCall E f args h (.tup [.sl (nm x) 1 (x.map FI),.int .i64 e]):=by
 refine PCall.res (NU 2 (fun n H => ?_) hc) (CvR.tup (CvRL.cons WG (CvRL.refl _)))
 show AV.tup [JF n H 1 (fzG 1 FI x),.int .i64 e]=_
 rw [AMX]
theorem APO (G:Nat→AV) (m:Mo) (l:List Cvr) (s:SM) (hm:MoOk m) (hl : ∀ v∈l,CvOk v) (hn:l.length≤1048576) (h:Hp) :
  PCall (En G) 65 [.agg (DU m),.sl s 4 (l.map EF)] h (.tup [.sl (nm (leL m l)) 1 ((leL m l).map FI),.int .i64 (JC m l 12)]):=by
 refine AUM _ _ ?_
 refine CG (H:=Hint.none) (enM G) Tryz.func65 rfl (by kernel_rfl) (by kernel_rfl) (Nat.le_of_ble_eq_true (by kernel_rfl)) ?_
 show awp _ _ _ _ _ (EU _ [.tmp 4,.tmp 5] _)
 have gm:=CX h (ABlk.live 2 [DU m])
 have hx:ext h (h ++ [ABlk.live 2 [DU m]]):=(ext.rfl' h).app _
 simp -implicitDefEqProofs only [BB,AZ,A8,AY,BC,AO,AQ,AL,BD,AX,AC,AA,A7,AU,BH,FV,BA,FK,BO,BR,BG,↓reduceIte,Nat.reduceEqDiff,Option.getD_some,Bool.not_false,enP,bxM]
 generalize h ++ [ABlk.live 2 [DU m]]=H at gm hx ⊢
 simp -implicitDefEqProofs only [AY,AO,AQ,AL,BD,AX,AC,AA,A7,AU,CB,BH,BF,CE,BX,AB,BG,BV,List.map_cons,List.map_nil,List.append_nil,↓reduceIte,Nat.reduceEqDiff,Option.getD_some,Bool.not_false,ldM gm]
 refine (APA G m l s 12 hm hl hn _).use ?_
 simp -implicitDefEqProofs only [BB,AZ,BI,A8,AY,BC,AO,AQ,AL,BD,AX,AC,AA,A7,AU,BH,BF,BA,BQ,AB,EQ,↓reduceIte,Option.getD_some,Bool.not_false,enP,bne]
 by_cases hz:JC m l 12=0
 case neg =>
  have hb:(JC m l 12 == 0)=false:=by simpa using hz
  have hv:leL m l = []:=by unfold leL; rw [if_neg hz]
  rw [hv]
  simp -implicitDefEqProofs only [BB,AZ,BM,A8,CS,IV,DX,AY,BC,AO,AQ,AL,BD,AX,AC,AA,A7,AU,FV,BF,BA,↓reduceIte,Nat.reduceEqDiff,Option.getD_some,Bool.not_false,hb]
  exact ⟨rfl,hx⟩
 obtain ⟨h1,h2,h3⟩:=LU.1 hz
 have hb:((0:Int) == 0)=true:=rfl
 have hv:leL m l=(least (goals m) (hits l) l.length).getD []:=by unfold leL; rw [if_pos hz]
 have hne:=ABJ (goals m) (hits l) l.length
 rw [hz,hv]
 simp -implicitDefEqProofs only [BB,BP,AZ,BN,A8,DY,AY,BC,AO,AQ,AL,BD,AX,AC,AU,BH,BA,Option.getD_some,Bool.not_true,Bool.not_false,hb]
 have hlz:least (goals m) (hits l) l.length=QC (fun k=>choose (goals m) (hits l) l.length k [] 0) 0 (l.length+1 - 0):=rfl
 generalize hle:least (goals m) (hits l) l.length=r at hne hlz ⊢
 refine C9 (fun n F H' => ∃ k,n+k=l.length+1∧F 1 = .sl s 4 (l.map EF)∧F 2 = .ptr h.length 0 0∧F 7 = .int .i64 (k:Nat)∧H'=H∧r=QC (fun k=>choose (goals m) (hits l) l.length k [] 0) k (l.length+1 - k)) (l.length+1)
  ⟨0,by omega,by simp -implicitDefEqProofs only [AA,BG,BV,↓reduceIte,Nat.reduceEqDiff],by simp -implicitDefEqProofs only [AA,↓reduceIte,Nat.reduceEqDiff],by simp -implicitDefEqProofs only [AA,↓reduceIte]; rfl,rfl,hlz⟩ ?_
 rintro n F H' ⟨k,hk,f1,f2,f7,rfl,htl⟩
 have hkn:k < l.length+1:=by
  rcases Nat.lt_or_ge k (l.length+1) with h4 | h4
  ·exact h4
  ·rw [show l.length+1 - k=0 by omega] at htl
   exact absurd htl hne
 rw [U2 _ _ _ hkn] at htl
 have hcall:=ALC G m l s hm hl hn h1 h3 k [] 0 H' (by simp) (by simp; omega) (by omega)
 simp -implicitDefEqProofs only [BB,BP,AZ,AY,AO,AQ,AL,BD,AX,AC,AA,A7,AU,CB,BH,FV,BF,BO,CE,BX,AB,List.map_cons,List.map_nil,List.append_nil,↓reduceIte,Nat.reduceEqDiff,Option.getD_some,Bool.not_false,enP,f1,f2,f7,ldM gm]
 refine hcall.use ?_
 cases hcc:choose (goals m) (hits l) l.length k [] 0 with
 | none =>
   rw [hcc] at htl
   simp -implicitDefEqProofs only [List.getElem?_cons_zero,List.getElem?_cons_succ,BB,AZ,BN,BI,A8,D8,ED,DY,AY,BC,AO,AQ,AL,BD,AX,AC,AA,A7,AU,BH,BF,BA,BQ,ET,FX,AB,CZ,↓reduceIte,Nat.reduceEqDiff,Option.getD_some,Bool.not_false,enP,Option.isSome_none,f7,wrap_succ (show k < 9223372036854775807 by omega)]
   exact ⟨n - 1,by omega,k+1,by omega,f1,f2,rfl,trivial,htl⟩
 | some x =>
   rw [hcc] at htl
   simp -implicitDefEqProofs only [List.getElem?_cons_zero,List.getElem?_cons_succ,BB,AZ,BM,BI,A8,CS,EG,FM,IV,DX,AY,BC,AO,AQ,AL,BD,AX,AC,AA,A7,AU,BH,BF,BA,ET,FX,AB,↓reduceIte,Nat.reduceEqDiff,Option.getD_some,Bool.not_false,Option.isSome_some]
   rw [htl]
   exact ⟨rfl,hx⟩
end Go.Proofs.YtocilianjfhifaaGreatDoor.Rk
/- rank: Clone, Clip, what marks goals; chooser.choose; no condition but the bounds on lengths. -/
set_option linter.unusedSimpArgs false
set_option maxRecDepth 8000
namespace Go.Proofs.YtocilianjfhifaaGreatDoor.Rk
open Go Go.Proofs Go.Proofs.YtocilianjfhifaaGreatDoor.Sm Go.Proofs.YtocilianjfhifaaGreatDoor.Bins Go.Proofs.YtocilianjfhifaaGreatDoor.Cov Go.RowKit

theorem AQO (m:SM) (k:Nat) (xs:List (List AV)):MJ Tryz.prog 146 .eql (.sl m k xs) (.sl .nil 0 [])=some (.bool (decide (m = .nil))):=by cases m <;> kernel_rfl
theorem ATV (b o l:Nat):MJ Tryz.prog 146 .eql (.own b o l) (.sl .nil 0 [])=some (.bool false):=by kernel_rfl
theorem AGH (h:Hp):FO Tryz.prog false h 146 0 []=some (.sl .full 1 [],h):=by kernel_rfl
/-- a row of truth values, in a block from n on, or empty -/
def SumV (n:Nat) (h:Hp) (v:AV) (xs:List Bool):Prop:=(∃ b,n≤b∧v = .own b 0 xs.length∧h[b]? = some (ABlk.live 1 (xs.map GH)))∨(xs = []∧∃ s k,v = .sl s k [])
theorem SumV.reads {n:Nat} {h:Hp} {v:AV} {xs:List Bool} (hs:SumV n h v xs):Reads h v xs:=by
 rcases hs with ⟨b,_,rfl,hb⟩ | ⟨rfl,s,k,rfl⟩
 ·exact Reads.own hb
 ·exact ⟨by rw [ABG.1]; rfl,fun k hk=>absurd hk (by simp)⟩
theorem SumV.ext {n:Nat} {h H:Hp} {v:AV} {xs:List Bool} (hs:SumV n h v xs) (he:ext h H):SumV n H v xs:=by
 rcases hs with ⟨b,hn,rfl,hb⟩ | h2
 ·exact .inl ⟨b,hn,rfl,IZ he hb⟩
 ·exact .inr h2
theorem SumV.low {n n':Nat} {h:Hp} {v:AV} {xs:List Bool} (hs:SumV n h v xs) (hn:n'≤n):SumV n' h v xs:=by
 rcases hs with ⟨b,h1,rfl,hb⟩ | h2
 ·exact .inl ⟨b,by omega,rfl,hb⟩
 ·exact .inr h2
theorem SumV.leaf {n:Nat} {h:Hp} {v:AV} {xs:List Bool} (hs:SumV n h v xs):v.leaf=true:=by
 rcases hs with ⟨b,hn,rfl,hb⟩ | ⟨_,s,k,rfl⟩ <;> rfl
theorem AGL (H:Hp) {b:Nat} (hb:H[b]? = some (ABlk.live 1 [])):G5 Tryz.prog true H 146 146 (.sl .full 1 []) (.own b 0 0)=some (.sl .full 1 [],H):=by
 have hc:KA H (.own b 0 0)=some (1,[]):=by rw [P8 hb (by simp)]; rfl
 simp [G5,ADU,sz4,RP,hc,bump]
theorem ALB (G:Nat→AV) {n:Nat} {v:AV} {xs:List Bool} {h:Hp} (hs:SumV n h v xs) (hl:xs.length≤1048576):ACalls (En G) 177 [v] h fun v' H=>SumV h.length H v' xs∧ext h H:=by
 refine CG (H:=Hint.none) (enM G) Tryz.func177 rfl (by kernel_rfl) (by kernel_rfl) (Nat.le_of_ble_eq_true (by kernel_rfl)) ?_
 show awp _ _ _ _ _ (EU _ [.tmp 2] _)
 rcases hs with ⟨b,hn,rfl,hb⟩ | ⟨rfl,s,k,rfl⟩
 ·simp -implicitDefEqProofs only [FP,BB,AZ,BN,BI,A8,DY,AY,BC,AO,AQ,AL,BD,AX,AC,AA,A7,AU,FV,BF,BA,ES,BQ,GU,BR,AB,BG,↓reduceIte,Nat.reduceEqDiff,Option.getD_some,Bool.not_false,enP,ATV,AGH]
  cases xs with
  | nil =>
    refine F9 (v := .sl .full 1 []) (h:=h) (AGL h hb) ?_
    simp -implicitDefEqProofs only [BM,A8,CU,AY,BC,AO,AQ,AL,BD,AX,AC,AA,A7,BA,↓reduceIte,Option.getD_some,Bool.not_false]
    exact ⟨.inr ⟨rfl,_,_,rfl⟩,ext.rfl' _⟩
  | cons x xs =>
    have hc:KA h (.own b 0 (x :: xs).length)=some (1,(x :: xs).map GH):=by rw [P8 hb (by simp),List.drop_zero,List.take_of_length_le (by simp)]
    refine F9 (ACN ADU sz4 AVR AWI hc (by simp) (KO (by simp at hl ⊢; omega) (by omega))) ?_
    simp -implicitDefEqProofs only [BM,A8,CU,AY,BC,AO,AQ,AL,BD,AX,AC,AA,A7,BA,List.map_cons,List.nil_append,↓reduceIte,Option.getD_some,Bool.not_false]
    refine ⟨.inl ⟨h.length,Nat.le_refl _,by simp,?_⟩,(ext.rfl' h).app _⟩
    exact CX _ _
 ·simp -implicitDefEqProofs only [BB,AZ,BI,A8,AY,BC,AO,AQ,AL,BD,AX,AC,AA,A7,AU,FV,BF,BA,BQ,AB,BG,↓reduceIte,Nat.reduceEqDiff,Option.getD_some,Bool.not_false,enP,AQO]
  refine CQ (fun hc => ?_) (fun hc => ?_)
  ·simp -implicitDefEqProofs only [BB,AZ,BM,A8,CS,CU,AY,BC,AO,AQ,AL,BD,AX,AC,AA,AU,FV,BA,↓reduceIte,Option.getD_some,Bool.not_false]
   exact ⟨.inr ⟨rfl,_,_,rfl⟩,ext.rfl' _⟩
  ·simp -implicitDefEqProofs only [FP,BB,AZ,BN,BM,A8,CU,AY,BC,AO,AQ,AL,BD,AX,AC,AA,A7,BF,BA,ES,GU,BR,BG,↓reduceIte,Nat.reduceEqDiff,Option.getD_some,Bool.not_false,enP,AGH,AJF ADU sz4 (.inr rfl)]
   exact ⟨.inr ⟨rfl,_,_,rfl⟩,ext.rfl' _⟩
theorem AVH (G:Nat→AV) {n:Nat} {s:SM} {v:AV} {xs ys:List Bool} {h:Hp} (hs:SumV n h v xs) (hl:ys.length=xs.length) (hn:xs.length≤1048576) :
  ∃ H',ACalls (En G) 115 [v,.sl s 1 (ys.map GH)] h (fun r H=>r = .tup []∧H=H')∧SumV n H' v (orL xs ys)∧(∀ e,e.length≤n→Sm.ext e h→Sm.ext e H')∧∀ q x,h[q]? = some x→¬ isB v q→H'[q]? = some x:=by
 rcases hs with ⟨b,h1,rfl,hb⟩ | ⟨rfl,s',k,rfl⟩
 ·refine ⟨_,UW G hb hl hn,.inl ⟨b,h1,by rw [AL9 hl],EM hb⟩,fun e he hx=>hx.set (by omega) _,fun q x hq hn => ?_⟩
  have hn' : ¬ b=q:=hn
  rw [List.getElem?_set,if_neg hn']; exact hq
 ·obtain rfl:ys = []:=by simpa using hl
  refine ⟨h,?_,.inr ⟨rfl,_,_,rfl⟩,fun e _ hx=>hx,fun q x hq _=>hq⟩
  refine CG (H:=Hint.none) (enM G) Tryz.func115 rfl (by kernel_rfl) (by kernel_rfl) (Nat.le_of_ble_eq_true (by kernel_rfl)) ?_
  show awp _ _ _ _ _ (EU _ [] _)
  simp -implicitDefEqProofs only [BB,BP,AZ,A8,AY,BC,AO,AQ,AL,BD,AX,AC,AA,A7,AU,BH,BF,DN,AB,BG,BV,List.map_nil,↓reduceIte,Option.getD_some,Bool.not_false,enP,ABG,List.length_map]
  refine C9 (fun n F H=>F 7 = .int .i64 0∧F 8 = .int .i64 0∧H=h) 0 ⟨by simp -implicitDefEqProofs only [AA,↓reduceIte,Nat.reduceEqDiff] <;> rfl,by simp -implicitDefEqProofs only [AA,↓reduceIte] <;> rfl,rfl⟩ ?_
  rintro n F H ⟨f7,f8,rfl⟩
  have hc:((0:Int) < 0)=False:=by simp
  simp -implicitDefEqProofs only [BB,AZ,DC,BI,A8,DZ,EN,EP,AGD,DY,AY,BC,AO,AQ,AL,BD,AX,AC,AA,A7,BQ,AB,CW,↓reduceIte,Option.getD_some,Bool.not_false,decide_false,enP,f7,f8,hc,decide_false]
  exact ⟨trivial,trivial⟩
/-- or frozen -/
def SumW (h:Hp) (v:AV) (xs:List Bool):Prop:=SumV 0 h v xs∨v = .sl .any 1 (xs.map GH)
theorem SumW.reads {h:Hp} {v:AV} {xs:List Bool} (hs:SumW h v xs):Reads h v xs:=by
 rcases hs with h1 | rfl
 ·exact h1.reads
 ·exact Reads.sl h _ xs
theorem SumW.ext {h H:Hp} {v:AV} {xs:List Bool} (hs:SumW h v xs) (he:ext h H):SumW H v xs:=by
 rcases hs with h1 | h2
 ·exact .inl (h1.ext he)
 ·exact .inr h2
theorem AI4 (G:Nat→AV) {v:AV} {xs:List Bool} {h:Hp} (hs:SumW h v xs) (hl:xs.length≤1048576):ACalls (En G) 177 [v] h fun v' H=>SumV h.length H v' xs∧ext h H:=by
 rcases hs with h1 | rfl
 ·exact ALB G h1 hl
 refine CG (H:=Hint.none) (enM G) Tryz.func177 rfl (by kernel_rfl) (by kernel_rfl) (Nat.le_of_ble_eq_true (by kernel_rfl)) ?_
 show awp _ _ _ _ _ (EU _ [.tmp 2] _)
 have hd:decide (SM.any=SM.nil)=false:=rfl
 simp -implicitDefEqProofs only [FP,BB,AZ,BN,BI,A8,DY,AY,BC,AO,AQ,AL,BD,AX,AC,AA,A7,AU,FV,BF,BA,ES,BQ,GU,BR,AB,BG,↓reduceIte,Nat.reduceEqDiff,Option.getD_some,Bool.not_false,enP,AQO,hd,AGH]
 cases xs with
 | nil =>
   simp -implicitDefEqProofs only [BM,A8,CU,AY,BC,AO,AQ,AL,BD,AX,AC,AA,A7,BA,BR,List.map_nil,↓reduceIte,Option.getD_some,Bool.not_false,List.map_nil,AJF ADU sz4 (.inr rfl)]
   exact ⟨.inr ⟨rfl,_,_,rfl⟩,ext.rfl' _⟩
 | cons x xs =>
   refine F9 (ACN ADU sz4 AVR AWI (KX h .any 1 ((x :: xs).map GH)) (by simp) (KO (by simp at hl ⊢; omega) (by omega))) ?_
   simp -implicitDefEqProofs only [BM,A8,CU,AY,BC,AO,AQ,AL,BD,AX,AC,AA,A7,BA,List.map_cons,List.nil_append,↓reduceIte,Option.getD_some,Bool.not_false]
   refine ⟨.inl ⟨h.length,Nat.le_refl _,by simp,?_⟩,(ext.rfl' h).app _⟩
   exact CX _ _
/-- Clip's list -/
def ACG (o:List Nat):AV:=match o with
 | [] => .sl .nil 1 []
 | _ => .sl .full 1 (o.map FI)
theorem AR6 (h:Hp) (o:List Nat):NE Tryz.prog h 57 (.sl (nm o) 1 (o.map FI)) none (some (.int .i64 (o.length:Nat))) (some (.int .i64 (o.length:Nat)))=some (ACG o):=by
 have hb:JA (some (.int .i64 (o.length:Nat))) none=some o.length:=by first | (simp [JA]; done) | (simp [JA]; omega)
 have hb':JA (some (.int .i64 (o.length:Nat))) (some (o.map FI).length)=some o.length:=by first | (simp [JA]; done) | (simp [JA]; omega)
 have h0:JA none (some 0)=some 0:=rfl
 unfold NE
 simp only [QB,sz3,hb,hb',h0]
 rw [if_pos ⟨trivial,Nat.zero_le _,Nat.le_refl _,by simp,rfl⟩]
 cases o with
 | nil=>rfl
 | cons a o =>
   simp only [List.drop_zero,Nat.sub_zero]
   rw [List.take_of_length_le (by simp)]
   rfl
theorem AO9 (G:Nat→AV) (o:List Nat) (h:Hp):PCall (En G) 178 [.sl (nm o) 1 (o.map FI)] h (ACG o):=by
 refine CG (H:=Hint.none) (enM G) Tryz.func178 rfl (by kernel_rfl) (by kernel_rfl) (Nat.le_of_ble_eq_true (by kernel_rfl)) ?_
 show awp _ _ _ _ _ (EU _ [.tmp 2] _)
 simp -implicitDefEqProofs only [Option.map_some,Option.map_none,BB,AZ,BM,A8,CU,AY,BC,AO,AQ,AL,BD,AX,AC,AA,A7,AU,FV,BF,BA,U1,DN,AB,BG,↓reduceIte,Nat.reduceEqDiff,Option.getD_some,Bool.not_false,enP,IL,List.length_map,AR6]
 exact ⟨by first | trivial | rfl,by first | trivial | rfl⟩
theorem ASL (h:Hp) (o:List Nat) (i:Nat) (hl:o.length≤8388608):G5 Tryz.prog false h 57 57 (ACG o) (.sl .full 1 [FI i])=some (.sl (nm (o ++ [i])) 1 ((o ++ [i]).map FI),h):=by
 cases o with
 | nil =>
   have hr:room 1 8:=KO (by omega) (by omega)
   simp [G5,ACG,QB,sz3,X6,WN,RP,KA,bump,hr,nm]
 | cons a o =>
   show G5 Tryz.prog false h 57 57 (.sl .full 1 ((a :: o).map FI)) _=_
   rw [ALI QB sz3 X6 WN (KX h .full 1 [FI i]) (by simp) (KO (by simp at hl ⊢; omega) (by omega))]
   simp [nm]
end Go.Proofs.YtocilianjfhifaaGreatDoor.Rk
/- rank: chooser.choose; no condition but the bounds on lengths. -/
set_option linter.unusedSimpArgs false
set_option maxRecDepth 8000
namespace Go.Proofs.YtocilianjfhifaaGreatDoor.Rk
open Go Go.Proofs Go.Proofs.YtocilianjfhifaaGreatDoor.Sm Go.Proofs.YtocilianjfhifaaGreatDoor.Bins Go.Proofs.YtocilianjfhifaaGreatDoor.Cov Go.RowKit

def ADH (o:List Nat):AV := .sl (nm o) 1 (o.map FI)
theorem AYV (o:List Nat):JZ Tryz.prog 57 (ADH o)=some (.int .i64 (o.length:Nat)):=by unfold ADH; rw [IL.1,List.length_map]
/-- what choose hands back -/
def chP (k:Nat) (o:List Nat) (c:Option (List Nat)):AV:=match c with
 | some x=>ADH x
 | none=>if k=0 then ADH o else .sl .nil 0 []
theorem ANG (n:Nat) (H:Hp) (k:Nat) (o:List Nat) (c:Option (List Nat)) (b:Bool):JF n H 2 (.tup [chP k o c,.bool b]) = .tup [chP k o c,.bool b]:=by
 show AV.tup [JF n H 1 (chP k o c),.bool b]=_
 cases c with
 | some x=>rfl
 | none=>unfold chP; simp only; split <;> rfl
/-- where to go on -/
def NI (o:List Nat):Nat:=if 0 < o.length then o.getD (o.length - 1) 0+1 else 0
theorem AOU (o:List Nat) (j:Nat):NI (o ++ [j])=j+1:=by
 unfold NI
 rw [if_pos (by simp)]
 simp [List.getD_eq_getElem?_getD]
theorem ARF (m:Mo) (l:List Cvr) (o:List Nat):AOH (I8 m l o) (I8 m l (List.range l.length))=(goals m).countP (fun x=>full (hits l) l.length x && !cov (hits l) o x):=by
 unfold I8
 rw [AHX]
 rfl
theorem ASB (h:Hp) (s:SM) (k:Nat) (xs:List (List AV)) (u:AV) (hu:u.leaf=true):PY h (.agg [.sl s k xs,u])=some (.ptr h.length 0 0,h ++ [ABlk.live 2 [[.sl s k xs,u]]]):=VH (by simp only [List.all_cons,hu,List.all_nil]; rfl)
theorem AQV {h:Hp} {b:Nat} {a u:AV} (hb:h[b]? = some (ABlk.live 2 [[a,u]])):EE Tryz.prog h 158 (.ptr b 0 0)=some (.agg [a,u]):=by
 rw [JE AZ1 AP6 hb rfl (Nat.le_refl 2)]; rfl
theorem AMP {h:Hp} {b:Nat} {a u:AV} (hb:h[b]? = some (ABlk.live 2 [[a,u]])):EE Tryz.prog h 143 (.ptr b 0 0)=some a:=by
 rw [D6 AZ2 hb (row := [a,u]) rfl]; rfl
theorem AFP {h:Hp} {b:Nat} {a u:AV} (hb:h[b]? = some (ABlk.live 2 [[a,u]])):EE Tryz.prog h 146 (.ptr b 0 1)=some u:=by
 rw [D6 V3 hb (row := [a,u]) rfl]; rfl
theorem ARD (h:Hp) (o:List Nat) (j:Nat):MO Tryz.prog h 57 57 (ACG o) (.sl .full 1 [[.int .i64 (j:Nat)]])=true:=by
 have e : ∀ o:List Nat,((o.map FI).all fun x=>x.all AV.frozen)=true:=fun o=>by
  rw [List.all_eq_true]
  intro r hr
  obtain ⟨v,_,rfl⟩:=List.mem_map.1 hr
  rfl
 have c:KA h (ACG o)=some (1,o.map FI):=by cases o <;> rfl
 unfold MO
 simp only [QB,sz3,c]
 show ((o.map FI ++ [[AV.int .i64 (j:Nat)]]).all fun x=>x.all AV.frozen)=true
 rw [List.all_append,e]
 rfl
theorem API (h:Hp) (o:List Nat) (i:Nat) (hl:o.length≤8388608):G5 Tryz.prog false h 57 57 (ACG o) (.sl .full 1 [[.int .i64 (i:Nat)]])=some (ADH (o ++ [i]),h):=ASL h o i hl
set_option maxHeartbeats 4000000 in
theorem AI6 (G:Nat→AV) (m:Mo) (l:List Cvr) (s:SM) (hn:l.length≤1048576) (hN:(goals m).length≤1048576) :
  ∀ (k:Nat) (o:List Nat) (h:Hp) (v u:AV),(∀ j∈o,j < l.length)→o.length+k≤1048576→SumW h v (I8 m l o)→SumV 0 h u (I8 m l (List.range l.length)) →
  PCall (En G) 122 [.agg [.sl s 1 ((JL m l).map I9),u],ADH o,v,.int .i64 (k:Nat)] h (.tup [chP k o (choose (goals m) (hits l) l.length k o (NI o)),.bool (choose (goals m) (hits l) l.length k o (NI o)).isSome]):=by
 have hvl:=O9 m l
 intro k
 induction k with
 | zero =>
   intro o h v u ho hol hv hu
   refine NU 2 (fun n H=>ANG n H _ _ _ _) ?_
   refine CG (H:=Hint.none) (enM G) Tryz.func122 rfl (by kernel_rfl) (by kernel_rfl) (Nat.le_of_ble_eq_true (by kernel_rfl)) ?_
   show awp _ _ _ _ _ (EU _ [.tmp 8,.tmp 9] _)
   have gm:=CX h (ABlk.live 2 [[.sl s 1 ((JL m l).map I9),u]])
   have hx:ext h (h ++ [ABlk.live 2 [[.sl s 1 ((JL m l).map I9),u]]]):=(ext.rfl' h).app _
   have hv1:=hv.ext hx
   have hu1:=hu.ext hx
   have z0:(((0:Nat):Int) == 0)=true:=rfl
   simp -implicitDefEqProofs only [BB,AZ,BI,A8,AY,BC,AO,AQ,AL,BD,AX,AC,AA,A7,AU,BH,BL,FV,BF,BA,FK,BQ,BR,AB,EJ,BG,BV,↓reduceIte,Nat.reduceEqDiff,Option.getD_some,Bool.not_false,enP,ASB h s 1 ((JL m l).map I9) u hu.leaf]
   generalize h ++ [ABlk.live 2 [[.sl s 1 ((JL m l).map I9),u]]]=H at gm hx hv1 hu1 ⊢
   have hcall:=RX G hv1.reads hu1.reads (by rw [GL,GL]) (by rw [GL]; exact hN)
   rw [ARF] at hcall
   simp -implicitDefEqProofs only [BB,AZ,DX,AY,AO,AQ,AL,BD,AX,AC,AA,A7,CB,BF,BO,BJ,CE,BX,AB,BG,BV,List.map_cons,List.map_nil,List.append_nil,↓reduceIte,Nat.reduceEqDiff,Nat.zero_add,Option.getD_some,Bool.not_false,enP,AF8,z0,AFP gm]
   refine hcall.use ?_
   have hch:choose (goals m) (hits l) l.length 0 o (NI o)=if allB (goals m) (hits l) l.length o=true then some o else none:=rfl
   rw [hch]
   unfold allB
   generalize (goals m).countP (fun x=>full (hits l) l.length x && !cov (hits l) o x)=q
   cases q with
   | zero =>
     simp -implicitDefEqProofs only [Nat.reduceBEq,BM,A8,CS,IV,AY,BC,AO,AQ,AL,BD,AX,AC,AA,A7,AU,BH,BA,BQ,AB,EJ,↓reduceIte,Nat.reduceEqDiff,Option.getD_some,Bool.not_false,enP]
     exact ⟨rfl,hx⟩
   | succ q =>
     have e1:(((q+1:Nat):Int) == 0)=false:=by rw [beq_eq_false_iff_ne]; omega
     have e2:(q+1 == 0)=false:=rfl
     simp -implicitDefEqProofs only [BM,A8,CS,IV,AY,BC,AO,AQ,AL,BD,AX,AC,AA,A7,AU,BH,BA,BQ,AB,EJ,↓reduceIte,Nat.reduceEqDiff,Option.getD_some,Bool.not_false,enP,e1]
     exact ⟨rfl,hx⟩
 | succ k ih =>
   intro o h v u ho hol hv hu
   have hch:choose (goals m) (hits l) l.length (k+1) o (NI o)=QC (fun j=>choose (goals m) (hits l) l.length k (o ++ [j]) (j+1)) (NI o) (l.length - NI o):=rfl
   rw [hch]
   have hfr:NI o≤1048577:=by
    unfold NI
    split
    ·rename_i h0
     have:=ho (o.getD (o.length - 1) 0) (by rw [List.getD_eq_getElem?_getD,List.getElem?_eq_getElem (by omega)]; exact List.getElem_mem _)
     omega
    ·omega
   refine NU 2 (fun n H=>ANG n H _ _ _ _) ?_
   refine CG (H:=Hint.none) (enM G) Tryz.func122 rfl (by kernel_rfl) (by kernel_rfl) (Nat.le_of_ble_eq_true (by kernel_rfl)) ?_
   show awp _ _ _ _ _ (EU _ [.tmp 8,.tmp 9] _)
   have gm:=CX h (ABlk.live 2 [[.sl s 1 ((JL m l).map I9),u]])
   have hx:ext h (h ++ [ABlk.live 2 [[.sl s 1 ((JL m l).map I9),u]]]):=(ext.rfl' h).app _
   have hv1:=hv.ext hx
   have hu1:=hu.ext hx
   have z0:(((k+1:Nat):Int) == 0)=false:=by rw [beq_eq_false_iff_ne]; omega
   have hwk:IntKind.i64.wrap (((k+1:Nat):Int) - 1)=((k:Nat):Int):=by rw [wrap_i64 (by omega) (by omega)]; omega
   simp -implicitDefEqProofs only [BB,AZ,BI,A8,AY,BC,AO,AQ,AL,BD,AX,AC,AA,A7,AU,BH,BL,FV,BF,BA,FK,BQ,BR,AB,EJ,BG,BV,↓reduceIte,Nat.reduceEqDiff,Option.getD_some,Bool.not_false,enP,ASB h s 1 ((JL m l).map I9) u hu.leaf]
   generalize h ++ [ABlk.live 2 [[.sl s 1 ((JL m l).map I9),u]]]=H at gm hx hv1 hu1 ⊢
   simp -implicitDefEqProofs only [BB,AZ,BN,BI,A8,DY,AY,BC,AO,AQ,AL,BD,AX,AC,AA,A7,AU,BH,BF,BA,BQ,DN,AB,EW,BG,BV,↓reduceIte,Nat.reduceEqDiff,Option.getD_some,Bool.not_false,enP,z0,AYV]
   refine UQ (fun F' H'=>F' 1=ADH o∧F' 2=v∧F' 3 = .int .i64 (k+1:Nat)∧F' 4 = .ptr h.length 0 0∧F' 10 = .int .i64 (NI o:Nat)∧H'=H) (fun _ _=>False) ?_ ?_ ?_ ?_
   ·intro hc
    have h0:0 < o.length:=by simpa using hc
    have hw:IntKind.i64.wrap (((o.length:Nat):Int) - 1)=((o.length - 1:Nat):Int):=by rw [wrap_i64 (by omega) (by omega)]; omega
    have hlt:o.length - 1 < o.length:=by omega
    have hf:NI o=o[o.length - 1]+1:=by
     unfold NI
     rw [if_pos h0,List.getD_eq_getElem?_getD,List.getElem?_eq_getElem hlt]; rfl
    have hlt2:=ho _ (List.getElem_mem hlt)
    have hix : ∀ H:Hp,LX 1 H (ADH o) (.int .i64 (o.length - 1:Nat))=some (.fptr 1 (o.map FI) (o.length - 1) 0):=fun H=>DJ hlt
    have hld : ∀ H:Hp,EE Tryz.prog H 3 (.fptr 1 (o.map FI) (o.length - 1) 0)=some (.int .i64 (o[o.length - 1]:Nat)):=fun H=>by rw [CV ag3 hlt]; rfl
    rw [hf]
    generalize o[o.length - 1]=y at hld hlt2 ⊢
    simp -implicitDefEqProofs only [AZ,VS,AY,BC,AO,AQ,AL,BD,AX,AC,AA,A7,AU,BH,BF,BA,BO,BQ,BZ,DN,AB,CZ,KY,BG,BV,↓reduceIte,Nat.reduceEqDiff,Option.getD_some,Bool.not_false,enP,JQ,AYV,hw,hix,hld,wrap_succ (show y < 9223372036854775807 by omega)]
    exact ⟨by first | trivial | rfl,by first | trivial | rfl,by first | trivial | rfl,by first | trivial | rfl,by first | trivial | rfl,by first | trivial | rfl⟩
   ·intro hc
    have h0 : ¬ 0 < o.length:=by simpa using hc
    have hf:NI o=0:=by unfold NI; rw [if_neg h0]
    rw [hf]
    simp -implicitDefEqProofs only [BN,VS,AA,BG,BV,↓reduceIte,Nat.reduceEqDiff]
    exact ⟨by first | trivial | rfl,by first | trivial | rfl,by first | trivial | rfl,by first | trivial | rfl,by first | trivial | rfl,by first | trivial | rfl⟩
   case refine_4=>exact fun _ _ h=>h.elim
   rintro F H' ⟨f1,f2,f3,f4,f10,rfl⟩
   simp -implicitDefEqProofs only [BB,BP,AZ,A8,AY,BC,AO,AQ,AL,BD,AX,AC,AA,A7,BF,BA,↓reduceIte,Option.getD_some,Bool.not_false,f10]
   generalize hT:QC (fun j=>choose (goals m) (hits l) l.length k (o ++ [j]) (j+1)) (NI o) (l.length - NI o)=T
   refine F8 0 (fun F' H'=>Sm.ext h H'∧T=none) (fun F' H'=>F' 9 = .bool true∧Sm.ext h H'∧∃ x,F' 8=ADH x∧T=some x) ?_ ?_ ?_
   ·refine C9 (fun n F' H1 => ∃ j,n+min j l.length=l.length∧NI o≤j∧j≤1048577∧F' 1=ADH o∧F' 2=v∧F' 3 = .int .i64 (k+1:Nat)∧F' 4 = .ptr h.length 0 0∧F' 11 = .int .i64 (j:Nat)∧Sm.ext H' H1∧T=QC (fun j=>choose (goals m) (hits l) l.length k (o ++ [j]) (j+1)) j (l.length - j)) (l.length - min (NI o) l.length)
     ⟨NI o,by omega,Nat.le_refl _,hfr,by simp -implicitDefEqProofs only [AA,↓reduceIte,Nat.reduceEqDiff,f1],by simp -implicitDefEqProofs only [AA,↓reduceIte,Nat.reduceEqDiff,f2],by simp -implicitDefEqProofs only [AA,↓reduceIte,Nat.reduceEqDiff,f3],by simp -implicitDefEqProofs only [AA,↓reduceIte,Nat.reduceEqDiff,f4],by simp -implicitDefEqProofs only [AA,↓reduceIte],ext.rfl' _,hT.symm⟩ ?_
    rintro n F' H1 ⟨j,hj,hij,hjb,g1,g2,g3,g4,g11,he,htl⟩
    have gm1:=IZ he gm
    have hv2:=hv1.ext he
    have hu2:=hu1.ext he
    simp -implicitDefEqProofs only [BB,AZ,BI,A8,AY,BC,AO,AQ,AL,BD,AX,AC,AA,A7,BF,BO,BQ,BJ,DN,AB,CW,↓reduceIte,Nat.reduceEqDiff,Nat.add_zero,Option.getD_some,Bool.not_false,enP,QF,AM0,g4,g11,AMP gm1,List.length_map,hvl]
    refine CQ (fun hc => ?_) (fun hc => ?_)
    ·have hj':j < l.length:=by simpa using hc
     have hjv:j < (JL m l).length:=by omega
     have hva:=PS m l hj' hjv
     rw [U2 _ _ _ hj'] at htl
     simp -implicitDefEqProofs only [BB,BP,AZ,BN,A8,AY,AO,AQ,AL,BD,AX,AC,AA,A7,CB,BF,CE,BX,List.map_cons,List.map_nil,List.append_nil,↓reduceIte,Nat.reduceEqDiff,Option.getD_some,Bool.not_false,g2]
     refine ACalls.mono (AI4 G hv2 (by rw [GL]; exact hN)) ?_
     rintro w H2 ⟨hw,he2⟩
     obtain ⟨H3,hadd,hw3,he3,_⟩:=AVH G (s := .any) (ys:=row m l[j]) hw (by rw [PV,GL]) (by rw [GL]; exact hN)
     rw [AAP m l o hj'] at hw3
     have hx3:Sm.ext h H3:=he3 h (by have:=he.le; have:=hx.le; omega) (hx.trans (he.trans he2))
     have hx4:Sm.ext H' H3:=he3 H' he.le (he.trans he2)
     have gm2:=IZ he2 gm1
     have gm3:=IZ hx4 gm
     simp -implicitDefEqProofs only [BB,AZ,A8,AY,BC,AO,AQ,AL,BD,AX,AC,AA,A7,CB,BF,BA,BO,BJ,BZ,CE,BX,AB,List.map_cons,List.map_nil,List.append_nil,↓reduceIte,Nat.reduceEqDiff,Nat.add_zero,Option.getD_some,Bool.not_false,enP,XE,AM0,g4,g11,AMP gm2,DJ hjv,CV V3 hjv,TG,hva]
     refine ACalls.mono hadd ?_
     rintro r H4 ⟨rfl,rfl⟩
     have hcall:=ih (o ++ [j]) H4 w u (fun y hy=>by
      rcases List.mem_append.1 hy with hy | hy
      ·exact ho y hy
      ·simp at hy; omega) (by simp; omega) (.inl (hw3.low (Nat.zero_le _))) (hu1.ext hx4)
     rw [AOU] at hcall
     simp -implicitDefEqProofs only [BB,A8,BC,AC]
     refine ER (by kernel_rfl) ?_
     simp -implicitDefEqProofs only [F7,FP,FZ,D9,DT,EC,FH,KC,FC,GM,F6,AO,AA,A7,CB,ES,BO,AB,List.map_cons,List.map_nil,List.append_nil,↓reduceIte,Nat.reduceEqDiff,Nat.reduceAdd,Option.getD_some,enP,g1,g3,g4,g11,AQV gm3]
     refine ⟨_,AO9 G o _,?_⟩
     simp -implicitDefEqProofs only [F7,D9,DT,EC,FH,IE,MG,GV,GM,F6,AO,AA,A7,AU,CB,BH,BQ,ET,ANN,BR,AB,KY,List.map_cons,List.map_nil,List.append_nil,↓reduceIte,Nat.reduceEqDiff,Nat.reduceAdd,Option.getD_some,enP,ACI,ARD,API H4 o j (by omega),g1,g2,g3,g4,g11,hwk]
     refine ⟨_,hcall,?_⟩
     cases hcc:choose (goals m) (hits l) l.length k (o ++ [j]) (j+1) with
     | none =>
       rw [hcc] at htl
       simp -implicitDefEqProofs only [F7,List.getElem?_cons_zero,List.getElem?_cons_succ,D9,DT,E8,EC,IQ,MG,BB,AZ,BN,BI,A8,D8,ED,DY,AY,BC,AO,AQ,AL,BD,AX,AC,AA,A7,AU,BH,BF,BA,BQ,ET,FX,AB,CZ,↓reduceIte,Nat.reduceEqDiff,Nat.reduceAdd,Option.getD_some,Bool.not_false,enP,Option.isSome_none,g1,g2,g3,g4,g11,wrap_succ (show j < 9223372036854775807 by omega)]
       exact ⟨n - 1,by omega,j+1,by omega,by omega,by omega,by first | trivial | exact g1,by first | trivial | exact g2,by first | trivial | exact g3,by first | trivial | exact g4,rfl,hx4,htl⟩
     | some x =>
       rw [hcc] at htl
       simp -implicitDefEqProofs only [F7,List.getElem?_cons_zero,List.getElem?_cons_succ,D9,DT,E8,EC,IQ,MG,BB,AZ,BM,BI,A8,CS,EG,LW,FM,DX,AY,BC,AO,AQ,AL,BD,AX,AC,AA,A7,AU,BL,BF,BA,ET,FX,AB,↓reduceIte,Nat.reduceEqDiff,Nat.reduceAdd,Option.getD_some,Bool.not_false,Option.isSome_some]
       exact ⟨trivial,hx3,x,rfl,htl⟩
    ·have hj' : ¬ j < l.length:=by simpa using hc
     rw [show l.length - j=0 by omega] at htl
     simp -implicitDefEqProofs only [DC,DZ,JM,EP,↓reduceIte]
     exact ⟨hx.trans he,htl⟩
   ·rintro F' H1 ⟨he,rfl⟩
    simp -implicitDefEqProofs only [BB,AZ,BM,A8,EN,IV,AY,BC,AO,AQ,AL,BD,AX,AC,AA,AU,BL,FV,BA,↓reduceIte,Nat.reduceEqDiff,Option.getD_some,Bool.not_false]
    exact ⟨rfl,he⟩
   ·rintro F' H1 ⟨g9,he,x,g8,rfl⟩
    simp -implicitDefEqProofs only [CS,EG,IV,g8,g9]
    exact ⟨rfl,he⟩
end Go.Proofs.YtocilianjfhifaaGreatDoor.Rk
/- rank.Least; no condition but the variables that are laid, the bounds on lengths, and cover.tuple's contract. -/
set_option linter.unusedSimpArgs false
set_option maxRecDepth 8000
namespace Go.Proofs.YtocilianjfhifaaGreatDoor.Rk
open Go Go.Proofs Go.Proofs.YtocilianjfhifaaGreatDoor.Sm Go.Proofs.YtocilianjfhifaaGreatDoor.Bins Go.Proofs.YtocilianjfhifaaGreatDoor.Cov Go.RowKit

theorem AWQ (h:Hp):KD Tryz.prog h 158=some (.ptr h.length 0 0,h ++ [ABlk.live 2 [[.sl .nil 0 [],.sl .nil 0 []]]]):=JY (row := [.sl .nil 0 [],.sl .nil 0 []]) (by kernel_rfl)
theorem AZR (s:SM) (k:Nat) (xs:List (List AV)) (b o n:Nat):KN Tryz.prog 158 [(0,.sl s k xs),(1,.own b o n)]=some (.agg [.sl s k xs,.own b o n]):=by kernel_rfl
theorem AX6 (s:SM) (k:Nat) (xs:List (List AV)):KN Tryz.prog 158 [(0,.sl s k xs),(1,.sl .nil 0 [])]=some (.agg [.sl s k xs,.sl .nil 0 []]):=by kernel_rfl
theorem AYQ (h:Hp) (s:SM) (k:Nat) (xs:List (List AV)) (b o n:Nat):GG Tryz.prog (h ++ [ABlk.live 2 [[.sl .nil 0 [],.sl .nil 0 []]]]) 158 (.ptr h.length 0 0) (.agg [.sl s k xs,.own b o n])=some (h ++ [ABlk.live 2 [[.sl s k xs,.own b o n]]]):=by
 rw [PD (cs := [.sl s k xs,.own b o n]) (row := [.sl .nil 0 [],.sl .nil 0 []]) rfl AP6 (CX _ _) (by exact Nat.le_refl 2),QV]
 rfl
theorem AW5 (h:Hp) (s:SM) (k:Nat) (xs:List (List AV)):GG Tryz.prog (h ++ [ABlk.live 2 [[.sl .nil 0 [],.sl .nil 0 []]]]) 158 (.ptr h.length 0 0) (.agg [.sl s k xs,.sl .nil 0 []])=some (h ++ [ABlk.live 2 [[.sl s k xs,.sl .nil 0 []]]]):=by
 rw [PD (cs := [.sl s k xs,.sl .nil 0 []]) (row := [.sl .nil 0 [],.sl .nil 0 []]) rfl AP6 (CX _ _) (by exact Nat.le_refl 2),QV]
 rfl
theorem AQM (G:Nat→AV) (m:Mo) (l:List Cvr) (s:SM) (h:Hp) (h0:0 < l.length) (hn:l.length≤1048576) (hN:(goals m).length≤1048576) :
  PCall (En G) 112 [.sl s 1 ((JL m l).map I9)] h (.sl .any 1 ((I8 m l []).map GH)) :=
 AV1 _ ((RQ G m l s h h0 hn hN).mono fun v H ⟨e1,e2⟩=>⟨⟨_,e2⟩,h.length,Nat.le_refl _,by rw [e1,GL],by rw [e2]; exact CX _ _⟩)
theorem AI7 (G:Nat→AV) (s:SM) (h:Hp):PCall (En G) 122 [.agg [.sl s 1 [],.sl .nil 0 []],.sl .nil 0 [],.sl .nil 0 [],.int .i64 0] h (.tup [.sl .nil 0 [],.bool true]):=by
 refine NU 2 (fun n H=>rfl) ?_
 refine CG (H:=Hint.none) (enM G) Tryz.func122 rfl (by kernel_rfl) (by kernel_rfl) (Nat.le_of_ble_eq_true (by kernel_rfl)) ?_
 show awp _ _ _ _ _ (EU _ [.tmp 8,.tmp 9] _)
 have gm:=CX h (ABlk.live 2 [[.sl s 1 [],.sl .nil 0 []]])
 have hx:ext h (h ++ [ABlk.live 2 [[.sl s 1 [],.sl .nil 0 []]]]):=(ext.rfl' h).app _
 have z0:((0:Int) == 0)=true:=rfl
 simp -implicitDefEqProofs only [BB,AZ,BI,A8,AY,BC,AO,AQ,AL,BD,AX,AC,AA,A7,AU,BH,BL,FV,BF,BA,FK,BQ,BR,AB,EJ,BG,BV,↓reduceIte,Nat.reduceEqDiff,Option.getD_some,Bool.not_false,enP,ASB h s 1 [] (.sl .nil 0 []) rfl]
 generalize h ++ [ABlk.live 2 [[.sl s 1 [],.sl .nil 0 []]]]=H at gm hx ⊢
 have hcall:=RX G (Reads.nil H) (Reads.nil H) rfl (Nat.zero_le _)
 have e:((AOH [] []:Nat):Int)=0:=rfl
 rw [e] at hcall
 simp -implicitDefEqProofs only [BB,AZ,DX,AY,AO,AQ,AL,BD,AX,AC,AA,A7,CB,BF,BO,BJ,CE,BX,AB,BG,BV,List.map_cons,List.map_nil,List.append_nil,↓reduceIte,Nat.reduceEqDiff,Nat.zero_add,Option.getD_some,Bool.not_false,enP,AF8,z0,AFP gm]
 refine hcall.use ?_
 simp -implicitDefEqProofs only [BM,A8,CS,IV,AY,BC,AO,AQ,AL,BD,AX,AC,AA,A7,AU,BH,BA,BQ,AB,EJ,↓reduceIte,Nat.reduceEqDiff,Option.getD_some,Bool.not_false,enP]
 exact ⟨rfl,hx⟩
theorem AKO {γ:Type} (gs:List γ) (P:Nat→γ→Bool):least gs P 0=some []:=by
 have hb:allB gs P 0 []=true:=by
  unfold allB
  rw [beq_iff_eq,List.countP_eq_zero]
  intro x _ hx
  cases hx
 have hc:choose gs P 0 0 [] 0=some []:=by unfold choose; rw [if_pos hb]
 have hl:least gs P 0=QC (fun k=>choose gs P 0 k [] 0) 0 1:=rfl
 rw [hl,QC,hc]
set_option maxHeartbeats 4000000 in
theorem WQ (G:Nat→AV) (hG:GOk G) (hT:J5 G) (m:Mo) (l:List Cvr) (s:SM) (hm:MoOk m) (hl : ∀ v∈l,CvOk v) (hn:l.length≤1048576) (h:Hp) :
  PCall (En G) 64 [.agg (DU m),.sl s 4 (l.map EF)] h (.tup [.sl (nm (leL m l)) 1 ((leL m l).map FI),.int .i64 (JC m l 12)]):=by
 by_cases hz:JC m l 12=0
 case neg =>
  have hv:leL m l = []:=by unfold leL; rw [if_neg hz]
  rw [hv]
  refine PCall.res (r := .tup [.sl .nil 0 [],.int .i64 (JC m l 12)]) ?_ (CvR.tup (CvRL.cons (CvR.sl (Cv.nil 0 1)) (CvRL.refl _)))
  refine NU 3 (fun n H=>rfl) ?_
  refine CG (H:=hint [1000037] []) (enM G) Tryz.func64 rfl (by kernel_rfl) (by kernel_rfl) (Nat.le_of_ble_eq_true (by kernel_rfl)) ?_
  show awp _ _ _ _ _ (EU _ [.tmp 4,.tmp 5] _)
  have gm:=CX h (ABlk.live 2 [DU m])
  have hx:ext h (h ++ [ABlk.live 2 [DU m]]):=(ext.rfl' h).app _
  have hb:(JC m l 12 == 0)=false:=by simpa using hz
  simp -implicitDefEqProofs only [CY,List.contains_cons,List.contains_nil,Nat.reduceBEq,Bool.or_false,BB,AZ,A8,AY,BC,AL,BD,AX,AC,AA,A7,AU,BH,FV,BA,FK,BO,BR,BG,↓reduceIte,Nat.reduceEqDiff,Option.getD_some,Bool.not_false,enP,EK,bxM]
  generalize h ++ [ABlk.live 2 [DU m]]=H0 at gm hx ⊢
  simp -implicitDefEqProofs only [CY,List.contains_cons,List.contains_nil,Nat.reduceBEq,Bool.or_false,AY,AL,BD,AX,AC,AA,A7,AU,CB,BH,BF,CE,BX,AB,BG,BV,List.map_cons,List.map_nil,List.append_nil,↓reduceIte,Nat.reduceEqDiff,Option.getD_some,Bool.not_false,EK,ldM gm]
  refine (NV G hG hT m l s 12 hm hl hn _).use ?_
  simp -implicitDefEqProofs only [List.getElem?_cons_zero,List.getElem?_cons_succ,CY,List.contains_cons,List.contains_nil,Nat.reduceBEq,Bool.or_false,BB,AZ,BM,BI,A8,CS,IV,DX,AY,BC,AL,BD,AX,AC,AA,A7,AU,BH,FV,BF,BA,BQ,ET,FX,AB,EQ,↓reduceIte,Nat.reduceEqDiff,Option.getD_some,Bool.not_false,enP,EK,bne,hb]
  exact ⟨by first | trivial | rfl,hx⟩
 obtain ⟨h1,h2,h3⟩:=LU.1 hz
 have hgl:=KT (J4 h1)
 have hb:((0:Int) == 0)=true:=rfl
 have hop:opL m l 12=JL m l:=by unfold opL; rw [if_pos hz]
 have hv:leL m l=(least (goals m) (hits l) l.length).getD []:=by unfold leL; rw [if_pos hz]
 have hvl:=O9 m l
 rw [hv]
 by_cases h0:0 < l.length
 case neg =>
  have hl0:l = []:=List.eq_nil_of_length_eq_zero (by omega)
  subst hl0
  have hle:(least (goals m) (hits []) ([]:List Cvr).length).getD [] = []:=by
   rw [show ([]:List Cvr).length=0 from rfl,AKO]; rfl
  rw [hle,hz]
  refine PCall.res (r := .tup [.sl .nil 0 [],.int .i64 0]) ?_ (CvR.tup (CvRL.cons (CvR.sl (Cv.nil 0 1)) (CvRL.refl _)))
  refine NU 3 (fun n H=>rfl) ?_
  refine CG (H:=hint [1000037] []) (enM G) Tryz.func64 rfl (by kernel_rfl) (by kernel_rfl) (Nat.le_of_ble_eq_true (by kernel_rfl)) ?_
  show awp _ _ _ _ _ (EU _ [.tmp 4,.tmp 5] _)
  have gm:=CX h (ABlk.live 2 [DU m])
  have hx:ext h (h ++ [ABlk.live 2 [DU m]]):=(ext.rfl' h).app _
  simp -implicitDefEqProofs only [CY,List.contains_cons,List.contains_nil,Nat.reduceBEq,Bool.or_false,BB,AZ,A8,AY,BC,AL,BD,AX,AC,AA,A7,AU,BH,FV,BA,FK,BO,BR,BG,List.map_nil,↓reduceIte,Nat.reduceEqDiff,Option.getD_some,Bool.not_false,enP,EK,bxM]
  generalize h ++ [ABlk.live 2 [DU m]]=H0 at gm hx ⊢
  simp -implicitDefEqProofs only [CY,List.contains_cons,List.contains_nil,Nat.reduceBEq,Bool.or_false,AY,AL,BD,AX,AC,AA,A7,AU,CB,BH,BF,CE,BX,AB,BG,BV,List.map_cons,List.map_nil,List.append_nil,↓reduceIte,Nat.reduceEqDiff,Option.getD_some,Bool.not_false,EK,ldM gm]
  have hopen:=NV G hG hT m [] s 12 hm hl hn H0
  rw [hop,hz] at hopen
  refine hopen.use ?_
  generalize opM m [] 12=om
  have hv0:(JL m []).map I9 = []:=rfl
  rw [hv0]
  simp -implicitDefEqProofs only [List.getElem?_cons_zero,List.getElem?_cons_succ,CY,List.contains_cons,List.contains_nil,Nat.reduceBEq,Bool.or_false,BB,AZ,BN,BI,A8,DY,AY,BC,AL,BD,AX,AC,AA,A7,AU,CB,BH,BF,BA,BQ,ET,FX,CE,BX,AB,EQ,List.map_cons,List.map_nil,List.append_nil,↓reduceIte,Nat.reduceEqDiff,Option.getD_some,Bool.not_true,Bool.not_false,enP,EK,bne,hb]
  refine (XA G om H0).use ?_
  have hx1:ext h (H0 ++ [ABlk.live 2 [[.sl om 1 [],.sl .nil 0 []]]]):=hx.app _
  have gc:=CX H0 (ABlk.live 2 [[.sl om 1 [],.sl .nil 0 []]])
  simp -implicitDefEqProofs only [FP,FZ,CY,List.contains_cons,List.contains_nil,Nat.reduceBEq,Bool.or_false,BB,BP,AZ,A8,AY,BC,AL,BD,AX,AC,EZ,AA,A7,AU,BH,BF,FW,JI,EI,DN,BR,AB,DR,↓reduceIte,Nat.reduceEqDiff,Option.getD_some,Bool.not_false,enP,QF,EK,Option.getD_none,AX6,AWQ,AW5,List.length_nil]
  generalize H0 ++ [ABlk.live 2 [[.sl om 1 [],.sl .nil 0 []]]]=H1 at gc hx1 ⊢
  generalize H0.length=cb at gc ⊢
  clear gm hx
  have hc0:decide ((((0:Nat):Int)) < ((0:Nat):Int))=false:=rfl
  have hc1:decide ((0:Int) < 0+1)=true:=rfl
  refine F8 0 (fun F H=>F 6 = .sl om 1 []∧F 8 = .ptr cb 0 0∧H=H1) (fun _ _=>False) ?_ ?_ (fun _ _ hh=>hh.elim)
  ·refine C9 (fun n F H=>F 6 = .sl om 1 []∧F 8 = .ptr cb 0 0∧F 27 = .int .i64 0∧F 28 = .int .i64 0∧H=H1) 0 ⟨by simp -implicitDefEqProofs only [AA,↓reduceIte,Nat.reduceEqDiff],by simp -implicitDefEqProofs only [AA,↓reduceIte,Nat.reduceEqDiff],by simp -implicitDefEqProofs only [AA,↓reduceIte,Nat.reduceEqDiff] <;> rfl,by simp -implicitDefEqProofs only [AA,↓reduceIte] <;> rfl,rfl⟩ ?_
   rintro n F H ⟨f6,f8,f27,f28,rfl⟩
   have hc:((0:Int) < 0)=False:=by simp
   simp -implicitDefEqProofs only [CY,List.contains_cons,List.contains_nil,Nat.reduceBEq,Bool.or_false,BB,AZ,DC,BI,A8,DZ,JM,EP,DY,AY,BC,AL,BD,AX,AC,AA,A7,BQ,AB,CW,↓reduceIte,Nat.reduceEqDiff,Option.getD_some,Bool.not_false,decide_false,enP,EK,f27,f28,hc,decide_false]
   exact ⟨f6,f8,trivial⟩
  ·rintro F H ⟨f6,f8,rfl⟩
   have hw:IntKind.i64.wrap ((((0:Nat):Int))+1)=1:=by decide
   simp -implicitDefEqProofs only [CY,List.contains_cons,List.contains_nil,Nat.reduceBEq,Bool.or_false,BB,BP,AZ,A8,EN,AY,BC,AL,BD,AX,AC,AA,A7,AU,BH,BF,BQ,DN,AB,CZ,↓reduceIte,Option.getD_some,Bool.not_false,enP,QF,EK,f6,List.length_nil,hw]
   refine C9 (fun n F' H'=>F' 6 = .sl om 1 []∧F' 8 = .ptr cb 0 0∧F' 41 = .int .i64 1∧F' 42 = .int .i64 0∧H'=H) 0 ⟨by simp -implicitDefEqProofs only [AA,↓reduceIte,Nat.reduceEqDiff,f6],by simp -implicitDefEqProofs only [AA,↓reduceIte,Nat.reduceEqDiff,f8],by simp -implicitDefEqProofs only [AA,↓reduceIte,Nat.reduceEqDiff],by simp -implicitDefEqProofs only [AA,↓reduceIte],rfl⟩ ?_
   rintro n F' H' ⟨g6,g8,g41,g42,rfl⟩
   have hc:((0:Int) < 1)=True:=by simp
   simp -implicitDefEqProofs only [CY,List.contains_cons,List.contains_nil,Nat.reduceBEq,Bool.or_false,BB,BP,AZ,BN,BI,A8,DX,AY,BC,AL,BD,AX,AC,AA,A7,BF,BA,BQ,AB,CW,↓reduceIte,Nat.reduceEqDiff,Option.getD_some,Bool.not_false,decide_true,enP,EK,g41,g42,hc,decide_true]
   refine ER (by kernel_rfl) ?_
   simp -implicitDefEqProofs only [F7,CY,List.contains_cons,List.contains_nil,Nat.reduceBEq,Bool.or_false,D9,DT,EC,FH,FC,MG,GM,F6,AA,A7,AU,CB,FV,BO,ET,AB,List.map_cons,List.map_nil,List.append_nil,↓reduceIte,Nat.reduceEqDiff,Nat.reduceAdd,Option.getD_some,enP,g6,g8,AQV gc]
   refine ⟨_,XA G om _,?_⟩
   try simp -implicitDefEqProofs only []
   refine ⟨_,AI7 G om _,?_⟩
   try simp -implicitDefEqProofs only [F7,List.getElem?_cons_zero,List.getElem?_cons_succ,CY,List.contains_cons,List.contains_nil,Nat.reduceBEq,Bool.or_false,D9,DT,E8,EC,IQ,MG,BB,AZ,BM,BI,A8,CS,EG,FM,IV,DX,AY,BC,AL,BD,AX,AC,AA,A7,AU,BH,BF,BA,ET,FX,AB,↓reduceIte,Nat.reduceEqDiff,Nat.reduceAdd,Option.getD_some,Bool.not_false,EK]
   exact ⟨by first | trivial | rfl,hx1⟩
 have hne:=ABJ (goals m) (hits l) l.length
 have hlz:least (goals m) (hits l) l.length=QC (fun k=>choose (goals m) (hits l) l.length k [] 0) 0 (l.length+1 - 0):=rfl
 rw [hz]
 generalize least (goals m) (hits l) l.length=r at hne hlz ⊢
 refine NU 3 (fun n H=>rfl) ?_
 refine CG (H:=hint [1000037] []) (enM G) Tryz.func64 rfl (by kernel_rfl) (by kernel_rfl) (Nat.le_of_ble_eq_true (by kernel_rfl)) ?_
 show awp _ _ _ _ _ (EU _ [.tmp 4,.tmp 5] _)
 have gm:=CX h (ABlk.live 2 [DU m])
 have hx:ext h (h ++ [ABlk.live 2 [DU m]]):=(ext.rfl' h).app _
 simp -implicitDefEqProofs only [CY,List.contains_cons,List.contains_nil,Nat.reduceBEq,Bool.or_false,BB,AZ,A8,AY,BC,AL,BD,AX,AC,AA,A7,AU,BH,FV,BA,FK,BO,BR,BG,↓reduceIte,Nat.reduceEqDiff,Option.getD_some,Bool.not_false,enP,EK,bxM]
 generalize h ++ [ABlk.live 2 [DU m]]=H0 at gm hx ⊢
 simp -implicitDefEqProofs only [CY,List.contains_cons,List.contains_nil,Nat.reduceBEq,Bool.or_false,AY,AL,BD,AX,AC,AA,A7,AU,CB,BH,BF,CE,BX,AB,BG,BV,List.map_cons,List.map_nil,List.append_nil,↓reduceIte,Nat.reduceEqDiff,Option.getD_some,Bool.not_false,EK,ldM gm]
 have hopen:=NV G hG hT m l s 12 hm hl hn H0
 rw [hop,hz] at hopen
 refine hopen.use ?_
 generalize opM m l 12=om
 simp -implicitDefEqProofs only [List.getElem?_cons_zero,List.getElem?_cons_succ,CY,List.contains_cons,List.contains_nil,Nat.reduceBEq,Bool.or_false,BB,AZ,BN,BI,A8,DY,AY,BC,AL,BD,AX,AC,AA,A7,AU,CB,BH,BF,BA,BQ,ET,FX,CE,BX,AB,EQ,List.map_cons,List.map_nil,List.append_nil,↓reduceIte,Nat.reduceEqDiff,Option.getD_some,Bool.not_true,Bool.not_false,enP,EK,bne,hb]
 refine ACalls.mono (RQ G m l om H0 h0 hn (by omega)) ?_
 rintro v H1 ⟨rfl,rfl⟩
 have hs0:=DL (x:=ABlk.live 2 [[.sl om 1 ((JL m l).map I9),.own H0.length 0 (goals m).length]]) (CX H0 (ABlk.live 1 ((I8 m l []).map GH)))
 have gc:=CX (H0 ++ [ABlk.live 1 ((I8 m l []).map GH)]) (ABlk.live 2 [[.sl om 1 ((JL m l).map I9),.own H0.length 0 (goals m).length]])
 have hx1:ext h (H0 ++ [ABlk.live 1 ((I8 m l []).map GH)] ++ [ABlk.live 2 [[.sl om 1 ((JL m l).map I9),.own H0.length 0 (goals m).length]]]):=(hx.app _).app _
 have hle0:=hx.le
 have hcb:H0.length < (H0 ++ [ABlk.live 1 ((I8 m l []).map GH)]).length:=by simp
 simp -implicitDefEqProofs only [FP,FZ,CY,List.contains_cons,List.contains_nil,Nat.reduceBEq,Bool.or_false,BB,BP,AZ,A8,AY,BC,AL,BD,AX,AC,EZ,AA,A7,AU,BH,BF,FW,JI,EI,DN,BR,AB,DR,↓reduceIte,Nat.reduceEqDiff,Option.getD_some,Bool.not_false,enP,QF,EK,Option.getD_none,AZR,AWQ,AYQ,List.length_map,hvl]
 generalize H0 ++ [ABlk.live 1 ((I8 m l []).map GH)] ++ [ABlk.live 2 [[.sl om 1 ((JL m l).map I9),.own H0.length 0 (goals m).length]]]=H1 at hs0 gc hx1 ⊢
 generalize (H0 ++ [ABlk.live 1 ((I8 m l []).map GH)]).length=cb at gc hcb ⊢
 generalize H0.length=nb at hs0 gc hle0 hcb ⊢
 clear gm hx
 refine F8 0 (fun F H=>F 6 = .sl om 1 ((JL m l).map I9)∧F 8 = .ptr cb 0 0∧H[nb]? = some (ABlk.live 1 ((I8 m l (List.range l.length)).map GH))∧H[cb]? = some (ABlk.live 2 [[.sl om 1 ((JL m l).map I9),.own nb 0 (goals m).length]])∧ext h H) (fun _ _=>False) ?_ ?_ (fun _ _ hh=>hh.elim)
 ·refine C9 (fun n F H => ∃ i,n+i=l.length∧F 6 = .sl om 1 ((JL m l).map I9)∧F 8 = .ptr cb 0 0∧F 27 = .int .i64 (l.length:Nat)∧F 28 = .int .i64 (i:Nat)∧H[nb]? = some (ABlk.live 1 ((I8 m l (List.range i)).map GH))∧H[cb]? = some (ABlk.live 2 [[.sl om 1 ((JL m l).map I9),.own nb 0 (goals m).length]])∧ext h H) l.length
   ⟨0,by simp,by simp -implicitDefEqProofs only [AA,↓reduceIte,Nat.reduceEqDiff],by simp -implicitDefEqProofs only [AA,↓reduceIte,Nat.reduceEqDiff],by simp -implicitDefEqProofs only [AA,↓reduceIte,Nat.reduceEqDiff],by simp -implicitDefEqProofs only [AA,↓reduceIte] <;> rfl,hs0,gc,hx1⟩ ?_
  clear hs0 gc hx1
  rintro n F H ⟨i,hi,f6,f8,f27,f28,hs,gc,he⟩
  simp -implicitDefEqProofs only [CY,List.contains_cons,List.contains_nil,Nat.reduceBEq,Bool.or_false,BB,AZ,BI,A8,AY,BC,AL,BD,AX,AC,AA,A7,BQ,AB,CW,↓reduceIte,Option.getD_some,Bool.not_false,enP,EK,f27,f28]
  refine CQ (fun hc => ?_) (fun hc => ?_)
  ·have hi':i < l.length:=by simpa using hc
   have hiv:i < (JL m l).length:=by omega
   have hva:=PS m l hi' hiv
   have hadd:=UW G (s := .any) (ys:=row m l[i]) hs (by rw [PV,GL]) (by rw [GL]; omega)
   rw [GL,AAP m l (List.range i) hi',← List.range_succ] at hadd
   simp -implicitDefEqProofs only [CY,List.contains_cons,List.contains_nil,Nat.reduceBEq,Bool.or_false,BB,BP,AZ,BN,A8,AY,BC,AL,BD,AX,AC,AA,A7,BF,BA,↓reduceIte,Nat.reduceEqDiff,Option.getD_some,Bool.not_false,EK]
   refine ER (by kernel_rfl) ?_
   simp -implicitDefEqProofs only [F7,AVI,AR8,CY,List.contains_cons,List.contains_nil,Nat.reduceBEq,Bool.or_false,D9,DT,E8,EC,FH,FC,D5,D7,AZ,A8,D8,ED,AY,BC,AL,BD,AX,AC,AA,A7,AU,CB,BH,BF,BO,BQ,BJ,BZ,AB,CZ,List.map_cons,List.map_nil,List.append_nil,↓reduceIte,Nat.reduceEqDiff,Nat.reduceAdd,Nat.zero_add,Option.getD_some,Bool.not_false,enP,XE,AF8,EK,f6,f8,f28,AFP gc,DJ hiv,CV V3 hiv,TG,hva]
   refine ⟨_,_,hadd,?_⟩
   try simp -implicitDefEqProofs only [f28,wrap_succ (show i < 9223372036854775807 by omega)]
   exact ⟨n - 1,by omega,i+1,by omega,by first | exact f6 | trivial,by first | exact f8 | trivial,by first | exact f27 | trivial,by first | trivial | rfl,EM hs,EX gc (by omega),he.set hle0 _⟩
  ·have hi':i=l.length:=by
    have : ¬ i < l.length:=by simpa using hc
    omega
   subst hi'
   simp -implicitDefEqProofs only [DC,DZ,JM,EP,AA,↓reduceIte,Nat.reduceEqDiff]
   exact ⟨f6,f8,hs,gc,he⟩
 ·clear hs0 gc hx1
  rintro F H ⟨f6,f8,hs,gc,he⟩
  have hu:SumV 0 H (.own nb 0 (goals m).length) (I8 m l (List.range l.length)) := .inl ⟨nb,Nat.zero_le _,by rw [GL],hs⟩
  simp -implicitDefEqProofs only [CY,List.contains_cons,List.contains_nil,Nat.reduceBEq,Bool.or_false,BB,BP,AZ,A8,EN,AY,BC,AL,BD,AX,AC,AA,A7,AU,BH,BF,BQ,DN,AB,CZ,↓reduceIte,Option.getD_some,Bool.not_false,enP,QF,EK,f6,List.length_map,hvl,wrap_succ (show l.length < 9223372036854775807 by omega)]
  refine C9 (fun n F' H' => ∃ k,n+k=l.length+1∧F' 6 = .sl om 1 ((JL m l).map I9)∧F' 8 = .ptr cb 0 0∧F' 41 = .int .i64 (l.length+1:Nat)∧F' 42 = .int .i64 (k:Nat)∧H'=H∧r=QC (fun k=>choose (goals m) (hits l) l.length k [] 0) k (l.length+1 - k)) (l.length+1)
   ⟨0,by omega,by simp -implicitDefEqProofs only [AA,↓reduceIte,Nat.reduceEqDiff,f6],by simp -implicitDefEqProofs only [AA,↓reduceIte,Nat.reduceEqDiff,f8],by simp -implicitDefEqProofs only [AA,↓reduceIte,Nat.reduceEqDiff] <;> rfl,by simp -implicitDefEqProofs only [AA,↓reduceIte] <;> rfl,rfl,hlz⟩ ?_
  rintro n F' H' ⟨k,hk,g6,g8,g41,g42,rfl,htl⟩
  have hkn:k < l.length+1:=by
   rcases Nat.lt_or_ge k (l.length+1) with h4 | h4
   ·exact h4
   ·rw [show l.length+1 - k=0 by omega] at htl
    exact absurd htl hne
  rw [U2 _ _ _ hkn] at htl
  have hd:decide (((k:Nat):Int) < ((l.length+1:Nat):Int))=true:=by rw [decide_eq_true_iff]; omega
  have hcall:=(AI6 G m l om hn (by omega) k [] H' (.sl .any 1 ((I8 m l []).map GH)) (.own nb 0 (goals m).length) (by simp) (by simp; omega) (.inr rfl) hu).args (CvRL.cons (CvR.refl _) (CvRL.cons (CvR.sl (Cv.nil 0 1)) (CvRL.refl _)))
  simp -implicitDefEqProofs only [CY,List.contains_cons,List.contains_nil,Nat.reduceBEq,Bool.or_false,BB,BP,AZ,BN,BI,A8,DX,AY,BC,AL,BD,AX,AC,AA,A7,BF,BA,BQ,AB,CW,↓reduceIte,Nat.reduceEqDiff,Option.getD_some,Bool.not_false,enP,EK,g41,g42,hd]
  refine ER (by kernel_rfl) ?_
  simp -implicitDefEqProofs only [F7,CY,List.contains_cons,List.contains_nil,Nat.reduceBEq,Bool.or_false,D9,DT,EC,FH,FC,MG,GM,F6,AA,A7,AU,CB,FV,BO,ET,AB,List.map_cons,List.map_nil,List.append_nil,↓reduceIte,Nat.reduceEqDiff,Nat.reduceAdd,Option.getD_some,enP,g6,g8,g42,AQV gc]
  refine ⟨_,AQM G m l om H' h0 hn (by omega),?_⟩
  try simp -implicitDefEqProofs only [g42]
  refine ⟨_,hcall,?_⟩
  have hf0:NI []=0:=rfl
  rw [hf0]
  cases hcc:choose (goals m) (hits l) l.length k [] 0 with
  | none =>
    rw [hcc] at htl
    simp -implicitDefEqProofs only [F7,List.getElem?_cons_zero,List.getElem?_cons_succ,CY,List.contains_cons,List.contains_nil,Nat.reduceBEq,Bool.or_false,D9,DT,E8,EC,IQ,MG,BB,AZ,BN,BI,A8,D8,ED,DY,AY,BC,AL,BD,AX,AC,AA,A7,AU,BH,BF,BQ,ET,FX,AB,CZ,↓reduceIte,Nat.reduceEqDiff,Nat.reduceAdd,Option.getD_some,Bool.not_false,enP,EK,Option.isSome_none,g42,wrap_succ (show k < 9223372036854775807 by omega)]
    exact ⟨n - 1,by omega,k+1,by omega,by first | exact g6 | trivial,by first | exact g8 | trivial,by first | exact g41 | trivial,by first | trivial | rfl,trivial,htl⟩
  | some x =>
    rw [hcc] at htl
    simp -implicitDefEqProofs only [F7,List.getElem?_cons_zero,List.getElem?_cons_succ,CY,List.contains_cons,List.contains_nil,Nat.reduceBEq,Bool.or_false,D9,DT,E8,EC,IQ,MG,BB,AZ,BM,BI,A8,CS,EG,FM,IV,DX,AY,BC,AL,BD,AX,AC,AA,A7,AU,BH,BF,BA,ET,FX,AB,↓reduceIte,Nat.reduceEqDiff,Nat.reduceAdd,Option.getD_some,Bool.not_false,EK,Option.isSome_some]
    rw [htl]
    exact ⟨by first | trivial | rfl,he⟩
end Go.Proofs.YtocilianjfhifaaGreatDoor.Rk
/- What the laws of rank call: numbers, has, all, reached; no condition but the variables that are laid, the bounds on lengths, and cover.tuple's contract. -/
set_option linter.unusedSimpArgs false
set_option maxRecDepth 8000
namespace Go.Proofs.YtocilianjfhifaaGreatDoor.Rk
open Go Go.Proofs Go.Proofs.YtocilianjfhifaaGreatDoor.Sm Go.Proofs.YtocilianjfhifaaGreatDoor.Bins Go.Proofs.YtocilianjfhifaaGreatDoor.Cov Go.RowKit

theorem AEX {m:Mo} {l:List Cvr}:CvOk (N7 m l):=by
 by_cases hz:PN m l=0
 ·exact VG (AEW hz)
 ·unfold N7; rw [if_neg hz]; exact ⟨by decide,by decide,fun x hx=>(by cases hx),fun x hx=>(by cases hx)⟩
theorem AFM (G:Nat→AV) (xs:List Nat) (s s':SM) (hn:xs.length≤1048576) (h:Hp):PCall (En G) 59 [.sl s 1 (xs.map FI),.sl s' 1 (xs.map FI)] h (.bool true):=by
 refine CG (H:=Hint.none) (enM G) Tryz.func59 rfl (by kernel_rfl) (by kernel_rfl) (Nat.le_of_ble_eq_true (by kernel_rfl)) ?_
 show awp _ _ _ _ _ (EU _ [.tmp 4] _)
 have e0:((xs.length:Int) == (xs.length:Int))=true:=by simp
 simp -implicitDefEqProofs only [BB,BP,AZ,BN,BI,A8,DY,AY,BC,AO,AQ,AL,BD,AX,AC,AA,A7,AU,BH,BL,BF,BA,BQ,DN,AB,EQ,BG,BV,↓reduceIte,Nat.reduceEqDiff,Option.getD_some,Bool.not_true,Bool.not_false,enP,IL,List.length_map,bne,e0]
 refine C9 (fun n F H => ∃ i,n+i=xs.length∧F 0 = .sl s 1 (xs.map FI)∧F 1 = .sl s' 1 (xs.map FI)∧F 5 = .int .i64 (i:Nat)∧H=h) xs.length ⟨0,by simp,by simp -implicitDefEqProofs only [AA,BG,↓reduceIte,Nat.reduceEqDiff],by simp -implicitDefEqProofs only [AA,BG,BV,↓reduceIte,Nat.reduceEqDiff],by simp -implicitDefEqProofs only [AA,↓reduceIte]; rfl,rfl⟩ ?_
 rintro n F H ⟨i,hi,f0,f1,f5,rfl⟩
 simp -implicitDefEqProofs only [BB,AZ,BI,A8,AY,BC,AO,AQ,AL,BD,AX,AC,AA,A7,BF,BQ,DN,AB,CW,↓reduceIte,Nat.reduceEqDiff,Option.getD_some,Bool.not_false,enP,IL,f0,f5,List.length_map]
 refine CQ (fun hc => ?_) (fun hc => ?_)
 ·have hi':i < xs.length:=by simpa using hc
  have e1:(((xs[i]:Nat):Int) == ((xs[i]:Nat):Int))=true:=by simp
  simp -implicitDefEqProofs only [BB,BP,BN,A8]
  refine ER (by kernel_rfl) ?_
  simp -implicitDefEqProofs only [F7,D9,DT,E8,EC,FH,FC,IE,D7,AZ,BN,BI,A8,D8,ED,DY,AY,BC,AO,AQ,AL,BD,AX,AC,AA,A7,AU,BH,BF,BA,BO,BQ,BZ,AB,CZ,EQ,↓reduceIte,Nat.reduceEqDiff,Nat.reduceAdd,Option.getD_some,Bool.not_true,Bool.not_false,enP,JQ,f0,f1,f5,DJ hi',CV ag3 hi',VU,bne,e1,wrap_succ (show i < 9223372036854775807 by omega)]
  exact ⟨n - 1,by omega,i+1,by omega,by first | exact f0 | trivial,by first | exact f1 | trivial,rfl,trivial⟩
 ·simp -implicitDefEqProofs only [BB,AZ,BM,DC,A8,DZ,EN,EP,CU,AY,BC,AO,AQ,AL,BD,AX,AC,AA,AU,BL,BA,↓reduceIte,Option.getD_some,Bool.not_false]
  exact ⟨trivial,trivial⟩
theorem AMT (G:Nat→AV) (xs:List Nat) (s:SM) (z:Nat) (hz:z∈xs) (hn:xs.length≤1048576) (h:Hp):PCall (En G) 76 [.sl s 1 (xs.map FI),.int .i64 (z:Nat)] h (.bool true):=by
 refine CG (H:=Hint.none) (enM G) Tryz.func76 rfl (by kernel_rfl) (by kernel_rfl) (Nat.le_of_ble_eq_true (by kernel_rfl)) ?_
 show awp _ _ _ _ _ (EU _ [.tmp 4] _)
 simp -implicitDefEqProofs only [BB,BP,AZ,A8,AY,BC,AO,AQ,AL,BD,AX,AC,AU,BH,BL,BA,Option.getD_some,Bool.not_false,enP]
 refine C9 (fun n F H => ∃ i,n+i=xs.length∧F 0 = .sl s 1 (xs.map FI)∧F 1 = .int .i64 (z:Nat)∧F 5 = .int .i64 (i:Nat)∧H=h∧z∈xs.drop i) xs.length ⟨0,by simp,by simp -implicitDefEqProofs only [AA,BG,↓reduceIte,Nat.reduceEqDiff],by simp -implicitDefEqProofs only [AA,BG,BV,↓reduceIte,Nat.reduceEqDiff],by simp -implicitDefEqProofs only [AA,↓reduceIte]; rfl,rfl,by simpa using hz⟩ ?_
 rintro n F H ⟨i,hi,f0,f1,f5,rfl,hm⟩
 simp -implicitDefEqProofs only [BB,AZ,BI,A8,AY,BC,AO,AQ,AL,BD,AX,AC,AA,A7,BF,BQ,DN,AB,CW,↓reduceIte,Nat.reduceEqDiff,Option.getD_some,Bool.not_false,enP,IL,f0,f5,List.length_map]
 refine CQ (fun hc => ?_) (fun hc => ?_)
 ·have hi':i < xs.length:=by simpa using hc
  rw [List.drop_eq_getElem_cons hi',List.mem_cons] at hm
  simp -implicitDefEqProofs only [BB,BP,AZ,BN,BI,A8,AY,BC,AO,AQ,AL,BD,AX,AC,AA,A7,BF,BO,BQ,BZ,AB,EJ,↓reduceIte,Nat.reduceEqDiff,Option.getD_some,Bool.not_false,enP,JQ,f0,f1,f5,DJ hi',CV ag3 hi',VU]
  cases he:(((xs[i]:Nat):Int) == ((z:Nat):Int))
  ·have hne:z≠xs[i]:=by simp at he; omega
   simp -implicitDefEqProofs only [AZ,BN,A8,D8,ED,DY,AY,BC,AO,AQ,AL,BD,AX,AC,AA,A7,AU,BH,BF,BA,BQ,AB,CZ,↓reduceIte,Nat.reduceEqDiff,Option.getD_some,Bool.not_false,enP,f5,wrap_succ (show i < 9223372036854775807 by omega)]
   exact ⟨n - 1,by omega,i+1,by omega,f0,f1,rfl,trivial,hm.resolve_left hne⟩
  ·simp -implicitDefEqProofs only [BB,AZ,BM,A8,CS,EG,FM,CU,DX,AY,BC,AO,AQ,AL,BD,AX,AC,AA,AU,BL,BA,↓reduceIte,Option.getD_some,Bool.not_false]
   exact ⟨trivial,trivial⟩
 ·have hi' : ¬ i < xs.length:=by simpa using hc
  rw [List.drop_eq_nil_of_le (by omega)] at hm
  cases hm
theorem XZ (G:Nat→AV) (q:Qs) (hq:q.l.length≤1048576) (h:Hp):PCall (En G) 75 [.agg (LJ q)] h (.sl (nm (List.range q.l.length)) 1 ((List.range q.l.length).map FI)):=by
 refine MS AOS ?_
 refine CG (H:=Hint.none) (enM G) Tryz.func75 rfl (by kernel_rfl) (by kernel_rfl) (Nat.le_of_ble_eq_true (by kernel_rfl)) ?_
 show awp _ _ _ _ _ (EU _ [.tmp 2] _)
 have gq:=CX h (ABlk.live 3 [LJ q])
 have hx:ext h (h ++ [ABlk.live 3 [LJ q]]):=(ext.rfl' h).app _
 simp -implicitDefEqProofs only [BB,BP,AZ,A8,AY,BC,AO,AQ,AL,BD,AX,AC,A7,AU,BH,FV,BA,FK,BR,BG,Option.getD_some,Bool.not_false,enP,bxQ]
 generalize h ++ [ABlk.live 3 [LJ q]]=H0 at gq hx ⊢
 refine C9 (fun n F H => ∃ i w,n+i=q.l.length∧F 1 = .ptr h.length 0 0∧F 3=w∧F 4 = .int .i64 (i:Nat)∧outG 1 FI H0 (List.range i) w H∧ext H0 H) q.l.length
  ⟨0,_,by simp,by simp -implicitDefEqProofs only [AA,↓reduceIte,Nat.reduceEqDiff],by simp -implicitDefEqProofs only [AA,↓reduceIte,Nat.reduceEqDiff],by simp -implicitDefEqProofs only [AA,↓reduceIte]; rfl,outG.nil _ _ _ _,ext.rfl' _⟩ ?_
 rintro n F H ⟨i,w,hi,f1,f3,f4,ho,he⟩
 have gq1:=IZ he gq
 simp -implicitDefEqProofs only [BB,AZ,BI,A8,AY,BC,AO,AQ,AL,BD,AX,AC,AA,A7,BF,BO,BQ,BJ,DN,AB,CW,↓reduceIte,Nat.reduceEqDiff,Nat.zero_add,Option.getD_some,Bool.not_false,enP,TU,ND,f1,f4,VK gq1,List.length_map]
 refine CQ (fun hc => ?_) (fun hc => ?_)
 ·have hi':i < q.l.length:=by simpa using hc
  obtain ⟨w',H2,hap,ho2,_,he2,_,_⟩:=ho.append QB sz3 X6 WN (by omega) (by simp; omega) he i
  rw [← List.range_succ] at ho2
  simp -implicitDefEqProofs only [FP,FZ,BB,BP,AZ,BN,A8,AY,AO,AQ,AL,BD,AX,AC,AA,A7,BF,ES,GU,BR,↓reduceIte,Nat.reduceEqDiff,Option.getD_some,Bool.not_false,enP,f3,f4,ACI]
  refine F9 (v:=w') (h:=H2) hap ?_
  simp -implicitDefEqProofs only [AZ,A8,D8,ED,AY,BC,AO,AQ,AL,BD,AX,AC,AA,A7,AU,BH,BF,BA,BQ,AB,CZ,↓reduceIte,Nat.reduceEqDiff,Option.getD_some,Bool.not_false,enP,f4,wrap_succ (show i < 9223372036854775807 by omega)]
  exact ⟨n - 1,by omega,i+1,w',by omega,f1,rfl,rfl,ho2,he2⟩
 ·have hi':i=q.l.length:=by
   have : ¬ i < q.l.length:=by simpa using hc
   omega
  subst hi'
  simp -implicitDefEqProofs only [BB,AZ,BM,DC,A8,DZ,EN,EP,CU,AY,BC,AO,AQ,AL,BD,AX,AC,AA,A7,BF,BA,↓reduceIte,Nat.reduceEqDiff,Option.getD_some,Bool.not_false,f3]
  exact ⟨hx.trans he,ho.base hx.le⟩
set_option maxHeartbeats 2000000 in
theorem PG (G:Nat→AV) (hG:GOk G) (hT:J5 G) (q:Qs) (hq:QOk q) (o:List Nat) (s:SM) (ho : ∀ i∈o,i < q.l.length) (hon:o.length≤1048576) (h:Hp) :
  PCall (En G) 74 [.agg (LJ q),.sl s 1 (o.map FI)] h (.int .i64 (Q9 q.m (N7 q.m (sel q.l o)):Nat)):=by
 refine ACalls.pure0 rfl ?_
 refine CG (H:=hint [40] [(45,[44])]) (enM G) Tryz.func74 rfl (by kernel_rfl) (by kernel_rfl) (Nat.le_of_ble_eq_true (by kernel_rfl)) ?_
 show awp _ _ _ _ _ (EU _ [.tmp 4] _)
 have gq:=CX h (ABlk.live 3 [LJ q])
 have hx:ext h (h ++ [ABlk.live 3 [LJ q]]):=(ext.rfl' h).app _
 simp -implicitDefEqProofs only [CY,List.contains_cons,List.contains_nil,Nat.reduceBEq,Bool.or_false,BB,BP,AZ,A8,AY,BC,AL,BD,AX,AC,A7,AU,BH,FV,BA,FK,BR,BG,↓reduceIte,Option.getD_some,Bool.not_false,enP,Bool.false_eq_true,EH,bxQ]
 generalize h ++ [ABlk.live 3 [LJ q]]=H0 at gq hx ⊢
 refine F8 0 (fun F H=>F 2 = .ptr h.length 0 0∧outG 4 EF H0 (sel q.l o) (F 5) H∧ext H0 H) (fun _ _=>False) ?_ ?_ (fun _ _ hh=>hh.elim)
 ·refine C9 (fun n F H => ∃ i v,n+i=o.length∧F 1 = .sl s 1 (o.map FI)∧F 2 = .ptr h.length 0 0∧F 5=v∧F 6 = .int .i64 (i:Nat)∧outG 4 EF H0 (sel q.l (o.take i)) v H∧ext H0 H) o.length
   ⟨0,.sl .nil 0 [],by simp,by simp -implicitDefEqProofs only [AA,BG,BV,↓reduceIte,Nat.reduceEqDiff],by simp -implicitDefEqProofs only [AA,↓reduceIte,Nat.reduceEqDiff],by simp -implicitDefEqProofs only [AA,↓reduceIte,Nat.reduceEqDiff],by simp -implicitDefEqProofs only [AA,↓reduceIte]; rfl,by rw [List.take_zero]; exact outG.nil _ _ _ _,ext.rfl' _⟩ ?_
  rintro n F H ⟨i,v,hi,f1,f2,f5,f6,hv,he⟩
  have gq1:=IZ he gq
  simp -implicitDefEqProofs only [CY,List.contains_cons,List.contains_nil,Nat.reduceBEq,Bool.or_false,BB,AZ,BI,A8,AY,BC,AL,BD,AX,AC,AA,A7,BF,BQ,DN,AB,CW,↓reduceIte,Nat.reduceEqDiff,Option.getD_some,Bool.not_false,enP,IL,Bool.false_eq_true,EH,f1,f6,List.length_map]
  refine CQ (fun hc => ?_) (fun hc => ?_)
  ·have hi':i < o.length:=by simpa using hc
   have hoi:=ho _ (List.getElem_mem hi')
   have d1:decide (((o[i]:Nat):Int) < 0)=false:=by rw [decide_eq_false_iff_not]; omega
   have d2:decide (((o[i]:Nat):Int)≥((q.l.length:Nat):Int))=false:=by rw [decide_eq_false_iff_not]; omega
   have hsl:=Z5 q.l (o.take i)
   obtain ⟨v',H2,hap,hv2,_,he2,_,_⟩:=hv.append AYK TS AYG AZD (by omega) (by rw [hsl,List.length_take]; omega) he q.l[o[i]]
   rw [← AHC q.l o i hi' hoi] at hv2
   simp -implicitDefEqProofs only [BB,BP,BN,A8]
   refine ER (by kernel_rfl) ?_
   simp -implicitDefEqProofs only [F7,CY,List.contains_cons,List.contains_nil,Nat.reduceBEq,Bool.or_false,D9,DT,E8,EC,FQ,GR,QO,FH,I4,FC,IE,D5,D7,GV,BN,BI,A8,DY,CO,AA,A7,AU,BH,BL,CP,DV,BO,BQ,BJ,BZ,DN,AB,CW,G7,↓reduceIte,Nat.reduceEqDiff,Nat.reduceAdd,Nat.zero_add,Option.getD_some,enP,TU,JQ,ND,f1,f2,f6,DJ hi',CV ag3 hi',VU,d1,VK gq1,List.length_map,d2]
   refine ER (by kernel_rfl) ?_
   simp -implicitDefEqProofs only [F7,FP,FZ,CY,List.contains_cons,List.contains_nil,Nat.reduceBEq,Bool.or_false,D9,DT,E8,EC,FH,IQ,KC,FC,D5,D7,GV,AZ,A8,D8,ED,AY,BC,AL,BD,AX,AC,AA,A7,AU,BH,BF,BA,ES,BO,BQ,BJ,BZ,GU,BR,AB,CZ,↓reduceIte,Nat.reduceEqDiff,Nat.reduceAdd,Nat.zero_add,Option.getD_some,Bool.not_false,enP,AFR,JQ,ND,Bool.false_eq_true,EH,f1,f2,f5,f6,DJ hi',CV ag3 hi',VU,VK gq1,DJ hoi,FD ACR TS MC hoi,AWL,hap]
   simp -implicitDefEqProofs only [f6,wrap_succ (show i < 9223372036854775807 by omega)]
   exact ⟨n - 1,by omega,i+1,v',by omega,by first | exact f1 | trivial,by first | exact f2 | trivial,by first | trivial | rfl,by first | trivial | rfl,hv2,he2⟩
  ·have hi' : ¬ i < o.length:=by simpa using hc
   rw [List.take_of_length_le (by omega)] at hv
   simp -implicitDefEqProofs only [DC,DZ,JM,EP,AA,↓reduceIte,Nat.reduceEqDiff]
   exact ⟨f2,by rw [f5]; exact hv,he⟩
 ·rintro F H ⟨f2,hv,he⟩
  have gq1:=IZ he gq
  have hsl:=Z5 q.l o
  have hok:=AQD hq.l ho
  rcases hv with ⟨e,f5⟩ | ⟨hne,b,b1,f5,b3⟩
  ·rw [e] at hok hsl ⊢
   have hz:=AMY (H:=H) (i:=44) (k:=0) (m := .nil) (xs := [])
   have gq2:=DL (x:=ABlk.live 4 [EF (N7 q.m [])]) gq1
   have gT:=ldV (CX H (ABlk.live 4 [EF (N7 q.m [])]))
   simp -implicitDefEqProofs only [CY,List.contains_cons,List.contains_nil,Nat.reduceBEq,Bool.or_false,BB,AZ,A8,EN,AY,AL,BD,AX,AC,AA,A7,CB,BF,BO,BJ,CE,BX,AB,List.map_cons,List.map_nil,List.append_nil,↓reduceIte,Nat.reduceEqDiff,Nat.add_zero,Option.getD_some,Bool.not_false,enP,OC,Bool.false_eq_true,EH,f2,f5,YG gq1,PI,AL,hz]
   refine ((AJT G hG hT q.m [] .nil hq.m (fun v hv=>by cases hv) (by simp) _).args (CvRL.cons (CvR.refl _) (CvRL.cons (CvR.sl (Cv.nil 0 4)) CvRL.nil))).use ?_
   simp -implicitDefEqProofs only [List.getElem?_cons_zero,List.getElem?_cons_succ,CY,List.contains_cons,List.contains_nil,Nat.reduceBEq,Bool.or_false,BB,AZ,A8,AY,BC,AL,BD,AX,AC,EZ,AA,A7,CB,BF,BA,FW,BO,EI,BJ,ET,FX,CE,BX,BR,AB,DR,List.map_cons,List.map_nil,List.append_nil,↓reduceIte,Nat.reduceEqDiff,Nat.add_zero,Option.getD_some,Bool.not_false,enP,OC,Option.getD_none,Bool.false_eq_true,EH,MF,Q8,f2,YG gq2,gT]
   refine (AA5 G hG hT q.m (N7 q.m []) hq.m AEX _).use ?_
   simp -implicitDefEqProofs only [CY,List.contains_cons,List.contains_nil,Nat.reduceBEq,Bool.or_false,BM,A8,CU,AY,BC,AL,BD,AX,AC,AA,A7,BA,↓reduceIte,Option.getD_some,Bool.not_false,Bool.false_eq_true,EH]
   exact ⟨by first | trivial | rfl,(hx.trans he).app _⟩
  ·have hz:=RZ (i:=44) (off:=0) (len:=(sel q.l o).length) b3 (by simp) (by rw [List.drop_zero,List.take_of_length_le (by simp)]; exact AWC _)
   rw [List.drop_zero,List.take_of_length_le (by simp)] at hz
   have he':ext H0 (H.set b ABlk.dead):=he.set b1 _
   have gq2:=IZ he' gq
   have gq3:=DL (x:=ABlk.live 4 [EF (N7 q.m (sel q.l o))]) gq2
   have gT:=ldV (CX (H.set b ABlk.dead) (ABlk.live 4 [EF (N7 q.m (sel q.l o))]))
   simp -implicitDefEqProofs only [CY,List.contains_cons,List.contains_nil,Nat.reduceBEq,Bool.or_false,BB,AZ,A8,EN,AY,AL,BD,AX,AC,AA,A7,CB,BF,BO,BJ,CE,BX,AB,List.map_cons,List.map_nil,List.append_nil,↓reduceIte,Nat.reduceEqDiff,Nat.add_zero,Option.getD_some,Bool.not_false,enP,OC,Bool.false_eq_true,EH,f2,f5,YG gq1,PI,AL,hz]
   refine (AJT G hG hT q.m (sel q.l o) .any hq.m hok (by omega) _).use ?_
   simp -implicitDefEqProofs only [List.getElem?_cons_zero,List.getElem?_cons_succ,CY,List.contains_cons,List.contains_nil,Nat.reduceBEq,Bool.or_false,BB,AZ,A8,AY,BC,AL,BD,AX,AC,EZ,AA,A7,CB,BF,BA,FW,BO,EI,BJ,ET,FX,CE,BX,BR,AB,DR,List.map_cons,List.map_nil,List.append_nil,↓reduceIte,Nat.reduceEqDiff,Nat.add_zero,Option.getD_some,Bool.not_false,enP,OC,Option.getD_none,Bool.false_eq_true,EH,MF,Q8,f2,YG gq3,gT]
   refine (AA5 G hG hT q.m (N7 q.m (sel q.l o)) hq.m AEX _).use ?_
   simp -implicitDefEqProofs only [CY,List.contains_cons,List.contains_nil,Nat.reduceBEq,Bool.or_false,BM,A8,CU,AY,BC,AL,BD,AX,AC,AA,A7,BA,↓reduceIte,Option.getD_some,Bool.not_false,Bool.false_eq_true,EH]
   exact ⟨by first | trivial | rfl,(hx.trans he').app _⟩
end Go.Proofs.YtocilianjfhifaaGreatDoor.Rk
/- The example of the chapter on rankings; no condition but the variables that are laid, and cover.tuple's contract. -/
set_option linter.unusedSimpArgs false
set_option maxRecDepth 8000
namespace Go.Proofs.YtocilianjfhifaaGreatDoor.Rk
open Go Go.Proofs Go.Proofs.YtocilianjfhifaaGreatDoor.Sm Go.Proofs.YtocilianjfhifaaGreatDoor.Bins Go.Proofs.YtocilianjfhifaaGreatDoor.Cov Go.RowKit

def AKH (i:Nat):ByteArray:=⟨#[UInt8.ofNat (97+i)]⟩
def AX4 (i:Nat):Bin:=Cov.mkB (AKH i) 0 (i:Nat) (i:Nat)
def pt9:Pt:=⟨⟨#[112]⟩,A0P,.any,(List.range 4).map AX4⟩
def TV:Mo:=⟨.any,[pt9],.nil,[]⟩
def cv9 (l:List Int):Cvr:=⟨.full,[⟨.full,l⟩],.nil,[],0,0⟩
def exL9:List Cvr := [cv9 [1,2,0,0],cv9 [0,1,1,1],cv9 [3,0,0,1]]
/- what is built -/
def ADO (i:Nat):List AV := [.str (AKH i),.int .i64 0,.sl .full 2 [[.int .i64 (i:Nat),.int .i64 (i:Nat)]],.sl .nil 0 []]
theorem AY4:Frz ADO:=fun _ _ _ _=>⟨rfl,rfl⟩
def LG (v:AV):List AV := [.str ⟨#[112]⟩,.int .i64 2,.int .i64 0,.str ⟨#[97]⟩,.sl .nil 0 [],v]
theorem al56 (h:Hp):KD Tryz.prog h 56=some (.ptr h.length 0 0,h ++ [ABlk.live 6 [[.str ⟨#[]⟩,.int .i64 0,.int .i64 0,.str ⟨#[]⟩,.sl .nil 0 [],.sl .nil 0 []]]]):=JY (row := [.str ⟨#[]⟩,.int .i64 0,.int .i64 0,.str ⟨#[]⟩,.sl .nil 0 [],.sl .nil 0 []]) (by kernel_rfl)
theorem A05 (s t:ByteArray) (n:Int):KN Tryz.prog 56 [(0,.str s),(1,.agg [.int .i64 n,.int .i64 0,.str t,.sl .nil 0 []])]=some (.agg [.str s,.int .i64 n,.int .i64 0,.str t,.sl .nil 0 [],.sl .nil 0 []]):=by kernel_rfl
theorem A0E (h:Hp) (row:List AV) (hr:row.length=6):GG Tryz.prog (h ++ [ABlk.live 6 [row]]) 56 (.ptr h.length 0 0) (.agg [.str ⟨#[112]⟩,.int .i64 2,.int .i64 0,.str ⟨#[97]⟩,.sl .nil 0 [],.sl .nil 0 []])=some (h ++ [ABlk.live 6 [LG (.sl .nil 0 [])]]):=by
 have h1:=OU (P:=Tryz.prog) (t:=56) (h:=h) (k:=6) (j:=0) (row:=row) (cs:=LG (.sl .nil 0 [])) (v := .agg (LG (.sl .nil 0 []))) rfl ZM (by rw [hr]; exact Nat.le_refl 6)
 have h2:splice row 0 (LG (.sl .nil 0 []))=LG (.sl .nil 0 []):=by unfold splice; simp [hr,LG]
 rw [h2] at h1
 exact h1
theorem AXI {H:Hp} {b:Nat} {v:AV} (hb:H[b]? = some (ABlk.live 6 [LG v])):EE Tryz.prog H 54 (.ptr b 0 5)=some v:=by
 rw [D6 PO hb (row:=LG v) rfl]; rfl
theorem AW4 {H:Hp} {b:Nat} {v w:AV} (hb:H[b]? = some (ABlk.live 6 [LG v])) (hw:JK w=some [w]):GG Tryz.prog H 54 (.ptr b 0 5) w=some (H.set b (ABlk.live 6 [LG w])):=by
 have s54:szO Tryz.prog 54=some 1:=by kernel_rfl
 rw [PD (cs := [w]) hw s54 hb (Nat.le_refl 6)]
 rfl
theorem A0N {H:Hp} {b:Nat} {v:AV} (hb:H[b]? = some (ABlk.live 6 [LG v])):EE Tryz.prog H 56 (.ptr b 0 0)=some (.agg (LG v)):=by
 rw [JE AGM ZM hb rfl (Nat.le_refl 6)]; rfl
theorem AZJ (h:Hp) (n:Int):FO Tryz.prog false h 206 1 [(0,.int .u8 n)]=some (.sl .full 1 [[.int .u8 n]],h):=by kernel_rfl
theorem AUZ:SK Tryz.prog 206 9 (.sl .full 1 [[.int .u8 (IntKind.u8.wrap (IntKind.i64.wrap (97+((0:Nat):Int))))]])=some (.str (AKH 0)):=by kernel_rfl
theorem AUY:SK Tryz.prog 206 9 (.sl .full 1 [[.int .u8 (IntKind.u8.wrap (IntKind.i64.wrap (97+((1:Nat):Int))))]])=some (.str (AKH 1)):=by kernel_rfl
theorem AUX:SK Tryz.prog 206 9 (.sl .full 1 [[.int .u8 (IntKind.u8.wrap (IntKind.i64.wrap (97+((2:Nat):Int))))]])=some (.str (AKH 2)):=by kernel_rfl
theorem AUW:SK Tryz.prog 206 9 (.sl .full 1 [[.int .u8 (IntKind.u8.wrap (IntKind.i64.wrap (97+((3:Nat):Int))))]])=some (.str (AKH 3)):=by kernel_rfl
theorem lt4 {i:Nat} (hi:i < 4):i=0∨i=1∨i=2∨i=3:=by omega
theorem AY7 (i:Nat) (hi:i < 4):SK Tryz.prog 206 9 (.sl .full 1 [[.int .u8 (IntKind.u8.wrap (IntKind.i64.wrap (97+(i:Int))))]])=some (.str (AKH i)):=by
 rcases lt4 hi with rfl | rfl | rfl | rfl
 ·exact AUZ
 ·exact AUY
 ·exact AUX
 ·exact AUW
theorem AX7 (s:ByteArray) (xs:List (List AV)):KN Tryz.prog 121 [(0,.str s),(2,.sl .full 2 xs)]=some (.agg [.str s,.int .i64 0,.sl .full 2 xs,.sl .nil 0 []]):=by kernel_rfl
theorem bs54 (h:Hp) (s:ByteArray) (xs:List (List AV)):FO Tryz.prog false h 54 1 [(0,.agg [.str s,.int .i64 0,.sl .full 2 xs,.sl .nil 0 []])]=some (.sl .full 4 [[.str s,.int .i64 0,.sl .full 2 xs,.sl .nil 0 []]],h):=by kernel_rfl
theorem AU4 (h:Hp) (s t:ByteArray) (n:Int) (b l:Nat):FO Tryz.prog true h 22 1 [(0,.agg [.str s,.int .i64 n,.int .i64 0,.str t,.sl .nil 0 [],.own b 0 l])]=some (.own h.length 0 1,h ++ [ABlk.live 6 [[.str s,.int .i64 n,.int .i64 0,.str t,.sl .nil 0 [],.own b 0 l]]]):=by kernel_rfl
theorem AU7 (b l:Nat):KN Tryz.prog 25 [(0,.own b 0 l)]=some (.agg [.own b 0 l,.sl .nil 0 []]):=by kernel_rfl
theorem ATB (H:Hp) {c b l:Nat} (hb:H[c]? = some (ABlk.live 2 [[.sl .nil 0 [],.sl .nil 0 []]])):GG Tryz.prog H 25 (.ptr c 0 0) (.agg [.own b 0 l,.sl .nil 0 []])=some (H.set c (ABlk.live 2 [[.own b 0 l,.sl .nil 0 []]])):=by
 rw [PD (cs := [.own b 0 l,.sl .nil 0 []]) rfl AS7 hb (Nat.le_refl 2)]
 rfl
def AV0:List AV := [.sl .any 6 [LG (.sl .any 4 ((List.range 4).map ADO))],.sl .nil 0 []]
theorem APD : ∀ (i:Nat),CvRow (ADO i) (J9 (AX4 i)):=fun i=>CvRow.cons rfl (Cv.refl _) (CvRow.cons rfl (Cv.refl _) (CvRow.cons rfl (Cv.refl _) (CvRow.cons rfl (Cv.nil 0 1) CvRow.nil)))
theorem AJ6:CvR (.agg AV0) (.agg (DU TV)):=by
 have hbins:Cv (.sl .any 4 ((List.range 4).map ADO)) (.sl .any 4 (((List.range 4).map AX4).map J9)):=by
  refine Cv.rows (by simp) ?_
  intro i r r' h1 h2
  rw [List.map_map,List.getElem?_map] at h2
  rw [List.getElem?_map] at h1
  cases hr:(List.range 4)[i]? with
  | none=>rw [hr] at h1; cases h1
  | some j =>
    rw [hr] at h1 h2
    cases h1; cases h2
    exact APD j
 refine CvR.agg (CvRL.cons (CvR.sl (Cv.rows rfl ?_)) (CvRL.cons (CvR.sl (Cv.nil 0 3)) CvRL.nil))
 intro i r r' h1 h2
 match i,h1,h2 with
 | 0,h1,h2 =>
   cases h1; cases h2
   exact CvRow.cons rfl (Cv.refl _) (CvRow.cons rfl (Cv.refl _) (CvRow.cons rfl (Cv.refl _) (CvRow.cons rfl (Cv.refl _) (CvRow.cons rfl (Cv.nil 0 4) (CvRow.cons rfl hbins CvRow.nil)))))
 | _+1,h1,_=>cases h1
set_option maxHeartbeats 1000000 in
theorem ABB (G:Nat→AV) (h:Hp):PCall (En G) 109 [] h (.agg (DU TV)):=by
 have AYF:QQ Tryz.prog 121=some 4:=by kernel_rfl
 have AZC:LD Tryz.prog 121=some 72:=by kernel_rfl
 have hp:PCall (En G) 109 [] h (.agg AV0):=by
  refine ACalls.pure 5 (R:=fun v H => ∃ b c,v = .agg [.own b 0 1,.sl .nil 0 []]∧h.length≤b∧h.length≤c∧H[b]? = some (ABlk.live 6 [LG (.own c 0 4)])∧H[c]? = some (ABlk.live 4 ((List.range 4).map ADO))∧ext h H) ?_ ?_
  rotate_left
  ·rintro v H ⟨b,c,rfl,hbl,hcl,hb,hc,he⟩
   refine ⟨he,?_⟩
   have q1:JF h.length H 3 (.own c 0 4) = .sl .any 4 ((List.range 4).map ADO):=XI AY4 (d:=1) (xs:=List.range 4) hcl hc
   have q2:JF h.length H 4 (.own b 0 1) = .sl .any 6 [LG (.sl .any 4 ((List.range 4).map ADO))]:=by
    rw [AIF h.length H 3 b 0 1 6 _ (by omega) hb]
    have e:((([LG (.own c 0 4)]:List (List AV)).drop 0).take 1).map (·.map (JF h.length H 3)) = [LG (.sl .any 4 ((List.range 4).map ADO))]:=by
     show [[AV.str _,.int .i64 2,.int .i64 0,.str _,.sl .nil 0 [],JF h.length H 3 (.own c 0 4)]]=_
     rw [q1]; rfl
    rw [e,if_pos ⟨Nat.le_refl 1,rfl⟩]
   show AV.agg [JF h.length H 4 (.own b 0 1),.sl .nil 0 []]=_
   rw [q2]; rfl
  refine CG (H:=hint [25] []) (enM G) Tryz.func109 rfl (by kernel_rfl) (by kernel_rfl) (Nat.le_of_ble_eq_true (by kernel_rfl)) ?_
  show awp _ _ _ _ _ (EU _ [.cell 0 25] _)
  have g0:=DL (x:=ABlk.live 6 [LG (.sl .nil 0 [])]) (CX h (ABlk.live 2 [[.sl .nil 0 [],.sl .nil 0 []]]))
  have g1:=CX (h ++ [ABlk.live 2 [[.sl .nil 0 [],.sl .nil 0 []]]]) (ABlk.live 6 [LG (.sl .nil 0 [])])
  have hx:ext h (h ++ [ABlk.live 2 [[.sl .nil 0 [],.sl .nil 0 []]]] ++ [ABlk.live 6 [LG (.sl .nil 0 [])]]):=((ext.rfl' h).app _).app _
  have hlt:h.length < (h ++ [ABlk.live 2 [[.sl .nil 0 [],.sl .nil 0 []]]]).length:=by simp
  simp -implicitDefEqProofs only [FP,FZ,CY,List.contains_cons,List.contains_nil,Nat.reduceBEq,Bool.or_false,BB,BP,AZ,A8,AY,BC,AL,BD,AX,AC,EZ,AA,A7,AU,BH,KI,BA,FW,JI,EI,BR,AB,DR,↓reduceIte,Nat.reduceEqDiff,Option.getD_some,Bool.not_false,enP,EK,Option.getD_none,A08,A04,A05,al56,A0E (h ++ [ABlk.live 2 [[.sl .nil 0 [],.sl .nil 0 []]]]) [.str ⟨#[]⟩,.int .i64 0,.int .i64 0,.str ⟨#[]⟩,.sl .nil 0 [],.sl .nil 0 []] rfl]
  generalize h ++ [ABlk.live 2 [[.sl .nil 0 [],.sl .nil 0 []]]] ++ [ABlk.live 6 [LG (.sl .nil 0 [])]]=H0 at g0 g1 hx ⊢
  generalize (h ++ [ABlk.live 2 [[.sl .nil 0 [],.sl .nil 0 []]]]).length=pb at g1 hlt ⊢
  have hpl:=CJ g1
  refine F8 0 (fun F H=>F 0 = .ptr h.length 0 0∧F 1 = .ptr pb 0 0∧H[h.length]? = some (ABlk.live 2 [[.sl .nil 0 [],.sl .nil 0 []]])∧(∃ w,H[pb]? = some (ABlk.live 6 [LG w])∧outG 4 ADO H0 (List.range 4) w H)∧ext h H) (fun _ _=>False) ?_ ?_ (fun _ _ hh=>hh.elim)
  ·refine C9 (fun n F H => ∃ i w,n+i=4∧F 0 = .ptr h.length 0 0∧F 1 = .ptr pb 0 0∧F 2 = .int .i64 (i:Nat)∧H[h.length]? = some (ABlk.live 2 [[.sl .nil 0 [],.sl .nil 0 []]])∧H[pb]? = some (ABlk.live 6 [LG w])∧outG 4 ADO H0 (List.range i) w H∧ext h H∧H0.length≤H.length) 4
    ⟨0,.sl .nil 0 [],by simp,by simp -implicitDefEqProofs only [AA,↓reduceIte,Nat.reduceEqDiff],by simp -implicitDefEqProofs only [AA,↓reduceIte,Nat.reduceEqDiff],by simp -implicitDefEqProofs only [AA,↓reduceIte]; rfl,g0,g1,outG.nil _ _ _ _,hx,Nat.le_refl _⟩ ?_
   rintro n F H ⟨i,w,hi,f0,f1,f2,g0,g1,ho,he,hle⟩
   simp -implicitDefEqProofs only [CY,List.contains_cons,List.contains_nil,Nat.reduceBEq,Bool.or_false,BB,AZ,BI,A8,AY,BC,AL,BD,AX,AC,AA,A7,AU,BH,BF,BQ,AB,CW,↓reduceIte,Option.getD_some,Bool.not_false,enP,EK,f2]
   refine CQ (fun hc => ?_) (fun hc => ?_)
   ·have hi':i < 4:=by simp at hc; omega
    obtain ⟨w',H2,hap,ho2,hk2,hl2,hn2,⟨o,ol,rfl⟩,hx2⟩:=ho.app2 A0C UB AYF AZC (by omega) (by simp; omega) hle i
    rw [← List.range_succ] at ho2
    have nb : ∀ b:Nat,b < H0.length→¬ isB w b:=fun b hb hB=>by have:=ho.lt hB; omega
    have g02:=hk2 _ _ g0 (nb _ (by omega))
    have g12:=hk2 _ _ g1 (nb _ hpl)
    have hol:H0.length≤o:=(ho2.lt (b:=o) rfl).1
    simp -implicitDefEqProofs only [FP,FZ,CY,List.contains_cons,List.contains_nil,Nat.reduceBEq,Bool.or_false,BB,BP,AZ,BN,A8,AY,AL,BD,AX,AC,AA,A7,AU,BH,BF,JI,ES,BO,BQ,AE8,BJ,GU,BR,AB,CZ,↓reduceIte,Nat.reduceEqDiff,Nat.zero_add,Option.getD_some,Bool.not_false,enP,IU,AY6,EK,f1,f2,AXI g1,AZJ,AY7 i hi',AZT,AZF,AX7,bs54]
    refine F9 (v := .own o 0 ol) (h:=H2) hap ?_
    simp -implicitDefEqProofs only [CY,List.contains_cons,List.contains_nil,Nat.reduceBEq,Bool.or_false,AZ,A8,D8,ED,AY,BC,AL,BD,AX,AC,EZ,AA,A7,AU,BH,BF,BA,EI,BQ,BJ,AB,DR,CZ,↓reduceIte,Nat.reduceEqDiff,Nat.zero_add,Option.getD_some,Bool.not_false,enP,IU,EK,Option.getD_none,f1,AW4 (w := .own o 0 ol) g12 rfl,f2,wrap_succ (show i < 9223372036854775807 by omega)]
    exact ⟨n - 1,by omega,i+1,_,by omega,by first | exact f0 | trivial,by first | exact f1 | trivial,by first | trivial | rfl,EX g02 (by omega),EM g12,ho2.keep fun b hb=>by
     have hne:b≠pb:=by rintro rfl; have:=ho2.lt hb; omega
     rw [List.getElem?_set_ne (fun e=>hne e.symm)],(hx2 h hx.le he).set (by omega) _,by rw [List.length_set]; omega⟩
   ·have hi':i=4:=by simp at hc; omega
    subst hi'
    simp -implicitDefEqProofs only [DC,DZ,JM,EP,AA,↓reduceIte,Nat.reduceEqDiff]
    exact ⟨f0,f1,g0,⟨w,g1,ho⟩,he⟩
  ·rintro F H ⟨f0,f1,g0,⟨w,g1,ho⟩,he⟩
   rcases ho with ⟨e,_⟩ | ⟨_,c,c1,rfl,c3⟩
   ·cases e
   have g02:=DL (x:=ABlk.live 6 [LG (.own c 0 4)]) g0
   have c32:=DL (x:=ABlk.live 6 [LG (.own c 0 4)]) c3
   have gT:=CX H (ABlk.live 6 [LG (.own c 0 4)])
   have h0:=CJ g0
   have hc0:=hx.le
   have hl4:(List.range 4).length=4:=rfl
   rw [hl4] at g1
   have hstep:=AU4 H ⟨#[112]⟩ ⟨#[97]⟩ 2 c 4
   simp -implicitDefEqProofs only [FP,FZ,CY,List.contains_cons,List.contains_nil,Nat.reduceBEq,Bool.or_false,BB,AZ,A8,EN,AY,AL,BD,AX,AC,AA,A7,ES,BO,AB,↓reduceIte,Option.getD_some,Bool.not_false,enP,EK,f0,f1,A0N g1]
   refine F9 (v := .own H.length 0 1) (h:=H ++ [ABlk.live 6 [LG (.own c 0 4)]]) hstep ?_
   simp -implicitDefEqProofs only [FP,FZ,CY,List.contains_cons,List.contains_nil,Nat.reduceBEq,Bool.or_false,BM,A8,AY,BC,AL,BD,AX,AC,EZ,AA,A7,JI,EI,AB,DR,↓reduceIte,Nat.reduceEqDiff,Option.getD_some,Bool.not_false,enP,EK,Option.getD_none,AU7,f0,ATB _ g02]
   have g03:((H ++ [ABlk.live 6 [LG (.own c 0 4)]]).set h.length (ABlk.live 2 [[.own H.length 0 1,.sl .nil 0 []]]))[h.length]? = some (ABlk.live 2 [[.own H.length 0 1,.sl .nil 0 []]]):=EM g02
   rw [AB6 (b:=h.length) (x := .agg [.own H.length 0 1,.sl .nil 0 []]) (by simp -implicitDefEqProofs only [AA,↓reduceIte,Nat.reduceEqDiff,f0]) (by rw [JE AX8 AS7 g03 rfl (Nat.le_refl 2)]; rfl)]
   exact ⟨H.length,c,rfl,by omega,by omega,EX gT (by omega),EX c32 (by omega),(he.app _).set (Nat.le_refl _) _⟩
 exact hp.res AJ6
theorem AXZ (h:Hp) (a b c d:Int):FO Tryz.prog false h 57 4 [(0,.int .i64 a),(1,.int .i64 b),(2,.int .i64 c),(3,.int .i64 d)]=some (.sl .full 1 [[.int .i64 a],[.int .i64 b],[.int .i64 c],[.int .i64 d]],h):=by kernel_rfl
theorem AX0 (h:Hp) (a b:Int):FO Tryz.prog false h 57 2 [(0,.int .i64 a),(1,.int .i64 b)]=some (.sl .full 1 [[.int .i64 a],[.int .i64 b]],h):=by kernel_rfl
theorem AX5 (xs:List (List AV)):KN Tryz.prog 28 [(0,.sl .full 1 xs)]=some (.agg [.sl .full 1 xs,.sl .nil 0 [],.int .i64 0,.int .i64 0]):=by kernel_rfl
def AL4 (xs:List (List AV)):List AV := [.sl .full 1 [[.sl .full 1 xs]],.sl .nil 0 [],.int .i64 0,.int .i64 0]
theorem AX1 (h:Hp) (x y z:List (List AV)):FO Tryz.prog false h 37 3 [(0,.agg [.sl .full 1 x,.sl .nil 0 [],.int .i64 0,.int .i64 0]),(1,.agg [.sl .full 1 y,.sl .nil 0 [],.int .i64 0,.int .i64 0]),(2,.agg [.sl .full 1 z,.sl .nil 0 [],.int .i64 0,.int .i64 0])]=some (.sl .full 4 [[.sl .full 1 x,.sl .nil 0 [],.int .i64 0,.int .i64 0],[.sl .full 1 y,.sl .nil 0 [],.int .i64 0,.int .i64 0],[.sl .full 1 z,.sl .nil 0 [],.int .i64 0,.int .i64 0]],h):=by kernel_rfl
theorem V8 (l:List Int):CvRow (AL4 (l.map encI)) (EF (cv9 l)):=CvRow.cons rfl (Cv.refl _) (CvRow.cons rfl (Cv.nil 0 1) (CvRow.cons rfl (Cv.refl _) (CvRow.cons rfl (Cv.refl _) CvRow.nil)))
theorem AHE (G:Nat→AV) (h:Hp):PCall (En G) 110 [] h (.sl .full 4 (exL9.map EF)):=by
 have hp:PCall (En G) 110 [] h (.sl .full 4 [AL4 ([1,2,0,0].map encI),AL4 ([0,1,1,1].map encI),AL4 ([3,0,0,1].map encI)]):=by
  refine CG (H:=Hint.none) (enM G) Tryz.func110 rfl (by kernel_rfl) (by kernel_rfl) (Nat.le_of_ble_eq_true (by kernel_rfl)) ?_
  show awp _ _ _ _ _ (EU _ [.tmp 0] _)
  simp -implicitDefEqProofs only [FP,FZ,BB,AZ,BM,A8,CU,AY,BC,AO,AQ,AL,BD,AX,AC,AA,A7,AU,BH,FV,BA,JI,ES,BR,AB,List.map_cons,List.map_nil,↓reduceIte,Nat.reduceEqDiff,Option.getD_some,Bool.not_false,enP,AXZ,AX2,AX5,AX1]
  exact ⟨rfl,trivial⟩
 refine hp.res (CvR.sl (Cv.rows rfl ?_))
 intro i r r' h1 h2
 match i,h1,h2 with
 | 0,h1,h2=>cases h1; cases h2; exact V8 _
 | 1,h1,h2=>cases h1; cases h2; exact V8 _
 | 2,h1,h2=>cases h1; cases h2; exact V8 _
 | _+3,h1,_=>cases h1
theorem XO:MoOk TV:=⟨by decide,by decide,fun p hp=>by
 simp only [TV,List.mem_singleton] at hp
 subst hp
 exact ⟨by decide +kernel,by decide,by decide,fun b hb=>by
  obtain ⟨i,hi,rfl⟩:=List.mem_map.1 hb
  rcases lt4 (show i < 4 by simpa using hi) with rfl | rfl | rfl | rfl <;> exact ⟨by decide,by decide,by decide,by decide⟩⟩,fun c hc=>by cases hc⟩
theorem XP : ∀ v∈exL9,CvOk v:=by
 intro v hv
 simp only [exL9,List.mem_cons,List.not_mem_nil,or_false] at hv
 rcases hv with rfl | rfl | rfl <;> exact ⟨by decide,by decide,by decide,by decide⟩
theorem AM3:JC TV exL9 1024=0:=by decide +kernel
theorem ARO:JC TV exL9 12=0:=by decide +kernel
theorem AXS:grL TV exL9 = [1,0]:=by decide +kernel
theorem AXQ:ndL TV exL9 = [1]:=by decide +kernel
theorem AXO:uqV TV exL9 1=1:=by decide +kernel
theorem AXP:uqE TV exL9 1=0:=by decide +kernel
theorem AXR:leL TV exL9 = [0,1]:=by decide +kernel
theorem AXT:gnL TV exL9 [1,0] = [3,1]:=by decide +kernel
theorem AXU:gnE TV exL9 [1,0]=0:=by decide +kernel
end Go.Proofs.YtocilianjfhifaaGreatDoor.Rk
/- The laws RankGreedy, RankNeeds, RankLeast; no condition but the variables that are laid, the bounds on lengths, and cover.tuple's contract. -/
set_option linter.unusedSimpArgs false
set_option maxRecDepth 8000
namespace Go.Proofs.YtocilianjfhifaaGreatDoor.Rk
open Go Go.Proofs Go.Proofs.YtocilianjfhifaaGreatDoor.Sm Go.Proofs.YtocilianjfhifaaGreatDoor.Bins Go.Proofs.YtocilianjfhifaaGreatDoor.Cov Go.RowKit

theorem AQX {α:Type} (a:α) (l r:List α):List.append (a :: l) r=a :: List.append l r:=rfl
theorem AUG {α:Type} (r:List α):List.append [] r=r:=rfl
theorem lnN (s:SM) (xs:List Nat):JZ Tryz.prog 57 (.sl s 1 (xs.map FI))=some (.int .i64 (xs.length:Nat)):=by rw [IL.1,List.length_map]
theorem ixN {xs:List Nat} {k:Nat} (hk:k < xs.length) (s:SM) (H:Hp):LX 1 H (.sl s 1 (xs.map FI)) (.int .i64 (k:Int))=some (.fptr 1 (xs.map FI) k 0):=DJ hk
theorem ldN {xs:List Nat} {k:Nat} (hk:k < xs.length) (H:Hp):EE Tryz.prog H 3 (.fptr 1 (xs.map FI) k 0)=some (.int .i64 (xs[k]:Nat)):=by rw [CV ag3 hk]; rfl
set_option maxHeartbeats 1000000 in
theorem O0 (G:Nat→AV) (hG:GOk G) (hT:J5 G) (h:Hp):PCall (En G) 54 [] h (.bool true):=by
 have hn:exL9.length≤1048576:=by decide
 have p1:=U0 G hG hT TV exL9 .full XO XP hn h
 rw [AXS,AM3] at p1
 have p2:=ZK G hG hT TV exL9 .full XO XP hn h
 rw [AXQ,AM3] at p2
 have p3:=AJP G hG hT TV exL9 .full 1 XO XP hn h
 rw [AXO,AXP] at p3
 have p4:=WQ G hG hT TV exL9 .full XO XP hn h
 rw [AXR,ARO] at p4
 have p5:=WR G hG hT TV exL9 .full .full [1,0] XO XP hn (by decide) h
 rw [AXT,AXU] at p5
 have a1:=lnN (nm [1,0]) [1,0]
 have a2:=fun H=>ixN (xs := [1,0]) (k:=0) (by decide) (nm [1,0]) H
 have a3:=fun H=>ldN (xs := [1,0]) (k:=0) (by decide) H
 have b1:=lnN (nm [1]) [1]
 have b2:=fun H=>ixN (xs := [1]) (k:=0) (by decide) (nm [1]) H
 have b3:=fun H=>ldN (xs := [1]) (k:=0) (by decide) H
 have c1:=lnN (nm [0,1]) [0,1]
 have c2:=fun H=>ixN (xs := [0,1]) (k:=1) (by decide) (nm [0,1]) H
 have c3:=fun H=>ldN (xs := [0,1]) (k:=1) (by decide) H
 have d1:=lnN (nm [3,1]) [3,1]
 have d2:=fun H=>ixN (xs := [3,1]) (k:=0) (by decide) (nm [3,1]) H
 have d3:=fun H=>ldN (xs := [3,1]) (k:=0) (by decide) H
 have d4:=fun H=>ixN (xs := [3,1]) (k:=1) (by decide) (nm [3,1]) H
 have d5:=fun H=>ldN (xs := [3,1]) (k:=1) (by decide) H
 generalize AV.sl (nm [1,0]) 1 ([1,0].map FI)=v1 at p1 a1 a2
 generalize AV.sl (nm [1]) 1 ([1].map FI)=v2 at p2 b1 b2
 generalize AV.sl (nm [0,1]) 1 ([0,1].map FI)=v4 at p4 c1 c2
 generalize AV.sl (nm [3,1]) 1 ([3,1].map FI)=v5 at p5 d1 d2 d4
 generalize AV.fptr 1 ([1,0].map FI) 0 0=q1 at a2 a3
 generalize AV.fptr 1 ([1].map FI) 0 0=q2 at b2 b3
 generalize AV.fptr 1 ([0,1].map FI) 1 0=q4 at c2 c3
 generalize AV.fptr 1 ([3,1].map FI) 0 0=q5 at d2 d3
 generalize AV.fptr 1 ([3,1].map FI) 1 0=q6 at d4 d5
 have a1':JZ Tryz.prog 57 v1=some (.int .i64 2):=a1
 have a2' : ∀ H,LX 1 H v1 (.int .i64 0)=some q1:=a2
 have a3' : ∀ H,EE Tryz.prog H 3 q1=some (.int .i64 1):=a3
 have b1':JZ Tryz.prog 57 v2=some (.int .i64 1):=b1
 have b2' : ∀ H,LX 1 H v2 (.int .i64 0)=some q2:=b2
 have b3' : ∀ H,EE Tryz.prog H 3 q2=some (.int .i64 1):=b3
 have c1':JZ Tryz.prog 57 v4=some (.int .i64 2):=c1
 have c2' : ∀ H,LX 1 H v4 (.int .i64 1)=some q4:=c2
 have c3' : ∀ H,EE Tryz.prog H 3 q4=some (.int .i64 1):=c3
 have d1':JZ Tryz.prog 57 v5=some (.int .i64 2):=d1
 have d2' : ∀ H,LX 1 H v5 (.int .i64 0)=some q5:=d2
 have d3' : ∀ H,EE Tryz.prog H 3 q5=some (.int .i64 3):=d3
 have d4' : ∀ H,LX 1 H v5 (.int .i64 1)=some q6:=d4
 have d5' : ∀ H,EE Tryz.prog H 3 q6=some (.int .i64 1):=d5
 clear a1 a2 a3 b1 b2 b3 c1 c2 c3 d1 d2 d3 d4 d5
 have e0:((0:Int) == 0)=true:=rfl
 have e1:((1:Int) == 1)=true:=rfl
 have e2:((2:Int) == 2)=true:=rfl
 have e3:((3:Int) == 3)=true:=rfl
 have e1n:(((1:Nat):Int) == 1)=true:=rfl
 refine CG (H:=Hint.none) (enM G) Tryz.func54 rfl (by kernel_rfl) (by kernel_rfl) (Nat.le_of_ble_eq_true (by kernel_rfl)) ?_
 show awp _ _ _ _ _ (EU _ [.tmp 0] _)
 simp -implicitDefEqProofs only [BB,AZ,A8,AY,BC,AO,AQ,AL,BD,AX,AC,AU,CB,BL,BA,CE,BX,List.map_nil,List.append_nil,Option.getD_some,Bool.not_false,enP]
 refine (ABB G h).use ?_
 simp -implicitDefEqProofs only [AY,AO,AQ,AL,BD,AX,AC,CB,CE,BX,List.map_nil,List.append_nil,Option.getD_some,Bool.not_false]
 refine (AHE G h).use ?_
 simp -implicitDefEqProofs only [AY,AO,AQ,AL,BD,AX,AC,AA,A7,CB,CE,BX,List.map_cons,List.map_nil,List.append_nil,↓reduceIte,Nat.reduceEqDiff,Option.getD_some,Bool.not_false]
 refine p1.use ?_
 simp -implicitDefEqProofs only [List.getElem?_cons_zero,List.getElem?_cons_succ,BB,AZ,A8,AY,BC,AO,AQ,AL,BD,AX,AC,AA,A7,CB,BF,BA,ET,FX,CE,BX,AB,List.map_nil,List.append_nil,↓reduceIte,Nat.reduceEqDiff,Option.getD_some,Bool.not_false]
 refine (ABB G h).use ?_
 simp -implicitDefEqProofs only [AY,AO,AQ,AL,BD,AX,AC,CB,CE,BX,List.map_nil,List.append_nil,Option.getD_some,Bool.not_false]
 refine (AHE G h).use ?_
 simp -implicitDefEqProofs only [AY,AO,AQ,AL,BD,AX,AC,AA,A7,CB,CE,BX,List.map_cons,List.map_nil,List.append_nil,↓reduceIte,Nat.reduceEqDiff,Option.getD_some,Bool.not_false]
 refine p2.use ?_
 simp -implicitDefEqProofs only [List.getElem?_cons_zero,List.getElem?_cons_succ,BB,AZ,A8,AY,BC,AO,AQ,AL,BD,AX,AC,AA,A7,CB,BF,BA,ET,FX,CE,BX,AB,List.map_nil,List.append_nil,↓reduceIte,Nat.reduceEqDiff,Option.getD_some,Bool.not_false]
 refine (ABB G h).use ?_
 simp -implicitDefEqProofs only [AY,AO,AQ,AL,BD,AX,AC,CB,CE,BX,List.map_nil,List.append_nil,Option.getD_some,Bool.not_false]
 refine (AHE G h).use ?_
 simp -implicitDefEqProofs only [AY,AO,AQ,AL,BD,AX,AC,AA,A7,AU,CB,BH,CE,BX,List.map_cons,List.map_nil,List.append_nil,↓reduceIte,Nat.reduceEqDiff,Option.getD_some,Bool.not_false]
 refine p3.use ?_
 simp -implicitDefEqProofs only [List.getElem?_cons_zero,List.getElem?_cons_succ,BB,AZ,A8,AY,BC,AO,AQ,AL,BD,AX,AC,AA,A7,CB,BF,BA,ET,FX,CE,BX,AB,List.map_nil,List.append_nil,↓reduceIte,Nat.reduceEqDiff,Option.getD_some,Bool.not_false]
 refine (ABB G h).use ?_
 simp -implicitDefEqProofs only [AY,AO,AQ,AL,BD,AX,AC,CB,CE,BX,List.map_nil,List.append_nil,Option.getD_some,Bool.not_false]
 refine (AHE G h).use ?_
 simp -implicitDefEqProofs only [AY,AO,AQ,AL,BD,AX,AC,AA,A7,CB,CE,BX,List.map_cons,List.map_nil,List.append_nil,↓reduceIte,Nat.reduceEqDiff,Option.getD_some,Bool.not_false]
 refine p4.use ?_
 simp -implicitDefEqProofs only [List.getElem?_cons_zero,List.getElem?_cons_succ,BB,AZ,A8,AY,BC,AO,AQ,AL,BD,AX,AC,AA,A7,CB,BF,BA,ET,FX,CE,BX,AB,List.map_nil,List.append_nil,↓reduceIte,Nat.reduceEqDiff,Option.getD_some,Bool.not_false]
 refine (ABB G h).use ?_
 simp -implicitDefEqProofs only [AY,AO,AQ,AL,BD,AX,AC,CB,CE,BX,List.map_nil,List.append_nil,Option.getD_some,Bool.not_false]
 refine (AHE G h).use ?_
 simp -implicitDefEqProofs only [FP,FZ,AY,AO,AQ,AL,BD,AX,AC,AA,A7,AU,CB,BH,ES,CE,BX,BR,List.map_cons,List.map_nil,List.append_nil,↓reduceIte,Nat.reduceEqDiff,Option.getD_some,Bool.not_false,enP,AX0]
 refine p5.use ?_
 simp -implicitDefEqProofs only [List.getElem?_cons_zero,List.getElem?_cons_succ,BB,AZ,BM,A8,CU,AY,BC,BK,BU,CO,GN,AO,AQ,AL,BD,AX,AC,AA,A7,AU,BH,BL,BF,BA,CP,DW,BO,BQ,BZ,ET,FX,DN,AB,EJ,↓reduceIte,Nat.reduceEqDiff,Option.getD_some,Bool.not_false,enP,JQ,AQX,AUG,e0,e1,e1n,e2,e3,a1',a2',a3',b1',b2',b3',c1',c2',c3',d1',d2',d3',d4',d5']
 exact ⟨trivial,trivial⟩
theorem AMU (m:Mo) (l:List Cvr):(grL m l).length≤l.length∨l.length≤1048576→(grL m l).length≤1048576:=by
 suffices hs:(grL m l).length≤l.length∧(grL m l).length≤1024 from fun _=>by omega
 unfold grL
 split
 ·rename_i hz
  have hF:=TE (goals m) (hits l) l.length l.length [] (Falls.nil _ _ _)
  have h1:=YB (b:=List.range l.length) hF.nodup fun i hi=>by simpa using hF.lt i hi
  rw [List.length_range] at h1
  have:=(LU.1 hz).2.1
  omega
 ·simp
theorem ATX (m:Mo) (l:List Cvr):(ndL m l).length≤l.length:=by
 unfold ndL
 split
 ·unfold needed; exact Nat.le_trans (List.length_filter_le _ _) (by simp)
 ·simp
theorem AUC (m:Mo) (l:List Cvr):(leL m l).length≤l.length:=by
 unfold leL
 split
 ·cases hc:least (goals m) (hits l) l.length with
  | none=>simp
  | some x =>
    have:=AH0 (goals m) (hits l) l.length hc (o:=List.range l.length) (by simp) (AD1 _ _ _)
    simpa using this
 ·simp
theorem AYD (G:Nat→AV) (hG:GOk G) (hT:J5 G) (q:Qs) (hq:QOk q) (h:Hp):PCall (En G) 12 [.agg (LJ q)] h (.bool true):=by
 refine ACalls.pure0 rfl ?_
 refine CG (H:=Hint.none) (enM G) Tryz.func12 rfl (by kernel_rfl) (by kernel_rfl) (Nat.le_of_ble_eq_true (by kernel_rfl)) ?_
 show awp _ _ _ _ _ (EU _ [.tmp 2] _)
 have gq:=CX h (ABlk.live 3 [LJ q])
 have hx:ext h (h ++ [ABlk.live 3 [LJ q]]):=(ext.rfl' h).app _
 simp -implicitDefEqProofs only [BB,AZ,A8,AY,BC,AO,AQ,AL,BD,AX,AC,AA,A7,AU,BL,BA,FK,BO,BR,BG,↓reduceIte,Nat.reduceEqDiff,Option.getD_some,Bool.not_false,enP,bxQ]
 generalize h ++ [ABlk.live 3 [LJ q]]=H at gq hx ⊢
 simp -implicitDefEqProofs only [AY,AO,AQ,AL,BD,AX,AC,AA,A7,CB,CE,BX,AB,List.map_cons,List.map_nil,List.append_nil,↓reduceIte,Option.getD_some,Bool.not_false,ldQ gq]
 refine (XL G q hq H).use ?_
 intro b
 have hqn:=hq.n
 have hl1:=AUC q.m q.l
 have e1:(JC q.m q.l 12 == JC q.m q.l 12)=true:=by simp
 cases b
 ·simp -implicitDefEqProofs only [BB,AZ,BI,A8,DX,AY,BC,AO,AQ,AL,BD,AX,AC,AA,A7,CB,H9,CE,BX,AB,FB,List.map_nil,List.append_nil,↓reduceIte,Option.getD_some,Bool.not_false]
  refine (O0 G hG hT H).use ?_
  simp -implicitDefEqProofs only [BM,A8,CS,CU,AY,BC,AO,AQ,AL,BD,AX,AC,AA,A7,BA,↓reduceIte,Option.getD_some,Bool.not_false]
  exact ⟨trivial,hx⟩
 simp -implicitDefEqProofs only [BB,AZ,BN,BI,A8,DY,AY,BC,AO,AQ,AL,BD,AX,AC,AA,A7,CB,BO,H9,BJ,CE,BX,AB,FB,List.map_cons,List.map_nil,List.append_nil,↓reduceIte,Nat.reduceEqDiff,Nat.add_zero,Nat.zero_add,Option.getD_some,Bool.not_true,Bool.not_false,enP,OC,ND,YG gq,VK gq]
 refine (WQ G hG hT q.m q.l q.s hq.m hq.l hq.n H).use ?_
 simp -implicitDefEqProofs only [List.getElem?_cons_zero,List.getElem?_cons_succ,BB,AZ,A8,AY,BC,AO,AQ,AL,BD,AX,AC,AA,A7,CB,BF,BA,BO,BJ,ET,FX,CE,BX,AB,List.map_cons,List.map_nil,List.append_nil,↓reduceIte,Nat.reduceEqDiff,Nat.add_zero,Nat.zero_add,Option.getD_some,Bool.not_false,enP,OC,ND,YG gq,VK gq]
 refine (APO G q.m q.l q.s hq.m hq.l hq.n H).use ?_
 simp -implicitDefEqProofs only [List.getElem?_cons_zero,List.getElem?_cons_succ,BB,AZ,A8,AY,BC,AO,AQ,AL,BD,AX,AC,AA,A7,CB,BF,BA,ET,FX,CE,BX,AB,List.map_cons,List.map_nil,List.append_nil,↓reduceIte,Nat.reduceEqDiff,Option.getD_some,Bool.not_false]
 refine (AFM G (leL q.m q.l) _ _ (by omega) H).use ?_
 simp -implicitDefEqProofs only [AY,BK,BU,CO,GN,AO,AQ,AL,BD,AX,AC,AA,A7,AU,CB,BL,BF,CP,DW,BQ,CE,BX,AB,EJ,List.map_nil,List.append_nil,↓reduceIte,Nat.reduceEqDiff,Option.getD_some,Bool.not_false,enP,e1]
 refine (O0 G hG hT H).use ?_
 simp -implicitDefEqProofs only [BM,A8,CU,AY,BC,AO,AQ,AL,BD,AX,AC,AA,A7,AU,BL,BA,CP,DW,↓reduceIte,Nat.reduceEqDiff,Option.getD_some,Bool.not_false]
 exact ⟨trivial,hx⟩
end Go.Proofs.YtocilianjfhifaaGreatDoor.Rk
