/- Part 5 of the proof (E4, E5, E6, E7, E8, E9, E10, M1, M2, M3); no condition. -/
import Derived.Test.YtocilianjfhifaaGreatDoorV4
set_option linter.unusedVariables false
/- Element names and variable names: the contracts; no condition but the variables that are laid. -/
set_option linter.unusedSimpArgs false
set_option maxRecDepth 8000
namespace Go.Proofs.YtocilianjfhifaaGreatDoor.Cov
open Go Go.Proofs Go.Proofs.YtocilianjfhifaaGreatDoor.Sm Go.Proofs.YtocilianjfhifaaGreatDoor.Bins Go.RowKit

theorem ATO (l:List UInt8):(Lib.cut l [91]).1.length≤l.length:=by
 unfold Lib.cut
 split
 ·simp only [List.length_take]; exact Nat.min_le_right _ _
 ·exact Nat.le_refl _
theorem ixl {l:List UInt8} {k:Nat} {b:UInt8} {i:Int} (hi:i=(k:Int)) (hb:l[k]? = some b):NY Tryz.prog 9 (.str ⟨l.toArray⟩) (.int .i64 i)=some (.int .u8 b.toNat):=by
 subst hi
 have hk:k < l.length:=(List.getElem?_eq_some_iff.1 hb).1
 have:=ix9 ⟨l.toArray⟩ k .i64 hk
 rw [this]
 have h2:(⟨l.toArray⟩:ByteArray)[k]'hk=l[k]:=rfl
 rw [h2]
 rw [List.getElem?_eq_getElem hk] at hb
 rw [Option.some.inj hb]
theorem szl (l:List UInt8):(⟨l.toArray⟩:ByteArray).size=l.length:=rfl
theorem wrap_u8 {n:Int} (h0:0≤n) (h1:n < 256):IntKind.u8.wrap n=n:=by
 unfold IntKind.wrap; simp [IntKind.bits,IntKind.signed]; omega
theorem AE1 (G:Nat→AV) (hG:GOk G) (s:ByteArray) (h:Hp) (hl:s.size≤1048576):PCall (En G) 259 [.str s] h (elemV (NR s)):=by
 refine BX (H:=Hint.none) (enM G) Tryz.func259 rfl (by kernel_rfl) (by kernel_rfl) (Nat.le_of_ble_eq_true (by kernel_rfl)) ?_
 show awp _ _ _ _ _ (EJ _ [.tmp 2,.tmp 3,.tmp 4] _)
 simp -implicitDefEqProofs only [A8,AX,AZ,AU,A9,AL,AO,AJ,BA,AR,AC,AA,AY,AQ,BS,BD,BI,JU,BB,A7,BV,BR,BC,List.map_cons,List.map_nil,List.append_nil,↓reduceIte,Nat.reduceEqDiff,Option.getD_some,Bool.not_false,enP]
 refine (AQP G hG s h hl).use ?_
 have he:=AQM s
 have hal:=ATO s.data.toList
 unfold cutV
 generalize Lib.cut s.data.toList [91]=c at he hal ⊢
 obtain ⟨a,b,f⟩:=c
 have hal2:a.length≤s.size:=by simpa using hal
 simp -implicitDefEqProofs only [List.getElem?_cons_zero,List.getElem?_cons_succ,A8,AX,AZ,AU,A9,BH,BQ,BZ,AL,AO,AJ,BA,AR,AC,AA,AY,BB,A7,F9,D8,FB,AB,ER,↓reduceIte,Nat.reduceEqDiff,Option.getD_some,Bool.not_false]
 cases f
 ·simp -implicitDefEqProofs only [A8,AX,BJ,BF,AZ,CJ,MP,DI,AU,A9,BH,BQ,BZ,FN,AL,AO,AJ,BA,AR,AC,AA,EM,AY,AQ,BD,BI,JU,BB,A7,CF,DJ,↓reduceIte,Nat.reduceEqDiff,Option.getD_some,Bool.not_false]
  exact ⟨by rw [he]; rfl,trivial⟩
 simp -implicitDefEqProofs only [BH,BQ,BZ,EH,AL,AO,AJ,BA,AR,AC,AA,AY,BS,BB,BV,BR,List.map_cons,List.map_nil,List.append_nil,↓reduceIte,Nat.reduceEqDiff,Option.getD_some,Bool.not_true,Bool.not_false]
 refine (MH G hG.kw ⟨a.toArray⟩ h (by rw [szl]; omega)).use ?_
 simp -implicitDefEqProofs only [AU,BH,BQ,BZ,EH,AL,AO,AJ,BA,AR,AC,AA,AY,AQ,BI,BB,CF,DK,F9,AB,ER,↓reduceIte,Nat.reduceEqDiff,Option.getD_some,Bool.not_false]
 cases hn:GA ⟨a.toArray⟩
 ·simp -implicitDefEqProofs only [A8,AX,BJ,BF,AZ,CJ,MP,DI,AU,A9,BH,BQ,BZ,FN,AL,AO,AJ,BA,AR,AC,AA,EM,AY,AQ,BD,BI,JU,BB,A7,CF,DJ,↓reduceIte,Nat.reduceEqDiff,Option.getD_some,Bool.not_false]
  exact ⟨by rw [he]; simp [hn]; rfl,trivial⟩
 simp -implicitDefEqProofs only [AU,BH,BQ,BZ,EH,AL,AO,AJ,BA,AR,AC,AA,AY,AQ,BD,BI,BB,CF,DK,BN,C8,AB,ED,↓reduceIte,Nat.reduceEqDiff,Option.getD_some,Bool.not_true,Bool.not_false,enP,ln9,szl]
 refine GJ (fun hb => ?_) (fun hb => ?_)
 ·simp -implicitDefEqProofs only [A8,AX,BJ,BF,AZ,CJ,MP,DI,AU,A9,BH,BQ,BZ,FN,AL,AO,AJ,BA,AR,AC,AA,EM,AY,AQ,BD,BI,JU,BB,A7,CF,DJ,↓reduceIte,Nat.reduceEqDiff,Option.getD_some,Bool.not_false,hb]
  have hne : ∀ d y,b≠[d,y]:=by
   intro d y e; subst e; simp at hb
  have:NR s=none:=by
   rw [he]; split
   ·split
    ·rename_i hm; exact absurd hm (hne _ _)
    ·rfl
   ·rfl
  exact ⟨by rw [this]; rfl,trivial⟩
 have h2:b.length=2:=by simp at hb; omega
 match b,h2 with
 | [d,y],_ =>
   have i1:NY Tryz.prog 9 (.str ⟨[d,y].toArray⟩) (.int .i64 1)=some (.int .u8 y.toNat):=ixl (k:=1) rfl rfl
   have i0:NY Tryz.prog 9 (.str ⟨[d,y].toArray⟩) (.int .i64 0)=some (.int .u8 d.toNat):=ixl (k:=0) rfl rfl
   have he2:NR s=if (y == 93 && decide (48≤d.toNat) && decide (d.toNat < 56))=true then some (a,d) else none:=by
    rw [he]; simp [hn]
   clear he
   simp -implicitDefEqProofs only [AU,BH,BQ,BZ,EH,AL,AO,AJ,BA,AR,AC,AA,AY,AQ,BD,BI,BB,CF,DK,BN,NZ,AB,ED,↓reduceIte,Nat.reduceEqDiff,Option.getD_some,Bool.not_false,enP,hb,i1,i0]
   refine GJ (fun hc => ?_) (fun hc => ?_)
   ·simp -implicitDefEqProofs only [A8,AX,BJ,BF,AZ,CJ,MP,DI,AU,A9,BH,BQ,BZ,FN,AL,AO,AJ,BA,AR,AC,AA,EM,AY,AQ,BD,BI,JU,BB,A7,CF,DJ,↓reduceIte,Nat.reduceEqDiff,Option.getD_some,Bool.not_false,hc]
    have hy:(y == 93)=false:=by
     rw [← Bool.not_eq_true]; intro e; rw [beq_iff_eq] at e; subst e; simp at hc
    exact ⟨by rw [he2,hy]; rfl,trivial⟩
   have hy:(y == 93)=true:=by
    rw [beq_iff_eq,← UInt8.toNat_inj]
    simp at hc; show y.toNat=93; omega
   simp -implicitDefEqProofs only [AU,BH,BQ,BZ,EH,AL,AO,AJ,BA,AR,AC,AA,AY,AQ,BD,BI,BB,CF,DK,BN,NZ,AB,CO,↓reduceIte,Nat.reduceEqDiff,Option.getD_some,Bool.not_false,enP,hc,i0]
   refine GJ (fun hd => ?_) (fun hd => ?_)
   ·simp -implicitDefEqProofs only [A8,AX,BJ,BF,AZ,CJ,MP,DI,AU,A9,BH,BQ,BZ,FN,AL,AO,AJ,BA,AR,AC,AA,EM,AY,AQ,BD,BI,JU,A7,CF,DJ,↓reduceIte,Nat.reduceEqDiff,Option.getD_some,Bool.not_false,hd]
    have:decide (48≤d.toNat)=false:=by simp at hd ⊢; omega
    exact ⟨by rw [he2,this]; simp; rfl,trivial⟩
   have hd1:48≤d.toNat:=by simp at hd; omega
   simp -implicitDefEqProofs only [BF,AZ,AU,A9,BH,BQ,BZ,EH,AL,AO,AJ,BA,AR,AC,AA,AY,AQ,BD,BI,BB,CF,DK,BN,NZ,AB,F3,↓reduceIte,Nat.reduceEqDiff,Option.getD_some,Bool.not_false,enP,hd,i0]
   refine CG (fun hf => ?_) (fun hf => ?_)
   ·simp -implicitDefEqProofs only [A8,AX,BJ,AZ,CJ,MP,AU,A9,AL,AO,AJ,BA,AR,AC,AA,AQ,BD,BI,JU,A7,↓reduceIte,Nat.reduceEqDiff,Option.getD_some,Bool.not_false]
    have:decide (d.toNat < 56)=false:=by simp at hf ⊢; omega
    exact ⟨by rw [he2,this]; simp; rfl,trivial⟩
   have hd2:d.toNat < 56:=by simp at hf; omega
   simp -implicitDefEqProofs only [A8,BK,AZ]
   refine EG (by kernel_rfl) ?_
   simp -implicitDefEqProofs only [FJ,DT,CZ,EO,DV,ET,GM,GK,AVF,ARQ,BJ,AZ,MP,AL,AA,AY,AQ,BD,BI,BN,ADX,NZ,AB,J8,↓reduceIte,Nat.reduceEqDiff,Nat.reduceAdd,Option.getD_some,enP,AQO,i0,wrap_u8 (n:=(d.toNat:Int) - 48) (by omega) (by omega),wrap_i64 (n:=(d.toNat:Int) - 48) (by omega) (by omega)]
   exact ⟨by rw [he2]; simp [hy,hd1,hd2]; rfl,trivial⟩

theorem AVQ {s:ByteArray} {u:Nat} {h:Hp} (hu:u≤s.size):LM Tryz.prog h 9 (.str s) none (some (.int .i64 (u:Int))) none=some (.str (s.extract 0 u)):=by
 have:Tryz.prog.underlying 9=some .string:=by kernel_rfl
 simp [LM,this,IE,hu]
theorem ATE (a b:List UInt8):(⟨(a ++ b).toArray⟩:ByteArray).extract 0 a.length=⟨a.toArray⟩:=by
 ext1
 simp
set_option maxHeartbeats 1000000 in
theorem AMM (G:Nat→AV) (s:ByteArray) (h:Hp) (hl:s.size≤1099511627776):PCall (En G) 289 [.str s] h (elemV (NR s)):=by
 refine BX (H:=Hint.none) (enM G) Tryz.func289 rfl (by kernel_rfl) (by kernel_rfl) (Nat.le_of_ble_eq_true (by kernel_rfl)) ?_
 show awp _ _ _ _ _ (EJ _ [.tmp 2,.tmp 3,.tmp 4] _)
 obtain ⟨⟨l⟩⟩:=s
 rw [szl] at hl
 rcases Nat.lt_or_ge l.length 4 with h4 | h4
 ·have hd:decide ((l.length:Int) < 4)=true:=by simp; omega
  simp -implicitDefEqProofs only [A8,AX,BJ,BF,AZ,CJ,MP,DI,AU,A9,BH,BQ,BZ,FN,AL,AO,AJ,BA,AR,AC,AA,EM,AY,AQ,BD,BI,JU,BB,A7,CF,DJ,BN,C8,AB,CO,BC,↓reduceIte,Nat.reduceEqDiff,Option.getD_some,Bool.not_false,enP,ln9,szl,hd]
  have:NR ⟨l.toArray⟩=none:=by
   unfold NR; rw [if_neg]; simp; omega
  exact ⟨by rw [this]; rfl,trivial⟩
 obtain ⟨b,x,d,y,rfl⟩:=three (show 3≤l.length by omega)
 have hlen:(b ++ [x,d,y]).length=b.length+3:=by simp
 rw [hlen] at hl h4
 have hbl:0 < b.length:=by omega
 have hb:b≠[]:=List.length_pos_iff.1 hbl
 have he:=AAZ (x:=x) (d:=d) (y:=y) hb
 generalize hn:GA ⟨b.toArray⟩=nm at he
 have i1:NY Tryz.prog 9 (.str ⟨(b ++ [x,d,y]).toArray⟩) (.int .i64 ((b.length:Int)+2))=some (.int .u8 y.toNat):=ixl (k:=b.length+2) (by omega) (by simp)
 have i2:NY Tryz.prog 9 (.str ⟨(b ++ [x,d,y]).toArray⟩) (.int .i64 ((b.length:Int)+1))=some (.int .u8 d.toNat):=ixl (k:=b.length+1) (by omega) (by simp)
 have i3:NY Tryz.prog 9 (.str ⟨(b ++ [x,d,y]).toArray⟩) (.int .i64 (b.length:Int))=some (.int .u8 x.toNat):=ixl (k:=b.length) rfl (by simp)
 have i4:=AVQ (s:=⟨(b ++ [x,d,y]).toArray⟩) (u:=b.length) (h:=h) (by rw [szl]; omega)
 rw [ATE] at i4
 have hsz:(⟨(b ++ [x,d,y]).toArray⟩:ByteArray).size=b.length+3:=by rw [szl,hlen]
 generalize (⟨(b ++ [x,d,y]).toArray⟩:ByteArray)=s at *
 have w1:IntKind.i64.wrap (((b.length+3:Nat):Int) - 1)=(b.length:Int)+2:=by rw [wrap_i64 (by omega) (by omega)]; omega
 have w2:IntKind.i64.wrap (((b.length+3:Nat):Int) - 2)=(b.length:Int)+1:=by rw [wrap_i64 (by omega) (by omega)]; omega
 have w3:IntKind.i64.wrap (((b.length+3:Nat):Int) - 3)=(b.length:Int):=by rw [wrap_i64 (by omega) (by omega)]; omega
 have hd8:d.toNat < 256:=d.toNat_lt
 have w4:IntKind.i64.wrap (d.toNat:Int)=(d.toNat:Int):=wrap_i64 (by omega) (by omega)
 have w5:IntKind.i64.wrap ((d.toNat:Int) - 48)=(d.toNat:Int) - 48:=wrap_i64 (by omega) (by omega)
 have ha:decide (((b.length+3:Nat):Int) < 4)=false:=by simp; omega
 simp -implicitDefEqProofs only [A8,AX,AZ,AU,A9,BH,BQ,BZ,EH,AL,AO,AJ,BA,AR,AC,AA,AY,AQ,BD,BI,JU,BB,A7,CF,DK,BN,NZ,C8,AB,J8,ED,CO,BC,↓reduceIte,Nat.reduceEqDiff,Option.getD_some,Bool.not_false,enP,ln9,hsz,ha,w1,w2,w3,i1,i2,i3,i4]
 refine GJ (fun hc => ?_) (fun hc => ?_)
 ·simp -implicitDefEqProofs only [A8,AX,BJ,BF,AZ,CJ,MP,DI,AU,A9,BH,BQ,BZ,FN,AL,AO,AJ,BA,AR,AC,AA,EM,AY,AQ,BD,BI,JU,A7,CF,DJ,↓reduceIte,Nat.reduceEqDiff,Option.getD_some,Bool.not_false,hc]
  have hy:(y == 93)=false:=by
   rw [← Bool.not_eq_true]; intro e; rw [beq_iff_eq] at e; subst e; simp at hc
  exact ⟨by rw [he,hy]; simp; rfl,trivial⟩
 have hy:(y == 93)=true:=by
  rw [beq_iff_eq,← UInt8.toNat_inj]
  simp at hc; show y.toNat=93; omega
 simp -implicitDefEqProofs only [BF,AZ,AU,A9,BH,BQ,BZ,EH,AL,AO,AJ,BA,AR,AC,AA,AY,AQ,BD,BI,BB,CF,DK,BN,NZ,C8,AB,J8,ED,BC,↓reduceIte,Nat.reduceEqDiff,Option.getD_some,Bool.not_false,enP,ln9,hsz,hc,w1,w2,w3,i1,i2,i3,i4]
 refine CG (fun hd => ?_) (fun hd => ?_)
 ·simp -implicitDefEqProofs only [A8,AX,BJ,AZ,CJ,MP,AU,A9,AL,AO,AJ,BA,AR,AC,AA,AQ,BD,BI,JU,A7,↓reduceIte,Nat.reduceEqDiff,Option.getD_some,Bool.not_false]
  have hx:(x == 91)=false:=by
   rw [← Bool.not_eq_true]; intro e; rw [beq_iff_eq] at e; subst e; simp at hd
  exact ⟨by rw [he,hx]; simp; rfl,trivial⟩
 have hx:(x == 91)=true:=by
  rw [beq_iff_eq,← UInt8.toNat_inj]
  simp at hd; show x.toNat=91; omega
 simp -implicitDefEqProofs only [Option.map_some,Option.map_none,A8,AX,BK,AZ,AU,A9,BH,BQ,BZ,AL,AO,AJ,BA,AR,AC,AA,AY,AQ,BD,BB,A7,BN,ADX,PL,NZ,C8,AB,J8,CO,BC,↓reduceIte,Nat.reduceEqDiff,Option.getD_some,Bool.not_false,enP,ln9,AQO,hsz,w1,w2,w3,i1,i2,i3,i4,w4,w5]
 refine GJ (fun hf => ?_) (fun hf => ?_)
 ·simp -implicitDefEqProofs only [A8,AX,BJ,BF,AZ,CJ,MP,DI,AU,A9,BH,BQ,BZ,FN,AL,AO,AJ,BA,AR,AC,AA,EM,AY,AQ,BD,BI,JU,BB,A7,CF,DJ,↓reduceIte,Nat.reduceEqDiff,Option.getD_some,Bool.not_false,hf]
  have:decide (48≤d.toNat)=false:=by simp at hf ⊢; omega
  exact ⟨by rw [he,this]; simp; rfl,trivial⟩
 have hd1:48≤d.toNat:=by simp at hf; omega
 simp -implicitDefEqProofs only [AU,BH,BQ,BZ,EH,AL,AO,AJ,BA,AR,AC,AA,AY,AQ,BD,BI,BB,CF,DK,BN,AB,F3,↓reduceIte,Nat.reduceEqDiff,Option.getD_some,Bool.not_false,enP,hf]
 refine GJ (fun hf => ?_) (fun hf => ?_)
 ·simp -implicitDefEqProofs only [A8,AX,BJ,BF,AZ,CJ,MP,DI,AU,A9,BH,BQ,BZ,FN,AL,AO,AJ,BA,AR,AC,AA,EM,AY,AQ,BD,BI,JU,A7,CF,DJ,↓reduceIte,Nat.reduceEqDiff,Option.getD_some,Bool.not_false,hf]
  have:decide (d.toNat < 56)=false:=by simp at hf ⊢; omega
  exact ⟨by rw [he,this]; simp; rfl,trivial⟩
 have hd2:d.toNat < 56:=by simp at hf; omega
 simp -implicitDefEqProofs only [BH,BQ,BZ,EH,AL,AO,AJ,BA,AR,AC,AA,AY,BS,BB,BV,BR,List.map_cons,List.map_nil,List.append_nil,↓reduceIte,Nat.reduceEqDiff,Option.getD_some,Bool.not_false,hf]
 refine (M8 G ⟨b.toArray⟩ h).use ?_
 simp -implicitDefEqProofs only [BF,AZ,AU,A9,BH,BQ,BZ,EH,AL,AO,AJ,BA,AR,AC,AA,AY,AQ,BI,CF,DK,F9,AB,ER,↓reduceIte,Nat.reduceEqDiff,Option.getD_some,Bool.not_false,hn]
 cases nm
 ·simp -implicitDefEqProofs only [A8,AX,BJ,AZ,CJ,MP,DI,AU,A9,AL,AO,AJ,BA,AR,AC,AA,AQ,BD,BI,JU,A7,↓reduceIte,Nat.reduceEqDiff,Option.getD_some,Bool.not_false]
  exact ⟨by rw [he]; simp; rfl,trivial⟩
 ·simp -implicitDefEqProofs only [A8,AX,BK,BJ,AZ,MP,DL,AU,A9,AL,AO,AJ,BA,AR,AC,AA,AY,AQ,BI,BB,A7,↓reduceIte,Nat.reduceEqDiff,Option.getD_some,Bool.not_true,Bool.not_false]
  exact ⟨by rw [he]; simp [hy,hx,hd1,hd2]; rfl,trivial⟩

/-- a variable's name -/
def P8 (s:ByteArray):Bool:=(NR s).isSome || GA s
theorem AAY (o:Option (List UInt8 × UInt8)) : ∃ a n,elemV o = .tup [.str a,.int .i64 n,.bool o.isSome]:=by
 cases o with
 | none=>exact ⟨_,_,rfl⟩
 | some x=>exact ⟨_,_,rfl⟩
theorem AJE (G:Nat→AV) (hG:GOk G) (s:ByteArray) (h:Hp) (hl:s.size≤1048576):PCall (En G) 232 [.str s] h (.bool (P8 s)):=by
 refine BX (H:=Hint.none) (enM G) Tryz.func232 rfl (by kernel_rfl) (by kernel_rfl) (Nat.le_of_ble_eq_true (by kernel_rfl)) ?_
 show awp _ _ _ _ _ (EJ _ [.tmp 2] _)
 simp -implicitDefEqProofs only [A8,AX,AZ,AU,A9,AL,AO,AJ,BA,AR,AC,AA,AY,AQ,BS,BI,BB,A7,BV,BR,BC,List.map_cons,List.map_nil,List.append_nil,↓reduceIte,Nat.reduceEqDiff,Option.getD_some,Bool.not_false,enP]
 refine (AE1 G hG s h hl).use ?_
 obtain ⟨a,n,e⟩:=AAY (NR s)
 rw [e]
 simp -implicitDefEqProofs only [List.getElem?_cons_zero,List.getElem?_cons_succ,A8,AX,AZ,AU,A9,BH,BQ,BZ,AL,AO,AJ,BA,AR,AC,AA,AY,BB,A7,D8,FB,AB,↓reduceIte,Nat.reduceEqDiff,Option.getD_some,Bool.not_false]
 cases hs:(NR s).isSome
 ·simp -implicitDefEqProofs only [BH,BQ,BZ,EH,AL,AO,AJ,BA,AR,AC,AA,AY,BS,BB,BV,BR,BC,List.map_cons,List.map_nil,List.append_nil,↓reduceIte,Nat.reduceEqDiff,Option.getD_some,Bool.not_false]
  refine (MH G hG.kw s h (by omega)).use ?_
  simp -implicitDefEqProofs only [BJ,AZ,CK,AU,A9,AL,AO,AJ,BA,AR,AC,AA,AY,AQ,BI,A7,CF,DK,↓reduceIte,Nat.reduceEqDiff,Option.getD_some,Bool.not_false]
  exact ⟨by unfold P8; rw [hs]; rfl,trivial⟩
 ·simp -implicitDefEqProofs only [BJ,AZ,CK,AU,A9,BH,BQ,BZ,FN,AL,AO,AJ,BA,AR,AC,AA,EM,AY,AQ,BI,A7,CF,DJ,↓reduceIte,Nat.reduceEqDiff,Option.getD_some,Bool.not_false]
  exact ⟨by unfold P8; rw [hs]; rfl,trivial⟩
theorem ANB (G:Nat→AV) (s:ByteArray) (h:Hp) (hl:s.size≤1048576):PCall (En G) 255 [.str s] h (.bool (P8 s)):=by
 refine BX (H:=Hint.none) (enM G) Tryz.func255 rfl (by kernel_rfl) (by kernel_rfl) (Nat.le_of_ble_eq_true (by kernel_rfl)) ?_
 show awp _ _ _ _ _ (EJ _ [.tmp 2] _)
 simp -implicitDefEqProofs only [A8,AX,AZ,AU,A9,AL,AO,AJ,BA,AR,AC,AA,AY,AQ,BS,BI,BB,A7,BV,BR,BC,List.map_cons,List.map_nil,List.append_nil,↓reduceIte,Nat.reduceEqDiff,Option.getD_some,Bool.not_false,enP]
 refine (AMM G s h (by omega)).use ?_
 obtain ⟨a,n,e⟩:=AAY (NR s)
 rw [e]
 simp -implicitDefEqProofs only [List.getElem?_cons_zero,List.getElem?_cons_succ,A8,AX,AZ,AU,A9,BH,BQ,BZ,AL,AO,AJ,BA,AR,AC,AA,AY,BB,A7,D8,FB,AB,↓reduceIte,Nat.reduceEqDiff,Option.getD_some,Bool.not_false]
 cases hs:(NR s).isSome
 ·simp -implicitDefEqProofs only [BH,BQ,BZ,EH,AL,AO,AJ,BA,AR,AC,AA,AY,BS,BB,BV,BR,BC,List.map_cons,List.map_nil,List.append_nil,↓reduceIte,Nat.reduceEqDiff,Option.getD_some,Bool.not_false]
  refine (M8 G s h).use ?_
  simp -implicitDefEqProofs only [BJ,AZ,CK,AU,A9,AL,AO,AJ,BA,AR,AC,AA,AY,AQ,BI,A7,CF,DK,↓reduceIte,Nat.reduceEqDiff,Option.getD_some,Bool.not_false]
  exact ⟨by unfold P8; rw [hs]; rfl,trivial⟩
 ·simp -implicitDefEqProofs only [BJ,AZ,CK,AU,A9,BH,BQ,BZ,FN,AL,AO,AJ,BA,AR,AC,AA,EM,AY,AQ,BI,A7,CF,DJ,↓reduceIte,Nat.reduceEqDiff,Option.getD_some,Bool.not_false]
  exact ⟨by unfold P8; rw [hs]; rfl,trivial⟩
end Go.Proofs.YtocilianjfhifaaGreatDoor.Cov
/- The error of a node alone, on both sides; no condition but the variables that are laid. -/
set_option linter.unusedSimpArgs false
set_option maxRecDepth 8000
namespace Go.Proofs.YtocilianjfhifaaGreatDoor.Cov
open Go Go.Proofs Go.Proofs.YtocilianjfhifaaGreatDoor.Sm Go.Proofs.YtocilianjfhifaaGreatDoor.Bins Go.RowKit

def Q4 (s:ByteArray):Bool:=s.toList == (⟨#[]⟩:ByteArray).toList
def YA (e:Ex):Bool:=decide (e.op < 1) || decide (e.op > 25)
def AN5 (e:Ex):Bool:=((e.op == 1) && (decide (e.n < 0) || decide (e.n > 65535))) || (!(e.op == 1) && !(e.n == 0))
def AJ2 (e:Ex):Bool:=(!K5 e.op && !Q4 e.name) || !AGI e.op e.args.length
def U3 (e:Ex):Bool:=((e.op == 2) && !P8 e.name) || (((e.op == 3) || (e.op == 24)) && !GA e.name)
def LV (e:Ex):Int:=if YA e then 1 else if AN5 e then 1 else if AJ2 e then 1 else if U3 e then 7 else 0

theorem AM4 (G:Nat→AV) (hG:GOk G) (e:Ex) (h:Hp) (hl:e.name.size≤1048576):PCall (En G) 198 [.agg (F7 e)] h (.int .i64 (LV e)):=by
 refine ACalls.pure0 rfl ?_
 refine BX (H:=Hint.none) (enM G) Tryz.func198 rfl (by kernel_rfl) (by kernel_rfl) (Nat.le_of_ble_eq_true (by kernel_rfl)) ?_
 show awp _ _ _ _ _ (EJ _ [.tmp 2] _)
 simp -implicitDefEqProofs only [A8,AX,AZ,AU,A9,BH,BQ,BZ,AL,AO,AJ,BA,AR,AC,AA,AY,AQ,BD,BB,A7,EW,BL,BN,BG,BO,AB,D9,BC,↓reduceIte,Nat.reduceEqDiff,Nat.add_zero,Option.getD_some,Bool.not_false,enP,I1,bxE,CX ag3,J6]
 refine RL (fun F H=>F 3 = .bool (K5 e.op)∧F 1 = .ptr h.length 0 0∧H=h ++ [.live 4 [F7 e]]) ?_ ?_
 ·cases b2:(e.op == 2) <;> cases b3:(e.op == 3)
  all_goals
   simp -implicitDefEqProofs only [AU,A9,BH,BQ,BZ,EH,FN,AL,AO,AJ,BA,AR,AC,AA,EM,AY,AQ,BD,BI,BB,A7,CF,DJ,DK,BL,BN,BG,AB,D9,↓reduceIte,Nat.reduceEqDiff,Nat.add_zero,Option.getD_some,Bool.not_false,enP,I1,b2,b3,CX ag3,J6]
   exact ⟨by simp [K5,b2,b3],trivial,trivial⟩
 rintro F H ⟨f3,f1,rfl⟩
 simp -implicitDefEqProofs only [A8,BM,AX,AZ,AU,BH,BQ,BZ,AL,AO,AJ,BA,AR,AC,AA,AY,AQ,BD,BB,BL,BN,BG,AB,CO,↓reduceIte,Nat.add_zero,Option.getD_some,Bool.not_false,enP,I1,f1,f3,CX ag3,J6]
 refine RL (fun F H=>F 17 = .bool (YA e)∧F 3 = .bool (K5 e.op)∧F 1 = .ptr h.length 0 0∧H=h ++ [.live 4 [F7 e]]) ?_ ?_
 ·cases b2:decide (e.op < 1)
  all_goals
   simp -implicitDefEqProofs only [AU,A9,BH,BQ,BZ,EH,FN,AL,AO,AJ,BA,AR,AC,AA,EM,AY,AQ,BD,BI,A7,CF,DJ,DK,BL,BN,BG,AB,EK,↓reduceIte,Nat.reduceEqDiff,Nat.add_zero,Option.getD_some,Bool.not_false,enP,I1,b2,f1,f3,CX ag3,J6]
   exact ⟨by simp [YA,b2],trivial,trivial,trivial⟩
 clear f1 f3
 rintro F H ⟨f17,f3,f1,rfl⟩
 simp -implicitDefEqProofs only [BF,AZ,AY,f17]
 refine CG (fun ho => ?_) (fun ho => ?_)
 ·simp -implicitDefEqProofs only [A8,AX,BJ,AZ,CJ,D6,CK,AU,A9,AL,AO,AJ,BA,AR,AC,AA,AQ,BD,A7,↓reduceIte,Option.getD_some,Bool.not_false]
  exact ⟨by unfold LV; rw [if_pos ho],_,rfl⟩
 simp -implicitDefEqProofs only [A8,AX,AU,BH,BQ,BZ,AL,AO,AJ,BA,AR,AC,AA,AY,AQ,BD,BB,BL,BN,BG,AB,D9,↓reduceIte,Nat.add_zero,Option.getD_some,Bool.not_false,enP,I1,f1,f3,CX ag3,J6,AAX]
 refine RL (fun F H=>F 26 = .bool (AN5 e)∧F 3 = .bool (K5 e.op)∧F 1 = .ptr h.length 0 0∧H=h ++ [.live 4 [F7 e]]) ?_ ?_
 ·cases b1:(e.op == 1) <;> cases b2:decide (e.n < 0) <;> cases b3:decide (e.n > 65535) <;> cases b4:(e.n == 0)
  all_goals
   simp -implicitDefEqProofs only [AU,A9,BH,BQ,BZ,FZ,EH,IQ,FN,PE,AL,AO,AJ,BA,AR,AC,AA,EM,AY,AQ,BD,BI,BB,A7,CF,DJ,DK,BL,BN,BG,AB,ED,CO,EK,↓reduceIte,Nat.reduceEqDiff,Nat.add_zero,Nat.zero_add,Option.getD_some,Bool.not_true,Bool.not_false,enP,I1,AER,bne,b1,b2,b3,b4,f1,f3,CX ag3,J6,AAX]
   exact ⟨by simp [AN5,b1,b2,b3,b4],trivial,trivial,trivial⟩
 clear f1 f3 f17
 rintro F H ⟨f26,f3,f1,rfl⟩
 simp -implicitDefEqProofs only [BF,AZ,AY,f26]
 refine CG (fun hn => ?_) (fun hn => ?_)
 ·simp -implicitDefEqProofs only [A8,AX,BJ,AZ,CJ,D6,CK,AU,A9,AL,AO,AJ,BA,AR,AC,AA,AQ,BD,A7,↓reduceIte,Option.getD_some,Bool.not_false]
  exact ⟨by unfold LV; rw [if_neg (by simp [ho]),if_pos hn],_,rfl⟩
 simp -implicitDefEqProofs only [A8,AX,AU,BH,BQ,BZ,AL,AO,AJ,BA,AR,AC,AA,AY,BB,F9,AB,ER,↓reduceIte,Option.getD_some,Bool.not_false,f1,f3,CX ag9,QM]
 refine RL (fun F H=>F 50 = .bool (AJ2 e)∧F 3 = .bool (K5 e.op)∧F 1 = .ptr h.length 0 0∧H=h ++ [.live 4 [F7 e]]) ?_ ?_
 ·cases bm:K5 e.op <;> cases b5:Q4 e.name
  all_goals
   have b6:=b5
   unfold Q4 at b6
   simp -implicitDefEqProofs only [AU,A9,BH,BQ,BZ,FZ,EH,IQ,FN,AL,AO,AJ,BA,AR,AC,AA,EM,AY,AQ,BS,BI,JU,BB,A7,CF,DJ,DK,BL,BN,BG,BV,BR,AB,AA8,List.map_cons,List.map_nil,List.append_nil,↓reduceIte,Nat.reduceEqDiff,Nat.zero_add,Option.getD_some,Bool.not_true,Bool.not_false,enP,O6,bne,bm,b6,f1,f3,CX ag9,QM,ldE]
  ·exact ⟨by simp [AJ2,bm,b5],trivial,trivial,trivial⟩
  all_goals
   refine (ABS G e _).use ?_
   simp -implicitDefEqProofs only [AU,A9,BH,BQ,BZ,EH,AL,AO,AJ,BA,AR,AC,AA,AY,AQ,BI,A7,CF,DK,F9,AB,ER,↓reduceIte,Nat.reduceEqDiff,Option.getD_some,Bool.not_false,bne,bm,f1,f3]
   exact ⟨by simp [AJ2,bm,b5],trivial,trivial,trivial⟩
 clear f1 f3 f26
 rintro F H ⟨f50,f3,f1,rfl⟩
 simp -implicitDefEqProofs only [BF,AZ,AY,f50]
 refine CG (fun hs => ?_) (fun hs => ?_)
 ·simp -implicitDefEqProofs only [A8,AX,BJ,AZ,CJ,D6,CK,AU,A9,AL,AO,AJ,BA,AR,AC,AA,AQ,BD,A7,↓reduceIte,Option.getD_some,Bool.not_false]
  exact ⟨by unfold LV; rw [if_neg (by simp [ho]),if_neg (by simp [hn]),if_pos hs],_,rfl⟩
 simp -implicitDefEqProofs only [A8,AX,AU,BH,BQ,BZ,AL,AO,AJ,BA,AR,AC,AA,AY,AQ,BD,BB,BL,BN,BG,AB,D9,↓reduceIte,Nat.add_zero,Option.getD_some,Bool.not_false,enP,I1,f1,f3,CX ag9,CX ag3,J6,QM]
 have fin : ∀ b,U3 e=b→LV e=if b then 7 else 0:=by
  intro b hb
  unfold LV; rw [if_neg (by simp [ho]),if_neg (by simp [hn]),if_neg (by simp [hs]),hb]
 cases b2:(e.op == 2)
 ·simp -implicitDefEqProofs only [AU,BH,BQ,BZ,EH,IQ,AL,AO,AJ,BA,AR,AC,AA,EM,AY,AQ,BD,BI,BB,CF,DK,BL,BN,BG,AB,D9,↓reduceIte,Nat.reduceEqDiff,Nat.add_zero,Option.getD_some,Bool.not_false,enP,I1,b2,f1,f3,CX ag9,CX ag3,J6,QM]
  cases b3:(e.op == 3) <;> cases b4:(e.op == 24)
  all_goals
   simp -implicitDefEqProofs only [A8,AX,BK,BJ,BF,AZ,DU,CK,DL,AU,A9,BH,BQ,BZ,FZ,EH,IQ,FN,AL,AO,AJ,BA,AR,AC,AA,EM,AY,AQ,BS,BD,BI,BB,A7,CF,DJ,DK,BL,BN,BG,BV,BR,AB,D9,List.map_cons,List.map_nil,List.append_nil,↓reduceIte,Nat.reduceEqDiff,Nat.add_zero,Nat.zero_add,Option.getD_some,Bool.not_false,enP,I1,O6,b3,b4,f1,f3,CX ag9,CX ag3,J6,QM]
  ·exact ⟨by rw [fin false (by simp [U3,b2,b3,b4])]; rfl,_,rfl⟩
  all_goals
   refine (MH G hG.kw e.name _ (by omega)).use ?_
   cases bi:GA e.name
   ·simp -implicitDefEqProofs only [A8,AX,BJ,BF,AZ,CJ,D6,CK,DI,AU,A9,BH,BQ,BZ,FZ,EH,AL,AO,AJ,BA,AR,AC,AA,AY,AQ,BD,BI,A7,CF,DJ,DK,F9,AB,ER,↓reduceIte,Nat.reduceEqDiff,Option.getD_some,Bool.not_false]
    exact ⟨by rw [fin true (by simp [U3,b2,b3,b4,bi])]; rfl,_,rfl⟩
   ·simp -implicitDefEqProofs only [A8,AX,BK,BJ,BF,AZ,DU,CK,DL,AU,A9,BH,BQ,BZ,FZ,EH,AL,AO,AJ,BA,AR,AC,AA,AY,AQ,BD,BI,A7,CF,DJ,DK,F9,AB,ER,↓reduceIte,Nat.reduceEqDiff,Option.getD_some,Bool.not_true,Bool.not_false]
    exact ⟨by rw [fin false (by simp [U3,b2,b3,b4,bi])]; rfl,_,rfl⟩
 ·have e2:e.op=2:=by simpa using b2
  simp -implicitDefEqProofs only [BH,BQ,BZ,FZ,AL,AO,AJ,BA,AR,AC,AA,AY,BS,BL,BG,BV,BR,AB,List.map_cons,List.map_nil,List.append_nil,↓reduceIte,Nat.reduceEqDiff,Nat.zero_add,Option.getD_some,Bool.not_false,enP,O6,b2,f1,f3,CX ag9,CX ag3,J6,QM]
  refine (AJE G hG e.name _ hl).use ?_
  cases bi:P8 e.name
  ·simp -implicitDefEqProofs only [A8,AX,BJ,BF,AZ,CJ,D6,CK,DI,AU,A9,BH,BQ,BZ,FZ,FN,PE,AL,AO,AJ,BA,AR,AC,AA,EM,AY,AQ,BD,BI,BB,A7,CF,DJ,F9,AB,ER,↓reduceIte,Nat.reduceEqDiff,Option.getD_some,Bool.not_false]
   exact ⟨by rw [fin true (by simp [U3,b2,bi])]; rfl,_,rfl⟩
  ·simp -implicitDefEqProofs only [A8,AX,BK,BJ,BF,AZ,DU,CK,DL,AU,A9,BH,BQ,BZ,FZ,EH,IQ,AL,AO,AJ,BA,AR,AC,AA,EM,AY,AQ,BD,BI,BB,A7,CF,DJ,DK,BL,BN,F9,BG,AB,D9,ER,↓reduceIte,Nat.reduceEqDiff,Nat.add_zero,Option.getD_some,Bool.not_true,Bool.not_false,enP,I1,f1,CX ag3,J6,e2,Int.reduceBEq]
   exact ⟨by rw [fin false (by simp [U3,e2,bi])]; rfl,_,rfl⟩

def AA9 (e:Ex):Bool:=YA e || decide (e.n < 0) || decide (e.n > 65535) || (!(e.n == 0) && !(e.op == 1)) || (!Q4 e.name && !K5 e.op)
def AH4 (op:Int) (n:Nat):Bool:=((op == 23) && (decide ((n:Int) < 3) || decide ((n:Int) > 33) || ((n:Int) % 2 == 0))) || (!(op == 23) && !((n:Int) == arity op))
theorem ATV (op:Int) (n:Nat):AH4 op n = !AGI op n:=by
 unfold AH4 AGI
 rcases hc:(op == 23) with _ | _
 ·simp
 ·have h1:decide ((n:Int) < 3) = !decide ((n:Int)≥3):=by rw [Bool.eq_iff_iff]; simp
  have h2:decide ((n:Int) > 33) = !decide ((n:Int)≤33):=by rw [Bool.eq_iff_iff]; simp
  have h3:((n:Int) % 2 == 0) = !((n:Int) % 2 == 1):=by rw [Bool.eq_iff_iff]; simp; omega
  rw [h1,h2,h3]
  cases ((n:Int) % 2 == 1) <;> cases decide ((n:Int)≥3) <;> cases decide ((n:Int)≤33) <;> rfl
theorem ATW (e:Ex):(AA9 e || AH4 e.op e.args.length)=(YA e || AN5 e || AJ2 e):=by
 rw [ATV]
 unfold AA9 AN5 AJ2
 rcases h1:(e.op == 1) with _ | _
 ·rcases h2:(e.n == 0) with _ | _
  ·simp
  ·have h3:decide (e.n < 0)=false:=by simp at h2 ⊢; omega
   have h4:decide (e.n > 65535)=false:=by simp at h2 ⊢; omega
   rw [h3,h4]
   cases YA e <;> cases Q4 e.name <;> cases K5 e.op <;> cases AGI e.op e.args.length <;> rfl
 ·cases YA e <;> cases Q4 e.name <;> cases K5 e.op <;> cases AGI e.op e.args.length <;> cases decide (e.n < 0) <;> cases decide (e.n > 65535) <;> cases (e.n == 0) <;> rfl
theorem WJ (e:Ex):LV e=if AA9 e then 1 else if AH4 e.op e.args.length then 1 else if U3 e then 7 else 0:=by
 have:=ATW e
 unfold LV
 revert this
 cases AA9 e <;> cases AH4 e.op e.args.length <;> cases YA e <;> cases AN5 e <;> cases AJ2 e <;> simp
set_option maxHeartbeats 1000000 in
theorem AMG (G:Nat→AV) (e:Ex) (h:Hp) (hl:e.name.size≤1048576):PCall (En G) 225 [.agg (F7 e)] h (.int .i64 (LV e)):=by
 refine ACalls.pure0 rfl ?_
 refine BX (H:=Hint.none) (enM G) Tryz.func225 rfl (by kernel_rfl) (by kernel_rfl) (Nat.le_of_ble_eq_true (by kernel_rfl)) ?_
 show awp _ _ _ _ _ (EJ _ [.tmp 2] _)
 simp -implicitDefEqProofs only [A8,AX,AZ,AU,A9,BH,BQ,BZ,AL,AO,AJ,BA,AR,AC,AA,AY,AQ,BD,BB,A7,EW,BL,BN,BG,BO,AB,CO,BC,↓reduceIte,Nat.reduceEqDiff,Nat.add_zero,Option.getD_some,Bool.not_false,enP,I1,bxE,CX ag3,J6]
 refine RL (fun F H=>F 42 = .bool (AA9 e)∧F 1 = .ptr h.length 0 0∧H=h ++ [.live 4 [F7 e]]) ?_ ?_
 ·cases b1:decide (e.op < 1)
  case true =>
   simp -implicitDefEqProofs only [AU,A9,BH,BQ,BZ,FN,PE,AL,AO,AJ,BA,AR,AC,AA,EM,AY,AQ,BI,BB,CF,DJ,↓reduceIte,Nat.reduceEqDiff,Option.getD_some,Bool.not_false,b1]
   exact ⟨by simp [AA9,YA,b1],trivial,trivial⟩
  simp -implicitDefEqProofs only [AU,BH,BQ,BZ,EH,AL,AO,AJ,BA,AR,AC,AA,AY,AQ,BD,BI,BB,CF,DK,BL,BN,BG,AB,EK,↓reduceIte,Nat.reduceEqDiff,Nat.add_zero,Option.getD_some,Bool.not_false,enP,I1,b1,CX ag3,J6,AAX]
  cases b2:decide (e.op > 25)
  case true =>
   simp -implicitDefEqProofs only [AU,A9,BH,BQ,BZ,FN,PE,AL,AO,AJ,BA,AR,AC,AA,EM,AY,AQ,BI,BB,CF,DJ,↓reduceIte,Nat.reduceEqDiff,Option.getD_some,Bool.not_false,b2]
   exact ⟨by simp [AA9,YA,b2],trivial,trivial⟩
  simp -implicitDefEqProofs only [AU,BH,BQ,BZ,EH,AL,AO,AJ,BA,AR,AC,AA,AY,AQ,BD,BI,BB,CF,DK,BL,BN,BG,AB,CO,↓reduceIte,Nat.reduceEqDiff,Nat.zero_add,Option.getD_some,Bool.not_false,enP,AER,b2,CX ag3,J6,AAX]
  have bO:YA e=false:=by unfold YA; rw [b1,b2]; rfl
  cases b3:decide (e.n < 0)
  case true =>
   simp -implicitDefEqProofs only [AU,A9,BH,BQ,BZ,FN,PE,AL,AO,AJ,BA,AR,AC,AA,EM,AY,AQ,BI,BB,CF,DJ,↓reduceIte,Nat.reduceEqDiff,Option.getD_some,Bool.not_false,b3]
   exact ⟨by simp only [AA9,b3]; simp,trivial,trivial⟩
  simp -implicitDefEqProofs only [AU,BH,BQ,BZ,EH,AL,AO,AJ,BA,AR,AC,AA,AY,AQ,BD,BI,BB,CF,DK,BL,BN,BG,AB,EK,↓reduceIte,Nat.reduceEqDiff,Nat.zero_add,Option.getD_some,Bool.not_false,enP,AER,b3,CX ag3,J6,AAX]
  cases b4:decide (e.n > 65535)
  case true =>
   simp -implicitDefEqProofs only [AU,A9,BH,BQ,BZ,FN,PE,AL,AO,AJ,BA,AR,AC,AA,EM,AY,AQ,BI,BB,CF,DJ,↓reduceIte,Nat.reduceEqDiff,Option.getD_some,Bool.not_false,b4]
   exact ⟨by simp only [AA9,b4]; simp,trivial,trivial⟩
  simp -implicitDefEqProofs only [BH,BQ,BZ,EH,AL,AO,AJ,BA,AR,AC,AA,AY,AQ,BD,BB,BL,BN,BG,AB,ED,↓reduceIte,Nat.reduceEqDiff,Nat.zero_add,Option.getD_some,Bool.not_false,enP,AER,b4,bne,CX ag3,CX ag9,J6,AAX,QM]
  have fin : ∀ b,((!(e.n == 0) && !(e.op == 1)) || (!Q4 e.name && !K5 e.op))=b→AA9 e=b:=by
   intro b hb
   unfold AA9; rw [bO,b3,b4]; simpa using hb
  cases b5:(e.n == 0) <;> cases b6:(e.op == 1) <;> cases b7:Q4 e.name
  all_goals
   have b8:=b7
   unfold Q4 at b8
   simp -implicitDefEqProofs only [AU,A9,BH,BQ,BZ,FZ,EH,IQ,FN,PE,AL,AO,AJ,BA,AR,AC,AA,EM,AY,AQ,BS,BD,BI,JU,BB,CF,DJ,DK,BL,BN,BG,BV,BR,AB,ED,AA8,List.map_cons,List.map_nil,List.append_nil,↓reduceIte,Nat.reduceEqDiff,Nat.add_zero,Nat.zero_add,Option.getD_some,Bool.not_true,Bool.not_false,enP,I1,O6,bne,b5,b6,b8,CX ag3,CX ag9,J6,AAX,QM]
  all_goals first
   | exact ⟨by rw [fin _ rfl]; simp [b5,b6,b7],trivial,trivial⟩
   | refine (WK G e.op _).use ?_
     simp -implicitDefEqProofs only [AU,A9,BH,BQ,BZ,FZ,EH,AL,AO,AJ,BA,AR,AC,AA,AY,AQ,BI,CF,DJ,DK,F9,AB,ER,↓reduceIte,Nat.reduceEqDiff,Option.getD_some,Bool.not_false]
     exact ⟨by rw [fin _ rfl]; simp [b5,b6,b7],trivial,trivial⟩
 rintro F H ⟨f42,f1,rfl⟩
 simp -implicitDefEqProofs only [BF,AZ,AY,f42]
 refine CG (fun ho => ?_) (fun ho => ?_)
 ·simp -implicitDefEqProofs only [A8,AX,BJ,AZ,CJ,CK,AU,A9,AL,AO,AJ,BA,AR,AC,AA,AQ,BD,A7,↓reduceIte,Option.getD_some,Bool.not_false]
  exact ⟨by rw [WJ,if_pos ho],_,rfl⟩
 simp -implicitDefEqProofs only [A8,AX,BK,AZ,AU,A9,BH,BQ,BZ,AL,AO,AJ,BA,AR,AC,AA,AY,AQ,BD,BB,A7,BL,BN,BG,C8,AB,D9,↓reduceIte,Nat.reduceEqDiff,Nat.add_zero,Nat.zero_add,Option.getD_some,Bool.not_false,enP,AJC,I1,Q9,f1,CX ag3,CX AOB,J6,ADE,List.length_map]
 generalize hn:e.args.length=n
 have hm:(n:Int).tmod 2=(n:Int) % 2:=Int.tmod_eq_emod_of_nonneg (by omega)
 have br:KY Tryz.prog 3 .rem (.int .i64 (n:Int)) (.int .i64 2)=some (.int .i64 ((n:Int) % 2)):=by rw [AE5 _ _ _ _ _ (by decide),hm]
 refine RL (fun F H=>F 73 = .bool (AH4 e.op n)∧F 1 = .ptr h.length 0 0∧H=h ++ [.live 4 [F7 e]]) ?_ ?_
 ·cases b1:(e.op == 23)
  ·simp -implicitDefEqProofs only [AU,BH,BQ,BZ,FZ,EH,IQ,PE,AL,AO,AJ,BA,AR,AC,AA,EM,AY,AQ,BS,BD,BI,BB,CF,DK,BL,BN,BG,BV,BR,AB,ED,List.map_cons,List.map_nil,List.append_nil,↓reduceIte,Nat.reduceEqDiff,Nat.add_zero,Option.getD_some,Bool.not_false,enP,I1,bne,b1,f1,CX ag3,J6]
   refine (AN7 G e.op _).use ?_
   simp -implicitDefEqProofs only [AU,A9,BH,BQ,BZ,FZ,EH,AL,AO,AJ,BA,AR,AC,AA,AY,AQ,BI,CF,DJ,DK,BN,AB,ED,↓reduceIte,Nat.reduceEqDiff,Option.getD_some,Bool.not_false,enP,bne]
   exact ⟨by unfold AH4; rw [b1]; simp,f1,trivial⟩
  ·cases b2:decide ((n:Int) < 3) <;> cases b3:decide ((n:Int) > 33) <;> cases b4:((n:Int) % 2 == 0)
   all_goals
    simp -implicitDefEqProofs only [AU,A9,BH,BQ,BZ,FZ,EH,IQ,FN,PE,AL,AO,AJ,BA,AR,AC,AA,EM,AY,AQ,BD,BI,BB,CF,DJ,DK,BL,BN,BG,AB,D9,ED,CO,EK,↓reduceIte,Nat.reduceEqDiff,Nat.add_zero,Option.getD_some,Bool.not_true,Bool.not_false,enP,I1,bne,b1,b2,b3,b4,br,f1,CX ag3,J6]
    exact ⟨by unfold AH4; rw [b1,b2,b3,b4]; simp,trivial,trivial⟩
 clear f1 f42
 rintro F H ⟨f73,f1,rfl⟩
 simp -implicitDefEqProofs only [BF,AZ,AY,f73]
 subst hn
 refine CG (fun hs => ?_) (fun hs => ?_)
 ·simp -implicitDefEqProofs only [A8,AX,BJ,AZ,CJ,CK,AU,A9,AL,AO,AJ,BA,AR,AC,AA,AQ,BD,A7,↓reduceIte,Option.getD_some,Bool.not_false]
  exact ⟨by rw [WJ,if_neg (by simp [ho]),if_pos hs],_,rfl⟩
 simp -implicitDefEqProofs only [A8,AX,BK,AZ,AU,BH,BQ,BZ,AL,AO,AJ,BA,AR,AC,AA,AY,AQ,BD,BB,BL,BN,BG,AB,D9,↓reduceIte,Nat.add_zero,Option.getD_some,Bool.not_false,enP,I1,f1,CX ag3,CX ag9,J6,QM]
 have fin : ∀ b,U3 e=b→LV e=if b then 7 else 0:=by
  intro b hb
  rw [WJ,if_neg (by simp [ho]),if_neg (by simp [hs]),hb]
 cases b2:(e.op == 2)
 ·simp -implicitDefEqProofs only [AU,BH,BQ,BZ,EH,IQ,AL,AO,AJ,BA,AR,AC,AA,EM,AY,AQ,BS,BI,BB,CF,DK,BL,BG,BV,BR,AB,List.map_cons,List.map_nil,List.append_nil,↓reduceIte,Nat.reduceEqDiff,Nat.add_zero,Option.getD_some,Bool.not_false,enP,I1,b2,f1,CX ag9,CX ag3,J6,QM]
  refine (WK G e.op _).use ?_
  cases bm:K5 e.op
  ·have hv:U3 e=false:=by
    unfold K5 at bm; simp only [Bool.or_eq_false_iff] at bm
    simp [U3,bm.1.1,bm.1.2,bm.2]
   simp -implicitDefEqProofs only [A8,AX,BK,BJ,BF,AZ,CK,DL,AU,A9,BH,BQ,BZ,EH,IQ,AL,AO,AJ,BA,AR,AC,AA,EM,AY,AQ,BD,BI,BB,A7,CF,DK,↓reduceIte,Nat.reduceEqDiff,Option.getD_some,Bool.not_false]
   exact ⟨by rw [fin false hv]; rfl,_,rfl⟩
  have hv:U3 e = !GA e.name:=by
   unfold K5 at bm; rw [b2] at bm; simp only [Bool.false_or] at bm
   unfold U3; rw [b2,bm]; simp
  simp -implicitDefEqProofs only [BH,BQ,BZ,FZ,EH,AL,AO,AJ,BA,AR,AC,AA,AY,AQ,BS,BD,BI,BB,CF,DJ,BL,BN,BG,BV,BR,AB,ED,List.map_cons,List.map_nil,List.append_nil,↓reduceIte,Nat.reduceEqDiff,Nat.add_zero,Nat.zero_add,Option.getD_some,Bool.not_false,enP,I1,O6,bne,b2,f1,CX ag9,CX ag3,J6,QM]
  refine (M8 G e.name _).use ?_
  cases bi:GA e.name
  ·simp -implicitDefEqProofs only [A8,AX,BJ,BF,AZ,CJ,CK,DI,AU,A9,BH,BQ,BZ,FZ,EH,AL,AO,AJ,BA,AR,AC,AA,AY,AQ,BD,BI,A7,CF,DJ,DK,F9,AB,ER,↓reduceIte,Nat.reduceEqDiff,Option.getD_some,Bool.not_false]
   exact ⟨by rw [fin true (by rw [hv,bi]; rfl)]; rfl,_,rfl⟩
  ·simp -implicitDefEqProofs only [A8,AX,BK,BJ,BF,AZ,CK,DL,AU,A9,BH,BQ,BZ,FZ,EH,AL,AO,AJ,BA,AR,AC,AA,AY,AQ,BD,BI,A7,CF,DJ,DK,F9,AB,ER,↓reduceIte,Nat.reduceEqDiff,Option.getD_some,Bool.not_true,Bool.not_false]
   exact ⟨by rw [fin false (by rw [hv,bi]; rfl)]; rfl,_,rfl⟩
 ·have e2:e.op=2:=by simpa using b2
  have hv:U3 e = !P8 e.name:=by
   unfold U3; rw [e2]; simp
  simp -implicitDefEqProofs only [BH,BQ,BZ,FZ,AL,AO,AJ,BA,AR,AC,AA,AY,BS,BL,BG,BV,BR,AB,List.map_cons,List.map_nil,List.append_nil,↓reduceIte,Nat.reduceEqDiff,Nat.zero_add,Option.getD_some,Bool.not_false,enP,O6,b2,f1,CX ag9,CX ag3,J6,QM]
  refine (ANB G e.name _ hl).use ?_
  cases bi:P8 e.name
  ·simp -implicitDefEqProofs only [A8,AX,BJ,BF,AZ,CJ,CK,DI,AU,A9,BH,BQ,BZ,FZ,FN,PE,AL,AO,AJ,BA,AR,AC,AA,EM,AY,AQ,BD,BI,BB,A7,CF,DJ,F9,AB,ER,↓reduceIte,Nat.reduceEqDiff,Option.getD_some,Bool.not_false]
   exact ⟨by rw [fin true (by rw [hv,bi]; rfl)]; rfl,_,rfl⟩
  ·simp -implicitDefEqProofs only [AU,BH,BQ,BZ,FZ,EH,AL,AO,AJ,BA,AR,AC,AA,AY,AQ,BS,BI,BB,CF,DJ,BL,F9,BG,BV,BR,AB,ER,List.map_cons,List.map_nil,List.append_nil,↓reduceIte,Nat.reduceEqDiff,Nat.add_zero,Option.getD_some,Bool.not_true,Bool.not_false,enP,I1,f1,CX ag3,J6]
   refine (WK G e.op _).use ?_
   have bm:K5 e.op=true:=by rw [e2]; rfl
   simp -implicitDefEqProofs only [A8,AX,BK,BJ,BF,AZ,CK,DL,AU,A9,BH,BQ,BZ,FZ,EH,IQ,AL,AO,AJ,BA,AR,AC,AA,EM,AY,AQ,BD,BI,BB,A7,CF,DJ,DK,BL,BN,BG,AB,ED,↓reduceIte,Nat.reduceEqDiff,Nat.add_zero,Option.getD_some,Bool.not_true,Bool.not_false,enP,I1,bne,bm,f1,CX ag3,J6,b2]
   exact ⟨by rw [fin false (by rw [hv,bi]; rfl)]; rfl,_,rfl⟩
end Go.Proofs.YtocilianjfhifaaGreatDoor.Cov
/- The walk over an expression's nodes (program): every visitor that keeps a number; no condition. -/
set_option linter.unusedSimpArgs false
set_option maxRecDepth 8000
namespace Go.Proofs.YtocilianjfhifaaGreatDoor.Cov
open Go Go.Proofs Go.Proofs.YtocilianjfhifaaGreatDoor.Sm Go.Proofs.YtocilianjfhifaaGreatDoor.Bins Go.RowKit

theorem ARC:JV Tryz.prog 196=some false:=by kernel_rfl
theorem AXD:szO Tryz.prog 196=some 1:=by kernel_rfl
theorem AYM (h:Hp):JN Tryz.prog h 53=some (.ptr h.length 0 0,h ++ [.live 4 [[.int .i64 0,.int .i64 0,.str ⟨#[]⟩,.sl .nil 0 []]]]):=JC (row := [.int .i64 0,.int .i64 0,.str ⟨#[]⟩,.sl .nil 0 []]) (by kernel_rfl)
theorem AXF (h:Hp) (e:Ex) (row:List AV) (hr:row.length=4):FQ Tryz.prog (h ++ [.live 4 [row]]) 53 (.ptr h.length 0 0) (.agg (F7 e))=some (h ++ [.live 4 [F7 e]]):=by
 rw [M5 (TB (ADC e)) (by rw [J5]; exact ABP) (by rw [J5,hr]; exact Nat.le_refl _)]
 have:splice row 0 (F7 e)=F7 e:=by unfold splice; simp [J5,hr]
 rw [this]
theorem AZY (h:Hp):JN Tryz.prog h 38=some (.ptr h.length 0 0,h ++ [.live 1 [[.int .i64 0]]]):=JC (row := [.int .i64 0]) (by kernel_rfl)
theorem al3 (h:Hp):JN Tryz.prog h 3=some (.ptr h.length 0 0,h ++ [.live 1 [[.int .i64 0]]]):=JC (row := [.int .i64 0]) (by kernel_rfl)
theorem AYO (h:Hp):JN Tryz.prog h 196=some (.ptr h.length 0 0,h ++ [.live 1 [[.nilfn]]]):=JC (row := [.nilfn]) (by kernel_rfl)
/-- a cell of one value -/
theorem KG {h:Hp} {t:TypeId} {b:Nat} {v:AV} (hag:JV Tryz.prog t=some false) (hb:h[b]? = some (.live 1 [[v]])):D7 Tryz.prog h t (.ptr b 0 0)=some v:=by
 rw [DX hag hb (row := [v]) rfl]; rfl
theorem TH {h:Hp} {t:TypeId} {b:Nat} {v u:AV} (hs:szO Tryz.prog t=some 1) (hc:IV u=some [u]) (hb:h[b]? = some (.live 1 [[v]])):FQ Tryz.prog h t (.ptr b 0 0) u=some (h.set b (.live 1 [[u]])):=by
 rw [KV hc hs hb (row := [v]) rfl (by simp)]; rfl
theorem AZU (h:Hp) (f:Fn) (a b:List AV):OH h (.fn f a b)=some (.ptr h.length 0 0,h ++ [.live 1 [[.fn f a b]]]):=rfl

/-- only one block has changed, and new ones may lie above -/
def Chg (c:Nat) (h h':Hp):Prop:=h.length≤h'.length∧∀ b,b < h.length→b≠c→h'[b]? = h[b]?
theorem Chg.refl (c:Nat) (h:Hp):Chg c h h:=⟨Nat.le_refl _,fun _ _ _=>rfl⟩
theorem Chg.trans {c:Nat} {a b d:Hp} (h1:Chg c a b) (h2:Chg c b d):Chg c a d :=
 ⟨Nat.le_trans h1.1 h2.1,fun i hi hc=>by rw [h2.2 i (Nat.lt_of_lt_of_le hi h1.1) hc,h1.2 i hi hc]⟩
theorem Chg.app (c:Nat) (h x:Hp):Chg c h (h ++ x):=⟨by simp,fun i hi _=>List.getElem?_append_left hi⟩
theorem Chg.set (c:Nat) (h:Hp) (x:ABlk):Chg c h (h.set c x):=⟨by simp,fun i _ hc=>by rw [List.getElem?_set,if_neg (fun e=>hc e.symm)]⟩
theorem Chg.get {c b:Nat} {h h':Hp} {x:ABlk} (hc:Chg c h h') (hb:h[b]? = some x) (hne:b≠c):h'[b]? = some x:=by
 rw [hc.2 b (CE hb) hne]; exact hb
theorem Chg.above {c:Nat} {h h':Hp} (hc:Chg c h h') (hl:h.length≤c) : ∃ x,h'=h ++ x:=by
 refine ⟨h'.drop h.length,?_⟩
 have:h'.take h.length=h:=by
  refine List.ext_getElem? fun i => ?_
  rcases Nat.lt_or_ge i h.length with hi | hi
  ·rw [List.getElem?_take_of_lt hi,hc.2 i hi (by omega)]
  ·rw [List.getElem?_eq_none (by rw [List.length_take]; omega),List.getElem?_eq_none hi]
 conv=>lhs; rw [← List.take_append_drop h.length h',this]

/-- what a walk makes of a number -/
def run (upd:Ex→Int→Int) (cont:Int→Bool):List Ex→Int→Int × Bool
 | [],z=>(z,true)
 | e :: es,z=>if cont (upd e z) then run upd cont es (upd e z) else (upd e z,false)
theorem run_go {upd:Ex→Int→Int} {cont:Int→Bool} : ∀ {xs:List Ex} (ys:List Ex) {z z':Int},run upd cont xs z=(z',true)→run upd cont (xs ++ ys) z=run upd cont ys z'
 | [],ys,z,z',h=>by cases h; rfl
 | x :: xs,ys,z,z',h=>by
   simp only [run,List.cons_append] at h ⊢
   split at h
   ·rename_i hc; rw [if_pos hc]; exact run_go ys h
   ·cases h
theorem AF3 {upd:Ex→Int→Int} {cont:Int→Bool} : ∀ {xs:List Ex} (ys:List Ex) {z z':Int},run upd cont xs z=(z',false)→run upd cont (xs ++ ys) z=(z',false)
 | [],ys,z,z',h=>by cases h
 | x :: xs,ys,z,z',h=>by
   simp only [run,List.cons_append] at h ⊢
   split at h
   ·rename_i hc; rw [if_pos hc]; exact AF3 ys h
   ·rename_i hc; rw [if_neg hc]; exact h
theorem TK (xs:List Ex) (j:Nat) (hj:j < xs.length):KT (xs.take (j+1))=KT (xs.take j) ++ pre xs[j]:=by
 rw [List.take_succ_eq_append_getElem hj,SA]; simp [KT]
theorem AKY {a:Ex} : ∀ {xs:List Ex},a∈xs→∀ x∈pre a,x∈KT xs
 | [],h,_,_=>by cases h
 | y :: ys,h,x,hx=>by
   simp only [KT,List.mem_append]
   cases List.mem_cons.1 h with
   | inl e=>subst e; exact .inl hx
   | inr e=>exact .inr (AKY e x hx)
def AMC (G:Nat→AV) (k:FuncId) (upd:Ex→Int→Int) (cont:Int→Bool) (e:Ex):Prop :=
 ∀ (h:Hp) (c:Nat) (z:Int),h[c]? = some (.live 1 [[.int .i64 z]])→ACalls (En G) k [.agg (F7 e),.ptr c 0 0] h fun v h'=>v = .bool (cont (upd e z))∧Chg c h h'∧h'[c]? = some (.live 1 [[.int .i64 (upd e z)]])
theorem ANR (G:Nat→AV) (k:FuncId) (upd:Ex→Int→Int) (cont:Int→Bool) (c vb db:Nat) (hv:vb≠c) (hd:db≠c) (e:Ex) :
  wt e≤1099511627776→(∀ x∈pre e,AMC G k upd cont x)→∀ (h:Hp) (z:Int),h[c]? = some (.live 1 [[.int .i64 z]])→h[vb]? = some (.live 1 [[.fn (.func k) [] [.ptr c 0 0]]]) →
   h[db]? = some (.live 1 [[.fn (.func 230) [] [.ptr vb 0 0,.ptr db 0 0]]]) →
   ACalls (En G) 230 [.agg (F7 e),.ptr vb 0 0,.ptr db 0 0] h fun v h'=>v = .bool (run upd cont (pre e) z).2∧Chg c h h'∧h'[c]? = some (.live 1 [[.int .i64 (run upd cont (pre e) z).1]]):=by
 induction e using Ex.induct with | h e ih => ?_
 intro hw hvis h z hc hvb hdb
 have hcl:=CE hc
 have hal:e.args.length≤1099511627776:=by have:=YF e.args; have:=OU e; omega
 refine BX (H:=Hint.none) (enM G) Tryz.func230 rfl (by kernel_rfl) (by kernel_rfl) (Nat.le_of_ble_eq_true (by kernel_rfl)) ?_
 show awp _ _ _ _ _ (EJ _ [.tmp 4] _)
 simp -implicitDefEqProofs only [A8,AX,AZ,AU,A9,AL,AO,AJ,BA,AR,AC,AA,AY,AQ,BI,A7,EW,BL,BV,BR,BO,AB,BC,BP,List.map_cons,List.map_nil,List.nil_append,List.cons_append,↓reduceIte,Nat.reduceEqDiff,Option.getD_some,Bool.not_false,enP,bxE,KG ARC (C9 hvb),ldE]
 refine (hvis e (by rw [pre_eq]; simp) _ c z (C9 hc)).mono ?_
 rintro v h1 ⟨rfl,hch,hc1⟩
 have hch0:=(Chg.app c h _).trans hch
 have hb3:h1[h.length]? = some (.live 4 [F7 e]):=hch.get (CQ _ _) (by omega)
 have hrun:run upd cont (pre e) z=if cont (upd e z) then run upd cont (KT e.args) (upd e z) else (upd e z,false):=by rw [pre_eq]; rfl
 simp -implicitDefEqProofs only [BF,AZ,AU,A9,AL,AO,AJ,BA,AR,AC,AA,AY,F9,AB,ER,↓reduceIte,Option.getD_some,Bool.not_false]
 cases hct:cont (upd e z)
 ·simp -implicitDefEqProofs only [A8,AX,BJ,AZ,CJ,CK,DI,AU,A9,AL,AO,AJ,BA,AR,AC,AA,AQ,BI,A7,↓reduceIte,Option.getD_some,Bool.not_false]
  rw [hrun,hct]
  exact ⟨rfl,hch0,hc1⟩
 rw [hct,if_pos rfl] at hrun
 have hvb1:=hch0.get hvb hv
 have hdb1:=hch0.get hdb hd
 have l3:D7 Tryz.prog h1 51 (.ptr h.length 0 3)=some (.sl e.m 4 (e.args.map F7)):=by rw [DX AOB hb3 (row:=F7 e) rfl,ADE]
 simp -implicitDefEqProofs only [A8,BM,AX,BK,AZ,DL,AU,A9,AL,AO,AJ,BA,AR,AC,AA,AY,AQ,BD,BB,BL,BG,C8,AB,↓reduceIte,Nat.reduceEqDiff,Nat.zero_add,Option.getD_some,Bool.not_true,Bool.not_false,enP,AJC,Q9,l3,List.length_map]
 refine CS (fun n F H => ∃ j z',n+j=e.args.length∧F 1 = .ptr vb 0 0∧F 2 = .ptr db 0 0∧F 12 = .sl e.m 4 (e.args.map F7)∧F 13 = .int .i64 e.args.length∧F 14 = .int .i64 (j:Nat)∧Chg c h H∧H[c]? = some (.live 1 [[.int .i64 z']])∧run upd cont (KT (e.args.take j)) (upd e z)=(z',true)) e.args.length ⟨0,upd e z,by simp,by simp -implicitDefEqProofs only [AA,BC,BP,↓reduceIte,Nat.reduceEqDiff],by simp -implicitDefEqProofs only [AA,BC,BP,↓reduceIte,Nat.reduceEqDiff],by simp -implicitDefEqProofs only [AA,↓reduceIte,Nat.reduceEqDiff],by simp -implicitDefEqProofs only [AA,↓reduceIte,Nat.reduceEqDiff],by simp -implicitDefEqProofs only [AA,↓reduceIte]; rfl,hch0,hc1,rfl⟩ ?_
 rintro n F H ⟨j,z',hj,f1,f2,f12,f13,f14,hC,hcz,hr⟩
 simp -implicitDefEqProofs only [A8,AX,BF,AZ,AU,A9,AL,AO,AJ,BA,AR,AC,AA,AY,BN,AB,CO,↓reduceIte,Option.getD_some,Bool.not_false,enP,f13,f14]
 refine CG (fun hlt => ?_) (fun hlt => ?_)
 ·have hj':j < e.args.length:=by simpa using hlt
  have hdH:H[db]? = some (.live 1 [[.fn (.func 230) [] [.ptr vb 0 0,.ptr db 0 0]]]):=hC.get hdb hd
  have hvH:H[vb]? = some (.live 1 [[.fn (.func k) [] [.ptr c 0 0]]]):=hC.get hvb hv
  simp -implicitDefEqProofs only [A8,BM,AX,BK,AZ,AU,A9,AL,AO,AJ,BA,AR,AC,EQ,AA,AY,FL,BL,EC,BU,BV,BR,BO,AB,DF,List.map_cons,List.map_nil,List.nil_append,List.cons_append,↓reduceIte,Nat.reduceEqDiff,Option.getD_some,Bool.not_false,enP,AS6,Option.getD_none,f12,f14,CW hj',ES AIB ABP J5 hj',AYM,AXF _ _ [.int .i64 0,.int .i64 0,.str ⟨#[]⟩,.sl .nil 0 []] rfl,f2,KG ARC (C9 hdH),ldE]
  have hmem:e.args[j]∈e.args:=List.getElem_mem hj'
  refine (ih e.args[j] hmem (by have:=U6 hmem; have:=OU e; omega) (fun x hx=>hvis x (by rw [pre_eq]; exact List.mem_cons_of_mem _ (AKY hmem x hx))) _ z' (C9 hcz) (C9 hvH) (C9 hdH)).mono ?_
  rintro v h2 ⟨rfl,hch2,hc2⟩
  have hC2:=hC.trans ((Chg.app c H _).trans hch2)
  have hsplit:KT e.args=KT (e.args.take j) ++ (pre e.args[j] ++ KT (e.args.drop (j+1))):=by
   rw [← List.append_assoc,← TK _ _ hj',← SA,List.take_append_drop]
  simp -implicitDefEqProofs only [BF,AZ,AU,A9,AL,AO,AJ,BA,AR,AC,AA,AY,F9,AB,ER,↓reduceIte,Option.getD_some,Bool.not_false]
  rcases hrr:run upd cont (pre e.args[j]) z' with ⟨z2,b2⟩
  rw [hrr] at hc2
  cases b2
  ·simp -implicitDefEqProofs only [A8,AX,BJ,AZ,CJ,D6,EZ,CK,DI,AU,A9,AL,AO,AJ,BA,AR,AC,AA,AQ,BI,A7,↓reduceIte,Option.getD_some,Bool.not_false]
   have:run upd cont (pre e) z=(z2,false):=by rw [hrun,hsplit,run_go _ hr]; exact AF3 _ hrr
   rw [this]
   exact ⟨rfl,hC2,hc2⟩
  ·simp -implicitDefEqProofs only [AX,BK,AZ,DU,DZ,DL,AU,A9,AL,AO,AJ,BA,AR,AC,AA,AY,AQ,BD,BB,BN,AB,CR,↓reduceIte,Nat.reduceEqDiff,Option.getD_some,Bool.not_true,Bool.not_false,enP,f1,f2,f12,f13,f14,CB (show j < 9223372036854775807 by omega)]
   refine ⟨n - 1,by omega,j+1,z2,by omega,trivial,trivial,trivial,trivial,rfl,hC2,hc2,?_⟩
   rw [TK _ _ hj',run_go _ hr]; exact hrr
 ·have hj' : ¬ j < e.args.length:=by simpa using hlt
  simp -implicitDefEqProofs only [A8,AX,BJ,CU,AZ,DR,EB,EF,CK,AU,A9,AL,AO,AJ,BA,AR,AC,AA,AQ,BI,A7,↓reduceIte,Option.getD_some,Bool.not_false]
  rw [List.take_of_length_le (by omega)] at hr
  rw [hrun,hr]
  exact ⟨rfl,hC,hcz⟩

theorem ACC (G:Nat→AV) (k:FuncId) (upd:Ex→Int→Int) (cont:Int→Bool) (c:Nat) (e:Ex) (hw:wt e≤1099511627776) (hvis : ∀ x∈pre e,AMC G k upd cont x) (h:Hp) (z:Int) (hc:h[c]? = some (.live 1 [[.int .i64 z]])) :
  ACalls (En G) 196 [.agg (F7 e),.fn (.func k) [] [.ptr c 0 0]] h fun _ h'=>Chg c h h'∧h'[c]? = some (.live 1 [[.int .i64 (run upd cont (pre e) z).1]]):=by
 have hcl:=CE hc
 refine BX (H:=Hint.none) (enM G) Tryz.func196 rfl (by kernel_rfl) (by kernel_rfl) (Nat.le_of_ble_eq_true (by kernel_rfl)) ?_
 show awp _ _ _ _ _ (EJ _ [] _)
 simp -implicitDefEqProofs only [A8,AX,AZ,AU,A9,AL,AO,AJ,BA,AR,AC,AA,AY,FL,EW,EC,KO,BO,BC,BP,List.map_cons,List.map_nil,↓reduceIte,Nat.reduceEqDiff,Option.getD_some,Bool.not_false,enP,Option.getD_none,bxE,AZU,AYO]
 have g0:(h ++ [ABlk.live 4 [F7 e]] ++ [ABlk.live 1 [[AV.fn (.func k) [] [.ptr c 0 0]]]] ++ [ABlk.live 1 [[AV.nilfn]]])[(h ++ [ABlk.live 4 [F7 e]] ++ [ABlk.live 1 [[AV.fn (.func k) [] [.ptr c 0 0]]]]).length]? = some (.live 1 [[.nilfn]]):=CQ _ _
 simp -implicitDefEqProofs only [AX,AZ,AU,A9,AL,AO,AJ,BA,AR,EQ,AA,AY,BL,DF,↓reduceIte,Nat.reduceEqDiff,Option.getD_some,Bool.not_false,enP,TH AXD (AYV _ _ _) g0]
 generalize hdb:(h ++ [ABlk.live 4 [F7 e]] ++ [ABlk.live 1 [[AV.fn (.func k) [] [.ptr c 0 0]]]]).length=db at g0 ⊢
 generalize hvb:(h ++ [ABlk.live 4 [F7 e]]).length=vb
 have hvl:vb=h.length+1:=by rw [← hvb]; simp
 have hdl:db=h.length+2:=by rw [← hdb]; simp
 generalize hH:(h ++ [ABlk.live 4 [F7 e]] ++ [ABlk.live 1 [[AV.fn (.func k) [] [.ptr c 0 0]]]] ++ [ABlk.live 1 [[AV.nilfn]]]).set db (.live 1 [[AV.fn (.func 230) [] [.ptr vb 0 0,.ptr db 0 0]]])=H
 have h1:H[db]? = some (.live 1 [[.fn (.func 230) [] [.ptr vb 0 0,.ptr db 0 0]]]):=by rw [← hH]; exact EI g0
 have h2:H[vb]? = some (.live 1 [[.fn (.func k) [] [.ptr c 0 0]]]):=by
  rw [← hH]; refine EP ?_ (by omega)
  rw [← hvb]; exact C9 (CQ _ _)
 have h3:H[h.length]? = some (.live 4 [F7 e]):=by
  rw [← hH]; refine EP ?_ (by omega)
  exact C9 (C9 (CQ _ _))
 have h4:H[c]? = some (.live 1 [[.int .i64 z]]):=by
  rw [← hH]; refine EP ?_ (by omega)
  exact C9 (C9 (C9 hc))
 have hC:Chg c h H:=by
  refine ⟨by rw [← hH]; simp,fun b hb hbc => ?_⟩
  obtain ⟨x,hx⟩ : ∃ x,h[b]? = some x:=⟨_,List.getElem?_eq_getElem hb⟩
  rw [← hH,hx]
  exact EP (C9 (C9 (C9 hx))) (by omega)
 simp -implicitDefEqProofs only [AU,AL,AO,AJ,BA,AR,AC,AA,AY,BL,BV,BR,AB,List.map_cons,List.map_nil,List.nil_append,List.cons_append,↓reduceIte,Nat.reduceEqDiff,Option.getD_some,Bool.not_false,enP,KG ARC h1,UT h3]
 refine (ANR G k upd cont c vb db (by omega) (by omega) e hw hvis H z h4 h2 h1).mono ?_
 rintro v h' ⟨rfl,hch,hc1⟩
 simp -implicitDefEqProofs only [AE0,A9,AC]
 exact ⟨hC.trans hch,hc1⟩
end Go.Proofs.YtocilianjfhifaaGreatDoor.Cov
/- Depth, Size and Valid of expressions (program); no condition but the variables that are laid. -/
set_option linter.unusedSimpArgs false
set_option maxRecDepth 8000
namespace Go.Proofs.YtocilianjfhifaaGreatDoor.Cov
open Go Go.Proofs Go.Proofs.YtocilianjfhifaaGreatDoor.Sm Go.Proofs.YtocilianjfhifaaGreatDoor.Bins Go.RowKit

theorem AIP (G:Nat→AV) (e:Ex):AMC G 233 (fun _ z=>IntKind.i64.wrap (z+1)) (fun _=>true) e:=by
 intro h c z hc
 have hcl:=CE hc
 refine BX (H:=Hint.none) (enM G) Tryz.func233 rfl (by kernel_rfl) (by kernel_rfl) (Nat.le_of_ble_eq_true (by kernel_rfl)) ?_
 show awp _ _ _ _ _ (EJ _ [.tmp 3] _)
 simp -implicitDefEqProofs only [A8,AX,BJ,AZ,CK,AU,A9,AL,AO,AJ,BA,AR,AC,EQ,AA,AY,AQ,BD,BI,A7,EW,BL,EC,BN,BO,AB,DF,CR,BC,BP,↓reduceIte,Nat.reduceEqDiff,Option.getD_some,Bool.not_false,enP,Option.getD_none,bxE,KG ag3 (C9 hc),TH sz3 (RG _ _) (C9 hc)]
 exact ⟨trivial,(Chg.app c h _).trans (Chg.set c _ _),EI (C9 hc)⟩
theorem AG9 (G:Nat→AV) (hG:GOk G) (e:Ex) (hl:e.name.size≤1048576):AMC G 197 (fun e _=>LV e) (fun z=>z == 0) e:=by
 intro h c z hc
 have hcl:=CE hc
 refine BX (H:=Hint.none) (enM G) Tryz.func197 rfl (by kernel_rfl) (by kernel_rfl) (Nat.le_of_ble_eq_true (by kernel_rfl)) ?_
 show awp _ _ _ _ _ (EJ _ [.tmp 3] _)
 simp -implicitDefEqProofs only [A8,AX,AZ,AU,A9,AL,AO,AJ,BA,AR,AC,AA,AY,AQ,BS,BI,A7,EW,BL,BV,BR,BO,AB,BC,List.map_cons,List.map_nil,List.append_nil,↓reduceIte,Nat.reduceEqDiff,Option.getD_some,Bool.not_false,enP,bxE,ldE]
 refine (AM4 G hG e _ hl).use ?_
 have hs:=EI (y := .live 1 [[.int .i64 (LV e)]]) (C9 (x := .live 4 [F7 e]) hc)
 simp -implicitDefEqProofs only [A8,AX,BJ,AZ,CK,AU,A9,AL,AO,AJ,BA,AR,AC,EQ,AA,AY,AQ,BD,A7,BL,EC,BN,AB,DF,D9,BC,BP,↓reduceIte,Nat.reduceEqDiff,Option.getD_some,Bool.not_false,enP,Option.getD_none,TH AVK (RG _ _) (C9 hc),KG ARB hs]
 exact ⟨trivial,(Chg.app c h _).trans (Chg.set c _ _),hs⟩
theorem AF4 : ∀ (xs:List Ex) (n:Nat),n+xs.length≤1099511627776→run (fun _ z=>IntKind.i64.wrap (z+1)) (fun _=>true) xs (n:Int)=(((n+xs.length:Nat):Int),true)
 | [],n,_=>rfl
 | x :: xs,n,h=>by
   simp only [List.length_cons] at h
   simp only [run,if_true]
   rw [CB (by omega),AF4 xs (n+1) (by omega),List.length_cons]
   congr 1; omega
/-- the first error of nodes -/
def errs (xs:List Ex):Int:=xs.foldl (fun z e=>if z=0 then LV e else z) 0
theorem ALX : ∀ (xs:List Ex) (z:Int),z≠0→xs.foldl (fun z e=>if z=0 then LV e else z) z=z
 | [],_,_=>rfl
 | x :: xs,z,h=>by rw [List.foldl_cons,if_neg h]; exact ALX xs z h
theorem AF5 : ∀ (xs:List Ex),(run (fun e _=>LV e) (fun z=>z == 0) xs 0).1=errs xs
 | []=>rfl
 | x :: xs=>by
   simp only [run,errs,List.foldl_cons,if_true]
   rcases hn:(LV x == 0) with _ | _
   ·have:LV x≠0:=by simpa using hn
    rw [ALX _ _ this]; rfl
   ·have:LV x=0:=by simpa using hn
    rw [this]; simp only [if_true]; exact AF5 xs
theorem APA {x e:Ex} (hx:x∈pre e):x.name.size≤wt e:=by
 induction e using Ex.induct with | h e ih => ?_
 rw [pre_eq] at hx
 have hw:=OU e
 rcases List.mem_cons.1 hx with rfl | hx
 ·omega
 have : ∀ l:List Ex,(∀ a∈l,x∈pre a→x.name.size≤wt a)→x∈KT l→x.name.size≤wts l:=by
  intro l
  induction l with
  | nil=>intro _ h; simp [KT] at h
  | cons y l ih2 =>
    intro hh h
    simp only [KT,List.mem_append] at h
    simp only [wts]
    rcases h with h | h
    ·have:=hh y (by simp) h; omega
    ·have:=ih2 (fun a ha=>hh a (by simp [ha])) h; omega
 have:=this e.args (fun a ha=>ih a ha) hx
 omega
theorem AMN (G:Nat→AV) (e:Ex) (h:Hp) (hw:wt e≤1099511627776):PCall (En G) 200 [.agg (F7 e)] h (.int .i64 (pre e).length):=by
 refine ACalls.pure0 rfl ?_
 refine BX (H:=Hint.none) (enM G) Tryz.func200 rfl (by kernel_rfl) (by kernel_rfl) (Nat.le_of_ble_eq_true (by kernel_rfl)) ?_
 show awp _ _ _ _ _ (EJ _ [.tmp 2] _)
 have hg:=CQ (h ++ [ABlk.live 4 [F7 e]]) (.live 1 [[.int .i64 0]])
 have hs:(h ++ [ABlk.live 4 [F7 e]] ++ [ABlk.live 1 [[.int .i64 0]]]).set (h ++ [ABlk.live 4 [F7 e]]).length (.live 1 [[.int .i64 0]])=h ++ [ABlk.live 4 [F7 e]] ++ [ABlk.live 1 [[.int .i64 0]]]:=YH _ _ _
 simp -implicitDefEqProofs only [A8,AX,AZ,AU,A9,AL,AO,AJ,BA,AR,AC,EQ,AA,AY,AQ,BS,BD,A7,FL,EW,BL,EC,KO,BV,BR,BO,AB,DF,BC,List.map_cons,List.map_nil,List.append_nil,↓reduceIte,Nat.reduceEqDiff,Option.getD_some,Bool.not_false,enP,Option.getD_none,bxE,al3,TH sz3 (RG _ _) hg,hs,UT (C9 (CQ h _))]
 refine (ACC G 233 _ _ _ e hw (fun x _=>AIP G x) _ 0 hg).mono ?_
 rintro v h' ⟨hch,hc1⟩
 simp -implicitDefEqProofs only [A8,AX,BJ,AZ,CK,AU,A9,AL,AO,AJ,BA,AR,AC,AA,AY,A7,BL,AB,↓reduceIte,Nat.reduceEqDiff,Option.getD_some,Bool.not_false,enP,KG ag3 hc1]
 have:=AF4 (pre e) 0 (by have:=AO9 e; omega)
 simp only [Nat.zero_add] at this
 exact ⟨by rw [show (0:Int)=((0:Nat):Int) from rfl,this],(((Chg.app _ h _).trans (Chg.app _ _ _)).trans hch).above (by simp)⟩
theorem AJR (G:Nat→AV) (e:Ex):wt e≤1099511627776→∀ h:Hp,PCall (En G) 199 [.agg (F7 e)] h (.int .i64 (dep e)):=by
 induction e using Ex.induct with | h e ih => ?_
 intro hw h
 have hal:e.args.length≤1099511627776:=by have:=YF e.args; have:=OU e; omega
 refine ACalls.pure0 rfl ?_
 refine BX (H:=Hint.none) (enM G) Tryz.func199 rfl (by kernel_rfl) (by kernel_rfl) (Nat.le_of_ble_eq_true (by kernel_rfl)) ?_
 show awp _ _ _ _ _ (EJ _ [.tmp 2] _)
 simp -implicitDefEqProofs only [A8,BM,AX,AZ,AU,A9,AL,AO,AJ,BA,AR,AC,AA,AY,AQ,BD,BB,A7,EW,BL,BG,C8,BO,AB,BC,↓reduceIte,Nat.reduceEqDiff,Nat.zero_add,Option.getD_some,Bool.not_false,enP,AJC,Q9,bxE,CX AOB,ADE,List.length_map]
 have hdw:dep e≤1099511627776:=Nat.le_trans (AQN e) hw
 refine CS (fun n F H => ∃ j,n+j=e.args.length∧F 3 = .int .i64 (deps (e.args.take j):Nat)∧F 7 = .sl e.m 4 (e.args.map F7)∧F 8 = .int .i64 e.args.length∧F 9 = .int .i64 (j:Nat)∧∃ x,H=h ++ x) e.args.length ⟨0,by simp,by simp -implicitDefEqProofs only [AA,↓reduceIte,Nat.reduceEqDiff]; rfl,by simp -implicitDefEqProofs only [AA,↓reduceIte,Nat.reduceEqDiff],by simp -implicitDefEqProofs only [AA,↓reduceIte,Nat.reduceEqDiff],by simp -implicitDefEqProofs only [AA,↓reduceIte]; rfl,⟨_,rfl⟩⟩ ?_
 rintro n F H ⟨j,hj,f3,f7,f8,f9,x,rfl⟩
 simp -implicitDefEqProofs only [A8,AX,BF,AZ,AU,A9,AL,AO,AJ,BA,AR,AC,AA,AY,BN,AB,CO,↓reduceIte,Option.getD_some,Bool.not_false,enP,f8,f9]
 refine CG (fun hlt => ?_) (fun hlt => ?_)
 ·have hj':j < e.args.length:=by simpa using hlt
  have hmem:e.args[j]∈e.args:=List.getElem_mem hj'
  simp -implicitDefEqProofs only [A8,BM,AX,BK,AZ,AU,A9,AL,AO,AJ,BA,AR,AC,EQ,AA,AY,BS,BB,FL,BL,EC,BU,BV,BR,BO,AB,DF,List.map_cons,List.map_nil,List.append_nil,↓reduceIte,Nat.reduceEqDiff,Option.getD_some,Bool.not_false,enP,AS6,Option.getD_none,f3,f7,f9,CW hj',ES AIB ABP J5 hj',AYM,AXF _ _ [.int .i64 0,.int .i64 0,.str ⟨#[]⟩,.sl .nil 0 []] rfl,ldE]
  refine (ih e.args[j] hmem (by have:=U6 hmem; have:=OU e; omega) _).use ?_
  simp -implicitDefEqProofs only [AX,AZ,DU,DZ,AU,A9,AL,AO,AJ,BA,AR,AC,AA,AY,AQ,BD,BB,A7,BN,AXA,AB,CR,AV0,↓reduceIte,Nat.reduceEqDiff,Option.getD_some,Bool.not_false,enP,f7,f8,f9,CB (show j < 9223372036854775807 by omega)]
  refine ⟨n - 1,by omega,j+1,by omega,?_,trivial,trivial,rfl,_,by rw [List.append_assoc]⟩
  rw [ADF _ _ hj']
  congr 1
  omega
 ·have hj' : ¬ j < e.args.length:=by simpa using hlt
  rw [List.take_of_length_le (by omega)] at f3
  rw [AE2] at hdw ⊢
  simp -implicitDefEqProofs only [A8,AX,BJ,CU,AZ,DR,EB,EF,CK,AU,A9,AL,AO,AJ,BA,AR,AC,AA,AY,AQ,BD,BB,A7,BN,AB,CR,↓reduceIte,Nat.reduceEqDiff,Option.getD_some,Bool.not_false,enP,f3,CB (show deps e.args < 9223372036854775807 by omega)]
  exact ⟨trivial,x,rfl⟩
/-- what Valid returns -/
def exE (e:Ex):Int:=if errs (pre e)=0∧(24 < dep e∨400 < (pre e).length) then 2 else errs (pre e)
theorem AEX (G:Nat→AV) (hG:GOk G) (e:Ex) (h:Hp) (hw:wt e≤1048576):PCall (En G) 151 [.agg (F7 e)] h (.int .i64 (exE e)):=by
 refine ACalls.pure0 rfl ?_
 refine BX (H:=Hint.none) (enM G) Tryz.func151 rfl (by kernel_rfl) (by kernel_rfl) (Nat.le_of_ble_eq_true (by kernel_rfl)) ?_
 show awp _ _ _ _ _ (EJ _ [.tmp 2] _)
 have hg:=CQ (h ++ [ABlk.live 4 [F7 e]]) (.live 1 [[.int .i64 0]])
 have hs:(h ++ [ABlk.live 4 [F7 e]] ++ [ABlk.live 1 [[.int .i64 0]]]).set (h ++ [ABlk.live 4 [F7 e]]).length (.live 1 [[.int .i64 0]])=h ++ [ABlk.live 4 [F7 e]] ++ [ABlk.live 1 [[.int .i64 0]]]:=YH _ _ _
 have hb:=C9 (x:=ABlk.live 1 [[.int .i64 0]]) (CQ h (.live 4 [F7 e]))
 simp -implicitDefEqProofs only [A8,AX,AZ,AU,A9,AL,AO,AJ,BA,AR,AC,EQ,AA,AY,AQ,BS,BD,A7,FL,EW,BL,EC,KO,BV,BR,BO,AB,DF,BC,List.map_cons,List.map_nil,List.append_nil,↓reduceIte,Nat.reduceEqDiff,Option.getD_some,Bool.not_false,enP,Option.getD_none,bxE,AZY,TH AVK (RG _ _) hg,hs,UT hb]
 refine (ACC G 197 _ _ _ e (by omega) (fun x hx=>AG9 G hG x (by have:=APA hx; omega)) _ 0 hg).mono ?_
 rintro v h' ⟨hch,hc1⟩
 rw [AF5] at hc1
 have hb':=hch.get hb (by simp)
 have hab:=(((Chg.app _ h _).trans (Chg.app _ _ _)).trans hch).above (show h.length≤(h ++ [ABlk.live 4 [F7 e]]).length by simp)
 simp -implicitDefEqProofs only [A8,AX,AZ,AU,A9,BH,BQ,BZ,AL,AO,AJ,BA,AR,AC,AA,AY,AQ,BD,BB,BL,BN,AB,D9,↓reduceIte,Nat.reduceEqDiff,Option.getD_some,Bool.not_false,enP,KG ARB hc1]
 rcases he:(errs (pre e) == 0) with _ | _
 ·simp -implicitDefEqProofs only [A8,AX,BK,BJ,BF,AZ,CK,DL,AU,A9,BH,BQ,BZ,IQ,PE,AL,AO,AJ,BA,AR,AC,AA,EM,AY,AQ,BI,A7,CF,DK,BL,AB,↓reduceIte,Nat.reduceEqDiff,Option.getD_some,Bool.not_false,enP,KG ARB hc1]
  have:errs (pre e)≠0:=by simpa using he
  exact ⟨by unfold exE; rw [if_neg (fun hh=>this hh.1)],hab⟩
 have he0:errs (pre e)=0:=by simpa using he
 simp -implicitDefEqProofs only [BH,BQ,BZ,FZ,AL,AO,AJ,BA,AR,AC,AA,AY,BS,BL,BV,BR,AB,List.map_cons,List.map_nil,List.append_nil,↓reduceIte,Nat.reduceEqDiff,Option.getD_some,Bool.not_false,enP,UT hb']
 refine (AJR G e (by omega) _).use ?_
 simp -implicitDefEqProofs only [BH,BQ,BZ,FZ,AL,AO,AJ,BA,AR,AC,AA,AY,AQ,BD,BB,BN,AB,EK,↓reduceIte,Nat.reduceEqDiff,Option.getD_some,Bool.not_false,enP]
 refine GJ (fun hd => ?_) (fun hd => ?_)
 ·simp -implicitDefEqProofs only [A8,AX,BJ,BF,AZ,CJ,CK,DI,AU,A9,BH,BQ,BZ,FZ,FN,AL,AO,AJ,BA,AR,AC,AA,EM,AY,AQ,BD,BI,A7,CF,DJ,↓reduceIte,Nat.reduceEqDiff,Option.getD_some,Bool.not_false,hd]
  exact ⟨by unfold exE; rw [if_pos ⟨he0,.inl (by simp at hd; omega)⟩],hab⟩
 simp -implicitDefEqProofs only [BH,BQ,BZ,EH,AL,AO,AJ,BA,AR,AC,AA,AY,BS,BL,BV,BR,AB,List.map_cons,List.map_nil,List.append_nil,↓reduceIte,Nat.reduceEqDiff,Option.getD_some,Bool.not_false,enP,hd,UT hb']
 refine (AMN G e _ (by omega)).use ?_
 simp -implicitDefEqProofs only [BF,AZ,AU,A9,BH,BQ,BZ,FZ,EH,AL,AO,AJ,BA,AR,AC,AA,AY,AQ,BD,BI,CF,DJ,DK,BN,AB,EK,↓reduceIte,Nat.reduceEqDiff,Option.getD_some,Bool.not_false,enP]
 refine CG (fun hn => ?_) (fun hn => ?_)
 ·simp -implicitDefEqProofs only [A8,AX,BJ,AZ,CJ,CK,AU,A9,AL,AO,AJ,BA,AR,AC,AA,AQ,BD,A7,↓reduceIte,Option.getD_some,Bool.not_false]
  exact ⟨by unfold exE; rw [if_pos ⟨he0,.inr (by simp at hn; omega)⟩],hab⟩
 ·simp -implicitDefEqProofs only [A8,AX,BK,BJ,AZ,CK,AU,A9,AL,AO,AJ,BA,AR,AC,AA,AY,A7,BL,AB,↓reduceIte,Nat.reduceEqDiff,Option.getD_some,Bool.not_false,enP,KG ARB hc1]
  exact ⟨by unfold exE; rw [if_neg (fun hh=>by simp at hn hd; omega)],hab⟩
end Go.Proofs.YtocilianjfhifaaGreatDoor.Cov
/- The reference's walk: see, over, Valid; no condition. -/
set_option linter.unusedSimpArgs false
set_option maxRecDepth 8000
namespace Go.Proofs.YtocilianjfhifaaGreatDoor.Cov
open Go Go.Proofs Go.Proofs.YtocilianjfhifaaGreatDoor.Sm Go.Proofs.YtocilianjfhifaaGreatDoor.Bins Go.RowKit

theorem SN {E:Env} {H:Hint} {x y:Code} {F:Fr} {h:Hp} {Q:AEx→Fr→Hp→Prop} {b:Bool} (N R:Fr→Hp→Prop) (h1:b=true→awp E H x F h (ASU N R)) (h2:b=false→awp E H y F h (ASU N R)) (hn : ∀ F h,N F h→Q .normal F h) (hr : ∀ F h,R F h→Q .ret F h) :
 AA4 E H x y F h Q (.bool b):=⟨fun e=>AMA N R (h1 e) hn hr,fun e=>AMA N R (h2 e) hn hr⟩
def isB (v:AV) (b:Nat):Prop:=match v with
 | .own b' _ _=>b'=b
 | _=>False
/-- a list of strings that is the walk's own -/
def sv (h:Hp) (m:Nat) (v:AV):Prop := ∃ vs:List ByteArray,vs.length≤m∧((vs = []∧∃ k,v = .sl .nil k [])∨∃ b,v = .own b 0 vs.length∧h[b]? = some (.live 1 (vs.map encStr)))
theorem AS9 (G:Nat→AV) (k:Nat) (v:ByteArray) (h:Hp):PCall (En G) 226 [.sl .nil k [],.str v] h (.bool false):=by
 refine BX (H:=Hint.none) (enM G) Tryz.func226 rfl (by kernel_rfl) (by kernel_rfl) (Nat.le_of_ble_eq_true (by kernel_rfl)) ?_
 show awp _ _ _ _ _ (EJ _ [.tmp 4] _)
 simp -implicitDefEqProofs only [A8,BM,AX,AZ,AU,A9,AL,AO,AJ,BA,AR,AC,AQ,BD,BI,A7,Option.getD_some,Bool.not_false,enP]
 refine CS (fun n F H=>F 0 = .sl .nil k []∧F 5 = .int .i64 0∧H=h) 0 ⟨rfl,rfl,rfl⟩ ?_
 rintro n F H ⟨f0,f5,rfl⟩
 simp -implicitDefEqProofs only [A8,AX,BF,AZ,AU,A9,AL,AO,AJ,BA,AR,AC,AA,AY,BB,BN,C8,AB,CO,↓reduceIte,Nat.reduceEqDiff,Option.getD_some,Bool.not_false,enP,ALG,f0,f5,List.length_nil]
 have:decide ((0:Int) < ((0:Nat):Int))=false:=by simp
 simp -implicitDefEqProofs only [A8,AX,BJ,CU,AZ,DR,EB,EF,CK,DL,AU,A9,AL,AO,AJ,BA,AR,AC,AA,AQ,BI,A7,↓reduceIte,Option.getD_some,Bool.not_false,this]
 exact ⟨trivial,trivial⟩
theorem AD2 {α:Type} {f:α→List AV} {xs:List α} {k:Nat} (hk:k < xs.length):(xs.map f)[k]? = some (f xs[k]):=by
 rw [List.getElem?_map,List.getElem?_eq_getElem hk]; rfl
theorem H6 {h x:Hp} {y:ABlk} {b:Nat} (hb:h[b]? = some y):(h ++ x)[b]? = some y:=by
 rw [List.getElem?_append_left (CE hb)]; exact hb
theorem AS8 (G:Nat→AV) (xs:List ByteArray) (b:Nat) (v:ByteArray) (h:Hp) (hb:h[b]? = some (.live 1 (xs.map encStr))) (hl:xs.length≤1099511627776) :
  PCall (En G) 226 [.own b 0 xs.length,.str v] h (.bool (I5 xs v)):=by
 refine BX (H:=Hint.none) (enM G) Tryz.func226 rfl (by kernel_rfl) (by kernel_rfl) (Nat.le_of_ble_eq_true (by kernel_rfl)) ?_
 show awp _ _ _ _ _ (EJ _ [.tmp 4] _)
 simp -implicitDefEqProofs only [A8,BM,AX,AZ,AU,A9,AL,AO,AJ,BA,AR,AC,AQ,BD,BI,A7,Option.getD_some,Bool.not_false,enP]
 refine CS (fun n F H => ∃ k,n+k=xs.length∧F 0 = .own b 0 xs.length∧F 1 = .str v∧F 5 = .int .i64 (k:Nat)∧H=h∧I5 xs v=I5 (xs.drop k) v) xs.length ⟨0,by simp,rfl,rfl,rfl,rfl,rfl⟩ ?_
 rintro n F H ⟨k,hk,f0,f1,f5,rfl,hin⟩
 simp -implicitDefEqProofs only [A8,AX,BF,AZ,AU,A9,AL,AO,AJ,BA,AR,AC,AA,AY,BB,BN,C8,AB,CO,↓reduceIte,Nat.reduceEqDiff,Option.getD_some,Bool.not_false,enP,ALG,f0,f1,f5]
 refine CG (fun hc => ?_) (fun hc => ?_)
 ·have hc':k < xs.length:=by simpa using hc
  have hs:I5 (xs.drop k) v=((v.toList == xs[k].toList) || I5 (xs.drop (k+1)) v):=KJ _ xs k hc'
  have l1:D7 Tryz.prog H 9 (.ptr b k 0)=some (.str xs[k]):=by rw [DX ag9 hb (row:=encStr xs[k]) (AD2 hc')]; rfl
  simp -implicitDefEqProofs only [A8,BM,AX,BK,BF,AZ,AU,A9,AL,AO,AJ,BA,AR,AC,AA,AY,BB,BL,BN,BU,AB,LZ,↓reduceIte,Nat.reduceEqDiff,Nat.zero_add,Option.getD_some,Bool.not_false,enP,APR,f0,f1,f5,Q7 hb hc',l1]
  refine CG (fun hb => ?_) (fun hb => ?_)
  ·simp -implicitDefEqProofs only [A8,AX,BJ,AZ,CJ,D6,EZ,CK,AU,A9,AL,AO,AJ,BA,AR,AC,AA,AQ,BI,A7,↓reduceIte,Option.getD_some,Bool.not_false]
   refine ⟨?_,trivial⟩
   rw [hin,hs,show (v.toList == xs[k].toList)=true by rw [BEq.comm]; exact hb]; rfl
  ·simp -implicitDefEqProofs only [AX,BK,AZ,DU,DZ,AU,A9,AL,AO,AJ,BA,AR,AC,AA,AY,AQ,BD,BB,A7,BN,AB,CR,↓reduceIte,Nat.reduceEqDiff,Option.getD_some,Bool.not_false,enP,f5,CB (show k < 9223372036854775807 by omega)]
   refine ⟨n - 1,by omega,k+1,by omega,f0,f1,rfl,trivial,?_⟩
   rw [hin,hs,show (v.toList == xs[k].toList)=false by rw [BEq.comm]; exact hb]; rfl
 ·have hc' : ¬ k < xs.length:=by simpa using hc
  simp -implicitDefEqProofs only [A8,AX,BJ,CU,AZ,DR,EB,EF,CK,AU,A9,AL,AO,AJ,BA,AR,AC,AA,AQ,BI,A7,↓reduceIte,Option.getD_some,Bool.not_false]
  exact ⟨by rw [hin,List.drop_eq_nil_of_le (by omega)]; rfl,trivial⟩
theorem APV (G:Nat→AV) {h:Hp} {m:Nat} {v:AV} (s:ByteArray) (hv:sv h m v) (hm:m≤8388608) : ∃ r,PCall (En G) 226 [v,.str s] h (.bool r):=by
 obtain ⟨vs,hl,⟨_,k,rfl⟩ | ⟨b,rfl,hb⟩⟩:=hv
 ·exact ⟨_,AS9 G k s h⟩
 ·exact ⟨_,AS8 G vs b s h hb (by omega)⟩
theorem AU8 (h:Hp) (s:ByteArray):FC Tryz.prog false h 179 1 [(0,.str s)]=some (.sl .full 1 [[.str s]],h):=by kernel_rfl
theorem AQ6 {h:Hp} {m:Nat} {v:AV} (s:ByteArray) (hv:sv h m v) (hm:m≤8388608) : ∃ v' h',F5 Tryz.prog true h 179 179 v (.sl .full 1 [[.str s]])=some (v',h')∧sv h' (m+1) v'∧(∀ b,isB v' b→b=h.length) ∧
  h.length≤h'.length∧∀ b,b < h.length→¬ isB v b→h'[b]? = h[b]? := by
 obtain ⟨vs,hl,⟨rfl,k,rfl⟩ | ⟨b,rfl,hb⟩⟩:=hv
 ·refine ⟨_,_,V4 AUF sz9 AUD AU3 (J7 h .full 1 [[.str s]]) (by simp) (JY (by simp) (by omega)),⟨[s],by simp,.inr ⟨h.length,rfl,CQ _ _⟩⟩,fun b hb=>hb.symm,by simp,fun b hb _=>List.getElem?_append_left hb⟩
 ·have hc:JL h (.own b 0 vs.length)=some (1,vs.map encStr):=by
   rw [OO hb (by simp),List.drop_zero,List.take_of_length_le (by simp)]
  refine ⟨_,_,Y2 AUF sz9 AUD AU3 hc (J7 h .full 1 [[.str s]]) (by simp) (JY (by simp; omega) (by omega)),⟨vs ++ [s],by simp; omega,.inr ⟨h.length,by simp,by simp [encStr]⟩⟩,fun b hb=>hb.symm,by simp,fun o ho hn => ?_⟩
  rw [List.getElem?_append_left (by simpa using ho)]
  have hn' : ¬ b=o:=hn
  rw [List.getElem?_set,if_neg hn']
/-- the walk's block -/
def LJ (n dd:Nat) (f:Int) (v1 v2:AV):List AV := [.int .i64 n,.int .i64 dd,.int .i64 f,v1,v2]
structure St (h:Hp) (c m1 m2 n dd:Nat) (f:Int) (v1 v2:AV):Prop where
 w:h[c]? = some (.live 5 [LJ n dd f v1 v2])
 s1:sv h m1 v1
 s2:sv h m2 v2
 ap : ∀ b,isB v1 b→¬ isB v2 b
theorem sv.b {h:Hp} {m:Nat} {v:AV} {b:Nat} (hs:sv h m v) (hb:isB v b) : ∃ vs:List ByteArray,h[b]? = some (.live 1 (vs.map encStr)):=by
 obtain ⟨vs,_,⟨_,k,rfl⟩ | ⟨b',rfl,h'⟩⟩:=hs
 ·exact hb.elim
 ·cases hb; exact ⟨vs,h'⟩
theorem sv.ne {h:Hp} {m b c:Nat} {v:AV} {row:List AV} (hs:sv h m v) (hc:h[c]? = some (.live 5 [row])) (hb:isB v b):b≠c:=by
 intro e; subst e
 obtain ⟨vs,h'⟩:=hs.b hb
 rw [h'] at hc; cases hc
theorem sv.keep {h h':Hp} {m m':Nat} {v:AV} (hs:sv h m v) (hm:m≤m') (hk : ∀ b,isB v b→h'[b]? = h[b]?):sv h' m' v:=by
 obtain ⟨vs,hl,⟨e,k,rfl⟩ | ⟨b,rfl,hb⟩⟩:=hs
 ·exact ⟨vs,by omega,.inl ⟨e,k,rfl⟩⟩
 ·exact ⟨vs,by omega,.inr ⟨b,rfl,by rw [hk b rfl]; exact hb⟩⟩
/-- what the walk leaves as it was -/
structure Ch (c:Nat) (v1 v2:AV) (h:Hp) (v1' v2':AV) (h':Hp):Prop where
 len:h.length≤h'.length
 get : ∀ b,b < h.length→b≠c→¬ isB v1 b→¬ isB v2 b→h'[b]? = h[b]?
 n1 : ∀ b,isB v1' b→isB v1 b∨h.length≤b
 n2 : ∀ b,isB v2' b→isB v2 b∨h.length≤b
theorem Ch.refl (c:Nat) (v1 v2:AV) (h:Hp):Ch c v1 v2 h v1 v2 h:=⟨Nat.le_refl _,fun _ _ _ _ _=>rfl,fun _ h => .inl h,fun _ h => .inl h⟩
theorem Ch.trans {c:Nat} {v1 v2 u1 u2 w1 w2:AV} {a b d:Hp} (h1:Ch c v1 v2 a u1 u2 b) (h2:Ch c u1 u2 b w1 w2 d):Ch c v1 v2 a w1 w2 d:=by
 refine ⟨Nat.le_trans h1.len h2.len,fun i hi hc hv hu => ?_,fun i hi => ?_,fun i hi => ?_⟩
 ·rw [h2.get i (Nat.lt_of_lt_of_le hi h1.len) hc (fun e=>(h1.n1 i e).elim hv (fun e=>by omega)) (fun e=>(h1.n2 i e).elim hu (fun e=>by omega)),h1.get i hi hc hv hu]
 ·rcases h2.n1 i hi with h | h
  ·exact h1.n1 i h
  ·exact .inr (Nat.le_trans h1.len h)
 ·rcases h2.n2 i hi with h | h
  ·exact h1.n2 i h
  ·exact .inr (Nat.le_trans h1.len h)
theorem Ch.app (c:Nat) (v1 v2:AV) (h x:Hp):Ch c v1 v2 h v1 v2 (h ++ x):=⟨by simp,fun _ hi _ _ _=>List.getElem?_append_left hi,fun _ h => .inl h,fun _ h => .inl h⟩
theorem Ch.set (c:Nat) (v1 v2:AV) (h:Hp) (x:ABlk):Ch c v1 v2 h v1 v2 (h.set c x):=⟨by simp,fun _ _ hc _ _=>by rw [List.getElem?_set,if_neg (fun e=>hc e.symm)],fun _ h => .inl h,fun _ h => .inl h⟩
theorem St.app {h:Hp} {c m1 m2 n dd:Nat} {f:Int} {v1 v2:AV} (s:St h c m1 m2 n dd f v1 v2) (x:Hp):St (h ++ x) c m1 m2 n dd f v1 v2:=by
 have keep : ∀ v m,sv h m v→sv (h ++ x) m v:=fun v m hv=>hv.keep (Nat.le_refl _) fun b hb=>by
  obtain ⟨vs,h'⟩:=hv.b hb
  exact List.getElem?_append_left (CE h')
 exact ⟨H6 s.w,keep _ _ s.s1,keep _ _ s.s2,s.ap⟩
theorem St.set {h:Hp} {c m1 m2 n dd:Nat} {f:Int} {v1 v2:AV} (s:St h c m1 m2 n dd f v1 v2) (n' dd':Nat) (f':Int):St (h.set c (.live 5 [LJ n' dd' f' v1 v2])) c m1 m2 n' dd' f' v1 v2:=by
 have keep : ∀ v m,sv h m v→sv (h.set c (.live 5 [LJ n' dd' f' v1 v2])) m v:=fun v m hv=>hv.keep (Nat.le_refl _) fun b hb=>by
  rw [List.getElem?_set,if_neg (fun e=>hv.ne s.w hb e.symm)]
 exact ⟨EI s.w,keep _ _ s.s1,keep _ _ s.s2,s.ap⟩
section
variable {h:Hp} {c m1 m2 n dd:Nat} {f:Int} {v1 v2:AV} (s:St h c m1 m2 n dd f v1 v2)
include s
theorem St.l0:D7 Tryz.prog h 3 (.ptr c 0 0)=some (.int .i64 n):=by rw [DX ag3 s.w (row:=LJ n dd f v1 v2) rfl]; rfl
theorem St.l1:D7 Tryz.prog h 3 (.ptr c 0 1)=some (.int .i64 dd):=by rw [DX ag3 s.w (row:=LJ n dd f v1 v2) rfl]; rfl
theorem St.l2:D7 Tryz.prog h 38 (.ptr c 0 2)=some (.int .i64 f):=by rw [DX ARB s.w (row:=LJ n dd f v1 v2) rfl]; rfl
theorem St.l3:D7 Tryz.prog h 179 (.ptr c 0 3)=some v1:=by rw [DX ARD s.w (row:=LJ n dd f v1 v2) rfl]; rfl
theorem St.l4:D7 Tryz.prog h 179 (.ptr c 0 4)=some v2:=by rw [DX ARD s.w (row:=LJ n dd f v1 v2) rfl]; rfl
theorem St.t0 (x:Nat):FQ Tryz.prog h 3 (.ptr c 0 0) (.int .i64 x)=some (h.set c (.live 5 [LJ x dd f v1 v2])):=by
 rw [KV (RG _ _) sz3 s.w (row:=LJ n dd f v1 v2) rfl (by simp [LJ])]; rfl
theorem St.t1 (x:Nat):FQ Tryz.prog h 3 (.ptr c 0 1) (.int .i64 x)=some (h.set c (.live 5 [LJ n x f v1 v2])):=by
 rw [KV (RG _ _) sz3 s.w (row:=LJ n dd f v1 v2) rfl (by simp [LJ])]; rfl
theorem St.t2 (x:Int):FQ Tryz.prog h 38 (.ptr c 0 2) (.int .i64 x)=some (h.set c (.live 5 [LJ n dd x v1 v2])):=by
 rw [KV (RG _ _) AVK s.w (row:=LJ n dd f v1 v2) rfl (by simp [LJ])]; rfl
end

/-- appending to the one list or the other, and writing it down -/
theorem St.app3 {h:Hp} {c m1 m2 n dd:Nat} {f:Int} {v1 v2:AV} (s:St h c m1 m2 n dd f v1 v2) (x:ByteArray) (hm:m1≤8388608) :
  ∃ v' h',F5 Tryz.prog true h 179 179 v1 (.sl .full 1 [[.str x]])=some (v',h')∧FQ Tryz.prog h' 179 (.ptr c 0 3) v'=some (h'.set c (.live 5 [LJ n dd f v' v2])) ∧
    St (h'.set c (.live 5 [LJ n dd f v' v2])) c (m1+1) m2 n dd f v' v2∧Ch c v1 v2 h v' v2 (h'.set c (.live 5 [LJ n dd f v' v2])):=by
 obtain ⟨v',h',ha,hs,hb,hl,hk⟩:=AQ6 x s.s1 hm
 have hc1 : ¬ isB v1 c:=fun e=>s.s1.ne s.w e rfl
 have hc2 : ¬ isB v2 c:=fun e=>s.s2.ne s.w e rfl
 have hcl:=CE s.w
 have hw:h'[c]? = some (.live 5 [LJ n dd f v1 v2]):=by rw [hk c hcl hc1]; exact s.w
 have hvc : ∀ b,isB v' b→b≠c:=fun b hb' e=>by have:=hb b hb'; omega
 have hac:IV v'=some [v']:=by
  obtain ⟨vs,_,⟨_,k,rfl⟩ | ⟨b,rfl,_⟩⟩:=hs <;> rfl
 refine ⟨v',h',ha,by rw [KV hac AUH hw (row:=LJ n dd f v1 v2) rfl (by simp [LJ])]; rfl,⟨EI hw,hs.keep (Nat.le_refl _) fun b hb' => ?_,s.s2.keep (Nat.le_refl _) fun b hb' => ?_,fun b h1 h2 => ?_⟩,⟨by simpa using hl,fun b hbl hne h1 h2 => ?_,fun b hb' => .inr (by rw [hb b hb']; exact Nat.le_refl _),fun b hb' => .inl hb'⟩⟩
 ·rw [List.getElem?_set,if_neg (fun e=>hvc b hb' e.symm)]
 ·obtain ⟨_,hx⟩:=s.s2.b hb'
  rw [List.getElem?_set,if_neg (fun e=>hc2 (by rw [e]; exact hb')),hk b (CE hx) (fun e=>s.ap b e hb')]
 ·obtain ⟨_,hx⟩:=s.s2.b h2
  have:=hb b h1; have:=CE hx; omega
 ·rw [List.getElem?_set,if_neg (fun e=>hne e.symm),hk b hbl h1]
theorem St.app4 {h:Hp} {c m1 m2 n dd:Nat} {f:Int} {v1 v2:AV} (s:St h c m1 m2 n dd f v1 v2) (x:ByteArray) (hm:m2≤8388608) :
  ∃ v' h',F5 Tryz.prog true h 179 179 v2 (.sl .full 1 [[.str x]])=some (v',h')∧FQ Tryz.prog h' 179 (.ptr c 0 4) v'=some (h'.set c (.live 5 [LJ n dd f v1 v'])) ∧
    St (h'.set c (.live 5 [LJ n dd f v1 v'])) c m1 (m2+1) n dd f v1 v'∧Ch c v1 v2 h v1 v' (h'.set c (.live 5 [LJ n dd f v1 v'])):=by
 obtain ⟨v',h',ha,hs,hb,hl,hk⟩:=AQ6 x s.s2 hm
 have hc1 : ¬ isB v1 c:=fun e=>s.s1.ne s.w e rfl
 have hc2 : ¬ isB v2 c:=fun e=>s.s2.ne s.w e rfl
 have hcl:=CE s.w
 have hw:h'[c]? = some (.live 5 [LJ n dd f v1 v2]):=by rw [hk c hcl hc2]; exact s.w
 have hvc : ∀ b,isB v' b→b≠c:=fun b hb' e=>by have:=hb b hb'; omega
 have hac:IV v'=some [v']:=by
  obtain ⟨vs,_,⟨_,k,rfl⟩ | ⟨b,rfl,_⟩⟩:=hs <;> rfl
 refine ⟨v',h',ha,by rw [KV hac AUH hw (row:=LJ n dd f v1 v2) rfl (by simp [LJ])]; rfl,⟨EI hw,s.s1.keep (Nat.le_refl _) fun b hb' => ?_,hs.keep (Nat.le_refl _) fun b hb' => ?_,fun b h1 h2 => ?_⟩,⟨by simpa using hl,fun b hbl hne h1 h2 => ?_,fun b hb' => .inl hb',fun b hb' => .inr (by rw [hb b hb']; exact Nat.le_refl _)⟩⟩
 ·obtain ⟨_,hx⟩:=s.s1.b hb'
  rw [List.getElem?_set,if_neg (fun e=>hc1 (by rw [e]; exact hb')),hk b (CE hx) (fun e=>s.ap b hb' e)]
 ·rw [List.getElem?_set,if_neg (fun e=>hvc b hb' e.symm)]
 ·obtain ⟨_,hx⟩:=s.s1.b h1
  have:=hb b h2; have:=CE hx; omega
 ·rw [List.getElem?_set,if_neg (fun e=>hne e.symm),hk b hbl h2]
def TU (z:Int) (xs:List Ex):Int:=xs.foldl (fun z e=>if z=0 then LV e else z) z
theorem AHE (z:Int) (xs ys:List Ex):TU z (xs ++ ys)=TU (TU z xs) ys:=List.foldl_append
end Go.Proofs.YtocilianjfhifaaGreatDoor.Cov
/- The reference's Valid of expressions; no condition. -/
set_option linter.unusedSimpArgs false
set_option maxRecDepth 8000
namespace Go.Proofs.YtocilianjfhifaaGreatDoor.Cov
open Go Go.Proofs Go.Proofs.YtocilianjfhifaaGreatDoor.Sm Go.Proofs.YtocilianjfhifaaGreatDoor.Bins Go.RowKit

theorem St.weak {h:Hp} {c m1 m2 m1' m2' n dd:Nat} {f:Int} {v1 v2:AV} (s:St h c m1 m2 n dd f v1 v2) (h1:m1≤m1') (h2:m2≤m2'):St h c m1' m2' n dd f v1 v2 :=
 ⟨s.w,s.s1.keep h1 fun _ _=>rfl,s.s2.keep h2 fun _ _=>rfl,s.ap⟩
def Md (e:Ex) (c d:Nat) (v1 v2:AV) (h:Hp) (m1 m2 n dd:Nat) (f:Int) (F:Nat→AV) (H:Hp):Prop :=
 F 0 = .ptr c 0 0∧F 2 = .int .i64 (d:Nat)∧F 4 = .ptr h.length 0 0∧∃ u1 u2,St H c m1 m2 n dd f u1 u2∧Ch c v1 v2 (h ++ [.live 4 [F7 e]]) u1 u2 H
theorem AGE (xs:List Ex):(KT xs).length≤wts xs:=by
 induction xs with
 | nil=>simp [KT,wts]
 | cons x xs ih=>have:=AO9 x; simp only [KT,wts,List.length_append]; omega
theorem AFH : ∀ (xs:List Ex) (j:Nat) (hj:j < xs.length),wts (xs.take j)+wt xs[j]≤wts xs
 | x :: xs,0,_=>by simp [wts]
 | x :: xs,j+1,h=>by
   have:=AFH xs j (by simpa using h)
   simp only [List.take_succ_cons,wts,List.getElem_cons_succ]; omega
theorem VW : ∀ (xs:List Ex) (j:Nat),deps (xs.take j)≤wts xs
 | [],j=>by simp [deps,wts]
 | x :: xs,0=>by simp [deps]
 | x :: xs,j+1=>by
   have h1:=VW xs j
   have h2:=AQN x
   simp only [List.take_succ_cons,deps,wts]; omega
theorem AR2 (G:Nat→AV) (c:Nat) (e:Ex):wt e≤1048576→∀ (h:Hp) (d n dd:Nat) (f:Int) (v1 v2:AV),d+wt e≤8388608→n+wt e≤8388608→dd≤16777216→St h c n n n dd f v1 v2 →
  ACalls (En G) 193 [.ptr c 0 0,.agg (F7 e),.int .i64 (d:Nat)] h fun _ h' => ∃ u1 u2,St h' c (n+(pre e).length) (n+(pre e).length) (n+(pre e).length) (max dd (d+deps e.args)) (TU f (pre e)) u1 u2∧Ch c v1 v2 h u1 u2 h':=by
 induction e using Ex.induct with | h e ih => ?_
 intro hw h d n dd f v1 v2 hd hn hdd s
 have hal:e.args.length≤wts e.args:=YF e.args
 have hwe:=OU e
 have hcl:=CE s.w
 have hbox : ∀ (u1 u2:AV) (H:Hp),Ch c v1 v2 (h ++ [.live 4 [F7 e]]) u1 u2 H→H[h.length]? = some (.live 4 [F7 e]):=by
  intro u1 u2 H hC
  rw [hC.get h.length (by simp) (by omega) (fun hb => ?_) (fun hb => ?_)]
  ·exact CQ _ _
  ·obtain ⟨_,hx⟩:=s.s1.b hb
   have:=CE hx; omega
  ·obtain ⟨_,hx⟩:=s.s2.b hb
   have:=CE hx; omega
 have lb0 : ∀ H:Hp,H[h.length]? = some (.live 4 [F7 e])→D7 Tryz.prog H 3 (.ptr h.length 0 0)=some (.int .i64 e.op):=fun H hH=>by rw [DX ag3 hH (row:=F7 e) rfl,J6]
 have lb2 : ∀ H:Hp,H[h.length]? = some (.live 4 [F7 e])→D7 Tryz.prog H 9 (.ptr h.length 0 2)=some (.str e.name):=fun H hH=>by rw [DX ag9 hH (row:=F7 e) rfl,QM]
 have lb3 : ∀ H:Hp,H[h.length]? = some (.live 4 [F7 e])→D7 Tryz.prog H 51 (.ptr h.length 0 3)=some (.sl e.m 4 (e.args.map F7)):=fun H hH=>by rw [DX AOB hH (row:=F7 e) rfl,ADE]
 refine BX (H:=hint [56,85] []) (enM G) Tryz.func193 rfl (by kernel_rfl) (by kernel_rfl) (Nat.le_of_ble_eq_true (by kernel_rfl)) ?_
 show awp _ _ _ _ _ (EJ _ [] _)
 have s0:=s.app [.live 4 [F7 e]]
 have c0:=Ch.app c v1 v2 h [.live 4 [F7 e]]
 simp -implicitDefEqProofs only [CL,List.contains_cons,List.contains_nil,Nat.reduceBEq,Bool.or_false,A8,AX,AZ,AU,A9,AJ,BA,AR,AC,EQ,AA,AY,AQ,BD,BB,EW,BL,EC,BN,BG,BO,AB,DF,CR,BC,BP,↓reduceIte,Nat.reduceEqDiff,Nat.add_zero,Nat.zero_add,Option.getD_some,Bool.not_false,enP,AEU,AET,DY,Option.getD_none,H9,JH,bxE,s0.l0,CB (show n < 9223372036854775807 by omega),s0.t0]
 have s1:=s0.set (n+1) dd f
 have c1:=Ch.set c v1 v2 (h ++ [.live 4 [F7 e]]) (.live 5 [LJ (n+1) dd f v1 v2])
 clear s0
 generalize (h ++ [ABlk.live 4 [F7 e]]).set c (.live 5 [LJ (n+1) dd f v1 v2])=H1 at s1 c1 ⊢
 simp -implicitDefEqProofs only [CL,List.contains_cons,List.contains_nil,Nat.reduceBEq,Bool.or_false,BF,AZ,AU,A9,AJ,BA,AR,AC,AA,AY,BN,AB,EK,↓reduceIte,Nat.reduceEqDiff,Option.getD_some,Bool.not_false,enP,DY,s1.l1]
 refine SN (Md e c d v1 v2 h n n (n+1) (max dd d) f) (fun _ _=>False) (fun hb => ?_) (fun hb => ?_) ?_ (fun _ _ hh=>hh.elim)
 ·simp -implicitDefEqProofs only [CL,List.contains_cons,List.contains_nil,Nat.reduceBEq,Bool.or_false,AX,UB,AU,A9,AJ,BA,AR,AC,EQ,AA,AY,BB,EC,BG,AB,DF,BC,BP,↓reduceIte,Nat.reduceEqDiff,Nat.zero_add,Option.getD_some,Bool.not_false,enP,AET,DY,Option.getD_none,H9,JH,s1.t1]
  refine ⟨rfl,rfl,rfl,v1,v2,?_,c1.trans (Ch.set c _ _ _ _)⟩
  have:max dd d=d:=by simp at hb; omega
  rw [this]
  exact s1.set (n+1) d f
 ·simp -implicitDefEqProofs only [BK,UB]
  refine ⟨rfl,rfl,rfl,v1,v2,?_,c1⟩
  have:max dd d=dd:=by simp at hb; omega
  rw [this]
  exact s1
 clear s1 c1
 rintro F H ⟨f0,f2,f4,u1,u2,s,hC⟩
 simp -implicitDefEqProofs only [CL,List.contains_cons,List.contains_nil,Nat.reduceBEq,Bool.or_false,A8,AX,BF,AZ,AU,A9,AJ,BA,AR,AC,AA,AY,AQ,BD,BB,BL,BN,BG,AB,D9,↓reduceIte,Nat.zero_add,Option.getD_some,Bool.not_false,enP,VP,DY,H9,JH,f0,s.l2]
 refine SN (Md e c d v1 v2 h n n (n+1) (max dd d) (TU f [e])) (fun _ _=>False) (fun hb => ?_) (fun hb => ?_) ?_ (fun _ _ hh=>hh.elim)
 ·simp -implicitDefEqProofs only [CL,List.contains_cons,List.contains_nil,Nat.reduceBEq,Bool.or_false,AX,AU,AJ,BA,AR,AC,AA,AY,BS,BB,BL,BV,BR,AB,List.map_cons,List.map_nil,List.append_nil,↓reduceIte,Nat.reduceEqDiff,Option.getD_some,Bool.not_false,enP,DY,f0,f2,f4,UT (hbox _ _ _ hC)]
  refine (AMG G e _ (by omega)).use ?_
  simp -implicitDefEqProofs only [CL,List.contains_cons,List.contains_nil,Nat.reduceBEq,Bool.or_false,UB,AU,A9,AJ,BA,AR,AC,EQ,AA,AY,EC,BG,AB,DF,↓reduceIte,Nat.reduceEqDiff,Nat.zero_add,Option.getD_some,Bool.not_false,enP,VP,DY,Option.getD_none,H9,JH,s.t2,f0,f2,f4]
  refine ⟨f0,f2,f4,u1,u2,?_,hC.trans (Ch.set c _ _ _ _)⟩
  have:TU f [e]=LV e:=by
   have:f=0:=by simpa using hb
   subst this; rfl
  rw [this]
  exact s.set _ _ _
 ·simp -implicitDefEqProofs only [BK,UB]
  refine ⟨f0,f2,f4,u1,u2,?_,hC⟩
  have:TU f [e]=f:=by
   have:f≠0:=by simpa using hb
   show (if f=0 then LV e else f)=f
   rw [if_neg this]
  rw [this]; exact s
 clear f0 f2 f4 s hC
 rintro F H ⟨f0,f2,f4,u1,u2,s,hC⟩
 simp -implicitDefEqProofs only [A8,AZ]
 refine EG (by kernel_rfl) ?_
 have hB:=hbox _ _ _ hC
 refine ARO (fun F H=>(∃ b,F 47 = .bool b)∧Md e c d v1 v2 h n n (n+1) (max dd d) (TU f [e]) F H) ?_ ?_
 ·cases b2:(e.op == 2)
  ·simp -implicitDefEqProofs only [FJ,CL,List.contains_cons,List.contains_nil,Nat.reduceBEq,Bool.or_false,DT,CZ,EO,DV,EY,FR,ABL,ET,G6,EN,GK,DW,BZ,AA,EM,AY,AQ,BD,BI,CF,DK,BL,BN,BG,AB,D9,↓reduceIte,Nat.reduceEqDiff,Nat.reduceAdd,Nat.add_zero,Option.getD_some,enP,I1,f0,f2,f4,lb0 _ hB,b2]
   exact ⟨⟨_,rfl⟩,f0,f2,f4,u1,u2,s,hC⟩
  ·obtain ⟨r,hr⟩:=APV G e.name s.s1 (by omega)
   simp -implicitDefEqProofs only [FJ,CL,List.contains_cons,List.contains_nil,Nat.reduceBEq,Bool.or_false,DT,CZ,DV,EY,FR,QU,ET,EN,GK,ADV,DW,FP,FD,BZ,AA,AY,AQ,BS,BD,BL,BN,F9,BG,AB,D9,List.map_cons,List.map_nil,List.append_nil,↓reduceIte,Nat.reduceEqDiff,Nat.reduceAdd,Nat.add_zero,Nat.zero_add,Option.getD_some,enP,I1,O6,ALS,H9,M3,JH,f0,f2,f4,lb0 _ hB,lb2 _ hB,b2,s.l3]
   refine ⟨_,hr,?_⟩
   simp -implicitDefEqProofs only [FJ,CL,List.contains_cons,List.contains_nil,Nat.reduceBEq,Bool.or_false,DT,CZ,EO,DV,G6,AA,AY,AQ,BI,CF,DJ,AB,ER,↓reduceIte,Nat.reduceEqDiff,Nat.reduceAdd,Option.getD_some,f0,f2,f4]
   exact ⟨⟨_,rfl⟩,f0,f2,f4,u1,u2,s,hC⟩
 clear f0 f2 f4 s hC hB
 rintro F H ⟨⟨b,f47⟩,f0,f2,f4,u1,u2,s,hC⟩
 have hB:=hbox _ _ _ hC
 simp -implicitDefEqProofs only [BF,AZ,AY,f47]
 refine SN (Md e c d v1 v2 h (n+1) n (n+1) (max dd d) (TU f [e])) (fun _ _=>False) (fun hb => ?_) (fun hb => ?_) ?_ (fun _ _ hh=>hh.elim)
 ·obtain ⟨v',H',ha,ht,s',hC'⟩:=s.app3 e.name (by omega)
  refine EG (by kernel_rfl) ?_
  simp -implicitDefEqProofs only [FJ,E8,FI,CL,List.contains_cons,List.contains_nil,Nat.reduceBEq,Bool.or_false,DT,CZ,LD,EO,DV,ET,I7,EN,K8,DW,FX,UB,AA,AY,EA,BL,EC,BG,FT,BO,AB,DF,↓reduceIte,Nat.reduceEqDiff,Nat.reduceAdd,Nat.zero_add,Option.getD_some,enP,O6,ALS,Option.getD_none,H9,M3,JH,f0,f2,f4,lb2 _ hB,s.l3,AU8,ha,ht]
  exact ⟨f0,f2,f4,_,_,s',hC.trans hC'⟩
 ·simp -implicitDefEqProofs only [BK,UB]
  exact ⟨f0,f2,f4,_,_,s.weak (by omega) (by omega),hC⟩
 clear f0 f2 f4 s hC hB
 rintro F H ⟨f0,f2,f4,u1,u2,s,hC⟩
 have hB:=hbox _ _ _ hC
 simp -implicitDefEqProofs only [A8,AZ]
 refine EG (by kernel_rfl) ?_
 refine ARO (fun F H=>(∃ b,F 76 = .bool b)∧Md e c d v1 v2 h (n+1) n (n+1) (max dd d) (TU f [e]) F H) ?_ ?_
 ·obtain ⟨r,hr⟩:=APV G e.name s.s2 (by omega)
  cases b2:(e.op == 3)
  ·cases b3:(e.op == 24)
   ·simp -implicitDefEqProofs only [FJ,CL,List.contains_cons,List.contains_nil,Nat.reduceBEq,Bool.or_false,DT,CZ,EO,DV,EY,FR,NT,ABL,ET,G6,EN,GK,DW,BZ,AA,EM,AY,AQ,BD,BI,CF,DK,BL,BN,BG,AB,D9,↓reduceIte,Nat.reduceEqDiff,Nat.reduceAdd,Nat.add_zero,Option.getD_some,enP,I1,f0,f2,f4,lb0 _ hB,b2,b3]
    exact ⟨⟨_,rfl⟩,f0,f2,f4,u1,u2,s,hC⟩
   ·simp -implicitDefEqProofs only [FJ,CL,List.contains_cons,List.contains_nil,Nat.reduceBEq,Bool.or_false,DT,CZ,DV,EY,FR,QU,NT,ET,G6,EN,GK,ADV,DW,FP,FD,BZ,AA,AY,AQ,BS,BD,BI,CF,DK,BL,BN,F9,BG,AB,D9,List.map_cons,List.map_nil,List.append_nil,↓reduceIte,Nat.reduceEqDiff,Nat.reduceAdd,Nat.add_zero,Nat.zero_add,Option.getD_some,enP,I1,O6,AES,H9,M3,JH,f0,f2,f4,lb0 _ hB,lb2 _ hB,b2,b3,s.l4]
    refine ⟨_,hr,?_⟩
    simp -implicitDefEqProofs only [FJ,CL,List.contains_cons,List.contains_nil,Nat.reduceBEq,Bool.or_false,DT,CZ,EO,DV,G6,AA,AY,AQ,BI,CF,DJ,AB,ER,↓reduceIte,Nat.reduceEqDiff,Nat.reduceAdd,Option.getD_some,f0,f2,f4]
    exact ⟨⟨_,rfl⟩,f0,f2,f4,u1,u2,s,hC⟩
  ·simp -implicitDefEqProofs only [FJ,CL,List.contains_cons,List.contains_nil,Nat.reduceBEq,Bool.or_false,DT,CZ,DV,EY,FR,QU,WB,ET,G6,EN,GK,ADV,DW,FP,FD,BZ,AA,EM,AY,AQ,BS,BD,BI,CF,DJ,BL,BN,F9,BG,AB,D9,List.map_cons,List.map_nil,List.append_nil,↓reduceIte,Nat.reduceEqDiff,Nat.reduceAdd,Nat.add_zero,Nat.zero_add,Option.getD_some,enP,I1,O6,AES,H9,M3,JH,f0,f2,f4,lb0 _ hB,lb2 _ hB,b2,s.l4]
   refine ⟨_,hr,?_⟩
   simp -implicitDefEqProofs only [FJ,CL,List.contains_cons,List.contains_nil,Nat.reduceBEq,Bool.or_false,DT,CZ,EO,DV,G6,AA,AY,AQ,BI,CF,DJ,AB,ER,↓reduceIte,Nat.reduceEqDiff,Nat.reduceAdd,Option.getD_some,f0,f2,f4]
   exact ⟨⟨_,rfl⟩,f0,f2,f4,u1,u2,s,hC⟩
 clear f0 f2 f4 s hC hB f47
 rintro F H ⟨⟨b,f76⟩,f0,f2,f4,u1,u2,s,hC⟩
 have hB:=hbox _ _ _ hC
 simp -implicitDefEqProofs only [BF,AZ,AY,f76]
 refine SN (Md e c d v1 v2 h (n+1) (n+1) (n+1) (max dd d) (TU f [e])) (fun _ _=>False) (fun hb => ?_) (fun hb => ?_) ?_ (fun _ _ hh=>hh.elim)
 ·obtain ⟨v',H',ha,ht,s',hC'⟩:=s.app4 e.name (by omega)
  refine EG (by kernel_rfl) ?_
  simp -implicitDefEqProofs only [FJ,E8,FI,CL,List.contains_cons,List.contains_nil,Nat.reduceBEq,Bool.or_false,Bool.or_true,DT,CZ,LD,EO,DV,ET,I7,EN,K8,DW,FX,UB,AA,AY,EA,BL,EC,BG,FT,BO,AB,DF,↓reduceIte,Nat.reduceEqDiff,Nat.reduceAdd,Nat.zero_add,Option.getD_some,enP,O6,AES,Option.getD_none,H9,M3,JH,f0,f2,f4,lb2 _ hB,s.l4,AU8,ha,ht]
  exact ⟨f0,f2,f4,_,_,s',hC.trans hC'⟩
 ·simp -implicitDefEqProofs only [BK,UB]
  exact ⟨f0,f2,f4,_,_,s.weak (by omega) (by omega),hC⟩
 clear f0 f2 f4 s hC hB f76
 rintro F H ⟨f0,f2,f4,u1,u2,s,hC⟩
 simp -implicitDefEqProofs only [CL,List.contains_cons,List.contains_nil,Nat.reduceBEq,Bool.or_false,A8,BM,AX,AZ,AU,A9,AJ,BA,AR,AC,AQ,BD,A7,Option.getD_some,Bool.not_false,DY]
 refine CS (fun k F H => ∃ j,k+j=e.args.length∧F 6 = .int .i64 (j:Nat)∧Md e c d v1 v2 h (n+1+(KT (e.args.take j)).length) (n+1+(KT (e.args.take j)).length) (n+1+(KT (e.args.take j)).length) (max dd (d+deps (e.args.take j))) (TU (TU f [e]) (KT (e.args.take j))) F H) e.args.length ⟨0,by simp,rfl,f0,f2,f4,u1,u2,s,hC⟩ ?_
 clear f0 f2 f4 s hC
 rintro k F H ⟨j,hj,f6,f0,f2,f4,u1,u2,s,hC⟩
 have hB:=hbox _ _ _ hC
 simp -implicitDefEqProofs only [CL,List.contains_cons,List.contains_nil,Nat.reduceBEq,Bool.or_false,A8,AX,BF,AZ,AU,A9,AJ,BA,AR,AC,AA,AY,BB,BL,BN,BG,C8,AB,CO,↓reduceIte,Nat.reduceEqDiff,Nat.zero_add,Option.getD_some,Bool.not_false,enP,AJC,Q9,DY,f6,f4,lb3 _ hB,List.length_map]
 refine CG (fun hlt => ?_) (fun hlt => ?_)
 ·have hj':j < e.args.length:=by simpa using hlt
  have hmem:e.args[j]∈e.args:=List.getElem_mem hj'
  have hwa:=U6 hmem
  have hpl:(KT (e.args.take j)).length+(pre e.args[j]).length≤wts e.args:=by
   have h1:=AGE e.args
   have h2:KT e.args=KT (e.args.take j) ++ (pre e.args[j] ++ KT (e.args.drop (j+1))):=by
    rw [← List.append_assoc,← TK _ _ hj',← SA,List.take_append_drop]
   rw [h2] at h1; simp at h1; omega
  have hsp:(KT (e.args.take j)).length+wt e.args[j]≤wts e.args:=by
   have h1:=AGE (e.args.take j)
   have h2:=AFH e.args j hj'
   omega
  have hdt:deps (e.args.take j)≤wts e.args:=VW e.args j
  simp -implicitDefEqProofs only [CL,List.contains_cons,List.contains_nil,Nat.reduceBEq,Bool.or_false,A8,BM,AX,BK,AZ,AU,AJ,BA,AR,AC,AA,AY,AQ,BS,BD,BB,BL,BN,BG,BU,BV,BR,AB,CR,List.map_cons,List.map_nil,List.append_nil,↓reduceIte,Nat.reduceEqDiff,Nat.zero_add,Option.getD_some,Bool.not_false,enP,AS6,Q9,DY,f0,f2,f4,f6,lb3 _ hB,CW hj',ES AIB ABP J5 hj',CB (show d < 9223372036854775807 by omega)]
  refine (ih e.args[j] hmem (by omega) H (d+1) _ _ _ u1 u2 (by omega) (by omega) (by omega) s).mono ?_
  rintro v H' ⟨w1,w2,s',hC'⟩
  simp -implicitDefEqProofs only [CL,List.contains_cons,List.contains_nil,Nat.reduceBEq,Bool.or_false,AX,AZ,DU,DZ,AU,A9,AJ,BA,AR,AC,AA,AY,AQ,BD,BB,A7,BN,AB,CR,↓reduceIte,Nat.reduceEqDiff,Option.getD_some,Bool.not_false,enP,DY,f6,CB (show j < 9223372036854775807 by omega)]
  refine ⟨k - 1,by omega,j+1,by omega,rfl,f0,f2,f4,w1,w2,?_,hC.trans hC'⟩
  rw [TK _ _ hj',ADF _ _ hj',AHE,List.length_append]
  have e1:max (max dd (d+deps (e.args.take j))) (d+1+deps e.args[j].args)=max dd (d+max (deps (e.args.take j)) (dep e.args[j])):=by
   rw [AE2]; omega
  rw [e1,Nat.add_assoc (n+1)] at s'
  exact s'
 ·have hj' : ¬ j < e.args.length:=by simpa using hlt
  rw [List.take_of_length_le (by omega)] at s
  simp -implicitDefEqProofs only [CU,DR,EB,EF,AE0,↓reduceIte]
  refine ⟨u1,u2,?_,c0.trans hC⟩
  have e1:n+1+(KT e.args).length=n+(pre e).length:=by rw [pre_eq]; simp; omega
  have e2:TU (TU f [e]) (KT e.args)=TU f (pre e):=by rw [pre_eq,← AHE]; rfl
  rw [e1,e2] at s
  exact s
end Go.Proofs.YtocilianjfhifaaGreatDoor.Cov
/- The reference's Valid of expressions: over, Valid; no condition. -/
set_option linter.unusedSimpArgs false
set_option maxRecDepth 8000
namespace Go.Proofs.YtocilianjfhifaaGreatDoor.Cov
open Go Go.Proofs Go.Proofs.YtocilianjfhifaaGreatDoor.Sm Go.Proofs.YtocilianjfhifaaGreatDoor.Bins Go.RowKit

theorem AYJ:JX Tryz.prog 181 []=some (.agg [.int .i64 0,.int .i64 0,.int .i64 0,.sl .nil 0 [],.sl .nil 0 []]):=by kernel_rfl
theorem AX5 (h:Hp):OH h (.agg [.int .i64 0,.int .i64 0,.int .i64 0,.sl .nil 0 [],.sl .nil 0 []])=some (.ptr h.length 0 0,h ++ [.live 5 [LJ 0 0 0 (.sl .nil 0 []) (.sl .nil 0 [])]]):=TR rfl
theorem AGH (G:Nat→AV) (e:Ex) (hw:wt e≤1048576) (h:Hp) :
  ACalls (En G) 149 [.agg (F7 e)] h fun v h' => ∃ c m u1 u2,v = .ptr c 0 0∧St h' c m m (pre e).length (dep e) (errs (pre e)) u1 u2∧∃ x,h'=h ++ x:=by
 refine BX (H:=Hint.none) (enM G) Tryz.func149 rfl (by kernel_rfl) (by kernel_rfl) (Nat.le_of_ble_eq_true (by kernel_rfl)) ?_
 show awp _ _ _ _ _ (EJ _ [.tmp 2] _)
 simp -implicitDefEqProofs only [E8,A8,AX,AZ,AU,A9,AL,AO,AJ,BA,AR,AC,AA,AY,AQ,BS,BD,ATY,BB,A7,EW,IR,BL,BV,BR,BO,AB,BC,List.map_cons,List.map_nil,List.append_nil,↓reduceIte,Nat.reduceEqDiff,Option.getD_some,Bool.not_false,enP,bxE,AYJ,AX5,UT (C9 (CQ h _))]
 have nb : ∀ b,¬ isB (.sl .nil 0 []) b:=fun b hb=>hb
 refine (AR2 G _ e hw _ 1 0 0 0 (.sl .nil 0 []) (.sl .nil 0 []) (by omega) (by omega) (by omega) ⟨CQ _ _,⟨[],by simp,.inl ⟨rfl,_,rfl⟩⟩,⟨[],by simp,.inl ⟨rfl,_,rfl⟩⟩,fun b hb=>(nb b hb).elim⟩).mono ?_
 rintro v h' ⟨u1,u2,s,hC⟩
 simp -implicitDefEqProofs only [A8,AX,BJ,AZ,CK,AU,A9,AL,AO,AJ,BA,AR,AC,AA,AY,BB,A7,↓reduceIte,Nat.reduceEqDiff,Option.getD_some,Bool.not_false]
 have e1:0+(pre e).length=(pre e).length:=Nat.zero_add _
 have e2:max 0 (1+deps e.args)=dep e:=by rw [AE2]; omega
 rw [e1,e2] at s
 refine ⟨_,_,u1,u2,rfl,s,?_⟩
 have hC2:=((Ch.app (h ++ [ABlk.live 4 [F7 e]]).length (.sl .nil 0 []) (.sl .nil 0 []) h [.live 4 [F7 e]]).trans (Ch.app _ _ _ _ [.live 5 [LJ 0 0 0 (.sl .nil 0 []) (.sl .nil 0 [])]])).trans hC
 refine Chg.above (c:=(h ++ [ABlk.live 4 [F7 e]]).length) ⟨hC2.len,fun b hb hne=>hC2.get b hb hne (nb b) (nb b)⟩ (by simp)
theorem AHC (G:Nat→AV) (e:Ex) (h:Hp) (hw:wt e≤1048576):PCall (En G) 161 [.agg (F7 e)] h (.int .i64 (exE e)):=by
 refine ACalls.pure0 rfl ?_
 refine BX (H:=Hint.none) (enM G) Tryz.func161 rfl (by kernel_rfl) (by kernel_rfl) (Nat.le_of_ble_eq_true (by kernel_rfl)) ?_
 show awp _ _ _ _ _ (EJ _ [.tmp 2] _)
 simp -implicitDefEqProofs only [A8,AX,AZ,AU,A9,AL,AO,AJ,BA,AR,AC,AA,AY,AQ,BS,BD,A7,EW,BL,BV,BR,BO,AB,BC,List.map_cons,List.map_nil,List.append_nil,↓reduceIte,Nat.reduceEqDiff,Option.getD_some,Bool.not_false,enP,bxE,ldE]
 refine (AGH G e hw _).mono ?_
 rintro v h' ⟨c,m,u1,u2,rfl,s,x,rfl⟩
 simp -implicitDefEqProofs only [A8,AX,AZ,AU,A9,BH,BQ,BZ,AL,AO,AJ,BA,AR,AC,AA,AY,AQ,BD,BB,A7,BL,BN,BG,AB,D9,↓reduceIte,Nat.zero_add,Option.getD_some,Bool.not_false,enP,VP,H9,JH,s.l2]
 rcases he:(errs (pre e) == 0) with _ | _
 ·simp -implicitDefEqProofs only [A8,AX,BK,BJ,BF,AZ,CK,DL,AU,A9,BH,BQ,BZ,IQ,PE,AL,AO,AJ,BA,AR,AC,AA,EM,AY,AQ,BI,BB,A7,CF,DK,BL,BG,AB,↓reduceIte,Nat.reduceEqDiff,Nat.zero_add,Option.getD_some,Bool.not_false,enP,VP,H9,JH,s.l2]
  have:errs (pre e)≠0:=by simpa using he
  exact ⟨by unfold exE; rw [if_neg (fun hh=>this hh.1)],_,by rw [List.append_assoc]⟩
 have he0:errs (pre e)=0:=by simpa using he
 simp -implicitDefEqProofs only [BH,BQ,BZ,FZ,AL,AO,AJ,BA,AR,AC,AA,AY,AQ,BD,BB,BL,BN,BG,AB,EK,↓reduceIte,Nat.reduceEqDiff,Nat.zero_add,Option.getD_some,Bool.not_false,enP,AET,H9,JH,s.l1]
 refine GJ (fun hd => ?_) (fun hd => ?_)
 ·simp -implicitDefEqProofs only [A8,AX,BJ,BF,AZ,CJ,CK,DI,AU,A9,BH,BQ,BZ,FZ,FN,AL,AO,AJ,BA,AR,AC,AA,EM,AY,AQ,BD,BI,A7,CF,DJ,↓reduceIte,Nat.reduceEqDiff,Option.getD_some,Bool.not_false,hd]
  exact ⟨by unfold exE; rw [if_pos ⟨he0,.inl (by simp at hd; omega)⟩],_,by rw [List.append_assoc]⟩
 simp -implicitDefEqProofs only [BF,AZ,AU,A9,BH,BQ,BZ,FZ,EH,AL,AO,AJ,BA,AR,AC,AA,AY,AQ,BD,BI,BB,CF,DJ,DK,BL,BN,BG,AB,EK,↓reduceIte,Nat.reduceEqDiff,Nat.add_zero,Option.getD_some,Bool.not_false,enP,AEU,H9,JH,hd,s.l0]
 refine CG (fun hn => ?_) (fun hn => ?_)
 ·simp -implicitDefEqProofs only [A8,AX,BJ,AZ,CJ,CK,AU,A9,AL,AO,AJ,BA,AR,AC,AA,AQ,BD,A7,↓reduceIte,Option.getD_some,Bool.not_false]
  exact ⟨by unfold exE; rw [if_pos ⟨he0,.inr (by simp at hn; omega)⟩],_,by rw [List.append_assoc]⟩
 ·simp -implicitDefEqProofs only [A8,AX,BK,BJ,AZ,CK,AU,A9,AL,AO,AJ,BA,AR,AC,AA,AY,BB,A7,BL,BG,AB,↓reduceIte,Nat.reduceEqDiff,Nat.zero_add,Option.getD_some,Bool.not_false,enP,VP,H9,JH,s.l2]
  exact ⟨by unfold exE; rw [if_neg (fun hh=>by simp at hn hd; omega)],_,by rw [List.append_assoc]⟩
end Go.Proofs.YtocilianjfhifaaGreatDoor.Cov
/- Points, crosses, models; whether names repeat; no condition. -/
set_option linter.unusedSimpArgs false
set_option maxRecDepth 8000
namespace Go.Proofs.YtocilianjfhifaaGreatDoor.Cov
open Go Go.Proofs Go.Proofs.YtocilianjfhifaaGreatDoor.Sm Go.Proofs.YtocilianjfhifaaGreatDoor.Bins Go.RowKit

/-- a slice of numbers -/
structure Is where
 m:SM
 l:List Int
def GG (x:Is):List AV := [.sl x.m 1 (x.l.map encI)]
theorem LH (x:Is):(GG x)[0]? = some (.sl x.m 1 (x.l.map encI)):=rfl
theorem AAW (x:Is):(GG x).length=1:=rfl
/-- a point -/
structure Pt where
 name:ByteArray
 ex:Ex
 bm:SM
 bins:List Bin
def G9 (p:Pt):List AV := .str p.name :: (F7 p.ex ++ [.sl p.bm 4 (p.bins.map JK)])
theorem AL0 (p:Pt):(G9 p)[0]? = some (.str p.name):=rfl
theorem K3 (p:Pt):(G9 p)[5]? = some (.sl p.bm 4 (p.bins.map JK)):=by unfold G9; rw [MR]; rfl
theorem JJ (p:Pt):(G9 p).length=6:=by unfold G9; rw [MR]; rfl
theorem ADA (p:Pt):(G9 p).all AV.leaf=true:=by unfold G9; rw [MR]; rfl
theorem ALZ (p:Pt):((G9 p).drop 1).take 4=F7 p.ex:=by unfold G9; rw [MR]; rfl
theorem bxP (h:Hp) (p:Pt):OH h (.agg (G9 p))=some (.ptr h.length 0 0,h ++ [.live 6 [G9 p]]):=by
 have:=TR (h:=h) (ADA p)
 rw [JJ] at this; exact this
theorem APK {h:Hp} {b:Nat} {p:Pt} (hb:h[b]? = some (.live 6 [G9 p])):D7 Tryz.prog h 53 (.ptr b 0 1)=some (.agg (F7 p.ex)):=by
 rw [IK AIB ABP hb rfl (by rw [JJ]; omega),ALZ]
/-- a cross -/
structure Cr where
 name:ByteArray
 pm:SM
 pts:List Int
 xm:SM
 excl:List Is
def GH (c:Cr):List AV := [.str c.name,.sl c.pm 1 (c.pts.map encI),.sl c.xm 1 (c.excl.map GG)]
theorem AL1 (c:Cr):(GH c)[0]? = some (.str c.name):=rfl
theorem RP (c:Cr):(GH c)[1]? = some (.sl c.pm 1 (c.pts.map encI)):=rfl
theorem AHN (c:Cr):(GH c)[2]? = some (.sl c.xm 1 (c.excl.map GG)):=rfl
theorem JR (c:Cr):(GH c).length=3:=rfl
theorem bxC (h:Hp) (c:Cr):OH h (.agg (GH c))=some (.ptr h.length 0 0,h ++ [.live 3 [GH c]]):=rfl
/-- a model -/
structure Mo where
 pm:SM
 pts:List Pt
 cm:SM
 crs:List Cr
def DC (m:Mo):List AV := [.sl m.pm 6 (m.pts.map G9),.sl m.cm 3 (m.crs.map GH)]
theorem O7 (m:Mo):(DC m)[0]? = some (.sl m.pm 6 (m.pts.map G9)):=rfl
theorem RO (m:Mo):(DC m)[1]? = some (.sl m.cm 3 (m.crs.map GH)):=rfl
theorem AHL (m:Mo):(DC m).length=2:=rfl
theorem bxM (h:Hp) (m:Mo):OH h (.agg (DC m))=some (.ptr h.length 0 0,h ++ [.live 2 [DC m]]):=rfl
/-- does a name come twice? -/
def AB2:List ByteArray→List ByteArray→Bool
 | _,[]=>false
 | seen,x :: xs=>I5 seen x || AB2 (seen ++ [x]) xs
def MX (l:List ByteArray):Bool:=AB2 [] l
theorem OM (N:List ByteArray) (i:Nat) (hi:i < N.length):AB2 (N.take i) (N.drop i)=(I5 (N.take i) N[i] || AB2 (N.take (i+1)) (N.drop (i+1))):=by
 rw [List.drop_eq_getElem_cons hi,List.take_succ_eq_append_getElem hi]; rfl
theorem F4 {α:Type} {l:List α} {i:Nat} {hi:i < l.length} {x:α} (h:l[i]? = some x):l[i]=x:=by
 rw [List.getElem?_eq_getElem hi] at h; exact Option.some.inj h

theorem ALA (G:Nat→AV) (x:Bin) (h:Hp):PCall (En G) 154 [.agg (JK x)] h (.str x.name):=by
 refine ACalls.pure0 rfl ?_
 refine BX (H:=Hint.none) (enM G) Tryz.func154 rfl (by kernel_rfl) (by kernel_rfl) (Nat.le_of_ble_eq_true (by kernel_rfl)) ?_
 show awp _ _ _ _ _ (EJ _ [.tmp 2] _)
 simp -implicitDefEqProofs only [A8,AX,BJ,AZ,CK,AU,A9,AL,AO,AJ,BA,AR,AC,AA,AY,AQ,JU,A7,EW,BL,BG,BO,AB,BC,↓reduceIte,Nat.reduceEqDiff,Nat.add_zero,Option.getD_some,Bool.not_false,enP,YW,bxB,CX ag9,AL2]
 exact ⟨trivial,_,rfl⟩
theorem AMX (G:Nat→AV) (xs:List Bin) (m:SM) (h:Hp) (hl:xs.length≤1099511627776) :
  PCall (En G) 153 [.sl m 4 (xs.map JK),.fn (.func 154) [] []] h (.bool (MX (xs.map (·.name)))):=by
 refine BX (H:=Hint.none) (enM G) Tryz.func153 rfl (by kernel_rfl) (by kernel_rfl) (Nat.le_of_ble_eq_true (by kernel_rfl)) ?_
 show awp _ _ _ _ _ (EJ _ [.tmp 4] _)
 simp -implicitDefEqProofs only [A8,BM,AX,AZ,AU,A9,AL,AO,AJ,BA,AR,AC,AA,AY,AQ,BD,BI,BB,A7,C8,AB,BC,↓reduceIte,Nat.reduceEqDiff,Option.getD_some,Bool.not_false,enP,PI,List.length_map]
 generalize hN:xs.map (·.name)=N
 have hNl:N.length=xs.length:=by rw [← hN]; simp
 have hNi : ∀ i (hi:i < xs.length),N[i]? = some xs[i].name:=fun i hi=>by rw [← hN,List.getElem?_map,List.getElem?_eq_getElem hi]; rfl
 refine CS (fun n F H => ∃ i,n+i=xs.length∧F 0 = .sl m 4 (xs.map JK)∧F 1 = .fn (.func 154) [] []∧F 8 = .int .i64 xs.length∧F 9 = .int .i64 (i:Nat)∧H=h∧MX N=AB2 (N.take i) (N.drop i)) xs.length ⟨0,by simp,by simp -implicitDefEqProofs only [AA,BC,↓reduceIte,Nat.reduceEqDiff],by simp -implicitDefEqProofs only [AA,BC,BP,↓reduceIte,Nat.reduceEqDiff],by simp -implicitDefEqProofs only [AA,↓reduceIte,Nat.reduceEqDiff],by simp -implicitDefEqProofs only [AA,↓reduceIte]; rfl,rfl,rfl⟩ ?_
 rintro n F H ⟨i,hi,f0,f1,f8,f9,rfl,hd⟩
 simp -implicitDefEqProofs only [A8,AX,BF,AZ,AU,A9,AL,AO,AJ,BA,AR,AC,AA,AY,BN,AB,CO,↓reduceIte,Option.getD_some,Bool.not_false,enP,f8,f9]
 refine CG (fun hc => ?_) (fun hc => ?_)
 ·have hi':i < xs.length:=by simpa using hc
  have hdrop:=OM N i (by omega)
  rw [F4 (hNi i hi')] at hdrop
  simp -implicitDefEqProofs only [A8,BM,AX,BK,AZ,AU,A9,AL,AO,AJ,BA,AR,AC,AA,AY,AQ,BD,BB,A7,↓reduceIte,Nat.reduceEqDiff,Option.getD_some,Bool.not_false,f9]
  refine FO 2 (fun F' H'=>F' 0 = .sl m 4 (xs.map JK)∧F' 1 = .fn (.func 154) [] []∧F' 8 = .int .i64 xs.length∧F' 9 = .int .i64 (i:Nat)∧H'=H∧I5 (N.take i) xs[i].name=false) (fun F' H'=>F' 4 = .bool (MX N)∧H'=H) ?_ ?_ ?_
  ·refine CS (fun n F' H' => ∃ k,n+k=i∧F' 0 = .sl m 4 (xs.map JK)∧F' 1 = .fn (.func 154) [] []∧F' 8 = .int .i64 xs.length∧F' 9 = .int .i64 (i:Nat)∧F' 5 = .int .i64 (i:Nat)∧F' 12 = .int .i64 (i:Nat)∧F' 13 = .int .i64 (k:Nat)∧H'=H∧I5 (N.take i) xs[i].name=I5 ((N.take i).drop k) xs[i].name) i ⟨0,by simp,by simp -implicitDefEqProofs only [AA,↓reduceIte,Nat.reduceEqDiff,f0],by simp -implicitDefEqProofs only [AA,↓reduceIte,Nat.reduceEqDiff,f1],by simp -implicitDefEqProofs only [AA,↓reduceIte,Nat.reduceEqDiff,f8],by simp -implicitDefEqProofs only [AA,↓reduceIte,Nat.reduceEqDiff,f9],by simp -implicitDefEqProofs only [AA,↓reduceIte,Nat.reduceEqDiff],by simp -implicitDefEqProofs only [AA,↓reduceIte,Nat.reduceEqDiff],by simp -implicitDefEqProofs only [AA,↓reduceIte]; rfl,rfl,rfl⟩ ?_
   clear f0 f1 f8 f9
   rintro n' F H' ⟨k,hk,f0,f1,f8,f9,f5,f12,f13,rfl,hin⟩
   simp -implicitDefEqProofs only [A8,AX,BF,AZ,AU,A9,AL,AO,AJ,BA,AR,AC,AA,AY,BN,AB,CO,↓reduceIte,Option.getD_some,Bool.not_false,enP,f12,f13]
   refine CG (fun hc => ?_) (fun hc => ?_)
   ·have hk':k < i:=by simpa using hc
    have hk2:k < xs.length:=by omega
    have hs:=KJ (fun u=>xs[i].name.toList == u.toList) (N.take i) k (by rw [List.length_take]; omega)
    have hx:(N.take i)[k]'(by rw [List.length_take]; omega)=xs[k].name:=by
     rw [List.getElem_take]; exact F4 (hNi k hk2)
    rw [hx] at hs
    simp -implicitDefEqProofs only [A8,BM,AX,BK,AZ,AU,A9,AL,AO,AJ,BA,AR,AC,AA,AY,BB,A7,↓reduceIte,Nat.reduceEqDiff,Option.getD_some,Bool.not_false,f13]
    refine EG (by kernel_rfl) ?_
    simp -implicitDefEqProofs only [FJ,DT,CZ,DV,ET,EN,GK,DN,FP,FD,AL,AA,AY,BL,BN,BU,AB,List.map_cons,List.map_nil,List.append_nil,↓reduceIte,Nat.reduceEqDiff,Nat.reduceAdd,Option.getD_some,enP,VH,f0,f1,f5,CW hi',CW hk2,ES XX R4 K7 hi',ES XX R4 K7 hk2]
    refine ⟨_,ALA G xs[i] _,?_⟩
    refine ⟨_,ALA G xs[k] _,?_⟩
    try simp -implicitDefEqProofs only [CZ,EO,BF,AZ,AA,AY,AB,LZ,↓reduceIte]
    refine CG (fun hb => ?_) (fun hb => ?_)
    ·simp -implicitDefEqProofs only [A8,AX,BJ,AZ,CJ,D6,KC,EZ,AU,A9,AL,AO,AJ,BA,AR,AC,AA,AQ,BI,A7,↓reduceIte,Option.getD_some,Bool.not_false]
     refine ⟨?_,trivial⟩
     have:I5 (N.take i) xs[i].name=true:=by
      rw [hin]; unfold I5; rw [hs,hb]; rfl
     rw [hd,hdrop,this]; rfl
    ·simp -implicitDefEqProofs only [AX,BK,AZ,DU,DZ,AU,A9,AL,AO,AJ,BA,AR,AC,AA,AY,AQ,BD,BB,BN,AB,CR,↓reduceIte,Nat.reduceEqDiff,Option.getD_some,Bool.not_false,enP,f13,CB (show k < 9223372036854775807 by omega)]
     refine ⟨n' - 1,by omega,k+1,by omega,f0,f1,f8,f9,f5,f12,rfl,trivial,?_⟩
     rw [hin]; unfold I5; rw [hs,hb]; rfl
   ·have hk' : ¬ k < i:=by simpa using hc
    simp -implicitDefEqProofs only [CU,DR,II,EF,AA,↓reduceIte,Nat.reduceEqDiff]
    refine ⟨f0,f1,f8,f9,trivial,?_⟩
    rw [hin,List.drop_eq_nil_of_le (by rw [List.length_take]; omega)]; rfl
  ·rintro F' H' ⟨g0,g1,g8,g9,rfl,hn⟩
   simp -implicitDefEqProofs only [AX,AZ,DU,EB,DZ,AU,A9,AL,AO,AJ,BA,AR,AC,AA,AY,AQ,BD,BB,BN,AB,CR,↓reduceIte,Nat.reduceEqDiff,Option.getD_some,Bool.not_false,enP,g9,CB (show i < 9223372036854775807 by omega)]
   refine ⟨n - 1,by omega,i+1,by omega,g0,g1,g8,rfl,trivial,?_⟩
   rw [hd,hdrop,hn]; rfl
  ·rintro F' H' ⟨g4,rfl⟩
   simp -implicitDefEqProofs only [CJ,D6,EZ,CK,g4]
   exact ⟨trivial,trivial⟩
 ·have hi' : ¬ i < xs.length:=by simpa using hc
  simp -implicitDefEqProofs only [A8,AX,BJ,CU,AZ,DR,EB,EF,CK,AU,A9,AL,AO,AJ,BA,AR,AC,AA,AQ,BI,A7,↓reduceIte,Option.getD_some,Bool.not_false]
  exact ⟨by rw [hd,List.drop_eq_nil_of_le (by omega)]; rfl,trivial⟩


theorem AK8 (G:Nat→AV) (x:Pt) (h:Hp):PCall (En G) 129 [.agg (G9 x)] h (.str x.name):=by
 refine ACalls.pure0 rfl ?_
 refine BX (H:=Hint.none) (enM G) Tryz.func129 rfl (by kernel_rfl) (by kernel_rfl) (Nat.le_of_ble_eq_true (by kernel_rfl)) ?_
 show awp _ _ _ _ _ (EJ _ [.tmp 2] _)
 simp -implicitDefEqProofs only [A8,AX,BJ,AZ,CK,AU,A9,AL,AO,AJ,BA,AR,AC,AA,AY,AQ,JU,A7,EW,BL,BG,BO,AB,BC,↓reduceIte,Nat.reduceEqDiff,Nat.add_zero,Option.getD_some,Bool.not_false,enP,AEQ,bxP,CX ag9,AL0]
 exact ⟨trivial,_,rfl⟩
theorem AMV (G:Nat→AV) (xs:List Pt) (m:SM) (h:Hp) (hl:xs.length≤1099511627776) :
  PCall (En G) 128 [.sl m 6 (xs.map G9),.fn (.func 129) [] []] h (.bool (MX (xs.map (·.name)))):=by
 refine BX (H:=Hint.none) (enM G) Tryz.func128 rfl (by kernel_rfl) (by kernel_rfl) (Nat.le_of_ble_eq_true (by kernel_rfl)) ?_
 show awp _ _ _ _ _ (EJ _ [.tmp 4] _)
 simp -implicitDefEqProofs only [A8,BM,AX,AZ,AU,A9,AL,AO,AJ,BA,AR,AC,AA,AY,AQ,BD,BI,BB,A7,C8,AB,BC,↓reduceIte,Nat.reduceEqDiff,Option.getD_some,Bool.not_false,enP,OZ,List.length_map]
 generalize hN:xs.map (·.name)=N
 have hNl:N.length=xs.length:=by rw [← hN]; simp
 have hNi : ∀ i (hi:i < xs.length),N[i]? = some xs[i].name:=fun i hi=>by rw [← hN,List.getElem?_map,List.getElem?_eq_getElem hi]; rfl
 refine CS (fun n F H => ∃ i,n+i=xs.length∧F 0 = .sl m 6 (xs.map G9)∧F 1 = .fn (.func 129) [] []∧F 8 = .int .i64 xs.length∧F 9 = .int .i64 (i:Nat)∧H=h∧MX N=AB2 (N.take i) (N.drop i)) xs.length ⟨0,by simp,by simp -implicitDefEqProofs only [AA,BC,↓reduceIte,Nat.reduceEqDiff],by simp -implicitDefEqProofs only [AA,BC,BP,↓reduceIte,Nat.reduceEqDiff],by simp -implicitDefEqProofs only [AA,↓reduceIte,Nat.reduceEqDiff],by simp -implicitDefEqProofs only [AA,↓reduceIte]; rfl,rfl,rfl⟩ ?_
 rintro n F H ⟨i,hi,f0,f1,f8,f9,rfl,hd⟩
 simp -implicitDefEqProofs only [A8,AX,BF,AZ,AU,A9,AL,AO,AJ,BA,AR,AC,AA,AY,BN,AB,CO,↓reduceIte,Option.getD_some,Bool.not_false,enP,f8,f9]
 refine CG (fun hc => ?_) (fun hc => ?_)
 ·have hi':i < xs.length:=by simpa using hc
  have hdrop:=OM N i (by omega)
  rw [F4 (hNi i hi')] at hdrop
  simp -implicitDefEqProofs only [A8,BM,AX,BK,AZ,AU,A9,AL,AO,AJ,BA,AR,AC,AA,AY,AQ,BD,BB,A7,↓reduceIte,Nat.reduceEqDiff,Option.getD_some,Bool.not_false,f9]
  refine FO 2 (fun F' H'=>F' 0 = .sl m 6 (xs.map G9)∧F' 1 = .fn (.func 129) [] []∧F' 8 = .int .i64 xs.length∧F' 9 = .int .i64 (i:Nat)∧H'=H∧I5 (N.take i) xs[i].name=false) (fun F' H'=>F' 4 = .bool (MX N)∧H'=H) ?_ ?_ ?_
  ·refine CS (fun n F' H' => ∃ k,n+k=i∧F' 0 = .sl m 6 (xs.map G9)∧F' 1 = .fn (.func 129) [] []∧F' 8 = .int .i64 xs.length∧F' 9 = .int .i64 (i:Nat)∧F' 5 = .int .i64 (i:Nat)∧F' 12 = .int .i64 (i:Nat)∧F' 13 = .int .i64 (k:Nat)∧H'=H∧I5 (N.take i) xs[i].name=I5 ((N.take i).drop k) xs[i].name) i ⟨0,by simp,by simp -implicitDefEqProofs only [AA,↓reduceIte,Nat.reduceEqDiff,f0],by simp -implicitDefEqProofs only [AA,↓reduceIte,Nat.reduceEqDiff,f1],by simp -implicitDefEqProofs only [AA,↓reduceIte,Nat.reduceEqDiff,f8],by simp -implicitDefEqProofs only [AA,↓reduceIte,Nat.reduceEqDiff,f9],by simp -implicitDefEqProofs only [AA,↓reduceIte,Nat.reduceEqDiff],by simp -implicitDefEqProofs only [AA,↓reduceIte,Nat.reduceEqDiff],by simp -implicitDefEqProofs only [AA,↓reduceIte]; rfl,rfl,rfl⟩ ?_
   clear f0 f1 f8 f9
   rintro n' F H' ⟨k,hk,f0,f1,f8,f9,f5,f12,f13,rfl,hin⟩
   simp -implicitDefEqProofs only [A8,AX,BF,AZ,AU,A9,AL,AO,AJ,BA,AR,AC,AA,AY,BN,AB,CO,↓reduceIte,Option.getD_some,Bool.not_false,enP,f12,f13]
   refine CG (fun hc => ?_) (fun hc => ?_)
   ·have hk':k < i:=by simpa using hc
    have hk2:k < xs.length:=by omega
    have hs:=KJ (fun u=>xs[i].name.toList == u.toList) (N.take i) k (by rw [List.length_take]; omega)
    have hx:(N.take i)[k]'(by rw [List.length_take]; omega)=xs[k].name:=by
     rw [List.getElem_take]; exact F4 (hNi k hk2)
    rw [hx] at hs
    simp -implicitDefEqProofs only [A8,BM,AX,BK,AZ,AU,A9,AL,AO,AJ,BA,AR,AC,AA,AY,BB,A7,↓reduceIte,Nat.reduceEqDiff,Option.getD_some,Bool.not_false,f13]
    refine EG (by kernel_rfl) ?_
    simp -implicitDefEqProofs only [FJ,DT,CZ,DV,ET,EN,GK,DN,FP,FD,AL,AA,AY,BL,BN,BU,AB,List.map_cons,List.map_nil,List.append_nil,↓reduceIte,Nat.reduceEqDiff,Nat.reduceAdd,Option.getD_some,enP,MV,f0,f1,f5,CW hi',CW hk2,ES AE9 X3 JJ hi',ES AE9 X3 JJ hk2]
    refine ⟨_,AK8 G xs[i] _,?_⟩
    refine ⟨_,AK8 G xs[k] _,?_⟩
    try simp -implicitDefEqProofs only [CZ,EO,BF,AZ,AA,AY,AB,LZ,↓reduceIte]
    refine CG (fun hb => ?_) (fun hb => ?_)
    ·simp -implicitDefEqProofs only [A8,AX,BJ,AZ,CJ,D6,KC,EZ,AU,A9,AL,AO,AJ,BA,AR,AC,AA,AQ,BI,A7,↓reduceIte,Option.getD_some,Bool.not_false]
     refine ⟨?_,trivial⟩
     have:I5 (N.take i) xs[i].name=true:=by
      rw [hin]; unfold I5; rw [hs,hb]; rfl
     rw [hd,hdrop,this]; rfl
    ·simp -implicitDefEqProofs only [AX,BK,AZ,DU,DZ,AU,A9,AL,AO,AJ,BA,AR,AC,AA,AY,AQ,BD,BB,BN,AB,CR,↓reduceIte,Nat.reduceEqDiff,Option.getD_some,Bool.not_false,enP,f13,CB (show k < 9223372036854775807 by omega)]
     refine ⟨n' - 1,by omega,k+1,by omega,f0,f1,f8,f9,f5,f12,rfl,trivial,?_⟩
     rw [hin]; unfold I5; rw [hs,hb]; rfl
   ·have hk' : ¬ k < i:=by simpa using hc
    simp -implicitDefEqProofs only [CU,DR,II,EF,AA,↓reduceIte,Nat.reduceEqDiff]
    refine ⟨f0,f1,f8,f9,trivial,?_⟩
    rw [hin,List.drop_eq_nil_of_le (by rw [List.length_take]; omega)]; rfl
  ·rintro F' H' ⟨g0,g1,g8,g9,rfl,hn⟩
   simp -implicitDefEqProofs only [AX,AZ,DU,EB,DZ,AU,A9,AL,AO,AJ,BA,AR,AC,AA,AY,AQ,BD,BB,BN,AB,CR,↓reduceIte,Nat.reduceEqDiff,Option.getD_some,Bool.not_false,enP,g9,CB (show i < 9223372036854775807 by omega)]
   refine ⟨n - 1,by omega,i+1,by omega,g0,g1,g8,rfl,trivial,?_⟩
   rw [hd,hdrop,hn]; rfl
  ·rintro F' H' ⟨g4,rfl⟩
   simp -implicitDefEqProofs only [CJ,D6,EZ,CK,g4]
   exact ⟨trivial,trivial⟩
 ·have hi' : ¬ i < xs.length:=by simpa using hc
  simp -implicitDefEqProofs only [A8,AX,BJ,CU,AZ,DR,EB,EF,CK,AU,A9,AL,AO,AJ,BA,AR,AC,AA,AQ,BI,A7,↓reduceIte,Option.getD_some,Bool.not_false]
  exact ⟨by rw [hd,List.drop_eq_nil_of_le (by omega)]; rfl,trivial⟩


theorem AK9 (G:Nat→AV) (x:Cr) (h:Hp):PCall (En G) 132 [.agg (GH x)] h (.str x.name):=by
 refine ACalls.pure0 rfl ?_
 refine BX (H:=Hint.none) (enM G) Tryz.func132 rfl (by kernel_rfl) (by kernel_rfl) (Nat.le_of_ble_eq_true (by kernel_rfl)) ?_
 show awp _ _ _ _ _ (EJ _ [.tmp 2] _)
 simp -implicitDefEqProofs only [A8,AX,BJ,AZ,CK,AU,A9,AL,AO,AJ,BA,AR,AC,AA,AY,AQ,JU,A7,EW,BL,BG,BO,AB,BC,↓reduceIte,Nat.reduceEqDiff,Nat.add_zero,Option.getD_some,Bool.not_false,enP,AEO,bxC,CX ag9,AL1]
 exact ⟨trivial,_,rfl⟩
theorem AMW (G:Nat→AV) (xs:List Cr) (m:SM) (h:Hp) (hl:xs.length≤1099511627776) :
  PCall (En G) 131 [.sl m 3 (xs.map GH),.fn (.func 132) [] []] h (.bool (MX (xs.map (·.name)))):=by
 refine BX (H:=Hint.none) (enM G) Tryz.func131 rfl (by kernel_rfl) (by kernel_rfl) (Nat.le_of_ble_eq_true (by kernel_rfl)) ?_
 show awp _ _ _ _ _ (EJ _ [.tmp 4] _)
 simp -implicitDefEqProofs only [A8,BM,AX,AZ,AU,A9,AL,AO,AJ,BA,AR,AC,AA,AY,AQ,BD,BI,BB,A7,C8,AB,BC,↓reduceIte,Nat.reduceEqDiff,Option.getD_some,Bool.not_false,enP,Q5,List.length_map]
 generalize hN:xs.map (·.name)=N
 have hNl:N.length=xs.length:=by rw [← hN]; simp
 have hNi : ∀ i (hi:i < xs.length),N[i]? = some xs[i].name:=fun i hi=>by rw [← hN,List.getElem?_map,List.getElem?_eq_getElem hi]; rfl
 refine CS (fun n F H => ∃ i,n+i=xs.length∧F 0 = .sl m 3 (xs.map GH)∧F 1 = .fn (.func 132) [] []∧F 8 = .int .i64 xs.length∧F 9 = .int .i64 (i:Nat)∧H=h∧MX N=AB2 (N.take i) (N.drop i)) xs.length ⟨0,by simp,by simp -implicitDefEqProofs only [AA,BC,↓reduceIte,Nat.reduceEqDiff],by simp -implicitDefEqProofs only [AA,BC,BP,↓reduceIte,Nat.reduceEqDiff],by simp -implicitDefEqProofs only [AA,↓reduceIte,Nat.reduceEqDiff],by simp -implicitDefEqProofs only [AA,↓reduceIte]; rfl,rfl,rfl⟩ ?_
 rintro n F H ⟨i,hi,f0,f1,f8,f9,rfl,hd⟩
 simp -implicitDefEqProofs only [A8,AX,BF,AZ,AU,A9,AL,AO,AJ,BA,AR,AC,AA,AY,BN,AB,CO,↓reduceIte,Option.getD_some,Bool.not_false,enP,f8,f9]
 refine CG (fun hc => ?_) (fun hc => ?_)
 ·have hi':i < xs.length:=by simpa using hc
  have hdrop:=OM N i (by omega)
  rw [F4 (hNi i hi')] at hdrop
  simp -implicitDefEqProofs only [A8,BM,AX,BK,AZ,AU,A9,AL,AO,AJ,BA,AR,AC,AA,AY,AQ,BD,BB,A7,↓reduceIte,Nat.reduceEqDiff,Option.getD_some,Bool.not_false,f9]
  refine FO 2 (fun F' H'=>F' 0 = .sl m 3 (xs.map GH)∧F' 1 = .fn (.func 132) [] []∧F' 8 = .int .i64 xs.length∧F' 9 = .int .i64 (i:Nat)∧H'=H∧I5 (N.take i) xs[i].name=false) (fun F' H'=>F' 4 = .bool (MX N)∧H'=H) ?_ ?_ ?_
  ·refine CS (fun n F' H' => ∃ k,n+k=i∧F' 0 = .sl m 3 (xs.map GH)∧F' 1 = .fn (.func 132) [] []∧F' 8 = .int .i64 xs.length∧F' 9 = .int .i64 (i:Nat)∧F' 5 = .int .i64 (i:Nat)∧F' 12 = .int .i64 (i:Nat)∧F' 13 = .int .i64 (k:Nat)∧H'=H∧I5 (N.take i) xs[i].name=I5 ((N.take i).drop k) xs[i].name) i ⟨0,by simp,by simp -implicitDefEqProofs only [AA,↓reduceIte,Nat.reduceEqDiff,f0],by simp -implicitDefEqProofs only [AA,↓reduceIte,Nat.reduceEqDiff,f1],by simp -implicitDefEqProofs only [AA,↓reduceIte,Nat.reduceEqDiff,f8],by simp -implicitDefEqProofs only [AA,↓reduceIte,Nat.reduceEqDiff,f9],by simp -implicitDefEqProofs only [AA,↓reduceIte,Nat.reduceEqDiff],by simp -implicitDefEqProofs only [AA,↓reduceIte,Nat.reduceEqDiff],by simp -implicitDefEqProofs only [AA,↓reduceIte]; rfl,rfl,rfl⟩ ?_
   clear f0 f1 f8 f9
   rintro n' F H' ⟨k,hk,f0,f1,f8,f9,f5,f12,f13,rfl,hin⟩
   simp -implicitDefEqProofs only [A8,AX,BF,AZ,AU,A9,AL,AO,AJ,BA,AR,AC,AA,AY,BN,AB,CO,↓reduceIte,Option.getD_some,Bool.not_false,enP,f12,f13]
   refine CG (fun hc => ?_) (fun hc => ?_)
   ·have hk':k < i:=by simpa using hc
    have hk2:k < xs.length:=by omega
    have hs:=KJ (fun u=>xs[i].name.toList == u.toList) (N.take i) k (by rw [List.length_take]; omega)
    have hx:(N.take i)[k]'(by rw [List.length_take]; omega)=xs[k].name:=by
     rw [List.getElem_take]; exact F4 (hNi k hk2)
    rw [hx] at hs
    simp -implicitDefEqProofs only [A8,BM,AX,BK,AZ,AU,A9,AL,AO,AJ,BA,AR,AC,AA,AY,BB,A7,↓reduceIte,Nat.reduceEqDiff,Option.getD_some,Bool.not_false,f13]
    refine EG (by kernel_rfl) ?_
    simp -implicitDefEqProofs only [FJ,DT,CZ,DV,ET,EN,GK,DN,FP,FD,AL,AA,AY,BL,BN,BU,AB,List.map_cons,List.map_nil,List.append_nil,↓reduceIte,Nat.reduceEqDiff,Nat.reduceAdd,Option.getD_some,enP,P7,f0,f1,f5,CW hi',CW hk2,ES ABC WE JR hi',ES ABC WE JR hk2]
    refine ⟨_,AK9 G xs[i] _,?_⟩
    refine ⟨_,AK9 G xs[k] _,?_⟩
    try simp -implicitDefEqProofs only [CZ,EO,BF,AZ,AA,AY,AB,LZ,↓reduceIte]
    refine CG (fun hb => ?_) (fun hb => ?_)
    ·simp -implicitDefEqProofs only [A8,AX,BJ,AZ,CJ,D6,KC,EZ,AU,A9,AL,AO,AJ,BA,AR,AC,AA,AQ,BI,A7,↓reduceIte,Option.getD_some,Bool.not_false]
     refine ⟨?_,trivial⟩
     have:I5 (N.take i) xs[i].name=true:=by
      rw [hin]; unfold I5; rw [hs,hb]; rfl
     rw [hd,hdrop,this]; rfl
    ·simp -implicitDefEqProofs only [AX,BK,AZ,DU,DZ,AU,A9,AL,AO,AJ,BA,AR,AC,AA,AY,AQ,BD,BB,BN,AB,CR,↓reduceIte,Nat.reduceEqDiff,Option.getD_some,Bool.not_false,enP,f13,CB (show k < 9223372036854775807 by omega)]
     refine ⟨n' - 1,by omega,k+1,by omega,f0,f1,f8,f9,f5,f12,rfl,trivial,?_⟩
     rw [hin]; unfold I5; rw [hs,hb]; rfl
   ·have hk' : ¬ k < i:=by simpa using hc
    simp -implicitDefEqProofs only [CU,DR,II,EF,AA,↓reduceIte,Nat.reduceEqDiff]
    refine ⟨f0,f1,f8,f9,trivial,?_⟩
    rw [hin,List.drop_eq_nil_of_le (by rw [List.length_take]; omega)]; rfl
  ·rintro F' H' ⟨g0,g1,g8,g9,rfl,hn⟩
   simp -implicitDefEqProofs only [AX,AZ,DU,EB,DZ,AU,A9,AL,AO,AJ,BA,AR,AC,AA,AY,AQ,BD,BB,BN,AB,CR,↓reduceIte,Nat.reduceEqDiff,Option.getD_some,Bool.not_false,enP,g9,CB (show i < 9223372036854775807 by omega)]
   refine ⟨n - 1,by omega,i+1,by omega,g0,g1,g8,rfl,trivial,?_⟩
   rw [hd,hdrop,hn]; rfl
  ·rintro F' H' ⟨g4,rfl⟩
   simp -implicitDefEqProofs only [CJ,D6,EZ,CK,g4]
   exact ⟨trivial,trivial⟩
 ·have hi' : ¬ i < xs.length:=by simpa using hc
  simp -implicitDefEqProofs only [A8,AX,BJ,CU,AZ,DR,EB,EF,CK,AU,A9,AL,AO,AJ,BA,AR,AC,AA,AQ,BI,A7,↓reduceIte,Option.getD_some,Bool.not_false]
  exact ⟨by rw [hd,List.drop_eq_nil_of_le (by omega)]; rfl,trivial⟩

end Go.Proofs.YtocilianjfhifaaGreatDoor.Cov
/- The error of a point, on both sides; no condition but the variables that are laid and the bounds on lengths. -/
set_option linter.unusedSimpArgs false
set_option maxRecDepth 8000
namespace Go.Proofs.YtocilianjfhifaaGreatDoor.Cov
open Go Go.Proofs Go.Proofs.YtocilianjfhifaaGreatDoor.Sm Go.Proofs.YtocilianjfhifaaGreatDoor.Bins Go.RowKit

/-- the first error of a list -/
def JP {α:Type} (f:α→Int):List α→Int
 | []=>0
 | x :: xs=>if f x=0 then JP f xs else f x
theorem OL {α:Type} (f:α→Int) (xs:List α) (k:Nat) (hk:k < xs.length):JP f (xs.drop k)=if f xs[k]=0 then JP f (xs.drop (k+1)) else f xs[k]:=by
 rw [List.drop_eq_getElem_cons hk]; rfl
def GI (p:Pt):Int :=
 if GA p.name=false then 7 else if exE p.ex≠0 then exE p.ex else if p.bins.length=0 then 1 else if 64 < p.bins.length then 2 else
  if JP HY p.bins≠0 then JP HY p.bins else if MX (p.bins.map (·.name)) then 8 else 0
structure PtOk (p:Pt):Prop where
 ex:wt p.ex≤1048576
 name:p.name.size≤1048576
 num:p.bins.length≤1048576
 bins : ∀ b∈p.bins,BinOk b
theorem AYL (h:Hp):JN Tryz.prog h 121=some (.ptr h.length 0 0,h ++ [.live 4 [[.str ⟨#[]⟩,.int .i64 0,.sl .nil 0 [],.sl .nil 0 []]]]):=JC (row := [.str ⟨#[]⟩,.int .i64 0,.sl .nil 0 [],.sl .nil 0 []]) (by kernel_rfl)
theorem AXE (h:Hp) (b:Bin) (row:List AV) (hr:row.length=4):FQ Tryz.prog (h ++ [.live 4 [row]]) 121 (.ptr h.length 0 0) (.agg (JK b))=some (h ++ [.live 4 [JK b]]):=by
 rw [M5 (TB rfl) (by rw [K7]; exact R4) (by rw [K7,hr]; exact Nat.le_refl _)]
 have:splice row 0 (JK b)=JK b:=by unfold splice; simp [K7,hr]
 rw [this]
theorem AIZ (G:Nat→AV) (hG:GOk G) (p:Pt) (hp:PtOk p) (h:Hp):PCall (En G) 97 [.agg (G9 p)] h (.int .i64 (GI p)):=by
 refine ACalls.pure0 rfl ?_
 have hp1:=hp.ex
 have hp2:=hp.name
 have hp3:=hp.num
 refine BX (H:=Hint.none) (enM G) Tryz.func97 rfl (by kernel_rfl) (by kernel_rfl) (Nat.le_of_ble_eq_true (by kernel_rfl)) ?_
 show awp _ _ _ _ _ (EJ _ [.tmp 2] _)
 simp -implicitDefEqProofs only [A8,AX,AZ,AU,A9,AL,AO,AJ,BA,AR,AC,AA,AY,AQ,BS,BD,A7,EW,BL,BG,BV,BR,BO,AB,BC,List.map_cons,List.map_nil,List.append_nil,↓reduceIte,Nat.reduceEqDiff,Nat.add_zero,Option.getD_some,Bool.not_false,enP,AEQ,bxP,CX ag9,AL0]
 refine (MH G hG.kw p.name _ (by omega)).use ?_
 simp -implicitDefEqProofs only [BF,AZ,AU,A9,AL,AO,AJ,BA,AR,AC,AA,AY,F9,AB,ER,↓reduceIte,Option.getD_some,Bool.not_false]
 cases h1:GA p.name
 ·simp -implicitDefEqProofs only [A8,AX,BJ,AZ,CJ,CK,DI,AU,A9,AL,AO,AJ,BA,AR,AC,AA,AQ,BD,A7,↓reduceIte,Option.getD_some,Bool.not_false]
  exact ⟨by unfold GI; rw [if_pos h1],_,rfl⟩
 have h1' : ¬ GA p.name=false:=by rw [h1]; decide
 simp -implicitDefEqProofs only [A8,AX,BK,AZ,DL,AU,AL,AO,AJ,BA,AR,AC,AA,AY,BS,BL,BG,BV,BR,AB,List.map_cons,List.map_nil,List.append_nil,↓reduceIte,Nat.reduceEqDiff,Nat.zero_add,Option.getD_some,Bool.not_true,Bool.not_false,enP,AEP,APK (CQ h _)]
 refine (AEX G hG p.ex _ hp1).use ?_
 simp -implicitDefEqProofs only [A8,AX,BF,AZ,AU,A9,AL,AO,AJ,BA,AR,AC,AA,AY,AQ,BD,BB,A7,BN,AB,ED,↓reduceIte,Option.getD_some,Bool.not_false,enP]
 refine CG (fun h2 => ?_) (fun h2 => ?_)
 ·simp -implicitDefEqProofs only [A8,AX,BJ,AZ,CJ,CK,AU,A9,AL,AO,AJ,BA,AR,AC,AA,AY,BB,A7,↓reduceIte,Nat.reduceEqDiff,Option.getD_some,Bool.not_false]
  exact ⟨by unfold GI; rw [if_neg h1',if_pos (by simpa using h2)],_,rfl⟩
 have h2' : ¬ exE p.ex≠0:=by simpa using h2
 simp -implicitDefEqProofs only [A8,BM,AX,BK,BF,AZ,AU,A9,AL,AO,AJ,BA,AR,AC,AA,AY,AQ,BD,A7,BL,BN,BG,C8,AB,D9,↓reduceIte,Nat.reduceEqDiff,Nat.zero_add,Option.getD_some,Bool.not_false,enP,PI,HZ,CX NW,K3,List.length_map]
 refine CG (fun h3 => ?_) (fun h3 => ?_)
 ·simp -implicitDefEqProofs only [A8,AX,BJ,AZ,CJ,D6,CK,AU,A9,AL,AO,AJ,BA,AR,AC,AA,AQ,BD,A7,↓reduceIte,Option.getD_some,Bool.not_false]
  exact ⟨by unfold GI; rw [if_neg h1',if_neg h2',if_pos (by simp at h3; simpa using h3)],_,rfl⟩
 have h3' : ¬ p.bins.length=0:=by simp at h3; simpa using h3
 simp -implicitDefEqProofs only [A8,AX,BF,AZ,AU,A9,AL,AO,AJ,BA,AR,AC,AA,AY,AQ,BD,A7,BL,BN,BG,C8,AB,EK,↓reduceIte,Nat.reduceEqDiff,Nat.zero_add,Option.getD_some,Bool.not_false,enP,PI,HZ,CX NW,K3,List.length_map]
 refine CG (fun h4 => ?_) (fun h4 => ?_)
 ·simp -implicitDefEqProofs only [A8,AX,BJ,AZ,CJ,D6,CK,AU,A9,AL,AO,AJ,BA,AR,AC,AA,AQ,BD,A7,↓reduceIte,Option.getD_some,Bool.not_false]
  exact ⟨by unfold GI; rw [if_neg h1',if_neg h2',if_neg h3',if_pos (by simp at h4; omega)],_,rfl⟩
 have h4' : ¬ 64 < p.bins.length:=by simp at h4; omega
 have hpt:GI p=if JP HY p.bins≠0 then JP HY p.bins else if MX (p.bins.map (·.name)) then 8 else 0:=by
  unfold GI; rw [if_neg h1',if_neg h2',if_neg h3',if_neg h4']
 simp -implicitDefEqProofs only [A8,BM,AX,BK,AZ,DU,AU,A9,AL,AO,AJ,BA,AR,AC,AA,AY,AQ,BD,BB,BL,BG,C8,AB,↓reduceIte,Nat.reduceEqDiff,Nat.zero_add,Option.getD_some,Bool.not_false,enP,PI,HZ,CX NW,K3,List.length_map]
 refine FO 1 (fun F H=>F 1 = .ptr h.length 0 0∧H[h.length]? = some (.live 6 [G9 p])∧(∃ x,H=h ++ x)∧JP HY p.bins=0) (fun F H=>F 2 = .int .i64 (GI p)∧∃ x,H=h ++ x) ?_ ?_ ?_
 ·refine CS (fun n F H => ∃ k,n+k=p.bins.length∧F 1 = .ptr h.length 0 0∧F 28 = .sl p.bm 4 (p.bins.map JK)∧F 29 = .int .i64 p.bins.length∧F 30 = .int .i64 (k:Nat)∧H[h.length]? = some (.live 6 [G9 p])∧(∃ x,H=h ++ x)∧JP HY p.bins=JP HY (p.bins.drop k)) p.bins.length ⟨0,by simp,by simp -implicitDefEqProofs only [AA,↓reduceIte,Nat.reduceEqDiff],by simp -implicitDefEqProofs only [AA,↓reduceIte,Nat.reduceEqDiff],by simp -implicitDefEqProofs only [AA,↓reduceIte,Nat.reduceEqDiff],by simp -implicitDefEqProofs only [AA,↓reduceIte]; rfl,CQ _ _,⟨_,rfl⟩,rfl⟩ ?_
  rintro n F H ⟨k,hk,f1,f28,f29,f30,hb,⟨x,hx⟩,hf⟩
  simp -implicitDefEqProofs only [A8,AX,BF,AZ,AU,A9,AL,AO,AJ,BA,AR,AC,AA,AY,BN,AB,CO,↓reduceIte,Option.getD_some,Bool.not_false,enP,f29,f30]
  refine CG (fun hc => ?_) (fun hc => ?_)
  ·have hk':k < p.bins.length:=by simpa using hc
   have hs:=OL HY p.bins k hk'
   simp -implicitDefEqProofs only [A8,BM,AX,BK,AZ,AU,A9,AL,AO,AJ,BA,AR,AC,EQ,AA,AY,BS,FL,BL,EC,BU,BV,BR,BO,AB,DF,List.map_cons,List.map_nil,List.append_nil,↓reduceIte,Nat.reduceEqDiff,Option.getD_some,Bool.not_false,enP,VH,Option.getD_none,f28,f30,CW hk',ES XX R4 K7 hk',AYL,AXE _ _ [.str ⟨#[]⟩,.int .i64 0,.sl .nil 0 [],.sl .nil 0 []] rfl,ldB]
   refine (AIM G hG.kw p.bins[k] (hp.bins _ (List.getElem_mem hk')) _).use ?_
   simp -implicitDefEqProofs only [A8,AX,BF,AZ,AU,A9,AL,AO,AJ,BA,AR,AC,AA,AY,AQ,BD,BB,A7,BN,AB,ED,↓reduceIte,Option.getD_some,Bool.not_false,enP]
   refine CG (fun hv => ?_) (fun hv => ?_)
   ·simp -implicitDefEqProofs only [A8,AX,BJ,AZ,CJ,D6,KC,EZ,AU,A9,AL,AO,AJ,BA,AR,AC,AA,AY,BB,A7,↓reduceIte,Nat.reduceEqDiff,Option.getD_some,Bool.not_false]
    have hv':HY p.bins[k]≠0:=by simpa using hv
    have:JP HY p.bins=HY p.bins[k]:=by rw [hf,hs,if_neg hv']
    exact ⟨by rw [hpt,this,if_pos hv'],x ++ _,by rw [hx,List.append_assoc]⟩
   ·have hv':HY p.bins[k]=0:=by simpa using hv
    simp -implicitDefEqProofs only [AX,BK,AZ,DU,DZ,AU,A9,AL,AO,AJ,BA,AR,AC,AA,AY,AQ,BD,BB,BN,AB,CR,↓reduceIte,Nat.reduceEqDiff,Option.getD_some,Bool.not_false,enP,f30,CB (show k < 9223372036854775807 by omega)]
    exact ⟨n - 1,by omega,k+1,by omega,f1,f28,f29,rfl,C9 hb,⟨x ++ _,by rw [hx,List.append_assoc]⟩,by rw [hf,hs,if_pos hv']⟩
  ·have hk' : ¬ k < p.bins.length:=by simpa using hc
   simp -implicitDefEqProofs only [CU,DR,II,EF,AA,↓reduceIte,Nat.reduceEqDiff]
   exact ⟨f1,hb,⟨x,hx⟩,by rw [hf,List.drop_eq_nil_of_le (by omega)]; rfl⟩
 ·rintro F H ⟨f1,hb,⟨x,hx⟩,hf⟩
  have l5:D7 Tryz.prog H 54 (.ptr h.length 0 5)=some (.sl p.bm 4 (p.bins.map JK)):=by rw [DX NW hb (row:=G9 p) rfl,K3]
  simp -implicitDefEqProofs only [A8,AX,AZ,EB,AU,AL,AO,AJ,BA,AR,AC,AA,AY,BS,BL,BG,BV,BR,AB,List.map_cons,List.map_nil,List.append_nil,↓reduceIte,Nat.zero_add,Option.getD_some,Bool.not_false,enP,HZ,f1,l5]
  refine (AMX G p.bins p.bm H (by omega)).use ?_
  simp -implicitDefEqProofs only [BF,AZ,A9,AC,AA,AY,↓reduceIte]
  cases hd:MX (p.bins.map (·.name))
  ·simp -implicitDefEqProofs only [A8,AX,BK,BJ,AZ,CK,DL,AU,A9,AL,AO,AJ,BA,AR,AC,AA,AQ,BD,A7,↓reduceIte,Option.getD_some,Bool.not_false]
   exact ⟨by rw [hpt,hf,hd]; rfl,x,hx⟩
  ·simp -implicitDefEqProofs only [A8,AX,BJ,AZ,CJ,CK,DI,AU,A9,AL,AO,AJ,BA,AR,AC,AA,AQ,BD,A7,↓reduceIte,Option.getD_some,Bool.not_false]
   exact ⟨by rw [hpt,hf,hd]; rfl,x,hx⟩
 ·rintro F H ⟨f2,hx⟩
  simp -implicitDefEqProofs only [CJ,D6,CK,f2]
  exact ⟨trivial,hx⟩
end Go.Proofs.YtocilianjfhifaaGreatDoor.Cov
/- The error of a point: the reference; no condition but the bounds on lengths. -/
set_option linter.unusedSimpArgs false
set_option maxRecDepth 8000
namespace Go.Proofs.YtocilianjfhifaaGreatDoor.Cov
open Go Go.Proofs Go.Proofs.YtocilianjfhifaaGreatDoor.Sm Go.Proofs.YtocilianjfhifaaGreatDoor.Bins Go.RowKit

theorem AMZ (G:Nat→AV) (p:Pt) (hp:PtOk p) (h:Hp):PCall (En G) 102 [.agg (G9 p)] h (.int .i64 (GI p)):=by
 refine ACalls.pure0 rfl ?_
 have hp1:=hp.ex
 have hp2:=hp.name
 have hp3:=hp.num
 refine BX (H:=Hint.none) (enM G) Tryz.func102 rfl (by kernel_rfl) (by kernel_rfl) (Nat.le_of_ble_eq_true (by kernel_rfl)) ?_
 show awp _ _ _ _ _ (EJ _ [.tmp 2] _)
 simp -implicitDefEqProofs only [A8,AX,AZ,AU,A9,AL,AO,AJ,BA,AR,AC,AA,AY,AQ,BS,BD,A7,EW,BL,BG,BV,BR,BO,AB,BC,List.map_cons,List.map_nil,List.append_nil,↓reduceIte,Nat.reduceEqDiff,Nat.add_zero,Option.getD_some,Bool.not_false,enP,AEQ,bxP,CX ag9,AL0]
 refine (M8 G p.name _).use ?_
 simp -implicitDefEqProofs only [BF,AZ,AU,A9,AL,AO,AJ,BA,AR,AC,AA,AY,F9,AB,ER,↓reduceIte,Option.getD_some,Bool.not_false]
 cases h1:GA p.name
 ·simp -implicitDefEqProofs only [A8,AX,BJ,AZ,CJ,CK,DI,AU,A9,AL,AO,AJ,BA,AR,AC,AA,AQ,BD,A7,↓reduceIte,Option.getD_some,Bool.not_false]
  exact ⟨by unfold GI; rw [if_pos h1],_,rfl⟩
 have h1' : ¬ GA p.name=false:=by rw [h1]; decide
 simp -implicitDefEqProofs only [A8,AX,BK,AZ,DL,AU,AL,AO,AJ,BA,AR,AC,AA,AY,BS,BL,BG,BV,BR,AB,List.map_cons,List.map_nil,List.append_nil,↓reduceIte,Nat.reduceEqDiff,Nat.zero_add,Option.getD_some,Bool.not_true,Bool.not_false,enP,AEP,APK (CQ h _)]
 refine (AHC G p.ex _ hp1).use ?_
 simp -implicitDefEqProofs only [A8,AX,BF,AZ,AU,A9,AL,AO,AJ,BA,AR,AC,AA,AY,AQ,BD,BB,A7,BN,AB,ED,↓reduceIte,Option.getD_some,Bool.not_false,enP]
 refine CG (fun h2 => ?_) (fun h2 => ?_)
 ·simp -implicitDefEqProofs only [A8,AX,BJ,AZ,CJ,CK,AU,A9,AL,AO,AJ,BA,AR,AC,AA,AY,BB,A7,↓reduceIte,Nat.reduceEqDiff,Option.getD_some,Bool.not_false]
  exact ⟨by unfold GI; rw [if_neg h1',if_pos (by simpa using h2)],_,rfl⟩
 have h2' : ¬ exE p.ex≠0:=by simpa using h2
 simp -implicitDefEqProofs only [A8,AX,BK,BF,AZ,AU,A9,AL,AO,AJ,BA,AR,AC,AA,AY,AQ,BD,BL,BN,BG,C8,AB,D9,↓reduceIte,Nat.reduceEqDiff,Nat.zero_add,Option.getD_some,Bool.not_false,enP,PI,HZ,CX NW,K3,List.length_map]
 refine CG (fun h3 => ?_) (fun h3 => ?_)
 ·simp -implicitDefEqProofs only [A8,AX,BJ,AZ,CJ,CK,AU,A9,AL,AO,AJ,BA,AR,AC,AA,AQ,BD,A7,↓reduceIte,Option.getD_some,Bool.not_false]
  exact ⟨by unfold GI; rw [if_neg h1',if_neg h2',if_pos (by simp at h3; simpa using h3)],_,rfl⟩
 have h3' : ¬ p.bins.length=0:=by simp at h3; simpa using h3
 simp -implicitDefEqProofs only [A8,AX,BK,BF,AZ,AU,A9,AL,AO,AJ,BA,AR,AC,AA,AY,AQ,BD,BL,BN,BG,C8,AB,EK,↓reduceIte,Nat.reduceEqDiff,Nat.zero_add,Option.getD_some,Bool.not_false,enP,PI,HZ,CX NW,K3,List.length_map]
 refine CG (fun h4 => ?_) (fun h4 => ?_)
 ·simp -implicitDefEqProofs only [A8,AX,BJ,AZ,CJ,CK,AU,A9,AL,AO,AJ,BA,AR,AC,AA,AQ,BD,A7,↓reduceIte,Option.getD_some,Bool.not_false]
  exact ⟨by unfold GI; rw [if_neg h1',if_neg h2',if_neg h3',if_pos (by simp at h4; omega)],_,rfl⟩
 have h4' : ¬ 64 < p.bins.length:=by simp at h4; omega
 have hpt:GI p=if JP HY p.bins≠0 then JP HY p.bins else if MX (p.bins.map (·.name)) then 8 else 0:=by
  unfold GI; rw [if_neg h1',if_neg h2',if_neg h3',if_neg h4']
 simp -implicitDefEqProofs only [A8,BM,AX,BK,AZ,AU,A9,AL,AO,AJ,BA,AR,AC,AQ,BD,A7,Option.getD_some,Bool.not_false]
 refine FO 0 (fun F H=>F 1 = .ptr h.length 0 0∧H=h ++ [.live 6 [G9 p]]∧JP HY p.bins=0) (fun F H=>F 2 = .int .i64 (GI p)∧∃ x,H=h ++ x) ?_ ?_ ?_
 ·refine CS (fun n F H => ∃ k,n+k=p.bins.length∧F 1 = .ptr h.length 0 0∧F 4 = .int .i64 (k:Nat)∧H=h ++ [.live 6 [G9 p]]∧JP HY p.bins=JP HY (p.bins.drop k)) p.bins.length ⟨0,by simp,by simp -implicitDefEqProofs only [AA,↓reduceIte,Nat.reduceEqDiff],by simp -implicitDefEqProofs only [AA,↓reduceIte]; rfl,rfl,rfl⟩ ?_
  rintro n F H ⟨k,hk,f1,f4,rfl,hf⟩
  simp -implicitDefEqProofs only [A8,AX,BF,AZ,AU,A9,AL,AO,AJ,BA,AR,AC,AA,AY,BB,BL,BN,BG,C8,AB,CO,↓reduceIte,Nat.reduceEqDiff,Nat.zero_add,Option.getD_some,Bool.not_false,enP,PI,HZ,f1,f4,CX NW,K3,List.length_map]
  refine CG (fun hc => ?_) (fun hc => ?_)
  ·have hk':k < p.bins.length:=by simpa using hc
   have hs:=OL HY p.bins k hk'
   simp -implicitDefEqProofs only [A8,BM,AX,BK,AZ,AU,AL,AO,AJ,BA,AR,AC,AA,AY,BS,BB,BL,BG,BU,BV,BR,AB,List.map_cons,List.map_nil,List.append_nil,↓reduceIte,Nat.reduceEqDiff,Nat.zero_add,Option.getD_some,Bool.not_false,enP,VH,HZ,f1,f4,CX NW,K3,CW hk',ES XX R4 K7 hk']
   refine (AMJ G p.bins[k] (hp.bins _ (List.getElem_mem hk')) _).use ?_
   simp -implicitDefEqProofs only [A8,AX,BF,AZ,AU,A9,AL,AO,AJ,BA,AR,AC,AA,AY,AQ,BD,BB,A7,BN,AB,ED,↓reduceIte,Option.getD_some,Bool.not_false,enP]
   refine CG (fun hv => ?_) (fun hv => ?_)
   ·simp -implicitDefEqProofs only [A8,AX,BJ,AZ,CJ,D6,KC,EZ,AU,A9,AL,AO,AJ,BA,AR,AC,AA,AY,BB,A7,↓reduceIte,Nat.reduceEqDiff,Option.getD_some,Bool.not_false]
    have hv':HY p.bins[k]≠0:=by simpa using hv
    have:JP HY p.bins=HY p.bins[k]:=by rw [hf,hs,if_neg hv']
    exact ⟨by rw [hpt,this,if_pos hv'],_,rfl⟩
   ·have hv':HY p.bins[k]=0:=by simpa using hv
    simp -implicitDefEqProofs only [AX,BK,AZ,DU,DZ,AU,A9,AL,AO,AJ,BA,AR,AC,AA,AY,AQ,BD,BB,A7,BN,AB,CR,↓reduceIte,Nat.reduceEqDiff,Option.getD_some,Bool.not_false,enP,f4,CB (show k < 9223372036854775807 by omega)]
    exact ⟨n - 1,by omega,k+1,by omega,f1,rfl,trivial,by rw [hf,hs,if_pos hv']⟩
  ·have hk' : ¬ k < p.bins.length:=by simpa using hc
   simp -implicitDefEqProofs only [CU,DR,II,EF,AA,↓reduceIte,Nat.reduceEqDiff]
   exact ⟨f1,trivial,by rw [hf,List.drop_eq_nil_of_le (by omega)]; rfl⟩
 ·rintro F H ⟨f1,rfl,hf⟩
  rw [hf,if_neg (fun hh=>hh rfl)] at hpt
  simp -implicitDefEqProofs only [A8,BM,AX,AZ,EB,AU,A9,AL,AO,AJ,BA,AR,AC,AQ,BD,A7,↓reduceIte,Option.getD_some,Bool.not_false,f1]
  generalize hN:p.bins.map (·.name)=N at hpt
  have hNl:N.length=p.bins.length:=by rw [← hN]; simp
  have hNi : ∀ i (hi:i < p.bins.length),N[i]? = some p.bins[i].name:=fun i hi=>by rw [← hN,List.getElem?_map,List.getElem?_eq_getElem hi]; rfl
  refine CS (fun n F H => ∃ i,n+i=p.bins.length∧F 1 = .ptr h.length 0 0∧F 5 = .int .i64 (i:Nat)∧H=h ++ [.live 6 [G9 p]]∧MX N=AB2 (N.take i) (N.drop i)) p.bins.length ⟨0,by simp,by simp -implicitDefEqProofs only [AA,↓reduceIte,Nat.reduceEqDiff,f1],by simp -implicitDefEqProofs only [AA,↓reduceIte]; rfl,rfl,rfl⟩ ?_
  clear f1
  rintro n F H ⟨i,hi,f1,f5,rfl,hd⟩
  simp -implicitDefEqProofs only [A8,AX,BF,AZ,AU,A9,AL,AO,AJ,BA,AR,AC,AA,AY,BB,BL,BN,BG,C8,AB,CO,↓reduceIte,Nat.reduceEqDiff,Nat.zero_add,Option.getD_some,Bool.not_false,enP,PI,HZ,f1,f5,CX NW,K3,List.length_map]
  refine CG (fun hc => ?_) (fun hc => ?_)
  ·have hi':i < p.bins.length:=by simpa using hc
   have hdrop:=OM N i (by omega)
   rw [F4 (hNi i hi')] at hdrop
   simp -implicitDefEqProofs only [A8,BM,AX,BK,AZ,AU,A9,AL,AO,AJ,BA,AR,AC,AQ,BD,A7,Option.getD_some,Bool.not_false,f5]
   refine FO 4 (fun F' H'=>F' 1 = .ptr h.length 0 0∧F' 5 = .int .i64 (i:Nat)∧H'=h ++ [.live 6 [G9 p]]∧I5 (N.take i) p.bins[i].name=false) (fun F' H'=>F' 2 = .int .i64 8∧H'=h ++ [.live 6 [G9 p]]∧MX N=true) ?_ ?_ ?_
   ·refine CS (fun n F' H' => ∃ k,n+k=i∧F' 1 = .ptr h.length 0 0∧F' 5 = .int .i64 (i:Nat)∧F' 6 = .int .i64 (k:Nat)∧H'=h ++ [.live 6 [G9 p]]∧I5 (N.take i) p.bins[i].name=I5 ((N.take i).drop k) p.bins[i].name) i ⟨0,by simp,by simp -implicitDefEqProofs only [AA,↓reduceIte,Nat.reduceEqDiff,f1],by simp -implicitDefEqProofs only [AA,↓reduceIte,Nat.reduceEqDiff,f5],by simp -implicitDefEqProofs only [AA,↓reduceIte]; rfl,rfl,rfl⟩ ?_
    clear f1 f5
    rintro n' F H' ⟨k,hk,f1,f5,f6,rfl,hin⟩
    simp -implicitDefEqProofs only [A8,AX,BF,AZ,AU,A9,AL,AO,AJ,BA,AR,AC,AA,AY,BB,BN,AB,CO,↓reduceIte,Nat.reduceEqDiff,Option.getD_some,Bool.not_false,enP,f5,f6]
    refine CG (fun hc => ?_) (fun hc => ?_)
    ·have hk':k < i:=by simpa using hc
     have hk2:k < p.bins.length:=by omega
     have hs:=KJ (fun u=>p.bins[i].name.toList == u.toList) (N.take i) k (by rw [List.length_take]; omega)
     have hx:(N.take i)[k]'(by rw [List.length_take]; omega)=p.bins[k].name:=by
      rw [List.getElem_take]; exact F4 (hNi k hk2)
     rw [hx] at hs
     simp -implicitDefEqProofs only [A8,BM,BK,AZ]
     refine EG (by kernel_rfl) ?_
     simp -implicitDefEqProofs only [FJ,DT,CZ,EO,DV,ET,EN,GK,DW,DN,BF,AZ,AL,AA,AY,BL,BN,BG,BU,AB,LZ,↓reduceIte,Nat.reduceEqDiff,Nat.reduceAdd,Nat.add_zero,Nat.zero_add,Option.getD_some,enP,VH,HZ,YW,f1,f5,f6,CX NW,K3,CW hi',CW hk2,CP ag9 hi',CP ag9 hk2,AL2]
     refine CG (fun hb => ?_) (fun hb => ?_)
     ·simp -implicitDefEqProofs only [A8,AX,BJ,AZ,CJ,D6,KC,EZ,AU,A9,AL,AO,AJ,BA,AR,AC,AA,AQ,BD,A7,↓reduceIte,Option.getD_some,Bool.not_false]
      have:I5 (N.take i) p.bins[i].name=true:=by
       rw [hin]; unfold I5; rw [hs,BEq.comm,hb]; rfl
      exact ⟨trivial,trivial,by rw [hd,hdrop,this]; rfl⟩
     ·simp -implicitDefEqProofs only [AX,BK,AZ,DU,DZ,AU,A9,AL,AO,AJ,BA,AR,AC,AA,AY,AQ,BD,BB,A7,BN,AB,CR,↓reduceIte,Nat.reduceEqDiff,Option.getD_some,Bool.not_false,enP,f6,CB (show k < 9223372036854775807 by omega)]
      refine ⟨n' - 1,by omega,k+1,by omega,f1,f5,rfl,trivial,?_⟩
      rw [hin]; unfold I5; rw [hs,BEq.comm,hb]; rfl
    ·have hk' : ¬ k < i:=by simpa using hc
     simp -implicitDefEqProofs only [CU,DR,II,EF,AA,↓reduceIte,Nat.reduceEqDiff]
     refine ⟨f1,f5,trivial,?_⟩
     rw [hin,List.drop_eq_nil_of_le (by rw [List.length_take]; omega)]; rfl
   ·rintro F' H' ⟨g1,g5,rfl,hn⟩
    simp -implicitDefEqProofs only [AX,AZ,DU,EB,DZ,AU,A9,AL,AO,AJ,BA,AR,AC,AA,AY,AQ,BD,BB,A7,BN,AB,CR,↓reduceIte,Nat.reduceEqDiff,Option.getD_some,Bool.not_false,enP,g5,CB (show i < 9223372036854775807 by omega)]
    refine ⟨n - 1,by omega,i+1,by omega,g1,rfl,trivial,?_⟩
    rw [hd,hdrop,hn]; rfl
   ·rintro F' H' ⟨g2,rfl,hdd⟩
    simp -implicitDefEqProofs only [CJ,D6,EZ,CK,g2]
    exact ⟨by rw [hpt,hdd]; rfl,_,rfl⟩
  ·have hi' : ¬ i < p.bins.length:=by simpa using hc
   simp -implicitDefEqProofs only [A8,AX,BJ,CU,AZ,DR,EB,EF,CK,AU,A9,AL,AO,AJ,BA,AR,AC,AA,AQ,BD,A7,↓reduceIte,Option.getD_some,Bool.not_false]
   exact ⟨by rw [hpt,hd,List.drop_eq_nil_of_le (by omega)]; rfl,_,rfl⟩
 ·rintro F H ⟨f2,hx⟩
  simp -implicitDefEqProofs only [CJ,D6,CK,f2]
  exact ⟨trivial,hx⟩
end Go.Proofs.YtocilianjfhifaaGreatDoor.Cov
