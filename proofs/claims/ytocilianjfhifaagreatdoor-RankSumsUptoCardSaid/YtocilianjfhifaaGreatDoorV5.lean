/- Part 5 of the proof (E4, E5, E6, E7, E8, E9, E10, M1, M2, M3); no condition. -/
import Derived.Test.YtocilianjfhifaaGreatDoorV4
set_option linter.unusedVariables false
/- Element names and variable names: the contracts; no condition but the variables that are laid. -/
set_option linter.unusedSimpArgs false
set_option maxRecDepth 8000
namespace Go.Proofs.YtocilianjfhifaaGreatDoor.Cov
open Go Go.Proofs Go.Proofs.YtocilianjfhifaaGreatDoor.Sm Go.Proofs.YtocilianjfhifaaGreatDoor.Bins Go.RowKit

theorem AU0 (l:List UInt8):(Lib.cut l [91]).1.length≤l.length:=by
 unfold Lib.cut
 split
 ·simp only [List.length_take]; exact Nat.min_le_right _ _
 ·exact Nat.le_refl _
theorem ixl {l:List UInt8} {k:Nat} {b:UInt8} {i:Int} (hi:i=(k:Int)) (hb:l[k]? = some b):PP Tryz.prog 9 (.str ⟨l.toArray⟩) (.int .i64 i)=some (.int .u8 b.toNat):=by
 subst hi
 have hk:k < l.length:=(List.getElem?_eq_some_iff.1 hb).1
 have:=ix9 ⟨l.toArray⟩ k .i64 hk
 rw [this]
 have h2:(⟨l.toArray⟩:ByteArray)[k]'hk=l[k]:=rfl
 rw [h2]
 rw [List.getElem?_eq_getElem hk] at hb
 rw [Option.some.inj hb]
theorem szl (l:List UInt8):(⟨l.toArray⟩:ByteArray).size=l.length:=rfl
theorem wrap_u8 {n:Int} (h0:0≤n) (h1:n < 256):IntKind.u8.wrap n=n:=by
 unfold IntKind.wrap; simp [IntKind.bits,IntKind.signed]; omega
theorem AGE (G:Nat→AV) (hG:GOk G) (s:ByteArray) (h:Hp) (hl:s.size≤1048576):PCall (En G) 259 [.str s] h (elemV (PK s)):=by
 refine CG (H:=Hint.none) (enM G) Tryz.func259 rfl (by kernel_rfl) (by kernel_rfl) (Nat.le_of_ble_eq_true (by kernel_rfl)) ?_
 show awp _ _ _ _ _ (EU _ [.tmp 2,.tmp 3,.tmp 4] _)
 simp -implicitDefEqProofs only [BB,AZ,A8,AY,BC,AO,AQ,AL,BD,AX,AC,AA,A7,AU,CB,BH,BL,KI,BF,BA,CE,BX,BG,List.map_cons,List.map_nil,List.append_nil,↓reduceIte,Nat.reduceEqDiff,Option.getD_some,Bool.not_false,enP]
 refine (AR2 G hG s h hl).use ?_
 have he:=ARZ s
 have hal:=AU0 s.data.toList
 unfold cutV
 generalize Lib.cut s.data.toList [91]=c at he hal ⊢
 obtain ⟨a,b,f⟩:=c
 have hal2:a.length≤s.size:=by simpa using hal
 simp -implicitDefEqProofs only [List.getElem?_cons_zero,List.getElem?_cons_succ,BB,AZ,A8,AY,BC,BK,BU,CO,AO,AQ,AL,BD,AX,AC,AA,A7,BF,BA,H9,ET,FX,AB,FB,↓reduceIte,Nat.reduceEqDiff,Option.getD_some,Bool.not_false]
 cases f
 ·simp -implicitDefEqProofs only [BB,AZ,BM,BI,A8,CS,OD,DX,AY,BC,BK,BU,CO,F5,AO,AQ,AL,BD,AX,AC,AA,EY,A7,AU,BH,BL,KI,BF,BA,CP,DW,↓reduceIte,Nat.reduceEqDiff,Option.getD_some,Bool.not_false]
  exact ⟨by rw [he]; rfl,trivial⟩
 simp -implicitDefEqProofs only [BK,BU,CO,EO,AO,AQ,AL,BD,AX,AC,AA,A7,CB,BF,CE,BX,List.map_cons,List.map_nil,List.append_nil,↓reduceIte,Nat.reduceEqDiff,Option.getD_some,Bool.not_true,Bool.not_false]
 refine (NW G hG.kw ⟨a.toArray⟩ h (by rw [szl]; omega)).use ?_
 simp -implicitDefEqProofs only [AY,BK,BU,CO,EO,AO,AQ,AL,BD,AX,AC,AA,A7,AU,BL,BF,CP,DV,H9,AB,FB,↓reduceIte,Nat.reduceEqDiff,Option.getD_some,Bool.not_false]
 cases hn:G9 ⟨a.toArray⟩
 ·simp -implicitDefEqProofs only [BB,AZ,BM,BI,A8,CS,OD,DX,AY,BC,BK,BU,CO,F5,AO,AQ,AL,BD,AX,AC,AA,EY,A7,AU,BH,BL,KI,BF,BA,CP,DW,↓reduceIte,Nat.reduceEqDiff,Option.getD_some,Bool.not_false]
  exact ⟨by rw [he]; simp [hn]; rfl,trivial⟩
 simp -implicitDefEqProofs only [AY,BK,BU,CO,EO,AO,AQ,AL,BD,AX,AC,AA,A7,AU,BH,BL,BF,CP,DV,BQ,DN,AB,EQ,↓reduceIte,Nat.reduceEqDiff,Option.getD_some,Bool.not_true,Bool.not_false,enP,ln9,szl]
 refine H8 (fun hb => ?_) (fun hb => ?_)
 ·simp -implicitDefEqProofs only [BB,AZ,BM,BI,A8,CS,OD,DX,AY,BC,BK,BU,CO,F5,AO,AQ,AL,BD,AX,AC,AA,EY,A7,AU,BH,BL,KI,BF,BA,CP,DW,↓reduceIte,Nat.reduceEqDiff,Option.getD_some,Bool.not_false,hb]
  have hne : ∀ d y,b≠[d,y]:=by
   intro d y e; subst e; simp at hb
  have:PK s=none:=by
   rw [he]; split
   ·split
    ·rename_i hm; exact absurd hm (hne _ _)
    ·rfl
   ·rfl
  exact ⟨by rw [this]; rfl,trivial⟩
 have h2:b.length=2:=by simp at hb; omega
 match b,h2 with
 | [d,y],_ =>
   have i1:PP Tryz.prog 9 (.str ⟨[d,y].toArray⟩) (.int .i64 1)=some (.int .u8 y.toNat):=ixl (k:=1) rfl rfl
   have i0:PP Tryz.prog 9 (.str ⟨[d,y].toArray⟩) (.int .i64 0)=some (.int .u8 d.toNat):=ixl (k:=0) rfl rfl
   have he2:PK s=if (y == 93 && decide (48≤d.toNat) && decide (d.toNat < 56))=true then some (a,d) else none:=by
    rw [he]; simp [hn]
   clear he
   simp -implicitDefEqProofs only [AY,BK,BU,CO,EO,AO,AQ,AL,BD,AX,AC,AA,A7,AU,BH,BL,BF,CP,DV,BQ,PQ,AB,EQ,↓reduceIte,Nat.reduceEqDiff,Option.getD_some,Bool.not_false,enP,hb,i1,i0]
   refine H8 (fun hc => ?_) (fun hc => ?_)
   ·simp -implicitDefEqProofs only [BB,AZ,BM,BI,A8,CS,OD,DX,AY,BC,BK,BU,CO,F5,AO,AQ,AL,BD,AX,AC,AA,EY,A7,AU,BH,BL,KI,BF,BA,CP,DW,↓reduceIte,Nat.reduceEqDiff,Option.getD_some,Bool.not_false,hc]
    have hy:(y == 93)=false:=by
     rw [← Bool.not_eq_true]; intro e; rw [beq_iff_eq] at e; subst e; simp at hc
    exact ⟨by rw [he2,hy]; rfl,trivial⟩
   have hy:(y == 93)=true:=by
    rw [beq_iff_eq,← UInt8.toNat_inj]
    simp at hc; show y.toNat=93; omega
   simp -implicitDefEqProofs only [AY,BK,BU,CO,EO,AO,AQ,AL,BD,AX,AC,AA,A7,AU,BH,BL,BF,CP,DV,BQ,PQ,AB,CW,↓reduceIte,Nat.reduceEqDiff,Option.getD_some,Bool.not_false,enP,hc,i0]
   refine H8 (fun hd => ?_) (fun hd => ?_)
   ·simp -implicitDefEqProofs only [BB,AZ,BM,BI,A8,CS,OD,DX,AY,BC,BK,BU,CO,F5,AO,AQ,AL,BD,AX,AC,AA,EY,A7,AU,BH,BL,KI,BA,CP,DW,↓reduceIte,Nat.reduceEqDiff,Option.getD_some,Bool.not_false,hd]
    have:decide (48≤d.toNat)=false:=by simp at hd ⊢; omega
    exact ⟨by rw [he2,this]; simp; rfl,trivial⟩
   have hd1:48≤d.toNat:=by simp at hd; omega
   simp -implicitDefEqProofs only [BI,A8,AY,BC,BK,BU,CO,EO,AO,AQ,AL,BD,AX,AC,AA,A7,AU,BH,BL,BF,CP,DV,BQ,PQ,AB,G7,↓reduceIte,Nat.reduceEqDiff,Option.getD_some,Bool.not_false,enP,hd,i0]
   refine CQ (fun hf => ?_) (fun hf => ?_)
   ·simp -implicitDefEqProofs only [BB,AZ,BM,A8,CS,OD,AY,BC,AO,AQ,AL,BD,AX,AC,AA,AU,BH,BL,KI,BA,↓reduceIte,Nat.reduceEqDiff,Option.getD_some,Bool.not_false]
    have:decide (d.toNat < 56)=false:=by simp at hf ⊢; omega
    exact ⟨by rw [he2,this]; simp; rfl,trivial⟩
   have hd2:d.toNat < 56:=by simp at hf; omega
   simp -implicitDefEqProofs only [BB,BN,A8]
   refine ER (by kernel_rfl) ?_
   simp -implicitDefEqProofs only [F7,D9,DT,E8,EC,FH,IQ,IE,AWT,AS1,BM,A8,OD,AO,AA,A7,AU,BH,BL,BQ,AE8,PQ,AB,KY,↓reduceIte,Nat.reduceEqDiff,Nat.reduceAdd,Option.getD_some,enP,AR1,i0,wrap_u8 (n:=(d.toNat:Int) - 48) (by omega) (by omega),wrap_i64 (n:=(d.toNat:Int) - 48) (by omega) (by omega)]
   exact ⟨by rw [he2]; simp [hy,hd1,hd2]; rfl,trivial⟩

theorem AW6 {s:ByteArray} {u:Nat} {h:Hp} (hu:u≤s.size):NE Tryz.prog h 9 (.str s) none (some (.int .i64 (u:Int))) none=some (.str (s.extract 0 u)):=by
 have:Tryz.prog.underlying 9=some .string:=by kernel_rfl
 simp [NE,this,JA,hu]
theorem AUP (a b:List UInt8):(⟨(a ++ b).toArray⟩:ByteArray).extract 0 a.length=⟨a.toArray⟩:=by
 ext1
 simp
set_option maxHeartbeats 1000000 in
theorem ANV (G:Nat→AV) (s:ByteArray) (h:Hp) (hl:s.size≤1099511627776):PCall (En G) 289 [.str s] h (elemV (PK s)):=by
 refine CG (H:=Hint.none) (enM G) Tryz.func289 rfl (by kernel_rfl) (by kernel_rfl) (Nat.le_of_ble_eq_true (by kernel_rfl)) ?_
 show awp _ _ _ _ _ (EU _ [.tmp 2,.tmp 3,.tmp 4] _)
 obtain ⟨⟨l⟩⟩:=s
 rw [szl] at hl
 rcases Nat.lt_or_ge l.length 4 with h4 | h4
 ·have hd:decide ((l.length:Int) < 4)=true:=by simp; omega
  simp -implicitDefEqProofs only [BB,AZ,BM,BI,A8,CS,OD,DX,AY,BC,BK,BU,CO,F5,AO,AQ,AL,BD,AX,AC,AA,EY,A7,AU,BH,BL,KI,BF,BA,CP,DW,BQ,DN,AB,CW,BG,↓reduceIte,Nat.reduceEqDiff,Option.getD_some,Bool.not_false,enP,ln9,szl,hd]
  have:PK ⟨l.toArray⟩=none:=by
   unfold PK; rw [if_neg]; simp; omega
  exact ⟨by rw [this]; rfl,trivial⟩
 obtain ⟨b,x,d,y,rfl⟩:=three (show 3≤l.length by omega)
 have hlen:(b ++ [x,d,y]).length=b.length+3:=by simp
 rw [hlen] at hl h4
 have hbl:0 < b.length:=by omega
 have hb:b≠[]:=List.length_pos_iff.1 hbl
 have he:=ACA (x:=x) (d:=d) (y:=y) hb
 generalize hn:G9 ⟨b.toArray⟩=nm at he
 have i1:PP Tryz.prog 9 (.str ⟨(b ++ [x,d,y]).toArray⟩) (.int .i64 ((b.length:Int)+2))=some (.int .u8 y.toNat):=ixl (k:=b.length+2) (by omega) (by simp)
 have i2:PP Tryz.prog 9 (.str ⟨(b ++ [x,d,y]).toArray⟩) (.int .i64 ((b.length:Int)+1))=some (.int .u8 d.toNat):=ixl (k:=b.length+1) (by omega) (by simp)
 have i3:PP Tryz.prog 9 (.str ⟨(b ++ [x,d,y]).toArray⟩) (.int .i64 (b.length:Int))=some (.int .u8 x.toNat):=ixl (k:=b.length) rfl (by simp)
 have i4:=AW6 (s:=⟨(b ++ [x,d,y]).toArray⟩) (u:=b.length) (h:=h) (by rw [szl]; omega)
 rw [AUP] at i4
 have hsz:(⟨(b ++ [x,d,y]).toArray⟩:ByteArray).size=b.length+3:=by rw [szl,hlen]
 generalize (⟨(b ++ [x,d,y]).toArray⟩:ByteArray)=s at *
 have w1:IntKind.i64.wrap (((b.length+3:Nat):Int) - 1)=(b.length:Int)+2:=by rw [wrap_i64 (by omega) (by omega)]; omega
 have w2:IntKind.i64.wrap (((b.length+3:Nat):Int) - 2)=(b.length:Int)+1:=by rw [wrap_i64 (by omega) (by omega)]; omega
 have w3:IntKind.i64.wrap (((b.length+3:Nat):Int) - 3)=(b.length:Int):=by rw [wrap_i64 (by omega) (by omega)]; omega
 have hd8:d.toNat < 256:=d.toNat_lt
 have w4:IntKind.i64.wrap (d.toNat:Int)=(d.toNat:Int):=wrap_i64 (by omega) (by omega)
 have w5:IntKind.i64.wrap ((d.toNat:Int) - 48)=(d.toNat:Int) - 48:=wrap_i64 (by omega) (by omega)
 have ha:decide (((b.length+3:Nat):Int) < 4)=false:=by simp; omega
 simp -implicitDefEqProofs only [BB,AZ,A8,AY,BC,BK,BU,CO,EO,AO,AQ,AL,BD,AX,AC,AA,A7,AU,BH,BL,KI,BF,BA,CP,DV,BQ,PQ,DN,AB,KY,EQ,CW,BG,↓reduceIte,Nat.reduceEqDiff,Option.getD_some,Bool.not_false,enP,ln9,hsz,ha,w1,w2,w3,i1,i2,i3,i4]
 refine H8 (fun hc => ?_) (fun hc => ?_)
 ·simp -implicitDefEqProofs only [BB,AZ,BM,BI,A8,CS,OD,DX,AY,BC,BK,BU,CO,F5,AO,AQ,AL,BD,AX,AC,AA,EY,A7,AU,BH,BL,KI,BA,CP,DW,↓reduceIte,Nat.reduceEqDiff,Option.getD_some,Bool.not_false,hc]
  have hy:(y == 93)=false:=by
   rw [← Bool.not_eq_true]; intro e; rw [beq_iff_eq] at e; subst e; simp at hc
  exact ⟨by rw [he,hy]; simp; rfl,trivial⟩
 have hy:(y == 93)=true:=by
  rw [beq_iff_eq,← UInt8.toNat_inj]
  simp at hc; show y.toNat=93; omega
 simp -implicitDefEqProofs only [BI,A8,AY,BC,BK,BU,CO,EO,AO,AQ,AL,BD,AX,AC,AA,A7,AU,BH,BL,BF,CP,DV,BQ,PQ,DN,AB,KY,EQ,BG,↓reduceIte,Nat.reduceEqDiff,Option.getD_some,Bool.not_false,enP,ln9,hsz,hc,w1,w2,w3,i1,i2,i3,i4]
 refine CQ (fun hd => ?_) (fun hd => ?_)
 ·simp -implicitDefEqProofs only [BB,AZ,BM,A8,CS,OD,AY,BC,AO,AQ,AL,BD,AX,AC,AA,AU,BH,BL,KI,BA,↓reduceIte,Nat.reduceEqDiff,Option.getD_some,Bool.not_false]
  have hx:(x == 91)=false:=by
   rw [← Bool.not_eq_true]; intro e; rw [beq_iff_eq] at e; subst e; simp at hd
  exact ⟨by rw [he,hx]; simp; rfl,trivial⟩
 have hx:(x == 91)=true:=by
  rw [beq_iff_eq,← UInt8.toNat_inj]
  simp at hd; show x.toNat=91; omega
 simp -implicitDefEqProofs only [Option.map_some,Option.map_none,BB,AZ,BN,A8,AY,BC,BK,BU,CO,AO,AQ,AL,BD,AX,AC,AA,A7,AU,BH,BF,BA,BQ,AE8,U1,PQ,DN,AB,KY,CW,BG,↓reduceIte,Nat.reduceEqDiff,Option.getD_some,Bool.not_false,enP,ln9,AR1,hsz,w1,w2,w3,i1,i2,i3,i4,w4,w5]
 refine H8 (fun hf => ?_) (fun hf => ?_)
 ·simp -implicitDefEqProofs only [BB,AZ,BM,BI,A8,CS,OD,DX,AY,BC,BK,BU,CO,F5,AO,AQ,AL,BD,AX,AC,AA,EY,A7,AU,BH,BL,KI,BF,BA,CP,DW,↓reduceIte,Nat.reduceEqDiff,Option.getD_some,Bool.not_false,hf]
  have:decide (48≤d.toNat)=false:=by simp at hf ⊢; omega
  exact ⟨by rw [he,this]; simp; rfl,trivial⟩
 have hd1:48≤d.toNat:=by simp at hf; omega
 simp -implicitDefEqProofs only [AY,BK,BU,CO,EO,AO,AQ,AL,BD,AX,AC,AA,A7,AU,BH,BL,BF,CP,DV,BQ,AB,G7,↓reduceIte,Nat.reduceEqDiff,Option.getD_some,Bool.not_false,enP,hf]
 refine H8 (fun hf => ?_) (fun hf => ?_)
 ·simp -implicitDefEqProofs only [BB,AZ,BM,BI,A8,CS,OD,DX,AY,BC,BK,BU,CO,F5,AO,AQ,AL,BD,AX,AC,AA,EY,A7,AU,BH,BL,KI,BA,CP,DW,↓reduceIte,Nat.reduceEqDiff,Option.getD_some,Bool.not_false,hf]
  have:decide (d.toNat < 56)=false:=by simp at hf ⊢; omega
  exact ⟨by rw [he,this]; simp; rfl,trivial⟩
 have hd2:d.toNat < 56:=by simp at hf; omega
 simp -implicitDefEqProofs only [BK,BU,CO,EO,AO,AQ,AL,BD,AX,AC,AA,A7,CB,BF,CE,BX,List.map_cons,List.map_nil,List.append_nil,↓reduceIte,Nat.reduceEqDiff,Option.getD_some,Bool.not_false,hf]
 refine (OV G ⟨b.toArray⟩ h).use ?_
 simp -implicitDefEqProofs only [BI,A8,AY,BC,BK,BU,CO,EO,AO,AQ,AL,BD,AX,AC,AA,A7,AU,BL,CP,DV,H9,AB,FB,↓reduceIte,Nat.reduceEqDiff,Option.getD_some,Bool.not_false,hn]
 cases nm
 ·simp -implicitDefEqProofs only [BB,AZ,BM,A8,CS,OD,DX,AY,BC,AO,AQ,AL,BD,AX,AC,AA,AU,BH,BL,KI,BA,↓reduceIte,Nat.reduceEqDiff,Option.getD_some,Bool.not_false]
  exact ⟨by rw [he]; simp; rfl,trivial⟩
 ·simp -implicitDefEqProofs only [BB,AZ,BN,BM,A8,OD,DY,AY,BC,AO,AQ,AL,BD,AX,AC,AA,A7,AU,BL,BF,BA,↓reduceIte,Nat.reduceEqDiff,Option.getD_some,Bool.not_true,Bool.not_false]
  exact ⟨by rw [he]; simp [hy,hx,hd1,hd2]; rfl,trivial⟩

/-- a variable's name -/
def RG (s:ByteArray):Bool:=(PK s).isSome || G9 s
theorem AB9 (o:Option (List UInt8 × UInt8)) : ∃ a n,elemV o = .tup [.str a,.int .i64 n,.bool o.isSome]:=by
 cases o with
 | none=>exact ⟨_,_,rfl⟩
 | some x=>exact ⟨_,_,rfl⟩
theorem AKP (G:Nat→AV) (hG:GOk G) (s:ByteArray) (h:Hp) (hl:s.size≤1048576):PCall (En G) 232 [.str s] h (.bool (RG s)):=by
 refine CG (H:=Hint.none) (enM G) Tryz.func232 rfl (by kernel_rfl) (by kernel_rfl) (Nat.le_of_ble_eq_true (by kernel_rfl)) ?_
 show awp _ _ _ _ _ (EU _ [.tmp 2] _)
 simp -implicitDefEqProofs only [BB,AZ,A8,AY,BC,AO,AQ,AL,BD,AX,AC,AA,A7,AU,CB,BL,BF,BA,CE,BX,BG,List.map_cons,List.map_nil,List.append_nil,↓reduceIte,Nat.reduceEqDiff,Option.getD_some,Bool.not_false,enP]
 refine (AGE G hG s h hl).use ?_
 obtain ⟨a,n,e⟩:=AB9 (PK s)
 rw [e]
 simp -implicitDefEqProofs only [List.getElem?_cons_zero,List.getElem?_cons_succ,BB,AZ,A8,AY,BC,BK,BU,CO,AO,AQ,AL,BD,AX,AC,AA,A7,BF,BA,ET,FX,AB,↓reduceIte,Nat.reduceEqDiff,Option.getD_some,Bool.not_false]
 cases hs:(PK s).isSome
 ·simp -implicitDefEqProofs only [BK,BU,CO,EO,AO,AQ,AL,BD,AX,AC,AA,A7,CB,BF,CE,BX,BG,List.map_cons,List.map_nil,List.append_nil,↓reduceIte,Nat.reduceEqDiff,Option.getD_some,Bool.not_false]
  refine (NW G hG.kw s h (by omega)).use ?_
  simp -implicitDefEqProofs only [BM,A8,CU,AY,BC,AO,AQ,AL,BD,AX,AC,AA,A7,AU,BL,BA,CP,DV,↓reduceIte,Nat.reduceEqDiff,Option.getD_some,Bool.not_false]
  exact ⟨by unfold RG; rw [hs]; rfl,trivial⟩
 ·simp -implicitDefEqProofs only [BM,A8,CU,AY,BC,BK,BU,CO,F5,AO,AQ,AL,BD,AX,AC,AA,EY,A7,AU,BL,BA,CP,DW,↓reduceIte,Nat.reduceEqDiff,Option.getD_some,Bool.not_false]
  exact ⟨by unfold RG; rw [hs]; rfl,trivial⟩
theorem AOO (G:Nat→AV) (s:ByteArray) (h:Hp) (hl:s.size≤1048576):PCall (En G) 255 [.str s] h (.bool (RG s)):=by
 refine CG (H:=Hint.none) (enM G) Tryz.func255 rfl (by kernel_rfl) (by kernel_rfl) (Nat.le_of_ble_eq_true (by kernel_rfl)) ?_
 show awp _ _ _ _ _ (EU _ [.tmp 2] _)
 simp -implicitDefEqProofs only [BB,AZ,A8,AY,BC,AO,AQ,AL,BD,AX,AC,AA,A7,AU,CB,BL,BF,BA,CE,BX,BG,List.map_cons,List.map_nil,List.append_nil,↓reduceIte,Nat.reduceEqDiff,Option.getD_some,Bool.not_false,enP]
 refine (ANV G s h (by omega)).use ?_
 obtain ⟨a,n,e⟩:=AB9 (PK s)
 rw [e]
 simp -implicitDefEqProofs only [List.getElem?_cons_zero,List.getElem?_cons_succ,BB,AZ,A8,AY,BC,BK,BU,CO,AO,AQ,AL,BD,AX,AC,AA,A7,BF,BA,ET,FX,AB,↓reduceIte,Nat.reduceEqDiff,Option.getD_some,Bool.not_false]
 cases hs:(PK s).isSome
 ·simp -implicitDefEqProofs only [BK,BU,CO,EO,AO,AQ,AL,BD,AX,AC,AA,A7,CB,BF,CE,BX,BG,List.map_cons,List.map_nil,List.append_nil,↓reduceIte,Nat.reduceEqDiff,Option.getD_some,Bool.not_false]
  refine (OV G s h).use ?_
  simp -implicitDefEqProofs only [BM,A8,CU,AY,BC,AO,AQ,AL,BD,AX,AC,AA,A7,AU,BL,BA,CP,DV,↓reduceIte,Nat.reduceEqDiff,Option.getD_some,Bool.not_false]
  exact ⟨by unfold RG; rw [hs]; rfl,trivial⟩
 ·simp -implicitDefEqProofs only [BM,A8,CU,AY,BC,BK,BU,CO,F5,AO,AQ,AL,BD,AX,AC,AA,EY,A7,AU,BL,BA,CP,DW,↓reduceIte,Nat.reduceEqDiff,Option.getD_some,Bool.not_false]
  exact ⟨by unfold RG; rw [hs]; rfl,trivial⟩
end Go.Proofs.YtocilianjfhifaaGreatDoor.Cov
/- The error of a node alone, on both sides; no condition but the variables that are laid. -/
set_option linter.unusedSimpArgs false
set_option maxRecDepth 8000
namespace Go.Proofs.YtocilianjfhifaaGreatDoor.Cov
open Go Go.Proofs Go.Proofs.YtocilianjfhifaaGreatDoor.Sm Go.Proofs.YtocilianjfhifaaGreatDoor.Bins Go.RowKit

def TA (s:ByteArray):Bool:=s.toList == (⟨#[]⟩:ByteArray).toList
def ZT (e:Ex):Bool:=decide (e.op < 1) || decide (e.op > 25)
def APF (e:Ex):Bool:=((e.op == 1) && (decide (e.n < 0) || decide (e.n > 65535))) || (!(e.op == 1) && !(e.n == 0))
def ALE (e:Ex):Bool:=(!MN e.op && !TA e.name) || !AHU e.op e.args.length
def WP (e:Ex):Bool:=((e.op == 2) && !RG e.name) || (((e.op == 3) || (e.op == 24)) && !G9 e.name)
def NH (e:Ex):Int:=if ZT e then 1 else if APF e then 1 else if ALE e then 1 else if WP e then 7 else 0

theorem AOF (G:Nat→AV) (hG:GOk G) (e:Ex) (h:Hp) (hl:e.name.size≤1048576):PCall (En G) 198 [.agg (G6 e)] h (.int .i64 (NH e)):=by
 refine ACalls.pure0 rfl ?_
 refine CG (H:=Hint.none) (enM G) Tryz.func198 rfl (by kernel_rfl) (by kernel_rfl) (Nat.le_of_ble_eq_true (by kernel_rfl)) ?_
 show awp _ _ _ _ _ (EU _ [.tmp 2] _)
 simp -implicitDefEqProofs only [BB,AZ,A8,AY,BC,BK,BU,CO,AO,AQ,AL,BD,AX,AC,AA,A7,AU,BH,BF,BA,FK,BO,BQ,BJ,BR,AB,EJ,BG,↓reduceIte,Nat.reduceEqDiff,Nat.add_zero,Option.getD_some,Bool.not_false,enP,JR,bxE,DI ag3,KW]
 refine TN (fun F H=>F 3 = .bool (MN e.op)∧F 1 = .ptr h.length 0 0∧H=h ++ [.live 4 [G6 e]]) ?_ ?_
 ·cases b2:(e.op == 2) <;> cases b3:(e.op == 3)
  all_goals
   simp -implicitDefEqProofs only [AY,BC,BK,BU,CO,EO,F5,AO,AQ,AL,BD,AX,AC,AA,EY,A7,AU,BH,BL,BF,BA,CP,DW,DV,BO,BQ,BJ,AB,EJ,↓reduceIte,Nat.reduceEqDiff,Nat.add_zero,Option.getD_some,Bool.not_false,enP,JR,b2,b3,DI ag3,KW]
   exact ⟨by simp [MN,b2,b3],trivial,trivial⟩
 rintro F H ⟨f3,f1,rfl⟩
 simp -implicitDefEqProofs only [BB,BP,AZ,A8,AY,BK,BU,CO,AO,AQ,AL,BD,AX,AC,AA,A7,AU,BH,BF,BO,BQ,BJ,AB,CW,↓reduceIte,Nat.add_zero,Option.getD_some,Bool.not_false,enP,JR,f1,f3,DI ag3,KW]
 refine TN (fun F H=>F 17 = .bool (ZT e)∧F 3 = .bool (MN e.op)∧F 1 = .ptr h.length 0 0∧H=h ++ [.live 4 [G6 e]]) ?_ ?_
 ·cases b2:decide (e.op < 1)
  all_goals
   simp -implicitDefEqProofs only [AY,BC,BK,BU,CO,EO,F5,AO,AQ,AL,BD,AX,AC,AA,EY,A7,AU,BH,BL,BA,CP,DW,DV,BO,BQ,BJ,AB,EW,↓reduceIte,Nat.reduceEqDiff,Nat.add_zero,Option.getD_some,Bool.not_false,enP,JR,b2,f1,f3,DI ag3,KW]
   exact ⟨by simp [ZT,b2],trivial,trivial,trivial⟩
 clear f1 f3
 rintro F H ⟨f17,f3,f1,rfl⟩
 simp -implicitDefEqProofs only [BI,A8,A7,f17]
 refine CQ (fun ho => ?_) (fun ho => ?_)
 ·simp -implicitDefEqProofs only [BB,AZ,BM,A8,CS,EG,CU,AY,BC,AO,AQ,AL,BD,AX,AC,AA,AU,BH,BA,↓reduceIte,Option.getD_some,Bool.not_false]
  exact ⟨by unfold NH; rw [if_pos ho],_,rfl⟩
 simp -implicitDefEqProofs only [BB,AZ,AY,BK,BU,CO,AO,AQ,AL,BD,AX,AC,AA,A7,AU,BH,BF,BO,BQ,BJ,AB,EJ,↓reduceIte,Nat.add_zero,Option.getD_some,Bool.not_false,enP,JR,f1,f3,DI ag3,KW,AB8]
 refine TN (fun F H=>F 26 = .bool (APF e)∧F 3 = .bool (MN e.op)∧F 1 = .ptr h.length 0 0∧H=h ++ [.live 4 [G6 e]]) ?_ ?_
 ·cases b1:(e.op == 1) <;> cases b2:decide (e.n < 0) <;> cases b3:decide (e.n > 65535) <;> cases b4:(e.n == 0)
  all_goals
   simp -implicitDefEqProofs only [AY,BC,BK,BU,CO,GN,EO,JH,F5,QP,AO,AQ,AL,BD,AX,AC,AA,EY,A7,AU,BH,BL,BF,BA,CP,DW,DV,BO,BQ,BJ,AB,EQ,CW,EW,↓reduceIte,Nat.reduceEqDiff,Nat.add_zero,Nat.zero_add,Option.getD_some,Bool.not_true,Bool.not_false,enP,JR,AF4,bne,b1,b2,b3,b4,f1,f3,DI ag3,KW,AB8]
   exact ⟨by simp [APF,b1,b2,b3,b4],trivial,trivial,trivial⟩
 clear f1 f3 f17
 rintro F H ⟨f26,f3,f1,rfl⟩
 simp -implicitDefEqProofs only [BI,A8,A7,f26]
 refine CQ (fun hn => ?_) (fun hn => ?_)
 ·simp -implicitDefEqProofs only [BB,AZ,BM,A8,CS,EG,CU,AY,BC,AO,AQ,AL,BD,AX,AC,AA,AU,BH,BA,↓reduceIte,Option.getD_some,Bool.not_false]
  exact ⟨by unfold NH; rw [if_neg (by simp [ho]),if_pos hn],_,rfl⟩
 simp -implicitDefEqProofs only [BB,AZ,AY,BK,BU,CO,AO,AQ,AL,BD,AX,AC,AA,A7,BF,H9,AB,FB,↓reduceIte,Option.getD_some,Bool.not_false,f1,f3,DI ag9,SA]
 refine TN (fun F H=>F 50 = .bool (ALE e)∧F 3 = .bool (MN e.op)∧F 1 = .ptr h.length 0 0∧H=h ++ [.live 4 [G6 e]]) ?_ ?_
 ·cases bm:MN e.op <;> cases b5:TA e.name
  all_goals
   have b6:=b5
   unfold TA at b6
   simp -implicitDefEqProofs only [AY,BC,BK,BU,CO,GN,EO,JH,F5,AO,AQ,AL,BD,AX,AC,AA,EY,A7,AU,CB,BL,KI,BF,BA,CP,DW,DV,BO,BQ,BJ,CE,BX,AB,ACK,List.map_cons,List.map_nil,List.append_nil,↓reduceIte,Nat.reduceEqDiff,Nat.zero_add,Option.getD_some,Bool.not_true,Bool.not_false,enP,QJ,bne,bm,b6,f1,f3,DI ag9,SA,ldE]
  ·exact ⟨by simp [ALE,bm,b5],trivial,trivial,trivial⟩
  all_goals
   refine (AC7 G e _).use ?_
   simp -implicitDefEqProofs only [AY,BC,BK,BU,CO,EO,AO,AQ,AL,BD,AX,AC,AA,A7,AU,BL,BA,CP,DV,H9,AB,FB,↓reduceIte,Nat.reduceEqDiff,Option.getD_some,Bool.not_false,bne,bm,f1,f3]
   exact ⟨by simp [ALE,bm,b5],trivial,trivial,trivial⟩
 clear f1 f3 f26
 rintro F H ⟨f50,f3,f1,rfl⟩
 simp -implicitDefEqProofs only [BI,A8,A7,f50]
 refine CQ (fun hs => ?_) (fun hs => ?_)
 ·simp -implicitDefEqProofs only [BB,AZ,BM,A8,CS,EG,CU,AY,BC,AO,AQ,AL,BD,AX,AC,AA,AU,BH,BA,↓reduceIte,Option.getD_some,Bool.not_false]
  exact ⟨by unfold NH; rw [if_neg (by simp [ho]),if_neg (by simp [hn]),if_pos hs],_,rfl⟩
 simp -implicitDefEqProofs only [BB,AZ,AY,BK,BU,CO,AO,AQ,AL,BD,AX,AC,AA,A7,AU,BH,BF,BO,BQ,BJ,AB,EJ,↓reduceIte,Nat.add_zero,Option.getD_some,Bool.not_false,enP,JR,f1,f3,DI ag9,DI ag3,KW,SA]
 have fin : ∀ b,WP e=b→NH e=if b then 7 else 0:=by
  intro b hb
  unfold NH; rw [if_neg (by simp [ho]),if_neg (by simp [hn]),if_neg (by simp [hs]),hb]
 cases b2:(e.op == 2)
 ·simp -implicitDefEqProofs only [AY,BK,BU,CO,EO,JH,AO,AQ,AL,BD,AX,AC,AA,EY,A7,AU,BH,BL,BF,CP,DV,BO,BQ,BJ,AB,EJ,↓reduceIte,Nat.reduceEqDiff,Nat.add_zero,Option.getD_some,Bool.not_false,enP,JR,b2,f1,f3,DI ag9,DI ag3,KW,SA]
  cases b3:(e.op == 3) <;> cases b4:(e.op == 24)
  all_goals
   simp -implicitDefEqProofs only [BB,AZ,BN,BM,BI,A8,D8,CU,DY,AY,BC,BK,BU,CO,GN,EO,JH,F5,AO,AQ,AL,BD,AX,AC,AA,EY,A7,AU,CB,BH,BL,BF,BA,CP,DW,DV,BO,BQ,BJ,CE,BX,AB,EJ,List.map_cons,List.map_nil,List.append_nil,↓reduceIte,Nat.reduceEqDiff,Nat.add_zero,Nat.zero_add,Option.getD_some,Bool.not_false,enP,JR,QJ,b3,b4,f1,f3,DI ag9,DI ag3,KW,SA]
  ·exact ⟨by rw [fin false (by simp [WP,b2,b3,b4])]; rfl,_,rfl⟩
  all_goals
   refine (NW G hG.kw e.name _ (by omega)).use ?_
   cases bi:G9 e.name
   ·simp -implicitDefEqProofs only [BB,AZ,BM,BI,A8,CS,EG,CU,DX,AY,BC,BK,BU,CO,GN,EO,AO,AQ,AL,BD,AX,AC,AA,A7,AU,BH,BL,BA,CP,DW,DV,H9,AB,FB,↓reduceIte,Nat.reduceEqDiff,Option.getD_some,Bool.not_false]
    exact ⟨by rw [fin true (by simp [WP,b2,b3,b4,bi])]; rfl,_,rfl⟩
   ·simp -implicitDefEqProofs only [BB,AZ,BN,BM,BI,A8,D8,CU,DY,AY,BC,BK,BU,CO,GN,EO,AO,AQ,AL,BD,AX,AC,AA,A7,AU,BH,BL,BA,CP,DW,DV,H9,AB,FB,↓reduceIte,Nat.reduceEqDiff,Option.getD_some,Bool.not_true,Bool.not_false]
    exact ⟨by rw [fin false (by simp [WP,b2,b3,b4,bi])]; rfl,_,rfl⟩
 ·have e2:e.op=2:=by simpa using b2
  simp -implicitDefEqProofs only [BK,BU,CO,GN,AO,AQ,AL,BD,AX,AC,AA,A7,CB,BO,BJ,CE,BX,AB,List.map_cons,List.map_nil,List.append_nil,↓reduceIte,Nat.reduceEqDiff,Nat.zero_add,Option.getD_some,Bool.not_false,enP,QJ,b2,f1,f3,DI ag9,DI ag3,KW,SA]
  refine (AKP G hG e.name _ hl).use ?_
  cases bi:RG e.name
  ·simp -implicitDefEqProofs only [BB,AZ,BM,BI,A8,CS,EG,CU,DX,AY,BC,BK,BU,CO,GN,F5,QP,AO,AQ,AL,BD,AX,AC,AA,EY,A7,AU,BH,BL,BF,BA,CP,DW,H9,AB,FB,↓reduceIte,Nat.reduceEqDiff,Option.getD_some,Bool.not_false]
   exact ⟨by rw [fin true (by simp [WP,b2,bi])]; rfl,_,rfl⟩
  ·simp -implicitDefEqProofs only [BB,AZ,BN,BM,BI,A8,D8,CU,DY,AY,BC,BK,BU,CO,GN,EO,JH,AO,AQ,AL,BD,AX,AC,AA,EY,A7,AU,BH,BL,BF,BA,CP,DW,DV,BO,BQ,H9,BJ,AB,EJ,FB,↓reduceIte,Nat.reduceEqDiff,Nat.add_zero,Option.getD_some,Bool.not_true,Bool.not_false,enP,JR,f1,DI ag3,KW,e2,Int.reduceBEq]
   exact ⟨by rw [fin false (by simp [WP,e2,bi])]; rfl,_,rfl⟩

def ACM (e:Ex):Bool:=ZT e || decide (e.n < 0) || decide (e.n > 65535) || (!(e.n == 0) && !(e.op == 1)) || (!TA e.name && !MN e.op)
def AJD (op:Int) (n:Nat):Bool:=((op == 23) && (decide ((n:Int) < 3) || decide ((n:Int) > 33) || ((n:Int) % 2 == 0))) || (!(op == 23) && !((n:Int) == arity op))
theorem AU8 (op:Int) (n:Nat):AJD op n = !AHU op n:=by
 unfold AJD AHU
 rcases hc:(op == 23) with _ | _
 ·simp
 ·have h1:decide ((n:Int) < 3) = !decide ((n:Int)≥3):=by rw [Bool.eq_iff_iff]; simp
  have h2:decide ((n:Int) > 33) = !decide ((n:Int)≤33):=by rw [Bool.eq_iff_iff]; simp
  have h3:((n:Int) % 2 == 0) = !((n:Int) % 2 == 1):=by rw [Bool.eq_iff_iff]; simp; omega
  rw [h1,h2,h3]
  cases ((n:Int) % 2 == 1) <;> cases decide ((n:Int)≥3) <;> cases decide ((n:Int)≤33) <;> rfl
theorem AU9 (e:Ex):(ACM e || AJD e.op e.args.length)=(ZT e || APF e || ALE e):=by
 rw [AU8]
 unfold ACM APF ALE
 rcases h1:(e.op == 1) with _ | _
 ·rcases h2:(e.n == 0) with _ | _
  ·simp
  ·have h3:decide (e.n < 0)=false:=by simp at h2 ⊢; omega
   have h4:decide (e.n > 65535)=false:=by simp at h2 ⊢; omega
   rw [h3,h4]
   cases ZT e <;> cases TA e.name <;> cases MN e.op <;> cases AHU e.op e.args.length <;> rfl
 ·cases ZT e <;> cases TA e.name <;> cases MN e.op <;> cases AHU e.op e.args.length <;> cases decide (e.n < 0) <;> cases decide (e.n > 65535) <;> cases (e.n == 0) <;> rfl
theorem YC (e:Ex):NH e=if ACM e then 1 else if AJD e.op e.args.length then 1 else if WP e then 7 else 0:=by
 have:=AU9 e
 unfold NH
 revert this
 cases ACM e <;> cases AJD e.op e.args.length <;> cases ZT e <;> cases APF e <;> cases ALE e <;> simp
set_option maxHeartbeats 1000000 in
theorem ANO (G:Nat→AV) (e:Ex) (h:Hp) (hl:e.name.size≤1048576):PCall (En G) 225 [.agg (G6 e)] h (.int .i64 (NH e)):=by
 refine ACalls.pure0 rfl ?_
 refine CG (H:=Hint.none) (enM G) Tryz.func225 rfl (by kernel_rfl) (by kernel_rfl) (Nat.le_of_ble_eq_true (by kernel_rfl)) ?_
 show awp _ _ _ _ _ (EU _ [.tmp 2] _)
 simp -implicitDefEqProofs only [BB,AZ,A8,AY,BC,BK,BU,CO,AO,AQ,AL,BD,AX,AC,AA,A7,AU,BH,BF,BA,FK,BO,BQ,BJ,BR,AB,CW,BG,↓reduceIte,Nat.reduceEqDiff,Nat.add_zero,Option.getD_some,Bool.not_false,enP,JR,bxE,DI ag3,KW]
 refine TN (fun F H=>F 42 = .bool (ACM e)∧F 1 = .ptr h.length 0 0∧H=h ++ [.live 4 [G6 e]]) ?_ ?_
 ·cases b1:decide (e.op < 1)
  case true =>
   simp -implicitDefEqProofs only [AY,BC,BK,BU,CO,F5,QP,AO,AQ,AL,BD,AX,AC,AA,EY,A7,AU,BL,BF,CP,DW,↓reduceIte,Nat.reduceEqDiff,Option.getD_some,Bool.not_false,b1]
   exact ⟨by simp [ACM,ZT,b1],trivial,trivial⟩
  simp -implicitDefEqProofs only [AY,BK,BU,CO,EO,AO,AQ,AL,BD,AX,AC,AA,A7,AU,BH,BL,BF,CP,DV,BO,BQ,BJ,AB,EW,↓reduceIte,Nat.reduceEqDiff,Nat.add_zero,Option.getD_some,Bool.not_false,enP,JR,b1,DI ag3,KW,AB8]
  cases b2:decide (e.op > 25)
  case true =>
   simp -implicitDefEqProofs only [AY,BC,BK,BU,CO,F5,QP,AO,AQ,AL,BD,AX,AC,AA,EY,A7,AU,BL,BF,CP,DW,↓reduceIte,Nat.reduceEqDiff,Option.getD_some,Bool.not_false,b2]
   exact ⟨by simp [ACM,ZT,b2],trivial,trivial⟩
  simp -implicitDefEqProofs only [AY,BK,BU,CO,EO,AO,AQ,AL,BD,AX,AC,AA,A7,AU,BH,BL,BF,CP,DV,BO,BQ,BJ,AB,CW,↓reduceIte,Nat.reduceEqDiff,Nat.zero_add,Option.getD_some,Bool.not_false,enP,AF4,b2,DI ag3,KW,AB8]
  have bO:ZT e=false:=by unfold ZT; rw [b1,b2]; rfl
  cases b3:decide (e.n < 0)
  case true =>
   simp -implicitDefEqProofs only [AY,BC,BK,BU,CO,F5,QP,AO,AQ,AL,BD,AX,AC,AA,EY,A7,AU,BL,BF,CP,DW,↓reduceIte,Nat.reduceEqDiff,Option.getD_some,Bool.not_false,b3]
   exact ⟨by simp only [ACM,b3]; simp,trivial,trivial⟩
  simp -implicitDefEqProofs only [AY,BK,BU,CO,EO,AO,AQ,AL,BD,AX,AC,AA,A7,AU,BH,BL,BF,CP,DV,BO,BQ,BJ,AB,EW,↓reduceIte,Nat.reduceEqDiff,Nat.zero_add,Option.getD_some,Bool.not_false,enP,AF4,b3,DI ag3,KW,AB8]
  cases b4:decide (e.n > 65535)
  case true =>
   simp -implicitDefEqProofs only [AY,BC,BK,BU,CO,F5,QP,AO,AQ,AL,BD,AX,AC,AA,EY,A7,AU,BL,BF,CP,DW,↓reduceIte,Nat.reduceEqDiff,Option.getD_some,Bool.not_false,b4]
   exact ⟨by simp only [ACM,b4]; simp,trivial,trivial⟩
  simp -implicitDefEqProofs only [BK,BU,CO,EO,AO,AQ,AL,BD,AX,AC,AA,A7,AU,BH,BF,BO,BQ,BJ,AB,EQ,↓reduceIte,Nat.reduceEqDiff,Nat.zero_add,Option.getD_some,Bool.not_false,enP,AF4,b4,bne,DI ag3,DI ag9,KW,AB8,SA]
  have fin : ∀ b,((!(e.n == 0) && !(e.op == 1)) || (!TA e.name && !MN e.op))=b→ACM e=b:=by
   intro b hb
   unfold ACM; rw [bO,b3,b4]; simpa using hb
  cases b5:(e.n == 0) <;> cases b6:(e.op == 1) <;> cases b7:TA e.name
  all_goals
   have b8:=b7
   unfold TA at b8
   simp -implicitDefEqProofs only [AY,BC,BK,BU,CO,GN,EO,JH,F5,QP,AO,AQ,AL,BD,AX,AC,AA,EY,A7,AU,CB,BH,BL,KI,BF,CP,DW,DV,BO,BQ,BJ,CE,BX,AB,EQ,ACK,List.map_cons,List.map_nil,List.append_nil,↓reduceIte,Nat.reduceEqDiff,Nat.add_zero,Nat.zero_add,Option.getD_some,Bool.not_true,Bool.not_false,enP,JR,QJ,bne,b5,b6,b8,DI ag3,DI ag9,KW,AB8,SA]
  all_goals first
   | exact ⟨by rw [fin _ rfl]; simp [b5,b6,b7],trivial,trivial⟩
   | refine (YD G e.op _).use ?_
     simp -implicitDefEqProofs only [AY,BC,BK,BU,CO,GN,EO,AO,AQ,AL,BD,AX,AC,AA,A7,AU,BL,CP,DW,DV,H9,AB,FB,↓reduceIte,Nat.reduceEqDiff,Option.getD_some,Bool.not_false]
     exact ⟨by rw [fin _ rfl]; simp [b5,b6,b7],trivial,trivial⟩
 rintro F H ⟨f42,f1,rfl⟩
 simp -implicitDefEqProofs only [BI,A8,A7,f42]
 refine CQ (fun ho => ?_) (fun ho => ?_)
 ·simp -implicitDefEqProofs only [BB,AZ,BM,A8,CS,CU,AY,BC,AO,AQ,AL,BD,AX,AC,AA,AU,BH,BA,↓reduceIte,Option.getD_some,Bool.not_false]
  exact ⟨by rw [YC,if_pos ho],_,rfl⟩
 simp -implicitDefEqProofs only [BB,AZ,BN,A8,AY,BC,BK,BU,CO,AO,AQ,AL,BD,AX,AC,AA,A7,AU,BH,BF,BA,BO,BQ,BJ,DN,AB,EJ,↓reduceIte,Nat.reduceEqDiff,Nat.add_zero,Nat.zero_add,Option.getD_some,Bool.not_false,enP,AKN,JR,TF,f1,DI ag3,DI APL,KW,AEP,List.length_map]
 generalize hn:e.args.length=n
 have hm:(n:Int).tmod 2=(n:Int) % 2:=Int.tmod_eq_emod_of_nonneg (by omega)
 have br:MJ Tryz.prog 3 .rem (.int .i64 (n:Int)) (.int .i64 2)=some (.int .i64 ((n:Int) % 2)):=by rw [AGI _ _ _ _ _ (by decide),hm]
 refine TN (fun F H=>F 73 = .bool (AJD e.op n)∧F 1 = .ptr h.length 0 0∧H=h ++ [.live 4 [G6 e]]) ?_ ?_
 ·cases b1:(e.op == 23)
  ·simp -implicitDefEqProofs only [AY,BK,BU,CO,GN,EO,JH,QP,AO,AQ,AL,BD,AX,AC,AA,EY,A7,AU,CB,BH,BL,BF,CP,DV,BO,BQ,BJ,CE,BX,AB,EQ,List.map_cons,List.map_nil,List.append_nil,↓reduceIte,Nat.reduceEqDiff,Nat.add_zero,Option.getD_some,Bool.not_false,enP,JR,bne,b1,f1,DI ag3,KW]
   refine (APH G e.op _).use ?_
   simp -implicitDefEqProofs only [AY,BC,BK,BU,CO,GN,EO,AO,AQ,AL,BD,AX,AC,AA,A7,AU,BL,CP,DW,DV,BQ,AB,EQ,↓reduceIte,Nat.reduceEqDiff,Option.getD_some,Bool.not_false,enP,bne]
   exact ⟨by unfold AJD; rw [b1]; simp,f1,trivial⟩
  ·cases b2:decide ((n:Int) < 3) <;> cases b3:decide ((n:Int) > 33) <;> cases b4:((n:Int) % 2 == 0)
   all_goals
    simp -implicitDefEqProofs only [AY,BC,BK,BU,CO,GN,EO,JH,F5,QP,AO,AQ,AL,BD,AX,AC,AA,EY,A7,AU,BH,BL,BF,CP,DW,DV,BO,BQ,BJ,AB,EJ,EQ,CW,EW,↓reduceIte,Nat.reduceEqDiff,Nat.add_zero,Option.getD_some,Bool.not_true,Bool.not_false,enP,JR,bne,b1,b2,b3,b4,br,f1,DI ag3,KW]
    exact ⟨by unfold AJD; rw [b1,b2,b3,b4]; simp,trivial,trivial⟩
 clear f1 f42
 rintro F H ⟨f73,f1,rfl⟩
 simp -implicitDefEqProofs only [BI,A8,A7,f73]
 subst hn
 refine CQ (fun hs => ?_) (fun hs => ?_)
 ·simp -implicitDefEqProofs only [BB,AZ,BM,A8,CS,CU,AY,BC,AO,AQ,AL,BD,AX,AC,AA,AU,BH,BA,↓reduceIte,Option.getD_some,Bool.not_false]
  exact ⟨by rw [YC,if_neg (by simp [ho]),if_pos hs],_,rfl⟩
 simp -implicitDefEqProofs only [BB,AZ,BN,A8,AY,BK,BU,CO,AO,AQ,AL,BD,AX,AC,AA,A7,AU,BH,BF,BO,BQ,BJ,AB,EJ,↓reduceIte,Nat.add_zero,Option.getD_some,Bool.not_false,enP,JR,f1,DI ag3,DI ag9,KW,SA]
 have fin : ∀ b,WP e=b→NH e=if b then 7 else 0:=by
  intro b hb
  rw [YC,if_neg (by simp [ho]),if_neg (by simp [hs]),hb]
 cases b2:(e.op == 2)
 ·simp -implicitDefEqProofs only [AY,BK,BU,CO,EO,JH,AO,AQ,AL,BD,AX,AC,AA,EY,A7,AU,CB,BL,BF,CP,DV,BO,BJ,CE,BX,AB,List.map_cons,List.map_nil,List.append_nil,↓reduceIte,Nat.reduceEqDiff,Nat.add_zero,Option.getD_some,Bool.not_false,enP,JR,b2,f1,DI ag9,DI ag3,KW,SA]
  refine (YD G e.op _).use ?_
  cases bm:MN e.op
  ·have hv:WP e=false:=by
    unfold MN at bm; simp only [Bool.or_eq_false_iff] at bm
    simp [WP,bm.1.1,bm.1.2,bm.2]
   simp -implicitDefEqProofs only [BB,AZ,BN,BM,BI,A8,CU,DY,AY,BC,BK,BU,CO,EO,JH,AO,AQ,AL,BD,AX,AC,AA,EY,A7,AU,BH,BL,BF,BA,CP,DV,↓reduceIte,Nat.reduceEqDiff,Option.getD_some,Bool.not_false]
   exact ⟨by rw [fin false hv]; rfl,_,rfl⟩
  have hv:WP e = !G9 e.name:=by
   unfold MN at bm; rw [b2] at bm; simp only [Bool.false_or] at bm
   unfold WP; rw [b2,bm]; simp
  simp -implicitDefEqProofs only [BK,BU,CO,GN,EO,AO,AQ,AL,BD,AX,AC,AA,A7,AU,CB,BH,BL,BF,CP,DW,BO,BQ,BJ,CE,BX,AB,EQ,List.map_cons,List.map_nil,List.append_nil,↓reduceIte,Nat.reduceEqDiff,Nat.add_zero,Nat.zero_add,Option.getD_some,Bool.not_false,enP,JR,QJ,bne,b2,f1,DI ag9,DI ag3,KW,SA]
  refine (OV G e.name _).use ?_
  cases bi:G9 e.name
  ·simp -implicitDefEqProofs only [BB,AZ,BM,BI,A8,CS,CU,DX,AY,BC,BK,BU,CO,GN,EO,AO,AQ,AL,BD,AX,AC,AA,A7,AU,BH,BL,BA,CP,DW,DV,H9,AB,FB,↓reduceIte,Nat.reduceEqDiff,Option.getD_some,Bool.not_false]
   exact ⟨by rw [fin true (by rw [hv,bi]; rfl)]; rfl,_,rfl⟩
  ·simp -implicitDefEqProofs only [BB,AZ,BN,BM,BI,A8,CU,DY,AY,BC,BK,BU,CO,GN,EO,AO,AQ,AL,BD,AX,AC,AA,A7,AU,BH,BL,BA,CP,DW,DV,H9,AB,FB,↓reduceIte,Nat.reduceEqDiff,Option.getD_some,Bool.not_true,Bool.not_false]
   exact ⟨by rw [fin false (by rw [hv,bi]; rfl)]; rfl,_,rfl⟩
 ·have e2:e.op=2:=by simpa using b2
  have hv:WP e = !RG e.name:=by
   unfold WP; rw [e2]; simp
  simp -implicitDefEqProofs only [BK,BU,CO,GN,AO,AQ,AL,BD,AX,AC,AA,A7,CB,BO,BJ,CE,BX,AB,List.map_cons,List.map_nil,List.append_nil,↓reduceIte,Nat.reduceEqDiff,Nat.zero_add,Option.getD_some,Bool.not_false,enP,QJ,b2,f1,DI ag9,DI ag3,KW,SA]
  refine (AOO G e.name _ hl).use ?_
  cases bi:RG e.name
  ·simp -implicitDefEqProofs only [BB,AZ,BM,BI,A8,CS,CU,DX,AY,BC,BK,BU,CO,GN,F5,QP,AO,AQ,AL,BD,AX,AC,AA,EY,A7,AU,BH,BL,BF,BA,CP,DW,H9,AB,FB,↓reduceIte,Nat.reduceEqDiff,Option.getD_some,Bool.not_false]
   exact ⟨by rw [fin true (by rw [hv,bi]; rfl)]; rfl,_,rfl⟩
  ·simp -implicitDefEqProofs only [AY,BK,BU,CO,GN,EO,AO,AQ,AL,BD,AX,AC,AA,A7,AU,CB,BL,BF,CP,DW,BO,H9,BJ,CE,BX,AB,FB,List.map_cons,List.map_nil,List.append_nil,↓reduceIte,Nat.reduceEqDiff,Nat.add_zero,Option.getD_some,Bool.not_true,Bool.not_false,enP,JR,f1,DI ag3,KW]
   refine (YD G e.op _).use ?_
   have bm:MN e.op=true:=by rw [e2]; rfl
   simp -implicitDefEqProofs only [BB,AZ,BN,BM,BI,A8,CU,DY,AY,BC,BK,BU,CO,GN,EO,JH,AO,AQ,AL,BD,AX,AC,AA,EY,A7,AU,BH,BL,BF,BA,CP,DW,DV,BO,BQ,BJ,AB,EQ,↓reduceIte,Nat.reduceEqDiff,Nat.add_zero,Option.getD_some,Bool.not_true,Bool.not_false,enP,JR,bne,bm,f1,DI ag3,KW,b2]
   exact ⟨by rw [fin false (by rw [hv,bi]; rfl)]; rfl,_,rfl⟩
end Go.Proofs.YtocilianjfhifaaGreatDoor.Cov
/- The walk over an expression's nodes (program): every visitor that keeps a number; no condition. -/
set_option linter.unusedSimpArgs false
set_option maxRecDepth 8000
namespace Go.Proofs.YtocilianjfhifaaGreatDoor.Cov
open Go Go.Proofs Go.Proofs.YtocilianjfhifaaGreatDoor.Sm Go.Proofs.YtocilianjfhifaaGreatDoor.Bins Go.RowKit

theorem ASP:KJ Tryz.prog 196=some false:=by kernel_rfl
theorem AYM:szO Tryz.prog 196=some 1:=by kernel_rfl
theorem AZV (h:Hp):KD Tryz.prog h 53=some (.ptr h.length 0 0,h ++ [.live 4 [[.int .i64 0,.int .i64 0,.str ⟨#[]⟩,.sl .nil 0 []]]]):=JY (row := [.int .i64 0,.int .i64 0,.str ⟨#[]⟩,.sl .nil 0 []]) (by kernel_rfl)
theorem AYO (h:Hp) (e:Ex) (row:List AV) (hr:row.length=4):GG Tryz.prog (h ++ [.live 4 [row]]) 53 (.ptr h.length 0 0) (.agg (G6 e))=some (h ++ [.live 4 [G6 e]]):=by
 rw [OU (UZ (AEO e)) (by rw [KU]; exact AC4) (by rw [KU,hr]; exact Nat.le_refl _)]
 have:splice row 0 (G6 e)=G6 e:=by unfold splice; simp [KU,hr]
 rw [this]
theorem A06 (h:Hp):KD Tryz.prog h 38=some (.ptr h.length 0 0,h ++ [.live 1 [[.int .i64 0]]]):=JY (row := [.int .i64 0]) (by kernel_rfl)
theorem al3 (h:Hp):KD Tryz.prog h 3=some (.ptr h.length 0 0,h ++ [.live 1 [[.int .i64 0]]]):=JY (row := [.int .i64 0]) (by kernel_rfl)
theorem AZX (h:Hp):KD Tryz.prog h 196=some (.ptr h.length 0 0,h ++ [.live 1 [[.nilfn]]]):=JY (row := [.nilfn]) (by kernel_rfl)
/-- a cell of one value -/
theorem LM {h:Hp} {t:TypeId} {b:Nat} {v:AV} (hag:KJ Tryz.prog t=some false) (hb:h[b]? = some (.live 1 [[v]])):EE Tryz.prog h t (.ptr b 0 0)=some v:=by
 rw [D6 hag hb (row := [v]) rfl]; rfl
theorem U5 {h:Hp} {t:TypeId} {b:Nat} {v u:AV} (hs:szO Tryz.prog t=some 1) (hc:JK u=some [u]) (hb:h[b]? = some (.live 1 [[v]])):GG Tryz.prog h t (.ptr b 0 0) u=some (h.set b (.live 1 [[u]])):=by
 rw [MH hc hs hb (row := [v]) rfl (by simp)]; rfl
theorem A02 (h:Hp) (f:Fn) (a b:List AV):PY h (.fn f a b)=some (.ptr h.length 0 0,h ++ [.live 1 [[.fn f a b]]]):=rfl

/-- only one block has changed, and new ones may lie above -/
def Chg (c:Nat) (h h':Hp):Prop:=h.length≤h'.length∧∀ b,b < h.length→b≠c→h'[b]? = h[b]?
theorem Chg.refl (c:Nat) (h:Hp):Chg c h h:=⟨Nat.le_refl _,fun _ _ _=>rfl⟩
theorem Chg.trans {c:Nat} {a b d:Hp} (h1:Chg c a b) (h2:Chg c b d):Chg c a d :=
 ⟨Nat.le_trans h1.1 h2.1,fun i hi hc=>by rw [h2.2 i (Nat.lt_of_lt_of_le hi h1.1) hc,h1.2 i hi hc]⟩
theorem Chg.app (c:Nat) (h x:Hp):Chg c h (h ++ x):=⟨by simp,fun i hi _=>List.getElem?_append_left hi⟩
theorem Chg.set (c:Nat) (h:Hp) (x:ABlk):Chg c h (h.set c x):=⟨by simp,fun i _ hc=>by rw [List.getElem?_set,if_neg (fun e=>hc e.symm)]⟩
theorem Chg.get {c b:Nat} {h h':Hp} {x:ABlk} (hc:Chg c h h') (hb:h[b]? = some x) (hne:b≠c):h'[b]? = some x:=by
 rw [hc.2 b (CJ hb) hne]; exact hb
theorem Chg.above {c:Nat} {h h':Hp} (hc:Chg c h h') (hl:h.length≤c) : ∃ x,h'=h ++ x:=by
 refine ⟨h'.drop h.length,?_⟩
 have:h'.take h.length=h:=by
  refine List.ext_getElem? fun i => ?_
  rcases Nat.lt_or_ge i h.length with hi | hi
  ·rw [List.getElem?_take_of_lt hi,hc.2 i hi (by omega)]
  ·rw [List.getElem?_eq_none (by rw [List.length_take]; omega),List.getElem?_eq_none hi]
 conv=>lhs; rw [← List.take_append_drop h.length h',this]

/-- what a walk makes of a number -/
def run (upd:Ex→Int→Int) (cont:Int→Bool):List Ex→Int→Int × Bool
 | [],z=>(z,true)
 | e :: es,z=>if cont (upd e z) then run upd cont es (upd e z) else (upd e z,false)
theorem run_go {upd:Ex→Int→Int} {cont:Int→Bool} : ∀ {xs:List Ex} (ys:List Ex) {z z':Int},run upd cont xs z=(z',true)→run upd cont (xs ++ ys) z=run upd cont ys z'
 | [],ys,z,z',h=>by cases h; rfl
 | x :: xs,ys,z,z',h=>by
   simp only [run,List.cons_append] at h ⊢
   split at h
   ·rename_i hc; rw [if_pos hc]; exact run_go ys h
   ·cases h
theorem run_stop {upd:Ex→Int→Int} {cont:Int→Bool} : ∀ {xs:List Ex} (ys:List Ex) {z z':Int},run upd cont xs z=(z',false)→run upd cont (xs ++ ys) z=(z',false)
 | [],ys,z,z',h=>by cases h
 | x :: xs,ys,z,z',h=>by
   simp only [run,List.cons_append] at h ⊢
   split at h
   ·rename_i hc; rw [if_pos hc]; exact run_stop ys h
   ·rename_i hc; rw [if_neg hc]; exact h
theorem U8 (xs:List Ex) (j:Nat) (hj:j < xs.length):MB (xs.take (j+1))=MB (xs.take j) ++ pre xs[j]:=by
 rw [List.take_succ_eq_append_getElem hj,UH]; simp [MB]
theorem AL6 {a:Ex} : ∀ {xs:List Ex},a∈xs→∀ x∈pre a,x∈MB xs
 | [],h,_,_=>by cases h
 | y :: ys,h,x,hx=>by
   simp only [MB,List.mem_append]
   cases List.mem_cons.1 h with
   | inl e=>subst e; exact .inl hx
   | inr e=>exact .inr (AL6 e x hx)
def ANK (G:Nat→AV) (k:FuncId) (upd:Ex→Int→Int) (cont:Int→Bool) (e:Ex):Prop :=
 ∀ (h:Hp) (c:Nat) (z:Int),h[c]? = some (.live 1 [[.int .i64 z]])→ACalls (En G) k [.agg (G6 e),.ptr c 0 0] h fun v h'=>v = .bool (cont (upd e z))∧Chg c h h'∧h'[c]? = some (.live 1 [[.int .i64 (upd e z)]])
theorem AO3 (G:Nat→AV) (k:FuncId) (upd:Ex→Int→Int) (cont:Int→Bool) (c vb db:Nat) (hv:vb≠c) (hd:db≠c) (e:Ex) :
  wt e≤1099511627776→(∀ x∈pre e,ANK G k upd cont x)→∀ (h:Hp) (z:Int),h[c]? = some (.live 1 [[.int .i64 z]])→h[vb]? = some (.live 1 [[.fn (.func k) [] [.ptr c 0 0]]]) →
   h[db]? = some (.live 1 [[.fn (.func 230) [] [.ptr vb 0 0,.ptr db 0 0]]]) →
   ACalls (En G) 230 [.agg (G6 e),.ptr vb 0 0,.ptr db 0 0] h fun v h'=>v = .bool (run upd cont (pre e) z).2∧Chg c h h'∧h'[c]? = some (.live 1 [[.int .i64 (run upd cont (pre e) z).1]]):=by
 induction e using Ex.induct with | h e ih => ?_
 intro hw hvis h z hc hvb hdb
 have hcl:=CJ hc
 have hal:e.args.length≤1099511627776:=by have:=ZX e.args; have:=QA e; omega
 refine CG (H:=Hint.none) (enM G) Tryz.func230 rfl (by kernel_rfl) (by kernel_rfl) (Nat.le_of_ble_eq_true (by kernel_rfl)) ?_
 show awp _ _ _ _ _ (EU _ [.tmp 4] _)
 simp -implicitDefEqProofs only [BB,AZ,A8,AY,BC,AO,AQ,AL,BD,AX,AC,AA,A7,AU,BL,BA,FK,BO,CE,BX,BR,AB,BG,BV,List.map_cons,List.map_nil,List.nil_append,List.cons_append,↓reduceIte,Nat.reduceEqDiff,Option.getD_some,Bool.not_false,enP,bxE,LM ASP (DL hvb),ldE]
 refine (hvis e (by rw [pre_eq]; simp) _ c z (DL hc)).mono ?_
 rintro v h1 ⟨rfl,hch,hc1⟩
 have hch0:=(Chg.app c h _).trans hch
 have hb3:h1[h.length]? = some (.live 4 [G6 e]):=hch.get (CX _ _) (by omega)
 have hrun:run upd cont (pre e) z=if cont (upd e z) then run upd cont (MB e.args) (upd e z) else (upd e z,false):=by rw [pre_eq]; rfl
 simp -implicitDefEqProofs only [BI,A8,AY,BC,AO,AQ,AL,BD,AX,AC,AA,A7,H9,AB,FB,↓reduceIte,Option.getD_some,Bool.not_false]
 cases hct:cont (upd e z)
 ·simp -implicitDefEqProofs only [BB,AZ,BM,A8,CS,CU,DX,AY,BC,AO,AQ,AL,BD,AX,AC,AA,AU,BL,BA,↓reduceIte,Option.getD_some,Bool.not_false]
  rw [hrun,hct]
  exact ⟨rfl,hch0,hc1⟩
 rw [hct,if_pos rfl] at hrun
 have hvb1:=hch0.get hvb hv
 have hdb1:=hch0.get hdb hd
 have l3:EE Tryz.prog h1 51 (.ptr h.length 0 3)=some (.sl e.m 4 (e.args.map G6)):=by rw [D6 APL hb3 (row:=G6 e) rfl,AEP]
 simp -implicitDefEqProofs only [BB,BP,AZ,BN,A8,DY,AY,BC,AO,AQ,AL,BD,AX,AC,AA,A7,AU,BH,BF,BO,BJ,DN,AB,↓reduceIte,Nat.reduceEqDiff,Nat.zero_add,Option.getD_some,Bool.not_true,Bool.not_false,enP,AKN,TF,l3,List.length_map]
 refine C9 (fun n F H => ∃ j z',n+j=e.args.length∧F 1 = .ptr vb 0 0∧F 2 = .ptr db 0 0∧F 12 = .sl e.m 4 (e.args.map G6)∧F 13 = .int .i64 e.args.length∧F 14 = .int .i64 (j:Nat)∧Chg c h H∧H[c]? = some (.live 1 [[.int .i64 z']])∧run upd cont (MB (e.args.take j)) (upd e z)=(z',true)) e.args.length ⟨0,upd e z,by simp,by simp -implicitDefEqProofs only [AA,BG,BV,↓reduceIte,Nat.reduceEqDiff],by simp -implicitDefEqProofs only [AA,BG,BV,↓reduceIte,Nat.reduceEqDiff],by simp -implicitDefEqProofs only [AA,↓reduceIte,Nat.reduceEqDiff],by simp -implicitDefEqProofs only [AA,↓reduceIte,Nat.reduceEqDiff],by simp -implicitDefEqProofs only [AA,↓reduceIte]; rfl,hch0,hc1,rfl⟩ ?_
 rintro n F H ⟨j,z',hj,f1,f2,f12,f13,f14,hC,hcz,hr⟩
 simp -implicitDefEqProofs only [BB,AZ,BI,A8,AY,BC,AO,AQ,AL,BD,AX,AC,AA,A7,BQ,AB,CW,↓reduceIte,Option.getD_some,Bool.not_false,enP,f13,f14]
 refine CQ (fun hlt => ?_) (fun hlt => ?_)
 ·have hj':j < e.args.length:=by simpa using hlt
  have hdH:H[db]? = some (.live 1 [[.fn (.func 230) [] [.ptr vb 0 0,.ptr db 0 0]]]):=hC.get hdb hd
  have hvH:H[vb]? = some (.live 1 [[.fn (.func k) [] [.ptr c 0 0]]]):=hC.get hvb hv
  simp -implicitDefEqProofs only [BB,BP,AZ,BN,A8,AY,BC,AO,AQ,AL,BD,AX,AC,EZ,AA,A7,FW,BO,EI,BZ,CE,BX,BR,AB,DR,List.map_cons,List.map_nil,List.nil_append,List.cons_append,↓reduceIte,Nat.reduceEqDiff,Option.getD_some,Bool.not_false,enP,AUH,Option.getD_none,f12,f14,DJ hj',FD AJK AC4 KU hj',AZV,AYO _ _ [.int .i64 0,.int .i64 0,.str ⟨#[]⟩,.sl .nil 0 []] rfl,f2,LM ASP (DL hdH),ldE]
  have hmem:e.args[j]∈e.args:=List.getElem_mem hj'
  refine (ih e.args[j] hmem (by have:=WT hmem; have:=QA e; omega) (fun x hx=>hvis x (by rw [pre_eq]; exact List.mem_cons_of_mem _ (AL6 hmem x hx))) _ z' (DL hcz) (DL hvH) (DL hdH)).mono ?_
  rintro v h2 ⟨rfl,hch2,hc2⟩
  have hC2:=hC.trans ((Chg.app c H _).trans hch2)
  have hsplit:MB e.args=MB (e.args.take j) ++ (pre e.args[j] ++ MB (e.args.drop (j+1))):=by
   rw [← List.append_assoc,← U8 _ _ hj',← UH,List.take_append_drop]
  simp -implicitDefEqProofs only [BI,A8,AY,BC,AO,AQ,AL,BD,AX,AC,AA,A7,H9,AB,FB,↓reduceIte,Option.getD_some,Bool.not_false]
  rcases hrr:run upd cont (pre e.args[j]) z' with ⟨z2,b2⟩
  rw [hrr] at hc2
  cases b2
  ·simp -implicitDefEqProofs only [BB,AZ,BM,A8,CS,EG,FM,CU,DX,AY,BC,AO,AQ,AL,BD,AX,AC,AA,AU,BL,BA,↓reduceIte,Option.getD_some,Bool.not_false]
   have:run upd cont (pre e) z=(z2,false):=by rw [hrun,hsplit,run_go _ hr]; exact run_stop _ hrr
   rw [this]
   exact ⟨rfl,hC2,hc2⟩
  ·simp -implicitDefEqProofs only [AZ,BN,A8,D8,ED,DY,AY,BC,AO,AQ,AL,BD,AX,AC,AA,A7,AU,BH,BF,BQ,AB,CZ,↓reduceIte,Nat.reduceEqDiff,Option.getD_some,Bool.not_true,Bool.not_false,enP,f1,f2,f12,f13,f14,wrap_succ (show j < 9223372036854775807 by omega)]
   refine ⟨n - 1,by omega,j+1,z2,by omega,trivial,trivial,trivial,trivial,rfl,hC2,hc2,?_⟩
   rw [U8 _ _ hj',run_go _ hr]; exact hrr
 ·have hj' : ¬ j < e.args.length:=by simpa using hlt
  simp -implicitDefEqProofs only [BB,AZ,BM,DC,A8,DZ,EN,EP,CU,AY,BC,AO,AQ,AL,BD,AX,AC,AA,AU,BL,BA,↓reduceIte,Option.getD_some,Bool.not_false]
  rw [List.take_of_length_le (by omega)] at hr
  rw [hrun,hr]
  exact ⟨rfl,hC,hcz⟩

theorem ADS (G:Nat→AV) (k:FuncId) (upd:Ex→Int→Int) (cont:Int→Bool) (c:Nat) (e:Ex) (hw:wt e≤1099511627776) (hvis : ∀ x∈pre e,ANK G k upd cont x) (h:Hp) (z:Int) (hc:h[c]? = some (.live 1 [[.int .i64 z]])) :
  ACalls (En G) 196 [.agg (G6 e),.fn (.func k) [] [.ptr c 0 0]] h fun _ h'=>Chg c h h'∧h'[c]? = some (.live 1 [[.int .i64 (run upd cont (pre e) z).1]]):=by
 have hcl:=CJ hc
 refine CG (H:=Hint.none) (enM G) Tryz.func196 rfl (by kernel_rfl) (by kernel_rfl) (Nat.le_of_ble_eq_true (by kernel_rfl)) ?_
 show awp _ _ _ _ _ (EU _ [] _)
 simp -implicitDefEqProofs only [BB,AZ,A8,AY,BC,AO,AQ,AL,BD,AX,AC,AA,A7,FW,FK,EI,LZ,BR,BG,BV,List.map_cons,List.map_nil,↓reduceIte,Nat.reduceEqDiff,Option.getD_some,Bool.not_false,enP,Option.getD_none,bxE,A02,AZX]
 have g0:(h ++ [ABlk.live 4 [G6 e]] ++ [ABlk.live 1 [[AV.fn (.func k) [] [.ptr c 0 0]]]] ++ [ABlk.live 1 [[AV.nilfn]]])[(h ++ [ABlk.live 4 [G6 e]] ++ [ABlk.live 1 [[AV.fn (.func k) [] [.ptr c 0 0]]]]).length]? = some (.live 1 [[.nilfn]]):=CX _ _
 simp -implicitDefEqProofs only [AZ,A8,AY,BC,AO,AQ,AL,BD,AX,EZ,AA,A7,BO,DR,↓reduceIte,Nat.reduceEqDiff,Option.getD_some,Bool.not_false,enP,U5 AYM (AZ4 _ _ _) g0]
 generalize hdb:(h ++ [ABlk.live 4 [G6 e]] ++ [ABlk.live 1 [[AV.fn (.func k) [] [.ptr c 0 0]]]]).length=db at g0 ⊢
 generalize hvb:(h ++ [ABlk.live 4 [G6 e]]).length=vb
 have hvl:vb=h.length+1:=by rw [← hvb]; simp
 have hdl:db=h.length+2:=by rw [← hdb]; simp
 generalize hH:(h ++ [ABlk.live 4 [G6 e]] ++ [ABlk.live 1 [[AV.fn (.func k) [] [.ptr c 0 0]]]] ++ [ABlk.live 1 [[AV.nilfn]]]).set db (.live 1 [[AV.fn (.func 230) [] [.ptr vb 0 0,.ptr db 0 0]]])=H
 have h1:H[db]? = some (.live 1 [[.fn (.func 230) [] [.ptr vb 0 0,.ptr db 0 0]]]):=by rw [← hH]; exact EM g0
 have h2:H[vb]? = some (.live 1 [[.fn (.func k) [] [.ptr c 0 0]]]):=by
  rw [← hH]; refine EX ?_ (by omega)
  rw [← hvb]; exact DL (CX _ _)
 have h3:H[h.length]? = some (.live 4 [G6 e]):=by
  rw [← hH]; refine EX ?_ (by omega)
  exact DL (DL (CX _ _))
 have h4:H[c]? = some (.live 1 [[.int .i64 z]]):=by
  rw [← hH]; refine EX ?_ (by omega)
  exact DL (DL (DL hc))
 have hC:Chg c h H:=by
  refine ⟨by rw [← hH]; simp,fun b hb hbc => ?_⟩
  obtain ⟨x,hx⟩ : ∃ x,h[b]? = some x:=⟨_,List.getElem?_eq_getElem hb⟩
  rw [← hH,hx]
  exact EX (DL (DL (DL hx))) (by omega)
 simp -implicitDefEqProofs only [AY,AO,AQ,AL,BD,AX,AC,AA,A7,BO,CE,BX,AB,List.map_cons,List.map_nil,List.nil_append,List.cons_append,↓reduceIte,Nat.reduceEqDiff,Option.getD_some,Bool.not_false,enP,LM ASP h1,WE h3]
 refine (AO3 G k upd cont c vb db (by omega) (by omega) e hw hvis H z h4 h2 h1).mono ?_
 rintro v h' ⟨rfl,hch,hc1⟩
 simp -implicitDefEqProofs only [AGD,BC,AC]
 exact ⟨hC.trans hch,hc1⟩
end Go.Proofs.YtocilianjfhifaaGreatDoor.Cov
/- Depth, Size and Valid of expressions (program); no condition but the variables that are laid. -/
set_option linter.unusedSimpArgs false
set_option maxRecDepth 8000
namespace Go.Proofs.YtocilianjfhifaaGreatDoor.Cov
open Go Go.Proofs Go.Proofs.YtocilianjfhifaaGreatDoor.Sm Go.Proofs.YtocilianjfhifaaGreatDoor.Bins Go.RowKit

theorem AJ0 (G:Nat→AV) (e:Ex):ANK G 233 (fun _ z=>IntKind.i64.wrap (z+1)) (fun _=>true) e:=by
 intro h c z hc
 have hcl:=CJ hc
 refine CG (H:=Hint.none) (enM G) Tryz.func233 rfl (by kernel_rfl) (by kernel_rfl) (Nat.le_of_ble_eq_true (by kernel_rfl)) ?_
 show awp _ _ _ _ _ (EU _ [.tmp 3] _)
 simp -implicitDefEqProofs only [BB,AZ,BM,A8,CU,AY,BC,AO,AQ,AL,BD,AX,AC,EZ,AA,A7,AU,BH,BL,BA,FK,BO,EI,BQ,BR,AB,DR,CZ,BG,BV,↓reduceIte,Nat.reduceEqDiff,Option.getD_some,Bool.not_false,enP,Option.getD_none,bxE,LM ag3 (DL hc),U5 sz3 (TK _ _) (DL hc)]
 exact ⟨trivial,(Chg.app c h _).trans (Chg.set c _ _),EM (DL hc)⟩
theorem AIK (G:Nat→AV) (hG:GOk G) (e:Ex) (hl:e.name.size≤1048576):ANK G 197 (fun e _=>NH e) (fun z=>z == 0) e:=by
 intro h c z hc
 have hcl:=CJ hc
 refine CG (H:=Hint.none) (enM G) Tryz.func197 rfl (by kernel_rfl) (by kernel_rfl) (Nat.le_of_ble_eq_true (by kernel_rfl)) ?_
 show awp _ _ _ _ _ (EU _ [.tmp 3] _)
 simp -implicitDefEqProofs only [BB,AZ,A8,AY,BC,AO,AQ,AL,BD,AX,AC,AA,A7,AU,CB,BL,BA,FK,BO,CE,BX,BR,AB,BG,List.map_cons,List.map_nil,List.append_nil,↓reduceIte,Nat.reduceEqDiff,Option.getD_some,Bool.not_false,enP,bxE,ldE]
 refine (AOF G hG e _ hl).use ?_
 have hs:=EM (y := .live 1 [[.int .i64 (NH e)]]) (DL (x := .live 4 [G6 e]) hc)
 simp -implicitDefEqProofs only [BB,AZ,BM,A8,CU,AY,BC,AO,AQ,AL,BD,AX,AC,EZ,AA,A7,AU,BH,BA,BO,EI,BQ,AB,DR,EJ,BG,BV,↓reduceIte,Nat.reduceEqDiff,Option.getD_some,Bool.not_false,enP,Option.getD_none,U5 AWY (TK _ _) (DL hc),LM ASO hs]
 exact ⟨trivial,(Chg.app c h _).trans (Chg.set c _ _),hs⟩
theorem AHF : ∀ (xs:List Ex) (n:Nat),n+xs.length≤1099511627776→run (fun _ z=>IntKind.i64.wrap (z+1)) (fun _=>true) xs (n:Int)=(((n+xs.length:Nat):Int),true)
 | [],n,_=>rfl
 | x :: xs,n,h=>by
   simp only [List.length_cons] at h
   simp only [run,if_true]
   rw [wrap_succ (by omega),AHF xs (n+1) (by omega),List.length_cons]
   congr 1; omega
/-- the first error of nodes -/
def errs (xs:List Ex):Int:=xs.foldl (fun z e=>if z=0 then NH e else z) 0
theorem AM4 : ∀ (xs:List Ex) (z:Int),z≠0→xs.foldl (fun z e=>if z=0 then NH e else z) z=z
 | [],_,_=>rfl
 | x :: xs,z,h=>by rw [List.foldl_cons,if_neg h]; exact AM4 xs z h
theorem AHG : ∀ (xs:List Ex),(run (fun e _=>NH e) (fun z=>z == 0) xs 0).1=errs xs
 | []=>rfl
 | x :: xs=>by
   simp only [run,errs,List.foldl_cons,if_true]
   rcases hn:(NH x == 0) with _ | _
   ·have:NH x≠0:=by simpa using hn
    rw [AM4 _ _ this]; rfl
   ·have:NH x=0:=by simpa using hn
    rw [this]; simp only [if_true]; exact AHG xs
theorem AQJ {x e:Ex} (hx:x∈pre e):x.name.size≤wt e:=by
 induction e using Ex.induct with | h e ih => ?_
 rw [pre_eq] at hx
 have hw:=QA e
 rcases List.mem_cons.1 hx with rfl | hx
 ·omega
 have : ∀ l:List Ex,(∀ a∈l,x∈pre a→x.name.size≤wt a)→x∈MB l→x.name.size≤wts l:=by
  intro l
  induction l with
  | nil=>intro _ h; simp [MB] at h
  | cons y l ih2 =>
    intro hh h
    simp only [MB,List.mem_append] at h
    simp only [wts]
    rcases h with h | h
    ·have:=hh y (by simp) h; omega
    ·have:=ih2 (fun a ha=>hh a (by simp [ha])) h; omega
 have:=this e.args (fun a ha=>ih a ha) hx
 omega
theorem ANW (G:Nat→AV) (e:Ex) (h:Hp) (hw:wt e≤1099511627776):PCall (En G) 200 [.agg (G6 e)] h (.int .i64 (pre e).length):=by
 refine ACalls.pure0 rfl ?_
 refine CG (H:=Hint.none) (enM G) Tryz.func200 rfl (by kernel_rfl) (by kernel_rfl) (Nat.le_of_ble_eq_true (by kernel_rfl)) ?_
 show awp _ _ _ _ _ (EU _ [.tmp 2] _)
 have hg:=CX (h ++ [ABlk.live 4 [G6 e]]) (.live 1 [[.int .i64 0]])
 have hs:(h ++ [ABlk.live 4 [G6 e]] ++ [ABlk.live 1 [[.int .i64 0]]]).set (h ++ [ABlk.live 4 [G6 e]]).length (.live 1 [[.int .i64 0]])=h ++ [ABlk.live 4 [G6 e]] ++ [ABlk.live 1 [[.int .i64 0]]]:=ZZ _ _ _
 simp -implicitDefEqProofs only [BB,AZ,A8,AY,BC,AO,AQ,AL,BD,AX,AC,EZ,AA,A7,AU,CB,BH,BA,FW,FK,BO,EI,LZ,CE,BX,BR,AB,DR,BG,List.map_cons,List.map_nil,List.append_nil,↓reduceIte,Nat.reduceEqDiff,Option.getD_some,Bool.not_false,enP,Option.getD_none,bxE,al3,U5 sz3 (TK _ _) hg,hs,WE (DL (CX h _))]
 refine (ADS G 233 _ _ _ e hw (fun x _=>AJ0 G x) _ 0 hg).mono ?_
 rintro v h' ⟨hch,hc1⟩
 simp -implicitDefEqProofs only [BB,AZ,BM,A8,CU,AY,BC,AO,AQ,AL,BD,AX,AC,AA,A7,BA,BO,AB,↓reduceIte,Nat.reduceEqDiff,Option.getD_some,Bool.not_false,enP,LM ag3 hc1]
 have:=AHF (pre e) 0 (by have:=AQI e; omega)
 simp only [Nat.zero_add] at this
 exact ⟨by rw [show (0:Int)=((0:Nat):Int) from rfl,this],(((Chg.app _ h _).trans (Chg.app _ _ _)).trans hch).above (by simp)⟩
theorem AK3 (G:Nat→AV) (e:Ex):wt e≤1099511627776→∀ h:Hp,PCall (En G) 199 [.agg (G6 e)] h (.int .i64 (dep e)):=by
 induction e using Ex.induct with | h e ih => ?_
 intro hw h
 have hal:e.args.length≤1099511627776:=by have:=ZX e.args; have:=QA e; omega
 refine ACalls.pure0 rfl ?_
 refine CG (H:=Hint.none) (enM G) Tryz.func199 rfl (by kernel_rfl) (by kernel_rfl) (Nat.le_of_ble_eq_true (by kernel_rfl)) ?_
 show awp _ _ _ _ _ (EU _ [.tmp 2] _)
 simp -implicitDefEqProofs only [BB,BP,AZ,A8,AY,BC,AO,AQ,AL,BD,AX,AC,AA,A7,AU,BH,BF,BA,FK,BO,BJ,DN,BR,AB,BG,↓reduceIte,Nat.reduceEqDiff,Nat.zero_add,Option.getD_some,Bool.not_false,enP,AKN,TF,bxE,DI APL,AEP,List.length_map]
 have hdw:dep e≤1099511627776:=Nat.le_trans (AR0 e) hw
 refine C9 (fun n F H => ∃ j,n+j=e.args.length∧F 3 = .int .i64 (deps (e.args.take j):Nat)∧F 7 = .sl e.m 4 (e.args.map G6)∧F 8 = .int .i64 e.args.length∧F 9 = .int .i64 (j:Nat)∧∃ x,H=h ++ x) e.args.length ⟨0,by simp,by simp -implicitDefEqProofs only [AA,↓reduceIte,Nat.reduceEqDiff]; rfl,by simp -implicitDefEqProofs only [AA,↓reduceIte,Nat.reduceEqDiff],by simp -implicitDefEqProofs only [AA,↓reduceIte,Nat.reduceEqDiff],by simp -implicitDefEqProofs only [AA,↓reduceIte]; rfl,⟨_,rfl⟩⟩ ?_
 rintro n F H ⟨j,hj,f3,f7,f8,f9,x,rfl⟩
 simp -implicitDefEqProofs only [BB,AZ,BI,A8,AY,BC,AO,AQ,AL,BD,AX,AC,AA,A7,BQ,AB,CW,↓reduceIte,Option.getD_some,Bool.not_false,enP,f8,f9]
 refine CQ (fun hlt => ?_) (fun hlt => ?_)
 ·have hj':j < e.args.length:=by simpa using hlt
  have hmem:e.args[j]∈e.args:=List.getElem_mem hj'
  simp -implicitDefEqProofs only [BB,BP,AZ,BN,A8,AY,BC,AO,AQ,AL,BD,AX,AC,EZ,AA,A7,CB,BF,FW,BO,EI,BZ,CE,BX,BR,AB,DR,List.map_cons,List.map_nil,List.append_nil,↓reduceIte,Nat.reduceEqDiff,Option.getD_some,Bool.not_false,enP,AUH,Option.getD_none,f3,f7,f9,DJ hj',FD AJK AC4 KU hj',AZV,AYO _ _ [.int .i64 0,.int .i64 0,.str ⟨#[]⟩,.sl .nil 0 []] rfl,ldE]
  refine (ih e.args[j] hmem (by have:=WT hmem; have:=QA e; omega) _).use ?_
  simp -implicitDefEqProofs only [AZ,A8,D8,ED,AY,BC,AO,AQ,AL,BD,AX,AC,AA,A7,AU,BH,BF,BA,BQ,AYJ,AB,CZ,AXF,↓reduceIte,Nat.reduceEqDiff,Option.getD_some,Bool.not_false,enP,f7,f8,f9,wrap_succ (show j < 9223372036854775807 by omega)]
  refine ⟨n - 1,by omega,j+1,by omega,?_,trivial,trivial,rfl,_,by rw [List.append_assoc]⟩
  rw [AEQ _ _ hj']
  congr 1
  omega
 ·have hj' : ¬ j < e.args.length:=by simpa using hlt
  rw [List.take_of_length_le (by omega)] at f3
  rw [AGF] at hdw ⊢
  simp -implicitDefEqProofs only [BB,AZ,BM,DC,A8,DZ,EN,EP,CU,AY,BC,AO,AQ,AL,BD,AX,AC,AA,A7,AU,BH,BF,BA,BQ,AB,CZ,↓reduceIte,Nat.reduceEqDiff,Option.getD_some,Bool.not_false,enP,f3,wrap_succ (show deps e.args < 9223372036854775807 by omega)]
  exact ⟨trivial,x,rfl⟩
/-- what Valid returns -/
def exE (e:Ex):Int:=if errs (pre e)=0∧(24 < dep e∨400 < (pre e).length) then 2 else errs (pre e)
theorem AGA (G:Nat→AV) (hG:GOk G) (e:Ex) (h:Hp) (hw:wt e≤1048576):PCall (En G) 151 [.agg (G6 e)] h (.int .i64 (exE e)):=by
 refine ACalls.pure0 rfl ?_
 refine CG (H:=Hint.none) (enM G) Tryz.func151 rfl (by kernel_rfl) (by kernel_rfl) (Nat.le_of_ble_eq_true (by kernel_rfl)) ?_
 show awp _ _ _ _ _ (EU _ [.tmp 2] _)
 have hg:=CX (h ++ [ABlk.live 4 [G6 e]]) (.live 1 [[.int .i64 0]])
 have hs:(h ++ [ABlk.live 4 [G6 e]] ++ [ABlk.live 1 [[.int .i64 0]]]).set (h ++ [ABlk.live 4 [G6 e]]).length (.live 1 [[.int .i64 0]])=h ++ [ABlk.live 4 [G6 e]] ++ [ABlk.live 1 [[.int .i64 0]]]:=ZZ _ _ _
 have hb:=DL (x:=ABlk.live 1 [[.int .i64 0]]) (CX h (.live 4 [G6 e]))
 simp -implicitDefEqProofs only [BB,AZ,A8,AY,BC,AO,AQ,AL,BD,AX,AC,EZ,AA,A7,AU,CB,BH,BA,FW,FK,BO,EI,LZ,CE,BX,BR,AB,DR,BG,List.map_cons,List.map_nil,List.append_nil,↓reduceIte,Nat.reduceEqDiff,Option.getD_some,Bool.not_false,enP,Option.getD_none,bxE,A06,U5 AWY (TK _ _) hg,hs,WE hb]
 refine (ADS G 197 _ _ _ e (by omega) (fun x hx=>AIK G hG x (by have:=AQJ hx; omega)) _ 0 hg).mono ?_
 rintro v h' ⟨hch,hc1⟩
 rw [AHG] at hc1
 have hb':=hch.get hb (by simp)
 have hab:=(((Chg.app _ h _).trans (Chg.app _ _ _)).trans hch).above (show h.length≤(h ++ [ABlk.live 4 [G6 e]]).length by simp)
 simp -implicitDefEqProofs only [BB,AZ,A8,AY,BC,BK,BU,CO,AO,AQ,AL,BD,AX,AC,AA,A7,AU,BH,BF,BO,BQ,AB,EJ,↓reduceIte,Nat.reduceEqDiff,Option.getD_some,Bool.not_false,enP,LM ASO hc1]
 rcases he:(errs (pre e) == 0) with _ | _
 ·simp -implicitDefEqProofs only [BB,AZ,BN,BM,BI,A8,CU,DY,AY,BC,BK,BU,CO,JH,QP,AO,AQ,AL,BD,AX,AC,AA,EY,A7,AU,BL,BA,CP,DV,BO,AB,↓reduceIte,Nat.reduceEqDiff,Option.getD_some,Bool.not_false,enP,LM ASO hc1]
  have:errs (pre e)≠0:=by simpa using he
  exact ⟨by unfold exE; rw [if_neg (fun hh=>this hh.1)],hab⟩
 have he0:errs (pre e)=0:=by simpa using he
 simp -implicitDefEqProofs only [BK,BU,CO,GN,AO,AQ,AL,BD,AX,AC,AA,A7,CB,BO,CE,BX,AB,List.map_cons,List.map_nil,List.append_nil,↓reduceIte,Nat.reduceEqDiff,Option.getD_some,Bool.not_false,enP,WE hb']
 refine (AK3 G e (by omega) _).use ?_
 simp -implicitDefEqProofs only [BK,BU,CO,GN,AO,AQ,AL,BD,AX,AC,AA,A7,AU,BH,BF,BQ,AB,EW,↓reduceIte,Nat.reduceEqDiff,Option.getD_some,Bool.not_false,enP]
 refine H8 (fun hd => ?_) (fun hd => ?_)
 ·simp -implicitDefEqProofs only [BB,AZ,BM,BI,A8,CS,CU,DX,AY,BC,BK,BU,CO,GN,F5,AO,AQ,AL,BD,AX,AC,AA,EY,A7,AU,BH,BL,BA,CP,DW,↓reduceIte,Nat.reduceEqDiff,Option.getD_some,Bool.not_false,hd]
  exact ⟨by unfold exE; rw [if_pos ⟨he0,.inl (by simp at hd; omega)⟩],hab⟩
 simp -implicitDefEqProofs only [BK,BU,CO,EO,AO,AQ,AL,BD,AX,AC,AA,A7,CB,BO,CE,BX,AB,List.map_cons,List.map_nil,List.append_nil,↓reduceIte,Nat.reduceEqDiff,Option.getD_some,Bool.not_false,enP,hd,WE hb']
 refine (ANW G e _ (by omega)).use ?_
 simp -implicitDefEqProofs only [BI,A8,AY,BC,BK,BU,CO,GN,EO,AO,AQ,AL,BD,AX,AC,AA,A7,AU,BH,BL,CP,DW,DV,BQ,AB,EW,↓reduceIte,Nat.reduceEqDiff,Option.getD_some,Bool.not_false,enP]
 refine CQ (fun hn => ?_) (fun hn => ?_)
 ·simp -implicitDefEqProofs only [BB,AZ,BM,A8,CS,CU,AY,BC,AO,AQ,AL,BD,AX,AC,AA,AU,BH,BA,↓reduceIte,Option.getD_some,Bool.not_false]
  exact ⟨by unfold exE; rw [if_pos ⟨he0,.inr (by simp at hn; omega)⟩],hab⟩
 ·simp -implicitDefEqProofs only [BB,AZ,BN,BM,A8,CU,AY,BC,AO,AQ,AL,BD,AX,AC,AA,A7,BA,BO,AB,↓reduceIte,Nat.reduceEqDiff,Option.getD_some,Bool.not_false,enP,LM ASO hc1]
  exact ⟨by unfold exE; rw [if_neg (fun hh=>by simp at hn hd; omega)],hab⟩
end Go.Proofs.YtocilianjfhifaaGreatDoor.Cov
/- The reference's walk: see, over, Valid; no condition. -/
set_option linter.unusedSimpArgs false
set_option maxRecDepth 8000
namespace Go.Proofs.YtocilianjfhifaaGreatDoor.Cov
open Go Go.Proofs Go.Proofs.YtocilianjfhifaaGreatDoor.Sm Go.Proofs.YtocilianjfhifaaGreatDoor.Bins Go.RowKit

theorem UQ {E:Env} {H:Hint} {x y:Code} {F:Fr} {h:Hp} {Q:AEx→Fr→Hp→Prop} {b:Bool} (N R:Fr→Hp→Prop) (h1:b=true→awp E H x F h (AT5 N R)) (h2:b=false→awp E H y F h (AT5 N R)) (hn : ∀ F h,N F h→Q .normal F h) (hr : ∀ F h,R F h→Q .ret F h) :
 ACF E H x y F h Q (.bool b):=⟨fun e=>ANI N R (h1 e) hn hr,fun e=>ANI N R (h2 e) hn hr⟩
def isB (v:AV) (b:Nat):Prop:=match v with
 | .own b' _ _=>b'=b
 | _=>False
/-- a list of strings that is the walk's own -/
def sv (h:Hp) (m:Nat) (v:AV):Prop := ∃ vs:List ByteArray,vs.length≤m∧((vs = []∧∃ k,v = .sl .nil k [])∨∃ b,v = .own b 0 vs.length∧h[b]? = some (.live 1 (vs.map encStr)))
theorem AUK (G:Nat→AV) (k:Nat) (v:ByteArray) (h:Hp):PCall (En G) 226 [.sl .nil k [],.str v] h (.bool false):=by
 refine CG (H:=Hint.none) (enM G) Tryz.func226 rfl (by kernel_rfl) (by kernel_rfl) (Nat.le_of_ble_eq_true (by kernel_rfl)) ?_
 show awp _ _ _ _ _ (EU _ [.tmp 4] _)
 simp -implicitDefEqProofs only [BB,BP,AZ,A8,AY,BC,AO,AQ,AL,BD,AX,AC,AU,BH,BL,BA,Option.getD_some,Bool.not_false,enP]
 refine C9 (fun n F H=>F 0 = .sl .nil k []∧F 5 = .int .i64 0∧H=h) 0 ⟨rfl,rfl,rfl⟩ ?_
 rintro n F H ⟨f0,f5,rfl⟩
 simp -implicitDefEqProofs only [BB,AZ,BI,A8,AY,BC,AO,AQ,AL,BD,AX,AC,AA,A7,BF,BQ,DN,AB,CW,↓reduceIte,Nat.reduceEqDiff,Option.getD_some,Bool.not_false,enP,AMN,f0,f5,List.length_nil]
 have:decide ((0:Int) < ((0:Nat):Int))=false:=by simp
 simp -implicitDefEqProofs only [BB,AZ,BM,DC,A8,DZ,EN,EP,CU,DY,AY,BC,AO,AQ,AL,BD,AX,AC,AA,AU,BL,BA,↓reduceIte,Option.getD_some,Bool.not_false,this]
 exact ⟨trivial,trivial⟩
theorem AFE {α:Type} {f:α→List AV} {xs:List α} {k:Nat} (hk:k < xs.length):(xs.map f)[k]? = some (f xs[k]):=by
 rw [List.getElem?_map,List.getElem?_eq_getElem hk]; rfl
theorem IW {h x:Hp} {y:ABlk} {b:Nat} (hb:h[b]? = some y):(h ++ x)[b]? = some y:=by
 rw [List.getElem?_append_left (CJ hb)]; exact hb
theorem AUJ (G:Nat→AV) (xs:List ByteArray) (b:Nat) (v:ByteArray) (h:Hp) (hb:h[b]? = some (.live 1 (xs.map encStr))) (hl:xs.length≤1099511627776) :
  PCall (En G) 226 [.own b 0 xs.length,.str v] h (.bool (JS xs v)):=by
 refine CG (H:=Hint.none) (enM G) Tryz.func226 rfl (by kernel_rfl) (by kernel_rfl) (Nat.le_of_ble_eq_true (by kernel_rfl)) ?_
 show awp _ _ _ _ _ (EU _ [.tmp 4] _)
 simp -implicitDefEqProofs only [BB,BP,AZ,A8,AY,BC,AO,AQ,AL,BD,AX,AC,AU,BH,BL,BA,Option.getD_some,Bool.not_false,enP]
 refine C9 (fun n F H => ∃ k,n+k=xs.length∧F 0 = .own b 0 xs.length∧F 1 = .str v∧F 5 = .int .i64 (k:Nat)∧H=h∧JS xs v=JS (xs.drop k) v) xs.length ⟨0,by simp,rfl,rfl,rfl,rfl,rfl⟩ ?_
 rintro n F H ⟨k,hk,f0,f1,f5,rfl,hin⟩
 simp -implicitDefEqProofs only [BB,AZ,BI,A8,AY,BC,AO,AQ,AL,BD,AX,AC,AA,A7,BF,BQ,DN,AB,CW,↓reduceIte,Nat.reduceEqDiff,Option.getD_some,Bool.not_false,enP,AMN,f0,f1,f5]
 refine CQ (fun hc => ?_) (fun hc => ?_)
 ·have hc':k < xs.length:=by simpa using hc
  have hs:JS (xs.drop k) v=((v.toList == xs[k].toList) || JS (xs.drop (k+1)) v):=LV _ xs k hc'
  have l1:EE Tryz.prog H 9 (.ptr b k 0)=some (.str xs[k]):=by rw [D6 ag9 hb (row:=encStr xs[k]) (AFE hc')]; rfl
  simp -implicitDefEqProofs only [BB,BP,AZ,BN,BI,A8,AY,BC,AO,AQ,AL,BD,AX,AC,AA,A7,BF,BO,BQ,BZ,AB,NL,↓reduceIte,Nat.reduceEqDiff,Nat.zero_add,Option.getD_some,Bool.not_false,enP,AQ1,f0,f1,f5,TD hb hc',l1]
  refine CQ (fun hb => ?_) (fun hb => ?_)
  ·simp -implicitDefEqProofs only [BB,AZ,BM,A8,CS,EG,FM,CU,AY,BC,AO,AQ,AL,BD,AX,AC,AA,AU,BL,BA,↓reduceIte,Option.getD_some,Bool.not_false]
   refine ⟨?_,trivial⟩
   rw [hin,hs,show (v.toList == xs[k].toList)=true by rw [BEq.comm]; exact hb]; rfl
  ·simp -implicitDefEqProofs only [AZ,BN,A8,D8,ED,AY,BC,AO,AQ,AL,BD,AX,AC,AA,A7,AU,BH,BF,BA,BQ,AB,CZ,↓reduceIte,Nat.reduceEqDiff,Option.getD_some,Bool.not_false,enP,f5,wrap_succ (show k < 9223372036854775807 by omega)]
   refine ⟨n - 1,by omega,k+1,by omega,f0,f1,rfl,trivial,?_⟩
   rw [hin,hs,show (v.toList == xs[k].toList)=false by rw [BEq.comm]; exact hb]; rfl
 ·have hc' : ¬ k < xs.length:=by simpa using hc
  simp -implicitDefEqProofs only [BB,AZ,BM,DC,A8,DZ,EN,EP,CU,AY,BC,AO,AQ,AL,BD,AX,AC,AA,AU,BL,BA,↓reduceIte,Option.getD_some,Bool.not_false]
  exact ⟨by rw [hin,List.drop_eq_nil_of_le (by omega)]; rfl,trivial⟩
theorem AQ5 (G:Nat→AV) {h:Hp} {m:Nat} {v:AV} (s:ByteArray) (hv:sv h m v) (hm:m≤8388608) : ∃ r,PCall (En G) 226 [v,.str s] h (.bool r):=by
 obtain ⟨vs,hl,⟨_,k,rfl⟩ | ⟨b,rfl,hb⟩⟩:=hv
 ·exact ⟨_,AUK G k s h⟩
 ·exact ⟨_,AUJ G vs b s h hb (by omega)⟩
theorem AWM (h:Hp) (s:ByteArray):FO Tryz.prog false h 179 1 [(0,.str s)]=some (.sl .full 1 [[.str s]],h):=by kernel_rfl
theorem ASI {h:Hp} {m:Nat} {v:AV} (s:ByteArray) (hv:sv h m v) (hm:m≤8388608) : ∃ v' h',G5 Tryz.prog true h 179 179 v (.sl .full 1 [[.str s]])=some (v',h')∧sv h' (m+1) v'∧(∀ b,isB v' b→b=h.length) ∧
  h.length≤h'.length∧∀ b,b < h.length→¬ isB v b→h'[b]? = h[b]? := by
 obtain ⟨vs,hl,⟨rfl,k,rfl⟩ | ⟨b,rfl,hb⟩⟩:=hv
 ·refine ⟨_,_,XY AVS sz9 AVQ AWH (KX h .full 1 [[.str s]]) (by simp) (KO (by simp) (by omega)),⟨[s],by simp,.inr ⟨h.length,rfl,CX _ _⟩⟩,fun b hb=>hb.symm,by simp,fun b hb _=>List.getElem?_append_left hb⟩
 ·have hc:KA h (.own b 0 vs.length)=some (1,vs.map encStr):=by
   rw [P8 hb (by simp),List.drop_zero,List.take_of_length_le (by simp)]
  refine ⟨_,_,AAL AVS sz9 AVQ AWH hc (KX h .full 1 [[.str s]]) (by simp) (KO (by simp; omega) (by omega)),⟨vs ++ [s],by simp; omega,.inr ⟨h.length,by simp,by simp [encStr]⟩⟩,fun b hb=>hb.symm,by simp,fun o ho hn => ?_⟩
  rw [List.getElem?_append_left (by simpa using ho)]
  have hn' : ¬ b=o:=hn
  rw [List.getElem?_set,if_neg hn']
/-- the walk's block -/
def wRow (n dd:Nat) (f:Int) (v1 v2:AV):List AV := [.int .i64 n,.int .i64 dd,.int .i64 f,v1,v2]
structure St (h:Hp) (c m1 m2 n dd:Nat) (f:Int) (v1 v2:AV):Prop where
 w:h[c]? = some (.live 5 [wRow n dd f v1 v2])
 s1:sv h m1 v1
 s2:sv h m2 v2
 ap : ∀ b,isB v1 b→¬ isB v2 b
theorem sv.b {h:Hp} {m:Nat} {v:AV} {b:Nat} (hs:sv h m v) (hb:isB v b) : ∃ vs:List ByteArray,h[b]? = some (.live 1 (vs.map encStr)):=by
 obtain ⟨vs,_,⟨_,k,rfl⟩ | ⟨b',rfl,h'⟩⟩:=hs
 ·exact hb.elim
 ·cases hb; exact ⟨vs,h'⟩
theorem sv.ne {h:Hp} {m b c:Nat} {v:AV} {row:List AV} (hs:sv h m v) (hc:h[c]? = some (.live 5 [row])) (hb:isB v b):b≠c:=by
 intro e; subst e
 obtain ⟨vs,h'⟩:=hs.b hb
 rw [h'] at hc; cases hc
theorem sv.keep {h h':Hp} {m m':Nat} {v:AV} (hs:sv h m v) (hm:m≤m') (hk : ∀ b,isB v b→h'[b]? = h[b]?):sv h' m' v:=by
 obtain ⟨vs,hl,⟨e,k,rfl⟩ | ⟨b,rfl,hb⟩⟩:=hs
 ·exact ⟨vs,by omega,.inl ⟨e,k,rfl⟩⟩
 ·exact ⟨vs,by omega,.inr ⟨b,rfl,by rw [hk b rfl]; exact hb⟩⟩
/-- what the walk leaves as it was -/
structure Ch (c:Nat) (v1 v2:AV) (h:Hp) (v1' v2':AV) (h':Hp):Prop where
 len:h.length≤h'.length
 get : ∀ b,b < h.length→b≠c→¬ isB v1 b→¬ isB v2 b→h'[b]? = h[b]?
 n1 : ∀ b,isB v1' b→isB v1 b∨h.length≤b
 n2 : ∀ b,isB v2' b→isB v2 b∨h.length≤b
theorem Ch.refl (c:Nat) (v1 v2:AV) (h:Hp):Ch c v1 v2 h v1 v2 h:=⟨Nat.le_refl _,fun _ _ _ _ _=>rfl,fun _ h => .inl h,fun _ h => .inl h⟩
theorem Ch.trans {c:Nat} {v1 v2 u1 u2 w1 w2:AV} {a b d:Hp} (h1:Ch c v1 v2 a u1 u2 b) (h2:Ch c u1 u2 b w1 w2 d):Ch c v1 v2 a w1 w2 d:=by
 refine ⟨Nat.le_trans h1.len h2.len,fun i hi hc hv hu => ?_,fun i hi => ?_,fun i hi => ?_⟩
 ·rw [h2.get i (Nat.lt_of_lt_of_le hi h1.len) hc (fun e=>(h1.n1 i e).elim hv (fun e=>by omega)) (fun e=>(h1.n2 i e).elim hu (fun e=>by omega)),h1.get i hi hc hv hu]
 ·rcases h2.n1 i hi with h | h
  ·exact h1.n1 i h
  ·exact .inr (Nat.le_trans h1.len h)
 ·rcases h2.n2 i hi with h | h
  ·exact h1.n2 i h
  ·exact .inr (Nat.le_trans h1.len h)
theorem Ch.app (c:Nat) (v1 v2:AV) (h x:Hp):Ch c v1 v2 h v1 v2 (h ++ x):=⟨by simp,fun _ hi _ _ _=>List.getElem?_append_left hi,fun _ h => .inl h,fun _ h => .inl h⟩
theorem Ch.set (c:Nat) (v1 v2:AV) (h:Hp) (x:ABlk):Ch c v1 v2 h v1 v2 (h.set c x):=⟨by simp,fun _ _ hc _ _=>by rw [List.getElem?_set,if_neg (fun e=>hc e.symm)],fun _ h => .inl h,fun _ h => .inl h⟩
theorem St.app {h:Hp} {c m1 m2 n dd:Nat} {f:Int} {v1 v2:AV} (s:St h c m1 m2 n dd f v1 v2) (x:Hp):St (h ++ x) c m1 m2 n dd f v1 v2:=by
 have keep : ∀ v m,sv h m v→sv (h ++ x) m v:=fun v m hv=>hv.keep (Nat.le_refl _) fun b hb=>by
  obtain ⟨vs,h'⟩:=hv.b hb
  exact List.getElem?_append_left (CJ h')
 exact ⟨IW s.w,keep _ _ s.s1,keep _ _ s.s2,s.ap⟩
theorem St.set {h:Hp} {c m1 m2 n dd:Nat} {f:Int} {v1 v2:AV} (s:St h c m1 m2 n dd f v1 v2) (n' dd':Nat) (f':Int):St (h.set c (.live 5 [wRow n' dd' f' v1 v2])) c m1 m2 n' dd' f' v1 v2:=by
 have keep : ∀ v m,sv h m v→sv (h.set c (.live 5 [wRow n' dd' f' v1 v2])) m v:=fun v m hv=>hv.keep (Nat.le_refl _) fun b hb=>by
  rw [List.getElem?_set,if_neg (fun e=>hv.ne s.w hb e.symm)]
 exact ⟨EM s.w,keep _ _ s.s1,keep _ _ s.s2,s.ap⟩
section
variable {h:Hp} {c m1 m2 n dd:Nat} {f:Int} {v1 v2:AV} (s:St h c m1 m2 n dd f v1 v2)
include s
theorem St.l0:EE Tryz.prog h 3 (.ptr c 0 0)=some (.int .i64 n):=by rw [D6 ag3 s.w (row:=wRow n dd f v1 v2) rfl]; rfl
theorem St.l1:EE Tryz.prog h 3 (.ptr c 0 1)=some (.int .i64 dd):=by rw [D6 ag3 s.w (row:=wRow n dd f v1 v2) rfl]; rfl
theorem St.l2:EE Tryz.prog h 38 (.ptr c 0 2)=some (.int .i64 f):=by rw [D6 ASO s.w (row:=wRow n dd f v1 v2) rfl]; rfl
theorem St.l3:EE Tryz.prog h 179 (.ptr c 0 3)=some v1:=by rw [D6 ASQ s.w (row:=wRow n dd f v1 v2) rfl]; rfl
theorem St.l4:EE Tryz.prog h 179 (.ptr c 0 4)=some v2:=by rw [D6 ASQ s.w (row:=wRow n dd f v1 v2) rfl]; rfl
theorem St.t0 (x:Nat):GG Tryz.prog h 3 (.ptr c 0 0) (.int .i64 x)=some (h.set c (.live 5 [wRow x dd f v1 v2])):=by
 rw [MH (TK _ _) sz3 s.w (row:=wRow n dd f v1 v2) rfl (by simp [wRow])]; rfl
theorem St.t1 (x:Nat):GG Tryz.prog h 3 (.ptr c 0 1) (.int .i64 x)=some (h.set c (.live 5 [wRow n x f v1 v2])):=by
 rw [MH (TK _ _) sz3 s.w (row:=wRow n dd f v1 v2) rfl (by simp [wRow])]; rfl
theorem St.t2 (x:Int):GG Tryz.prog h 38 (.ptr c 0 2) (.int .i64 x)=some (h.set c (.live 5 [wRow n dd x v1 v2])):=by
 rw [MH (TK _ _) AWY s.w (row:=wRow n dd f v1 v2) rfl (by simp [wRow])]; rfl
end

/-- appending to the one list or the other, and writing it down -/
theorem St.app3 {h:Hp} {c m1 m2 n dd:Nat} {f:Int} {v1 v2:AV} (s:St h c m1 m2 n dd f v1 v2) (x:ByteArray) (hm:m1≤8388608) :
  ∃ v' h',G5 Tryz.prog true h 179 179 v1 (.sl .full 1 [[.str x]])=some (v',h')∧GG Tryz.prog h' 179 (.ptr c 0 3) v'=some (h'.set c (.live 5 [wRow n dd f v' v2])) ∧
    St (h'.set c (.live 5 [wRow n dd f v' v2])) c (m1+1) m2 n dd f v' v2∧Ch c v1 v2 h v' v2 (h'.set c (.live 5 [wRow n dd f v' v2])):=by
 obtain ⟨v',h',ha,hs,hb,hl,hk⟩:=ASI x s.s1 hm
 have hc1 : ¬ isB v1 c:=fun e=>s.s1.ne s.w e rfl
 have hc2 : ¬ isB v2 c:=fun e=>s.s2.ne s.w e rfl
 have hcl:=CJ s.w
 have hw:h'[c]? = some (.live 5 [wRow n dd f v1 v2]):=by rw [hk c hcl hc1]; exact s.w
 have hvc : ∀ b,isB v' b→b≠c:=fun b hb' e=>by have:=hb b hb'; omega
 have hac:JK v'=some [v']:=by
  obtain ⟨vs,_,⟨_,k,rfl⟩ | ⟨b,rfl,_⟩⟩:=hs <;> rfl
 refine ⟨v',h',ha,by rw [MH hac AVU hw (row:=wRow n dd f v1 v2) rfl (by simp [wRow])]; rfl,⟨EM hw,hs.keep (Nat.le_refl _) fun b hb' => ?_,s.s2.keep (Nat.le_refl _) fun b hb' => ?_,fun b h1 h2 => ?_⟩,⟨by simpa using hl,fun b hbl hne h1 h2 => ?_,fun b hb' => .inr (by rw [hb b hb']; exact Nat.le_refl _),fun b hb' => .inl hb'⟩⟩
 ·rw [List.getElem?_set,if_neg (fun e=>hvc b hb' e.symm)]
 ·obtain ⟨_,hx⟩:=s.s2.b hb'
  rw [List.getElem?_set,if_neg (fun e=>hc2 (by rw [e]; exact hb')),hk b (CJ hx) (fun e=>s.ap b e hb')]
 ·obtain ⟨_,hx⟩:=s.s2.b h2
  have:=hb b h1; have:=CJ hx; omega
 ·rw [List.getElem?_set,if_neg (fun e=>hne e.symm),hk b hbl h1]
theorem St.app4 {h:Hp} {c m1 m2 n dd:Nat} {f:Int} {v1 v2:AV} (s:St h c m1 m2 n dd f v1 v2) (x:ByteArray) (hm:m2≤8388608) :
  ∃ v' h',G5 Tryz.prog true h 179 179 v2 (.sl .full 1 [[.str x]])=some (v',h')∧GG Tryz.prog h' 179 (.ptr c 0 4) v'=some (h'.set c (.live 5 [wRow n dd f v1 v'])) ∧
    St (h'.set c (.live 5 [wRow n dd f v1 v'])) c m1 (m2+1) n dd f v1 v'∧Ch c v1 v2 h v1 v' (h'.set c (.live 5 [wRow n dd f v1 v'])):=by
 obtain ⟨v',h',ha,hs,hb,hl,hk⟩:=ASI x s.s2 hm
 have hc1 : ¬ isB v1 c:=fun e=>s.s1.ne s.w e rfl
 have hc2 : ¬ isB v2 c:=fun e=>s.s2.ne s.w e rfl
 have hcl:=CJ s.w
 have hw:h'[c]? = some (.live 5 [wRow n dd f v1 v2]):=by rw [hk c hcl hc2]; exact s.w
 have hvc : ∀ b,isB v' b→b≠c:=fun b hb' e=>by have:=hb b hb'; omega
 have hac:JK v'=some [v']:=by
  obtain ⟨vs,_,⟨_,k,rfl⟩ | ⟨b,rfl,_⟩⟩:=hs <;> rfl
 refine ⟨v',h',ha,by rw [MH hac AVU hw (row:=wRow n dd f v1 v2) rfl (by simp [wRow])]; rfl,⟨EM hw,s.s1.keep (Nat.le_refl _) fun b hb' => ?_,hs.keep (Nat.le_refl _) fun b hb' => ?_,fun b h1 h2 => ?_⟩,⟨by simpa using hl,fun b hbl hne h1 h2 => ?_,fun b hb' => .inl hb',fun b hb' => .inr (by rw [hb b hb']; exact Nat.le_refl _)⟩⟩
 ·obtain ⟨_,hx⟩:=s.s1.b hb'
  rw [List.getElem?_set,if_neg (fun e=>hc1 (by rw [e]; exact hb')),hk b (CJ hx) (fun e=>s.ap b hb' e)]
 ·rw [List.getElem?_set,if_neg (fun e=>hvc b hb' e.symm)]
 ·obtain ⟨_,hx⟩:=s.s1.b h1
  have:=hb b h2; have:=CJ hx; omega
 ·rw [List.getElem?_set,if_neg (fun e=>hne e.symm),hk b hbl h2]
def VL (z:Int) (xs:List Ex):Int:=xs.foldl (fun z e=>if z=0 then NH e else z) z
theorem AIP (z:Int) (xs ys:List Ex):VL z (xs ++ ys)=VL (VL z xs) ys:=List.foldl_append
end Go.Proofs.YtocilianjfhifaaGreatDoor.Cov
/- The reference's Valid of expressions; no condition. -/
set_option linter.unusedSimpArgs false
set_option maxRecDepth 8000
namespace Go.Proofs.YtocilianjfhifaaGreatDoor.Cov
open Go Go.Proofs Go.Proofs.YtocilianjfhifaaGreatDoor.Sm Go.Proofs.YtocilianjfhifaaGreatDoor.Bins Go.RowKit

theorem St.weak {h:Hp} {c m1 m2 m1' m2' n dd:Nat} {f:Int} {v1 v2:AV} (s:St h c m1 m2 n dd f v1 v2) (h1:m1≤m1') (h2:m2≤m2'):St h c m1' m2' n dd f v1 v2 :=
 ⟨s.w,s.s1.keep h1 fun _ _=>rfl,s.s2.keep h2 fun _ _=>rfl,s.ap⟩
def Md (e:Ex) (c d:Nat) (v1 v2:AV) (h:Hp) (m1 m2 n dd:Nat) (f:Int) (F:Nat→AV) (H:Hp):Prop :=
 F 0 = .ptr c 0 0∧F 2 = .int .i64 (d:Nat)∧F 4 = .ptr h.length 0 0∧∃ u1 u2,St H c m1 m2 n dd f u1 u2∧Ch c v1 v2 (h ++ [.live 4 [G6 e]]) u1 u2 H
theorem AHP (xs:List Ex):(MB xs).length≤wts xs:=by
 induction xs with
 | nil=>simp [MB,wts]
 | cons x xs ih=>have:=AQI x; simp only [MB,wts,List.length_append]; omega
theorem AGU : ∀ (xs:List Ex) (j:Nat) (hj:j < xs.length),wts (xs.take j)+wt xs[j]≤wts xs
 | x :: xs,0,_=>by simp [wts]
 | x :: xs,j+1,h=>by
   have:=AGU xs j (by simpa using h)
   simp only [List.take_succ_cons,wts,List.getElem_cons_succ]; omega
theorem XT : ∀ (xs:List Ex) (j:Nat),deps (xs.take j)≤wts xs
 | [],j=>by simp [deps,wts]
 | x :: xs,0=>by simp [deps]
 | x :: xs,j+1=>by
   have h1:=XT xs j
   have h2:=AR0 x
   simp only [List.take_succ_cons,deps,wts]; omega
theorem ATD (G:Nat→AV) (c:Nat) (e:Ex):wt e≤1048576→∀ (h:Hp) (d n dd:Nat) (f:Int) (v1 v2:AV),d+wt e≤8388608→n+wt e≤8388608→dd≤16777216→St h c n n n dd f v1 v2 →
  ACalls (En G) 193 [.ptr c 0 0,.agg (G6 e),.int .i64 (d:Nat)] h fun _ h' => ∃ u1 u2,St h' c (n+(pre e).length) (n+(pre e).length) (n+(pre e).length) (max dd (d+deps e.args)) (VL f (pre e)) u1 u2∧Ch c v1 v2 h u1 u2 h':=by
 induction e using Ex.induct with | h e ih => ?_
 intro hw h d n dd f v1 v2 hd hn hdd s
 have hal:e.args.length≤wts e.args:=ZX e.args
 have hwe:=QA e
 have hcl:=CJ s.w
 have hbox : ∀ (u1 u2:AV) (H:Hp),Ch c v1 v2 (h ++ [.live 4 [G6 e]]) u1 u2 H→H[h.length]? = some (.live 4 [G6 e]):=by
  intro u1 u2 H hC
  rw [hC.get h.length (by simp) (by omega) (fun hb => ?_) (fun hb => ?_)]
  ·exact CX _ _
  ·obtain ⟨_,hx⟩:=s.s1.b hb
   have:=CJ hx; omega
  ·obtain ⟨_,hx⟩:=s.s2.b hb
   have:=CJ hx; omega
 have lb0 : ∀ H:Hp,H[h.length]? = some (.live 4 [G6 e])→EE Tryz.prog H 3 (.ptr h.length 0 0)=some (.int .i64 e.op):=fun H hH=>by rw [D6 ag3 hH (row:=G6 e) rfl,KW]
 have lb2 : ∀ H:Hp,H[h.length]? = some (.live 4 [G6 e])→EE Tryz.prog H 9 (.ptr h.length 0 2)=some (.str e.name):=fun H hH=>by rw [D6 ag9 hH (row:=G6 e) rfl,SA]
 have lb3 : ∀ H:Hp,H[h.length]? = some (.live 4 [G6 e])→EE Tryz.prog H 51 (.ptr h.length 0 3)=some (.sl e.m 4 (e.args.map G6)):=fun H hH=>by rw [D6 APL hH (row:=G6 e) rfl,AEP]
 refine CG (H:=hint [56,85] []) (enM G) Tryz.func193 rfl (by kernel_rfl) (by kernel_rfl) (Nat.le_of_ble_eq_true (by kernel_rfl)) ?_
 show awp _ _ _ _ _ (EU _ [] _)
 have s0:=s.app [.live 4 [G6 e]]
 have c0:=Ch.app c v1 v2 h [.live 4 [G6 e]]
 simp -implicitDefEqProofs only [CY,List.contains_cons,List.contains_nil,Nat.reduceBEq,Bool.or_false,BB,AZ,A8,AY,BC,AL,BD,AX,AC,EZ,AA,A7,AU,BH,BF,FK,BO,EI,BQ,BJ,BR,AB,DR,CZ,BG,BV,↓reduceIte,Nat.reduceEqDiff,Nat.add_zero,Nat.zero_add,Option.getD_some,Bool.not_false,enP,AF7,AF6,EK,Option.getD_none,I5,J7,bxE,s0.l0,wrap_succ (show n < 9223372036854775807 by omega),s0.t0]
 have s1:=s0.set (n+1) dd f
 have c1:=Ch.set c v1 v2 (h ++ [.live 4 [G6 e]]) (.live 5 [wRow (n+1) dd f v1 v2])
 clear s0
 generalize (h ++ [ABlk.live 4 [G6 e]]).set c (.live 5 [wRow (n+1) dd f v1 v2])=H1 at s1 c1 ⊢
 simp -implicitDefEqProofs only [CY,List.contains_cons,List.contains_nil,Nat.reduceBEq,Bool.or_false,BI,A8,AY,BC,AL,BD,AX,AC,AA,A7,BQ,AB,EW,↓reduceIte,Nat.reduceEqDiff,Option.getD_some,Bool.not_false,enP,EK,s1.l1]
 refine UQ (Md e c d v1 v2 h n n (n+1) (max dd d) f) (fun _ _=>False) (fun hb => ?_) (fun hb => ?_) ?_ (fun _ _ hh=>hh.elim)
 ·simp -implicitDefEqProofs only [CY,List.contains_cons,List.contains_nil,Nat.reduceBEq,Bool.or_false,AZ,VS,AY,BC,AL,BD,AX,AC,EZ,AA,A7,BF,EI,BJ,AB,DR,BG,BV,↓reduceIte,Nat.reduceEqDiff,Nat.zero_add,Option.getD_some,Bool.not_false,enP,AF6,EK,Option.getD_none,I5,J7,s1.t1]
  refine ⟨rfl,rfl,rfl,v1,v2,?_,c1.trans (Ch.set c _ _ _ _)⟩
  have:max dd d=d:=by simp at hb; omega
  rw [this]
  exact s1.set (n+1) d f
 ·simp -implicitDefEqProofs only [BN,VS]
  refine ⟨rfl,rfl,rfl,v1,v2,?_,c1⟩
  have:max dd d=dd:=by simp at hb; omega
  rw [this]
  exact s1
 clear s1 c1
 rintro F H ⟨f0,f2,f4,u1,u2,s,hC⟩
 simp -implicitDefEqProofs only [CY,List.contains_cons,List.contains_nil,Nat.reduceBEq,Bool.or_false,BB,AZ,BI,A8,AY,BC,AL,BD,AX,AC,AA,A7,AU,BH,BF,BO,BQ,BJ,AB,EJ,↓reduceIte,Nat.zero_add,Option.getD_some,Bool.not_false,enP,XM,EK,I5,J7,f0,s.l2]
 refine UQ (Md e c d v1 v2 h n n (n+1) (max dd d) (VL f [e])) (fun _ _=>False) (fun hb => ?_) (fun hb => ?_) ?_ (fun _ _ hh=>hh.elim)
 ·simp -implicitDefEqProofs only [CY,List.contains_cons,List.contains_nil,Nat.reduceBEq,Bool.or_false,AZ,AY,AL,BD,AX,AC,AA,A7,CB,BF,BO,CE,BX,AB,List.map_cons,List.map_nil,List.append_nil,↓reduceIte,Nat.reduceEqDiff,Option.getD_some,Bool.not_false,enP,EK,f0,f2,f4,WE (hbox _ _ _ hC)]
  refine (ANO G e _ (by omega)).use ?_
  simp -implicitDefEqProofs only [CY,List.contains_cons,List.contains_nil,Nat.reduceBEq,Bool.or_false,VS,AY,BC,AL,BD,AX,AC,EZ,AA,A7,EI,BJ,AB,DR,↓reduceIte,Nat.reduceEqDiff,Nat.zero_add,Option.getD_some,Bool.not_false,enP,XM,EK,Option.getD_none,I5,J7,s.t2,f0,f2,f4]
  refine ⟨f0,f2,f4,u1,u2,?_,hC.trans (Ch.set c _ _ _ _)⟩
  have:VL f [e]=NH e:=by
   have:f=0:=by simpa using hb
   subst this; rfl
  rw [this]
  exact s.set _ _ _
 ·simp -implicitDefEqProofs only [BN,VS]
  refine ⟨f0,f2,f4,u1,u2,?_,hC⟩
  have:VL f [e]=f:=by
   have:f≠0:=by simpa using hb
   show (if f=0 then NH e else f)=f
   rw [if_neg this]
  rw [this]; exact s
 clear f0 f2 f4 s hC
 rintro F H ⟨f0,f2,f4,u1,u2,s,hC⟩
 simp -implicitDefEqProofs only [BB,A8]
 refine ER (by kernel_rfl) ?_
 have hB:=hbox _ _ _ hC
 refine ASZ (fun F H=>(∃ b,F 47 = .bool b)∧Md e c d v1 v2 h n n (n+1) (max dd d) (VL f [e]) F H) ?_ ?_
 ·cases b2:(e.op == 2)
  ·simp -implicitDefEqProofs only [F7,CY,List.contains_cons,List.contains_nil,Nat.reduceBEq,Bool.or_false,D9,DT,E8,EC,FQ,GR,ACZ,FH,I4,FC,IE,D5,CO,AA,EY,A7,AU,BH,BL,CP,DV,BO,BQ,BJ,AB,EJ,↓reduceIte,Nat.reduceEqDiff,Nat.reduceAdd,Nat.add_zero,Option.getD_some,enP,JR,f0,f2,f4,lb0 _ hB,b2]
   exact ⟨⟨_,rfl⟩,f0,f2,f4,u1,u2,s,hC⟩
  ·obtain ⟨r,hr⟩:=AQ5 G e.name s.s1 (by omega)
   simp -implicitDefEqProofs only [F7,CY,List.contains_cons,List.contains_nil,Nat.reduceBEq,Bool.or_false,D9,DT,EC,FQ,GR,SL,FH,FC,IE,AE6,D5,GM,F6,CO,AA,A7,AU,CB,BH,BO,BQ,H9,BJ,AB,EJ,List.map_cons,List.map_nil,List.append_nil,↓reduceIte,Nat.reduceEqDiff,Nat.reduceAdd,Nat.add_zero,Nat.zero_add,Option.getD_some,enP,JR,QJ,AMZ,I5,OQ,J7,f0,f2,f4,lb0 _ hB,lb2 _ hB,b2,s.l3]
   refine ⟨_,hr,?_⟩
   simp -implicitDefEqProofs only [F7,CY,List.contains_cons,List.contains_nil,Nat.reduceBEq,Bool.or_false,D9,DT,E8,EC,I4,AA,A7,AU,BL,CP,DW,AB,FB,↓reduceIte,Nat.reduceEqDiff,Nat.reduceAdd,Option.getD_some,f0,f2,f4]
   exact ⟨⟨_,rfl⟩,f0,f2,f4,u1,u2,s,hC⟩
 clear f0 f2 f4 s hC hB
 rintro F H ⟨⟨b,f47⟩,f0,f2,f4,u1,u2,s,hC⟩
 have hB:=hbox _ _ _ hC
 simp -implicitDefEqProofs only [BI,A8,A7,f47]
 refine UQ (Md e c d v1 v2 h (n+1) n (n+1) (max dd d) (VL f [e])) (fun _ _=>False) (fun hb => ?_) (fun hb => ?_) ?_ (fun _ _ hh=>hh.elim)
 ·obtain ⟨v',H',ha,ht,s',hC'⟩:=s.app3 e.name (by omega)
  refine ER (by kernel_rfl) ?_
  simp -implicitDefEqProofs only [F7,FP,FZ,CY,List.contains_cons,List.contains_nil,Nat.reduceBEq,Bool.or_false,D9,DT,MX,E8,EC,FH,KC,FC,MQ,D5,GV,VS,AA,A7,ES,BO,EI,BJ,GU,BR,AB,DR,↓reduceIte,Nat.reduceEqDiff,Nat.reduceAdd,Nat.zero_add,Option.getD_some,enP,QJ,AMZ,Option.getD_none,I5,OQ,J7,f0,f2,f4,lb2 _ hB,s.l3,AWM,ha,ht]
  exact ⟨f0,f2,f4,_,_,s',hC.trans hC'⟩
 ·simp -implicitDefEqProofs only [BN,VS]
  exact ⟨f0,f2,f4,_,_,s.weak (by omega) (by omega),hC⟩
 clear f0 f2 f4 s hC hB
 rintro F H ⟨f0,f2,f4,u1,u2,s,hC⟩
 have hB:=hbox _ _ _ hC
 simp -implicitDefEqProofs only [BB,A8]
 refine ER (by kernel_rfl) ?_
 refine ASZ (fun F H=>(∃ b,F 76 = .bool b)∧Md e c d v1 v2 h (n+1) n (n+1) (max dd d) (VL f [e]) F H) ?_ ?_
 ·obtain ⟨r,hr⟩:=AQ5 G e.name s.s2 (by omega)
  cases b2:(e.op == 3)
  ·cases b3:(e.op == 24)
   ·simp -implicitDefEqProofs only [F7,CY,List.contains_cons,List.contains_nil,Nat.reduceBEq,Bool.or_false,D9,DT,E8,EC,FQ,GR,QO,ACZ,FH,I4,FC,IE,D5,CO,AA,EY,A7,AU,BH,BL,CP,DV,BO,BQ,BJ,AB,EJ,↓reduceIte,Nat.reduceEqDiff,Nat.reduceAdd,Nat.add_zero,Option.getD_some,enP,JR,f0,f2,f4,lb0 _ hB,b2,b3]
    exact ⟨⟨_,rfl⟩,f0,f2,f4,u1,u2,s,hC⟩
   ·simp -implicitDefEqProofs only [F7,CY,List.contains_cons,List.contains_nil,Nat.reduceBEq,Bool.or_false,D9,DT,EC,FQ,GR,SL,QO,FH,I4,FC,IE,AE6,D5,GM,F6,CO,AA,A7,AU,CB,BH,BL,CP,DV,BO,BQ,H9,BJ,AB,EJ,List.map_cons,List.map_nil,List.append_nil,↓reduceIte,Nat.reduceEqDiff,Nat.reduceAdd,Nat.add_zero,Nat.zero_add,Option.getD_some,enP,JR,QJ,AF5,I5,OQ,J7,f0,f2,f4,lb0 _ hB,lb2 _ hB,b2,b3,s.l4]
    refine ⟨_,hr,?_⟩
    simp -implicitDefEqProofs only [F7,CY,List.contains_cons,List.contains_nil,Nat.reduceBEq,Bool.or_false,D9,DT,E8,EC,I4,AA,A7,AU,BL,CP,DW,AB,FB,↓reduceIte,Nat.reduceEqDiff,Nat.reduceAdd,Option.getD_some,f0,f2,f4]
    exact ⟨⟨_,rfl⟩,f0,f2,f4,u1,u2,s,hC⟩
  ·simp -implicitDefEqProofs only [F7,CY,List.contains_cons,List.contains_nil,Nat.reduceBEq,Bool.or_false,D9,DT,EC,FQ,GR,SL,AC0,FH,I4,FC,IE,AE6,D5,GM,F6,CO,AA,EY,A7,AU,CB,BH,BL,CP,DW,BO,BQ,H9,BJ,AB,EJ,List.map_cons,List.map_nil,List.append_nil,↓reduceIte,Nat.reduceEqDiff,Nat.reduceAdd,Nat.add_zero,Nat.zero_add,Option.getD_some,enP,JR,QJ,AF5,I5,OQ,J7,f0,f2,f4,lb0 _ hB,lb2 _ hB,b2,s.l4]
   refine ⟨_,hr,?_⟩
   simp -implicitDefEqProofs only [F7,CY,List.contains_cons,List.contains_nil,Nat.reduceBEq,Bool.or_false,D9,DT,E8,EC,I4,AA,A7,AU,BL,CP,DW,AB,FB,↓reduceIte,Nat.reduceEqDiff,Nat.reduceAdd,Option.getD_some,f0,f2,f4]
   exact ⟨⟨_,rfl⟩,f0,f2,f4,u1,u2,s,hC⟩
 clear f0 f2 f4 s hC hB f47
 rintro F H ⟨⟨b,f76⟩,f0,f2,f4,u1,u2,s,hC⟩
 have hB:=hbox _ _ _ hC
 simp -implicitDefEqProofs only [BI,A8,A7,f76]
 refine UQ (Md e c d v1 v2 h (n+1) (n+1) (n+1) (max dd d) (VL f [e])) (fun _ _=>False) (fun hb => ?_) (fun hb => ?_) ?_ (fun _ _ hh=>hh.elim)
 ·obtain ⟨v',H',ha,ht,s',hC'⟩:=s.app4 e.name (by omega)
  refine ER (by kernel_rfl) ?_
  simp -implicitDefEqProofs only [F7,FP,FZ,CY,List.contains_cons,List.contains_nil,Nat.reduceBEq,Bool.or_false,Bool.or_true,D9,DT,MX,E8,EC,FH,KC,FC,MQ,D5,GV,VS,AA,A7,ES,BO,EI,BJ,GU,BR,AB,DR,↓reduceIte,Nat.reduceEqDiff,Nat.reduceAdd,Nat.zero_add,Option.getD_some,enP,QJ,AF5,Option.getD_none,I5,OQ,J7,f0,f2,f4,lb2 _ hB,s.l4,AWM,ha,ht]
  exact ⟨f0,f2,f4,_,_,s',hC.trans hC'⟩
 ·simp -implicitDefEqProofs only [BN,VS]
  exact ⟨f0,f2,f4,_,_,s.weak (by omega) (by omega),hC⟩
 clear f0 f2 f4 s hC hB f76
 rintro F H ⟨f0,f2,f4,u1,u2,s,hC⟩
 simp -implicitDefEqProofs only [CY,List.contains_cons,List.contains_nil,Nat.reduceBEq,Bool.or_false,BB,BP,AZ,A8,AY,BC,AL,BD,AX,AC,AU,BH,BA,Option.getD_some,Bool.not_false,EK]
 refine C9 (fun k F H => ∃ j,k+j=e.args.length∧F 6 = .int .i64 (j:Nat)∧Md e c d v1 v2 h (n+1+(MB (e.args.take j)).length) (n+1+(MB (e.args.take j)).length) (n+1+(MB (e.args.take j)).length) (max dd (d+deps (e.args.take j))) (VL (VL f [e]) (MB (e.args.take j))) F H) e.args.length ⟨0,by simp,rfl,f0,f2,f4,u1,u2,s,hC⟩ ?_
 clear f0 f2 f4 s hC
 rintro k F H ⟨j,hj,f6,f0,f2,f4,u1,u2,s,hC⟩
 have hB:=hbox _ _ _ hC
 simp -implicitDefEqProofs only [CY,List.contains_cons,List.contains_nil,Nat.reduceBEq,Bool.or_false,BB,AZ,BI,A8,AY,BC,AL,BD,AX,AC,AA,A7,BF,BO,BQ,BJ,DN,AB,CW,↓reduceIte,Nat.reduceEqDiff,Nat.zero_add,Option.getD_some,Bool.not_false,enP,AKN,TF,EK,f6,f4,lb3 _ hB,List.length_map]
 refine CQ (fun hlt => ?_) (fun hlt => ?_)
 ·have hj':j < e.args.length:=by simpa using hlt
  have hmem:e.args[j]∈e.args:=List.getElem_mem hj'
  have hwa:=WT hmem
  have hpl:(MB (e.args.take j)).length+(pre e.args[j]).length≤wts e.args:=by
   have h1:=AHP e.args
   have h2:MB e.args=MB (e.args.take j) ++ (pre e.args[j] ++ MB (e.args.drop (j+1))):=by
    rw [← List.append_assoc,← U8 _ _ hj',← UH,List.take_append_drop]
   rw [h2] at h1; simp at h1; omega
  have hsp:(MB (e.args.take j)).length+wt e.args[j]≤wts e.args:=by
   have h1:=AHP (e.args.take j)
   have h2:=AGU e.args j hj'
   omega
  have hdt:deps (e.args.take j)≤wts e.args:=XT e.args j
  simp -implicitDefEqProofs only [CY,List.contains_cons,List.contains_nil,Nat.reduceBEq,Bool.or_false,BB,BP,AZ,BN,A8,AY,AL,BD,AX,AC,AA,A7,AU,CB,BH,BF,BO,BQ,BJ,BZ,CE,BX,AB,CZ,List.map_cons,List.map_nil,List.append_nil,↓reduceIte,Nat.reduceEqDiff,Nat.zero_add,Option.getD_some,Bool.not_false,enP,AUH,TF,EK,f0,f2,f4,f6,lb3 _ hB,DJ hj',FD AJK AC4 KU hj',wrap_succ (show d < 9223372036854775807 by omega)]
  refine (ih e.args[j] hmem (by omega) H (d+1) _ _ _ u1 u2 (by omega) (by omega) (by omega) s).mono ?_
  rintro v H' ⟨w1,w2,s',hC'⟩
  simp -implicitDefEqProofs only [CY,List.contains_cons,List.contains_nil,Nat.reduceBEq,Bool.or_false,AZ,A8,D8,ED,AY,BC,AL,BD,AX,AC,AA,A7,AU,BH,BF,BA,BQ,AB,CZ,↓reduceIte,Nat.reduceEqDiff,Option.getD_some,Bool.not_false,enP,EK,f6,wrap_succ (show j < 9223372036854775807 by omega)]
  refine ⟨k - 1,by omega,j+1,by omega,rfl,f0,f2,f4,w1,w2,?_,hC.trans hC'⟩
  rw [U8 _ _ hj',AEQ _ _ hj',AIP,List.length_append]
  have e1:max (max dd (d+deps (e.args.take j))) (d+1+deps e.args[j].args)=max dd (d+max (deps (e.args.take j)) (dep e.args[j])):=by
   rw [AGF]; omega
  rw [e1,Nat.add_assoc (n+1)] at s'
  exact s'
 ·have hj' : ¬ j < e.args.length:=by simpa using hlt
  rw [List.take_of_length_le (by omega)] at s
  simp -implicitDefEqProofs only [DC,DZ,EN,EP,AGD,↓reduceIte]
  refine ⟨u1,u2,?_,c0.trans hC⟩
  have e1:n+1+(MB e.args).length=n+(pre e).length:=by rw [pre_eq]; simp; omega
  have e2:VL (VL f [e]) (MB e.args)=VL f (pre e):=by rw [pre_eq,← AIP]; rfl
  rw [e1,e2] at s
  exact s
end Go.Proofs.YtocilianjfhifaaGreatDoor.Cov
/- The reference's Valid of expressions: over, Valid; no condition. -/
set_option linter.unusedSimpArgs false
set_option maxRecDepth 8000
namespace Go.Proofs.YtocilianjfhifaaGreatDoor.Cov
open Go Go.Proofs Go.Proofs.YtocilianjfhifaaGreatDoor.Sm Go.Proofs.YtocilianjfhifaaGreatDoor.Bins Go.RowKit

theorem AZS:KN Tryz.prog 181 []=some (.agg [.int .i64 0,.int .i64 0,.int .i64 0,.sl .nil 0 [],.sl .nil 0 []]):=by kernel_rfl
theorem AZE (h:Hp):PY h (.agg [.int .i64 0,.int .i64 0,.int .i64 0,.sl .nil 0 [],.sl .nil 0 []])=some (.ptr h.length 0 0,h ++ [.live 5 [wRow 0 0 0 (.sl .nil 0 []) (.sl .nil 0 [])]]):=VH rfl
theorem AHS (G:Nat→AV) (e:Ex) (hw:wt e≤1048576) (h:Hp) :
  ACalls (En G) 149 [.agg (G6 e)] h fun v h' => ∃ c m u1 u2,v = .ptr c 0 0∧St h' c m m (pre e).length (dep e) (errs (pre e)) u1 u2∧∃ x,h'=h ++ x:=by
 refine CG (H:=Hint.none) (enM G) Tryz.func149 rfl (by kernel_rfl) (by kernel_rfl) (Nat.le_of_ble_eq_true (by kernel_rfl)) ?_
 show awp _ _ _ _ _ (EU _ [.tmp 2] _)
 simp -implicitDefEqProofs only [FP,BB,AZ,A8,AY,BC,AO,AQ,AL,BD,AX,AC,AA,A7,AU,CB,BH,AVB,BF,BA,FK,JI,BO,CE,BX,BR,AB,BG,List.map_cons,List.map_nil,List.append_nil,↓reduceIte,Nat.reduceEqDiff,Option.getD_some,Bool.not_false,enP,bxE,AZS,AZE,WE (DL (CX h _))]
 have nb : ∀ b,¬ isB (.sl .nil 0 []) b:=fun b hb=>hb
 refine (ATD G _ e hw _ 1 0 0 0 (.sl .nil 0 []) (.sl .nil 0 []) (by omega) (by omega) (by omega) ⟨CX _ _,⟨[],by simp,.inl ⟨rfl,_,rfl⟩⟩,⟨[],by simp,.inl ⟨rfl,_,rfl⟩⟩,fun b hb=>(nb b hb).elim⟩).mono ?_
 rintro v h' ⟨u1,u2,s,hC⟩
 simp -implicitDefEqProofs only [BB,AZ,BM,A8,CU,AY,BC,AO,AQ,AL,BD,AX,AC,AA,A7,BF,BA,↓reduceIte,Nat.reduceEqDiff,Option.getD_some,Bool.not_false]
 have e1:0+(pre e).length=(pre e).length:=Nat.zero_add _
 have e2:max 0 (1+deps e.args)=dep e:=by rw [AGF]; omega
 rw [e1,e2] at s
 refine ⟨_,_,u1,u2,rfl,s,?_⟩
 have hC2:=((Ch.app (h ++ [ABlk.live 4 [G6 e]]).length (.sl .nil 0 []) (.sl .nil 0 []) h [.live 4 [G6 e]]).trans (Ch.app _ _ _ _ [.live 5 [wRow 0 0 0 (.sl .nil 0 []) (.sl .nil 0 [])]])).trans hC
 refine Chg.above (c:=(h ++ [ABlk.live 4 [G6 e]]).length) ⟨hC2.len,fun b hb hne=>hC2.get b hb hne (nb b) (nb b)⟩ (by simp)
theorem AIN (G:Nat→AV) (e:Ex) (h:Hp) (hw:wt e≤1048576):PCall (En G) 161 [.agg (G6 e)] h (.int .i64 (exE e)):=by
 refine ACalls.pure0 rfl ?_
 refine CG (H:=Hint.none) (enM G) Tryz.func161 rfl (by kernel_rfl) (by kernel_rfl) (Nat.le_of_ble_eq_true (by kernel_rfl)) ?_
 show awp _ _ _ _ _ (EU _ [.tmp 2] _)
 simp -implicitDefEqProofs only [BB,AZ,A8,AY,BC,AO,AQ,AL,BD,AX,AC,AA,A7,AU,CB,BH,BA,FK,BO,CE,BX,BR,AB,BG,List.map_cons,List.map_nil,List.append_nil,↓reduceIte,Nat.reduceEqDiff,Option.getD_some,Bool.not_false,enP,bxE,ldE]
 refine (AHS G e hw _).mono ?_
 rintro v h' ⟨c,m,u1,u2,rfl,s,x,rfl⟩
 simp -implicitDefEqProofs only [BB,AZ,A8,AY,BC,BK,BU,CO,AO,AQ,AL,BD,AX,AC,AA,A7,AU,BH,BF,BA,BO,BQ,BJ,AB,EJ,↓reduceIte,Nat.zero_add,Option.getD_some,Bool.not_false,enP,XM,I5,J7,s.l2]
 rcases he:(errs (pre e) == 0) with _ | _
 ·simp -implicitDefEqProofs only [BB,AZ,BN,BM,BI,A8,CU,DY,AY,BC,BK,BU,CO,JH,QP,AO,AQ,AL,BD,AX,AC,AA,EY,A7,AU,BL,BF,BA,CP,DV,BO,BJ,AB,↓reduceIte,Nat.reduceEqDiff,Nat.zero_add,Option.getD_some,Bool.not_false,enP,XM,I5,J7,s.l2]
  have:errs (pre e)≠0:=by simpa using he
  exact ⟨by unfold exE; rw [if_neg (fun hh=>this hh.1)],_,by rw [List.append_assoc]⟩
 have he0:errs (pre e)=0:=by simpa using he
 simp -implicitDefEqProofs only [BK,BU,CO,GN,AO,AQ,AL,BD,AX,AC,AA,A7,AU,BH,BF,BO,BQ,BJ,AB,EW,↓reduceIte,Nat.reduceEqDiff,Nat.zero_add,Option.getD_some,Bool.not_false,enP,AF6,I5,J7,s.l1]
 refine H8 (fun hd => ?_) (fun hd => ?_)
 ·simp -implicitDefEqProofs only [BB,AZ,BM,BI,A8,CS,CU,DX,AY,BC,BK,BU,CO,GN,F5,AO,AQ,AL,BD,AX,AC,AA,EY,A7,AU,BH,BL,BA,CP,DW,↓reduceIte,Nat.reduceEqDiff,Option.getD_some,Bool.not_false,hd]
  exact ⟨by unfold exE; rw [if_pos ⟨he0,.inl (by simp at hd; omega)⟩],_,by rw [List.append_assoc]⟩
 simp -implicitDefEqProofs only [BI,A8,AY,BC,BK,BU,CO,GN,EO,AO,AQ,AL,BD,AX,AC,AA,A7,AU,BH,BL,BF,CP,DW,DV,BO,BQ,BJ,AB,EW,↓reduceIte,Nat.reduceEqDiff,Nat.add_zero,Option.getD_some,Bool.not_false,enP,AF7,I5,J7,hd,s.l0]
 refine CQ (fun hn => ?_) (fun hn => ?_)
 ·simp -implicitDefEqProofs only [BB,AZ,BM,A8,CS,CU,AY,BC,AO,AQ,AL,BD,AX,AC,AA,AU,BH,BA,↓reduceIte,Option.getD_some,Bool.not_false]
  exact ⟨by unfold exE; rw [if_pos ⟨he0,.inr (by simp at hn; omega)⟩],_,by rw [List.append_assoc]⟩
 ·simp -implicitDefEqProofs only [BB,AZ,BN,BM,A8,CU,AY,BC,AO,AQ,AL,BD,AX,AC,AA,A7,BF,BA,BO,BJ,AB,↓reduceIte,Nat.reduceEqDiff,Nat.zero_add,Option.getD_some,Bool.not_false,enP,XM,I5,J7,s.l2]
  exact ⟨by unfold exE; rw [if_neg (fun hh=>by simp at hn hd; omega)],_,by rw [List.append_assoc]⟩
end Go.Proofs.YtocilianjfhifaaGreatDoor.Cov
/- Points, crosses, models; whether names repeat; no condition. -/
set_option linter.unusedSimpArgs false
set_option maxRecDepth 8000
namespace Go.Proofs.YtocilianjfhifaaGreatDoor.Cov
open Go Go.Proofs Go.Proofs.YtocilianjfhifaaGreatDoor.Sm Go.Proofs.YtocilianjfhifaaGreatDoor.Bins Go.RowKit

/-- a slice of numbers -/
structure Is where
 m:SM
 l:List Int
def HY (x:Is):List AV := [.sl x.m 1 (x.l.map encI)]
theorem NC (x:Is):(HY x)[0]? = some (.sl x.m 1 (x.l.map encI)):=rfl
theorem AB7 (x:Is):(HY x).length=1:=rfl
/-- a point -/
structure Pt where
 name:ByteArray
 ex:Ex
 bm:SM
 bins:List Bin
def IM (p:Pt):List AV := .str p.name :: (G6 p.ex ++ [.sl p.bm 4 (p.bins.map J9)])
theorem AM7 (p:Pt):(IM p)[0]? = some (.str p.name):=rfl
theorem ML (p:Pt):(IM p)[5]? = some (.sl p.bm 4 (p.bins.map J9)):=by unfold IM; rw [OG]; rfl
theorem J8 (p:Pt):(IM p).length=6:=by unfold IM; rw [OG]; rfl
theorem AEM (p:Pt):(IM p).all AV.leaf=true:=by unfold IM; rw [OG]; rfl
theorem AM6 (p:Pt):((IM p).drop 1).take 4=G6 p.ex:=by unfold IM; rw [OG]; rfl
theorem bxP (h:Hp) (p:Pt):PY h (.agg (IM p))=some (.ptr h.length 0 0,h ++ [.live 6 [IM p]]):=by
 have:=VH (h:=h) (AEM p)
 rw [J8] at this; exact this
theorem AQU {h:Hp} {b:Nat} {p:Pt} (hb:h[b]? = some (.live 6 [IM p])):EE Tryz.prog h 53 (.ptr b 0 1)=some (.agg (G6 p.ex)):=by
 rw [JE AJK AC4 hb rfl (by rw [J8]; omega),AM6]
/-- a cross -/
structure Cr where
 name:ByteArray
 pm:SM
 pts:List Int
 xm:SM
 excl:List Is
def H6 (c:Cr):List AV := [.str c.name,.sl c.pm 1 (c.pts.map encI),.sl c.xm 1 (c.excl.map HY)]
theorem AM8 (c:Cr):(H6 c)[0]? = some (.str c.name):=rfl
theorem TQ (c:Cr):(H6 c)[1]? = some (.sl c.pm 1 (c.pts.map encI)):=rfl
theorem AIY (c:Cr):(H6 c)[2]? = some (.sl c.xm 1 (c.excl.map HY)):=rfl
theorem KG (c:Cr):(H6 c).length=3:=rfl
theorem bxC (h:Hp) (c:Cr):PY h (.agg (H6 c))=some (.ptr h.length 0 0,h ++ [.live 3 [H6 c]]):=rfl
/-- a model -/
structure Mo where
 pm:SM
 pts:List Pt
 cm:SM
 crs:List Cr
def DU (m:Mo):List AV := [.sl m.pm 6 (m.pts.map IM),.sl m.cm 3 (m.crs.map H6)]
theorem QK (m:Mo):(DU m)[0]? = some (.sl m.pm 6 (m.pts.map IM)):=rfl
theorem TP (m:Mo):(DU m)[1]? = some (.sl m.cm 3 (m.crs.map H6)):=rfl
theorem AIW (m:Mo):(DU m).length=2:=rfl
theorem bxM (h:Hp) (m:Mo):PY h (.agg (DU m))=some (.ptr h.length 0 0,h ++ [.live 2 [DU m]]):=rfl
/-- does a name come twice? -/
def ADI:List ByteArray→List ByteArray→Bool
 | _,[]=>false
 | seen,x :: xs=>JS seen x || ADI (seen ++ [x]) xs
def OM (l:List ByteArray):Bool:=ADI [] l
theorem P7 (N:List ByteArray) (i:Nat) (hi:i < N.length):ADI (N.take i) (N.drop i)=(JS (N.take i) N[i] || ADI (N.take (i+1)) (N.drop (i+1))):=by
 rw [List.drop_eq_getElem_cons hi,List.take_succ_eq_append_getElem hi]; rfl
theorem GZ {α:Type} {l:List α} {i:Nat} {hi:i < l.length} {x:α} (h:l[i]? = some x):l[i]=x:=by
 rw [List.getElem?_eq_getElem hi] at h; exact Option.some.inj h

theorem AMH (G:Nat→AV) (x:Bin) (h:Hp):PCall (En G) 154 [.agg (J9 x)] h (.str x.name):=by
 refine ACalls.pure0 rfl ?_
 refine CG (H:=Hint.none) (enM G) Tryz.func154 rfl (by kernel_rfl) (by kernel_rfl) (Nat.le_of_ble_eq_true (by kernel_rfl)) ?_
 show awp _ _ _ _ _ (EU _ [.tmp 2] _)
 simp -implicitDefEqProofs only [BB,AZ,BM,A8,CU,AY,BC,AO,AQ,AL,BD,AX,AC,AA,A7,AU,KI,BA,FK,BO,BJ,BR,AB,BG,↓reduceIte,Nat.reduceEqDiff,Nat.add_zero,Option.getD_some,Bool.not_false,enP,AAG,bxB,DI ag9,AM9]
 exact ⟨trivial,_,rfl⟩
theorem AN7 (G:Nat→AV) (xs:List Bin) (m:SM) (h:Hp) (hl:xs.length≤1099511627776) :
  PCall (En G) 153 [.sl m 4 (xs.map J9),.fn (.func 154) [] []] h (.bool (OM (xs.map (·.name)))):=by
 refine CG (H:=Hint.none) (enM G) Tryz.func153 rfl (by kernel_rfl) (by kernel_rfl) (Nat.le_of_ble_eq_true (by kernel_rfl)) ?_
 show awp _ _ _ _ _ (EU _ [.tmp 4] _)
 simp -implicitDefEqProofs only [BB,BP,AZ,A8,AY,BC,AO,AQ,AL,BD,AX,AC,AA,A7,AU,BH,BL,BF,BA,DN,AB,BG,↓reduceIte,Nat.reduceEqDiff,Option.getD_some,Bool.not_false,enP,QS,List.length_map]
 generalize hN:xs.map (·.name)=N
 have hNl:N.length=xs.length:=by rw [← hN]; simp
 have hNi : ∀ i (hi:i < xs.length),N[i]? = some xs[i].name:=fun i hi=>by rw [← hN,List.getElem?_map,List.getElem?_eq_getElem hi]; rfl
 refine C9 (fun n F H => ∃ i,n+i=xs.length∧F 0 = .sl m 4 (xs.map J9)∧F 1 = .fn (.func 154) [] []∧F 8 = .int .i64 xs.length∧F 9 = .int .i64 (i:Nat)∧H=h∧OM N=ADI (N.take i) (N.drop i)) xs.length ⟨0,by simp,by simp -implicitDefEqProofs only [AA,BG,↓reduceIte,Nat.reduceEqDiff],by simp -implicitDefEqProofs only [AA,BG,BV,↓reduceIte,Nat.reduceEqDiff],by simp -implicitDefEqProofs only [AA,↓reduceIte,Nat.reduceEqDiff],by simp -implicitDefEqProofs only [AA,↓reduceIte]; rfl,rfl,rfl⟩ ?_
 rintro n F H ⟨i,hi,f0,f1,f8,f9,rfl,hd⟩
 simp -implicitDefEqProofs only [BB,AZ,BI,A8,AY,BC,AO,AQ,AL,BD,AX,AC,AA,A7,BQ,AB,CW,↓reduceIte,Option.getD_some,Bool.not_false,enP,f8,f9]
 refine CQ (fun hc => ?_) (fun hc => ?_)
 ·have hi':i < xs.length:=by simpa using hc
  have hdrop:=P7 N i (by omega)
  rw [GZ (hNi i hi')] at hdrop
  simp -implicitDefEqProofs only [BB,BP,AZ,BN,A8,AY,BC,AO,AQ,AL,BD,AX,AC,AA,A7,AU,BH,BF,BA,↓reduceIte,Nat.reduceEqDiff,Option.getD_some,Bool.not_false,f9]
  refine F8 2 (fun F' H'=>F' 0 = .sl m 4 (xs.map J9)∧F' 1 = .fn (.func 154) [] []∧F' 8 = .int .i64 xs.length∧F' 9 = .int .i64 (i:Nat)∧H'=H∧JS (N.take i) xs[i].name=false) (fun F' H'=>F' 4 = .bool (OM N)∧H'=H) ?_ ?_ ?_
  ·refine C9 (fun n F' H' => ∃ k,n+k=i∧F' 0 = .sl m 4 (xs.map J9)∧F' 1 = .fn (.func 154) [] []∧F' 8 = .int .i64 xs.length∧F' 9 = .int .i64 (i:Nat)∧F' 5 = .int .i64 (i:Nat)∧F' 12 = .int .i64 (i:Nat)∧F' 13 = .int .i64 (k:Nat)∧H'=H∧JS (N.take i) xs[i].name=JS ((N.take i).drop k) xs[i].name) i ⟨0,by simp,by simp -implicitDefEqProofs only [AA,↓reduceIte,Nat.reduceEqDiff,f0],by simp -implicitDefEqProofs only [AA,↓reduceIte,Nat.reduceEqDiff,f1],by simp -implicitDefEqProofs only [AA,↓reduceIte,Nat.reduceEqDiff,f8],by simp -implicitDefEqProofs only [AA,↓reduceIte,Nat.reduceEqDiff,f9],by simp -implicitDefEqProofs only [AA,↓reduceIte,Nat.reduceEqDiff],by simp -implicitDefEqProofs only [AA,↓reduceIte,Nat.reduceEqDiff],by simp -implicitDefEqProofs only [AA,↓reduceIte]; rfl,rfl,rfl⟩ ?_
   clear f0 f1 f8 f9
   rintro n' F H' ⟨k,hk,f0,f1,f8,f9,f5,f12,f13,rfl,hin⟩
   simp -implicitDefEqProofs only [BB,AZ,BI,A8,AY,BC,AO,AQ,AL,BD,AX,AC,AA,A7,BQ,AB,CW,↓reduceIte,Option.getD_some,Bool.not_false,enP,f12,f13]
   refine CQ (fun hc => ?_) (fun hc => ?_)
   ·have hk':k < i:=by simpa using hc
    have hk2:k < xs.length:=by omega
    have hs:=LV (fun u=>xs[i].name.toList == u.toList) (N.take i) k (by rw [List.length_take]; omega)
    have hx:(N.take i)[k]'(by rw [List.length_take]; omega)=xs[k].name:=by
     rw [List.getElem_take]; exact GZ (hNi k hk2)
    rw [hx] at hs
    simp -implicitDefEqProofs only [BB,BP,AZ,BN,A8,AY,BC,AO,AQ,AL,BD,AX,AC,AA,A7,BF,BA,↓reduceIte,Nat.reduceEqDiff,Option.getD_some,Bool.not_false,f13]
    refine ER (by kernel_rfl) ?_
    simp -implicitDefEqProofs only [F7,D9,DT,EC,FH,FC,IE,D7,GM,F6,AO,AA,A7,BO,BQ,BZ,AB,List.map_cons,List.map_nil,List.append_nil,↓reduceIte,Nat.reduceEqDiff,Nat.reduceAdd,Option.getD_some,enP,XD,f0,f1,f5,DJ hi',DJ hk2,FD ZI UB MP hi',FD ZI UB MP hk2]
    refine ⟨_,AMH G xs[i] _,?_⟩
    refine ⟨_,AMH G xs[k] _,?_⟩
    try simp -implicitDefEqProofs only [DT,E8,BI,A8,AA,A7,AB,NL,↓reduceIte]
    refine CQ (fun hb => ?_) (fun hb => ?_)
    ·simp -implicitDefEqProofs only [BB,AZ,BM,A8,CS,EG,LW,FM,AY,BC,AO,AQ,AL,BD,AX,AC,AA,AU,BL,BA,↓reduceIte,Option.getD_some,Bool.not_false]
     refine ⟨?_,trivial⟩
     have:JS (N.take i) xs[i].name=true:=by
      rw [hin]; unfold JS; rw [hs,hb]; rfl
     rw [hd,hdrop,this]; rfl
    ·simp -implicitDefEqProofs only [AZ,BN,A8,D8,ED,AY,BC,AO,AQ,AL,BD,AX,AC,AA,A7,AU,BH,BF,BQ,AB,CZ,↓reduceIte,Nat.reduceEqDiff,Option.getD_some,Bool.not_false,enP,f13,wrap_succ (show k < 9223372036854775807 by omega)]
     refine ⟨n' - 1,by omega,k+1,by omega,f0,f1,f8,f9,f5,f12,rfl,trivial,?_⟩
     rw [hin]; unfold JS; rw [hs,hb]; rfl
   ·have hk' : ¬ k < i:=by simpa using hc
    simp -implicitDefEqProofs only [DC,DZ,JM,EP,AA,↓reduceIte,Nat.reduceEqDiff]
    refine ⟨f0,f1,f8,f9,trivial,?_⟩
    rw [hin,List.drop_eq_nil_of_le (by rw [List.length_take]; omega)]; rfl
  ·rintro F' H' ⟨g0,g1,g8,g9,rfl,hn⟩
   simp -implicitDefEqProofs only [AZ,A8,D8,EN,ED,AY,BC,AO,AQ,AL,BD,AX,AC,AA,A7,AU,BH,BF,BQ,AB,CZ,↓reduceIte,Nat.reduceEqDiff,Option.getD_some,Bool.not_false,enP,g9,wrap_succ (show i < 9223372036854775807 by omega)]
   refine ⟨n - 1,by omega,i+1,by omega,g0,g1,g8,rfl,trivial,?_⟩
   rw [hd,hdrop,hn]; rfl
  ·rintro F' H' ⟨g4,rfl⟩
   simp -implicitDefEqProofs only [CS,EG,FM,CU,g4]
   exact ⟨trivial,trivial⟩
 ·have hi' : ¬ i < xs.length:=by simpa using hc
  simp -implicitDefEqProofs only [BB,AZ,BM,DC,A8,DZ,EN,EP,CU,AY,BC,AO,AQ,AL,BD,AX,AC,AA,AU,BL,BA,↓reduceIte,Option.getD_some,Bool.not_false]
  exact ⟨by rw [hd,List.drop_eq_nil_of_le (by omega)]; rfl,trivial⟩


theorem AMF (G:Nat→AV) (x:Pt) (h:Hp):PCall (En G) 129 [.agg (IM x)] h (.str x.name):=by
 refine ACalls.pure0 rfl ?_
 refine CG (H:=Hint.none) (enM G) Tryz.func129 rfl (by kernel_rfl) (by kernel_rfl) (Nat.le_of_ble_eq_true (by kernel_rfl)) ?_
 show awp _ _ _ _ _ (EU _ [.tmp 2] _)
 simp -implicitDefEqProofs only [BB,AZ,BM,A8,CU,AY,BC,AO,AQ,AL,BD,AX,AC,AA,A7,AU,KI,BA,FK,BO,BJ,BR,AB,BG,↓reduceIte,Nat.reduceEqDiff,Nat.add_zero,Option.getD_some,Bool.not_false,enP,AF3,bxP,DI ag9,AM7]
 exact ⟨trivial,_,rfl⟩
theorem AN5 (G:Nat→AV) (xs:List Pt) (m:SM) (h:Hp) (hl:xs.length≤1099511627776) :
  PCall (En G) 128 [.sl m 6 (xs.map IM),.fn (.func 129) [] []] h (.bool (OM (xs.map (·.name)))):=by
 refine CG (H:=Hint.none) (enM G) Tryz.func128 rfl (by kernel_rfl) (by kernel_rfl) (Nat.le_of_ble_eq_true (by kernel_rfl)) ?_
 show awp _ _ _ _ _ (EU _ [.tmp 4] _)
 simp -implicitDefEqProofs only [BB,BP,AZ,A8,AY,BC,AO,AQ,AL,BD,AX,AC,AA,A7,AU,BH,BL,BF,BA,DN,AB,BG,↓reduceIte,Nat.reduceEqDiff,Option.getD_some,Bool.not_false,enP,QE,List.length_map]
 generalize hN:xs.map (·.name)=N
 have hNl:N.length=xs.length:=by rw [← hN]; simp
 have hNi : ∀ i (hi:i < xs.length),N[i]? = some xs[i].name:=fun i hi=>by rw [← hN,List.getElem?_map,List.getElem?_eq_getElem hi]; rfl
 refine C9 (fun n F H => ∃ i,n+i=xs.length∧F 0 = .sl m 6 (xs.map IM)∧F 1 = .fn (.func 129) [] []∧F 8 = .int .i64 xs.length∧F 9 = .int .i64 (i:Nat)∧H=h∧OM N=ADI (N.take i) (N.drop i)) xs.length ⟨0,by simp,by simp -implicitDefEqProofs only [AA,BG,↓reduceIte,Nat.reduceEqDiff],by simp -implicitDefEqProofs only [AA,BG,BV,↓reduceIte,Nat.reduceEqDiff],by simp -implicitDefEqProofs only [AA,↓reduceIte,Nat.reduceEqDiff],by simp -implicitDefEqProofs only [AA,↓reduceIte]; rfl,rfl,rfl⟩ ?_
 rintro n F H ⟨i,hi,f0,f1,f8,f9,rfl,hd⟩
 simp -implicitDefEqProofs only [BB,AZ,BI,A8,AY,BC,AO,AQ,AL,BD,AX,AC,AA,A7,BQ,AB,CW,↓reduceIte,Option.getD_some,Bool.not_false,enP,f8,f9]
 refine CQ (fun hc => ?_) (fun hc => ?_)
 ·have hi':i < xs.length:=by simpa using hc
  have hdrop:=P7 N i (by omega)
  rw [GZ (hNi i hi')] at hdrop
  simp -implicitDefEqProofs only [BB,BP,AZ,BN,A8,AY,BC,AO,AQ,AL,BD,AX,AC,AA,A7,AU,BH,BF,BA,↓reduceIte,Nat.reduceEqDiff,Option.getD_some,Bool.not_false,f9]
  refine F8 2 (fun F' H'=>F' 0 = .sl m 6 (xs.map IM)∧F' 1 = .fn (.func 129) [] []∧F' 8 = .int .i64 xs.length∧F' 9 = .int .i64 (i:Nat)∧H'=H∧JS (N.take i) xs[i].name=false) (fun F' H'=>F' 4 = .bool (OM N)∧H'=H) ?_ ?_ ?_
  ·refine C9 (fun n F' H' => ∃ k,n+k=i∧F' 0 = .sl m 6 (xs.map IM)∧F' 1 = .fn (.func 129) [] []∧F' 8 = .int .i64 xs.length∧F' 9 = .int .i64 (i:Nat)∧F' 5 = .int .i64 (i:Nat)∧F' 12 = .int .i64 (i:Nat)∧F' 13 = .int .i64 (k:Nat)∧H'=H∧JS (N.take i) xs[i].name=JS ((N.take i).drop k) xs[i].name) i ⟨0,by simp,by simp -implicitDefEqProofs only [AA,↓reduceIte,Nat.reduceEqDiff,f0],by simp -implicitDefEqProofs only [AA,↓reduceIte,Nat.reduceEqDiff,f1],by simp -implicitDefEqProofs only [AA,↓reduceIte,Nat.reduceEqDiff,f8],by simp -implicitDefEqProofs only [AA,↓reduceIte,Nat.reduceEqDiff,f9],by simp -implicitDefEqProofs only [AA,↓reduceIte,Nat.reduceEqDiff],by simp -implicitDefEqProofs only [AA,↓reduceIte,Nat.reduceEqDiff],by simp -implicitDefEqProofs only [AA,↓reduceIte]; rfl,rfl,rfl⟩ ?_
   clear f0 f1 f8 f9
   rintro n' F H' ⟨k,hk,f0,f1,f8,f9,f5,f12,f13,rfl,hin⟩
   simp -implicitDefEqProofs only [BB,AZ,BI,A8,AY,BC,AO,AQ,AL,BD,AX,AC,AA,A7,BQ,AB,CW,↓reduceIte,Option.getD_some,Bool.not_false,enP,f12,f13]
   refine CQ (fun hc => ?_) (fun hc => ?_)
   ·have hk':k < i:=by simpa using hc
    have hk2:k < xs.length:=by omega
    have hs:=LV (fun u=>xs[i].name.toList == u.toList) (N.take i) k (by rw [List.length_take]; omega)
    have hx:(N.take i)[k]'(by rw [List.length_take]; omega)=xs[k].name:=by
     rw [List.getElem_take]; exact GZ (hNi k hk2)
    rw [hx] at hs
    simp -implicitDefEqProofs only [BB,BP,AZ,BN,A8,AY,BC,AO,AQ,AL,BD,AX,AC,AA,A7,BF,BA,↓reduceIte,Nat.reduceEqDiff,Option.getD_some,Bool.not_false,f13]
    refine ER (by kernel_rfl) ?_
    simp -implicitDefEqProofs only [F7,D9,DT,EC,FH,FC,IE,D7,GM,F6,AO,AA,A7,BO,BQ,BZ,AB,List.map_cons,List.map_nil,List.append_nil,↓reduceIte,Nat.reduceEqDiff,Nat.reduceAdd,Option.getD_some,enP,OJ,f0,f1,f5,DJ hi',DJ hk2,FD AGM ZM J8 hi',FD AGM ZM J8 hk2]
    refine ⟨_,AMF G xs[i] _,?_⟩
    refine ⟨_,AMF G xs[k] _,?_⟩
    try simp -implicitDefEqProofs only [DT,E8,BI,A8,AA,A7,AB,NL,↓reduceIte]
    refine CQ (fun hb => ?_) (fun hb => ?_)
    ·simp -implicitDefEqProofs only [BB,AZ,BM,A8,CS,EG,LW,FM,AY,BC,AO,AQ,AL,BD,AX,AC,AA,AU,BL,BA,↓reduceIte,Option.getD_some,Bool.not_false]
     refine ⟨?_,trivial⟩
     have:JS (N.take i) xs[i].name=true:=by
      rw [hin]; unfold JS; rw [hs,hb]; rfl
     rw [hd,hdrop,this]; rfl
    ·simp -implicitDefEqProofs only [AZ,BN,A8,D8,ED,AY,BC,AO,AQ,AL,BD,AX,AC,AA,A7,AU,BH,BF,BQ,AB,CZ,↓reduceIte,Nat.reduceEqDiff,Option.getD_some,Bool.not_false,enP,f13,wrap_succ (show k < 9223372036854775807 by omega)]
     refine ⟨n' - 1,by omega,k+1,by omega,f0,f1,f8,f9,f5,f12,rfl,trivial,?_⟩
     rw [hin]; unfold JS; rw [hs,hb]; rfl
   ·have hk' : ¬ k < i:=by simpa using hc
    simp -implicitDefEqProofs only [DC,DZ,JM,EP,AA,↓reduceIte,Nat.reduceEqDiff]
    refine ⟨f0,f1,f8,f9,trivial,?_⟩
    rw [hin,List.drop_eq_nil_of_le (by rw [List.length_take]; omega)]; rfl
  ·rintro F' H' ⟨g0,g1,g8,g9,rfl,hn⟩
   simp -implicitDefEqProofs only [AZ,A8,D8,EN,ED,AY,BC,AO,AQ,AL,BD,AX,AC,AA,A7,AU,BH,BF,BQ,AB,CZ,↓reduceIte,Nat.reduceEqDiff,Option.getD_some,Bool.not_false,enP,g9,wrap_succ (show i < 9223372036854775807 by omega)]
   refine ⟨n - 1,by omega,i+1,by omega,g0,g1,g8,rfl,trivial,?_⟩
   rw [hd,hdrop,hn]; rfl
  ·rintro F' H' ⟨g4,rfl⟩
   simp -implicitDefEqProofs only [CS,EG,FM,CU,g4]
   exact ⟨trivial,trivial⟩
 ·have hi' : ¬ i < xs.length:=by simpa using hc
  simp -implicitDefEqProofs only [BB,AZ,BM,DC,A8,DZ,EN,EP,CU,AY,BC,AO,AQ,AL,BD,AX,AC,AA,AU,BL,BA,↓reduceIte,Option.getD_some,Bool.not_false]
  exact ⟨by rw [hd,List.drop_eq_nil_of_le (by omega)]; rfl,trivial⟩


theorem AMG (G:Nat→AV) (x:Cr) (h:Hp):PCall (En G) 132 [.agg (H6 x)] h (.str x.name):=by
 refine ACalls.pure0 rfl ?_
 refine CG (H:=Hint.none) (enM G) Tryz.func132 rfl (by kernel_rfl) (by kernel_rfl) (Nat.le_of_ble_eq_true (by kernel_rfl)) ?_
 show awp _ _ _ _ _ (EU _ [.tmp 2] _)
 simp -implicitDefEqProofs only [BB,AZ,BM,A8,CU,AY,BC,AO,AQ,AL,BD,AX,AC,AA,A7,AU,KI,BA,FK,BO,BJ,BR,AB,BG,↓reduceIte,Nat.reduceEqDiff,Nat.add_zero,Option.getD_some,Bool.not_false,enP,AF1,bxC,DI ag9,AM8]
 exact ⟨trivial,_,rfl⟩
theorem AN6 (G:Nat→AV) (xs:List Cr) (m:SM) (h:Hp) (hl:xs.length≤1099511627776) :
  PCall (En G) 131 [.sl m 3 (xs.map H6),.fn (.func 132) [] []] h (.bool (OM (xs.map (·.name)))):=by
 refine CG (H:=Hint.none) (enM G) Tryz.func131 rfl (by kernel_rfl) (by kernel_rfl) (Nat.le_of_ble_eq_true (by kernel_rfl)) ?_
 show awp _ _ _ _ _ (EU _ [.tmp 4] _)
 simp -implicitDefEqProofs only [BB,BP,AZ,A8,AY,BC,AO,AQ,AL,BD,AX,AC,AA,A7,AU,BH,BL,BF,BA,DN,AB,BG,↓reduceIte,Nat.reduceEqDiff,Option.getD_some,Bool.not_false,enP,TB,List.length_map]
 generalize hN:xs.map (·.name)=N
 have hNl:N.length=xs.length:=by rw [← hN]; simp
 have hNi : ∀ i (hi:i < xs.length),N[i]? = some xs[i].name:=fun i hi=>by rw [← hN,List.getElem?_map,List.getElem?_eq_getElem hi]; rfl
 refine C9 (fun n F H => ∃ i,n+i=xs.length∧F 0 = .sl m 3 (xs.map H6)∧F 1 = .fn (.func 132) [] []∧F 8 = .int .i64 xs.length∧F 9 = .int .i64 (i:Nat)∧H=h∧OM N=ADI (N.take i) (N.drop i)) xs.length ⟨0,by simp,by simp -implicitDefEqProofs only [AA,BG,↓reduceIte,Nat.reduceEqDiff],by simp -implicitDefEqProofs only [AA,BG,BV,↓reduceIte,Nat.reduceEqDiff],by simp -implicitDefEqProofs only [AA,↓reduceIte,Nat.reduceEqDiff],by simp -implicitDefEqProofs only [AA,↓reduceIte]; rfl,rfl,rfl⟩ ?_
 rintro n F H ⟨i,hi,f0,f1,f8,f9,rfl,hd⟩
 simp -implicitDefEqProofs only [BB,AZ,BI,A8,AY,BC,AO,AQ,AL,BD,AX,AC,AA,A7,BQ,AB,CW,↓reduceIte,Option.getD_some,Bool.not_false,enP,f8,f9]
 refine CQ (fun hc => ?_) (fun hc => ?_)
 ·have hi':i < xs.length:=by simpa using hc
  have hdrop:=P7 N i (by omega)
  rw [GZ (hNi i hi')] at hdrop
  simp -implicitDefEqProofs only [BB,BP,AZ,BN,A8,AY,BC,AO,AQ,AL,BD,AX,AC,AA,A7,AU,BH,BF,BA,↓reduceIte,Nat.reduceEqDiff,Option.getD_some,Bool.not_false,f9]
  refine F8 2 (fun F' H'=>F' 0 = .sl m 3 (xs.map H6)∧F' 1 = .fn (.func 132) [] []∧F' 8 = .int .i64 xs.length∧F' 9 = .int .i64 (i:Nat)∧H'=H∧JS (N.take i) xs[i].name=false) (fun F' H'=>F' 4 = .bool (OM N)∧H'=H) ?_ ?_ ?_
  ·refine C9 (fun n F' H' => ∃ k,n+k=i∧F' 0 = .sl m 3 (xs.map H6)∧F' 1 = .fn (.func 132) [] []∧F' 8 = .int .i64 xs.length∧F' 9 = .int .i64 (i:Nat)∧F' 5 = .int .i64 (i:Nat)∧F' 12 = .int .i64 (i:Nat)∧F' 13 = .int .i64 (k:Nat)∧H'=H∧JS (N.take i) xs[i].name=JS ((N.take i).drop k) xs[i].name) i ⟨0,by simp,by simp -implicitDefEqProofs only [AA,↓reduceIte,Nat.reduceEqDiff,f0],by simp -implicitDefEqProofs only [AA,↓reduceIte,Nat.reduceEqDiff,f1],by simp -implicitDefEqProofs only [AA,↓reduceIte,Nat.reduceEqDiff,f8],by simp -implicitDefEqProofs only [AA,↓reduceIte,Nat.reduceEqDiff,f9],by simp -implicitDefEqProofs only [AA,↓reduceIte,Nat.reduceEqDiff],by simp -implicitDefEqProofs only [AA,↓reduceIte,Nat.reduceEqDiff],by simp -implicitDefEqProofs only [AA,↓reduceIte]; rfl,rfl,rfl⟩ ?_
   clear f0 f1 f8 f9
   rintro n' F H' ⟨k,hk,f0,f1,f8,f9,f5,f12,f13,rfl,hin⟩
   simp -implicitDefEqProofs only [BB,AZ,BI,A8,AY,BC,AO,AQ,AL,BD,AX,AC,AA,A7,BQ,AB,CW,↓reduceIte,Option.getD_some,Bool.not_false,enP,f12,f13]
   refine CQ (fun hc => ?_) (fun hc => ?_)
   ·have hk':k < i:=by simpa using hc
    have hk2:k < xs.length:=by omega
    have hs:=LV (fun u=>xs[i].name.toList == u.toList) (N.take i) k (by rw [List.length_take]; omega)
    have hx:(N.take i)[k]'(by rw [List.length_take]; omega)=xs[k].name:=by
     rw [List.getElem_take]; exact GZ (hNi k hk2)
    rw [hx] at hs
    simp -implicitDefEqProofs only [BB,BP,AZ,BN,A8,AY,BC,AO,AQ,AL,BD,AX,AC,AA,A7,BF,BA,↓reduceIte,Nat.reduceEqDiff,Option.getD_some,Bool.not_false,f13]
    refine ER (by kernel_rfl) ?_
    simp -implicitDefEqProofs only [F7,D9,DT,EC,FH,FC,IE,D7,GM,F6,AO,AA,A7,BO,BQ,BZ,AB,List.map_cons,List.map_nil,List.append_nil,↓reduceIte,Nat.reduceEqDiff,Nat.reduceAdd,Option.getD_some,enP,RF,f0,f1,f5,DJ hi',DJ hk2,FD ACQ X7 KG hi',FD ACQ X7 KG hk2]
    refine ⟨_,AMG G xs[i] _,?_⟩
    refine ⟨_,AMG G xs[k] _,?_⟩
    try simp -implicitDefEqProofs only [DT,E8,BI,A8,AA,A7,AB,NL,↓reduceIte]
    refine CQ (fun hb => ?_) (fun hb => ?_)
    ·simp -implicitDefEqProofs only [BB,AZ,BM,A8,CS,EG,LW,FM,AY,BC,AO,AQ,AL,BD,AX,AC,AA,AU,BL,BA,↓reduceIte,Option.getD_some,Bool.not_false]
     refine ⟨?_,trivial⟩
     have:JS (N.take i) xs[i].name=true:=by
      rw [hin]; unfold JS; rw [hs,hb]; rfl
     rw [hd,hdrop,this]; rfl
    ·simp -implicitDefEqProofs only [AZ,BN,A8,D8,ED,AY,BC,AO,AQ,AL,BD,AX,AC,AA,A7,AU,BH,BF,BQ,AB,CZ,↓reduceIte,Nat.reduceEqDiff,Option.getD_some,Bool.not_false,enP,f13,wrap_succ (show k < 9223372036854775807 by omega)]
     refine ⟨n' - 1,by omega,k+1,by omega,f0,f1,f8,f9,f5,f12,rfl,trivial,?_⟩
     rw [hin]; unfold JS; rw [hs,hb]; rfl
   ·have hk' : ¬ k < i:=by simpa using hc
    simp -implicitDefEqProofs only [DC,DZ,JM,EP,AA,↓reduceIte,Nat.reduceEqDiff]
    refine ⟨f0,f1,f8,f9,trivial,?_⟩
    rw [hin,List.drop_eq_nil_of_le (by rw [List.length_take]; omega)]; rfl
  ·rintro F' H' ⟨g0,g1,g8,g9,rfl,hn⟩
   simp -implicitDefEqProofs only [AZ,A8,D8,EN,ED,AY,BC,AO,AQ,AL,BD,AX,AC,AA,A7,AU,BH,BF,BQ,AB,CZ,↓reduceIte,Nat.reduceEqDiff,Option.getD_some,Bool.not_false,enP,g9,wrap_succ (show i < 9223372036854775807 by omega)]
   refine ⟨n - 1,by omega,i+1,by omega,g0,g1,g8,rfl,trivial,?_⟩
   rw [hd,hdrop,hn]; rfl
  ·rintro F' H' ⟨g4,rfl⟩
   simp -implicitDefEqProofs only [CS,EG,FM,CU,g4]
   exact ⟨trivial,trivial⟩
 ·have hi' : ¬ i < xs.length:=by simpa using hc
  simp -implicitDefEqProofs only [BB,AZ,BM,DC,A8,DZ,EN,EP,CU,AY,BC,AO,AQ,AL,BD,AX,AC,AA,AU,BL,BA,↓reduceIte,Option.getD_some,Bool.not_false]
  exact ⟨by rw [hd,List.drop_eq_nil_of_le (by omega)]; rfl,trivial⟩

end Go.Proofs.YtocilianjfhifaaGreatDoor.Cov
/- The error of a point, on both sides; no condition but the variables that are laid and the bounds on lengths. -/
set_option linter.unusedSimpArgs false
set_option maxRecDepth 8000
namespace Go.Proofs.YtocilianjfhifaaGreatDoor.Cov
open Go Go.Proofs Go.Proofs.YtocilianjfhifaaGreatDoor.Sm Go.Proofs.YtocilianjfhifaaGreatDoor.Bins Go.RowKit

/-- the first error of a list -/
def KF {α:Type} (f:α→Int):List α→Int
 | []=>0
 | x :: xs=>if f x=0 then KF f xs else f x
theorem P6 {α:Type} (f:α→Int) (xs:List α) (k:Nat) (hk:k < xs.length):KF f (xs.drop k)=if f xs[k]=0 then KF f (xs.drop (k+1)) else f xs[k]:=by
 rw [List.drop_eq_getElem_cons hk]; rfl
def H7 (p:Pt):Int :=
 if G9 p.name=false then 7 else if exE p.ex≠0 then exE p.ex else if p.bins.length=0 then 1 else if 64 < p.bins.length then 2 else
  if KF IR p.bins≠0 then KF IR p.bins else if OM (p.bins.map (·.name)) then 8 else 0
structure PtOk (p:Pt):Prop where
 ex:wt p.ex≤1048576
 name:p.name.size≤1048576
 num:p.bins.length≤1048576
 bins : ∀ b∈p.bins,BinOk b
theorem AZU (h:Hp):KD Tryz.prog h 121=some (.ptr h.length 0 0,h ++ [.live 4 [[.str ⟨#[]⟩,.int .i64 0,.sl .nil 0 [],.sl .nil 0 []]]]):=JY (row := [.str ⟨#[]⟩,.int .i64 0,.sl .nil 0 [],.sl .nil 0 []]) (by kernel_rfl)
theorem AYN (h:Hp) (b:Bin) (row:List AV) (hr:row.length=4):GG Tryz.prog (h ++ [.live 4 [row]]) 121 (.ptr h.length 0 0) (.agg (J9 b))=some (h ++ [.live 4 [J9 b]]):=by
 rw [OU (UZ rfl) (by rw [MP]; exact UB) (by rw [MP,hr]; exact Nat.le_refl _)]
 have:splice row 0 (J9 b)=J9 b:=by unfold splice; simp [MP,hr]
 rw [this]
theorem AKA (G:Nat→AV) (hG:GOk G) (p:Pt) (hp:PtOk p) (h:Hp):PCall (En G) 97 [.agg (IM p)] h (.int .i64 (H7 p)):=by
 refine ACalls.pure0 rfl ?_
 have hp1:=hp.ex
 have hp2:=hp.name
 have hp3:=hp.num
 refine CG (H:=Hint.none) (enM G) Tryz.func97 rfl (by kernel_rfl) (by kernel_rfl) (Nat.le_of_ble_eq_true (by kernel_rfl)) ?_
 show awp _ _ _ _ _ (EU _ [.tmp 2] _)
 simp -implicitDefEqProofs only [BB,AZ,A8,AY,BC,AO,AQ,AL,BD,AX,AC,AA,A7,AU,CB,BH,BA,FK,BO,BJ,CE,BX,BR,AB,BG,List.map_cons,List.map_nil,List.append_nil,↓reduceIte,Nat.reduceEqDiff,Nat.add_zero,Option.getD_some,Bool.not_false,enP,AF3,bxP,DI ag9,AM7]
 refine (NW G hG.kw p.name _ (by omega)).use ?_
 simp -implicitDefEqProofs only [BI,A8,AY,BC,AO,AQ,AL,BD,AX,AC,AA,A7,H9,AB,FB,↓reduceIte,Option.getD_some,Bool.not_false]
 cases h1:G9 p.name
 ·simp -implicitDefEqProofs only [BB,AZ,BM,A8,CS,CU,DX,AY,BC,AO,AQ,AL,BD,AX,AC,AA,AU,BH,BA,↓reduceIte,Option.getD_some,Bool.not_false]
  exact ⟨by unfold H7; rw [if_pos h1],_,rfl⟩
 have h1' : ¬ G9 p.name=false:=by rw [h1]; decide
 simp -implicitDefEqProofs only [BB,AZ,BN,A8,DY,AY,AO,AQ,AL,BD,AX,AC,AA,A7,CB,BO,BJ,CE,BX,AB,List.map_cons,List.map_nil,List.append_nil,↓reduceIte,Nat.reduceEqDiff,Nat.zero_add,Option.getD_some,Bool.not_true,Bool.not_false,enP,AF2,AQU (CX h _)]
 refine (AGA G hG p.ex _ hp1).use ?_
 simp -implicitDefEqProofs only [BB,AZ,BI,A8,AY,BC,AO,AQ,AL,BD,AX,AC,AA,A7,AU,BH,BF,BA,BQ,AB,EQ,↓reduceIte,Option.getD_some,Bool.not_false,enP]
 refine CQ (fun h2 => ?_) (fun h2 => ?_)
 ·simp -implicitDefEqProofs only [BB,AZ,BM,A8,CS,CU,AY,BC,AO,AQ,AL,BD,AX,AC,AA,A7,BF,BA,↓reduceIte,Nat.reduceEqDiff,Option.getD_some,Bool.not_false]
  exact ⟨by unfold H7; rw [if_neg h1',if_pos (by simpa using h2)],_,rfl⟩
 have h2' : ¬ exE p.ex≠0:=by simpa using h2
 simp -implicitDefEqProofs only [BB,BP,AZ,BN,BI,A8,AY,BC,AO,AQ,AL,BD,AX,AC,AA,A7,AU,BH,BA,BO,BQ,BJ,DN,AB,EJ,↓reduceIte,Nat.reduceEqDiff,Nat.zero_add,Option.getD_some,Bool.not_false,enP,QS,IU,DI PO,ML,List.length_map]
 refine CQ (fun h3 => ?_) (fun h3 => ?_)
 ·simp -implicitDefEqProofs only [BB,AZ,BM,A8,CS,EG,CU,AY,BC,AO,AQ,AL,BD,AX,AC,AA,AU,BH,BA,↓reduceIte,Option.getD_some,Bool.not_false]
  exact ⟨by unfold H7; rw [if_neg h1',if_neg h2',if_pos (by simp at h3; simpa using h3)],_,rfl⟩
 have h3' : ¬ p.bins.length=0:=by simp at h3; simpa using h3
 simp -implicitDefEqProofs only [BB,AZ,BI,A8,AY,BC,AO,AQ,AL,BD,AX,AC,AA,A7,AU,BH,BA,BO,BQ,BJ,DN,AB,EW,↓reduceIte,Nat.reduceEqDiff,Nat.zero_add,Option.getD_some,Bool.not_false,enP,QS,IU,DI PO,ML,List.length_map]
 refine CQ (fun h4 => ?_) (fun h4 => ?_)
 ·simp -implicitDefEqProofs only [BB,AZ,BM,A8,CS,EG,CU,AY,BC,AO,AQ,AL,BD,AX,AC,AA,AU,BH,BA,↓reduceIte,Option.getD_some,Bool.not_false]
  exact ⟨by unfold H7; rw [if_neg h1',if_neg h2',if_neg h3',if_pos (by simp at h4; omega)],_,rfl⟩
 have h4' : ¬ 64 < p.bins.length:=by simp at h4; omega
 have hpt:H7 p=if KF IR p.bins≠0 then KF IR p.bins else if OM (p.bins.map (·.name)) then 8 else 0:=by
  unfold H7; rw [if_neg h1',if_neg h2',if_neg h3',if_neg h4']
 simp -implicitDefEqProofs only [BB,BP,AZ,BN,A8,D8,AY,BC,AO,AQ,AL,BD,AX,AC,AA,A7,AU,BH,BF,BO,BJ,DN,AB,↓reduceIte,Nat.reduceEqDiff,Nat.zero_add,Option.getD_some,Bool.not_false,enP,QS,IU,DI PO,ML,List.length_map]
 refine F8 1 (fun F H=>F 1 = .ptr h.length 0 0∧H[h.length]? = some (.live 6 [IM p])∧(∃ x,H=h ++ x)∧KF IR p.bins=0) (fun F H=>F 2 = .int .i64 (H7 p)∧∃ x,H=h ++ x) ?_ ?_ ?_
 ·refine C9 (fun n F H => ∃ k,n+k=p.bins.length∧F 1 = .ptr h.length 0 0∧F 28 = .sl p.bm 4 (p.bins.map J9)∧F 29 = .int .i64 p.bins.length∧F 30 = .int .i64 (k:Nat)∧H[h.length]? = some (.live 6 [IM p])∧(∃ x,H=h ++ x)∧KF IR p.bins=KF IR (p.bins.drop k)) p.bins.length ⟨0,by simp,by simp -implicitDefEqProofs only [AA,↓reduceIte,Nat.reduceEqDiff],by simp -implicitDefEqProofs only [AA,↓reduceIte,Nat.reduceEqDiff],by simp -implicitDefEqProofs only [AA,↓reduceIte,Nat.reduceEqDiff],by simp -implicitDefEqProofs only [AA,↓reduceIte]; rfl,CX _ _,⟨_,rfl⟩,rfl⟩ ?_
  rintro n F H ⟨k,hk,f1,f28,f29,f30,hb,⟨x,hx⟩,hf⟩
  simp -implicitDefEqProofs only [BB,AZ,BI,A8,AY,BC,AO,AQ,AL,BD,AX,AC,AA,A7,BQ,AB,CW,↓reduceIte,Option.getD_some,Bool.not_false,enP,f29,f30]
  refine CQ (fun hc => ?_) (fun hc => ?_)
  ·have hk':k < p.bins.length:=by simpa using hc
   have hs:=P6 IR p.bins k hk'
   simp -implicitDefEqProofs only [BB,BP,AZ,BN,A8,AY,BC,AO,AQ,AL,BD,AX,AC,EZ,AA,A7,CB,FW,BO,EI,BZ,CE,BX,BR,AB,DR,List.map_cons,List.map_nil,List.append_nil,↓reduceIte,Nat.reduceEqDiff,Option.getD_some,Bool.not_false,enP,XD,Option.getD_none,f28,f30,DJ hk',FD ZI UB MP hk',AZU,AYN _ _ [.str ⟨#[]⟩,.int .i64 0,.sl .nil 0 [],.sl .nil 0 []] rfl,ldB]
   refine (AJW G hG.kw p.bins[k] (hp.bins _ (List.getElem_mem hk')) _).use ?_
   simp -implicitDefEqProofs only [BB,AZ,BI,A8,AY,BC,AO,AQ,AL,BD,AX,AC,AA,A7,AU,BH,BF,BA,BQ,AB,EQ,↓reduceIte,Option.getD_some,Bool.not_false,enP]
   refine CQ (fun hv => ?_) (fun hv => ?_)
   ·simp -implicitDefEqProofs only [BB,AZ,BM,A8,CS,EG,LW,FM,AY,BC,AO,AQ,AL,BD,AX,AC,AA,A7,BF,BA,↓reduceIte,Nat.reduceEqDiff,Option.getD_some,Bool.not_false]
    have hv':IR p.bins[k]≠0:=by simpa using hv
    have:KF IR p.bins=IR p.bins[k]:=by rw [hf,hs,if_neg hv']
    exact ⟨by rw [hpt,this,if_pos hv'],x ++ _,by rw [hx,List.append_assoc]⟩
   ·have hv':IR p.bins[k]=0:=by simpa using hv
    simp -implicitDefEqProofs only [AZ,BN,A8,D8,ED,AY,BC,AO,AQ,AL,BD,AX,AC,AA,A7,AU,BH,BF,BQ,AB,CZ,↓reduceIte,Nat.reduceEqDiff,Option.getD_some,Bool.not_false,enP,f30,wrap_succ (show k < 9223372036854775807 by omega)]
    exact ⟨n - 1,by omega,k+1,by omega,f1,f28,f29,rfl,DL hb,⟨x ++ _,by rw [hx,List.append_assoc]⟩,by rw [hf,hs,if_pos hv']⟩
  ·have hk' : ¬ k < p.bins.length:=by simpa using hc
   simp -implicitDefEqProofs only [DC,DZ,JM,EP,AA,↓reduceIte,Nat.reduceEqDiff]
   exact ⟨f1,hb,⟨x,hx⟩,by rw [hf,List.drop_eq_nil_of_le (by omega)]; rfl⟩
 ·rintro F H ⟨f1,hb,⟨x,hx⟩,hf⟩
  have l5:EE Tryz.prog H 54 (.ptr h.length 0 5)=some (.sl p.bm 4 (p.bins.map J9)):=by rw [D6 PO hb (row:=IM p) rfl,ML]
  simp -implicitDefEqProofs only [BB,AZ,A8,EN,AY,AO,AQ,AL,BD,AX,AC,AA,A7,CB,BO,BJ,CE,BX,AB,List.map_cons,List.map_nil,List.append_nil,↓reduceIte,Nat.zero_add,Option.getD_some,Bool.not_false,enP,IU,f1,l5]
  refine (AN7 G p.bins p.bm H (by omega)).use ?_
  simp -implicitDefEqProofs only [BI,A8,BC,AC,AA,A7,↓reduceIte]
  cases hd:OM (p.bins.map (·.name))
  ·simp -implicitDefEqProofs only [BB,AZ,BN,BM,A8,CU,DY,AY,BC,AO,AQ,AL,BD,AX,AC,AA,AU,BH,BA,↓reduceIte,Option.getD_some,Bool.not_false]
   exact ⟨by rw [hpt,hf,hd]; rfl,x,hx⟩
  ·simp -implicitDefEqProofs only [BB,AZ,BM,A8,CS,CU,DX,AY,BC,AO,AQ,AL,BD,AX,AC,AA,AU,BH,BA,↓reduceIte,Option.getD_some,Bool.not_false]
   exact ⟨by rw [hpt,hf,hd]; rfl,x,hx⟩
 ·rintro F H ⟨f2,hx⟩
  simp -implicitDefEqProofs only [CS,EG,CU,f2]
  exact ⟨trivial,hx⟩
end Go.Proofs.YtocilianjfhifaaGreatDoor.Cov
/- The error of a point: the reference; no condition but the bounds on lengths. -/
set_option linter.unusedSimpArgs false
set_option maxRecDepth 8000
namespace Go.Proofs.YtocilianjfhifaaGreatDoor.Cov
open Go Go.Proofs Go.Proofs.YtocilianjfhifaaGreatDoor.Sm Go.Proofs.YtocilianjfhifaaGreatDoor.Bins Go.RowKit

theorem AN9 (G:Nat→AV) (p:Pt) (hp:PtOk p) (h:Hp):PCall (En G) 102 [.agg (IM p)] h (.int .i64 (H7 p)):=by
 refine ACalls.pure0 rfl ?_
 have hp1:=hp.ex
 have hp2:=hp.name
 have hp3:=hp.num
 refine CG (H:=Hint.none) (enM G) Tryz.func102 rfl (by kernel_rfl) (by kernel_rfl) (Nat.le_of_ble_eq_true (by kernel_rfl)) ?_
 show awp _ _ _ _ _ (EU _ [.tmp 2] _)
 simp -implicitDefEqProofs only [BB,AZ,A8,AY,BC,AO,AQ,AL,BD,AX,AC,AA,A7,AU,CB,BH,BA,FK,BO,BJ,CE,BX,BR,AB,BG,List.map_cons,List.map_nil,List.append_nil,↓reduceIte,Nat.reduceEqDiff,Nat.add_zero,Option.getD_some,Bool.not_false,enP,AF3,bxP,DI ag9,AM7]
 refine (OV G p.name _).use ?_
 simp -implicitDefEqProofs only [BI,A8,AY,BC,AO,AQ,AL,BD,AX,AC,AA,A7,H9,AB,FB,↓reduceIte,Option.getD_some,Bool.not_false]
 cases h1:G9 p.name
 ·simp -implicitDefEqProofs only [BB,AZ,BM,A8,CS,CU,DX,AY,BC,AO,AQ,AL,BD,AX,AC,AA,AU,BH,BA,↓reduceIte,Option.getD_some,Bool.not_false]
  exact ⟨by unfold H7; rw [if_pos h1],_,rfl⟩
 have h1' : ¬ G9 p.name=false:=by rw [h1]; decide
 simp -implicitDefEqProofs only [BB,AZ,BN,A8,DY,AY,AO,AQ,AL,BD,AX,AC,AA,A7,CB,BO,BJ,CE,BX,AB,List.map_cons,List.map_nil,List.append_nil,↓reduceIte,Nat.reduceEqDiff,Nat.zero_add,Option.getD_some,Bool.not_true,Bool.not_false,enP,AF2,AQU (CX h _)]
 refine (AIN G p.ex _ hp1).use ?_
 simp -implicitDefEqProofs only [BB,AZ,BI,A8,AY,BC,AO,AQ,AL,BD,AX,AC,AA,A7,AU,BH,BF,BA,BQ,AB,EQ,↓reduceIte,Option.getD_some,Bool.not_false,enP]
 refine CQ (fun h2 => ?_) (fun h2 => ?_)
 ·simp -implicitDefEqProofs only [BB,AZ,BM,A8,CS,CU,AY,BC,AO,AQ,AL,BD,AX,AC,AA,A7,BF,BA,↓reduceIte,Nat.reduceEqDiff,Option.getD_some,Bool.not_false]
  exact ⟨by unfold H7; rw [if_neg h1',if_pos (by simpa using h2)],_,rfl⟩
 have h2' : ¬ exE p.ex≠0:=by simpa using h2
 simp -implicitDefEqProofs only [BB,AZ,BN,BI,A8,AY,BC,AO,AQ,AL,BD,AX,AC,AA,A7,AU,BH,BO,BQ,BJ,DN,AB,EJ,↓reduceIte,Nat.reduceEqDiff,Nat.zero_add,Option.getD_some,Bool.not_false,enP,QS,IU,DI PO,ML,List.length_map]
 refine CQ (fun h3 => ?_) (fun h3 => ?_)
 ·simp -implicitDefEqProofs only [BB,AZ,BM,A8,CS,CU,AY,BC,AO,AQ,AL,BD,AX,AC,AA,AU,BH,BA,↓reduceIte,Option.getD_some,Bool.not_false]
  exact ⟨by unfold H7; rw [if_neg h1',if_neg h2',if_pos (by simp at h3; simpa using h3)],_,rfl⟩
 have h3' : ¬ p.bins.length=0:=by simp at h3; simpa using h3
 simp -implicitDefEqProofs only [BB,AZ,BN,BI,A8,AY,BC,AO,AQ,AL,BD,AX,AC,AA,A7,AU,BH,BO,BQ,BJ,DN,AB,EW,↓reduceIte,Nat.reduceEqDiff,Nat.zero_add,Option.getD_some,Bool.not_false,enP,QS,IU,DI PO,ML,List.length_map]
 refine CQ (fun h4 => ?_) (fun h4 => ?_)
 ·simp -implicitDefEqProofs only [BB,AZ,BM,A8,CS,CU,AY,BC,AO,AQ,AL,BD,AX,AC,AA,AU,BH,BA,↓reduceIte,Option.getD_some,Bool.not_false]
  exact ⟨by unfold H7; rw [if_neg h1',if_neg h2',if_neg h3',if_pos (by simp at h4; omega)],_,rfl⟩
 have h4' : ¬ 64 < p.bins.length:=by simp at h4; omega
 have hpt:H7 p=if KF IR p.bins≠0 then KF IR p.bins else if OM (p.bins.map (·.name)) then 8 else 0:=by
  unfold H7; rw [if_neg h1',if_neg h2',if_neg h3',if_neg h4']
 simp -implicitDefEqProofs only [BB,BP,AZ,BN,A8,AY,BC,AO,AQ,AL,BD,AX,AC,AU,BH,BA,Option.getD_some,Bool.not_false]
 refine F8 0 (fun F H=>F 1 = .ptr h.length 0 0∧H=h ++ [.live 6 [IM p]]∧KF IR p.bins=0) (fun F H=>F 2 = .int .i64 (H7 p)∧∃ x,H=h ++ x) ?_ ?_ ?_
 ·refine C9 (fun n F H => ∃ k,n+k=p.bins.length∧F 1 = .ptr h.length 0 0∧F 4 = .int .i64 (k:Nat)∧H=h ++ [.live 6 [IM p]]∧KF IR p.bins=KF IR (p.bins.drop k)) p.bins.length ⟨0,by simp,by simp -implicitDefEqProofs only [AA,↓reduceIte,Nat.reduceEqDiff],by simp -implicitDefEqProofs only [AA,↓reduceIte]; rfl,rfl,rfl⟩ ?_
  rintro n F H ⟨k,hk,f1,f4,rfl,hf⟩
  simp -implicitDefEqProofs only [BB,AZ,BI,A8,AY,BC,AO,AQ,AL,BD,AX,AC,AA,A7,BF,BO,BQ,BJ,DN,AB,CW,↓reduceIte,Nat.reduceEqDiff,Nat.zero_add,Option.getD_some,Bool.not_false,enP,QS,IU,f1,f4,DI PO,ML,List.length_map]
  refine CQ (fun hc => ?_) (fun hc => ?_)
  ·have hk':k < p.bins.length:=by simpa using hc
   have hs:=P6 IR p.bins k hk'
   simp -implicitDefEqProofs only [BB,BP,AZ,BN,A8,AY,AO,AQ,AL,BD,AX,AC,AA,A7,CB,BF,BO,BJ,BZ,CE,BX,AB,List.map_cons,List.map_nil,List.append_nil,↓reduceIte,Nat.reduceEqDiff,Nat.zero_add,Option.getD_some,Bool.not_false,enP,XD,IU,f1,f4,DI PO,ML,DJ hk',FD ZI UB MP hk']
   refine (ANR G p.bins[k] (hp.bins _ (List.getElem_mem hk')) _).use ?_
   simp -implicitDefEqProofs only [BB,AZ,BI,A8,AY,BC,AO,AQ,AL,BD,AX,AC,AA,A7,AU,BH,BF,BA,BQ,AB,EQ,↓reduceIte,Option.getD_some,Bool.not_false,enP]
   refine CQ (fun hv => ?_) (fun hv => ?_)
   ·simp -implicitDefEqProofs only [BB,AZ,BM,A8,CS,EG,LW,FM,AY,BC,AO,AQ,AL,BD,AX,AC,AA,A7,BF,BA,↓reduceIte,Nat.reduceEqDiff,Option.getD_some,Bool.not_false]
    have hv':IR p.bins[k]≠0:=by simpa using hv
    have:KF IR p.bins=IR p.bins[k]:=by rw [hf,hs,if_neg hv']
    exact ⟨by rw [hpt,this,if_pos hv'],_,rfl⟩
   ·have hv':IR p.bins[k]=0:=by simpa using hv
    simp -implicitDefEqProofs only [AZ,BN,A8,D8,ED,AY,BC,AO,AQ,AL,BD,AX,AC,AA,A7,AU,BH,BF,BA,BQ,AB,CZ,↓reduceIte,Nat.reduceEqDiff,Option.getD_some,Bool.not_false,enP,f4,wrap_succ (show k < 9223372036854775807 by omega)]
    exact ⟨n - 1,by omega,k+1,by omega,f1,rfl,trivial,by rw [hf,hs,if_pos hv']⟩
  ·have hk' : ¬ k < p.bins.length:=by simpa using hc
   simp -implicitDefEqProofs only [DC,DZ,JM,EP,AA,↓reduceIte,Nat.reduceEqDiff]
   exact ⟨f1,trivial,by rw [hf,List.drop_eq_nil_of_le (by omega)]; rfl⟩
 ·rintro F H ⟨f1,rfl,hf⟩
  rw [hf,if_neg (fun hh=>hh rfl)] at hpt
  simp -implicitDefEqProofs only [BB,BP,AZ,A8,EN,AY,BC,AO,AQ,AL,BD,AX,AC,AU,BH,BA,↓reduceIte,Option.getD_some,Bool.not_false,f1]
  generalize hN:p.bins.map (·.name)=N at hpt
  have hNl:N.length=p.bins.length:=by rw [← hN]; simp
  have hNi : ∀ i (hi:i < p.bins.length),N[i]? = some p.bins[i].name:=fun i hi=>by rw [← hN,List.getElem?_map,List.getElem?_eq_getElem hi]; rfl
  refine C9 (fun n F H => ∃ i,n+i=p.bins.length∧F 1 = .ptr h.length 0 0∧F 5 = .int .i64 (i:Nat)∧H=h ++ [.live 6 [IM p]]∧OM N=ADI (N.take i) (N.drop i)) p.bins.length ⟨0,by simp,by simp -implicitDefEqProofs only [AA,↓reduceIte,Nat.reduceEqDiff,f1],by simp -implicitDefEqProofs only [AA,↓reduceIte]; rfl,rfl,rfl⟩ ?_
  clear f1
  rintro n F H ⟨i,hi,f1,f5,rfl,hd⟩
  simp -implicitDefEqProofs only [BB,AZ,BI,A8,AY,BC,AO,AQ,AL,BD,AX,AC,AA,A7,BF,BO,BQ,BJ,DN,AB,CW,↓reduceIte,Nat.reduceEqDiff,Nat.zero_add,Option.getD_some,Bool.not_false,enP,QS,IU,f1,f5,DI PO,ML,List.length_map]
  refine CQ (fun hc => ?_) (fun hc => ?_)
  ·have hi':i < p.bins.length:=by simpa using hc
   have hdrop:=P7 N i (by omega)
   rw [GZ (hNi i hi')] at hdrop
   simp -implicitDefEqProofs only [BB,BP,AZ,BN,A8,AY,BC,AO,AQ,AL,BD,AX,AC,AU,BH,BA,Option.getD_some,Bool.not_false,f5]
   refine F8 4 (fun F' H'=>F' 1 = .ptr h.length 0 0∧F' 5 = .int .i64 (i:Nat)∧H'=h ++ [.live 6 [IM p]]∧JS (N.take i) p.bins[i].name=false) (fun F' H'=>F' 2 = .int .i64 8∧H'=h ++ [.live 6 [IM p]]∧OM N=true) ?_ ?_ ?_
   ·refine C9 (fun n F' H' => ∃ k,n+k=i∧F' 1 = .ptr h.length 0 0∧F' 5 = .int .i64 (i:Nat)∧F' 6 = .int .i64 (k:Nat)∧H'=h ++ [.live 6 [IM p]]∧JS (N.take i) p.bins[i].name=JS ((N.take i).drop k) p.bins[i].name) i ⟨0,by simp,by simp -implicitDefEqProofs only [AA,↓reduceIte,Nat.reduceEqDiff,f1],by simp -implicitDefEqProofs only [AA,↓reduceIte,Nat.reduceEqDiff,f5],by simp -implicitDefEqProofs only [AA,↓reduceIte]; rfl,rfl,rfl⟩ ?_
    clear f1 f5
    rintro n' F H' ⟨k,hk,f1,f5,f6,rfl,hin⟩
    simp -implicitDefEqProofs only [BB,AZ,BI,A8,AY,BC,AO,AQ,AL,BD,AX,AC,AA,A7,BF,BQ,AB,CW,↓reduceIte,Nat.reduceEqDiff,Option.getD_some,Bool.not_false,enP,f5,f6]
    refine CQ (fun hc => ?_) (fun hc => ?_)
    ·have hk':k < i:=by simpa using hc
     have hk2:k < p.bins.length:=by omega
     have hs:=LV (fun u=>p.bins[i].name.toList == u.toList) (N.take i) k (by rw [List.length_take]; omega)
     have hx:(N.take i)[k]'(by rw [List.length_take]; omega)=p.bins[k].name:=by
      rw [List.getElem_take]; exact GZ (hNi k hk2)
     rw [hx] at hs
     simp -implicitDefEqProofs only [BB,BP,BN,A8]
     refine ER (by kernel_rfl) ?_
     simp -implicitDefEqProofs only [F7,D9,DT,E8,EC,FH,FC,IE,D5,D7,BI,A8,AO,AA,A7,BO,BQ,BJ,BZ,AB,NL,↓reduceIte,Nat.reduceEqDiff,Nat.reduceAdd,Nat.add_zero,Nat.zero_add,Option.getD_some,enP,XD,IU,AAG,f1,f5,f6,DI PO,ML,DJ hi',DJ hk2,CV ag9 hi',CV ag9 hk2,AM9]
     refine CQ (fun hb => ?_) (fun hb => ?_)
     ·simp -implicitDefEqProofs only [BB,AZ,BM,A8,CS,EG,LW,FM,AY,BC,AO,AQ,AL,BD,AX,AC,AA,AU,BH,BA,↓reduceIte,Option.getD_some,Bool.not_false]
      have:JS (N.take i) p.bins[i].name=true:=by
       rw [hin]; unfold JS; rw [hs,BEq.comm,hb]; rfl
      exact ⟨trivial,trivial,by rw [hd,hdrop,this]; rfl⟩
     ·simp -implicitDefEqProofs only [AZ,BN,A8,D8,ED,AY,BC,AO,AQ,AL,BD,AX,AC,AA,A7,AU,BH,BF,BA,BQ,AB,CZ,↓reduceIte,Nat.reduceEqDiff,Option.getD_some,Bool.not_false,enP,f6,wrap_succ (show k < 9223372036854775807 by omega)]
      refine ⟨n' - 1,by omega,k+1,by omega,f1,f5,rfl,trivial,?_⟩
      rw [hin]; unfold JS; rw [hs,BEq.comm,hb]; rfl
    ·have hk' : ¬ k < i:=by simpa using hc
     simp -implicitDefEqProofs only [DC,DZ,JM,EP,AA,↓reduceIte,Nat.reduceEqDiff]
     refine ⟨f1,f5,trivial,?_⟩
     rw [hin,List.drop_eq_nil_of_le (by rw [List.length_take]; omega)]; rfl
   ·rintro F' H' ⟨g1,g5,rfl,hn⟩
    simp -implicitDefEqProofs only [AZ,A8,D8,EN,ED,AY,BC,AO,AQ,AL,BD,AX,AC,AA,A7,AU,BH,BF,BA,BQ,AB,CZ,↓reduceIte,Nat.reduceEqDiff,Option.getD_some,Bool.not_false,enP,g5,wrap_succ (show i < 9223372036854775807 by omega)]
    refine ⟨n - 1,by omega,i+1,by omega,g1,rfl,trivial,?_⟩
    rw [hd,hdrop,hn]; rfl
   ·rintro F' H' ⟨g2,rfl,hdd⟩
    simp -implicitDefEqProofs only [CS,EG,FM,CU,g2]
    exact ⟨by rw [hpt,hdd]; rfl,_,rfl⟩
  ·have hi' : ¬ i < p.bins.length:=by simpa using hc
   simp -implicitDefEqProofs only [BB,AZ,BM,DC,A8,DZ,EN,EP,CU,AY,BC,AO,AQ,AL,BD,AX,AC,AA,AU,BH,BA,↓reduceIte,Option.getD_some,Bool.not_false]
   exact ⟨by rw [hpt,hd,List.drop_eq_nil_of_le (by omega)]; rfl,_,rfl⟩
 ·rintro F H ⟨f2,hx⟩
  simp -implicitDefEqProofs only [CS,EG,CU,f2]
  exact ⟨trivial,hx⟩
end Go.Proofs.YtocilianjfhifaaGreatDoor.Cov
