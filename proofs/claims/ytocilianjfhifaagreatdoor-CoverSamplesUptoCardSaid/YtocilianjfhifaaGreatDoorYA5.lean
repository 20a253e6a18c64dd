/- Part 5 of the proof (E4, E5, E6, E7, E8, E9, E10, M1, M2, M3); no condition. -/
import Derived.Test.YtocilianjfhifaaGreatDoorYA4
set_option linter.unusedVariables false
set_option linter.unusedSimpArgs false
set_option maxRecDepth 8000
namespace Go.Proofs.YtocilianjfhifaaGreatDoor.Cov
open Sm Bins Go.RowKit
theorem AT5 (l:List UInt8):(Lib.cut l [91]).1.length≤l.length:=by
 unfold Lib.cut
 split
 ·simp only [List.length_take]; exact Nat.min_le_right _ _
 ·exact Nat.le_refl _
theorem ixl {l:List UInt8} {k:Nat} {b:UInt8} {i:Int} (hi:i=(k:Int)) (hb:l[k]? = some b):NK Tryz.prog 9 (.str ⟨l.toArray⟩) (.int .i64 i)=some (.int .u8 b.toNat):=by
 subst hi
 have hk:k < l.length:=(List.getElem?_eq_some_iff.1 hb).1
 have:=ix9 ⟨l.toArray⟩ k .i64 hk
 rw [this]
 have h2:(⟨l.toArray⟩:ByteArray)[k]'hk=l[k]:=rfl
 rw [h2]
 rw [List.getElem?_eq_getElem hk] at hb
 rw [Option.some.inj hb]
theorem szl (l:List UInt8):(⟨l.toArray⟩:ByteArray).size=l.length:=rfl
theorem wrap_u8 {n:Int} (h0:0≤n) (h1:n < 256):IntKind.u8.wrap n=n:=by
 unfold IntKind.wrap; simp [IntKind.bits,IntKind.signed]; omega
theorem AGE (G:Nat→AV) (hG:GOk G) (s:ByteArray) (h:Hp) (hl:s.size≤1048576):PCall (En G) 259 [.str s] h (elemV (PI s)):=by
 refine CB (H:=Hint.none) (enM G) Tryz.func259 rfl (by kernel_rfl) (by kernel_rfl) (nLb (by kernel_rfl)) ?_
 show awp _ _ _ _ _ (EE _ [.tmp 2,.tmp 3,.tmp 4] _)
 simp -implicitDefEqProofs only [BC,BA,A8,AY,BB,AO,AQ,AL,BD,AX,AC,AA,A7,AU,BX,BH,BM,IP,BG,AZ,BZ,BU,BF,lMc,lMn,lAn,↓reduceIte,Nat.reduceEqDiff,oGs,bNf,enP]
 refine (AQ1 G hG s h hl).use ?_
 have he:=AQV s
 have hal:=AT5 s.data.toList
 unfold cutV
 generalize Lib.cut s.data.toList [91]=c at he hal ⊢
 obtain ⟨a,b,f⟩:=c
 have hal2:a.length≤s.size:=by simpa using hal
 simp -implicitDefEqProofs only [List.getElem?_cons_zero,List.getElem?_cons_succ,BC,BA,A8,AY,BB,BJ,BP,CO,AO,AQ,AL,BD,AX,AC,AA,A7,BG,AZ,G6,FW,IB,AB,EX,↓reduceIte,Nat.reduceEqDiff,oGs,bNf]
 cases f
 ·simp -implicitDefEqProofs only [BC,BA,BL,BI,A8,CP,OD,C9,AY,BB,BJ,BP,CO,FK,AO,AQ,AL,BD,AX,AC,AA,EQ,A7,AU,BH,BM,IP,BG,AZ,CQ,DN,↓reduceIte,Nat.reduceEqDiff,oGs,bNf]
  exact ⟨by rw [he]; rfl,trivial⟩
 simp -implicitDefEqProofs only [BJ,BP,CO,EK,AO,AQ,AL,BD,AX,AC,AA,A7,BX,BG,BZ,BU,lMc,lMn,lAn,↓reduceIte,Nat.reduceEqDiff,oGs,bNt,bNf]
 refine (NT G hG.kw ⟨a.toArray⟩ h (by rw [szl]; omega)).use ?_
 simp -implicitDefEqProofs only [AY,BJ,BP,CO,EK,AO,AQ,AL,BD,AX,AC,AA,A7,AU,BM,BG,CQ,DK,G6,AB,EX,↓reduceIte,Nat.reduceEqDiff,oGs,bNf]
 cases hn:G8 ⟨a.toArray⟩
 ·simp -implicitDefEqProofs only [BC,BA,BL,BI,A8,CP,OD,C9,AY,BB,BJ,BP,CO,FK,AO,AQ,AL,BD,AX,AC,AA,EQ,A7,AU,BH,BM,IP,BG,AZ,CQ,DN,↓reduceIte,Nat.reduceEqDiff,oGs,bNf]
  exact ⟨by rw [he]; simp [hn]; rfl,trivial⟩
 simp -implicitDefEqProofs only [AY,BJ,BP,CO,EK,AO,AQ,AL,BD,AX,AC,AA,A7,AU,BH,BM,BG,CQ,DK,BR,D6,AB,EJ,↓reduceIte,Nat.reduceEqDiff,oGs,bNt,bNf,enP,ln9,szl]
 refine G5 (fun hb => ?_) (fun hb => ?_)
 ·simp -implicitDefEqProofs only [BC,BA,BL,BI,A8,CP,OD,C9,AY,BB,BJ,BP,CO,FK,AO,AQ,AL,BD,AX,AC,AA,EQ,A7,AU,BH,BM,IP,BG,AZ,CQ,DN,↓reduceIte,Nat.reduceEqDiff,oGs,bNf,hb]
  have hne : ∀ d y,b≠[d,y]:=by
   intro d y e; subst e; simp at hb
  have:PI s=none:=by
   rw [he]; split
   ·split
    ·rename_i hm; exact absurd hm (hne _ _)
    ·rfl
   ·rfl
  exact ⟨by rw [this]; rfl,trivial⟩
 have h2:b.length=2:=by simp at hb; omega
 match b,h2 with
 | [d,y],_ =>
   have i1:NK Tryz.prog 9 (.str ⟨[d,y].toArray⟩) (.int .i64 1)=some (.int .u8 y.toNat):=ixl (k:=1) rfl rfl
   have i0:NK Tryz.prog 9 (.str ⟨[d,y].toArray⟩) (.int .i64 0)=some (.int .u8 d.toNat):=ixl (k:=0) rfl rfl
   have he2:PI s=if (y == 93 && decide (48≤d.toNat) && decide (d.toNat < 56))=true then some (a,d) else none:=by
    rw [he]; simp [hn]
   clear he
   simp -implicitDefEqProofs only [AY,BJ,BP,CO,EK,AO,AQ,AL,BD,AX,AC,AA,A7,AU,BH,BM,BG,CQ,DK,BR,N8,AB,EJ,↓reduceIte,Nat.reduceEqDiff,oGs,bNf,enP,hb,i1,i0]
   refine G5 (fun hc => ?_) (fun hc => ?_)
   ·simp -implicitDefEqProofs only [BC,BA,BL,BI,A8,CP,OD,C9,AY,BB,BJ,BP,CO,FK,AO,AQ,AL,BD,AX,AC,AA,EQ,A7,AU,BH,BM,IP,BG,AZ,CQ,DN,↓reduceIte,Nat.reduceEqDiff,oGs,bNf,hc]
    have hy:(y == 93)=false:=by
     rw [← Bool.not_eq_true]; intro e; rw [beq_iff_eq] at e; subst e; simp at hc
    exact ⟨by rw [he2,hy]; rfl,trivial⟩
   have hy:(y == 93)=true:=by
    rw [beq_iff_eq,← UInt8.toNat_inj]
    simp at hc; show y.toNat=93; omega
   simp -implicitDefEqProofs only [AY,BJ,BP,CO,EK,AO,AQ,AL,BD,AX,AC,AA,A7,AU,BH,BM,BG,CQ,DK,BR,N8,AB,DF,↓reduceIte,Nat.reduceEqDiff,oGs,bNf,enP,hc,i0]
   refine G5 (fun hd => ?_) (fun hd => ?_)
   ·simp -implicitDefEqProofs only [BC,BA,BL,BI,A8,CP,OD,C9,AY,BB,BJ,BP,CO,FK,AO,AQ,AL,BD,AX,AC,AA,EQ,A7,AU,BH,BM,IP,AZ,CQ,DN,↓reduceIte,Nat.reduceEqDiff,oGs,bNf,hd]
    have:decide (48≤d.toNat)=false:=by simp at hd ⊢; omega
    exact ⟨by rw [he2,this]; simp; rfl,trivial⟩
   have hd1:48≤d.toNat:=by simp at hd; omega
   simp -implicitDefEqProofs only [BI,A8,AY,BB,BJ,BP,CO,EK,AO,AQ,AL,BD,AX,AC,AA,A7,AU,BH,BM,BG,CQ,DK,BR,N8,AB,GZ,↓reduceIte,Nat.reduceEqDiff,oGs,bNf,enP,hd,i0]
   refine CW (fun hf => ?_) (fun hf => ?_)
   ·simp -implicitDefEqProofs only [BC,BA,BL,A8,CP,OD,AY,BB,AO,AQ,AL,BD,AX,AC,AA,AU,BH,BM,IP,AZ,↓reduceIte,Nat.reduceEqDiff,oGs,bNf]
    have:decide (d.toNat < 56)=false:=by simp at hf ⊢; omega
    exact ⟨by rw [he2,this]; simp; rfl,trivial⟩
   have hd2:d.toNat < 56:=by simp at hf; omega
   simp -implicitDefEqProofs only [BC,BO,A8]
   refine FD (by kernel_rfl) ?_
   simp -implicitDefEqProofs only [F9,EH,DX,FC,EM,FP,J8,JA,AOS,AFE,BL,A8,OD,AO,AA,A7,AU,BH,BM,BR,YU,N8,AB,JQ,↓reduceIte,Nat.reduceEqDiff,Nat.reduceAdd,oGs,enP,AQ0,i0,wrap_u8 (n:=(d.toNat:Int) - 48) (by omega) (by omega),wrap_i64 (n:=(d.toNat:Int) - 48) (by omega) (by omega)]
   exact ⟨by rw [he2]; simp [hy,hd1,hd2]; rfl,trivial⟩
theorem AVY {s:ByteArray} {u:Nat} {h:Hp} (hu:u≤s.size):NJ Tryz.prog h 9 (.str s) none (some (.int .i64 (u:Int))) none=some (.str (s.extract 0 u)):=by
 have:Tryz.prog.underlying 9=some .string:=by kernel_rfl
 simp [NJ,this,KD,hu]
theorem ATV (a b:List UInt8):(⟨(a ++ b).toArray⟩:ByteArray).extract 0 a.length=⟨a.toArray⟩:=by
 ext1
 simp
set_option maxHeartbeats 1000000 in
theorem AM3 (G:Nat→AV) (s:ByteArray) (h:Hp) (hl:s.size≤1099511627776):PCall (En G) 289 [.str s] h (elemV (PI s)):=by
 refine CB (H:=Hint.none) (enM G) Tryz.func289 rfl (by kernel_rfl) (by kernel_rfl) (nLb (by kernel_rfl)) ?_
 show awp _ _ _ _ _ (EE _ [.tmp 2,.tmp 3,.tmp 4] _)
 obtain ⟨⟨l⟩⟩:=s
 rw [szl] at hl
 rcases Nat.lt_or_ge l.length 4 with h4 | h4
 ·have hd:decide ((l.length:Int) < 4)=true:=by simp; omega
  simp -implicitDefEqProofs only [BC,BA,BL,BI,A8,CP,OD,C9,AY,BB,BJ,BP,CO,FK,AO,AQ,AL,BD,AX,AC,AA,EQ,A7,AU,BH,BM,IP,BG,AZ,CQ,DN,BR,D6,AB,DF,BF,↓reduceIte,Nat.reduceEqDiff,oGs,bNf,enP,ln9,szl,hd]
  have:PI ⟨l.toArray⟩=none:=by
   unfold PI; rw [if_neg]; simp; omega
  exact ⟨by rw [this]; rfl,trivial⟩
 obtain ⟨b,x,d,y,rfl⟩:=three (show 3≤l.length by omega)
 have hlen:(b ++ [x,d,y]).length=b.length+3:=by simp
 rw [hlen] at hl h4
 have hbl:0 < b.length:=by omega
 have hb:b≠[]:=List.length_pos_iff.1 hbl
 have he:=ACS (x:=x) (d:=d) (y:=y) hb
 generalize hn:G8 ⟨b.toArray⟩=nm at he
 have i1:NK Tryz.prog 9 (.str ⟨(b ++ [x,d,y]).toArray⟩) (.int .i64 ((b.length:Int)+2))=some (.int .u8 y.toNat):=ixl (k:=b.length+2) (by omega) (by simp)
 have i2:NK Tryz.prog 9 (.str ⟨(b ++ [x,d,y]).toArray⟩) (.int .i64 ((b.length:Int)+1))=some (.int .u8 d.toNat):=ixl (k:=b.length+1) (by omega) (by simp)
 have i3:NK Tryz.prog 9 (.str ⟨(b ++ [x,d,y]).toArray⟩) (.int .i64 (b.length:Int))=some (.int .u8 x.toNat):=ixl (k:=b.length) rfl (by simp)
 have i4:=AVY (s:=⟨(b ++ [x,d,y]).toArray⟩) (u:=b.length) (h:=h) (by rw [szl]; omega)
 rw [ATV] at i4
 have hsz:(⟨(b ++ [x,d,y]).toArray⟩:ByteArray).size=b.length+3:=by rw [szl,hlen]
 generalize (⟨(b ++ [x,d,y]).toArray⟩:ByteArray)=s at *
 have w1:IntKind.i64.wrap (((b.length+3:Nat):Int) - 1)=(b.length:Int)+2:=by rw [wrap_i64 (by omega) (by omega)]; omega
 have w2:IntKind.i64.wrap (((b.length+3:Nat):Int) - 2)=(b.length:Int)+1:=by rw [wrap_i64 (by omega) (by omega)]; omega
 have w3:IntKind.i64.wrap (((b.length+3:Nat):Int) - 3)=(b.length:Int):=by rw [wrap_i64 (by omega) (by omega)]; omega
 have hd8:d.toNat < 256:=d.toNat_lt
 have w4:IntKind.i64.wrap (d.toNat:Int)=(d.toNat:Int):=wrap_i64 (by omega) (by omega)
 have w5:IntKind.i64.wrap ((d.toNat:Int) - 48)=(d.toNat:Int) - 48:=wrap_i64 (by omega) (by omega)
 have ha:decide (((b.length+3:Nat):Int) < 4)=false:=by simp; omega
 simp -implicitDefEqProofs only [BC,BA,A8,AY,BB,BJ,BP,CO,EK,AO,AQ,AL,BD,AX,AC,AA,A7,AU,BH,BM,IP,BG,AZ,CQ,DK,BR,N8,D6,AB,JQ,EJ,DF,BF,↓reduceIte,Nat.reduceEqDiff,oGs,bNf,enP,ln9,hsz,ha,w1,w2,w3,i1,i2,i3,i4]
 refine G5 (fun hc => ?_) (fun hc => ?_)
 ·simp -implicitDefEqProofs only [BC,BA,BL,BI,A8,CP,OD,C9,AY,BB,BJ,BP,CO,FK,AO,AQ,AL,BD,AX,AC,AA,EQ,A7,AU,BH,BM,IP,AZ,CQ,DN,↓reduceIte,Nat.reduceEqDiff,oGs,bNf,hc]
  have hy:(y == 93)=false:=by
   rw [← Bool.not_eq_true]; intro e; rw [beq_iff_eq] at e; subst e; simp at hc
  exact ⟨by rw [he,hy]; simp; rfl,trivial⟩
 have hy:(y == 93)=true:=by
  rw [beq_iff_eq,← UInt8.toNat_inj]
  simp at hc; show y.toNat=93; omega
 simp -implicitDefEqProofs only [BI,A8,AY,BB,BJ,BP,CO,EK,AO,AQ,AL,BD,AX,AC,AA,A7,AU,BH,BM,BG,CQ,DK,BR,N8,D6,AB,JQ,EJ,BF,↓reduceIte,Nat.reduceEqDiff,oGs,bNf,enP,ln9,hsz,hc,w1,w2,w3,i1,i2,i3,i4]
 refine CW (fun hd => ?_) (fun hd => ?_)
 ·simp -implicitDefEqProofs only [BC,BA,BL,A8,CP,OD,AY,BB,AO,AQ,AL,BD,AX,AC,AA,AU,BH,BM,IP,AZ,↓reduceIte,Nat.reduceEqDiff,oGs,bNf]
  have hx:(x == 91)=false:=by
   rw [← Bool.not_eq_true]; intro e; rw [beq_iff_eq] at e; subst e; simp at hd
  exact ⟨by rw [he,hx]; simp; rfl,trivial⟩
 have hx:(x == 91)=true:=by
  rw [beq_iff_eq,← UInt8.toNat_inj]
  simp at hd; show x.toNat=91; omega
 simp -implicitDefEqProofs only [Option.map_some,Option.map_none,BC,BA,BO,A8,AY,BB,BJ,BP,CO,AO,AQ,AL,BD,AX,AC,AA,A7,AU,BH,BG,AZ,BR,YU,XF,N8,D6,AB,JQ,DF,BF,↓reduceIte,Nat.reduceEqDiff,oGs,bNf,enP,ln9,AQ0,hsz,w1,w2,w3,i1,i2,i3,i4,w4,w5]
 refine G5 (fun hf => ?_) (fun hf => ?_)
 ·simp -implicitDefEqProofs only [BC,BA,BL,BI,A8,CP,OD,C9,AY,BB,BJ,BP,CO,FK,AO,AQ,AL,BD,AX,AC,AA,EQ,A7,AU,BH,BM,IP,BG,AZ,CQ,DN,↓reduceIte,Nat.reduceEqDiff,oGs,bNf,hf]
  have:decide (48≤d.toNat)=false:=by simp at hf ⊢; omega
  exact ⟨by rw [he,this]; simp; rfl,trivial⟩
 have hd1:48≤d.toNat:=by simp at hf; omega
 simp -implicitDefEqProofs only [AY,BJ,BP,CO,EK,AO,AQ,AL,BD,AX,AC,AA,A7,AU,BH,BM,BG,CQ,DK,BR,AB,GZ,↓reduceIte,Nat.reduceEqDiff,oGs,bNf,enP,hf]
 refine G5 (fun hf => ?_) (fun hf => ?_)
 ·simp -implicitDefEqProofs only [BC,BA,BL,BI,A8,CP,OD,C9,AY,BB,BJ,BP,CO,FK,AO,AQ,AL,BD,AX,AC,AA,EQ,A7,AU,BH,BM,IP,AZ,CQ,DN,↓reduceIte,Nat.reduceEqDiff,oGs,bNf,hf]
  have:decide (d.toNat < 56)=false:=by simp at hf ⊢; omega
  exact ⟨by rw [he,this]; simp; rfl,trivial⟩
 have hd2:d.toNat < 56:=by simp at hf; omega
 simp -implicitDefEqProofs only [BJ,BP,CO,EK,AO,AQ,AL,BD,AX,AC,AA,A7,BX,BG,BZ,BU,lMc,lMn,lAn,↓reduceIte,Nat.reduceEqDiff,oGs,bNf,hf]
 refine (OW G ⟨b.toArray⟩ h).use ?_
 simp -implicitDefEqProofs only [BI,A8,AY,BB,BJ,BP,CO,EK,AO,AQ,AL,BD,AX,AC,AA,A7,AU,BM,CQ,DK,G6,AB,EX,↓reduceIte,Nat.reduceEqDiff,oGs,bNf,hn]
 cases nm
 ·simp -implicitDefEqProofs only [BC,BA,BL,A8,CP,OD,C9,AY,BB,AO,AQ,AL,BD,AX,AC,AA,AU,BH,BM,IP,AZ,↓reduceIte,Nat.reduceEqDiff,oGs,bNf]
  exact ⟨by rw [he]; simp; rfl,trivial⟩
 ·simp -implicitDefEqProofs only [BC,BA,BO,BL,A8,OD,DU,AY,BB,AO,AQ,AL,BD,AX,AC,AA,A7,AU,BM,BG,AZ,↓reduceIte,Nat.reduceEqDiff,oGs,bNt,bNf]
  exact ⟨by rw [he]; simp [hy,hx,hd1,hd2]; rfl,trivial⟩
def RD (s:ByteArray):Bool:=(PI s).isSome || G8 s
theorem ACR (o:Option (List UInt8 × UInt8)) : ∃ a n,elemV o = .tup [.str a,.int .i64 n,.bool o.isSome]:=by
 cases o with
 | none=>exact ⟨_,_,rfl⟩
 | some x=>exact ⟨_,_,rfl⟩
theorem AKA (G:Nat→AV) (hG:GOk G) (s:ByteArray) (h:Hp) (hl:s.size≤1048576):PCall (En G) 232 [.str s] h (.bool (RD s)):=by
 refine CB (H:=Hint.none) (enM G) Tryz.func232 rfl (by kernel_rfl) (by kernel_rfl) (nLb (by kernel_rfl)) ?_
 show awp _ _ _ _ _ (EE _ [.tmp 2] _)
 simp -implicitDefEqProofs only [BC,BA,A8,AY,BB,AO,AQ,AL,BD,AX,AC,AA,A7,AU,BX,BM,BG,AZ,BZ,BU,BF,lMc,lMn,lAn,↓reduceIte,Nat.reduceEqDiff,oGs,bNf,enP]
 refine (AGE G hG s h hl).use ?_
 obtain ⟨a,n,e⟩:=ACR (PI s)
 rw [e]
 simp -implicitDefEqProofs only [List.getElem?_cons_zero,List.getElem?_cons_succ,BC,BA,A8,AY,BB,BJ,BP,CO,AO,AQ,AL,BD,AX,AC,AA,A7,BG,AZ,FW,IB,AB,↓reduceIte,Nat.reduceEqDiff,oGs,bNf]
 cases hs:(PI s).isSome
 ·simp -implicitDefEqProofs only [BJ,BP,CO,EK,AO,AQ,AL,BD,AX,AC,AA,A7,BX,BG,BZ,BU,BF,lMc,lMn,lAn,↓reduceIte,Nat.reduceEqDiff,oGs,bNf]
  refine (NT G hG.kw s h (by omega)).use ?_
  simp -implicitDefEqProofs only [BL,A8,CJ,AY,BB,AO,AQ,AL,BD,AX,AC,AA,A7,AU,BM,AZ,CQ,DK,↓reduceIte,Nat.reduceEqDiff,oGs,bNf]
  exact ⟨by unfold RD; rw [hs]; rfl,trivial⟩
 ·simp -implicitDefEqProofs only [BL,A8,CJ,AY,BB,BJ,BP,CO,FK,AO,AQ,AL,BD,AX,AC,AA,EQ,A7,AU,BM,AZ,CQ,DN,↓reduceIte,Nat.reduceEqDiff,oGs,bNf]
  exact ⟨by unfold RD; rw [hs]; rfl,trivial⟩
theorem ANN (G:Nat→AV) (s:ByteArray) (h:Hp) (hl:s.size≤1048576):PCall (En G) 255 [.str s] h (.bool (RD s)):=by
 refine CB (H:=Hint.none) (enM G) Tryz.func255 rfl (by kernel_rfl) (by kernel_rfl) (nLb (by kernel_rfl)) ?_
 show awp _ _ _ _ _ (EE _ [.tmp 2] _)
 simp -implicitDefEqProofs only [BC,BA,A8,AY,BB,AO,AQ,AL,BD,AX,AC,AA,A7,AU,BX,BM,BG,AZ,BZ,BU,BF,lMc,lMn,lAn,↓reduceIte,Nat.reduceEqDiff,oGs,bNf,enP]
 refine (AM3 G s h (by omega)).use ?_
 obtain ⟨a,n,e⟩:=ACR (PI s)
 rw [e]
 simp -implicitDefEqProofs only [List.getElem?_cons_zero,List.getElem?_cons_succ,BC,BA,A8,AY,BB,BJ,BP,CO,AO,AQ,AL,BD,AX,AC,AA,A7,BG,AZ,FW,IB,AB,↓reduceIte,Nat.reduceEqDiff,oGs,bNf]
 cases hs:(PI s).isSome
 ·simp -implicitDefEqProofs only [BJ,BP,CO,EK,AO,AQ,AL,BD,AX,AC,AA,A7,BX,BG,BZ,BU,BF,lMc,lMn,lAn,↓reduceIte,Nat.reduceEqDiff,oGs,bNf]
  refine (OW G s h).use ?_
  simp -implicitDefEqProofs only [BL,A8,CJ,AY,BB,AO,AQ,AL,BD,AX,AC,AA,A7,AU,BM,AZ,CQ,DK,↓reduceIte,Nat.reduceEqDiff,oGs,bNf]
  exact ⟨by unfold RD; rw [hs]; rfl,trivial⟩
 ·simp -implicitDefEqProofs only [BL,A8,CJ,AY,BB,BJ,BP,CO,FK,AO,AQ,AL,BD,AX,AC,AA,EQ,A7,AU,BM,AZ,CQ,DN,↓reduceIte,Nat.reduceEqDiff,oGs,bNf]
  exact ⟨by unfold RD; rw [hs]; rfl,trivial⟩
def S9 (s:ByteArray):Bool:=s.toList == (⟨#[]⟩:ByteArray).toList
def WZ (e:Ex):Bool:=decide (e.op < 1) || decide (e.op > 25)
def AGO (e:Ex):Bool:=((e.op == 1) && (decide (e.n < 0) || decide (e.n > 65535))) || (!(e.op == 1) && !(e.n == 0))
def ADX (e:Ex):Bool:=(!KQ e.op && !S9 e.name) || !Y6 e.op e.args.length
def WY (e:Ex):Bool:=((e.op == 2) && !RD e.name) || (((e.op == 3) || (e.op == 24)) && !G8 e.name)
def J4 (e:Ex):Int:=if WZ e then 1 else if AGO e then 1 else if ADX e then 1 else if WY e then 7 else 0
theorem ANJ (G:Nat→AV) (hG:GOk G) (e:Ex) (h:Hp) (hl:e.name.size≤1048576):PCall (En G) 198 [.agg (ET e)] h (.int .i64 (J4 e)):=by
 refine ACalls.pure0 rfl ?_
 refine CB (H:=Hint.none) (enM G) Tryz.func198 rfl (by kernel_rfl) (by kernel_rfl) (nLb (by kernel_rfl)) ?_
 show awp _ _ _ _ _ (EE _ [.tmp 2] _)
 simp -implicitDefEqProofs only [BC,BA,A8,AY,BB,BJ,BP,CO,AO,AQ,AL,BD,AX,AC,AA,A7,AU,BH,BG,AZ,FV,BV,BR,BK,CE,AB,DY,BF,↓reduceIte,Nat.reduceEqDiff,Nat.add_zero,oGs,bNf,enP,IA,bxE,DC ag3,JW]
 refine QO (fun F H=>F 3 = .bool (KQ e.op)∧F 1 = .ptr h.length 0 0∧H=h ++ [.live 4 [ET e]]) ?_ ?_
 ·cases b2:(e.op == 2) <;> cases b3:(e.op == 3)
  all_goals
   simp -implicitDefEqProofs only [AY,BB,BJ,BP,CO,EK,FK,AO,AQ,AL,BD,AX,AC,AA,EQ,A7,AU,BH,BM,BG,AZ,CQ,DN,DK,BV,BR,BK,AB,DY,↓reduceIte,Nat.reduceEqDiff,Nat.add_zero,oGs,bNf,enP,IA,b2,b3,DC ag3,JW]
   exact ⟨by simp [KQ,b2,b3],trivial,trivial⟩
 rintro F H ⟨f3,f1,rfl⟩
 simp -implicitDefEqProofs only [BC,BQ,BA,A8,AY,BJ,BP,CO,AO,AQ,AL,BD,AX,AC,AA,A7,AU,BH,BG,BV,BR,BK,AB,DF,↓reduceIte,Nat.add_zero,oGs,bNf,enP,IA,f1,f3,DC ag3,JW]
 refine QO (fun F H=>F 17 = .bool (WZ e)∧F 3 = .bool (KQ e.op)∧F 1 = .ptr h.length 0 0∧H=h ++ [.live 4 [ET e]]) ?_ ?_
 ·cases b2:decide (e.op < 1)
  all_goals
   simp -implicitDefEqProofs only [AY,BB,BJ,BP,CO,EK,FK,AO,AQ,AL,BD,AX,AC,AA,EQ,A7,AU,BH,BM,AZ,CQ,DN,DK,BV,BR,BK,AB,EZ,↓reduceIte,Nat.reduceEqDiff,Nat.add_zero,oGs,bNf,enP,IA,b2,f1,f3,DC ag3,JW]
   exact ⟨by simp [WZ,b2],trivial,trivial,trivial⟩
 clear f1 f3
 rintro F H ⟨f17,f3,f1,rfl⟩
 simp -implicitDefEqProofs only [BI,A8,A7,f17]
 refine CW (fun ho => ?_) (fun ho => ?_)
 ·simp -implicitDefEqProofs only [BC,BA,BL,A8,CP,D8,CJ,AY,BB,AO,AQ,AL,BD,AX,AC,AA,AU,BH,AZ,↓reduceIte,oGs,bNf]
  exact ⟨by unfold J4; rw [if_pos ho],_,rfl⟩
 simp -implicitDefEqProofs only [BC,BA,AY,BJ,BP,CO,AO,AQ,AL,BD,AX,AC,AA,A7,AU,BH,BG,BV,BR,BK,AB,DY,↓reduceIte,Nat.add_zero,oGs,bNf,enP,IA,f1,f3,DC ag3,JW,YF]
 refine QO (fun F H=>F 26 = .bool (AGO e)∧F 3 = .bool (KQ e.op)∧F 1 = .ptr h.length 0 0∧H=h ++ [.live 4 [ET e]]) ?_ ?_
 ·cases b1:(e.op == 1) <;> cases b2:decide (e.n < 0) <;> cases b3:decide (e.n > 65535) <;> cases b4:(e.n == 0)
  all_goals
   simp -implicitDefEqProofs only [AY,BB,BJ,BP,CO,FY,EK,H7,FK,QN,AO,AQ,AL,BD,AX,AC,AA,EQ,A7,AU,BH,BM,BG,AZ,CQ,DN,DK,BV,BR,BK,AB,EJ,DF,EZ,↓reduceIte,Nat.reduceEqDiff,Nat.add_zero,Nat.zero_add,oGs,bNt,bNf,enP,IA,ZI,bne,b1,b2,b3,b4,f1,f3,DC ag3,JW,YF]
   exact ⟨by simp [AGO,b1,b2,b3,b4],trivial,trivial,trivial⟩
 clear f1 f3 f17
 rintro F H ⟨f26,f3,f1,rfl⟩
 simp -implicitDefEqProofs only [BI,A8,A7,f26]
 refine CW (fun hn => ?_) (fun hn => ?_)
 ·simp -implicitDefEqProofs only [BC,BA,BL,A8,CP,D8,CJ,AY,BB,AO,AQ,AL,BD,AX,AC,AA,AU,BH,AZ,↓reduceIte,oGs,bNf]
  exact ⟨by unfold J4; rw [if_neg (by simp [ho]),if_pos hn],_,rfl⟩
 simp -implicitDefEqProofs only [BC,BA,AY,BJ,BP,CO,AO,AQ,AL,BD,AX,AC,AA,A7,BG,G6,AB,EX,↓reduceIte,oGs,bNf,f1,f3,DC ag9,PU]
 refine QO (fun F H=>F 50 = .bool (ADX e)∧F 3 = .bool (KQ e.op)∧F 1 = .ptr h.length 0 0∧H=h ++ [.live 4 [ET e]]) ?_ ?_
 ·cases bm:KQ e.op <;> cases b5:S9 e.name
  all_goals
   have b6:=b5
   unfold S9 at b6
   simp -implicitDefEqProofs only [AY,BB,BJ,BP,CO,FY,EK,H7,FK,AO,AQ,AL,BD,AX,AC,AA,EQ,A7,AU,BX,BM,IP,BG,AZ,CQ,DN,DK,BV,BR,BK,BZ,BU,AB,AC2,lMc,lMn,lAn,↓reduceIte,Nat.reduceEqDiff,Nat.zero_add,oGs,bNt,bNf,enP,KZ,bne,bm,b6,f1,f3,DC ag9,PU,ldE]
  ·exact ⟨by simp [ADX,bm,b5],trivial,trivial,trivial⟩
  all_goals
   refine (ADO G e _).use ?_
   simp -implicitDefEqProofs only [AY,BB,BJ,BP,CO,EK,AO,AQ,AL,BD,AX,AC,AA,A7,AU,BM,AZ,CQ,DK,G6,AB,EX,↓reduceIte,Nat.reduceEqDiff,oGs,bNf,bne,bm,f1,f3]
   exact ⟨by simp [ADX,bm,b5],trivial,trivial,trivial⟩
 clear f1 f3 f26
 rintro F H ⟨f50,f3,f1,rfl⟩
 simp -implicitDefEqProofs only [BI,A8,A7,f50]
 refine CW (fun hs => ?_) (fun hs => ?_)
 ·simp -implicitDefEqProofs only [BC,BA,BL,A8,CP,D8,CJ,AY,BB,AO,AQ,AL,BD,AX,AC,AA,AU,BH,AZ,↓reduceIte,oGs,bNf]
  exact ⟨by unfold J4; rw [if_neg (by simp [ho]),if_neg (by simp [hn]),if_pos hs],_,rfl⟩
 simp -implicitDefEqProofs only [BC,BA,AY,BJ,BP,CO,AO,AQ,AL,BD,AX,AC,AA,A7,AU,BH,BG,BV,BR,BK,AB,DY,↓reduceIte,Nat.add_zero,oGs,bNf,enP,IA,f1,f3,DC ag9,DC ag3,JW,PU]
 have fin : ∀ b,WY e=b→J4 e=if b then 7 else 0:=by
  intro b hb
  unfold J4; rw [if_neg (by simp [ho]),if_neg (by simp [hn]),if_neg (by simp [hs]),hb]
 cases b2:(e.op == 2)
 ·simp -implicitDefEqProofs only [AY,BJ,BP,CO,EK,H7,AO,AQ,AL,BD,AX,AC,AA,EQ,A7,AU,BH,BM,BG,CQ,DK,BV,BR,BK,AB,DY,↓reduceIte,Nat.reduceEqDiff,Nat.add_zero,oGs,bNf,enP,IA,b2,f1,f3,DC ag9,DC ag3,JW,PU]
  cases b3:(e.op == 3) <;> cases b4:(e.op == 24)
  all_goals
   simp -implicitDefEqProofs only [BC,BA,BO,BL,BI,A8,EF,CJ,DU,AY,BB,BJ,BP,CO,FY,EK,H7,FK,AO,AQ,AL,BD,AX,AC,AA,EQ,A7,AU,BX,BH,BM,BG,AZ,CQ,DN,DK,BV,BR,BK,BZ,BU,AB,DY,lMc,lMn,lAn,↓reduceIte,Nat.reduceEqDiff,Nat.add_zero,Nat.zero_add,oGs,bNf,enP,IA,KZ,b3,b4,f1,f3,DC ag9,DC ag3,JW,PU]
  ·exact ⟨by rw [fin false (by simp [WY,b2,b3,b4])]; rfl,_,rfl⟩
  all_goals
   refine (NT G hG.kw e.name _ (by omega)).use ?_
   cases bi:G8 e.name
   ·simp -implicitDefEqProofs only [BC,BA,BL,BI,A8,CP,D8,CJ,C9,AY,BB,BJ,BP,CO,FY,EK,AO,AQ,AL,BD,AX,AC,AA,A7,AU,BH,BM,AZ,CQ,DN,DK,G6,AB,EX,↓reduceIte,Nat.reduceEqDiff,oGs,bNf]
    exact ⟨by rw [fin true (by simp [WY,b2,b3,b4,bi])]; rfl,_,rfl⟩
   ·simp -implicitDefEqProofs only [BC,BA,BO,BL,BI,A8,EF,CJ,DU,AY,BB,BJ,BP,CO,FY,EK,AO,AQ,AL,BD,AX,AC,AA,A7,AU,BH,BM,AZ,CQ,DN,DK,G6,AB,EX,↓reduceIte,Nat.reduceEqDiff,oGs,bNt,bNf]
    exact ⟨by rw [fin false (by simp [WY,b2,b3,b4,bi])]; rfl,_,rfl⟩
 ·have e2:e.op=2:=by simpa using b2
  simp -implicitDefEqProofs only [BJ,BP,CO,FY,AO,AQ,AL,BD,AX,AC,AA,A7,BX,BV,BK,BZ,BU,AB,lMc,lMn,lAn,↓reduceIte,Nat.reduceEqDiff,Nat.zero_add,oGs,bNf,enP,KZ,b2,f1,f3,DC ag9,DC ag3,JW,PU]
  refine (AKA G hG e.name _ hl).use ?_
  cases bi:RD e.name
  ·simp -implicitDefEqProofs only [BC,BA,BL,BI,A8,CP,D8,CJ,C9,AY,BB,BJ,BP,CO,FY,FK,QN,AO,AQ,AL,BD,AX,AC,AA,EQ,A7,AU,BH,BM,BG,AZ,CQ,DN,G6,AB,EX,↓reduceIte,Nat.reduceEqDiff,oGs,bNf]
   exact ⟨by rw [fin true (by simp [WY,b2,bi])]; rfl,_,rfl⟩
  ·simp -implicitDefEqProofs only [BC,BA,BO,BL,BI,A8,EF,CJ,DU,AY,BB,BJ,BP,CO,FY,EK,H7,AO,AQ,AL,BD,AX,AC,AA,EQ,A7,AU,BH,BM,BG,AZ,CQ,DN,DK,BV,BR,G6,BK,AB,DY,EX,↓reduceIte,Nat.reduceEqDiff,Nat.add_zero,oGs,bNt,bNf,enP,IA,f1,DC ag3,JW,e2,Int.reduceBEq]
   exact ⟨by rw [fin false (by simp [WY,e2,bi])]; rfl,_,rfl⟩
def AC3 (e:Ex):Bool:=WZ e || decide (e.n < 0) || decide (e.n > 65535) || (!(e.n == 0) && !(e.op == 1)) || (!S9 e.name && !KQ e.op)
def AI0 (op:Int) (n:Nat):Bool:=((op == 23) && (decide ((n:Int) < 3) || decide ((n:Int) > 33) || ((n:Int) % 2 == 0))) || (!(op == 23) && !((n:Int) == arity op))
theorem AUC (op:Int) (n:Nat):AI0 op n = !Y6 op n:=by
 unfold AI0 Y6
 rcases hc:(op == 23) with _ | _
 ·simp
 ·have h1:decide ((n:Int) < 3) = !decide ((n:Int)≥3):=by rw [Bool.eq_iff_iff]; simp
  have h2:decide ((n:Int) > 33) = !decide ((n:Int)≤33):=by rw [Bool.eq_iff_iff]; simp
  have h3:((n:Int) % 2 == 0) = !((n:Int) % 2 == 1):=by rw [Bool.eq_iff_iff]; simp; omega
  rw [h1,h2,h3]
  cases ((n:Int) % 2 == 1) <;> cases decide ((n:Int)≥3) <;> cases decide ((n:Int)≤33) <;> rfl
theorem AUD (e:Ex):(AC3 e || AI0 e.op e.args.length)=(WZ e || AGO e || ADX e):=by
 rw [AUC]
 unfold AC3 AGO ADX
 rcases h1:(e.op == 1) with _ | _
 ·rcases h2:(e.n == 0) with _ | _
  ·simp
  ·have h3:decide (e.n < 0)=false:=by simp at h2 ⊢; omega
   have h4:decide (e.n > 65535)=false:=by simp at h2 ⊢; omega
   rw [h3,h4]
   cases WZ e <;> cases S9 e.name <;> cases KQ e.op <;> cases Y6 e.op e.args.length <;> rfl
 ·cases WZ e <;> cases S9 e.name <;> cases KQ e.op <;> cases Y6 e.op e.args.length <;> cases decide (e.n < 0) <;> cases decide (e.n > 65535) <;> cases (e.n == 0) <;> rfl
theorem Y7 (e:Ex):J4 e=if AC3 e then 1 else if AI0 e.op e.args.length then 1 else if WY e then 7 else 0:=by
 have:=AUD e
 unfold J4
 revert this
 cases AC3 e <;> cases AI0 e.op e.args.length <;> cases WZ e <;> cases AGO e <;> cases ADX e <;> simp
set_option maxHeartbeats 1000000 in
theorem AMU (G:Nat→AV) (e:Ex) (h:Hp) (hl:e.name.size≤1048576):PCall (En G) 225 [.agg (ET e)] h (.int .i64 (J4 e)):=by
 refine ACalls.pure0 rfl ?_
 refine CB (H:=Hint.none) (enM G) Tryz.func225 rfl (by kernel_rfl) (by kernel_rfl) (nLb (by kernel_rfl)) ?_
 show awp _ _ _ _ _ (EE _ [.tmp 2] _)
 simp -implicitDefEqProofs only [BC,BA,A8,AY,BB,BJ,BP,CO,AO,AQ,AL,BD,AX,AC,AA,A7,AU,BH,BG,AZ,FV,BV,BR,BK,CE,AB,DF,BF,↓reduceIte,Nat.reduceEqDiff,Nat.add_zero,oGs,bNf,enP,IA,bxE,DC ag3,JW]
 refine QO (fun F H=>F 42 = .bool (AC3 e)∧F 1 = .ptr h.length 0 0∧H=h ++ [.live 4 [ET e]]) ?_ ?_
 ·cases b1:decide (e.op < 1)
  case true =>
   simp -implicitDefEqProofs only [AY,BB,BJ,BP,CO,FK,QN,AO,AQ,AL,BD,AX,AC,AA,EQ,A7,AU,BM,BG,CQ,DN,↓reduceIte,Nat.reduceEqDiff,oGs,bNf,b1]
   exact ⟨by simp [AC3,WZ,b1],trivial,trivial⟩
  simp -implicitDefEqProofs only [AY,BJ,BP,CO,EK,AO,AQ,AL,BD,AX,AC,AA,A7,AU,BH,BM,BG,CQ,DK,BV,BR,BK,AB,EZ,↓reduceIte,Nat.reduceEqDiff,Nat.add_zero,oGs,bNf,enP,IA,b1,DC ag3,JW,YF]
  cases b2:decide (e.op > 25)
  case true =>
   simp -implicitDefEqProofs only [AY,BB,BJ,BP,CO,FK,QN,AO,AQ,AL,BD,AX,AC,AA,EQ,A7,AU,BM,BG,CQ,DN,↓reduceIte,Nat.reduceEqDiff,oGs,bNf,b2]
   exact ⟨by simp [AC3,WZ,b2],trivial,trivial⟩
  simp -implicitDefEqProofs only [AY,BJ,BP,CO,EK,AO,AQ,AL,BD,AX,AC,AA,A7,AU,BH,BM,BG,CQ,DK,BV,BR,BK,AB,DF,↓reduceIte,Nat.reduceEqDiff,Nat.zero_add,oGs,bNf,enP,ZI,b2,DC ag3,JW,YF]
  have bO:WZ e=false:=by unfold WZ; rw [b1,b2]; rfl
  cases b3:decide (e.n < 0)
  case true =>
   simp -implicitDefEqProofs only [AY,BB,BJ,BP,CO,FK,QN,AO,AQ,AL,BD,AX,AC,AA,EQ,A7,AU,BM,BG,CQ,DN,↓reduceIte,Nat.reduceEqDiff,oGs,bNf,b3]
   exact ⟨by simp only [AC3,b3]; simp,trivial,trivial⟩
  simp -implicitDefEqProofs only [AY,BJ,BP,CO,EK,AO,AQ,AL,BD,AX,AC,AA,A7,AU,BH,BM,BG,CQ,DK,BV,BR,BK,AB,EZ,↓reduceIte,Nat.reduceEqDiff,Nat.zero_add,oGs,bNf,enP,ZI,b3,DC ag3,JW,YF]
  cases b4:decide (e.n > 65535)
  case true =>
   simp -implicitDefEqProofs only [AY,BB,BJ,BP,CO,FK,QN,AO,AQ,AL,BD,AX,AC,AA,EQ,A7,AU,BM,BG,CQ,DN,↓reduceIte,Nat.reduceEqDiff,oGs,bNf,b4]
   exact ⟨by simp only [AC3,b4]; simp,trivial,trivial⟩
  simp -implicitDefEqProofs only [BJ,BP,CO,EK,AO,AQ,AL,BD,AX,AC,AA,A7,AU,BH,BG,BV,BR,BK,AB,EJ,↓reduceIte,Nat.reduceEqDiff,Nat.zero_add,oGs,bNf,enP,ZI,b4,bne,DC ag3,DC ag9,JW,YF,PU]
  have fin : ∀ b,((!(e.n == 0) && !(e.op == 1)) || (!S9 e.name && !KQ e.op))=b→AC3 e=b:=by
   intro b hb
   unfold AC3; rw [bO,b3,b4]; simpa using hb
  cases b5:(e.n == 0) <;> cases b6:(e.op == 1) <;> cases b7:S9 e.name
  all_goals
   have b8:=b7
   unfold S9 at b8
   simp -implicitDefEqProofs only [AY,BB,BJ,BP,CO,FY,EK,H7,FK,QN,AO,AQ,AL,BD,AX,AC,AA,EQ,A7,AU,BX,BH,BM,IP,BG,CQ,DN,DK,BV,BR,BK,BZ,BU,AB,EJ,AC2,lMc,lMn,lAn,↓reduceIte,Nat.reduceEqDiff,Nat.add_zero,Nat.zero_add,oGs,bNt,bNf,enP,IA,KZ,bne,b5,b6,b8,DC ag3,DC ag9,JW,YF,PU]
  all_goals first
   | exact ⟨by rw [fin _ rfl]; simp [b5,b6,b7],trivial,trivial⟩
   | refine (VA G e.op _).use ?_
     simp -implicitDefEqProofs only [AY,BB,BJ,BP,CO,FY,EK,AO,AQ,AL,BD,AX,AC,AA,A7,AU,BM,CQ,DN,DK,G6,AB,EX,↓reduceIte,Nat.reduceEqDiff,oGs,bNf]
     exact ⟨by rw [fin _ rfl]; simp [b5,b6,b7],trivial,trivial⟩
 rintro F H ⟨f42,f1,rfl⟩
 simp -implicitDefEqProofs only [BI,A8,A7,f42]
 refine CW (fun ho => ?_) (fun ho => ?_)
 ·simp -implicitDefEqProofs only [BC,BA,BL,A8,CP,CJ,AY,BB,AO,AQ,AL,BD,AX,AC,AA,AU,BH,AZ,↓reduceIte,oGs,bNf]
  exact ⟨by rw [Y7,if_pos ho],_,rfl⟩
 simp -implicitDefEqProofs only [BC,BA,BO,A8,AY,BB,BJ,BP,CO,AO,AQ,AL,BD,AX,AC,AA,A7,AU,BH,BG,AZ,BV,BR,BK,D6,AB,DY,↓reduceIte,Nat.reduceEqDiff,Nat.add_zero,Nat.zero_add,oGs,bNf,enP,ADP,IA,OY,f1,DC ag3,DC AGT,JW,YD,lLm]
 generalize hn:e.args.length=n
 have hm:(n:Int).tmod 2=(n:Int) % 2:=Int.tmod_eq_emod_of_nonneg (by omega)
 have br:I4 Tryz.prog 3 .rem (.int .i64 (n:Int)) (.int .i64 2)=some (.int .i64 ((n:Int) % 2)):=by rw [AA8 _ _ _ _ _ (by decide),hm]
 refine QO (fun F H=>F 73 = .bool (AI0 e.op n)∧F 1 = .ptr h.length 0 0∧H=h ++ [.live 4 [ET e]]) ?_ ?_
 ·cases b1:(e.op == 23)
  ·simp -implicitDefEqProofs only [AY,BJ,BP,CO,FY,EK,H7,QN,AO,AQ,AL,BD,AX,AC,AA,EQ,A7,AU,BX,BH,BM,BG,CQ,DK,BV,BR,BK,BZ,BU,AB,EJ,lMc,lMn,lAn,↓reduceIte,Nat.reduceEqDiff,Nat.add_zero,oGs,bNf,enP,IA,bne,b1,f1,DC ag3,JW]
   refine (AOE G e.op _).use ?_
   simp -implicitDefEqProofs only [AY,BB,BJ,BP,CO,FY,EK,AO,AQ,AL,BD,AX,AC,AA,A7,AU,BM,CQ,DN,DK,BR,AB,EJ,↓reduceIte,Nat.reduceEqDiff,oGs,bNf,enP,bne]
   exact ⟨by unfold AI0; rw [b1]; simp,f1,trivial⟩
  ·cases b2:decide ((n:Int) < 3) <;> cases b3:decide ((n:Int) > 33) <;> cases b4:((n:Int) % 2 == 0)
   all_goals
    simp -implicitDefEqProofs only [AY,BB,BJ,BP,CO,FY,EK,H7,FK,QN,AO,AQ,AL,BD,AX,AC,AA,EQ,A7,AU,BH,BM,BG,CQ,DN,DK,BV,BR,BK,AB,DY,EJ,DF,EZ,↓reduceIte,Nat.reduceEqDiff,Nat.add_zero,oGs,bNt,bNf,enP,IA,bne,b1,b2,b3,b4,br,f1,DC ag3,JW]
    exact ⟨by unfold AI0; rw [b1,b2,b3,b4]; simp,trivial,trivial⟩
 clear f1 f42
 rintro F H ⟨f73,f1,rfl⟩
 simp -implicitDefEqProofs only [BI,A8,A7,f73]
 subst hn
 refine CW (fun hs => ?_) (fun hs => ?_)
 ·simp -implicitDefEqProofs only [BC,BA,BL,A8,CP,CJ,AY,BB,AO,AQ,AL,BD,AX,AC,AA,AU,BH,AZ,↓reduceIte,oGs,bNf]
  exact ⟨by rw [Y7,if_neg (by simp [ho]),if_pos hs],_,rfl⟩
 simp -implicitDefEqProofs only [BC,BA,BO,A8,AY,BJ,BP,CO,AO,AQ,AL,BD,AX,AC,AA,A7,AU,BH,BG,BV,BR,BK,AB,DY,↓reduceIte,Nat.add_zero,oGs,bNf,enP,IA,f1,DC ag3,DC ag9,JW,PU]
 have fin : ∀ b,WY e=b→J4 e=if b then 7 else 0:=by
  intro b hb
  rw [Y7,if_neg (by simp [ho]),if_neg (by simp [hs]),hb]
 cases b2:(e.op == 2)
 ·simp -implicitDefEqProofs only [AY,BJ,BP,CO,EK,H7,AO,AQ,AL,BD,AX,AC,AA,EQ,A7,AU,BX,BM,BG,CQ,DK,BV,BK,BZ,BU,AB,lMc,lMn,lAn,↓reduceIte,Nat.reduceEqDiff,Nat.add_zero,oGs,bNf,enP,IA,b2,f1,DC ag9,DC ag3,JW,PU]
  refine (VA G e.op _).use ?_
  cases bm:KQ e.op
  ·have hv:WY e=false:=by
    unfold KQ at bm; simp only [Bool.or_eq_false_iff] at bm
    simp [WY,bm.1.1,bm.1.2,bm.2]
   simp -implicitDefEqProofs only [BC,BA,BO,BL,BI,A8,CJ,DU,AY,BB,BJ,BP,CO,EK,H7,AO,AQ,AL,BD,AX,AC,AA,EQ,A7,AU,BH,BM,BG,AZ,CQ,DK,↓reduceIte,Nat.reduceEqDiff,oGs,bNf]
   exact ⟨by rw [fin false hv]; rfl,_,rfl⟩
  have hv:WY e = !G8 e.name:=by
   unfold KQ at bm; rw [b2] at bm; simp only [Bool.false_or] at bm
   unfold WY; rw [b2,bm]; simp
  simp -implicitDefEqProofs only [BJ,BP,CO,FY,EK,AO,AQ,AL,BD,AX,AC,AA,A7,AU,BX,BH,BM,BG,CQ,DN,BV,BR,BK,BZ,BU,AB,EJ,lMc,lMn,lAn,↓reduceIte,Nat.reduceEqDiff,Nat.add_zero,Nat.zero_add,oGs,bNf,enP,IA,KZ,bne,b2,f1,DC ag9,DC ag3,JW,PU]
  refine (OW G e.name _).use ?_
  cases bi:G8 e.name
  ·simp -implicitDefEqProofs only [BC,BA,BL,BI,A8,CP,CJ,C9,AY,BB,BJ,BP,CO,FY,EK,AO,AQ,AL,BD,AX,AC,AA,A7,AU,BH,BM,AZ,CQ,DN,DK,G6,AB,EX,↓reduceIte,Nat.reduceEqDiff,oGs,bNf]
   exact ⟨by rw [fin true (by rw [hv,bi]; rfl)]; rfl,_,rfl⟩
  ·simp -implicitDefEqProofs only [BC,BA,BO,BL,BI,A8,CJ,DU,AY,BB,BJ,BP,CO,FY,EK,AO,AQ,AL,BD,AX,AC,AA,A7,AU,BH,BM,AZ,CQ,DN,DK,G6,AB,EX,↓reduceIte,Nat.reduceEqDiff,oGs,bNt,bNf]
   exact ⟨by rw [fin false (by rw [hv,bi]; rfl)]; rfl,_,rfl⟩
 ·have e2:e.op=2:=by simpa using b2
  have hv:WY e = !RD e.name:=by
   unfold WY; rw [e2]; simp
  simp -implicitDefEqProofs only [BJ,BP,CO,FY,AO,AQ,AL,BD,AX,AC,AA,A7,BX,BV,BK,BZ,BU,AB,lMc,lMn,lAn,↓reduceIte,Nat.reduceEqDiff,Nat.zero_add,oGs,bNf,enP,KZ,b2,f1,DC ag9,DC ag3,JW,PU]
  refine (ANN G e.name _ hl).use ?_
  cases bi:RD e.name
  ·simp -implicitDefEqProofs only [BC,BA,BL,BI,A8,CP,CJ,C9,AY,BB,BJ,BP,CO,FY,FK,QN,AO,AQ,AL,BD,AX,AC,AA,EQ,A7,AU,BH,BM,BG,AZ,CQ,DN,G6,AB,EX,↓reduceIte,Nat.reduceEqDiff,oGs,bNf]
   exact ⟨by rw [fin true (by rw [hv,bi]; rfl)]; rfl,_,rfl⟩
  ·simp -implicitDefEqProofs only [AY,BJ,BP,CO,FY,EK,AO,AQ,AL,BD,AX,AC,AA,A7,AU,BX,BM,BG,CQ,DN,BV,G6,BK,BZ,BU,AB,EX,lMc,lMn,lAn,↓reduceIte,Nat.reduceEqDiff,Nat.add_zero,oGs,bNt,bNf,enP,IA,f1,DC ag3,JW]
   refine (VA G e.op _).use ?_
   have bm:KQ e.op=true:=by rw [e2]; rfl
   simp -implicitDefEqProofs only [BC,BA,BO,BL,BI,A8,CJ,DU,AY,BB,BJ,BP,CO,FY,EK,H7,AO,AQ,AL,BD,AX,AC,AA,EQ,A7,AU,BH,BM,BG,AZ,CQ,DN,DK,BV,BR,BK,AB,EJ,↓reduceIte,Nat.reduceEqDiff,Nat.add_zero,oGs,bNt,bNf,enP,IA,bne,bm,f1,DC ag3,JW,b2]
   exact ⟨by rw [fin false (by rw [hv,bi]; rfl)]; rfl,_,rfl⟩
theorem AE9:KT Tryz.prog 196=some false:=by kernel_rfl
theorem AU0:szO Tryz.prog 196=some 1:=by kernel_rfl
theorem AUL (h:Hp):J3 Tryz.prog h 53=some (.ptr h.length 0 0,h ++ [.live 4 [[.int .i64 0,.int .i64 0,.str ⟨#[]⟩,.sl .nil 0 []]]]):=JV (row := [.int .i64 0,.int .i64 0,.str ⟨#[]⟩,.sl .nil 0 []]) (by kernel_rfl)
theorem ASI (h:Hp) (e:Ex) (row:List AV) (hr:row.length=4):FM Tryz.prog (h ++ [.live 4 [row]]) 53 (.ptr h.length 0 0) (.agg (ET e))=some (h ++ [.live 4 [ET e]]):=by
 rw [MP (U0 (AEY e)) (by rw [JU]; exact WB) (by rw [JU,hr]; exact Nat.le_refl _)]
 have:splice row 0 (ET e)=ET e:=by unfold splice; simp [JU,hr]
 rw [this]
theorem A0Z (h:Hp):J3 Tryz.prog h 38=some (.ptr h.length 0 0,h ++ [.live 1 [[.int .i64 0]]]):=JV (row := [.int .i64 0]) (by kernel_rfl)
theorem al3 (h:Hp):J3 Tryz.prog h 3=some (.ptr h.length 0 0,h ++ [.live 1 [[.int .i64 0]]]):=JV (row := [.int .i64 0]) (by kernel_rfl)
theorem AVG (h:Hp):J3 Tryz.prog h 196=some (.ptr h.length 0 0,h ++ [.live 1 [[.nilfn]]]):=JV (row := [.nilfn]) (by kernel_rfl)
theorem JP {h:Hp} {t:TypeId} {b:Nat} {v:AV} (hag:KT Tryz.prog t=some false) (hb:h[b]? = some (.live 1 [[v]])):DZ Tryz.prog h t (.ptr b 0 0)=some v:=by
 rw [DJ hag hb (row := [v]) rfl]; rfl
theorem QT {h:Hp} {t:TypeId} {b:Nat} {v u:AV} (hs:szO Tryz.prog t=some 1) (hc:I9 u=some [u]) (hb:h[b]? = some (.live 1 [[v]])):FM Tryz.prog h t (.ptr b 0 0) u=some (h.set b (.live 1 [[u]])):=by
 rw [KI hc hs hb (row := [v]) rfl (by simp)]; rfl
theorem A0S (h:Hp) (f:Fn) (a b:List AV):O3 h (.fn f a b)=some (.ptr h.length 0 0,h ++ [.live 1 [[.fn f a b]]]):=rfl
def Chg (c:Nat) (h h':Hp):Prop:=h.length≤h'.length∧∀ b,b < h.length→b≠c→h'[b]? = h[b]?
theorem Chg.refl (c:Nat) (h:Hp):Chg c h h:=⟨Nat.le_refl _,fun _ _ _=>rfl⟩
theorem Chg.trans {c:Nat} {a b d:Hp} (h1:Chg c a b) (h2:Chg c b d):Chg c a d :=
 ⟨Nat.le_trans h1.1 h2.1,fun i hi hc=>by rw [h2.2 i (Nat.lt_of_lt_of_le hi h1.1) hc,h1.2 i hi hc]⟩
theorem Chg.app (c:Nat) (h x:Hp):Chg c h (h ++ x):=⟨by simp,fun i hi _=>List.getElem?_append_left hi⟩
theorem Chg.set (c:Nat) (h:Hp) (x:ABlk):Chg c h (h.set c x):=⟨by simp,fun i _ hc=>by rw [List.getElem?_set,if_neg (fun e=>hc e.symm)]⟩
theorem Chg.get {c b:Nat} {h h':Hp} {x:ABlk} (hc:Chg c h h') (hb:h[b]? = some x) (hne:b≠c):h'[b]? = some x:=by
 rw [hc.2 b (CU hb) hne]; exact hb
theorem Chg.above {c:Nat} {h h':Hp} (hc:Chg c h h') (hl:h.length≤c) : ∃ x,h'=h ++ x:=by
 refine ⟨h'.drop h.length,?_⟩
 have:h'.take h.length=h:=by
  refine List.ext_getElem? fun i => ?_
  rcases Nat.lt_or_ge i h.length with hi | hi
  ·rw [List.getElem?_take_of_lt hi,hc.2 i hi (by omega)]
  ·rw [List.getElem?_eq_none (by rw [List.length_take]; omega),List.getElem?_eq_none hi]
 conv=>lhs; rw [← List.take_append_drop h.length h',this]
def run (upd:Ex→Int→Int) (cont:Int→Bool):List Ex→Int→Int × Bool
 | [],z=>(z,true)
 | e :: es,z=>if cont (upd e z) then run upd cont es (upd e z) else (upd e z,false)
theorem run_go {upd:Ex→Int→Int} {cont:Int→Bool} : ∀ {xs:List Ex} (ys:List Ex) {z z':Int},run upd cont xs z=(z',true)→run upd cont (xs ++ ys) z=run upd cont ys z'
 | [],ys,z,z',h=>by cases h; rfl
 | x :: xs,ys,z,z',h=>by
   simp only [run,List.cons_append] at h ⊢
   split at h
   ·rename_i hc; rw [if_pos hc]; exact run_go ys h
   ·cases h
theorem run_stop {upd:Ex→Int→Int} {cont:Int→Bool} : ∀ {xs:List Ex} (ys:List Ex) {z z':Int},run upd cont xs z=(z',false)→run upd cont (xs ++ ys) z=(z',false)
 | [],ys,z,z',h=>by cases h
 | x :: xs,ys,z,z',h=>by
   simp only [run,List.cons_append] at h ⊢
   split at h
   ·rename_i hc; rw [if_pos hc]; exact run_stop ys h
   ·rename_i hc; rw [if_neg hc]; exact h
theorem NS (xs:List Ex) (j:Nat) (hj:j < xs.length):JL (xs.take (j+1))=JL (xs.take j) ++ pre xs[j]:=by
 rw [List.take_succ_eq_append_getElem hj,PH]; simp [JL]
theorem AA0 {a:Ex} : ∀ {xs:List Ex},a∈xs→∀ x∈pre a,x∈JL xs
 | [],h,_,_=>by cases h
 | y :: ys,h,x,hx=>by
   simp only [JL,List.mem_append]
   cases List.mem_cons.1 h with
   | inl e=>subst e; exact .inl hx
   | inr e=>exact .inr (AA0 e x hx)
def AMT (G:Nat→AV) (k:FuncId) (upd:Ex→Int→Int) (cont:Int→Bool) (e:Ex):Prop :=
 ∀ (h:Hp) (c:Nat) (z:Int),h[c]? = some (.live 1 [[.int .i64 z]])→ACalls (En G) k [.agg (ET e),.ptr c 0 0] h fun v h'=>v = .bool (cont (upd e z))∧Chg c h h'∧h'[c]? = some (.live 1 [[.int .i64 (upd e z)]])
theorem AN3 (G:Nat→AV) (k:FuncId) (upd:Ex→Int→Int) (cont:Int→Bool) (c vb db:Nat) (hv:vb≠c) (hd:db≠c) (e:Ex) :
  wt e≤1099511627776→(∀ x∈pre e,AMT G k upd cont x)→∀ (h:Hp) (z:Int),h[c]? = some (.live 1 [[.int .i64 z]])→h[vb]? = some (.live 1 [[.fn (.func k) [] [.ptr c 0 0]]]) →
   h[db]? = some (.live 1 [[.fn (.func 230) [] [.ptr vb 0 0,.ptr db 0 0]]]) →
   ACalls (En G) 230 [.agg (ET e),.ptr vb 0 0,.ptr db 0 0] h fun v h'=>v = .bool (run upd cont (pre e) z).2∧Chg c h h'∧h'[c]? = some (.live 1 [[.int .i64 (run upd cont (pre e) z).1]]):=by
 induction e using Ex.induct with | h e ih => ?_
 intro hw hvis h z hc hvb hdb
 have hcl:=CU hc
 have hal:e.args.length≤1099511627776:=by have:=SI e.args; have:=MH e; omega
 refine CB (H:=Hint.none) (enM G) Tryz.func230 rfl (by kernel_rfl) (by kernel_rfl) (nLb (by kernel_rfl)) ?_
 show awp _ _ _ _ _ (EE _ [.tmp 4] _)
 simp -implicitDefEqProofs only [BC,BA,A8,AY,BB,AO,AQ,AL,BD,AX,AC,AA,A7,AU,BM,AZ,FV,BV,BZ,BU,CE,AB,BF,BN,lMc,lMn,List.nil_append,List.cons_append,↓reduceIte,Nat.reduceEqDiff,oGs,bNf,enP,bxE,JP AE9 (CX hvb),ldE]
 refine (hvis e (by rw [pre_eq]; simp) _ c z (CX hc)).mono ?_
 rintro v h1 ⟨rfl,hch,hc1⟩
 have hch0:=(Chg.app c h _).trans hch
 have hb3:h1[h.length]? = some (.live 4 [ET e]):=hch.get (CY _ _) (by omega)
 have hrun:run upd cont (pre e) z=if cont (upd e z) then run upd cont (JL e.args) (upd e z) else (upd e z,false):=by rw [pre_eq]; rfl
 simp -implicitDefEqProofs only [BI,A8,AY,BB,AO,AQ,AL,BD,AX,AC,AA,A7,G6,AB,EX,↓reduceIte,oGs,bNf]
 cases hct:cont (upd e z)
 ·simp -implicitDefEqProofs only [BC,BA,BL,A8,CP,CJ,C9,AY,BB,AO,AQ,AL,BD,AX,AC,AA,AU,BM,AZ,↓reduceIte,oGs,bNf]
  rw [hrun,hct]
  exact ⟨rfl,hch0,hc1⟩
 rw [hct,if_pos rfl] at hrun
 have hvb1:=hch0.get hvb hv
 have hdb1:=hch0.get hdb hd
 have l3:DZ Tryz.prog h1 51 (.ptr h.length 0 3)=some (.sl e.m 4 (e.args.map ET)):=by rw [DJ AGT hb3 (row:=ET e) rfl,YD]
 simp -implicitDefEqProofs only [BC,BQ,BA,BO,A8,DU,AY,BB,AO,AQ,AL,BD,AX,AC,AA,A7,AU,BH,BG,BV,BK,D6,AB,↓reduceIte,Nat.reduceEqDiff,Nat.zero_add,oGs,bNt,bNf,enP,ADP,OY,l3,lLm]
 refine DR (fun n F H => ∃ j z',n+j=e.args.length∧F 1 = .ptr vb 0 0∧F 2 = .ptr db 0 0∧F 12 = .sl e.m 4 (e.args.map ET)∧F 13 = .int .i64 e.args.length∧F 14 = .int .i64 (j:Nat)∧Chg c h H∧H[c]? = some (.live 1 [[.int .i64 z']])∧run upd cont (JL (e.args.take j)) (upd e z)=(z',true)) e.args.length ⟨0,upd e z,by simp,by simp -implicitDefEqProofs only [AA,BF,BN,↓reduceIte,Nat.reduceEqDiff],by simp -implicitDefEqProofs only [AA,BF,BN,↓reduceIte,Nat.reduceEqDiff],by simp -implicitDefEqProofs only [AA,↓reduceIte,Nat.reduceEqDiff],by simp -implicitDefEqProofs only [AA,↓reduceIte,Nat.reduceEqDiff],by simp -implicitDefEqProofs only [AA,↓reduceIte]; rfl,hch0,hc1,rfl⟩ ?_
 rintro n F H ⟨j,z',hj,f1,f2,f12,f13,f14,hC,hcz,hr⟩
 simp -implicitDefEqProofs only [BC,BA,BI,A8,AY,BB,AO,AQ,AL,BD,AX,AC,AA,A7,BR,AB,DF,↓reduceIte,oGs,bNf,enP,f13,f14]
 refine CW (fun hlt => ?_) (fun hlt => ?_)
 ·have hj':j < e.args.length:=by simpa using hlt
  have hdH:H[db]? = some (.live 1 [[.fn (.func 230) [] [.ptr vb 0 0,.ptr db 0 0]]]):=hC.get hdb hd
  have hvH:H[vb]? = some (.live 1 [[.fn (.func k) [] [.ptr c 0 0]]]):=hC.get hvb hv
  simp -implicitDefEqProofs only [BC,BQ,BA,BO,A8,AY,BB,AO,AQ,AL,BD,AX,AC,E8,AA,A7,GG,BV,EP,CG,BZ,BU,CE,AB,DW,lMc,lMn,List.nil_append,List.cons_append,↓reduceIte,Nat.reduceEqDiff,oGs,bNf,enP,AJ9,Option.getD_none,f12,f14,D5 hj',FO AAY WB JU hj',AUL,ASI _ _ [.int .i64 0,.int .i64 0,.str ⟨#[]⟩,.sl .nil 0 []] rfl,f2,JP AE9 (CX hdH),ldE]
  have hmem:e.args[j]∈e.args:=List.getElem_mem hj'
  refine (ih e.args[j] hmem (by have:=QR hmem; have:=MH e; omega) (fun x hx=>hvis x (by rw [pre_eq]; exact List.mem_cons_of_mem _ (AA0 hmem x hx))) _ z' (CX hcz) (CX hvH) (CX hdH)).mono ?_
  rintro v h2 ⟨rfl,hch2,hc2⟩
  have hC2:=hC.trans ((Chg.app c H _).trans hch2)
  have hsplit:JL e.args=JL (e.args.take j) ++ (pre e.args[j] ++ JL (e.args.drop (j+1))):=by
   rw [← List.append_assoc,← NS _ _ hj',← PH,List.take_append_drop]
  simp -implicitDefEqProofs only [BI,A8,AY,BB,AO,AQ,AL,BD,AX,AC,AA,A7,G6,AB,EX,↓reduceIte,oGs,bNf]
  rcases hrr:run upd cont (pre e.args[j]) z' with ⟨z2,b2⟩
  rw [hrr] at hc2
  cases b2
  ·simp -implicitDefEqProofs only [BC,BA,BL,A8,CP,D8,FB,CJ,C9,AY,BB,AO,AQ,AL,BD,AX,AC,AA,AU,BM,AZ,↓reduceIte,oGs,bNf]
   have:run upd cont (pre e) z=(z2,false):=by rw [hrun,hsplit,run_go _ hr]; exact run_stop _ hrr
   rw [this]
   exact ⟨rfl,hC2,hc2⟩
  ·simp -implicitDefEqProofs only [BA,BO,A8,EF,ER,DU,AY,BB,AO,AQ,AL,BD,AX,AC,AA,A7,AU,BH,BG,BR,AB,DI,↓reduceIte,Nat.reduceEqDiff,oGs,bNt,bNf,enP,f1,f2,f12,f13,f14,wrap_succ (show j < 9223372036854775807 by omega)]
   refine ⟨n - 1,by omega,j+1,z2,by omega,trivial,trivial,trivial,trivial,rfl,hC2,hc2,?_⟩
   rw [NS _ _ hj',run_go _ hr]; exact hrr
 ·have hj' : ¬ j < e.args.length:=by simpa using hlt
  simp -implicitDefEqProofs only [BC,BA,BL,DL,A8,EC,EY,EW,CJ,AY,BB,AO,AQ,AL,BD,AX,AC,AA,AU,BM,AZ,↓reduceIte,oGs,bNf]
  rw [List.take_of_length_le (by omega)] at hr
  rw [hrun,hr]
  exact ⟨rfl,hC,hcz⟩
theorem AD3 (G:Nat→AV) (k:FuncId) (upd:Ex→Int→Int) (cont:Int→Bool) (c:Nat) (e:Ex) (hw:wt e≤1099511627776) (hvis : ∀ x∈pre e,AMT G k upd cont x) (h:Hp) (z:Int) (hc:h[c]? = some (.live 1 [[.int .i64 z]])) :
  ACalls (En G) 196 [.agg (ET e),.fn (.func k) [] [.ptr c 0 0]] h fun _ h'=>Chg c h h'∧h'[c]? = some (.live 1 [[.int .i64 (run upd cont (pre e) z).1]]):=by
 have hcl:=CU hc
 refine CB (H:=Hint.none) (enM G) Tryz.func196 rfl (by kernel_rfl) (by kernel_rfl) (nLb (by kernel_rfl)) ?_
 show awp _ _ _ _ _ (EE _ [] _)
 simp -implicitDefEqProofs only [BC,BA,A8,AY,BB,AO,AQ,AL,BD,AX,AC,AA,A7,GG,FV,EP,I7,CE,BF,BN,lMc,lMn,↓reduceIte,Nat.reduceEqDiff,oGs,bNf,enP,Option.getD_none,bxE,A0S,AVG]
 have g0:(h ++ [ABlk.live 4 [ET e]] ++ [ABlk.live 1 [[AV.fn (.func k) [] [.ptr c 0 0]]]] ++ [ABlk.live 1 [[AV.nilfn]]])[(h ++ [ABlk.live 4 [ET e]] ++ [ABlk.live 1 [[AV.fn (.func k) [] [.ptr c 0 0]]]]).length]? = some (.live 1 [[.nilfn]]):=CY _ _
 simp -implicitDefEqProofs only [BA,A8,AY,BB,AO,AQ,AL,BD,AX,E8,AA,A7,BV,DW,↓reduceIte,Nat.reduceEqDiff,oGs,bNf,enP,QT AU0 (AVL _ _ _) g0]
 generalize hdb:(h ++ [ABlk.live 4 [ET e]] ++ [ABlk.live 1 [[AV.fn (.func k) [] [.ptr c 0 0]]]]).length=db at g0 ⊢
 generalize hvb:(h ++ [ABlk.live 4 [ET e]]).length=vb
 have hvl:vb=h.length+1:=by rw [← hvb]; simp
 have hdl:db=h.length+2:=by rw [← hdb]; simp
 generalize hH:(h ++ [ABlk.live 4 [ET e]] ++ [ABlk.live 1 [[AV.fn (.func k) [] [.ptr c 0 0]]]] ++ [ABlk.live 1 [[AV.nilfn]]]).set db (.live 1 [[AV.fn (.func 230) [] [.ptr vb 0 0,.ptr db 0 0]]])=H
 have h1:H[db]? = some (.live 1 [[.fn (.func 230) [] [.ptr vb 0 0,.ptr db 0 0]]]):=by rw [← hH]; exact EI g0
 have h2:H[vb]? = some (.live 1 [[.fn (.func k) [] [.ptr c 0 0]]]):=by
  rw [← hH]; refine CV ?_ (by omega)
  rw [← hvb]; exact CX (CY _ _)
 have h3:H[h.length]? = some (.live 4 [ET e]):=by
  rw [← hH]; refine CV ?_ (by omega)
  exact CX (CX (CY _ _))
 have h4:H[c]? = some (.live 1 [[.int .i64 z]]):=by
  rw [← hH]; refine CV ?_ (by omega)
  exact CX (CX (CX hc))
 have hC:Chg c h H:=by
  refine ⟨by rw [← hH]; simp,fun b hb hbc => ?_⟩
  obtain ⟨x,hx⟩ : ∃ x,h[b]? = some x:=⟨_,List.getElem?_eq_getElem hb⟩
  rw [← hH,hx]
  exact CV (CX (CX (CX hx))) (by omega)
 simp -implicitDefEqProofs only [AY,AO,AQ,AL,BD,AX,AC,AA,A7,BV,BZ,BU,AB,lMc,lMn,List.nil_append,List.cons_append,↓reduceIte,Nat.reduceEqDiff,oGs,bNf,enP,JP AE9 h1,ML h3]
 refine (AN3 G k upd cont c vb db (by omega) (by omega) e hw hvis H z h4 h2 h1).mono ?_
 rintro v h' ⟨rfl,hch,hc1⟩
 simp -implicitDefEqProofs only [AGC,BB,AC]
 exact ⟨hC.trans hch,hc1⟩
theorem AJJ (G:Nat→AV) (e:Ex):AMT G 233 (fun _ z=>IntKind.i64.wrap (z+1)) (fun _=>true) e:=by
 intro h c z hc
 have hcl:=CU hc
 refine CB (H:=Hint.none) (enM G) Tryz.func233 rfl (by kernel_rfl) (by kernel_rfl) (nLb (by kernel_rfl)) ?_
 show awp _ _ _ _ _ (EE _ [.tmp 3] _)
 simp -implicitDefEqProofs only [BC,BA,BL,A8,CJ,AY,BB,AO,AQ,AL,BD,AX,AC,E8,AA,A7,AU,BH,BM,AZ,FV,BV,EP,BR,CE,AB,DW,DI,BF,BN,↓reduceIte,Nat.reduceEqDiff,oGs,bNf,enP,Option.getD_none,bxE,JP ag3 (CX hc),QT sz3 (PQ _ _) (CX hc)]
 exact ⟨trivial,(Chg.app c h _).trans (Chg.set c _ _),EI (CX hc)⟩
theorem AIH (G:Nat→AV) (hG:GOk G) (e:Ex) (hl:e.name.size≤1048576):AMT G 197 (fun e _=>J4 e) (fun z=>z == 0) e:=by
 intro h c z hc
 have hcl:=CU hc
 refine CB (H:=Hint.none) (enM G) Tryz.func197 rfl (by kernel_rfl) (by kernel_rfl) (nLb (by kernel_rfl)) ?_
 show awp _ _ _ _ _ (EE _ [.tmp 3] _)
 simp -implicitDefEqProofs only [BC,BA,A8,AY,BB,AO,AQ,AL,BD,AX,AC,AA,A7,AU,BX,BM,AZ,FV,BV,BZ,BU,CE,AB,BF,lMc,lMn,lAn,↓reduceIte,Nat.reduceEqDiff,oGs,bNf,enP,bxE,ldE]
 refine (ANJ G hG e _ hl).use ?_
 have hs:=EI (y := .live 1 [[.int .i64 (J4 e)]]) (CX (x := .live 4 [ET e]) hc)
 simp -implicitDefEqProofs only [BC,BA,BL,A8,CJ,AY,BB,AO,AQ,AL,BD,AX,AC,E8,AA,A7,AU,BH,AZ,BV,EP,BR,AB,DW,DY,BF,BN,↓reduceIte,Nat.reduceEqDiff,oGs,bNf,enP,Option.getD_none,QT AVT (PQ _ _) (CX hc),JP ART hs]
 exact ⟨trivial,(Chg.app c h _).trans (Chg.set c _ _),hs⟩
theorem AHJ : ∀ (xs:List Ex) (n:Nat),n+xs.length≤1099511627776→run (fun _ z=>IntKind.i64.wrap (z+1)) (fun _=>true) xs (n:Int)=(((n+xs.length:Nat):Int),true)
 | [],n,_=>rfl
 | x :: xs,n,h=>by
   simp only [List.length_cons] at h
   simp only [run,if_true]
   rw [wrap_succ (by omega),AHJ xs (n+1) (by omega),List.length_cons]
   congr 1; omega
def errs (xs:List Ex):Int:=xs.foldl (fun z e=>if z=0 then J4 e else z) 0
theorem AGB : ∀ (xs:List Ex) (z:Int),z≠0→xs.foldl (fun z e=>if z=0 then J4 e else z) z=z
 | [],_,_=>rfl
 | x :: xs,z,h=>by rw [List.foldl_cons,if_neg h]; exact AGB xs z h
theorem AHK : ∀ (xs:List Ex),(run (fun e _=>J4 e) (fun z=>z == 0) xs 0).1=errs xs
 | []=>rfl
 | x :: xs=>by
   simp only [run,errs,List.foldl_cons,if_true]
   rcases hn:(J4 x == 0) with _ | _
   ·have:J4 x≠0:=by simpa using hn
    rw [AGB _ _ this]; rfl
   ·have:J4 x=0:=by simpa using hn
    rw [this]; simp only [if_true]; exact AHK xs
theorem AHT {x e:Ex} (hx:x∈pre e):x.name.size≤wt e:=by
 induction e using Ex.induct with | h e ih => ?_
 rw [pre_eq] at hx
 have hw:=MH e
 rcases List.mem_cons.1 hx with rfl | hx
 ·omega
 have : ∀ l:List Ex,(∀ a∈l,x∈pre a→x.name.size≤wt a)→x∈JL l→x.name.size≤wts l:=by
  intro l
  induction l with
  | nil=>intro _ h; simp [JL] at h
  | cons y l ih2 =>
    intro hh h
    simp only [JL,List.mem_append] at h
    simp only [wts]
    rcases h with h | h
    ·have:=hh y (by simp) h; omega
    ·have:=ih2 (fun a ha=>hh a (by simp [ha])) h; omega
 have:=this e.args (fun a ha=>ih a ha) hx
 omega
theorem AM5 (G:Nat→AV) (e:Ex) (h:Hp) (hw:wt e≤1099511627776):PCall (En G) 200 [.agg (ET e)] h (.int .i64 (pre e).length):=by
 refine ACalls.pure0 rfl ?_
 refine CB (H:=Hint.none) (enM G) Tryz.func200 rfl (by kernel_rfl) (by kernel_rfl) (nLb (by kernel_rfl)) ?_
 show awp _ _ _ _ _ (EE _ [.tmp 2] _)
 have hg:=CY (h ++ [ABlk.live 4 [ET e]]) (.live 1 [[.int .i64 0]])
 have hs:(h ++ [ABlk.live 4 [ET e]] ++ [ABlk.live 1 [[.int .i64 0]]]).set (h ++ [ABlk.live 4 [ET e]]).length (.live 1 [[.int .i64 0]])=h ++ [ABlk.live 4 [ET e]] ++ [ABlk.live 1 [[.int .i64 0]]]:=AFF _ _ _
 simp -implicitDefEqProofs only [BC,BA,A8,AY,BB,AO,AQ,AL,BD,AX,AC,E8,AA,A7,AU,BX,BH,AZ,GG,FV,BV,EP,I7,BZ,BU,CE,AB,DW,BF,lMc,lMn,lAn,↓reduceIte,Nat.reduceEqDiff,oGs,bNf,enP,Option.getD_none,bxE,al3,QT sz3 (PQ _ _) hg,hs,ML (CX (CY h _))]
 refine (AD3 G 233 _ _ _ e hw (fun x _=>AJJ G x) _ 0 hg).mono ?_
 rintro v h' ⟨hch,hc1⟩
 simp -implicitDefEqProofs only [BC,BA,BL,A8,CJ,AY,BB,AO,AQ,AL,BD,AX,AC,AA,A7,AZ,BV,AB,↓reduceIte,Nat.reduceEqDiff,oGs,bNf,enP,JP ag3 hc1]
 have:=AHJ (pre e) 0 (by have:=AFO e; omega)
 simp only [Nat.zero_add] at this
 exact ⟨by rw [show (0:Int)=((0:Nat):Int) from rfl,this],(((Chg.app _ h _).trans (Chg.app _ _ _)).trans hch).above (by simp)⟩
theorem AKL (G:Nat→AV) (e:Ex):wt e≤1099511627776→∀ h:Hp,PCall (En G) 199 [.agg (ET e)] h (.int .i64 (dep e)):=by
 induction e using Ex.induct with | h e ih => ?_
 intro hw h
 have hal:e.args.length≤1099511627776:=by have:=SI e.args; have:=MH e; omega
 refine ACalls.pure0 rfl ?_
 refine CB (H:=Hint.none) (enM G) Tryz.func199 rfl (by kernel_rfl) (by kernel_rfl) (nLb (by kernel_rfl)) ?_
 show awp _ _ _ _ _ (EE _ [.tmp 2] _)
 simp -implicitDefEqProofs only [BC,BQ,BA,A8,AY,BB,AO,AQ,AL,BD,AX,AC,AA,A7,AU,BH,BG,AZ,FV,BV,BK,D6,CE,AB,BF,↓reduceIte,Nat.reduceEqDiff,Nat.zero_add,oGs,bNf,enP,ADP,OY,bxE,DC AGT,YD,lLm]
 have hdw:dep e≤1099511627776:=Nat.le_trans (AQY e) hw
 refine DR (fun n F H => ∃ j,n+j=e.args.length∧F 3 = .int .i64 (deps (e.args.take j):Nat)∧F 7 = .sl e.m 4 (e.args.map ET)∧F 8 = .int .i64 e.args.length∧F 9 = .int .i64 (j:Nat)∧∃ x,H=h ++ x) e.args.length ⟨0,by simp,by simp -implicitDefEqProofs only [AA,↓reduceIte,Nat.reduceEqDiff]; rfl,by simp -implicitDefEqProofs only [AA,↓reduceIte,Nat.reduceEqDiff],by simp -implicitDefEqProofs only [AA,↓reduceIte,Nat.reduceEqDiff],by simp -implicitDefEqProofs only [AA,↓reduceIte]; rfl,⟨_,rfl⟩⟩ ?_
 rintro n F H ⟨j,hj,f3,f7,f8,f9,x,rfl⟩
 simp -implicitDefEqProofs only [BC,BA,BI,A8,AY,BB,AO,AQ,AL,BD,AX,AC,AA,A7,BR,AB,DF,↓reduceIte,oGs,bNf,enP,f8,f9]
 refine CW (fun hlt => ?_) (fun hlt => ?_)
 ·have hj':j < e.args.length:=by simpa using hlt
  have hmem:e.args[j]∈e.args:=List.getElem_mem hj'
  simp -implicitDefEqProofs only [BC,BQ,BA,BO,A8,AY,BB,AO,AQ,AL,BD,AX,AC,E8,AA,A7,BX,BG,GG,BV,EP,CG,BZ,BU,CE,AB,DW,lMc,lMn,lAn,↓reduceIte,Nat.reduceEqDiff,oGs,bNf,enP,AJ9,Option.getD_none,f3,f7,f9,D5 hj',FO AAY WB JU hj',AUL,ASI _ _ [.int .i64 0,.int .i64 0,.str ⟨#[]⟩,.sl .nil 0 []] rfl,ldE]
  refine (ih e.args[j] hmem (by have:=QR hmem; have:=MH e; omega) _).use ?_
  simp -implicitDefEqProofs only [BA,A8,EF,ER,AY,BB,AO,AQ,AL,BD,AX,AC,AA,A7,AU,BH,BG,AZ,BR,AUY,AB,DI,APW,↓reduceIte,Nat.reduceEqDiff,oGs,bNf,enP,f7,f8,f9,wrap_succ (show j < 9223372036854775807 by omega)]
  refine ⟨n - 1,by omega,j+1,by omega,?_,trivial,trivial,rfl,_,by rw [List.append_assoc]⟩
  rw [AE0 _ _ hj']
  congr 1
  omega
 ·have hj' : ¬ j < e.args.length:=by simpa using hlt
  rw [List.take_of_length_le (by omega)] at f3
  rw [AGG] at hdw ⊢
  simp -implicitDefEqProofs only [BC,BA,BL,DL,A8,EC,EY,EW,CJ,AY,BB,AO,AQ,AL,BD,AX,AC,AA,A7,AU,BH,BG,AZ,BR,AB,DI,↓reduceIte,Nat.reduceEqDiff,oGs,bNf,enP,f3,wrap_succ (show deps e.args < 9223372036854775807 by omega)]
  exact ⟨trivial,x,rfl⟩
def exE (e:Ex):Int:=if errs (pre e)=0∧(24 < dep e∨400 < (pre e).length) then 2 else errs (pre e)
theorem YA (G:Nat→AV) (hG:GOk G) (e:Ex) (h:Hp) (hw:wt e≤1048576):PCall (En G) 151 [.agg (ET e)] h (.int .i64 (exE e)):=by
 refine ACalls.pure0 rfl ?_
 refine CB (H:=Hint.none) (enM G) Tryz.func151 rfl (by kernel_rfl) (by kernel_rfl) (nLb (by kernel_rfl)) ?_
 show awp _ _ _ _ _ (EE _ [.tmp 2] _)
 have hg:=CY (h ++ [ABlk.live 4 [ET e]]) (.live 1 [[.int .i64 0]])
 have hs:(h ++ [ABlk.live 4 [ET e]] ++ [ABlk.live 1 [[.int .i64 0]]]).set (h ++ [ABlk.live 4 [ET e]]).length (.live 1 [[.int .i64 0]])=h ++ [ABlk.live 4 [ET e]] ++ [ABlk.live 1 [[.int .i64 0]]]:=AFF _ _ _
 have hb:=CX (x:=ABlk.live 1 [[.int .i64 0]]) (CY h (.live 4 [ET e]))
 simp -implicitDefEqProofs only [BC,BA,A8,AY,BB,AO,AQ,AL,BD,AX,AC,E8,AA,A7,AU,BX,BH,AZ,GG,FV,BV,EP,I7,BZ,BU,CE,AB,DW,BF,lMc,lMn,lAn,↓reduceIte,Nat.reduceEqDiff,oGs,bNf,enP,Option.getD_none,bxE,A0Z,QT AVT (PQ _ _) hg,hs,ML hb]
 refine (AD3 G 197 _ _ _ e (by omega) (fun x hx=>AIH G hG x (by have:=AHT hx; omega)) _ 0 hg).mono ?_
 rintro v h' ⟨hch,hc1⟩
 rw [AHK] at hc1
 have hb':=hch.get hb (by simp)
 have hab:=(((Chg.app _ h _).trans (Chg.app _ _ _)).trans hch).above (show h.length≤(h ++ [ABlk.live 4 [ET e]]).length by simp)
 simp -implicitDefEqProofs only [BC,BA,A8,AY,BB,BJ,BP,CO,AO,AQ,AL,BD,AX,AC,AA,A7,AU,BH,BG,BV,BR,AB,DY,↓reduceIte,Nat.reduceEqDiff,oGs,bNf,enP,JP ART hc1]
 rcases he:(errs (pre e) == 0) with _ | _
 ·simp -implicitDefEqProofs only [BC,BA,BO,BL,BI,A8,CJ,DU,AY,BB,BJ,BP,CO,H7,QN,AO,AQ,AL,BD,AX,AC,AA,EQ,A7,AU,BM,AZ,CQ,DK,BV,AB,↓reduceIte,Nat.reduceEqDiff,oGs,bNf,enP,JP ART hc1]
  have:errs (pre e)≠0:=by simpa using he
  exact ⟨by unfold exE; rw [if_neg (fun hh=>this hh.1)],hab⟩
 have he0:errs (pre e)=0:=by simpa using he
 simp -implicitDefEqProofs only [BJ,BP,CO,FY,AO,AQ,AL,BD,AX,AC,AA,A7,BX,BV,BZ,BU,AB,lMc,lMn,lAn,↓reduceIte,Nat.reduceEqDiff,oGs,bNf,enP,ML hb']
 refine (AKL G e (by omega) _).use ?_
 simp -implicitDefEqProofs only [BJ,BP,CO,FY,AO,AQ,AL,BD,AX,AC,AA,A7,AU,BH,BG,BR,AB,EZ,↓reduceIte,Nat.reduceEqDiff,oGs,bNf,enP]
 refine G5 (fun hd => ?_) (fun hd => ?_)
 ·simp -implicitDefEqProofs only [BC,BA,BL,BI,A8,CP,CJ,C9,AY,BB,BJ,BP,CO,FY,FK,AO,AQ,AL,BD,AX,AC,AA,EQ,A7,AU,BH,BM,AZ,CQ,DN,↓reduceIte,Nat.reduceEqDiff,oGs,bNf,hd]
  exact ⟨by unfold exE; rw [if_pos ⟨he0,.inl (by simp at hd; omega)⟩],hab⟩
 simp -implicitDefEqProofs only [BJ,BP,CO,EK,AO,AQ,AL,BD,AX,AC,AA,A7,BX,BV,BZ,BU,AB,lMc,lMn,lAn,↓reduceIte,Nat.reduceEqDiff,oGs,bNf,enP,hd,ML hb']
 refine (AM5 G e _ (by omega)).use ?_
 simp -implicitDefEqProofs only [BI,A8,AY,BB,BJ,BP,CO,FY,EK,AO,AQ,AL,BD,AX,AC,AA,A7,AU,BH,BM,CQ,DN,DK,BR,AB,EZ,↓reduceIte,Nat.reduceEqDiff,oGs,bNf,enP]
 refine CW (fun hn => ?_) (fun hn => ?_)
 ·simp -implicitDefEqProofs only [BC,BA,BL,A8,CP,CJ,AY,BB,AO,AQ,AL,BD,AX,AC,AA,AU,BH,AZ,↓reduceIte,oGs,bNf]
  exact ⟨by unfold exE; rw [if_pos ⟨he0,.inr (by simp at hn; omega)⟩],hab⟩
 ·simp -implicitDefEqProofs only [BC,BA,BO,BL,A8,CJ,AY,BB,AO,AQ,AL,BD,AX,AC,AA,A7,AZ,BV,AB,↓reduceIte,Nat.reduceEqDiff,oGs,bNf,enP,JP ART hc1]
  exact ⟨by unfold exE; rw [if_neg (fun hh=>by simp at hn hd; omega)],hab⟩
theorem UW {E:Env} {H:Hint} {x y:Code} {F:Fr} {h:Hp} {Q:AEx→Fr→Hp→Prop} {b:Bool} (N R:Fr→Hp→Prop) (h1:b=true→awp E H x F h (ATG N R)) (h2:b=false→awp E H y F h (ATG N R)) (hn : ∀ F h,N F h→Q .normal F h) (hr : ∀ F h,R F h→Q .ret F h) :
 ACX E H x y F h Q (.bool b):=⟨fun e=>AGP N R (h1 e) hn hr,fun e=>AGP N R (h2 e) hn hr⟩
def isB (v:AV) (b:Nat):Prop:=match v with
 | .own b' _ _=>b'=b
 | _=>False
def sv (h:Hp) (m:Nat) (v:AV):Prop := ∃ vs:List ByteArray,vs.length≤m∧((vs = []∧∃ k,v = .sl .nil k [])∨∃ b,v = .own b 0 vs.length∧h[b]? = some (.live 1 (vs.map encStr)))
theorem ATO (G:Nat→AV) (k:Nat) (v:ByteArray) (h:Hp):PCall (En G) 226 [.sl .nil k [],.str v] h (.bool false):=by
 refine CB (H:=Hint.none) (enM G) Tryz.func226 rfl (by kernel_rfl) (by kernel_rfl) (nLb (by kernel_rfl)) ?_
 show awp _ _ _ _ _ (EE _ [.tmp 4] _)
 simp -implicitDefEqProofs only [BC,BQ,BA,A8,AY,BB,AO,AQ,AL,BD,AX,AC,AU,BH,BM,AZ,oGs,bNf,enP]
 refine DR (fun n F H=>F 0 = .sl .nil k []∧F 5 = .int .i64 0∧H=h) 0 ⟨rfl,rfl,rfl⟩ ?_
 rintro n F H ⟨f0,f5,rfl⟩
 simp -implicitDefEqProofs only [BC,BA,BI,A8,AY,BB,AO,AQ,AL,BD,AX,AC,AA,A7,BG,BR,D6,AB,DF,↓reduceIte,Nat.reduceEqDiff,oGs,bNf,enP,Z9,f0,f5,List.length_nil]
 have:decide ((0:Int) < ((0:Nat):Int))=false:=by simp
 simp -implicitDefEqProofs only [BC,BA,BL,DL,A8,EC,EY,EW,CJ,DU,AY,BB,AO,AQ,AL,BD,AX,AC,AA,AU,BM,AZ,↓reduceIte,oGs,bNf,this]
 exact ⟨trivial,trivial⟩
theorem MB {α:Type} {f:α→List AV} {xs:List α} {k:Nat} (hk:k < xs.length):(xs.map f)[k]? = some (f xs[k]):=by
 rw [List.getElem?_map,List.getElem?_eq_getElem hk]; rfl
theorem FU {h x:Hp} {y:ABlk} {b:Nat} (hb:h[b]? = some y):(h ++ x)[b]? = some y:=by
 rw [List.getElem?_append_left (CU hb)]; exact hb
theorem ATN (G:Nat→AV) (xs:List ByteArray) (b:Nat) (v:ByteArray) (h:Hp) (hb:h[b]? = some (.live 1 (xs.map encStr))) (hl:xs.length≤1099511627776) :
  PCall (En G) 226 [.own b 0 xs.length,.str v] h (.bool (IG xs v)):=by
 refine CB (H:=Hint.none) (enM G) Tryz.func226 rfl (by kernel_rfl) (by kernel_rfl) (nLb (by kernel_rfl)) ?_
 show awp _ _ _ _ _ (EE _ [.tmp 4] _)
 simp -implicitDefEqProofs only [BC,BQ,BA,A8,AY,BB,AO,AQ,AL,BD,AX,AC,AU,BH,BM,AZ,oGs,bNf,enP]
 refine DR (fun n F H => ∃ k,n+k=xs.length∧F 0 = .own b 0 xs.length∧F 1 = .str v∧F 5 = .int .i64 (k:Nat)∧H=h∧IG xs v=IG (xs.drop k) v) xs.length ⟨0,by simp,rfl,rfl,rfl,rfl,rfl⟩ ?_
 rintro n F H ⟨k,hk,f0,f1,f5,rfl,hin⟩
 simp -implicitDefEqProofs only [BC,BA,BI,A8,AY,BB,AO,AQ,AL,BD,AX,AC,AA,A7,BG,BR,D6,AB,DF,↓reduceIte,Nat.reduceEqDiff,oGs,bNf,enP,Z9,f0,f1,f5]
 refine CW (fun hc => ?_) (fun hc => ?_)
 ·have hc':k < xs.length:=by simpa using hc
  have hs:IG (xs.drop k) v=((v.toList == xs[k].toList) || IG (xs.drop (k+1)) v):=KF _ xs k hc'
  have l1:DZ Tryz.prog H 9 (.ptr b k 0)=some (.str xs[k]):=by rw [DJ ag9 hb (row:=encStr xs[k]) (MB hc')]; rfl
  simp -implicitDefEqProofs only [BC,BQ,BA,BO,BI,A8,AY,BB,AO,AQ,AL,BD,AX,AC,AA,A7,BG,BV,BR,CG,AB,LC,↓reduceIte,Nat.reduceEqDiff,Nat.zero_add,oGs,bNf,enP,AEK,f0,f1,f5,LM hb hc',l1]
  refine CW (fun hb => ?_) (fun hb => ?_)
  ·simp -implicitDefEqProofs only [BC,BA,BL,A8,CP,D8,FB,CJ,AY,BB,AO,AQ,AL,BD,AX,AC,AA,AU,BM,AZ,↓reduceIte,oGs,bNf]
   refine ⟨?_,trivial⟩
   rw [hin,hs,show (v.toList == xs[k].toList)=true by rw [BEq.comm]; exact hb]; rfl
  ·simp -implicitDefEqProofs only [BA,BO,A8,EF,ER,AY,BB,AO,AQ,AL,BD,AX,AC,AA,A7,AU,BH,BG,AZ,BR,AB,DI,↓reduceIte,Nat.reduceEqDiff,oGs,bNf,enP,f5,wrap_succ (show k < 9223372036854775807 by omega)]
   refine ⟨n - 1,by omega,k+1,by omega,f0,f1,rfl,trivial,?_⟩
   rw [hin,hs,show (v.toList == xs[k].toList)=false by rw [BEq.comm]; exact hb]; rfl
 ·have hc' : ¬ k < xs.length:=by simpa using hc
  simp -implicitDefEqProofs only [BC,BA,BL,DL,A8,EC,EY,EW,CJ,AY,BB,AO,AQ,AL,BD,AX,AC,AA,AU,BM,AZ,↓reduceIte,oGs,bNf]
  exact ⟨by rw [hin,List.drop_eq_nil_of_le (by omega)]; rfl,trivial⟩
theorem AQC (G:Nat→AV) {h:Hp} {m:Nat} {v:AV} (s:ByteArray) (hv:sv h m v) (hm:m≤8388608) : ∃ r,PCall (En G) 226 [v,.str s] h (.bool r):=by
 obtain ⟨vs,hl,⟨_,k,rfl⟩ | ⟨b,rfl,hb⟩⟩:=hv
 ·exact ⟨_,ATO G k s h⟩
 ·exact ⟨_,ATN G vs b s h hb (by omega)⟩
theorem AQ9 (h:Hp) (s:ByteArray):FH Tryz.prog false h 179 1 [(0,.str s)]=some (.sl .full 1 [[.str s]],h):=by kernel_rfl
theorem ARP {h:Hp} {m:Nat} {v:AV} (s:ByteArray) (hv:sv h m v) (hm:m≤8388608) : ∃ v' h',GU Tryz.prog true h 179 179 v (.sl .full 1 [[.str s]])=some (v',h')∧sv h' (m+1) v'∧(∀ b,isB v' b→b=h.length) ∧
  h.length≤h'.length∧∀ b,b < h.length→¬ isB v b→h'[b]? = h[b]? := by
 obtain ⟨vs,hl,⟨rfl,k,rfl⟩ | ⟨b,rfl,hb⟩⟩:=hv
 ·refine ⟨_,_,TI AOZ sz9 AOQ AQ4 (KA h .full 1 [[.str s]]) (by simp) (JO (by simp) (by omega)),⟨[s],by simp,.inr ⟨h.length,rfl,CY _ _⟩⟩,fun b hb=>hb.symm,by simp,fun b hb _=>List.getElem?_append_left hb⟩
 ·have hc:KC h (.own b 0 vs.length)=some (1,vs.map encStr):=by
   rw [QB hb (by simp),List.drop_zero,List.take_of_length_le (by simp)]
  refine ⟨_,_,VL AOZ sz9 AOQ AQ4 hc (KA h .full 1 [[.str s]]) (by simp) (JO (by simp; omega) (by omega)),⟨vs ++ [s],by simp; omega,.inr ⟨h.length,by simp,by simp [encStr]⟩⟩,fun b hb=>hb.symm,by simp,fun o ho hn => ?_⟩
  rw [List.getElem?_append_left (by simpa using ho)]
  have hn' : ¬ b=o:=hn
  rw [List.getElem?_set,if_neg hn']
def wRow (n dd:Nat) (f:Int) (v1 v2:AV):List AV := [.int .i64 n,.int .i64 dd,.int .i64 f,v1,v2]
structure St (h:Hp) (c m1 m2 n dd:Nat) (f:Int) (v1 v2:AV):Prop where
 w:h[c]? = some (.live 5 [wRow n dd f v1 v2])
 s1:sv h m1 v1
 s2:sv h m2 v2
 ap : ∀ b,isB v1 b→¬ isB v2 b
theorem sv.b {h:Hp} {m:Nat} {v:AV} {b:Nat} (hs:sv h m v) (hb:isB v b) : ∃ vs:List ByteArray,h[b]? = some (.live 1 (vs.map encStr)):=by
 obtain ⟨vs,_,⟨_,k,rfl⟩ | ⟨b',rfl,h'⟩⟩:=hs
 ·exact hb.elim
 ·cases hb; exact ⟨vs,h'⟩
theorem sv.ne {h:Hp} {m b c:Nat} {v:AV} {row:List AV} (hs:sv h m v) (hc:h[c]? = some (.live 5 [row])) (hb:isB v b):b≠c:=by
 intro e; subst e
 obtain ⟨vs,h'⟩:=hs.b hb
 rw [h'] at hc; cases hc
theorem sv.keep {h h':Hp} {m m':Nat} {v:AV} (hs:sv h m v) (hm:m≤m') (hk : ∀ b,isB v b→h'[b]? = h[b]?):sv h' m' v:=by
 obtain ⟨vs,hl,⟨e,k,rfl⟩ | ⟨b,rfl,hb⟩⟩:=hs
 ·exact ⟨vs,by omega,.inl ⟨e,k,rfl⟩⟩
 ·exact ⟨vs,by omega,.inr ⟨b,rfl,by rw [hk b rfl]; exact hb⟩⟩
structure Ch (c:Nat) (v1 v2:AV) (h:Hp) (v1' v2':AV) (h':Hp):Prop where
 len:h.length≤h'.length
 get : ∀ b,b < h.length→b≠c→¬ isB v1 b→¬ isB v2 b→h'[b]? = h[b]?
 n1 : ∀ b,isB v1' b→isB v1 b∨h.length≤b
 n2 : ∀ b,isB v2' b→isB v2 b∨h.length≤b
theorem Ch.refl (c:Nat) (v1 v2:AV) (h:Hp):Ch c v1 v2 h v1 v2 h:=⟨Nat.le_refl _,fun _ _ _ _ _=>rfl,fun _ h => .inl h,fun _ h => .inl h⟩
theorem Ch.trans {c:Nat} {v1 v2 u1 u2 w1 w2:AV} {a b d:Hp} (h1:Ch c v1 v2 a u1 u2 b) (h2:Ch c u1 u2 b w1 w2 d):Ch c v1 v2 a w1 w2 d:=by
 refine ⟨Nat.le_trans h1.len h2.len,fun i hi hc hv hu => ?_,fun i hi => ?_,fun i hi => ?_⟩
 ·rw [h2.get i (Nat.lt_of_lt_of_le hi h1.len) hc (fun e=>(h1.n1 i e).elim hv (fun e=>by omega)) (fun e=>(h1.n2 i e).elim hu (fun e=>by omega)),h1.get i hi hc hv hu]
 ·rcases h2.n1 i hi with h | h
  ·exact h1.n1 i h
  ·exact .inr (Nat.le_trans h1.len h)
 ·rcases h2.n2 i hi with h | h
  ·exact h1.n2 i h
  ·exact .inr (Nat.le_trans h1.len h)
theorem Ch.app (c:Nat) (v1 v2:AV) (h x:Hp):Ch c v1 v2 h v1 v2 (h ++ x):=⟨by simp,fun _ hi _ _ _=>List.getElem?_append_left hi,fun _ h => .inl h,fun _ h => .inl h⟩
theorem Ch.set (c:Nat) (v1 v2:AV) (h:Hp) (x:ABlk):Ch c v1 v2 h v1 v2 (h.set c x):=⟨by simp,fun _ _ hc _ _=>by rw [List.getElem?_set,if_neg (fun e=>hc e.symm)],fun _ h => .inl h,fun _ h => .inl h⟩
theorem St.app {h:Hp} {c m1 m2 n dd:Nat} {f:Int} {v1 v2:AV} (s:St h c m1 m2 n dd f v1 v2) (x:Hp):St (h ++ x) c m1 m2 n dd f v1 v2:=by
 have keep : ∀ v m,sv h m v→sv (h ++ x) m v:=fun v m hv=>hv.keep (Nat.le_refl _) fun b hb=>by
  obtain ⟨vs,h'⟩:=hv.b hb
  exact List.getElem?_append_left (CU h')
 exact ⟨FU s.w,keep _ _ s.s1,keep _ _ s.s2,s.ap⟩
theorem St.set {h:Hp} {c m1 m2 n dd:Nat} {f:Int} {v1 v2:AV} (s:St h c m1 m2 n dd f v1 v2) (n' dd':Nat) (f':Int):St (h.set c (.live 5 [wRow n' dd' f' v1 v2])) c m1 m2 n' dd' f' v1 v2:=by
 have keep : ∀ v m,sv h m v→sv (h.set c (.live 5 [wRow n' dd' f' v1 v2])) m v:=fun v m hv=>hv.keep (Nat.le_refl _) fun b hb=>by
  rw [List.getElem?_set,if_neg (fun e=>hv.ne s.w hb e.symm)]
 exact ⟨EI s.w,keep _ _ s.s1,keep _ _ s.s2,s.ap⟩
section
variable {h:Hp} {c m1 m2 n dd:Nat} {f:Int} {v1 v2:AV} (s:St h c m1 m2 n dd f v1 v2)
include s
theorem St.l0:DZ Tryz.prog h 3 (.ptr c 0 0)=some (.int .i64 n):=by rw [DJ ag3 s.w (row:=wRow n dd f v1 v2) rfl]; rfl
theorem St.l1:DZ Tryz.prog h 3 (.ptr c 0 1)=some (.int .i64 dd):=by rw [DJ ag3 s.w (row:=wRow n dd f v1 v2) rfl]; rfl
theorem St.l2:DZ Tryz.prog h 38 (.ptr c 0 2)=some (.int .i64 f):=by rw [DJ ART s.w (row:=wRow n dd f v1 v2) rfl]; rfl
theorem St.l3:DZ Tryz.prog h 179 (.ptr c 0 3)=some v1:=by rw [DJ AFA s.w (row:=wRow n dd f v1 v2) rfl]; rfl
theorem St.l4:DZ Tryz.prog h 179 (.ptr c 0 4)=some v2:=by rw [DJ AFA s.w (row:=wRow n dd f v1 v2) rfl]; rfl
theorem St.t0 (x:Nat):FM Tryz.prog h 3 (.ptr c 0 0) (.int .i64 x)=some (h.set c (.live 5 [wRow x dd f v1 v2])):=by
 rw [KI (PQ _ _) sz3 s.w (row:=wRow n dd f v1 v2) rfl (by simp [wRow])]; rfl
theorem St.t1 (x:Nat):FM Tryz.prog h 3 (.ptr c 0 1) (.int .i64 x)=some (h.set c (.live 5 [wRow n x f v1 v2])):=by
 rw [KI (PQ _ _) sz3 s.w (row:=wRow n dd f v1 v2) rfl (by simp [wRow])]; rfl
theorem St.t2 (x:Int):FM Tryz.prog h 38 (.ptr c 0 2) (.int .i64 x)=some (h.set c (.live 5 [wRow n dd x v1 v2])):=by
 rw [KI (PQ _ _) AVT s.w (row:=wRow n dd f v1 v2) rfl (by simp [wRow])]; rfl
end
theorem St.app3 {h:Hp} {c m1 m2 n dd:Nat} {f:Int} {v1 v2:AV} (s:St h c m1 m2 n dd f v1 v2) (x:ByteArray) (hm:m1≤8388608) :
  ∃ v' h',GU Tryz.prog true h 179 179 v1 (.sl .full 1 [[.str x]])=some (v',h')∧FM Tryz.prog h' 179 (.ptr c 0 3) v'=some (h'.set c (.live 5 [wRow n dd f v' v2])) ∧
    St (h'.set c (.live 5 [wRow n dd f v' v2])) c (m1+1) m2 n dd f v' v2∧Ch c v1 v2 h v' v2 (h'.set c (.live 5 [wRow n dd f v' v2])):=by
 obtain ⟨v',h',ha,hs,hb,hl,hk⟩:=ARP x s.s1 hm
 have hc1 : ¬ isB v1 c:=fun e=>s.s1.ne s.w e rfl
 have hc2 : ¬ isB v2 c:=fun e=>s.s2.ne s.w e rfl
 have hcl:=CU s.w
 have hw:h'[c]? = some (.live 5 [wRow n dd f v1 v2]):=by rw [hk c hcl hc1]; exact s.w
 have hvc : ∀ b,isB v' b→b≠c:=fun b hb' e=>by have:=hb b hb'; omega
 have hac:I9 v'=some [v']:=by
  obtain ⟨vs,_,⟨_,k,rfl⟩ | ⟨b,rfl,_⟩⟩:=hs <;> rfl
 refine ⟨v',h',ha,by rw [KI hac AO5 hw (row:=wRow n dd f v1 v2) rfl (by simp [wRow])]; rfl,⟨EI hw,hs.keep (Nat.le_refl _) fun b hb' => ?_,s.s2.keep (Nat.le_refl _) fun b hb' => ?_,fun b h1 h2 => ?_⟩,⟨by simpa using hl,fun b hbl hne h1 h2 => ?_,fun b hb' => .inr (by rw [hb b hb']; exact Nat.le_refl _),fun b hb' => .inl hb'⟩⟩
 ·rw [List.getElem?_set,if_neg (fun e=>hvc b hb' e.symm)]
 ·obtain ⟨_,hx⟩:=s.s2.b hb'
  rw [List.getElem?_set,if_neg (fun e=>hc2 (by rw [e]; exact hb')),hk b (CU hx) (fun e=>s.ap b e hb')]
 ·obtain ⟨_,hx⟩:=s.s2.b h2
  have:=hb b h1; have:=CU hx; omega
 ·rw [List.getElem?_set,if_neg (fun e=>hne e.symm),hk b hbl h1]
theorem St.app4 {h:Hp} {c m1 m2 n dd:Nat} {f:Int} {v1 v2:AV} (s:St h c m1 m2 n dd f v1 v2) (x:ByteArray) (hm:m2≤8388608) :
  ∃ v' h',GU Tryz.prog true h 179 179 v2 (.sl .full 1 [[.str x]])=some (v',h')∧FM Tryz.prog h' 179 (.ptr c 0 4) v'=some (h'.set c (.live 5 [wRow n dd f v1 v'])) ∧
    St (h'.set c (.live 5 [wRow n dd f v1 v'])) c m1 (m2+1) n dd f v1 v'∧Ch c v1 v2 h v1 v' (h'.set c (.live 5 [wRow n dd f v1 v'])):=by
 obtain ⟨v',h',ha,hs,hb,hl,hk⟩:=ARP x s.s2 hm
 have hc1 : ¬ isB v1 c:=fun e=>s.s1.ne s.w e rfl
 have hc2 : ¬ isB v2 c:=fun e=>s.s2.ne s.w e rfl
 have hcl:=CU s.w
 have hw:h'[c]? = some (.live 5 [wRow n dd f v1 v2]):=by rw [hk c hcl hc2]; exact s.w
 have hvc : ∀ b,isB v' b→b≠c:=fun b hb' e=>by have:=hb b hb'; omega
 have hac:I9 v'=some [v']:=by
  obtain ⟨vs,_,⟨_,k,rfl⟩ | ⟨b,rfl,_⟩⟩:=hs <;> rfl
 refine ⟨v',h',ha,by rw [KI hac AO5 hw (row:=wRow n dd f v1 v2) rfl (by simp [wRow])]; rfl,⟨EI hw,s.s1.keep (Nat.le_refl _) fun b hb' => ?_,hs.keep (Nat.le_refl _) fun b hb' => ?_,fun b h1 h2 => ?_⟩,⟨by simpa using hl,fun b hbl hne h1 h2 => ?_,fun b hb' => .inl hb',fun b hb' => .inr (by rw [hb b hb']; exact Nat.le_refl _)⟩⟩
 ·obtain ⟨_,hx⟩:=s.s1.b hb'
  rw [List.getElem?_set,if_neg (fun e=>hc1 (by rw [e]; exact hb')),hk b (CU hx) (fun e=>s.ap b hb' e)]
 ·rw [List.getElem?_set,if_neg (fun e=>hvc b hb' e.symm)]
 ·obtain ⟨_,hx⟩:=s.s1.b h1
  have:=hb b h2; have:=CU hx; omega
 ·rw [List.getElem?_set,if_neg (fun e=>hne e.symm),hk b hbl h2]
def VR (z:Int) (xs:List Ex):Int:=xs.foldl (fun z e=>if z=0 then J4 e else z) z
theorem AIJ (z:Int) (xs ys:List Ex):VR z (xs ++ ys)=VR (VR z xs) ys:=List.foldl_append
theorem St.weak {h:Hp} {c m1 m2 m1' m2' n dd:Nat} {f:Int} {v1 v2:AV} (s:St h c m1 m2 n dd f v1 v2) (h1:m1≤m1') (h2:m2≤m2'):St h c m1' m2' n dd f v1 v2 :=
 ⟨s.w,s.s1.keep h1 fun _ _=>rfl,s.s2.keep h2 fun _ _=>rfl,s.ap⟩
def Md (e:Ex) (c d:Nat) (v1 v2:AV) (h:Hp) (m1 m2 n dd:Nat) (f:Int) (F:Nat→AV) (H:Hp):Prop :=
 F 0 = .ptr c 0 0∧F 2 = .int .i64 (d:Nat)∧F 4 = .ptr h.length 0 0∧∃ u1 u2,St H c m1 m2 n dd f u1 u2∧Ch c v1 v2 (h ++ [.live 4 [ET e]]) u1 u2 H
theorem AHS (xs:List Ex):(JL xs).length≤wts xs:=by
 induction xs with
 | nil=>simp [JL,wts]
 | cons x xs ih=>have:=AFO x; simp only [JL,wts,List.length_append]; omega
theorem AG0 : ∀ (xs:List Ex) (j:Nat) (hj:j < xs.length),wts (xs.take j)+wt xs[j]≤wts xs
 | x :: xs,0,_=>by simp [wts]
 | x :: xs,j+1,h=>by
   have:=AG0 xs j (by simpa using h)
   simp only [List.take_succ_cons,wts,List.getElem_cons_succ]; omega
theorem YH : ∀ (xs:List Ex) (j:Nat),deps (xs.take j)≤wts xs
 | [],j=>by simp [deps,wts]
 | x :: xs,0=>by simp [deps]
 | x :: xs,j+1=>by
   have h1:=YH xs j
   have h2:=AQY x
   simp only [List.take_succ_cons,deps,wts]; omega
theorem ASQ (G:Nat→AV) (c:Nat) (e:Ex):wt e≤1048576→∀ (h:Hp) (d n dd:Nat) (f:Int) (v1 v2:AV),d+wt e≤8388608→n+wt e≤8388608→dd≤16777216→St h c n n n dd f v1 v2 →
  ACalls (En G) 193 [.ptr c 0 0,.agg (ET e),.int .i64 (d:Nat)] h fun _ h' => ∃ u1 u2,St h' c (n+(pre e).length) (n+(pre e).length) (n+(pre e).length) (max dd (d+deps e.args)) (VR f (pre e)) u1 u2∧Ch c v1 v2 h u1 u2 h':=by
 induction e using Ex.induct with | h e ih => ?_
 intro hw h d n dd f v1 v2 hd hn hdd s
 have hal:e.args.length≤wts e.args:=SI e.args
 have hwe:=MH e
 have hcl:=CU s.w
 have hbox : ∀ (u1 u2:AV) (H:Hp),Ch c v1 v2 (h ++ [.live 4 [ET e]]) u1 u2 H→H[h.length]? = some (.live 4 [ET e]):=by
  intro u1 u2 H hC
  rw [hC.get h.length (by simp) (by omega) (fun hb => ?_) (fun hb => ?_)]
  ·exact CY _ _
  ·obtain ⟨_,hx⟩:=s.s1.b hb
   have:=CU hx; omega
  ·obtain ⟨_,hx⟩:=s.s2.b hb
   have:=CU hx; omega
 have lb0 : ∀ H:Hp,H[h.length]? = some (.live 4 [ET e])→DZ Tryz.prog H 3 (.ptr h.length 0 0)=some (.int .i64 e.op):=fun H hH=>by rw [DJ ag3 hH (row:=ET e) rfl,JW]
 have lb2 : ∀ H:Hp,H[h.length]? = some (.live 4 [ET e])→DZ Tryz.prog H 9 (.ptr h.length 0 2)=some (.str e.name):=fun H hH=>by rw [DJ ag9 hH (row:=ET e) rfl,PU]
 have lb3 : ∀ H:Hp,H[h.length]? = some (.live 4 [ET e])→DZ Tryz.prog H 51 (.ptr h.length 0 3)=some (.sl e.m 4 (e.args.map ET)):=fun H hH=>by rw [DJ AGT hH (row:=ET e) rfl,YD]
 refine CB (H:=hint [56,85] []) (enM G) Tryz.func193 rfl (by kernel_rfl) (by kernel_rfl) (nLb (by kernel_rfl)) ?_
 show awp _ _ _ _ _ (EE _ [] _)
 have s0:=s.app [.live 4 [ET e]]
 have c0:=Ch.app c v1 v2 h [.live 4 [ET e]]
 simp -implicitDefEqProofs only [D7,List.contains_cons,List.contains_nil,Nat.reduceBEq,Bool.or_false,BC,BA,A8,AY,BB,AL,BD,AX,AC,E8,AA,A7,AU,BH,BG,FV,BV,EP,BR,BK,CE,AB,DW,DI,BF,BN,↓reduceIte,Nat.reduceEqDiff,Nat.add_zero,Nat.zero_add,oGs,bNf,enP,AF8,AF7,D9,Option.getD_none,GR,IL,bxE,s0.l0,wrap_succ (show n < 9223372036854775807 by omega),s0.t0]
 have s1:=s0.set (n+1) dd f
 have c1:=Ch.set c v1 v2 (h ++ [.live 4 [ET e]]) (.live 5 [wRow (n+1) dd f v1 v2])
 clear s0
 generalize (h ++ [ABlk.live 4 [ET e]]).set c (.live 5 [wRow (n+1) dd f v1 v2])=H1 at s1 c1 ⊢
 simp -implicitDefEqProofs only [D7,List.contains_cons,List.contains_nil,Nat.reduceBEq,Bool.or_false,BI,A8,AY,BB,AL,BD,AX,AC,AA,A7,BR,AB,EZ,↓reduceIte,Nat.reduceEqDiff,oGs,bNf,enP,D9,s1.l1]
 refine UW (Md e c d v1 v2 h n n (n+1) (max dd d) f) (fun _ _=>False) (fun hb => ?_) (fun hb => ?_) ?_ (fun _ _ hh=>hh.elim)
 ·simp -implicitDefEqProofs only [D7,List.contains_cons,List.contains_nil,Nat.reduceBEq,Bool.or_false,BA,TL,AY,BB,AL,BD,AX,AC,E8,AA,A7,BG,EP,BK,AB,DW,BF,BN,↓reduceIte,Nat.reduceEqDiff,Nat.zero_add,oGs,bNf,enP,AF7,D9,Option.getD_none,GR,IL,s1.t1]
  refine ⟨rfl,rfl,rfl,v1,v2,?_,c1.trans (Ch.set c _ _ _ _)⟩
  have:max dd d=d:=by simp at hb; omega
  rw [this]
  exact s1.set (n+1) d f
 ·simp -implicitDefEqProofs only [BO,TL]
  refine ⟨rfl,rfl,rfl,v1,v2,?_,c1⟩
  have:max dd d=dd:=by simp at hb; omega
  rw [this]
  exact s1
 clear s1 c1
 rintro F H ⟨f0,f2,f4,u1,u2,s,hC⟩
 simp -implicitDefEqProofs only [D7,List.contains_cons,List.contains_nil,Nat.reduceBEq,Bool.or_false,BC,BA,BI,A8,AY,BB,AL,BD,AX,AC,AA,A7,AU,BH,BG,BV,BR,BK,AB,DY,↓reduceIte,Nat.zero_add,oGs,bNf,enP,X9,D9,GR,IL,f0,s.l2]
 refine UW (Md e c d v1 v2 h n n (n+1) (max dd d) (VR f [e])) (fun _ _=>False) (fun hb => ?_) (fun hb => ?_) ?_ (fun _ _ hh=>hh.elim)
 ·simp -implicitDefEqProofs only [D7,List.contains_cons,List.contains_nil,Nat.reduceBEq,Bool.or_false,BA,AY,AL,BD,AX,AC,AA,A7,BX,BG,BV,BZ,BU,AB,lMc,lMn,lAn,↓reduceIte,Nat.reduceEqDiff,oGs,bNf,enP,D9,f0,f2,f4,ML (hbox _ _ _ hC)]
  refine (AMU G e _ (by omega)).use ?_
  simp -implicitDefEqProofs only [D7,List.contains_cons,List.contains_nil,Nat.reduceBEq,Bool.or_false,TL,AY,BB,AL,BD,AX,AC,E8,AA,A7,EP,BK,AB,DW,↓reduceIte,Nat.reduceEqDiff,Nat.zero_add,oGs,bNf,enP,X9,D9,Option.getD_none,GR,IL,s.t2,f0,f2,f4]
  refine ⟨f0,f2,f4,u1,u2,?_,hC.trans (Ch.set c _ _ _ _)⟩
  have:VR f [e]=J4 e:=by
   have:f=0:=by simpa using hb
   subst this; rfl
  rw [this]
  exact s.set _ _ _
 ·simp -implicitDefEqProofs only [BO,TL]
  refine ⟨f0,f2,f4,u1,u2,?_,hC⟩
  have:VR f [e]=f:=by
   have:f≠0:=by simpa using hb
   show (if f=0 then J4 e else f)=f
   rw [if_neg this]
  rw [this]; exact s
 clear f0 f2 f4 s hC
 rintro F H ⟨f0,f2,f4,u1,u2,s,hC⟩
 simp -implicitDefEqProofs only [BC,A8]
 refine FD (by kernel_rfl) ?_
 have hB:=hbox _ _ _ hC
 refine AR3 (fun F H=>(∃ b,F 47 = .bool b)∧Md e c d v1 v2 h n n (n+1) (max dd d) (VR f [e]) F H) ?_ ?_
 ·cases b2:(e.op == 2)
  ·simp -implicitDefEqProofs only [F9,D7,List.contains_cons,List.contains_nil,Nat.reduceBEq,Bool.or_false,EH,DX,FC,EM,FI,GK,AAP,FP,I5,FQ,JA,EG,CO,AA,EQ,A7,AU,BH,BM,CQ,DK,BV,BR,BK,AB,DY,↓reduceIte,Nat.reduceEqDiff,Nat.reduceAdd,Nat.add_zero,oGs,enP,IA,f0,f2,f4,lb0 _ hB,b2]
   exact ⟨⟨_,rfl⟩,f0,f2,f4,u1,u2,s,hC⟩
  ·obtain ⟨r,hr⟩:=AQC G e.name s.s1 (by omega)
   simp -implicitDefEqProofs only [F9,D7,List.contains_cons,List.contains_nil,Nat.reduceBEq,Bool.or_false,EH,DX,EM,FI,GK,TQ,FP,FQ,JA,ABB,EG,GV,GI,CO,AA,A7,AU,BX,BH,BV,BR,G6,BK,AB,DY,lMc,lMn,lAn,↓reduceIte,Nat.reduceEqDiff,Nat.reduceAdd,Nat.add_zero,Nat.zero_add,oGs,enP,IA,KZ,AMG,GR,OQ,IL,f0,f2,f4,lb0 _ hB,lb2 _ hB,b2,s.l3]
   refine ⟨_,hr,?_⟩
   simp -implicitDefEqProofs only [F9,D7,List.contains_cons,List.contains_nil,Nat.reduceBEq,Bool.or_false,EH,DX,FC,EM,I5,AA,A7,AU,BM,CQ,DN,AB,EX,↓reduceIte,Nat.reduceEqDiff,Nat.reduceAdd,oGs,f0,f2,f4]
   exact ⟨⟨_,rfl⟩,f0,f2,f4,u1,u2,s,hC⟩
 clear f0 f2 f4 s hC hB
 rintro F H ⟨⟨b,f47⟩,f0,f2,f4,u1,u2,s,hC⟩
 have hB:=hbox _ _ _ hC
 simp -implicitDefEqProofs only [BI,A8,A7,f47]
 refine UW (Md e c d v1 v2 h (n+1) n (n+1) (max dd d) (VR f [e])) (fun _ _=>False) (fun hb => ?_) (fun hb => ?_) ?_ (fun _ _ hh=>hh.elim)
 ·obtain ⟨v',H',ha,ht,s',hC'⟩:=s.app3 e.name (by omega)
  refine FD (by kernel_rfl) ?_
  simp -implicitDefEqProofs only [F9,FT,F6,D7,List.contains_cons,List.contains_nil,Nat.reduceBEq,Bool.or_false,EH,DX,LP,FC,EM,FP,LH,FQ,KL,EG,JK,TL,AA,A7,ES,BV,EP,BK,IJ,CE,AB,DW,↓reduceIte,Nat.reduceEqDiff,Nat.reduceAdd,Nat.zero_add,oGs,enP,KZ,AMG,Option.getD_none,GR,OQ,IL,f0,f2,f4,lb2 _ hB,s.l3,AQ9,ha,ht]
  exact ⟨f0,f2,f4,_,_,s',hC.trans hC'⟩
 ·simp -implicitDefEqProofs only [BO,TL]
  exact ⟨f0,f2,f4,_,_,s.weak (by omega) (by omega),hC⟩
 clear f0 f2 f4 s hC hB
 rintro F H ⟨f0,f2,f4,u1,u2,s,hC⟩
 have hB:=hbox _ _ _ hC
 simp -implicitDefEqProofs only [BC,A8]
 refine FD (by kernel_rfl) ?_
 refine AR3 (fun F H=>(∃ b,F 76 = .bool b)∧Md e c d v1 v2 h (n+1) n (n+1) (max dd d) (VR f [e]) F H) ?_ ?_
 ·obtain ⟨r,hr⟩:=AQC G e.name s.s2 (by omega)
  cases b2:(e.op == 3)
  ·cases b3:(e.op == 24)
   ·simp -implicitDefEqProofs only [F9,D7,List.contains_cons,List.contains_nil,Nat.reduceBEq,Bool.or_false,EH,DX,FC,EM,FI,GK,U2,AAP,FP,I5,FQ,JA,EG,CO,AA,EQ,A7,AU,BH,BM,CQ,DK,BV,BR,BK,AB,DY,↓reduceIte,Nat.reduceEqDiff,Nat.reduceAdd,Nat.add_zero,oGs,enP,IA,f0,f2,f4,lb0 _ hB,b2,b3]
    exact ⟨⟨_,rfl⟩,f0,f2,f4,u1,u2,s,hC⟩
   ·simp -implicitDefEqProofs only [F9,D7,List.contains_cons,List.contains_nil,Nat.reduceBEq,Bool.or_false,EH,DX,EM,FI,GK,TQ,U2,FP,I5,FQ,JA,ABB,EG,GV,GI,CO,AA,A7,AU,BX,BH,BM,CQ,DK,BV,BR,G6,BK,AB,DY,lMc,lMn,lAn,↓reduceIte,Nat.reduceEqDiff,Nat.reduceAdd,Nat.add_zero,Nat.zero_add,oGs,enP,IA,KZ,AF6,GR,OQ,IL,f0,f2,f4,lb0 _ hB,lb2 _ hB,b2,b3,s.l4]
    refine ⟨_,hr,?_⟩
    simp -implicitDefEqProofs only [F9,D7,List.contains_cons,List.contains_nil,Nat.reduceBEq,Bool.or_false,EH,DX,FC,EM,I5,AA,A7,AU,BM,CQ,DN,AB,EX,↓reduceIte,Nat.reduceEqDiff,Nat.reduceAdd,oGs,f0,f2,f4]
    exact ⟨⟨_,rfl⟩,f0,f2,f4,u1,u2,s,hC⟩
  ·simp -implicitDefEqProofs only [F9,D7,List.contains_cons,List.contains_nil,Nat.reduceBEq,Bool.or_false,EH,DX,EM,FI,GK,TQ,ADH,FP,I5,FQ,JA,ABB,EG,GV,GI,CO,AA,EQ,A7,AU,BX,BH,BM,CQ,DN,BV,BR,G6,BK,AB,DY,lMc,lMn,lAn,↓reduceIte,Nat.reduceEqDiff,Nat.reduceAdd,Nat.add_zero,Nat.zero_add,oGs,enP,IA,KZ,AF6,GR,OQ,IL,f0,f2,f4,lb0 _ hB,lb2 _ hB,b2,s.l4]
   refine ⟨_,hr,?_⟩
   simp -implicitDefEqProofs only [F9,D7,List.contains_cons,List.contains_nil,Nat.reduceBEq,Bool.or_false,EH,DX,FC,EM,I5,AA,A7,AU,BM,CQ,DN,AB,EX,↓reduceIte,Nat.reduceEqDiff,Nat.reduceAdd,oGs,f0,f2,f4]
   exact ⟨⟨_,rfl⟩,f0,f2,f4,u1,u2,s,hC⟩
 clear f0 f2 f4 s hC hB f47
 rintro F H ⟨⟨b,f76⟩,f0,f2,f4,u1,u2,s,hC⟩
 have hB:=hbox _ _ _ hC
 simp -implicitDefEqProofs only [BI,A8,A7,f76]
 refine UW (Md e c d v1 v2 h (n+1) (n+1) (n+1) (max dd d) (VR f [e])) (fun _ _=>False) (fun hb => ?_) (fun hb => ?_) ?_ (fun _ _ hh=>hh.elim)
 ·obtain ⟨v',H',ha,ht,s',hC'⟩:=s.app4 e.name (by omega)
  refine FD (by kernel_rfl) ?_
  simp -implicitDefEqProofs only [F9,FT,F6,D7,List.contains_cons,List.contains_nil,Nat.reduceBEq,Bool.or_false,Bool.or_true,EH,DX,LP,FC,EM,FP,LH,FQ,KL,EG,JK,TL,AA,A7,ES,BV,EP,BK,IJ,CE,AB,DW,↓reduceIte,Nat.reduceEqDiff,Nat.reduceAdd,Nat.zero_add,oGs,enP,KZ,AF6,Option.getD_none,GR,OQ,IL,f0,f2,f4,lb2 _ hB,s.l4,AQ9,ha,ht]
  exact ⟨f0,f2,f4,_,_,s',hC.trans hC'⟩
 ·simp -implicitDefEqProofs only [BO,TL]
  exact ⟨f0,f2,f4,_,_,s.weak (by omega) (by omega),hC⟩
 clear f0 f2 f4 s hC hB f76
 rintro F H ⟨f0,f2,f4,u1,u2,s,hC⟩
 simp -implicitDefEqProofs only [D7,List.contains_cons,List.contains_nil,Nat.reduceBEq,Bool.or_false,BC,BQ,BA,A8,AY,BB,AL,BD,AX,AC,AU,BH,AZ,oGs,bNf,D9]
 refine DR (fun k F H => ∃ j,k+j=e.args.length∧F 6 = .int .i64 (j:Nat)∧Md e c d v1 v2 h (n+1+(JL (e.args.take j)).length) (n+1+(JL (e.args.take j)).length) (n+1+(JL (e.args.take j)).length) (max dd (d+deps (e.args.take j))) (VR (VR f [e]) (JL (e.args.take j))) F H) e.args.length ⟨0,by simp,rfl,f0,f2,f4,u1,u2,s,hC⟩ ?_
 clear f0 f2 f4 s hC
 rintro k F H ⟨j,hj,f6,f0,f2,f4,u1,u2,s,hC⟩
 have hB:=hbox _ _ _ hC
 simp -implicitDefEqProofs only [D7,List.contains_cons,List.contains_nil,Nat.reduceBEq,Bool.or_false,BC,BA,BI,A8,AY,BB,AL,BD,AX,AC,AA,A7,BG,BV,BR,BK,D6,AB,DF,↓reduceIte,Nat.reduceEqDiff,Nat.zero_add,oGs,bNf,enP,ADP,OY,D9,f6,f4,lb3 _ hB,lLm]
 refine CW (fun hlt => ?_) (fun hlt => ?_)
 ·have hj':j < e.args.length:=by simpa using hlt
  have hmem:e.args[j]∈e.args:=List.getElem_mem hj'
  have hwa:=QR hmem
  have hpl:(JL (e.args.take j)).length+(pre e.args[j]).length≤wts e.args:=by
   have h1:=AHS e.args
   have h2:JL e.args=JL (e.args.take j) ++ (pre e.args[j] ++ JL (e.args.drop (j+1))):=by
    rw [← List.append_assoc,← NS _ _ hj',← PH,List.take_append_drop]
   rw [h2] at h1; simp at h1; omega
  have hsp:(JL (e.args.take j)).length+wt e.args[j]≤wts e.args:=by
   have h1:=AHS (e.args.take j)
   have h2:=AG0 e.args j hj'
   omega
  have hdt:deps (e.args.take j)≤wts e.args:=YH e.args j
  simp -implicitDefEqProofs only [D7,List.contains_cons,List.contains_nil,Nat.reduceBEq,Bool.or_false,BC,BQ,BA,BO,A8,AY,AL,BD,AX,AC,AA,A7,AU,BX,BH,BG,BV,BR,BK,CG,BZ,BU,AB,DI,lMc,lMn,lAn,↓reduceIte,Nat.reduceEqDiff,Nat.zero_add,oGs,bNf,enP,AJ9,OY,D9,f0,f2,f4,f6,lb3 _ hB,D5 hj',FO AAY WB JU hj',wrap_succ (show d < 9223372036854775807 by omega)]
  refine (ih e.args[j] hmem (by omega) H (d+1) _ _ _ u1 u2 (by omega) (by omega) (by omega) s).mono ?_
  rintro v H' ⟨w1,w2,s',hC'⟩
  simp -implicitDefEqProofs only [D7,List.contains_cons,List.contains_nil,Nat.reduceBEq,Bool.or_false,BA,A8,EF,ER,AY,BB,AL,BD,AX,AC,AA,A7,AU,BH,BG,AZ,BR,AB,DI,↓reduceIte,Nat.reduceEqDiff,oGs,bNf,enP,D9,f6,wrap_succ (show j < 9223372036854775807 by omega)]
  refine ⟨k - 1,by omega,j+1,by omega,rfl,f0,f2,f4,w1,w2,?_,hC.trans hC'⟩
  rw [NS _ _ hj',AE0 _ _ hj',AIJ,List.length_append]
  have e1:max (max dd (d+deps (e.args.take j))) (d+1+deps e.args[j].args)=max dd (d+max (deps (e.args.take j)) (dep e.args[j])):=by
   rw [AGG]; omega
  rw [e1,Nat.add_assoc (n+1)] at s'
  exact s'
 ·have hj' : ¬ j < e.args.length:=by simpa using hlt
  rw [List.take_of_length_le (by omega)] at s
  simp -implicitDefEqProofs only [DL,EC,EY,EW,AGC,↓reduceIte]
  refine ⟨u1,u2,?_,c0.trans hC⟩
  have e1:n+1+(JL e.args).length=n+(pre e).length:=by rw [pre_eq]; simp; omega
  have e2:VR (VR f [e]) (JL e.args)=VR f (pre e):=by rw [pre_eq,← AIJ]; rfl
  rw [e1,e2] at s
  exact s
theorem AZH:KU Tryz.prog 181 []=some (.agg [.int .i64 0,.int .i64 0,.int .i64 0,.sl .nil 0 [],.sl .nil 0 []]):=by kernel_rfl
theorem AYV (h:Hp):O3 h (.agg [.int .i64 0,.int .i64 0,.int .i64 0,.sl .nil 0 [],.sl .nil 0 []])=some (.ptr h.length 0 0,h ++ [.live 5 [wRow 0 0 0 (.sl .nil 0 []) (.sl .nil 0 [])]]):=YK rfl
theorem AHY (G:Nat→AV) (e:Ex) (hw:wt e≤1048576) (h:Hp) :
  ACalls (En G) 149 [.agg (ET e)] h fun v h' => ∃ c m u1 u2,v = .ptr c 0 0∧St h' c m m (pre e).length (dep e) (errs (pre e)) u1 u2∧∃ x,h'=h ++ x:=by
 refine CB (H:=Hint.none) (enM G) Tryz.func149 rfl (by kernel_rfl) (by kernel_rfl) (nLb (by kernel_rfl)) ?_
 show awp _ _ _ _ _ (EE _ [.tmp 2] _)
 simp -implicitDefEqProofs only [FT,BC,BA,A8,AY,BB,AO,AQ,AL,BD,AX,AC,AA,A7,AU,BX,BH,AUF,BG,AZ,FV,JE,BV,BZ,BU,CE,AB,BF,lMc,lMn,lAn,↓reduceIte,Nat.reduceEqDiff,oGs,bNf,enP,bxE,AZH,AYV,ML (CX (CY h _))]
 have nb : ∀ b,¬ isB (.sl .nil 0 []) b:=fun b hb=>hb
 refine (ASQ G _ e hw _ 1 0 0 0 (.sl .nil 0 []) (.sl .nil 0 []) (by omega) (by omega) (by omega) ⟨CY _ _,⟨[],by simp,.inl ⟨rfl,_,rfl⟩⟩,⟨[],by simp,.inl ⟨rfl,_,rfl⟩⟩,fun b hb=>(nb b hb).elim⟩).mono ?_
 rintro v h' ⟨u1,u2,s,hC⟩
 simp -implicitDefEqProofs only [BC,BA,BL,A8,CJ,AY,BB,AO,AQ,AL,BD,AX,AC,AA,A7,BG,AZ,↓reduceIte,Nat.reduceEqDiff,oGs,bNf]
 have e1:0+(pre e).length=(pre e).length:=Nat.zero_add _
 have e2:max 0 (1+deps e.args)=dep e:=by rw [AGG]; omega
 rw [e1,e2] at s
 refine ⟨_,_,u1,u2,rfl,s,?_⟩
 have hC2:=((Ch.app (h ++ [ABlk.live 4 [ET e]]).length (.sl .nil 0 []) (.sl .nil 0 []) h [.live 4 [ET e]]).trans (Ch.app _ _ _ _ [.live 5 [wRow 0 0 0 (.sl .nil 0 []) (.sl .nil 0 [])]])).trans hC
 refine Chg.above (c:=(h ++ [ABlk.live 4 [ET e]]).length) ⟨hC2.len,fun b hb hne=>hC2.get b hb hne (nb b) (nb b)⟩ (by simp)
theorem AAF (G:Nat→AV) (e:Ex) (h:Hp) (hw:wt e≤1048576):PCall (En G) 161 [.agg (ET e)] h (.int .i64 (exE e)):=by
 refine ACalls.pure0 rfl ?_
 refine CB (H:=Hint.none) (enM G) Tryz.func161 rfl (by kernel_rfl) (by kernel_rfl) (nLb (by kernel_rfl)) ?_
 show awp _ _ _ _ _ (EE _ [.tmp 2] _)
 simp -implicitDefEqProofs only [BC,BA,A8,AY,BB,AO,AQ,AL,BD,AX,AC,AA,A7,AU,BX,BH,AZ,FV,BV,BZ,BU,CE,AB,BF,lMc,lMn,lAn,↓reduceIte,Nat.reduceEqDiff,oGs,bNf,enP,bxE,ldE]
 refine (AHY G e hw _).mono ?_
 rintro v h' ⟨c,m,u1,u2,rfl,s,x,rfl⟩
 simp -implicitDefEqProofs only [BC,BA,A8,AY,BB,BJ,BP,CO,AO,AQ,AL,BD,AX,AC,AA,A7,AU,BH,BG,AZ,BV,BR,BK,AB,DY,↓reduceIte,Nat.zero_add,oGs,bNf,enP,X9,GR,IL,s.l2]
 rcases he:(errs (pre e) == 0) with _ | _
 ·simp -implicitDefEqProofs only [BC,BA,BO,BL,BI,A8,CJ,DU,AY,BB,BJ,BP,CO,H7,QN,AO,AQ,AL,BD,AX,AC,AA,EQ,A7,AU,BM,BG,AZ,CQ,DK,BV,BK,AB,↓reduceIte,Nat.reduceEqDiff,Nat.zero_add,oGs,bNf,enP,X9,GR,IL,s.l2]
  have:errs (pre e)≠0:=by simpa using he
  exact ⟨by unfold exE; rw [if_neg (fun hh=>this hh.1)],_,by rw [List.append_assoc]⟩
 have he0:errs (pre e)=0:=by simpa using he
 simp -implicitDefEqProofs only [BJ,BP,CO,FY,AO,AQ,AL,BD,AX,AC,AA,A7,AU,BH,BG,BV,BR,BK,AB,EZ,↓reduceIte,Nat.reduceEqDiff,Nat.zero_add,oGs,bNf,enP,AF7,GR,IL,s.l1]
 refine G5 (fun hd => ?_) (fun hd => ?_)
 ·simp -implicitDefEqProofs only [BC,BA,BL,BI,A8,CP,CJ,C9,AY,BB,BJ,BP,CO,FY,FK,AO,AQ,AL,BD,AX,AC,AA,EQ,A7,AU,BH,BM,AZ,CQ,DN,↓reduceIte,Nat.reduceEqDiff,oGs,bNf,hd]
  exact ⟨by unfold exE; rw [if_pos ⟨he0,.inl (by simp at hd; omega)⟩],_,by rw [List.append_assoc]⟩
 simp -implicitDefEqProofs only [BI,A8,AY,BB,BJ,BP,CO,FY,EK,AO,AQ,AL,BD,AX,AC,AA,A7,AU,BH,BM,BG,CQ,DN,DK,BV,BR,BK,AB,EZ,↓reduceIte,Nat.reduceEqDiff,Nat.add_zero,oGs,bNf,enP,AF8,GR,IL,hd,s.l0]
 refine CW (fun hn => ?_) (fun hn => ?_)
 ·simp -implicitDefEqProofs only [BC,BA,BL,A8,CP,CJ,AY,BB,AO,AQ,AL,BD,AX,AC,AA,AU,BH,AZ,↓reduceIte,oGs,bNf]
  exact ⟨by unfold exE; rw [if_pos ⟨he0,.inr (by simp at hn; omega)⟩],_,by rw [List.append_assoc]⟩
 ·simp -implicitDefEqProofs only [BC,BA,BO,BL,A8,CJ,AY,BB,AO,AQ,AL,BD,AX,AC,AA,A7,BG,AZ,BV,BK,AB,↓reduceIte,Nat.reduceEqDiff,Nat.zero_add,oGs,bNf,enP,X9,GR,IL,s.l2]
  exact ⟨by unfold exE; rw [if_neg (fun hh=>by simp at hn hd; omega)],_,by rw [List.append_assoc]⟩
structure Is where
 m:SM
 l:List Int
def encL (x:Is):List AV := [.sl x.m 1 (x.l.map encI)]
theorem NV (x:Is):(encL x)[0]? = some (.sl x.m 1 (x.l.map encI)):=rfl
theorem YC (x:Is):(encL x).length=1:=rfl
structure Pt where
 name:ByteArray
 ex:Ex
 bm:SM
 bins:List Bin
def FX (p:Pt):List AV := .str p.name :: (ET p.ex ++ [.sl p.bm 4 (p.bins.map GM)])
theorem AML (p:Pt):(FX p)[0]? = some (.str p.name):=rfl
theorem MC (p:Pt):(FX p)[5]? = some (.sl p.bm 4 (p.bins.map GM)):=by unfold FX; rw [OE]; rfl
theorem JC (p:Pt):(FX p).length=6:=by unfold FX; rw [OE]; rfl
theorem AEW (p:Pt):(FX p).all AV.leaf=true:=by unfold FX; rw [OE]; rfl
theorem AMK (p:Pt):((FX p).drop 1).take 4=ET p.ex:=by unfold FX; rw [OE]; rfl
theorem bxP (h:Hp) (p:Pt):O3 h (.agg (FX p))=some (.ptr h.length 0 0,h ++ [.live 6 [FX p]]):=by
 have:=YK (h:=h) (AEW p)
 rw [JC] at this; exact this
theorem AFT {h:Hp} {b:Nat} {p:Pt} (hb:h[b]? = some (.live 6 [FX p])):DZ Tryz.prog h 53 (.ptr b 0 1)=some (.agg (ET p.ex)):=by
 rw [IY AAY WB hb rfl (by rw [JC]; omega),AMK]
structure Cr where
 name:ByteArray
 pm:SM
 pts:List Int
 xm:SM
 excl:List Is
def F7 (c:Cr):List AV := [.str c.name,.sl c.pm 1 (c.pts.map encI),.sl c.xm 1 (c.excl.map encL)]
theorem AMO (c:Cr):(F7 c)[0]? = some (.str c.name):=rfl
theorem AEZ (c:Cr):(F7 c)[1]? = some (.sl c.pm 1 (c.pts.map encI)):=rfl
theorem AMN (c:Cr):(F7 c)[2]? = some (.sl c.xm 1 (c.excl.map encL)):=rfl
theorem JX (c:Cr):(F7 c).length=3:=rfl
theorem bxC (h:Hp) (c:Cr):O3 h (.agg (F7 c))=some (.ptr h.length 0 0,h ++ [.live 3 [F7 c]]):=rfl
structure Mo where
 pm:SM
 pts:List Pt
 cm:SM
 crs:List Cr
def EN (m:Mo):List AV := [.sl m.pm 6 (m.pts.map FX),.sl m.cm 3 (m.crs.map F7)]
theorem OO (m:Mo):(EN m)[0]? = some (.sl m.pm 6 (m.pts.map FX)):=rfl
theorem UR (m:Mo):(EN m)[1]? = some (.sl m.cm 3 (m.crs.map F7)):=rfl
theorem AQT (m:Mo):(EN m).length=2:=rfl
theorem bxM (h:Hp) (m:Mo):O3 h (.agg (EN m))=some (.ptr h.length 0 0,h ++ [.live 2 [EN m]]):=rfl
def ADU:List ByteArray→List ByteArray→Bool
 | _,[]=>false
 | seen,x :: xs=>IG seen x || ADU (seen ++ [x]) xs
def OJ (l:List ByteArray):Bool:=ADU [] l
theorem QA (N:List ByteArray) (i:Nat) (hi:i < N.length):ADU (N.take i) (N.drop i)=(IG (N.take i) N[i] || ADU (N.take (i+1)) (N.drop (i+1))):=by
 rw [List.drop_eq_getElem_cons hi,List.take_succ_eq_append_getElem hi]; rfl
theorem H9 {α:Type} {l:List α} {i:Nat} {hi:i < l.length} {x:α} (h:l[i]? = some x):l[i]=x:=by
 rw [List.getElem?_eq_getElem hi] at h; exact Option.some.inj h
theorem AL5 (G:Nat→AV) (x:Bin) (h:Hp):PCall (En G) 154 [.agg (GM x)] h (.str x.name):=by
 refine ACalls.pure0 rfl ?_
 refine CB (H:=Hint.none) (enM G) Tryz.func154 rfl (by kernel_rfl) (by kernel_rfl) (nLb (by kernel_rfl)) ?_
 show awp _ _ _ _ _ (EE _ [.tmp 2] _)
 simp -implicitDefEqProofs only [BC,BA,BL,A8,CJ,AY,BB,AO,AQ,AL,BD,AX,AC,AA,A7,AU,IP,AZ,FV,BV,BK,CE,AB,BF,↓reduceIte,Nat.reduceEqDiff,Nat.add_zero,oGs,bNf,enP,AA5,bxB,DC ag9,AMP]
 exact ⟨trivial,_,rfl⟩
theorem ANF (G:Nat→AV) (xs:List Bin) (m:SM) (h:Hp) (hl:xs.length≤1099511627776) :
  PCall (En G) 153 [.sl m 4 (xs.map GM),.fn (.func 154) [] []] h (.bool (OJ (xs.map (·.name)))):=by
 refine CB (H:=Hint.none) (enM G) Tryz.func153 rfl (by kernel_rfl) (by kernel_rfl) (nLb (by kernel_rfl)) ?_
 show awp _ _ _ _ _ (EE _ [.tmp 4] _)
 simp -implicitDefEqProofs only [BC,BQ,BA,A8,AY,BB,AO,AQ,AL,BD,AX,AC,AA,A7,AU,BH,BM,BG,AZ,D6,AB,BF,↓reduceIte,Nat.reduceEqDiff,oGs,bNf,enP,Q9,lLm]
 generalize hN:xs.map (·.name)=N
 have hNl:N.length=xs.length:=by rw [← hN]; simp
 have hNi : ∀ i (hi:i < xs.length),N[i]? = some xs[i].name:=fun i hi=>by rw [← hN,List.getElem?_map,List.getElem?_eq_getElem hi]; rfl
 refine DR (fun n F H => ∃ i,n+i=xs.length∧F 0 = .sl m 4 (xs.map GM)∧F 1 = .fn (.func 154) [] []∧F 8 = .int .i64 xs.length∧F 9 = .int .i64 (i:Nat)∧H=h∧OJ N=ADU (N.take i) (N.drop i)) xs.length ⟨0,by simp,by simp -implicitDefEqProofs only [AA,BF,↓reduceIte,Nat.reduceEqDiff],by simp -implicitDefEqProofs only [AA,BF,BN,↓reduceIte,Nat.reduceEqDiff],by simp -implicitDefEqProofs only [AA,↓reduceIte,Nat.reduceEqDiff],by simp -implicitDefEqProofs only [AA,↓reduceIte]; rfl,rfl,rfl⟩ ?_
 rintro n F H ⟨i,hi,f0,f1,f8,f9,rfl,hd⟩
 simp -implicitDefEqProofs only [BC,BA,BI,A8,AY,BB,AO,AQ,AL,BD,AX,AC,AA,A7,BR,AB,DF,↓reduceIte,oGs,bNf,enP,f8,f9]
 refine CW (fun hc => ?_) (fun hc => ?_)
 ·have hi':i < xs.length:=by simpa using hc
  have hdrop:=QA N i (by omega)
  rw [H9 (hNi i hi')] at hdrop
  simp -implicitDefEqProofs only [BC,BQ,BA,BO,A8,AY,BB,AO,AQ,AL,BD,AX,AC,AA,A7,AU,BH,BG,AZ,↓reduceIte,Nat.reduceEqDiff,oGs,bNf,f9]
  refine G9 2 (fun F' H'=>F' 0 = .sl m 4 (xs.map GM)∧F' 1 = .fn (.func 154) [] []∧F' 8 = .int .i64 xs.length∧F' 9 = .int .i64 (i:Nat)∧H'=H∧IG (N.take i) xs[i].name=false) (fun F' H'=>F' 4 = .bool (OJ N)∧H'=H) ?_ ?_ ?_
  ·refine DR (fun n F' H' => ∃ k,n+k=i∧F' 0 = .sl m 4 (xs.map GM)∧F' 1 = .fn (.func 154) [] []∧F' 8 = .int .i64 xs.length∧F' 9 = .int .i64 (i:Nat)∧F' 5 = .int .i64 (i:Nat)∧F' 12 = .int .i64 (i:Nat)∧F' 13 = .int .i64 (k:Nat)∧H'=H∧IG (N.take i) xs[i].name=IG ((N.take i).drop k) xs[i].name) i ⟨0,by simp,by simp -implicitDefEqProofs only [AA,↓reduceIte,Nat.reduceEqDiff,f0],by simp -implicitDefEqProofs only [AA,↓reduceIte,Nat.reduceEqDiff,f1],by simp -implicitDefEqProofs only [AA,↓reduceIte,Nat.reduceEqDiff,f8],by simp -implicitDefEqProofs only [AA,↓reduceIte,Nat.reduceEqDiff,f9],by simp -implicitDefEqProofs only [AA,↓reduceIte,Nat.reduceEqDiff],by simp -implicitDefEqProofs only [AA,↓reduceIte,Nat.reduceEqDiff],by simp -implicitDefEqProofs only [AA,↓reduceIte]; rfl,rfl,rfl⟩ ?_
   clear f0 f1 f8 f9
   rintro n' F H' ⟨k,hk,f0,f1,f8,f9,f5,f12,f13,rfl,hin⟩
   simp -implicitDefEqProofs only [BC,BA,BI,A8,AY,BB,AO,AQ,AL,BD,AX,AC,AA,A7,BR,AB,DF,↓reduceIte,oGs,bNf,enP,f12,f13]
   refine CW (fun hc => ?_) (fun hc => ?_)
   ·have hk':k < i:=by simpa using hc
    have hk2:k < xs.length:=by omega
    have hs:=KF (fun u=>xs[i].name.toList == u.toList) (N.take i) k (by rw [List.length_take]; omega)
    have hx:(N.take i)[k]'(by rw [List.length_take]; omega)=xs[k].name:=by
     rw [List.getElem_take]; exact H9 (hNi k hk2)
    rw [hx] at hs
    simp -implicitDefEqProofs only [BC,BQ,BA,BO,A8,AY,BB,AO,AQ,AL,BD,AX,AC,AA,A7,BG,AZ,↓reduceIte,Nat.reduceEqDiff,oGs,bNf,f13]
    refine FD (by kernel_rfl) ?_
    simp -implicitDefEqProofs only [F9,EH,DX,EM,FP,FQ,JA,ED,GV,GI,AO,AA,A7,BV,BR,CG,AB,lMc,lMn,lAn,↓reduceIte,Nat.reduceEqDiff,Nat.reduceAdd,oGs,enP,WQ,f0,f1,f5,D5 hi',D5 hk2,FO TN PD LW hi',FO TN PD LW hk2]
    refine ⟨_,AL5 G xs[i] _,?_⟩
    refine ⟨_,AL5 G xs[k] _,?_⟩
    try simp -implicitDefEqProofs only [DX,FC,BI,A8,AA,A7,AB,LC,↓reduceIte]
    refine CW (fun hb => ?_) (fun hb => ?_)
    ·simp -implicitDefEqProofs only [BC,BA,BL,A8,CP,D8,MR,FB,AY,BB,AO,AQ,AL,BD,AX,AC,AA,AU,BM,AZ,↓reduceIte,oGs,bNf]
     refine ⟨?_,trivial⟩
     have:IG (N.take i) xs[i].name=true:=by
      rw [hin]; unfold IG; rw [hs,hb]; rfl
     rw [hd,hdrop,this]; rfl
    ·simp -implicitDefEqProofs only [BA,BO,A8,EF,ER,AY,BB,AO,AQ,AL,BD,AX,AC,AA,A7,AU,BH,BG,BR,AB,DI,↓reduceIte,Nat.reduceEqDiff,oGs,bNf,enP,f13,wrap_succ (show k < 9223372036854775807 by omega)]
     refine ⟨n' - 1,by omega,k+1,by omega,f0,f1,f8,f9,f5,f12,rfl,trivial,?_⟩
     rw [hin]; unfold IG; rw [hs,hb]; rfl
   ·have hk' : ¬ k < i:=by simpa using hc
    simp -implicitDefEqProofs only [DL,EC,KG,EW,AA,↓reduceIte,Nat.reduceEqDiff]
    refine ⟨f0,f1,f8,f9,trivial,?_⟩
    rw [hin,List.drop_eq_nil_of_le (by rw [List.length_take]; omega)]; rfl
  ·rintro F' H' ⟨g0,g1,g8,g9,rfl,hn⟩
   simp -implicitDefEqProofs only [BA,A8,EF,EY,ER,AY,BB,AO,AQ,AL,BD,AX,AC,AA,A7,AU,BH,BG,BR,AB,DI,↓reduceIte,Nat.reduceEqDiff,oGs,bNf,enP,g9,wrap_succ (show i < 9223372036854775807 by omega)]
   refine ⟨n - 1,by omega,i+1,by omega,g0,g1,g8,rfl,trivial,?_⟩
   rw [hd,hdrop,hn]; rfl
  ·rintro F' H' ⟨g4,rfl⟩
   simp -implicitDefEqProofs only [CP,D8,FB,CJ,g4]
   exact ⟨trivial,trivial⟩
 ·have hi' : ¬ i < xs.length:=by simpa using hc
  simp -implicitDefEqProofs only [BC,BA,BL,DL,A8,EC,EY,EW,CJ,AY,BB,AO,AQ,AL,BD,AX,AC,AA,AU,BM,AZ,↓reduceIte,oGs,bNf]
  exact ⟨by rw [hd,List.drop_eq_nil_of_le (by omega)]; rfl,trivial⟩
theorem AL3 (G:Nat→AV) (x:Pt) (h:Hp):PCall (En G) 129 [.agg (FX x)] h (.str x.name):=by
 refine ACalls.pure0 rfl ?_
 refine CB (H:=Hint.none) (enM G) Tryz.func129 rfl (by kernel_rfl) (by kernel_rfl) (nLb (by kernel_rfl)) ?_
 show awp _ _ _ _ _ (EE _ [.tmp 2] _)
 simp -implicitDefEqProofs only [BC,BA,BL,A8,CJ,AY,BB,AO,AQ,AL,BD,AX,AC,AA,A7,AU,IP,AZ,FV,BV,BK,CE,AB,BF,↓reduceIte,Nat.reduceEqDiff,Nat.add_zero,oGs,bNf,enP,AF5,bxP,DC ag9,AML]
 exact ⟨trivial,_,rfl⟩
theorem ANC (G:Nat→AV) (xs:List Pt) (m:SM) (h:Hp) (hl:xs.length≤1099511627776) :
  PCall (En G) 128 [.sl m 6 (xs.map FX),.fn (.func 129) [] []] h (.bool (OJ (xs.map (·.name)))):=by
 refine CB (H:=Hint.none) (enM G) Tryz.func128 rfl (by kernel_rfl) (by kernel_rfl) (nLb (by kernel_rfl)) ?_
 show awp _ _ _ _ _ (EE _ [.tmp 4] _)
 simp -implicitDefEqProofs only [BC,BQ,BA,A8,AY,BB,AO,AQ,AL,BD,AX,AC,AA,A7,AU,BH,BM,BG,AZ,D6,AB,BF,↓reduceIte,Nat.reduceEqDiff,oGs,bNf,enP,QI,lLm]
 generalize hN:xs.map (·.name)=N
 have hNl:N.length=xs.length:=by rw [← hN]; simp
 have hNi : ∀ i (hi:i < xs.length),N[i]? = some xs[i].name:=fun i hi=>by rw [← hN,List.getElem?_map,List.getElem?_eq_getElem hi]; rfl
 refine DR (fun n F H => ∃ i,n+i=xs.length∧F 0 = .sl m 6 (xs.map FX)∧F 1 = .fn (.func 129) [] []∧F 8 = .int .i64 xs.length∧F 9 = .int .i64 (i:Nat)∧H=h∧OJ N=ADU (N.take i) (N.drop i)) xs.length ⟨0,by simp,by simp -implicitDefEqProofs only [AA,BF,↓reduceIte,Nat.reduceEqDiff],by simp -implicitDefEqProofs only [AA,BF,BN,↓reduceIte,Nat.reduceEqDiff],by simp -implicitDefEqProofs only [AA,↓reduceIte,Nat.reduceEqDiff],by simp -implicitDefEqProofs only [AA,↓reduceIte]; rfl,rfl,rfl⟩ ?_
 rintro n F H ⟨i,hi,f0,f1,f8,f9,rfl,hd⟩
 simp -implicitDefEqProofs only [BC,BA,BI,A8,AY,BB,AO,AQ,AL,BD,AX,AC,AA,A7,BR,AB,DF,↓reduceIte,oGs,bNf,enP,f8,f9]
 refine CW (fun hc => ?_) (fun hc => ?_)
 ·have hi':i < xs.length:=by simpa using hc
  have hdrop:=QA N i (by omega)
  rw [H9 (hNi i hi')] at hdrop
  simp -implicitDefEqProofs only [BC,BQ,BA,BO,A8,AY,BB,AO,AQ,AL,BD,AX,AC,AA,A7,AU,BH,BG,AZ,↓reduceIte,Nat.reduceEqDiff,oGs,bNf,f9]
  refine G9 2 (fun F' H'=>F' 0 = .sl m 6 (xs.map FX)∧F' 1 = .fn (.func 129) [] []∧F' 8 = .int .i64 xs.length∧F' 9 = .int .i64 (i:Nat)∧H'=H∧IG (N.take i) xs[i].name=false) (fun F' H'=>F' 4 = .bool (OJ N)∧H'=H) ?_ ?_ ?_
  ·refine DR (fun n F' H' => ∃ k,n+k=i∧F' 0 = .sl m 6 (xs.map FX)∧F' 1 = .fn (.func 129) [] []∧F' 8 = .int .i64 xs.length∧F' 9 = .int .i64 (i:Nat)∧F' 5 = .int .i64 (i:Nat)∧F' 12 = .int .i64 (i:Nat)∧F' 13 = .int .i64 (k:Nat)∧H'=H∧IG (N.take i) xs[i].name=IG ((N.take i).drop k) xs[i].name) i ⟨0,by simp,by simp -implicitDefEqProofs only [AA,↓reduceIte,Nat.reduceEqDiff,f0],by simp -implicitDefEqProofs only [AA,↓reduceIte,Nat.reduceEqDiff,f1],by simp -implicitDefEqProofs only [AA,↓reduceIte,Nat.reduceEqDiff,f8],by simp -implicitDefEqProofs only [AA,↓reduceIte,Nat.reduceEqDiff,f9],by simp -implicitDefEqProofs only [AA,↓reduceIte,Nat.reduceEqDiff],by simp -implicitDefEqProofs only [AA,↓reduceIte,Nat.reduceEqDiff],by simp -implicitDefEqProofs only [AA,↓reduceIte]; rfl,rfl,rfl⟩ ?_
   clear f0 f1 f8 f9
   rintro n' F H' ⟨k,hk,f0,f1,f8,f9,f5,f12,f13,rfl,hin⟩
   simp -implicitDefEqProofs only [BC,BA,BI,A8,AY,BB,AO,AQ,AL,BD,AX,AC,AA,A7,BR,AB,DF,↓reduceIte,oGs,bNf,enP,f12,f13]
   refine CW (fun hc => ?_) (fun hc => ?_)
   ·have hk':k < i:=by simpa using hc
    have hk2:k < xs.length:=by omega
    have hs:=KF (fun u=>xs[i].name.toList == u.toList) (N.take i) k (by rw [List.length_take]; omega)
    have hx:(N.take i)[k]'(by rw [List.length_take]; omega)=xs[k].name:=by
     rw [List.getElem_take]; exact H9 (hNi k hk2)
    rw [hx] at hs
    simp -implicitDefEqProofs only [BC,BQ,BA,BO,A8,AY,BB,AO,AQ,AL,BD,AX,AC,AA,A7,BG,AZ,↓reduceIte,Nat.reduceEqDiff,oGs,bNf,f13]
    refine FD (by kernel_rfl) ?_
    simp -implicitDefEqProofs only [F9,EH,DX,EM,FP,FQ,JA,ED,GV,GI,AO,AA,A7,BV,BR,CG,AB,lMc,lMn,lAn,↓reduceIte,Nat.reduceEqDiff,Nat.reduceAdd,oGs,enP,PY,f0,f1,f5,D5 hi',D5 hk2,FO AC8 YX JC hi',FO AC8 YX JC hk2]
    refine ⟨_,AL3 G xs[i] _,?_⟩
    refine ⟨_,AL3 G xs[k] _,?_⟩
    try simp -implicitDefEqProofs only [DX,FC,BI,A8,AA,A7,AB,LC,↓reduceIte]
    refine CW (fun hb => ?_) (fun hb => ?_)
    ·simp -implicitDefEqProofs only [BC,BA,BL,A8,CP,D8,MR,FB,AY,BB,AO,AQ,AL,BD,AX,AC,AA,AU,BM,AZ,↓reduceIte,oGs,bNf]
     refine ⟨?_,trivial⟩
     have:IG (N.take i) xs[i].name=true:=by
      rw [hin]; unfold IG; rw [hs,hb]; rfl
     rw [hd,hdrop,this]; rfl
    ·simp -implicitDefEqProofs only [BA,BO,A8,EF,ER,AY,BB,AO,AQ,AL,BD,AX,AC,AA,A7,AU,BH,BG,BR,AB,DI,↓reduceIte,Nat.reduceEqDiff,oGs,bNf,enP,f13,wrap_succ (show k < 9223372036854775807 by omega)]
     refine ⟨n' - 1,by omega,k+1,by omega,f0,f1,f8,f9,f5,f12,rfl,trivial,?_⟩
     rw [hin]; unfold IG; rw [hs,hb]; rfl
   ·have hk' : ¬ k < i:=by simpa using hc
    simp -implicitDefEqProofs only [DL,EC,KG,EW,AA,↓reduceIte,Nat.reduceEqDiff]
    refine ⟨f0,f1,f8,f9,trivial,?_⟩
    rw [hin,List.drop_eq_nil_of_le (by rw [List.length_take]; omega)]; rfl
  ·rintro F' H' ⟨g0,g1,g8,g9,rfl,hn⟩
   simp -implicitDefEqProofs only [BA,A8,EF,EY,ER,AY,BB,AO,AQ,AL,BD,AX,AC,AA,A7,AU,BH,BG,BR,AB,DI,↓reduceIte,Nat.reduceEqDiff,oGs,bNf,enP,g9,wrap_succ (show i < 9223372036854775807 by omega)]
   refine ⟨n - 1,by omega,i+1,by omega,g0,g1,g8,rfl,trivial,?_⟩
   rw [hd,hdrop,hn]; rfl
  ·rintro F' H' ⟨g4,rfl⟩
   simp -implicitDefEqProofs only [CP,D8,FB,CJ,g4]
   exact ⟨trivial,trivial⟩
 ·have hi' : ¬ i < xs.length:=by simpa using hc
  simp -implicitDefEqProofs only [BC,BA,BL,DL,A8,EC,EY,EW,CJ,AY,BB,AO,AQ,AL,BD,AX,AC,AA,AU,BM,AZ,↓reduceIte,oGs,bNf]
  exact ⟨by rw [hd,List.drop_eq_nil_of_le (by omega)]; rfl,trivial⟩
theorem AL4 (G:Nat→AV) (x:Cr) (h:Hp):PCall (En G) 132 [.agg (F7 x)] h (.str x.name):=by
 refine ACalls.pure0 rfl ?_
 refine CB (H:=Hint.none) (enM G) Tryz.func132 rfl (by kernel_rfl) (by kernel_rfl) (nLb (by kernel_rfl)) ?_
 show awp _ _ _ _ _ (EE _ [.tmp 2] _)
 simp -implicitDefEqProofs only [BC,BA,BL,A8,CJ,AY,BB,AO,AQ,AL,BD,AX,AC,AA,A7,AU,IP,AZ,FV,BV,BK,CE,AB,BF,↓reduceIte,Nat.reduceEqDiff,Nat.add_zero,oGs,bNf,enP,AF4,bxC,DC ag9,AMO]
 exact ⟨trivial,_,rfl⟩
theorem ANE (G:Nat→AV) (xs:List Cr) (m:SM) (h:Hp) (hl:xs.length≤1099511627776) :
  PCall (En G) 131 [.sl m 3 (xs.map F7),.fn (.func 132) [] []] h (.bool (OJ (xs.map (·.name)))):=by
 refine CB (H:=Hint.none) (enM G) Tryz.func131 rfl (by kernel_rfl) (by kernel_rfl) (nLb (by kernel_rfl)) ?_
 show awp _ _ _ _ _ (EE _ [.tmp 4] _)
 simp -implicitDefEqProofs only [BC,BQ,BA,A8,AY,BB,AO,AQ,AL,BD,AX,AC,AA,A7,AU,BH,BM,BG,AZ,D6,AB,BF,↓reduceIte,Nat.reduceEqDiff,oGs,bNf,enP,VQ,lLm]
 generalize hN:xs.map (·.name)=N
 have hNl:N.length=xs.length:=by rw [← hN]; simp
 have hNi : ∀ i (hi:i < xs.length),N[i]? = some xs[i].name:=fun i hi=>by rw [← hN,List.getElem?_map,List.getElem?_eq_getElem hi]; rfl
 refine DR (fun n F H => ∃ i,n+i=xs.length∧F 0 = .sl m 3 (xs.map F7)∧F 1 = .fn (.func 132) [] []∧F 8 = .int .i64 xs.length∧F 9 = .int .i64 (i:Nat)∧H=h∧OJ N=ADU (N.take i) (N.drop i)) xs.length ⟨0,by simp,by simp -implicitDefEqProofs only [AA,BF,↓reduceIte,Nat.reduceEqDiff],by simp -implicitDefEqProofs only [AA,BF,BN,↓reduceIte,Nat.reduceEqDiff],by simp -implicitDefEqProofs only [AA,↓reduceIte,Nat.reduceEqDiff],by simp -implicitDefEqProofs only [AA,↓reduceIte]; rfl,rfl,rfl⟩ ?_
 rintro n F H ⟨i,hi,f0,f1,f8,f9,rfl,hd⟩
 simp -implicitDefEqProofs only [BC,BA,BI,A8,AY,BB,AO,AQ,AL,BD,AX,AC,AA,A7,BR,AB,DF,↓reduceIte,oGs,bNf,enP,f8,f9]
 refine CW (fun hc => ?_) (fun hc => ?_)
 ·have hi':i < xs.length:=by simpa using hc
  have hdrop:=QA N i (by omega)
  rw [H9 (hNi i hi')] at hdrop
  simp -implicitDefEqProofs only [BC,BQ,BA,BO,A8,AY,BB,AO,AQ,AL,BD,AX,AC,AA,A7,AU,BH,BG,AZ,↓reduceIte,Nat.reduceEqDiff,oGs,bNf,f9]
  refine G9 2 (fun F' H'=>F' 0 = .sl m 3 (xs.map F7)∧F' 1 = .fn (.func 132) [] []∧F' 8 = .int .i64 xs.length∧F' 9 = .int .i64 (i:Nat)∧H'=H∧IG (N.take i) xs[i].name=false) (fun F' H'=>F' 4 = .bool (OJ N)∧H'=H) ?_ ?_ ?_
  ·refine DR (fun n F' H' => ∃ k,n+k=i∧F' 0 = .sl m 3 (xs.map F7)∧F' 1 = .fn (.func 132) [] []∧F' 8 = .int .i64 xs.length∧F' 9 = .int .i64 (i:Nat)∧F' 5 = .int .i64 (i:Nat)∧F' 12 = .int .i64 (i:Nat)∧F' 13 = .int .i64 (k:Nat)∧H'=H∧IG (N.take i) xs[i].name=IG ((N.take i).drop k) xs[i].name) i ⟨0,by simp,by simp -implicitDefEqProofs only [AA,↓reduceIte,Nat.reduceEqDiff,f0],by simp -implicitDefEqProofs only [AA,↓reduceIte,Nat.reduceEqDiff,f1],by simp -implicitDefEqProofs only [AA,↓reduceIte,Nat.reduceEqDiff,f8],by simp -implicitDefEqProofs only [AA,↓reduceIte,Nat.reduceEqDiff,f9],by simp -implicitDefEqProofs only [AA,↓reduceIte,Nat.reduceEqDiff],by simp -implicitDefEqProofs only [AA,↓reduceIte,Nat.reduceEqDiff],by simp -implicitDefEqProofs only [AA,↓reduceIte]; rfl,rfl,rfl⟩ ?_
   clear f0 f1 f8 f9
   rintro n' F H' ⟨k,hk,f0,f1,f8,f9,f5,f12,f13,rfl,hin⟩
   simp -implicitDefEqProofs only [BC,BA,BI,A8,AY,BB,AO,AQ,AL,BD,AX,AC,AA,A7,BR,AB,DF,↓reduceIte,oGs,bNf,enP,f12,f13]
   refine CW (fun hc => ?_) (fun hc => ?_)
   ·have hk':k < i:=by simpa using hc
    have hk2:k < xs.length:=by omega
    have hs:=KF (fun u=>xs[i].name.toList == u.toList) (N.take i) k (by rw [List.length_take]; omega)
    have hx:(N.take i)[k]'(by rw [List.length_take]; omega)=xs[k].name:=by
     rw [List.getElem_take]; exact H9 (hNi k hk2)
    rw [hx] at hs
    simp -implicitDefEqProofs only [BC,BQ,BA,BO,A8,AY,BB,AO,AQ,AL,BD,AX,AC,AA,A7,BG,AZ,↓reduceIte,Nat.reduceEqDiff,oGs,bNf,f13]
    refine FD (by kernel_rfl) ?_
    simp -implicitDefEqProofs only [F9,EH,DX,EM,FP,FQ,JA,ED,GV,GI,AO,AA,A7,BV,BR,CG,AB,lMc,lMn,lAn,↓reduceIte,Nat.reduceEqDiff,Nat.reduceAdd,oGs,enP,ZA,f0,f1,f5,D5 hi',D5 hk2,FO AAX XK JX hi',FO AAX XK JX hk2]
    refine ⟨_,AL4 G xs[i] _,?_⟩
    refine ⟨_,AL4 G xs[k] _,?_⟩
    try simp -implicitDefEqProofs only [DX,FC,BI,A8,AA,A7,AB,LC,↓reduceIte]
    refine CW (fun hb => ?_) (fun hb => ?_)
    ·simp -implicitDefEqProofs only [BC,BA,BL,A8,CP,D8,MR,FB,AY,BB,AO,AQ,AL,BD,AX,AC,AA,AU,BM,AZ,↓reduceIte,oGs,bNf]
     refine ⟨?_,trivial⟩
     have:IG (N.take i) xs[i].name=true:=by
      rw [hin]; unfold IG; rw [hs,hb]; rfl
     rw [hd,hdrop,this]; rfl
    ·simp -implicitDefEqProofs only [BA,BO,A8,EF,ER,AY,BB,AO,AQ,AL,BD,AX,AC,AA,A7,AU,BH,BG,BR,AB,DI,↓reduceIte,Nat.reduceEqDiff,oGs,bNf,enP,f13,wrap_succ (show k < 9223372036854775807 by omega)]
     refine ⟨n' - 1,by omega,k+1,by omega,f0,f1,f8,f9,f5,f12,rfl,trivial,?_⟩
     rw [hin]; unfold IG; rw [hs,hb]; rfl
   ·have hk' : ¬ k < i:=by simpa using hc
    simp -implicitDefEqProofs only [DL,EC,KG,EW,AA,↓reduceIte,Nat.reduceEqDiff]
    refine ⟨f0,f1,f8,f9,trivial,?_⟩
    rw [hin,List.drop_eq_nil_of_le (by rw [List.length_take]; omega)]; rfl
  ·rintro F' H' ⟨g0,g1,g8,g9,rfl,hn⟩
   simp -implicitDefEqProofs only [BA,A8,EF,EY,ER,AY,BB,AO,AQ,AL,BD,AX,AC,AA,A7,AU,BH,BG,BR,AB,DI,↓reduceIte,Nat.reduceEqDiff,oGs,bNf,enP,g9,wrap_succ (show i < 9223372036854775807 by omega)]
   refine ⟨n - 1,by omega,i+1,by omega,g0,g1,g8,rfl,trivial,?_⟩
   rw [hd,hdrop,hn]; rfl
  ·rintro F' H' ⟨g4,rfl⟩
   simp -implicitDefEqProofs only [CP,D8,FB,CJ,g4]
   exact ⟨trivial,trivial⟩
 ·have hi' : ¬ i < xs.length:=by simpa using hc
  simp -implicitDefEqProofs only [BC,BA,BL,DL,A8,EC,EY,EW,CJ,AY,BB,AO,AQ,AL,BD,AX,AC,AA,AU,BM,AZ,↓reduceIte,oGs,bNf]
  exact ⟨by rw [hd,List.drop_eq_nil_of_le (by omega)]; rfl,trivial⟩
def JG {α:Type} (f:α→Int):List α→Int
 | []=>0
 | x :: xs=>if f x=0 then JG f xs else f x
theorem NU {α:Type} (f:α→Int) (xs:List α) (k:Nat) (hk:k < xs.length):JG f (xs.drop k)=if f xs[k]=0 then JG f (xs.drop (k+1)) else f xs[k]:=by
 rw [List.drop_eq_getElem_cons hk]; rfl
def GL (p:Pt):Int :=
 if G8 p.name=false then 7 else if exE p.ex≠0 then exE p.ex else if p.bins.length=0 then 1 else if 64 < p.bins.length then 2 else
  if JG G7 p.bins≠0 then JG G7 p.bins else if OJ (p.bins.map (·.name)) then 8 else 0
structure PtOk (p:Pt):Prop where
 ex:wt p.ex≤1048576
 name:p.name.size≤1048576
 num:p.bins.length≤1048576
 bins : ∀ b∈p.bins,BinOk b
theorem AUJ (h:Hp):J3 Tryz.prog h 121=some (.ptr h.length 0 0,h ++ [.live 4 [[.str ⟨#[]⟩,.int .i64 0,.sl .nil 0 [],.sl .nil 0 []]]]):=JV (row := [.str ⟨#[]⟩,.int .i64 0,.sl .nil 0 [],.sl .nil 0 []]) (by kernel_rfl)
theorem AXL (h:Hp) (b:Bin) (row:List AV) (hr:row.length=4):FM Tryz.prog (h ++ [.live 4 [row]]) 121 (.ptr h.length 0 0) (.agg (GM b))=some (h ++ [.live 4 [GM b]]):=by
 rw [MP (U0 rfl) (by rw [LW]; exact PD) (by rw [LW,hr]; exact Nat.le_refl _)]
 have:splice row 0 (GM b)=GM b:=by unfold splice; simp [LW,hr]
 rw [this]
theorem ABX (G:Nat→AV) (hG:GOk G) (p:Pt) (hp:PtOk p) (h:Hp):PCall (En G) 97 [.agg (FX p)] h (.int .i64 (GL p)):=by
 refine ACalls.pure0 rfl ?_
 have hp1:=hp.ex
 have hp2:=hp.name
 have hp3:=hp.num
 refine CB (H:=Hint.none) (enM G) Tryz.func97 rfl (by kernel_rfl) (by kernel_rfl) (nLb (by kernel_rfl)) ?_
 show awp _ _ _ _ _ (EE _ [.tmp 2] _)
 simp -implicitDefEqProofs only [BC,BA,A8,AY,BB,AO,AQ,AL,BD,AX,AC,AA,A7,AU,BX,BH,AZ,FV,BV,BK,BZ,BU,CE,AB,BF,lMc,lMn,lAn,↓reduceIte,Nat.reduceEqDiff,Nat.add_zero,oGs,bNf,enP,AF5,bxP,DC ag9,AML]
 refine (NT G hG.kw p.name _ (by omega)).use ?_
 simp -implicitDefEqProofs only [BI,A8,AY,BB,AO,AQ,AL,BD,AX,AC,AA,A7,G6,AB,EX,↓reduceIte,oGs,bNf]
 cases h1:G8 p.name
 ·simp -implicitDefEqProofs only [BC,BA,BL,A8,CP,CJ,C9,AY,BB,AO,AQ,AL,BD,AX,AC,AA,AU,BH,AZ,↓reduceIte,oGs,bNf]
  exact ⟨by unfold GL; rw [if_pos h1],_,rfl⟩
 have h1' : ¬ G8 p.name=false:=by rw [h1]; decide
 simp -implicitDefEqProofs only [BC,BA,BO,A8,DU,AY,AO,AQ,AL,BD,AX,AC,AA,A7,BX,BV,BK,BZ,BU,AB,lMc,lMn,lAn,↓reduceIte,Nat.reduceEqDiff,Nat.zero_add,oGs,bNt,bNf,enP,ZH,AFT (CY h _)]
 refine (YA G hG p.ex _ hp1).use ?_
 simp -implicitDefEqProofs only [BC,BA,BI,A8,AY,BB,AO,AQ,AL,BD,AX,AC,AA,A7,AU,BH,BG,AZ,BR,AB,EJ,↓reduceIte,oGs,bNf,enP]
 refine CW (fun h2 => ?_) (fun h2 => ?_)
 ·simp -implicitDefEqProofs only [BC,BA,BL,A8,CP,CJ,AY,BB,AO,AQ,AL,BD,AX,AC,AA,A7,BG,AZ,↓reduceIte,Nat.reduceEqDiff,oGs,bNf]
  exact ⟨by unfold GL; rw [if_neg h1',if_pos (by simpa using h2)],_,rfl⟩
 have h2' : ¬ exE p.ex≠0:=by simpa using h2
 simp -implicitDefEqProofs only [BC,BQ,BA,BO,BI,A8,AY,BB,AO,AQ,AL,BD,AX,AC,AA,A7,AU,BH,AZ,BV,BR,BK,D6,AB,DY,↓reduceIte,Nat.reduceEqDiff,Nat.zero_add,oGs,bNf,enP,Q9,IW,DC P6,MC,lLm]
 refine CW (fun h3 => ?_) (fun h3 => ?_)
 ·simp -implicitDefEqProofs only [BC,BA,BL,A8,CP,D8,CJ,AY,BB,AO,AQ,AL,BD,AX,AC,AA,AU,BH,AZ,↓reduceIte,oGs,bNf]
  exact ⟨by unfold GL; rw [if_neg h1',if_neg h2',if_pos (by simp at h3; simpa using h3)],_,rfl⟩
 have h3' : ¬ p.bins.length=0:=by simp at h3; simpa using h3
 simp -implicitDefEqProofs only [BC,BA,BI,A8,AY,BB,AO,AQ,AL,BD,AX,AC,AA,A7,AU,BH,AZ,BV,BR,BK,D6,AB,EZ,↓reduceIte,Nat.reduceEqDiff,Nat.zero_add,oGs,bNf,enP,Q9,IW,DC P6,MC,lLm]
 refine CW (fun h4 => ?_) (fun h4 => ?_)
 ·simp -implicitDefEqProofs only [BC,BA,BL,A8,CP,D8,CJ,AY,BB,AO,AQ,AL,BD,AX,AC,AA,AU,BH,AZ,↓reduceIte,oGs,bNf]
  exact ⟨by unfold GL; rw [if_neg h1',if_neg h2',if_neg h3',if_pos (by simp at h4; omega)],_,rfl⟩
 have h4' : ¬ 64 < p.bins.length:=by simp at h4; omega
 have hpt:GL p=if JG G7 p.bins≠0 then JG G7 p.bins else if OJ (p.bins.map (·.name)) then 8 else 0:=by
  unfold GL; rw [if_neg h1',if_neg h2',if_neg h3',if_neg h4']
 simp -implicitDefEqProofs only [BC,BQ,BA,BO,A8,EF,AY,BB,AO,AQ,AL,BD,AX,AC,AA,A7,AU,BH,BG,BV,BK,D6,AB,↓reduceIte,Nat.reduceEqDiff,Nat.zero_add,oGs,bNf,enP,Q9,IW,DC P6,MC,lLm]
 refine G9 1 (fun F H=>F 1 = .ptr h.length 0 0∧H[h.length]? = some (.live 6 [FX p])∧(∃ x,H=h ++ x)∧JG G7 p.bins=0) (fun F H=>F 2 = .int .i64 (GL p)∧∃ x,H=h ++ x) ?_ ?_ ?_
 ·refine DR (fun n F H => ∃ k,n+k=p.bins.length∧F 1 = .ptr h.length 0 0∧F 28 = .sl p.bm 4 (p.bins.map GM)∧F 29 = .int .i64 p.bins.length∧F 30 = .int .i64 (k:Nat)∧H[h.length]? = some (.live 6 [FX p])∧(∃ x,H=h ++ x)∧JG G7 p.bins=JG G7 (p.bins.drop k)) p.bins.length ⟨0,by simp,by simp -implicitDefEqProofs only [AA,↓reduceIte,Nat.reduceEqDiff],by simp -implicitDefEqProofs only [AA,↓reduceIte,Nat.reduceEqDiff],by simp -implicitDefEqProofs only [AA,↓reduceIte,Nat.reduceEqDiff],by simp -implicitDefEqProofs only [AA,↓reduceIte]; rfl,CY _ _,⟨_,rfl⟩,rfl⟩ ?_
  rintro n F H ⟨k,hk,f1,f28,f29,f30,hb,⟨x,hx⟩,hf⟩
  simp -implicitDefEqProofs only [BC,BA,BI,A8,AY,BB,AO,AQ,AL,BD,AX,AC,AA,A7,BR,AB,DF,↓reduceIte,oGs,bNf,enP,f29,f30]
  refine CW (fun hc => ?_) (fun hc => ?_)
  ·have hk':k < p.bins.length:=by simpa using hc
   have hs:=NU G7 p.bins k hk'
   simp -implicitDefEqProofs only [BC,BQ,BA,BO,A8,AY,BB,AO,AQ,AL,BD,AX,AC,E8,AA,A7,BX,GG,BV,EP,CG,BZ,BU,CE,AB,DW,lMc,lMn,lAn,↓reduceIte,Nat.reduceEqDiff,oGs,bNf,enP,WQ,Option.getD_none,f28,f30,D5 hk',FO TN PD LW hk',AUJ,AXL _ _ [.str ⟨#[]⟩,.int .i64 0,.sl .nil 0 [],.sl .nil 0 []] rfl,ldB]
   refine (ABG G hG.kw p.bins[k] (hp.bins _ (List.getElem_mem hk')) _).use ?_
   simp -implicitDefEqProofs only [BC,BA,BI,A8,AY,BB,AO,AQ,AL,BD,AX,AC,AA,A7,AU,BH,BG,AZ,BR,AB,EJ,↓reduceIte,oGs,bNf,enP]
   refine CW (fun hv => ?_) (fun hv => ?_)
   ·simp -implicitDefEqProofs only [BC,BA,BL,A8,CP,D8,MR,FB,AY,BB,AO,AQ,AL,BD,AX,AC,AA,A7,BG,AZ,↓reduceIte,Nat.reduceEqDiff,oGs,bNf]
    have hv':G7 p.bins[k]≠0:=by simpa using hv
    have:JG G7 p.bins=G7 p.bins[k]:=by rw [hf,hs,if_neg hv']
    exact ⟨by rw [hpt,this,if_pos hv'],x ++ _,by rw [hx,List.append_assoc]⟩
   ·have hv':G7 p.bins[k]=0:=by simpa using hv
    simp -implicitDefEqProofs only [BA,BO,A8,EF,ER,AY,BB,AO,AQ,AL,BD,AX,AC,AA,A7,AU,BH,BG,BR,AB,DI,↓reduceIte,Nat.reduceEqDiff,oGs,bNf,enP,f30,wrap_succ (show k < 9223372036854775807 by omega)]
    exact ⟨n - 1,by omega,k+1,by omega,f1,f28,f29,rfl,CX hb,⟨x ++ _,by rw [hx,List.append_assoc]⟩,by rw [hf,hs,if_pos hv']⟩
  ·have hk' : ¬ k < p.bins.length:=by simpa using hc
   simp -implicitDefEqProofs only [DL,EC,KG,EW,AA,↓reduceIte,Nat.reduceEqDiff]
   exact ⟨f1,hb,⟨x,hx⟩,by rw [hf,List.drop_eq_nil_of_le (by omega)]; rfl⟩
 ·rintro F H ⟨f1,hb,⟨x,hx⟩,hf⟩
  have l5:DZ Tryz.prog H 54 (.ptr h.length 0 5)=some (.sl p.bm 4 (p.bins.map GM)):=by rw [DJ P6 hb (row:=FX p) rfl,MC]
  simp -implicitDefEqProofs only [BC,BA,A8,EY,AY,AO,AQ,AL,BD,AX,AC,AA,A7,BX,BV,BK,BZ,BU,AB,lMc,lMn,lAn,↓reduceIte,Nat.zero_add,oGs,bNf,enP,IW,f1,l5]
  refine (ANF G p.bins p.bm H (by omega)).use ?_
  simp -implicitDefEqProofs only [BI,A8,BB,AC,AA,A7,↓reduceIte]
  cases hd:OJ (p.bins.map (·.name))
  ·simp -implicitDefEqProofs only [BC,BA,BO,BL,A8,CJ,DU,AY,BB,AO,AQ,AL,BD,AX,AC,AA,AU,BH,AZ,↓reduceIte,oGs,bNf]
   exact ⟨by rw [hpt,hf,hd]; rfl,x,hx⟩
  ·simp -implicitDefEqProofs only [BC,BA,BL,A8,CP,CJ,C9,AY,BB,AO,AQ,AL,BD,AX,AC,AA,AU,BH,AZ,↓reduceIte,oGs,bNf]
   exact ⟨by rw [hpt,hf,hd]; rfl,x,hx⟩
 ·rintro F H ⟨f2,hx⟩
  simp -implicitDefEqProofs only [CP,D8,CJ,f2]
  exact ⟨trivial,hx⟩
theorem AEE (G:Nat→AV) (p:Pt) (hp:PtOk p) (h:Hp):PCall (En G) 102 [.agg (FX p)] h (.int .i64 (GL p)):=by
 refine ACalls.pure0 rfl ?_
 have hp1:=hp.ex
 have hp2:=hp.name
 have hp3:=hp.num
 refine CB (H:=Hint.none) (enM G) Tryz.func102 rfl (by kernel_rfl) (by kernel_rfl) (nLb (by kernel_rfl)) ?_
 show awp _ _ _ _ _ (EE _ [.tmp 2] _)
 simp -implicitDefEqProofs only [BC,BA,A8,AY,BB,AO,AQ,AL,BD,AX,AC,AA,A7,AU,BX,BH,AZ,FV,BV,BK,BZ,BU,CE,AB,BF,lMc,lMn,lAn,↓reduceIte,Nat.reduceEqDiff,Nat.add_zero,oGs,bNf,enP,AF5,bxP,DC ag9,AML]
 refine (OW G p.name _).use ?_
 simp -implicitDefEqProofs only [BI,A8,AY,BB,AO,AQ,AL,BD,AX,AC,AA,A7,G6,AB,EX,↓reduceIte,oGs,bNf]
 cases h1:G8 p.name
 ·simp -implicitDefEqProofs only [BC,BA,BL,A8,CP,CJ,C9,AY,BB,AO,AQ,AL,BD,AX,AC,AA,AU,BH,AZ,↓reduceIte,oGs,bNf]
  exact ⟨by unfold GL; rw [if_pos h1],_,rfl⟩
 have h1' : ¬ G8 p.name=false:=by rw [h1]; decide
 simp -implicitDefEqProofs only [BC,BA,BO,A8,DU,AY,AO,AQ,AL,BD,AX,AC,AA,A7,BX,BV,BK,BZ,BU,AB,lMc,lMn,lAn,↓reduceIte,Nat.reduceEqDiff,Nat.zero_add,oGs,bNt,bNf,enP,ZH,AFT (CY h _)]
 refine (AAF G p.ex _ hp1).use ?_
 simp -implicitDefEqProofs only [BC,BA,BI,A8,AY,BB,AO,AQ,AL,BD,AX,AC,AA,A7,AU,BH,BG,AZ,BR,AB,EJ,↓reduceIte,oGs,bNf,enP]
 refine CW (fun h2 => ?_) (fun h2 => ?_)
 ·simp -implicitDefEqProofs only [BC,BA,BL,A8,CP,CJ,AY,BB,AO,AQ,AL,BD,AX,AC,AA,A7,BG,AZ,↓reduceIte,Nat.reduceEqDiff,oGs,bNf]
  exact ⟨by unfold GL; rw [if_neg h1',if_pos (by simpa using h2)],_,rfl⟩
 have h2' : ¬ exE p.ex≠0:=by simpa using h2
 simp -implicitDefEqProofs only [BC,BA,BO,BI,A8,AY,BB,AO,AQ,AL,BD,AX,AC,AA,A7,AU,BH,BV,BR,BK,D6,AB,DY,↓reduceIte,Nat.reduceEqDiff,Nat.zero_add,oGs,bNf,enP,Q9,IW,DC P6,MC,lLm]
 refine CW (fun h3 => ?_) (fun h3 => ?_)
 ·simp -implicitDefEqProofs only [BC,BA,BL,A8,CP,CJ,AY,BB,AO,AQ,AL,BD,AX,AC,AA,AU,BH,AZ,↓reduceIte,oGs,bNf]
  exact ⟨by unfold GL; rw [if_neg h1',if_neg h2',if_pos (by simp at h3; simpa using h3)],_,rfl⟩
 have h3' : ¬ p.bins.length=0:=by simp at h3; simpa using h3
 simp -implicitDefEqProofs only [BC,BA,BO,BI,A8,AY,BB,AO,AQ,AL,BD,AX,AC,AA,A7,AU,BH,BV,BR,BK,D6,AB,EZ,↓reduceIte,Nat.reduceEqDiff,Nat.zero_add,oGs,bNf,enP,Q9,IW,DC P6,MC,lLm]
 refine CW (fun h4 => ?_) (fun h4 => ?_)
 ·simp -implicitDefEqProofs only [BC,BA,BL,A8,CP,CJ,AY,BB,AO,AQ,AL,BD,AX,AC,AA,AU,BH,AZ,↓reduceIte,oGs,bNf]
  exact ⟨by unfold GL; rw [if_neg h1',if_neg h2',if_neg h3',if_pos (by simp at h4; omega)],_,rfl⟩
 have h4' : ¬ 64 < p.bins.length:=by simp at h4; omega
 have hpt:GL p=if JG G7 p.bins≠0 then JG G7 p.bins else if OJ (p.bins.map (·.name)) then 8 else 0:=by
  unfold GL; rw [if_neg h1',if_neg h2',if_neg h3',if_neg h4']
 simp -implicitDefEqProofs only [BC,BQ,BA,BO,A8,AY,BB,AO,AQ,AL,BD,AX,AC,AU,BH,AZ,oGs,bNf]
 refine G9 0 (fun F H=>F 1 = .ptr h.length 0 0∧H=h ++ [.live 6 [FX p]]∧JG G7 p.bins=0) (fun F H=>F 2 = .int .i64 (GL p)∧∃ x,H=h ++ x) ?_ ?_ ?_
 ·refine DR (fun n F H => ∃ k,n+k=p.bins.length∧F 1 = .ptr h.length 0 0∧F 4 = .int .i64 (k:Nat)∧H=h ++ [.live 6 [FX p]]∧JG G7 p.bins=JG G7 (p.bins.drop k)) p.bins.length ⟨0,by simp,by simp -implicitDefEqProofs only [AA,↓reduceIte,Nat.reduceEqDiff],by simp -implicitDefEqProofs only [AA,↓reduceIte]; rfl,rfl,rfl⟩ ?_
  rintro n F H ⟨k,hk,f1,f4,rfl,hf⟩
  simp -implicitDefEqProofs only [BC,BA,BI,A8,AY,BB,AO,AQ,AL,BD,AX,AC,AA,A7,BG,BV,BR,BK,D6,AB,DF,↓reduceIte,Nat.reduceEqDiff,Nat.zero_add,oGs,bNf,enP,Q9,IW,f1,f4,DC P6,MC,lLm]
  refine CW (fun hc => ?_) (fun hc => ?_)
  ·have hk':k < p.bins.length:=by simpa using hc
   have hs:=NU G7 p.bins k hk'
   simp -implicitDefEqProofs only [BC,BQ,BA,BO,A8,AY,AO,AQ,AL,BD,AX,AC,AA,A7,BX,BG,BV,BK,CG,BZ,BU,AB,lMc,lMn,lAn,↓reduceIte,Nat.reduceEqDiff,Nat.zero_add,oGs,bNf,enP,WQ,IW,f1,f4,DC P6,MC,D5 hk',FO TN PD LW hk']
   refine (AD4 G p.bins[k] (hp.bins _ (List.getElem_mem hk')) _).use ?_
   simp -implicitDefEqProofs only [BC,BA,BI,A8,AY,BB,AO,AQ,AL,BD,AX,AC,AA,A7,AU,BH,BG,AZ,BR,AB,EJ,↓reduceIte,oGs,bNf,enP]
   refine CW (fun hv => ?_) (fun hv => ?_)
   ·simp -implicitDefEqProofs only [BC,BA,BL,A8,CP,D8,MR,FB,AY,BB,AO,AQ,AL,BD,AX,AC,AA,A7,BG,AZ,↓reduceIte,Nat.reduceEqDiff,oGs,bNf]
    have hv':G7 p.bins[k]≠0:=by simpa using hv
    have:JG G7 p.bins=G7 p.bins[k]:=by rw [hf,hs,if_neg hv']
    exact ⟨by rw [hpt,this,if_pos hv'],_,rfl⟩
   ·have hv':G7 p.bins[k]=0:=by simpa using hv
    simp -implicitDefEqProofs only [BA,BO,A8,EF,ER,AY,BB,AO,AQ,AL,BD,AX,AC,AA,A7,AU,BH,BG,AZ,BR,AB,DI,↓reduceIte,Nat.reduceEqDiff,oGs,bNf,enP,f4,wrap_succ (show k < 9223372036854775807 by omega)]
    exact ⟨n - 1,by omega,k+1,by omega,f1,rfl,trivial,by rw [hf,hs,if_pos hv']⟩
  ·have hk' : ¬ k < p.bins.length:=by simpa using hc
   simp -implicitDefEqProofs only [DL,EC,KG,EW,AA,↓reduceIte,Nat.reduceEqDiff]
   exact ⟨f1,trivial,by rw [hf,List.drop_eq_nil_of_le (by omega)]; rfl⟩
 ·rintro F H ⟨f1,rfl,hf⟩
  rw [hf,if_neg (fun hh=>hh rfl)] at hpt
  simp -implicitDefEqProofs only [BC,BQ,BA,A8,EY,AY,BB,AO,AQ,AL,BD,AX,AC,AU,BH,AZ,↓reduceIte,oGs,bNf,f1]
  generalize hN:p.bins.map (·.name)=N at hpt
  have hNl:N.length=p.bins.length:=by rw [← hN]; simp
  have hNi : ∀ i (hi:i < p.bins.length),N[i]? = some p.bins[i].name:=fun i hi=>by rw [← hN,List.getElem?_map,List.getElem?_eq_getElem hi]; rfl
  refine DR (fun n F H => ∃ i,n+i=p.bins.length∧F 1 = .ptr h.length 0 0∧F 5 = .int .i64 (i:Nat)∧H=h ++ [.live 6 [FX p]]∧OJ N=ADU (N.take i) (N.drop i)) p.bins.length ⟨0,by simp,by simp -implicitDefEqProofs only [AA,↓reduceIte,Nat.reduceEqDiff,f1],by simp -implicitDefEqProofs only [AA,↓reduceIte]; rfl,rfl,rfl⟩ ?_
  clear f1
  rintro n F H ⟨i,hi,f1,f5,rfl,hd⟩
  simp -implicitDefEqProofs only [BC,BA,BI,A8,AY,BB,AO,AQ,AL,BD,AX,AC,AA,A7,BG,BV,BR,BK,D6,AB,DF,↓reduceIte,Nat.reduceEqDiff,Nat.zero_add,oGs,bNf,enP,Q9,IW,f1,f5,DC P6,MC,lLm]
  refine CW (fun hc => ?_) (fun hc => ?_)
  ·have hi':i < p.bins.length:=by simpa using hc
   have hdrop:=QA N i (by omega)
   rw [H9 (hNi i hi')] at hdrop
   simp -implicitDefEqProofs only [BC,BQ,BA,BO,A8,AY,BB,AO,AQ,AL,BD,AX,AC,AU,BH,AZ,oGs,bNf,f5]
   refine G9 4 (fun F' H'=>F' 1 = .ptr h.length 0 0∧F' 5 = .int .i64 (i:Nat)∧H'=h ++ [.live 6 [FX p]]∧IG (N.take i) p.bins[i].name=false) (fun F' H'=>F' 2 = .int .i64 8∧H'=h ++ [.live 6 [FX p]]∧OJ N=true) ?_ ?_ ?_
   ·refine DR (fun n F' H' => ∃ k,n+k=i∧F' 1 = .ptr h.length 0 0∧F' 5 = .int .i64 (i:Nat)∧F' 6 = .int .i64 (k:Nat)∧H'=h ++ [.live 6 [FX p]]∧IG (N.take i) p.bins[i].name=IG ((N.take i).drop k) p.bins[i].name) i ⟨0,by simp,by simp -implicitDefEqProofs only [AA,↓reduceIte,Nat.reduceEqDiff,f1],by simp -implicitDefEqProofs only [AA,↓reduceIte,Nat.reduceEqDiff,f5],by simp -implicitDefEqProofs only [AA,↓reduceIte]; rfl,rfl,rfl⟩ ?_
    clear f1 f5
    rintro n' F H' ⟨k,hk,f1,f5,f6,rfl,hin⟩
    simp -implicitDefEqProofs only [BC,BA,BI,A8,AY,BB,AO,AQ,AL,BD,AX,AC,AA,A7,BG,BR,AB,DF,↓reduceIte,Nat.reduceEqDiff,oGs,bNf,enP,f5,f6]
    refine CW (fun hc => ?_) (fun hc => ?_)
    ·have hk':k < i:=by simpa using hc
     have hk2:k < p.bins.length:=by omega
     have hs:=KF (fun u=>p.bins[i].name.toList == u.toList) (N.take i) k (by rw [List.length_take]; omega)
     have hx:(N.take i)[k]'(by rw [List.length_take]; omega)=p.bins[k].name:=by
      rw [List.getElem_take]; exact H9 (hNi k hk2)
     rw [hx] at hs
     simp -implicitDefEqProofs only [BC,BQ,BO,A8]
     refine FD (by kernel_rfl) ?_
     simp -implicitDefEqProofs only [F9,EH,DX,FC,EM,FP,FQ,JA,EG,ED,BI,A8,AO,AA,A7,BV,BR,BK,CG,AB,LC,↓reduceIte,Nat.reduceEqDiff,Nat.reduceAdd,Nat.add_zero,Nat.zero_add,oGs,enP,WQ,IW,AA5,f1,f5,f6,DC P6,MC,D5 hi',D5 hk2,DT ag9 hi',DT ag9 hk2,AMP]
     refine CW (fun hb => ?_) (fun hb => ?_)
     ·simp -implicitDefEqProofs only [BC,BA,BL,A8,CP,D8,MR,FB,AY,BB,AO,AQ,AL,BD,AX,AC,AA,AU,BH,AZ,↓reduceIte,oGs,bNf]
      have:IG (N.take i) p.bins[i].name=true:=by
       rw [hin]; unfold IG; rw [hs,BEq.comm,hb]; rfl
      exact ⟨trivial,trivial,by rw [hd,hdrop,this]; rfl⟩
     ·simp -implicitDefEqProofs only [BA,BO,A8,EF,ER,AY,BB,AO,AQ,AL,BD,AX,AC,AA,A7,AU,BH,BG,AZ,BR,AB,DI,↓reduceIte,Nat.reduceEqDiff,oGs,bNf,enP,f6,wrap_succ (show k < 9223372036854775807 by omega)]
      refine ⟨n' - 1,by omega,k+1,by omega,f1,f5,rfl,trivial,?_⟩
      rw [hin]; unfold IG; rw [hs,BEq.comm,hb]; rfl
    ·have hk' : ¬ k < i:=by simpa using hc
     simp -implicitDefEqProofs only [DL,EC,KG,EW,AA,↓reduceIte,Nat.reduceEqDiff]
     refine ⟨f1,f5,trivial,?_⟩
     rw [hin,List.drop_eq_nil_of_le (by rw [List.length_take]; omega)]; rfl
   ·rintro F' H' ⟨g1,g5,rfl,hn⟩
    simp -implicitDefEqProofs only [BA,A8,EF,EY,ER,AY,BB,AO,AQ,AL,BD,AX,AC,AA,A7,AU,BH,BG,AZ,BR,AB,DI,↓reduceIte,Nat.reduceEqDiff,oGs,bNf,enP,g5,wrap_succ (show i < 9223372036854775807 by omega)]
    refine ⟨n - 1,by omega,i+1,by omega,g1,rfl,trivial,?_⟩
    rw [hd,hdrop,hn]; rfl
   ·rintro F' H' ⟨g2,rfl,hdd⟩
    simp -implicitDefEqProofs only [CP,D8,FB,CJ,g2]
    exact ⟨by rw [hpt,hdd]; rfl,_,rfl⟩
  ·have hi' : ¬ i < p.bins.length:=by simpa using hc
   simp -implicitDefEqProofs only [BC,BA,BL,DL,A8,EC,EY,EW,CJ,AY,BB,AO,AQ,AL,BD,AX,AC,AA,AU,BH,AZ,↓reduceIte,oGs,bNf]
   exact ⟨by rw [hpt,hd,List.drop_eq_nil_of_le (by omega)]; rfl,_,rfl⟩
 ·rintro F H ⟨f2,hx⟩
  simp -implicitDefEqProofs only [CP,D8,CJ,f2]
  exact ⟨trivial,hx⟩
end Go.Proofs.YtocilianjfhifaaGreatDoor.Cov
