/- Part 5 of the proof (E4, E5, E6, E7, E8, E9, E10, M1, M2, M3); no condition. -/
import Derived.Test.YtocilianjfhifaaGreatDoorW4
set_option linter.unusedVariables false
set_option linter.unusedSimpArgs false
set_option maxRecDepth 8000
namespace Go.Proofs.YtocilianjfhifaaGreatDoor.Cov
open Sm Bins Go.RowKit
theorem AT0 (l:List UInt8):(Lib.cut l [91]).1.length≤l.length:=by
 unfold Lib.cut
 split
 ·simp only [List.length_take]; exact Nat.min_le_right _ _
 ·exact Nat.le_refl _
theorem ixl {l:List UInt8} {k:Nat} {b:UInt8} {i:Int} (hi:i=(k:Int)) (hb:l[k]? = some b):NI Tryz.prog 9 (.str ⟨l.toArray⟩) (.int .i64 i)=some (.int .u8 b.toNat):=by
 subst hi
 have hk:k < l.length:=(List.getElem?_eq_some_iff.1 hb).1
 have:=ix9 ⟨l.toArray⟩ k .i64 hk
 rw [this]
 have h2:(⟨l.toArray⟩:ByteArray)[k]'hk=l[k]:=rfl
 rw [h2]
 rw [List.getElem?_eq_getElem hk] at hb
 rw [Option.some.inj hb]
theorem szl (l:List UInt8):(⟨l.toArray⟩:ByteArray).size=l.length:=rfl
theorem wrap_u8 {n:Int} (h0:0≤n) (h1:n < 256):IntKind.u8.wrap n=n:=by
 unfold IntKind.wrap; simp [IntKind.bits,IntKind.signed]; omega
theorem AFS (G:Nat→AV) (hG:GOk G) (s:ByteArray) (h:Hp) (hl:s.size≤1048576):PCall (En G) 259 [.str s] h (elemV (PN s)):=by
 refine CE (H:=Hint.none) (enM G) Tryz.func259 rfl (by kernel_rfl) (by kernel_rfl) (nLb (by kernel_rfl)) ?_
 show awp _ _ _ _ _ (EJ _ [.tmp 2,.tmp 3,.tmp 4] _)
 simp -implicitDefEqProofs only [BC,BA,A8,AY,BB,AO,AQ,AL,BD,AX,AC,AA,AZ,AU,BX,BH,BM,IX,BG,A7,BZ,BU,BF,lMc,lMn,lAn,↓reduceIte,Nat.reduceEqDiff,oGs,bNf,enP]
 refine (AQO G hG s h hl).use ?_
 have he:=AQI s
 have hal:=AT0 s.data.toList
 unfold cutV
 generalize Lib.cut s.data.toList [91]=c at he hal ⊢
 obtain ⟨a,b,f⟩:=c
 have hal2:a.length≤s.size:=by simpa using hal
 simp -implicitDefEqProofs only [List.getElem?_cons_zero,List.getElem?_cons_succ,BC,BA,A8,AY,BB,BJ,BP,CO,AO,AQ,AL,BD,AX,AC,AA,AZ,BG,A7,G6,FM,GZ,AB,EY,↓reduceIte,Nat.reduceEqDiff,oGs,bNf]
 cases f
 ·simp -implicitDefEqProofs only [BC,BA,BL,BI,A8,CQ,OB,CY,AY,BB,BJ,BP,CO,FQ,AO,AQ,AL,BD,AX,AC,AA,EP,AZ,AU,BH,BM,IX,BG,A7,CP,DN,↓reduceIte,Nat.reduceEqDiff,oGs,bNf]
  exact ⟨by rw [he]; rfl,trivial⟩
 simp -implicitDefEqProofs only [BJ,BP,CO,EM,AO,AQ,AL,BD,AX,AC,AA,AZ,BX,BG,BZ,BU,lMc,lMn,lAn,↓reduceIte,Nat.reduceEqDiff,oGs,bNt,bNf]
 refine (NQ G hG.kw ⟨a.toArray⟩ h (by rw [szl]; omega)).use ?_
 simp -implicitDefEqProofs only [AY,BJ,BP,CO,EM,AO,AQ,AL,BD,AX,AC,AA,AZ,AU,BM,BG,CP,DR,G6,AB,EY,↓reduceIte,Nat.reduceEqDiff,oGs,bNf]
 cases hn:H6 ⟨a.toArray⟩
 ·simp -implicitDefEqProofs only [BC,BA,BL,BI,A8,CQ,OB,CY,AY,BB,BJ,BP,CO,FQ,AO,AQ,AL,BD,AX,AC,AA,EP,AZ,AU,BH,BM,IX,BG,A7,CP,DN,↓reduceIte,Nat.reduceEqDiff,oGs,bNf]
  exact ⟨by rw [he]; simp [hn]; rfl,trivial⟩
 simp -implicitDefEqProofs only [AY,BJ,BP,CO,EM,AO,AQ,AL,BD,AX,AC,AA,AZ,AU,BH,BM,BG,CP,DR,BQ,DZ,AB,EG,↓reduceIte,Nat.reduceEqDiff,oGs,bNt,bNf,enP,ln9,szl]
 refine G9 (fun hb => ?_) (fun hb => ?_)
 ·simp -implicitDefEqProofs only [BC,BA,BL,BI,A8,CQ,OB,CY,AY,BB,BJ,BP,CO,FQ,AO,AQ,AL,BD,AX,AC,AA,EP,AZ,AU,BH,BM,IX,BG,A7,CP,DN,↓reduceIte,Nat.reduceEqDiff,oGs,bNf,hb]
  have hne : ∀ d y,b≠[d,y]:=by
   intro d y e; subst e; simp at hb
  have:PN s=none:=by
   rw [he]; split
   ·split
    ·rename_i hm; exact absurd hm (hne _ _)
    ·rfl
   ·rfl
  exact ⟨by rw [this]; rfl,trivial⟩
 have h2:b.length=2:=by simp at hb; omega
 match b,h2 with
 | [d,y],_ =>
   have i1:NI Tryz.prog 9 (.str ⟨[d,y].toArray⟩) (.int .i64 1)=some (.int .u8 y.toNat):=ixl (k:=1) rfl rfl
   have i0:NI Tryz.prog 9 (.str ⟨[d,y].toArray⟩) (.int .i64 0)=some (.int .u8 d.toNat):=ixl (k:=0) rfl rfl
   have he2:PN s=if (y == 93 && decide (48≤d.toNat) && decide (d.toNat < 56))=true then some (a,d) else none:=by
    rw [he]; simp [hn]
   clear he
   simp -implicitDefEqProofs only [AY,BJ,BP,CO,EM,AO,AQ,AL,BD,AX,AC,AA,AZ,AU,BH,BM,BG,CP,DR,BQ,NW,AB,EG,↓reduceIte,Nat.reduceEqDiff,oGs,bNf,enP,hb,i1,i0]
   refine G9 (fun hc => ?_) (fun hc => ?_)
   ·simp -implicitDefEqProofs only [BC,BA,BL,BI,A8,CQ,OB,CY,AY,BB,BJ,BP,CO,FQ,AO,AQ,AL,BD,AX,AC,AA,EP,AZ,AU,BH,BM,IX,BG,A7,CP,DN,↓reduceIte,Nat.reduceEqDiff,oGs,bNf,hc]
    have hy:(y == 93)=false:=by
     rw [← Bool.not_eq_true]; intro e; rw [beq_iff_eq] at e; subst e; simp at hc
    exact ⟨by rw [he2,hy]; rfl,trivial⟩
   have hy:(y == 93)=true:=by
    rw [beq_iff_eq,← UInt8.toNat_inj]
    simp at hc; show y.toNat=93; omega
   simp -implicitDefEqProofs only [AY,BJ,BP,CO,EM,AO,AQ,AL,BD,AX,AC,AA,AZ,AU,BH,BM,BG,CP,DR,BQ,NW,AB,DC,↓reduceIte,Nat.reduceEqDiff,oGs,bNf,enP,hc,i0]
   refine G9 (fun hd => ?_) (fun hd => ?_)
   ·simp -implicitDefEqProofs only [BC,BA,BL,BI,A8,CQ,OB,CY,AY,BB,BJ,BP,CO,FQ,AO,AQ,AL,BD,AX,AC,AA,EP,AZ,AU,BH,BM,IX,A7,CP,DN,↓reduceIte,Nat.reduceEqDiff,oGs,bNf,hd]
    have:decide (48≤d.toNat)=false:=by simp at hd ⊢; omega
    exact ⟨by rw [he2,this]; simp; rfl,trivial⟩
   have hd1:48≤d.toNat:=by simp at hd; omega
   simp -implicitDefEqProofs only [BI,A8,AY,BB,BJ,BP,CO,EM,AO,AQ,AL,BD,AX,AC,AA,AZ,AU,BH,BM,BG,CP,DR,BQ,NW,AB,G8,↓reduceIte,Nat.reduceEqDiff,oGs,bNf,enP,hd,i0]
   refine CV (fun hf => ?_) (fun hf => ?_)
   ·simp -implicitDefEqProofs only [BC,BA,BL,A8,CQ,OB,AY,BB,AO,AQ,AL,BD,AX,AC,AA,AU,BH,BM,IX,A7,↓reduceIte,Nat.reduceEqDiff,oGs,bNf]
    have:decide (d.toNat < 56)=false:=by simp at hf ⊢; omega
    exact ⟨by rw [he2,this]; simp; rfl,trivial⟩
   have hd2:d.toNat < 56:=by simp at hf; omega
   simp -implicitDefEqProofs only [BC,BO,A8]
   refine FB (by kernel_rfl) ?_
   simp -implicitDefEqProofs only [F8,EC,DW,FK,EF,FO,JO,IU,AOE,AEU,BL,A8,OB,AO,AA,AZ,AU,BH,BM,BQ,YL,NW,AB,JV,↓reduceIte,Nat.reduceEqDiff,Nat.reduceAdd,oGs,enP,AQN,i0,wrap_u8 (n:=(d.toNat:Int) - 48) (by omega) (by omega),wrap_i64 (n:=(d.toNat:Int) - 48) (by omega) (by omega)]
   exact ⟨by rw [he2]; simp [hy,hd1,hd2]; rfl,trivial⟩
theorem AVN {s:ByteArray} {u:Nat} {h:Hp} (hu:u≤s.size):NH Tryz.prog h 9 (.str s) none (some (.int .i64 (u:Int))) none=some (.str (s.extract 0 u)):=by
 have:Tryz.prog.underlying 9=some .string:=by kernel_rfl
 simp [NH,this,KH,hu]
theorem ATR (a b:List UInt8):(⟨(a ++ b).toArray⟩:ByteArray).extract 0 a.length=⟨a.toArray⟩:=by
 ext1
 simp
set_option maxHeartbeats 1000000 in
theorem AMP (G:Nat→AV) (s:ByteArray) (h:Hp) (hl:s.size≤1099511627776):PCall (En G) 289 [.str s] h (elemV (PN s)):=by
 refine CE (H:=Hint.none) (enM G) Tryz.func289 rfl (by kernel_rfl) (by kernel_rfl) (nLb (by kernel_rfl)) ?_
 show awp _ _ _ _ _ (EJ _ [.tmp 2,.tmp 3,.tmp 4] _)
 obtain ⟨⟨l⟩⟩:=s
 rw [szl] at hl
 rcases Nat.lt_or_ge l.length 4 with h4 | h4
 ·have hd:decide ((l.length:Int) < 4)=true:=by simp; omega
  simp -implicitDefEqProofs only [BC,BA,BL,BI,A8,CQ,OB,CY,AY,BB,BJ,BP,CO,FQ,AO,AQ,AL,BD,AX,AC,AA,EP,AZ,AU,BH,BM,IX,BG,A7,CP,DN,BQ,DZ,AB,DC,BF,↓reduceIte,Nat.reduceEqDiff,oGs,bNf,enP,ln9,szl,hd]
  have:PN ⟨l.toArray⟩=none:=by
   unfold PN; rw [if_neg]; simp; omega
  exact ⟨by rw [this]; rfl,trivial⟩
 obtain ⟨b,x,d,y,rfl⟩:=three (show 3≤l.length by omega)
 have hlen:(b ++ [x,d,y]).length=b.length+3:=by simp
 rw [hlen] at hl h4
 have hbl:0 < b.length:=by omega
 have hb:b≠[]:=List.length_pos_iff.1 hbl
 have he:=ACH (x:=x) (d:=d) (y:=y) hb
 generalize hn:H6 ⟨b.toArray⟩=nm at he
 have i1:NI Tryz.prog 9 (.str ⟨(b ++ [x,d,y]).toArray⟩) (.int .i64 ((b.length:Int)+2))=some (.int .u8 y.toNat):=ixl (k:=b.length+2) (by omega) (by simp)
 have i2:NI Tryz.prog 9 (.str ⟨(b ++ [x,d,y]).toArray⟩) (.int .i64 ((b.length:Int)+1))=some (.int .u8 d.toNat):=ixl (k:=b.length+1) (by omega) (by simp)
 have i3:NI Tryz.prog 9 (.str ⟨(b ++ [x,d,y]).toArray⟩) (.int .i64 (b.length:Int))=some (.int .u8 x.toNat):=ixl (k:=b.length) rfl (by simp)
 have i4:=AVN (s:=⟨(b ++ [x,d,y]).toArray⟩) (u:=b.length) (h:=h) (by rw [szl]; omega)
 rw [ATR] at i4
 have hsz:(⟨(b ++ [x,d,y]).toArray⟩:ByteArray).size=b.length+3:=by rw [szl,hlen]
 generalize (⟨(b ++ [x,d,y]).toArray⟩:ByteArray)=s at *
 have w1:IntKind.i64.wrap (((b.length+3:Nat):Int) - 1)=(b.length:Int)+2:=by rw [wrap_i64 (by omega) (by omega)]; omega
 have w2:IntKind.i64.wrap (((b.length+3:Nat):Int) - 2)=(b.length:Int)+1:=by rw [wrap_i64 (by omega) (by omega)]; omega
 have w3:IntKind.i64.wrap (((b.length+3:Nat):Int) - 3)=(b.length:Int):=by rw [wrap_i64 (by omega) (by omega)]; omega
 have hd8:d.toNat < 256:=d.toNat_lt
 have w4:IntKind.i64.wrap (d.toNat:Int)=(d.toNat:Int):=wrap_i64 (by omega) (by omega)
 have w5:IntKind.i64.wrap ((d.toNat:Int) - 48)=(d.toNat:Int) - 48:=wrap_i64 (by omega) (by omega)
 have ha:decide (((b.length+3:Nat):Int) < 4)=false:=by simp; omega
 simp -implicitDefEqProofs only [BC,BA,A8,AY,BB,BJ,BP,CO,EM,AO,AQ,AL,BD,AX,AC,AA,AZ,AU,BH,BM,IX,BG,A7,CP,DR,BQ,NW,DZ,AB,JV,EG,DC,BF,↓reduceIte,Nat.reduceEqDiff,oGs,bNf,enP,ln9,hsz,ha,w1,w2,w3,i1,i2,i3,i4]
 refine G9 (fun hc => ?_) (fun hc => ?_)
 ·simp -implicitDefEqProofs only [BC,BA,BL,BI,A8,CQ,OB,CY,AY,BB,BJ,BP,CO,FQ,AO,AQ,AL,BD,AX,AC,AA,EP,AZ,AU,BH,BM,IX,A7,CP,DN,↓reduceIte,Nat.reduceEqDiff,oGs,bNf,hc]
  have hy:(y == 93)=false:=by
   rw [← Bool.not_eq_true]; intro e; rw [beq_iff_eq] at e; subst e; simp at hc
  exact ⟨by rw [he,hy]; simp; rfl,trivial⟩
 have hy:(y == 93)=true:=by
  rw [beq_iff_eq,← UInt8.toNat_inj]
  simp at hc; show y.toNat=93; omega
 simp -implicitDefEqProofs only [BI,A8,AY,BB,BJ,BP,CO,EM,AO,AQ,AL,BD,AX,AC,AA,AZ,AU,BH,BM,BG,CP,DR,BQ,NW,DZ,AB,JV,EG,BF,↓reduceIte,Nat.reduceEqDiff,oGs,bNf,enP,ln9,hsz,hc,w1,w2,w3,i1,i2,i3,i4]
 refine CV (fun hd => ?_) (fun hd => ?_)
 ·simp -implicitDefEqProofs only [BC,BA,BL,A8,CQ,OB,AY,BB,AO,AQ,AL,BD,AX,AC,AA,AU,BH,BM,IX,A7,↓reduceIte,Nat.reduceEqDiff,oGs,bNf]
  have hx:(x == 91)=false:=by
   rw [← Bool.not_eq_true]; intro e; rw [beq_iff_eq] at e; subst e; simp at hd
  exact ⟨by rw [he,hx]; simp; rfl,trivial⟩
 have hx:(x == 91)=true:=by
  rw [beq_iff_eq,← UInt8.toNat_inj]
  simp at hd; show x.toNat=91; omega
 simp -implicitDefEqProofs only [Option.map_some,Option.map_none,BC,BA,BO,A8,AY,BB,BJ,BP,CO,AO,AQ,AL,BD,AX,AC,AA,AZ,AU,BH,BG,A7,BQ,YL,XG,NW,DZ,AB,JV,DC,BF,↓reduceIte,Nat.reduceEqDiff,oGs,bNf,enP,ln9,AQN,hsz,w1,w2,w3,i1,i2,i3,i4,w4,w5]
 refine G9 (fun hf => ?_) (fun hf => ?_)
 ·simp -implicitDefEqProofs only [BC,BA,BL,BI,A8,CQ,OB,CY,AY,BB,BJ,BP,CO,FQ,AO,AQ,AL,BD,AX,AC,AA,EP,AZ,AU,BH,BM,IX,BG,A7,CP,DN,↓reduceIte,Nat.reduceEqDiff,oGs,bNf,hf]
  have:decide (48≤d.toNat)=false:=by simp at hf ⊢; omega
  exact ⟨by rw [he,this]; simp; rfl,trivial⟩
 have hd1:48≤d.toNat:=by simp at hf; omega
 simp -implicitDefEqProofs only [AY,BJ,BP,CO,EM,AO,AQ,AL,BD,AX,AC,AA,AZ,AU,BH,BM,BG,CP,DR,BQ,AB,G8,↓reduceIte,Nat.reduceEqDiff,oGs,bNf,enP,hf]
 refine G9 (fun hf => ?_) (fun hf => ?_)
 ·simp -implicitDefEqProofs only [BC,BA,BL,BI,A8,CQ,OB,CY,AY,BB,BJ,BP,CO,FQ,AO,AQ,AL,BD,AX,AC,AA,EP,AZ,AU,BH,BM,IX,A7,CP,DN,↓reduceIte,Nat.reduceEqDiff,oGs,bNf,hf]
  have:decide (d.toNat < 56)=false:=by simp at hf ⊢; omega
  exact ⟨by rw [he,this]; simp; rfl,trivial⟩
 have hd2:d.toNat < 56:=by simp at hf; omega
 simp -implicitDefEqProofs only [BJ,BP,CO,EM,AO,AQ,AL,BD,AX,AC,AA,AZ,BX,BG,BZ,BU,lMc,lMn,lAn,↓reduceIte,Nat.reduceEqDiff,oGs,bNf,hf]
 refine (OY G ⟨b.toArray⟩ h).use ?_
 simp -implicitDefEqProofs only [BI,A8,AY,BB,BJ,BP,CO,EM,AO,AQ,AL,BD,AX,AC,AA,AZ,AU,BM,CP,DR,G6,AB,EY,↓reduceIte,Nat.reduceEqDiff,oGs,bNf,hn]
 cases nm
 ·simp -implicitDefEqProofs only [BC,BA,BL,A8,CQ,OB,CY,AY,BB,AO,AQ,AL,BD,AX,AC,AA,AU,BH,BM,IX,A7,↓reduceIte,Nat.reduceEqDiff,oGs,bNf]
  exact ⟨by rw [he]; simp; rfl,trivial⟩
 ·simp -implicitDefEqProofs only [BC,BA,BO,BL,A8,OB,DU,AY,BB,AO,AQ,AL,BD,AX,AC,AA,AZ,AU,BM,BG,A7,↓reduceIte,Nat.reduceEqDiff,oGs,bNt,bNf]
  exact ⟨by rw [he]; simp [hy,hx,hd1,hd2]; rfl,trivial⟩
def RG (s:ByteArray):Bool:=(PN s).isSome || H6 s
theorem ACG (o:Option (List UInt8 × UInt8)) : ∃ a n,elemV o = .tup [.str a,.int .i64 n,.bool o.isSome]:=by
 cases o with
 | none=>exact ⟨_,_,rfl⟩
 | some x=>exact ⟨_,_,rfl⟩
theorem AJT (G:Nat→AV) (hG:GOk G) (s:ByteArray) (h:Hp) (hl:s.size≤1048576):PCall (En G) 232 [.str s] h (.bool (RG s)):=by
 refine CE (H:=Hint.none) (enM G) Tryz.func232 rfl (by kernel_rfl) (by kernel_rfl) (nLb (by kernel_rfl)) ?_
 show awp _ _ _ _ _ (EJ _ [.tmp 2] _)
 simp -implicitDefEqProofs only [BC,BA,A8,AY,BB,AO,AQ,AL,BD,AX,AC,AA,AZ,AU,BX,BM,BG,A7,BZ,BU,BF,lMc,lMn,lAn,↓reduceIte,Nat.reduceEqDiff,oGs,bNf,enP]
 refine (AFS G hG s h hl).use ?_
 obtain ⟨a,n,e⟩:=ACG (PN s)
 rw [e]
 simp -implicitDefEqProofs only [List.getElem?_cons_zero,List.getElem?_cons_succ,BC,BA,A8,AY,BB,BJ,BP,CO,AO,AQ,AL,BD,AX,AC,AA,AZ,BG,A7,FM,GZ,AB,↓reduceIte,Nat.reduceEqDiff,oGs,bNf]
 cases hs:(PN s).isSome
 ·simp -implicitDefEqProofs only [BJ,BP,CO,EM,AO,AQ,AL,BD,AX,AC,AA,AZ,BX,BG,BZ,BU,BF,lMc,lMn,lAn,↓reduceIte,Nat.reduceEqDiff,oGs,bNf]
  refine (NQ G hG.kw s h (by omega)).use ?_
  simp -implicitDefEqProofs only [BL,A8,CJ,AY,BB,AO,AQ,AL,BD,AX,AC,AA,AZ,AU,BM,A7,CP,DR,↓reduceIte,Nat.reduceEqDiff,oGs,bNf]
  exact ⟨by unfold RG; rw [hs]; rfl,trivial⟩
 ·simp -implicitDefEqProofs only [BL,A8,CJ,AY,BB,BJ,BP,CO,FQ,AO,AQ,AL,BD,AX,AC,AA,EP,AZ,AU,BM,A7,CP,DN,↓reduceIte,Nat.reduceEqDiff,oGs,bNf]
  exact ⟨by unfold RG; rw [hs]; rfl,trivial⟩
theorem AM9 (G:Nat→AV) (s:ByteArray) (h:Hp) (hl:s.size≤1048576):PCall (En G) 255 [.str s] h (.bool (RG s)):=by
 refine CE (H:=Hint.none) (enM G) Tryz.func255 rfl (by kernel_rfl) (by kernel_rfl) (nLb (by kernel_rfl)) ?_
 show awp _ _ _ _ _ (EJ _ [.tmp 2] _)
 simp -implicitDefEqProofs only [BC,BA,A8,AY,BB,AO,AQ,AL,BD,AX,AC,AA,AZ,AU,BX,BM,BG,A7,BZ,BU,BF,lMc,lMn,lAn,↓reduceIte,Nat.reduceEqDiff,oGs,bNf,enP]
 refine (AMP G s h (by omega)).use ?_
 obtain ⟨a,n,e⟩:=ACG (PN s)
 rw [e]
 simp -implicitDefEqProofs only [List.getElem?_cons_zero,List.getElem?_cons_succ,BC,BA,A8,AY,BB,BJ,BP,CO,AO,AQ,AL,BD,AX,AC,AA,AZ,BG,A7,FM,GZ,AB,↓reduceIte,Nat.reduceEqDiff,oGs,bNf]
 cases hs:(PN s).isSome
 ·simp -implicitDefEqProofs only [BJ,BP,CO,EM,AO,AQ,AL,BD,AX,AC,AA,AZ,BX,BG,BZ,BU,BF,lMc,lMn,lAn,↓reduceIte,Nat.reduceEqDiff,oGs,bNf]
  refine (OY G s h).use ?_
  simp -implicitDefEqProofs only [BL,A8,CJ,AY,BB,AO,AQ,AL,BD,AX,AC,AA,AZ,AU,BM,A7,CP,DR,↓reduceIte,Nat.reduceEqDiff,oGs,bNf]
  exact ⟨by unfold RG; rw [hs]; rfl,trivial⟩
 ·simp -implicitDefEqProofs only [BL,A8,CJ,AY,BB,BJ,BP,CO,FQ,AO,AQ,AL,BD,AX,AC,AA,EP,AZ,AU,BM,A7,CP,DN,↓reduceIte,Nat.reduceEqDiff,oGs,bNf]
  exact ⟨by unfold RG; rw [hs]; rfl,trivial⟩
def TF (s:ByteArray):Bool:=s.toList == (⟨#[]⟩:ByteArray).toList
def XC (e:Ex):Bool:=decide (e.op < 1) || decide (e.op > 25)
def AF0 (e:Ex):Bool:=((e.op == 1) && (decide (e.n < 0) || decide (e.n > 65535))) || (!(e.op == 1) && !(e.n == 0))
def ADH (e:Ex):Bool:=(!KU e.op && !TF e.name) || !YU e.op e.args.length
def XB (e:Ex):Bool:=((e.op == 2) && !RG e.name) || (((e.op == 3) || (e.op == 24)) && !H6 e.name)
def KA (e:Ex):Int:=if XC e then 1 else if AF0 e then 1 else if ADH e then 1 else if XB e then 7 else 0
theorem AM4 (G:Nat→AV) (hG:GOk G) (e:Ex) (h:Hp) (hl:e.name.size≤1048576):PCall (En G) 198 [.agg (EU e)] h (.int .i64 (KA e)):=by
 refine ACalls.pure0 rfl ?_
 refine CE (H:=Hint.none) (enM G) Tryz.func198 rfl (by kernel_rfl) (by kernel_rfl) (nLb (by kernel_rfl)) ?_
 show awp _ _ _ _ _ (EJ _ [.tmp 2] _)
 simp -implicitDefEqProofs only [BC,BA,A8,AY,BB,BJ,BP,CO,AO,AQ,AL,BD,AX,AC,AA,AZ,AU,BH,BG,A7,FV,BV,BQ,BK,CB,AB,D5,BF,↓reduceIte,Nat.reduceEqDiff,Nat.add_zero,oGs,bNf,enP,IL,bxE,DI ag3,J6]
 refine RJ (fun F H=>F 3 = .bool (KU e.op)∧F 1 = .ptr h.length 0 0∧H=h ++ [.live 4 [EU e]]) ?_ ?_
 ·cases b2:(e.op == 2) <;> cases b3:(e.op == 3)
  all_goals
   simp -implicitDefEqProofs only [AY,BB,BJ,BP,CO,EM,FQ,AO,AQ,AL,BD,AX,AC,AA,EP,AZ,AU,BH,BM,BG,A7,CP,DN,DR,BV,BQ,BK,AB,D5,↓reduceIte,Nat.reduceEqDiff,Nat.add_zero,oGs,bNf,enP,IL,b2,b3,DI ag3,J6]
   exact ⟨by simp [KU,b2,b3],trivial,trivial⟩
 rintro F H ⟨f3,f1,rfl⟩
 simp -implicitDefEqProofs only [BC,BR,BA,A8,AY,BJ,BP,CO,AO,AQ,AL,BD,AX,AC,AA,AZ,AU,BH,BG,BV,BQ,BK,AB,DC,↓reduceIte,Nat.add_zero,oGs,bNf,enP,IL,f1,f3,DI ag3,J6]
 refine RJ (fun F H=>F 17 = .bool (XC e)∧F 3 = .bool (KU e.op)∧F 1 = .ptr h.length 0 0∧H=h ++ [.live 4 [EU e]]) ?_ ?_
 ·cases b2:decide (e.op < 1)
  all_goals
   simp -implicitDefEqProofs only [AY,BB,BJ,BP,CO,EM,FQ,AO,AQ,AL,BD,AX,AC,AA,EP,AZ,AU,BH,BM,A7,CP,DN,DR,BV,BQ,BK,AB,EZ,↓reduceIte,Nat.reduceEqDiff,Nat.add_zero,oGs,bNf,enP,IL,b2,f1,f3,DI ag3,J6]
   exact ⟨by simp [XC,b2],trivial,trivial,trivial⟩
 clear f1 f3
 rintro F H ⟨f17,f3,f1,rfl⟩
 simp -implicitDefEqProofs only [BI,A8,AZ,f17]
 refine CV (fun ho => ?_) (fun ho => ?_)
 ·simp -implicitDefEqProofs only [BC,BA,BL,A8,CQ,D8,CJ,AY,BB,AO,AQ,AL,BD,AX,AC,AA,AU,BH,A7,↓reduceIte,oGs,bNf]
  exact ⟨by unfold KA; rw [if_pos ho],_,rfl⟩
 simp -implicitDefEqProofs only [BC,BA,AY,BJ,BP,CO,AO,AQ,AL,BD,AX,AC,AA,AZ,AU,BH,BG,BV,BQ,BK,AB,D5,↓reduceIte,Nat.add_zero,oGs,bNf,enP,IL,f1,f3,DI ag3,J6,X8]
 refine RJ (fun F H=>F 26 = .bool (AF0 e)∧F 3 = .bool (KU e.op)∧F 1 = .ptr h.length 0 0∧H=h ++ [.live 4 [EU e]]) ?_ ?_
 ·cases b1:(e.op == 1) <;> cases b2:decide (e.n < 0) <;> cases b3:decide (e.n > 65535) <;> cases b4:(e.n == 0)
  all_goals
   simp -implicitDefEqProofs only [AY,BB,BJ,BP,CO,F7,EM,H8,FQ,QR,AO,AQ,AL,BD,AX,AC,AA,EP,AZ,AU,BH,BM,BG,A7,CP,DN,DR,BV,BQ,BK,AB,EG,DC,EZ,↓reduceIte,Nat.reduceEqDiff,Nat.add_zero,Nat.zero_add,oGs,bNt,bNf,enP,IL,Y4,bne,b1,b2,b3,b4,f1,f3,DI ag3,J6,X8]
   exact ⟨by simp [AF0,b1,b2,b3,b4],trivial,trivial,trivial⟩
 clear f1 f3 f17
 rintro F H ⟨f26,f3,f1,rfl⟩
 simp -implicitDefEqProofs only [BI,A8,AZ,f26]
 refine CV (fun hn => ?_) (fun hn => ?_)
 ·simp -implicitDefEqProofs only [BC,BA,BL,A8,CQ,D8,CJ,AY,BB,AO,AQ,AL,BD,AX,AC,AA,AU,BH,A7,↓reduceIte,oGs,bNf]
  exact ⟨by unfold KA; rw [if_neg (by simp [ho]),if_pos hn],_,rfl⟩
 simp -implicitDefEqProofs only [BC,BA,AY,BJ,BP,CO,AO,AQ,AL,BD,AX,AC,AA,AZ,BG,G6,AB,EY,↓reduceIte,oGs,bNf,f1,f3,DI ag9,PX]
 refine RJ (fun F H=>F 50 = .bool (ADH e)∧F 3 = .bool (KU e.op)∧F 1 = .ptr h.length 0 0∧H=h ++ [.live 4 [EU e]]) ?_ ?_
 ·cases bm:KU e.op <;> cases b5:TF e.name
  all_goals
   have b6:=b5
   unfold TF at b6
   simp -implicitDefEqProofs only [AY,BB,BJ,BP,CO,F7,EM,H8,FQ,AO,AQ,AL,BD,AX,AC,AA,EP,AZ,AU,BX,BM,IX,BG,A7,CP,DN,DR,BV,BQ,BK,BZ,BU,AB,ACQ,lMc,lMn,lAn,↓reduceIte,Nat.reduceEqDiff,Nat.zero_add,oGs,bNt,bNf,enP,LG,bne,bm,b6,f1,f3,DI ag9,PX,ldE]
  ·exact ⟨by simp [ADH,bm,b5],trivial,trivial,trivial⟩
  all_goals
   refine (AC5 G e _).use ?_
   simp -implicitDefEqProofs only [AY,BB,BJ,BP,CO,EM,AO,AQ,AL,BD,AX,AC,AA,AZ,AU,BM,A7,CP,DR,G6,AB,EY,↓reduceIte,Nat.reduceEqDiff,oGs,bNf,bne,bm,f1,f3]
   exact ⟨by simp [ADH,bm,b5],trivial,trivial,trivial⟩
 clear f1 f3 f26
 rintro F H ⟨f50,f3,f1,rfl⟩
 simp -implicitDefEqProofs only [BI,A8,AZ,f50]
 refine CV (fun hs => ?_) (fun hs => ?_)
 ·simp -implicitDefEqProofs only [BC,BA,BL,A8,CQ,D8,CJ,AY,BB,AO,AQ,AL,BD,AX,AC,AA,AU,BH,A7,↓reduceIte,oGs,bNf]
  exact ⟨by unfold KA; rw [if_neg (by simp [ho]),if_neg (by simp [hn]),if_pos hs],_,rfl⟩
 simp -implicitDefEqProofs only [BC,BA,AY,BJ,BP,CO,AO,AQ,AL,BD,AX,AC,AA,AZ,AU,BH,BG,BV,BQ,BK,AB,D5,↓reduceIte,Nat.add_zero,oGs,bNf,enP,IL,f1,f3,DI ag9,DI ag3,J6,PX]
 have fin : ∀ b,XB e=b→KA e=if b then 7 else 0:=by
  intro b hb
  unfold KA; rw [if_neg (by simp [ho]),if_neg (by simp [hn]),if_neg (by simp [hs]),hb]
 cases b2:(e.op == 2)
 ·simp -implicitDefEqProofs only [AY,BJ,BP,CO,EM,H8,AO,AQ,AL,BD,AX,AC,AA,EP,AZ,AU,BH,BM,BG,CP,DR,BV,BQ,BK,AB,D5,↓reduceIte,Nat.reduceEqDiff,Nat.add_zero,oGs,bNf,enP,IL,b2,f1,f3,DI ag9,DI ag3,J6,PX]
  cases b3:(e.op == 3) <;> cases b4:(e.op == 24)
  all_goals
   simp -implicitDefEqProofs only [BC,BA,BO,BL,BI,A8,EE,CJ,DU,AY,BB,BJ,BP,CO,F7,EM,H8,FQ,AO,AQ,AL,BD,AX,AC,AA,EP,AZ,AU,BX,BH,BM,BG,A7,CP,DN,DR,BV,BQ,BK,BZ,BU,AB,D5,lMc,lMn,lAn,↓reduceIte,Nat.reduceEqDiff,Nat.add_zero,Nat.zero_add,oGs,bNf,enP,IL,LG,b3,b4,f1,f3,DI ag9,DI ag3,J6,PX]
  ·exact ⟨by rw [fin false (by simp [XB,b2,b3,b4])]; rfl,_,rfl⟩
  all_goals
   refine (NQ G hG.kw e.name _ (by omega)).use ?_
   cases bi:H6 e.name
   ·simp -implicitDefEqProofs only [BC,BA,BL,BI,A8,CQ,D8,CJ,CY,AY,BB,BJ,BP,CO,F7,EM,AO,AQ,AL,BD,AX,AC,AA,AZ,AU,BH,BM,A7,CP,DN,DR,G6,AB,EY,↓reduceIte,Nat.reduceEqDiff,oGs,bNf]
    exact ⟨by rw [fin true (by simp [XB,b2,b3,b4,bi])]; rfl,_,rfl⟩
   ·simp -implicitDefEqProofs only [BC,BA,BO,BL,BI,A8,EE,CJ,DU,AY,BB,BJ,BP,CO,F7,EM,AO,AQ,AL,BD,AX,AC,AA,AZ,AU,BH,BM,A7,CP,DN,DR,G6,AB,EY,↓reduceIte,Nat.reduceEqDiff,oGs,bNt,bNf]
    exact ⟨by rw [fin false (by simp [XB,b2,b3,b4,bi])]; rfl,_,rfl⟩
 ·have e2:e.op=2:=by simpa using b2
  simp -implicitDefEqProofs only [BJ,BP,CO,F7,AO,AQ,AL,BD,AX,AC,AA,AZ,BX,BV,BK,BZ,BU,AB,lMc,lMn,lAn,↓reduceIte,Nat.reduceEqDiff,Nat.zero_add,oGs,bNf,enP,LG,b2,f1,f3,DI ag9,DI ag3,J6,PX]
  refine (AJT G hG e.name _ hl).use ?_
  cases bi:RG e.name
  ·simp -implicitDefEqProofs only [BC,BA,BL,BI,A8,CQ,D8,CJ,CY,AY,BB,BJ,BP,CO,F7,FQ,QR,AO,AQ,AL,BD,AX,AC,AA,EP,AZ,AU,BH,BM,BG,A7,CP,DN,G6,AB,EY,↓reduceIte,Nat.reduceEqDiff,oGs,bNf]
   exact ⟨by rw [fin true (by simp [XB,b2,bi])]; rfl,_,rfl⟩
  ·simp -implicitDefEqProofs only [BC,BA,BO,BL,BI,A8,EE,CJ,DU,AY,BB,BJ,BP,CO,F7,EM,H8,AO,AQ,AL,BD,AX,AC,AA,EP,AZ,AU,BH,BM,BG,A7,CP,DN,DR,BV,BQ,G6,BK,AB,D5,EY,↓reduceIte,Nat.reduceEqDiff,Nat.add_zero,oGs,bNt,bNf,enP,IL,f1,DI ag3,J6,e2,Int.reduceBEq]
   exact ⟨by rw [fin false (by simp [XB,e2,bi])]; rfl,_,rfl⟩
def ACR (e:Ex):Bool:=XC e || decide (e.n < 0) || decide (e.n > 65535) || (!(e.n == 0) && !(e.op == 1)) || (!TF e.name && !KU e.op)
def AIN (op:Int) (n:Nat):Bool:=((op == 23) && (decide ((n:Int) < 3) || decide ((n:Int) > 33) || ((n:Int) % 2 == 0))) || (!(op == 23) && !((n:Int) == arity op))
theorem AT8 (op:Int) (n:Nat):AIN op n = !YU op n:=by
 unfold AIN YU
 rcases hc:(op == 23) with _ | _
 ·simp
 ·have h1:decide ((n:Int) < 3) = !decide ((n:Int)≥3):=by rw [Bool.eq_iff_iff]; simp
  have h2:decide ((n:Int) > 33) = !decide ((n:Int)≤33):=by rw [Bool.eq_iff_iff]; simp
  have h3:((n:Int) % 2 == 0) = !((n:Int) % 2 == 1):=by rw [Bool.eq_iff_iff]; simp; omega
  rw [h1,h2,h3]
  cases ((n:Int) % 2 == 1) <;> cases decide ((n:Int)≥3) <;> cases decide ((n:Int)≤33) <;> rfl
theorem AT9 (e:Ex):(ACR e || AIN e.op e.args.length)=(XC e || AF0 e || ADH e):=by
 rw [AT8]
 unfold ACR AF0 ADH
 rcases h1:(e.op == 1) with _ | _
 ·rcases h2:(e.n == 0) with _ | _
  ·simp
  ·have h3:decide (e.n < 0)=false:=by simp at h2 ⊢; omega
   have h4:decide (e.n > 65535)=false:=by simp at h2 ⊢; omega
   rw [h3,h4]
   cases XC e <;> cases TF e.name <;> cases KU e.op <;> cases YU e.op e.args.length <;> rfl
 ·cases XC e <;> cases TF e.name <;> cases KU e.op <;> cases YU e.op e.args.length <;> cases decide (e.n < 0) <;> cases decide (e.n > 65535) <;> cases (e.n == 0) <;> rfl
theorem YV (e:Ex):KA e=if ACR e then 1 else if AIN e.op e.args.length then 1 else if XB e then 7 else 0:=by
 have:=AT9 e
 unfold KA
 revert this
 cases ACR e <;> cases AIN e.op e.args.length <;> cases XC e <;> cases AF0 e <;> cases ADH e <;> simp
set_option maxHeartbeats 1000000 in
theorem AME (G:Nat→AV) (e:Ex) (h:Hp) (hl:e.name.size≤1048576):PCall (En G) 225 [.agg (EU e)] h (.int .i64 (KA e)):=by
 refine ACalls.pure0 rfl ?_
 refine CE (H:=Hint.none) (enM G) Tryz.func225 rfl (by kernel_rfl) (by kernel_rfl) (nLb (by kernel_rfl)) ?_
 show awp _ _ _ _ _ (EJ _ [.tmp 2] _)
 simp -implicitDefEqProofs only [BC,BA,A8,AY,BB,BJ,BP,CO,AO,AQ,AL,BD,AX,AC,AA,AZ,AU,BH,BG,A7,FV,BV,BQ,BK,CB,AB,DC,BF,↓reduceIte,Nat.reduceEqDiff,Nat.add_zero,oGs,bNf,enP,IL,bxE,DI ag3,J6]
 refine RJ (fun F H=>F 42 = .bool (ACR e)∧F 1 = .ptr h.length 0 0∧H=h ++ [.live 4 [EU e]]) ?_ ?_
 ·cases b1:decide (e.op < 1)
  case true =>
   simp -implicitDefEqProofs only [AY,BB,BJ,BP,CO,FQ,QR,AO,AQ,AL,BD,AX,AC,AA,EP,AZ,AU,BM,BG,CP,DN,↓reduceIte,Nat.reduceEqDiff,oGs,bNf,b1]
   exact ⟨by simp [ACR,XC,b1],trivial,trivial⟩
  simp -implicitDefEqProofs only [AY,BJ,BP,CO,EM,AO,AQ,AL,BD,AX,AC,AA,AZ,AU,BH,BM,BG,CP,DR,BV,BQ,BK,AB,EZ,↓reduceIte,Nat.reduceEqDiff,Nat.add_zero,oGs,bNf,enP,IL,b1,DI ag3,J6,X8]
  cases b2:decide (e.op > 25)
  case true =>
   simp -implicitDefEqProofs only [AY,BB,BJ,BP,CO,FQ,QR,AO,AQ,AL,BD,AX,AC,AA,EP,AZ,AU,BM,BG,CP,DN,↓reduceIte,Nat.reduceEqDiff,oGs,bNf,b2]
   exact ⟨by simp [ACR,XC,b2],trivial,trivial⟩
  simp -implicitDefEqProofs only [AY,BJ,BP,CO,EM,AO,AQ,AL,BD,AX,AC,AA,AZ,AU,BH,BM,BG,CP,DR,BV,BQ,BK,AB,DC,↓reduceIte,Nat.reduceEqDiff,Nat.zero_add,oGs,bNf,enP,Y4,b2,DI ag3,J6,X8]
  have bO:XC e=false:=by unfold XC; rw [b1,b2]; rfl
  cases b3:decide (e.n < 0)
  case true =>
   simp -implicitDefEqProofs only [AY,BB,BJ,BP,CO,FQ,QR,AO,AQ,AL,BD,AX,AC,AA,EP,AZ,AU,BM,BG,CP,DN,↓reduceIte,Nat.reduceEqDiff,oGs,bNf,b3]
   exact ⟨by simp only [ACR,b3]; simp,trivial,trivial⟩
  simp -implicitDefEqProofs only [AY,BJ,BP,CO,EM,AO,AQ,AL,BD,AX,AC,AA,AZ,AU,BH,BM,BG,CP,DR,BV,BQ,BK,AB,EZ,↓reduceIte,Nat.reduceEqDiff,Nat.zero_add,oGs,bNf,enP,Y4,b3,DI ag3,J6,X8]
  cases b4:decide (e.n > 65535)
  case true =>
   simp -implicitDefEqProofs only [AY,BB,BJ,BP,CO,FQ,QR,AO,AQ,AL,BD,AX,AC,AA,EP,AZ,AU,BM,BG,CP,DN,↓reduceIte,Nat.reduceEqDiff,oGs,bNf,b4]
   exact ⟨by simp only [ACR,b4]; simp,trivial,trivial⟩
  simp -implicitDefEqProofs only [BJ,BP,CO,EM,AO,AQ,AL,BD,AX,AC,AA,AZ,AU,BH,BG,BV,BQ,BK,AB,EG,↓reduceIte,Nat.reduceEqDiff,Nat.zero_add,oGs,bNf,enP,Y4,b4,bne,DI ag3,DI ag9,J6,X8,PX]
  have fin : ∀ b,((!(e.n == 0) && !(e.op == 1)) || (!TF e.name && !KU e.op))=b→ACR e=b:=by
   intro b hb
   unfold ACR; rw [bO,b3,b4]; simpa using hb
  cases b5:(e.n == 0) <;> cases b6:(e.op == 1) <;> cases b7:TF e.name
  all_goals
   have b8:=b7
   unfold TF at b8
   simp -implicitDefEqProofs only [AY,BB,BJ,BP,CO,F7,EM,H8,FQ,QR,AO,AQ,AL,BD,AX,AC,AA,EP,AZ,AU,BX,BH,BM,IX,BG,CP,DN,DR,BV,BQ,BK,BZ,BU,AB,EG,ACQ,lMc,lMn,lAn,↓reduceIte,Nat.reduceEqDiff,Nat.add_zero,Nat.zero_add,oGs,bNt,bNf,enP,IL,LG,bne,b5,b6,b8,DI ag3,DI ag9,J6,X8,PX]
  all_goals first
   | exact ⟨by rw [fin _ rfl]; simp [b5,b6,b7],trivial,trivial⟩
   | refine (VP G e.op _).use ?_
     simp -implicitDefEqProofs only [AY,BB,BJ,BP,CO,F7,EM,AO,AQ,AL,BD,AX,AC,AA,AZ,AU,BM,CP,DN,DR,G6,AB,EY,↓reduceIte,Nat.reduceEqDiff,oGs,bNf]
     exact ⟨by rw [fin _ rfl]; simp [b5,b6,b7],trivial,trivial⟩
 rintro F H ⟨f42,f1,rfl⟩
 simp -implicitDefEqProofs only [BI,A8,AZ,f42]
 refine CV (fun ho => ?_) (fun ho => ?_)
 ·simp -implicitDefEqProofs only [BC,BA,BL,A8,CQ,CJ,AY,BB,AO,AQ,AL,BD,AX,AC,AA,AU,BH,A7,↓reduceIte,oGs,bNf]
  exact ⟨by rw [YV,if_pos ho],_,rfl⟩
 simp -implicitDefEqProofs only [BC,BA,BO,A8,AY,BB,BJ,BP,CO,AO,AQ,AL,BD,AX,AC,AA,AZ,AU,BH,BG,A7,BV,BQ,BK,DZ,AB,D5,↓reduceIte,Nat.reduceEqDiff,Nat.add_zero,Nat.zero_add,oGs,bNf,enP,AC6,IL,O1,f1,DI ag3,DI AF5,J6,X7,lLm]
 generalize hn:e.args.length=n
 have hm:(n:Int).tmod 2=(n:Int) % 2:=Int.tmod_eq_emod_of_nonneg (by omega)
 have br:JB Tryz.prog 3 .rem (.int .i64 (n:Int)) (.int .i64 2)=some (.int .i64 ((n:Int) % 2)):=by rw [AA0 _ _ _ _ _ (by decide),hm]
 refine RJ (fun F H=>F 73 = .bool (AIN e.op n)∧F 1 = .ptr h.length 0 0∧H=h ++ [.live 4 [EU e]]) ?_ ?_
 ·cases b1:(e.op == 23)
  ·simp -implicitDefEqProofs only [AY,BJ,BP,CO,F7,EM,H8,QR,AO,AQ,AL,BD,AX,AC,AA,EP,AZ,AU,BX,BH,BM,BG,CP,DR,BV,BQ,BK,BZ,BU,AB,EG,lMc,lMn,lAn,↓reduceIte,Nat.reduceEqDiff,Nat.add_zero,oGs,bNf,enP,IL,bne,b1,f1,DI ag3,J6]
   refine (ANZ G e.op _).use ?_
   simp -implicitDefEqProofs only [AY,BB,BJ,BP,CO,F7,EM,AO,AQ,AL,BD,AX,AC,AA,AZ,AU,BM,CP,DN,DR,BQ,AB,EG,↓reduceIte,Nat.reduceEqDiff,oGs,bNf,enP,bne]
   exact ⟨by unfold AIN; rw [b1]; simp,f1,trivial⟩
  ·cases b2:decide ((n:Int) < 3) <;> cases b3:decide ((n:Int) > 33) <;> cases b4:((n:Int) % 2 == 0)
   all_goals
    simp -implicitDefEqProofs only [AY,BB,BJ,BP,CO,F7,EM,H8,FQ,QR,AO,AQ,AL,BD,AX,AC,AA,EP,AZ,AU,BH,BM,BG,CP,DN,DR,BV,BQ,BK,AB,D5,EG,DC,EZ,↓reduceIte,Nat.reduceEqDiff,Nat.add_zero,oGs,bNt,bNf,enP,IL,bne,b1,b2,b3,b4,br,f1,DI ag3,J6]
    exact ⟨by unfold AIN; rw [b1,b2,b3,b4]; simp,trivial,trivial⟩
 clear f1 f42
 rintro F H ⟨f73,f1,rfl⟩
 simp -implicitDefEqProofs only [BI,A8,AZ,f73]
 subst hn
 refine CV (fun hs => ?_) (fun hs => ?_)
 ·simp -implicitDefEqProofs only [BC,BA,BL,A8,CQ,CJ,AY,BB,AO,AQ,AL,BD,AX,AC,AA,AU,BH,A7,↓reduceIte,oGs,bNf]
  exact ⟨by rw [YV,if_neg (by simp [ho]),if_pos hs],_,rfl⟩
 simp -implicitDefEqProofs only [BC,BA,BO,A8,AY,BJ,BP,CO,AO,AQ,AL,BD,AX,AC,AA,AZ,AU,BH,BG,BV,BQ,BK,AB,D5,↓reduceIte,Nat.add_zero,oGs,bNf,enP,IL,f1,DI ag3,DI ag9,J6,PX]
 have fin : ∀ b,XB e=b→KA e=if b then 7 else 0:=by
  intro b hb
  rw [YV,if_neg (by simp [ho]),if_neg (by simp [hs]),hb]
 cases b2:(e.op == 2)
 ·simp -implicitDefEqProofs only [AY,BJ,BP,CO,EM,H8,AO,AQ,AL,BD,AX,AC,AA,EP,AZ,AU,BX,BM,BG,CP,DR,BV,BK,BZ,BU,AB,lMc,lMn,lAn,↓reduceIte,Nat.reduceEqDiff,Nat.add_zero,oGs,bNf,enP,IL,b2,f1,DI ag9,DI ag3,J6,PX]
  refine (VP G e.op _).use ?_
  cases bm:KU e.op
  ·have hv:XB e=false:=by
    unfold KU at bm; simp only [Bool.or_eq_false_iff] at bm
    simp [XB,bm.1.1,bm.1.2,bm.2]
   simp -implicitDefEqProofs only [BC,BA,BO,BL,BI,A8,CJ,DU,AY,BB,BJ,BP,CO,EM,H8,AO,AQ,AL,BD,AX,AC,AA,EP,AZ,AU,BH,BM,BG,A7,CP,DR,↓reduceIte,Nat.reduceEqDiff,oGs,bNf]
   exact ⟨by rw [fin false hv]; rfl,_,rfl⟩
  have hv:XB e = !H6 e.name:=by
   unfold KU at bm; rw [b2] at bm; simp only [Bool.false_or] at bm
   unfold XB; rw [b2,bm]; simp
  simp -implicitDefEqProofs only [BJ,BP,CO,F7,EM,AO,AQ,AL,BD,AX,AC,AA,AZ,AU,BX,BH,BM,BG,CP,DN,BV,BQ,BK,BZ,BU,AB,EG,lMc,lMn,lAn,↓reduceIte,Nat.reduceEqDiff,Nat.add_zero,Nat.zero_add,oGs,bNf,enP,IL,LG,bne,b2,f1,DI ag9,DI ag3,J6,PX]
  refine (OY G e.name _).use ?_
  cases bi:H6 e.name
  ·simp -implicitDefEqProofs only [BC,BA,BL,BI,A8,CQ,CJ,CY,AY,BB,BJ,BP,CO,F7,EM,AO,AQ,AL,BD,AX,AC,AA,AZ,AU,BH,BM,A7,CP,DN,DR,G6,AB,EY,↓reduceIte,Nat.reduceEqDiff,oGs,bNf]
   exact ⟨by rw [fin true (by rw [hv,bi]; rfl)]; rfl,_,rfl⟩
  ·simp -implicitDefEqProofs only [BC,BA,BO,BL,BI,A8,CJ,DU,AY,BB,BJ,BP,CO,F7,EM,AO,AQ,AL,BD,AX,AC,AA,AZ,AU,BH,BM,A7,CP,DN,DR,G6,AB,EY,↓reduceIte,Nat.reduceEqDiff,oGs,bNt,bNf]
   exact ⟨by rw [fin false (by rw [hv,bi]; rfl)]; rfl,_,rfl⟩
 ·have e2:e.op=2:=by simpa using b2
  have hv:XB e = !RG e.name:=by
   unfold XB; rw [e2]; simp
  simp -implicitDefEqProofs only [BJ,BP,CO,F7,AO,AQ,AL,BD,AX,AC,AA,AZ,BX,BV,BK,BZ,BU,AB,lMc,lMn,lAn,↓reduceIte,Nat.reduceEqDiff,Nat.zero_add,oGs,bNf,enP,LG,b2,f1,DI ag9,DI ag3,J6,PX]
  refine (AM9 G e.name _ hl).use ?_
  cases bi:RG e.name
  ·simp -implicitDefEqProofs only [BC,BA,BL,BI,A8,CQ,CJ,CY,AY,BB,BJ,BP,CO,F7,FQ,QR,AO,AQ,AL,BD,AX,AC,AA,EP,AZ,AU,BH,BM,BG,A7,CP,DN,G6,AB,EY,↓reduceIte,Nat.reduceEqDiff,oGs,bNf]
   exact ⟨by rw [fin true (by rw [hv,bi]; rfl)]; rfl,_,rfl⟩
  ·simp -implicitDefEqProofs only [AY,BJ,BP,CO,F7,EM,AO,AQ,AL,BD,AX,AC,AA,AZ,AU,BX,BM,BG,CP,DN,BV,G6,BK,BZ,BU,AB,EY,lMc,lMn,lAn,↓reduceIte,Nat.reduceEqDiff,Nat.add_zero,oGs,bNt,bNf,enP,IL,f1,DI ag3,J6]
   refine (VP G e.op _).use ?_
   have bm:KU e.op=true:=by rw [e2]; rfl
   simp -implicitDefEqProofs only [BC,BA,BO,BL,BI,A8,CJ,DU,AY,BB,BJ,BP,CO,F7,EM,H8,AO,AQ,AL,BD,AX,AC,AA,EP,AZ,AU,BH,BM,BG,A7,CP,DN,DR,BV,BQ,BK,AB,EG,↓reduceIte,Nat.reduceEqDiff,Nat.add_zero,oGs,bNt,bNf,enP,IL,bne,bm,f1,DI ag3,J6,b2]
   exact ⟨by rw [fin false (by rw [hv,bi]; rfl)]; rfl,_,rfl⟩
theorem AEO:KY Tryz.prog 196=some false:=by kernel_rfl
theorem AUT:szO Tryz.prog 196=some 1:=by kernel_rfl
theorem AUG (h:Hp):J9 Tryz.prog h 53=some (.ptr h.length 0 0,h ++ [.live 4 [[.int .i64 0,.int .i64 0,.str ⟨#[]⟩,.sl .nil 0 []]]]):=JZ (row := [.int .i64 0,.int .i64 0,.str ⟨#[]⟩,.sl .nil 0 []]) (by kernel_rfl)
theorem AR9 (h:Hp) (e:Ex) (row:List AV) (hr:row.length=4):FX Tryz.prog (h ++ [.live 4 [row]]) 53 (.ptr h.length 0 0) (.agg (EU e))=some (h ++ [.live 4 [EU e]]):=by
 rw [MP (VE (AEF e)) (by rw [JX]; exact WI) (by rw [JX,hr]; exact Nat.le_refl _)]
 have:splice row 0 (EU e)=EU e:=by unfold splice; simp [JX,hr]
 rw [this]
theorem A0V (h:Hp):J9 Tryz.prog h 38=some (.ptr h.length 0 0,h ++ [.live 1 [[.int .i64 0]]]):=JZ (row := [.int .i64 0]) (by kernel_rfl)
theorem al3 (h:Hp):J9 Tryz.prog h 3=some (.ptr h.length 0 0,h ++ [.live 1 [[.int .i64 0]]]):=JZ (row := [.int .i64 0]) (by kernel_rfl)
theorem AU9 (h:Hp):J9 Tryz.prog h 196=some (.ptr h.length 0 0,h ++ [.live 1 [[.nilfn]]]):=JZ (row := [.nilfn]) (by kernel_rfl)
theorem JU {h:Hp} {t:TypeId} {b:Nat} {v:AV} (hag:KY Tryz.prog t=some false) (hb:h[b]? = some (.live 1 [[v]])):D7 Tryz.prog h t (.ptr b 0 0)=some v:=by
 rw [DL hag hb (row := [v]) rfl]; rfl
theorem QW {h:Hp} {t:TypeId} {b:Nat} {v u:AV} (hs:szO Tryz.prog t=some 1) (hc:JF u=some [u]) (hb:h[b]? = some (.live 1 [[v]])):FX Tryz.prog h t (.ptr b 0 0) u=some (h.set b (.live 1 [[u]])):=by
 rw [KC hc hs hb (row := [v]) rfl (by simp)]; rfl
theorem A0O (h:Hp) (f:Fn) (a b:List AV):PQ h (.fn f a b)=some (.ptr h.length 0 0,h ++ [.live 1 [[.fn f a b]]]):=rfl
def Chg (c:Nat) (h h':Hp):Prop:=h.length≤h'.length∧∀ b,b < h.length→b≠c→h'[b]? = h[b]?
theorem Chg.refl (c:Nat) (h:Hp):Chg c h h:=⟨Nat.le_refl _,fun _ _ _=>rfl⟩
theorem Chg.trans {c:Nat} {a b d:Hp} (h1:Chg c a b) (h2:Chg c b d):Chg c a d :=
 ⟨Nat.le_trans h1.1 h2.1,fun i hi hc=>by rw [h2.2 i (Nat.lt_of_lt_of_le hi h1.1) hc,h1.2 i hi hc]⟩
theorem Chg.app (c:Nat) (h x:Hp):Chg c h (h ++ x):=⟨by simp,fun i hi _=>List.getElem?_append_left hi⟩
theorem Chg.set (c:Nat) (h:Hp) (x:ABlk):Chg c h (h.set c x):=⟨by simp,fun i _ hc=>by rw [List.getElem?_set,if_neg (fun e=>hc e.symm)]⟩
theorem Chg.get {c b:Nat} {h h':Hp} {x:ABlk} (hc:Chg c h h') (hb:h[b]? = some x) (hne:b≠c):h'[b]? = some x:=by
 rw [hc.2 b (CU hb) hne]; exact hb
theorem Chg.above {c:Nat} {h h':Hp} (hc:Chg c h h') (hl:h.length≤c) : ∃ x,h'=h ++ x:=by
 refine ⟨h'.drop h.length,?_⟩
 have:h'.take h.length=h:=by
  refine List.ext_getElem? fun i => ?_
  rcases Nat.lt_or_ge i h.length with hi | hi
  ·rw [List.getElem?_take_of_lt hi,hc.2 i hi (by omega)]
  ·rw [List.getElem?_eq_none (by rw [List.length_take]; omega),List.getElem?_eq_none hi]
 conv=>lhs; rw [← List.take_append_drop h.length h',this]
def run (upd:Ex→Int→Int) (cont:Int→Bool):List Ex→Int→Int × Bool
 | [],z=>(z,true)
 | e :: es,z=>if cont (upd e z) then run upd cont es (upd e z) else (upd e z,false)
theorem run_go {upd:Ex→Int→Int} {cont:Int→Bool} : ∀ {xs:List Ex} (ys:List Ex) {z z':Int},run upd cont xs z=(z',true)→run upd cont (xs ++ ys) z=run upd cont ys z'
 | [],ys,z,z',h=>by cases h; rfl
 | x :: xs,ys,z,z',h=>by
   simp only [run,List.cons_append] at h ⊢
   split at h
   ·rename_i hc; rw [if_pos hc]; exact run_go ys h
   ·cases h
theorem run_stop {upd:Ex→Int→Int} {cont:Int→Bool} : ∀ {xs:List Ex} (ys:List Ex) {z z':Int},run upd cont xs z=(z',false)→run upd cont (xs ++ ys) z=(z',false)
 | [],ys,z,z',h=>by cases h
 | x :: xs,ys,z,z',h=>by
   simp only [run,List.cons_append] at h ⊢
   split at h
   ·rename_i hc; rw [if_pos hc]; exact run_stop ys h
   ·rename_i hc; rw [if_neg hc]; exact h
theorem NM (xs:List Ex) (j:Nat) (hj:j < xs.length):JQ (xs.take (j+1))=JQ (xs.take j) ++ pre xs[j]:=by
 rw [List.take_succ_eq_append_getElem hj,PL]; simp [JQ]
theorem AAS {a:Ex} : ∀ {xs:List Ex},a∈xs→∀ x∈pre a,x∈JQ xs
 | [],h,_,_=>by cases h
 | y :: ys,h,x,hx=>by
   simp only [JQ,List.mem_append]
   cases List.mem_cons.1 h with
   | inl e=>subst e; exact .inl hx
   | inr e=>exact .inr (AAS e x hx)
def AMD (G:Nat→AV) (k:FuncId) (upd:Ex→Int→Int) (cont:Int→Bool) (e:Ex):Prop :=
 ∀ (h:Hp) (c:Nat) (z:Int),h[c]? = some (.live 1 [[.int .i64 z]])→ACalls (En G) k [.agg (EU e),.ptr c 0 0] h fun v h'=>v = .bool (cont (upd e z))∧Chg c h h'∧h'[c]? = some (.live 1 [[.int .i64 (upd e z)]])
theorem ANO (G:Nat→AV) (k:FuncId) (upd:Ex→Int→Int) (cont:Int→Bool) (c vb db:Nat) (hv:vb≠c) (hd:db≠c) (e:Ex) :
  wt e≤1099511627776→(∀ x∈pre e,AMD G k upd cont x)→∀ (h:Hp) (z:Int),h[c]? = some (.live 1 [[.int .i64 z]])→h[vb]? = some (.live 1 [[.fn (.func k) [] [.ptr c 0 0]]]) →
   h[db]? = some (.live 1 [[.fn (.func 230) [] [.ptr vb 0 0,.ptr db 0 0]]]) →
   ACalls (En G) 230 [.agg (EU e),.ptr vb 0 0,.ptr db 0 0] h fun v h'=>v = .bool (run upd cont (pre e) z).2∧Chg c h h'∧h'[c]? = some (.live 1 [[.int .i64 (run upd cont (pre e) z).1]]):=by
 induction e using Ex.induct with | h e ih => ?_
 intro hw hvis h z hc hvb hdb
 have hcl:=CU hc
 have hal:e.args.length≤1099511627776:=by have:=SY e.args; have:=MI e; omega
 refine CE (H:=Hint.none) (enM G) Tryz.func230 rfl (by kernel_rfl) (by kernel_rfl) (nLb (by kernel_rfl)) ?_
 show awp _ _ _ _ _ (EJ _ [.tmp 4] _)
 simp -implicitDefEqProofs only [BC,BA,A8,AY,BB,AO,AQ,AL,BD,AX,AC,AA,AZ,AU,BM,A7,FV,BV,BZ,BU,CB,AB,BF,BN,lMc,lMn,List.nil_append,List.cons_append,↓reduceIte,Nat.reduceEqDiff,oGs,bNf,enP,bxE,JU AEO (CW hvb),ldE]
 refine (hvis e (by rw [pre_eq]; simp) _ c z (CW hc)).mono ?_
 rintro v h1 ⟨rfl,hch,hc1⟩
 have hch0:=(Chg.app c h _).trans hch
 have hb3:h1[h.length]? = some (.live 4 [EU e]):=hch.get (CZ _ _) (by omega)
 have hrun:run upd cont (pre e) z=if cont (upd e z) then run upd cont (JQ e.args) (upd e z) else (upd e z,false):=by rw [pre_eq]; rfl
 simp -implicitDefEqProofs only [BI,A8,AY,BB,AO,AQ,AL,BD,AX,AC,AA,AZ,G6,AB,EY,↓reduceIte,oGs,bNf]
 cases hct:cont (upd e z)
 ·simp -implicitDefEqProofs only [BC,BA,BL,A8,CQ,CJ,CY,AY,BB,AO,AQ,AL,BD,AX,AC,AA,AU,BM,A7,↓reduceIte,oGs,bNf]
  rw [hrun,hct]
  exact ⟨rfl,hch0,hc1⟩
 rw [hct,if_pos rfl] at hrun
 have hvb1:=hch0.get hvb hv
 have hdb1:=hch0.get hdb hd
 have l3:D7 Tryz.prog h1 51 (.ptr h.length 0 3)=some (.sl e.m 4 (e.args.map EU)):=by rw [DL AF5 hb3 (row:=EU e) rfl,X7]
 simp -implicitDefEqProofs only [BC,BR,BA,BO,A8,DU,AY,BB,AO,AQ,AL,BD,AX,AC,AA,AZ,AU,BH,BG,BV,BK,DZ,AB,↓reduceIte,Nat.reduceEqDiff,Nat.zero_add,oGs,bNt,bNf,enP,AC6,O1,l3,lLm]
 refine DT (fun n F H => ∃ j z',n+j=e.args.length∧F 1 = .ptr vb 0 0∧F 2 = .ptr db 0 0∧F 12 = .sl e.m 4 (e.args.map EU)∧F 13 = .int .i64 e.args.length∧F 14 = .int .i64 (j:Nat)∧Chg c h H∧H[c]? = some (.live 1 [[.int .i64 z']])∧run upd cont (JQ (e.args.take j)) (upd e z)=(z',true)) e.args.length ⟨0,upd e z,by simp,by simp -implicitDefEqProofs only [AA,BF,BN,↓reduceIte,Nat.reduceEqDiff],by simp -implicitDefEqProofs only [AA,BF,BN,↓reduceIte,Nat.reduceEqDiff],by simp -implicitDefEqProofs only [AA,↓reduceIte,Nat.reduceEqDiff],by simp -implicitDefEqProofs only [AA,↓reduceIte,Nat.reduceEqDiff],by simp -implicitDefEqProofs only [AA,↓reduceIte]; rfl,hch0,hc1,rfl⟩ ?_
 rintro n F H ⟨j,z',hj,f1,f2,f12,f13,f14,hC,hcz,hr⟩
 simp -implicitDefEqProofs only [BC,BA,BI,A8,AY,BB,AO,AQ,AL,BD,AX,AC,AA,AZ,BQ,AB,DC,↓reduceIte,oGs,bNf,enP,f13,f14]
 refine CV (fun hlt => ?_) (fun hlt => ?_)
 ·have hj':j < e.args.length:=by simpa using hlt
  have hdH:H[db]? = some (.live 1 [[.fn (.func 230) [] [.ptr vb 0 0,.ptr db 0 0]]]):=hC.get hdb hd
  have hvH:H[vb]? = some (.live 1 [[.fn (.func k) [] [.ptr c 0 0]]]):=hC.get hvb hv
  simp -implicitDefEqProofs only [BC,BR,BA,BO,A8,AY,BB,AO,AQ,AL,BD,AX,AC,FC,AA,AZ,FY,BV,ER,CG,BZ,BU,CB,AB,DX,lMc,lMn,List.nil_append,List.cons_append,↓reduceIte,Nat.reduceEqDiff,oGs,bNf,enP,AJS,Option.getD_none,f12,f14,D6 hj',FP AAK WI JX hj',AUG,AR9 _ _ [.int .i64 0,.int .i64 0,.str ⟨#[]⟩,.sl .nil 0 []] rfl,f2,JU AEO (CW hdH),ldE]
  have hmem:e.args[j]∈e.args:=List.getElem_mem hj'
  refine (ih e.args[j] hmem (by have:=QU hmem; have:=MI e; omega) (fun x hx=>hvis x (by rw [pre_eq]; exact List.mem_cons_of_mem _ (AAS hmem x hx))) _ z' (CW hcz) (CW hvH) (CW hdH)).mono ?_
  rintro v h2 ⟨rfl,hch2,hc2⟩
  have hC2:=hC.trans ((Chg.app c H _).trans hch2)
  have hsplit:JQ e.args=JQ (e.args.take j) ++ (pre e.args[j] ++ JQ (e.args.drop (j+1))):=by
   rw [← List.append_assoc,← NM _ _ hj',← PL,List.take_append_drop]
  simp -implicitDefEqProofs only [BI,A8,AY,BB,AO,AQ,AL,BD,AX,AC,AA,AZ,G6,AB,EY,↓reduceIte,oGs,bNf]
  rcases hrr:run upd cont (pre e.args[j]) z' with ⟨z2,b2⟩
  rw [hrr] at hc2
  cases b2
  ·simp -implicitDefEqProofs only [BC,BA,BL,A8,CQ,D8,FI,CJ,CY,AY,BB,AO,AQ,AL,BD,AX,AC,AA,AU,BM,A7,↓reduceIte,oGs,bNf]
   have:run upd cont (pre e) z=(z2,false):=by rw [hrun,hsplit,run_go _ hr]; exact run_stop _ hrr
   rw [this]
   exact ⟨rfl,hC2,hc2⟩
  ·simp -implicitDefEqProofs only [BA,BO,A8,EE,EN,DU,AY,BB,AO,AQ,AL,BD,AX,AC,AA,AZ,AU,BH,BG,BQ,AB,DF,↓reduceIte,Nat.reduceEqDiff,oGs,bNt,bNf,enP,f1,f2,f12,f13,f14,wrap_succ (show j < 9223372036854775807 by omega)]
   refine ⟨n - 1,by omega,j+1,z2,by omega,trivial,trivial,trivial,trivial,rfl,hC2,hc2,?_⟩
   rw [NM _ _ hj',run_go _ hr]; exact hrr
 ·have hj' : ¬ j < e.args.length:=by simpa using hlt
  simp -implicitDefEqProofs only [BC,BA,BL,DJ,A8,D9,EX,EW,CJ,AY,BB,AO,AQ,AL,BD,AX,AC,AA,AU,BM,A7,↓reduceIte,oGs,bNf]
  rw [List.take_of_length_le (by omega)] at hr
  rw [hrun,hr]
  exact ⟨rfl,hC,hcz⟩
theorem ADM (G:Nat→AV) (k:FuncId) (upd:Ex→Int→Int) (cont:Int→Bool) (c:Nat) (e:Ex) (hw:wt e≤1099511627776) (hvis : ∀ x∈pre e,AMD G k upd cont x) (h:Hp) (z:Int) (hc:h[c]? = some (.live 1 [[.int .i64 z]])) :
  ACalls (En G) 196 [.agg (EU e),.fn (.func k) [] [.ptr c 0 0]] h fun _ h'=>Chg c h h'∧h'[c]? = some (.live 1 [[.int .i64 (run upd cont (pre e) z).1]]):=by
 have hcl:=CU hc
 refine CE (H:=Hint.none) (enM G) Tryz.func196 rfl (by kernel_rfl) (by kernel_rfl) (nLb (by kernel_rfl)) ?_
 show awp _ _ _ _ _ (EJ _ [] _)
 simp -implicitDefEqProofs only [BC,BA,A8,AY,BB,AO,AQ,AL,BD,AX,AC,AA,AZ,FY,FV,ER,JC,CB,BF,BN,lMc,lMn,↓reduceIte,Nat.reduceEqDiff,oGs,bNf,enP,Option.getD_none,bxE,A0O,AU9]
 have g0:(h ++ [ABlk.live 4 [EU e]] ++ [ABlk.live 1 [[AV.fn (.func k) [] [.ptr c 0 0]]]] ++ [ABlk.live 1 [[AV.nilfn]]])[(h ++ [ABlk.live 4 [EU e]] ++ [ABlk.live 1 [[AV.fn (.func k) [] [.ptr c 0 0]]]]).length]? = some (.live 1 [[.nilfn]]):=CZ _ _
 simp -implicitDefEqProofs only [BA,A8,AY,BB,AO,AQ,AL,BD,AX,FC,AA,AZ,BV,DX,↓reduceIte,Nat.reduceEqDiff,oGs,bNf,enP,QW AUT (AVD _ _ _) g0]
 generalize hdb:(h ++ [ABlk.live 4 [EU e]] ++ [ABlk.live 1 [[AV.fn (.func k) [] [.ptr c 0 0]]]]).length=db at g0 ⊢
 generalize hvb:(h ++ [ABlk.live 4 [EU e]]).length=vb
 have hvl:vb=h.length+1:=by rw [← hvb]; simp
 have hdl:db=h.length+2:=by rw [← hdb]; simp
 generalize hH:(h ++ [ABlk.live 4 [EU e]] ++ [ABlk.live 1 [[AV.fn (.func k) [] [.ptr c 0 0]]]] ++ [ABlk.live 1 [[AV.nilfn]]]).set db (.live 1 [[AV.fn (.func 230) [] [.ptr vb 0 0,.ptr db 0 0]]])=H
 have h1:H[db]? = some (.live 1 [[.fn (.func 230) [] [.ptr vb 0 0,.ptr db 0 0]]]):=by rw [← hH]; exact ET g0
 have h2:H[vb]? = some (.live 1 [[.fn (.func k) [] [.ptr c 0 0]]]):=by
  rw [← hH]; refine DK ?_ (by omega)
  rw [← hvb]; exact CW (CZ _ _)
 have h3:H[h.length]? = some (.live 4 [EU e]):=by
  rw [← hH]; refine DK ?_ (by omega)
  exact CW (CW (CZ _ _))
 have h4:H[c]? = some (.live 1 [[.int .i64 z]]):=by
  rw [← hH]; refine DK ?_ (by omega)
  exact CW (CW (CW hc))
 have hC:Chg c h H:=by
  refine ⟨by rw [← hH]; simp,fun b hb hbc => ?_⟩
  obtain ⟨x,hx⟩ : ∃ x,h[b]? = some x:=⟨_,List.getElem?_eq_getElem hb⟩
  rw [← hH,hx]
  exact DK (CW (CW (CW hx))) (by omega)
 simp -implicitDefEqProofs only [AY,AO,AQ,AL,BD,AX,AC,AA,AZ,BV,BZ,BU,AB,lMc,lMn,List.nil_append,List.cons_append,↓reduceIte,Nat.reduceEqDiff,oGs,bNf,enP,JU AEO h1,MK h3]
 refine (ANO G k upd cont c vb db (by omega) (by omega) e hw hvis H z h4 h2 h1).mono ?_
 rintro v h' ⟨rfl,hch,hc1⟩
 simp -implicitDefEqProofs only [AFQ,BB,AC]
 exact ⟨hC.trans hch,hc1⟩
theorem AI7 (G:Nat→AV) (e:Ex):AMD G 233 (fun _ z=>IntKind.i64.wrap (z+1)) (fun _=>true) e:=by
 intro h c z hc
 have hcl:=CU hc
 refine CE (H:=Hint.none) (enM G) Tryz.func233 rfl (by kernel_rfl) (by kernel_rfl) (nLb (by kernel_rfl)) ?_
 show awp _ _ _ _ _ (EJ _ [.tmp 3] _)
 simp -implicitDefEqProofs only [BC,BA,BL,A8,CJ,AY,BB,AO,AQ,AL,BD,AX,AC,FC,AA,AZ,AU,BH,BM,A7,FV,BV,ER,BQ,CB,AB,DX,DF,BF,BN,↓reduceIte,Nat.reduceEqDiff,oGs,bNf,enP,Option.getD_none,bxE,JU ag3 (CW hc),QW sz3 (RH _ _) (CW hc)]
 exact ⟨trivial,(Chg.app c h _).trans (Chg.set c _ _),ET (CW hc)⟩
theorem AH4 (G:Nat→AV) (hG:GOk G) (e:Ex) (hl:e.name.size≤1048576):AMD G 197 (fun e _=>KA e) (fun z=>z == 0) e:=by
 intro h c z hc
 have hcl:=CU hc
 refine CE (H:=Hint.none) (enM G) Tryz.func197 rfl (by kernel_rfl) (by kernel_rfl) (nLb (by kernel_rfl)) ?_
 show awp _ _ _ _ _ (EJ _ [.tmp 3] _)
 simp -implicitDefEqProofs only [BC,BA,A8,AY,BB,AO,AQ,AL,BD,AX,AC,AA,AZ,AU,BX,BM,A7,FV,BV,BZ,BU,CB,AB,BF,lMc,lMn,lAn,↓reduceIte,Nat.reduceEqDiff,oGs,bNf,enP,bxE,ldE]
 refine (AM4 G hG e _ hl).use ?_
 have hs:=ET (y := .live 1 [[.int .i64 (KA e)]]) (CW (x := .live 4 [EU e]) hc)
 simp -implicitDefEqProofs only [BC,BA,BL,A8,CJ,AY,BB,AO,AQ,AL,BD,AX,AC,FC,AA,AZ,AU,BH,A7,BV,ER,BQ,AB,DX,D5,BF,BN,↓reduceIte,Nat.reduceEqDiff,oGs,bNf,enP,Option.getD_none,QW AVJ (RH _ _) (CW hc),JU ARH hs]
 exact ⟨trivial,(Chg.app c h _).trans (Chg.set c _ _),hs⟩
theorem AGZ : ∀ (xs:List Ex) (n:Nat),n+xs.length≤1099511627776→run (fun _ z=>IntKind.i64.wrap (z+1)) (fun _=>true) xs (n:Int)=(((n+xs.length:Nat):Int),true)
 | [],n,_=>rfl
 | x :: xs,n,h=>by
   simp only [List.length_cons] at h
   simp only [run,if_true]
   rw [wrap_succ (by omega),AGZ xs (n+1) (by omega),List.length_cons]
   congr 1; omega
def errs (xs:List Ex):Int:=xs.foldl (fun z e=>if z=0 then KA e else z) 0
theorem AFP : ∀ (xs:List Ex) (z:Int),z≠0→xs.foldl (fun z e=>if z=0 then KA e else z) z=z
 | [],_,_=>rfl
 | x :: xs,z,h=>by rw [List.foldl_cons,if_neg h]; exact AFP xs z h
theorem AG0 : ∀ (xs:List Ex),(run (fun e _=>KA e) (fun z=>z == 0) xs 0).1=errs xs
 | []=>rfl
 | x :: xs=>by
   simp only [run,errs,List.foldl_cons,if_true]
   rcases hn:(KA x == 0) with _ | _
   ·have:KA x≠0:=by simpa using hn
    rw [AFP _ _ this]; rfl
   ·have:KA x=0:=by simpa using hn
    rw [this]; simp only [if_true]; exact AG0 xs
theorem AHD {x e:Ex} (hx:x∈pre e):x.name.size≤wt e:=by
 induction e using Ex.induct with | h e ih => ?_
 rw [pre_eq] at hx
 have hw:=MI e
 rcases List.mem_cons.1 hx with rfl | hx
 ·omega
 have : ∀ l:List Ex,(∀ a∈l,x∈pre a→x.name.size≤wt a)→x∈JQ l→x.name.size≤wts l:=by
  intro l
  induction l with
  | nil=>intro _ h; simp [JQ] at h
  | cons y l ih2 =>
    intro hh h
    simp only [JQ,List.mem_append] at h
    simp only [wts]
    rcases h with h | h
    ·have:=hh y (by simp) h; omega
    ·have:=ih2 (fun a ha=>hh a (by simp [ha])) h; omega
 have:=this e.args (fun a ha=>ih a ha) hx
 omega
theorem AMQ (G:Nat→AV) (e:Ex) (h:Hp) (hw:wt e≤1099511627776):PCall (En G) 200 [.agg (EU e)] h (.int .i64 (pre e).length):=by
 refine ACalls.pure0 rfl ?_
 refine CE (H:=Hint.none) (enM G) Tryz.func200 rfl (by kernel_rfl) (by kernel_rfl) (nLb (by kernel_rfl)) ?_
 show awp _ _ _ _ _ (EJ _ [.tmp 2] _)
 have hg:=CZ (h ++ [ABlk.live 4 [EU e]]) (.live 1 [[.int .i64 0]])
 have hs:(h ++ [ABlk.live 4 [EU e]] ++ [ABlk.live 1 [[.int .i64 0]]]).set (h ++ [ABlk.live 4 [EU e]]).length (.live 1 [[.int .i64 0]])=h ++ [ABlk.live 4 [EU e]] ++ [ABlk.live 1 [[.int .i64 0]]]:=AEW _ _ _
 simp -implicitDefEqProofs only [BC,BA,A8,AY,BB,AO,AQ,AL,BD,AX,AC,FC,AA,AZ,AU,BX,BH,A7,FY,FV,BV,ER,JC,BZ,BU,CB,AB,DX,BF,lMc,lMn,lAn,↓reduceIte,Nat.reduceEqDiff,oGs,bNf,enP,Option.getD_none,bxE,al3,QW sz3 (RH _ _) hg,hs,MK (CW (CZ h _))]
 refine (ADM G 233 _ _ _ e hw (fun x _=>AI7 G x) _ 0 hg).mono ?_
 rintro v h' ⟨hch,hc1⟩
 simp -implicitDefEqProofs only [BC,BA,BL,A8,CJ,AY,BB,AO,AQ,AL,BD,AX,AC,AA,AZ,A7,BV,AB,↓reduceIte,Nat.reduceEqDiff,oGs,bNf,enP,JU ag3 hc1]
 have:=AGZ (pre e) 0 (by have:=AE1 e; omega)
 simp only [Nat.zero_add] at this
 exact ⟨by rw [show (0:Int)=((0:Nat):Int) from rfl,this],(((Chg.app _ h _).trans (Chg.app _ _ _)).trans hch).above (by simp)⟩
theorem AJ6 (G:Nat→AV) (e:Ex):wt e≤1099511627776→∀ h:Hp,PCall (En G) 199 [.agg (EU e)] h (.int .i64 (dep e)):=by
 induction e using Ex.induct with | h e ih => ?_
 intro hw h
 have hal:e.args.length≤1099511627776:=by have:=SY e.args; have:=MI e; omega
 refine ACalls.pure0 rfl ?_
 refine CE (H:=Hint.none) (enM G) Tryz.func199 rfl (by kernel_rfl) (by kernel_rfl) (nLb (by kernel_rfl)) ?_
 show awp _ _ _ _ _ (EJ _ [.tmp 2] _)
 simp -implicitDefEqProofs only [BC,BR,BA,A8,AY,BB,AO,AQ,AL,BD,AX,AC,AA,AZ,AU,BH,BG,A7,FV,BV,BK,DZ,CB,AB,BF,↓reduceIte,Nat.reduceEqDiff,Nat.zero_add,oGs,bNf,enP,AC6,O1,bxE,DI AF5,X7,lLm]
 have hdw:dep e≤1099511627776:=Nat.le_trans (AQL e) hw
 refine DT (fun n F H => ∃ j,n+j=e.args.length∧F 3 = .int .i64 (deps (e.args.take j):Nat)∧F 7 = .sl e.m 4 (e.args.map EU)∧F 8 = .int .i64 e.args.length∧F 9 = .int .i64 (j:Nat)∧∃ x,H=h ++ x) e.args.length ⟨0,by simp,by simp -implicitDefEqProofs only [AA,↓reduceIte,Nat.reduceEqDiff]; rfl,by simp -implicitDefEqProofs only [AA,↓reduceIte,Nat.reduceEqDiff],by simp -implicitDefEqProofs only [AA,↓reduceIte,Nat.reduceEqDiff],by simp -implicitDefEqProofs only [AA,↓reduceIte]; rfl,⟨_,rfl⟩⟩ ?_
 rintro n F H ⟨j,hj,f3,f7,f8,f9,x,rfl⟩
 simp -implicitDefEqProofs only [BC,BA,BI,A8,AY,BB,AO,AQ,AL,BD,AX,AC,AA,AZ,BQ,AB,DC,↓reduceIte,oGs,bNf,enP,f8,f9]
 refine CV (fun hlt => ?_) (fun hlt => ?_)
 ·have hj':j < e.args.length:=by simpa using hlt
  have hmem:e.args[j]∈e.args:=List.getElem_mem hj'
  simp -implicitDefEqProofs only [BC,BR,BA,BO,A8,AY,BB,AO,AQ,AL,BD,AX,AC,FC,AA,AZ,BX,BG,FY,BV,ER,CG,BZ,BU,CB,AB,DX,lMc,lMn,lAn,↓reduceIte,Nat.reduceEqDiff,oGs,bNf,enP,AJS,Option.getD_none,f3,f7,f9,D6 hj',FP AAK WI JX hj',AUG,AR9 _ _ [.int .i64 0,.int .i64 0,.str ⟨#[]⟩,.sl .nil 0 []] rfl,ldE]
  refine (ih e.args[j] hmem (by have:=QU hmem; have:=MI e; omega) _).use ?_
  simp -implicitDefEqProofs only [BA,A8,EE,EN,AY,BB,AO,AQ,AL,BD,AX,AC,AA,AZ,AU,BH,BG,A7,BQ,AUR,AB,DF,APF,↓reduceIte,Nat.reduceEqDiff,oGs,bNf,enP,f7,f8,f9,wrap_succ (show j < 9223372036854775807 by omega)]
  refine ⟨n - 1,by omega,j+1,by omega,?_,trivial,trivial,rfl,_,by rw [List.append_assoc]⟩
  rw [AEH _ _ hj']
  congr 1
  omega
 ·have hj' : ¬ j < e.args.length:=by simpa using hlt
  rw [List.take_of_length_le (by omega)] at f3
  rw [AFT] at hdw ⊢
  simp -implicitDefEqProofs only [BC,BA,BL,DJ,A8,D9,EX,EW,CJ,AY,BB,AO,AQ,AL,BD,AX,AC,AA,AZ,AU,BH,BG,A7,BQ,AB,DF,↓reduceIte,Nat.reduceEqDiff,oGs,bNf,enP,f3,wrap_succ (show deps e.args < 9223372036854775807 by omega)]
  exact ⟨trivial,x,rfl⟩
def exE (e:Ex):Int:=if errs (pre e)=0∧(24 < dep e∨400 < (pre e).length) then 2 else errs (pre e)
theorem X3 (G:Nat→AV) (hG:GOk G) (e:Ex) (h:Hp) (hw:wt e≤1048576):PCall (En G) 151 [.agg (EU e)] h (.int .i64 (exE e)):=by
 refine ACalls.pure0 rfl ?_
 refine CE (H:=Hint.none) (enM G) Tryz.func151 rfl (by kernel_rfl) (by kernel_rfl) (nLb (by kernel_rfl)) ?_
 show awp _ _ _ _ _ (EJ _ [.tmp 2] _)
 have hg:=CZ (h ++ [ABlk.live 4 [EU e]]) (.live 1 [[.int .i64 0]])
 have hs:(h ++ [ABlk.live 4 [EU e]] ++ [ABlk.live 1 [[.int .i64 0]]]).set (h ++ [ABlk.live 4 [EU e]]).length (.live 1 [[.int .i64 0]])=h ++ [ABlk.live 4 [EU e]] ++ [ABlk.live 1 [[.int .i64 0]]]:=AEW _ _ _
 have hb:=CW (x:=ABlk.live 1 [[.int .i64 0]]) (CZ h (.live 4 [EU e]))
 simp -implicitDefEqProofs only [BC,BA,A8,AY,BB,AO,AQ,AL,BD,AX,AC,FC,AA,AZ,AU,BX,BH,A7,FY,FV,BV,ER,JC,BZ,BU,CB,AB,DX,BF,lMc,lMn,lAn,↓reduceIte,Nat.reduceEqDiff,oGs,bNf,enP,Option.getD_none,bxE,A0V,QW AVJ (RH _ _) hg,hs,MK hb]
 refine (ADM G 197 _ _ _ e (by omega) (fun x hx=>AH4 G hG x (by have:=AHD hx; omega)) _ 0 hg).mono ?_
 rintro v h' ⟨hch,hc1⟩
 rw [AG0] at hc1
 have hb':=hch.get hb (by simp)
 have hab:=(((Chg.app _ h _).trans (Chg.app _ _ _)).trans hch).above (show h.length≤(h ++ [ABlk.live 4 [EU e]]).length by simp)
 simp -implicitDefEqProofs only [BC,BA,A8,AY,BB,BJ,BP,CO,AO,AQ,AL,BD,AX,AC,AA,AZ,AU,BH,BG,BV,BQ,AB,D5,↓reduceIte,Nat.reduceEqDiff,oGs,bNf,enP,JU ARH hc1]
 rcases he:(errs (pre e) == 0) with _ | _
 ·simp -implicitDefEqProofs only [BC,BA,BO,BL,BI,A8,CJ,DU,AY,BB,BJ,BP,CO,H8,QR,AO,AQ,AL,BD,AX,AC,AA,EP,AZ,AU,BM,A7,CP,DR,BV,AB,↓reduceIte,Nat.reduceEqDiff,oGs,bNf,enP,JU ARH hc1]
  have:errs (pre e)≠0:=by simpa using he
  exact ⟨by unfold exE; rw [if_neg (fun hh=>this hh.1)],hab⟩
 have he0:errs (pre e)=0:=by simpa using he
 simp -implicitDefEqProofs only [BJ,BP,CO,F7,AO,AQ,AL,BD,AX,AC,AA,AZ,BX,BV,BZ,BU,AB,lMc,lMn,lAn,↓reduceIte,Nat.reduceEqDiff,oGs,bNf,enP,MK hb']
 refine (AJ6 G e (by omega) _).use ?_
 simp -implicitDefEqProofs only [BJ,BP,CO,F7,AO,AQ,AL,BD,AX,AC,AA,AZ,AU,BH,BG,BQ,AB,EZ,↓reduceIte,Nat.reduceEqDiff,oGs,bNf,enP]
 refine G9 (fun hd => ?_) (fun hd => ?_)
 ·simp -implicitDefEqProofs only [BC,BA,BL,BI,A8,CQ,CJ,CY,AY,BB,BJ,BP,CO,F7,FQ,AO,AQ,AL,BD,AX,AC,AA,EP,AZ,AU,BH,BM,A7,CP,DN,↓reduceIte,Nat.reduceEqDiff,oGs,bNf,hd]
  exact ⟨by unfold exE; rw [if_pos ⟨he0,.inl (by simp at hd; omega)⟩],hab⟩
 simp -implicitDefEqProofs only [BJ,BP,CO,EM,AO,AQ,AL,BD,AX,AC,AA,AZ,BX,BV,BZ,BU,AB,lMc,lMn,lAn,↓reduceIte,Nat.reduceEqDiff,oGs,bNf,enP,hd,MK hb']
 refine (AMQ G e _ (by omega)).use ?_
 simp -implicitDefEqProofs only [BI,A8,AY,BB,BJ,BP,CO,F7,EM,AO,AQ,AL,BD,AX,AC,AA,AZ,AU,BH,BM,CP,DN,DR,BQ,AB,EZ,↓reduceIte,Nat.reduceEqDiff,oGs,bNf,enP]
 refine CV (fun hn => ?_) (fun hn => ?_)
 ·simp -implicitDefEqProofs only [BC,BA,BL,A8,CQ,CJ,AY,BB,AO,AQ,AL,BD,AX,AC,AA,AU,BH,A7,↓reduceIte,oGs,bNf]
  exact ⟨by unfold exE; rw [if_pos ⟨he0,.inr (by simp at hn; omega)⟩],hab⟩
 ·simp -implicitDefEqProofs only [BC,BA,BO,BL,A8,CJ,AY,BB,AO,AQ,AL,BD,AX,AC,AA,AZ,A7,BV,AB,↓reduceIte,Nat.reduceEqDiff,oGs,bNf,enP,JU ARH hc1]
  exact ⟨by unfold exE; rw [if_neg (fun hh=>by simp at hn hd; omega)],hab⟩
theorem VA {E:Env} {H:Hint} {x y:Code} {F:Fr} {h:Hp} {Q:AEx→Fr→Hp→Prop} {b:Bool} (N R:Fr→Hp→Prop) (h1:b=true→awp E H x F h (AS7 N R)) (h2:b=false→awp E H y F h (AS7 N R)) (hn : ∀ F h,N F h→Q .normal F h) (hr : ∀ F h,R F h→Q .ret F h) :
 ACM E H x y F h Q (.bool b):=⟨fun e=>AF1 N R (h1 e) hn hr,fun e=>AF1 N R (h2 e) hn hr⟩
def isB (v:AV) (b:Nat):Prop:=match v with
 | .own b' _ _=>b'=b
 | _=>False
def sv (h:Hp) (m:Nat) (v:AV):Prop := ∃ vs:List ByteArray,vs.length≤m∧((vs = []∧∃ k,v = .sl .nil k [])∨∃ b,v = .own b 0 vs.length∧h[b]? = some (.live 1 (vs.map encStr)))
theorem ATJ (G:Nat→AV) (k:Nat) (v:ByteArray) (h:Hp):PCall (En G) 226 [.sl .nil k [],.str v] h (.bool false):=by
 refine CE (H:=Hint.none) (enM G) Tryz.func226 rfl (by kernel_rfl) (by kernel_rfl) (nLb (by kernel_rfl)) ?_
 show awp _ _ _ _ _ (EJ _ [.tmp 4] _)
 simp -implicitDefEqProofs only [BC,BR,BA,A8,AY,BB,AO,AQ,AL,BD,AX,AC,AU,BH,BM,A7,oGs,bNf,enP]
 refine DT (fun n F H=>F 0 = .sl .nil k []∧F 5 = .int .i64 0∧H=h) 0 ⟨rfl,rfl,rfl⟩ ?_
 rintro n F H ⟨f0,f5,rfl⟩
 simp -implicitDefEqProofs only [BC,BA,BI,A8,AY,BB,AO,AQ,AL,BD,AX,AC,AA,AZ,BG,BQ,DZ,AB,DC,↓reduceIte,Nat.reduceEqDiff,oGs,bNf,enP,ZT,f0,f5,List.length_nil]
 have:decide ((0:Int) < ((0:Nat):Int))=false:=by simp
 simp -implicitDefEqProofs only [BC,BA,BL,DJ,A8,D9,EX,EW,CJ,DU,AY,BB,AO,AQ,AL,BD,AX,AC,AA,AU,BM,A7,↓reduceIte,oGs,bNf,this]
 exact ⟨trivial,trivial⟩
theorem KL {α:Type} {f:α→List AV} {xs:List α} {k:Nat} (hk:k < xs.length):(xs.map f)[k]? = some (f xs[k]):=by
 rw [List.getElem?_map,List.getElem?_eq_getElem hk]; rfl
theorem GI {h x:Hp} {y:ABlk} {b:Nat} (hb:h[b]? = some y):(h ++ x)[b]? = some y:=by
 rw [List.getElem?_append_left (CU hb)]; exact hb
theorem ATI (G:Nat→AV) (xs:List ByteArray) (b:Nat) (v:ByteArray) (h:Hp) (hb:h[b]? = some (.live 1 (xs.map encStr))) (hl:xs.length≤1099511627776) :
  PCall (En G) 226 [.own b 0 xs.length,.str v] h (.bool (IR xs v)):=by
 refine CE (H:=Hint.none) (enM G) Tryz.func226 rfl (by kernel_rfl) (by kernel_rfl) (nLb (by kernel_rfl)) ?_
 show awp _ _ _ _ _ (EJ _ [.tmp 4] _)
 simp -implicitDefEqProofs only [BC,BR,BA,A8,AY,BB,AO,AQ,AL,BD,AX,AC,AU,BH,BM,A7,oGs,bNf,enP]
 refine DT (fun n F H => ∃ k,n+k=xs.length∧F 0 = .own b 0 xs.length∧F 1 = .str v∧F 5 = .int .i64 (k:Nat)∧H=h∧IR xs v=IR (xs.drop k) v) xs.length ⟨0,by simp,rfl,rfl,rfl,rfl,rfl⟩ ?_
 rintro n F H ⟨k,hk,f0,f1,f5,rfl,hin⟩
 simp -implicitDefEqProofs only [BC,BA,BI,A8,AY,BB,AO,AQ,AL,BD,AX,AC,AA,AZ,BG,BQ,DZ,AB,DC,↓reduceIte,Nat.reduceEqDiff,oGs,bNf,enP,ZT,f0,f1,f5]
 refine CV (fun hc => ?_) (fun hc => ?_)
 ·have hc':k < xs.length:=by simpa using hc
  have hs:IR (xs.drop k) v=((v.toList == xs[k].toList) || IR (xs.drop (k+1)) v):=KJ _ xs k hc'
  have l1:D7 Tryz.prog H 9 (.ptr b k 0)=some (.str xs[k]):=by rw [DL ag9 hb (row:=encStr xs[k]) (KL hc')]; rfl
  simp -implicitDefEqProofs only [BC,BR,BA,BO,BI,A8,AY,BB,AO,AQ,AL,BD,AX,AC,AA,AZ,BG,BV,BQ,CG,AB,LJ,↓reduceIte,Nat.reduceEqDiff,Nat.zero_add,oGs,bNf,enP,AD2,f0,f1,f5,KW hb hc',l1]
  refine CV (fun hb => ?_) (fun hb => ?_)
  ·simp -implicitDefEqProofs only [BC,BA,BL,A8,CQ,D8,FI,CJ,AY,BB,AO,AQ,AL,BD,AX,AC,AA,AU,BM,A7,↓reduceIte,oGs,bNf]
   refine ⟨?_,trivial⟩
   rw [hin,hs,show (v.toList == xs[k].toList)=true by rw [BEq.comm]; exact hb]; rfl
  ·simp -implicitDefEqProofs only [BA,BO,A8,EE,EN,AY,BB,AO,AQ,AL,BD,AX,AC,AA,AZ,AU,BH,BG,A7,BQ,AB,DF,↓reduceIte,Nat.reduceEqDiff,oGs,bNf,enP,f5,wrap_succ (show k < 9223372036854775807 by omega)]
   refine ⟨n - 1,by omega,k+1,by omega,f0,f1,rfl,trivial,?_⟩
   rw [hin,hs,show (v.toList == xs[k].toList)=false by rw [BEq.comm]; exact hb]; rfl
 ·have hc' : ¬ k < xs.length:=by simpa using hc
  simp -implicitDefEqProofs only [BC,BA,BL,DJ,A8,D9,EX,EW,CJ,AY,BB,AO,AQ,AL,BD,AX,AC,AA,AU,BM,A7,↓reduceIte,oGs,bNf]
  exact ⟨by rw [hin,List.drop_eq_nil_of_le (by omega)]; rfl,trivial⟩
theorem APV (G:Nat→AV) {h:Hp} {m:Nat} {v:AV} (s:ByteArray) (hv:sv h m v) (hm:m≤8388608) : ∃ r,PCall (En G) 226 [v,.str s] h (.bool r):=by
 obtain ⟨vs,hl,⟨_,k,rfl⟩ | ⟨b,rfl,hb⟩⟩:=hv
 ·exact ⟨_,ATJ G k s h⟩
 ·exact ⟨_,ATI G vs b s h hb (by omega)⟩
theorem AQY (h:Hp) (s:ByteArray):FN Tryz.prog false h 179 1 [(0,.str s)]=some (.sl .full 1 [[.str s]],h):=by kernel_rfl
theorem ARB {h:Hp} {m:Nat} {v:AV} (s:ByteArray) (hv:sv h m v) (hm:m≤8388608) : ∃ v' h',H7 Tryz.prog true h 179 179 v (.sl .full 1 [[.str s]])=some (v',h')∧sv h' (m+1) v'∧(∀ b,isB v' b→b=h.length) ∧
  h.length≤h'.length∧∀ b,b < h.length→¬ isB v b→h'[b]? = h[b]? := by
 obtain ⟨vs,hl,⟨rfl,k,rfl⟩ | ⟨b,rfl,hb⟩⟩:=hv
 ·refine ⟨_,_,TP AOL sz9 AOC AQS (KF h .full 1 [[.str s]]) (by simp) (JH (by simp) (by omega)),⟨[s],by simp,.inr ⟨h.length,rfl,CZ _ _⟩⟩,fun b hb=>hb.symm,by simp,fun b hb _=>List.getElem?_append_left hb⟩
 ·have hc:KG h (.own b 0 vs.length)=some (1,vs.map encStr):=by
   rw [QD hb (by simp),List.drop_zero,List.take_of_length_le (by simp)]
  refine ⟨_,_,VZ AOL sz9 AOC AQS hc (KF h .full 1 [[.str s]]) (by simp) (JH (by simp; omega) (by omega)),⟨vs ++ [s],by simp; omega,.inr ⟨h.length,by simp,by simp [encStr]⟩⟩,fun b hb=>hb.symm,by simp,fun o ho hn => ?_⟩
  rw [List.getElem?_append_left (by simpa using ho)]
  have hn' : ¬ b=o:=hn
  rw [List.getElem?_set,if_neg hn']
def wRow (n dd:Nat) (f:Int) (v1 v2:AV):List AV := [.int .i64 n,.int .i64 dd,.int .i64 f,v1,v2]
structure St (h:Hp) (c m1 m2 n dd:Nat) (f:Int) (v1 v2:AV):Prop where
 w:h[c]? = some (.live 5 [wRow n dd f v1 v2])
 s1:sv h m1 v1
 s2:sv h m2 v2
 ap : ∀ b,isB v1 b→¬ isB v2 b
theorem sv.b {h:Hp} {m:Nat} {v:AV} {b:Nat} (hs:sv h m v) (hb:isB v b) : ∃ vs:List ByteArray,h[b]? = some (.live 1 (vs.map encStr)):=by
 obtain ⟨vs,_,⟨_,k,rfl⟩ | ⟨b',rfl,h'⟩⟩:=hs
 ·exact hb.elim
 ·cases hb; exact ⟨vs,h'⟩
theorem sv.ne {h:Hp} {m b c:Nat} {v:AV} {row:List AV} (hs:sv h m v) (hc:h[c]? = some (.live 5 [row])) (hb:isB v b):b≠c:=by
 intro e; subst e
 obtain ⟨vs,h'⟩:=hs.b hb
 rw [h'] at hc; cases hc
theorem sv.keep {h h':Hp} {m m':Nat} {v:AV} (hs:sv h m v) (hm:m≤m') (hk : ∀ b,isB v b→h'[b]? = h[b]?):sv h' m' v:=by
 obtain ⟨vs,hl,⟨e,k,rfl⟩ | ⟨b,rfl,hb⟩⟩:=hs
 ·exact ⟨vs,by omega,.inl ⟨e,k,rfl⟩⟩
 ·exact ⟨vs,by omega,.inr ⟨b,rfl,by rw [hk b rfl]; exact hb⟩⟩
structure Ch (c:Nat) (v1 v2:AV) (h:Hp) (v1' v2':AV) (h':Hp):Prop where
 len:h.length≤h'.length
 get : ∀ b,b < h.length→b≠c→¬ isB v1 b→¬ isB v2 b→h'[b]? = h[b]?
 n1 : ∀ b,isB v1' b→isB v1 b∨h.length≤b
 n2 : ∀ b,isB v2' b→isB v2 b∨h.length≤b
theorem Ch.refl (c:Nat) (v1 v2:AV) (h:Hp):Ch c v1 v2 h v1 v2 h:=⟨Nat.le_refl _,fun _ _ _ _ _=>rfl,fun _ h => .inl h,fun _ h => .inl h⟩
theorem Ch.trans {c:Nat} {v1 v2 u1 u2 w1 w2:AV} {a b d:Hp} (h1:Ch c v1 v2 a u1 u2 b) (h2:Ch c u1 u2 b w1 w2 d):Ch c v1 v2 a w1 w2 d:=by
 refine ⟨Nat.le_trans h1.len h2.len,fun i hi hc hv hu => ?_,fun i hi => ?_,fun i hi => ?_⟩
 ·rw [h2.get i (Nat.lt_of_lt_of_le hi h1.len) hc (fun e=>(h1.n1 i e).elim hv (fun e=>by omega)) (fun e=>(h1.n2 i e).elim hu (fun e=>by omega)),h1.get i hi hc hv hu]
 ·rcases h2.n1 i hi with h | h
  ·exact h1.n1 i h
  ·exact .inr (Nat.le_trans h1.len h)
 ·rcases h2.n2 i hi with h | h
  ·exact h1.n2 i h
  ·exact .inr (Nat.le_trans h1.len h)
theorem Ch.app (c:Nat) (v1 v2:AV) (h x:Hp):Ch c v1 v2 h v1 v2 (h ++ x):=⟨by simp,fun _ hi _ _ _=>List.getElem?_append_left hi,fun _ h => .inl h,fun _ h => .inl h⟩
theorem Ch.set (c:Nat) (v1 v2:AV) (h:Hp) (x:ABlk):Ch c v1 v2 h v1 v2 (h.set c x):=⟨by simp,fun _ _ hc _ _=>by rw [List.getElem?_set,if_neg (fun e=>hc e.symm)],fun _ h => .inl h,fun _ h => .inl h⟩
theorem St.app {h:Hp} {c m1 m2 n dd:Nat} {f:Int} {v1 v2:AV} (s:St h c m1 m2 n dd f v1 v2) (x:Hp):St (h ++ x) c m1 m2 n dd f v1 v2:=by
 have keep : ∀ v m,sv h m v→sv (h ++ x) m v:=fun v m hv=>hv.keep (Nat.le_refl _) fun b hb=>by
  obtain ⟨vs,h'⟩:=hv.b hb
  exact List.getElem?_append_left (CU h')
 exact ⟨GI s.w,keep _ _ s.s1,keep _ _ s.s2,s.ap⟩
theorem St.set {h:Hp} {c m1 m2 n dd:Nat} {f:Int} {v1 v2:AV} (s:St h c m1 m2 n dd f v1 v2) (n' dd':Nat) (f':Int):St (h.set c (.live 5 [wRow n' dd' f' v1 v2])) c m1 m2 n' dd' f' v1 v2:=by
 have keep : ∀ v m,sv h m v→sv (h.set c (.live 5 [wRow n' dd' f' v1 v2])) m v:=fun v m hv=>hv.keep (Nat.le_refl _) fun b hb=>by
  rw [List.getElem?_set,if_neg (fun e=>hv.ne s.w hb e.symm)]
 exact ⟨ET s.w,keep _ _ s.s1,keep _ _ s.s2,s.ap⟩
section
variable {h:Hp} {c m1 m2 n dd:Nat} {f:Int} {v1 v2:AV} (s:St h c m1 m2 n dd f v1 v2)
include s
theorem St.l0:D7 Tryz.prog h 3 (.ptr c 0 0)=some (.int .i64 n):=by rw [DL ag3 s.w (row:=wRow n dd f v1 v2) rfl]; rfl
theorem St.l1:D7 Tryz.prog h 3 (.ptr c 0 1)=some (.int .i64 dd):=by rw [DL ag3 s.w (row:=wRow n dd f v1 v2) rfl]; rfl
theorem St.l2:D7 Tryz.prog h 38 (.ptr c 0 2)=some (.int .i64 f):=by rw [DL ARH s.w (row:=wRow n dd f v1 v2) rfl]; rfl
theorem St.l3:D7 Tryz.prog h 179 (.ptr c 0 3)=some v1:=by rw [DL AEP s.w (row:=wRow n dd f v1 v2) rfl]; rfl
theorem St.l4:D7 Tryz.prog h 179 (.ptr c 0 4)=some v2:=by rw [DL AEP s.w (row:=wRow n dd f v1 v2) rfl]; rfl
theorem St.t0 (x:Nat):FX Tryz.prog h 3 (.ptr c 0 0) (.int .i64 x)=some (h.set c (.live 5 [wRow x dd f v1 v2])):=by
 rw [KC (RH _ _) sz3 s.w (row:=wRow n dd f v1 v2) rfl (by simp [wRow])]; rfl
theorem St.t1 (x:Nat):FX Tryz.prog h 3 (.ptr c 0 1) (.int .i64 x)=some (h.set c (.live 5 [wRow n x f v1 v2])):=by
 rw [KC (RH _ _) sz3 s.w (row:=wRow n dd f v1 v2) rfl (by simp [wRow])]; rfl
theorem St.t2 (x:Int):FX Tryz.prog h 38 (.ptr c 0 2) (.int .i64 x)=some (h.set c (.live 5 [wRow n dd x v1 v2])):=by
 rw [KC (RH _ _) AVJ s.w (row:=wRow n dd f v1 v2) rfl (by simp [wRow])]; rfl
end
theorem St.app3 {h:Hp} {c m1 m2 n dd:Nat} {f:Int} {v1 v2:AV} (s:St h c m1 m2 n dd f v1 v2) (x:ByteArray) (hm:m1≤8388608) :
  ∃ v' h',H7 Tryz.prog true h 179 179 v1 (.sl .full 1 [[.str x]])=some (v',h')∧FX Tryz.prog h' 179 (.ptr c 0 3) v'=some (h'.set c (.live 5 [wRow n dd f v' v2])) ∧
    St (h'.set c (.live 5 [wRow n dd f v' v2])) c (m1+1) m2 n dd f v' v2∧Ch c v1 v2 h v' v2 (h'.set c (.live 5 [wRow n dd f v' v2])):=by
 obtain ⟨v',h',ha,hs,hb,hl,hk⟩:=ARB x s.s1 hm
 have hc1 : ¬ isB v1 c:=fun e=>s.s1.ne s.w e rfl
 have hc2 : ¬ isB v2 c:=fun e=>s.s2.ne s.w e rfl
 have hcl:=CU s.w
 have hw:h'[c]? = some (.live 5 [wRow n dd f v1 v2]):=by rw [hk c hcl hc1]; exact s.w
 have hvc : ∀ b,isB v' b→b≠c:=fun b hb' e=>by have:=hb b hb'; omega
 have hac:JF v'=some [v']:=by
  obtain ⟨vs,_,⟨_,k,rfl⟩ | ⟨b,rfl,_⟩⟩:=hs <;> rfl
 refine ⟨v',h',ha,by rw [KC hac AOS hw (row:=wRow n dd f v1 v2) rfl (by simp [wRow])]; rfl,⟨ET hw,hs.keep (Nat.le_refl _) fun b hb' => ?_,s.s2.keep (Nat.le_refl _) fun b hb' => ?_,fun b h1 h2 => ?_⟩,⟨by simpa using hl,fun b hbl hne h1 h2 => ?_,fun b hb' => .inr (by rw [hb b hb']; exact Nat.le_refl _),fun b hb' => .inl hb'⟩⟩
 ·rw [List.getElem?_set,if_neg (fun e=>hvc b hb' e.symm)]
 ·obtain ⟨_,hx⟩:=s.s2.b hb'
  rw [List.getElem?_set,if_neg (fun e=>hc2 (by rw [e]; exact hb')),hk b (CU hx) (fun e=>s.ap b e hb')]
 ·obtain ⟨_,hx⟩:=s.s2.b h2
  have:=hb b h1; have:=CU hx; omega
 ·rw [List.getElem?_set,if_neg (fun e=>hne e.symm),hk b hbl h1]
theorem St.app4 {h:Hp} {c m1 m2 n dd:Nat} {f:Int} {v1 v2:AV} (s:St h c m1 m2 n dd f v1 v2) (x:ByteArray) (hm:m2≤8388608) :
  ∃ v' h',H7 Tryz.prog true h 179 179 v2 (.sl .full 1 [[.str x]])=some (v',h')∧FX Tryz.prog h' 179 (.ptr c 0 4) v'=some (h'.set c (.live 5 [wRow n dd f v1 v'])) ∧
    St (h'.set c (.live 5 [wRow n dd f v1 v'])) c m1 (m2+1) n dd f v1 v'∧Ch c v1 v2 h v1 v' (h'.set c (.live 5 [wRow n dd f v1 v'])):=by
 obtain ⟨v',h',ha,hs,hb,hl,hk⟩:=ARB x s.s2 hm
 have hc1 : ¬ isB v1 c:=fun e=>s.s1.ne s.w e rfl
 have hc2 : ¬ isB v2 c:=fun e=>s.s2.ne s.w e rfl
 have hcl:=CU s.w
 have hw:h'[c]? = some (.live 5 [wRow n dd f v1 v2]):=by rw [hk c hcl hc2]; exact s.w
 have hvc : ∀ b,isB v' b→b≠c:=fun b hb' e=>by have:=hb b hb'; omega
 have hac:JF v'=some [v']:=by
  obtain ⟨vs,_,⟨_,k,rfl⟩ | ⟨b,rfl,_⟩⟩:=hs <;> rfl
 refine ⟨v',h',ha,by rw [KC hac AOS hw (row:=wRow n dd f v1 v2) rfl (by simp [wRow])]; rfl,⟨ET hw,s.s1.keep (Nat.le_refl _) fun b hb' => ?_,hs.keep (Nat.le_refl _) fun b hb' => ?_,fun b h1 h2 => ?_⟩,⟨by simpa using hl,fun b hbl hne h1 h2 => ?_,fun b hb' => .inl hb',fun b hb' => .inr (by rw [hb b hb']; exact Nat.le_refl _)⟩⟩
 ·obtain ⟨_,hx⟩:=s.s1.b hb'
  rw [List.getElem?_set,if_neg (fun e=>hc1 (by rw [e]; exact hb')),hk b (CU hx) (fun e=>s.ap b hb' e)]
 ·rw [List.getElem?_set,if_neg (fun e=>hvc b hb' e.symm)]
 ·obtain ⟨_,hx⟩:=s.s1.b h1
  have:=hb b h2; have:=CU hx; omega
 ·rw [List.getElem?_set,if_neg (fun e=>hne e.symm),hk b hbl h2]
def V3 (z:Int) (xs:List Ex):Int:=xs.foldl (fun z e=>if z=0 then KA e else z) z
theorem AH6 (z:Int) (xs ys:List Ex):V3 z (xs ++ ys)=V3 (V3 z xs) ys:=List.foldl_append
theorem St.weak {h:Hp} {c m1 m2 m1' m2' n dd:Nat} {f:Int} {v1 v2:AV} (s:St h c m1 m2 n dd f v1 v2) (h1:m1≤m1') (h2:m2≤m2'):St h c m1' m2' n dd f v1 v2 :=
 ⟨s.w,s.s1.keep h1 fun _ _=>rfl,s.s2.keep h2 fun _ _=>rfl,s.ap⟩
def Md (e:Ex) (c d:Nat) (v1 v2:AV) (h:Hp) (m1 m2 n dd:Nat) (f:Int) (F:Nat→AV) (H:Hp):Prop :=
 F 0 = .ptr c 0 0∧F 2 = .int .i64 (d:Nat)∧F 4 = .ptr h.length 0 0∧∃ u1 u2,St H c m1 m2 n dd f u1 u2∧Ch c v1 v2 (h ++ [.live 4 [EU e]]) u1 u2 H
theorem AHC (xs:List Ex):(JQ xs).length≤wts xs:=by
 induction xs with
 | nil=>simp [JQ,wts]
 | cons x xs ih=>have:=AE1 x; simp only [JQ,wts,List.length_append]; omega
theorem AGF : ∀ (xs:List Ex) (j:Nat) (hj:j < xs.length),wts (xs.take j)+wt xs[j]≤wts xs
 | x :: xs,0,_=>by simp [wts]
 | x :: xs,j+1,h=>by
   have:=AGF xs j (by simpa using h)
   simp only [List.take_succ_cons,wts,List.getElem_cons_succ]; omega
theorem YA : ∀ (xs:List Ex) (j:Nat),deps (xs.take j)≤wts xs
 | [],j=>by simp [deps,wts]
 | x :: xs,0=>by simp [deps]
 | x :: xs,j+1=>by
   have h1:=YA xs j
   have h2:=AQL x
   simp only [List.take_succ_cons,deps,wts]; omega
theorem ASF (G:Nat→AV) (c:Nat) (e:Ex):wt e≤1048576→∀ (h:Hp) (d n dd:Nat) (f:Int) (v1 v2:AV),d+wt e≤8388608→n+wt e≤8388608→dd≤16777216→St h c n n n dd f v1 v2 →
  ACalls (En G) 193 [.ptr c 0 0,.agg (EU e),.int .i64 (d:Nat)] h fun _ h' => ∃ u1 u2,St h' c (n+(pre e).length) (n+(pre e).length) (n+(pre e).length) (max dd (d+deps e.args)) (V3 f (pre e)) u1 u2∧Ch c v1 v2 h u1 u2 h':=by
 induction e using Ex.induct with | h e ih => ?_
 intro hw h d n dd f v1 v2 hd hn hdd s
 have hal:e.args.length≤wts e.args:=SY e.args
 have hwe:=MI e
 have hcl:=CU s.w
 have hbox : ∀ (u1 u2:AV) (H:Hp),Ch c v1 v2 (h ++ [.live 4 [EU e]]) u1 u2 H→H[h.length]? = some (.live 4 [EU e]):=by
  intro u1 u2 H hC
  rw [hC.get h.length (by simp) (by omega) (fun hb => ?_) (fun hb => ?_)]
  ·exact CZ _ _
  ·obtain ⟨_,hx⟩:=s.s1.b hb
   have:=CU hx; omega
  ·obtain ⟨_,hx⟩:=s.s2.b hb
   have:=CU hx; omega
 have lb0 : ∀ H:Hp,H[h.length]? = some (.live 4 [EU e])→D7 Tryz.prog H 3 (.ptr h.length 0 0)=some (.int .i64 e.op):=fun H hH=>by rw [DL ag3 hH (row:=EU e) rfl,J6]
 have lb2 : ∀ H:Hp,H[h.length]? = some (.live 4 [EU e])→D7 Tryz.prog H 9 (.ptr h.length 0 2)=some (.str e.name):=fun H hH=>by rw [DL ag9 hH (row:=EU e) rfl,PX]
 have lb3 : ∀ H:Hp,H[h.length]? = some (.live 4 [EU e])→D7 Tryz.prog H 51 (.ptr h.length 0 3)=some (.sl e.m 4 (e.args.map EU)):=fun H hH=>by rw [DL AF5 hH (row:=EU e) rfl,X7]
 refine CE (H:=hint [56,85] []) (enM G) Tryz.func193 rfl (by kernel_rfl) (by kernel_rfl) (nLb (by kernel_rfl)) ?_
 show awp _ _ _ _ _ (EJ _ [] _)
 have s0:=s.app [.live 4 [EU e]]
 have c0:=Ch.app c v1 v2 h [.live 4 [EU e]]
 simp -implicitDefEqProofs only [CX,List.contains_cons,List.contains_nil,Nat.reduceBEq,Bool.or_false,BC,BA,A8,AY,BB,AL,BD,AX,AC,FC,AA,AZ,AU,BH,BG,FV,BV,ER,BQ,BK,CB,AB,DX,DF,BF,BN,↓reduceIte,Nat.reduceEqDiff,Nat.add_zero,Nat.zero_add,oGs,bNf,enP,AFM,AFL,ED,Option.getD_none,G5,IV,bxE,s0.l0,wrap_succ (show n < 9223372036854775807 by omega),s0.t0]
 have s1:=s0.set (n+1) dd f
 have c1:=Ch.set c v1 v2 (h ++ [.live 4 [EU e]]) (.live 5 [wRow (n+1) dd f v1 v2])
 clear s0
 generalize (h ++ [ABlk.live 4 [EU e]]).set c (.live 5 [wRow (n+1) dd f v1 v2])=H1 at s1 c1 ⊢
 simp -implicitDefEqProofs only [CX,List.contains_cons,List.contains_nil,Nat.reduceBEq,Bool.or_false,BI,A8,AY,BB,AL,BD,AX,AC,AA,AZ,BQ,AB,EZ,↓reduceIte,Nat.reduceEqDiff,oGs,bNf,enP,ED,s1.l1]
 refine VA (Md e c d v1 v2 h n n (n+1) (max dd d) f) (fun _ _=>False) (fun hb => ?_) (fun hb => ?_) ?_ (fun _ _ hh=>hh.elim)
 ·simp -implicitDefEqProofs only [CX,List.contains_cons,List.contains_nil,Nat.reduceBEq,Bool.or_false,BA,SC,AY,BB,AL,BD,AX,AC,FC,AA,AZ,BG,ER,BK,AB,DX,BF,BN,↓reduceIte,Nat.reduceEqDiff,Nat.zero_add,oGs,bNf,enP,AFL,ED,Option.getD_none,G5,IV,s1.t1]
  refine ⟨rfl,rfl,rfl,v1,v2,?_,c1.trans (Ch.set c _ _ _ _)⟩
  have:max dd d=d:=by simp at hb; omega
  rw [this]
  exact s1.set (n+1) d f
 ·simp -implicitDefEqProofs only [BO,SC]
  refine ⟨rfl,rfl,rfl,v1,v2,?_,c1⟩
  have:max dd d=dd:=by simp at hb; omega
  rw [this]
  exact s1
 clear s1 c1
 rintro F H ⟨f0,f2,f4,u1,u2,s,hC⟩
 simp -implicitDefEqProofs only [CX,List.contains_cons,List.contains_nil,Nat.reduceBEq,Bool.or_false,BC,BA,BI,A8,AY,BB,AL,BD,AX,AC,AA,AZ,AU,BH,BG,BV,BQ,BK,AB,D5,↓reduceIte,Nat.zero_add,oGs,bNf,enP,X0,ED,G5,IV,f0,s.l2]
 refine VA (Md e c d v1 v2 h n n (n+1) (max dd d) (V3 f [e])) (fun _ _=>False) (fun hb => ?_) (fun hb => ?_) ?_ (fun _ _ hh=>hh.elim)
 ·simp -implicitDefEqProofs only [CX,List.contains_cons,List.contains_nil,Nat.reduceBEq,Bool.or_false,BA,AY,AL,BD,AX,AC,AA,AZ,BX,BG,BV,BZ,BU,AB,lMc,lMn,lAn,↓reduceIte,Nat.reduceEqDiff,oGs,bNf,enP,ED,f0,f2,f4,MK (hbox _ _ _ hC)]
  refine (AME G e _ (by omega)).use ?_
  simp -implicitDefEqProofs only [CX,List.contains_cons,List.contains_nil,Nat.reduceBEq,Bool.or_false,SC,AY,BB,AL,BD,AX,AC,FC,AA,AZ,ER,BK,AB,DX,↓reduceIte,Nat.reduceEqDiff,Nat.zero_add,oGs,bNf,enP,X0,ED,Option.getD_none,G5,IV,s.t2,f0,f2,f4]
  refine ⟨f0,f2,f4,u1,u2,?_,hC.trans (Ch.set c _ _ _ _)⟩
  have:V3 f [e]=KA e:=by
   have:f=0:=by simpa using hb
   subst this; rfl
  rw [this]
  exact s.set _ _ _
 ·simp -implicitDefEqProofs only [BO,SC]
  refine ⟨f0,f2,f4,u1,u2,?_,hC⟩
  have:V3 f [e]=f:=by
   have:f≠0:=by simpa using hb
   show (if f=0 then KA e else f)=f
   rw [if_neg this]
  rw [this]; exact s
 clear f0 f2 f4 s hC
 rintro F H ⟨f0,f2,f4,u1,u2,s,hC⟩
 simp -implicitDefEqProofs only [BC,A8]
 refine FB (by kernel_rfl) ?_
 have hB:=hbox _ _ _ hC
 refine ARR (fun F H=>(∃ b,F 47 = .bool b)∧Md e c d v1 v2 h n n (n+1) (max dd d) (V3 f [e]) F H) ?_ ?_
 ·cases b2:(e.op == 2)
  ·simp -implicitDefEqProofs only [F8,CX,List.contains_cons,List.contains_nil,Nat.reduceBEq,Bool.or_false,EC,DW,FK,EF,E8,GG,YJ,FO,IJ,FD,IU,EI,CO,AA,EP,AZ,AU,BH,BM,CP,DR,BV,BQ,BK,AB,D5,↓reduceIte,Nat.reduceEqDiff,Nat.reduceAdd,Nat.add_zero,oGs,enP,IL,f0,f2,f4,lb0 _ hB,b2]
   exact ⟨⟨_,rfl⟩,f0,f2,f4,u1,u2,s,hC⟩
  ·obtain ⟨r,hr⟩:=APV G e.name s.s1 (by omega)
   simp -implicitDefEqProofs only [F8,CX,List.contains_cons,List.contains_nil,Nat.reduceBEq,Bool.or_false,EC,DW,EF,E8,GG,OQ,FO,FD,IU,AA2,EI,GL,FW,CO,AA,AZ,AU,BX,BH,BV,BQ,G6,BK,AB,D5,lMc,lMn,lAn,↓reduceIte,Nat.reduceEqDiff,Nat.reduceAdd,Nat.add_zero,Nat.zero_add,oGs,enP,IL,LG,ALY,G5,OT,IV,f0,f2,f4,lb0 _ hB,lb2 _ hB,b2,s.l3]
   refine ⟨_,hr,?_⟩
   simp -implicitDefEqProofs only [F8,CX,List.contains_cons,List.contains_nil,Nat.reduceBEq,Bool.or_false,EC,DW,FK,EF,IJ,AA,AZ,AU,BM,CP,DN,AB,EY,↓reduceIte,Nat.reduceEqDiff,Nat.reduceAdd,oGs,f0,f2,f4]
   exact ⟨⟨_,rfl⟩,f0,f2,f4,u1,u2,s,hC⟩
 clear f0 f2 f4 s hC hB
 rintro F H ⟨⟨b,f47⟩,f0,f2,f4,u1,u2,s,hC⟩
 have hB:=hbox _ _ _ hC
 simp -implicitDefEqProofs only [BI,A8,AZ,f47]
 refine VA (Md e c d v1 v2 h (n+1) n (n+1) (max dd d) (V3 f [e])) (fun _ _=>False) (fun hb => ?_) (fun hb => ?_) ?_ (fun _ _ hh=>hh.elim)
 ·obtain ⟨v',H',ha,ht,s',hC'⟩:=s.app3 e.name (by omega)
  refine FB (by kernel_rfl) ?_
  simp -implicitDefEqProofs only [F8,FZ,F6,CX,List.contains_cons,List.contains_nil,Nat.reduceBEq,Bool.or_false,EC,DW,LU,FK,EF,FO,J7,FD,LM,EI,IM,SC,AA,AZ,EQ,BV,ER,BK,IQ,CB,AB,DX,↓reduceIte,Nat.reduceEqDiff,Nat.reduceAdd,Nat.zero_add,oGs,enP,LG,ALY,Option.getD_none,G5,OT,IV,f0,f2,f4,lb2 _ hB,s.l3,AQY,ha,ht]
  exact ⟨f0,f2,f4,_,_,s',hC.trans hC'⟩
 ·simp -implicitDefEqProofs only [BO,SC]
  exact ⟨f0,f2,f4,_,_,s.weak (by omega) (by omega),hC⟩
 clear f0 f2 f4 s hC hB
 rintro F H ⟨f0,f2,f4,u1,u2,s,hC⟩
 have hB:=hbox _ _ _ hC
 simp -implicitDefEqProofs only [BC,A8]
 refine FB (by kernel_rfl) ?_
 refine ARR (fun F H=>(∃ b,F 76 = .bool b)∧Md e c d v1 v2 h (n+1) n (n+1) (max dd d) (V3 f [e]) F H) ?_ ?_
 ·obtain ⟨r,hr⟩:=APV G e.name s.s2 (by omega)
  cases b2:(e.op == 3)
  ·cases b3:(e.op == 24)
   ·simp -implicitDefEqProofs only [F8,CX,List.contains_cons,List.contains_nil,Nat.reduceBEq,Bool.or_false,EC,DW,FK,EF,E8,GG,VH,YJ,FO,IJ,FD,IU,EI,CO,AA,EP,AZ,AU,BH,BM,CP,DR,BV,BQ,BK,AB,D5,↓reduceIte,Nat.reduceEqDiff,Nat.reduceAdd,Nat.add_zero,oGs,enP,IL,f0,f2,f4,lb0 _ hB,b2,b3]
    exact ⟨⟨_,rfl⟩,f0,f2,f4,u1,u2,s,hC⟩
   ·simp -implicitDefEqProofs only [F8,CX,List.contains_cons,List.contains_nil,Nat.reduceBEq,Bool.or_false,EC,DW,EF,E8,GG,OQ,VH,FO,IJ,FD,IU,AA2,EI,GL,FW,CO,AA,AZ,AU,BX,BH,BM,CP,DR,BV,BQ,G6,BK,AB,D5,lMc,lMn,lAn,↓reduceIte,Nat.reduceEqDiff,Nat.reduceAdd,Nat.add_zero,Nat.zero_add,oGs,enP,IL,LG,AFK,G5,OT,IV,f0,f2,f4,lb0 _ hB,lb2 _ hB,b2,b3,s.l4]
    refine ⟨_,hr,?_⟩
    simp -implicitDefEqProofs only [F8,CX,List.contains_cons,List.contains_nil,Nat.reduceBEq,Bool.or_false,EC,DW,FK,EF,IJ,AA,AZ,AU,BM,CP,DN,AB,EY,↓reduceIte,Nat.reduceEqDiff,Nat.reduceAdd,oGs,f0,f2,f4]
    exact ⟨⟨_,rfl⟩,f0,f2,f4,u1,u2,s,hC⟩
  ·simp -implicitDefEqProofs only [F8,CX,List.contains_cons,List.contains_nil,Nat.reduceBEq,Bool.or_false,EC,DW,EF,E8,GG,OQ,ACZ,FO,IJ,FD,IU,AA2,EI,GL,FW,CO,AA,EP,AZ,AU,BX,BH,BM,CP,DN,BV,BQ,G6,BK,AB,D5,lMc,lMn,lAn,↓reduceIte,Nat.reduceEqDiff,Nat.reduceAdd,Nat.add_zero,Nat.zero_add,oGs,enP,IL,LG,AFK,G5,OT,IV,f0,f2,f4,lb0 _ hB,lb2 _ hB,b2,s.l4]
   refine ⟨_,hr,?_⟩
   simp -implicitDefEqProofs only [F8,CX,List.contains_cons,List.contains_nil,Nat.reduceBEq,Bool.or_false,EC,DW,FK,EF,IJ,AA,AZ,AU,BM,CP,DN,AB,EY,↓reduceIte,Nat.reduceEqDiff,Nat.reduceAdd,oGs,f0,f2,f4]
   exact ⟨⟨_,rfl⟩,f0,f2,f4,u1,u2,s,hC⟩
 clear f0 f2 f4 s hC hB f47
 rintro F H ⟨⟨b,f76⟩,f0,f2,f4,u1,u2,s,hC⟩
 have hB:=hbox _ _ _ hC
 simp -implicitDefEqProofs only [BI,A8,AZ,f76]
 refine VA (Md e c d v1 v2 h (n+1) (n+1) (n+1) (max dd d) (V3 f [e])) (fun _ _=>False) (fun hb => ?_) (fun hb => ?_) ?_ (fun _ _ hh=>hh.elim)
 ·obtain ⟨v',H',ha,ht,s',hC'⟩:=s.app4 e.name (by omega)
  refine FB (by kernel_rfl) ?_
  simp -implicitDefEqProofs only [F8,FZ,F6,CX,List.contains_cons,List.contains_nil,Nat.reduceBEq,Bool.or_false,Bool.or_true,EC,DW,LU,FK,EF,FO,J7,FD,LM,EI,IM,SC,AA,AZ,EQ,BV,ER,BK,IQ,CB,AB,DX,↓reduceIte,Nat.reduceEqDiff,Nat.reduceAdd,Nat.zero_add,oGs,enP,LG,AFK,Option.getD_none,G5,OT,IV,f0,f2,f4,lb2 _ hB,s.l4,AQY,ha,ht]
  exact ⟨f0,f2,f4,_,_,s',hC.trans hC'⟩
 ·simp -implicitDefEqProofs only [BO,SC]
  exact ⟨f0,f2,f4,_,_,s.weak (by omega) (by omega),hC⟩
 clear f0 f2 f4 s hC hB f76
 rintro F H ⟨f0,f2,f4,u1,u2,s,hC⟩
 simp -implicitDefEqProofs only [CX,List.contains_cons,List.contains_nil,Nat.reduceBEq,Bool.or_false,BC,BR,BA,A8,AY,BB,AL,BD,AX,AC,AU,BH,A7,oGs,bNf,ED]
 refine DT (fun k F H => ∃ j,k+j=e.args.length∧F 6 = .int .i64 (j:Nat)∧Md e c d v1 v2 h (n+1+(JQ (e.args.take j)).length) (n+1+(JQ (e.args.take j)).length) (n+1+(JQ (e.args.take j)).length) (max dd (d+deps (e.args.take j))) (V3 (V3 f [e]) (JQ (e.args.take j))) F H) e.args.length ⟨0,by simp,rfl,f0,f2,f4,u1,u2,s,hC⟩ ?_
 clear f0 f2 f4 s hC
 rintro k F H ⟨j,hj,f6,f0,f2,f4,u1,u2,s,hC⟩
 have hB:=hbox _ _ _ hC
 simp -implicitDefEqProofs only [CX,List.contains_cons,List.contains_nil,Nat.reduceBEq,Bool.or_false,BC,BA,BI,A8,AY,BB,AL,BD,AX,AC,AA,AZ,BG,BV,BQ,BK,DZ,AB,DC,↓reduceIte,Nat.reduceEqDiff,Nat.zero_add,oGs,bNf,enP,AC6,O1,ED,f6,f4,lb3 _ hB,lLm]
 refine CV (fun hlt => ?_) (fun hlt => ?_)
 ·have hj':j < e.args.length:=by simpa using hlt
  have hmem:e.args[j]∈e.args:=List.getElem_mem hj'
  have hwa:=QU hmem
  have hpl:(JQ (e.args.take j)).length+(pre e.args[j]).length≤wts e.args:=by
   have h1:=AHC e.args
   have h2:JQ e.args=JQ (e.args.take j) ++ (pre e.args[j] ++ JQ (e.args.drop (j+1))):=by
    rw [← List.append_assoc,← NM _ _ hj',← PL,List.take_append_drop]
   rw [h2] at h1; simp at h1; omega
  have hsp:(JQ (e.args.take j)).length+wt e.args[j]≤wts e.args:=by
   have h1:=AHC (e.args.take j)
   have h2:=AGF e.args j hj'
   omega
  have hdt:deps (e.args.take j)≤wts e.args:=YA e.args j
  simp -implicitDefEqProofs only [CX,List.contains_cons,List.contains_nil,Nat.reduceBEq,Bool.or_false,BC,BR,BA,BO,A8,AY,AL,BD,AX,AC,AA,AZ,AU,BX,BH,BG,BV,BQ,BK,CG,BZ,BU,AB,DF,lMc,lMn,lAn,↓reduceIte,Nat.reduceEqDiff,Nat.zero_add,oGs,bNf,enP,AJS,O1,ED,f0,f2,f4,f6,lb3 _ hB,D6 hj',FP AAK WI JX hj',wrap_succ (show d < 9223372036854775807 by omega)]
  refine (ih e.args[j] hmem (by omega) H (d+1) _ _ _ u1 u2 (by omega) (by omega) (by omega) s).mono ?_
  rintro v H' ⟨w1,w2,s',hC'⟩
  simp -implicitDefEqProofs only [CX,List.contains_cons,List.contains_nil,Nat.reduceBEq,Bool.or_false,BA,A8,EE,EN,AY,BB,AL,BD,AX,AC,AA,AZ,AU,BH,BG,A7,BQ,AB,DF,↓reduceIte,Nat.reduceEqDiff,oGs,bNf,enP,ED,f6,wrap_succ (show j < 9223372036854775807 by omega)]
  refine ⟨k - 1,by omega,j+1,by omega,rfl,f0,f2,f4,w1,w2,?_,hC.trans hC'⟩
  rw [NM _ _ hj',AEH _ _ hj',AH6,List.length_append]
  have e1:max (max dd (d+deps (e.args.take j))) (d+1+deps e.args[j].args)=max dd (d+max (deps (e.args.take j)) (dep e.args[j])):=by
   rw [AFT]; omega
  rw [e1,Nat.add_assoc (n+1)] at s'
  exact s'
 ·have hj' : ¬ j < e.args.length:=by simpa using hlt
  rw [List.take_of_length_le (by omega)] at s
  simp -implicitDefEqProofs only [DJ,D9,EX,EW,AFQ,↓reduceIte]
  refine ⟨u1,u2,?_,c0.trans hC⟩
  have e1:n+1+(JQ e.args).length=n+(pre e).length:=by rw [pre_eq]; simp; omega
  have e2:V3 (V3 f [e]) (JQ e.args)=V3 f (pre e):=by rw [pre_eq,← AH6]; rfl
  rw [e1,e2] at s
  exact s
theorem AY9:KP Tryz.prog 181 []=some (.agg [.int .i64 0,.int .i64 0,.int .i64 0,.sl .nil 0 [],.sl .nil 0 []]):=by kernel_rfl
theorem AYN (h:Hp):PQ h (.agg [.int .i64 0,.int .i64 0,.int .i64 0,.sl .nil 0 [],.sl .nil 0 []])=some (.ptr h.length 0 0,h ++ [.live 5 [wRow 0 0 0 (.sl .nil 0 []) (.sl .nil 0 [])]]):=YC rfl
theorem AHG (G:Nat→AV) (e:Ex) (hw:wt e≤1048576) (h:Hp) :
  ACalls (En G) 149 [.agg (EU e)] h fun v h' => ∃ c m u1 u2,v = .ptr c 0 0∧St h' c m m (pre e).length (dep e) (errs (pre e)) u1 u2∧∃ x,h'=h ++ x:=by
 refine CE (H:=Hint.none) (enM G) Tryz.func149 rfl (by kernel_rfl) (by kernel_rfl) (nLb (by kernel_rfl)) ?_
 show awp _ _ _ _ _ (EJ _ [.tmp 2] _)
 simp -implicitDefEqProofs only [FZ,BC,BA,A8,AY,BB,AO,AQ,AL,BD,AX,AC,AA,AZ,AU,BX,BH,AUB,BG,A7,FV,KR,BV,BZ,BU,CB,AB,BF,lMc,lMn,lAn,↓reduceIte,Nat.reduceEqDiff,oGs,bNf,enP,bxE,AY9,AYN,MK (CW (CZ h _))]
 have nb : ∀ b,¬ isB (.sl .nil 0 []) b:=fun b hb=>hb
 refine (ASF G _ e hw _ 1 0 0 0 (.sl .nil 0 []) (.sl .nil 0 []) (by omega) (by omega) (by omega) ⟨CZ _ _,⟨[],by simp,.inl ⟨rfl,_,rfl⟩⟩,⟨[],by simp,.inl ⟨rfl,_,rfl⟩⟩,fun b hb=>(nb b hb).elim⟩).mono ?_
 rintro v h' ⟨u1,u2,s,hC⟩
 simp -implicitDefEqProofs only [BC,BA,BL,A8,CJ,AY,BB,AO,AQ,AL,BD,AX,AC,AA,AZ,BG,A7,↓reduceIte,Nat.reduceEqDiff,oGs,bNf]
 have e1:0+(pre e).length=(pre e).length:=Nat.zero_add _
 have e2:max 0 (1+deps e.args)=dep e:=by rw [AFT]; omega
 rw [e1,e2] at s
 refine ⟨_,_,u1,u2,rfl,s,?_⟩
 have hC2:=((Ch.app (h ++ [ABlk.live 4 [EU e]]).length (.sl .nil 0 []) (.sl .nil 0 []) h [.live 4 [EU e]]).trans (Ch.app _ _ _ _ [.live 5 [wRow 0 0 0 (.sl .nil 0 []) (.sl .nil 0 [])]])).trans hC
 refine Chg.above (c:=(h ++ [ABlk.live 4 [EU e]]).length) ⟨hC2.len,fun b hb hne=>hC2.get b hb hne (nb b) (nb b)⟩ (by simp)
theorem ZY (G:Nat→AV) (e:Ex) (h:Hp) (hw:wt e≤1048576):PCall (En G) 161 [.agg (EU e)] h (.int .i64 (exE e)):=by
 refine ACalls.pure0 rfl ?_
 refine CE (H:=Hint.none) (enM G) Tryz.func161 rfl (by kernel_rfl) (by kernel_rfl) (nLb (by kernel_rfl)) ?_
 show awp _ _ _ _ _ (EJ _ [.tmp 2] _)
 simp -implicitDefEqProofs only [BC,BA,A8,AY,BB,AO,AQ,AL,BD,AX,AC,AA,AZ,AU,BX,BH,A7,FV,BV,BZ,BU,CB,AB,BF,lMc,lMn,lAn,↓reduceIte,Nat.reduceEqDiff,oGs,bNf,enP,bxE,ldE]
 refine (AHG G e hw _).mono ?_
 rintro v h' ⟨c,m,u1,u2,rfl,s,x,rfl⟩
 simp -implicitDefEqProofs only [BC,BA,A8,AY,BB,BJ,BP,CO,AO,AQ,AL,BD,AX,AC,AA,AZ,AU,BH,BG,A7,BV,BQ,BK,AB,D5,↓reduceIte,Nat.zero_add,oGs,bNf,enP,X0,G5,IV,s.l2]
 rcases he:(errs (pre e) == 0) with _ | _
 ·simp -implicitDefEqProofs only [BC,BA,BO,BL,BI,A8,CJ,DU,AY,BB,BJ,BP,CO,H8,QR,AO,AQ,AL,BD,AX,AC,AA,EP,AZ,AU,BM,BG,A7,CP,DR,BV,BK,AB,↓reduceIte,Nat.reduceEqDiff,Nat.zero_add,oGs,bNf,enP,X0,G5,IV,s.l2]
  have:errs (pre e)≠0:=by simpa using he
  exact ⟨by unfold exE; rw [if_neg (fun hh=>this hh.1)],_,by rw [List.append_assoc]⟩
 have he0:errs (pre e)=0:=by simpa using he
 simp -implicitDefEqProofs only [BJ,BP,CO,F7,AO,AQ,AL,BD,AX,AC,AA,AZ,AU,BH,BG,BV,BQ,BK,AB,EZ,↓reduceIte,Nat.reduceEqDiff,Nat.zero_add,oGs,bNf,enP,AFL,G5,IV,s.l1]
 refine G9 (fun hd => ?_) (fun hd => ?_)
 ·simp -implicitDefEqProofs only [BC,BA,BL,BI,A8,CQ,CJ,CY,AY,BB,BJ,BP,CO,F7,FQ,AO,AQ,AL,BD,AX,AC,AA,EP,AZ,AU,BH,BM,A7,CP,DN,↓reduceIte,Nat.reduceEqDiff,oGs,bNf,hd]
  exact ⟨by unfold exE; rw [if_pos ⟨he0,.inl (by simp at hd; omega)⟩],_,by rw [List.append_assoc]⟩
 simp -implicitDefEqProofs only [BI,A8,AY,BB,BJ,BP,CO,F7,EM,AO,AQ,AL,BD,AX,AC,AA,AZ,AU,BH,BM,BG,CP,DN,DR,BV,BQ,BK,AB,EZ,↓reduceIte,Nat.reduceEqDiff,Nat.add_zero,oGs,bNf,enP,AFM,G5,IV,hd,s.l0]
 refine CV (fun hn => ?_) (fun hn => ?_)
 ·simp -implicitDefEqProofs only [BC,BA,BL,A8,CQ,CJ,AY,BB,AO,AQ,AL,BD,AX,AC,AA,AU,BH,A7,↓reduceIte,oGs,bNf]
  exact ⟨by unfold exE; rw [if_pos ⟨he0,.inr (by simp at hn; omega)⟩],_,by rw [List.append_assoc]⟩
 ·simp -implicitDefEqProofs only [BC,BA,BO,BL,A8,CJ,AY,BB,AO,AQ,AL,BD,AX,AC,AA,AZ,BG,A7,BV,BK,AB,↓reduceIte,Nat.reduceEqDiff,Nat.zero_add,oGs,bNf,enP,X0,G5,IV,s.l2]
  exact ⟨by unfold exE; rw [if_neg (fun hh=>by simp at hn hd; omega)],_,by rw [List.append_assoc]⟩
structure Is where
 m:SM
 l:List Int
def encL (x:Is):List AV := [.sl x.m 1 (x.l.map encI)]
theorem OD (x:Is):(encL x)[0]? = some (.sl x.m 1 (x.l.map encI)):=rfl
theorem X6 (x:Is):(encL x).length=1:=rfl
structure Pt where
 name:ByteArray
 ex:Ex
 bm:SM
 bins:List Bin
def FH (p:Pt):List AV := .str p.name :: (EU p.ex ++ [.sl p.bm 4 (p.bins.map GN)])
theorem AL2 (p:Pt):(FH p)[0]? = some (.str p.name):=rfl
theorem LH (p:Pt):(FH p)[5]? = some (.sl p.bm 4 (p.bins.map GN)):=by unfold FH; rw [OE]; rfl
theorem IW (p:Pt):(FH p).length=6:=by unfold FH; rw [OE]; rfl
theorem AED (p:Pt):(FH p).all AV.leaf=true:=by unfold FH; rw [OE]; rfl
theorem AL1 (p:Pt):((FH p).drop 1).take 4=EU p.ex:=by unfold FH; rw [OE]; rfl
theorem bxP (h:Hp) (p:Pt):PQ h (.agg (FH p))=some (.ptr h.length 0 0,h ++ [.live 6 [FH p]]):=by
 have:=YC (h:=h) (AED p)
 rw [IW] at this; exact this
theorem AE6 {h:Hp} {b:Nat} {p:Pt} (hb:h[b]? = some (.live 6 [FH p])):D7 Tryz.prog h 53 (.ptr b 0 1)=some (.agg (EU p.ex)):=by
 rw [JJ AAK WI hb rfl (by rw [IW]; omega),AL1]
structure Cr where
 name:ByteArray
 pm:SM
 pts:List Int
 xm:SM
 excl:List Is
def F9 (c:Cr):List AV := [.str c.name,.sl c.pm 1 (c.pts.map encI),.sl c.xm 1 (c.excl.map encL)]
theorem AL4 (c:Cr):(F9 c)[0]? = some (.str c.name):=rfl
theorem AEG (c:Cr):(F9 c)[1]? = some (.sl c.pm 1 (c.pts.map encI)):=rfl
theorem AIA (c:Cr):(F9 c)[2]? = some (.sl c.xm 1 (c.excl.map encL)):=rfl
theorem JY (c:Cr):(F9 c).length=3:=rfl
theorem bxC (h:Hp) (c:Cr):PQ h (.agg (F9 c))=some (.ptr h.length 0 0,h ++ [.live 3 [F9 c]]):=rfl
structure Mo where
 pm:SM
 pts:List Pt
 cm:SM
 crs:List Cr
def EH (m:Mo):List AV := [.sl m.pm 6 (m.pts.map FH),.sl m.cm 3 (m.crs.map F9)]
theorem OC (m:Mo):(EH m)[0]? = some (.sl m.pm 6 (m.pts.map FH)):=rfl
theorem U7 (m:Mo):(EH m)[1]? = some (.sl m.cm 3 (m.crs.map F9)):=rfl
theorem AQF (m:Mo):(EH m).length=2:=rfl
theorem bxM (h:Hp) (m:Mo):PQ h (.agg (EH m))=some (.ptr h.length 0 0,h ++ [.live 2 [EH m]]):=rfl
def ADC:List ByteArray→List ByteArray→Bool
 | _,[]=>false
 | seen,x :: xs=>IR seen x || ADC (seen ++ [x]) xs
def OL (l:List ByteArray):Bool:=ADC [] l
theorem QC (N:List ByteArray) (i:Nat) (hi:i < N.length):ADC (N.take i) (N.drop i)=(IR (N.take i) N[i] || ADC (N.take (i+1)) (N.drop (i+1))):=by
 rw [List.drop_eq_getElem_cons hi,List.take_succ_eq_append_getElem hi]; rfl
theorem IB {α:Type} {l:List α} {i:Nat} {hi:i < l.length} {x:α} (h:l[i]? = some x):l[i]=x:=by
 rw [List.getElem?_eq_getElem hi] at h; exact Option.some.inj h
theorem ALP (G:Nat→AV) (x:Bin) (h:Hp):PCall (En G) 154 [.agg (GN x)] h (.str x.name):=by
 refine ACalls.pure0 rfl ?_
 refine CE (H:=Hint.none) (enM G) Tryz.func154 rfl (by kernel_rfl) (by kernel_rfl) (nLb (by kernel_rfl)) ?_
 show awp _ _ _ _ _ (EJ _ [.tmp 2] _)
 simp -implicitDefEqProofs only [BC,BA,BL,A8,CJ,AY,BB,AO,AQ,AL,BD,AX,AC,AA,AZ,AU,IX,A7,FV,BV,BK,CB,AB,BF,↓reduceIte,Nat.reduceEqDiff,Nat.add_zero,oGs,bNf,enP,AAX,bxB,DI ag9,AL5]
 exact ⟨trivial,_,rfl⟩
theorem AMZ (G:Nat→AV) (xs:List Bin) (m:SM) (h:Hp) (hl:xs.length≤1099511627776) :
  PCall (En G) 153 [.sl m 4 (xs.map GN),.fn (.func 154) [] []] h (.bool (OL (xs.map (·.name)))):=by
 refine CE (H:=Hint.none) (enM G) Tryz.func153 rfl (by kernel_rfl) (by kernel_rfl) (nLb (by kernel_rfl)) ?_
 show awp _ _ _ _ _ (EJ _ [.tmp 4] _)
 simp -implicitDefEqProofs only [BC,BR,BA,A8,AY,BB,AO,AQ,AL,BD,AX,AC,AA,AZ,AU,BH,BM,BG,A7,DZ,AB,BF,↓reduceIte,Nat.reduceEqDiff,oGs,bNf,enP,OV,lLm]
 generalize hN:xs.map (·.name)=N
 have hNl:N.length=xs.length:=by rw [← hN]; simp
 have hNi : ∀ i (hi:i < xs.length),N[i]? = some xs[i].name:=fun i hi=>by rw [← hN,List.getElem?_map,List.getElem?_eq_getElem hi]; rfl
 refine DT (fun n F H => ∃ i,n+i=xs.length∧F 0 = .sl m 4 (xs.map GN)∧F 1 = .fn (.func 154) [] []∧F 8 = .int .i64 xs.length∧F 9 = .int .i64 (i:Nat)∧H=h∧OL N=ADC (N.take i) (N.drop i)) xs.length ⟨0,by simp,by simp -implicitDefEqProofs only [AA,BF,↓reduceIte,Nat.reduceEqDiff],by simp -implicitDefEqProofs only [AA,BF,BN,↓reduceIte,Nat.reduceEqDiff],by simp -implicitDefEqProofs only [AA,↓reduceIte,Nat.reduceEqDiff],by simp -implicitDefEqProofs only [AA,↓reduceIte]; rfl,rfl,rfl⟩ ?_
 rintro n F H ⟨i,hi,f0,f1,f8,f9,rfl,hd⟩
 simp -implicitDefEqProofs only [BC,BA,BI,A8,AY,BB,AO,AQ,AL,BD,AX,AC,AA,AZ,BQ,AB,DC,↓reduceIte,oGs,bNf,enP,f8,f9]
 refine CV (fun hc => ?_) (fun hc => ?_)
 ·have hi':i < xs.length:=by simpa using hc
  have hdrop:=QC N i (by omega)
  rw [IB (hNi i hi')] at hdrop
  simp -implicitDefEqProofs only [BC,BR,BA,BO,A8,AY,BB,AO,AQ,AL,BD,AX,AC,AA,AZ,AU,BH,BG,A7,↓reduceIte,Nat.reduceEqDiff,oGs,bNf,f9]
  refine GV 2 (fun F' H'=>F' 0 = .sl m 4 (xs.map GN)∧F' 1 = .fn (.func 154) [] []∧F' 8 = .int .i64 xs.length∧F' 9 = .int .i64 (i:Nat)∧H'=H∧IR (N.take i) xs[i].name=false) (fun F' H'=>F' 4 = .bool (OL N)∧H'=H) ?_ ?_ ?_
  ·refine DT (fun n F' H' => ∃ k,n+k=i∧F' 0 = .sl m 4 (xs.map GN)∧F' 1 = .fn (.func 154) [] []∧F' 8 = .int .i64 xs.length∧F' 9 = .int .i64 (i:Nat)∧F' 5 = .int .i64 (i:Nat)∧F' 12 = .int .i64 (i:Nat)∧F' 13 = .int .i64 (k:Nat)∧H'=H∧IR (N.take i) xs[i].name=IR ((N.take i).drop k) xs[i].name) i ⟨0,by simp,by simp -implicitDefEqProofs only [AA,↓reduceIte,Nat.reduceEqDiff,f0],by simp -implicitDefEqProofs only [AA,↓reduceIte,Nat.reduceEqDiff,f1],by simp -implicitDefEqProofs only [AA,↓reduceIte,Nat.reduceEqDiff,f8],by simp -implicitDefEqProofs only [AA,↓reduceIte,Nat.reduceEqDiff,f9],by simp -implicitDefEqProofs only [AA,↓reduceIte,Nat.reduceEqDiff],by simp -implicitDefEqProofs only [AA,↓reduceIte,Nat.reduceEqDiff],by simp -implicitDefEqProofs only [AA,↓reduceIte]; rfl,rfl,rfl⟩ ?_
   clear f0 f1 f8 f9
   rintro n' F H' ⟨k,hk,f0,f1,f8,f9,f5,f12,f13,rfl,hin⟩
   simp -implicitDefEqProofs only [BC,BA,BI,A8,AY,BB,AO,AQ,AL,BD,AX,AC,AA,AZ,BQ,AB,DC,↓reduceIte,oGs,bNf,enP,f12,f13]
   refine CV (fun hc => ?_) (fun hc => ?_)
   ·have hk':k < i:=by simpa using hc
    have hk2:k < xs.length:=by omega
    have hs:=KJ (fun u=>xs[i].name.toList == u.toList) (N.take i) k (by rw [List.length_take]; omega)
    have hx:(N.take i)[k]'(by rw [List.length_take]; omega)=xs[k].name:=by
     rw [List.getElem_take]; exact IB (hNi k hk2)
    rw [hx] at hs
    simp -implicitDefEqProofs only [BC,BR,BA,BO,A8,AY,BB,AO,AQ,AL,BD,AX,AC,AA,AZ,BG,A7,↓reduceIte,Nat.reduceEqDiff,oGs,bNf,f13]
    refine FB (by kernel_rfl) ?_
    simp -implicitDefEqProofs only [F8,EC,DW,EF,FO,FD,IU,EK,GL,FW,AO,AA,AZ,BV,BQ,CG,AB,lMc,lMn,lAn,↓reduceIte,Nat.reduceEqDiff,Nat.reduceAdd,oGs,enP,WV,f0,f1,f5,D6 hi',D6 hk2,FP TU PI LZ hi',FP TU PI LZ hk2]
    refine ⟨_,ALP G xs[i] _,?_⟩
    refine ⟨_,ALP G xs[k] _,?_⟩
    try simp -implicitDefEqProofs only [DW,FK,BI,A8,AA,AZ,AB,LJ,↓reduceIte]
    refine CV (fun hb => ?_) (fun hb => ?_)
    ·simp -implicitDefEqProofs only [BC,BA,BL,A8,CQ,D8,MZ,FI,AY,BB,AO,AQ,AL,BD,AX,AC,AA,AU,BM,A7,↓reduceIte,oGs,bNf]
     refine ⟨?_,trivial⟩
     have:IR (N.take i) xs[i].name=true:=by
      rw [hin]; unfold IR; rw [hs,hb]; rfl
     rw [hd,hdrop,this]; rfl
    ·simp -implicitDefEqProofs only [BA,BO,A8,EE,EN,AY,BB,AO,AQ,AL,BD,AX,AC,AA,AZ,AU,BH,BG,BQ,AB,DF,↓reduceIte,Nat.reduceEqDiff,oGs,bNf,enP,f13,wrap_succ (show k < 9223372036854775807 by omega)]
     refine ⟨n' - 1,by omega,k+1,by omega,f0,f1,f8,f9,f5,f12,rfl,trivial,?_⟩
     rw [hin]; unfold IR; rw [hs,hb]; rfl
   ·have hk' : ¬ k < i:=by simpa using hc
    simp -implicitDefEqProofs only [DJ,D9,J4,EW,AA,↓reduceIte,Nat.reduceEqDiff]
    refine ⟨f0,f1,f8,f9,trivial,?_⟩
    rw [hin,List.drop_eq_nil_of_le (by rw [List.length_take]; omega)]; rfl
  ·rintro F' H' ⟨g0,g1,g8,g9,rfl,hn⟩
   simp -implicitDefEqProofs only [BA,A8,EE,EX,EN,AY,BB,AO,AQ,AL,BD,AX,AC,AA,AZ,AU,BH,BG,BQ,AB,DF,↓reduceIte,Nat.reduceEqDiff,oGs,bNf,enP,g9,wrap_succ (show i < 9223372036854775807 by omega)]
   refine ⟨n - 1,by omega,i+1,by omega,g0,g1,g8,rfl,trivial,?_⟩
   rw [hd,hdrop,hn]; rfl
  ·rintro F' H' ⟨g4,rfl⟩
   simp -implicitDefEqProofs only [CQ,D8,FI,CJ,g4]
   exact ⟨trivial,trivial⟩
 ·have hi' : ¬ i < xs.length:=by simpa using hc
  simp -implicitDefEqProofs only [BC,BA,BL,DJ,A8,D9,EX,EW,CJ,AY,BB,AO,AQ,AL,BD,AX,AC,AA,AU,BM,A7,↓reduceIte,oGs,bNf]
  exact ⟨by rw [hd,List.drop_eq_nil_of_le (by omega)]; rfl,trivial⟩
theorem ALN (G:Nat→AV) (x:Pt) (h:Hp):PCall (En G) 129 [.agg (FH x)] h (.str x.name):=by
 refine ACalls.pure0 rfl ?_
 refine CE (H:=Hint.none) (enM G) Tryz.func129 rfl (by kernel_rfl) (by kernel_rfl) (nLb (by kernel_rfl)) ?_
 show awp _ _ _ _ _ (EJ _ [.tmp 2] _)
 simp -implicitDefEqProofs only [BC,BA,BL,A8,CJ,AY,BB,AO,AQ,AL,BD,AX,AC,AA,AZ,AU,IX,A7,FV,BV,BK,CB,AB,BF,↓reduceIte,Nat.reduceEqDiff,Nat.add_zero,oGs,bNf,enP,AFJ,bxP,DI ag9,AL2]
 exact ⟨trivial,_,rfl⟩
theorem AMX (G:Nat→AV) (xs:List Pt) (m:SM) (h:Hp) (hl:xs.length≤1099511627776) :
  PCall (En G) 128 [.sl m 6 (xs.map FH),.fn (.func 129) [] []] h (.bool (OL (xs.map (·.name)))):=by
 refine CE (H:=Hint.none) (enM G) Tryz.func128 rfl (by kernel_rfl) (by kernel_rfl) (nLb (by kernel_rfl)) ?_
 show awp _ _ _ _ _ (EJ _ [.tmp 4] _)
 simp -implicitDefEqProofs only [BC,BR,BA,A8,AY,BB,AO,AQ,AL,BD,AX,AC,AA,AZ,AU,BH,BM,BG,A7,DZ,AB,BF,↓reduceIte,Nat.reduceEqDiff,oGs,bNf,enP,PM,lLm]
 generalize hN:xs.map (·.name)=N
 have hNl:N.length=xs.length:=by rw [← hN]; simp
 have hNi : ∀ i (hi:i < xs.length),N[i]? = some xs[i].name:=fun i hi=>by rw [← hN,List.getElem?_map,List.getElem?_eq_getElem hi]; rfl
 refine DT (fun n F H => ∃ i,n+i=xs.length∧F 0 = .sl m 6 (xs.map FH)∧F 1 = .fn (.func 129) [] []∧F 8 = .int .i64 xs.length∧F 9 = .int .i64 (i:Nat)∧H=h∧OL N=ADC (N.take i) (N.drop i)) xs.length ⟨0,by simp,by simp -implicitDefEqProofs only [AA,BF,↓reduceIte,Nat.reduceEqDiff],by simp -implicitDefEqProofs only [AA,BF,BN,↓reduceIte,Nat.reduceEqDiff],by simp -implicitDefEqProofs only [AA,↓reduceIte,Nat.reduceEqDiff],by simp -implicitDefEqProofs only [AA,↓reduceIte]; rfl,rfl,rfl⟩ ?_
 rintro n F H ⟨i,hi,f0,f1,f8,f9,rfl,hd⟩
 simp -implicitDefEqProofs only [BC,BA,BI,A8,AY,BB,AO,AQ,AL,BD,AX,AC,AA,AZ,BQ,AB,DC,↓reduceIte,oGs,bNf,enP,f8,f9]
 refine CV (fun hc => ?_) (fun hc => ?_)
 ·have hi':i < xs.length:=by simpa using hc
  have hdrop:=QC N i (by omega)
  rw [IB (hNi i hi')] at hdrop
  simp -implicitDefEqProofs only [BC,BR,BA,BO,A8,AY,BB,AO,AQ,AL,BD,AX,AC,AA,AZ,AU,BH,BG,A7,↓reduceIte,Nat.reduceEqDiff,oGs,bNf,f9]
  refine GV 2 (fun F' H'=>F' 0 = .sl m 6 (xs.map FH)∧F' 1 = .fn (.func 129) [] []∧F' 8 = .int .i64 xs.length∧F' 9 = .int .i64 (i:Nat)∧H'=H∧IR (N.take i) xs[i].name=false) (fun F' H'=>F' 4 = .bool (OL N)∧H'=H) ?_ ?_ ?_
  ·refine DT (fun n F' H' => ∃ k,n+k=i∧F' 0 = .sl m 6 (xs.map FH)∧F' 1 = .fn (.func 129) [] []∧F' 8 = .int .i64 xs.length∧F' 9 = .int .i64 (i:Nat)∧F' 5 = .int .i64 (i:Nat)∧F' 12 = .int .i64 (i:Nat)∧F' 13 = .int .i64 (k:Nat)∧H'=H∧IR (N.take i) xs[i].name=IR ((N.take i).drop k) xs[i].name) i ⟨0,by simp,by simp -implicitDefEqProofs only [AA,↓reduceIte,Nat.reduceEqDiff,f0],by simp -implicitDefEqProofs only [AA,↓reduceIte,Nat.reduceEqDiff,f1],by simp -implicitDefEqProofs only [AA,↓reduceIte,Nat.reduceEqDiff,f8],by simp -implicitDefEqProofs only [AA,↓reduceIte,Nat.reduceEqDiff,f9],by simp -implicitDefEqProofs only [AA,↓reduceIte,Nat.reduceEqDiff],by simp -implicitDefEqProofs only [AA,↓reduceIte,Nat.reduceEqDiff],by simp -implicitDefEqProofs only [AA,↓reduceIte]; rfl,rfl,rfl⟩ ?_
   clear f0 f1 f8 f9
   rintro n' F H' ⟨k,hk,f0,f1,f8,f9,f5,f12,f13,rfl,hin⟩
   simp -implicitDefEqProofs only [BC,BA,BI,A8,AY,BB,AO,AQ,AL,BD,AX,AC,AA,AZ,BQ,AB,DC,↓reduceIte,oGs,bNf,enP,f12,f13]
   refine CV (fun hc => ?_) (fun hc => ?_)
   ·have hk':k < i:=by simpa using hc
    have hk2:k < xs.length:=by omega
    have hs:=KJ (fun u=>xs[i].name.toList == u.toList) (N.take i) k (by rw [List.length_take]; omega)
    have hx:(N.take i)[k]'(by rw [List.length_take]; omega)=xs[k].name:=by
     rw [List.getElem_take]; exact IB (hNi k hk2)
    rw [hx] at hs
    simp -implicitDefEqProofs only [BC,BR,BA,BO,A8,AY,BB,AO,AQ,AL,BD,AX,AC,AA,AZ,BG,A7,↓reduceIte,Nat.reduceEqDiff,oGs,bNf,f13]
    refine FB (by kernel_rfl) ?_
    simp -implicitDefEqProofs only [F8,EC,DW,EF,FO,FD,IU,EK,GL,FW,AO,AA,AZ,BV,BQ,CG,AB,lMc,lMn,lAn,↓reduceIte,Nat.reduceEqDiff,Nat.reduceAdd,oGs,enP,OJ,f0,f1,f5,D6 hi',D6 hk2,FP YG UF IW hi',FP YG UF IW hk2]
    refine ⟨_,ALN G xs[i] _,?_⟩
    refine ⟨_,ALN G xs[k] _,?_⟩
    try simp -implicitDefEqProofs only [DW,FK,BI,A8,AA,AZ,AB,LJ,↓reduceIte]
    refine CV (fun hb => ?_) (fun hb => ?_)
    ·simp -implicitDefEqProofs only [BC,BA,BL,A8,CQ,D8,MZ,FI,AY,BB,AO,AQ,AL,BD,AX,AC,AA,AU,BM,A7,↓reduceIte,oGs,bNf]
     refine ⟨?_,trivial⟩
     have:IR (N.take i) xs[i].name=true:=by
      rw [hin]; unfold IR; rw [hs,hb]; rfl
     rw [hd,hdrop,this]; rfl
    ·simp -implicitDefEqProofs only [BA,BO,A8,EE,EN,AY,BB,AO,AQ,AL,BD,AX,AC,AA,AZ,AU,BH,BG,BQ,AB,DF,↓reduceIte,Nat.reduceEqDiff,oGs,bNf,enP,f13,wrap_succ (show k < 9223372036854775807 by omega)]
     refine ⟨n' - 1,by omega,k+1,by omega,f0,f1,f8,f9,f5,f12,rfl,trivial,?_⟩
     rw [hin]; unfold IR; rw [hs,hb]; rfl
   ·have hk' : ¬ k < i:=by simpa using hc
    simp -implicitDefEqProofs only [DJ,D9,J4,EW,AA,↓reduceIte,Nat.reduceEqDiff]
    refine ⟨f0,f1,f8,f9,trivial,?_⟩
    rw [hin,List.drop_eq_nil_of_le (by rw [List.length_take]; omega)]; rfl
  ·rintro F' H' ⟨g0,g1,g8,g9,rfl,hn⟩
   simp -implicitDefEqProofs only [BA,A8,EE,EX,EN,AY,BB,AO,AQ,AL,BD,AX,AC,AA,AZ,AU,BH,BG,BQ,AB,DF,↓reduceIte,Nat.reduceEqDiff,oGs,bNf,enP,g9,wrap_succ (show i < 9223372036854775807 by omega)]
   refine ⟨n - 1,by omega,i+1,by omega,g0,g1,g8,rfl,trivial,?_⟩
   rw [hd,hdrop,hn]; rfl
  ·rintro F' H' ⟨g4,rfl⟩
   simp -implicitDefEqProofs only [CQ,D8,FI,CJ,g4]
   exact ⟨trivial,trivial⟩
 ·have hi' : ¬ i < xs.length:=by simpa using hc
  simp -implicitDefEqProofs only [BC,BA,BL,DJ,A8,D9,EX,EW,CJ,AY,BB,AO,AQ,AL,BD,AX,AC,AA,AU,BM,A7,↓reduceIte,oGs,bNf]
  exact ⟨by rw [hd,List.drop_eq_nil_of_le (by omega)]; rfl,trivial⟩
theorem ALO (G:Nat→AV) (x:Cr) (h:Hp):PCall (En G) 132 [.agg (F9 x)] h (.str x.name):=by
 refine ACalls.pure0 rfl ?_
 refine CE (H:=Hint.none) (enM G) Tryz.func132 rfl (by kernel_rfl) (by kernel_rfl) (nLb (by kernel_rfl)) ?_
 show awp _ _ _ _ _ (EJ _ [.tmp 2] _)
 simp -implicitDefEqProofs only [BC,BA,BL,A8,CJ,AY,BB,AO,AQ,AL,BD,AX,AC,AA,AZ,AU,IX,A7,FV,BV,BK,CB,AB,BF,↓reduceIte,Nat.reduceEqDiff,Nat.add_zero,oGs,bNf,enP,AFI,bxC,DI ag9,AL4]
 exact ⟨trivial,_,rfl⟩
theorem AMY (G:Nat→AV) (xs:List Cr) (m:SM) (h:Hp) (hl:xs.length≤1099511627776) :
  PCall (En G) 131 [.sl m 3 (xs.map F9),.fn (.func 132) [] []] h (.bool (OL (xs.map (·.name)))):=by
 refine CE (H:=Hint.none) (enM G) Tryz.func131 rfl (by kernel_rfl) (by kernel_rfl) (nLb (by kernel_rfl)) ?_
 show awp _ _ _ _ _ (EJ _ [.tmp 4] _)
 simp -implicitDefEqProofs only [BC,BR,BA,A8,AY,BB,AO,AQ,AL,BD,AX,AC,AA,AZ,AU,BH,BM,BG,A7,DZ,AB,BF,↓reduceIte,Nat.reduceEqDiff,oGs,bNf,enP,UA,lLm]
 generalize hN:xs.map (·.name)=N
 have hNl:N.length=xs.length:=by rw [← hN]; simp
 have hNi : ∀ i (hi:i < xs.length),N[i]? = some xs[i].name:=fun i hi=>by rw [← hN,List.getElem?_map,List.getElem?_eq_getElem hi]; rfl
 refine DT (fun n F H => ∃ i,n+i=xs.length∧F 0 = .sl m 3 (xs.map F9)∧F 1 = .fn (.func 132) [] []∧F 8 = .int .i64 xs.length∧F 9 = .int .i64 (i:Nat)∧H=h∧OL N=ADC (N.take i) (N.drop i)) xs.length ⟨0,by simp,by simp -implicitDefEqProofs only [AA,BF,↓reduceIte,Nat.reduceEqDiff],by simp -implicitDefEqProofs only [AA,BF,BN,↓reduceIte,Nat.reduceEqDiff],by simp -implicitDefEqProofs only [AA,↓reduceIte,Nat.reduceEqDiff],by simp -implicitDefEqProofs only [AA,↓reduceIte]; rfl,rfl,rfl⟩ ?_
 rintro n F H ⟨i,hi,f0,f1,f8,f9,rfl,hd⟩
 simp -implicitDefEqProofs only [BC,BA,BI,A8,AY,BB,AO,AQ,AL,BD,AX,AC,AA,AZ,BQ,AB,DC,↓reduceIte,oGs,bNf,enP,f8,f9]
 refine CV (fun hc => ?_) (fun hc => ?_)
 ·have hi':i < xs.length:=by simpa using hc
  have hdrop:=QC N i (by omega)
  rw [IB (hNi i hi')] at hdrop
  simp -implicitDefEqProofs only [BC,BR,BA,BO,A8,AY,BB,AO,AQ,AL,BD,AX,AC,AA,AZ,AU,BH,BG,A7,↓reduceIte,Nat.reduceEqDiff,oGs,bNf,f9]
  refine GV 2 (fun F' H'=>F' 0 = .sl m 3 (xs.map F9)∧F' 1 = .fn (.func 132) [] []∧F' 8 = .int .i64 xs.length∧F' 9 = .int .i64 (i:Nat)∧H'=H∧IR (N.take i) xs[i].name=false) (fun F' H'=>F' 4 = .bool (OL N)∧H'=H) ?_ ?_ ?_
  ·refine DT (fun n F' H' => ∃ k,n+k=i∧F' 0 = .sl m 3 (xs.map F9)∧F' 1 = .fn (.func 132) [] []∧F' 8 = .int .i64 xs.length∧F' 9 = .int .i64 (i:Nat)∧F' 5 = .int .i64 (i:Nat)∧F' 12 = .int .i64 (i:Nat)∧F' 13 = .int .i64 (k:Nat)∧H'=H∧IR (N.take i) xs[i].name=IR ((N.take i).drop k) xs[i].name) i ⟨0,by simp,by simp -implicitDefEqProofs only [AA,↓reduceIte,Nat.reduceEqDiff,f0],by simp -implicitDefEqProofs only [AA,↓reduceIte,Nat.reduceEqDiff,f1],by simp -implicitDefEqProofs only [AA,↓reduceIte,Nat.reduceEqDiff,f8],by simp -implicitDefEqProofs only [AA,↓reduceIte,Nat.reduceEqDiff,f9],by simp -implicitDefEqProofs only [AA,↓reduceIte,Nat.reduceEqDiff],by simp -implicitDefEqProofs only [AA,↓reduceIte,Nat.reduceEqDiff],by simp -implicitDefEqProofs only [AA,↓reduceIte]; rfl,rfl,rfl⟩ ?_
   clear f0 f1 f8 f9
   rintro n' F H' ⟨k,hk,f0,f1,f8,f9,f5,f12,f13,rfl,hin⟩
   simp -implicitDefEqProofs only [BC,BA,BI,A8,AY,BB,AO,AQ,AL,BD,AX,AC,AA,AZ,BQ,AB,DC,↓reduceIte,oGs,bNf,enP,f12,f13]
   refine CV (fun hc => ?_) (fun hc => ?_)
   ·have hk':k < i:=by simpa using hc
    have hk2:k < xs.length:=by omega
    have hs:=KJ (fun u=>xs[i].name.toList == u.toList) (N.take i) k (by rw [List.length_take]; omega)
    have hx:(N.take i)[k]'(by rw [List.length_take]; omega)=xs[k].name:=by
     rw [List.getElem_take]; exact IB (hNi k hk2)
    rw [hx] at hs
    simp -implicitDefEqProofs only [BC,BR,BA,BO,A8,AY,BB,AO,AQ,AL,BD,AX,AC,AA,AZ,BG,A7,↓reduceIte,Nat.reduceEqDiff,oGs,bNf,f13]
    refine FB (by kernel_rfl) ?_
    simp -implicitDefEqProofs only [F8,EC,DW,EF,FO,FD,IU,EK,GL,FW,AO,AA,AZ,BV,BQ,CG,AB,lMc,lMn,lAn,↓reduceIte,Nat.reduceEqDiff,Nat.reduceAdd,oGs,enP,XV,f0,f1,f5,D6 hi',D6 hk2,FP ZI WH JY hi',FP ZI WH JY hk2]
    refine ⟨_,ALO G xs[i] _,?_⟩
    refine ⟨_,ALO G xs[k] _,?_⟩
    try simp -implicitDefEqProofs only [DW,FK,BI,A8,AA,AZ,AB,LJ,↓reduceIte]
    refine CV (fun hb => ?_) (fun hb => ?_)
    ·simp -implicitDefEqProofs only [BC,BA,BL,A8,CQ,D8,MZ,FI,AY,BB,AO,AQ,AL,BD,AX,AC,AA,AU,BM,A7,↓reduceIte,oGs,bNf]
     refine ⟨?_,trivial⟩
     have:IR (N.take i) xs[i].name=true:=by
      rw [hin]; unfold IR; rw [hs,hb]; rfl
     rw [hd,hdrop,this]; rfl
    ·simp -implicitDefEqProofs only [BA,BO,A8,EE,EN,AY,BB,AO,AQ,AL,BD,AX,AC,AA,AZ,AU,BH,BG,BQ,AB,DF,↓reduceIte,Nat.reduceEqDiff,oGs,bNf,enP,f13,wrap_succ (show k < 9223372036854775807 by omega)]
     refine ⟨n' - 1,by omega,k+1,by omega,f0,f1,f8,f9,f5,f12,rfl,trivial,?_⟩
     rw [hin]; unfold IR; rw [hs,hb]; rfl
   ·have hk' : ¬ k < i:=by simpa using hc
    simp -implicitDefEqProofs only [DJ,D9,J4,EW,AA,↓reduceIte,Nat.reduceEqDiff]
    refine ⟨f0,f1,f8,f9,trivial,?_⟩
    rw [hin,List.drop_eq_nil_of_le (by rw [List.length_take]; omega)]; rfl
  ·rintro F' H' ⟨g0,g1,g8,g9,rfl,hn⟩
   simp -implicitDefEqProofs only [BA,A8,EE,EX,EN,AY,BB,AO,AQ,AL,BD,AX,AC,AA,AZ,AU,BH,BG,BQ,AB,DF,↓reduceIte,Nat.reduceEqDiff,oGs,bNf,enP,g9,wrap_succ (show i < 9223372036854775807 by omega)]
   refine ⟨n - 1,by omega,i+1,by omega,g0,g1,g8,rfl,trivial,?_⟩
   rw [hd,hdrop,hn]; rfl
  ·rintro F' H' ⟨g4,rfl⟩
   simp -implicitDefEqProofs only [CQ,D8,FI,CJ,g4]
   exact ⟨trivial,trivial⟩
 ·have hi' : ¬ i < xs.length:=by simpa using hc
  simp -implicitDefEqProofs only [BC,BA,BL,DJ,A8,D9,EX,EW,CJ,AY,BB,AO,AQ,AL,BD,AX,AC,AA,AU,BM,A7,↓reduceIte,oGs,bNf]
  exact ⟨by rw [hd,List.drop_eq_nil_of_le (by omega)]; rfl,trivial⟩
def JS {α:Type} (f:α→Int):List α→Int
 | []=>0
 | x :: xs=>if f x=0 then JS f xs else f x
theorem O0 {α:Type} (f:α→Int) (xs:List α) (k:Nat) (hk:k < xs.length):JS f (xs.drop k)=if f xs[k]=0 then JS f (xs.drop (k+1)) else f xs[k]:=by
 rw [List.drop_eq_getElem_cons hk]; rfl
def GR (p:Pt):Int :=
 if H6 p.name=false then 7 else if exE p.ex≠0 then exE p.ex else if p.bins.length=0 then 1 else if 64 < p.bins.length then 2 else
  if JS HY p.bins≠0 then JS HY p.bins else if OL (p.bins.map (·.name)) then 8 else 0
structure PtOk (p:Pt):Prop where
 ex:wt p.ex≤1048576
 name:p.name.size≤1048576
 num:p.bins.length≤1048576
 bins : ∀ b∈p.bins,BinOk b
theorem AUF (h:Hp):J9 Tryz.prog h 121=some (.ptr h.length 0 0,h ++ [.live 4 [[.str ⟨#[]⟩,.int .i64 0,.sl .nil 0 [],.sl .nil 0 []]]]):=JZ (row := [.str ⟨#[]⟩,.int .i64 0,.sl .nil 0 [],.sl .nil 0 []]) (by kernel_rfl)
theorem AXE (h:Hp) (b:Bin) (row:List AV) (hr:row.length=4):FX Tryz.prog (h ++ [.live 4 [row]]) 121 (.ptr h.length 0 0) (.agg (GN b))=some (h ++ [.live 4 [GN b]]):=by
 rw [MP (VE rfl) (by rw [LZ]; exact PI) (by rw [LZ,hr]; exact Nat.le_refl _)]
 have:splice row 0 (GN b)=GN b:=by unfold splice; simp [LZ,hr]
 rw [this]
theorem ABO (G:Nat→AV) (hG:GOk G) (p:Pt) (hp:PtOk p) (h:Hp):PCall (En G) 97 [.agg (FH p)] h (.int .i64 (GR p)):=by
 refine ACalls.pure0 rfl ?_
 have hp1:=hp.ex
 have hp2:=hp.name
 have hp3:=hp.num
 refine CE (H:=Hint.none) (enM G) Tryz.func97 rfl (by kernel_rfl) (by kernel_rfl) (nLb (by kernel_rfl)) ?_
 show awp _ _ _ _ _ (EJ _ [.tmp 2] _)
 simp -implicitDefEqProofs only [BC,BA,A8,AY,BB,AO,AQ,AL,BD,AX,AC,AA,AZ,AU,BX,BH,A7,FV,BV,BK,BZ,BU,CB,AB,BF,lMc,lMn,lAn,↓reduceIte,Nat.reduceEqDiff,Nat.add_zero,oGs,bNf,enP,AFJ,bxP,DI ag9,AL2]
 refine (NQ G hG.kw p.name _ (by omega)).use ?_
 simp -implicitDefEqProofs only [BI,A8,AY,BB,AO,AQ,AL,BD,AX,AC,AA,AZ,G6,AB,EY,↓reduceIte,oGs,bNf]
 cases h1:H6 p.name
 ·simp -implicitDefEqProofs only [BC,BA,BL,A8,CQ,CJ,CY,AY,BB,AO,AQ,AL,BD,AX,AC,AA,AU,BH,A7,↓reduceIte,oGs,bNf]
  exact ⟨by unfold GR; rw [if_pos h1],_,rfl⟩
 have h1' : ¬ H6 p.name=false:=by rw [h1]; decide
 simp -implicitDefEqProofs only [BC,BA,BO,A8,DU,AY,AO,AQ,AL,BD,AX,AC,AA,AZ,BX,BV,BK,BZ,BU,AB,lMc,lMn,lAn,↓reduceIte,Nat.reduceEqDiff,Nat.zero_add,oGs,bNt,bNf,enP,Y3,AE6 (CZ h _)]
 refine (X3 G hG p.ex _ hp1).use ?_
 simp -implicitDefEqProofs only [BC,BA,BI,A8,AY,BB,AO,AQ,AL,BD,AX,AC,AA,AZ,AU,BH,BG,A7,BQ,AB,EG,↓reduceIte,oGs,bNf,enP]
 refine CV (fun h2 => ?_) (fun h2 => ?_)
 ·simp -implicitDefEqProofs only [BC,BA,BL,A8,CQ,CJ,AY,BB,AO,AQ,AL,BD,AX,AC,AA,AZ,BG,A7,↓reduceIte,Nat.reduceEqDiff,oGs,bNf]
  exact ⟨by unfold GR; rw [if_neg h1',if_pos (by simpa using h2)],_,rfl⟩
 have h2' : ¬ exE p.ex≠0:=by simpa using h2
 simp -implicitDefEqProofs only [BC,BR,BA,BO,BI,A8,AY,BB,AO,AQ,AL,BD,AX,AC,AA,AZ,AU,BH,A7,BV,BQ,BK,DZ,AB,D5,↓reduceIte,Nat.reduceEqDiff,Nat.zero_add,oGs,bNf,enP,OV,H9,DI O5,LH,lLm]
 refine CV (fun h3 => ?_) (fun h3 => ?_)
 ·simp -implicitDefEqProofs only [BC,BA,BL,A8,CQ,D8,CJ,AY,BB,AO,AQ,AL,BD,AX,AC,AA,AU,BH,A7,↓reduceIte,oGs,bNf]
  exact ⟨by unfold GR; rw [if_neg h1',if_neg h2',if_pos (by simp at h3; simpa using h3)],_,rfl⟩
 have h3' : ¬ p.bins.length=0:=by simp at h3; simpa using h3
 simp -implicitDefEqProofs only [BC,BA,BI,A8,AY,BB,AO,AQ,AL,BD,AX,AC,AA,AZ,AU,BH,A7,BV,BQ,BK,DZ,AB,EZ,↓reduceIte,Nat.reduceEqDiff,Nat.zero_add,oGs,bNf,enP,OV,H9,DI O5,LH,lLm]
 refine CV (fun h4 => ?_) (fun h4 => ?_)
 ·simp -implicitDefEqProofs only [BC,BA,BL,A8,CQ,D8,CJ,AY,BB,AO,AQ,AL,BD,AX,AC,AA,AU,BH,A7,↓reduceIte,oGs,bNf]
  exact ⟨by unfold GR; rw [if_neg h1',if_neg h2',if_neg h3',if_pos (by simp at h4; omega)],_,rfl⟩
 have h4' : ¬ 64 < p.bins.length:=by simp at h4; omega
 have hpt:GR p=if JS HY p.bins≠0 then JS HY p.bins else if OL (p.bins.map (·.name)) then 8 else 0:=by
  unfold GR; rw [if_neg h1',if_neg h2',if_neg h3',if_neg h4']
 simp -implicitDefEqProofs only [BC,BR,BA,BO,A8,EE,AY,BB,AO,AQ,AL,BD,AX,AC,AA,AZ,AU,BH,BG,BV,BK,DZ,AB,↓reduceIte,Nat.reduceEqDiff,Nat.zero_add,oGs,bNf,enP,OV,H9,DI O5,LH,lLm]
 refine GV 1 (fun F H=>F 1 = .ptr h.length 0 0∧H[h.length]? = some (.live 6 [FH p])∧(∃ x,H=h ++ x)∧JS HY p.bins=0) (fun F H=>F 2 = .int .i64 (GR p)∧∃ x,H=h ++ x) ?_ ?_ ?_
 ·refine DT (fun n F H => ∃ k,n+k=p.bins.length∧F 1 = .ptr h.length 0 0∧F 28 = .sl p.bm 4 (p.bins.map GN)∧F 29 = .int .i64 p.bins.length∧F 30 = .int .i64 (k:Nat)∧H[h.length]? = some (.live 6 [FH p])∧(∃ x,H=h ++ x)∧JS HY p.bins=JS HY (p.bins.drop k)) p.bins.length ⟨0,by simp,by simp -implicitDefEqProofs only [AA,↓reduceIte,Nat.reduceEqDiff],by simp -implicitDefEqProofs only [AA,↓reduceIte,Nat.reduceEqDiff],by simp -implicitDefEqProofs only [AA,↓reduceIte,Nat.reduceEqDiff],by simp -implicitDefEqProofs only [AA,↓reduceIte]; rfl,CZ _ _,⟨_,rfl⟩,rfl⟩ ?_
  rintro n F H ⟨k,hk,f1,f28,f29,f30,hb,⟨x,hx⟩,hf⟩
  simp -implicitDefEqProofs only [BC,BA,BI,A8,AY,BB,AO,AQ,AL,BD,AX,AC,AA,AZ,BQ,AB,DC,↓reduceIte,oGs,bNf,enP,f29,f30]
  refine CV (fun hc => ?_) (fun hc => ?_)
  ·have hk':k < p.bins.length:=by simpa using hc
   have hs:=O0 HY p.bins k hk'
   simp -implicitDefEqProofs only [BC,BR,BA,BO,A8,AY,BB,AO,AQ,AL,BD,AX,AC,FC,AA,AZ,BX,FY,BV,ER,CG,BZ,BU,CB,AB,DX,lMc,lMn,lAn,↓reduceIte,Nat.reduceEqDiff,oGs,bNf,enP,WV,Option.getD_none,f28,f30,D6 hk',FP TU PI LZ hk',AUF,AXE _ _ [.str ⟨#[]⟩,.int .i64 0,.sl .nil 0 [],.sl .nil 0 []] rfl,ldB]
   refine (AA8 G hG.kw p.bins[k] (hp.bins _ (List.getElem_mem hk')) _).use ?_
   simp -implicitDefEqProofs only [BC,BA,BI,A8,AY,BB,AO,AQ,AL,BD,AX,AC,AA,AZ,AU,BH,BG,A7,BQ,AB,EG,↓reduceIte,oGs,bNf,enP]
   refine CV (fun hv => ?_) (fun hv => ?_)
   ·simp -implicitDefEqProofs only [BC,BA,BL,A8,CQ,D8,MZ,FI,AY,BB,AO,AQ,AL,BD,AX,AC,AA,AZ,BG,A7,↓reduceIte,Nat.reduceEqDiff,oGs,bNf]
    have hv':HY p.bins[k]≠0:=by simpa using hv
    have:JS HY p.bins=HY p.bins[k]:=by rw [hf,hs,if_neg hv']
    exact ⟨by rw [hpt,this,if_pos hv'],x ++ _,by rw [hx,List.append_assoc]⟩
   ·have hv':HY p.bins[k]=0:=by simpa using hv
    simp -implicitDefEqProofs only [BA,BO,A8,EE,EN,AY,BB,AO,AQ,AL,BD,AX,AC,AA,AZ,AU,BH,BG,BQ,AB,DF,↓reduceIte,Nat.reduceEqDiff,oGs,bNf,enP,f30,wrap_succ (show k < 9223372036854775807 by omega)]
    exact ⟨n - 1,by omega,k+1,by omega,f1,f28,f29,rfl,CW hb,⟨x ++ _,by rw [hx,List.append_assoc]⟩,by rw [hf,hs,if_pos hv']⟩
  ·have hk' : ¬ k < p.bins.length:=by simpa using hc
   simp -implicitDefEqProofs only [DJ,D9,J4,EW,AA,↓reduceIte,Nat.reduceEqDiff]
   exact ⟨f1,hb,⟨x,hx⟩,by rw [hf,List.drop_eq_nil_of_le (by omega)]; rfl⟩
 ·rintro F H ⟨f1,hb,⟨x,hx⟩,hf⟩
  have l5:D7 Tryz.prog H 54 (.ptr h.length 0 5)=some (.sl p.bm 4 (p.bins.map GN)):=by rw [DL O5 hb (row:=FH p) rfl,LH]
  simp -implicitDefEqProofs only [BC,BA,A8,EX,AY,AO,AQ,AL,BD,AX,AC,AA,AZ,BX,BV,BK,BZ,BU,AB,lMc,lMn,lAn,↓reduceIte,Nat.zero_add,oGs,bNf,enP,H9,f1,l5]
  refine (AMZ G p.bins p.bm H (by omega)).use ?_
  simp -implicitDefEqProofs only [BI,A8,BB,AC,AA,AZ,↓reduceIte]
  cases hd:OL (p.bins.map (·.name))
  ·simp -implicitDefEqProofs only [BC,BA,BO,BL,A8,CJ,DU,AY,BB,AO,AQ,AL,BD,AX,AC,AA,AU,BH,A7,↓reduceIte,oGs,bNf]
   exact ⟨by rw [hpt,hf,hd]; rfl,x,hx⟩
  ·simp -implicitDefEqProofs only [BC,BA,BL,A8,CQ,CJ,CY,AY,BB,AO,AQ,AL,BD,AX,AC,AA,AU,BH,A7,↓reduceIte,oGs,bNf]
   exact ⟨by rw [hpt,hf,hd]; rfl,x,hx⟩
 ·rintro F H ⟨f2,hx⟩
  simp -implicitDefEqProofs only [CQ,D8,CJ,f2]
  exact ⟨trivial,hx⟩
theorem ADW (G:Nat→AV) (p:Pt) (hp:PtOk p) (h:Hp):PCall (En G) 102 [.agg (FH p)] h (.int .i64 (GR p)):=by
 refine ACalls.pure0 rfl ?_
 have hp1:=hp.ex
 have hp2:=hp.name
 have hp3:=hp.num
 refine CE (H:=Hint.none) (enM G) Tryz.func102 rfl (by kernel_rfl) (by kernel_rfl) (nLb (by kernel_rfl)) ?_
 show awp _ _ _ _ _ (EJ _ [.tmp 2] _)
 simp -implicitDefEqProofs only [BC,BA,A8,AY,BB,AO,AQ,AL,BD,AX,AC,AA,AZ,AU,BX,BH,A7,FV,BV,BK,BZ,BU,CB,AB,BF,lMc,lMn,lAn,↓reduceIte,Nat.reduceEqDiff,Nat.add_zero,oGs,bNf,enP,AFJ,bxP,DI ag9,AL2]
 refine (OY G p.name _).use ?_
 simp -implicitDefEqProofs only [BI,A8,AY,BB,AO,AQ,AL,BD,AX,AC,AA,AZ,G6,AB,EY,↓reduceIte,oGs,bNf]
 cases h1:H6 p.name
 ·simp -implicitDefEqProofs only [BC,BA,BL,A8,CQ,CJ,CY,AY,BB,AO,AQ,AL,BD,AX,AC,AA,AU,BH,A7,↓reduceIte,oGs,bNf]
  exact ⟨by unfold GR; rw [if_pos h1],_,rfl⟩
 have h1' : ¬ H6 p.name=false:=by rw [h1]; decide
 simp -implicitDefEqProofs only [BC,BA,BO,A8,DU,AY,AO,AQ,AL,BD,AX,AC,AA,AZ,BX,BV,BK,BZ,BU,AB,lMc,lMn,lAn,↓reduceIte,Nat.reduceEqDiff,Nat.zero_add,oGs,bNt,bNf,enP,Y3,AE6 (CZ h _)]
 refine (ZY G p.ex _ hp1).use ?_
 simp -implicitDefEqProofs only [BC,BA,BI,A8,AY,BB,AO,AQ,AL,BD,AX,AC,AA,AZ,AU,BH,BG,A7,BQ,AB,EG,↓reduceIte,oGs,bNf,enP]
 refine CV (fun h2 => ?_) (fun h2 => ?_)
 ·simp -implicitDefEqProofs only [BC,BA,BL,A8,CQ,CJ,AY,BB,AO,AQ,AL,BD,AX,AC,AA,AZ,BG,A7,↓reduceIte,Nat.reduceEqDiff,oGs,bNf]
  exact ⟨by unfold GR; rw [if_neg h1',if_pos (by simpa using h2)],_,rfl⟩
 have h2' : ¬ exE p.ex≠0:=by simpa using h2
 simp -implicitDefEqProofs only [BC,BA,BO,BI,A8,AY,BB,AO,AQ,AL,BD,AX,AC,AA,AZ,AU,BH,BV,BQ,BK,DZ,AB,D5,↓reduceIte,Nat.reduceEqDiff,Nat.zero_add,oGs,bNf,enP,OV,H9,DI O5,LH,lLm]
 refine CV (fun h3 => ?_) (fun h3 => ?_)
 ·simp -implicitDefEqProofs only [BC,BA,BL,A8,CQ,CJ,AY,BB,AO,AQ,AL,BD,AX,AC,AA,AU,BH,A7,↓reduceIte,oGs,bNf]
  exact ⟨by unfold GR; rw [if_neg h1',if_neg h2',if_pos (by simp at h3; simpa using h3)],_,rfl⟩
 have h3' : ¬ p.bins.length=0:=by simp at h3; simpa using h3
 simp -implicitDefEqProofs only [BC,BA,BO,BI,A8,AY,BB,AO,AQ,AL,BD,AX,AC,AA,AZ,AU,BH,BV,BQ,BK,DZ,AB,EZ,↓reduceIte,Nat.reduceEqDiff,Nat.zero_add,oGs,bNf,enP,OV,H9,DI O5,LH,lLm]
 refine CV (fun h4 => ?_) (fun h4 => ?_)
 ·simp -implicitDefEqProofs only [BC,BA,BL,A8,CQ,CJ,AY,BB,AO,AQ,AL,BD,AX,AC,AA,AU,BH,A7,↓reduceIte,oGs,bNf]
  exact ⟨by unfold GR; rw [if_neg h1',if_neg h2',if_neg h3',if_pos (by simp at h4; omega)],_,rfl⟩
 have h4' : ¬ 64 < p.bins.length:=by simp at h4; omega
 have hpt:GR p=if JS HY p.bins≠0 then JS HY p.bins else if OL (p.bins.map (·.name)) then 8 else 0:=by
  unfold GR; rw [if_neg h1',if_neg h2',if_neg h3',if_neg h4']
 simp -implicitDefEqProofs only [BC,BR,BA,BO,A8,AY,BB,AO,AQ,AL,BD,AX,AC,AU,BH,A7,oGs,bNf]
 refine GV 0 (fun F H=>F 1 = .ptr h.length 0 0∧H=h ++ [.live 6 [FH p]]∧JS HY p.bins=0) (fun F H=>F 2 = .int .i64 (GR p)∧∃ x,H=h ++ x) ?_ ?_ ?_
 ·refine DT (fun n F H => ∃ k,n+k=p.bins.length∧F 1 = .ptr h.length 0 0∧F 4 = .int .i64 (k:Nat)∧H=h ++ [.live 6 [FH p]]∧JS HY p.bins=JS HY (p.bins.drop k)) p.bins.length ⟨0,by simp,by simp -implicitDefEqProofs only [AA,↓reduceIte,Nat.reduceEqDiff],by simp -implicitDefEqProofs only [AA,↓reduceIte]; rfl,rfl,rfl⟩ ?_
  rintro n F H ⟨k,hk,f1,f4,rfl,hf⟩
  simp -implicitDefEqProofs only [BC,BA,BI,A8,AY,BB,AO,AQ,AL,BD,AX,AC,AA,AZ,BG,BV,BQ,BK,DZ,AB,DC,↓reduceIte,Nat.reduceEqDiff,Nat.zero_add,oGs,bNf,enP,OV,H9,f1,f4,DI O5,LH,lLm]
  refine CV (fun hc => ?_) (fun hc => ?_)
  ·have hk':k < p.bins.length:=by simpa using hc
   have hs:=O0 HY p.bins k hk'
   simp -implicitDefEqProofs only [BC,BR,BA,BO,A8,AY,AO,AQ,AL,BD,AX,AC,AA,AZ,BX,BG,BV,BK,CG,BZ,BU,AB,lMc,lMn,lAn,↓reduceIte,Nat.reduceEqDiff,Nat.zero_add,oGs,bNf,enP,WV,H9,f1,f4,DI O5,LH,D6 hk',FP TU PI LZ hk']
   refine (ADO G p.bins[k] (hp.bins _ (List.getElem_mem hk')) _).use ?_
   simp -implicitDefEqProofs only [BC,BA,BI,A8,AY,BB,AO,AQ,AL,BD,AX,AC,AA,AZ,AU,BH,BG,A7,BQ,AB,EG,↓reduceIte,oGs,bNf,enP]
   refine CV (fun hv => ?_) (fun hv => ?_)
   ·simp -implicitDefEqProofs only [BC,BA,BL,A8,CQ,D8,MZ,FI,AY,BB,AO,AQ,AL,BD,AX,AC,AA,AZ,BG,A7,↓reduceIte,Nat.reduceEqDiff,oGs,bNf]
    have hv':HY p.bins[k]≠0:=by simpa using hv
    have:JS HY p.bins=HY p.bins[k]:=by rw [hf,hs,if_neg hv']
    exact ⟨by rw [hpt,this,if_pos hv'],_,rfl⟩
   ·have hv':HY p.bins[k]=0:=by simpa using hv
    simp -implicitDefEqProofs only [BA,BO,A8,EE,EN,AY,BB,AO,AQ,AL,BD,AX,AC,AA,AZ,AU,BH,BG,A7,BQ,AB,DF,↓reduceIte,Nat.reduceEqDiff,oGs,bNf,enP,f4,wrap_succ (show k < 9223372036854775807 by omega)]
    exact ⟨n - 1,by omega,k+1,by omega,f1,rfl,trivial,by rw [hf,hs,if_pos hv']⟩
  ·have hk' : ¬ k < p.bins.length:=by simpa using hc
   simp -implicitDefEqProofs only [DJ,D9,J4,EW,AA,↓reduceIte,Nat.reduceEqDiff]
   exact ⟨f1,trivial,by rw [hf,List.drop_eq_nil_of_le (by omega)]; rfl⟩
 ·rintro F H ⟨f1,rfl,hf⟩
  rw [hf,if_neg (fun hh=>hh rfl)] at hpt
  simp -implicitDefEqProofs only [BC,BR,BA,A8,EX,AY,BB,AO,AQ,AL,BD,AX,AC,AU,BH,A7,↓reduceIte,oGs,bNf,f1]
  generalize hN:p.bins.map (·.name)=N at hpt
  have hNl:N.length=p.bins.length:=by rw [← hN]; simp
  have hNi : ∀ i (hi:i < p.bins.length),N[i]? = some p.bins[i].name:=fun i hi=>by rw [← hN,List.getElem?_map,List.getElem?_eq_getElem hi]; rfl
  refine DT (fun n F H => ∃ i,n+i=p.bins.length∧F 1 = .ptr h.length 0 0∧F 5 = .int .i64 (i:Nat)∧H=h ++ [.live 6 [FH p]]∧OL N=ADC (N.take i) (N.drop i)) p.bins.length ⟨0,by simp,by simp -implicitDefEqProofs only [AA,↓reduceIte,Nat.reduceEqDiff,f1],by simp -implicitDefEqProofs only [AA,↓reduceIte]; rfl,rfl,rfl⟩ ?_
  clear f1
  rintro n F H ⟨i,hi,f1,f5,rfl,hd⟩
  simp -implicitDefEqProofs only [BC,BA,BI,A8,AY,BB,AO,AQ,AL,BD,AX,AC,AA,AZ,BG,BV,BQ,BK,DZ,AB,DC,↓reduceIte,Nat.reduceEqDiff,Nat.zero_add,oGs,bNf,enP,OV,H9,f1,f5,DI O5,LH,lLm]
  refine CV (fun hc => ?_) (fun hc => ?_)
  ·have hi':i < p.bins.length:=by simpa using hc
   have hdrop:=QC N i (by omega)
   rw [IB (hNi i hi')] at hdrop
   simp -implicitDefEqProofs only [BC,BR,BA,BO,A8,AY,BB,AO,AQ,AL,BD,AX,AC,AU,BH,A7,oGs,bNf,f5]
   refine GV 4 (fun F' H'=>F' 1 = .ptr h.length 0 0∧F' 5 = .int .i64 (i:Nat)∧H'=h ++ [.live 6 [FH p]]∧IR (N.take i) p.bins[i].name=false) (fun F' H'=>F' 2 = .int .i64 8∧H'=h ++ [.live 6 [FH p]]∧OL N=true) ?_ ?_ ?_
   ·refine DT (fun n F' H' => ∃ k,n+k=i∧F' 1 = .ptr h.length 0 0∧F' 5 = .int .i64 (i:Nat)∧F' 6 = .int .i64 (k:Nat)∧H'=h ++ [.live 6 [FH p]]∧IR (N.take i) p.bins[i].name=IR ((N.take i).drop k) p.bins[i].name) i ⟨0,by simp,by simp -implicitDefEqProofs only [AA,↓reduceIte,Nat.reduceEqDiff,f1],by simp -implicitDefEqProofs only [AA,↓reduceIte,Nat.reduceEqDiff,f5],by simp -implicitDefEqProofs only [AA,↓reduceIte]; rfl,rfl,rfl⟩ ?_
    clear f1 f5
    rintro n' F H' ⟨k,hk,f1,f5,f6,rfl,hin⟩
    simp -implicitDefEqProofs only [BC,BA,BI,A8,AY,BB,AO,AQ,AL,BD,AX,AC,AA,AZ,BG,BQ,AB,DC,↓reduceIte,Nat.reduceEqDiff,oGs,bNf,enP,f5,f6]
    refine CV (fun hc => ?_) (fun hc => ?_)
    ·have hk':k < i:=by simpa using hc
     have hk2:k < p.bins.length:=by omega
     have hs:=KJ (fun u=>p.bins[i].name.toList == u.toList) (N.take i) k (by rw [List.length_take]; omega)
     have hx:(N.take i)[k]'(by rw [List.length_take]; omega)=p.bins[k].name:=by
      rw [List.getElem_take]; exact IB (hNi k hk2)
     rw [hx] at hs
     simp -implicitDefEqProofs only [BC,BR,BO,A8]
     refine FB (by kernel_rfl) ?_
     simp -implicitDefEqProofs only [F8,EC,DW,FK,EF,FO,FD,IU,EI,EK,BI,A8,AO,AA,AZ,BV,BQ,BK,CG,AB,LJ,↓reduceIte,Nat.reduceEqDiff,Nat.reduceAdd,Nat.add_zero,Nat.zero_add,oGs,enP,WV,H9,AAX,f1,f5,f6,DI O5,LH,D6 hi',D6 hk2,DV ag9 hi',DV ag9 hk2,AL5]
     refine CV (fun hb => ?_) (fun hb => ?_)
     ·simp -implicitDefEqProofs only [BC,BA,BL,A8,CQ,D8,MZ,FI,AY,BB,AO,AQ,AL,BD,AX,AC,AA,AU,BH,A7,↓reduceIte,oGs,bNf]
      have:IR (N.take i) p.bins[i].name=true:=by
       rw [hin]; unfold IR; rw [hs,BEq.comm,hb]; rfl
      exact ⟨trivial,trivial,by rw [hd,hdrop,this]; rfl⟩
     ·simp -implicitDefEqProofs only [BA,BO,A8,EE,EN,AY,BB,AO,AQ,AL,BD,AX,AC,AA,AZ,AU,BH,BG,A7,BQ,AB,DF,↓reduceIte,Nat.reduceEqDiff,oGs,bNf,enP,f6,wrap_succ (show k < 9223372036854775807 by omega)]
      refine ⟨n' - 1,by omega,k+1,by omega,f1,f5,rfl,trivial,?_⟩
      rw [hin]; unfold IR; rw [hs,BEq.comm,hb]; rfl
    ·have hk' : ¬ k < i:=by simpa using hc
     simp -implicitDefEqProofs only [DJ,D9,J4,EW,AA,↓reduceIte,Nat.reduceEqDiff]
     refine ⟨f1,f5,trivial,?_⟩
     rw [hin,List.drop_eq_nil_of_le (by rw [List.length_take]; omega)]; rfl
   ·rintro F' H' ⟨g1,g5,rfl,hn⟩
    simp -implicitDefEqProofs only [BA,A8,EE,EX,EN,AY,BB,AO,AQ,AL,BD,AX,AC,AA,AZ,AU,BH,BG,A7,BQ,AB,DF,↓reduceIte,Nat.reduceEqDiff,oGs,bNf,enP,g5,wrap_succ (show i < 9223372036854775807 by omega)]
    refine ⟨n - 1,by omega,i+1,by omega,g1,rfl,trivial,?_⟩
    rw [hd,hdrop,hn]; rfl
   ·rintro F' H' ⟨g2,rfl,hdd⟩
    simp -implicitDefEqProofs only [CQ,D8,FI,CJ,g2]
    exact ⟨by rw [hpt,hdd]; rfl,_,rfl⟩
  ·have hi' : ¬ i < p.bins.length:=by simpa using hc
   simp -implicitDefEqProofs only [BC,BA,BL,DJ,A8,D9,EX,EW,CJ,AY,BB,AO,AQ,AL,BD,AX,AC,AA,AU,BH,A7,↓reduceIte,oGs,bNf]
   exact ⟨by rw [hpt,hd,List.drop_eq_nil_of_le (by omega)]; rfl,_,rfl⟩
 ·rintro F H ⟨f2,hx⟩
  simp -implicitDefEqProofs only [CQ,D8,CJ,f2]
  exact ⟨trivial,hx⟩
end Go.Proofs.YtocilianjfhifaaGreatDoor.Cov
