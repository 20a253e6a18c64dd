/- Part 6 of the proof (E4, E5, E6, E7, E8, E9, E10, M1, M2); no condition. -/
import Derived.Test.YtfpagfhhhlljjaaGreatDoorYA5
set_option linter.unusedVariables false
set_option linter.unusedSimpArgs false
set_option maxRecDepth 8000
namespace Go.Proofs.YtfpagfhhhlljjaaGreatDoor.Cov
open Sm Bins Go.RowKit
open Bool renaming not_false→jC,not_true→jU,eq_iff_iff→qQ,or_false→jR
open List renaming length_take→zJ,getElem?_eq_getElem→jO,map_cons→jE,map_nil→jD,append_nil→jF,getElem?_cons_zero→zL,getElem?_cons_succ→zQ,length_map→jH,getElem?_append_left→zI,getElem?_set→zB,getElem?_eq_none→qO,cons_append→qB,take_succ_eq_append_getElem→zK,mem_append→qE,mem_cons→qI,nil_append→zZ,getElem_mem→jP,mem_cons_of_mem→wO,append_assoc→zF,take_of_length_le→jW,length_cons→zX,foldl_cons→qY,getElem?_map→jY,drop_eq_nil_of_le→jX,length_append→qA,contains_cons→jS,contains_nil→jJ,drop_eq_getElem_cons→zH
open Nat renaming le_refl→jL,le_of_ble_eq_true→jI,reduceEqDiff→jB,reduceAdd→jM,lt_or_ge→zD,add_zero→jK,zero_add→jG,le_trans→qK,reduceBEq→jQ
open Option renaming getD_some→jA,getD_none→jT
theorem AYC (l:List UInt8):(Lib.cut l [91]).1.length≤l.length:=by
 unfold Lib.cut
 split
 ·simp only [zJ]; exact Nat.min_le_right _ _
 ·exact jL _
theorem ixl {l:List UInt8} {k:Nat} {b:UInt8} {i:Int} (hi:i=(k:Int)) (hb:l[k]? = some b):NG Tryz.prog 9 (.str ⟨l.toArray⟩) (.int .i64 i)=some (.int .u8 b.toNat):=by
 subst hi
 have hk:k < l.length:=(List.getElem?_eq_some_iff.1 hb).1
 have:=ix9 ⟨l.toArray⟩ k .i64 hk
 rw [this]
 have h2:(⟨l.toArray⟩:ByteArray)[k]'hk=l[k]:=rfl
 rw [h2]
 rw [jO hk] at hb
 rw [Option.some.inj hb]
theorem szl (l:List UInt8):(⟨l.toArray⟩:ByteArray).size=l.length:=rfl
theorem wrap_u8 {n:Int} (h0:0≤n) (h1:n < 256):IntKind.u8.wrap n=n:=by
 unfold IntKind.wrap; simp [IntKind.bits,IntKind.signed]; omega
theorem AHA (G:Nat→AV) (hG:GOk G) (s:ByteArray) (h:Hp) (hl:s.size≤1048576):PCall (En G) 150 [.str s] h (elemV (PG s)):=by
 refine acN Tryz.func150 rfl ?_
 show awp _ _ _ _ _ (EJ _ [.tmp 2,.tmp 3,.tmp 4] _)
 simp -implicitDefEqProofs only [BC,A8,BA,AY,BB,AO,AQ,AL,BD,AX,AC,AA,AZ,AU,CB,BH,BM,IA,BG,A7,CG,BX,BF,jE,jD,jF,↓reduceIte,jB,jA,jC,enP]
 refine (AUT G hG s h hl).use ?_
 have he:=AUM s
 have hal:=AYC s.data.toList
 unfold cutV
 generalize Lib.cut s.data.toList [91]=c at he hal ⊢
 obtain ⟨a,b,f⟩:=c
 have hal2:a.length≤s.size:=by simpa using hal
 simp -implicitDefEqProofs only [zL,zQ,BC,A8,BA,AY,BB,BL,BV,CO,AO,AQ,AL,BD,AX,AC,AA,AZ,BG,A7,G7,FY,IP,AB,ES,↓reduceIte,jB,jA,jC]
 cases f
 ·simp -implicitDefEqProofs only [BC,A8,BK,BI,BA,CQ,OE,DT,AY,BB,BL,BV,CO,FP,AO,AQ,AL,BD,AX,AC,AA,EQ,AZ,AU,BH,BM,IA,BG,A7,CP,DY,↓reduceIte,jB,jA,jC]
  exact ⟨by rw [he]; rfl,trivial⟩
 simp -implicitDefEqProofs only [BL,BV,CO,EM,AO,AQ,AL,BD,AX,AC,AA,AZ,CB,BG,CG,BX,jE,jD,jF,↓reduceIte,jB,jA,jU,jC]
 refine (NK G hG.kw ⟨a.toArray⟩ h (by rw [szl]; omega)).use ?_
 simp -implicitDefEqProofs only [AY,BL,BV,CO,EM,AO,AQ,AL,BD,AX,AC,AA,AZ,AU,BM,BG,CP,DR,G7,AB,ES,↓reduceIte,jB,jA,jC]
 cases hn:GM ⟨a.toArray⟩
 ·simp -implicitDefEqProofs only [BC,A8,BK,BI,BA,CQ,OE,DT,AY,BB,BL,BV,CO,FP,AO,AQ,AL,BD,AX,AC,AA,EQ,AZ,AU,BH,BM,IA,BG,A7,CP,DY,↓reduceIte,jB,jA,jC]
  exact ⟨by rw [he]; simp [hn]; rfl,trivial⟩
 simp -implicitDefEqProofs only [AY,BL,BV,CO,EM,AO,AQ,AL,BD,AX,AC,AA,AZ,AU,BH,BM,BG,CP,DR,BR,DU,AB,ET,↓reduceIte,jB,jA,jU,jC,enP,ln9,szl]
 refine II (fun hb => ?_) (fun hb => ?_)
 ·simp -implicitDefEqProofs only [BC,A8,BK,BI,BA,CQ,OE,DT,AY,BB,BL,BV,CO,FP,AO,AQ,AL,BD,AX,AC,AA,EQ,AZ,AU,BH,BM,IA,BG,A7,CP,DY,↓reduceIte,jB,jA,jC,hb]
  have hne : ∀ d y,b≠[d,y]:=by
   intro d y e; subst e; simp at hb
  have:PG s=none:=by
   rw [he]; split
   ·split
    ·rename_i hm; exact absurd hm (hne _ _)
    ·rfl
   ·rfl
  exact ⟨by rw [this]; rfl,trivial⟩
 have h2:b.length=2:=by simp at hb; omega
 match b,h2 with
 | [d,y],_ =>
   have i1:NG Tryz.prog 9 (.str ⟨[d,y].toArray⟩) (.int .i64 1)=some (.int .u8 y.toNat):=ixl (k:=1) rfl rfl
   have i0:NG Tryz.prog 9 (.str ⟨[d,y].toArray⟩) (.int .i64 0)=some (.int .u8 d.toNat):=ixl (k:=0) rfl rfl
   have he2:PG s=if (y == 93 && decide (48≤d.toNat) && decide (d.toNat < 56))=true then some (a,d) else none:=by
    rw [he]; simp [hn]
   clear he
   simp -implicitDefEqProofs only [AY,BL,BV,CO,EM,AO,AQ,AL,BD,AX,AC,AA,AZ,AU,BH,BM,BG,CP,DR,BR,NW,AB,ET,↓reduceIte,jB,jA,jC,enP,hb,i1,i0]
   refine II (fun hc => ?_) (fun hc => ?_)
   ·simp -implicitDefEqProofs only [BC,A8,BK,BI,BA,CQ,OE,DT,AY,BB,BL,BV,CO,FP,AO,AQ,AL,BD,AX,AC,AA,EQ,AZ,AU,BH,BM,IA,BG,A7,CP,DY,↓reduceIte,jB,jA,jC,hc]
    have hy:(y == 93)=false:=by
     rw [← Bool.not_eq_true]; intro e; rw [beq_iff_eq] at e; subst e; simp at hc
    exact ⟨by rw [he2,hy]; rfl,trivial⟩
   have hy:(y == 93)=true:=by
    rw [beq_iff_eq,← UInt8.toNat_inj]
    simp at hc; show y.toNat=93; omega
   simp -implicitDefEqProofs only [AY,BL,BV,CO,EM,AO,AQ,AL,BD,AX,AC,AA,AZ,AU,BH,BM,BG,CP,DR,BR,NW,AB,CW,↓reduceIte,jB,jA,jC,enP,hc,i0]
   refine II (fun hd => ?_) (fun hd => ?_)
   ·simp -implicitDefEqProofs only [BC,A8,BK,BI,BA,CQ,OE,DT,AY,BB,BL,BV,CO,FP,AO,AQ,AL,BD,AX,AC,AA,EQ,AZ,AU,BH,BM,IA,A7,CP,DY,↓reduceIte,jB,jA,jC,hd]
    have:decide (48≤d.toNat)=false:=by simp at hd ⊢; omega
    exact ⟨by rw [he2,this]; simp; rfl,trivial⟩
   have hd1:48≤d.toNat:=by simp at hd; omega
   simp -implicitDefEqProofs only [BI,BA,AY,BB,BL,BV,CO,EM,AO,AQ,AL,BD,AX,AC,AA,AZ,AU,BH,BM,BG,CP,DR,BR,NW,AB,FX,↓reduceIte,jB,jA,jC,enP,hd,i0]
   refine CU (fun hf => ?_) (fun hf => ?_)
   ·simp -implicitDefEqProofs only [BC,A8,BK,BA,CQ,OE,AY,BB,AO,AQ,AL,BD,AX,AC,AA,AU,BH,BM,IA,A7,↓reduceIte,jB,jA,jC]
    have:decide (d.toNat < 56)=false:=by simp at hf ⊢; omega
    exact ⟨by rw [he2,this]; simp; rfl,trivial⟩
   have hd2:d.toNat < 56:=by simp at hf; omega
   simp -implicitDefEqProofs only [BC,BO,BA]
   refine EX (by kernel_rfl) ?_
   simp -implicitDefEqProofs only [F6,EF,DZ,FC,EH,FI,IK,IB,AR8,AF7,BK,BA,OE,AO,AA,AZ,AU,BH,BM,BR,Y3,NW,AB,KX,↓reduceIte,jB,jM,jA,enP,AUS,i0,wrap_u8 (n:=(d.toNat:Int) - 48) (by omega) (by omega),wrap_i64 (n:=(d.toNat:Int) - 48) (by omega) (by omega)]
   exact ⟨by rw [he2]; simp [hy,hd1,hd2]; rfl,trivial⟩
theorem A0A {s:ByteArray} {u:Nat} {h:Hp} (hu:u≤s.size):KD Tryz.prog h 9 (.str s) none (some (.int .i64 (u:Int))) none=some (.str (s.extract 0 u)):=by
 have:Tryz.prog.underlying 9=some .string:=by kernel_rfl
 simp [KD,this,IZ,hu]
theorem AX2 (a b:List UInt8):(⟨(a ++ b).toArray⟩:ByteArray).extract 0 a.length=⟨a.toArray⟩:=by
 ext1
 simp
set_option maxHeartbeats 1000000 in
theorem APO (G:Nat→AV) (s:ByteArray) (h:Hp) (hl:s.size≤1099511627776):PCall (En G) 215 [.str s] h (elemV (PG s)):=by
 refine acN Tryz.func215 rfl ?_
 show awp _ _ _ _ _ (EJ _ [.tmp 2,.tmp 3,.tmp 4] _)
 obtain ⟨⟨l⟩⟩:=s
 rw [szl] at hl
 rcases zD l.length 4 with h4 | h4
 ·have hd:decide ((l.length:Int) < 4)=true:=by simp; omega
  simp -implicitDefEqProofs only [BC,A8,BK,BI,BA,CQ,OE,DT,AY,BB,BL,BV,CO,FP,AO,AQ,AL,BD,AX,AC,AA,EQ,AZ,AU,BH,BM,IA,BG,A7,CP,DY,BR,DU,AB,CW,BF,↓reduceIte,jB,jA,jC,enP,ln9,szl,hd]
  have:PG ⟨l.toArray⟩=none:=by
   unfold PG; rw [if_neg]; simp; omega
  exact ⟨by rw [this]; rfl,trivial⟩
 obtain ⟨b,x,d,y,rfl⟩:=three (show 3≤l.length by omega)
 have hlen:(b ++ [x,d,y]).length=b.length+3:=by simp
 rw [hlen] at hl h4
 have hbl:0 < b.length:=by omega
 have hb:b≠[]:=List.length_pos_iff.1 hbl
 have he:=ADJ (x:=x) (d:=d) (y:=y) hb
 generalize hn:GM ⟨b.toArray⟩=nm at he
 have i1:NG Tryz.prog 9 (.str ⟨(b ++ [x,d,y]).toArray⟩) (.int .i64 ((b.length:Int)+2))=some (.int .u8 y.toNat):=ixl (k:=b.length+2) (by omega) (by simp)
 have i2:NG Tryz.prog 9 (.str ⟨(b ++ [x,d,y]).toArray⟩) (.int .i64 ((b.length:Int)+1))=some (.int .u8 d.toNat):=ixl (k:=b.length+1) (by omega) (by simp)
 have i3:NG Tryz.prog 9 (.str ⟨(b ++ [x,d,y]).toArray⟩) (.int .i64 (b.length:Int))=some (.int .u8 x.toNat):=ixl (k:=b.length) rfl (by simp)
 have i4:=A0A (s:=⟨(b ++ [x,d,y]).toArray⟩) (u:=b.length) (h:=h) (by rw [szl]; omega)
 rw [AX2] at i4
 have hsz:(⟨(b ++ [x,d,y]).toArray⟩:ByteArray).size=b.length+3:=by rw [szl,hlen]
 generalize (⟨(b ++ [x,d,y]).toArray⟩:ByteArray)=s at *
 have w1:IntKind.i64.wrap (((b.length+3:Nat):Int) - 1)=(b.length:Int)+2:=by rw [wrap_i64 (by omega) (by omega)]; omega
 have w2:IntKind.i64.wrap (((b.length+3:Nat):Int) - 2)=(b.length:Int)+1:=by rw [wrap_i64 (by omega) (by omega)]; omega
 have w3:IntKind.i64.wrap (((b.length+3:Nat):Int) - 3)=(b.length:Int):=by rw [wrap_i64 (by omega) (by omega)]; omega
 have hd8:d.toNat < 256:=d.toNat_lt
 have w4:IntKind.i64.wrap (d.toNat:Int)=(d.toNat:Int):=wrap_i64 (by omega) (by omega)
 have w5:IntKind.i64.wrap ((d.toNat:Int) - 48)=(d.toNat:Int) - 48:=wrap_i64 (by omega) (by omega)
 have ha:decide (((b.length+3:Nat):Int) < 4)=false:=by simp; omega
 simp -implicitDefEqProofs only [BC,A8,BA,AY,BB,BL,BV,CO,EM,AO,AQ,AL,BD,AX,AC,AA,AZ,AU,BH,BM,IA,BG,A7,CP,DR,BR,NW,DU,AB,KX,ET,CW,BF,↓reduceIte,jB,jA,jC,enP,ln9,hsz,ha,w1,w2,w3,i1,i2,i3,i4]
 refine II (fun hc => ?_) (fun hc => ?_)
 ·simp -implicitDefEqProofs only [BC,A8,BK,BI,BA,CQ,OE,DT,AY,BB,BL,BV,CO,FP,AO,AQ,AL,BD,AX,AC,AA,EQ,AZ,AU,BH,BM,IA,A7,CP,DY,↓reduceIte,jB,jA,jC,hc]
  have hy:(y == 93)=false:=by
   rw [← Bool.not_eq_true]; intro e; rw [beq_iff_eq] at e; subst e; simp at hc
  exact ⟨by rw [he,hy]; simp; rfl,trivial⟩
 have hy:(y == 93)=true:=by
  rw [beq_iff_eq,← UInt8.toNat_inj]
  simp at hc; show y.toNat=93; omega
 simp -implicitDefEqProofs only [BI,BA,AY,BB,BL,BV,CO,EM,AO,AQ,AL,BD,AX,AC,AA,AZ,AU,BH,BM,BG,CP,DR,BR,NW,DU,AB,KX,ET,BF,↓reduceIte,jB,jA,jC,enP,ln9,hsz,hc,w1,w2,w3,i1,i2,i3,i4]
 refine CU (fun hd => ?_) (fun hd => ?_)
 ·simp -implicitDefEqProofs only [BC,A8,BK,BA,CQ,OE,AY,BB,AO,AQ,AL,BD,AX,AC,AA,AU,BH,BM,IA,A7,↓reduceIte,jB,jA,jC]
  have hx:(x == 91)=false:=by
   rw [← Bool.not_eq_true]; intro e; rw [beq_iff_eq] at e; subst e; simp at hd
  exact ⟨by rw [he,hx]; simp; rfl,trivial⟩
 have hx:(x == 91)=true:=by
  rw [beq_iff_eq,← UInt8.toNat_inj]
  simp at hd; show x.toNat=91; omega
 simp -implicitDefEqProofs only [Option.map_some,Option.map_none,BC,A8,BO,BA,AY,BB,BL,BV,CO,AO,AQ,AL,BD,AX,AC,AA,AZ,AU,BH,BG,A7,BR,Y3,VK,NW,DU,AB,KX,CW,BF,↓reduceIte,jB,jA,jC,enP,ln9,AUS,hsz,w1,w2,w3,i1,i2,i3,i4,w4,w5]
 refine II (fun hf => ?_) (fun hf => ?_)
 ·simp -implicitDefEqProofs only [BC,A8,BK,BI,BA,CQ,OE,DT,AY,BB,BL,BV,CO,FP,AO,AQ,AL,BD,AX,AC,AA,EQ,AZ,AU,BH,BM,IA,BG,A7,CP,DY,↓reduceIte,jB,jA,jC,hf]
  have:decide (48≤d.toNat)=false:=by simp at hf ⊢; omega
  exact ⟨by rw [he,this]; simp; rfl,trivial⟩
 have hd1:48≤d.toNat:=by simp at hf; omega
 simp -implicitDefEqProofs only [AY,BL,BV,CO,EM,AO,AQ,AL,BD,AX,AC,AA,AZ,AU,BH,BM,BG,CP,DR,BR,AB,FX,↓reduceIte,jB,jA,jC,enP,hf]
 refine II (fun hf => ?_) (fun hf => ?_)
 ·simp -implicitDefEqProofs only [BC,A8,BK,BI,BA,CQ,OE,DT,AY,BB,BL,BV,CO,FP,AO,AQ,AL,BD,AX,AC,AA,EQ,AZ,AU,BH,BM,IA,A7,CP,DY,↓reduceIte,jB,jA,jC,hf]
  have:decide (d.toNat < 56)=false:=by simp at hf ⊢; omega
  exact ⟨by rw [he,this]; simp; rfl,trivial⟩
 have hd2:d.toNat < 56:=by simp at hf; omega
 simp -implicitDefEqProofs only [BL,BV,CO,EM,AO,AQ,AL,BD,AX,AC,AA,AZ,CB,BG,CG,BX,jE,jD,jF,↓reduceIte,jB,jA,jC,hf]
 refine (OZ G ⟨b.toArray⟩ h).use ?_
 simp -implicitDefEqProofs only [BI,BA,AY,BB,BL,BV,CO,EM,AO,AQ,AL,BD,AX,AC,AA,AZ,AU,BM,CP,DR,G7,AB,ES,↓reduceIte,jB,jA,jC,hn]
 cases nm
 ·simp -implicitDefEqProofs only [BC,A8,BK,BA,CQ,OE,DT,AY,BB,AO,AQ,AL,BD,AX,AC,AA,AU,BH,BM,IA,A7,↓reduceIte,jB,jA,jC]
  exact ⟨by rw [he]; simp; rfl,trivial⟩
 ·simp -implicitDefEqProofs only [BC,A8,BO,BK,BA,OE,D5,AY,BB,AO,AQ,AL,BD,AX,AC,AA,AZ,AU,BM,BG,A7,↓reduceIte,jB,jA,jU,jC]
  exact ⟨by rw [he]; simp [hy,hx,hd1,hd2]; rfl,trivial⟩
def RP (s:ByteArray):Bool:=(PG s).isSome || GM s
theorem ADI (o:Option (List UInt8 × UInt8)) : ∃ a n,elemV o = .tup [.str a,.int .i64 n,.bool o.isSome]:=by
 cases o with
 | none=>exact ⟨_,_,rfl⟩
 | some x=>exact ⟨_,_,rfl⟩
theorem AMH (G:Nat→AV) (hG:GOk G) (s:ByteArray) (h:Hp) (hl:s.size≤1048576):PCall (En G) 106 [.str s] h (.bool (RP s)):=by
 refine acN Tryz.func106 rfl ?_
 show awp _ _ _ _ _ (EJ _ [.tmp 2] _)
 simp -implicitDefEqProofs only [BC,A8,BA,AY,BB,AO,AQ,AL,BD,AX,AC,AA,AZ,AU,CB,BM,BG,A7,CG,BX,BF,jE,jD,jF,↓reduceIte,jB,jA,jC,enP]
 refine (AHA G hG s h hl).use ?_
 obtain ⟨a,n,e⟩:=ADI (PG s)
 rw [e]
 simp -implicitDefEqProofs only [zL,zQ,BC,A8,BA,AY,BB,BL,BV,CO,AO,AQ,AL,BD,AX,AC,AA,AZ,BG,A7,FY,IP,AB,↓reduceIte,jB,jA,jC]
 cases hs:(PG s).isSome
 ·simp -implicitDefEqProofs only [BL,BV,CO,EM,AO,AQ,AL,BD,AX,AC,AA,AZ,CB,BG,CG,BX,BF,jE,jD,jF,↓reduceIte,jB,jA,jC]
  refine (NK G hG.kw s h (by omega)).use ?_
  simp -implicitDefEqProofs only [BK,BA,CJ,AY,BB,AO,AQ,AL,BD,AX,AC,AA,AZ,AU,BM,A7,CP,DR,↓reduceIte,jB,jA,jC]
  exact ⟨by unfold RP; rw [hs]; rfl,trivial⟩
 ·simp -implicitDefEqProofs only [BK,BA,CJ,AY,BB,BL,BV,CO,FP,AO,AQ,AL,BD,AX,AC,AA,EQ,AZ,AU,BM,A7,CP,DY,↓reduceIte,jB,jA,jC]
  exact ⟨by unfold RP; rw [hs]; rfl,trivial⟩
theorem AQU (G:Nat→AV) (s:ByteArray) (h:Hp) (hl:s.size≤1048576):PCall (En G) 187 [.str s] h (.bool (RP s)):=by
 refine acN Tryz.func187 rfl ?_
 show awp _ _ _ _ _ (EJ _ [.tmp 2] _)
 simp -implicitDefEqProofs only [BC,A8,BA,AY,BB,AO,AQ,AL,BD,AX,AC,AA,AZ,AU,CB,BM,BG,A7,CG,BX,BF,jE,jD,jF,↓reduceIte,jB,jA,jC,enP]
 refine (APO G s h (by omega)).use ?_
 obtain ⟨a,n,e⟩:=ADI (PG s)
 rw [e]
 simp -implicitDefEqProofs only [zL,zQ,BC,A8,BA,AY,BB,BL,BV,CO,AO,AQ,AL,BD,AX,AC,AA,AZ,BG,A7,FY,IP,AB,↓reduceIte,jB,jA,jC]
 cases hs:(PG s).isSome
 ·simp -implicitDefEqProofs only [BL,BV,CO,EM,AO,AQ,AL,BD,AX,AC,AA,AZ,CB,BG,CG,BX,BF,jE,jD,jF,↓reduceIte,jB,jA,jC]
  refine (OZ G s h).use ?_
  simp -implicitDefEqProofs only [BK,BA,CJ,AY,BB,AO,AQ,AL,BD,AX,AC,AA,AZ,AU,BM,A7,CP,DR,↓reduceIte,jB,jA,jC]
  exact ⟨by unfold RP; rw [hs]; rfl,trivial⟩
 ·simp -implicitDefEqProofs only [BK,BA,CJ,AY,BB,BL,BV,CO,FP,AO,AQ,AL,BD,AX,AC,AA,EQ,AZ,AU,BM,A7,CP,DY,↓reduceIte,jB,jA,jC]
  exact ⟨by unfold RP; rw [hs]; rfl,trivial⟩
def TQ (s:ByteArray):Bool:=s.toList == (⟨#[]⟩:ByteArray).toList
def badO (e:Ex):Bool:=decide (e.op < 1) || decide (e.op > 25)
def AHG (e:Ex):Bool:=((e.op == 1) && (decide (e.n < 0) || decide (e.n > 65535))) || (!(e.op == 1) && !(e.n == 0))
def AEW (e:Ex):Bool:=(!MB e.op && !TQ e.name) || !ZE e.op e.args.length
def XF (e:Ex):Bool:=((e.op == 2) && !RP e.name) || (((e.op == 3) || (e.op == 24)) && !GM e.name)
def KJ (e:Ex):Int:=if badO e then 1 else if AHG e then 1 else if AEW e then 1 else if XF e then 7 else 0
theorem AQE (G:Nat→AV) (hG:GOk G) (e:Ex) (h:Hp) (hl:e.name.size≤1048576):PCall (En G) 70 [.agg (DC e)] h (.int .i64 (KJ e)):=by
 refine ACalls.pure0 rfl ?_
 refine acN Tryz.func70 rfl ?_
 show awp _ _ _ _ _ (EJ _ [.tmp 2] _)
 simp -implicitDefEqProofs only [BC,A8,BA,AY,BB,BL,BV,CO,AO,AQ,AL,BD,AX,AC,AA,AZ,AU,BH,BG,A7,FD,BN,BR,BJ,BU,AB,EG,BF,↓reduceIte,jB,jK,jA,jC,enP,JJ,bxE,C9 ag3,KH]
 refine UC (fun F H=>F 3 = .bool (MB e.op)∧F 1 = .ptr h.length 0 0∧H=h ++ [.live 4 [DC e]]) ?_ ?_
 ·cases b2:(e.op == 2) <;> cases b3:(e.op == 3)
  all_goals
   simp -implicitDefEqProofs only [AY,BB,BL,BV,CO,EM,FP,AO,AQ,AL,BD,AX,AC,AA,EQ,AZ,AU,BH,BM,BG,A7,CP,DY,DR,BN,BR,BJ,AB,EG,↓reduceIte,jB,jK,jA,jC,enP,JJ,b2,b3,C9 ag3,KH]
   exact ⟨by simp [MB,b2,b3],trivial,trivial⟩
 rintro F H ⟨f3,f1,rfl⟩
 simp -implicitDefEqProofs only [BC,BQ,A8,BA,AY,BL,BV,CO,AO,AQ,AL,BD,AX,AC,AA,AZ,AU,BH,BG,BN,BR,BJ,AB,CW,↓reduceIte,jK,jA,jC,enP,JJ,f1,f3,C9 ag3,KH]
 refine UC (fun F H=>F 17 = .bool (badO e)∧F 3 = .bool (MB e.op)∧F 1 = .ptr h.length 0 0∧H=h ++ [.live 4 [DC e]]) ?_ ?_
 ·cases b2:decide (e.op < 1)
  all_goals
   simp -implicitDefEqProofs only [AY,BB,BL,BV,CO,EM,FP,AO,AQ,AL,BD,AX,AC,AA,EQ,AZ,AU,BH,BM,A7,CP,DY,DR,BN,BR,BJ,AB,EY,↓reduceIte,jB,jK,jA,jC,enP,JJ,b2,f1,f3,C9 ag3,KH]
   exact ⟨by simp [badO,b2],trivial,trivial,trivial⟩
 clear f1 f3
 rintro F H ⟨f17,f3,f1,rfl⟩
 simp -implicitDefEqProofs only [BI,BA,AZ,f17]
 refine CU (fun ho => ?_) (fun ho => ?_)
 ·simp -implicitDefEqProofs only [BC,A8,BK,BA,CQ,EE,CJ,AY,BB,AO,AQ,AL,BD,AX,AC,AA,AU,BH,A7,↓reduceIte,jA,jC]
  exact ⟨by unfold KJ; rw [if_pos ho],_,rfl⟩
 simp -implicitDefEqProofs only [BC,A8,AY,BL,BV,CO,AO,AQ,AL,BD,AX,AC,AA,AZ,AU,BH,BG,BN,BR,BJ,AB,EG,↓reduceIte,jK,jA,jC,enP,JJ,f1,f3,C9 ag3,KH,AAU]
 refine UC (fun F H=>F 26 = .bool (AHG e)∧F 3 = .bool (MB e.op)∧F 1 = .ptr h.length 0 0∧H=h ++ [.live 4 [DC e]]) ?_ ?_
 ·cases b1:(e.op == 1) <;> cases b2:decide (e.n < 0) <;> cases b3:decide (e.n > 65535) <;> cases b4:(e.n == 0)
  all_goals
   simp -implicitDefEqProofs only [AY,BB,BL,BV,CO,GV,EM,JK,FP,RV,AO,AQ,AL,BD,AX,AC,AA,EQ,AZ,AU,BH,BM,BG,A7,CP,DY,DR,BN,BR,BJ,AB,ET,CW,EY,↓reduceIte,jB,jK,jG,jA,jU,jC,enP,JJ,AC8,bne,b1,b2,b3,b4,f1,f3,C9 ag3,KH,AAU]
   exact ⟨by simp [AHG,b1,b2,b3,b4],trivial,trivial,trivial⟩
 clear f1 f3 f17
 rintro F H ⟨f26,f3,f1,rfl⟩
 simp -implicitDefEqProofs only [BI,BA,AZ,f26]
 refine CU (fun hn => ?_) (fun hn => ?_)
 ·simp -implicitDefEqProofs only [BC,A8,BK,BA,CQ,EE,CJ,AY,BB,AO,AQ,AL,BD,AX,AC,AA,AU,BH,A7,↓reduceIte,jA,jC]
  exact ⟨by unfold KJ; rw [if_neg (by simp [ho]),if_pos hn],_,rfl⟩
 simp -implicitDefEqProofs only [BC,A8,AY,BL,BV,CO,AO,AQ,AL,BD,AX,AC,AA,AZ,BG,G7,AB,ES,↓reduceIte,jA,jC,f1,f3,C9 ag9,QL]
 refine UC (fun F H=>F 50 = .bool (AEW e)∧F 3 = .bool (MB e.op)∧F 1 = .ptr h.length 0 0∧H=h ++ [.live 4 [DC e]]) ?_ ?_
 ·cases bm:MB e.op <;> cases b5:TQ e.name
  all_goals
   have b6:=b5
   unfold TQ at b6
   simp -implicitDefEqProofs only [AY,BB,BL,BV,CO,GV,EM,JK,FP,AO,AQ,AL,BD,AX,AC,AA,EQ,AZ,AU,CB,BM,IA,BG,A7,CP,DY,DR,BN,BR,BJ,CG,BX,AB,ADT,jE,jD,jF,↓reduceIte,jB,jG,jA,jU,jC,enP,MM,bne,bm,b6,f1,f3,C9 ag9,QL,ldE]
  ·exact ⟨by simp [AEW,bm,b5],trivial,trivial,trivial⟩
  all_goals
   refine (AEI G e _).use ?_
   simp -implicitDefEqProofs only [AY,BB,BL,BV,CO,EM,AO,AQ,AL,BD,AX,AC,AA,AZ,AU,BM,A7,CP,DR,G7,AB,ES,↓reduceIte,jB,jA,jC,bne,bm,f1,f3]
   exact ⟨by simp [AEW,bm,b5],trivial,trivial,trivial⟩
 clear f1 f3 f26
 rintro F H ⟨f50,f3,f1,rfl⟩
 simp -implicitDefEqProofs only [BI,BA,AZ,f50]
 refine CU (fun hs => ?_) (fun hs => ?_)
 ·simp -implicitDefEqProofs only [BC,A8,BK,BA,CQ,EE,CJ,AY,BB,AO,AQ,AL,BD,AX,AC,AA,AU,BH,A7,↓reduceIte,jA,jC]
  exact ⟨by unfold KJ; rw [if_neg (by simp [ho]),if_neg (by simp [hn]),if_pos hs],_,rfl⟩
 simp -implicitDefEqProofs only [BC,A8,AY,BL,BV,CO,AO,AQ,AL,BD,AX,AC,AA,AZ,AU,BH,BG,BN,BR,BJ,AB,EG,↓reduceIte,jK,jA,jC,enP,JJ,f1,f3,C9 ag9,C9 ag3,KH,QL]
 have fin : ∀ b,XF e=b→KJ e=if b then 7 else 0:=by
  intro b hb
  unfold KJ; rw [if_neg (by simp [ho]),if_neg (by simp [hn]),if_neg (by simp [hs]),hb]
 cases b2:(e.op == 2)
 ·simp -implicitDefEqProofs only [AY,BL,BV,CO,EM,JK,AO,AQ,AL,BD,AX,AC,AA,EQ,AZ,AU,BH,BM,BG,CP,DR,BN,BR,BJ,AB,EG,↓reduceIte,jB,jK,jA,jC,enP,JJ,b2,f1,f3,C9 ag9,C9 ag3,KH,QL]
  cases b3:(e.op == 3) <;> cases b4:(e.op == 24)
  all_goals
   simp -implicitDefEqProofs only [BC,A8,BO,BK,BI,BA,EI,CJ,D5,AY,BB,BL,BV,CO,GV,EM,JK,FP,AO,AQ,AL,BD,AX,AC,AA,EQ,AZ,AU,CB,BH,BM,BG,A7,CP,DY,DR,BN,BR,BJ,CG,BX,AB,EG,jE,jD,jF,↓reduceIte,jB,jK,jG,jA,jC,enP,JJ,MM,b3,b4,f1,f3,C9 ag9,C9 ag3,KH,QL]
  ·exact ⟨by rw [fin false (by simp [XF,b2,b3,b4])]; rfl,_,rfl⟩
  all_goals
   refine (NK G hG.kw e.name _ (by omega)).use ?_
   cases bi:GM e.name
   ·simp -implicitDefEqProofs only [BC,A8,BK,BI,BA,CQ,EE,CJ,DT,AY,BB,BL,BV,CO,GV,EM,AO,AQ,AL,BD,AX,AC,AA,AZ,AU,BH,BM,A7,CP,DY,DR,G7,AB,ES,↓reduceIte,jB,jA,jC]
    exact ⟨by rw [fin true (by simp [XF,b2,b3,b4,bi])]; rfl,_,rfl⟩
   ·simp -implicitDefEqProofs only [BC,A8,BO,BK,BI,BA,EI,CJ,D5,AY,BB,BL,BV,CO,GV,EM,AO,AQ,AL,BD,AX,AC,AA,AZ,AU,BH,BM,A7,CP,DY,DR,G7,AB,ES,↓reduceIte,jB,jA,jU,jC]
    exact ⟨by rw [fin false (by simp [XF,b2,b3,b4,bi])]; rfl,_,rfl⟩
 ·have e2:e.op=2:=by simpa using b2
  simp -implicitDefEqProofs only [BL,BV,CO,GV,AO,AQ,AL,BD,AX,AC,AA,AZ,CB,BN,BJ,CG,BX,AB,jE,jD,jF,↓reduceIte,jB,jG,jA,jC,enP,MM,b2,f1,f3,C9 ag9,C9 ag3,KH,QL]
  refine (AMH G hG e.name _ hl).use ?_
  cases bi:RP e.name
  ·simp -implicitDefEqProofs only [BC,A8,BK,BI,BA,CQ,EE,CJ,DT,AY,BB,BL,BV,CO,GV,FP,RV,AO,AQ,AL,BD,AX,AC,AA,EQ,AZ,AU,BH,BM,BG,A7,CP,DY,G7,AB,ES,↓reduceIte,jB,jA,jC]
   exact ⟨by rw [fin true (by simp [XF,b2,bi])]; rfl,_,rfl⟩
  ·simp -implicitDefEqProofs only [BC,A8,BO,BK,BI,BA,EI,CJ,D5,AY,BB,BL,BV,CO,GV,EM,JK,AO,AQ,AL,BD,AX,AC,AA,EQ,AZ,AU,BH,BM,BG,A7,CP,DY,DR,BN,BR,G7,BJ,AB,EG,ES,↓reduceIte,jB,jK,jA,jU,jC,enP,JJ,f1,C9 ag3,KH,e2,Int.reduceBEq]
   exact ⟨by rw [fin false (by simp [XF,e2,bi])]; rfl,_,rfl⟩
def ADX (e:Ex):Bool:=badO e || decide (e.n < 0) || decide (e.n > 65535) || (!(e.n == 0) && !(e.op == 1)) || (!TQ e.name && !MB e.op)
def AKT (op:Int) (n:Nat):Bool:=((op == 23) && (decide ((n:Int) < 3) || decide ((n:Int) > 33) || ((n:Int) % 2 == 0))) || (!(op == 23) && !((n:Int) == arity op))
theorem AYS (op:Int) (n:Nat):AKT op n = !ZE op n:=by
 unfold AKT ZE
 rcases hc:(op == 23) with _ | _
 ·simp
 ·have h1:decide ((n:Int) < 3) = !decide ((n:Int)≥3):=by rw [qQ]; simp
  have h2:decide ((n:Int) > 33) = !decide ((n:Int)≤33):=by rw [qQ]; simp
  have h3:((n:Int) % 2 == 0) = !((n:Int) % 2 == 1):=by rw [qQ]; simp; omega
  rw [h1,h2,h3]
  cases ((n:Int) % 2 == 1) <;> cases decide ((n:Int)≥3) <;> cases decide ((n:Int)≤33) <;> rfl
theorem AYT (e:Ex):(ADX e || AKT e.op e.args.length)=(badO e || AHG e || AEW e):=by
 rw [AYS]
 unfold ADX AHG AEW
 rcases h1:(e.op == 1) with _ | _
 ·rcases h2:(e.n == 0) with _ | _
  ·simp
  ·have h3:decide (e.n < 0)=false:=by simp at h2 ⊢; omega
   have h4:decide (e.n > 65535)=false:=by simp at h2 ⊢; omega
   rw [h3,h4]
   cases badO e <;> cases TQ e.name <;> cases MB e.op <;> cases ZE e.op e.args.length <;> rfl
 ·cases badO e <;> cases TQ e.name <;> cases MB e.op <;> cases ZE e.op e.args.length <;> cases decide (e.n < 0) <;> cases decide (e.n > 65535) <;> cases (e.n == 0) <;> rfl
theorem ZF (e:Ex):KJ e=if ADX e then 1 else if AKT e.op e.args.length then 1 else if XF e then 7 else 0:=by
 have:=AYT e
 unfold KJ
 revert this
 cases ADX e <;> cases AKT e.op e.args.length <;> cases badO e <;> cases AHG e <;> cases AEW e <;> simp
set_option maxHeartbeats 1000000 in
theorem APJ (G:Nat→AV) (e:Ex) (h:Hp) (hl:e.name.size≤1048576):PCall (En G) 153 [.agg (DC e)] h (.int .i64 (KJ e)):=by
 refine ACalls.pure0 rfl ?_
 refine acN Tryz.func153 rfl ?_
 show awp _ _ _ _ _ (EJ _ [.tmp 2] _)
 simp -implicitDefEqProofs only [BC,A8,BA,AY,BB,BL,BV,CO,AO,AQ,AL,BD,AX,AC,AA,AZ,AU,BH,BG,A7,FD,BN,BR,BJ,BU,AB,CW,BF,↓reduceIte,jB,jK,jA,jC,enP,JJ,bxE,C9 ag3,KH]
 refine UC (fun F H=>F 42 = .bool (ADX e)∧F 1 = .ptr h.length 0 0∧H=h ++ [.live 4 [DC e]]) ?_ ?_
 ·cases b1:decide (e.op < 1)
  case true =>
   simp -implicitDefEqProofs only [AY,BB,BL,BV,CO,FP,RV,AO,AQ,AL,BD,AX,AC,AA,EQ,AZ,AU,BM,BG,CP,DY,↓reduceIte,jB,jA,jC,b1]
   exact ⟨by simp [ADX,badO,b1],trivial,trivial⟩
  simp -implicitDefEqProofs only [AY,BL,BV,CO,EM,AO,AQ,AL,BD,AX,AC,AA,AZ,AU,BH,BM,BG,CP,DR,BN,BR,BJ,AB,EY,↓reduceIte,jB,jK,jA,jC,enP,JJ,b1,C9 ag3,KH,AAU]
  cases b2:decide (e.op > 25)
  case true =>
   simp -implicitDefEqProofs only [AY,BB,BL,BV,CO,FP,RV,AO,AQ,AL,BD,AX,AC,AA,EQ,AZ,AU,BM,BG,CP,DY,↓reduceIte,jB,jA,jC,b2]
   exact ⟨by simp [ADX,badO,b2],trivial,trivial⟩
  simp -implicitDefEqProofs only [AY,BL,BV,CO,EM,AO,AQ,AL,BD,AX,AC,AA,AZ,AU,BH,BM,BG,CP,DR,BN,BR,BJ,AB,CW,↓reduceIte,jB,jG,jA,jC,enP,AC8,b2,C9 ag3,KH,AAU]
  have bO:badO e=false:=by unfold badO; rw [b1,b2]; rfl
  cases b3:decide (e.n < 0)
  case true =>
   simp -implicitDefEqProofs only [AY,BB,BL,BV,CO,FP,RV,AO,AQ,AL,BD,AX,AC,AA,EQ,AZ,AU,BM,BG,CP,DY,↓reduceIte,jB,jA,jC,b3]
   exact ⟨by simp only [ADX,b3]; simp,trivial,trivial⟩
  simp -implicitDefEqProofs only [AY,BL,BV,CO,EM,AO,AQ,AL,BD,AX,AC,AA,AZ,AU,BH,BM,BG,CP,DR,BN,BR,BJ,AB,EY,↓reduceIte,jB,jG,jA,jC,enP,AC8,b3,C9 ag3,KH,AAU]
  cases b4:decide (e.n > 65535)
  case true =>
   simp -implicitDefEqProofs only [AY,BB,BL,BV,CO,FP,RV,AO,AQ,AL,BD,AX,AC,AA,EQ,AZ,AU,BM,BG,CP,DY,↓reduceIte,jB,jA,jC,b4]
   exact ⟨by simp only [ADX,b4]; simp,trivial,trivial⟩
  simp -implicitDefEqProofs only [BL,BV,CO,EM,AO,AQ,AL,BD,AX,AC,AA,AZ,AU,BH,BG,BN,BR,BJ,AB,ET,↓reduceIte,jB,jG,jA,jC,enP,AC8,b4,bne,C9 ag3,C9 ag9,KH,AAU,QL]
  have fin : ∀ b,((!(e.n == 0) && !(e.op == 1)) || (!TQ e.name && !MB e.op))=b→ADX e=b:=by
   intro b hb
   unfold ADX; rw [bO,b3,b4]; simpa using hb
  cases b5:(e.n == 0) <;> cases b6:(e.op == 1) <;> cases b7:TQ e.name
  all_goals
   have b8:=b7
   unfold TQ at b8
   simp -implicitDefEqProofs only [AY,BB,BL,BV,CO,GV,EM,JK,FP,RV,AO,AQ,AL,BD,AX,AC,AA,EQ,AZ,AU,CB,BH,BM,IA,BG,CP,DY,DR,BN,BR,BJ,CG,BX,AB,ET,ADT,jE,jD,jF,↓reduceIte,jB,jK,jG,jA,jU,jC,enP,JJ,MM,bne,b5,b6,b8,C9 ag3,C9 ag9,KH,AAU,QL]
  all_goals first
   | exact ⟨by rw [fin _ rfl]; simp [b5,b6,b7],trivial,trivial⟩
   | refine (ZG G e.op _).use ?_
     simp -implicitDefEqProofs only [AY,BB,BL,BV,CO,GV,EM,AO,AQ,AL,BD,AX,AC,AA,AZ,AU,BM,CP,DY,DR,G7,AB,ES,↓reduceIte,jB,jA,jC]
     exact ⟨by rw [fin _ rfl]; simp [b5,b6,b7],trivial,trivial⟩
 rintro F H ⟨f42,f1,rfl⟩
 simp -implicitDefEqProofs only [BI,BA,AZ,f42]
 refine CU (fun ho => ?_) (fun ho => ?_)
 ·simp -implicitDefEqProofs only [BC,A8,BK,BA,CQ,CJ,AY,BB,AO,AQ,AL,BD,AX,AC,AA,AU,BH,A7,↓reduceIte,jA,jC]
  exact ⟨by rw [ZF,if_pos ho],_,rfl⟩
 simp -implicitDefEqProofs only [BC,A8,BO,BA,AY,BB,BL,BV,CO,AO,AQ,AL,BD,AX,AC,AA,AZ,AU,BH,BG,A7,BN,BR,BJ,DU,AB,EG,↓reduceIte,jB,jK,jG,jA,jC,enP,VU,JJ,OD,f1,C9 ag3,C9 UQ,KH,AAT,jH]
 generalize hn:e.args.length=n
 have hm:(n:Int).tmod 2=(n:Int) % 2:=Int.tmod_eq_emod_of_nonneg (by omega)
 have br:JV Tryz.prog 3 .rem (.int .i64 (n:Int)) (.int .i64 2)=some (.int .i64 ((n:Int) % 2)):=by rw [APF _ _ _ _ _ (by decide),hm]
 refine UC (fun F H=>F 73 = .bool (AKT e.op n)∧F 1 = .ptr h.length 0 0∧H=h ++ [.live 4 [DC e]]) ?_ ?_
 ·cases b1:(e.op == 23)
  ·simp -implicitDefEqProofs only [AY,BL,BV,CO,GV,EM,JK,RV,AO,AQ,AL,BD,AX,AC,AA,EQ,AZ,AU,CB,BH,BM,BG,CP,DR,BN,BR,BJ,CG,BX,AB,ET,jE,jD,jF,↓reduceIte,jB,jK,jA,jC,enP,JJ,bne,b1,f1,C9 ag3,KH]
   refine (ARV G e.op _).use ?_
   simp -implicitDefEqProofs only [AY,BB,BL,BV,CO,GV,EM,AO,AQ,AL,BD,AX,AC,AA,AZ,AU,BM,CP,DY,DR,BR,AB,ET,↓reduceIte,jB,jA,jC,enP,bne]
   exact ⟨by unfold AKT; rw [b1]; simp,f1,trivial⟩
  ·cases b2:decide ((n:Int) < 3) <;> cases b3:decide ((n:Int) > 33) <;> cases b4:((n:Int) % 2 == 0)
   all_goals
    simp -implicitDefEqProofs only [AY,BB,BL,BV,CO,GV,EM,JK,FP,RV,AO,AQ,AL,BD,AX,AC,AA,EQ,AZ,AU,BH,BM,BG,CP,DY,DR,BN,BR,BJ,AB,EG,ET,CW,EY,↓reduceIte,jB,jK,jA,jU,jC,enP,JJ,bne,b1,b2,b3,b4,br,f1,C9 ag3,KH]
    exact ⟨by unfold AKT; rw [b1,b2,b3,b4]; simp,trivial,trivial⟩
 clear f1 f42
 rintro F H ⟨f73,f1,rfl⟩
 simp -implicitDefEqProofs only [BI,BA,AZ,f73]
 subst hn
 refine CU (fun hs => ?_) (fun hs => ?_)
 ·simp -implicitDefEqProofs only [BC,A8,BK,BA,CQ,CJ,AY,BB,AO,AQ,AL,BD,AX,AC,AA,AU,BH,A7,↓reduceIte,jA,jC]
  exact ⟨by rw [ZF,if_neg (by simp [ho]),if_pos hs],_,rfl⟩
 simp -implicitDefEqProofs only [BC,A8,BO,BA,AY,BL,BV,CO,AO,AQ,AL,BD,AX,AC,AA,AZ,AU,BH,BG,BN,BR,BJ,AB,EG,↓reduceIte,jK,jA,jC,enP,JJ,f1,C9 ag3,C9 ag9,KH,QL]
 have fin : ∀ b,XF e=b→KJ e=if b then 7 else 0:=by
  intro b hb
  rw [ZF,if_neg (by simp [ho]),if_neg (by simp [hs]),hb]
 cases b2:(e.op == 2)
 ·simp -implicitDefEqProofs only [AY,BL,BV,CO,EM,JK,AO,AQ,AL,BD,AX,AC,AA,EQ,AZ,AU,CB,BM,BG,CP,DR,BN,BJ,CG,BX,AB,jE,jD,jF,↓reduceIte,jB,jK,jA,jC,enP,JJ,b2,f1,C9 ag9,C9 ag3,KH,QL]
  refine (ZG G e.op _).use ?_
  cases bm:MB e.op
  ·have hv:XF e=false:=by
    unfold MB at bm; simp only [Bool.or_eq_false_iff] at bm
    simp [XF,bm.1.1,bm.1.2,bm.2]
   simp -implicitDefEqProofs only [BC,A8,BO,BK,BI,BA,CJ,D5,AY,BB,BL,BV,CO,EM,JK,AO,AQ,AL,BD,AX,AC,AA,EQ,AZ,AU,BH,BM,BG,A7,CP,DR,↓reduceIte,jB,jA,jC]
   exact ⟨by rw [fin false hv]; rfl,_,rfl⟩
  have hv:XF e = !GM e.name:=by
   unfold MB at bm; rw [b2] at bm; simp only [Bool.false_or] at bm
   unfold XF; rw [b2,bm]; simp
  simp -implicitDefEqProofs only [BL,BV,CO,GV,EM,AO,AQ,AL,BD,AX,AC,AA,AZ,AU,CB,BH,BM,BG,CP,DY,BN,BR,BJ,CG,BX,AB,ET,jE,jD,jF,↓reduceIte,jB,jK,jG,jA,jC,enP,JJ,MM,bne,b2,f1,C9 ag9,C9 ag3,KH,QL]
  refine (OZ G e.name _).use ?_
  cases bi:GM e.name
  ·simp -implicitDefEqProofs only [BC,A8,BK,BI,BA,CQ,CJ,DT,AY,BB,BL,BV,CO,GV,EM,AO,AQ,AL,BD,AX,AC,AA,AZ,AU,BH,BM,A7,CP,DY,DR,G7,AB,ES,↓reduceIte,jB,jA,jC]
   exact ⟨by rw [fin true (by rw [hv,bi]; rfl)]; rfl,_,rfl⟩
  ·simp -implicitDefEqProofs only [BC,A8,BO,BK,BI,BA,CJ,D5,AY,BB,BL,BV,CO,GV,EM,AO,AQ,AL,BD,AX,AC,AA,AZ,AU,BH,BM,A7,CP,DY,DR,G7,AB,ES,↓reduceIte,jB,jA,jU,jC]
   exact ⟨by rw [fin false (by rw [hv,bi]; rfl)]; rfl,_,rfl⟩
 ·have e2:e.op=2:=by simpa using b2
  have hv:XF e = !RP e.name:=by
   unfold XF; rw [e2]; simp
  simp -implicitDefEqProofs only [BL,BV,CO,GV,AO,AQ,AL,BD,AX,AC,AA,AZ,CB,BN,BJ,CG,BX,AB,jE,jD,jF,↓reduceIte,jB,jG,jA,jC,enP,MM,b2,f1,C9 ag9,C9 ag3,KH,QL]
  refine (AQU G e.name _ hl).use ?_
  cases bi:RP e.name
  ·simp -implicitDefEqProofs only [BC,A8,BK,BI,BA,CQ,CJ,DT,AY,BB,BL,BV,CO,GV,FP,RV,AO,AQ,AL,BD,AX,AC,AA,EQ,AZ,AU,BH,BM,BG,A7,CP,DY,G7,AB,ES,↓reduceIte,jB,jA,jC]
   exact ⟨by rw [fin true (by rw [hv,bi]; rfl)]; rfl,_,rfl⟩
  ·simp -implicitDefEqProofs only [AY,BL,BV,CO,GV,EM,AO,AQ,AL,BD,AX,AC,AA,AZ,AU,CB,BM,BG,CP,DY,BN,G7,BJ,CG,BX,AB,ES,jE,jD,jF,↓reduceIte,jB,jK,jA,jU,jC,enP,JJ,f1,C9 ag3,KH]
   refine (ZG G e.op _).use ?_
   have bm:MB e.op=true:=by rw [e2]; rfl
   simp -implicitDefEqProofs only [BC,A8,BO,BK,BI,BA,CJ,D5,AY,BB,BL,BV,CO,GV,EM,JK,AO,AQ,AL,BD,AX,AC,AA,EQ,AZ,AU,BH,BM,BG,A7,CP,DY,DR,BN,BR,BJ,AB,ET,↓reduceIte,jB,jK,jA,jU,jC,enP,JJ,bne,bm,f1,C9 ag3,KH,b2]
   exact ⟨by rw [fin false (by rw [hv,bi]; rfl)]; rfl,_,rfl⟩
theorem AF0:KN Tryz.prog 113=some false:=by kernel_rfl
theorem AZE:szO Tryz.prog 113=some 1:=by kernel_rfl
theorem ABB (h:Hp):J8 Tryz.prog h 48=some (.ptr h.length 0 0,h ++ [.live 4 [[.int .i64 0,.int .i64 0,.str ⟨#[]⟩,.sl .nil 0 []]]]):=JW (row := [.int .i64 0,.int .i64 0,.str ⟨#[]⟩,.sl .nil 0 []]) (by kernel_rfl)
theorem AIB (h:Hp) (e:Ex) (row:List AV) (hr:row.length=4):FM Tryz.prog (h ++ [.live 4 [row]]) 48 (.ptr h.length 0 0) (.agg (DC e))=some (h ++ [.live 4 [DC e]]):=by
 rw [NI (PM (ZW e)) (by rw [IX]; exact MQ) (by rw [IX,hr]; exact jL _)]
 have:splice row 0 (DC e)=DC e:=by unfold splice; simp [IX,hr]
 rw [this]
theorem A51 (h:Hp):J8 Tryz.prog h 34=some (.ptr h.length 0 0,h ++ [.live 1 [[.int .i64 0]]]):=JW (row := [.int .i64 0]) (by kernel_rfl)
theorem al3 (h:Hp):J8 Tryz.prog h 3=some (.ptr h.length 0 0,h ++ [.live 1 [[.int .i64 0]]]):=JW (row := [.int .i64 0]) (by kernel_rfl)
theorem AZT (h:Hp):J8 Tryz.prog h 113=some (.ptr h.length 0 0,h ++ [.live 1 [[.nilfn]]]):=JW (row := [.nilfn]) (by kernel_rfl)
theorem JR {h:Hp} {t:TypeId} {b:Nat} {v:AV} (hag:KN Tryz.prog t=some false) (hb:h[b]? = some (.live 1 [[v]])):D6 Tryz.prog h t (.ptr b 0 0)=some v:=by
 rw [DV hag hb (row := [v]) rfl]; rfl
theorem QU {h:Hp} {t:TypeId} {b:Nat} {v u:AV} (hs:szO Tryz.prog t=some 1) (hc:JE u=some [u]) (hb:h[b]? = some (.live 1 [[v]])):FM Tryz.prog h t (.ptr b 0 0) u=some (h.set b (.live 1 [[u]])):=by
 rw [JP hc hs hb (row := [v]) rfl (by simp)]; rfl
theorem A5V (h:Hp) (f:Fn) (a b:List AV):OM h (.fn f a b)=some (.ptr h.length 0 0,h ++ [.live 1 [[.fn f a b]]]):=rfl
def Chg (c:Nat) (h h':Hp):Prop:=h.length≤h'.length∧∀ b,b < h.length→b≠c→h'[b]? = h[b]?
theorem Chg.refl (c:Nat) (h:Hp):Chg c h h:=⟨jL _,fun _ _ _=>rfl⟩
theorem Chg.trans {c:Nat} {a b d:Hp} (h1:Chg c a b) (h2:Chg c b d):Chg c a d :=
 ⟨qK h1.1 h2.1,fun i hi hc=>by rw [h2.2 i (Nat.lt_of_lt_of_le hi h1.1) hc,h1.2 i hi hc]⟩
theorem Chg.app (c:Nat) (h x:Hp):Chg c h (h ++ x):=⟨by simp,fun i hi _=>zI hi⟩
theorem Chg.set (c:Nat) (h:Hp) (x:ABlk):Chg c h (h.set c x):=⟨by simp,fun i _ hc=>by rw [zB,if_neg (fun e=>hc e.symm)]⟩
theorem Chg.get {c b:Nat} {h h':Hp} {x:ABlk} (hc:Chg c h h') (hb:h[b]? = some x) (hne:b≠c):h'[b]? = some x:=by
 rw [hc.2 b (CE hb) hne]; exact hb
theorem Chg.above {c:Nat} {h h':Hp} (hc:Chg c h h') (hl:h.length≤c) : ∃ x,h'=h ++ x:=by
 refine ⟨h'.drop h.length,?_⟩
 have:h'.take h.length=h:=by
  refine List.ext_getElem? fun i => ?_
  rcases zD i h.length with hi | hi
  ·rw [List.getElem?_take_of_lt hi,hc.2 i hi (by omega)]
  ·rw [qO (by rw [zJ]; omega),qO hi]
 conv=>lhs; rw [← List.take_append_drop h.length h',this]
def run (upd:Ex→Int→Int) (cont:Int→Bool):List Ex→Int→Int × Bool
 | [],z=>(z,true)
 | e :: es,z=>if cont (upd e z) then run upd cont es (upd e z) else (upd e z,false)
theorem run_go {upd:Ex→Int→Int} {cont:Int→Bool} : ∀ {xs:List Ex} (ys:List Ex) {z z':Int},run upd cont xs z=(z',true)→run upd cont (xs ++ ys) z=run upd cont ys z'
 | [],ys,z,z',h=>by cases h; rfl
 | x :: xs,ys,z,z',h=>by
   simp only [run,qB] at h ⊢
   split at h
   ·rename_i hc; rw [if_pos hc]; exact run_go ys h
   ·cases h
theorem run_stop {upd:Ex→Int→Int} {cont:Int→Bool} : ∀ {xs:List Ex} (ys:List Ex) {z z':Int},run upd cont xs z=(z',false)→run upd cont (xs ++ ys) z=(z',false)
 | [],ys,z,z',h=>by cases h
 | x :: xs,ys,z,z',h=>by
   simp only [run,qB] at h ⊢
   split at h
   ·rename_i hc; rw [if_pos hc]; exact run_stop ys h
   ·rename_i hc; rw [if_neg hc]; exact h
theorem P7 (xs:List Ex) (j:Nat) (hj:j < xs.length):KC (xs.take (j+1))=KC (xs.take j) ++ pre xs[j]:=by
 rw [zK hj,QW]; simp [KC]
theorem ABE {a:Ex} : ∀ {xs:List Ex},a∈xs→∀ x∈pre a,x∈KC xs
 | [],h,_,_=>by cases h
 | y :: ys,h,x,hx=>by
   simp only [KC,qE]
   cases qI.1 h with
   | inl e=>subst e; exact .inl hx
   | inr e=>exact .inr (ABE e x hx)
def APH (G:Nat→AV) (k:FuncId) (upd:Ex→Int→Int) (cont:Int→Bool) (e:Ex):Prop :=
 ∀ (h:Hp) (c:Nat) (z:Int),h[c]? = some (.live 1 [[.int .i64 z]])→ACalls (En G) k [.agg (DC e),.ptr c 0 0] h fun v h'=>v = .bool (cont (upd e z))∧Chg c h h'∧h'[c]? = some (.live 1 [[.int .i64 (upd e z)]])
theorem ARC (G:Nat→AV) (k:FuncId) (upd:Ex→Int→Int) (cont:Int→Bool) (c vb db:Nat) (hv:vb≠c) (hd:db≠c) (e:Ex) :
  wt e≤1099511627776→(∀ x∈pre e,APH G k upd cont x)→∀ (h:Hp) (z:Int),h[c]? = some (.live 1 [[.int .i64 z]])→h[vb]? = some (.live 1 [[.fn (.func k) [] [.ptr c 0 0]]]) →
   h[db]? = some (.live 1 [[.fn (.func 104) [] [.ptr vb 0 0,.ptr db 0 0]]]) →
   ACalls (En G) 104 [.agg (DC e),.ptr vb 0 0,.ptr db 0 0] h fun v h'=>v = .bool (run upd cont (pre e) z).2∧Chg c h h'∧h'[c]? = some (.live 1 [[.int .i64 (run upd cont (pre e) z).1]]):=by
 induction e using Ex.induct with | h e ih => ?_
 intro hw hvis h z hc hvb hdb
 have hcl:=CE hc
 have hal:e.args.length≤1099511627776:=by have:=TF e.args; have:=L6 e; omega
 refine acN Tryz.func104 rfl ?_
 show awp _ _ _ _ _ (EJ _ [.tmp 4] _)
 simp -implicitDefEqProofs only [BC,A8,BA,AY,BB,AO,AQ,AL,BD,AX,AC,AA,AZ,AU,BM,A7,FD,BN,CG,BX,BU,AB,BF,BP,jE,jD,zZ,qB,↓reduceIte,jB,jA,jC,enP,bxE,JR AF0 (CV hvb),ldE]
 refine (hvis e (by rw [pre_eq]; simp) _ c z (CV hc)).mono ?_
 rintro v h1 ⟨rfl,hch,hc1⟩
 have hch0:=(Chg.app c h _).trans hch
 have hb3:h1[h.length]? = some (.live 4 [DC e]):=hch.get (CY _ _) (by omega)
 have hrun:run upd cont (pre e) z=if cont (upd e z) then run upd cont (KC e.args) (upd e z) else (upd e z,false):=by rw [pre_eq]; rfl
 simp -implicitDefEqProofs only [BI,BA,AY,BB,AO,AQ,AL,BD,AX,AC,AA,AZ,G7,AB,ES,↓reduceIte,jA,jC]
 cases hct:cont (upd e z)
 ·simp -implicitDefEqProofs only [BC,A8,BK,BA,CQ,CJ,DT,AY,BB,AO,AQ,AL,BD,AX,AC,AA,AU,BM,A7,↓reduceIte,jA,jC]
  rw [hrun,hct]
  exact ⟨rfl,hch0,hc1⟩
 rw [hct,if_pos rfl] at hrun
 have hvb1:=hch0.get hvb hv
 have hdb1:=hch0.get hdb hd
 have l3:D6 Tryz.prog h1 46 (.ptr h.length 0 3)=some (.sl e.m 4 (e.args.map DC)):=by rw [DV UQ hb3 (row:=DC e) rfl,AAT]
 simp -implicitDefEqProofs only [BC,BQ,A8,BO,BA,D5,AY,BB,AO,AQ,AL,BD,AX,AC,AA,AZ,AU,BH,BG,BN,BJ,DU,AB,↓reduceIte,jB,jG,jA,jU,jC,enP,VU,OD,l3,jH]
 refine DL (fun n F H => ∃ j z',n+j=e.args.length∧F 1 = .ptr vb 0 0∧F 2 = .ptr db 0 0∧F 12 = .sl e.m 4 (e.args.map DC)∧F 13 = .int .i64 e.args.length∧F 14 = .int .i64 (j:Nat)∧Chg c h H∧H[c]? = some (.live 1 [[.int .i64 z']])∧run upd cont (KC (e.args.take j)) (upd e z)=(z',true)) e.args.length ⟨0,upd e z,by simp,by simp -implicitDefEqProofs only [AA,BF,BP,↓reduceIte,jB],by simp -implicitDefEqProofs only [AA,BF,BP,↓reduceIte,jB],by simp -implicitDefEqProofs only [AA,↓reduceIte,jB],by simp -implicitDefEqProofs only [AA,↓reduceIte,jB],by simp -implicitDefEqProofs only [AA,↓reduceIte]; rfl,hch0,hc1,rfl⟩ ?_
 rintro n F H ⟨j,z',hj,f1,f2,f12,f13,f14,hC,hcz,hr⟩
 simp -implicitDefEqProofs only [BC,A8,BI,BA,AY,BB,AO,AQ,AL,BD,AX,AC,AA,AZ,BR,AB,CW,↓reduceIte,jA,jC,enP,f13,f14]
 refine CU (fun hlt => ?_) (fun hlt => ?_)
 ·have hj':j < e.args.length:=by simpa using hlt
  have hdH:H[db]? = some (.live 1 [[.fn (.func 104) [] [.ptr vb 0 0,.ptr db 0 0]]]):=hC.get hdb hd
  have hvH:H[vb]? = some (.live 1 [[.fn (.func k) [] [.ptr c 0 0]]]):=hC.get hvb hv
  simp -implicitDefEqProofs only [BC,BQ,A8,BO,BA,AY,BB,AO,AQ,AL,BD,AX,AC,E8,AA,AZ,FV,BN,EN,BZ,CG,BX,BU,AB,DW,jE,jD,zZ,qB,↓reduceIte,jB,jA,jC,enP,ZI,jT,f12,f14,DF hj',FT XH MQ IX hj',ABB,AIB _ _ [.int .i64 0,.int .i64 0,.str ⟨#[]⟩,.sl .nil 0 []] rfl,f2,JR AF0 (CV hdH),ldE]
  have hmem:e.args[j]∈e.args:=jP hj'
  refine (ih e.args[j] hmem (by have:=TE hmem; have:=L6 e; omega) (fun x hx=>hvis x (by rw [pre_eq]; exact wO _ (ABE hmem x hx))) _ z' (CV hcz) (CV hvH) (CV hdH)).mono ?_
  rintro v h2 ⟨rfl,hch2,hc2⟩
  have hC2:=hC.trans ((Chg.app c H _).trans hch2)
  have hsplit:KC e.args=KC (e.args.take j) ++ (pre e.args[j] ++ KC (e.args.drop (j+1))):=by
   rw [← zF,← P7 _ _ hj',← QW,List.take_append_drop]
  simp -implicitDefEqProofs only [BI,BA,AY,BB,AO,AQ,AL,BD,AX,AC,AA,AZ,G7,AB,ES,↓reduceIte,jA,jC]
  rcases hrr:run upd cont (pre e.args[j]) z' with ⟨z2,b2⟩
  rw [hrr] at hc2
  cases b2
  ·simp -implicitDefEqProofs only [BC,A8,BK,BA,CQ,EE,FK,CJ,DT,AY,BB,AO,AQ,AL,BD,AX,AC,AA,AU,BM,A7,↓reduceIte,jA,jC]
   have:run upd cont (pre e) z=(z2,false):=by rw [hrun,hsplit,run_go _ hr]; exact run_stop _ hrr
   rw [this]
   exact ⟨rfl,hC2,hc2⟩
  ·simp -implicitDefEqProofs only [A8,BO,BA,EI,EP,D5,AY,BB,AO,AQ,AL,BD,AX,AC,AA,AZ,AU,BH,BG,BR,AB,DK,↓reduceIte,jB,jA,jU,jC,enP,f1,f2,f12,f13,f14,wrap_succ (show j < 9223372036854775807 by omega)]
   refine ⟨n - 1,by omega,j+1,z2,by omega,trivial,trivial,trivial,trivial,rfl,hC2,hc2,?_⟩
   rw [P7 _ _ hj',run_go _ hr]; exact hrr
 ·have hj' : ¬ j < e.args.length:=by simpa using hlt
  simp -implicitDefEqProofs only [BC,A8,BK,DI,BA,ED,EU,EW,CJ,AY,BB,AO,AQ,AL,BD,AX,AC,AA,AU,BM,A7,↓reduceIte,jA,jC]
  rw [jW (by omega)] at hr
  rw [hrun,hr]
  exact ⟨rfl,hC,hcz⟩
theorem AE1 (G:Nat→AV) (k:FuncId) (upd:Ex→Int→Int) (cont:Int→Bool) (c:Nat) (e:Ex) (hw:wt e≤1099511627776) (hvis : ∀ x∈pre e,APH G k upd cont x) (h:Hp) (z:Int) (hc:h[c]? = some (.live 1 [[.int .i64 z]])) :
  ACalls (En G) 68 [.agg (DC e),.fn (.func k) [] [.ptr c 0 0]] h fun _ h'=>Chg c h h'∧h'[c]? = some (.live 1 [[.int .i64 (run upd cont (pre e) z).1]]):=by
 have hcl:=CE hc
 refine acN Tryz.func68 rfl ?_
 show awp _ _ _ _ _ (EJ _ [] _)
 simp -implicitDefEqProofs only [BC,A8,BA,AY,BB,AO,AQ,AL,BD,AX,AC,AA,AZ,FV,FD,EN,IG,BU,BF,BP,jE,jD,↓reduceIte,jB,jA,jC,enP,jT,bxE,A5V,AZT]
 have g0:(h ++ [ABlk.live 4 [DC e]] ++ [ABlk.live 1 [[AV.fn (.func k) [] [.ptr c 0 0]]]] ++ [ABlk.live 1 [[AV.nilfn]]])[(h ++ [ABlk.live 4 [DC e]] ++ [ABlk.live 1 [[AV.fn (.func k) [] [.ptr c 0 0]]]]).length]? = some (.live 1 [[.nilfn]]):=CY _ _
 simp -implicitDefEqProofs only [A8,BA,AY,BB,AO,AQ,AL,BD,AX,E8,AA,AZ,BN,DW,↓reduceIte,jB,jA,jC,enP,QU AZE (AZV _ _ _) g0]
 generalize hdb:(h ++ [ABlk.live 4 [DC e]] ++ [ABlk.live 1 [[AV.fn (.func k) [] [.ptr c 0 0]]]]).length=db at g0 ⊢
 generalize hvb:(h ++ [ABlk.live 4 [DC e]]).length=vb
 have hvl:vb=h.length+1:=by rw [← hvb]; simp
 have hdl:db=h.length+2:=by rw [← hdb]; simp
 generalize hH:(h ++ [ABlk.live 4 [DC e]] ++ [ABlk.live 1 [[AV.fn (.func k) [] [.ptr c 0 0]]]] ++ [ABlk.live 1 [[AV.nilfn]]]).set db (.live 1 [[AV.fn (.func 104) [] [.ptr vb 0 0,.ptr db 0 0]]])=H
 have h1:H[db]? = some (.live 1 [[.fn (.func 104) [] [.ptr vb 0 0,.ptr db 0 0]]]):=by rw [← hH]; exact ER g0
 have h2:H[vb]? = some (.live 1 [[.fn (.func k) [] [.ptr c 0 0]]]):=by
  rw [← hH]; refine DX ?_ (by omega)
  rw [← hvb]; exact CV (CY _ _)
 have h3:H[h.length]? = some (.live 4 [DC e]):=by
  rw [← hH]; refine DX ?_ (by omega)
  exact CV (CV (CY _ _))
 have h4:H[c]? = some (.live 1 [[.int .i64 z]]):=by
  rw [← hH]; refine DX ?_ (by omega)
  exact CV (CV (CV hc))
 have hC:Chg c h H:=by
  refine ⟨by rw [← hH]; simp,fun b hb hbc => ?_⟩
  obtain ⟨x,hx⟩ : ∃ x,h[b]? = some x:=⟨_,jO hb⟩
  rw [← hH,hx]
  exact DX (CV (CV (CV hx))) (by omega)
 simp -implicitDefEqProofs only [AY,AO,AQ,AL,BD,AX,AC,AA,AZ,BN,CG,BX,AB,jE,jD,zZ,qB,↓reduceIte,jB,jA,jC,enP,JR AF0 h1,N9 h3]
 refine (ARC G k upd cont c vb db (by omega) (by omega) e hw hvis H z h4 h2 h1).mono ?_
 rintro v h' ⟨rfl,hch,hc1⟩
 simp -implicitDefEqProofs only [ADB,BB,AC]
 exact ⟨hC.trans hch,hc1⟩
theorem ALN (G:Nat→AV) (e:Ex):APH G 107 (fun _ z=>IntKind.i64.wrap (z+1)) (fun _=>true) e:=by
 intro h c z hc
 have hcl:=CE hc
 refine acN Tryz.func107 rfl ?_
 show awp _ _ _ _ _ (EJ _ [.tmp 3] _)
 simp -implicitDefEqProofs only [BC,A8,BK,BA,CJ,AY,BB,AO,AQ,AL,BD,AX,AC,E8,AA,AZ,AU,BH,BM,A7,FD,BN,EN,BR,BU,AB,DW,DK,BF,BP,↓reduceIte,jB,jA,jC,enP,jT,bxE,JR ag3 (CV hc),QU sz3 (VI _ _) (CV hc)]
 exact ⟨trivial,(Chg.app c h _).trans (Chg.set c _ _),ER (CV hc)⟩
theorem AJ2 (G:Nat→AV) (hG:GOk G) (e:Ex) (hl:e.name.size≤1048576):APH G 69 (fun e _=>KJ e) (fun z=>z == 0) e:=by
 intro h c z hc
 have hcl:=CE hc
 refine acN Tryz.func69 rfl ?_
 show awp _ _ _ _ _ (EJ _ [.tmp 3] _)
 simp -implicitDefEqProofs only [BC,A8,BA,AY,BB,AO,AQ,AL,BD,AX,AC,AA,AZ,AU,CB,BM,A7,FD,BN,CG,BX,BU,AB,BF,jE,jD,jF,↓reduceIte,jB,jA,jC,enP,bxE,ldE]
 refine (AQE G hG e _ hl).use ?_
 have hs:=ER (y := .live 1 [[.int .i64 (KJ e)]]) (CV (x := .live 4 [DC e]) hc)
 simp -implicitDefEqProofs only [BC,A8,BK,BA,CJ,AY,BB,AO,AQ,AL,BD,AX,AC,E8,AA,AZ,AU,BH,A7,BN,EN,BR,AB,DW,EG,BF,BP,↓reduceIte,jB,jA,jC,enP,jT,QU AZ5 (VI _ _) (CV hc),JR AVR hs]
 exact ⟨trivial,(Chg.app c h _).trans (Chg.set c _ _),hs⟩
theorem AIO : ∀ (xs:List Ex) (n:Nat),n+xs.length≤1099511627776→run (fun _ z=>IntKind.i64.wrap (z+1)) (fun _=>true) xs (n:Int)=(((n+xs.length:Nat):Int),true)
 | [],n,_=>rfl
 | x :: xs,n,h=>by
   simp only [zX] at h
   simp only [run,if_true]
   rw [wrap_succ (by omega),AIO xs (n+1) (by omega),zX]
   congr 1; omega
def errs (xs:List Ex):Int:=xs.foldl (fun z e=>if z=0 then KJ e else z) 0
theorem AG8 : ∀ (xs:List Ex) (z:Int),z≠0→xs.foldl (fun z e=>if z=0 then KJ e else z) z=z
 | [],_,_=>rfl
 | x :: xs,z,h=>by rw [qY,if_neg h]; exact AG8 xs z h
theorem AIP : ∀ (xs:List Ex),(run (fun e _=>KJ e) (fun z=>z == 0) xs 0).1=errs xs
 | []=>rfl
 | x :: xs=>by
   simp only [run,errs,qY,if_true]
   rcases hn:(KJ x == 0) with _ | _
   ·have:KJ x≠0:=by simpa using hn
    rw [AG8 _ _ this]; rfl
   ·have:KJ x=0:=by simpa using hn
    rw [this]; simp only [if_true]; exact AIP xs
theorem AI2 {x e:Ex} (hx:x∈pre e):x.name.size≤wt e:=by
 induction e using Ex.induct with | h e ih => ?_
 rw [pre_eq] at hx
 have hw:=L6 e
 rcases qI.1 hx with rfl | hx
 ·omega
 have : ∀ l:List Ex,(∀ a∈l,x∈pre a→x.name.size≤wt a)→x∈KC l→x.name.size≤wts l:=by
  intro l
  induction l with
  | nil=>intro _ h; simp [KC] at h
  | cons y l ih2 =>
    intro hh h
    simp only [KC,qE] at h
    simp only [wts]
    rcases h with h | h
    ·have:=hh y (by simp) h; omega
    ·have:=ih2 (fun a ha=>hh a (by simp [ha])) h; omega
 have:=this e.args (fun a ha=>ih a ha) hx
 omega
theorem APQ (G:Nat→AV) (e:Ex) (h:Hp) (hw:wt e≤1099511627776):PCall (En G) 72 [.agg (DC e)] h (.int .i64 (pre e).length):=by
 refine ACalls.pure0 rfl ?_
 refine acN Tryz.func72 rfl ?_
 show awp _ _ _ _ _ (EJ _ [.tmp 2] _)
 have hg:=CY (h ++ [ABlk.live 4 [DC e]]) (.live 1 [[.int .i64 0]])
 have hs:(h ++ [ABlk.live 4 [DC e]] ++ [ABlk.live 1 [[.int .i64 0]]]).set (h ++ [ABlk.live 4 [DC e]]).length (.live 1 [[.int .i64 0]])=h ++ [ABlk.live 4 [DC e]] ++ [ABlk.live 1 [[.int .i64 0]]]:=AGA _ _ _
 simp -implicitDefEqProofs only [BC,A8,BA,AY,BB,AO,AQ,AL,BD,AX,AC,E8,AA,AZ,AU,CB,BH,A7,FV,FD,BN,EN,IG,CG,BX,BU,AB,DW,BF,jE,jD,jF,↓reduceIte,jB,jA,jC,enP,jT,bxE,al3,QU sz3 (VI _ _) hg,hs,N9 (CV (CY h _))]
 refine (AE1 G 107 _ _ _ e hw (fun x _=>ALN G x) _ 0 hg).mono ?_
 rintro v h' ⟨hch,hc1⟩
 simp -implicitDefEqProofs only [BC,A8,BK,BA,CJ,AY,BB,AO,AQ,AL,BD,AX,AC,AA,AZ,A7,BN,AB,↓reduceIte,jB,jA,jC,enP,JR ag3 hc1]
 have:=AIO (pre e) 0 (by have:=AGF e; omega)
 simp only [jG] at this
 exact ⟨by rw [show (0:Int)=((0:Nat):Int) from rfl,this],(((Chg.app _ h _).trans (Chg.app _ _ _)).trans hch).above (by simp)⟩
theorem AMV (G:Nat→AV) (e:Ex):wt e≤1099511627776→∀ h:Hp,PCall (En G) 71 [.agg (DC e)] h (.int .i64 (dep e)):=by
 induction e using Ex.induct with | h e ih => ?_
 intro hw h
 have hal:e.args.length≤1099511627776:=by have:=TF e.args; have:=L6 e; omega
 refine ACalls.pure0 rfl ?_
 refine acN Tryz.func71 rfl ?_
 show awp _ _ _ _ _ (EJ _ [.tmp 2] _)
 simp -implicitDefEqProofs only [BC,BQ,A8,BA,AY,BB,AO,AQ,AL,BD,AX,AC,AA,AZ,AU,BH,BG,A7,FD,BN,BJ,DU,BU,AB,BF,↓reduceIte,jB,jG,jA,jC,enP,VU,OD,bxE,C9 UQ,AAT,jH]
 have hdw:dep e≤1099511627776:=qK (AUO e) hw
 refine DL (fun n F H => ∃ j,n+j=e.args.length∧F 3 = .int .i64 (deps (e.args.take j):Nat)∧F 7 = .sl e.m 4 (e.args.map DC)∧F 8 = .int .i64 e.args.length∧F 9 = .int .i64 (j:Nat)∧∃ x,H=h ++ x) e.args.length ⟨0,by simp,by simp -implicitDefEqProofs only [AA,↓reduceIte,jB]; rfl,by simp -implicitDefEqProofs only [AA,↓reduceIte,jB],by simp -implicitDefEqProofs only [AA,↓reduceIte,jB],by simp -implicitDefEqProofs only [AA,↓reduceIte]; rfl,⟨_,rfl⟩⟩ ?_
 rintro n F H ⟨j,hj,f3,f7,f8,f9,x,rfl⟩
 simp -implicitDefEqProofs only [BC,A8,BI,BA,AY,BB,AO,AQ,AL,BD,AX,AC,AA,AZ,BR,AB,CW,↓reduceIte,jA,jC,enP,f8,f9]
 refine CU (fun hlt => ?_) (fun hlt => ?_)
 ·have hj':j < e.args.length:=by simpa using hlt
  have hmem:e.args[j]∈e.args:=jP hj'
  simp -implicitDefEqProofs only [BC,BQ,A8,BO,BA,AY,BB,AO,AQ,AL,BD,AX,AC,E8,AA,AZ,CB,BG,FV,BN,EN,BZ,CG,BX,BU,AB,DW,jE,jD,jF,↓reduceIte,jB,jA,jC,enP,ZI,jT,f3,f7,f9,DF hj',FT XH MQ IX hj',ABB,AIB _ _ [.int .i64 0,.int .i64 0,.str ⟨#[]⟩,.sl .nil 0 []] rfl,ldE]
  refine (ih e.args[j] hmem (by have:=TE hmem; have:=L6 e; omega) _).use ?_
  simp -implicitDefEqProofs only [A8,BA,EI,EP,AY,BB,AO,AQ,AL,BD,AX,AC,AA,AZ,AU,BH,BG,A7,BR,ANW,AB,DK,AGO,↓reduceIte,jB,jA,jC,enP,f7,f8,f9,wrap_succ (show j < 9223372036854775807 by omega)]
  refine ⟨n - 1,by omega,j+1,by omega,?_,trivial,trivial,rfl,_,by rw [zF]⟩
  rw [AFS _ _ hj']
  congr 1
  omega
 ·have hj' : ¬ j < e.args.length:=by simpa using hlt
  rw [jW (by omega)] at f3
  rw [AHC] at hdw ⊢
  simp -implicitDefEqProofs only [BC,A8,BK,DI,BA,ED,EU,EW,CJ,AY,BB,AO,AQ,AL,BD,AX,AC,AA,AZ,AU,BH,BG,A7,BR,AB,DK,↓reduceIte,jB,jA,jC,enP,f3,wrap_succ (show deps e.args < 9223372036854775807 by omega)]
  exact ⟨trivial,x,rfl⟩
def exE (e:Ex):Int:=if errs (pre e)=0∧(24 < dep e∨400 < (pre e).length) then 2 else errs (pre e)
def WN (e:Ex):Prop:=wt e≤274877906944∧∀ x∈pre e,x.name.size≤1048576
theorem AVW {e:Ex} (hw:wt e≤1048576):WN e:=⟨by omega,fun x hx=>by have:=AI2 hx; omega⟩
theorem WA (G:Nat→AV) (hG:GOk G) (e:Ex) (h:Hp) (hn:WN e):PCall (En G) 38 [.agg (DC e)] h (.int .i64 (exE e)):=by
 refine ACalls.pure0 rfl ?_
 refine acN Tryz.func38 rfl ?_
 show awp _ _ _ _ _ (EJ _ [.tmp 2] _)
 have hg:=CY (h ++ [ABlk.live 4 [DC e]]) (.live 1 [[.int .i64 0]])
 have hs:(h ++ [ABlk.live 4 [DC e]] ++ [ABlk.live 1 [[.int .i64 0]]]).set (h ++ [ABlk.live 4 [DC e]]).length (.live 1 [[.int .i64 0]])=h ++ [ABlk.live 4 [DC e]] ++ [ABlk.live 1 [[.int .i64 0]]]:=AGA _ _ _
 have hb:=CV (x:=ABlk.live 1 [[.int .i64 0]]) (CY h (.live 4 [DC e]))
 have hw:=hn.1
 simp -implicitDefEqProofs only [BC,A8,BA,AY,BB,AO,AQ,AL,BD,AX,AC,E8,AA,AZ,AU,CB,BH,A7,FV,FD,BN,EN,IG,CG,BX,BU,AB,DW,BF,jE,jD,jF,↓reduceIte,jB,jA,jC,enP,jT,bxE,A51,QU AZ5 (VI _ _) hg,hs,N9 hb]
 refine (AE1 G 69 _ _ _ e (by omega) (fun x hx=>AJ2 G hG x (hn.2 x hx)) _ 0 hg).mono ?_
 rintro v h' ⟨hch,hc1⟩
 rw [AIP] at hc1
 have hb':=hch.get hb (by simp)
 have hab:=(((Chg.app _ h _).trans (Chg.app _ _ _)).trans hch).above (show h.length≤(h ++ [ABlk.live 4 [DC e]]).length by simp)
 simp -implicitDefEqProofs only [BC,A8,BA,AY,BB,BL,BV,CO,AO,AQ,AL,BD,AX,AC,AA,AZ,AU,BH,BG,BN,BR,AB,EG,↓reduceIte,jB,jA,jC,enP,JR AVR hc1]
 rcases he:(errs (pre e) == 0) with _ | _
 ·simp -implicitDefEqProofs only [BC,A8,BO,BK,BI,BA,CJ,D5,AY,BB,BL,BV,CO,JK,RV,AO,AQ,AL,BD,AX,AC,AA,EQ,AZ,AU,BM,A7,CP,DR,BN,AB,↓reduceIte,jB,jA,jC,enP,JR AVR hc1]
  have:errs (pre e)≠0:=by simpa using he
  exact ⟨by unfold exE; rw [if_neg (fun hh=>this hh.1)],hab⟩
 have he0:errs (pre e)=0:=by simpa using he
 simp -implicitDefEqProofs only [BL,BV,CO,GV,AO,AQ,AL,BD,AX,AC,AA,AZ,CB,BN,CG,BX,AB,jE,jD,jF,↓reduceIte,jB,jA,jC,enP,N9 hb']
 refine (AMV G e (by omega) _).use ?_
 simp -implicitDefEqProofs only [BL,BV,CO,GV,AO,AQ,AL,BD,AX,AC,AA,AZ,AU,BH,BG,BR,AB,EY,↓reduceIte,jB,jA,jC,enP]
 refine II (fun hd => ?_) (fun hd => ?_)
 ·simp -implicitDefEqProofs only [BC,A8,BK,BI,BA,CQ,CJ,DT,AY,BB,BL,BV,CO,GV,FP,AO,AQ,AL,BD,AX,AC,AA,EQ,AZ,AU,BH,BM,A7,CP,DY,↓reduceIte,jB,jA,jC,hd]
  exact ⟨by unfold exE; rw [if_pos ⟨he0,.inl (by simp at hd; omega)⟩],hab⟩
 simp -implicitDefEqProofs only [BL,BV,CO,EM,AO,AQ,AL,BD,AX,AC,AA,AZ,CB,BN,CG,BX,AB,jE,jD,jF,↓reduceIte,jB,jA,jC,enP,hd,N9 hb']
 refine (APQ G e _ (by omega)).use ?_
 simp -implicitDefEqProofs only [BI,BA,AY,BB,BL,BV,CO,GV,EM,AO,AQ,AL,BD,AX,AC,AA,AZ,AU,BH,BM,CP,DY,DR,BR,AB,EY,↓reduceIte,jB,jA,jC,enP]
 refine CU (fun hn => ?_) (fun hn => ?_)
 ·simp -implicitDefEqProofs only [BC,A8,BK,BA,CQ,CJ,AY,BB,AO,AQ,AL,BD,AX,AC,AA,AU,BH,A7,↓reduceIte,jA,jC]
  exact ⟨by unfold exE; rw [if_pos ⟨he0,.inr (by simp at hn; omega)⟩],hab⟩
 ·simp -implicitDefEqProofs only [BC,A8,BO,BK,BA,CJ,AY,BB,AO,AQ,AL,BD,AX,AC,AA,AZ,A7,BN,AB,↓reduceIte,jB,jA,jC,enP,JR AVR hc1]
  exact ⟨by unfold exE; rw [if_neg (fun hh=>by simp at hn hd; omega)],hab⟩
theorem YN (G:Nat→AV) (hG:GOk G) (e:Ex) (h:Hp) (hw:wt e≤1048576):PCall (En G) 38 [.agg (DC e)] h (.int .i64 (exE e)):=WA G hG e h (AVW hw)
theorem SX {E:Env} {H:Hint} {x y:Code} {F:Fr} {h:Hp} {Q:AEx→Fr→Hp→Prop} {b:Bool} (N R:Fr→Hp→Prop) (h1:b=true→awp E H x F h (ATN N R)) (h2:b=false→awp E H y F h (ATN N R)) (hn : ∀ F h,N F h→Q .normal F h) (hr : ∀ F h,R F h→Q .ret F h) :
 ADO E H x y F h Q (.bool b):=⟨fun e=>AHI N R (h1 e) hn hr,fun e=>AHI N R (h2 e) hn hr⟩
def isB (v:AV) (b:Nat):Prop:=match v with
 | .own b' _ _=>b'=b
 | _=>False
def sv (h:Hp) (m:Nat) (v:AV):Prop := ∃ vs:List ByteArray,vs.length≤m∧((vs = []∧∃ k,v = .sl .nil k [])∨∃ b,v = .own b 0 vs.length∧h[b]? = some (.live 1 (vs.map encStr)))
theorem AXX (G:Nat→AV) (k:Nat) (v:ByteArray) (h:Hp):PCall (En G) 154 [.sl .nil k [],.str v] h (.bool false):=by
 refine acN Tryz.func154 rfl ?_
 show awp _ _ _ _ _ (EJ _ [.tmp 4] _)
 simp -implicitDefEqProofs only [BC,BQ,A8,BA,AY,BB,AO,AQ,AL,BD,AX,AC,AU,BH,BM,A7,jA,jC,enP]
 refine DL (fun n F H=>F 0 = .sl .nil k []∧F 5 = .int .i64 0∧H=h) 0 ⟨rfl,rfl,rfl⟩ ?_
 rintro n F H ⟨f0,f5,rfl⟩
 simp -implicitDefEqProofs only [BC,A8,BI,BA,AY,BB,AO,AQ,AL,BD,AX,AC,AA,AZ,BG,BR,DU,AB,CW,↓reduceIte,jB,jA,jC,enP,AJJ,f0,f5,List.length_nil]
 have:decide ((0:Int) < ((0:Nat):Int))=false:=by simp
 simp -implicitDefEqProofs only [BC,A8,BK,DI,BA,ED,EU,EW,CJ,D5,AY,BB,AO,AQ,AL,BD,AX,AC,AA,AU,BM,A7,↓reduceIte,jA,jC,this]
 exact ⟨trivial,trivial⟩
theorem row_map {α:Type} {f:α→List AV} {xs:List α} {k:Nat} (hk:k < xs.length):(xs.map f)[k]? = some (f xs[k]):=by
 rw [jY,jO hk]; rfl
theorem FZ {h x:Hp} {y:ABlk} {b:Nat} (hb:h[b]? = some y):(h ++ x)[b]? = some y:=by
 rw [zI (CE hb)]; exact hb
theorem AXW (G:Nat→AV) (xs:List ByteArray) (b:Nat) (v:ByteArray) (h:Hp) (hb:h[b]? = some (.live 1 (xs.map encStr))) (hl:xs.length≤1099511627776) :
  PCall (En G) 154 [.own b 0 xs.length,.str v] h (.bool (IJ xs v)):=by
 refine acN Tryz.func154 rfl ?_
 show awp _ _ _ _ _ (EJ _ [.tmp 4] _)
 simp -implicitDefEqProofs only [BC,BQ,A8,BA,AY,BB,AO,AQ,AL,BD,AX,AC,AU,BH,BM,A7,jA,jC,enP]
 refine DL (fun n F H => ∃ k,n+k=xs.length∧F 0 = .own b 0 xs.length∧F 1 = .str v∧F 5 = .int .i64 (k:Nat)∧H=h∧IJ xs v=IJ (xs.drop k) v) xs.length ⟨0,by simp,rfl,rfl,rfl,rfl,rfl⟩ ?_
 rintro n F H ⟨k,hk,f0,f1,f5,rfl,hin⟩
 simp -implicitDefEqProofs only [BC,A8,BI,BA,AY,BB,AO,AQ,AL,BD,AX,AC,AA,AZ,BG,BR,DU,AB,CW,↓reduceIte,jB,jA,jC,enP,AJJ,f0,f1,f5]
 refine CU (fun hc => ?_) (fun hc => ?_)
 ·have hc':k < xs.length:=by simpa using hc
  have hs:IJ (xs.drop k) v=((v.toList == xs[k].toList) || IJ (xs.drop (k+1)) v):=LD _ xs k hc'
  have l1:D6 Tryz.prog H 9 (.ptr b k 0)=some (.str xs[k]):=by rw [DV ag9 hb (row:=encStr xs[k]) (row_map hc')]; rfl
  simp -implicitDefEqProofs only [BC,BQ,A8,BO,BI,BA,AY,BB,AO,AQ,AL,BD,AX,AC,AA,AZ,BG,BN,BR,BZ,AB,J7,↓reduceIte,jB,jG,jA,jC,enP,AQR,f0,f1,f5,JS hb hc',l1]
  refine CU (fun hb => ?_) (fun hb => ?_)
  ·simp -implicitDefEqProofs only [BC,A8,BK,BA,CQ,EE,FK,CJ,AY,BB,AO,AQ,AL,BD,AX,AC,AA,AU,BM,A7,↓reduceIte,jA,jC]
   refine ⟨?_,trivial⟩
   rw [hin,hs,show (v.toList == xs[k].toList)=true by rw [BEq.comm]; exact hb]; rfl
  ·simp -implicitDefEqProofs only [A8,BO,BA,EI,EP,AY,BB,AO,AQ,AL,BD,AX,AC,AA,AZ,AU,BH,BG,A7,BR,AB,DK,↓reduceIte,jB,jA,jC,enP,f5,wrap_succ (show k < 9223372036854775807 by omega)]
   refine ⟨n - 1,by omega,k+1,by omega,f0,f1,rfl,trivial,?_⟩
   rw [hin,hs,show (v.toList == xs[k].toList)=false by rw [BEq.comm]; exact hb]; rfl
 ·have hc' : ¬ k < xs.length:=by simpa using hc
  simp -implicitDefEqProofs only [BC,A8,BK,DI,BA,ED,EU,EW,CJ,AY,BB,AO,AQ,AL,BD,AX,AC,AA,AU,BM,A7,↓reduceIte,jA,jC]
  exact ⟨by rw [hin,jX (by omega)]; rfl,trivial⟩
theorem AT8 (G:Nat→AV) {h:Hp} {m:Nat} {v:AV} (s:ByteArray) (hv:sv h m v) (hm:m≤1099511627776) : ∃ r,PCall (En G) 154 [v,.str s] h (.bool r):=by
 obtain ⟨vs,hl,⟨_,k,rfl⟩ | ⟨b,rfl,hb⟩⟩:=hv
 ·exact ⟨_,AXX G k s h⟩
 ·exact ⟨_,AXW G vs b s h hb (by omega)⟩
theorem AU7 (h:Hp) (s:ByteArray):EZ Tryz.prog false h 65 1 [(0,.str s)]=some (.sl .full 1 [[.str s]],h):=by kernel_rfl
theorem AVK {h:Hp} {m:Nat} {v:AV} (s:ByteArray) (hv:sv h m v) (hm:m≤1099511627776) : ∃ v' h',GI Tryz.prog true h 65 65 v (.sl .full 1 [[.str s]])=some (v',h')∧sv h' (m+1) v'∧(∀ b,isB v' b→b=h.length) ∧
  h.length≤h'.length∧∀ b,b < h.length→¬ isB v b→h'[b]? = h[b]? := by
 obtain ⟨vs,hl,⟨rfl,k,rfl⟩ | ⟨b,rfl,hb⟩⟩:=hv
 ·refine ⟨_,_,PZ AWG sz9 AV5 AYO (IY h .full 1 [[.str s]]) (by simp) (JF (by simp) (by omega)),⟨[s],by simp,.inr ⟨h.length,rfl,CY _ _⟩⟩,fun b hb=>hb.symm,by simp,fun b hb _=>zI hb⟩
 ·have hc:JY h (.own b 0 vs.length)=some (1,vs.map encStr):=by
   rw [LC hb (by simp),List.drop_zero,jW (by simp)]
  refine ⟨_,_,PY AWG sz9 AV5 AYO hc (IY h .full 1 [[.str s]]) (by simp) (by unfold room; simp; omega),⟨vs ++ [s],by simp; omega,.inr ⟨h.length,by simp,by simp [encStr]⟩⟩,fun b hb=>hb.symm,by simp,fun o ho hn => ?_⟩
  rw [zI (by simpa using ho)]
  have hn' : ¬ b=o:=hn
  rw [zB,if_neg hn']
def wRow (n dd:Nat) (f:Int) (v1 v2:AV):List AV := [.int .i64 n,.int .i64 dd,.int .i64 f,v1,v2]
structure St (h:Hp) (c m1 m2 n dd:Nat) (f:Int) (v1 v2:AV):Prop where
 w:h[c]? = some (.live 5 [wRow n dd f v1 v2])
 s1:sv h m1 v1
 s2:sv h m2 v2
 ap : ∀ b,isB v1 b→¬ isB v2 b
theorem sv.b {h:Hp} {m:Nat} {v:AV} {b:Nat} (hs:sv h m v) (hb:isB v b) : ∃ vs:List ByteArray,h[b]? = some (.live 1 (vs.map encStr)):=by
 obtain ⟨vs,_,⟨_,k,rfl⟩ | ⟨b',rfl,h'⟩⟩:=hs
 ·exact hb.elim
 ·cases hb; exact ⟨vs,h'⟩
theorem sv.ne {h:Hp} {m b c:Nat} {v:AV} {row:List AV} (hs:sv h m v) (hc:h[c]? = some (.live 5 [row])) (hb:isB v b):b≠c:=by
 intro e; subst e
 obtain ⟨vs,h'⟩:=hs.b hb
 rw [h'] at hc; cases hc
theorem sv.keep {h h':Hp} {m m':Nat} {v:AV} (hs:sv h m v) (hm:m≤m') (hk : ∀ b,isB v b→h'[b]? = h[b]?):sv h' m' v:=by
 obtain ⟨vs,hl,⟨e,k,rfl⟩ | ⟨b,rfl,hb⟩⟩:=hs
 ·exact ⟨vs,by omega,.inl ⟨e,k,rfl⟩⟩
 ·exact ⟨vs,by omega,.inr ⟨b,rfl,by rw [hk b rfl]; exact hb⟩⟩
structure Ch (c:Nat) (v1 v2:AV) (h:Hp) (v1' v2':AV) (h':Hp):Prop where
 len:h.length≤h'.length
 get : ∀ b,b < h.length→b≠c→¬ isB v1 b→¬ isB v2 b→h'[b]? = h[b]?
 n1 : ∀ b,isB v1' b→isB v1 b∨h.length≤b
 n2 : ∀ b,isB v2' b→isB v2 b∨h.length≤b
theorem Ch.refl (c:Nat) (v1 v2:AV) (h:Hp):Ch c v1 v2 h v1 v2 h:=⟨jL _,fun _ _ _ _ _=>rfl,fun _ h => .inl h,fun _ h => .inl h⟩
theorem Ch.trans {c:Nat} {v1 v2 u1 u2 w1 w2:AV} {a b d:Hp} (h1:Ch c v1 v2 a u1 u2 b) (h2:Ch c u1 u2 b w1 w2 d):Ch c v1 v2 a w1 w2 d:=by
 refine ⟨qK h1.len h2.len,fun i hi hc hv hu => ?_,fun i hi => ?_,fun i hi => ?_⟩
 ·rw [h2.get i (Nat.lt_of_lt_of_le hi h1.len) hc (fun e=>(h1.n1 i e).elim hv (fun e=>by omega)) (fun e=>(h1.n2 i e).elim hu (fun e=>by omega)),h1.get i hi hc hv hu]
 ·rcases h2.n1 i hi with h | h
  ·exact h1.n1 i h
  ·exact .inr (qK h1.len h)
 ·rcases h2.n2 i hi with h | h
  ·exact h1.n2 i h
  ·exact .inr (qK h1.len h)
theorem Ch.app (c:Nat) (v1 v2:AV) (h x:Hp):Ch c v1 v2 h v1 v2 (h ++ x):=⟨by simp,fun _ hi _ _ _=>zI hi,fun _ h => .inl h,fun _ h => .inl h⟩
theorem Ch.set (c:Nat) (v1 v2:AV) (h:Hp) (x:ABlk):Ch c v1 v2 h v1 v2 (h.set c x):=⟨by simp,fun _ _ hc _ _=>by rw [zB,if_neg (fun e=>hc e.symm)],fun _ h => .inl h,fun _ h => .inl h⟩
theorem St.app {h:Hp} {c m1 m2 n dd:Nat} {f:Int} {v1 v2:AV} (s:St h c m1 m2 n dd f v1 v2) (x:Hp):St (h ++ x) c m1 m2 n dd f v1 v2:=by
 have keep : ∀ v m,sv h m v→sv (h ++ x) m v:=fun v m hv=>hv.keep (jL _) fun b hb=>by
  obtain ⟨vs,h'⟩:=hv.b hb
  exact zI (CE h')
 exact ⟨FZ s.w,keep _ _ s.s1,keep _ _ s.s2,s.ap⟩
theorem St.set {h:Hp} {c m1 m2 n dd:Nat} {f:Int} {v1 v2:AV} (s:St h c m1 m2 n dd f v1 v2) (n' dd':Nat) (f':Int):St (h.set c (.live 5 [wRow n' dd' f' v1 v2])) c m1 m2 n' dd' f' v1 v2:=by
 have keep : ∀ v m,sv h m v→sv (h.set c (.live 5 [wRow n' dd' f' v1 v2])) m v:=fun v m hv=>hv.keep (jL _) fun b hb=>by
  rw [zB,if_neg (fun e=>hv.ne s.w hb e.symm)]
 exact ⟨ER s.w,keep _ _ s.s1,keep _ _ s.s2,s.ap⟩
section
variable {h:Hp} {c m1 m2 n dd:Nat} {f:Int} {v1 v2:AV} (s:St h c m1 m2 n dd f v1 v2)
include s
theorem St.l0:D6 Tryz.prog h 3 (.ptr c 0 0)=some (.int .i64 n):=by rw [DV ag3 s.w (row:=wRow n dd f v1 v2) rfl]; rfl
theorem St.l1:D6 Tryz.prog h 3 (.ptr c 0 1)=some (.int .i64 dd):=by rw [DV ag3 s.w (row:=wRow n dd f v1 v2) rfl]; rfl
theorem St.l2:D6 Tryz.prog h 34 (.ptr c 0 2)=some (.int .i64 f):=by rw [DV AVR s.w (row:=wRow n dd f v1 v2) rfl]; rfl
theorem St.l3:D6 Tryz.prog h 65 (.ptr c 0 3)=some v1:=by rw [DV AR1 s.w (row:=wRow n dd f v1 v2) rfl]; rfl
theorem St.l4:D6 Tryz.prog h 65 (.ptr c 0 4)=some v2:=by rw [DV AR1 s.w (row:=wRow n dd f v1 v2) rfl]; rfl
theorem St.t0 (x:Nat):FM Tryz.prog h 3 (.ptr c 0 0) (.int .i64 x)=some (h.set c (.live 5 [wRow x dd f v1 v2])):=by
 rw [JP (VI _ _) sz3 s.w (row:=wRow n dd f v1 v2) rfl (by simp [wRow])]; rfl
theorem St.t1 (x:Nat):FM Tryz.prog h 3 (.ptr c 0 1) (.int .i64 x)=some (h.set c (.live 5 [wRow n x f v1 v2])):=by
 rw [JP (VI _ _) sz3 s.w (row:=wRow n dd f v1 v2) rfl (by simp [wRow])]; rfl
theorem St.t2 (x:Int):FM Tryz.prog h 34 (.ptr c 0 2) (.int .i64 x)=some (h.set c (.live 5 [wRow n dd x v1 v2])):=by
 rw [JP (VI _ _) AZ5 s.w (row:=wRow n dd f v1 v2) rfl (by simp [wRow])]; rfl
end
theorem St.app3 {h:Hp} {c m1 m2 n dd:Nat} {f:Int} {v1 v2:AV} (s:St h c m1 m2 n dd f v1 v2) (x:ByteArray) (hm:m1≤1099511627776) :
  ∃ v' h',GI Tryz.prog true h 65 65 v1 (.sl .full 1 [[.str x]])=some (v',h')∧FM Tryz.prog h' 65 (.ptr c 0 3) v'=some (h'.set c (.live 5 [wRow n dd f v' v2])) ∧
    St (h'.set c (.live 5 [wRow n dd f v' v2])) c (m1+1) m2 n dd f v' v2∧Ch c v1 v2 h v' v2 (h'.set c (.live 5 [wRow n dd f v' v2])):=by
 obtain ⟨v',h',ha,hs,hb,hl,hk⟩:=AVK x s.s1 hm
 have hc1 : ¬ isB v1 c:=fun e=>s.s1.ne s.w e rfl
 have hc2 : ¬ isB v2 c:=fun e=>s.s2.ne s.w e rfl
 have hcl:=CE s.w
 have hw:h'[c]? = some (.live 5 [wRow n dd f v1 v2]):=by rw [hk c hcl hc1]; exact s.w
 have hvc : ∀ b,isB v' b→b≠c:=fun b hb' e=>by have:=hb b hb'; omega
 have hac:JE v'=some [v']:=by
  obtain ⟨vs,_,⟨_,k,rfl⟩ | ⟨b,rfl,_⟩⟩:=hs <;> rfl
 refine ⟨v',h',ha,by rw [JP hac AZ3 hw (row:=wRow n dd f v1 v2) rfl (by simp [wRow])]; rfl,⟨ER hw,hs.keep (jL _) fun b hb' => ?_,s.s2.keep (jL _) fun b hb' => ?_,fun b h1 h2 => ?_⟩,⟨by simpa using hl,fun b hbl hne h1 h2 => ?_,fun b hb' => .inr (by rw [hb b hb']; exact jL _),fun b hb' => .inl hb'⟩⟩
 ·rw [zB,if_neg (fun e=>hvc b hb' e.symm)]
 ·obtain ⟨_,hx⟩:=s.s2.b hb'
  rw [zB,if_neg (fun e=>hc2 (by rw [e]; exact hb')),hk b (CE hx) (fun e=>s.ap b e hb')]
 ·obtain ⟨_,hx⟩:=s.s2.b h2
  have:=hb b h1; have:=CE hx; omega
 ·rw [zB,if_neg (fun e=>hne e.symm),hk b hbl h1]
theorem St.app4 {h:Hp} {c m1 m2 n dd:Nat} {f:Int} {v1 v2:AV} (s:St h c m1 m2 n dd f v1 v2) (x:ByteArray) (hm:m2≤1099511627776) :
  ∃ v' h',GI Tryz.prog true h 65 65 v2 (.sl .full 1 [[.str x]])=some (v',h')∧FM Tryz.prog h' 65 (.ptr c 0 4) v'=some (h'.set c (.live 5 [wRow n dd f v1 v'])) ∧
    St (h'.set c (.live 5 [wRow n dd f v1 v'])) c m1 (m2+1) n dd f v1 v'∧Ch c v1 v2 h v1 v' (h'.set c (.live 5 [wRow n dd f v1 v'])):=by
 obtain ⟨v',h',ha,hs,hb,hl,hk⟩:=AVK x s.s2 hm
 have hc1 : ¬ isB v1 c:=fun e=>s.s1.ne s.w e rfl
 have hc2 : ¬ isB v2 c:=fun e=>s.s2.ne s.w e rfl
 have hcl:=CE s.w
 have hw:h'[c]? = some (.live 5 [wRow n dd f v1 v2]):=by rw [hk c hcl hc2]; exact s.w
 have hvc : ∀ b,isB v' b→b≠c:=fun b hb' e=>by have:=hb b hb'; omega
 have hac:JE v'=some [v']:=by
  obtain ⟨vs,_,⟨_,k,rfl⟩ | ⟨b,rfl,_⟩⟩:=hs <;> rfl
 refine ⟨v',h',ha,by rw [JP hac AZ3 hw (row:=wRow n dd f v1 v2) rfl (by simp [wRow])]; rfl,⟨ER hw,s.s1.keep (jL _) fun b hb' => ?_,hs.keep (jL _) fun b hb' => ?_,fun b h1 h2 => ?_⟩,⟨by simpa using hl,fun b hbl hne h1 h2 => ?_,fun b hb' => .inl hb',fun b hb' => .inr (by rw [hb b hb']; exact jL _)⟩⟩
 ·obtain ⟨_,hx⟩:=s.s1.b hb'
  rw [zB,if_neg (fun e=>hc1 (by rw [e]; exact hb')),hk b (CE hx) (fun e=>s.ap b hb' e)]
 ·rw [zB,if_neg (fun e=>hvc b hb' e.symm)]
 ·obtain ⟨_,hx⟩:=s.s1.b h1
  have:=hb b h2; have:=CE hx; omega
 ·rw [zB,if_neg (fun e=>hne e.symm),hk b hbl h2]
def VX (z:Int) (xs:List Ex):Int:=xs.foldl (fun z e=>if z=0 then KJ e else z) z
theorem AJ6 (z:Int) (xs ys:List Ex):VX z (xs ++ ys)=VX (VX z xs) ys:=List.foldl_append
theorem St.weak {h:Hp} {c m1 m2 m1' m2' n dd:Nat} {f:Int} {v1 v2:AV} (s:St h c m1 m2 n dd f v1 v2) (h1:m1≤m1') (h2:m2≤m2'):St h c m1' m2' n dd f v1 v2 :=
 ⟨s.w,s.s1.keep h1 fun _ _=>rfl,s.s2.keep h2 fun _ _=>rfl,s.ap⟩
def Md (e:Ex) (c d:Nat) (v1 v2:AV) (h:Hp) (m1 m2 n dd:Nat) (f:Int) (F:Nat→AV) (H:Hp):Prop :=
 F 0 = .ptr c 0 0∧F 2 = .int .i64 (d:Nat)∧F 4 = .ptr h.length 0 0∧∃ u1 u2,St H c m1 m2 n dd f u1 u2∧Ch c v1 v2 (h ++ [.live 4 [DC e]]) u1 u2 H
theorem AI1 (xs:List Ex):(KC xs).length≤wts xs:=by
 induction xs with
 | nil=>simp [KC,wts]
 | cons x xs ih=>have:=AGF x; simp only [KC,wts,qA]; omega
theorem AHV : ∀ (xs:List Ex) (j:Nat) (hj:j < xs.length),wts (xs.take j)+wt xs[j]≤wts xs
 | x :: xs,0,_=>by simp [wts]
 | x :: xs,j+1,h=>by
   have:=AHV xs j (by simpa using h)
   simp only [List.take_succ_cons,wts,List.getElem_cons_succ]; omega
theorem YR : ∀ (xs:List Ex) (j:Nat),deps (xs.take j)≤wts xs
 | [],j=>by simp [deps,wts]
 | x :: xs,0=>by simp [deps]
 | x :: xs,j+1=>by
   have h1:=YR xs j
   have h2:=AUO x
   simp only [List.take_succ_cons,deps,wts]; omega
theorem AWP (G:Nat→AV) (c:Nat) (e:Ex):WN e→∀ (h:Hp) (d n dd:Nat) (f:Int) (v1 v2:AV),d+wt e≤549755813888→n+wt e≤549755813888→dd≤1099511627776→St h c n n n dd f v1 v2 →
  ACalls (En G) 110 [.ptr c 0 0,.agg (DC e),.int .i64 (d:Nat)] h fun _ h' => ∃ u1 u2,St h' c (n+(pre e).length) (n+(pre e).length) (n+(pre e).length) (max dd (d+deps e.args)) (VX f (pre e)) u1 u2∧Ch c v1 v2 h u1 u2 h':=by
 induction e using Ex.induct with | h e ih => ?_
 intro hwn h d n dd f v1 v2 hd hn hdd s
 have hw:=hwn.1
 have hnm:e.name.size≤1048576:=hwn.2 e (by rw [pre_eq]; simp)
 have hal:e.args.length≤wts e.args:=TF e.args
 have hwe:=L6 e
 have hcl:=CE s.w
 have hbox : ∀ (u1 u2:AV) (H:Hp),Ch c v1 v2 (h ++ [.live 4 [DC e]]) u1 u2 H→H[h.length]? = some (.live 4 [DC e]):=by
  intro u1 u2 H hC
  rw [hC.get h.length (by simp) (by omega) (fun hb => ?_) (fun hb => ?_)]
  ·exact CY _ _
  ·obtain ⟨_,hx⟩:=s.s1.b hb
   have:=CE hx; omega
  ·obtain ⟨_,hx⟩:=s.s2.b hb
   have:=CE hx; omega
 have lb0 : ∀ H:Hp,H[h.length]? = some (.live 4 [DC e])→D6 Tryz.prog H 3 (.ptr h.length 0 0)=some (.int .i64 e.op):=fun H hH=>by rw [DV ag3 hH (row:=DC e) rfl,KH]
 have lb2 : ∀ H:Hp,H[h.length]? = some (.live 4 [DC e])→D6 Tryz.prog H 9 (.ptr h.length 0 2)=some (.str e.name):=fun H hH=>by rw [DV ag9 hH (row:=DC e) rfl,QL]
 have lb3 : ∀ H:Hp,H[h.length]? = some (.live 4 [DC e])→D6 Tryz.prog H 46 (.ptr h.length 0 3)=some (.sl e.m 4 (e.args.map DC)):=fun H hH=>by rw [DV UQ hH (row:=DC e) rfl,AAT]
 refine NT (H:=hint [56,85] []) (enM G) Tryz.func110 rfl (by kernel_rfl) (by kernel_rfl) (jI (by kernel_rfl)) ?_
 show awp _ _ _ _ _ (EJ _ [] _)
 have s0:=s.app [.live 4 [DC e]]
 have c0:=Ch.app c v1 v2 h [.live 4 [DC e]]
 simp -implicitDefEqProofs only [DJ,jS,jJ,jQ,jR,BC,A8,BA,AY,BB,AL,BD,AX,AC,E8,AA,AZ,AU,BH,BG,FD,BN,EN,BR,BJ,BU,AB,DW,DK,BF,BP,↓reduceIte,jB,jK,jG,jA,jC,enP,AO4,AG5,D7,jT,HY,JA,bxE,s0.l0,wrap_succ (show n < 9223372036854775807 by omega),s0.t0]
 have s1:=s0.set (n+1) dd f
 have c1:=Ch.set c v1 v2 (h ++ [.live 4 [DC e]]) (.live 5 [wRow (n+1) dd f v1 v2])
 clear s0
 generalize (h ++ [ABlk.live 4 [DC e]]).set c (.live 5 [wRow (n+1) dd f v1 v2])=H1 at s1 c1 ⊢
 simp -implicitDefEqProofs only [DJ,jS,jJ,jQ,jR,BI,BA,AY,BB,AL,BD,AX,AC,AA,AZ,BR,AB,EY,↓reduceIte,jB,jA,jC,enP,D7,s1.l1]
 refine SX (Md e c d v1 v2 h n n (n+1) (max dd d) f) (fun _ _=>False) (fun hb => ?_) (fun hb => ?_) ?_ (fun _ _ hh=>hh.elim)
 ·simp -implicitDefEqProofs only [DJ,jS,jJ,jQ,jR,A8,QG,AY,BB,AL,BD,AX,AC,E8,AA,AZ,BG,EN,BJ,AB,DW,BF,BP,↓reduceIte,jB,jG,jA,jC,enP,AG5,D7,jT,HY,JA,s1.t1]
  refine ⟨rfl,rfl,rfl,v1,v2,?_,c1.trans (Ch.set c _ _ _ _)⟩
  have:max dd d=d:=by simp at hb; omega
  rw [this]
  exact s1.set (n+1) d f
 ·simp -implicitDefEqProofs only [BO,QG]
  refine ⟨rfl,rfl,rfl,v1,v2,?_,c1⟩
  have:max dd d=dd:=by simp at hb; omega
  rw [this]
  exact s1
 clear s1 c1
 rintro F H ⟨f0,f2,f4,u1,u2,s,hC⟩
 simp -implicitDefEqProofs only [DJ,jS,jJ,jQ,jR,BC,A8,BI,BA,AY,BB,AL,BD,AX,AC,AA,AZ,AU,BH,BG,BN,BR,BJ,AB,EG,↓reduceIte,jG,jA,jC,enP,YM,D7,HY,JA,f0,s.l2]
 refine SX (Md e c d v1 v2 h n n (n+1) (max dd d) (VX f [e])) (fun _ _=>False) (fun hb => ?_) (fun hb => ?_) ?_ (fun _ _ hh=>hh.elim)
 ·simp -implicitDefEqProofs only [DJ,jS,jJ,jQ,jR,A8,AY,AL,BD,AX,AC,AA,AZ,CB,BG,BN,CG,BX,AB,jE,jD,jF,↓reduceIte,jB,jA,jC,enP,D7,f0,f2,f4,N9 (hbox _ _ _ hC)]
  refine (APJ G e _ hnm).use ?_
  simp -implicitDefEqProofs only [DJ,jS,jJ,jQ,jR,QG,AY,BB,AL,BD,AX,AC,E8,AA,AZ,EN,BJ,AB,DW,↓reduceIte,jB,jG,jA,jC,enP,YM,D7,jT,HY,JA,s.t2,f0,f2,f4]
  refine ⟨f0,f2,f4,u1,u2,?_,hC.trans (Ch.set c _ _ _ _)⟩
  have:VX f [e]=KJ e:=by
   have:f=0:=by simpa using hb
   subst this; rfl
  rw [this]
  exact s.set _ _ _
 ·simp -implicitDefEqProofs only [BO,QG]
  refine ⟨f0,f2,f4,u1,u2,?_,hC⟩
  have:VX f [e]=f:=by
   have:f≠0:=by simpa using hb
   show (if f=0 then KJ e else f)=f
   rw [if_neg this]
  rw [this]; exact s
 clear f0 f2 f4 s hC
 rintro F H ⟨f0,f2,f4,u1,u2,s,hC⟩
 simp -implicitDefEqProofs only [BC,BA]
 refine EX (by kernel_rfl) ?_
 have hB:=hbox _ _ _ hC
 refine AV3 (fun F H=>(∃ b,F 47 = .bool b)∧Md e c d v1 v2 h n n (n+1) (max dd d) (VX f [e]) F H) ?_ ?_
 ·cases b2:(e.op == 2)
  ·simp -implicitDefEqProofs only [F6,DJ,jS,jJ,jQ,jR,EF,DZ,FC,EH,FH,GK,AF5,FI,I7,FB,IB,D9,CO,AA,EQ,AZ,AU,BH,BM,CP,DR,BN,BR,BJ,AB,EG,↓reduceIte,jB,jM,jK,jA,enP,JJ,f0,f2,f4,lb0 _ hB,b2]
   exact ⟨⟨_,rfl⟩,f0,f2,f4,u1,u2,s,hC⟩
  ·obtain ⟨r,hr⟩:=AT8 G e.name s.s1 (by omega)
   simp -implicitDefEqProofs only [F6,DJ,jS,jJ,jQ,jR,EF,DZ,EH,FH,GK,PQ,FI,FB,IB,API,D9,GZ,F7,CO,AA,AZ,AU,CB,BH,BN,BR,G7,BJ,AB,EG,jE,jD,jF,↓reduceIte,jB,jM,jK,jG,jA,enP,JJ,MM,AO3,HY,OU,JA,f0,f2,f4,lb0 _ hB,lb2 _ hB,b2,s.l3]
   refine ⟨_,hr,?_⟩
   simp -implicitDefEqProofs only [F6,DJ,jS,jJ,jQ,jR,EF,DZ,FC,EH,I7,AA,AZ,AU,BM,CP,DY,AB,ES,↓reduceIte,jB,jM,jA,f0,f2,f4]
   exact ⟨⟨_,rfl⟩,f0,f2,f4,u1,u2,s,hC⟩
 clear f0 f2 f4 s hC hB
 rintro F H ⟨⟨b,f47⟩,f0,f2,f4,u1,u2,s,hC⟩
 have hB:=hbox _ _ _ hC
 simp -implicitDefEqProofs only [BI,BA,AZ,f47]
 refine SX (Md e c d v1 v2 h (n+1) n (n+1) (max dd d) (VX f [e])) (fun _ _=>False) (fun hb => ?_) (fun hb => ?_) ?_ (fun _ _ hh=>hh.elim)
 ·obtain ⟨v',H',ha,ht,s',hC'⟩:=s.app3 e.name (by omega)
  refine EX (by kernel_rfl) ?_
  simp -implicitDefEqProofs only [F6,FU,FQ,DJ,jS,jJ,jQ,jR,EF,DZ,OG,FC,EH,FI,JL,FB,NE,D9,I8,QG,AA,AZ,EK,BN,EN,BJ,G8,BU,AB,DW,↓reduceIte,jB,jM,jG,jA,enP,MM,AO3,jT,HY,OU,JA,f0,f2,f4,lb2 _ hB,s.l3,AU7,ha,ht]
  exact ⟨f0,f2,f4,_,_,s',hC.trans hC'⟩
 ·simp -implicitDefEqProofs only [BO,QG]
  exact ⟨f0,f2,f4,_,_,s.weak (by omega) (by omega),hC⟩
 clear f0 f2 f4 s hC hB
 rintro F H ⟨f0,f2,f4,u1,u2,s,hC⟩
 have hB:=hbox _ _ _ hC
 simp -implicitDefEqProofs only [BC,BA]
 refine EX (by kernel_rfl) ?_
 refine AV3 (fun F H=>(∃ b,F 76 = .bool b)∧Md e c d v1 v2 h (n+1) n (n+1) (max dd d) (VX f [e]) F H) ?_ ?_
 ·obtain ⟨r,hr⟩:=AT8 G e.name s.s2 (by omega)
  cases b2:(e.op == 3)
  ·cases b3:(e.op == 24)
   ·simp -implicitDefEqProofs only [F6,DJ,jS,jJ,jQ,jR,EF,DZ,FC,EH,FH,GK,UI,AF5,FI,I7,FB,IB,D9,CO,AA,EQ,AZ,AU,BH,BM,CP,DR,BN,BR,BJ,AB,EG,↓reduceIte,jB,jM,jK,jA,enP,JJ,f0,f2,f4,lb0 _ hB,b2,b3]
    exact ⟨⟨_,rfl⟩,f0,f2,f4,u1,u2,s,hC⟩
   ·simp -implicitDefEqProofs only [F6,DJ,jS,jJ,jQ,jR,EF,DZ,EH,FH,GK,PQ,UI,FI,I7,FB,IB,API,D9,GZ,F7,CO,AA,AZ,AU,CB,BH,BM,CP,DR,BN,BR,G7,BJ,AB,EG,jE,jD,jF,↓reduceIte,jB,jM,jK,jG,jA,enP,JJ,MM,AG4,HY,OU,JA,f0,f2,f4,lb0 _ hB,lb2 _ hB,b2,b3,s.l4]
    refine ⟨_,hr,?_⟩
    simp -implicitDefEqProofs only [F6,DJ,jS,jJ,jQ,jR,EF,DZ,FC,EH,I7,AA,AZ,AU,BM,CP,DY,AB,ES,↓reduceIte,jB,jM,jA,f0,f2,f4]
    exact ⟨⟨_,rfl⟩,f0,f2,f4,u1,u2,s,hC⟩
  ·simp -implicitDefEqProofs only [F6,DJ,jS,jJ,jQ,jR,EF,DZ,EH,FH,GK,PQ,AA2,FI,I7,FB,IB,API,D9,GZ,F7,CO,AA,EQ,AZ,AU,CB,BH,BM,CP,DY,BN,BR,G7,BJ,AB,EG,jE,jD,jF,↓reduceIte,jB,jM,jK,jG,jA,enP,JJ,MM,AG4,HY,OU,JA,f0,f2,f4,lb0 _ hB,lb2 _ hB,b2,s.l4]
   refine ⟨_,hr,?_⟩
   simp -implicitDefEqProofs only [F6,DJ,jS,jJ,jQ,jR,EF,DZ,FC,EH,I7,AA,AZ,AU,BM,CP,DY,AB,ES,↓reduceIte,jB,jM,jA,f0,f2,f4]
   exact ⟨⟨_,rfl⟩,f0,f2,f4,u1,u2,s,hC⟩
 clear f0 f2 f4 s hC hB f47
 rintro F H ⟨⟨b,f76⟩,f0,f2,f4,u1,u2,s,hC⟩
 have hB:=hbox _ _ _ hC
 simp -implicitDefEqProofs only [BI,BA,AZ,f76]
 refine SX (Md e c d v1 v2 h (n+1) (n+1) (n+1) (max dd d) (VX f [e])) (fun _ _=>False) (fun hb => ?_) (fun hb => ?_) ?_ (fun _ _ hh=>hh.elim)
 ·obtain ⟨v',H',ha,ht,s',hC'⟩:=s.app4 e.name (by omega)
  refine EX (by kernel_rfl) ?_
  simp -implicitDefEqProofs only [F6,FU,FQ,DJ,jS,jJ,jQ,jR,Bool.or_true,EF,DZ,OG,FC,EH,FI,JL,FB,NE,D9,I8,QG,AA,AZ,EK,BN,EN,BJ,G8,BU,AB,DW,↓reduceIte,jB,jM,jG,jA,enP,MM,AG4,jT,HY,OU,JA,f0,f2,f4,lb2 _ hB,s.l4,AU7,ha,ht]
  exact ⟨f0,f2,f4,_,_,s',hC.trans hC'⟩
 ·simp -implicitDefEqProofs only [BO,QG]
  exact ⟨f0,f2,f4,_,_,s.weak (by omega) (by omega),hC⟩
 clear f0 f2 f4 s hC hB f76
 rintro F H ⟨f0,f2,f4,u1,u2,s,hC⟩
 simp -implicitDefEqProofs only [DJ,jS,jJ,jQ,jR,BC,BQ,A8,BA,AY,BB,AL,BD,AX,AC,AU,BH,A7,jA,jC,D7]
 refine DL (fun k F H => ∃ j,k+j=e.args.length∧F 6 = .int .i64 (j:Nat)∧Md e c d v1 v2 h (n+1+(KC (e.args.take j)).length) (n+1+(KC (e.args.take j)).length) (n+1+(KC (e.args.take j)).length) (max dd (d+deps (e.args.take j))) (VX (VX f [e]) (KC (e.args.take j))) F H) e.args.length ⟨0,by simp,rfl,f0,f2,f4,u1,u2,s,hC⟩ ?_
 clear f0 f2 f4 s hC
 rintro k F H ⟨j,hj,f6,f0,f2,f4,u1,u2,s,hC⟩
 have hB:=hbox _ _ _ hC
 simp -implicitDefEqProofs only [DJ,jS,jJ,jQ,jR,BC,A8,BI,BA,AY,BB,AL,BD,AX,AC,AA,AZ,BG,BN,BR,BJ,DU,AB,CW,↓reduceIte,jB,jG,jA,jC,enP,VU,OD,D7,f6,f4,lb3 _ hB,jH]
 refine CU (fun hlt => ?_) (fun hlt => ?_)
 ·have hj':j < e.args.length:=by simpa using hlt
  have hmem:e.args[j]∈e.args:=jP hj'
  have hwa:=TE hmem
  have hpl:(KC (e.args.take j)).length+(pre e.args[j]).length≤wts e.args:=by
   have h1:=AI1 e.args
   have h2:KC e.args=KC (e.args.take j) ++ (pre e.args[j] ++ KC (e.args.drop (j+1))):=by
    rw [← zF,← P7 _ _ hj',← QW,List.take_append_drop]
   rw [h2] at h1; simp at h1; omega
  have hsp:(KC (e.args.take j)).length+wt e.args[j]≤wts e.args:=by
   have h1:=AI1 (e.args.take j)
   have h2:=AHV e.args j hj'
   omega
  have hdt:deps (e.args.take j)≤wts e.args:=YR e.args j
  simp -implicitDefEqProofs only [DJ,jS,jJ,jQ,jR,BC,BQ,A8,BO,BA,AY,AL,BD,AX,AC,AA,AZ,AU,CB,BH,BG,BN,BR,BJ,BZ,CG,BX,AB,DK,jE,jD,jF,↓reduceIte,jB,jG,jA,jC,enP,ZI,OD,D7,f0,f2,f4,f6,lb3 _ hB,DF hj',FT XH MQ IX hj',wrap_succ (show d < 9223372036854775807 by omega)]
  refine (ih e.args[j] hmem ⟨by omega,fun x hx=>hwn.2 x (by rw [pre_eq]; exact wO _ (ABE hmem x hx))⟩ H (d+1) _ _ _ u1 u2 (by omega) (by omega) (by omega) s).mono ?_
  rintro v H' ⟨w1,w2,s',hC'⟩
  simp -implicitDefEqProofs only [DJ,jS,jJ,jQ,jR,A8,BA,EI,EP,AY,BB,AL,BD,AX,AC,AA,AZ,AU,BH,BG,A7,BR,AB,DK,↓reduceIte,jB,jA,jC,enP,D7,f6,wrap_succ (show j < 9223372036854775807 by omega)]
  refine ⟨k - 1,by omega,j+1,by omega,rfl,f0,f2,f4,w1,w2,?_,hC.trans hC'⟩
  rw [P7 _ _ hj',AFS _ _ hj',AJ6,qA]
  have e1:max (max dd (d+deps (e.args.take j))) (d+1+deps e.args[j].args)=max dd (d+max (deps (e.args.take j)) (dep e.args[j])):=by
   rw [AHC]; omega
  rw [e1,Nat.add_assoc (n+1)] at s'
  exact s'
 ·have hj' : ¬ j < e.args.length:=by simpa using hlt
  rw [jW (by omega)] at s
  simp -implicitDefEqProofs only [DI,ED,EU,EW,ADB,↓reduceIte]
  refine ⟨u1,u2,?_,c0.trans hC⟩
  have e1:n+1+(KC e.args).length=n+(pre e).length:=by rw [pre_eq]; simp; omega
  have e2:VX (VX f [e]) (KC e.args)=VX f (pre e):=by rw [pre_eq,← AJ6]; rfl
  rw [e1,e2] at s
  exact s
theorem A36:KR Tryz.prog 118 []=some (.agg [.int .i64 0,.int .i64 0,.int .i64 0,.sl .nil 0 [],.sl .nil 0 []]):=by kernel_rfl
theorem A3J (h:Hp):OM h (.agg [.int .i64 0,.int .i64 0,.int .i64 0,.sl .nil 0 [],.sl .nil 0 []])=some (.ptr h.length 0 0,h ++ [.live 5 [wRow 0 0 0 (.sl .nil 0 []) (.sl .nil 0 [])]]):=TZ rfl
theorem ATA (G:Nat→AV) (e:Ex) (hwn:WN e) (h:Hp) :
  ACalls (En G) 74 [.agg (DC e)] h fun v h' => ∃ c m u1 u2,v = .ptr c 0 0∧St h' c m m (pre e).length (dep e) (errs (pre e)) u1 u2∧∃ x,h'=h ++ x:=by
 refine acN Tryz.func74 rfl ?_
 show awp _ _ _ _ _ (EJ _ [.tmp 2] _)
 simp -implicitDefEqProofs only [FU,BC,A8,BA,AY,BB,AO,AQ,AL,BD,AX,AC,AA,AZ,AU,CB,BH,AYV,BG,A7,FD,KU,BN,CG,BX,BU,AB,BF,jE,jD,jF,↓reduceIte,jB,jA,jC,enP,bxE,A36,A3J,N9 (CV (CY h _))]
 have nb : ∀ b,¬ isB (.sl .nil 0 []) b:=fun b hb=>hb
 have hw:=hwn.1
 refine (AWP G _ e hwn _ 1 0 0 0 (.sl .nil 0 []) (.sl .nil 0 []) (by omega) (by omega) (by omega) ⟨CY _ _,⟨[],by simp,.inl ⟨rfl,_,rfl⟩⟩,⟨[],by simp,.inl ⟨rfl,_,rfl⟩⟩,fun b hb=>(nb b hb).elim⟩).mono ?_
 rintro v h' ⟨u1,u2,s,hC⟩
 simp -implicitDefEqProofs only [BC,A8,BK,BA,CJ,AY,BB,AO,AQ,AL,BD,AX,AC,AA,AZ,BG,A7,↓reduceIte,jB,jA,jC]
 have e1:0+(pre e).length=(pre e).length:=jG _
 have e2:max 0 (1+deps e.args)=dep e:=by rw [AHC]; omega
 rw [e1,e2] at s
 refine ⟨_,_,u1,u2,rfl,s,?_⟩
 have hC2:=((Ch.app (h ++ [ABlk.live 4 [DC e]]).length (.sl .nil 0 []) (.sl .nil 0 []) h [.live 4 [DC e]]).trans (Ch.app _ _ _ _ [.live 5 [wRow 0 0 0 (.sl .nil 0 []) (.sl .nil 0 [])]])).trans hC
 refine Chg.above (c:=(h ++ [ABlk.live 4 [DC e]]).length) ⟨hC2.len,fun b hb hne=>hC2.get b hb hne (nb b) (nb b)⟩ (by simp)
theorem AG6 (G:Nat→AV) (e:Ex) (h:Hp) (hw:WN e):PCall (En G) 40 [.agg (DC e)] h (.int .i64 (exE e)):=by
 refine ACalls.pure0 rfl ?_
 refine acN Tryz.func40 rfl ?_
 show awp _ _ _ _ _ (EJ _ [.tmp 2] _)
 simp -implicitDefEqProofs only [BC,A8,BA,AY,BB,AO,AQ,AL,BD,AX,AC,AA,AZ,AU,CB,BH,A7,FD,BN,CG,BX,BU,AB,BF,jE,jD,jF,↓reduceIte,jB,jA,jC,enP,bxE,ldE]
 refine (ATA G e hw _).mono ?_
 rintro v h' ⟨c,m,u1,u2,rfl,s,x,rfl⟩
 simp -implicitDefEqProofs only [BC,A8,BA,AY,BB,BL,BV,CO,AO,AQ,AL,BD,AX,AC,AA,AZ,AU,BH,BG,A7,BN,BR,BJ,AB,EG,↓reduceIte,jG,jA,jC,enP,YM,HY,JA,s.l2]
 rcases he:(errs (pre e) == 0) with _ | _
 ·simp -implicitDefEqProofs only [BC,A8,BO,BK,BI,BA,CJ,D5,AY,BB,BL,BV,CO,JK,RV,AO,AQ,AL,BD,AX,AC,AA,EQ,AZ,AU,BM,BG,A7,CP,DR,BN,BJ,AB,↓reduceIte,jB,jG,jA,jC,enP,YM,HY,JA,s.l2]
  have:errs (pre e)≠0:=by simpa using he
  exact ⟨by unfold exE; rw [if_neg (fun hh=>this hh.1)],_,by rw [zF]⟩
 have he0:errs (pre e)=0:=by simpa using he
 simp -implicitDefEqProofs only [BL,BV,CO,GV,AO,AQ,AL,BD,AX,AC,AA,AZ,AU,BH,BG,BN,BR,BJ,AB,EY,↓reduceIte,jB,jG,jA,jC,enP,AG5,HY,JA,s.l1]
 refine II (fun hd => ?_) (fun hd => ?_)
 ·simp -implicitDefEqProofs only [BC,A8,BK,BI,BA,CQ,CJ,DT,AY,BB,BL,BV,CO,GV,FP,AO,AQ,AL,BD,AX,AC,AA,EQ,AZ,AU,BH,BM,A7,CP,DY,↓reduceIte,jB,jA,jC,hd]
  exact ⟨by unfold exE; rw [if_pos ⟨he0,.inl (by simp at hd; omega)⟩],_,by rw [zF]⟩
 simp -implicitDefEqProofs only [BI,BA,AY,BB,BL,BV,CO,GV,EM,AO,AQ,AL,BD,AX,AC,AA,AZ,AU,BH,BM,BG,CP,DY,DR,BN,BR,BJ,AB,EY,↓reduceIte,jB,jK,jA,jC,enP,AO4,HY,JA,hd,s.l0]
 refine CU (fun hn => ?_) (fun hn => ?_)
 ·simp -implicitDefEqProofs only [BC,A8,BK,BA,CQ,CJ,AY,BB,AO,AQ,AL,BD,AX,AC,AA,AU,BH,A7,↓reduceIte,jA,jC]
  exact ⟨by unfold exE; rw [if_pos ⟨he0,.inr (by simp at hn; omega)⟩],_,by rw [zF]⟩
 ·simp -implicitDefEqProofs only [BC,A8,BO,BK,BA,CJ,AY,BB,AO,AQ,AL,BD,AX,AC,AA,AZ,BG,A7,BN,BJ,AB,↓reduceIte,jB,jG,jA,jC,enP,YM,HY,JA,s.l2]
  exact ⟨by unfold exE; rw [if_neg (fun hh=>by simp at hn hd; omega)],_,by rw [zF]⟩
theorem AJ4 (G:Nat→AV) (e:Ex) (h:Hp) (hw:wt e≤1048576):PCall (En G) 40 [.agg (DC e)] h (.int .i64 (exE e)):=AG6 G e h (AVW hw)
structure Is where
 m:SM
 l:List Int
def encL (x:Is):List AV := [.sl x.m 1 (x.l.map qencI)]
theorem AKA (x:Is):(encL x)[0]? = some (.sl x.m 1 (x.l.map qencI)):=rfl
theorem ADG (x:Is):(encL x).length=1:=rfl
structure Pt where
 name:ByteArray
 ex:Ex
 bm:SM
 bins:List Bin
def F8 (p:Pt):List AV := .str p.name :: (DC p.ex ++ [.sl p.bm 4 (p.bins.map GN)])
theorem ADF (p:Pt):(F8 p)[0]? = some (.str p.name):=rfl
theorem NQ (p:Pt):(F8 p)[5]? = some (.sl p.bm 4 (p.bins.map GN)):=by unfold F8; rw [IU]; rfl
theorem JC (p:Pt):(F8 p).length=6:=by unfold F8; rw [IU]; rfl
theorem ZV (p:Pt):(F8 p).all AV.leaf=true:=by unfold F8; rw [IU]; rfl
theorem AO7 (p:Pt):((F8 p).drop 1).take 4=DC p.ex:=by unfold F8; rw [IU]; rfl
theorem bxP (h:Hp) (p:Pt):OM h (.agg (F8 p))=some (.ptr h.length 0 0,h ++ [.live 6 [F8 p]]):=by
 have:=TZ (h:=h) (ZV p)
 rw [JC] at this; exact this
theorem AME {h:Hp} {b:Nat} {p:Pt} (hb:h[b]? = some (.live 6 [F8 p])):D6 Tryz.prog h 48 (.ptr b 0 1)=some (.agg (DC p.ex)):=by
 rw [IE XH MQ hb rfl (by rw [JC]; omega),AO7]
structure Cr where
 name:ByteArray
 pm:SM
 pts:List Int
 xm:SM
 excl:List Is
def G6 (c:Cr):List AV := [.str c.name,.sl c.pm 1 (c.pts.map qencI),.sl c.xm 1 (c.excl.map encL)]
theorem ADH (c:Cr):(G6 c)[0]? = some (.str c.name):=rfl
theorem OT (c:Cr):(G6 c)[1]? = some (.sl c.pm 1 (c.pts.map qencI)):=rfl
theorem AO8 (c:Cr):(G6 c)[2]? = some (.sl c.xm 1 (c.excl.map encL)):=rfl
theorem KZ (c:Cr):(G6 c).length=3:=rfl
theorem bxC (h:Hp) (c:Cr):OM h (.agg (G6 c))=some (.ptr h.length 0 0,h ++ [.live 3 [G6 c]]):=rfl
structure Mo where
 pm:SM
 pts:List Pt
 cm:SM
 crs:List Cr
def D8 (m:Mo):List AV := [.sl m.pm 6 (m.pts.map F8),.sl m.cm 3 (m.crs.map G6)]
theorem QY (m:Mo):(D8 m)[0]? = some (.sl m.pm 6 (m.pts.map F8)):=rfl
theorem SS (m:Mo):(D8 m)[1]? = some (.sl m.cm 3 (m.crs.map G6)):=rfl
theorem AUH (m:Mo):(D8 m).length=2:=rfl
theorem bxM (h:Hp) (m:Mo):OM h (.agg (D8 m))=some (.ptr h.length 0 0,h ++ [.live 2 [D8 m]]):=rfl
def AA9:List ByteArray→List ByteArray→Bool
 | _,[]=>false
 | seen,x :: xs=>IJ seen x || AA9 (seen ++ [x]) xs
def MZ (l:List ByteArray):Bool:=AA9 [] l
theorem QC (N:List ByteArray) (i:Nat) (hi:i < N.length):AA9 (N.take i) (N.drop i)=(IJ (N.take i) N[i] || AA9 (N.take (i+1)) (N.drop (i+1))):=by
 rw [zH hi,zK hi]; rfl
theorem G9 {α:Type} {l:List α} {i:Nat} {hi:i < l.length} {x:α} (h:l[i]? = some x):l[i]=x:=by
 rw [jO hi] at h; exact Option.some.inj h
theorem AOR (G:Nat→AV) (x:Bin) (h:Hp):PCall (En G) 85 [.agg (GN x)] h (.str x.name):=by
 refine ACalls.pure0 rfl ?_
 refine acN Tryz.func85 rfl ?_
 show awp _ _ _ _ _ (EJ _ [.tmp 2] _)
 simp -implicitDefEqProofs only [BC,A8,BK,BA,CJ,AY,BB,AO,AQ,AL,BD,AX,AC,AA,AZ,AU,IA,A7,FD,BN,BJ,BU,AB,BF,↓reduceIte,jB,jK,jA,jC,enP,TW,bxB,C9 ag9,YQ]
 exact ⟨trivial,_,rfl⟩
theorem AP4 (G:Nat→AV) (xs:List Bin) (m:SM) (h:Hp) (hl:xs.length≤1099511627776) :
  PCall (En G) 84 [.sl m 4 (xs.map GN),.fn (.func 85) [] []] h (.bool (MZ (xs.map (·.name)))):=by
 refine acN Tryz.func84 rfl ?_
 show awp _ _ _ _ _ (EJ _ [.tmp 4] _)
 simp -implicitDefEqProofs only [BC,BQ,A8,BA,AY,BB,AO,AQ,AL,BD,AX,AC,AA,AZ,AU,BH,BM,BG,A7,DU,AB,BF,↓reduceIte,jB,jA,jC,enP,PU,jH]
 generalize hN:xs.map (·.name)=N
 have hNl:N.length=xs.length:=by rw [← hN]; simp
 have hNi : ∀ i (hi:i < xs.length),N[i]? = some xs[i].name:=fun i hi=>by rw [← hN,jY,jO hi]; rfl
 refine DL (fun n F H => ∃ i,n+i=xs.length∧F 0 = .sl m 4 (xs.map GN)∧F 1 = .fn (.func 85) [] []∧F 8 = .int .i64 xs.length∧F 9 = .int .i64 (i:Nat)∧H=h∧MZ N=AA9 (N.take i) (N.drop i)) xs.length ⟨0,by simp,by simp -implicitDefEqProofs only [AA,BF,↓reduceIte,jB],by simp -implicitDefEqProofs only [AA,BF,BP,↓reduceIte,jB],by simp -implicitDefEqProofs only [AA,↓reduceIte,jB],by simp -implicitDefEqProofs only [AA,↓reduceIte]; rfl,rfl,rfl⟩ ?_
 rintro n F H ⟨i,hi,f0,f1,f8,f9,rfl,hd⟩
 simp -implicitDefEqProofs only [BC,A8,BI,BA,AY,BB,AO,AQ,AL,BD,AX,AC,AA,AZ,BR,AB,CW,↓reduceIte,jA,jC,enP,f8,f9]
 refine CU (fun hc => ?_) (fun hc => ?_)
 ·have hi':i < xs.length:=by simpa using hc
  have hdrop:=QC N i (by omega)
  rw [G9 (hNi i hi')] at hdrop
  simp -implicitDefEqProofs only [BC,BQ,A8,BO,BA,AY,BB,AO,AQ,AL,BD,AX,AC,AA,AZ,AU,BH,BG,A7,↓reduceIte,jB,jA,jC,f9]
  refine H7 2 (fun F' H'=>F' 0 = .sl m 4 (xs.map GN)∧F' 1 = .fn (.func 85) [] []∧F' 8 = .int .i64 xs.length∧F' 9 = .int .i64 (i:Nat)∧H'=H∧IJ (N.take i) xs[i].name=false) (fun F' H'=>F' 4 = .bool (MZ N)∧H'=H) ?_ ?_ ?_
  ·refine DL (fun n F' H' => ∃ k,n+k=i∧F' 0 = .sl m 4 (xs.map GN)∧F' 1 = .fn (.func 85) [] []∧F' 8 = .int .i64 xs.length∧F' 9 = .int .i64 (i:Nat)∧F' 5 = .int .i64 (i:Nat)∧F' 12 = .int .i64 (i:Nat)∧F' 13 = .int .i64 (k:Nat)∧H'=H∧IJ (N.take i) xs[i].name=IJ ((N.take i).drop k) xs[i].name) i ⟨0,by simp,by simp -implicitDefEqProofs only [AA,↓reduceIte,jB,f0],by simp -implicitDefEqProofs only [AA,↓reduceIte,jB,f1],by simp -implicitDefEqProofs only [AA,↓reduceIte,jB,f8],by simp -implicitDefEqProofs only [AA,↓reduceIte,jB,f9],by simp -implicitDefEqProofs only [AA,↓reduceIte,jB],by simp -implicitDefEqProofs only [AA,↓reduceIte,jB],by simp -implicitDefEqProofs only [AA,↓reduceIte]; rfl,rfl,rfl⟩ ?_
   clear f0 f1 f8 f9
   rintro n' F H' ⟨k,hk,f0,f1,f8,f9,f5,f12,f13,rfl,hin⟩
   simp -implicitDefEqProofs only [BC,A8,BI,BA,AY,BB,AO,AQ,AL,BD,AX,AC,AA,AZ,BR,AB,CW,↓reduceIte,jA,jC,enP,f12,f13]
   refine CU (fun hc => ?_) (fun hc => ?_)
   ·have hk':k < i:=by simpa using hc
    have hk2:k < xs.length:=by omega
    have hs:=LD (fun u=>xs[i].name.toList == u.toList) (N.take i) k (by rw [zJ]; omega)
    have hx:(N.take i)[k]'(by rw [zJ]; omega)=xs[k].name:=by
     rw [List.getElem_take]; exact G9 (hNi k hk2)
    rw [hx] at hs
    simp -implicitDefEqProofs only [BC,BQ,A8,BO,BA,AY,BB,AO,AQ,AL,BD,AX,AC,AA,AZ,BG,A7,↓reduceIte,jB,jA,jC,f13]
    refine EX (by kernel_rfl) ?_
    simp -implicitDefEqProofs only [F6,EF,DZ,EH,FI,FB,IB,EC,GZ,F7,AO,AA,AZ,BN,BR,BZ,AB,jE,jD,jF,↓reduceIte,jB,jM,jA,enP,RJ,f0,f1,f5,DF hi',DF hk2,FT AD3 XR LW hi',FT AD3 XR LW hk2]
    refine ⟨_,AOR G xs[i] _,?_⟩
    refine ⟨_,AOR G xs[k] _,?_⟩
    try simp -implicitDefEqProofs only [DZ,FC,BI,BA,AA,AZ,AB,J7,↓reduceIte]
    refine CU (fun hb => ?_) (fun hb => ?_)
    ·simp -implicitDefEqProofs only [BC,A8,BK,BA,CQ,EE,MS,FK,AY,BB,AO,AQ,AL,BD,AX,AC,AA,AU,BM,A7,↓reduceIte,jA,jC]
     refine ⟨?_,trivial⟩
     have:IJ (N.take i) xs[i].name=true:=by
      rw [hin]; unfold IJ; rw [hs,hb]; rfl
     rw [hd,hdrop,this]; rfl
    ·simp -implicitDefEqProofs only [A8,BO,BA,EI,EP,AY,BB,AO,AQ,AL,BD,AX,AC,AA,AZ,AU,BH,BG,BR,AB,DK,↓reduceIte,jB,jA,jC,enP,f13,wrap_succ (show k < 9223372036854775807 by omega)]
     refine ⟨n' - 1,by omega,k+1,by omega,f0,f1,f8,f9,f5,f12,rfl,trivial,?_⟩
     rw [hin]; unfold IJ; rw [hs,hb]; rfl
   ·have hk' : ¬ k < i:=by simpa using hc
    simp -implicitDefEqProofs only [DI,ED,KQ,EW,AA,↓reduceIte,jB]
    refine ⟨f0,f1,f8,f9,trivial,?_⟩
    rw [hin,jX (by rw [zJ]; omega)]; rfl
  ·rintro F' H' ⟨g0,g1,g8,g9,rfl,hn⟩
   simp -implicitDefEqProofs only [A8,BA,EI,EU,EP,AY,BB,AO,AQ,AL,BD,AX,AC,AA,AZ,AU,BH,BG,BR,AB,DK,↓reduceIte,jB,jA,jC,enP,g9,wrap_succ (show i < 9223372036854775807 by omega)]
   refine ⟨n - 1,by omega,i+1,by omega,g0,g1,g8,rfl,trivial,?_⟩
   rw [hd,hdrop,hn]; rfl
  ·rintro F' H' ⟨g4,rfl⟩
   simp -implicitDefEqProofs only [CQ,EE,FK,CJ,g4]
   exact ⟨trivial,trivial⟩
 ·have hi' : ¬ i < xs.length:=by simpa using hc
  simp -implicitDefEqProofs only [BC,A8,BK,DI,BA,ED,EU,EW,CJ,AY,BB,AO,AQ,AL,BD,AX,AC,AA,AU,BM,A7,↓reduceIte,jA,jC]
  exact ⟨by rw [hd,jX (by omega)]; rfl,trivial⟩
theorem AOP (G:Nat→AV) (x:Pt) (h:Hp):PCall (En G) 52 [.agg (F8 x)] h (.str x.name):=by
 refine ACalls.pure0 rfl ?_
 refine acN Tryz.func52 rfl ?_
 show awp _ _ _ _ _ (EJ _ [.tmp 2] _)
 simp -implicitDefEqProofs only [BC,A8,BK,BA,CJ,AY,BB,AO,AQ,AL,BD,AX,AC,AA,AZ,AU,IA,A7,FD,BN,BJ,BU,AB,BF,↓reduceIte,jB,jK,jA,jC,enP,XC,bxP,C9 ag9,ADF]
 exact ⟨trivial,_,rfl⟩
theorem AP2 (G:Nat→AV) (xs:List Pt) (m:SM) (h:Hp) (hl:xs.length≤1099511627776) :
  PCall (En G) 51 [.sl m 6 (xs.map F8),.fn (.func 52) [] []] h (.bool (MZ (xs.map (·.name)))):=by
 refine acN Tryz.func51 rfl ?_
 show awp _ _ _ _ _ (EJ _ [.tmp 4] _)
 simp -implicitDefEqProofs only [BC,BQ,A8,BA,AY,BB,AO,AQ,AL,BD,AX,AC,AA,AZ,AU,BH,BM,BG,A7,DU,AB,BF,↓reduceIte,jB,jA,jC,enP,PD,jH]
 generalize hN:xs.map (·.name)=N
 have hNl:N.length=xs.length:=by rw [← hN]; simp
 have hNi : ∀ i (hi:i < xs.length),N[i]? = some xs[i].name:=fun i hi=>by rw [← hN,jY,jO hi]; rfl
 refine DL (fun n F H => ∃ i,n+i=xs.length∧F 0 = .sl m 6 (xs.map F8)∧F 1 = .fn (.func 52) [] []∧F 8 = .int .i64 xs.length∧F 9 = .int .i64 (i:Nat)∧H=h∧MZ N=AA9 (N.take i) (N.drop i)) xs.length ⟨0,by simp,by simp -implicitDefEqProofs only [AA,BF,↓reduceIte,jB],by simp -implicitDefEqProofs only [AA,BF,BP,↓reduceIte,jB],by simp -implicitDefEqProofs only [AA,↓reduceIte,jB],by simp -implicitDefEqProofs only [AA,↓reduceIte]; rfl,rfl,rfl⟩ ?_
 rintro n F H ⟨i,hi,f0,f1,f8,f9,rfl,hd⟩
 simp -implicitDefEqProofs only [BC,A8,BI,BA,AY,BB,AO,AQ,AL,BD,AX,AC,AA,AZ,BR,AB,CW,↓reduceIte,jA,jC,enP,f8,f9]
 refine CU (fun hc => ?_) (fun hc => ?_)
 ·have hi':i < xs.length:=by simpa using hc
  have hdrop:=QC N i (by omega)
  rw [G9 (hNi i hi')] at hdrop
  simp -implicitDefEqProofs only [BC,BQ,A8,BO,BA,AY,BB,AO,AQ,AL,BD,AX,AC,AA,AZ,AU,BH,BG,A7,↓reduceIte,jB,jA,jC,f9]
  refine H7 2 (fun F' H'=>F' 0 = .sl m 6 (xs.map F8)∧F' 1 = .fn (.func 52) [] []∧F' 8 = .int .i64 xs.length∧F' 9 = .int .i64 (i:Nat)∧H'=H∧IJ (N.take i) xs[i].name=false) (fun F' H'=>F' 4 = .bool (MZ N)∧H'=H) ?_ ?_ ?_
  ·refine DL (fun n F' H' => ∃ k,n+k=i∧F' 0 = .sl m 6 (xs.map F8)∧F' 1 = .fn (.func 52) [] []∧F' 8 = .int .i64 xs.length∧F' 9 = .int .i64 (i:Nat)∧F' 5 = .int .i64 (i:Nat)∧F' 12 = .int .i64 (i:Nat)∧F' 13 = .int .i64 (k:Nat)∧H'=H∧IJ (N.take i) xs[i].name=IJ ((N.take i).drop k) xs[i].name) i ⟨0,by simp,by simp -implicitDefEqProofs only [AA,↓reduceIte,jB,f0],by simp -implicitDefEqProofs only [AA,↓reduceIte,jB,f1],by simp -implicitDefEqProofs only [AA,↓reduceIte,jB,f8],by simp -implicitDefEqProofs only [AA,↓reduceIte,jB,f9],by simp -implicitDefEqProofs only [AA,↓reduceIte,jB],by simp -implicitDefEqProofs only [AA,↓reduceIte,jB],by simp -implicitDefEqProofs only [AA,↓reduceIte]; rfl,rfl,rfl⟩ ?_
   clear f0 f1 f8 f9
   rintro n' F H' ⟨k,hk,f0,f1,f8,f9,f5,f12,f13,rfl,hin⟩
   simp -implicitDefEqProofs only [BC,A8,BI,BA,AY,BB,AO,AQ,AL,BD,AX,AC,AA,AZ,BR,AB,CW,↓reduceIte,jA,jC,enP,f12,f13]
   refine CU (fun hc => ?_) (fun hc => ?_)
   ·have hk':k < i:=by simpa using hc
    have hk2:k < xs.length:=by omega
    have hs:=LD (fun u=>xs[i].name.toList == u.toList) (N.take i) k (by rw [zJ]; omega)
    have hx:(N.take i)[k]'(by rw [zJ]; omega)=xs[k].name:=by
     rw [List.getElem_take]; exact G9 (hNi k hk2)
    rw [hx] at hs
    simp -implicitDefEqProofs only [BC,BQ,A8,BO,BA,AY,BB,AO,AQ,AL,BD,AX,AC,AA,AZ,BG,A7,↓reduceIte,jB,jA,jC,f13]
    refine EX (by kernel_rfl) ?_
    simp -implicitDefEqProofs only [F6,EF,DZ,EH,FI,FB,IB,EC,GZ,F7,AO,AA,AZ,BN,BR,BZ,AB,jE,jD,jF,↓reduceIte,jB,jM,jA,enP,OY,f0,f1,f5,DF hi',DF hk2,FT AD4 Y5 JC hi',FT AD4 Y5 JC hk2]
    refine ⟨_,AOP G xs[i] _,?_⟩
    refine ⟨_,AOP G xs[k] _,?_⟩
    try simp -implicitDefEqProofs only [DZ,FC,BI,BA,AA,AZ,AB,J7,↓reduceIte]
    refine CU (fun hb => ?_) (fun hb => ?_)
    ·simp -implicitDefEqProofs only [BC,A8,BK,BA,CQ,EE,MS,FK,AY,BB,AO,AQ,AL,BD,AX,AC,AA,AU,BM,A7,↓reduceIte,jA,jC]
     refine ⟨?_,trivial⟩
     have:IJ (N.take i) xs[i].name=true:=by
      rw [hin]; unfold IJ; rw [hs,hb]; rfl
     rw [hd,hdrop,this]; rfl
    ·simp -implicitDefEqProofs only [A8,BO,BA,EI,EP,AY,BB,AO,AQ,AL,BD,AX,AC,AA,AZ,AU,BH,BG,BR,AB,DK,↓reduceIte,jB,jA,jC,enP,f13,wrap_succ (show k < 9223372036854775807 by omega)]
     refine ⟨n' - 1,by omega,k+1,by omega,f0,f1,f8,f9,f5,f12,rfl,trivial,?_⟩
     rw [hin]; unfold IJ; rw [hs,hb]; rfl
   ·have hk' : ¬ k < i:=by simpa using hc
    simp -implicitDefEqProofs only [DI,ED,KQ,EW,AA,↓reduceIte,jB]
    refine ⟨f0,f1,f8,f9,trivial,?_⟩
    rw [hin,jX (by rw [zJ]; omega)]; rfl
  ·rintro F' H' ⟨g0,g1,g8,g9,rfl,hn⟩
   simp -implicitDefEqProofs only [A8,BA,EI,EU,EP,AY,BB,AO,AQ,AL,BD,AX,AC,AA,AZ,AU,BH,BG,BR,AB,DK,↓reduceIte,jB,jA,jC,enP,g9,wrap_succ (show i < 9223372036854775807 by omega)]
   refine ⟨n - 1,by omega,i+1,by omega,g0,g1,g8,rfl,trivial,?_⟩
   rw [hd,hdrop,hn]; rfl
  ·rintro F' H' ⟨g4,rfl⟩
   simp -implicitDefEqProofs only [CQ,EE,FK,CJ,g4]
   exact ⟨trivial,trivial⟩
 ·have hi' : ¬ i < xs.length:=by simpa using hc
  simp -implicitDefEqProofs only [BC,A8,BK,DI,BA,ED,EU,EW,CJ,AY,BB,AO,AQ,AL,BD,AX,AC,AA,AU,BM,A7,↓reduceIte,jA,jC]
  exact ⟨by rw [hd,jX (by omega)]; rfl,trivial⟩
theorem AOQ (G:Nat→AV) (x:Cr) (h:Hp):PCall (En G) 55 [.agg (G6 x)] h (.str x.name):=by
 refine ACalls.pure0 rfl ?_
 refine acN Tryz.func55 rfl ?_
 show awp _ _ _ _ _ (EJ _ [.tmp 2] _)
 simp -implicitDefEqProofs only [BC,A8,BK,BA,CJ,AY,BB,AO,AQ,AL,BD,AX,AC,AA,AZ,AU,IA,A7,FD,BN,BJ,BU,AB,BF,↓reduceIte,jB,jK,jA,jC,enP,XB,bxC,C9 ag9,ADH]
 exact ⟨trivial,_,rfl⟩
theorem AP3 (G:Nat→AV) (xs:List Cr) (m:SM) (h:Hp) (hl:xs.length≤1099511627776) :
  PCall (En G) 54 [.sl m 3 (xs.map G6),.fn (.func 55) [] []] h (.bool (MZ (xs.map (·.name)))):=by
 refine acN Tryz.func54 rfl ?_
 show awp _ _ _ _ _ (EJ _ [.tmp 4] _)
 simp -implicitDefEqProofs only [BC,BQ,A8,BA,AY,BB,AO,AQ,AL,BD,AX,AC,AA,AZ,AU,BH,BM,BG,A7,DU,AB,BF,↓reduceIte,jB,jA,jC,enP,VW,jH]
 generalize hN:xs.map (·.name)=N
 have hNl:N.length=xs.length:=by rw [← hN]; simp
 have hNi : ∀ i (hi:i < xs.length),N[i]? = some xs[i].name:=fun i hi=>by rw [← hN,jY,jO hi]; rfl
 refine DL (fun n F H => ∃ i,n+i=xs.length∧F 0 = .sl m 3 (xs.map G6)∧F 1 = .fn (.func 55) [] []∧F 8 = .int .i64 xs.length∧F 9 = .int .i64 (i:Nat)∧H=h∧MZ N=AA9 (N.take i) (N.drop i)) xs.length ⟨0,by simp,by simp -implicitDefEqProofs only [AA,BF,↓reduceIte,jB],by simp -implicitDefEqProofs only [AA,BF,BP,↓reduceIte,jB],by simp -implicitDefEqProofs only [AA,↓reduceIte,jB],by simp -implicitDefEqProofs only [AA,↓reduceIte]; rfl,rfl,rfl⟩ ?_
 rintro n F H ⟨i,hi,f0,f1,f8,f9,rfl,hd⟩
 simp -implicitDefEqProofs only [BC,A8,BI,BA,AY,BB,AO,AQ,AL,BD,AX,AC,AA,AZ,BR,AB,CW,↓reduceIte,jA,jC,enP,f8,f9]
 refine CU (fun hc => ?_) (fun hc => ?_)
 ·have hi':i < xs.length:=by simpa using hc
  have hdrop:=QC N i (by omega)
  rw [G9 (hNi i hi')] at hdrop
  simp -implicitDefEqProofs only [BC,BQ,A8,BO,BA,AY,BB,AO,AQ,AL,BD,AX,AC,AA,AZ,AU,BH,BG,A7,↓reduceIte,jB,jA,jC,f9]
  refine H7 2 (fun F' H'=>F' 0 = .sl m 3 (xs.map G6)∧F' 1 = .fn (.func 55) [] []∧F' 8 = .int .i64 xs.length∧F' 9 = .int .i64 (i:Nat)∧H'=H∧IJ (N.take i) xs[i].name=false) (fun F' H'=>F' 4 = .bool (MZ N)∧H'=H) ?_ ?_ ?_
  ·refine DL (fun n F' H' => ∃ k,n+k=i∧F' 0 = .sl m 3 (xs.map G6)∧F' 1 = .fn (.func 55) [] []∧F' 8 = .int .i64 xs.length∧F' 9 = .int .i64 (i:Nat)∧F' 5 = .int .i64 (i:Nat)∧F' 12 = .int .i64 (i:Nat)∧F' 13 = .int .i64 (k:Nat)∧H'=H∧IJ (N.take i) xs[i].name=IJ ((N.take i).drop k) xs[i].name) i ⟨0,by simp,by simp -implicitDefEqProofs only [AA,↓reduceIte,jB,f0],by simp -implicitDefEqProofs only [AA,↓reduceIte,jB,f1],by simp -implicitDefEqProofs only [AA,↓reduceIte,jB,f8],by simp -implicitDefEqProofs only [AA,↓reduceIte,jB,f9],by simp -implicitDefEqProofs only [AA,↓reduceIte,jB],by simp -implicitDefEqProofs only [AA,↓reduceIte,jB],by simp -implicitDefEqProofs only [AA,↓reduceIte]; rfl,rfl,rfl⟩ ?_
   clear f0 f1 f8 f9
   rintro n' F H' ⟨k,hk,f0,f1,f8,f9,f5,f12,f13,rfl,hin⟩
   simp -implicitDefEqProofs only [BC,A8,BI,BA,AY,BB,AO,AQ,AL,BD,AX,AC,AA,AZ,BR,AB,CW,↓reduceIte,jA,jC,enP,f12,f13]
   refine CU (fun hc => ?_) (fun hc => ?_)
   ·have hk':k < i:=by simpa using hc
    have hk2:k < xs.length:=by omega
    have hs:=LD (fun u=>xs[i].name.toList == u.toList) (N.take i) k (by rw [zJ]; omega)
    have hx:(N.take i)[k]'(by rw [zJ]; omega)=xs[k].name:=by
     rw [List.getElem_take]; exact G9 (hNi k hk2)
    rw [hx] at hs
    simp -implicitDefEqProofs only [BC,BQ,A8,BO,BA,AY,BB,AO,AQ,AL,BD,AX,AC,AA,AZ,BG,A7,↓reduceIte,jB,jA,jC,f13]
    refine EX (by kernel_rfl) ?_
    simp -implicitDefEqProofs only [F6,EF,DZ,EH,FI,FB,IB,EC,GZ,F7,AO,AA,AZ,BN,BR,BZ,AB,jE,jD,jF,↓reduceIte,jB,jM,jA,enP,PE,f0,f1,f5,DF hi',DF hk2,FT AHM ABU KZ hi',FT AHM ABU KZ hk2]
    refine ⟨_,AOQ G xs[i] _,?_⟩
    refine ⟨_,AOQ G xs[k] _,?_⟩
    try simp -implicitDefEqProofs only [DZ,FC,BI,BA,AA,AZ,AB,J7,↓reduceIte]
    refine CU (fun hb => ?_) (fun hb => ?_)
    ·simp -implicitDefEqProofs only [BC,A8,BK,BA,CQ,EE,MS,FK,AY,BB,AO,AQ,AL,BD,AX,AC,AA,AU,BM,A7,↓reduceIte,jA,jC]
     refine ⟨?_,trivial⟩
     have:IJ (N.take i) xs[i].name=true:=by
      rw [hin]; unfold IJ; rw [hs,hb]; rfl
     rw [hd,hdrop,this]; rfl
    ·simp -implicitDefEqProofs only [A8,BO,BA,EI,EP,AY,BB,AO,AQ,AL,BD,AX,AC,AA,AZ,AU,BH,BG,BR,AB,DK,↓reduceIte,jB,jA,jC,enP,f13,wrap_succ (show k < 9223372036854775807 by omega)]
     refine ⟨n' - 1,by omega,k+1,by omega,f0,f1,f8,f9,f5,f12,rfl,trivial,?_⟩
     rw [hin]; unfold IJ; rw [hs,hb]; rfl
   ·have hk' : ¬ k < i:=by simpa using hc
    simp -implicitDefEqProofs only [DI,ED,KQ,EW,AA,↓reduceIte,jB]
    refine ⟨f0,f1,f8,f9,trivial,?_⟩
    rw [hin,jX (by rw [zJ]; omega)]; rfl
  ·rintro F' H' ⟨g0,g1,g8,g9,rfl,hn⟩
   simp -implicitDefEqProofs only [A8,BA,EI,EU,EP,AY,BB,AO,AQ,AL,BD,AX,AC,AA,AZ,AU,BH,BG,BR,AB,DK,↓reduceIte,jB,jA,jC,enP,g9,wrap_succ (show i < 9223372036854775807 by omega)]
   refine ⟨n - 1,by omega,i+1,by omega,g0,g1,g8,rfl,trivial,?_⟩
   rw [hd,hdrop,hn]; rfl
  ·rintro F' H' ⟨g4,rfl⟩
   simp -implicitDefEqProofs only [CQ,EE,FK,CJ,g4]
   exact ⟨trivial,trivial⟩
 ·have hi' : ¬ i < xs.length:=by simpa using hc
  simp -implicitDefEqProofs only [BC,A8,BK,DI,BA,ED,EU,EW,CJ,AY,BB,AO,AQ,AL,BD,AX,AC,AA,AU,BM,A7,↓reduceIte,jA,jC]
  exact ⟨by rw [hd,jX (by omega)]; rfl,trivial⟩
def JZ {α:Type} (f:α→Int):List α→Int
 | []=>0
 | x :: xs=>if f x=0 then JZ f xs else f x
theorem O1 {α:Type} (f:α→Int) (xs:List α) (k:Nat) (hk:k < xs.length):JZ f (xs.drop k)=if f xs[k]=0 then JZ f (xs.drop (k+1)) else f xs[k]:=by
 rw [zH hk]; rfl
def GL (p:Pt):Int :=
 if GM p.name=false then 7 else if exE p.ex≠0 then exE p.ex else if p.bins.length=0 then 1 else if 64 < p.bins.length then 2 else
  if JZ H6 p.bins≠0 then JZ H6 p.bins else if MZ (p.bins.map (·.name)) then 8 else 0
structure PtOk (p:Pt):Prop where
 ex:wt p.ex≤1048576
 name:p.name.size≤1048576
 num:p.bins.length≤1048576
 bins : ∀ b∈p.bins,BinOk b
theorem AVO (h:Hp):J8 Tryz.prog h 56=some (.ptr h.length 0 0,h ++ [.live 4 [[.str ⟨#[]⟩,.int .i64 0,.sl .nil 0 [],.sl .nil 0 []]]]):=JW (row := [.str ⟨#[]⟩,.int .i64 0,.sl .nil 0 [],.sl .nil 0 []]) (by kernel_rfl)
theorem AWK (h:Hp) (b:Bin) (row:List AV) (hr:row.length=4):FM Tryz.prog (h ++ [.live 4 [row]]) 56 (.ptr h.length 0 0) (.agg (GN b))=some (h ++ [.live 4 [GN b]]):=by
 rw [NI (PM rfl) (by rw [LW]; exact XR) (by rw [LW,hr]; exact jL _)]
 have:splice row 0 (GN b)=GN b:=by unfold splice; simp [LW,hr]
 rw [this]
theorem AB8 (G:Nat→AV) (hG:GOk G) (p:Pt) (hp:PtOk p) (h:Hp):PCall (En G) 50 [.agg (F8 p)] h (.int .i64 (GL p)):=by
 refine ACalls.pure0 rfl ?_
 have hp1:=hp.ex
 have hp2:=hp.name
 have hp3:=hp.num
 refine acN Tryz.func50 rfl ?_
 show awp _ _ _ _ _ (EJ _ [.tmp 2] _)
 simp -implicitDefEqProofs only [BC,A8,BA,AY,BB,AO,AQ,AL,BD,AX,AC,AA,AZ,AU,CB,BH,A7,FD,BN,BJ,CG,BX,BU,AB,BF,jE,jD,jF,↓reduceIte,jB,jK,jA,jC,enP,XC,bxP,C9 ag9,ADF]
 refine (NK G hG.kw p.name _ (by omega)).use ?_
 simp -implicitDefEqProofs only [BI,BA,AY,BB,AO,AQ,AL,BD,AX,AC,AA,AZ,G7,AB,ES,↓reduceIte,jA,jC]
 cases h1:GM p.name
 ·simp -implicitDefEqProofs only [BC,A8,BK,BA,CQ,CJ,DT,AY,BB,AO,AQ,AL,BD,AX,AC,AA,AU,BH,A7,↓reduceIte,jA,jC]
  exact ⟨by unfold GL; rw [if_pos h1],_,rfl⟩
 have h1' : ¬ GM p.name=false:=by rw [h1]; decide
 simp -implicitDefEqProofs only [BC,A8,BO,BA,D5,AY,AO,AQ,AL,BD,AX,AC,AA,AZ,CB,BN,BJ,CG,BX,AB,jE,jD,jF,↓reduceIte,jB,jG,jA,jU,jC,enP,ZQ,AME (CY h _)]
 refine (YN G hG p.ex _ hp1).use ?_
 simp -implicitDefEqProofs only [BC,A8,BI,BA,AY,BB,AO,AQ,AL,BD,AX,AC,AA,AZ,AU,BH,BG,A7,BR,AB,ET,↓reduceIte,jA,jC,enP]
 refine CU (fun h2 => ?_) (fun h2 => ?_)
 ·simp -implicitDefEqProofs only [BC,A8,BK,BA,CQ,CJ,AY,BB,AO,AQ,AL,BD,AX,AC,AA,AZ,BG,A7,↓reduceIte,jB,jA,jC]
  exact ⟨by unfold GL; rw [if_neg h1',if_pos (by simpa using h2)],_,rfl⟩
 have h2' : ¬ exE p.ex≠0:=by simpa using h2
 simp -implicitDefEqProofs only [BC,BQ,A8,BO,BI,BA,AY,BB,AO,AQ,AL,BD,AX,AC,AA,AZ,AU,BH,A7,BN,BR,BJ,DU,AB,EG,↓reduceIte,jB,jG,jA,jC,enP,PU,IQ,C9 TA,NQ,jH]
 refine CU (fun h3 => ?_) (fun h3 => ?_)
 ·simp -implicitDefEqProofs only [BC,A8,BK,BA,CQ,EE,CJ,AY,BB,AO,AQ,AL,BD,AX,AC,AA,AU,BH,A7,↓reduceIte,jA,jC]
  exact ⟨by unfold GL; rw [if_neg h1',if_neg h2',if_pos (by simp at h3; simpa using h3)],_,rfl⟩
 have h3' : ¬ p.bins.length=0:=by simp at h3; simpa using h3
 simp -implicitDefEqProofs only [BC,A8,BI,BA,AY,BB,AO,AQ,AL,BD,AX,AC,AA,AZ,AU,BH,A7,BN,BR,BJ,DU,AB,EY,↓reduceIte,jB,jG,jA,jC,enP,PU,IQ,C9 TA,NQ,jH]
 refine CU (fun h4 => ?_) (fun h4 => ?_)
 ·simp -implicitDefEqProofs only [BC,A8,BK,BA,CQ,EE,CJ,AY,BB,AO,AQ,AL,BD,AX,AC,AA,AU,BH,A7,↓reduceIte,jA,jC]
  exact ⟨by unfold GL; rw [if_neg h1',if_neg h2',if_neg h3',if_pos (by simp at h4; omega)],_,rfl⟩
 have h4' : ¬ 64 < p.bins.length:=by simp at h4; omega
 have hpt:GL p=if JZ H6 p.bins≠0 then JZ H6 p.bins else if MZ (p.bins.map (·.name)) then 8 else 0:=by
  unfold GL; rw [if_neg h1',if_neg h2',if_neg h3',if_neg h4']
 simp -implicitDefEqProofs only [BC,BQ,A8,BO,BA,EI,AY,BB,AO,AQ,AL,BD,AX,AC,AA,AZ,AU,BH,BG,BN,BJ,DU,AB,↓reduceIte,jB,jG,jA,jC,enP,PU,IQ,C9 TA,NQ,jH]
 refine H7 1 (fun F H=>F 1 = .ptr h.length 0 0∧H[h.length]? = some (.live 6 [F8 p])∧(∃ x,H=h ++ x)∧JZ H6 p.bins=0) (fun F H=>F 2 = .int .i64 (GL p)∧∃ x,H=h ++ x) ?_ ?_ ?_
 ·refine DL (fun n F H => ∃ k,n+k=p.bins.length∧F 1 = .ptr h.length 0 0∧F 28 = .sl p.bm 4 (p.bins.map GN)∧F 29 = .int .i64 p.bins.length∧F 30 = .int .i64 (k:Nat)∧H[h.length]? = some (.live 6 [F8 p])∧(∃ x,H=h ++ x)∧JZ H6 p.bins=JZ H6 (p.bins.drop k)) p.bins.length ⟨0,by simp,by simp -implicitDefEqProofs only [AA,↓reduceIte,jB],by simp -implicitDefEqProofs only [AA,↓reduceIte,jB],by simp -implicitDefEqProofs only [AA,↓reduceIte,jB],by simp -implicitDefEqProofs only [AA,↓reduceIte]; rfl,CY _ _,⟨_,rfl⟩,rfl⟩ ?_
  rintro n F H ⟨k,hk,f1,f28,f29,f30,hb,⟨x,hx⟩,hf⟩
  simp -implicitDefEqProofs only [BC,A8,BI,BA,AY,BB,AO,AQ,AL,BD,AX,AC,AA,AZ,BR,AB,CW,↓reduceIte,jA,jC,enP,f29,f30]
  refine CU (fun hc => ?_) (fun hc => ?_)
  ·have hk':k < p.bins.length:=by simpa using hc
   have hs:=O1 H6 p.bins k hk'
   simp -implicitDefEqProofs only [BC,BQ,A8,BO,BA,AY,BB,AO,AQ,AL,BD,AX,AC,E8,AA,AZ,CB,FV,BN,EN,BZ,CG,BX,BU,AB,DW,jE,jD,jF,↓reduceIte,jB,jA,jC,enP,RJ,jT,f28,f30,DF hk',FT AD3 XR LW hk',AVO,AWK _ _ [.str ⟨#[]⟩,.int .i64 0,.sl .nil 0 [],.sl .nil 0 []] rfl,ldB]
   refine (valid_prog G hG.kw p.bins[k] (hp.bins _ (jP hk')) _).use ?_
   simp -implicitDefEqProofs only [BC,A8,BI,BA,AY,BB,AO,AQ,AL,BD,AX,AC,AA,AZ,AU,BH,BG,A7,BR,AB,ET,↓reduceIte,jA,jC,enP]
   refine CU (fun hv => ?_) (fun hv => ?_)
   ·simp -implicitDefEqProofs only [BC,A8,BK,BA,CQ,EE,MS,FK,AY,BB,AO,AQ,AL,BD,AX,AC,AA,AZ,BG,A7,↓reduceIte,jB,jA,jC]
    have hv':H6 p.bins[k]≠0:=by simpa using hv
    have:JZ H6 p.bins=H6 p.bins[k]:=by rw [hf,hs,if_neg hv']
    exact ⟨by rw [hpt,this,if_pos hv'],x ++ _,by rw [hx,zF]⟩
   ·have hv':H6 p.bins[k]=0:=by simpa using hv
    simp -implicitDefEqProofs only [A8,BO,BA,EI,EP,AY,BB,AO,AQ,AL,BD,AX,AC,AA,AZ,AU,BH,BG,BR,AB,DK,↓reduceIte,jB,jA,jC,enP,f30,wrap_succ (show k < 9223372036854775807 by omega)]
    exact ⟨n - 1,by omega,k+1,by omega,f1,f28,f29,rfl,CV hb,⟨x ++ _,by rw [hx,zF]⟩,by rw [hf,hs,if_pos hv']⟩
  ·have hk' : ¬ k < p.bins.length:=by simpa using hc
   simp -implicitDefEqProofs only [DI,ED,KQ,EW,AA,↓reduceIte,jB]
   exact ⟨f1,hb,⟨x,hx⟩,by rw [hf,jX (by omega)]; rfl⟩
 ·rintro F H ⟨f1,hb,⟨x,hx⟩,hf⟩
  have l5:D6 Tryz.prog H 49 (.ptr h.length 0 5)=some (.sl p.bm 4 (p.bins.map GN)):=by rw [DV TA hb (row:=F8 p) rfl,NQ]
  simp -implicitDefEqProofs only [BC,A8,BA,EU,AY,AO,AQ,AL,BD,AX,AC,AA,AZ,CB,BN,BJ,CG,BX,AB,jE,jD,jF,↓reduceIte,jG,jA,jC,enP,IQ,f1,l5]
  refine (AP4 G p.bins p.bm H (by omega)).use ?_
  simp -implicitDefEqProofs only [BI,BA,BB,AC,AA,AZ,↓reduceIte]
  cases hd:MZ (p.bins.map (·.name))
  ·simp -implicitDefEqProofs only [BC,A8,BO,BK,BA,CJ,D5,AY,BB,AO,AQ,AL,BD,AX,AC,AA,AU,BH,A7,↓reduceIte,jA,jC]
   exact ⟨by rw [hpt,hf,hd]; rfl,x,hx⟩
  ·simp -implicitDefEqProofs only [BC,A8,BK,BA,CQ,CJ,DT,AY,BB,AO,AQ,AL,BD,AX,AC,AA,AU,BH,A7,↓reduceIte,jA,jC]
   exact ⟨by rw [hpt,hf,hd]; rfl,x,hx⟩
 ·rintro F H ⟨f2,hx⟩
  simp -implicitDefEqProofs only [CQ,EE,CJ,f2]
  exact ⟨trivial,hx⟩
end Go.Proofs.YtfpagfhhhlljjaaGreatDoor.Cov
