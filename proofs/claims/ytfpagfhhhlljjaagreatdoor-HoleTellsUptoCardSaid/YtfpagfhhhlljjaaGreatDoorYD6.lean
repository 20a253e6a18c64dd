/- Part 6 of the proof (E4, E5, E6, E7, E8, E9, E10, M1, M2); no condition. -/
import Derived.Test.YtfpagfhhhlljjaaGreatDoorYD5
set_option linter.unusedVariables false
set_option linter.unusedSimpArgs false
set_option maxRecDepth 8000
namespace Go.Proofs.YtfpagfhhhlljjaaGreatDoor.Cov
open Sm Bins Go.RowKit
open Bool renaming not_false→jC,not_true→jU,not_eq_true→yC,eq_iff_iff→qU,or_false→jQ
open List renaming length_take→zJ,getElem?_eq_getElem→jS,map_cons→jD,map_nil→jE,append_nil→jF,getElem?_cons_zero→zB,getElem?_cons_succ→zD,length_map→jH,getElem?_append_left→zO,getElem?_set→zG,getElem?_eq_none→qP,cons_append→qO,take_succ_eq_append_getElem→zN,mem_append→qI,mem_cons→qJ,nil_append→qE,getElem_mem→jP,mem_cons_of_mem→wO,append_assoc→zH,take_of_length_le→jW,length_cons→zX,foldl_cons→wH,getElem?_map→jY,drop_eq_nil_of_le→jV,length_append→qA,contains_cons→jR,contains_nil→jJ,drop_eq_getElem_cons→zK
open Nat renaming le_refl→jL,le_of_ble_eq_true→jI,reduceEqDiff→jB,reduceAdd→jM,lt_or_ge→zM,add_zero→jK,zero_add→jG,le_trans→qG,reduceBEq→jO
open Option renaming getD_some→jA,getD_none→jT
theorem A1F (l:List UInt8):(Lib.cut l [91]).1.length≤l.length:=by
 unfold Lib.cut
 split
 ·simp only[zJ]; exact Nat.min_le_right _ _
 ·exact jL _
theorem ixl {l:List UInt8}{k:Nat}{b:UInt8}{i:Int}(hi:i=(k:Int))(hb:l[k]? = some b):OT Tryz.prog 9 (.str ⟨l.toArray⟩) (.int .i64 i)=some (.int .u8 b.toNat):=by
 subst hi
 have hk:k < l.length:=(List.getElem?_eq_some_iff.1 hb).1
 have:=ix9 ⟨l.toArray⟩ k .i64 hk
 rw[this]
 have h2:(⟨l.toArray⟩:ByteArray)[k]'hk=l[k]:=rfl
 rw[h2]
 rw[jS hk] at hb
 rw[Option.some.inj hb]
theorem szl (l:List UInt8):(⟨l.toArray⟩:ByteArray).size=l.length:=rfl
theorem wrap_u8 {n:Int}(h0:0≤n)(h1:n < 256):IntKind.u8.wrap n=n:=by
 unfold IntKind.wrap; simp [IntKind.bits,IntKind.signed]; omega
theorem AJW (G:Nat→AV)(hG:GOk G)(s:ByteArray)(h:Hp)(hl:s.size≤1048576):PCall (En G) 150 [.str s] h (elemV (QK s)):=by
 refine acN Tryz.func150 rfl ?_
 show awp _ _ _ _ _ (EM _ [.tmp 2,.tmp 3,.tmp 4] _)
 simp -implicitDefEqProofs only[vQ,BD,↓reduceIte,jB,enP]
 refine(AX4 G hG s h hl).use ?_
 have he:=AXX s
 have hal:=A1F s.data.toList
 unfold cutV
 generalize Lib.cut s.data.toList [91]=c at he hal ⊢
 obtain⟨a,b,f⟩:=c
 have hal2:a.length≤s.size:=by simpa using hal
 simp -implicitDefEqProofs only[vQ,zB,zD,CP,BD,↓reduceIte,jB]
 cases f
 ·simp -implicitDefEqProofs only[vQ,PI,CP,BD,EW,↓reduceIte,jB]
  exact⟨by rw[he]; rfl,trivial⟩
 simp -implicitDefEqProofs only[vQ,CP,BD,↓reduceIte,jB,jU]
 refine(O1 G hG.kw ⟨a.toArray⟩ h (by rw[szl]; omega)).use ?_
 simp -implicitDefEqProofs only[vQ,CP,BD,↓reduceIte,jB]
 cases hn:IM ⟨a.toArray⟩
 ·simp -implicitDefEqProofs only[vQ,PI,CP,BD,EW,↓reduceIte,jB]
  exact⟨by rw[he]; simp [hn]; rfl,trivial⟩
 simp -implicitDefEqProofs only[vQ,CP,BD,↓reduceIte,jB,jU,enP,ln9,szl]
 refine I4 (fun hb => ?_) (fun hb => ?_)
 ·simp -implicitDefEqProofs only[vQ,PI,CP,BD,EW,↓reduceIte,jB,hb]
  have hne : ∀ d y,b≠[d,y]:=by
   intro d y e; subst e; simp at hb
  have:QK s=none:=by
   rw[he]; split
   ·split
    ·rename_i hm; exact absurd hm (hne _ _)
    ·rfl
   ·rfl
  exact⟨by rw[this]; rfl,trivial⟩
 have h2:b.length=2:=by simp at hb; omega
 match b,h2 with
 | [d,y],_ =>
   have i1:OT Tryz.prog 9 (.str ⟨[d,y].toArray⟩) (.int .i64 1)=some (.int .u8 y.toNat):=ixl (k:=1) rfl rfl
   have i0:OT Tryz.prog 9 (.str ⟨[d,y].toArray⟩) (.int .i64 0)=some (.int .u8 d.toNat):=ixl (k:=0) rfl rfl
   have he2:QK s=if(y == 93 && decide (48≤d.toNat) && decide (d.toNat < 56))=true then some (a,d) else none:=by
    rw[he]; simp [hn]
   clear he
   simp -implicitDefEqProofs only[vQ,CP,BD,O8,↓reduceIte,jB,enP,hb,i1,i0]
   refine I4 (fun hc => ?_) (fun hc => ?_)
   ·simp -implicitDefEqProofs only[vQ,PI,CP,BD,EW,↓reduceIte,jB,hc]
    have hy:(y == 93)=false:=by
     rw[← yC]; intro e; rw[beq_iff_eq] at e; subst e; simp at hc
    exact⟨by rw[he2,hy]; rfl,trivial⟩
   have hy:(y == 93)=true:=by
    rw[beq_iff_eq,← UInt8.toNat_inj]
    simp at hc; show y.toNat=93; omega
   simp -implicitDefEqProofs only[vQ,CP,BD,O8,↓reduceIte,jB,enP,hc,i0]
   refine I4 (fun hd => ?_) (fun hd => ?_)
   ·simp -implicitDefEqProofs only[vQ,PI,CP,BD,EW,↓reduceIte,jB,hd]
    have:decide (48≤d.toNat)=false:=by simp at hd ⊢; omega
    exact⟨by rw[he2,this]; simp; rfl,trivial⟩
   have hd1:48≤d.toNat:=by simp at hd; omega
   simp -implicitDefEqProofs only[vQ,CP,BD,O8,↓reduceIte,jB,enP,hd,i0]
   refine CU (fun hf => ?_) (fun hf => ?_)
   ·simp -implicitDefEqProofs only[vQ,PI,BD,↓reduceIte,jB]
    have:decide (d.toNat < 56)=false:=by simp at hf ⊢; omega
    exact⟨by rw[he2,this]; simp; rfl,trivial⟩
   have hd2:d.toNat < 56:=by simp at hf; omega
   simp -implicitDefEqProofs only[vQ]
   refine EY (by kernel_rfl) ?_
   simp -implicitDefEqProofs only[vQ,AVB,AIN,PI,AA8,O8,↓reduceIte,jB,jM,enP,AX3,i0,wrap_u8 (n:=(d.toNat:Int) - 48) (by omega) (by omega),wrap_i64 (n:=(d.toNat:Int) - 48) (by omega) (by omega)]
   exact⟨by rw[he2]; simp [hy,hd1,hd2]; rfl,trivial⟩
theorem A3S {s:ByteArray}{u:Nat}{h:Hp}(hu:u≤s.size):KL Tryz.prog h 9 (.str s) none (some (.int .i64 (u:Int))) none=some (.str (s.extract 0 u)):=by
 have:Tryz.prog.underlying 9=some .string:=by kernel_rfl
 simp [KL,this,JM,hu]
theorem A04 (a b:List UInt8):(⟨(a++b).toArray⟩:ByteArray).extract 0 a.length=⟨a.toArray⟩:=by
 ext1
 simp
set_option maxHeartbeats 1000000 in
theorem ASU (G:Nat→AV)(s:ByteArray)(h:Hp)(hl:s.size≤1099511627776):PCall (En G) 215 [.str s] h (elemV (QK s)):=by
 refine acN Tryz.func215 rfl ?_
 show awp _ _ _ _ _ (EM _ [.tmp 2,.tmp 3,.tmp 4] _)
 obtain⟨⟨l⟩⟩:=s
 rw[szl] at hl
 rcases zM l.length 4 with h4 | h4
 ·have hd:decide ((l.length:Int) < 4)=true:=by simp; omega
  simp -implicitDefEqProofs only[vQ,PI,CP,BD,EW,↓reduceIte,jB,enP,ln9,szl,hd]
  have:QK ⟨l.toArray⟩=none:=by
   unfold QK; rw[if_neg]; simp; omega
  exact⟨by rw[this]; rfl,trivial⟩
 obtain⟨b,x,d,y,rfl⟩:=three (show 3≤l.length by omega)
 have hlen:(b++[x,d,y]).length=b.length+3:=by simp
 rw[hlen] at hl h4
 have hbl:0 < b.length:=by omega
 have hb:b≠[]:=List.length_pos_iff.1 hbl
 have he:=AFN (x:=x) (d:=d) (y:=y) hb
 generalize hn:IM ⟨b.toArray⟩=nm at he
 have i1:OT Tryz.prog 9 (.str ⟨(b++[x,d,y]).toArray⟩) (.int .i64 ((b.length:Int)+2))=some (.int .u8 y.toNat):=ixl (k:=b.length+2) (by omega) (by simp)
 have i2:OT Tryz.prog 9 (.str ⟨(b++[x,d,y]).toArray⟩) (.int .i64 ((b.length:Int)+1))=some (.int .u8 d.toNat):=ixl (k:=b.length+1) (by omega) (by simp)
 have i3:OT Tryz.prog 9 (.str ⟨(b++[x,d,y]).toArray⟩) (.int .i64 (b.length:Int))=some (.int .u8 x.toNat):=ixl (k:=b.length) rfl (by simp)
 have i4:=A3S (s:=⟨(b++[x,d,y]).toArray⟩) (u:=b.length) (h:=h) (by rw[szl]; omega)
 rw[A04] at i4
 have hsz:(⟨(b++[x,d,y]).toArray⟩:ByteArray).size=b.length+3:=by rw[szl,hlen]
 generalize (⟨(b++[x,d,y]).toArray⟩:ByteArray)=s at *
 have w1:IntKind.i64.wrap (((b.length+3:Nat):Int) - 1)=(b.length:Int)+2:=by rw[wrap_i64 (by omega) (by omega)]; omega
 have w2:IntKind.i64.wrap (((b.length+3:Nat):Int) - 2)=(b.length:Int)+1:=by rw[wrap_i64 (by omega) (by omega)]; omega
 have w3:IntKind.i64.wrap (((b.length+3:Nat):Int) - 3)=(b.length:Int):=by rw[wrap_i64 (by omega) (by omega)]; omega
 have hd8:d.toNat < 256:=d.toNat_lt
 have w4:IntKind.i64.wrap (d.toNat:Int)=(d.toNat:Int):=wrap_i64 (by omega) (by omega)
 have w5:IntKind.i64.wrap ((d.toNat:Int) - 48)=(d.toNat:Int) - 48:=wrap_i64 (by omega) (by omega)
 have ha:decide (((b.length+3:Nat):Int) < 4)=false:=by simp; omega
 simp -implicitDefEqProofs only[vQ,CP,BD,O8,↓reduceIte,jB,enP,ln9,hsz,ha,w1,w2,w3,i1,i2,i3,i4]
 refine I4 (fun hc => ?_) (fun hc => ?_)
 ·simp -implicitDefEqProofs only[vQ,PI,CP,BD,EW,↓reduceIte,jB,hc]
  have hy:(y == 93)=false:=by
   rw[← yC]; intro e; rw[beq_iff_eq] at e; subst e; simp at hc
  exact⟨by rw[he,hy]; simp; rfl,trivial⟩
 have hy:(y == 93)=true:=by
  rw[beq_iff_eq,← UInt8.toNat_inj]
  simp at hc; show y.toNat=93; omega
 simp -implicitDefEqProofs only[vQ,CP,BD,O8,↓reduceIte,jB,enP,ln9,hsz,hc,w1,w2,w3,i1,i2,i3,i4]
 refine CU (fun hd => ?_) (fun hd => ?_)
 ·simp -implicitDefEqProofs only[vQ,PI,BD,↓reduceIte,jB]
  have hx:(x == 91)=false:=by
   rw[← yC]; intro e; rw[beq_iff_eq] at e; subst e; simp at hd
  exact⟨by rw[he,hx]; simp; rfl,trivial⟩
 have hx:(x == 91)=true:=by
  rw[beq_iff_eq,← UInt8.toNat_inj]
  simp at hd; show x.toNat=91; omega
 simp -implicitDefEqProofs only[vQ,Option.map_some,Option.map_none,CP,BD,AA8,TE,O8,↓reduceIte,jB,enP,ln9,AX3,hsz,w1,w2,w3,i1,i2,i3,i4,w4,w5]
 refine I4 (fun hf => ?_) (fun hf => ?_)
 ·simp -implicitDefEqProofs only[vQ,PI,CP,BD,EW,↓reduceIte,jB,hf]
  have:decide (48≤d.toNat)=false:=by simp at hf ⊢; omega
  exact⟨by rw[he,this]; simp; rfl,trivial⟩
 have hd1:48≤d.toNat:=by simp at hf; omega
 simp -implicitDefEqProofs only[vQ,CP,BD,↓reduceIte,jB,enP,hf]
 refine I4 (fun hf => ?_) (fun hf => ?_)
 ·simp -implicitDefEqProofs only[vQ,PI,CP,BD,EW,↓reduceIte,jB,hf]
  have:decide (d.toNat < 56)=false:=by simp at hf ⊢; omega
  exact⟨by rw[he,this]; simp; rfl,trivial⟩
 have hd2:d.toNat < 56:=by simp at hf; omega
 simp -implicitDefEqProofs only[vQ,CP,BD,↓reduceIte,jB,hf]
 refine(P6 G ⟨b.toArray⟩ h).use ?_
 simp -implicitDefEqProofs only[vQ,CP,BD,↓reduceIte,jB,hn]
 cases nm
 ·simp -implicitDefEqProofs only[vQ,PI,BD,↓reduceIte,jB]
  exact⟨by rw[he]; simp; rfl,trivial⟩
 ·simp -implicitDefEqProofs only[vQ,PI,BD,↓reduceIte,jB,jU]
  exact⟨by rw[he]; simp [hy,hx,hd1,hd2]; rfl,trivial⟩
def UC (s:ByteArray):Bool:=(QK s).isSome || IM s
theorem AFM (o:Option (List UInt8 × UInt8)) : ∃ a n,elemV o = .tup [.str a,.int .i64 n,.bool o.isSome]:=by
 cases o with
 | none=>exact⟨_,_,rfl⟩
 | some x=>exact⟨_,_,rfl⟩
theorem AO1 (G:Nat→AV)(hG:GOk G)(s:ByteArray)(h:Hp)(hl:s.size≤1048576):PCall (En G) 106 [.str s] h (.bool (UC s)):=by
 refine acN Tryz.func106 rfl ?_
 show awp _ _ _ _ _ (EM _ [.tmp 2] _)
 simp -implicitDefEqProofs only[vQ,BD,↓reduceIte,jB,enP]
 refine(AJW G hG s h hl).use ?_
 obtain⟨a,n,e⟩:=AFM (QK s)
 rw[e]
 simp -implicitDefEqProofs only[vQ,zB,zD,CP,BD,↓reduceIte,jB]
 cases hs:(QK s).isSome
 ·simp -implicitDefEqProofs only[vQ,CP,BD,↓reduceIte,jB]
  refine(O1 G hG.kw s h (by omega)).use ?_
  simp -implicitDefEqProofs only[vQ,BD,↓reduceIte,jB]
  exact⟨by unfold UC; rw[hs]; rfl,trivial⟩
 ·simp -implicitDefEqProofs only[vQ,CP,BD,EW,↓reduceIte,jB]
  exact⟨by unfold UC; rw[hs]; rfl,trivial⟩
theorem ATV (G:Nat→AV)(s:ByteArray)(h:Hp)(hl:s.size≤1048576):PCall (En G) 187 [.str s] h (.bool (UC s)):=by
 refine acN Tryz.func187 rfl ?_
 show awp _ _ _ _ _ (EM _ [.tmp 2] _)
 simp -implicitDefEqProofs only[vQ,BD,↓reduceIte,jB,enP]
 refine(ASU G s h (by omega)).use ?_
 obtain⟨a,n,e⟩:=AFM (QK s)
 rw[e]
 simp -implicitDefEqProofs only[vQ,zB,zD,CP,BD,↓reduceIte,jB]
 cases hs:(QK s).isSome
 ·simp -implicitDefEqProofs only[vQ,CP,BD,↓reduceIte,jB]
  refine(P6 G s h).use ?_
  simp -implicitDefEqProofs only[vQ,BD,↓reduceIte,jB]
  exact⟨by unfold UC; rw[hs]; rfl,trivial⟩
 ·simp -implicitDefEqProofs only[vQ,CP,BD,EW,↓reduceIte,jB]
  exact⟨by unfold UC; rw[hs]; rfl,trivial⟩
def VL (s:ByteArray):Bool:=s.toList == (⟨#[]⟩:ByteArray).toList
def badO (e:Ex):Bool:=decide (e.op < 1) || decide (e.op > 25)
def AJ6 (e:Ex):Bool:=((e.op == 1) && (decide (e.n < 0) || decide (e.n > 65535))) || (!(e.op == 1) && !(e.n == 0))
def AG3 (e:Ex):Bool:=(!LX e.op && !VL e.name) || !ABJ e.op e.args.length
def Y9 (e:Ex):Bool:=((e.op == 2) && !UC e.name) || (((e.op == 3) || (e.op == 24)) && !IM e.name)
def KX (e:Ex):Int:=if badO e then 1 else if AJ6 e then 1 else if AG3 e then 1 else if Y9 e then 7 else 0
theorem ATH (G:Nat→AV)(hG:GOk G)(e:Ex)(h:Hp)(hl:e.name.size≤1048576):PCall (En G) 70 [.agg (DX e)] h (.int .i64 (KX e)):=by
 refine ACalls.pure0 rfl ?_
 refine acN Tryz.func70 rfl ?_
 show awp _ _ _ _ _ (EM _ [.tmp 2] _)
 simp -implicitDefEqProofs only[vQ,CP,BD,↓reduceIte,jB,enP,I7,bxE,DW ag3,KR]
 refine S9 (fun F H=>F 3 = .bool (LX e.op)∧F 1 = .ptr h.length 0 0∧H=h++[.live 4 [DX e]]) ?_ ?_
 ·cases b2:(e.op == 2) <;> cases b3:(e.op == 3)
  all_goals
   simp -implicitDefEqProofs only[vQ,CP,BD,EW,↓reduceIte,jB,enP,I7,b2,b3,DW ag3,KR]
   exact⟨by simp [LX,b2,b3],trivial,trivial⟩
 rintro F H ⟨f3,f1,rfl⟩
 simp -implicitDefEqProofs only[vQ,CP,BD,↓reduceIte,enP,I7,f1,f3,DW ag3,KR]
 refine S9 (fun F H=>F 17 = .bool (badO e)∧F 3 = .bool (LX e.op)∧F 1 = .ptr h.length 0 0∧H=h++[.live 4 [DX e]]) ?_ ?_
 ·cases b2:decide (e.op < 1)
  all_goals
   simp -implicitDefEqProofs only[vQ,CP,BD,EW,↓reduceIte,jB,enP,I7,b2,f1,f3,DW ag3,KR]
   exact⟨by simp [badO,b2],trivial,trivial,trivial⟩
 clear f1 f3
 rintro F H ⟨f17,f3,f1,rfl⟩
 simp -implicitDefEqProofs only[vQ,f17]
 refine CU (fun ho => ?_) (fun ho => ?_)
 ·simp -implicitDefEqProofs only[vQ,BD,↓reduceIte]
  exact⟨by unfold KX; rw[if_pos ho],_,rfl⟩
 simp -implicitDefEqProofs only[vQ,CP,BD,↓reduceIte,enP,I7,f1,f3,DW ag3,KR,AAP]
 refine S9 (fun F H=>F 26 = .bool (AJ6 e)∧F 3 = .bool (LX e.op)∧F 1 = .ptr h.length 0 0∧H=h++[.live 4 [DX e]]) ?_ ?_
 ·cases b1:(e.op == 1) <;> cases b2:decide (e.n < 0) <;> cases b3:decide (e.n > 65535) <;> cases b4:(e.n == 0)
  all_goals
   simp -implicitDefEqProofs only[vQ,CP,BD,EW,↓reduceIte,jB,jU,enP,I7,ABT,bne,b1,b2,b3,b4,f1,f3,DW ag3,KR,AAP]
   exact⟨by simp [AJ6,b1,b2,b3,b4],trivial,trivial,trivial⟩
 clear f1 f3 f17
 rintro F H ⟨f26,f3,f1,rfl⟩
 simp -implicitDefEqProofs only[vQ,f26]
 refine CU (fun hn => ?_) (fun hn => ?_)
 ·simp -implicitDefEqProofs only[vQ,BD,↓reduceIte]
  exact⟨by unfold KX; rw[if_neg (by simp [ho]),if_pos hn],_,rfl⟩
 simp -implicitDefEqProofs only[vQ,CP,BD,↓reduceIte,f1,f3,DW ag9,QT]
 refine S9 (fun F H=>F 50 = .bool (AG3 e)∧F 3 = .bool (LX e.op)∧F 1 = .ptr h.length 0 0∧H=h++[.live 4 [DX e]]) ?_ ?_
 ·cases bm:LX e.op <;> cases b5:VL e.name
  all_goals
   have b6:=b5
   unfold VL at b6
   simp -implicitDefEqProofs only[vQ,CP,BD,EW,AF0,↓reduceIte,jB,jU,enP,MF,bne,bm,b6,f1,f3,DW ag9,QT,ldE]
  ·exact⟨by simp [AG3,bm,b5],trivial,trivial,trivial⟩
  all_goals
   refine(AGN G e _).use ?_
   simp -implicitDefEqProofs only[vQ,CP,BD,↓reduceIte,jB,bne,bm,f1,f3]
   exact⟨by simp [AG3,bm,b5],trivial,trivial,trivial⟩
 clear f1 f3 f26
 rintro F H ⟨f50,f3,f1,rfl⟩
 simp -implicitDefEqProofs only[vQ,f50]
 refine CU (fun hs => ?_) (fun hs => ?_)
 ·simp -implicitDefEqProofs only[vQ,BD,↓reduceIte]
  exact⟨by unfold KX; rw[if_neg (by simp [ho]),if_neg (by simp [hn]),if_pos hs],_,rfl⟩
 simp -implicitDefEqProofs only[vQ,CP,BD,↓reduceIte,enP,I7,f1,f3,DW ag9,DW ag3,KR,QT]
 have fin : ∀ b,Y9 e=b→KX e=if b then 7 else 0:=by
  intro b hb
  unfold KX; rw[if_neg (by simp [ho]),if_neg (by simp [hn]),if_neg (by simp [hs]),hb]
 cases b2:(e.op == 2)
 ·simp -implicitDefEqProofs only[vQ,CP,BD,EW,↓reduceIte,jB,enP,I7,b2,f1,f3,DW ag9,DW ag3,KR,QT]
  cases b3:(e.op == 3) <;> cases b4:(e.op == 24)
  all_goals
   simp -implicitDefEqProofs only[vQ,CP,BD,EW,↓reduceIte,jB,enP,I7,MF,b3,b4,f1,f3,DW ag9,DW ag3,KR,QT]
  ·exact⟨by rw[fin false (by simp [Y9,b2,b3,b4])]; rfl,_,rfl⟩
  all_goals
   refine(O1 G hG.kw e.name _ (by omega)).use ?_
   cases bi:IM e.name
   ·simp -implicitDefEqProofs only[vQ,CP,BD,↓reduceIte,jB]
    exact⟨by rw[fin true (by simp [Y9,b2,b3,b4,bi])]; rfl,_,rfl⟩
   ·simp -implicitDefEqProofs only[vQ,CP,BD,↓reduceIte,jB,jU]
    exact⟨by rw[fin false (by simp [Y9,b2,b3,b4,bi])]; rfl,_,rfl⟩
 ·have e2:e.op=2:=by simpa using b2
  simp -implicitDefEqProofs only[vQ,CP,BD,↓reduceIte,jB,enP,MF,b2,f1,f3,DW ag9,DW ag3,KR,QT]
  refine(AO1 G hG e.name _ hl).use ?_
  cases bi:UC e.name
  ·simp -implicitDefEqProofs only[vQ,CP,BD,EW,↓reduceIte,jB]
   exact⟨by rw[fin true (by simp [Y9,b2,bi])]; rfl,_,rfl⟩
  ·simp -implicitDefEqProofs only[vQ,CP,BD,EW,↓reduceIte,jB,jU,enP,I7,f1,DW ag3,KR,e2,Int.reduceBEq]
   exact⟨by rw[fin false (by simp [Y9,e2,bi])]; rfl,_,rfl⟩
def AF3 (e:Ex):Bool:=badO e || decide (e.n < 0) || decide (e.n > 65535) || (!(e.n == 0) && !(e.op == 1)) || (!VL e.name && !LX e.op)
def ANI (op:Int)(n:Nat):Bool:=((op == 23) && (decide ((n:Int) < 3) || decide ((n:Int) > 33) || ((n:Int) % 2 == 0))) || (!(op == 23) && !((n:Int) == arity op))
theorem A1V (op:Int)(n:Nat):ANI op n = !ABJ op n:=by
 unfold ANI ABJ
 rcases hc:(op == 23) with _ | _
 ·simp
 ·have h1:decide ((n:Int) < 3) = !decide ((n:Int)≥3):=by rw[qU]; simp
  have h2:decide ((n:Int) > 33) = !decide ((n:Int)≤33):=by rw[qU]; simp
  have h3:((n:Int) % 2 == 0) = !((n:Int) % 2 == 1):=by rw[qU]; simp; omega
  rw[h1,h2,h3]
  cases ((n:Int) % 2 == 1) <;> cases decide ((n:Int)≥3) <;> cases decide ((n:Int)≤33) <;> rfl
theorem A1W (e:Ex):(AF3 e || ANI e.op e.args.length)=(badO e || AJ6 e || AG3 e):=by
 rw[A1V]
 unfold AF3 AJ6 AG3
 rcases h1:(e.op == 1) with _ | _
 ·rcases h2:(e.n == 0) with _ | _
  ·simp
  ·have h3:decide (e.n < 0)=false:=by simp at h2 ⊢; omega
   have h4:decide (e.n > 65535)=false:=by simp at h2 ⊢; omega
   rw[h3,h4]
   cases badO e <;> cases VL e.name <;> cases LX e.op <;> cases ABJ e.op e.args.length <;> rfl
 ·cases badO e <;> cases VL e.name <;> cases LX e.op <;> cases ABJ e.op e.args.length <;> cases decide (e.n < 0) <;> cases decide (e.n > 65535) <;> cases (e.n == 0) <;> rfl
theorem ABK (e:Ex):KX e=if AF3 e then 1 else if ANI e.op e.args.length then 1 else if Y9 e then 7 else 0:=by
 have:=A1W e
 unfold KX
 revert this
 cases AF3 e <;> cases ANI e.op e.args.length <;> cases badO e <;> cases AJ6 e <;> cases AG3 e <;> simp
set_option maxHeartbeats 1000000 in
theorem ASM (G:Nat→AV)(e:Ex)(h:Hp)(hl:e.name.size≤1048576):PCall (En G) 153 [.agg (DX e)] h (.int .i64 (KX e)):=by
 refine ACalls.pure0 rfl ?_
 refine acN Tryz.func153 rfl ?_
 show awp _ _ _ _ _ (EM _ [.tmp 2] _)
 simp -implicitDefEqProofs only[vQ,CP,BD,↓reduceIte,jB,enP,I7,bxE,DW ag3,KR]
 refine S9 (fun F H=>F 42 = .bool (AF3 e)∧F 1 = .ptr h.length 0 0∧H=h++[.live 4 [DX e]]) ?_ ?_
 ·cases b1:decide (e.op < 1)
  case true =>
   simp -implicitDefEqProofs only[vQ,CP,BD,EW,↓reduceIte,jB,b1]
   exact⟨by simp [AF3,badO,b1],trivial,trivial⟩
  simp -implicitDefEqProofs only[vQ,CP,BD,↓reduceIte,jB,enP,I7,b1,DW ag3,KR,AAP]
  cases b2:decide (e.op > 25)
  case true =>
   simp -implicitDefEqProofs only[vQ,CP,BD,EW,↓reduceIte,jB,b2]
   exact⟨by simp [AF3,badO,b2],trivial,trivial⟩
  simp -implicitDefEqProofs only[vQ,CP,BD,↓reduceIte,jB,enP,ABT,b2,DW ag3,KR,AAP]
  have bO:badO e=false:=by unfold badO; rw[b1,b2]; rfl
  cases b3:decide (e.n < 0)
  case true =>
   simp -implicitDefEqProofs only[vQ,CP,BD,EW,↓reduceIte,jB,b3]
   exact⟨by simp only[AF3,b3]; simp,trivial,trivial⟩
  simp -implicitDefEqProofs only[vQ,CP,BD,↓reduceIte,jB,enP,ABT,b3,DW ag3,KR,AAP]
  cases b4:decide (e.n > 65535)
  case true =>
   simp -implicitDefEqProofs only[vQ,CP,BD,EW,↓reduceIte,jB,b4]
   exact⟨by simp only[AF3,b4]; simp,trivial,trivial⟩
  simp -implicitDefEqProofs only[vQ,CP,BD,↓reduceIte,jB,enP,ABT,b4,bne,DW ag3,DW ag9,KR,AAP,QT]
  have fin : ∀ b,((!(e.n == 0) && !(e.op == 1)) || (!VL e.name && !LX e.op))=b→AF3 e=b:=by
   intro b hb
   unfold AF3; rw[bO,b3,b4]; simpa using hb
  cases b5:(e.n == 0) <;> cases b6:(e.op == 1) <;> cases b7:VL e.name
  all_goals
   have b8:=b7
   unfold VL at b8
   simp -implicitDefEqProofs only[vQ,CP,BD,EW,AF0,↓reduceIte,jB,jU,enP,I7,MF,bne,b5,b6,b8,DW ag3,DW ag9,KR,AAP,QT]
  all_goals first
   | exact⟨by rw[fin _ rfl]; simp [b5,b6,b7],trivial,trivial⟩
   | refine(XL G e.op _).use ?_
     simp -implicitDefEqProofs only[vQ,CP,BD,↓reduceIte,jB]
     exact⟨by rw[fin _ rfl]; simp [b5,b6,b7],trivial,trivial⟩
 rintro F H ⟨f42,f1,rfl⟩
 simp -implicitDefEqProofs only[vQ,f42]
 refine CU (fun ho => ?_) (fun ho => ?_)
 ·simp -implicitDefEqProofs only[vQ,BD,↓reduceIte]
  exact⟨by rw[ABK,if_pos ho],_,rfl⟩
 simp -implicitDefEqProofs only[vQ,CP,BD,↓reduceIte,jB,enP,WS,I7,OA,f1,DW ag3,DW VT,KR,AAO,jH]
 generalize hn:e.args.length=n
 have hm:(n:Int).tmod 2=(n:Int) % 2:=Int.tmod_eq_emod_of_nonneg (by omega)
 have br:JY Tryz.prog 3 .rem (.int .i64 (n:Int)) (.int .i64 2)=some (.int .i64 ((n:Int) % 2)):=by rw[ADJ _ _ _ _ _ (by decide),hm]
 refine S9 (fun F H=>F 73 = .bool (ANI e.op n)∧F 1 = .ptr h.length 0 0∧H=h++[.live 4 [DX e]]) ?_ ?_
 ·cases b1:(e.op == 23)
  ·simp -implicitDefEqProofs only[vQ,CP,BD,EW,↓reduceIte,jB,enP,I7,bne,b1,f1,DW ag3,KR]
   refine(AUQ G e.op _).use ?_
   simp -implicitDefEqProofs only[vQ,CP,BD,↓reduceIte,jB,enP,bne]
   exact⟨by unfold ANI; rw[b1]; simp,f1,trivial⟩
  ·cases b2:decide ((n:Int) < 3) <;> cases b3:decide ((n:Int) > 33) <;> cases b4:((n:Int) % 2 == 0)
   all_goals
    simp -implicitDefEqProofs only[vQ,CP,BD,EW,↓reduceIte,jB,jU,enP,I7,bne,b1,b2,b3,b4,br,f1,DW ag3,KR]
    exact⟨by unfold ANI; rw[b1,b2,b3,b4]; simp,trivial,trivial⟩
 clear f1 f42
 rintro F H ⟨f73,f1,rfl⟩
 simp -implicitDefEqProofs only[vQ,f73]
 subst hn
 refine CU (fun hs => ?_) (fun hs => ?_)
 ·simp -implicitDefEqProofs only[vQ,BD,↓reduceIte]
  exact⟨by rw[ABK,if_neg (by simp [ho]),if_pos hs],_,rfl⟩
 simp -implicitDefEqProofs only[vQ,CP,BD,↓reduceIte,enP,I7,f1,DW ag3,DW ag9,KR,QT]
 have fin : ∀ b,Y9 e=b→KX e=if b then 7 else 0:=by
  intro b hb
  rw[ABK,if_neg (by simp [ho]),if_neg (by simp [hs]),hb]
 cases b2:(e.op == 2)
 ·simp -implicitDefEqProofs only[vQ,CP,BD,EW,↓reduceIte,jB,enP,I7,b2,f1,DW ag9,DW ag3,KR,QT]
  refine(XL G e.op _).use ?_
  cases bm:LX e.op
  ·have hv:Y9 e=false:=by
    unfold LX at bm; simp only[Bool.or_eq_false_iff] at bm
    simp [Y9,bm.1.1,bm.1.2,bm.2]
   simp -implicitDefEqProofs only[vQ,CP,BD,EW,↓reduceIte,jB]
   exact⟨by rw[fin false hv]; rfl,_,rfl⟩
  have hv:Y9 e = !IM e.name:=by
   unfold LX at bm; rw[b2] at bm; simp only[Bool.false_or] at bm
   unfold Y9; rw[b2,bm]; simp
  simp -implicitDefEqProofs only[vQ,CP,BD,↓reduceIte,jB,enP,I7,MF,bne,b2,f1,DW ag9,DW ag3,KR,QT]
  refine(P6 G e.name _).use ?_
  cases bi:IM e.name
  ·simp -implicitDefEqProofs only[vQ,CP,BD,↓reduceIte,jB]
   exact⟨by rw[fin true (by rw[hv,bi]; rfl)]; rfl,_,rfl⟩
  ·simp -implicitDefEqProofs only[vQ,CP,BD,↓reduceIte,jB,jU]
   exact⟨by rw[fin false (by rw[hv,bi]; rfl)]; rfl,_,rfl⟩
 ·have e2:e.op=2:=by simpa using b2
  have hv:Y9 e = !UC e.name:=by
   unfold Y9; rw[e2]; simp
  simp -implicitDefEqProofs only[vQ,CP,BD,↓reduceIte,jB,enP,MF,b2,f1,DW ag9,DW ag3,KR,QT]
  refine(ATV G e.name _ hl).use ?_
  cases bi:UC e.name
  ·simp -implicitDefEqProofs only[vQ,CP,BD,EW,↓reduceIte,jB]
   exact⟨by rw[fin true (by rw[hv,bi]; rfl)]; rfl,_,rfl⟩
  ·simp -implicitDefEqProofs only[vQ,CP,BD,↓reduceIte,jB,jU,enP,I7,f1,DW ag3,KR]
   refine(XL G e.op _).use ?_
   have bm:LX e.op=true:=by rw[e2]; rfl
   simp -implicitDefEqProofs only[vQ,CP,BD,EW,↓reduceIte,jB,jU,enP,I7,bne,bm,f1,DW ag3,KR,b2]
   exact⟨by rw[fin false (by rw[hv,bi]; rfl)]; rfl,_,rfl⟩
theorem AII:LJ Tryz.prog 113=some false:=by kernel_rfl
theorem A2K:szO Tryz.prog 113=some 1:=by kernel_rfl
theorem AC4 (h:Hp):KN Tryz.prog h 48=some (.ptr h.length 0 0,h++[.live 4 [[.int .i64 0,.int .i64 0,.str ⟨#[]⟩,.sl .nil 0 []]]]):=KD (row := [.int .i64 0,.int .i64 0,.str ⟨#[]⟩,.sl .nil 0 []]) (by kernel_rfl)
theorem AKT (h:Hp)(e:Ex)(row:List AV)(hr:row.length=4):FP Tryz.prog (h++[.live 4 [row]]) 48 (.ptr h.length 0 0) (.agg (DX e))=some (h++[.live 4 [DX e]]):=by
 rw[OW (QS (ABY e)) (by rw[JE]; exact N7) (by rw[JE,hr]; exact jL _)]
 have:splice row 0 (DX e)=DX e:=by unfold splice; simp [JE,hr]
 rw[this]
theorem A9N (h:Hp):KN Tryz.prog h 34=some (.ptr h.length 0 0,h++[.live 1 [[.int .i64 0]]]):=KD (row := [.int .i64 0]) (by kernel_rfl)
theorem al3 (h:Hp):KN Tryz.prog h 3=some (.ptr h.length 0 0,h++[.live 1 [[.int .i64 0]]]):=KD (row := [.int .i64 0]) (by kernel_rfl)
theorem A25 (h:Hp):KN Tryz.prog h 113=some (.ptr h.length 0 0,h++[.live 1 [[.nilfn]]]):=KD (row := [.nilfn]) (by kernel_rfl)
theorem J8 {h:Hp}{t:TypeId}{b:Nat}{v:AV}(hag:LJ Tryz.prog t=some false)(hb:h[b]? = some (.live 1 [[v]])):D8 Tryz.prog h t (.ptr b 0 0)=some v:=by
 rw[DY hag hb (row := [v]) rfl]; rfl
theorem TG {h:Hp}{t:TypeId}{b:Nat}{v u:AV}(hs:szO Tryz.prog t=some 1)(hc:JW u=some [u])(hb:h[b]? = some (.live 1 [[v]])):FP Tryz.prog h t (.ptr b 0 0) u=some (h.set b (.live 1 [[u]])):=by
 rw[JQ hc hs hb (row := [v]) rfl (by simp)]; rfl
theorem A9H (h:Hp)(f:Fn)(a b:List AV):O7 h (.fn f a b)=some (.ptr h.length 0 0,h++[.live 1 [[.fn f a b]]]):=rfl
def Chg (c:Nat)(h h':Hp):Prop:=h.length≤h'.length∧∀ b,b < h.length→b≠c→h'[b]? = h[b]?
theorem Chg.refl (c:Nat)(h:Hp):Chg c h h:=⟨jL _,fun _ _ _=>rfl⟩
theorem Chg.trans {c:Nat}{a b d:Hp}(h1:Chg c a b)(h2:Chg c b d):Chg c a d :=
 ⟨qG h1.1 h2.1,fun i hi hc=>by rw[h2.2 i (Nat.lt_of_lt_of_le hi h1.1) hc,h1.2 i hi hc]⟩
theorem Chg.app (c:Nat)(h x:Hp):Chg c h (h++x):=⟨by simp,fun i hi _=>zO hi⟩
theorem Chg.set (c:Nat)(h:Hp)(x:ABlk):Chg c h (h.set c x):=⟨by simp,fun i _ hc=>by rw[zG,if_neg (fun e=>hc e.symm)]⟩
theorem Chg.get {c b:Nat}{h h':Hp}{x:ABlk}(hc:Chg c h h')(hb:h[b]? = some x)(hne:b≠c):h'[b]? = some x:=by
 rw[hc.2 b (CJ hb) hne]; exact hb
theorem Chg.above {c:Nat}{h h':Hp}(hc:Chg c h h')(hl:h.length≤c) : ∃ x,h'=h++x:=by
 refine⟨h'.drop h.length,?_⟩
 have:h'.take h.length=h:=by
  refine List.ext_getElem? fun i => ?_
  rcases zM i h.length with hi | hi
  ·rw[List.getElem?_take_of_lt hi,hc.2 i hi (by omega)]
  ·rw[qP (by rw[zJ]; omega),qP hi]
 conv=>lhs; rw[← List.take_append_drop h.length h',this]
def run (upd:Ex→Int→Int)(cont:Int→Bool):List Ex→Int→Int × Bool
 | [],z=>(z,true)
 | e :: es,z=>if cont (upd e z) then run upd cont es (upd e z) else (upd e z,false)
theorem run_go {upd:Ex→Int→Int}{cont:Int→Bool} : ∀ {xs:List Ex} (ys:List Ex) {z z':Int},run upd cont xs z=(z',true)→run upd cont (xs++ys) z=run upd cont ys z'
 | [],ys,z,z',h=>by cases h; rfl
 | x :: xs,ys,z,z',h=>by
   simp only[run,qO] at h ⊢
   split at h
   ·rename_i hc; rw[if_pos hc]; exact run_go ys h
   ·cases h
theorem run_stop {upd:Ex→Int→Int}{cont:Int→Bool} : ∀ {xs:List Ex} (ys:List Ex) {z z':Int},run upd cont xs z=(z',false)→run upd cont (xs++ys) z=(z',false)
 | [],ys,z,z',h=>by cases h
 | x :: xs,ys,z,z',h=>by
   simp only[run,qO] at h ⊢
   split at h
   ·rename_i hc; rw[if_pos hc]; exact run_stop ys h
   ·rename_i hc; rw[if_neg hc]; exact h
theorem OY (xs:List Ex)(j:Nat)(hj:j < xs.length):J4 (xs.take (j+1))=J4 (xs.take j)++pre xs[j]:=by
 rw[zN hj,QH]; simp [J4]
theorem XJ {a:Ex} : ∀ {xs:List Ex},a∈xs→∀ x∈pre a,x∈J4 xs
 | [],h,_,_=>by cases h
 | y :: ys,h,x,hx=>by
   simp only[J4,qI]
   cases qJ.1 h with
   | inl e=>subst e; exact .inl hx
   | inr e=>exact .inr (XJ e x hx)
def ASL (G:Nat→AV)(k:FuncId)(upd:Ex→Int→Int)(cont:Int→Bool)(e:Ex):Prop :=
 ∀ (h:Hp) (c:Nat) (z:Int),h[c]? = some (.live 1 [[.int .i64 z]])→ACalls (En G) k [.agg (DX e),.ptr c 0 0] h fun v h'=>v = .bool (cont (upd e z))∧Chg c h h'∧h'[c]? = some (.live 1 [[.int .i64 (upd e z)]])
theorem AUB (G:Nat→AV)(k:FuncId)(upd:Ex→Int→Int)(cont:Int→Bool)(c vb db:Nat)(hv:vb≠c)(hd:db≠c)(e:Ex) :
  wt e≤1099511627776→(∀ x∈pre e,ASL G k upd cont x)→∀ (h:Hp) (z:Int),h[c]? = some (.live 1 [[.int .i64 z]])→h[vb]? = some (.live 1 [[.fn (.func k) [] [.ptr c 0 0]]]) →
   h[db]? = some (.live 1 [[.fn (.func 104) [] [.ptr vb 0 0,.ptr db 0 0]]]) →
   ACalls (En G) 104 [.agg (DX e),.ptr vb 0 0,.ptr db 0 0] h fun v h'=>v = .bool (run upd cont (pre e) z).2∧Chg c h h'∧h'[c]? = some (.live 1 [[.int .i64 (run upd cont (pre e) z).1]]):=by
 induction e using Ex.induct with | h e ih => ?_
 intro hw hvis h z hc hvb hdb
 have hcl:=CJ hc
 have hal:e.args.length≤1099511627776:=by have:=VA e.args; have:=NF e; omega
 refine acN Tryz.func104 rfl ?_
 show awp _ _ _ _ _ (EM _ [.tmp 4] _)
 simp -implicitDefEqProofs only[vQ,BD,qE,qO,↓reduceIte,jB,enP,bxE,J8 AII (CX hvb),ldE]
 refine(hvis e (by rw[pre_eq]; simp) _ c z (CX hc)).mono ?_
 rintro v h1 ⟨rfl,hch,hc1⟩
 have hch0:=(Chg.app c h _).trans hch
 have hb3:h1[h.length]? = some (.live 4 [DX e]):=hch.get (CZ _ _) (by omega)
 have hrun:run upd cont (pre e) z=if cont (upd e z) then run upd cont (J4 e.args) (upd e z) else (upd e z,false):=by rw[pre_eq]; rfl
 simp -implicitDefEqProofs only[vQ,BD,↓reduceIte]
 cases hct:cont (upd e z)
 ·simp -implicitDefEqProofs only[vQ,BD,↓reduceIte]
  rw[hrun,hct]
  exact⟨rfl,hch0,hc1⟩
 rw[hct,if_pos rfl] at hrun
 have hvb1:=hch0.get hvb hv
 have hdb1:=hch0.get hdb hd
 have l3:D8 Tryz.prog h1 46 (.ptr h.length 0 3)=some (.sl e.m 4 (e.args.map DX)):=by rw[DY VT hb3 (row:=DX e) rfl,AAO]
 simp -implicitDefEqProofs only[vQ,BD,↓reduceIte,jB,jU,enP,WS,OA,l3,jH]
 refine DL (fun n F H => ∃ j z',n+j=e.args.length∧F 1 = .ptr vb 0 0∧F 2 = .ptr db 0 0∧F 12 = .sl e.m 4 (e.args.map DX)∧F 13 = .int .i64 e.args.length∧F 14 = .int .i64 (j:Nat)∧Chg c h H∧H[c]? = some (.live 1 [[.int .i64 z']])∧run upd cont (J4 (e.args.take j)) (upd e z)=(z',true)) e.args.length ⟨0,upd e z,by simp,by simp -implicitDefEqProofs only[vQ,↓reduceIte,jB],by simp -implicitDefEqProofs only[vQ,↓reduceIte,jB],by simp -implicitDefEqProofs only[AA,↓reduceIte,jB],by simp -implicitDefEqProofs only[AA,↓reduceIte,jB],by simp -implicitDefEqProofs only[AA,↓reduceIte]; rfl,hch0,hc1,rfl⟩ ?_
 rintro n F H ⟨j,z',hj,f1,f2,f12,f13,f14,hC,hcz,hr⟩
 simp -implicitDefEqProofs only[vQ,BD,↓reduceIte,enP,f13,f14]
 refine CU (fun hlt => ?_) (fun hlt => ?_)
 ·have hj':j < e.args.length:=by simpa using hlt
  have hdH:H[db]? = some (.live 1 [[.fn (.func 104) [] [.ptr vb 0 0,.ptr db 0 0]]]):=hC.get hdb hd
  have hvH:H[vb]? = some (.live 1 [[.fn (.func k) [] [.ptr c 0 0]]]):=hC.get hvb hv
  simp -implicitDefEqProofs only[vQ,BD,qE,qO,↓reduceIte,jB,enP,AAC,jT,f12,f14,DN hj',FU X4 N7 JE hj',AC4,AKT _ _ [.int .i64 0,.int .i64 0,.str ⟨#[]⟩,.sl .nil 0 []] rfl,f2,J8 AII (CX hdH),ldE]
  have hmem:e.args[j]∈e.args:=jP hj'
  refine(ih e.args[j] hmem (by have:=U9 hmem; have:=NF e; omega) (fun x hx=>hvis x (by rw[pre_eq]; exact wO _ (XJ hmem x hx))) _ z' (CX hcz) (CX hvH) (CX hdH)).mono ?_
  rintro v h2 ⟨rfl,hch2,hc2⟩
  have hC2:=hC.trans ((Chg.app c H _).trans hch2)
  have hsplit:J4 e.args=J4 (e.args.take j)++(pre e.args[j]++J4 (e.args.drop (j+1))):=by
   rw[← zH,← OY _ _ hj',← QH,List.take_append_drop]
  simp -implicitDefEqProofs only[vQ,BD,↓reduceIte]
  rcases hrr:run upd cont (pre e.args[j]) z' with⟨z2,b2⟩
  rw[hrr] at hc2
  cases b2
  ·simp -implicitDefEqProofs only[vQ,BD,↓reduceIte]
   have:run upd cont (pre e) z=(z2,false):=by rw[hrun,hsplit,run_go _ hr]; exact run_stop _ hrr
   rw[this]
   exact⟨rfl,hC2,hc2⟩
  ·simp -implicitDefEqProofs only[vQ,BD,↓reduceIte,jB,jU,enP,f1,f2,f12,f13,f14,wrap_succ (show j < 9223372036854775807 by omega)]
   refine⟨n - 1,by omega,j+1,z2,by omega,trivial,trivial,trivial,trivial,rfl,hC2,hc2,?_⟩
   rw[OY _ _ hj',run_go _ hr]; exact hrr
 ·have hj' : ¬ j < e.args.length:=by simpa using hlt
  simp -implicitDefEqProofs only[vQ,BD,↓reduceIte]
  rw[jW (by omega)] at hr
  rw[hrun,hr]
  exact⟨rfl,hC,hcz⟩
theorem AG7 (G:Nat→AV)(k:FuncId)(upd:Ex→Int→Int)(cont:Int→Bool)(c:Nat)(e:Ex)(hw:wt e≤1099511627776)(hvis : ∀ x∈pre e,ASL G k upd cont x)(h:Hp)(z:Int)(hc:h[c]? = some (.live 1 [[.int .i64 z]])) :
  ACalls (En G) 68 [.agg (DX e),.fn (.func k) [] [.ptr c 0 0]] h fun _ h'=>Chg c h h'∧h'[c]? = some (.live 1 [[.int .i64 (run upd cont (pre e) z).1]]):=by
 have hcl:=CJ hc
 refine acN Tryz.func68 rfl ?_
 show awp _ _ _ _ _ (EM _ [] _)
 simp -implicitDefEqProofs only[vQ,BD,I5,↓reduceIte,jB,enP,jT,bxE,A9H,A25]
 have g0:(h++[ABlk.live 4 [DX e]]++[ABlk.live 1 [[AV.fn (.func k) [] [.ptr c 0 0]]]]++[ABlk.live 1 [[AV.nilfn]]])[(h++[ABlk.live 4 [DX e]]++[ABlk.live 1 [[AV.fn (.func k) [] [.ptr c 0 0]]]]).length]? = some (.live 1 [[.nilfn]]):=CZ _ _
 simp -implicitDefEqProofs only[vQ,BD,↓reduceIte,jB,enP,TG A2K (A29 _ _ _) g0]
 generalize hdb:(h++[ABlk.live 4 [DX e]]++[ABlk.live 1 [[AV.fn (.func k) [] [.ptr c 0 0]]]]).length=db at g0 ⊢
 generalize hvb:(h++[ABlk.live 4 [DX e]]).length=vb
 have hvl:vb=h.length+1:=by rw[← hvb]; simp
 have hdl:db=h.length+2:=by rw[← hdb]; simp
 generalize hH:(h++[ABlk.live 4 [DX e]]++[ABlk.live 1 [[AV.fn (.func k) [] [.ptr c 0 0]]]]++[ABlk.live 1 [[AV.nilfn]]]).set db (.live 1 [[AV.fn (.func 104) [] [.ptr vb 0 0,.ptr db 0 0]]])=H
 have h1:H[db]? = some (.live 1 [[.fn (.func 104) [] [.ptr vb 0 0,.ptr db 0 0]]]):=by rw[← hH]; exact EG g0
 have h2:H[vb]? = some (.live 1 [[.fn (.func k) [] [.ptr c 0 0]]]):=by
  rw[← hH]; refine CV ?_ (by omega)
  rw[← hvb]; exact CX (CZ _ _)
 have h3:H[h.length]? = some (.live 4 [DX e]):=by
  rw[← hH]; refine CV ?_ (by omega)
  exact CX (CX (CZ _ _))
 have h4:H[c]? = some (.live 1 [[.int .i64 z]]):=by
  rw[← hH]; refine CV ?_ (by omega)
  exact CX (CX (CX hc))
 have hC:Chg c h H:=by
  refine⟨by rw[← hH]; simp,fun b hb hbc => ?_⟩
  obtain⟨x,hx⟩ : ∃ x,h[b]? = some x:=⟨_,jS hb⟩
  rw[← hH,hx]
  exact CV (CX (CX (CX hx))) (by omega)
 simp -implicitDefEqProofs only[vQ,BD,qE,qO,↓reduceIte,jB,enP,J8 AII h1,NM h3]
 refine(AUB G k upd cont c vb db (by omega) (by omega) e hw hvis H z h4 h2 h1).mono ?_
 rintro v h' ⟨rfl,hch,hc1⟩
 simp -implicitDefEqProofs only[vQ,AFJ]
 exact⟨hC.trans hch,hc1⟩
theorem AN8 (G:Nat→AV)(e:Ex):ASL G 107 (fun _ z=>IntKind.i64.wrap (z+1)) (fun _=>true) e:=by
 intro h c z hc
 have hcl:=CJ hc
 refine acN Tryz.func107 rfl ?_
 show awp _ _ _ _ _ (EM _ [.tmp 3] _)
 simp -implicitDefEqProofs only[vQ,BD,↓reduceIte,jB,enP,jT,bxE,J8 ag3 (CX hc),TG sz3 (QR _ _) (CX hc)]
 exact⟨trivial,(Chg.app c h _).trans (Chg.set c _ _),EG (CX hc)⟩
theorem AMP (G:Nat→AV)(hG:GOk G)(e:Ex)(hl:e.name.size≤1048576):ASL G 69 (fun e _=>KX e) (fun z=>z == 0) e:=by
 intro h c z hc
 have hcl:=CJ hc
 refine acN Tryz.func69 rfl ?_
 show awp _ _ _ _ _ (EM _ [.tmp 3] _)
 simp -implicitDefEqProofs only[vQ,BD,↓reduceIte,jB,enP,bxE,ldE]
 refine(ATH G hG e _ hl).use ?_
 have hs:=EG (y := .live 1 [[.int .i64 (KX e)]]) (CX (x := .live 4 [DX e]) hc)
 simp -implicitDefEqProofs only[vQ,BD,↓reduceIte,jB,enP,jT,TG A3K (QR _ _) (CX hc),J8 AYZ hs]
 exact⟨trivial,(Chg.app c h _).trans (Chg.set c _ _),hs⟩
theorem AK5 : ∀ (xs:List Ex) (n:Nat),n+xs.length≤1099511627776→run (fun _ z=>IntKind.i64.wrap (z+1)) (fun _=>true) xs (n:Int)=(((n+xs.length:Nat):Int),true)
 | [],n,_=>rfl
 | x :: xs,n,h=>by
   simp only[zX] at h
   simp only[run,if_true]
   rw[wrap_succ (by omega),AK5 xs (n+1) (by omega),zX]
   congr 1; omega
def errs (xs:List Ex):Int:=xs.foldl (fun z e=>if z=0 then KX e else z) 0
theorem AJV : ∀ (xs:List Ex) (z:Int),z≠0→xs.foldl (fun z e=>if z=0 then KX e else z) z=z
 | [],_,_=>rfl
 | x :: xs,z,h=>by rw[wH,if_neg h]; exact AJV xs z h
theorem AK7 : ∀ (xs:List Ex),(run (fun e _=>KX e) (fun z=>z == 0) xs 0).1=errs xs
 | []=>rfl
 | x :: xs=>by
   simp only[run,errs,wH,if_true]
   rcases hn:(KX x == 0) with _ | _
   ·have:KX x≠0:=by simpa using hn
    rw[AJV _ _ this]; rfl
   ·have:KX x=0:=by simpa using hn
    rw[this]; simp only[if_true]; exact AK7 xs
theorem ALN {x e:Ex}(hx:x∈pre e):x.name.size≤wt e:=by
 induction e using Ex.induct with | h e ih => ?_
 rw[pre_eq] at hx
 have hw:=NF e
 rcases qJ.1 hx with rfl | hx
 ·omega
 have : ∀ l:List Ex,(∀ a∈l,x∈pre a→x.name.size≤wt a)→x∈J4 l→x.name.size≤wts l:=by
  intro l
  induction l with
  | nil=>intro _ h; simp [J4] at h
  | cons y l ih2 =>
    intro hh h
    simp only[J4,qI] at h
    simp only[wts]
    rcases h with h | h
    ·have:=hh y (by simp) h; omega
    ·have:=ih2 (fun a ha=>hh a (by simp [ha])) h; omega
 have:=this e.args (fun a ha=>ih a ha) hx
 omega
theorem ASW (G:Nat→AV)(e:Ex)(h:Hp)(hw:wt e≤1099511627776):PCall (En G) 72 [.agg (DX e)] h (.int .i64 (pre e).length):=by
 refine ACalls.pure0 rfl ?_
 refine acN Tryz.func72 rfl ?_
 show awp _ _ _ _ _ (EM _ [.tmp 2] _)
 have hg:=CZ (h++[ABlk.live 4 [DX e]]) (.live 1 [[.int .i64 0]])
 have hs:(h++[ABlk.live 4 [DX e]]++[ABlk.live 1 [[.int .i64 0]]]).set (h++[ABlk.live 4 [DX e]]).length (.live 1 [[.int .i64 0]])=h++[ABlk.live 4 [DX e]]++[ABlk.live 1 [[.int .i64 0]]]:=AIR _ _ _
 simp -implicitDefEqProofs only[vQ,BD,I5,↓reduceIte,jB,enP,jT,bxE,al3,TG sz3 (QR _ _) hg,hs,NM (CX (CZ h _))]
 refine(AG7 G 107 _ _ _ e hw (fun x _=>AN8 G x) _ 0 hg).mono ?_
 rintro v h' ⟨hch,hc1⟩
 simp -implicitDefEqProofs only[vQ,BD,↓reduceIte,jB,enP,J8 ag3 hc1]
 have:=AK5 (pre e) 0 (by have:=AIZ e; omega)
 simp only[jG] at this
 exact⟨by rw[show(0:Int)=((0:Nat):Int) from rfl,this],(((Chg.app _ h _).trans (Chg.app _ _ _)).trans hch).above (by simp)⟩
theorem API (G:Nat→AV)(e:Ex):wt e≤1099511627776→∀ h:Hp,PCall (En G) 71 [.agg (DX e)] h (.int .i64 (dep e)):=by
 induction e using Ex.induct with | h e ih => ?_
 intro hw h
 have hal:e.args.length≤1099511627776:=by have:=VA e.args; have:=NF e; omega
 refine ACalls.pure0 rfl ?_
 refine acN Tryz.func71 rfl ?_
 show awp _ _ _ _ _ (EM _ [.tmp 2] _)
 simp -implicitDefEqProofs only[vQ,BD,↓reduceIte,jB,enP,WS,OA,bxE,DW VT,AAO,jH]
 have hdw:dep e≤1099511627776:=qG (AX0 e) hw
 refine DL (fun n F H => ∃ j,n+j=e.args.length∧F 3 = .int .i64 (deps (e.args.take j):Nat)∧F 7 = .sl e.m 4 (e.args.map DX)∧F 8 = .int .i64 e.args.length∧F 9 = .int .i64 (j:Nat)∧∃ x,H=h++x) e.args.length ⟨0,by simp,by simp -implicitDefEqProofs only[AA,↓reduceIte,jB]; rfl,by simp -implicitDefEqProofs only[AA,↓reduceIte,jB],by simp -implicitDefEqProofs only[AA,↓reduceIte,jB],by simp -implicitDefEqProofs only[AA,↓reduceIte]; rfl,⟨_,rfl⟩⟩ ?_
 rintro n F H ⟨j,hj,f3,f7,f8,f9,x,rfl⟩
 simp -implicitDefEqProofs only[vQ,BD,↓reduceIte,enP,f8,f9]
 refine CU (fun hlt => ?_) (fun hlt => ?_)
 ·have hj':j < e.args.length:=by simpa using hlt
  have hmem:e.args[j]∈e.args:=jP hj'
  simp -implicitDefEqProofs only[vQ,BD,↓reduceIte,jB,enP,AAC,jT,f3,f7,f9,DN hj',FU X4 N7 JE hj',AC4,AKT _ _ [.int .i64 0,.int .i64 0,.str ⟨#[]⟩,.sl .nil 0 []] rfl,ldE]
  refine(ih e.args[j] hmem (by have:=U9 hmem; have:=NF e; omega) _).use ?_
  simp -implicitDefEqProofs only[vQ,BD,AQN,AI7,↓reduceIte,jB,enP,f7,f8,f9,wrap_succ (show j < 9223372036854775807 by omega)]
  refine⟨n - 1,by omega,j+1,by omega,?_,trivial,trivial,rfl,_,by rw[zH]⟩
  rw[AH7 _ _ hj']
  congr 1
  omega
 ·have hj' : ¬ j < e.args.length:=by simpa using hlt
  rw[jW (by omega)] at f3
  rw[AJY] at hdw ⊢
  simp -implicitDefEqProofs only[vQ,BD,↓reduceIte,jB,enP,f3,wrap_succ (show deps e.args < 9223372036854775807 by omega)]
  exact⟨trivial,x,rfl⟩
def exE (e:Ex):Int:=if errs (pre e)=0∧(24 < dep e∨400 < (pre e).length) then 2 else errs (pre e)
def WN (e:Ex):Prop:=wt e≤274877906944∧∀ x∈pre e,x.name.size≤1048576
theorem ASI {e:Ex}(hw:wt e≤1048576):WN e:=⟨by omega,fun x hx=>by have:=ALN hx; omega⟩
theorem YG (G:Nat→AV)(hG:GOk G)(e:Ex)(h:Hp)(hn:WN e):PCall (En G) 38 [.agg (DX e)] h (.int .i64 (exE e)):=by
 refine ACalls.pure0 rfl ?_
 refine acN Tryz.func38 rfl ?_
 show awp _ _ _ _ _ (EM _ [.tmp 2] _)
 have hg:=CZ (h++[ABlk.live 4 [DX e]]) (.live 1 [[.int .i64 0]])
 have hs:(h++[ABlk.live 4 [DX e]]++[ABlk.live 1 [[.int .i64 0]]]).set (h++[ABlk.live 4 [DX e]]).length (.live 1 [[.int .i64 0]])=h++[ABlk.live 4 [DX e]]++[ABlk.live 1 [[.int .i64 0]]]:=AIR _ _ _
 have hb:=CX (x:=ABlk.live 1 [[.int .i64 0]]) (CZ h (.live 4 [DX e]))
 have hw:=hn.1
 simp -implicitDefEqProofs only[vQ,BD,I5,↓reduceIte,jB,enP,jT,bxE,A9N,TG A3K (QR _ _) hg,hs,NM hb]
 refine(AG7 G 69 _ _ _ e (by omega) (fun x hx=>AMP G hG x (hn.2 x hx)) _ 0 hg).mono ?_
 rintro v h' ⟨hch,hc1⟩
 rw[AK7] at hc1
 have hb':=hch.get hb (by simp)
 have hab:=(((Chg.app _ h _).trans (Chg.app _ _ _)).trans hch).above (show h.length≤(h++[ABlk.live 4 [DX e]]).length by simp)
 simp -implicitDefEqProofs only[vQ,CP,BD,↓reduceIte,jB,enP,J8 AYZ hc1]
 rcases he:(errs (pre e) == 0) with _ | _
 ·simp -implicitDefEqProofs only[vQ,CP,BD,EW,↓reduceIte,jB,enP,J8 AYZ hc1]
  have:errs (pre e)≠0:=by simpa using he
  exact⟨by unfold exE; rw[if_neg (fun hh=>this hh.1)],hab⟩
 have he0:errs (pre e)=0:=by simpa using he
 simp -implicitDefEqProofs only[vQ,CP,BD,↓reduceIte,jB,enP,NM hb']
 refine(API G e (by omega) _).use ?_
 simp -implicitDefEqProofs only[vQ,CP,BD,↓reduceIte,jB,enP]
 refine I4 (fun hd => ?_) (fun hd => ?_)
 ·simp -implicitDefEqProofs only[vQ,CP,BD,EW,↓reduceIte,jB,hd]
  exact⟨by unfold exE; rw[if_pos ⟨he0,.inl (by simp at hd; omega)⟩],hab⟩
 simp -implicitDefEqProofs only[vQ,CP,BD,↓reduceIte,jB,enP,hd,NM hb']
 refine(ASW G e _ (by omega)).use ?_
 simp -implicitDefEqProofs only[vQ,CP,BD,↓reduceIte,jB,enP]
 refine CU (fun hn => ?_) (fun hn => ?_)
 ·simp -implicitDefEqProofs only[vQ,BD,↓reduceIte]
  exact⟨by unfold exE; rw[if_pos ⟨he0,.inr (by simp at hn; omega)⟩],hab⟩
 ·simp -implicitDefEqProofs only[vQ,BD,↓reduceIte,jB,enP,J8 AYZ hc1]
  exact⟨by unfold exE; rw[if_neg (fun hh=>by simp at hn hd; omega)],hab⟩
theorem AAM (G:Nat→AV)(hG:GOk G)(e:Ex)(h:Hp)(hw:wt e≤1048576):PCall (En G) 38 [.agg (DX e)] h (.int .i64 (exE e)):=YG G hG e h (ASI hw)
theorem U3 {E:Env}{H:Hint}{x y:Code}{F:Fr}{h:Hp}{Q:AEx→Fr→Hp→Prop}{b:Bool}(N R:Fr→Hp→Prop)(h1:b=true→awp E H x F h (AWN N R))(h2:b=false→awp E H y F h (AWN N R))(hn : ∀ F h,N F h→Q .normal F h)(hr : ∀ F h,R F h→Q .ret F h) :
 AFU E H x y F h Q (.bool b):=⟨fun e=>ADK N R (h1 e) hn hr,fun e=>ADK N R (h2 e) hn hr⟩
def isB (v:AV)(b:Nat):Prop:=match v with
 | .own b' _ _=>b'=b
 | _=>False
def sv (h:Hp)(m:Nat)(v:AV):Prop := ∃ vs:List ByteArray,vs.length≤m∧((vs = []∧∃ k,v = .sl .nil k [])∨∃ b,v = .own b 0 vs.length∧h[b]? = some (.live 1 (vs.map encStr)))
theorem A0Y (G:Nat→AV)(k:Nat)(v:ByteArray)(h:Hp):PCall (En G) 154 [.sl .nil k [],.str v] h (.bool false):=by
 refine acN Tryz.func154 rfl ?_
 show awp _ _ _ _ _ (EM _ [.tmp 4] _)
 simp -implicitDefEqProofs only[vQ,BD,enP]
 refine DL (fun n F H=>F 0 = .sl .nil k []∧F 5 = .int .i64 0∧H=h) 0 ⟨rfl,rfl,rfl⟩ ?_
 rintro n F H ⟨f0,f5,rfl⟩
 simp -implicitDefEqProofs only[vQ,BD,↓reduceIte,jB,enP,AL5,f0,f5,List.length_nil]
 have:decide ((0:Int) < ((0:Nat):Int))=false:=by simp
 simp -implicitDefEqProofs only[vQ,BD,↓reduceIte,this]
 exact⟨trivial,trivial⟩
theorem row_map {α:Type}{f:α→List AV}{xs:List α}{k:Nat}(hk:k < xs.length):(xs.map f)[k]? = some (f xs[k]):=by
 rw[jY,jS hk]; rfl
theorem F7 {h x:Hp}{y:ABlk}{b:Nat}(hb:h[b]? = some y):(h++x)[b]? = some y:=by
 rw[zO (CJ hb)]; exact hb
theorem A0X (G:Nat→AV)(xs:List ByteArray)(b:Nat)(v:ByteArray)(h:Hp)(hb:h[b]? = some (.live 1 (xs.map encStr)))(hl:xs.length≤1099511627776) :
  PCall (En G) 154 [.own b 0 xs.length,.str v] h (.bool (JG xs v)):=by
 refine acN Tryz.func154 rfl ?_
 show awp _ _ _ _ _ (EM _ [.tmp 4] _)
 simp -implicitDefEqProofs only[vQ,BD,enP]
 refine DL (fun n F H => ∃ k,n+k=xs.length∧F 0 = .own b 0 xs.length∧F 1 = .str v∧F 5 = .int .i64 (k:Nat)∧H=h∧JG xs v=JG (xs.drop k) v) xs.length ⟨0,by simp,rfl,rfl,rfl,rfl,rfl⟩ ?_
 rintro n F H ⟨k,hk,f0,f1,f5,rfl,hin⟩
 simp -implicitDefEqProofs only[vQ,BD,↓reduceIte,jB,enP,AL5,f0,f1,f5]
 refine CU (fun hc => ?_) (fun hc => ?_)
 ·have hc':k < xs.length:=by simpa using hc
  have hs:JG (xs.drop k) v=((v.toList == xs[k].toList) || JG (xs.drop (k+1)) v):=KT _ xs k hc'
  have l1:D8 Tryz.prog H 9 (.ptr b k 0)=some (.str xs[k]):=by rw[DY ag9 hb (row:=encStr xs[k]) (row_map hc')]; rfl
  simp -implicitDefEqProofs only[vQ,BD,LV,↓reduceIte,jB,enP,ATS,f0,f1,f5,JR hb hc',l1]
  refine CU (fun hb => ?_) (fun hb => ?_)
  ·simp -implicitDefEqProofs only[vQ,BD,↓reduceIte]
   refine⟨?_,trivial⟩
   rw[hin,hs,show(v.toList == xs[k].toList)=true by rw[BEq.comm]; exact hb]; rfl
  ·simp -implicitDefEqProofs only[vQ,BD,↓reduceIte,jB,enP,f5,wrap_succ (show k < 9223372036854775807 by omega)]
   refine⟨n - 1,by omega,k+1,by omega,f0,f1,rfl,trivial,?_⟩
   rw[hin,hs,show(v.toList == xs[k].toList)=false by rw[BEq.comm]; exact hb]; rfl
 ·have hc' : ¬ k < xs.length:=by simpa using hc
  simp -implicitDefEqProofs only[vQ,BD,↓reduceIte]
  exact⟨by rw[hin,jV (by omega)]; rfl,trivial⟩
theorem AXG (G:Nat→AV){h:Hp}{m:Nat}{v:AV}(s:ByteArray)(hv:sv h m v)(hm:m≤1099511627776) : ∃ r,PCall (En G) 154 [v,.str s] h (.bool r):=by
 obtain⟨vs,hl,⟨_,k,rfl⟩ | ⟨b,rfl,hb⟩⟩:=hv
 ·exact⟨_,A0Y G k s h⟩
 ·exact⟨_,A0X G vs b s h hb (by omega)⟩
theorem AYJ (h:Hp)(s:ByteArray):FM Tryz.prog false h 65 1 [(0,.str s)]=some (.sl .full 1 [[.str s]],h):=by kernel_rfl
theorem AYV {h:Hp}{m:Nat}{v:AV}(s:ByteArray)(hv:sv h m v)(hm:m≤1099511627776) : ∃ v' h',GM Tryz.prog true h 65 65 v (.sl .full 1 [[.str s]])=some (v',h')∧sv h' (m+1) v'∧(∀ b,isB v' b→b=h.length) ∧
  h.length≤h'.length∧∀ b,b < h.length→¬ isB v b→h'[b]? = h[b]? := by
 obtain⟨vs,hl,⟨rfl,k,rfl⟩ | ⟨b,rfl,hb⟩⟩:=hv
 ·refine⟨_,_,QE AZL sz9 AZC A1O (JF h .full 1 [[.str s]]) (by simp) (JB (by simp) (by omega)),⟨[s],by simp,.inr ⟨h.length,rfl,CZ _ _⟩⟩,fun b hb=>hb.symm,by simp,fun b hb _=>zO hb⟩
 ·have hc:KE h (.own b 0 vs.length)=some (1,vs.map encStr):=by
   rw[MH hb (by simp),List.drop_zero,jW (by simp)]
  refine⟨_,_,Q8 AZL sz9 AZC A1O hc (JF h .full 1 [[.str s]]) (by simp) (by unfold room; simp; omega),⟨vs++[s],by simp; omega,.inr ⟨h.length,by simp,by simp [encStr]⟩⟩,fun b hb=>hb.symm,by simp,fun o ho hn => ?_⟩
  rw[zO (by simpa using ho)]
  have hn' : ¬ b=o:=hn
  rw[zG,if_neg hn']
def wRow (n dd:Nat)(f:Int)(v1 v2:AV):List AV := [.int .i64 n,.int .i64 dd,.int .i64 f,v1,v2]
structure St (h:Hp) (c m1 m2 n dd:Nat) (f:Int) (v1 v2:AV):Prop where
 w:h[c]? = some (.live 5 [wRow n dd f v1 v2])
 s1:sv h m1 v1
 s2:sv h m2 v2
 ap : ∀ b,isB v1 b→¬ isB v2 b
theorem sv.b {h:Hp}{m:Nat}{v:AV}{b:Nat}(hs:sv h m v)(hb:isB v b) : ∃ vs:List ByteArray,h[b]? = some (.live 1 (vs.map encStr)):=by
 obtain⟨vs,_,⟨_,k,rfl⟩ | ⟨b',rfl,h'⟩⟩:=hs
 ·exact hb.elim
 ·cases hb; exact⟨vs,h'⟩
theorem sv.ne {h:Hp}{m b c:Nat}{v:AV}{row:List AV}(hs:sv h m v)(hc:h[c]? = some (.live 5 [row]))(hb:isB v b):b≠c:=by
 intro e; subst e
 obtain⟨vs,h'⟩:=hs.b hb
 rw[h'] at hc; cases hc
theorem sv.keep {h h':Hp}{m m':Nat}{v:AV}(hs:sv h m v)(hm:m≤m')(hk : ∀ b,isB v b→h'[b]? = h[b]?):sv h' m' v:=by
 obtain⟨vs,hl,⟨e,k,rfl⟩ | ⟨b,rfl,hb⟩⟩:=hs
 ·exact⟨vs,by omega,.inl ⟨e,k,rfl⟩⟩
 ·exact⟨vs,by omega,.inr ⟨b,rfl,by rw[hk b rfl]; exact hb⟩⟩
structure Ch (c:Nat) (v1 v2:AV) (h:Hp) (v1' v2':AV) (h':Hp):Prop where
 len:h.length≤h'.length
 get : ∀ b,b < h.length→b≠c→¬ isB v1 b→¬ isB v2 b→h'[b]? = h[b]?
 n1 : ∀ b,isB v1' b→isB v1 b∨h.length≤b
 n2 : ∀ b,isB v2' b→isB v2 b∨h.length≤b
theorem Ch.refl (c:Nat)(v1 v2:AV)(h:Hp):Ch c v1 v2 h v1 v2 h:=⟨jL _,fun _ _ _ _ _=>rfl,fun _ h => .inl h,fun _ h => .inl h⟩
theorem Ch.trans {c:Nat}{v1 v2 u1 u2 w1 w2:AV}{a b d:Hp}(h1:Ch c v1 v2 a u1 u2 b)(h2:Ch c u1 u2 b w1 w2 d):Ch c v1 v2 a w1 w2 d:=by
 refine⟨qG h1.len h2.len,fun i hi hc hv hu => ?_,fun i hi => ?_,fun i hi => ?_⟩
 ·rw[h2.get i (Nat.lt_of_lt_of_le hi h1.len) hc (fun e=>(h1.n1 i e).elim hv (fun e=>by omega)) (fun e=>(h1.n2 i e).elim hu (fun e=>by omega)),h1.get i hi hc hv hu]
 ·rcases h2.n1 i hi with h | h
  ·exact h1.n1 i h
  ·exact .inr (qG h1.len h)
 ·rcases h2.n2 i hi with h | h
  ·exact h1.n2 i h
  ·exact .inr (qG h1.len h)
theorem Ch.app (c:Nat)(v1 v2:AV)(h x:Hp):Ch c v1 v2 h v1 v2 (h++x):=⟨by simp,fun _ hi _ _ _=>zO hi,fun _ h => .inl h,fun _ h => .inl h⟩
theorem Ch.set (c:Nat)(v1 v2:AV)(h:Hp)(x:ABlk):Ch c v1 v2 h v1 v2 (h.set c x):=⟨by simp,fun _ _ hc _ _=>by rw[zG,if_neg (fun e=>hc e.symm)],fun _ h => .inl h,fun _ h => .inl h⟩
theorem St.app {h:Hp}{c m1 m2 n dd:Nat}{f:Int}{v1 v2:AV}(s:St h c m1 m2 n dd f v1 v2)(x:Hp):St (h++x) c m1 m2 n dd f v1 v2:=by
 have keep : ∀ v m,sv h m v→sv (h++x) m v:=fun v m hv=>hv.keep (jL _) fun b hb=>by
  obtain⟨vs,h'⟩:=hv.b hb
  exact zO (CJ h')
 exact⟨F7 s.w,keep _ _ s.s1,keep _ _ s.s2,s.ap⟩
theorem St.set {h:Hp}{c m1 m2 n dd:Nat}{f:Int}{v1 v2:AV}(s:St h c m1 m2 n dd f v1 v2)(n' dd':Nat)(f':Int):St (h.set c (.live 5 [wRow n' dd' f' v1 v2])) c m1 m2 n' dd' f' v1 v2:=by
 have keep : ∀ v m,sv h m v→sv (h.set c (.live 5 [wRow n' dd' f' v1 v2])) m v:=fun v m hv=>hv.keep (jL _) fun b hb=>by
  rw[zG,if_neg (fun e=>hv.ne s.w hb e.symm)]
 exact⟨EG s.w,keep _ _ s.s1,keep _ _ s.s2,s.ap⟩
section
variable {h:Hp} {c m1 m2 n dd:Nat} {f:Int} {v1 v2:AV} (s:St h c m1 m2 n dd f v1 v2)
include s
theorem St.l0:D8 Tryz.prog h 3 (.ptr c 0 0)=some (.int .i64 n):=by rw[DY ag3 s.w (row:=wRow n dd f v1 v2) rfl]; rfl
theorem St.l1:D8 Tryz.prog h 3 (.ptr c 0 1)=some (.int .i64 dd):=by rw[DY ag3 s.w (row:=wRow n dd f v1 v2) rfl]; rfl
theorem St.l2:D8 Tryz.prog h 34 (.ptr c 0 2)=some (.int .i64 f):=by rw[DY AYZ s.w (row:=wRow n dd f v1 v2) rfl]; rfl
theorem St.l3:D8 Tryz.prog h 65 (.ptr c 0 3)=some v1:=by rw[DY AUY s.w (row:=wRow n dd f v1 v2) rfl]; rfl
theorem St.l4:D8 Tryz.prog h 65 (.ptr c 0 4)=some v2:=by rw[DY AUY s.w (row:=wRow n dd f v1 v2) rfl]; rfl
theorem St.t0 (x:Nat):FP Tryz.prog h 3 (.ptr c 0 0) (.int .i64 x)=some (h.set c (.live 5 [wRow x dd f v1 v2])):=by
 rw[JQ (QR _ _) sz3 s.w (row:=wRow n dd f v1 v2) rfl (by simp [wRow])]; rfl
theorem St.t1 (x:Nat):FP Tryz.prog h 3 (.ptr c 0 1) (.int .i64 x)=some (h.set c (.live 5 [wRow n x f v1 v2])):=by
 rw[JQ (QR _ _) sz3 s.w (row:=wRow n dd f v1 v2) rfl (by simp [wRow])]; rfl
theorem St.t2 (x:Int):FP Tryz.prog h 34 (.ptr c 0 2) (.int .i64 x)=some (h.set c (.live 5 [wRow n dd x v1 v2])):=by
 rw[JQ (QR _ _) A3K s.w (row:=wRow n dd f v1 v2) rfl (by simp [wRow])]; rfl
end
theorem St.app3 {h:Hp}{c m1 m2 n dd:Nat}{f:Int}{v1 v2:AV}(s:St h c m1 m2 n dd f v1 v2)(x:ByteArray)(hm:m1≤1099511627776) :
  ∃ v' h',GM Tryz.prog true h 65 65 v1 (.sl .full 1 [[.str x]])=some (v',h')∧FP Tryz.prog h' 65 (.ptr c 0 3) v'=some (h'.set c (.live 5 [wRow n dd f v' v2])) ∧
    St (h'.set c (.live 5 [wRow n dd f v' v2])) c (m1+1) m2 n dd f v' v2∧Ch c v1 v2 h v' v2 (h'.set c (.live 5 [wRow n dd f v' v2])):=by
 obtain⟨v',h',ha,hs,hb,hl,hk⟩:=AYV x s.s1 hm
 have hc1 : ¬ isB v1 c:=fun e=>s.s1.ne s.w e rfl
 have hc2 : ¬ isB v2 c:=fun e=>s.s2.ne s.w e rfl
 have hcl:=CJ s.w
 have hw:h'[c]? = some (.live 5 [wRow n dd f v1 v2]):=by rw[hk c hcl hc1]; exact s.w
 have hvc : ∀ b,isB v' b→b≠c:=fun b hb' e=>by have:=hb b hb'; omega
 have hac:JW v'=some [v']:=by
  obtain⟨vs,_,⟨_,k,rfl⟩ | ⟨b,rfl,_⟩⟩:=hs <;> rfl
 refine⟨v',h',ha,by rw[JQ hac A3I hw (row:=wRow n dd f v1 v2) rfl (by simp [wRow])]; rfl,⟨EG hw,hs.keep (jL _) fun b hb' => ?_,s.s2.keep (jL _) fun b hb' => ?_,fun b h1 h2 => ?_⟩,⟨by simpa using hl,fun b hbl hne h1 h2 => ?_,fun b hb' => .inr (by rw[hb b hb']; exact jL _),fun b hb' => .inl hb'⟩⟩
 ·rw[zG,if_neg (fun e=>hvc b hb' e.symm)]
 ·obtain⟨_,hx⟩:=s.s2.b hb'
  rw[zG,if_neg (fun e=>hc2 (by rw[e]; exact hb')),hk b (CJ hx) (fun e=>s.ap b e hb')]
 ·obtain⟨_,hx⟩:=s.s2.b h2
  have:=hb b h1; have:=CJ hx; omega
 ·rw[zG,if_neg (fun e=>hne e.symm),hk b hbl h1]
theorem St.app4 {h:Hp}{c m1 m2 n dd:Nat}{f:Int}{v1 v2:AV}(s:St h c m1 m2 n dd f v1 v2)(x:ByteArray)(hm:m2≤1099511627776) :
  ∃ v' h',GM Tryz.prog true h 65 65 v2 (.sl .full 1 [[.str x]])=some (v',h')∧FP Tryz.prog h' 65 (.ptr c 0 4) v'=some (h'.set c (.live 5 [wRow n dd f v1 v'])) ∧
    St (h'.set c (.live 5 [wRow n dd f v1 v'])) c m1 (m2+1) n dd f v1 v'∧Ch c v1 v2 h v1 v' (h'.set c (.live 5 [wRow n dd f v1 v'])):=by
 obtain⟨v',h',ha,hs,hb,hl,hk⟩:=AYV x s.s2 hm
 have hc1 : ¬ isB v1 c:=fun e=>s.s1.ne s.w e rfl
 have hc2 : ¬ isB v2 c:=fun e=>s.s2.ne s.w e rfl
 have hcl:=CJ s.w
 have hw:h'[c]? = some (.live 5 [wRow n dd f v1 v2]):=by rw[hk c hcl hc2]; exact s.w
 have hvc : ∀ b,isB v' b→b≠c:=fun b hb' e=>by have:=hb b hb'; omega
 have hac:JW v'=some [v']:=by
  obtain⟨vs,_,⟨_,k,rfl⟩ | ⟨b,rfl,_⟩⟩:=hs <;> rfl
 refine⟨v',h',ha,by rw[JQ hac A3I hw (row:=wRow n dd f v1 v2) rfl (by simp [wRow])]; rfl,⟨EG hw,s.s1.keep (jL _) fun b hb' => ?_,hs.keep (jL _) fun b hb' => ?_,fun b h1 h2 => ?_⟩,⟨by simpa using hl,fun b hbl hne h1 h2 => ?_,fun b hb' => .inl hb',fun b hb' => .inr (by rw[hb b hb']; exact jL _)⟩⟩
 ·obtain⟨_,hx⟩:=s.s1.b hb'
  rw[zG,if_neg (fun e=>hc1 (by rw[e]; exact hb')),hk b (CJ hx) (fun e=>s.ap b hb' e)]
 ·rw[zG,if_neg (fun e=>hvc b hb' e.symm)]
 ·obtain⟨_,hx⟩:=s.s1.b h1
  have:=hb b h2; have:=CJ hx; omega
 ·rw[zG,if_neg (fun e=>hne e.symm),hk b hbl h2]
def XY (z:Int)(xs:List Ex):Int:=xs.foldl (fun z e=>if z=0 then KX e else z) z
theorem AMT (z:Int)(xs ys:List Ex):XY z (xs++ys)=XY (XY z xs) ys:=List.foldl_append
theorem St.weak {h:Hp}{c m1 m2 m1' m2' n dd:Nat}{f:Int}{v1 v2:AV}(s:St h c m1 m2 n dd f v1 v2)(h1:m1≤m1')(h2:m2≤m2'):St h c m1' m2' n dd f v1 v2 :=
 ⟨s.w,s.s1.keep h1 fun _ _=>rfl,s.s2.keep h2 fun _ _=>rfl,s.ap⟩
def Md (e:Ex)(c d:Nat)(v1 v2:AV)(h:Hp)(m1 m2 n dd:Nat)(f:Int)(F:Nat→AV)(H:Hp):Prop :=
 F 0 = .ptr c 0 0∧F 2 = .int .i64 (d:Nat)∧F 4 = .ptr h.length 0 0∧∃ u1 u2,St H c m1 m2 n dd f u1 u2∧Ch c v1 v2 (h++[.live 4 [DX e]]) u1 u2 H
theorem ALK (xs:List Ex):(J4 xs).length≤wts xs:=by
 induction xs with
 | nil=>simp [J4,wts]
 | cons x xs ih=>have:=AIZ x; simp only[J4,wts,qA]; omega
theorem AKG : ∀ (xs:List Ex) (j:Nat) (hj:j < xs.length),wts (xs.take j)+wt xs[j]≤wts xs
 | x :: xs,0,_=>by simp [wts]
 | x :: xs,j+1,h=>by
   have:=AKG xs j (by simpa using h)
   simp only[List.take_succ_cons,wts,List.getElem_cons_succ]; omega
theorem AAQ : ∀ (xs:List Ex) (j:Nat),deps (xs.take j)≤wts xs
 | [],j=>by simp [deps,wts]
 | x :: xs,0=>by simp [deps]
 | x :: xs,j+1=>by
   have h1:=AAQ xs j
   have h2:=AX0 x
   simp only[List.take_succ_cons,deps,wts]; omega
theorem AZW (G:Nat→AV)(c:Nat)(e:Ex):WN e→∀ (h:Hp) (d n dd:Nat) (f:Int) (v1 v2:AV),d+wt e≤549755813888→n+wt e≤549755813888→dd≤1099511627776→St h c n n n dd f v1 v2 →
  ACalls (En G) 110 [.ptr c 0 0,.agg (DX e),.int .i64 (d:Nat)] h fun _ h' => ∃ u1 u2,St h' c (n+(pre e).length) (n+(pre e).length) (n+(pre e).length) (max dd (d+deps e.args)) (XY f (pre e)) u1 u2∧Ch c v1 v2 h u1 u2 h':=by
 induction e using Ex.induct with | h e ih => ?_
 intro hwn h d n dd f v1 v2 hd hn hdd s
 have hw:=hwn.1
 have hnm:e.name.size≤1048576:=hwn.2 e (by rw[pre_eq]; simp)
 have hal:e.args.length≤wts e.args:=VA e.args
 have hwe:=NF e
 have hcl:=CJ s.w
 have hbox : ∀ (u1 u2:AV) (H:Hp),Ch c v1 v2 (h++[.live 4 [DX e]]) u1 u2 H→H[h.length]? = some (.live 4 [DX e]):=by
  intro u1 u2 H hC
  rw[hC.get h.length (by simp) (by omega) (fun hb => ?_) (fun hb => ?_)]
  ·exact CZ _ _
  ·obtain⟨_,hx⟩:=s.s1.b hb
   have:=CJ hx; omega
  ·obtain⟨_,hx⟩:=s.s2.b hb
   have:=CJ hx; omega
 have lb0 : ∀ H:Hp,H[h.length]? = some (.live 4 [DX e])→D8 Tryz.prog H 3 (.ptr h.length 0 0)=some (.int .i64 e.op):=fun H hH=>by rw[DY ag3 hH (row:=DX e) rfl,KR]
 have lb2 : ∀ H:Hp,H[h.length]? = some (.live 4 [DX e])→D8 Tryz.prog H 9 (.ptr h.length 0 2)=some (.str e.name):=fun H hH=>by rw[DY ag9 hH (row:=DX e) rfl,QT]
 have lb3 : ∀ H:Hp,H[h.length]? = some (.live 4 [DX e])→D8 Tryz.prog H 46 (.ptr h.length 0 3)=some (.sl e.m 4 (e.args.map DX)):=fun H hH=>by rw[DY VT hH (row:=DX e) rfl,AAO]
 refine MJ (H:=hint [56,85] []) (enM G) Tryz.func110 rfl (by kernel_rfl) (by kernel_rfl) (jI (by kernel_rfl)) ?_
 show awp _ _ _ _ _ (EM _ [] _)
 have s0:=s.app [.live 4 [DX e]]
 have c0:=Ch.app c v1 v2 h [.live 4 [DX e]]
 simp -implicitDefEqProofs only[vQ,jR,jJ,jO,jQ,BD,↓reduceIte,jB,enP,AR7,AJS,jT,bxE,s0.l0,wrap_succ (show n < 9223372036854775807 by omega),s0.t0]
 have s1:=s0.set (n+1) dd f
 have c1:=Ch.set c v1 v2 (h++[.live 4 [DX e]]) (.live 5 [wRow (n+1) dd f v1 v2])
 clear s0
 generalize (h++[ABlk.live 4 [DX e]]).set c (.live 5 [wRow (n+1) dd f v1 v2])=H1 at s1 c1 ⊢
 simp -implicitDefEqProofs only[vQ,jR,jJ,jO,jQ,BD,↓reduceIte,jB,enP,s1.l1]
 refine U3 (Md e c d v1 v2 h n n (n+1) (max dd d) f) (fun _ _=>False) (fun hb => ?_) (fun hb => ?_) ?_ (fun _ _ hh=>hh.elim)
 ·simp -implicitDefEqProofs only[vQ,jR,jJ,jO,jQ,QI,BD,↓reduceIte,jB,enP,AJS,jT,s1.t1]
  refine⟨rfl,rfl,rfl,v1,v2,?_,c1.trans (Ch.set c _ _ _ _)⟩
  have:max dd d=d:=by simp at hb; omega
  rw[this]
  exact s1.set (n+1) d f
 ·simp -implicitDefEqProofs only[BO,QI]
  refine⟨rfl,rfl,rfl,v1,v2,?_,c1⟩
  have:max dd d=dd:=by simp at hb; omega
  rw[this]
  exact s1
 clear s1 c1
 rintro F H ⟨f0,f2,f4,u1,u2,s,hC⟩
 simp -implicitDefEqProofs only[vQ,jR,jJ,jO,jQ,BD,↓reduceIte,enP,AAK,f0,s.l2]
 refine U3 (Md e c d v1 v2 h n n (n+1) (max dd d) (XY f [e])) (fun _ _=>False) (fun hb => ?_) (fun hb => ?_) ?_ (fun _ _ hh=>hh.elim)
 ·simp -implicitDefEqProofs only[vQ,jR,jJ,jO,jQ,BD,↓reduceIte,jB,enP,f0,f2,f4,NM (hbox _ _ _ hC)]
  refine(ASM G e _ hnm).use ?_
  simp -implicitDefEqProofs only[vQ,jR,jJ,jO,jQ,QI,BD,↓reduceIte,jB,enP,AAK,jT,s.t2,f0,f2,f4]
  refine⟨f0,f2,f4,u1,u2,?_,hC.trans (Ch.set c _ _ _ _)⟩
  have:XY f [e]=KX e:=by
   have:f=0:=by simpa using hb
   subst this; rfl
  rw[this]
  exact s.set _ _ _
 ·simp -implicitDefEqProofs only[BO,QI]
  refine⟨f0,f2,f4,u1,u2,?_,hC⟩
  have:XY f [e]=f:=by
   have:f≠0:=by simpa using hb
   show(if f=0 then KX e else f)=f
   rw[if_neg this]
  rw[this]; exact s
 clear f0 f2 f4 s hC
 rintro F H ⟨f0,f2,f4,u1,u2,s,hC⟩
 simp -implicitDefEqProofs only[vQ]
 refine EY (by kernel_rfl) ?_
 have hB:=hbox _ _ _ hC
 refine AZA (fun F H=>(∃ b,F 47 = .bool b)∧Md e c d v1 v2 h n n (n+1) (max dd d) (XY f [e]) F H) ?_ ?_
 ·cases b2:(e.op == 2)
  ·simp -implicitDefEqProofs only[vQ,jR,jJ,jO,jQ,AA3,CP,EW,↓reduceIte,jB,jM,enP,I7,f0,f2,f4,lb0 _ hB,b2]
   exact⟨⟨_,rfl⟩,f0,f2,f4,u1,u2,s,hC⟩
  ·obtain⟨r,hr⟩:=AXG G e.name s.s1 (by omega)
   simp -implicitDefEqProofs only[vQ,jR,jJ,jO,jQ,QN,AGI,CP,↓reduceIte,jB,jM,enP,I7,MF,AR6,PV,f0,f2,f4,lb0 _ hB,lb2 _ hB,b2,s.l3]
   refine⟨_,hr,?_⟩
   simp -implicitDefEqProofs only[vQ,jR,jJ,jO,jQ,↓reduceIte,jB,jM,f0,f2,f4]
   exact⟨⟨_,rfl⟩,f0,f2,f4,u1,u2,s,hC⟩
 clear f0 f2 f4 s hC hB
 rintro F H ⟨⟨b,f47⟩,f0,f2,f4,u1,u2,s,hC⟩
 have hB:=hbox _ _ _ hC
 simp -implicitDefEqProofs only[vQ,f47]
 refine U3 (Md e c d v1 v2 h (n+1) n (n+1) (max dd d) (XY f [e])) (fun _ _=>False) (fun hb => ?_) (fun hb => ?_) ?_ (fun _ _ hh=>hh.elim)
 ·obtain⟨v',H',ha,ht,s',hC'⟩:=s.app3 e.name (by omega)
  refine EY (by kernel_rfl) ?_
  simp -implicitDefEqProofs only[vQ,jR,jJ,jO,jQ,IP,QI,↓reduceIte,jB,jM,enP,MF,AR6,jT,PV,f0,f2,f4,lb2 _ hB,s.l3,AYJ,ha,ht]
  exact⟨f0,f2,f4,_,_,s',hC.trans hC'⟩
 ·simp -implicitDefEqProofs only[BO,QI]
  exact⟨f0,f2,f4,_,_,s.weak (by omega) (by omega),hC⟩
 clear f0 f2 f4 s hC hB
 rintro F H ⟨f0,f2,f4,u1,u2,s,hC⟩
 have hB:=hbox _ _ _ hC
 simp -implicitDefEqProofs only[vQ]
 refine EY (by kernel_rfl) ?_
 refine AZA (fun F H=>(∃ b,F 76 = .bool b)∧Md e c d v1 v2 h (n+1) n (n+1) (max dd d) (XY f [e]) F H) ?_ ?_
 ·obtain⟨r,hr⟩:=AXG G e.name s.s2 (by omega)
  cases b2:(e.op == 3)
  ·cases b3:(e.op == 24)
   ·simp -implicitDefEqProofs only[vQ,jR,jJ,jO,jQ,SY,AA3,CP,EW,↓reduceIte,jB,jM,enP,I7,f0,f2,f4,lb0 _ hB,b2,b3]
    exact⟨⟨_,rfl⟩,f0,f2,f4,u1,u2,s,hC⟩
   ·simp -implicitDefEqProofs only[vQ,jR,jJ,jO,jQ,QN,SY,AGI,CP,↓reduceIte,jB,jM,enP,I7,MF,AJR,PV,f0,f2,f4,lb0 _ hB,lb2 _ hB,b2,b3,s.l4]
    refine⟨_,hr,?_⟩
    simp -implicitDefEqProofs only[vQ,jR,jJ,jO,jQ,↓reduceIte,jB,jM,f0,f2,f4]
    exact⟨⟨_,rfl⟩,f0,f2,f4,u1,u2,s,hC⟩
  ·simp -implicitDefEqProofs only[vQ,jR,jJ,jO,jQ,QN,AA4,AGI,CP,EW,↓reduceIte,jB,jM,enP,I7,MF,AJR,PV,f0,f2,f4,lb0 _ hB,lb2 _ hB,b2,s.l4]
   refine⟨_,hr,?_⟩
   simp -implicitDefEqProofs only[vQ,jR,jJ,jO,jQ,↓reduceIte,jB,jM,f0,f2,f4]
   exact⟨⟨_,rfl⟩,f0,f2,f4,u1,u2,s,hC⟩
 clear f0 f2 f4 s hC hB f47
 rintro F H ⟨⟨b,f76⟩,f0,f2,f4,u1,u2,s,hC⟩
 have hB:=hbox _ _ _ hC
 simp -implicitDefEqProofs only[vQ,f76]
 refine U3 (Md e c d v1 v2 h (n+1) (n+1) (n+1) (max dd d) (XY f [e])) (fun _ _=>False) (fun hb => ?_) (fun hb => ?_) ?_ (fun _ _ hh=>hh.elim)
 ·obtain⟨v',H',ha,ht,s',hC'⟩:=s.app4 e.name (by omega)
  refine EY (by kernel_rfl) ?_
  simp -implicitDefEqProofs only[vQ,jR,jJ,jO,jQ,Bool.or_true,IP,QI,↓reduceIte,jB,jM,enP,MF,AJR,jT,PV,f0,f2,f4,lb2 _ hB,s.l4,AYJ,ha,ht]
  exact⟨f0,f2,f4,_,_,s',hC.trans hC'⟩
 ·simp -implicitDefEqProofs only[BO,QI]
  exact⟨f0,f2,f4,_,_,s.weak (by omega) (by omega),hC⟩
 clear f0 f2 f4 s hC hB f76
 rintro F H ⟨f0,f2,f4,u1,u2,s,hC⟩
 simp -implicitDefEqProofs only[vQ,jR,jJ,jO,jQ,BD]
 refine DL (fun k F H => ∃ j,k+j=e.args.length∧F 6 = .int .i64 (j:Nat)∧Md e c d v1 v2 h (n+1+(J4 (e.args.take j)).length) (n+1+(J4 (e.args.take j)).length) (n+1+(J4 (e.args.take j)).length) (max dd (d+deps (e.args.take j))) (XY (XY f [e]) (J4 (e.args.take j))) F H) e.args.length ⟨0,by simp,rfl,f0,f2,f4,u1,u2,s,hC⟩ ?_
 clear f0 f2 f4 s hC
 rintro k F H ⟨j,hj,f6,f0,f2,f4,u1,u2,s,hC⟩
 have hB:=hbox _ _ _ hC
 simp -implicitDefEqProofs only[vQ,jR,jJ,jO,jQ,BD,↓reduceIte,jB,enP,WS,OA,f6,f4,lb3 _ hB,jH]
 refine CU (fun hlt => ?_) (fun hlt => ?_)
 ·have hj':j < e.args.length:=by simpa using hlt
  have hmem:e.args[j]∈e.args:=jP hj'
  have hwa:=U9 hmem
  have hpl:(J4 (e.args.take j)).length+(pre e.args[j]).length≤wts e.args:=by
   have h1:=ALK e.args
   have h2:J4 e.args=J4 (e.args.take j)++(pre e.args[j]++J4 (e.args.drop (j+1))):=by
    rw[← zH,← OY _ _ hj',← QH,List.take_append_drop]
   rw[h2] at h1; simp at h1; omega
  have hsp:(J4 (e.args.take j)).length+wt e.args[j]≤wts e.args:=by
   have h1:=ALK (e.args.take j)
   have h2:=AKG e.args j hj'
   omega
  have hdt:deps (e.args.take j)≤wts e.args:=AAQ e.args j
  simp -implicitDefEqProofs only[vQ,jR,jJ,jO,jQ,BD,↓reduceIte,jB,enP,AAC,OA,f0,f2,f4,f6,lb3 _ hB,DN hj',FU X4 N7 JE hj',wrap_succ (show d < 9223372036854775807 by omega)]
  refine(ih e.args[j] hmem ⟨by omega,fun x hx=>hwn.2 x (by rw[pre_eq]; exact wO _ (XJ hmem x hx))⟩ H (d+1) _ _ _ u1 u2 (by omega) (by omega) (by omega) s).mono ?_
  rintro v H' ⟨w1,w2,s',hC'⟩
  simp -implicitDefEqProofs only[vQ,jR,jJ,jO,jQ,BD,↓reduceIte,jB,enP,f6,wrap_succ (show j < 9223372036854775807 by omega)]
  refine⟨k - 1,by omega,j+1,by omega,rfl,f0,f2,f4,w1,w2,?_,hC.trans hC'⟩
  rw[OY _ _ hj',AH7 _ _ hj',AMT,qA]
  have e1:max (max dd (d+deps (e.args.take j))) (d+1+deps e.args[j].args)=max dd (d+max (deps (e.args.take j)) (dep e.args[j])):=by
   rw[AJY]; omega
  rw[e1,Nat.add_assoc (n+1)] at s'
  exact s'
 ·have hj' : ¬ j < e.args.length:=by simpa using hlt
  rw[jW (by omega)] at s
  simp -implicitDefEqProofs only[vQ,AFJ,↓reduceIte]
  refine⟨u1,u2,?_,c0.trans hC⟩
  have e1:n+1+(J4 e.args).length=n+(pre e).length:=by rw[pre_eq]; simp; omega
  have e2:XY (XY f [e]) (J4 e.args)=XY f (pre e):=by rw[pre_eq,← AMT]; rfl
  rw[e1,e2] at s
  exact s
theorem A7T:LM Tryz.prog 118 []=some (.agg [.int .i64 0,.int .i64 0,.int .i64 0,.sl .nil 0 [],.sl .nil 0 []]):=by kernel_rfl
theorem A66 (h:Hp):O7 h (.agg [.int .i64 0,.int .i64 0,.int .i64 0,.sl .nil 0 [],.sl .nil 0 []])=some (.ptr h.length 0 0,h++[.live 5 [wRow 0 0 0 (.sl .nil 0 []) (.sl .nil 0 [])]]):=VS rfl
theorem AWA (G:Nat→AV)(e:Ex)(hwn:WN e)(h:Hp) :
  ACalls (En G) 74 [.agg (DX e)] h fun v h' => ∃ c m u1 u2,v = .ptr c 0 0∧St h' c m m (pre e).length (dep e) (errs (pre e)) u1 u2∧∃ x,h'=h++x:=by
 refine acN Tryz.func74 rfl ?_
 show awp _ _ _ _ _ (EM _ [.tmp 2] _)
 simp -implicitDefEqProofs only[vQ,BD,A1Y,↓reduceIte,jB,enP,bxE,A7T,A66,NM (CX (CZ h _))]
 have nb : ∀ b,¬ isB (.sl .nil 0 []) b:=fun b hb=>hb
 have hw:=hwn.1
 refine(AZW G _ e hwn _ 1 0 0 0 (.sl .nil 0 []) (.sl .nil 0 []) (by omega) (by omega) (by omega) ⟨CZ _ _,⟨[],by simp,.inl ⟨rfl,_,rfl⟩⟩,⟨[],by simp,.inl ⟨rfl,_,rfl⟩⟩,fun b hb=>(nb b hb).elim⟩).mono ?_
 rintro v h' ⟨u1,u2,s,hC⟩
 simp -implicitDefEqProofs only[vQ,BD,↓reduceIte,jB]
 have e1:0+(pre e).length=(pre e).length:=jG _
 have e2:max 0 (1+deps e.args)=dep e:=by rw[AJY]; omega
 rw[e1,e2] at s
 refine⟨_,_,u1,u2,rfl,s,?_⟩
 have hC2:=((Ch.app (h++[ABlk.live 4 [DX e]]).length (.sl .nil 0 []) (.sl .nil 0 []) h [.live 4 [DX e]]).trans (Ch.app _ _ _ _ [.live 5 [wRow 0 0 0 (.sl .nil 0 []) (.sl .nil 0 [])]])).trans hC
 refine Chg.above (c:=(h++[ABlk.live 4 [DX e]]).length) ⟨hC2.len,fun b hb hne=>hC2.get b hb hne (nb b) (nb b)⟩ (by simp)
theorem AAL (G:Nat→AV)(e:Ex)(h:Hp)(hw:WN e):PCall (En G) 40 [.agg (DX e)] h (.int .i64 (exE e)):=by
 refine ACalls.pure0 rfl ?_
 refine acN Tryz.func40 rfl ?_
 show awp _ _ _ _ _ (EM _ [.tmp 2] _)
 simp -implicitDefEqProofs only[vQ,BD,↓reduceIte,jB,enP,bxE,ldE]
 refine(AWA G e hw _).mono ?_
 rintro v h' ⟨c,m,u1,u2,rfl,s,x,rfl⟩
 simp -implicitDefEqProofs only[vQ,CP,BD,↓reduceIte,enP,AAK,s.l2]
 rcases he:(errs (pre e) == 0) with _ | _
 ·simp -implicitDefEqProofs only[vQ,CP,BD,EW,↓reduceIte,jB,enP,AAK,s.l2]
  have:errs (pre e)≠0:=by simpa using he
  exact⟨by unfold exE; rw[if_neg (fun hh=>this hh.1)],_,by rw[zH]⟩
 have he0:errs (pre e)=0:=by simpa using he
 simp -implicitDefEqProofs only[vQ,CP,BD,↓reduceIte,jB,enP,AJS,s.l1]
 refine I4 (fun hd => ?_) (fun hd => ?_)
 ·simp -implicitDefEqProofs only[vQ,CP,BD,EW,↓reduceIte,jB,hd]
  exact⟨by unfold exE; rw[if_pos ⟨he0,.inl (by simp at hd; omega)⟩],_,by rw[zH]⟩
 simp -implicitDefEqProofs only[vQ,CP,BD,↓reduceIte,jB,enP,AR7,hd,s.l0]
 refine CU (fun hn => ?_) (fun hn => ?_)
 ·simp -implicitDefEqProofs only[vQ,BD,↓reduceIte]
  exact⟨by unfold exE; rw[if_pos ⟨he0,.inr (by simp at hn; omega)⟩],_,by rw[zH]⟩
 ·simp -implicitDefEqProofs only[vQ,BD,↓reduceIte,jB,enP,AAK,s.l2]
  exact⟨by unfold exE; rw[if_neg (fun hh=>by simp at hn hd; omega)],_,by rw[zH]⟩
theorem AMR (G:Nat→AV)(e:Ex)(h:Hp)(hw:wt e≤1048576):PCall (En G) 40 [.agg (DX e)] h (.int .i64 (exE e)):=AAL G e h (ASI hw)
structure Is where
 m:SM
 l:List Int
def encL (x:Is):List AV := [.sl x.m 1 (x.l.map qencI)]
theorem PT (x:Is):(encL x)[0]? = some (.sl x.m 1 (x.l.map qencI)):=rfl
theorem AFL (x:Is):(encL x).length=1:=rfl
structure Pt where
 name:ByteArray
 ex:Ex
 bm:SM
 bins:List Bin
def GI (p:Pt):List AV := .str p.name :: (DX p.ex++[.sl p.bm 4 (p.bins.map G9)])
theorem AMW (p:Pt):(GI p)[0]? = some (.str p.name):=rfl
theorem NG (p:Pt):(GI p)[5]? = some (.sl p.bm 4 (p.bins.map G9)):=by unfold GI; rw[JJ]; rfl
theorem JL (p:Pt):(GI p).length=6:=by unfold GI; rw[JJ]; rfl
theorem ABX (p:Pt):(GI p).all AV.leaf=true:=by unfold GI; rw[JJ]; rfl
theorem AR8 (p:Pt):((GI p).drop 1).take 4=DX p.ex:=by unfold GI; rw[JJ]; rfl
theorem bxP (h:Hp)(p:Pt):O7 h (.agg (GI p))=some (.ptr h.length 0 0,h++[.live 6 [GI p]]):=by
 have:=VS (h:=h) (ABX p)
 rw[JL] at this; exact this
theorem AI9 {h:Hp}{b:Nat}{p:Pt}(hb:h[b]? = some (.live 6 [GI p])):D8 Tryz.prog h 48 (.ptr b 0 1)=some (.agg (DX p.ex)):=by
 rw[IJ X4 N7 hb rfl (by rw[JL]; omega),AR8]
structure Cr where
 name:ByteArray
 pm:SM
 pts:List Int
 xm:SM
 excl:List Is
def GV (c:Cr):List AV := [.str c.name,.sl c.pm 1 (c.pts.map qencI),.sl c.xm 1 (c.excl.map encL)]
theorem AMY (c:Cr):(GV c)[0]? = some (.str c.name):=rfl
theorem QJ (c:Cr):(GV c)[1]? = some (.sl c.pm 1 (c.pts.map qencI)):=rfl
theorem ASA (c:Cr):(GV c)[2]? = some (.sl c.xm 1 (c.excl.map encL)):=rfl
theorem KH (c:Cr):(GV c).length=3:=rfl
theorem bxC (h:Hp)(c:Cr):O7 h (.agg (GV c))=some (.ptr h.length 0 0,h++[.live 3 [GV c]]):=rfl
structure Mo where
 pm:SM
 pts:List Pt
 cm:SM
 crs:List Cr
def EE (m:Mo):List AV := [.sl m.pm 6 (m.pts.map GI),.sl m.cm 3 (m.crs.map GV)]
theorem SL (m:Mo):(EE m)[0]? = some (.sl m.pm 6 (m.pts.map GI)):=rfl
theorem U2 (m:Mo):(EE m)[1]? = some (.sl m.cm 3 (m.crs.map GV)):=rfl
theorem AXT (m:Mo):(EE m).length=2:=rfl
theorem bxM (h:Hp)(m:Mo):O7 h (.agg (EE m))=some (.ptr h.length 0 0,h++[.live 2 [EE m]]):=rfl
def AGX:List ByteArray→List ByteArray→Bool
 | _,[]=>false
 | seen,x :: xs=>JG seen x || AGX (seen++[x]) xs
def PP (l:List ByteArray):Bool:=AGX [] l
theorem RQ (N:List ByteArray)(i:Nat)(hi:i < N.length):AGX (N.take i) (N.drop i)=(JG (N.take i) N[i] || AGX (N.take (i+1)) (N.drop (i+1))):=by
 rw[zK hi,zN hi]; rfl
theorem IC {α:Type}{l:List α}{i:Nat}{hi:i < l.length}{x:α}(h:l[i]? = some x):l[i]=x:=by
 rw[jS hi] at h; exact Option.some.inj h
theorem ARS (G:Nat→AV)(x:Bin)(h:Hp):PCall (En G) 85 [.agg (G9 x)] h (.str x.name):=by
 refine ACalls.pure0 rfl ?_
 refine acN Tryz.func85 rfl ?_
 show awp _ _ _ _ _ (EM _ [.tmp 2] _)
 simp -implicitDefEqProofs only[vQ,BD,↓reduceIte,jB,enP,AFE,bxB,DW ag9,AMZ]
 exact⟨trivial,_,rfl⟩
theorem AS9 (G:Nat→AV)(xs:List Bin)(m:SM)(h:Hp)(hl:xs.length≤1099511627776) :
  PCall (En G) 84 [.sl m 4 (xs.map G9),.fn (.func 85) [] []] h (.bool (PP (xs.map (·.name)))):=by
 refine acN Tryz.func84 rfl ?_
 show awp _ _ _ _ _ (EM _ [.tmp 4] _)
 simp -implicitDefEqProofs only[vQ,BD,↓reduceIte,jB,enP,PE,jH]
 generalize hN:xs.map (·.name)=N
 have hNl:N.length=xs.length:=by rw[← hN]; simp
 have hNi : ∀ i (hi:i < xs.length),N[i]? = some xs[i].name:=fun i hi=>by rw[← hN,jY,jS hi]; rfl
 refine DL (fun n F H => ∃ i,n+i=xs.length∧F 0 = .sl m 4 (xs.map G9)∧F 1 = .fn (.func 85) [] []∧F 8 = .int .i64 xs.length∧F 9 = .int .i64 (i:Nat)∧H=h∧PP N=AGX (N.take i) (N.drop i)) xs.length ⟨0,by simp,by simp -implicitDefEqProofs only[vQ,↓reduceIte,jB],by simp -implicitDefEqProofs only[vQ,↓reduceIte,jB],by simp -implicitDefEqProofs only[AA,↓reduceIte,jB],by simp -implicitDefEqProofs only[AA,↓reduceIte]; rfl,rfl,rfl⟩ ?_
 rintro n F H ⟨i,hi,f0,f1,f8,f9,rfl,hd⟩
 simp -implicitDefEqProofs only[vQ,BD,↓reduceIte,enP,f8,f9]
 refine CU (fun hc => ?_) (fun hc => ?_)
 ·have hi':i < xs.length:=by simpa using hc
  have hdrop:=RQ N i (by omega)
  rw[IC (hNi i hi')] at hdrop
  simp -implicitDefEqProofs only[vQ,BD,↓reduceIte,jB,f9]
  refine GZ 2 (fun F' H'=>F' 0 = .sl m 4 (xs.map G9)∧F' 1 = .fn (.func 85) [] []∧F' 8 = .int .i64 xs.length∧F' 9 = .int .i64 (i:Nat)∧H'=H∧JG (N.take i) xs[i].name=false) (fun F' H'=>F' 4 = .bool (PP N)∧H'=H) ?_ ?_ ?_
  ·refine DL (fun n F' H' => ∃ k,n+k=i∧F' 0 = .sl m 4 (xs.map G9)∧F' 1 = .fn (.func 85) [] []∧F' 8 = .int .i64 xs.length∧F' 9 = .int .i64 (i:Nat)∧F' 5 = .int .i64 (i:Nat)∧F' 12 = .int .i64 (i:Nat)∧F' 13 = .int .i64 (k:Nat)∧H'=H∧JG (N.take i) xs[i].name=JG ((N.take i).drop k) xs[i].name) i ⟨0,by simp,by simp -implicitDefEqProofs only[AA,↓reduceIte,jB,f0],by simp -implicitDefEqProofs only[AA,↓reduceIte,jB,f1],by simp -implicitDefEqProofs only[AA,↓reduceIte,jB,f8],by simp -implicitDefEqProofs only[AA,↓reduceIte,jB,f9],by simp -implicitDefEqProofs only[AA,↓reduceIte,jB],by simp -implicitDefEqProofs only[AA,↓reduceIte,jB],by simp -implicitDefEqProofs only[AA,↓reduceIte]; rfl,rfl,rfl⟩ ?_
   clear f0 f1 f8 f9
   rintro n' F H' ⟨k,hk,f0,f1,f8,f9,f5,f12,f13,rfl,hin⟩
   simp -implicitDefEqProofs only[vQ,BD,↓reduceIte,enP,f12,f13]
   refine CU (fun hc => ?_) (fun hc => ?_)
   ·have hk':k < i:=by simpa using hc
    have hk2:k < xs.length:=by omega
    have hs:=KT (fun u=>xs[i].name.toList == u.toList) (N.take i) k (by rw[zJ]; omega)
    have hx:(N.take i)[k]'(by rw[zJ]; omega)=xs[k].name:=by
     rw[List.getElem_take]; exact IC (hNi k hk2)
    rw[hx] at hs
    simp -implicitDefEqProofs only[vQ,BD,↓reduceIte,jB,f13]
    refine EY (by kernel_rfl) ?_
    simp -implicitDefEqProofs only[vQ,↓reduceIte,jB,jM,enP,SA,f0,f1,f5,DN hi',DN hk2,FU AC6 YQ MG hi',FU AC6 YQ MG hk2]
    refine⟨_,ARS G xs[i] _,?_⟩
    refine⟨_,ARS G xs[k] _,?_⟩
    try simp -implicitDefEqProofs only[vQ,LV,↓reduceIte]
    refine CU (fun hb => ?_) (fun hb => ?_)
    ·simp -implicitDefEqProofs only[vQ,BD,↓reduceIte]
     refine⟨?_,trivial⟩
     have:JG (N.take i) xs[i].name=true:=by
      rw[hin]; unfold JG; rw[hs,hb]; rfl
     rw[hd,hdrop,this]; rfl
    ·simp -implicitDefEqProofs only[vQ,BD,↓reduceIte,jB,enP,f13,wrap_succ (show k < 9223372036854775807 by omega)]
     refine⟨n' - 1,by omega,k+1,by omega,f0,f1,f8,f9,f5,f12,rfl,trivial,?_⟩
     rw[hin]; unfold JG; rw[hs,hb]; rfl
   ·have hk' : ¬ k < i:=by simpa using hc
    simp -implicitDefEqProofs only[vQ,↓reduceIte,jB]
    refine⟨f0,f1,f8,f9,trivial,?_⟩
    rw[hin,jV (by rw[zJ]; omega)]; rfl
  ·rintro F' H' ⟨g0,g1,g8,g9,rfl,hn⟩
   simp -implicitDefEqProofs only[vQ,BD,↓reduceIte,jB,enP,g9,wrap_succ (show i < 9223372036854775807 by omega)]
   refine⟨n - 1,by omega,i+1,by omega,g0,g1,g8,rfl,trivial,?_⟩
   rw[hd,hdrop,hn]; rfl
  ·rintro F' H' ⟨g4,rfl⟩
   simp -implicitDefEqProofs only[vQ,g4]
   exact⟨trivial,trivial⟩
 ·have hi' : ¬ i < xs.length:=by simpa using hc
  simp -implicitDefEqProofs only[vQ,BD,↓reduceIte]
  exact⟨by rw[hd,jV (by omega)]; rfl,trivial⟩
theorem ARQ (G:Nat→AV)(x:Pt)(h:Hp):PCall (En G) 52 [.agg (GI x)] h (.str x.name):=by
 refine ACalls.pure0 rfl ?_
 refine acN Tryz.func52 rfl ?_
 show awp _ _ _ _ _ (EM _ [.tmp 2] _)
 simp -implicitDefEqProofs only[vQ,BD,↓reduceIte,jB,enP,AFF,bxP,DW ag9,AMW]
 exact⟨trivial,_,rfl⟩
theorem AS7 (G:Nat→AV)(xs:List Pt)(m:SM)(h:Hp)(hl:xs.length≤1099511627776) :
  PCall (En G) 51 [.sl m 6 (xs.map GI),.fn (.func 52) [] []] h (.bool (PP (xs.map (·.name)))):=by
 refine acN Tryz.func51 rfl ?_
 show awp _ _ _ _ _ (EM _ [.tmp 4] _)
 simp -implicitDefEqProofs only[vQ,BD,↓reduceIte,jB,enP,OE,jH]
 generalize hN:xs.map (·.name)=N
 have hNl:N.length=xs.length:=by rw[← hN]; simp
 have hNi : ∀ i (hi:i < xs.length),N[i]? = some xs[i].name:=fun i hi=>by rw[← hN,jY,jS hi]; rfl
 refine DL (fun n F H => ∃ i,n+i=xs.length∧F 0 = .sl m 6 (xs.map GI)∧F 1 = .fn (.func 52) [] []∧F 8 = .int .i64 xs.length∧F 9 = .int .i64 (i:Nat)∧H=h∧PP N=AGX (N.take i) (N.drop i)) xs.length ⟨0,by simp,by simp -implicitDefEqProofs only[vQ,↓reduceIte,jB],by simp -implicitDefEqProofs only[vQ,↓reduceIte,jB],by simp -implicitDefEqProofs only[AA,↓reduceIte,jB],by simp -implicitDefEqProofs only[AA,↓reduceIte]; rfl,rfl,rfl⟩ ?_
 rintro n F H ⟨i,hi,f0,f1,f8,f9,rfl,hd⟩
 simp -implicitDefEqProofs only[vQ,BD,↓reduceIte,enP,f8,f9]
 refine CU (fun hc => ?_) (fun hc => ?_)
 ·have hi':i < xs.length:=by simpa using hc
  have hdrop:=RQ N i (by omega)
  rw[IC (hNi i hi')] at hdrop
  simp -implicitDefEqProofs only[vQ,BD,↓reduceIte,jB,f9]
  refine GZ 2 (fun F' H'=>F' 0 = .sl m 6 (xs.map GI)∧F' 1 = .fn (.func 52) [] []∧F' 8 = .int .i64 xs.length∧F' 9 = .int .i64 (i:Nat)∧H'=H∧JG (N.take i) xs[i].name=false) (fun F' H'=>F' 4 = .bool (PP N)∧H'=H) ?_ ?_ ?_
  ·refine DL (fun n F' H' => ∃ k,n+k=i∧F' 0 = .sl m 6 (xs.map GI)∧F' 1 = .fn (.func 52) [] []∧F' 8 = .int .i64 xs.length∧F' 9 = .int .i64 (i:Nat)∧F' 5 = .int .i64 (i:Nat)∧F' 12 = .int .i64 (i:Nat)∧F' 13 = .int .i64 (k:Nat)∧H'=H∧JG (N.take i) xs[i].name=JG ((N.take i).drop k) xs[i].name) i ⟨0,by simp,by simp -implicitDefEqProofs only[AA,↓reduceIte,jB,f0],by simp -implicitDefEqProofs only[AA,↓reduceIte,jB,f1],by simp -implicitDefEqProofs only[AA,↓reduceIte,jB,f8],by simp -implicitDefEqProofs only[AA,↓reduceIte,jB,f9],by simp -implicitDefEqProofs only[AA,↓reduceIte,jB],by simp -implicitDefEqProofs only[AA,↓reduceIte,jB],by simp -implicitDefEqProofs only[AA,↓reduceIte]; rfl,rfl,rfl⟩ ?_
   clear f0 f1 f8 f9
   rintro n' F H' ⟨k,hk,f0,f1,f8,f9,f5,f12,f13,rfl,hin⟩
   simp -implicitDefEqProofs only[vQ,BD,↓reduceIte,enP,f12,f13]
   refine CU (fun hc => ?_) (fun hc => ?_)
   ·have hk':k < i:=by simpa using hc
    have hk2:k < xs.length:=by omega
    have hs:=KT (fun u=>xs[i].name.toList == u.toList) (N.take i) k (by rw[zJ]; omega)
    have hx:(N.take i)[k]'(by rw[zJ]; omega)=xs[k].name:=by
     rw[List.getElem_take]; exact IC (hNi k hk2)
    rw[hx] at hs
    simp -implicitDefEqProofs only[vQ,BD,↓reduceIte,jB,f13]
    refine EY (by kernel_rfl) ?_
    simp -implicitDefEqProofs only[vQ,↓reduceIte,jB,jM,enP,PG,f0,f1,f5,DN hi',DN hk2,FU AC7 ZP JL hi',FU AC7 ZP JL hk2]
    refine⟨_,ARQ G xs[i] _,?_⟩
    refine⟨_,ARQ G xs[k] _,?_⟩
    try simp -implicitDefEqProofs only[vQ,LV,↓reduceIte]
    refine CU (fun hb => ?_) (fun hb => ?_)
    ·simp -implicitDefEqProofs only[vQ,BD,↓reduceIte]
     refine⟨?_,trivial⟩
     have:JG (N.take i) xs[i].name=true:=by
      rw[hin]; unfold JG; rw[hs,hb]; rfl
     rw[hd,hdrop,this]; rfl
    ·simp -implicitDefEqProofs only[vQ,BD,↓reduceIte,jB,enP,f13,wrap_succ (show k < 9223372036854775807 by omega)]
     refine⟨n' - 1,by omega,k+1,by omega,f0,f1,f8,f9,f5,f12,rfl,trivial,?_⟩
     rw[hin]; unfold JG; rw[hs,hb]; rfl
   ·have hk' : ¬ k < i:=by simpa using hc
    simp -implicitDefEqProofs only[vQ,↓reduceIte,jB]
    refine⟨f0,f1,f8,f9,trivial,?_⟩
    rw[hin,jV (by rw[zJ]; omega)]; rfl
  ·rintro F' H' ⟨g0,g1,g8,g9,rfl,hn⟩
   simp -implicitDefEqProofs only[vQ,BD,↓reduceIte,jB,enP,g9,wrap_succ (show i < 9223372036854775807 by omega)]
   refine⟨n - 1,by omega,i+1,by omega,g0,g1,g8,rfl,trivial,?_⟩
   rw[hd,hdrop,hn]; rfl
  ·rintro F' H' ⟨g4,rfl⟩
   simp -implicitDefEqProofs only[vQ,g4]
   exact⟨trivial,trivial⟩
 ·have hi' : ¬ i < xs.length:=by simpa using hc
  simp -implicitDefEqProofs only[vQ,BD,↓reduceIte]
  exact⟨by rw[hd,jV (by omega)]; rfl,trivial⟩
theorem ARR (G:Nat→AV)(x:Cr)(h:Hp):PCall (En G) 55 [.agg (GV x)] h (.str x.name):=by
 refine ACalls.pure0 rfl ?_
 refine acN Tryz.func55 rfl ?_
 show awp _ _ _ _ _ (EM _ [.tmp 2] _)
 simp -implicitDefEqProofs only[vQ,BD,↓reduceIte,jB,enP,AFD,bxC,DW ag9,AMY]
 exact⟨trivial,_,rfl⟩
theorem AS8 (G:Nat→AV)(xs:List Cr)(m:SM)(h:Hp)(hl:xs.length≤1099511627776) :
  PCall (En G) 54 [.sl m 3 (xs.map GV),.fn (.func 55) [] []] h (.bool (PP (xs.map (·.name)))):=by
 refine acN Tryz.func54 rfl ?_
 show awp _ _ _ _ _ (EM _ [.tmp 4] _)
 simp -implicitDefEqProofs only[vQ,BD,↓reduceIte,jB,enP,UU,jH]
 generalize hN:xs.map (·.name)=N
 have hNl:N.length=xs.length:=by rw[← hN]; simp
 have hNi : ∀ i (hi:i < xs.length),N[i]? = some xs[i].name:=fun i hi=>by rw[← hN,jY,jS hi]; rfl
 refine DL (fun n F H => ∃ i,n+i=xs.length∧F 0 = .sl m 3 (xs.map GV)∧F 1 = .fn (.func 55) [] []∧F 8 = .int .i64 xs.length∧F 9 = .int .i64 (i:Nat)∧H=h∧PP N=AGX (N.take i) (N.drop i)) xs.length ⟨0,by simp,by simp -implicitDefEqProofs only[vQ,↓reduceIte,jB],by simp -implicitDefEqProofs only[vQ,↓reduceIte,jB],by simp -implicitDefEqProofs only[AA,↓reduceIte,jB],by simp -implicitDefEqProofs only[AA,↓reduceIte]; rfl,rfl,rfl⟩ ?_
 rintro n F H ⟨i,hi,f0,f1,f8,f9,rfl,hd⟩
 simp -implicitDefEqProofs only[vQ,BD,↓reduceIte,enP,f8,f9]
 refine CU (fun hc => ?_) (fun hc => ?_)
 ·have hi':i < xs.length:=by simpa using hc
  have hdrop:=RQ N i (by omega)
  rw[IC (hNi i hi')] at hdrop
  simp -implicitDefEqProofs only[vQ,BD,↓reduceIte,jB,f9]
  refine GZ 2 (fun F' H'=>F' 0 = .sl m 3 (xs.map GV)∧F' 1 = .fn (.func 55) [] []∧F' 8 = .int .i64 xs.length∧F' 9 = .int .i64 (i:Nat)∧H'=H∧JG (N.take i) xs[i].name=false) (fun F' H'=>F' 4 = .bool (PP N)∧H'=H) ?_ ?_ ?_
  ·refine DL (fun n F' H' => ∃ k,n+k=i∧F' 0 = .sl m 3 (xs.map GV)∧F' 1 = .fn (.func 55) [] []∧F' 8 = .int .i64 xs.length∧F' 9 = .int .i64 (i:Nat)∧F' 5 = .int .i64 (i:Nat)∧F' 12 = .int .i64 (i:Nat)∧F' 13 = .int .i64 (k:Nat)∧H'=H∧JG (N.take i) xs[i].name=JG ((N.take i).drop k) xs[i].name) i ⟨0,by simp,by simp -implicitDefEqProofs only[AA,↓reduceIte,jB,f0],by simp -implicitDefEqProofs only[AA,↓reduceIte,jB,f1],by simp -implicitDefEqProofs only[AA,↓reduceIte,jB,f8],by simp -implicitDefEqProofs only[AA,↓reduceIte,jB,f9],by simp -implicitDefEqProofs only[AA,↓reduceIte,jB],by simp -implicitDefEqProofs only[AA,↓reduceIte,jB],by simp -implicitDefEqProofs only[AA,↓reduceIte]; rfl,rfl,rfl⟩ ?_
   clear f0 f1 f8 f9
   rintro n' F H' ⟨k,hk,f0,f1,f8,f9,f5,f12,f13,rfl,hin⟩
   simp -implicitDefEqProofs only[vQ,BD,↓reduceIte,enP,f12,f13]
   refine CU (fun hc => ?_) (fun hc => ?_)
   ·have hk':k < i:=by simpa using hc
    have hk2:k < xs.length:=by omega
    have hs:=KT (fun u=>xs[i].name.toList == u.toList) (N.take i) k (by rw[zJ]; omega)
    have hx:(N.take i)[k]'(by rw[zJ]; omega)=xs[k].name:=by
     rw[List.getElem_take]; exact IC (hNi k hk2)
    rw[hx] at hs
    simp -implicitDefEqProofs only[vQ,BD,↓reduceIte,jB,f13]
    refine EY (by kernel_rfl) ?_
    simp -implicitDefEqProofs only[vQ,↓reduceIte,jB,jM,enP,P5,f0,f1,f5,DN hi',DN hk2,FU AAZ XV KH hi',FU AAZ XV KH hk2]
    refine⟨_,ARR G xs[i] _,?_⟩
    refine⟨_,ARR G xs[k] _,?_⟩
    try simp -implicitDefEqProofs only[vQ,LV,↓reduceIte]
    refine CU (fun hb => ?_) (fun hb => ?_)
    ·simp -implicitDefEqProofs only[vQ,BD,↓reduceIte]
     refine⟨?_,trivial⟩
     have:JG (N.take i) xs[i].name=true:=by
      rw[hin]; unfold JG; rw[hs,hb]; rfl
     rw[hd,hdrop,this]; rfl
    ·simp -implicitDefEqProofs only[vQ,BD,↓reduceIte,jB,enP,f13,wrap_succ (show k < 9223372036854775807 by omega)]
     refine⟨n' - 1,by omega,k+1,by omega,f0,f1,f8,f9,f5,f12,rfl,trivial,?_⟩
     rw[hin]; unfold JG; rw[hs,hb]; rfl
   ·have hk' : ¬ k < i:=by simpa using hc
    simp -implicitDefEqProofs only[vQ,↓reduceIte,jB]
    refine⟨f0,f1,f8,f9,trivial,?_⟩
    rw[hin,jV (by rw[zJ]; omega)]; rfl
  ·rintro F' H' ⟨g0,g1,g8,g9,rfl,hn⟩
   simp -implicitDefEqProofs only[vQ,BD,↓reduceIte,jB,enP,g9,wrap_succ (show i < 9223372036854775807 by omega)]
   refine⟨n - 1,by omega,i+1,by omega,g0,g1,g8,rfl,trivial,?_⟩
   rw[hd,hdrop,hn]; rfl
  ·rintro F' H' ⟨g4,rfl⟩
   simp -implicitDefEqProofs only[vQ,g4]
   exact⟨trivial,trivial⟩
 ·have hi' : ¬ i < xs.length:=by simpa using hc
  simp -implicitDefEqProofs only[vQ,BD,↓reduceIte]
  exact⟨by rw[hd,jV (by omega)]; rfl,trivial⟩
def KC {α:Type}(f:α→Int):List α→Int
 | []=>0
 | x :: xs=>if f x=0 then KC f xs else f x
theorem O4 {α:Type}(f:α→Int)(xs:List α)(k:Nat)(hk:k < xs.length):KC f (xs.drop k)=if f xs[k]=0 then KC f (xs.drop (k+1)) else f xs[k]:=by
 rw[zK hk]; rfl
def G6 (p:Pt):Int :=
 if IM p.name=false then 7 else if exE p.ex≠0 then exE p.ex else if p.bins.length=0 then 1 else if 64 < p.bins.length then 2 else
  if KC IA p.bins≠0 then KC IA p.bins else if PP (p.bins.map (·.name)) then 8 else 0
structure PtOk (p:Pt):Prop where
 ex:wt p.ex≤1048576
 name:p.name.size≤1048576
 num:p.bins.length≤1048576
 bins : ∀ b∈p.bins,BinOk b
theorem AYX (h:Hp):KN Tryz.prog h 56=some (.ptr h.length 0 0,h++[.live 4 [[.str ⟨#[]⟩,.int .i64 0,.sl .nil 0 [],.sl .nil 0 []]]]):=KD (row := [.str ⟨#[]⟩,.int .i64 0,.sl .nil 0 [],.sl .nil 0 []]) (by kernel_rfl)
theorem AZN (h:Hp)(b:Bin)(row:List AV)(hr:row.length=4):FP Tryz.prog (h++[.live 4 [row]]) 56 (.ptr h.length 0 0) (.agg (G9 b))=some (h++[.live 4 [G9 b]]):=by
 rw[OW (QS rfl) (by rw[MG]; exact YQ) (by rw[MG,hr]; exact jL _)]
 have:splice row 0 (G9 b)=G9 b:=by unfold splice; simp [MG,hr]
 rw[this]
theorem AEF (G:Nat→AV)(hG:GOk G)(p:Pt)(hp:PtOk p)(h:Hp):PCall (En G) 50 [.agg (GI p)] h (.int .i64 (G6 p)):=by
 refine ACalls.pure0 rfl ?_
 have hp1:=hp.ex
 have hp2:=hp.name
 have hp3:=hp.num
 refine acN Tryz.func50 rfl ?_
 show awp _ _ _ _ _ (EM _ [.tmp 2] _)
 simp -implicitDefEqProofs only[vQ,BD,↓reduceIte,jB,enP,AFF,bxP,DW ag9,AMW]
 refine(O1 G hG.kw p.name _ (by omega)).use ?_
 simp -implicitDefEqProofs only[vQ,BD,↓reduceIte]
 cases h1:IM p.name
 ·simp -implicitDefEqProofs only[vQ,BD,↓reduceIte]
  exact⟨by unfold G6; rw[if_pos h1],_,rfl⟩
 have h1' : ¬ IM p.name=false:=by rw[h1]; decide
 simp -implicitDefEqProofs only[vQ,BD,↓reduceIte,jB,jU,enP,Y6,AI9 (CZ h _)]
 refine(AAM G hG p.ex _ hp1).use ?_
 simp -implicitDefEqProofs only[vQ,BD,↓reduceIte,enP]
 refine CU (fun h2 => ?_) (fun h2 => ?_)
 ·simp -implicitDefEqProofs only[vQ,BD,↓reduceIte,jB]
  exact⟨by unfold G6; rw[if_neg h1',if_pos (by simpa using h2)],_,rfl⟩
 have h2' : ¬ exE p.ex≠0:=by simpa using h2
 simp -implicitDefEqProofs only[vQ,BD,↓reduceIte,jB,enP,PE,IE,DW RD,NG,jH]
 refine CU (fun h3 => ?_) (fun h3 => ?_)
 ·simp -implicitDefEqProofs only[vQ,BD,↓reduceIte]
  exact⟨by unfold G6; rw[if_neg h1',if_neg h2',if_pos (by simp at h3; simpa using h3)],_,rfl⟩
 have h3' : ¬ p.bins.length=0:=by simp at h3; simpa using h3
 simp -implicitDefEqProofs only[vQ,BD,↓reduceIte,jB,enP,PE,IE,DW RD,NG,jH]
 refine CU (fun h4 => ?_) (fun h4 => ?_)
 ·simp -implicitDefEqProofs only[vQ,BD,↓reduceIte]
  exact⟨by unfold G6; rw[if_neg h1',if_neg h2',if_neg h3',if_pos (by simp at h4; omega)],_,rfl⟩
 have h4' : ¬ 64 < p.bins.length:=by simp at h4; omega
 have hpt:G6 p=if KC IA p.bins≠0 then KC IA p.bins else if PP (p.bins.map (·.name)) then 8 else 0:=by
  unfold G6; rw[if_neg h1',if_neg h2',if_neg h3',if_neg h4']
 simp -implicitDefEqProofs only[vQ,BD,↓reduceIte,jB,enP,PE,IE,DW RD,NG,jH]
 refine GZ 1 (fun F H=>F 1 = .ptr h.length 0 0∧H[h.length]? = some (.live 6 [GI p])∧(∃ x,H=h++x)∧KC IA p.bins=0) (fun F H=>F 2 = .int .i64 (G6 p)∧∃ x,H=h++x) ?_ ?_ ?_
 ·refine DL (fun n F H => ∃ k,n+k=p.bins.length∧F 1 = .ptr h.length 0 0∧F 28 = .sl p.bm 4 (p.bins.map G9)∧F 29 = .int .i64 p.bins.length∧F 30 = .int .i64 (k:Nat)∧H[h.length]? = some (.live 6 [GI p])∧(∃ x,H=h++x)∧KC IA p.bins=KC IA (p.bins.drop k)) p.bins.length ⟨0,by simp,by simp -implicitDefEqProofs only[AA,↓reduceIte,jB],by simp -implicitDefEqProofs only[AA,↓reduceIte,jB],by simp -implicitDefEqProofs only[AA,↓reduceIte,jB],by simp -implicitDefEqProofs only[AA,↓reduceIte]; rfl,CZ _ _,⟨_,rfl⟩,rfl⟩ ?_
  rintro n F H ⟨k,hk,f1,f28,f29,f30,hb,⟨x,hx⟩,hf⟩
  simp -implicitDefEqProofs only[vQ,BD,↓reduceIte,enP,f29,f30]
  refine CU (fun hc => ?_) (fun hc => ?_)
  ·have hk':k < p.bins.length:=by simpa using hc
   have hs:=O4 IA p.bins k hk'
   simp -implicitDefEqProofs only[vQ,BD,↓reduceIte,jB,enP,SA,jT,f28,f30,DN hk',FU AC6 YQ MG hk',AYX,AZN _ _ [.str ⟨#[]⟩,.int .i64 0,.sl .nil 0 [],.sl .nil 0 []] rfl,ldB]
   refine(valid_prog G hG.kw p.bins[k] (hp.bins _ (jP hk')) _).use ?_
   simp -implicitDefEqProofs only[vQ,BD,↓reduceIte,enP]
   refine CU (fun hv => ?_) (fun hv => ?_)
   ·simp -implicitDefEqProofs only[vQ,BD,↓reduceIte,jB]
    have hv':IA p.bins[k]≠0:=by simpa using hv
    have:KC IA p.bins=IA p.bins[k]:=by rw[hf,hs,if_neg hv']
    exact⟨by rw[hpt,this,if_pos hv'],x++_,by rw[hx,zH]⟩
   ·have hv':IA p.bins[k]=0:=by simpa using hv
    simp -implicitDefEqProofs only[vQ,BD,↓reduceIte,jB,enP,f30,wrap_succ (show k < 9223372036854775807 by omega)]
    exact⟨n - 1,by omega,k+1,by omega,f1,f28,f29,rfl,CX hb,⟨x++_,by rw[hx,zH]⟩,by rw[hf,hs,if_pos hv']⟩
  ·have hk' : ¬ k < p.bins.length:=by simpa using hc
   simp -implicitDefEqProofs only[vQ,↓reduceIte,jB]
   exact⟨f1,hb,⟨x,hx⟩,by rw[hf,jV (by omega)]; rfl⟩
 ·rintro F H ⟨f1,hb,⟨x,hx⟩,hf⟩
  have l5:D8 Tryz.prog H 49 (.ptr h.length 0 5)=some (.sl p.bm 4 (p.bins.map G9)):=by rw[DY RD hb (row:=GI p) rfl,NG]
  simp -implicitDefEqProofs only[vQ,BD,↓reduceIte,enP,IE,f1,l5]
  refine(AS9 G p.bins p.bm H (by omega)).use ?_
  simp -implicitDefEqProofs only[vQ,↓reduceIte]
  cases hd:PP (p.bins.map (·.name))
  ·simp -implicitDefEqProofs only[vQ,BD,↓reduceIte]
   exact⟨by rw[hpt,hf,hd]; rfl,x,hx⟩
  ·simp -implicitDefEqProofs only[vQ,BD,↓reduceIte]
   exact⟨by rw[hpt,hf,hd]; rfl,x,hx⟩
 ·rintro F H ⟨f2,hx⟩
  simp -implicitDefEqProofs only[vQ,f2]
  exact⟨trivial,hx⟩
end Go.Proofs.YtfpagfhhhlljjaaGreatDoor.Cov
