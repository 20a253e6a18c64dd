/- Part 5 of the proof (E4, E5, E6, E7, E8, E9, E10, M1, M2, M3); no condition. -/
import Derived.Test.YtocilianjfhifaaGreatDoorYC4
set_option linter.unusedVariables false
set_option linter.unusedSimpArgs false
set_option maxRecDepth 8000
namespace Go.Proofs.YtocilianjfhifaaGreatDoor.Cov
open Sm Bins Go.RowKit
open Bool renaming not_false→jC,not_true→jT,not_eq_true→qN,eq_iff_iff→qM,or_false→jQ
open List renaming length_take→zD,getElem?_eq_getElem→jU,map_cons→jD,map_nil→jE,append_nil→jF,getElem?_cons_zero→zB,getElem?_cons_succ→zG,length_map→jI,getElem?_append_left→zX,getElem?_set→zK,getElem?_eq_none→qL,cons_append→qK,take_succ_eq_append_getElem→zL,mem_append→qE,mem_cons→qR,nil_append→zY,getElem_mem→jS,append_assoc→zA,take_of_length_le→jX,length_cons→qQ,getElem?_map→zH,drop_eq_nil_of_le→jW,length_append→qB,contains_cons→jR,contains_nil→jJ,drop_eq_getElem_cons→zJ
open Nat renaming le_refl→jM,le_of_ble_eq_true→jH,reduceEqDiff→jA,reduceAdd→jK,lt_or_ge→zM,add_zero→jL,zero_add→jG,le_trans→zZ,reduceBEq→jO
open Option renaming getD_some→jB,getD_none→jP
theorem AYP (l:List UInt8):(Lib.cut l [91]).1.length<=l.length:=by
 unfold Lib.cut;split
 .simp only[zD]; exact Nat.min_le_right _ _
 .exact jM _
theorem ixl {l:List UInt8}{k:Nat}{b:UInt8}{i:Int}(hi:i=(k:Int))(hb:l[k]?=some b):OH Tryz.prog 9 (.str ⟨l.toArray⟩) (.int .i64 i)=some (.int .u8 b.toNat):=by
 subst hi;have hk:k<l.length:=(List.getElem?_eq_some_iff.1 hb).1;have:=ix9 ⟨l.toArray⟩ k .i64 hk;rw[this];have h2:(⟨l.toArray⟩:ByteArray)[k]'hk=l[k]:=rfl;rw[h2];rw[jU hk] at hb;rw[Option.some.inj hb]
theorem szl (l:List UInt8):(⟨l.toArray⟩:ByteArray).size=l.length:=rfl
theorem wrap_u8 {n:Int}(h0:0<=n)(h1:n<256):IntKind.u8.wrap n=n:=by
 unfold IntKind.wrap; simp [IntKind.bits,IntKind.signed]; omega
theorem AIJ (G:Nat->AV)(hG:GOk G)(s:ByteArray)(h:Hp)(hl:s.size<=1048576):PCall (En G) 259 [.str s] h (elemV (QB s)):=by
 refine acN Tryz.func259 rfl ?_;show awp _ _ _ _ _ (EN _ [.tmp 2,.tmp 3,.tmp 4] _);simp -implicitDefEqProofs only[BC,BA,A8,AY,BB,AO,AQ,AL,BD,AX,AC,AA,AZ,AU,BX,BH,BM,JM,BG,A7,CB,BU,BF,jD,jE,jF,↓reduceIte,jA,jB,jC,enP];refine(AU8 G hG s h hl).use ?_;have he:=AU1 s;have hal:=AYP s.data.toList;unfold cutV
 generalize Lib.cut s.data.toList [91]=c at he hal|-
 obtain⟨a,b,f⟩:=c;have hal2:a.length<=s.size:=by simpa using hal
 simp -implicitDefEqProofs only[zB,zG,BC,BA,A8,AY,BB,BL,BV,CO,AO,AQ,AL,BD,AX,AC,AA,AZ,BG,A7,IE,FI,GU,AB,FK,↓reduceIte,jA,jB,jC];cases f
 .simp -implicitDefEqProofs only[BC,BA,BK,BI,A8,CP,O1,DI,AY,BB,BL,BV,CO,F7,AO,AQ,AL,BD,AX,AC,AA,EX,AZ,AU,BH,BM,JM,BG,A7,CQ,DY,↓reduceIte,jA,jB,jC]
  exact⟨by rw[he]; rfl,trivial⟩
 simp -implicitDefEqProofs only[BL,BV,CO,ES,AO,AQ,AL,BD,AX,AC,AA,AZ,BX,BG,CB,BU,jD,jE,jF,↓reduceIte,jA,jB,jT,jC];refine(OM G hG.kw ⟨a.toArray⟩ h (by rw[szl]; omega)).use ?_;simp -implicitDefEqProofs only[AY,BL,BV,CO,ES,AO,AQ,AL,BD,AX,AC,AA,AZ,AU,BM,BG,CQ,DX,IE,AB,FK,↓reduceIte,jA,jB,jC];cases hn:IB ⟨a.toArray⟩
 .simp -implicitDefEqProofs only[BC,BA,BK,BI,A8,CP,O1,DI,AY,BB,BL,BV,CO,F7,AO,AQ,AL,BD,AX,AC,AA,EX,AZ,AU,BH,BM,JM,BG,A7,CQ,DY,↓reduceIte,jA,jB,jC]
  exact⟨by rw[he]; simp [hn]; rfl,trivial⟩
 simp -implicitDefEqProofs only[AY,BL,BV,CO,ES,AO,AQ,AL,BD,AX,AC,AA,AZ,AU,BH,BM,BG,CQ,DX,BR,D7,AB,EK,↓reduceIte,jA,jB,jT,jC,enP,ln9,szl];refine IL (fun hb=>?_) (fun hb=>?_)
 .simp -implicitDefEqProofs only[BC,BA,BK,BI,A8,CP,O1,DI,AY,BB,BL,BV,CO,F7,AO,AQ,AL,BD,AX,AC,AA,EX,AZ,AU,BH,BM,JM,BG,A7,CQ,DY,↓reduceIte,jA,jB,jC,hb]
  have hne:∀d y,b≠[d,y]:=by
   intro d y e; subst e; simp at hb
  have:QB s=none:=by
   rw[he]; split
   .split
    .rename_i hm; exact absurd hm (hne _ _)
    .rfl
   .rfl
  exact⟨by rw[this]; rfl,trivial⟩
 have h2:b.length=2:=by simp at hb; omega
 match b,h2 with
 | [d,y],_ =>
   have i1:OH Tryz.prog 9 (.str ⟨[d,y].toArray⟩) (.int .i64 1)=some (.int .u8 y.toNat):=ixl (k:=1) rfl rfl;have i0:OH Tryz.prog 9 (.str ⟨[d,y].toArray⟩) (.int .i64 0)=some (.int .u8 d.toNat):=ixl (k:=0) rfl rfl
   have he2:QB s=if(y==93&&decide (48<=d.toNat)&&decide (d.toNat<56))=true then some (a,d) else none:=by
    rw[he]; simp [hn]
   clear he;simp -implicitDefEqProofs only[AY,BL,BV,CO,ES,AO,AQ,AL,BD,AX,AC,AA,AZ,AU,BH,BM,BG,CQ,DX,BR,OW,AB,EK,↓reduceIte,jA,jB,jC,enP,hb,i1,i0];refine IL (fun hc=>?_) (fun hc=>?_)
   .simp -implicitDefEqProofs only[BC,BA,BK,BI,A8,CP,O1,DI,AY,BB,BL,BV,CO,F7,AO,AQ,AL,BD,AX,AC,AA,EX,AZ,AU,BH,BM,JM,BG,A7,CQ,DY,↓reduceIte,jA,jB,jC,hc]
    have hy:(y==93)=false:=by
     rw[<-qN]; intro e; rw[beq_iff_eq] at e; subst e; simp at hc
    exact⟨by rw[he2,hy]; rfl,trivial⟩
   have hy:(y==93)=true:=by
    rw[beq_iff_eq,<-UInt8.toNat_inj];simp at hc; show y.toNat=93; omega
   simp -implicitDefEqProofs only[AY,BL,BV,CO,ES,AO,AQ,AL,BD,AX,AC,AA,AZ,AU,BH,BM,BG,CQ,DX,BR,OW,AB,DC,↓reduceIte,jA,jB,jC,enP,hc,i0];refine IL (fun hd=>?_) (fun hd=>?_)
   .simp -implicitDefEqProofs only[BC,BA,BK,BI,A8,CP,O1,DI,AY,BB,BL,BV,CO,F7,AO,AQ,AL,BD,AX,AC,AA,EX,AZ,AU,BH,BM,JM,A7,CQ,DY,↓reduceIte,jA,jB,jC,hd]
    have:decide (48<=d.toNat)=false:=by simp at hd|-; omega
    exact⟨by rw[he2,this]; simp; rfl,trivial⟩
   have hd1:48<=d.toNat:=by simp at hd; omega
   simp -implicitDefEqProofs only[BI,A8,AY,BB,BL,BV,CO,ES,AO,AQ,AL,BD,AX,AC,AA,AZ,AU,BH,BM,BG,CQ,DX,BR,OW,AB,G5,↓reduceIte,jA,jB,jC,enP,hd,i0];refine CU (fun hf=>?_) (fun hf=>?_)
   .simp -implicitDefEqProofs only[BC,BA,BK,A8,CP,O1,AY,BB,AO,AQ,AL,BD,AX,AC,AA,AU,BH,BM,JM,A7,↓reduceIte,jA,jB,jC]
    have:decide (d.toNat<56)=false:=by simp at hf|-; omega
    exact⟨by rw[he2,this]; simp; rfl,trivial⟩
   have hd2:d.toNat<56:=by simp at hf; omega
   simp -implicitDefEqProofs only[BC,BO,A8];refine EZ (by kernel_rfl) ?_;simp -implicitDefEqProofs only[FZ,ED,DN,E8,EF,FO,I7,IY,ASG,AG9,BK,A8,O1,AO,AA,AZ,AU,BH,BM,BR,Z9,OW,AB,J5,↓reduceIte,jA,jK,jB,enP,AU7,i0,wrap_u8 (n:=(d.toNat:Int)-48) (by omega) (by omega),wrap_i64 (n:=(d.toNat:Int)-48) (by omega) (by omega)];exact⟨by rw[he2]; simp [hy,hd1,hd2]; rfl,trivial⟩
theorem A0H {s:ByteArray}{u:Nat}{h:Hp}(hu:u<=s.size):NU Tryz.prog h 9 (.str s) none (some (.int .i64 (u:Int))) none=some (.str (s.extract 0 u)):=by
 have:Tryz.prog.underlying 9=some .string:=by kernel_rfl
 simp [NU,this,KD,hu]
theorem AYA (a b:List UInt8):(⟨(a++b).toArray⟩:ByteArray).extract 0 a.length=⟨a.toArray⟩:=by
 ext1
 simp
set_option maxHeartbeats 1000000 in
theorem AQC (G:Nat->AV)(s:ByteArray)(h:Hp)(hl:s.size<=1099511627776):PCall (En G) 289 [.str s] h (elemV (QB s)):=by
 refine acN Tryz.func289 rfl ?_;show awp _ _ _ _ _ (EN _ [.tmp 2,.tmp 3,.tmp 4] _);obtain⟨⟨l⟩⟩:=s;rw[szl] at hl;rcases zM l.length 4 with h4|h4
 .have hd:decide ((l.length:Int)<4)=true:=by simp; omega
  simp -implicitDefEqProofs only[BC,BA,BK,BI,A8,CP,O1,DI,AY,BB,BL,BV,CO,F7,AO,AQ,AL,BD,AX,AC,AA,EX,AZ,AU,BH,BM,JM,BG,A7,CQ,DY,BR,D7,AB,DC,BF,↓reduceIte,jA,jB,jC,enP,ln9,szl,hd]
  have:QB ⟨l.toArray⟩=none:=by
   unfold QB; rw[if_neg]; simp; omega
  exact⟨by rw[this]; rfl,trivial⟩
 obtain⟨b,x,d,y,rfl⟩:=three (show 3<=l.length by omega);have hlen:(b++[x,d,y]).length=b.length+3:=by simp
 rw[hlen] at hl h4;have hbl:0<b.length:=by omega
 have hb:b≠[]:=List.length_pos_iff.1 hbl;have he:=AEN (x:=x) (d:=d) (y:=y) hb;generalize hn:IB ⟨b.toArray⟩=nm at he;have i1:OH Tryz.prog 9 (.str ⟨(b++[x,d,y]).toArray⟩) (.int .i64 ((b.length:Int)+2))=some (.int .u8 y.toNat):=ixl (k:=b.length+2) (by omega) (by simp);have i2:OH Tryz.prog 9 (.str ⟨(b++[x,d,y]).toArray⟩) (.int .i64 ((b.length:Int)+1))=some (.int .u8 d.toNat):=ixl (k:=b.length+1) (by omega) (by simp);have i3:OH Tryz.prog 9 (.str ⟨(b++[x,d,y]).toArray⟩) (.int .i64 (b.length:Int))=some (.int .u8 x.toNat):=ixl (k:=b.length) rfl (by simp);have i4:=A0H (s:=⟨(b++[x,d,y]).toArray⟩) (u:=b.length) (h:=h) (by rw[szl]; omega);rw[AYA] at i4;have hsz:(⟨(b++[x,d,y]).toArray⟩:ByteArray).size=b.length+3:=by rw[szl,hlen]
 generalize (⟨(b++[x,d,y]).toArray⟩:ByteArray)=s at *;have w1:IntKind.i64.wrap (((b.length+3:Nat):Int)-1)=(b.length:Int)+2:=by rw[wrap_i64 (by omega) (by omega)]; omega
 have w2:IntKind.i64.wrap (((b.length+3:Nat):Int)-2)=(b.length:Int)+1:=by rw[wrap_i64 (by omega) (by omega)]; omega
 have w3:IntKind.i64.wrap (((b.length+3:Nat):Int)-3)=(b.length:Int):=by rw[wrap_i64 (by omega) (by omega)]; omega
 have hd8:d.toNat<256:=d.toNat_lt;have w4:IntKind.i64.wrap (d.toNat:Int)=(d.toNat:Int):=wrap_i64 (by omega) (by omega);have w5:IntKind.i64.wrap ((d.toNat:Int)-48)=(d.toNat:Int)-48:=wrap_i64 (by omega) (by omega);have ha:decide (((b.length+3:Nat):Int)<4)=false:=by simp; omega
 simp -implicitDefEqProofs only[BC,BA,A8,AY,BB,BL,BV,CO,ES,AO,AQ,AL,BD,AX,AC,AA,AZ,AU,BH,BM,JM,BG,A7,CQ,DX,BR,OW,D7,AB,J5,EK,DC,BF,↓reduceIte,jA,jB,jC,enP,ln9,hsz,ha,w1,w2,w3,i1,i2,i3,i4];refine IL (fun hc=>?_) (fun hc=>?_)
 .simp -implicitDefEqProofs only[BC,BA,BK,BI,A8,CP,O1,DI,AY,BB,BL,BV,CO,F7,AO,AQ,AL,BD,AX,AC,AA,EX,AZ,AU,BH,BM,JM,A7,CQ,DY,↓reduceIte,jA,jB,jC,hc]
  have hy:(y==93)=false:=by
   rw[<-qN]; intro e; rw[beq_iff_eq] at e; subst e; simp at hc
  exact⟨by rw[he,hy]; simp; rfl,trivial⟩
 have hy:(y==93)=true:=by
  rw[beq_iff_eq,<-UInt8.toNat_inj];simp at hc; show y.toNat=93; omega
 simp -implicitDefEqProofs only[BI,A8,AY,BB,BL,BV,CO,ES,AO,AQ,AL,BD,AX,AC,AA,AZ,AU,BH,BM,BG,CQ,DX,BR,OW,D7,AB,J5,EK,BF,↓reduceIte,jA,jB,jC,enP,ln9,hsz,hc,w1,w2,w3,i1,i2,i3,i4];refine CU (fun hd=>?_) (fun hd=>?_)
 .simp -implicitDefEqProofs only[BC,BA,BK,A8,CP,O1,AY,BB,AO,AQ,AL,BD,AX,AC,AA,AU,BH,BM,JM,A7,↓reduceIte,jA,jB,jC]
  have hx:(x==91)=false:=by
   rw[<-qN]; intro e; rw[beq_iff_eq] at e; subst e; simp at hd
  exact⟨by rw[he,hx]; simp; rfl,trivial⟩
 have hx:(x==91)=true:=by
  rw[beq_iff_eq,<-UInt8.toNat_inj];simp at hd; show x.toNat=91; omega
 simp -implicitDefEqProofs only[Option.map_some,Option.map_none,BC,BA,BO,A8,AY,BB,BL,BV,CO,AO,AQ,AL,BD,AX,AC,AA,AZ,AU,BH,BG,A7,BR,Z9,UU,OW,D7,AB,J5,DC,BF,↓reduceIte,jA,jB,jC,enP,ln9,AU7,hsz,w1,w2,w3,i1,i2,i3,i4,w4,w5];refine IL (fun hf=>?_) (fun hf=>?_)
 .simp -implicitDefEqProofs only[BC,BA,BK,BI,A8,CP,O1,DI,AY,BB,BL,BV,CO,F7,AO,AQ,AL,BD,AX,AC,AA,EX,AZ,AU,BH,BM,JM,BG,A7,CQ,DY,↓reduceIte,jA,jB,jC,hf]
  have:decide (48<=d.toNat)=false:=by simp at hf|-; omega
  exact⟨by rw[he,this]; simp; rfl,trivial⟩
 have hd1:48<=d.toNat:=by simp at hf; omega
 simp -implicitDefEqProofs only[AY,BL,BV,CO,ES,AO,AQ,AL,BD,AX,AC,AA,AZ,AU,BH,BM,BG,CQ,DX,BR,AB,G5,↓reduceIte,jA,jB,jC,enP,hf];refine IL (fun hf=>?_) (fun hf=>?_)
 .simp -implicitDefEqProofs only[BC,BA,BK,BI,A8,CP,O1,DI,AY,BB,BL,BV,CO,F7,AO,AQ,AL,BD,AX,AC,AA,EX,AZ,AU,BH,BM,JM,A7,CQ,DY,↓reduceIte,jA,jB,jC,hf]
  have:decide (d.toNat<56)=false:=by simp at hf|-; omega
  exact⟨by rw[he,this]; simp; rfl,trivial⟩
 have hd2:d.toNat<56:=by simp at hf; omega
 simp -implicitDefEqProofs only[BL,BV,CO,ES,AO,AQ,AL,BD,AX,AC,AA,AZ,BX,BG,CB,BU,jD,jE,jF,↓reduceIte,jA,jB,jC,hf];refine(PN G ⟨b.toArray⟩ h).use ?_;simp -implicitDefEqProofs only[BI,A8,AY,BB,BL,BV,CO,ES,AO,AQ,AL,BD,AX,AC,AA,AZ,AU,BM,CQ,DX,IE,AB,FK,↓reduceIte,jA,jB,jC,hn];cases nm
 .simp -implicitDefEqProofs only[BC,BA,BK,A8,CP,O1,DI,AY,BB,AO,AQ,AL,BD,AX,AC,AA,AU,BH,BM,JM,A7,↓reduceIte,jA,jB,jC]
  exact⟨by rw[he]; simp; rfl,trivial⟩
 .simp -implicitDefEqProofs only[BC,BA,BO,BK,A8,O1,DT,AY,BB,AO,AQ,AL,BD,AX,AC,AA,AZ,AU,BM,BG,A7,↓reduceIte,jA,jB,jT,jC]
  exact⟨by rw[he]; simp [hy,hx,hd1,hd2]; rfl,trivial⟩
def TR (s:ByteArray):Bool:=(QB s).isSome||IB s
theorem AEM (o:Option (List UInt8×UInt8)):∃a n,elemV o=.tup [.str a,.int .i64 n,.bool o.isSome]:=by
 cases o with
 | none=>exact⟨_,_,rfl⟩
 | some x=>exact⟨_,_,rfl⟩
theorem AMQ (G:Nat->AV)(hG:GOk G)(s:ByteArray)(h:Hp)(hl:s.size<=1048576):PCall (En G) 232 [.str s] h (.bool (TR s)):=by
 refine acN Tryz.func232 rfl ?_;show awp _ _ _ _ _ (EN _ [.tmp 2] _);simp -implicitDefEqProofs only[BC,BA,A8,AY,BB,AO,AQ,AL,BD,AX,AC,AA,AZ,AU,BX,BM,BG,A7,CB,BU,BF,jD,jE,jF,↓reduceIte,jA,jB,jC,enP];refine(AIJ G hG s h hl).use ?_;obtain⟨a,n,e⟩:=AEM (QB s);rw[e];simp -implicitDefEqProofs only[zB,zG,BC,BA,A8,AY,BB,BL,BV,CO,AO,AQ,AL,BD,AX,AC,AA,AZ,BG,A7,FI,GU,AB,↓reduceIte,jA,jB,jC];cases hs:(QB s).isSome
 .simp -implicitDefEqProofs only[BL,BV,CO,ES,AO,AQ,AL,BD,AX,AC,AA,AZ,BX,BG,CB,BU,BF,jD,jE,jF,↓reduceIte,jA,jB,jC]
  refine(OM G hG.kw s h (by omega)).use ?_;simp -implicitDefEqProofs only[BK,A8,CG,AY,BB,AO,AQ,AL,BD,AX,AC,AA,AZ,AU,BM,A7,CQ,DX,↓reduceIte,jA,jB,jC];exact⟨by unfold TR; rw[hs]; rfl,trivial⟩
 .simp -implicitDefEqProofs only[BK,A8,CG,AY,BB,BL,BV,CO,F7,AO,AQ,AL,BD,AX,AC,AA,EX,AZ,AU,BM,A7,CQ,DY,↓reduceIte,jA,jB,jC]
  exact⟨by unfold TR; rw[hs]; rfl,trivial⟩
theorem AQ2 (G:Nat->AV)(s:ByteArray)(h:Hp)(hl:s.size<=1048576):PCall (En G) 255 [.str s] h (.bool (TR s)):=by
 refine acN Tryz.func255 rfl ?_;show awp _ _ _ _ _ (EN _ [.tmp 2] _);simp -implicitDefEqProofs only[BC,BA,A8,AY,BB,AO,AQ,AL,BD,AX,AC,AA,AZ,AU,BX,BM,BG,A7,CB,BU,BF,jD,jE,jF,↓reduceIte,jA,jB,jC,enP];refine(AQC G s h (by omega)).use ?_;obtain⟨a,n,e⟩:=AEM (QB s);rw[e];simp -implicitDefEqProofs only[zB,zG,BC,BA,A8,AY,BB,BL,BV,CO,AO,AQ,AL,BD,AX,AC,AA,AZ,BG,A7,FI,GU,AB,↓reduceIte,jA,jB,jC];cases hs:(QB s).isSome
 .simp -implicitDefEqProofs only[BL,BV,CO,ES,AO,AQ,AL,BD,AX,AC,AA,AZ,BX,BG,CB,BU,BF,jD,jE,jF,↓reduceIte,jA,jB,jC]
  refine(PN G s h).use ?_;simp -implicitDefEqProofs only[BK,A8,CG,AY,BB,AO,AQ,AL,BD,AX,AC,AA,AZ,AU,BM,A7,CQ,DX,↓reduceIte,jA,jB,jC];exact⟨by unfold TR; rw[hs]; rfl,trivial⟩
 .simp -implicitDefEqProofs only[BK,A8,CG,AY,BB,BL,BV,CO,F7,AO,AQ,AL,BD,AX,AC,AA,EX,AZ,AU,BM,A7,CQ,DY,↓reduceIte,jA,jB,jC]
  exact⟨by unfold TR; rw[hs]; rfl,trivial⟩
def U4 (s:ByteArray):Bool:=s.toList==(⟨#[]⟩:ByteArray).toList
def YK (e:Ex):Bool:=decide (e.op<1)||decide (e.op>25)
def AIR (e:Ex):Bool:=((e.op==1)&&(decide (e.n<0)||decide (e.n>65535)))||(!(e.op==1) && !(e.n==0))
def AFP (e:Ex):Bool:=(!LZ e.op && !U4 e.name) || !AAK e.op e.args.length
def YJ (e:Ex):Bool:=((e.op==2) && !TR e.name)||(((e.op==3)||(e.op==24)) && !IB e.name)
def KT (e:Ex):Int:=if YK e then 1 else if AIR e then 1 else if AFP e then 1 else if YJ e then 7 else 0
theorem AQU (G:Nat->AV)(hG:GOk G)(e:Ex)(h:Hp)(hl:e.name.size<=1048576):PCall (En G) 198 [.agg (FH e)] h (.int .i64 (KT e)):=by
 refine ACalls.pure0 rfl ?_;refine acN Tryz.func198 rfl ?_;show awp _ _ _ _ _ (EN _ [.tmp 2] _);simp -implicitDefEqProofs only[BC,BA,A8,AY,BB,BL,BV,CO,AO,AQ,AL,BD,AX,AC,AA,AZ,AU,BH,BG,A7,FU,BQ,BR,BJ,BZ,AB,EC,BF,↓reduceIte,jA,jL,jB,jC,enP,IW,bxE,DL ag3,KN];refine SK (fun F H=>F 3=.bool (LZ e.op)∧F 1=.ptr h.length 0 0∧H=h++[.live 4 [FH e]]) ?_ ?_
 .cases b2:(e.op==2)<;>cases b3:(e.op==3)
  all_goals
   simp -implicitDefEqProofs only[AY,BB,BL,BV,CO,ES,F7,AO,AQ,AL,BD,AX,AC,AA,EX,AZ,AU,BH,BM,BG,A7,CQ,DY,DX,BQ,BR,BJ,AB,EC,↓reduceIte,jA,jL,jB,jC,enP,IW,b2,b3,DL ag3,KN];exact⟨by simp [LZ,b2,b3],trivial,trivial⟩
 rintro F H ⟨f3,f1,rfl⟩;simp -implicitDefEqProofs only[BC,BP,BA,A8,AY,BL,BV,CO,AO,AQ,AL,BD,AX,AC,AA,AZ,AU,BH,BG,BQ,BR,BJ,AB,DC,↓reduceIte,jL,jB,jC,enP,IW,f1,f3,DL ag3,KN];refine SK (fun F H=>F 17=.bool (YK e)∧F 3=.bool (LZ e.op)∧F 1=.ptr h.length 0 0∧H=h++[.live 4 [FH e]]) ?_ ?_
 .cases b2:decide (e.op<1)
  all_goals
   simp -implicitDefEqProofs only[AY,BB,BL,BV,CO,ES,F7,AO,AQ,AL,BD,AX,AC,AA,EX,AZ,AU,BH,BM,A7,CQ,DY,DX,BQ,BR,BJ,AB,FV,↓reduceIte,jA,jL,jB,jC,enP,IW,b2,f1,f3,DL ag3,KN];exact⟨by simp [YK,b2],trivial,trivial,trivial⟩
 clear f1 f3;rintro F H ⟨f17,f3,f1,rfl⟩;simp -implicitDefEqProofs only[BI,A8,AZ,f17];refine CU (fun ho=>?_) (fun ho=>?_)
 .simp -implicitDefEqProofs only[BC,BA,BK,A8,CP,EG,CG,AY,BB,AO,AQ,AL,BD,AX,AC,AA,AU,BH,A7,↓reduceIte,jB,jC]
  exact⟨by unfold KT; rw[if_pos ho],_,rfl⟩
 simp -implicitDefEqProofs only[BC,BA,AY,BL,BV,CO,AO,AQ,AL,BD,AX,AC,AA,AZ,AU,BH,BG,BQ,BR,BJ,AB,EC,↓reduceIte,jL,jB,jC,enP,IW,f1,f3,DL ag3,KN,ZN];refine SK (fun F H=>F 26=.bool (AIR e)∧F 3=.bool (LZ e.op)∧F 1=.ptr h.length 0 0∧H=h++[.live 4 [FH e]]) ?_ ?_
 .cases b1:(e.op==1)<;>cases b2:decide (e.n<0)<;>cases b3:decide (e.n>65535)<;>cases b4:(e.n==0)
  all_goals
   simp -implicitDefEqProofs only[AY,BB,BL,BV,CO,F9,ES,IX,F7,SI,AO,AQ,AL,BD,AX,AC,AA,EX,AZ,AU,BH,BM,BG,A7,CQ,DY,DX,BQ,BR,BJ,AB,EK,DC,FV,↓reduceIte,jA,jL,jG,jB,jT,jC,enP,IW,AAU,bne,b1,b2,b3,b4,f1,f3,DL ag3,KN,ZN];exact⟨by simp [AIR,b1,b2,b3,b4],trivial,trivial,trivial⟩
 clear f1 f3 f17;rintro F H ⟨f26,f3,f1,rfl⟩;simp -implicitDefEqProofs only[BI,A8,AZ,f26];refine CU (fun hn=>?_) (fun hn=>?_)
 .simp -implicitDefEqProofs only[BC,BA,BK,A8,CP,EG,CG,AY,BB,AO,AQ,AL,BD,AX,AC,AA,AU,BH,A7,↓reduceIte,jB,jC]
  exact⟨by unfold KT; rw[if_neg (by simp [ho]),if_pos hn],_,rfl⟩
 simp -implicitDefEqProofs only[BC,BA,AY,BL,BV,CO,AO,AQ,AL,BD,AX,AC,AA,AZ,BG,IE,AB,FK,↓reduceIte,jB,jC,f1,f3,DL ag9,QN];refine SK (fun F H=>F 50=.bool (AFP e)∧F 3=.bool (LZ e.op)∧F 1=.ptr h.length 0 0∧H=h++[.live 4 [FH e]]) ?_ ?_
 .cases bm:LZ e.op<;>cases b5:U4 e.name
  all_goals
   have b6:=b5;unfold U4 at b6;simp -implicitDefEqProofs only[AY,BB,BL,BV,CO,F9,ES,IX,F7,AO,AQ,AL,BD,AX,AC,AA,EX,AZ,AU,BX,BM,JM,BG,A7,CQ,DY,DX,BQ,BR,BJ,CB,BU,AB,AEX,jD,jE,jF,↓reduceIte,jA,jG,jB,jT,jC,enP,MI,bne,bm,b6,f1,f3,DL ag9,QN,ldE]
  .exact⟨by simp [AFP,bm,b5],trivial,trivial,trivial⟩
  all_goals
   refine(AFF G e _).use ?_;simp -implicitDefEqProofs only[AY,BB,BL,BV,CO,ES,AO,AQ,AL,BD,AX,AC,AA,AZ,AU,BM,A7,CQ,DX,IE,AB,FK,↓reduceIte,jA,jB,jC,bne,bm,f1,f3];exact⟨by simp [AFP,bm,b5],trivial,trivial,trivial⟩
 clear f1 f3 f26;rintro F H ⟨f50,f3,f1,rfl⟩;simp -implicitDefEqProofs only[BI,A8,AZ,f50];refine CU (fun hs=>?_) (fun hs=>?_)
 .simp -implicitDefEqProofs only[BC,BA,BK,A8,CP,EG,CG,AY,BB,AO,AQ,AL,BD,AX,AC,AA,AU,BH,A7,↓reduceIte,jB,jC]
  exact⟨by unfold KT; rw[if_neg (by simp [ho]),if_neg (by simp [hn]),if_pos hs],_,rfl⟩
 simp -implicitDefEqProofs only[BC,BA,AY,BL,BV,CO,AO,AQ,AL,BD,AX,AC,AA,AZ,AU,BH,BG,BQ,BR,BJ,AB,EC,↓reduceIte,jL,jB,jC,enP,IW,f1,f3,DL ag9,DL ag3,KN,QN]
 have fin:∀b,YJ e=b->KT e=if b then 7 else 0:=by
  intro b hb;unfold KT; rw[if_neg (by simp [ho]),if_neg (by simp [hn]),if_neg (by simp [hs]),hb]
 cases b2:(e.op==2)
 .simp -implicitDefEqProofs only[AY,BL,BV,CO,ES,IX,AO,AQ,AL,BD,AX,AC,AA,EX,AZ,AU,BH,BM,BG,CQ,DX,BQ,BR,BJ,AB,EC,↓reduceIte,jA,jL,jB,jC,enP,IW,b2,f1,f3,DL ag9,DL ag3,KN,QN]
  cases b3:(e.op==3)<;>cases b4:(e.op==24)
  all_goals
   simp -implicitDefEqProofs only[BC,BA,BO,BK,BI,A8,EJ,CG,DT,AY,BB,BL,BV,CO,F9,ES,IX,F7,AO,AQ,AL,BD,AX,AC,AA,EX,AZ,AU,BX,BH,BM,BG,A7,CQ,DY,DX,BQ,BR,BJ,CB,BU,AB,EC,jD,jE,jF,↓reduceIte,jA,jL,jG,jB,jC,enP,IW,MI,b3,b4,f1,f3,DL ag9,DL ag3,KN,QN]
  .exact⟨by rw[fin false (by simp [YJ,b2,b3,b4])]; rfl,_,rfl⟩
  all_goals
   refine(OM G hG.kw e.name _ (by omega)).use ?_;cases bi:IB e.name
   .simp -implicitDefEqProofs only[BC,BA,BK,BI,A8,CP,EG,CG,DI,AY,BB,BL,BV,CO,F9,ES,AO,AQ,AL,BD,AX,AC,AA,AZ,AU,BH,BM,A7,CQ,DY,DX,IE,AB,FK,↓reduceIte,jA,jB,jC]
    exact⟨by rw[fin true (by simp [YJ,b2,b3,b4,bi])]; rfl,_,rfl⟩
   .simp -implicitDefEqProofs only[BC,BA,BO,BK,BI,A8,EJ,CG,DT,AY,BB,BL,BV,CO,F9,ES,AO,AQ,AL,BD,AX,AC,AA,AZ,AU,BH,BM,A7,CQ,DY,DX,IE,AB,FK,↓reduceIte,jA,jB,jT,jC]
    exact⟨by rw[fin false (by simp [YJ,b2,b3,b4,bi])]; rfl,_,rfl⟩
 .have e2:e.op=2:=by simpa using b2
  simp -implicitDefEqProofs only[BL,BV,CO,F9,AO,AQ,AL,BD,AX,AC,AA,AZ,BX,BQ,BJ,CB,BU,AB,jD,jE,jF,↓reduceIte,jA,jG,jB,jC,enP,MI,b2,f1,f3,DL ag9,DL ag3,KN,QN];refine(AMQ G hG e.name _ hl).use ?_;cases bi:TR e.name
  .simp -implicitDefEqProofs only[BC,BA,BK,BI,A8,CP,EG,CG,DI,AY,BB,BL,BV,CO,F9,F7,SI,AO,AQ,AL,BD,AX,AC,AA,EX,AZ,AU,BH,BM,BG,A7,CQ,DY,IE,AB,FK,↓reduceIte,jA,jB,jC]
   exact⟨by rw[fin true (by simp [YJ,b2,bi])]; rfl,_,rfl⟩
  .simp -implicitDefEqProofs only[BC,BA,BO,BK,BI,A8,EJ,CG,DT,AY,BB,BL,BV,CO,F9,ES,IX,AO,AQ,AL,BD,AX,AC,AA,EX,AZ,AU,BH,BM,BG,A7,CQ,DY,DX,BQ,BR,IE,BJ,AB,EC,FK,↓reduceIte,jA,jL,jB,jT,jC,enP,IW,f1,DL ag3,KN,e2,Int.reduceBEq]
   exact⟨by rw[fin false (by simp [YJ,e2,bi])]; rfl,_,rfl⟩
def AEZ (e:Ex):Bool:=YK e||decide (e.n<0)||decide (e.n>65535)||(!(e.n==0) && !(e.op==1))||(!U4 e.name && !LZ e.op)
def ALE (op:Int)(n:Nat):Bool:=((op==23)&&(decide ((n:Int)<3)||decide ((n:Int)>33)||((n:Int)%2==0)))||(!(op==23) && !((n:Int)==arity op))
theorem AYW (op:Int)(n:Nat):ALE op n = !AAK op n:=by
 unfold ALE AAK;rcases hc:(op==23) with _|_
 .simp
 .have h1:decide ((n:Int)<3) = !decide ((n:Int)≥3):=by rw[qM]; simp
  have h2:decide ((n:Int)>33) = !decide ((n:Int)<=33):=by rw[qM]; simp
  have h3:((n:Int)%2==0) = !((n:Int)%2==1):=by rw[qM]; simp; omega
  rw[h1,h2,h3];cases ((n:Int)%2==1)<;>cases decide ((n:Int)≥3)<;>cases decide ((n:Int)<=33)<;>rfl
theorem AYX (e:Ex):(AEZ e||ALE e.op e.args.length)=(YK e||AIR e||AFP e):=by
 rw[AYW];unfold AEZ AIR AFP;rcases h1:(e.op==1) with _|_
 .rcases h2:(e.n==0) with _|_
  .simp
  .have h3:decide (e.n<0)=false:=by simp at h2|-; omega
   have h4:decide (e.n>65535)=false:=by simp at h2|-; omega
   rw[h3,h4];cases YK e<;>cases U4 e.name<;>cases LZ e.op<;>cases AAK e.op e.args.length<;>rfl
 .cases YK e<;>cases U4 e.name<;>cases LZ e.op<;>cases AAK e.op e.args.length<;>cases decide (e.n<0)<;>cases decide (e.n>65535)<;>cases (e.n==0)<;>rfl
theorem AAL (e:Ex):KT e=if AEZ e then 1 else if ALE e.op e.args.length then 1 else if YJ e then 7 else 0:=by
 have:=AYX e;unfold KT
 revert this
 cases AEZ e<;>cases ALE e.op e.args.length<;>cases YK e<;>cases AIR e<;>cases AFP e<;>simp
set_option maxHeartbeats 1000000 in
theorem AP3 (G:Nat->AV)(e:Ex)(h:Hp)(hl:e.name.size<=1048576):PCall (En G) 225 [.agg (FH e)] h (.int .i64 (KT e)):=by
 refine ACalls.pure0 rfl ?_;refine acN Tryz.func225 rfl ?_;show awp _ _ _ _ _ (EN _ [.tmp 2] _);simp -implicitDefEqProofs only[BC,BA,A8,AY,BB,BL,BV,CO,AO,AQ,AL,BD,AX,AC,AA,AZ,AU,BH,BG,A7,FU,BQ,BR,BJ,BZ,AB,DC,BF,↓reduceIte,jA,jL,jB,jC,enP,IW,bxE,DL ag3,KN];refine SK (fun F H=>F 42=.bool (AEZ e)∧F 1=.ptr h.length 0 0∧H=h++[.live 4 [FH e]]) ?_ ?_
 .cases b1:decide (e.op<1)
  case true =>
   simp -implicitDefEqProofs only[AY,BB,BL,BV,CO,F7,SI,AO,AQ,AL,BD,AX,AC,AA,EX,AZ,AU,BM,BG,CQ,DY,↓reduceIte,jA,jB,jC,b1];exact⟨by simp [AEZ,YK,b1],trivial,trivial⟩
  simp -implicitDefEqProofs only[AY,BL,BV,CO,ES,AO,AQ,AL,BD,AX,AC,AA,AZ,AU,BH,BM,BG,CQ,DX,BQ,BR,BJ,AB,FV,↓reduceIte,jA,jL,jB,jC,enP,IW,b1,DL ag3,KN,ZN];cases b2:decide (e.op>25)
  case true =>
   simp -implicitDefEqProofs only[AY,BB,BL,BV,CO,F7,SI,AO,AQ,AL,BD,AX,AC,AA,EX,AZ,AU,BM,BG,CQ,DY,↓reduceIte,jA,jB,jC,b2];exact⟨by simp [AEZ,YK,b2],trivial,trivial⟩
  simp -implicitDefEqProofs only[AY,BL,BV,CO,ES,AO,AQ,AL,BD,AX,AC,AA,AZ,AU,BH,BM,BG,CQ,DX,BQ,BR,BJ,AB,DC,↓reduceIte,jA,jG,jB,jC,enP,AAU,b2,DL ag3,KN,ZN];have bO:YK e=false:=by unfold YK; rw[b1,b2]; rfl
  cases b3:decide (e.n<0)
  case true =>
   simp -implicitDefEqProofs only[AY,BB,BL,BV,CO,F7,SI,AO,AQ,AL,BD,AX,AC,AA,EX,AZ,AU,BM,BG,CQ,DY,↓reduceIte,jA,jB,jC,b3];exact⟨by simp only[AEZ,b3]; simp,trivial,trivial⟩
  simp -implicitDefEqProofs only[AY,BL,BV,CO,ES,AO,AQ,AL,BD,AX,AC,AA,AZ,AU,BH,BM,BG,CQ,DX,BQ,BR,BJ,AB,FV,↓reduceIte,jA,jG,jB,jC,enP,AAU,b3,DL ag3,KN,ZN];cases b4:decide (e.n>65535)
  case true =>
   simp -implicitDefEqProofs only[AY,BB,BL,BV,CO,F7,SI,AO,AQ,AL,BD,AX,AC,AA,EX,AZ,AU,BM,BG,CQ,DY,↓reduceIte,jA,jB,jC,b4];exact⟨by simp only[AEZ,b4]; simp,trivial,trivial⟩
  simp -implicitDefEqProofs only[BL,BV,CO,ES,AO,AQ,AL,BD,AX,AC,AA,AZ,AU,BH,BG,BQ,BR,BJ,AB,EK,↓reduceIte,jA,jG,jB,jC,enP,AAU,b4,bne,DL ag3,DL ag9,KN,ZN,QN]
  have fin:∀b,((!(e.n==0) && !(e.op==1))||(!U4 e.name && !LZ e.op))=b->AEZ e=b:=by
   intro b hb;unfold AEZ; rw[bO,b3,b4]; simpa using hb
  cases b5:(e.n==0)<;>cases b6:(e.op==1)<;>cases b7:U4 e.name
  all_goals
   have b8:=b7;unfold U4 at b8;simp -implicitDefEqProofs only[AY,BB,BL,BV,CO,F9,ES,IX,F7,SI,AO,AQ,AL,BD,AX,AC,AA,EX,AZ,AU,BX,BH,BM,JM,BG,CQ,DY,DX,BQ,BR,BJ,CB,BU,AB,EK,AEX,jD,jE,jF,↓reduceIte,jA,jL,jG,jB,jT,jC,enP,IW,MI,bne,b5,b6,b8,DL ag3,DL ag9,KN,ZN,QN]
  all_goals first
   | exact⟨by rw[fin _ rfl]; simp [b5,b6,b7],trivial,trivial⟩
   | refine(WV G e.op _).use ?_
     simp -implicitDefEqProofs only[AY,BB,BL,BV,CO,F9,ES,AO,AQ,AL,BD,AX,AC,AA,AZ,AU,BM,CQ,DY,DX,IE,AB,FK,↓reduceIte,jA,jB,jC];exact⟨by rw[fin _ rfl]; simp [b5,b6,b7],trivial,trivial⟩
 rintro F H ⟨f42,f1,rfl⟩;simp -implicitDefEqProofs only[BI,A8,AZ,f42];refine CU (fun ho=>?_) (fun ho=>?_)
 .simp -implicitDefEqProofs only[BC,BA,BK,A8,CP,CG,AY,BB,AO,AQ,AL,BD,AX,AC,AA,AU,BH,A7,↓reduceIte,jB,jC]
  exact⟨by rw[AAL,if_pos ho],_,rfl⟩
 simp -implicitDefEqProofs only[BC,BA,BO,A8,AY,BB,BL,BV,CO,AO,AQ,AL,BD,AX,AC,AA,AZ,AU,BH,BG,A7,BQ,BR,BJ,D7,AB,EC,↓reduceIte,jA,jL,jG,jB,jC,enP,AKG,IW,TT,f1,DL ag3,DL ALO,KN,ABS,jI];generalize hn:e.args.length=n;have hm:(n:Int).tmod 2=(n:Int)%2:=Int.tmod_eq_emod_of_nonneg (by omega);have br:JG Tryz.prog 3 .rem (.int .i64 (n:Int)) (.int .i64 2)=some (.int .i64 ((n:Int)%2)):=by rw[AC0 _ _ _ _ _ (by decide),hm]
 refine SK (fun F H=>F 73=.bool (ALE e.op n)∧F 1=.ptr h.length 0 0∧H=h++[.live 4 [FH e]]) ?_ ?_
 .cases b1:(e.op==23)
  .simp -implicitDefEqProofs only[AY,BL,BV,CO,F9,ES,IX,SI,AO,AQ,AL,BD,AX,AC,AA,EX,AZ,AU,BX,BH,BM,BG,CQ,DX,BQ,BR,BJ,CB,BU,AB,EK,jD,jE,jF,↓reduceIte,jA,jL,jB,jC,enP,IW,bne,b1,f1,DL ag3,KN]
   refine(ARX G e.op _).use ?_;simp -implicitDefEqProofs only[AY,BB,BL,BV,CO,F9,ES,AO,AQ,AL,BD,AX,AC,AA,AZ,AU,BM,CQ,DY,DX,BR,AB,EK,↓reduceIte,jA,jB,jC,enP,bne];exact⟨by unfold ALE; rw[b1]; simp,f1,trivial⟩
  .cases b2:decide ((n:Int)<3)<;>cases b3:decide ((n:Int)>33)<;>cases b4:((n:Int)%2==0)
   all_goals
    simp -implicitDefEqProofs only[AY,BB,BL,BV,CO,F9,ES,IX,F7,SI,AO,AQ,AL,BD,AX,AC,AA,EX,AZ,AU,BH,BM,BG,CQ,DY,DX,BQ,BR,BJ,AB,EC,EK,DC,FV,↓reduceIte,jA,jL,jB,jT,jC,enP,IW,bne,b1,b2,b3,b4,br,f1,DL ag3,KN];exact⟨by unfold ALE; rw[b1,b2,b3,b4]; simp,trivial,trivial⟩
 clear f1 f42;rintro F H ⟨f73,f1,rfl⟩;simp -implicitDefEqProofs only[BI,A8,AZ,f73];subst hn;refine CU (fun hs=>?_) (fun hs=>?_)
 .simp -implicitDefEqProofs only[BC,BA,BK,A8,CP,CG,AY,BB,AO,AQ,AL,BD,AX,AC,AA,AU,BH,A7,↓reduceIte,jB,jC]
  exact⟨by rw[AAL,if_neg (by simp [ho]),if_pos hs],_,rfl⟩
 simp -implicitDefEqProofs only[BC,BA,BO,A8,AY,BL,BV,CO,AO,AQ,AL,BD,AX,AC,AA,AZ,AU,BH,BG,BQ,BR,BJ,AB,EC,↓reduceIte,jL,jB,jC,enP,IW,f1,DL ag3,DL ag9,KN,QN]
 have fin:∀b,YJ e=b->KT e=if b then 7 else 0:=by
  intro b hb;rw[AAL,if_neg (by simp [ho]),if_neg (by simp [hs]),hb]
 cases b2:(e.op==2)
 .simp -implicitDefEqProofs only[AY,BL,BV,CO,ES,IX,AO,AQ,AL,BD,AX,AC,AA,EX,AZ,AU,BX,BM,BG,CQ,DX,BQ,BJ,CB,BU,AB,jD,jE,jF,↓reduceIte,jA,jL,jB,jC,enP,IW,b2,f1,DL ag9,DL ag3,KN,QN]
  refine(WV G e.op _).use ?_;cases bm:LZ e.op
  .have hv:YJ e=false:=by
    unfold LZ at bm; simp only[Bool.or_eq_false_iff] at bm;simp [YJ,bm.1.1,bm.1.2,bm.2]
   simp -implicitDefEqProofs only[BC,BA,BO,BK,BI,A8,CG,DT,AY,BB,BL,BV,CO,ES,IX,AO,AQ,AL,BD,AX,AC,AA,EX,AZ,AU,BH,BM,BG,A7,CQ,DX,↓reduceIte,jA,jB,jC];exact⟨by rw[fin false hv]; rfl,_,rfl⟩
  have hv:YJ e = !IB e.name:=by
   unfold LZ at bm; rw[b2] at bm; simp only[Bool.false_or] at bm;unfold YJ; rw[b2,bm]; simp
  simp -implicitDefEqProofs only[BL,BV,CO,F9,ES,AO,AQ,AL,BD,AX,AC,AA,AZ,AU,BX,BH,BM,BG,CQ,DY,BQ,BR,BJ,CB,BU,AB,EK,jD,jE,jF,↓reduceIte,jA,jL,jG,jB,jC,enP,IW,MI,bne,b2,f1,DL ag9,DL ag3,KN,QN];refine(PN G e.name _).use ?_;cases bi:IB e.name
  .simp -implicitDefEqProofs only[BC,BA,BK,BI,A8,CP,CG,DI,AY,BB,BL,BV,CO,F9,ES,AO,AQ,AL,BD,AX,AC,AA,AZ,AU,BH,BM,A7,CQ,DY,DX,IE,AB,FK,↓reduceIte,jA,jB,jC]
   exact⟨by rw[fin true (by rw[hv,bi]; rfl)]; rfl,_,rfl⟩
  .simp -implicitDefEqProofs only[BC,BA,BO,BK,BI,A8,CG,DT,AY,BB,BL,BV,CO,F9,ES,AO,AQ,AL,BD,AX,AC,AA,AZ,AU,BH,BM,A7,CQ,DY,DX,IE,AB,FK,↓reduceIte,jA,jB,jT,jC]
   exact⟨by rw[fin false (by rw[hv,bi]; rfl)]; rfl,_,rfl⟩
 .have e2:e.op=2:=by simpa using b2
  have hv:YJ e = !TR e.name:=by
   unfold YJ; rw[e2]; simp
  simp -implicitDefEqProofs only[BL,BV,CO,F9,AO,AQ,AL,BD,AX,AC,AA,AZ,BX,BQ,BJ,CB,BU,AB,jD,jE,jF,↓reduceIte,jA,jG,jB,jC,enP,MI,b2,f1,DL ag9,DL ag3,KN,QN];refine(AQ2 G e.name _ hl).use ?_;cases bi:TR e.name
  .simp -implicitDefEqProofs only[BC,BA,BK,BI,A8,CP,CG,DI,AY,BB,BL,BV,CO,F9,F7,SI,AO,AQ,AL,BD,AX,AC,AA,EX,AZ,AU,BH,BM,BG,A7,CQ,DY,IE,AB,FK,↓reduceIte,jA,jB,jC]
   exact⟨by rw[fin true (by rw[hv,bi]; rfl)]; rfl,_,rfl⟩
  .simp -implicitDefEqProofs only[AY,BL,BV,CO,F9,ES,AO,AQ,AL,BD,AX,AC,AA,AZ,AU,BX,BM,BG,CQ,DY,BQ,IE,BJ,CB,BU,AB,FK,jD,jE,jF,↓reduceIte,jA,jL,jB,jT,jC,enP,IW,f1,DL ag3,KN]
   refine(WV G e.op _).use ?_;have bm:LZ e.op=true:=by rw[e2]; rfl
   simp -implicitDefEqProofs only[BC,BA,BO,BK,BI,A8,CG,DT,AY,BB,BL,BV,CO,F9,ES,IX,AO,AQ,AL,BD,AX,AC,AA,EX,AZ,AU,BH,BM,BG,A7,CQ,DY,DX,BQ,BR,BJ,AB,EK,↓reduceIte,jA,jL,jB,jT,jC,enP,IW,bne,bm,f1,DL ag3,KN,b2];exact⟨by rw[fin false (by rw[hv,bi]; rfl)]; rfl,_,rfl⟩
theorem AGZ:LM Tryz.prog 196=some false:=by kernel_rfl
theorem AZH:szO Tryz.prog 196=some 1:=by kernel_rfl
theorem AY4 (h:Hp):KJ Tryz.prog h 53=some (.ptr h.length 0 0,h++[.live 4 [[.int .i64 0,.int .i64 0,.str ⟨#[]⟩,.sl .nil 0 []]]]):=J8 (row:=[.int .i64 0,.int .i64 0,.str ⟨#[]⟩,.sl .nil 0 []]) (by kernel_rfl)
theorem AWM (h:Hp)(e:Ex)(row:List AV)(hr:row.length=4):FW Tryz.prog (h++[.live 4 [row]]) 53 (.ptr h.length 0 0) (.agg (FH e))=some (h++[.live 4 [FH e]]):=by
 rw[MV (TW (AGO e)) (by rw[KL]; exact ADB) (by rw[KL,hr]; exact jM _)];have:splice row 0 (FH e)=FH e:=by unfold splice; simp [KL,hr]
 rw[this]
theorem A5U (h:Hp):KJ Tryz.prog h 38=some (.ptr h.length 0 0,h++[.live 1 [[.int .i64 0]]]):=J8 (row:=[.int .i64 0]) (by kernel_rfl)
theorem al3 (h:Hp):KJ Tryz.prog h 3=some (.ptr h.length 0 0,h++[.live 1 [[.int .i64 0]]]):=J8 (row:=[.int .i64 0]) (by kernel_rfl)
theorem AZZ (h:Hp):KJ Tryz.prog h 196=some (.ptr h.length 0 0,h++[.live 1 [[.nilfn]]]):=J8 (row:=[.nilfn]) (by kernel_rfl)
theorem JS {h:Hp}{t:TypeId}{b:Nat}{v:AV}(hag:LM Tryz.prog t=some false)(hb:h[b]?=some (.live 1 [[v]])):EH Tryz.prog h t (.ptr b 0 0)=some v:=by
 rw[DW hag hb (row:=[v]) rfl]; rfl
theorem SY {h:Hp}{t:TypeId}{b:Nat}{v u:AV}(hs:szO Tryz.prog t=some 1)(hc:JU u=some [u])(hb:h[b]?=some (.live 1 [[v]])):FW Tryz.prog h t (.ptr b 0 0) u=some (h.set b (.live 1 [[u]])):=by
 rw[KU hc hs hb (row:=[v]) rfl (by simp)]; rfl
theorem A5K (h:Hp)(f:Fn)(a b:List AV):PW h (.fn f a b)=some (.ptr h.length 0 0,h++[.live 1 [[.fn f a b]]]):=rfl
def Chg (c:Nat)(h h':Hp):Prop:=h.length<=h'.length∧∀b,b<h.length->b≠c->h'[b]?=h[b]?
theorem Chg.refl (c:Nat)(h:Hp):Chg c h h:=⟨jM _,fun _ _ _=>rfl⟩
theorem Chg.trans {c:Nat}{a b d:Hp}(h1:Chg c a b)(h2:Chg c b d):Chg c a d :=
 ⟨zZ h1.1 h2.1,fun i hi hc=>by rw[h2.2 i (Nat.lt_of_lt_of_le hi h1.1) hc,h1.2 i hi hc]⟩
theorem Chg.app (c:Nat)(h x:Hp):Chg c h (h++x):=⟨by simp,fun i hi _=>zX hi⟩
theorem Chg.set (c:Nat)(h:Hp)(x:ABlk):Chg c h (h.set c x):=⟨by simp,fun i _ hc=>by rw[zK,if_neg (fun e=>hc e.symm)]⟩
theorem Chg.get {c b:Nat}{h h':Hp}{x:ABlk}(hc:Chg c h h')(hb:h[b]?=some x)(hne:b≠c):h'[b]?=some x:=by
 rw[hc.2 b (CJ hb) hne]; exact hb
theorem Chg.above {c:Nat}{h h':Hp}(hc:Chg c h h')(hl:h.length<=c):∃x,h'=h++x:=by
 refine⟨h'.drop h.length,?_⟩
 have:h'.take h.length=h:=by
  refine List.ext_getElem? fun i=>?_
  rcases zM i h.length with hi|hi
  .rw[List.getElem?_take_of_lt hi,hc.2 i hi (by omega)]
  .rw[qL (by rw[zD]; omega),qL hi]
 conv=>lhs; rw[<-List.take_append_drop h.length h',this]
def run (upd:Ex->Int->Int)(cont:Int->Bool):List Ex->Int->Int×Bool
 | [],z=>(z,true)
 | e::es,z=>if cont (upd e z) then run upd cont es (upd e z) else (upd e z,false)
theorem run_go {upd:Ex->Int->Int}{cont:Int->Bool}:∀ {xs:List Ex} (ys:List Ex) {z z':Int},run upd cont xs z=(z',true)->run upd cont (xs++ys) z=run upd cont ys z'
 | [],ys,z,z',h=>by cases h; rfl
 | x::xs,ys,z,z',h=>by
   simp only[run,qK] at h|-
   split at h
   .rename_i hc; rw[if_pos hc]; exact run_go ys h
   .cases h
theorem run_stop {upd:Ex->Int->Int}{cont:Int->Bool}:∀ {xs:List Ex} (ys:List Ex) {z z':Int},run upd cont xs z=(z',false)->run upd cont (xs++ys) z=(z',false)
 | [],ys,z,z',h=>by cases h
 | x::xs,ys,z,z',h=>by
   simp only[run,qK] at h|-
   split at h
   .rename_i hc; rw[if_pos hc]; exact run_stop ys h
   .rename_i hc; rw[if_neg hc]; exact h
theorem OL (xs:List Ex)(j:Nat)(hj:j<xs.length):J9 (xs.take (j+1))=J9 (xs.take j)++pre xs[j]:=by
 rw[zL hj,P8]; simp [J9]
theorem ACP {a:Ex}:∀ {xs:List Ex},a∈xs->∀x∈pre a,x∈J9 xs
 | [],h,_,_=>by cases h
 | y::ys,h,x,hx=>by
   simp only[J9,qE]
   cases qR.1 h with
   | inl e=>subst e; exact .inl hx
   | inr e=>exact .inr (ACP e x hx)
def AP1 (G:Nat->AV)(k:FuncId)(upd:Ex->Int->Int)(cont:Int->Bool)(e:Ex):Prop :=
 ∀(h:Hp) (c:Nat) (z:Int),h[c]?=some (.live 1 [[.int .i64 z]])->ACalls (En G) k [.agg (FH e),.ptr c 0 0] h fun v h'=>v=.bool (cont (upd e z))∧Chg c h h'∧h'[c]?=some (.live 1 [[.int .i64 (upd e z)]])
theorem ARO (G:Nat->AV)(k:FuncId)(upd:Ex->Int->Int)(cont:Int->Bool)(c vb db:Nat)(hv:vb≠c)(hd:db≠c)(e:Ex) :
  wt e<=1099511627776->(∀x∈pre e,AP1 G k upd cont x)->∀(h:Hp) (z:Int),h[c]?=some (.live 1 [[.int .i64 z]])->h[vb]?=some (.live 1 [[.fn (.func k) [] [.ptr c 0 0]]]) ->
   h[db]?=some (.live 1 [[.fn (.func 230) [] [.ptr vb 0 0,.ptr db 0 0]]]) ->
   ACalls (En G) 230 [.agg (FH e),.ptr vb 0 0,.ptr db 0 0] h fun v h'=>v=.bool (run upd cont (pre e) z).2∧Chg c h h'∧h'[c]?=some (.live 1 [[.int .i64 (run upd cont (pre e) z).1]]):=by
 induction e using Ex.induct with|h e ih=>?_
 intro hw hvis h z hc hvb hdb;have hcl:=CJ hc;have hal:e.args.length<=1099511627776:=by have:=WQ e.args; have:=OI e; omega
 refine acN Tryz.func230 rfl ?_;show awp _ _ _ _ _ (EN _ [.tmp 4] _);simp -implicitDefEqProofs only[BC,BA,A8,AY,BB,AO,AQ,AL,BD,AX,AC,AA,AZ,AU,BM,A7,FU,BQ,CB,BU,BZ,AB,BF,BN,jD,jE,zY,qK,↓reduceIte,jA,jB,jC,enP,bxE,JS AGZ (CV hvb),ldE];refine(hvis e (by rw[pre_eq]; simp) _ c z (CV hc)).mono ?_;rintro v h1 ⟨rfl,hch,hc1⟩;have hch0:=(Chg.app c h _).trans hch;have hb3:h1[h.length]?=some (.live 4 [FH e]):=hch.get (CY _ _) (by omega);have hrun:run upd cont (pre e) z=if cont (upd e z) then run upd cont (J9 e.args) (upd e z) else (upd e z,false):=by rw[pre_eq]; rfl
 simp -implicitDefEqProofs only[BI,A8,AY,BB,AO,AQ,AL,BD,AX,AC,AA,AZ,IE,AB,FK,↓reduceIte,jB,jC];cases hct:cont (upd e z)
 .simp -implicitDefEqProofs only[BC,BA,BK,A8,CP,CG,DI,AY,BB,AO,AQ,AL,BD,AX,AC,AA,AU,BM,A7,↓reduceIte,jB,jC]
  rw[hrun,hct];exact⟨rfl,hch0,hc1⟩
 rw[hct,if_pos rfl] at hrun;have hvb1:=hch0.get hvb hv;have hdb1:=hch0.get hdb hd;have l3:EH Tryz.prog h1 51 (.ptr h.length 0 3)=some (.sl e.m 4 (e.args.map FH)):=by rw[DW ALO hb3 (row:=FH e) rfl,ABS]
 simp -implicitDefEqProofs only[BC,BP,BA,BO,A8,DT,AY,BB,AO,AQ,AL,BD,AX,AC,AA,AZ,AU,BH,BG,BQ,BJ,D7,AB,↓reduceIte,jA,jG,jB,jT,jC,enP,AKG,TT,l3,jI];refine DK (fun n F H=>∃j z',n+j=e.args.length∧F 1=.ptr vb 0 0∧F 2=.ptr db 0 0∧F 12=.sl e.m 4 (e.args.map FH)∧F 13=.int .i64 e.args.length∧F 14=.int .i64 (j:Nat)∧Chg c h H∧H[c]?=some (.live 1 [[.int .i64 z']])∧run upd cont (J9 (e.args.take j)) (upd e z)=(z',true)) e.args.length ⟨0,upd e z,by simp,by simp -implicitDefEqProofs only[AA,BF,BN,↓reduceIte,jA],by simp -implicitDefEqProofs only[AA,BF,BN,↓reduceIte,jA],by simp -implicitDefEqProofs only[AA,↓reduceIte,jA],by simp -implicitDefEqProofs only[AA,↓reduceIte,jA],by simp -implicitDefEqProofs only[AA,↓reduceIte]; rfl,hch0,hc1,rfl⟩ ?_;rintro n F H ⟨j,z',hj,f1,f2,f12,f13,f14,hC,hcz,hr⟩;simp -implicitDefEqProofs only[BC,BA,BI,A8,AY,BB,AO,AQ,AL,BD,AX,AC,AA,AZ,BR,AB,DC,↓reduceIte,jB,jC,enP,f13,f14];refine CU (fun hlt=>?_) (fun hlt=>?_)
 .have hj':j<e.args.length:=by simpa using hlt
  have hdH:H[db]?=some (.live 1 [[.fn (.func 230) [] [.ptr vb 0 0,.ptr db 0 0]]]):=hC.get hdb hd;have hvH:H[vb]?=some (.live 1 [[.fn (.func k) [] [.ptr c 0 0]]]):=hC.get hvb hv;simp -implicitDefEqProofs only[BC,BP,BA,BO,A8,AY,BB,AO,AQ,AL,BD,AX,AC,EM,AA,AZ,FD,BQ,D5,CE,CB,BU,BZ,AB,CX,jD,jE,zY,qK,↓reduceIte,jA,jB,jC,enP,AQ1,jP,f12,f14,DU hj',FM AIV ADB KL hj',AY4,AWM _ _ [.int .i64 0,.int .i64 0,.str ⟨#[]⟩,.sl .nil 0 []] rfl,f2,JS AGZ (CV hdH),ldE];have hmem:e.args[j]∈e.args:=jS hj';refine(ih e.args[j] hmem (by have:=UW hmem; have:=OI e; omega) (fun x hx=>hvis x (by rw[pre_eq]; exact List.mem_cons_of_mem _ (ACP hmem x hx))) _ z' (CV hcz) (CV hvH) (CV hdH)).mono ?_;rintro v h2 ⟨rfl,hch2,hc2⟩;have hC2:=hC.trans ((Chg.app c H _).trans hch2)
  have hsplit:J9 e.args=J9 (e.args.take j)++(pre e.args[j]++J9 (e.args.drop (j+1))):=by
   rw[<-zA,<-OL _ _ hj',<-P8,List.take_append_drop]
  simp -implicitDefEqProofs only[BI,A8,AY,BB,AO,AQ,AL,BD,AX,AC,AA,AZ,IE,AB,FK,↓reduceIte,jB,jC];rcases hrr:run upd cont (pre e.args[j]) z' with⟨z2,b2⟩;rw[hrr] at hc2;cases b2
  .simp -implicitDefEqProofs only[BC,BA,BK,A8,CP,EG,FQ,CG,DI,AY,BB,AO,AQ,AL,BD,AX,AC,AA,AU,BM,A7,↓reduceIte,jB,jC]
   have:run upd cont (pre e) z=(z2,false):=by rw[hrun,hsplit,run_go _ hr]; exact run_stop _ hrr
   rw[this];exact⟨rfl,hC2,hc2⟩
  .simp -implicitDefEqProofs only[BA,BO,A8,EJ,EQ,DT,AY,BB,AO,AQ,AL,BD,AX,AC,AA,AZ,AU,BH,BG,BR,AB,CZ,↓reduceIte,jA,jB,jT,jC,enP,f1,f2,f12,f13,f14,wrap_succ (show j<9223372036854775807 by omega)]
   refine⟨n-1,by omega,j+1,z2,by omega,trivial,trivial,trivial,trivial,rfl,hC2,hc2,?_⟩;rw[OL _ _ hj',run_go _ hr]; exact hrr
 .have hj':¬j<e.args.length:=by simpa using hlt
  simp -implicitDefEqProofs only[BC,BA,BK,DJ,A8,EI,EW,ET,CG,AY,BB,AO,AQ,AL,BD,AX,AC,AA,AU,BM,A7,↓reduceIte,jB,jC];rw[jX (by omega)] at hr;rw[hrun,hr];exact⟨rfl,hC,hcz⟩
theorem AFT (G:Nat->AV)(k:FuncId)(upd:Ex->Int->Int)(cont:Int->Bool)(c:Nat)(e:Ex)(hw:wt e<=1099511627776)(hvis:∀x∈pre e,AP1 G k upd cont x)(h:Hp)(z:Int)(hc:h[c]?=some (.live 1 [[.int .i64 z]])) :
  ACalls (En G) 196 [.agg (FH e),.fn (.func k) [] [.ptr c 0 0]] h fun _ h'=>Chg c h h'∧h'[c]?=some (.live 1 [[.int .i64 (run upd cont (pre e) z).1]]):=by
 have hcl:=CJ hc;refine acN Tryz.func196 rfl ?_;show awp _ _ _ _ _ (EN _ [] _);simp -implicitDefEqProofs only[BC,BA,A8,AY,BB,AO,AQ,AL,BD,AX,AC,AA,AZ,FD,FU,D5,I8,BZ,BF,BN,jD,jE,↓reduceIte,jA,jB,jC,enP,jP,bxE,A5K,AZZ];have g0:(h++[ABlk.live 4 [FH e]]++[ABlk.live 1 [[AV.fn (.func k) [] [.ptr c 0 0]]]]++[ABlk.live 1 [[AV.nilfn]]])[(h++[ABlk.live 4 [FH e]]++[ABlk.live 1 [[AV.fn (.func k) [] [.ptr c 0 0]]]]).length]?=some (.live 1 [[.nilfn]]):=CY _ _;simp -implicitDefEqProofs only[BA,A8,AY,BB,AO,AQ,AL,BD,AX,EM,AA,AZ,BQ,CX,↓reduceIte,jA,jB,jC,enP,SY AZH (AZ3 _ _ _) g0]
 generalize hdb:(h++[ABlk.live 4 [FH e]]++[ABlk.live 1 [[AV.fn (.func k) [] [.ptr c 0 0]]]]).length=db at g0|-
 generalize hvb:(h++[ABlk.live 4 [FH e]]).length=vb;have hvl:vb=h.length+1:=by rw[<-hvb]; simp
 have hdl:db=h.length+2:=by rw[<-hdb]; simp
 generalize hH:(h++[ABlk.live 4 [FH e]]++[ABlk.live 1 [[AV.fn (.func k) [] [.ptr c 0 0]]]]++[ABlk.live 1 [[AV.nilfn]]]).set db (.live 1 [[AV.fn (.func 230) [] [.ptr vb 0 0,.ptr db 0 0]]])=H;have h1:H[db]?=some (.live 1 [[.fn (.func 230) [] [.ptr vb 0 0,.ptr db 0 0]]]):=by rw[<-hH]; exact D8 g0
 have h2:H[vb]?=some (.live 1 [[.fn (.func k) [] [.ptr c 0 0]]]):=by
  rw[<-hH]; refine CW ?_ (by omega);rw[<-hvb]; exact CV (CY _ _)
 have h3:H[h.length]?=some (.live 4 [FH e]):=by
  rw[<-hH]; refine CW ?_ (by omega);exact CV (CV (CY _ _))
 have h4:H[c]?=some (.live 1 [[.int .i64 z]]):=by
  rw[<-hH]; refine CW ?_ (by omega);exact CV (CV (CV hc))
 have hC:Chg c h H:=by
  refine⟨by rw[<-hH]; simp,fun b hb hbc=>?_⟩;obtain⟨x,hx⟩:∃x,h[b]?=some x:=⟨_,jU hb⟩;rw[<-hH,hx];exact CW (CV (CV (CV hx))) (by omega)
 simp -implicitDefEqProofs only[AY,AO,AQ,AL,BD,AX,AC,AA,AZ,BQ,CB,BU,AB,jD,jE,zY,qK,↓reduceIte,jA,jB,jC,enP,JS AGZ h1,NK h3];refine(ARO G k upd cont c vb db (by omega) (by omega) e hw hvis H z h4 h2 h1).mono ?_;rintro v h' ⟨rfl,hch,hc1⟩;simp -implicitDefEqProofs only[AIH,BB,AC];exact⟨hC.trans hch,hc1⟩
theorem AL0 (G:Nat->AV)(e:Ex):AP1 G 233 (fun _ z=>IntKind.i64.wrap (z+1)) (fun _=>true) e:=by
 intro h c z hc;have hcl:=CJ hc;refine acN Tryz.func233 rfl ?_;show awp _ _ _ _ _ (EN _ [.tmp 3] _);simp -implicitDefEqProofs only[BC,BA,BK,A8,CG,AY,BB,AO,AQ,AL,BD,AX,AC,EM,AA,AZ,AU,BH,BM,A7,FU,BQ,D5,BR,BZ,AB,CX,CZ,BF,BN,↓reduceIte,jA,jB,jC,enP,jP,bxE,JS ag3 (CV hc),SY sz3 (PV _ _) (CV hc)];exact⟨trivial,(Chg.app c h _).trans (Chg.set c _ _),D8 (CV hc)⟩
theorem AKS (G:Nat->AV)(hG:GOk G)(e:Ex)(hl:e.name.size<=1048576):AP1 G 197 (fun e _=>KT e) (fun z=>z==0) e:=by
 intro h c z hc;have hcl:=CJ hc;refine acN Tryz.func197 rfl ?_;show awp _ _ _ _ _ (EN _ [.tmp 3] _);simp -implicitDefEqProofs only[BC,BA,A8,AY,BB,AO,AQ,AL,BD,AX,AC,AA,AZ,AU,BX,BM,A7,FU,BQ,CB,BU,BZ,AB,BF,jD,jE,jF,↓reduceIte,jA,jB,jC,enP,bxE,ldE];refine(AQU G hG e _ hl).use ?_;have hs:=D8 (y:=.live 1 [[.int .i64 (KT e)]]) (CV (x:=.live 4 [FH e]) hc);simp -implicitDefEqProofs only[BC,BA,BK,A8,CG,AY,BB,AO,AQ,AL,BD,AX,AC,EM,AA,AZ,AU,BH,A7,BQ,D5,BR,AB,CX,EC,BF,BN,↓reduceIte,jA,jB,jC,enP,jP,SY A0C (PV _ _) (CV hc),JS AV0 hs];exact⟨trivial,(Chg.app c h _).trans (Chg.set c _ _),hs⟩
theorem AJN:∀(xs:List Ex) (n:Nat),n+xs.length<=1099511627776->run (fun _ z=>IntKind.i64.wrap (z+1)) (fun _=>true) xs (n:Int)=(((n+xs.length:Nat):Int),true)
 | [],n,_=>rfl
 | x::xs,n,h=>by
   simp only[qQ] at h;simp only[run,if_true];rw[wrap_succ (by omega),AJN xs (n+1) (by omega),qQ];congr 1; omega
def errs (xs:List Ex):Int:=xs.foldl (fun z e=>if z=0 then KT e else z) 0
theorem AIG:∀(xs:List Ex) (z:Int),z≠0->xs.foldl (fun z e=>if z=0 then KT e else z) z=z
 | [],_,_=>rfl
 | x::xs,z,h=>by rw[List.foldl_cons,if_neg h]; exact AIG xs z h
theorem AJO:∀(xs:List Ex),(run (fun e _=>KT e) (fun z=>z==0) xs 0).1=errs xs
 | []=>rfl
 | x::xs=>by
   simp only[run,errs,List.foldl_cons,if_true];rcases hn:(KT x==0) with _|_
   .have:KT x≠0:=by simpa using hn
    rw[AIG _ _ this]; rfl
   .have:KT x=0:=by simpa using hn
    rw[this]; simp only[if_true]; exact AJO xs
theorem AJ4 {x e:Ex}(hx:x∈pre e):x.name.size<=wt e:=by
 induction e using Ex.induct with|h e ih=>?_
 rw[pre_eq] at hx;have hw:=OI e;rcases qR.1 hx with rfl|hx
 .omega
 have:∀l:List Ex,(∀a∈l,x∈pre a->x.name.size<=wt a)->x∈J9 l->x.name.size<=wts l:=by
  intro l
  induction l with
  | nil=>intro _ h; simp [J9] at h
  | cons y l ih2 =>
    intro hh h;simp only[J9,qE] at h;simp only[wts];rcases h with h|h
    .have:=hh y (by simp) h; omega
    .have:=ih2 (fun a ha=>hh a (by simp [ha])) h; omega
 have:=this e.args (fun a ha=>ih a ha) hx;omega
theorem AQD (G:Nat->AV)(e:Ex)(h:Hp)(hw:wt e<=1099511627776):PCall (En G) 200 [.agg (FH e)] h (.int .i64 (pre e).length):=by
 refine ACalls.pure0 rfl ?_;refine acN Tryz.func200 rfl ?_;show awp _ _ _ _ _ (EN _ [.tmp 2] _);have hg:=CY (h++[ABlk.live 4 [FH e]]) (.live 1 [[.int .i64 0]]);have hs:(h++[ABlk.live 4 [FH e]]++[ABlk.live 1 [[.int .i64 0]]]).set (h++[ABlk.live 4 [FH e]]).length (.live 1 [[.int .i64 0]])=h++[ABlk.live 4 [FH e]]++[ABlk.live 1 [[.int .i64 0]]]:=ACN _ _ _;simp -implicitDefEqProofs only[BC,BA,A8,AY,BB,AO,AQ,AL,BD,AX,AC,EM,AA,AZ,AU,BX,BH,A7,FD,FU,BQ,D5,I8,CB,BU,BZ,AB,CX,BF,jD,jE,jF,↓reduceIte,jA,jB,jC,enP,jP,bxE,al3,SY sz3 (PV _ _) hg,hs,NK (CV (CY h _))];refine(AFT G 233 _ _ _ e hw (fun x _=>AL0 G x) _ 0 hg).mono ?_;rintro v h' ⟨hch,hc1⟩;simp -implicitDefEqProofs only[BC,BA,BK,A8,CG,AY,BB,AO,AQ,AL,BD,AX,AC,AA,AZ,A7,BQ,AB,↓reduceIte,jA,jB,jC,enP,JS ag3 hc1];have:=AJN (pre e) 0 (by have:=AHM e; omega);simp only[jG] at this;exact⟨by rw[show(0:Int)=((0:Nat):Int) from rfl,this],(((Chg.app _ h _).trans (Chg.app _ _ _)).trans hch).above (by simp)⟩
theorem ANB (G:Nat->AV)(e:Ex):wt e<=1099511627776->∀h:Hp,PCall (En G) 199 [.agg (FH e)] h (.int .i64 (dep e)):=by
 induction e using Ex.induct with|h e ih=>?_
 intro hw h;have hal:e.args.length<=1099511627776:=by have:=WQ e.args; have:=OI e; omega
 refine ACalls.pure0 rfl ?_;refine acN Tryz.func199 rfl ?_;show awp _ _ _ _ _ (EN _ [.tmp 2] _);simp -implicitDefEqProofs only[BC,BP,BA,A8,AY,BB,AO,AQ,AL,BD,AX,AC,AA,AZ,AU,BH,BG,A7,FU,BQ,BJ,D7,BZ,AB,BF,↓reduceIte,jA,jG,jB,jC,enP,AKG,TT,bxE,DL ALO,ABS,jI];have hdw:dep e<=1099511627776:=zZ (AU4 e) hw;refine DK (fun n F H=>∃j,n+j=e.args.length∧F 3=.int .i64 (deps (e.args.take j):Nat)∧F 7=.sl e.m 4 (e.args.map FH)∧F 8=.int .i64 e.args.length∧F 9=.int .i64 (j:Nat)∧∃x,H=h++x) e.args.length ⟨0,by simp,by simp -implicitDefEqProofs only[AA,↓reduceIte,jA]; rfl,by simp -implicitDefEqProofs only[AA,↓reduceIte,jA],by simp -implicitDefEqProofs only[AA,↓reduceIte,jA],by simp -implicitDefEqProofs only[AA,↓reduceIte]; rfl,⟨_,rfl⟩⟩ ?_;rintro n F H ⟨j,hj,f3,f7,f8,f9,x,rfl⟩;simp -implicitDefEqProofs only[BC,BA,BI,A8,AY,BB,AO,AQ,AL,BD,AX,AC,AA,AZ,BR,AB,DC,↓reduceIte,jB,jC,enP,f8,f9];refine CU (fun hlt=>?_) (fun hlt=>?_)
 .have hj':j<e.args.length:=by simpa using hlt
  have hmem:e.args[j]∈e.args:=jS hj';simp -implicitDefEqProofs only[BC,BP,BA,BO,A8,AY,BB,AO,AQ,AL,BD,AX,AC,EM,AA,AZ,BX,BG,FD,BQ,D5,CE,CB,BU,BZ,AB,CX,jD,jE,jF,↓reduceIte,jA,jB,jC,enP,AQ1,jP,f3,f7,f9,DU hj',FM AIV ADB KL hj',AY4,AWM _ _ [.int .i64 0,.int .i64 0,.str ⟨#[]⟩,.sl .nil 0 []] rfl,ldE];refine(ih e.args[j] hmem (by have:=UW hmem; have:=OI e; omega) _).use ?_;simp -implicitDefEqProofs only[BA,A8,EJ,EQ,AY,BB,AO,AQ,AL,BD,AX,AC,AA,AZ,AU,BH,BG,A7,BR,AZF,AB,CZ,ATP,↓reduceIte,jA,jB,jC,enP,f7,f8,f9,wrap_succ (show j<9223372036854775807 by omega)];refine⟨n-1,by omega,j+1,by omega,?_,trivial,trivial,rfl,_,by rw[zA]⟩;rw[AGP _ _ hj'];congr 1;omega
 .have hj':¬j<e.args.length:=by simpa using hlt
  rw[jX (by omega)] at f3
  rw[AIL] at hdw|-
  simp -implicitDefEqProofs only[BC,BA,BK,DJ,A8,EI,EW,ET,CG,AY,BB,AO,AQ,AL,BD,AX,AC,AA,AZ,AU,BH,BG,A7,BR,AB,CZ,↓reduceIte,jA,jB,jC,enP,f3,wrap_succ (show deps e.args<9223372036854775807 by omega)];exact⟨trivial,x,rfl⟩
def exE (e:Ex):Int:=if errs (pre e)=0∧(24<dep e∨400<(pre e).length) then 2 else errs (pre e)
theorem ZK (G:Nat->AV)(hG:GOk G)(e:Ex)(h:Hp)(hw:wt e<=1048576):PCall (En G) 151 [.agg (FH e)] h (.int .i64 (exE e)):=by
 refine ACalls.pure0 rfl ?_;refine acN Tryz.func151 rfl ?_;show awp _ _ _ _ _ (EN _ [.tmp 2] _);have hg:=CY (h++[ABlk.live 4 [FH e]]) (.live 1 [[.int .i64 0]]);have hs:(h++[ABlk.live 4 [FH e]]++[ABlk.live 1 [[.int .i64 0]]]).set (h++[ABlk.live 4 [FH e]]).length (.live 1 [[.int .i64 0]])=h++[ABlk.live 4 [FH e]]++[ABlk.live 1 [[.int .i64 0]]]:=ACN _ _ _;have hb:=CV (x:=ABlk.live 1 [[.int .i64 0]]) (CY h (.live 4 [FH e]));simp -implicitDefEqProofs only[BC,BA,A8,AY,BB,AO,AQ,AL,BD,AX,AC,EM,AA,AZ,AU,BX,BH,A7,FD,FU,BQ,D5,I8,CB,BU,BZ,AB,CX,BF,jD,jE,jF,↓reduceIte,jA,jB,jC,enP,jP,bxE,A5U,SY A0C (PV _ _) hg,hs,NK hb];refine(AFT G 197 _ _ _ e (by omega) (fun x hx=>AKS G hG x (by have:=AJ4 hx; omega)) _ 0 hg).mono ?_;rintro v h' ⟨hch,hc1⟩;rw[AJO] at hc1;have hb':=hch.get hb (by simp);have hab:=(((Chg.app _ h _).trans (Chg.app _ _ _)).trans hch).above (show h.length<=(h++[ABlk.live 4 [FH e]]).length by simp);simp -implicitDefEqProofs only[BC,BA,A8,AY,BB,BL,BV,CO,AO,AQ,AL,BD,AX,AC,AA,AZ,AU,BH,BG,BQ,BR,AB,EC,↓reduceIte,jA,jB,jC,enP,JS AV0 hc1];rcases he:(errs (pre e)==0) with _|_
 .simp -implicitDefEqProofs only[BC,BA,BO,BK,BI,A8,CG,DT,AY,BB,BL,BV,CO,IX,SI,AO,AQ,AL,BD,AX,AC,AA,EX,AZ,AU,BM,A7,CQ,DX,BQ,AB,↓reduceIte,jA,jB,jC,enP,JS AV0 hc1]
  have:errs (pre e)≠0:=by simpa using he
  exact⟨by unfold exE; rw[if_neg (fun hh=>this hh.1)],hab⟩
 have he0:errs (pre e)=0:=by simpa using he
 simp -implicitDefEqProofs only[BL,BV,CO,F9,AO,AQ,AL,BD,AX,AC,AA,AZ,BX,BQ,CB,BU,AB,jD,jE,jF,↓reduceIte,jA,jB,jC,enP,NK hb'];refine(ANB G e (by omega) _).use ?_;simp -implicitDefEqProofs only[BL,BV,CO,F9,AO,AQ,AL,BD,AX,AC,AA,AZ,AU,BH,BG,BR,AB,FV,↓reduceIte,jA,jB,jC,enP];refine IL (fun hd=>?_) (fun hd=>?_)
 .simp -implicitDefEqProofs only[BC,BA,BK,BI,A8,CP,CG,DI,AY,BB,BL,BV,CO,F9,F7,AO,AQ,AL,BD,AX,AC,AA,EX,AZ,AU,BH,BM,A7,CQ,DY,↓reduceIte,jA,jB,jC,hd]
  exact⟨by unfold exE; rw[if_pos ⟨he0,.inl (by simp at hd; omega)⟩],hab⟩
 simp -implicitDefEqProofs only[BL,BV,CO,ES,AO,AQ,AL,BD,AX,AC,AA,AZ,BX,BQ,CB,BU,AB,jD,jE,jF,↓reduceIte,jA,jB,jC,enP,hd,NK hb'];refine(AQD G e _ (by omega)).use ?_;simp -implicitDefEqProofs only[BI,A8,AY,BB,BL,BV,CO,F9,ES,AO,AQ,AL,BD,AX,AC,AA,AZ,AU,BH,BM,CQ,DY,DX,BR,AB,FV,↓reduceIte,jA,jB,jC,enP];refine CU (fun hn=>?_) (fun hn=>?_)
 .simp -implicitDefEqProofs only[BC,BA,BK,A8,CP,CG,AY,BB,AO,AQ,AL,BD,AX,AC,AA,AU,BH,A7,↓reduceIte,jB,jC]
  exact⟨by unfold exE; rw[if_pos ⟨he0,.inr (by simp at hn; omega)⟩],hab⟩
 .simp -implicitDefEqProofs only[BC,BA,BO,BK,A8,CG,AY,BB,AO,AQ,AL,BD,AX,AC,AA,AZ,A7,BQ,AB,↓reduceIte,jA,jB,jC,enP,JS AV0 hc1]
  exact⟨by unfold exE; rw[if_neg (fun hh=>by simp at hn hd; omega)],hab⟩
theorem WH {E:Env}{H:Hint}{x y:Code}{F:Fr}{h:Hp}{Q:AEx->Fr->Hp->Prop}{b:Bool}(N R:Fr->Hp->Prop)(h1:b=true->awp E H x F h (AXR N R))(h2:b=false->awp E H y F h (AXR N R))(hn:∀F h,N F h->Q .normal F h)(hr:∀F h,R F h->Q .ret F h) :
 AES E H x y F h Q (.bool b):=⟨fun e=>AIS N R (h1 e) hn hr,fun e=>AIS N R (h2 e) hn hr⟩
def isB (v:AV)(b:Nat):Prop:=match v with
 | .own b' _ _=>b'=b
 | _=>False
def sv (h:Hp)(m:Nat)(v:AV):Prop:=∃vs:List ByteArray,vs.length<=m∧((vs=[]∧∃k,v=.sl .nil k [])∨∃b,v=.own b 0 vs.length∧h[b]?=some (.live 1 (vs.map encStr)))
theorem AX3 (G:Nat->AV)(k:Nat)(v:ByteArray)(h:Hp):PCall (En G) 226 [.sl .nil k [],.str v] h (.bool false):=by
 refine acN Tryz.func226 rfl ?_;show awp _ _ _ _ _ (EN _ [.tmp 4] _);simp -implicitDefEqProofs only[BC,BP,BA,A8,AY,BB,AO,AQ,AL,BD,AX,AC,AU,BH,BM,A7,jB,jC,enP];refine DK (fun n F H=>F 0=.sl .nil k []∧F 5=.int .i64 0∧H=h) 0 ⟨rfl,rfl,rfl⟩ ?_;rintro n F H ⟨f0,f5,rfl⟩;simp -implicitDefEqProofs only[BC,BA,BI,A8,AY,BB,AO,AQ,AL,BD,AX,AC,AA,AZ,BG,BR,D7,AB,DC,↓reduceIte,jA,jB,jC,enP,ABK,f0,f5,List.length_nil];have:decide ((0:Int)<((0:Nat):Int))=false:=by simp
 simp -implicitDefEqProofs only[BC,BA,BK,DJ,A8,EI,EW,ET,CG,DT,AY,BB,AO,AQ,AL,BD,AX,AC,AA,AU,BM,A7,↓reduceIte,jB,jC,this];exact⟨trivial,trivial⟩
theorem ND {α:Type}{f:α->List AV}{xs:List α}{k:Nat}(hk:k<xs.length):(xs.map f)[k]?=some (f xs[k]):=by
 rw[zH,jU hk]; rfl
theorem FX {h x:Hp}{y:ABlk}{b:Nat}(hb:h[b]?=some y):(h++x)[b]?=some y:=by
 rw[zX (CJ hb)]; exact hb
theorem AX2 (G:Nat->AV)(xs:List ByteArray)(b:Nat)(v:ByteArray)(h:Hp)(hb:h[b]?=some (.live 1 (xs.map encStr)))(hl:xs.length<=1099511627776) :
  PCall (En G) 226 [.own b 0 xs.length,.str v] h (.bool (I4 xs v)):=by
 refine acN Tryz.func226 rfl ?_;show awp _ _ _ _ _ (EN _ [.tmp 4] _);simp -implicitDefEqProofs only[BC,BP,BA,A8,AY,BB,AO,AQ,AL,BD,AX,AC,AU,BH,BM,A7,jB,jC,enP];refine DK (fun n F H=>∃k,n+k=xs.length∧F 0=.own b 0 xs.length∧F 1=.str v∧F 5=.int .i64 (k:Nat)∧H=h∧I4 xs v=I4 (xs.drop k) v) xs.length ⟨0,by simp,rfl,rfl,rfl,rfl,rfl⟩ ?_;rintro n F H ⟨k,hk,f0,f1,f5,rfl,hin⟩;simp -implicitDefEqProofs only[BC,BA,BI,A8,AY,BB,AO,AQ,AL,BD,AX,AC,AA,AZ,BG,BR,D7,AB,DC,↓reduceIte,jA,jB,jC,enP,ABK,f0,f1,f5];refine CU (fun hc=>?_) (fun hc=>?_)
 .have hc':k<xs.length:=by simpa using hc
  have hs:I4 (xs.drop k) v=((v.toList==xs[k].toList)||I4 (xs.drop (k+1)) v):=LD _ xs k hc';have l1:EH Tryz.prog H 9 (.ptr b k 0)=some (.str xs[k]):=by rw[DW ag9 hb (row:=encStr xs[k]) (ND hc')]; rfl
  simp -implicitDefEqProofs only[BC,BP,BA,BO,BI,A8,AY,BB,AO,AQ,AL,BD,AX,AC,AA,AZ,BG,BQ,BR,CE,AB,ML,↓reduceIte,jA,jG,jB,jC,enP,AGA,f0,f1,f5,L6 hb hc',l1];refine CU (fun hb=>?_) (fun hb=>?_)
  .simp -implicitDefEqProofs only[BC,BA,BK,A8,CP,EG,FQ,CG,AY,BB,AO,AQ,AL,BD,AX,AC,AA,AU,BM,A7,↓reduceIte,jB,jC]
   refine⟨?_,trivial⟩;rw[hin,hs,show(v.toList==xs[k].toList)=true by rw[BEq.comm]; exact hb]; rfl
  .simp -implicitDefEqProofs only[BA,BO,A8,EJ,EQ,AY,BB,AO,AQ,AL,BD,AX,AC,AA,AZ,AU,BH,BG,A7,BR,AB,CZ,↓reduceIte,jA,jB,jC,enP,f5,wrap_succ (show k<9223372036854775807 by omega)]
   refine⟨n-1,by omega,k+1,by omega,f0,f1,rfl,trivial,?_⟩;rw[hin,hs,show(v.toList==xs[k].toList)=false by rw[BEq.comm]; exact hb]; rfl
 .have hc':¬k<xs.length:=by simpa using hc
  simp -implicitDefEqProofs only[BC,BA,BK,DJ,A8,EI,EW,ET,CG,AY,BB,AO,AQ,AL,BD,AX,AC,AA,AU,BM,A7,↓reduceIte,jB,jC];exact⟨by rw[hin,jW (by omega)]; rfl,trivial⟩
theorem AUB (G:Nat->AV){h:Hp}{m:Nat}{v:AV}(s:ByteArray)(hv:sv h m v)(hm:m<=8388608):∃r,PCall (En G) 226 [v,.str s] h (.bool r):=by
 obtain⟨vs,hl,⟨_,k,rfl⟩|⟨b,rfl,hb⟩⟩:=hv
 .exact⟨_,AX3 G k s h⟩
 .exact⟨_,AX2 G vs b s h hb (by omega)⟩
theorem AVL (h:Hp)(s:ByteArray):FY Tryz.prog false h 179 1 [(0,.str s)]=some (.sl .full 1 [[.str s]],h):=by kernel_rfl
theorem AVX {h:Hp}{m:Nat}{v:AV}(s:ByteArray)(hv:sv h m v)(hm:m<=8388608):∃v' h',H7 Tryz.prog true h 179 179 v (.sl .full 1 [[.str s]])=some (v',h')∧sv h' (m+1) v'∧(∀b,isB v' b->b=h.length) ∧
  h.length<=h'.length∧∀b,b<h.length->¬isB v b->h'[b]?=h[b]? := by
 obtain⟨vs,hl,⟨rfl,k,rfl⟩|⟨b,rfl,hb⟩⟩:=hv
 .refine⟨_,_,VA ASN sz9 ASD AVF (KO h .full 1 [[.str s]]) (by simp) (JW (by simp) (by omega)),⟨[s],by simp,.inr ⟨h.length,rfl,CY _ _⟩⟩,fun b hb=>hb.symm,by simp,fun b hb _=>zX hb⟩
 .have hc:KZ h (.own b 0 vs.length)=some (1,vs.map encStr):=by
   rw[Q5 hb (by simp),List.drop_zero,jX (by simp)]
  refine⟨_,_,XF ASN sz9 ASD AVF hc (KO h .full 1 [[.str s]]) (by simp) (JW (by simp; omega) (by omega)),⟨vs++[s],by simp; omega,.inr ⟨h.length,by simp,by simp [encStr]⟩⟩,fun b hb=>hb.symm,by simp,fun o ho hn=>?_⟩;rw[zX (by simpa using ho)];have hn':¬b=o:=hn;rw[zK,if_neg hn']
def wRow (n dd:Nat)(f:Int)(v1 v2:AV):List AV:=[.int .i64 n,.int .i64 dd,.int .i64 f,v1,v2]
structure St (h:Hp) (c m1 m2 n dd:Nat) (f:Int) (v1 v2:AV):Prop where
 w:h[c]?=some (.live 5 [wRow n dd f v1 v2])
 s1:sv h m1 v1
 s2:sv h m2 v2
 ap:∀b,isB v1 b->¬isB v2 b
theorem sv.b {h:Hp}{m:Nat}{v:AV}{b:Nat}(hs:sv h m v)(hb:isB v b):∃vs:List ByteArray,h[b]?=some (.live 1 (vs.map encStr)):=by
 obtain⟨vs,_,⟨_,k,rfl⟩|⟨b',rfl,h'⟩⟩:=hs
 .exact hb.elim
 .cases hb; exact⟨vs,h'⟩
theorem sv.ne {h:Hp}{m b c:Nat}{v:AV}{row:List AV}(hs:sv h m v)(hc:h[c]?=some (.live 5 [row]))(hb:isB v b):b≠c:=by
 intro e; subst e;obtain⟨vs,h'⟩:=hs.b hb;rw[h'] at hc; cases hc
theorem sv.keep {h h':Hp}{m m':Nat}{v:AV}(hs:sv h m v)(hm:m<=m')(hk:∀b,isB v b->h'[b]?=h[b]?):sv h' m' v:=by
 obtain⟨vs,hl,⟨e,k,rfl⟩|⟨b,rfl,hb⟩⟩:=hs
 .exact⟨vs,by omega,.inl ⟨e,k,rfl⟩⟩
 .exact⟨vs,by omega,.inr ⟨b,rfl,by rw[hk b rfl]; exact hb⟩⟩
structure Ch (c:Nat) (v1 v2:AV) (h:Hp) (v1' v2':AV) (h':Hp):Prop where
 len:h.length<=h'.length
 get:∀b,b<h.length->b≠c->¬isB v1 b->¬isB v2 b->h'[b]?=h[b]?
 n1:∀b,isB v1' b->isB v1 b∨h.length<=b
 n2:∀b,isB v2' b->isB v2 b∨h.length<=b
theorem Ch.refl (c:Nat)(v1 v2:AV)(h:Hp):Ch c v1 v2 h v1 v2 h:=⟨jM _,fun _ _ _ _ _=>rfl,fun _ h=>.inl h,fun _ h=>.inl h⟩
theorem Ch.trans {c:Nat}{v1 v2 u1 u2 w1 w2:AV}{a b d:Hp}(h1:Ch c v1 v2 a u1 u2 b)(h2:Ch c u1 u2 b w1 w2 d):Ch c v1 v2 a w1 w2 d:=by
 refine⟨zZ h1.len h2.len,fun i hi hc hv hu=>?_,fun i hi=>?_,fun i hi=>?_⟩
 .rw[h2.get i (Nat.lt_of_lt_of_le hi h1.len) hc (fun e=>(h1.n1 i e).elim hv (fun e=>by omega)) (fun e=>(h1.n2 i e).elim hu (fun e=>by omega)),h1.get i hi hc hv hu]
 .rcases h2.n1 i hi with h|h
  .exact h1.n1 i h
  .exact .inr (zZ h1.len h)
 .rcases h2.n2 i hi with h|h
  .exact h1.n2 i h
  .exact .inr (zZ h1.len h)
theorem Ch.app (c:Nat)(v1 v2:AV)(h x:Hp):Ch c v1 v2 h v1 v2 (h++x):=⟨by simp,fun _ hi _ _ _=>zX hi,fun _ h=>.inl h,fun _ h=>.inl h⟩
theorem Ch.set (c:Nat)(v1 v2:AV)(h:Hp)(x:ABlk):Ch c v1 v2 h v1 v2 (h.set c x):=⟨by simp,fun _ _ hc _ _=>by rw[zK,if_neg (fun e=>hc e.symm)],fun _ h=>.inl h,fun _ h=>.inl h⟩
theorem St.app {h:Hp}{c m1 m2 n dd:Nat}{f:Int}{v1 v2:AV}(s:St h c m1 m2 n dd f v1 v2)(x:Hp):St (h++x) c m1 m2 n dd f v1 v2:=by
 have keep:∀v m,sv h m v->sv (h++x) m v:=fun v m hv=>hv.keep (jM _) fun b hb=>by
  obtain⟨vs,h'⟩:=hv.b hb;exact zX (CJ h')
 exact⟨FX s.w,keep _ _ s.s1,keep _ _ s.s2,s.ap⟩
theorem St.set {h:Hp}{c m1 m2 n dd:Nat}{f:Int}{v1 v2:AV}(s:St h c m1 m2 n dd f v1 v2)(n' dd':Nat)(f':Int):St (h.set c (.live 5 [wRow n' dd' f' v1 v2])) c m1 m2 n' dd' f' v1 v2:=by
 have keep:∀v m,sv h m v->sv (h.set c (.live 5 [wRow n' dd' f' v1 v2])) m v:=fun v m hv=>hv.keep (jM _) fun b hb=>by
  rw[zK,if_neg (fun e=>hv.ne s.w hb e.symm)]
 exact⟨D8 s.w,keep _ _ s.s1,keep _ _ s.s2,s.ap⟩
section
variable {h:Hp} {c m1 m2 n dd:Nat} {f:Int} {v1 v2:AV} (s:St h c m1 m2 n dd f v1 v2)
include s
theorem St.l0:EH Tryz.prog h 3 (.ptr c 0 0)=some (.int .i64 n):=by rw[DW ag3 s.w (row:=wRow n dd f v1 v2) rfl]; rfl
theorem St.l1:EH Tryz.prog h 3 (.ptr c 0 1)=some (.int .i64 dd):=by rw[DW ag3 s.w (row:=wRow n dd f v1 v2) rfl]; rfl
theorem St.l2:EH Tryz.prog h 38 (.ptr c 0 2)=some (.int .i64 f):=by rw[DW AV0 s.w (row:=wRow n dd f v1 v2) rfl]; rfl
theorem St.l3:EH Tryz.prog h 179 (.ptr c 0 3)=some v1:=by rw[DW AG0 s.w (row:=wRow n dd f v1 v2) rfl]; rfl
theorem St.l4:EH Tryz.prog h 179 (.ptr c 0 4)=some v2:=by rw[DW AG0 s.w (row:=wRow n dd f v1 v2) rfl]; rfl
theorem St.t0 (x:Nat):FW Tryz.prog h 3 (.ptr c 0 0) (.int .i64 x)=some (h.set c (.live 5 [wRow x dd f v1 v2])):=by
 rw[KU (PV _ _) sz3 s.w (row:=wRow n dd f v1 v2) rfl (by simp [wRow])]; rfl
theorem St.t1 (x:Nat):FW Tryz.prog h 3 (.ptr c 0 1) (.int .i64 x)=some (h.set c (.live 5 [wRow n x f v1 v2])):=by
 rw[KU (PV _ _) sz3 s.w (row:=wRow n dd f v1 v2) rfl (by simp [wRow])]; rfl
theorem St.t2 (x:Int):FW Tryz.prog h 38 (.ptr c 0 2) (.int .i64 x)=some (h.set c (.live 5 [wRow n dd x v1 v2])):=by
 rw[KU (PV _ _) A0C s.w (row:=wRow n dd f v1 v2) rfl (by simp [wRow])]; rfl
end
theorem St.app3 {h:Hp}{c m1 m2 n dd:Nat}{f:Int}{v1 v2:AV}(s:St h c m1 m2 n dd f v1 v2)(x:ByteArray)(hm:m1<=8388608) :
  ∃ v' h',H7 Tryz.prog true h 179 179 v1 (.sl .full 1 [[.str x]])=some (v',h')∧FW Tryz.prog h' 179 (.ptr c 0 3) v'=some (h'.set c (.live 5 [wRow n dd f v' v2])) ∧
    St (h'.set c (.live 5 [wRow n dd f v' v2])) c (m1+1) m2 n dd f v' v2∧Ch c v1 v2 h v' v2 (h'.set c (.live 5 [wRow n dd f v' v2])):=by
 obtain⟨v',h',ha,hs,hb,hl,hk⟩:=AVX x s.s1 hm;have hc1:¬isB v1 c:=fun e=>s.s1.ne s.w e rfl
 have hc2:¬isB v2 c:=fun e=>s.s2.ne s.w e rfl
 have hcl:=CJ s.w;have hw:h'[c]?=some (.live 5 [wRow n dd f v1 v2]):=by rw[hk c hcl hc1]; exact s.w
 have hvc:∀b,isB v' b->b≠c:=fun b hb' e=>by have:=hb b hb'; omega
 have hac:JU v'=some [v']:=by
  obtain⟨vs,_,⟨_,k,rfl⟩|⟨b,rfl,_⟩⟩:=hs<;>rfl
 refine⟨v',h',ha,by rw[KU hac AST hw (row:=wRow n dd f v1 v2) rfl (by simp [wRow])]; rfl,⟨D8 hw,hs.keep (jM _) fun b hb'=>?_,s.s2.keep (jM _) fun b hb'=>?_,fun b h1 h2=>?_⟩,⟨by simpa using hl,fun b hbl hne h1 h2=>?_,fun b hb'=>.inr (by rw[hb b hb']; exact jM _),fun b hb'=>.inl hb'⟩⟩
 .rw[zK,if_neg (fun e=>hvc b hb' e.symm)]
 .obtain⟨_,hx⟩:=s.s2.b hb'
  rw[zK,if_neg (fun e=>hc2 (by rw[e]; exact hb')),hk b (CJ hx) (fun e=>s.ap b e hb')]
 .obtain⟨_,hx⟩:=s.s2.b h2
  have:=hb b h1; have:=CJ hx; omega
 .rw[zK,if_neg (fun e=>hne e.symm),hk b hbl h1]
theorem St.app4 {h:Hp}{c m1 m2 n dd:Nat}{f:Int}{v1 v2:AV}(s:St h c m1 m2 n dd f v1 v2)(x:ByteArray)(hm:m2<=8388608) :
  ∃ v' h',H7 Tryz.prog true h 179 179 v2 (.sl .full 1 [[.str x]])=some (v',h')∧FW Tryz.prog h' 179 (.ptr c 0 4) v'=some (h'.set c (.live 5 [wRow n dd f v1 v'])) ∧
    St (h'.set c (.live 5 [wRow n dd f v1 v'])) c m1 (m2+1) n dd f v1 v'∧Ch c v1 v2 h v1 v' (h'.set c (.live 5 [wRow n dd f v1 v'])):=by
 obtain⟨v',h',ha,hs,hb,hl,hk⟩:=AVX x s.s2 hm;have hc1:¬isB v1 c:=fun e=>s.s1.ne s.w e rfl
 have hc2:¬isB v2 c:=fun e=>s.s2.ne s.w e rfl
 have hcl:=CJ s.w;have hw:h'[c]?=some (.live 5 [wRow n dd f v1 v2]):=by rw[hk c hcl hc2]; exact s.w
 have hvc:∀b,isB v' b->b≠c:=fun b hb' e=>by have:=hb b hb'; omega
 have hac:JU v'=some [v']:=by
  obtain⟨vs,_,⟨_,k,rfl⟩|⟨b,rfl,_⟩⟩:=hs<;>rfl
 refine⟨v',h',ha,by rw[KU hac AST hw (row:=wRow n dd f v1 v2) rfl (by simp [wRow])]; rfl,⟨D8 hw,s.s1.keep (jM _) fun b hb'=>?_,hs.keep (jM _) fun b hb'=>?_,fun b h1 h2=>?_⟩,⟨by simpa using hl,fun b hbl hne h1 h2=>?_,fun b hb'=>.inl hb',fun b hb'=>.inr (by rw[hb b hb']; exact jM _)⟩⟩
 .obtain⟨_,hx⟩:=s.s1.b hb'
  rw[zK,if_neg (fun e=>hc1 (by rw[e]; exact hb')),hk b (CJ hx) (fun e=>s.ap b hb' e)]
 .rw[zK,if_neg (fun e=>hvc b hb' e.symm)]
 .obtain⟨_,hx⟩:=s.s1.b h1
  have:=hb b h2; have:=CJ hx; omega
 .rw[zK,if_neg (fun e=>hne e.symm),hk b hbl h2]
def XJ (z:Int)(xs:List Ex):Int:=xs.foldl (fun z e=>if z=0 then KT e else z) z
theorem AKW (z:Int)(xs ys:List Ex):XJ z (xs++ys)=XJ (XJ z xs) ys:=List.foldl_append
theorem St.weak {h:Hp}{c m1 m2 m1' m2' n dd:Nat}{f:Int}{v1 v2:AV}(s:St h c m1 m2 n dd f v1 v2)(h1:m1<=m1')(h2:m2<=m2'):St h c m1' m2' n dd f v1 v2 :=
 ⟨s.w,s.s1.keep h1 fun _ _=>rfl,s.s2.keep h2 fun _ _=>rfl,s.ap⟩
def Md (e:Ex)(c d:Nat)(v1 v2:AV)(h:Hp)(m1 m2 n dd:Nat)(f:Int)(F:Nat->AV)(H:Hp):Prop :=
 F 0=.ptr c 0 0∧F 2=.int .i64 (d:Nat)∧F 4=.ptr h.length 0 0∧∃u1 u2,St H c m1 m2 n dd f u1 u2∧Ch c v1 v2 (h++[.live 4 [FH e]]) u1 u2 H
theorem AJ3 (xs:List Ex):(J9 xs).length<=wts xs:=by
 induction xs with
 | nil=>simp [J9,wts]
 | cons x xs ih=>have:=AHM x; simp only[J9,wts,qB]; omega
theorem AI3:∀(xs:List Ex) (j:Nat) (hj:j<xs.length),wts (xs.take j)+wt xs[j]<=wts xs
 | x::xs,0,_=>by simp [wts]
 | x::xs,j+1,h=>by
   have:=AI3 xs j (by simpa using h);simp only[List.take_succ_cons,wts,List.getElem_cons_succ]; omega
theorem ZO:∀(xs:List Ex) (j:Nat),deps (xs.take j)<=wts xs
 | [],j=>by simp [deps,wts]
 | x::xs,0=>by simp [deps]
 | x::xs,j+1=>by
   have h1:=ZO xs j;have h2:=AU4 x;simp only[List.take_succ_cons,deps,wts]; omega
theorem AWU (G:Nat->AV)(c:Nat)(e:Ex):wt e<=1048576->∀(h:Hp) (d n dd:Nat) (f:Int) (v1 v2:AV),d+wt e<=8388608->n+wt e<=8388608->dd<=16777216->St h c n n n dd f v1 v2 ->
  ACalls (En G) 193 [.ptr c 0 0,.agg (FH e),.int .i64 (d:Nat)] h fun _ h'=>∃u1 u2,St h' c (n+(pre e).length) (n+(pre e).length) (n+(pre e).length) (max dd (d+deps e.args)) (XJ f (pre e)) u1 u2∧Ch c v1 v2 h u1 u2 h':=by
 induction e using Ex.induct with|h e ih=>?_
 intro hw h d n dd f v1 v2 hd hn hdd s;have hal:e.args.length<=wts e.args:=WQ e.args;have hwe:=OI e;have hcl:=CJ s.w
 have hbox:∀(u1 u2:AV) (H:Hp),Ch c v1 v2 (h++[.live 4 [FH e]]) u1 u2 H->H[h.length]?=some (.live 4 [FH e]):=by
  intro u1 u2 H hC;rw[hC.get h.length (by simp) (by omega) (fun hb=>?_) (fun hb=>?_)]
  .exact CY _ _
  .obtain⟨_,hx⟩:=s.s1.b hb
   have:=CJ hx; omega
  .obtain⟨_,hx⟩:=s.s2.b hb
   have:=CJ hx; omega
 have lb0:∀H:Hp,H[h.length]?=some (.live 4 [FH e])->EH Tryz.prog H 3 (.ptr h.length 0 0)=some (.int .i64 e.op):=fun H hH=>by rw[DW ag3 hH (row:=FH e) rfl,KN]
 have lb2:∀H:Hp,H[h.length]?=some (.live 4 [FH e])->EH Tryz.prog H 9 (.ptr h.length 0 2)=some (.str e.name):=fun H hH=>by rw[DW ag9 hH (row:=FH e) rfl,QN]
 have lb3:∀H:Hp,H[h.length]?=some (.live 4 [FH e])->EH Tryz.prog H 51 (.ptr h.length 0 3)=some (.sl e.m 4 (e.args.map FH)):=fun H hH=>by rw[DW ALO hH (row:=FH e) rfl,ABS]
 refine LV (H:=hint [56,85] []) (enM G) Tryz.func193 rfl (by kernel_rfl) (by kernel_rfl) (jH (by kernel_rfl)) ?_;show awp _ _ _ _ _ (EN _ [] _);have s0:=s.app [.live 4 [FH e]];have c0:=Ch.app c v1 v2 h [.live 4 [FH e]];simp -implicitDefEqProofs only[C9,jR,jJ,jO,jQ,BC,BA,A8,AY,BB,AL,BD,AX,AC,EM,AA,AZ,AU,BH,BG,FU,BQ,D5,BR,BJ,BZ,AB,CX,CZ,BF,BN,↓reduceIte,jA,jL,jG,jB,jC,enP,APL,AIA,DZ,jP,H8,JE,bxE,s0.l0,wrap_succ (show n<9223372036854775807 by omega),s0.t0];have s1:=s0.set (n+1) dd f;have c1:=Ch.set c v1 v2 (h++[.live 4 [FH e]]) (.live 5 [wRow (n+1) dd f v1 v2]);clear s0
 generalize (h++[ABlk.live 4 [FH e]]).set c (.live 5 [wRow (n+1) dd f v1 v2])=H1 at s1 c1|-
 simp -implicitDefEqProofs only[C9,jR,jJ,jO,jQ,BI,A8,AY,BB,AL,BD,AX,AC,AA,AZ,BR,AB,FV,↓reduceIte,jA,jB,jC,enP,DZ,s1.l1];refine WH (Md e c d v1 v2 h n n (n+1) (max dd d) f) (fun _ _=>False) (fun hb=>?_) (fun hb=>?_) ?_ (fun _ _ hh=>hh.elim)
 .simp -implicitDefEqProofs only[C9,jR,jJ,jO,jQ,BA,VD,AY,BB,AL,BD,AX,AC,EM,AA,AZ,BG,D5,BJ,AB,CX,BF,BN,↓reduceIte,jA,jG,jB,jC,enP,AIA,DZ,jP,H8,JE,s1.t1]
  refine⟨rfl,rfl,rfl,v1,v2,?_,c1.trans (Ch.set c _ _ _ _)⟩;have:max dd d=d:=by simp at hb; omega
  rw[this];exact s1.set (n+1) d f
 .simp -implicitDefEqProofs only[BO,VD]
  refine⟨rfl,rfl,rfl,v1,v2,?_,c1⟩;have:max dd d=dd:=by simp at hb; omega
  rw[this];exact s1
 clear s1 c1;rintro F H ⟨f0,f2,f4,u1,u2,s,hC⟩;simp -implicitDefEqProofs only[C9,jR,jJ,jO,jQ,BC,BA,BI,A8,AY,BB,AL,BD,AX,AC,AA,AZ,AU,BH,BG,BQ,BR,BJ,AB,EC,↓reduceIte,jG,jB,jC,enP,ZJ,DZ,H8,JE,f0,s.l2];refine WH (Md e c d v1 v2 h n n (n+1) (max dd d) (XJ f [e])) (fun _ _=>False) (fun hb=>?_) (fun hb=>?_) ?_ (fun _ _ hh=>hh.elim)
 .simp -implicitDefEqProofs only[C9,jR,jJ,jO,jQ,BA,AY,AL,BD,AX,AC,AA,AZ,BX,BG,BQ,CB,BU,AB,jD,jE,jF,↓reduceIte,jA,jB,jC,enP,DZ,f0,f2,f4,NK (hbox _ _ _ hC)]
  refine(AP3 G e _ (by omega)).use ?_;simp -implicitDefEqProofs only[C9,jR,jJ,jO,jQ,VD,AY,BB,AL,BD,AX,AC,EM,AA,AZ,D5,BJ,AB,CX,↓reduceIte,jA,jG,jB,jC,enP,ZJ,DZ,jP,H8,JE,s.t2,f0,f2,f4];refine⟨f0,f2,f4,u1,u2,?_,hC.trans (Ch.set c _ _ _ _)⟩
  have:XJ f [e]=KT e:=by
   have:f=0:=by simpa using hb
   subst this; rfl
  rw[this];exact s.set _ _ _
 .simp -implicitDefEqProofs only[BO,VD]
  refine⟨f0,f2,f4,u1,u2,?_,hC⟩
  have:XJ f [e]=f:=by
   have:f≠0:=by simpa using hb
   show(if f=0 then KT e else f)=f;rw[if_neg this]
  rw[this]; exact s
 clear f0 f2 f4 s hC;rintro F H ⟨f0,f2,f4,u1,u2,s,hC⟩;simp -implicitDefEqProofs only[BC,A8];refine EZ (by kernel_rfl) ?_;have hB:=hbox _ _ _ hC;refine AWD (fun F H=>(∃b,F 47=.bool b)∧Md e c d v1 v2 h n n (n+1) (max dd d) (XJ f [e]) F H) ?_ ?_
 .cases b2:(e.op==2)
  .simp -implicitDefEqProofs only[FZ,C9,jR,jJ,jO,jQ,ED,DN,E8,EF,FN,GI,AB4,FO,I5,FB,IY,D9,CO,AA,EX,AZ,AU,BH,BM,CQ,DX,BQ,BR,BJ,AB,EC,↓reduceIte,jA,jK,jL,jB,enP,IW,f0,f2,f4,lb0 _ hB,b2]
   exact⟨⟨_,rfl⟩,f0,f2,f4,u1,u2,s,hC⟩
  .obtain⟨r,hr⟩:=AUB G e.name s.s1 (by omega)
   simp -implicitDefEqProofs only[FZ,C9,jR,jJ,jO,jQ,ED,DN,EF,FN,GI,VI,FO,FB,IY,AC2,D9,GH,F8,CO,AA,AZ,AU,BX,BH,BQ,BR,IE,BJ,AB,EC,jD,jE,jF,↓reduceIte,jA,jK,jL,jG,jB,enP,IW,MI,APK,H8,PG,JE,f0,f2,f4,lb0 _ hB,lb2 _ hB,b2,s.l3];refine⟨_,hr,?_⟩;simp -implicitDefEqProofs only[FZ,C9,jR,jJ,jO,jQ,ED,DN,E8,EF,I5,AA,AZ,AU,BM,CQ,DY,AB,FK,↓reduceIte,jA,jK,jB,f0,f2,f4];exact⟨⟨_,rfl⟩,f0,f2,f4,u1,u2,s,hC⟩
 clear f0 f2 f4 s hC hB;rintro F H ⟨⟨b,f47⟩,f0,f2,f4,u1,u2,s,hC⟩;have hB:=hbox _ _ _ hC;simp -implicitDefEqProofs only[BI,A8,AZ,f47];refine WH (Md e c d v1 v2 h (n+1) n (n+1) (max dd d) (XJ f [e])) (fun _ _=>False) (fun hb=>?_) (fun hb=>?_) ?_ (fun _ _ hh=>hh.elim)
 .obtain⟨v',H',ha,ht,s',hC'⟩:=s.app3 e.name (by omega)
  refine EZ (by kernel_rfl) ?_;simp -implicitDefEqProofs only[FZ,EY,FT,C9,jR,jJ,jO,jQ,ED,DN,JJ,E8,EF,FO,JV,FB,JH,D9,IC,VD,AA,AZ,EP,BQ,D5,BJ,GR,BZ,AB,CX,↓reduceIte,jA,jK,jG,jB,enP,MI,APK,jP,H8,PG,JE,f0,f2,f4,lb2 _ hB,s.l3,AVL,ha,ht];exact⟨f0,f2,f4,_,_,s',hC.trans hC'⟩
 .simp -implicitDefEqProofs only[BO,VD]
  exact⟨f0,f2,f4,_,_,s.weak (by omega) (by omega),hC⟩
 clear f0 f2 f4 s hC hB;rintro F H ⟨f0,f2,f4,u1,u2,s,hC⟩;have hB:=hbox _ _ _ hC;simp -implicitDefEqProofs only[BC,A8];refine EZ (by kernel_rfl) ?_;refine AWD (fun F H=>(∃b,F 76=.bool b)∧Md e c d v1 v2 h (n+1) n (n+1) (max dd d) (XJ f [e]) F H) ?_ ?_
 .obtain⟨r,hr⟩:=AUB G e.name s.s2 (by omega)
  cases b2:(e.op==3)
  .cases b3:(e.op==24)
   .simp -implicitDefEqProofs only[FZ,C9,jR,jJ,jO,jQ,ED,DN,E8,EF,FN,GI,UO,AB4,FO,I5,FB,IY,D9,CO,AA,EX,AZ,AU,BH,BM,CQ,DX,BQ,BR,BJ,AB,EC,↓reduceIte,jA,jK,jL,jB,enP,IW,f0,f2,f4,lb0 _ hB,b2,b3]
    exact⟨⟨_,rfl⟩,f0,f2,f4,u1,u2,s,hC⟩
   .simp -implicitDefEqProofs only[FZ,C9,jR,jJ,jO,jQ,ED,DN,EF,FN,GI,VI,UO,FO,I5,FB,IY,AC2,D9,GH,F8,CO,AA,AZ,AU,BX,BH,BM,CQ,DX,BQ,BR,IE,BJ,AB,EC,jD,jE,jF,↓reduceIte,jA,jK,jL,jG,jB,enP,IW,MI,AH9,H8,PG,JE,f0,f2,f4,lb0 _ hB,lb2 _ hB,b2,b3,s.l4]
    refine⟨_,hr,?_⟩;simp -implicitDefEqProofs only[FZ,C9,jR,jJ,jO,jQ,ED,DN,E8,EF,I5,AA,AZ,AU,BM,CQ,DY,AB,FK,↓reduceIte,jA,jK,jB,f0,f2,f4];exact⟨⟨_,rfl⟩,f0,f2,f4,u1,u2,s,hC⟩
  .simp -implicitDefEqProofs only[FZ,C9,jR,jJ,jO,jQ,ED,DN,EF,FN,GI,VI,Z4,FO,I5,FB,IY,AC2,D9,GH,F8,CO,AA,EX,AZ,AU,BX,BH,BM,CQ,DY,BQ,BR,IE,BJ,AB,EC,jD,jE,jF,↓reduceIte,jA,jK,jL,jG,jB,enP,IW,MI,AH9,H8,PG,JE,f0,f2,f4,lb0 _ hB,lb2 _ hB,b2,s.l4]
   refine⟨_,hr,?_⟩;simp -implicitDefEqProofs only[FZ,C9,jR,jJ,jO,jQ,ED,DN,E8,EF,I5,AA,AZ,AU,BM,CQ,DY,AB,FK,↓reduceIte,jA,jK,jB,f0,f2,f4];exact⟨⟨_,rfl⟩,f0,f2,f4,u1,u2,s,hC⟩
 clear f0 f2 f4 s hC hB f47;rintro F H ⟨⟨b,f76⟩,f0,f2,f4,u1,u2,s,hC⟩;have hB:=hbox _ _ _ hC;simp -implicitDefEqProofs only[BI,A8,AZ,f76];refine WH (Md e c d v1 v2 h (n+1) (n+1) (n+1) (max dd d) (XJ f [e])) (fun _ _=>False) (fun hb=>?_) (fun hb=>?_) ?_ (fun _ _ hh=>hh.elim)
 .obtain⟨v',H',ha,ht,s',hC'⟩:=s.app4 e.name (by omega)
  refine EZ (by kernel_rfl) ?_;simp -implicitDefEqProofs only[FZ,EY,FT,C9,jR,jJ,jO,jQ,Bool.or_true,ED,DN,JJ,E8,EF,FO,JV,FB,JH,D9,IC,VD,AA,AZ,EP,BQ,D5,BJ,GR,BZ,AB,CX,↓reduceIte,jA,jK,jG,jB,enP,MI,AH9,jP,H8,PG,JE,f0,f2,f4,lb2 _ hB,s.l4,AVL,ha,ht];exact⟨f0,f2,f4,_,_,s',hC.trans hC'⟩
 .simp -implicitDefEqProofs only[BO,VD]
  exact⟨f0,f2,f4,_,_,s.weak (by omega) (by omega),hC⟩
 clear f0 f2 f4 s hC hB f76;rintro F H ⟨f0,f2,f4,u1,u2,s,hC⟩;simp -implicitDefEqProofs only[C9,jR,jJ,jO,jQ,BC,BP,BA,A8,AY,BB,AL,BD,AX,AC,AU,BH,A7,jB,jC,DZ];refine DK (fun k F H=>∃j,k+j=e.args.length∧F 6=.int .i64 (j:Nat)∧Md e c d v1 v2 h (n+1+(J9 (e.args.take j)).length) (n+1+(J9 (e.args.take j)).length) (n+1+(J9 (e.args.take j)).length) (max dd (d+deps (e.args.take j))) (XJ (XJ f [e]) (J9 (e.args.take j))) F H) e.args.length ⟨0,by simp,rfl,f0,f2,f4,u1,u2,s,hC⟩ ?_;clear f0 f2 f4 s hC;rintro k F H ⟨j,hj,f6,f0,f2,f4,u1,u2,s,hC⟩;have hB:=hbox _ _ _ hC;simp -implicitDefEqProofs only[C9,jR,jJ,jO,jQ,BC,BA,BI,A8,AY,BB,AL,BD,AX,AC,AA,AZ,BG,BQ,BR,BJ,D7,AB,DC,↓reduceIte,jA,jG,jB,jC,enP,AKG,TT,DZ,f6,f4,lb3 _ hB,jI];refine CU (fun hlt=>?_) (fun hlt=>?_)
 .have hj':j<e.args.length:=by simpa using hlt
  have hmem:e.args[j]∈e.args:=jS hj';have hwa:=UW hmem
  have hpl:(J9 (e.args.take j)).length+(pre e.args[j]).length<=wts e.args:=by
   have h1:=AJ3 e.args
   have h2:J9 e.args=J9 (e.args.take j)++(pre e.args[j]++J9 (e.args.drop (j+1))):=by
    rw[<-zA,<-OL _ _ hj',<-P8,List.take_append_drop]
   rw[h2] at h1; simp at h1; omega
  have hsp:(J9 (e.args.take j)).length+wt e.args[j]<=wts e.args:=by
   have h1:=AJ3 (e.args.take j);have h2:=AI3 e.args j hj';omega
  have hdt:deps (e.args.take j)<=wts e.args:=ZO e.args j;simp -implicitDefEqProofs only[C9,jR,jJ,jO,jQ,BC,BP,BA,BO,A8,AY,AL,BD,AX,AC,AA,AZ,AU,BX,BH,BG,BQ,BR,BJ,CE,CB,BU,AB,CZ,jD,jE,jF,↓reduceIte,jA,jG,jB,jC,enP,AQ1,TT,DZ,f0,f2,f4,f6,lb3 _ hB,DU hj',FM AIV ADB KL hj',wrap_succ (show d<9223372036854775807 by omega)];refine(ih e.args[j] hmem (by omega) H (d+1) _ _ _ u1 u2 (by omega) (by omega) (by omega) s).mono ?_;rintro v H' ⟨w1,w2,s',hC'⟩;simp -implicitDefEqProofs only[C9,jR,jJ,jO,jQ,BA,A8,EJ,EQ,AY,BB,AL,BD,AX,AC,AA,AZ,AU,BH,BG,A7,BR,AB,CZ,↓reduceIte,jA,jB,jC,enP,DZ,f6,wrap_succ (show j<9223372036854775807 by omega)];refine⟨k-1,by omega,j+1,by omega,rfl,f0,f2,f4,w1,w2,?_,hC.trans hC'⟩;rw[OL _ _ hj',AGP _ _ hj',AKW,qB]
  have e1:max (max dd (d+deps (e.args.take j))) (d+1+deps e.args[j].args)=max dd (d+max (deps (e.args.take j)) (dep e.args[j])):=by
   rw[AIL]; omega
  rw[e1,Nat.add_assoc (n+1)] at s';exact s'
 .have hj':¬j<e.args.length:=by simpa using hlt
  rw[jX (by omega)] at s;simp -implicitDefEqProofs only[DJ,EI,EW,ET,AIH,↓reduceIte];refine⟨u1,u2,?_,c0.trans hC⟩;have e1:n+1+(J9 e.args).length=n+(pre e).length:=by rw[pre_eq]; simp; omega
  have e2:XJ (XJ f [e]) (J9 e.args)=XJ f (pre e):=by rw[pre_eq,<-AKW]; rfl
  rw[e1,e2] at s;exact s
theorem A3Y:LQ Tryz.prog 181 []=some (.agg [.int .i64 0,.int .i64 0,.int .i64 0,.sl .nil 0 [],.sl .nil 0 []]):=by kernel_rfl
theorem A3I (h:Hp):PW h (.agg [.int .i64 0,.int .i64 0,.int .i64 0,.sl .nil 0 [],.sl .nil 0 []])=some (.ptr h.length 0 0,h++[.live 5 [wRow 0 0 0 (.sl .nil 0 []) (.sl .nil 0 [])]]):=ZR rfl
theorem ATF (G:Nat->AV)(e:Ex)(hw:wt e<=1048576)(h:Hp) :
  ACalls (En G) 149 [.agg (FH e)] h fun v h'=>∃c m u1 u2,v=.ptr c 0 0∧St h' c m m (pre e).length (dep e) (errs (pre e)) u1 u2∧∃x,h'=h++x:=by
 refine acN Tryz.func149 rfl ?_;show awp _ _ _ _ _ (EN _ [.tmp 2] _);simp -implicitDefEqProofs only[EY,BC,BA,A8,AY,BB,AO,AQ,AL,BD,AX,AC,AA,AZ,AU,BX,BH,AYZ,BG,A7,FU,G9,BQ,CB,BU,BZ,AB,BF,jD,jE,jF,↓reduceIte,jA,jB,jC,enP,bxE,A3Y,A3I,NK (CV (CY h _))];have nb:∀b,¬isB (.sl .nil 0 []) b:=fun b hb=>hb
 refine(AWU G _ e hw _ 1 0 0 0 (.sl .nil 0 []) (.sl .nil 0 []) (by omega) (by omega) (by omega) ⟨CY _ _,⟨[],by simp,.inl ⟨rfl,_,rfl⟩⟩,⟨[],by simp,.inl ⟨rfl,_,rfl⟩⟩,fun b hb=>(nb b hb).elim⟩).mono ?_;rintro v h' ⟨u1,u2,s,hC⟩;simp -implicitDefEqProofs only[BC,BA,BK,A8,CG,AY,BB,AO,AQ,AL,BD,AX,AC,AA,AZ,BG,A7,↓reduceIte,jA,jB,jC];have e1:0+(pre e).length=(pre e).length:=jG _;have e2:max 0 (1+deps e.args)=dep e:=by rw[AIL]; omega
 rw[e1,e2] at s;refine⟨_,_,u1,u2,rfl,s,?_⟩;have hC2:=((Ch.app (h++[ABlk.live 4 [FH e]]).length (.sl .nil 0 []) (.sl .nil 0 []) h [.live 4 [FH e]]).trans (Ch.app _ _ _ _ [.live 5 [wRow 0 0 0 (.sl .nil 0 []) (.sl .nil 0 [])]])).trans hC;refine Chg.above (c:=(h++[ABlk.live 4 [FH e]]).length) ⟨hC2.len,fun b hb hne=>hC2.get b hb hne (nb b) (nb b)⟩ (by simp)
theorem ABQ (G:Nat->AV)(e:Ex)(h:Hp)(hw:wt e<=1048576):PCall (En G) 161 [.agg (FH e)] h (.int .i64 (exE e)):=by
 refine ACalls.pure0 rfl ?_;refine acN Tryz.func161 rfl ?_;show awp _ _ _ _ _ (EN _ [.tmp 2] _);simp -implicitDefEqProofs only[BC,BA,A8,AY,BB,AO,AQ,AL,BD,AX,AC,AA,AZ,AU,BX,BH,A7,FU,BQ,CB,BU,BZ,AB,BF,jD,jE,jF,↓reduceIte,jA,jB,jC,enP,bxE,ldE];refine(ATF G e hw _).mono ?_;rintro v h' ⟨c,m,u1,u2,rfl,s,x,rfl⟩;simp -implicitDefEqProofs only[BC,BA,A8,AY,BB,BL,BV,CO,AO,AQ,AL,BD,AX,AC,AA,AZ,AU,BH,BG,A7,BQ,BR,BJ,AB,EC,↓reduceIte,jG,jB,jC,enP,ZJ,H8,JE,s.l2];rcases he:(errs (pre e)==0) with _|_
 .simp -implicitDefEqProofs only[BC,BA,BO,BK,BI,A8,CG,DT,AY,BB,BL,BV,CO,IX,SI,AO,AQ,AL,BD,AX,AC,AA,EX,AZ,AU,BM,BG,A7,CQ,DX,BQ,BJ,AB,↓reduceIte,jA,jG,jB,jC,enP,ZJ,H8,JE,s.l2]
  have:errs (pre e)≠0:=by simpa using he
  exact⟨by unfold exE; rw[if_neg (fun hh=>this hh.1)],_,by rw[zA]⟩
 have he0:errs (pre e)=0:=by simpa using he
 simp -implicitDefEqProofs only[BL,BV,CO,F9,AO,AQ,AL,BD,AX,AC,AA,AZ,AU,BH,BG,BQ,BR,BJ,AB,FV,↓reduceIte,jA,jG,jB,jC,enP,AIA,H8,JE,s.l1];refine IL (fun hd=>?_) (fun hd=>?_)
 .simp -implicitDefEqProofs only[BC,BA,BK,BI,A8,CP,CG,DI,AY,BB,BL,BV,CO,F9,F7,AO,AQ,AL,BD,AX,AC,AA,EX,AZ,AU,BH,BM,A7,CQ,DY,↓reduceIte,jA,jB,jC,hd]
  exact⟨by unfold exE; rw[if_pos ⟨he0,.inl (by simp at hd; omega)⟩],_,by rw[zA]⟩
 simp -implicitDefEqProofs only[BI,A8,AY,BB,BL,BV,CO,F9,ES,AO,AQ,AL,BD,AX,AC,AA,AZ,AU,BH,BM,BG,CQ,DY,DX,BQ,BR,BJ,AB,FV,↓reduceIte,jA,jL,jB,jC,enP,APL,H8,JE,hd,s.l0];refine CU (fun hn=>?_) (fun hn=>?_)
 .simp -implicitDefEqProofs only[BC,BA,BK,A8,CP,CG,AY,BB,AO,AQ,AL,BD,AX,AC,AA,AU,BH,A7,↓reduceIte,jB,jC]
  exact⟨by unfold exE; rw[if_pos ⟨he0,.inr (by simp at hn; omega)⟩],_,by rw[zA]⟩
 .simp -implicitDefEqProofs only[BC,BA,BO,BK,A8,CG,AY,BB,AO,AQ,AL,BD,AX,AC,AA,AZ,BG,A7,BQ,BJ,AB,↓reduceIte,jA,jG,jB,jC,enP,ZJ,H8,JE,s.l2]
  exact⟨by unfold exE; rw[if_neg (fun hh=>by simp at hn hd; omega)],_,by rw[zA]⟩
structure Is where
 m:SM
 l:List Int
def encL (x:Is):List AV:=[.sl x.m 1 (x.l.map encI)]
theorem NE (x:Is):(encL x)[0]?=some (.sl x.m 1 (x.l.map encI)):=rfl
theorem AK0 (x:Is):(encL x).length=1:=rfl
structure Pt where
 name:ByteArray
 ex:Ex
 bm:SM
 bins:List Bin
def GM (p:Pt):List AV:=.str p.name::(FH p.ex++[.sl p.bm 4 (p.bins.map GV)])
theorem APS (p:Pt):(GM p)[0]?=some (.str p.name):=rfl
theorem NS (p:Pt):(GM p)[5]?=some (.sl p.bm 4 (p.bins.map GV)):=by unfold GM; rw[O3]; rfl
theorem JR (p:Pt):(GM p).length=6:=by unfold GM; rw[O3]; rfl
theorem AGM (p:Pt):(GM p).all AV.leaf=true:=by unfold GM; rw[O3]; rfl
theorem AYH (p:Pt):((GM p).drop 1).take 4=FH p.ex:=by unfold GM; rw[O3]; rfl
theorem bxP (h:Hp)(p:Pt):PW h (.agg (GM p))=some (.ptr h.length 0 0,h++[.live 6 [GM p]]):=by
 have:=ZR (h:=h) (AGM p);rw[JR] at this; exact this
theorem AHR {h:Hp}{b:Nat}{p:Pt}(hb:h[b]?=some (.live 6 [GM p])):EH Tryz.prog h 53 (.ptr b 0 1)=some (.agg (FH p.ex)):=by
 rw[JY AIV ADB hb rfl (by rw[JR]; omega),AYH]
structure Cr where
 name:ByteArray
 pm:SM
 pts:List Int
 xm:SM
 excl:List Is
def GG (c:Cr):List AV:=[.str c.name,.sl c.pm 1 (c.pts.map encI),.sl c.xm 1 (c.excl.map encL)]
theorem APU (c:Cr):(GG c)[0]?=some (.str c.name):=rfl
theorem ABT (c:Cr):(GG c)[1]?=some (.sl c.pm 1 (c.pts.map encI)):=rfl
theorem APT (c:Cr):(GG c)[2]?=some (.sl c.xm 1 (c.excl.map encL)):=rfl
theorem J7 (c:Cr):(GG c).length=3:=rfl
theorem bxC (h:Hp)(c:Cr):PW h (.agg (GG c))=some (.ptr h.length 0 0,h++[.live 3 [GG c]]):=rfl
structure Mo where
 pm:SM
 pts:List Pt
 cm:SM
 crs:List Cr
def D6 (m:Mo):List AV:=[.sl m.pm 6 (m.pts.map GM),.sl m.cm 3 (m.crs.map GG)]
theorem QA (m:Mo):(D6 m)[0]?=some (.sl m.pm 6 (m.pts.map GM)):=rfl
theorem UI (m:Mo):(D6 m)[1]?=some (.sl m.cm 3 (m.crs.map GG)):=rfl
theorem ZM (m:Mo):(D6 m).length=2:=rfl
theorem bxM (h:Hp)(m:Mo):PW h (.agg (D6 m))=some (.ptr h.length 0 0,h++[.live 2 [D6 m]]):=rfl
def AFL:List ByteArray->List ByteArray->Bool
 | _,[]=>false
 | seen,x::xs=>I4 seen x||AFL (seen++[x]) xs
def O8 (l:List ByteArray):Bool:=AFL [] l
theorem Q4 (N:List ByteArray)(i:Nat)(hi:i<N.length):AFL (N.take i) (N.drop i)=(I4 (N.take i) N[i]||AFL (N.take (i+1)) (N.drop (i+1))):=by
 rw[zJ hi,zL hi]; rfl
theorem IQ {α:Type}{l:List α}{i:Nat}{hi:i<l.length}{x:α}(h:l[i]?=some x):l[i]=x:=by
 rw[jU hi] at h; exact Option.some.inj h
theorem AO7 (G:Nat->AV)(x:Bin)(h:Hp):PCall (En G) 154 [.agg (GV x)] h (.str x.name):=by
 refine ACalls.pure0 rfl ?_;refine acN Tryz.func154 rfl ?_;show awp _ _ _ _ _ (EN _ [.tmp 2] _);simp -implicitDefEqProofs only[BC,BA,BK,A8,CG,AY,BB,AO,AQ,AL,BD,AX,AC,AA,AZ,AU,JM,A7,FU,BQ,BJ,BZ,AB,BF,↓reduceIte,jA,jL,jB,jC,enP,ACV,bxB,DL ag9,APV];exact⟨trivial,_,rfl⟩
theorem AQN (G:Nat->AV)(xs:List Bin)(m:SM)(h:Hp)(hl:xs.length<=1099511627776) :
  PCall (En G) 153 [.sl m 4 (xs.map GV),.fn (.func 154) [] []] h (.bool (O8 (xs.map (·.name)))):=by
 refine acN Tryz.func153 rfl ?_;show awp _ _ _ _ _ (EN _ [.tmp 4] _);simp -implicitDefEqProofs only[BC,BP,BA,A8,AY,BB,AO,AQ,AL,BD,AX,AC,AA,AZ,AU,BH,BM,BG,A7,D7,AB,BF,↓reduceIte,jA,jB,jC,enP,RQ,jI];generalize hN:xs.map (·.name)=N;have hNl:N.length=xs.length:=by rw[<-hN]; simp
 have hNi:∀i (hi:i<xs.length),N[i]?=some xs[i].name:=fun i hi=>by rw[<-hN,zH,jU hi]; rfl
 refine DK (fun n F H=>∃i,n+i=xs.length∧F 0=.sl m 4 (xs.map GV)∧F 1=.fn (.func 154) [] []∧F 8=.int .i64 xs.length∧F 9=.int .i64 (i:Nat)∧H=h∧O8 N=AFL (N.take i) (N.drop i)) xs.length ⟨0,by simp,by simp -implicitDefEqProofs only[AA,BF,↓reduceIte,jA],by simp -implicitDefEqProofs only[AA,BF,BN,↓reduceIte,jA],by simp -implicitDefEqProofs only[AA,↓reduceIte,jA],by simp -implicitDefEqProofs only[AA,↓reduceIte]; rfl,rfl,rfl⟩ ?_;rintro n F H ⟨i,hi,f0,f1,f8,f9,rfl,hd⟩;simp -implicitDefEqProofs only[BC,BA,BI,A8,AY,BB,AO,AQ,AL,BD,AX,AC,AA,AZ,BR,AB,DC,↓reduceIte,jB,jC,enP,f8,f9];refine CU (fun hc=>?_) (fun hc=>?_)
 .have hi':i<xs.length:=by simpa using hc
  have hdrop:=Q4 N i (by omega);rw[IQ (hNi i hi')] at hdrop;simp -implicitDefEqProofs only[BC,BP,BA,BO,A8,AY,BB,AO,AQ,AL,BD,AX,AC,AA,AZ,AU,BH,BG,A7,↓reduceIte,jA,jB,jC,f9];refine GN 2 (fun F' H'=>F' 0=.sl m 4 (xs.map GV)∧F' 1=.fn (.func 154) [] []∧F' 8=.int .i64 xs.length∧F' 9=.int .i64 (i:Nat)∧H'=H∧I4 (N.take i) xs[i].name=false) (fun F' H'=>F' 4=.bool (O8 N)∧H'=H) ?_ ?_ ?_
  .refine DK (fun n F' H'=>∃k,n+k=i∧F' 0=.sl m 4 (xs.map GV)∧F' 1=.fn (.func 154) [] []∧F' 8=.int .i64 xs.length∧F' 9=.int .i64 (i:Nat)∧F' 5=.int .i64 (i:Nat)∧F' 12=.int .i64 (i:Nat)∧F' 13=.int .i64 (k:Nat)∧H'=H∧I4 (N.take i) xs[i].name=I4 ((N.take i).drop k) xs[i].name) i ⟨0,by simp,by simp -implicitDefEqProofs only[AA,↓reduceIte,jA,f0],by simp -implicitDefEqProofs only[AA,↓reduceIte,jA,f1],by simp -implicitDefEqProofs only[AA,↓reduceIte,jA,f8],by simp -implicitDefEqProofs only[AA,↓reduceIte,jA,f9],by simp -implicitDefEqProofs only[AA,↓reduceIte,jA],by simp -implicitDefEqProofs only[AA,↓reduceIte,jA],by simp -implicitDefEqProofs only[AA,↓reduceIte]; rfl,rfl,rfl⟩ ?_
   clear f0 f1 f8 f9;rintro n' F H' ⟨k,hk,f0,f1,f8,f9,f5,f12,f13,rfl,hin⟩;simp -implicitDefEqProofs only[BC,BA,BI,A8,AY,BB,AO,AQ,AL,BD,AX,AC,AA,AZ,BR,AB,DC,↓reduceIte,jB,jC,enP,f12,f13];refine CU (fun hc=>?_) (fun hc=>?_)
   .have hk':k<i:=by simpa using hc
    have hk2:k<xs.length:=by omega
    have hs:=LD (fun u=>xs[i].name.toList==u.toList) (N.take i) k (by rw[zD]; omega)
    have hx:(N.take i)[k]'(by rw[zD]; omega)=xs[k].name:=by
     rw[List.getElem_take]; exact IQ (hNi k hk2)
    rw[hx] at hs;simp -implicitDefEqProofs only[BC,BP,BA,BO,A8,AY,BB,AO,AQ,AL,BD,AX,AC,AA,AZ,BG,A7,↓reduceIte,jA,jB,jC,f13];refine EZ (by kernel_rfl) ?_;simp -implicitDefEqProofs only[FZ,ED,DN,EF,FO,FB,IY,EE,GH,F8,AO,AA,AZ,BQ,BR,CE,AB,jD,jE,jF,↓reduceIte,jA,jK,jB,enP,YD,f0,f1,f5,DU hi',DU hk2,FM VF QK MJ hi',FM VF QK MJ hk2];refine⟨_,AO7 G xs[i] _,?_⟩;refine⟨_,AO7 G xs[k] _,?_⟩
    try simp -implicitDefEqProofs only[DN,E8,BI,A8,AA,AZ,AB,ML,↓reduceIte]
    refine CU (fun hb=>?_) (fun hb=>?_)
    .simp -implicitDefEqProofs only[BC,BA,BK,A8,CP,EG,NG,FQ,AY,BB,AO,AQ,AL,BD,AX,AC,AA,AU,BM,A7,↓reduceIte,jB,jC]
     refine⟨?_,trivial⟩
     have:I4 (N.take i) xs[i].name=true:=by
      rw[hin]; unfold I4; rw[hs,hb]; rfl
     rw[hd,hdrop,this]; rfl
    .simp -implicitDefEqProofs only[BA,BO,A8,EJ,EQ,AY,BB,AO,AQ,AL,BD,AX,AC,AA,AZ,AU,BH,BG,BR,AB,CZ,↓reduceIte,jA,jB,jC,enP,f13,wrap_succ (show k<9223372036854775807 by omega)]
     refine⟨n'-1,by omega,k+1,by omega,f0,f1,f8,f9,f5,f12,rfl,trivial,?_⟩;rw[hin]; unfold I4; rw[hs,hb]; rfl
   .have hk':¬k<i:=by simpa using hc
    simp -implicitDefEqProofs only[DJ,EI,J3,ET,AA,↓reduceIte,jA];refine⟨f0,f1,f8,f9,trivial,?_⟩;rw[hin,jW (by rw[zD]; omega)]; rfl
  .rintro F' H' ⟨g0,g1,g8,g9,rfl,hn⟩
   simp -implicitDefEqProofs only[BA,A8,EJ,EW,EQ,AY,BB,AO,AQ,AL,BD,AX,AC,AA,AZ,AU,BH,BG,BR,AB,CZ,↓reduceIte,jA,jB,jC,enP,g9,wrap_succ (show i<9223372036854775807 by omega)];refine⟨n-1,by omega,i+1,by omega,g0,g1,g8,rfl,trivial,?_⟩;rw[hd,hdrop,hn]; rfl
  .rintro F' H' ⟨g4,rfl⟩
   simp -implicitDefEqProofs only[CP,EG,FQ,CG,g4];exact⟨trivial,trivial⟩
 .have hi':¬i<xs.length:=by simpa using hc
  simp -implicitDefEqProofs only[BC,BA,BK,DJ,A8,EI,EW,ET,CG,AY,BB,AO,AQ,AL,BD,AX,AC,AA,AU,BM,A7,↓reduceIte,jB,jC];exact⟨by rw[hd,jW (by omega)]; rfl,trivial⟩
theorem AO5 (G:Nat->AV)(x:Pt)(h:Hp):PCall (En G) 129 [.agg (GM x)] h (.str x.name):=by
 refine ACalls.pure0 rfl ?_;refine acN Tryz.func129 rfl ?_;show awp _ _ _ _ _ (EN _ [.tmp 2] _);simp -implicitDefEqProofs only[BC,BA,BK,A8,CG,AY,BB,AO,AQ,AL,BD,AX,AC,AA,AZ,AU,JM,A7,FU,BQ,BJ,BZ,AB,BF,↓reduceIte,jA,jL,jB,jC,enP,AH8,bxP,DL ag9,APS];exact⟨trivial,_,rfl⟩
theorem AQL (G:Nat->AV)(xs:List Pt)(m:SM)(h:Hp)(hl:xs.length<=1099511627776) :
  PCall (En G) 128 [.sl m 6 (xs.map GM),.fn (.func 129) [] []] h (.bool (O8 (xs.map (·.name)))):=by
 refine acN Tryz.func128 rfl ?_;show awp _ _ _ _ _ (EN _ [.tmp 4] _);simp -implicitDefEqProofs only[BC,BP,BA,A8,AY,BB,AO,AQ,AL,BD,AX,AC,AA,AZ,AU,BH,BM,BG,A7,D7,AB,BF,↓reduceIte,jA,jB,jC,enP,QS,jI];generalize hN:xs.map (·.name)=N;have hNl:N.length=xs.length:=by rw[<-hN]; simp
 have hNi:∀i (hi:i<xs.length),N[i]?=some xs[i].name:=fun i hi=>by rw[<-hN,zH,jU hi]; rfl
 refine DK (fun n F H=>∃i,n+i=xs.length∧F 0=.sl m 6 (xs.map GM)∧F 1=.fn (.func 129) [] []∧F 8=.int .i64 xs.length∧F 9=.int .i64 (i:Nat)∧H=h∧O8 N=AFL (N.take i) (N.drop i)) xs.length ⟨0,by simp,by simp -implicitDefEqProofs only[AA,BF,↓reduceIte,jA],by simp -implicitDefEqProofs only[AA,BF,BN,↓reduceIte,jA],by simp -implicitDefEqProofs only[AA,↓reduceIte,jA],by simp -implicitDefEqProofs only[AA,↓reduceIte]; rfl,rfl,rfl⟩ ?_;rintro n F H ⟨i,hi,f0,f1,f8,f9,rfl,hd⟩;simp -implicitDefEqProofs only[BC,BA,BI,A8,AY,BB,AO,AQ,AL,BD,AX,AC,AA,AZ,BR,AB,DC,↓reduceIte,jB,jC,enP,f8,f9];refine CU (fun hc=>?_) (fun hc=>?_)
 .have hi':i<xs.length:=by simpa using hc
  have hdrop:=Q4 N i (by omega);rw[IQ (hNi i hi')] at hdrop;simp -implicitDefEqProofs only[BC,BP,BA,BO,A8,AY,BB,AO,AQ,AL,BD,AX,AC,AA,AZ,AU,BH,BG,A7,↓reduceIte,jA,jB,jC,f9];refine GN 2 (fun F' H'=>F' 0=.sl m 6 (xs.map GM)∧F' 1=.fn (.func 129) [] []∧F' 8=.int .i64 xs.length∧F' 9=.int .i64 (i:Nat)∧H'=H∧I4 (N.take i) xs[i].name=false) (fun F' H'=>F' 4=.bool (O8 N)∧H'=H) ?_ ?_ ?_
  .refine DK (fun n F' H'=>∃k,n+k=i∧F' 0=.sl m 6 (xs.map GM)∧F' 1=.fn (.func 129) [] []∧F' 8=.int .i64 xs.length∧F' 9=.int .i64 (i:Nat)∧F' 5=.int .i64 (i:Nat)∧F' 12=.int .i64 (i:Nat)∧F' 13=.int .i64 (k:Nat)∧H'=H∧I4 (N.take i) xs[i].name=I4 ((N.take i).drop k) xs[i].name) i ⟨0,by simp,by simp -implicitDefEqProofs only[AA,↓reduceIte,jA,f0],by simp -implicitDefEqProofs only[AA,↓reduceIte,jA,f1],by simp -implicitDefEqProofs only[AA,↓reduceIte,jA,f8],by simp -implicitDefEqProofs only[AA,↓reduceIte,jA,f9],by simp -implicitDefEqProofs only[AA,↓reduceIte,jA],by simp -implicitDefEqProofs only[AA,↓reduceIte,jA],by simp -implicitDefEqProofs only[AA,↓reduceIte]; rfl,rfl,rfl⟩ ?_
   clear f0 f1 f8 f9;rintro n' F H' ⟨k,hk,f0,f1,f8,f9,f5,f12,f13,rfl,hin⟩;simp -implicitDefEqProofs only[BC,BA,BI,A8,AY,BB,AO,AQ,AL,BD,AX,AC,AA,AZ,BR,AB,DC,↓reduceIte,jB,jC,enP,f12,f13];refine CU (fun hc=>?_) (fun hc=>?_)
   .have hk':k<i:=by simpa using hc
    have hk2:k<xs.length:=by omega
    have hs:=LD (fun u=>xs[i].name.toList==u.toList) (N.take i) k (by rw[zD]; omega)
    have hx:(N.take i)[k]'(by rw[zD]; omega)=xs[k].name:=by
     rw[List.getElem_take]; exact IQ (hNi k hk2)
    rw[hx] at hs;simp -implicitDefEqProofs only[BC,BP,BA,BO,A8,AY,BB,AO,AQ,AL,BD,AX,AC,AA,AZ,BG,A7,↓reduceIte,jA,jB,jC,f13];refine EZ (by kernel_rfl) ?_;simp -implicitDefEqProofs only[FZ,ED,DN,EF,FO,FB,IY,EE,GH,F8,AO,AA,AZ,BQ,BR,CE,AB,jD,jE,jF,↓reduceIte,jA,jK,jB,enP,SS,f0,f1,f5,DU hi',DU hk2,FM ACG YW JR hi',FM ACG YW JR hk2];refine⟨_,AO5 G xs[i] _,?_⟩;refine⟨_,AO5 G xs[k] _,?_⟩
    try simp -implicitDefEqProofs only[DN,E8,BI,A8,AA,AZ,AB,ML,↓reduceIte]
    refine CU (fun hb=>?_) (fun hb=>?_)
    .simp -implicitDefEqProofs only[BC,BA,BK,A8,CP,EG,NG,FQ,AY,BB,AO,AQ,AL,BD,AX,AC,AA,AU,BM,A7,↓reduceIte,jB,jC]
     refine⟨?_,trivial⟩
     have:I4 (N.take i) xs[i].name=true:=by
      rw[hin]; unfold I4; rw[hs,hb]; rfl
     rw[hd,hdrop,this]; rfl
    .simp -implicitDefEqProofs only[BA,BO,A8,EJ,EQ,AY,BB,AO,AQ,AL,BD,AX,AC,AA,AZ,AU,BH,BG,BR,AB,CZ,↓reduceIte,jA,jB,jC,enP,f13,wrap_succ (show k<9223372036854775807 by omega)]
     refine⟨n'-1,by omega,k+1,by omega,f0,f1,f8,f9,f5,f12,rfl,trivial,?_⟩;rw[hin]; unfold I4; rw[hs,hb]; rfl
   .have hk':¬k<i:=by simpa using hc
    simp -implicitDefEqProofs only[DJ,EI,J3,ET,AA,↓reduceIte,jA];refine⟨f0,f1,f8,f9,trivial,?_⟩;rw[hin,jW (by rw[zD]; omega)]; rfl
  .rintro F' H' ⟨g0,g1,g8,g9,rfl,hn⟩
   simp -implicitDefEqProofs only[BA,A8,EJ,EW,EQ,AY,BB,AO,AQ,AL,BD,AX,AC,AA,AZ,AU,BH,BG,BR,AB,CZ,↓reduceIte,jA,jB,jC,enP,g9,wrap_succ (show i<9223372036854775807 by omega)];refine⟨n-1,by omega,i+1,by omega,g0,g1,g8,rfl,trivial,?_⟩;rw[hd,hdrop,hn]; rfl
  .rintro F' H' ⟨g4,rfl⟩
   simp -implicitDefEqProofs only[CP,EG,FQ,CG,g4];exact⟨trivial,trivial⟩
 .have hi':¬i<xs.length:=by simpa using hc
  simp -implicitDefEqProofs only[BC,BA,BK,DJ,A8,EI,EW,ET,CG,AY,BB,AO,AQ,AL,BD,AX,AC,AA,AU,BM,A7,↓reduceIte,jB,jC];exact⟨by rw[hd,jW (by omega)]; rfl,trivial⟩
theorem AO6 (G:Nat->AV)(x:Cr)(h:Hp):PCall (En G) 132 [.agg (GG x)] h (.str x.name):=by
 refine ACalls.pure0 rfl ?_;refine acN Tryz.func132 rfl ?_;show awp _ _ _ _ _ (EN _ [.tmp 2] _);simp -implicitDefEqProofs only[BC,BA,BK,A8,CG,AY,BB,AO,AQ,AL,BD,AX,AC,AA,AZ,AU,JM,A7,FU,BQ,BJ,BZ,AB,BF,↓reduceIte,jA,jL,jB,jC,enP,AH6,bxC,DL ag9,APU];exact⟨trivial,_,rfl⟩
theorem AQM (G:Nat->AV)(xs:List Cr)(m:SM)(h:Hp)(hl:xs.length<=1099511627776) :
  PCall (En G) 131 [.sl m 3 (xs.map GG),.fn (.func 132) [] []] h (.bool (O8 (xs.map (·.name)))):=by
 refine acN Tryz.func131 rfl ?_;show awp _ _ _ _ _ (EN _ [.tmp 4] _);simp -implicitDefEqProofs only[BC,BP,BA,A8,AY,BB,AO,AQ,AL,BD,AX,AC,AA,AZ,AU,BH,BM,BG,A7,D7,AB,BF,↓reduceIte,jA,jB,jC,enP,VL,jI];generalize hN:xs.map (·.name)=N;have hNl:N.length=xs.length:=by rw[<-hN]; simp
 have hNi:∀i (hi:i<xs.length),N[i]?=some xs[i].name:=fun i hi=>by rw[<-hN,zH,jU hi]; rfl
 refine DK (fun n F H=>∃i,n+i=xs.length∧F 0=.sl m 3 (xs.map GG)∧F 1=.fn (.func 132) [] []∧F 8=.int .i64 xs.length∧F 9=.int .i64 (i:Nat)∧H=h∧O8 N=AFL (N.take i) (N.drop i)) xs.length ⟨0,by simp,by simp -implicitDefEqProofs only[AA,BF,↓reduceIte,jA],by simp -implicitDefEqProofs only[AA,BF,BN,↓reduceIte,jA],by simp -implicitDefEqProofs only[AA,↓reduceIte,jA],by simp -implicitDefEqProofs only[AA,↓reduceIte]; rfl,rfl,rfl⟩ ?_;rintro n F H ⟨i,hi,f0,f1,f8,f9,rfl,hd⟩;simp -implicitDefEqProofs only[BC,BA,BI,A8,AY,BB,AO,AQ,AL,BD,AX,AC,AA,AZ,BR,AB,DC,↓reduceIte,jB,jC,enP,f8,f9];refine CU (fun hc=>?_) (fun hc=>?_)
 .have hi':i<xs.length:=by simpa using hc
  have hdrop:=Q4 N i (by omega);rw[IQ (hNi i hi')] at hdrop;simp -implicitDefEqProofs only[BC,BP,BA,BO,A8,AY,BB,AO,AQ,AL,BD,AX,AC,AA,AZ,AU,BH,BG,A7,↓reduceIte,jA,jB,jC,f9];refine GN 2 (fun F' H'=>F' 0=.sl m 3 (xs.map GG)∧F' 1=.fn (.func 132) [] []∧F' 8=.int .i64 xs.length∧F' 9=.int .i64 (i:Nat)∧H'=H∧I4 (N.take i) xs[i].name=false) (fun F' H'=>F' 4=.bool (O8 N)∧H'=H) ?_ ?_ ?_
  .refine DK (fun n F' H'=>∃k,n+k=i∧F' 0=.sl m 3 (xs.map GG)∧F' 1=.fn (.func 132) [] []∧F' 8=.int .i64 xs.length∧F' 9=.int .i64 (i:Nat)∧F' 5=.int .i64 (i:Nat)∧F' 12=.int .i64 (i:Nat)∧F' 13=.int .i64 (k:Nat)∧H'=H∧I4 (N.take i) xs[i].name=I4 ((N.take i).drop k) xs[i].name) i ⟨0,by simp,by simp -implicitDefEqProofs only[AA,↓reduceIte,jA,f0],by simp -implicitDefEqProofs only[AA,↓reduceIte,jA,f1],by simp -implicitDefEqProofs only[AA,↓reduceIte,jA,f8],by simp -implicitDefEqProofs only[AA,↓reduceIte,jA,f9],by simp -implicitDefEqProofs only[AA,↓reduceIte,jA],by simp -implicitDefEqProofs only[AA,↓reduceIte,jA],by simp -implicitDefEqProofs only[AA,↓reduceIte]; rfl,rfl,rfl⟩ ?_
   clear f0 f1 f8 f9;rintro n' F H' ⟨k,hk,f0,f1,f8,f9,f5,f12,f13,rfl,hin⟩;simp -implicitDefEqProofs only[BC,BA,BI,A8,AY,BB,AO,AQ,AL,BD,AX,AC,AA,AZ,BR,AB,DC,↓reduceIte,jB,jC,enP,f12,f13];refine CU (fun hc=>?_) (fun hc=>?_)
   .have hk':k<i:=by simpa using hc
    have hk2:k<xs.length:=by omega
    have hs:=LD (fun u=>xs[i].name.toList==u.toList) (N.take i) k (by rw[zD]; omega)
    have hx:(N.take i)[k]'(by rw[zD]; omega)=xs[k].name:=by
     rw[List.getElem_take]; exact IQ (hNi k hk2)
    rw[hx] at hs;simp -implicitDefEqProofs only[BC,BP,BA,BO,A8,AY,BB,AO,AQ,AL,BD,AX,AC,AA,AZ,BG,A7,↓reduceIte,jA,jB,jC,f13];refine EZ (by kernel_rfl) ?_;simp -implicitDefEqProofs only[FZ,ED,DN,EF,FO,FB,IY,EE,GH,F8,AO,AA,AZ,BQ,BR,CE,AB,jD,jE,jF,↓reduceIte,jA,jK,jB,enP,V7,f0,f1,f5,DU hi',DU hk2,FM ZV XH J7 hi',FM ZV XH J7 hk2];refine⟨_,AO6 G xs[i] _,?_⟩;refine⟨_,AO6 G xs[k] _,?_⟩
    try simp -implicitDefEqProofs only[DN,E8,BI,A8,AA,AZ,AB,ML,↓reduceIte]
    refine CU (fun hb=>?_) (fun hb=>?_)
    .simp -implicitDefEqProofs only[BC,BA,BK,A8,CP,EG,NG,FQ,AY,BB,AO,AQ,AL,BD,AX,AC,AA,AU,BM,A7,↓reduceIte,jB,jC]
     refine⟨?_,trivial⟩
     have:I4 (N.take i) xs[i].name=true:=by
      rw[hin]; unfold I4; rw[hs,hb]; rfl
     rw[hd,hdrop,this]; rfl
    .simp -implicitDefEqProofs only[BA,BO,A8,EJ,EQ,AY,BB,AO,AQ,AL,BD,AX,AC,AA,AZ,AU,BH,BG,BR,AB,CZ,↓reduceIte,jA,jB,jC,enP,f13,wrap_succ (show k<9223372036854775807 by omega)]
     refine⟨n'-1,by omega,k+1,by omega,f0,f1,f8,f9,f5,f12,rfl,trivial,?_⟩;rw[hin]; unfold I4; rw[hs,hb]; rfl
   .have hk':¬k<i:=by simpa using hc
    simp -implicitDefEqProofs only[DJ,EI,J3,ET,AA,↓reduceIte,jA];refine⟨f0,f1,f8,f9,trivial,?_⟩;rw[hin,jW (by rw[zD]; omega)]; rfl
  .rintro F' H' ⟨g0,g1,g8,g9,rfl,hn⟩
   simp -implicitDefEqProofs only[BA,A8,EJ,EW,EQ,AY,BB,AO,AQ,AL,BD,AX,AC,AA,AZ,AU,BH,BG,BR,AB,CZ,↓reduceIte,jA,jB,jC,enP,g9,wrap_succ (show i<9223372036854775807 by omega)];refine⟨n-1,by omega,i+1,by omega,g0,g1,g8,rfl,trivial,?_⟩;rw[hd,hdrop,hn]; rfl
  .rintro F' H' ⟨g4,rfl⟩
   simp -implicitDefEqProofs only[CP,EG,FQ,CG,g4];exact⟨trivial,trivial⟩
 .have hi':¬i<xs.length:=by simpa using hc
  simp -implicitDefEqProofs only[BC,BA,BK,DJ,A8,EI,EW,ET,CG,AY,BB,AO,AQ,AL,BD,AX,AC,AA,AU,BM,A7,↓reduceIte,jB,jC];exact⟨by rw[hd,jW (by omega)]; rfl,trivial⟩
def JX {α:Type}(f:α->Int):List α->Int
 | []=>0
 | x::xs=>if f x=0 then JX f xs else f x
theorem OO {α:Type}(f:α->Int)(xs:List α)(k:Nat)(hk:k<xs.length):JX f (xs.drop k)=if f xs[k]=0 then JX f (xs.drop (k+1)) else f xs[k]:=by
 rw[zJ hk]; rfl
def GZ (p:Pt):Int :=
 if IB p.name=false then 7 else if exE p.ex≠0 then exE p.ex else if p.bins.length=0 then 1 else if 64<p.bins.length then 2 else
  if JX IA p.bins≠0 then JX IA p.bins else if O8 (p.bins.map (·.name)) then 8 else 0
structure PtOk (p:Pt):Prop where
 ex:wt p.ex<=1048576
 name:p.name.size<=1048576
 num:p.bins.length<=1048576
 bins:∀b∈p.bins,BinOk b
theorem AY3 (h:Hp):KJ Tryz.prog h 121=some (.ptr h.length 0 0,h++[.live 4 [[.str ⟨#[]⟩,.int .i64 0,.sl .nil 0 [],.sl .nil 0 []]]]):=J8 (row:=[.str ⟨#[]⟩,.int .i64 0,.sl .nil 0 [],.sl .nil 0 []]) (by kernel_rfl)
theorem A0G (h:Hp)(b:Bin)(row:List AV)(hr:row.length=4):FW Tryz.prog (h++[.live 4 [row]]) 121 (.ptr h.length 0 0) (.agg (GV b))=some (h++[.live 4 [GV b]]):=by
 rw[MV (TW rfl) (by rw[MJ]; exact QK) (by rw[MJ,hr]; exact jM _)];have:splice row 0 (GV b)=GV b:=by unfold splice; simp [MJ,hr]
 rw[this]
theorem ADR (G:Nat->AV)(hG:GOk G)(p:Pt)(hp:PtOk p)(h:Hp):PCall (En G) 97 [.agg (GM p)] h (.int .i64 (GZ p)):=by
 refine ACalls.pure0 rfl ?_;have hp1:=hp.ex;have hp2:=hp.name;have hp3:=hp.num;refine acN Tryz.func97 rfl ?_;show awp _ _ _ _ _ (EN _ [.tmp 2] _);simp -implicitDefEqProofs only[BC,BA,A8,AY,BB,AO,AQ,AL,BD,AX,AC,AA,AZ,AU,BX,BH,A7,FU,BQ,BJ,CB,BU,BZ,AB,BF,jD,jE,jF,↓reduceIte,jA,jL,jB,jC,enP,AH8,bxP,DL ag9,APS];refine(OM G hG.kw p.name _ (by omega)).use ?_;simp -implicitDefEqProofs only[BI,A8,AY,BB,AO,AQ,AL,BD,AX,AC,AA,AZ,IE,AB,FK,↓reduceIte,jB,jC];cases h1:IB p.name
 .simp -implicitDefEqProofs only[BC,BA,BK,A8,CP,CG,DI,AY,BB,AO,AQ,AL,BD,AX,AC,AA,AU,BH,A7,↓reduceIte,jB,jC]
  exact⟨by unfold GZ; rw[if_pos h1],_,rfl⟩
 have h1':¬IB p.name=false:=by rw[h1]; decide
 simp -implicitDefEqProofs only[BC,BA,BO,A8,DT,AY,AO,AQ,AL,BD,AX,AC,AA,AZ,BX,BQ,BJ,CB,BU,AB,jD,jE,jF,↓reduceIte,jA,jG,jB,jT,jC,enP,AH7,AHR (CY h _)];refine(ZK G hG p.ex _ hp1).use ?_;simp -implicitDefEqProofs only[BC,BA,BI,A8,AY,BB,AO,AQ,AL,BD,AX,AC,AA,AZ,AU,BH,BG,A7,BR,AB,EK,↓reduceIte,jB,jC,enP];refine CU (fun h2=>?_) (fun h2=>?_)
 .simp -implicitDefEqProofs only[BC,BA,BK,A8,CP,CG,AY,BB,AO,AQ,AL,BD,AX,AC,AA,AZ,BG,A7,↓reduceIte,jA,jB,jC]
  exact⟨by unfold GZ; rw[if_neg h1',if_pos (by simpa using h2)],_,rfl⟩
 have h2':¬exE p.ex≠0:=by simpa using h2
 simp -implicitDefEqProofs only[BC,BP,BA,BO,BI,A8,AY,BB,AO,AQ,AL,BD,AX,AC,AA,AZ,AU,BH,A7,BQ,BR,BJ,D7,AB,EC,↓reduceIte,jA,jG,jB,jC,enP,RQ,JB,DL SG,NS,jI];refine CU (fun h3=>?_) (fun h3=>?_)
 .simp -implicitDefEqProofs only[BC,BA,BK,A8,CP,EG,CG,AY,BB,AO,AQ,AL,BD,AX,AC,AA,AU,BH,A7,↓reduceIte,jB,jC]
  exact⟨by unfold GZ; rw[if_neg h1',if_neg h2',if_pos (by simp at h3; simpa using h3)],_,rfl⟩
 have h3':¬p.bins.length=0:=by simp at h3; simpa using h3
 simp -implicitDefEqProofs only[BC,BA,BI,A8,AY,BB,AO,AQ,AL,BD,AX,AC,AA,AZ,AU,BH,A7,BQ,BR,BJ,D7,AB,FV,↓reduceIte,jA,jG,jB,jC,enP,RQ,JB,DL SG,NS,jI];refine CU (fun h4=>?_) (fun h4=>?_)
 .simp -implicitDefEqProofs only[BC,BA,BK,A8,CP,EG,CG,AY,BB,AO,AQ,AL,BD,AX,AC,AA,AU,BH,A7,↓reduceIte,jB,jC]
  exact⟨by unfold GZ; rw[if_neg h1',if_neg h2',if_neg h3',if_pos (by simp at h4; omega)],_,rfl⟩
 have h4':¬64<p.bins.length:=by simp at h4; omega
 have hpt:GZ p=if JX IA p.bins≠0 then JX IA p.bins else if O8 (p.bins.map (·.name)) then 8 else 0:=by
  unfold GZ; rw[if_neg h1',if_neg h2',if_neg h3',if_neg h4']
 simp -implicitDefEqProofs only[BC,BP,BA,BO,A8,EJ,AY,BB,AO,AQ,AL,BD,AX,AC,AA,AZ,AU,BH,BG,BQ,BJ,D7,AB,↓reduceIte,jA,jG,jB,jC,enP,RQ,JB,DL SG,NS,jI];refine GN 1 (fun F H=>F 1=.ptr h.length 0 0∧H[h.length]?=some (.live 6 [GM p])∧(∃x,H=h++x)∧JX IA p.bins=0) (fun F H=>F 2=.int .i64 (GZ p)∧∃x,H=h++x) ?_ ?_ ?_
 .refine DK (fun n F H=>∃k,n+k=p.bins.length∧F 1=.ptr h.length 0 0∧F 28=.sl p.bm 4 (p.bins.map GV)∧F 29=.int .i64 p.bins.length∧F 30=.int .i64 (k:Nat)∧H[h.length]?=some (.live 6 [GM p])∧(∃x,H=h++x)∧JX IA p.bins=JX IA (p.bins.drop k)) p.bins.length ⟨0,by simp,by simp -implicitDefEqProofs only[AA,↓reduceIte,jA],by simp -implicitDefEqProofs only[AA,↓reduceIte,jA],by simp -implicitDefEqProofs only[AA,↓reduceIte,jA],by simp -implicitDefEqProofs only[AA,↓reduceIte]; rfl,CY _ _,⟨_,rfl⟩,rfl⟩ ?_
  rintro n F H ⟨k,hk,f1,f28,f29,f30,hb,⟨x,hx⟩,hf⟩;simp -implicitDefEqProofs only[BC,BA,BI,A8,AY,BB,AO,AQ,AL,BD,AX,AC,AA,AZ,BR,AB,DC,↓reduceIte,jB,jC,enP,f29,f30];refine CU (fun hc=>?_) (fun hc=>?_)
  .have hk':k<p.bins.length:=by simpa using hc
   have hs:=OO IA p.bins k hk';simp -implicitDefEqProofs only[BC,BP,BA,BO,A8,AY,BB,AO,AQ,AL,BD,AX,AC,EM,AA,AZ,BX,FD,BQ,D5,CE,CB,BU,BZ,AB,CX,jD,jE,jF,↓reduceIte,jA,jB,jC,enP,YD,jP,f28,f30,DU hk',FM VF QK MJ hk',AY3,A0G _ _ [.str ⟨#[]⟩,.int .i64 0,.sl .nil 0 [],.sl .nil 0 []] rfl,ldB];refine(AC6 G hG.kw p.bins[k] (hp.bins _ (jS hk')) _).use ?_;simp -implicitDefEqProofs only[BC,BA,BI,A8,AY,BB,AO,AQ,AL,BD,AX,AC,AA,AZ,AU,BH,BG,A7,BR,AB,EK,↓reduceIte,jB,jC,enP];refine CU (fun hv=>?_) (fun hv=>?_)
   .simp -implicitDefEqProofs only[BC,BA,BK,A8,CP,EG,NG,FQ,AY,BB,AO,AQ,AL,BD,AX,AC,AA,AZ,BG,A7,↓reduceIte,jA,jB,jC]
    have hv':IA p.bins[k]≠0:=by simpa using hv
    have:JX IA p.bins=IA p.bins[k]:=by rw[hf,hs,if_neg hv']
    exact⟨by rw[hpt,this,if_pos hv'],x++_,by rw[hx,zA]⟩
   .have hv':IA p.bins[k]=0:=by simpa using hv
    simp -implicitDefEqProofs only[BA,BO,A8,EJ,EQ,AY,BB,AO,AQ,AL,BD,AX,AC,AA,AZ,AU,BH,BG,BR,AB,CZ,↓reduceIte,jA,jB,jC,enP,f30,wrap_succ (show k<9223372036854775807 by omega)];exact⟨n-1,by omega,k+1,by omega,f1,f28,f29,rfl,CV hb,⟨x++_,by rw[hx,zA]⟩,by rw[hf,hs,if_pos hv']⟩
  .have hk':¬k<p.bins.length:=by simpa using hc
   simp -implicitDefEqProofs only[DJ,EI,J3,ET,AA,↓reduceIte,jA];exact⟨f1,hb,⟨x,hx⟩,by rw[hf,jW (by omega)]; rfl⟩
 .rintro F H ⟨f1,hb,⟨x,hx⟩,hf⟩
  have l5:EH Tryz.prog H 54 (.ptr h.length 0 5)=some (.sl p.bm 4 (p.bins.map GV)):=by rw[DW SG hb (row:=GM p) rfl,NS]
  simp -implicitDefEqProofs only[BC,BA,A8,EW,AY,AO,AQ,AL,BD,AX,AC,AA,AZ,BX,BQ,BJ,CB,BU,AB,jD,jE,jF,↓reduceIte,jG,jB,jC,enP,JB,f1,l5];refine(AQN G p.bins p.bm H (by omega)).use ?_;simp -implicitDefEqProofs only[BI,A8,BB,AC,AA,AZ,↓reduceIte];cases hd:O8 (p.bins.map (·.name))
  .simp -implicitDefEqProofs only[BC,BA,BO,BK,A8,CG,DT,AY,BB,AO,AQ,AL,BD,AX,AC,AA,AU,BH,A7,↓reduceIte,jB,jC]
   exact⟨by rw[hpt,hf,hd]; rfl,x,hx⟩
  .simp -implicitDefEqProofs only[BC,BA,BK,A8,CP,CG,DI,AY,BB,AO,AQ,AL,BD,AX,AC,AA,AU,BH,A7,↓reduceIte,jB,jC]
   exact⟨by rw[hpt,hf,hd]; rfl,x,hx⟩
 .rintro F H ⟨f2,hx⟩
  simp -implicitDefEqProofs only[CP,EG,CG,f2];exact⟨trivial,hx⟩
theorem AF6 (G:Nat->AV)(p:Pt)(hp:PtOk p)(h:Hp):PCall (En G) 102 [.agg (GM p)] h (.int .i64 (GZ p)):=by
 refine ACalls.pure0 rfl ?_;have hp1:=hp.ex;have hp2:=hp.name;have hp3:=hp.num;refine acN Tryz.func102 rfl ?_;show awp _ _ _ _ _ (EN _ [.tmp 2] _);simp -implicitDefEqProofs only[BC,BA,A8,AY,BB,AO,AQ,AL,BD,AX,AC,AA,AZ,AU,BX,BH,A7,FU,BQ,BJ,CB,BU,BZ,AB,BF,jD,jE,jF,↓reduceIte,jA,jL,jB,jC,enP,AH8,bxP,DL ag9,APS];refine(PN G p.name _).use ?_;simp -implicitDefEqProofs only[BI,A8,AY,BB,AO,AQ,AL,BD,AX,AC,AA,AZ,IE,AB,FK,↓reduceIte,jB,jC];cases h1:IB p.name
 .simp -implicitDefEqProofs only[BC,BA,BK,A8,CP,CG,DI,AY,BB,AO,AQ,AL,BD,AX,AC,AA,AU,BH,A7,↓reduceIte,jB,jC]
  exact⟨by unfold GZ; rw[if_pos h1],_,rfl⟩
 have h1':¬IB p.name=false:=by rw[h1]; decide
 simp -implicitDefEqProofs only[BC,BA,BO,A8,DT,AY,AO,AQ,AL,BD,AX,AC,AA,AZ,BX,BQ,BJ,CB,BU,AB,jD,jE,jF,↓reduceIte,jA,jG,jB,jT,jC,enP,AH7,AHR (CY h _)];refine(ABQ G p.ex _ hp1).use ?_;simp -implicitDefEqProofs only[BC,BA,BI,A8,AY,BB,AO,AQ,AL,BD,AX,AC,AA,AZ,AU,BH,BG,A7,BR,AB,EK,↓reduceIte,jB,jC,enP];refine CU (fun h2=>?_) (fun h2=>?_)
 .simp -implicitDefEqProofs only[BC,BA,BK,A8,CP,CG,AY,BB,AO,AQ,AL,BD,AX,AC,AA,AZ,BG,A7,↓reduceIte,jA,jB,jC]
  exact⟨by unfold GZ; rw[if_neg h1',if_pos (by simpa using h2)],_,rfl⟩
 have h2':¬exE p.ex≠0:=by simpa using h2
 simp -implicitDefEqProofs only[BC,BA,BO,BI,A8,AY,BB,AO,AQ,AL,BD,AX,AC,AA,AZ,AU,BH,BQ,BR,BJ,D7,AB,EC,↓reduceIte,jA,jG,jB,jC,enP,RQ,JB,DL SG,NS,jI];refine CU (fun h3=>?_) (fun h3=>?_)
 .simp -implicitDefEqProofs only[BC,BA,BK,A8,CP,CG,AY,BB,AO,AQ,AL,BD,AX,AC,AA,AU,BH,A7,↓reduceIte,jB,jC]
  exact⟨by unfold GZ; rw[if_neg h1',if_neg h2',if_pos (by simp at h3; simpa using h3)],_,rfl⟩
 have h3':¬p.bins.length=0:=by simp at h3; simpa using h3
 simp -implicitDefEqProofs only[BC,BA,BO,BI,A8,AY,BB,AO,AQ,AL,BD,AX,AC,AA,AZ,AU,BH,BQ,BR,BJ,D7,AB,FV,↓reduceIte,jA,jG,jB,jC,enP,RQ,JB,DL SG,NS,jI];refine CU (fun h4=>?_) (fun h4=>?_)
 .simp -implicitDefEqProofs only[BC,BA,BK,A8,CP,CG,AY,BB,AO,AQ,AL,BD,AX,AC,AA,AU,BH,A7,↓reduceIte,jB,jC]
  exact⟨by unfold GZ; rw[if_neg h1',if_neg h2',if_neg h3',if_pos (by simp at h4; omega)],_,rfl⟩
 have h4':¬64<p.bins.length:=by simp at h4; omega
 have hpt:GZ p=if JX IA p.bins≠0 then JX IA p.bins else if O8 (p.bins.map (·.name)) then 8 else 0:=by
  unfold GZ; rw[if_neg h1',if_neg h2',if_neg h3',if_neg h4']
 simp -implicitDefEqProofs only[BC,BP,BA,BO,A8,AY,BB,AO,AQ,AL,BD,AX,AC,AU,BH,A7,jB,jC];refine GN 0 (fun F H=>F 1=.ptr h.length 0 0∧H=h++[.live 6 [GM p]]∧JX IA p.bins=0) (fun F H=>F 2=.int .i64 (GZ p)∧∃x,H=h++x) ?_ ?_ ?_
 .refine DK (fun n F H=>∃k,n+k=p.bins.length∧F 1=.ptr h.length 0 0∧F 4=.int .i64 (k:Nat)∧H=h++[.live 6 [GM p]]∧JX IA p.bins=JX IA (p.bins.drop k)) p.bins.length ⟨0,by simp,by simp -implicitDefEqProofs only[AA,↓reduceIte,jA],by simp -implicitDefEqProofs only[AA,↓reduceIte]; rfl,rfl,rfl⟩ ?_
  rintro n F H ⟨k,hk,f1,f4,rfl,hf⟩;simp -implicitDefEqProofs only[BC,BA,BI,A8,AY,BB,AO,AQ,AL,BD,AX,AC,AA,AZ,BG,BQ,BR,BJ,D7,AB,DC,↓reduceIte,jA,jG,jB,jC,enP,RQ,JB,f1,f4,DL SG,NS,jI];refine CU (fun hc=>?_) (fun hc=>?_)
  .have hk':k<p.bins.length:=by simpa using hc
   have hs:=OO IA p.bins k hk';simp -implicitDefEqProofs only[BC,BP,BA,BO,A8,AY,AO,AQ,AL,BD,AX,AC,AA,AZ,BX,BG,BQ,BJ,CE,CB,BU,AB,jD,jE,jF,↓reduceIte,jA,jG,jB,jC,enP,YD,JB,f1,f4,DL SG,NS,DU hk',FM VF QK MJ hk'];refine(AFU G p.bins[k] (hp.bins _ (jS hk')) _).use ?_;simp -implicitDefEqProofs only[BC,BA,BI,A8,AY,BB,AO,AQ,AL,BD,AX,AC,AA,AZ,AU,BH,BG,A7,BR,AB,EK,↓reduceIte,jB,jC,enP];refine CU (fun hv=>?_) (fun hv=>?_)
   .simp -implicitDefEqProofs only[BC,BA,BK,A8,CP,EG,NG,FQ,AY,BB,AO,AQ,AL,BD,AX,AC,AA,AZ,BG,A7,↓reduceIte,jA,jB,jC]
    have hv':IA p.bins[k]≠0:=by simpa using hv
    have:JX IA p.bins=IA p.bins[k]:=by rw[hf,hs,if_neg hv']
    exact⟨by rw[hpt,this,if_pos hv'],_,rfl⟩
   .have hv':IA p.bins[k]=0:=by simpa using hv
    simp -implicitDefEqProofs only[BA,BO,A8,EJ,EQ,AY,BB,AO,AQ,AL,BD,AX,AC,AA,AZ,AU,BH,BG,A7,BR,AB,CZ,↓reduceIte,jA,jB,jC,enP,f4,wrap_succ (show k<9223372036854775807 by omega)];exact⟨n-1,by omega,k+1,by omega,f1,rfl,trivial,by rw[hf,hs,if_pos hv']⟩
  .have hk':¬k<p.bins.length:=by simpa using hc
   simp -implicitDefEqProofs only[DJ,EI,J3,ET,AA,↓reduceIte,jA];exact⟨f1,trivial,by rw[hf,jW (by omega)]; rfl⟩
 .rintro F H ⟨f1,rfl,hf⟩
  rw[hf,if_neg (fun hh=>hh rfl)] at hpt;simp -implicitDefEqProofs only[BC,BP,BA,A8,EW,AY,BB,AO,AQ,AL,BD,AX,AC,AU,BH,A7,↓reduceIte,jB,jC,f1];generalize hN:p.bins.map (·.name)=N at hpt;have hNl:N.length=p.bins.length:=by rw[<-hN]; simp
  have hNi:∀i (hi:i<p.bins.length),N[i]?=some p.bins[i].name:=fun i hi=>by rw[<-hN,zH,jU hi]; rfl
  refine DK (fun n F H=>∃i,n+i=p.bins.length∧F 1=.ptr h.length 0 0∧F 5=.int .i64 (i:Nat)∧H=h++[.live 6 [GM p]]∧O8 N=AFL (N.take i) (N.drop i)) p.bins.length ⟨0,by simp,by simp -implicitDefEqProofs only[AA,↓reduceIte,jA,f1],by simp -implicitDefEqProofs only[AA,↓reduceIte]; rfl,rfl,rfl⟩ ?_;clear f1;rintro n F H ⟨i,hi,f1,f5,rfl,hd⟩;simp -implicitDefEqProofs only[BC,BA,BI,A8,AY,BB,AO,AQ,AL,BD,AX,AC,AA,AZ,BG,BQ,BR,BJ,D7,AB,DC,↓reduceIte,jA,jG,jB,jC,enP,RQ,JB,f1,f5,DL SG,NS,jI];refine CU (fun hc=>?_) (fun hc=>?_)
  .have hi':i<p.bins.length:=by simpa using hc
   have hdrop:=Q4 N i (by omega);rw[IQ (hNi i hi')] at hdrop;simp -implicitDefEqProofs only[BC,BP,BA,BO,A8,AY,BB,AO,AQ,AL,BD,AX,AC,AU,BH,A7,jB,jC,f5];refine GN 4 (fun F' H'=>F' 1=.ptr h.length 0 0∧F' 5=.int .i64 (i:Nat)∧H'=h++[.live 6 [GM p]]∧I4 (N.take i) p.bins[i].name=false) (fun F' H'=>F' 2=.int .i64 8∧H'=h++[.live 6 [GM p]]∧O8 N=true) ?_ ?_ ?_
   .refine DK (fun n F' H'=>∃k,n+k=i∧F' 1=.ptr h.length 0 0∧F' 5=.int .i64 (i:Nat)∧F' 6=.int .i64 (k:Nat)∧H'=h++[.live 6 [GM p]]∧I4 (N.take i) p.bins[i].name=I4 ((N.take i).drop k) p.bins[i].name) i ⟨0,by simp,by simp -implicitDefEqProofs only[AA,↓reduceIte,jA,f1],by simp -implicitDefEqProofs only[AA,↓reduceIte,jA,f5],by simp -implicitDefEqProofs only[AA,↓reduceIte]; rfl,rfl,rfl⟩ ?_
    clear f1 f5;rintro n' F H' ⟨k,hk,f1,f5,f6,rfl,hin⟩;simp -implicitDefEqProofs only[BC,BA,BI,A8,AY,BB,AO,AQ,AL,BD,AX,AC,AA,AZ,BG,BR,AB,DC,↓reduceIte,jA,jB,jC,enP,f5,f6];refine CU (fun hc=>?_) (fun hc=>?_)
    .have hk':k<i:=by simpa using hc
     have hk2:k<p.bins.length:=by omega
     have hs:=LD (fun u=>p.bins[i].name.toList==u.toList) (N.take i) k (by rw[zD]; omega)
     have hx:(N.take i)[k]'(by rw[zD]; omega)=p.bins[k].name:=by
      rw[List.getElem_take]; exact IQ (hNi k hk2)
     rw[hx] at hs;simp -implicitDefEqProofs only[BC,BP,BO,A8];refine EZ (by kernel_rfl) ?_;simp -implicitDefEqProofs only[FZ,ED,DN,E8,EF,FO,FB,IY,D9,EE,BI,A8,AO,AA,AZ,BQ,BR,BJ,CE,AB,ML,↓reduceIte,jA,jK,jL,jG,jB,enP,YD,JB,ACV,f1,f5,f6,DL SG,NS,DU hi',DU hk2,DF ag9 hi',DF ag9 hk2,APV];refine CU (fun hb=>?_) (fun hb=>?_)
     .simp -implicitDefEqProofs only[BC,BA,BK,A8,CP,EG,NG,FQ,AY,BB,AO,AQ,AL,BD,AX,AC,AA,AU,BH,A7,↓reduceIte,jB,jC]
      have:I4 (N.take i) p.bins[i].name=true:=by
       rw[hin]; unfold I4; rw[hs,BEq.comm,hb]; rfl
      exact⟨trivial,trivial,by rw[hd,hdrop,this]; rfl⟩
     .simp -implicitDefEqProofs only[BA,BO,A8,EJ,EQ,AY,BB,AO,AQ,AL,BD,AX,AC,AA,AZ,AU,BH,BG,A7,BR,AB,CZ,↓reduceIte,jA,jB,jC,enP,f6,wrap_succ (show k<9223372036854775807 by omega)]
      refine⟨n'-1,by omega,k+1,by omega,f1,f5,rfl,trivial,?_⟩;rw[hin]; unfold I4; rw[hs,BEq.comm,hb]; rfl
    .have hk':¬k<i:=by simpa using hc
     simp -implicitDefEqProofs only[DJ,EI,J3,ET,AA,↓reduceIte,jA];refine⟨f1,f5,trivial,?_⟩;rw[hin,jW (by rw[zD]; omega)]; rfl
   .rintro F' H' ⟨g1,g5,rfl,hn⟩
    simp -implicitDefEqProofs only[BA,A8,EJ,EW,EQ,AY,BB,AO,AQ,AL,BD,AX,AC,AA,AZ,AU,BH,BG,A7,BR,AB,CZ,↓reduceIte,jA,jB,jC,enP,g5,wrap_succ (show i<9223372036854775807 by omega)];refine⟨n-1,by omega,i+1,by omega,g1,rfl,trivial,?_⟩;rw[hd,hdrop,hn]; rfl
   .rintro F' H' ⟨g2,rfl,hdd⟩
    simp -implicitDefEqProofs only[CP,EG,FQ,CG,g2];exact⟨by rw[hpt,hdd]; rfl,_,rfl⟩
  .have hi':¬i<p.bins.length:=by simpa using hc
   simp -implicitDefEqProofs only[BC,BA,BK,DJ,A8,EI,EW,ET,CG,AY,BB,AO,AQ,AL,BD,AX,AC,AA,AU,BH,A7,↓reduceIte,jB,jC];exact⟨by rw[hpt,hd,jW (by omega)]; rfl,_,rfl⟩
 .rintro F H ⟨f2,hx⟩
  simp -implicitDefEqProofs only[CP,EG,CG,f2];exact⟨trivial,hx⟩
end Go.Proofs.YtocilianjfhifaaGreatDoor.Cov
