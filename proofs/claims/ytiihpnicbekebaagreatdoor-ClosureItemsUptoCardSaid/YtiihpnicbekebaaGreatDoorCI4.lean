/- Part 4 of the proof (H2, H3, X1, X3, X4, R9, X2, X5, X6, U1, U2, U3, U4, U6, U7, U8, V1, V2, V3, V4, V6, V7, V8, Yc, Qc, W1, X8, X9, X10, X13, X14, X15, W2, W3, O1, O2, O3, O4, O11, O12, O13, O14, P1, C1, C2, C3, Bs, Bt, C4); no condition. -/
import Derived.Shelf.Spec.SlicesGrow
import Derived.Shelf.SlSortCmp.WholeK
import Derived.Shelf.SlSortCmp.NoneTotal
import Derived.Shelf.SlicesG.Cmp
import Derived.Test.YtiihpnicbekebaaGreatDoorCI3
set_option linter.unusedVariables false
set_option linter.unusedSimpArgs false
set_option maxRecDepth 8000
set_option maxHeartbeats 4000000
open Go.Proofs.YtiihpnicbekebaaGreatDoor.Sm.ABlk renaming live→zZ
open Bool renaming and_eq_true→jU,eq_iff_iff→wO,false_and→wH,not_false→jE,not_true→zW,or_false→zK,or_true→zT,true_and→qR
open Go.Proofs.Tryz renaming prog→jA
open Int renaming toNat_natCast→wB
open List renaming all_eq_true→zH,append_assoc→zG,append_nil→jQ,cons_append→zB,contains_cons→jW,contains_nil→jR,drop_eq_getElem_cons→zU,drop_eq_nil_of_le→jX,drop_zero→zI,findIdx?_eq_none_iff→wR,findIdx?_eq_some_iff_getElem→wP,foldl_cons→qP,getElem?_append_left→qC,getElem?_eq_getElem→jM,getElem?_eq_none→qQ,getElem?_set_ne→zX,getElem?_set→zN,getElem_mem→jH,length_append→zA,length_cons→zO,length_map→jJ,length_set→qX,length_take→jV,length→qK,map_append→qN,map_cons→jK,map_nil→jP,mem_append→zV,mem_cons→zM,mem_map→zQ,mem_singleton→wI,nil_append→qI,range→zL,replicate→zD,take_of_length_le→jI,take_succ_eq_append_getElem→jY,take_zero→qB
open Nat renaming add_mul→qE,add_zero→jT,le_of_ble_eq_true→jC,le_refl→jF,le_trans→qW,lt_or_ge→zF,mod_lt→wF,reduceAdd→jL,reduceBEq→jS,reduceEqDiff→jB,zero_add→jG
open Option renaming getD_none→jO,getD_some→jD
namespace Go.Proofs.YtiihpnicbekebaaGreatDoor.Wd
open Sm Bins Cov Go.RowKit
variable {a:Nat} {n:Int} (G:Nat->AV )
def wW (z:Int):Nat:=(z%65536).toNat
theorem AG0 (z:Int):wW z<65536:=by unfold wW; omega
theorem VU (h:a<65536):wW (a:Int)=a:=by unfold wW; omega
def AC9 (a i:Nat):Nat:=a/2^i%2
def MK (a:Nat):Nat->Nat
 | 0=>0
 | k+1=>MK a k+AC9 a k
def ZW (a:Nat):Nat:=MK a 16
def yR (a:Nat)(n:Int):Nat:=if n<0∨n≥16 then 0 else a*2^n.toNat%65536
def yQ (a:Nat)(n:Int):Nat:=if n<0∨n≥16 then 0 else a/2^n.toNat
theorem AWQ (a i:Nat):AC9 a i<2:=wF _ U
theorem SK (a:Nat):∀k,MK a k<=k
 | 0=>Nat.le_refl 0
 | k+1=>by have:=SK a k; have:=AWQ a k; unfold MK; omega
theorem UE (a i:Nat)(hi:i<8):AC9 (a%256) i=AC9 a i:=by
 unfold AC9;have:i=0∨i=1∨i=2∨i=3∨i=4∨i=5∨i=6∨i=7:=U;rcases this with rfl|rfl|rfl|rfl|rfl|rfl|rfl|rfl<;>simp only[Nat.reducePow]<;>omega
theorem AR4 (a i:Nat):AC9 (a/256) i=AC9 a (8+i):=by
 unfold AC9;rw[Nat.div_div_eq_div_mul,Nat.pow_add]
theorem AO4 (a:Nat):ZW a=MK (a/256) 8+MK (a%256) 8:=by
 unfold ZW;simp only[MK,AR4,UE a 0 U,UE a 1 U,UE a 2 U,UE a 3 U,UE a 4 U,UE a 5 U,UE a 6 U,UE a 7 U,Nat.reduceAdd,Nat.add_zero];omega
theorem ANI (h0:0<=n)(h1:n<65536):IntKind.u16.wrap n=n:=by
 have e:IntKind.u16.wrap n=n%65536:=by simp [IntKind.wrap,IntKind.bits,IntKind.signed]
 rw[e]; omega
theorem UX (n:Int):IntKind.u16.wrap n=n%65536:=by simp [IntKind.wrap,IntKind.bits,IntKind.signed]
theorem AW5 (z:Int):JM jA 3 .and (.n z) (.n 65535)=some (.n ((wW z:Nat):Int)):=by
 have e:JM jA 3 .and (.n z) (.n 65535)=some (.n (IntKind.i64.wrap ((BitVec.ofInt 64 z &&& BitVec.ofInt 64 65535).toNat:Int))):=rfl;rw[e,BitVec.toNat_and];have h1:(BitVec.ofInt 64 65535).toNat=2^16-1:=by decide
 rw[h1,Nat.and_two_pow_sub_one_eq_mod,BitVec.toNat_ofInt]
 have h2:((z%((2^64:Nat):Int)).toNat%2^16)=wW z:=by
  unfold wW;simp only[Nat.reducePow];omega
 rw[h2,QU (by have:=AG0 z; omega)]
theorem AML (a:Nat)(h:a<65536):(BitVec.ofInt 64 (a:Int)).toNat=a:=by grind
theorem A46 (a b:Nat)(ha:a<65536)(hb:b<65536):JM jA 3 .and (.n (a:Nat)) (.n (b:Nat))=some (.n ((a &&& b:Nat):Int)):=by
 have e:JM jA 3 .and (.n (a:Nat)) (.n (b:Nat))=some (.n (IntKind.i64.wrap ((BitVec.ofInt 64 (a:Int) &&& BitVec.ofInt 64 (b:Int)).toNat:Int))):=rfl;have hx:a &&& b<2^16:=Nat.and_lt_two_pow _ U;rw[e,BitVec.toNat_and,AML a ha,AML b hb,QU U]
theorem A6O (a b:Nat)(ha:a<65536)(hb:b<65536):JM jA 3 .or (.n (a:Nat)) (.n (b:Nat))=some (.n ((a ||| b:Nat):Int)):=by
 have e:JM jA 3 .or (.n (a:Nat)) (.n (b:Nat))=some (.n (IntKind.i64.wrap ((BitVec.ofInt 64 (a:Int) ||| BitVec.ofInt 64 (b:Int)).toNat:Int))):=rfl
 have hx:a ||| b<2^16:=Nat.or_lt_two_pow U U
 rw[e,BitVec.toNat_or,AML a ha,AML b hb,QU U]
theorem A1U (a b:Nat)(ha:a<65536)(hb:b<65536):JM jA 3 .xor (.n (a:Nat)) (.n (b:Nat))=some (.n ((a ^^^ b:Nat):Int)):=by
 have e:JM jA 3 .xor (.n (a:Nat)) (.n (b:Nat))=some (.n (IntKind.i64.wrap ((BitVec.ofInt 64 (a:Int) ^^^ BitVec.ofInt 64 (b:Int)).toNat:Int))):=rfl;have hx:a ^^^ b<2^16:=Nat.xor_lt_two_pow U U;rw[e,BitVec.toNat_xor,AML a ha,AML b hb,QU U]
theorem fJ (E:Env)(fid:FuncId)(a:AV)(l args caps:List AV)(h:Hp)(K:AV->Hp->Prop):AC4 E (.fn (.func fid) (a::l) caps) args h K=ACalls E fid ((a::l)++(args++caps)) h K:=rfl
theorem QN (z:Int)(h:Hp):PCall (En G) 340 [.n z] h (.int .u16 ((wW z:Nat):Int)):=by
 have:=AG0 z;refine acT Tryz.func340 2 ?_;refine DT @AV4 @AW5 (ANI (n:=((wW z:Nat):Int)) U U) ?_;exact JH
theorem VV (a:Nat)(ha:a<65536)(h:Hp):PCall (En G) 341 [.int .u16 (a:Nat)] h (.n (a:Nat)):=by
 refine acT Tryz.func341 2 ?_;refine BB @AV5 (QU (n:=a) U) ?_;exact JH
theorem AJX (z:Int)(h:Hp):PCall (En G) 316 [.n z] h (.n ((wW z:Nat):Int)):=by
 refine acT Tryz.func316 2 ?_;refine AO ?_;refine(QN G z h).uu ?_;refine(VV G _ (AG0 z) h).uu ?_;exact JH
theorem kM (k:FuncId)(a b r:Nat)(hb:b<65536)(hr:r<65536)(h:Hp)(hc:PCall (En G) k [.int .u16 (a:Nat),.int .u16 (b:Nat)] h (.int .u16 (r:Nat))):
  PCall (En G) 342 [.fn (.func k) [.int .u16 (a:Nat)] [],.n (b:Nat)] h (.n (r:Nat)):=by
 have ho:=QN G (b:Nat) h;rw[VU hb] at ho;refine acT Tryz.func342 4 ?_;refine AO ?_;refine ho.use ?_;refine BC @fJ ?_;refine hc.uu ?_;refine(VV G r hr h).uu ?_;exact JH
theorem AAX (k:FuncId)(a r:Nat)(hr:r<65536)(h:Hp)(hc:PCall (En G) k [.int .u16 (a:Nat)] h (.int .u16 (r:Nat))):
  PCall (En G) 383 [.fn (.func k) [.int .u16 (a:Nat)] []] h (.n (r:Nat)):=by
 refine acT Tryz.func383 2 ?_;refine BC @fJ ?_;refine hc.uu ?_;refine(VV G r hr h).uu ?_;exact JH
theorem AYW (a b:Nat)(ha:a<65536)(hb:b<65536)(h:Hp):PCall (En G) 317 [.n (a:Nat),.n (b:Nat)] h (.n (((a+b)%65536:Nat):Int)):=by
 have hc:PCall (En G) 343 [.int .u16 (a:Nat),.int .u16 (b:Nat)] h (.int .u16 (((a+b)%65536:Nat):Int)):=by
  have e:IntKind.u16.wrap ((a:Int)+(b:Int))=(((a+b)%65536:Nat):Int):=by rw[UX]; omega
  refine acT Tryz.func343 4 ?_;refine BC e ?_;exact JH
 have ho:=QN G (a:Nat) h;rw[VU ha] at ho;refine acT Tryz.func317 4 ?_;refine AO ?_;refine ho.uu ?_;refine(kM G 343 a b _ hb (wF _ U) h hc).uu ?_;exact JH
theorem A17 (a b:Nat)(ha:a<65536)(hb:b<65536)(h:Hp):PCall (En G) 348 [.n (a:Nat),.n (b:Nat)] h (.n (((a+65536-b)%65536:Nat):Int)):=by
 have hc:PCall (En G) 387 [.int .u16 (a:Nat),.int .u16 (b:Nat)] h (.int .u16 (((a+65536-b)%65536:Nat):Int)):=by
  have e:IntKind.u16.wrap ((a:Int)-(b:Int))=(((a+65536-b)%65536:Nat):Int):=by rw[UX]; omega
  refine acT Tryz.func387 4 ?_;refine BC e ?_;exact JH
 have ho:=QN G (a:Nat) h;rw[VU ha] at ho;refine acT Tryz.func348 4 ?_;refine AO ?_;refine ho.uu ?_;refine(kM G 387 a b _ hb (wF _ U) h hc).uu ?_;exact JH
theorem A2Y (a b:Nat)(ha:a<65536)(hb:b<65536)(h:Hp):PCall (En G) 349 [.n (a:Nat),.n (b:Nat)] h (.n ((a*b%65536:Nat):Int)):=by
 have hc:PCall (En G) 388 [.int .u16 (a:Nat),.int .u16 (b:Nat)] h (.int .u16 ((a*b%65536:Nat):Int)):=by
  have e:IntKind.u16.wrap ((a:Int)*(b:Int))=((a*b%65536:Nat):Int):=by rw[UX]; rw[<-Int.natCast_mul]; rfl
  refine acT Tryz.func388 4 ?_;refine BC e ?_;exact JH
 have ho:=QN G (a:Nat) h;rw[VU ha] at ho;refine acT Tryz.func349 4 ?_;refine AO ?_;refine ho.uu ?_;refine(kM G 388 a b _ hb (wF _ U) h hc).uu ?_;exact JH
theorem A3K (a:Nat)(ha:a<65536)(h:Hp):PCall (En G) 345 [.n (a:Nat)] h (.n ((65535-a:Nat):Int)):=by
 have hu:aUn .xor (.int .u16 (a:Nat))=some (.int .u16 ((65535-a:Nat):Int)):=by
  have e:aUn .xor (.int .u16 (a:Nat))=some (.int .u16 (IntKind.u16.wrap ((BitVec.ofInt 16 65535 ^^^ BitVec.ofInt 16 (a:Int)).toNat:Int))):=rfl;have h1:BitVec.ofInt 16 65535=BitVec.allOnes 16:=by decide
  have h2:(BitVec.ofInt 16 (a:Int)).toNat=a:=by simp_all
  rw[e,h1,BitVec.allOnes_xor,BitVec.toNat_not,h2,ANI U (by simp only[Nat.reducePow]; omega)]
 have hc:PCall (En G) 384 [.int .u16 (a:Nat)] h (.int .u16 ((65535-a:Nat):Int)):=by
  refine acT Tryz.func384 2 ?_;refine BC hu ?_;exact JH
 have ho:=QN G (a:Nat) h;rw[VU ha] at ho;refine acT Tryz.func345 2 ?_;refine AO ?_;refine ho.uu ?_;refine(AAX G 384 a _ U h hc).uu ?_;exact JH
theorem A2X (a:Nat)(ha:a<65536)(h:Hp):PCall (En G) 346 [.n (a:Nat)] h (.n (((65536-a)%65536:Nat):Int)):=by
 have hc:PCall (En G) 385 [.int .u16 (a:Nat)] h (.int .u16 (((65536-a)%65536:Nat):Int)):=by
  have e:IntKind.u16.wrap (0-(a:Int))=(((65536-a)%65536:Nat):Int):=by rw[UX]; omega
  refine acT Tryz.func385 2 ?_;refine BB @AY5 e ?_;exact JH
 have ho:=QN G (a:Nat) h;rw[VU ha] at ho;refine acT Tryz.func346 2 ?_;refine AO ?_;refine ho.uu ?_;refine(AAX G 385 a _ (wF _ U) h hc).uu ?_;exact JH
theorem kQ (k:FuncId)(a r:Nat)(n:Int)(hr:r<65536)(h:Hp)(hc:¬(n<0∨n≥16)->PCall (En G) k [.int .u16 (a:Nat),.n n] h (.int .u16 (r:Nat)))(h0:n<0∨n≥16->r=0):
  PCall (En G) 389 [.fn (.func k) [.int .u16 (a:Nat)] [],.n n] h (.n (r:Nat)):=by
 refine acT Tryz.func389 4 ?_;refine AO ?_;cases h1:decide (n<0)
 .have h1':¬n<0:=BN h1
  cases h2:decide (n≥16)
  .have h2':¬n≥16:=BN h2
   refine BB h2 @fJ ?_;refine(hc U).uu ?_;refine(VV G r hr h).uu ?_;exact JH
  .have h2':n≥16:=BN h2
   refine BC h2 ?_;exact⟨by rw[h0 (.inr h2')]; rfl,trivial⟩
 .have h1':n<0:=BN h1
  refine AO ?_;exact⟨by rw[h0 (.inl h1')]; rfl,trivial⟩
theorem AHB:yR a n<65536:=by
 unfold yR;split
 .omega
 .exact wF _ U
theorem AHA (ha:a<65536):yQ a n<65536:=by
 unfold yQ;split
 .omega
 .exact Nat.lt_of_le_of_lt (Nat.div_le_self _ _) ha
theorem shl_w (a:Nat)(n:Int)(ha:a<65536)(h:Hp):PCall (En G) 350 [.n (a:Nat),.n n] h (.n (yR a n:Nat)):=by
 have hc:¬(n<0∨n≥16)->PCall (En G) 390 [.int .u16 (a:Nat),.n n] h (.int .u16 (yR a n:Nat)):=fun hn=>by
  have hb:JM jA 348 .shl (.int .u16 (a:Nat)) (.n n)=some (.int .u16 (yR a n:Nat)):=by
   have e:JM jA 348 .shl (.int .u16 (a:Nat)) (.n n)=if n<0 then none else some (.int .u16 (IntKind.u16.wrap ((a:Int)*2^(min n.toNat 16)))):=rfl
   have h1:min n.toNat 16=n.toNat:=U;rw[e,if_neg U,h1,UX];unfold yR;rw[if_neg hn,Int.natCast_emod,Int.natCast_mul,Int.natCast_pow];rfl
  refine acT Tryz.func390 4 ?_;refine BC hb ?_;exact JH
 have ho:=QN G (a:Nat) h;rw[VU ha] at ho;refine acT Tryz.func350 4 ?_;refine AO ?_;refine ho.uu ?_;refine(kQ G 390 a _ n AHB h hc (fun hh=>by unfold yR; rw[if_pos hh])).uu ?_;exact JH
theorem A2E (a:Nat)(n:Int)(ha:a<65536)(h:Hp):PCall (En G) 351 [.n (a:Nat),.n n] h (.n (yQ a n:Nat)):=by
 have hc:¬(n<0∨n≥16)->PCall (En G) 391 [.int .u16 (a:Nat),.n n] h (.int .u16 (yQ a n:Nat)):=fun hn=>by
  have hb:JM jA 348 .shr (.int .u16 (a:Nat)) (.n n)=some (.int .u16 (yQ a n:Nat)):=by
   have e:JM jA 348 .shr (.int .u16 (a:Nat)) (.n n)=if n<0 then none else some (.int .u16 ((a:Int).fdiv (2^(min n.toNat 16)))):=rfl
   have h1:min n.toNat 16=n.toNat:=U;rw[e,if_neg U,h1];unfold yQ;rw[if_neg hn,Int.fdiv_eq_ediv_of_nonneg _ (by exact Int.le_of_lt (Int.pow_pos D5)),Int.natCast_ediv,Int.natCast_pow];rfl
  refine acT Tryz.func391 4 ?_;refine BC hb ?_;exact JH
 have ho:=QN G (a:Nat) h;rw[VU ha] at ho;refine acT Tryz.func351 4 ?_;refine AO ?_;refine ho.uu ?_;refine(kQ G 391 a _ n (AHA ha) h hc (fun hh=>by unfold yQ; rw[if_pos hh])).uu ?_;exact JH
def AG5 (fn:Func):ByteArray:=match fn.body with
 | some (.seq _ (.seq (.region _ ops _) _))=>match ops[2]? with
   | some o=>match o.op with
     | .index _ (.const (.string s)) _=>s
     | _=>⟨#[]⟩
   | none=>⟨#[]⟩
 | _=>⟨#[]⟩
theorem ATL:(List.range 256).all (fun y=>(AG5 Tryz.f386)[y]? == some (UInt8.ofNat (MK y 8)))=true:=A8
theorem ANR {y:Nat}(hy:y<256)(h:Hp):ofO h (O9 jA 9 (.str (AG5 Tryz.f386)) (.int .u16 (y:Nat)))=some (.int .u8 (MK y 8:Nat),h):=by
 have h1:=List.all_eq_true.1 ATL y (BN hy);have h2:(AG5 Tryz.f386)[y]?=some (UInt8.ofNat (MK y 8)):=BN h1;have hle:=SK y 8;have hu:Tryz.prog.underlying 9=some .string:=A8
 have h3:O9 jA 9 (.str (AG5 Tryz.f386)) (.int .u16 (y:Nat))=some (.int .u8 (MK y 8:Nat)):=by
  unfold O9;simp only[hu,Int.toNat_natCast,h2];rw[if_pos U];simp;omega
 rw[h3]; rfl
theorem AKZ (a:Nat)(ha:a<65536)(h:Hp):PCall (En G) 347 [.n (a:Nat)] h (.n (ZW a:Nat)):=by
 have hs:JM jA 347 .shr (.int .u16 (a:Nat)) (.int .u64 8)=some (.int .u16 ((a/256:Nat):Int)):=by
  have e:JM jA 347 .shr (.int .u16 (a:Nat)) (.int .u64 8)=some (.int .u16 ((a:Int).fdiv (2^8))):=rfl;rw[e,Int.fdiv_eq_ediv_of_nonneg _ D5];rfl
 have hl:JM jA 347 .and (.int .u16 (a:Nat)) (.int .u16 255)=some (.int .u16 ((a%256:Nat):Int)):=by
  have e:JM jA 347 .and (.int .u16 (a:Nat)) (.int .u16 255)=some (.int .u16 (IntKind.u16.wrap ((BitVec.ofInt 16 (a:Int) &&& BitVec.ofInt 16 255).toNat:Int))):=rfl;have h1:(BitVec.ofInt 16 255).toNat=2^8-1:=by decide
  have h2:(BitVec.ofInt 16 (a:Int)).toNat=a:=by simp_all
  rw[e,BitVec.toNat_and,h1,Nat.and_two_pow_sub_one_eq_mod,h2,ANI U (by simp only[Nat.reducePow]; omega)]
 have l1:=SK (a/256) 8;have l2:=SK (a%256) 8
 have hadd:JM jA 5 .add (.int .u8 (MK (a/256) 8:Nat)) (.int .u8 (MK (a%256) 8:Nat))=some (.int .u8 (ZW a:Nat)):=by
  have e:JM jA 5 .add (.int .u8 (MK (a/256) 8:Nat)) (.int .u8 (MK (a%256) 8:Nat))=some (.int .u8 (IntKind.u8.wrap ((MK (a/256) 8:Int)+(MK (a%256) 8:Int)))):=rfl;have e2:∀n:Int,IntKind.u8.wrap n=n%256:=fun n=>by simp [IntKind.wrap,IntKind.bits,IntKind.signed]
  have e3:=AO4 a;rw[e,e2];congr 2;omega
 have h64:IntKind.i64.wrap ((ZW a:Nat):Int)=((ZW a:Nat):Int):=QU (by have:=SK a 16; unfold ZW; omega)
 have hc:PCall (En G) 386 [.int .u16 (a:Nat)] h (.n (ZW a:Nat)):=by
  refine acT Tryz.func386 2 ?_;refine AO ?_;refine DV A8 ?_;refine DT @tN hs hl ?_;refine KY (v:=.int .u8 (MK (a/256) 8:Nat)) (h:=h) (ANR U h) ?_;refine DT @tN hs hl ?_;refine KY (v:=.int .u8 (MK (a%256) 8:Nat)) (h:=h) (ANR U h) ?_;refine E8 @AM9 @ARI @hadd h64 ?_;exact JH
 have ho:=QN G (a:Nat) h;rw[VU ha] at ho;refine acT Tryz.func347 2 ?_;refine AO ?_;refine ho.uu ?_;refine hc.uu ?_;exact JH
end Go.Proofs.YtiihpnicbekebaaGreatDoor.Wd
namespace Go.Proofs.YtiihpnicbekebaaGreatDoor.Xe
open Sm Bins Cov Wd Go.RowKit
variable (G:Nat->AV )
def tr (b:Bool):Nat:=if b then 1 else 0
def sgW (op:Int)(a:Nat):Nat:=if op=4 then tr (a==0) else if op=5 then 65535-a else if op=6 then (65536-a)%65536 else ZW a
def dbW (op:Int)(a b:Nat):Nat :=
 if op=7 then (a+b)%65536 else if op=8 then (a+65536-b)%65536 else if op=9 then a*b%65536 else if op=10 then a &&& b else if op=11 then a ||| b else if op=12 then a ^^^ b
 else if op=13 then yR a (b:Nat) else if op=14 then yQ a (b:Nat) else if op=15 then tr (a==b) else if op=16 then tr (!(a==b)) else if op=17 then tr (decide (a<b)) else if op=18 then tr (decide (a<=b))
 else if op=19 then tr (!(a==0) && !(b==0)) else if op=20 then tr (!(a==0) || !(b==0)) else tr ((a==0) || !(b==0))
theorem bZ (b:Bool):tr b<65536:=by cases b<;>decide
theorem AZN {op:Int}{a:Nat}(ha:a<65536):sgW op a<65536:=by
 unfold sgW;by_cases h4:op=4
 .rw[if_pos h4]; exact bZ _
 by_cases h5:op=5
 .rw[if_neg h4,if_pos h5]; omega
 by_cases h6:op=6
 .grind
 .rw[if_neg h4,if_neg h5,if_neg h6]
  have:=SK a 16;unfold ZW; omega
theorem A0X {op:Int}{a b:Nat}(ha:a<65536)(hb:b<65536):dbW op a b<65536:=by
 unfold dbW;by_cases h7:op=7
 .rw[if_pos h7]; exact wF _ U
 by_cases h8:op=8
 .grind
 by_cases h9:op=9
 .grind
 by_cases h10:op=10
 .rw[if_neg h7,if_neg h8,if_neg h9,if_pos h10]; exact Nat.lt_of_le_of_lt Nat.and_le_left ha
 by_cases h11:op=11
 .rw[if_neg h7,if_neg h8,if_neg h9,if_neg h10,if_pos h11]; exact Nat.or_lt_two_pow (n:=16) U U
 by_cases h12:op=12
 .rw[if_neg h7,if_neg h8,if_neg h9,if_neg h10,if_neg h11,if_pos h12]; exact Nat.xor_lt_two_pow (n:=16) U U
 by_cases h13:op=13
 .rw[if_neg h7,if_neg h8,if_neg h9,if_neg h10,if_neg h11,if_neg h12,if_pos h13]; exact AHB
 by_cases h14:op=14
 .rw[if_neg h7,if_neg h8,if_neg h9,if_neg h10,if_neg h11,if_neg h12,if_neg h13,if_pos h14]; exact AHA ha
 by_cases h15:op=15
 .rw[if_neg h7,if_neg h8,if_neg h9,if_neg h10,if_neg h11,if_neg h12,if_neg h13,if_neg h14,if_pos h15]; exact bZ _
 by_cases h16:op=16
 .rw[if_neg h7,if_neg h8,if_neg h9,if_neg h10,if_neg h11,if_neg h12,if_neg h13,if_neg h14,if_neg h15,if_pos h16]; exact bZ _
 by_cases h17:op=17
 .rw[if_neg h7,if_neg h8,if_neg h9,if_neg h10,if_neg h11,if_neg h12,if_neg h13,if_neg h14,if_neg h15,if_neg h16,if_pos h17]; exact bZ _
 by_cases h18:op=18
 .rw[if_neg h7,if_neg h8,if_neg h9,if_neg h10,if_neg h11,if_neg h12,if_neg h13,if_neg h14,if_neg h15,if_neg h16,if_neg h17,if_pos h18]; exact bZ _
 by_cases h19:op=19
 .rw[if_neg h7,if_neg h8,if_neg h9,if_neg h10,if_neg h11,if_neg h12,if_neg h13,if_neg h14,if_neg h15,if_neg h16,if_neg h17,if_neg h18,if_pos h19]; exact bZ _
 by_cases h20:op=20
 .rw[if_neg h7,if_neg h8,if_neg h9,if_neg h10,if_neg h11,if_neg h12,if_neg h13,if_neg h14,if_neg h15,if_neg h16,if_neg h17,if_neg h18,if_neg h19,if_pos h20]; exact bZ _
 .rw[if_neg h7,if_neg h8,if_neg h9,if_neg h10,if_neg h11,if_neg h12,if_neg h13,if_neg h14,if_neg h15,if_neg h16,if_neg h17,if_neg h18,if_neg h19,if_neg h20]; exact bZ _
theorem eqc (a b:Nat):((a:Int)==(b:Int))=(a==b):=by grind
theorem eqz (a:Nat):((a:Int)==0)=(a==0):=eqc a 0
theorem nec (a b:Nat):((a:Int) != (b:Int)) = !(a==b):=congrArg not (eqc a b)
theorem nez (a:Nat):((a:Int) != 0) = !(a==0):=nec a 0
theorem ltc (a b:Nat):decide ((a:Int)<(b:Int))=decide (a<b):=by simp_all
theorem lec (a b:Nat):decide ((a:Int)<=(b:Int))=decide (a<=b):=by simp_all
theorem NK (b:Bool)(h:Hp):PCall (En G) 344 [.bool b] h (.n (tr b:Nat)):=by
 refine acT Tryz.func344 2 ?_;cases b
 all_goals
  refine AO ?_;exact⟨rfl,trivial⟩
theorem yP (op:Int)(a:Nat)(ha:a<65536)(h:Hp):PCall (En G) 318 [.n op,.n (a:Nat)] h (.n (sgW op a:Nat)):=by
 refine acT Tryz.func318 4 ?_;have hcase:op=4∨op=5∨op=6∨(op≠4∧op≠5∧op≠6):=U;rcases hcase with rfl|rfl|rfl|⟨n4,n5,n6⟩
 .refine TM eqz ?_
  refine(NK G _ h).uu ?_;exact⟨rfl,trivial⟩
 .refine YP ?_
  refine(A3K G a ha h).uu ?_;exact⟨rfl,trivial⟩
 .refine YP ?_
  refine(A2X G a ha h).uu ?_;exact⟨rfl,trivial⟩
 .refine DT (beq_eq_false_iff_ne.2 n4) (beq_eq_false_iff_ne.2 n5) (beq_eq_false_iff_ne.2 n6) ?_
  refine(AKZ G a ha h).uu ?_;exact⟨by unfold sgW; rw[if_neg n4,if_neg n5,if_neg n6],trivial⟩
theorem ACJ (op:Int)(a b:Nat)(ha:a<65536)(hb:b<65536)(h:Hp):PCall (En G) 319 [.n op,.n (a:Nat),.n (b:Nat)] h (.n (dbW op a b:Nat)):=by
 refine acT Tryz.func319 6 ?_;have hcase:op=7∨op=8∨op=9∨op=10∨op=11∨op=12∨op=13∨op=14∨op=15∨op=16∨op=17∨op=18∨op=19∨op=20∨(op<7∨20<op):=U;rcases hcase with rfl|rfl|rfl|rfl|rfl|rfl|rfl|rfl|rfl|rfl|rfl|rfl|rfl|rfl|hop
 .refine YP ?_
  refine(AYW G a b ha hb h).uu ?_;exact⟨rfl,trivial⟩
 .refine YP ?_
  refine(A17 G a b ha hb h).uu ?_;exact⟨rfl,trivial⟩
 .refine YP ?_
  refine(A2Y G a b ha hb h).uu ?_;exact⟨rfl,trivial⟩
 .refine TM (A46 a b ha hb) ?_
  exact⟨rfl,trivial⟩
 .refine TM (A6O a b ha hb) ?_
  exact⟨rfl,trivial⟩
 .refine TM (A1U a b ha hb) ?_
  exact⟨rfl,trivial⟩
 .refine YP ?_
  refine(shl_w G a (b:Nat) ha h).uu ?_;exact⟨rfl,trivial⟩
 .refine YP ?_
  refine(A2E G a (b:Nat) ha h).uu ?_;exact⟨rfl,trivial⟩
 .refine P8 eqc nec ltc lec ?_
  refine(NK G _ h).uu ?_;exact⟨rfl,trivial⟩
 .refine P8 eqc nec ltc lec ?_
  refine(NK G _ h).uu ?_;exact⟨rfl,trivial⟩
 .refine P8 eqc nec ltc lec ?_
  refine(NK G _ h).uu ?_;exact⟨rfl,trivial⟩
 .refine P8 eqc nec ltc lec ?_
  refine(NK G _ h).uu ?_;exact⟨rfl,trivial⟩
 .refine MH eqz nez ?_
  cases h1:(a==0)<;>cases h2:(b==0)
  all_goals
   refine DT h1 h2 nez ?_;refine(NK G _ h).uu ?_;exact⟨by unfold dbW; rw[h1,h2]; rfl,trivial⟩
 .refine MH eqz nez ?_
  cases h1:(a==0)<;>cases h2:(b==0)
  all_goals
   refine DT h1 h2 nez ?_;refine(NK G _ h).uu ?_;exact⟨by unfold dbW; rw[h1,h2]; rfl,trivial⟩
 .have hne:∀k:Int,7<=k->k<=20->(op==k)=false:=fun k _ _=>beq_eq_false_iff_ne.2 U
  have hd:dbW op a b=tr ((a==0) || !(b==0)):=by
   unfold dbW;rw[if_neg (U:¬op=7),if_neg (U:¬op=8),if_neg (U:¬op=9),if_neg (U:¬op=10),if_neg (U:¬op=11),if_neg (U:¬op=12),if_neg (U:¬op=13),if_neg (U:¬op=14),if_neg (U:¬op=15),if_neg (U:¬op=16),if_neg (U:¬op=17),if_neg (U:¬op=18),if_neg (U:¬op=19),if_neg (U:¬op=20)]
  rw[hd];simp -implicitDefEqProofs only[vQ,EJ,CV,↓reduceIte,jB,enX,enP,hne 7 D5 D5,hne 8 D5 D5,hne 9 D5 D5,hne 10 D5 D5,hne 11 D5 D5,hne 12 D5 D5,hne 13 D5 D5,hne 14 D5 D5,hne 15 D5 D5,hne 16 D5 D5,hne 17 D5 D5,hne 18 D5 D5,hne 19 D5 D5,hne 20 D5 D5,eqz,nez];cases h1:(a==0)<;>cases h2:(b==0)
  all_goals
   refine DT h1 h2 nez ?_;refine(NK G _ h).uu ?_;exact⟨AZ,trivial⟩
abbrev Sg:=ByteArray×Int
def GU (s:Sg):List AV:=[.str s.1,.n s.2]
theorem AL3 (s:Sg):(GU s).length=2:=rfl
def OM:List Sg->ByteArray->Nat×Bool
 | [],_=>(0,false)
 | s::l,n=>if(s.1.toList==n.toList)=true then (wW s.2,true) else OM l n
theorem mP:∀(l:List Sg) (n:ByteArray),(OM l n).1<65536
 | [],_=>by simp [OM]
 | s::l,n=>by unfold OM; split; exact AG0 _; exact mP l n
theorem AFO (l:List Sg)(n:ByteArray)(k:Nat)(hk:k<l.length):OM (l.drop k) n=if(l[k].1.toList==n.toList)=true then (wW l[k].2,true) else OM (l.drop (k+1)) n:=by
 rw[zU hk]; rfl
def ZU (p:Nat×Bool):AV:=.tup [.n (p.1:Nat),.bool p.2]
theorem AAS (p:Nat×Bool)(n:Nat)(H:Hp):FN n H 2 (ZU p)=ZU p:=rfl
theorem A5D (h:Hp):GM jA h 209=some (.ptr h.length 0 0,h++[zZ 2 [[.str ⟨#[]⟩,.n 0]]]):=FV (row:=[.str ⟨#[]⟩,.n 0]) A8
theorem A2C (h:Hp)(s:Sg):DW jA (h++[zZ 2 [[.str ⟨#[]⟩,.n 0]]]) 209 (.ptr h.length 0 0) (.agg (GU s))=some (h++[zZ 2 [GU s]]):=by
 rw[I9 (cs:=GU s) (row:=[.str ⟨#[]⟩,.n 0]) rfl ANX (A7 _ _) (by exact jF 2),KC];rfl
theorem AC6 (h:Hp)(u:AV)(hu:u.leaf=true):MI h (.agg [u])=some (.ptr h.length 0 0,h++[zZ 1 [[u]]]):=SC (by simp only[List.all_cons,hu,List.all_nil]; rfl)
theorem ZX {h:Hp}{b:Nat}{u:AV}(hb:h[b]?=some (zZ 1 [[u]])):BU jA h 277 (.ptr b 0 0)=some (.agg [u]):=by
 rw[EH A5J AXQ hb rfl (by exact jF 1)]; rfl
theorem VE {P:Program}{t:TypeId}{a b:ByteArray}(h:a.size+b.size<=9223372036854775807):JM P t .add (.str a) (.str b)=some (.str (a++b)):=by
 show AST .add a b=_;unfold AST
 have:((a.size+b.size:Nat):Int)<=IntKind.i64.max:=by
  show _<=(9223372036854775807:Int);omega
 simp only[if_pos this]
section
variable (G:Nat->AV)
theorem eX (l:List Sg)(m:SM)(n:ByteArray)(h:Hp)(hl:l.length<=1099511627776):PCall (En G) 280 [.agg [.sl m 2 (l.map GU)],.str n] h (ZU (OM l n)):=by
 refine XJ 2 (AAS _) ?_;refine acL Tryz.func280 [.tmp 4,.tmp 5] ?_;refine E8 A26 @AVH (AC6 h (.sl m 2 (l.map GU)) rfl) (H7 A5Q (A7 h (zZ 1 [[.sl m 2 (l.map GU)]]))) ?_;refine BI (fun k F H=>∃j,k+j=l.length∧F 1=.str n∧F 9=.sl m 2 (l.map GU)∧F 10=.n (l.length:Nat)∧F 11=.n (j:Nat)∧ext h H∧OM l n=OM (l.drop j) n) l.length ⟨0,BA,AQ,AQ,AQ,AQ,(ext.rfl' h).app _,rfl⟩ ?_;rintro k F H ⟨j,hj,f1,f9,f10,f11,hx,hf⟩;refine BB f10 f11 ?_;refine D8 ?_ ?_<;>intro hj'
 .have g:=A7 H (zZ 2 [GU l[j]])
  have l0:BU jA (H++[zZ 2 [GU l[j]]]) 9 (.ptr H.length 0 0)=some (.str l[j].1):=by rw[BL ag9 g (row:=GU l[j]) rfl]; rfl
  have l1:BU jA (H++[zZ 2 [GU l[j]]]) 3 (.ptr H.length 0 1)=some (.n l[j].2):=by rw[BL ag3 g (row:=GU l[j]) rfl]; rfl
  rw[AFO l n j hj'] at hf;simp -implicitDefEqProofs only[vQ,CV,NT,↓reduceIte,jB,Nat.add_zero,enP,AX5,AVK,Option.getD_none,f1,f9,f11,CQ hj',DR A5N ANX AL3 hj',A5D,A2C,l0];refine CE ?_ ?_<;>intro hb
  .refine BB @AIS l1 ?_
   refine(AJX G _ _).uu ?_;exact⟨by rw[hf,if_pos hb]; rfl,hx.app _⟩
  .refine BB f11 (DF j) ?_
   exact⟨k-1,U,j+1,U,AZ,AZ,AZ,rfl,hx.app _,by rw[hf,if_neg (by rw[hb]; decide)]⟩
 .refine AO ?_
  exact⟨by rw[hf,List.drop_eq_nil_of_le U]; rfl,hx⟩
def elN (a:ByteArray)(i:Nat):ByteArray:=a++(⟨#[91]⟩:ByteArray)++(⟨#[UInt8.ofNat (48+i)]⟩:ByteArray)++(⟨#[93]⟩:ByteArray)
def atG (l:List Sg)(a:ByteArray)(i:Int):Nat×Bool:=if i<0∨i≥8 then (0,false) else OM l (elN a i.toNat)
theorem ASI (l:List Sg)(a:ByteArray)(i:Int):(atG l a i).1<65536:=by unfold atG; split; decide; exact mP _ _
theorem ARF:∀i:Nat,i<8->YM jA 334 9 (.sl .full 1 [[.int .u8 (IntKind.u8.wrap (IntKind.i64.wrap (48+(i:Int))))]])=some (.str ⟨#[UInt8.ofNat (48+i)]⟩)
 | 0,_=>A8
 | 1,_=>A8
 | 2,_=>A8
 | 3,_=>A8
 | 4,_=>A8
 | 5,_=>A8
 | 6,_=>A8
 | 7,_=>A8
 | n+8,h=>absurd h U
theorem A4R (h:Hp)(v:Int):C9 jA false h 334 1 [(0,.int .u8 v)]=some (.sl .full 1 [[.int .u8 v]],h):=A8
theorem ZE (a b:ByteArray):(a++b).size=a.size+b.size:=ByteArray.size_append
theorem xE (l:List Sg)(m:SM)(a:ByteArray)(i:Int)(h:Hp)(hl:l.length<=1099511627776)(ha:a.size<=1048576):PCall (En G) 281 [.agg [.sl m 2 (l.map GU)],.str a,.n i] h (ZU (atG l a i)):=by
 refine XJ 2 (AAS _) ?_;refine acL Tryz.func281 [.tmp 6,.tmp 7] ?_;have hx:=Sm.ext.r1 h (zZ 1 [[.sl m 2 (l.map GU)]]);refine BC (AC6 h (.sl m 2 (l.map GU)) rfl) ?_;cases h1:decide (i<0)
 .cases h2:decide (i≥8)
  .have h1':¬i<0:=BN h1
   have h2':¬i≥8:=BN h2;obtain⟨k,rfl⟩:=Int.eq_ofNat_of_zero_le (U:0<=i);have hk:k<8:=U;have e1:JM jA 9 .add (.str a) (.str ⟨#[91]⟩)=_:=VE (by show a.size+1<=_; omega);have e2:JM jA 9 .add (.str (a++(⟨#[91]⟩:ByteArray))) (.str ⟨#[UInt8.ofNat (48+k)]⟩)=_:=VE (by rw[ZE]; show a.size+1+1<=_; omega);have e3:JM jA 9 .add (.str (a++(⟨#[91]⟩:ByteArray)++(⟨#[UInt8.ofNat (48+k)]⟩:ByteArray))) (.str ⟨#[93]⟩)=_:=VE (by rw[ZE,ZE]; show a.size+1+1+1<=_; omega);refine PG @A36 h2 (ZX (A7 h (zZ 1 [[.sl m 2 (l.map GU)]]))) e1 A4R (ARF k hk) e2 e3 ?_;refine(eX G l m _ _ hl).use ?_;unfold ZU;refine AO ?_;exact⟨by unfold atG; rw[if_neg U]; rfl,hx⟩
  .refine BC h2 ?_
   have h2':i≥8:=BN h2;exact⟨by unfold atG; rw[if_pos (.inr h2')]; rfl,hx⟩
 .refine AO ?_
  have h1':i<0:=BN h1;exact⟨by unfold atG; rw[if_pos (.inl h1')]; rfl,hx⟩
def sumTo (l:List Sg)(a:ByteArray):Nat->Nat
 | 0=>0
 | k+1=>(sumTo l a k+(atG l a (k:Nat)).1)%65536
theorem yG (l:List Sg)(a:ByteArray)(k:Nat):sumTo l a k<65536:=by
 cases k with
 | zero=>show 0<65536; decide
 | succ k=>exact wF _ U
theorem AN3 (l:List Sg)(m:SM)(a:ByteArray)(h:Hp)(hl:l.length<=1099511627776)(ha:a.size<=1048576):PCall (En G) 282 [.agg [.sl m 2 (l.map GU)],.str a] h (.n (sumTo l a 8:Nat)):=by
 refine ACalls.pure0 rfl ?_;refine acT Tryz.func282 4 ?_;have g:=A7 h (zZ 1 [[.sl m 2 (l.map GU)]]);refine BC (AC6 h (.sl m 2 (l.map GU)) rfl) ?_
 generalize hH:h++[zZ 1 [[.sl m 2 (l.map GU)]]]=H at g|-
 refine BI (fun k F H'=>∃j,k+j=8∧F 1=.str a∧F 2=.ptr h.length 0 0∧F 5=.n (sumTo l a j:Nat)∧F 9=.n (j:Nat)∧H'=H) 8 ⟨0,BA,AQ,AQ,AQ,AQ,rfl⟩ ?_;rintro k F H' ⟨j,hj,f1,f2,f5,f9,rfl⟩;refine BC f9 ?_;refine CE ?_ ?_<;>intro hc
 .have hj':j<8:=by simp at hc; omega
  refine E8 f1 f2 f9 (ZX g) ?_;refine(xE G l m a (j:Nat) H' hl ha).use ?_;unfold ZU;refine BC f5 ?_;refine(AYW G _ _ (yG l a j) (ASI l a (j:Nat)) H').use ?_;refine E8 f1 f2 f9 (DF j) ?_;exact⟨k-1,U,j+1,U,AZ,AZ,AZ,AZ,trivial⟩
 .have hj':j=8:=by simp at hc; omega
  subst hj';refine BC f5 ?_;exact⟨trivial,_,hH.symm⟩
end
def insW (x:Nat):List Nat->Bool
 | a::b::r=>(decide (a<=x)&&decide (x<=b))||insW x r
 | _=>false
def opW (op:Int)(vs:List Nat):Nat :=
 if op=22 then (if vs.getD 0 0≠0 then vs.getD 1 0 else vs.getD 2 0) else if op=23 then tr (insW (vs.getD 0 0) (vs.drop 1))
 else if vs.length=1 then sgW op (vs.getD 0 0) else dbW op (vs.getD 0 0) (vs.getD 1 0)
theorem getD_lt {vs:List Nat}(hv:∀x∈vs,x<65536)(k:Nat):vs.getD k 0<65536:=by
 rw[List.getD_eq_getElem?_getD];rcases Nat.lt_or_ge k vs.length with h|h
 .simp_all
 .rw[List.getElem?_eq_none h]; decide
theorem AZX (op:Int){vs:List Nat}(hv:∀x∈vs,x<65536):opW op vs<65536:=by
 unfold opW;have h0:=getD_lt hv 0;have h1:=getD_lt hv 1;have h2:=getD_lt hv 2;split
 .split<;>assumption
 split
 .exact bZ _
 split
 .exact AZN h0
 .exact A0X h0 h1
theorem ALJ (x:Nat)(l:List Nat)(k:Nat)(hk:k+1<l.length):insW x (l.drop k)=((decide (l[k]<=x)&&decide (x<=l[k+1]))||insW x (l.drop (k+2))):=by
 rw[zU (U:k<l.length),zU hk]; rfl
theorem AP4 (x:Nat)(l:List Nat)(k:Nat)(hk:l.length<=k+1):insW x (l.drop k)=false:=by
 have:(l.drop k).length<=1:=by simp; omega
 match hm:l.drop k,this with
 | [],_=>rfl
 | [a],_=>rfl
theorem gec (a b:Nat):decide ((a:Int)≥(b:Int))=decide (b<=a):=lec b a
def AS0 (op:Int)(n:Nat):Prop:=(op=22->n=3)∧(op=23->n%2=1∧3<=n)∧(op≠22->op≠23->n=1∨n=2)
theorem AKY (op:Int)(vs:List Nat)(o:Nat)(H:Hp)(ho:H[o]?=some (zZ 1 (vs.map PY)))(hv:∀x∈vs,x<65536)(hl:vs.length<=1048576)(hops:AS0 op vs.length):
  PCall (En G) 283 [.n op,.own o 0 vs.length] H (.n (opW op vs:Nat)):=by
 have hix:∀k:Nat,k<vs.length->JJ 1 H (.own o 0 vs.length) (.n (k:Nat))=some (.ptr o k 0):=fun k hk=>by rw[H8 ho hk,Nat.zero_add]
 have hld:∀(k:Nat) (hk:k<vs.length),BU jA H 3 (.ptr o k 0)=some (.n (vs[k]:Nat)):=fun k hk=>by rw[BL ag3 ho (row:=PY vs[k]) (row_map hk)]; rfl
 have h1:1<=vs.length:=by
  obtain⟨a,b,c⟩:=hops;by_cases e:op=22
  .have:=a e; omega
  by_cases e':op=23
  .have:=b e'; omega
  .have:=c e e'; omega
 have i0:JJ 1 H (.own o 0 vs.length) (.n 0)=some (.ptr o 0 0):=hix 0 h1;have d0:=hld 0 h1;have g0:vs.getD 0 0=vs[0]:=by grind
 have v0:vs[0]<65536:=hv _ (jH _);refine acT Tryz.func283 4 ?_;by_cases e22:op=22
 .subst e22
  have hl3:vs.length=3:=hops.1 rfl;have i1:JJ 1 H (.own o 0 vs.length) (.n 1)=some (.ptr o 1 0):=hix 1 U;have i2:JJ 1 H (.own o 0 vs.length) (.n 2)=some (.ptr o 2 0):=hix 2 U;have d1:=hld 1 U;have d2:=hld 2 U;have g1:vs.getD 1 0=vs[1]:=by simp_all
  have g2:vs.getD 2 0=vs[2]:=by simp_all
  refine P8 i0 d0 eqz nez ?_;cases hz:(vs[0]==0)
  .refine BB i1 d1 ?_
   have:vs[0]≠0:=BN hz;exact⟨by unfold opW; rw[if_pos rfl,g0,if_pos this,g1],trivial⟩
  .refine BB i2 d2 ?_
   have:¬vs[0]≠0:=BN hz;exact⟨by unfold opW; rw[if_pos rfl,g0,if_neg this,g2],trivial⟩
 by_cases e23:op=23
 .subst e23
  obtain⟨hodd,h3⟩:=hops.2.1 rfl;refine YP ?_;have hval:opW 23 vs=tr (insW vs[0] (vs.drop 1)):=by unfold opW; rw[if_neg D5,if_pos rfl,g0]
  rw[hval];refine BI (fun n F H'=>∃j,n+j=vs.length∧j%2=1∧F 1=.own o 0 vs.length∧F 5=.n (j:Nat)∧H'=H∧insW vs[0] (vs.drop 1)=insW vs[0] (vs.drop j)) (vs.length-1) ⟨1,U,rfl,AQ,AQ,rfl,rfl⟩ ?_;rintro n F H' ⟨j,hj,hj2,f1,f5,rfl,hin⟩;refine DT f1 f5 (DF j) ?_;refine CE ?_ ?_<;>intro hc
  .have hc':j+1<vs.length:=by simp at hc; omega
   have ij:=hix j U;have ij1:=hix (j+1) hc';have dj:=hld j U;have dj1:=hld (j+1) hc';rw[ALJ _ _ _ hc'] at hin;have e2:IntKind.i64.wrap (((j:Nat):Int)+2)=((j+2:Nat):Int):=by rw[wrap_i64 U U]; omega
   have es:IntKind.i64.wrap (((j:Nat):Int)+1)=((j+1:Nat):Int):=wrap_succ (U:j<9223372036854775807);refine AO ?_;refine DV A8 ?_;refine bS f1 f5 i0 d0 ij dj es ij1 dj1 lec gec ?_;cases ha:decide (vs[j]<=vs[0])
   .refine DT ha f5 e2 ?_
    exact⟨n-2,U,j+2,U,U,AZ,AZ,trivial,by rw[hin,ha]; rfl⟩
   .cases hb:decide (vs[0]<=vs[j+1])
    .refine bS ha hb f1 f5 es ij1 dj1 lec i0 d0 e2 ?_
     exact⟨n-2,U,j+2,U,U,AZ,AZ,trivial,by rw[hin,ha,hb]; rfl⟩
    .refine YN ha hb f1 f5 es ij1 dj1 lec i0 d0 ?_
     exact⟨by rw[hin,ha,hb]; rfl,trivial⟩
  .have hc':vs.length<=j+1:=by simp at hc; omega
   refine AO ?_;exact⟨by rw[hin,AP4 _ _ _ hc']; rfl,trivial⟩
 .have n12:=hops.2.2 e22 e23
  have c1:(op==22)=false:=beq_eq_false_iff_ne.2 e22;have c2:(op==23)=false:=beq_eq_false_iff_ne.2 e23;have hval:opW op vs=if vs.length=1 then sgW op (vs.getD 0 0) else dbW op (vs.getD 0 0) (vs.getD 1 0):=by unfold opW; rw[if_neg e22,if_neg e23]
  rw[hval];refine BB c1 c2 ?_;refine CE ?_ ?_<;>intro hc
  .have hl1:vs.length=1:=by simp at hc; omega
   refine BB i0 d0 ?_;refine(yP G op _ v0 H).uu ?_;exact⟨by rw[if_pos hl1,g0],trivial⟩
  .have hl1:vs.length≠1:=by simp at hc; omega
   have i1:JJ 1 H (.own o 0 vs.length) (.n 1)=some (.ptr o 1 0):=hix 1 U;have d1:=hld 1 U;have g1:vs.getD 1 0=vs[1]:=by simp_all
   have v1:vs[1]<65536:=hv _ (jH _);refine AO ?_;refine DV A8 ?_;refine E8 i0 d0 i1 d1 ?_;refine⟨_,ACJ G op _ _ v0 v1 H,?_⟩;exact⟨by rw[if_neg hl1,g0,g1],trivial⟩
end Go.Proofs.YtiihpnicbekebaaGreatDoor.Xe
namespace Go.Proofs.YtiihpnicbekebaaGreatDoor.Rk
open Sm Bins Cov Go.RowKit
theorem ACalls.args {E:Env}{f:FuncId}{as1 as2:List AV}{h:Hp}{R:AV->Hp->Prop}(hc:ACalls E f as2 h R)(ha:∀g cargs,bM g as1 cargs->bM g as2 cargs):ACalls E f as1 h R :=
 ⟨hc.1,fun g w cargs S hr=>hc.2 g w cargs S (ha g cargs hr)⟩
def hasB (xs:List Int)(z:Int):Bool:=xs.any fun x=>x==z
theorem AFF (G:Nat->AV)(xs:List Int)(s:SM)(z:Int)(h:Hp)(hn:xs.length<=1048576):∃k:Int,PCall (En G) 322 [.sl s 1 (xs.map qencI),.n z] h (.n k)∧decide (k≥0)=hasB xs z:=by
 by_cases hb:hasB xs z=true
 .obtain⟨i,hi⟩:∃i,xs.findIdx? (fun x=>x==z)=some i:=by
   cases he:xs.findIdx? (fun x=>x==z) with
   | some i=>exact⟨i,rfl⟩
   | none =>
     rw[List.findIdx?_eq_none_iff] at he;unfold hasB at hb;rw[List.any_eq_true] at hb;obtain⟨x,hx,hz⟩:=hb;rw[he x hx] at hz; cases hz
  refine⟨(i:Int),?_,by rw[hb]; simp⟩;obtain⟨hil,hiz,hbef⟩:=List.findIdx?_eq_some_iff_getElem.1 hi;refine acT Tryz.func322 4 ?_;refine AO ?_;refine BI (fun n F H=>∃k,n+k=xs.length∧k<=i∧F 0=.sl s 1 (xs.map qencI)∧F 1=.n z∧F 7=.n (xs.length:Nat)∧F 8=.n (k:Nat)∧H=h) xs.length ⟨0,BA,U,AQ,AQ,AQ,AQ,rfl⟩ ?_;rintro n F H ⟨k,hk,hki,f0,f1,f7,f8,rfl⟩;have hk':k<xs.length:=U;have hd:decide (((k:Nat):Int)<((xs.length:Nat):Int))=true:=by simp; omega
  simp -implicitDefEqProofs only[vQ,NS,CV,↓reduceIte,Nat.reduceEqDiff,Option.getD_some,Bool.not_false,enP,LQ,f7,f8,hd,f0,f1,CQ hk',CG ag3 hk',Cov.encI0];rcases Nat.eq_or_lt_of_le hki with e|hlt
  .subst e
   have hzz:(z==xs[k])=true:=by rw[BEq.comm]; exact hiz
   refine BB hzz f8 ?_;exact JH
  .have hzz:(z==xs[k])=false:=by
    have:=hbef k hlt;rw[BEq.comm]; simpa using this
   refine DT hzz f8 (DF k) ?_;exact⟨n-1,U,k+1,U,U,AZ,AZ,AZ,rfl,trivial⟩
 .have hb':hasB xs z=false:=BN hb
  refine⟨-1,?_,by rw[hb']; decide⟩;refine acT Tryz.func322 4 ?_;refine AO ?_;refine BI (fun n F H=>∃k,n+k=xs.length∧F 0=.sl s 1 (xs.map qencI)∧F 1=.n z∧F 7=.n (xs.length:Nat)∧F 8=.n (k:Nat)∧H=h) xs.length ⟨0,BA,AQ,AQ,AQ,AQ,rfl⟩ ?_;rintro n F H ⟨k,hk,f0,f1,f7,f8,rfl⟩;refine BB f7 f8 ?_;refine CE ?_ ?_<;>intro hc
  .have hk':k<xs.length:=BN hc
   have hzz:(z==xs[k])=false:=by
    rw[<-Bool.not_eq_true]; intro e;unfold hasB at hb';rw[List.any_eq_false] at hb';exact hb' xs[k] (List.getElem_mem hk') (by rw[BEq.comm]; exact e)
   refine P7 f0 f1 f8 hk' @Cov.encI0 hzz (DF k) ?_;exact⟨n-1,U,k+1,U,AZ,AZ,f7,rfl,trivial⟩
  .refine AO ?_
   exact JH
theorem contains_rank (G:Nat->AV)(xs:List Int)(s:SM)(z:Int)(h:Hp)(hn:xs.length<=1048576):PCall (En G) 286 [.sl s 1 (xs.map qencI),.n z] h (.bool (hasB xs z)):=by
 obtain⟨k,hk,hd⟩:=AFF G xs s z h hn;refine acT Tryz.func286 4 ?_;refine AO ?_;refine hk.use ?_;refine BC hd ?_;exact JH
end Go.Proofs.YtiihpnicbekebaaGreatDoor.Rk
namespace Go.Proofs.YtiihpnicbekebaaGreatDoor.Xe
open Sm Bins Cov Go.RowKit
variable {h h0:Hp} {ns:List ByteArray} {c:Nat} {v:AV} (G:Nat->AV )
theorem A0I:Frz qencStr:=fun _ _ _ _=>⟨rfl,rfl⟩
theorem encStr0 (s:ByteArray):(qencStr s)[0]?=some (.str s):=rfl
theorem ALN (xs:List ByteArray)(b:Nat)(v:ByteArray)(h:Hp)(hb:h[b]?=some (zZ 1 (xs.map qencStr)))(hl:xs.length<=1099511627776):
  ∃k:Int,PCall (En G) 279 [.own b 0 xs.length,.str v] h (.n k)∧decide (k≥0)=IR xs v:=by
 have key:∀r:Int,(∀i (hi:i<xs.length),(∀j (hj:j<i),(v.toList==xs[j].toList)=false)->(v.toList==xs[i].toList)=true->r=(i:Int))->(IR xs v=false->r = -1)->PCall (En G) 279 [.own b 0 xs.length,.str v] h (.n r):=by
  intro r hr hr0;refine acT Tryz.func279 4 ?_;refine AO ?_;refine BI (fun n F H=>∃k,n+k=xs.length∧F 0=.own b 0 xs.length∧F 1=.str v∧F 7=.n (xs.length:Nat)∧F 8=.n (k:Nat)∧H=h∧(∀j (hj:j<xs.length),j<k->(v.toList==xs[j].toList)=false)∧IR xs v=IR (xs.drop k) v) xs.length ⟨0,BA,AQ,AQ,AQ,AQ,rfl,fun j _ hj=>U,rfl⟩ ?_;rintro n F H ⟨k,hk,f0,f1,f7,f8,rfl,hbef,hin⟩;refine BB f7 f8 ?_;refine D8 ?_ ?_<;>intro hk'
  .have hs:IR (xs.drop k) v=((v.toList==xs[k].toList)||IR (xs.drop (k+1)) v):=MG _ xs k hk'
   have l1:BU jA H 9 (.ptr b k 0)=some (.str xs[k]):=by rw[BL ag9 hb (row:=qencStr xs[k]) (row_map hk')]; rfl
   simp -implicitDefEqProofs only[vQ,CV,NT,↓reduceIte,jB,Nat.zero_add,enP,ZY,f0,f1,f8,H8 hb hk',l1];refine CE ?_ ?_<;>intro hx
   .refine AO ?_
    exact⟨by rw[hr k hk' (fun j hj=>hbef j U hj) hx],trivial⟩
   .refine BB f8 (DF k) ?_
    refine⟨n-1,U,k+1,U,AZ,AZ,AZ,rfl,trivial,fun j hj hjk=>?_,by rw[hin,hs,hx,Bool.false_or]⟩;rcases Nat.lt_or_ge j k with h1|h1
    .exact hbef j hj h1
    .grind
  .refine AO ?_
   refine⟨?_,trivial⟩;rw[hr0 (by rw[hin,List.drop_eq_nil_of_le U]; rfl)]
 by_cases hh:IR xs v=true
 .obtain⟨i,hi⟩:∃i,xs.findIdx? (fun u=>v.toList==u.toList)=some i:=by
   cases he:xs.findIdx? (fun u=>v.toList==u.toList) with
   | some i=>exact⟨i,rfl⟩
   | none =>
     rw[List.findIdx?_eq_none_iff] at he;unfold IR at hh;rw[List.any_eq_true] at hh;obtain⟨x,hx,hz⟩:=hh;rw[he x hx] at hz; cases hz
  obtain⟨hil,hiz,hbef⟩:=List.findIdx?_eq_some_iff_getElem.1 hi;refine⟨(i:Int),key i (fun k hk hb' hx=>?_) (fun h0=>by rw[hh] at h0; cases h0),by rw[hh]; simp⟩;rcases Nat.lt_trichotomy i k with h1|h1|h1
  .simp_all
  .rw[h1]
  .simp_all
 .have hh':IR xs v=false:=BN hh
  refine⟨-1,key (-1) (fun k hk _ hx=>?_) (fun _=>rfl),by rw[hh']; decide⟩;unfold IR at hh';rw[List.any_eq_false] at hh';exact absurd hx (hh' xs[k] (jH hk))
theorem ALO (k:Nat)(v:ByteArray)(h:Hp):PCall (En G) 279 [.sl .nil k [],.str v] h (.n (-1)):=by
 refine acT Tryz.func279 4 ?_;refine YP ?_;refine BI (fun n F H=>F 7=.n 0∧F 8=.n 0∧H=h) 0 ⟨AQ,AQ,rfl⟩ ?_;rintro n F H ⟨f7,f8,rfl⟩;have hc:((0:Int)<0)=False:=BA;refine I7 @decide_false f7 f8 hc @decide_false ?_;exact⟨AZ,trivial⟩
theorem A37 {u:AV}(ho:outG 1 qencStr h0 ns u h)(v:ByteArray)(hl:ns.length<=8388608):PCall (En G) 219 [u,.str v] h (.bool (IR ns v)):=by
 have hi:∃k:Int,PCall (En G) 279 [u,.str v] h (.n k)∧decide (k≥0)=IR ns v:=by
  rcases ho with⟨rfl,rfl⟩|⟨_,o,_,rfl,hb⟩
  .exact⟨-1,ALO G 0 v h,rfl⟩
  .exact ALN G ns o v h hb U
 obtain⟨k,hk,hd⟩:=hi;refine acT Tryz.func219 4 ?_;refine AO ?_;refine hk.use ?_;refine BC hd ?_;exact JH
def nmU (ops:List Int)(ns:List ByteArray)(e:Ex):List ByteArray:=if(Rk.hasB ops e.op && !IR ns e.name)=true then ns++[e.name] else ns
def nmL (ops:List Int)(ns:List ByteArray)(l:List Ex):List ByteArray:=l.foldl (nmU ops) ns
theorem AHO (ops:List Int)(ns:List ByteArray)(e:Ex):(nmU ops ns e).length<=ns.length+1:=by
 unfold nmU; split<;>simp
theorem Y0 (ops:List Int):∀(l:List Ex) (ns:List ByteArray),(nmL ops ns l).length<=ns.length+l.length
 | [],ns=>by simp [nmL]
 | e::l,ns=>by
   have h1:=Y0 ops l (nmU ops ns e);have h2:=AHO ops ns e
   simp only[nmL,List.foldl_cons,List.length_cons] at h1|-
   omega
theorem AUI (ops:List Int)(ns:List ByteArray)(l r:List Ex):nmL ops ns (l++r)=nmL ops (nmL ops ns l) r:=List.foldl_append
structure NSt (h0:Hp) (c:Nat) (ns:List ByteArray) (v:AV) (h:Hp):Prop where
 cell:h[c]?=some (zZ 1 [[v]])
 out:outG 1 qencStr h0 ns v h
 base:h0.length<=c
 ex:ext h0 h
abbrev Cn (c:Nat)(v:AV)(h:Hp)(v':AV)(h':Hp):Prop:=Ch c v .nilfn h v' .nilfn h'
theorem NSt.ne {b k:Nat}{row:List AV}(s:NSt h0 c ns v h)(hb:h[b]?=some (zZ k [row]))(hr:k≠1∨∀x,row≠[.str x]):¬isB v b:=by
 intro hi;rcases s.out with⟨_,rfl⟩|⟨hne,o,_,rfl,ho⟩
 .exact hi
 .have e:o=b:=hi
  subst e;rw[ho] at hb
  injection Option.some.inj hb with e1 e2
  rcases hr with hr|hr
  .exact hr e1.symm
  .match ns,e2 with
   | [x],e2=>simp [qencStr] at e2; exact hr x e2.symm
theorem NSt.app {h0 h:Hp}{c:Nat}{ns:List ByteArray}{v:AV}(s:NSt h0 c ns v h)(x:Hp):NSt h0 c ns v (h++x):=⟨IK s.cell,s.out.app x,s.base,s.ex.app x⟩
theorem NSt.cne (s:NSt h0 c ns v h):¬isB v c:=by
 refine s.ne s.cell (.inr fun x e=>?_);rcases s.out with⟨_,rfl⟩|⟨_,o,_,rfl,_⟩<;>simp at e
theorem Cn.keep {b:Nat}{h':Hp}{v':AV}{x:ABlk}(hc:Cn c v h v' h')(hb:h[b]?=some x)(hne:b≠c)(hn:¬isB v b):h'[b]?=some x:=by
 rw[hc.get b (AC hb) hne hn (fun e=>e)]; exact hb
theorem xW (ops:List Int)(hops:ops.length<=1048576)(h0:Hp)(c ob:Nat)(s0:SM)(e:Ex)(h:Hp)(ns:List ByteArray)(v:AV)(S:NSt h0 c ns v h)(hob:h[ob]?=some (zZ 1 [[.sl s0 1 (ops.map qencI)]]))(hn:ns.length<8388608):
  ACalls (En G) 289 [.agg (AU e),.ptr ob 0 0,.ptr c 0 0] h fun r h'=>r=.bool true∧∃v',Cn c v h v' h'∧NSt h0 c (nmU ops ns e) v' h':=by
 refine acT Tryz.func289 4 ?_;have S1:=S.app [zZ 4 [AU e]];have hob1:(h++[zZ 4 [AU e]])[ob]?=_:=AL hob;have hC1:Cn c v h v (h++[zZ 4 [AU e]]):=Ch.app c v .nilfn h _;have ge:=A7 h (zZ 4 [AU e]);have hcl:=AC S.cell;refine BC @bxE ?_
 generalize h++[zZ 4 [AU e]]=H at S1 hob1 hC1 ge|-
 have l0:BU jA H 3 (.ptr h.length 0 0)=some (.n e.op):=by rw[BL ag3 ge (row:=AU e) rfl,KL]
 have l2:BU jA H 9 (.ptr h.length 0 2)=some (.str e.name):=by rw[BL ag9 ge (row:=AU e) rfl,RV]
 refine BB (H7 O6 hob1) l0 ?_;refine(Rk.contains_rank G ops s0 e.op H hops).uu ?_
 have key:∀b1 b2:Bool,Rk.hasB ops e.op=b1->IR ns e.name=b2->(b1 && !b2)=false->nmU ops ns e=ns:=fun b1 b2 e1 e2 e3=>by
  unfold nmU; rw[e1,e2,e3]; simp
 cases hb1:Rk.hasB ops e.op
 .refine AO ?_
  exact⟨trivial,v,hC1,by rw[key _ _ hb1 rfl rfl]; exact S1⟩
 refine BB (H7 eA S1.cell) l2 ?_;refine(A37 G S1.out e.name U).uu ?_;cases hb2:IR ns e.name
 .have hu:nmU ops ns e=ns++[e.name]:=by unfold nmU; rw[hb1,hb2]; rfl
  obtain⟨v',H',ha,ho,hk,hex,hle,hnew⟩:=S1.out.append (P:=jA) ANP sz9 AM4 ARV U hn S1.ex e.name;have ha':EG jA true H 121 121 v (.sl .full 1 [[.str e.name]])=some (v',H'):=ha;have hc':=hk c _ S1.cell S1.cne;have hcl2:=AC S1.cell
  have hac:IL v'=some [v']:=by
   rcases ho with⟨_,rfl⟩|⟨_,o,_,rfl,_⟩<;>rfl
  refine I7 (H7 eA S1.cell) l2 AR3 ha' (TV ANZ hac hc') ?_;refine⟨trivial,v',hC1.trans ⟨BN hle,fun b hb hbc hbv _=>?_,fun b hb=>.inr (by rw[hnew b hb]; exact Nat.le_refl _),fun b hb=>hb.elim⟩,?_⟩
  .grind
  .rw[hu]
   exact⟨CP hc',ho.keep fun b hb=>by rw[zN,if_neg (fun e=>by have:=hnew b hb; omega)],S1.base,hex.set S1.base _⟩
 .refine AO ?_
  exact⟨trivial,v,hC1,by rw[key _ _ hb1 hb2 rfl]; exact S1⟩
theorem AO9 (ops:List Int)(ns:List ByteArray)(e:Ex):nmL ops ns (pre e)=nmL ops (nmU ops ns e) (GH e.args):=by rw[pre_eq]; rfl
theorem AFU (ops:List Int)(hops:ops.length<=1048576)(h0:Hp)(c ob vb db:Nat)(s0:SM)(hv:vb≠c)(hd:db≠c)(hoc:ob≠c)(e:Ex):
  wt e<=1099511627776->∀(h:Hp) (ns:List ByteArray) (v:AV),NSt h0 c ns v h->h[ob]?=some (zZ 1 [[.sl s0 1 (ops.map qencI)]])->ns.length+(pre e).length<=8388608 ->
   h[vb]?=some (zZ 1 [[.fn (.func 289) [] [.ptr ob 0 0,.ptr c 0 0]]])->h[db]?=some (zZ 1 [[.fn (.func 248) [] [.ptr vb 0 0,.ptr db 0 0]]]) ->
   ACalls (En G) 248 [.agg (AU e),.ptr vb 0 0,.ptr db 0 0] h fun r h'=>r=.bool true∧∃v',Cn c v h v' h'∧NSt h0 c (nmL ops ns (pre e)) v' h':=by
 induction e using Ex.induct with|h e ih=>?_
 intro hw h ns v S hob hlen hvb hdb;have hcl:=AC S.cell;have hal:e.args.length<=1099511627776:=by have:=TR e.args; have:=LX e; omega
 have hpe:(pre e).length=(GH e.args).length+1:=by rw[pre_eq]; rfl
 have hfn:∀(k:FuncId) (a b:List AV) (x:ByteArray),[AV.fn (.func k) a b]≠[.str x]:=fun _ _ _ _ q=>by simp at q
 have hsl:∀(xs:List (List AV)) (x:ByteArray),[AV.sl s0 1 xs]≠[.str x]:=fun _ _ q=>by simp at q
 refine acT Tryz.func248 4 ?_;have S0:=S.app [zZ 4 [AU e]];simp -implicitDefEqProofs only[vQ,CV,SS,qI,zB,↓reduceIte,jB,enP,bxE,H7 Sm.ag230 (AL hvb),ldE];refine(xW G ops hops h0 c ob s0 e _ ns v S0 (AL hob) U).mono ?_;rintro r h1 ⟨rfl,v1,hch,S1⟩;have hch0:Cn c v h v1 h1:=(Ch.app c v .nilfn h _).trans hch;have hb3:h1[h.length]?=some (zZ 4 [AU e]):=hch.keep (A7 _ _) U (S0.ne (A7 _ _) (.inl D5));have hvb1:=hch0.keep hvb hv (S.ne hvb (.inr (hfn _ _ _)));have hdb1:=hch0.keep hdb hd (S.ne hdb (.inr (hfn _ _ _)));have hob1:=hch0.keep hob hoc (S.ne hob (.inr (hsl _)));have l3:BU jA h1 23 (.ptr h.length 0 3)=some (.sl e.m 4 (e.args.map AU)):=by rw[BL MO hb3 (row:=AU e) rfl,dM]
 have hn1:=AHO ops ns e;refine BC l3 ?_
 refine BI (fun n F H=>∃j v',n+j=e.args.length∧F 1=.ptr vb 0 0∧F 2=.ptr db 0 0∧F 12=.sl e.m 4 (e.args.map AU)∧F 13=.n e.args.length∧F 14=.n (j:Nat)∧Cn c v h v' H∧NSt h0 c (nmL ops (nmU ops ns e) (GH (e.args.take j))) v' H∧H[vb]?=some (zZ 1 [[.fn (.func 289) [] [.ptr ob 0 0,.ptr c 0 0]]])∧H[db]?=some (zZ 1 [[.fn (.func 248) [] [.ptr vb 0 0,.ptr db 0 0]]])∧H[ob]?=some (zZ 1 [[.sl s0 1 (ops.map qencI)]])) e.args.length
  ⟨0,v1,BA,FI,FI,FI,FI,FI,hch0,S1,hvb1,hdb1,hob1⟩ ?_
 rintro n F H ⟨j,v',hj,f1,f2,f12,f13,f14,hC,SH,hvH,hdH,hoH⟩;refine BB f13 f14 ?_;refine D8 ?_ ?_<;>intro hj'
 .have hmem:e.args[j]∈e.args:=jH hj'
  have hsplit:GH e.args=GH (e.args.take j)++(pre e.args[j]++GH (e.args.drop (j+1))):=by
   rw[<-List.append_assoc,<-QD _ _ hj',<-QW,List.take_append_drop]
  have hln:=Y0 ops (GH (e.args.take j)) (nmU ops ns e);have hls:(GH e.args).length=(GH (e.args.take j)).length+((pre e.args[j]).length+(GH (e.args.drop (j+1))).length):=by simp_all
  simp -implicitDefEqProofs only[vQ,CV,qI,zB,↓reduceIte,jB,enP,RN,Option.getD_none,f12,f14,CQ hj',DR O5 JL EP hj',O3,iB _ _ [.n 0,.n 0,.str ⟨#[]⟩,.sl .nil 0 []] rfl,f2,H7 Sm.ag230 (AL hdH),ldE];have SH1:=SH.app [zZ 4 [AU e.args[j]]];refine(ih e.args[j] hmem (by have:=VR hmem; have:=LX e; omega) _ _ v' SH1 (AL hoH) U (AL hvH) (AL hdH)).mono ?_;rintro r h2 ⟨rfl,v2,hch2,S2⟩;have hch2':Cn c v' H v2 h2:=(Ch.app c v' .nilfn H _).trans hch2;have hvH2:=hch2'.keep hvH hv (SH.ne hvH (.inr (hfn _ _ _)));have hdH2:=hch2'.keep hdH hd (SH.ne hdH (.inr (hfn _ _ _)));have hoH2:=hch2'.keep hoH hoc (SH.ne hoH (.inr (hsl _)));refine MV f1 f2 f12 f13 f14 (DF j) ?_;refine⟨n-1,U,j+1,v2,U,trivial,trivial,trivial,trivial,rfl,hC.trans hch2',?_,hvH2,hdH2,hoH2⟩;rw[QD _ _ hj',AUI]; exact S2
 .refine AO ?_
  rw[List.take_of_length_le U,<-AO9] at SH;exact⟨trivial,v',hC,SH⟩
theorem AD5 (ops:List Int)(hops:ops.length<=1048576)(h0:Hp)(c ob:Nat)(s0:SM)(hoc:ob≠c)(e:Ex)(hw:wt e<=1048576)(h:Hp)(ns:List ByteArray)(v:AV)(S:NSt h0 c ns v h)(hob:h[ob]?=some (zZ 1 [[.sl s0 1 (ops.map qencI)]]))(hn:ns.length<=1048576):
  ACalls (En G) 170 [.agg (AU e),.fn (.func 289) [] [.ptr ob 0 0,.ptr c 0 0]] h fun _ h'=>∃v',Cn c v h v' h'∧NSt h0 c (nmL ops ns (pre e)) v' h':=by
 have hcl:=AC S.cell;have hol:=AC hob;refine acL Tryz.func170 [] ?_;generalize hfv:AV.fn (.func 289) [] [.ptr ob 0 0,.ptr c 0 0]=fv;have hbx:∀H:Hp,MI H fv=some (.ptr H.length 0 0,H++[zZ 1 [[fv]]]):=fun H=>by rw[<-hfv]; rfl
 refine DT @bxE hbx al123 ?_;have g0:(h++[zZ 4 [AU e]]++[zZ 1 [[fv]]]++[zZ 1 [[AV.nilfn]]])[(h++[zZ 4 [AU e]]++[zZ 1 [[fv]]]).length]?=some (zZ 1 [[.nilfn]]):=A7 _ _;simp -implicitDefEqProofs only[vQ,CV,↓reduceIte,jB,enP,TV Sm.sz230 (AYX _ _ _) g0];have S3:=((S.app [zZ 4 [AU e]]).app [zZ 1 [[fv]]]).app [zZ 1 [[AV.nilfn]]];have c3:Cn c v h v (h++[zZ 4 [AU e]]++[zZ 1 [[fv]]]++[zZ 1 [[AV.nilfn]]]):=((Ch.app c v .nilfn h _).trans (Ch.app _ _ _ _ _)).trans (Ch.app _ _ _ _ _);have v3:(h++[zZ 4 [AU e]]++[zZ 1 [[fv]]]++[zZ 1 [[AV.nilfn]]])[(h++[zZ 4 [AU e]]).length]?=some (zZ 1 [[fv]]):=AL (A7 _ _);have e3:(h++[zZ 4 [AU e]]++[zZ 1 [[fv]]]++[zZ 1 [[AV.nilfn]]])[h.length]?=some (zZ 4 [AU e]):=AL (AL (A7 _ _));have o3:(h++[zZ 4 [AU e]]++[zZ 1 [[fv]]]++[zZ 1 [[AV.nilfn]]])[ob]?=some (zZ 1 [[.sl s0 1 (ops.map qencI)]]):=AL (AL (AL hob));have hdl:(h++[zZ 4 [AU e]]++[zZ 1 [[fv]]]).length=h.length+2:=BA;have hvl:(h++[zZ 4 [AU e]]).length=h.length+1:=BA
 generalize (h++[zZ 4 [AU e]]++[zZ 1 [[fv]]]).length=db at g0 hdl|-
 generalize (h++[zZ 4 [AU e]]).length=vb at v3 hvl|-
 generalize h++[zZ 4 [AU e]]++[zZ 1 [[fv]]]++[zZ 1 [[AV.nilfn]]]=H at g0 S3 c3 v3 e3 o3|-
 have hdn:¬isB v db:=S3.ne g0 (.inr fun x q=>by simp at q);generalize hH:H.set db (zZ 1 [[AV.fn (.func 248) [] [.ptr vb 0 0,.ptr db 0 0]]])=H';have gd:H'[db]?=some (zZ 1 [[.fn (.func 248) [] [.ptr vb 0 0,.ptr db 0 0]]]):=by rw[<-hH]; exact CP g0
 have gv:H'[vb]?=some (zZ 1 [[fv]]):=by rw[<-hH]; exact CZ v3 U
 have ge:H'[h.length]?=some (zZ 4 [AU e]):=by rw[<-hH]; exact CZ e3 U
 have go:H'[ob]?=some (zZ 1 [[.sl s0 1 (ops.map qencI)]]):=by rw[<-hH]; exact CZ o3 U
 have hb0:=S.ex.le
 have S4:NSt h0 c ns v H':=by
  rw[<-hH];exact⟨CZ S3.cell U,S3.out.keep fun b hb=>by rw[zN,if_neg (fun q=>hdn (by rw[q]; exact hb))],S3.base,S3.ex.set U _⟩
 have c4:Cn c v h v H':=by
  rw[<-hH];exact⟨by have:=c3.len; simpa using this,fun b hb hbc hbv hbu=>by rw[zN,if_neg U]; exact c3.get b hb hbc hbv hbu,fun _ q=>.inl q,fun _ q=>.inl q⟩
 simp -implicitDefEqProofs only[vQ,CV,qI,zB,↓reduceIte,jB,enP,H7 Sm.ag230 gd,JI ge];rw[<-hfv] at gv;have hp:=aM e;refine(AFU G ops hops h0 c ob vb db s0 U U hoc e U H' ns v S4 go U gv gd).mono ?_;rintro r h' ⟨rfl,v',hch,S5⟩;refine BC @mW ?_;exact⟨v',c4.trans hch,S5⟩
theorem A5E (h:Hp):GM jA h 121=some (.ptr h.length 0 0,h++[zZ 1 [[.sl .nil 0 []]]]):=FV (row:=[.sl .nil 0 []]) A8
theorem lN (ops:List Int)(hops:ops.length<=1048576)(s0:SM)(e:Ex)(hw:wt e<=1048576)(h:Hp):PCall (En G) 235 [.agg (AU e),.sl s0 1 (ops.map qencI)] h (.sl (nm (nmL ops [] (pre e))) 1 ((nmL ops [] (pre e)).map qencStr)):=by
 refine LY A0I ?_;refine acT Tryz.func235 4 ?_;have ge:=AL (x:=zZ 1 [[.sl .nil 0 []]]) (AL (x:=zZ 1 [[AV.sl s0 1 (ops.map qencI)]]) (A7 h (zZ 4 [AU e])));have go:=AL (x:=zZ 1 [[.sl .nil 0 []]]) (A7 (h++[zZ 4 [AU e]]) (zZ 1 [[AV.sl s0 1 (ops.map qencI)]]));have gc:=A7 (h++[zZ 4 [AU e]]++[zZ 1 [[AV.sl s0 1 (ops.map qencI)]]]) (zZ 1 [[.sl .nil 0 []]]);have hx:ext h (h++[zZ 4 [AU e]]++[zZ 1 [[AV.sl s0 1 (ops.map qencI)]]]++[zZ 1 [[.sl .nil 0 []]]]):=(((ext.rfl' h).app _).app _).app _;have hol:(h++[zZ 4 [AU e]]).length=h.length+1:=BA;have hcl:(h++[zZ 4 [AU e]]++[zZ 1 [[AV.sl s0 1 (ops.map qencI)]]]).length=h.length+2:=BA;refine DT @xC @bxE A5E ?_
 generalize h++[zZ 4 [AU e]]++[zZ 1 [[AV.sl s0 1 (ops.map qencI)]]]++[zZ 1 [[.sl .nil 0 []]]]=H at ge go gc hx|-
 generalize (h++[zZ 4 [AU e]]++[zZ 1 [[AV.sl s0 1 (ops.map qencI)]]]).length=c at gc hcl|-
 generalize (h++[zZ 4 [AU e]]).length=ob at go hol|-
 refine BC (JI ge) ?_;have S:NSt h c [] (.sl .nil 0 []) H:=⟨gc,outG.nil _ _ _ _,U,hx⟩;refine(AD5 G ops hops h c ob s0 U e hw H [] _ S go BA).mono ?_;rintro r h' ⟨v',hch,S5⟩;refine BC (H7 eA S5.cell) ?_;exact⟨S5.ex,S5.out⟩
theorem A4O (h:Hp)(a b:Int):C9 jA false h 32 2 [(0,.n a),(1,.n b)]=some (.sl .full 1 [[.n a],[.n b]],h):=A8
theorem bQ (e:Ex)(hw:wt e<=1048576)(h:Hp):PCall (En G) 156 [.agg (AU e)] h (.sl (nm (nmL [2] [] (pre e))) 1 ((nmL [2] [] (pre e)).map qencStr)):=by
 refine ACalls.pure0 rfl ?_;refine acT Tryz.func156 2 ?_;refine DT @bxE @ldE AMM ?_;refine(lN G [2] D5 .full e hw _).uu ?_;exact⟨trivial,_,rfl⟩
theorem YR (e:Ex)(hw:wt e<=1048576)(h:Hp):PCall (En G) 154 [.agg (AU e)] h (.sl (nm (nmL [3,24] [] (pre e))) 1 ((nmL [3,24] [] (pre e)).map qencStr)):=by
 refine ACalls.pure0 rfl ?_;refine acT Tryz.func154 2 ?_;refine DT @bxE @ldE @A4O ?_;refine(lN G [3,24] D5 .full e hw _).uu ?_;exact⟨trivial,_,rfl⟩
end Go.Proofs.YtiihpnicbekebaaGreatDoor.Xe
namespace Go.Proofs.YtiihpnicbekebaaGreatDoor.Xe
open Sm Bins Cov Wd Go.RowKit
def xY (l:List Sg)(op n:Int)(name:ByteArray)(vs:List Nat):Nat :=
 if op=1 then n.toNat%65536 else if op=2 then (OM l name).1 else if op=3 then (atG l name (vs.getD 0 0:Nat)).1 else if op=24 then sumTo l name 8 else opW op vs
mutual
def ZH (l:List Sg):Ex->Nat
 | .mk op n name _ args=>xY l op n name (OE l args)
def OE (l:List Sg):List Ex->List Nat
 | []=>[]
 | e::es=>ZH l e::OE l es
end
theorem AG1 (l:List Sg)(e:Ex):ZH l e=xY l e.op e.n e.name (OE l e.args):=by cases e; simp [ZH,Ex.op,Ex.n,Ex.name,Ex.args]
theorem SG (l:List Sg):∀xs:List Ex,OE l xs=xs.map (ZH l)
 | []=>by simp [OE]
 | e::es=>by simp [OE,SG l es]
theorem pY (l:List Sg)(xs:List Ex):(OE l xs).length=xs.length:=by rw[SG,List.length_map]
theorem AD6 (l:List Sg)(xs:List Ex)(j:Nat)(hj:j<xs.length):OE l (xs.take (j+1))=OE l (xs.take j)++[ZH l xs[j]]:=by
 rw[SG,SG,List.take_succ_eq_append_getElem hj,List.map_append]; rfl
theorem ATJ (l:List Sg)(e:Ex):ZH l e<65536:=by
 induction e using Ex.induct with|h e ih=>?_
 rw[AG1]
 have hv:∀x∈OE l e.args,x<65536:=by
  intro x hx;rw[SG] at hx;obtain⟨a,ha,rfl⟩:=zQ.1 hx;exact ih a ha
 unfold xY;split
 .exact Nat.mod_lt _ U
 split
 .exact mP _ _
 split
 .exact ASI _ _ _
 split
 .exact yG _ _ _
 .exact AZX _ hv
theorem ANN (l:List Sg)(xs:List Ex):∀x∈OE l xs,x<65536:=by
 intro x hx;rw[SG] at hx;obtain⟨a,_,rfl⟩:=zQ.1 hx;exact ATJ l a
def knE (l:List Sg)(e:Ex):Bool:=if e.op=2 then (OM l e.name).2 else if e.op=3∨e.op=24 then (atG l e.name 0).2 else true
theorem node_ops {e:Ex}(h:IA e=0):(e.op=1->0<=e.n∧e.n<=65535)∧(e.op=3->e.args.length=1)∧(e.op≠1->e.op≠2->e.op≠3->e.op≠24->AS0 e.op e.args.length):=by
 unfold IA at h;have hO:badO e=false:=by grind
 have hN:bE e=false:=by grind
 have hS:VG e=false:=by grind
 have hops:V6 e.op e.args.length=true:=by
  unfold VG at hS;rw[Bool.or_eq_false_iff] at hS;simpa using hS.2
 have h1:1<=e.op∧e.op<=25:=by unfold badO at hO; simp at hO; omega
 refine⟨fun h1=>?_,fun h3=>?_,fun n1 n2 n3 n24=>⟨fun h22=>?_,fun h23=>?_,fun n22 n23=>?_⟩⟩
 .unfold bE at hN; simp [h1] at hN; omega
 .unfold V6 at hops; rw[h3] at hops; simp [arity] at hops; omega
 .unfold V6 at hops; rw[h22] at hops; simp [arity] at hops; omega
 .unfold V6 at hops; rw[h23] at hops; simp at hops; omega
 .unfold V6 at hops
  rw[if_neg (BN n23)] at hops
  have h5:arity e.op=1∨arity e.op=2:=by
   by_cases hq:e.op=3∨e.op=4∨e.op=5∨e.op=6∨e.op=25
   .left; unfold arity; rw[if_neg U,if_neg U,if_pos hq]
   .right; unfold arity; rw[if_neg U,if_neg U,if_neg hq,if_neg n22,if_neg n23]
  have h6:((e.args.length:Nat):Int)=arity e.op:=BN hops;omega
theorem str_eq {a b:ByteArray}(h:(a.toList==b.toList)=true):a=b:=by
 rw[ByteArray.toList_eq,ByteArray.toList_eq] at h;exact ByteArray.ext (Array.toList_inj.1 (beq_iff_eq.1 h))
theorem AUH (P:ByteArray->Bool)(ops:List Int)(ns:List ByteArray)(e:Ex):(nmU ops ns e).all P=(ns.all P&&(!Rk.hasB ops e.op||P e.name)):=by
 unfold nmU;cases hb:Rk.hasB ops e.op
 .simp
 cases hs:IR ns e.name
 .simp
 .simp
  intro ha;unfold IR at hs;rw[List.any_eq_true] at hs;obtain⟨u,hu,he⟩:=hs;rw[str_eq he]; exact ha u hu
theorem cO (P:ByteArray->Bool)(ops:List Int):∀(xs:List Ex) (ns:List ByteArray),(nmL ops ns xs).all P=(ns.all P&&xs.all fun e => !Rk.hasB ops e.op||P e.name)
 | [],ns=>by simp [nmL]
 | e::xs,ns=>by
   have:=cO P ops xs (nmU ops ns e)
   simp only[nmL,List.foldl_cons,List.all_cons] at this|-
   rw[this,AUH,Bool.and_assoc]
theorem ALE (l:List Sg)(xs:List Ex):((nmL [2] [] xs).all (fun n=>(OM l n).2)&&(nmL [3,24] [] xs).all fun n=>(atG l n 0).2)=xs.all (knE l):=by
 rw[cO,cO,Bool.eq_iff_iff];simp only[List.all_nil,qR,Bool.and_eq_true,List.all_eq_true];constructor
 .rintro⟨h1,h2⟩ x hx
  have a:=h1 x hx;have b:=h2 x hx;unfold knE;unfold Rk.hasB at a b;by_cases e2:x.op=2
  .rw[if_pos e2]; simpa [e2] using a
  by_cases e3:x.op=3∨x.op=24
  .grind
  .rw[if_neg e2,if_neg e3]
 .intro h
  refine⟨fun x hx=>?_,fun x hx=>?_⟩
  .have a:=h x hx
   unfold knE at a;unfold Rk.hasB;by_cases e2:x.op=2
   .rw[if_pos e2] at a; simp [e2,a]
   .grind
  .have a:=h x hx
   unfold knE at a;unfold Rk.hasB;by_cases e3:x.op=3∨x.op=24
   .grind
   .grind
theorem ADN {α:Type}(P:α->Bool)(xs:List α)(k:Nat)(hk:k<xs.length):(xs.drop k).all P=(P xs[k]&&(xs.drop (k+1)).all P):=by
 rw[List.drop_eq_getElem_cons hk]; rfl
theorem AHP (ops:List Int):∀(xs:List Ex) (ns:List ByteArray) (n:ByteArray),n∈nmL ops ns xs->n∈ns∨∃x∈xs,n=x.name
 | [],ns,n,h=>.inl h
 | e::xs,ns,n,h=>by
   rcases AHP ops xs (nmU ops ns e) n h with h1|⟨x,hx,hn⟩
   .unfold nmU at h1
    split at h1
    .grind
    .exact .inl h1
   .grind
section
variable (G:Nat->AV)
theorem known_prog (l:List Sg)(m:SM)(e:Ex)(h:Hp)(hl:l.length<=1099511627776)(hw:wt e<=1048576):PCall (En G) 225 [.agg [.sl m 2 (l.map GU)],.agg (AU e)] h (.bool ((pre e).all (knE l))):=by
 refine ACalls.pure0 rfl ?_;rw[<-ALE];have hpl:=aM e;have hn1:=Y0 [2] (pre e) [];have hn2:=Y0 [3,24] (pre e) []
 have hm2:∀n∈nmL [3,24] [] (pre e),n.size<=1048576:=fun n hn=>by
  rcases AHP _ _ _ n hn with h1|⟨x,hx,rfl⟩
  .cases h1
  .have:=AAK hx; omega
 have hN:=bQ G e hw;have hA:=YR G e hw;simp only[List.length_nil,Nat.zero_add] at hn1 hn2
 generalize nmL [2] [] (pre e)=ns at hn1 hN|-
 generalize nmL [3,24] [] (pre e)=ars at hn2 hA hm2|-
 refine acT Tryz.func225 4 ?_;have gs:=AL (x:=zZ 4 [AU e]) (A7 h (zZ 1 [[.sl m 2 (l.map GU)]]));have ge:=A7 (h++[zZ 1 [[.sl m 2 (l.map GU)]]]) (zZ 4 [AU e]);have hx:ext h (h++[zZ 1 [[.sl m 2 (l.map GU)]]]++[zZ 4 [AU e]]):=((ext.rfl' h).app _).app _;refine BB (AC6 h (.sl m 2 (l.map GU)) rfl) @bxE ?_
 generalize h++[zZ 1 [[.sl m 2 (l.map GU)]]]++[zZ 4 [AU e]]=H at gs ge hx|-
 generalize (h++[zZ 1 [[.sl m 2 (l.map GU)]]]).length=eb at ge|-
 refine BC (JI ge) ?_;refine(hN H).uu ?_;refine ET 0 (fun F H'=>F 2=.ptr h.length 0 0∧F 3=.ptr eb 0 0∧H'=H∧ns.all (fun n=>(OM l n).2)=true) (fun F H'=>F 4=.bool false∧H'=H∧ns.all (fun n=>(OM l n).2)=false) ?_ ?_ ?_
 .refine BI (fun k F H'=>∃j,k+j=ns.length∧F 2=.ptr h.length 0 0∧F 3=.ptr eb 0 0∧F 14=.sl (nm ns) 1 (ns.map qencStr)∧F 15=.n (ns.length:Nat)∧F 16=.n (j:Nat)∧H'=H∧ns.all (fun n=>(OM l n).2)=(ns.drop j).all fun n=>(OM l n).2) ns.length ⟨0,BA,AQ,AQ,AQ,AQ,AQ,rfl,rfl⟩ ?_
  rintro k F H' ⟨j,hj,f2,f3,f14,f15,f16,rfl,hall⟩;refine BB f15 f16 ?_;refine D8 ?_ ?_<;>intro hj'
  .rw[ADN _ ns j hj'] at hall
   simp -implicitDefEqProofs only[vQ,CV,↓reduceIte,jB,enP,ZY,f2,f14,f16,CQ hj',CG ag9 hj',encStr0,ZX gs];refine(eX G l m _ H' hl).use ?_;unfold ZU;refine AO ?_;cases hk:(OM l ns[j]).2
   .refine AO ?_
    exact⟨trivial,trivial,by rw[hall,hk]; rfl⟩
   .refine MV f2 f3 f14 f15 f16 (DF j) ?_
    exact⟨k-1,U,j+1,U,AZ,AZ,AZ,AZ,AZ,trivial,by rw[hall,hk]; rfl⟩
  .refine AO ?_
   exact⟨f2,f3,trivial,by rw[hall,jX U]; rfl⟩
 .rintro F H' ⟨f2,f3,rfl,hall⟩
  rw[hall,qR];refine BB f3 (JI ge) ?_;refine(hA H').uu ?_;refine BI (fun k F' H2=>∃j,k+j=ars.length∧F' 2=.ptr h.length 0 0∧F' 30=.sl (nm ars) 1 (ars.map qencStr)∧F' 31=.n (ars.length:Nat)∧F' 32=.n (j:Nat)∧H2=H'∧ars.all (fun n=>(atG l n 0).2)=(ars.drop j).all fun n=>(atG l n 0).2) ars.length ⟨0,BA,EM f2,AQ,AQ,AQ,rfl,rfl⟩ ?_;rintro k F' H2 ⟨j,hj,g2,g30,g31,g32,rfl,hall2⟩;refine BB g31 g32 ?_;refine D8 ?_ ?_<;>intro hj'
  .rw[ADN _ ars j hj'] at hall2
   simp -implicitDefEqProofs only[vQ,CV,↓reduceIte,jB,enP,ZY,g2,g30,g32,CQ hj',CG ag9 hj',encStr0,ZX gs];refine(xE G l m _ 0 H2 hl (hm2 _ (jH hj'))).use ?_;unfold ZU;refine AO ?_;cases hk:(atG l ars[j] 0).2
   .refine AO ?_
    exact⟨by rw[hall2,hk]; rfl,hx⟩
   .refine I7 g2 g30 g31 g32 (DF j) ?_
    exact⟨k-1,U,j+1,U,AZ,AZ,AZ,AZ,trivial,by rw[hall2,hk]; rfl⟩
  .refine AO ?_
   exact⟨by rw[hall2,jX U]; rfl,hx⟩
 .rintro F H' ⟨f4,rfl,hall⟩
  refine BC f4 ?_;exact⟨by rw[hall]; rfl,hx⟩
theorem xX (l:List Sg)(m:SM)(hl:l.length<=1099511627776)(e:Ex):wt e<=1048576->(∀x∈pre e,IA x=0)->∀h:Hp,PCall (En G) 226 [.agg [.sl m 2 (l.map GU)],.agg (AU e)] h (.n (ZH l e:Nat)):=by
 induction e using Ex.induct with|h e ih=>?_
 intro hw hval h;have hal:e.args.length<=1048576:=by have:=TR e.args; have:=LX e; omega
 have hnz:e.name.size<=1048576:=by have:=LX e; omega
 obtain⟨o1,o3,oo⟩:=node_ops (hval e (by rw[pre_eq]; simp));refine ACalls.pure0 rfl ?_;refine acT Tryz.func226 4 ?_;have gs:=AL (x:=zZ 4 [AU e]) (A7 h (zZ 1 [[.sl m 2 (l.map GU)]]));have ge:=A7 (h++[zZ 1 [[.sl m 2 (l.map GU)]]]) (zZ 4 [AU e]);have hx:ext h (h++[zZ 1 [[.sl m 2 (l.map GU)]]]++[zZ 4 [AU e]]):=((ext.rfl' h).app _).app _;refine BB (AC6 h (.sl m 2 (l.map GU)) rfl) @bxE ?_
 generalize h++[zZ 1 [[.sl m 2 (l.map GU)]]]++[zZ 4 [AU e]]=H1 at gs ge hx|-
 generalize (h++[zZ 1 [[.sl m 2 (l.map GU)]]]).length=eb at ge|-
 have l3:BU jA H1 23 (.ptr eb 0 3)=some (.sl e.m 4 (e.args.map AU)):=by rw[BL MO ge (row:=AU e) rfl,dM]
 refine BC l3 ?_;refine ET 0 (fun F H=>∃v,F 2=.ptr h.length 0 0∧F 3=.ptr eb 0 0∧F 5=v∧ext H1 H∧outG 1 PY H1 (OE l e.args) v H) (fun _ _=>False) ?_ ?_ (fun _ _ hh=>hh.elim)
 .refine BI (fun k F H=>∃j v,k+j=e.args.length∧F 2=.ptr h.length 0 0∧F 3=.ptr eb 0 0∧F 5=v∧F 13=.sl e.m 4 (e.args.map AU)∧F 14=.n (e.args.length:Nat)∧F 15=.n (j:Nat)∧ext H1 H∧outG 1 PY H1 (OE l (e.args.take j)) v H) e.args.length
   ⟨0,.sl .nil 0 [],BA,AQ,AQ,AQ,AQ,AQ,AQ,ext.rfl' H1,outG.nil _ _ _ _⟩ ?_
  rintro k F H ⟨j,v,hj,f2,f3,f5,f13,f14,f15,hxH,ho⟩;refine BB f14 f15 ?_;refine D8 ?_ ?_<;>intro hj'
  .have hmem:e.args[j]∈e.args:=jH hj'
   have ho1:=ho.app [zZ 4 [AU e.args[j]]];have hx1:=hxH.app [zZ 4 [AU e.args[j]]];have htl:(OE l (e.args.take j)).length<8388608:=by rw[pY]; simp; omega
   obtain⟨v',H',ha,ho',_,hx',_,_⟩:=ho1.append (P:=jA) tR sz3 AM3 AF8 U htl hx1 (ZH l e.args[j]);have ha':EG jA true (H++[zZ 4 [AU e.args[j]]]) 32 32 v (.sl .full 1 [[.n ((ZH l e.args[j]:Nat):Int)]])=some (v',H'):=ha;simp -implicitDefEqProofs only[vQ,CV,↓reduceIte,jB,enP,RN,Option.getD_none,f13,f15,CQ hj',DR O5 JL EP hj',O3,iB _ _ [.n 0,.n 0,.str ⟨#[]⟩,.sl .nil 0 []] rfl,f2,f5,ZX (ED hx1 gs),ldE];refine(ih e.args[j] hmem (by have:=VR hmem; have:=LX e; omega) (fun x hx=>hval x (by rw[pre_eq]; exact List.mem_cons_of_mem _ (YY hmem x hx))) _).use ?_;refine aB f5 AMM ha' f2 f3 f13 f14 f15 (DF j) ?_;exact⟨k-1,U,j+1,v',U,AZ,AZ,AZ,AZ,AZ,AZ,hx',by rw[AD6 _ _ _ hj']; exact ho'⟩
  .rw[List.take_of_length_le U] at ho
   refine AO ?_;exact⟨v,f2,f3,f5,hxH,ho⟩
 .rintro F H ⟨v,f2,f3,f5,hxH,ho⟩
  have gsH:=ED hxH gs;have geH:=ED hxH ge;have hxx:=hx.trans hxH;have l0:BU jA H 3 (.ptr eb 0 0)=some (.n e.op):=by rw[BL ag3 geH (row:=AU e) rfl,KL]
  have l1:BU jA H 3 (.ptr eb 0 1)=some (.n e.n):=by rw[BL ag3 geH (row:=AU e) rfl,dN]
  have l2:BU jA H 9 (.ptr eb 0 2)=some (.str e.name):=by rw[BL ag9 geH (row:=AU e) rfl,RV]
  have hvl:=pY l e.args;rw[AG1];refine BB f3 l0 ?_;by_cases e1:e.op=1
  .have c1:(e.op==1)=true:=BN e1
   refine DT c1 f3 l1 ?_;have:=o1 e1;exact⟨by unfold xY; rw[if_pos e1]; congr 1; omega,hxx⟩
  have c1:(e.op==1)=false:=BN e1;by_cases e2:e.op=2
  .have c2:(e.op==2)=true:=BN e2
   refine MV c1 c2 f2 f3 l2 (ZX gsH) ?_;refine(eX G l m _ H hl).use ?_;unfold ZU;refine AO ?_;exact⟨by unfold xY; rw[if_neg e1,if_pos e2],hxx⟩
  have c2:(e.op==2)=false:=BN e2;by_cases e3:e.op=3
  .have c3:(e.op==3)=true:=BN e3
   have hl1:=o3 e3
   obtain⟨o,rfl,hob⟩:∃o,v=.own o 0 1∧H[o]?=some (zZ 1 ((OE l e.args).map PY)):=by
    rcases ho with⟨h0,_⟩|⟨_,o,_,rfl,hb⟩
    .rw[h0] at hvl; simp at hvl; omega
    .exact⟨o,by rw[hvl,hl1],hb⟩
   have hlen:0<(OE l e.args).length:=U;have i0:JJ 1 H (.own o 0 1) (.n 0)=some (.ptr o 0 0):=H8 (n:=0) hob D5
   have d0:BU jA H 3 (.ptr o 0 0)=some (.n ((OE l e.args).getD 0 0:Nat)):=by
    rw[BL ag3 hob (row:=PY (OE l e.args)[0]) (row_map hlen),List.getD_eq_getElem?_getD,List.getElem?_eq_getElem hlen]; rfl
   refine DT c1 c2 c3 ?_;refine DV A8 ?_;refine P7 f2 f3 f5 l2 (ZX gsH) i0 d0 ?_;refine⟨_,xE G l m _ _ H hl hnz,?_⟩;unfold ZU;refine AO ?_;exact⟨by unfold xY; rw[if_neg e1,if_neg e2,if_pos e3],hxx⟩
  have c3:(e.op==3)=false:=BN e3;by_cases e24:e.op=24
  .have c24:(e.op==24)=true:=BN e24
   refine PG c1 c2 c3 c24 f2 f3 l2 (ZX gsH) ?_;refine(AN3 G l m _ H hl hnz).uu ?_;exact⟨by unfold xY; rw[if_neg e1,if_neg e2,if_neg e3,if_pos e24],hxx⟩
  have c24:(e.op==24)=false:=BN e24;have hok:=oo e1 e2 e3 e24;have hok':AS0 e.op (OE l e.args).length:=by rw[hvl]; exact hok
  obtain⟨o,rfl,hob⟩:∃o,v=.own o 0 (OE l e.args).length∧H[o]?=some (zZ 1 ((OE l e.args).map PY)):=by
   rcases ho with⟨h0,_⟩|⟨_,o,_,rfl,hb⟩
   .exfalso
    rw[h0] at hok';obtain⟨a,b,c⟩:=hok';by_cases q:e.op=22
    .have:=a q; simp at this
    by_cases q':e.op=23
    .have:=b q'; simp at this
    .have:=c q q'; simp at this
   .exact⟨o,rfl,hb⟩
  refine P7 c1 c2 c3 c24 f3 l0 f5 ?_;refine(AKY G e.op _ o H hob (ANN l _) U hok').uu ?_;exact⟨by unfold xY; rw[if_neg e1,if_neg e2,if_neg e3,if_neg e24],hxx⟩
end
theorem AQZ {xs:List Ex}(h:errs xs=0):∀x∈xs,IA x=0:=by
 induction xs with
 | nil=>intro x hx; cases hx
 | cons y ys ih =>
   have h1:ys.foldl (fun z e=>if z=0 then IA e else z) (IA y)=0:=h
   have hy:IA y=0:=by
    rcases Classical.em (IA y=0) with q|q
    .exact q
    .rw[vV _ _ q] at h1; exact h1
   rw[hy] at h1;intro x hx;rcases zM.1 hx with rfl|hx
   .exact hy
   .exact ih h1 x hx
theorem fA {e:Ex}(h:exE e=0):∀x∈pre e,IA x=0:=by
 unfold exE at h;split at h
 .cases h
 .exact AQZ h
def evE (l:List Sg)(e:Ex):Nat×Int:=if exE e≠0 then (0,1) else if(pre e).all (knE l)=true then (ZH l e,0) else (0,7)
def evV (p:Nat×Int):AV:=.tup [.n (p.1:Nat),.n p.2]
theorem A0S (p:Nat×Int)(n:Nat)(H:Hp):FN n H 2 (evV p)=evV p:=rfl
theorem A5B (h:Hp):GM jA h 277=some (.ptr h.length 0 0,h++[zZ 1 [[.sl .nil 0 []]]]):=FV (row:=[.sl .nil 0 []]) A8
theorem A42 (s:SM)(k:Nat)(xs:List (List AV)):G7 jA 277 [(0,.sl s k xs)]=some (.agg [.sl s k xs]):=A8
theorem A2B (h:Hp)(s:SM)(k:Nat)(xs:List (List AV)):DW jA (h++[zZ 1 [[.sl .nil 0 []]]]) 277 (.ptr h.length 0 0) (.agg [.sl s k xs])=some (h++[zZ 1 [[.sl s k xs]]]):=by
 rw[I9 (cs:=[.sl s k xs]) (row:=[.sl .nil 0 []]) rfl AXQ (A7 _ _) (by exact Nat.le_refl 1),KC];rfl
section
variable (G:Nat->AV)
theorem tL (hG:GOk G)(l:List Sg)(m:SM)(e:Ex)(h:Hp)(hl:l.length<=1099511627776)(hw:wt e<=1048576):PCall (En G) 143 [.agg (AU e),.sl m 2 (l.map GU)] h (evV (evE l e)):=by
 refine XJ 2 (A0S _) ?_;refine acL Tryz.func143 [.tmp 4,.tmp 5] ?_;have ge:=AL (x:=zZ 1 [[.sl m 2 (l.map GU)]]) (A7 h (zZ 4 [AU e]));have gs:=A7 (h++[zZ 4 [AU e]]) (zZ 1 [[.sl m 2 (l.map GU)]]);have hx:ext h (h++[zZ 4 [AU e]]++[zZ 1 [[.sl m 2 (l.map GU)]]]):=((ext.rfl' h).app _).app _;refine E8 @bxE A42 A5B A2B ?_
 generalize h++[zZ 4 [AU e]]++[zZ 1 [[.sl m 2 (l.map GU)]]]=H at ge gs hx|-
 generalize (h++[zZ 4 [AU e]]).length=sb at gs|-
 refine BC (JI ge) ?_;refine(N8 G hG e H hw).uu ?_;cases hv:(exE e==0)
 .have hne:exE e≠0:=BN hv
  simp -implicitDefEqProofs only[vQ,MZ,sV,vX,NS,CV,↓reduceIte,jB,bne,hv];exact⟨by unfold evE; rw[if_pos hne]; rfl,hx⟩
 have h0:exE e=0:=BN hv;simp -implicitDefEqProofs only[vQ,CV,↓reduceIte,jB,Bool.not_true,enP,bne,hv,JI ge,ZX gs];refine(known_prog G l m e H hl hw).uu ?_;cases hk:(pre e).all (knE l)
 .refine AO ?_
  exact⟨by unfold evE; rw[if_neg (BN h0),if_neg (by rw[hk]; decide)]; rfl,hx⟩
 refine BB (JI ge) (ZX gs) ?_;refine(xX G l m hl e hw (fA h0) H).uu ?_;exact⟨by unfold evE; rw[if_neg (BN h0),if_pos hk]; rfl,hx⟩
theorem lG:∀xs:List Ex,xs.length<=(GH xs).length
 | []=>by simp [GH]
 | x::xs=>by
   have:=lG xs;simp only[GH,zA,List.length_cons,pre_eq x]; omega
theorem XL {a:Ex}:∀ {xs:List Ex},a∈xs->(pre a).length<=(GH xs).length
 | x::xs,h=>by
   simp only[GH,zA];rcases zM.1 h with rfl|h
   .omega
   .have:=XL h; omega
end
end Go.Proofs.YtiihpnicbekebaaGreatDoor.Xe
namespace Go.Proofs.YtiihpnicbekebaaGreatDoor.Bd
open Sm Bins Cov Xe Go.RowKit
variable {h:Hp} {i j k n:Nat} {a s:ByteArray} {x:Int} (G:Nat->AV )
structure Vr where
 name:ByteArray
 width:Int
 mode:Int
 value:Int
def encV (v:Vr):List AV:=[.str v.name,.n v.width,.n v.mode,.n v.value]
theorem encV_len (v:Vr):(encV v).length=4:=rfl
theorem encV0 (v:Vr):(encV v)[0]?=some (.str v.name):=rfl
structure Wg where
 lo:Int
 hi:Int
 w:Int
 each:Bool
def MC (x:Wg):List AV:=[.n x.lo,.n x.hi,.n x.w,.bool x.each]
theorem AL2 (x:Wg):(MC x).length=4:=rfl
structure Ds where
 var:Int
 wm:SM
 ws:List Wg
def J9 (d:Ds):List AV:=[.n d.var,.sl d.wm 4 (d.ws.map MC)]
theorem TD (d:Ds):(J9 d).length=2:=rfl
structure Gp where
 m:SM
 l:List Int
def mZ (g:Gp):List AV:=[.sl g.m 1 (g.l.map qencI)]
structure Pr where
 vm:SM
 vars:List Vr
 hm:SM
 hard:List Ex
 sm:SM
 soft:List Ex
 dm:SM
 dists:List Ds
 gm:SM
 groups:List Gp
def DL (p:Pr):List AV:=[.sl p.vm 4 (p.vars.map encV),.sl p.hm 4 (p.hard.map AU),.sl p.sm 4 (p.soft.map AU),.sl p.dm 2 (p.dists.map J9),.sl p.gm 1 (p.groups.map mZ)]
theorem N9 (p:Pr):(DL p).length=5:=rfl
theorem bxV (h:Hp)(v:Vr):MI h (.agg (encV v))=some (.ptr h.length 0 0,h++[zZ 4 [encV v]]):=rfl
theorem A4I (h:Hp)(v:Wg):MI h (.agg (MC v))=some (.ptr h.length 0 0,h++[zZ 4 [MC v]]):=rfl
theorem bxD (h:Hp)(v:Ds):MI h (.agg (J9 v))=some (.ptr h.length 0 0,h++[zZ 2 [J9 v]]):=rfl
theorem YH (h:Hp)(p:Pr):MI h (.agg (DL p))=some (.ptr h.length 0 0,h++[zZ 5 [DL p]]):=rfl
def NZ {α:Type}(p:α->Bool):List α->Int
 | [] => -1
 | x::r=>if p x=true then 0 else if NZ p r<0 then -1 else NZ p r+1
theorem TA {α:Type}(p:α->Bool):∀(xs:List α) (k:Nat) (hk:k<xs.length),(∀(j:Nat) (hj:j<k),p (xs[j]'U)=false)->p xs[k]=true->NZ p xs=k
 | x::r,0,_,_,h=>by
   have h:p x=true:=h;simp [NZ,h]
 | x::r,k+1,hk,hb,h=>by
   have h0:p x=false:=hb 0 U;have ih:=TA p r k (BN hk) (fun j hj=>hb (j+1) U) h;simp only[NZ,h0,ih,Bool.false_eq_true,if_false];rw[if_neg U]; omega
theorem SL {α:Type}(p:α->Bool):∀(xs:List α),(∀(j:Nat) (hj:j<xs.length),p xs[j]=false)->NZ p xs = -1
 | [],_=>rfl
 | x::r,hb=>by
   have h0:p x=false:=hb 0 BA;have ih:=SL p r (fun j hj=>hb (j+1) (BN hj));simp [NZ,h0,ih]
theorem QZ {α:Type}(p:α->Bool):∀xs:List α,decide (NZ p xs≥0)=xs.any p
 | []=>rfl
 | x::r=>by
   have ih:=QZ p r;rw[List.any_cons,<-ih];rcases Bool.eq_false_or_eq_true (p x) with hx|hx
   .have h1:NZ p (x::r)=0:=by simp [NZ,hx]
    rw[h1,hx]; rfl
   .have h1:NZ p (x::r)=if NZ p r<0 then -1 else NZ p r+1:=by simp [NZ,hx]
    rw[h1,hx,Bool.false_or];by_cases h:NZ p r<0
    .rw[if_pos h,decide_eq_false U,decide_eq_false U]
    .rw[if_neg h,decide_eq_true U,decide_eq_true U]
theorem XZ {α:Type}(p:α->Bool):∀(xs:List α),0<=NZ p xs->∃k,∃hk:k<xs.length,NZ p xs=(k:Nat)∧p xs[k]=true∧∀(j:Nat) (hj:j<k),p (xs[j]'U)=false
 | [],h=>by simp [NZ] at h
 | x::r,h=>by
   cases hx:p x with
   | true=>exact⟨0,BA,by simp [NZ,hx],hx,fun j hj=>absurd hj U⟩
   | false =>
     have h1:NZ p (x::r)=if NZ p r<0 then -1 else NZ p r+1:=by simp [NZ,hx]
     rw[h1] at h|-
     split at h
     .omega
     .rename_i hn
      rw[if_neg hn];obtain⟨k,hk,e1,e2,e3⟩:=XZ p r U;refine⟨k+1,BN hk,U,e2,fun j hj=>?_⟩
      cases j with
      | zero=>exact hx
      | succ j=>exact e3 j U
theorem eT {α:Type}(p:α->Bool)(xs:List α)(h:NZ p xs<0):∀x∈xs,p x=false:=by
 intro x hx;have:=QZ p xs;rw[decide_eq_false U] at this;have:=List.any_eq_false.1 this.symm x hx;simpa using this
theorem sF (xs:List Vr)(m:SM)(fid:FuncId)(caps:List AV)(p:Vr->Bool)(h:Hp)(hn:xs.length<=1099511627776)(hf:∀x∈xs,PCall (En G) fid ([.agg (encV x)]++caps) h (.bool (p x))):
  PCall (En G) 101 [.sl m 4 (xs.map encV),.fn (.func fid) [] caps] h (.n (NZ p xs)):=by
 refine acT Tryz.func101 4 ?_;refine AO ?_;refine BI (fun n F H=>∃k,n+k=xs.length∧(∀(j:Nat) (hj:j<k) (hl:j<xs.length),p xs[j]=false)∧F 0=.sl m 4 (xs.map encV)∧F 1=.fn (.func fid) [] caps∧F 7=.n (xs.length:Nat)∧F 8=.n (k:Nat)∧H=h) xs.length ⟨0,BA,fun j hj=>absurd hj U,AQ,AQ,AQ,AQ,rfl⟩ ?_;rintro n F H ⟨k,hk,hb,f0,f1,f7,f8,rfl⟩;refine BB f7 f8 ?_;refine CE ?_ ?_<;>intro hc
 .have hk':k<xs.length:=BN hc
  simp -implicitDefEqProofs only[vQ,CV,qI,zB,↓reduceIte,jB,enP,pC,f0,f1,f8,CQ hk',DR AYU AG6 encV_len hk'];refine(hf _ (jH hk')).uu ?_;refine CE ?_ ?_<;>intro hp
  .refine BC f8 ?_
   exact⟨by rw[TA p xs k hk' (fun j hj=>hb j hj U) hp],trivial⟩
  .refine BB f8 (DF k) ?_
   refine⟨n-1,U,k+1,U,fun j hj hl=>?_,AZ,AZ,AZ,rfl,trivial⟩;rcases zF j k with h1|h1
   .exact hb j h1 hl
   .obtain rfl:j=k:=U
    exact hp
 .refine AO ?_
  have hk':¬k<xs.length:=BN hc;exact⟨by rw[SL p xs fun j hj=>hb j U hj],trivial⟩
theorem AH8 (xs:List Vr)(m:SM)(fid:FuncId)(caps:List AV)(p:Vr->Bool)(h:Hp)(hn:xs.length<=1099511627776)(hf:∀x∈xs,PCall (En G) fid ([.agg (encV x)]++caps) h (.bool (p x))):
  PCall (En G) 151 [.sl m 4 (xs.map encV),.fn (.func fid) [] caps] h (.bool (xs.any p)):=by
 refine acT Tryz.func151 4 ?_;refine AO ?_;refine(sF G xs m fid caps p h hn hf).use ?_;refine BC @QZ ?_;exact JH
theorem AFG (xs:List Ds)(m:SM)(fid:FuncId)(caps:List AV)(p:Ds->Bool)(h:Hp)(hn:xs.length<=1099511627776)(hf:∀x∈xs,PCall (En G) fid ([.agg (J9 x)]++caps) h (.bool (p x))):
  PCall (En G) 237 [.sl m 2 (xs.map J9),.fn (.func fid) [] caps] h (.n (NZ p xs)):=by
 refine acT Tryz.func237 4 ?_;refine AO ?_;refine BI (fun n F H=>∃k,n+k=xs.length∧(∀(j:Nat) (hj:j<k) (hl:j<xs.length),p xs[j]=false)∧F 0=.sl m 2 (xs.map J9)∧F 1=.fn (.func fid) [] caps∧F 7=.n (xs.length:Nat)∧F 8=.n (k:Nat)∧H=h) xs.length ⟨0,BA,fun j hj=>absurd hj U,AQ,AQ,AQ,AQ,rfl⟩ ?_;rintro n F H ⟨k,hk,hb,f0,f1,f7,f8,rfl⟩;refine BB f7 f8 ?_;refine CE ?_ ?_<;>intro hc
 .have hk':k<xs.length:=BN hc
  simp -implicitDefEqProofs only[vQ,CV,qI,zB,↓reduceIte,jB,enP,APX,f0,f1,f8,CQ hk',DR AJL gD TD hk'];refine(hf _ (jH hk')).uu ?_;refine CE ?_ ?_<;>intro hp
  .refine BC f8 ?_
   exact⟨by rw[TA p xs k hk' (fun j hj=>hb j hj U) hp],trivial⟩
  .refine BB f8 (DF k) ?_
   refine⟨n-1,U,k+1,U,fun j hj hl=>?_,AZ,AZ,AZ,rfl,trivial⟩;rcases zF j k with h1|h1
   .exact hb j h1 hl
   .obtain rfl:j=k:=U
    exact hp
 .refine AO ?_
  have hk':¬k<xs.length:=BN hc;exact⟨by rw[SL p xs fun j hj=>hb j U hj],trivial⟩
theorem AQC (xs:List Ds)(m:SM)(fid:FuncId)(caps:List AV)(p:Ds->Bool)(h:Hp)(hn:xs.length<=1099511627776)(hf:∀x∈xs,PCall (En G) fid ([.agg (J9 x)]++caps) h (.bool (p x))):
  PCall (En G) 159 [.sl m 2 (xs.map J9),.fn (.func fid) [] caps] h (.bool (xs.any p)):=by
 refine acT Tryz.func159 4 ?_;refine AO ?_;refine(AFG G xs m fid caps p h hn hf).use ?_;refine BC @QZ ?_;exact JH
theorem ABR (xs:List Wg)(m:SM)(fid:FuncId)(caps:List AV)(p:Wg->Bool)(h:Hp)(hn:xs.length<=1099511627776)(hf:∀x∈xs,PCall (En G) fid ([.agg (MC x)]++caps) h (.bool (p x))):
  PCall (En G) 178 [.sl m 4 (xs.map MC),.fn (.func fid) [] caps] h (.n (NZ p xs)):=by
 refine acT Tryz.func178 4 ?_;refine BC ABD ?_;refine BI (fun n F H=>∃k,n+k=xs.length∧(∀(j:Nat) (hj:j<k) (hl:j<xs.length),p xs[j]=false)∧F 0=.sl m 4 (xs.map MC)∧F 1=.fn (.func fid) [] caps∧F 7=.n (xs.length:Nat)∧F 8=.n (k:Nat)∧H=h) xs.length ⟨0,BA,fun j hj=>absurd hj U,AQ,AQ,AQ,AQ,rfl⟩ ?_;rintro n F H ⟨k,hk,hb,f0,f1,f7,f8,rfl⟩;refine BB f7 f8 ?_;refine CE ?_ ?_<;>intro hc
 .have hk':k<xs.length:=BN hc
  simp -implicitDefEqProofs only[vQ,CV,qI,zB,↓reduceIte,jB,enP,AX6,f0,f1,f8,CQ hk',DR A5K AXR AL2 hk'];refine(hf _ (jH hk')).uu ?_;refine CE ?_ ?_<;>intro hp
  .refine BC f8 ?_
   exact⟨by rw[TA p xs k hk' (fun j hj=>hb j hj U) hp],trivial⟩
  .refine BB f8 (DF k) ?_
   refine⟨n-1,U,k+1,U,fun j hj hl=>?_,AZ,AZ,AZ,rfl,trivial⟩;rcases zF j k with h1|h1
   .exact hb j h1 hl
   .obtain rfl:j=k:=U
    exact hp
 .refine AO ?_
  have hk':¬k<xs.length:=BN hc;exact⟨by rw[SL p xs fun j hj=>hb j U hj],trivial⟩
theorem A0D (xs:List Wg)(m:SM)(fid:FuncId)(caps:List AV)(p:Wg->Bool)(h:Hp)(hn:xs.length<=1099511627776)(hf:∀x∈xs,PCall (En G) fid ([.agg (MC x)]++caps) h (.bool (p x))):
  PCall (En G) 238 [.sl m 4 (xs.map MC),.fn (.func fid) [] caps] h (.bool (xs.any p)):=by
 refine acT Tryz.func238 4 ?_;refine AO ?_;refine(ABR G xs m fid caps p h hn hf).use ?_;refine BC @QZ ?_;exact JH
theorem AX2 {xs:List ByteArray}(hk:k<xs.length):BU jA h 9 (.fptr 1 (xs.map qencStr) k 0)=some (.str xs[k]):=by rw[CG ag9 hk]; rfl
theorem ALM (xs:List ByteArray)(m:SM)(fid:FuncId)(caps:List AV)(p:ByteArray->Bool)(h:Hp)(hn:xs.length<=1099511627776)(hf:∀x∈xs,PCall (En G) fid ([.str x]++caps) h (.bool (p x))):
  PCall (En G) 236 [.sl m 1 (xs.map qencStr),.fn (.func fid) [] caps] h (.n (NZ p xs)):=by
 refine acT Tryz.func236 4 ?_;refine AO ?_;refine BI (fun n F H=>∃k,n+k=xs.length∧(∀(j:Nat) (hj:j<k) (hl:j<xs.length),p xs[j]=false)∧F 0=.sl m 1 (xs.map qencStr)∧F 1=.fn (.func fid) [] caps∧F 7=.n (xs.length:Nat)∧F 8=.n (k:Nat)∧H=h) xs.length ⟨0,BA,fun j hj=>absurd hj U,AQ,AQ,AQ,AQ,rfl⟩ ?_;rintro n F H ⟨k,hk,hb,f0,f1,f7,f8,rfl⟩;refine BB f7 f8 ?_;refine CE ?_ ?_<;>intro hc
 .have hk':k<xs.length:=BN hc
  simp -implicitDefEqProofs only[vQ,CV,qI,zB,↓reduceIte,jB,enP,ZY,f0,f1,f8,CQ hk',AX2 hk'];refine(hf _ (jH hk')).uu ?_;refine CE ?_ ?_<;>intro hp
  .refine BC f8 ?_
   exact⟨by rw[TA p xs k hk' (fun j hj=>hb j hj U) hp],trivial⟩
  .refine BB f8 (DF k) ?_
   refine⟨n-1,U,k+1,U,fun j hj hl=>?_,AZ,AZ,AZ,rfl,trivial⟩;rcases zF j k with h1|h1
   .exact hb j h1 hl
   .obtain rfl:j=k:=U
    exact hp
 .refine AO ?_
  have hk':¬k<xs.length:=BN hc;exact⟨by rw[SL p xs fun j hj=>hb j U hj],trivial⟩
theorem AU5 (xs:List ByteArray)(m:SM)(fid:FuncId)(caps:List AV)(p:ByteArray->Bool)(h:Hp)(hn:xs.length<=1099511627776)(hf:∀x∈xs,PCall (En G) fid ([.str x]++caps) h (.bool (p x))):
  PCall (En G) 155 [.sl m 1 (xs.map qencStr),.fn (.func fid) [] caps] h (.bool (xs.any p)):=by
 refine acT Tryz.func155 4 ?_;refine AO ?_;refine(ALM G xs m fid caps p h hn hf).use ?_;refine BC @QZ ?_;exact JH
def dgS (k:Nat):ByteArray:=⟨#[UInt8.ofNat (48+k)]⟩
def AJK:ByteArray:=⟨#[48,49,50,51,52,53,54,55,56,57,97,98,99,100,101,102,103,104,105,106,107,108,109,110,111,112,113,114,115,116,117,118,119,120,121,122]⟩
theorem sl36:∀(k:Nat),k<8->∀h:Hp,IX jA h 9 (.str AJK) (some (.n (k:Nat))) (some (.n ((k+1:Nat):Int))) none=some (.str (dgS k))
 | 0,_,h=>A8
 | 1,_,h=>A8
 | 2,_,h=>A8
 | 3,_,h=>A8
 | 4,_,h=>A8
 | 5,_,h=>A8
 | 6,_,h=>A8
 | 7,_,h=>A8
 | n+8,q,_=>absurd q U
theorem AEB (k:Nat)(hk:k<8)(h:Hp):PCall (En G) 396 [.n (k:Nat)] h (.str (dgS k)):=by
 refine acT Tryz.func396 2 ?_;have hd:decide (((k:Nat):Int)<10)=true:=by simp; omega
 have:=sl36 k hk h;unfold AJK at this;refine DT hd (DF k) @this ?_;exact JH
theorem AMZ (k:Nat)(hk:k<8)(h:Hp):PCall (En G) 288 [.n (k:Nat)] h (.str (dgS k)):=by
 have h1:PCall (En G) 358 [.n (k:Nat),.n 10] h (.str (dgS k)):=by
  refine acT Tryz.func358 4 ?_;have d1:((10:Int)==10)=true:=rfl;have d2:decide ((0:Int)<=((k:Nat):Int))=true:=BA;have d3:decide (((k:Nat):Int)<100)=true:=by simp; omega
  refine DT d1 d2 d3 ?_;refine(AEB G k hk h).uu ?_;exact JH
 have h2:PCall (En G) 324 [.n (k:Nat)] h (.str (dgS k)):=by
  refine acT Tryz.func324 2 ?_;refine AO ?_;refine h1.uu ?_;exact JH
 refine acT Tryz.func288 2 ?_;refine AO ?_;refine h2.uu ?_;exact JH
theorem A4T (a:ByteArray)(k:Nat)(ha:a.size<=1048576):JM jA 9 .add (.str a) (.str ⟨#[91]⟩)=some (.str (a++(⟨#[91]⟩:ByteArray)))∧JM jA 9 .add (.str (a++(⟨#[91]⟩:ByteArray))) (.str (dgS k))=some (.str (a++(⟨#[91]⟩:ByteArray)++dgS k)) ∧
  JM jA 9 .add (.str (a++(⟨#[91]⟩:ByteArray)++dgS k)) (.str ⟨#[93]⟩)=some (.str (elN a k)) :=
 ⟨VE (by show a.size+1<=_; omega),VE (by rw[ZE]; show a.size+1+1<=_; omega),VE (by rw[ZE,ZE]; show a.size+1+1+1<=_; omega)⟩
theorem fF (a:ByteArray)(k:Nat)(hk:k<8)(h:Hp)(ha:a.size<=1048576):PCall (En G) 233 [.str a,.n (k:Nat)] h (.str (elN a k)):=by
 refine acT Tryz.func233 4 ?_;obtain⟨b1,b2,b3⟩:=A4T a k ha;refine BC b1 ?_;refine(AMZ G k hk h).use ?_;refine BB b2 b3 ?_;exact JH
theorem YB (a:ByteArray)(k:Nat):(elN a k).data.toList=a.data.toList++[91,UInt8.ofNat (48+k),93]:=by
 unfold elN;simp [ByteArray.data_append]
theorem AGC {b:ByteArray}(h:a.data.toList=b.data.toList):a=b:=by
 obtain⟨⟨x⟩⟩:=a;obtain⟨⟨y⟩⟩:=b;have:x=y:=h;rw[this]
theorem ASF (a:ByteArray):(⟨a.data.toList.toArray⟩:ByteArray)=a:=by obtain⟨⟨x⟩⟩:=a; rfl
theorem AFY (hk:k<8):(UInt8.ofNat (48+k)).toNat=48+k:=by
 rw[UInt8.toNat_ofNat']; omega
theorem AV0 (hi:i<8)(hj:j<8)(h:elN a i=elN a j):i=j:=by
 have:=congrArg (fun x=>x.data.toList) h;simp only[YB,List.append_cancel_left_eq,List.cons.injEq,and_true,true_and] at this;have:=congrArg UInt8.toNat this;rw[AFY hi,AFY hj] at this;omega
theorem AL8 (hk:k<8)(hn:FD a=true):LM (elN a k)=some (a.data.toList,UInt8.ofNat (48+k)):=by
 have h1:elN a k=⟨(a.data.toList++[91,UInt8.ofNat (48+k),93]).toArray⟩:=AGC (YB a k);have hne:a.data.toList≠[]:=(cS (l:=a.data.toList) (by rw[ASF]; exact hn)).1;rw[h1,dO hne,ASF,hn,AFY hk];simp;omega
theorem nF {a:List UInt8}{d:UInt8}(h:LM s=some (a,d)):48<=d.toNat∧d.toNat-48<8∧FD ⟨a.toArray⟩=true∧s=elN ⟨a.toArray⟩ (d.toNat-48)∧a.length+3=s.size:=by
 unfold LM at h;split at h
 case isFalse=>cases h
 rename_i hl;split at h
 case h_2=>cases h
 rename_i x d' y hm;split at h
 case isFalse=>cases h
 rename_i hc;cases h;simp only[jU,beq_iff_eq,decide_eq_true_eq] at hc;obtain⟨⟨⟨⟨rfl,rfl⟩,c1⟩,c2⟩,c3⟩:=hc;refine⟨c1,U,c3,AGC ?_,?_⟩
 .rw[YB]
  have e:UInt8.ofNat (48+(d.toNat-48))=d:=by simp_all
  rw[e,<-hm];simp
 .have:s.size=s.data.toList.length:=(Array.length_toList (xs:=s.data)).symm
  rw[this,jV]; omega
theorem AWT (a b:ByteArray):(a.toList==b.toList)=true↔a=b:=by
 rw[beq_iff_eq,ByteArray.toList_eq,ByteArray.toList_eq];exact⟨AGC,fun h=>by rw[h]⟩
def PN (n:ByteArray)(v:Vr):Bool:=v.name.toList==n.toList
def plc (l:List Vr)(n:ByteArray):Int:=NZ (PN n) l
theorem A3X (v:Vr)(n:ByteArray)(c:Nat)(h:Hp)(hc:h[c]?=some (zZ 1 [[.str n]])):PCall (En G) 234 ([.agg (encV v)]++[.ptr c 0 0]) h (.bool (PN n v)):=by
 refine ACalls.pure0 rfl ?_;refine acT Tryz.func234 3 ?_;have hc':(h++[zZ 4 [encV v]])[c]?=_:=AL hc;refine KF @bxV @encV0 (H7 ag9 hc') ?_;exact⟨rfl,_,rfl⟩
theorem index_prog (l:List Vr)(m:SM)(n:ByteArray)(h:Hp)(hl:l.length<=1099511627776):PCall (En G) 150 [.sl m 4 (l.map encV),.str n] h (.n (plc l n)):=by
 refine ACalls.pure0 rfl ?_;refine acT Tryz.func150 4 ?_;refine BC @AWO ?_;refine(sF G l m 234 [.ptr h.length 0 0] (PN n) _ hl fun x _=>A3X G x n h.length _ (A7 _ _)).uu ?_;exact⟨rfl,_,rfl⟩
theorem A0Z (s:ByteArray):(Lib.cut s.data.toList [91]).1.length<=s.size:=by
 have:=AJA s.data.toList;have e:s.data.toList.length=s.size:=Array.length_toList;omega
theorem AE2 (hG:GOk G)(s:ByteArray)(h:Hp)(hl:s.size<=1048576):PCall (En G) 149 [.str s] h (.bool (IJ s)):=by
 refine acT Tryz.func149 2 ?_;refine AO ?_;refine(LH G hG.kw s h U).use ?_;cases hn:FD s
 case true =>
  refine AO ?_;exact⟨by unfold IJ; rw[hn,Bool.or_true],trivial⟩
 have hv:IJ s=(LM s).isSome:=by unfold IJ; rw[hn,Bool.or_false]
 rw[hv];clear hn hv;refine AO ?_;refine(nH G hG s h hl).use ?_;have he:=nD s;have hal:=A0Z s;unfold cutV
 generalize Lib.cut s.data.toList [91]=c at he hal|-
 obtain⟨a,b,f⟩:=c;simp only at he hal;refine AO ?_;cases f
 .refine AO ?_
  exact⟨by rw[he]; rfl,trivial⟩
 refine AO ?_;refine(LH G hG.kw ⟨a.toArray⟩ h (by rw[szl]; omega)).uu ?_;cases hna:FD ⟨a.toArray⟩
 .refine AO ?_
  exact⟨by rw[he,hna]; rfl,trivial⟩
 refine AO ?_;refine BI (fun n F H=>∃k,n+k=8∧(∀j,j<k->j<8->s≠elN ⟨a.toArray⟩ j)∧F 0=.str s∧F 3=.str ⟨a.toArray⟩∧F 22=.n (k:Nat)∧H=h) 8 ⟨0,BA,fun j hj=>absurd hj U,AQ,AQ,AQ,rfl⟩ ?_;rintro n F H ⟨k,hk,hb,f0,f3,f22,rfl⟩;refine BC f22 ?_;refine CE ?_ ?_<;>intro hc
 .have hk':k<8:=by simp at hc; omega
  refine DT f0 f3 f22 ?_;refine(fF G ⟨a.toArray⟩ k hk' H (by rw[szl]; omega)).use ?_;refine BC f0 ?_;refine CE ?_ ?_<;>intro hp
  .refine AO ?_
   exact⟨by rw[(AWT _ _).1 hp,AL8 hk' hna]; rfl,trivial⟩
  .refine BB f22 (DF k) ?_
   refine⟨n-1,U,k+1,U,fun j hj h8=>?_,AZ,AZ,rfl,trivial⟩;rcases zF j k with h1|h1
   .exact hb j h1 h8
   .obtain rfl:j=k:=U
    intro e;rw[(AWT _ _).2 e] at hp;cases hp
 .refine AO ?_
  have hk':8<=k:=by simp at hc; omega
  refine⟨?_,trivial⟩;rcases hcase:LM s with _|⟨a',d⟩
  .rfl
  .exfalso
   obtain⟨c1,c2,c3,c4,_⟩:=nF hcase;rw[he,hna] at hcase
   have:a'=a:=by
    simp only[Bool.and_true,if_true] at hcase;split at hcase
    .split at hcase
     .cases hcase; rfl
     .cases hcase
    .cases hcase
   subst this;exact hb _ U c2 c4
def pI (l:List Vr)(s:ByteArray):Bool:=match LM s with
 | some (a,d)=>decide (1<=d.toNat-48)&&decide (plc l (elN ⟨a.toArray⟩ (d.toNat-48-1))<0)
 | none=>false
theorem ARJ (h:FD s=true):(Lib.cut s.data.toList [91]).2.2=false:=by
 obtain⟨_,hne⟩:=cS (l:=s.data.toList) (by rw[ASF]; exact h)
 have:Lib.index s.data.toList [91] = -1:=Lib.index_none fun j _=>by
  rw[<-Bool.not_eq_true];intro ho;have:=Lib.occAt_head rfl ho;exact hne 91 (List.mem_of_getElem? this) rfl
 unfold Lib.cut;rw[this,if_neg U]
theorem ARK {a:List UInt8}{d:UInt8}(h:LM s=some (a,d)):(Lib.cut s.data.toList [91]).1=a∧(Lib.cut s.data.toList [91]).2.2=true:=by
 rw[nD] at h;split at h
 case isFalse=>cases h
 rename_i hc;split at h
 case h_2=>cases h
 split at h
 case isFalse=>cases h
 cases h;exact⟨rfl,(Bool.and_eq_true_iff.1 hc).1⟩
theorem AQF (hG:GOk G)(l:List Vr)(m:SM)(s:ByteArray)(h:Hp)(hl:l.length<=1099511627776)(hs:s.size<=1048576)(hv:IJ s=true):PCall (En G) 153 [.sl m 4 (l.map encV),.str s] h (.bool (pI l s)):=by
 refine acT Tryz.func153 4 ?_;refine AO ?_;refine(nH G hG s h hs).use ?_;unfold cutV;rcases hcase:LM s with _|⟨a,d⟩
 .have hn:FD s=true:=by
   unfold IJ at hv; rw[hcase] at hv; simpa using hv
  have hg:pI l s=false:=by unfold pI; rw[hcase]
  rw[ARJ hn,hg];refine AO ?_;exact JH
 obtain⟨e1,e2⟩:=ARK hcase;obtain⟨c1,c2,c3,c4,c5⟩:=nF hcase;have hg:pI l s=(decide (1<=d.toNat-48)&&decide (plc l (elN ⟨a.toArray⟩ (d.toNat-48-1))<0)):=by unfold pI; rw[hcase]
 rw[e1,e2,hg];clear hg hcase e1 e2
 generalize d.toNat-48=q at c2 c4|-
 refine AO ?_;refine BI (fun n F H=>∃k,n+k=8∧1<=k∧(∀j,1<=j->j<k->j≠q)∧F 0=.sl m 4 (l.map encV)∧F 1=.str s∧F 5=.str ⟨a.toArray⟩∧F 8=.n (k:Nat)∧H=h) 7 ⟨1,BA,U,fun j h1 h2=>absurd h2 U,AQ,AQ,AQ,AQ,rfl⟩ ?_;rintro n F H ⟨k,hk,hk1,hb,f0,f1,f5,f8,rfl⟩;refine BC f8 ?_;refine CE ?_ ?_<;>intro hc
 .have hk':k<8:=by simp at hc; omega
  refine DT f1 f5 f8 ?_;refine(fF G ⟨a.toArray⟩ k hk' H (by rw[szl]; omega)).use ?_;refine BC f1 ?_;refine CE ?_ ?_<;>intro hp
  .have hq:k=q:=by
    have:=(AWT _ _).1 hp;rw[c4] at this;exact(AV0 c2 hk' this).symm
   have hw:IntKind.i64.wrap (((k:Nat):Int)-1)=((k-1:Nat):Int):=by rw[wrap_i64 U U]; omega
   refine E8 f0 f5 f8 hw ?_;refine(fF G ⟨a.toArray⟩ (k-1) U H (by rw[szl]; omega)).use ?_;refine BC f0 ?_;refine(index_prog G l m _ H hl).uu ?_;refine⟨?_,trivial⟩;rw[<-hq,decide_eq_true hk1,qR]
  .refine BB f8 (DF k) ?_
   refine⟨n-1,U,k+1,U,U,fun j h1 h2=>?_,AZ,AZ,AZ,rfl,trivial⟩;rcases zF j k with h3|h3
   .exact hb j h1 h3
   .obtain rfl:j=k:=U
    intro e;rw[(AWT _ _).2 (by rw[c4,e])] at hp;cases hp
 .refine AO ?_
  have hk':8<=k:=by simp at hc; omega
  refine⟨?_,trivial⟩;have:¬1<=q:=fun h1=>hb q h1 U rfl
  rw[decide_eq_false this,Bool.false_and]
def fstE {α:Type}(f:α->Int):List α->Int
 | []=>0
 | x::r=>if f x≠0 then f x else fstE f r
theorem X4 {α:Type}(f:α->Int):∀(xs:List α) (k:Nat) (hk:k<xs.length),(∀(j:Nat) (hj:j<k),f (xs[j]'U)=0)->f xs[k]≠0->fstE f xs=f xs[k]
 | x::r,0,_,_,h=>by
   have h:f x≠0:=h;show(if f x≠0 then f x else fstE f r)=f x;rw[if_pos h]
 | x::r,k+1,hk,hb,h=>by
   have h0:f x=0:=hb 0 U;have ih:=X4 f r k (BN hk) (fun j hj=>hb (j+1) U) h;show(if f x≠0 then f x else fstE f r)=f (r[k]'(BN hk));rw[if_neg (by simp [h0]),ih]
theorem U3 {α:Type}(f:α->Int):∀xs:List α,(∀(j:Nat) (hj:j<xs.length),f xs[j]=0)->fstE f xs=0
 | [],_=>rfl
 | x::r,hb=>by
   have h0:f x=0:=hb 0 BA;show(if f x≠0 then f x else fstE f r)=0;rw[if_neg (by simp [h0]),U3 f r fun j hj=>hb (j+1) (BN hj)]
theorem fstE_zero {α:Type}{f:α->Int}:∀ {xs:List α},fstE f xs=0->∀x∈xs,f x=0
 | y::r,h,x,hx=>by
   have h1:(if f y≠0 then f y else fstE f r)=0:=h;split at h1
   .rename_i hy; exact absurd h1 hy
   .rename_i hy
    rcases zM.1 hx with rfl|hx
    .simpa using hy
    .exact fstE_zero h1 x hx
def TK (v:Vr):Bool:=decide (v.width<1)||decide (v.width>8)||decide (v.mode<0)||decide (v.mode>2)||decide (v.value<0)||decide (v.value≥2^v.width.toNat)||(!(v.mode==0) && !(v.value==0))
def vrE (v:Vr):Int:=if IJ v.name=true then if TK v=true then 1 else 0 else 7
theorem A2H:∀n:Nat,n<=8->JM jA 3 .shl (.n 1) (.n (n:Nat))=some (.n (2^n))
 | 0,_=>A8
 | 1,_=>A8
 | 2,_=>A8
 | 3,_=>A8
 | 4,_=>A8
 | 5,_=>A8
 | 6,_=>A8
 | 7,_=>A8
 | 8,_=>A8
 | n+9,h=>absurd h U
theorem shl_w {w:Int}(h0:¬w<1)(h1:¬w>8):JM jA 3 .shl (.n 1) (.n w)=some (.n (2^w.toNat)):=by
 obtain⟨n,rfl⟩:=Int.eq_ofNat_of_zero_le (U:0<=w);exact A2H n U
def AMA (l:List Vr):Bool:=decide (∃i:Fin l.length,0<=plc (l.take i.1) (l[i.1]).name)
def OQ (l:List Vr):Int:=(l.map fun v=>if v.mode=0 then 0 else v.width).sum
def P6 (l:List Vr):Int:=if l.length>16 then 2 else if fstE vrE l≠0 then fstE vrE l else if AMA l=true then 8 else if(l.any fun v=>pI l v.name)=true then 10 else if OQ l>20 then 2 else 0
theorem AA9 (v:Vr):PN v.name v=true:=by unfold PN; simp
theorem AAM {l:List Vr}(hi:i<l.length):(plc l l[i].name≠(i:Int))↔0<=plc (l.take i) l[i].name:=by
 constructor
 .intro h
  rcases Classical.em (0<=plc (l.take i) l[i].name) with h1|h1
  .exact h1
  .exfalso
   refine h (TA _ l i hi (fun j hj=>?_) (AA9 _));refine eT (PN l[i].name) (l.take i) (by unfold plc at h1; omega) _ ?_;have:(l.take i)[j]'(by rw[jV]; omega)=l[j]:=List.getElem_take;rw[<-this]; exact jH _
 .intro h e
  obtain⟨k,hk,_,h2,h3⟩:=XZ (PN l[i].name) (l.take i) h;rw[jV] at hk;rw[List.getElem_take] at h2;have h0:0<=plc l l[i].name:=by rw[e]; omega
  obtain⟨k',hk',e1,_,e3⟩:=XZ (PN l[i].name) l h0
  have:k'=i:=by
   have e1:plc l l[i].name=(k':Int):=e1;omega
  have:=e3 k U;rw[this] at h2; cases h2
theorem ARD {l:List Vr}(hi:i<l.length)(h:0<=plc (l.take i) l[i].name):AMA l=true:=decide_eq_true ⟨⟨i,hi⟩,h⟩
theorem AL9 {l:List Vr}(h:∀(i:Nat) (hi:i<l.length),plc (l.take i) l[i].name<0):AMA l=false:=decide_eq_false fun⟨i,hi⟩=>by have:=h i.1 i.2; omega
theorem nR {l:List Vr}(hi:i<l.length):OQ (l.take (i+1))=OQ (l.take i)+(if l[i].mode=0 then 0 else l[i].width):=by
 unfold OQ;rw[jY hi,qN,List.sum_append];simp
theorem AC8 (l:List Vr)(hw:∀v∈l,vrE v=0):∀i,i<=l.length->0<=OQ (l.take i)∧OQ (l.take i)<=8*i
 | 0,_=>by simp [OQ]
 | i+1,h=>by
   have ih:=AC8 l hw i U;rw[nR (U:i<l.length)];have:=hw _ (jH (U:i<l.length));unfold vrE at this;split at this
   .split at this
    .cases this
    .rename_i hb
     have:TK l[i]=false:=BN hb;unfold TK at this;simp only[Bool.or_eq_false_iff,decide_eq_false_iff_not] at this;split<;>omega
   .cases this
theorem al61 (h:Hp):GM jA h 131=some (.ptr h.length 0 0,h++[zZ 4 [[.str ⟨#[]⟩,.n 0,.n 0,.n 0]]]):=FV (row:=[.str ⟨#[]⟩,.n 0,.n 0,.n 0]) A8
theorem st61 (h:Hp)(v:Vr):DW jA (h++[zZ 4 [[.str ⟨#[]⟩,.n 0,.n 0,.n 0]]]) 131 (.ptr h.length 0 0) (.agg (encV v))=some (h++[zZ 4 [encV v]]):=by
 rw[I9 (cs:=encV v) (row:=[.str ⟨#[]⟩,.n 0,.n 0,.n 0]) rfl AG6 (A7 _ _) (by exact jF 4),KC];rfl
theorem ldV {l:List Vr}(hi:i<l.length):BU jA h 131 (.fptr 4 (l.map encV) i 0)=some (.agg (encV l[i])):=DR AYU AG6 encV_len hi
theorem A30 (hG:GOk G)(l:List Vr)(m:SM)(v:Vr)(c:Nat)(h:Hp)(hc:h[c]?=some (zZ 1 [[.sl m 4 (l.map encV)]]))(hl:l.length<=1048576)(hs:v.name.size<=1048576)(hv:IJ v.name=true):
  PCall (En G) 152 ([.agg (encV v)]++[.ptr c 0 0]) h (.bool (pI l v.name)):=by
 refine ACalls.pure0 rfl ?_;refine acT Tryz.func152 3 ?_;have hc':(h++[zZ 4 [encV v]])[c]?=_:=AL hc;refine KF @bxV @encV0 (H7 bI hc') ?_;refine(AQF G hG l m v.name _ U hs hv).uu ?_;exact⟨trivial,_,rfl⟩
theorem AJ1 (hG:GOk G)(l:List Vr)(m:SM)(h:Hp)(hl:l.length<=1048576)(hs:∀v∈l,v.name.size<=1048576):PCall (En G) 78 [.sl m 4 (l.map encV)] h (.n (P6 l)):=by
 refine ACalls.pure0 rfl ?_;refine acT Tryz.func78 2 ?_;have hb0:(h++[zZ 1 [[.sl m 4 (l.map encV)]]])[h.length]?=some (zZ 1 [[.sl m 4 (l.map encV)]]):=A7 _ _;refine DT @xC @xC (H7 bI hb0) ?_;refine CE ?_ ?_<;>intro hc
 .refine AO ?_
  exact⟨by unfold P6; rw[if_pos (by simp at hc; omega)],_,rfl⟩
 have hlen:¬l.length>16:=by simp at hc; omega
 refine BC (H7 bI hb0) ?_;refine ET 0 (fun F H=>F 1=.ptr h.length 0 0∧H[h.length]?=some (zZ 1 [[.sl m 4 (l.map encV)]])∧ext h H∧fstE vrE l=0) (fun F H=>F 2=.n (P6 l)∧ext h H) ?_ ?_ ?_
 .refine BI (fun n F H=>∃i,n+i=l.length∧(∀(j:Nat) (hj:j<i) (hl:j<l.length),vrE l[j]=0)∧F 1=.ptr h.length 0 0∧F 11=.sl m 4 (l.map encV)∧F 12=.n (l.length:Nat)∧F 13=.n (i:Nat)∧H[h.length]?=some (zZ 1 [[.sl m 4 (l.map encV)]])∧ext h H) l.length ⟨0,BA,fun j hj=>absurd hj U,AQ,AQ,AQ,AQ,hb0,⟨_,rfl⟩⟩ ?_
  rintro n F H ⟨i,hi,hb,f1,f11,f12,f13,hH,he⟩;refine BB f12 f13 ?_;refine D8 ?_ ?_<;>intro hi'
  .have hH1:(H++[zZ 4 [encV l[i]]])[h.length]?=_:=AL hH
   have hx1:ext h (H++[zZ 4 [encV l[i]]]):=he.app _;have ge:=A7 H (zZ 4 [encV l[i]]);have hsv:=hs _ (jH hi')
   have hstp:∀(n':Nat),vrE l[i]=0->∃m',m'<n∧∃k,m'+k=l.length∧(∀(j:Nat) (hj:j<k) (hl:j<l.length),vrE l[j]=0)∧k=i+1:=fun _ hz =>
    ⟨n-1,U,i+1,U,fun j hj hl=>by
     rcases zF j i with h1|h1
     .exact hb j h1 hl
     .obtain rfl:j=i:=U
      exact hz,rfl⟩
   have hbad:vrE l[i]≠0->P6 l=vrE l[i]:=fun hz=>by
    have:=X4 vrE l i hi' (fun j hj=>hb j hj U) hz;unfold P6;rw[if_neg hlen,this,if_pos hz]
   simp -implicitDefEqProofs only[vQ,CV,↓reduceIte,jB,enP,pC,iY,jO,f11,f13,CQ hi',ldV hi',al61,st61]
   generalize H++[zZ 4 [encV l[i]]]=H1 at hH1 hx1 ge|-
   have l0:BU jA H1 9 (.ptr H.length 0 0)=some (.str l[i].name):=by rw[BL ag9 ge (row:=encV l[i]) rfl]; rfl
   have l1:BU jA H1 3 (.ptr H.length 0 1)=some (.n l[i].width):=by rw[BL ag3 ge (row:=encV l[i]) rfl]; rfl
   have l2:BU jA H1 3 (.ptr H.length 0 2)=some (.n l[i].mode):=by rw[BL ag3 ge (row:=encV l[i]) rfl]; rfl
   have l3:BU jA H1 3 (.ptr H.length 0 3)=some (.n l[i].value):=by rw[BL ag3 ge (row:=encV l[i]) rfl]; rfl
   generalize hv:l[i]=v at hsv hstp hbad l0 l1 l2 l3;refine BC l0 ?_;refine(AE2 G hG v.name _ hsv).use ?_;cases hn:IJ v.name
   .refine AO ?_
    have:vrE v=7:=by unfold vrE; rw[hn]; rfl
    exact⟨by rw[hbad (by rw[this]; decide),this],hx1⟩
   have fin:∀b,TK v=b->vrE v=if b=true then 1 else 0:=fun b hb=>by unfold vrE; rw[hn,hb]; rfl
   have yes:TK v=true->AV.int .i64 1=AV.int .i64 (P6 l):=fun hb=>by
    have:=fin true hb;rw[hbad (by rw[this]; decide),this]; rfl
   refine AO ?_;refine DV A8 ?_;cases b1:decide (v.width<1)
   case true =>
    refine BB l1 b1 ?_;exact⟨yes (by unfold TK; rw[b1]; simp),hx1⟩
   cases b2:decide (v.width>8)
   case true =>
    refine DT l1 b1 b2 ?_;exact⟨yes (by unfold TK; rw[b2]; simp),hx1⟩
   cases b3:decide (v.mode<0)
   case true =>
    refine I7 l1 l2 b1 b2 b3 ?_;exact⟨yes (by unfold TK; rw[b3]; simp),hx1⟩
   cases b4:decide (v.mode>2)
   case true =>
    refine MV l1 l2 b1 b2 b3 b4 ?_;exact⟨yes (by unfold TK; rw[b4]; simp),hx1⟩
   cases b5:decide (v.value<0)
   case true =>
    refine PG l1 l2 l3 b1 b2 b3 b4 b5 ?_;exact⟨yes (by unfold TK; rw[b5]; simp),hx1⟩
   have hsh:=shl_w (BN b1) (BN b2);cases b6:decide (v.value≥2^v.width.toNat)
   case true =>
    refine YN l1 l2 l3 hsh b1 b2 b3 b4 b5 b6 ?_;exact⟨yes (by unfold TK; rw[b6]; simp),hx1⟩
   cases b7:(v.mode==0)<;>cases b8:(v.value==0)
   case false.false =>
    simp -implicitDefEqProofs only[vQ,I5,KJ,eD,WS,OC,MZ,sV,AZ4,AOR,NS,EJ,CV,↓reduceIte,jB,jL,enP,ZA,Y9,dH,l1,l2,l3,hsh,b1,b2,b3,b4,b5,b6,b7,b8,bne];exact⟨yes (by unfold TK; rw[b7,b8]; simp),hx1⟩
   all_goals
    have hz:=fin false (by unfold TK; rw[b1,b2,b3,b4,b5,b6,b7,b8]; rfl);obtain⟨m',hm,k,k1,k2,rfl⟩:=hstp 0 hz;simp -implicitDefEqProofs only[vQ,I5,KJ,eD,WS,AD2,OC,EJ,CV,GG,↓reduceIte,jB,jL,zW,enP,ZA,Y9,dH,l1,l2,l3,hsh,b1,b2,b3,b4,b5,b6,b7,b8,bne,f13,DF i];exact⟨m',hm,i+1,k1,k2,AZ,AZ,AZ,rfl,hH1,hx1⟩
  .refine AO ?_
   exact⟨f1,hH,he,U3 vrE l fun j hj=>hb j U hj⟩
 .rintro F H ⟨f1,hH,he,hz⟩
  have hall:=fstE_zero hz
  have hnm:∀v∈l,IJ v.name=true∧v.name.size<=1048576:=by
   intro v hv;have:=hall v hv;unfold vrE at this;split at this
   .rename_i hn; exact⟨hn,hs v hv⟩
   .cases this
  have hv1:∀b,AMA l=b->P6 l=if b=true then 8 else if(l.any fun v=>pI l v.name)=true then 10 else if OQ l>20 then 2 else 0:=fun b hb=>by
   unfold P6; rw[if_neg hlen,if_neg (by simp [hz]),hb]
  refine BB f1 (H7 bI hH) ?_;refine ET 2 (fun F' H'=>F' 1=.ptr h.length 0 0∧F' 5=.n (OQ l)∧H'[h.length]?=some (zZ 1 [[.sl m 4 (l.map encV)]])∧ext h H'∧AMA l=false) (fun F' H'=>F' 2=.n (P6 l)∧ext h H') ?_ ?_ ?_
  .refine BI (fun n F' H'=>∃i,n+i=l.length∧(∀(j:Nat) (hj:j<i) (hl:j<l.length),plc (l.take j) l[j].name<0)∧F' 1=.ptr h.length 0 0∧F' 5=.n (OQ (l.take i))∧F' 63=.sl m 4 (l.map encV)∧F' 64=.n (l.length:Nat)∧F' 65=.n (i:Nat)∧H'[h.length]?=some (zZ 1 [[.sl m 4 (l.map encV)]])∧ext h H') l.length ⟨0,BA,fun j hj=>absurd hj U,EM f1,AQ,AQ,AQ,AQ,hH,he⟩ ?_
   clear f1 hH he;rintro n F H ⟨i,hi,hb,f1,f5,f63,f64,f65,hH,he⟩;refine BB f64 f65 ?_;refine D8 ?_ ?_<;>intro hi'
   .have hH1:(H++[zZ 4 [encV l[i]]])[h.length]?=_:=AL hH
    have hx1:ext h (H++[zZ 4 [encV l[i]]]):=he.app _;have ge:=A7 H (zZ 4 [encV l[i]]);simp -implicitDefEqProofs only[vQ,CV,↓reduceIte,jB,enP,pC,jO,f63,f65,CQ hi',ldV hi',al61,st61]
    generalize H++[zZ 4 [encV l[i]]]=H1 at hH1 hx1 ge|-
    have l0:BU jA H1 9 (.ptr H.length 0 0)=some (.str l[i].name):=by rw[BL ag9 ge (row:=encV l[i]) rfl]; rfl
    have l1:BU jA H1 3 (.ptr H.length 0 1)=some (.n l[i].width):=by rw[BL ag3 ge (row:=encV l[i]) rfl]; rfl
    have l2:BU jA H1 3 (.ptr H.length 0 2)=some (.n l[i].mode):=by rw[BL ag3 ge (row:=encV l[i]) rfl]; rfl
    refine DT f1 (H7 bI hH1) l0 ?_;refine(index_prog G l m l[i].name _ U).uu ?_;refine CE ?_ ?_<;>intro hd
    .refine AO ?_
     refine⟨?_,hx1⟩;rw[hv1 true (ARD hi' ((AAM hi').1 (by simpa [bne] using hd)))]; rfl
    have hnd:plc (l.take i) l[i].name<0:=by
     rcases Int.lt_or_le (plc (l.take i) l[i].name) 0 with h1|h1
     .exact h1
     .exact absurd (by simpa [bne] using hd) ((AAM hi').2 h1)
    have hb2:∀(j:Nat) (hj:j<i+1) (hl:j<l.length),plc (l.take j) l[j].name<0:=fun j hj hl=>by
     rcases zF j i with h1|h1
     .exact hb j h1 hl
     .obtain rfl:j=i:=U
      exact hnd
    have hbt:=nR hi';have hbd:=AC8 l hall (i+1) U;refine BC l2 ?_;refine CE ?_ ?_<;>intro hm
    .have hm':¬l[i].mode=0:=by simpa [bne] using hm
     rw[if_neg hm'] at hbt;have hw:IntKind.i64.wrap (OQ (l.take i)+l[i].width)=OQ (l.take (i+1)):=by rw[hbt,wrap_i64 U U]
     refine I7 f5 f65 l1 hw (DF i) ?_;exact⟨n-1,U,i+1,U,hb2,AZ,rfl,AZ,AZ,rfl,hH1,hx1⟩
    .have hm':l[i].mode=0:=by simpa [bne] using hm
     rw[if_pos hm',Int.add_zero] at hbt;refine BB f65 (DF i) ?_;exact⟨n-1,U,i+1,U,hb2,AZ,by rw[hbt]; exact f5,AZ,AZ,rfl,hH1,hx1⟩
   .refine AO ?_
    refine⟨f1,?_,hH,he,AL9 fun j hj=>hb j U hj⟩;rw[jI U] at f5; exact f5
  .rintro F' H' ⟨g1,g5,hH',he',hd⟩
   have hv2:=hv1 _ hd;refine BB g1 (H7 bI hH') ?_;refine(AH8 G l m 152 [.ptr h.length 0 0] (fun v=>pI l v.name) H' U fun v hv=>A30 G hG l m v _ _ hH' hl (hnm v hv).2 (hnm v hv).1).uu ?_;refine CE ?_ ?_<;>intro hg
   .refine AO ?_
    exact⟨by rw[hv2,hg]; rfl,he'⟩
   refine BC g5 ?_;refine CE ?_ ?_<;>intro hx
   .refine AO ?_
    refine⟨?_,he'⟩;rw[hv2,hg,if_neg D5,if_neg D5,if_pos (BN hx)]
   .refine AO ?_
    refine⟨?_,he'⟩;rw[hv2,hg,if_neg D5,if_neg D5,if_neg (BN hx)]
  .rintro F' H' ⟨g2,he'⟩
   refine BC g2 ?_;exact⟨trivial,he'⟩
 .rintro F H ⟨f2,he⟩
  refine BC f2 ?_;exact⟨trivial,he⟩
theorem ltz_false (i:Nat):decide ((i:Int)<0)=false:=by rw[decide_eq_false_iff_not]; omega
theorem frzEx:Frz AU:=fun n h d x=>by
 rw[EW]; exact⟨rfl,rfl⟩
def growR_ren:Go.Shelf.Ren:=⟨fun|4=>98|n=>n,fun|22=>23|25=>79|3=>3|4=>4|9=>9|20=>20|0=>0|n=>n,fun|n=>n⟩
theorem growR:Go.Proofs.Lays8.n4 jA growR_ren := {
 mixed:=A8,
 f4:=⟨Tryz.f98.name,by decide,Tryz.func98.trans (congrArg some A8)⟩,
 t0:=Tryz.underlying0,
 a0:=Tryz.isAgg0,
 z0:=Tryz.sizeOf0,
 v0:=Tryz.zeroValue0,
 t3:=Tryz.underlying3,
 a3:=Tryz.isAgg3,
 z3:=Tryz.sizeOf3,
 v3:=Tryz.zeroValue3,
 t4:=Tryz.underlying4,
 a4:=Tryz.isAgg4,
 z4:=Tryz.sizeOf4,
 v4:=Tryz.zeroValue4,
 t9:=Tryz.underlying9,
 a9:=Tryz.isAgg9,
 z9:=Tryz.sizeOf9,
 v9:=Tryz.zeroValue9,
 t20:=Tryz.underlying20,
 a20:=Tryz.isAgg20,
 z20:=Tryz.sizeOf20,
 v20:=Tryz.zeroValue20,
 t22:=Tryz.underlying23,
 a22:=Tryz.isAgg23,
 z22:=Tryz.sizeOf23,
 v22:=Tryz.zeroValue23 }
theorem zc_size (z:Array Value)(n:Nat):(Builtin.zeroCells z n).size=n*z.size:=by simp [Builtin.zeroCells]
theorem grow_prog (n:Nat)(hn:n<=1048576)(h:Hp):ACalls (En G) 98 [.sl .nil 0 [],.n (n:Nat)] h fun v H=>(n=0∧v=.sl .nil 0 []∧H=h)∨(0<n∧v=.own h.length 0 0∧H=h++[zZ 4 []]):=by
 refine⟨cok 98 G A8,fun g w cargs S ha=>?_⟩;obtain⟨hsz,hget⟩:=ha
 obtain⟨cv0,cv1,rfl⟩:∃a b,cargs = #[a,b]:=by
  obtain⟨l⟩:=cargs
  match l,hsz with
  | [a,b],_=>exact⟨a,b,rfl⟩
 have r0:=(hget 0 _ cv0 rfl rfl).sl_inv;obtain rfl:=(hget 1 _ cv1 rfl rfl).int_inv
 have hnil:cv0=.slice none 0 0:=by
  cases r0 with
  | nil=>rfl
  | empty _ _ _ _ q=>exact absurd rfl q
  | sl _ _ _ _ _ _ _ _ _ _ _ q=>exact absurd rfl q
 subst hnil;rcases Nat.eq_zero_or_pos n with h0|h0
 .subst h0
  refine(Any8.slices_Grow_room growR none 0 0 0 w (jF _) U U (jF _)).mono ?_;rintro e w' ⟨rfl,rfl⟩;exact .inl ⟨_,_,g,h,rfl,.inl ⟨rfl,rfl,rfl⟩,Gh.le.refl g,S,.fro (.nil 0)⟩
 .have i0:Tryz.prog.info? 79=some Tryz.t79:=A8
  have hz:Tryz.t79.zero.isSome=true:=A8;obtain⟨z,hz⟩:=Option.isSome_iff_exists.1 hz;have hs:Tryz.t79.size=4:=A8;have hb:Tryz.t79.bytes<=64:=jC A8;have hmul:n*Tryz.t79.bytes<=1048576*64:=Nat.mul_le_mul hn hb
  have hzs:z.cells.size=4:=by
   have h1:(Tryz.t79.zero.map fun z=>z.cells.size)=some 4:=A8;rw[hz] at h1; simpa using h1
  have hc:=Any8.slices_Grow_grow growR Tryz.t79 z i0 hz (by rw[hs]; omega) none 0 0 n [] w (jF _) U (by rw[jG]; omega) U BA (fun _=>rfl) (fun a q=>by cases q);refine hc.mono ?_;rintro e w' ⟨rfl,rfl⟩;generalize hG:grownCap w (0+n) 0 (growR_ren.t 25)=cap;have hle:0+n<=cap:=hG▸grownCap_ge w _ _ _;have hgr:Grew w (w.drew.alloc (.cells ((#[]:Array Value)++Builtin.zeroCells z.cells (0+n-0)++Builtin.zeroCells z.cells (cap-(0+n))) (growR_ren.t 25))) (.cells ((#[]:Array Value)++Builtin.zeroCells z.cells (0+n-0)++Builtin.zeroCells z.cells (cap-(0+n))) (growR_ren.t 25) (0,0)):=⟨rfl,rfl,rfl,rfl⟩
  have hsize:((#[]:Array Value)++Builtin.zeroCells z.cells (0+n-0)++Builtin.zeroCells z.cells (cap-(0+n))).size=cap*4:=by
   simp only[Array.size_append,zc_size,hzs,List.size_toArray,List.length_nil]; omega
  generalize ((#[]:Array Value)++Builtin.zeroCells z.cells (0+n-0)++Builtin.zeroCells z.cells (cap-(0+n)))=c at hgr hsize;obtain⟨S',hle'⟩:=S.new (k:=4) (xs:=[]) hgr ⟨BA,fun i row h=>by simp at h,fun i j row v h=>by simp at h⟩;refine .inl ⟨_,_,_,_,rfl,.inr ⟨h0,rfl,rfl⟩,hle',S',?_⟩;exact Rep.own h.length 0 0 cap ⟨w.heap.size,0,4,c.size⟩ (by simp [Gh.adopt]) (Nat.zero_le _) (by simp only[hsize]; omega)
structure Yx where
 m:SM
 l:List Ex
def sO (y:Yx):List AV:=[.sl y.m 4 (y.l.map AU)]
theorem AQ5 (y:Yx):(sO y)[0]?=some (.sl y.m 4 (y.l.map AU)):=rfl
def fl (R:List Yx):List Ex:=(R.map Yx.l).flatten
theorem flat_take {R:List Yx}(hi:i<R.length):fl (R.take (i+1))=fl (R.take i)++R[i].l:=by
 unfold fl;rw[jY hi,qN,List.flatten_append]; simp
theorem flat_take_le (R:List Yx)(i:Nat):(fl (R.take i)).length<=(fl R).length:=by
 have:fl R=fl (R.take i)++fl (R.drop i):=by unfold fl; rw[<-List.flatten_append,<-qN,List.take_append_drop]
 rw[this,zA]; omega
def outK (h:Hp)(ys:List Ex)(v:AV)(H:Hp):Prop:=(v=.sl .nil 0 []∧ys=[])∨∃o,h.length<=o∧v=.own o 0 ys.length∧H[o]?=some (zZ 4 (ys.map AU))
theorem outK_app {H:Hp}{xs ys:List Ex}{v:AV}(s:SM)(ho:outK h xs v H)(he:ext h H)(hl:xs.length+ys.length<=8388608):
  ∃v' H',EG jA true H 23 23 v (.sl s 4 (ys.map AU))=some (v',H')∧outK h (xs++ys) v' H'∧ext h H'∧(v=.sl .nil 0 []->ys=[]->v'=.sl .nil 0 []):=by
 cases ys with
 | nil =>
   refine⟨v,H,?_,by rw[jQ]; exact ho,he,fun q _=>q⟩;have hcs:JB H (.sl s 4 [])=some (4,[]):=G5 H s 4 [];rcases ho with⟨rfl,rfl⟩|⟨o,h2,rfl,h3⟩
   .simp [EG,SV,JL,RG,hcs,bump]
   .have hc:JB H (.own o 0 xs.length)=some (4,xs.map AU):=by rw[JS h3 BA,zI,jI BA]
    simp [EG,SV,JL,RG,hc,hcs,bump]
 | cons y ys =>
   have h1:(y::ys).map AU≠[]:=BA;rcases ho with⟨rfl,rfl⟩|⟨o,h2,rfl,h3⟩
   .exact⟨_,_,SE SV JL ZG YG (G5 H s 4 ((y::ys).map AU)) h1 (IV (by simp at hl|-; omega) U),.inr ⟨H.length,he.le,BA,BA⟩,he.app _,fun _ q=>by cases q⟩
   .have hc:JB H (.own o 0 xs.length)=some (4,xs.map AU):=by rw[JS h3 BA,zI,jI BA]
    exact⟨_,_,QT SV JL ZG YG hc (G5 H s 4 ((y::ys).map AU)) h1 (IV (by simp at hl|-; omega) U),.inr ⟨H.length,he.le,BA,BA⟩,(he.set h2 _).app _,fun q=>by cases q⟩
section
variable (G:Nat->AV)
theorem concat_prog (R:List Yx)(s:SM)(hR:R.length<=1048576)(hl:(fl R).length<=1048576)(h:Hp):PCall (En G) 45 [.sl s 1 (R.map sO)] h (.sl (Cov.nm (fl R)) 4 ((fl R).map AU)):=by
 refine LY frzEx ?_;refine acT Tryz.func45 2 ?_;refine AO ?_;refine ET 0 (fun F H'=>F 0=.sl s 1 (R.map sO)∧F 3=.n ((fl R).length:Nat)∧H'=h) (fun _ _=>False) ?_ ?_ (fun _ _ q=>q.elim)
 .refine BI (fun n F H'=>∃i,n+i=R.length∧F 0=.sl s 1 (R.map sO)∧F 3=.n ((fl (R.take i)).length:Nat)∧F 9=.sl s 1 (R.map sO)∧F 10=.n (R.length:Nat)∧F 11=.n (i:Nat)∧H'=h) R.length
   ⟨0,BA,AQ,AQ,AQ,AQ,AQ,rfl⟩ ?_
  rintro n F H ⟨i,hi,f0,f3,f9,f10,f11,rfl⟩;refine BB f10 f11 ?_;refine D8 ?_ ?_<;>intro hi'
  .have hfl:=flat_take hi'
   have hle:=flat_take_le R (i+1);rw[hfl,zA] at hle;have hw:IntKind.i64.wrap ((((fl (R.take i)).length:Nat):Int)+((R[i].l.length:Nat):Int))=(((fl (R.take (i+1))).length:Nat):Int):=by rw[hfl,zA,wrap_i64 U U]; omega
   refine PG f3 f9 f11 hi' @AQ5 hw @ltz_false (DF i) ?_;exact⟨n-1,U,i+1,U,AZ,AZ,AZ,AZ,AZ,AZ⟩
  .rw[jI U] at f3
   refine AO ?_;exact⟨AZ,AZ,AZ⟩
 rintro F H ⟨f0,f3,rfl⟩;refine BC f3 ?_;refine(grow_prog G (fl R).length hl H).mono ?_;intro v0 H0 hg
 have I0:outK H [] v0 H0∧Sm.ext H H0∧((fl R).length=0->v0=.sl .nil 0 []):=by
  rcases hg with⟨h0,rfl,rfl⟩|⟨h0,rfl,rfl⟩
  .exact⟨.inl ⟨rfl,rfl⟩,ext.rfl' _,fun _=>rfl⟩
  .exact⟨.inr ⟨H.length,jF _,rfl,A7 _ _⟩,(ext.rfl' H).app _,fun q=>U⟩
 refine BC f0 ?_
 refine BI (fun n F H'=>∃i v,n+i=R.length∧F 6=v∧F 25=.sl s 1 (R.map sO)∧F 26=.n (R.length:Nat)∧F 27=.n (i:Nat)∧outK H (fl (R.take i)) v H'∧Sm.ext H H'∧((fl R).length=0->v=.sl .nil 0 [])) R.length
  ⟨0,v0,BA,AQ,AQ,AQ,AQ,by rw[qB]; exact I0.1,I0.2.1,I0.2.2⟩ ?_
 clear I0 hg f0 f3;rintro n F H' ⟨i,v,hi,f6,f25,f26,f27,ho,hx,hz⟩;refine BB f26 f27 ?_;refine D8 ?_ ?_<;>intro hi'
 .have hfl:=flat_take hi'
  have hle:=flat_take_le R (i+1);rw[hfl,zA] at hle;obtain⟨v',H2,ha,ho2,hx2,hn2⟩:=outK_app R[i].m ho hx (ys:=R[i].l) U;rw[<-hfl] at ho2;refine P7 f6 f25 f27 hi' @AQ5 ha (DF i) ?_;exact⟨n-1,U,i+1,v',U,AZ,AZ,AZ,AZ,ho2,hx2,fun q=>hn2 (hz q) (List.length_eq_zero_iff.1 U)⟩
 .rw[jI U] at ho
  refine BC f6 ?_;refine⟨hx,?_⟩;rcases ho with⟨h1,h2⟩|⟨o,h1,h2,h3⟩
  .exact .inl ⟨h2,h1⟩
  .refine .inr ⟨fun q=>?_,o,h1,h2,h3⟩
   have:=hz (by rw[q]; rfl);rw[this] at h2; cases h2
end
def WP (x:Ex):Bool:=(x.op==3)||(x.op==24)
def WO (l:List Vr)(x:Ex):Bool:=(x.op==2)&&decide (plc l x.name<0)
def AGD (e:Ex):Bool:=(pre e).any WP
def ABX (l:List Vr)(e:Ex):Bool:=(pre e).any (WO l)
def plE (l:List Vr)(e:Ex):Int:=if AGD e=true then 9 else if ABX l e=true then 7 else 0
def xpE (l:List Vr)(e:Ex):Int:=if exE e≠0 then exE e else plE l e
def QG (l:List Vr)(xs:List Ex):Int:=fstE (xpE l) xs
theorem fstE_app {α:Type}(f:α->Int):∀xs ys:List α,fstE f (xs++ys)=if fstE f xs≠0 then fstE f xs else fstE f ys
 | [],ys=>by simp [fstE]
 | x::xs,ys=>by
   have ih:=fstE_app f xs ys;show(if f x≠0 then f x else fstE f (xs++ys))=if(if f x≠0 then f x else fstE f xs)≠0 then (if f x≠0 then f x else fstE f xs) else fstE f ys
   rw[ih];by_cases h:f x≠0
   .rw[if_pos h,if_pos h,if_pos h]
   .rw[if_neg h,if_neg h]
theorem ASJ (e:Ex):decide (((nmL [3,24] [] (pre e)).length:Int)>0)=AGD e:=by
 have h:=cO (fun _=>false) [3,24] (pre e) []
 have h1:(nmL [3,24] [] (pre e)).all (fun _=>false)=decide ((nmL [3,24] [] (pre e)).length=0):=by
  cases nmL [3,24] [] (pre e)<;>simp
 rw[h1] at h;unfold AGD
 have h2:(pre e).any WP = !((pre e).all fun e => !Rk.hasB [3,24] e.op||false):=by
  rw[List.not_all_eq_any_not];congr 1;funext x;unfold WP Rk.hasB;rw[wO];simp;constructor
  .rintro (h|h)<;>simp [h]
  .rintro (h|h)<;>simp [h]
 rw[h2];simp only[List.all_nil,qR] at h;rw[<-h];cases nmL [3,24] [] (pre e)<;>simp
theorem AQN (l:List Vr)(e:Ex):(nmL [2] [] (pre e)).any (fun n=>decide (plc l n<0))=ABX l e:=by
 have h:=cO (fun n => !decide (plc l n<0)) [2] (pre e) [];simp only[List.all_nil,qR] at h;rw[<-Bool.not_inj_iff,List.not_any_eq_all_not,h];unfold ABX;rw[List.not_any_eq_all_not];congr 1;funext x;unfold WO Rk.hasB;rw[wO];simp;constructor
 .omega
 .omega
theorem AR2 (h:Hp)(a b:SM)(x y:List (List AV)):C9 jA false h 100 2 [(0,.sl a 4 x),(1,.sl b 4 y)]=some (.sl .full 1 [[.sl a 4 x],[.sl b 4 y]],h):=A8
section
variable (G:Nat->AV)
theorem A3Z (p:Pr)(n:ByteArray)(c:Nat)(h:Hp)(hc:h[c]?=some (zZ 5 [DL p]))(hl:p.vars.length<=1048576):PCall (En G) 157 ([.str n]++[.ptr c 0 0]) h (.bool (decide (plc p.vars n<0))):=by
 refine acT Tryz.func157 3 ?_;have l0:BU jA h 22 (.ptr c 0 0)=some (.sl p.vm 4 (p.vars.map encV)):=by rw[BL bI hc (row:=DL p) rfl]; rfl
 refine BC l0 ?_;refine(index_prog G p.vars p.vm n h U).uu ?_;exact JH
theorem AFS (hG:GOk G)(p:Pr)(hl:p.vars.length<=1048576)(hx:p.hard.length+p.soft.length<=1048576)(hw:∀e∈p.hard++p.soft,wt e<=1048576)(h:Hp):PCall (En G) 80 [.agg (DL p)] h (.n (QG p.vars (p.hard++p.soft))):=by
 refine ACalls.pure0 rfl ?_;refine acT Tryz.func80 2 ?_;have ge:=A7 h (zZ 5 [DL p]);have hxx:=Sm.ext.r1 h (zZ 5 [DL p]);refine BB @AQW @YH ?_
 generalize h++[zZ 5 [DL p]]=H1 at ge hxx|-
 generalize h.length=eb at ge|-
 have l1:BU jA H1 23 (.ptr eb 0 1)=some (.sl p.hm 4 (p.hard.map AU)):=by rw[BL MO ge (row:=DL p) rfl]; rfl
 have l2:BU jA H1 23 (.ptr eb 0 2)=some (.sl p.sm 4 (p.soft.map AU)):=by rw[BL MO ge (row:=DL p) rfl]; rfl
 refine E8 @A0P l1 l2 AR2 ?_;have hfl:fl [⟨p.hm,p.hard⟩,⟨p.sm,p.soft⟩]=p.hard++p.soft:=by simp [fl]
 have hcc:=concat_prog G [⟨p.hm,p.hard⟩,⟨p.sm,p.soft⟩] .full BA (by rw[hfl,zA]; omega) H1;rw[hfl] at hcc;refine hcc.use ?_;have hxl:(p.hard++p.soft).length<=1048576:=by rw[zA]; omega
 generalize p.hard++p.soft=xs at hw hxl|-
 refine AO ?_;refine BI (fun n F H=>∃i,n+i=xs.length∧(∀(j:Nat) (hj:j<i) (hl:j<xs.length),xpE p.vars xs[j]=0)∧F 1=.ptr eb 0 0∧F 11=.sl (nm xs) 4 (xs.map AU)∧F 12=.n (xs.length:Nat)∧F 13=.n (i:Nat)∧H[eb]?=some (zZ 5 [DL p])∧ext h H) xs.length ⟨0,BA,fun j hj=>absurd hj U,AQ,AQ,AQ,AQ,ge,hxx⟩ ?_;clear ge hxx l1 l2;rintro n F H ⟨i,hi,hb,f1,f11,f12,f13,ge,hxx⟩;refine BB f12 f13 ?_;refine D8 ?_ ?_<;>intro hi'
 .have hwi:=hw _ (jH hi')
  have hbad:xpE p.vars xs[i]≠0->QG p.vars xs=xpE p.vars xs[i]:=fun hz=>X4 (xpE p.vars) xs i hi' (fun j hj=>hb j hj U) hz
  have ge1:(H++[zZ 4 [AU xs[i]]])[eb]?=_:=AL ge;have hx1:ext h (H++[zZ 4 [AU xs[i]]]):=hxx.app _;have gE:=A7 H (zZ 4 [AU xs[i]]);have al40:GM jA H 79=some (.ptr H.length 0 0,H++[zZ 4 [[.n 0,.n 0,.str ⟨#[]⟩,.sl .nil 0 []]]]):=FV (row:=[.n 0,.n 0,.str ⟨#[]⟩,.sl .nil 0 []]) A8
  have st40:DW jA (H++[zZ 4 [[.n 0,.n 0,.str ⟨#[]⟩,.sl .nil 0 []]]]) 79 (.ptr H.length 0 0) (.agg (AU xs[i]))=some (H++[zZ 4 [AU xs[i]]]):=by
   have hle:(AU xs[i]).length=4:=EP _;rw[I9 (cs:=AU xs[i]) (row:=[.n 0,.n 0,.str ⟨#[]⟩,.sl .nil 0 []]) (O7 (by rw[EW]; rfl)) (by rw[hle]; exact JL) (A7 _ _) (by rw[hle]; exact jF 4),KC]
   have:splice [.n 0,.n 0,.str ⟨#[]⟩,.sl .nil 0 []] 0 (AU xs[i])=AU xs[i]:=by
    unfold splice; rw[qB,List.drop_eq_nil_of_le (by rw[hle]; exact jF 4)]; simp
   rw[this]
  simp -implicitDefEqProofs only[vQ,CV,↓reduceIte,jB,enP,RN,jO,f11,f13,CQ hi',DR O5 JL EP hi',al40,st40]
  generalize H++[zZ 4 [AU xs[i]]]=H1 at ge1 hx1 gE|-
  refine BC (JI gE) ?_;refine(N8 G hG xs[i] _ hwi).uu ?_;refine CE ?_ ?_<;>intro he
  .have he':exE xs[i]≠0:=by simpa [bne] using he
   have hxp:xpE p.vars xs[i]=exE xs[i]:=by unfold xpE; rw[if_pos he']
   refine AO ?_;exact⟨by rw[hbad (by rw[hxp]; exact he'),hxp],hx1⟩
  have he':exE xs[i]=0:=by simpa [bne] using he
  have hxp:xpE p.vars xs[i]=plE p.vars xs[i]:=by unfold xpE; rw[if_neg (by simp [he'])]
  refine BC (JI gE) ?_;refine(YR G xs[i] hwi _).use ?_;refine BC @ASJ ?_;refine CE ?_ ?_<;>intro ha
  .have hpl:plE p.vars xs[i]=9:=by unfold plE; rw[if_pos ha]
   refine AO ?_;exact⟨by rw[hbad (by rw[hxp,hpl]; decide),hxp,hpl],hx1⟩
  refine BC (JI gE) ?_;refine(bQ G xs[i] hwi _).use ?_;refine BC f1 ?_
  have hnl:(nmL [2] [] (pre xs[i])).length<=1048576:=by
   have h1:=Y0 [2] (pre xs[i]) [];have h2:=aM xs[i];simp at h1; omega
  refine(AU5 G (nmL [2] [] (pre xs[i])) (nm (nmL [2] [] (pre xs[i]))) 157 [.ptr eb 0 0] (fun n=>decide (plc p.vars n<0)) H1 U fun n _=>A3Z G p n eb _ ge1 hl).use ?_;refine BC @AQN ?_;refine CE ?_ ?_<;>intro hf
  .have hpl:plE p.vars xs[i]=7:=by unfold plE; rw[ha,hf]; rfl
   refine AO ?_;exact⟨by rw[hbad (by rw[hxp,hpl]; decide),hxp,hpl],hx1⟩
  .have hpl:plE p.vars xs[i]=0:=by unfold plE; rw[ha,hf]; rfl
   refine BB f13 (DF i) ?_;refine⟨n-1,U,i+1,U,fun j hj hl=>?_,AZ,AZ,AZ,rfl,ge1,hx1⟩;rcases zF j i with h1|h1
   .exact hb j h1 hl
   .grind
 .refine AO ?_
  exact⟨by rw[QG,U3 (xpE p.vars) xs fun j hj=>hb j U hj],hxx⟩
end
def SY (l:List Vr)(i:Int):Bool:=decide (0<=i)&&(decide (i<l.length)&&(match l[i.toNat]? with|some v => !(v.mode==0)|none=>false))
def AMQ (x:Wg):Bool:=decide (x.lo<0)||decide (x.lo>x.hi)||decide (x.hi>65535)||decide (x.w<0)||decide (x.w>1000)
def dsE (l:List Vr)(ds:List Ds)(d:Ds):Int:=if SY l d.var=true then if ds.any (fun x=>x.var==d.var)=true then 8 else if d.ws.length>16 then 2 else if d.ws.any AMQ=true then 1 else 0 else 1
def dsI (l:List Vr)(ds:List Ds)(i:Nat):Int:=match ds[i]? with|some d=>dsE l (ds.take i) d|none=>0
def RP (l:List Vr)(ds:List Ds):Int:=fstE (dsI l ds) (zL ds.length)
theorem wD {l:List Vr}{ds:List Ds}(hi:i<ds.length):dsI l ds i=dsE l (ds.take i) ds[i]:=by unfold dsI; rw[jM hi]
theorem AFW {l:List Vr}{ds:List Ds}(hi:i<ds.length)(hb:∀j,j<i->dsI l ds j=0)(h:dsE l (ds.take i) ds[i]≠0):RP l ds=dsE l (ds.take i) ds[i]:=by
 have:=X4 (dsI l ds) (zL ds.length) i (BN hi) (fun j hj=>by rw[List.getElem_range]; exact hb j hj) (by rw[List.getElem_range,wD hi]; exact h);rw[List.getElem_range,wD hi] at this;exact this
theorem ACK {l:List Vr}{ds:List Ds}(hb:∀j,j<ds.length->dsI l ds j=0):RP l ds=0 :=
 U3 _ _ fun j hj=>by rw[List.getElem_range]; exact hb j (BN hj)
theorem cJ {l:List Vr}(hn:n<l.length):SY l (n:Nat) = !(l[n].mode==0):=by
 unfold SY;rw[decide_eq_true U,decide_eq_true U,wB,jM hn]; rfl
theorem A7K (h:Hp):GM jA h 140=some (.ptr h.length 0 0,h++[zZ 2 [[.n 0,.sl .nil 0 []]]]):=FV (row:=[.n 0,.sl .nil 0 []]) A8
theorem A6I (h:Hp)(v:Ds):DW jA (h++[zZ 2 [[.n 0,.sl .nil 0 []]]]) 140 (.ptr h.length 0 0) (.agg (J9 v))=some (h++[zZ 2 [J9 v]]):=by
 rw[I9 (cs:=J9 v) (row:=[.n 0,.sl .nil 0 []]) rfl gD (A7 _ _) (by exact jF 2),KC];rfl
theorem A6D {l:List Ds}{m:SM}(hi:i<=l.length):∃m',IX jA h 24 (.sl m 2 (l.map J9)) none (some (.n (i:Nat))) none=some (.sl m' 2 ((l.take i).map J9)) :=
 ⟨wN m i (l.map J9).length,by rw[AG9 A6C gD (by rw[List.length_map]; exact hi),List.map_take]⟩
section
variable (G:Nat->AV)
theorem XI (p:Pr)(i:Int)(_:p.vars.length<=1048576)(h:Hp):PCall (En G) 158 [.agg (DL p),.n i] h (.bool (SY p.vars i)):=by
 refine ACalls.pure0 rfl ?_;refine acT Tryz.func158 4 ?_;have l0:BU jA (h++[zZ 5 [DL p]]) 22 (.ptr h.length 0 0)=some (.sl p.vm 4 (p.vars.map encV)):=by rw[BL bI (A7 _ _) (row:=DL p) rfl]; rfl
 refine BC @YH ?_;cases b1:decide (i≥0)
 .refine BC b1 ?_
  refine⟨?_,_,rfl⟩;unfold SY; rw[show decide (0<=i)=false from b1]; rfl
 have h0:0<=i:=BN b1;obtain⟨n,rfl⟩:=Int.eq_ofNat_of_zero_le h0;refine BB b1 l0 ?_;cases b2:decide (((n:Nat):Int)<((p.vars.length:Nat):Int))
 .refine BC b2 ?_
  refine⟨?_,_,rfl⟩;unfold SY; rw[b2]; simp
 have hn:n<p.vars.length:=BN b2;have l2:BU jA (h++[zZ 5 [DL p]]) 3 (.fptr 4 (p.vars.map encV) n 2)=some (.n p.vars[n].mode):=by rw[CG ag3 hn]; rfl
 simp -implicitDefEqProofs only[vQ,EJ,Q9,CV,↓reduceIte,jB,enP,pC,vL,Y9,b2,l0,CQ hn,l2,bne];exact⟨by rw[cJ hn],_,rfl⟩
theorem A3Y (x d:Ds)(c:Nat)(h:Hp)(hc:h[c]?=some (zZ 2 [J9 d])):PCall (En G) 160 ([.agg (J9 x)]++[.ptr c 0 0]) h (.bool (x.var==d.var)):=by
 refine ACalls.pure0 rfl ?_;refine acT Tryz.func160 3 ?_;have hc':(h++[zZ 2 [J9 x]])[c]?=_:=AL hc;have l0:BU jA (h++[zZ 2 [J9 x]]) 3 (.ptr h.length 0 0)=some (.n x.var):=by rw[BL ag3 (A7 _ _) (row:=J9 x) rfl]; rfl
 have l1:BU jA (h++[zZ 2 [J9 x]]) 3 (.ptr c 0 0)=some (.n d.var):=by rw[BL ag3 hc' (row:=J9 d) rfl]; rfl
 refine DT @bxD l0 l1 ?_;exact⟨trivial,_,rfl⟩
theorem A3W (x:Wg)(h:Hp):PCall (En G) 239 ([.agg (MC x)]++[]) h (.bool (AMQ x)):=by
 refine ACalls.pure0 rfl ?_;refine acT Tryz.func239 2 ?_;have l0:BU jA (h++[zZ 4 [MC x]]) 3 (.ptr h.length 0 0)=some (.n x.lo):=by rw[BL ag3 (A7 _ _) (row:=MC x) rfl]; rfl
 have l1:BU jA (h++[zZ 4 [MC x]]) 3 (.ptr h.length 0 1)=some (.n x.hi):=by rw[BL ag3 (A7 _ _) (row:=MC x) rfl]; rfl
 have l2:BU jA (h++[zZ 4 [MC x]]) 3 (.ptr h.length 0 2)=some (.n x.w):=by rw[BL ag3 (A7 _ _) (row:=MC x) rfl]; rfl
 refine BC @A4I ?_;unfold AMQ;cases b1:decide (x.lo<0)
 case true =>
  refine BB l0 b1 ?_;exact⟨trivial,_,rfl⟩
 cases b2:decide (x.lo>x.hi)
 case true =>
  refine E8 l0 l1 b1 b2 ?_;exact⟨trivial,_,rfl⟩
 cases b3:decide (x.hi>65535)
 case true =>
  refine I7 l0 l1 b1 b2 b3 ?_;exact⟨trivial,_,rfl⟩
 cases b4:decide (x.w<0)
 case true =>
  refine PG @vP l0 l1 l2 b1 b2 b3 b4 ?_;exact⟨trivial,_,rfl⟩
 cases b5:decide (x.w>1000)
 all_goals
  refine aB @vP l0 l1 l2 b1 b2 b3 b4 b5 ?_;exact⟨trivial,_,rfl⟩
theorem tP (xs:List Wg)(m:SM)(hl:xs.length<=1048576)(h:Hp):PCall (En G) 161 [.sl m 4 (xs.map MC)] h (.bool (!(xs.any AMQ))):=by
 refine acT Tryz.func161 2 ?_;refine AO ?_;refine(A0D G xs m 239 [] AMQ h U fun x _=>A3W G x h).uu ?_;exact JH
theorem AFV (p:Pr)(hl:p.vars.length<=1048576)(hd:p.dists.length<=1048576)(hw:∀d∈p.dists,d.ws.length<=1048576)(h:Hp):PCall (En G) 82 [.agg (DL p)] h (.n (RP p.vars p.dists)):=by
 refine ACalls.pure0 rfl ?_;refine acT Tryz.func82 2 ?_;have ge:=A7 h (zZ 5 [DL p]);have hxx:=Sm.ext.r1 h (zZ 5 [DL p]);refine BC @YH ?_
 generalize h++[zZ 5 [DL p]]=H1 at ge hxx|-
 generalize h.length=eb at ge|-
 have l3:BU jA H1 24 (.ptr eb 0 3)=some (.sl p.dm 2 (p.dists.map J9)):=by rw[BL A1I ge (row:=DL p) rfl]; rfl
 refine BC l3 ?_;refine BI (fun n F H=>∃i,n+i=p.dists.length∧(∀(j:Nat),j<i->dsI p.vars p.dists j=0)∧F 1=.ptr eb 0 0∧F 6=.sl p.dm 2 (p.dists.map J9)∧F 7=.n (p.dists.length:Nat)∧F 8=.n (i:Nat)∧H[eb]?=some (zZ 5 [DL p])∧ext h H) p.dists.length ⟨0,BA,fun j hj=>absurd hj U,AQ,AQ,AQ,AQ,ge,hxx⟩ ?_;clear ge hxx l3;rintro n F H ⟨i,hi,hb,f1,f6,f7,f8,ge,hxx⟩;refine BB f7 f8 ?_;refine D8 ?_ ?_<;>intro hi'
 .have hwi:=hw _ (jH hi')
  have hbad:=AFW hi' hb;have hat:=wD (l:=p.vars) hi';have ge1:(H++[zZ 2 [J9 p.dists[i]]])[eb]?=_:=AL ge;have hx1:ext h (H++[zZ 2 [J9 p.dists[i]]]):=hxx.app _;have gE:=A7 H (zZ 2 [J9 p.dists[i]]);simp -implicitDefEqProofs only[vQ,CV,↓reduceIte,jB,enP,APX,jO,f6,f8,CQ hi',DR AJL gD TD hi',A7K,A6I]
  generalize H++[zZ 2 [J9 p.dists[i]]]=H1 at ge1 hx1 gE|-
  have lp:BU jA H1 27 (.ptr eb 0 0)=some (.agg (DL p)):=by rw[EH oA iA ge1 (row:=DL p) rfl (by rw[N9]; exact jF 5)]; rfl
  have l3:BU jA H1 24 (.ptr eb 0 3)=some (.sl p.dm 2 (p.dists.map J9)):=by rw[BL A1I ge1 (row:=DL p) rfl]; rfl
  have d0:BU jA H1 3 (.ptr H.length 0 0)=some (.n p.dists[i].var):=by rw[BL ag3 gE (row:=J9 p.dists[i]) rfl]; rfl
  have d1:BU jA H1 120 (.ptr H.length 0 1)=some (.sl p.dists[i].wm 4 (p.dists[i].ws.map MC)):=by rw[BL ASQ gE (row:=J9 p.dists[i]) rfl]; rfl
  obtain⟨m',ht⟩:=A6D (h:=H1) (m:=p.dm) (Nat.le_of_lt hi');refine DT f1 lp d0 ?_;refine(XI G p _ hl _).use ?_;cases b1:SY p.vars p.dists[i].var
  .have he:dsE p.vars (p.dists.take i) p.dists[i]=1:=by unfold dsE; rw[b1]; rfl
   refine AO ?_;exact⟨by rw[hbad (by rw[he]; decide),he],hx1⟩
  refine DT f1 l3 ht ?_;refine(AQC G (p.dists.take i) m' 160 [.ptr H.length 0 0] (fun x=>x.var==p.dists[i].var) H1 (by rw[jV]; omega) fun x _=>A3Y G x p.dists[i] _ _ gE).use ?_;cases b2:(p.dists.take i).any fun x=>x.var==p.dists[i].var
  case true =>
   have he:dsE p.vars (p.dists.take i) p.dists[i]=8:=by unfold dsE; rw[b1,b2]; rfl
   refine AO ?_;exact⟨by rw[hbad (by rw[he]; decide),he],hx1⟩
  refine BB ABD d1 ?_;refine CE ?_ ?_<;>intro b3
  .have he:dsE p.vars (p.dists.take i) p.dists[i]=2:=by unfold dsE; rw[b1,b2,if_pos rfl,if_neg D5,if_pos (by simp at b3; omega)]
   refine AO ?_;exact⟨by rw[hbad (by rw[he]; decide),he],hx1⟩
  refine BC d1 ?_;refine(tP G p.dists[i].ws p.dists[i].wm hwi _).use ?_;cases b4:p.dists[i].ws.any AMQ
  case true =>
   have he:dsE p.vars (p.dists.take i) p.dists[i]=1:=by unfold dsE; rw[b1,b2,if_pos rfl,if_neg D5,if_neg (by simp at b3; omega),b4]; rfl
   refine AO ?_;exact⟨by rw[hbad (by rw[he]; decide),he],hx1⟩
  have he:dsE p.vars (p.dists.take i) p.dists[i]=0:=by unfold dsE; rw[b1,b2,if_pos rfl,if_neg D5,if_neg (by simp at b3; omega),b4]; rfl
  refine BB f8 (DF i) ?_;refine⟨n-1,U,i+1,U,fun j hj=>?_,AZ,AZ,AZ,rfl,ge1,hx1⟩;rcases zF j i with h1|h1
  .exact hb j h1
  .grind
 .refine AO ?_
  exact⟨by rw[ACK fun j hj=>hb j U],hxx⟩
end
def flG (gs:List Gp):List Int:=gs.flatMap Gp.l
theorem AQO {gs:List Gp}(hi:i<gs.length):flG (gs.take (i+1))=flG (gs.take i)++gs[i].l:=by
 unfold flG; rw[jY hi,List.flatMap_append]; simp
theorem ALT {gs:List Gp}(hi:i<gs.length)(hj:j<gs[i].l.length):flG gs=(flG (gs.take i)++gs[i].l.take j)++gs[i].l[j]::(gs[i].l.drop (j+1)++flG (gs.drop (i+1))):=by
 have h1:gs=gs.take i++gs[i]::gs.drop (i+1):=by simp_all
 have h2:flG gs=flG (gs.take i)++(gs[i].l++flG (gs.drop (i+1))):=by
  unfold flG
  conv=>lhs; rw[h1]
  rw[List.flatMap_append,List.flatMap_cons]
 have h3:gs[i].l=gs[i].l.take j++gs[i].l[j]::gs[i].l.drop (j+1):=by simp_all
 have h4:gs[i].l++flG (gs.drop (i+1))=(gs[i].l.take j++gs[i].l[j]::gs[i].l.drop (j+1))++flG (gs.drop (i+1)):=by rw[<-h3]
 rw[h2,h4];simp only[zG,zB]
def gOK (l:List Vr)(gs:List Gp):Bool:=decide ((∀g∈gs,g.l≠[])∧(∀x∈flG gs,0<=x∧x<l.length)∧∀i:Fin l.length,(flG gs).count ((i.1:Nat):Int)=if l[i.1].mode=0 then 0 else 1)
theorem AVD {l:List Vr}{gs:List Gp}{g:Gp}(hg:g∈gs)(h:g.l=[]):gOK l gs=false:=decide_eq_false fun⟨h1,_⟩=>h1 g hg h
theorem AVC {l:List Vr}{gs:List Gp}(hx:x∈flG gs)(h:¬(0<=x∧x<l.length)):gOK l gs=false:=decide_eq_false fun⟨_,h1,_⟩=>h (h1 x hx)
theorem vE {l:List Vr}{gs:List Gp}(hi:i<l.length)(h:(flG gs).count ((i:Nat):Int)≠if l[i].mode=0 then 0 else 1):gOK l gs=false:=decide_eq_false fun⟨_,_,h1⟩=>h (h1 ⟨i,hi⟩)
theorem YX {l:List Vr}(h:SY l x=true):∃k,∃hk:k<l.length,x=(k:Nat)∧¬l[k].mode=0:=by
 unfold SY at h;simp only[jU,decide_eq_true_eq] at h;obtain⟨h0,h1,h2⟩:=h;have hk:x.toNat<l.length:=U;rw[jM hk] at h2;exact⟨x.toNat,hk,U,BN h2⟩
theorem AVB {l:List Vr}{gs:List Gp}(hx:x∈flG gs)(h:SY l x=false):gOK l gs=false:=by
 by_cases hr:0<=x∧x<l.length
 .obtain⟨k,rfl⟩:=Int.eq_ofNat_of_zero_le hr.1
  have hk:k<l.length:=U;rw[cJ hk] at h;refine vE hk ?_;rw[if_pos (BN h)];have:=List.count_pos_iff.2 hx;omega
 .exact AVC hx hr
def bR (done:List Int)(n:Nat):List (List AV):=(zL n).map fun i=>[AV.bool (decide (((i:Nat):Int)∈done))]
def cR (done:List Int)(n:Nat):List (List AV):=(zL n).map fun i=>[AV.int .i64 ((done.count ((i:Nat):Int):Nat):Int)]
theorem xD (done:List Int)(n:Nat):(bR done n).length=n:=by simp [bR]
theorem ART (done:List Int)(n:Nat):(cR done n).length=n:=by simp [cR]
theorem bF (done:List Int)(hi:i<n):(bR done n)[i]?=some [AV.bool (decide (((i:Nat):Int)∈done))]:=by simp [bR,hi]
theorem ARU (done:List Int)(hi:i<n):(cR done n)[i]?=some [AV.int .i64 ((done.count ((i:Nat):Int):Nat):Int)]:=by simp [cR,hi]
theorem A1D (done:List Int)(hk:k<n):(bR done n).set k [.bool true]=bR (done++[(k:Int)]) n:=by
 apply List.ext_getElem?;intro i;rw[List.getElem?_set];by_cases hi:i<n
 .by_cases e:k=i
  .subst e
   rw[if_pos rfl,if_pos (by rw[xD]; exact hi),bF _ hi];simp
  .rw[if_neg e,bF _ hi,bF _ hi]
   congr 3;simp;rintro h; omega
 .rw[qQ (by rw[xD]; omega)]
  split
  .simp_all
  .rw[qQ (by rw[xD]; omega)]
theorem A20 (h:Hp)(n:Nat)(hn:n<=1048576):IM jA true h 221 (.n (n:Int)) (.n (n:Int))=some (.own h.length 0 n,h++[zZ 1 (bR [] n)]):=by
 have hz:NF jA 4=some [.bool false]:=A8;have hr:room n 1:=IV U U;unfold IM;simp only[A11,sz4,A4F,hz,wB];rw[if_pos ⟨U,Int.le_refl _,hr,rfl⟩]
 have:bR [] n=zD n [.bool false]:=by
  apply List.ext_getElem?;intro i;by_cases hi:i<n
  .rw[bF _ hi,List.getElem?_replicate,if_pos hi]; simp
  .rw[qQ (by rw[xD]; omega),qQ NU]
 rw[this];simp
theorem A6R (h:Hp)(n:Nat)(hn:n<=1048576):IM jA true h 32 (.n (n:Int)) (.n (n:Int))=some (.own h.length 0 n,h++[zZ 1 (cR [] n)]):=by
 have hz:NF jA 3=some [.n 0]:=A8;have hr:room n 8:=IV U U;unfold IM;simp only[tR,sz3,AF8,hz,wB];rw[if_pos ⟨U,Int.le_refl _,hr,rfl⟩]
 have:cR [] n=zD n [.n 0]:=by
  apply List.ext_getElem?;intro i;by_cases hi:i<n
  .rw[ARU _ hi,List.getElem?_replicate,if_pos hi]; simp
  .rw[qQ (by rw[ART]; omega),qQ NU]
 rw[this];simp
theorem A6F {o:Nat}{rows:List (List AV)}(ho:h[o]?=some (zZ 1 rows))(hj:∃v,rows[j]?=some [v])(b:Bool):DW jA h 4 (.ptr o j 0) (.bool b)=some (h.set o (zZ 1 (rows.set j [.bool b]))):=by
 obtain⟨v,hv⟩:=hj;rw[IC (cs:=[.bool b]) rfl sz4 ho hv BA]; rfl
section
variable (G:Nat->AV)
theorem ABW (p:Pr)(hl:p.vars.length<=1048576)(hg:p.groups.length<=1048576)(hw:(flG p.groups).length<=1048576)(h:Hp):PCall (En G) 84 [.agg (DL p)] h (.n (if gOK p.vars p.groups=true then 0 else 1)):=by
 refine ACalls.pure0 rfl ?_;refine acT Tryz.func84 2 ?_;have ge:=A7 h (zZ 5 [DL p]);have hxx:=Sm.ext.r1 h (zZ 5 [DL p]);refine BC @YH ?_
 generalize h++[zZ 5 [DL p]]=hb at ge hxx|-
 generalize h.length=eb at ge|-
 have nb:gOK p.vars p.groups=false->(AV.int .i64 1=AV.int .i64 (if gOK p.vars p.groups=true then 0 else 1)):=fun hh=>by rw[hh]; rfl
 have l0:BU jA hb 22 (.ptr eb 0 0)=some (.sl p.vm 4 (p.vars.map encV)):=by rw[BL bI ge (row:=DL p) rfl]; rfl
 refine DT @A0O l0 (A20 hb p.vars.length hl) ?_;have geA:∀x:ABlk,(hb++[x])[eb]?=some (zZ 5 [DL p]):=fun x=>AL ge
 have l4:∀x:ABlk,BU jA (hb++[x]) 25 (.ptr eb 0 4)=some (.sl p.gm 1 (p.groups.map mZ)):=fun x=>by rw[BL bH (geA x) (row:=DL p) rfl]; rfl
 have lp:∀x:ABlk,BU jA (hb++[x]) 27 (.ptr eb 0 0)=some (.agg (DL p)):=fun x=>by rw[EH oA iA (geA x) (row:=DL p) rfl (by rw[N9]; exact jF 5)]; rfl
 have l0A:∀x:ABlk,BU jA (hb++[x]) 22 (.ptr eb 0 0)=some (.sl p.vm 4 (p.vars.map encV)):=fun x=>by rw[BL bI (geA x) (row:=DL p) rfl]; rfl
 have hxA:∀x:ABlk,ext h (hb++[x]):=fun x=>hxx.app _
 refine BC l4 ?_;refine ET 0 (fun F H=>F 1=.ptr eb 0 0∧F 3=.own hb.length 0 p.vars.length∧H=hb++[zZ 1 (bR (flG p.groups) p.vars.length)]∧(∀g∈p.groups,g.l≠[])∧(∀x∈flG p.groups,SY p.vars x=true)∧∀x:Int,(flG p.groups).count x<=1) (fun F H=>F 2=.n (if gOK p.vars p.groups=true then 0 else 1)∧ext h H) ?_ ?_ ?_
 .refine BI (fun n F H=>∃i,n+i=p.groups.length∧F 1=.ptr eb 0 0∧F 3=.own hb.length 0 p.vars.length∧F 14=.sl p.gm 1 (p.groups.map mZ)∧F 15=.n (p.groups.length:Nat)∧F 16=.n (i:Nat)∧H=hb++[zZ 1 (bR (flG (p.groups.take i)) p.vars.length)]∧(∀g∈p.groups.take i,g.l≠[])∧(∀x∈flG (p.groups.take i),SY p.vars x=true)∧∀x:Int,(flG (p.groups.take i)).count x<=1) p.groups.length ⟨0,BA,AQ,AQ,AQ,AQ,AQ,rfl,BA,by simp [flG],by simp [flG]⟩ ?_
  rintro n F H ⟨i,hi,f1,f3,f14,f15,f16,rfl,hne,hin,hct⟩;refine BB f15 f16 ?_;refine D8 ?_ ?_<;>intro hi'
  .have lg:∀H:Hp,BU jA H 32 (.fptr 1 (p.groups.map mZ) i 0)=some (.sl p.groups[i].m 1 (p.groups[i].l.map qencI)):=fun H=>by rw[CG O6 hi']; rfl
   refine P8 f14 f16 hi' lg ?_;refine CE ?_ ?_<;>intro hz
   .refine AO ?_
    exact⟨nb (AVD (jH hi') (List.eq_nil_of_length_eq_zero (BN hz))),hxA _⟩
   have hnz:p.groups[i].l≠[]:=by
    intro e; rw[e] at hz; simp at hz
   refine AO ?_;refine ET 2 (fun F' H'=>F' 1=.ptr eb 0 0∧F' 3=.own hb.length 0 p.vars.length∧F' 14=.sl p.gm 1 (p.groups.map mZ)∧F' 15=.n (p.groups.length:Nat)∧F' 16=.n (i:Nat)∧H'=hb++[zZ 1 (bR (flG (p.groups.take i)++p.groups[i].l) p.vars.length)]∧(∀x∈flG (p.groups.take i)++p.groups[i].l,SY p.vars x=true)∧∀x:Int,(flG (p.groups.take i)++p.groups[i].l).count x<=1) (fun F' H'=>F' 2=.n (if gOK p.vars p.groups=true then 0 else 1)∧ext h H') ?_ ?_ ?_
   .refine BI (fun n' F' H'=>∃j,n'+j=p.groups[i].l.length∧F' 1=.ptr eb 0 0∧F' 3=.own hb.length 0 p.vars.length∧F' 14=.sl p.gm 1 (p.groups.map mZ)∧F' 15=.n (p.groups.length:Nat)∧F' 16=.n (i:Nat)∧F' 23=.sl p.groups[i].m 1 (p.groups[i].l.map qencI)∧F' 24=.n (p.groups[i].l.length:Nat)∧F' 25=.n (j:Nat)∧H'=hb++[zZ 1 (bR (flG (p.groups.take i)++p.groups[i].l.take j) p.vars.length)]∧(∀x∈flG (p.groups.take i)++p.groups[i].l.take j,SY p.vars x=true)∧∀x:Int,(flG (p.groups.take i)++p.groups[i].l.take j).count x<=1) p.groups[i].l.length
     ⟨0,BA,EM f1,EM f3,EM f14,EM f15,EM f16,AQ,AQ,AQ,by rw[qB,jQ],by rw[qB,jQ]; exact hin,by rw[qB,jQ]; exact hct⟩ ?_
    clear f1 f3 f14 f15 f16;rintro n' F H ⟨j,hj,f1,f3,f14,f15,f16,f23,f24,f25,rfl,hin2,hct2⟩;refine BB f24 f25 ?_;refine D8 ?_ ?_<;>intro hj'
    .have hsp:=ALT hi' hj'
     have hmem:p.groups[i].l[j]∈flG p.groups:=by rw[hsp]; simp
     have l3:∀H:Hp,BU jA H 3 (.fptr 1 (p.groups[i].l.map qencI) j 0)=some (.n p.groups[i].l[j]):=fun H=>by rw[CG ag3 hj']; rfl
     refine AD1 f23 f25 hj' l3 f1 lp ?_;refine(XI G p _ hl _).use ?_;cases b1:SY p.vars p.groups[i].l[j]
     .refine AO ?_
      exact⟨nb (AVB hmem b1),hxA _⟩
     obtain⟨k,hkl,hk,hm⟩:=YX b1;have hb0:=A7 hb (zZ 1 (bR (flG (p.groups.take i)++p.groups[i].l.take j) p.vars.length))
     have lc:BU jA (hb++[zZ 1 (bR (flG (p.groups.take i)++p.groups[i].l.take j) p.vars.length)]) 4 (.ptr hb.length k 0)=some (.bool (decide (((k:Nat):Int)∈flG (p.groups.take i)++p.groups[i].l.take j))):=by
      rw[BL ag4 hb0 (bF _ hkl)]; rfl
     have hst:=A6F hb0 (j:=k) ⟨_,bF _ hkl⟩ true;rw[A1D _ hkl,KC] at hst
     have hap:(flG (p.groups.take i)++p.groups[i].l.take j)++[((k:Nat):Int)]=flG (p.groups.take i)++p.groups[i].l.take (j+1):=by
      rw[jY hj',hk,zG]
     have hjb:j<=1048576:=by
      have h2:p.groups[i].l.length<=(flG p.groups).length:=by
       rw[hsp]; simp only[zA,List.length_cons,jV,List.length_drop]; omega
      omega
     simp -implicitDefEqProofs only[vQ,EJ,CV,bV,RF,↓reduceIte,jB,zW,enP,APY,f3,hk,H8 hb0 hkl,lc];refine CE ?_ ?_<;>intro b2
     .refine AO ?_
      refine⟨nb (vE hkl ?_),hxA _⟩;have h1:0<(flG (p.groups.take i)++p.groups[i].l.take j).count ((k:Nat):Int):=List.count_pos_iff.2 (BN b2);rw[if_neg hm,hsp,List.count_append,hk,List.count_cons_self]; omega
     .have hnin:¬((k:Nat):Int)∈flG (p.groups.take i)++p.groups[i].l.take j:=BN b2
      simp -implicitDefEqProofs only[vQ,CV,↓reduceIte,jB,enP,APY,jO,f3,H8 hb0 hkl,hst,f25,DF j];refine⟨n'-1,U,j+1,U,AZ,AZ,AZ,AZ,AZ,AZ,AZ,rfl,by rw[<-hap],fun x hx=>?_,fun x=>?_⟩
      .rw[<-hap] at hx
       rcases zV.1 hx with hx|hx
       .exact hin2 x hx
       .rw[wI] at hx
        rw[hx,<-hk]; exact b1
      .rw[<-hap,List.count_append]
       have h1:=hct2 x;by_cases hxk:((k:Nat):Int)=x
       .subst hxk
        rw[List.count_eq_zero.2 hnin]; simp
       .rw[List.count_append] at h1
        simp [hxk]; exact h1
    .have e:p.groups[i].l.take j=p.groups[i].l:=jI U
     rw[e] at hin2 hct2;refine AO ?_;exact⟨f1,f3,f14,f15,f16,by rw[e],hin2,hct2⟩
   .rintro F' H' ⟨g1,g3,g14,g15,g16,rfl,hin2,hct2⟩
    refine BB g16 (DF i) ?_;have hft:=AQO hi';refine⟨n-1,U,i+1,U,AZ,AZ,AZ,AZ,rfl,by rw[hft],fun g hg=>?_,by rw[hft]; exact hin2,by rw[hft]; exact hct2⟩;rw[jY hi'] at hg;rcases zV.1 hg with hg|hg
    .exact hne g hg
    .rw[wI] at hg; rw[hg]; exact hnz
   .rintro F' H' ⟨g2,hx⟩
    refine BC g2 ?_;exact⟨trivial,hx⟩
  .rw[jI U] at hne hin hct
   refine AO ?_;exact⟨f1,f3,by rw[jI U],hne,hin,hct⟩
 .rintro F H ⟨f1,f3,rfl,hne,hin,hct⟩
  have hb0:=A7 hb (zZ 1 (bR (flG p.groups) p.vars.length));have l0':=l0A (zZ 1 (bR (flG p.groups) p.vars.length));have lp':=lp (zZ 1 (bR (flG p.groups) p.vars.length));have hx0:=hxA (zZ 1 (bR (flG p.groups) p.vars.length))
  generalize hb++[zZ 1 (bR (flG p.groups) p.vars.length)]=H0 at hb0 hx0 l0' lp'|-
  refine BB f1 l0' ?_;refine BI (fun n F H=>∃i,n+i=p.vars.length∧(∀(j:Nat),j<i->j<p.vars.length->SY p.vars (j:Nat)=true->((j:Nat):Int)∈flG p.groups)∧F 1=.ptr eb 0 0∧F 3=.own hb.length 0 p.vars.length∧F 46=.n (p.vars.length:Nat)∧F 47=.n (i:Nat)∧H=H0) p.vars.length ⟨0,BA,fun j hj=>absurd hj U,EM f1,EM f3,AQ,AQ,rfl⟩ ?_;clear f1 f3;rintro n F H ⟨i,hi,hbb,f1,f3,f46,f47,rfl⟩;refine BB f46 f47 ?_;refine D8 ?_ ?_<;>intro hi'
  .have lc:BU jA H 4 (.ptr hb.length i 0)=some (.bool (decide (((i:Nat):Int)∈flG p.groups))):=by
    rw[BL ag4 hb0 (bF _ hi')]; rfl
   refine DT f1 f47 lp' ?_;refine(XI G p _ hl _).use ?_
   have nxt:(SY p.vars (i:Nat)=true->((i:Nat):Int)∈flG p.groups)->∀(j:Nat),j<i+1->j<p.vars.length->SY p.vars (j:Nat)=true->((j:Nat):Int)∈flG p.groups:=fun he j hj hl hr=>by
    rcases zF j i with h1|h1
    .exact hbb j h1 hl hr
    .obtain rfl:j=i:=U
     exact he hr
   cases b1:SY p.vars ((i:Nat):Int)
   .have he:=nxt (fun q=>by rw[b1] at q; cases q)
    refine BB f47 (DF i) ?_;exact⟨n-1,U,i+1,U,he,AZ,AZ,AZ,rfl,trivial⟩
   simp -implicitDefEqProofs only[vQ,EJ,Q9,CV,bV,RF,↓reduceIte,jB,enP,APY,f3,f47,H8 hb0 hi',lc];refine CE ?_ ?_<;>intro b2
   .refine AO ?_
    refine⟨nb (vE hi' ?_),hx0⟩;have h1:¬((i:Nat):Int)∈flG p.groups:=BN b2;have h2:¬p.vars[i].mode=0:=by rw[cJ hi'] at b1; simpa using b1
    rw[if_neg h2,List.count_eq_zero.2 h1]; decide
   .have he:=nxt (fun _=>BN b2)
    refine BB f47 (DF i) ?_;exact⟨n-1,U,i+1,U,he,AZ,AZ,AZ,rfl,trivial⟩
  .refine AO ?_
   refine⟨?_,hx0⟩
   have:gOK p.vars p.groups=true:=decide_eq_true ⟨hne,fun x hx=>by
    obtain⟨k,hk,rfl,_⟩:=YX (hin x hx);omega,fun j=>by
    by_cases hr:SY p.vars ((j.1:Nat):Int)=true
    .have h1:=List.count_pos_iff.2 (hbb j.1 U j.2 hr)
     have h2:=hct ((j.1:Nat):Int);rw[cJ j.2] at hr;rw[if_neg (BN hr)]; omega
    .have h1:¬((j.1:Nat):Int)∈flG p.groups:=fun hm=>hr (hin _ hm)
     rw[cJ j.2] at hr;rw[if_pos (BN hr)]
     exact List.count_eq_zero.2 h1⟩
   rw[this]; rfl
 .rintro F H ⟨f2,hx⟩
  refine BC f2 ?_;exact⟨trivial,hx⟩
end
structure PrS (p:Pr):Prop where
 vars:p.vars.length<=1048576
 names:∀v∈p.vars,v.name.size<=1048576
 exprs:p.hard.length+p.soft.length<=1048576
 wts:∀e∈p.hard++p.soft,wt e<=1048576
 dists:p.dists.length<=1048576
 ws:∀d∈p.dists,d.ws.length<=1048576
 groups:p.groups.length<=1048576
 members:(flG p.groups).length<=1048576
def NI (p:Pr):Int:=if P6 p.vars≠0 then P6 p.vars else if QG p.vars (p.hard++p.soft)≠0 then QG p.vars (p.hard++p.soft) else if RP p.vars p.dists≠0 then RP p.vars p.dists else if gOK p.vars p.groups=true then 0 else 1
section
variable (G:Nat->AV)
theorem AC2 (fs:List (FuncId×List AV×Int))(b:Nat)(hn:fs.length<=1048576)(h:Hp)(hb:h[b]?=some (zZ 1 (fs.map fun x=>[.fn (.func x.1) [] x.2.1])))(hf:∀x∈fs,PCall (En G) x.1 ([]++x.2.1) h (.n x.2.2)):PCall (En G) 76 [.own b 0 fs.length] h (.n (fstE (fun x=>x.2.2) fs)):=by
 refine ACalls.pure0 rfl ?_;refine acT Tryz.func76 2 ?_;refine BC A25 ?_;refine ET 0 (fun F H=>H=h∧∀x∈fs,x.2.2=0) (fun F H=>F 2=.n (fstE (fun x=>x.2.2) fs)∧ext h H) ?_ ?_ ?_
 .refine BI (fun n F H=>∃i,n+i=fs.length∧F 6=.own b 0 fs.length∧F 7=.n (fs.length:Nat)∧F 8=.n (i:Nat)∧H=h∧∀(j:Nat) (hj:j<i) (hl:j<fs.length),fs[j].2.2=0) fs.length ⟨0,BA,AQ,AQ,AQ,rfl,by intro j hj; omega⟩ ?_
  rintro n F H ⟨i,hi,f6,f7,f8,rfl,hz⟩;refine BB f7 f8 ?_;refine D8 ?_ ?_<;>intro hi'
  .have lf:BU jA H 150 (.ptr b i 0)=some (.fn (.func fs[i].1) [] fs[i].2.1):=by
    rw[BL (row:=[.fn (.func fs[i].1) [] fs[i].2.1]) A5P hb (by rw[List.getElem?_map,jM hi']; rfl)]; rfl
   simp -implicitDefEqProofs only[vQ,CV,qI,↓reduceIte,jB,enP,A3F,f6,f8,H8 hb hi',lf];refine(hf _ (jH hi')).uu ?_;refine CE ?_ ?_<;>intro hz'
   .refine AO ?_
    exact⟨by rw[X4 (fun x:FuncId×List AV×Int=>x.2.2) fs i hi' (fun j hj=>hz j hj U) (by simpa using hz')],ext.rfl' _⟩
   .refine BB f8 (DF i) ?_
    refine⟨n-1,U,i+1,U,AZ,AZ,rfl,trivial,fun j hj hl=>?_⟩;rcases zF j i with h1|h1
    .exact hz j h1 hl
    .obtain rfl:j=i:=U
     simpa using hz'
  .refine AO ?_
   refine⟨trivial,fun x hx=>?_⟩;obtain⟨j,hj,rfl⟩:=List.getElem_of_mem hx;exact hz j U hj
 .rintro F H ⟨rfl,hz⟩
  refine AO ?_;exact⟨by rw[U3 _ fs fun j hj=>hz _ (jH hj)],ext.rfl' _⟩
 .rintro F H ⟨f2,hx⟩
  refine BC f2 ?_;exact⟨trivial,hx⟩
theorem AWI (hG:GOk G)(p:Pr)(hs:PrS p)(b:Nat)(h:Hp)(hb:h[b]?=some (zZ 5 [DL p])):PCall (En G) 77 ([]++[.ptr b 0 0]) h (.n (P6 p.vars)):=by
 refine acT Tryz.func77 1 ?_;have l0:BU jA h 22 (.ptr b 0 0)=some (.sl p.vm 4 (p.vars.map encV)):=by rw[BL bI hb (row:=DL p) rfl]; rfl
 refine BC l0 ?_;refine(AJ1 G hG p.vars p.vm h hs.vars hs.names).uu ?_;exact JH
theorem AWH (hG:GOk G)(p:Pr)(hs:PrS p)(b:Nat)(h:Hp)(hb:h[b]?=some (zZ 5 [DL p])):PCall (En G) 79 ([]++[.ptr b 0 0]) h (.n (QG p.vars (p.hard++p.soft))):=by
 refine acT Tryz.func79 1 ?_;have lp:BU jA h 27 (.ptr b 0 0)=some (.agg (DL p)):=by rw[EH oA iA hb (row:=DL p) rfl (by rw[N9]; exact jF 5)]; rfl
 refine BC lp ?_;refine(AFS G hG p hs.vars hs.exprs hs.wts h).uu ?_;exact JH
theorem AWG (p:Pr)(hs:PrS p)(b:Nat)(h:Hp)(hb:h[b]?=some (zZ 5 [DL p])):PCall (En G) 81 ([]++[.ptr b 0 0]) h (.n (RP p.vars p.dists)):=by
 refine acT Tryz.func81 1 ?_;have lp:BU jA h 27 (.ptr b 0 0)=some (.agg (DL p)):=by rw[EH oA iA hb (row:=DL p) rfl (by rw[N9]; exact jF 5)]; rfl
 refine BC lp ?_;refine(AFV G p hs.vars hs.dists hs.ws h).uu ?_;exact JH
theorem AWF (p:Pr)(hs:PrS p)(b:Nat)(h:Hp)(hb:h[b]?=some (zZ 5 [DL p])):PCall (En G) 83 ([]++[.ptr b 0 0]) h (.n (if gOK p.vars p.groups=true then 0 else 1)):=by
 refine acT Tryz.func83 1 ?_;have lp:BU jA h 27 (.ptr b 0 0)=some (.agg (DL p)):=by rw[EH oA iA hb (row:=DL p) rfl (by rw[N9]; exact jF 5)]; rfl
 refine BC lp ?_;refine(ABW G p hs.vars hs.groups hs.members h).uu ?_;exact JH
theorem A4S (h:Hp)(a b c d:Fn)(k l m n:List AV):C9 jA true h 212 4 [(0,.fn a [] k),(1,.fn b [] l),(2,.fn c [] m),(3,.fn d [] n)]=some (.own h.length 0 4,h++[zZ 1 [[.fn a [] k],[.fn b [] l],[.fn c [] m],[.fn d [] n]]]):=A8
theorem valid_prog (hG:GOk G)(p:Pr)(hs:PrS p)(h:Hp):PCall (En G) 40 [.agg (DL p)] h (.n (NI p)):=by
 refine ACalls.pure0 rfl ?_;refine H6 (H:=hint [7] []) (enM G) Tryz.func40 rfl (by kernel_rfl) (by kernel_rfl) (jC (by kernel_rfl)) ?_;show awp _ _ _ _ _ (LU _ [.tmp 2] _);have ge:=A7 h (zZ 5 [DL p]);have hxx:=Sm.ext.r1 h (zZ 5 [DL p]);refine BB @YH A4S ?_
 generalize h++[zZ 5 [DL p]]=hb at ge hxx|-
 generalize h.length=eb at ge|-
 have hx2:=hxx.app [zZ 1 [[AV.fn (.func 77) [] [.ptr eb 0 0]],[.fn (.func 79) [] [.ptr eb 0 0]],[.fn (.func 81) [] [.ptr eb 0 0]],[.fn (.func 83) [] [.ptr eb 0 0]]]];have ge2:=AL (x:=zZ 1 [[AV.fn (.func 77) [] [.ptr eb 0 0]],[.fn (.func 79) [] [.ptr eb 0 0]],[.fn (.func 81) [] [.ptr eb 0 0]],[.fn (.func 83) [] [.ptr eb 0 0]]]) ge;refine(AC2 G [(77,[.ptr eb 0 0],P6 p.vars),(79,[.ptr eb 0 0],QG p.vars (p.hard++p.soft)),(81,[.ptr eb 0 0],RP p.vars p.dists),(83,[.ptr eb 0 0],if gOK p.vars p.groups=true then 0 else 1)] hb.length BA _ (A7 _ _) ?_).use ?_
 .intro x hx
  simp only[zM,List.not_mem_nil,or_false] at hx;rcases hx with rfl|rfl|rfl|rfl
  .exact AWI G hG p hs eb _ ge2
  .exact AWH G hG p hs eb _ ge2
  .exact AWG G p hs eb _ ge2
  .exact AWF G p hs eb _ ge2
 .refine AO ?_
  refine⟨?_,hx2⟩;simp only[fstE,NI];by_cases h1:P6 p.vars≠0
  .rw[if_pos h1,if_pos h1]
  rw[if_neg h1,if_neg h1];by_cases h2:QG p.vars (p.hard++p.soft)≠0
  .rw[if_pos h2,if_pos h2]
  rw[if_neg h2,if_neg h2];by_cases h3:RP p.vars p.dists≠0
  .rw[if_pos h3,if_pos h3]
  rw[if_neg h3,if_neg h3];cases gOK p.vars p.groups<;>rfl
end
end Go.Proofs.YtiihpnicbekebaaGreatDoor.Bd
namespace Go.Proofs.YtiihpnicbekebaaGreatDoor.Bd
open Sm Bins Cov Xe Wd Go.RowKit
def OZ (vars:List Vr)(a:List Int):List Sg:=List.zipWith (fun v z=>(v.name,z)) vars a
theorem X9 {vars:List Vr}{a:List Int}(h:a.length=vars.length):(OZ vars a).length=vars.length:=by unfold OZ; simp; omega
theorem kC {vars:List Vr}{a:List Int}{i:Nat}(h1:i<vars.length)(h2:i<a.length)(h:i<(OZ vars a).length):(OZ vars a)[i]=(vars[i].name,a[i]):=by simp [OZ]
theorem A7H (n:ByteArray)(z:Int):G7 jA 209 [(0,.str n),(1,.n z)]=some (.agg (GU (n,z))):=A8
theorem A7E (h:Hp)(s:Sg):C9 jA false h 137 1 [(0,.agg (GU s))]=some (.sl .full 2 [GU s],h):=A8
end Go.Proofs.YtiihpnicbekebaaGreatDoor.Bd
namespace Go.Proofs.YtiihpnicbekebaaGreatDoor.Bl
open Sm Bins Cov Xe Wd Bd Go.RowKit
variable {p:Pr} {a:List Int}
def QCall (E:Env)(f:FuncId)(args:List AV)(h:Hp)(Q:AV->Prop):Prop:=ACalls E.nox f args h fun v h'=>Q v∧h'=h
theorem QCall.use {E:Env}{f:FuncId}{args:List AV}{h:Hp}{Q:AV->Prop}{K:AV->Hp->Prop}(hc:QCall E f args h Q)(hk:∀r,Q r->K r h):ACalls E f args h K :=
 ACalls.mono (ACalls.ofNox hc) fun r _ ⟨e1,e2⟩=>by rw[e2]; exact hk r e1
theorem ACalls.pureQ {E:Env}{f:FuncId}{args:List AV}{h:Hp}{R:AV->Hp->Prop}{Q:AV->Prop}(d:Nat)(hc:ACalls E f args h R)
  (hk:∀v h',R v h'->ext h h'∧Q (FN h.length h' d v)) (hX:E.nox=E:=by rfl):QCall E f args h Q:=by
 unfold QCall;rw[hX];refine hc.trunc fun v h' hR=>?_
 obtain⟨⟨x,rfl⟩,hr⟩:=hk v h' hR;exact⟨d,h,rfl,fun b hb=>.inr (.inl ⟨by rw[qC hb],by rw[qC hb]⟩),hr,rfl⟩
theorem QCall.args {E:Env}{f:FuncId}{args args':List AV}{h:Hp}{Q:AV->Prop}(hc:QCall E f args' h Q)(ha:CvRL args args'):QCall E f args h Q:=ACalls.args hc ha
theorem AQX {h H:Hp}(hk:∀(k:Nat) (y:ABlk),h[k]?=some y->H[k]?=some y)(_:h.length<=H.length):ext h H:=by
 refine⟨H.drop h.length,?_⟩;apply List.ext_getElem?;intro i;by_cases hi:i<h.length
 .grind
 .grind
theorem getD_set_eq {l:List Int}{i:Nat}(h:i<l.length)(x:Int):(l.set i x).getD i 0=x:=by simp_all
theorem getD_set_ne {l:List Int}{i j:Nat}(h:i≠j)(x:Int):(l.set i x).getD j 0=l.getD j 0:=by simp_all
theorem AZW {a:Nat}(h:a<=8):(2:Int)^a<=256:=by
 have:a=0∨a=1∨a=2∨a=3∨a=4∨a=5∨a=6∨a=7∨a=8:=U;rcases this with rfl|rfl|rfl|rfl|rfl|rfl|rfl|rfl|rfl<;>decide
theorem WZ {v:Vr}(h:vrE v=0):IJ v.name=true∧1<=v.width∧v.width<=8∧0<=v.mode∧v.mode<=2∧0<=v.value∧v.value<2^v.width.toNat∧(v.mode≠0->v.value=0):=by
 unfold vrE at h;by_cases hv:IJ v.name=true
 .rw[if_pos hv] at h
  have hb:TK v=false:=by simp_all
  unfold TK at hb;simp only[Bool.or_eq_false_iff,decide_eq_false_iff_not,Bool.and_eq_false_iff] at hb;obtain⟨⟨⟨⟨⟨⟨h1,h2⟩,h3⟩,h4⟩,h5⟩,h6⟩,h7⟩:=hb;refine⟨hv,U,U,U,U,U,U,fun hm=>?_⟩;rcases h7 with q|q
  .simp at q; omega
  .simpa using q
 .simp_all
structure PV (p:Pr):Prop where
 len:p.vars.length<=16
 vr:∀v∈p.vars,vrE v=0
 nd:∀(i:Nat) (hi:i<p.vars.length),plc (p.vars.take i) p.vars[i].name<0
 bits:OQ p.vars<=20
 g:gOK p.vars p.groups=true
theorem PV.of (h:NI p=0):PV p:=by
 unfold NI at h;have h1:P6 p.vars=0:=by omega
 rw[if_neg (BN h1)] at h;have h2:QG p.vars (p.hard++p.soft)=0:=by omega
 rw[if_neg (BN h2)] at h;have h3:RP p.vars p.dists=0:=by omega
 rw[if_neg (BN h3)] at h;have h4:gOK p.vars p.groups=true:=by simp_all
 unfold P6 at h1;have a1:¬p.vars.length>16:=fun q=>by rw[if_pos q] at h1; exact absurd h1 D5
 rw[if_neg a1] at h1;have a2:Bd.fstE vrE p.vars=0:=by omega
 rw[if_neg (BN a2)] at h1;have a3:AMA p.vars=false:=by grind
 rw[if_neg (by rw[a3]; decide)] at h1;have a4:(p.vars.any fun v=>pI p.vars v.name)=false:=by grind
 rw[if_neg (by rw[a4]; decide)] at h1;have a5:¬OQ p.vars>20:=fun q=>by rw[if_pos q] at h1; exact absurd h1 D5
 refine⟨U,fun v hv=>fstE_zero a2 v hv,fun i hi=>?_,U,h4⟩;have:=of_decide_eq_false a3;have q:¬0<=plc (p.vars.take i) p.vars[i].name:=fun q=>this ⟨⟨i,hi⟩,q⟩
 omega
structure AOk (p:Pr) (a:List Int):Prop where
 len:a.length=p.vars.length
 st:∀(i:Nat) (hi:i<p.vars.length),p.vars[i].mode=0->a.getD i 0=p.vars[i].value
 rn:∀(i:Nat) (hi:i<p.vars.length),p.vars[i].mode≠0->0<=a.getD i 0∧a.getD i 0<2^p.vars[i].width.toNat
theorem AOk.rng (P:PV p)(h:AOk p a)(i:Nat)(hi:i<p.vars.length):0<=a.getD i 0∧a.getD i 0<256:=by
 obtain⟨_,w1,w8,_,_,v0,v1,_⟩:=WZ (P.vr _ (jH hi));have hp:=AZW (U:p.vars[i].width.toNat<=8);by_cases hm:p.vars[i].mode=0
 .rw[h.st i hi hm]; omega
 .have:=h.rn i hi hm; omega
def nxK (vs:List Vr):Nat->List Int->Option (List Int)
 | 0,_=>none
 | k+1,a=>match vs[k]? with
   | some v=>if v.mode=0 then nxK vs k a else if a.getD k 0+1<2^v.width.toNat then some (a.set k (a.getD k 0+1)) else nxK vs k (a.set k 0)
   | none=>none
def rkP (vs:List Vr)(a:List Int):Nat->Nat
 | 0=>0
 | k+1=>match vs[k]? with
   | some v=>if v.mode=0 then rkP vs a k else rkP vs a k*2^v.width.toNat+(a.getD k 0).toNat
   | none=>rkP vs a k
def oM (vs:List Vr):Nat->Nat
 | 0=>1
 | k+1=>match vs[k]? with
   | some v=>if v.mode=0 then oM vs k else oM vs k*2^v.width.toNat
   | none=>oM vs k
theorem uF (vs:List Vr)(a:List Int)(z:Int):∀(k i:Nat),k<=i->rkP vs (a.set i z) k=rkP vs a k
 | 0,_,_=>rfl
 | k+1,i,h=>by
   simp only[rkP];rw[uF vs a z k i U,getD_set_ne U]
theorem lL {p:Pr}:∀(k:Nat) (a:List Int),k<=p.vars.length->AOk p a->match nxK p.vars k a with
  | some a'=>AOk p a'∧rkP p.vars a' k=rkP p.vars a k+1∧∀i,k<=i->a'.getD i 0=a.getD i 0
  | none=>True
 | 0,a,_,_=>trivial
 | k+1,a,hk,h=>by
   have hk':k<p.vars.length:=U;have hak:k<a.length:=by rw[h.len]; exact hk'
   unfold nxK;simp only[jM hk'];by_cases hm:p.vars[k].mode=0
   .rw[if_pos hm]
    have ih:=lL k a U h
    cases hn:nxK p.vars k a with
    | none=>trivial
    | some a' =>
      rw[hn] at ih;obtain⟨i1,i2,i3⟩:=ih;refine⟨i1,?_,fun i hi=>i3 i U⟩;simp only[rkP,jM hk',if_pos hm];exact i2
   .rw[if_neg hm]
    obtain⟨q0,q1⟩:=h.rn k hk' hm
    have setok:∀z:Int,0<=z->z<2^p.vars[k].width.toNat->AOk p (a.set k z):=fun z z0 z1=>by
     refine⟨by rw[List.length_set]; exact h.len,fun i hi hmi=>?_,fun i hi hmi=>?_⟩
     .by_cases e:i=k
      .subst e; exact absurd hmi hm
      .rw[getD_set_ne (fun q=>e q.symm)]; exact h.st i hi hmi
     .by_cases e:i=k
      .simp_all
      .rw[getD_set_ne (fun q=>e q.symm)]; exact h.rn i hi hmi
    by_cases hz:a.getD k 0+1<2^p.vars[k].width.toNat
    .rw[if_pos hz]
     refine⟨setok _ U hz,?_,fun i hi=>getD_set_ne U _⟩;simp only[rkP,jM hk',if_neg hm];rw[uF _ _ _ _ _ (jF k),getD_set_eq hak];omega
    .rw[if_neg hz]
     have hp:(0:Int)<2^p.vars[k].width.toNat:=Int.pow_pos D5;have ih:=lL k (a.set k 0) U (setok 0 (Int.le_refl 0) hp)
     cases hn:nxK p.vars k (a.set k 0) with
     | none=>trivial
     | some a' =>
       rw[hn] at ih;obtain⟨i1,i2,i3⟩:=ih;refine⟨i1,?_,fun i hi=>by rw[i3 i U]; exact getD_set_ne U _⟩;simp only[rkP,jM hk',if_neg hm];rw[i2,i3 k (jF k),getD_set_eq hak,uF _ _ _ _ _ (jF k)];have e:(((2:Nat)^p.vars[k].width.toNat:Nat):Int)=2^p.vars[k].width.toNat:=by rw[Int.natCast_pow]; rfl
       have:(a.getD k 0).toNat+1=2^p.vars[k].width.toNat:=U;rw[qE];simp only[Int.toNat_zero];omega
theorem AEM {p:Pr}{a:List Int}(h:AOk p a):∀k,k<=p.vars.length->rkP p.vars a k<oM p.vars k
 | 0,_=>by simp [rkP,oM]
 | k+1,hk=>by
   have hk':k<p.vars.length:=U;have ih:=AEM h k U;simp only[rkP,oM,jM hk'];by_cases hm:p.vars[k].mode=0
   .rw[if_pos hm,if_pos hm]; exact ih
   .rw[if_neg hm,if_neg hm]
    obtain⟨q0,q1⟩:=h.rn k hk' hm;have e:(((2:Nat)^p.vars[k].width.toNat:Nat):Int)=2^p.vars[k].width.toNat:=by rw[Int.natCast_pow]; rfl
    have h1:(a.getD k 0).toNat<2^p.vars[k].width.toNat:=U;have h2:(rkP p.vars a k+1)*2^p.vars[k].width.toNat<=oM p.vars k*2^p.vars[k].width.toNat:=Nat.mul_le_mul_right _ ih;rw[qE] at h2;omega
def AEI (p:Pr)(l:List Ex)(a:List Int):Bool:=l.all fun e => !(ZH (OZ p.vars a) e==0)
def oP (p:Pr)(l:List Ex):Nat->List Int->Option (List Int)
 | 0,_=>none
 | n+1,a=>if AEI p l a=true then some a else match nxK p.vars p.vars.length a with
   | some b=>oP p l n b
   | none=>none
def lft (p:Pr)(a:List Int):Nat:=oM p.vars p.vars.length-rkP p.vars a p.vars.length
theorem AUR (h:AOk p a):0<lft p a:=by
 have:=AEM h p.vars.length (jF _);unfold lft; omega
theorem ABE {b:List Int}(h:AOk p a)(hn:nxK p.vars p.vars.length a=some b):AOk p b∧lft p b+1=lft p a:=by
 have hs:=lL p.vars.length a (jF _) h;rw[hn] at hs;obtain⟨h1,h2,_⟩:=hs;have h3:=AEM h1 p.vars.length (jF _);exact⟨h1,by unfold lft; omega⟩
def dE (p:Pr):List Int:=p.vars.map Vr.value
theorem AVF (P:PV p):AOk p (dE p):=by
 have hg:∀(i:Nat) (hi:i<p.vars.length),(dE p).getD i 0=p.vars[i].value:=fun i hi=>by
  unfold dE;rw[List.getD_eq_getElem?_getD,List.getElem?_map,jM hi]; rfl
 refine⟨by unfold dE; simp,fun i hi _=>hg i hi,fun i hi hm=>?_⟩;obtain⟨_,_,_,_,_,v0,v1,_⟩:=WZ (P.vr _ (jH hi));rw[hg i hi];exact⟨v0,v1⟩
def UL (p:Pr)(l:List Ex):Option (List Int):=oP p l (lft p (dE p)) (dE p)
end Go.Proofs.YtiihpnicbekebaaGreatDoor.Bl
namespace Go.Proofs.YtiihpnicbekebaaGreatDoor.Xe
open Sm Bins Cov Wd Go.RowKit
variable {b k n0 o q:Nat} {xs:List Int} {xss:List (List Int)} {H H':Hp} {bs:List Nat} (G:Nat->AV )
theorem AQK {α:Type}{f:α->List AV}{ys:List α}(h:ys≠[]):fzG k f ys=.sl .any k (ys.map f):=by
 cases ys with
 | nil=>exact absurd rfl h
 | cons y ys=>rfl
theorem AZ2 (o off len:Nat):JM jA 32 .eql (.own o off len) (.sl .nil 0 [])=some (.bool false):=A8
theorem AMK {h:Hp}{off len:Nat}(ho:h[o]?=some (zZ 1 (xs.map qencI)))(hl:off+len=xs.length)(h0:0<len)(hm:xs.length<=1048576):
  ACalls (En G) 189 [.own o off len] h fun v H=>v=.own h.length 0 len∧H=h++[zZ 1 ((xs.drop off).map qencI)]:=by
 refine acT Tryz.func189 2 ?_
 have hc:JB h (.own o off len)=some (1,(xs.drop off).map qencI):=by
  rw[JS ho NU,<-List.map_drop,jI NU]
 have hne:(xs.drop off).map qencI≠[]:=by
  intro e;have:=congrArg List.length e;simp at this; omega
 refine BB @AZ2 @AR0 ?_;refine KY (dZ tR sz3 AM3 AF8 hc hne (IV NU U)) ?_;refine AO ?_;exact⟨by simp; omega,BA⟩
def aP (p:Nat×List Int):List AV:=[.own p.1 0 p.2.length]
structure NL (n0:Nat) (H:Hp) (o:Nat) (bs:List Nat) (xss:List (List Int)):Prop where
 len:bs.length=xss.length
 top:xss≠[]->H[o]?=some (zZ 1 ((bs.zip xss).map aP))
 row:∀(i:Nat) (hb:i<bs.length) (hx:i<xss.length),H[bs[i]]?=some (zZ 1 (xss[i].map qencI))
 nodup:bs.Nodup
 out:xss≠[]->o ∉ bs
 lo:∀b∈bs,n0<=b
 lo':xss≠[]->n0<=o
def nlV (o:Nat):List (List Int)->AV
 | []=>.sl .nil 0 []
 | _::xss=>.own o 0 (xss.length+1)
theorem V8 (o:Nat)(h:xss≠[]):nlV o xss=.own o 0 xss.length:=by
 cases xss with
 | nil=>exact absurd rfl h
 | cons x xs=>rfl
theorem U0 (o:Nat)(xss:List (List Int)):(nlV o xss).leaf=true:=by cases xss<;>rfl
theorem NL.nil (n0:Nat)(H:Hp)(o:Nat):NL n0 H o [] []:=⟨rfl,fun h=>absurd rfl h,fun i hb=>by simp at hb,List.nodup_nil,fun h=>absurd rfl h,fun b hb=>(by cases hb),fun h=>absurd rfl h⟩
section
variable {n0:Nat} {H:Hp} {o:Nat} {bs:List Nat} {xss:List (List Int)} (N:NL n0 H o bs xss)
include N
theorem NL.keep (hk:∀b x,((xss≠[]∧b=o)∨b∈bs)->H[b]?=some x->H'[b]?=some x):NL n0 H' o bs xss :=
 ⟨N.len,fun h=>hk _ _ (.inl ⟨h,rfl⟩) (N.top h),fun i hb hx=>hk _ _ (.inr (jH hb)) (N.row i hb hx),N.nodup,N.out,N.lo,N.lo'⟩
theorem NL.app (x:Hp):NL n0 (H++x) o bs xss:=N.keep fun _ _ _ hb=>IK hb
theorem NL.mem_lt (hb:b∈bs):b<H.length:=by
 obtain⟨i,hi,rfl⟩:=List.getElem_of_mem hb;exact AC (N.row i hi (by rw[<-N.len]; exact hi))
theorem NL.top_lt (h:xss≠[]):o<H.length:=AC (N.top h)
theorem NL.set {i:Nat}(hi:i<bs.length)(ys:List Int)(hl:∀hx:i<xss.length,ys.length=xss[i].length):NL n0 (H.set bs[i] (zZ 1 (ys.map qencI))) o bs (xss.set i ys):=by
 have hlen:=N.len;have hix:i<xss.length:=U;have hne:xss≠[]:=by intro e; subst e; simp at hix
 have hob:o≠bs[i]:=fun e=>N.out hne (by rw[e]; exact jH hi)
 refine⟨by rw[qX]; exact hlen,fun _=>?_,fun j hb hx=>?_,N.nodup,fun _=>N.out hne,N.lo,fun _=>N.lo' hne⟩
 .have e:(bs.zip (xss.set i ys)).map aP=(bs.zip xss).map aP:=by
   refine List.ext_getElem BA fun j h1 h2=>?_
   simp only[List.getElem_map,List.getElem_zip,aP,List.getElem_set];split
   .rename_i e; subst e; rw[hl hix]
   .rfl
  rw[e,zX (Ne.symm hob)]; exact N.top hne
 .rcases Nat.decEq i j with h|h
  .have hbb:bs[j]≠bs[i]:=fun e=>h (by
    have:=(List.getElem_inj N.nodup).1 e
    exact this.symm)
   rw[zX (Ne.symm hbb)];have:=N.row j hb (by rw[qX] at hx; exact hx);rw[this];congr 3;rw[List.getElem_set_ne h]
  .subst h
   rw[List.getElem?_set_self (N.mem_lt (jH hi))];congr 3;rw[List.getElem_set_self]
theorem NL.rowAt {i:Nat}(hi:i<xss.length):H[o]?=some (zZ 1 ((bs.zip xss).map aP))∧((bs.zip xss).map aP)[i]?=some [.own (bs[i]'(by rw[N.len]; exact hi)) 0 xss[i].length]:=by
 have hne:xss≠[]:=by intro e; subst e; simp at hi
 refine⟨N.top hne,?_⟩;have hlen:=N.len;rw[List.getElem?_map,List.getElem?_eq_getElem (by rw[List.length_zip]; omega),List.getElem_zip]; rfl
theorem NL.ld {i:Nat}(hi:i<xss.length):BU jA H 32 (.ptr o i 0)=some (.own (bs[i]'(by rw[N.len]; exact hi)) 0 xss[i].length):=by
 obtain⟨h1,h2⟩:=N.rowAt hi;rw[BL O6 h1 h2]; rfl
theorem NL.ix {i:Nat}(hi:i<xss.length):JJ 1 H (nlV o xss) (.n (i:Nat))=some (.ptr o i 0):=by
 have hne:xss≠[]:=by intro e; subst e; simp at hi
 rw[V8 o hne,H8 (N.top hne) hi,jG]
theorem NL.snoc {t:Nat}(hb:H[b]?=some (zZ 1 (xs.map qencI)))(hlo:n0<=b)(hlo':n0<=H.length)(hbn:b ∉ bs)(hbo:xss≠[]->b≠o)(ht:H[t]?=some (zZ 1 [[.own b 0 xs.length]]))(hm:xss.length<=1048576):
  ∃H',EG jA true H 25 25 (nlV o xss) (.own t 0 1)=some (nlV H.length (xss++[xs]),H')∧NL n0 H' H.length (bs++[b]) (xss++[xs])∧(∀q x,H[q]?=some x->¬isB (nlV o xss) q->H'[q]?=some x)∧H'.length=H.length+1∧∀e:Hp,e.length<=n0->ext e H->ext e H':=by
 have hc:JB H (.own t 0 1)=some (1,[[.own b 0 xs.length]]):=by rw[JS ht BA]; rfl
 have hlen:=N.len
 have hzip:((bs++[b]).zip (xss++[xs])).map aP=(bs.zip xss).map aP++[[.own b 0 xs.length]]:=by
  rw[List.zip_append hlen,List.map_append]; rfl
 have hnd:(bs++[b]).Nodup:=List.nodup_append.2 ⟨N.nodup,BA,fun a ha c hc e=>by simp at hc; subst hc; subst e; exact hbn ha⟩
 have hlos:∀q∈bs++[b],n0<=q:=fun q hq=>by
  rcases zV.1 hq with h|h
  .exact N.lo q h
  .simp at h; omega
 have hlts:∀q∈bs++[b],q<H.length:=fun q hq=>by
  rcases zV.1 hq with h|h
  .exact N.mem_lt h
  .grind
 have hrows:∀(H':Hp),(∀q x,H[q]?=some x->¬isB (nlV o xss) q->H'[q]?=some x)->∀(i:Nat) (h1:i<(bs++[b]).length) (h2:i<(xss++[xs]).length),H'[(bs++[b])[i]]?=some (zZ 1 ((xss++[xs])[i].map qencI)):=by
  intro H' hk i h1 h2
  have hnb:∀q,q∈bs++[b]->¬isB (nlV o xss) q:=fun q hq hi=>by
   cases xss with
   | nil=>exact hi
   | cons y ys =>
     have e:o=q:=hi;subst e;rcases zV.1 hq with h|h
     .exact N.out BA h
     .simp at h; exact hbo BA h.symm
  refine hk _ _ ?_ (hnb _ (jH h1));rcases Nat.lt_or_ge i bs.length with h|h
  .rw[List.getElem_append_left h,List.getElem_append_left U]
   exact N.row i h U
  .simp_all
 cases hx:xss with
 | nil =>
   subst hx;have hbs:bs=[]:=List.eq_nil_of_length_eq_zero (BN hlen);subst hbs;refine⟨H++[zZ 1 [[.own b 0 xs.length]]],?_,⟨BA,fun _=>A7 _ _,hrows _ fun q x hq _=>IK hq,hnd,fun _ hq=>by have:=hlts _ hq; omega,hlos,fun _=>hlo'⟩,fun q x hq _=>IK hq,BA,fun e _ he=>he.app _⟩;exact SE (k':=0) ud25 AJ6 zs25 by25 hc BA (IV BA U)
 | cons y ys =>
   have hne:xss≠[]:=by rw[hx]; simp
   have htop:=N.top hne
   have hco:JB H (.own o 0 xss.length)=some (1,(bs.zip xss).map aP):=by
    rw[JS htop NU,zI,jI NU]
   have hap:=QT ud25 AJ6 zs25 by25 hco hc BA (IV NU U)
   have hk:∀q x,H[q]?=some x->¬isB (nlV o xss) q->(H.set o .dead++[zZ 1 ((bs.zip xss).map aP++[[.own b 0 xs.length]])])[q]?=some x:=fun q x hq hn=>by
    rw[V8 o hne] at hn;have hn':¬o=q:=hn;refine IK ?_;rw[List.getElem?_set,if_neg hn']; exact hq
   rw[<-hx];refine⟨H.set o .dead++[zZ 1 ((bs.zip xss).map aP++[[.own b 0 xs.length]])],?_,⟨by simp [hlen],fun _=>?_,hrows _ hk,hnd,fun _ hq=>by have:=hlts _ hq; omega,hlos,fun _=>hlo'⟩,hk,BA,fun e he hex=>(hex.set (by have:=N.lo' hne; omega) _).app _⟩
   .rw[V8 o hne,V8 H.length BA,hap]
    simp;omega
   .simp_all
end
theorem AJG (h:Hp)(b l:Nat):C9 jA true h 25 1 [(0,.own b 0 l)]=some (.own h.length 0 1,h++[zZ 1 [[.own b 0 l]]]):=A8
theorem uW (h:isB (nlV o xss) q):xss≠[]∧q=o:=by
 cases xss with
 | nil=>exact h.elim
 | cons x xs=>exact⟨BA,Eq.symm h⟩
theorem NL.frz (N:NL n0 H o bs xss)(n d:Nat)(hn:n<=n0):FN n H (d+3) (nlV o xss)=fzG 1 NM (xss.map fun xs=>⟨.any,xs⟩):=by
 cases hx:xss with
 | nil=>rfl
 | cons y ys =>
   have hne:xss≠[]:=by rw[hx]; simp
   rw[<-hx,V8 o hne,frzF_own n H (d+2) o 0 xss.length 1 _ (by have:=N.lo' hne; omega) (N.top hne)]
   have e:(((bs.zip xss).map aP).drop 0).take xss.length=(bs.zip xss).map aP:=by
    rw[zI,jI NU]
   have hlen:=N.len
   have e2:((bs.zip xss).map aP).map (·.map (FN n H (d+2)))=(xss.map fun xs=>(⟨.any,xs⟩:Is)).map NM:=by
    refine List.ext_getElem NU fun j h1 h2=>?_
    have hj1:j<bs.length:=by simp at h1; omega
    have hj2:j<xss.length:=U;simp only[List.getElem_map,List.getElem_zip,aP,jK,jP,NM];rw[frz_own (d:=d) frzI (qW hn (N.lo _ (jH hj1))) (N.row j hj1 hj2)]
   rw[e,e2,if_pos,AQK (BN hne)];refine⟨by simp; omega,?_⟩;rw[List.all_eq_true];intro row hr;obtain⟨x,_,rfl⟩:=List.mem_map.1 hr;rfl
def cvR (po:Nat)(P:List (List Int))(co:Nat)(C:List (List Int))(sam ill:Int):List AV:=[nlV po P,nlV co C,.n sam,.n ill]
structure CS (n0:Nat) (H:Hp) (cb tb po co:Nat) (pb cbs:List Nat) (P C:List (List Int)) (sam ill:Int) (v3:AV):Prop where
 gc:H[cb]?=some (zZ 4 [cvR po P co C sam ill])
 gt:H[tb]?=some (zZ 1 [[v3]])
 np:NL n0 H po pb P
 nc:NL n0 H co cbs C
 dis:∀b∈pb,b ∉ cbs
 xcp:cb ∉ pb
 xcc:cb ∉ cbs
 xtp:tb ∉ pb
 xtc:tb ∉ cbs
 xpo:P≠[]->po ∉ cbs∧cb≠po∧tb≠po
 xco:C≠[]->co ∉ pb∧cb≠co∧tb≠co
 ct:cb≠tb
def NLB (o:Nat)(bs:List Nat)(xss:List (List Int))(b:Nat):Prop:=(xss≠[]∧b=o)∨b∈bs
theorem NL.lt (N:NL n0 H o bs xss)(hb:NLB o bs xss b):n0<=b∧b<H.length:=by
 rcases hb with⟨h,rfl⟩|h
 .exact⟨N.lo' h,N.top_lt h⟩
 .exact⟨N.lo _ h,N.mem_lt h⟩
theorem NL.base (N:NL n0 H o bs xss)(h:k<=n0):NL k H o bs xss :=
 ⟨N.len,N.top,N.row,N.nodup,N.out,fun b hb=>qW h (N.lo b hb),fun q=>qW h (N.lo' q)⟩
theorem xP (h:isB (nlV o xss) q):NLB o bs xss q:=.inl (uW h)
theorem AD0 {t:Nat}(h:NLB t (bs++[b]) (xss++[xs]) q):q=t∨NLB o bs xss q∨q=b:=by
 rcases h with⟨_,rfl⟩|h
 .exact .inl rfl
 .rcases zV.1 h with h|h
  .exact .inr (.inl (.inr h))
  .exact .inr (.inr (BN h))
def zP (m:Mo):List (List Int):=m.pts.map fun p=>zeros p.bins.length
def zC (m:Mo):List (List Int):=m.crs.map fun c=>zeros (KD (szs m c.pts))
theorem AM5 (m:Mo):(zP m).length=m.pts.length:=by simp [zP]
theorem AM6 (m:Mo):(zC m).length=m.crs.length:=by simp [zC]
theorem ATC (m:Mo)(i:Nat)(hi:i<m.pts.length):(zP m).take (i+1)=(zP m).take i++[zeros m.pts[i].bins.length]:=by
 have hl:i<(zP m).length:=by unfold zP; simpa using hi
 rw[jY hl]; simp [zP]
theorem ATD (m:Mo)(i:Nat)(hi:i<m.crs.length):(zC m).take (i+1)=(zC m).take i++[zeros (KD (szs m m.crs[i].pts))]:=by
 have hl:i<(zC m).length:=by unfold zC; simpa using hi
 rw[jY hl]; simp [zC]
theorem pU (n:Nat):(zeros n).length=n:=by simp [zeros]
structure NC (n0:Nat) (H:Hp) (po:Nat) (pb:List Nat) (co:Nat) (cbs:List Nat) (P C:List (List Int)):Prop where
 np:NL n0 H po pb P
 nc:NL n0 H co cbs C
 dis:∀b,NLB po pb P b->¬NLB co cbs C b
theorem NC.keep {n0:Nat}{H H':Hp}{po:Nat}{pb:List Nat}{co:Nat}{cbs:List Nat}{P C:List (List Int)}(N:NC n0 H po pb co cbs P C)(hk:∀b x,n0<=b->b<H.length->H[b]?=some x->H'[b]?=some x):NC n0 H' po pb co cbs P C :=
 ⟨N.np.keep fun b x hb h=>hk b x (N.np.lt hb).1 (N.np.lt hb).2 h,N.nc.keep fun b x hb h=>hk b x (N.nc.lt hb).1 (N.nc.lt hb).2 h,N.dis⟩
theorem NC.base {n0 k:Nat}{H:Hp}{po:Nat}{pb:List Nat}{co:Nat}{cbs:List Nat}{P C:List (List Int)}(N:NC n0 H po pb co cbs P C)(h:k<=n0):NC k H po pb co cbs P C:=⟨N.np.base h,N.nc.base h,N.dis⟩
theorem NC.cs {n0:Nat}{H:Hp}{po:Nat}{pb:List Nat}{co:Nat}{cbs:List Nat}{P C:List (List Int)}(N:NC n0 H po pb co cbs P C){cb tb:Nat}{sam ill:Int}{v3:AV}(gc:H[cb]?=some (zZ 4 [cvR po P co C sam ill]))(gt:H[tb]?=some (zZ 1 [[v3]]))(ht:cb≠tb)
  (hc:∀b,NLB po pb P b∨NLB co cbs C b->b≠cb∧b≠tb):CS n0 H cb tb po co pb cbs P C sam ill v3:=by
 refine⟨gc,gt,N.np,N.nc,fun b h1 h2=>N.dis b (.inr h1) (.inr h2),fun h=>(hc _ (.inl (.inr h))).1 rfl,fun h=>(hc _ (.inr (.inr h))).1 rfl,fun h=>(hc _ (.inl (.inr h))).2 rfl,fun h=>(hc _ (.inr (.inr h))).2 rfl,fun h=>⟨fun q=>N.dis _ (.inl ⟨h,rfl⟩) (.inr q),?_,?_⟩,fun h=>⟨fun q=>N.dis _ (.inr q) (.inl ⟨h,rfl⟩),?_,?_⟩,ht⟩
 .exact fun e=>(hc _ (.inl (.inl ⟨h,rfl⟩))).1 e.symm
 .exact fun e=>(hc _ (.inl (.inl ⟨h,rfl⟩))).2 e.symm
 .exact fun e=>(hc _ (.inr (.inl ⟨h,rfl⟩))).1 e.symm
 .exact fun e=>(hc _ (.inr (.inl ⟨h,rfl⟩))).2 e.symm
structure EmO (h H:Hp) (m:Mo) (po:Nat) (pb:List Nat) (co:Nat) (cbs:List Nat) (v3:AV):Prop where
 nc:NC h.length H po pb co cbs (zP m) (zC m)
 o3:outG 1 (fun _:Pt=>LZ) h m.pts v3 H
theorem AL6 (m:Mo)(hm:MoOk m)(hg:Cov.Good m)(h:Hp):ACalls (En G) 75 [.agg (DJ m)] h fun v H=>ext h H∧∃po pb co cbs v3,v=.tup [.agg (MQ (nlV po (zP m)) (nlV co (zC m))),.agg [v3]]∧EmO h H m po pb co cbs v3:=by
 have hm1:=hm.np;have hm2:=hm.nc;have hnum:=hg.num;refine H6 (H:=hint [22,23,24,45,46,47] []) (enM G) Tryz.func75 rfl (by kernel_rfl) (by kernel_rfl) (jC (by kernel_rfl)) ?_;show awp _ _ _ _ _ (LU _ [.cell 2 46,.cell 3 94] _);have E:=Em.mk' h m;refine DT @bxM ASO A1G ?_
 generalize h++[zZ 2 [DJ m]]++[zZ 4 [KR]]++[zZ 1 [LZ]]++[zZ 4 [KR]]++[zZ 1 [LZ]]=H0 at E|-
 generalize (h++[zZ 2 [DJ m]]++[zZ 4 [KR]]++[zZ 1 [LZ]]++[zZ 4 [KR]]).length=b5 at E|-
 generalize (h++[zZ 2 [DJ m]]++[zZ 4 [KR]]++[zZ 1 [LZ]]).length=b4 at E|-
 generalize (h++[zZ 2 [DJ m]]++[zZ 4 [KR]]).length=b3 at E|-
 generalize (h++[zZ 2 [DJ m]]).length=b2 at E|-
 have o2:=E.o2; have o3:=E.o3; have o4:=E.o4; have o5:=E.o5;have hlt0:=E.lt;refine BC @E.m0 ?_;refine ET 0 (fun F H=>∃po pb v3,F 1=.ptr h.length 0 0∧F 2=.ptr b2 0 0∧F 3=.ptr b3 0 0∧F 4=.ptr b4 0 0∧F 5=.ptr b5 0 0∧Em h H m b2 b3 b4 b5 (nlV po (zP m)) (.sl .nil 0 []) v3∧NL H0.length H po pb (zP m)∧outG 1 (fun _:Pt=>LZ) H0 m.pts v3 H∧(∀b,NLB po pb (zP m) b->¬isB v3 b)∧H0.length<=H.length) (fun _ _=>False) ?_ ?_ (fun _ _ hh=>hh.elim)
 .refine BI (fun n F H=>∃i po pb v3,n+i=m.pts.length∧F 1=.ptr h.length 0 0∧F 2=.ptr b2 0 0∧F 3=.ptr b3 0 0∧F 4=.ptr b4 0 0∧F 5=.ptr b5 0 0∧F 11=.sl m.pm 6 (m.pts.map FY)∧F 12=.n m.pts.length∧F 13=.n (i:Nat)∧Em h H m b2 b3 b4 b5 (nlV po ((zP m).take i)) (.sl .nil 0 []) v3∧NL H0.length H po pb ((zP m).take i)∧outG 1 (fun _:Pt=>LZ) H0 (m.pts.take i) v3 H∧(∀b,NLB po pb ((zP m).take i) b->¬isB v3 b)∧H0.length<=H.length) m.pts.length
   ⟨0,0,[],.sl .nil 0 [],BA,AQ,AQ,AQ,AQ,AQ,AQ,AQ,AQ,by rw[qB]; exact E,by rw[qB]; exact NL.nil _ _ _,by rw[qB]; exact outG.nil _ _ _ _,fun b _ hb'=>hb',jF _⟩ ?_
  clear E;rintro n F H ⟨i,po,pb,v3,hi,f1,f2,f3,f4,f5,f11,f12,f13,E,N,ho3,hdis,hle⟩;refine BB f12 f13 ?_;refine D8 ?_ ?_<;>intro hi'
  .have h64:=(hg.full _ (jH hi')).2
   have hP:=ATC m i hi';have hzl:=pU m.pts[i].bins.length;have htl:((zP m).take i).length<=1048576:=by rw[jV,AM5]; omega
   simp -implicitDefEqProofs only[vQ,jW,jR,jS,zK,CV,↓reduceIte,jB,enP,RJ,jO,f11,f13,CQ hi',DR fS ZI IW hi',AW6,ATN _ _ [.str ⟨#[]⟩,.n 0,.n 0,.str ⟨#[]⟩,.sl .nil 0 [],.sl .nil 0 []] rfl];have hl1:(H++[zZ 6 [FY m.pts[i]]]).length=H.length+1:=BA;have E1:=E.app [zZ 6 [FY m.pts[i]]];have N1:=N.app [zZ 6 [FY m.pts[i]]];have ho1:=ho3.app [zZ 6 [FY m.pts[i]]];have lp:BU jA (H++[zZ 6 [FY m.pts[i]]]) 80 (.ptr H.length 0 5)=some (.sl m.pts[i].bm 4 (m.pts[i].bins.map IP)):=by rw[EE O4,OO]
   generalize H++[zZ 6 [FY m.pts[i]]]=Ha at hl1 E1 N1 ho1 lp|-
   have N2:=(N1.app [zZ 1 ((zeros m.pts[i].bins.length).map qencI)]).app [zZ 1 [[.own Ha.length 0 m.pts[i].bins.length]]];have E2:=(E1.app [zZ 1 ((zeros m.pts[i].bins.length).map qencI)]).app [zZ 1 [[.own Ha.length 0 m.pts[i].bins.length]]];have ho2:=(ho1.app [zZ 1 ((zeros m.pts[i].bins.length).map qencI)]).app [zZ 1 [[.own Ha.length 0 m.pts[i].bins.length]]];have gb:=AL (x:=zZ 1 [[.own Ha.length 0 m.pts[i].bins.length]]) (A7 Ha (zZ 1 ((zeros m.pts[i].bins.length).map qencI)));have gt:=A7 (Ha++[zZ 1 ((zeros m.pts[i].bins.length).map qencI)]) (zZ 1 [[.own Ha.length 0 m.pts[i].bins.length]]);have hl2:(Ha++[zZ 1 ((zeros m.pts[i].bins.length).map qencI)]++[zZ 1 [[.own Ha.length 0 m.pts[i].bins.length]]]).length=Ha.length+2:=BA;refine DV A8 ?_;simp -implicitDefEqProofs only[vQ,jW,jR,jS,zK,zT,JD,WX,IY,WY,I8,↓reduceIte,jB,jL,Nat.add_zero,enP,vK,cV,KI,f4,E1.l4,lp,List.length_map,mkI _ _ (U:m.pts[i].bins.length<=1048576),AJG]
   generalize Ha++[zZ 1 ((zeros m.pts[i].bins.length).map qencI)]++[zZ 1 [[.own Ha.length 0 m.pts[i].bins.length]]]=Hb at N2 E2 ho2 gb gt hl2|-
   generalize (Ha++[zZ 1 ((zeros m.pts[i].bins.length).map qencI)]).length=tb at gt|-
   obtain⟨H2,hap,N3,hk,hl3,hx3⟩:=N2.snoc gb U U (fun q=>by have:=N.mem_lt q; omega) (fun q e=>by have:=N.top_lt q; omega) (by rw[hzl]; exact gt) htl;rw[<-hP] at N3 hap;have hne:(zP m).take (i+1)≠[]:=by rw[hP]; simp
   have E3:=E2.keep hk (fun b hb=>by
    obtain⟨q,rfl⟩:=uW hb
    have:=N.lo' q; omega) (hx3 h U)
   rw[V8 _ hne] at hap;refine KY hap ?_;have E4:=E3.set4 (.own Hb.length 0 ((zP m).take (i+1)).length) (.sl .nil 0 []);have ho4:=(ho2.keepA hk (fun b hb hb'=>hdis b (xP hb') hb)).setB (b:=b4) U (zZ 4 [MQ (.own Hb.length 0 ((zP m).take (i+1)).length) (.sl .nil 0 [])]);have N4:NL H0.length (H2.set b4 (zZ 4 [MQ (.own Hb.length 0 ((zP m).take (i+1)).length) (.sl .nil 0 [])])) Hb.length (pb++[Ha.length]) ((zP m).take (i+1)):=N3.keep fun b x hb hg=>CZ hg (by have:=N3.lt hb; omega)
   have hl4:(H2.set b4 (zZ 4 [MQ (.own Hb.length 0 ((zP m).take (i+1)).length) (.sl .nil 0 [])])).length=H2.length:=BA;refine BB f4 @E3.s4 ?_
   generalize H2.set b4 (zZ 4 [MQ (.own Hb.length 0 ((zP m).take (i+1)).length) (.sl .nil 0 [])])=H4 at E4 ho4 N4 hl4|-
   obtain⟨v3',H5,hap3,ho5,hk3,hl5,hn3,⟨o3',l3,rfl⟩,hx5⟩:=ho4.app2 ud25 AJ6 zs25 by25 U (by rw[jV]; omega) U m.pts[i];rw[<-jY hi'] at ho5;have E5:=E4.keep hk3 (fun b hb=>by have:=ho4.lt hb; omega) (hx5 h U);have E6:=E5.set5 (.own o3' 0 l3);have ho6:=ho5.setB (b:=b5) U (zZ 1 [[.own o3' 0 l3]])
   have N5:NL H0.length (H5.set b5 (zZ 1 [[.own o3' 0 l3]])) Hb.length (pb++[Ha.length]) ((zP m).take (i+1)):=N4.keep fun b x hb hg=>CZ (hk3 b x hg (fun q=>by
    rw[hP] at hb;rcases AD0 (o:=po) hb with rfl|hb|rfl
    .have:=ho3.lt q; omega
    .exact hdis _ hb q
    .have:=ho3.lt q; omega)) (by have:=N4.lt hb; omega)
   refine E8 @AQT f5 @E4.l5 @A4Q ?_;refine KY (v:=.own o3' 0 l3) (h:=H5) hap3 ?_;refine I7 @AQT f5 @E5.s5 f13 (DF i) ?_;rw[<-V8 _ hne] at E6
   exact⟨n-1,U,i+1,Hb.length,_,.own o3' 0 l3,U,AZ,AZ,AZ,AZ,AZ,AZ,AZ,AZ,E6,N5,ho6,fun b hb hb'=>by
    have h1:=hn3 b hb';have h2:=N4.lt hb
    omega,by rw[qX]; omega⟩
  .rw[jI (by rw[AM5]; omega)] at N E hdis
   rw[jI U] at ho3;refine AO ?_;exact⟨po,pb,v3,f1,f2,f3,f4,f5,E,N,ho3,hdis,hle⟩
 .rintro F H ⟨po,pb,v3,f1,f2,f3,f4,f5,E,N,ho3,hdis,hle⟩
  refine BB f1 @E.m1 ?_;refine ET 2 (fun F H=>∃co cbs,F 2=.ptr b2 0 0∧F 3=.ptr b3 0 0∧F 4=.ptr b4 0 0∧F 5=.ptr b5 0 0∧Em h H m b2 b3 b4 b5 (nlV po (zP m)) (nlV co (zC m)) v3∧NC H0.length H po pb co cbs (zP m) (zC m)∧outG 1 (fun _:Pt=>LZ) H0 m.pts v3 H) (fun _ _=>False) ?_ ?_ (fun _ _ hh=>hh.elim)
  .refine BI (fun n F H=>∃i co cbs,n+i=m.crs.length∧F 1=.ptr h.length 0 0∧F 2=.ptr b2 0 0∧F 3=.ptr b3 0 0∧F 4=.ptr b4 0 0∧F 5=.ptr b5 0 0∧F 33=.sl m.cm 3 (m.crs.map JK)∧F 34=.n m.crs.length∧F 35=.n (i:Nat)∧Em h H m b2 b3 b4 b5 (nlV po (zP m)) (nlV co ((zC m).take i)) v3∧NL H0.length H po pb (zP m)∧NL H0.length H co cbs ((zC m).take i)∧outG 1 (fun _:Pt=>LZ) H0 m.pts v3 H∧(∀b,NLB co cbs ((zC m).take i) b->¬NLB po pb (zP m) b∧¬isB v3 b)∧H0.length<=H.length) m.crs.length
    ⟨0,0,[],BA,EM f1,EM f2,EM f3,EM f4,EM f5,AQ,AQ,AQ,by rw[qB]; exact E,N,by rw[qB]; exact NL.nil _ _ _,ho3,(fun b hb=>by
     rcases hb with⟨q,_⟩|q
     .exact absurd rfl q
     .cases q),hle⟩ ?_
   clear f1 f2 f3 f4 f5 E N ho3 hdis hle;rintro n F H ⟨i,co,cbs,hi,f1,f2,f3,f4,f5,f33,f34,f35,E,NP,N,ho3,hdis,hle⟩;refine BB f34 f35 ?_;refine D8 ?_ ?_<;>intro hi'
   .have hcg:=hg.crs _ (jH hi')
    have hfs:=hg.full.szs hcg.here;have hsl:=NV m m.crs[i].pts;have hfour:=hcg.four;have hpr:=hcg.prod;have hC:=ATD m i hi';have hzl:=pU (KD (szs m m.crs[i].pts));have htl:((zC m).take i).length<=1048576:=by rw[jV,AM6]; omega
    simp -implicitDefEqProofs only[vQ,jW,jR,jS,zK,CV,↓reduceIte,jB,enP,UN,jO,f33,f35,CQ hi',DR AGK tV NR hi',A1F,AZG _ _ [.str ⟨#[]⟩,.sl .nil 0 [],.sl .nil 0 []] rfl];have hl1:(H++[zZ 3 [JK m.crs[i]]]).length=H.length+1:=BA;have E1:=E.app [zZ 3 [JK m.crs[i]]];have N1:=N.app [zZ 3 [JK m.crs[i]]];have NP1:=NP.app [zZ 3 [JK m.crs[i]]];have ho1:=ho3.app [zZ 3 [JK m.crs[i]]];have gc1:=A7 H (zZ 3 [JK m.crs[i]])
    generalize H++[zZ 3 [JK m.crs[i]]]=Ha at hl1 E1 N1 NP1 ho1 gc1|-
    generalize hpn:KD (szs m m.crs[i].pts)=pn at hC hzl hpr;have N2:=(N1.app [zZ 1 ((zeros pn).map qencI)]).app [zZ 1 [[.own Ha.length 0 pn]]];have NP2:=(NP1.app [zZ 1 ((zeros pn).map qencI)]).app [zZ 1 [[.own Ha.length 0 pn]]];have E2:=(E1.app [zZ 1 ((zeros pn).map qencI)]).app [zZ 1 [[.own Ha.length 0 pn]]];have ho2:=(ho1.app [zZ 1 ((zeros pn).map qencI)]).app [zZ 1 [[.own Ha.length 0 pn]]];have gb:=AL (x:=zZ 1 [[.own Ha.length 0 pn]]) (A7 Ha (zZ 1 ((zeros pn).map qencI)));have gt:=A7 (Ha++[zZ 1 ((zeros pn).map qencI)]) (zZ 1 [[.own Ha.length 0 pn]]);have hl2:(Ha++[zZ 1 ((zeros pn).map qencI)]++[zZ 1 [[.own Ha.length 0 pn]]]).length=Ha.length+2:=BA;refine DV A8 ?_;refine MV @WX f1 f4 @E1.l4' (ldM E1.gm) (ldC gc1) ?_;refine⟨_,kP G m _ _ hcg.here U,?_⟩
    try refine AO ?_
    refine⟨_,cM G _ _ _ (fun n hn=>(hfs n hn).2) U,?_⟩;rw[hpn]
    try simp -implicitDefEqProofs only[vQ,jW,jR,jS,zK,zT,JD,IY,I8,↓reduceIte,jB,jL,enP,mkI _ _ (U:pn<=1048576),AJG]
    generalize Ha++[zZ 1 ((zeros pn).map qencI)]++[zZ 1 [[.own Ha.length 0 pn]]]=Hb at N2 NP2 E2 ho2 gb gt hl2|-
    generalize (Ha++[zZ 1 ((zeros pn).map qencI)]).length=tb at gt|-
    obtain⟨H2,hap,N3,hk,hl3,hx3⟩:=N2.snoc gb (by omega) (by omega) (fun q=>by have:=N.mem_lt q; omega) (fun q e=>by have:=N.top_lt q; omega) (by rw[hzl]; exact gt) htl;rw[<-hC] at N3 hap;have hne:(zC m).take (i+1)≠[]:=by rw[hC]; simp
    have E3:=E2.keep hk (fun b hb=>by
     obtain⟨q,rfl⟩:=uW hb
     have:=N.lo' q; omega) (hx3 h (by omega))
    rw[V8 _ hne] at hap;refine KY hap ?_;have E4:=E3.set4 (nlV po (zP m)) (.own Hb.length 0 ((zC m).take (i+1)).length);have ho4:=(ho2.keepA hk (fun b hb hb'=>(hdis b (xP hb')).2 hb)).setB (b:=b4) U (zZ 4 [MQ (nlV po (zP m)) (.own Hb.length 0 ((zC m).take (i+1)).length)]);have N4:NL H0.length (H2.set b4 (zZ 4 [MQ (nlV po (zP m)) (.own Hb.length 0 ((zC m).take (i+1)).length)])) Hb.length (cbs++[Ha.length]) ((zC m).take (i+1)):=N3.keep fun b x hb hg=>CZ hg (by have:=N3.lt hb; omega)
    have NP4:NL H0.length (H2.set b4 (zZ 4 [MQ (nlV po (zP m)) (.own Hb.length 0 ((zC m).take (i+1)).length)])) po pb (zP m):=NP2.keep fun b x hb hg=>CZ (hk b x hg (fun q=>(hdis b (xP q)).1 hb)) (by have:=NP.lt hb; omega)
    refine E8 f4 @E3.s4' f35 (DF i) ?_;have hl4:(H2.set b4 (zZ 4 [MQ (nlV po (zP m)) (.own Hb.length 0 ((zC m).take (i+1)).length)])).length=H2.length:=BA
    generalize H2.set b4 (zZ 4 [MQ (nlV po (zP m)) (.own Hb.length 0 ((zC m).take (i+1)).length)])=H4 at E4 ho4 N4 NP4 hl4|-
    rw[<-V8 Hb.length hne] at E4
    exact⟨n-1,U,i+1,Hb.length,_,U,AZ,AZ,AZ,AZ,AZ,AZ,AZ,AZ,E4,NP4,N4,ho4,fun b hb=>by
     rw[hC] at hb;rcases AD0 (o:=co) hb with rfl|hb|rfl
     .exact⟨fun q=>by have:=NP.lt q; omega,fun q=>by have:=ho3.lt q; omega⟩
     .exact hdis _ hb
     .exact⟨fun q=>by have:=NP.lt q; omega,fun q=>by have:=ho3.lt q; omega⟩,U⟩
   .rw[jI (by rw[AM6]; omega)] at N E hdis
    refine AO ?_;exact⟨co,cbs,f2,f3,f4,f5,E,⟨NP,N,fun b h1 h2=>(hdis b h2).1 h1⟩,ho3⟩
  .rintro F' H' ⟨co,cbs,g2,g3,g4,g5,E',N,q3⟩
   refine AO ?_;have p2:=E'.o2; have p3:=E'.o3; have p4:=E'.o4; have p5:=E'.o5;refine sY [(5,2)] A8 ?_ ?_
   .refine MV g2 g5 @tH @ADW @yT @and_true ?_
    omega
   simp -implicitDefEqProofs only[vQ,jW,jR,jS,zK,MN,NG,↓reduceIte,jB,jL,enP,jO,g2,g3,g4,g5,cY E'.g4 rfl,cX E'.g5 rfl,AOB E'.g2 rfl (U0 _ _) (U0 _ _),AOA (CZ E'.g3 (U:b3≠b2)) rfl q3.leaf];rw[A0U (ba:=b2) (bb:=b3) (EM g2) (EM g3) (cY (CZ (CP E'.g2) (U:b2≠b3)) rfl) (cX (CP (CZ E'.g3 (U:b3≠b2))) rfl)];exact⟨(E'.hx.set U _).set U _,po,pb,co,cbs,v3,rfl,(N.keep (H':=(H'.set b2 (zZ 4 [MQ (nlV po (zP m)) (nlV co (zC m))])).set b3 (zZ 1 [[v3]])) fun b x hb _ hg=>CZ (CZ hg U) U).base U,((q3.setB (b:=b2) U _).setB (b:=b3) U _).base U⟩
theorem A6U (H0:Hp){v1 v2 v3:AV}(h1:v1.leaf=true)(h2:v2.leaf=true)(h3:v3.leaf=true):
  DW jA (H0++[zZ 4 [KR]]++[zZ 1 [LZ]]) 46 (.ptr H0.length 0 0) (.agg (MQ v1 v2))=some ((H0++[zZ 4 [KR]]++[zZ 1 [LZ]]).set H0.length (zZ 4 [MQ v1 v2])) ∧
  DW jA ((H0++[zZ 4 [KR]]++[zZ 1 [LZ]]).set H0.length (zZ 4 [MQ v1 v2])) 94 (.ptr (H0++[zZ 4 [KR]]).length 0 0) (.agg [v3])=some (((H0++[zZ 4 [KR]]++[zZ 1 [LZ]]).set H0.length (zZ 4 [MQ v1 v2])).set (H0++[zZ 4 [KR]]).length (zZ 1 [[v3]])) ∧
  (((H0++[zZ 4 [KR]]++[zZ 1 [LZ]]).set H0.length (zZ 4 [MQ v1 v2])).set (H0++[zZ 4 [KR]]).length (zZ 1 [[v3]]))[H0.length]?=some (zZ 4 [MQ v1 v2]) ∧
  (((H0++[zZ 4 [KR]]++[zZ 1 [LZ]]).set H0.length (zZ 4 [MQ v1 v2])).set (H0++[zZ 4 [KR]]).length (zZ 1 [[v3]]))[(H0++[zZ 4 [KR]]).length]?=some (zZ 1 [[v3]]) ∧
  ext H0 (((H0++[zZ 4 [KR]]++[zZ 1 [LZ]]).set H0.length (zZ 4 [MQ v1 v2])).set (H0++[zZ 4 [KR]]).length (zZ 1 [[v3]])) :=
 ⟨AOB (AL (A7 _ _)) rfl h1 h2,AOA (CZ (A7 _ _) BA) rfl h3,CZ (CP (AL (A7 _ _))) BA,CP (CZ (A7 _ _) BA),((((ext.rfl' H0).app _).app _).set (jF _) _).set BA _⟩
theorem NC.ext {po:Nat}{pb:List Nat}{co:Nat}{cbs:List Nat}{P C:List (List Int)}(N:NC n0 H po pb co cbs P C)(hx:Sm.ext H H'):NC n0 H' po pb co cbs P C:=N.keep fun _ _ _ _ hg=>ED hx hg
theorem outG.ext {α:Type}{f:α->List AV}{h:Hp}{ys:List α}{v:AV}(ho:outG k f h ys v H)(hx:Sm.ext H H'):outG k f h ys v H':=by
 obtain⟨y,rfl⟩:=hx;exact ho.app y
def EmQ (h:Hp)(m:Mo)(v:AV)(H:Hp):Prop:=ext h H∧((F8 m≠0∧v=.tup [.agg KR,.agg LZ,.n (F8 m)]) ∨
 (F8 m=0∧∃po pb co cbs v3,v=.tup [.agg (MQ (nlV po (zP m)) (nlV co (zC m))),.agg [v3],.n 0]∧EmO h H m po pb co cbs v3))
theorem AM0 (hG:GOk G)(m:Mo)(hm:MoOk m)(h:Hp):ACalls (En G) 39 [.agg (DJ m)] h (EmQ h m):=by
 refine acL Tryz.func39 [.cell 2 46,.cell 3 94,.tmp 4] ?_;unfold EmQ;have E:=Ee.mk' h m;refine DT @bxM ASO A1G ?_
 generalize h++[zZ 2 [DJ m]]++[zZ 4 [KR]]++[zZ 1 [LZ]]=H0 at E|-
 generalize (h++[zZ 2 [DJ m]]++[zZ 4 [KR]]).length=b3 at E|-
 generalize (h++[zZ 2 [DJ m]]).length=b2 at E|-
 have o2:=E.o2; have o3:=E.o3; have hlt:=E.lt;refine BC (ldM E.gm) ?_;refine(QF G hG m hm _).use ?_;cases hb:(F8 m==0)
 .have h0:F8 m≠0:=BN hb
  simp -implicitDefEqProofs only[vQ,MZ,NS,CV,LD,↓reduceIte,jB,enP,jO,bne,hb,A40,A4Y,stZ E.g2 rfl,A18 (CZ E.g3 (U:b3≠b2)) rfl];rw[AI3 (ba:=b2) (bb:=b3) AQ AQ (cY (CZ (CP E.g2) (U:b2≠b3)) rfl) (cX (CP (CZ E.g3 (U:b3≠b2))) rfl)];exact⟨(E.hx.set U _).set U _,.inl ⟨h0,AQ⟩⟩
 .have h0:F8 m=0:=BN hb
  have hg:=UA h0;simp -implicitDefEqProofs only[vQ,CV,lAn,↓reduceIte,jB,Bool.not_true,enP,bne,hb,ldM E.gm];refine(AL6 G m hm hg _).mono ?_;rintro v H1 ⟨hx1,po,pb,co,cbs,v3,rfl,EO⟩;obtain⟨s1,s2,g6,g7,hx5⟩:=A6U H1 (U0 po (zP m)) (U0 co (zC m)) EO.o3.leaf;have g2:=ED hx5 (ED hx1 E.g2);have g3:=ED hx5 (ED hx1 E.g3);have hx:=(E.hx.trans hx1).trans hx5;have hle1:=hx1.le;have h7:b2<(H1++[zZ 4 [KR]]).length:=by simp; omega
  have N5:=EO.nc.ext hx5;have q5:=outG.ext EO.o3 hx5;refine E8 ASO A1G s1 s2 ?_
  generalize ((H1++[zZ 4 [KR]]++[zZ 1 [LZ]]).set H1.length (zZ 4 [MQ (nlV po (zP m)) (nlV co (zC m))])).set (H1++[zZ 4 [KR]]).length (zZ 1 [[v3]])=H5 at g6 g7 g2 g3 hx N5 q5|-
  generalize (H1++[zZ 4 [KR]]).length=b7 at g7 h7|-
  refine sY [(7,2)] A8 ?_ ?_
  .refine E8 @tH @ADW @yT @and_true ?_
   omega
  simp -implicitDefEqProofs only[vQ,MN,KH,NG,↓reduceIte,jB,jL,enP,jO,cY g6 rfl,cX g7 rfl,AOB g2 rfl (U0 po (zP m)) (U0 co (zC m)),AOA (CZ g3 (U:b3≠b2)) rfl q5.leaf];rw[AI3 (ba:=b2) (bb:=b3) AQ AQ (cY (CZ (CP g2) (U:b2≠b3)) rfl) (cX (CP (CZ g3 (U:b3≠b2))) rfl)];have hhl:=E.hx.le;refine⟨(hx.set U _).set U _,.inr ⟨h0,po,pb,co,cbs,v3,AQ,?_,?_⟩⟩
  .exact(N5.keep (H':=(H5.set b2 (zZ 4 [MQ (nlV po (zP m)) (nlV co (zC m))])).set b3 (zZ 1 [[v3]])) fun b x hb _ hg=>CZ (CZ hg U) U).base hhl
  .exact((q5.setB (b:=b2) U _).setB (b:=b3) U _).base hhl
structure St where
 P:List (List Int)
 C:List (List Int)
 sam:Int
 ill:Int
 ls:List (List Int)
def zS (m:Mo):St:=⟨zP m,zC m,0,0,List.replicate m.pts.length []⟩
def AMU (P:List (List Int)):List Is:=P.map fun x=>⟨.any,x⟩
def cvS (s:St):Cvr:=⟨nm (AMU s.P),AMU s.P,nm (AMU s.C),AMU s.C,s.sam,s.ill⟩
def cvW (s:St):List AV:=[fzG 1 NM (AMU s.P),fzG 1 NM (AMU s.C),.n s.sam,.n s.ill]
theorem A0Y (s:St):CvR (.agg (cvW s)) (.agg (encV (cvS s))):=CvR.agg (CvRL.cons X3 (CvRL.cons X3 (CvRL.refl _)))
theorem A01 {po co:Nat}{pb cbs:List Nat}(s:St)(np:NL n0 H po pb s.P)(nc:NL n0 H co cbs s.C)(n d:Nat)(hn:n<=n0):FN n H (d+4) (.agg (cvR po s.P co s.C s.sam s.ill))=.agg (cvW s):=by
 show AV.agg [FN n H (d+3) (nlV po s.P),FN n H (d+3) (nlV co s.C),.n s.sam,.n s.ill]=_;rw[np.frz n d hn,nc.frz n d hn]; rfl
end Go.Proofs.YtiihpnicbekebaaGreatDoor.Xe
namespace Go.Proofs.YtiihpnicbekebaaGreatDoor.Bd.Cl
open Sm Bins Cov Xe Wd Bl Go.RowKit
variable {H:Hp}
abbrev isI (H:Hp)(b:Nat)(xs:List Int):Prop:=H[b]?=some (zZ 1 (xs.map qencI))
theorem isI.ix {H:Hp}{b:Nat}{xs:List Int}(h:isI H b xs){n i:Nat}{kk:IntKind}(hi:i<n):JJ 1 H (.own b 0 n) (.int kk (i:Nat))=some (.ptr b i 0):=by rw[H8 h hi,jG]
theorem isI.ld {H:Hp}{b:Nat}{xs:List Int}(h:isI H b xs){i:Nat}(hi:i<xs.length):BU jA H 3 (.ptr b i 0)=some (.n (xs.getD i 0)):=by
 rw[BL ag3 h (row:=qencI xs[i]) (row_map hi),List.getD_eq_getElem?_getD,jM hi]; rfl
theorem isI.st {b:Nat}{xs:List Int}(h:isI H b xs){i:Nat}(hi:i<xs.length)(z:Int):DW jA H 3 (.ptr b i 0) (.n z)=some (H.set b (zZ 1 ((xs.set i z).map qencI))):=by
 rw[IC (cs:=[.n z]) rfl sz3 h (row_map hi) (by simp [qencI]),List.map_set]; rfl
theorem cR0 (n:Nat):cR [] n=(zD n (0:Int)).map qencI:=by
 apply List.ext_getElem?;intro i;by_cases hi:i<n
 .rw[ARU _ hi,List.getElem?_map,List.getElem?_replicate,if_pos hi]; rfl
 .rw[qQ (by rw[ART]; omega),qQ NU]
theorem mkI (h:Hp)(n:Nat)(hn:n<=1048576):IM jA true h 32 (.n (n:Int)) (.n (n:Int))=some (.own h.length 0 n,h++[zZ 1 ((zD n (0:Int)).map qencI)]):=by
 rw[A6R h n hn,cR0]
structure KB (B:List Nat) (H H':Hp):Prop where
 len:H.length<=H'.length
 keep:∀(k:Nat) (y:ABlk),H[k]?=some y->k ∉ B->H'[k]?=some y
theorem KB.rfl' (B:List Nat)(H:Hp):KB B H H:=⟨jF _,fun _ _ h _=>h⟩
theorem KB.app {B:List Nat}{H':Hp}(k:KB B H H')(x:ABlk):KB B H (H'++[x]):=⟨by have:=k.len; simp; omega,fun i y q hn=>AL (k.keep i y q hn)⟩
theorem KB.set {B:List Nat}{H H':Hp}(k:KB B H H'){b:Nat}(hb:b∈B)(x:ABlk):KB B H (H'.set b x) :=
 ⟨by rw[qX]; exact k.len,fun i y q hn=>by rw[zX (fun e=>hn (by rw[<-e]; exact hb))]; exact k.keep i y q hn⟩
theorem KB.trans {B:List Nat}{H1 H2:Hp}(a:KB B H H1)(b:KB B H1 H2):KB B H H2:=⟨Nat.le_trans a.len b.len,fun i y q hn=>b.keep i y (a.keep i y q hn) hn⟩
theorem A2I:∀w:Nat,w<=8->JM jA 3 .shl (.n 1) (.n (w:Nat))=some (.n (2^w))
 | 0,_=>A8
 | 1,_=>A8
 | 2,_=>A8
 | 3,_=>A8
 | 4,_=>A8
 | 5,_=>A8
 | 6,_=>A8
 | 7,_=>A8
 | 8,_=>A8
 | n+9,h=>absurd h U
theorem ALA {b:Nat}{p:Pr}(hb:H[b]?=some (zZ 5 [DL p])):BU jA H 22 (.ptr b 0 0)=some (.sl p.vm 4 (p.vars.map encV)):=by rw[BL bI hb (row:=DL p) rfl]; rfl
theorem AUA (l:List Vr)(n:ByteArray):(l.any (PN n)) = !decide (plc l n<0):=by
 unfold plc;rw[<-QZ,<-decide_not,decide_eq_decide]; omega
theorem al9 (h:Hp):GM jA h 9=some (.ptr h.length 0 0,h++[zZ 1 [[.str ⟨#[]⟩]]]):=FV (row:=[.str ⟨#[]⟩]) A8
theorem st9 (h:Hp)(n:ByteArray):DW jA (h++[zZ 1 [[.str ⟨#[]⟩]]]) 9 (.ptr h.length 0 0) (.str n)=some (h++[zZ 1 [[.str n]]]):=by
 rw[I9 (cs:=[.str n]) (row:=[.str ⟨#[]⟩]) rfl sz9 (A7 _ _) (jF 1),KC]; rfl
theorem al79 (h:Hp):GM jA h 79=some (.ptr h.length 0 0,h++[zZ 4 [[.n 0,.n 0,.str ⟨#[]⟩,.sl .nil 0 []]]]):=FV (row:=[.n 0,.n 0,.str ⟨#[]⟩,.sl .nil 0 []]) A8
theorem st79 (h:Hp)(e:Ex):DW jA (h++[zZ 4 [[.n 0,.n 0,.str ⟨#[]⟩,.sl .nil 0 []]]]) 79 (.ptr h.length 0 0) (.agg (AU e))=some (h++[zZ 4 [AU e]]):=by
 have hle:(AU e).length=4:=EP _;rw[I9 (cs:=AU e) (row:=[.n 0,.n 0,.str ⟨#[]⟩,.sl .nil 0 []]) (O7 (by rw[EW]; rfl)) (by rw[hle]; exact JL) (A7 _ _) (by rw[hle]; exact jF 4),KC]
 have:splice [.n 0,.n 0,.str ⟨#[]⟩,.sl .nil 0 []] 0 (AU e)=AU e:=by
  unfold splice; rw[qB,List.drop_eq_nil_of_le (by rw[hle]; exact jF 4)]; simp
 rw[this]
section
variable (G:Nat->AV)
theorem A3T (v:Vr)(n:ByteArray)(c:Nat)(h:Hp)(hc:h[c]?=some (zZ 1 [[.str n]])):PCall (En G) 306 ([.agg (encV v)]++[.ptr c 0 0]) h (.bool (PN n v)):=by
 refine ACalls.pure0 rfl ?_;refine acT Tryz.func306 3 ?_;have hc':(h++[zZ 4 [encV v]])[c]?=_:=AL hc;refine KF @bxV @encV0 (H7 ag9 hc') ?_;exact⟨rfl,_,rfl⟩
theorem known_prog (hG:GOk G)(p:Pr)(hl:p.vars.length<=1048576)(e:Ex)(hw:wt e<=1048576)(h:Hp):PCall (En G) 259 [.agg (DL p),.agg (AU e)] h (.bool (xpE p.vars e==0)):=by
 refine ACalls.pure0 rfl ?_;refine acT Tryz.func259 4 ?_;have gp:=AL (x:=zZ 4 [AU e]) (A7 h (zZ 5 [DL p]));have gE:=A7 (h++[zZ 5 [DL p]]) (zZ 4 [AU e]);have hxx:ext h (h++[zZ 5 [DL p]]++[zZ 4 [AU e]]):=((ext.rfl' h).app _).app _;refine BB @YH @bxE ?_
 generalize (h++[zZ 5 [DL p]]).length=eb at gE|-
 generalize h++[zZ 5 [DL p]]++[zZ 4 [AU e]]=H1 at gp gE hxx|-
 generalize h.length=pb at gp|-
 refine BC (JI gE) ?_;refine(N8 G hG e _ hw).use ?_;cases b1:(exE e != 0)
 rotate_left
 .have he:exE e≠0:=by simpa [bne] using b1
  refine BC b1 ?_;exact⟨by rw[show xpE p.vars e=exE e from if_pos he]; simp [he],hxx⟩
 have he:exE e=0:=by simpa [bne] using b1
 have hxp:xpE p.vars e=plE p.vars e:=by unfold xpE; rw[if_neg (by simp [he])]
 refine BB b1 (JI gE) ?_;refine(YR G e hw _).use ?_;refine BC @ASJ ?_;refine CE ?_ ?_<;>intro ha
 .refine AO ?_
  exact⟨by rw[hxp]; unfold plE; rw[if_pos ha]; rfl,hxx⟩
 refine BC (JI gE) ?_;refine(bQ G e hw _).use ?_
 have hnl:(nmL [2] [] (pre e)).length<=1048576:=by
  have h1:=Y0 [2] (pre e) [];have h2:=aM e;simp at h1; omega
 have hfr:=AQN p.vars e
 generalize nmL [2] [] (pre e)=ns at hnl hfr|-
 have hpl:ns.any (fun n=>decide (plc p.vars n<0)) = !(xpE p.vars e==0):=by
  rw[hfr,hxp]; unfold plE; rw[ha]; cases ABX p.vars e<;>rfl
 refine AO ?_
 refine BI (fun n F H=>∃i,n+i=ns.length∧(∀x∈ns.take i,decide (plc p.vars x<0)=false)∧F 2=.ptr pb 0 0∧F 17=.sl (nm ns) 1 (ns.map qencStr)∧F 18=.n (ns.length:Nat)∧F 19=.n (i:Nat)∧H[pb]?=some (zZ 5 [DL p])∧ext h H) ns.length
  ⟨0,BA,BA,AQ,AQ,AQ,AQ,gp,hxx⟩ ?_
 clear gp gE hxx;rintro n F H ⟨i,hi,hb,f2,f17,f18,f19,gp,hxx⟩;refine BB f18 f19 ?_;refine D8 ?_ ?_<;>intro hi'
 .simp -implicitDefEqProofs only[vQ,CV,↓reduceIte,jB,enP,ZY,jO,f17,f19,CQ hi',AX2 hi',al9,st9]
  have gp1:(H++[zZ 1 [[.str ns[i]]]])[pb]?=_:=AL gp;have hx1:=hxx.app [zZ 1 [[.str ns[i]]]];refine BB f2 (ALA gp1) ?_;refine(AH8 G p.vars p.vm 306 [.ptr H.length 0 0] (PN ns[i]) _ U fun x _=>A3T G x ns[i] H.length _ (A7 _ _)).use ?_;refine BC @AUA ?_;refine CE ?_ ?_<;>intro hd
  .have hd:decide (plc p.vars ns[i]<0)=true:=BN hd
   refine AO ?_;refine⟨?_,hx1⟩;have:ns.any (fun n=>decide (plc p.vars n<0))=true:=List.any_eq_true.2 ⟨_,jH hi',hd⟩;rw[hpl] at this
   cases hz:(xpE p.vars e==0)<;>rw[hz] at this<;>first|rfl|cases this
  .have hd:decide (plc p.vars ns[i]<0)=false:=BN hd
   refine BB f19 (DF i) ?_;refine⟨n-1,U,i+1,U,fun x hx=>?_,AZ,AZ,AZ,rfl,gp1,hx1⟩;rw[jY hi'] at hx;rcases List.mem_append.1 hx with h1|h1
   .exact hb x h1
   .rw[List.mem_singleton.1 h1]; exact hd
 .rw[jI U] at hb
  refine AO ?_;refine⟨?_,hxx⟩;have:ns.any (fun n=>decide (plc p.vars n<0))=false:=List.any_eq_false.2 fun x hx=>by rw[hb x hx]; simp
  rw[hpl] at this
  cases hz:(xpE p.vars e==0)<;>rw[hz] at this<;>first|rfl|cases this
theorem AXF (p:Pr)(hs:PrS p)(a:List Int)(b:Nat)(hl:a.length=p.vars.length)(h:Hp)(hb:isI h b a):ACalls (En G) 72 [.agg (DL p),.own b 0 a.length] h fun v H=>ext h H∧outG 2 GU h (OZ p.vars a) v H:=by
 have hvl:=hs.vars;have hel:=X9 hl;refine H6 (H:=hint [31] []) (enM G) Tryz.func72 rfl (by kernel_rfl) (by kernel_rfl) (jC (by kernel_rfl)) ?_;show awp _ _ _ _ _ (LU _ [.tmp 4] _);have ge:=A7 h (zZ 5 [DL p]);have hb0:isI (h++[zZ 5 [DL p]]) b a:=AL hb;have hx:=Sm.ext.r1 h (zZ 5 [DL p]);have hh:h.length<=(h++[zZ 5 [DL p]]).length:=BA;refine BC @YH ?_
 generalize h++[zZ 5 [DL p]]=H0 at ge hb0 hx hh|-
 generalize hpb:h.length=pb at ge hh|-
 have l22:∀ {H:Hp},Sm.ext H0 H->BU jA H 22 (.ptr pb 0 0)=some (.sl p.vm 4 (p.vars.map encV)):=fun q=>ALA (ED q ge)
 have hne:(((a.length:Nat):Int) != ((p.vars.length:Nat):Int))=false:=by rw[hl]; simp
 refine BB (l22 (ext.rfl' H0)) hne ?_
 refine BI (fun n F H=>∃i u,n+i=p.vars.length∧F 1=.own b 0 a.length∧F 2=.ptr pb 0 0∧F 5=u∧F 15=.sl p.vm 4 (p.vars.map encV)∧F 16=.n (p.vars.length:Nat)∧F 17=.n (i:Nat)∧ext H0 H∧outG 2 GU H0 ((OZ p.vars a).take i) u H) p.vars.length
  ⟨0,.sl .nil 0 [],BA,AQ,AQ,AQ,AQ,AQ,AQ,ext.rfl' _,outG.nil _ _ _ _⟩ ?_
 rintro n F H ⟨i,u,hi,f1,f2,f5,f15,f16,f17,hxH,ho⟩;refine BB f16 f17 ?_;refine D8 (fun hiv=>?_) (fun hi'=>?_)
 .have hi':i<a.length:=U
  have hie:i<(OZ p.vars a).length:=U;have hxH1:=hxH.app [zZ 4 [encV p.vars[i]]];have ho1:=ho.app [zZ 4 [encV p.vars[i]]];have gv:=A7 H (zZ 4 [encV p.vars[i]]);simp -implicitDefEqProofs only[vQ,jW,jR,jS,zK,CV,↓reduceIte,jB,enP,pC,jO,f15,f17,CQ hiv,ldV hiv,Bd.al61,Bd.st61]
  generalize hH1:H++[zZ 4 [encV p.vars[i]]]=H1 at hxH1 ho1 gv|-
  obtain⟨v',H',ha,ho',_,hx',_,_⟩:=ho1.append (P:=jA) A12 A8 A1R A4G U (by rw[jV]; omega) hxH1 (p.vars[i].name,a[i]);rw[<-kC hiv hi' hie,<-jY hie] at ho';have ln:BU jA H1 9 (.ptr H.length 0 0)=some (.str p.vars[i].name):=by rw[BL ag9 gv (row:=encV p.vars[i]) rfl]; rfl
  have hbH:isI H1 b a:=ED hxH1 hb0;have la:BU jA H1 3 (.ptr b i 0)=some (.n a[i]):=by rw[hbH.ld hi',List.getD_eq_getElem?_getD,jM hi']; rfl
  refine DV A8 ?_;simp -implicitDefEqProofs only[vQ,jW,jR,jS,zK,KH,VO,JD,IY,CV,LD,I8,↓reduceIte,jB,jL,enP,LQ,iY,f1,f5,hbH.ix (show i<a.length from hi'),ln,la,A7H,A7E,ha,f17,DF i];exact⟨n-1,U,i+1,v',U,AZ,AZ,AZ,AZ,AZ,AZ,hx',ho'⟩
 .rw[jI U] at ho
  refine BC f5 ?_;refine⟨hx.trans hxH,?_⟩;rcases ho with⟨a,b⟩|⟨a,o,b,c,d⟩
  .exact .inl ⟨a,b⟩
  .exact .inr ⟨a,o,U,c,d⟩
end
def fdr (p:Pr)(lm:SM)(l:List Ex)(ab n:Nat)(ov:Bool)(st:Int):List AV:=[.sl p.vm 4 (p.vars.map encV),.sl p.hm 4 (p.hard.map AU),.sl p.sm 4 (p.soft.map AU),.sl p.dm 2 (p.dists.map J9),.sl p.gm 1 (p.groups.map mZ),.sl lm 4 (l.map AU),.own ab 0 n,.bool ov,.n st]
abbrev isF (H:Hp)(fb:Nat)(p:Pr)(lm:SM)(l:List Ex)(ab n:Nat)(ov:Bool)(st:Int):Prop:=H[fb]?=some (zZ 9 [fdr p lm l ab n ov st])
section
variable {H:Hp} {fb:Nat} {p:Pr} {lm:SM} {l:List Ex} {ab n:Nat} {ov:Bool} {st:Int}
theorem isF.vs (h:isF H fb p lm l ab n ov st):BU jA H 22 (.ptr fb 0 0)=some (.sl p.vm 4 (p.vars.map encV)):=by rw[BL bI h rfl]; rfl
theorem isF.pr (h:isF H fb p lm l ab n ov st):BU jA H 27 (.ptr fb 0 0)=some (.agg (DL p)):=by rw[EH oA iA h rfl (by show 0+5<=9; omega)]; rfl
theorem isF.es (h:isF H fb p lm l ab n ov st):BU jA H 23 (.ptr fb 0 5)=some (.sl lm 4 (l.map AU)):=by rw[BL MO h rfl]; rfl
theorem isF.as (h:isF H fb p lm l ab n ov st):BU jA H 32 (.ptr fb 0 6)=some (.own ab 0 n):=by rw[BL O6 h rfl]; rfl
theorem isF.ovd (h:isF H fb p lm l ab n ov st):BU jA H 4 (.ptr fb 0 7)=some (.bool ov):=by rw[BL ag4 h rfl]; rfl
theorem isF.std (h:isF H fb p lm l ab n ov st):BU jA H 3 (.ptr fb 0 8)=some (.n st):=by rw[BL ag3 h rfl]; rfl
theorem isF.setSt (h:isF H fb p lm l ab n ov st)(z:Int):DW jA H 3 (.ptr fb 0 8) (.n z)=some (H.set fb (zZ 9 [fdr p lm l ab n ov z])):=by
 rw[I9 (cs:=[.n z]) rfl sz3 h (by show 8+1<=9; omega)]; rfl
theorem isF.setOv (h:isF H fb p lm l ab n ov st)(z:Bool):DW jA H 4 (.ptr fb 0 7) (.bool z)=some (H.set fb (zZ 9 [fdr p lm l ab n z st])):=by
 rw[I9 (cs:=[.bool z]) rfl sz4 h (by show 7+1<=9; omega)]; rfl
end
section
variable (G:Nat->AV)
theorem xI (p:Pr)(hs:PrS p)(P:PV p)(lm:SM)(l:List Ex)(st:Int)(a:List Int)(ok:AOk p a)(fb ab:Nat)(hne:fb≠ab)(h:Hp)(hf:isF h fb p lm l ab a.length false st)(hb:isI h ab a):
  ACalls (En G) 260 [.ptr fb 0 0] h fun _ H=>KB [fb,ab] h H∧match nxK p.vars p.vars.length a with
  | some a'=>isF H fb p lm l ab a.length false st∧isI H ab a'
  | none=>isF H fb p lm l ab a.length true st∧∃a',a'.length=a.length∧isI H ab a':=by
 generalize hO:nxK p.vars p.vars.length a=O;have hvl:=hs.vars;refine acL Tryz.func260 [] ?_;have hal:a.length=p.vars.length:=ok.len;have z1:IntKind.i64.wrap (((a.length:Nat):Int)-1)=((a.length:Nat):Int)-1:=wrap_i64 U U;refine DT @WC @hf.as z1 ?_;refine ET 0 (fun F H=>KB [fb,ab] h H∧O=none∧F 0=.ptr fb 0 0∧isF H fb p lm l ab a.length false st∧∃a',a'.length=a.length∧isI H ab a') (fun F H=>KB [fb,ab] h H∧∃a',O=some a'∧isF H fb p lm l ab a.length false st∧isI H ab a') ?_ ?_ ?_
 .refine BI (fun n F H=>∃k c,n=k∧k<=p.vars.length∧AOk p c∧nxK p.vars k c=O∧KB [fb,ab] h H∧isI H ab c∧isF H fb p lm l ab a.length false st∧F 0=.ptr fb 0 0∧F 2=.n (((k:Nat):Int)-1)) p.vars.length
   ⟨p.vars.length,a,rfl,jF _,ok,hO,KB.rfl' _ _,hb,hf,AQ,by refine AO ?_; rw[hal]⟩ ?_
  clear hb hf;rintro n F H ⟨k,c,rfl,hkn,okc,hS,k1,qb,hf,f0,f2⟩;have ec:decide (((n:Nat):Int)-1≥0)=decide (1<=n):=by rw[decide_eq_decide]; omega
  refine BB f2 ec ?_;refine CE ?_ ?_<;>intro hc
  .have h1:1<=n:=BN hc
   obtain⟨i,rfl⟩:∃i,n=i+1:=⟨n-1,U⟩;have hi:i<p.vars.length:=U;have hic:i<c.length:=by rw[okc.len]; exact hi
   have hia:i<a.length:=U;have ei:((((i+1:Nat):Int))-1)=((i:Nat):Int):=U;rw[ei] at f2;unfold nxK at hS;simp only[jM hi] at hS;obtain⟨_,w1,w8,_⟩:=WZ (P.vr _ (jH hi));have lmd:∀H:Hp,BU jA H 3 (.fptr 4 (p.vars.map encV) i 2)=some (.n p.vars[i].mode):=fun H=>by rw[CG ag3 hi]; rfl
   have zi:IntKind.i64.wrap (((i:Nat):Int)-1)=((i:Nat):Int)-1:=wrap_i64 U U;refine AD1 @vO f0 f2 @hf.vs hi lmd ?_;refine CE ?_ ?_<;>intro hm
   .have hm:p.vars[i].mode=0:=BN hm
    rw[if_pos hm] at hS;refine BB f2 zi ?_;exact⟨i,U,i,c,rfl,U,okc,hS,k1,qb,hf,AZ,AZ⟩
   .have hm:¬p.vars[i].mode=0:=BN hm
    rw[if_neg hm] at hS;obtain⟨q0,q1⟩:=okc.rn i hi hm;obtain⟨r0,r1⟩:=okc.rng P i hi;have zz:IntKind.i64.wrap (c.getD i 0+1)=c.getD i 0+1:=wrap_i64 U U;have qb1:=qb.st (i:=i) hic (c.getD i 0+1);have qbs:isI (H.set ab (zZ 1 ((c.set i (c.getD i 0+1)).map qencI))) ab (c.set i (c.getD i 0+1)):=CP qb;have hf1:isF (H.set ab (zZ 1 ((c.set i (c.getD i 0+1)).map qencI))) fb p lm l ab a.length false st:=by unfold isF; rw[zX (Ne.symm hne)]; exact hf
    have k2:KB [fb,ab] h (H.set ab (zZ 1 ((c.set i (c.getD i 0+1)).map qencI))):=k1.set BA _;obtain⟨w,hw⟩:=Int.eq_ofNat_of_zero_le (U:0<=p.vars[i].width);have lw:∀H:Hp,BU jA H 3 (.fptr 4 (p.vars.map encV) i 1)=some (.n (w:Nat)):=fun H=>by rw[CG ag3 hi]; show some (AV.int .i64 p.vars[i].width)=_; rw[hw]
    rw[hw,Int.toNat_natCast] at hS q1;refine YN @WC f0 f2 @hf.as @qb.ix hia @qb.ld hic zz qb1 ?_
    generalize H.set ab (zZ 1 ((c.set i (c.getD i 0+1)).map qencI))=H1 at qbs hf1 k2|-
    have hic1:i<(c.set i (c.getD i 0+1)).length:=by rw[qX]; exact hic
    have ld1:=qbs.ld (i:=i) hic1;rw[Bl.getD_set_eq hic] at ld1;refine DV A8 ?_;simp -implicitDefEqProofs only[vQ,↓reduceIte,jB,jL,enP,pC,vL,LQ,ZA,vO,WC,VQ,VN,cP,f0,f2,hf1.as,qbs.ix hia,ld1,hf1.vs,CQ hi,lw,A2I w U];refine CE ?_ ?_<;>intro hd
    .have hd:c.getD i 0+1<2^w:=BN hd
     rw[if_pos hd] at hS;refine AO ?_;exact⟨k2,_,hS.symm,hf1,qbs⟩
    .have hd:¬c.getD i 0+1<2^w:=fun q=>by rw[decide_eq_true q] at hd; cases hd
     rw[if_neg hd] at hS;have qb2:=qbs.st (i:=i) hic1 0;rw[List.set_set] at qb2;have qbz:isI (H1.set ab (zZ 1 ((c.set i 0).map qencI))) ab (c.set i 0):=CP qbs;have hf2:isF (H1.set ab (zZ 1 ((c.set i 0).map qencI))) fb p lm l ab a.length false st:=by unfold isF; rw[zX (Ne.symm hne)]; exact hf1
     have hp0:(0:Int)<2^p.vars[i].width.toNat:=Int.pow_pos D5
     have setok:AOk p (c.set i 0):=by
      refine⟨by rw[qX]; exact okc.len,fun j hj hmj=>?_,fun j hj hmj=>?_⟩
      .by_cases e:j=i
       .subst e; exact absurd hmj hm
       .rw[Bl.getD_set_ne (fun q=>e q.symm)]; exact okc.st j hj hmj
      .by_cases e:j=i
       .subst e; rw[Bl.getD_set_eq hic]; exact⟨Int.le_refl 0,hp0⟩
       .rw[Bl.getD_set_ne (fun q=>e q.symm)]; exact okc.rn j hj hmj
     refine PG @WC f0 f2 @hf1.as @qbs.ix hia qb2 zi ?_;exact⟨i,U,i,c.set i 0,rfl,U,setok,hS,k2.set BA _,qbz,hf2,AZ,AZ⟩
  .have h1:¬1<=n:=fun q=>by rw[decide_eq_true q] at hc; cases hc
   obtain rfl:n=0:=U;have hS:none=O:=hS;refine AO ?_;exact⟨k1,hS.symm,AZ,hf,c,by rw[okc.len,hal],qb⟩
 .rintro F H ⟨k1,ho,f0,hf,c,hcl,qb⟩
  refine E8 @mW @iW f0 @hf.setOv ?_;refine⟨k1.set BA _,?_⟩;rw[ho];exact⟨CP hf,c,hcl,by unfold isI; rw[zX hne]; exact qb⟩
 .rintro F H ⟨k1,a',ho,hf,q⟩
  refine BC @A0T ?_;refine⟨k1,?_⟩;rw[ho];exact⟨hf,q⟩
theorem AGB (hG:GOk G)(p:Pr)(hs:PrS p)(hv:NI p=0)(lm:SM)(l:List Ex)(hl:l.length<=1048576)(hw:∀e∈l,wt e<=1048576)(hk:∀e∈l,xpE p.vars e=0)(h:Hp):
  ACalls (En G) 182 [.agg (DL p),.sl lm 4 (l.map AU),.n 262144] h fun v H=>ext h H∧∃fb ab,h.length<=fb∧h.length<=ab∧fb≠ab∧v=.tup [.ptr fb 0 0,.n 0]∧isF H fb p lm l ab p.vars.length false 262144∧isI H ab (dE p):=by
 have P:=PV.of hv;have hvl:=hs.vars;refine H6 (H:=hint [40] []) (enM G) Tryz.func182 rfl (by kernel_rfl) (by kernel_rfl) (jC (by kernel_rfl)) ?_;show awp _ _ _ _ _ (LU _ [.tmp 6,.tmp 7] _);have ge:=A7 h (zZ 5 [DL p]);have hx:=Sm.ext.r1 h (zZ 5 [DL p]);have hge:h.length<(h++[zZ 5 [DL p]]).length:=BA;have ldP:∀ {H:Hp},H[h.length]?=some (zZ 5 [DL p])->BU jA H 27 (.ptr h.length 0 0)=some (.agg (DL p)):=fun q=>by rw[EH oA iA q (row:=DL p) rfl (by rw[N9]; exact jF 5)]; rfl
 refine BB @AJJ @YH ?_
 generalize h++[zZ 5 [DL p]]=H0 at ge hx hge|-
 refine BC (ldP ge) ?_;refine(Bd.valid_prog G hG p hs H0).use ?_;have b0:(NI p != 0)=false:=by rw[hv]; rfl
 refine DT b0 (show decide ((262144:Int)<0)=false by decide) (show decide ((262144:Int)>262144)=false by decide) ?_;refine ET 0 (fun F H=>ext h H∧H[h.length]?=some (zZ 5 [DL p])∧F 1=.sl lm 4 (l.map AU)∧F 2=.n 262144∧F 3=.ptr h.length 0 0) (fun F H=>False) ?_ ?_ (fun _ _ q=>q.elim)
 .refine BI (fun n F H=>∃i,n+i=l.length∧ext h H∧H[h.length]?=some (zZ 5 [DL p])∧F 1=.sl lm 4 (l.map AU)∧F 2=.n 262144∧F 3=.ptr h.length 0 0∧F 24=.sl lm 4 (l.map AU)∧F 25=.n (l.length:Nat)∧F 26=.n (i:Nat)) l.length
   ⟨0,BA,hx,ge,AQ,AQ,AQ,AQ,AQ,AQ⟩ ?_
  clear hx ge hge;rintro n F H ⟨i,hi,hx,ge,f1,f2,f3,f24,f25,f26⟩;refine BB f25 f26 ?_;refine CE ?_ ?_<;>intro hc
  .have hi':i<l.length:=BN hc
   have gE:=A7 H (zZ 4 [AU l[i]]);have ge:=AL (x:=zZ 4 [AU l[i]]) ge;have hx:=hx.app [zZ 4 [AU l[i]]];simp -implicitDefEqProofs only[vQ,jW,jR,jS,zK,CV,↓reduceIte,jB,enP,RN,jO,f24,f26,CQ hi',DR O5 JL EP hi',al79,st79]
   generalize H++[zZ 4 [AU l[i]]]=H1 at ge hx gE|-
   refine DT f3 (ldP ge) (JI gE) ?_;refine(known_prog G hG p hvl l[i] (hw _ (jH hi')) H1).use ?_;have b1:(xpE p.vars l[i]==0)=true:=by rw[hk _ (jH hi')]; rfl
   refine DT b1 f26 (DF i) ?_;exact⟨n-1,U,i+1,U,hx,ge,AZ,AZ,AZ,AZ,AZ,AZ⟩
  .refine AO ?_
   exact⟨hx,ge,AZ,AZ,AZ⟩
 clear hx ge hge;rintro F H ⟨hx,ge,f1,f2,f3⟩;have hgl:=AC ge;have hxl:=hx.le;have bd:∀ab:Nat,G7 jA 249 [(0,.agg (DL p)),(1,.sl lm 4 (l.map AU)),(2,.own ab 0 p.vars.length),(4,.n 262144)]=some (.agg (fdr p lm l ab p.vars.length false 262144)):=fun ab=>A8
 have bx:∀(H:Hp) (ab:Nat),MI H (.agg (fdr p lm l ab p.vars.length false 262144))=some (.ptr H.length 0 0,H++[zZ 9 [fdr p lm l ab p.vars.length false 262144]]):=fun H ab=>rfl
 refine AO ?_;refine DV A8 ?_;refine YN @A1S @WX f1 f2 f3 (ldP ge) (ALA ge) (mkI H p.vars.length hvl) bd bx ?_;have qa:isI (H++[zZ 1 ((zD p.vars.length (0:Int)).map qencI)]) H.length (zD p.vars.length 0):=A7 _ _;have qa:=AL (x:=zZ 9 [fdr p lm l H.length p.vars.length false 262144]) qa;have ge:=AL (x:=zZ 9 [fdr p lm l H.length p.vars.length false 262144]) (AL (x:=zZ 1 ((zD p.vars.length (0:Int)).map qencI)) ge);have hx:=(hx.app [zZ 1 ((zD p.vars.length (0:Int)).map qencI)]).app [zZ 9 [fdr p lm l H.length p.vars.length false 262144]];have qf:isF (H++[zZ 1 ((zD p.vars.length (0:Int)).map qencI)]++[zZ 9 [fdr p lm l H.length p.vars.length false 262144]]) (H++[zZ 1 ((zD p.vars.length (0:Int)).map qencI)]).length p lm l H.length p.vars.length false 262144:=A7 _ _;have hne:(H++[zZ 1 ((zD p.vars.length (0:Int)).map qencI)]).length=H.length+1:=BA
 generalize H++[zZ 1 ((zD p.vars.length (0:Int)).map qencI)]++[zZ 9 [fdr p lm l H.length p.vars.length false 262144]]=X at qa ge hx qf|-
 rw[hne] at qf|-
 generalize H.length=ob at qa qf hgl hxl|-
 refine BB f3 (ALA ge) ?_
 refine BI (fun n F H=>∃i,n+i=p.vars.length∧isI H ob ((p.vars.map Vr.value).take i++zD (p.vars.length-i) 0)∧isF H (ob+1) p lm l ob p.vars.length false 262144∧ext h H∧F 10=.ptr (ob+1) 0 0∧F 45=.sl p.vm 4 (p.vars.map encV)∧F 46=.n (p.vars.length:Nat)∧F 47=.n (i:Nat)) p.vars.length
  ⟨0,rfl,by rw[qB,List.nil_append]; exact qa,qf,hx,AQ,AQ,AQ,AQ⟩ ?_
 clear qa ge hx qf f1 f2 f3;rintro n F H ⟨i,hn,qa,qf,hx,f10,f45,f46,f47⟩;refine BB f46 f47 ?_;refine D8 (fun hi=>?_) (fun hc'=>?_)
 .have him:i<(p.vars.map Vr.value).length:=by rw[jJ]; exact hi
  have qv:=A7 H (zZ 4 [encV p.vars[i]]);have qa:isI (H++[zZ 4 [encV p.vars[i]]]) ob ((p.vars.map Vr.value).take i++zD (p.vars.length-i) 0):=AL qa;have qf:isF (H++[zZ 4 [encV p.vars[i]]]) (ob+1) p lm l ob p.vars.length false 262144:=AL qf;have hx:=hx.app [zZ 4 [encV p.vars[i]]];have hlt:((p.vars.map Vr.value).take i).length=i:=by rw[jV]; omega
  have hst:=qa.st (i:=i) NU p.vars[i].value
  have hset:((p.vars.map Vr.value).take i++zD (p.vars.length-i) 0).set i p.vars[i].value=(p.vars.map Vr.value).take (i+1)++zD (p.vars.length-(i+1)) 0:=by
   rw[List.set_append_right _ _ U,hlt,Nat.sub_self,show p.vars.length-i=(p.vars.length-(i+1))+1 by omega,List.replicate_succ,List.set_cons_zero,jY him,List.getElem_map,zG];rfl
  rw[hset] at hst;have l2:BU jA (H++[zZ 4 [encV p.vars[i]]]) 3 (.ptr H.length 0 2)=some (.n p.vars[i].mode):=by rw[BL ag3 qv rfl]; rfl
  have l3:BU jA (H++[zZ 4 [encV p.vars[i]]]) 3 (.ptr H.length 0 3)=some (.n p.vars[i].value):=by rw[BL ag3 qv rfl]; rfl
  simp -implicitDefEqProofs only[vQ,jW,jR,jS,zK,CV,↓reduceIte,jB,enP,pC,Y9,jO,f45,f47,CQ hi,ldV hi,Bd.al61,Bd.st61,l2];refine CE ?_ ?_<;>intro hm
  .refine DV A8 ?_
   simp -implicitDefEqProofs only[vQ,jW,jR,jS,zK,MN,NG,CV,↓reduceIte,jB,jL,enP,LQ,dH,WC,jO,VQ,VN,cP,f10,f47,l3,qf.as,qa.ix hi,hst,DF i];exact⟨n-1,U,i+1,U,CP qa,by unfold isF; rw[zX U]; exact qf,hx.set U _,AZ,AZ,AZ,AZ⟩
  .have hm:p.vars[i].mode≠0:=BN hm
   obtain⟨_,_,_,_,_,_,_,v0⟩:=WZ (P.vr _ (jH hi))
   have hsame:(p.vars.map Vr.value).take (i+1)++zD (p.vars.length-(i+1)) 0=(p.vars.map Vr.value).take i++zD (p.vars.length-i) 0:=by
    rw[jY him,List.getElem_map,v0 hm,zG,show p.vars.length-i=(p.vars.length-(i+1))+1 by omega,List.replicate_succ]; rfl
   refine BB f47 (DF i) ?_;exact⟨n-1,U,i+1,U,by rw[hsame]; exact qa,qf,hx,AZ,AZ,AZ,AZ⟩
 .rw[jI (by rw[jJ]; omega),show p.vars.length-i=0 by omega,List.replicate_zero,lAn] at qa
  refine BC f10 ?_;exact⟨hx,ob+1,ob,U,U,U,AZ,qf,qa⟩
end
end Go.Proofs.YtiihpnicbekebaaGreatDoor.Bd.Cl
namespace Go.Proofs.YtiihpnicbekebaaGreatDoor.Cov
open Sm Bins Go.RowKit
variable {ns:List Nat} {l:List Int} (G:Nat->AV )
def ixV (ns:List Nat)(l:List Int):Int:=if JX ns l=true then aV ns l 0 else 0
theorem AH7 (h:l.length≠ns.length):JX ns l=false:=by
 cases e:JX ns l
 .rfl
 .exact absurd (QY e).symm h
theorem sE {k:Nat}(hk:k<l.length)(hn:k<ns.length):JX (ns.drop k) (l.drop k)=(decide (0<=l[k])&&decide (l[k]<(ns[k]:Int))&&JX (ns.drop (k+1)) (l.drop (k+1))):=by
 rw[zU hk,zU hn]; rfl
theorem ABP {k:Nat}(hk:l.length<=k)(hn:ns.length<=k):JX (ns.drop k) (l.drop k)=true:=by
 rw[jX hk,jX hn]; rfl
theorem AD7 (m:Mo)(z:Int)(hz:z<0∨(m.crs.length:Int)<=z)(h:Hp):PCall (En G) 145 [.agg (DJ m),.n z] h (.bool false):=by
 refine ACalls.pure0 rfl ?_;refine acT Tryz.func145 4 ?_;refine BC @bxM ?_;cases d0:decide (z<0)
 .have d1:decide (z≥(m.crs.length:Int))=true:=by rw[decide_eq_true_eq]; rw[decide_eq_false_iff_not] at d0; omega
  refine KF nZ @YA d1 ?_;exact⟨trivial,_,rfl⟩
 .refine AO ?_
  exact⟨trivial,_,rfl⟩
theorem kJ (m:Mo)(z:Int)(hz:z<0∨(m.crs.length:Int)<=z)(h:Hp):PCall (En G) 198 [.agg (DJ m),.n z] h (.bool false):=by
 refine ACalls.pure0 rfl ?_;refine acT Tryz.func198 4 ?_;refine BC @bxM ?_;cases d0:decide (z<0)
 .have d1:decide (z≥(m.crs.length:Int))=true:=by rw[decide_eq_true_eq]; rw[decide_eq_false_iff_not] at d0; omega
  refine KF nZ @YA d1 ?_;exact⟨trivial,_,rfl⟩
 .refine AO ?_
  exact⟨trivial,_,rfl⟩
theorem lZ (m:Mo)(z:Int)(hz:z<0∨(m.crs.length:Int)<=z)(l:List Int)(s:SM)(h:Hp):PCall (En G) 71 [.agg (DJ m),.n z,.sl s 1 (l.map qencI)] h (.tup [.n 0,.bool false]):=by
 refine ACalls.pure 2 (R:=fun v H=>v=.tup [.n 0,.bool false]∧∃x,H=h++x) ?_ (fun v h' ⟨e,x⟩=>⟨x,by subst e; rfl⟩);refine acL Tryz.func71 [.tmp 6,.tmp 7] ?_;refine BB @bxM (ldM (A7 h (zZ 2 [DJ m]))) ?_;refine(AD7 G m z hz _).uu ?_;exact⟨trivial,_,rfl⟩
theorem pE (m:Mo)(z:Int)(hz:z<0∨(m.crs.length:Int)<=z)(l:List Int)(s:SM)(h:Hp):PCall (En G) 110 [.agg (DJ m),.n z,.sl s 1 (l.map qencI)] h (.tup [.n 0,.bool false]):=by
 refine ACalls.pure 2 (R:=fun v H=>v=.tup [.n 0,.bool false]∧∃x,H=h++x) ?_ (fun v h' ⟨e,x⟩=>⟨x,by subst e; rfl⟩);refine acL Tryz.func110 [.tmp 6,.tmp 7] ?_;refine BB @bxM (ldM (A7 h (zZ 2 [DJ m]))) ?_;refine(kJ G m z hz _).uu ?_;exact⟨trivial,_,rfl⟩
theorem mA (m:Mo)(i:Nat)(hi:i<m.crs.length)(hg:CrGood m m.crs[i])(l:List Int)(s:SM)(hn:l.length<=1048576)(h:Hp):PCall (En G) 71 [.agg (DJ m),.n (i:Int),.sl s 1 (l.map qencI)] h (.tup [.n (ixV (szs m m.crs[i].pts) l),.bool (JX (szs m m.crs[i].pts) l)]):=by
 refine ACalls.pure 2 (R:=fun v H=>v=.tup [.n (ixV (szs m m.crs[i].pts) l),.bool (JX (szs m m.crs[i].pts) l)]∧∃x,H=h++x) ?_ (fun v h' ⟨e,x⟩=>⟨x,by subst e; rfl⟩);have hx:∃x,h++[zZ 2 [DJ m]]=h++x:=⟨_,rfl⟩;refine acL Tryz.func71 [.tmp 6,.tmp 7] ?_;refine BB @bxM (ldM (A7 h (zZ 2 [DJ m]))) ?_;refine(gB G m i hi hg _).use ?_;refine BC (ldM (A7 h (zZ 2 [DJ m]))) ?_;refine(dT G m i hi hg _).use ?_;generalize szs m m.crs[i].pts=ns;rcases Classical.em (l.length=ns.length) with hlen|hlen
 case inr =>
  have hne:((l.length:Int) != (ns.length:Int))=true:=by simp; omega
  have hb:=AH7 hlen;have hv:ixV ns l=0:=by unfold ixV; rw[hb]; rfl
  refine BC hne ?_;exact⟨by rw[hb,hv],hx⟩
 have hne:((l.length:Int) != (ns.length:Int))=false:=by rw[hlen]; simp
 refine BC hne ?_;refine BI (fun n F H=>∃k,n+k=l.length∧F 8=.sl .any 1 (ns.map PY)∧(∃z,F 9=.n z∧aV ns l 0=aV (ns.drop k) (l.drop k) z)∧F 24=.sl s 1 (l.map qencI)∧F 25=.n l.length∧F 26=.n (k:Nat)∧H=h++[zZ 2 [DJ m]]∧JX ns l=JX (ns.drop k) (l.drop k)) l.length ⟨0,BA,AQ,⟨0,rfl,rfl⟩,AQ,AQ,AQ,rfl,rfl⟩ ?_;rintro n F H ⟨k,hk,f8,⟨z,f9,hz⟩,f24,f25,f26,rfl,hin⟩;refine BB f25 f26 ?_;refine D8 ?_ ?_<;>intro hk'
 .have hkn:k<ns.length:=U
  rw[sE hk' hkn] at hin;rw[zU hk',zU hkn] at hz;cases d0:decide (l[k]<0)
  .have e0:decide (0<=l[k])=true:=by rw[decide_eq_true_eq]; rw[decide_eq_false_iff_not] at d0; omega
   cases d1:decide (l[k]≥(ns[k]:Int))
   .have e1:decide (l[k]<(ns[k]:Int))=true:=by rw[decide_eq_true_eq]; rw[decide_eq_false_iff_not] at d1; omega
    rw[e0,e1,qR,qR] at hin;simp -implicitDefEqProofs only[vQ,EJ,CV,WG,↓reduceIte,jB,enP,LQ,f8,f9,f24,f26,CQ hk',CG ag3 hk',encI0,d0,CQ hkn,CG ag3 hkn,ACE,d1,DF k];exact⟨n-1,U,k+1,U,trivial,⟨_,rfl,hz⟩,trivial,f25,rfl,trivial,hin⟩
   .have e1:decide (l[k]<(ns[k]:Int))=false:=by rw[decide_eq_false_iff_not]; rw[decide_eq_true_eq] at d1; omega
    rw[e1,Bool.and_false,wH] at hin;have hv:ixV ns l=0:=by unfold ixV; rw[hin]; rfl
    refine YN f8 f9 f24 f26 hk' @encI0 d0 hkn @ACE d1 ?_;exact⟨by rw[hin,hv],hx⟩
  .have e0:decide (0<=l[k])=false:=by rw[decide_eq_false_iff_not]; rw[decide_eq_true_eq] at d0; omega
   rw[e0,wH,wH] at hin;have hv:ixV ns l=0:=by unfold ixV; rw[hin]; rfl
   refine P7 f8 f9 f24 f26 hk' @encI0 d0 ?_;exact⟨by rw[hin,hv],hx⟩
 .rw[ABP U U] at hin
  rw[jX (U:l.length<=k),dB] at hz;have hv:ixV ns l=z:=by unfold ixV; rw[if_pos hin,hz]
  refine BC f9 ?_;exact⟨by rw[hin,hv],hx⟩
theorem pF (m:Mo)(i:Nat)(hi:i<m.crs.length)(hg:CrGood m m.crs[i])(l:List Int)(s:SM)(hn:l.length<=1048576)(h:Hp):PCall (En G) 110 [.agg (DJ m),.n (i:Int),.sl s 1 (l.map qencI)] h (.tup [.n (ixV (szs m m.crs[i].pts) l),.bool (JX (szs m m.crs[i].pts) l)]):=by
 have hsl:=NV m m.crs[i].pts;have hget:=iQ m m.crs[i].pts;refine ACalls.pure 2 (R:=fun v H=>v=.tup [.n (ixV (szs m m.crs[i].pts) l),.bool (JX (szs m m.crs[i].pts) l)]∧∃x,H=h++x) ?_ (fun v h' ⟨e,x⟩=>⟨x,by subst e; rfl⟩);have gm:=A7 h (zZ 2 [DJ m]);have hx:∃x,h++[zZ 2 [DJ m]]=h++x:=⟨_,rfl⟩;refine acL Tryz.func110 [.tmp 6,.tmp 7] ?_;refine BB @bxM (ldM gm) ?_;refine(kK G m i hi hg _).use ?_;rcases Classical.em (l.length=m.crs[i].pts.length) with hlen|hlen
 case inr =>
  have hne:((l.length:Int) != (m.crs[i].pts.length:Int))=true:=by simp; omega
  have hb:JX (szs m m.crs[i].pts) l=false:=AH7 U;have hv:ixV (szs m m.crs[i].pts) l=0:=by unfold ixV; rw[hb]; rfl
  simp -implicitDefEqProofs only[vQ,MZ,vX,NS,EJ,CV,bV,RF,↓reduceIte,jB,zW,enP,UN,MM,XT,MB,aU gm,CQ hi,CG O6 hi,UD,jJ,hne];exact⟨by rw[hb,hv],hx⟩
 have hne:((l.length:Int) != (m.crs[i].pts.length:Int))=false:=by rw[hlen]; simp
 simp -implicitDefEqProofs only[vQ,EJ,CV,bV,RF,↓reduceIte,jB,zW,enP,UN,MM,XT,MB,aU gm,CQ hi,CG O6 hi,UD,jJ,hne]
 generalize h++[zZ 2 [DJ m]]=H at gm hx|-
 generalize szs m m.crs[i].pts=ns at hsl hget|-
 refine BI (fun n F H'=>∃k,n+k=l.length∧F 1=.n (i:Nat)∧F 2=.sl s 1 (l.map qencI)∧F 3=.ptr h.length 0 0∧(∃z,F 8=.n z∧aV ns l 0=aV (ns.drop k) (l.drop k) z)∧F 9=.n (k:Nat)∧H'=H∧JX ns l=JX (ns.drop k) (l.drop k)) l.length ⟨0,BA,by simp -implicitDefEqProofs only[vQ,↓reduceIte,jB],by simp -implicitDefEqProofs only[vQ,↓reduceIte,jB],by simp -implicitDefEqProofs only[AY,↓reduceIte,jB],⟨0,rfl,rfl⟩,by simp -implicitDefEqProofs only[AY,↓reduceIte]; rfl,rfl,rfl⟩ ?_;rintro n F H' ⟨k,hk,f1,f2,f3,⟨z,f8,hz⟩,f9,rfl,hin⟩;refine BB f2 f9 ?_;refine D8 ?_ ?_<;>intro hk'
 .have hkn:k<ns.length:=U
  have hkc:k<m.crs[i].pts.length:=U;have hgk:ns[k]=(JC m m.crs[i].pts[k]).length:=GV (hget k hkc);rw[sE hk' hkn] at hin;rw[zU hk',zU hkn] at hz;refine E8 f1 f3 f9 (ldM gm) ?_;refine(nS G m i hi hg k hkc _).use ?_;rw[<-hgk];cases d0:decide (l[k]<0)
  .have e0:decide (0<=l[k])=true:=by rw[decide_eq_true_eq]; rw[decide_eq_false_iff_not] at d0; omega
   cases d1:decide (l[k]≥(ns[k]:Int))
   .have e1:decide (l[k]<(ns[k]:Int))=true:=by rw[decide_eq_true_eq]; rw[decide_eq_false_iff_not] at d1; omega
    rw[e0,e1,qR,qR] at hin;simp -implicitDefEqProofs only[vQ,EJ,CV,WG,↓reduceIte,jB,enP,LQ,f2,f8,f9,CQ hk',CG ag3 hk',encI0,d0,d1,DF k];exact⟨n-1,U,k+1,U,f1,trivial,f3,⟨_,rfl,hz⟩,rfl,trivial,hin⟩
   .have e1:decide (l[k]<(ns[k]:Int))=false:=by rw[decide_eq_false_iff_not]; rw[decide_eq_true_eq] at d1; omega
    rw[e1,Bool.and_false,wH] at hin;have hv:ixV ns l=0:=by unfold ixV; rw[hin]; rfl
    refine P7 f2 f8 f9 hk' @encI0 d0 d1 ?_;exact⟨by rw[hin,hv],hx⟩
  .have e0:decide (0<=l[k])=false:=by rw[decide_eq_false_iff_not]; rw[decide_eq_true_eq] at d0; omega
   rw[e0,wH,wH] at hin;have hv:ixV ns l=0:=by unfold ixV; rw[hin]; rfl
   refine AD1 f2 f8 f9 hk' @encI0 d0 ?_;exact⟨by rw[hin,hv],hx⟩
 .rw[ABP U U] at hin
  rw[jX (U:l.length<=k),dB] at hz;have hv:ixV ns l=z:=by unfold ixV; rw[if_pos hin,hz]
  refine BC f8 ?_;exact⟨by rw[hin,hv],hx⟩
end Go.Proofs.YtiihpnicbekebaaGreatDoor.Cov
namespace Go.Proofs.YtiihpnicbekebaaGreatDoor.Ho
open Sm Bins Cov Go.RowKit
variable {H:Hp} {b i k:Nat} {m:Mo} {p:Pt} (G:Nat->AV )
structure Hl where
 cross:Bool
 idx:Int
 bm:SM
 bins:List Int
def FQ (x:Hl):List AV:=[.bool x.cross,.n x.idx,.sl x.bm 1 (x.bins.map qencI)]
theorem AL4 (x:Hl):(FQ x).length=3:=rfl
theorem bxH (h:Hp)(x:Hl):MI h (.agg (FQ x))=some (.ptr h.length 0 0,h++[zZ 3 [FQ x]]):=SC rfl
theorem ldH {x:Hl}(hb:H[b]?=some (zZ 3 [FQ x])):BU jA H 34 (.ptr b 0 0)=some (.agg (FQ x)):=by
 rw[EH A1H tW hb rfl (by rw[AL4]; exact jF 3)]; rfl
theorem ALC {x:Hl}(hb:H[b]?=some (zZ 3 [FQ x])):BU jA H 4 (.ptr b 0 0)=some (.bool x.cross):=by rw[BL ag4 hb (row:=FQ x) rfl]; rfl
theorem oZ {x:Hl}(hb:H[b]?=some (zZ 3 [FQ x])):BU jA H 3 (.ptr b 0 1)=some (.n x.idx):=by rw[BL ag3 hb (row:=FQ x) rfl]; rfl
theorem oY {x:Hl}(hb:H[b]?=some (zZ 3 [FQ x])):BU jA H 32 (.ptr b 0 2)=some (.sl x.bm 1 (x.bins.map qencI)):=by rw[BL O6 hb (row:=FQ x) rfl]; rfl
def ACQ (m:Mo)(z:Int):Option Cr:=if 0<=z then m.crs[z.toNat]? else none
def AER (m:Mo)(z:Int):Option Pt:=if 0<=z then m.pts[z.toNat]? else none
def mN (p:Pt):List Int->Bool
 | [b]=>decide (0<=b)&&decide (b<(p.bins.length:Int))&&(kindOf p b.toNat==0)
 | _=>false
def crF (m:Mo)(x:Hl):Option Cr->Bool
 | some c=>JX (szs m c.pts) x.bins&&dC m c x.bins
 | none=>false
def ptF (x:Hl):Option Pt->Bool
 | some p=>mN p x.bins
 | none=>false
def U5 (m:Mo)(x:Hl):Bool:=if x.cross=true then crF m x (ACQ m x.idx) else ptF x (AER m x.idx)
def LW (m:Mo)(x:Hl):Bool:=(F8 m==0)&&U5 m x
theorem nI {z:Int}(h:z<0∨(m.crs.length:Int)<=z):ACQ m z=none:=by
 unfold ACQ;split
 .exact qQ U
 .rfl
theorem ZB (hi:i<m.crs.length):ACQ m (i:Int)=some m.crs[i]:=by
 unfold ACQ;rw[if_pos U,wB,jM hi]
theorem lC {z:Int}(h:z<0∨(m.pts.length:Int)<=z):AER m z=none:=by
 unfold AER;split
 .exact qQ U
 .rfl
theorem uJ (hi:i<m.pts.length):AER m (i:Int)=some m.pts[i]:=by
 unfold AER;rw[if_pos U,wB,jM hi]
theorem PQ (z:Int)(n:Nat):(z<0∨(n:Int)<=z)∨∃i:Nat,i<n∧z=(i:Int):=by
 rcases Classical.em (z<0∨(n:Int)<=z) with h|h
 .exact .inl h
 .exact .inr ⟨z.toNat,U,U⟩
structure Hb (h H:Hp) (m:Mo) (x:Hl) (hb:Nat):Prop where
 gm:H[h.length]?=some (zZ 2 [DJ m])
 gh:H[hb]?=some (zZ 3 [FQ x])
 hx:ext h H
theorem Hb.mk' (h:Hp)(m:Mo)(x:Hl):Hb h (h++[zZ 2 [DJ m]]++[zZ 3 [FQ x]]) m x (h++[zZ 2 [DJ m]]).length :=
 ⟨AL (A7 _ _),A7 _ _,((ext.rfl' h).app _).app _⟩
theorem mL {l:List Int}(h:l.length≠1):mN p l=false:=by
 match l,h with
 | [],_=>rfl
 | [b],h=>exact absurd rfl h
 | _::_::_,_=>rfl
theorem ALF (hk:k<p.bins.length):kindOf p k=p.bins[k].kind:=by unfold kindOf; rw[jM hk]
theorem eW {b:Int}(h:b<0∨(p.bins.length:Int)<=b):mN p [b]=false:=by
 show(decide (0<=b)&&decide (b<(p.bins.length:Int))&&(kindOf p b.toNat==0))=false;rcases h with h|h
 .rw[show decide (0<=b)=false by rw[decide_eq_false_iff_not]; omega]; rfl
 .rw[show decide (b<(p.bins.length:Int))=false by rw[decide_eq_false_iff_not]; omega,Bool.and_false]; rfl
theorem mM (hk:k<p.bins.length):mN p [(k:Int)]=(p.bins[k].kind==0):=by
 show(decide (0<=(k:Int))&&decide ((k:Int)<(p.bins.length:Int))&&(kindOf p (k:Int).toNat==0))=_;rw[wB,ALF hk,show decide (0<=(k:Int))=true by rw[decide_eq_true_eq]; omega,show decide ((k:Int)<(p.bins.length:Int))=true by rw[decide_eq_true_eq]; omega]; rfl
theorem ltz_false (i:Nat):decide ((i:Int)<0)=false:=by rw[decide_eq_false_iff_not]; omega
theorem Y8 {n:Nat}(h:i<n):decide ((i:Int)≥(n:Int))=false:=by rw[decide_eq_false_iff_not]; omega
theorem ABC {n:Nat}(h:i<n):decide ((i:Int)<(n:Int))=true:=by rw[decide_eq_true_eq]; omega
theorem mC (i:Nat):decide ((i:Int)≥0)=true:=by rw[decide_eq_true_eq]; omega
theorem aH {l:List Int}(h:l.length=1):∃b,l=[b]:=by
 match l,h with
 | [b],_=>exact⟨b,rfl⟩
section
variable (G:Nat->AV)
theorem ALU (m:Mo)(hg:Cov.Good m)(x:Hl)(hn:x.bins.length<=1048576)(h:Hp):PCall (En G) 91 [.agg (DJ m),.agg (FQ x)] h (.bool (U5 m x)):=by
 refine ACalls.pure0 rfl ?_;refine acT Tryz.func91 4 ?_;have t:=Hb.mk' h m x;refine BB @bxM @bxH ?_
 generalize h++[zZ 2 [DJ m]]++[zZ 3 [FQ x]]=H at t|-
 generalize (h++[zZ 2 [DJ m]]).length=hb at t|-
 refine BC (ALC t.gh) ?_;cases hc:x.cross
 case true =>
  have hf:U5 m x=crF m x (ACQ m x.idx):=by unfold U5; rw[if_pos hc]
  refine DT (ldM t.gm) (oZ t.gh) (oY t.gh) ?_;rcases PQ x.idx m.crs.length with hz|⟨i,hi,hz⟩
  .rw[nI hz] at hf; change U5 m x=false at hf
   refine(lZ G m x.idx hz x.bins x.bm H).uu ?_;exact⟨by rw[hf],t.hx⟩
  .rw[hz,ZB hi] at hf
   change U5 m x=(JX (szs m m.crs[i].pts) x.bins&&dC m m.crs[i] x.bins) at hf;have hcg:=hg.crs _ (jH hi);rw[hz];refine(mA G m i hi hcg x.bins x.bm hn H).use ?_;cases hin:JX (szs m m.crs[i].pts) x.bins
   .refine AO ?_
    exact⟨by rw[hf,hin,wH],t.hx⟩
   .refine DT (ldM t.gm) (oZ t.gh) (oY t.gh) ?_
    rw[hz];refine(pM G m i hi hcg x.bins x.bm hin H).uu ?_;exact⟨by rw[hf,hin,qR,Bool.not_not],t.hx⟩
 have hf:U5 m x=ptF x (AER m x.idx):=by unfold U5; rw[if_neg (by rw[hc]; decide)]
 have l1:=oZ t.gh;have l2:=oY t.gh;rcases PQ x.idx m.pts.length with hz|⟨i,hi,hz⟩
 .rw[lC hz] at hf; change U5 m x=false at hf
  cases d0:decide (x.idx<0)
  .have d1:decide (x.idx≥(m.pts.length:Int))=true:=by rw[decide_eq_true_eq]; rw[decide_eq_false_iff_not] at d0; omega
   refine E8 l1 d0 (UM t.gm) d1 ?_;exact⟨by rw[hf],t.hx⟩
  .refine BB l1 d0 ?_
   exact⟨by rw[hf],t.hx⟩
 rw[hz,uJ hi] at hf;change U5 m x=mN m.pts[i] x.bins at hf;rw[hz] at l1;rcases Classical.em (x.bins.length=1) with hl|hl
 case inr =>
  have hne:((x.bins.length:Int) != 1)=true:=by simp; omega
  refine MV l1 l2 @ltz_false (UM t.gm) (Y8 hi) hne ?_;exact⟨by rw[hf,mL hl],t.hx⟩
 obtain⟨b,hb1⟩:=aH hl;rw[hb1] at l2 hf;have h01:0<([b]:List Int).length:=BA;have i0:JJ 1 H (.sl x.bm 1 [qencI b]) (.n 0)=some (.fptr 1 [qencI b] 0 0):=CQ (k:=1) h01;have hne:(((([qencI b]:List (List AV)).length:Nat):Int) != 1)=false:=rfl;have lb:BU jA H 3 (.fptr 1 [qencI b] 0 0)=some (.n b):=(CG ag3 h01).trans rfl;simp -implicitDefEqProofs only[vQ,EJ,CV,↓reduceIte,jB,enP,RJ,AK7,KU,LQ,XT,UO,TB,KI,l1,l2,ltz_false,UM t.gm,jJ,Y8 hi,hne,CQ hi,CG O4 hi,OO,i0,lb];rcases PQ b m.pts[i].bins.length with hb2|⟨k,hk,rfl⟩
 .rw[eW hb2] at hf
  cases d0:decide (b≥0)
  .refine BC d0 ?_
   exact⟨by rw[hf],t.hx⟩
  .have d1:decide (b<(m.pts[i].bins.length:Int))=false:=by rw[decide_eq_false_iff_not]; rw[decide_eq_true_eq] at d0; omega
   refine I7 d0 l2 i0 lb d1 ?_;exact⟨by rw[hf],t.hx⟩
 .rw[mM hk] at hf
  simp -implicitDefEqProofs only[vQ,EJ,Q9,CV,↓reduceIte,jB,enP,LQ,TB,XV,cV,WA,mC,l2,i0,lb,jJ,ABC hk,CQ hk,CG ag3 hk,TE];exact⟨by rw[hf],t.hx⟩
end
section
variable (G:Nat->AV)
theorem valid_prog (hG:GOk G)(m:Mo)(hm:MoOk m)(x:Hl)(hn:x.bins.length<=1048576)(h:Hp):PCall (En G) 42 [.agg (DJ m),.agg (FQ x)] h (.bool (LW m x)):=by
 refine ACalls.pure0 rfl ?_;refine acT Tryz.func42 4 ?_;have t:=Hb.mk' h m x;refine BB @bxM @bxH ?_
 generalize h++[zZ 2 [DJ m]]++[zZ 3 [FQ x]]=H at t|-
 generalize (h++[zZ 2 [DJ m]]).length=hb at t|-
 refine BC (ldM t.gm) ?_;refine(QF G hG m hm H).use ?_;unfold LW;cases h0:(F8 m==0)
 .refine BC h0 ?_
  exact⟨by rw[wH],t.hx⟩
 .have hg:Cov.Good m:=UA (BN h0)
  refine DT h0 (ldM t.gm) (ldH t.gh) ?_;refine(ALU G m hg x hn H).uu ?_;exact⟨by rw[qR],t.hx⟩
theorem valid_ref (m:Mo)(hm:MoOk m)(x:Hl)(hn:x.bins.length<=1048576)(h:Hp):PCall (En G) 50 [.agg (DJ m),.agg (FQ x)] h (.bool (LW m x)):=by
 refine ACalls.pure0 rfl ?_;refine acT Tryz.func50 4 ?_;have t:=Hb.mk' h m x;refine BB @bxM @bxH ?_
 generalize h++[zZ 2 [DJ m]]++[zZ 3 [FQ x]]=H at t|-
 generalize (h++[zZ 2 [DJ m]]).length=hb at t|-
 refine BC (ldM t.gm) ?_;refine(rS G m hm H).use ?_;unfold LW;cases h0:(F8 m==0)
 .simp -implicitDefEqProofs only[vQ,MZ,NS,CV,↓reduceIte,enP,bne,h0]
  exact⟨by rw[wH],t.hx⟩
 have hg:Cov.Good m:=UA (BN h0);rw[qR];simp -implicitDefEqProofs only[vQ,CV,↓reduceIte,jB,zW,enP,AFR,bne,h0,ALC t.gh];cases hc:x.cross
 case true =>
  have hf:U5 m x=crF m x (ACQ m x.idx):=by unfold U5; rw[if_pos hc]
  refine DT (ldM t.gm) (oZ t.gh) (oY t.gh) ?_;rcases PQ x.idx m.crs.length with hz|⟨i,hi,hz⟩
  .rw[nI hz] at hf; change U5 m x=false at hf
   refine(pE G m x.idx hz x.bins x.bm H).uu ?_;exact⟨by rw[hf],t.hx⟩
  .rw[hz,ZB hi] at hf
   change U5 m x=(JX (szs m m.crs[i].pts) x.bins&&dC m m.crs[i] x.bins) at hf;have hcg:=hg.crs _ (jH hi);rw[hz];refine(pF G m i hi hcg x.bins x.bm hn H).use ?_;cases hin:JX (szs m m.crs[i].pts) x.bins
   .refine AO ?_
    exact⟨by rw[hf,hin,wH],t.hx⟩
   .refine DT (ldM t.gm) (oZ t.gh) (oY t.gh) ?_
    rw[hz];refine(vT G m i hi hcg x.bins x.bm hin H).uu ?_;exact⟨by rw[hf,hin,qR,Bool.not_not],t.hx⟩
 have hf:U5 m x=ptF x (AER m x.idx):=by unfold U5; rw[if_neg (by rw[hc]; decide)]
 have l1:=oZ t.gh;have l2:=oY t.gh;rcases PQ x.idx m.pts.length with hz|⟨i,hi,hz⟩
 .rw[lC hz] at hf; change U5 m x=false at hf
  cases d0:decide (x.idx<0)
  .have d1:decide (x.idx≥(m.pts.length:Int))=true:=by rw[decide_eq_true_eq]; rw[decide_eq_false_iff_not] at d0; omega
   refine E8 l1 d0 (UM t.gm) d1 ?_;exact⟨by rw[hf],t.hx⟩
  .refine BB l1 d0 ?_
   exact⟨by rw[hf],t.hx⟩
 rw[hz,uJ hi] at hf;change U5 m x=mN m.pts[i] x.bins at hf;rw[hz] at l1;rcases Classical.em (x.bins.length=1) with hl|hl
 case inr =>
  have hne:((x.bins.length:Int)==1)=false:=by simp; omega
  simp -implicitDefEqProofs only[vQ,MZ,NS,EJ,CV,↓reduceIte,jB,enP,AK7,KU,XT,UO,TB,l1,l2,ltz_false,UM t.gm,jJ,Y8 hi,bne,hne];exact⟨by rw[hf,mL hl],t.hx⟩
 obtain⟨b,hb1⟩:=aH hl;rw[hb1] at l2 hf;have h01:0<([b]:List Int).length:=BA;have i0:JJ 1 H (.sl x.bm 1 [qencI b]) (.n 0)=some (.fptr 1 [qencI b] 0 0):=CQ (k:=1) h01;have hne:(((([qencI b]:List (List AV)).length:Nat):Int)==1)=true:=rfl;have lb:BU jA H 3 (.fptr 1 [qencI b] 0 0)=some (.n b):=(CG ag3 h01).trans rfl;simp -implicitDefEqProofs only[vQ,EJ,CV,↓reduceIte,jB,zW,enP,RJ,AK7,KU,LQ,XT,UO,TB,KI,l1,l2,ltz_false,UM t.gm,jJ,Y8 hi,bne,hne,CQ hi,CG O4 hi,OO,i0,lb];rcases PQ b m.pts[i].bins.length with hb2|⟨k,hk,rfl⟩
 .rw[eW hb2] at hf
  cases d0:decide (b≥0)
  .refine BC d0 ?_
   exact⟨by rw[hf],t.hx⟩
  .have d1:decide (b<(m.pts[i].bins.length:Int))=false:=by rw[decide_eq_false_iff_not]; rw[decide_eq_true_eq] at d0; omega
   refine I7 d0 l2 i0 lb d1 ?_;exact⟨by rw[hf],t.hx⟩
 .rw[mM hk] at hf
  simp -implicitDefEqProofs only[vQ,EJ,Q9,CV,↓reduceIte,jB,enP,LQ,TB,XV,cV,WA,mC,l2,i0,lb,jJ,ABC hk,CQ hk,CG ag3 hk,TE];exact⟨by rw[hf],t.hx⟩
end
theorem eH {x:Hl}(hv:LW m x=true)(hc:x.cross=true):∃i,∃hi:i<m.crs.length,x.idx=(i:Int)∧JX (szs m m.crs[i].pts) x.bins=true∧dC m m.crs[i] x.bins=true∧Cov.Good m:=by
 unfold LW at hv;rw[jU] at hv;obtain⟨h0,hf⟩:=hv;unfold U5 at hf;rw[if_pos hc] at hf;rcases PQ x.idx m.crs.length with hz|⟨i,hi,hz⟩
 .rw[nI hz] at hf; exact Bool.noConfusion (show false=true from hf)
 .rw[hz,ZB hi] at hf
  change (JX (szs m m.crs[i].pts) x.bins&&dC m m.crs[i] x.bins)=true at hf;rw[jU] at hf;exact⟨i,hi,hz,hf.1,hf.2,UA (BN h0)⟩
theorem eG {x:Hl}(hv:LW m x=true)(hc:x.cross=false):∃i,∃hi:i<m.pts.length,∃k,∃hk:k<m.pts[i].bins.length,x.idx=(i:Int)∧x.bins=[(k:Int)]∧m.pts[i].bins[k].kind=0∧Cov.Good m:=by
 unfold LW at hv;rw[jU] at hv;obtain⟨h0,hf⟩:=hv;unfold U5 at hf;rw[if_neg (by rw[hc]; decide)] at hf;rcases PQ x.idx m.pts.length with hz|⟨i,hi,hz⟩
 .rw[lC hz] at hf; exact Bool.noConfusion (show false=true from hf)
 .rw[hz,uJ hi] at hf
  change mN m.pts[i] x.bins=true at hf;rcases Classical.em (x.bins.length=1) with hl|hl
  .obtain⟨b,hb⟩:=aH hl
   rw[hb] at hf;rcases PQ b m.pts[i].bins.length with hb2|⟨k,hk,rfl⟩
   .rw[eW hb2] at hf; exact Bool.noConfusion (show false=true from hf)
   .rw[mM hk] at hf
    exact⟨i,hi,k,hk,hz,hb,BN hf,UA (BN h0)⟩
  .rw[mL hl] at hf; exact Bool.noConfusion (show false=true from hf)
theorem ALB (hb:H[b]?=some (zZ 6 [FY p])):BU jA H 80 (.ptr b 0 5)=some (.sl p.bm 4 (p.bins.map IP)):=by
 rw[BL O4 hb (row:=FY p) rfl,OO]
theorem ABG (hb:H[b]?=some (zZ 6 [FY p])):BU jA H 79 (.ptr b 0 1)=some (.agg (AU p.ex)):=by
 rw[EH O5 JL hb rfl (by rw[IW]; exact jC rfl),vY]
theorem QE {P:Program}{t e:TypeId}{α:Type}{bs:Nat}{f:α->List AV}{h:Hp}{xs ys:List α}{v:AV}(s:SM)(ho:outG k f h xs v H)(hu:P.underlying t=some (.slice e))(hs:szO P e=some k)(hz:RD P e=some k)(hb:KG P e=some bs)(hbs:bs<=4194304)(hl:xs.length+ys.length<=8388608)(he:ext h H):
  ∃v' H',EG P true H t t v (.sl s k (ys.map f))=some (v',H')∧outG k f h (xs++ys) v' H'∧(∀b x,H[b]?=some x->¬isB v b->H'[b]?=some x)∧ext h H'∧H.length<=H'.length∧(∀b,isB v' b->isB v b∨b=H.length):=by
 cases ys with
 | nil =>
   refine⟨v,H,?_,by rw[jQ]; exact ho,fun _ _ hx _=>hx,he,jF _,fun b hb=>.inl hb⟩;have hcs:JB H (.sl s k [])=some (k,[]):=G5 H s k [];rcases ho with⟨rfl,rfl⟩|⟨hne,o,h2,rfl,h3⟩
   .simp [EG,hu,hs,RG,hcs,bump]
   .have hc:JB H (.own o 0 xs.length)=some (k,xs.map f):=by rw[JS h3 BA,zI,jI BA]
    simp [EG,hu,hs,RG,hc,hcs,bump]
 | cons y ys =>
   have h1:(y::ys).map f≠[]:=BA;rcases ho with⟨rfl,rfl⟩|⟨hne,o,h2,rfl,h3⟩
   .refine⟨_,_,SE hu hs hz hb (G5 H s k ((y::ys).map f)) h1 (IV (by simp at hl|-; omega) hbs),.inr ⟨BA,H.length,he.le,BA,BA⟩,fun b x hb _=>IK hb,he.app _,BA,fun b hb=>.inr hb.symm⟩
   .have hc:JB H (.own o 0 xs.length)=some (k,xs.map f):=by rw[JS h3 BA,zI,jI BA]
    refine⟨_,_,QT hu hs hz hb hc (G5 H s k ((y::ys).map f)) h1 (IV (by simp at hl|-; omega) hbs),.inr ⟨BA,H.length,he.le,BA,BA⟩,fun b x hb hn=>?_,(he.set h2 _).app _,BA,fun b hb=>.inr hb.symm⟩;have hn':¬o=b:=hn;refine IK ?_;rw[List.getElem?_set,if_neg hn']; exact hb
def KA:List Bin->List Rng
 | []=>[]
 | b::r=>(if b.kind≠0 then b.ranges.l else [])++KA r
theorem sW {l:List Bin}(hk:k<l.length):KA (l.take (k+1))=KA (l.take k)++(if l[k].kind≠0 then l[k].ranges.l else []):=by
 induction l generalizing k with
 | nil=>simp at hk
 | cons b r ih =>
   cases k with
   | zero=>simp [KA]
   | succ k =>
     have:=ih (k:=k) (BN hk);simp only[List.take_succ_cons,List.getElem_cons_succ];show _++KA (r.take (k+1))=(_++KA (r.take k))++_;rw[this,List.append_assoc]
theorem ADG {l:List Bin}(k:Nat):(KA (l.take k)).length<=(KA l).length:=by
 induction l generalizing k with
 | nil=>simp
 | cons b r ih =>
   cases k with
   | zero=>simp [KA]
   | succ k =>
     have:=ih k;show(_++KA (r.take k)).length<=(_++KA r).length;rw[zA,zA]; omega
theorem AYB:Frz encR:=fun _ _ _ _=>⟨rfl,rfl⟩
theorem AH3 {x:Bin}(hb:H[b]?=some (zZ 4 [IP x])):BU jA H 84 (.ptr b 0 2)=some (.sl x.ranges.m 2 (x.ranges.l.map encR)):=by
 rw[BL QI hb (row:=IP x) rfl,aA]
theorem A3B {x:Bin}(hb:H[b]?=some (zZ 4 [IP x])):BU jA H 3 (.ptr b 0 1)=some (.n x.kind):=by
 rw[BL ag3 hb (row:=IP x) rfl,TE]
theorem AWL (h:Hp)(p:Pt):MI h (.agg (FY p))=some (.ptr h.length 0 0,h++[zZ 6 [FY p]]):=by
 rw[SC (fE p),IW]
section
variable (G:Nat->AV)
theorem ASE (p:Pt)(hp:p.bins.length<=1048576)(hl:(KA p.bins).length<=1048576)(h:Hp):PCall (En G) 169 [.agg (FY p)] h (.sl (Cov.nm (KA p.bins)) 2 ((KA p.bins).map encR)):=by
 refine LY AYB ?_;refine acT Tryz.func169 2 ?_;have gp:=A7 h (zZ 6 [FY p]);have hx:=Sm.ext.r1 h (zZ 6 [FY p]);refine BC @AWL ?_
 generalize h++[zZ 6 [FY p]]=H0 at gp hx|-
 refine BC (ALB gp) ?_
 refine BI (fun n F H=>∃k u,n+k=p.bins.length∧F 3=u∧F 7=.sl p.bm 4 (p.bins.map IP)∧F 8=.n (p.bins.length:Nat)∧F 9=.n (k:Nat)∧ext H0 H∧outG 2 encR H0 (KA (p.bins.take k)) u H) p.bins.length
  ⟨0,.sl .nil 0 [],BA,AQ,AQ,AQ,AQ,ext.rfl' _,outG.nil _ _ _ _⟩ ?_
 rintro n F H ⟨k,u,hk,f3,f7,f8,f9,he,ho⟩;refine BB f8 f9 ?_;refine D8 ?_ ?_<;>intro hk'
 .have hst:=sW hk'
  have hbl:=ADG (l:=p.bins) (k+1);have gb:=A7 H (zZ 4 [IP p.bins[k]]);have he1:=he.app [zZ 4 [IP p.bins[k]]];have ho1:=ho.app [zZ 4 [IP p.bins[k]]];simp -implicitDefEqProofs only[vQ,CV,↓reduceIte,jB,enP,XV,WA,jO,f7,f9,CQ hk',DR nY cB LJ hk',al79,st79 _ _ [.str ⟨#[]⟩,.n 0,.sl .nil 0 [],.sl .nil 0 []] rfl]
  generalize H++[zZ 4 [IP p.bins[k]]]=H1 at gb he1 ho1|-
  simp -implicitDefEqProofs only[vQ,CV,↓reduceIte,enP,A3B gb,bne];cases hz:(p.bins[k].kind==0)
  .have hz':p.bins[k].kind≠0:=BN hz
   rw[if_pos hz'] at hst;rw[hst,zA] at hbl;obtain⟨v',H2,ha,ho2,_,he2,_,_⟩:=QE p.bins[k].ranges.m ho1 UH J4 tM xA U (ys:=p.bins[k].ranges.l) U he1;rw[<-hst] at ho2;refine I7 f3 (AH3 gb) ha f9 (DF k) ?_;exact⟨n-1,U,k+1,v',U,AZ,AZ,AZ,AZ,he2,ho2⟩
  .have hz':¬p.bins[k].kind≠0:=BN hz
   rw[if_neg hz',jQ] at hst;rw[<-hst] at ho1;refine BB f9 (DF k) ?_;exact⟨n-1,U,k+1,u,U,AZ,AZ,AZ,AZ,he1,ho1⟩
 .rw[jI U] at ho
  refine BC f3 ?_;exact⟨hx.trans he,ho.base hx.le⟩
theorem AWW (p:Pt)(hp:p.bins.length<=1048576)(hl:(KA p.bins).length<=1048576)(h:Hp):PCall (En G) 269 [.agg (FY p)] h (.sl (Cov.nm (KA p.bins)) 2 ((KA p.bins).map encR)):=by
 refine LY AYB ?_;refine acT Tryz.func269 2 ?_;have gp:=A7 h (zZ 6 [FY p]);have hx:=Sm.ext.r1 h (zZ 6 [FY p]);refine BC @AWL ?_
 generalize h++[zZ 6 [FY p]]=H0 at gp hx|-
 refine BI (fun n F H=>∃k u,n+k=p.bins.length∧F 1=.ptr h.length 0 0∧F 3=u∧F 4=.n (k:Nat)∧ext H0 H∧outG 2 encR H0 (KA (p.bins.take k)) u H) p.bins.length
  ⟨0,.sl .nil 0 [],BA,AQ,AQ,AQ,ext.rfl' _,outG.nil _ _ _ _⟩ ?_
 rintro n F H ⟨k,u,hk,f1,f3,f4,he,ho⟩;have gp1:=ED he gp;refine DT f1 f4 (ALB gp1) ?_;refine D8 ?_ ?_<;>intro hk'
 .have hst:=sW hk'
  have hbl:=ADG (l:=p.bins) (k+1);simp -implicitDefEqProofs only[vQ,CV,↓reduceIte,jB,enP,XV,KI,WA,f1,f4,ALB gp1,CQ hk',CG ag3 hk',TE,bne];cases hz:(p.bins[k].kind==0)
  .have hz':p.bins[k].kind≠0:=BN hz
   rw[if_pos hz'] at hst;rw[hst,zA] at hbl;obtain⟨v',H2,ha,ho2,_,he2,_,_⟩:=QE p.bins[k].ranges.m ho UH J4 tM xA U (ys:=p.bins[k].ranges.l) U he;rw[<-hst] at ho2;refine PG f1 f3 f4 (ALB gp1) hk' @aA ha (DF k) ?_;exact⟨n-1,U,k+1,v',U,AZ,AZ,AZ,he2,ho2⟩
  .have hz':¬p.bins[k].kind≠0:=BN hz
   rw[if_neg hz',jQ] at hst;rw[<-hst] at ho;refine BB f4 (DF k) ?_;exact⟨n-1,U,k+1,u,U,AZ,AZ,AZ,he,ho⟩
 .rw[jI U] at ho
  refine BC f3 ?_;exact⟨hx.trans he,ho.base hx.le⟩
end
def cE (n:Int):Ex:=.mk 1 n ⟨#[]⟩ .nil []
def WV (op n:Int):List AV:=[.n op,.n n,.str ⟨#[]⟩,.sl .nil 0 []]
theorem ADE (n:Int):G7 jA 79 [(0,.n 1),(1,.n n)]=some (.agg (WV 1 n)):=A8
theorem AJE (n:Int):CvRow (WV 1 n) (AU (cE n)):=by
 rw[EW];exact CvRow.cons rfl (Cv.refl _) (CvRow.cons rfl (Cv.refl _) (CvRow.cons rfl (Cv.refl _) (CvRow.cons rfl (Cv.nil 0 4) CvRow.nil)))
def cpE:Ex->Ex
 | .mk op n name _ args=>.mk op n name (match args with|[]=>.nil|_=>.any) (cpEs args)
 where cpEs:List Ex->List Ex
 | []=>[]
 | e::es=>cpE e::cpEs es
theorem ACR:∀l:List Ex,cpE.cpEs l=l.map cpE
 | []=>rfl
 | e::es=>by show cpE e::cpE.cpEs es=_; rw[ACR es]; rfl
theorem TF (e:Ex):cpE e=.mk e.op e.n e.name (Cov.nm (e.args.map cpE)) (e.args.map cpE):=by
 cases e with
 | mk op n name m args =>
   show Ex.mk op n name _ (cpE.cpEs args)=Ex.mk op n name _ (args.map cpE);rw[ACR];cases args<;>rfl
theorem frzEx:Frz AU:=fun n h d x=>by
 rw[EW]; exact⟨rfl,rfl⟩
def cpW (e:Ex):List AV:=[.n e.op,.n e.n,.str e.name,fzG 4 AU (e.args.map cpE)]
theorem ARO (e:Ex):CvR (.agg (cpW e)) (.agg (AU (cpE e))):=by
 rw[EW,TF];exact CvR.agg (CvRL.cons (CvR.refl _) (CvRL.cons (CvR.refl _) (CvRL.cons (CvR.refl _) (CvRL.cons X3 CvRL.nil))))
theorem nO (n:Int):CvR (.agg (WV 1 n)) (.agg (AU (cE n))):=by
 rw[EW];exact CvR.agg (CvRL.cons (CvR.refl _) (CvRL.cons (CvR.refl _) (CvRL.cons (CvR.refl _) (CvRL.cons (CvR.sl (Cv.nil 0 4)) CvRL.nil))))
theorem TW {row cs:List AV}(hb:H[b]?=some (zZ 4 [row]))(hr:row.length=4)(hc:cs.length=4)(hl:cs.all AV.leaf=true):DW jA H 79 (.ptr b 0 0) (.agg cs)=some (H.set b (zZ 4 [cs])):=by
 rw[I9 (cs:=cs) (O7 hl) (by rw[hc]; exact JL) hb (by rw[hr,hc]; exact jF 4)];have:splice row 0 cs=cs:=by unfold splice; rw[qB,List.drop_eq_nil_of_le (by rw[hr,hc]; exact jF 4)]; simp
 rw[this]
theorem KE {h:Hp}{row:List AV}(hb:h[b]?=some (zZ 4 [row]))(hr:row.length=4):BU jA h 79 (.ptr b 0 0)=some (.agg row):=by
 rw[EH O5 JL hb rfl (by rw[hr]; exact jF 4),zI,<-hr,List.take_length]
theorem XO (n:Int)(h:Hp):PCall (En G) 247 [.n n] h (.agg (AU (cE n))):=by
 refine PCall.res ?_ (nO n);refine XJ 3 (fun n H=>rfl) ?_;refine acL Tryz.func247 [.cell 2 79] ?_;have g2:=A7 h (zZ 4 [[.n 0,.n 0,.str ⟨#[]⟩,.sl .nil 0 []]]);have hx:=Sm.ext.r1 h (zZ 4 [[.n 0,.n 0,.str ⟨#[]⟩,.sl .nil 0 []]]);refine BC O3 ?_
 generalize h++[zZ 4 [[.n 0,.n 0,.str ⟨#[]⟩,.sl .nil 0 []]]]=H at g2 hx|-
 refine BB @ADE (TW (cs:=WV 1 n) g2 rfl rfl rfl) ?_;rw[JO (b:=h.length) AQ (KE (CP g2) rfl)];exact⟨rfl,hx.set (jF _) _⟩
theorem ACW:∀(w:Nat) (e:Ex) (h:Hp),wt e<=w->wt e<=1048576->PCall (En G) 246 [.agg (AU e)] h (.agg (AU (cpE e))):=by
 intro w
 induction w with
 | zero=>intro e h h1 _; have:=LX e; omega
 | succ w ih =>
   intro e h h1 h2;have hlen:=TR e.args;have hwt:=LX e;refine PCall.res (r:=.agg (cpW e)) ?_ (ARO e);refine ACalls.pure (R:=fun v H=>ext h H∧FN h.length H 4 v=.agg (cpW e)) 4 ?_ (fun v H ⟨a,b⟩=>⟨a,b⟩);refine acL Tryz.func246 [.cell 2 79] ?_;have ge:=AL (x:=zZ 4 [[.n 0,.n 0,.str ⟨#[]⟩,.sl .nil 0 []]]) (A7 h (zZ 4 [AU e]));have g2:=A7 (h++[zZ 4 [AU e]]) (zZ 4 [[.n 0,.n 0,.str ⟨#[]⟩,.sl .nil 0 []]]);have hx:ext h (h++[zZ 4 [AU e]]++[zZ 4 [[.n 0,.n 0,.str ⟨#[]⟩,.sl .nil 0 []]]]):=((ext.rfl' h).app _).app _;have hb2:h.length<(h++[zZ 4 [AU e]]).length:=BA;refine BB @bxE O3 ?_
   generalize h++[zZ 4 [AU e]]++[zZ 4 [[.n 0,.n 0,.str ⟨#[]⟩,.sl .nil 0 []]]]=H0 at ge g2 hx|-
   generalize (h++[zZ 4 [AU e]]).length=b2 at g2 hb2|-
   have l2:=AC g2;refine BC (Rk.ldE' ge) ?_
   refine BI (fun n F H=>∃k u,n+k=e.args.length∧F 1=.ptr h.length 0 0∧F 2=.ptr b2 0 0∧F 3=u∧F 7=.sl e.m 4 (e.args.map AU)∧F 8=.n (e.args.length:Nat)∧F 9=.n (k:Nat)∧ext H0 H∧outG 4 AU H0 ((e.args.take k).map cpE) u H) e.args.length
    ⟨0,.sl .nil 0 [],BA,AQ,AQ,AQ,AQ,AQ,AQ,ext.rfl' _,outG.nil _ _ _ _⟩ ?_
   rintro n F H ⟨k,u,hk,f1,f2,f3,f7,f8,f9,he,ho⟩;refine BB f8 f9 ?_;refine D8 ?_ ?_<;>intro hk'
   .have hlt:=Rk.wt_arg hk'
    have he1:=he.app [zZ 4 [AU e.args[k]]];have ho1:=ho.app [zZ 4 [AU e.args[k]]];have gT:=ldE H e.args[k];simp -implicitDefEqProofs only[vQ,CV,↓reduceIte,jB,enP,RN,jO,f7,f9,CQ hk',DR O5 JL EP hk',O3,iB _ _ [.n 0,.n 0,.str ⟨#[]⟩,.sl .nil 0 []] rfl,gT]
    generalize H++[zZ 4 [AU e.args[k]]]=H1 at he1 ho1|-
    refine(ih e.args[k] H1 U U).use ?_
    have hbs:C9 jA false H1 23 1 [(0,.agg (AU (cpE e.args[k])))]=some (.sl .full 4 [AU (cpE e.args[k])],H1):=by
     rw[EW]; exact(A8:C9 jA false H1 23 1 [(0,.agg [.n (cpE e.args[k]).op,.n (cpE e.args[k]).n,.str (cpE e.args[k]).name,.sl (cpE e.args[k]).m 4 ((cpE e.args[k]).args.map AU)])]=_)
    obtain⟨v',H2,ha,ho2,_,he2,_,_⟩:=ho1.append SV JL ZG YG U NU he1 (cpE e.args[k]);have e3:(e.args.take k).map cpE++[cpE e.args[k]]=(e.args.take (k+1)).map cpE:=by rw[jY hk',List.map_append]; rfl
    rw[e3] at ho2;refine I7 f3 hbs ha f9 (DF k) ?_;exact⟨n-1,U,k+1,v',U,AZ,AZ,AZ,AZ,AZ,AZ,he2,ho2⟩
   .rw[jI U] at ho
    have ge1:=ED he ge;have g21:=ED he g2;have hle:=he.le;have hlf:=ho.leaf;have h0l:h.length<H0.length:=U
    have hst:DW jA H 23 (.ptr h.length 0 3) u=some (H.set h.length (zZ 4 [[.n e.op,.n e.n,.str e.name,u]])):=by
     rw[EW] at ge1;rcases ho with⟨_,rfl⟩|⟨_,o,_,rfl,_⟩
     .rw[I9 (cs:=[.sl .nil 0 []]) rfl (A8:szO jA 23=some 1) ge1 BA]; rfl
     .rw[I9 (cs:=[.own o 0 _]) rfl (A8:szO jA 23=some 1) ge1 BA]; rfl
    have g1':(H.set h.length (zZ 4 [[.n e.op,.n e.n,.str e.name,u]]))[h.length]?=some (zZ 4 [[.n e.op,.n e.n,.str e.name,u]]):=CP ge1;have g2':(H.set h.length (zZ 4 [[.n e.op,.n e.n,.str e.name,u]]))[b2]?=_:=CZ g21 U;have ho3:outG 4 AU H0 (e.args.map cpE) u (H.set h.length (zZ 4 [[.n e.op,.n e.n,.str e.name,u]])):=ho.setB h0l _;have hx3:ext h (H.set h.length (zZ 4 [[.n e.op,.n e.n,.str e.name,u]])):=(hx.trans he).set (jF _) _;refine E8 f1 f2 f3 hst ?_
    generalize H.set h.length (zZ 4 [[.n e.op,.n e.n,.str e.name,u]])=H3 at g1' g2' ho3 hx3|-
    have hlf4:([.n e.op,.n e.n,.str e.name,u]:List AV).all AV.leaf=true:=by simp [hlf]; exact⟨rfl,rfl,rfl⟩
    refine E8 f1 f2 (KE g1' rfl) (TW g2' rfl rfl hlf4) ?_;rw[JO (b:=b2) (EM f2) (KE (CP g2') rfl)];refine⟨hx3.set U _,?_⟩;have ho4:=ho3.setB (b:=b2) l2 (zZ 4 [[.n e.op,.n e.n,.str e.name,u]]);have hz:=KP frzEx ho4 h.length 1 (by have:=hx.le; omega);show AV.agg [.n e.op,.n e.n,.str e.name,FN h.length _ 3 u]=.agg (cpW e);rw[hz]; rfl
abbrev It:=Sum Ex Int
def AH5:It->List AV
 | .inl e=>AU e
 | .inr n=>WV 1 n
def AU2:It->Ex
 | .inl e=>e
 | .inr n=>cE n
theorem AP2:∀x:It,CvRow (AH5 x) (AU (AU2 x))
 | .inl e=>by
   show CvRow (AU e) (AU e);rw[EW];exact CvRow.cons rfl (Cv.refl _) (CvRow.cons rfl (Cv.refl _) (CvRow.cons rfl (Cv.refl _) (CvRow.cons rfl (Cv.refl _) CvRow.nil)))
 | .inr n=>AJE n
theorem A3P:Frz AH5:=fun n h d x=>by
 cases x with
 | inl e=>exact frzEx n h d e
 | inr k=>exact⟨rfl,rfl⟩
def ABM (l:List Rng):List It:=l.flatMap fun r=>[.inr r.lo,.inr r.hi]
def Z4 (e:Ex)(l:List Rng):List It:=.inl e::ABM l
def IE (e:Ex)(l:List Rng):Ex:=.mk 23 0 ⟨#[]⟩ .any ((Z4 e l).map AU2)
def insW (e:Ex)(l:List Rng):List AV:=[.n 23,.n 0,.str ⟨#[]⟩,.sl .any 4 ((Z4 e l).map AH5)]
theorem AU3 (e:Ex)(l:List Rng):CvR (.agg (insW e l)) (.agg (AU (IE e l))):=by
 rw[EW];show CvR _ (.agg [.n 23,.n 0,.str ⟨#[]⟩,.sl .any 4 (((Z4 e l).map AU2).map AU)]);rw[List.map_map];exact CvR.agg (CvRL.cons (CvR.refl _) (CvRL.cons (CvR.refl _) (CvRL.cons (CvR.refl _) (CvRL.cons (CvR.sl (Cv.map fun x _=>AP2 x)) CvRL.nil))))
theorem ALH {l:List Rng}(hk:k<l.length):ABM (l.take (k+1))=ABM (l.take k)++[.inr l[k].lo,.inr l[k].hi]:=by
 unfold ABM;rw[jY hk,List.flatMap_append];rfl
theorem sC (a:Rng)(l:List Rng):ABM (a::l)=.inr a.lo :: .inr a.hi::ABM l:=rfl
theorem ABL:∀l:List Rng,(ABM l).length=2*l.length
 | []=>rfl
 | a::l=>by
   rw[sC,zO,zO,ABL l,zO]; omega
theorem AWM (h:Hp)(a b:Int)(s:ByteArray)(m:SM)(xs:List (List AV)):C9 jA true h 23 1 [(0,.agg [.n a,.n b,.str s,.sl m 4 xs])]=some (.own h.length 0 1,h++[zZ 4 [[.n a,.n b,.str s,.sl m 4 xs]]]):=A8
theorem AYN (h:Hp)(e:Ex):C9 jA true h 23 1 [(0,.agg (AU e))]=some (.own h.length 0 1,h++[zZ 4 [AU e]]):=by
 rw[EW]; exact AWM h _ _ _ _ _
theorem AWN (h:Hp)(a b:Int):C9 jA false h 23 2 [(0,.agg (WV 1 a)),(1,.agg (WV 1 b))]=some (.sl .full 4 [WV 1 a,WV 1 b],h):=A8
theorem ASC (o n:Nat):G7 jA 79 [(0,.n 23),(3,.own o 0 n)]=some (.agg [.n 23,.n 0,.str ⟨#[]⟩,.own o 0 n]):=A8
structure Iw (h0 h H:Hp) (e:Ex) (l:List Rng) (b4 cb:Nat) (v:AV):Prop where
 ge:H[h0.length]?=some (zZ 4 [AU e])
 g4:H[b4]?=some (zZ 4 [[.n 0,.n 0,.str ⟨#[]⟩,.sl .nil 0 []]])
 gc:H[cb]?=some (zZ 4 [[.n 23,.n 0,.str ⟨#[]⟩,v]])
 ho:outG 4 AH5 h (Z4 e l) v H
 hx:ext h H
 ne:∀b,isB v b->b≠cb
theorem A6T {cb:Nat}{v:AV}(gc:H[cb]?=some (zZ 4 [[.n 23,.n 0,.str ⟨#[]⟩,v]])):BU jA H 23 (.ptr cb 0 3)=some v:=by
 rw[BL MO gc (row:=[.n 23,.n 0,.str ⟨#[]⟩,v]) rfl]; rfl
theorem gQ (e:Ex)(l:List Rng)(s:SM)(hl:l.length<=1048576)(h:Hp):PCall (En G) 309 [.agg (AU e),.sl s 2 (l.map encR)] h (.agg (AU (IE e l))):=by
 refine PCall.res (r:=.agg (insW e l)) ?_ (AU3 e l);refine ACalls.pure (R:=fun v H=>ext h H∧FN h.length H 4 v=.agg (insW e l)) 4 ?_ (fun v H ⟨a,b⟩=>⟨a,b⟩);refine H6 (H:=hint [8,31] []) (enM G) Tryz.func309 rfl (by kernel_rfl) (by kernel_rfl) (jC (by kernel_rfl)) ?_;show awp _ _ _ _ _ (LU _ [.cell 4 79] _);have ge:=AL (x:=zZ 4 [[.n 0,.n 0,.str ⟨#[]⟩,.sl .nil 0 []]]) (A7 h (zZ 4 [AU e]));have g4:=A7 (h++[zZ 4 [AU e]]) (zZ 4 [[.n 0,.n 0,.str ⟨#[]⟩,.sl .nil 0 []]]);have hx:ext h (h++[zZ 4 [AU e]]++[zZ 4 [[.n 0,.n 0,.str ⟨#[]⟩,.sl .nil 0 []]]]):=((ext.rfl' h).app _).app _;have hb4:h.length<(h++[zZ 4 [AU e]]).length:=BA;refine BB @bxE O3 ?_
 generalize h++[zZ 4 [AU e]]++[zZ 4 [[.n 0,.n 0,.str ⟨#[]⟩,.sl .nil 0 []]]]=H0 at ge g4 hx|-
 generalize (h++[zZ 4 [AU e]]).length=b4 at g4 hb4|-
 have l4:=AC g4;have hle:=hx.le;have le0:BU jA H0 79 (.ptr h.length 0 0)=some (.agg (AU e)):=KE ge (EP e);have gc0:(H0++[zZ 4 [AU e]]++[zZ 4 [[.n 0,.n 0,.str ⟨#[]⟩,.sl .nil 0 []]]])[(H0++[zZ 4 [AU e]]).length]?=some (zZ 4 [[.n 0,.n 0,.str ⟨#[]⟩,.sl .nil 0 []]]):=A7 _ _;have sc0:=TW (cs:=[.n 23,.n 0,.str ⟨#[]⟩,.own H0.length 0 1]) gc0 rfl rfl rfl
 have I0:Iw h H0 ((H0++[zZ 4 [AU e]]++[zZ 4 [[.n 0,.n 0,.str ⟨#[]⟩,.sl .nil 0 []]]]).set (H0++[zZ 4 [AU e]]).length (zZ 4 [[.n 23,.n 0,.str ⟨#[]⟩,.own H0.length 0 1]])) e (l.take 0) b4 (H0++[zZ 4 [AU e]]).length (.own H0.length 0 1) :=
  ⟨CZ (AL (AL ge)) NU,CZ (AL (AL g4)) NU,CP gc0,
   .inr ⟨by rw[qB]; exact List.cons_ne_nil _ _,H0.length,jF _,rfl,CZ (AL (A7 _ _)) BA⟩,
   (((ext.rfl' H0).app _).app _).set BA _,fun b hb=>by cases hb; simp⟩
 refine I7 le0 @AYN @ASC O3 sc0 ?_
 generalize ((H0++[zZ 4 [AU e]]++[zZ 4 [[.n 0,.n 0,.str ⟨#[]⟩,.sl .nil 0 []]]]).set (H0++[zZ 4 [AU e]]).length (zZ 4 [[.n 23,.n 0,.str ⟨#[]⟩,.own H0.length 0 1]]))=H1 at I0|-
 have hcb:H0.length<(H0++[zZ 4 [AU e]]).length:=BA
 generalize (H0++[zZ 4 [AU e]]).length=cb at I0 hcb|-
 generalize AV.own H0.length 0 1=v0 at I0
 refine BI (fun n F H=>∃k v,n+k=l.length∧F 1=.sl s 2 (l.map encR)∧F 4=.ptr b4 0 0∧F 5=.ptr cb 0 0∧F 6=.n (k:Nat)∧Iw h H0 H e (l.take k) b4 cb v) l.length
  ⟨0,v0,BA,AQ,AQ,AQ,AQ,I0⟩ ?_
 clear I0;rintro n F H ⟨k,v,hk,f1,f4,f5,f6,I⟩;refine BB f1 f6 ?_;refine D8 ?_ ?_<;>intro hk'
 .have hlen:(Z4 e (l.take k)).length+2<=8388608:=by
   unfold Z4;rw[zO,ABL,List.length_take]; omega
  obtain⟨v',H2,ha,ho2,hkeep,he2,hl2,hv2⟩:=QE .full I.ho SV JL ZG YG U (ys:=[.inr l[k].lo,.inr l[k].hi]) hlen I.hx;have ha':EG jA true H 23 23 v (.sl .full 4 [WV 1 l[k].lo,WV 1 l[k].hi])=some (v',H2):=ha
  have hits:Z4 e (l.take k)++[.inr l[k].lo,.inr l[k].hi]=Z4 e (l.take (k+1)):=by
   unfold Z4;rw[ALH hk']; rfl
  rw[hits] at ho2;have lcb:=AC I.gc;have gc2:=hkeep _ _ I.gc (fun q=>I.ne _ q rfl);have nlo:∀b,isB v b->H0.length<=b:=fun b hb=>(I.ho.lt hb).1
  have ge2:=hkeep _ _ I.ge (fun q=>by have:=nlo _ q; omega);have g42:=hkeep _ _ I.g4 (fun q=>by have:=nlo _ q; omega);have hlf:=ho2.leaf
  have hst:DW jA H2 23 (.ptr cb 0 3) v'=some (H2.set cb (zZ 4 [[.n 23,.n 0,.str ⟨#[]⟩,v']])):=by
   rcases ho2 with⟨e1,_⟩|⟨_,o,_,rfl,_⟩
   .exact absurd e1 (List.cons_ne_nil _ _)
   .rw[I9 (cs:=[.own o 0 _]) rfl (A8:szO jA 23=some 1) gc2 BA]; rfl
  have hv2':∀b,isB v' b->b≠cb:=fun b hb=>by
   rcases hv2 b hb with q|q
   .exact I.ne b q
   .omega
  have I2:Iw h H0 (H2.set cb (zZ 4 [[.n 23,.n 0,.str ⟨#[]⟩,v']])) e (l.take (k+1)) b4 cb v' :=
   ⟨CZ ge2 U,CZ g42 U,CP gc2,ho2.keep (fun b hb=>by rw[List.getElem?_set_ne (fun q=>hv2' b hb q.symm)]),he2.set U _,hv2'⟩
  refine AO ?_;refine DV A8 ?_;simp -implicitDefEqProofs only[vQ,List.contains_cons,List.contains_nil,Nat.reduceBEq,Bool.or_false,Bool.or_true,MN,VO,JD,NG,IY,CV,LD,I8,↓reduceIte,jB,Nat.reduceAdd,enP,X8,TQ,OU,OT,jO,f1,f5,f6,A6T I.gc,CQ hk',CG ag3 hk',TC,Q3,ADE,AWN,ha',hst,DF k];exact⟨n-1,U,k+1,v',U,AZ,AZ,AZ,AZ,I2⟩
 .rw[jI U] at I
  have hlf:=I.ho.leaf;have hlf4:([.n 23,.n 0,.str ⟨#[]⟩,v]:List AV).all AV.leaf=true:=by simp [hlf]; exact⟨rfl,rfl,rfl⟩
  refine E8 f4 f5 (KE I.gc rfl) (TW I.g4 rfl rfl hlf4) ?_;rw[JO (b:=b4) (EM f4) (KE (CP I.g4) rfl)];refine⟨(hx.trans I.hx).set U _,?_⟩;have ho4:=I.ho.setB (b:=b4) l4 (zZ 4 [[.n 23,.n 0,.str ⟨#[]⟩,v]]);have hz:=KP A3P ho4 h.length 1 U;show AV.agg [.n 23,.n 0,.str ⟨#[]⟩,FN h.length _ 3 v]=.agg (insW e l);rw[hz]; rfl
end Go.Proofs.YtiihpnicbekebaaGreatDoor.Ho
namespace Go.Proofs.YtiihpnicbekebaaGreatDoor.Bins
open Sm
variable {ys:List Rng} {h:Hp} (G:Nat->AV )
def full (r:Rng):Bool:=decide (r.lo<=r.hi)
def glue (t r:Rng):Bool:=decide (r.lo<=t.hi)||decide (IntKind.i64.wrap (r.lo-1)=t.hi)
def join (out:List Rng)(r:Rng):List Rng:=match out.getLast? with
 | some t=>if glue t r then out.dropLast++[⟨t.lo,max t.hi r.hi⟩] else out++[r]
 | none=>out++[r]
def Y6 (xs:List Rng):List Rng:=xs.foldl join []
def fK (a b:Rng):Bool:=decide (a.lo<=b.lo)
def normal (xs:List Rng):List Rng:=Y6 ((xs.filter full).mergeSort fK)
theorem ALG {out:List Rng}{a b:Rng}(h:a.lo=b.lo)(ha:full a=true)(hb:full b=true):join (join out a) b=join (join out b) a:=by
 simp only[full,decide_eq_true_eq] at ha hb
 have key:∀(init:List Rng) (t r s:Rng),glue t s=true->(join (init++[t]) s)=init++[⟨t.lo,max t.hi s.hi⟩]:=by
  intro init t r s hg;simp [join,hg]
 cases hl:out.getLast? with
 | none =>
   have:out=[]:=BN hl;subst this;have e1:join [] a=[]++[a]:=rfl;have e2:join [] b=[]++[b]:=rfl;rw[e1,e2,key [] a a b (by simp [glue]; omega),key [] b b a (by simp [glue]; omega)];simp [h,Int.max_comm]
 | some t =>
   obtain⟨init,rfl⟩:∃init,out=init++[t]:=by
    have:=List.getLast?_eq_some_iff.1 hl;exact this
   have hg:glue t a=glue t b:=by unfold glue; rw[h]
   cases hc:glue t a with
   | true =>
     have hc':glue t b=true:=by rw[<-hg]; exact hc
     rw[key init t a a hc,key init t b b hc',key init _ a b (by simp [glue]; omega),key init _ b a (by simp [glue]; omega)];simp only[Int.max_assoc,Int.max_comm a.hi b.hi]
   | false =>
     have hc':glue t b=false:=by rw[<-hg]; exact hc
     have e1:join (init++[t]) a=(init++[t])++[a]:=by simp [join,hc]
     have e2:join (init++[t]) b=(init++[t])++[b]:=by simp [join,hc']
     rw[e1,e2,key (init++[t]) a a b (by simp [glue]; omega),key (init++[t]) b b a (by simp [glue]; omega)];simp [h,Int.max_comm]
theorem A2O {a:Rng}(ha:full a=true):∀(pre:List Rng) (rest out:List Rng),(∀x∈pre,x.lo=a.lo∧full x=true)->(pre++a::rest).foldl join out=(a::(pre++rest)).foldl join out
 | [],rest,out,_=>rfl
 | p::pre,rest,out,h=>by
   have hp:=h p BA;have ih:=A2O ha pre rest (join out p) (fun x hx=>h x (by simp [hx]))
   simp only[zB,qP] at ih|-
   rw[ih,ALG hp.1 hp.2 ha]
theorem rZ:∀(xs ys:List Rng) (out:List Rng),xs.Perm ys->xs.Pairwise (fun a b=>a.lo<=b.lo)->ys.Pairwise (fun a b=>a.lo<=b.lo)->(∀x∈xs,full x=true)->xs.foldl join out=ys.foldl join out
 | [],ys,out,hp,_,_,_=>by rw[List.nil_perm.1 hp]
 | a::xs,ys,out,hp,hx,hy,hf=>by
   have hmem:a∈ys:=hp.subset BA;obtain⟨pre,rest,rfl⟩:=List.append_of_mem hmem
   have hpre:∀x∈pre,x.lo=a.lo∧full x=true:=by
    intro x hxp;have h1:x.lo<=a.lo:=(List.pairwise_append.1 hy).2.2 x hxp a BA;have h2:x∈a::xs:=hp.symm.subset (by simp [hxp])
    have h3:a.lo<=x.lo:=by
     rcases List.mem_cons.1 h2 with rfl|h2
     .exact Int.le_refl _
     .exact(List.pairwise_cons.1 hx).1 x h2
    exact⟨U,hf x h2⟩
   rw[A2O (hf a BA) pre rest out hpre];simp only[qP];have hp':xs.Perm (pre++rest):=(List.perm_cons a).1 (hp.trans (List.perm_middle));refine rZ xs (pre++rest) _ hp' (List.pairwise_cons.1 hx).2 ?_ (fun x h=>hf x (by simp [h]));have:=List.pairwise_append.1 hy;rw[List.pairwise_append];exact⟨this.1,(List.pairwise_cons.1 this.2.1).2,fun x h1 y h2=>this.2.2 x h1 y (by simp [h2])⟩
theorem rM {xs:List Rng}(hp:ys.Perm (xs.filter full))(hs:ys.Pairwise (fun a b=>a.lo<=b.lo)):Y6 ys=normal xs:=by
 unfold normal Y6;refine rZ _ _ _ (hp.trans (List.mergeSort_perm _ _).symm) hs ?_ (fun x hx=>by have:=hp.subset hx; simp at this; exact this.2);have:=List.pairwise_mergeSort (le:=fK) (fun a b c h1 h2=>by simp [fK] at *; omega) (fun a b=>by simp [fK]; omega) (xs.filter full);exact this.imp (by simp [fK])
theorem row_map {α:Type}{f:α->List AV}{xs:List α}{k:Nat}(h:k<xs.length):(xs.map f)[k]?=some (f xs[k]):=by simp [h]
theorem gH {row cs:List AV}(h:row.length=cs.length):splice row 0 cs=cs:=by simp [splice,h]
theorem pG (G:Nat->AV)(xs:List Rng)(b:Nat)(fid:FuncId)(caps:List AV)(p:Rng->Bool)(h:Hp)(hl:xs.length<=1099511627776)(hb:h[b]?=some (zZ 2 (xs.map encR)))
  (hf:∀r,PCall (En G) fid (.agg (encR r)::caps) h (.bool (p r))) :
  PCall (En G) 326 [.own b 0 xs.length,.fn (.func fid) [] caps] h (.n (match xs.findIdx? p with|some i=>(i:Int)|none => -1)):=by
 refine acT Tryz.func326 4 ?_;refine AO ?_;refine BI (fun n F H=>∃k,n+k=xs.length∧F 0=.own b 0 xs.length∧F 1=.fn (.func fid) [] caps∧F 7=.n xs.length∧F 8=.n (k:Nat)∧H=h∧(xs.take k).all (fun r => !p r)=true) xs.length ⟨0,BA,rfl,rfl,rfl,rfl,rfl,rfl⟩ ?_;rintro n F H ⟨k,hk,f0,f1,f7,f8,rfl,hin⟩;refine E8 f0 f1 f7 f8 ?_;refine D8 ?_ ?_<;>intro hc'
 .have e1:BU jA H 145 (.ptr b k 0)=some (.agg (encR xs[k])):=by
   rw[EH YL J4 hb (row_map hc') (by simp [encR])]; rfl
  simp -implicitDefEqProofs only[vQ,CV,List.nil_append,zB,↓reduceIte,jB,enP,TQ,f0,f1,f7,f8,H8 hb hc',e1];refine(hf _).uu ?_;refine CE ?_ ?_<;>intro hb
  .refine AO ?_
   refine⟨?_,trivial⟩
   rw[wP.2 ⟨hc',hb,fun j hj=>by
    rw[zH] at hin;have:=hin xs[j] (by rw[List.mem_take_iff_getElem]; exact⟨j,U,rfl⟩)
    simpa using this⟩]
  .refine BB f8 (DF k) ?_
   refine⟨n-1,U,k+1,U,f0,f1,f7,rfl,trivial,?_⟩;rw[jY hc',List.all_append,hin];simp only[List.all_cons,List.all_nil,hb]; rfl
 .refine AO ?_
  refine⟨?_,trivial⟩;rw[jI U] at hin;rw[wR.2 (BN hin)]
theorem ACI (r:Rng)(h:Hp):PCall (En G) 295 [.agg (encR r)] h (.bool (!full r)):=by
 refine ACalls.pure0 rfl ?_;refine acT Tryz.func295 2 ?_;refine KF @bxR @TC @Q3 ?_;refine⟨?_,_,rfl⟩;congr 1;unfold full;rw[Bool.eq_iff_iff]; simp
theorem AF0 (G:Nat->AV)(xs:List Rng)(b:Nat)(fid:FuncId)(p:Rng->Bool)(h0 h:Hp)(hl:xs.length<=1099511627776)(he:ext h0 h)(hb0:h0.length<=b)(hb:h[b]?=some (zZ 2 (xs.map encR)))
  (hf:∀r H,PCall (En G) fid [.agg (encR r)] H (.bool (p r))) :
  ACalls (En G) 293 [.own b 0 xs.length,.fn (.func fid) [] []] h fun v H=>v=.own b 0 (xs.filter fun r => !p r).length∧ext h0 H∧∃tail,H[b]?=some (zZ 2 ((xs.filter fun r => !p r).map encR++tail)):=by
 refine acT Tryz.func293 4 ?_;refine AO ?_;refine(pG G xs b fid [] p h hl hb (fun r=>hf r h)).uu ?_
 cases hi:xs.findIdx? p with
 | none =>
   refine AO ?_;refine CE ?_ ?_<;>intro hc
   .refine AO ?_
    have:xs.filter (fun r => !p r)=xs:=by
     rw[wR] at hi;rw[List.filter_eq_self]; intro x hx; simp [hi x hx]
    rw[this];exact⟨rfl,he,[],BN hb⟩
   .simp at hc
 | some i0 =>
   refine AO ?_;obtain⟨hi1,hi2,hi3⟩:=wP.1 hi;refine CE ?_ ?_<;>intro hc
   .simp at hc
   refine BC (DF i0) ?_;refine BI (fun n F H=>∃i j zs,n+j=xs.length∧i<j∧F 0=.own b 0 xs.length∧F 1=.fn (.func fid) [] []∧F 5=.n (i:Nat)∧F 6=.n (j:Nat)∧ext h0 H∧H[b]?=some (zZ 2 (zs.map encR))∧zs.length=xs.length∧zs.take i=(xs.take j).filter (fun r => !p r)∧zs.drop j=xs.drop j) (xs.length-(i0+1)) ⟨i0,i0+1,xs,U,U,AQ,AQ,AQ,AQ,he,hb,rfl,?_,rfl⟩ ?_
   .rw[jY hi1,List.filter_append]
    simp [hi2];refine(List.filter_eq_self.2 ?_).symm;intro x hx;rw[List.mem_take_iff_getElem] at hx;obtain⟨j,hj,rfl⟩:=hx;have:=hi3 j U;simpa using this
   rintro n F H ⟨i,j,zs,hn,hij,f0,f1,f5,f6,hex,hz,hzl,hzt,hzd⟩;refine BB f0 f6 ?_;refine D8 ?_ ?_<;>intro hd'
   .have hdz:j<zs.length:=U
    have e0:zs[j]=xs[j]:=by
     have h1:(zs.drop j)[0]?=(xs.drop j)[0]? := by rw[hzd]
     rw[List.getElem?_drop,List.getElem?_drop,jT,jM hdz,jM hd'] at h1;exact Option.some.inj h1
    have e1:BU jA H 145 (.ptr b j 0)=some (.agg (encR xs[j])):=by
     rw[EH YL J4 hz (row_map hdz) (by simp [encR]),e0]; rfl
    have ld:BU jA (H++[zZ 2 [encR xs[j]]]) 145 (.ptr (qK H) 0 0)=some (.agg (encR xs[j])):=Y4 YL J4 (by simp [encR]);simp -implicitDefEqProofs only[vQ,CV,lAn,↓reduceIte,jB,enP,TQ,jO,f0,f1,f6,H8 hz hd',e1,AGJ,AEA _ _ [.n 0,.n 0] rfl,ld];refine(hf _ _).uu ?_
    have htk:(xs.take (j+1)).filter (fun r => !p r)=(xs.take j).filter (fun r => !p r)++(if p xs[j] then [] else [xs[j]]):=by
     rw[jY hd',List.filter_append];cases hp:p xs[j]<;>simp [hp]
    have hz2:(H++[zZ 2 [encR xs[j]]])[b]?=some (zZ 2 (zs.map encR)):=AL hz
    have hdrop:zs.drop (j+1)=xs.drop (j+1):=by
     have:=congrArg (List.drop 1) hzd;simpa [Nat.add_comm] using this
    refine CE ?_ ?_<;>intro hp
    .have hp':p xs[j]=false:=BN hp
     have hiz:i<zs.length:=U;have hix:i<xs.length:=U
     have st:DW jA (H++[zZ 2 [encR xs[j]]]) 145 (.ptr b i 0) (.agg (encR xs[j]))=some ((H++[zZ 2 [encR xs[j]]]).set b (zZ 2 ((zs.set i xs[j]).map encR))):=by
      rw[IC (cs:=encR xs[j]) rfl J4 hz2 (row_map hiz) (by simp [encR]),gH (by simp [encR]),List.map_set]
     simp -implicitDefEqProofs only[vQ,CV,↓reduceIte,jB,enP,TQ,jO,f0,f5,ld,H8 hz2 hix,st,DF i,f6,DF j];refine⟨n-1,U,i+1,j+1,zs.set i xs[j],U,U,trivial,f1,rfl,rfl,(hex.app _).set hb0 _,CP hz2,BN hzl,?_,?_⟩
     .rw[htk,hp',<-hzt,jY (BN hiz),List.take_set,List.set_eq_of_length_le NU]
      simp
     .rw[List.drop_set_of_lt U]; exact hdrop
    .have hp':p xs[j]=true:=BN hp
     refine BB f6 (DF j) ?_;refine⟨n-1,U,i,j+1,zs,U,U,f0,f1,f5,rfl,hex.app _,hz2,hzl,?_,hdrop⟩;rw[htk,hp',hzt]; simp
   .have hjl:j=xs.length:=U
    have hfl:(xs.filter fun r => !p r)=zs.take i:=by
     rw[hzt,jI U]
    have hil:i<=zs.length:=U;have hlen:(xs.filter fun r => !p r).length=i:=by rw[hfl]; simp; omega
    have hs1:IX jA H 84 (.own b 0 xs.length) (some (.n (i:Int))) none none=some (.own b i (xs.length-i)):=by
     have:=AAT UH J4 (kk:=.i64) (off:=0) (len:=xs.length) (l:=i) hz U;rw[jG] at this; exact this
    have hcl:fW jA H 84 (.own b i (xs.length-i))=some (G9,H.set b (zZ 2 (Sm.rowsSet (zs.map encR) i (zD (xs.length-i) [.n 0,.n 0])))):=by
     have hz0:NF jA 145=some [.n 0,.n 0]:=A8;simp only[fW,UH,hz0,hz];rw[if_pos];refine⟨rfl,?_⟩;simp; omega
    have hs2:IX jA (H.set b (zZ 2 (Sm.rowsSet (zs.map encR) i (zD (xs.length-i) [.n 0,.n 0])))) 84 (.own b 0 xs.length) none (some (.n (i:Int))) none=some (.own b 0 i):=AO1 UH J4 (CP hz) U;refine MV @ATG f0 f5 hs1 hcl hs2 ?_;refine⟨by rw[hlen],hex.set hb0 _,?_⟩;rw[CP hz,hfl];refine⟨zD (xs.length-i) [.n 0,.n 0]++(zs.map encR).drop (i+(xs.length-i)),?_⟩;simp [Sm.rowsSet,List.map_take]
theorem AWJ (xs:List Rng)(m:SM)(h:Hp)(hl:xs.length<=16777216):
  ACalls (En G) 294 [.sl m 2 (xs.map encR)] h (A05 2 (xs.map encR) h):=by
 refine ACalls.of_rep (cok _ _ A8) fun⟨g,cargs,ha⟩=>?_
 refine acT Tryz.func294 2 ?_;refine BC A2W ?_;refine CE ?_ ?_<;>intro hc
 .have hm:m=.nil:=BN hc
  subst hm;refine BC @decide_true ?_;exact .inl ⟨AE0 ha (i:=0) rfl,⟨_,rfl⟩,rfl⟩
 .refine BC @AR1 ?_
  rcases Classical.em (xs=[]) with hx|hx
  .subst hx
   simp -implicitDefEqProofs only[vQ,CV,↓reduceIte,ADJ UH J4 (.inr rfl)];exact .inr (.inl ⟨rfl,rfl,rfl⟩)
  .have hr:room (([]:List (List AV)).length+(xs.map encR).length) 16:=IV (BN hl) U
   have hne:xs.map encR≠[]:=BN hx;refine BC (dZ UH J4 tM xA (G5 h m 2 (xs.map encR)) hne hr) ?_;exact .inr (.inr ⟨BN hx,BA,BA⟩)
theorem mB (m:SM)(k:Nat)(fv:AV)(h:Hp):PCall (En G) 326 [.sl m k [],fv] h (.n (-1)):=by
 refine acT Tryz.func326 4 ?_;refine YP ?_;refine BI (fun n F H=>F 7=.n ((0:Nat):Int)∧F 8=.n 0∧H=h) 0 ⟨rfl,rfl,rfl⟩ ?_;rintro n F H ⟨f7,f8,rfl⟩;refine BB f7 f8 ?_;refine CE ?_ ?_<;>intro hc
 .simp at hc
 .refine AO ?_
  exact JH
theorem gV (m:SM)(k:Nat)(fv:AV)(h:Hp):PCall (En G) 293 [.sl m k [],fv] h (.sl m k []):=by
 refine acT Tryz.func293 4 ?_;refine AO ?_;refine(mB G m k fv h).uu ?_;refine CE ?_ ?_<;>intro hc
 .refine AO ?_
  exact JH
 .simp at hc
structure SortOk (G:Nat->AV):Prop where
 own:∀(xs:List Rng) (b:Nat) (tail:List (List AV)) (h0 h:Hp),xs.length<=16777216->ext h0 h->h0.length<=b->h[b]?=some (zZ 2 (xs.map encR++tail)) ->
  ACalls (En G) 296 [.own b 0 xs.length,.fn (.func 297) [] []] h fun _ H=>ext h0 H∧∃ys:List Rng,ys.Perm xs∧ys.Pairwise (fun a b=>a.lo<=b.lo)∧H[b]?=some (zZ 2 (ys.map encR++tail))
 none:∀(m:SM) (k:Nat) (h:Hp),PCall (En G) 296 [.sl m k [],.fn (.func 297) [] []] h (.tup [])
def nm (ys:List Rng):SM:=if ys=[] then .nil else .any
def AKX (h:Hp)(out:List Rng)(b:Nat)(v:AV)(H:Hp):Prop :=
 (out=[]∧v=.sl .nil 0 [])∨(out≠[]∧∃o,h.length<=o∧o≠b∧v=.own o 0 out.length∧H[o]?=some (zZ 2 (out.map encR)))
theorem xB (h:Hp)(r:Rng):C9 jA false h 84 1 [(0,.agg (encR r))]=some (.sl .full 2 [encR r],h):=A8
def srcR (h:Hp)(ys:List Rng)(b:Nat)(v:AV)(H:Hp):Prop :=
 (ys=[]∧∃m k,v=.sl m k [])∨(h.length<=b∧v=.own b 0 ys.length∧∃tail,H[b]?=some (zZ 2 (ys.map encR++tail)))
theorem APV (out:List Rng)(r:Rng):(join out r).length<=out.length+1:=by
 unfold join;split
 .split
  .simp
  .simp
 .simp
theorem Y5:∀(xs out:List Rng),(xs.foldl join out).length<=out.length+xs.length
 | [],out=>BA
 | x::xs,out=>by
   have h1:=Y5 xs (join out x);have h2:=APV out x;simp only[qP,List.length_cons];omega
theorem srcR.app {b:Nat}{v:AV}{H:Hp}(hs:srcR h ys b v H)(x:ABlk):srcR h ys b v (H++[x]):=by
 rcases hs with h1|⟨h1,h2,tail,h3⟩
 .exact .inl h1
 .exact .inr ⟨h1,h2,tail,AL h3⟩
theorem srcR.set {h:Hp}{ys:List Rng}{b o:Nat}{v:AV}{H:Hp}(hs:srcR h ys b v H)(x:ABlk)(ho:o≠b):srcR h ys b v (H.set o x):=by
 rcases hs with h1|⟨h1,h2,tail,h3⟩
 .exact .inl h1
 .exact .inr ⟨h1,h2,tail,CZ h3 ho.symm⟩
theorem uO (hS:SortOk G)(xs:List Rng)(m:SM)(h:Hp)(hl:xs.length<=8388608):
  ACalls (En G) 245 [.sl m 2 (xs.map encR)] h fun v H=>ext h H∧∃b,AKX h (normal xs) b v H:=by
 refine acT Tryz.func245 2 ?_;refine AO ?_;refine(AWJ G xs m h U).mono fun vv H' hcl=>?_
 have hfl:(xs.filter full).length<=xs.length:=List.length_filter_le _ _;refine AJZ (fun F H=>ext h H∧((xs.filter full=[]∧∃m k,F 3=.sl m k [])∨∃b,h.length<=b∧F 3=.own b 0 (xs.filter full).length∧∃tail,H[b]?=some (zZ 2 ((xs.filter full).map encR++tail)))) ?_ ?_
 .rcases hcl with⟨hx,⟨k0,rfl⟩,rfl⟩|⟨hx,rfl,rfl⟩|⟨hx,rfl,rfl⟩
  .have hx':xs=[]:=BN hx
   refine AO ?_;refine(gV G _ _ _ _).uu ?_;exact⟨ext.rfl' _,.inl ⟨by rw[hx']; rfl,_,_,rfl⟩⟩
  .have hx':xs=[]:=BN hx
   refine AO ?_;refine(gV G _ _ _ _).uu ?_;exact⟨ext.rfl' _,.inl ⟨by rw[hx']; rfl,_,_,rfl⟩⟩
  .refine AO ?_
   refine(AF0 G xs h.length 295 (fun r => !full r) h (h++[zZ 2 (xs.map encR)]) U ⟨_,rfl⟩ (jF _) (A7 _ _) (fun r H=>ACI G r H)).mono ?_;rintro v H ⟨rfl,hex,tail,ht⟩;refine AO ?_;have e:(xs.filter fun r => !!full r)=xs.filter full:=BA
   rw[e] at ht|-
   exact⟨hex,.inr ⟨h.length,jF _,rfl,tail,ht⟩⟩
 rintro F H ⟨hex,hcase⟩;rw[BR,BZ];refine dW (fun F H=>ext h H∧∃ys:List Rng,ys.Perm (xs.filter full)∧ys.Pairwise (fun a b=>a.lo<=b.lo)∧∃b,srcR h ys b (F 3) H) (fun _ _=>False) ?_ ?_ (fun _ _ hh=>hh.elim)
 .rcases hcase with⟨hz,m0,k0,f3⟩|⟨b,hb,f3,tail,ht⟩
  .refine BC f3 ?_
   refine(hS.none m0 k0 H).uu ?_;exact⟨hex,[],by rw[hz],.nil,0,.inl ⟨rfl,m0,k0,f3⟩⟩
  .refine BC f3 ?_
   refine(hS.own (xs.filter full) b tail h H U hex hb ht).mono ?_;rintro v H' ⟨hex',ys,hp,hs,hy⟩;refine AO ?_;refine⟨hex',ys,hp,hs,b,.inr ⟨hb,?_,tail,hy⟩⟩;rw[hp.length_eq]; exact f3
 rintro F H ⟨hex,ys,hp,hs,b,hsrc⟩;have hyl:ys.length<=8388608:=by rw[hp.length_eq]; omega
 have hN:Y6 ys=normal xs:=rM hp hs;generalize hsv:F 3=sv at hsrc
 have hlen:JR jA 84 sv=some (.n ys.length):=by
  rcases hsrc with⟨rfl,m0,k0,rfl⟩|⟨_,rfl,_⟩
  .exact XR.1 _ _ _
  .exact XR.2 _ _ _
 refine BB hsv @hlen ?_;refine BI (fun n F H=>∃k,n+k=ys.length∧F 13=sv∧F 14=.n ys.length∧F 15=.n (k:Nat)∧ext h H∧srcR h ys b sv H∧AKX h ((ys.take k).foldl join []) b (F 4) H) ys.length ⟨0,BA,AQ,AQ,AQ,hex,hsrc,.inl ⟨rfl,AQ⟩⟩ ?_;clear hex hsrc hsv;rintro n F H ⟨k,hk,f13,f14,f15,hex,hsrc,hout⟩;refine BB f14 f15 ?_;refine D8 ?_ ?_<;>intro hc'
 .have htk:(ys.take (k+1)).foldl join []=join ((ys.take k).foldl join []) ys[k]:=by
   rw[jY hc',List.foldl_append]; rfl
  have hol0:((ys.take k).foldl join []).length<=8388608:=by
   have:=Y5 (ys.take k) [];simp at this; omega
  generalize (ys.take k).foldl join []=out at hout htk hol0;have hsrc':=hsrc;rcases hsrc with⟨rfl,_⟩|⟨hb,rfl,tail,ht⟩
  .simp at hc'
  have e1:BU jA H 145 (.ptr b k 0)=some (.agg (encR ys[k])):=by
   rw[EH YL J4 ht (row:=encR ys[k]) (by rw[List.getElem?_append_left (by simpa using hc')]; exact row_map hc') (by simp [encR])]; rfl
  have ht2:(H++[zZ 2 [encR ys[k]]])[b]?=some (zZ 2 (ys.map encR++tail)):=AL ht;have ld:BU jA (H++[zZ 2 [encR ys[k]]]) 145 (.ptr (qK H) 0 0)=some (.agg (encR ys[k])):=Y4 YL J4 (by simp [encR]);rcases hout with⟨rfl,f4⟩|⟨hne,o,ho1,ho2,f4,ho⟩
  .have dneg:decide ((IntKind.i64.wrap (((0:Nat):Int)-1))≥0)=false:=by rw[wrap_i64 U U]; simp
   simp -implicitDefEqProofs only[vQ,CV,OA,↓reduceIte,jB,enP,TQ,XR,jO,f13,f15,H8 ht hc',e1,AGJ,AEA _ _ [.n 0,.n 0] rfl,f4,List.length_nil];refine DV A8 ?_;have h1:([encR ys[k]]:List (List AV))≠[]:=BA;simp -implicitDefEqProofs only[vQ,I5,KJ,AD2,AXD,OC,EJ,CV,GG,I8,↓reduceIte,jB,jL,enP,dneg,ld,f4,xB,SE UH J4 tM xA (G5 (H++[zZ 2 [encR ys[k]]]) .full 2 [encR ys[k]]) h1 (IV BA U),f15,DF k];refine⟨n-1,U,k+1,U,f13,f14,rfl,(hex.app _).app _,(hsrc'.app _).app _,?_⟩;rw[htk];have hbl:=AC ht;exact .inr ⟨by simp [join],_,by simp; have:=hex.le; omega,by simp; omega,rfl,by simp [join]⟩
  .obtain⟨init,t,rfl⟩:∃init t,out=init++[t]:=⟨out.dropLast,out.getLast hne,(List.dropLast_concat_getLast hne).symm⟩
   have hol:=AC ho;have hbl:=AC ht
   have hlast:(IntKind.i64.wrap (((init++[t]).length:Int)-1))=((init.length:Nat):Int):=by
    rw[wrap_i64 U U]; simp
   have dpos:decide (((init.length:Nat):Int)≥0)=true:=BA;have ho3:(H++[zZ 2 [encR ys[k]]])[o]?=some (zZ 2 ((init++[t]).map encR)):=AL ho;have hil:init.length<(init++[t]).length:=BA;have erow:((init++[t]).map encR)[init.length]?=some (encR t):=BA;have lhi:BU jA (H++[zZ 2 [encR ys[k]]]) 3 (.ptr o init.length 1)=some (.n t.hi):=by rw[BL ag3 ho3 erow]; rfl
   simp -implicitDefEqProofs only[vQ,CV,OA,↓reduceIte,jB,enP,TQ,XR,jO,f13,f15,H8 ht hc',e1,AGJ,AEA _ _ [.n 0,.n 0] rfl,f4,hlast];refine DV A8 ?_;simp -implicitDefEqProofs only[vQ,I5,KJ,eD,EJ,ZC,↓reduceIte,jB,jL,enP,TQ,OU,OT,dpos,EE ag3,TC,Q3,f4,H8 ho3 hil,lhi];refine AS4 (fun F H'=>F 44=.bool (glue t ys[k])∧F 13=.own b 0 ys.length∧F 14=.n ys.length∧F 15=.n (k:Nat)∧F 4=.own o 0 (init++[t]).length∧F 6=.ptr H.length 0 0∧F 7=.n (init.length:Nat)∧H'=H++[zZ 2 [encR ys[k]]]) ?_ ?_
   .refine oH ?_ ?_<;>intro ha
    .refine I7 ha f4 f13 f14 f15 ?_
     exact⟨by unfold glue; rw[ha]; rfl,trivial,trivial,trivial,trivial,trivial,trivial,trivial⟩
    .simp -implicitDefEqProofs only[vQ,I5,KJ,eD,WS,OC,EJ,OA,↓reduceIte,jB,jL,enP,TQ,OU,OT,ha,EE ag3,TC,Q3,f4,f13,f14,f15,H8 ho3 hil,lhi]
     exact⟨by unfold glue; rw[ha]; rfl,trivial,trivial,trivial,trivial,trivial,trivial,trivial⟩
   clear f13 f14 f15 f4;rintro F H' ⟨f44,f13,f14,f15,f4,f6,f7,rfl⟩;refine BC f44 ?_;refine CE ?_ ?_<;>intro hg
   .have st:∀v:Int,DW jA (H++[zZ 2 [encR ys[k]]]) 3 (.ptr o init.length 1) (.n v)=some ((H++[zZ 2 [encR ys[k]]]).set o (zZ 2 ((init++[Rng.mk t.lo v]).map encR))):=by
     intro v;have h2:=IC (P:=jA) (t:=3) (j:=1) (v:=.n v) (cs:=[.n v]) rfl sz3 ho3 erow (by simp [encR]);have h3:((init++[t]).map encR).set init.length (splice (encR t) 1 [.n v])=(init++[Rng.mk t.lo v]).map encR:=by simp [encR,splice]
     rw[h2,h3]
    refine AO ?_;refine DV A8 ?_;simp -implicitDefEqProofs only[vQ,MN,NG,IY,Q7,XB,YI,CV,xQ,lO,↓reduceIte,jB,jL,enP,TQ,OT,jO,f4,f6,f7,H8 ho3 hil,lhi,EE ag3,Q3,st,f15,DF k];refine⟨n-1,U,k+1,U,f13,f14,rfl,(hex.app _).set ho1 _,(hsrc'.app _).set _ ho2,?_⟩;rw[htk];have hj:join (init++[t]) ys[k]=init++[⟨t.lo,max t.hi ys[k].hi⟩]:=by simp [join,hg]
    rw[hj];exact .inr ⟨BA,o,ho1,ho2,BA,CP ho3⟩
   .have h1:([encR ys[k]]:List (List AV))≠[]:=BA
    have hc1:JB (H++[zZ 2 [encR ys[k]]]) (.own o 0 (init++[t]).length)=some (2,(init++[t]).map encR):=by
     rw[JS ho3 BA,zI,jI BA]
    refine P7 ld f4 f6 @xB (QT UH J4 tM xA hc1 (G5 (H++[zZ 2 [encR ys[k]]]) .full 2 [encR ys[k]]) h1 (IV (by simp at hol0|-; omega) U)) f15 (DF k) ?_;refine⟨n-1,U,k+1,U,f13,f14,rfl,((hex.app _).set ho1 _).app _,((hsrc'.app _).set _ ho2).app _,?_⟩;rw[htk];have hj:join (init++[t]) ys[k]=(init++[t])++[ys[k]]:=by simp [join,hg]
    rw[hj];exact .inr ⟨BA,(H++[zZ 2 [encR ys[k]]]).length,by simp; have:=hex.le; omega,by simp; omega,BA,BA⟩
 .have:k=ys.length:=U
  subst this;rw[List.take_length] at hout;have hN':ys.foldl join []=normal xs:=hN;rw[hN'] at hout;refine AO ?_;exact⟨hex,b,hout⟩
theorem frz_rows (n:Nat)(h:Hp)(d:Nat)(xs:List Rng):(xs.map encR).map (·.map (FN n h (d+1)))=xs.map encR:=by
 rw[List.map_map];congr 1
theorem frzF_own (n:Nat)(h:Hp)(d b off len k:Nat)(xs:List (List AV))(hn:¬b<n)(hb:h[b]?=some (zZ k xs)):FN n h (d+1) (.own b off len)=if off+len<=xs.length∧(((xs.drop off).take len).map (·.map (FN n h d))).all (·.all AV.leaf)=true then .sl .any k (((xs.drop off).take len).map (·.map (FN n h d))) else .junk:=by
 rw[FN];simp only[hn,if_false,hb]
theorem frz_own {n d:Nat}{o:Nat}{xs:List Rng}(hn:n<=o)(ho:h[o]?=some (zZ 2 (xs.map encR))):FN n h (d+2) (.own o 0 xs.length)=.sl .any 2 (xs.map encR):=by
 rw[frzF_own n h (d+1) o 0 xs.length 2 _ U ho,zI,jI BA,frz_rows n h d xs];rw[if_pos];refine⟨BA,?_⟩;rw[zH];intro row hr;obtain⟨x,_,rfl⟩:=List.mem_map.1 hr;rfl
theorem rI {G:Nat->AV}{f:FuncId}{args:List AV}(hc:ACalls (En G) f args h fun v H=>ext h H∧∃b,AKX h ys b v H):PCall (En G) f args h (.sl (nm ys) 2 (ys.map encR)):=by
 have h1:PCall (En G) f args h (if ys=[] then AV.sl .nil 0 [] else .sl .any 2 (ys.map encR)):=by
  refine ACalls.pure 2 hc ?_;rintro v H ⟨hex,b,hout⟩;refine⟨hex,?_⟩;rcases hout with⟨rfl,rfl⟩|⟨hne,o,ho1,_,rfl,ho⟩
  .rfl
  .rw[if_neg hne]; exact frz_own ho1 ho
 refine ACalls.conv h1 ?_;rintro v H ⟨rfl,rfl⟩;refine⟨_,⟨rfl,rfl⟩,?_⟩;intro g cv hr;unfold nm;split at hr
 .rename_i hz; subst hz; exact AA6 hr
 .rename_i hz; rw[if_neg hz]; exact hr
theorem AA3 (hS:SortOk G)(xs:List Rng)(m:SM)(h:Hp)(hl:xs.length<=8388608):PCall (En G) 245 [.sl m 2 (xs.map encR)] h (.sl (nm (normal xs)) 2 ((normal xs).map encR)) :=
 rI (uO G hS xs m h hl)
end Go.Proofs.YtiihpnicbekebaaGreatDoor.Bins
namespace Go.Proofs.YtiihpnicbekebaaGreatDoor.Bins
open Sm Go.Shelf Go.RowKit Go.Lib Go.Sort
variable (G:Nat->AV )
def AJ9:Go.Shelf.Ren:=⟨fun|6=>296|15=>328|14=>327|28=>367|29=>368|20=>359|21=>360|22=>361|23=>362|24=>363|25=>364|26=>365|27=>366|46=>400|47=>401|48=>402|49=>403|50=>404|57=>414|n=>n,fun|22=>84|24=>145|25=>326|3=>3|39=>344|0=>0|53=>364|55=>366|4=>4|46=>358|45=>357|50=>135|5=>5|9=>9|66=>379|70=>281|76=>388|77=>389|n=>n,fun|n=>n⟩
theorem AOE:Go.Proofs.SlLaysF0.n6 jA AJ9 := {
 mixed:=A8,
 f6:=⟨Tryz.f296.name,by decide,Tryz.func296.trans (congrArg some A8)⟩,
 f14:=⟨Tryz.f327.name,by decide,Tryz.func327.trans (congrArg some A8)⟩,
 f15:=Tryz.func328.trans (congrArg some A8),
 f20:=⟨Tryz.f359.name,by decide,Tryz.func359.trans (congrArg some A8)⟩,
 f21:=⟨Tryz.f360.name,by decide,Tryz.func360.trans (congrArg some A8)⟩,
 f22:=⟨Tryz.f361.name,by decide,Tryz.func361.trans (congrArg some A8)⟩,
 f23:=⟨Tryz.f362.name,by decide,Tryz.func362.trans (congrArg some A8)⟩,
 f24:=⟨Tryz.f363.name,by decide,Tryz.func363.trans (congrArg some A8)⟩,
 f25:=⟨Tryz.f364.name,by decide,Tryz.func364.trans (congrArg some A8)⟩,
 f26:=⟨Tryz.f365.name,by decide,Tryz.func365.trans (congrArg some A8)⟩,
 f27:=⟨Tryz.f366.name,by decide,Tryz.func366.trans (congrArg some A8)⟩,
 f28:=Tryz.func367.trans (congrArg some A8),
 f29:=Tryz.func368.trans (congrArg some A8),
 f46:=⟨Tryz.f400.name,by decide,Tryz.func400.trans (congrArg some A8)⟩,
 f47:=Tryz.func401.trans (congrArg some A8),
 f48:=Tryz.func402.trans (congrArg some A8),
 f49:=⟨Tryz.f403.name,by decide,Tryz.func403.trans (congrArg some A8)⟩,
 f50:=⟨Tryz.f404.name,by decide,Tryz.func404.trans (congrArg some A8)⟩,
 f57:=⟨Tryz.f414.name,by decide,Tryz.func414.trans (congrArg some A8)⟩,
 t0:=Tryz.underlying0,
 a0:=Tryz.isAgg0,
 z0:=Tryz.sizeOf0,
 v0:=Tryz.zeroValue0,
 t3:=Tryz.underlying3,
 a3:=Tryz.isAgg3,
 z3:=Tryz.sizeOf3,
 v3:=Tryz.zeroValue3,
 t4:=Tryz.underlying4,
 a4:=Tryz.isAgg4,
 z4:=Tryz.sizeOf4,
 v4:=Tryz.zeroValue4,
 t5:=Tryz.underlying5,
 a5:=Tryz.isAgg5,
 z5:=Tryz.sizeOf5,
 v5:=Tryz.zeroValue5,
 t9:=Tryz.underlying9,
 a9:=Tryz.isAgg9,
 z9:=Tryz.sizeOf9,
 v9:=Tryz.zeroValue9,
 t22:=Tryz.underlying84,
 a22:=Tryz.isAgg84,
 z22:=Tryz.sizeOf84,
 v22:=Tryz.zeroValue84,
 t25:=Tryz.underlying326,
 a25:=Tryz.isAgg326,
 z25:=Tryz.sizeOf326,
 v25:=Tryz.zeroValue326,
 t39:=Tryz.underlying344,
 a39:=Tryz.isAgg344,
 z39:=Tryz.sizeOf344,
 v39:=Tryz.zeroValue344,
 t45:=Tryz.underlying357,
 a45:=Tryz.isAgg357,
 z45:=Tryz.sizeOf357,
 v45:=Tryz.zeroValue357,
 t46:=Tryz.underlying358,
 a46:=Tryz.isAgg358,
 z46:=Tryz.sizeOf358,
 v46:=Tryz.zeroValue358,
 t50:=Tryz.underlying135,
 a50:=Tryz.isAgg135,
 z50:=Tryz.sizeOf135,
 v50:=Tryz.zeroValue135,
 t53:=Tryz.underlying364,
 a53:=Tryz.isAgg364,
 z53:=Tryz.sizeOf364,
 v53:=Tryz.zeroValue364,
 t55:=Tryz.underlying366,
 a55:=Tryz.isAgg366,
 z55:=Tryz.sizeOf366,
 v55:=Tryz.zeroValue366,
 t66:=Tryz.underlying379,
 a66:=Tryz.isAgg379,
 z66:=Tryz.sizeOf379,
 v66:=Tryz.zeroValue379,
 t70:=Tryz.underlying281,
 a70:=Tryz.isAgg281,
 z70:=Tryz.sizeOf281,
 v70:=Tryz.zeroValue281,
 t76:=Tryz.underlying388,
 a76:=Tryz.isAgg388,
 z76:=Tryz.sizeOf388,
 v76:=Tryz.zeroValue388,
 t77:=Tryz.underlying389,
 a77:=Tryz.isAgg389,
 z77:=Tryz.sizeOf389,
 v77:=Tryz.zeroValue389 }
def ACZ:Go.Shelf.Ren:=⟨fun|5=>298|7=>329|n=>n,fun|22=>3|3=>3|4=>4|n=>n,fun|n=>n⟩
theorem AWE:Go.Proofs.SlLaysC2.n5 jA ACZ := {
 mixed:=A8,
 f5:=⟨Tryz.f298.name,by decide,Tryz.func298.trans (congrArg some A8)⟩,
 f7:=⟨Tryz.f329.name,by decide,Tryz.func329.trans (congrArg some A8)⟩,
 t3:=Tryz.underlying3,
 a3:=Tryz.isAgg3,
 z3:=Tryz.sizeOf3,
 v3:=Tryz.zeroValue3,
 t4:=Tryz.underlying4,
 a4:=Tryz.isAgg4,
 z4:=Tryz.sizeOf4,
 v4:=Tryz.zeroValue4,
 t22:=Tryz.underlying3,
 a22:=Tryz.isAgg3,
 z22:=Tryz.sizeOf3,
 v22:=Tryz.zeroValue3 }
def encV (x:Rng):List Value:=[.int .i64 x.lo,.int .i64 x.hi]
instance:Inhabited Rng:=⟨⟨0,0⟩⟩
theorem AMJ (x y:Rng)(W:World):Calls jA 297 #[.agg #[.int .i64 x.lo,.int .i64 x.hi],.agg #[.int .i64 y.lo,.int .i64 y.hi]] W fun e w'=>e=.returned (.int .i64 (Lib.compareInt x.lo y.lo))∧∃q os',w'=grow (W.drewN q) os':=by
 have hcon:=fun W'=>AnyG.cmp_Compare_int AWE x.lo y.lo W'
 change ∀W',Calls jA 298 _ _ _ at hcon
 generalize Lib.compareInt x.lo y.lo=r at hcon|-
 go_enter Tryz.func297,Tryz.ntmps297
 go_wp2_with (go_at_call 298; refine(hcon _).mono ?_; rintro e w' ⟨rfl,rfl⟩)
 go_ret
 exact⟨rfl,0,_,by rw[alloc_eq_grow,alloc_eq_grow,grow_grow]; rfl⟩
theorem AMI (blk off size:Nat)(w:World):CmpLays jA 297 #[] encV 2 (fun x y=>Lib.compareInt x.lo y.lo) blk off size w :=
 fun _ _ _ _ x y=>AMJ x y _
theorem ltLo (x y:Rng):ltOf (fun x y:Rng=>Lib.compareInt x.lo y.lo) x y=decide (x.lo<y.lo):=by
 unfold ltOf Lib.compareInt;by_cases h1:x.lo<y.lo
 .simp [h1]
 .by_cases h2:y.lo<x.lo<;>simp [h1,h2]
theorem swoLo:SWO (ltOf fun x y:Rng=>Lib.compareInt x.lo y.lo) where
 irrefl x:=by rw[ltLo]; simp
 trans x y z h1 h2:=by rw[ltLo] at *; simp at *; omega
 ntrans x y z h1 h2:=by rw[ltLo] at *; simp at *; omega
theorem encV_len (x:Rng):(encV x).length=2:=rfl
theorem ACC (x:Rng)(j:Nat)(a:AV)(h:(encR x)[j]?=some a)(g:Gh):∃v,(encV x)[j]?=some v∧(encV x)[j]! = v∧Rep g a v∧∀v',Rep g a v'->v'=v:=by
 match j,h with
 | 0,h=>simp [encR] at h; subst h; exact⟨_,rfl,rfl,.int _ _ _,fun v' hv=>hv.int_inv⟩
 | 1,h=>simp [encR] at h; subst h; exact⟨_,rfl,rfl,.int _ _ _,fun v' hv=>hv.int_inv⟩
 | n+2,h=>simp [encR] at h
theorem yM:∀args w,(callFunc 297 args).run jA w=.ok (.enter 297 args) w:=enters_of Tryz.func297 A8 rfl
theorem AV3 {t n:Nat}(h:t<n*2):t/2<n:=U
theorem ATP (xs:List Rng)(b:Nat)(tail:List (List AV))(h0 h:Hp)(hl:xs.length<=16777216)(he:ext h0 h)(hb0:h0.length<=b)(hb:h[b]?=some (zZ 2 (xs.map encR++tail))):
  ACalls (En G) 296 [.own b 0 xs.length,.fn (.func 297) [] []] h fun _ H=>ext h0 H∧∃ys:List Rng,ys.Perm xs∧ys.Pairwise (fun a b=>a.lo<=b.lo)∧H[b]?=some (zZ 2 (ys.map encR++tail)):=by
 refine⟨cok 296 G A8,fun g w cargs S ha=>?_⟩;obtain⟨hsz,hget⟩:=ha
 obtain⟨cv0,cv1,rfl⟩:∃a b,cargs = #[a,b]:=by
  obtain⟨l⟩:=cargs
  match l,hsz with
  | [a,b],_=>exact⟨a,b,rfl⟩
 have r0:=hget 0 _ cv0 rfl rfl;have r1:=hget 1 _ cv1 rfl rfl;obtain⟨f1,f2,rfl,q1,q2,_⟩:=r1.fn_inv;obtain rfl:f1 = #[]:=Array.eq_empty_of_size_eq_zero (BN q1);obtain rfl:f2 = #[]:=Array.eq_empty_of_size_eq_zero (BN q2)
 have none_case:∀(p:Option Addr) (cap:Nat),xs=[]->Calls jA 296 #[.slice p 0 cap,.func (.func 297) #[] #[]] w fun e w'=>∃v cv g' h',e=.returned cv∧(ext h0 h'∧∃ys:List Rng,ys.Perm xs∧ys.Pairwise (fun a b=>a.lo<=b.lo)∧h'[b]?=some (zZ 2 (ys.map encR++tail)))∧g.le g'∧SimH (En G) g' h' w'∧Rep g' v cv:=by
  intro p cap hx;have hcon:=AnyF.slices_SortFunc_none AOE p cap (.func (.func 297) #[] #[]) w;change Calls jA 296 _ _ _ at hcon;refine hcon.mono ?_;rintro e w' ⟨rfl,rfl⟩;exact⟨.tup [],_,g,h,rfl,⟨he,xs,.refl _,by rw[hx]; exact .nil,hb⟩,Gh.le.refl g,S,Rep.undef g⟩
 rcases r0.own_inv with⟨l,cap,hl0,hlc,hsp,rfl⟩|⟨hn,a,rfl⟩
 case inr =>
  have hx:xs=[]:=List.length_eq_zero_iff.1 hn;have:=none_case (some a) 0 hx;exact this.mono fun _ _ q=>.inl q
 obtain⟨l',c,ety,p1,p2,p3,p4,p5,p6,p7,p8⟩:=S.live b 2 _ hb;rw[hl0] at p1; cases p1;obtain⟨cb,co,k,sz⟩:=l;simp only at p2 p3 p4 p5 p6 p8 hsp;subst p2;simp only[Nat.zero_mul,Nat.add_zero];have hblk:cb<w.heap.size:=by grind
 -- the row's cells
 have hcell:∀t,t<xs.length*2->c[co+t]?=some ((encV (xs.toArray[t/2]!))[t%2]!):=by
  intro t ht;have hi:=AV3 ht;have e1:(xs.map encR++tail)[t/2]?=some (encR xs[t/2]):=by grind
  have hj:t%2<2:=Nat.mod_lt _ D5;have e2:(encR xs[t/2])[t%2]?=some ((encR xs[t/2])[t%2]'hj):=List.getElem?_eq_getElem _;obtain⟨cv,s1,s2⟩:=p8 (t/2) (t%2) _ _ e1 e2;obtain⟨v,_,t2,_,t4⟩:=ACC _ _ _ e2 g;rw[show co+t/2*2+t%2=co+t by omega] at s1;rw[s1,t4 cv s2];have:xs.toArray[t/2]! = xs[t/2]:=by simp [hi]
  rw[this,t2]
 have hH:HoldsK encV 2 w cb co xs.toArray:=by
  intro t ht;simp only[size_flatK,List.size_toArray] at ht;refine⟨?_,?_⟩
  .rw[get_flatK _ _ _ _ (BN ht)]
   simp only[World.cell?,p4];exact hcell t ht
  .simp [World.frozen?,p4]
 have hcon:=AnyQ.slices_SortFunc AOE 2 Tryz.isAgg145 Tryz.sizeOf145 encV encV_len (fun x v hv=>by simp [encV] at hv; rcases hv with rfl|rfl<;>rfl) (fun x y=>Lib.compareInt x.lo y.lo) swoLo 297 #[] cb co cap xs.toArray w
  yM (AMI cb co _ w) hH hblk NU
 simp only[List.size_toArray] at hcon;change Calls jA 296 _ _ _ at hcon;refine hcon.mono ?_;rintro e w' ⟨rfl,d',m,os,hp,hs,rfl⟩;have hds:d'.size=xs.length:=by simpa using hp.1
 have hperm:d'.toList.Perm xs:=by
  have:=hp.2.2;simpa [Array.extract_eq_self_of_le,hds] using this
 have hpw:d'.toList.Pairwise (fun a b=>a.lo<=b.lo):=by
  rw[List.pairwise_iff_getElem];intro i j hi hj hij;have:=hs i j (Nat.zero_le _) hij (by simpa [hds] using hj);rw[ltLo] at this;simp at hi hj;rw[getElem!_pos d' i hi,getElem!_pos d' j hj] at this;simpa using this
 -- the written world
 have hw1:Wrote w (putRowK encV 2 (Sort.ahead w m) cb co d') cb ety c (putCells id co (flatK encV 2 d') c) co (flatK encV 2 d').toList:=by
  refine⟨rfl,rfl,rfl,?_,?_,?_,?_⟩
  .show(w.heap.modify cb _)[cb]?=_
   rw[Array.getElem?_modify,if_pos rfl,p4];rfl
  .simp [putCells]
  .intro j
   simp only[putCells,Array.getElem?_mapIdx,Array.length_toList];rcases zF j c.size with hj|hj
   .grind
   .rw[Array.getElem?_eq_none hj,if_neg ?_]
    .rfl
    .simp only[size_flatK,hds]
     have:co+xs.length*2<=c.size:=by omega
     omega
  .intro k hk
   show(w.heap.modify cb _)[k]?=_;rw[Array.getElem?_modify,if_neg (fun e=>hk e.symm)]
 have hrows:PE g (putCells id co (flatK encV 2 d') c) co 2 (d'.toList.map encR++tail):=by
  refine⟨?_,?_,?_⟩
  .have:(putCells id co (flatK encV 2 d') c).size=c.size:=hw1.size
   rw[this,p5]
   simp only[List.length_append,List.length_map,Array.length_toList,hds] at p6|-
   exact p6
  .intro i row hrow
   rcases zF i xs.length with hi|hi
   .rw[qC (by simpa [hds] using hi),List.getElem?_map,Option.map_eq_some_iff] at hrow
    obtain⟨x,_,rfl⟩:=hrow;refine⟨rfl,fun j v hv=>?_⟩
    match j,hv with
    | 0,hv=>simp [encR] at hv; subst hv; rfl
    | 1,hv=>simp [encR] at hv; subst hv; rfl
    | n+2,hv=>simp [encR] at hv
   .rw[List.getElem?_append_right (by simpa [hds] using hi)] at hrow
    refine p7 i row ?_;rw[List.getElem?_append_right (BN hi)];simpa [hds] using hrow
  .intro i j row v hrow hv
   rw[hw1.cells];rcases zF i xs.length with hi|hi
   .have hi':i<d'.toList.length:=by simpa [hds] using hi
    rw[qC (by simpa using hi'),row_map hi'] at hrow;cases hrow;have hj:j<2:=(List.getElem?_eq_some_iff.1 hv).1;obtain⟨v',t1,t2,t3,_⟩:=ACC _ _ _ hv g;refine⟨v',?_,t3⟩;have hlt:i*2+j<d'.size*2:=U;rw[if_pos (by simp only[Array.length_toList,size_flatK]; omega),show co+i*2+j-co=i*2+j by omega,Array.getElem?_toList,Array.getElem?_eq_getElem (BN hlt)];rw[<-getElem!_pos,get_flatK _ _ _ _ hlt,show(i*2+j)/2=i by omega,show(i*2+j)%2=j by omega];rw[getElem!_pos d' i U];rw[show d'[i]=d'.toList[i] by simp,t2]
   .rw[if_neg (by simp only[Array.length_toList,size_flatK,hds]; omega)]
    rw[List.getElem?_append_right (by simpa [hds] using hi)] at hrow;refine p8 i j row v ?_ hv;rw[List.getElem?_append_right (BN hi)];simpa [hds] using hrow
 have S1:=S.write hb hl0 hw1 p5 hrows
 have S2:SimH (En G) g (h.set b (zZ 2 (d'.toList.map encR++tail))) (sortWorldK encV 2 w cb co m d' os):=by
  refine S1.world rfl rfl rfl fun k hk=>?_
  show((putRowK encV 2 (Sort.ahead w m) cb co d').heap++os)[k]?=_;rcases zF k (putRowK encV 2 (Sort.ahead w m) cb co d').heap.size with hlt|hge
  .rw[Array.getElem?_append_left hlt]
  .exfalso
   obtain⟨u1,u2⟩:=S1.unowned_new hge;rcases hk with⟨o,ho⟩|hk
   .rw[u2] at ho; cases ho
   .exact hk u1
 refine .inl ⟨.tup [],_,g,_,rfl,⟨he.set hb0 _,d'.toList,hperm,hpw,CP hb⟩,Gh.le.refl g,S2,Rep.undef g⟩
theorem AOF (m:SM)(k:Nat)(h:Hp):PCall (En G) 296 [.sl m k [],.fn (.func 297) [] []] h (.tup []):=by
 refine⟨cok 296 G A8,fun g w cargs S ha=>?_⟩;obtain⟨hsz,hget⟩:=ha
 obtain⟨cv0,cv1,rfl⟩:∃a b,cargs = #[a,b]:=by
  obtain⟨l⟩:=cargs
  match l,hsz with
  | [a,b],_=>exact⟨a,b,rfl⟩
 have r0:=(hget 0 _ cv0 rfl rfl).sl_inv;have r1:=hget 1 _ cv1 rfl rfl;obtain⟨f1,f2,rfl,q1,q2,_⟩:=r1.fn_inv;obtain rfl:f1 = #[]:=Array.eq_empty_of_size_eq_zero (BN q1);obtain rfl:f2 = #[]:=Array.eq_empty_of_size_eq_zero (BN q2)
 have none_case:∀(p:Option Addr) (cap:Nat),Calls jA 296 #[.slice p 0 cap,.func (.func 297) #[] #[]] w fun e w'=>∃v cv g' h',e=.returned cv∧(v=.tup []∧h'=h)∧g.le g'∧SimH (En G) g' h' w'∧Rep g' v cv:=by
  intro p cap;have hcon:=AnyF.slices_SortFunc_none AOE p cap (.func (.func 297) #[] #[]) w;change Calls jA 296 _ _ _ at hcon;refine hcon.mono ?_;rintro e w' ⟨rfl,rfl⟩;exact⟨.tup [],_,g,h,rfl,⟨rfl,rfl⟩,Gh.le.refl g,S,Rep.undef g⟩
 generalize hx:AV.sl m k []=v at r0
 cases r0<;>first|(cases hx; done)|skip
 .exact(none_case _ _).mono fun _ _ q=>.inl q
 .exact(none_case _ _).mono fun _ _ q=>.inl q
 .simp_all
theorem AZL:SortOk G:=⟨fun xs b tail h0 h hl he hb0 hb=>ATP G xs b tail h0 h hl he hb0 hb,fun m k h=>AOF G m k h⟩
theorem uP (xs:List Rng)(m:SM)(h:Hp)(hl:xs.length<=8388608):PCall (En G) 245 [.sl m 2 (xs.map encR)] h (.sl (nm (normal xs)) 2 ((normal xs).map encR)):=AA3 G (AZL G) xs m h hl
end Go.Proofs.YtiihpnicbekebaaGreatDoor.Bins
namespace Go.Proofs.YtiihpnicbekebaaGreatDoor.Bins
open Sm
variable {b:Nat}
structure Sel (xs dn cur:List Rng):Prop where
 perm:(dn++cur).Perm xs
 sorted:dn.Pairwise (fun a b=>a.lo<=b.lo)
 below:∀d∈dn,∀c∈cur,d.lo<=c.lo
theorem AN1 {cur:List Rng}(hb:b<cur.length):(cur[b]::(cur.set b (cur[cur.length-1]'U)).take (cur.length-1)).Perm cur:=by
 obtain⟨init,t,rfl⟩:∃init t,cur=init++[t]:=⟨cur.dropLast,cur.getLast (by intro e; subst e; simp at hb),(List.dropLast_concat_getLast _).symm⟩;have hl:(init++[t]).length-1=init.length:=BA;have hlast:(init++[t])[(init++[t]).length-1]'BA=t:=BA;rw[hlast,hl];rcases zF b init.length with h|h
 .grind
 .grind
theorem Sel.step {xs dn cur:List Rng}(h:Sel xs dn cur)(hb:b<cur.length)(hmin:∀c∈cur,cur[b].lo<=c.lo):
  Sel xs (dn++[cur[b]]) ((cur.set b (cur[cur.length-1]'U)).take (cur.length-1)):=by
 have hs:=AN1 hb;generalize (cur.set b (cur[cur.length-1]'U)).take (cur.length-1)=nx at hs;refine⟨?_,?_,?_⟩
 .rw[zG]
  exact(List.Perm.append_left dn hs).trans h.perm
 .rw[List.pairwise_append]
  refine⟨h.sorted,BA,?_⟩;intro a ha c hc;simp at hc; subst hc;exact h.below a ha _ (List.getElem_mem hb)
 .intro d hd c hc
  have hcm:c∈cur:=hs.mem_iff.1 (List.mem_cons_of_mem _ hc);rw[List.mem_append] at hd;rcases hd with hd|hd
  .exact h.below d hd c hcm
  .simp at hd; subst hd; exact hmin c hcm
theorem Sel.done {xs dn:List Rng}(h:Sel xs dn []):(dn.filter full).foldl join []=normal xs:=by
 have hp:=h.perm;rw[lAn] at hp;exact rM (hp.filter full) (h.sorted.filter full)
theorem srcR.nil_or {h:Hp}{ys:List Rng}{v:AV}{H:Hp}(hs:srcR h ys b v H)(hne:ys≠[]):h.length<=b∧v=.own b 0 ys.length∧∃tail,H[b]?=some (zZ 2 (ys.map encR++tail)):=by
 rcases hs with⟨h1,_⟩|h2
 .exact absurd h1 hne
 .exact h2
theorem ATO {h:Hp}{ys:List Rng}{v:AV}{H:Hp}(hs:srcR h ys b v H):JR jA 84 v=some (.n ys.length):=by
 rcases hs with⟨rfl,m0,k0,rfl⟩|⟨_,rfl,_⟩
 .exact XR.1 _ _ _
 .exact XR.2 _ _ _
theorem AA2 (G:Nat->AV)(xs:List Rng)(m:SM)(h:Hp)(hl:xs.length<=8388608):
  ACalls (En G) 308 [.sl m 2 (xs.map encR)] h fun v H=>ext h H∧∃b,AKX h (normal xs) b v H:=by
 refine acT Tryz.func308 2 ?_
 obtain⟨v0,H0,hap,hex0,hsrc0⟩:∃v0 H0,EG jA true h 84 84 (.sl .full 2 []) (.sl m 2 (xs.map encR))=some (v0,H0)∧ext h H0∧srcR h xs h.length v0 H0:=by
  rcases Classical.em (xs=[]) with hx|hx
  .subst hx
   exact⟨_,_,ADJ Tryz.underlying84 J4 (.inr rfl),ext.rfl' _,.inl ⟨rfl,_,_,rfl⟩⟩
  .have hne:xs.map encR≠[]:=BN hx
   refine⟨_,_,dZ (xs:=[]) UH J4 tM xA (G5 h m 2 (xs.map encR)) hne (IV NU U),⟨_,rfl⟩,.inr ⟨jF _,BA,[],BA⟩⟩
 refine BB @AR1 hap ?_
 refine BI (fun n F H=>∃dn cur b,n=cur.length∧Sel xs dn cur∧ext h H∧srcR h cur b (F 4) H∧AKX h ((dn.filter full).foldl join []) b (F 3) H) xs.length
  ⟨[],xs,h.length,rfl,⟨BA,.nil,BA⟩,hex0,by refine AO ?_; exact hsrc0,.inl ⟨rfl,AQ⟩⟩ ?_
 rintro n F H ⟨dn,cur,b,rfl,hsel,hex,hsrc,hout⟩;have hcl:cur.length<=8388608:=by have:=hsel.perm.length_eq; simp at this; omega
 generalize f4:F 4=v4 at hsrc;refine BB f4 (ATO hsrc) ?_;refine CE ?_ ?_<;>intro hc
 .have hne:cur≠[]:=by intro e; subst e; simp at hc
  obtain⟨hb1,rfl,tail,ht⟩:=hsrc.nil_or hne;generalize f3:F 3=v3 at hout;have hcp:0<cur.length:=List.length_pos_iff.2 hne
  have ld:∀j (hj:j<cur.length),BU jA H 3 (.ptr b j 0)=some (.n cur[j].lo):=fun j hj=>by
   rw[BL ag3 ht (row:=encR cur[j]) (by rw[qC (BN hj)]; exact row_map hj)]; rfl
  have ldA:∀j (hj:j<cur.length),BU jA H 145 (.ptr b j 0)=some (.agg (encR cur[j])):=fun j hj=>by
   rw[EH YL J4 ht (row:=encR cur[j]) (by rw[qC (BN hj)]; exact row_map hj) (by simp [encR])]; rfl
  refine AO ?_
  refine BI (fun n2 F H2=>∃i best,∃hb:best<cur.length,n2+i=cur.length∧best<i∧(∀j,j<i->∀c,cur[j]?=some c->(cur[best]'hb).lo<=c.lo)∧F 3=v3∧F 4=.own b 0 cur.length∧F 5=.n (best:Nat)∧F 6=.n (i:Nat)∧H2=H) (cur.length-1)
   ⟨1,0,hcp,U,U,fun j hj c hc=>by
    have:j=0:=U
    subst this; rw[jM hcp] at hc; cases hc; exact Int.le_refl _,EM f3,EM f4,AQ,AQ,rfl⟩ ?_
  clear f3 f4;rintro n2 F H2 ⟨i,best,hbl,hi,hbi,hmin,f3,f4,f5,f6,rfl⟩;refine DT f4 f6 @XR.2 ?_;refine D8 ?_ ?_<;>intro hd'
  .refine AO ?_
   refine DV A8 ?_;simp -implicitDefEqProofs only[vQ,↓reduceIte,jB,jL,enP,TQ,OU,f4,f5,f6,H8 ht hd',H8 ht hbl,ld i hd',ld best hbl];refine CE ?_ ?_<;>intro he
   .refine BB f6 (DF i) ?_
    refine⟨n2-1,U,i+1,i,hd',U,U,fun j hj c hc=>?_,f3,f4,rfl,rfl,trivial⟩;have he':cur[i].lo<cur[best].lo:=BN he;rcases zF j i with h1|h1
    .have:=hmin j h1 c hc; omega
    .grind
   .refine BB f6 (DF i) ?_
    refine⟨n2-1,U,i+1,best,hbl,U,U,fun j hj c hc=>?_,f3,f4,f5,rfl,trivial⟩;have he':¬cur[i].lo<cur[best].lo:=BN he;rcases zF j i with h1|h1
    .exact hmin j h1 c hc
    .grind
  .have hmin':∀c∈cur,cur[best].lo<=c.lo:=by
    intro c hc;obtain⟨j,hj,rfl⟩:=List.mem_iff_getElem.1 hc;exact hmin j U _ (jM hj)
   have hst:=hsel.step hbl hmin';have ldb:=ldA best hbl;generalize hr:cur[best]=r at hst ldb;have hlt1:cur.length-1<cur.length:=U;have hlast:(IntKind.i64.wrap ((cur.length:Int)-1))=((cur.length-1:Nat):Int):=by rw[wrap_i64 U U]; omega
   have ht2:(H2++[zZ 2 [encR r]])[b]?=some (zZ 2 (cur.map encR++tail)):=AL ht;have hbl2:=AC ht;have ixl:JJ 2 (H2++[zZ 2 [encR r]]) (.own b 0 cur.length) (.n ((cur.length-1:Nat):Int))=some (.ptr b (cur.length-1) 0):=by rw[H8 ht2 hlt1,jG]
   have ldl:BU jA (H2++[zZ 2 [encR r]]) 145 (.ptr b (cur.length-1) 0)=some (.agg (encR cur[cur.length-1])):=APG (ldA _ hlt1);generalize hlst:cur[cur.length-1]=lst at hst ldl
   have st:DW jA (H2++[zZ 2 [encR r]]) 145 (.ptr b best 0) (.agg (encR lst))=some ((H2++[zZ 2 [encR r]]).set b (zZ 2 ((cur.set best lst).map encR++tail))):=by
    have h2:=IC (P:=jA) (t:=145) (j:=0) (v:=.agg (encR lst)) (cs:=encR lst) rfl J4 ht2 (i:=best) (row:=encR r) (by rw[qC (BN hbl),row_map hbl,hr]) (by simp [encR]);have h3:(cur.map encR++tail).set best (encR lst)=(cur.set best lst).map encR++tail:=by simp_all
    rw[h2,gH (by simp [encR]),h3]
   have ht3:((H2++[zZ 2 [encR r]]).set b (zZ 2 ((cur.set best lst).map encR++tail)))[b]?=some (zZ 2 ((cur.set best lst).map encR++tail)):=CP ht2;have hrr:((H2++[zZ 2 [encR r]]).set b (zZ 2 ((cur.set best lst).map encR++tail)))[qK H2]?=some (zZ 2 [encR r]):=CZ (A7 _ _) U;have hex3:ext h ((H2++[zZ 2 [encR r]]).set b (zZ 2 ((cur.set best lst).map encR++tail))):=(hex.app _).set hb1 _
   have hout3:AKX h ((dn.filter full).foldl join []) b v3 ((H2++[zZ 2 [encR r]]).set b (zZ 2 ((cur.set best lst).map encR++tail))):=by
    rcases hout with h1|⟨h1,o,h2,h3,h4,h5⟩
    .exact .inl h1
    .exact .inr ⟨h1,o,h2,h3,h4,CZ (AL h5) h3⟩
   have hH3l:qK ((H2++[zZ 2 [encR r]]).set b (zZ 2 ((cur.set best lst).map encR++tail)))=qK H2+1:=BA
   have hsrc3:∀ {H'},H'[b]?=some (zZ 2 ((cur.set best lst).map encR++tail))->srcR h ((cur.set best lst).take (cur.length-1)) b (.own b 0 (cur.length-1)) H':=by
    intro H' hh;refine .inr ⟨hb1,?_,((cur.set best lst).drop (cur.length-1)).map encR++tail,?_⟩
    .simp
    .rw[hh,<-zG,<-List.map_append,List.take_append_drop]
   have hcl3:((cur.set best lst).take (cur.length-1)).length=cur.length-1:=BA;simp -implicitDefEqProofs only[vQ,Option.map_some,Option.map_none,Q7,XB,YI,lA,CV,iO,OA,↓reduceIte,jB,enP,TQ,jO,f4,f5,H8 ht hbl,ldb,AGJ,AEA _ _ [.n 0,.n 0] rfl,hlast,XR.2,ixl,ldl,H8 ht2 hbl,st];generalize hH3:(H2++[zZ 2 [encR r]]).set b (zZ 2 ((cur.set best lst).map encR++tail))=H3 at ht3 hrr hex3 hout3 hH3l;generalize (cur.set best lst).take (cur.length-1)=nx at hst hsrc3 hcl3;clear hH3 hsrc hex ht hout ht2 st ixl ldl ld ldA ldb hmin hmin';have ld7:∀j,BU jA H3 3 (.ptr (qK H2) 0 j)=(encR r)[j]? := fun j=>BL ag3 hrr rfl
   simp -implicitDefEqProofs only[vQ,CV,↓reduceIte,jB,enP,OU,OT,f4,XR.2,hlast,AO1 Tryz.underlying84 J4 ht3 (U:cur.length-1<=cur.length),ld7,TC,Q3];refine CE ?_ ?_<;>intro hg
   .refine AO ?_
    refine⟨cur.length-1,U,dn++[r],nx,b,U,hst,hex3,hsrc3 ht3,?_⟩
    have:(dn++[r]).filter full=dn.filter full:=by
     rw[List.filter_append]
     have:full r=false:=by simp [full] at hg|-; exact hg
     simp [this]
    rw[this,f3]; exact hout3
   .have hfr:full r=true:=by simp [full] at hg|-; exact hg
    have hft:((dn++[r]).filter full).foldl join []=join ((dn.filter full).foldl join []) r:=by simp_all
    have hol0:((dn.filter full).foldl join []).length<=8388608:=by
     have h1:=Y5 (dn.filter full) [];have h2:(dn.filter full).length<=dn.length:=List.length_filter_le _ _;have h3:=hsel.perm.length_eq;simp at h1 h3; omega
    generalize (dn.filter full).foldl join []=out at hft hol0 hout3;rcases hout3 with⟨rfl,rfl⟩|⟨hne2,o,ho1,ho2,rfl,ho⟩
    .have dneg:decide ((IntKind.i64.wrap (((0:Nat):Int)-1))≥0)=false:=by rw[wrap_i64 U U]; simp
     refine TM f3 ?_;refine DV A8 ?_;have h1:([encR r]:List (List AV))≠[]:=BA;have ld77:BU jA H3 145 (.ptr (qK H2) 0 0)=some (.agg (encR r)):=by rw[EH YL J4 hrr rfl (jF 2)]; rfl
     simp -implicitDefEqProofs only[vQ,I5,KJ,AD2,AXD,OC,EJ,CV,GG,I8,↓reduceIte,jB,jL,enP,dneg,ld77,f3,xB,SE UH J4 tM xA (G5 H3 .full 2 [encR r]) h1 (IV BA U)];refine⟨cur.length-1,U,dn++[r],nx,b,U,hst,hex3.app _,hsrc3 (AL ht3),?_⟩;rw[hft];exact .inr ⟨by simp [join],_,by rw[hH3l]; have:=hex3.le; omega,U,rfl,by simp [join]⟩
    .obtain⟨init,t,rfl⟩:∃init t,out=init++[t]:=⟨out.dropLast,out.getLast hne2,(List.dropLast_concat_getLast hne2).symm⟩
     have hol:=AC ho
     have hlast2:(IntKind.i64.wrap (((init++[t]).length:Int)-1))=((init.length:Nat):Int):=by
      rw[wrap_i64 U U]; simp
     have dpos:decide (((init.length:Nat):Int)≥0)=true:=BA;have hil:init.length<(init++[t]).length:=BA;have erow:((init++[t]).map encR)[init.length]?=some (encR t):=BA;have lhi:BU jA H3 3 (.ptr o init.length 1)=some (.n t.hi):=by rw[BL ag3 ho erow]; rfl
     refine DT f3 @XR.2 @hlast2 ?_;refine DV A8 ?_;simp -implicitDefEqProofs only[vQ,I5,KJ,eD,EJ,ZC,↓reduceIte,jB,jL,enP,TQ,OU,OT,dpos,ld7,TC,Q3,f3,H8 ho hil,lhi];refine AS4 (fun F H'=>F 81=.bool (glue t r)∧F 4=.own b 0 (cur.length-1)∧F 3=.own o 0 (init++[t]).length∧F 7=.ptr (qK H2) 0 0∧F 8=.n (init.length:Nat)∧H'=H3) ?_ ?_
     .refine oH ?_ ?_<;>intro ha
      .refine BB ha f3 ?_
       exact⟨by unfold glue; rw[ha]; rfl,trivial,trivial,trivial,trivial,trivial⟩
      .simp -implicitDefEqProofs only[vQ,I5,KJ,eD,WS,OC,EJ,OA,↓reduceIte,jB,jL,enP,TQ,OU,OT,ha,ld7,TC,Q3,f3,H8 ho hil,lhi]
       exact⟨by unfold glue; rw[ha]; rfl,trivial,trivial,trivial,trivial,trivial⟩
     clear f3 f4 f5 f6;rintro F H' ⟨f81,f4,f3,f7,f8,rfl⟩;refine BC f81 ?_;refine CE ?_ ?_<;>intro hgl
     .have st:∀v:Int,DW jA H' 3 (.ptr o init.length 1) (.n v)=some (H'.set o (zZ 2 ((init++[Rng.mk t.lo v]).map encR))):=by
       intro v;have h2:=IC (P:=jA) (t:=3) (j:=1) (v:=.n v) (cs:=[.n v]) rfl sz3 ho erow (by simp [encR]);have h3:((init++[t]).map encR).set init.length (splice (encR t) 1 [.n v])=(init++[Rng.mk t.lo v]).map encR:=by simp [encR,splice]
       rw[h2,h3]
      refine DV A8 ?_;simp -implicitDefEqProofs only[vQ,MN,NG,IY,xQ,lO,↓reduceIte,jB,jL,enP,TQ,OT,jO,f3,f7,f8,H8 ho hil,lhi,ld7,Q3,st];refine⟨cur.length-1,U,dn++[r],nx,b,U,hst,hex3.set ho1 _,?_,?_⟩
      .simp_all
      .rw[hft]
       have hj:join (init++[t]) r=init++[⟨t.lo,max t.hi r.hi⟩]:=by simp [join,hgl]
       rw[hj];exact .inr ⟨BA,o,ho1,ho2,BA,CP ho⟩
     .have h1:([encR r]:List (List AV))≠[]:=BA
      have ld77:BU jA H' 145 (.ptr (qK H2) 0 0)=some (.agg (encR r)):=by rw[EH YL J4 hrr rfl (jF 2)]; rfl
      have hc1:JB H' (.own o 0 (init++[t]).length)=some (2,(init++[t]).map encR):=by
       rw[JS ho BA,List.drop_zero,List.take_of_length_le BA]
      refine MV ld77 f3 f7 f8 @xB (QT UH J4 tM xA hc1 (G5 H' .full 2 [encR r]) h1 (IV (by simp at hol0|-; omega) U)) ?_;refine⟨cur.length-1,U,dn++[r],nx,b,U,hst,(hex3.set ho1 _).app _,?_,?_⟩
      .grind
      .rw[hft]
       have hj:join (init++[t]) r=(init++[t])++[r]:=by simp [join,hgl]
       rw[hj];exact .inr ⟨BA,H'.length,by have:=hex3.le; omega,U,BA,BA⟩
 .have hn:cur=[]:=BN hc
  subst hn;rw[hsel.done] at hout;refine AO ?_;exact⟨hex,b,hout⟩
end Go.Proofs.YtiihpnicbekebaaGreatDoor.Bins
