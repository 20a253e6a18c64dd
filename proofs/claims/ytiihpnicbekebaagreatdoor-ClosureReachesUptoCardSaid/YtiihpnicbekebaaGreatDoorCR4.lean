/- Part 4 of the proof (H3, X1, X3, X4, R9, X2, X5, X6, U1, U2, U3, U4, U5, U6, U7, U8, V1, V2, V3, V4, V5, V6, V7, V8, Yc, Qc, W1, X8, X9, X10, X13, X14, X15, X21, W2, W3, O1, O2);no condition. -/
import Derived.Shelf.Spec.SlicesGrow
import Derived.Test.YtiihpnicbekebaaGreatDoorCR3
set_option linter.unusedVariables false
set_option linter.unusedSimpArgs false
set_option maxRecDepth 8000
set_option maxHeartbeats 4000000
open Go.Proofs.YtiihpnicbekebaaGreatDoor.Sm.ABlk renaming live→qG
open Bool renaming and_eq_true→jX,eq_iff_iff→wP,false_and→wK,false_or→wF,not_false→jE,not_true→qN,or_false→zN,or_true→zT,true_and→qZ
open Go.Proofs.Tryz renaming prog→jA
open Int renaming eq_ofNat_of_zero_le→wI,reduceBEq→qW,toNat_natCast→qM
open List renaming any_eq_false→qQ,any_eq_true→qJ,append_assoc→zD,append_nil→jM,cons_append→zG,contains_cons→jZ,contains_nil→jS,drop_eq_getElem_cons→zX,drop_eq_nil_of_le→jY,drop_zero→zI,eq_nil_of_length_eq_zero→qY,getD_eq_getElem?_getD→wO,getElem?_append_left→qH,getElem?_cons_zero→wQ,getElem?_eq_getElem→jO,getElem?_eq_none→wC,getElem?_set_ne→zW,getElem?_set→zU,getElem_mem→jH,getElem_of_mem→qO,length_append→jW,length_cons→zF,length_map→jI,length_pos_iff→qR,length_set→qV,length_take→jR,length→qL,map_append→qC,map_cons→jJ,map_nil→jL,mem_append→zM,mem_cons→zO,mem_map→zQ,mem_of_getElem?→qB,mem_singleton→wH,nil_append→qI,range→zL,replicate→zK,take_append_drop→wE,take_of_length_le→jK,take_succ_eq_append_getElem→jV,take_zero→qA
open Nat renaming add_mul→qK,add_zero→jT,le_of_ble_eq_true→jB,le_refl→jF,le_trans→qX,lt_or_ge→zA,mod_lt→wJ,reduceAdd→jP,reduceBEq→jU,reduceEqDiff→jC,zero_add→jG
open Option renaming getD_none→jQ,getD_some→jD,map_none→zY,map_some→zV
namespace Go.Proofs.YtiihpnicbekebaaGreatDoor.Wd
open Sm Bins Cov Go.RowKit
variable (G:Nat->AV )
theorem ANV (a:Nat)(l:a<65536)(h:Hp):PCall (En G) 347 [.n (a:Nat)] h (.n (ZE a:Nat)):=by
 have g:IQ jA 347 .shr (.int .u16 (a:Nat)) (.int .u64 8)=some (.int .u16 ((a/256:Nat):Int)):=by
  have e:IQ jA 347 .shr (.int .u16 (a:Nat)) (.int .u64 8)=some (.int .u16 ((a:Int).fdiv (2^8))):=rfl;rw[e,Int.fdiv_eq_ediv_of_nonneg _ DU];rfl
 have d:IQ jA 347 .and (.int .u16 (a:Nat)) (.int .u16 255)=some (.int .u16 ((a%256:Nat):Int)):=by
  have e:IQ jA 347 .and (.int .u16 (a:Nat)) (.int .u16 255)=some (.int .u16 (IntKind.u16.wrap ((BitVec.ofInt 16 (a:Int) &&& BitVec.ofInt 16 255).toNat:Int))):=rfl;have j:(BitVec.ofInt 16 255).toNat=2^8-1:=by decide
  have k:(BitVec.ofInt 16 (a:Int)).toNat=a:=by simp_all
  rw[e,BitVec.toNat_and,j,Nat.and_two_pow_sub_one_eq_mod,k,AP1 U (by simp only[Nat.reducePow];omega)]
 have A:=SQ (a/256) 8;have B:=SQ (a%256) 8
 have b:IQ jA 5 .add (.int .u8 (KT (a/256) 8:Nat)) (.int .u8 (KT (a%256) 8:Nat))=some (.int .u8 (ZE a:Nat)):=by
  have e:IQ jA 5 .add (.int .u8 (KT (a/256) 8:Nat)) (.int .u8 (KT (a%256) 8:Nat))=some (.int .u8 (IntKind.u8.wrap ((KT (a/256) 8:Int)+(KT (a%256) 8:Int)))):=rfl;have i:∀n:Int,IntKind.u8.wrap n=n%256:=fun n=>by simp [IntKind.wrap,IntKind.bits,IntKind.signed]
  have q:=ARF a;rw[e,i];congr 2;omega
 have c:IntKind.i64.wrap ((ZE a:Nat):Int)=((ZE a:Nat):Int):=N8 (by have:=SQ a 16;unfold ZE;omega)
 have p:PCall (En G) 386 [.int .u16 (a:Nat)] h (.n (ZE a:Nat)):=by
  refine acT Tryz.func386 2 ?_;refine AB ?_;refine DR BC ?_;refine DC @xZ g d ?_;refine MF (v:=.int .u8 (KT (a/256) 8:Nat)) (h:=h) (AP9 U h) ?_;refine DC @xZ g d ?_;refine MF (v:=.int .u8 (KT (a%256) 8:Nat)) (h:=h) (AP9 U h) ?_;refine EG @APX @ATN @b c ?_;exact G7
 have f:=TG G (a:Nat) h;rw[V9 l] at f;refine acT Tryz.func347 2 ?_;refine AB ?_;refine f.uu ?_;refine p.uu ?_;exact G7
theorem U1 (z:Int)(h:Hp)(k : -9223372036854775808<=z/\z<=9223372036854775807):PCall (En G) 370 [.n z] h (.n (wW z:Nat)):=by
 have i:IQ jA 3 .rem (.n z) (.n 65536)=some (.n (z.tmod 65536)):=bF _ _ _ _ _ DU
 have b:z.tmod 65536=if z<0 then -((-z)%65536) else z%65536:=by
  split
  .have g:z = -(-z):=U
   conv=>lhs;rw[g]
   rw[Int.neg_tmod,Int.tmod_eq_emod_of_nonneg U]
  .rw[Int.tmod_eq_emod_of_nonneg U]
 have d:=AVN z;refine acT Tryz.func370 2 ?_;refine AY i ?_
 generalize z.tmod 65536=t at b|-
 have j : -65536<t/\t<65536:=by
  rw[b];split<;>omega
 cases a:decide (t<0)
 .have c:¬t<0:=BL a
  have e:t=((wW z:Nat):Int):=by
   rw[d];split at b<;>omega
  refine AY a ?_;exact⟨by rw[e],trivial⟩
 .have c:t<0:=BL a
  have e:IntKind.i64.wrap (IntKind.i64.wrap (t+65535)+1)=((wW z:Nat):Int):=by
   have f:IntKind.i64.wrap (t+65535)=t+65535:=wrap_i64 U U;rw[d,f,wrap_i64 U U];split at b<;>omega
  refine A7 a e ?_;exact G7
theorem OI (a:Nat)(b:a<65536)(h:Hp):PCall (En G) 370 [.n (a:Nat)] h (.n (a:Nat)):=by
 have:=U1 G (a:Nat) h U
 rwa [V9 b] at this
theorem uP (n:Nat)(l:n<=16)(h:Hp):PCall (En G) 407 [.n (n:Nat)] h (.n ((2^n:Nat):Int)):=by
 refine acT Tryz.func407 2 ?_;refine AB ?_;refine BB (fun k F H=>∃i,k+i=n/\F 0=.n (n:Nat)/\F 3=.n ((2^i:Nat):Int)/\F 4=.n (i:Nat)/\H=h) n ⟨0,BA,AO,AO,AO,rfl⟩ ?_;rintro k F H ⟨i,j,b,c,d,rfl⟩;refine A7 b d ?_;refine BH ?_ ?_<;>intro f
 .have a:i<n:=BL f
  have g:2^i<=2^16:=Nat.pow_le_pow_right U U
  have e:IntKind.i64.wrap (2*((2^i:Nat):Int))=((2^(i+1):Nat):Int):=by
   simp only[Nat.reducePow] at g;rw[show(2:Int)*((2^i:Nat):Int)=((2^i*2:Nat):Int) by rw[Int.natCast_mul,Int.mul_comm];rfl,Nat.pow_succ];exact N8 U
  refine EG c d e (C9 i) ?_;exact⟨k-1,U,i+1,U,b,AC,AC,trivial⟩
 .have a:i=n:=by
   have:¬i<n:=BL f;omega
  subst a;refine AY c ?_;exact⟨AC,trivial⟩
theorem A0O (a b:Nat)(d:a<65536)(f:b<65536)(h:Hp):PCall (En G) 337 [.n (a:Nat),.n (b:Nat)] h (.n (((a+b)%65536:Nat):Int)):=by
 have e:IntKind.i64.wrap ((a:Int)+(b:Int))=(a:Int)+(b:Int):=wrap_i64 U U;have c:wW ((a:Int)+(b:Int))=(a+b)%65536:=by unfold wW;omega
 refine acT Tryz.func337 4 ?_;refine AB ?_;refine(OI G a d h).uu ?_;refine(OI G b f h).use ?_;refine AY e ?_;refine(U1 G _ h U).use ?_;refine AY c ?_;exact G7
theorem A28 (a b:Nat)(d:a<65536)(f:b<65536)(h:Hp):PCall (En G) 376 [.n (a:Nat),.n (b:Nat)] h (.n (((a+65536-b)%65536:Nat):Int)):=by
 have e:IntKind.i64.wrap ((a:Int)-(b:Int))=(a:Int)-(b:Int):=wrap_i64 U U;have c:wW ((a:Int)-(b:Int))=(a+65536-b)%65536:=by unfold wW;omega
 refine acT Tryz.func376 4 ?_;refine AB ?_;refine(OI G a d h).uu ?_;refine(OI G b f h).use ?_;refine AY e ?_;refine(U1 G _ h U).use ?_;refine AY c ?_;exact G7
theorem mul_lt {a b:Nat}(d:a<65536)(c:b<=65536):a*b<=65535*65536:=Nat.mul_le_mul U c
theorem A3V (a b:Nat)(c:a<65536)(d:b<65536)(h:Hp):PCall (En G) 377 [.n (a:Nat),.n (b:Nat)] h (.n ((a*b%65536:Nat):Int)):=by
 have g:=mul_lt c (Nat.le_of_lt d);have e:IntKind.i64.wrap ((a:Int)*(b:Int))=((a*b:Nat):Int):=by rw[<-Int.natCast_mul];exact N8 U
 have f:wW ((a*b:Nat):Int)=a*b%65536:=by unfold wW;omega
 refine acT Tryz.func377 4 ?_;refine AB ?_;refine(OI G a c h).uu ?_;refine(OI G b d h).use ?_;refine AY e ?_;refine(U1 G _ h U).use ?_;refine AY f ?_;exact G7
theorem A4G (a:Nat)(b:a<65536)(h:Hp):PCall (En G) 373 [.n (a:Nat)] h (.n ((65535-a:Nat):Int)):=by
 have e:IntKind.i64.wrap (65535-(a:Int))=((65535-a:Nat):Int):=by rw[wrap_i64 U U];omega
 refine acT Tryz.func373 2 ?_;refine AB ?_;refine(OI G a b h).use ?_;refine AY e ?_;exact G7
theorem A3S (a:Nat)(c:a<65536)(h:Hp):PCall (En G) 374 [.n (a:Nat)] h (.n (((65536-a)%65536:Nat):Int)):=by
 have e:IntKind.i64.wrap (0-(a:Int))=0-(a:Int):=wrap_i64 U U;have b:wW (0-(a:Int))=(65536-a)%65536:=by unfold wW;omega
 refine acT Tryz.func374 2 ?_;refine AB ?_;refine(OI G a c h).use ?_;refine AY e ?_;refine(U1 G _ h U).use ?_;refine AY b ?_;exact G7
theorem A3G (a:Nat)(n:Int)(g:a<65536)(h:Hp):PCall (En G) 381 [.n (a:Nat),.n n] h (.n (gR a n:Nat)):=by
 refine acT Tryz.func381 4 ?_;refine AB ?_;cases f:decide (n<0)
 .have c:¬n<0:=BL f
  cases b:decide (n>15)
  .have d:¬n>15:=BL b
   obtain⟨k,rfl⟩:=wI (U:0<=n);have j:2^k<=2^16:=Nat.pow_le_pow_right U U;have l:=mul_lt g j;have e:IntKind.i64.wrap ((a:Int)*((2^k:Nat):Int))=((a*2^k:Nat):Int):=by rw[<-Int.natCast_mul];exact N8 U
   have i:wW ((a*2^k:Nat):Int)=gR a (k:Nat):=by
    unfold gR wW;rw[if_neg U,qM];omega
   refine AY b ?_;refine(OI G a g h).uu ?_;refine(uP G k U h).use ?_;refine AY e ?_;refine(U1 G _ h U).use ?_;refine AY i ?_;exact G7
  .have d:n>15:=BL b
   refine AY b ?_;exact⟨by unfold gR;rw[if_pos U];rfl,trivial⟩
 .have c:n<0:=BL f
  refine AB ?_;exact⟨by unfold gR;rw[if_pos U];rfl,trivial⟩
theorem AZP (a:Nat)(n:Int)(g:a<65536)(h:Hp):PCall (En G) 382 [.n (a:Nat),.n n] h (.n (cK a n:Nat)):=by
 refine acT Tryz.func382 4 ?_;refine AB ?_;cases e:decide (n<0)
 .have c:¬n<0:=BL e
  cases b:decide (n>15)
  .have d:¬n>15:=BL b
   obtain⟨k,rfl⟩:=wI (U:0<=n);have i:0<2^k:=Nat.pow_pos U
   have f:a/2^k=cK a (k:Nat):=by
    unfold cK;rw[if_neg U,qM]
   refine AY b ?_;refine(OI G a g h).uu ?_;refine(uP G k U h).use ?_;refine A7 (AWF a (2^k) i U) f ?_;exact G7
  .have d:n>15:=BL b
   refine AY b ?_;exact⟨by unfold cK;rw[if_pos U];rfl,trivial⟩
 .have c:n<0:=BL e
  refine AB ?_;exact⟨by unfold cK;rw[if_pos U];rfl,trivial⟩
theorem ABL (a i:Nat)(c:a<65536)(f:i<16)(h:Hp):PCall (En G) 405 [.n (a:Nat),.n (i:Nat)] h (.n (MO a i:Nat)):=by
 have e:cK a (i:Nat)=a/2^i:=by
  unfold cK;rw[if_neg U,qM]
 refine acT Tryz.func405 4 ?_;have d:=AWB (a/2^i) 2 U;have b:IQ jA 3 .rem (.n ((a/2^i:Nat):Int)) (.n 2)=some (.n (MO a i:Nat)):=d;refine AB ?_;refine(AZP G a i c h).use ?_;refine A7 e b ?_;exact G7
theorem A1H (a:Nat)(j:a<65536)(h:Hp):PCall (En G) 375 [.n (a:Nat)] h (.n (ZE a:Nat)):=by
 refine acT Tryz.func375 2 ?_;refine AB ?_;refine BB (fun k F H=>∃i,k+i=16/\F 0=.n (a:Nat)/\F 3=.n (KT a i:Nat)/\F 4=.n (i:Nat)/\H=h) 16 ⟨0,BA,AO,AO,AO,rfl⟩ ?_;rintro k F H ⟨i,l,f,c,d,rfl⟩;refine AY d ?_;refine BH ?_ ?_<;>intro g
 .have b:i<16:=by simp at g;omega
  have hle:=SQ a (i+1)
  have e:IntKind.i64.wrap (((KT a i:Nat):Int)+((MO a i:Nat):Int))=((KT a (i+1):Nat):Int):=by
   have:KT a (i+1)=KT a i+MO a i:=rfl;rw[wrap_i64 U U];omega
  refine DC f c d ?_;refine(ABL G a i j b H).use ?_;refine EG c d e (C9 i) ?_;exact⟨k-1,U,i+1,U,f,AC,AC,trivial⟩
 .have b:i=16:=by simp at g;omega
  subst b;refine AY c ?_;exact⟨AC,trivial⟩
def PM (lo c a b:Nat):Nat->Nat
 | 0=>0
 | k+1=>2*PM lo c a b k+(if lo<=MO a (15-k)+MO b (15-k)/\MO a (15-k)+MO b (15-k)<=c then 1 else 0)
theorem xE (lo c a b:Nat):∀k,PM lo c a b k<2^k
 | 0=>by simp [PM]
 | k+1=>by
   have:=xE lo c a b k;unfold PM;rw[Nat.pow_succ];split<;>omega
theorem mU (lo c a b x:Nat)(e:x<65536)(d:∀i,i<16->MO x i=if lo<=MO a i+MO b i/\MO a i+MO b i<=c then 1 else 0):∀k,k<=16->PM lo c a b k=x/2^(16-k)
 | 0,_=>by
   unfold PM;rw[Nat.div_eq_of_lt (BL e)]
 | k+1,hk=>by
   unfold PM;rw[mU lo c a b x e d k U,<-d (15-k) U];unfold MO;rw[show 16-(k+1)=15-k by omega,show 16-k=(15-k)+1 by omega,Nat.pow_succ,<-Nat.div_div_eq_div_mul];omega
theorem RN (x i:Nat):MO x i=if x.testBit i=true then 1 else 0:=by
 have:=mV x i;rw[Nat.testBit_eq_decide_div_mod_eq];unfold MO at *;simp only[decide_eq_true_eq];split<;>omega
theorem AUB (a b:Nat)(c:a<65536):PM 2 2 a b 16=a &&& b:=by
 rw[mU 2 2 a b (a &&& b) (Nat.lt_of_le_of_lt Nat.and_le_left c) (fun i _=>?_) 16 (jF _)]
 .simp
 .rw[RN,RN,RN,Nat.testBit_and]
  cases a.testBit i<;>cases b.testBit i<;>simp
theorem AYP (a b:Nat)(c:a<65536)(d:b<65536):PM 1 2 a b 16=a ||| b:=by
 rw[mU 1 2 a b (a ||| b) (Nat.or_lt_two_pow (n:=16) U U) (fun i _=>?_) 16 (jF _)]
 .simp
 .rw[RN,RN,RN,Nat.testBit_or]
  cases a.testBit i<;>cases b.testBit i<;>simp
theorem AUA (a b:Nat)(c:a<65536)(d:b<65536):PM 1 1 a b 16=a ^^^ b:=by
 rw[mU 1 1 a b (a ^^^ b) (Nat.xor_lt_two_pow (n:=16) U U) (fun i _=>?_) 16 (jF _)]
 .simp
 .rw[RN,RN,RN,Nat.testBit_xor]
  cases a.testBit i<;>cases b.testBit i<;>simp
theorem bits_ref (lo c a b:Nat)(M:a<65536)(N:b<65536)(h:Hp):PCall (En G) 406 [.n (a:Nat),.n (b:Nat),.n (lo:Nat),.n (c:Nat)] h (.n (PM lo c a b 16:Nat)):=by
 refine acT Tryz.func406 8 ?_;refine AB ?_
 refine BB (fun n F H=>∃k,n+k=16/\F 0=.n (a:Nat)/\F 1=.n (b:Nat)/\F 2=.n (lo:Nat)/\F 3=.n (c:Nat)/\F 9=.n (PM lo c a b k:Nat)/\F 10=.n (15-(k:Int))/\H=h) 16
  ⟨0,BA,AO,AO,AO,AO,AO,AO,rfl⟩ ?_
 rintro n F H ⟨k,hk,l,p,A,B,I,f10,rfl⟩;refine AY f10 ?_;refine BH ?_ ?_<;>intro J
 .have j:k<16:=by simp at J;omega
  have g:(15-(k:Int))=((15-k:Nat):Int):=U;have P:=mV a (15-k);have Q:=mV b (15-k);have R:=xE lo c a b k;have O:2^k<=2^15:=Nat.pow_le_pow_right U U;simp only[Nat.reducePow] at O;have L:IntKind.i64.wrap (((MO a (15-k):Nat):Int)+((MO b (15-k):Nat):Int))=((MO a (15-k)+MO b (15-k):Nat):Int):=by rw[wrap_i64 U U];omega
  have K:IntKind.i64.wrap (2*((PM lo c a b k:Nat):Int))=((2*PM lo c a b k:Nat):Int):=by rw[wrap_i64 U U];omega
  have E:IntKind.i64.wrap (((15-k:Nat):Int)-1)=15-((k+1:Nat):Int):=by rw[wrap_i64 U U];omega
  have d:PM lo c a b (k+1)=2*PM lo c a b k+(if lo<=MO a (15-k)+MO b (15-k)/\MO a (15-k)+MO b (15-k)<=c then 1 else 0):=rfl;refine DC l f10 g ?_;refine(ABL G a (15-k) M U H).use ?_;refine DC p f10 g ?_;refine(ABL G b (15-k) N U H).use ?_;refine H7 A B I L K ?_;cases i:decide (((MO a (15-k)+MO b (15-k):Nat):Int)≥((lo:Nat):Int))
  .have e:¬lo<=MO a (15-k)+MO b (15-k):=by simp at i;omega
   rw[if_neg (fun q=>e q.1),jT] at d;refine EG i f10 g E ?_;exact⟨n-1,U,k+1,U,l,p,A,B,by rw[d]<;>rfl,AC,trivial⟩
  .have e:lo<=MO a (15-k)+MO b (15-k):=by simp at i;omega
   cases C:decide (((MO a (15-k)+MO b (15-k):Nat):Int)<=((c:Nat):Int))
   .have f:¬MO a (15-k)+MO b (15-k)<=c:=by simp at C;omega
    rw[if_neg (fun q=>f q.2),jT] at d;refine KO i C B f10 g E ?_;exact⟨n-1,U,k+1,U,l,p,A,AC,by rw[d]<;>rfl,AC,trivial⟩
   .have f:MO a (15-k)+MO b (15-k)<=c:=by simp at C;omega
    rw[if_pos ⟨e,f⟩] at d;refine KZ i C B f10 g E (wrap_succ (U:2*PM lo c a b k<9223372036854775807)) ?_;exact⟨n-1,U,k+1,U,l,p,A,AC,by rw[d]<;>rfl,AC,trivial⟩
 .have j:k=16:=by simp at J;omega
  subst j;refine AY I ?_;exact⟨AC,trivial⟩
theorem A50 (a b:Nat)(d:a<65536)(f:b<65536)(h:Hp):PCall (En G) 378 [.n (a:Nat),.n (b:Nat)] h (.n ((a &&& b:Nat):Int)):=by
 have e:=bits_ref G 2 2 a b d f h;rw[AUB a b d] at e;have c:PCall (En G) 406 [.n (a:Nat),.n (b:Nat),.n 2,.n 2] h (.n ((a &&& b:Nat):Int)):=e;refine acT Tryz.func378 4 ?_;refine AB ?_;refine c.uu ?_;exact G7
theorem A7M (a b:Nat)(d:a<65536)(e:b<65536)(h:Hp):PCall (En G) 379 [.n (a:Nat),.n (b:Nat)] h (.n ((a ||| b:Nat):Int)):=by
 have f:=bits_ref G 1 2 a b d e h;rw[AYP a b d e] at f;have c:PCall (En G) 406 [.n (a:Nat),.n (b:Nat),.n 1,.n 2] h (.n ((a ||| b:Nat):Int)):=f;refine acT Tryz.func379 4 ?_;refine AB ?_;refine c.uu ?_;exact G7
theorem A2Y (a b:Nat)(d:a<65536)(e:b<65536)(h:Hp):PCall (En G) 380 [.n (a:Nat),.n (b:Nat)] h (.n ((a ^^^ b:Nat):Int)):=by
 have f:=bits_ref G 1 1 a b d e h;rw[AUA a b d e] at f;have c:PCall (En G) 406 [.n (a:Nat),.n (b:Nat),.n 1,.n 1] h (.n ((a ^^^ b:Nat):Int)):=f;refine acT Tryz.func380 4 ?_;refine AB ?_;refine c.uu ?_;exact G7
end Go.Proofs.YtiihpnicbekebaaGreatDoor.Wd
namespace Go.Proofs.YtiihpnicbekebaaGreatDoor.Xe
open Sm Bins Cov Wd Go.RowKit
variable (G:Nat->AV )
def tr (b:Bool):Nat:=if b then 1 else 0
def sgW (op:Int)(a:Nat):Nat:=if op=4 then tr (a==0) else if op=5 then 65535-a else if op=6 then (65536-a)%65536 else ZE a
def dbW (op:Int)(a b:Nat):Nat :=
 if op=7 then (a+b)%65536 else if op=8 then (a+65536-b)%65536 else if op=9 then a*b%65536 else if op=10 then a &&& b else if op=11 then a ||| b else if op=12 then a ^^^ b
 else if op=13 then gR a (b:Nat) else if op=14 then cK a (b:Nat) else if op=15 then tr (a==b) else if op=16 then tr (!(a==b)) else if op=17 then tr (decide (a<b)) else if op=18 then tr (decide (a<=b))
 else if op=19 then tr (!(a==0) && !(b==0)) else if op=20 then tr (!(a==0) || !(b==0)) else tr ((a==0) || !(b==0))
theorem dU (b:Bool):tr b<65536:=by cases b<;>decide
theorem A03 {op:Int}{a:Nat}(b:a<65536):sgW op a<65536:=by
 unfold sgW;by_cases h4:op=4
 .rw[if_pos h4];exact dU _
 by_cases h5:op=5
 .rw[if_neg h4,if_pos h5];omega
 by_cases h6:op=6
 .grind
 .rw[if_neg h4,if_neg h5,if_neg h6]
  have:=SQ a 16;unfold ZE;omega
theorem A15 {op:Int}{a b:Nat}(c:a<65536)(d:b<65536):dbW op a b<65536:=by
 unfold dbW;by_cases h7:op=7
 .rw[if_pos h7];exact wJ _ U
 by_cases h8:op=8
 .grind
 by_cases h9:op=9
 .grind
 by_cases h10:op=10
 .rw[if_neg h7,if_neg h8,if_neg h9,if_pos h10];exact Nat.lt_of_le_of_lt Nat.and_le_left c
 by_cases h11:op=11
 .rw[if_neg h7,if_neg h8,if_neg h9,if_neg h10,if_pos h11];exact Nat.or_lt_two_pow (n:=16) U U
 by_cases h12:op=12
 .rw[if_neg h7,if_neg h8,if_neg h9,if_neg h10,if_neg h11,if_pos h12];exact Nat.xor_lt_two_pow (n:=16) U U
 by_cases h13:op=13
 .rw[if_neg h7,if_neg h8,if_neg h9,if_neg h10,if_neg h11,if_neg h12,if_pos h13];exact AKF
 by_cases h14:op=14
 .rw[if_neg h7,if_neg h8,if_neg h9,if_neg h10,if_neg h11,if_neg h12,if_neg h13,if_pos h14];exact AKE c
 by_cases h15:op=15
 .rw[if_neg h7,if_neg h8,if_neg h9,if_neg h10,if_neg h11,if_neg h12,if_neg h13,if_neg h14,if_pos h15];exact dU _
 by_cases h16:op=16
 .rw[if_neg h7,if_neg h8,if_neg h9,if_neg h10,if_neg h11,if_neg h12,if_neg h13,if_neg h14,if_neg h15,if_pos h16];exact dU _
 by_cases h17:op=17
 .rw[if_neg h7,if_neg h8,if_neg h9,if_neg h10,if_neg h11,if_neg h12,if_neg h13,if_neg h14,if_neg h15,if_neg h16,if_pos h17];exact dU _
 by_cases h18:op=18
 .rw[if_neg h7,if_neg h8,if_neg h9,if_neg h10,if_neg h11,if_neg h12,if_neg h13,if_neg h14,if_neg h15,if_neg h16,if_neg h17,if_pos h18];exact dU _
 by_cases h19:op=19
 .rw[if_neg h7,if_neg h8,if_neg h9,if_neg h10,if_neg h11,if_neg h12,if_neg h13,if_neg h14,if_neg h15,if_neg h16,if_neg h17,if_neg h18,if_pos h19];exact dU _
 by_cases h20:op=20
 .rw[if_neg h7,if_neg h8,if_neg h9,if_neg h10,if_neg h11,if_neg h12,if_neg h13,if_neg h14,if_neg h15,if_neg h16,if_neg h17,if_neg h18,if_neg h19,if_pos h20];exact dU _
 .rw[if_neg h7,if_neg h8,if_neg h9,if_neg h10,if_neg h11,if_neg h12,if_neg h13,if_neg h14,if_neg h15,if_neg h16,if_neg h17,if_neg h18,if_neg h19,if_neg h20];exact dU _
theorem eqc (a b:Nat):((a:Int)==(b:Int))=(a==b):=by grind
theorem eqz (a:Nat):((a:Int)==0)=(a==0):=eqc a 0
theorem nec (a b:Nat):((a:Int) != (b:Int)) = !(a==b):=congrArg not (eqc a b)
theorem nez (a:Nat):((a:Int) != 0) = !(a==0):=nec a 0
theorem ltc (a b:Nat):decide ((a:Int)<(b:Int))=decide (a<b):=by simp_all
theorem lec (a b:Nat):decide ((a:Int)<=(b:Int))=decide (a<=b):=by simp_all
theorem O6 (b:Bool)(h:Hp):PCall (En G) 344 [.bool b] h (.n (tr b:Nat)):=by
 refine acT Tryz.func344 2 ?_;cases b
 all_goals
  refine AB ?_;exact⟨rfl,trivial⟩
theorem ACU (op:Int)(a:Nat)(c:a<65536)(h:Hp):PCall (En G) 318 [.n op,.n (a:Nat)] h (.n (sgW op a:Nat)):=by
 refine acT Tryz.func318 4 ?_;have b:op=4\/op=5\/op=6\/(op≠4/\op≠5/\op≠6):=U;rcases b with rfl|rfl|rfl|⟨d,e,f⟩
 .refine UK eqz ?_
  refine(O6 G _ h).uu ?_;exact⟨rfl,trivial⟩
 .refine P6 ?_
  refine(A4F G a c h).uu ?_;exact⟨rfl,trivial⟩
 .refine P6 ?_
  refine(A3R G a c h).uu ?_;exact⟨rfl,trivial⟩
 .refine DC (beq_eq_false_iff_ne.2 d) (beq_eq_false_iff_ne.2 e) (beq_eq_false_iff_ne.2 f) ?_
  refine(ANV G a c h).uu ?_;exact⟨by unfold sgW;rw[if_neg d,if_neg e,if_neg f],trivial⟩
theorem AFG (op:Int)(a b:Nat)(d:a<65536)(i:b<65536)(h:Hp):PCall (En G) 319 [.n op,.n (a:Nat),.n (b:Nat)] h (.n (dbW op a b:Nat)):=by
 refine acT Tryz.func319 6 ?_;have g:op=7\/op=8\/op=9\/op=10\/op=11\/op=12\/op=13\/op=14\/op=15\/op=16\/op=17\/op=18\/op=19\/op=20\/(op<7\/20<op):=U;rcases g with rfl|rfl|rfl|rfl|rfl|rfl|rfl|rfl|rfl|rfl|rfl|rfl|rfl|rfl|l
 .refine P6 ?_
  refine(A0N G a b d i h).uu ?_;exact⟨rfl,trivial⟩
 .refine P6 ?_
  refine(A27 G a b d i h).uu ?_;exact⟨rfl,trivial⟩
 .refine P6 ?_
  refine(A3U G a b d i h).uu ?_;exact⟨rfl,trivial⟩
 .refine UK (A5Z a b d i) ?_
  exact⟨rfl,trivial⟩
 .refine UK (A7L a b d i) ?_
  exact⟨rfl,trivial⟩
 .refine UK (A2X a b d i) ?_
  exact⟨rfl,trivial⟩
 .refine P6 ?_
  refine(shl_w G a (b:Nat) d h).uu ?_;exact⟨rfl,trivial⟩
 .refine P6 ?_
  refine(A3F G a (b:Nat) d h).uu ?_;exact⟨rfl,trivial⟩
 .refine OH eqc nec ltc lec ?_
  refine(O6 G _ h).uu ?_;exact⟨rfl,trivial⟩
 .refine OH eqc nec ltc lec ?_
  refine(O6 G _ h).uu ?_;exact⟨rfl,trivial⟩
 .refine OH eqc nec ltc lec ?_
  refine(O6 G _ h).uu ?_;exact⟨rfl,trivial⟩
 .refine OH eqc nec ltc lec ?_
  refine(O6 G _ h).uu ?_;exact⟨rfl,trivial⟩
 .refine LD eqz nez ?_
  cases e:(a==0)<;>cases f:(b==0)
  all_goals
   refine DC e f nez ?_;refine(O6 G _ h).uu ?_;exact⟨by unfold dbW;rw[e,f];rfl,trivial⟩
 .refine LD eqz nez ?_
  cases e:(a==0)<;>cases f:(b==0)
  all_goals
   refine DC e f nez ?_;refine(O6 G _ h).uu ?_;exact⟨by unfold dbW;rw[e,f];rfl,trivial⟩
 .have c:∀k:Int,7<=k->k<=20->(op==k)=false:=fun k _ _=>beq_eq_false_iff_ne.2 U
  have j:dbW op a b=tr ((a==0) || !(b==0)):=by
   unfold dbW;rw[if_neg (U:¬op=7),if_neg (U:¬op=8),if_neg (U:¬op=9),if_neg (U:¬op=10),if_neg (U:¬op=11),if_neg (U:¬op=12),if_neg (U:¬op=13),if_neg (U:¬op=14),if_neg (U:¬op=15),if_neg (U:¬op=16),if_neg (U:¬op=17),if_neg (U:¬op=18),if_neg (U:¬op=19),if_neg (U:¬op=20)]
  rw[j];simp only[vQ,EP,CQ,↓reduceIte,jC,enX,enP,c 7 DU DU,c 8 DU DU,c 9 DU DU,c 10 DU DU,c 11 DU DU,c 12 DU DU,c 13 DU DU,c 14 DU DU,c 15 DU DU,c 16 DU DU,c 17 DU DU,c 18 DU DU,c 19 DU DU,c 20 DU DU,eqz,nez];cases e:(a==0)<;>cases f:(b==0)
  all_goals
   refine DC e f nez ?_;refine(O6 G _ h).uu ?_;exact⟨AC,trivial⟩
theorem QT (b:Bool)(h:Hp):PCall (En G) 372 [.bool b] h (.n (tr b:Nat)):=by
 refine acT Tryz.func372 2 ?_;cases b
 all_goals
  refine AB ?_;exact⟨rfl,trivial⟩
theorem AG8 (op:Int)(a:Nat)(c:a<65536)(h:Hp):PCall (En G) 338 [.n op,.n (a:Nat)] h (.n (sgW op a:Nat)):=by
 refine acT Tryz.func338 4 ?_;have b:op=4\/op=5\/op=6\/(op≠4/\op≠5/\op≠6):=U;rcases b with rfl|rfl|rfl|⟨d,e,f⟩
 .refine UK eqz ?_
  refine(QT G _ h).uu ?_;exact⟨rfl,trivial⟩
 .refine P6 ?_
  refine(A4G G a c h).uu ?_;exact⟨rfl,trivial⟩
 .refine P6 ?_
  refine(A3S G a c h).uu ?_;exact⟨rfl,trivial⟩
 .refine DC (beq_eq_false_iff_ne.2 d) (beq_eq_false_iff_ne.2 e) (beq_eq_false_iff_ne.2 f) ?_
  refine(A1H G a c h).uu ?_;exact⟨by unfold sgW;rw[if_neg d,if_neg e,if_neg f],trivial⟩
theorem AIR (op:Int)(a b:Nat)(d:a<65536)(i:b<65536)(h:Hp):PCall (En G) 339 [.n op,.n (a:Nat),.n (b:Nat)] h (.n (dbW op a b:Nat)):=by
 refine acT Tryz.func339 6 ?_;have g:op=7\/op=8\/op=9\/op=10\/op=11\/op=12\/op=13\/op=14\/op=15\/op=16\/op=17\/op=18\/op=19\/op=20\/(op<7\/20<op):=U;rcases g with rfl|rfl|rfl|rfl|rfl|rfl|rfl|rfl|rfl|rfl|rfl|rfl|rfl|rfl|l
 .refine P6 ?_
  refine(A0O G a b d i h).uu ?_;exact⟨rfl,trivial⟩
 .refine P6 ?_
  refine(A28 G a b d i h).uu ?_;exact⟨rfl,trivial⟩
 .refine P6 ?_
  refine(A3V G a b d i h).uu ?_;exact⟨rfl,trivial⟩
 .refine P6 ?_
  refine(A50 G a b d i h).uu ?_;exact⟨rfl,trivial⟩
 .refine P6 ?_
  refine(A7M G a b d i h).uu ?_;exact⟨rfl,trivial⟩
 .refine P6 ?_
  refine(A2Y G a b d i h).uu ?_;exact⟨rfl,trivial⟩
 .refine P6 ?_
  refine(A3G G a (b:Nat) d h).uu ?_;exact⟨rfl,trivial⟩
 .refine P6 ?_
  refine(AZP G a (b:Nat) d h).uu ?_;exact⟨rfl,trivial⟩
 .refine OH eqc nec ltc lec ?_
  refine(QT G _ h).uu ?_;exact⟨rfl,trivial⟩
 .refine OH eqc nec ltc lec ?_
  refine(QT G _ h).uu ?_;exact⟨rfl,trivial⟩
 .refine OH eqc nec ltc lec ?_
  refine(QT G _ h).uu ?_;exact⟨rfl,trivial⟩
 .refine OH eqc nec ltc lec ?_
  refine(QT G _ h).uu ?_;exact⟨rfl,trivial⟩
 .refine LD eqz nez ?_
  cases e:(a==0)<;>cases f:(b==0)
  all_goals
   refine DC e f nez ?_;refine(QT G _ h).uu ?_;exact⟨by unfold dbW;rw[e,f];rfl,trivial⟩
 .refine LD eqz nez ?_
  cases e:(a==0)<;>cases f:(b==0)
  all_goals
   refine DC e f nez ?_;refine(QT G _ h).uu ?_;exact⟨by unfold dbW;rw[e,f];rfl,trivial⟩
 .have c:∀k:Int,7<=k->k<=20->(op==k)=false:=fun k _ _=>beq_eq_false_iff_ne.2 U
  have j:dbW op a b=tr ((a==0) || !(b==0)):=by
   unfold dbW;rw[if_neg (U:¬op=7),if_neg (U:¬op=8),if_neg (U:¬op=9),if_neg (U:¬op=10),if_neg (U:¬op=11),if_neg (U:¬op=12),if_neg (U:¬op=13),if_neg (U:¬op=14),if_neg (U:¬op=15),if_neg (U:¬op=16),if_neg (U:¬op=17),if_neg (U:¬op=18),if_neg (U:¬op=19),if_neg (U:¬op=20)]
  rw[j];simp only[vQ,EP,CQ,↓reduceIte,jC,enX,enP,c 7 DU DU,c 8 DU DU,c 9 DU DU,c 10 DU DU,c 11 DU DU,c 12 DU DU,c 13 DU DU,c 14 DU DU,c 15 DU DU,c 16 DU DU,c 17 DU DU,c 18 DU DU,c 19 DU DU,c 20 DU DU,eqz,nez];cases e:(a==0)<;>cases f:(b==0)
  all_goals
   refine DC e f nez ?_;refine(QT G _ h).uu ?_;exact⟨AC,trivial⟩
abbrev Sg:=ByteArray×Int
def FV (s:Sg):List AV:=[.str s.1,.n s.2]
theorem AOU (s:Sg):(FV s).length=2:=rfl
def AJR (s:Sg):Prop := -9223372036854775808<=s.2/\s.2<=9223372036854775807
def MQ:List Sg->ByteArray->Nat×Bool
 | [],_=>(0,false)
 | s::l,n=>if(s.1.toList==n.toList)=true then (wW s.2,true) else MQ l n
theorem pM:∀(l:List Sg) (n:ByteArray),(MQ l n).1<65536
 | [],_=>by simp [MQ]
 | s::l,n=>by unfold MQ;split;exact AJ4 _;exact pM l n
theorem pL (l:List Sg)(n:ByteArray)(k:Nat)(hk:k<l.length):MQ (l.drop k) n=if(l[k].1.toList==n.toList)=true then (wW l[k].2,true) else MQ (l.drop (k+1)) n:=by
 rw[zX hk];rfl
def VQ (p:Nat×Bool):AV:=.tup [.n (p.1:Nat),.bool p.2]
theorem ADP (p:Nat×Bool)(n:Nat)(H:Hp):FH n H 2 (VQ p)=VQ p:=rfl
theorem A56 (h:Hp):IG jA h 209=some (.ptr h.length 0 0,h++[qG 2 [[.str ⟨#[]⟩,.n 0]]]):=F9 (row:=[.str ⟨#[]⟩,.n 0]) BC
theorem A3D (h:Hp)(s:Sg):D8 jA (h++[qG 2 [[.str ⟨#[]⟩,.n 0]]]) 209 (.ptr h.length 0 0) (.agg (FV s))=some (h++[qG 2 [FV s]]):=by
 rw[JU (cs:=FV s) (row:=[.str ⟨#[]⟩,.n 0]) rfl AQE (AZ _ _) (by exact jF 2),KI];rfl
theorem AF3 (h:Hp)(u:AV)(a:u.leaf=true):OU h (.agg [u])=some (.ptr h.length 0 0,h++[qG 1 [[u]]]):=bE (by simp only[List.all_cons,a,List.all_nil];rfl)
theorem bX {h:Hp}{b:Nat}{u:AV}(a:h[b]?=some (qG 1 [[u]])):BO jA h 277 (.ptr b 0 0)=some (.agg [u]):=by
 rw[EN A6B AZM a rfl (by exact jF 1)];rfl
theorem PN {P:Program}{t:TypeId}{a b:ByteArray}(h:a.size+b.size<=9223372036854775807):IQ P t .add (.str a) (.str b)=some (.str (a++b)):=by
 show AUY .add a b=_;unfold AUY
 have:((a.size+b.size:Nat):Int)<=IntKind.i64.max:=by
  show _<=(9223372036854775807:Int);omega
 simp only[if_pos this]
section
variable (G:Nat->AV)
theorem iH (l:List Sg)(m:SM)(n:ByteArray)(h:Hp)(A:l.length<=1099511627776):PCall (En G) 280 [.agg [.sl m 2 (l.map FV)],.str n] h (VQ (MQ l n)):=by
 refine SE 2 (ADP _) ?_;refine acL Tryz.func280 [.tmp 4,.tmp 5] ?_;refine EG AZV @AXQ (AF3 h (.sl m 2 (l.map FV)) rfl) (IL A6G (AZ h (qG 1 [[.sl m 2 (l.map FV)]]))) ?_;refine BB (fun k F H=>∃j,k+j=l.length/\F 1=.str n/\F 9=.sl m 2 (l.map FV)/\F 10=.n (l.length:Nat)/\F 11=.n (j:Nat)/\ext h H/\MQ l n=MQ (l.drop j) n) l.length ⟨0,BA,AO,AO,AO,AO,(ext.rfl' h).app _,rfl⟩ ?_;rintro k F H ⟨j,q,e,f,f10,f11,c,b⟩;refine A7 f10 f11 ?_;refine DX ?_ ?_<;>intro a
 .have g:=AZ H (qG 2 [FV l[j]])
  have i:BO jA (H++[qG 2 [FV l[j]]]) 9 (.ptr H.length 0 0)=some (.str l[j].1):=by rw[BK ag9 g (row:=FV l[j]) rfl];rfl
  have p:BO jA (H++[qG 2 [FV l[j]]]) 3 (.ptr H.length 0 1)=some (.n l[j].2):=by rw[BK ag3 g (row:=FV l[j]) rfl];rfl
  rw[pL l n j a] at b;simp only[vQ,CQ,QF,↓reduceIte,jC,Nat.add_zero,enP,ALC,ALX,Option.getD_none,e,f,f11,CP a,DL A6E AQE AOU a,A56,A3D,i];refine BH ?_ ?_<;>intro d
  .refine A7 @AA1 p ?_
   refine(AMR G _ _).uu ?_;exact⟨by rw[b,if_pos d];rfl,c.app _⟩
  .refine A7 f11 (C9 j) ?_
   exact⟨k-1,U,j+1,U,AC,AC,AC,rfl,c.app _,by rw[b,if_neg (by rw[d];decide)]⟩
 .refine AB ?_
  exact⟨by rw[b,jY U];rfl,c⟩
theorem pK (l:List Sg)(m:SM)(n:ByteArray)(h:Hp)(A:l.length<=1099511627776)(e:∀s∈l,AJR s):PCall (En G) 334 [.sl m 2 (l.map FV),.str n] h (VQ (MQ l n)):=by
 refine acL Tryz.func334 [.tmp 4,.tmp 5] ?_;refine AB ?_;refine BB (fun k F H=>∃j,k+j=l.length/\F 0=.sl m 2 (l.map FV)/\F 1=.str n/\F 6=.n (j:Nat)/\H=h/\MQ l n=MQ (l.drop j) n) l.length ⟨0,BA,AO,AO,AO,rfl,rfl⟩ ?_;rintro k F H ⟨j,q,d,g,b,rfl,c⟩;refine DC AZV d b ?_;refine DX ?_ ?_<;>intro a
 .rw[pL l n j a] at c
  have i:BO jA H 9 (.fptr 2 (l.map FV) j 0)=some (.str l[j].1):=by rw[BR ag9 a];rfl
  have p:BO jA H 3 (.fptr 2 (l.map FV) j 1)=some (.n l[j].2):=by rw[BR ag3 a];rfl
  refine KZ ALC @ALX d g b a i ?_;refine BH ?_ ?_<;>intro f
  .refine V8 ALC @AA1 d b a p ?_
   refine(U1 G _ _ (e _ (jH a))).uu ?_;exact⟨by rw[c,if_pos f];rfl,trivial⟩
  .refine A7 b (C9 j) ?_
   exact⟨k-1,U,j+1,U,AC,AC,rfl,trivial,by rw[c,if_neg (by rw[f];decide)]⟩
 .refine AB ?_
  exact⟨by rw[c,jY U];rfl,trivial⟩
def elN (a:ByteArray)(i:Nat):ByteArray:=a++(⟨#[91]⟩:ByteArray)++(⟨#[UInt8.ofNat (48+i)]⟩:ByteArray)++(⟨#[93]⟩:ByteArray)
def atG (l:List Sg)(a:ByteArray)(i:Int):Nat×Bool:=if i<0\/i≥8 then (0,false) else MQ l (elN a i.toNat)
theorem AJB (l:List Sg)(a:ByteArray)(i:Int):(atG l a i).1<65536:=by unfold atG;split;decide;exact pM _ _
theorem AFH:∀i:Nat,i<8->YP jA 334 9 (.sl .full 1 [[.int .u8 (IntKind.u8.wrap (IntKind.i64.wrap (48+(i:Int))))]])=some (.str ⟨#[UInt8.ofNat (48+i)]⟩)
 | 0,_=>BC
 | 1,_=>BC
 | 2,_=>BC
 | 3,_=>BC
 | 4,_=>BC
 | 5,_=>BC
 | 6,_=>BC
 | 7,_=>BC
 | n+8,h=>absurd h U
theorem AT6 (h:Hp)(v:Int):DJ jA false h 334 1 [(0,.int .u8 v)]=some (.sl .full 1 [[.int .u8 v]],h):=BC
theorem UT (a b:ByteArray):(a++b).size=a.size+b.size:=ByteArray.size_append
theorem ABP (l:List Sg)(m:SM)(a:ByteArray)(i:Int)(h:Hp)(q:l.length<=1099511627776)(A:a.size<=1048576):PCall (En G) 281 [.agg [.sl m 2 (l.map FV)],.str a,.n i] h (VQ (atG l a i)):=by
 refine SE 2 (ADP _) ?_;refine acL Tryz.func281 [.tmp 6,.tmp 7] ?_;have e:=Sm.ext.r1 h (qG 1 [[.sl m 2 (l.map FV)]]);refine AY (AF3 h (.sl m 2 (l.map FV)) rfl) ?_;cases f:decide (i<0)
 .cases d:decide (i≥8)
  .have b:¬i<0:=BL f
   have c:¬i≥8:=BL d;obtain⟨k,rfl⟩:=wI (U:0<=i);have hk:k<8:=U;have g:IQ jA 9 .add (.str a) (.str ⟨#[91]⟩)=_:=PN (by show a.size+1<=_;omega);have j:IQ jA 9 .add (.str (a++(⟨#[91]⟩:ByteArray))) (.str ⟨#[UInt8.ofNat (48+k)]⟩)=_:=PN (by rw[UT];show a.size+1+1<=_;omega);have p:IQ jA 9 .add (.str (a++(⟨#[91]⟩:ByteArray)++(⟨#[UInt8.ofNat (48+k)]⟩:ByteArray))) (.str ⟨#[93]⟩)=_:=PN (by rw[UT,UT];show a.size+1+1+1<=_;omega);refine OZ @ATO d (bX (AZ h (qG 1 [[.sl m 2 (l.map FV)]]))) g AT6 (AFH k hk) j p ?_;refine(iH G l m _ _ q).use ?_;unfold VQ;refine AB ?_;exact⟨by unfold atG;rw[if_neg U];rfl,e⟩
  .refine AY d ?_
   have c:i≥8:=BL d;exact⟨by unfold atG;rw[if_pos (.inr c)];rfl,e⟩
 .refine AB ?_
  have b:i<0:=BL f;exact⟨by unfold atG;rw[if_pos (.inl b)];rfl,e⟩
theorem ATL:∀(k:Nat),k<8->∀h:Hp,IP jA h 9 (.str ⟨#[48,49,50,51,52,53,54,55,56,57]⟩) (some (.n (k:Nat))) (some (.n ((k+1:Nat):Int))) none=some (.str ⟨#[UInt8.ofNat (48+k)]⟩)
 | 0,_,h=>BC
 | 1,_,h=>BC
 | 2,_,h=>BC
 | 3,_,h=>BC
 | 4,_,h=>BC
 | 5,_,h=>BC
 | 6,_,h=>BC
 | 7,_,h=>BC
 | n+8,q,_=>absurd q U
theorem digit_ref (k:Nat)(hk:k<8)(h:Hp):PCall (En G) 371 [.n (k:Nat)] h (.str ⟨#[UInt8.ofNat (48+k)]⟩):=by
 refine acT Tryz.func371 2 ?_;refine A7 (C9 k) (ATL k hk) ?_;exact G7
theorem lP (a:ByteArray)(k:Nat)(hk:k<8)(h:Hp)(e:a.size<=1048576):PCall (En G) 335 [.str a,.n (k:Nat)] h (.str (elN a k)):=by
 refine acT Tryz.func335 4 ?_;have b:IQ jA 9 .add (.str a) (.str ⟨#[91]⟩)=_:=PN (by show a.size+1<=_;omega);have c:IQ jA 9 .add (.str (a++(⟨#[91]⟩:ByteArray))) (.str ⟨#[UInt8.ofNat (48+k)]⟩)=_:=PN (by rw[UT];show a.size+1+1<=_;omega);have d:IQ jA 9 .add (.str (a++(⟨#[91]⟩:ByteArray)++(⟨#[UInt8.ofNat (48+k)]⟩:ByteArray))) (.str ⟨#[93]⟩)=_:=PN (by rw[UT,UT];show a.size+1+1+1<=_;omega);refine AY b ?_;refine(digit_ref G k hk h).use ?_;refine A7 c d ?_;exact⟨rfl,trivial⟩
theorem lC (l:List Sg)(m:SM)(a:ByteArray)(i:Int)(h:Hp)(j:l.length<=1099511627776)(e:∀s∈l,AJR s)(g:a.size<=1048576):PCall (En G) 336 [.sl m 2 (l.map FV),.str a,.n i] h (.n ((atG l a i).1:Nat)):=by
 refine acT Tryz.func336 6 ?_;refine AB ?_;cases f:decide (i<0)
 .cases d:decide (i≥8)
  .have b:¬i<0:=BL f
   have c:¬i≥8:=BL d;obtain⟨k,rfl⟩:=wI (U:0<=i);refine AY d ?_;refine(lP G a k U h g).uu ?_;refine(pK G l m _ h j e).use ?_;unfold VQ;refine AB ?_;exact⟨by unfold atG;rw[if_neg U];rfl,trivial⟩
  .refine AY d ?_
   have c:i≥8:=BL d;exact⟨by unfold atG;rw[if_pos (.inr c)];rfl,trivial⟩
 .refine AB ?_
  have b:i<0:=BL f;exact⟨by unfold atG;rw[if_pos (.inl b)];rfl,trivial⟩
def sumTo (l:List Sg)(a:ByteArray):Nat->Nat
 | 0=>0
 | k+1=>(sumTo l a k+(atG l a (k:Nat)).1)%65536
theorem nJ (l:List Sg)(a:ByteArray)(k:Nat):sumTo l a k<65536:=by
 cases k with
 | zero=>show 0<65536;decide
 | succ k=>exact wJ _ U
theorem AQI (l:List Sg)(m:SM)(a:ByteArray)(h:Hp)(B:l.length<=1099511627776)(A:a.size<=1048576):PCall (En G) 282 [.agg [.sl m 2 (l.map FV)],.str a] h (.n (sumTo l a 8:Nat)):=by
 refine ACalls.pure0 rfl ?_;refine acT Tryz.func282 4 ?_;have g:=AZ h (qG 1 [[.sl m 2 (l.map FV)]]);refine AY (AF3 h (.sl m 2 (l.map FV)) rfl) ?_
 generalize q:h++[qG 1 [[.sl m 2 (l.map FV)]]]=H at g|-
 refine BB (fun k F c=>∃j,k+j=8/\F 1=.str a/\F 2=.ptr h.length 0 0/\F 5=.n (sumTo l a j:Nat)/\F 9=.n (j:Nat)/\c=H) 8 ⟨0,BA,AO,AO,AO,AO,rfl⟩ ?_;rintro k F c ⟨j,C,e,f,i,d,rfl⟩;refine AY d ?_;refine BH ?_ ?_<;>intro p
 .have b:j<8:=by simp at p;omega
  refine EG e f d (bX g) ?_;refine(ABP G l m a (j:Nat) c B A).use ?_;unfold VQ;refine AY i ?_;refine(A0N G _ _ (nJ l a j) (AJB l a (j:Nat)) c).use ?_;refine EG e f d (C9 j) ?_;exact⟨k-1,U,j+1,U,AC,AC,AC,AC,trivial⟩
 .have b:j=8:=by simp at p;omega
  subst b;refine AY i ?_;exact⟨trivial,_,q.symm⟩
end
def insW (x:Nat):List Nat->Bool
 | a::b::r=>(decide (a<=x)&&decide (x<=b))||insW x r
 | _=>false
def opW (op:Int)(a:List Nat):Nat :=
 if op=22 then (if a.getD 0 0≠0 then a.getD 1 0 else a.getD 2 0) else if op=23 then tr (insW (a.getD 0 0) (a.drop 1))
 else if a.length=1 then sgW op (a.getD 0 0) else dbW op (a.getD 0 0) (a.getD 1 0)
theorem getD_lt {a:List Nat}(b:∀x∈a,x<65536)(k:Nat):a.getD k 0<65536:=by
 rw[List.getD_eq_getElem?_getD];rcases Nat.lt_or_ge k a.length with h|h
 .simp_all
 .rw[List.getElem?_eq_none h];decide
theorem A1G (op:Int){c:List Nat}(a:∀x∈c,x<65536):opW op c<65536:=by
 unfold opW;have b:=getD_lt a 0;have d:=getD_lt a 1;have e:=getD_lt a 2;split
 .split<;>assumption
 split
 .exact dU _
 split
 .exact A03 b
 .exact A15 b d
theorem vL (x:Nat)(l:List Nat)(k:Nat)(hk:k+1<l.length):insW x (l.drop k)=((decide (l[k]<=x)&&decide (x<=l[k+1]))||insW x (l.drop (k+2))):=by
 rw[zX (U:k<l.length),zX hk];rfl
theorem AEH (x:Nat)(l:List Nat)(k:Nat)(hk:l.length<=k+1):insW x (l.drop k)=false:=by
 have:(l.drop k).length<=1:=by simp;omega
 match hm:l.drop k,this with
 | [],_=>rfl
 | [a],_=>rfl
theorem gec (a b:Nat):decide ((a:Int)≥(b:Int))=decide (b<=a):=lec b a
def AGU (op:Int)(n:Nat):Prop:=(op=22->n=3)/\(op=23->n%2=1/\3<=n)/\(op≠22->op≠23->n=1\/n=2)
theorem ANU (op:Int)(d:List Nat)(o:Nat)(H:Hp)(V:H[o]?=some (qG 1 (d.map O3)))(Y:∀x∈d,x<65536)(hl:d.length<=1048576)(f:AGU op d.length):
  PCall (En G) 283 [.n op,.own o 0 d.length] H (.n (opW op d:Nat)):=by
 have g:∀k:Nat,k<d.length->JD 1 H (.own o 0 d.length) (.n (k:Nat))=some (.ptr o k 0):=fun k hk=>by rw[GN V hk,jG]
 have h:∀(k:Nat) (hk:k<d.length),BO jA H 3 (.ptr o k 0)=some (.n (d[k]:Nat)):=fun k hk=>by rw[BK ag3 V (row:=O3 d[k]) (row_map hk)];rfl
 have T:1<=d.length:=by
  obtain⟨a,b,c⟩:=f;by_cases e:op=22
  .have:=a e;omega
  by_cases e':op=23
  .have:=b e';omega
  .have:=c e e';omega
 have I:JD 1 H (.own o 0 d.length) (.n 0)=some (.ptr o 0 0):=g 0 T;have C:=h 0 T;have g0:d.getD 0 0=d[0]:=by grind
 have v0:d[0]<65536:=Y _ (jH _);refine acT Tryz.func283 4 ?_;by_cases e22:op=22
 .subst e22
  have a1:d.length=3:=f.1 rfl;have Q:JD 1 H (.own o 0 d.length) (.n 1)=some (.ptr o 1 0):=g 1 U;have i2:JD 1 H (.own o 0 d.length) (.n 2)=some (.ptr o 2 0):=g 2 U;have N:=h 1 U;have d2:=h 2 U;have P:d.getD 1 0=d[1]:=by simp_all
  have g2:d.getD 2 0=d[2]:=by simp_all
  refine OH I C eqz nez ?_;cases Z:(d[0]==0)
  .refine A7 Q N ?_
   have:d[0]≠0:=BL Z;exact⟨by unfold opW;rw[if_pos rfl,g0,if_pos this,P],trivial⟩
  .refine A7 i2 d2 ?_
   have:¬d[0]≠0:=BL Z;exact⟨by unfold opW;rw[if_pos rfl,g0,if_neg this,g2],trivial⟩
 by_cases e23:op=23
 .subst e23
  obtain⟨X,h3⟩:=f.2.1 rfl;refine P6 ?_;have p:opW 23 d=tr (insW d[0] (d.drop 1)):=by unfold opW;rw[if_neg DU,if_pos rfl,g0]
  rw[p];refine BB (fun n F R=>∃j,n+j=d.length/\j%2=1/\F 1=.own o 0 d.length/\F 5=.n (j:Nat)/\R=H/\insW d[0] (d.drop 1)=insW d[0] (d.drop j)) (d.length-1) ⟨1,U,rfl,AO,AO,rfl,rfl⟩ ?_;rintro n F R ⟨j,hj,a0,L,J,rfl,l⟩;refine DC L J (C9 j) ?_;refine BH ?_ ?_<;>intro K
  .have i:j+1<d.length:=by simp at K;omega
   have ij:=g j U;have B:=g (j+1) i;have dj:=h j U;have q:=h (j+1) i;rw[vL _ _ _ i] at l;have S:IntKind.i64.wrap (((j:Nat):Int)+2)=((j+2:Nat):Int):=by rw[wrap_i64 U U];omega
   have O:IntKind.i64.wrap (((j:Nat):Int)+1)=((j+1:Nat):Int):=wrap_succ (U:j<9223372036854775807);refine AB ?_;refine DR BC ?_;refine WP L J I C ij dj O B q lec gec ?_;cases E:decide (d[j]<=d[0])
   .refine DC E J S ?_
    exact⟨n-2,U,j+2,U,U,AC,AC,trivial,by rw[l,E];rfl⟩
   .cases M:decide (d[0]<=d[j+1])
    .refine WP E M L J O B q lec I C S ?_
     exact⟨n-2,U,j+2,U,U,AC,AC,trivial,by rw[l,E,M];rfl⟩
    .refine aA E M L J O B q lec I C ?_
     exact⟨by rw[l,E,M];rfl,trivial⟩
  .have i:d.length<=j+1:=by simp at K;omega
   refine AB ?_;exact⟨by rw[l,AEH _ _ _ i];rfl,trivial⟩
 .have a2:=f.2.2 e22 e23
  have c1:(op==22)=false:=beq_eq_false_iff_ne.2 e22;have c2:(op==23)=false:=beq_eq_false_iff_ne.2 e23;have p:opW op d=if d.length=1 then sgW op (d.getD 0 0) else dbW op (d.getD 0 0) (d.getD 1 0):=by unfold opW;rw[if_neg e22,if_neg e23]
  rw[p];refine A7 c1 c2 ?_;refine BH ?_ ?_<;>intro K
  .have A:d.length=1:=by simp at K;omega
   refine A7 I C ?_;refine(ACU G op _ v0 H).uu ?_;exact⟨by rw[if_pos A,g0],trivial⟩
  .have A:d.length≠1:=by simp at K;omega
   have Q:JD 1 H (.own o 0 d.length) (.n 1)=some (.ptr o 1 0):=g 1 U;have N:=h 1 U;have P:d.getD 1 0=d[1]:=by simp_all
   have v1:d[1]<65536:=Y _ (jH _);refine AB ?_;refine DR BC ?_;refine EG I C Q N ?_;refine⟨_,AFG G op _ _ v0 v1 H,?_⟩;exact⟨by rw[if_neg A,g0,P],trivial⟩
theorem ARD (op:Int)(d:List Nat)(o:Nat)(H:Hp)(V:H[o]?=some (qG 1 (d.map O3)))(Y:∀x∈d,x<65536)(hl:d.length<=1048576)(f:AGU op d.length):
  PCall (En G) 314 [.n op,.own o 0 d.length] H (.n (opW op d:Nat)):=by
 have g:∀k:Nat,k<d.length->JD 1 H (.own o 0 d.length) (.n (k:Nat))=some (.ptr o k 0):=fun k hk=>by rw[GN V hk,jG]
 have h:∀(k:Nat) (hk:k<d.length),BO jA H 3 (.ptr o k 0)=some (.n (d[k]:Nat)):=fun k hk=>by rw[BK ag3 V (row:=O3 d[k]) (row_map hk)];rfl
 have T:1<=d.length:=by
  obtain⟨a,b,c⟩:=f;by_cases e:op=22
  .have:=a e;omega
  by_cases e':op=23
  .have:=b e';omega
  .have:=c e e';omega
 have I:JD 1 H (.own o 0 d.length) (.n 0)=some (.ptr o 0 0):=g 0 T;have C:=h 0 T;have g0:d.getD 0 0=d[0]:=by grind
 have v0:d[0]<65536:=Y _ (jH _);refine acT Tryz.func314 4 ?_;by_cases e22:op=22
 .subst e22
  have a1:d.length=3:=f.1 rfl;have Q:JD 1 H (.own o 0 d.length) (.n 1)=some (.ptr o 1 0):=g 1 U;have i2:JD 1 H (.own o 0 d.length) (.n 2)=some (.ptr o 2 0):=g 2 U;have N:=h 1 U;have d2:=h 2 U;have P:d.getD 1 0=d[1]:=by simp_all
  have g2:d.getD 2 0=d[2]:=by simp_all
  refine OH I C eqz nez ?_;cases Z:(d[0]==0)
  .refine A7 Q N ?_
   have:d[0]≠0:=BL Z;exact⟨by unfold opW;rw[if_pos rfl,g0,if_pos this,P],trivial⟩
  .refine A7 i2 d2 ?_
   have:¬d[0]≠0:=BL Z;exact⟨by unfold opW;rw[if_pos rfl,g0,if_neg this,g2],trivial⟩
 by_cases e23:op=23
 .subst e23
  obtain⟨X,h3⟩:=f.2.1 rfl;refine P6 ?_;have p:opW 23 d=tr (insW d[0] (d.drop 1)):=by unfold opW;rw[if_neg DU,if_pos rfl,g0]
  rw[p];refine BB (fun n F R=>∃j,n+j=d.length/\j%2=1/\F 1=.own o 0 d.length/\F 5=.n (j:Nat)/\R=H/\insW d[0] (d.drop 1)=insW d[0] (d.drop j)) (d.length-1) ⟨1,U,rfl,AO,AO,rfl,rfl⟩ ?_;rintro n F R ⟨j,hj,a0,L,J,rfl,l⟩;refine DC L J (C9 j) ?_;refine BH ?_ ?_<;>intro K
  .have i:j+1<d.length:=by simp at K;omega
   have ij:=g j U;have B:=g (j+1) i;have dj:=h j U;have q:=h (j+1) i;rw[vL _ _ _ i] at l;have S:IntKind.i64.wrap (((j:Nat):Int)+2)=((j+2:Nat):Int):=by rw[wrap_i64 U U];omega
   have O:IntKind.i64.wrap (((j:Nat):Int)+1)=((j+1:Nat):Int):=wrap_succ (U:j<9223372036854775807);refine AB ?_;refine DR BC ?_;refine WP L J I C ij dj O B q lec gec ?_;cases E:decide (d[j]<=d[0])
   .refine DC E J S ?_
    exact⟨n-2,U,j+2,U,U,AC,AC,trivial,by rw[l,E];rfl⟩
   .cases M:decide (d[0]<=d[j+1])
    .refine WP E M L J O B q lec I C S ?_
     exact⟨n-2,U,j+2,U,U,AC,AC,trivial,by rw[l,E,M];rfl⟩
    .refine aA E M L J O B q lec I C ?_
     exact⟨by rw[l,E,M];rfl,trivial⟩
  .have i:d.length<=j+1:=by simp at K;omega
   refine AB ?_;exact⟨by rw[l,AEH _ _ _ i];rfl,trivial⟩
 .have a2:=f.2.2 e22 e23
  have c1:(op==22)=false:=beq_eq_false_iff_ne.2 e22;have c2:(op==23)=false:=beq_eq_false_iff_ne.2 e23;have p:opW op d=if d.length=1 then sgW op (d.getD 0 0) else dbW op (d.getD 0 0) (d.getD 1 0):=by unfold opW;rw[if_neg e22,if_neg e23]
  rw[p];refine A7 c1 c2 ?_;refine BH ?_ ?_<;>intro K
  .have A:d.length=1:=by simp at K;omega
   refine A7 I C ?_;refine(AG8 G op _ v0 H).uu ?_;exact⟨by rw[if_pos A,g0],trivial⟩
  .have A:d.length≠1:=by simp at K;omega
   have Q:JD 1 H (.own o 0 d.length) (.n 1)=some (.ptr o 1 0):=g 1 U;have N:=h 1 U;have P:d.getD 1 0=d[1]:=by simp_all
   have v1:d[1]<65536:=Y _ (jH _);refine AB ?_;refine DR BC ?_;refine EG I C Q N ?_;refine⟨_,AIR G op _ _ v0 v1 H,?_⟩;exact⟨by rw[if_neg A,g0,P],trivial⟩
end Go.Proofs.YtiihpnicbekebaaGreatDoor.Xe
namespace Go.Proofs.YtiihpnicbekebaaGreatDoor.Rk
open Sm Bins Cov Go.RowKit
theorem ACalls.args {E:Env}{f:FuncId}{b c:List AV}{h:Hp}{R:AV->Hp->Prop}(d:ACalls E f c h R)(e:∀g a,dL g b a->dL g c a):ACalls E f b h R :=
 ⟨d.1,fun g w a S i=>d.2 g w a S (e g a i)⟩
def hasB (xs:List Int)(z:Int):Bool:=xs.any fun x=>x==z
theorem AH9 (G:Nat->AV)(xs:List Int)(s:SM)(z:Int)(h:Hp)(M:xs.length<=1048576):∃k:Int,PCall (En G) 322 [.sl s 1 (xs.map qencI),.n z] h (.n k)/\decide (k≥0)=hasB xs z:=by
 by_cases hb:hasB xs z=true
 .obtain⟨i,J⟩:∃i,xs.findIdx? (fun x=>x==z)=some i:=by
   cases B:xs.findIdx? (fun x=>x==z) with
   | some i=>exact⟨i,rfl⟩
   | none =>
     rw[List.findIdx?_eq_none_iff] at B;unfold hasB at hb;rw[List.any_eq_true] at hb;obtain⟨x,L,C⟩:=hb;rw[B x L] at C;cases C
  refine⟨(i:Int),?_,by rw[hb];simp⟩;obtain⟨K,p,f⟩:=List.findIdx?_eq_some_iff_getElem.1 J;refine acT Tryz.func322 4 ?_;refine AB ?_;refine BB (fun n F H=>∃k,n+k=xs.length/\k<=i/\F 0=.sl s 1 (xs.map qencI)/\F 1=.n z/\F 7=.n (xs.length:Nat)/\F 8=.n (k:Nat)/\H=h) xs.length ⟨0,BA,U,AO,AO,AO,AO,rfl⟩ ?_;rintro n F H ⟨k,hk,q,j,l,g,d,rfl⟩;have a:k<xs.length:=U;have I:decide (((k:Nat):Int)<((xs.length:Nat):Int))=true:=by simp;omega
  simp only[vQ,CQ,↓reduceIte,Nat.reduceEqDiff,Option.getD_some,bNf,enP,LJ,g,d,I,j,l,CP a,BR ag3 a,Cov.encI0];rcases Nat.eq_or_lt_of_le q with e|A
  .subst e
   have b:(z==xs[k])=true:=by rw[BEq.comm];exact p
   refine A7 b d ?_;exact G7
  .have b:(z==xs[k])=false:=by
    have:=f k A;rw[BEq.comm];simpa using this
   refine DC b d (C9 k) ?_;exact⟨n-1,U,k+1,U,U,AC,AC,AC,rfl,trivial⟩
 .have c:hasB xs z=false:=BL hb
  refine⟨-1,?_,by rw[c];decide⟩;refine acT Tryz.func322 4 ?_;refine AB ?_;refine BB (fun n F H=>∃k,n+k=xs.length/\F 0=.sl s 1 (xs.map qencI)/\F 1=.n z/\F 7=.n (xs.length:Nat)/\F 8=.n (k:Nat)/\H=h) xs.length ⟨0,BA,AO,AO,AO,AO,rfl⟩ ?_;rintro n F H ⟨k,hk,j,l,g,d,rfl⟩;refine A7 g d ?_;refine BH ?_ ?_<;>intro E
  .have a:k<xs.length:=BL E
   have b:(z==xs[k])=false:=by
    rw[<-Bool.not_eq_true];intro e;unfold hasB at c;rw[List.any_eq_false] at c;exact c xs[k] (List.getElem_mem a) (by rw[BEq.comm];exact e)
   refine KZ j l d a @Cov.encI0 b (C9 k) ?_;exact⟨n-1,U,k+1,U,AC,AC,g,rfl,trivial⟩
  .refine AB ?_
   exact G7
theorem contains_rank (G:Nat->AV)(xs:List Int)(s:SM)(z:Int)(h:Hp)(b:xs.length<=1048576):PCall (En G) 286 [.sl s 1 (xs.map qencI),.n z] h (.bool (hasB xs z)):=by
 obtain⟨k,hk,a⟩:=AH9 G xs s z h b;refine acT Tryz.func286 4 ?_;refine AB ?_;refine hk.use ?_;refine AY a ?_;exact G7
end Go.Proofs.YtiihpnicbekebaaGreatDoor.Rk
namespace Go.Proofs.YtiihpnicbekebaaGreatDoor.Xe
open Sm Bins Cov Go.RowKit
variable {h h0:Hp} {ns:List ByteArray} {c:Nat} {v:AV} (G:Nat->AV )
theorem A1V:Frz qencStr:=fun _ _ _ _=>⟨rfl,rfl⟩
theorem encStr0 (s:ByteArray):(qencStr s)[0]?=some (.str s):=rfl
theorem AOH (xs:List ByteArray)(b:Nat)(v:ByteArray)(h:Hp)(B:h[b]?=some (qG 1 (xs.map qencStr)))(T:xs.length<=1099511627776):
  ∃k:Int,PCall (En G) 279 [.own b 0 xs.length,.str v] h (.n k)/\decide (k≥0)=I8 xs v:=by
 have key:∀r:Int,(∀i (E:i<xs.length),(∀j (l:j<i),(v.toList==xs[j].toList)=false)->(v.toList==xs[i].toList)=true->r=(i:Int))->(I8 xs v=false->r = -1)->PCall (En G) 279 [.own b 0 xs.length,.str v] h (.n r):=by
  intro r Q A;refine acT Tryz.func279 4 ?_;refine AB ?_;refine BB (fun n F H=>∃k,n+k=xs.length/\F 0=.own b 0 xs.length/\F 1=.str v/\F 7=.n (xs.length:Nat)/\F 8=.n (k:Nat)/\H=h/\(∀j (l:j<xs.length),j<k->(v.toList==xs[j].toList)=false)/\I8 xs v=I8 (xs.drop k) v) xs.length ⟨0,BA,AO,AO,AO,AO,rfl,fun j _ l=>U,rfl⟩ ?_;rintro n F H ⟨k,hk,J,K,L,q,rfl,a,p⟩;refine A7 L q ?_;refine DX ?_ ?_<;>intro e
  .have R:I8 (xs.drop k) v=((v.toList==xs[k].toList)||I8 (xs.drop (k+1)) v):=NG _ xs k e
   have S:BO jA H 9 (.ptr b k 0)=some (.str xs[k]):=by rw[BK ag9 B (row:=qencStr xs[k]) (row_map e)];rfl
   simp only[vQ,CQ,QF,↓reduceIte,jC,Nat.zero_add,enP,bY,J,K,q,GN B e,S];refine BH ?_ ?_<;>intro f
   .refine AB ?_
    exact⟨by rw[Q k e (fun j l=>a j U l) f],trivial⟩
   .refine A7 q (C9 k) ?_
    refine⟨n-1,U,k+1,U,AC,AC,AC,rfl,trivial,fun j l P=>?_,by rw[p,R,f,Bool.false_or]⟩;rcases Nat.lt_or_ge j k with g|g
    .exact a j l g
    .grind
  .refine AB ?_
   refine⟨?_,trivial⟩;rw[A (by rw[p,List.drop_eq_nil_of_le U];rfl)]
 by_cases hh:I8 xs v=true
 .obtain⟨i,E⟩:∃i,xs.findIdx? (fun u=>v.toList==u.toList)=some i:=by
   cases C:xs.findIdx? (fun u=>v.toList==u.toList) with
   | some i=>exact⟨i,rfl⟩
   | none =>
     rw[List.findIdx?_eq_none_iff] at C;unfold I8 at hh;rw[List.any_eq_true] at hh;obtain⟨x,f,I⟩:=hh;rw[C x f] at I;cases I
  obtain⟨N,O,a⟩:=List.findIdx?_eq_some_iff_getElem.1 E;refine⟨(i:Int),key i (fun k hk M f=>?_) (fun h0=>by rw[hh] at h0;cases h0),by rw[hh];simp⟩;rcases Nat.lt_trichotomy i k with g|g|g
  .simp_all
  .rw[g]
  .simp_all
 .have d:I8 xs v=false:=BL hh
  refine⟨-1,key (-1) (fun k hk _ f=>?_) (fun _=>rfl),by rw[d];decide⟩;unfold I8 at d;rw[List.any_eq_false] at d;exact absurd f (d xs[k] (jH hk))
theorem AOI (k:Nat)(v:ByteArray)(h:Hp):PCall (En G) 279 [.sl .nil k [],.str v] h (.n (-1)):=by
 refine acT Tryz.func279 4 ?_;refine P6 ?_;refine BB (fun n F H=>F 7=.n 0/\F 8=.n 0/\H=h) 0 ⟨AO,AO,rfl⟩ ?_;rintro n F H ⟨a,b,rfl⟩;have d:((0:Int)<0)=False:=BA;refine H7 @decide_false a b d @decide_false ?_;exact⟨AC,trivial⟩
theorem A44 {u:AV}(e:outG 1 qencStr h0 ns u h)(v:ByteArray)(f:ns.length<=8388608):PCall (En G) 219 [u,.str v] h (.bool (I8 ns v)):=by
 have d:∃k:Int,PCall (En G) 279 [u,.str v] h (.n k)/\decide (k≥0)=I8 ns v:=by
  rcases e with⟨rfl,rfl⟩|⟨_,o,_,rfl,a⟩
  .exact⟨-1,AOI G 0 v h,rfl⟩
  .exact AOH G ns o v h a U
 obtain⟨k,hk,b⟩:=d;refine acT Tryz.func219 4 ?_;refine AB ?_;refine hk.use ?_;refine AY b ?_;exact G7
def nmU (ops:List Int)(ns:List ByteArray)(e:Ex):List ByteArray:=if(Rk.hasB ops e.op && !I8 ns e.name)=true then ns++[e.name] else ns
def nmL (ops:List Int)(ns:List ByteArray)(l:List Ex):List ByteArray:=l.foldl (nmU ops) ns
theorem AKW (ops:List Int)(ns:List ByteArray)(e:Ex):(nmU ops ns e).length<=ns.length+1:=by
 unfold nmU;split<;>simp
theorem aP (ops:List Int):∀(l:List Ex) (ns:List ByteArray),(nmL ops ns l).length<=ns.length+l.length
 | [],ns=>by simp [nmL]
 | e::l,ns=>by
   have a:=aP ops l (nmU ops ns e);have b:=AKW ops ns e
   simp only[nmL,List.foldl_cons,List.length_cons] at a|-
   omega
theorem AWV (ops:List Int)(ns:List ByteArray)(l r:List Ex):nmL ops ns (l++r)=nmL ops (nmL ops ns l) r:=List.foldl_append
structure NSt (h0:Hp) (c:Nat) (ns:List ByteArray) (v:AV) (h:Hp):Prop where
 cell:h[c]?=some (qG 1 [[v]])
 out:outG 1 qencStr h0 ns v h
 base:h0.length<=c
 ex:ext h0 h
abbrev Cn (c:Nat)(v:AV)(h:Hp)(v':AV)(h':Hp):Prop:=Ch c v .nilfn h v' .nilfn h'
theorem NSt.ne {b k:Nat}{row:List AV}(s:NSt h0 c ns v h)(f:h[b]?=some (qG k [row]))(a:k≠1\/∀x,row≠[.str x]):¬isB v b:=by
 intro g;rcases s.out with⟨_,rfl⟩|⟨i,o,_,rfl,j⟩
 .exact g
 .have e:o=b:=g
  subst e;rw[j] at f
  injection Option.some.inj f with e1 d
  rcases a with a|a
  .exact a e1.symm
  .match ns,d with
   | [x],d=>simp [qencStr] at d;exact a x d.symm
theorem NSt.app {h0 h:Hp}{c:Nat}{ns:List ByteArray}{v:AV}(s:NSt h0 c ns v h)(x:Hp):NSt h0 c ns v (h++x):=⟨IA s.cell,s.out.app x,s.base,s.ex.app x⟩
theorem NSt.cne (s:NSt h0 c ns v h):¬isB v c:=by
 refine s.ne s.cell (.inr fun x e=>?_);rcases s.out with⟨_,rfl⟩|⟨_,o,_,rfl,_⟩<;>simp at e
theorem Cn.keep {b:Nat}{d:Hp}{j:AV}{x:ABlk}(g:Cn c v h j d)(f:h[b]?=some x)(a:b≠c)(i:¬isB v b):d[b]?=some x:=by
 rw[g.get b (AX f) a i (fun e=>e)];exact f
theorem AB6 (ops:List Int)(q:ops.length<=1048576)(h0:Hp)(c J:Nat)(O:SM)(e:Ex)(h:Hp)(ns:List ByteArray)(v:AV)(S:NSt h0 c ns v h)(I:h[J]?=some (qG 1 [[.sl O 1 (ops.map qencI)]]))(hn:ns.length<8388608):
  ACalls (En G) 289 [.agg (AQ e),.ptr J 0 0,.ptr c 0 0] h fun r K=>r=.bool true/\∃j,Cn c v h j K/\NSt h0 c (nmU ops ns e) j K:=by
 refine acT Tryz.func289 4 ?_;have a:=S.app [qG 4 [AQ e]];have g:(h++[qG 4 [AQ e]])[J]?=_:=AU I;have d:Cn c v h v (h++[qG 4 [AQ e]]):=Ch.app c v .nilfn h _;have C:=AZ h (qG 4 [AQ e]);have a0:=AX S.cell;refine AY @bxE ?_
 generalize h++[qG 4 [AQ e]]=H at a g d C|-
 have l0:BO jA H 3 (.ptr h.length 0 0)=some (.n e.op):=by rw[BK ag3 C (row:=AQ e) rfl,KD]
 have N:BO jA H 9 (.ptr h.length 0 2)=some (.str e.name):=by rw[BK ag9 C (row:=AQ e) rfl,SG]
 refine A7 (IL O4 g) l0 ?_;refine(Rk.contains_rank G ops O e.op H q).uu ?_
 have key:∀A B:Bool,Rk.hasB ops e.op=A->I8 ns e.name=B->(A && !B)=false->nmU ops ns e=ns:=fun A B R T V=>by
  unfold nmU;rw[R,T,V];simp
 cases i:Rk.hasB ops e.op
 .refine AB ?_
  exact⟨trivial,v,d,by rw[key _ _ i rfl rfl];exact a⟩
 refine A7 (IL xO a.cell) N ?_;refine(A44 G a.out e.name U).uu ?_;cases l:I8 ns e.name
 .have hu:nmU ops ns e=ns++[e.name]:=by unfold nmU;rw[i,l];rfl
  obtain⟨j,Q,X,M,hk,hex,hle,f⟩:=a.out.append (P:=jA) AP7 sz9 APU ATY U hn a.ex e.name;have E:EH jA true H 121 121 v (.sl .full 1 [[.str e.name]])=some (j,Q):=X;have p:=hk c _ a.cell a.cne;have L:=AX a.cell
  have F:JH j=some [j]:=by
   rcases M with⟨_,rfl⟩|⟨_,o,_,rfl,_⟩<;>rfl
  refine H7 (IL xO a.cell) N AT8 E (VN AQF F p) ?_;refine⟨trivial,j,d.trans ⟨BL hle,fun b k Y Z _=>?_,fun b k=>.inr (by rw[f b k];exact Nat.le_refl _),fun b k=>k.elim⟩,?_⟩
  .grind
  .rw[hu]
   exact⟨CJ p,M.keep fun b k=>by rw[zU,if_neg (fun e=>by have:=f b k;omega)],a.base,hex.set a.base _⟩
 .refine AB ?_
  exact⟨trivial,v,d,by rw[key _ _ i l rfl];exact a⟩
theorem ARO (ops:List Int)(ns:List ByteArray)(e:Ex):nmL ops ns (pre e)=nmL ops (nmU ops ns e) (FT e.args):=by rw[pre_eq];rfl
theorem AIQ (ops:List Int)(Y:ops.length<=1048576)(h0:Hp)(c M K B:Nat)(s0:SM)(hv:K≠c)(hd:B≠c)(X:M≠c)(e:Ex):
  wt e<=1099511627776->∀(h:Hp) (ns:List ByteArray) (v:AV),NSt h0 c ns v h->h[M]?=some (qG 1 [[.sl s0 1 (ops.map qencI)]])->ns.length+(pre e).length<=8388608 ->
   h[K]?=some (qG 1 [[.fn (.func 289) [] [.ptr M 0 0,.ptr c 0 0]]])->h[B]?=some (qG 1 [[.fn (.func 248) [] [.ptr K 0 0,.ptr B 0 0]]]) ->
   ACalls (En G) 248 [.agg (AQ e),.ptr K 0 0,.ptr B 0 0] h fun r h'=>r=.bool true/\∃i,Cn c v h i h'/\NSt h0 c (nmL ops ns (pre e)) i h':=by
 induction e using Ex.induct with|h e ih=>?_
 intro hw h ns v S E a5 J Q;have a7:=AX S.cell;have a6:e.args.length<=1099511627776:=by have:=XQ e.args;have:=N7 e;omega
 have ab:(pre e).length=(FT e.args).length+1:=by rw[pre_eq];rfl
 have p:∀(k:FuncId) (a b:List AV) (x:ByteArray),[AV.fn (.func k) a b]≠[.str x]:=fun _ _ _ _ q=>by simp at q
 have Z:∀(xs:List (List AV)) (x:ByteArray),[AV.sl s0 1 xs]≠[.str x]:=fun _ _ q=>by simp at q
 refine acT Tryz.func248 4 ?_;have S0:=S.app [qG 4 [AQ e]];simp only[vQ,CQ,U0,qI,zG,↓reduceIte,jC,enP,bxE,IL Sm.ag230 (AU J),ldE];refine(AB6 G ops Y h0 c M s0 e _ ns v S0 (AU E) U).mono ?_;rintro r h1 ⟨rfl,v1,N,S1⟩;have f:Cn c v h v1 h1:=(Ch.app c v .nilfn h _).trans N;have a4:h1[h.length]?=some (qG 4 [AQ e]):=N.keep (AZ _ _) U (S0.ne (AZ _ _) (.inl DU));have a1:=f.keep J hv (S.ne J (.inr (p _ _ _)));have R:=f.keep Q hd (S.ne Q (.inr (p _ _ _)));have V:=f.keep E X (S.ne E (.inr (Z _)));have l3:BO jA h1 23 (.ptr h.length 0 3)=some (.sl e.m 4 (e.args.map AQ)):=by rw[BK LU a4 (row:=AQ e) rfl,YL]
 have aa:=AKW ops ns e;refine AY l3 ?_
 refine BB (fun n F H=>∃j i,n+j=e.args.length/\F 1=.ptr K 0 0/\F 2=.ptr B 0 0/\F 12=.sl e.m 4 (e.args.map AQ)/\F 13=.n e.args.length/\F 14=.n (j:Nat)/\Cn c v h i H/\NSt h0 c (nmL ops (nmU ops ns e) (FT (e.args.take j))) i H/\H[K]?=some (qG 1 [[.fn (.func 289) [] [.ptr M 0 0,.ptr c 0 0]]])/\H[B]?=some (qG 1 [[.fn (.func 248) [] [.ptr K 0 0,.ptr B 0 0]]])/\H[M]?=some (qG 1 [[.sl s0 1 (ops.map qencI)]])) e.args.length
  ⟨0,v1,BA,EZ,EZ,EZ,EZ,EZ,f,S1,a1,R,V⟩ ?_
 rintro n F H ⟨j,i,hj,f1,f2,f12,f13,f14,hC,L,I,l,C⟩;refine A7 f13 f14 ?_;refine DX ?_ ?_<;>intro g
 .have A:e.args[j]∈e.args:=jH g
  have a2:FT e.args=FT (e.args.take j)++(pre e.args[j]++FT (e.args.drop (j+1))):=by
   rw[<-List.append_assoc,<-LH _ _ g,<-NQ,List.take_append_drop]
  have a8:=aP ops (FT (e.args.take j)) (nmU ops ns e);have a9:(FT e.args).length=(FT (e.args.take j)).length+((pre e.args[j]).length+(FT (e.args.drop (j+1))).length):=by simp_all
  simp only[vQ,CQ,qI,zG,↓reduceIte,jC,enP,PU,Option.getD_none,f12,f14,CP g,DL NI GZ EC g,NY,gQ _ _ [.n 0,.n 0,.str ⟨#[]⟩,.sl .nil 0 []] rfl,f2,IL Sm.ag230 (AU l),ldE];have a3:=L.app [qG 4 [AQ e.args[j]]];refine(ih e.args[j] A (by have:=XP A;have:=N7 e;omega) _ _ i a3 (AU C) U (AU I) (AU l)).mono ?_;rintro r h2 ⟨rfl,v2,O,S2⟩;have d:Cn c i H v2 h2:=(Ch.app c i .nilfn H _).trans O;have a0:=d.keep I hv (L.ne I (.inr (p _ _ _)));have P:=d.keep l hd (L.ne l (.inr (p _ _ _)));have T:=d.keep C X (L.ne C (.inr (Z _)));refine KO f1 f2 f12 f13 f14 (C9 j) ?_;refine⟨n-1,U,j+1,v2,U,trivial,trivial,trivial,trivial,rfl,hC.trans d,?_,a0,P,T⟩;rw[LH _ _ g,AWV];exact S2
 .refine AB ?_
  rw[List.take_of_length_le U,<-ARO] at L;exact⟨trivial,i,hC,L⟩
theorem AG0 (ops:List Int)(k:ops.length<=1048576)(h0:Hp)(c a:Nat)(l:SM)(N:a≠c)(e:Ex)(hw:wt e<=1048576)(h:Hp)(ns:List ByteArray)(v:AV)(S:NSt h0 c ns v h)(j:h[a]?=some (qG 1 [[.sl l 1 (ops.map qencI)]]))(hn:ns.length<=1048576):
  ACalls (En G) 170 [.agg (AQ e),.fn (.func 289) [] [.ptr a 0 0,.ptr c 0 0]] h fun _ B=>∃p,Cn c v h p B/\NSt h0 c (nmL ops ns (pre e)) p B:=by
 have a1:=AX S.cell;have hol:=AX j;refine acL Tryz.func170 [] ?_;generalize i:AV.fn (.func 289) [] [.ptr a 0 0,.ptr c 0 0]=fv;have J:∀H:Hp,OU H fv=some (.ptr H.length 0 0,H++[qG 1 [[fv]]]):=fun H=>by rw[<-i];rfl
 refine DC @bxE J A0J ?_;have g0:(h++[qG 4 [AQ e]]++[qG 1 [[fv]]]++[qG 1 [[AV.nilfn]]])[(h++[qG 4 [AQ e]]++[qG 1 [[fv]]]).length]?=some (qG 1 [[.nilfn]]):=AZ _ _;simp only[vQ,CQ,↓reduceIte,jC,enP,VN Sm.sz230 (A0P _ _ _) g0];have d:=((S.app [qG 4 [AQ e]]).app [qG 1 [[fv]]]).app [qG 1 [[AV.nilfn]]];have A:Cn c v h v (h++[qG 4 [AQ e]]++[qG 1 [[fv]]]++[qG 1 [[AV.nilfn]]]):=((Ch.app c v .nilfn h _).trans (Ch.app _ _ _ _ _)).trans (Ch.app _ _ _ _ _);have P:(h++[qG 4 [AQ e]]++[qG 1 [[fv]]]++[qG 1 [[AV.nilfn]]])[(h++[qG 4 [AQ e]]).length]?=some (qG 1 [[fv]]):=AU (AZ _ _);have Q:(h++[qG 4 [AQ e]]++[qG 1 [[fv]]]++[qG 1 [[AV.nilfn]]])[h.length]?=some (qG 4 [AQ e]):=AU (AU (AZ _ _));have V:(h++[qG 4 [AQ e]]++[qG 1 [[fv]]]++[qG 1 [[AV.nilfn]]])[a]?=some (qG 1 [[.sl l 1 (ops.map qencI)]]):=AU (AU (AU j));have L:(h++[qG 4 [AQ e]]++[qG 1 [[fv]]]).length=h.length+2:=BA;have O:(h++[qG 4 [AQ e]]).length=h.length+1:=BA
 generalize (h++[qG 4 [AQ e]]++[qG 1 [[fv]]]).length=f at g0 L|-
 generalize (h++[qG 4 [AQ e]]).length=vb at P O|-
 generalize h++[qG 4 [AQ e]]++[qG 1 [[fv]]]++[qG 1 [[AV.nilfn]]]=H at g0 d A P Q V|-
 have M:¬isB v f:=d.ne g0 (.inr fun x q=>by simp at q);generalize g:H.set f (qG 1 [[AV.fn (.func 248) [] [.ptr vb 0 0,.ptr f 0 0]]])=H';have R:H'[f]?=some (qG 1 [[.fn (.func 248) [] [.ptr vb 0 0,.ptr f 0 0]]]):=by rw[<-g];exact CJ g0
 have T:H'[vb]?=some (qG 1 [[fv]]):=by rw[<-g];exact DF P U
 have ge:H'[h.length]?=some (qG 4 [AQ e]):=by rw[<-g];exact DF Q U
 have go:H'[a]?=some (qG 1 [[.sl l 1 (ops.map qencI)]]):=by rw[<-g];exact DF V U
 have a0:=S.ex.le
 have X:NSt h0 c ns v H':=by
  rw[<-g];exact⟨DF d.cell U,d.out.keep fun b C=>by rw[zU,if_neg (fun q=>M (by rw[q];exact C))],d.base,d.ex.set U _⟩
 have Z:Cn c v h v H':=by
  rw[<-g];exact⟨by have:=A.len;simpa using this,fun b C E I F=>by rw[zU,if_neg U];exact A.get b C E I F,fun _ q=>.inl q,fun _ q=>.inl q⟩
 simp only[vQ,CQ,qI,zG,↓reduceIte,jC,enP,IL Sm.ag230 R,IC ge];rw[<-i] at T;have hp:=XX e;refine(AIQ G ops k h0 c a vb f l U U N e U H' ns v X go U T R).mono ?_;rintro r B ⟨rfl,p,K,Y⟩;refine AY @pU ?_;exact⟨p,Z.trans K,Y⟩
theorem A57 (h:Hp):IG jA h 121=some (.ptr h.length 0 0,h++[qG 1 [[.sl .nil 0 []]]]):=F9 (row:=[.sl .nil 0 []]) BC
theorem oK (ops:List Int)(b:ops.length<=1048576)(a:SM)(e:Ex)(p:wt e<=1048576)(h:Hp):PCall (En G) 235 [.agg (AQ e),.sl a 1 (ops.map qencI)] h (.sl (nm (nmL ops [] (pre e))) 1 ((nmL ops [] (pre e)).map qencStr)):=by
 refine JZ A1V ?_;refine acT Tryz.func235 4 ?_;have j:=AU (x:=qG 1 [[.sl .nil 0 []]]) (AU (x:=qG 1 [[AV.sl a 1 (ops.map qencI)]]) (AZ h (qG 4 [AQ e])));have g:=AU (x:=qG 1 [[.sl .nil 0 []]]) (AZ (h++[qG 4 [AQ e]]) (qG 1 [[AV.sl a 1 (ops.map qencI)]]));have f:=AZ (h++[qG 4 [AQ e]]++[qG 1 [[AV.sl a 1 (ops.map qencI)]]]) (qG 1 [[.sl .nil 0 []]]);have k:ext h (h++[qG 4 [AQ e]]++[qG 1 [[AV.sl a 1 (ops.map qencI)]]]++[qG 1 [[.sl .nil 0 []]]]):=(((ext.rfl' h).app _).app _).app _;have hol:(h++[qG 4 [AQ e]]).length=h.length+1:=BA;have i:(h++[qG 4 [AQ e]]++[qG 1 [[AV.sl a 1 (ops.map qencI)]]]).length=h.length+2:=BA;refine DC @ABK @bxE A57 ?_
 generalize h++[qG 4 [AQ e]]++[qG 1 [[AV.sl a 1 (ops.map qencI)]]]++[qG 1 [[.sl .nil 0 []]]]=H at j g f k|-
 generalize (h++[qG 4 [AQ e]]++[qG 1 [[AV.sl a 1 (ops.map qencI)]]]).length=c at f i|-
 generalize (h++[qG 4 [AQ e]]).length=ob at g hol|-
 refine AY (IC j) ?_;have S:NSt h c [] (.sl .nil 0 []) H:=⟨f,outG.nil _ _ _ _,U,k⟩;refine(AG0 G ops b h c ob a U e p H [] _ S g BA).mono ?_;rintro r q ⟨A,l,d⟩;refine AY (IL xO d.cell) ?_;exact⟨d.ex,d.out⟩
theorem A5G (h:Hp)(a b:Int):DJ jA false h 32 2 [(0,.n a),(1,.n b)]=some (.sl .full 1 [[.n a],[.n b]],h):=BC
theorem dN (e:Ex)(a:wt e<=1048576)(h:Hp):PCall (En G) 156 [.agg (AQ e)] h (.sl (nm (nmL [2] [] (pre e))) 1 ((nmL [2] [] (pre e)).map qencStr)):=by
 refine ACalls.pure0 rfl ?_;refine acT Tryz.func156 2 ?_;refine DC @bxE @ldE AI7 ?_;refine(oK G [2] DU .full e a _).uu ?_;exact⟨trivial,_,rfl⟩
theorem aC (e:Ex)(a:wt e<=1048576)(h:Hp):PCall (En G) 154 [.agg (AQ e)] h (.sl (nm (nmL [3,24] [] (pre e))) 1 ((nmL [3,24] [] (pre e)).map qencStr)):=by
 refine ACalls.pure0 rfl ?_;refine acT Tryz.func154 2 ?_;refine DC @bxE @ldE @A5G ?_;refine(oK G [3,24] DU .full e a _).uu ?_;exact⟨trivial,_,rfl⟩
end Go.Proofs.YtiihpnicbekebaaGreatDoor.Xe
namespace Go.Proofs.YtiihpnicbekebaaGreatDoor.Xe
open Sm Bins Cov Wd Go.RowKit
def dT (l:List Sg)(op n:Int)(a:ByteArray)(b:List Nat):Nat :=
 if op=1 then n.toNat%65536 else if op=2 then (MQ l a).1 else if op=3 then (atG l a (b.getD 0 0:Nat)).1 else if op=24 then sumTo l a 8 else opW op b
mutual
def TN (l:List Sg):Ex->Nat
 | .mk c n b _ a=>dT l c n b (MP l a)
def MP (l:List Sg):List Ex->List Nat
 | []=>[]
 | e::es=>TN l e::MP l es
end
theorem aI (l:List Sg)(e:Ex):TN l e=dT l e.op e.n e.name (MP l e.args):=by cases e;simp [TN,Ex.op,Ex.n,Ex.name,Ex.args]
theorem QS (l:List Sg):∀xs:List Ex,MP l xs=xs.map (TN l)
 | []=>by simp [MP]
 | e::es=>by simp [MP,QS l es]
theorem aH (l:List Sg)(xs:List Ex):(MP l xs).length=xs.length:=by rw[QS,List.length_map]
theorem nE (l:List Sg)(xs:List Ex)(j:Nat)(a:j<xs.length):MP l (xs.take (j+1))=MP l (xs.take j)++[TN l xs[j]]:=by
 rw[QS,QS,List.take_succ_eq_append_getElem a,List.map_append];rfl
theorem AVQ (l:List Sg)(e:Ex):TN l e<65536:=by
 induction e using Ex.induct with|h e ih=>?_
 rw[aI]
 have d:∀x∈MP l e.args,x<65536:=by
  intro x b;rw[QS] at b;obtain⟨a,c,rfl⟩:=zQ.1 b;exact ih a c
 unfold dT;split
 .exact Nat.mod_lt _ U
 split
 .exact pM _ _
 split
 .exact AJB _ _ _
 split
 .exact nJ _ _ _
 .exact A1G _ d
theorem AB8 (l:List Sg)(xs:List Ex):∀x∈MP l xs,x<65536:=by
 intro x b;rw[QS] at b;obtain⟨a,_,rfl⟩:=zQ.1 b;exact AVQ l a
def knE (l:List Sg)(e:Ex):Bool:=if e.op=2 then (MQ l e.name).2 else if e.op=3\/e.op=24 then (atG l e.name 0).2 else true
theorem node_ops {e:Ex}(h:II e=0):(e.op=1->0<=e.n/\e.n<=65535)/\(e.op=3->e.args.length=1)/\(e.op≠1->e.op≠2->e.op≠3->e.op≠24->AGU e.op e.args.length):=by
 unfold II at h;have k:badO e=false:=by grind
 have j:dG e=false:=by grind
 have f:XG e=false:=by grind
 have a:XZ e.op e.args.length=true:=by
  unfold XG at f;rw[Bool.or_eq_false_iff] at f;simpa using f.2
 have i:1<=e.op/\e.op<=25:=by unfold badO at k;simp at k;omega
 refine⟨fun i=>?_,fun l=>?_,fun B C E p=>⟨fun c=>?_,fun d=>?_,fun g b=>?_⟩⟩
 .unfold dG at j;simp [i] at j;omega
 .unfold XZ at a;rw[l] at a;simp [arity] at a;omega
 .unfold XZ at a;rw[c] at a;simp [arity] at a;omega
 .unfold XZ at a;rw[d] at a;simp at a;omega
 .unfold XZ at a
  rw[if_neg (BL b)] at a
  have q:arity e.op=1\/arity e.op=2:=by
   by_cases hq:e.op=3\/e.op=4\/e.op=5\/e.op=6\/e.op=25
   .left;unfold arity;rw[if_neg U,if_neg U,if_pos hq]
   .right;unfold arity;rw[if_neg U,if_neg U,if_neg hq,if_neg g,if_neg b]
  have A:((e.args.length:Nat):Int)=arity e.op:=BL a;omega
theorem str_eq {a b:ByteArray}(h:(a.toList==b.toList)=true):a=b:=by
 rw[ByteArray.toList_eq,ByteArray.toList_eq] at h;exact ByteArray.ext (Array.toList_inj.1 (beq_iff_eq.1 h))
theorem AWU (P:ByteArray->Bool)(ops:List Int)(ns:List ByteArray)(e:Ex):(nmU ops ns e).all P=(ns.all P&&(!Rk.hasB ops e.op||P e.name)):=by
 unfold nmU;cases f:Rk.hasB ops e.op
 .simp
 cases a:I8 ns e.name
 .simp
 .simp
  intro b;unfold I8 at a;rw[List.any_eq_true] at a;obtain⟨u,d,c⟩:=a;rw[str_eq c];exact b u d
theorem eJ (P:ByteArray->Bool)(ops:List Int):∀(xs:List Ex) (ns:List ByteArray),(nmL ops ns xs).all P=(ns.all P&&xs.all fun e => !Rk.hasB ops e.op||P e.name)
 | [],ns=>by simp [nmL]
 | e::xs,ns=>by
   have:=eJ P ops xs (nmU ops ns e)
   simp only[nmL,List.foldl_cons,List.all_cons] at this|-
   rw[this,AWU,Bool.and_assoc]
theorem AOA (l:List Sg)(xs:List Ex):((nmL [2] [] xs).all (fun n=>(MQ l n).2)&&(nmL [3,24] [] xs).all fun n=>(atG l n 0).2)=xs.all (knE l):=by
 rw[eJ,eJ,Bool.eq_iff_iff];simp only[List.all_nil,qZ,Bool.and_eq_true,List.all_eq_true];constructor
 .rintro⟨d,e⟩ x c
  have a:=d x c;have b:=e x c;unfold knE;unfold Rk.hasB at a b;by_cases e2:x.op=2
  .rw[if_pos e2];simpa [e2] using a
  by_cases e3:x.op=3\/x.op=24
  .grind
  .rw[if_neg e2,if_neg e3]
 .intro h
  refine⟨fun x c=>?_,fun x c=>?_⟩
  .have a:=h x c
   unfold knE at a;unfold Rk.hasB;by_cases e2:x.op=2
   .rw[if_pos e2] at a;simp [e2,a]
   .grind
  .have a:=h x c
   unfold knE at a;unfold Rk.hasB;by_cases e3:x.op=3\/x.op=24
   .grind
   .grind
theorem AGI {α:Type}(P:α->Bool)(xs:List α)(k:Nat)(hk:k<xs.length):(xs.drop k).all P=(P xs[k]&&(xs.drop (k+1)).all P):=by
 rw[List.drop_eq_getElem_cons hk];rfl
theorem AKX (ops:List Int):∀(xs:List Ex) (ns:List ByteArray) (n:ByteArray),n∈nmL ops ns xs->n∈ns\/∃x∈xs,n=x.name
 | [],ns,n,h=>.inl h
 | e::xs,ns,n,h=>by
   rcases AKX ops xs (nmU ops ns e) n h with a|⟨x,c,b⟩
   .unfold nmU at a
    split at a
    .grind
    .exact .inl a
   .grind
section
variable (G:Nat->AV)
theorem known_prog (l:List Sg)(m:SM)(e:Ex)(h:Hp)(P:l.length<=1099511627776)(Q:wt e<=1048576):PCall (En G) 225 [.agg [.sl m 2 (l.map FV)],.agg (AQ e)] h (.bool ((pre e).all (knE l))):=by
 refine ACalls.pure0 rfl ?_;rw[<-AOA];have X:=XX e;have C:=aP [2] (pre e) [];have E:=aP [3,24] (pre e) []
 have B:∀n∈nmL [3,24] [] (pre e),n.size<=1048576:=fun n V=>by
  rcases AKX _ _ _ n V with S|⟨x,g,rfl⟩
  .cases S
  .have:=ADH g;omega
 have O:=dN G e Q;have N:=aC G e Q;simp only[List.length_nil,jG] at C E
 generalize nmL [2] [] (pre e)=ns at C O|-
 generalize nmL [3,24] [] (pre e)=ars at E N B|-
 refine acT Tryz.func225 4 ?_;have L:=AU (x:=qG 4 [AQ e]) (AZ h (qG 1 [[.sl m 2 (l.map FV)]]));have J:=AZ (h++[qG 1 [[.sl m 2 (l.map FV)]]]) (qG 4 [AQ e]);have g:ext h (h++[qG 1 [[.sl m 2 (l.map FV)]]]++[qG 4 [AQ e]]):=((ext.rfl' h).app _).app _;refine A7 (AF3 h (.sl m 2 (l.map FV)) rfl) @bxE ?_
 generalize h++[qG 1 [[.sl m 2 (l.map FV)]]]++[qG 4 [AQ e]]=H at L J g|-
 generalize (h++[qG 1 [[.sl m 2 (l.map FV)]]]).length=eb at J|-
 refine AY (IC J) ?_;refine(O H).uu ?_;refine EK 0 (fun F d=>F 2=.ptr h.length 0 0/\F 3=.ptr eb 0 0/\d=H/\ns.all (fun n=>(MQ l n).2)=true) (fun F d=>F 4=.bool false/\d=H/\ns.all (fun n=>(MQ l n).2)=false) ?_ ?_ ?_
 .refine BB (fun k F d=>∃j,k+j=ns.length/\F 2=.ptr h.length 0 0/\F 3=.ptr eb 0 0/\F 14=.sl (nm ns) 1 (ns.map qencStr)/\F 15=.n (ns.length:Nat)/\F 16=.n (j:Nat)/\d=H/\ns.all (fun n=>(MQ l n).2)=(ns.drop j).all fun n=>(MQ l n).2) ns.length ⟨0,BA,AO,AO,AO,AO,AO,rfl,rfl⟩ ?_
  rintro k F d ⟨j,T,p,I,f14,f15,f16,rfl,a⟩;refine A7 f15 f16 ?_;refine DX ?_ ?_<;>intro c
  .rw[AGI _ ns j c] at a
   simp only[vQ,CQ,↓reduceIte,jC,enP,bY,p,f14,f16,CP c,BR ag9 c,encStr0,bX L];refine(iH G l m _ d P).use ?_;unfold VQ;refine AB ?_;cases hk:(MQ l ns[j]).2
   .refine AB ?_
    exact⟨trivial,trivial,by rw[a,hk];rfl⟩
   .refine KO p I f14 f15 f16 (C9 j) ?_
    exact⟨k-1,U,j+1,U,AC,AC,AC,AC,AC,trivial,by rw[a,hk];rfl⟩
  .refine AB ?_
   exact⟨p,I,trivial,by rw[a,jY U];rfl⟩
 .rintro F d ⟨p,I,rfl,a⟩
  rw[a,qZ];refine A7 I (IC J) ?_;refine(N d).uu ?_;refine BB (fun k i K=>∃j,k+j=ars.length/\i 2=.ptr h.length 0 0/\i 30=.sl (nm ars) 1 (ars.map qencStr)/\i 31=.n (ars.length:Nat)/\i 32=.n (j:Nat)/\K=d/\ars.all (fun n=>(atG l n 0).2)=(ars.drop j).all fun n=>(atG l n 0).2) ars.length ⟨0,BA,D7 p,AO,AO,AO,rfl,rfl⟩ ?_;rintro k i K ⟨j,T,M,q,A,f,rfl,b⟩;refine A7 A f ?_;refine DX ?_ ?_<;>intro c
  .rw[AGI _ ars j c] at b
   simp only[vQ,CQ,↓reduceIte,jC,enP,bY,M,q,f,CP c,BR ag9 c,encStr0,bX L];refine(ABP G l m _ 0 K P (B _ (jH c))).use ?_;unfold VQ;refine AB ?_;cases hk:(atG l ars[j] 0).2
   .refine AB ?_
    exact⟨by rw[b,hk];rfl,g⟩
   .refine H7 M q A f (C9 j) ?_
    exact⟨k-1,U,j+1,U,AC,AC,AC,AC,trivial,by rw[b,hk];rfl⟩
  .refine AB ?_
   exact⟨by rw[b,jY U];rfl,g⟩
 .rintro F d ⟨R,rfl,a⟩
  refine AY R ?_;exact⟨by rw[a];rfl,g⟩
theorem AB7 (l:List Sg)(m:SM)(hl:l.length<=1099511627776)(e:Ex):wt e<=1048576->(∀x∈pre e,II x=0)->∀h:Hp,PCall (En G) 226 [.agg [.sl m 2 (l.map FV)],.agg (AQ e)] h (.n (TN l e:Nat)):=by
 induction e using Ex.induct with|h e ih=>?_
 intro hw I h;have a7:e.args.length<=1048576:=by have:=XQ e.args;have:=N7 e;omega
 have S:e.name.size<=1048576:=by have:=N7 e;omega
 obtain⟨o1,o3,oo⟩:=node_ops (I e (by rw[pre_eq];simp));refine ACalls.pure0 rfl ?_;refine acT Tryz.func226 4 ?_;have Z:=AU (x:=qG 4 [AQ e]) (AZ h (qG 1 [[.sl m 2 (l.map FV)]]));have X:=AZ (h++[qG 1 [[.sl m 2 (l.map FV)]]]) (qG 4 [AQ e]);have Y:ext h (h++[qG 1 [[.sl m 2 (l.map FV)]]]++[qG 4 [AQ e]]):=((ext.rfl' h).app _).app _;refine A7 (AF3 h (.sl m 2 (l.map FV)) rfl) @bxE ?_
 generalize h++[qG 1 [[.sl m 2 (l.map FV)]]]++[qG 4 [AQ e]]=H1 at Z X Y|-
 generalize (h++[qG 1 [[.sl m 2 (l.map FV)]]]).length=eb at X|-
 have l3:BO jA H1 23 (.ptr eb 0 3)=some (.sl e.m 4 (e.args.map AQ)):=by rw[BK LU X (row:=AQ e) rfl,YL]
 refine AY l3 ?_;refine EK 0 (fun F H=>∃v,F 2=.ptr h.length 0 0/\F 3=.ptr eb 0 0/\F 5=v/\ext H1 H/\outG 1 O3 H1 (MP l e.args) v H) (fun _ _=>False) ?_ ?_ (fun _ _ hh=>hh.elim)
 .refine BB (fun k F H=>∃j v,k+j=e.args.length/\F 2=.ptr h.length 0 0/\F 3=.ptr eb 0 0/\F 5=v/\F 13=.sl e.m 4 (e.args.map AQ)/\F 14=.n (e.args.length:Nat)/\F 15=.n (j:Nat)/\ext H1 H/\outG 1 O3 H1 (MP l (e.args.take j)) v H) e.args.length
   ⟨0,.sl .nil 0 [],BA,AO,AO,AO,AO,AO,AO,ext.rfl' H1,outG.nil _ _ _ _⟩ ?_
  rintro k F H ⟨j,v,hj,K,p,O,f13,f14,f15,d,Q⟩;refine A7 f14 f15 ?_;refine DX ?_ ?_<;>intro A
  .have f:e.args[j]∈e.args:=jH A
   have a3:=Q.app [qG 4 [AQ e.args[j]]];have T:=d.app [qG 4 [AQ e.args[j]]];have a5:(MP l (e.args.take j)).length<8388608:=by rw[aH];simp;omega
   obtain⟨v',H',ha,a2,_,a6,_,_⟩:=a3.append (P:=jA) gH sz3 xY rM U a5 T (TN l e.args[j]);have a0:EH jA true (H++[qG 4 [AQ e.args[j]]]) 32 32 v (.sl .full 1 [[.n ((TN l e.args[j]:Nat):Int)]])=some (v',H'):=ha;simp only[vQ,CQ,↓reduceIte,jC,enP,PU,Option.getD_none,f13,f15,CP A,DL NI GZ EC A,NY,gQ _ _ [.n 0,.n 0,.str ⟨#[]⟩,.sl .nil 0 []] rfl,K,O,bX (DW T Z),ldE];refine(ih e.args[j] f (by have:=XP f;have:=N7 e;omega) (fun x Y=>I x (by rw[pre_eq];exact List.mem_cons_of_mem _ (VO f x Y))) _).use ?_;refine V7 O AI7 a0 K p f13 f14 f15 (C9 j) ?_;exact⟨k-1,U,j+1,v',U,AC,AC,AC,AC,AC,AC,a6,by rw[nE _ _ _ A];exact a2⟩
  .rw[jK U] at Q
   refine AB ?_;exact⟨v,K,p,O,d,Q⟩
 .rintro F H ⟨v,K,p,O,d,Q⟩
  have M:=DW d Z;have L:=DW d X;have i:=Y.trans d;have l0:BO jA H 3 (.ptr eb 0 0)=some (.n e.op):=by rw[BK ag3 L (row:=AQ e) rfl,KD]
  have l1:BO jA H 3 (.ptr eb 0 1)=some (.n e.n):=by rw[BK ag3 L (row:=AQ e) rfl,cC]
  have l2:BO jA H 9 (.ptr eb 0 2)=some (.str e.name):=by rw[BK ag9 L (row:=AQ e) rfl,SG]
  have C:=aH l e.args;rw[aI];refine A7 p l0 ?_;by_cases e1:e.op=1
  .have N:(e.op==1)=true:=BL e1
   refine DC N p l1 ?_;have:=o1 e1;exact⟨by unfold dT;rw[if_pos e1];congr 1;omega,i⟩
  have N:(e.op==1)=false:=BL e1;by_cases e2:e.op=2
  .have R:(e.op==2)=true:=BL e2
   refine KO N R K p l2 (bX M) ?_;refine(iH G l m _ H hl).use ?_;unfold VQ;refine AB ?_;exact⟨by unfold dT;rw[if_neg e1,if_pos e2],i⟩
  have R:(e.op==2)=false:=BL e2;by_cases e3:e.op=3
  .have V:(e.op==3)=true:=BL e3
   have a1:=o3 e3
   obtain⟨o,rfl,B⟩:∃o,v=.own o 0 1/\H[o]?=some (qG 1 ((MP l e.args).map O3)):=by
    rcases Q with⟨h0,_⟩|⟨_,o,_,rfl,hb⟩
    .rw[h0] at C;simp at C;omega
    .exact⟨o,by rw[C,a1],hb⟩
   have E:0<(MP l e.args).length:=U;have i0:JD 1 H (.own o 0 1) (.n 0)=some (.ptr o 0 0):=GN (n:=0) B DU
   have d0:BO jA H 3 (.ptr o 0 0)=some (.n ((MP l e.args).getD 0 0:Nat)):=by
    rw[BK ag3 B (row:=O3 (MP l e.args)[0]) (row_map E),wO,jO E];rfl
   refine DC N R V ?_;refine DR BC ?_;refine KZ K p O l2 (bX M) i0 d0 ?_;refine⟨_,ABP G l m _ _ H hl S,?_⟩;unfold VQ;refine AB ?_;exact⟨by unfold dT;rw[if_neg e1,if_neg e2,if_pos e3],i⟩
  have V:(e.op==3)=false:=BL e3;by_cases e24:e.op=24
  .have J:(e.op==24)=true:=BL e24
   refine OZ N R V J K p l2 (bX M) ?_;refine(AQI G l m _ H hl S).uu ?_;exact⟨by unfold dT;rw[if_neg e1,if_neg e2,if_neg e3,if_pos e24],i⟩
  have J:(e.op==24)=false:=BL e24;have a4:=oo e1 e2 e3 e24;have g:AGU e.op (MP l e.args).length:=by rw[C];exact a4
  obtain⟨o,rfl,B⟩:∃o,v=.own o 0 (MP l e.args).length/\H[o]?=some (qG 1 ((MP l e.args).map O3)):=by
   rcases Q with⟨h0,_⟩|⟨_,o,_,rfl,hb⟩
   .exfalso
    rw[h0] at g;obtain⟨a,b,c⟩:=g;by_cases q:e.op=22
    .have:=a q;simp at this
    by_cases q':e.op=23
    .have:=b q';simp at this
    .have:=c q q';simp at this
   .exact⟨o,rfl,hb⟩
  refine KZ N R V J p l0 O ?_;refine(ANU G e.op _ o H B (AB8 l _) U g).uu ?_;exact⟨by unfold dT;rw[if_neg e1,if_neg e2,if_neg e3,if_neg e24],i⟩
end
theorem AS9 {xs:List Ex}(h:errs xs=0):∀x∈xs,II x=0:=by
 induction xs with
 | nil=>intro x a;cases a
 | cons y f d =>
   have b:f.foldl (fun z e=>if z=0 then II e else z) (II y)=0:=h
   have c:II y=0:=by
    rcases Classical.em (II y=0) with q|q
    .exact q
    .rw[AA7 _ _ q] at b;exact b
   rw[c] at b;intro x a;rcases zO.1 a with rfl|a
   .exact c
   .exact d b x a
theorem bA {e:Ex}(h:exE e=0):∀x∈pre e,II x=0:=by
 unfold exE at h;split at h
 .cases h
 .exact AS9 h
def evE (l:List Sg)(e:Ex):Nat×Int:=if exE e≠0 then (0,1) else if(pre e).all (knE l)=true then (TN l e,0) else (0,7)
def evV (p:Nat×Int):AV:=.tup [.n (p.1:Nat),.n p.2]
theorem AA6 (p:Nat×Int)(n:Nat)(H:Hp):FH n H 2 (evV p)=evV p:=rfl
theorem A55 (h:Hp):IG jA h 277=some (.ptr h.length 0 0,h++[qG 1 [[.sl .nil 0 []]]]):=F9 (row:=[.sl .nil 0 []]) BC
theorem A5W (s:SM)(k:Nat)(xs:List (List AV)):JC jA 277 [(0,.sl s k xs)]=some (.agg [.sl s k xs]):=BC
theorem A3C (h:Hp)(s:SM)(k:Nat)(xs:List (List AV)):D8 jA (h++[qG 1 [[.sl .nil 0 []]]]) 277 (.ptr h.length 0 0) (.agg [.sl s k xs])=some (h++[qG 1 [[.sl s k xs]]]):=by
 rw[JU (cs:=[.sl s k xs]) (row:=[.sl .nil 0 []]) rfl AZM (AZ _ _) (by exact Nat.le_refl 1),KI];rfl
section
variable (G:Nat->AV)
theorem xW (k:GOk G)(l:List Sg)(m:SM)(e:Ex)(h:Hp)(j:l.length<=1099511627776)(i:wt e<=1048576):PCall (En G) 143 [.agg (AQ e),.sl m 2 (l.map FV)] h (evV (evE l e)):=by
 refine SE 2 (AA6 _) ?_;refine acL Tryz.func143 [.tmp 4,.tmp 5] ?_;have a:=AU (x:=qG 1 [[.sl m 2 (l.map FV)]]) (AZ h (qG 4 [AQ e]));have b:=AZ (h++[qG 4 [AQ e]]) (qG 1 [[.sl m 2 (l.map FV)]]);have d:ext h (h++[qG 4 [AQ e]]++[qG 1 [[.sl m 2 (l.map FV)]]]):=((ext.rfl' h).app _).app _;refine EG @bxE A5W A55 A3C ?_
 generalize h++[qG 4 [AQ e]]++[qG 1 [[.sl m 2 (l.map FV)]]]=H at a b d|-
 generalize (h++[qG 4 [AQ e]]).length=sb at b|-
 refine AY (IC a) ?_;refine(PY G k e H i).uu ?_;cases c:(exE e==0)
 .have g:exE e≠0:=BL c
  simp only[vQ,rO,pT,CQ,↓reduceIte,jC,bne,c];exact⟨by unfold evE;rw[if_pos g];rfl,d⟩
 have f:exE e=0:=BL c;simp only[vQ,CQ,↓reduceIte,jC,qN,enP,bne,c,IC a,bX b];refine(known_prog G l m e H j i).uu ?_;cases hk:(pre e).all (knE l)
 .refine AB ?_
  exact⟨by unfold evE;rw[if_neg (BL f),if_neg (by rw[hk];decide)];rfl,d⟩
 refine A7 (IC a) (bX b) ?_;refine(AB7 G l m j e i (bA f) H).uu ?_;exact⟨by unfold evE;rw[if_neg (BL f),if_pos hk];rfl,d⟩
theorem AUP (op:Int)(h:Hp):PCall (En G) 312 [.n op] h (.bool ((op==1)||KW op)):=by
 refine acT Tryz.func312 2 ?_;refine AB ?_;cases a:(op==1)
 .refine A7 @Bool.false_or a ?_
  refine(aQ G op h).uu ?_;exact⟨AC,trivial⟩
 .refine AY a ?_
  exact⟨AC,trivial⟩
def lfE (l:List Sg)(e:Ex)(a:List Nat):Nat×Int:=if knE l e=true then (dT l e.op e.n e.name a,0) else (0,7)
theorem AR3 (l:List Sg)(m:SM)(e:Ex)(d:List Nat)(v:AV)(Q h:Hp)(L:l.length<=1099511627776)(b:∀s∈l,AJR s)(i:e.name.size<=1048576)(g:II e=0)(V:e.op=1\/e.op=2\/e.op=3\/e.op=24)(R:d.length=e.args.length)(ho:outG 1 O3 Q d v h) :
  PCall (En G) 313 [.agg (AQ e),.sl m 2 (l.map FV),v] h (evV (lfE l e d)):=by
 refine SE 2 (AA6 _) ?_;obtain⟨o1,o3,_⟩:=node_ops g;refine acL Tryz.func313 [.tmp 6,.tmp 7] ?_;have K:=AZ h (qG 4 [AQ e]);have p:=Sm.ext.r1 h (qG 4 [AQ e]);have B:=ho.app [qG 4 [AQ e]];refine AY @bxE ?_
 generalize h++[qG 4 [AQ e]]=H at K p B|-
 have E:BO jA H 3 (.ptr h.length 0 0)=some (.n e.op):=by rw[BK ag3 K (row:=AQ e) rfl,KD]
 have l1:BO jA H 3 (.ptr h.length 0 1)=some (.n e.n):=by rw[BK ag3 K (row:=AQ e) rfl,cC]
 have M:BO jA H 9 (.ptr h.length 0 2)=some (.str e.name):=by rw[BK ag9 K (row:=AQ e) rfl,SG]
 refine AY E ?_;by_cases e1:e.op=1
 .have J:(e.op==1)=true:=BL e1
  have hk:knE l e=true:=by unfold knE;rw[if_neg U,if_neg U]
  have:=o1 e1;refine A7 J l1 ?_;refine⟨?_,p⟩;unfold lfE dT evV;rw[if_pos hk,if_pos e1];congr 3;show e.n=((e.n.toNat%65536:Nat):Int);omega
 have J:(e.op==1)=false:=BL e1;by_cases e2:e.op=2
 .have N:(e.op==2)=true:=BL e2
  have a:knE l e=(MQ l e.name).2:=by unfold knE;rw[if_pos e2]
  refine EG J N E M ?_;refine(pK G l m _ H L b).use ?_;unfold VQ;refine AB ?_;cases hk:(MQ l e.name).2
  .refine AB ?_
   exact⟨by unfold lfE;rw[if_neg (by rw[a,hk];decide)];rfl,p⟩
  .refine AB ?_
   exact⟨by unfold lfE dT;rw[if_pos (by rw[a,hk]),if_neg e1,if_pos e2];rfl,p⟩
 have N:(e.op==2)=false:=BL e2
 have a:knE l e=(MQ l (elN e.name 0)).2:=by
  unfold knE;rw[if_neg e2,if_pos U];unfold atG;rw[if_neg U];rfl
 refine EG J N E M ?_;refine(lP G e.name 0 U H i).uu ?_;refine(pK G l m _ H L b).use ?_;unfold VQ;refine AB ?_;cases hk:(MQ l (elN e.name 0)).2
 .refine AB ?_
  exact⟨by unfold lfE;rw[if_neg (by rw[a,hk];decide)];rfl,p⟩
 have A:knE l e=true:=by rw[a,hk]
 by_cases e3:e.op=3
 .have O:(e.op==3)=true:=BL e3
  have f:d.length=1:=by rw[R,o3 e3]
  obtain⟨o,rfl,C⟩:∃o,v=.own o 0 1/\H[o]?=some (qG 1 (d.map O3)):=by
   rcases B with⟨Q,_⟩|⟨_,o,_,rfl,Z⟩
   .rw[Q] at f;simp at f
   .exact⟨o,by rw[f],Z⟩
  have c:0<d.length:=U;have i0:JD 1 H (.own o 0 1) (.n 0)=some (.ptr o 0 0):=GN (n:=0) C DU
  have Y:BO jA H 3 (.ptr o 0 0)=some (.n (d.getD 0 0:Nat)):=by
   rw[BK ag3 C (row:=O3 d[0]) (row_map c),wO,jO c];rfl
  refine A7 E O ?_;refine DR BC ?_;refine DC M i0 Y ?_;refine⟨_,lC G l m _ _ H L b i,?_⟩
  try refine AB ?_
  exact⟨by unfold lfE dT;rw[if_pos A,if_neg e1,if_neg e2,if_pos e3];rfl,p⟩
 have O:(e.op==3)=false:=BL e3;have P:e.op=24:=U;refine A7 E O ?_;refine BB (fun k F I=>∃j,k+j=8/\F 1=.sl m 2 (l.map FV)/\F 3=.ptr h.length 0 0/\F 12=.n (sumTo l e.name j:Nat)/\F 13=.n (j:Nat)/\I=H) 8 ⟨0,BA,AO,AO,AO,AO,rfl⟩ ?_;rintro k F I ⟨j,hj,S,T,f12,f13,rfl⟩;refine AY f13 ?_;refine BH ?_ ?_<;>intro X
 .have q:j<8:=by simp at X;omega
  refine H7 S T f12 f13 M ?_;refine(lC G l m _ _ I L b i).uu ?_;refine(A0O G _ _ (nJ l _ j) (AJB l _ (j:Nat)) I).use ?_;refine H7 S T f12 f13 (C9 j) ?_;exact⟨k-1,U,j+1,U,AC,AC,AC,AC,trivial⟩
 .have q:j=8:=by simp at X;omega
  subst q;refine AY f12 ?_;exact⟨by unfold lfE dT;rw[if_pos A,if_neg e1,if_neg e2,if_neg e3,if_pos P];rfl,p⟩
def vlE (l:List Sg)(e:Ex):Nat×Int:=if(pre e).all (knE l)=true then (TN l e,0) else (0,7)
theorem WU:∀xs:List Ex,xs.length<=(FT xs).length
 | []=>by simp [FT]
 | x::xs=>by
   have:=WU xs;simp only[FT,jW,zF,pre_eq x];omega
theorem QV {a:Ex}:∀ {xs:List Ex},a∈xs->(pre a).length<=(FT xs).length
 | x::xs,h=>by
   simp only[FT,jW];rcases zO.1 h with rfl|h
   .omega
   .have:=QV h;omega
theorem AKQ (l:List Sg)(e:Ex):(pre e).all (knE l)=(knE l e&&(FT e.args).all (knE l)):=by rw[pre_eq];rfl
theorem AMW (l:List Sg)(m:SM)(hl:l.length<=1099511627776)(a5:∀s∈l,AJR s)(e:Ex):(pre e).length<=1048576->(∀x∈pre e,x.name.size<=1048576)->(∀x∈pre e,II x=0)->∀h:Hp,PCall (En G) 275 [.agg (AQ e),.sl m 2 (l.map FV)] h (evV (vlE l e)):=by
 induction e using Ex.induct with|h e ih=>?_
 intro hw Q I h;have a6:=congrArg List.length (pre_eq e);rw[zF] at a6;have a9:e.args.length<=1048576:=by have:=WU e.args;omega
 have p:=I e (by rw[pre_eq];simp);obtain⟨o1,o3,oo⟩:=node_ops p;refine SE 2 (AA6 _) ?_;refine acL Tryz.func275 [.tmp 4,.tmp 5] ?_;have V:=AZ h (qG 4 [AQ e]);have J:=Sm.ext.r1 h (qG 4 [AQ e]);refine AY @bxE ?_
 generalize h++[qG 4 [AQ e]]=H1 at V J|-
 generalize h.length=eb at V|-
 refine EK 0 (fun F H=>∃v,F 1=.sl m 2 (l.map FV)/\F 2=.ptr eb 0 0/\F 6=v/\ext H1 H/\outG 1 O3 H1 (MP l e.args) v H/\(FT e.args).all (knE l)=true) (fun F H=>F 4=.n 0/\F 5=.n 7/\ext H1 H/\(FT e.args).all (knE l)=false) ?_ ?_ ?_
 .refine BB (fun k F H=>∃j v,k+j=e.args.length/\F 1=.sl m 2 (l.map FV)/\F 2=.ptr eb 0 0/\F 6=v/\F 7=.n (j:Nat)/\ext H1 H/\outG 1 O3 H1 (MP l (e.args.take j)) v H/\(FT (e.args.take j)).all (knE l)=true) e.args.length
   ⟨0,.sl .nil 0 [],BA,AO,AO,AO,AO,ext.rfl' H1,outG.nil _ _ _ _,rfl⟩ ?_
  rintro k F H ⟨j,v,hj,M,E,N,Z,d,K,f⟩;have B:=DW d V;have l3:BO jA H 23 (.ptr eb 0 3)=some (.sl e.m 4 (e.args.map AQ)):=by rw[BK LU B (row:=AQ e) rfl,YL]
  refine DC E Z l3 ?_;refine DX ?_ ?_<;>intro i
  .have g:e.args[j]∈e.args:=jH i
   have a7:(MP l (e.args.take j)).length<8388608:=by rw[aH];simp;omega
   have C:FT e.args=FT (e.args.take j)++(pre e.args[j]++FT (e.args.drop (j+1))):=by
    rw[<-List.append_assoc,<-LH _ _ i,<-NQ,List.take_append_drop]
   obtain⟨v',H',ha,a3,_,a8,_,_⟩:=K.append (P:=jA) gH sz3 xY rM U a7 d (TN l e.args[j]);have a0:EH jA true H 32 32 v (.sl .full 1 [[.n ((TN l e.args[j]:Nat):Int)]])=some (v',H'):=ha;simp only[vQ,CQ,↓reduceIte,jC,enP,PU,UG,M,E,Z,l3,CP i,DL NI GZ EC i];refine(ih e.args[j] g (by have:=QV g;omega) (fun x J=>Q x (by rw[pre_eq];exact List.mem_cons_of_mem _ (VO g x J))) (fun x J=>I x (by rw[pre_eq];exact List.mem_cons_of_mem _ (VO g x J))) _).use ?_;unfold vlE;cases hk:(pre e.args[j]).all (knE l)
   .simp only[Bool.false_eq_true,if_false,evV]
    simp only[vQ,wQ,List.getElem?_cons_succ,rO,AW6,AKL,CQ,PO,VX,↓reduceIte,jC,enP,Int.reduceBNe,qW];exact⟨AC,AC,d,by rw[C,List.all_append,List.all_append,hk];simp⟩
   .simp only[if_true,evV]
    simp only[vQ,wQ,List.getElem?_cons_succ,CQ,PO,VX,↓reduceIte,jC,enP,Int.reduceBNe,qW,bne_self_eq_false,N,AI7,a0,M,E,Z,C9 j];exact⟨k-1,U,j+1,v',U,AC,AC,AC,AC,a8,by rw[nE _ _ _ i];exact a3,by rw[LH _ _ i,List.all_append,f,hk];rfl⟩
  .rw[jK U] at K f
   refine AB ?_;exact⟨v,M,E,N,d,K,f⟩
 .rintro F H ⟨v,M,E,N,d,K,f⟩
  have B:=DW d V;have T:=J.trans d;have l0:BO jA H 3 (.ptr eb 0 0)=some (.n e.op):=by rw[BK ag3 B (row:=AQ e) rfl,KD]
  have S:=aH l e.args;have R:(pre e).all (knE l)=knE l e:=by rw[AKQ,f,Bool.and_true]
  refine A7 E l0 ?_;refine(AUP G e.op H).uu ?_;cases X:((e.op==1)||KW e.op)
  .have a2:e.op≠1/\e.op≠2/\e.op≠3/\e.op≠24:=by
    unfold KW at X;simp at X;omega
   obtain⟨e1,Y,e3,L⟩:=a2;have A:AGU e.op (MP l e.args).length:=by rw[S];exact oo e1 Y e3 L
   obtain⟨o,rfl,a4⟩:∃o,v=.own o 0 (MP l e.args).length/\H[o]?=some (qG 1 ((MP l e.args).map O3)):=by
    rcases K with⟨h0,_⟩|⟨_,o,_,rfl,hb⟩
    .exfalso
     rw[h0] at A;obtain⟨a,b,c⟩:=A;by_cases q:e.op=22
     .have:=a q;simp at this
     by_cases q':e.op=23
     .have:=b q';simp at this
     .have:=c q q';simp at this
    .exact⟨o,rfl,hb⟩
   refine DC E l0 N ?_;refine(ARD G e.op _ o H a4 (AB8 l _) U A).uu ?_;have hk:knE l e=true:=by unfold knE;rw[if_neg Y,if_neg U]
   refine⟨?_,T⟩;unfold vlE;rw[R,if_pos hk,aI];unfold dT;rw[if_neg e1,if_neg Y,if_neg e3,if_neg L];rfl
  .have O:e.op=1\/e.op=2\/e.op=3\/e.op=24:=by
    unfold KW at X;simp at X;omega
   refine EG M E N (IC B) ?_;refine(AR3 G l m e _ v H1 H hl a5 (Q e (by rw[pre_eq];simp)) p O S K).use ?_;have a1:lfE l e (MP l e.args)=vlE l e:=by unfold lfE vlE;rw[R,aI]
   rw[a1];unfold evV;refine AB ?_;exact⟨AC,T⟩
 .rintro F H ⟨f4,f5,d,f⟩
  refine A7 f4 f5 ?_;exact⟨by unfold vlE;rw[AKQ,f,Bool.and_false];rfl,J.trans d⟩
theorem APQ (l:List Sg)(m:SM)(e:Ex)(h:Hp)(p:l.length<=1099511627776)(g:∀s∈l,AJR s)(j:WN e):PCall (En G) 209 [.agg (AQ e),.sl m 2 (l.map FV)] h (evV (evE l e)):=by
 refine SE 2 (AA6 _) ?_;refine acL Tryz.func209 [.tmp 4,.tmp 5] ?_;have d:=AZ h (qG 4 [AQ e]);have i:=Sm.ext.r1 h (qG 4 [AQ e]);refine AY @bxE ?_
 generalize h++[qG 4 [AQ e]]=H at d i|-
 refine AY (IC d) ?_;refine(X9 G e H j).uu ?_;cases c:(exE e==0)
 .have f:exE e≠0:=BL c
  simp only[vQ,pT,CQ,↓reduceIte,jC,bne,c];exact⟨by unfold evE;rw[if_pos f];rfl,i⟩
 have a:exE e=0:=BL c;simp only[vQ,CQ,↓reduceIte,jC,qN,enP,bne,c,IC d]
 have b:(pre e).length<=1048576:=by
  unfold exE at a;split at a
  .cases a
  .omega
 refine(AMW G l m p g e b j.2 (bA a) H).use ?_;have k:evE l e=vlE l e:=by unfold evE vlE;rw[if_neg (BL a)]
 rw[k];unfold evV;refine AB ?_;exact⟨AC,i⟩
theorem AVA (l:List Sg)(m:SM)(e:Ex)(h:Hp)(b:l.length<=1099511627776)(a:∀s∈l,AJR s)(c:wt e<=1048576):PCall (En G) 209 [.agg (AQ e),.sl m 2 (l.map FV)] h (evV (evE l e)):=APQ G l m e h b a (AGQ c)
end
end Go.Proofs.YtiihpnicbekebaaGreatDoor.Xe
namespace Go.Proofs.YtiihpnicbekebaaGreatDoor.Bd
open Sm Bins Cov Xe Go.RowKit
variable {h:Hp} {i j k n:Nat} {a s:ByteArray} {x:Int} (G:Nat->AV )
structure Vr where
 name:ByteArray
 width:Int
 mode:Int
 value:Int
def encV (v:Vr):List AV:=[.str v.name,.n v.width,.n v.mode,.n v.value]
theorem encV_len (v:Vr):(encV v).length=4:=rfl
theorem encV0 (v:Vr):(encV v)[0]?=some (.str v.name):=rfl
theorem encV1 (v:Vr):(encV v)[1]?=some (.n v.width):=rfl
theorem encV2 (v:Vr):(encV v)[2]?=some (.n v.mode):=rfl
theorem encV3 (v:Vr):(encV v)[3]?=some (.n v.value):=rfl
structure Wg where
 lo:Int
 hi:Int
 w:Int
 each:Bool
def I9 (x:Wg):List AV:=[.n x.lo,.n x.hi,.n x.w,.bool x.each]
theorem iN (x:Wg):(I9 x).length=4:=rfl
structure Ds where
 var:Int
 wm:SM
 ws:List Wg
def IY (d:Ds):List AV:=[.n d.var,.sl d.wm 4 (d.ws.map I9)]
theorem RI (d:Ds):(IY d).length=2:=rfl
structure Gp where
 m:SM
 l:List Int
def TZ (g:Gp):List AV:=[.sl g.m 1 (g.l.map qencI)]
structure Pr where
 vm:SM
 vars:List Vr
 hm:SM
 hard:List Ex
 sm:SM
 soft:List Ex
 dm:SM
 dists:List Ds
 gm:SM
 groups:List Gp
def CW (p:Pr):List AV:=[.sl p.vm 4 (p.vars.map encV),.sl p.hm 4 (p.hard.map AQ),.sl p.sm 4 (p.soft.map AQ),.sl p.dm 2 (p.dists.map IY),.sl p.gm 1 (p.groups.map TZ)]
theorem MG (p:Pr):(CW p).length=5:=rfl
theorem bxV (h:Hp)(v:Vr):OU h (.agg (encV v))=some (.ptr h.length 0 0,h++[qG 4 [encV v]]):=rfl
theorem A5E (h:Hp)(v:Wg):OU h (.agg (I9 v))=some (.ptr h.length 0 0,h++[qG 4 [I9 v]]):=rfl
theorem bxD (h:Hp)(v:Ds):OU h (.agg (IY v))=some (.ptr h.length 0 0,h++[qG 2 [IY v]]):=rfl
theorem PZ (h:Hp)(p:Pr):OU h (.agg (CW p))=some (.ptr h.length 0 0,h++[qG 5 [CW p]]):=rfl
def PW {α:Type}(p:α->Bool):List α->Int
 | [] => -1
 | x::r=>if p x=true then 0 else if PW p r<0 then -1 else PW p r+1
theorem TT {α:Type}(p:α->Bool):∀(xs:List α) (k:Nat) (hk:k<xs.length),(∀(j:Nat) (d:j<k),p (xs[j]'U)=false)->p xs[k]=true->PW p xs=k
 | x::r,0,_,_,h=>by
   have h:p x=true:=h;simp [PW,h]
 | x::r,k+1,hk,b,h=>by
   have c:p x=false:=b 0 U;have e:=TT p r k (BL hk) (fun j d=>b (j+1) U) h;simp only[PW,c,e,Bool.false_eq_true,if_false];rw[if_neg U];omega
theorem SS {α:Type}(p:α->Bool):∀(xs:List α),(∀(j:Nat) (c:j<xs.length),p xs[j]=false)->PW p xs = -1
 | [],_=>rfl
 | x::r,b=>by
   have d:p x=false:=b 0 BA;have e:=SS p r (fun j c=>b (j+1) (BL c));simp [PW,d,e]
theorem TU {α:Type}(p:α->Bool):∀xs:List α,decide (PW p xs≥0)=xs.any p
 | []=>rfl
 | x::r=>by
   have d:=TU p r;rw[List.any_cons,<-d];rcases Bool.eq_false_or_eq_true (p x) with b|b
   .have c:PW p (x::r)=0:=by simp [PW,b]
    rw[c,b];rfl
   .have c:PW p (x::r)=if PW p r<0 then -1 else PW p r+1:=by simp [PW,b]
    rw[c,b,wF];by_cases h:PW p r<0
    .rw[if_pos h,decide_eq_false U,decide_eq_false U]
    .rw[if_neg h,decide_eq_true U,decide_eq_true U]
theorem ZP {α:Type}(p:α->Bool):∀(xs:List α),0<=PW p xs->∃k,∃hk:k<xs.length,PW p xs=(k:Nat)/\p xs[k]=true/\∀(j:Nat) (c:j<k),p (xs[j]'U)=false
 | [],h=>by simp [PW] at h
 | x::r,h=>by
   cases b:p x with
   | true=>exact⟨0,BA,by simp [PW,b],b,fun j c=>absurd c U⟩
   | false =>
     have f:PW p (x::r)=if PW p r<0 then -1 else PW p r+1:=by simp [PW,b]
     rw[f] at h|-
     split at h
     .omega
     .rename_i g
      rw[if_neg g];obtain⟨k,hk,l,d,e⟩:=ZP p r U;refine⟨k+1,BL hk,U,d,fun j c=>?_⟩
      cases j with
      | zero=>exact b
      | succ j=>exact e j U
theorem iD {α:Type}(p:α->Bool)(xs:List α)(h:PW p xs<0):∀x∈xs,p x=false:=by
 intro x b;have:=TU p xs;rw[decide_eq_false U] at this;have:=qQ.1 this.symm x b;simpa using this
theorem vN (xs:List Vr)(m:SM)(d:FuncId)(b:List AV)(p:Vr->Bool)(h:Hp)(K:xs.length<=1099511627776)(J:∀x∈xs,PCall (En G) d ([.agg (encV x)]++b) h (.bool (p x))):
  PCall (En G) 101 [.sl m 4 (xs.map encV),.fn (.func d) [] b] h (.n (PW p xs)):=by
 refine acT Tryz.func101 4 ?_;refine AB ?_;refine BB (fun n F H=>∃k,n+k=xs.length/\(∀(j:Nat) (e:j<k) (A:j<xs.length),p xs[j]=false)/\F 0=.sl m 4 (xs.map encV)/\F 1=.fn (.func d) [] b/\F 7=.n (xs.length:Nat)/\F 8=.n (k:Nat)/\H=h) xs.length ⟨0,BA,fun j e=>absurd e U,AO,AO,AO,AO,rfl⟩ ?_;rintro n F H ⟨k,hk,g,C,E,I,f,rfl⟩;refine A7 I f ?_;refine BH ?_ ?_<;>intro q
 .have c:k<xs.length:=BL q
  simp only[vQ,CQ,qI,zG,↓reduceIte,jC,enP,bM,C,E,f,CP c,DL A0L ACG encV_len c];refine(J _ (jH c)).uu ?_;refine BH ?_ ?_<;>intro B
  .refine AY f ?_
   exact⟨by rw[TT p xs k c (fun j e=>g j e U) B],trivial⟩
  .refine A7 f (C9 k) ?_
   refine⟨n-1,U,k+1,U,fun j e A=>?_,AC,AC,AC,rfl,trivial⟩;rcases zA j k with l|l
   .exact g j l A
   .obtain rfl:j=k:=U
    exact B
 .refine AB ?_
  have c:¬k<xs.length:=BL q;exact⟨by rw[SS p xs fun j e=>g j U e],trivial⟩
theorem ALF (xs:List Vr)(m:SM)(c:FuncId)(b:List AV)(p:Vr->Bool)(h:Hp)(e:xs.length<=1099511627776)(d:∀x∈xs,PCall (En G) c ([.agg (encV x)]++b) h (.bool (p x))):
  PCall (En G) 151 [.sl m 4 (xs.map encV),.fn (.func c) [] b] h (.bool (xs.any p)):=by
 refine acT Tryz.func151 4 ?_;refine AB ?_;refine(vN G xs m c b p h e d).use ?_;refine AY @TU ?_;exact G7
theorem AIA (xs:List Ds)(m:SM)(d:FuncId)(b:List AV)(p:Ds->Bool)(h:Hp)(K:xs.length<=1099511627776)(J:∀x∈xs,PCall (En G) d ([.agg (IY x)]++b) h (.bool (p x))):
  PCall (En G) 237 [.sl m 2 (xs.map IY),.fn (.func d) [] b] h (.n (PW p xs)):=by
 refine acT Tryz.func237 4 ?_;refine AB ?_;refine BB (fun n F H=>∃k,n+k=xs.length/\(∀(j:Nat) (e:j<k) (A:j<xs.length),p xs[j]=false)/\F 0=.sl m 2 (xs.map IY)/\F 1=.fn (.func d) [] b/\F 7=.n (xs.length:Nat)/\F 8=.n (k:Nat)/\H=h) xs.length ⟨0,BA,fun j e=>absurd e U,AO,AO,AO,AO,rfl⟩ ?_;rintro n F H ⟨k,hk,g,C,E,I,f,rfl⟩;refine A7 I f ?_;refine BH ?_ ?_<;>intro q
 .have c:k<xs.length:=BL q
  simp only[vQ,CQ,qI,zG,↓reduceIte,jC,enP,AH7,C,E,f,CP c,DL AGJ dY RI c];refine(J _ (jH c)).uu ?_;refine BH ?_ ?_<;>intro B
  .refine AY f ?_
   exact⟨by rw[TT p xs k c (fun j e=>g j e U) B],trivial⟩
  .refine A7 f (C9 k) ?_
   refine⟨n-1,U,k+1,U,fun j e A=>?_,AC,AC,AC,rfl,trivial⟩;rcases zA j k with l|l
   .exact g j l A
   .obtain rfl:j=k:=U
    exact B
 .refine AB ?_
  have c:¬k<xs.length:=BL q;exact⟨by rw[SS p xs fun j e=>g j U e],trivial⟩
theorem ASQ (xs:List Ds)(m:SM)(c:FuncId)(b:List AV)(p:Ds->Bool)(h:Hp)(e:xs.length<=1099511627776)(d:∀x∈xs,PCall (En G) c ([.agg (IY x)]++b) h (.bool (p x))):
  PCall (En G) 159 [.sl m 2 (xs.map IY),.fn (.func c) [] b] h (.bool (xs.any p)):=by
 refine acT Tryz.func159 4 ?_;refine AB ?_;refine(AIA G xs m c b p h e d).use ?_;refine AY @TU ?_;exact G7
theorem AEJ (xs:List Wg)(m:SM)(d:FuncId)(b:List AV)(p:Wg->Bool)(h:Hp)(K:xs.length<=1099511627776)(J:∀x∈xs,PCall (En G) d ([.agg (I9 x)]++b) h (.bool (p x))):
  PCall (En G) 178 [.sl m 4 (xs.map I9),.fn (.func d) [] b] h (.n (PW p xs)):=by
 refine acT Tryz.func178 4 ?_;refine AY vB ?_;refine BB (fun n F H=>∃k,n+k=xs.length/\(∀(j:Nat) (e:j<k) (A:j<xs.length),p xs[j]=false)/\F 0=.sl m 4 (xs.map I9)/\F 1=.fn (.func d) [] b/\F 7=.n (xs.length:Nat)/\F 8=.n (k:Nat)/\H=h) xs.length ⟨0,BA,fun j e=>absurd e U,AO,AO,AO,AO,rfl⟩ ?_;rintro n F H ⟨k,hk,g,C,E,I,f,rfl⟩;refine A7 I f ?_;refine BH ?_ ?_<;>intro q
 .have c:k<xs.length:=BL q
  simp only[vQ,CQ,qI,zG,↓reduceIte,jC,enP,vG,C,E,f,CP c,DL A0K AKA iN c];refine(J _ (jH c)).uu ?_;refine BH ?_ ?_<;>intro B
  .refine AY f ?_
   exact⟨by rw[TT p xs k c (fun j e=>g j e U) B],trivial⟩
  .refine A7 f (C9 k) ?_
   refine⟨n-1,U,k+1,U,fun j e A=>?_,AC,AC,AC,rfl,trivial⟩;rcases zA j k with l|l
   .exact g j l A
   .obtain rfl:j=k:=U
    exact B
 .refine AB ?_
  have c:¬k<xs.length:=BL q;exact⟨by rw[SS p xs fun j e=>g j U e],trivial⟩
theorem A1R (xs:List Wg)(m:SM)(c:FuncId)(b:List AV)(p:Wg->Bool)(h:Hp)(e:xs.length<=1099511627776)(d:∀x∈xs,PCall (En G) c ([.agg (I9 x)]++b) h (.bool (p x))):
  PCall (En G) 238 [.sl m 4 (xs.map I9),.fn (.func c) [] b] h (.bool (xs.any p)):=by
 refine acT Tryz.func238 4 ?_;refine AB ?_;refine(AEJ G xs m c b p h e d).use ?_;refine AY @TU ?_;exact G7
theorem AZY {xs:List ByteArray}(hk:k<xs.length):BO jA h 9 (.fptr 1 (xs.map qencStr) k 0)=some (.str xs[k]):=by rw[BR ag9 hk];rfl
theorem AOG (xs:List ByteArray)(m:SM)(d:FuncId)(b:List AV)(p:ByteArray->Bool)(h:Hp)(K:xs.length<=1099511627776)(J:∀x∈xs,PCall (En G) d ([.str x]++b) h (.bool (p x))):
  PCall (En G) 236 [.sl m 1 (xs.map qencStr),.fn (.func d) [] b] h (.n (PW p xs)):=by
 refine acT Tryz.func236 4 ?_;refine AB ?_;refine BB (fun n F H=>∃k,n+k=xs.length/\(∀(j:Nat) (e:j<k) (A:j<xs.length),p xs[j]=false)/\F 0=.sl m 1 (xs.map qencStr)/\F 1=.fn (.func d) [] b/\F 7=.n (xs.length:Nat)/\F 8=.n (k:Nat)/\H=h) xs.length ⟨0,BA,fun j e=>absurd e U,AO,AO,AO,AO,rfl⟩ ?_;rintro n F H ⟨k,hk,g,C,E,I,f,rfl⟩;refine A7 I f ?_;refine BH ?_ ?_<;>intro q
 .have c:k<xs.length:=BL q
  simp only[vQ,CQ,qI,zG,↓reduceIte,jC,enP,bY,C,E,f,CP c,AZY c];refine(J _ (jH c)).uu ?_;refine BH ?_ ?_<;>intro B
  .refine AY f ?_
   exact⟨by rw[TT p xs k c (fun j e=>g j e U) B],trivial⟩
  .refine A7 f (C9 k) ?_
   refine⟨n-1,U,k+1,U,fun j e A=>?_,AC,AC,AC,rfl,trivial⟩;rcases zA j k with l|l
   .exact g j l A
   .obtain rfl:j=k:=U
    exact B
 .refine AB ?_
  have c:¬k<xs.length:=BL q;exact⟨by rw[SS p xs fun j e=>g j U e],trivial⟩
theorem AXG (xs:List ByteArray)(m:SM)(c:FuncId)(b:List AV)(p:ByteArray->Bool)(h:Hp)(e:xs.length<=1099511627776)(d:∀x∈xs,PCall (En G) c ([.str x]++b) h (.bool (p x))):
  PCall (En G) 155 [.sl m 1 (xs.map qencStr),.fn (.func c) [] b] h (.bool (xs.any p)):=by
 refine acT Tryz.func155 4 ?_;refine AB ?_;refine(AOG G xs m c b p h e d).use ?_;refine AY @TU ?_;exact G7
def dgS (k:Nat):ByteArray:=⟨#[UInt8.ofNat (48+k)]⟩
def AMG:ByteArray:=⟨#[48,49,50,51,52,53,54,55,56,57,97,98,99,100,101,102,103,104,105,106,107,108,109,110,111,112,113,114,115,116,117,118,119,120,121,122]⟩
theorem sl36:∀(k:Nat),k<8->∀h:Hp,IP jA h 9 (.str AMG) (some (.n (k:Nat))) (some (.n ((k+1:Nat):Int))) none=some (.str (dgS k))
 | 0,_,h=>BC
 | 1,_,h=>BC
 | 2,_,h=>BC
 | 3,_,h=>BC
 | 4,_,h=>BC
 | 5,_,h=>BC
 | 6,_,h=>BC
 | 7,_,h=>BC
 | n+8,q,_=>absurd q U
theorem AG6 (k:Nat)(hk:k<8)(h:Hp):PCall (En G) 396 [.n (k:Nat)] h (.str (dgS k)):=by
 refine acT Tryz.func396 2 ?_;have b:decide (((k:Nat):Int)<10)=true:=by simp;omega
 have:=sl36 k hk h;unfold AMG at this;refine DC b (C9 k) @this ?_;exact G7
theorem APO (k:Nat)(hk:k<8)(h:Hp):PCall (En G) 288 [.n (k:Nat)] h (.str (dgS k)):=by
 have e:PCall (En G) 358 [.n (k:Nat),.n 10] h (.str (dgS k)):=by
  refine acT Tryz.func358 4 ?_;have b:((10:Int)==10)=true:=rfl;have c:decide ((0:Int)<=((k:Nat):Int))=true:=BA;have d:decide (((k:Nat):Int)<100)=true:=by simp;omega
  refine DC b c d ?_;refine(AG6 G k hk h).uu ?_;exact G7
 have f:PCall (En G) 324 [.n (k:Nat)] h (.str (dgS k)):=by
  refine acT Tryz.func324 2 ?_;refine AB ?_;refine e.uu ?_;exact G7
 refine acT Tryz.func288 2 ?_;refine AB ?_;refine f.uu ?_;exact G7
theorem APD (k:Nat)(hk:k<8)(h:Hp):PCall (En G) 330 [.n (k:Nat)] h (.n (-(k:Int))):=by
 refine acT Tryz.func330 2 ?_;refine AB ?_;refine BH ?_ ?_<;>intro b
 .have e:IntKind.i64.wrap (0-((k:Nat):Int)) = -(k:Int):=by rw[wrap_i64 U U];omega
  refine A7 @AG3 e ?_;exact G7
 .have e:((k:Nat):Int) = -(k:Int):=by
   have:¬((k:Nat):Int)>0:=BL b;omega
  refine AB ?_;exact⟨by rw[<-e],trivial⟩
theorem AJW (k:Nat)(hk:k<8)(h:Hp):PCall (En G) 307 [.n (k:Nat)] h (.str (dgS k)):=by
 refine acT Tryz.func307 2 ?_;refine AB ?_;refine(APD G k hk h).uu ?_;refine BB (fun n F H=>n=0/\F 0=.n (k:Nat)/\F 3=.str ⟨#[]⟩/\F 4=.n (-(k:Int))/\H=h) 0 ⟨rfl,AO,AO,AO,rfl⟩ ?_;rintro n F H ⟨rfl,f,g,l,rfl⟩;have c:(-(k:Int)).tmod 10 = -(k:Int):=by grind
 have d:(-(k:Int)).tdiv 10=0:=by grind
 have e:(48:Int) - -(k:Int)=48+(k:Int):=U;have q:IQ jA 3 .rem (.n (-(k:Int))) (.n 10)=some (.n (-(k:Int))):=by rw[bF _ _ _ _ _ DU,c]
 have A:IQ jA 3 .quo (.n (-(k:Int))) (.n 10)=some (.n 0):=by rw[ABM _ _ _ _ _ DU,d];rfl
 have b:IQ jA 9 .add (.str (dgS k)) (.str ⟨#[]⟩)=some (.str (dgS k)):=by
  rw[PN (by show 1+0<=_;omega)];congr 2
 have z:((0:Int)==0)=true:=rfl;have dc:=AFH k hk;change _=some (AV.str (dgS k)) at dc;have p:decide (((k:Nat):Int)<0)=false:=BA;simp only[vQ,RP,VF,kR,CQ,yA,MR,↓reduceIte,jC,enP,ATO,f,g,l,q,A,e,AT6,dc,b,z,p];exact G7
theorem AYS (a:ByteArray)(k:Nat)(b:a.size<=1048576):IQ jA 9 .add (.str a) (.str ⟨#[91]⟩)=some (.str (a++(⟨#[91]⟩:ByteArray)))/\IQ jA 9 .add (.str (a++(⟨#[91]⟩:ByteArray))) (.str (dgS k))=some (.str (a++(⟨#[91]⟩:ByteArray)++dgS k)) /\
  IQ jA 9 .add (.str (a++(⟨#[91]⟩:ByteArray)++dgS k)) (.str ⟨#[93]⟩)=some (.str (elN a k)) :=
 ⟨PN (by show a.size+1<=_;omega),PN (by rw[UT];show a.size+1+1<=_;omega),PN (by rw[UT,UT];show a.size+1+1+1<=_;omega)⟩
theorem iP (a:ByteArray)(k:Nat)(hk:k<8)(h:Hp)(e:a.size<=1048576):PCall (En G) 233 [.str a,.n (k:Nat)] h (.str (elN a k)):=by
 refine acT Tryz.func233 4 ?_;obtain⟨b,c,d⟩:=AYS a k e;refine AY b ?_;refine(APO G k hk h).use ?_;refine A7 c d ?_;exact G7
theorem qD (a:ByteArray)(k:Nat)(hk:k<8)(h:Hp)(e:a.size<=1048576):PCall (En G) 263 [.str a,.n (k:Nat)] h (.str (elN a k)):=by
 refine acT Tryz.func263 4 ?_;obtain⟨b,c,d⟩:=AYS a k e;refine AY b ?_;refine(AJW G k hk h).use ?_;refine A7 c d ?_;exact G7
theorem RJ (a:ByteArray)(k:Nat):(elN a k).data.toList=a.data.toList++[91,UInt8.ofNat (48+k),93]:=by
 unfold elN;simp [ByteArray.data_append]
theorem rZ {b:ByteArray}(h:a.data.toList=b.data.toList):a=b:=by
 obtain⟨⟨x⟩⟩:=a;obtain⟨⟨y⟩⟩:=b;have:x=y:=h;rw[this]
theorem AGC (a:ByteArray):(⟨a.data.toList.toArray⟩:ByteArray)=a:=by obtain⟨⟨x⟩⟩:=a;rfl
theorem AIU (hk:k<8):(UInt8.ofNat (48+k)).toNat=48+k:=by
 rw[UInt8.toNat_ofNat'];omega
theorem AL7 (b:i<8)(c:j<8)(h:elN a i=elN a j):i=j:=by
 have:=congrArg (fun x=>x.data.toList) h;simp only[RJ,List.append_cancel_left_eq,List.cons.injEq,and_true,true_and] at this;have:=congrArg UInt8.toNat this;rw[AIU b,AIU c] at this;omega
theorem wN (hk:k<8)(c:FI a=true):KE (elN a k)=some (a.data.toList,UInt8.ofNat (48+k)):=by
 have d:elN a k=⟨(a.data.toList++[91,UInt8.ofNat (48+k),93]).toArray⟩:=rZ (RJ a k);have b:a.data.toList≠[]:=(UQ (l:=a.data.toList) (by rw[AGC];exact c)).1;rw[d,fJ b,AGC,c,AIU hk];simp;omega
theorem PK {a:List UInt8}{d:UInt8}(h:KE s=some (a,d)):48<=d.toNat/\d.toNat-48<8/\FI ⟨a.toArray⟩=true/\s=elN ⟨a.toArray⟩ (d.toNat-48)/\a.length+3=s.size:=by
 unfold KE at h;split at h
 case isFalse=>cases h
 rename_i q;split at h
 case h_2=>cases h
 rename_i x p y g;split at h
 case isFalse=>cases h
 rename_i b;cases h;simp only[jX,beq_iff_eq,decide_eq_true_eq] at b;obtain⟨⟨⟨⟨rfl,rfl⟩,c⟩,l⟩,f⟩:=b;refine⟨c,U,f,rZ ?_,?_⟩
 .rw[RJ]
  have e:UInt8.ofNat (48+(d.toNat-48))=d:=by simp_all
  rw[e,<-g];simp
 .have:s.size=s.data.toList.length:=(Array.length_toList (xs:=s.data)).symm
  rw[this,jR];omega
theorem AF8 (a b:ByteArray):(a.toList==b.toList)=true↔a=b:=by
 rw[beq_iff_eq,ByteArray.toList_eq,ByteArray.toList_eq];exact⟨rZ,fun h=>by rw[h]⟩
def O8 (n:ByteArray)(v:Vr):Bool:=v.name.toList==n.toList
def plc (l:List Vr)(n:ByteArray):Int:=PW (O8 n) l
theorem A4V (v:Vr)(n:ByteArray)(c:Nat)(h:Hp)(d:h[c]?=some (qG 1 [[.str n]])):PCall (En G) 234 ([.agg (encV v)]++[.ptr c 0 0]) h (.bool (O8 n v)):=by
 refine ACalls.pure0 rfl ?_;refine acT Tryz.func234 3 ?_;have b:(h++[qG 4 [encV v]])[c]?=_:=AU d;refine LC @bxV @encV0 (IL ag9 b) ?_;exact⟨rfl,_,rfl⟩
theorem index_prog (l:List Vr)(m:SM)(n:ByteArray)(h:Hp)(b:l.length<=1099511627776):PCall (En G) 150 [.sl m 4 (l.map encV),.str n] h (.n (plc l n)):=by
 refine ACalls.pure0 rfl ?_;refine acT Tryz.func150 4 ?_;refine AY @AYN ?_;refine(vN G l m 234 [.ptr h.length 0 0] (O8 n) _ b fun x _=>A4V G x n h.length _ (AZ _ _)).uu ?_;exact⟨rfl,_,rfl⟩
theorem U9 (l:List Vr)(m:SM)(n:ByteArray)(h:Hp)(f:l.length<=1099511627776):PCall (En G) 192 [.sl m 4 (l.map encV),.str n] h (.n (plc l n)):=by
 refine acT Tryz.func192 4 ?_;refine AB ?_;refine BB (fun k F H=>∃j,k+j=l.length/\(∀(i:Nat) (c:i<j) (f:i<l.length),O8 n l[i]=false)/\F 0=.sl m 4 (l.map encV)/\F 1=.str n/\F 5=.n (j:Nat)/\H=h) l.length ⟨0,BA,fun i c=>absurd c U,AO,AO,AO,rfl⟩ ?_;rintro k F H ⟨j,E,e,g,B,d,rfl⟩;refine A7 g d ?_;refine BH ?_ ?_<;>intro q
 .have b:j<l.length:=BL q
  have C:BO jA H 9 (.fptr 4 (l.map encV) j 0)=some (.str l[j].name):=by rw[BR ag9 b];rfl
  refine Z9 g B d b C ?_;refine BH ?_ ?_<;>intro A
  .refine AY d ?_
   exact⟨by rw[plc,TT (O8 n) l j b (fun i c=>e i c U) A],trivial⟩
  .refine A7 d (C9 j) ?_
   refine⟨k-1,U,j+1,U,fun i c f=>?_,AC,AC,rfl,trivial⟩;rcases zA i j with p|p
   .exact e i p f
   .obtain rfl:i=j:=U
    exact A
 .refine AB ?_
  have b:¬j<l.length:=BL q;exact⟨by rw[plc,SS (O8 n) l fun i c=>e i U c],trivial⟩
theorem A17 (s:ByteArray):(Lib.cut s.data.toList [91]).1.length<=s.size:=by
 have:=AMA s.data.toList;have e:s.data.toList.length=s.size:=Array.length_toList;omega
theorem AH0 (A:GOk G)(s:ByteArray)(h:Hp)(S:s.size<=1048576):PCall (En G) 149 [.str s] h (.bool (F7 s)):=by
 refine acT Tryz.func149 2 ?_;refine AB ?_;refine(NR G A.kw s h U).use ?_;cases B:FI s
 case true =>
  refine AB ?_;exact⟨by unfold F7;rw[B,zT],trivial⟩
 have M:F7 s=(KE s).isSome:=by unfold F7;rw[B,zN]
 rw[M];clear B M;refine AB ?_;refine(rE G A s h S).use ?_;have q:=qT s;have p:=A17 s;unfold cutV
 generalize Lib.cut s.data.toList [91]=c at q p|-
 obtain⟨a,b,f⟩:=c;simp only at q p;refine AB ?_;cases f
 .refine AB ?_
  exact⟨by rw[q];rfl,trivial⟩
 refine AB ?_;refine(NR G A.kw ⟨a.toArray⟩ h (by rw[szl];omega)).uu ?_;cases l:FI ⟨a.toArray⟩
 .refine AB ?_
  exact⟨by rw[q,l];rfl,trivial⟩
 refine AB ?_;refine BB (fun n F H=>∃k,n+k=8/\(∀j,j<k->j<8->s≠elN ⟨a.toArray⟩ j)/\F 0=.str s/\F 3=.str ⟨a.toArray⟩/\F 22=.n (k:Nat)/\H=h) 8 ⟨0,BA,fun j L=>absurd L U,AO,AO,AO,rfl⟩ ?_;rintro n F H ⟨k,hk,J,E,Q,f22,rfl⟩;refine AY f22 ?_;refine BH ?_ ?_<;>intro K
 .have g:k<8:=by simp at K;omega
  refine DC E Q f22 ?_;refine(iP G ⟨a.toArray⟩ k g H (by rw[szl];omega)).use ?_;refine AY E ?_;refine BH ?_ ?_<;>intro C
  .refine AB ?_
   exact⟨by rw[(AF8 _ _).1 C,wN g l];rfl,trivial⟩
  .refine A7 f22 (C9 k) ?_
   refine⟨n-1,U,k+1,U,fun j L R=>?_,AC,AC,rfl,trivial⟩;rcases zA j k with I|I
   .exact J j I R
   .obtain rfl:j=k:=U
    intro e;rw[(AF8 _ _).2 e] at C;cases C
 .refine AB ?_
  have g:8<=k:=by simp at K;omega
  refine⟨?_,trivial⟩;rcases hcase:KE s with _|⟨N,d⟩
  .rfl
  .exfalso
   obtain⟨T,O,V,P,_⟩:=PK hcase;rw[q,l] at hcase
   have:N=a:=by
    simp only[Bool.and_true,if_true] at hcase;split at hcase
    .split at hcase
     .cases hcase;rfl
     .cases hcase
    .cases hcase
   subst this;exact J _ U O P
theorem A12 (e:i<(elN a k).size)(h:i=a.size):(elN a k)[i]=91:=by
 subst h
 have d:(elN a k).data.toList[a.size]?=some 91:=by
  rw[RJ,List.getElem?_append_right (by show a.data.toList.length<=a.data.size;simp)];have:a.size-a.data.toList.length=0:=by show a.data.size-a.data.toList.length=0;simp
  rw[this];rfl
 have c:(elN a k).data[a.size]?=some 91:=by rw[<-Array.getElem?_toList];exact d
 have b:a.size<(elN a k).data.size:=e;rw[Array.getElem?_eq_getElem b] at c;exact Option.some.inj c
theorem ABB (a:ByteArray)(k:Nat):(elN a k).extract 0 a.size=a:=by
 refine rZ ?_;have:(elN a k)=⟨(a.data.toList++[91,UInt8.ofNat (48+k),93]).toArray⟩:=rZ (RJ a k);rw[this];have e:a.size=a.data.toList.length:=(Array.length_toList (xs:=a.data)).symm;rw[e,AL0]
theorem APN (s:ByteArray)(h:Hp)(hl:s.size<=1048576):PCall (En G) 262 [.str s] h (.bool (F7 s)):=by
 refine acT Tryz.func262 2 ?_;refine AB ?_;refine(O9 G s h).use ?_;cases R:FI s
 case true =>
  refine AB ?_;exact⟨by unfold F7;rw[R,zT],trivial⟩
 have hv:F7 s=(KE s).isSome:=by unfold F7;rw[R,zN]
 rw[hv];clear R hv;refine AB ?_;refine BB (fun n F H=>∃k,1<=k/\n+k=s.size+1/\(∀a j,j<8->FI a=true->a.size<k->s≠elN a j)/\F 0=.str s/\F 3=.n (k:Nat)/\H=h) s.size ⟨1,U,U,fun a j g B I e=>?_,AO,AO,rfl⟩ ?_
 .have:=(UQ (l:=a.data.toList) (by rw[AGC];exact B)).1
  have K:a.data.toList.length=a.size:=Array.length_toList;have:=qR.2 this;omega
 rintro n F H ⟨k,a0,hk,hb,q,f,rfl⟩;refine A7 q f ?_;refine DX ?_ ?_<;>intro A
 .have c:∀b:Fr,b 0=.str s->b 3=.n (k:Nat)->(∀a j,j<8->FI a=true->a.size=k->s≠elN a j)->∃m,m<n/\∃J,1<=J/\m+J=s.size+1/\(∀a j,j<8->FI a=true->a.size<J->s≠elN a j)/\J=k+1:=fun b _ _ Q =>
   ⟨n-1,U,k+1,U,U,fun a j g B I=>by
    rcases zA a.size k with p|p
    .exact hb a j g B p
    .exact Q a j g B U,rfl⟩
  refine DC q f (ix9 s k .i64 A) ?_;refine IW ?_ ?_<;>intro O
  .refine DC O f (C9 k) ?_
   obtain⟨m,N,J,p,K,L,rfl⟩:=c F q f (fun a j g B I e=>by
    subst e;rw[A12 A I.symm] at O
    revert O;decide)
   exact⟨m,N,k+1,p,K,L,AC,rfl,trivial⟩
  simp only[vQ,zV,zY,EP,CQ,UM,↓reduceIte,jC,enP,O,q,f,nK (Nat.le_of_lt A)];refine(O9 G (s.extract 0 k) _).use ?_;refine AY O ?_;refine BH ?_ ?_<;>intro X
  .refine A7 f (C9 k) ?_
   obtain⟨m,N,J,p,K,L,rfl⟩:=c F q f (fun a j g B I e=>by
    subst e;subst I;rw[ABB,B] at X
    cases X)
   exact⟨m,N,k+1,p,K,L,AC,rfl,trivial⟩
  have S:FI (s.extract 0 k)=true:=BL X;refine AB ?_;refine EK 2 (fun b C=>b 0=.str s/\b 3=.n (k:Nat)/\C=H/\∀j,j<8->s≠elN (s.extract 0 k) j) (fun b C=>b 2=.bool (KE s).isSome/\C=H) ?_ ?_ ?_
  .refine BB (fun Y b C=>∃i,Y+i=8/\(∀j,j<i->j<8->s≠elN (s.extract 0 k) j)/\b 0=.str s/\b 3=.n (k:Nat)/\b 4=.n (i:Nat)/\C=H) 8 ⟨0,BA,fun j g=>absurd g U,D7 q,D7 f,AO,rfl⟩ ?_
   clear q f;rintro Y F H ⟨i,hi,M,q,f,P,rfl⟩;refine AY P ?_;refine BH ?_ ?_<;>intro hc
   .have E:i<8:=by simp at hc;omega
    simp only[vQ,zV,zY,CQ,UM,↓reduceIte,jC,enP,q,f,P,nK (Nat.le_of_lt A)];refine(qD G (s.extract 0 k) i E _ (by simp [ByteArray.size_extract];omega)).uu ?_;refine BH ?_ ?_<;>intro V
    .refine AB ?_
     refine⟨?_,trivial⟩;have:=(AF8 _ _).1 V;rw[this,wN E S];rfl
    .refine A7 P (C9 i) ?_
     refine⟨Y-1,U,i+1,U,fun j g h8=>?_,AC,AC,rfl,trivial⟩;rcases zA j i with p|p
     .exact M j p h8
     .obtain rfl:j=i:=U
      intro e;rw[(AF8 _ _).2 e] at V;cases V
   .have E:8<=i:=by simp at hc;omega
    refine AB ?_;exact⟨q,f,trivial,fun j g=>M j U g⟩
  .rintro b C ⟨g0,Z,rfl,T⟩
   refine A7 Z (C9 k) ?_
   obtain⟨m,N,J,p,K,L,rfl⟩:=c b g0 Z (fun a j g B I e=>by
    refine T j g ?_
    rw[e,<-I,ABB])
   exact⟨m,N,k+1,p,K,L,AC,rfl,trivial⟩
  .rintro b C ⟨g2,rfl⟩
   refine AY g2 ?_;exact G7
 .refine AB ?_
  refine⟨?_,trivial⟩;rcases hcase:KE s with _|⟨a,d⟩
  .rfl
  .exfalso
   obtain⟨c1,c2,c3,c4,c5⟩:=PK hcase;refine hb ⟨a.toArray⟩ _ c2 c3 ?_ c4;rw[szl];omega
def SV (l:List Vr)(s:ByteArray):Bool:=match KE s with
 | some (a,d)=>decide (1<=d.toNat-48)&&decide (plc l (elN ⟨a.toArray⟩ (d.toNat-48-1))<0)
 | none=>false
theorem ATP (h:FI s=true):(Lib.cut s.data.toList [91]).2.2=false:=by
 obtain⟨_,b⟩:=UQ (l:=s.data.toList) (by rw[AGC];exact h)
 have:Lib.index s.data.toList [91] = -1:=Lib.index_none fun j _=>by
  rw[<-Bool.not_eq_true];intro c;have:=Lib.occAt_head rfl c;exact b 91 (qB this) rfl
 unfold Lib.cut;rw[this,if_neg U]
theorem ATQ {a:List UInt8}{d:UInt8}(h:KE s=some (a,d)):(Lib.cut s.data.toList [91]).1=a/\(Lib.cut s.data.toList [91]).2.2=true:=by
 rw[qT] at h;split at h
 case isFalse=>cases h
 rename_i b;split at h
 case h_2=>cases h
 split at h
 case isFalse=>cases h
 cases h;exact⟨rfl,(Bool.and_eq_true_iff.1 b).1⟩
theorem AST (R:GOk G)(l:List Vr)(m:SM)(s:ByteArray)(h:Hp)(S:l.length<=1099511627776)(X:s.size<=1048576)(C:F7 s=true):PCall (En G) 153 [.sl m 4 (l.map encV),.str s] h (.bool (SV l s)):=by
 refine acT Tryz.func153 4 ?_;refine AB ?_;refine(rE G R s h X).use ?_;unfold cutV;rcases hcase:KE s with _|⟨a,d⟩
 .have T:FI s=true:=by
   unfold F7 at C;rw[hcase] at C;simpa using C
  have g:SV l s=false:=by unfold SV;rw[hcase]
  rw[ATP T,g];refine AB ?_;exact G7
 obtain⟨I,J⟩:=ATQ hcase;obtain⟨Z,E,c3,p,c5⟩:=PK hcase;have g:SV l s=(decide (1<=d.toNat-48)&&decide (plc l (elN ⟨a.toArray⟩ (d.toNat-48-1))<0)):=by unfold SV;rw[hcase]
 rw[I,J,g];clear g hcase I J
 generalize d.toNat-48=q at E p|-
 refine AB ?_;refine BB (fun n F H=>∃k,n+k=8/\1<=k/\(∀j,1<=j->j<k->j≠q)/\F 0=.sl m 4 (l.map encV)/\F 1=.str s/\F 5=.str ⟨a.toArray⟩/\F 8=.n (k:Nat)/\H=h) 7 ⟨1,BA,U,fun j f N=>absurd N U,AO,AO,AO,AO,rfl⟩ ?_;rintro n F H ⟨k,hk,A,P,K,L,M,c,rfl⟩;refine AY c ?_;refine BH ?_ ?_<;>intro Q
 .have b:k<8:=by simp at Q;omega
  refine DC L M c ?_;refine(iP G ⟨a.toArray⟩ k b H (by rw[szl];omega)).use ?_;refine AY L ?_;refine BH ?_ ?_<;>intro B
  .have V:k=q:=by
    have:=(AF8 _ _).1 B;rw[p] at this;exact(AL7 E b this).symm
   have Y:IntKind.i64.wrap (((k:Nat):Int)-1)=((k-1:Nat):Int):=by rw[wrap_i64 U U];omega
   refine EG K M c Y ?_;refine(iP G ⟨a.toArray⟩ (k-1) U H (by rw[szl];omega)).use ?_;refine AY K ?_;refine(index_prog G l m _ H S).uu ?_;refine⟨?_,trivial⟩;rw[<-V,decide_eq_true A,qZ]
  .refine A7 c (C9 k) ?_
   refine⟨n-1,U,k+1,U,U,fun j f N=>?_,AC,AC,AC,rfl,trivial⟩;rcases zA j k with O|O
   .exact P j f O
   .obtain rfl:j=k:=U
    intro e;rw[(AF8 _ _).2 (by rw[p,e])] at B;cases B
 .refine AB ?_
  have b:8<=k:=by simp at Q;omega
  refine⟨?_,trivial⟩;have:¬1<=q:=fun f=>P q f U rfl
  rw[decide_eq_false this,Bool.false_and]
theorem AUN (hk:k<s.size):s.data.toList[k]?=some s[k]:=by
 have b:s.data[k]?=some s[k]:=Array.getElem?_eq_getElem hk;rw[Array.getElem?_toList];exact b
theorem A5N (f:F7 s=true)(hk:k<s.size)(q:s[k]=91):∃a d,KE s=some (a,d)/\k=a.length/\s.extract 0 k=⟨a.toArray⟩:=by
 have b:=AUN hk;rw[q] at b;rcases hcase:KE s with _|⟨a,d⟩
 .exfalso
  have B:FI s=true:=by unfold F7 at f;rw[hcase] at f;simpa using f
  exact(UQ (l:=s.data.toList) (by rw[AGC];exact B)).2 91 (qB b) rfl
 .obtain⟨E,F,p,g,H⟩:=PK hcase
  refine⟨a,d,rfl,?_⟩;have C:=(UQ p).2;rw[g,RJ] at b
  have c:k=a.length:=by
   rcases Nat.lt_trichotomy k a.length with e|e|e
   .grind
   .exact e
   .exfalso
    rw[List.getElem?_append_right NZ] at b;simp only at b;obtain⟨j,A⟩:∃j,k-a.length=j+1:=⟨k-a.length-1,U⟩;rw[A,List.getElem?_cons_succ] at b;have:j=0\/j=1:=U;rcases this with rfl|rfl
    .simp_all
    .simp_all
  refine⟨c,?_⟩;have:=ABB ⟨a.toArray⟩ (d.toNat-48);rw[szl,<-g,<-c] at this;exact this
theorem AXM (l:List Vr)(m:SM)(h:Hp)(hl:l.length<=1048576)(hv:∀v∈l,F7 v.name=true/\v.name.size<=1048576):PCall (En G) 193 [.sl m 4 (l.map encV)] h (.bool (l.any fun v=>SV l v.name)):=by
 refine acT Tryz.func193 2 ?_;refine AB ?_;refine BB (fun n F H=>∃i,n+i=l.length/\(∀(j:Nat) (Z:j<i) (hl:j<l.length),SV l l[j].name=false)/\F 0=.sl m 4 (l.map encV)/\F 3=.n (i:Nat)/\H=h) l.length ⟨0,BA,fun j Z=>absurd Z U,AO,AO,rfl⟩ ?_;rintro n F H ⟨i,hi,hb,f,g,rfl⟩;refine A7 f g ?_;refine BH ?_ ?_<;>intro Y
 .have c:i<l.length:=BL Y
  obtain⟨a1,a4⟩:=hv _ (jH c);have l0:BO jA H 9 (.fptr 4 (l.map encV) i 0)=some (.str l[i].name):=by rw[BR ag9 c];rfl
  have I:SV l l[i].name=true->(l.any fun v=>SV l v.name)=true:=fun hg=>qJ.2 ⟨_,jH c,hg⟩
  generalize hs:l[i].name=s at a1 a4 l0 I;refine AB ?_;refine EK 2 (fun b p=>b 0=.sl m 4 (l.map encV)/\b 3=.n (i:Nat)/\p=H/\SV l s=false) (fun b p=>b 2=.bool (l.any fun v=>SV l v.name)/\p=H) ?_ ?_ ?_
  .refine BB (fun n' b p=>∃k,1<=k/\n'+k=s.size+1/\(∀a d,KE s=some (a,d)->a.length<k->SV l s=false)/\b 0=.sl m 4 (l.map encV)/\b 3=.n (i:Nat)/\b 4=.n (k:Nat)/\p=H) s.size ⟨1,U,U,fun a d L A=>?_,D7 f,D7 g,AO,rfl⟩ ?_
   .exfalso
    have:=(UQ (PK L).2.2.1).1;have:=qR.2 this;omega
   clear f g;rintro n' F H ⟨k,a6,hk,V,f,g,B,rfl⟩;refine Z9 f g B c l0 ?_;refine DX ?_ ?_<;>intro C
   .refine V8 f g B c l0 (ix9 s k .i64 C) ?_
    refine BH ?_ ?_<;>intro hx
    .refine A7 B (C9 k) ?_
     refine⟨n'-1,U,k+1,U,U,fun a d L A=>?_,f,g,rfl,trivial⟩;rcases zA a.length k with E|E
     .exact V a d L E
     .exfalso
      obtain⟨c1,c2,c3,R,c5⟩:=PK L
      have T:s[k]=91:=by
       have h4:s.data.toList[k]?=some 91:=by
        rw[R,RJ,List.getElem?_append_right NZ];have:k-(⟨a.toArray⟩:ByteArray).data.toList.length=0:=by simp;omega
        rw[this];rfl
       rw[AUN C] at h4;exact Option.some.inj h4
      rw[T] at hx
      revert hx;decide
    have a3:s[k]=91:=by
     have h0:((s[k].toNat:Int)==91)=true:=by
      simpa [bne] using hx
     have A:(s[k].toNat:Int)=91:=BL h0;exact UInt8.toNat_inj.1 (by show _=91;omega)
    obtain⟨a,d,L,a7,K⟩:=A5N a1 C a3;obtain⟨c1,c2,c3,R,c5⟩:=PK L;have M:SV l s=(decide (1<=d.toNat-48)&&decide (plc l (elN ⟨a.toArray⟩ (d.toNat-48-1))<0)):=by unfold SV;rw[L]
    have J:(⟨a.toArray⟩:ByteArray).size<=1048576:=by rw[szl];omega
    generalize d.toNat-48=q at c2 R M;refine AB ?_;refine EK 4 (fun b p=>b 0=.sl m 4 (l.map encV)/\b 3=.n (i:Nat)/\b 4=.n (k:Nat)/\p=H/\SV l s=false) (fun b p=>b 2=.bool (l.any fun v=>SV l v.name)/\p=H) ?_ ?_ ?_
    .refine BB (fun n2 b p=>∃t,1<=t/\n2+t=8/\(1<=q->q<t->SV l s=false)/\b 0=.sl m 4 (l.map encV)/\b 3=.n (i:Nat)/\b 4=.n (k:Nat)/\b 5=.n (t:Nat)/\p=H) 7 ⟨1,U,U,fun A E=>absurd E U,D7 f,D7 g,D7 B,AO,rfl⟩ ?_
     clear f g B;rintro n2 F H ⟨t,a5,ht,X,f,g,B,S,rfl⟩;refine AY S ?_;refine BH ?_ ?_<;>intro Y
     .have O:t<8:=by simp at Y;omega
      have hw:IntKind.i64.wrap (((t:Nat):Int)-1)=((t-1:Nat):Int):=by rw[wrap_i64 U U];omega
      refine AB ?_;refine DR BC ?_;simp only[vQ,zV,zY,XL,MS,MN,UM,↓reduceIte,jC,jP,enP,bM,VV,f,g,B,S,CP c,l0,nK (Nat.le_of_lt C),K];refine⟨_,qD G ⟨a.toArray⟩ t O _ J,?_⟩;refine AB ?_
      have a2:SV l s=false\/t≠q->∃P,P<n2/\∃Q,1<=Q/\P+Q=8/\(1<=q->q<Q->SV l s=false)/\Q=t+1:=fun hh =>
       ⟨n2-1,U,t+1,U,U,fun A E=>by
        rcases hh with hh|hh
        .exact hh
        .exact X A U,rfl⟩
      refine lO ?_ ?_<;>intro N
      .have hq:t=q:=by
        have:=(AF8 _ _).1 N;rw[R] at this;exact(AL7 c2 O this).symm
       simp only[vQ,zV,zY,JA,KP,aB,XL,MS,MN,EP,UM,MR,↓reduceIte,jC,jP,enP,bM,VV,N,f,g,B,S,CP c,l0,nK (Nat.le_of_lt C),K,hw];refine⟨_,qD G ⟨a.toArray⟩ (t-1) U _ J,?_⟩
       try refine AY N ?_
       refine⟨_,U9 G l m _ _ U,?_⟩;refine AY N ?_;refine BH ?_ ?_<;>intro hz
       .refine AB ?_
        refine⟨?_,trivial⟩;rw[I];rw[M,<-hq,decide_eq_true a5,hz];rfl
       .refine A7 S (C9 t) ?_
        obtain⟨P,hm,Q,A,E,T,rfl⟩:=a2 (.inl (by rw[M,<-hq,hz,Bool.and_false]));exact⟨P,hm,t+1,A,E,T,f,g,B,rfl,trivial⟩
      .refine DC N S (C9 t) ?_
       obtain⟨P,hm,Q,A,E,T,rfl⟩:=a2 (.inr (fun e=>by
        rw[(AF8 _ _).2 (by rw[R,e])] at N
        cases N))
       exact⟨P,hm,t+1,A,E,T,f,g,B,rfl,trivial⟩
     .have O:8<=t:=by simp at Y;omega
      refine AB ?_;refine⟨f,g,B,trivial,?_⟩;rcases zA q 1 with A|A
      .simp_all
      .exact X A U
    .rintro b p ⟨g0,g3,g4,rfl,a0⟩
     refine A7 g4 (C9 k) ?_;exact⟨n'-1,U,k+1,U,U,fun _ _ _ _=>a0,g0,g3,rfl,trivial⟩
    .rintro b p ⟨g2,rfl⟩
     refine AY g2 ?_;exact G7
   .refine AB ?_
    refine⟨f,g,trivial,?_⟩;rcases hcase:KE s with _|⟨a,d⟩
    .unfold SV;rw[hcase]
    .exact V a d hcase (by have:=(PK hcase).2.2.2.2;omega)
  .rintro b p ⟨g0,g3,rfl,a0⟩
   refine A7 g3 (C9 i) ?_;refine⟨n-1,U,i+1,U,fun j Z hl=>?_,g0,rfl,trivial⟩;rcases zA j i with A|A
   .exact hb j A hl
   .grind
  .rintro b p ⟨g2,rfl⟩
   refine AY g2 ?_;exact G7
 .refine AB ?_
  have c:¬i<l.length:=BL Y;refine⟨?_,trivial⟩
  have:(l.any fun v=>SV l v.name)=false:=by
   rw[qQ];intro v hv;obtain⟨j,Z,rfl⟩:=qO hv;rw[hb j U Z];decide
  rw[this]
def fstE {α:Type}(f:α->Int):List α->Int
 | []=>0
 | x::r=>if f x≠0 then f x else fstE f r
theorem U8 {α:Type}(f:α->Int):∀(xs:List α) (k:Nat) (hk:k<xs.length),(∀(j:Nat) (d:j<k),f (xs[j]'U)=0)->f xs[k]≠0->fstE f xs=f xs[k]
 | x::r,0,_,_,h=>by
   have h:f x≠0:=h;show(if f x≠0 then f x else fstE f r)=f x;rw[if_pos h]
 | x::r,k+1,hk,b,h=>by
   have c:f x=0:=b 0 U;have e:=U8 f r k (BL hk) (fun j d=>b (j+1) U) h;show(if f x≠0 then f x else fstE f r)=f (r[k]'(BL hk));rw[if_neg (by simp [c]),e]
theorem SX {α:Type}(f:α->Int):∀xs:List α,(∀(j:Nat) (c:j<xs.length),f xs[j]=0)->fstE f xs=0
 | [],_=>rfl
 | x::r,b=>by
   have d:f x=0:=b 0 BA;show(if f x≠0 then f x else fstE f r)=0;rw[if_neg (by simp [d]),SX f r fun j c=>b (j+1) (BL c)]
theorem fstE_zero {α:Type}{f:α->Int}:∀ {xs:List α},fstE f xs=0->∀x∈xs,f x=0
 | y::r,h,x,c=>by
   have b:(if f y≠0 then f y else fstE f r)=0:=h;split at b
   .rename_i d;exact absurd b d
   .rename_i d
    rcases zO.1 c with rfl|c
    .simpa using d
    .exact fstE_zero b x c
def P5 (v:Vr):Bool:=decide (v.width<1)||decide (v.width>8)||decide (v.mode<0)||decide (v.mode>2)||decide (v.value<0)||decide (v.value≥2^v.width.toNat)||(!(v.mode==0) && !(v.value==0))
def vrE (v:Vr):Int:=if F7 v.name=true then if P5 v=true then 1 else 0 else 7
theorem A3H:∀n:Nat,n<=8->IQ jA 3 .shl (.n 1) (.n (n:Nat))=some (.n (2^n))
 | 0,_=>BC
 | 1,_=>BC
 | 2,_=>BC
 | 3,_=>BC
 | 4,_=>BC
 | 5,_=>BC
 | 6,_=>BC
 | 7,_=>BC
 | 8,_=>BC
 | n+9,h=>absurd h U
theorem shl_w {w:Int}(b:¬w<1)(c:¬w>8):IQ jA 3 .shl (.n 1) (.n w)=some (.n (2^w.toNat)):=by
 obtain⟨n,rfl⟩:=wI (U:0<=w);exact A3H n U
theorem yD (v:Vr)(h:Hp)(I:v.name.size<=1048576):PCall (En G) 191 [.agg (encV v)] h (.n (vrE v)):=by
 refine ACalls.pure0 rfl ?_;refine acT Tryz.func191 2 ?_;refine LD @bxV @encV0 ?_;refine(APN G v.name _ I).use ?_;cases H:F7 v.name
 .refine AB ?_
  exact⟨by unfold vrE;rw[H];rfl,_,rfl⟩
 refine UK @encV1 ?_;have fin:∀b,P5 v=b->vrE v=if b=true then 1 else 0:=fun b A=>by unfold vrE;rw[H,A];rfl
 cases c:decide (v.width<1)
 case true =>
  refine AY c ?_;exact⟨by rw[fin true (by unfold P5;rw[c];simp)];rfl,_,rfl⟩
 refine LD c @encV1 ?_;cases d:decide (v.width>8)
 case true =>
  refine AY d ?_;exact⟨by rw[fin true (by unfold P5;rw[d];simp)];rfl,_,rfl⟩
 refine LD d @encV2 ?_;cases g:decide (v.mode<0)
 case true =>
  refine AY g ?_;exact⟨by rw[fin true (by unfold P5;rw[g];simp)];rfl,_,rfl⟩
 refine LD g @encV2 ?_;cases l:decide (v.mode>2)
 case true =>
  refine AY l ?_;exact⟨by rw[fin true (by unfold P5;rw[l];simp)];rfl,_,rfl⟩
 refine LD l @encV3 ?_;cases e:decide (v.value<0)
 case true =>
  refine AY e ?_;exact⟨by rw[fin true (by unfold P5;rw[e];simp)];rfl,_,rfl⟩
 refine AY e ?_;have C:¬v.width<1:=BL c;have E:¬v.width>8:=BL d;have J:¬v.value<0:=BL e;have B:=shl_w C E;have f:∀b,(decide (v.value≥2^v.width.toNat)||(!(v.mode==0) && !(v.value==0)))=b->vrE v=if b=true then 1 else 0:=fun b A=>fin b (by unfold P5;rw[c,d,g,l,e];simpa using A)
 refine DR BC ?_;have K:(0:Int)<2^v.width.toNat:=Int.pow_pos DU;cases F:(v.mode==0)<;>cases p:(v.value==0)<;>cases q:decide (v.value≥2^v.width.toNat)
 all_goals
  simp only[vQ,JA,KP,aB,YQ,xV,AU9,AU7,Q3,EP,CQ,GI,↓reduceIte,jC,jP,qN,enP,VU,X8,aZ,EI ag3,encV1,encV2,encV3,B,F,p,q,bne];refine⟨?_,_,rfl⟩;rw[f _ rfl,F,p,q]
  first
   | rfl
   | (exfalso
      simp at p q
      omega)
def AFF (l:List Vr):Bool:=decide (∃i:Fin l.length,0<=plc (l.take i.1) (l[i.1]).name)
def KL (l:List Vr):Int:=(l.map fun v=>if v.mode=0 then 0 else v.width).sum
def MV (l:List Vr):Int:=if l.length>16 then 2 else if fstE vrE l≠0 then fstE vrE l else if AFF l=true then 8 else if(l.any fun v=>SV l v.name)=true then 10 else if KL l>20 then 2 else 0
theorem AD5 (v:Vr):O8 v.name v=true:=by unfold O8;simp
theorem ADJ {l:List Vr}(q:i<l.length):(plc l l[i].name≠(i:Int))↔0<=plc (l.take i) l[i].name:=by
 constructor
 .intro h
  rcases Classical.em (0<=plc (l.take i) l[i].name) with b|b
  .exact b
  .exfalso
   refine h (TT _ l i q (fun j C=>?_) (AD5 _));refine iD (O8 l[i].name) (l.take i) (by unfold plc at b;omega) _ ?_;have:(l.take i)[j]'(by rw[jR];omega)=l[j]:=List.getElem_take;rw[<-this];exact jH _
 .intro h e
  obtain⟨k,hk,_,c,B⟩:=ZP (O8 l[i].name) (l.take i) h;rw[jR] at hk;rw[List.getElem_take] at c;have p:0<=plc l l[i].name:=by rw[e];omega
  obtain⟨f,A,d,_,g⟩:=ZP (O8 l[i].name) l p
  have:f=i:=by
   have d:plc l l[i].name=(f:Int):=d;omega
  have:=g k U;rw[this] at c;cases c
theorem AFE {l:List Vr}(b:i<l.length)(h:0<=plc (l.take i) l[i].name):AFF l=true:=decide_eq_true ⟨⟨i,b⟩,h⟩
theorem wT {l:List Vr}(h:∀(i:Nat) (b:i<l.length),plc (l.take i) l[i].name<0):AFF l=false:=decide_eq_false fun⟨i,b⟩=>by have:=h i.1 i.2;omega
theorem dF {l:List Vr}(b:i<l.length):KL (l.take (i+1))=KL (l.take i)+(if l[i].mode=0 then 0 else l[i].width):=by
 unfold KL;rw[jV b,qC,List.sum_append];simp
theorem rP (l:List Vr)(b:∀v∈l,vrE v=0):∀i,i<=l.length->0<=KL (l.take i)/\KL (l.take i)<=8*i
 | 0,_=>by simp [KL]
 | i+1,h=>by
   have d:=rP l b i U;rw[dF (U:i<l.length)];have:=b _ (jH (U:i<l.length));unfold vrE at this;split at this
   .split at this
    .cases this
    .rename_i c
     have:P5 l[i]=false:=BL c;unfold P5 at this;simp only[Bool.or_eq_false_iff,decide_eq_false_iff_not] at this;split<;>omega
   .cases this
theorem al61 (h:Hp):IG jA h 131=some (.ptr h.length 0 0,h++[qG 4 [[.str ⟨#[]⟩,.n 0,.n 0,.n 0]]]):=F9 (row:=[.str ⟨#[]⟩,.n 0,.n 0,.n 0]) BC
theorem st61 (h:Hp)(v:Vr):D8 jA (h++[qG 4 [[.str ⟨#[]⟩,.n 0,.n 0,.n 0]]]) 131 (.ptr h.length 0 0) (.agg (encV v))=some (h++[qG 4 [encV v]]):=by
 rw[JU (cs:=encV v) (row:=[.str ⟨#[]⟩,.n 0,.n 0,.n 0]) rfl ACG (AZ _ _) (by exact jF 4),KI];rfl
theorem ldV {l:List Vr}(b:i<l.length):BO jA h 131 (.fptr 4 (l.map encV) i 0)=some (.agg (encV l[i])):=DL A0L ACG encV_len b
theorem A64 {l:List Vr}{m:SM}(b:i<=l.length):∃m',IP jA h 22 (.sl m 4 (l.map encV)) none (some (.n (i:Nat))) none=some (.sl m' 4 ((l.take i).map encV)):=by
 have c:szO jA 131=some 4:=ACG;exact⟨tR m i (l.map encV).length,by rw[ACT A62 c (by rw[jI];exact b),List.map_take]⟩
theorem sS (l:List Vr)(m:SM)(h:Hp)(A:l.length<=1048576)(Y:∀v∈l,v.name.size<=1048576):PCall (En G) 104 [.sl m 4 (l.map encV)] h (.n (MV l)):=by
 refine acT Tryz.func104 2 ?_;refine AB ?_;refine BH ?_ ?_<;>intro V
 .refine AB ?_
  exact⟨by unfold MV;rw[if_pos (by simp at V;omega)],trivial⟩
 have B:¬l.length>16:=by simp at V;omega
 refine AB ?_;refine EK 0 (fun F H=>F 0=.sl m 4 (l.map encV)/\F 3=.n (KL l)/\H=h/\fstE vrE l=0) (fun F H=>F 2=.n (MV l)/\H=h) ?_ ?_ ?_
 .refine BB (fun n F H=>∃i,n+i=l.length/\(∀(j:Nat) (d:j<i) (A:j<l.length),vrE l[j]=0)/\F 0=.sl m 4 (l.map encV)/\F 3=.n (KL (l.take i))/\F 4=.n (i:Nat)/\H=h) l.length ⟨0,BA,fun j d=>absurd d U,AO,AO,AO,rfl⟩ ?_
  rintro n F H ⟨i,hi,q,e,g,L,rfl⟩;refine A7 e L ?_;refine DX ?_ ?_<;>intro c
  .simp only[vQ,CQ,↓reduceIte,jC,enP,bM,e,L,CP c,ldV c]
   refine(yD G l[i] H (Y _ (jH c))).uu ?_;refine BH ?_ ?_<;>intro P
   .refine AB ?_
    have I:vrE l[i]≠0:=by simpa [bne] using P
    refine⟨?_,trivial⟩;have:=U8 vrE l i c (fun j d=>q j d U) I;unfold MV;rw[if_neg B,this,if_pos I]
   .have I:vrE l[i]=0:=by simpa [bne] using P
    have E:∀(j:Nat) (d:j<i+1) (A:j<l.length),vrE l[j]=0:=fun j d A=>by
     rcases zA j i with M|M
     .exact q j M A
     .grind
    have p:=dF c
    have a0:0<=KL (l.take (i+1))/\KL (l.take (i+1))<=8*((i+1:Nat):Int):=by
     have:=rP (l.take (i+1)) (fun v Q=>by
      obtain⟨j,d,rfl⟩:=qO Q;rw[jR] at d
      rw[List.getElem_take];exact E j U U) (i+1) (by rw[jR];omega)
     rw[List.take_take,Nat.min_self] at this;exact this
    have l2:BO jA H 3 (.fptr 4 (l.map encV) i 2)=some (.n l[i].mode):=by rw[BR ag3 c];rfl
    have l1:BO jA H 3 (.fptr 4 (l.map encV) i 1)=some (.n l[i].width):=by rw[BR ag3 c];rfl
    refine OH e L c l2 ?_;refine BH ?_ ?_<;>intro X
    .have J:¬l[i].mode=0:=by simpa [bne] using X
     rw[if_neg J] at p;have hw:IntKind.i64.wrap (KL (l.take i)+l[i].width)=KL (l.take (i+1)):=by rw[p,wrap_i64 U U]
     refine KZ e g L c l1 hw (C9 i) ?_;refine⟨n-1,U,i+1,U,E,AC,rfl,rfl,trivial⟩
    .have J:l[i].mode=0:=by simpa [bne] using X
     rw[if_pos J,Int.add_zero] at p;refine A7 L (C9 i) ?_;refine⟨n-1,U,i+1,U,E,AC,by rw[p];exact g,rfl,trivial⟩
  .refine AB ?_
   refine⟨e,?_,trivial,SX vrE l fun j d=>q j U d⟩;rw[jK U] at g;exact g
 .rintro F H ⟨e,g,rfl,hz⟩
  have N:=fstE_zero hz
  have T:∀v∈l,F7 v.name=true/\v.name.size<=1048576:=by
   intro v Q;have:=N v Q;unfold vrE at this;split at this
   .rename_i hn;exact⟨hn,Y v Q⟩
   .cases this
  have O:∀b,AFF l=b->MV l=if b=true then 8 else if(l.any fun v=>SV l v.name)=true then 10 else if KL l>20 then 2 else 0:=fun b q=>by
   unfold MV;rw[if_neg B,if_neg (by simp [hz]),q]
  refine AB ?_;refine EK 2 (fun f C=>f 0=.sl m 4 (l.map encV)/\f 3=.n (KL l)/\C=H/\AFF l=false) (fun f C=>f 2=.n (MV l)/\C=H) ?_ ?_ ?_
  .refine BB (fun n f C=>∃i,n+i=l.length/\(∀(j:Nat) (d:j<i) (A:j<l.length),plc (l.take j) l[j].name<0)/\f 0=.sl m 4 (l.map encV)/\f 3=.n (KL l)/\f 6=.n (i:Nat)/\C=H) l.length ⟨0,BA,fun j d=>absurd d U,D7 e,D7 g,AO,rfl⟩ ?_
   clear e g;rintro n F H ⟨i,hi,q,e,g,R,rfl⟩;refine A7 e R ?_;refine DX ?_ ?_<;>intro c
   .have l0:BO jA H 9 (.fptr 4 (l.map encV) i 0)=some (.str l[i].name):=by rw[BR ag9 c];rfl
    obtain⟨m',ht⟩:=A64 (h:=H) (m:=m) (Nat.le_of_lt c);refine AB ?_;refine DR BC ?_;refine V8 @XL e R ht c l0 ?_;refine⟨_,U9 G (l.take i) m' l[i].name _ (by rw[jR];omega),?_⟩;refine AB ?_;refine BH ?_ ?_<;>intro P
    .refine AB ?_
     refine⟨?_,trivial⟩;rw[O true (AFE c (BL P))];rfl
    .refine A7 R (C9 i) ?_
     refine⟨n-1,U,i+1,U,fun j d A=>?_,e,g,rfl,trivial⟩;rcases zA j i with M|M
     .exact q j M A
     .grind
   .refine AB ?_
    exact⟨e,g,trivial,wT fun j d=>q j U d⟩
  .rintro f C ⟨g0,g3,rfl,hd⟩
   have K:=O _ hd;refine AY g0 ?_;refine(AXM G l m _ A T).uu ?_;refine BH ?_ ?_<;>intro S
   .refine AB ?_
    exact⟨by rw[K,S];rfl,trivial⟩
   refine AY g3 ?_;refine BH ?_ ?_<;>intro Z
   .refine AB ?_
    refine⟨?_,trivial⟩;rw[K,S,if_neg DU,if_neg DU,if_pos (BL Z)]
   .refine AB ?_
    refine⟨?_,trivial⟩;rw[K,S,if_neg DU,if_neg DU,if_neg (BL Z)]
  .rintro f C ⟨g2,rfl⟩
   refine AY g2 ?_;exact G7
 .rintro F H ⟨f2,rfl⟩
  refine AY f2 ?_;exact G7
theorem A4Y (d:GOk G)(l:List Vr)(m:SM)(v:Vr)(c:Nat)(h:Hp)(e:h[c]?=some (qG 1 [[.sl m 4 (l.map encV)]]))(p:l.length<=1048576)(f:v.name.size<=1048576)(g:F7 v.name=true):
  PCall (En G) 152 ([.agg (encV v)]++[.ptr c 0 0]) h (.bool (SV l v.name)):=by
 refine ACalls.pure0 rfl ?_;refine acT Tryz.func152 3 ?_;have b:(h++[qG 4 [encV v]])[c]?=_:=AU e;refine LC @bxV @encV0 (IL Z7 b) ?_;refine(AST G d l m v.name _ U f g).uu ?_;exact⟨trivial,_,rfl⟩
theorem AMV (hG:GOk G)(l:List Vr)(m:SM)(h:Hp)(P:l.length<=1048576)(hs:∀v∈l,v.name.size<=1048576):PCall (En G) 78 [.sl m 4 (l.map encV)] h (.n (MV l)):=by
 refine ACalls.pure0 rfl ?_;refine acT Tryz.func78 2 ?_;have a0:(h++[qG 1 [[.sl m 4 (l.map encV)]]])[h.length]?=some (qG 1 [[.sl m 4 (l.map encV)]]):=AZ _ _;refine DC @ABK @ABK (IL Z7 a0) ?_;refine BH ?_ ?_<;>intro hc
 .refine AB ?_
  exact⟨by unfold MV;rw[if_pos (by simp at hc;omega)],_,rfl⟩
 have X:¬l.length>16:=by simp at hc;omega
 refine AY (IL Z7 a0) ?_;refine EK 0 (fun F H=>F 1=.ptr h.length 0 0/\H[h.length]?=some (qG 1 [[.sl m 4 (l.map encV)]])/\ext h H/\fstE vrE l=0) (fun F H=>F 2=.n (MV l)/\ext h H) ?_ ?_ ?_
 .refine BB (fun n F H=>∃i,n+i=l.length/\(∀(j:Nat) (f:j<i) (P:j<l.length),vrE l[j]=0)/\F 1=.ptr h.length 0 0/\F 11=.sl m 4 (l.map encV)/\F 12=.n (l.length:Nat)/\F 13=.n (i:Nat)/\H[h.length]?=some (qG 1 [[.sl m 4 (l.map encV)]])/\ext h H) l.length ⟨0,BA,fun j f=>absurd f U,AO,AO,AO,AO,a0,⟨_,rfl⟩⟩ ?_
  rintro n F H ⟨i,hi,p,T,f11,f12,f13,N,K⟩;refine A7 f12 f13 ?_;refine DX ?_ ?_<;>intro d
  .have e:(H++[qG 4 [encV l[i]]])[h.length]?=_:=AU N
   have c:ext h (H++[qG 4 [encV l[i]]]):=K.app _;have J:=AZ H (qG 4 [encV l[i]]);have a7:=hs _ (jH d)
   have Y:∀(n':Nat),vrE l[i]=0->∃m',m'<n/\∃k,m'+k=l.length/\(∀(j:Nat) (f:j<k) (P:j<l.length),vrE l[j]=0)/\k=i+1:=fun _ Q =>
    ⟨n-1,U,i+1,U,fun j f P=>by
     rcases zA j i with M|M
     .exact p j M P
     .obtain rfl:j=i:=U
      exact Q,rfl⟩
   have A:vrE l[i]≠0->MV l=vrE l[i]:=fun Q=>by
    have:=U8 vrE l i d (fun j f=>p j f U) Q;unfold MV;rw[if_neg X,this,if_pos Q]
   simp only[vQ,CQ,↓reduceIte,jC,enP,bM,VV,jQ,f11,f13,CP d,ldV d,al61,st61]
   generalize H++[qG 4 [encV l[i]]]=H1 at e c J|-
   have l0:BO jA H1 9 (.ptr H.length 0 0)=some (.str l[i].name):=by rw[BK ag9 J (row:=encV l[i]) rfl];rfl
   have C:BO jA H1 3 (.ptr H.length 0 1)=some (.n l[i].width):=by rw[BK ag3 J (row:=encV l[i]) rfl];rfl
   have R:BO jA H1 3 (.ptr H.length 0 2)=some (.n l[i].mode):=by rw[BK ag3 J (row:=encV l[i]) rfl];rfl
   have l3:BO jA H1 3 (.ptr H.length 0 3)=some (.n l[i].value):=by rw[BK ag3 J (row:=encV l[i]) rfl];rfl
   generalize hv:l[i]=v at a7 Y A l0 C R l3;refine AY l0 ?_;refine(AH0 G hG v.name _ a7).use ?_;cases hn:F7 v.name
   .refine AB ?_
    have:vrE v=7:=by unfold vrE;rw[hn];rfl
    exact⟨by rw[A (by rw[this];decide),this],c⟩
   have fin:∀b,P5 v=b->vrE v=if b=true then 1 else 0:=fun b p=>by unfold vrE;rw[hn,p];rfl
   have yes:P5 v=true->AV.int .i64 1=AV.int .i64 (MV l):=fun p=>by
    have:=fin true p;rw[A (by rw[this];decide),this];rfl
   refine AB ?_;refine DR BC ?_;cases q:decide (v.width<1)
   case true =>
    refine A7 C q ?_;exact⟨yes (by unfold P5;rw[q];simp),c⟩
   cases I:decide (v.width>8)
   case true =>
    refine DC C q I ?_;exact⟨yes (by unfold P5;rw[I];simp),c⟩
   cases S:decide (v.mode<0)
   case true =>
    refine H7 C R q I S ?_;exact⟨yes (by unfold P5;rw[S];simp),c⟩
   cases Z:decide (v.mode>2)
   case true =>
    refine KO C R q I S Z ?_;exact⟨yes (by unfold P5;rw[Z];simp),c⟩
   cases b5:decide (v.value<0)
   case true =>
    refine OZ C R l3 q I S Z b5 ?_;exact⟨yes (by unfold P5;rw[b5];simp),c⟩
   have a2:=shl_w (BL q) (BL I);cases b6:decide (v.value≥2^v.width.toNat)
   case true =>
    refine aA C R l3 a2 q I S Z b5 b6 ?_;exact⟨yes (by unfold P5;rw[b6];simp),c⟩
   cases b7:(v.mode==0)<;>cases b8:(v.value==0)
   case false.false =>
    simp only[vQ,JA,KP,aB,YQ,Q3,rO,AW6,AKL,EP,CQ,↓reduceIte,jC,jP,enP,VU,X8,aZ,C,R,l3,a2,q,I,S,Z,b5,b6,b7,b8,bne];exact⟨yes (by unfold P5;rw[b7,b8];simp),c⟩
   all_goals
    have Q:=fin false (by unfold P5;rw[q,I,S,Z,b5,b6,b7,b8];rfl);obtain⟨m',hm,k,k1,k2,rfl⟩:=Y 0 Q;simp only[vQ,JA,KP,aB,YQ,xV,Q3,EP,CQ,GI,↓reduceIte,jC,jP,qN,enP,VU,X8,aZ,C,R,l3,a2,q,I,S,Z,b5,b6,b7,b8,bne,f13,C9 i];exact⟨m',hm,i+1,k1,k2,AC,AC,AC,rfl,e,c⟩
  .refine AB ?_
   exact⟨T,N,K,SX vrE l fun j f=>p j U f⟩
 .rintro F H ⟨T,N,K,Q⟩
  have V:=fstE_zero Q
  have a6:∀v∈l,F7 v.name=true/\v.name.size<=1048576:=by
   intro v hv;have:=V v hv;unfold vrE at this;split at this
   .rename_i hn;exact⟨hn,hs v hv⟩
   .cases this
  have a8:∀b,AFF l=b->MV l=if b=true then 8 else if(l.any fun v=>SV l v.name)=true then 10 else if KL l>20 then 2 else 0:=fun b p=>by
   unfold MV;rw[if_neg X,if_neg (by simp [Q]),p]
  refine A7 T (IL Z7 N) ?_;refine EK 2 (fun g E=>g 1=.ptr h.length 0 0/\g 5=.n (KL l)/\E[h.length]?=some (qG 1 [[.sl m 4 (l.map encV)]])/\ext h E/\AFF l=false) (fun g E=>g 2=.n (MV l)/\ext h E) ?_ ?_ ?_
  .refine BB (fun n g E=>∃i,n+i=l.length/\(∀(j:Nat) (f:j<i) (P:j<l.length),plc (l.take j) l[j].name<0)/\g 1=.ptr h.length 0 0/\g 5=.n (KL (l.take i))/\g 63=.sl m 4 (l.map encV)/\g 64=.n (l.length:Nat)/\g 65=.n (i:Nat)/\E[h.length]?=some (qG 1 [[.sl m 4 (l.map encV)]])/\ext h E) l.length ⟨0,BA,fun j f=>absurd f U,D7 T,AO,AO,AO,AO,N,K⟩ ?_
   clear T N K;rintro n F H ⟨i,hi,p,T,f5,a9,f64,L,N,K⟩;refine A7 f64 L ?_;refine DX ?_ ?_<;>intro d
   .have e:(H++[qG 4 [encV l[i]]])[h.length]?=_:=AU N
    have c:ext h (H++[qG 4 [encV l[i]]]):=K.app _;have J:=AZ H (qG 4 [encV l[i]]);simp only[vQ,CQ,↓reduceIte,jC,enP,bM,jQ,a9,L,CP d,ldV d,al61,st61]
    generalize H++[qG 4 [encV l[i]]]=H1 at e c J|-
    have l0:BO jA H1 9 (.ptr H.length 0 0)=some (.str l[i].name):=by rw[BK ag9 J (row:=encV l[i]) rfl];rfl
    have C:BO jA H1 3 (.ptr H.length 0 1)=some (.n l[i].width):=by rw[BK ag3 J (row:=encV l[i]) rfl];rfl
    have R:BO jA H1 3 (.ptr H.length 0 2)=some (.n l[i].mode):=by rw[BK ag3 J (row:=encV l[i]) rfl];rfl
    refine DC T (IL Z7 e) l0 ?_;refine(index_prog G l m l[i].name _ U).uu ?_;refine BH ?_ ?_<;>intro hd
    .refine AB ?_
     refine⟨?_,c⟩;rw[a8 true (AFE d ((ADJ d).1 (by simpa [bne] using hd)))];rfl
    have aa:plc (l.take i) l[i].name<0:=by
     rcases Int.lt_or_le (plc (l.take i) l[i].name) 0 with M|M
     .exact M
     .exact absurd (by simpa [bne] using hd) ((ADJ d).2 M)
    have a5:∀(j:Nat) (f:j<i+1) (P:j<l.length),plc (l.take j) l[j].name<0:=fun j f P=>by
     rcases zA j i with M|M
     .exact p j M P
     .obtain rfl:j=i:=U
      exact aa
    have O:=dF d;have ab:=rP l V (i+1) U;refine AY R ?_;refine BH ?_ ?_<;>intro hm
    .have a1:¬l[i].mode=0:=by simpa [bne] using hm
     rw[if_neg a1] at O;have hw:IntKind.i64.wrap (KL (l.take i)+l[i].width)=KL (l.take (i+1)):=by rw[O,wrap_i64 U U]
     refine H7 f5 L C hw (C9 i) ?_;exact⟨n-1,U,i+1,U,a5,AC,rfl,AC,AC,rfl,e,c⟩
    .have a1:l[i].mode=0:=by simpa [bne] using hm
     rw[if_pos a1,Int.add_zero] at O;refine A7 L (C9 i) ?_;exact⟨n-1,U,i+1,U,a5,AC,by rw[O];exact f5,AC,AC,rfl,e,c⟩
   .refine AB ?_
    refine⟨T,?_,N,K,wT fun j f=>p j U f⟩;rw[jK U] at f5;exact f5
  .rintro g E ⟨g1,g5,a4,B,hd⟩
   have a3:=a8 _ hd;refine A7 g1 (IL Z7 a4) ?_;refine(ALF G l m 152 [.ptr h.length 0 0] (fun v=>SV l v.name) E U fun v hv=>A4Y G hG l m v _ _ a4 P (a6 v hv).2 (a6 v hv).1).uu ?_;refine BH ?_ ?_<;>intro hg
   .refine AB ?_
    exact⟨by rw[a3,hg];rfl,B⟩
   refine AY g5 ?_;refine BH ?_ ?_<;>intro hx
   .refine AB ?_
    refine⟨?_,B⟩;rw[a3,hg,if_neg DU,if_neg DU,if_pos (BL hx)]
   .refine AB ?_
    refine⟨?_,B⟩;rw[a3,hg,if_neg DU,if_neg DU,if_neg (BL hx)]
  .rintro g E ⟨g2,B⟩
   refine AY g2 ?_;exact⟨trivial,B⟩
 .rintro F H ⟨f2,K⟩
  refine AY f2 ?_;exact⟨trivial,K⟩
theorem ltz_false (i:Nat):decide ((i:Int)<0)=false:=by rw[decide_eq_false_iff_not];omega
theorem frzEx:Frz AQ:=fun n h d x=>by
 rw[FK];exact⟨rfl,rfl⟩
def growR_ren:Go.Shelf.Ren:=⟨fun|4=>98|n=>n,fun|22=>23|25=>79|3=>3|4=>4|9=>9|20=>20|0=>0|n=>n,fun|n=>n⟩
theorem growR:Go.Proofs.Lays8.n4 jA growR_ren := {
 mixed:=BC,
 f4:=⟨Tryz.f98.name,by decide,Tryz.func98.trans (congrArg some BC)⟩,
 t0:=Tryz.underlying0,
 a0:=Tryz.isAgg0,
 z0:=Tryz.sizeOf0,
 v0:=Tryz.zeroValue0,
 t3:=Tryz.underlying3,
 a3:=Tryz.isAgg3,
 z3:=Tryz.sizeOf3,
 v3:=Tryz.zeroValue3,
 t4:=Tryz.underlying4,
 a4:=Tryz.isAgg4,
 z4:=Tryz.sizeOf4,
 v4:=Tryz.zeroValue4,
 t9:=Tryz.underlying9,
 a9:=Tryz.isAgg9,
 z9:=Tryz.sizeOf9,
 v9:=Tryz.zeroValue9,
 t20:=Tryz.underlying20,
 a20:=Tryz.isAgg20,
 z20:=Tryz.sizeOf20,
 v20:=Tryz.zeroValue20,
 t22:=Tryz.underlying23,
 a22:=Tryz.isAgg23,
 z22:=Tryz.sizeOf23,
 v22:=Tryz.zeroValue23 }
theorem zc_size (z:Array Value)(n:Nat):(Builtin.zeroCells z n).size=n*z.size:=by simp [Builtin.zeroCells]
theorem grow_prog (n:Nat)(V:n<=1048576)(h:Hp):ACalls (En G) 98 [.sl .nil 0 [],.n (n:Nat)] h fun v H=>(n=0/\v=.sl .nil 0 []/\H=h)\/(0<n/\v=.own h.length 0 0/\H=h++[qG 4 []]):=by
 refine⟨cok 98 G BC,fun g w d S Q=>?_⟩;obtain⟨K,p⟩:=Q
 obtain⟨A,I,rfl⟩:∃a b,d = #[a,b]:=by
  obtain⟨l⟩:=d
  match l,K with
  | [a,b],_=>exact⟨a,b,rfl⟩
 have Z:=(p 0 _ A rfl rfl).sl_inv;obtain rfl:=(p 1 _ I rfl rfl).int_inv
 have E:A=.slice none 0 0:=by
  cases Z with
  | nil=>rfl
  | empty _ _ _ _ q=>exact absurd rfl q
  | sl _ _ _ _ _ _ _ _ _ _ _ q=>exact absurd rfl q
 subst E;rcases Nat.eq_zero_or_pos n with J|J
 .subst J
  refine(Any8.slices_Grow_room growR none 0 0 0 w (jF _) U U (jF _)).mono ?_;rintro e w' ⟨rfl,rfl⟩;exact .inl ⟨_,_,g,h,rfl,.inl ⟨rfl,rfl,rfl⟩,Gh.le.refl g,S,.fro (.nil 0)⟩
 .have Y:Tryz.prog.info? 79=some Tryz.t79:=BC
  have F:Tryz.t79.zero.isSome=true:=BC;obtain⟨z,F⟩:=Option.isSome_iff_exists.1 F;have X:Tryz.t79.size=4:=BC;have R:Tryz.t79.bytes<=64:=jB BC;have N:n*Tryz.t79.bytes<=1048576*64:=Nat.mul_le_mul V R
  have L:z.cells.size=4:=by
   have M:(Tryz.t79.zero.map fun z=>z.cells.size)=some 4:=BC;rw[F] at M;simpa using M
  have T:=Any8.slices_Grow_grow growR Tryz.t79 z Y F (by rw[X];omega) none 0 0 n [] w (jF _) U (by rw[jG];omega) U BA (fun _=>rfl) (fun a q=>by cases q);refine T.mono ?_;rintro e w' ⟨rfl,rfl⟩;generalize P:grownCap w (0+n) 0 (growR_ren.t 25)=cap;have hle:0+n<=cap:=P▸grownCap_ge w _ _ _;have B:Grew w (w.drew.alloc (.cells ((#[]:Array Value)++Builtin.zeroCells z.cells (0+n-0)++Builtin.zeroCells z.cells (cap-(0+n))) (growR_ren.t 25))) (.cells ((#[]:Array Value)++Builtin.zeroCells z.cells (0+n-0)++Builtin.zeroCells z.cells (cap-(0+n))) (growR_ren.t 25) (0,0)):=⟨rfl,rfl,rfl,rfl⟩
  have f:((#[]:Array Value)++Builtin.zeroCells z.cells (0+n-0)++Builtin.zeroCells z.cells (cap-(0+n))).size=cap*4:=by
   simp only[Array.size_append,zc_size,L,List.size_toArray,List.length_nil];omega
  generalize ((#[]:Array Value)++Builtin.zeroCells z.cells (0+n-0)++Builtin.zeroCells z.cells (cap-(0+n)))=c at B f;obtain⟨O,C⟩:=S.new (k:=4) (xs:=[]) B ⟨BA,fun i row h=>by simp at h,fun i j row v h=>by simp at h⟩;refine .inl ⟨_,_,_,_,rfl,.inr ⟨J,rfl,rfl⟩,C,O,?_⟩;exact Rep.own h.length 0 0 cap ⟨w.heap.size,0,4,c.size⟩ (by simp [Gh.adopt]) (Nat.zero_le _) (by simp only[f];omega)
structure Yx where
 m:SM
 l:List Ex
def vZ (y:Yx):List AV:=[.sl y.m 4 (y.l.map AQ)]
theorem ATE (y:Yx):(vZ y)[0]?=some (.sl y.m 4 (y.l.map AQ)):=rfl
def fl (R:List Yx):List Ex:=(R.map Yx.l).flatten
theorem flat_take {R:List Yx}(b:i<R.length):fl (R.take (i+1))=fl (R.take i)++R[i].l:=by
 unfold fl;rw[jV b,qC,List.flatten_append];simp
theorem flat_take_le (R:List Yx)(i:Nat):(fl (R.take i)).length<=(fl R).length:=by
 have:fl R=fl (R.take i)++fl (R.drop i):=by unfold fl;rw[<-List.flatten_append,<-qC,wE]
 rw[this,jW];omega
def outK (h:Hp)(ys:List Ex)(v:AV)(H:Hp):Prop:=(v=.sl .nil 0 []/\ys=[])\/∃o,h.length<=o/\v=.own o 0 ys.length/\H[o]?=some (qG 4 (ys.map AQ))
theorem outK_app {H:Hp}{xs ys:List Ex}{v:AV}(s:SM)(f:outK h xs v H)(c:ext h H)(A:xs.length+ys.length<=8388608):
  ∃g H',EH jA true H 23 23 v (.sl s 4 (ys.map AQ))=some (g,H')/\outK h (xs++ys) g H'/\ext h H'/\(v=.sl .nil 0 []->ys=[]->g=.sl .nil 0 []):=by
 cases ys with
 | nil =>
   refine⟨v,H,?_,by rw[jM];exact f,c,fun q _=>q⟩;have b:JJ H (.sl s 4 [])=some (4,[]):=H6 H s 4 [];rcases f with⟨rfl,rfl⟩|⟨o,p,rfl,d⟩
   .simp [EH,NJ,GZ,SN,b,bump]
   .have e:JJ H (.own o 0 xs.length)=some (4,xs.map AQ):=by rw[JK d BA,zI,jK BA]
    simp [EH,NJ,GZ,SN,e,b,bump]
 | cons y ys =>
   have l:(y::ys).map AQ≠[]:=BA;rcases f with⟨rfl,rfl⟩|⟨o,p,rfl,d⟩
   .exact⟨_,_,UU NJ GZ QA P9 (H6 H s 4 ((y::ys).map AQ)) l (I5 (by simp at A|-;omega) U),.inr ⟨H.length,c.le,BA,BA⟩,c.app _,fun _ q=>by cases q⟩
   .have e:JJ H (.own o 0 xs.length)=some (4,xs.map AQ):=by rw[JK d BA,zI,jK BA]
    exact⟨_,_,TM NJ GZ QA P9 e (H6 H s 4 ((y::ys).map AQ)) l (I5 (by simp at A|-;omega) U),.inr ⟨H.length,c.le,BA,BA⟩,(c.set p _).app _,fun q=>by cases q⟩
section
variable (G:Nat->AV)
theorem concat_prog (R:List Yx)(s:SM)(hR:R.length<=1048576)(hl:(fl R).length<=1048576)(h:Hp):PCall (En G) 45 [.sl s 1 (R.map vZ)] h (.sl (Cov.nm (fl R)) 4 ((fl R).map AQ)):=by
 refine JZ frzEx ?_;refine acT Tryz.func45 2 ?_;refine AB ?_;refine EK 0 (fun F d=>F 0=.sl s 1 (R.map vZ)/\F 3=.n ((fl R).length:Nat)/\d=h) (fun _ _=>False) ?_ ?_ (fun _ _ q=>q.elim)
 .refine BB (fun n F d=>∃i,n+i=R.length/\F 0=.sl s 1 (R.map vZ)/\F 3=.n ((fl (R.take i)).length:Nat)/\F 9=.sl s 1 (R.map vZ)/\F 10=.n (R.length:Nat)/\F 11=.n (i:Nat)/\d=h) R.length
   ⟨0,BA,AO,AO,AO,AO,AO,rfl⟩ ?_
  rintro n F H ⟨i,Z,B,f,T,f10,f11,rfl⟩;refine A7 f10 f11 ?_;refine DX ?_ ?_<;>intro c
  .have b:=flat_take c
   have hle:=flat_take_le R (i+1);rw[b,jW] at hle;have hw:IntKind.i64.wrap ((((fl (R.take i)).length:Nat):Int)+((R[i].l.length:Nat):Int))=(((fl (R.take (i+1))).length:Nat):Int):=by rw[b,jW,wrap_i64 U U];omega
   refine OZ f T f11 c @ATE hw @ltz_false (C9 i) ?_;exact⟨n-1,U,i+1,U,AC,AC,AC,AC,AC,AC⟩
  .rw[jK U] at f
   refine AB ?_;exact⟨AC,AC,AC⟩
 rintro F H ⟨B,f,rfl⟩;refine AY f ?_;refine(grow_prog G (fl R).length hl H).mono ?_;intro M N P
 have A:outK H [] M N/\Sm.ext H N/\((fl R).length=0->M=.sl .nil 0 []):=by
  rcases P with⟨V,rfl,rfl⟩|⟨V,rfl,rfl⟩
  .exact⟨.inl ⟨rfl,rfl⟩,ext.rfl' _,fun _=>rfl⟩
  .exact⟨.inr ⟨H.length,jF _,rfl,AZ _ _⟩,(ext.rfl' H).app _,fun q=>U⟩
 refine AY B ?_
 refine BB (fun n F d=>∃i v,n+i=R.length/\F 6=v/\F 25=.sl s 1 (R.map vZ)/\F 26=.n (R.length:Nat)/\F 27=.n (i:Nat)/\outK H (fl (R.take i)) v d/\Sm.ext H d/\((fl R).length=0->v=.sl .nil 0 [])) R.length
  ⟨0,M,BA,AO,AO,AO,AO,by rw[qA];exact A.1,A.2.1,A.2.2⟩ ?_
 clear A P B f;rintro n F d ⟨i,v,Z,O,C,E,e,K,Q,S⟩;refine A7 E e ?_;refine DX ?_ ?_<;>intro c
 .have b:=flat_take c
  have hle:=flat_take_le R (i+1);rw[b,jW] at hle;obtain⟨v',H2,Y,p,L,J⟩:=outK_app R[i].m K Q (ys:=R[i].l) U;rw[<-b] at p;refine KZ O C e c @ATE Y (C9 i) ?_;exact⟨n-1,U,i+1,v',U,AC,AC,AC,AC,p,L,fun q=>J (S q) (List.length_eq_zero_iff.1 U)⟩
 .rw[jK U] at K
  refine AY O ?_;refine⟨Q,?_⟩;rcases K with⟨I,g⟩|⟨o,I,g,X⟩
  .exact .inl ⟨g,I⟩
  .refine .inr ⟨fun q=>?_,o,I,g,X⟩
   have:=S (by rw[q];rfl);rw[this] at g;cases g
end
def OY (x:Ex):Bool:=(x.op==3)||(x.op==24)
def PD (l:List Vr)(x:Ex):Bool:=(x.op==2)&&decide (plc l x.name<0)
def kB (e:Ex):Bool:=(pre e).any OY
def fC (l:List Vr)(e:Ex):Bool:=(pre e).any (PD l)
def plE (l:List Vr)(e:Ex):Int:=if kB e=true then 9 else if fC l e=true then 7 else 0
def xpE (l:List Vr)(e:Ex):Int:=if exE e≠0 then exE e else plE l e
def KY (l:List Vr)(xs:List Ex):Int:=fstE (xpE l) xs
theorem fstE_app {α:Type}(f:α->Int):∀xs ys:List α,fstE f (xs++ys)=if fstE f xs≠0 then fstE f xs else fstE f ys
 | [],ys=>by simp [fstE]
 | x::xs,ys=>by
   have b:=fstE_app f xs ys;show(if f x≠0 then f x else fstE f (xs++ys))=if(if f x≠0 then f x else fstE f xs)≠0 then (if f x≠0 then f x else fstE f xs) else fstE f ys
   rw[b];by_cases h:f x≠0
   .rw[if_pos h,if_pos h,if_pos h]
   .rw[if_neg h,if_neg h]
section
variable (G:Nat->AV)
theorem AJC (e:Ex):(pre e).length<=1048576->∀h:Hp,PCall (En G) 264 [.agg (AQ e)] h (.bool (kB e)):=by
 induction e using Ex.induct with|h e ih=>?_
 intro O h;have E:=congrArg qL (pre_eq e);rw[zF] at E;have M:e.args.length<=1048576:=by have:=WU e.args;omega
 have C:kB e=(OY e||(FT e.args).any OY):=by unfold kB;rw[pre_eq,List.any_cons]
 rw[C];refine ACalls.pure0 rfl ?_;refine acT Tryz.func264 2 ?_;have A:=AZ h (qG 4 [AQ e]);have p:=Sm.ext.r1 h (qG 4 [AQ e]);refine AY @bxE ?_
 generalize h++[qG 4 [AQ e]]=H1 at A p|-
 generalize h.length=eb at A|-
 have J:BO jA H1 3 (.ptr eb 0 0)=some (.n e.op):=by rw[BK ag3 A (row:=AQ e) rfl,KD]
 have K:BO jA H1 23 (.ptr eb 0 3)=some (.sl e.m 4 (e.args.map AQ)):=by rw[BK LU A (row:=AQ e) rfl,YL]
 refine AY J ?_;cases l:(e.op==3)
 case true =>
  refine AY l ?_;exact⟨by unfold OY;rw[l];rfl,p⟩
 refine A7 l J ?_;cases q:(e.op==24)
 case true =>
  refine AY q ?_;exact⟨by unfold OY;rw[l,q];rfl,p⟩
 have L:OY e=false:=by unfold OY;rw[l,q];rfl
 rw[L,wF];refine AY q ?_;refine BB (fun k F H=>∃j,k+j=e.args.length/\F 1=.ptr eb 0 0/\F 3=.n (j:Nat)/\H=H1/\(FT (e.args.take j)).any OY=false) e.args.length ⟨0,BA,AO,AO,rfl,rfl⟩ ?_;rintro k F H ⟨j,N,I,B,rfl,f⟩;refine DC I B K ?_;refine DX ?_ ?_<;>intro b
 .have d:e.args[j]∈e.args:=jH b
  have c:FT e.args=FT (e.args.take j)++(pre e.args[j]++FT (e.args.drop (j+1))):=by
   rw[<-zD,<-LH _ _ b,<-NQ,wE]
  simp only[vQ,CQ,↓reduceIte,jC,enP,PU,UG,I,B,K,CP b,DL NI GZ EC b];refine(ih e.args[j] d (by have:=QV d;omega) H).uu ?_;refine BH ?_ ?_<;>intro g
  .refine AB ?_
   refine⟨?_,p⟩;have g:(pre e.args[j]).any OY=true:=g;rw[c,List.any_append,List.any_append,g];simp
  .refine A7 B (C9 j) ?_
   have g:(pre e.args[j]).any OY=false:=g;exact⟨k-1,U,j+1,U,AC,rfl,trivial,by rw[LH _ _ b,List.any_append,f,g];rfl⟩
 .rw[jK U] at f
  refine AB ?_;exact⟨by rw[f],p⟩
theorem AEQ (l:List Vr)(m:SM)(Q:l.length<=1048576)(e:Ex):(pre e).length<=1048576->∀h:Hp,PCall (En G) 265 [.sl m 4 (l.map encV),.agg (AQ e)] h (.bool (fC l e)):=by
 induction e using Ex.induct with|h e ih=>?_
 intro R h;have J:=congrArg qL (pre_eq e);rw[zF] at J;have M:e.args.length<=1048576:=by have:=WU e.args;omega
 have I:fC l e=(PD l e||(FT e.args).any (PD l)):=by unfold fC;rw[pre_eq,List.any_cons]
 rw[I];refine ACalls.pure0 rfl ?_;refine acT Tryz.func265 4 ?_;have A:=AZ h (qG 4 [AQ e]);have C:=Sm.ext.r1 h (qG 4 [AQ e]);refine AY @bxE ?_
 generalize h++[qG 4 [AQ e]]=H1 at A C|-
 generalize h.length=eb at A|-
 have N:BO jA H1 3 (.ptr eb 0 0)=some (.n e.op):=by rw[BK ag3 A (row:=AQ e) rfl,KD]
 have O:BO jA H1 9 (.ptr eb 0 2)=some (.str e.name):=by rw[BK ag9 A (row:=AQ e) rfl,SG]
 have K:BO jA H1 23 (.ptr eb 0 3)=some (.sl e.m 4 (e.args.map AQ)):=by rw[BK LU A (row:=AQ e) rfl,YL]
 refine AY N ?_;refine RZ (fun F H=>F 0=.sl m 4 (l.map encV)/\F 3=.ptr eb 0 0/\F 15=.bool (PD l e)/\H=H1) ?_ ?_
 .cases p:(e.op==2)
  .refine AY p ?_
   exact⟨trivial,trivial,by unfold PD;rw[p];rfl,trivial⟩
  .refine A7 p O ?_
   refine(U9 G l m e.name H1 U).use ?_;refine AY p ?_;exact⟨trivial,trivial,by unfold PD;rw[p];rfl,trivial⟩
 rintro F H ⟨B,q,f15,rfl⟩;refine AY f15 ?_;refine BH ?_ ?_<;>intro c
 .refine AB ?_
  exact⟨by rw[c];rfl,C⟩
 rw[c,wF];refine AB ?_;refine BB (fun k F L=>∃j,k+j=e.args.length/\F 0=.sl m 4 (l.map encV)/\F 3=.ptr eb 0 0/\F 5=.n (j:Nat)/\L=H/\(FT (e.args.take j)).any (PD l)=false) e.args.length ⟨0,BA,D7 B,D7 q,AO,rfl,rfl⟩ ?_;clear B q f15;rintro k F H ⟨j,P,B,q,E,rfl,g⟩;refine DC q E K ?_;refine DX ?_ ?_<;>intro b
 .have f:e.args[j]∈e.args:=jH b
  have d:FT e.args=FT (e.args.take j)++(pre e.args[j]++FT (e.args.drop (j+1))):=by
   rw[<-zD,<-LH _ _ b,<-NQ,wE]
  simp only[vQ,CQ,↓reduceIte,jC,enP,PU,UG,B,q,E,K,CP b,DL NI GZ EC b];refine(ih e.args[j] f (by have:=QV f;omega) H).uu ?_;refine BH ?_ ?_<;>intro c
  .refine AB ?_
   refine⟨?_,C⟩;have c:(pre e.args[j]).any (PD l)=true:=c;rw[d,List.any_append,List.any_append,c];simp
  .refine A7 E (C9 j) ?_
   have c:(pre e.args[j]).any (PD l)=false:=c;exact⟨k-1,U,j+1,U,AC,AC,rfl,trivial,by rw[LH _ _ b,List.any_append,g,c];rfl⟩
 .rw[jK U] at g
  refine AB ?_;exact⟨by rw[g],C⟩
theorem ANP (l:List Vr)(m:SM)(f:l.length<=1048576)(e:Ex)(d:(pre e).length<=1048576)(h:Hp):PCall (En G) 194 [.sl m 4 (l.map encV),.agg (AQ e)] h (.n (plE l e)):=by
 refine ACalls.pure0 rfl ?_;refine acT Tryz.func194 4 ?_;refine A7 @bxE @ldE ?_;refine(AJC G e d _).uu ?_;refine BH ?_ ?_<;>intro b
 .refine AB ?_
  exact⟨by unfold plE;rw[b];rfl,_,rfl⟩
 refine AY @ldE ?_;refine(AEQ G l m f e d _).uu ?_;refine BH ?_ ?_<;>intro c
 .refine AB ?_
  exact⟨by unfold plE;rw[b,c];rfl,_,rfl⟩
 .refine AB ?_
  exact⟨by unfold plE;rw[b,c];rfl,_,rfl⟩
theorem YK (l:List Vr)(m:SM)(A:l.length<=1048576)(xs:List Ex)(s:SM)(P:xs.length<=1048576)(M:∀e∈xs,wt e<=1048576)(h:Hp):PCall (En G) 105 [.sl m 4 (l.map encV),.sl s 4 (xs.map AQ)] h (.n (KY l xs)):=by
 refine acT Tryz.func105 4 ?_;refine AB ?_;refine BB (fun n F H=>∃i,n+i=xs.length/\(∀(j:Nat) (g:j<i) (A:j<xs.length),xpE l xs[j]=0)/\F 0=.sl m 4 (l.map encV)/\F 1=.sl s 4 (xs.map AQ)/\F 5=.n (i:Nat)/\H=h) xs.length ⟨0,BA,fun j g=>absurd g U,AO,AO,AO,rfl⟩ ?_;rintro n F H ⟨i,O,C,L,B,q,rfl⟩;refine A7 B q ?_;refine DX ?_ ?_<;>intro b
 .have E:=M _ (jH b)
  have f:xpE l xs[i]≠0->KY l xs=xpE l xs[i]:=fun N=>U8 (xpE l) xs i b (fun j g=>C j g U) N
  simp only[vQ,CQ,↓reduceIte,jC,enP,PU,B,q,CP b,DL NI GZ EC b];refine(VW G xs[i] H E).uu ?_;refine BH ?_ ?_<;>intro J
  .have d:exE xs[i]≠0:=by simpa [bne] using J
   have c:xpE l xs[i]=exE xs[i]:=by unfold xpE;rw[if_pos d]
   refine AB ?_;exact⟨by rw[f (by rw[c];exact d),c],trivial⟩
  have d:exE xs[i]=0:=by simpa [bne] using J
  have c:xpE l xs[i]=plE l xs[i]:=by unfold xpE;rw[if_neg (by simp [d])]
  simp only[vQ,CQ,↓reduceIte,jC,enP,PU,L,B,q,CP b,DL NI GZ EC b];refine(ANP G l m A xs[i] (by have:=XX xs[i];omega) H).uu ?_;refine BH ?_ ?_<;>intro K
  .have p:plE l xs[i]≠0:=by simpa [bne] using K
   refine AB ?_;exact⟨by rw[f (by rw[c];exact p),c],trivial⟩
  .have p:plE l xs[i]=0:=by simpa [bne] using K
   refine A7 q (C9 i) ?_;refine⟨n-1,U,i+1,U,fun j g A=>?_,AC,AC,rfl,trivial⟩;rcases zA j i with I|I
   .exact C j I A
   .obtain rfl:j=i:=U
    rw[c];exact p
 .refine AB ?_
  exact⟨by rw[KY,SX (xpE l) xs fun j g=>C j U g],trivial⟩
end
theorem AUQ (e:Ex):decide (((nmL [3,24] [] (pre e)).length:Int)>0)=kB e:=by
 have h:=eJ (fun _=>false) [3,24] (pre e) []
 have b:(nmL [3,24] [] (pre e)).all (fun _=>false)=decide ((nmL [3,24] [] (pre e)).length=0):=by
  cases nmL [3,24] [] (pre e)<;>simp
 rw[b] at h;unfold kB
 have c:(pre e).any OY = !((pre e).all fun e => !Rk.hasB [3,24] e.op||false):=by
  rw[List.not_all_eq_any_not];congr 1;funext x;unfold OY Rk.hasB;rw[wP];simp;constructor
  .rintro (h|h)<;>simp [h]
  .rintro (h|h)<;>simp [h]
 rw[c];simp only[List.all_nil,qZ] at h;rw[<-h];cases nmL [3,24] [] (pre e)<;>simp
theorem AS1 (l:List Vr)(e:Ex):(nmL [2] [] (pre e)).any (fun n=>decide (plc l n<0))=fC l e:=by
 have h:=eJ (fun n => !decide (plc l n<0)) [2] (pre e) [];simp only[List.all_nil,qZ] at h;rw[<-Bool.not_inj_iff,List.not_any_eq_all_not,h];unfold fC;rw[List.not_any_eq_all_not];congr 1;funext x;unfold PD Rk.hasB;rw[wP];simp;constructor
 .omega
 .omega
theorem AT7 (h:Hp)(a b:SM)(x y:List (List AV)):DJ jA false h 100 2 [(0,.sl a 4 x),(1,.sl b 4 y)]=some (.sl .full 1 [[.sl a 4 x],[.sl b 4 y]],h):=BC
section
variable (G:Nat->AV)
theorem A4X (p:Pr)(n:ByteArray)(c:Nat)(h:Hp)(b:h[c]?=some (qG 5 [CW p]))(e:p.vars.length<=1048576):PCall (En G) 157 ([.str n]++[.ptr c 0 0]) h (.bool (decide (plc p.vars n<0))):=by
 refine acT Tryz.func157 3 ?_;have d:BO jA h 22 (.ptr c 0 0)=some (.sl p.vm 4 (p.vars.map encV)):=by rw[BK Z7 b (row:=CW p) rfl];rfl
 refine AY d ?_;refine(index_prog G p.vars p.vm n h U).uu ?_;exact G7
theorem AIN (hG:GOk G)(p:Pr)(O:p.vars.length<=1048576)(hx:p.hard.length+p.soft.length<=1048576)(V:∀e∈p.hard++p.soft,wt e<=1048576)(h:Hp):PCall (En G) 80 [.agg (CW p)] h (.n (KY p.vars (p.hard++p.soft))):=by
 refine ACalls.pure0 rfl ?_;refine acT Tryz.func80 2 ?_;have A:=AZ h (qG 5 [CW p]);have d:=Sm.ext.r1 h (qG 5 [CW p]);refine A7 @dA @PZ ?_
 generalize h++[qG 5 [CW p]]=H1 at A d|-
 generalize h.length=eb at A|-
 have X:BO jA H1 23 (.ptr eb 0 1)=some (.sl p.hm 4 (p.hard.map AQ)):=by rw[BK LU A (row:=CW p) rfl];rfl
 have Y:BO jA H1 23 (.ptr eb 0 2)=some (.sl p.sm 4 (p.soft.map AQ)):=by rw[BK LU A (row:=CW p) rfl];rfl
 refine EG @pR X Y AT7 ?_;have K:fl [⟨p.hm,p.hard⟩,⟨p.sm,p.soft⟩]=p.hard++p.soft:=by simp [fl]
 have J:=concat_prog G [⟨p.hm,p.hard⟩,⟨p.sm,p.soft⟩] .full BA (by rw[K,jW];omega) H1;rw[K] at J;refine J.use ?_;have R:(p.hard++p.soft).length<=1048576:=by rw[jW];omega
 generalize p.hard++p.soft=xs at V R|-
 refine AB ?_;refine BB (fun n F H=>∃i,n+i=xs.length/\(∀(j:Nat) (C:j<i) (O:j<xs.length),xpE p.vars xs[j]=0)/\F 1=.ptr eb 0 0/\F 11=.sl (nm xs) 4 (xs.map AQ)/\F 12=.n (xs.length:Nat)/\F 13=.n (i:Nat)/\H[eb]?=some (qG 5 [CW p])/\ext h H) xs.length ⟨0,BA,fun j C=>absurd C U,AO,AO,AO,AO,A,d⟩ ?_;clear A d X Y;rintro n F H ⟨i,hi,Q,Z,f11,f12,f13,A,d⟩;refine A7 f12 f13 ?_;refine DX ?_ ?_<;>intro q
 .have E:=V _ (jH q)
  have f:xpE p.vars xs[i]≠0->KY p.vars xs=xpE p.vars xs[i]:=fun hz=>U8 (xpE p.vars) xs i q (fun j C=>Q j C U) hz
  have B:(H++[qG 4 [AQ xs[i]]])[eb]?=_:=AU A;have g:ext h (H++[qG 4 [AQ xs[i]]]):=d.app _;have M:=AZ H (qG 4 [AQ xs[i]]);have I:IG jA H 79=some (.ptr H.length 0 0,H++[qG 4 [[.n 0,.n 0,.str ⟨#[]⟩,.sl .nil 0 []]]]):=F9 (row:=[.n 0,.n 0,.str ⟨#[]⟩,.sl .nil 0 []]) BC
  have L:D8 jA (H++[qG 4 [[.n 0,.n 0,.str ⟨#[]⟩,.sl .nil 0 []]]]) 79 (.ptr H.length 0 0) (.agg (AQ xs[i]))=some (H++[qG 4 [AQ xs[i]]]):=by
   have hle:(AQ xs[i]).length=4:=EC _;rw[JU (cs:=AQ xs[i]) (row:=[.n 0,.n 0,.str ⟨#[]⟩,.sl .nil 0 []]) (RV (by rw[FK];rfl)) (by rw[hle];exact GZ) (AZ _ _) (by rw[hle];exact jF 4),KI]
   have:splice [.n 0,.n 0,.str ⟨#[]⟩,.sl .nil 0 []] 0 (AQ xs[i])=AQ xs[i]:=by
    unfold splice;rw[qA,List.drop_eq_nil_of_le (by rw[hle];exact jF 4)];simp
   rw[this]
  simp only[vQ,CQ,↓reduceIte,jC,enP,PU,jQ,f11,f13,CP q,DL NI GZ EC q,I,L]
  generalize H++[qG 4 [AQ xs[i]]]=H1 at B g M|-
  refine AY (IC M) ?_;refine(PY G hG xs[i] _ E).uu ?_;refine BH ?_ ?_<;>intro S
  .have l:exE xs[i]≠0:=by simpa [bne] using S
   have b:xpE p.vars xs[i]=exE xs[i]:=by unfold xpE;rw[if_pos l]
   refine AB ?_;exact⟨by rw[f (by rw[b];exact l),b],g⟩
  have l:exE xs[i]=0:=by simpa [bne] using S
  have b:xpE p.vars xs[i]=plE p.vars xs[i]:=by unfold xpE;rw[if_neg (by simp [l])]
  refine AY (IC M) ?_;refine(aC G xs[i] E _).use ?_;refine AY @AUQ ?_;refine BH ?_ ?_<;>intro P
  .have c:plE p.vars xs[i]=9:=by unfold plE;rw[if_pos P]
   refine AB ?_;exact⟨by rw[f (by rw[b,c];decide),b,c],g⟩
  refine AY (IC M) ?_;refine(dN G xs[i] E _).use ?_;refine AY Z ?_
  have a0:(nmL [2] [] (pre xs[i])).length<=1048576:=by
   have N:=aP [2] (pre xs[i]) [];have h2:=XX xs[i];simp at N;omega
  refine(AXG G (nmL [2] [] (pre xs[i])) (nm (nmL [2] [] (pre xs[i]))) 157 [.ptr eb 0 0] (fun n=>decide (plc p.vars n<0)) H1 U fun n _=>A4X G p n eb _ B O).use ?_;refine AY @AS1 ?_;refine BH ?_ ?_<;>intro T
  .have c:plE p.vars xs[i]=7:=by unfold plE;rw[P,T];rfl
   refine AB ?_;exact⟨by rw[f (by rw[b,c];decide),b,c],g⟩
  .have c:plE p.vars xs[i]=0:=by unfold plE;rw[P,T];rfl
   refine A7 f13 (C9 i) ?_;refine⟨n-1,U,i+1,U,fun j C O=>?_,AC,AC,AC,rfl,B,g⟩;rcases zA j i with N|N
   .exact Q j N O
   .grind
 .refine AB ?_
  exact⟨by rw[KY,SX (xpE p.vars) xs fun j C=>Q j U C],d⟩
end
def QY (l:List Vr)(i:Int):Bool:=decide (0<=i)&&(decide (i<l.length)&&(match l[i.toNat]? with|some v => !(v.mode==0)|none=>false))
def rU (x:Wg):Bool:=decide (x.lo<0)||decide (x.lo>x.hi)||decide (x.hi>65535)||decide (x.w<0)||decide (x.w>1000)
def dsE (l:List Vr)(ds:List Ds)(d:Ds):Int:=if QY l d.var=true then if ds.any (fun x=>x.var==d.var)=true then 8 else if d.ws.length>16 then 2 else if d.ws.any rU=true then 1 else 0 else 1
def dsI (l:List Vr)(ds:List Ds)(i:Nat):Int:=match ds[i]? with|some d=>dsE l (ds.take i) d|none=>0
def PL (l:List Vr)(ds:List Ds):Int:=fstE (dsI l ds) (zL ds.length)
theorem rB {l:List Vr}{ds:List Ds}(b:i<ds.length):dsI l ds i=dsE l (ds.take i) ds[i]:=by unfold dsI;rw[jO b]
theorem rC {l:List Vr}{ds:List Ds}(b:i<ds.length)(c:∀j,j<i->dsI l ds j=0)(h:dsE l (ds.take i) ds[i]≠0):PL l ds=dsE l (ds.take i) ds[i]:=by
 have:=U8 (dsI l ds) (zL ds.length) i (BL b) (fun j d=>by rw[List.getElem_range];exact c j d) (by rw[List.getElem_range,rB b];exact h);rw[List.getElem_range,rB b] at this;exact this
theorem lD {l:List Vr}{ds:List Ds}(b:∀j,j<ds.length->dsI l ds j=0):PL l ds=0 :=
 SX _ _ fun j c=>by rw[List.getElem_range];exact b j (BL c)
theorem aM {l:List Vr}(b:n<l.length):QY l (n:Nat) = !(l[n].mode==0):=by
 unfold QY;rw[decide_eq_true U,decide_eq_true U,qM,jO b];rfl
theorem A8I (h:Hp):IG jA h 140=some (.ptr h.length 0 0,h++[qG 2 [[.n 0,.sl .nil 0 []]]]):=F9 (row:=[.n 0,.sl .nil 0 []]) BC
theorem A7A (h:Hp)(v:Ds):D8 jA (h++[qG 2 [[.n 0,.sl .nil 0 []]]]) 140 (.ptr h.length 0 0) (.agg (IY v))=some (h++[qG 2 [IY v]]):=by
 rw[JU (cs:=IY v) (row:=[.n 0,.sl .nil 0 []]) rfl dY (AZ _ _) (by exact jF 2),KI];rfl
theorem A8F (h:Hp):IG jA h 240=some (.ptr h.length 0 0,h++[qG 4 [[.n 0,.n 0,.n 0,.bool false]]]):=F9 (row:=[.n 0,.n 0,.n 0,.bool false]) BC
theorem A68 (h:Hp)(v:Wg):D8 jA (h++[qG 4 [[.n 0,.n 0,.n 0,.bool false]]]) 240 (.ptr h.length 0 0) (.agg (I9 v))=some (h++[qG 4 [I9 v]]):=by
 rw[JU (cs:=I9 v) (row:=[.n 0,.n 0,.n 0,.bool false]) rfl AKA (AZ _ _) (by exact jF 4),KI];rfl
theorem A63 {l:List Ds}{m:SM}(b:i<=l.length):∃m',IP jA h 24 (.sl m 2 (l.map IY)) none (some (.n (i:Nat))) none=some (.sl m' 2 ((l.take i).map IY)) :=
 ⟨tR m i (l.map IY).length,by rw[ACT A61 dY (by rw[jI];exact b),List.map_take]⟩
section
variable (G:Nat->AV)
theorem Y9 (p:Pr)(i:Int)(_:p.vars.length<=1048576)(h:Hp):PCall (En G) 158 [.agg (CW p),.n i] h (.bool (QY p.vars i)):=by
 refine ACalls.pure0 rfl ?_;refine acT Tryz.func158 4 ?_;have e:BO jA (h++[qG 5 [CW p]]) 22 (.ptr h.length 0 0)=some (.sl p.vm 4 (p.vars.map encV)):=by rw[BK Z7 (AZ _ _) (row:=CW p) rfl];rfl
 refine AY @PZ ?_;cases b:decide (i≥0)
 .refine AY b ?_
  refine⟨?_,_,rfl⟩;unfold QY;rw[show decide (0<=i)=false from b];rfl
 have f:0<=i:=BL b;obtain⟨n,rfl⟩:=wI f;refine A7 b e ?_;cases c:decide (((n:Nat):Int)<((p.vars.length:Nat):Int))
 .refine AY c ?_
  refine⟨?_,_,rfl⟩;unfold QY;rw[c];simp
 have d:n<p.vars.length:=BL c;have g:BO jA (h++[qG 5 [CW p]]) 3 (.fptr 4 (p.vars.map encV) n 2)=some (.n p.vars[n].mode):=by rw[BR ag3 d];rfl
 simp only[vQ,EP,UL,CQ,↓reduceIte,jC,enP,bM,iK,X8,c,e,CP d,g,bne];exact⟨by rw[aM d],_,rfl⟩
theorem A4W (x d:Ds)(c:Nat)(h:Hp)(e:h[c]?=some (qG 2 [IY d])):PCall (En G) 160 ([.agg (IY x)]++[.ptr c 0 0]) h (.bool (x.var==d.var)):=by
 refine ACalls.pure0 rfl ?_;refine acT Tryz.func160 3 ?_;have b:(h++[qG 2 [IY x]])[c]?=_:=AU e;have f:BO jA (h++[qG 2 [IY x]]) 3 (.ptr h.length 0 0)=some (.n x.var):=by rw[BK ag3 (AZ _ _) (row:=IY x) rfl];rfl
 have g:BO jA (h++[qG 2 [IY x]]) 3 (.ptr c 0 0)=some (.n d.var):=by rw[BK ag3 b (row:=IY d) rfl];rfl
 refine DC @bxD f g ?_;exact⟨trivial,_,rfl⟩
theorem A4U (x:Wg)(h:Hp):PCall (En G) 239 ([.agg (I9 x)]++[]) h (.bool (rU x)):=by
 refine ACalls.pure0 rfl ?_;refine acT Tryz.func239 2 ?_;have c:BO jA (h++[qG 4 [I9 x]]) 3 (.ptr h.length 0 0)=some (.n x.lo):=by rw[BK ag3 (AZ _ _) (row:=I9 x) rfl];rfl
 have e:BO jA (h++[qG 4 [I9 x]]) 3 (.ptr h.length 0 1)=some (.n x.hi):=by rw[BK ag3 (AZ _ _) (row:=I9 x) rfl];rfl
 have l:BO jA (h++[qG 4 [I9 x]]) 3 (.ptr h.length 0 2)=some (.n x.w):=by rw[BK ag3 (AZ _ _) (row:=I9 x) rfl];rfl
 refine AY @A5E ?_;unfold rU;cases b:decide (x.lo<0)
 case true =>
  refine A7 c b ?_;exact⟨trivial,_,rfl⟩
 cases d:decide (x.lo>x.hi)
 case true =>
  refine EG c e b d ?_;exact⟨trivial,_,rfl⟩
 cases f:decide (x.hi>65535)
 case true =>
  refine H7 c e b d f ?_;exact⟨trivial,_,rfl⟩
 cases g:decide (x.w<0)
 case true =>
  refine OZ @aY c e l b d f g ?_;exact⟨trivial,_,rfl⟩
 cases p:decide (x.w>1000)
 all_goals
  refine V7 @aY c e l b d f g p ?_;exact⟨trivial,_,rfl⟩
theorem yC (xs:List Wg)(m:SM)(b:xs.length<=1048576)(h:Hp):PCall (En G) 161 [.sl m 4 (xs.map I9)] h (.bool (!(xs.any rU))):=by
 refine acT Tryz.func161 2 ?_;refine AB ?_;refine(A1R G xs m 239 [] rU h U fun x _=>A4U G x h).uu ?_;exact G7
theorem AIS (p:Pr)(Y:p.vars.length<=1048576)(hd:p.dists.length<=1048576)(hw:∀d∈p.dists,d.ws.length<=1048576)(h:Hp):PCall (En G) 82 [.agg (CW p)] h (.n (PL p.vars p.dists)):=by
 refine ACalls.pure0 rfl ?_;refine acT Tryz.func82 2 ?_;have A:=AZ h (qG 5 [CW p]);have f:=Sm.ext.r1 h (qG 5 [CW p]);refine AY @PZ ?_
 generalize h++[qG 5 [CW p]]=H1 at A f|-
 generalize h.length=eb at A|-
 have I:BO jA H1 24 (.ptr eb 0 3)=some (.sl p.dm 2 (p.dists.map IY)):=by rw[BK APL A (row:=CW p) rfl];rfl
 refine AY I ?_;refine BB (fun n F H=>∃i,n+i=p.dists.length/\(∀(j:Nat),j<i->dsI p.vars p.dists j=0)/\F 1=.ptr eb 0 0/\F 6=.sl p.dm 2 (p.dists.map IY)/\F 7=.n (p.dists.length:Nat)/\F 8=.n (i:Nat)/\H[eb]?=some (qG 5 [CW p])/\ext h H) p.dists.length ⟨0,BA,fun j M=>absurd M U,AO,AO,AO,AO,A,f⟩ ?_;clear A f I;rintro n F H ⟨i,hi,L,Q,T,V,K,A,f⟩;refine A7 V K ?_;refine DX ?_ ?_<;>intro c
 .have N:=hw _ (jH c)
  have b:=rC c L;have X:=rB (l:=p.vars) c;have q:(H++[qG 2 [IY p.dists[i]]])[eb]?=_:=AU A;have e:ext h (H++[qG 2 [IY p.dists[i]]]):=f.app _;have E:=AZ H (qG 2 [IY p.dists[i]]);simp only[vQ,CQ,↓reduceIte,jC,enP,AH7,jQ,T,K,CP c,DL AGJ dY RI c,A8I,A7A]
  generalize H++[qG 2 [IY p.dists[i]]]=H1 at q e E|-
  have lp:BO jA H1 27 (.ptr eb 0 0)=some (.agg (CW p)):=by rw[EN fU cH q (row:=CW p) rfl (by rw[MG];exact jF 5)];rfl
  have I:BO jA H1 24 (.ptr eb 0 3)=some (.sl p.dm 2 (p.dists.map IY)):=by rw[BK APL q (row:=CW p) rfl];rfl
  have S:BO jA H1 3 (.ptr H.length 0 0)=some (.n p.dists[i].var):=by rw[BK ag3 E (row:=IY p.dists[i]) rfl];rfl
  have P:BO jA H1 120 (.ptr H.length 0 1)=some (.sl p.dists[i].wm 4 (p.dists[i].ws.map I9)):=by rw[BK AGK E (row:=IY p.dists[i]) rfl];rfl
  obtain⟨m',Z⟩:=A63 (h:=H1) (m:=p.dm) (Nat.le_of_lt c);refine DC Q lp S ?_;refine(Y9 G p _ Y _).use ?_;cases B:QY p.vars p.dists[i].var
  .have g:dsE p.vars (p.dists.take i) p.dists[i]=1:=by unfold dsE;rw[B];rfl
   refine AB ?_;exact⟨by rw[b (by rw[g];decide),g],e⟩
  refine DC Q I Z ?_;refine(ASQ G (p.dists.take i) m' 160 [.ptr H.length 0 0] (fun x=>x.var==p.dists[i].var) H1 (by rw[jR];omega) fun x _=>A4W G x p.dists[i] _ _ E).use ?_;cases C:(p.dists.take i).any fun x=>x.var==p.dists[i].var
  case true =>
   have g:dsE p.vars (p.dists.take i) p.dists[i]=8:=by unfold dsE;rw[B,C];rfl
   refine AB ?_;exact⟨by rw[b (by rw[g];decide),g],e⟩
  refine A7 vB P ?_;refine BH ?_ ?_<;>intro J
  .have g:dsE p.vars (p.dists.take i) p.dists[i]=2:=by unfold dsE;rw[B,C,if_pos rfl,if_neg DU,if_pos (by simp at J;omega)]
   refine AB ?_;exact⟨by rw[b (by rw[g];decide),g],e⟩
  refine AY P ?_;refine(yC G p.dists[i].ws p.dists[i].wm N _).use ?_;cases O:p.dists[i].ws.any rU
  case true =>
   have g:dsE p.vars (p.dists.take i) p.dists[i]=1:=by unfold dsE;rw[B,C,if_pos rfl,if_neg DU,if_neg (by simp at J;omega),O];rfl
   refine AB ?_;exact⟨by rw[b (by rw[g];decide),g],e⟩
  have g:dsE p.vars (p.dists.take i) p.dists[i]=0:=by unfold dsE;rw[B,C,if_pos rfl,if_neg DU,if_neg (by simp at J;omega),O];rfl
  refine A7 K (C9 i) ?_;refine⟨n-1,U,i+1,U,fun j M=>?_,AC,AC,AC,rfl,q,e⟩;rcases zA j i with R|R
  .exact L j R
  .grind
 .refine AB ?_
  exact⟨by rw[lD fun j M=>L j U],f⟩
end
section
variable (G:Nat->AV)
theorem AO0 (l:List Vr)(m:SM)(ds:List Ds)(s:SM)(hl:l.length<=1048576)(hd:ds.length<=1048576)(hw:∀d∈ds,d.ws.length<=1048576)(h:Hp):PCall (En G) 106 [.sl m 4 (l.map encV),.sl s 2 (ds.map IY)] h (.n (PL l ds)):=by
 refine ACalls.pure0 rfl ?_;refine acT Tryz.func106 4 ?_;refine AB ?_;refine BB (fun n F H=>∃i,n+i=ds.length/\(∀(j:Nat),j<i->dsI l ds j=0)/\F 0=.sl m 4 (l.map encV)/\F 1=.sl s 2 (ds.map IY)/\F 5=.n (i:Nat)/\ext h H) ds.length ⟨0,BA,fun j B=>absurd B U,AO,AO,AO,ext.rfl' h⟩ ?_;rintro n F H ⟨i,hi,hb,g,e,c,q⟩;refine A7 e c ?_;refine DX ?_ ?_<;>intro b
 .have a3:=hw _ (jH b)
  have E:=rC b hb;have a2:=rB (l:=l) b;have d0:∀ {k:Nat} (hk:k<ds.length) (H:Hp),BO jA H 3 (.fptr 2 (ds.map IY) k 0)=some (.n ds[k].var):=fun hk H=>by rw[BR ag3 hk];rfl
  have d1:∀H:Hp,BO jA H 120 (.fptr 2 (ds.map IY) i 1)=some (.sl ds[i].wm 4 (ds[i].ws.map I9)):=fun H=>by rw[BR AGK b];rfl
  refine Z9 g e c b (d0 b) ?_;refine RZ (fun f L=>f 0=.sl m 4 (l.map encV)/\f 1=.sl s 2 (ds.map IY)/\f 5=.n (i:Nat)/\f 42=.bool (!QY l ds[i].var)/\L=H) ?_ ?_
  .cases A:decide (ds[i].var<0)
   case true =>
    refine EG A g e c ?_;refine⟨trivial,trivial,trivial,?_,trivial⟩;have:QY l ds[i].var=false:=by unfold QY;rw[decide_eq_false (by simp at A;omega)];rfl
    rw[this];rfl
   have h0:0<=ds[i].var:=BL A;obtain⟨k,hk⟩:=wI h0
   rw[hk] at A|-
   have T:=d0 b H;rw[hk] at T;cases I:decide (((k:Nat):Int)≥((l.length:Nat):Int))
   case true =>
    refine KZ A I g e c b T ?_;refine⟨trivial,trivial,trivial,?_,trivial⟩;have:QY l ((k:Nat):Int)=false:=by unfold QY;rw[decide_eq_false (p:=((k:Nat):Int)<(l.length:Int)) (by simp at I;omega)];simp
    rw[this];rfl
   have C:k<l.length:=by simp at I;omega
   have l2:BO jA H 3 (.fptr 4 (l.map encV) k 2)=some (.n l[k].mode):=by rw[BR ag3 C];rfl
   refine V7 A I g e c b T C l2 ?_;exact⟨trivial,trivial,trivial,by rw[aM C,Bool.not_not],trivial⟩
  clear g e c;rintro F H0 ⟨g,e,c,V,rfl⟩;refine AY V ?_;cases A:QY l ds[i].var
  .have J:dsE l (ds.take i) ds[i]=1:=by unfold dsE;rw[A];rfl
   refine AB ?_;exact⟨by rw[E (by rw[J];decide),J],q⟩
  refine AB ?_;refine EK 2 (fun f L=>f 0=.sl m 4 (l.map encV)/\f 1=.sl s 2 (ds.map IY)/\f 5=.n (i:Nat)/\L=H0/\((ds.take i).any fun x=>x.var==ds[i].var)=false) (fun f L=>f 4=.n (PL l ds)/\L=H0) ?_ ?_ ?_
  .refine BB (fun Z f L=>∃k,Z+k=i/\(∀(j:Nat) (B:j<k) (hl:j<ds.length),(ds[j].var==ds[i].var)=false)/\f 0=.sl m 4 (l.map encV)/\f 1=.sl s 2 (ds.map IY)/\f 5=.n (i:Nat)/\f 6=.n (k:Nat)/\L=H0) i ⟨0,BA,fun j B=>absurd B U,D7 g,D7 e,D7 c,AO,rfl⟩ ?_
   clear g e c V;rintro Z F H ⟨k,hk,N,g,e,c,f6,rfl⟩;refine A7 c f6 ?_;refine DX ?_ ?_<;>intro C
   .have a1:k<ds.length:=U
    refine AB ?_;refine DR BC ?_;refine KZ e c f6 a1 b (d0 a1) (d0 b) ?_;refine BH ?_ ?_<;>intro J
    .have M:((ds.take i).any fun x=>x.var==ds[i].var)=true:=qJ.2 ⟨ds[k],by
      have:(ds.take i)[k]'(by rw[jR];omega)=ds[k]:=List.getElem_take
      rw[<-this];exact jH _,J⟩
     have hz:dsE l (ds.take i) ds[i]=8:=by unfold dsE;rw[A,M];rfl
     refine AB ?_;exact⟨by rw[E (by rw[hz];decide),hz],trivial⟩
    .refine A7 f6 (C9 k) ?_
     refine⟨Z-1,U,k+1,U,fun j B hl=>?_,AC,AC,AC,rfl,trivial⟩;rcases zA j k with Q|Q
     .exact N j Q hl
     .obtain rfl:j=k:=U
      exact J
   .refine AB ?_
    refine⟨g,e,c,trivial,?_⟩;rw[qQ];intro x hx;obtain⟨j,B,rfl⟩:=qO hx;rw[jR] at B;rw[List.getElem_take,N j U U];decide
  .rintro f L ⟨g0,g1,g5,rfl,I⟩
   refine Z9 vB g1 g5 b d1 ?_;refine BH ?_ ?_<;>intro R
   .have J:dsE l (ds.take i) ds[i]=2:=by unfold dsE;rw[A,I,if_pos rfl,if_neg DU,if_pos (by simp at R;omega)]
    refine AB ?_;exact⟨by rw[E (by rw[J];decide),J],q⟩
   refine AB ?_;refine EK 4 (fun K P=>K 0=.sl m 4 (l.map encV)/\K 1=.sl s 2 (ds.map IY)/\K 5=.n (i:Nat)/\ext h P/\ds[i].ws.any rU=false) (fun K P=>K 4=.n (PL l ds)/\ext h P) ?_ ?_ ?_
   .refine BB (fun Z K P=>∃k,Z+k=ds[i].ws.length/\(∀(j:Nat) (B:j<k) (hl:j<ds[i].ws.length),rU ds[i].ws[j]=false)/\K 0=.sl m 4 (l.map encV)/\K 1=.sl s 2 (ds.map IY)/\K 5=.n (i:Nat)/\K 7=.n (k:Nat)/\ext h P) ds[i].ws.length ⟨0,BA,fun j B=>absurd B U,D7 g0,D7 g1,D7 g5,AO,q⟩ ?_
    clear g e c V g0 g1 g5 q;rintro Z F H ⟨k,hk,N,g,e,c,O,q⟩;refine V8 vB e c O b d1 ?_;refine DX ?_ ?_<;>intro C
    .have X:ext h (H++[qG 4 [I9 ds[i].ws[k]]]):=q.app _
     have gE:=AZ H (qG 4 [I9 ds[i].ws[k]]);simp only[vQ,CQ,↓reduceIte,jC,enP,AH7,vG,AA2,fF,jQ,e,c,O,CP b,d1,CP C,DL A0K AKA iN C,A8F,A68]
     generalize H++[qG 4 [I9 ds[i].ws[k]]]=H1 at X gE|-
     generalize hx:ds[i].ws[k]=x at gE;have l0:BO jA H1 3 (.ptr H.length 0 0)=some (.n x.lo):=by rw[BK ag3 gE (row:=I9 x) rfl];rfl
     have l1:BO jA H1 3 (.ptr H.length 0 1)=some (.n x.hi):=by rw[BK ag3 gE (row:=I9 x) rfl];rfl
     have l2:BO jA H1 3 (.ptr H.length 0 2)=some (.n x.w):=by rw[BK ag3 gE (row:=I9 x) rfl];rfl
     refine AY l0 ?_;refine RZ (fun f L=>f 0=.sl m 4 (l.map encV)/\f 1=.sl s 2 (ds.map IY)/\f 5=.n (i:Nat)/\f 7=.n (k:Nat)/\f 108=.bool (rU x)/\L=H1) ?_ ?_
     .unfold rU
      cases A:decide (x.lo<0)
      case true =>
       refine H7 A g e c O ?_;exact⟨trivial,trivial,trivial,trivial,trivial,trivial⟩
      cases I:decide (x.lo>x.hi)
      case true =>
       refine OZ l0 l1 A I g e c O ?_;exact⟨trivial,trivial,trivial,trivial,trivial,trivial⟩
      cases R:decide (x.hi>65535)
      case true =>
       refine V7 l0 l1 A I R g e c O ?_;exact⟨trivial,trivial,trivial,trivial,trivial,trivial⟩
      cases S:decide (x.w<0)
      case true =>
       simp only[vQ,zN,zT,Bool.true_or,EP,fZ,CQ,GI,↓reduceIte,jC,enP,fF,mN,aY,l0,l1,l2,A,I,R,S,g,e,c,O];exact⟨trivial,trivial,trivial,trivial,trivial,trivial⟩
      cases b5:decide (x.w>1000)
      all_goals
       simp only[vQ,zN,zT,EP,CQ,↓reduceIte,jC,enP,fF,mN,aY,l0,l1,l2,A,I,R,S,b5,g,e,c,O];exact⟨trivial,trivial,trivial,trivial,trivial,trivial⟩
     clear g e c O;rintro F P ⟨g,e,c,O,a0,rfl⟩;refine AY a0 ?_;refine BH ?_ ?_<;>intro S
     .have M:ds[i].ws.any rU=true:=qJ.2 ⟨x,by rw[<-hx];exact jH _,S⟩
      have J:dsE l (ds.take i) ds[i]=1:=by unfold dsE;rw[A,I,if_pos rfl,if_neg DU,if_neg (by simp at R;omega),M];rfl
      refine AB ?_;exact⟨by rw[E (by rw[J];decide),J],X⟩
     .refine A7 O (C9 k) ?_
      refine⟨Z-1,U,k+1,U,fun j B hl=>?_,AC,AC,AC,rfl,X⟩;rcases zA j k with Q|Q
      .exact N j Q hl
      .obtain rfl:j=k:=U
       rw[hx];exact S
    .refine AB ?_
     refine⟨g,e,c,q,?_⟩;rw[qQ];intro x hx;obtain⟨j,B,rfl⟩:=qO hx;rw[N j U B];decide
   .rintro K P ⟨g0,g1,g5,Y,S⟩
    have J:dsE l (ds.take i) ds[i]=0:=by unfold dsE;rw[A,I,if_pos rfl,if_neg DU,if_neg (by simp at R;omega),S];rfl
    refine A7 g5 (C9 i) ?_;refine⟨n-1,U,i+1,U,fun j B=>?_,AC,AC,rfl,Y⟩;rcases zA j i with Q|Q
    .exact hb j Q
    .obtain rfl:j=i:=U
     rw[a2,J]
   .rintro K P ⟨g4,Y⟩
    refine AY g4 ?_;exact⟨trivial,Y⟩
  .rintro f L ⟨g4,rfl⟩
   refine AY g4 ?_;exact⟨trivial,q⟩
 .refine AB ?_
  exact⟨by rw[lD fun j B=>hb j U],q⟩
end
def flG (b:List Gp):List Int:=b.flatMap Gp.l
theorem AEX {b:List Gp}(c:i<b.length):flG (b.take (i+1))=flG (b.take i)++b[i].l:=by
 unfold flG;rw[jV c,List.flatMap_append];simp
theorem vT {b:List Gp}(g:i<b.length)(p:j<b[i].l.length):flG b=(flG (b.take i)++b[i].l.take j)++b[i].l[j]::(b[i].l.drop (j+1)++flG (b.drop (i+1))):=by
 have c:b=b.take i++b[i]::b.drop (i+1):=by simp_all
 have d:flG b=flG (b.take i)++(b[i].l++flG (b.drop (i+1))):=by
  unfold flG
  conv=>lhs;rw[c]
  rw[List.flatMap_append,List.flatMap_cons]
 have e:b[i].l=b[i].l.take j++b[i].l[j]::b[i].l.drop (j+1):=by simp_all
 have f:b[i].l++flG (b.drop (i+1))=(b[i].l.take j++b[i].l[j]::b[i].l.drop (j+1))++flG (b.drop (i+1)):=by rw[<-e]
 rw[d,f];simp only[zD,zG]
def gOK (l:List Vr)(b:List Gp):Bool:=decide ((∀g∈b,g.l≠[])/\(∀x∈flG b,0<=x/\x<l.length)/\∀i:Fin l.length,(flG b).count ((i.1:Nat):Int)=if l[i.1].mode=0 then 0 else 1)
theorem ALJ {l:List Vr}{b:List Gp}{g:Gp}(c:g∈b)(h:g.l=[]):gOK l b=false:=decide_eq_false fun⟨h1,_⟩=>h1 g c h
theorem AAP {l:List Vr}{b:List Gp}(c:x∈flG b)(h:¬(0<=x/\x<l.length)):gOK l b=false:=decide_eq_false fun⟨_,h1,_⟩=>h (h1 x c)
theorem eY {l:List Vr}{b:List Gp}(c:i<l.length)(h:(flG b).count ((i:Nat):Int)≠if l[i].mode=0 then 0 else 1):gOK l b=false:=decide_eq_false fun⟨_,_,h1⟩=>h (h1 ⟨i,c⟩)
theorem WT {l:List Vr}(h:QY l x=true):∃k,∃hk:k<l.length,x=(k:Nat)/\¬l[k].mode=0:=by
 unfold QY at h;simp only[jX,decide_eq_true_eq] at h;obtain⟨c,d,b⟩:=h;have hk:x.toNat<l.length:=U;rw[jO hk] at b;exact⟨x.toNat,hk,U,BL b⟩
theorem AXN {l:List Vr}{b:List Gp}(c:x∈flG b)(h:QY l x=false):gOK l b=false:=by
 by_cases hr:0<=x/\x<l.length
 .obtain⟨k,rfl⟩:=wI hr.1
  have hk:k<l.length:=U;rw[aM hk] at h;refine eY hk ?_;rw[if_pos (BL h)];have:=List.count_pos_iff.2 c;omega
 .exact AAP c hr
def bR (done:List Int)(n:Nat):List (List AV):=(zL n).map fun i=>[AV.bool (decide (((i:Nat):Int)∈done))]
def cR (done:List Int)(n:Nat):List (List AV):=(zL n).map fun i=>[AV.int .i64 ((done.count ((i:Nat):Int):Nat):Int)]
theorem ABN (done:List Int)(n:Nat):(bR done n).length=n:=by simp [bR]
theorem rK (done:List Int)(n:Nat):(cR done n).length=n:=by simp [cR]
theorem dH (done:List Int)(b:i<n):(bR done n)[i]?=some [AV.bool (decide (((i:Nat):Int)∈done))]:=by simp [bR,b]
theorem ZX (done:List Int)(b:i<n):(cR done n)[i]?=some [AV.int .i64 ((done.count ((i:Nat):Int):Nat):Int)]:=by simp [cR,b]
theorem A2M (done:List Int)(hk:k<n):(bR done n).set k [.bool true]=bR (done++[(k:Int)]) n:=by
 apply List.ext_getElem?;intro i;rw[zU];by_cases hi:i<n
 .by_cases e:k=i
  .subst e
   rw[if_pos rfl,if_pos (by rw[ABN];exact hi),dH _ hi];simp
  .rw[if_neg e,dH _ hi,dH _ hi]
   congr 3;simp;rintro h;omega
 .rw[wC (by rw[ABN];omega)]
  split
  .simp_all
  .rw[wC (by rw[ABN];omega)]
theorem A2H (done:List Int)(hk:k<n):(cR done n).set k [.n ((done.count ((k:Nat):Int)+1:Nat):Int)]=cR (done++[(k:Int)]) n:=by
 apply List.ext_getElem?;intro i;rw[zU];by_cases hi:i<n
 .by_cases e:k=i
  .subst e
   rw[if_pos rfl,if_pos (by rw[rK];exact hi),ZX _ hi,List.count_append];simp
  .rw[if_neg e,ZX _ hi,ZX _ hi,List.count_append]
   have:((k:Nat):Int)≠((i:Nat):Int):=U;simp [this]
 .rw[wC (by rw[rK];omega)]
  split
  .simp_all
  .rw[wC (by rw[rK];omega)]
theorem A3Y (h:Hp)(n:Nat)(d:n<=1048576):I4 jA true h 221 (.n (n:Int)) (.n (n:Int))=some (.own h.length 0 n,h++[qG 1 (bR [] n)]):=by
 have c:OV jA 4=some [.bool false]:=BC;have b:room n 1:=I5 U U;unfold I4;simp only[A23,sz4,A5C,c,qM];rw[if_pos ⟨U,Int.le_refl _,b,rfl⟩]
 have:bR [] n=zK n [.bool false]:=by
  apply List.ext_getElem?;intro i;by_cases hi:i<n
  .rw[dH _ hi,List.getElem?_replicate,if_pos hi];simp
  .rw[wC (by rw[ABN];omega),wC NZ]
 rw[this];simp
theorem A3W (h:Hp)(n:Nat)(d:n<=1048576):I4 jA true h 32 (.n (n:Int)) (.n (n:Int))=some (.own h.length 0 n,h++[qG 1 (cR [] n)]):=by
 have c:OV jA 3=some [.n 0]:=BC;have b:room n 8:=I5 U U;unfold I4;simp only[gH,sz3,rM,c,qM];rw[if_pos ⟨U,Int.le_refl _,b,rfl⟩]
 have:cR [] n=zK n [.n 0]:=by
  apply List.ext_getElem?;intro i;by_cases hi:i<n
  .rw[ZX _ hi,List.getElem?_replicate,if_pos hi];simp
  .rw[wC (by rw[rK];omega),wC NZ]
 rw[this];simp
theorem A66 {o:Nat}{c:List (List AV)}(e:h[o]?=some (qG 1 c))(d:∃v,c[j]?=some [v])(b:Bool):D8 jA h 4 (.ptr o j 0) (.bool b)=some (h.set o (qG 1 (c.set j [.bool b]))):=by
 obtain⟨v,f⟩:=d;rw[IJ (cs:=[.bool b]) rfl sz4 e f BA];rfl
theorem A65 {o:Nat}{b:List (List AV)}(d:h[o]?=some (qG 1 b))(c:∃v,b[j]?=some [v]):D8 jA h 3 (.ptr o j 0) (.n x)=some (h.set o (qG 1 (b.set j [.n x]))):=by
 obtain⟨v,e⟩:=c;rw[IJ (cs:=[.n x]) rfl sz3 d e BA];rfl
section
variable (G:Nat->AV)
theorem AIE (l:List Vr)(m:SM)(b:List Gp)(s:SM)(hl:l.length<=1048576)(S:b.length<=1048576)(hw:(flG b).length<=1048576)(h:Hp):PCall (En G) 107 [.sl m 4 (l.map encV),.sl s 1 (b.map TZ)] h (.bool (gOK l b)):=by
 refine ACalls.pure0 rfl ?_;refine acT Tryz.func107 4 ?_;refine AY (A3W h l.length hl) ?_;refine EK 0 (fun F H=>F 0=.sl m 4 (l.map encV)/\F 5=.own h.length 0 l.length/\H=h++[qG 1 (cR (flG b) l.length)]/\(∀g∈b,g.l≠[])/\∀x∈flG b,0<=x/\x<l.length) (fun F H=>F 4=.bool (gOK l b)/\ext h H) ?_ ?_ ?_
 .refine BB (fun n F H=>∃i,n+i=b.length/\F 0=.sl m 4 (l.map encV)/\F 1=.sl s 1 (b.map TZ)/\F 5=.own h.length 0 l.length/\F 6=.n (i:Nat)/\H=h++[qG 1 (cR (flG (b.take i)) l.length)]/\(∀g∈b.take i,g.l≠[])/\∀x∈flG (b.take i),0<=x/\x<l.length) b.length ⟨0,BA,AO,AO,AO,AO,rfl,BA,by simp [flG]⟩ ?_
  rintro n F H ⟨i,hi,A,M,B,N,rfl,E,C⟩;refine A7 M N ?_;refine DX ?_ ?_<;>intro c
  .have lg:∀H:Hp,BO jA H 32 (.fptr 1 (b.map TZ) i 0)=some (.sl b[i].m 1 (b[i].l.map qencI)):=fun H=>by rw[BR O4 c];rfl
   refine OH M N c lg ?_;refine BH ?_ ?_<;>intro hz
   .refine AB ?_
    exact⟨by rw[ALJ (jH c) (qY (BL hz))],_,rfl⟩
   have a5:b[i].l≠[]:=by simp_all
   refine AB ?_;refine EK 2 (fun p P=>p 0=.sl m 4 (l.map encV)/\p 1=.sl s 1 (b.map TZ)/\p 5=.own h.length 0 l.length/\p 6=.n (i:Nat)/\P=h++[qG 1 (cR (flG (b.take i)++b[i].l) l.length)]/\∀x∈flG (b.take i)++b[i].l,0<=x/\x<l.length) (fun p P=>p 4=.bool (gOK l b)/\ext h P) ?_ ?_ ?_
   .refine BB (fun n' p P=>∃j,n'+j=b[i].l.length/\p 0=.sl m 4 (l.map encV)/\p 1=.sl s 1 (b.map TZ)/\p 5=.own h.length 0 l.length/\p 6=.n (i:Nat)/\p 7=.n (j:Nat)/\P=h++[qG 1 (cR (flG (b.take i)++b[i].l.take j) l.length)]/\∀x∈flG (b.take i)++b[i].l.take j,0<=x/\x<l.length) b[i].l.length ⟨0,BA,D7 A,D7 M,D7 B,D7 N,AO,by rw[qA,jM],by rw[qA,jM];exact C⟩ ?_
    clear A M B N;rintro n' F H ⟨j,Y,A,M,B,N,f7,rfl,f⟩;refine Z9 M N f7 c lg ?_;refine DX ?_ ?_<;>intro I
    .have a2:=vT c I
     have O:b[i].l[j]∈flG b:=by rw[a2];simp
     have l3:∀H:Hp,BO jA H 3 (.fptr 1 (b[i].l.map qencI) j 0)=some (.n b[i].l[j]):=fun H=>by rw[BR ag3 I];rfl
     refine KZ M N f7 c lg I l3 ?_;cases Q:decide (b[i].l[j]<0)
     case true =>
      refine AY Q ?_;exact⟨by rw[AAP O (by simp at Q;omega)],_,rfl⟩
     refine A7 Q A ?_;refine BH ?_ ?_<;>intro q
     .refine AB ?_
      exact⟨by rw[AAP O (by simp at q;omega)],_,rfl⟩
     have h0:0<=b[i].l[j]:=BL Q;obtain⟨k,hk⟩:=wI h0;have J:k<l.length:=by rw[hk] at q;simp at q;omega
     have d:=AZ h (qG 1 (cR (flG (b.take i)++b[i].l.take j) l.length));have a3:(flG (b.take i)++b[i].l.take j).count ((k:Nat):Int)<=1048576:=by grind
     have a4:j<=1048576:=by grind
     have lc:BO jA (h++[qG 1 (cR (flG (b.take i)++b[i].l.take j) l.length)]) 3 (.ptr h.length k 0)=some (.n (((flG (b.take i)++b[i].l.take j).count ((k:Nat):Int):Nat):Int)):=by
      rw[BK ag3 d (ZX _ J)];rfl
     have a0:=A65 (x:=(((flG (b.take i)++b[i].l.take j).count ((k:Nat):Int)+1:Nat):Int)) d (j:=k) ⟨_,ZX _ J⟩;rw[A2H _ J,KI] at a0
     have T:(flG (b.take i)++b[i].l.take j)++[((k:Nat):Int)]=flG (b.take i)++b[i].l.take (j+1):=by
      rw[jV I,hk,zD]
     simp only[vQ,CQ,↓reduceIte,jC,enP,LJ,jQ,B,hk,GN d J,lc,wrap_succ (U:(flG (b.take i)++b[i].l.take j).count ((k:Nat):Int)<9223372036854775807),a0,f7,C9 j];refine⟨n'-1,U,j+1,U,AC,AC,AC,AC,rfl,by rw[<-T],fun x K=>?_⟩;rw[<-T] at K;rcases zM.1 K with K|K
     .exact f x K
     .simp_all
    .have e:b[i].l.take j=b[i].l:=jK U
     rw[e] at f;refine AB ?_;exact⟨A,M,B,N,by rw[e],f⟩
   .rintro p P ⟨g0,g1,g5,g6,rfl,f⟩
    refine A7 g6 (C9 i) ?_;have X:=AEX c;refine⟨n-1,U,i+1,U,AC,AC,AC,rfl,by rw[X],fun g S=>?_,by rw[X];exact f⟩;rw[jV c] at S;rcases zM.1 S with S|S
    .exact E g S
    .grind
   .rintro p P ⟨g4,K⟩
    refine AY g4 ?_;exact⟨trivial,K⟩
  .rw[jK U] at E C
   refine AB ?_;exact⟨A,B,by rw[jK U],E,C⟩
 .rintro F H ⟨A,B,rfl,E,C⟩
  have d:=AZ h (qG 1 (cR (flG b) l.length));have L:ext h (h++[qG 1 (cR (flG b) l.length)]):=⟨_,rfl⟩
  generalize h++[qG 1 (cR (flG b) l.length)]=H0 at d L|-
  refine AB ?_;refine BB (fun n F H=>∃i,n+i=l.length/\(∀(j:Nat),j<i->∀Y:j<l.length,(flG b).count ((j:Nat):Int)=if l[j].mode=0 then 0 else 1)/\F 0=.sl m 4 (l.map encV)/\F 5=.own h.length 0 l.length/\F 9=.n (i:Nat)/\H=H0) l.length ⟨0,BA,fun j Y=>absurd Y U,D7 A,D7 B,AO,rfl⟩ ?_;clear A B;rintro n F H ⟨i,hi,hb,A,B,R,rfl⟩;refine A7 A R ?_;refine DX ?_ ?_<;>intro c
  .have l2:BO jA H 3 (.fptr 4 (l.map encV) i 2)=some (.n l[i].mode):=by rw[BR ag3 c];rfl
   have lc:BO jA H 3 (.ptr h.length i 0)=some (.n (((flG b).count ((i:Nat):Int):Nat):Int)):=by
    rw[BK ag3 d (ZX _ c)];rfl
   have a1:(flG b).count ((i:Nat):Int)=(if l[i].mode=0 then 0 else 1)->∀(j:Nat),j<i+1->∀Y:j<l.length,(flG b).count ((j:Nat):Int)=if l[j].mode=0 then 0 else 1:=fun V j Y hl=>by
    rcases zA j i with h1|h1
    .exact hb j h1 hl
    .obtain rfl:j=i:=U
     exact V
   refine OH A R c l2 ?_;refine BH ?_ ?_<;>intro Q
   .have Z:l[i].mode=0:=BL Q
    simp only[vQ,CQ,↓reduceIte,jC,enP,LJ,B,R,GN d c,lc];refine BH ?_ ?_<;>intro q
    .refine AB ?_
     refine⟨?_,L⟩;rw[eY c (by rw[if_pos Z];simp [bne] at q;exact fun e=>q e)]
    .have V:=a1 (by rw[if_pos Z];simp [bne] at q;exact q)
     refine A7 R (C9 i) ?_;exact⟨n-1,U,i+1,U,V,AC,AC,rfl,trivial⟩
   .have Z:¬l[i].mode=0:=BL Q
    simp only[vQ,CQ,↓reduceIte,jC,enP,LJ,B,R,GN d c,lc];refine BH ?_ ?_<;>intro q
    .refine AB ?_
     refine⟨?_,L⟩;rw[eY c (by rw[if_neg Z];intro e;rw[e] at q;exact absurd q DU)]
    .have V:=a1 (by rw[if_neg Z];simp [bne] at q;omega)
     refine A7 R (C9 i) ?_;exact⟨n-1,U,i+1,U,V,AC,AC,rfl,trivial⟩
  .refine AB ?_
   refine⟨?_,L⟩;rw[show gOK l b=true from decide_eq_true ⟨E,C,fun i=>hb i.1 U i.2⟩]
 .rintro F H ⟨f4,K⟩
  refine AY f4 ?_;exact⟨trivial,K⟩
end
section
variable (G:Nat->AV)
theorem AEO (p:Pr)(hl:p.vars.length<=1048576)(R:p.groups.length<=1048576)(hw:(flG p.groups).length<=1048576)(h:Hp):PCall (En G) 84 [.agg (CW p)] h (.n (if gOK p.vars p.groups=true then 0 else 1)):=by
 refine ACalls.pure0 rfl ?_;refine acT Tryz.func84 2 ?_;have ge:=AZ h (qG 5 [CW p]);have a6:=Sm.ext.r1 h (qG 5 [CW p]);refine AY @PZ ?_
 generalize h++[qG 5 [CW p]]=hb at ge a6|-
 generalize h.length=eb at ge|-
 have nb:gOK p.vars p.groups=false->(AV.int .i64 1=AV.int .i64 (if gOK p.vars p.groups=true then 0 else 1)):=fun hh=>by rw[hh];rfl
 have l0:BO jA hb 22 (.ptr eb 0 0)=some (.sl p.vm 4 (p.vars.map encV)):=by rw[BK Z7 ge (row:=CW p) rfl];rfl
 refine DC @pQ l0 (A3Y hb p.vars.length hl) ?_;have X:∀x:ABlk,(hb++[x])[eb]?=some (qG 5 [CW p]):=fun x=>AU ge
 have l4:∀x:ABlk,BO jA (hb++[x]) 25 (.ptr eb 0 4)=some (.sl p.gm 1 (p.groups.map TZ)):=fun x=>by rw[BK Z5 (X x) (row:=CW p) rfl];rfl
 have lp:∀x:ABlk,BO jA (hb++[x]) 27 (.ptr eb 0 0)=some (.agg (CW p)):=fun x=>by rw[EN fU cH (X x) (row:=CW p) rfl (by rw[MG];exact jF 5)];rfl
 have ae:∀x:ABlk,BO jA (hb++[x]) 22 (.ptr eb 0 0)=some (.sl p.vm 4 (p.vars.map encV)):=fun x=>by rw[BK Z7 (X x) (row:=CW p) rfl];rfl
 have Q:∀x:ABlk,ext h (hb++[x]):=fun x=>a6.app _
 refine AY l4 ?_;refine EK 0 (fun F H=>F 1=.ptr eb 0 0/\F 3=.own hb.length 0 p.vars.length/\H=hb++[qG 1 (bR (flG p.groups) p.vars.length)]/\(∀g∈p.groups,g.l≠[])/\(∀x∈flG p.groups,QY p.vars x=true)/\∀x:Int,(flG p.groups).count x<=1) (fun F H=>F 2=.n (if gOK p.vars p.groups=true then 0 else 1)/\ext h H) ?_ ?_ ?_
 .refine BB (fun n F H=>∃i,n+i=p.groups.length/\F 1=.ptr eb 0 0/\F 3=.own hb.length 0 p.vars.length/\F 14=.sl p.gm 1 (p.groups.map TZ)/\F 15=.n (p.groups.length:Nat)/\F 16=.n (i:Nat)/\H=hb++[qG 1 (bR (flG (p.groups.take i)) p.vars.length)]/\(∀g∈p.groups.take i,g.l≠[])/\(∀x∈flG (p.groups.take i),QY p.vars x=true)/\∀x:Int,(flG (p.groups.take i)).count x<=1) p.groups.length ⟨0,BA,AO,AO,AO,AO,AO,rfl,BA,by simp [flG],by simp [flG]⟩ ?_
  rintro n F H ⟨i,hi,I,J,f14,f15,f16,rfl,N,B,M⟩;refine A7 f15 f16 ?_;refine DX ?_ ?_<;>intro b
  .have lg:∀H:Hp,BO jA H 32 (.fptr 1 (p.groups.map TZ) i 0)=some (.sl p.groups[i].m 1 (p.groups[i].l.map qencI)):=fun H=>by rw[BR O4 b];rfl
   refine OH f14 f16 b lg ?_;refine BH ?_ ?_<;>intro hz
   .refine AB ?_
    exact⟨nb (ALJ (jH b) (qY (BL hz))),Q _⟩
   have ad:p.groups[i].l≠[]:=by
    intro e;rw[e] at hz;simp at hz
   refine AB ?_;refine EK 2 (fun c S=>c 1=.ptr eb 0 0/\c 3=.own hb.length 0 p.vars.length/\c 14=.sl p.gm 1 (p.groups.map TZ)/\c 15=.n (p.groups.length:Nat)/\c 16=.n (i:Nat)/\S=hb++[qG 1 (bR (flG (p.groups.take i)++p.groups[i].l) p.vars.length)]/\(∀x∈flG (p.groups.take i)++p.groups[i].l,QY p.vars x=true)/\∀x:Int,(flG (p.groups.take i)++p.groups[i].l).count x<=1) (fun c S=>c 2=.n (if gOK p.vars p.groups=true then 0 else 1)/\ext h S) ?_ ?_ ?_
   .refine BB (fun n' c S=>∃j,n'+j=p.groups[i].l.length/\c 1=.ptr eb 0 0/\c 3=.own hb.length 0 p.vars.length/\c 14=.sl p.gm 1 (p.groups.map TZ)/\c 15=.n (p.groups.length:Nat)/\c 16=.n (i:Nat)/\c 23=.sl p.groups[i].m 1 (p.groups[i].l.map qencI)/\c 24=.n (p.groups[i].l.length:Nat)/\c 25=.n (j:Nat)/\S=hb++[qG 1 (bR (flG (p.groups.take i)++p.groups[i].l.take j) p.vars.length)]/\(∀x∈flG (p.groups.take i)++p.groups[i].l.take j,QY p.vars x=true)/\∀x:Int,(flG (p.groups.take i)++p.groups[i].l.take j).count x<=1) p.groups[i].l.length
     ⟨0,BA,D7 I,D7 J,D7 f14,D7 f15,D7 f16,AO,AO,AO,by rw[qA,jM],by rw[qA,jM];exact B,by rw[qA,jM];exact M⟩ ?_
    clear I J f14 f15 f16;rintro n' F H ⟨j,hj,I,J,f14,f15,f16,f23,aa,V,rfl,A,f⟩;refine A7 aa V ?_;refine DX ?_ ?_<;>intro O
    .have a0:=vT b O
     have a3:p.groups[i].l[j]∈flG p.groups:=by rw[a0];simp
     have l3:∀H:Hp,BO jA H 3 (.fptr 1 (p.groups[i].l.map qencI) j 0)=some (.n p.groups[i].l[j]):=fun H=>by rw[BR ag3 O];rfl
     refine V8 f23 V O l3 I lp ?_;refine(Y9 G p _ hl _).use ?_;cases T:QY p.vars p.groups[i].l[j]
     .refine AB ?_
      exact⟨nb (AXN a3 T),Q _⟩
     obtain⟨k,C,hk,hm⟩:=WT T;have d:=AZ hb (qG 1 (bR (flG (p.groups.take i)++p.groups[i].l.take j) p.vars.length))
     have lc:BO jA (hb++[qG 1 (bR (flG (p.groups.take i)++p.groups[i].l.take j) p.vars.length)]) 4 (.ptr hb.length k 0)=some (.bool (decide (((k:Nat):Int)∈flG (p.groups.take i)++p.groups[i].l.take j))):=by
      rw[BK ag4 d (dH _ C)];rfl
     have a5:=A66 d (j:=k) ⟨_,dH _ C⟩ true;rw[A2M _ C,KI] at a5
     have Y:(flG (p.groups.take i)++p.groups[i].l.take j)++[((k:Nat):Int)]=flG (p.groups.take i)++p.groups[i].l.take (j+1):=by
      rw[jV O,hk,zD]
     have ah:j<=1048576:=by
      have h2:p.groups[i].l.length<=(flG p.groups).length:=by
       rw[a0];simp only[jW,zF,jR,List.length_drop];omega
      omega
     simp only[vQ,EP,CQ,nA,WA,↓reduceIte,jC,qN,enP,ASB,J,hk,GN d C,lc];refine BH ?_ ?_<;>intro b2
     .refine AB ?_
      refine⟨nb (eY C ?_),Q _⟩;have L:0<(flG (p.groups.take i)++p.groups[i].l.take j).count ((k:Nat):Int):=List.count_pos_iff.2 (BL b2);rw[if_neg hm,a0,List.count_append,hk,List.count_cons_self];omega
     .have a4:¬((k:Nat):Int)∈flG (p.groups.take i)++p.groups[i].l.take j:=BL b2
      simp only[vQ,CQ,↓reduceIte,jC,enP,ASB,jQ,J,GN d C,a5,V,C9 j];refine⟨n'-1,U,j+1,U,AC,AC,AC,AC,AC,AC,AC,rfl,by rw[<-Y],fun x E=>?_,fun x=>?_⟩
      .rw[<-Y] at E
       rcases zM.1 E with E|E
       .exact A x E
       .rw[wH] at E
        rw[E,<-hk];exact T
      .rw[<-Y,List.count_append]
       have L:=f x;by_cases hxk:((k:Nat):Int)=x
       .subst hxk
        rw[List.count_eq_zero.2 a4];simp
       .rw[List.count_append] at L
        simp [hxk];exact L
    .have e:p.groups[i].l.take j=p.groups[i].l:=jK U
     rw[e] at A f;refine AB ?_;exact⟨I,J,f14,f15,f16,by rw[e],A,f⟩
   .rintro c S ⟨g1,g3,af,ag,ac,rfl,A,f⟩
    refine A7 ac (C9 i) ?_;have Z:=AEX b;refine⟨n-1,U,i+1,U,AC,AC,AC,AC,rfl,by rw[Z],fun g R=>?_,by rw[Z];exact A,by rw[Z];exact f⟩;rw[jV b] at R;rcases zM.1 R with R|R
    .exact N g R
    .rw[wH] at R;rw[R];exact ad
   .rintro c S ⟨g2,E⟩
    refine AY g2 ?_;exact⟨trivial,E⟩
  .rw[jK U] at N B M
   refine AB ?_;exact⟨I,J,by rw[jK U],N,B,M⟩
 .rintro F H ⟨I,J,rfl,N,B,M⟩
  have d:=AZ hb (qG 1 (bR (flG p.groups) p.vars.length));have a7:=ae (qG 1 (bR (flG p.groups) p.vars.length));have a8:=lp (qG 1 (bR (flG p.groups) p.vars.length));have a1:=Q (qG 1 (bR (flG p.groups) p.vars.length))
  generalize hb++[qG 1 (bR (flG p.groups) p.vars.length)]=H0 at d a1 a7 a8|-
  refine A7 I a7 ?_;refine BB (fun n F H=>∃i,n+i=p.vars.length/\(∀(j:Nat),j<i->j<p.vars.length->QY p.vars (j:Nat)=true->((j:Nat):Int)∈flG p.groups)/\F 1=.ptr eb 0 0/\F 3=.own hb.length 0 p.vars.length/\F 46=.n (p.vars.length:Nat)/\F 47=.n (i:Nat)/\H=H0) p.vars.length ⟨0,BA,fun j hj=>absurd hj U,D7 I,D7 J,AO,AO,rfl⟩ ?_;clear I J;rintro n F H ⟨i,hi,a2,I,J,ab,K,rfl⟩;refine A7 ab K ?_;refine DX ?_ ?_<;>intro b
  .have lc:BO jA H 4 (.ptr hb.length i 0)=some (.bool (decide (((i:Nat):Int)∈flG p.groups))):=by
    rw[BK ag4 d (dH _ b)];rfl
   refine DC I K a8 ?_;refine(Y9 G p _ hl _).use ?_
   have a9:(QY p.vars (i:Nat)=true->((i:Nat):Int)∈flG p.groups)->∀(j:Nat),j<i+1->j<p.vars.length->QY p.vars (j:Nat)=true->((j:Nat):Int)∈flG p.groups:=fun he j hj hl P=>by
    rcases zA j i with L|L
    .exact a2 j L hl P
    .obtain rfl:j=i:=U
     exact he P
   cases T:QY p.vars ((i:Nat):Int)
   .have he:=a9 (fun q=>by rw[T] at q;cases q)
    refine A7 K (C9 i) ?_;exact⟨n-1,U,i+1,U,he,AC,AC,AC,rfl,trivial⟩
   simp only[vQ,EP,UL,CQ,nA,WA,↓reduceIte,jC,enP,ASB,J,K,GN d b,lc];refine BH ?_ ?_<;>intro b2
   .refine AB ?_
    refine⟨nb (eY b ?_),a1⟩;have L:¬((i:Nat):Int)∈flG p.groups:=BL b2;have h2:¬p.vars[i].mode=0:=by rw[aM b] at T;simpa using T
    rw[if_neg h2,List.count_eq_zero.2 L];decide
   .have he:=a9 (fun _=>BL b2)
    refine A7 K (C9 i) ?_;exact⟨n-1,U,i+1,U,he,AC,AC,AC,rfl,trivial⟩
  .refine AB ?_
   refine⟨?_,a1⟩
   have:gOK p.vars p.groups=true:=decide_eq_true ⟨N,fun x E=>by
    obtain⟨k,hk,rfl,_⟩:=WT (B x E);omega,fun j=>by
    by_cases P:QY p.vars ((j.1:Nat):Int)=true
    .have L:=List.count_pos_iff.2 (a2 j.1 U j.2 P)
     have h2:=M ((j.1:Nat):Int);rw[aM j.2] at P;rw[if_neg (BL P)];omega
    .have L:¬((j.1:Nat):Int)∈flG p.groups:=fun hm=>P (B _ hm)
     rw[aM j.2] at P;rw[if_pos (BL P)]
     exact List.count_eq_zero.2 L⟩
   rw[this];rfl
 .rintro F H ⟨f2,E⟩
  refine AY f2 ?_;exact⟨trivial,E⟩
end
structure PrS (p:Pr):Prop where
 vars:p.vars.length<=1048576
 names:∀v∈p.vars,v.name.size<=1048576
 exprs:p.hard.length+p.soft.length<=1048576
 wts:∀e∈p.hard++p.soft,wt e<=1048576
 dists:p.dists.length<=1048576
 ws:∀d∈p.dists,d.ws.length<=1048576
 groups:p.groups.length<=1048576
 members:(flG p.groups).length<=1048576
def JS (p:Pr):Int:=if MV p.vars≠0 then MV p.vars else if KY p.vars (p.hard++p.soft)≠0 then KY p.vars (p.hard++p.soft) else if PL p.vars p.dists≠0 then PL p.vars p.dists else if gOK p.vars p.groups=true then 0 else 1
section
variable (G:Nat->AV)
theorem AFY (c:List (FuncId×List AV×Int))(b:Nat)(M:c.length<=1048576)(h:Hp)(A:h[b]?=some (qG 1 (c.map fun x=>[.fn (.func x.1) [] x.2.1])))(J:∀x∈c,PCall (En G) x.1 ([]++x.2.1) h (.n x.2.2)):PCall (En G) 76 [.own b 0 c.length] h (.n (fstE (fun x=>x.2.2) c)):=by
 refine ACalls.pure0 rfl ?_;refine acT Tryz.func76 2 ?_;refine AY A33 ?_;refine EK 0 (fun F H=>H=h/\∀x∈c,x.2.2=0) (fun F H=>F 2=.n (fstE (fun x=>x.2.2) c)/\ext h H) ?_ ?_ ?_
 .refine BB (fun n F H=>∃i,n+i=c.length/\F 6=.own b 0 c.length/\F 7=.n (c.length:Nat)/\F 8=.n (i:Nat)/\H=h/\∀(j:Nat) (e:j<i) (B:j<c.length),c[j].2.2=0) c.length ⟨0,BA,AO,AO,AO,rfl,by intro j e;omega⟩ ?_
  rintro n F H ⟨i,L,E,I,l,rfl,f⟩;refine A7 I l ?_;refine DX ?_ ?_<;>intro d
  .have K:BO jA H 150 (.ptr b i 0)=some (.fn (.func c[i].1) [] c[i].2.1):=by
    rw[BK (row:=[.fn (.func c[i].1) [] c[i].2.1]) A6F A (by rw[List.getElem?_map,jO d];rfl)];rfl
   simp only[vQ,CQ,qI,↓reduceIte,jC,enP,A4C,E,l,GN A d,K];refine(J _ (jH d)).uu ?_;refine BH ?_ ?_<;>intro g
   .refine AB ?_
    exact⟨by rw[U8 (fun x:FuncId×List AV×Int=>x.2.2) c i d (fun j e=>f j e U) (by simpa using g)],ext.rfl' _⟩
   .refine A7 l (C9 i) ?_
    refine⟨n-1,U,i+1,U,AC,AC,rfl,trivial,fun j e B=>?_⟩;rcases zA j i with q|q
    .exact f j q B
    .obtain rfl:j=i:=U
     simpa using g
  .refine AB ?_
   refine⟨trivial,fun x p=>?_⟩;obtain⟨j,e,rfl⟩:=qO p;exact f j U e
 .rintro F H ⟨rfl,f⟩
  refine AB ?_;exact⟨by rw[SX _ c fun j e=>f _ (jH e)],ext.rfl' _⟩
 .rintro F H ⟨C,p⟩
  refine AY C ?_;exact⟨trivial,p⟩
theorem AYF (d:GOk G)(p:Pr)(c:PrS p)(b:Nat)(h:Hp)(e:h[b]?=some (qG 5 [CW p])):PCall (En G) 77 ([]++[.ptr b 0 0]) h (.n (MV p.vars)):=by
 refine acT Tryz.func77 1 ?_;have f:BO jA h 22 (.ptr b 0 0)=some (.sl p.vm 4 (p.vars.map encV)):=by rw[BK Z7 e (row:=CW p) rfl];rfl
 refine AY f ?_;refine(AMV G d p.vars p.vm h c.vars c.names).uu ?_;exact G7
theorem AYE (d:GOk G)(p:Pr)(c:PrS p)(b:Nat)(h:Hp)(e:h[b]?=some (qG 5 [CW p])):PCall (En G) 79 ([]++[.ptr b 0 0]) h (.n (KY p.vars (p.hard++p.soft))):=by
 refine acT Tryz.func79 1 ?_;have f:BO jA h 27 (.ptr b 0 0)=some (.agg (CW p)):=by rw[EN fU cH e (row:=CW p) rfl (by rw[MG];exact jF 5)];rfl
 refine AY f ?_;refine(AIN G d p c.vars c.exprs c.wts h).uu ?_;exact G7
theorem AYD (p:Pr)(c:PrS p)(b:Nat)(h:Hp)(d:h[b]?=some (qG 5 [CW p])):PCall (En G) 81 ([]++[.ptr b 0 0]) h (.n (PL p.vars p.dists)):=by
 refine acT Tryz.func81 1 ?_;have e:BO jA h 27 (.ptr b 0 0)=some (.agg (CW p)):=by rw[EN fU cH d (row:=CW p) rfl (by rw[MG];exact jF 5)];rfl
 refine AY e ?_;refine(AIS G p c.vars c.dists c.ws h).uu ?_;exact G7
theorem AYC (p:Pr)(c:PrS p)(b:Nat)(h:Hp)(d:h[b]?=some (qG 5 [CW p])):PCall (En G) 83 ([]++[.ptr b 0 0]) h (.n (if gOK p.vars p.groups=true then 0 else 1)):=by
 refine acT Tryz.func83 1 ?_;have e:BO jA h 27 (.ptr b 0 0)=some (.agg (CW p)):=by rw[EN fU cH d (row:=CW p) rfl (by rw[MG];exact jF 5)];rfl
 refine AY e ?_;refine(AEO G p c.vars c.groups c.members h).uu ?_;exact G7
theorem A5M (h:Hp)(a b c d:Fn)(k l m n:List AV):DJ jA true h 212 4 [(0,.fn a [] k),(1,.fn b [] l),(2,.fn c [] m),(3,.fn d [] n)]=some (.own h.length 0 4,h++[qG 1 [[.fn a [] k],[.fn b [] l],[.fn c [] m],[.fn d [] n]]]):=BC
theorem valid_prog (g:GOk G)(p:Pr)(d:PrS p)(h:Hp):PCall (En G) 40 [.agg (CW p)] h (.n (JS p)):=by
 refine ACalls.pure0 rfl ?_;refine IK (H:=hint [7] []) (enM G) Tryz.func40 rfl (by kernel_rfl) (by kernel_rfl) (jB (by kernel_rfl)) ?_;show awp _ _ _ _ _ (ML _ [.tmp 2] _);have e:=AZ h (qG 5 [CW p]);have c:=Sm.ext.r1 h (qG 5 [CW p]);refine A7 @PZ A5M ?_
 generalize h++[qG 5 [CW p]]=hb at e c|-
 generalize h.length=eb at e|-
 have f:=c.app [qG 1 [[AV.fn (.func 77) [] [.ptr eb 0 0]],[.fn (.func 79) [] [.ptr eb 0 0]],[.fn (.func 81) [] [.ptr eb 0 0]],[.fn (.func 83) [] [.ptr eb 0 0]]]];have b:=AU (x:=qG 1 [[AV.fn (.func 77) [] [.ptr eb 0 0]],[.fn (.func 79) [] [.ptr eb 0 0]],[.fn (.func 81) [] [.ptr eb 0 0]],[.fn (.func 83) [] [.ptr eb 0 0]]]) e;refine(AFY G [(77,[.ptr eb 0 0],MV p.vars),(79,[.ptr eb 0 0],KY p.vars (p.hard++p.soft)),(81,[.ptr eb 0 0],PL p.vars p.dists),(83,[.ptr eb 0 0],if gOK p.vars p.groups=true then 0 else 1)] hb.length BA _ (AZ _ _) ?_).use ?_
 .intro x l
  simp only[zO,List.not_mem_nil,or_false] at l;rcases l with rfl|rfl|rfl|rfl
  .exact AYF G g p d eb _ b
  .exact AYE G g p d eb _ b
  .exact AYD G p d eb _ b
  .exact AYC G p d eb _ b
 .refine AB ?_
  refine⟨?_,f⟩;simp only[fstE,JS];by_cases h1:MV p.vars≠0
  .rw[if_pos h1,if_pos h1]
  rw[if_neg h1,if_neg h1];by_cases h2:KY p.vars (p.hard++p.soft)≠0
  .rw[if_pos h2,if_pos h2]
  rw[if_neg h2,if_neg h2];by_cases h3:PL p.vars p.dists≠0
  .rw[if_pos h3,if_pos h3]
  rw[if_neg h3,if_neg h3];cases gOK p.vars p.groups<;>rfl
theorem valid_ref (p:Pr)(d:PrS p)(h:Hp):PCall (En G) 48 [.agg (CW p)] h (.n (JS p)):=by
 refine ACalls.pure0 rfl ?_;refine acT Tryz.func48 2 ?_;have l:=AZ h (qG 5 [CW p]);have c:=Sm.ext.r1 h (qG 5 [CW p]);refine AY @PZ ?_
 generalize h++[qG 5 [CW p]]=hb at l c|-
 generalize h.length=eb at l|-
 have C:BO jA hb 22 (.ptr eb 0 0)=some (.sl p.vm 4 (p.vars.map encV)):=by rw[BK Z7 l (row:=CW p) rfl];rfl
 have F:BO jA hb 23 (.ptr eb 0 1)=some (.sl p.hm 4 (p.hard.map AQ)):=by rw[BK LU l (row:=CW p) rfl];rfl
 have H:BO jA hb 23 (.ptr eb 0 2)=some (.sl p.sm 4 (p.soft.map AQ)):=by rw[BK LU l (row:=CW p) rfl];rfl
 have I:BO jA hb 24 (.ptr eb 0 3)=some (.sl p.dm 2 (p.dists.map IY)):=by rw[BK APL l (row:=CW p) rfl];rfl
 have J:BO jA hb 25 (.ptr eb 0 4)=some (.sl p.gm 1 (p.groups.map TZ)):=by rw[BK Z5 l (row:=CW p) rfl];rfl
 have hex:=d.exprs;have b:KY p.vars (p.hard++p.soft)=if KY p.vars p.hard≠0 then KY p.vars p.hard else KY p.vars p.soft:=fstE_app _ _ _
 refine AY C ?_;refine(sS G p.vars p.vm hb d.vars d.names).uu ?_;refine BH ?_ ?_<;>intro f
 .refine AB ?_
  have f:MV p.vars≠0:=BL f;exact⟨by unfold JS;rw[if_pos f],c⟩
 have f:¬MV p.vars≠0:=BL f;refine DC @dA C F ?_;refine(YK G p.vars p.vm d.vars p.hard p.hm U (fun e E=>d.wts e (zM.2 (.inl E))) hb).uu ?_;refine BH ?_ ?_<;>intro q
 .refine AB ?_
  have q:KY p.vars p.hard≠0:=BL q;rw[if_pos q] at b;exact⟨by unfold JS;rw[if_neg f,b,if_pos q],c⟩
 have q:¬KY p.vars p.hard≠0:=BL q;rw[if_neg q] at b;refine DC @pR C H ?_;refine(YK G p.vars p.vm d.vars p.soft p.sm U (fun e E=>d.wts e (zM.2 (.inr E))) hb).uu ?_;refine BH ?_ ?_<;>intro g
 .refine AB ?_
  have g:KY p.vars p.soft≠0:=BL g;exact⟨by unfold JS;rw[if_neg f,b,if_pos g],c⟩
 have g:¬KY p.vars p.soft≠0:=BL g;refine A7 C I ?_;refine(AO0 G p.vars p.vm p.dists p.dm d.vars d.dists d.ws hb).uu ?_;refine BH ?_ ?_<;>intro A
 .refine AB ?_
  have A:PL p.vars p.dists≠0:=BL A;exact⟨by unfold JS;rw[if_neg f,b,if_neg g,if_pos A],c⟩
 have A:¬PL p.vars p.dists≠0:=BL A;refine DC @pQ C J ?_;refine(AIE G p.vars p.vm p.groups p.gm d.vars d.groups d.members hb).uu ?_;refine BH ?_ ?_<;>intro B
 .refine AB ?_
  have B:¬gOK p.vars p.groups=true:=BL B;exact⟨by unfold JS;rw[if_neg f,b,if_neg g,if_neg A,if_neg B],c⟩
 .refine AB ?_
  have B:gOK p.vars p.groups=true:=BL B;exact⟨by unfold JS;rw[if_neg f,b,if_neg g,if_neg A,if_pos B],c⟩
end
end Go.Proofs.YtiihpnicbekebaaGreatDoor.Bd
namespace Go.Proofs.YtiihpnicbekebaaGreatDoor.Bd
open Sm Bins Cov Xe Wd Go.RowKit
def L6 (vars:List Vr)(a:List Int):List Sg:=List.zipWith (fun v z=>(v.name,z)) vars a
theorem TW {vars:List Vr}{a:List Int}(h:a.length=vars.length):(L6 vars a).length=vars.length:=by unfold L6;simp;omega
theorem bB {vars:List Vr}{a:List Int}{i:Nat}(b:i<vars.length)(h2:i<a.length)(h:i<(L6 vars a).length):(L6 vars a)[i]=(vars[i].name,a[i]):=by simp [L6]
theorem A5P (n:ByteArray)(z:Int):JC jA 209 [(0,.str n),(1,.n z)]=some (.agg (FV (n,z))):=BC
theorem A5H (h:Hp)(s:Sg):DJ jA false h 137 1 [(0,.agg (FV s))]=some (.sl .full 2 [FV s],h):=BC
theorem A4I:Frz FV:=fun _ _ _ _=>⟨rfl,rfl⟩
section
variable (G:Nat->AV)
theorem AY8 (p:Pr)(X:PrS p)(a:List Int)(m:SM)(Q:a.length=p.vars.length)(h:Hp):PCall (En G) 208 [.agg (CW p),.sl m 1 (a.map qencI)] h (.sl (nm (L6 p.vars a)) 2 ((L6 p.vars a).map FV)):=by
 have Y:=X.vars;have T:=TW Q;refine JZ A4I ?_;refine IK (H:=hint [32] []) (enM G) Tryz.func208 rfl (by kernel_rfl) (by kernel_rfl) (Nat.le_of_ble_eq_true (by kernel_rfl)) ?_;show awp _ _ _ _ _ (ML _ [.tmp 4] _);have C:=AZ h (qG 5 [CW p]);have J:=Sm.ext.r1 h (qG 5 [CW p]);have O:h.length<=(h++[qG 5 [CW p]]).length:=BA;refine AY @PZ ?_
 generalize h++[qG 5 [CW p]]=H0 at C J O|-
 generalize V:h.length=pb at C O|-
 have B:∀ {H:Hp},Sm.ext H0 H->BO jA H 22 (.ptr pb 0 0)=some (.sl p.vm 4 (p.vars.map encV)):=fun q=>by rw[BK Z7 (DW q C) (row:=CW p) rfl];rfl
 have E:(((a.length:Nat):Int) != ((p.vars.length:Nat):Int))=false:=by rw[Q];simp
 refine A7 (B (ext.rfl' H0)) E ?_
 refine BB (fun n F H=>∃i u,n+i=a.length/\F 1=.sl m 1 (a.map qencI)/\F 2=.ptr pb 0 0/\F 5=u/\F 6=.n (i:Nat)/\ext H0 H/\outG 2 FV H0 ((L6 p.vars a).take i) u H) a.length
  ⟨0,.sl .nil 0 [],BA,AO,AO,AO,AO,ext.rfl' _,outG.nil _ _ _ _⟩ ?_
 rintro n F H ⟨i,u,hi,L,R,M,N,g,I⟩;refine A7 L N ?_;refine DX ?_ ?_<;>intro e
 .have f:i<p.vars.length:=U
  have l:i<(L6 p.vars a).length:=U;obtain⟨v',H',S,A,_,K,_,_⟩:=I.append (P:=jA) AZK BC AZF A0D U (by rw[List.length_take];omega) g (p.vars[i].name,a[i]);rw[<-bB f e l,<-List.take_succ_eq_append_getElem l] at A;have ln:BO jA H 9 (.fptr 4 (p.vars.map encV) i 0)=some (.str p.vars[i].name):=by rw[BR ag9 f];rfl
  have Z:BO jA H 3 (.fptr 1 (a.map qencI) i 0)=some (.n a[i]):=by rw[BR ag3 e];rfl
  try refine AB ?_
  refine DR BC ?_;simp only[vQ,List.contains_cons,List.contains_nil,Nat.reduceBEq,Bool.or_false,KQ,XN,JF,JE,CQ,NS,↓reduceIte,Nat.reduceEqDiff,Nat.reduceAdd,Nat.add_zero,Option.getD_some,bNf,enP,bM,iK,LJ,VV,L,R,M,N,B g,CP f,CP e,ln,Z,A5P,A5H,S,C9 i];exact⟨n-1,U,i+1,v',U,AC,AC,AC,AC,K,A⟩
 .rw[List.take_of_length_le U] at I
  refine AY M ?_;refine⟨J.trans g,?_⟩;rcases I with⟨a,b⟩|⟨a,o,b,c,d⟩
  .exact .inl ⟨a,b⟩
  .exact .inr ⟨a,o,Nat.le_trans J.le b,c,d⟩
end
end Go.Proofs.YtiihpnicbekebaaGreatDoor.Bd
namespace Go.Proofs.YtiihpnicbekebaaGreatDoor.Bl
open Sm Bins Cov Xe Wd Bd Go.RowKit
variable {p:Pr} {a:List Int}
def QCall (E:Env)(f:FuncId)(args:List AV)(h:Hp)(Q:AV->Prop):Prop:=ACalls E.nox f args h fun v b=>Q v/\b=h
theorem QCall.use {E:Env}{f:FuncId}{args:List AV}{h:Hp}{Q:AV->Prop}{K:AV->Hp->Prop}(d:QCall E f args h Q)(hk:∀r,Q r->K r h):ACalls E f args h K :=
 ACalls.mono (ACalls.ofNox d) fun r _ ⟨b,c⟩=>by rw[c];exact hk r b
theorem ACalls.pureQ {E:Env}{f:FuncId}{args:List AV}{h:Hp}{R:AV->Hp->Prop}{Q:AV->Prop}(d:Nat)(q:ACalls E f args h R)
  (hk:∀v c,R v c->ext h c/\Q (FH h.length c d v)) (l:E.nox=E:=by rfl):QCall E f args h Q:=by
 unfold QCall;rw[l];refine q.trunc fun v c g=>?_
 obtain⟨⟨x,rfl⟩,A⟩:=hk v c g;exact⟨d,h,rfl,fun b e=>.inr (.inl ⟨by rw[qH e],by rw[qH e]⟩),A,rfl⟩
theorem QCall.args {E:Env}{f:FuncId}{args args':List AV}{h:Hp}{Q:AV->Prop}(c:QCall E f args' h Q)(b:CvRL args args'):QCall E f args h Q:=ACalls.args c b
theorem AS7 {h H:Hp}(hk:∀(k:Nat) (y:ABlk),h[k]?=some y->H[k]?=some y)(_:h.length<=H.length):ext h H:=by
 refine⟨H.drop h.length,?_⟩;apply List.ext_getElem?;intro i;by_cases hi:i<h.length
 .grind
 .grind
theorem getD_set_eq {l:List Int}{i:Nat}(h:i<l.length)(x:Int):(l.set i x).getD i 0=x:=by simp_all
theorem getD_set_ne {l:List Int}{i j:Nat}(h:i≠j)(x:Int):(l.set i x).getD j 0=l.getD j 0:=by simp_all
theorem A1F {a:Nat}(h:a<=8):(2:Int)^a<=256:=by
 have:a=0\/a=1\/a=2\/a=3\/a=4\/a=5\/a=6\/a=7\/a=8:=U;rcases this with rfl|rfl|rfl|rfl|rfl|rfl|rfl|rfl|rfl<;>decide
theorem U2 {v:Vr}(h:vrE v=0):F7 v.name=true/\1<=v.width/\v.width<=8/\0<=v.mode/\v.mode<=2/\0<=v.value/\v.value<2^v.width.toNat/\(v.mode≠0->v.value=0):=by
 unfold vrE at h;by_cases hv:F7 v.name=true
 .rw[if_pos hv] at h
  have b:P5 v=false:=by simp_all
  unfold P5 at b;simp only[Bool.or_eq_false_iff,decide_eq_false_iff_not,Bool.and_eq_false_iff] at b;obtain⟨⟨⟨⟨⟨⟨d,e⟩,f⟩,g⟩,l⟩,A⟩,c⟩:=b;refine⟨hv,U,U,U,U,U,U,fun B=>?_⟩;rcases c with q|q
  .simp at q;omega
  .simpa using q
 .simp_all
structure PV (p:Pr):Prop where
 len:p.vars.length<=16
 vr:∀v∈p.vars,vrE v=0
 nd:∀(i:Nat) (hi:i<p.vars.length),plc (p.vars.take i) p.vars[i].name<0
 bits:KL p.vars<=20
 g:gOK p.vars p.groups=true
theorem PV.of (h:JS p=0):PV p:=by
 unfold JS at h;have b:MV p.vars=0:=by omega
 rw[if_neg (BL b)] at h;have g:KY p.vars (p.hard++p.soft)=0:=by omega
 rw[if_neg (BL g)] at h;have l:PL p.vars p.dists=0:=by omega
 rw[if_neg (BL l)] at h;have A:gOK p.vars p.groups=true:=by simp_all
 unfold MV at b;have e:¬p.vars.length>16:=fun q=>by rw[if_pos q] at b;exact absurd b DU
 rw[if_neg e] at b;have c:Bd.fstE vrE p.vars=0:=by omega
 rw[if_neg (BL c)] at b;have d:AFF p.vars=false:=by grind
 rw[if_neg (by rw[d];decide)] at b;have f:(p.vars.any fun v=>SV p.vars v.name)=false:=by grind
 rw[if_neg (by rw[f];decide)] at b;have E:¬KL p.vars>20:=fun q=>by rw[if_pos q] at b;exact absurd b DU
 refine⟨U,fun v C=>fstE_zero c v C,fun i B=>?_,U,A⟩;have:=of_decide_eq_false d;have q:¬0<=plc (p.vars.take i) p.vars[i].name:=fun q=>this ⟨⟨i,B⟩,q⟩
 omega
structure AOk (p:Pr) (a:List Int):Prop where
 len:a.length=p.vars.length
 st:∀(i:Nat) (hi:i<p.vars.length),p.vars[i].mode=0->a.getD i 0=p.vars[i].value
 rn:∀(i:Nat) (hi:i<p.vars.length),p.vars[i].mode≠0->0<=a.getD i 0/\a.getD i 0<2^p.vars[i].width.toNat
theorem AOk.rng (P:PV p)(h:AOk p a)(i:Nat)(b:i<p.vars.length):0<=a.getD i 0/\a.getD i 0<256:=by
 obtain⟨_,f,g,_,_,d,e,_⟩:=U2 (P.vr _ (jH b));have c:=A1F (U:p.vars[i].width.toNat<=8);by_cases hm:p.vars[i].mode=0
 .rw[h.st i b hm];omega
 .have:=h.rn i b hm;omega
def nxK (b:List Vr):Nat->List Int->Option (List Int)
 | 0,_=>none
 | k+1,a=>match b[k]? with
   | some v=>if v.mode=0 then nxK b k a else if a.getD k 0+1<2^v.width.toNat then some (a.set k (a.getD k 0+1)) else nxK b k (a.set k 0)
   | none=>none
def rkP (b:List Vr)(a:List Int):Nat->Nat
 | 0=>0
 | k+1=>match b[k]? with
   | some v=>if v.mode=0 then rkP b a k else rkP b a k*2^v.width.toNat+(a.getD k 0).toNat
   | none=>rkP b a k
def sT (b:List Vr):Nat->Nat
 | 0=>1
 | k+1=>match b[k]? with
   | some v=>if v.mode=0 then sT b k else sT b k*2^v.width.toNat
   | none=>sT b k
theorem yU (b:List Vr)(a:List Int)(z:Int):∀(k i:Nat),k<=i->rkP b (a.set i z) k=rkP b a k
 | 0,_,_=>rfl
 | k+1,i,h=>by
   simp only[rkP];rw[yU b a z k i U,getD_set_ne U]
theorem oI {p:Pr}:∀(k:Nat) (a:List Int),k<=p.vars.length->AOk p a->match nxK p.vars k a with
  | some g=>AOk p g/\rkP p.vars g k=rkP p.vars a k+1/\∀i,k<=i->g.getD i 0=a.getD i 0
  | none=>True
 | 0,a,_,_=>trivial
 | k+1,a,hk,h=>by
   have b:k<p.vars.length:=U;have l:k<a.length:=by rw[h.len];exact b
   unfold nxK;simp only[jO b];by_cases hm:p.vars[k].mode=0
   .rw[if_pos hm]
    have A:=oI k a U h
    cases C:nxK p.vars k a with
    | none=>trivial
    | some g =>
      rw[C] at A;obtain⟨E,F,B⟩:=A;refine⟨E,?_,fun i f=>B i U⟩;simp only[rkP,jO b,if_pos hm];exact F
   .rw[if_neg hm]
    obtain⟨I,J⟩:=h.rn k b hm
    have c:∀z:Int,0<=z->z<2^p.vars[k].width.toNat->AOk p (a.set k z):=fun z K L=>by
     refine⟨by rw[List.length_set];exact h.len,fun i f d=>?_,fun i f d=>?_⟩
     .by_cases e:i=k
      .subst e;exact absurd d hm
      .rw[getD_set_ne (fun q=>e q.symm)];exact h.st i f d
     .by_cases e:i=k
      .simp_all
      .rw[getD_set_ne (fun q=>e q.symm)];exact h.rn i f d
    by_cases hz:a.getD k 0+1<2^p.vars[k].width.toNat
    .rw[if_pos hz]
     refine⟨c _ U hz,?_,fun i f=>getD_set_ne U _⟩;simp only[rkP,jO b,if_neg hm];rw[yU _ _ _ _ _ (jF k),getD_set_eq l];omega
    .rw[if_neg hz]
     have H:(0:Int)<2^p.vars[k].width.toNat:=Int.pow_pos DU;have A:=oI k (a.set k 0) U (c 0 (Int.le_refl 0) H)
     cases C:nxK p.vars k (a.set k 0) with
     | none=>trivial
     | some g =>
       rw[C] at A;obtain⟨E,F,B⟩:=A;refine⟨E,?_,fun i f=>by rw[B i U];exact getD_set_ne U _⟩;simp only[rkP,jO b,if_neg hm];rw[F,B k (jF k),getD_set_eq l,yU _ _ _ _ _ (jF k)];have e:(((2:Nat)^p.vars[k].width.toNat:Nat):Int)=2^p.vars[k].width.toNat:=by rw[Int.natCast_pow];rfl
       have:(a.getD k 0).toNat+1=2^p.vars[k].width.toNat:=U;rw[qK];simp only[Int.toNat_zero];omega
theorem AHJ {p:Pr}{a:List Int}(h:AOk p a):∀k,k<=p.vars.length->rkP p.vars a k<sT p.vars k
 | 0,_=>by simp [rkP,sT]
 | k+1,hk=>by
   have b:k<p.vars.length:=U;have c:=AHJ h k U;simp only[rkP,sT,jO b];by_cases hm:p.vars[k].mode=0
   .rw[if_pos hm,if_pos hm];exact c
   .rw[if_neg hm,if_neg hm]
    obtain⟨g,l⟩:=h.rn k b hm;have e:(((2:Nat)^p.vars[k].width.toNat:Nat):Int)=2^p.vars[k].width.toNat:=by rw[Int.natCast_pow];rfl
    have f:(a.getD k 0).toNat<2^p.vars[k].width.toNat:=U;have d:(rkP p.vars a k+1)*2^p.vars[k].width.toNat<=sT p.vars k*2^p.vars[k].width.toNat:=Nat.mul_le_mul_right _ c;rw[qK] at d;omega
def WF (p:Pr)(l:List Ex)(a:List Int):Bool:=l.all fun e => !(TN (L6 p.vars a) e==0)
def Y0 (p:Pr)(l:List Ex):Nat->List Int->Option (List Int)
 | 0,_=>none
 | n+1,a=>if WF p l a=true then some a else match nxK p.vars p.vars.length a with
   | some b=>Y0 p l n b
   | none=>none
def mC (p:Pr)(l:List Ex):Nat->List Int->List (List Int)
 | 0,_=>[]
 | n+1,a=>(if WF p l a=true then [a] else [])++match nxK p.vars p.vars.length a with
   | some b=>mC p l n b
   | none=>[]
theorem xM (p:Pr)(l:List Ex):∀(n:Nat) (a:List Int),(mC p l n a).head?=Y0 p l n a
 | 0,_=>rfl
 | n+1,a=>by
   unfold mC Y0;by_cases h:WF p l a=true
   .rw[if_pos h,if_pos h];rfl
   .rw[if_neg h,if_neg h,List.nil_append]
    cases nxK p.vars p.vars.length a with
    | none=>rfl
    | some b=>exact xM p l n b
def lft (p:Pr)(a:List Int):Nat:=sT p.vars p.vars.length-rkP p.vars a p.vars.length
theorem AK7 (h:AOk p a):0<lft p a:=by
 have:=AHJ h p.vars.length (jF _);unfold lft;omega
theorem eP {b:List Int}(h:AOk p a)(e:nxK p.vars p.vars.length a=some b):AOk p b/\lft p b+1=lft p a:=by
 have d:=oI p.vars.length a (jF _) h;rw[e] at d;obtain⟨c,f,_⟩:=d;have g:=AHJ c p.vars.length (jF _);exact⟨c,by unfold lft;omega⟩
def NM (p:Pr):List Int:=p.vars.map Vr.value
theorem AAR (P:PV p):AOk p (NM p):=by
 have c:∀(i:Nat) (b:i<p.vars.length),(NM p).getD i 0=p.vars[i].value:=fun i b=>by
  unfold NM;rw[List.getD_eq_getElem?_getD,List.getElem?_map,jO b];rfl
 refine⟨by unfold NM;simp,fun i b _=>c i b,fun i b f=>?_⟩;obtain⟨_,_,_,_,_,d,e,_⟩:=U2 (P.vr _ (jH b));rw[c i b];exact⟨d,e⟩
def QP (p:Pr)(l:List Ex):Option (List Int):=Y0 p l (lft p (NM p)) (NM p)
theorem AKC {p:Pr}{l:List Ex}:∀(n:Nat) (a b:List Int),AOk p a->Y0 p l n a=some b->AOk p b/\WF p l b=true
 | 0,_,_,_,h=>by cases h
 | n+1,a,b,e,h=>by
   unfold Y0 at h;by_cases q:WF p l a=true
   .simp_all
   .rw[if_neg q] at h
    cases d:nxK p.vars p.vars.length a with
    | none=>rw[d] at h;cases h
    | some c=>rw[d] at h;exact AKC n c b (eP e d).1 h
end Go.Proofs.YtiihpnicbekebaaGreatDoor.Bl
namespace Go.Proofs.YtiihpnicbekebaaGreatDoor.Xe
open Sm Bins Cov Wd Go.RowKit
variable {b k n0 o q:Nat} {xs:List Int} {xss:List (List Int)} {H H':Hp} {bs:List Nat} (G:Nat->AV )
theorem pA {α:Type}{f:α->List AV}{ys:List α}(h:ys≠[]):fzG k f ys=.sl .any k (ys.map f):=by
 cases ys with
 | nil=>exact absurd rfl h
 | cons y ys=>rfl
theorem A1L (o off len:Nat):IQ jA 32 .eql (.own o off len) (.sl .nil 0 [])=some (.bool false):=BC
theorem AO9 {h:Hp}{off len:Nat}(f:h[o]?=some (qG 1 (xs.map qencI)))(l:off+len=xs.length)(g:0<len)(p:xs.length<=1048576):
  ACalls (En G) 189 [.own o off len] h fun v H=>v=.own h.length 0 len/\H=h++[qG 1 ((xs.drop off).map qencI)]:=by
 refine acT Tryz.func189 2 ?_
 have d:JJ h (.own o off len)=some (1,(xs.drop off).map qencI):=by
  rw[JK f NZ,<-List.map_drop,jK NZ]
 have c:(xs.drop off).map qencI≠[]:=by
  intro e;have:=congrArg List.length e;simp at this;omega
 refine A7 @A1L @AT4 ?_;refine MF (ZZ gH sz3 xY rM d c (I5 NZ U)) ?_;refine AB ?_;exact⟨by simp;omega,BA⟩
def cS (p:Nat×List Int):List AV:=[.own p.1 0 p.2.length]
structure NL (n0:Nat) (H:Hp) (o:Nat) (bs:List Nat) (xss:List (List Int)):Prop where
 len:bs.length=xss.length
 top:xss≠[]->H[o]?=some (qG 1 ((bs.zip xss).map cS))
 row:∀(i:Nat) (hb:i<bs.length) (hx:i<xss.length),H[bs[i]]?=some (qG 1 (xss[i].map qencI))
 nodup:bs.Nodup
 out:xss≠[]->o ∉ bs
 lo:∀b∈bs,n0<=b
 lo':xss≠[]->n0<=o
def nlV (o:Nat):List (List Int)->AV
 | []=>.sl .nil 0 []
 | _::xss=>.own o 0 (xss.length+1)
theorem X3 (o:Nat)(h:xss≠[]):nlV o xss=.own o 0 xss.length:=by
 cases xss with
 | nil=>exact absurd rfl h
 | cons x xs=>rfl
theorem WX (o:Nat)(xss:List (List Int)):(nlV o xss).leaf=true:=by cases xss<;>rfl
theorem NL.nil (n0:Nat)(H:Hp)(o:Nat):NL n0 H o [] []:=⟨rfl,fun h=>absurd rfl h,fun i c=>by simp at c,List.nodup_nil,fun h=>absurd rfl h,fun b c=>(by cases c),fun h=>absurd rfl h⟩
section
variable {n0:Nat} {H:Hp} {o:Nat} {bs:List Nat} {xss:List (List Int)} (N:NL n0 H o bs xss)
include N
theorem NL.keep (hk:∀b x,((xss≠[]/\b=o)\/b∈bs)->H[b]?=some x->H'[b]?=some x):NL n0 H' o bs xss :=
 ⟨N.len,fun h=>hk _ _ (.inl ⟨h,rfl⟩) (N.top h),fun i c d=>hk _ _ (.inr (jH c)) (N.row i c d),N.nodup,N.out,N.lo,N.lo'⟩
theorem NL.app (x:Hp):NL n0 (H++x) o bs xss:=N.keep fun _ _ _ c=>IA c
theorem NL.mem_lt (d:b∈bs):b<H.length:=by
 obtain⟨i,c,rfl⟩:=List.getElem_of_mem d;exact AX (N.row i c (by rw[<-N.len];exact c))
theorem NL.top_lt (h:xss≠[]):o<H.length:=AX (N.top h)
theorem NL.set {i:Nat}(A:i<bs.length)(ys:List Int)(C:∀p:i<xss.length,ys.length=xss[i].length):NL n0 (H.set bs[i] (qG 1 (ys.map qencI))) o bs (xss.set i ys):=by
 have f:=N.len;have d:i<xss.length:=U;have c:xss≠[]:=by intro e;subst e;simp at d
 have l:o≠bs[i]:=fun e=>N.out c (by rw[e];exact jH A)
 refine⟨by rw[qV];exact f,fun _=>?_,fun j B p=>?_,N.nodup,fun _=>N.out c,N.lo,fun _=>N.lo' c⟩
 .have e:(bs.zip (xss.set i ys)).map cS=(bs.zip xss).map cS:=by
   refine List.ext_getElem BA fun j E F=>?_
   simp only[List.getElem_map,List.getElem_zip,cS,List.getElem_set];split
   .rename_i e;subst e;rw[C d]
   .rfl
  rw[e,zW (Ne.symm l)];exact N.top c
 .rcases Nat.decEq i j with h|h
  .have g:bs[j]≠bs[i]:=fun e=>h (by
    have:=(List.getElem_inj N.nodup).1 e
    exact this.symm)
   rw[zW (Ne.symm g)];have:=N.row j B (by rw[qV] at p;exact p);rw[this];congr 3;rw[List.getElem_set_ne h]
  .subst h
   rw[List.getElem?_set_self (N.mem_lt (jH A))];congr 3;rw[List.getElem_set_self]
theorem NL.rowAt {i:Nat}(d:i<xss.length):H[o]?=some (qG 1 ((bs.zip xss).map cS))/\((bs.zip xss).map cS)[i]?=some [.own (bs[i]'(by rw[N.len];exact d)) 0 xss[i].length]:=by
 have c:xss≠[]:=by intro e;subst e;simp at d
 refine⟨N.top c,?_⟩;have f:=N.len;rw[List.getElem?_map,List.getElem?_eq_getElem (by rw[List.length_zip];omega),List.getElem_zip];rfl
theorem NL.ld {i:Nat}(c:i<xss.length):BO jA H 32 (.ptr o i 0)=some (.own (bs[i]'(by rw[N.len];exact c)) 0 xss[i].length):=by
 obtain⟨d,e⟩:=N.rowAt c;rw[BK O4 d e];rfl
theorem NL.ix {i:Nat}(d:i<xss.length):JD 1 H (nlV o xss) (.n (i:Nat))=some (.ptr o i 0):=by
 have c:xss≠[]:=by intro e;subst e;simp at d
 rw[X3 o c,GN (N.top c) d,jG]
theorem NL.snoc {t:Nat}(hb:H[b]?=some (qG 1 (xs.map qencI)))(Z:n0<=b)(p:n0<=H.length)(J:b ∉ bs)(K:xss≠[]->b≠o)(ht:H[t]?=some (qG 1 [[.own b 0 xs.length]]))(hm:xss.length<=1048576):
  ∃H',EH jA true H 25 25 (nlV o xss) (.own t 0 1)=some (nlV H.length (xss++[xs]),H')/\NL n0 H' H.length (bs++[b]) (xss++[xs])/\(∀q x,H[q]?=some x->¬isB (nlV o xss) q->H'[q]?=some x)/\H'.length=H.length+1/\∀e:Hp,e.length<=n0->ext e H->ext e H':=by
 have C:JJ H (.own t 0 1)=some (1,[[.own b 0 xs.length]]):=by rw[JK ht BA];rfl
 have f:=N.len
 have V:((bs++[b]).zip (xss++[xs])).map cS=(bs.zip xss).map cS++[[.own b 0 xs.length]]:=by
  rw[List.zip_append f,qC];rfl
 have E:(bs++[b]).Nodup:=List.nodup_append.2 ⟨N.nodup,BA,fun a Y c C e=>by simp at C;subst C;subst e;exact J Y⟩
 have A:∀q∈bs++[b],n0<=q:=fun q d=>by
  rcases zM.1 d with h|h
  .exact N.lo q h
  .simp at h;omega
 have B:∀q∈bs++[b],q<H.length:=fun q d=>by
  rcases zM.1 d with h|h
  .exact N.mem_lt h
  .grind
 have g:∀(H':Hp),(∀q x,H[q]?=some x->¬isB (nlV o xss) q->H'[q]?=some x)->∀(i:Nat) (Q:i<(bs++[b]).length) (X:i<(xss++[xs]).length),H'[(bs++[b])[i]]?=some (qG 1 ((xss++[xs])[i].map qencI)):=by
  intro H' hk i Q X
  have O:∀q,q∈bs++[b]->¬isB (nlV o xss) q:=fun q d S=>by
   cases xss with
   | nil=>exact S
   | cons y ys =>
     have e:o=q:=S;subst e;rcases zM.1 d with h|h
     .exact N.out BA h
     .simp at h;exact K BA h.symm
  refine hk _ _ ?_ (O _ (jH Q));rcases Nat.lt_or_ge i bs.length with h|h
  .rw[List.getElem_append_left h,List.getElem_append_left U]
   exact N.row i h U
  .simp_all
 cases P:xss with
 | nil =>
   subst P;have hbs:bs=[]:=List.eq_nil_of_length_eq_zero (BL f);subst hbs;refine⟨H++[qG 1 [[.own b 0 xs.length]]],?_,⟨BA,fun _=>AZ _ _,g _ fun q x d _=>IA d,E,fun _ d=>by have:=B _ d;omega,A,fun _=>p⟩,fun q x d _=>IA d,BA,fun e _ R=>R.app _⟩;exact UU (k':=0) ud25 ACF zs25 by25 C BA (I5 BA U)
 | cons y ys =>
   have l:xss≠[]:=by rw[P];simp
   have F:=N.top l
   have L:JJ H (.own o 0 xss.length)=some (1,(bs.zip xss).map cS):=by
    rw[JK F NZ,zI,jK NZ]
   have I:=TM ud25 ACF zs25 by25 L C BA (I5 NZ U)
   have hk:∀q x,H[q]?=some x->¬isB (nlV o xss) q->(H.set o .dead++[qG 1 ((bs.zip xss).map cS++[[.own b 0 xs.length]])])[q]?=some x:=fun q x d T=>by
    rw[X3 o l] at T;have M:¬o=q:=T;refine IA ?_;rw[List.getElem?_set,if_neg M];exact d
   rw[<-P];refine⟨H.set o .dead++[qG 1 ((bs.zip xss).map cS++[[.own b 0 xs.length]])],?_,⟨by simp [f],fun _=>?_,g _ hk,E,fun _ d=>by have:=B _ d;omega,A,fun _=>p⟩,hk,BA,fun e R hex=>(hex.set (by have:=N.lo' l;omega) _).app _⟩
   .rw[X3 o l,X3 H.length BA,I]
    simp;omega
   .simp_all
end
theorem AMD (h:Hp)(b l:Nat):DJ jA true h 25 1 [(0,.own b 0 l)]=some (.own h.length 0 1,h++[qG 1 [[.own b 0 l]]]):=BC
theorem AAJ (h:isB (nlV o xss) q):xss≠[]/\q=o:=by
 cases xss with
 | nil=>exact h.elim
 | cons x xs=>exact⟨BA,Eq.symm h⟩
theorem NL.frz (N:NL n0 H o bs xss)(n d:Nat)(C:n<=n0):FH n H (d+3) (nlV o xss)=fzG 1 PE (xss.map fun xs=>⟨.any,xs⟩):=by
 cases p:xss with
 | nil=>rfl
 | cons y I =>
   have c:xss≠[]:=by rw[p];simp
   rw[<-p,X3 o c,frzF_own n H (d+2) o 0 xss.length 1 _ (by have:=N.lo' c;omega) (N.top c)]
   have e:(((bs.zip xss).map cS).drop 0).take xss.length=(bs.zip xss).map cS:=by
    rw[zI,jK NZ]
   have l:=N.len
   have A:((bs.zip xss).map cS).map (·.map (FH n H (d+2)))=(xss.map fun xs=>(⟨.any,xs⟩:Is)).map PE:=by
    refine List.ext_getElem NZ fun j B F=>?_
    have f:j<bs.length:=by simp at B;omega
    have g:j<xss.length:=U;simp only[List.getElem_map,List.getElem_zip,cS,jJ,jL,PE];rw[frz_own (d:=d) frzI (qX C (N.lo _ (jH f))) (N.row j f g)]
   rw[e,A,if_pos,pA (BL c)];refine⟨by simp;omega,?_⟩;rw[List.all_eq_true];intro row E;obtain⟨x,_,rfl⟩:=List.mem_map.1 E;rfl
def cvR (e:Nat)(P:List (List Int))(co:Nat)(C:List (List Int))(d c:Int):List AV:=[nlV e P,nlV co C,.n d,.n c]
structure CS (n0:Nat) (H:Hp) (cb tb po co:Nat) (pb cbs:List Nat) (P C:List (List Int)) (sam ill:Int) (v3:AV):Prop where
 gc:H[cb]?=some (qG 4 [cvR po P co C sam ill])
 gt:H[tb]?=some (qG 1 [[v3]])
 np:NL n0 H po pb P
 nc:NL n0 H co cbs C
 dis:∀b∈pb,b ∉ cbs
 xcp:cb ∉ pb
 xcc:cb ∉ cbs
 xtp:tb ∉ pb
 xtc:tb ∉ cbs
 xpo:P≠[]->po ∉ cbs/\cb≠po/\tb≠po
 xco:C≠[]->co ∉ pb/\cb≠co/\tb≠co
 ct:cb≠tb
def NLB (o:Nat)(bs:List Nat)(xss:List (List Int))(b:Nat):Prop:=(xss≠[]/\b=o)\/b∈bs
theorem NL.lt (N:NL n0 H o bs xss)(c:NLB o bs xss b):n0<=b/\b<H.length:=by
 rcases c with⟨h,rfl⟩|h
 .exact⟨N.lo' h,N.top_lt h⟩
 .exact⟨N.lo _ h,N.mem_lt h⟩
theorem NL.base (N:NL n0 H o bs xss)(h:k<=n0):NL k H o bs xss :=
 ⟨N.len,N.top,N.row,N.nodup,N.out,fun b c=>qX h (N.lo b c),fun q=>qX h (N.lo' q)⟩
theorem AB0 (h:isB (nlV o xss) q):NLB o bs xss q:=.inl (AAJ h)
theorem AGW {t:Nat}(h:NLB t (bs++[b]) (xss++[xs]) q):q=t\/NLB o bs xss q\/q=b:=by
 rcases h with⟨_,rfl⟩|h
 .exact .inl rfl
 .rcases zM.1 h with h|h
  .exact .inr (.inl (.inr h))
  .exact .inr (.inr (BL h))
def zP (m:Mo):List (List Int):=m.pts.map fun p=>zeros p.bins.length
def zC (m:Mo):List (List Int):=m.crs.map fun c=>zeros (KJ (szs m c.pts))
theorem APV (m:Mo):(zP m).length=m.pts.length:=by simp [zP]
theorem APW (m:Mo):(zC m).length=m.crs.length:=by simp [zC]
theorem AVI (m:Mo)(i:Nat)(c:i<m.pts.length):(zP m).take (i+1)=(zP m).take i++[zeros m.pts[i].bins.length]:=by
 have d:i<(zP m).length:=by unfold zP;simpa using c
 rw[jV d];simp [zP]
theorem AVJ (m:Mo)(i:Nat)(c:i<m.crs.length):(zC m).take (i+1)=(zC m).take i++[zeros (KJ (szs m m.crs[i].pts))]:=by
 have d:i<(zC m).length:=by unfold zC;simpa using c
 rw[jV d];simp [zC]
theorem tY (n:Nat):(zeros n).length=n:=by simp [zeros]
structure NC (n0:Nat) (H:Hp) (po:Nat) (pb:List Nat) (co:Nat) (cbs:List Nat) (P C:List (List Int)):Prop where
 np:NL n0 H po pb P
 nc:NL n0 H co cbs C
 dis:∀b,NLB po pb P b->¬NLB co cbs C b
theorem NC.keep {n0:Nat}{H H':Hp}{f:Nat}{e:List Nat}{co:Nat}{c:List Nat}{P C:List (List Int)}(N:NC n0 H f e co c P C)(hk:∀b x,n0<=b->b<H.length->H[b]?=some x->H'[b]?=some x):NC n0 H' f e co c P C :=
 ⟨N.np.keep fun b x d h=>hk b x (N.np.lt d).1 (N.np.lt d).2 h,N.nc.keep fun b x d h=>hk b x (N.nc.lt d).1 (N.nc.lt d).2 h,N.dis⟩
theorem NC.base {n0 k:Nat}{H:Hp}{e:Nat}{d:List Nat}{co:Nat}{c:List Nat}{P C:List (List Int)}(N:NC n0 H e d co c P C)(h:k<=n0):NC k H e d co c P C:=⟨N.np.base h,N.nc.base h,N.dis⟩
theorem NC.cs {n0:Nat}{H:Hp}{l:Nat}{p:List Nat}{co:Nat}{d:List Nat}{P C:List (List Int)}(N:NC n0 H l p co d P C){cb tb:Nat}{g f:Int}{v3:AV}(A:H[cb]?=some (qG 4 [cvR l P co C g f]))(B:H[tb]?=some (qG 1 [[v3]]))(I:cb≠tb)
  (c:∀b,NLB l p P b\/NLB co d C b->b≠cb/\b≠tb):CS n0 H cb tb l co p d P C g f v3:=by
 refine⟨A,B,N.np,N.nc,fun b E F=>N.dis b (.inr E) (.inr F),fun h=>(c _ (.inl (.inr h))).1 rfl,fun h=>(c _ (.inr (.inr h))).1 rfl,fun h=>(c _ (.inl (.inr h))).2 rfl,fun h=>(c _ (.inr (.inr h))).2 rfl,fun h=>⟨fun q=>N.dis _ (.inl ⟨h,rfl⟩) (.inr q),?_,?_⟩,fun h=>⟨fun q=>N.dis _ (.inr q) (.inl ⟨h,rfl⟩),?_,?_⟩,I⟩
 .exact fun e=>(c _ (.inl (.inl ⟨h,rfl⟩))).1 e.symm
 .exact fun e=>(c _ (.inl (.inl ⟨h,rfl⟩))).2 e.symm
 .exact fun e=>(c _ (.inr (.inl ⟨h,rfl⟩))).1 e.symm
 .exact fun e=>(c _ (.inr (.inl ⟨h,rfl⟩))).2 e.symm
structure EmO (h H:Hp) (m:Mo) (po:Nat) (pb:List Nat) (co:Nat) (cbs:List Nat) (v3:AV):Prop where
 nc:NC h.length H po pb co cbs (zP m) (zC m)
 o3:outG 1 (fun _:Pt=>MZ) h m.pts v3 H
theorem AOX (m:Mo)(hm:MoOk m)(L:Cov.Good m)(h:Hp):ACalls (En G) 75 [.agg (DT m)] h fun v H=>ext h H/\∃f B co l v3,v=.tup [.agg (OB (nlV f (zP m)) (nlV co (zC m))),.agg [v3]]/\EmO h H m f B co l v3:=by
 have ar:=hm.np;have au:=hm.nc;have ao:=L.num;refine IK (H:=hint [22,23,24,45,46,47] []) (enM G) Tryz.func75 rfl (by kernel_rfl) (by kernel_rfl) (jB (by kernel_rfl)) ?_;show awp _ _ _ _ _ (ML _ [.cell 2 46,.cell 3 94] _);have E:=Em.mk' h m;refine DC @bxM AUT A2P ?_
 generalize h++[qG 2 [DT m]]++[qG 4 [LW]]++[qG 1 [MZ]]++[qG 4 [LW]]++[qG 1 [MZ]]=H0 at E|-
 generalize (h++[qG 2 [DT m]]++[qG 4 [LW]]++[qG 1 [MZ]]++[qG 4 [LW]]).length=V at E|-
 generalize (h++[qG 2 [DT m]]++[qG 4 [LW]]++[qG 1 [MZ]]).length=A at E|-
 generalize (h++[qG 2 [DT m]]++[qG 4 [LW]]).length=K at E|-
 generalize (h++[qG 2 [DT m]]).length=J at E|-
 have o2:=E.o2;have o3:=E.o3;have o4:=E.o4;have o5:=E.o5;have an:=E.lt;refine AY @E.m0 ?_;refine EK 0 (fun F H=>∃f B v3,F 1=.ptr h.length 0 0/\F 2=.ptr J 0 0/\F 3=.ptr K 0 0/\F 4=.ptr A 0 0/\F 5=.ptr V 0 0/\Em h H m J K A V (nlV f (zP m)) (.sl .nil 0 []) v3/\NL H0.length H f B (zP m)/\outG 1 (fun _:Pt=>MZ) H0 m.pts v3 H/\(∀b,NLB f B (zP m) b->¬isB v3 b)/\H0.length<=H.length) (fun _ _=>False) ?_ ?_ (fun _ _ hh=>hh.elim)
 .refine BB (fun n F H=>∃i f B v3,n+i=m.pts.length/\F 1=.ptr h.length 0 0/\F 2=.ptr J 0 0/\F 3=.ptr K 0 0/\F 4=.ptr A 0 0/\F 5=.ptr V 0 0/\F 11=.sl m.pm 6 (m.pts.map F8)/\F 12=.n m.pts.length/\F 13=.n (i:Nat)/\Em h H m J K A V (nlV f ((zP m).take i)) (.sl .nil 0 []) v3/\NL H0.length H f B ((zP m).take i)/\outG 1 (fun _:Pt=>MZ) H0 (m.pts.take i) v3 H/\(∀b,NLB f B ((zP m).take i) b->¬isB v3 b)/\H0.length<=H.length) m.pts.length
   ⟨0,0,[],.sl .nil 0 [],BA,AO,AO,AO,AO,AO,AO,AO,AO,by rw[qA];exact E,by rw[qA];exact NL.nil _ _ _,by rw[qA];exact outG.nil _ _ _ _,fun b _ I=>I,jF _⟩ ?_
  clear E;rintro n F H ⟨i,f,B,v3,hi,f1,f2,f3,X,f5,f11,f12,f13,E,N,g,c,hle⟩;refine A7 f12 f13 ?_;refine DX ?_ ?_<;>intro p
  .have ap:=(L.full _ (jH p)).2
   have hP:=AVI m i p;have Z:=tY m.pts[i].bins.length;have a4:((zP m).take i).length<=1048576:=by rw[jR,APV];omega
   simp only[vQ,jZ,jS,jU,zN,CQ,↓reduceIte,jC,enP,UF,jQ,f11,f13,CP p,DL kF bI JB p,AY0,AVU _ _ [.str ⟨#[]⟩,.n 0,.n 0,.str ⟨#[]⟩,.sl .nil 0 [],.sl .nil 0 []] rfl];have a1:(H++[qG 6 [F8 m.pts[i]]]).length=H.length+1:=BA;have E1:=E.app [qG 6 [F8 m.pts[i]]];have N1:=N.app [qG 6 [F8 m.pts[i]]];have Q:=g.app [qG 6 [F8 m.pts[i]]];have lp:BO jA (H++[qG 6 [F8 m.pts[i]]]) 80 (.ptr H.length 0 5)=some (.sl m.pts[i].bm 4 (m.pts[i].bins.map I7)):=by rw[EI QQ,QE]
   generalize H++[qG 6 [F8 m.pts[i]]]=Ha at a1 E1 N1 Q lp|-
   have N2:=(N1.app [qG 1 ((zeros m.pts[i].bins.length).map qencI)]).app [qG 1 [[.own Ha.length 0 m.pts[i].bins.length]]];have E2:=(E1.app [qG 1 ((zeros m.pts[i].bins.length).map qencI)]).app [qG 1 [[.own Ha.length 0 m.pts[i].bins.length]]];have R:=(Q.app [qG 1 ((zeros m.pts[i].bins.length).map qencI)]).app [qG 1 [[.own Ha.length 0 m.pts[i].bins.length]]];have gb:=AU (x:=qG 1 [[.own Ha.length 0 m.pts[i].bins.length]]) (AZ Ha (qG 1 ((zeros m.pts[i].bins.length).map qencI)));have gt:=AZ (Ha++[qG 1 ((zeros m.pts[i].bins.length).map qencI)]) (qG 1 [[.own Ha.length 0 m.pts[i].bins.length]]);have a2:(Ha++[qG 1 ((zeros m.pts[i].bins.length).map qencI)]++[qG 1 [[.own Ha.length 0 m.pts[i].bins.length]]]).length=Ha.length+2:=BA;refine DR BC ?_;simp only[vQ,jZ,jS,jU,zN,zT,JF,YX,JE,YY,↓reduceIte,jC,jP,Nat.add_zero,enP,AAX,eO,KX,X,E1.l4,lp,List.length_map,mkI _ _ (U:m.pts[i].bins.length<=1048576),AMD]
   generalize Ha++[qG 1 ((zeros m.pts[i].bins.length).map qencI)]++[qG 1 [[.own Ha.length 0 m.pts[i].bins.length]]]=Hb at N2 E2 R gb gt a2|-
   generalize (Ha++[qG 1 ((zeros m.pts[i].bins.length).map qencI)]).length=tb at gt|-
   obtain⟨T,C,N3,hk,ah,a5⟩:=N2.snoc gb U U (fun q=>by have:=N.mem_lt q;omega) (fun q e=>by have:=N.top_lt q;omega) (by rw[Z];exact gt) a4;rw[<-hP] at N3 C;have P:(zP m).take (i+1)≠[]:=by rw[hP];simp
   have E3:=E2.keep hk (fun b d=>by
    obtain⟨q,rfl⟩:=AAJ d
    have:=N.lo' q;omega) (a5 h U)
   rw[X3 _ P] at C;refine MF C ?_;have E4:=E3.set4 (.own Hb.length 0 ((zP m).take (i+1)).length) (.sl .nil 0 []);have M:=(R.keepA hk (fun b d I=>c b (AB0 I) d)).setB (b:=A) U (qG 4 [OB (.own Hb.length 0 ((zP m).take (i+1)).length) (.sl .nil 0 [])]);have N4:NL H0.length (T.set A (qG 4 [OB (.own Hb.length 0 ((zP m).take (i+1)).length) (.sl .nil 0 [])])) Hb.length (B++[Ha.length]) ((zP m).take (i+1)):=N3.keep fun b x d L=>DF L (by have:=N3.lt d;omega)
   have a3:(T.set A (qG 4 [OB (.own Hb.length 0 ((zP m).take (i+1)).length) (.sl .nil 0 [])])).length=T.length:=BA;refine A7 X @E3.s4 ?_
   generalize T.set A (qG 4 [OB (.own Hb.length 0 ((zP m).take (i+1)).length) (.sl .nil 0 [])])=H4 at E4 M N4 a3|-
   obtain⟨aw,H5,aa,ac,ab,aq,ai,⟨S,l3,rfl⟩,am⟩:=M.app2 ud25 ACF zs25 by25 U (by rw[jR];omega) U m.pts[i];rw[<-jV p] at ac;have E5:=E4.keep ab (fun b d=>by have:=M.lt d;omega) (am h U);have E6:=E5.set5 (.own S 0 l3);have aj:=ac.setB (b:=V) U (qG 1 [[.own S 0 l3]])
   have N5:NL H0.length (H5.set V (qG 1 [[.own S 0 l3]])) Hb.length (B++[Ha.length]) ((zP m).take (i+1)):=N4.keep fun b x d L=>DF (ab b x L (fun q=>by
    rw[hP] at d;rcases AGW (o:=f) d with rfl|d|rfl
    .have:=g.lt q;omega
    .exact c _ d q
    .have:=g.lt q;omega)) (by have:=N4.lt d;omega)
   refine EG @AS6 f5 @E4.l5 @A5L ?_;refine MF (v:=.own S 0 l3) (h:=H5) aa ?_;refine H7 @AS6 f5 @E5.s5 f13 (C9 i) ?_;rw[<-X3 _ P] at E6
   exact⟨n-1,U,i+1,Hb.length,_,.own S 0 l3,U,AC,AC,AC,AC,AC,AC,AC,AC,E6,N5,aj,fun b d I=>by
    have h1:=ai b I;have h2:=N4.lt d
    omega,by rw[qV];omega⟩
  .rw[jK (by rw[APV];omega)] at N E c
   rw[jK U] at g;refine AB ?_;exact⟨f,B,v3,f1,f2,f3,X,f5,E,N,g,c,hle⟩
 .rintro F H ⟨f,B,v3,f1,f2,f3,X,f5,E,N,g,c,hle⟩
  refine A7 f1 @E.m1 ?_;refine EK 2 (fun F H=>∃co l,F 2=.ptr J 0 0/\F 3=.ptr K 0 0/\F 4=.ptr A 0 0/\F 5=.ptr V 0 0/\Em h H m J K A V (nlV f (zP m)) (nlV co (zC m)) v3/\NC H0.length H f B co l (zP m) (zC m)/\outG 1 (fun _:Pt=>MZ) H0 m.pts v3 H) (fun _ _=>False) ?_ ?_ (fun _ _ hh=>hh.elim)
  .refine BB (fun n F H=>∃i co l,n+i=m.crs.length/\F 1=.ptr h.length 0 0/\F 2=.ptr J 0 0/\F 3=.ptr K 0 0/\F 4=.ptr A 0 0/\F 5=.ptr V 0 0/\F 33=.sl m.cm 3 (m.crs.map JP)/\F 34=.n m.crs.length/\F 35=.n (i:Nat)/\Em h H m J K A V (nlV f (zP m)) (nlV co ((zC m).take i)) v3/\NL H0.length H f B (zP m)/\NL H0.length H co l ((zC m).take i)/\outG 1 (fun _:Pt=>MZ) H0 m.pts v3 H/\(∀b,NLB co l ((zC m).take i) b->¬NLB f B (zP m) b/\¬isB v3 b)/\H0.length<=H.length) m.crs.length
    ⟨0,0,[],BA,D7 f1,D7 f2,D7 f3,D7 X,D7 f5,AO,AO,AO,by rw[qA];exact E,N,by rw[qA];exact NL.nil _ _ _,g,(fun b d=>by
     rcases d with⟨q,_⟩|q
     .exact absurd rfl q
     .cases q),hle⟩ ?_
   clear f1 f2 f3 X f5 E N g c hle;rintro n F H ⟨i,co,l,hi,f1,f2,f3,X,f5,ad,ae,a0,E,NP,N,g,c,hle⟩;refine A7 ae a0 ?_;refine DX ?_ ?_<;>intro p
   .have Y:=L.crs _ (jH p)
    have ag:=L.full.szs Y.here;have av:=PQ m m.crs[i].pts;have af:=Y.four;have al:=Y.prod;have hC:=AVJ m i p;have Z:=tY (KJ (szs m m.crs[i].pts));have a4:((zC m).take i).length<=1048576:=by rw[jR,APW];omega
    simp only[vQ,jZ,jS,jU,zN,CQ,↓reduceIte,jC,enP,WI,jQ,ad,a0,CP p,DL AJK yI PI p,A2O,A01 _ _ [.str ⟨#[]⟩,.sl .nil 0 [],.sl .nil 0 []] rfl];have a1:(H++[qG 3 [JP m.crs[i]]]).length=H.length+1:=BA;have E1:=E.app [qG 3 [JP m.crs[i]]];have N1:=N.app [qG 3 [JP m.crs[i]]];have a6:=NP.app [qG 3 [JP m.crs[i]]];have Q:=g.app [qG 3 [JP m.crs[i]]];have a9:=AZ H (qG 3 [JP m.crs[i]])
    generalize H++[qG 3 [JP m.crs[i]]]=Ha at a1 E1 N1 a6 Q a9|-
    generalize ak:KJ (szs m m.crs[i].pts)=pn at hC Z al;have N2:=(N1.app [qG 1 ((zeros pn).map qencI)]).app [qG 1 [[.own Ha.length 0 pn]]];have a7:=(a6.app [qG 1 ((zeros pn).map qencI)]).app [qG 1 [[.own Ha.length 0 pn]]];have E2:=(E1.app [qG 1 ((zeros pn).map qencI)]).app [qG 1 [[.own Ha.length 0 pn]]];have R:=(Q.app [qG 1 ((zeros pn).map qencI)]).app [qG 1 [[.own Ha.length 0 pn]]];have gb:=AU (x:=qG 1 [[.own Ha.length 0 pn]]) (AZ Ha (qG 1 ((zeros pn).map qencI)));have gt:=AZ (Ha++[qG 1 ((zeros pn).map qencI)]) (qG 1 [[.own Ha.length 0 pn]]);have a2:(Ha++[qG 1 ((zeros pn).map qencI)]++[qG 1 [[.own Ha.length 0 pn]]]).length=Ha.length+2:=BA;refine DR BC ?_;refine KO @YX f1 X @E1.l4' (ldM E1.gm) (ldC a9) ?_;refine⟨_,nL G m _ _ Y.here U,?_⟩
    try refine AB ?_
    refine⟨_,eF G _ _ _ (fun n hn=>(ag n hn).2) U,?_⟩;rw[ak]
    try simp only[vQ,jZ,jS,jU,zN,zT,JF,JE,↓reduceIte,jC,jP,enP,mkI _ _ (U:pn<=1048576),AMD]
    generalize Ha++[qG 1 ((zeros pn).map qencI)]++[qG 1 [[.own Ha.length 0 pn]]]=Hb at N2 a7 E2 R gb gt a2|-
    generalize (Ha++[qG 1 ((zeros pn).map qencI)]).length=tb at gt|-
    obtain⟨T,C,N3,hk,ah,a5⟩:=N2.snoc gb (by omega) (by omega) (fun q=>by have:=N.mem_lt q;omega) (fun q e=>by have:=N.top_lt q;omega) (by rw[Z];exact gt) a4;rw[<-hC] at N3 C;have P:(zC m).take (i+1)≠[]:=by rw[hC];simp
    have E3:=E2.keep hk (fun b d=>by
     obtain⟨q,rfl⟩:=AAJ d
     have:=N.lo' q;omega) (a5 h (by omega))
    rw[X3 _ P] at C;refine MF C ?_;have E4:=E3.set4 (nlV f (zP m)) (.own Hb.length 0 ((zC m).take (i+1)).length);have M:=(R.keepA hk (fun b d I=>(c b (AB0 I)).2 d)).setB (b:=A) U (qG 4 [OB (nlV f (zP m)) (.own Hb.length 0 ((zC m).take (i+1)).length)]);have N4:NL H0.length (T.set A (qG 4 [OB (nlV f (zP m)) (.own Hb.length 0 ((zC m).take (i+1)).length)])) Hb.length (l++[Ha.length]) ((zC m).take (i+1)):=N3.keep fun b x d L=>DF L (by have:=N3.lt d;omega)
    have a8:NL H0.length (T.set A (qG 4 [OB (nlV f (zP m)) (.own Hb.length 0 ((zC m).take (i+1)).length)])) f B (zP m):=a7.keep fun b x d L=>DF (hk b x L (fun q=>(c b (AB0 q)).1 d)) (by have:=NP.lt d;omega)
    refine EG X @E3.s4' a0 (C9 i) ?_;have a3:(T.set A (qG 4 [OB (nlV f (zP m)) (.own Hb.length 0 ((zC m).take (i+1)).length)])).length=T.length:=BA
    generalize T.set A (qG 4 [OB (nlV f (zP m)) (.own Hb.length 0 ((zC m).take (i+1)).length)])=H4 at E4 M N4 a8 a3|-
    rw[<-X3 Hb.length P] at E4
    exact⟨n-1,U,i+1,Hb.length,_,U,AC,AC,AC,AC,AC,AC,AC,AC,E4,a8,N4,M,fun b d=>by
     rw[hC] at d;rcases AGW (o:=co) d with rfl|d|rfl
     .exact⟨fun q=>by have:=NP.lt q;omega,fun q=>by have:=g.lt q;omega⟩
     .exact c _ d
     .exact⟨fun q=>by have:=NP.lt q;omega,fun q=>by have:=g.lt q;omega⟩,U⟩
   .rw[jK (by rw[APW];omega)] at N E c
    refine AB ?_;exact⟨co,l,f2,f3,X,f5,E,⟨NP,N,fun b h1 h2=>(c b h2).1 h1⟩,g⟩
  .rintro F' H' ⟨co,l,g2,g3,g4,g5,O,N,q3⟩
   refine AB ?_;have p2:=O.o2;have p3:=O.o3;have p4:=O.o4;have p5:=O.o5;refine xH [(5,2)] BC ?_ ?_
   .refine KO g2 g5 @xS @AGS @ACW @and_true ?_
    omega
   simp only[vQ,jZ,jS,jU,zN,QK,QZ,↓reduceIte,jC,jP,enP,jQ,g2,g3,g4,g5,eS O.g4 rfl,eR O.g5 rfl,AQN O.g2 rfl (WX _ _) (WX _ _),AQM (DF O.g3 (U:K≠J)) rfl q3.leaf];rw[A11 (ba:=J) (bb:=K) (D7 g2) (D7 g3) (eS (DF (CJ O.g2) (U:J≠K)) rfl) (eR (CJ (DF O.g3 (U:K≠J))) rfl)];exact⟨(O.hx.set U _).set U _,f,B,co,l,v3,rfl,(N.keep (H':=(H'.set J (qG 4 [OB (nlV f (zP m)) (nlV co (zC m))])).set K (qG 1 [[v3]])) fun b x d _ L=>DF (DF L U) U).base U,((q3.setB (b:=J) U _).setB (b:=K) U _).base U⟩
theorem A7R (c:Hp){d e v3:AV}(f:d.leaf=true)(h2:e.leaf=true)(g:v3.leaf=true):
  D8 jA (c++[qG 4 [LW]]++[qG 1 [MZ]]) 46 (.ptr c.length 0 0) (.agg (OB d e))=some ((c++[qG 4 [LW]]++[qG 1 [MZ]]).set c.length (qG 4 [OB d e])) /\
  D8 jA ((c++[qG 4 [LW]]++[qG 1 [MZ]]).set c.length (qG 4 [OB d e])) 94 (.ptr (c++[qG 4 [LW]]).length 0 0) (.agg [v3])=some (((c++[qG 4 [LW]]++[qG 1 [MZ]]).set c.length (qG 4 [OB d e])).set (c++[qG 4 [LW]]).length (qG 1 [[v3]])) /\
  (((c++[qG 4 [LW]]++[qG 1 [MZ]]).set c.length (qG 4 [OB d e])).set (c++[qG 4 [LW]]).length (qG 1 [[v3]]))[c.length]?=some (qG 4 [OB d e]) /\
  (((c++[qG 4 [LW]]++[qG 1 [MZ]]).set c.length (qG 4 [OB d e])).set (c++[qG 4 [LW]]).length (qG 1 [[v3]]))[(c++[qG 4 [LW]]).length]?=some (qG 1 [[v3]]) /\
  ext c (((c++[qG 4 [LW]]++[qG 1 [MZ]]).set c.length (qG 4 [OB d e])).set (c++[qG 4 [LW]]).length (qG 1 [[v3]])) :=
 ⟨AQN (AU (AZ _ _)) rfl f h2,AQM (DF (AZ _ _) BA) rfl g,DF (CJ (AU (AZ _ _))) BA,CJ (DF (AZ _ _) BA),((((ext.rfl' c).app _).app _).set (jF _) _).set BA _⟩
theorem NC.ext {e:Nat}{d:List Nat}{co:Nat}{c:List Nat}{P C:List (List Int)}(N:NC n0 H e d co c P C)(g:Sm.ext H H'):NC n0 H' e d co c P C:=N.keep fun _ _ _ _ f=>DW g f
theorem outG.ext {α:Type}{f:α->List AV}{h:Hp}{ys:List α}{v:AV}(c:outG k f h ys v H)(d:Sm.ext H H'):outG k f h ys v H':=by
 obtain⟨y,rfl⟩:=d;exact c.app y
def EmQ (h:Hp)(m:Mo)(v:AV)(H:Hp):Prop:=ext h H/\((GH m≠0/\v=.tup [.agg LW,.agg MZ,.n (GH m)]) \/
 (GH m=0/\∃e g d c f,v=.tup [.agg (OB (nlV e (zP m)) (nlV d (zC m))),.agg [f],.n 0]/\EmO h H m e g d c f))
theorem APR (Y:GOk G)(m:Mo)(T:MoOk m)(h:Hp):ACalls (En G) 39 [.agg (DT m)] h (EmQ h m):=by
 refine acL Tryz.func39 [.cell 2 46,.cell 3 94,.tmp 4] ?_;unfold EmQ;have E:=Ee.mk' h m;refine DC @bxM AUT A2P ?_
 generalize h++[qG 2 [DT m]]++[qG 4 [LW]]++[qG 1 [MZ]]=H0 at E|-
 generalize (h++[qG 2 [DT m]]++[qG 4 [LW]]).length=e at E|-
 generalize (h++[qG 2 [DT m]]).length=c at E|-
 have o2:=E.o2;have o3:=E.o3;have Z:=E.lt;refine AY (ldM E.gm) ?_;refine(U5 G Y m T _).use ?_;cases p:(GH m==0)
 .have C:GH m≠0:=BL p
  simp only[vQ,CQ,NS,↓reduceIte,jC,enP,jQ,bne,p,A5U,A5S,stZ E.g2 rfl,A29 (DF E.g3 (U:e≠c)) rfl];rw[AL3 (ba:=c) (bb:=e) AO AO (eS (DF (CJ E.g2) (U:c≠e)) rfl) (eR (CJ (DF E.g3 (U:e≠c))) rfl)];exact⟨(E.hx.set U _).set U _,.inl ⟨C,AO⟩⟩
 .have C:GH m=0:=BL p
  have M:=VT C;simp only[vQ,CQ,List.append_nil,↓reduceIte,jC,Bool.not_true,enP,bne,p,ldM E.gm];refine(AOX G m T M _).mono ?_;rintro v g ⟨f,B,pb,l,I,P,rfl,F⟩;obtain⟨s1,s2,R,L,d⟩:=A7R g (WX B (zP m)) (WX l (zC m)) F.o3.leaf;have J:=DW d (DW f E.g2);have K:=DW d (DW f E.g3);have V:=(E.hx.trans f).trans d;have S:=f.le;have X:c<(g++[qG 4 [LW]]).length:=by simp;omega
  have Q:=F.nc.ext d;have O:=outG.ext F.o3 d;refine EG AUT A2P s1 s2 ?_
  generalize ((g++[qG 4 [LW]]++[qG 1 [MZ]]).set g.length (qG 4 [OB (nlV B (zP m)) (nlV l (zC m))])).set (g++[qG 4 [LW]]).length (qG 1 [[P]])=H5 at R L J K V Q O|-
  generalize (g++[qG 4 [LW]]).length=b7 at L X|-
  refine xH [(7,2)] BC ?_ ?_
  .refine EG @xS @AGS @ACW @and_true ?_
   omega
  simp only[vQ,QK,KQ,QZ,↓reduceIte,jC,jP,enP,jQ,eS R rfl,eR L rfl,AQN J rfl (WX B (zP m)) (WX l (zC m)),AQM (DF K (U:e≠c)) rfl O.leaf];rw[AL3 (ba:=c) (bb:=e) AO AO (eS (DF (CJ J) (U:c≠e)) rfl) (eR (CJ (DF K (U:e≠c))) rfl)];have A:=E.hx.le;refine⟨(V.set U _).set U _,.inr ⟨C,B,pb,l,I,P,AO,?_,?_⟩⟩
  .exact(Q.keep (H':=(H5.set c (qG 4 [OB (nlV B (zP m)) (nlV l (zC m))])).set e (qG 1 [[P]])) fun b x p _ M=>DF (DF M U) U).base A
  .exact((O.setB (b:=c) U _).setB (b:=e) U _).base A
structure St where
 P:List (List Int)
 C:List (List Int)
 sam:Int
 ill:Int
 ls:List (List Int)
def zS (m:Mo):St:=⟨zP m,zC m,0,0,List.replicate m.pts.length []⟩
def APJ (P:List (List Int)):List Is:=P.map fun x=>⟨.any,x⟩
def cvS (s:St):Cvr:=⟨nm (APJ s.P),APJ s.P,nm (APJ s.C),APJ s.C,s.sam,s.ill⟩
def cvW (s:St):List AV:=[fzG 1 PE (APJ s.P),fzG 1 PE (APJ s.C),.n s.sam,.n s.ill]
theorem A16 (s:St):CvR (.agg (cvW s)) (.agg (encV (cvS s))):=CvR.agg (CvRL.cons WJ (CvRL.cons WJ (CvRL.refl _)))
theorem A19 {e co:Nat}{l c:List Nat}(s:St)(g:NL n0 H e l s.P)(nc:NL n0 H co c s.C)(n d:Nat)(f:n<=n0):FH n H (d+4) (.agg (cvR e s.P co s.C s.sam s.ill))=.agg (cvW s):=by
 show AV.agg [FH n H (d+3) (nlV e s.P),FH n H (d+3) (nlV co s.C),.n s.sam,.n s.ill]=_;rw[g.frz n d f,nc.frz n d f];rfl
theorem hbs {α β:Type}(f:α->β)(l:List α)(k:Nat){h:k<l.length}:(l.take k).map f++[f l[k]]=(l.take (k+1)).map f:=by rw[jV h,qC];rfl
end Go.Proofs.YtiihpnicbekebaaGreatDoor.Xe
namespace Go.Proofs.YtiihpnicbekebaaGreatDoor.Bd.Cl
open Sm Bins Cov Xe Wd Bl Go.RowKit
variable {H:Hp}
abbrev isI (H:Hp)(b:Nat)(xs:List Int):Prop:=H[b]?=some (qG 1 (xs.map qencI))
theorem isI.ix {H:Hp}{b:Nat}{xs:List Int}(h:isI H b xs){n i:Nat}{kk:IntKind}(c:i<n):JD 1 H (.own b 0 n) (.int kk (i:Nat))=some (.ptr b i 0):=by rw[GN h c,jG]
theorem isI.ld {H:Hp}{b:Nat}{xs:List Int}(h:isI H b xs){i:Nat}(c:i<xs.length):BO jA H 3 (.ptr b i 0)=some (.n (xs.getD i 0)):=by
 rw[BK ag3 h (row:=qencI xs[i]) (row_map c),wO,jO c];rfl
theorem isI.st {b:Nat}{xs:List Int}(h:isI H b xs){i:Nat}(c:i<xs.length)(z:Int):D8 jA H 3 (.ptr b i 0) (.n z)=some (H.set b (qG 1 ((xs.set i z).map qencI))):=by
 rw[IJ (cs:=[.n z]) rfl sz3 h (row_map c) (by simp [qencI]),List.map_set];rfl
theorem cR0 (n:Nat):cR [] n=(zK n (0:Int)).map qencI:=by
 apply List.ext_getElem?;intro i;by_cases hi:i<n
 .rw[ZX _ hi,List.getElem?_map,List.getElem?_replicate,if_pos hi];rfl
 .rw[wC (by rw[rK];omega),wC NZ]
theorem mkI (h:Hp)(n:Nat)(c:n<=1048576):I4 jA true h 32 (.n (n:Int)) (.n (n:Int))=some (.own h.length 0 n,h++[qG 1 ((zK n (0:Int)).map qencI)]):=by
 rw[A3W h n c,cR0]
structure KB (B:List Nat) (H H':Hp):Prop where
 len:H.length<=H'.length
 keep:∀(k:Nat) (y:ABlk),H[k]?=some y->k ∉ B->H'[k]?=some y
theorem KB.rfl' (B:List Nat)(H:Hp):KB B H H:=⟨jF _,fun _ _ h _=>h⟩
theorem KB.app {B:List Nat}{H':Hp}(k:KB B H H')(x:ABlk):KB B H (H'++[x]):=⟨by have:=k.len;simp;omega,fun i y q c=>AU (k.keep i y q c)⟩
theorem KB.set {B:List Nat}{H H':Hp}(k:KB B H H'){b:Nat}(d:b∈B)(x:ABlk):KB B H (H'.set b x) :=
 ⟨by rw[qV];exact k.len,fun i y q c=>by rw[zW (fun e=>c (by rw[<-e];exact d))];exact k.keep i y q c⟩
theorem KB.trans {B:List Nat}{c d:Hp}(a:KB B H c)(b:KB B c d):KB B H d:=⟨Nat.le_trans a.len b.len,fun i y q e=>b.keep i y (a.keep i y q e) e⟩
theorem AVY:∀w:Nat,w<=8->IQ jA 3 .shl (.n 1) (.n (w:Nat))=some (.n (2^w))
 | 0,_=>BC
 | 1,_=>BC
 | 2,_=>BC
 | 3,_=>BC
 | 4,_=>BC
 | 5,_=>BC
 | 6,_=>BC
 | 7,_=>BC
 | 8,_=>BC
 | n+9,h=>absurd h U
theorem YU {b:Nat}{p:Pr}(c:H[b]?=some (qG 5 [CW p])):BO jA H 22 (.ptr b 0 0)=some (.sl p.vm 4 (p.vars.map encV)):=by rw[BK Z7 c (row:=CW p) rfl];rfl
theorem AWL (l:List Vr)(n:ByteArray):(l.any (O8 n)) = !decide (plc l n<0):=by
 unfold plc;rw[<-TU,<-decide_not,decide_eq_decide];omega
theorem al9 (h:Hp):IG jA h 9=some (.ptr h.length 0 0,h++[qG 1 [[.str ⟨#[]⟩]]]):=F9 (row:=[.str ⟨#[]⟩]) BC
theorem st9 (h:Hp)(n:ByteArray):D8 jA (h++[qG 1 [[.str ⟨#[]⟩]]]) 9 (.ptr h.length 0 0) (.str n)=some (h++[qG 1 [[.str n]]]):=by
 rw[JU (cs:=[.str n]) (row:=[.str ⟨#[]⟩]) rfl sz9 (AZ _ _) (jF 1),KI];rfl
theorem al79 (h:Hp):IG jA h 79=some (.ptr h.length 0 0,h++[qG 4 [[.n 0,.n 0,.str ⟨#[]⟩,.sl .nil 0 []]]]):=F9 (row:=[.n 0,.n 0,.str ⟨#[]⟩,.sl .nil 0 []]) BC
theorem st79 (h:Hp)(e:Ex):D8 jA (h++[qG 4 [[.n 0,.n 0,.str ⟨#[]⟩,.sl .nil 0 []]]]) 79 (.ptr h.length 0 0) (.agg (AQ e))=some (h++[qG 4 [AQ e]]):=by
 have hle:(AQ e).length=4:=EC _;rw[JU (cs:=AQ e) (row:=[.n 0,.n 0,.str ⟨#[]⟩,.sl .nil 0 []]) (RV (by rw[FK];rfl)) (by rw[hle];exact GZ) (AZ _ _) (by rw[hle];exact jF 4),KI]
 have:splice [.n 0,.n 0,.str ⟨#[]⟩,.sl .nil 0 []] 0 (AQ e)=AQ e:=by
  unfold splice;rw[qA,List.drop_eq_nil_of_le (by rw[hle];exact jF 4)];simp
 rw[this]
section
variable (G:Nat->AV)
theorem A4R (v:Vr)(n:ByteArray)(c:Nat)(h:Hp)(e:h[c]?=some (qG 1 [[.str n]])):PCall (En G) 306 ([.agg (encV v)]++[.ptr c 0 0]) h (.bool (O8 n v)):=by
 refine ACalls.pure0 rfl ?_;refine acT Tryz.func306 3 ?_;have d:(h++[qG 4 [encV v]])[c]?=_:=AU e;refine LC @bxV @encV0 (IL ag9 d) ?_;exact⟨rfl,_,rfl⟩
theorem known_prog (T:GOk G)(p:Pr)(Y:p.vars.length<=1048576)(e:Ex)(P:wt e<=1048576)(h:Hp):PCall (En G) 259 [.agg (CW p),.agg (AQ e)] h (.bool (xpE p.vars e==0)):=by
 refine ACalls.pure0 rfl ?_;refine acT Tryz.func259 4 ?_;have g:=AU (x:=qG 4 [AQ e]) (AZ h (qG 5 [CW p]));have f:=AZ (h++[qG 5 [CW p]]) (qG 4 [AQ e]);have c:ext h (h++[qG 5 [CW p]]++[qG 4 [AQ e]]):=((ext.rfl' h).app _).app _;refine A7 @PZ @bxE ?_
 generalize (h++[qG 5 [CW p]]).length=eb at f|-
 generalize h++[qG 5 [CW p]]++[qG 4 [AQ e]]=H1 at g f c|-
 generalize h.length=pb at g|-
 refine AY (IC f) ?_;refine(PY G T e _ P).use ?_;cases K:(exE e != 0)
 rotate_left
 .have L:exE e≠0:=by simpa [bne] using K
  refine AY K ?_;exact⟨by rw[show xpE p.vars e=exE e from if_pos L];simp [L],c⟩
 have L:exE e=0:=by simpa [bne] using K
 have J:xpE p.vars e=plE p.vars e:=by unfold xpE;rw[if_neg (by simp [L])]
 refine A7 K (IC f) ?_;refine(aC G e P _).use ?_;refine AY @AUQ ?_;refine BH ?_ ?_<;>intro R
 .refine AB ?_
  exact⟨by rw[J];unfold plE;rw[if_pos R];rfl,c⟩
 refine AY (IC f) ?_;refine(dN G e P _).use ?_
 have O:(nmL [2] [] (pre e)).length<=1048576:=by
  have B:=aP [2] (pre e) [];have V:=XX e;simp at B;omega
 have C:=AS1 p.vars e
 generalize nmL [2] [] (pre e)=ns at O C|-
 have E:ns.any (fun n=>decide (plc p.vars n<0)) = !(xpE p.vars e==0):=by
  rw[C,J];unfold plE;rw[R];cases fC p.vars e<;>rfl
 refine AB ?_
 refine BB (fun n F H=>∃i,n+i=ns.length/\(∀x∈ns.take i,decide (plc p.vars x<0)=false)/\F 2=.ptr pb 0 0/\F 17=.sl (nm ns) 1 (ns.map qencStr)/\F 18=.n (ns.length:Nat)/\F 19=.n (i:Nat)/\H[pb]?=some (qG 5 [CW p])/\ext h H) ns.length
  ⟨0,BA,BA,AO,AO,AO,AO,g,c⟩ ?_
 clear g f c;rintro n F H ⟨i,X,N,S,f17,f18,f19,g,c⟩;refine A7 f18 f19 ?_;refine DX ?_ ?_<;>intro d
 .simp only[vQ,CQ,↓reduceIte,jC,enP,bY,jQ,f17,f19,CP d,AZY d,al9,st9]
  have A:(H++[qG 1 [[.str ns[i]]]])[pb]?=_:=AU g;have I:=c.app [qG 1 [[.str ns[i]]]];refine A7 S (YU A) ?_;refine(ALF G p.vars p.vm 306 [.ptr H.length 0 0] (O8 ns[i]) _ U fun x _=>A4R G x ns[i] H.length _ (AZ _ _)).use ?_;refine AY @AWL ?_;refine BH ?_ ?_<;>intro l
  .have l:decide (plc p.vars ns[i]<0)=true:=BL l
   refine AB ?_;refine⟨?_,I⟩;have:ns.any (fun n=>decide (plc p.vars n<0))=true:=List.any_eq_true.2 ⟨_,jH d,l⟩;rw[E] at this
   cases Q:(xpE p.vars e==0)<;>rw[Q] at this<;>first|rfl|cases this
  .have l:decide (plc p.vars ns[i]<0)=false:=BL l
   refine A7 f19 (C9 i) ?_;refine⟨n-1,U,i+1,U,fun x M=>?_,AC,AC,AC,rfl,A,I⟩;rw[jV d] at M;rcases List.mem_append.1 M with B|B
   .exact N x B
   .rw[List.mem_singleton.1 B];exact l
 .rw[jK U] at N
  refine AB ?_;refine⟨?_,c⟩;have:ns.any (fun n=>decide (plc p.vars n<0))=false:=List.any_eq_false.2 fun x M=>by rw[N x M];simp
  rw[E] at this
  cases Q:(xpE p.vars e==0)<;>rw[Q] at this<;>first|rfl|cases this
theorem AY9 (p:Pr)(hs:PrS p)(a:List Int)(b:Nat)(S:a.length=p.vars.length)(h:Hp)(Z:isI h b a):ACalls (En G) 72 [.agg (CW p),.own b 0 a.length] h fun v H=>ext h H/\outG 2 FV h (L6 p.vars a) v H:=by
 have a2:=hs.vars;have a0:=TW S;refine IK (H:=hint [31] []) (enM G) Tryz.func72 rfl (by kernel_rfl) (by kernel_rfl) (jB (by kernel_rfl)) ?_;show awp _ _ _ _ _ (ML _ [.tmp 4] _);have J:=AZ h (qG 5 [CW p]);have l:isI (h++[qG 5 [CW p]]) b a:=AU Z;have T:=Sm.ext.r1 h (qG 5 [CW p]);have R:h.length<=(h++[qG 5 [CW p]]).length:=BA;refine AY @PZ ?_
 generalize h++[qG 5 [CW p]]=H0 at J l T R|-
 generalize a1:h.length=pb at J R|-
 have N:∀ {H:Hp},Sm.ext H0 H->BO jA H 22 (.ptr pb 0 0)=some (.sl p.vm 4 (p.vars.map encV)):=fun q=>YU (DW q J)
 have K:(((a.length:Nat):Int) != ((p.vars.length:Nat):Int))=false:=by rw[S];simp
 refine A7 (N (ext.rfl' H0)) K ?_
 refine BB (fun n F H=>∃i u,n+i=p.vars.length/\F 1=.own b 0 a.length/\F 2=.ptr pb 0 0/\F 5=u/\F 15=.sl p.vm 4 (p.vars.map encV)/\F 16=.n (p.vars.length:Nat)/\F 17=.n (i:Nat)/\ext H0 H/\outG 2 FV H0 ((L6 p.vars a).take i) u H) p.vars.length
  ⟨0,.sl .nil 0 [],BA,AO,AO,AO,AO,AO,AO,ext.rfl' _,outG.nil _ _ _ _⟩ ?_
 rintro n F H ⟨i,u,hi,V,f2,O,f15,f16,f17,I,L⟩;refine A7 f16 f17 ?_;refine DX (fun g=>?_) (fun e=>?_)
 .have e:i<a.length:=U
  have B:i<(L6 p.vars a).length:=U;have f:=I.app [qG 4 [encV p.vars[i]]];have E:=L.app [qG 4 [encV p.vars[i]]];have Q:=AZ H (qG 4 [encV p.vars[i]]);simp only[vQ,jZ,jS,jU,zN,CQ,↓reduceIte,jC,enP,bM,jQ,f15,f17,CP g,ldV g,Bd.al61,Bd.st61]
  generalize X:H++[qG 4 [encV p.vars[i]]]=H1 at f E Q|-
  obtain⟨v',H',Y,C,_,M,_,_⟩:=E.append (P:=jA) AZK BC AZF A0D U (by rw[jR];omega) f (p.vars[i].name,a[i]);rw[<-bB g e B,<-jV B] at C;have ln:BO jA H1 9 (.ptr H.length 0 0)=some (.str p.vars[i].name):=by rw[BK ag9 Q (row:=encV p.vars[i]) rfl];rfl
  have A:isI H1 b a:=DW f l;have la:BO jA H1 3 (.ptr b i 0)=some (.n a[i]):=by rw[A.ld e,wO,jO e];rfl
  refine DR BC ?_;simp only[vQ,jZ,jS,jU,zN,KQ,XN,JF,JE,CQ,NS,↓reduceIte,jC,jP,enP,LJ,VV,V,O,A.ix (show i<a.length from e),ln,la,A5P,A5H,Y,f17,C9 i];exact⟨n-1,U,i+1,v',U,AC,AC,AC,AC,AC,AC,M,C⟩
 .rw[jK U] at L
  refine AY O ?_;refine⟨T.trans I,?_⟩;rcases L with⟨a,b⟩|⟨a,o,b,c,d⟩
  .exact .inl ⟨a,b⟩
  .exact .inr ⟨a,o,U,c,d⟩
end
def fdr (p:Pr)(d:SM)(l:List Ex)(c n:Nat)(e:Bool)(f:Int):List AV:=[.sl p.vm 4 (p.vars.map encV),.sl p.hm 4 (p.hard.map AQ),.sl p.sm 4 (p.soft.map AQ),.sl p.dm 2 (p.dists.map IY),.sl p.gm 1 (p.groups.map TZ),.sl d 4 (l.map AQ),.own c 0 n,.bool e,.n f]
abbrev isF (H:Hp)(fb:Nat)(p:Pr)(lm:SM)(l:List Ex)(ab n:Nat)(ov:Bool)(st:Int):Prop:=H[fb]?=some (qG 9 [fdr p lm l ab n ov st])
section
variable {H:Hp} {fb:Nat} {p:Pr} {lm:SM} {l:List Ex} {ab n:Nat} {ov:Bool} {st:Int}
theorem isF.vs (h:isF H fb p lm l ab n ov st):BO jA H 22 (.ptr fb 0 0)=some (.sl p.vm 4 (p.vars.map encV)):=by rw[BK Z7 h rfl];rfl
theorem isF.pr (h:isF H fb p lm l ab n ov st):BO jA H 27 (.ptr fb 0 0)=some (.agg (CW p)):=by rw[EN fU cH h rfl (by show 0+5<=9;omega)];rfl
theorem isF.es (h:isF H fb p lm l ab n ov st):BO jA H 23 (.ptr fb 0 5)=some (.sl lm 4 (l.map AQ)):=by rw[BK LU h rfl];rfl
theorem isF.as (h:isF H fb p lm l ab n ov st):BO jA H 32 (.ptr fb 0 6)=some (.own ab 0 n):=by rw[BK O4 h rfl];rfl
theorem isF.ovd (h:isF H fb p lm l ab n ov st):BO jA H 4 (.ptr fb 0 7)=some (.bool ov):=by rw[BK ag4 h rfl];rfl
theorem isF.std (h:isF H fb p lm l ab n ov st):BO jA H 3 (.ptr fb 0 8)=some (.n st):=by rw[BK ag3 h rfl];rfl
theorem isF.setSt (h:isF H fb p lm l ab n ov st)(z:Int):D8 jA H 3 (.ptr fb 0 8) (.n z)=some (H.set fb (qG 9 [fdr p lm l ab n ov z])):=by
 rw[JU (cs:=[.n z]) rfl sz3 h (by show 8+1<=9;omega)];rfl
theorem isF.setOv (h:isF H fb p lm l ab n ov st)(z:Bool):D8 jA H 4 (.ptr fb 0 7) (.bool z)=some (H.set fb (qG 9 [fdr p lm l ab n z st])):=by
 rw[JU (cs:=[.bool z]) rfl sz4 h (by show 7+1<=9;omega)];rfl
end
section
variable (G:Nat->AV)
theorem ABT (p:Pr)(hs:PrS p)(P:PV p)(lm:SM)(l:List Ex)(st:Int)(a:List Int)(ok:AOk p a)(fb ab:Nat)(S:fb≠ab)(h:Hp)(g:isF h fb p lm l ab a.length false st)(hb:isI h ab a):
  ACalls (En G) 260 [.ptr fb 0 0] h fun _ H=>KB [fb,ab] h H/\match nxK p.vars p.vars.length a with
  | some C=>isF H fb p lm l ab a.length false st/\isI H ab C
  | none=>isF H fb p lm l ab a.length true st/\∃C,C.length=a.length/\isI H ab C:=by
 generalize hO:nxK p.vars p.vars.length a=O;have a7:=hs.vars;refine acL Tryz.func260 [] ?_;have Y:a.length=p.vars.length:=ok.len;have z1:IntKind.i64.wrap (((a.length:Nat):Int)-1)=((a.length:Nat):Int)-1:=wrap_i64 U U;refine DC @X7 @g.as z1 ?_;refine EK 0 (fun F H=>KB [fb,ab] h H/\O=none/\F 0=.ptr fb 0 0/\isF H fb p lm l ab a.length false st/\∃C,C.length=a.length/\isI H ab C) (fun F H=>KB [fb,ab] h H/\∃C,O=some C/\isF H fb p lm l ab a.length false st/\isI H ab C) ?_ ?_ ?_
 .refine BB (fun n F H=>∃k c,n=k/\k<=p.vars.length/\AOk p c/\nxK p.vars k c=O/\KB [fb,ab] h H/\isI H ab c/\isF H fb p lm l ab a.length false st/\F 0=.ptr fb 0 0/\F 2=.n (((k:Nat):Int)-1)) p.vars.length
   ⟨p.vars.length,a,rfl,jF _,ok,hO,KB.rfl' _ _,hb,g,AO,by refine AB ?_;rw[Y]⟩ ?_
  clear hb g;rintro n F H ⟨k,c,rfl,a6,d,A,T,M,g,X,N⟩;have ec:decide (((n:Nat):Int)-1≥0)=decide (1<=n):=by rw[decide_eq_decide];omega
  refine A7 N ec ?_;refine BH ?_ ?_<;>intro hc
  .have h1:1<=n:=BL hc
   obtain⟨i,rfl⟩:∃i,n=i+1:=⟨n-1,U⟩;have I:i<p.vars.length:=U;have E:i<c.length:=by rw[d.len];exact I
   have R:i<a.length:=U;have ei:((((i+1:Nat):Int))-1)=((i:Nat):Int):=U;rw[ei] at N;unfold nxK at A;simp only[jO I] at A;obtain⟨_,w1,w8,_⟩:=U2 (P.vr _ (jH I));have a3:∀H:Hp,BO jA H 3 (.fptr 4 (p.vars.map encV) i 2)=some (.n p.vars[i].mode):=fun H=>by rw[BR ag3 I];rfl
   have zi:IntKind.i64.wrap (((i:Nat):Int)-1)=((i:Nat):Int)-1:=wrap_i64 U U;refine V8 @AA0 X N @g.vs I a3 ?_;refine BH ?_ ?_<;>intro L
   .have L:p.vars[i].mode=0:=BL L
    rw[if_pos L] at A;refine A7 N zi ?_;exact⟨i,U,i,c,rfl,U,d,A,T,M,g,AC,AC⟩
   .have L:¬p.vars[i].mode=0:=BL L
    rw[if_neg L] at A;obtain⟨q0,q1⟩:=d.rn i I L;obtain⟨r0,r1⟩:=d.rng P i I;have zz:IntKind.i64.wrap (c.getD i 0+1)=c.getD i 0+1:=wrap_i64 U U;have a4:=M.st (i:=i) E (c.getD i 0+1);have f:isI (H.set ab (qG 1 ((c.set i (c.getD i 0+1)).map qencI))) ab (c.set i (c.getD i 0+1)):=CJ M;have B:isF (H.set ab (qG 1 ((c.set i (c.getD i 0+1)).map qencI))) fb p lm l ab a.length false st:=by unfold isF;rw[zW (Ne.symm S)];exact g
    have k2:KB [fb,ab] h (H.set ab (qG 1 ((c.set i (c.getD i 0+1)).map qencI))):=T.set BA _;obtain⟨w,hw⟩:=Int.eq_ofNat_of_zero_le (U:0<=p.vars[i].width);have lw:∀H:Hp,BO jA H 3 (.fptr 4 (p.vars.map encV) i 1)=some (.n (w:Nat)):=fun H=>by rw[BR ag3 I];show some (AV.int .i64 p.vars[i].width)=_;rw[hw]
    rw[hw,Int.toNat_natCast] at A q1;refine aA @X7 X N @g.as @M.ix R @M.ld E zz a4 ?_
    generalize H.set ab (qG 1 ((c.set i (c.getD i 0+1)).map qencI))=H1 at f B k2|-
    have K:i<(c.set i (c.getD i 0+1)).length:=by rw[qV];exact E
    have ld1:=f.ld (i:=i) K;rw[Bl.getD_set_eq E] at ld1;refine DR BC ?_;simp only[vQ,↓reduceIte,jC,jP,enP,bM,iK,LJ,VU,AA0,X7,XO,XM,eK,X,N,B.as,f.ix R,ld1,B.vs,CP I,lw,AVY w U];refine BH ?_ ?_<;>intro Q
    .have Q:c.getD i 0+1<2^w:=BL Q
     rw[if_pos Q] at A;refine AB ?_;exact⟨k2,_,A.symm,B,f⟩
    .have Q:¬c.getD i 0+1<2^w:=fun q=>by rw[decide_eq_true q] at Q;cases Q
     rw[if_neg Q] at A;have Z:=f.st (i:=i) K 0;rw[List.set_set] at Z;have a5:isI (H1.set ab (qG 1 ((c.set i 0).map qencI))) ab (c.set i 0):=CJ f;have a1:isF (H1.set ab (qG 1 ((c.set i 0).map qencI))) fb p lm l ab a.length false st:=by unfold isF;rw[zW (Ne.symm S)];exact B
     have a2:(0:Int)<2^p.vars[i].width.toNat:=Int.pow_pos DU
     have V:AOk p (c.set i 0):=by
      refine⟨by rw[qV];exact d.len,fun j hj J=>?_,fun j hj J=>?_⟩
      .by_cases e:j=i
       .subst e;exact absurd J L
       .rw[Bl.getD_set_ne (fun q=>e q.symm)];exact d.st j hj J
      .by_cases e:j=i
       .subst e;rw[Bl.getD_set_eq E];exact⟨Int.le_refl 0,a2⟩
       .rw[Bl.getD_set_ne (fun q=>e q.symm)];exact d.rn j hj J
     refine OZ @X7 X N @B.as @f.ix R Z zi ?_;exact⟨i,U,i,c.set i 0,rfl,U,V,A,k2.set BA _,a5,a1,AC,AC⟩
  .have h1:¬1<=n:=fun q=>by rw[decide_eq_true q] at hc;cases hc
   obtain rfl:n=0:=U;have A:none=O:=A;refine AB ?_;exact⟨T,A.symm,AC,g,c,by rw[d.len,Y],M⟩
 .rintro F H ⟨T,ho,X,g,c,a0,M⟩
  refine EG @pU @mM X @g.setOv ?_;refine⟨T.set BA _,?_⟩;rw[ho];exact⟨CJ g,c,a0,by unfold isI;rw[zW S];exact M⟩
 .rintro F H ⟨T,C,ho,g,q⟩
  refine AY @A10 ?_;refine⟨T,?_⟩;rw[ho];exact⟨g,q⟩
theorem AJA (hG:GOk G)(p:Pr)(hs:PrS p)(hv:JS p=0)(lm:SM)(l:List Ex)(hl:l.length<=1048576)(hw:∀e∈l,wt e<=1048576)(hk:∀e∈l,xpE p.vars e=0)(h:Hp):
  ACalls (En G) 182 [.agg (CW p),.sl lm 4 (l.map AQ),.n 262144] h fun v H=>ext h H/\∃fb ab,h.length<=fb/\h.length<=ab/\fb≠ab/\v=.tup [.ptr fb 0 0,.n 0]/\isF H fb p lm l ab p.vars.length false 262144/\isI H ab (NM p):=by
 have P:=PV.of hv;have O:=hs.vars;refine IK (H:=hint [40] []) (enM G) Tryz.func182 rfl (by kernel_rfl) (by kernel_rfl) (jB (by kernel_rfl)) ?_;show awp _ _ _ _ _ (ML _ [.tmp 6,.tmp 7] _);have d:=AZ h (qG 5 [CW p]);have c:=Sm.ext.r1 h (qG 5 [CW p]);have E:h.length<(h++[qG 5 [CW p]]).length:=BA;have ldP:∀ {H:Hp},H[h.length]?=some (qG 5 [CW p])->BO jA H 27 (.ptr h.length 0 0)=some (.agg (CW p)):=fun q=>by rw[EN fU cH q (row:=CW p) rfl (by rw[MG];exact jF 5)];rfl
 refine A7 @AMF @PZ ?_
 generalize h++[qG 5 [CW p]]=H0 at d c E|-
 refine AY (ldP d) ?_;refine(Bd.valid_prog G hG p hs H0).use ?_;have b0:(JS p != 0)=false:=by rw[hv];rfl
 refine DC b0 (show decide ((262144:Int)<0)=false by decide) (show decide ((262144:Int)>262144)=false by decide) ?_;refine EK 0 (fun F H=>ext h H/\H[h.length]?=some (qG 5 [CW p])/\F 1=.sl lm 4 (l.map AQ)/\F 2=.n 262144/\F 3=.ptr h.length 0 0) (fun F H=>False) ?_ ?_ (fun _ _ q=>q.elim)
 .refine BB (fun n F H=>∃i,n+i=l.length/\ext h H/\H[h.length]?=some (qG 5 [CW p])/\F 1=.sl lm 4 (l.map AQ)/\F 2=.n 262144/\F 3=.ptr h.length 0 0/\F 24=.sl lm 4 (l.map AQ)/\F 25=.n (l.length:Nat)/\F 26=.n (i:Nat)) l.length
   ⟨0,BA,c,d,AO,AO,AO,AO,AO,AO⟩ ?_
  clear c d E;rintro n F H ⟨i,J,c,d,Q,R,K,S,T,C⟩;refine A7 T C ?_;refine BH ?_ ?_<;>intro hc
  .have B:i<l.length:=BL hc
   have gE:=AZ H (qG 4 [AQ l[i]]);have d:=AU (x:=qG 4 [AQ l[i]]) d;have c:=c.app [qG 4 [AQ l[i]]];simp only[vQ,jZ,jS,jU,zN,CQ,↓reduceIte,jC,enP,PU,jQ,S,C,CP B,DL NI GZ EC B,al79,st79]
   generalize H++[qG 4 [AQ l[i]]]=H1 at d c gE|-
   refine DC K (ldP d) (IC gE) ?_;refine(known_prog G hG p O l[i] (hw _ (jH B)) H1).use ?_;have b1:(xpE p.vars l[i]==0)=true:=by rw[hk _ (jH B)];rfl
   refine DC b1 C (C9 i) ?_;exact⟨n-1,U,i+1,U,c,d,AC,AC,AC,AC,AC,AC⟩
  .refine AB ?_
   exact⟨c,d,AC,AC,AC⟩
 clear c d E;rintro F H ⟨c,d,Q,R,K⟩;have Z:=AX d;have a2:=c.le;have bd:∀ab:Nat,JC jA 249 [(0,.agg (CW p)),(1,.sl lm 4 (l.map AQ)),(2,.own ab 0 p.vars.length),(4,.n 262144)]=some (.agg (fdr p lm l ab p.vars.length false 262144)):=fun ab=>BC
 have bx:∀(H:Hp) (ab:Nat),OU H (.agg (fdr p lm l ab p.vars.length false 262144))=some (.ptr H.length 0 0,H++[qG 9 [fdr p lm l ab p.vars.length false 262144]]):=fun H ab=>rfl
 refine AB ?_;refine DR BC ?_;refine aA @A2V @YX Q R K (ldP d) (YU d) (mkI H p.vars.length O) bd bx ?_;have f:isI (H++[qG 1 ((zK p.vars.length (0:Int)).map qencI)]) H.length (zK p.vars.length 0):=AZ _ _;have f:=AU (x:=qG 9 [fdr p lm l H.length p.vars.length false 262144]) f;have d:=AU (x:=qG 9 [fdr p lm l H.length p.vars.length false 262144]) (AU (x:=qG 1 ((zK p.vars.length (0:Int)).map qencI)) d);have c:=(c.app [qG 1 ((zK p.vars.length (0:Int)).map qencI)]).app [qG 9 [fdr p lm l H.length p.vars.length false 262144]];have g:isF (H++[qG 1 ((zK p.vars.length (0:Int)).map qencI)]++[qG 9 [fdr p lm l H.length p.vars.length false 262144]]) (H++[qG 1 ((zK p.vars.length (0:Int)).map qencI)]).length p lm l H.length p.vars.length false 262144:=AZ _ _;have a1:(H++[qG 1 ((zK p.vars.length (0:Int)).map qencI)]).length=H.length+1:=BA
 generalize H++[qG 1 ((zK p.vars.length (0:Int)).map qencI)]++[qG 9 [fdr p lm l H.length p.vars.length false 262144]]=X at f d c g|-
 rw[a1] at g|-
 generalize H.length=ob at f g Z a2|-
 refine A7 K (YU d) ?_
 refine BB (fun n F H=>∃i,n+i=p.vars.length/\isI H ob ((p.vars.map Vr.value).take i++zK (p.vars.length-i) 0)/\isF H (ob+1) p lm l ob p.vars.length false 262144/\ext h H/\F 10=.ptr (ob+1) 0 0/\F 45=.sl p.vm 4 (p.vars.map encV)/\F 46=.n (p.vars.length:Nat)/\F 47=.n (i:Nat)) p.vars.length
  ⟨0,rfl,by rw[qA,List.nil_append];exact f,g,c,AO,AO,AO,AO⟩ ?_
 clear f d c g Q R K;rintro n F H ⟨i,hn,f,g,c,f10,V,Y,A⟩;refine A7 Y A ?_;refine DX (fun J=>?_) (fun a3=>?_)
 .have L:i<(p.vars.map Vr.value).length:=by rw[jI];exact J
  have qv:=AZ H (qG 4 [encV p.vars[i]]);have f:isI (H++[qG 4 [encV p.vars[i]]]) ob ((p.vars.map Vr.value).take i++zK (p.vars.length-i) 0):=AU f;have g:isF (H++[qG 4 [encV p.vars[i]]]) (ob+1) p lm l ob p.vars.length false 262144:=AU g;have c:=c.app [qG 4 [encV p.vars[i]]];have a0:((p.vars.map Vr.value).take i).length=i:=by rw[jR];omega
  have N:=f.st (i:=i) NZ p.vars[i].value
  have M:((p.vars.map Vr.value).take i++zK (p.vars.length-i) 0).set i p.vars[i].value=(p.vars.map Vr.value).take (i+1)++zK (p.vars.length-(i+1)) 0:=by
   rw[List.set_append_right _ _ U,a0,Nat.sub_self,show p.vars.length-i=(p.vars.length-(i+1))+1 by omega,List.replicate_succ,List.set_cons_zero,jV L,List.getElem_map,zD];rfl
  rw[M] at N;have l2:BO jA (H++[qG 4 [encV p.vars[i]]]) 3 (.ptr H.length 0 2)=some (.n p.vars[i].mode):=by rw[BK ag3 qv rfl];rfl
  have l3:BO jA (H++[qG 4 [encV p.vars[i]]]) 3 (.ptr H.length 0 3)=some (.n p.vars[i].value):=by rw[BK ag3 qv rfl];rfl
  simp only[vQ,jZ,jS,jU,zN,CQ,↓reduceIte,jC,enP,bM,X8,jQ,V,A,CP J,ldV J,Bd.al61,Bd.st61,l2];refine BH ?_ ?_<;>intro hm
  .refine DR BC ?_
   simp only[vQ,jZ,jS,jU,zN,QK,QZ,CQ,↓reduceIte,jC,jP,enP,LJ,aZ,X7,jQ,XO,XM,eK,f10,A,l3,g.as,f.ix J,N,C9 i];exact⟨n-1,U,i+1,U,CJ f,by unfold isF;rw[zW U];exact g,c.set U _,AC,AC,AC,AC⟩
  .have hm:p.vars[i].mode≠0:=BL hm
   obtain⟨_,_,_,_,_,_,_,v0⟩:=U2 (P.vr _ (jH J))
   have I:(p.vars.map Vr.value).take (i+1)++zK (p.vars.length-(i+1)) 0=(p.vars.map Vr.value).take i++zK (p.vars.length-i) 0:=by
    rw[jV L,List.getElem_map,v0 hm,zD,show p.vars.length-i=(p.vars.length-(i+1))+1 by omega,List.replicate_succ];rfl
   refine A7 A (C9 i) ?_;exact⟨n-1,U,i+1,U,by rw[I];exact f,g,c,AC,AC,AC,AC⟩
 .rw[jK (by rw[jI];omega),show p.vars.length-i=0 by omega,List.replicate_zero,List.append_nil] at f
  refine AY f10 ?_;exact⟨c,ob+1,ob,U,U,U,AC,g,f⟩
end
end Go.Proofs.YtiihpnicbekebaaGreatDoor.Bd.Cl
namespace Go.Proofs.YtiihpnicbekebaaGreatDoor.Cov
open Sm Bins Go.RowKit
variable {ns:List Nat} {l:List Int} (G:Nat->AV )
def ixV (ns:List Nat)(l:List Int):Int:=if J6 ns l=true then cW ns l 0 else 0
theorem ALE (h:l.length≠ns.length):J6 ns l=false:=by
 cases e:J6 ns l
 .rfl
 .exact absurd (TS e).symm h
theorem vM {k:Nat}(hk:k<l.length)(c:k<ns.length):J6 (ns.drop k) (l.drop k)=(decide (0<=l[k])&&decide (l[k]<(ns[k]:Int))&&J6 (ns.drop (k+1)) (l.drop (k+1))):=by
 rw[zX hk,zX c];rfl
theorem AEI {k:Nat}(hk:l.length<=k)(c:ns.length<=k):J6 (ns.drop k) (l.drop k)=true:=by
 rw[jY hk,jY c];rfl
theorem AG1 (m:Mo)(z:Int)(e:z<0\/(m.crs.length:Int)<=z)(h:Hp):PCall (En G) 145 [.agg (DT m),.n z] h (.bool false):=by
 refine ACalls.pure0 rfl ?_;refine acT Tryz.func145 4 ?_;refine AY @bxM ?_;cases c:decide (z<0)
 .have d:decide (z≥(m.crs.length:Int))=true:=by rw[decide_eq_true_eq];rw[decide_eq_false_iff_not] at c;omega
  refine LC sD @ZV d ?_;exact⟨trivial,_,rfl⟩
 .refine AB ?_
  exact⟨trivial,_,rfl⟩
theorem nF (m:Mo)(z:Int)(e:z<0\/(m.crs.length:Int)<=z)(h:Hp):PCall (En G) 198 [.agg (DT m),.n z] h (.bool false):=by
 refine ACalls.pure0 rfl ?_;refine acT Tryz.func198 4 ?_;refine AY @bxM ?_;cases c:decide (z<0)
 .have d:decide (z≥(m.crs.length:Int))=true:=by rw[decide_eq_true_eq];rw[decide_eq_false_iff_not] at c;omega
  refine LC sD @ZV d ?_;exact⟨trivial,_,rfl⟩
 .refine AB ?_
  exact⟨trivial,_,rfl⟩
theorem oW (m:Mo)(z:Int)(c:z<0\/(m.crs.length:Int)<=z)(l:List Int)(s:SM)(h:Hp):PCall (En G) 71 [.agg (DT m),.n z,.sl s 1 (l.map qencI)] h (.tup [.n 0,.bool false]):=by
 refine ACalls.pure 2 (R:=fun v H=>v=.tup [.n 0,.bool false]/\∃x,H=h++x) ?_ (fun v d ⟨e,x⟩=>⟨x,by subst e;rfl⟩);refine acL Tryz.func71 [.tmp 6,.tmp 7] ?_;refine A7 @bxM (ldM (AZ h (qG 2 [DT m]))) ?_;refine(AG1 G m z c _).uu ?_;exact⟨trivial,_,rfl⟩
theorem tI (m:Mo)(z:Int)(c:z<0\/(m.crs.length:Int)<=z)(l:List Int)(s:SM)(h:Hp):PCall (En G) 110 [.agg (DT m),.n z,.sl s 1 (l.map qencI)] h (.tup [.n 0,.bool false]):=by
 refine ACalls.pure 2 (R:=fun v H=>v=.tup [.n 0,.bool false]/\∃x,H=h++x) ?_ (fun v d ⟨e,x⟩=>⟨x,by subst e;rfl⟩);refine acL Tryz.func110 [.tmp 6,.tmp 7] ?_;refine A7 @bxM (ldM (AZ h (qG 2 [DT m]))) ?_;refine(nF G m z c _).uu ?_;exact⟨trivial,_,rfl⟩
theorem oX (m:Mo)(i:Nat)(V:i<m.crs.length)(T:CrGood m m.crs[i])(l:List Int)(s:SM)(Y:l.length<=1048576)(h:Hp):PCall (En G) 71 [.agg (DT m),.n (i:Int),.sl s 1 (l.map qencI)] h (.tup [.n (ixV (szs m m.crs[i].pts) l),.bool (J6 (szs m m.crs[i].pts) l)]):=by
 refine ACalls.pure 2 (R:=fun v H=>v=.tup [.n (ixV (szs m m.crs[i].pts) l),.bool (J6 (szs m m.crs[i].pts) l)]/\∃x,H=h++x) ?_ (fun v X ⟨e,x⟩=>⟨x,by subst e;rfl⟩);have M:∃x,h++[qG 2 [DT m]]=h++x:=⟨_,rfl⟩;refine acL Tryz.func71 [.tmp 6,.tmp 7] ?_;refine A7 @bxM (ldM (AZ h (qG 2 [DT m]))) ?_;refine(kN G m i V T _).use ?_;refine AY (ldM (AZ h (qG 2 [DT m]))) ?_;refine(fO G m i V T _).use ?_;generalize szs m m.crs[i].pts=ns;rcases Classical.em (l.length=ns.length) with g|g
 case inr =>
  have C:((l.length:Int) != (ns.length:Int))=true:=by simp;omega
  have S:=ALE g;have E:ixV ns l=0:=by unfold ixV;rw[S];rfl
  refine AY C ?_;exact⟨by rw[S,E],M⟩
 have C:((l.length:Int) != (ns.length:Int))=false:=by rw[g];simp
 refine AY C ?_;refine BB (fun n F H=>∃k,n+k=l.length/\F 8=.sl .any 1 (ns.map O3)/\(∃z,F 9=.n z/\cW ns l 0=cW (ns.drop k) (l.drop k) z)/\F 24=.sl s 1 (l.map qencI)/\F 25=.n l.length/\F 26=.n (k:Nat)/\H=h++[qG 2 [DT m]]/\J6 ns l=J6 (ns.drop k) (l.drop k)) l.length ⟨0,BA,AO,⟨0,rfl,rfl⟩,AO,AO,AO,rfl,rfl⟩ ?_;rintro n F H ⟨k,hk,Q,⟨z,L,N⟩,B,J,A,rfl,c⟩;refine A7 J A ?_;refine DX ?_ ?_<;>intro d
 .have f:k<ns.length:=U
  rw[vM d f] at c;rw[zX d,zX f] at N;cases I:decide (l[k]<0)
  .have O:decide (0<=l[k])=true:=by rw[decide_eq_true_eq];rw[decide_eq_false_iff_not] at I;omega
   cases K:decide (l[k]≥(ns[k]:Int))
   .have P:decide (l[k]<(ns[k]:Int))=true:=by rw[decide_eq_true_eq];rw[decide_eq_false_iff_not] at K;omega
    rw[O,P,qZ,qZ] at c;simp only[vQ,EP,CQ,YF,↓reduceIte,jC,enP,LJ,Q,L,B,A,CP d,BR ag3 d,encI0,I,CP f,BR ag3 f,AE9,K,C9 k];exact⟨n-1,U,k+1,U,trivial,⟨_,rfl,N⟩,trivial,J,rfl,trivial,c⟩
   .have P:decide (l[k]<(ns[k]:Int))=false:=by rw[decide_eq_false_iff_not];rw[decide_eq_true_eq] at K;omega
    rw[P,Bool.and_false,wK] at c;have E:ixV ns l=0:=by unfold ixV;rw[c];rfl
    refine aA Q L B A d @encI0 I f @AE9 K ?_;exact⟨by rw[c,E],M⟩
  .have O:decide (0<=l[k])=false:=by rw[decide_eq_false_iff_not];rw[decide_eq_true_eq] at I;omega
   rw[O,wK,wK] at c;have E:ixV ns l=0:=by unfold ixV;rw[c];rfl
   refine KZ Q L B A d @encI0 I ?_;exact⟨by rw[c,E],M⟩
 .rw[AEI U U] at c
  rw[jY (U:l.length<=k),eW] at N;have E:ixV ns l=z:=by unfold ixV;rw[if_pos c,N]
  refine AY L ?_;exact⟨by rw[c,E],M⟩
theorem tJ (m:Mo)(i:Nat)(C:i<m.crs.length)(hg:CrGood m m.crs[i])(l:List Int)(s:SM)(hn:l.length<=1048576)(h:Hp):PCall (En G) 110 [.agg (DT m),.n (i:Int),.sl s 1 (l.map qencI)] h (.tup [.n (ixV (szs m m.crs[i].pts) l),.bool (J6 (szs m m.crs[i].pts) l)]):=by
 have X:=PQ m m.crs[i].pts;have f:=mG m m.crs[i].pts;refine ACalls.pure 2 (R:=fun v H=>v=.tup [.n (ixV (szs m m.crs[i].pts) l),.bool (J6 (szs m m.crs[i].pts) l)]/\∃x,H=h++x) ?_ (fun v h' ⟨e,x⟩=>⟨x,by subst e;rfl⟩);have J:=AZ h (qG 2 [DT m]);have M:∃x,h++[qG 2 [DT m]]=h++x:=⟨_,rfl⟩;refine acL Tryz.func110 [.tmp 6,.tmp 7] ?_;refine A7 @bxM (ldM J) ?_;refine(nG G m i C hg _).use ?_;rcases Classical.em (l.length=m.crs[i].pts.length) with g|g
 case inr =>
  have A:((l.length:Int) != (m.crs[i].pts.length:Int))=true:=by simp;omega
  have hb:J6 (szs m m.crs[i].pts) l=false:=ALE U;have B:ixV (szs m m.crs[i].pts) l=0:=by unfold ixV;rw[hb];rfl
  simp only[vQ,pT,EP,CQ,nA,WA,↓reduceIte,jC,qN,enP,WI,NW,YT,NF,cV J,CP C,BR O4 C,VY,jI,A];exact⟨by rw[hb,B],M⟩
 have A:((l.length:Int) != (m.crs[i].pts.length:Int))=false:=by rw[g];simp
 simp only[vQ,EP,CQ,nA,WA,↓reduceIte,jC,qN,enP,WI,NW,YT,NF,cV J,CP C,BR O4 C,VY,jI,A]
 generalize h++[qG 2 [DT m]]=H at J M|-
 generalize szs m m.crs[i].pts=ns at X f|-
 refine BB (fun n F H'=>∃k,n+k=l.length/\F 1=.n (i:Nat)/\F 2=.sl s 1 (l.map qencI)/\F 3=.ptr h.length 0 0/\(∃z,F 8=.n z/\cW ns l 0=cW (ns.drop k) (l.drop k) z)/\F 9=.n (k:Nat)/\H'=H/\J6 ns l=J6 (ns.drop k) (l.drop k)) l.length ⟨0,BA,by simp only[vQ,↓reduceIte,jC],by simp only[vQ,↓reduceIte,jC],by simp only[A8,↓reduceIte,jC],⟨0,rfl,rfl⟩,by simp only[A8,↓reduceIte];rfl,rfl,rfl⟩ ?_;rintro n F H' ⟨k,hk,Y,O,Z,⟨z,P,Q⟩,I,rfl,c⟩;refine A7 O I ?_;refine DX ?_ ?_<;>intro d
 .have L:k<ns.length:=U
  have K:k<m.crs[i].pts.length:=U;have V:ns[k]=(JL m m.crs[i].pts[k]).length:=H8 (f k K);rw[vM d L] at c;rw[zX d,zX L] at Q;refine EG Y Z I (ldM J) ?_;refine(rQ G m i C hg k K _).use ?_;rw[<-V];cases E:decide (l[k]<0)
  .have S:decide (0<=l[k])=true:=by rw[decide_eq_true_eq];rw[decide_eq_false_iff_not] at E;omega
   cases N:decide (l[k]≥(ns[k]:Int))
   .have T:decide (l[k]<(ns[k]:Int))=true:=by rw[decide_eq_true_eq];rw[decide_eq_false_iff_not] at N;omega
    rw[S,T,qZ,qZ] at c;simp only[vQ,EP,CQ,YF,↓reduceIte,jC,enP,LJ,O,P,I,CP d,BR ag3 d,encI0,E,N,C9 k];exact⟨n-1,U,k+1,U,Y,trivial,Z,⟨_,rfl,Q⟩,rfl,trivial,c⟩
   .have T:decide (l[k]<(ns[k]:Int))=false:=by rw[decide_eq_false_iff_not];rw[decide_eq_true_eq] at N;omega
    rw[T,Bool.and_false,wK] at c;have B:ixV ns l=0:=by unfold ixV;rw[c];rfl
    refine KZ O P I d @encI0 E N ?_;exact⟨by rw[c,B],M⟩
  .have S:decide (0<=l[k])=false:=by rw[decide_eq_false_iff_not];rw[decide_eq_true_eq] at E;omega
   rw[S,wK,wK] at c;have B:ixV ns l=0:=by unfold ixV;rw[c];rfl
   refine V8 O P I d @encI0 E ?_;exact⟨by rw[c,B],M⟩
 .rw[AEI U U] at c
  rw[jY (U:l.length<=k),eW] at Q;have B:ixV ns l=z:=by unfold ixV;rw[if_pos c,Q]
  refine AY P ?_;exact⟨by rw[c,B],M⟩
end Go.Proofs.YtiihpnicbekebaaGreatDoor.Cov
namespace Go.Proofs.YtiihpnicbekebaaGreatDoor.Ho
open Sm Bins Cov Go.RowKit
variable {H:Hp} {b i:Nat} {m:Mo} {p:Pt}
structure Hl where
 cross:Bool
 idx:Int
 bm:SM
 bins:List Int
def FM (x:Hl):List AV:=[.bool x.cross,.n x.idx,.sl x.bm 1 (x.bins.map qencI)]
theorem AOV (x:Hl):(FM x).length=3:=rfl
theorem bxH (h:Hp)(x:Hl):OU h (.agg (FM x))=some (.ptr h.length 0 0,h++[qG 3 [FM x]]):=bE rfl
theorem ldH {x:Hl}(c:H[b]?=some (qG 3 [FM x])):BO jA H 34 (.ptr b 0 0)=some (.agg (FM x)):=by
 rw[EN A2Q yJ c rfl (by rw[AOV];exact Nat.le_refl 3)];rfl
theorem AN8 {x:Hl}(c:H[b]?=some (qG 3 [FM x])):BO jA H 4 (.ptr b 0 0)=some (.bool x.cross):=by rw[BK ag4 c (row:=FM x) rfl];rfl
theorem tF {x:Hl}(c:H[b]?=some (qG 3 [FM x])):BO jA H 3 (.ptr b 0 1)=some (.n x.idx):=by rw[BK ag3 c (row:=FM x) rfl];rfl
theorem tE {x:Hl}(c:H[b]?=some (qG 3 [FM x])):BO jA H 32 (.ptr b 0 2)=some (.sl x.bm 1 (x.bins.map qencI)):=by rw[BK O4 c (row:=FM x) rfl];rfl
def AFM (m:Mo)(z:Int):Option Cr:=if 0<=z then m.crs[z.toNat]? else none
def AHN (m:Mo)(z:Int):Option Pt:=if 0<=z then m.pts[z.toNat]? else none
def pI (p:Pt):List Int->Bool
 | [b]=>decide (0<=b)&&decide (b<(p.bins.length:Int))&&(kindOf p b.toNat==0)
 | _=>false
def crF (m:Mo)(x:Hl):Option Cr->Bool
 | some c=>J6 (szs m c.pts) x.bins&&eX m c x.bins
 | none=>false
def ptF (x:Hl):Option Pt->Bool
 | some p=>pI p x.bins
 | none=>false
def WZ (m:Mo)(x:Hl):Bool:=if x.cross=true then crF m x (AFM m x.idx) else ptF x (AHN m x.idx)
def OA (m:Mo)(x:Hl):Bool:=(GH m==0)&&WZ m x
theorem rF {z:Int}(h:z<0\/(m.crs.length:Int)<=z):AFM m z=none:=by
 unfold AFM;split
 .exact wC U
 .rfl
theorem bD (c:i<m.crs.length):AFM m (i:Int)=some m.crs[i]:=by
 unfold AFM;rw[if_pos U,qM,jO c]
theorem oA {z:Int}(h:z<0\/(m.pts.length:Int)<=z):AHN m z=none:=by
 unfold AHN;split
 .exact wC U
 .rfl
theorem yX (c:i<m.pts.length):AHN m (i:Int)=some m.pts[i]:=by
 unfold AHN;rw[if_pos U,qM,jO c]
theorem RQ (z:Int)(n:Nat):(z<0\/(n:Int)<=z)\/∃i:Nat,i<n/\z=(i:Int):=by
 rcases Classical.em (z<0\/(n:Int)<=z) with h|h
 .exact .inl h
 .exact .inr ⟨z.toNat,U,U⟩
structure Hb (h H:Hp) (m:Mo) (x:Hl) (hb:Nat):Prop where
 gm:H[h.length]?=some (qG 2 [DT m])
 gh:H[hb]?=some (qG 3 [FM x])
 hx:ext h H
theorem Hb.mk' (h:Hp)(m:Mo)(x:Hl):Hb h (h++[qG 2 [DT m]]++[qG 3 [FM x]]) m x (h++[qG 2 [DT m]]).length :=
 ⟨AU (AZ _ _),AZ _ _,((ext.rfl' h).app _).app _⟩
theorem pG {l:List Int}(h:l.length≠1):pI p l=false:=by
 match l,h with
 | [],_=>rfl
 | [b],h=>exact absurd rfl h
 | _::_::_,_=>rfl
theorem AOB {k:Nat}(hk:k<p.bins.length):kindOf p k=p.bins[k].kind:=by unfold kindOf;rw[jO hk]
theorem iG {b:Int}(h:b<0\/(p.bins.length:Int)<=b):pI p [b]=false:=by
 show(decide (0<=b)&&decide (b<(p.bins.length:Int))&&(kindOf p b.toNat==0))=false;rcases h with h|h
 .rw[show decide (0<=b)=false by rw[decide_eq_false_iff_not];omega];rfl
 .rw[show decide (b<(p.bins.length:Int))=false by rw[decide_eq_false_iff_not];omega,Bool.and_false];rfl
theorem pH {k:Nat}(hk:k<p.bins.length):pI p [(k:Int)]=(p.bins[k].kind==0):=by
 show(decide (0<=(k:Int))&&decide ((k:Int)<(p.bins.length:Int))&&(kindOf p (k:Int).toNat==0))=_;rw[qM,AOB hk,show decide (0<=(k:Int))=true by rw[decide_eq_true_eq];omega,show decide ((k:Int)<(p.bins.length:Int))=true by rw[decide_eq_true_eq];omega];rfl
theorem ltz_false (i:Nat):decide ((i:Int)<0)=false:=by rw[decide_eq_false_iff_not];omega
theorem aX {n:Nat}(h:i<n):decide ((i:Int)≥(n:Int))=false:=by rw[decide_eq_false_iff_not];omega
theorem AD7 {n:Nat}(h:i<n):decide ((i:Int)<(n:Int))=true:=by rw[decide_eq_true_eq];omega
theorem oZ (i:Nat):decide ((i:Int)≥0)=true:=by rw[decide_eq_true_eq];omega
theorem cJ {l:List Int}(h:l.length=1):∃b,l=[b]:=by
 match l,h with
 | [b],_=>exact⟨b,rfl⟩
section
variable (G:Nat->AV)
theorem AON (m:Mo)(P:Cov.Good m)(x:Hl)(Q:x.bins.length<=1048576)(h:Hp):PCall (En G) 91 [.agg (DT m),.agg (FM x)] h (.bool (WZ m x)):=by
 refine ACalls.pure0 rfl ?_;refine acT Tryz.func91 4 ?_;have t:=Hb.mk' h m x;refine A7 @bxM @bxH ?_
 generalize h++[qG 2 [DT m]]++[qG 3 [FM x]]=H at t|-
 generalize (h++[qG 2 [DT m]]).length=hb at t|-
 refine AY (AN8 t.gh) ?_;cases O:x.cross
 case true =>
  have c:WZ m x=crF m x (AFM m x.idx):=by unfold WZ;rw[if_pos O]
  refine DC (ldM t.gm) (tF t.gh) (tE t.gh) ?_;rcases RQ x.idx m.crs.length with d|⟨i,e,d⟩
  .rw[rF d] at c;change WZ m x=false at c
   refine(oW G m x.idx d x.bins x.bm H).uu ?_;exact⟨by rw[c],t.hx⟩
  .rw[d,bD e] at c
   change WZ m x=(J6 (szs m m.crs[i].pts) x.bins&&eX m m.crs[i] x.bins) at c;have C:=P.crs _ (List.getElem_mem e);rw[d];refine(oX G m i e C x.bins x.bm Q H).use ?_;cases g:J6 (szs m m.crs[i].pts) x.bins
   .refine AB ?_
    exact⟨by rw[c,g,Bool.false_and],t.hx⟩
   .refine DC (ldM t.gm) (tF t.gh) (tE t.gh) ?_
    rw[d];refine(tP G m i e C x.bins x.bm g H).uu ?_;exact⟨by rw[c,g,Bool.true_and,Bool.not_not],t.hx⟩
 have c:WZ m x=ptF x (AHN m x.idx):=by unfold WZ;rw[if_neg (by rw[O];decide)]
 have E:=tF t.gh;have F:=tE t.gh;rcases RQ x.idx m.pts.length with d|⟨i,e,d⟩
 .rw[oA d] at c;change WZ m x=false at c
  cases f:decide (x.idx<0)
  .have I:decide (x.idx≥(m.pts.length:Int))=true:=by rw[decide_eq_true_eq];rw[decide_eq_false_iff_not] at f;omega
   refine EG E f (WH t.gm) I ?_;exact⟨by rw[c],t.hx⟩
  .refine A7 E f ?_
   exact⟨by rw[c],t.hx⟩
 rw[d,yX e] at c;change WZ m x=pI m.pts[i] x.bins at c;rw[d] at E;rcases Classical.em (x.bins.length=1) with L|L
 case inr =>
  have A:((x.bins.length:Int) != 1)=true:=by simp;omega
  refine KO E F @ltz_false (WH t.gm) (aX e) A ?_;exact⟨by rw[c,pG L],t.hx⟩
 obtain⟨b,J⟩:=cJ L;rw[J] at F c;have B:0<([b]:List Int).length:=BA;have M:JD 1 H (.sl x.bm 1 [qencI b]) (.n 0)=some (.fptr 1 [qencI b] 0 0):=CP (k:=1) B;have A:(((([qencI b]:List (List AV)).length:Nat):Int) != 1)=false:=rfl;have N:BO jA H 3 (.fptr 1 [qencI b] 0 0)=some (.n b):=(BR ag3 B).trans rfl;simp only[vQ,EP,CQ,↓reduceIte,jC,Nat.add_zero,enP,UF,AN4,LZ,LJ,YT,WL,VA,KX,E,F,ltz_false,WH t.gm,jI,aX e,A,CP e,BR QQ e,QE,M,N];rcases RQ b m.pts[i].bins.length with K|⟨k,hk,rfl⟩
 .rw[iG K] at c
  cases f:decide (b≥0)
  .refine AY f ?_
   exact⟨by rw[c],t.hx⟩
  .have I:decide (b<(m.pts[i].bins.length:Int))=false:=by rw[decide_eq_false_iff_not];rw[decide_eq_true_eq] at f;omega
   refine H7 f F M N I ?_;exact⟨by rw[c],t.hx⟩
 .rw[pH hk] at c
  simp only[vQ,EP,UL,CQ,↓reduceIte,jC,enP,LJ,VA,ZL,eO,X5,oZ,F,M,N,jI,AD7 hk,CP hk,BR ag3 hk,VD];exact⟨by rw[c],t.hx⟩
end
end Go.Proofs.YtiihpnicbekebaaGreatDoor.Ho
