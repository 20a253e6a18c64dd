/- Part 8 of the proof (U1, U2, U3, U4, U5, U6, U7, U8, V1); no condition. -/
import Derived.Shelf.Spec.SlicesGrow
import Derived.Test.YtgnoolgeijmlaaaGreatDoorZE7
set_option linter.unusedVariables false
set_option linter.unusedSimpArgs false
set_option maxRecDepth 8000
namespace Go.Proofs.YtgnoolgeijmlaaaGreatDoor.Bd
open Sm Bins Cov Xe Go.RowKit
open Bool renaming not_false→jC,or_true→qP,or_false→jV,not_true→jZ
open List renaming length_map→jR,map_cons→jF,map_nil→jE,nil_append→qA,cons_append→qJ,getElem_mem→zC,append_nil→jD,length_take→zX,getElem?_cons_zero→jT,getElem?_cons_succ→jU,mem_of_getElem?→zV,getElem_of_mem→qW,take_succ_eq_append_getElem→qK,take_of_length_le→zH,length_append→zT,drop_zero→qL
open Nat renaming le_of_ble_eq_true→jH,reduceEqDiff→jA,lt_or_ge→jY,add_zero→jL,reduceAdd→jM,zero_add→jG,le_refl→jP
open Option renaming getD_some→jB,map_some→qU,map_none→qZ,getD_none→jO
structure Vr where
 name:ByteArray
 width:Int
 mode:Int
 value:Int
def FI (v:Vr):List AV:=[.str v.name,.int .i64 v.width,.int .i64 v.mode,.int .i64 v.value]
theorem ADX (v:Vr):(FI v).length=4:=rfl
theorem ATF (v:Vr):(FI v)[0]?=some (.str v.name):=rfl
theorem ATE (v:Vr):(FI v)[1]?=some (.int .i64 v.width):=rfl
theorem ATD (v:Vr):(FI v)[2]?=some (.int .i64 v.mode):=rfl
theorem AYB (v:Vr):(FI v)[3]?=some (.int .i64 v.value):=rfl
structure Wg where
 lo:Int
 hi:Int
 w:Int
 each:Bool
def KP (x:Wg):List AV:=[.int .i64 x.lo,.int .i64 x.hi,.int .i64 x.w,.bool x.each]
theorem AA0 (x:Wg):(KP x).length=4:=rfl
structure Ds where
 var:Int
 wm:SM
 ws:List Wg
def LD (d:Ds):List AV:=[.int .i64 d.var,.sl d.wm 4 (d.ws.map KP)]
theorem ADY (d:Ds):(LD d).length=2:=rfl
structure Gp where
 m:SM
 l:List Int
def NV (g:Gp):List AV:=[.sl g.m 1 (g.l.map qencI)]
structure Pr where
 vm:SM
 vars:List Vr
 hm:SM
 hard:List Ex
 sm:SM
 soft:List Ex
 dm:SM
 dists:List Ds
 gm:SM
 groups:List Gp
def EE (p:Pr):List AV:=[.sl p.vm 4 (p.vars.map FI),.sl p.hm 4 (p.hard.map EF),.sl p.sm 4 (p.soft.map EF),.sl p.dm 2 (p.dists.map LD),.sl p.gm 1 (p.groups.map NV)]
theorem JE (p:Pr):(EE p).length=5:=rfl
theorem bxV (h:Hp)(v:Vr):MG h (.agg (FI v))=some (.ptr h.length 0 0,h++[.live 4 [FI v]]):=rfl
theorem A5M (h:Hp)(v:Wg):MG h (.agg (KP v))=some (.ptr h.length 0 0,h++[.live 4 [KP v]]):=rfl
theorem bxD (h:Hp)(v:Ds):MG h (.agg (LD v))=some (.ptr h.length 0 0,h++[.live 2 [LD v]]):=rfl
theorem UN (h:Hp)(p:Pr):MG h (.agg (EE p))=some (.ptr h.length 0 0,h++[.live 5 [EE p]]):=rfl
def MF {α:Type}(p:α->Bool):List α->Int
 | [] => -1
 | x::r=>if p x=true then 0 else if MF p r<0 then -1 else MF p r+1
theorem QD {α:Type}(p:α->Bool):∀(xs:List α) (k:Nat) (hk:k<xs.length),(∀(j:Nat) (hj:j<k),p (xs[j]'(by omega))=false)->p xs[k]=true->MF p xs=k
 | x::r,0,_,_,h=>by
   have h:p x=true:=h;simp [MF,h]
 | x::r,k+1,hk,hb,h=>by
   have h0:p x=false:=hb 0 (by omega);have ih:=QD p r k (by simpa using hk) (fun j hj=>hb (j+1) (by omega)) h;simp only[MF,h0,ih,Bool.false_eq_true,if_false];rw[if_neg (by omega)]; omega
theorem PP {α:Type}(p:α->Bool):∀(xs:List α),(∀(j:Nat) (hj:j<xs.length),p xs[j]=false)->MF p xs = -1
 | [],_=>rfl
 | x::r,hb=>by
   have h0:p x=false:=hb 0 (by simp);have ih:=PP p r (fun j hj=>hb (j+1) (by simpa using hj));simp [MF,h0,ih]
theorem Q7 {α:Type}(p:α->Bool):∀xs:List α,decide (MF p xs≥0)=xs.any p
 | []=>rfl
 | x::r=>by
   have ih:=Q7 p r;rw[List.any_cons,<-ih];rcases Bool.eq_false_or_eq_true (p x) with hx|hx
   .have h1:MF p (x::r)=0:=by simp [MF,hx]
    rw[h1,hx]; rfl
   .have h1:MF p (x::r)=if MF p r<0 then -1 else MF p r+1:=by simp [MF,hx]
    rw[h1,hx,Bool.false_or];by_cases h:MF p r<0
    .rw[if_pos h,decide_eq_false (by omega),decide_eq_false (by omega)]
    .rw[if_neg h,decide_eq_true (by omega),decide_eq_true (by omega)]
theorem ADL {α:Type}(p:α->Bool):∀(xs:List α),0<=MF p xs->∃k,∃hk:k<xs.length,MF p xs=(k:Nat)∧p xs[k]=true∧∀(j:Nat) (hj:j<k),p (xs[j]'(by omega))=false
 | [],h=>by simp [MF] at h
 | x::r,h=>by
   cases hx:p x with
   | true=>exact⟨0,by simp,by simp [MF,hx],hx,fun j hj=>absurd hj (by omega)⟩
   | false =>
     have h1:MF p (x::r)=if MF p r<0 then -1 else MF p r+1:=by simp [MF,hx]
     rw[h1] at h|-;split at h
     .omega
     .rename_i hn
      rw[if_neg hn];obtain⟨k,hk,e1,e2,e3⟩:=ADL p r (by omega);refine⟨k+1,by simpa using hk,by omega,e2,fun j hj=>?_⟩
      cases j with
      | zero=>exact hx
      | succ j=>exact e3 j (by omega)
theorem APV {α:Type}(p:α->Bool)(xs:List α)(h:MF p xs<0):∀x∈xs,p x=false:=by
 intro x hx;have:=Q7 p xs;rw[decide_eq_false (by omega)] at this;have:=List.any_eq_false.1 this.symm x hx;simpa using this
theorem AFQ (G:Nat->AV)(xs:List Vr)(m:SM)(fid:FuncId)(caps:List AV)(p:Vr->Bool)(h:Hp)(hn:xs.length<=1099511627776)(hf:∀x∈xs,PCall (En G) fid ([.agg (FI x)]++caps) h (.bool (p x))) :
  PCall (En G) 173 [.sl m 4 (xs.map FI),.fn (.func fid) [] caps] h (.int .i64 (MF p xs)):=by
 refine acN Tryz.func173 rfl ?_;show awp _ _ _ _ _ (EK _ [.tmp 4] _);simp -implicitDefEqProofs only[vQ,BD,↓reduceIte,jA,enX,enP,RZ,jR];refine D7 (fun n F H=>∃k,n+k=xs.length∧(∀(j:Nat) (hj:j<k) (hl:j<xs.length),p xs[j]=false)∧F 0=.sl m 4 (xs.map FI)∧F 1=.fn (.func fid) [] caps∧F 7=.int .i64 (xs.length:Nat)∧F 8=.int .i64 (k:Nat)∧H=h) xs.length ⟨0,by simp,fun j hj=>absurd hj (by omega),by simp -implicitDefEqProofs only[vQ,↓reduceIte,jA],by simp -implicitDefEqProofs only[vQ,↓reduceIte,jA],by simp -implicitDefEqProofs only[AA,↓reduceIte,jA],by simp -implicitDefEqProofs only[AA,↓reduceIte]; rfl,rfl⟩ ?_;rintro n F H ⟨k,hk,hb,f0,f1,f7,f8,rfl⟩;simp -implicitDefEqProofs only[vQ,BD,↓reduceIte,enP,f7,f8];refine C9 (fun hc=>?_) (fun hc=>?_)
 .have hk':k<xs.length:=by simpa using hc
  simp -implicitDefEqProofs only[vQ,BD,qA,qJ,↓reduceIte,jA,enP,QP,f0,f1,f8,EZ hk',GM A3T AQ3 ADX hk'];refine(hf _ (zC hk')).use ?_;simp -implicitDefEqProofs only[vQ,↓reduceIte];refine C9 (fun hp=>?_) (fun hp=>?_)
  .simp -implicitDefEqProofs only[vQ,BD,↓reduceIte,jA,f8]
   exact⟨by rw[QD p xs k hk' (fun j hj=>hb j hj (by omega)) hp],trivial⟩
  .simp -implicitDefEqProofs only[vQ,BD,↓reduceIte,jA,enP,f8,wrap_succ (show k<9223372036854775807 by omega)]
   refine⟨n-1,by omega,k+1,by omega,fun j hj hl=>?_,by trivial,by trivial,by trivial,rfl,trivial⟩;rcases jY j k with h1|h1
   .exact hb j h1 hl
   .obtain rfl:j=k:=by omega
    exact hp
 .simp -implicitDefEqProofs only[vQ,BD,↓reduceIte]
  have hk':¬k<xs.length:=by simpa using hc
  exact⟨by rw[PP p xs fun j hj=>hb j (by omega) hj],trivial⟩
theorem AV8 (G:Nat->AV)(xs:List Vr)(m:SM)(fid:FuncId)(caps:List AV)(p:Vr->Bool)(h:Hp)(hn:xs.length<=1099511627776)(hf:∀x∈xs,PCall (En G) fid ([.agg (FI x)]++caps) h (.bool (p x))) :
  PCall (En G) 119 [.sl m 4 (xs.map FI),.fn (.func fid) [] caps] h (.bool (xs.any p)):=by
 refine acN Tryz.func119 rfl ?_;show awp _ _ _ _ _ (EK _ [.tmp 4] _);simp -implicitDefEqProofs only[vQ,BD,↓reduceIte,jA,enX,enP];refine(AFQ G xs m fid caps p h hn hf).use ?_;simp -implicitDefEqProofs only[vQ,BD,↓reduceIte,enP,Q7];exact⟨trivial,trivial⟩
theorem ALP (G:Nat->AV)(xs:List Ds)(m:SM)(fid:FuncId)(caps:List AV)(p:Ds->Bool)(h:Hp)(hn:xs.length<=1099511627776)(hf:∀x∈xs,PCall (En G) fid ([.agg (LD x)]++caps) h (.bool (p x))) :
  PCall (En G) 178 [.sl m 2 (xs.map LD),.fn (.func fid) [] caps] h (.int .i64 (MF p xs)):=by
 refine acN Tryz.func178 rfl ?_;show awp _ _ _ _ _ (EK _ [.tmp 4] _);simp -implicitDefEqProofs only[vQ,BD,↓reduceIte,jA,enX,enP,AZK,jR];refine D7 (fun n F H=>∃k,n+k=xs.length∧(∀(j:Nat) (hj:j<k) (hl:j<xs.length),p xs[j]=false)∧F 0=.sl m 2 (xs.map LD)∧F 1=.fn (.func fid) [] caps∧F 7=.int .i64 (xs.length:Nat)∧F 8=.int .i64 (k:Nat)∧H=h) xs.length ⟨0,by simp,fun j hj=>absurd hj (by omega),by simp -implicitDefEqProofs only[vQ,↓reduceIte,jA],by simp -implicitDefEqProofs only[vQ,↓reduceIte,jA],by simp -implicitDefEqProofs only[AA,↓reduceIte,jA],by simp -implicitDefEqProofs only[AA,↓reduceIte]; rfl,rfl⟩ ?_;rintro n F H ⟨k,hk,hb,f0,f1,f7,f8,rfl⟩;simp -implicitDefEqProofs only[vQ,BD,↓reduceIte,enP,f7,f8];refine C9 (fun hc=>?_) (fun hc=>?_)
 .have hk':k<xs.length:=by simpa using hc
  simp -implicitDefEqProofs only[vQ,BD,qA,qJ,↓reduceIte,jA,enP,AG2,f0,f1,f8,EZ hk',GM AYP AIH ADY hk'];refine(hf _ (zC hk')).use ?_;simp -implicitDefEqProofs only[vQ,↓reduceIte];refine C9 (fun hp=>?_) (fun hp=>?_)
  .simp -implicitDefEqProofs only[vQ,BD,↓reduceIte,jA,f8]
   exact⟨by rw[QD p xs k hk' (fun j hj=>hb j hj (by omega)) hp],trivial⟩
  .simp -implicitDefEqProofs only[vQ,BD,↓reduceIte,jA,enP,f8,wrap_succ (show k<9223372036854775807 by omega)]
   refine⟨n-1,by omega,k+1,by omega,fun j hj hl=>?_,by trivial,by trivial,by trivial,rfl,trivial⟩;rcases jY j k with h1|h1
   .exact hb j h1 hl
   .obtain rfl:j=k:=by omega
    exact hp
 .simp -implicitDefEqProofs only[vQ,BD,↓reduceIte]
  have hk':¬k<xs.length:=by simpa using hc
  exact⟨by rw[PP p xs fun j hj=>hb j (by omega) hj],trivial⟩
theorem ASP (G:Nat->AV)(xs:List Ds)(m:SM)(fid:FuncId)(caps:List AV)(p:Ds->Bool)(h:Hp)(hn:xs.length<=1099511627776)(hf:∀x∈xs,PCall (En G) fid ([.agg (LD x)]++caps) h (.bool (p x))) :
  PCall (En G) 128 [.sl m 2 (xs.map LD),.fn (.func fid) [] caps] h (.bool (xs.any p)):=by
 refine acN Tryz.func128 rfl ?_;show awp _ _ _ _ _ (EK _ [.tmp 4] _);simp -implicitDefEqProofs only[vQ,BD,↓reduceIte,jA,enX,enP];refine(ALP G xs m fid caps p h hn hf).use ?_;simp -implicitDefEqProofs only[vQ,BD,↓reduceIte,enP,Q7];exact⟨trivial,trivial⟩
theorem ASJ (G:Nat->AV)(xs:List Wg)(m:SM)(fid:FuncId)(caps:List AV)(p:Wg->Bool)(h:Hp)(hn:xs.length<=1099511627776)(hf:∀x∈xs,PCall (En G) fid ([.agg (KP x)]++caps) h (.bool (p x))) :
  PCall (En G) 219 [.sl m 4 (xs.map KP),.fn (.func fid) [] caps] h (.int .i64 (MF p xs)):=by
 refine acN Tryz.func219 rfl ?_;show awp _ _ _ _ _ (EK _ [.tmp 4] _);simp -implicitDefEqProofs only[vQ,BD,↓reduceIte,jA,enX,enP,ANW,jR];refine D7 (fun n F H=>∃k,n+k=xs.length∧(∀(j:Nat) (hj:j<k) (hl:j<xs.length),p xs[j]=false)∧F 0=.sl m 4 (xs.map KP)∧F 1=.fn (.func fid) [] caps∧F 7=.int .i64 (xs.length:Nat)∧F 8=.int .i64 (k:Nat)∧H=h) xs.length ⟨0,by simp,fun j hj=>absurd hj (by omega),by simp -implicitDefEqProofs only[vQ,↓reduceIte,jA],by simp -implicitDefEqProofs only[vQ,↓reduceIte,jA],by simp -implicitDefEqProofs only[AA,↓reduceIte,jA],by simp -implicitDefEqProofs only[AA,↓reduceIte]; rfl,rfl⟩ ?_;rintro n F H ⟨k,hk,hb,f0,f1,f7,f8,rfl⟩;simp -implicitDefEqProofs only[vQ,BD,↓reduceIte,enP,f7,f8];refine C9 (fun hc=>?_) (fun hc=>?_)
 .have hk':k<xs.length:=by simpa using hc
  simp -implicitDefEqProofs only[vQ,BD,qA,qJ,↓reduceIte,jA,enP,AX6,f0,f1,f8,EZ hk',GM AYO AM9 AA0 hk'];refine(hf _ (zC hk')).use ?_;simp -implicitDefEqProofs only[vQ,↓reduceIte];refine C9 (fun hp=>?_) (fun hp=>?_)
  .simp -implicitDefEqProofs only[vQ,BD,↓reduceIte,jA,f8]
   exact⟨by rw[QD p xs k hk' (fun j hj=>hb j hj (by omega)) hp],trivial⟩
  .simp -implicitDefEqProofs only[vQ,BD,↓reduceIte,jA,enP,f8,wrap_succ (show k<9223372036854775807 by omega)]
   refine⟨n-1,by omega,k+1,by omega,fun j hj hl=>?_,by trivial,by trivial,by trivial,rfl,trivial⟩;rcases jY j k with h1|h1
   .exact hb j h1 hl
   .obtain rfl:j=k:=by omega
    exact hp
 .simp -implicitDefEqProofs only[vQ,BD,↓reduceIte]
  have hk':¬k<xs.length:=by simpa using hc
  exact⟨by rw[PP p xs fun j hj=>hb j (by omega) hj],trivial⟩
theorem AZR (G:Nat->AV)(xs:List Wg)(m:SM)(fid:FuncId)(caps:List AV)(p:Wg->Bool)(h:Hp)(hn:xs.length<=1099511627776)(hf:∀x∈xs,PCall (En G) fid ([.agg (KP x)]++caps) h (.bool (p x))) :
  PCall (En G) 179 [.sl m 4 (xs.map KP),.fn (.func fid) [] caps] h (.bool (xs.any p)):=by
 refine acN Tryz.func179 rfl ?_;show awp _ _ _ _ _ (EK _ [.tmp 4] _);simp -implicitDefEqProofs only[vQ,BD,↓reduceIte,jA,enX,enP];refine(ASJ G xs m fid caps p h hn hf).use ?_;simp -implicitDefEqProofs only[vQ,BD,↓reduceIte,enP,Q7];exact⟨trivial,trivial⟩
theorem A1W {h:Hp}{xs:List ByteArray}{k:Nat}(hk:k<xs.length):DF Tryz.prog h 9 (.fptr 1 (xs.map encStr) k 0)=some (.str xs[k]):=by rw[FX ag9 hk]; rfl
theorem APR (G:Nat->AV)(xs:List ByteArray)(m:SM)(fid:FuncId)(caps:List AV)(p:ByteArray->Bool)(h:Hp)(hn:xs.length<=1099511627776)(hf:∀x∈xs,PCall (En G) fid ([.str x]++caps) h (.bool (p x))) :
  PCall (En G) 177 [.sl m 1 (xs.map encStr),.fn (.func fid) [] caps] h (.int .i64 (MF p xs)):=by
 refine acN Tryz.func177 rfl ?_;show awp _ _ _ _ _ (EK _ [.tmp 4] _);simp -implicitDefEqProofs only[vQ,BD,↓reduceIte,jA,enX,enP,Y6,jR];refine D7 (fun n F H=>∃k,n+k=xs.length∧(∀(j:Nat) (hj:j<k) (hl:j<xs.length),p xs[j]=false)∧F 0=.sl m 1 (xs.map encStr)∧F 1=.fn (.func fid) [] caps∧F 7=.int .i64 (xs.length:Nat)∧F 8=.int .i64 (k:Nat)∧H=h) xs.length ⟨0,by simp,fun j hj=>absurd hj (by omega),by simp -implicitDefEqProofs only[vQ,↓reduceIte,jA],by simp -implicitDefEqProofs only[vQ,↓reduceIte,jA],by simp -implicitDefEqProofs only[AA,↓reduceIte,jA],by simp -implicitDefEqProofs only[AA,↓reduceIte]; rfl,rfl⟩ ?_;rintro n F H ⟨k,hk,hb,f0,f1,f7,f8,rfl⟩;simp -implicitDefEqProofs only[vQ,BD,↓reduceIte,enP,f7,f8];refine C9 (fun hc=>?_) (fun hc=>?_)
 .have hk':k<xs.length:=by simpa using hc
  simp -implicitDefEqProofs only[vQ,BD,qA,qJ,↓reduceIte,jA,enP,ALK,f0,f1,f8,EZ hk',A1W hk'];refine(hf _ (zC hk')).use ?_;simp -implicitDefEqProofs only[vQ,↓reduceIte];refine C9 (fun hp=>?_) (fun hp=>?_)
  .simp -implicitDefEqProofs only[vQ,BD,↓reduceIte,jA,f8]
   exact⟨by rw[QD p xs k hk' (fun j hj=>hb j hj (by omega)) hp],trivial⟩
  .simp -implicitDefEqProofs only[vQ,BD,↓reduceIte,jA,enP,f8,wrap_succ (show k<9223372036854775807 by omega)]
   refine⟨n-1,by omega,k+1,by omega,fun j hj hl=>?_,by trivial,by trivial,by trivial,rfl,trivial⟩;rcases jY j k with h1|h1
   .exact hb j h1 hl
   .obtain rfl:j=k:=by omega
    exact hp
 .simp -implicitDefEqProofs only[vQ,BD,↓reduceIte]
  have hk':¬k<xs.length:=by simpa using hc
  exact⟨by rw[PP p xs fun j hj=>hb j (by omega) hj],trivial⟩
theorem AV9 (G:Nat->AV)(xs:List ByteArray)(m:SM)(fid:FuncId)(caps:List AV)(p:ByteArray->Bool)(h:Hp)(hn:xs.length<=1099511627776)(hf:∀x∈xs,PCall (En G) fid ([.str x]++caps) h (.bool (p x))) :
  PCall (En G) 124 [.sl m 1 (xs.map encStr),.fn (.func fid) [] caps] h (.bool (xs.any p)):=by
 refine acN Tryz.func124 rfl ?_;show awp _ _ _ _ _ (EK _ [.tmp 4] _);simp -implicitDefEqProofs only[vQ,BD,↓reduceIte,jA,enX,enP];refine(APR G xs m fid caps p h hn hf).use ?_;simp -implicitDefEqProofs only[vQ,BD,↓reduceIte,enP,Q7];exact⟨trivial,trivial⟩
def dgS (k:Nat):ByteArray:=⟨#[UInt8.ofNat (48+k)]⟩
def AYK:ByteArray:=⟨#[48,49,50,51,52,53,54,55,56,57,97,98,99,100,101,102,103,104,105,106,107,108,109,110,111,112,113,114,115,116,117,118,119,120,121,122]⟩
theorem sl36:∀(k:Nat),k<8->∀h:Hp,MK Tryz.prog h 9 (.str AYK) (some (.int .i64 (k:Nat))) (some (.int .i64 ((k+1:Nat):Int))) none=some (.str (dgS k))
 | 0,_,h=>by kernel_rfl
 | 1,_,h=>by kernel_rfl
 | 2,_,h=>by kernel_rfl
 | 3,_,h=>by kernel_rfl
 | 4,_,h=>by kernel_rfl
 | 5,_,h=>by kernel_rfl
 | 6,_,h=>by kernel_rfl
 | 7,_,h=>by kernel_rfl
 | n+8,q,_=>absurd q (by omega)
theorem AKX (G:Nat->AV)(k:Nat)(hk:k<8)(h:Hp):PCall (En G) 249 [.int .i64 (k:Nat)] h (.str (dgS k)):=by
 refine acN Tryz.func249 rfl ?_;show awp _ _ _ _ _ (EK _ [.tmp 2] _);have hd:decide (((k:Nat):Int)<10)=true:=by simp; omega
 have:=sl36 k hk h;unfold AYK at this;simp -implicitDefEqProofs only[vQ,qU,qZ,BD,OV,↓reduceIte,jA,enX,enP,hd,wrap_succ (show k<9223372036854775807 by omega),this];exact⟨trivial,trivial⟩
theorem AQH (G:Nat->AV)(k:Nat)(hk:k<8)(h:Hp):PCall (En G) 215 [.int .i64 (k:Nat)] h (.str (dgS k)):=by
 have h1:PCall (En G) 246 [.int .i64 (k:Nat),.int .i64 10] h (.str (dgS k)):=by
  refine acN Tryz.func246 rfl ?_;show awp _ _ _ _ _ (EK _ [.tmp 4] _);have d1:((10:Int)==10)=true:=rfl;have d2:decide ((0:Int)<=((k:Nat):Int))=true:=by simp
  have d3:decide (((k:Nat):Int)<100)=true:=by simp; omega
  simp -implicitDefEqProofs only[vQ,CV,BD,NM,↓reduceIte,jA,enX,enP,d1,d2,d3];refine(AKX G k hk h).use ?_;simp -implicitDefEqProofs only[vQ,BD,↓reduceIte];exact⟨trivial,trivial⟩
 have h2:PCall (En G) 235 [.int .i64 (k:Nat)] h (.str (dgS k)):=by
  refine acN Tryz.func235 rfl ?_;show awp _ _ _ _ _ (EK _ [.tmp 2] _);simp -implicitDefEqProofs only[vQ,BD,↓reduceIte,jA,enX,enP];refine h1.use ?_;simp -implicitDefEqProofs only[vQ,BD,↓reduceIte];exact⟨trivial,trivial⟩
 refine acN Tryz.func215 rfl ?_;show awp _ _ _ _ _ (EK _ [.tmp 2] _);simp -implicitDefEqProofs only[vQ,BD,↓reduceIte,jA,enX,enP];refine h2.use ?_;simp -implicitDefEqProofs only[vQ,BD,↓reduceIte];exact⟨trivial,trivial⟩
theorem AP8 (G:Nat->AV)(k:Nat)(hk:k<8)(h:Hp):PCall (En G) 227 [.int .i64 (k:Nat)] h (.int .i64 (-(k:Int))):=by
 refine acN Tryz.func227 rfl ?_;show awp _ _ _ _ _ (EK _ [.tmp 2] _);simp -implicitDefEqProofs only[vQ,BD,↓reduceIte,jA,enX,enP];refine C9 (fun hc=>?_) (fun hc=>?_)
 .have e:IntKind.i64.wrap (0-((k:Nat):Int)) = -(k:Int):=by rw[wrap_i64 (by omega) (by omega)]; omega
  simp -implicitDefEqProofs only[vQ,BD,AY0,↓reduceIte,jA,e];exact⟨trivial,trivial⟩
 .have e:((k:Nat):Int) = -(k:Int):=by
   have:¬((k:Nat):Int)>0:=by simpa using hc
   omega
  simp -implicitDefEqProofs only[vQ,BD,↓reduceIte,jA];exact⟨by rw[<-e],trivial⟩
theorem AMU (G:Nat->AV)(k:Nat)(hk:k<8)(h:Hp):PCall (En G) 196 [.int .i64 (k:Nat)] h (.str (dgS k)):=by
 refine acN Tryz.func196 rfl ?_;show awp _ _ _ _ _ (EK _ [.tmp 2] _);simp -implicitDefEqProofs only[vQ,BD,↓reduceIte,jA,enX,enP];refine(AP8 G k hk h).use ?_;simp -implicitDefEqProofs only[vQ,BD,↓reduceIte];refine D7 (fun n F H=>n=0∧F 0=.int .i64 (k:Nat)∧F 3=.str ⟨#[]⟩∧F 4=.int .i64 (-(k:Int))∧H=h) 0 ⟨rfl,by simp -implicitDefEqProofs only[vQ,↓reduceIte,jA],by simp -implicitDefEqProofs only[AA,↓reduceIte,jA],by simp -implicitDefEqProofs only[AA,↓reduceIte],rfl⟩ ?_;rintro n F H ⟨rfl,f0,f3,f4,rfl⟩
 have e1:(-(k:Int)).tmod 10 = -(k:Int):=by
  rw[Int.neg_tmod,Int.tmod_eq_emod_of_nonneg (by omega)]; omega
 have e2:(-(k:Int)).tdiv 10=0:=by
  rw[Int.neg_tdiv,Int.tdiv_eq_ediv_of_nonneg (by omega)]; omega
 have e3:(48:Int) - -(k:Int)=48+(k:Int):=by omega
 have r1:JD Tryz.prog 3 .rem (.int .i64 (-(k:Int))) (.int .i64 10)=some (.int .i64 (-(k:Int))):=by rw[ZY _ _ _ _ _ (by decide),e1]
 have r2:JD Tryz.prog 3 .quo (.int .i64 (-(k:Int))) (.int .i64 10)=some (.int .i64 0):=by rw[AOK _ _ _ _ _ (by decide),e2]; rfl
 have a1:JD Tryz.prog 9 .add (.str (dgS k)) (.str ⟨#[]⟩)=some (.str (dgS k)):=by
  rw[ZX (by show 1+0<=_; omega)];congr 2
 have z:((0:Int)==0)=true:=rfl;have dc:=ATI k hk;change _=some (AV.str (dgS k)) at dc;have n0:decide (((k:Nat):Int)<0)=false:=by simp
 simp -implicitDefEqProofs only[vQ,BD,AKR,LG,↓reduceIte,jA,enP,A2K,f0,f3,f4,r1,r2,e3,A3C,dc,a1,z,n0];exact⟨trivial,trivial⟩
theorem A3H (a:ByteArray)(k:Nat)(ha:a.size<=1048576):JD Tryz.prog 9 .add (.str a) (.str ⟨#[91]⟩)=some (.str (a++(⟨#[91]⟩:ByteArray)))∧JD Tryz.prog 9 .add (.str (a++(⟨#[91]⟩:ByteArray))) (.str (dgS k))=some (.str (a++(⟨#[91]⟩:ByteArray)++dgS k)) ∧
  JD Tryz.prog 9 .add (.str (a++(⟨#[91]⟩:ByteArray)++dgS k)) (.str ⟨#[93]⟩)=some (.str (elN a k)) :=
 ⟨ZX (by show a.size+1<=_; omega),ZX (by rw[AHS]; show a.size+1+1<=_; omega),ZX (by rw[AHS,AHS]; show a.size+1+1+1<=_; omega)⟩
theorem AA1 (G:Nat->AV)(a:ByteArray)(k:Nat)(hk:k<8)(h:Hp)(ha:a.size<=1048576):PCall (En G) 172 [.str a,.int .i64 (k:Nat)] h (.str (elN a k)):=by
 refine acN Tryz.func172 rfl ?_;show awp _ _ _ _ _ (EK _ [.tmp 4] _);obtain⟨b1,b2,b3⟩:=A3H a k ha;simp -implicitDefEqProofs only[vQ,BD,↓reduceIte,jA,enX,enP,b1];refine(AQH G k hk h).use ?_;simp -implicitDefEqProofs only[vQ,BD,↓reduceIte,jA,enP,b2,b3];exact⟨trivial,trivial⟩
theorem ADZ (G:Nat->AV)(a:ByteArray)(k:Nat)(hk:k<8)(h:Hp)(ha:a.size<=1048576):PCall (En G) 158 [.str a,.int .i64 (k:Nat)] h (.str (elN a k)):=by
 refine acN Tryz.func158 rfl ?_;show awp _ _ _ _ _ (EK _ [.tmp 4] _);obtain⟨b1,b2,b3⟩:=A3H a k ha;simp -implicitDefEqProofs only[vQ,BD,↓reduceIte,jA,enX,enP,b1];refine(AMU G k hk h).use ?_;simp -implicitDefEqProofs only[vQ,BD,↓reduceIte,jA,enP,b2,b3];exact⟨trivial,trivial⟩
theorem RG (a:ByteArray)(k:Nat):(elN a k).data.toList=a.data.toList++[91,UInt8.ofNat (48+k),93]:=by
 unfold elN;simp [ByteArray.data_append]
theorem AEC {a b:ByteArray}(h:a.data.toList=b.data.toList):a=b:=by
 obtain⟨⟨x⟩⟩:=a;obtain⟨⟨y⟩⟩:=b;have:x=y:=h;rw[this]
theorem AKA (a:ByteArray):(⟨a.data.toList.toArray⟩:ByteArray)=a:=by obtain⟨⟨x⟩⟩:=a; rfl
theorem AHP {k:Nat}(hk:k<8):(UInt8.ofNat (48+k)).toNat=48+k:=by
 rw[UInt8.toNat_ofNat']; omega
theorem AOC {a:ByteArray}{i j:Nat}(hi:i<8)(hj:j<8)(h:elN a i=elN a j):i=j:=by
 have:=congrArg (fun x=>x.data.toList) h;simp only[RG,List.append_cancel_left_eq,List.cons.injEq,and_true,true_and] at this;have:=congrArg UInt8.toNat this;rw[AHP hi,AHP hj] at this;omega
theorem AF1 {a:ByteArray}{k:Nat}(hk:k<8)(hn:I4 a=true):KG (elN a k)=some (a.data.toList,UInt8.ofNat (48+k)):=by
 have h1:elN a k=⟨(a.data.toList++[91,UInt8.ofNat (48+k),93]).toArray⟩:=AEC (RG a k);have hne:a.data.toList≠[]:=(SL (l:=a.data.toList) (by rw[AKA]; exact hn)).1;rw[h1,ZR hne,AKA,hn,AHP hk];simp;omega
theorem NF {s:ByteArray}{a:List UInt8}{d:UInt8}(h:KG s=some (a,d)):48<=d.toNat∧d.toNat-48<8∧I4 ⟨a.toArray⟩=true∧s=elN ⟨a.toArray⟩ (d.toNat-48)∧a.length+3=s.size:=by
 unfold KG at h;split at h
 case isFalse=>cases h
 rename_i hl;split at h
 case h_2=>cases h
 rename_i x d' y hm;split at h
 case isFalse=>cases h
 rename_i hc;cases h;simp only[Bool.and_eq_true,beq_iff_eq,decide_eq_true_eq] at hc;obtain⟨⟨⟨⟨rfl,rfl⟩,c1⟩,c2⟩,c3⟩:=hc;refine⟨c1,by omega,c3,AEC ?_,?_⟩
 .rw[RG]
  have e:UInt8.ofNat (48+(d.toNat-48))=d:=by rw[show 48+(d.toNat-48)=d.toNat by omega]; simp
  rw[e,<-hm];simp
 .have:s.size=s.data.toList.length:=(Array.length_toList (xs:=s.data)).symm
  rw[this,zX]; omega
theorem AJ8 (a b:ByteArray):(a.toList==b.toList)=true↔a=b:=by
 rw[beq_iff_eq,ByteArray.toList_eq,ByteArray.toList_eq];exact⟨AEC,fun h=>by rw[h]⟩
def JX (n:ByteArray)(v:Vr):Bool:=v.name.toList==n.toList
def plc (l:List Vr)(n:ByteArray):Int:=MF (JX n) l
theorem A2B (G:Nat->AV)(v:Vr)(n:ByteArray)(c:Nat)(h:Hp)(hc:h[c]?=some (.live 1 [[.str n]])):PCall (En G) 174 ([.agg (FI v)]++[.ptr c 0 0]) h (.bool (JX n v)):=by
 refine ACalls.pure0 rfl ?_;refine acN Tryz.func174 rfl ?_;show awp _ _ _ _ _ (EK _ [.tmp 3] _);have hc':(h++[ABlk.live 4 [FI v]])[c]?=_:=BO hc;simp -implicitDefEqProofs only[vQ,BD,LH,qA,qJ,↓reduceIte,jA,enP,O1,bxV,E5 ag9,ATF,JR ag9 hc'];exact⟨rfl,_,rfl⟩
theorem index_prog (G:Nat->AV)(l:List Vr)(m:SM)(n:ByteArray)(h:Hp)(hl:l.length<=1099511627776):PCall (En G) 118 [.sl m 4 (l.map FI),.str n] h (.int .i64 (plc l n)):=by
 refine ACalls.pure0 rfl ?_;refine acN Tryz.func118 rfl ?_;show awp _ _ _ _ _ (EK _ [.tmp 4] _);simp -implicitDefEqProofs only[vQ,AW4,BD,I5,↓reduceIte,jA,enP];refine(AFQ G l m 174 [.ptr h.length 0 0] (JX n) _ hl fun x _=>A2B G x n h.length _ (CU _ _)).use ?_;simp -implicitDefEqProofs only[vQ,BD,↓reduceIte];exact⟨rfl,_,rfl⟩
theorem XT (G:Nat->AV)(l:List Vr)(m:SM)(n:ByteArray)(h:Hp)(hl:l.length<=1099511627776):PCall (En G) 109 [.sl m 4 (l.map FI),.str n] h (.int .i64 (plc l n)):=by
 refine acN Tryz.func109 rfl ?_;show awp _ _ _ _ _ (EK _ [.tmp 4] _);simp -implicitDefEqProofs only[vQ,BD,enX,enP];refine D7 (fun k F H=>∃j,k+j=l.length∧(∀(i:Nat) (hi:i<j) (hl:i<l.length),JX n l[i]=false)∧F 0=.sl m 4 (l.map FI)∧F 1=.str n∧F 5=.int .i64 (j:Nat)∧H=h) l.length ⟨0,by simp,fun i hi=>absurd hi (by omega),by simp -implicitDefEqProofs only[vQ,↓reduceIte,jA],by simp -implicitDefEqProofs only[vQ,↓reduceIte,jA],by simp -implicitDefEqProofs only[AA,↓reduceIte]; rfl,rfl⟩ ?_;rintro k F H ⟨j,hj,hb,f0,f1,f5,rfl⟩;simp -implicitDefEqProofs only[vQ,BD,↓reduceIte,jA,enP,RZ,f0,f5,jR];refine C9 (fun hc=>?_) (fun hc=>?_)
 .have hj':j<l.length:=by simpa using hc
  have l0:DF Tryz.prog H 9 (.fptr 4 (l.map FI) j 0)=some (.str l[j].name):=by rw[FX ag9 hj']; rfl
  simp -implicitDefEqProofs only[vQ,BD,LH,↓reduceIte,jA,enP,QP,O1,f0,f1,f5,EZ hj',l0];refine C9 (fun hp=>?_) (fun hp=>?_)
  .simp -implicitDefEqProofs only[vQ,BD,↓reduceIte,jA,f5]
   exact⟨by rw[plc,QD (JX n) l j hj' (fun i hi=>hb i hi (by omega)) hp],trivial⟩
  .simp -implicitDefEqProofs only[vQ,BD,↓reduceIte,jA,enP,f5,wrap_succ (show j<9223372036854775807 by omega)]
   refine⟨k-1,by omega,j+1,by omega,fun i hi hl=>?_,by trivial,by trivial,rfl,trivial⟩;rcases jY i j with h1|h1
   .exact hb i h1 hl
   .obtain rfl:i=j:=by omega
    exact hp
 .simp -implicitDefEqProofs only[vQ,BD,↓reduceIte]
  have hj':¬j<l.length:=by simpa using hc
  exact⟨by rw[plc,PP (JX n) l fun i hi=>hb i (by omega) hi],trivial⟩
theorem AZ5 (s:ByteArray):(Lib.cut s.data.toList [91]).1.length<=s.size:=by
 have:=AOF s.data.toList;have e:s.data.toList.length=s.size:=Array.length_toList;omega
theorem ALD (G:Nat->AV)(hG:GOk G)(s:ByteArray)(h:Hp)(hl:s.size<=1048576):PCall (En G) 117 [.str s] h (.bool (JI s)):=by
 refine acN Tryz.func117 rfl ?_;show awp _ _ _ _ _ (EK _ [.tmp 2] _);simp -implicitDefEqProofs only[vQ,BD,↓reduceIte,jA,enX,enP];refine(QC G hG.kw s h (by omega)).use ?_;cases hn:I4 s
 case true =>
  simp -implicitDefEqProofs only[vQ,BD,↓reduceIte];exact⟨by unfold JI; rw[hn,qP],trivial⟩
 have hv:JI s=(KG s).isSome:=by unfold JI; rw[hn,jV]
 rw[hv];clear hn hv;simp -implicitDefEqProofs only[vQ,BD,↓reduceIte,jA];refine(AD3 G hG s h hl).use ?_;have he:=AD0 s;have hal:=AZ5 s;unfold cutV;generalize Lib.cut s.data.toList [91]=c at he hal|-;obtain⟨a,b,f⟩:=c;simp only at he hal;simp -implicitDefEqProofs only[vQ,jT,jU,CV,BD,↓reduceIte,jA];cases f
 .simp -implicitDefEqProofs only[vQ,CV,BD,EY,↓reduceIte,jA]
  exact⟨by rw[he]; rfl,trivial⟩
 simp -implicitDefEqProofs only[vQ,CV,BD,↓reduceIte,jA,jZ];refine(QC G hG.kw ⟨a.toArray⟩ h (by rw[szl]; omega)).use ?_;simp -implicitDefEqProofs only[vQ,CV,BD,↓reduceIte,jA];cases hna:I4 ⟨a.toArray⟩
 .simp -implicitDefEqProofs only[vQ,BD,↓reduceIte]
  exact⟨by rw[he,hna]; rfl,trivial⟩
 simp -implicitDefEqProofs only[vQ,BD,jZ];refine D7 (fun n F H=>∃k,n+k=8∧(∀j,j<k->j<8->s≠elN ⟨a.toArray⟩ j)∧F 0=.str s∧F 3=.str ⟨a.toArray⟩∧F 22=.int .i64 (k:Nat)∧H=h) 8 ⟨0,by simp,fun j hj=>absurd hj (by omega),by simp -implicitDefEqProofs only[vQ,↓reduceIte,jA],by simp -implicitDefEqProofs only[AA,↓reduceIte,jA],by simp -implicitDefEqProofs only[AA,↓reduceIte]; rfl,rfl⟩ ?_;rintro n F H ⟨k,hk,hb,f0,f3,f22,rfl⟩;simp -implicitDefEqProofs only[vQ,BD,↓reduceIte,enP,f22];refine C9 (fun hc=>?_) (fun hc=>?_)
 .have hk':k<8:=by simp at hc; omega
  simp -implicitDefEqProofs only[vQ,BD,↓reduceIte,jA,f0,f3,f22];refine(AA1 G ⟨a.toArray⟩ k hk' H (by rw[szl]; omega)).use ?_;simp -implicitDefEqProofs only[vQ,BD,LH,↓reduceIte,jA,enP,f0];refine C9 (fun hp=>?_) (fun hp=>?_)
  .simp -implicitDefEqProofs only[vQ,BD,↓reduceIte]
   exact⟨by rw[(AJ8 _ _).1 hp,AF1 hk' hna]; rfl,trivial⟩
  .simp -implicitDefEqProofs only[vQ,BD,↓reduceIte,jA,enP,f22,wrap_succ (show k<9223372036854775807 by omega)]
   refine⟨n-1,by omega,k+1,by omega,fun j hj h8=>?_,by trivial,by trivial,rfl,trivial⟩;rcases jY j k with h1|h1
   .exact hb j h1 h8
   .obtain rfl:j=k:=by omega
    intro e;rw[(AJ8 _ _).2 e] at hp;cases hp
 .simp -implicitDefEqProofs only[vQ,BD,↓reduceIte]
  have hk':8<=k:=by simp at hc; omega
  refine⟨?_,trivial⟩;rcases hcase:KG s with _|⟨a',d⟩
  .rfl
  .exfalso
   obtain⟨c1,c2,c3,c4,_⟩:=NF hcase;rw[he,hna] at hcase
   have:a'=a:=by
    simp only[Bool.and_true,if_true] at hcase;split at hcase
    .split at hcase
     .cases hcase; rfl
     .cases hcase
    .cases hcase
   subst this;exact hb _ (by omega) c2 c4
theorem AZ3 {a:ByteArray}{k i:Nat}(hi:i<(elN a k).size)(h:i=a.size):(elN a k)[i]=91:=by
 subst h
 have h1:(elN a k).data.toList[a.size]?=some 91:=by
  rw[RG,List.getElem?_append_right (by show a.data.toList.length<=a.data.size; simp)];have:a.size-a.data.toList.length=0:=by show a.data.size-a.data.toList.length=0; simp
  rw[this]; rfl
 have h2:(elN a k).data[a.size]?=some 91:=by rw[<-Array.getElem?_toList]; exact h1
 have hk':a.size<(elN a k).data.size:=hi;rw[Array.getElem?_eq_getElem hk'] at h2;exact Option.some.inj h2
theorem AHL (a:ByteArray)(k:Nat):(elN a k).extract 0 a.size=a:=by
 refine AEC ?_;have:(elN a k)=⟨(a.data.toList++[91,UInt8.ofNat (48+k),93]).toArray⟩:=AEC (RG a k);rw[this];have e:a.size=a.data.toList.length:=(Array.length_toList (xs:=a.data)).symm;rw[e,AN9]
theorem AQG (G:Nat->AV)(s:ByteArray)(h:Hp)(hl:s.size<=1048576):PCall (En G) 157 [.str s] h (.bool (JI s)):=by
 refine acN Tryz.func157 rfl ?_;show awp _ _ _ _ _ (EK _ [.tmp 2] _);simp -implicitDefEqProofs only[vQ,BD,↓reduceIte,jA,enX,enP];refine(Q4 G s h).use ?_;cases hn:I4 s
 case true =>
  simp -implicitDefEqProofs only[vQ,BD,↓reduceIte];exact⟨by unfold JI; rw[hn,qP],trivial⟩
 have hv:JI s=(KG s).isSome:=by unfold JI; rw[hn,jV]
 rw[hv];clear hn hv;simp -implicitDefEqProofs only[vQ,BD,↓reduceIte];refine D7 (fun n F H=>∃k,1<=k∧n+k=s.size+1∧(∀a j,j<8->I4 a=true->a.size<k->s≠elN a j)∧F 0=.str s∧F 3=.int .i64 (k:Nat)∧H=h) s.size ⟨1,by omega,by omega,fun a j hj ha hs e=>?_,by simp -implicitDefEqProofs only[vQ,↓reduceIte,jA],by simp -implicitDefEqProofs only[AA,↓reduceIte]; rfl,rfl⟩ ?_
 .have:=(SL (l:=a.data.toList) (by rw[AKA]; exact ha)).1
  have h2:a.data.toList.length=a.size:=Array.length_toList;have:=List.length_pos_iff.2 this;omega
 rintro n F H ⟨k,hk1,hk,hb,f0,f3,rfl⟩;simp -implicitDefEqProofs only[vQ,BD,↓reduceIte,jA,enP,ln9,f0,f3];refine C9 (fun hc=>?_) (fun hc=>?_)
 .have hk':k<s.size:=by simpa using hc
  have hnext:∀F':Fr,F' 0=.str s->F' 3=.int .i64 (k:Nat)->(∀a j,j<8->I4 a=true->a.size=k->s≠elN a j)->∃m,m<n∧∃k',1<=k'∧m+k'=s.size+1∧(∀a j,j<8->I4 a=true->a.size<k'->s≠elN a j)∧k'=k+1:=fun F' _ _ hk2 =>
   ⟨n-1,by omega,k+1,by omega,by omega,fun a j hj ha hs=>by
    rcases jY a.size k with h1|h1
    .exact hb a j hj ha h1
    .exact hk2 a j hj ha (by omega),rfl⟩
  simp -implicitDefEqProofs only[vQ,CV,BD,NI,↓reduceIte,jA,enP,f0,f3,ix9 s k .i64 hk'];refine KR (fun hx=>?_) (fun hx=>?_)
  .simp -implicitDefEqProofs only[vQ,CV,BD,EY,↓reduceIte,jA,enP,hx,f3,wrap_succ (show k<9223372036854775807 by omega)]
   obtain⟨m,hm,k',h1,h2,h3,rfl⟩:=hnext F f0 f3 (fun a j hj ha hs e=>by
    subst e;rw[AZ3 hk' hs.symm] at hx
    revert hx; decide)
   exact⟨m,hm,k+1,h1,h2,h3,by trivial,rfl,trivial⟩
  simp -implicitDefEqProofs only[vQ,qU,qZ,CV,BD,OV,↓reduceIte,jA,enP,hx,f0,f3,AC0 (Nat.le_of_lt hk')];refine(Q4 G (s.extract 0 k) _).use ?_;simp -implicitDefEqProofs only[vQ,CV,BD,↓reduceIte,jA,hx];refine C9 (fun hy=>?_) (fun hy=>?_)
  .simp -implicitDefEqProofs only[vQ,BD,↓reduceIte,jA,enP,f3,wrap_succ (show k<9223372036854775807 by omega)]
   obtain⟨m,hm,k',h1,h2,h3,rfl⟩:=hnext F f0 f3 (fun a j hj ha hs e=>by
    subst e;subst hs;rw[AHL,ha] at hy
    cases hy)
   exact⟨m,hm,k+1,h1,h2,h3,by trivial,rfl,trivial⟩
  have hna:I4 (s.extract 0 k)=true:=by simpa using hy
  simp -implicitDefEqProofs only[vQ,BD];refine GI 2 (fun F' H'=>F' 0=.str s∧F' 3=.int .i64 (k:Nat)∧H'=H∧∀j,j<8->s≠elN (s.extract 0 k) j) (fun F' H'=>F' 2=.bool (KG s).isSome∧H'=H) ?_ ?_ ?_
  .refine D7 (fun n' F' H'=>∃i,n'+i=8∧(∀j,j<i->j<8->s≠elN (s.extract 0 k) j)∧F' 0=.str s∧F' 3=.int .i64 (k:Nat)∧F' 4=.int .i64 (i:Nat)∧H'=H) 8 ⟨0,by simp,fun j hj=>absurd hj (by omega),by simp -implicitDefEqProofs only[AA,↓reduceIte,jA,f0],by simp -implicitDefEqProofs only[AA,↓reduceIte,jA,f3],by simp -implicitDefEqProofs only[AA,↓reduceIte]; rfl,rfl⟩ ?_
   clear f0 f3;rintro n' F H ⟨i,hi,hbi,f0,f3,f4,rfl⟩;simp -implicitDefEqProofs only[vQ,BD,↓reduceIte,enP,f4];refine C9 (fun hc=>?_) (fun hc=>?_)
   .have hi':i<8:=by simp at hc; omega
    simp -implicitDefEqProofs only[vQ,qU,qZ,BD,OV,↓reduceIte,jA,enP,f0,f3,f4,AC0 (Nat.le_of_lt hk')];refine(ADZ G (s.extract 0 k) i hi' _ (by simp [ByteArray.size_extract]; omega)).use ?_;simp -implicitDefEqProofs only[vQ,BD,LH,↓reduceIte,jA,enP];refine C9 (fun hp=>?_) (fun hp=>?_)
    .simp -implicitDefEqProofs only[vQ,BD,↓reduceIte]
     refine⟨?_,trivial⟩;have:=(AJ8 _ _).1 hp;rw[this,AF1 hi' hna]; rfl
    .simp -implicitDefEqProofs only[vQ,BD,↓reduceIte,jA,enP,f4,wrap_succ (show i<9223372036854775807 by omega)]
     refine⟨n'-1,by omega,i+1,by omega,fun j hj h8=>?_,by trivial,by trivial,rfl,trivial⟩;rcases jY j i with h1|h1
     .exact hbi j h1 h8
     .obtain rfl:j=i:=by omega
      intro e;rw[(AJ8 _ _).2 e] at hp;cases hp
   .have hi':8<=i:=by simp at hc; omega
    simp -implicitDefEqProofs only[vQ,↓reduceIte,jA];exact⟨f0,f3,trivial,fun j hj=>hbi j (by omega) hj⟩
  .rintro F' H' ⟨g0,g3,rfl,hno⟩
   simp -implicitDefEqProofs only[vQ,BD,↓reduceIte,jA,enP,g3,wrap_succ (show k<9223372036854775807 by omega)]
   obtain⟨m,hm,k',h1,h2,h3,rfl⟩:=hnext F' g0 g3 (fun a j hj ha hs e=>by
    refine hno j hj ?_
    rw[e,<-hs,AHL])
   exact⟨m,hm,k+1,h1,h2,h3,by first|exact g0|trivial,rfl,trivial⟩
  .rintro F' H' ⟨g2,rfl⟩
   simp -implicitDefEqProofs only[vQ,g2];exact⟨trivial,trivial⟩
 .have hk':¬k<s.size:=by simpa using hc
  simp -implicitDefEqProofs only[vQ,BD,↓reduceIte];refine⟨?_,trivial⟩;rcases hcase:KG s with _|⟨a,d⟩
  .rfl
  .exfalso
   obtain⟨c1,c2,c3,c4,c5⟩:=NF hcase;refine hb ⟨a.toArray⟩ _ c2 c3 ?_ c4;rw[szl]; omega
def PE (l:List Vr)(s:ByteArray):Bool:=match KG s with
 | some (a,d)=>decide (1<=d.toNat-48)&&decide (plc l (elN ⟨a.toArray⟩ (d.toNat-48-1))<0)
 | none=>false
theorem ATK {s:ByteArray}(h:I4 s=true):(Lib.cut s.data.toList [91]).2.2=false:=by
 obtain⟨_,hne⟩:=SL (l:=s.data.toList) (by rw[AKA]; exact h)
 have:Lib.index s.data.toList [91] = -1:=Lib.index_none fun j _=>by
  rw[<-Bool.not_eq_true];intro ho;have:=Lib.occAt_head rfl ho;exact hne 91 (zV this) rfl
 unfold Lib.cut;rw[this,if_neg (by omega)]
theorem ATL {s:ByteArray}{a:List UInt8}{d:UInt8}(h:KG s=some (a,d)):(Lib.cut s.data.toList [91]).1=a∧(Lib.cut s.data.toList [91]).2.2=true:=by
 rw[AD0] at h;split at h
 case isFalse=>cases h
 rename_i hc;split at h
 case h_2=>cases h
 split at h
 case isFalse=>cases h
 cases h;exact⟨rfl,(Bool.and_eq_true_iff.1 hc).1⟩
theorem AST (G:Nat->AV)(hG:GOk G)(l:List Vr)(m:SM)(s:ByteArray)(h:Hp)(hl:l.length<=1099511627776)(hs:s.size<=1048576)(hv:JI s=true):PCall (En G) 121 [.sl m 4 (l.map FI),.str s] h (.bool (PE l s)):=by
 refine acN Tryz.func121 rfl ?_;show awp _ _ _ _ _ (EK _ [.tmp 4] _);simp -implicitDefEqProofs only[vQ,BD,↓reduceIte,jA,enX,enP];refine(AD3 G hG s h hs).use ?_;unfold cutV;rcases hcase:KG s with _|⟨a,d⟩
 .have hn:I4 s=true:=by
   unfold JI at hv; rw[hcase] at hv; simpa using hv
  have hg:PE l s=false:=by unfold PE; rw[hcase]
  rw[ATK hn,hg];simp -implicitDefEqProofs only[vQ,jT,jU,BD,↓reduceIte,jA];exact⟨trivial,trivial⟩
 obtain⟨e1,e2⟩:=ATL hcase;obtain⟨c1,c2,c3,c4,c5⟩:=NF hcase;have hg:PE l s=(decide (1<=d.toNat-48)&&decide (plc l (elN ⟨a.toArray⟩ (d.toNat-48-1))<0)):=by unfold PE; rw[hcase]
 rw[e1,e2,hg];clear hg hcase e1 e2;generalize d.toNat-48=q at c2 c4|-;simp -implicitDefEqProofs only[vQ,jT,jU,BD,↓reduceIte,jA,jZ];refine D7 (fun n F H=>∃k,n+k=8∧1<=k∧(∀j,1<=j->j<k->j≠q)∧F 0=.sl m 4 (l.map FI)∧F 1=.str s∧F 5=.str ⟨a.toArray⟩∧F 8=.int .i64 (k:Nat)∧H=h) 7 ⟨1,by simp,by omega,fun j h1 h2=>absurd h2 (by omega),by simp -implicitDefEqProofs only[vQ,↓reduceIte,jA],by simp -implicitDefEqProofs only[vQ,↓reduceIte,jA],by simp -implicitDefEqProofs only[AA,↓reduceIte,jA],by simp -implicitDefEqProofs only[AA,↓reduceIte]; rfl,rfl⟩ ?_;rintro n F H ⟨k,hk,hk1,hb,f0,f1,f5,f8,rfl⟩;simp -implicitDefEqProofs only[vQ,BD,↓reduceIte,enP,f8];refine C9 (fun hc=>?_) (fun hc=>?_)
 .have hk':k<8:=by simp at hc; omega
  simp -implicitDefEqProofs only[vQ,BD,↓reduceIte,jA,f1,f5,f8];refine(AA1 G ⟨a.toArray⟩ k hk' H (by rw[szl]; omega)).use ?_;simp -implicitDefEqProofs only[vQ,BD,LH,↓reduceIte,jA,enP,f1];refine C9 (fun hp=>?_) (fun hp=>?_)
  .have hq:k=q:=by
    have:=(AJ8 _ _).1 hp;rw[c4] at this;exact(AOC c2 hk' this).symm
   have hw:IntKind.i64.wrap (((k:Nat):Int)-1)=((k-1:Nat):Int):=by rw[wrap_i64 (by omega) (by omega)]; omega
   simp -implicitDefEqProofs only[vQ,BD,LG,↓reduceIte,jA,enP,f0,f5,f8,hw];refine(AA1 G ⟨a.toArray⟩ (k-1) (by omega) H (by rw[szl]; omega)).use ?_;simp -implicitDefEqProofs only[vQ,BD,↓reduceIte,jA,f0];refine(index_prog G l m _ H hl).use ?_;simp -implicitDefEqProofs only[vQ,BD,↓reduceIte,enP];refine⟨?_,trivial⟩;rw[<-hq,decide_eq_true hk1,Bool.true_and]
  .simp -implicitDefEqProofs only[vQ,BD,↓reduceIte,jA,enP,f8,wrap_succ (show k<9223372036854775807 by omega)]
   refine⟨n-1,by omega,k+1,by omega,by omega,fun j h1 h2=>?_,by trivial,by trivial,by trivial,rfl,trivial⟩;rcases jY j k with h3|h3
   .exact hb j h1 h3
   .obtain rfl:j=k:=by omega
    intro e;rw[(AJ8 _ _).2 (by rw[c4,e])] at hp;cases hp
 .simp -implicitDefEqProofs only[vQ,BD,↓reduceIte]
  have hk':8<=k:=by simp at hc; omega
  refine⟨?_,trivial⟩;have:¬1<=q:=fun h1=>hb q h1 (by omega) rfl
  rw[decide_eq_false this,Bool.false_and]
theorem ATW {s:ByteArray}{k:Nat}(hk:k<s.size):s.data.toList[k]?=some s[k]:=by
 have h2:s.data[k]?=some s[k]:=Array.getElem?_eq_getElem hk;rw[Array.getElem?_toList]; exact h2
theorem A3F {s:ByteArray}(hv:JI s=true){k:Nat}(hk:k<s.size)(hb:s[k]=91):∃a d,KG s=some (a,d)∧k=a.length∧s.extract 0 k=⟨a.toArray⟩:=by
 have hg:=ATW hk;rw[hb] at hg;rcases hcase:KG s with _|⟨a,d⟩
 .exfalso
  have hn:I4 s=true:=by unfold JI at hv; rw[hcase] at hv; simpa using hv
  exact(SL (l:=s.data.toList) (by rw[AKA]; exact hn)).2 91 (zV hg) rfl
 .obtain⟨c1,c2,c3,c4,c5⟩:=NF hcase
  refine⟨a,d,rfl,?_⟩;have hna:=(SL c3).2;rw[c4,RG] at hg
  have hkk:k=a.length:=by
   rcases Nat.lt_trichotomy k a.length with h1|h1|h1
   .exfalso
    rw[List.getElem?_append_left (by simpa using h1)] at hg;exact hna 91 (zV hg) rfl
   .exact h1
   .exfalso
    rw[List.getElem?_append_right (by simp; omega)] at hg;simp only at hg;obtain⟨j,hj⟩:∃j,k-a.length=j+1:=⟨k-a.length-1,by omega⟩
    rw[hj,jU] at hg;have:j=0∨j=1:=by omega
    rcases this with rfl|rfl
    .simp only[jT,Option.some.injEq] at hg
     have:=congrArg UInt8.toNat hg;rw[AHP c2] at this;have h91:(91:UInt8).toNat=91:=rfl;omega
    .simp only[jU,jT,Option.some.injEq] at hg
     exact absurd hg (by decide)
  refine⟨hkk,?_⟩;have:=AHL ⟨a.toArray⟩ (d.toNat-48);rw[szl,<-c4,<-hkk] at this;exact this
theorem AWD (G:Nat->AV)(l:List Vr)(m:SM)(h:Hp)(hl:l.length<=1048576)(hv:∀v∈l,JI v.name=true∧v.name.size<=1048576):PCall (En G) 110 [.sl m 4 (l.map FI)] h (.bool (l.any fun v=>PE l v.name)):=by
 refine acN Tryz.func110 rfl ?_;show awp _ _ _ _ _ (EK _ [.tmp 2] _);simp -implicitDefEqProofs only[vQ,BD,enX,enP];refine D7 (fun n F H=>∃i,n+i=l.length∧(∀(j:Nat) (hj:j<i) (hl:j<l.length),PE l l[j].name=false)∧F 0=.sl m 4 (l.map FI)∧F 3=.int .i64 (i:Nat)∧H=h) l.length ⟨0,by simp,fun j hj=>absurd hj (by omega),by simp -implicitDefEqProofs only[vQ,↓reduceIte,jA],by simp -implicitDefEqProofs only[AA,↓reduceIte]; rfl,rfl⟩ ?_;rintro n F H ⟨i,hi,hb,f0,f3,rfl⟩;simp -implicitDefEqProofs only[vQ,BD,↓reduceIte,jA,enP,RZ,f0,f3,jR];refine C9 (fun hc=>?_) (fun hc=>?_)
 .have hi':i<l.length:=by simpa using hc
  obtain⟨hvi,hsz⟩:=hv _ (zC hi');have l0:DF Tryz.prog H 9 (.fptr 4 (l.map FI) i 0)=some (.str l[i].name):=by rw[FX ag9 hi']; rfl
  have hany:PE l l[i].name=true->(l.any fun v=>PE l v.name)=true:=fun hg=>List.any_eq_true.2 ⟨_,zC hi',hg⟩
  generalize hs:l[i].name=s at hvi hsz l0 hany;simp -implicitDefEqProofs only[vQ,BD];refine GI 2 (fun F' H'=>F' 0=.sl m 4 (l.map FI)∧F' 3=.int .i64 (i:Nat)∧H'=H∧PE l s=false) (fun F' H'=>F' 2=.bool (l.any fun v=>PE l v.name)∧H'=H) ?_ ?_ ?_
  .refine D7 (fun n' F' H'=>∃k,1<=k∧n'+k=s.size+1∧(∀a d,KG s=some (a,d)->a.length<k->PE l s=false)∧F' 0=.sl m 4 (l.map FI)∧F' 3=.int .i64 (i:Nat)∧F' 4=.int .i64 (k:Nat)∧H'=H) s.size ⟨1,by omega,by omega,fun a d ha h1=>?_,by simp -implicitDefEqProofs only[AA,↓reduceIte,jA,f0],by simp -implicitDefEqProofs only[AA,↓reduceIte,jA,f3],by simp -implicitDefEqProofs only[AA,↓reduceIte]; rfl,rfl⟩ ?_
   .exfalso
    have:=(SL (NF ha).2.2.1).1;have:=List.length_pos_iff.2 this;omega
   clear f0 f3;rintro n' F H ⟨k,hk1,hk,hbk,f0,f3,f4,rfl⟩;simp -implicitDefEqProofs only[vQ,BD,↓reduceIte,jA,enP,ln9,QP,O1,f0,f3,f4,EZ hi',l0];refine C9 (fun hc=>?_) (fun hc=>?_)
   .have hk':k<s.size:=by simpa using hc
    simp -implicitDefEqProofs only[vQ,BD,NI,↓reduceIte,jA,enP,QP,O1,f0,f3,f4,EZ hi',l0,ix9 s k .i64 hk'];refine C9 (fun hx=>?_) (fun hx=>?_)
    .simp -implicitDefEqProofs only[vQ,BD,↓reduceIte,jA,enP,f4,wrap_succ (show k<9223372036854775807 by omega)]
     refine⟨n'-1,by omega,k+1,by omega,by omega,fun a d ha h1=>?_,f0,f3,rfl,trivial⟩;rcases jY a.length k with h2|h2
     .exact hbk a d ha h2
     .exfalso
      obtain⟨c1,c2,c3,c4,c5⟩:=NF ha
      have h3:s[k]=91:=by
       have h4:s.data.toList[k]?=some 91:=by
        rw[c4,RG,List.getElem?_append_right (by simp; omega)];have:k-(⟨a.toArray⟩:ByteArray).data.toList.length=0:=by simp; omega
        rw[this]; rfl
       rw[ATW hk'] at h4;exact Option.some.inj h4
      rw[h3] at hx
      revert hx; decide
    have hbr:s[k]=91:=by
     have h0:((s[k].toNat:Int)==91)=true:=by
      simpa [bne] using hx
     have h1:(s[k].toNat:Int)=91:=by simpa using h0
     exact UInt8.toNat_inj.1 (by show _=91; omega)
    obtain⟨a,d,ha,hka,hext⟩:=A3F hvi hk' hbr;obtain⟨c1,c2,c3,c4,c5⟩:=NF ha;have hgv:PE l s=(decide (1<=d.toNat-48)&&decide (plc l (elN ⟨a.toArray⟩ (d.toNat-48-1))<0)):=by unfold PE; rw[ha]
    have hasz:(⟨a.toArray⟩:ByteArray).size<=1048576:=by rw[szl]; omega
    generalize d.toNat-48=q at c2 c4 hgv;simp -implicitDefEqProofs only[vQ,BD];refine GI 4 (fun F' H'=>F' 0=.sl m 4 (l.map FI)∧F' 3=.int .i64 (i:Nat)∧F' 4=.int .i64 (k:Nat)∧H'=H∧PE l s=false) (fun F' H'=>F' 2=.bool (l.any fun v=>PE l v.name)∧H'=H) ?_ ?_ ?_
    .refine D7 (fun n2 F' H'=>∃t,1<=t∧n2+t=8∧(1<=q->q<t->PE l s=false)∧F' 0=.sl m 4 (l.map FI)∧F' 3=.int .i64 (i:Nat)∧F' 4=.int .i64 (k:Nat)∧F' 5=.int .i64 (t:Nat)∧H'=H) 7 ⟨1,by omega,by omega,fun h1 h2=>absurd h2 (by omega),by simp -implicitDefEqProofs only[AA,↓reduceIte,jA,f0],by simp -implicitDefEqProofs only[AA,↓reduceIte,jA,f3],by simp -implicitDefEqProofs only[AA,↓reduceIte,jA,f4],by simp -implicitDefEqProofs only[AA,↓reduceIte]; rfl,rfl⟩ ?_
     clear f0 f3 f4;rintro n2 F H ⟨t,ht1,ht,hbt,f0,f3,f4,f5,rfl⟩;simp -implicitDefEqProofs only[vQ,BD,↓reduceIte,enP,f5];refine C9 (fun hc=>?_) (fun hc=>?_)
     .have ht':t<8:=by simp at hc; omega
      have hw:IntKind.i64.wrap (((t:Nat):Int)-1)=((t-1:Nat):Int):=by rw[wrap_i64 (by omega) (by omega)]; omega
      simp -implicitDefEqProofs only[vQ];refine GL (by kernel_rfl) ?_;simp -implicitDefEqProofs only[vQ,qU,qZ,VZ,OV,↓reduceIte,jA,jM,enP,QP,O1,f0,f3,f4,f5,EZ hi',l0,AC0 (Nat.le_of_lt hk'),hext];refine⟨_,ADZ G ⟨a.toArray⟩ t ht' _ hasz,?_⟩;simp -implicitDefEqProofs only[vQ,CV,LH,↓reduceIte,jM]
      have nxt:PE l s=false∨t≠q->∃m',m'<n2∧∃t',1<=t'∧m'+t'=8∧(1<=q->q<t'->PE l s=false)∧t'=t+1:=fun hh =>
       ⟨n2-1,by omega,t+1,by omega,by omega,fun h1 h2=>by
        rcases hh with hh|hh
        .exact hh
        .exact hbt h1 (by omega),rfl⟩
      refine A32 (fun hp=>?_) (fun hp=>?_)
      .have hq:t=q:=by
        have:=(AJ8 _ _).1 hp;rw[c4] at this;exact(AOC c2 ht' this).symm
       simp -implicitDefEqProofs only[vQ,qU,qZ,QM,VZ,CV,OV,LG,↓reduceIte,jA,jM,enP,QP,O1,hp,f0,f3,f4,f5,EZ hi',l0,AC0 (Nat.le_of_lt hk'),hext,hw];refine⟨_,ADZ G ⟨a.toArray⟩ (t-1) (by omega) _ hasz,?_⟩
       try simp -implicitDefEqProofs only[hp]
       refine⟨_,XT G l m _ _ (by omega),?_⟩;simp -implicitDefEqProofs only[vQ,↓reduceIte,jA,jM,hp];refine C9 (fun hz=>?_) (fun hz=>?_)
       .simp -implicitDefEqProofs only[vQ,BD,↓reduceIte]
        refine⟨?_,trivial⟩;rw[hany];rw[hgv,<-hq,decide_eq_true ht1,hz]; rfl
       .simp -implicitDefEqProofs only[vQ,BD,↓reduceIte,jA,enP,f5,wrap_succ (show t<9223372036854775807 by omega)]
        obtain⟨m',hm,t',h1,h2,h3,rfl⟩:=nxt (.inl (by rw[hgv,<-hq,hz,Bool.and_false]));exact⟨m',hm,t+1,h1,h2,h3,f0,f3,f4,rfl,trivial⟩
      .simp -implicitDefEqProofs only[vQ,U6,CV,BD,EY,↓reduceIte,jA,jM,enP,hp,f5,wrap_succ (show t<9223372036854775807 by omega)]
       obtain⟨m',hm,t',h1,h2,h3,rfl⟩:=nxt (.inr (fun e=>by
        rw[(AJ8 _ _).2 (by rw[c4,e])] at hp
        cases hp))
       exact⟨m',hm,t+1,h1,h2,h3,f0,f3,f4,rfl,trivial⟩
     .have ht':8<=t:=by simp at hc; omega
      simp -implicitDefEqProofs only[vQ,↓reduceIte,jA];refine⟨f0,f3,f4,trivial,?_⟩;rcases jY q 1 with h1|h1
      .rw[hgv,decide_eq_false (by omega),Bool.false_and]
      .exact hbt h1 (by omega)
    .rintro F' H' ⟨g0,g3,g4,rfl,hno⟩
     simp -implicitDefEqProofs only[vQ,BD,↓reduceIte,jA,enP,g4,wrap_succ (show k<9223372036854775807 by omega)];exact⟨n'-1,by omega,k+1,by omega,by omega,fun _ _ _ _=>hno,g0,g3,rfl,trivial⟩
    .rintro F' H' ⟨g2,rfl⟩
     simp -implicitDefEqProofs only[vQ,g2];exact⟨trivial,trivial⟩
   .have hk':¬k<s.size:=by simpa using hc
    simp -implicitDefEqProofs only[vQ,↓reduceIte,jA];refine⟨f0,f3,trivial,?_⟩;rcases hcase:KG s with _|⟨a,d⟩
    .unfold PE; rw[hcase]
    .exact hbk a d hcase (by have:=(NF hcase).2.2.2.2; omega)
  .rintro F' H' ⟨g0,g3,rfl,hno⟩
   simp -implicitDefEqProofs only[vQ,BD,↓reduceIte,jA,enP,g3,wrap_succ (show i<9223372036854775807 by omega)];refine⟨n-1,by omega,i+1,by omega,fun j hj hl=>?_,g0,rfl,trivial⟩;rcases jY j i with h1|h1
   .exact hb j h1 hl
   .obtain rfl:j=i:=by omega
    rw[hs]; exact hno
  .rintro F' H' ⟨g2,rfl⟩
   simp -implicitDefEqProofs only[vQ,g2];exact⟨trivial,trivial⟩
 .simp -implicitDefEqProofs only[vQ,BD,↓reduceIte]
  have hi':¬i<l.length:=by simpa using hc
  refine⟨?_,trivial⟩
  have:(l.any fun v=>PE l v.name)=false:=by
   rw[List.any_eq_false];intro v hv;obtain⟨j,hj,rfl⟩:=qW hv;rw[hb j (by omega) hj]; decide
  rw[this]
def PG {α:Type}(f:α->Int):List α->Int
 | []=>0
 | x::r=>if f x≠0 then f x else PG f r
theorem Q8 {α:Type}(f:α->Int):∀(xs:List α) (k:Nat) (hk:k<xs.length),(∀(j:Nat) (hj:j<k),f (xs[j]'(by omega))=0)->f xs[k]≠0->PG f xs=f xs[k]
 | x::r,0,_,_,h=>by
   have h:f x≠0:=h;show(if f x≠0 then f x else PG f r)=f x;rw[if_pos h]
 | x::r,k+1,hk,hb,h=>by
   have h0:f x=0:=hb 0 (by omega);have ih:=Q8 f r k (by simpa using hk) (fun j hj=>hb (j+1) (by omega)) h;show(if f x≠0 then f x else PG f r)=f (r[k]'(by simpa using hk));rw[if_neg (by simp [h0]),ih]
theorem PQ {α:Type}(f:α->Int):∀xs:List α,(∀(j:Nat) (hj:j<xs.length),f xs[j]=0)->PG f xs=0
 | [],_=>rfl
 | x::r,hb=>by
   have h0:f x=0:=hb 0 (by simp);show(if f x≠0 then f x else PG f r)=0;rw[if_neg (by simp [h0]),PQ f r fun j hj=>hb (j+1) (by simpa using hj)]
theorem WH {α:Type}{f:α->Int}:∀ {xs:List α},PG f xs=0->∀x∈xs,f x=0
 | y::r,h,x,hx=>by
   have h1:(if f y≠0 then f y else PG f r)=0:=h;split at h1
   .rename_i hy; exact absurd h1 hy
   .rename_i hy
    rcases List.mem_cons.1 hx with rfl|hx
    .simpa using hy
    .exact WH h1 x hx
def NH (v:Vr):Bool:=decide (v.width<1)||decide (v.width>8)||decide (v.mode<0)||decide (v.mode>2)||decide (v.value<0)||decide (v.value≥2^v.width.toNat)||(!(v.mode==0) && !(v.value==0))
def vrE (v:Vr):Int:=if JI v.name=true then if NH v=true then 1 else 0 else 7
theorem A09:∀n:Nat,n<=8->JD Tryz.prog 3 .shl (.int .i64 1) (.int .i64 (n:Nat))=some (.int .i64 (2^n))
 | 0,_=>by kernel_rfl
 | 1,_=>by kernel_rfl
 | 2,_=>by kernel_rfl
 | 3,_=>by kernel_rfl
 | 4,_=>by kernel_rfl
 | 5,_=>by kernel_rfl
 | 6,_=>by kernel_rfl
 | 7,_=>by kernel_rfl
 | 8,_=>by kernel_rfl
 | n+9,h=>absurd h (by omega)
theorem AXZ {w:Int}(h0:¬w<1)(h1:¬w>8):JD Tryz.prog 3 .shl (.int .i64 1) (.int .i64 w)=some (.int .i64 (2^w.toNat)):=by
 obtain⟨n,rfl⟩:=Int.eq_ofNat_of_zero_le (by omega:0<=w);exact A09 n (by omega)
theorem AGN (G:Nat->AV)(v:Vr)(h:Hp)(hs:v.name.size<=1048576):PCall (En G) 108 [.agg (FI v)] h (.int .i64 (vrE v)):=by
 refine ACalls.pure0 rfl ?_;refine acN Tryz.func108 rfl ?_;show awp _ _ _ _ _ (EK _ [.tmp 2] _);simp -implicitDefEqProofs only[vQ,BD,↓reduceIte,jA,enP,O1,bxV,E5 ag9,ATF];refine(AQG G v.name _ hs).use ?_;cases hn:JI v.name
 .simp -implicitDefEqProofs only[vQ,BD,↓reduceIte]
  exact⟨by unfold vrE; rw[hn]; rfl,_,rfl⟩
 simp -implicitDefEqProofs only[vQ,CV,BD,↓reduceIte,jA,jZ,enP,LV,E5 ag3,ATE];have fin:∀b,NH v=b->vrE v=if b=true then 1 else 0:=fun b hb=>by unfold vrE; rw[hn,hb]; rfl
 cases b1:decide (v.width<1)
 case true =>
  simp -implicitDefEqProofs only[vQ,CV,BD,EY,↓reduceIte,jA,b1];exact⟨by rw[fin true (by unfold NH; rw[b1]; simp)]; rfl,_,rfl⟩
 simp -implicitDefEqProofs only[vQ,CV,BD,↓reduceIte,jA,enP,LV,b1,E5 ag3,ATE];cases b2:decide (v.width>8)
 case true =>
  simp -implicitDefEqProofs only[vQ,CV,BD,EY,↓reduceIte,jA,b2];exact⟨by rw[fin true (by unfold NH; rw[b2]; simp)]; rfl,_,rfl⟩
 simp -implicitDefEqProofs only[vQ,CV,BD,↓reduceIte,jA,enP,NC,b2,E5 ag3,ATD];cases b3:decide (v.mode<0)
 case true =>
  simp -implicitDefEqProofs only[vQ,CV,BD,EY,↓reduceIte,jA,b3];exact⟨by rw[fin true (by unfold NH; rw[b3]; simp)]; rfl,_,rfl⟩
 simp -implicitDefEqProofs only[vQ,CV,BD,↓reduceIte,jA,enP,NC,b3,E5 ag3,ATD];cases b4:decide (v.mode>2)
 case true =>
  simp -implicitDefEqProofs only[vQ,CV,BD,EY,↓reduceIte,jA,b4];exact⟨by rw[fin true (by unfold NH; rw[b4]; simp)]; rfl,_,rfl⟩
 simp -implicitDefEqProofs only[vQ,CV,BD,↓reduceIte,jA,enP,VN,b4,E5 ag3,AYB];cases b5:decide (v.value<0)
 case true =>
  simp -implicitDefEqProofs only[vQ,BD,↓reduceIte,b5];exact⟨by rw[fin true (by unfold NH; rw[b5]; simp)]; rfl,_,rfl⟩
 simp -implicitDefEqProofs only[vQ,b5];have hw1:¬v.width<1:=by simpa using b1
 have hw2:¬v.width>8:=by simpa using b2
 have hv0:¬v.value<0:=by simpa using b5
 have hsh:=AXZ hw1 hw2;have fin2:∀b,(decide (v.value≥2^v.width.toNat)||(!(v.mode==0) && !(v.value==0)))=b->vrE v=if b=true then 1 else 0:=fun b hb=>fin b (by unfold NH; rw[b1,b2,b3,b4,b5]; simpa using hb)
 refine GL (by kernel_rfl) ?_;have hp:(0:Int)<2^v.width.toNat:=Int.pow_pos (by decide);cases b6:(v.mode==0)<;>cases b7:(v.value==0)<;>cases b8:decide (v.value≥2^v.width.toNat)
 all_goals
  simp -implicitDefEqProofs only[vQ,QM,U6,AMT,CV,BD,EY,↓reduceIte,jA,jM,jZ,enP,LV,NC,VN,E5 ag3,ATE,ATD,AYB,hsh,b6,b7,b8,bne];refine⟨?_,_,rfl⟩;rw[fin2 _ rfl,b6,b7,b8]
  first
   | rfl
   | (exfalso
      simp at b7 b8
      omega)
def AHN (l:List Vr):Bool:=decide (∃i:Fin l.length,0<=plc (l.take i.1) (l[i.1]).name)
def L6 (l:List Vr):Int:=(l.map fun v=>if v.mode=0 then 0 else v.width).sum
def LY (l:List Vr):Int:=if l.length>16 then 2 else if PG vrE l≠0 then PG vrE l else if AHN l=true then 8 else if(l.any fun v=>PE l v.name)=true then 10 else if L6 l>20 then 2 else 0
theorem AI8 (v:Vr):JX v.name v=true:=by unfold JX; simp
theorem AI1 {l:List Vr}{i:Nat}(hi:i<l.length):(plc l l[i].name≠(i:Int))↔0<=plc (l.take i) l[i].name:=by
 constructor
 .intro h
  rcases Classical.em (0<=plc (l.take i) l[i].name) with h1|h1
  .exact h1
  .exfalso
   refine h (QD _ l i hi (fun j hj=>?_) (AI8 _));refine APV (JX l[i].name) (l.take i) (by unfold plc at h1; omega) _ ?_;have:(l.take i)[j]'(by rw[zX]; omega)=l[j]:=List.getElem_take;rw[<-this]; exact zC _
 .intro h e
  obtain⟨k,hk,_,h2,h3⟩:=ADL (JX l[i].name) (l.take i) h;rw[zX] at hk;rw[List.getElem_take] at h2;have h0:0<=plc l l[i].name:=by rw[e]; omega
  obtain⟨k',hk',e1,_,e3⟩:=ADL (JX l[i].name) l h0
  have:k'=i:=by
   have e1:plc l l[i].name=(k':Int):=e1;omega
  have:=e3 k (by omega);rw[this] at h2; cases h2
theorem AJS {l:List Vr}{i:Nat}(hi:i<l.length)(h:0<=plc (l.take i) l[i].name):AHN l=true:=decide_eq_true ⟨⟨i,hi⟩,h⟩
theorem AF2 {l:List Vr}(h:∀(i:Nat) (hi:i<l.length),plc (l.take i) l[i].name<0):AHN l=false:=decide_eq_false fun⟨i,hi⟩=>by have:=h i.1 i.2; omega
theorem UQ {l:List Vr}{i:Nat}(hi:i<l.length):L6 (l.take (i+1))=L6 (l.take i)+(if l[i].mode=0 then 0 else l[i].width):=by
 unfold L6;rw[qK hi,List.map_append,List.sum_append];simp
theorem AD6 (l:List Vr)(hw:∀v∈l,vrE v=0):∀i,i<=l.length->0<=L6 (l.take i)∧L6 (l.take i)<=8*i
 | 0,_=>by simp [L6]
 | i+1,h=>by
   have ih:=AD6 l hw i (by omega);rw[UQ (by omega:i<l.length)];have:=hw _ (zC (by omega:i<l.length));unfold vrE at this;split at this
   .split at this
    .cases this
    .rename_i hb
     have:NH l[i]=false:=by simpa using hb
     unfold NH at this;simp only[Bool.or_eq_false_iff,decide_eq_false_iff_not] at this;split<;>omega
   .cases this
theorem al61 (h:Hp):J6 Tryz.prog h 65=some (.ptr h.length 0 0,h++[.live 4 [[.str ⟨#[]⟩,.int .i64 0,.int .i64 0,.int .i64 0]]]):=JU (row:=[.str ⟨#[]⟩,.int .i64 0,.int .i64 0,.int .i64 0]) (by kernel_rfl)
theorem st61 (h:Hp)(v:Vr):FO Tryz.prog (h++[.live 4 [[.str ⟨#[]⟩,.int .i64 0,.int .i64 0,.int .i64 0]]]) 65 (.ptr h.length 0 0) (.agg (FI v))=some (h++[.live 4 [FI v]]):=by
 rw[ACZ (cs:=FI v) (row:=[.str ⟨#[]⟩,.int .i64 0,.int .i64 0,.int .i64 0]) rfl AQ3 (CU _ _) (by exact jP 4),OA];rfl
theorem ldV {l:List Vr}{h:Hp}{i:Nat}(hi:i<l.length):DF Tryz.prog h 65 (.fptr 4 (l.map FI) i 0)=some (.agg (FI l[i])):=GM A3T AQ3 ADX hi
theorem A4C {l:List Vr}{h:Hp}{m:SM}{i:Nat}(hi:i<=l.length):∃m',MK Tryz.prog h 22 (.sl m 4 (l.map FI)) none (some (.int .i64 (i:Nat))) none=some (.sl m' 4 ((l.take i).map FI)):=by
 have hs:szO Tryz.prog 65=some 4:=AQ3;exact⟨AP5 m i (l.map FI).length,by rw[ANB A4A hs (by rw[jR]; exact hi),List.map_take]⟩
theorem AEQ (G:Nat->AV)(l:List Vr)(m:SM)(h:Hp)(hl:l.length<=1048576)(hs:∀v∈l,v.name.size<=1048576):PCall (En G) 50 [.sl m 4 (l.map FI)] h (.int .i64 (LY l)):=by
 refine acN Tryz.func50 rfl ?_;show awp _ _ _ _ _ (EK _ [.tmp 2] _);simp -implicitDefEqProofs only[vQ,BD,↓reduceIte,jA,enX,enP,RZ,jR];refine C9 (fun hc=>?_) (fun hc=>?_)
 .simp -implicitDefEqProofs only[vQ,BD,↓reduceIte]
  exact⟨by unfold LY; rw[if_pos (by simp at hc; omega)],trivial⟩
 have hlen:¬l.length>16:=by simp at hc; omega
 simp -implicitDefEqProofs only[vQ,BD];refine GI 0 (fun F H=>F 0=.sl m 4 (l.map FI)∧F 3=.int .i64 (L6 l)∧H=h∧PG vrE l=0) (fun F H=>F 2=.int .i64 (LY l)∧H=h) ?_ ?_ ?_
 .refine D7 (fun n F H=>∃i,n+i=l.length∧(∀(j:Nat) (hj:j<i) (hl:j<l.length),vrE l[j]=0)∧F 0=.sl m 4 (l.map FI)∧F 3=.int .i64 (L6 (l.take i))∧F 4=.int .i64 (i:Nat)∧H=h) l.length ⟨0,by simp,fun j hj=>absurd hj (by omega),by simp -implicitDefEqProofs only[vQ,↓reduceIte,jA],by simp -implicitDefEqProofs only[AA,↓reduceIte,jA]; rfl,by simp -implicitDefEqProofs only[AA,↓reduceIte]; rfl,rfl⟩ ?_
  rintro n F H ⟨i,hi,hb,f0,f3,f4,rfl⟩;simp -implicitDefEqProofs only[vQ,BD,↓reduceIte,jA,enP,RZ,f0,f4,jR];refine C9 (fun hc=>?_) (fun hc=>?_)
  .have hi':i<l.length:=by simpa using hc
   simp -implicitDefEqProofs only[vQ,BD,↓reduceIte,jA,enP,QP,f0,f4,EZ hi',ldV hi'];refine(AGN G l[i] H (hs _ (zC hi'))).use ?_;simp -implicitDefEqProofs only[vQ,BD,↓reduceIte,enP];refine C9 (fun he=>?_) (fun he=>?_)
   .simp -implicitDefEqProofs only[vQ,BD,↓reduceIte,jA]
    have he':vrE l[i]≠0:=by simpa [bne] using he
    refine⟨?_,trivial⟩;have:=Q8 vrE l i hi' (fun j hj=>hb j hj (by omega)) he';unfold LY;rw[if_neg hlen,this,if_pos he']
   .have he':vrE l[i]=0:=by simpa [bne] using he
    have hb2:∀(j:Nat) (hj:j<i+1) (hl:j<l.length),vrE l[j]=0:=fun j hj hl=>by
     rcases jY j i with h1|h1
     .exact hb j h1 hl
     .obtain rfl:j=i:=by omega
      exact he'
    have hbt:=UQ hi'
    have hbd:0<=L6 (l.take (i+1))∧L6 (l.take (i+1))<=8*((i+1:Nat):Int):=by
     have:=AD6 (l.take (i+1)) (fun v hv=>by
      obtain⟨j,hj,rfl⟩:=qW hv;rw[zX] at hj
      rw[List.getElem_take]; exact hb2 j (by omega) (by omega)) (i+1) (by rw[zX]; omega)
     rw[List.take_take,Nat.min_self] at this; exact this
    have l2:DF Tryz.prog H 3 (.fptr 4 (l.map FI) i 2)=some (.int .i64 l[i].mode):=by rw[FX ag3 hi']; rfl
    have l1:DF Tryz.prog H 3 (.fptr 4 (l.map FI) i 1)=some (.int .i64 l[i].width):=by rw[FX ag3 hi']; rfl
    simp -implicitDefEqProofs only[vQ,BD,↓reduceIte,jA,enP,QP,NC,f0,f4,EZ hi',l2];refine C9 (fun hm=>?_) (fun hm=>?_)
    .have hm':¬l[i].mode=0:=by simpa [bne] using hm
     rw[if_neg hm'] at hbt;have hw:IntKind.i64.wrap (L6 (l.take i)+l[i].width)=L6 (l.take (i+1)):=by rw[hbt,wrap_i64 (by omega) (by omega)]
     simp -implicitDefEqProofs only[vQ,BD,↓reduceIte,jA,enP,QP,LV,f0,f3,f4,EZ hi',l1,hw,wrap_succ (show i<9223372036854775807 by omega)];refine⟨n-1,by omega,i+1,by omega,hb2,by trivial,rfl,rfl,trivial⟩
    .have hm':l[i].mode=0:=by simpa [bne] using hm
     rw[if_pos hm',Int.add_zero] at hbt;simp -implicitDefEqProofs only[vQ,BD,↓reduceIte,jA,enP,f4,wrap_succ (show i<9223372036854775807 by omega)];refine⟨n-1,by omega,i+1,by omega,hb2,by trivial,by rw[hbt]; exact f3,rfl,trivial⟩
  .have hi':¬i<l.length:=by simpa using hc
   simp -implicitDefEqProofs only[vQ,↓reduceIte,jA];refine⟨f0,?_,trivial,PQ vrE l fun j hj=>hb j (by omega) hj⟩;rw[zH (by omega)] at f3; exact f3
 .rintro F H ⟨f0,f3,rfl,hz⟩
  have hall:=WH hz
  have hnm:∀v∈l,JI v.name=true∧v.name.size<=1048576:=by
   intro v hv;have:=hall v hv;unfold vrE at this;split at this
   .rename_i hn; exact⟨hn,hs v hv⟩
   .cases this
  have hv1:∀b,AHN l=b->LY l=if b=true then 8 else if(l.any fun v=>PE l v.name)=true then 10 else if L6 l>20 then 2 else 0:=fun b hb=>by
   unfold LY; rw[if_neg hlen,if_neg (by simp [hz]),hb]
  simp -implicitDefEqProofs only[vQ,BD,↓reduceIte];refine GI 2 (fun F' H'=>F' 0=.sl m 4 (l.map FI)∧F' 3=.int .i64 (L6 l)∧H'=H∧AHN l=false) (fun F' H'=>F' 2=.int .i64 (LY l)∧H'=H) ?_ ?_ ?_
  .refine D7 (fun n F' H'=>∃i,n+i=l.length∧(∀(j:Nat) (hj:j<i) (hl:j<l.length),plc (l.take j) l[j].name<0)∧F' 0=.sl m 4 (l.map FI)∧F' 3=.int .i64 (L6 l)∧F' 6=.int .i64 (i:Nat)∧H'=H) l.length ⟨0,by simp,fun j hj=>absurd hj (by omega),by simp -implicitDefEqProofs only[AA,↓reduceIte,jA,f0],by simp -implicitDefEqProofs only[AA,↓reduceIte,jA,f3],by simp -implicitDefEqProofs only[AA,↓reduceIte]; rfl,rfl⟩ ?_
   clear f0 f3;rintro n F H ⟨i,hi,hb,f0,f3,f6,rfl⟩;simp -implicitDefEqProofs only[vQ,BD,↓reduceIte,jA,enP,RZ,f0,f6,jR];refine C9 (fun hc=>?_) (fun hc=>?_)
   .have hi':i<l.length:=by simpa using hc
    have l0:DF Tryz.prog H 9 (.fptr 4 (l.map FI) i 0)=some (.str l[i].name):=by rw[FX ag9 hi']; rfl
    obtain⟨m',ht⟩:=A4C (h:=H) (m:=m) (Nat.le_of_lt hi');simp -implicitDefEqProofs only[vQ];refine GL (by kernel_rfl) ?_;simp -implicitDefEqProofs only[vQ,qU,qZ,VZ,OV,↓reduceIte,jA,jM,enP,QP,O1,f0,f6,ht,EZ hi',l0];refine⟨_,XT G (l.take i) m' l[i].name _ (by rw[zX]; omega),?_⟩;simp -implicitDefEqProofs only[vQ,↓reduceIte];refine C9 (fun he=>?_) (fun he=>?_)
    .simp -implicitDefEqProofs only[vQ,BD,↓reduceIte]
     refine⟨?_,trivial⟩;rw[hv1 true (AJS hi' (by simpa using he))]; rfl
    .simp -implicitDefEqProofs only[vQ,BD,↓reduceIte,jA,enP,f6,wrap_succ (show i<9223372036854775807 by omega)]
     refine⟨n-1,by omega,i+1,by omega,fun j hj hl=>?_,f0,f3,rfl,trivial⟩;rcases jY j i with h1|h1
     .exact hb j h1 hl
     .obtain rfl:j=i:=by omega
      simpa using he
   .have hi':¬i<l.length:=by simpa using hc
    simp -implicitDefEqProofs only[vQ,↓reduceIte,jA];exact⟨f0,f3,trivial,AF2 fun j hj=>hb j (by omega) hj⟩
  .rintro F' H' ⟨g0,g3,rfl,hd⟩
   have hv2:=hv1 _ hd;simp -implicitDefEqProofs only[vQ,BD,↓reduceIte,g0];refine(AWD G l m _ hl hnm).use ?_;simp -implicitDefEqProofs only[vQ,↓reduceIte];refine C9 (fun hg=>?_) (fun hg=>?_)
   .simp -implicitDefEqProofs only[vQ,BD,↓reduceIte]
    exact⟨by rw[hv2,hg]; rfl,trivial⟩
   simp -implicitDefEqProofs only[vQ,BD,↓reduceIte,jA,enP,g3];refine C9 (fun hx=>?_) (fun hx=>?_)
   .simp -implicitDefEqProofs only[vQ,BD,↓reduceIte]
    refine⟨?_,trivial⟩;rw[hv2,hg,if_neg (by decide),if_neg (by decide),if_pos (by simpa using hx)]
   .simp -implicitDefEqProofs only[vQ,BD,↓reduceIte]
    refine⟨?_,trivial⟩;rw[hv2,hg,if_neg (by decide),if_neg (by decide),if_neg (by simpa using hx)]
  .rintro F' H' ⟨g2,rfl⟩
   simp -implicitDefEqProofs only[vQ,g2];exact⟨trivial,trivial⟩
 .rintro F H ⟨f2,rfl⟩
  simp -implicitDefEqProofs only[vQ,f2];exact⟨trivial,trivial⟩
theorem A2E (G:Nat->AV)(hG:GOk G)(l:List Vr)(m:SM)(v:Vr)(c:Nat)(h:Hp)(hc:h[c]?=some (.live 1 [[.sl m 4 (l.map FI)]]))(hl:l.length<=1048576)(hs:v.name.size<=1048576)(hv:JI v.name=true) :
  PCall (En G) 120 ([.agg (FI v)]++[.ptr c 0 0]) h (.bool (PE l v.name)):=by
 refine ACalls.pure0 rfl ?_;refine acN Tryz.func120 rfl ?_;show awp _ _ _ _ _ (EK _ [.tmp 3] _);have hc':(h++[ABlk.live 4 [FI v]])[c]?=_:=BO hc;simp -implicitDefEqProofs only[vQ,BD,qA,qJ,↓reduceIte,jA,enP,O1,bxV,E5 ag9,ATF,JR TU hc'];refine(AST G hG l m v.name _ (by omega) hs hv).use ?_;simp -implicitDefEqProofs only[vQ,BD,↓reduceIte];exact⟨trivial,_,rfl⟩
set_option maxHeartbeats 1000000 in
theorem AOV (G:Nat->AV)(hG:GOk G)(l:List Vr)(m:SM)(h:Hp)(hl:l.length<=1048576)(hs:∀v∈l,v.name.size<=1048576):PCall (En G) 60 [.sl m 4 (l.map FI)] h (.int .i64 (LY l)):=by
 refine ACalls.pure0 rfl ?_;refine acN Tryz.func60 rfl ?_;show awp _ _ _ _ _ (EK _ [.tmp 2] _);have hb0:(h++[ABlk.live 1 [[.sl m 4 (l.map FI)]]])[h.length]?=some (.live 1 [[.sl m 4 (l.map FI)]]):=CU _ _;simp -implicitDefEqProofs only[vQ,AMC,BD,↓reduceIte,jA,enP,RZ,AMC,JR TU hb0,jR];refine C9 (fun hc=>?_) (fun hc=>?_)
 .simp -implicitDefEqProofs only[vQ,BD,↓reduceIte]
  exact⟨by unfold LY; rw[if_pos (by simp at hc; omega)],_,rfl⟩
 have hlen:¬l.length>16:=by simp at hc; omega
 simp -implicitDefEqProofs only[vQ,BD,↓reduceIte,jA,enP,RZ,JR TU hb0,jR];refine GI 0 (fun F H=>F 1=.ptr h.length 0 0∧H[h.length]?=some (.live 1 [[.sl m 4 (l.map FI)]])∧ext h H∧PG vrE l=0) (fun F H=>F 2=.int .i64 (LY l)∧ext h H) ?_ ?_ ?_
 .refine D7 (fun n F H=>∃i,n+i=l.length∧(∀(j:Nat) (hj:j<i) (hl:j<l.length),vrE l[j]=0)∧F 1=.ptr h.length 0 0∧F 11=.sl m 4 (l.map FI)∧F 12=.int .i64 (l.length:Nat)∧F 13=.int .i64 (i:Nat)∧H[h.length]?=some (.live 1 [[.sl m 4 (l.map FI)]])∧ext h H) l.length ⟨0,by simp,fun j hj=>absurd hj (by omega),by simp -implicitDefEqProofs only[AA,↓reduceIte,jA],by simp -implicitDefEqProofs only[AA,↓reduceIte,jA],by simp -implicitDefEqProofs only[AA,↓reduceIte,jA],by simp -implicitDefEqProofs only[AA,↓reduceIte]; rfl,hb0,⟨_,rfl⟩⟩ ?_
  rintro n F H ⟨i,hi,hb,f1,f11,f12,f13,hH,he⟩;simp -implicitDefEqProofs only[vQ,BD,↓reduceIte,enP,f12,f13];refine C9 (fun hc=>?_) (fun hc=>?_)
  .have hi':i<l.length:=by simpa using hc
   have hH1:(H++[ABlk.live 4 [FI l[i]]])[h.length]?=_:=BO hH;have hx1:ext h (H++[ABlk.live 4 [FI l[i]]]):=he.app _;have ge:=CU H (ABlk.live 4 [FI l[i]]);have hsv:=hs _ (zC hi')
   have hstp:∀(n':Nat),vrE l[i]=0->∃m',m'<n∧∃k,m'+k=l.length∧(∀(j:Nat) (hj:j<k) (hl:j<l.length),vrE l[j]=0)∧k=i+1:=fun _ hz =>
    ⟨n-1,by omega,i+1,by omega,fun j hj hl=>by
     rcases jY j i with h1|h1
     .exact hb j h1 hl
     .obtain rfl:j=i:=by omega
      exact hz,rfl⟩
   have hbad:vrE l[i]≠0->LY l=vrE l[i]:=fun hz=>by
    have:=Q8 vrE l i hi' (fun j hj=>hb j hj (by omega)) hz;unfold LY;rw[if_neg hlen,this,if_pos hz]
   simp -implicitDefEqProofs only[vQ,BD,↓reduceIte,jA,enP,QP,O1,jO,f11,f13,EZ hi',ldV hi',al61,st61];generalize H++[ABlk.live 4 [FI l[i]]]=H1 at hH1 hx1 ge|-;have l0:DF Tryz.prog H1 9 (.ptr H.length 0 0)=some (.str l[i].name):=by rw[DJ ag9 ge (row:=FI l[i]) rfl]; rfl
   have l1:DF Tryz.prog H1 3 (.ptr H.length 0 1)=some (.int .i64 l[i].width):=by rw[DJ ag3 ge (row:=FI l[i]) rfl]; rfl
   have l2:DF Tryz.prog H1 3 (.ptr H.length 0 2)=some (.int .i64 l[i].mode):=by rw[DJ ag3 ge (row:=FI l[i]) rfl]; rfl
   have l3:DF Tryz.prog H1 3 (.ptr H.length 0 3)=some (.int .i64 l[i].value):=by rw[DJ ag3 ge (row:=FI l[i]) rfl]; rfl
   generalize hv:l[i]=v at hsv hstp hbad l0 l1 l2 l3;simp -implicitDefEqProofs only[vQ,BD,↓reduceIte,l0];refine(ALD G hG v.name _ hsv).use ?_;cases hn:JI v.name
   .simp -implicitDefEqProofs only[vQ,BD,↓reduceIte]
    have:vrE v=7:=by unfold vrE; rw[hn]; rfl
    exact⟨by rw[hbad (by rw[this]; decide),this],hx1⟩
   have fin:∀b,NH v=b->vrE v=if b=true then 1 else 0:=fun b hb=>by unfold vrE; rw[hn,hb]; rfl
   have yes:NH v=true->AV.int .i64 1=AV.int .i64 (LY l):=fun hb=>by
    have:=fin true hb;rw[hbad (by rw[this]; decide),this]; rfl
   simp -implicitDefEqProofs only[vQ,BD,↓reduceIte,jZ];refine GL (by kernel_rfl) ?_;cases b1:decide (v.width<1)
   case true =>
    simp -implicitDefEqProofs only[vQ,AMT,CV,BD,EY,↓reduceIte,jA,jM,enP,LV,l1,b1];exact⟨yes (by unfold NH; rw[b1]; simp),hx1⟩
   cases b2:decide (v.width>8)
   case true =>
    simp -implicitDefEqProofs only[vQ,AMT,CV,BD,EY,↓reduceIte,jA,jM,enP,LV,l1,b1,b2];exact⟨yes (by unfold NH; rw[b2]; simp),hx1⟩
   cases b3:decide (v.mode<0)
   case true =>
    simp -implicitDefEqProofs only[vQ,AMT,CV,BD,EY,↓reduceIte,jA,jM,enP,LV,NC,l1,l2,b1,b2,b3];exact⟨yes (by unfold NH; rw[b3]; simp),hx1⟩
   cases b4:decide (v.mode>2)
   case true =>
    simp -implicitDefEqProofs only[vQ,AMT,CV,BD,EY,↓reduceIte,jA,jM,enP,LV,NC,l1,l2,b1,b2,b3,b4];exact⟨yes (by unfold NH; rw[b4]; simp),hx1⟩
   cases b5:decide (v.value<0)
   case true =>
    simp -implicitDefEqProofs only[vQ,AMT,CV,BD,EY,↓reduceIte,jA,jM,enP,LV,NC,VN,l1,l2,l3,b1,b2,b3,b4,b5];exact⟨yes (by unfold NH; rw[b5]; simp),hx1⟩
   have hsh:=AXZ (by simpa using b1) (by simpa using b2);cases b6:decide (v.value≥2^v.width.toNat)
   case true =>
    simp -implicitDefEqProofs only[vQ,AMT,CV,BD,EY,↓reduceIte,jA,jM,enP,LV,NC,VN,l1,l2,l3,hsh,b1,b2,b3,b4,b5,b6];exact⟨yes (by unfold NH; rw[b6]; simp),hx1⟩
   cases b7:(v.mode==0)<;>cases b8:(v.value==0)
   case false.false =>
    simp -implicitDefEqProofs only[vQ,QM,CV,BD,↓reduceIte,jA,jM,enP,LV,NC,VN,l1,l2,l3,hsh,b1,b2,b3,b4,b5,b6,b7,b8,bne];exact⟨yes (by unfold NH; rw[b7,b8]; simp),hx1⟩
   all_goals
    have hz:=fin false (by unfold NH; rw[b1,b2,b3,b4,b5,b6,b7,b8]; rfl);obtain⟨m',hm,k,k1,k2,rfl⟩:=hstp 0 hz;simp -implicitDefEqProofs only[vQ,QM,U6,CV,BD,EY,↓reduceIte,jA,jM,jZ,enP,LV,NC,VN,l1,l2,l3,hsh,b1,b2,b3,b4,b5,b6,b7,b8,bne,f13,wrap_succ (show i<9223372036854775807 by omega)];exact⟨m',hm,i+1,k1,k2,by trivial,by trivial,by trivial,rfl,hH1,hx1⟩
  .have hi':¬i<l.length:=by simpa using hc
   simp -implicitDefEqProofs only[vQ,↓reduceIte,jA];exact⟨f1,hH,he,PQ vrE l fun j hj=>hb j (by omega) hj⟩
 .rintro F H ⟨f1,hH,he,hz⟩
  have hall:=WH hz
  have hnm:∀v∈l,JI v.name=true∧v.name.size<=1048576:=by
   intro v hv;have:=hall v hv;unfold vrE at this;split at this
   .rename_i hn; exact⟨hn,hs v hv⟩
   .cases this
  have hv1:∀b,AHN l=b->LY l=if b=true then 8 else if(l.any fun v=>PE l v.name)=true then 10 else if L6 l>20 then 2 else 0:=fun b hb=>by
   unfold LY; rw[if_neg hlen,if_neg (by simp [hz]),hb]
  simp -implicitDefEqProofs only[vQ,BD,↓reduceIte,jA,enP,RZ,f1,JR TU hH,jR];refine GI 2 (fun F' H'=>F' 1=.ptr h.length 0 0∧F' 5=.int .i64 (L6 l)∧H'[h.length]?=some (.live 1 [[.sl m 4 (l.map FI)]])∧ext h H'∧AHN l=false) (fun F' H'=>F' 2=.int .i64 (LY l)∧ext h H') ?_ ?_ ?_
  .refine D7 (fun n F' H'=>∃i,n+i=l.length∧(∀(j:Nat) (hj:j<i) (hl:j<l.length),plc (l.take j) l[j].name<0)∧F' 1=.ptr h.length 0 0∧F' 5=.int .i64 (L6 (l.take i))∧F' 63=.sl m 4 (l.map FI)∧F' 64=.int .i64 (l.length:Nat)∧F' 65=.int .i64 (i:Nat)∧H'[h.length]?=some (.live 1 [[.sl m 4 (l.map FI)]])∧ext h H') l.length ⟨0,by simp,fun j hj=>absurd hj (by omega),by simp -implicitDefEqProofs only[AA,↓reduceIte,jA,f1],by simp -implicitDefEqProofs only[AA,↓reduceIte,jA]; rfl,by simp -implicitDefEqProofs only[AA,↓reduceIte,jA],by simp -implicitDefEqProofs only[AA,↓reduceIte,jA],by simp -implicitDefEqProofs only[AA,↓reduceIte]; rfl,hH,he⟩ ?_
   clear f1 hH he;rintro n F H ⟨i,hi,hb,f1,f5,f63,f64,f65,hH,he⟩;simp -implicitDefEqProofs only[vQ,BD,↓reduceIte,enP,f64,f65];refine C9 (fun hc=>?_) (fun hc=>?_)
   .have hi':i<l.length:=by simpa using hc
    have hH1:(H++[ABlk.live 4 [FI l[i]]])[h.length]?=_:=BO hH;have hx1:ext h (H++[ABlk.live 4 [FI l[i]]]):=he.app _;have ge:=CU H (ABlk.live 4 [FI l[i]]);simp -implicitDefEqProofs only[vQ,BD,↓reduceIte,jA,enP,QP,jO,f63,f65,EZ hi',ldV hi',al61,st61];generalize H++[ABlk.live 4 [FI l[i]]]=H1 at hH1 hx1 ge|-;have l0:DF Tryz.prog H1 9 (.ptr H.length 0 0)=some (.str l[i].name):=by rw[DJ ag9 ge (row:=FI l[i]) rfl]; rfl
    have l1:DF Tryz.prog H1 3 (.ptr H.length 0 1)=some (.int .i64 l[i].width):=by rw[DJ ag3 ge (row:=FI l[i]) rfl]; rfl
    have l2:DF Tryz.prog H1 3 (.ptr H.length 0 2)=some (.int .i64 l[i].mode):=by rw[DJ ag3 ge (row:=FI l[i]) rfl]; rfl
    simp -implicitDefEqProofs only[vQ,BD,↓reduceIte,jA,enP,O1,f1,JR TU hH1,l0];refine(index_prog G l m l[i].name _ (by omega)).use ?_;simp -implicitDefEqProofs only[vQ,BD,↓reduceIte,jA,enP];refine C9 (fun hd=>?_) (fun hd=>?_)
    .simp -implicitDefEqProofs only[vQ,BD,↓reduceIte]
     refine⟨?_,hx1⟩;rw[hv1 true (AJS hi' ((AI1 hi').1 (by simpa [bne] using hd)))]; rfl
    have hnd:plc (l.take i) l[i].name<0:=by
     rcases Int.lt_or_le (plc (l.take i) l[i].name) 0 with h1|h1
     .exact h1
     .exact absurd (by simpa [bne] using hd) ((AI1 hi').2 h1)
    have hb2:∀(j:Nat) (hj:j<i+1) (hl:j<l.length),plc (l.take j) l[j].name<0:=fun j hj hl=>by
     rcases jY j i with h1|h1
     .exact hb j h1 hl
     .obtain rfl:j=i:=by omega
      exact hnd
    have hbt:=UQ hi';have hbd:=AD6 l hall (i+1) (by omega);simp -implicitDefEqProofs only[vQ,BD,↓reduceIte,jA,enP,NC,l2];refine C9 (fun hm=>?_) (fun hm=>?_)
    .have hm':¬l[i].mode=0:=by simpa [bne] using hm
     rw[if_neg hm'] at hbt;have hw:IntKind.i64.wrap (L6 (l.take i)+l[i].width)=L6 (l.take (i+1)):=by rw[hbt,wrap_i64 (by omega) (by omega)]
     simp -implicitDefEqProofs only[vQ,BD,↓reduceIte,jA,enP,LV,f5,f65,l1,hw,wrap_succ (show i<9223372036854775807 by omega)];exact⟨n-1,by omega,i+1,by omega,hb2,by trivial,rfl,by trivial,by trivial,rfl,hH1,hx1⟩
    .have hm':l[i].mode=0:=by simpa [bne] using hm
     rw[if_pos hm',Int.add_zero] at hbt;simp -implicitDefEqProofs only[vQ,BD,↓reduceIte,jA,enP,f65,wrap_succ (show i<9223372036854775807 by omega)];exact⟨n-1,by omega,i+1,by omega,hb2,by trivial,by rw[hbt]; exact f5,by trivial,by trivial,rfl,hH1,hx1⟩
   .have hi':¬i<l.length:=by simpa using hc
    simp -implicitDefEqProofs only[vQ,↓reduceIte,jA];refine⟨f1,?_,hH,he,AF2 fun j hj=>hb j (by omega) hj⟩;rw[zH (by omega)] at f5; exact f5
  .rintro F' H' ⟨g1,g5,hH',he',hd⟩
   have hv2:=hv1 _ hd;simp -implicitDefEqProofs only[vQ,BD,I5,↓reduceIte,jA,enP,g1,JR TU hH'];refine(AV8 G l m 120 [.ptr h.length 0 0] (fun v=>PE l v.name) H' (by omega) fun v hv=>A2E G hG l m v _ _ hH' hl (hnm v hv).2 (hnm v hv).1).use ?_;simp -implicitDefEqProofs only[vQ,BD,↓reduceIte];refine C9 (fun hg=>?_) (fun hg=>?_)
   .simp -implicitDefEqProofs only[vQ,BD,↓reduceIte]
    exact⟨by rw[hv2,hg]; rfl,he'⟩
   simp -implicitDefEqProofs only[vQ,BD,↓reduceIte,jA,enP,g5];refine C9 (fun hx=>?_) (fun hx=>?_)
   .simp -implicitDefEqProofs only[vQ,BD,↓reduceIte]
    refine⟨?_,he'⟩;rw[hv2,hg,if_neg (by decide),if_neg (by decide),if_pos (by simpa using hx)]
   .simp -implicitDefEqProofs only[vQ,BD,↓reduceIte]
    refine⟨?_,he'⟩;rw[hv2,hg,if_neg (by decide),if_neg (by decide),if_neg (by simpa using hx)]
  .rintro F' H' ⟨g2,he'⟩
   simp -implicitDefEqProofs only[vQ,g2];exact⟨trivial,he'⟩
 .rintro F H ⟨f2,he⟩
  simp -implicitDefEqProofs only[vQ,f2];exact⟨trivial,he⟩
theorem APL (i:Nat):decide ((i:Int)<0)=false:=by rw[decide_eq_false_iff_not]; omega
theorem A19:Frz EF:=fun n h d x=>by
 rw[O5]; exact⟨rfl,rfl⟩
def growR_ren:Go.Shelf.Ren:=⟨fun|4=>175|n=>n,fun|22=>23|25=>37|3=>3|4=>4|9=>9|20=>20|0=>0|n=>n,fun|n=>n⟩
theorem AX7:Go.Proofs.Lays8.n4 Tryz.prog growR_ren := {
 mixed:=by kernel_rfl,
 f4:=⟨Tryz.f175.name,by decide,Tryz.func175.trans (congrArg some (by kernel_rfl))⟩,
 t0:=Tryz.underlying0,
 a0:=Tryz.isAgg0,
 z0:=Tryz.sizeOf0,
 v0:=Tryz.zeroValue0,
 t3:=Tryz.underlying3,
 a3:=Tryz.isAgg3,
 z3:=Tryz.sizeOf3,
 v3:=Tryz.zeroValue3,
 t4:=Tryz.underlying4,
 a4:=Tryz.isAgg4,
 z4:=Tryz.sizeOf4,
 v4:=Tryz.zeroValue4,
 t9:=Tryz.underlying9,
 a9:=Tryz.isAgg9,
 z9:=Tryz.sizeOf9,
 v9:=Tryz.zeroValue9,
 t20:=Tryz.underlying20,
 a20:=Tryz.isAgg20,
 z20:=Tryz.sizeOf20,
 v20:=Tryz.zeroValue20,
 t22:=Tryz.underlying23,
 a22:=Tryz.isAgg23,
 z22:=Tryz.sizeOf23,
 v22:=Tryz.zeroValue23 }
theorem AUM (z:Array Value)(n:Nat):(Builtin.zeroCells z n).size=n*z.size:=by simp [Builtin.zeroCells]
theorem APW (G:Nat->AV)(n:Nat)(hn:n<=1048576)(h:Hp):ACalls (En G) 175 [.sl .nil 0 [],.int .i64 (n:Nat)] h fun v H=>(n=0∧v=.sl .nil 0 []∧H=h)∨(0<n∧v=.own h.length 0 0∧H=h++[.live 4 []]):=by
 refine⟨cok 175 G (by kernel_rfl),fun g w cargs S ha=>?_⟩;obtain⟨hsz,hget⟩:=ha
 obtain⟨cv0,cv1,rfl⟩:∃a b,cargs = #[a,b]:=by
  obtain⟨l⟩:=cargs
  match l,hsz with
  | [a,b],_=>exact⟨a,b,rfl⟩
 have r0:=(hget 0 _ cv0 rfl rfl).sl_inv;obtain rfl:=(hget 1 _ cv1 rfl rfl).int_inv
 have hnil:cv0=.slice none 0 0:=by
  cases r0 with
  | nil=>rfl
  | empty _ _ _ _ q=>exact absurd rfl q
  | sl _ _ _ _ _ _ _ _ _ _ _ q=>exact absurd rfl q
 subst hnil;rcases Nat.eq_zero_or_pos n with h0|h0
 .subst h0
  refine(Any8.slices_Grow_room AX7 none 0 0 0 w (jP _) (by omega) (by omega) (jP _)).mono ?_;rintro e w' ⟨rfl,rfl⟩;exact .inl ⟨_,_,g,h,rfl,.inl ⟨rfl,rfl,rfl⟩,Gh.le.refl g,S,.fro (.nil 0)⟩
 .have i0:Tryz.prog.info? 37=some Tryz.t37:=by kernel_rfl
  have hz:Tryz.t37.zero.isSome=true:=by kernel_rfl
  obtain⟨z,hz⟩:=Option.isSome_iff_exists.1 hz;have hs:Tryz.t37.size=4:=by kernel_rfl
  have hb:Tryz.t37.bytes<=64:=jH (by kernel_rfl);have hmul:n*Tryz.t37.bytes<=1048576*64:=Nat.mul_le_mul hn hb
  have hzs:z.cells.size=4:=by
   have h1:(Tryz.t37.zero.map fun z=>z.cells.size)=some 4:=by kernel_rfl
   rw[hz] at h1; simpa using h1
  have hc:=Any8.slices_Grow_grow AX7 Tryz.t37 z i0 hz (by rw[hs]; omega) none 0 0 n [] w (jP _) (by omega) (by rw[jG]; omega) (by omega) (by simp) (fun _=>rfl) (fun a q=>by cases q);refine hc.mono ?_;rintro e w' ⟨rfl,rfl⟩;generalize hG:grownCap w (0+n) 0 (growR_ren.t 25)=cap;have hle:0+n<=cap:=hG▸grownCap_ge w _ _ _;have hgr:Grew w (w.drew.alloc (.cells ((#[]:Array Value)++Builtin.zeroCells z.cells (0+n-0)++Builtin.zeroCells z.cells (cap-(0+n))) (growR_ren.t 25))) (.cells ((#[]:Array Value)++Builtin.zeroCells z.cells (0+n-0)++Builtin.zeroCells z.cells (cap-(0+n))) (growR_ren.t 25) (0,0)):=⟨rfl,rfl,rfl,rfl⟩
  have hsize:((#[]:Array Value)++Builtin.zeroCells z.cells (0+n-0)++Builtin.zeroCells z.cells (cap-(0+n))).size=cap*4:=by
   simp only[Array.size_append,AUM,hzs,List.size_toArray,List.length_nil]; omega
  generalize ((#[]:Array Value)++Builtin.zeroCells z.cells (0+n-0)++Builtin.zeroCells z.cells (cap-(0+n)))=c at hgr hsize;obtain⟨S',hle'⟩:=S.new (k:=4) (xs:=[]) hgr ⟨by simp,fun i row h=>by simp at h,fun i j row v h=>by simp at h⟩;refine .inl ⟨_,_,_,_,rfl,.inr ⟨h0,rfl,rfl⟩,hle',S',?_⟩;exact Rep.own h.length 0 0 cap ⟨w.heap.size,0,4,c.size⟩ (by simp [Gh.adopt]) (Nat.zero_le _) (by simp only[hsize]; omega)
structure Yx where
 m:SM
 l:List Ex
def AFW (y:Yx):List AV:=[.sl y.m 4 (y.l.map EF)]
theorem ATC (y:Yx):(AFW y)[0]?=some (.sl y.m 4 (y.l.map EF)):=rfl
def fl (R:List Yx):List Ex:=(R.map Yx.l).flatten
theorem AFU {R:List Yx}{i:Nat}(hi:i<R.length):fl (R.take (i+1))=fl (R.take i)++R[i].l:=by
 unfold fl;rw[qK hi,List.map_append,List.flatten_append]; simp
theorem ZH (R:List Yx)(i:Nat):(fl (R.take i)).length<=(fl R).length:=by
 have:fl R=fl (R.take i)++fl (R.drop i):=by unfold fl; rw[<-List.flatten_append,<-List.map_append,List.take_append_drop]
 rw[this,zT]; omega
def AVJ (h:Hp)(ys:List Ex)(v:AV)(H:Hp):Prop:=(v=.sl .nil 0 []∧ys=[])∨∃o,h.length<=o∧v=.own o 0 ys.length∧H[o]?=some (.live 4 (ys.map EF))
theorem ARP {h H:Hp}{xs ys:List Ex}{v:AV}(s:SM)(ho:AVJ h xs v H)(he:ext h H)(hl:xs.length+ys.length<=8388608) :
  ∃v' H',IP Tryz.prog true H 23 23 v (.sl s 4 (ys.map EF))=some (v',H')∧AVJ h (xs++ys) v' H'∧ext h H'∧(v=.sl .nil 0 []->ys=[]->v'=.sl .nil 0 []):=by
 cases ys with
 | nil =>
   refine⟨v,H,?_,by rw[jD]; exact ho,he,fun q _=>q⟩;have hcs:KQ H (.sl s 4 [])=some (4,[]):=KJ H s 4 [];rcases ho with⟨rfl,rfl⟩|⟨o,h2,rfl,h3⟩
   .simp [IP,AU0,RX,WR,hcs,bump]
   .have hc:KQ H (.own o 0 xs.length)=some (4,xs.map EF):=by rw[OQ h3 (by simp),qL,zH (by simp)]
    simp [IP,AU0,RX,WR,hc,hcs,bump]
 | cons y ys =>
   have h1:(y::ys).map EF≠[]:=by simp
   rcases ho with⟨rfl,rfl⟩|⟨o,h2,rfl,h3⟩
   .exact⟨_,_,Z4 AU0 RX A0O A20 (KJ H s 4 ((y::ys).map EF)) h1 (OX (by simp at hl|-; omega) (by omega)),.inr ⟨H.length,he.le,by simp,by simp⟩,he.app _,fun _ q=>by cases q⟩
   .have hc:KQ H (.own o 0 xs.length)=some (4,xs.map EF):=by rw[OQ h3 (by simp),qL,zH (by simp)]
    exact⟨_,_,UW AU0 RX A0O A20 hc (KJ H s 4 ((y::ys).map EF)) h1 (OX (by simp at hl|-; omega) (by omega)),.inr ⟨H.length,he.le,by simp,by simp⟩,(he.set h2 _).app _,fun q=>by cases q⟩
section
variable (G:Nat->AV)
set_option maxHeartbeats 4000000 in
theorem AJZ (R:List Yx)(s:SM)(hR:R.length<=1048576)(hl:(fl R).length<=1048576)(h:Hp):PCall (En G) 122 [.sl s 1 (R.map AFW)] h (.sl (Cov.nm (fl R)) 4 ((fl R).map EF)):=by
 refine AFL A19 ?_;refine acN Tryz.func122 rfl ?_;show awp _ _ _ _ _ (EK _ [.tmp 2] _);simp -implicitDefEqProofs only[vQ,BD,↓reduceIte,jA,enP,AX1,jR];refine GI 0 (fun F H'=>F 0=.sl s 1 (R.map AFW)∧F 3=.int .i64 ((fl R).length:Nat)∧H'=h) (fun _ _=>False) ?_ ?_ (fun _ _ q=>q.elim)
 .refine D7 (fun n F H'=>∃i,n+i=R.length∧F 0=.sl s 1 (R.map AFW)∧F 3=.int .i64 ((fl (R.take i)).length:Nat)∧F 9=.sl s 1 (R.map AFW)∧F 10=.int .i64 (R.length:Nat)∧F 11=.int .i64 (i:Nat)∧H'=h) R.length
   ⟨0,by simp,by simp -implicitDefEqProofs only[vQ,↓reduceIte,jA],by simp -implicitDefEqProofs only[AA,↓reduceIte,jA]<;>rfl,by simp -implicitDefEqProofs only[AA,↓reduceIte,jA],by simp -implicitDefEqProofs only[AA,↓reduceIte,jA],by simp -implicitDefEqProofs only[AA,↓reduceIte]<;>rfl,rfl⟩ ?_
  rintro n F H ⟨i,hi,f0,f3,f9,f10,f11,rfl⟩;simp -implicitDefEqProofs only[vQ,BD,↓reduceIte,enP,f10,f11];refine C9 (fun hc=>?_) (fun hc=>?_)
  .have hi':i<R.length:=by simpa using hc
   have hfl:=AFU hi';have hle:=ZH R (i+1);rw[hfl,zT] at hle;have hw:IntKind.i64.wrap ((((fl (R.take i)).length:Nat):Int)+((R[i].l.length:Nat):Int))=(((fl (R.take (i+1))).length:Nat):Int):=by rw[hfl,zT,wrap_i64 (by omega) (by omega)]; omega
   simp -implicitDefEqProofs only[vQ,BD,↓reduceIte,jA,enP,WT,AX5,f3,f9,f11,EZ hi',FX VX hi',ATC,jR,hw,APL,wrap_succ (show i<9223372036854775807 by omega)];exact⟨n-1,by omega,i+1,by omega,by first|exact True.intro|exact f0,by first|exact True.intro|exact rfl,by first|exact True.intro|exact f9,by first|exact True.intro|exact f10,by first|exact True.intro|exact rfl,by first|exact True.intro|exact rfl⟩
  .have hi':¬i<R.length:=by simpa using hc
   rw[zH (by omega)] at f3;simp -implicitDefEqProofs only[vQ,↓reduceIte,jA];exact⟨by first|exact True.intro|exact f0,by first|exact True.intro|exact f3,by first|exact True.intro|exact rfl⟩
 rintro F H ⟨f0,f3,rfl⟩;simp -implicitDefEqProofs only[vQ,BD,↓reduceIte,f3];refine(APW G (fl R).length hl H).mono ?_;intro v0 H0 hg
 have I0:AVJ H [] v0 H0∧Sm.ext H H0∧((fl R).length=0->v0=.sl .nil 0 []):=by
  rcases hg with⟨h0,rfl,rfl⟩|⟨h0,rfl,rfl⟩
  .exact⟨.inl ⟨rfl,rfl⟩,ext.rfl' _,fun _=>rfl⟩
  .exact⟨.inr ⟨H.length,jP _,rfl,CU _ _⟩,(ext.rfl' H).app _,fun q=>by omega⟩
 simp -implicitDefEqProofs only[vQ,BD,↓reduceIte,jA,enP,AX1,f0,jR]
 refine D7 (fun n F H'=>∃i v,n+i=R.length∧F 6=v∧F 25=.sl s 1 (R.map AFW)∧F 26=.int .i64 (R.length:Nat)∧F 27=.int .i64 (i:Nat)∧AVJ H (fl (R.take i)) v H'∧Sm.ext H H'∧((fl R).length=0->v=.sl .nil 0 [])) R.length
  ⟨0,v0,by simp,by simp -implicitDefEqProofs only[AA,↓reduceIte,jA],by simp -implicitDefEqProofs only[AA,↓reduceIte,jA],by simp -implicitDefEqProofs only[AA,↓reduceIte,jA],by simp -implicitDefEqProofs only[AA,↓reduceIte]<;>rfl,by rw[List.take_zero]; exact I0.1,I0.2.1,I0.2.2⟩ ?_
 clear I0 hg f0 f3;rintro n F H' ⟨i,v,hi,f6,f25,f26,f27,ho,hx,hz⟩;simp -implicitDefEqProofs only[vQ,BD,↓reduceIte,enP,f26,f27];refine C9 (fun hc=>?_) (fun hc=>?_)
 .have hi':i<R.length:=by simpa using hc
  have hfl:=AFU hi';have hle:=ZH R (i+1);rw[hfl,zT] at hle;obtain⟨v',H2,ha,ho2,hx2,hn2⟩:=ARP R[i].m ho hx (ys:=R[i].l) (by omega);rw[<-hfl] at ho2;simp -implicitDefEqProofs only[vQ,BD,MC,↓reduceIte,jA,enP,AX5,f6,f25,f27,EZ hi',FX VX hi',ATC,ha,wrap_succ (show i<9223372036854775807 by omega)];exact⟨n-1,by omega,i+1,v',by omega,by first|exact True.intro|exact rfl,by first|exact True.intro|exact f25,by first|exact True.intro|exact f26,by first|exact True.intro|exact rfl,ho2,hx2,fun q=>hn2 (hz q) (List.length_eq_zero_iff.1 (by omega))⟩
 .have hi':¬i<R.length:=by simpa using hc
  rw[zH (by omega)] at ho;simp -implicitDefEqProofs only[vQ,BD,↓reduceIte,jA,f6];refine⟨hx,?_⟩;rcases ho with⟨h1,h2⟩|⟨o,h1,h2,h3⟩
  .exact .inl ⟨h2,h1⟩
  .refine .inr ⟨fun q=>?_,o,h1,h2,h3⟩
   have:=hz (by rw[q]; rfl);rw[this] at h2; cases h2
end
end Go.Proofs.YtgnoolgeijmlaaaGreatDoor.Bd
