/- Part 7 of the proof (H2, H3, Sg, Sr, Sh, Cf, L1, X1, X3, Y0, X4, X2, X5, X6); no condition. -/
import Derived.Test.YtgnoolgeijmlaaaGreatDoorRows
import Derived.Carry
import Derived.ReadAgain
import Derived.ChangeSame
import Derived.OpenShut
import Derived.WideKeyArgs
import Derived.Test.YtgnoolgeijmlaaaGreatDoorCards
import Derived.JoinedCond
import Derived.KernelRfl
import Derived.Test.YtgnoolgeijmlaaaGreatDoorZE6
set_option linter.unusedVariables false
namespace Go.Proofs.YtgnoolgeijmlaaaGreatDoor.Wd
open Sm Bins Cov Go.RowKit
def wW (z:Int):Nat:=(z%65536).toNat
theorem AYW {a:Nat}(h:a<65536):wW (a:Int)=a:=by unfold wW; omega
theorem AUU (z:Int):((wW z:Nat):Int)=z%65536:=by unfold wW; omega
def AA8 (a i:Nat):Nat:=a/2^i%2
def NQ (a:Nat):Nat->Nat
 | 0=>0
 | k+1=>NQ a k+AA8 a k
def ARS (a:Nat):Nat:=NQ a 16
def AY6 (a:Nat)(n:Int):Nat:=if n<0∨n≥16 then 0 else a*2^n.toNat%65536
def AES (a:Nat)(n:Int):Nat:=if n<0∨n≥16 then 0 else a/2^n.toNat
theorem AW6 (a i:Nat):AA8 a i<2:=Nat.mod_lt _ (by omega)
theorem AAK (a:Nat):∀k,NQ a k<=k
 | 0=>Nat.le_refl 0
 | k+1=>by have:=AAK a k; have:=AW6 a k; unfold NQ; omega
end Go.Proofs.YtgnoolgeijmlaaaGreatDoor.Wd
set_option linter.unusedSimpArgs false
set_option maxRecDepth 8000
namespace Go.Proofs.YtgnoolgeijmlaaaGreatDoor.Wd
open Sm Bins Cov Go.RowKit
open Bool renaming not_false→jC
open Int renaming toNat_natCast→qV
open List renaming map_cons→jF,map_nil→jE,append_nil→jD
open Nat renaming le_of_ble_eq_true→jH,reduceEqDiff→jA
open Option renaming getD_some→jB
theorem AVI (a b:Nat)(hb:0<b)(ha:a<=9223372036854775807):JD Tryz.prog 3 .quo (.int .i64 (a:Int)) (.int .i64 (b:Int))=some (.int .i64 ((a/b:Nat):Int)):=by
 have h1:((a:Int).tdiv (b:Int))=((a/b:Nat):Int):=by rw[Int.tdiv_eq_ediv_of_nonneg (by omega)]; rfl
 have h2:=Nat.div_le_self a b;rw[AOK _ _ _ _ _ (by omega),h1,ACS (by omega)]
theorem ANF (a b:Nat)(hb:0<b):JD Tryz.prog 3 .rem (.int .i64 (a:Int)) (.int .i64 (b:Int))=some (.int .i64 ((a%b:Nat):Int)):=by
 rw[ZY _ _ _ _ _ (by omega),Int.tmod_eq_emod_of_nonneg (by omega)]; rfl
theorem ACR (G:Nat->AV)(z:Int)(h:Hp)(hz : -9223372036854775808<=z∧z<=9223372036854775807):PCall (En G) 197 [.int .i64 z] h (.int .i64 (wW z:Nat)):=by
 have hr:JD Tryz.prog 3 .rem (.int .i64 z) (.int .i64 65536)=some (.int .i64 (z.tmod 65536)):=ZY _ _ _ _ _ (by decide)
 have hm:z.tmod 65536=if z<0 then -((-z)%65536) else z%65536:=by
  split
  .have h1:z = -(-z):=by omega
   conv=>lhs; rw[h1]
   rw[Int.neg_tmod,Int.tmod_eq_emod_of_nonneg (by omega)]
  .rw[Int.tmod_eq_emod_of_nonneg (by omega)]
 have hw:=AUU z;refine acN Tryz.func197 rfl ?_;show awp _ _ _ _ _ (EK _ [.tmp 2] _);simp -implicitDefEqProofs only[vQ,BD,↓reduceIte,jA,enX,enP,hr];generalize z.tmod 65536=t at hm|-
 have h0 : -65536<t∧t<65536:=by
  rw[hm]; split<;>omega
 cases hc:decide (t<0)
 .have hc':¬t<0:=by simpa using hc
  have e:t=((wW z:Nat):Int):=by
   rw[hw]; split at hm<;>omega
  simp -implicitDefEqProofs only[vQ,BD,↓reduceIte,jA,hc];exact⟨by rw[e],trivial⟩
 .have hc':t<0:=by simpa using hc
  have e:IntKind.i64.wrap (IntKind.i64.wrap (t+65535)+1)=((wW z:Nat):Int):=by
   have e1:IntKind.i64.wrap (t+65535)=t+65535:=wrap_i64 (by omega) (by omega);rw[hw,e1,wrap_i64 (by omega) (by omega)];split at hm<;>omega
  simp -implicitDefEqProofs only[vQ,BD,↓reduceIte,jA,enP,hc,e];exact⟨trivial,trivial⟩
theorem AAD (G:Nat->AV)(a:Nat)(ha:a<65536)(h:Hp):PCall (En G) 197 [.int .i64 (a:Nat)] h (.int .i64 (a:Nat)):=by
 have:=ACR G (a:Nat) h (by omega)
 rwa [AYW ha] at this
theorem APC (G:Nat->AV)(n:Nat)(hn:n<=16)(h:Hp):PCall (En G) 230 [.int .i64 (n:Nat)] h (.int .i64 ((2^n:Nat):Int)):=by
 refine acN Tryz.func230 rfl ?_;show awp _ _ _ _ _ (EK _ [.tmp 2] _);simp -implicitDefEqProofs only[vQ,BD,enX,enP];refine D7 (fun k F H=>∃i,k+i=n∧F 0=.int .i64 (n:Nat)∧F 3=.int .i64 ((2^i:Nat):Int)∧F 4=.int .i64 (i:Nat)∧H=h) n ⟨0,by simp,by simp -implicitDefEqProofs only[vQ,↓reduceIte,jA],by simp -implicitDefEqProofs only[AA,↓reduceIte,jA]<;>rfl,by simp -implicitDefEqProofs only[AA,↓reduceIte]<;>rfl,rfl⟩ ?_;rintro k F H ⟨i,hi,f0,f3,f4,rfl⟩;simp -implicitDefEqProofs only[vQ,BD,↓reduceIte,jA,enP,f0,f4];refine C9 (fun hc=>?_) (fun hc=>?_)
 .have hi':i<n:=by simpa using hc
  have hp:2^i<=2^16:=Nat.pow_le_pow_right (by omega) (by omega)
  have e:IntKind.i64.wrap (2*((2^i:Nat):Int))=((2^(i+1):Nat):Int):=by
   simp only[Nat.reducePow] at hp;rw[show(2:Int)*((2^i:Nat):Int)=((2^i*2:Nat):Int) by rw[Int.natCast_mul,Int.mul_comm]; rfl,Nat.pow_succ];exact ACS (by omega)
  simp -implicitDefEqProofs only[vQ,BD,UR,↓reduceIte,jA,enP,f3,f4,e,wrap_succ (show i<9223372036854775807 by omega)];exact⟨k-1,by omega,i+1,by omega,f0,by trivial,by trivial,trivial⟩
 .have hi':i=n:=by
   have:¬i<n:=by simpa using hc
   omega
  subst hi';simp -implicitDefEqProofs only[vQ,BD,↓reduceIte,jA,f3];exact⟨by trivial,trivial⟩
theorem A17 (G:Nat->AV)(a:Nat)(ha:a<65536)(h:Hp):PCall (En G) 200 [.int .i64 (a:Nat)] h (.int .i64 ((65535-a:Nat):Int)):=by
 have e:IntKind.i64.wrap (65535-(a:Int))=((65535-a:Nat):Int):=by rw[wrap_i64 (by omega) (by omega)]; omega
 refine acN Tryz.func200 rfl ?_;show awp _ _ _ _ _ (EK _ [.tmp 2] _);simp -implicitDefEqProofs only[vQ,BD,↓reduceIte,jA,enX,enP];refine(AAD G a ha h).use ?_;simp -implicitDefEqProofs only[vQ,BD,LG,↓reduceIte,enP,e];exact⟨trivial,trivial⟩
theorem A1O (G:Nat->AV)(a:Nat)(ha:a<65536)(h:Hp):PCall (En G) 201 [.int .i64 (a:Nat)] h (.int .i64 (((65536-a)%65536:Nat):Int)):=by
 have e:IntKind.i64.wrap (0-(a:Int))=0-(a:Int):=wrap_i64 (by omega) (by omega);have e2:wW (0-(a:Int))=(65536-a)%65536:=by unfold wW; omega
 refine acN Tryz.func201 rfl ?_;show awp _ _ _ _ _ (EK _ [.tmp 2] _);simp -implicitDefEqProofs only[vQ,BD,↓reduceIte,jA,enX,enP];refine(AAD G a ha h).use ?_;simp -implicitDefEqProofs only[vQ,BD,LG,↓reduceIte,enP,e];refine(ACR G _ h (by omega)).use ?_;simp -implicitDefEqProofs only[vQ,BD,↓reduceIte,e2];exact⟨trivial,trivial⟩
theorem A08 (G:Nat->AV)(a:Nat)(n:Int)(ha:a<65536)(h:Hp):PCall (En G) 209 [.int .i64 (a:Nat),.int .i64 n] h (.int .i64 (AES a n:Nat)):=by
 refine acN Tryz.func209 rfl ?_;show awp _ _ _ _ _ (EK _ [.tmp 4] _);simp -implicitDefEqProofs only[vQ,CV,BD,↓reduceIte,jA,enX,enP];cases h1:decide (n<0)
 .have h1':¬n<0:=by simpa using h1
  cases h2:decide (n>15)
  .have h2':¬n>15:=by simpa using h2
   obtain⟨k,rfl⟩:=Int.eq_ofNat_of_zero_le (show 0<=n by omega);have hp:0<2^k:=Nat.pow_pos (by omega)
   have e2:a/2^k=AES a (k:Nat):=by
    unfold AES;rw[if_neg (by omega),qV]
   simp -implicitDefEqProofs only[vQ,CV,BD,↓reduceIte,jA,enP,h2];refine(AAD G a ha h).use ?_;simp -implicitDefEqProofs only[vQ,BD,↓reduceIte,jA];refine(APC G k (by omega) h).use ?_;simp -implicitDefEqProofs only[vQ,BD,↓reduceIte,jA,enP,AVI a (2^k) hp (by omega),e2];exact⟨trivial,trivial⟩
  .have h2':n>15:=by simpa using h2
   simp -implicitDefEqProofs only[vQ,CV,BD,↓reduceIte,jA,enP,h2];exact⟨by unfold AES; rw[if_pos (by omega)]; rfl,trivial⟩
 .have h1':n<0:=by simpa using h1
  simp -implicitDefEqProofs only[vQ,CV,BD,EY,↓reduceIte,jA];exact⟨by unfold AES; rw[if_pos (by omega)]; rfl,trivial⟩
theorem AW5 (G:Nat->AV)(a i:Nat)(ha:a<65536)(hi:i<16)(h:Hp):PCall (En G) 228 [.int .i64 (a:Nat),.int .i64 (i:Nat)] h (.int .i64 (AA8 a i:Nat)):=by
 have e:AES a (i:Nat)=a/2^i:=by
  unfold AES;rw[if_neg (by omega),qV]
 refine acN Tryz.func228 rfl ?_;show awp _ _ _ _ _ (EK _ [.tmp 4] _);have hr:=ANF (a/2^i) 2 (by omega);have hr':JD Tryz.prog 3 .rem (.int .i64 ((a/2^i:Nat):Int)) (.int .i64 2)=some (.int .i64 (AA8 a i:Nat)):=hr;simp -implicitDefEqProofs only[vQ,BD,↓reduceIte,jA,enX,enP];refine(A08 G a i ha h).use ?_;simp -implicitDefEqProofs only[vQ,BD,↓reduceIte,enP,e,hr'];exact⟨trivial,trivial⟩
theorem AZG (G:Nat->AV)(a:Nat)(ha:a<65536)(h:Hp):PCall (En G) 202 [.int .i64 (a:Nat)] h (.int .i64 (ARS a:Nat)):=by
 refine acN Tryz.func202 rfl ?_;show awp _ _ _ _ _ (EK _ [.tmp 2] _);simp -implicitDefEqProofs only[vQ,BD,enX,enP];refine D7 (fun k F H=>∃i,k+i=16∧F 0=.int .i64 (a:Nat)∧F 3=.int .i64 (NQ a i:Nat)∧F 4=.int .i64 (i:Nat)∧H=h) 16 ⟨0,by simp,by simp -implicitDefEqProofs only[vQ,↓reduceIte,jA],by simp -implicitDefEqProofs only[AA,↓reduceIte,jA]<;>rfl,by simp -implicitDefEqProofs only[AA,↓reduceIte]<;>rfl,rfl⟩ ?_;rintro k F H ⟨i,hi,f0,f3,f4,rfl⟩;simp -implicitDefEqProofs only[vQ,BD,↓reduceIte,enP,f4];refine C9 (fun hc=>?_) (fun hc=>?_)
 .have hi':i<16:=by simp at hc; omega
  have hle:=AAK a (i+1)
  have e:IntKind.i64.wrap (((NQ a i:Nat):Int)+((AA8 a i:Nat):Int))=((NQ a (i+1):Nat):Int):=by
   have:NQ a (i+1)=NQ a i+AA8 a i:=rfl;rw[wrap_i64 (by omega) (by omega)]; omega
  simp -implicitDefEqProofs only[vQ,BD,↓reduceIte,jA,f0,f3,f4];refine(AW5 G a i ha hi' H).use ?_;simp -implicitDefEqProofs only[vQ,BD,↓reduceIte,jA,enP,f3,f4,e,wrap_succ (show i<9223372036854775807 by omega)];exact⟨k-1,by omega,i+1,by omega,f0,by trivial,by trivial,trivial⟩
 .have hi':i=16:=by simp at hc; omega
  subst hi';simp -implicitDefEqProofs only[vQ,BD,↓reduceIte,jA,f3];exact⟨by trivial,trivial⟩
end Go.Proofs.YtgnoolgeijmlaaaGreatDoor.Wd
namespace Go.Proofs.YtgnoolgeijmlaaaGreatDoor.Sm
open Bool renaming and_eq_true→zB
open List renaming append_nil→jD,getElem?_map→zL
open Nat renaming eq_zero_or_pos→qQ,add_zero→jL

def M0 (W:World):Nat->Option Obj:=fun k=>W.heap[k]?
def g0 (W:World):Gh:=⟨M0 W,fun _=>none,W.os,W.tape,W.output,fun _=>none⟩
theorem A4O {E:Env}{W:World}(hN:E.L=none)(hG:∀n,RepF (M0 W) (E.G n) (.pointer (some ⟨n,0,none⟩))):SimH E (g0 W) [] W where
 os:=rfl
 tape:=rfl
 output:=rfl
 fro k o h:=h
 lo g0 h:=by rw[hN] at h; cases h
 live b k xs h:=by simp at h
 obj b x h:=by simp at h
 inj b b' x x' l l' h:=by simp at h
 fresh b _:=rfl
 glob:=hG
theorem AJ3 {E:Env}{f:FuncId}{avs:List AV}{args:Array Value}{W:World}(hc:ACalls E f avs [] fun v _=>v=.bool true)(hN:E.L=none)(hX:∀u h,¬E.X u h)
  (hG:∀n,RepF (M0 W) (E.G n) (.pointer (some ⟨n,0,none⟩))) (ha:YG (g0 W) avs args) :
  Calls E.P f args W fun e w'=>e=.returned (.bool true)∧RowKit.Below W.heap.size W w':=by
 refine(hc.2 (g0 W) W args (A4O hN hG) ha).mono ?_;rintro e w' (⟨v,cv,g',h',rfl,rfl,hle,S,hr⟩|⟨_,_,_,_,hx,_⟩)
 rotate_left
 .exact(hX _ _ hx).elim
 rw[hr.bool_inv];have hfro:∀k o,W.heap[k]?=some o->w'.heap[k]?=some o:=fun k o h=>S.fro k o (hle.M k o h)
 refine⟨rfl,?_,?_,?_,?_,?_⟩
 .rw[S.os,hle.os]; rfl
 .rw[S.tape,hle.tape]; rfl
 .rw[S.output,hle.output]; rfl
 .rcases Nat.lt_or_ge w'.heap.size W.heap.size with h|h
  .have h1:=hfro w'.heap.size _ (Array.getElem?_eq_getElem h)
   simp at h1
  .exact h
 .intro k hk
  rw[hfro k _ (Array.getElem?_eq_getElem hk),Array.getElem?_eq_getElem hk]
theorem ARK {H:Type}{enc:TypeId×Value->H}{P:Program}{f:Func}{s:ChangeSpec}{tb:TypeId}{apart fresh handsOn:Bool}{W W':World}{args:Array Value}{ds gs:List (DataW H)}{before:List MemPlace}
  (hW:DataW.Whole enc P f.params.toList s.vars apart W args.toList ds gs before) (hb:RowKit.Below W.heap.size W W')
  (hv:s.vars=[]) (hr:f.resultTypes = #[tb]) (hub:P.underlying tb=some .bool)
  (hs:s.fn H ds={ results:=[.lit (.bool true)],args:=ds })
  (hl:laidOutB P=true) (hp:f.params.toList.all (fun t=>P.readableRec t&&decide (t<P.types.size))=true) :
  s.post enc P f apart fresh handsOn false W args (.bool true) W':=by
 have hW0:=hW;obtain⟨p,q,hA,hV,rfl,_,_⟩:=hW;rw[hv] at hV
 obtain⟨rfl,rfl⟩:gs=[]∧q=[]:=by
  cases gs with
  | nil=>exact⟨rfl,hV⟩
  | cons=>exact hV.elim
 have hfn:s.fn H (ds++[])={ results:=[.lit (.bool true)],args:=ds }:=by rw[jD]; exact hs
 rw[jD] at hW0;have hlt:∀x∈p,x.block<W.heap.size:=fun x hx=>hW0.lt x hx
 have hall:∀(sp:Nat->Bool),(∀x∈p,sp x.block=true)->∀ {ts:List TypeId} {vs:List Value} {ds:List (DataW H)} {ps:List MemPlace},(ts.all (fun t=>P.readableRec t&&decide (t<P.types.size))=true) ->
   (∀x∈ps,x∈p)->DataW.TrodAll enc P W 0 (fun _=>true) true ts vs ds ps->DataW.TrodAll enc P W' 0 sp true ts vs ds ps:=by
  intro sp hsp ts
  induction ts with
  | nil =>
    intro vs ds ps _ _ h
    cases vs<;>cases ds<;>first|exact h|exact h.elim
  | cons t ts ih =>
    intro vs ds ps hts hm h
    cases vs with
    | nil=>exact h.elim
    | cons v vs =>
      cases ds with
      | nil=>exact h.elim
      | cons d ds =>
        obtain⟨p1,q1,h1,h2,e⟩:=h;simp only[List.all_cons,zB,decide_eq_true_eq] at hts;have hm1:∀x∈p1,x∈p:=fun x hx=>hm x (by rw[e]; exact List.mem_append_left _ hx)
        exact⟨p1,q1,WideElems.Trod_stays hl hts.1.1 hts.1.2 h1 (fun x hx=>hb.same (hlt x (hm1 x hx))) (fun x hx=>hsp x (hm1 x hx)),ih hts.2 (fun x hx=>hm x (by rw[e]; exact List.mem_append_right _ hx)) h2,e⟩
 have hold:∀x∈p,(fun b=>decide (b<W.heap.size)) x.block=true:=fun x hx=>by simpa using hlt x hx
 refine⟨ds,[],p,[],p,[],hW0,?_,?_,?_,World.keptBut_mono (fun x hx=>⟨hx,.inr (.inl hx)⟩) (hb.frame (·∈p)),fun h=>by cases h⟩
 .rw[hfn,hr]
  exact ChangeShapes.trodAll_mk1 (RowKit.shut_bool hub true)
 .rw[hfn]; exact hall _ hold hp (fun _ h=>h) hA
 .rw[hv,hfn]; exact rfl

open Go.Proofs.YtgnoolgeijmlaaaGreatDoor.Rows (uptoBulk uptoBulkAll)
def RowP (M:Nat->Option Obj)(rs:List AV)(cs:List Value):Prop:=∀(j:Nat) (a:AV),rs[j]?=some a->a.leaf=true∧∃c,cs[j]?=some c∧RepF M a c
theorem RowP.nil (M:Nat->Option Obj)(cs:List Value):RowP M [] cs:=fun j a h=>by simp at h
theorem RowP.one {M:Nat->Option Obj}{a:AV}{c:Value}(hl:a.leaf=true)(h:RepF M a c):RowP M [a] [c]:=by
 intro j b hb
 cases j with
 | zero=>simp at hb; subst hb; exact⟨hl,c,rfl,h⟩
 | succ j=>simp at hb
theorem RowP.append {M:Nat->Option Obj}{rs bs:List AV}{cs:List Value}{n:Nat}(h:RowP M rs (cs.take n))(hn:rs.length=n)(k:RowP M bs (cs.drop n)):RowP M (rs++bs) cs:=by
 intro j a ha;rw[List.getElem?_append] at ha;split at ha
 .obtain⟨h1,c,h2,h3⟩:=h j a ha
  rw[List.getElem?_take] at h2;split at h2
  .exact⟨h1,c,h2,h3⟩
  .cases h2
 .obtain⟨h1,c,h2,h3⟩:=k _ a ha
  rw[List.getElem?_drop] at h2;exact⟨h1,c,by rw[<-h2]; congr 1; omega,h3⟩
def RdAt (P:Program)(n:Nat)(t:TypeId){α:Type}(enc:α->List AV)(ok:α->Nat->Prop):Prop :=
 ∀ (H:Type) (ench:TypeId×Value->H) (w:World) (cs:List Value) (d:DataW H) (ps:List MemPlace),
   DataW.trod ench P w 0 (fun _=>true) true n t cs=some (d,ps)->∃x,ok x (uptoBulk d)∧RowP (M0 w) (enc x) cs
def Rd (P:Program)(t:TypeId){α:Type}(enc:α->List AV)(ok:α->Nat->Prop):Prop:=∀n,RdAt P n t enc ok
theorem RdAt.zero {P:Program}{t:TypeId}{α:Type}{enc:α->List AV}{ok:α->Nat->Prop}:RdAt P 0 t enc ok:=by
 intro H ench w cs d ps h; simp [DataW.trod] at h
theorem RdAt.map {P:Program}{n:Nat}{t:TypeId}{α β:Type}{enc:α->List AV}{ok:α->Nat->Prop}{enc':β->List AV}{ok':β->Nat->Prop}(f:α->β)(h:RdAt P n t enc ok)
  (he:∀x,enc' (f x)=enc x) (hk:∀x b,ok x b->ok' (f x) b):RdAt P n t enc' ok':=by
 intro H ench w cs d ps ht;obtain⟨x,h1,h2⟩:=h H ench w cs d ps ht;exact⟨f x,hk x _ h1,by rw[he]; exact h2⟩
theorem Rd.map {P:Program}{t:TypeId}{α β:Type}{enc:α->List AV}{ok:α->Nat->Prop}{enc':β->List AV}{ok':β->Nat->Prop}(f:α->β)(h:Rd P t enc ok)
 (he:∀x,enc' (f x)=enc x) (hk:∀x b,ok x b->ok' (f x) b):Rd P t enc' ok':=fun n=>(h n).map f he hk
def okI (z:Int)(_:Nat):Prop := -9223372036854775808<=z∧z<=9223372036854775807
def okS (s:ByteArray)(b:Nat):Prop:=s.size+1<=b
def okT {α:Type}(_:α)(_:Nat):Prop:=True
def okL {α:Type}(ok:α->Nat->Prop):List α->Nat->Prop
 | [],_=>True
 | x::xs,b=>∃b1 b2,b1+b2<=b∧1<=b1∧ok x b1∧okL ok xs b2
theorem okL.length {α:Type}{ok:α->Nat->Prop}:∀ {xs:List α} {b:Nat},okL ok xs b->xs.length<=b
 | [],_,_=>Nat.zero_le _
 | _::_,_,⟨_,_,h1,h2,_,h4⟩=>by have:=okL.length h4; simp; omega
theorem okL.each {α:Type}{ok:α->Nat->Prop}:∀ {xs:List α} {b:Nat},okL ok xs b->∀x∈xs,∃b1,b1<=b∧ok x b1
 | [],_,_,_,h=>by cases h
 | y::ys,b,⟨b1,b2,h1,h2,h3,h4⟩,x,h=>by
   cases List.mem_cons.1 h with
   | inl e=>subst e; exact⟨b1,by omega,h3⟩
   | inr e=>obtain⟨b3,h5,h6⟩:=okL.each h4 x e; exact⟨b3,by omega,h6⟩
theorem okL.mono {α:Type}{ok:α->Nat->Prop}:∀ {xs:List α} {b b':Nat},okL ok xs b->b<=b'->okL ok xs b'
 | [],_,_,_,_=>trivial
 | _::_,_,_,⟨b1,b2,h1,h2,h3,h4⟩,h=>⟨b1,b2,by omega,h2,h3,h4⟩
theorem ATR {H:Type}(d:DataW H):1<=uptoBulk d:=by
 cases d with
 | lit l=>cases l<;>simp [uptoBulk]
 | nil=>simp [uptoBulk]
 | ptr d=>simp [uptoBulk]
 | slice elems spare=>simp [uptoBulk]
 | agg parts=>simp [uptoBulk]
 | iface t d=>simp [uptoBulk]
 | map entries=>simp [uptoBulk]
 | held h=>simp [uptoBulk]
theorem AZC {P:Program}{t:TypeId}(hu:P.underlying t=some (.int .i64)):Rd P t (fun z:Int=>[.int .i64 z]) okI:=by
 intro n H ench w cs d ps h;obtain⟨z,rfl,hx,hz⟩:=DataW.trod_int hu h;refine⟨z,?_,RowP.one rfl (.int _ _)⟩;simp only[Lit.wf,zB,decide_eq_true_eq] at hz;exact hz
theorem AVH {P:Program}{t:TypeId}(hu:P.underlying t=some .bool):Rd P t (fun z:Bool=>[.bool z]) okT:=by
 intro n H ench w cs d ps h;obtain⟨z,rfl,hx⟩:=DataW.trod_bool hu h;exact⟨_,trivial,RowP.one rfl (.bool _)⟩
theorem AZB {P:Program}{t:TypeId}(hu:P.underlying t=some .string):Rd P t (fun z:ByteArray=>[.str z]) okS:=by
 intro n H ench w cs d ps h;obtain⟨s,rfl,hx,_⟩:=DataW.trod_string hu h;cases hx;refine⟨s,?_,RowP.one rfl (.str _)⟩;simp only[okS,uptoBulk,Array.length_toList];exact Nat.le_refl _
theorem ADF {α β:Type}{f:α->Option β}{x:α}{xs:List α}{ys:List β}(h:(x::xs).mapM f=some ys):∃y zs,f x=some y∧xs.mapM f=some zs∧ys=y::zs:=by
 rw[List.mapM_cons] at h
 cases hx:f x with
 | none=>simp [hx] at h
 | some y =>
   cases hz:xs.mapM f with
   | none=>simp [hx,hz] at h
   | some zs=>simp [hx,hz] at h; exact⟨y,zs,rfl,rfl,h.symm⟩
theorem AIY {P:Program}{n:Nat}{e:TypeId}{α:Type}{enc:α->List AV}{ok:α->Nat->Prop}(hr:RdAt P n e enc ok){H:Type}{ench:TypeId×Value->H}{w:World} :
  ∀ (zs:List (DataW H×List MemPlace)) (cells:Nat->Option (List Value)),(∀i,i<zs.length->(cells i).bind (DataW.trod ench P w 0 (fun _=>true) true n e)=zs[i]?) ->
    ∃xs:List α,xs.length=zs.length∧okL ok xs (uptoBulkAll (zs.map (·.1)))∧∀(i:Nat) (x:α),xs[i]?=some x->∃cs,cells i=some cs∧RowP (M0 w) (enc x) cs
 | [],cells,h=>⟨[],rfl,trivial,fun i x h=>by simp at h⟩
 | y::zs,cells,h=>by
   have h0:=h 0 (by simp)
   cases hc:cells 0 with
   | none=>simp [hc] at h0
   | some cs =>
     simp only[hc,Option.bind_some,List.getElem?_cons_zero] at h0;obtain⟨x,k1,k2⟩:=hr H ench w cs y.1 y.2 h0;obtain⟨xs,l1,l2,l3⟩:=AIY hr zs (fun i=>cells (i+1)) (fun i hi=>by have:=h (i+1) (by simpa using hi); simpa using this);refine⟨x::xs,by simp [l1],⟨uptoBulk y.1,uptoBulkAll (zs.map (·.1)),by simp [uptoBulkAll],ATR _,k1,l2⟩,?_⟩;intro i x' hx
     cases i with
     | zero=>simp at hx; subst hx; exact⟨cs,hc,k2⟩
     | succ i=>simp at hx; exact l3 i x' hx
theorem ALG {β:Type}{f:Nat->Option β}{n i:Nat}{ys:List β}(h:(List.range n).mapM f=some ys)(hi:i<n):∃y,f i=some y∧ys[i]?=some y:=by
 have gen:∀(l:List Nat) (ys:List β),l.mapM f=some ys->∀j k:Nat,l[j]?=some k->∃y,f k=some y∧ys[j]?=some y:=by
  intro l
  induction l with
  | nil=>intro ys _ j k hj; simp at hj
  | cons a l ih =>
    intro ys hl j k hj;obtain⟨y,zs,h1,h2,rfl⟩:=ADF hl
    cases j with
    | zero=>simp at hj; subst hj; exact⟨y,h1,rfl⟩
    | succ j=>simp at hj; exact ih zs h2 j k hj
 exact gen _ _ h i i (by simp [hi])
theorem cells_at {w:World}{a:Addr}{n:Nat}{cs:List Value}(h:w.cells? 0 a n=some cs){i:Nat}(hi:i<n):∃c,w.cell? (a.add i)=some c∧cs[i]?=some c:=by
 unfold World.cells? at h;simp only[Nat.zero_le,if_true] at h;exact ALG h hi
theorem P9 {P:Program}{n:Nat}{t e:TypeId}{k:Nat}{α:Type}{enc:α->List AV}{ok:α->Nat->Prop}(hu:P.underlying t=some (.slice e))(hk:P.cellsOf e=k)(hk0:0<k)(hlen:∀x,(enc x).length=k)
  (hr:RdAt P n e enc ok):RdAt P (n+1) t (fun x:SM×List α=>[.sl x.1 k (x.2.map enc)]) (fun x b=>∃b',b'+1<=b∧okL ok x.2 b'):=by
 intro H ench w cs d ps h;rcases DataW.trod_slice hu h with⟨rfl,hd⟩|⟨a,len,cap,zs,rest,m,hm,rfl,hd,_,hlc,_,hzl,hel,_,_⟩
 .cases hd
  exact⟨(.nil,[]),⟨0,by simp [uptoBulk],trivial⟩,RowP.one rfl (.nil _)⟩
 .obtain rfl:n=m:=by omega
  simp only[Prod.mk.injEq] at hd;obtain⟨xs,l1,l2,l3⟩:=AIY hr zs (fun i=>w.cells? 0 (a.add (i*P.cellsOf e)) (P.cellsOf e)) (fun i hi=>hel i (by omega));rw[hzl] at l1;have hok:∃b',b'+1<=uptoBulk d∧okL ok xs b':=⟨uptoBulkAll (zs.map (·.1)),by rw[hd.1]; simp [uptoBulk],l2⟩
  rcases qQ len with h0|hpos
  .subst h0
   have:xs=[]:=List.length_eq_zero_iff.1 l1;subst this;exact⟨(.any,[]),hok,RowP.one rfl (.empty .any k a cap (by simp) (by simp))⟩
  .refine⟨(.any,xs),hok,RowP.one rfl ?_⟩
   have cellAt:∀i j,i<len->j<k->∃c,w.cell? ((a.add (i*k)).add j)=some c∧∀x a',xs[i]?=some x->(enc x)[j]?=some a'->a'.leaf=true∧RepF (M0 w) a' c:=by
    intro i j hi hj;have hx:i<xs.length:=by omega
    obtain⟨cs',q1,q2⟩:=l3 i xs[i] (by simp [hx]);rw[hk] at q1;obtain⟨c,r1,r2⟩:=cells_at q1 hj;refine⟨c,r1,fun x a' hx' ha'=>?_⟩;rw[List.getElem?_eq_getElem hx] at hx';cases hx';obtain⟨s1,c',s2,s3⟩:=q2 j a' ha';rw[r2] at s2; cases s2;exact⟨s1,s3⟩
   obtain⟨cb,co,sp⟩:=a
   have hadd:∀i j,((Addr.mk cb co none).add (i*k)).add j=⟨cb,co+i*k+j,none⟩:=by
    intro i j;rw[addr_add,addr_add]
   obtain⟨c0,hc0,_⟩:=cellAt 0 0 hpos hk0
   have hsp:sp=none:=by
    simp [Addr.add,World.cell?] at hc0;split at hc0
    .split at hc0
     .cases hc0
     .rename_i hs; simpa using hs
    .cases hc0
   subst hsp;rw[hadd] at hc0;simp only[World.cell?] at hc0;split at hc0
   case h_2=>cases hc0
   rename_i c ty fz hw;have rd:∀i j,w.cell? ⟨cb,co+i*k+j,none⟩=c[co+i*k+j]? := fun i j=>by simp [World.cell?,hw]
   have hlx:len=(xs.map enc).length:=by simp [l1]
   rw[hlx];refine .sl .any k (xs.map enc) cb co c ty fz cap (fun i j=>c[co+i*k+j]?.getD default) ?_ (by simp) hw ?_ ?_ ?_ ?_ (by simp)
   .intro hx
    have:xs=[]:=by simpa using hx
    subst this; simp at l1; omega
   .intro i row hrow
    rw[zL,Option.map_eq_some_iff] at hrow;obtain⟨x,hx,rfl⟩:=hrow;refine⟨hlen x,fun j v hv=>?_⟩;have hi:i<len:=by rw[<-l1]; exact(List.getElem?_eq_some_iff.1 hx).1
    have hj:j<k:=by rw[<-hlen x]; exact(List.getElem?_eq_some_iff.1 hv).1
    obtain⟨c,_,hc2⟩:=cellAt i j hi hj;exact(hc2 x v hx hv).1
   .intro i j hi hj
    obtain⟨c',q1,_⟩:=cellAt i j (by simpa [l1] using hi) hj;rw[hadd,rd] at q1;rw[q1]; rfl
   .intro i j row v hrow hv
    rw[zL,Option.map_eq_some_iff] at hrow;obtain⟨x,hx,rfl⟩:=hrow;have hi:i<len:=by rw[<-l1]; exact(List.getElem?_eq_some_iff.1 hx).1
    have hj:j<k:=by rw[<-hlen x]; exact(List.getElem?_eq_some_iff.1 hv).1
    obtain⟨c',q1,q2⟩:=cellAt i j hi hj;rw[hadd,rd] at q1;show RepF _ _ (c[co+i*k+j]?.getD default);rw[q1];exact(q2 x v hx hv).2
   .simp [l1]; exact hlc
def AXL (P:Program)(n:Nat)(fs:List Field)(off:Nat){α:Type}(enc:α->List AV)(ok:α->Nat->Prop):Prop :=
 ∀ (H:Type) (ench:TypeId×Value->H) (w:World) (cs:List Value) (zs:List (DataW H×List MemPlace)),zs.length=fs.length ->
   (∀(i:Nat) (f:Field),fs[i]?=some f->DataW.trod ench P w 0 (fun _=>true) true n f.type ((cs.drop f.offset).take (P.cellsOf f.type))=zs[i]?)->∃x,ok x (uptoBulkAll (zs.map (·.1)))∧RowP (M0 w) (enc x) (cs.drop off)
theorem UC {P:Program}{n off:Nat}:AXL P n [] off (fun _:Unit=>[]) okT:=fun _ _ _ _ _ _ _=>⟨(),trivial,RowP.nil _ _⟩
theorem I7 {P:Program}{n off k:Nat}{f:Field}{fs:List Field}{α β:Type}{enc:α->List AV}{ok:α->Nat->Prop}{enc':β->List AV}{ok':β->Nat->Prop}(ho:f.offset=off)(hk:P.cellsOf f.type=k)
  (hlen:∀x,(enc x).length=k) (h:RdAt P n f.type enc ok) (h':AXL P n fs (off+k) enc' ok') :
  AXL P n (f::fs) off (fun x:α×β=>enc x.1++enc' x.2) (fun x b=>∃b1 b2,b1+b2<=b∧ok x.1 b1∧ok' x.2 b2):=by
 intro H ench w cs zs hl hz
 cases zs with
 | nil=>simp at hl
 | cons y zs =>
   have h1:=hz 0 f rfl;obtain⟨x,k1,k2⟩:=h H ench w _ y.1 y.2 (by simpa using h1);obtain⟨x',l1,l2⟩:=h' H ench w cs zs (by simpa using hl) (fun i f' hf=>by have:=hz (i+1) f' (by simpa using hf); simpa using this);refine⟨(x,x'),⟨_,_,Nat.le_of_eq (by simp [uptoBulkAll]),k1,l1⟩,?_⟩;rw[ho,hk] at k2;refine RowP.append k2 (hlen x) ?_;rw[List.drop_drop];exact l2
theorem PK {P:Program}{n:Nat}{t:TypeId}{fs:List Field}{α:Type}{enc:α->List AV}{ok:α->Nat->Prop}(hu:P.underlying t=some (.struct fs.toArray))(h:AXL P n fs 0 enc ok) :
  RdAt P (n+1) t enc (fun x b=>∃b',b'+1<=b∧ok x b'):=by
 intro H ench w cs d ps ht;obtain⟨zs,m,hm,hd,_,hl,hz⟩:=DataW.trod_struct hu ht;obtain rfl:n=m:=by omega
 obtain⟨x,k1,k2⟩:=h H ench w cs zs (by simpa using hl) (fun i f hf=>hz i f (by simpa using hf));simp only[Prod.mk.injEq] at hd;exact⟨x,⟨_,by rw[hd.1]; simp [uptoBulk],k1⟩,by simpa using k2⟩

open Go.Proofs.YtgnoolgeijmlaaaGreatDoor.Rows (uptoBulk uptoBulkAll)
def PR (P:Program)(t:TypeId){α:Type}(av:α->AV)(ok:α->Nat->Prop):Prop :=
 ∀ (H:Type) (ench:TypeId×Value->H) (w:World) (base:Nat) (v:Value) (d:DataW H) (ps:List MemPlace),Value.okWide P w .any base t v->DataW.Trod ench P w 0 (fun _=>true) true t v d ps ->
   ∃x,ok x (uptoBulk d)∧RepF (M0 w) (av x) v
theorem A4W {P:Program}{t:TypeId}{α:Type}{enc:α->List AV}{ok:α->Nat->Prop}{k:Nat}(h:Rd P t enc ok)(hl:∀x,ok x 0∨True->(enc x).length=k)(hk:P.cellsOf t=k)(hc:JO P t=some true):PR P t (fun x=>.agg (enc x)) ok:=by
 intro H ench w base v d ps hv ⟨n,ht⟩
 have hag:∃cs,v=.agg cs∧cs.size=P.cellsOf t:=by
  unfold JO at hc;unfold Value.okWide at hv
  cases hu:P.underlying t with
  | none=>simp [hu] at hc
  | some td =>
    rw[hu] at hc hv;cases td<;>simp at hc<;>exact⟨_,hv.choose_spec.1,hv.choose_spec.2.1⟩
 obtain⟨cs,rfl,hs⟩:=hag;obtain⟨x,h1,h2⟩:=h n H ench w _ d ps ht;refine⟨x,h1,.agg _ cs (by rw[hs,hl x (.inr trivial),hk]) ?_⟩;intro i a cv ha hcv;obtain⟨_,c,h3,h4⟩:=h2 i a ha;simp [Value.cells] at h3;rw[hcv] at h3; cases h3;exact h4
def PRs (P:Program)(ts:List TypeId){α:Type}(avs:α->List AV)(ok:α->Nat->Prop):Prop :=
 ∀ (H:Type) (ench:TypeId×Value->H) (w:World) (base:Nat) (vs:List Value) (ds:List (DataW H)) (ps:List MemPlace),(∀(j:Nat) t v,ts[j]?=some t->vs[j]?=some v->Value.okWide P w .any base t v) ->
   DataW.TrodAll ench P w 0 (fun _=>true) true ts vs ds ps->∃x,ok x (uptoBulkAll ds)∧vs.length=(avs x).length∧∀(i:Nat) (a:AV) (v:Value),(avs x)[i]?=some a->vs[i]?=some v->RepF (M0 w) a v
theorem PRs.len {P:Program}{w:World}{H:Type}{ench:TypeId×Value->H}{sp:Nat->Bool}{held:Bool}{base:Nat}:∀ {ts:List TypeId} {vs:List Value} {ds:List (DataW H)} {ps:List MemPlace},DataW.TrodAll ench P w base sp held ts vs ds ps->ds.length=ts.length
 | [],[],[],_,_=>rfl
 | _::_,_::_,_::_,_,⟨_,_,_,h2,_⟩=>by simp [PRs.len h2]
theorem A33 {P:Program}:PRs P [] (fun _:Unit=>[]) okT:=by
 intro H ench w base vs ds ps _ h
 cases vs with
 | nil=>exact⟨(),trivial,rfl,fun i a v h=>by simp at h⟩
 | cons v vs=>cases ds<;>exact h.elim
theorem A1G {P:Program}{t:TypeId}{ts:List TypeId}{α β:Type}{av:α->AV}{ok:α->Nat->Prop}{avs:β->List AV}{ok':β->Nat->Prop}(h:PR P t av ok)(h':PRs P ts avs ok') :
  PRs P (t::ts) (fun x:α×β=>av x.1::avs x.2) (fun x b=>∃b1 b2,b1+b2<=b∧ok x.1 b1∧ok' x.2 b2):=by
 intro H ench w base vs ds ps hv ht
 cases vs with
 | nil=>cases ds<;>exact ht.elim
 | cons v vs =>
   cases ds with
   | nil=>exact ht.elim
   | cons d ds =>
     obtain⟨p,q,h1,h2,_⟩:=ht;obtain⟨x,k1,k2⟩:=h H ench w base v d p (hv 0 t v rfl rfl) h1;obtain⟨y,l1,l2,l3⟩:=h' H ench w base vs ds q (fun j t' v' a b=>hv (j+1) t' v' (by simpa using a) (by simpa using b)) h2;refine⟨(x,y),⟨_,_,Nat.le_of_eq (by simp [uptoBulkAll]),k1,l1⟩,by simp [l2],?_⟩;intro i a v' ha hv'
     cases i with
     | zero=>simp at ha hv'; subst ha; subst hv'; exact k2
     | succ i=>simp at ha hv'; exact l3 i a v' ha hv'
theorem AV3 {H:Type}{enc:TypeId×Value->H}{E:Env}{f:FuncId}{fn:Func}{s:ChangeSpec}{tb:TypeId}{apart fresh handsOn:Bool}{W:World}{base:Nat}{args:Array Value}{ds gs:List (DataW H)}{before:List MemPlace}
  {α:Type} {avs:α->List AV} {ok:α->Nat->Prop} (hr:PRs E.P fn.params.toList avs ok) (hlaw:∀x,ok x (uptoBulkAll ds)->ACalls E f (avs x) [] fun v _=>v=.bool true)
  (hval:∀(j:Nat) t v,fn.params[j]?=some t->args[j]?=some v->Value.okWide E.P W .any base t v)
  (hW:DataW.Whole enc E.P fn.params.toList s.vars apart W args.toList ds gs before) (hG:∀n,RepF (M0 W) (E.G n) (.pointer (some ⟨n,0,none⟩)))
  (hv:s.vars=[]) (ht:fn.resultTypes = #[tb]) (hub:E.P.underlying tb=some .bool)
  (hs:s.fn H ds={ results:=[.lit (.bool true)],args:=ds })
  (hl:laidOutB E.P=true) (hp:fn.params.toList.all (fun t=>E.P.readableRec t&&decide (t<E.P.types.size))=true) (hN:E.L=none:=by rfl) (hX:∀u h,¬E.X u h:=by exact fun _ _ q=>q) :
  Calls E.P f args W fun e W'=>∃v,e=.returned v∧s.post enc E.P fn apart fresh handsOn false W args v W':=by
 obtain⟨p,q,hA,_⟩:=id hW;obtain⟨x,k1,k2,k3⟩:=hr H enc W base args.toList ds p (fun j t v a b=>hval j t v (by simpa using a) (by simpa using b)) hA;have ha:YG (g0 W) (avs x) args:=⟨by simpa using k2,fun i v cv h1 h2=>.fro (k3 i v cv h1 (by simpa using h2))⟩;refine(AJ3 (hlaw x k1) hN hX hG ha).mono ?_;rintro e w' ⟨rfl,hb⟩;exact⟨_,rfl,ARK hW hb hv ht hub hs hl hp⟩
theorem APO {P:Program}{w:World}{t e:TypeId}(hu:P.underlying t=some (.slice e))(he:P.underlying e=some .string)(hk:P.cellsOf e=1){H:Type}{ench:TypeId×Value->H}{sp:Nat->Bool}{held:Bool}{n:Nat}{cs:List Value}
  {l:List ByteArray} {d:DataW H} (hd:d=.slice (l.map fun s=>.lit (.string s.data.toList)) []) {p:List MemPlace} (h:DataW.trod ench P w 0 sp held n t cs=some (d,p)) :
  ∃c,cs=[c]∧RepF (M0 w) (.sl .any 1 (l.map fun s=>[.str s])) c:=by
 subst hd;rcases DataW.trod_slice hu h with⟨_,hx⟩|⟨a,len,cap,zs,rest,m,_,rfl,hx,_,hlc,_,hzl,hel,_,_⟩
 .cases hx
 .simp only[Prod.mk.injEq,DataW.slice.injEq] at hx
  obtain⟨⟨hz,_⟩,_⟩:=hx;have hll:l.length=len:=by have:=congrArg List.length hz; simpa [hzl] using this
  refine⟨_,rfl,?_⟩;rcases qQ len with h0|hpos
  .subst h0
   have:l=[]:=List.length_eq_zero_iff.1 hll;subst this;exact .empty .any 1 a cap (by simp) (by simp)
  .have cellAt:∀i (s:ByteArray),l[i]?=some s->w.cell? (a.add i)=some (.string s):=by
    intro i s hs;have hi:i<len:=by rw[<-hll]; exact(List.getElem?_eq_some_iff.1 hs).1
    have h1:=hel i hi;rw[hk,Nat.mul_one] at h1
    have h2:zs[i]?.map (·.1)=some (.lit (.string s.data.toList)):=by
     rw[<-zL,<-hz,zL,hs]; rfl
    cases hc:w.cells? 0 (a.add i) 1 with
    | none=>rw[hc] at h1; rw[<-h1] at h2; cases h2
    | some c1 =>
      rw[hc,Option.bind_some] at h1
      obtain⟨z,hzi⟩:∃z,zs[i]?=some z:=by cases hh:zs[i]? with
       | none=>rw[hh] at h2; cases h2
       | some z=>exact⟨z,rfl⟩
      rw[hzi] at h1 h2;obtain⟨s',rfl,rfl,_⟩:=DataW.trod_string he h1;simp only[Option.map_some,Option.some.injEq,DataW.lit.injEq,Lit.string.injEq] at h2
      have:s'=s:=by
       cases s'; cases s;simp only at h2;congr 1;exact Array.toList_inj.1 h2
      subst this;obtain⟨c,r1,r2⟩:=cells_at hc (i:=0) (by decide);simp at r2; subst r2;simpa [Addr.add] using r1
   obtain⟨cb,co,sp'⟩:=a;have h00:=cellAt 0 l[0] (by simp [hll,hpos])
   have hsp:sp'=none:=by
    simp [Addr.add,World.cell?] at h00;split at h00
    .split at h00
     .cases h00
     .rename_i hs; simpa using hs
    .cases h00
   subst hsp;have hadd:∀i,(Addr.mk cb co none).add i=⟨cb,co+i,none⟩:=fun i=>addr_add _ _ _
   rw[hadd] at h00;simp only[World.cell?] at h00;split at h00
   case h_2=>cases h00
   rename_i c ty fz hw;have rd:∀i,w.cell? ⟨cb,co+i,none⟩=c[co+i]? := fun i=>by simp [World.cell?,hw]
   have hlx:len=(l.map fun s=>[AV.str s]).length:=by simp [hll]
   rw[hlx];refine .sl .any 1 _ cb co c ty fz cap (fun i j=>c[co+i*1+j]?.getD default) ?_ (by simp) hw ?_ ?_ ?_ (by simp [hll]; exact hlc) (by simp)
   .intro hx
    have:l=[]:=by simpa using hx
    subst this; simp at hll; omega
   .intro i row hrow
    rw[zL,Option.map_eq_some_iff] at hrow;obtain⟨x,hx,rfl⟩:=hrow;refine⟨rfl,fun j v hv=>?_⟩
    cases j with
    | zero=>simp at hv; subst hv; rfl
    | succ j=>simp at hv
   .intro i j hi hj
    have hi':i<l.length:=by simpa using hi
    have:=cellAt i l[i] (by simp [hi']);rw[hadd,rd] at this;have hj0:j=0:=by omega
    subst hj0;simp only[Nat.mul_one,jL];rw[this]; rfl
   .intro i j row v hrow hv
    rw[zL,Option.map_eq_some_iff] at hrow;obtain⟨x,hx,rfl⟩:=hrow;have:=cellAt i x hx;rw[hadd,rd] at this
    cases j with
    | zero =>
      simp at hv; subst hv;simp only[Nat.mul_one,jL];rw[this]; exact .str _
    | succ j=>simp at hv
theorem AUX {P:Program}{w:World}{n:String}{g:Nat}{cs:Array Value}{c:Value}{a:AV}(hg:P.globalNamed n=some g)(h:w.var? P n=some cs)(hc:cs.toList=[c])(hr:RepF (M0 w) a c)(hl:a.leaf=true) :
  RepF (M0 w) (.fptr 1 [[a]] 0 0) (.pointer (some ⟨g,0,none⟩)):=by
 have h0:=World.var?_cell hg h 0;have e:cs = #[c]:=by rw[<-Array.toArray_toList (xs:=cs),hc]
 rw[e] at h0;simp only[World.cell?] at h0;split at h0
 case h_2=>simp at h0
 rename_i cc ty fz hw;have hcc:cc[0]?=some c:=by simpa using h0
 refine .fptr 1 [[a]] 0 0 g 0 cc ty fz (fun _ _=>c) hw ?_ ?_ ?_
 .intro i row hrow
  cases i with
  | zero =>
    simp at hrow; subst hrow;refine⟨rfl,fun j v hv=>?_⟩
    cases j with
    | zero=>simp at hv; subst hv; exact hl
    | succ j=>simp at hv
  | succ i=>simp at hrow
 .intro i j hi hj
  have:i=0:=by simpa using hi
  have:j=0:=by omega
  subst_vars
  simpa using hcc
 .intro i j row v hrow hv
  cases i with
  | zero =>
    simp at hrow; subst hrow
    cases j with
    | zero=>simp at hv; subst hv; exact hr
    | succ j=>simp at hv
  | succ i=>simp at hrow
end Go.Proofs.YtgnoolgeijmlaaaGreatDoor.Sm
namespace Go.Proofs.YtgnoolgeijmlaaaGreatDoor.Head
open List renaming contains_nil→jI

def signs:List Char:=([104,97,114,110,101,115,115,32,55,98,52,51,98,51,53,50,54,99,56,49,99,97,55,100,99,99,56,57,99,49,57,98,57,51,48,97,56,100,98,54,53,48,52,50,49,53,50,102,99,97,52,55,49,55,98,54,53,52,101,101,56,51,57,57,57,50,97,99,97,101,52,56,32,99,117,116,32,97,116,32,116,101,115,116,98,101,110,99,104,47,116,101,115,116,98,101,110,99,104,108,97,119,49,54,46,66,108,97,115,116,76,101,118,101,108,115,32,116,101,115,116,98,101,110,99,104,47,116,101,115,116,98,101,110,99,104,108,97,119,49,54,46,66,108,97,115,116,84,114,117,116,104,115,32,116,101,115,116,98,101,110,99,104,47,116,101,115,116,98,101,110,99,104,108,97,119,49,54,46,66,108,97,115,116,67,111,110,106,117,110,99,116,105,111,110,115,32,116,101,115,116,98,101,110,99,104,47,116,101,115,116,98,101,110,99,104,108,97,119,49,54,46,66,108,97,115,116,87,111,114,100,115,32,116,101,115,116,98,101,110,99,104,47,116,101,115,116,98,101,110,99,104,108,97,119,49,54,46,66,108,97,115,116,65,103,114,101,101,115,32,116,101,115,116,98,101,110,99,104,47,116,101,115,116,98,101,110,99,104,108,97,119,49,54,46,66,108,97,115,116,69,120,116,101,110,100,115,32,116,101,115,116,98,101,110,99,104,47,116,101,115,116,98,101,110,99,104,108,97,119,49,54,46,66,108,97,115,116,69,113,117,97,108]:List Nat).map Char.ofNat
theorem ARR:Tryz.pinned.checked.prog.initOrder=String.ofList signs:=by kernel_rfl
theorem AFD {s:String}{l:List Char}(h:s=String.ofList l):s.toList=l:=by rw[h,String.toList_ofList]
theorem YR:Tryz.pinned.checked.prog.initOrder.toList=signs:=AFD ARR
def AJW:List Char:=(signs.drop 73).take 3
def ARF:List (List Char):=wordsSigns (signs.drop 77)
def hsum:List Char:=(signs.drop 8).take 64
theorem ACU:behindMainWord (wordsSigns signs)=AJW::ARF:=by kernel_rfl
theorem AY2:wordsSigns signs=signs.take 7::hsum::wordsSigns (signs.drop 73):=by kernel_rfl
theorem AIL:stripLifts liftWords (AJW::ARF)=([],AJW::ARF):=by kernel_rfl
theorem AWR:Tryz.pinned.checked.prog.doorFits []=true:=by kernel_rfl
theorem ASA:Tryz.pinned.checked.prog.laysLater=false:=by kernel_rfl
theorem AVF:Tryz.pinned.checked.prog.bearsReflect=false:=by kernel_rfl
theorem AZ6:(AJW == "cut".toList)=true:=by kernel_rfl
theorem AJV:((some AJW)==some "cut".toList)=true:=by kernel_rfl
theorem A1M:(AJW == "gc".toList)=false:=by kernel_rfl
theorem AVN:(AJW == "spec".toList)=false:=by kernel_rfl
theorem AVO:(some AJW==some "carried".toList)=false:=by kernel_rfl
theorem sum_is:isSumSigns hsum=true:=by kernel_rfl
theorem AZS:(signs.take 7 == "harness".toList)=true:=by kernel_rfl
theorem ATB {P:Program}(h:P.initOrder.toList=signs)(hd:P.doorFits []=true)(hl:P.laysLater=false)(hr:P.bearsReflect=false):P.mayEnter=true:=by
 unfold Program.mayEnter;generalize P.initOrder.toList=l at h;subst h;rw[ACU];simp only[AIL,hd,hl,hr,jI,List.head?_cons,Bool.not_false,Bool.or_true,Bool.and_true,AJV]
theorem AVX {P:Program}(h:P.initOrder.toList=signs):P.make=some .cut:=by
 unfold Program.make;generalize P.initOrder.toList=l at h;subst h;rw[ACU];simp only[A1M,AVN,AZ6,Bool.or_false,Bool.false_eq_true,if_false,Bool.true_or,if_true]
theorem APY {P:Program}(h:P.initOrder.toList=signs):P.liftsFinal=false:=by
 unfold Program.liftsFinal Program.headLifts;generalize P.initOrder.toList=l at h;subst h;rw[ACU];simp only[AIL,List.head?_cons,AVO,AJV,Bool.false_and,Bool.false_or,if_true,jI]
theorem AVY {P:Program}{s:String}(h:P.initOrder.toList=signs)(hs:s=String.ofList hsum):P.mainIs=some (true,s.toList):=by
 rw[AFD hs];unfold Program.mainIs;generalize P.initOrder.toList=l at h;subst h;rw[AY2]
 show(if !isSumSigns hsum then none else if signs.take 7 == "harness".toList then some (true,hsum) else if signs.take 7 == "ownmain".toList then some (false,hsum) else none)=_
 rw[sum_is,AZS];rfl
theorem A2J:Tryz.pinned.checked.prog.mayEnter=true:=ATB YR AWR ASA AVF
theorem make_is:Tryz.pinned.checked.prog.make=some .cut:=AVX YR
theorem A0L:Tryz.pinned.checked.prog.liftsFinal=false:=APY YR
theorem A34 {s:String}(hs:s=String.ofList hsum):Tryz.pinned.checked.prog.mainIs=some (true,s.toList):=AVY YR hs
end Go.Proofs.YtgnoolgeijmlaaaGreatDoor.Head
namespace Go.Proofs.YtgnoolgeijmlaaaGreatDoor.Cov
open Sm Bins Go.RowKit
open List renaming drop_zero→qL,take_of_length_le→zH
def outG {α:Type}(k:Nat)(f:α->List AV)(h:Hp)(ys:List α)(v:AV)(H:Hp):Prop :=
 (ys=[]∧v=.sl .nil 0 [])∨(ys≠[]∧∃o,h.length<=o∧v=.own o 0 ys.length∧H[o]?=some (.live k (ys.map f)))
theorem outG.nil {α:Type}(k:Nat)(f:α->List AV)(h H:Hp):outG k f h [] (.sl .nil 0 []) H:=.inl ⟨rfl,rfl⟩
theorem outG.keep {α:Type}{k:Nat}{f:α->List AV}{h H H':Hp}{ys:List α}{v:AV}(ho:outG k f h ys v H)(hk:∀b,isB v b->H'[b]?=H[b]?):outG k f h ys v H':=by
 rcases ho with h1|⟨h1,o,h2,rfl,h3⟩
 .exact .inl h1
 .exact .inr ⟨h1,o,h2,rfl,by rw[hk o rfl]; exact h3⟩
theorem outG.lt {α:Type}{k:Nat}{f:α->List AV}{h H:Hp}{ys:List α}{v:AV}{b:Nat}(ho:outG k f h ys v H)(hb:isB v b):h.length<=b∧b<H.length:=by
 rcases ho with⟨_,rfl⟩|⟨_,o,h2,rfl,h3⟩
 .exact hb.elim
 .cases hb; exact⟨h2,CB h3⟩
theorem outG.app {α:Type}{k:Nat}{f:α->List AV}{h H:Hp}{ys:List α}{v:AV}(ho:outG k f h ys v H)(x:Hp):outG k f h ys v (H++x) :=
 ho.keep fun _ hb=>List.getElem?_append_left (ho.lt hb).2
theorem outG.append {P:Program}{t e:TypeId}{α:Type}{k bs:Nat}{f:α->List AV}{h H:Hp}{ys:List α}{v:AV}(ho:outG k f h ys v H)(hu:P.underlying t=some (.slice e))(hs:szO P e=some k)(hz:ABW P e=some k)(hb:OJ P e=some bs)(hbs:bs<=4194304)(hl:ys.length<8388608)(he:ext h H)(y:α) :
  ∃v' H',IP P true H t t v (.sl .full k [f y])=some (v',H')∧outG k f h (ys++[y]) v' H'∧(∀b x,H[b]?=some x->¬isB v b->H'[b]?=some x)∧ext h H'∧H.length<=H'.length∧∀b,isB v' b->b=H.length:=by
 have h1:([f y]:List (List AV))≠[]:=by simp
 rcases ho with⟨rfl,rfl⟩|⟨hne,o,h2,rfl,h3⟩
 .exact⟨_,_,Z4 hu hs hz hb (KJ H .full k [f y]) h1 (OX (by simp) hbs),.inr ⟨by simp,H.length,he.le,rfl,by simp⟩,fun b x hb _=>RN hb,he.app _,by simp,fun b hb=>hb.symm⟩
 .have hc:KQ H (.own o 0 ys.length)=some (k,ys.map f):=by
   rw[OQ h3 (by simp),qL,zH (by simp)]
  refine⟨_,_,UW hu hs hz hb hc (KJ H .full k [f y]) h1 (OX (by simp; omega) hbs),.inr ⟨by simp,H.length,he.le,by simp,by simp⟩,fun b x hb hn=>?_,(he.set h2 _).app _,by simp,fun b hb=>hb.symm⟩;have hn':¬o=b:=hn;refine RN ?_;rw[List.getElem?_set,if_neg hn']; exact hb
theorem outG.len {P:Program}{t:TypeId}{α:Type}{k:Nat}{f:α->List AV}{h H:Hp}{ys:List α}{v:AV}(ho:outG k f h ys v H)(hl:(∀m k xs,LX P t (.sl m k xs)=some (.int .i64 xs.length))∧∀b off len,LX P t (.own b off len)=some (.int .i64 len)):LX P t v=some (.int .i64 ys.length):=by
 rcases ho with⟨rfl,rfl⟩|⟨_,o,_,rfl,_⟩
 .exact hl.1 _ _ _
 .exact hl.2 _ _ _
def nm {α:Type}(ys:List α):SM:=match ys with
 | []=>.nil
 | _=>.any
theorem ASZ (n:Nat)(h:Hp)(d b off len k:Nat)(xs:List (List AV))(hn:¬b<n)(hb:h[b]?=some (.live k xs)):JS n h (d+1) (.own b off len)=if off+len<=xs.length∧(((xs.drop off).take len).map (·.map (JS n h d))).all (·.all AV.leaf)=true then .sl .any k (((xs.drop off).take len).map (·.map (JS n h d))) else .junk:=by
 rw[JS];simp only[hn,if_false,hb]
def Frz {α:Type}(f:α->List AV):Prop:=∀(n:Nat) (h:Hp) (d:Nat) (x:α),(f x).map (JS n h (d+1))=f x∧(f x).all AV.leaf=true
theorem ASW {α:Type}{f:α->List AV}(hf:Frz f)(n:Nat)(h:Hp)(d:Nat)(xs:List α):(xs.map f).map (·.map (JS n h (d+1)))=xs.map f:=by
 rw[List.map_map];exact List.map_congr_left fun x _=>(hf n h d x).1
theorem UK {α:Type}{f:α->List AV}(hf:Frz f){n d k:Nat}{h:Hp}{o:Nat}{xs:List α}(hn:n<=o)(ho:h[o]?=some (.live k (xs.map f))):JS n h (d+2) (.own o 0 xs.length)=.sl .any k (xs.map f):=by
 rw[ASZ n h (d+1) o 0 xs.length k _ (by omega) ho,qL,zH (by simp),ASW hf n h d xs];rw[if_pos];refine⟨by simp,?_⟩;rw[List.all_eq_true];intro row hr;obtain⟨x,_,rfl⟩:=List.mem_map.1 hr;exact(hf n h d x).2
theorem AFL {E:Env}{f:FuncId}{args:List AV}{h:Hp}{α:Type}{k:Nat}{enc:α->List AV}(hf:Frz enc){ys:List α}(hc:ACalls E f args h fun v H=>ext h H∧outG k enc h ys v H)(hX:E.nox=E:=by rfl):PCall E f args h (.sl (nm ys) k (ys.map enc)):=by
 have h1:PCall E f args h (if ys.length=0 then AV.sl .nil 0 [] else .sl .any k (ys.map enc)):=by
  refine ACalls.pure 2 hc ?_ hX;rintro v H ⟨hex,hout⟩;refine⟨hex,?_⟩;rcases hout with⟨rfl,rfl⟩|⟨hne,o,ho1,rfl,ho⟩
  .rfl
  .rw[if_neg (by simpa using hne)]; exact UK hf ho1 ho
 refine ACalls.conv h1 ?_;rintro v H ⟨rfl,rfl⟩;refine⟨_,⟨rfl,rfl⟩,?_⟩;intro g cv hr
 cases ys with
 | nil=>exact ARY hr
 | cons y ys=>exact hr
end Go.Proofs.YtgnoolgeijmlaaaGreatDoor.Cov
set_option linter.unusedSimpArgs false
set_option maxRecDepth 8000
namespace Go.Proofs.YtgnoolgeijmlaaaGreatDoor.Xe
open Sm Bins Cov Wd Go.RowKit
open Bool renaming not_false→jC
open Int renaming reduceBEq→zG
open List renaming map_cons→jF,map_nil→jE,append_nil→jD
open Nat renaming le_of_ble_eq_true→jH,reduceEqDiff→jA
open Option renaming getD_some→jB
def tr (b:Bool):Nat:=if b then 1 else 0
def sgW (op:Int)(a:Nat):Nat:=if op=4 then tr (a==0) else if op=5 then 65535-a else if op=6 then (65536-a)%65536 else ARS a
def dbW (op:Int)(a b:Nat):Nat :=
 if op=7 then (a+b)%65536 else if op=8 then (a+65536-b)%65536 else if op=9 then a*b%65536 else if op=10 then a &&& b else if op=11 then a ||| b else if op=12 then a ^^^ b
 else if op=13 then AY6 a (b:Nat) else if op=14 then AES a (b:Nat) else if op=15 then tr (a==b) else if op=16 then tr (!(a==b)) else if op=17 then tr (decide (a<b)) else if op=18 then tr (decide (a<=b))
 else if op=19 then tr (!(a==0) && !(b==0)) else if op=20 then tr (!(a==0) || !(b==0)) else tr ((a==0) || !(b==0))
theorem eqc (a b:Nat):((a:Int)==(b:Int))=(a==b):=by
 rw[Bool.eq_iff_iff]; simp only[beq_iff_eq]; omega
theorem eqz (a:Nat):((a:Int)==0)=(a==0):=eqc a 0
theorem AOZ (G:Nat->AV)(b:Bool)(h:Hp):PCall (En G) 199 [.bool b] h (.int .i64 (tr b:Nat)):=by
 refine acN Tryz.func199 rfl ?_;show awp _ _ _ _ _ (EK _ [.tmp 2] _);cases b
 all_goals
  simp -implicitDefEqProofs only[vQ,BD,↓reduceIte,jA,enX,enP];exact⟨rfl,trivial⟩
theorem single_ref (G:Nat->AV)(op:Int)(a:Nat)(ha:a<65536)(h:Hp):PCall (En G) 166 [.int .i64 op,.int .i64 (a:Nat)] h (.int .i64 (sgW op a:Nat)):=by
 refine acN Tryz.func166 rfl ?_;show awp _ _ _ _ _ (EK _ [.tmp 4] _);have hcase:op=4∨op=5∨op=6∨(op≠4∧op≠5∧op≠6):=by omega
 rcases hcase with rfl|rfl|rfl|⟨n4,n5,n6⟩
 .simp -implicitDefEqProofs only[vQ,BD,↓reduceIte,jA,enX,enP,zG,eqz]
  refine(AOZ G _ h).use ?_;simp -implicitDefEqProofs only[vQ,BD,↓reduceIte];exact⟨rfl,trivial⟩
 .simp -implicitDefEqProofs only[vQ,BD,↓reduceIte,jA,enX,enP,zG]
  refine(A17 G a ha h).use ?_;simp -implicitDefEqProofs only[vQ,BD,↓reduceIte];exact⟨rfl,trivial⟩
 .simp -implicitDefEqProofs only[vQ,BD,↓reduceIte,jA,enX,enP,zG]
  refine(A1O G a ha h).use ?_;simp -implicitDefEqProofs only[vQ,BD,↓reduceIte];exact⟨rfl,trivial⟩
 .simp -implicitDefEqProofs only[vQ,BD,↓reduceIte,jA,enX,enP,beq_eq_false_iff_ne.2 n4,beq_eq_false_iff_ne.2 n5,beq_eq_false_iff_ne.2 n6]
  refine(AZG G a ha h).use ?_;simp -implicitDefEqProofs only[vQ,BD,↓reduceIte];exact⟨by unfold sgW; rw[if_neg n4,if_neg n5,if_neg n6],trivial⟩
theorem OA (h:Hp)(x y:ABlk):(h++[x]).set h.length y=h++[y]:=by simp
theorem ACZ {P:Program}{H:Hp}{t b k j:Nat}{row cs:List AV}{v:AV}(hc:JM v=some cs)(hs:szO P t=some cs.length)(hb:H[b]?=some (.live k [row]))(hl:j+cs.length<=row.length):FO P H t (.ptr b 0 j) v=some (H.set b (.live k [splice row j cs])):=by
 rw[G7 (i:=0) hc hs hb rfl hl]; rfl
abbrev Sg:=ByteArray×Int
def AOB (s:Sg):List AV:=[.str s.1,.int .i64 s.2]
def A51 (s:Sg):Prop := -9223372036854775808<=s.2∧s.2<=9223372036854775807
def ZJ:List Sg->ByteArray->Nat×Bool
 | [],_=>(0,false)
 | s::l,n=>if(s.1.toList==n.toList)=true then (wW s.2,true) else ZJ l n
theorem ALV (l:List Sg)(n:ByteArray)(k:Nat)(hk:k<l.length):ZJ (l.drop k) n=if(l[k].1.toList==n.toList)=true then (wW l[k].2,true) else ZJ (l.drop (k+1)) n:=by
 rw[List.drop_eq_getElem_cons hk]; rfl
def A1I (p:Nat×Bool):AV:=.tup [.int .i64 (p.1:Nat),.bool p.2]
theorem ZX {P:Program}{t:TypeId}{a b:ByteArray}(h:a.size+b.size<=9223372036854775807):JD P t .add (.str a) (.str b)=some (.str (a++b)):=by
 show AT7 .add a b=_;unfold AT7
 have:((a.size+b.size:Nat):Int)<=IntKind.i64.max:=by
  show _<=(9223372036854775807:Int);omega
 simp only[if_pos this]
section
variable (G:Nat->AV)
theorem find_ref (l:List Sg)(m:SM)(n:ByteArray)(h:Hp)(hl:l.length<=1099511627776)(hok:∀s∈l,A51 s):PCall (En G) 162 [.sl m 2 (l.map AOB),.str n] h (A1I (ZJ l n)):=by
 refine acN Tryz.func162 rfl ?_;show awp _ _ _ _ _ (EK _ [.tmp 4,.tmp 5] _);simp -implicitDefEqProofs only[vQ,BD,enX,enP];refine D7 (fun k F H=>∃j,k+j=l.length∧F 0=.sl m 2 (l.map AOB)∧F 1=.str n∧F 6=.int .i64 (j:Nat)∧H=h∧ZJ l n=ZJ (l.drop j) n) l.length ⟨0,by simp,by simp -implicitDefEqProofs only[vQ,↓reduceIte,jA],by simp -implicitDefEqProofs only[vQ,↓reduceIte,jA],by simp -implicitDefEqProofs only[AA,↓reduceIte]; rfl,rfl,rfl⟩ ?_;rintro k F H ⟨j,hj,f0,f1,f6,rfl,hf⟩;simp -implicitDefEqProofs only[vQ,BD,↓reduceIte,jA,enP,A44,f0,f6,List.length_map];refine C9 (fun hc=>?_) (fun hc=>?_)
 .have hj':j<l.length:=by simpa using hc
  rw[ALV l n j hj'] at hf;have l0:DF Tryz.prog H 9 (.fptr 2 (l.map AOB) j 0)=some (.str l[j].1):=by rw[FX ag9 hj']; rfl
  have l1:DF Tryz.prog H 3 (.fptr 2 (l.map AOB) j 1)=some (.int .i64 l[j].2):=by rw[FX ag3 hj']; rfl
  simp -implicitDefEqProofs only[vQ,BD,LH,↓reduceIte,jA,Nat.add_zero,enP,A15,AZW,f0,f1,f6,EZ hj',l0];refine C9 (fun hb=>?_) (fun hb=>?_)
  .simp -implicitDefEqProofs only[vQ,BD,↓reduceIte,jA,Nat.zero_add,enP,A15,AZV,f0,f6,EZ hj',l1]
   refine(ACR G _ _ (hok _ (List.getElem_mem hj'))).use ?_;simp -implicitDefEqProofs only[vQ,AAY,BD,↓reduceIte,jA];exact⟨by rw[hf,if_pos hb]; rfl,trivial⟩
  .simp -implicitDefEqProofs only[vQ,BD,↓reduceIte,jA,enP,f6,wrap_succ (show j<9223372036854775807 by omega)]
   exact⟨k-1,by omega,j+1,by omega,by trivial,by trivial,rfl,trivial,by rw[hf,if_neg (by rw[hb]; decide)]⟩
 .have hj':¬j<l.length:=by simpa using hc
  simp -implicitDefEqProofs only[vQ,AAY,BD,↓reduceIte,jA];exact⟨by rw[hf,List.drop_eq_nil_of_le (by omega)]; rfl,trivial⟩
def elN (a:ByteArray)(i:Nat):ByteArray:=a++(⟨#[91]⟩:ByteArray)++(⟨#[UInt8.ofNat (48+i)]⟩:ByteArray)++(⟨#[93]⟩:ByteArray)
def atG (l:List Sg)(a:ByteArray)(i:Int):Nat×Bool:=if i<0∨i≥8 then (0,false) else ZJ l (elN a i.toNat)
theorem ATI:∀i:Nat,i<8->Z8 Tryz.prog 208 9 (.sl .full 1 [[.int .u8 (IntKind.u8.wrap (IntKind.i64.wrap (48+(i:Int))))]])=some (.str ⟨#[UInt8.ofNat (48+i)]⟩)
 | 0,_=>by kernel_rfl
 | 1,_=>by kernel_rfl
 | 2,_=>by kernel_rfl
 | 3,_=>by kernel_rfl
 | 4,_=>by kernel_rfl
 | 5,_=>by kernel_rfl
 | 6,_=>by kernel_rfl
 | 7,_=>by kernel_rfl
 | n+8,h=>absurd h (by omega)
theorem A3C (h:Hp)(v:Int):GG Tryz.prog false h 208 1 [(0,.int .u8 v)]=some (.sl .full 1 [[.int .u8 v]],h):=by kernel_rfl
theorem AHS (a b:ByteArray):(a++b).size=a.size+b.size:=ByteArray.size_append
def sumTo (l:List Sg)(a:ByteArray):Nat->Nat
 | 0=>0
 | k+1=>(sumTo l a k+(atG l a (k:Nat)).1)%65536
end
end Go.Proofs.YtgnoolgeijmlaaaGreatDoor.Xe
set_option linter.unusedSimpArgs false
set_option maxRecDepth 8000
namespace Go.Proofs.YtgnoolgeijmlaaaGreatDoor.Cov
open Sm Bins Go.RowKit
theorem ABM {E:Env}{f:FuncId}{args:List AV}{h:Hp}{r:AV}(d:Nat)(hr:∀n H,JS n H d r=r)(hc:ACalls E f args h fun v H=>v=r∧ext h H)(hX:E.nox=E:=by rfl):PCall E f args h r :=
 ACalls.pure d hc (fun v H ⟨e,he⟩=>⟨he,by rw[e]; exact hr _ _⟩) hX
theorem F8 {h H:Hp}{b:Nat}{x:ABlk}(he:ext h H)(hb:h[b]?=some x):H[b]?=some x:=by
 obtain⟨y,rfl⟩:=he;rw[List.getElem?_append_left (CB hb)]; exact hb
theorem AWF:Frz qencI:=fun _ _ _ _=>⟨rfl,rfl⟩
theorem A5P (h:Hp)(v:Int):GG Tryz.prog false h 29 1 [(0,.int .i64 v)]=some (.sl .full 1 [[.int .i64 v]],h):=by kernel_rfl
theorem encI0 (n:Int):(qencI n)[0]?=some (.int .i64 n):=rfl
end Go.Proofs.YtgnoolgeijmlaaaGreatDoor.Cov
namespace Go.Proofs.YtgnoolgeijmlaaaGreatDoor.Rk
open Sm Bins Cov Go.RowKit
open Bool renaming not_false→jC
open List renaming length_map→jR
open Nat renaming le_of_ble_eq_true→jH,reduceEqDiff→jA
open Option renaming getD_some→jB
def hasB (xs:List Int)(z:Int):Bool:=xs.any fun x=>x==z
theorem ALO (G:Nat->AV)(xs:List Int)(s:SM)(z:Int)(h:Hp)(hn:xs.length<=1048576):∃k:Int,PCall (En G) 236 [.sl s 1 (xs.map qencI),.int .i64 z] h (.int .i64 k)∧decide (k≥0)=hasB xs z:=by
 by_cases hb:hasB xs z=true
 .obtain⟨i,hi⟩:∃i,xs.findIdx? (fun x=>x==z)=some i:=by
   cases he:xs.findIdx? (fun x=>x==z) with
   | some i=>exact⟨i,rfl⟩
   | none =>
     rw[List.findIdx?_eq_none_iff] at he;unfold hasB at hb;rw[List.any_eq_true] at hb;obtain⟨x,hx,hz⟩:=hb;rw[he x hx] at hz; cases hz
  refine⟨(i:Int),?_,by rw[hb]; simp⟩;obtain⟨hil,hiz,hbef⟩:=List.findIdx?_eq_some_iff_getElem.1 hi;refine acN Tryz.func236 rfl ?_;show awp _ _ _ _ _ (EK _ [.tmp 4] _);simp -implicitDefEqProofs only[vQ,BD,↓reduceIte,jA,enX,enP,Y7,jR];refine D7 (fun n F H=>∃k,n+k=xs.length∧k<=i∧F 0=.sl s 1 (xs.map qencI)∧F 1=.int .i64 z∧F 7=.int .i64 (xs.length:Nat)∧F 8=.int .i64 (k:Nat)∧H=h) xs.length ⟨0,by simp,by omega,by simp -implicitDefEqProofs only[vQ,↓reduceIte,jA],by simp -implicitDefEqProofs only[vQ,↓reduceIte,jA],by simp -implicitDefEqProofs only[AA,↓reduceIte,jA],by simp -implicitDefEqProofs only[AA,↓reduceIte]; rfl,rfl⟩ ?_;rintro n F H ⟨k,hk,hki,f0,f1,f7,f8,rfl⟩;have hk':k<xs.length:=by omega
  have hd:decide (((k:Nat):Int)<((xs.length:Nat):Int))=true:=by simp; omega
  simp -implicitDefEqProofs only[vQ,BD,↓reduceIte,jA,enP,KT,f7,f8,hd,f0,f1,EZ hk',FX ag3 hk',Cov.encI0];rcases Nat.eq_or_lt_of_le hki with e|hlt
  .subst e
   have hzz:(z==xs[k])=true:=by rw[BEq.comm]; exact hiz
   simp -implicitDefEqProofs only[vQ,BD,↓reduceIte,jA,hzz,f8];exact⟨trivial,trivial⟩
  .have hzz:(z==xs[k])=false:=by
    have:=hbef k hlt;rw[BEq.comm]; simpa using this
   simp -implicitDefEqProofs only[vQ,BD,↓reduceIte,jA,enP,hzz,f8,wrap_succ (show k<9223372036854775807 by omega)];exact⟨n-1,by omega,k+1,by omega,by omega,by trivial,by trivial,by trivial,rfl,trivial⟩
 .have hb':hasB xs z=false:=by simpa using hb
  refine⟨-1,?_,by rw[hb']; decide⟩;refine acN Tryz.func236 rfl ?_;show awp _ _ _ _ _ (EK _ [.tmp 4] _);simp -implicitDefEqProofs only[vQ,BD,↓reduceIte,jA,enX,enP,Y7,jR];refine D7 (fun n F H=>∃k,n+k=xs.length∧F 0=.sl s 1 (xs.map qencI)∧F 1=.int .i64 z∧F 7=.int .i64 (xs.length:Nat)∧F 8=.int .i64 (k:Nat)∧H=h) xs.length ⟨0,by simp,by simp -implicitDefEqProofs only[vQ,↓reduceIte,jA],by simp -implicitDefEqProofs only[vQ,↓reduceIte,jA],by simp -implicitDefEqProofs only[AA,↓reduceIte,jA],by simp -implicitDefEqProofs only[AA,↓reduceIte]; rfl,rfl⟩ ?_;rintro n F H ⟨k,hk,f0,f1,f7,f8,rfl⟩;simp -implicitDefEqProofs only[vQ,BD,↓reduceIte,enP,f7,f8];refine C9 (fun hc=>?_) (fun hc=>?_)
  .have hk':k<xs.length:=by simpa using hc
   have hzz:(z==xs[k])=false:=by
    rw[<-Bool.not_eq_true]; intro e;unfold hasB at hb';rw[List.any_eq_false] at hb';exact hb' xs[k] (List.getElem_mem hk') (by rw[BEq.comm]; exact e)
   simp -implicitDefEqProofs only[vQ,BD,↓reduceIte,jA,enP,KT,f0,f1,f8,EZ hk',FX ag3 hk',Cov.encI0,hzz,wrap_succ (show k<9223372036854775807 by omega)];exact⟨n-1,by omega,k+1,by omega,by trivial,by trivial,f7,rfl,trivial⟩
  .simp -implicitDefEqProofs only[vQ,BD,↓reduceIte]
   exact⟨trivial,trivial⟩
theorem contains_rank (G:Nat->AV)(xs:List Int)(s:SM)(z:Int)(h:Hp)(hn:xs.length<=1048576):PCall (En G) 217 [.sl s 1 (xs.map qencI),.int .i64 z] h (.bool (hasB xs z)):=by
 obtain⟨k,hk,hd⟩:=ALO G xs s z h hn;refine acN Tryz.func217 rfl ?_;show awp _ _ _ _ _ (EK _ [.tmp 4] _);simp -implicitDefEqProofs only[vQ,BD,List.map_cons,List.map_nil,List.append_nil,↓reduceIte,jA,enX,enP];refine hk.use ?_;simp -implicitDefEqProofs only[vQ,BD,↓reduceIte,enP,hd];exact⟨trivial,trivial⟩
end Go.Proofs.YtgnoolgeijmlaaaGreatDoor.Rk
set_option linter.unusedSimpArgs false
set_option maxRecDepth 8000
namespace Go.Proofs.YtgnoolgeijmlaaaGreatDoor.Xe
open Sm Bins Cov Wd Go.RowKit
def AV6 (x:Nat):List Nat->Bool
 | a::b::r=>(decide (a<=x)&&decide (x<=b))||AV6 x r
 | _=>false
def opW (op:Int)(vs:List Nat):Nat :=
 if op=22 then (if vs.getD 0 0≠0 then vs.getD 1 0 else vs.getD 2 0) else if op=23 then tr (AV6 (vs.getD 0 0) (vs.drop 1))
 else if vs.length=1 then sgW op (vs.getD 0 0) else dbW op (vs.getD 0 0) (vs.getD 1 0)
def A31 (op:Int)(n:Nat):Prop:=(op=22->n=3)∧(op=23->n%2=1∧3<=n)∧(op≠22->op≠23->n=1∨n=2)
end Go.Proofs.YtgnoolgeijmlaaaGreatDoor.Xe
set_option linter.unusedSimpArgs false
set_option maxRecDepth 8000
namespace Go.Proofs.YtgnoolgeijmlaaaGreatDoor.Xe
open Sm Bins Cov Go.RowKit
open Bool renaming not_false→jC,not_true→jZ
open List renaming getElem_mem→zC,map_cons→jF,map_nil→jE,append_nil→jD,getElem?_set→zI,getElem?_eq_getElem→jX,nil_append→qA,cons_append→qJ,length_append→zT
open Nat renaming le_of_ble_eq_true→jH,reduceEqDiff→jA,zero_add→jG
open Option renaming getD_some→jB,getD_none→jO
theorem AZT:Frz encStr:=fun _ _ _ _=>⟨rfl,rfl⟩
theorem APS (G:Nat->AV)(xs:List ByteArray)(b:Nat)(v:ByteArray)(h:Hp)(hb:h[b]?=some (.live 1 (xs.map encStr)))(hl:xs.length<=1099511627776) :
  ∃k:Int,PCall (En G) 237 [.own b 0 xs.length,.str v] h (.int .i64 k)∧decide (k≥0)=LJ xs v:=by
 have key:∀r:Int,(∀i (hi:i<xs.length),(∀j (hj:j<i),(v.toList==xs[j].toList)=false)->(v.toList==xs[i].toList)=true->r=(i:Int))->(LJ xs v=false->r = -1)->PCall (En G) 237 [.own b 0 xs.length,.str v] h (.int .i64 r):=by
  intro r hr hr0;refine acN Tryz.func237 rfl ?_;show awp _ _ _ _ _ (EK _ [.tmp 4] _);simp -implicitDefEqProofs only[vQ,BD,↓reduceIte,jA,enX,enP,Y6];refine D7 (fun n F H=>∃k,n+k=xs.length∧F 0=.own b 0 xs.length∧F 1=.str v∧F 7=.int .i64 (xs.length:Nat)∧F 8=.int .i64 (k:Nat)∧H=h∧(∀j (hj:j<xs.length),j<k->(v.toList==xs[j].toList)=false)∧LJ xs v=LJ (xs.drop k) v) xs.length ⟨0,by simp,by simp -implicitDefEqProofs only[vQ,↓reduceIte,jA],by simp -implicitDefEqProofs only[vQ,↓reduceIte,jA],by simp -implicitDefEqProofs only[AA,↓reduceIte,jA],by simp -implicitDefEqProofs only[AA,↓reduceIte]; rfl,rfl,fun j _ hj=>by omega,rfl⟩ ?_;rintro n F H ⟨k,hk,f0,f1,f7,f8,rfl,hbef,hin⟩;simp -implicitDefEqProofs only[vQ,BD,↓reduceIte,enP,f7,f8];refine C9 (fun hc=>?_) (fun hc=>?_)
  .have hk':k<xs.length:=by simpa using hc
   have hs:LJ (xs.drop k) v=((v.toList==xs[k].toList)||LJ (xs.drop (k+1)) v):=AEE _ xs k hk';have l1:DF Tryz.prog H 9 (.ptr b k 0)=some (.str xs[k]):=by rw[DJ ag9 hb (row:=encStr xs[k]) (ACB hk')]; rfl
   simp -implicitDefEqProofs only[vQ,BD,LH,↓reduceIte,jA,enP,ALK,f0,f1,f8,OZ hb hk',l1];refine C9 (fun hx=>?_) (fun hx=>?_)
   .simp -implicitDefEqProofs only[vQ,BD,↓reduceIte,jA]
    exact⟨by rw[hr k hk' (fun j hj=>hbef j (by omega) hj) hx],trivial⟩
   .simp -implicitDefEqProofs only[vQ,BD,↓reduceIte,jA,enP,f8,wrap_succ (show k<9223372036854775807 by omega)]
    refine⟨n-1,by omega,k+1,by omega,by trivial,by trivial,by trivial,rfl,trivial,fun j hj hjk=>?_,by rw[hin,hs,hx,Bool.false_or]⟩;rcases Nat.lt_or_ge j k with h1|h1
    .exact hbef j hj h1
    .have:j=k:=by omega
     subst this; exact hx
  .have hk':¬k<xs.length:=by simpa using hc
   simp -implicitDefEqProofs only[vQ,BD,↓reduceIte];refine⟨?_,trivial⟩;rw[hr0 (by rw[hin,List.drop_eq_nil_of_le (by omega)]; rfl)]
 by_cases hh:LJ xs v=true
 .obtain⟨i,hi⟩:∃i,xs.findIdx? (fun u=>v.toList==u.toList)=some i:=by
   cases he:xs.findIdx? (fun u=>v.toList==u.toList) with
   | some i=>exact⟨i,rfl⟩
   | none =>
     rw[List.findIdx?_eq_none_iff] at he;unfold LJ at hh;rw[List.any_eq_true] at hh;obtain⟨x,hx,hz⟩:=hh;rw[he x hx] at hz; cases hz
  obtain⟨hil,hiz,hbef⟩:=List.findIdx?_eq_some_iff_getElem.1 hi;refine⟨(i:Int),key i (fun k hk hb' hx=>?_) (fun h0=>by rw[hh] at h0; cases h0),by rw[hh]; simp⟩;rcases Nat.lt_trichotomy i k with h1|h1|h1
  .have:=hb' i h1; rw[hiz] at this; cases this
  .rw[h1]
  .have:=hbef k h1; rw[hx] at this; simp at this
 .have hh':LJ xs v=false:=by simpa using hh
  refine⟨-1,key (-1) (fun k hk _ hx=>?_) (fun _=>rfl),by rw[hh']; decide⟩;unfold LJ at hh';rw[List.any_eq_false] at hh';exact absurd hx (hh' xs[k] (zC hk))
theorem APT (G:Nat->AV)(k:Nat)(v:ByteArray)(h:Hp):PCall (En G) 237 [.sl .nil k [],.str v] h (.int .i64 (-1)):=by
 refine acN Tryz.func237 rfl ?_;show awp _ _ _ _ _ (EK _ [.tmp 4] _);simp -implicitDefEqProofs only[vQ,BD,↓reduceIte,jA,enX,enP,Y6,List.length_nil];refine D7 (fun n F H=>F 7=.int .i64 0∧F 8=.int .i64 0∧H=h) 0 ⟨by simp -implicitDefEqProofs only[AA,↓reduceIte,jA]<;>rfl,by simp -implicitDefEqProofs only[AA,↓reduceIte],rfl⟩ ?_;rintro n F H ⟨f7,f8,rfl⟩;have hc:((0:Int)<0)=False:=by simp
 simp -implicitDefEqProofs only[vQ,BD,↓reduceIte,decide_false,enP,f7,f8,hc,decide_false];exact⟨by trivial,trivial⟩
theorem A2L (G:Nat->AV){h0 h:Hp}{ns:List ByteArray}{u:AV}(ho:outG 1 encStr h0 ns u h)(v:ByteArray)(hl:ns.length<=8388608):PCall (En G) 218 [u,.str v] h (.bool (LJ ns v)):=by
 have hi:∃k:Int,PCall (En G) 237 [u,.str v] h (.int .i64 k)∧decide (k≥0)=LJ ns v:=by
  rcases ho with⟨rfl,rfl⟩|⟨_,o,_,rfl,hb⟩
  .exact⟨-1,APT G 0 v h,rfl⟩
  .exact APS G ns o v h hb (by omega)
 obtain⟨k,hk,hd⟩:=hi;refine acN Tryz.func218 rfl ?_;show awp _ _ _ _ _ (EK _ [.tmp 4] _);simp -implicitDefEqProofs only[vQ,BD,↓reduceIte,jA,enX,enP];refine hk.use ?_;simp -implicitDefEqProofs only[vQ,BD,↓reduceIte,enP,hd];exact⟨trivial,trivial⟩
def nmU (ops:List Int)(ns:List ByteArray)(e:Ex):List ByteArray:=if(Rk.hasB ops e.op && !LJ ns e.name)=true then ns++[e.name] else ns
def nmL (ops:List Int)(ns:List ByteArray)(l:List Ex):List ByteArray:=l.foldl (nmU ops) ns
theorem ANK (ops:List Int)(ns:List ByteArray)(e:Ex):(nmU ops ns e).length<=ns.length+1:=by
 unfold nmU; split<;>simp
theorem ACF (ops:List Int):∀(l:List Ex) (ns:List ByteArray),(nmL ops ns l).length<=ns.length+l.length
 | [],ns=>by simp [nmL]
 | e::l,ns=>by
   have h1:=ACF ops l (nmU ops ns e);have h2:=ANK ops ns e;simp only[nmL,List.foldl_cons,List.length_cons] at h1|-;omega
theorem AVR (ops:List Int)(ns:List ByteArray)(l r:List Ex):nmL ops ns (l++r)=nmL ops (nmL ops ns l) r:=List.foldl_append
structure NSt (h0:Hp) (c:Nat) (ns:List ByteArray) (v:AV) (h:Hp):Prop where
 cell:h[c]?=some (.live 1 [[v]])
 out:outG 1 encStr h0 ns v h
 base:h0.length<=c
 ex:ext h0 h
abbrev Cn (c:Nat)(v:AV)(h:Hp)(v':AV)(h':Hp):Prop:=Ch c v .nilfn h v' .nilfn h'
theorem NSt.ne {h0 h:Hp}{c b k:Nat}{ns:List ByteArray}{v:AV}{row:List AV}(s:NSt h0 c ns v h)(hb:h[b]?=some (.live k [row]))(hr:k≠1∨∀x,row≠[.str x]):¬isB v b:=by
 intro hi;rcases s.out with⟨_,rfl⟩|⟨hne,o,_,rfl,ho⟩
 .exact hi
 .have e:o=b:=hi
  subst e;rw[ho] at hb
  injection Option.some.inj hb with e1 e2
  rcases hr with hr|hr
  .exact hr e1.symm
  .match ns,e2 with
   | [x],e2=>simp [encStr] at e2; exact hr x e2.symm
theorem NSt.app {h0 h:Hp}{c:Nat}{ns:List ByteArray}{v:AV}(s:NSt h0 c ns v h)(x:Hp):NSt h0 c ns v (h++x):=⟨RN s.cell,s.out.app x,s.base,s.ex.app x⟩
theorem NSt.cne {h0 h:Hp}{c:Nat}{ns:List ByteArray}{v:AV}(s:NSt h0 c ns v h):¬isB v c:=by
 refine s.ne s.cell (.inr fun x e=>?_);rcases s.out with⟨_,rfl⟩|⟨_,o,_,rfl,_⟩<;>simp at e
theorem Cn.keep {c b:Nat}{h h':Hp}{v v':AV}{x:ABlk}(hc:Cn c v h v' h')(hb:h[b]?=some x)(hne:b≠c)(hn:¬isB v b):h'[b]?=some x:=by
 rw[hc.get b (CB hb) hne hn (fun e=>e)]; exact hb
theorem AIA (G:Nat->AV)(ops:List Int)(hops:ops.length<=1048576)(h0:Hp)(c ob:Nat)(s0:SM)(e:Ex)(h:Hp)(ns:List ByteArray)(v:AV)(S:NSt h0 c ns v h)(hob:h[ob]?=some (.live 1 [[.sl s0 1 (ops.map qencI)]]))(hn:ns.length<8388608) :
  ACalls (En G) 216 [.agg (EF e),.ptr ob 0 0,.ptr c 0 0] h fun r h'=>r=.bool true∧∃v',Cn c v h v' h'∧NSt h0 c (nmU ops ns e) v' h':=by
 refine acN Tryz.func216 rfl ?_;show awp _ _ _ _ _ (EK _ [.tmp 4] _);have S1:=S.app [ABlk.live 4 [EF e]];have hob1:(h++[ABlk.live 4 [EF e]])[ob]?=_:=BO hob;have hC1:Cn c v h v (h++[ABlk.live 4 [EF e]]):=Ch.app c v .nilfn h _;have ge:=CU h (ABlk.live 4 [EF e]);have hcl:=CB S.cell;simp -implicitDefEqProofs only[vQ,BD,↓reduceIte,jA,enP,bxE];generalize h++[ABlk.live 4 [EF e]]=H at S1 hob1 hC1 ge|-;have l0:DF Tryz.prog H 3 (.ptr h.length 0 0)=some (.int .i64 e.op):=by rw[DJ ag3 ge (row:=EF e) rfl,J9]
 have l2:DF Tryz.prog H 9 (.ptr h.length 0 2)=some (.str e.name):=by rw[DJ ag9 ge (row:=EF e) rfl,PH]
 simp -implicitDefEqProofs only[vQ,BD,↓reduceIte,jA,Nat.add_zero,enP,F7,JR AQD hob1,l0];refine(Rk.contains_rank G ops s0 e.op H hops).use ?_;simp -implicitDefEqProofs only[vQ,CV,BD,↓reduceIte]
 have key:∀b1 b2:Bool,Rk.hasB ops e.op=b1->LJ ns e.name=b2->(b1 && !b2)=false->nmU ops ns e=ns:=fun b1 b2 e1 e2 e3=>by
  unfold nmU; rw[e1,e2,e3]; simp
 cases hb1:Rk.hasB ops e.op
 .simp -implicitDefEqProofs only[vQ,CV,BD,EY,↓reduceIte,jA]
  exact⟨trivial,v,hC1,by rw[key _ _ hb1 rfl rfl]; exact S1⟩
 simp -implicitDefEqProofs only[vQ,CV,BD,↓reduceIte,jA,enP,LM,JR AQC S1.cell,l2];refine(A2L G S1.out e.name (by omega)).use ?_;simp -implicitDefEqProofs only[vQ,CV,BD,↓reduceIte,jA];cases hb2:LJ ns e.name
 .have hu:nmU ops ns e=ns++[e.name]:=by unfold nmU; rw[hb1,hb2]; rfl
  obtain⟨v',H',ha,ho,hk,hex,hle,hnew⟩:=S1.out.append (P:=Tryz.prog) AQZ sz9 AQK ATQ (by omega) hn S1.ex e.name;have ha':IP Tryz.prog true H 97 97 v (.sl .full 1 [[.str e.name]])=some (v',H'):=ha;have hc':=hk c _ S1.cell S1.cne;have hcl2:=CB S1.cell
  have hac:JM v'=some [v']:=by
   rcases ho with⟨_,rfl⟩|⟨_,o,_,rfl,_⟩<;>rfl
  simp -implicitDefEqProofs only[vQ,BD,MC,↓reduceIte,jA,enP,LM,jO,JR AQC S1.cell,l2,AJ6,ha',UA AQ2 hac hc'];refine⟨trivial,v',hC1.trans ⟨by simpa using hle,fun b hb hbc hbv _=>?_,fun b hb=>.inr (by rw[hnew b hb]; exact Nat.le_refl _),fun b hb=>hb.elim⟩,?_⟩
  .rw[zI,if_neg (fun e=>hbc e.symm),jX hb]
   exact hk b _ (jX hb) hbv
  .rw[hu]
   exact⟨DX hc',ho.keep fun b hb=>by rw[zI,if_neg (fun e=>by have:=hnew b hb; omega)],S1.base,hex.set S1.base _⟩
 .simp -implicitDefEqProofs only[vQ,BD,↓reduceIte,jZ]
  exact⟨trivial,v,hC1,by rw[key _ _ hb1 hb2 rfl]; exact S1⟩
theorem ARX (ops:List Int)(ns:List ByteArray)(e:Ex):nmL ops ns (pre e)=nmL ops (nmU ops ns e) (IR e.args):=by rw[pre_eq]; rfl
theorem AL3 (G:Nat->AV)(ops:List Int)(hops:ops.length<=1048576)(h0:Hp)(c ob vb db:Nat)(s0:SM)(hv:vb≠c)(hd:db≠c)(hoc:ob≠c)(e:Ex) :
  wt e<=1099511627776->∀(h:Hp) (ns:List ByteArray) (v:AV),NSt h0 c ns v h->h[ob]?=some (.live 1 [[.sl s0 1 (ops.map qencI)]])->ns.length+(pre e).length<=8388608 ->
   h[vb]?=some (.live 1 [[.fn (.func 216) [] [.ptr ob 0 0,.ptr c 0 0]]])->h[db]?=some (.live 1 [[.fn (.func 182) [] [.ptr vb 0 0,.ptr db 0 0]]]) ->
   ACalls (En G) 182 [.agg (EF e),.ptr vb 0 0,.ptr db 0 0] h fun r h'=>r=.bool true∧∃v',Cn c v h v' h'∧NSt h0 c (nmL ops ns (pre e)) v' h':=by
 induction e using Ex.induct with|h e ih=>?_
 intro hw h ns v S hob hlen hvb hdb;have hcl:=CB S.cell;have hal:e.args.length<=1099511627776:=by have:=YK e.args; have:=QU e; omega
 have hpe:(pre e).length=(IR e.args).length+1:=by rw[pre_eq]; rfl
 have hfn:∀(k:FuncId) (a b:List AV) (x:ByteArray),[AV.fn (.func k) a b]≠[.str x]:=fun _ _ _ _ q=>by simp at q
 have hsl:∀(xs:List (List AV)) (x:ByteArray),[AV.sl s0 1 xs]≠[.str x]:=fun _ _ q=>by simp at q
 refine acN Tryz.func182 rfl ?_;show awp _ _ _ _ _ (EK _ [.tmp 4] _);have S0:=S.app [ABlk.live 4 [EF e]];simp -implicitDefEqProofs only[vQ,BD,qA,qJ,↓reduceIte,jA,enP,bxE,JR AGE (BO hvb),ldE];refine(AIA G ops hops h0 c ob s0 e _ ns v S0 (BO hob) (by omega)).mono ?_;rintro r h1 ⟨rfl,v1,hch,S1⟩;have hch0:Cn c v h v1 h1:=(Ch.app c v .nilfn h _).trans hch;have hb3:h1[h.length]?=some (.live 4 [EF e]):=hch.keep (CU _ _) (by omega) (S0.ne (CU _ _) (.inl (by decide)));have hvb1:=hch0.keep hvb hv (S.ne hvb (.inr (hfn _ _ _)));have hdb1:=hch0.keep hdb hd (S.ne hdb (.inr (hfn _ _ _)));have hob1:=hch0.keep hob hoc (S.ne hob (.inr (hsl _)));have l3:DF Tryz.prog h1 23 (.ptr h.length 0 3)=some (.sl e.m 4 (e.args.map EF)):=by rw[DJ VX hb3 (row:=EF e) rfl,VQ]
 have hn1:=ANK ops ns e;simp -implicitDefEqProofs only[vQ,BD,↓reduceIte,jA,jZ,enP,WT,ND,l3,List.length_map]
 refine D7 (fun n F H=>∃j v',n+j=e.args.length∧F 1=.ptr vb 0 0∧F 2=.ptr db 0 0∧F 12=.sl e.m 4 (e.args.map EF)∧F 13=.int .i64 e.args.length∧F 14=.int .i64 (j:Nat)∧Cn c v h v' H∧NSt h0 c (nmL ops (nmU ops ns e) (IR (e.args.take j))) v' H∧H[vb]?=some (.live 1 [[.fn (.func 216) [] [.ptr ob 0 0,.ptr c 0 0]]])∧H[db]?=some (.live 1 [[.fn (.func 182) [] [.ptr vb 0 0,.ptr db 0 0]]])∧H[ob]?=some (.live 1 [[.sl s0 1 (ops.map qencI)]])) e.args.length
  ⟨0,v1,by simp,by simp -implicitDefEqProofs only[vQ,↓reduceIte,jA],by simp -implicitDefEqProofs only[vQ,↓reduceIte,jA],by simp -implicitDefEqProofs only[AA,↓reduceIte,jA],by simp -implicitDefEqProofs only[AA,↓reduceIte,jA],by simp -implicitDefEqProofs only[AA,↓reduceIte]; rfl,hch0,S1,hvb1,hdb1,hob1⟩ ?_
 rintro n F H ⟨j,v',hj,f1,f2,f12,f13,f14,hC,SH,hvH,hdH,hoH⟩;simp -implicitDefEqProofs only[vQ,BD,↓reduceIte,enP,f13,f14];refine C9 (fun hlt=>?_) (fun hlt=>?_)
 .have hj':j<e.args.length:=by simpa using hlt
  have hmem:e.args[j]∈e.args:=zC hj'
  have hsplit:IR e.args=IR (e.args.take j)++(pre e.args[j]++IR (e.args.drop (j+1))):=by
   rw[<-List.append_assoc,<-KW _ _ hj',<-MS,List.take_append_drop]
  have hln:=ACF ops (IR (e.args.take j)) (nmU ops ns e);have hls:(IR e.args).length=(IR (e.args.take j)).length+((pre e.args[j]).length+(IR (e.args.drop (j+1))).length):=by rw[hsplit,zT,zT]
  simp -implicitDefEqProofs only[vQ,BD,qA,qJ,↓reduceIte,jA,enP,AAO,jO,f12,f14,EZ hj',GM YB RX IZ hj',AT6,AQ4 _ _ [.int .i64 0,.int .i64 0,.str ⟨#[]⟩,.sl .nil 0 []] rfl,f2,JR AGE (BO hdH),ldE];have SH1:=SH.app [ABlk.live 4 [EF e.args[j]]];refine(ih e.args[j] hmem (by have:=V4 hmem; have:=QU e; omega) _ _ v' SH1 (BO hoH) (by omega) (BO hvH) (BO hdH)).mono ?_;rintro r h2 ⟨rfl,v2,hch2,S2⟩;have hch2':Cn c v' H v2 h2:=(Ch.app c v' .nilfn H _).trans hch2;have hvH2:=hch2'.keep hvH hv (SH.ne hvH (.inr (hfn _ _ _)));have hdH2:=hch2'.keep hdH hd (SH.ne hdH (.inr (hfn _ _ _)));have hoH2:=hch2'.keep hoH hoc (SH.ne hoH (.inr (hsl _)));simp -implicitDefEqProofs only[vQ,BD,↓reduceIte,jA,jZ,enP,f1,f2,f12,f13,f14,wrap_succ (show j<9223372036854775807 by omega)];refine⟨n-1,by omega,j+1,v2,by omega,trivial,trivial,trivial,trivial,rfl,hC.trans hch2',?_,hvH2,hdH2,hoH2⟩;rw[KW _ _ hj',AVR]; exact S2
 .have hj':¬j<e.args.length:=by simpa using hlt
  simp -implicitDefEqProofs only[vQ,BD,↓reduceIte];rw[List.take_of_length_le (by omega),<-ARX] at SH;exact⟨trivial,v',hC,SH⟩
theorem AKS (G:Nat->AV)(ops:List Int)(hops:ops.length<=1048576)(h0:Hp)(c ob:Nat)(s0:SM)(hoc:ob≠c)(e:Ex)(hw:wt e<=1048576)(h:Hp)(ns:List ByteArray)(v:AV)(S:NSt h0 c ns v h)(hob:h[ob]?=some (.live 1 [[.sl s0 1 (ops.map qencI)]]))(hn:ns.length<=1048576) :
  ACalls (En G) 133 [.agg (EF e),.fn (.func 216) [] [.ptr ob 0 0,.ptr c 0 0]] h fun _ h'=>∃v',Cn c v h v' h'∧NSt h0 c (nmL ops ns (pre e)) v' h':=by
 have hcl:=CB S.cell;have hol:=CB hob;refine acN Tryz.func133 rfl ?_;show awp _ _ _ _ _ (EK _ [] _);generalize hfv:AV.fn (.func 216) [] [.ptr ob 0 0,.ptr c 0 0]=fv;have hbx:∀H:Hp,MG H fv=some (.ptr H.length 0 0,H++[.live 1 [[fv]]]):=fun H=>by rw[<-hfv]; rfl
 simp -implicitDefEqProofs only[vQ,BD,I5,↓reduceIte,jA,enP,jO,bxE,hbx,AYL];have g0:(h++[ABlk.live 4 [EF e]]++[ABlk.live 1 [[fv]]]++[ABlk.live 1 [[AV.nilfn]]])[(h++[ABlk.live 4 [EF e]]++[ABlk.live 1 [[fv]]]).length]?=some (.live 1 [[.nilfn]]):=CU _ _;simp -implicitDefEqProofs only[vQ,BD,↓reduceIte,jA,enP,UA AXV (AYR _ _ _) g0];have S3:=((S.app [ABlk.live 4 [EF e]]).app [ABlk.live 1 [[fv]]]).app [ABlk.live 1 [[AV.nilfn]]];have c3:Cn c v h v (h++[ABlk.live 4 [EF e]]++[ABlk.live 1 [[fv]]]++[ABlk.live 1 [[AV.nilfn]]]):=((Ch.app c v .nilfn h _).trans (Ch.app _ _ _ _ _)).trans (Ch.app _ _ _ _ _);have v3:(h++[ABlk.live 4 [EF e]]++[ABlk.live 1 [[fv]]]++[ABlk.live 1 [[AV.nilfn]]])[(h++[ABlk.live 4 [EF e]]).length]?=some (.live 1 [[fv]]):=BO (CU _ _);have e3:(h++[ABlk.live 4 [EF e]]++[ABlk.live 1 [[fv]]]++[ABlk.live 1 [[AV.nilfn]]])[h.length]?=some (.live 4 [EF e]):=BO (BO (CU _ _));have o3:(h++[ABlk.live 4 [EF e]]++[ABlk.live 1 [[fv]]]++[ABlk.live 1 [[AV.nilfn]]])[ob]?=some (.live 1 [[.sl s0 1 (ops.map qencI)]]):=BO (BO (BO hob));have hdl:(h++[ABlk.live 4 [EF e]]++[ABlk.live 1 [[fv]]]).length=h.length+2:=by simp
 have hvl:(h++[ABlk.live 4 [EF e]]).length=h.length+1:=by simp
 generalize (h++[ABlk.live 4 [EF e]]++[ABlk.live 1 [[fv]]]).length=db at g0 hdl|-;generalize (h++[ABlk.live 4 [EF e]]).length=vb at v3 hvl|-;generalize h++[ABlk.live 4 [EF e]]++[ABlk.live 1 [[fv]]]++[ABlk.live 1 [[AV.nilfn]]]=H at g0 S3 c3 v3 e3 o3|-;have hdn:¬isB v db:=S3.ne g0 (.inr fun x q=>by simp at q);generalize hH:H.set db (.live 1 [[AV.fn (.func 182) [] [.ptr vb 0 0,.ptr db 0 0]]])=H';have gd:H'[db]?=some (.live 1 [[.fn (.func 182) [] [.ptr vb 0 0,.ptr db 0 0]]]):=by rw[<-hH]; exact DX g0
 have gv:H'[vb]?=some (.live 1 [[fv]]):=by rw[<-hH]; exact MZ v3 (by omega)
 have ge:H'[h.length]?=some (.live 4 [EF e]):=by rw[<-hH]; exact MZ e3 (by omega)
 have go:H'[ob]?=some (.live 1 [[.sl s0 1 (ops.map qencI)]]):=by rw[<-hH]; exact MZ o3 (by omega)
 have hb0:=S.ex.le
 have S4:NSt h0 c ns v H':=by
  rw[<-hH];exact⟨MZ S3.cell (by omega),S3.out.keep fun b hb=>by rw[zI,if_neg (fun q=>hdn (by rw[q]; exact hb))],S3.base,S3.ex.set (by omega) _⟩
 have c4:Cn c v h v H':=by
  rw[<-hH];exact⟨by have:=c3.len; simpa using this,fun b hb hbc hbv hbu=>by rw[zI,if_neg (by omega)]; exact c3.get b hb hbc hbv hbu,fun _ q=>.inl q,fun _ q=>.inl q⟩
 simp -implicitDefEqProofs only[vQ,BD,qA,qJ,↓reduceIte,jA,enP,JR AGE gd,JH ge];rw[<-hfv] at gv;have hp:=XM e;refine(AL3 G ops hops h0 c ob vb db s0 (by omega) (by omega) hoc e (by omega) H' ns v S4 go (by omega) gv gd).mono ?_;rintro r h' ⟨rfl,v',hch,S5⟩;simp -implicitDefEqProofs only[vQ,AAZ];exact⟨v',c4.trans hch,S5⟩
theorem al179 (h:Hp):J6 Tryz.prog h 97=some (.ptr h.length 0 0,h++[.live 1 [[.sl .nil 0 []]]]):=JU (row:=[.sl .nil 0 []]) (by kernel_rfl)
theorem ADC (G:Nat->AV)(ops:List Int)(hops:ops.length<=1048576)(s0:SM)(e:Ex)(hw:wt e<=1048576)(h:Hp):PCall (En G) 176 [.agg (EF e),.sl s0 1 (ops.map qencI)] h (.sl (nm (nmL ops [] (pre e))) 1 ((nmL ops [] (pre e)).map encStr)):=by
 refine AFL AZT ?_;refine acN Tryz.func176 rfl ?_;show awp _ _ _ _ _ (EK _ [.tmp 4] _);have ge:=BO (x:=ABlk.live 1 [[.sl .nil 0 []]]) (BO (x:=ABlk.live 1 [[AV.sl s0 1 (ops.map qencI)]]) (CU h (.live 4 [EF e])));have go:=BO (x:=ABlk.live 1 [[.sl .nil 0 []]]) (CU (h++[ABlk.live 4 [EF e]]) (ABlk.live 1 [[AV.sl s0 1 (ops.map qencI)]]));have gc:=CU (h++[ABlk.live 4 [EF e]]++[ABlk.live 1 [[AV.sl s0 1 (ops.map qencI)]]]) (ABlk.live 1 [[.sl .nil 0 []]]);have hx:ext h (h++[ABlk.live 4 [EF e]]++[ABlk.live 1 [[AV.sl s0 1 (ops.map qencI)]]]++[ABlk.live 1 [[.sl .nil 0 []]]]):=(((ext.rfl' h).app _).app _).app _;have hol:(h++[ABlk.live 4 [EF e]]).length=h.length+1:=by simp
 have hcl:(h++[ABlk.live 4 [EF e]]++[ABlk.live 1 [[AV.sl s0 1 (ops.map qencI)]]]).length=h.length+2:=by simp
 simp -implicitDefEqProofs only[vQ,AMC,BD,↓reduceIte,jA,enP,bxE,al179];generalize h++[ABlk.live 4 [EF e]]++[ABlk.live 1 [[AV.sl s0 1 (ops.map qencI)]]]++[ABlk.live 1 [[.sl .nil 0 []]]]=H at ge go gc hx|-;generalize (h++[ABlk.live 4 [EF e]]++[ABlk.live 1 [[AV.sl s0 1 (ops.map qencI)]]]).length=c at gc hcl|-;generalize (h++[ABlk.live 4 [EF e]]).length=ob at go hol|-;simp -implicitDefEqProofs only[vQ,BD,I5,↓reduceIte,jA,JH ge];have S:NSt h c [] (.sl .nil 0 []) H:=⟨gc,outG.nil _ _ _ _,by omega,hx⟩;refine(AKS G ops hops h c ob s0 (by omega) e hw H [] _ S go (by simp)).mono ?_;rintro r h' ⟨v',hch,S5⟩;simp -implicitDefEqProofs only[vQ,BD,↓reduceIte,jA,enP,JR AQC S5.cell];exact⟨S5.ex,S5.out⟩
theorem A24 (h:Hp)(a b:Int):GG Tryz.prog false h 29 2 [(0,.int .i64 a),(1,.int .i64 b)]=some (.sl .full 1 [[.int .i64 a],[.int .i64 b]],h):=by kernel_rfl
theorem AEM (G:Nat->AV)(e:Ex)(hw:wt e<=1048576)(h:Hp):PCall (En G) 125 [.agg (EF e)] h (.sl (nm (nmL [2] [] (pre e))) 1 ((nmL [2] [] (pre e)).map encStr)):=by
 refine ACalls.pure0 rfl ?_;refine acN Tryz.func125 rfl ?_;show awp _ _ _ _ _ (EK _ [.tmp 2] _);simp -implicitDefEqProofs only[vQ,BD,↓reduceIte,jA,enP,bxE,ldE,A5P];refine(ADC G [2] (by decide) .full e hw _).use ?_;simp -implicitDefEqProofs only[vQ,BD,↓reduceIte];exact⟨trivial,_,rfl⟩
theorem ABV (G:Nat->AV)(e:Ex)(hw:wt e<=1048576)(h:Hp):PCall (En G) 123 [.agg (EF e)] h (.sl (nm (nmL [3,24] [] (pre e))) 1 ((nmL [3,24] [] (pre e)).map encStr)):=by
 refine ACalls.pure0 rfl ?_;refine acN Tryz.func123 rfl ?_;show awp _ _ _ _ _ (EK _ [.tmp 2] _);simp -implicitDefEqProofs only[vQ,BD,↓reduceIte,jA,enP,bxE,ldE,A24];refine(ADC G [3,24] (by decide) .full e hw _).use ?_;simp -implicitDefEqProofs only[vQ,BD,↓reduceIte];exact⟨trivial,_,rfl⟩
end Go.Proofs.YtgnoolgeijmlaaaGreatDoor.Xe
namespace Go.Proofs.YtgnoolgeijmlaaaGreatDoor.Xe
open Sm Bins Cov Wd Go.RowKit
open List renaming mem_cons→qY,length_append→zT
def AID (l:List Sg)(op n:Int)(name:ByteArray)(vs:List Nat):Nat :=
 if op=1 then n.toNat%65536 else if op=2 then (ZJ l name).1 else if op=3 then (atG l name (vs.getD 0 0:Nat)).1 else if op=24 then sumTo l name 8 else opW op vs
mutual
def AQV (l:List Sg):Ex->Nat
 | .mk op n name _ args=>AID l op n name (AFA l args)
def AFA (l:List Sg):List Ex->List Nat
 | []=>[]
 | e::es=>AQV l e::AFA l es
end
theorem AUZ (l:List Sg)(e:Ex):AQV l e=AID l e.op e.n e.name (AFA l e.args):=by cases e; simp [AQV,Ex.op,Ex.n,Ex.name,Ex.args]
theorem ADB {e:Ex}(h:JW e=0):(e.op=1->0<=e.n∧e.n<=65535)∧(e.op=3->e.args.length=1)∧(e.op≠1->e.op≠2->e.op≠3->e.op≠24->A31 e.op e.args.length):=by
 unfold JW at h
 have hO:UT e=false:=by
  cases hb:UT e
  .rfl
  .rw[hb] at h; simp at h
 have hN:AEA e=false:=by
  cases hb:AEA e
  .rfl
  .rw[hO,hb] at h; simp at h
 have hS:AA9 e=false:=by
  cases hb:AA9 e
  .rfl
  .rw[hO,hN,hb] at h; simp at h
 have hops:WS e.op e.args.length=true:=by
  unfold AA9 at hS;rw[Bool.or_eq_false_iff] at hS;simpa using hS.2
 have h1:1<=e.op∧e.op<=25:=by unfold UT at hO; simp at hO; omega
 refine⟨fun h1=>?_,fun h3=>?_,fun n1 n2 n3 n24=>⟨fun h22=>?_,fun h23=>?_,fun n22 n23=>?_⟩⟩
 .unfold AEA at hN; simp [h1] at hN; omega
 .unfold WS at hops; rw[h3] at hops; simp [arity] at hops; omega
 .unfold WS at hops; rw[h22] at hops; simp [arity] at hops; omega
 .unfold WS at hops; rw[h23] at hops; simp at hops; omega
 .unfold WS at hops
  rw[if_neg (by simpa using n23)] at hops
  have h5:arity e.op=1∨arity e.op=2:=by
   by_cases hq:e.op=3∨e.op=4∨e.op=5∨e.op=6∨e.op=25
   .left; unfold arity; rw[if_neg (by omega),if_neg (by omega),if_pos hq]
   .right; unfold arity; rw[if_neg (by omega),if_neg (by omega),if_neg hq,if_neg n22,if_neg n23]
  have h6:((e.args.length:Nat):Int)=arity e.op:=by simpa using hops
  omega
theorem str_eq {a b:ByteArray}(h:(a.toList==b.toList)=true):a=b:=by
 rw[ByteArray.toList_eq,ByteArray.toList_eq] at h;exact ByteArray.ext (Array.toList_inj.1 (beq_iff_eq.1 h))
theorem AVP (P:ByteArray->Bool)(ops:List Int)(ns:List ByteArray)(e:Ex):(nmU ops ns e).all P=(ns.all P&&(!Rk.hasB ops e.op||P e.name)):=by
 unfold nmU;cases hb:Rk.hasB ops e.op
 .simp
 cases hs:LJ ns e.name
 .simp
 .simp
  intro ha;unfold LJ at hs;rw[List.any_eq_true] at hs;obtain⟨u,hu,he⟩:=hs;rw[str_eq he]; exact ha u hu
theorem AGX (P:ByteArray->Bool)(ops:List Int):∀(xs:List Ex) (ns:List ByteArray),(nmL ops ns xs).all P=(ns.all P&&xs.all fun e => !Rk.hasB ops e.op||P e.name)
 | [],ns=>by simp [nmL]
 | e::xs,ns=>by
   have:=AGX P ops xs (nmU ops ns e);simp only[nmL,List.foldl_cons,List.all_cons] at this|-;rw[this,AVP,Bool.and_assoc]
theorem all_drop {α:Type}(P:α->Bool)(xs:List α)(k:Nat)(hk:k<xs.length):(xs.drop k).all P=(P xs[k]&&(xs.drop (k+1)).all P):=by
 rw[List.drop_eq_getElem_cons hk]; rfl
theorem AS9 {xs:List Ex}(h:errs xs=0):∀x∈xs,JW x=0:=by
 induction xs with
 | nil=>intro x hx; cases hx
 | cons y ys ih =>
   have h1:ys.foldl (fun z e=>if z=0 then JW e else z) (JW y)=0:=h
   have hy:JW y=0:=by
    rcases Classical.em (JW y=0) with q|q
    .exact q
    .rw[AHJ _ _ q] at h1; exact h1
   rw[hy] at h1;intro x hx;rcases qY.1 hx with rfl|hx
   .exact hy
   .exact ih h1 x hx
theorem APZ {e:Ex}(h:exE e=0):∀x∈pre e,JW x=0:=by
 unfold exE at h;split at h
 .cases h
 .exact AS9 h
section
variable (G:Nat->AV)
theorem VG:∀xs:List Ex,xs.length<=(IR xs).length
 | []=>by simp [IR]
 | x::xs=>by
   have:=VG xs;simp only[IR,zT,List.length_cons,pre_eq x]; omega
theorem QA {a:Ex}:∀ {xs:List Ex},a∈xs->(pre a).length<=(IR xs).length
 | x::xs,h=>by
   simp only[IR,zT];rcases qY.1 h with rfl|h
   .omega
   .have:=QA h; omega
end
end Go.Proofs.YtgnoolgeijmlaaaGreatDoor.Xe
