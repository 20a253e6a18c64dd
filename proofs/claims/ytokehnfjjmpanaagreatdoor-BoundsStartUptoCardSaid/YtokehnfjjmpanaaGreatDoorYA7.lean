/- Part 7 of the proof (H2, H3, Sg, Sr, Sh, Cf, L1, X3, Y0, X4, X2, X5, X6); no condition. -/
import Derived.Test.YtokehnfjjmpanaaGreatDoorRows
import Derived.Carry
import Derived.ReadAgain
import Derived.ChangeSame
import Derived.OpenShut
import Derived.WideKeyArgs
import Derived.Test.YtokehnfjjmpanaaGreatDoorCards
import Derived.JoinedCond
import Derived.KernelRfl
import Derived.Test.YtokehnfjjmpanaaGreatDoorYA6
set_option linter.unusedVariables false
set_option linter.unusedSimpArgs false
set_option maxRecDepth 8000
namespace Go.Proofs.YtokehnfjjmpanaaGreatDoor.Wd
open Sm Bins Cov Go.RowKit
open Bool renaming not_false→jC
open List renaming map_cons→jF,map_nil→jD,append_nil→jE
open Nat renaming reduceAdd→jK,le_of_ble_eq_true→jH,reduceEqDiff→jA
open Option renaming getD_some→jB
def wW (z:Int):Nat:=(z % 65536).toNat
theorem AQM (z:Int):wW z < 65536:=by unfold wW; omega
theorem ARL {a:Nat} (h:a < 65536):wW (a:Int)=a:=by unfold wW; omega
def AFK (a i:Nat):Nat:=a / 2 ^ i % 2
def JX (a:Nat):Nat→Nat
 | 0=>0
 | k+1=>JX a k+AFK a k
def VQ (a:Nat):Nat:=JX a 16
theorem APY (a i:Nat):AFK a i < 2:=Nat.mod_lt _ (by omega)
theorem OT (a:Nat) : ∀ k,JX a k≤k
 | 0=>Nat.le_refl 0
 | k+1=>by have:=OT a k; have:=APY a k; unfold JX; omega
theorem PZ (a i:Nat) (hi:i < 8):AFK (a % 256) i=AFK a i:=by
 unfold AFK
 have:i=0∨i=1∨i=2∨i=3∨i=4∨i=5∨i=6∨i=7:=by omega
 rcases this with rfl | rfl | rfl | rfl | rfl | rfl | rfl | rfl <;> simp only [Nat.reducePow] <;> omega
theorem ANF (a i:Nat):AFK (a / 256) i=AFK a (8+i):=by
 unfold AFK
 rw [Nat.div_div_eq_div_mul,Nat.pow_add]
theorem ALV (a:Nat):VQ a=JX (a / 256) 8+JX (a % 256) 8:=by
 unfold VQ
 simp only [JX,ANF,PZ a 0 (by omega),PZ a 1 (by omega),PZ a 2 (by omega),PZ a 3 (by omega),PZ a 4 (by omega),PZ a 5 (by omega),PZ a 6 (by omega),PZ a 7 (by omega),jK,Nat.add_zero]
 omega
theorem AQK {n:Int} (h0:0≤n) (h1:n < 65536):IntKind.u16.wrap n=n:=by
 have e:IntKind.u16.wrap n=n % 65536:=by simp [IntKind.wrap,IntKind.bits,IntKind.signed]
 rw [e]; omega
theorem AP8 (z:Int):G6 Tryz.prog 3 .and (.int .i64 z) (.int .i64 65535)=some (.int .i64 ((wW z:Nat):Int)):=by
 have e:G6 Tryz.prog 3 .and (.int .i64 z) (.int .i64 65535)=some (.int .i64 (IntKind.i64.wrap ((BitVec.ofInt 64 z &&& BitVec.ofInt 64 65535).toNat:Int))):=rfl
 rw [e,BitVec.toNat_and]
 have h1:(BitVec.ofInt 64 65535).toNat=2 ^ 16 - 1:=by decide
 rw [h1,Nat.and_two_pow_sub_one_eq_mod,BitVec.toNat_ofInt]
 have h2:((z % ((2 ^ 64:Nat):Int)).toNat % 2 ^ 16)=wW z:=by
  unfold wW
  simp only [Nat.reducePow]
  omega
 rw [h2,O0 (by have:=AQM z; omega)]
theorem AKL (a:Nat) (h:a < 65536):(BitVec.ofInt 64 (a:Int)).toNat=a:=by
 rw [BitVec.ofInt_natCast,BitVec.toNat_ofNat]
 exact Nat.mod_eq_of_lt (by omega)
theorem AU4 (a b:Nat) (ha:a < 65536) (hb:b < 65536):G6 Tryz.prog 3 .and (.int .i64 (a:Nat)) (.int .i64 (b:Nat))=some (.int .i64 ((a &&& b:Nat):Int)):=by
 have e:G6 Tryz.prog 3 .and (.int .i64 (a:Nat)) (.int .i64 (b:Nat))=some (.int .i64 (IntKind.i64.wrap ((BitVec.ofInt 64 (a:Int) &&& BitVec.ofInt 64 (b:Int)).toNat:Int))):=rfl
 have hx:a &&& b < 2 ^ 16:=Nat.and_lt_two_pow _ (by omega)
 rw [e,BitVec.toNat_and,AKL a ha,AKL b hb,O0 (by omega)]
theorem AV7 (a b:Nat) (ha:a < 65536) (hb:b < 65536):G6 Tryz.prog 3 .or (.int .i64 (a:Nat)) (.int .i64 (b:Nat))=some (.int .i64 ((a ||| b:Nat):Int)):=by
 have e:G6 Tryz.prog 3 .or (.int .i64 (a:Nat)) (.int .i64 (b:Nat))=some (.int .i64 (IntKind.i64.wrap ((BitVec.ofInt 64 (a:Int) ||| BitVec.ofInt 64 (b:Int)).toNat:Int))):=rfl
 have hx:a ||| b < 2 ^ 16:=Nat.or_lt_two_pow (by omega) (by omega)
 rw [e,BitVec.toNat_or,AKL a ha,AKL b hb,O0 (by omega)]
theorem AS3 (a b:Nat) (ha:a < 65536) (hb:b < 65536):G6 Tryz.prog 3 .xor (.int .i64 (a:Nat)) (.int .i64 (b:Nat))=some (.int .i64 ((a ^^^ b:Nat):Int)):=by
 have e:G6 Tryz.prog 3 .xor (.int .i64 (a:Nat)) (.int .i64 (b:Nat))=some (.int .i64 (IntKind.i64.wrap ((BitVec.ofInt 64 (a:Int) ^^^ BitVec.ofInt 64 (b:Int)).toNat:Int))):=rfl
 have hx:a ^^^ b < 2 ^ 16:=Nat.xor_lt_two_pow (by omega) (by omega)
 rw [e,BitVec.toNat_xor,AKL a ha,AKL b hb,O0 (by omega)]
theorem AOP (G:Nat→AV) (z:Int) (h:Hp):PCall (En G) 175 [.int .i64 z] h (.int .u16 ((wW z:Nat):Int)):=by
 have:=AQM z
 refine acN Tryz.func175 rfl ?_
 show awp _ _ _ _ _ (EH _ [.tmp 2] _)
 simp -implicitDefEqProofs only [BB,A8,BK,A7,CW,AZ,BA,AC,AQ,AO,BD,AX,AL,AA,AY,AU,BH,BI,BC,BR,OZ,AB,BF,↓reduceIte,jA,jB,jC,enX,enP,APO,AP8,AQK (n:=((wW z:Nat):Int)) (by omega) (by omega)]
 exact ⟨trivial,trivial⟩
def AH7 (fn:Func):ByteArray:=match fn.body with
 | some (.seq _ (.seq (.region _ ops _) _))=>match ops[2]? with
   | some o=>match o.op with
     | .index _ (.const (.string s)) _=>s
     | _=>⟨#[]⟩
   | none=>⟨#[]⟩
 | _=>⟨#[]⟩
theorem AOB:(List.range 256).all (fun y=>(AH7 Tryz.f174)[y]? == some (UInt8.ofNat (JX y 8)))=true:=by kernel_rfl
theorem ALC {y:Nat} (hy:y < 256) (h:Hp):ofO h (KF Tryz.prog 9 (.str (AH7 Tryz.f174)) (.int .u16 (y:Nat)))=some (.int .u8 (JX y 8:Nat),h):=by
 have h1:=List.all_eq_true.1 AOB y (by simpa using hy)
 have h2:(AH7 Tryz.f174)[y]? = some (UInt8.ofNat (JX y 8)):=by simpa using h1
 have hle:=OT y 8
 have hu:Tryz.prog.underlying 9=some .string:=by kernel_rfl
 have h3:KF Tryz.prog 9 (.str (AH7 Tryz.f174)) (.int .u16 (y:Nat))=some (.int .u8 (JX y 8:Nat)):=by
  unfold KF
  simp only [hu,Int.toNat_natCast,h2]
  rw [if_pos (by omega)]
  simp
  omega
 rw [h3]; rfl
set_option maxHeartbeats 1000000 in
theorem AJQ (G:Nat→AV) (a:Nat) (ha:a < 65536) (h:Hp):PCall (En G) 139 [.int .i64 (a:Nat)] h (.int .i64 (VQ a:Nat)):=by
 have hs:G6 Tryz.prog 55 .shr (.int .u16 (a:Nat)) (.int .u64 8)=some (.int .u16 ((a / 256:Nat):Int)):=by
  have e:G6 Tryz.prog 55 .shr (.int .u16 (a:Nat)) (.int .u64 8)=some (.int .u16 ((a:Int).fdiv (2 ^ 8))):=rfl
  rw [e,Int.fdiv_eq_ediv_of_nonneg _ (by decide)]
  rfl
 have hl:G6 Tryz.prog 55 .and (.int .u16 (a:Nat)) (.int .u16 255)=some (.int .u16 ((a % 256:Nat):Int)):=by
  have e:G6 Tryz.prog 55 .and (.int .u16 (a:Nat)) (.int .u16 255)=some (.int .u16 (IntKind.u16.wrap ((BitVec.ofInt 16 (a:Int) &&& BitVec.ofInt 16 255).toNat:Int))):=rfl
  have h1:(BitVec.ofInt 16 255).toNat=2 ^ 8 - 1:=by decide
  have h2:(BitVec.ofInt 16 (a:Int)).toNat=a:=by
   rw [BitVec.ofInt_natCast,BitVec.toNat_ofNat]
   exact Nat.mod_eq_of_lt (by omega)
  rw [e,BitVec.toNat_and,h1,Nat.and_two_pow_sub_one_eq_mod,h2,AQK (by omega) (by simp only [Nat.reducePow]; omega)]
 have l1:=OT (a / 256) 8
 have l2:=OT (a % 256) 8
 have hadd:G6 Tryz.prog 5 .add (.int .u8 (JX (a / 256) 8:Nat)) (.int .u8 (JX (a % 256) 8:Nat))=some (.int .u8 (VQ a:Nat)):=by
  have e:G6 Tryz.prog 5 .add (.int .u8 (JX (a / 256) 8:Nat)) (.int .u8 (JX (a % 256) 8:Nat))=some (.int .u8 (IntKind.u8.wrap ((JX (a / 256) 8:Int)+(JX (a % 256) 8:Int)))):=rfl
  have e2 : ∀ n:Int,IntKind.u8.wrap n=n % 256:=fun n=>by simp [IntKind.wrap,IntKind.bits,IntKind.signed]
  have e3:=ALV a
  rw [e,e2]
  congr 2
  omega
 have h64:IntKind.i64.wrap ((VQ a:Nat):Int)=((VQ a:Nat):Int):=O0 (by have:=OT a 16; unfold VQ; omega)
 have hc:PCall (En G) 174 [.int .u16 (a:Nat)] h (.int .i64 (VQ a:Nat)):=by
  refine acN Tryz.func174 rfl ?_
  show awp _ _ _ _ _ (EH _ [.tmp 2] _)
  simp -implicitDefEqProofs only [BB,A8,A7,AZ,BA,AC,AQ,AO,BD,AX,AL,AU,BH,BC,jB,jC,enX,enP]
  refine EZ (by kernel_rfl) ?_
  simp -implicitDefEqProofs only [FD,DR,CZ,DU,ES,IJ,AB3,AC,AA,AY,AU,BH,GN,BR,J5,AB,BF,↓reduceIte,jA,jK,jB,enP,hs,hl]
  refine TP (v := .int .u8 (JX (a / 256) 8:Nat)) (h:=h) (ALC (by omega) h) ?_
  simp -implicitDefEqProofs only [FD,DR,CZ,DU,ES,IJ,AB3,AC,AA,AY,AU,BH,GN,BR,J5,AB,BF,↓reduceIte,jA,jK,jB,enP,hs,hl]
  refine TP (v := .int .u8 (JX (a % 256) 8:Nat)) (h:=h) (ALC (by omega) h) ?_
  simp -implicitDefEqProofs only [FD,DR,CZ,D9,DU,G9,IJ,AF5,BK,A7,CW,AC,AA,AY,BR,OZ,AB,↓reduceIte,jA,jK,jB,enP,AE9,hadd,h64]
  exact ⟨trivial,trivial⟩
 have ho:=AOP G (a:Nat) h
 rw [ARL ha] at ho
 refine acN Tryz.func139 rfl ?_
 show awp _ _ _ _ _ (EH _ [.tmp 2] _)
 simp -implicitDefEqProofs only [BB,A8,A7,AZ,BA,AC,AQ,AO,BD,AX,AL,AA,AY,AU,BO,BH,BI,BC,BX,BP,BF,jF,jD,jE,↓reduceIte,jA,jB,jC,enX,enP]
 refine ho.use ?_
 simp -implicitDefEqProofs only [AZ,AC,AQ,AO,BD,AX,AL,AA,AY,BO,BX,BP,jF,jD,jE,↓reduceIte,jB,jC]
 refine hc.use ?_
 simp -implicitDefEqProofs only [BK,A7,CW,AZ,BA,AC,AQ,AO,BD,AX,AL,AA,AY,BC,↓reduceIte,jB,jC]
 exact ⟨trivial,trivial⟩
end Go.Proofs.YtokehnfjjmpanaaGreatDoor.Wd
namespace Go.Proofs.YtokehnfjjmpanaaGreatDoor.Sm
open Bool renaming and_eq_true→jU
open List renaming append_nil→jE,getElem?_map→zB
open Nat renaming eq_zero_or_pos→zW,add_zero→jI

def M0 (W:World):Nat→Option Obj:=fun k=>W.heap[k]?
def g0 (W:World):Gh:=⟨M0 W,fun _=>none,W.os,W.tape,W.output,fun _=>none⟩
theorem AV0 {E:Env} {W:World} (hN:E.L=none) (hG : ∀ n,RepF (M0 W) (E.G n) (.pointer (some ⟨n,0,none⟩))):SimH E (g0 W) [] W where
 os:=rfl
 tape:=rfl
 output:=rfl
 fro k o h:=h
 lo g0 h:=by rw [hN] at h; cases h
 live b k xs h:=by simp at h
 obj b x h:=by simp at h
 inj b b' x x' l l' h:=by simp at h
 fresh b _:=rfl
 glob:=hG
theorem AFH {E:Env} {f:FuncId} {avs:List AV} {args:Array Value} {W:World} (hc:ACalls E f avs [] fun v _=>v = .bool true) (hN:E.L=none) (hX : ∀ u h,¬ E.X u h)
  (hG : ∀ n,RepF (M0 W) (E.G n) (.pointer (some ⟨n,0,none⟩))) (ha:XJ (g0 W) avs args) :
  Calls E.P f args W fun e w'=>e = .returned (.bool true)∧RowKit.Below W.heap.size W w':=by
 refine (hc.2 (g0 W) W args (AV0 hN hG) ha).mono ?_
 rintro e w' (⟨v,cv,g',h',rfl,rfl,hle,S,hr⟩ | ⟨_,_,_,_,hx,_⟩)
 rotate_left
 ·exact (hX _ _ hx).elim
 rw [hr.bool_inv]
 have hfro : ∀ k o,W.heap[k]? = some o→w'.heap[k]? = some o:=fun k o h=>S.fro k o (hle.M k o h)
 refine ⟨rfl,?_,?_,?_,?_,?_⟩
 ·rw [S.os,hle.os]; rfl
 ·rw [S.tape,hle.tape]; rfl
 ·rw [S.output,hle.output]; rfl
 ·rcases Nat.lt_or_ge w'.heap.size W.heap.size with h | h
  ·have h1:=hfro w'.heap.size _ (Array.getElem?_eq_getElem h)
   simp at h1
  ·exact h
 ·intro k hk
  rw [hfro k _ (Array.getElem?_eq_getElem hk),Array.getElem?_eq_getElem hk]
theorem ALQ {H:Type} {enc:TypeId × Value→H} {P:Program} {f:Func} {s:ChangeSpec} {tb:TypeId} {apart fresh handsOn:Bool} {W W':World} {args:Array Value} {ds gs:List (DataW H)} {before:List MemPlace}
  (hW:DataW.Whole enc P f.params.toList s.vars apart W args.toList ds gs before) (hb:RowKit.Below W.heap.size W W')
  (hv:s.vars = []) (hr:f.resultTypes = #[tb]) (hub:P.underlying tb=some .bool)
  (hs:s.fn H ds = { results := [.lit (.bool true)],args:=ds })
  (hl:laidOutB P=true) (hp:f.params.toList.all (fun t=>P.readableRec t && decide (t < P.types.size))=true) :
  s.post enc P f apart fresh handsOn false W args (.bool true) W':=by
 have hW0:=hW
 obtain ⟨p,q,hA,hV,rfl,_,_⟩:=hW
 rw [hv] at hV
 obtain ⟨rfl,rfl⟩:gs = []∧q = []:=by
  cases gs with
  | nil=>exact ⟨rfl,hV⟩
  | cons=>exact hV.elim
 have hfn:s.fn H (ds ++ []) = { results := [.lit (.bool true)],args:=ds }:=by rw [jE]; exact hs
 rw [jE] at hW0
 have hlt : ∀ x∈p,x.block < W.heap.size:=fun x hx=>hW0.lt x hx
 have hall : ∀ (sp:Nat→Bool),(∀ x∈p,sp x.block=true)→∀ {ts:List TypeId} {vs:List Value} {ds:List (DataW H)} {ps:List MemPlace},(ts.all (fun t=>P.readableRec t && decide (t < P.types.size))=true) →
   (∀ x∈ps,x∈p)→DataW.TrodAll enc P W 0 (fun _=>true) true ts vs ds ps→DataW.TrodAll enc P W' 0 sp true ts vs ds ps:=by
  intro sp hsp ts
  induction ts with
  | nil =>
    intro vs ds ps _ _ h
    cases vs <;> cases ds <;> first | exact h | exact h.elim
  | cons t ts ih =>
    intro vs ds ps hts hm h
    cases vs with
    | nil=>exact h.elim
    | cons v vs =>
      cases ds with
      | nil=>exact h.elim
      | cons d ds =>
        obtain ⟨p1,q1,h1,h2,e⟩:=h
        simp only [List.all_cons,jU,decide_eq_true_eq] at hts
        have hm1 : ∀ x∈p1,x∈p:=fun x hx=>hm x (by rw [e]; exact List.mem_append_left _ hx)
        exact ⟨p1,q1,WideElems.Trod_stays hl hts.1.1 hts.1.2 h1 (fun x hx=>hb.same (hlt x (hm1 x hx))) (fun x hx=>hsp x (hm1 x hx)),ih hts.2 (fun x hx=>hm x (by rw [e]; exact List.mem_append_right _ hx)) h2,e⟩
 have hold : ∀ x∈p,(fun b=>decide (b < W.heap.size)) x.block=true:=fun x hx=>by simpa using hlt x hx
 refine ⟨ds,[],p,[],p,[],hW0,?_,?_,?_,World.keptBut_mono (fun x hx=>⟨hx,.inr (.inl hx)⟩) (hb.frame (·∈p)),fun h=>by cases h⟩
 ·rw [hfn,hr]
  exact ChangeShapes.trodAll_mk1 (RowKit.shut_bool hub true)
 ·rw [hfn]; exact hall _ hold hp (fun _ h=>h) hA
 ·rw [hv,hfn]; exact rfl

open Go.Proofs.YtokehnfjjmpanaaGreatDoor.Rows (uptoBulk uptoBulkAll)
def RowP (M:Nat→Option Obj) (rs:List AV) (cs:List Value):Prop := ∀ (j:Nat) (a:AV),rs[j]? = some a→a.leaf=true∧∃ c,cs[j]? = some c∧RepF M a c
theorem RowP.nil (M:Nat→Option Obj) (cs:List Value):RowP M [] cs:=fun j a h=>by simp at h
theorem RowP.one {M:Nat→Option Obj} {a:AV} {c:Value} (hl:a.leaf=true) (h:RepF M a c):RowP M [a] [c]:=by
 intro j b hb
 cases j with
 | zero=>simp at hb; subst hb; exact ⟨hl,c,rfl,h⟩
 | succ j=>simp at hb
theorem RowP.append {M:Nat→Option Obj} {rs bs:List AV} {cs:List Value} {n:Nat} (h:RowP M rs (cs.take n)) (hn:rs.length=n) (k:RowP M bs (cs.drop n)):RowP M (rs ++ bs) cs:=by
 intro j a ha
 rw [List.getElem?_append] at ha
 split at ha
 ·obtain ⟨h1,c,h2,h3⟩:=h j a ha
  rw [List.getElem?_take] at h2
  split at h2
  ·exact ⟨h1,c,h2,h3⟩
  ·cases h2
 ·obtain ⟨h1,c,h2,h3⟩:=k _ a ha
  rw [List.getElem?_drop] at h2
  exact ⟨h1,c,by rw [← h2]; congr 1; omega,h3⟩
def RdAt (P:Program) (n:Nat) (t:TypeId) {α:Type} (enc:α→List AV) (ok:α→Nat→Prop):Prop :=
 ∀ (H:Type) (ench:TypeId × Value→H) (w:World) (cs:List Value) (d:DataW H) (ps:List MemPlace),
   DataW.trod ench P w 0 (fun _=>true) true n t cs=some (d,ps)→∃ x,ok x (uptoBulk d)∧RowP (M0 w) (enc x) cs
def Rd (P:Program) (t:TypeId) {α:Type} (enc:α→List AV) (ok:α→Nat→Prop):Prop := ∀ n,RdAt P n t enc ok
theorem RdAt.zero {P:Program} {t:TypeId} {α:Type} {enc:α→List AV} {ok:α→Nat→Prop}:RdAt P 0 t enc ok:=by
 intro H ench w cs d ps h; simp [DataW.trod] at h
theorem RdAt.map {P:Program} {n:Nat} {t:TypeId} {α β:Type} {enc:α→List AV} {ok:α→Nat→Prop} {enc':β→List AV} {ok':β→Nat→Prop} (f:α→β) (h:RdAt P n t enc ok)
  (he : ∀ x,enc' (f x)=enc x) (hk : ∀ x b,ok x b→ok' (f x) b):RdAt P n t enc' ok':=by
 intro H ench w cs d ps ht
 obtain ⟨x,h1,h2⟩:=h H ench w cs d ps ht
 exact ⟨f x,hk x _ h1,by rw [he]; exact h2⟩
theorem Rd.map {P:Program} {t:TypeId} {α β:Type} {enc:α→List AV} {ok:α→Nat→Prop} {enc':β→List AV} {ok':β→Nat→Prop} (f:α→β) (h:Rd P t enc ok)
 (he : ∀ x,enc' (f x)=enc x) (hk : ∀ x b,ok x b→ok' (f x) b):Rd P t enc' ok':=fun n=>(h n).map f he hk
def okI (z:Int) (_:Nat):Prop := -9223372036854775808≤z∧z≤9223372036854775807
def okS (s:ByteArray) (b:Nat):Prop:=s.size+1≤b
def okT {α:Type} (_:α) (_:Nat):Prop:=True
def okL {α:Type} (ok:α→Nat→Prop):List α→Nat→Prop
 | [],_=>True
 | x :: xs,b => ∃ b1 b2,b1+b2≤b∧1≤b1∧ok x b1∧okL ok xs b2
theorem okL.length {α:Type} {ok:α→Nat→Prop} : ∀ {xs:List α} {b:Nat},okL ok xs b→xs.length≤b
 | [],_,_=>Nat.zero_le _
 | _ :: _,_,⟨_,_,h1,h2,_,h4⟩=>by have:=okL.length h4; simp; omega
theorem okL.each {α:Type} {ok:α→Nat→Prop} : ∀ {xs:List α} {b:Nat},okL ok xs b→∀ x∈xs,∃ b1,b1≤b∧ok x b1
 | [],_,_,_,h=>by cases h
 | y :: ys,b,⟨b1,b2,h1,h2,h3,h4⟩,x,h=>by
   cases List.mem_cons.1 h with
   | inl e=>subst e; exact ⟨b1,by omega,h3⟩
   | inr e=>obtain ⟨b3,h5,h6⟩:=okL.each h4 x e; exact ⟨b3,by omega,h6⟩
theorem okL.mono {α:Type} {ok:α→Nat→Prop} : ∀ {xs:List α} {b b':Nat},okL ok xs b→b≤b'→okL ok xs b'
 | [],_,_,_,_=>trivial
 | _ :: _,_,_,⟨b1,b2,h1,h2,h3,h4⟩,h=>⟨b1,b2,by omega,h2,h3,h4⟩
theorem ANB {H:Type} (d:DataW H):1≤uptoBulk d:=by
 cases d with
 | lit l=>cases l <;> simp [uptoBulk]
 | nil=>simp [uptoBulk]
 | ptr d=>simp [uptoBulk]
 | slice elems spare=>simp [uptoBulk]
 | agg parts=>simp [uptoBulk]
 | iface t d=>simp [uptoBulk]
 | map entries=>simp [uptoBulk]
 | held h=>simp [uptoBulk]
theorem ARW {P:Program} {t:TypeId} (hu:P.underlying t=some (.int .i64)):Rd P t (fun z:Int => [.int .i64 z]) okI:=by
 intro n H ench w cs d ps h
 obtain ⟨z,rfl,hx,hz⟩:=DataW.trod_int hu h
 refine ⟨z,?_,RowP.one rfl (.int _ _)⟩
 simp only [Lit.wf,jU,decide_eq_true_eq] at hz
 exact hz
theorem AOK {P:Program} {t:TypeId} (hu:P.underlying t=some .bool):Rd P t (fun z:Bool => [.bool z]) okT:=by
 intro n H ench w cs d ps h
 obtain ⟨z,rfl,hx⟩:=DataW.trod_bool hu h
 exact ⟨_,trivial,RowP.one rfl (.bool _)⟩
theorem ARV {P:Program} {t:TypeId} (hu:P.underlying t=some .string):Rd P t (fun z:ByteArray => [.str z]) okS:=by
 intro n H ench w cs d ps h
 obtain ⟨s,rfl,hx,_⟩:=DataW.trod_string hu h
 cases hx
 refine ⟨s,?_,RowP.one rfl (.str _)⟩
 simp only [okS,uptoBulk,Array.length_toList]
 exact Nat.le_refl _
theorem ZB {α β:Type} {f:α→Option β} {x:α} {xs:List α} {ys:List β} (h:(x :: xs).mapM f=some ys) : ∃ y zs,f x=some y∧xs.mapM f=some zs∧ys=y :: zs:=by
 rw [List.mapM_cons] at h
 cases hx:f x with
 | none=>simp [hx] at h
 | some y =>
   cases hz:xs.mapM f with
   | none=>simp [hx,hz] at h
   | some zs=>simp [hx,hz] at h; exact ⟨y,zs,rfl,rfl,h.symm⟩
theorem AD6 {P:Program} {n:Nat} {e:TypeId} {α:Type} {enc:α→List AV} {ok:α→Nat→Prop} (hr:RdAt P n e enc ok) {H:Type} {ench:TypeId × Value→H} {w:World} :
  ∀ (zs:List (DataW H × List MemPlace)) (cells:Nat→Option (List Value)),(∀ i,i < zs.length→(cells i).bind (DataW.trod ench P w 0 (fun _=>true) true n e)=zs[i]?) →
    ∃ xs:List α,xs.length=zs.length∧okL ok xs (uptoBulkAll (zs.map (·.1)))∧∀ (i:Nat) (x:α),xs[i]? = some x→∃ cs,cells i=some cs∧RowP (M0 w) (enc x) cs
 | [],cells,h=>⟨[],rfl,trivial,fun i x h=>by simp at h⟩
 | y :: zs,cells,h=>by
   have h0:=h 0 (by simp)
   cases hc:cells 0 with
   | none=>simp [hc] at h0
   | some cs =>
     simp only [hc,Option.bind_some,List.getElem?_cons_zero] at h0
     obtain ⟨x,k1,k2⟩:=hr H ench w cs y.1 y.2 h0
     obtain ⟨xs,l1,l2,l3⟩:=AD6 hr zs (fun i=>cells (i+1)) (fun i hi=>by have:=h (i+1) (by simpa using hi); simpa using this)
     refine ⟨x :: xs,by simp [l1],⟨uptoBulk y.1,uptoBulkAll (zs.map (·.1)),by simp [uptoBulkAll],ANB _,k1,l2⟩,?_⟩
     intro i x' hx
     cases i with
     | zero=>simp at hx; subst hx; exact ⟨cs,hc,k2⟩
     | succ i=>simp at hx; exact l3 i x' hx
theorem AGT {β:Type} {f:Nat→Option β} {n i:Nat} {ys:List β} (h:(List.range n).mapM f=some ys) (hi:i < n) : ∃ y,f i=some y∧ys[i]? = some y:=by
 have gen : ∀ (l:List Nat) (ys:List β),l.mapM f=some ys→∀ j k:Nat,l[j]? = some k→∃ y,f k=some y∧ys[j]? = some y:=by
  intro l
  induction l with
  | nil=>intro ys _ j k hj; simp at hj
  | cons a l ih =>
    intro ys hl j k hj
    obtain ⟨y,zs,h1,h2,rfl⟩:=ZB hl
    cases j with
    | zero=>simp at hj; subst hj; exact ⟨y,h1,rfl⟩
    | succ j=>simp at hj; exact ih zs h2 j k hj
 exact gen _ _ h i i (by simp [hi])
theorem cells_at {w:World} {a:Addr} {n:Nat} {cs:List Value} (h:w.cells? 0 a n=some cs) {i:Nat} (hi:i < n) : ∃ c,w.cell? (a.add i)=some c∧cs[i]? = some c:=by
 unfold World.cells? at h
 simp only [Nat.zero_le,if_true] at h
 exact AGT h hi
theorem NQ {P:Program} {n:Nat} {t e:TypeId} {k:Nat} {α:Type} {enc:α→List AV} {ok:α→Nat→Prop} (hu:P.underlying t=some (.slice e)) (hk:P.cellsOf e=k) (hk0:0 < k) (hlen : ∀ x,(enc x).length=k)
  (hr:RdAt P n e enc ok):RdAt P (n+1) t (fun x:SM × List α => [.sl x.1 k (x.2.map enc)]) (fun x b => ∃ b',b'+1≤b∧okL ok x.2 b'):=by
 intro H ench w cs d ps h
 rcases DataW.trod_slice hu h with ⟨rfl,hd⟩ | ⟨a,len,cap,zs,rest,m,hm,rfl,hd,_,hlc,_,hzl,hel,_,_⟩
 ·cases hd
  exact ⟨(.nil,[]),⟨0,by simp [uptoBulk],trivial⟩,RowP.one rfl (.nil _)⟩
 ·obtain rfl:n=m:=by omega
  simp only [Prod.mk.injEq] at hd
  obtain ⟨xs,l1,l2,l3⟩:=AD6 hr zs (fun i=>w.cells? 0 (a.add (i * P.cellsOf e)) (P.cellsOf e)) (fun i hi=>hel i (by omega))
  rw [hzl] at l1
  have hok : ∃ b',b'+1≤uptoBulk d∧okL ok xs b':=⟨uptoBulkAll (zs.map (·.1)),by rw [hd.1]; simp [uptoBulk],l2⟩
  rcases zW len with h0 | hpos
  ·subst h0
   have:xs = []:=List.length_eq_zero_iff.1 l1
   subst this
   exact ⟨(.any,[]),hok,RowP.one rfl (.empty .any k a cap (by simp) (by simp))⟩
  ·refine ⟨(.any,xs),hok,RowP.one rfl ?_⟩
   have cellAt : ∀ i j,i < len→j < k→∃ c,w.cell? ((a.add (i * k)).add j)=some c∧∀ x a',xs[i]? = some x→(enc x)[j]? = some a'→a'.leaf=true∧RepF (M0 w) a' c:=by
    intro i j hi hj
    have hx:i < xs.length:=by omega
    obtain ⟨cs',q1,q2⟩:=l3 i xs[i] (by simp [hx])
    rw [hk] at q1
    obtain ⟨c,r1,r2⟩:=cells_at q1 hj
    refine ⟨c,r1,fun x a' hx' ha' => ?_⟩
    rw [List.getElem?_eq_getElem hx] at hx'
    cases hx'
    obtain ⟨s1,c',s2,s3⟩:=q2 j a' ha'
    rw [r2] at s2; cases s2
    exact ⟨s1,s3⟩
   obtain ⟨cb,co,sp⟩:=a
   have hadd : ∀ i j,((Addr.mk cb co none).add (i * k)).add j=⟨cb,co+i * k+j,none⟩:=by
    intro i j
    rw [addr_add,addr_add]
   obtain ⟨c0,hc0,_⟩:=cellAt 0 0 hpos hk0
   have hsp:sp=none:=by
    simp [Addr.add,World.cell?] at hc0
    split at hc0
    ·split at hc0
     ·cases hc0
     ·rename_i hs; simpa using hs
    ·cases hc0
   subst hsp
   rw [hadd] at hc0
   simp only [World.cell?] at hc0
   split at hc0
   case h_2=>cases hc0
   rename_i c ty fz hw
   have rd : ∀ i j,w.cell? ⟨cb,co+i * k+j,none⟩=c[co+i * k+j]? := fun i j=>by simp [World.cell?,hw]
   have hlx:len=(xs.map enc).length:=by simp [l1]
   rw [hlx]
   refine .sl .any k (xs.map enc) cb co c ty fz cap (fun i j=>c[co+i * k+j]?.getD default) ?_ (by simp) hw ?_ ?_ ?_ ?_ (by simp)
   ·intro hx
    have:xs = []:=by simpa using hx
    subst this; simp at l1; omega
   ·intro i row hrow
    rw [zB,Option.map_eq_some_iff] at hrow
    obtain ⟨x,hx,rfl⟩:=hrow
    refine ⟨hlen x,fun j v hv => ?_⟩
    have hi:i < len:=by rw [← l1]; exact (List.getElem?_eq_some_iff.1 hx).1
    have hj:j < k:=by rw [← hlen x]; exact (List.getElem?_eq_some_iff.1 hv).1
    obtain ⟨c,_,hc2⟩:=cellAt i j hi hj
    exact (hc2 x v hx hv).1
   ·intro i j hi hj
    obtain ⟨c',q1,_⟩:=cellAt i j (by simpa [l1] using hi) hj
    rw [hadd,rd] at q1
    rw [q1]; rfl
   ·intro i j row v hrow hv
    rw [zB,Option.map_eq_some_iff] at hrow
    obtain ⟨x,hx,rfl⟩:=hrow
    have hi:i < len:=by rw [← l1]; exact (List.getElem?_eq_some_iff.1 hx).1
    have hj:j < k:=by rw [← hlen x]; exact (List.getElem?_eq_some_iff.1 hv).1
    obtain ⟨c',q1,q2⟩:=cellAt i j hi hj
    rw [hadd,rd] at q1
    show RepF _ _ (c[co+i * k+j]?.getD default)
    rw [q1]
    exact (q2 x v hx hv).2
   ·simp [l1]; exact hlc
def AQF (P:Program) (n:Nat) (fs:List Field) (off:Nat) {α:Type} (enc:α→List AV) (ok:α→Nat→Prop):Prop :=
 ∀ (H:Type) (ench:TypeId × Value→H) (w:World) (cs:List Value) (zs:List (DataW H × List MemPlace)),zs.length=fs.length →
   (∀ (i:Nat) (f:Field),fs[i]? = some f→DataW.trod ench P w 0 (fun _=>true) true n f.type ((cs.drop f.offset).take (P.cellsOf f.type))=zs[i]?)→∃ x,ok x (uptoBulkAll (zs.map (·.1)))∧RowP (M0 w) (enc x) (cs.drop off)
theorem TK {P:Program} {n off:Nat}:AQF P n [] off (fun _:Unit => []) okT:=fun _ _ _ _ _ _ _=>⟨(),trivial,RowP.nil _ _⟩
theorem IE {P:Program} {n off k:Nat} {f:Field} {fs:List Field} {α β:Type} {enc:α→List AV} {ok:α→Nat→Prop} {enc':β→List AV} {ok':β→Nat→Prop} (ho:f.offset=off) (hk:P.cellsOf f.type=k)
  (hlen : ∀ x,(enc x).length=k) (h:RdAt P n f.type enc ok) (h':AQF P n fs (off+k) enc' ok') :
  AQF P n (f :: fs) off (fun x:α × β=>enc x.1 ++ enc' x.2) (fun x b => ∃ b1 b2,b1+b2≤b∧ok x.1 b1∧ok' x.2 b2):=by
 intro H ench w cs zs hl hz
 cases zs with
 | nil=>simp at hl
 | cons y zs =>
   have h1:=hz 0 f rfl
   obtain ⟨x,k1,k2⟩:=h H ench w _ y.1 y.2 (by simpa using h1)
   obtain ⟨x',l1,l2⟩:=h' H ench w cs zs (by simpa using hl) (fun i f' hf=>by have:=hz (i+1) f' (by simpa using hf); simpa using this)
   refine ⟨(x,x'),⟨_,_,Nat.le_of_eq (by simp [uptoBulkAll]),k1,l1⟩,?_⟩
   rw [ho,hk] at k2
   refine RowP.append k2 (hlen x) ?_
   rw [List.drop_drop]
   exact l2
theorem OQ {P:Program} {n:Nat} {t:TypeId} {fs:List Field} {α:Type} {enc:α→List AV} {ok:α→Nat→Prop} (hu:P.underlying t=some (.struct fs.toArray)) (h:AQF P n fs 0 enc ok) :
  RdAt P (n+1) t enc (fun x b => ∃ b',b'+1≤b∧ok x b'):=by
 intro H ench w cs d ps ht
 obtain ⟨zs,m,hm,hd,_,hl,hz⟩:=DataW.trod_struct hu ht
 obtain rfl:n=m:=by omega
 obtain ⟨x,k1,k2⟩:=h H ench w cs zs (by simpa using hl) (fun i f hf=>hz i f (by simpa using hf))
 simp only [Prod.mk.injEq] at hd
 exact ⟨x,⟨_,by rw [hd.1]; simp [uptoBulk],k1⟩,by simpa using k2⟩

open Go.Proofs.YtokehnfjjmpanaaGreatDoor.Rows (uptoBulk uptoBulkAll)
def PR (P:Program) (t:TypeId) {α:Type} (av:α→AV) (ok:α→Nat→Prop):Prop :=
 ∀ (H:Type) (ench:TypeId × Value→H) (w:World) (base:Nat) (v:Value) (d:DataW H) (ps:List MemPlace),Value.okWide P w .any base t v→DataW.Trod ench P w 0 (fun _=>true) true t v d ps →
   ∃ x,ok x (uptoBulk d)∧RepF (M0 w) (av x) v
def AGY (P:Program) (t:TypeId):Bool:=match P.underlying t with
 | some (.int _)=>true
 | some .bool=>true
 | some .string=>true
 | some (.slice _)=>true
 | _=>false
theorem cell_of {P:Program} {t:TypeId} {w:World} {base:Nat} {v:Value} (hc:AGY P t=true) (h:Value.okWide P w .any base t v):v.cells.toList = [v]:=by
 unfold AGY at hc
 unfold Value.okWide at h
 split at hc <;> rename_i hu <;> first | (cases hc; done) | skip
 all_goals
  rw [hu] at h
  simp only [Cell.okWide,Cell.ok,hu] at h
  cases v <;> first | rfl | (simp at h; done) | exact h.elim
theorem AVJ {P:Program} {t:TypeId} {α:Type} {enc:α→List AV} {av:α→AV} {ok:α→Nat→Prop} (h:Rd P t enc ok) (he : ∀ x,enc x = [av x]) (hc:AGY P t=true):PR P t av ok:=by
 intro H ench w base v d ps hv ⟨n,ht⟩
 rw [cell_of hc hv] at ht
 obtain ⟨x,h1,h2⟩:=h n H ench w _ d ps ht
 refine ⟨x,h1,?_⟩
 rw [he] at h2
 obtain ⟨_,c,h3,h4⟩:=h2 0 (av x) rfl
 simp at h3; subst h3
 exact h4
theorem AV5 {P:Program} {t:TypeId} {α:Type} {enc:α→List AV} {ok:α→Nat→Prop} {k:Nat} (h:Rd P t enc ok) (hl : ∀ x,ok x 0∨True→(enc x).length=k) (hk:P.cellsOf t=k) (hc:J9 P t=some true):PR P t (fun x => .agg (enc x)) ok:=by
 intro H ench w base v d ps hv ⟨n,ht⟩
 have hag : ∃ cs,v = .agg cs∧cs.size=P.cellsOf t:=by
  unfold J9 at hc
  unfold Value.okWide at hv
  cases hu:P.underlying t with
  | none=>simp [hu] at hc
  | some td =>
    rw [hu] at hc hv
    cases td <;> simp at hc <;> exact ⟨_,hv.choose_spec.1,hv.choose_spec.2.1⟩
 obtain ⟨cs,rfl,hs⟩:=hag
 obtain ⟨x,h1,h2⟩:=h n H ench w _ d ps ht
 refine ⟨x,h1,.agg _ cs (by rw [hs,hl x (.inr trivial),hk]) ?_⟩
 intro i a cv ha hcv
 obtain ⟨_,c,h3,h4⟩:=h2 i a ha
 simp [Value.cells] at h3
 rw [hcv] at h3; cases h3
 exact h4
def PRs (P:Program) (ts:List TypeId) {α:Type} (avs:α→List AV) (ok:α→Nat→Prop):Prop :=
 ∀ (H:Type) (ench:TypeId × Value→H) (w:World) (base:Nat) (vs:List Value) (ds:List (DataW H)) (ps:List MemPlace),(∀ (j:Nat) t v,ts[j]? = some t→vs[j]? = some v→Value.okWide P w .any base t v) →
   DataW.TrodAll ench P w 0 (fun _=>true) true ts vs ds ps→∃ x,ok x (uptoBulkAll ds)∧vs.length=(avs x).length∧∀ (i:Nat) (a:AV) (v:Value),(avs x)[i]? = some a→vs[i]? = some v→RepF (M0 w) a v
theorem PRs.len {P:Program} {w:World} {H:Type} {ench:TypeId × Value→H} {sp:Nat→Bool} {held:Bool} {base:Nat} : ∀ {ts:List TypeId} {vs:List Value} {ds:List (DataW H)} {ps:List MemPlace},DataW.TrodAll ench P w base sp held ts vs ds ps→ds.length=ts.length
 | [],[],[],_,_=>rfl
 | _ :: _,_ :: _,_ :: _,_,⟨_,_,_,h2,_⟩=>by simp [PRs.len h2]
theorem AVI {P:Program}:PRs P [] (fun _:Unit => []) okT:=by
 intro H ench w base vs ds ps _ h
 cases vs with
 | nil=>exact ⟨(),trivial,rfl,fun i a v h=>by simp at h⟩
 | cons v vs=>cases ds <;> exact h.elim
theorem ATN {P:Program} {t:TypeId} {ts:List TypeId} {α β:Type} {av:α→AV} {ok:α→Nat→Prop} {avs:β→List AV} {ok':β→Nat→Prop} (h:PR P t av ok) (h':PRs P ts avs ok') :
  PRs P (t :: ts) (fun x:α × β=>av x.1 :: avs x.2) (fun x b => ∃ b1 b2,b1+b2≤b∧ok x.1 b1∧ok' x.2 b2):=by
 intro H ench w base vs ds ps hv ht
 cases vs with
 | nil=>cases ds <;> exact ht.elim
 | cons v vs =>
   cases ds with
   | nil=>exact ht.elim
   | cons d ds =>
     obtain ⟨p,q,h1,h2,_⟩:=ht
     obtain ⟨x,k1,k2⟩:=h H ench w base v d p (hv 0 t v rfl rfl) h1
     obtain ⟨y,l1,l2,l3⟩:=h' H ench w base vs ds q (fun j t' v' a b=>hv (j+1) t' v' (by simpa using a) (by simpa using b)) h2
     refine ⟨(x,y),⟨_,_,Nat.le_of_eq (by simp [uptoBulkAll]),k1,l1⟩,by simp [l2],?_⟩
     intro i a v' ha hv'
     cases i with
     | zero=>simp at ha hv'; subst ha; subst hv'; exact k2
     | succ i=>simp at ha hv'; exact l3 i a v' ha hv'
theorem AO8 {H:Type} {enc:TypeId × Value→H} {E:Env} {f:FuncId} {fn:Func} {s:ChangeSpec} {tb:TypeId} {apart fresh handsOn:Bool} {W:World} {base:Nat} {args:Array Value} {ds gs:List (DataW H)} {before:List MemPlace}
  {α:Type} {avs:α→List AV} {ok:α→Nat→Prop} (hr:PRs E.P fn.params.toList avs ok) (hlaw : ∀ x,ok x (uptoBulkAll ds)→ACalls E f (avs x) [] fun v _=>v = .bool true)
  (hval : ∀ (j:Nat) t v,fn.params[j]? = some t→args[j]? = some v→Value.okWide E.P W .any base t v)
  (hW:DataW.Whole enc E.P fn.params.toList s.vars apart W args.toList ds gs before) (hG : ∀ n,RepF (M0 W) (E.G n) (.pointer (some ⟨n,0,none⟩)))
  (hv:s.vars = []) (ht:fn.resultTypes = #[tb]) (hub:E.P.underlying tb=some .bool)
  (hs:s.fn H ds = { results := [.lit (.bool true)],args:=ds })
  (hl:laidOutB E.P=true) (hp:fn.params.toList.all (fun t=>E.P.readableRec t && decide (t < E.P.types.size))=true) (hN:E.L=none:=by rfl) (hX : ∀ u h,¬ E.X u h:=by exact fun _ _ q=>q) :
  Calls E.P f args W fun e W' => ∃ v,e = .returned v∧s.post enc E.P fn apart fresh handsOn false W args v W':=by
 obtain ⟨p,q,hA,_⟩:=id hW
 obtain ⟨x,k1,k2,k3⟩:=hr H enc W base args.toList ds p (fun j t v a b=>hval j t v (by simpa using a) (by simpa using b)) hA
 have ha:XJ (g0 W) (avs x) args:=⟨by simpa using k2,fun i v cv h1 h2 => .fro (k3 i v cv h1 (by simpa using h2))⟩
 refine (AFH (hlaw x k1) hN hX hG ha).mono ?_
 rintro e w' ⟨rfl,hb⟩
 exact ⟨_,rfl,ALQ hW hb hv ht hub hs hl hp⟩
theorem AJ2 {P:Program} {w:World} {t e:TypeId} (hu:P.underlying t=some (.slice e)) (he:P.underlying e=some .string) (hk:P.cellsOf e=1) {H:Type} {ench:TypeId × Value→H} {sp:Nat→Bool} {held:Bool} {n:Nat} {cs:List Value}
  {l:List ByteArray} {d:DataW H} (hd:d = .slice (l.map fun s => .lit (.string s.data.toList)) []) {p:List MemPlace} (h:DataW.trod ench P w 0 sp held n t cs=some (d,p)) :
  ∃ c,cs = [c]∧RepF (M0 w) (.sl .any 1 (l.map fun s => [.str s])) c:=by
 subst hd
 rcases DataW.trod_slice hu h with ⟨_,hx⟩ | ⟨a,len,cap,zs,rest,m,_,rfl,hx,_,hlc,_,hzl,hel,_,_⟩
 ·cases hx
 ·simp only [Prod.mk.injEq,DataW.slice.injEq] at hx
  obtain ⟨⟨hz,_⟩,_⟩:=hx
  have hll:l.length=len:=by have:=congrArg List.length hz; simpa [hzl] using this
  refine ⟨_,rfl,?_⟩
  rcases zW len with h0 | hpos
  ·subst h0
   have:l = []:=List.length_eq_zero_iff.1 hll
   subst this
   exact .empty .any 1 a cap (by simp) (by simp)
  ·have cellAt : ∀ i (s:ByteArray),l[i]? = some s→w.cell? (a.add i)=some (.string s):=by
    intro i s hs
    have hi:i < len:=by rw [← hll]; exact (List.getElem?_eq_some_iff.1 hs).1
    have h1:=hel i hi
    rw [hk,Nat.mul_one] at h1
    have h2:zs[i]?.map (·.1)=some (.lit (.string s.data.toList)):=by
     rw [← zB,← hz,zB,hs]; rfl
    cases hc:w.cells? 0 (a.add i) 1 with
    | none=>rw [hc] at h1; rw [← h1] at h2; cases h2
    | some c1 =>
      rw [hc,Option.bind_some] at h1
      obtain ⟨z,hzi⟩ : ∃ z,zs[i]? = some z:=by cases hh:zs[i]? with
       | none=>rw [hh] at h2; cases h2
       | some z=>exact ⟨z,rfl⟩
      rw [hzi] at h1 h2
      obtain ⟨s',rfl,rfl,_⟩:=DataW.trod_string he h1
      simp only [Option.map_some,Option.some.injEq,DataW.lit.injEq,Lit.string.injEq] at h2
      have:s'=s:=by
       cases s'; cases s
       simp only at h2
       congr 1
       exact Array.toList_inj.1 h2
      subst this
      obtain ⟨c,r1,r2⟩:=cells_at hc (i:=0) (by decide)
      simp at r2; subst r2
      simpa [Addr.add] using r1
   obtain ⟨cb,co,sp'⟩:=a
   have h00:=cellAt 0 l[0] (by simp [hll,hpos])
   have hsp:sp'=none:=by
    simp [Addr.add,World.cell?] at h00
    split at h00
    ·split at h00
     ·cases h00
     ·rename_i hs; simpa using hs
    ·cases h00
   subst hsp
   have hadd : ∀ i,(Addr.mk cb co none).add i=⟨cb,co+i,none⟩:=fun i=>addr_add _ _ _
   rw [hadd] at h00
   simp only [World.cell?] at h00
   split at h00
   case h_2=>cases h00
   rename_i c ty fz hw
   have rd : ∀ i,w.cell? ⟨cb,co+i,none⟩=c[co+i]? := fun i=>by simp [World.cell?,hw]
   have hlx:len=(l.map fun s => [AV.str s]).length:=by simp [hll]
   rw [hlx]
   refine .sl .any 1 _ cb co c ty fz cap (fun i j=>c[co+i * 1+j]?.getD default) ?_ (by simp) hw ?_ ?_ ?_ (by simp [hll]; exact hlc) (by simp)
   ·intro hx
    have:l = []:=by simpa using hx
    subst this; simp at hll; omega
   ·intro i row hrow
    rw [zB,Option.map_eq_some_iff] at hrow
    obtain ⟨x,hx,rfl⟩:=hrow
    refine ⟨rfl,fun j v hv => ?_⟩
    cases j with
    | zero=>simp at hv; subst hv; rfl
    | succ j=>simp at hv
   ·intro i j hi hj
    have hi':i < l.length:=by simpa using hi
    have:=cellAt i l[i] (by simp [hi'])
    rw [hadd,rd] at this
    have hj0:j=0:=by omega
    subst hj0
    simp only [Nat.mul_one,jI]
    rw [this]; rfl
   ·intro i j row v hrow hv
    rw [zB,Option.map_eq_some_iff] at hrow
    obtain ⟨x,hx,rfl⟩:=hrow
    have:=cellAt i x hx
    rw [hadd,rd] at this
    cases j with
    | zero =>
      simp at hv; subst hv
      simp only [Nat.mul_one,jI]
      rw [this]; exact .str _
    | succ j=>simp at hv
theorem AN7 {P:Program} {w:World} {n:String} {g:Nat} {cs:Array Value} {c:Value} {a:AV} (hg:P.globalNamed n=some g) (h:w.var? P n=some cs) (hc:cs.toList = [c]) (hr:RepF (M0 w) a c) (hl:a.leaf=true) :
  RepF (M0 w) (.fptr 1 [[a]] 0 0) (.pointer (some ⟨g,0,none⟩)):=by
 have h0:=World.var?_cell hg h 0
 have e:cs = #[c]:=by rw [← Array.toArray_toList (xs:=cs),hc]
 rw [e] at h0
 simp only [World.cell?] at h0
 split at h0
 case h_2=>simp at h0
 rename_i cc ty fz hw
 have hcc:cc[0]? = some c:=by simpa using h0
 refine .fptr 1 [[a]] 0 0 g 0 cc ty fz (fun _ _=>c) hw ?_ ?_ ?_
 ·intro i row hrow
  cases i with
  | zero =>
    simp at hrow; subst hrow
    refine ⟨rfl,fun j v hv => ?_⟩
    cases j with
    | zero=>simp at hv; subst hv; exact hl
    | succ j=>simp at hv
  | succ i=>simp at hrow
 ·intro i j hi hj
  have:i=0:=by simpa using hi
  have:j=0:=by omega
  subst_vars
  simpa using hcc
 ·intro i j row v hrow hv
  cases i with
  | zero =>
    simp at hrow; subst hrow
    cases j with
    | zero=>simp at hv; subst hv; exact hr
    | succ j=>simp at hv
  | succ i=>simp at hrow
end Go.Proofs.YtokehnfjjmpanaaGreatDoor.Sm
namespace Go.Proofs.YtokehnfjjmpanaaGreatDoor.Head
open List renaming contains_nil→jQ

def signs:List Char:=([104,97,114,110,101,115,115,32,48,101,97,97,102,52,56,97,102,101,48,98,50,97,53,98,101,56,100,99,57,53,56,52,97,49,102,50,101,99,97,99,50,100,102,52,99,53,56,48,102,98,51,102,53,100,101,100,50,54,97,52,55,48,56,98,52,54,99,97,97,100,102,53,32,99,117,116,32,97,116,32,116,101,115,116,98,101,110,99,104,47,116,101,115,116,98,101,110,99,104,108,97,119,49,57,46,66,111,117,110,100,115,83,116,97,114,116,32,116,101,115,116,98,101,110,99,104,47,116,101,115,116,98,101,110,99,104,108,97,119,49,57,46,66,111,117,110,100,115,78,97,114,114,111,119,115,32,116,101,115,116,98,101,110,99,104,47,116,101,115,116,98,101,110,99,104,108,97,119,49,57,46,66,111,117,110,100,115,75,101,101,112,115,32,116,101,115,116,98,101,110,99,104,47,116,101,115,116,98,101,110,99,104,108,97,119,49,57,46,66,111,117,110,100,115,77,111,110,111,116,111,110,101,32,116,101,115,116,98,101,110,99,104,47,116,101,115,116,98,101,110,99,104,108,97,119,49,57,46,66,111,117,110,100,115,70,105,120,101,100,32,116,101,115,116,98,101,110,99,104,47,116,101,115,116,98,101,110,99,104,108,97,119,49,57,46,66,111,117,110,100,115,82,97,110,103,101,115,32,116,101,115,116,98,101,110,99,104,47,116,101,115,116,98,101,110,99,104,108,97,119,49,57,46,66,111,117,110,100,115,83,111,117,110,100]:List Nat).map Char.ofNat
theorem ALU:Tryz.pinned.checked.prog.initOrder=String.ofList signs:=by kernel_rfl
theorem AA6 {s:String} {l:List Char} (h:s=String.ofList l):s.toList=l:=by rw [h,String.toList_ofList]
theorem VK:Tryz.pinned.checked.prog.initOrder.toList=signs:=AA6 ALU
def AFB:List Char:=(signs.drop 73).take 3
def ALN:List (List Char):=wordsSigns (signs.drop 77)
def hsum:List Char:=(signs.drop 8).take 64
theorem YR:behindMainWord (wordsSigns signs)=AFB :: ALN:=by kernel_rfl
theorem ARP:wordsSigns signs=signs.take 7 :: hsum :: wordsSigns (signs.drop 73):=by kernel_rfl
theorem ADT:stripLifts liftWords (AFB :: ALN)=([],AFB :: ALN):=by kernel_rfl
theorem APM:Tryz.pinned.checked.prog.doorFits []=true:=by kernel_rfl
theorem AL7:Tryz.pinned.checked.prog.laysLater=false:=by kernel_rfl
theorem AOJ:Tryz.pinned.checked.prog.bearsReflect=false:=by kernel_rfl
theorem ASJ:(AFB == "cut".toList)=true:=by kernel_rfl
theorem AFA:((some AFB) == some "cut".toList)=true:=by kernel_rfl
theorem ATV:(AFB == "gc".toList)=false:=by kernel_rfl
theorem AOR:(AFB == "spec".toList)=false:=by kernel_rfl
theorem AOS:(some AFB == some "carried".toList)=false:=by kernel_rfl
theorem sum_is:isSumSigns hsum=true:=by kernel_rfl
theorem AR8:(signs.take 7 == "harness".toList)=true:=by kernel_rfl
theorem AMX {P:Program} (h:P.initOrder.toList=signs) (hd:P.doorFits []=true) (hl:P.laysLater=false) (hr:P.bearsReflect=false):P.mayEnter=true:=by
 unfold Program.mayEnter
 generalize P.initOrder.toList=l at h
 subst h
 rw [YR]
 simp only [ADT,hd,hl,hr,jQ,List.head?_cons,Bool.not_false,Bool.or_true,Bool.and_true,AFA]
theorem AO1 {P:Program} (h:P.initOrder.toList=signs):P.make=some .cut:=by
 unfold Program.make
 generalize P.initOrder.toList=l at h
 subst h
 rw [YR]
 simp only [ATV,AOR,ASJ,Bool.or_false,Bool.false_eq_true,if_false,Bool.true_or,if_true]
theorem AKD {P:Program} (h:P.initOrder.toList=signs):P.liftsFinal=false:=by
 unfold Program.liftsFinal Program.headLifts
 generalize P.initOrder.toList=l at h
 subst h
 rw [YR]
 simp only [ADT,List.head?_cons,AOS,AFA,Bool.false_and,Bool.false_or,if_true,jQ]
theorem AO2 {P:Program} {s:String} (h:P.initOrder.toList=signs) (hs:s=String.ofList hsum):P.mainIs=some (true,s.toList):=by
 rw [AA6 hs]
 unfold Program.mainIs
 generalize P.initOrder.toList=l at h
 subst h
 rw [ARP]
 show (if !isSumSigns hsum then none else if signs.take 7 == "harness".toList then some (true,hsum) else if signs.take 7 == "ownmain".toList then some (false,hsum) else none)=_
 rw [sum_is,AR8]
 rfl
theorem AUD:Tryz.pinned.checked.prog.mayEnter=true:=AMX VK APM AL7 AOJ
theorem make_is:Tryz.pinned.checked.prog.make=some .cut:=AO1 VK
theorem AS1:Tryz.pinned.checked.prog.liftsFinal=false:=AKD VK
theorem AVK {s:String} (hs:s=String.ofList hsum):Tryz.pinned.checked.prog.mainIs=some (true,s.toList):=AO2 VK hs
end Go.Proofs.YtokehnfjjmpanaaGreatDoor.Head
namespace Go.Proofs.YtokehnfjjmpanaaGreatDoor.Cov
open Sm Bins Go.RowKit
open List renaming take_of_length_le→jY
def outG {α:Type} (k:Nat) (f:α→List AV) (h:Hp) (ys:List α) (v:AV) (H:Hp):Prop :=
 (ys = []∧v = .sl .nil 0 [])∨(ys≠[]∧∃ o,h.length≤o∧v = .own o 0 ys.length∧H[o]? = some (.live k (ys.map f)))
theorem outG.nil {α:Type} (k:Nat) (f:α→List AV) (h H:Hp):outG k f h [] (.sl .nil 0 []) H := .inl ⟨rfl,rfl⟩
theorem outG.keep {α:Type} {k:Nat} {f:α→List AV} {h H H':Hp} {ys:List α} {v:AV} (ho:outG k f h ys v H) (hk : ∀ b,isB v b→H'[b]? = H[b]?):outG k f h ys v H':=by
 rcases ho with h1 | ⟨h1,o,h2,rfl,h3⟩
 ·exact .inl h1
 ·exact .inr ⟨h1,o,h2,rfl,by rw [hk o rfl]; exact h3⟩
theorem outG.lt {α:Type} {k:Nat} {f:α→List AV} {h H:Hp} {ys:List α} {v:AV} {b:Nat} (ho:outG k f h ys v H) (hb:isB v b):h.length≤b∧b < H.length:=by
 rcases ho with ⟨_,rfl⟩ | ⟨_,o,h2,rfl,h3⟩
 ·exact hb.elim
 ·cases hb; exact ⟨h2,CB h3⟩
theorem outG.app {α:Type} {k:Nat} {f:α→List AV} {h H:Hp} {ys:List α} {v:AV} (ho:outG k f h ys v H) (x:Hp):outG k f h ys v (H ++ x) :=
 ho.keep fun _ hb=>List.getElem?_append_left (ho.lt hb).2
theorem outG.append {P:Program} {t e:TypeId} {α:Type} {k bs:Nat} {f:α→List AV} {h H:Hp} {ys:List α} {v:AV} (ho:outG k f h ys v H) (hu:P.underlying t=some (.slice e)) (hs:szO P e=some k) (hz:YM P e=some k) (hb:OB P e=some bs) (hbs:bs≤4194304) (hl:ys.length < 8388608) (he:ext h H) (y:α) :
  ∃ v' H',IC P true H t t v (.sl .full k [f y])=some (v',H')∧outG k f h (ys ++ [y]) v' H'∧(∀ b x,H[b]? = some x→¬ isB v b→H'[b]? = some x)∧ext h H'∧H.length≤H'.length∧∀ b,isB v' b→b=H.length:=by
 have h1:([f y]:List (List AV))≠[]:=by simp
 rcases ho with ⟨rfl,rfl⟩ | ⟨hne,o,h2,rfl,h3⟩
 ·exact ⟨_,_,AC9 hu hs hz hb (NZ H .full k [f y]) h1 (OI (by simp) hbs),.inr ⟨by simp,H.length,he.le,rfl,by simp⟩,fun b x hb _=>Q5 hb,he.app _,by simp,fun b hb=>hb.symm⟩
 ·have hc:JZ H (.own o 0 ys.length)=some (k,ys.map f):=by
   rw [TR h3 (by simp),List.drop_zero,jY (by simp)]
  refine ⟨_,_,AC8 hu hs hz hb hc (NZ H .full k [f y]) h1 (OI (by simp; omega) hbs),.inr ⟨by simp,H.length,he.le,by simp,by simp⟩,fun b x hb hn => ?_,(he.set h2 _).app _,by simp,fun b hb=>hb.symm⟩
  have hn' : ¬ o=b:=hn
  refine Q5 ?_
  rw [List.getElem?_set,if_neg hn']; exact hb
theorem outG.len {P:Program} {t:TypeId} {α:Type} {k:Nat} {f:α→List AV} {h H:Hp} {ys:List α} {v:AV} (ho:outG k f h ys v H) (hl:(∀ m k xs,LH P t (.sl m k xs)=some (.int .i64 xs.length))∧∀ b off len,LH P t (.own b off len)=some (.int .i64 len)):LH P t v=some (.int .i64 ys.length):=by
 rcases ho with ⟨rfl,rfl⟩ | ⟨_,o,_,rfl,_⟩
 ·exact hl.1 _ _ _
 ·exact hl.2 _ _ _
def nm {α:Type} (ys:List α):SM:=match ys with
 | [] => .nil
 | _ => .any
theorem AMN (n:Nat) (h:Hp) (d b off len k:Nat) (xs:List (List AV)) (hn : ¬ b < n) (hb:h[b]? = some (.live k xs)):JH n h (d+1) (.own b off len)=if off+len≤xs.length∧(((xs.drop off).take len).map (·.map (JH n h d))).all (·.all AV.leaf)=true then .sl .any k (((xs.drop off).take len).map (·.map (JH n h d))) else .junk:=by
 rw [JH]
 simp only [hn,if_false,hb]
def Frz {α:Type} (f:α→List AV):Prop := ∀ (n:Nat) (h:Hp) (d:Nat) (x:α),(f x).map (JH n h (d+1))=f x∧(f x).all AV.leaf=true
theorem AML {α:Type} {f:α→List AV} (hf:Frz f) (n:Nat) (h:Hp) (d:Nat) (xs:List α):(xs.map f).map (·.map (JH n h (d+1)))=xs.map f:=by
 rw [List.map_map]
 exact List.map_congr_left fun x _=>(hf n h d x).1
theorem AIM {α:Type} {f:α→List AV} (hf:Frz f) {n d k:Nat} {h:Hp} {o:Nat} {xs:List α} (hn:n≤o) (ho:h[o]? = some (.live k (xs.map f))):JH n h (d+2) (.own o 0 xs.length) = .sl .any k (xs.map f):=by
 rw [AMN n h (d+1) o 0 xs.length k _ (by omega) ho,List.drop_zero,jY (by simp),AML hf n h d xs]
 rw [if_pos]
 refine ⟨by simp,?_⟩
 rw [List.all_eq_true]
 intro row hr
 obtain ⟨x,_,rfl⟩:=List.mem_map.1 hr
 exact (hf n h d x).2
theorem TM {E:Env} {f:FuncId} {args:List AV} {h:Hp} {α:Type} {k:Nat} {enc:α→List AV} (hf:Frz enc) {ys:List α} (hc:ACalls E f args h fun v H=>ext h H∧outG k enc h ys v H) (hX:E.nox=E:=by rfl):PCall E f args h (.sl (nm ys) k (ys.map enc)):=by
 have h1:PCall E f args h (if ys.length=0 then AV.sl .nil 0 [] else .sl .any k (ys.map enc)):=by
  refine ACalls.pure 2 hc ?_ hX
  rintro v H ⟨hex,hout⟩
  refine ⟨hex,?_⟩
  rcases hout with ⟨rfl,rfl⟩ | ⟨hne,o,ho1,rfl,ho⟩
  ·rfl
  ·rw [if_neg (by simpa using hne)]; exact AIM hf ho1 ho
 refine ACalls.conv h1 ?_
 rintro v H ⟨rfl,rfl⟩
 refine ⟨_,⟨rfl,rfl⟩,?_⟩
 intro g cv hr
 cases ys with
 | nil=>exact ALY hr
 | cons y ys=>exact hr
end Go.Proofs.YtokehnfjjmpanaaGreatDoor.Cov
set_option linter.unusedSimpArgs false
set_option maxRecDepth 8000
namespace Go.Proofs.YtokehnfjjmpanaaGreatDoor.Xe
open Sm Bins Cov Wd Go.RowKit
theorem LX (h:Hp) (x y:ABlk):(h ++ [x]).set h.length y=h ++ [y]:=by simp
theorem XP {P:Program} {H:Hp} {t b k j:Nat} {row cs:List AV} {v:AV} (hc:IM v=some cs) (hs:szO P t=some cs.length) (hb:H[b]? = some (.live k [row])) (hl:j+cs.length≤row.length):FT P H t (.ptr b 0 j) v=some (H.set b (.live k [splice row j cs])):=by
 rw [JA (i:=0) hc hs hb rfl hl]; rfl
theorem WC {P:Program} {t:TypeId} {a b:ByteArray} (h:a.size+b.size≤9223372036854775807):G6 P t .add (.str a) (.str b)=some (.str (a ++ b)):=by
 show ANR .add a b=_
 unfold ANR
 have:((a.size+b.size:Nat):Int)≤IntKind.i64.max:=by
  show _≤(9223372036854775807:Int)
  omega
 simp only [if_pos this]
section
variable (G:Nat→AV)
def elN (a:ByteArray) (i:Nat):ByteArray:=a ++ (⟨#[91]⟩:ByteArray) ++ (⟨#[UInt8.ofNat (48+i)]⟩:ByteArray) ++ (⟨#[93]⟩:ByteArray)
theorem AM3 : ∀ i:Nat,i < 8→RJ Tryz.prog 181 9 (.sl .full 1 [[.int .u8 (IntKind.u8.wrap (IntKind.i64.wrap (48+(i:Int))))]])=some (.str ⟨#[UInt8.ofNat (48+i)]⟩)
 | 0,_=>by kernel_rfl
 | 1,_=>by kernel_rfl
 | 2,_=>by kernel_rfl
 | 3,_=>by kernel_rfl
 | 4,_=>by kernel_rfl
 | 5,_=>by kernel_rfl
 | 6,_=>by kernel_rfl
 | 7,_=>by kernel_rfl
 | n+8,h=>absurd h (by omega)
theorem AUN (h:Hp) (v:Int):FM Tryz.prog false h 181 1 [(0,.int .u8 v)]=some (.sl .full 1 [[.int .u8 v]],h):=by kernel_rfl
theorem AC5 (a b:ByteArray):(a ++ b).size=a.size+b.size:=ByteArray.size_append
end
end Go.Proofs.YtokehnfjjmpanaaGreatDoor.Xe
set_option linter.unusedSimpArgs false
set_option maxRecDepth 8000
namespace Go.Proofs.YtokehnfjjmpanaaGreatDoor.Cov
open Sm Bins Go.RowKit
theorem MG {E:Env} {f:FuncId} {args:List AV} {h:Hp} {r:AV} (d:Nat) (hr : ∀ n H,JH n H d r=r) (hc:ACalls E f args h fun v H=>v=r∧ext h H) (hX:E.nox=E:=by rfl):PCall E f args h r :=
 ACalls.pure d hc (fun v H ⟨e,he⟩=>⟨he,by rw [e]; exact hr _ _⟩) hX
theorem FX {h H:Hp} {b:Nat} {x:ABlk} (he:ext h H) (hb:h[b]? = some x):H[b]? = some x:=by
 obtain ⟨y,rfl⟩:=he
 rw [List.getElem?_append_left (CB hb)]; exact hb
theorem AWT (h:Hp) (v:Int):FM Tryz.prog false h 45 1 [(0,.int .i64 v)]=some (.sl .full 1 [[.int .i64 v]],h):=by kernel_rfl
theorem encI0 (n:Int):(qencI n)[0]? = some (.int .i64 n):=rfl
end Go.Proofs.YtokehnfjjmpanaaGreatDoor.Cov
namespace Go.Proofs.YtokehnfjjmpanaaGreatDoor.Rk
open Sm Bins Cov Go.RowKit
open Bool renaming not_false→jC
open List renaming length_map→jM
open Nat renaming le_of_ble_eq_true→jH,reduceEqDiff→jA
open Option renaming getD_some→jB
def hasB (xs:List Int) (z:Int):Bool:=xs.any fun x=>x == z
theorem AGZ (G:Nat→AV) (xs:List Int) (s:SM) (z:Int) (h:Hp) (hn:xs.length≤1048576) : ∃ k:Int,PCall (En G) 208 [.sl s 1 (xs.map qencI),.int .i64 z] h (.int .i64 k)∧decide (k≥0)=hasB xs z:=by
 by_cases hb:hasB xs z=true
 ·obtain ⟨i,hi⟩ : ∃ i,xs.findIdx? (fun x=>x == z)=some i:=by
   cases he:xs.findIdx? (fun x=>x == z) with
   | some i=>exact ⟨i,rfl⟩
   | none =>
     rw [List.findIdx?_eq_none_iff] at he
     unfold hasB at hb
     rw [List.any_eq_true] at hb
     obtain ⟨x,hx,hz⟩:=hb
     rw [he x hx] at hz; cases hz
  refine ⟨(i:Int),?_,by rw [hb]; simp⟩
  obtain ⟨hil,hiz,hbef⟩:=List.findIdx?_eq_some_iff_getElem.1 hi
  refine acN Tryz.func208 rfl ?_
  show awp _ _ _ _ _ (EH _ [.tmp 4] _)
  simp -implicitDefEqProofs only [BB,CJ,A8,A7,AZ,BA,AC,AQ,AO,BD,AX,AL,AA,AY,AU,BH,BI,BC,FH,AB,BF,↓reduceIte,jA,jB,jC,enX,enP,AJ0,jM]
  refine D8 (fun n F H => ∃ k,n+k=xs.length∧k≤i∧F 0 = .sl s 1 (xs.map qencI)∧F 1 = .int .i64 z∧F 7 = .int .i64 (xs.length:Nat)∧F 8 = .int .i64 (k:Nat)∧H=h) xs.length ⟨0,by simp,by omega,by simp -implicitDefEqProofs only [AA,BF,↓reduceIte,jA],by simp -implicitDefEqProofs only [AA,BF,CE,↓reduceIte,jA],by simp -implicitDefEqProofs only [AA,↓reduceIte,jA],by simp -implicitDefEqProofs only [AA,↓reduceIte]; rfl,rfl⟩ ?_
  rintro n F H ⟨k,hk,hki,f0,f1,f7,f8,rfl⟩
  have hk':k < xs.length:=by omega
  have hd:decide (((k:Nat):Int) < ((xs.length:Nat):Int))=true:=by simp; omega
  simp -implicitDefEqProofs only [BB,CJ,A8,BQ,BJ,A7,DY,AZ,BA,AC,AQ,AO,BD,AX,AL,AA,AY,BI,BC,BN,BR,CU,AB,DW,DF,↓reduceIte,jA,jB,jC,enP,AGW,f7,f8,hd,f0,f1,EJ hk',GR ag3 hk',Cov.encI0]
  rcases Nat.eq_or_lt_of_le hki with e | hlt
  ·subst e
   have hzz:(z == xs[k])=true:=by rw [BEq.comm]; exact hiz
   simp -implicitDefEqProofs only [BB,A8,BK,A7,CQ,D5,FV,CW,DY,AZ,BA,AC,AQ,AO,BD,AX,AL,AA,AY,BI,BC,↓reduceIte,jA,jB,jC,hzz,f8]
   exact ⟨trivial,trivial⟩
  ·have hzz:(z == xs[k])=false:=by
    have:=hbef k hlt
    rw [BEq.comm]; simpa using this
   simp -implicitDefEqProofs only [A8,BQ,A7,EO,FK,EC,AZ,BA,AC,AQ,AO,BD,AX,AL,AA,AY,AU,BH,BI,BR,AB,DZ,↓reduceIte,jA,jB,jC,enP,hzz,f8,wrap_succ (show k < 9223372036854775807 by omega)]
   exact ⟨n - 1,by omega,k+1,by omega,by omega,by trivial,by trivial,by trivial,rfl,trivial⟩
 ·have hb':hasB xs z=false:=by simpa using hb
  refine ⟨-1,?_,by rw [hb']; decide⟩
  refine acN Tryz.func208 rfl ?_
  show awp _ _ _ _ _ (EH _ [.tmp 4] _)
  simp -implicitDefEqProofs only [BB,CJ,A8,A7,AZ,BA,AC,AQ,AO,BD,AX,AL,AA,AY,AU,BH,BI,BC,FH,AB,BF,↓reduceIte,jA,jB,jC,enX,enP,AJ0,jM]
  refine D8 (fun n F H => ∃ k,n+k=xs.length∧F 0 = .sl s 1 (xs.map qencI)∧F 1 = .int .i64 z∧F 7 = .int .i64 (xs.length:Nat)∧F 8 = .int .i64 (k:Nat)∧H=h) xs.length ⟨0,by simp,by simp -implicitDefEqProofs only [AA,BF,↓reduceIte,jA],by simp -implicitDefEqProofs only [AA,BF,CE,↓reduceIte,jA],by simp -implicitDefEqProofs only [AA,↓reduceIte,jA],by simp -implicitDefEqProofs only [AA,↓reduceIte]; rfl,rfl⟩ ?_
  rintro n F H ⟨k,hk,f0,f1,f7,f8,rfl⟩
  simp -implicitDefEqProofs only [BB,A8,BJ,A7,AZ,BA,AC,AQ,AO,BD,AX,AL,AA,AY,BR,AB,DF,↓reduceIte,jB,jC,enP,f7,f8]
  refine CS (fun hc => ?_) (fun hc => ?_)
  ·have hk':k < xs.length:=by simpa using hc
   have hzz:(z == xs[k])=false:=by
    rw [← Bool.not_eq_true]; intro e
    unfold hasB at hb'
    rw [List.any_eq_false] at hb'
    exact hb' xs[k] (List.getElem_mem hk') (by rw [BEq.comm]; exact e)
   simp -implicitDefEqProofs only [BB,CJ,A8,BQ,BJ,A7,EO,FK,EC,AZ,BA,AC,AQ,AO,BD,AX,AL,AA,AY,AU,BH,BI,BC,BN,BR,CU,AB,DZ,DW,↓reduceIte,jA,jB,jC,enP,AGW,f0,f1,f8,EJ hk',GR ag3 hk',Cov.encI0,hzz,wrap_succ (show k < 9223372036854775807 by omega)]
   exact ⟨n - 1,by omega,k+1,by omega,by trivial,by trivial,f7,rfl,trivial⟩
  ·simp -implicitDefEqProofs only [BB,A8,BK,D6,A7,E5,FY,GG,CW,AZ,BA,AC,AQ,AO,BD,AX,AL,AA,AU,BH,BC,↓reduceIte,jB,jC]
   exact ⟨trivial,trivial⟩
theorem contains_rank (G:Nat→AV) (xs:List Int) (s:SM) (z:Int) (h:Hp) (hn:xs.length≤1048576):PCall (En G) 194 [.sl s 1 (xs.map qencI),.int .i64 z] h (.bool (hasB xs z)):=by
 obtain ⟨k,hk,hd⟩:=AGZ G xs s z h hn
 refine acN Tryz.func194 rfl ?_
 show awp _ _ _ _ _ (EH _ [.tmp 4] _)
 simp -implicitDefEqProofs only [BB,A8,A7,AZ,BA,AC,AQ,AO,BD,AX,AL,AA,AY,AU,BO,BM,BI,BC,BX,BP,BF,CE,List.map_cons,List.map_nil,List.append_nil,↓reduceIte,jA,jB,jC,enX,enP]
 refine hk.use ?_
 simp -implicitDefEqProofs only [BK,A7,CW,AZ,BA,AC,AQ,AO,BD,AX,AL,AA,AY,AU,BH,BC,BR,AB,FQ,↓reduceIte,jB,jC,enP,hd]
 exact ⟨trivial,trivial⟩
end Go.Proofs.YtokehnfjjmpanaaGreatDoor.Rk
set_option linter.unusedSimpArgs false
set_option maxRecDepth 8000
namespace Go.Proofs.YtokehnfjjmpanaaGreatDoor.Xe
open Sm Bins Cov Wd Go.RowKit
def AVH (op:Int) (n:Nat):Prop:=(op=22→n=3)∧(op=23→n % 2=1∧3≤n)∧(op≠22→op≠23→n=1∨n=2)
end Go.Proofs.YtokehnfjjmpanaaGreatDoor.Xe
set_option linter.unusedSimpArgs false
set_option maxRecDepth 8000
namespace Go.Proofs.YtokehnfjjmpanaaGreatDoor.Xe
open Sm Bins Cov Go.RowKit
open Bool renaming not_false→jC,not_true→jX
open List renaming getElem_mem→jS,map_cons→jF,map_nil→jD,append_nil→jE,getElem?_set→jW,getElem?_eq_getElem→jV,nil_append→zA,cons_append→zN,length_append→zQ
open Nat renaming le_of_ble_eq_true→jH,reduceEqDiff→jA,zero_add→jG
open Option renaming getD_some→jB,getD_none→jJ
theorem AR9:Frz encStr:=fun _ _ _ _=>⟨rfl,rfl⟩
theorem AJ6 (G:Nat→AV) (xs:List ByteArray) (b:Nat) (v:ByteArray) (h:Hp) (hb:h[b]? = some (.live 1 (xs.map encStr))) (hl:xs.length≤1099511627776) :
  ∃ k:Int,PCall (En G) 209 [.own b 0 xs.length,.str v] h (.int .i64 k)∧decide (k≥0)=KP xs v:=by
 have key : ∀ r:Int,(∀ i (hi:i < xs.length),(∀ j (hj:j < i),(v.toList == xs[j].toList)=false)→(v.toList == xs[i].toList)=true→r=(i:Int))→(KP xs v=false→r = -1)→PCall (En G) 209 [.own b 0 xs.length,.str v] h (.int .i64 r):=by
  intro r hr hr0
  refine acN Tryz.func209 rfl ?_
  show awp _ _ _ _ _ (EH _ [.tmp 4] _)
  simp -implicitDefEqProofs only [BB,CJ,A8,A7,AZ,BA,AC,AQ,AO,BD,AX,AL,AA,AY,AU,BH,BI,BC,FH,AB,BF,↓reduceIte,jA,jB,jC,enX,enP,XR]
  refine D8 (fun n F H => ∃ k,n+k=xs.length∧F 0 = .own b 0 xs.length∧F 1 = .str v∧F 7 = .int .i64 (xs.length:Nat)∧F 8 = .int .i64 (k:Nat)∧H=h∧(∀ j (hj:j < xs.length),j < k→(v.toList == xs[j].toList)=false)∧KP xs v=KP (xs.drop k) v) xs.length ⟨0,by simp,by simp -implicitDefEqProofs only [AA,BF,↓reduceIte,jA],by simp -implicitDefEqProofs only [AA,BF,CE,↓reduceIte,jA],by simp -implicitDefEqProofs only [AA,↓reduceIte,jA],by simp -implicitDefEqProofs only [AA,↓reduceIte]; rfl,rfl,fun j _ hj=>by omega,rfl⟩ ?_
  rintro n F H ⟨k,hk,f0,f1,f7,f8,rfl,hbef,hin⟩
  simp -implicitDefEqProofs only [BB,A8,BJ,A7,AZ,BA,AC,AQ,AO,BD,AX,AL,AA,AY,BR,AB,DF,↓reduceIte,jB,jC,enP,f7,f8]
  refine CS (fun hc => ?_) (fun hc => ?_)
  ·have hk':k < xs.length:=by simpa using hc
   have hs:KP (xs.drop k) v=((v.toList == xs[k].toList) || KP (xs.drop (k+1)) v):=AAI _ xs k hk'
   have l1:DI Tryz.prog H 9 (.ptr b k 0)=some (.str xs[k]):=by rw [DC ag9 hb (row:=encStr xs[k]) (AIA hk')]; rfl
   simp -implicitDefEqProofs only [BB,CJ,A8,BQ,BJ,A7,AZ,BA,AC,AQ,AO,BD,AX,AL,AA,AY,BI,BC,BN,BR,CU,AB,KW,↓reduceIte,jA,jG,jB,jC,enP,AEO,f0,f1,f8,KD hb hk',l1]
   refine CS (fun hx => ?_) (fun hx => ?_)
   ·simp -implicitDefEqProofs only [BB,A8,BK,A7,CQ,D5,FV,CW,AZ,BA,AC,AQ,AO,BD,AX,AL,AA,AY,BI,BC,↓reduceIte,jA,jB,jC]
    exact ⟨by rw [hr k hk' (fun j hj=>hbef j (by omega) hj) hx],trivial⟩
   ·simp -implicitDefEqProofs only [A8,BQ,A7,EO,FK,AZ,BA,AC,AQ,AO,BD,AX,AL,AA,AY,AU,BH,BI,BR,AB,DZ,↓reduceIte,jA,jB,jC,enP,f8,wrap_succ (show k < 9223372036854775807 by omega)]
    refine ⟨n - 1,by omega,k+1,by omega,by trivial,by trivial,by trivial,rfl,trivial,fun j hj hjk => ?_,by rw [hin,hs,hx,Bool.false_or]⟩
    rcases Nat.lt_or_ge j k with h1 | h1
    ·exact hbef j hj h1
    ·have:j=k:=by omega
     subst this; exact hx
  ·have hk' : ¬ k < xs.length:=by simpa using hc
   simp -implicitDefEqProofs only [BB,A8,BK,D6,A7,E5,FY,GG,CW,AZ,BA,AC,AQ,AO,BD,AX,AL,AA,AU,BH,BC,↓reduceIte,jB,jC]
   refine ⟨?_,trivial⟩
   rw [hr0 (by rw [hin,List.drop_eq_nil_of_le (by omega)]; rfl)]
 by_cases hh:KP xs v=true
 ·obtain ⟨i,hi⟩ : ∃ i,xs.findIdx? (fun u=>v.toList == u.toList)=some i:=by
   cases he:xs.findIdx? (fun u=>v.toList == u.toList) with
   | some i=>exact ⟨i,rfl⟩
   | none =>
     rw [List.findIdx?_eq_none_iff] at he
     unfold KP at hh
     rw [List.any_eq_true] at hh
     obtain ⟨x,hx,hz⟩:=hh
     rw [he x hx] at hz; cases hz
  obtain ⟨hil,hiz,hbef⟩:=List.findIdx?_eq_some_iff_getElem.1 hi
  refine ⟨(i:Int),key i (fun k hk hb' hx => ?_) (fun h0=>by rw [hh] at h0; cases h0),by rw [hh]; simp⟩
  rcases Nat.lt_trichotomy i k with h1 | h1 | h1
  ·have:=hb' i h1; rw [hiz] at this; cases this
  ·rw [h1]
  ·have:=hbef k h1; rw [hx] at this; simp at this
 ·have hh':KP xs v=false:=by simpa using hh
  refine ⟨-1,key (-1) (fun k hk _ hx => ?_) (fun _=>rfl),by rw [hh']; decide⟩
  unfold KP at hh'
  rw [List.any_eq_false] at hh'
  exact absurd hx (hh' xs[k] (jS hk))
theorem AJ7 (G:Nat→AV) (k:Nat) (v:ByteArray) (h:Hp):PCall (En G) 209 [.sl .nil k [],.str v] h (.int .i64 (-1)):=by
 refine acN Tryz.func209 rfl ?_
 show awp _ _ _ _ _ (EH _ [.tmp 4] _)
 simp -implicitDefEqProofs only [BB,CJ,A8,A7,AZ,BA,AC,AQ,AO,BD,AX,AL,AA,AY,AU,BH,BI,BC,FH,AB,BF,↓reduceIte,jA,jB,jC,enX,enP,XR,List.length_nil]
 refine D8 (fun n F H=>F 7 = .int .i64 0∧F 8 = .int .i64 0∧H=h) 0 ⟨by simp -implicitDefEqProofs only [AA,↓reduceIte,jA] <;> rfl,by simp -implicitDefEqProofs only [AA,↓reduceIte],rfl⟩ ?_
 rintro n F H ⟨f7,f8,rfl⟩
 have hc:((0:Int) < 0)=False:=by simp
 simp -implicitDefEqProofs only [BB,A8,BK,D6,BJ,A7,E5,FY,GG,CW,EC,AZ,BA,AC,AQ,AO,BD,AX,AL,AA,AY,AU,BH,BC,BR,AB,DF,↓reduceIte,jB,jC,decide_false,enP,f7,f8,hc,decide_false]
 exact ⟨by trivial,trivial⟩
theorem AUF (G:Nat→AV) {h0 h:Hp} {ns:List ByteArray} {u:AV} (ho:outG 1 encStr h0 ns u h) (v:ByteArray) (hl:ns.length≤8388608):PCall (En G) 195 [u,.str v] h (.bool (KP ns v)):=by
 have hi : ∃ k:Int,PCall (En G) 209 [u,.str v] h (.int .i64 k)∧decide (k≥0)=KP ns v:=by
  rcases ho with ⟨rfl,rfl⟩ | ⟨_,o,_,rfl,hb⟩
  ·exact ⟨-1,AJ7 G 0 v h,rfl⟩
  ·exact AJ6 G ns o v h hb (by omega)
 obtain ⟨k,hk,hd⟩:=hi
 refine acN Tryz.func195 rfl ?_
 show awp _ _ _ _ _ (EH _ [.tmp 4] _)
 simp -implicitDefEqProofs only [BB,A8,A7,AZ,BA,AC,AQ,AO,BD,AX,AL,AA,AY,AU,BO,BM,BI,BC,BX,BP,BF,CE,jF,jD,jE,↓reduceIte,jA,jB,jC,enX,enP]
 refine hk.use ?_
 simp -implicitDefEqProofs only [BK,A7,CW,AZ,BA,AC,AQ,AO,BD,AX,AL,AA,AY,AU,BH,BC,BR,AB,FQ,↓reduceIte,jB,jC,enP,hd]
 exact ⟨trivial,trivial⟩
def nmU (ops:List Int) (ns:List ByteArray) (e:Ex):List ByteArray:=if (Rk.hasB ops e.op && !KP ns e.name)=true then ns ++ [e.name] else ns
def nmL (ops:List Int) (ns:List ByteArray) (l:List Ex):List ByteArray:=l.foldl (nmU ops) ns
theorem AIF (ops:List Int) (ns:List ByteArray) (e:Ex):(nmU ops ns e).length≤ns.length+1:=by
 unfold nmU; split <;> simp
theorem ACB (ops:List Int) : ∀ (l:List Ex) (ns:List ByteArray),(nmL ops ns l).length≤ns.length+l.length
 | [],ns=>by simp [nmL]
 | e :: l,ns=>by
   have h1:=ACB ops l (nmU ops ns e)
   have h2:=AIF ops ns e
   simp only [nmL,List.foldl_cons,List.length_cons] at h1 ⊢
   omega
theorem AOU (ops:List Int) (ns:List ByteArray) (l r:List Ex):nmL ops ns (l ++ r)=nmL ops (nmL ops ns l) r:=List.foldl_append
structure NSt (h0:Hp) (c:Nat) (ns:List ByteArray) (v:AV) (h:Hp):Prop where
 cell:h[c]? = some (.live 1 [[v]])
 out:outG 1 encStr h0 ns v h
 base:h0.length≤c
 ex:ext h0 h
abbrev Cn (c:Nat) (v:AV) (h:Hp) (v':AV) (h':Hp):Prop:=Ch c v .nilfn h v' .nilfn h'
theorem NSt.ne {h0 h:Hp} {c b k:Nat} {ns:List ByteArray} {v:AV} {row:List AV} (s:NSt h0 c ns v h) (hb:h[b]? = some (.live k [row])) (hr:k≠1∨∀ x,row≠[.str x]) : ¬ isB v b:=by
 intro hi
 rcases s.out with ⟨_,rfl⟩ | ⟨hne,o,_,rfl,ho⟩
 ·exact hi
 ·have e:o=b:=hi
  subst e
  rw [ho] at hb
  injection Option.some.inj hb with e1 e2
  rcases hr with hr | hr
  ·exact hr e1.symm
  ·match ns,e2 with
   | [x],e2=>simp [encStr] at e2; exact hr x e2.symm
theorem NSt.app {h0 h:Hp} {c:Nat} {ns:List ByteArray} {v:AV} (s:NSt h0 c ns v h) (x:Hp):NSt h0 c ns v (h ++ x):=⟨Q5 s.cell,s.out.app x,s.base,s.ex.app x⟩
theorem NSt.cne {h0 h:Hp} {c:Nat} {ns:List ByteArray} {v:AV} (s:NSt h0 c ns v h) : ¬ isB v c:=by
 refine s.ne s.cell (.inr fun x e => ?_)
 rcases s.out with ⟨_,rfl⟩ | ⟨_,o,_,rfl,_⟩ <;> simp at e
theorem Cn.keep {c b:Nat} {h h':Hp} {v v':AV} {x:ABlk} (hc:Cn c v h v' h') (hb:h[b]? = some x) (hne:b≠c) (hn : ¬ isB v b):h'[b]? = some x:=by
 rw [hc.get b (CB hb) hne hn (fun e=>e)]; exact hb
theorem ADQ (G:Nat→AV) (ops:List Int) (hops:ops.length≤1048576) (h0:Hp) (c ob:Nat) (s0:SM) (e:Ex) (h:Hp) (ns:List ByteArray) (v:AV) (S:NSt h0 c ns v h) (hob:h[ob]? = some (.live 1 [[.sl s0 1 (ops.map qencI)]])) (hn:ns.length < 8388608) :
  ACalls (En G) 193 [.agg (CV e),.ptr ob 0 0,.ptr c 0 0] h fun r h'=>r = .bool true∧∃ v',Cn c v h v' h'∧NSt h0 c (nmU ops ns e) v' h':=by
 refine acN Tryz.func193 rfl ?_
 show awp _ _ _ _ _ (EH _ [.tmp 4] _)
 have S1:=S.app [ABlk.live 4 [CV e]]
 have hob1:(h ++ [ABlk.live 4 [CV e]])[ob]? = _:=CX hob
 have hC1:Cn c v h v (h ++ [ABlk.live 4 [CV e]]):=Ch.app c v .nilfn h _
 have ge:=C9 h (ABlk.live 4 [CV e])
 have hcl:=CB S.cell
 simp -implicitDefEqProofs only [BB,A8,A7,AZ,BA,AC,AQ,AO,BD,AX,AL,AA,AY,AU,BM,BC,FN,BN,BV,BF,CE,↓reduceIte,jA,jB,jC,enP,bxE]
 generalize h ++ [ABlk.live 4 [CV e]]=H at S1 hob1 hC1 ge ⊢
 have l0:DI Tryz.prog H 3 (.ptr h.length 0 0)=some (.int .i64 e.op):=by rw [DC ag3 ge (row:=CV e) rfl,I8]
 have l2:DI Tryz.prog H 9 (.ptr h.length 0 2)=some (.str e.name):=by rw [DC ag9 ge (row:=CV e) rfl,OH]
 simp -implicitDefEqProofs only [AZ,AC,AQ,AO,BD,AX,AL,AA,AY,BO,BN,BG,BX,BP,AB,jF,jD,jE,↓reduceIte,jA,Nat.add_zero,jB,jC,enP,G8,IB ASX hob1,l0]
 refine (Rk.contains_rank G ops s0 e.op H hops).use ?_
 simp -implicitDefEqProofs only [AZ,BL,BU,CO,AC,AQ,AO,BD,AX,AL,AA,AY,BI,↓reduceIte,jB,jC]
 have key : ∀ b1 b2:Bool,Rk.hasB ops e.op=b1→KP ns e.name=b2→(b1 && !b2)=false→nmU ops ns e=ns:=fun b1 b2 e1 e2 e3=>by
  unfold nmU; rw [e1,e2,e3]; simp
 cases hb1:Rk.hasB ops e.op
 ·simp -implicitDefEqProofs only [BB,A8,BQ,BK,BJ,A7,CW,EC,AZ,BA,BL,BU,CO,I4,AC,AQ,AO,BD,AX,AL,AA,EG,AY,AU,BM,BC,CP,DN,↓reduceIte,jA,jB,jC]
  exact ⟨trivial,v,hC1,by rw [key _ _ hb1 rfl rfl]; exact S1⟩
 simp -implicitDefEqProofs only [BL,BU,CO,GH,AC,AQ,AO,BD,AX,AL,AA,AY,BO,BN,BG,BX,BP,AB,BF,CE,jF,jD,jE,↓reduceIte,jA,jG,jB,jC,enP,L9,IB ABY S1.cell,l2]
 refine (AUF G S1.out e.name (by omega)).use ?_
 simp -implicitDefEqProofs only [BJ,A7,AZ,BA,BL,BU,CO,GH,AC,AQ,AO,BD,AX,AL,AA,AY,AU,BM,CP,DL,I5,AB,FP,↓reduceIte,jA,jB,jC]
 cases hb2:KP ns e.name
 ·have hu:nmU ops ns e=ns ++ [e.name]:=by unfold nmU; rw [hb1,hb2]; rfl
  obtain ⟨v',H',ha,ho,hk,hex,hle,hnew⟩:=S1.out.append (P:=Tryz.prog) AK9 sz9 AKY ANA (by omega) hn S1.ex e.name
  have ha':IC Tryz.prog true H 120 120 v (.sl .full 1 [[.str e.name]])=some (v',H'):=ha
  have hc':=hk c _ S1.cell S1.cne
  have hcl2:=CB S1.cell
  have hac:IM v'=some [v']:=by
   rcases ho with ⟨_,rfl⟩ | ⟨_,o,_,rfl,_⟩ <;> rfl
  simp -implicitDefEqProofs only [EU,EN,BB,A8,BK,A7,CW,DY,AZ,BA,AC,AQ,AO,BD,AX,AL,DV,AA,AY,AU,BM,BC,F9,BN,CY,BG,MK,BV,AB,BZ,BF,CE,↓reduceIte,jA,jG,jB,jC,enP,L9,jJ,IB ABY S1.cell,l2,ANC,ha',QU ALF hac hc']
  refine ⟨trivial,v',hC1.trans ⟨by simpa using hle,fun b hb hbc hbv _ => ?_,fun b hb => .inr (by rw [hnew b hb]; exact Nat.le_refl _),fun b hb=>hb.elim⟩,?_⟩
  ·rw [jW,if_neg (fun e=>hbc e.symm),jV hb]
   exact hk b _ (jV hb) hbv
  ·rw [hu]
   exact ⟨G5 hc',ho.keep fun b hb=>by rw [jW,if_neg (fun e=>by have:=hnew b hb; omega)],S1.base,hex.set S1.base _⟩
 ·simp -implicitDefEqProofs only [BB,A8,BQ,BK,A7,CW,EC,AZ,BA,AC,AQ,AO,BD,AX,AL,AA,AU,BM,BC,↓reduceIte,jB,jX,jC]
  exact ⟨trivial,v,hC1,by rw [key _ _ hb1 hb2 rfl]; exact S1⟩
theorem ALX (ops:List Int) (ns:List ByteArray) (e:Ex):nmL ops ns (pre e)=nmL ops (nmU ops ns e) (IG e.args):=by rw [pre_eq]; rfl
theorem AG8 (G:Nat→AV) (ops:List Int) (hops:ops.length≤1048576) (h0:Hp) (c ob vb db:Nat) (s0:SM) (hv:vb≠c) (hd:db≠c) (hoc:ob≠c) (e:Ex) :
  wt e≤1099511627776→∀ (h:Hp) (ns:List ByteArray) (v:AV),NSt h0 c ns v h→h[ob]? = some (.live 1 [[.sl s0 1 (ops.map qencI)]])→ns.length+(pre e).length≤8388608 →
   h[vb]? = some (.live 1 [[.fn (.func 193) [] [.ptr ob 0 0,.ptr c 0 0]]])→h[db]? = some (.live 1 [[.fn (.func 130) [] [.ptr vb 0 0,.ptr db 0 0]]]) →
   ACalls (En G) 130 [.agg (CV e),.ptr vb 0 0,.ptr db 0 0] h fun r h'=>r = .bool true∧∃ v',Cn c v h v' h'∧NSt h0 c (nmL ops ns (pre e)) v' h':=by
 induction e using Ex.induct with | h e ih => ?_
 intro hw h ns v S hob hlen hvb hdb
 have hcl:=CB S.cell
 have hal:e.args.length≤1099511627776:=by have:=VH e.args; have:=OG e; omega
 have hpe:(pre e).length=(IG e.args).length+1:=by rw [pre_eq]; rfl
 have hfn : ∀ (k:FuncId) (a b:List AV) (x:ByteArray),[AV.fn (.func k) a b]≠[.str x]:=fun _ _ _ _ q=>by simp at q
 have hsl : ∀ (xs:List (List AV)) (x:ByteArray),[AV.sl s0 1 xs]≠[.str x]:=fun _ _ q=>by simp at q
 refine acN Tryz.func130 rfl ?_
 show awp _ _ _ _ _ (EH _ [.tmp 4] _)
 have S0:=S.app [ABlk.live 4 [CV e]]
 simp -implicitDefEqProofs only [BB,A8,A7,AZ,BA,AC,AQ,AO,BD,AX,AL,AA,AY,AU,BM,BC,FN,BN,BX,BP,BV,AB,BF,CE,jF,jD,zA,zN,↓reduceIte,jA,jB,jC,enP,bxE,IB ABZ (CX hvb),ldE]
 refine (ADQ G ops hops h0 c ob s0 e _ ns v S0 (CX hob) (by omega)).mono ?_
 rintro r h1 ⟨rfl,v1,hch,S1⟩
 have hch0:Cn c v h v1 h1:=(Ch.app c v .nilfn h _).trans hch
 have hb3:h1[h.length]? = some (.live 4 [CV e]):=hch.keep (C9 _ _) (by omega) (S0.ne (C9 _ _) (.inl (by decide)))
 have hvb1:=hch0.keep hvb hv (S.ne hvb (.inr (hfn _ _ _)))
 have hdb1:=hch0.keep hdb hd (S.ne hdb (.inr (hfn _ _ _)))
 have hob1:=hch0.keep hob hoc (S.ne hob (.inr (hsl _)))
 have l3:DI Tryz.prog h1 23 (.ptr h.length 0 3)=some (.sl e.m 4 (e.args.map CV)):=by rw [DC QP hb3 (row:=CV e) rfl,RH]
 have hn1:=AIF ops ns e
 simp -implicitDefEqProofs only [BB,CJ,A8,BQ,BJ,A7,EC,AZ,BA,AC,AQ,AO,BD,AX,AL,AA,AY,AU,BH,BI,BN,I5,BG,FH,AB,FP,↓reduceIte,jA,jG,jB,jX,jC,enP,TZ,JQ,l3,List.length_map]
 refine D8 (fun n F H => ∃ j v',n+j=e.args.length∧F 1 = .ptr vb 0 0∧F 2 = .ptr db 0 0∧F 12 = .sl e.m 4 (e.args.map CV)∧F 13 = .int .i64 e.args.length∧F 14 = .int .i64 (j:Nat)∧Cn c v h v' H∧NSt h0 c (nmL ops (nmU ops ns e) (IG (e.args.take j))) v' H∧H[vb]? = some (.live 1 [[.fn (.func 193) [] [.ptr ob 0 0,.ptr c 0 0]]])∧H[db]? = some (.live 1 [[.fn (.func 130) [] [.ptr vb 0 0,.ptr db 0 0]]])∧H[ob]? = some (.live 1 [[.sl s0 1 (ops.map qencI)]])) e.args.length
  ⟨0,v1,by simp,by simp -implicitDefEqProofs only [AA,BF,CE,↓reduceIte,jA],by simp -implicitDefEqProofs only [AA,BF,CE,↓reduceIte,jA],by simp -implicitDefEqProofs only [AA,↓reduceIte,jA],by simp -implicitDefEqProofs only [AA,↓reduceIte,jA],by simp -implicitDefEqProofs only [AA,↓reduceIte]; rfl,hch0,S1,hvb1,hdb1,hob1⟩ ?_
 rintro n F H ⟨j,v',hj,f1,f2,f12,f13,f14,hC,SH,hvH,hdH,hoH⟩
 simp -implicitDefEqProofs only [BB,A8,BJ,A7,AZ,BA,AC,AQ,AO,BD,AX,AL,AA,AY,BR,AB,DF,↓reduceIte,jB,jC,enP,f13,f14]
 refine CS (fun hlt => ?_) (fun hlt => ?_)
 ·have hj':j < e.args.length:=by simpa using hlt
  have hmem:e.args[j]∈e.args:=jS hj'
  have hsplit:IG e.args=IG (e.args.take j) ++ (pre e.args[j] ++ IG (e.args.drop (j+1))):=by
   rw [← List.append_assoc,← KA _ _ hj',← MH,List.take_append_drop]
  have hln:=ACB ops (IG (e.args.take j)) (nmU ops ns e)
  have hls:(IG e.args).length=(IG (e.args.take j)).length+((pre e.args[j]).length+(IG (e.args.drop (j+1))).length):=by rw [hsplit,zQ,zQ]
  simp -implicitDefEqProofs only [BB,CJ,A8,BQ,A7,AZ,BA,AC,AQ,AO,BD,AX,AL,DV,AA,AY,EX,BN,CY,CU,BX,BP,BV,AB,BZ,jF,jD,zA,zN,↓reduceIte,jA,jB,jC,enP,QC,jJ,f12,f14,EJ hj',EM MC JU ER hj',AFU,AGA _ _ [.int .i64 0,.int .i64 0,.str ⟨#[]⟩,.sl .nil 0 []] rfl,f2,IB ABZ (CX hdH),ldE]
  have SH1:=SH.app [ABlk.live 4 [CV e.args[j]]]
  refine (ih e.args[j] hmem (by have:=TD hmem; have:=OG e; omega) _ _ v' SH1 (CX hoH) (by omega) (CX hvH) (CX hdH)).mono ?_
  rintro r h2 ⟨rfl,v2,hch2,S2⟩
  have hch2':Cn c v' H v2 h2:=(Ch.app c v' .nilfn H _).trans hch2
  have hvH2:=hch2'.keep hvH hv (SH.ne hvH (.inr (hfn _ _ _)))
  have hdH2:=hch2'.keep hdH hd (SH.ne hdH (.inr (hfn _ _ _)))
  have hoH2:=hch2'.keep hoH hoc (SH.ne hoH (.inr (hsl _)))
  simp -implicitDefEqProofs only [A8,BQ,BJ,A7,EO,FK,EC,AZ,BA,AC,AQ,AO,BD,AX,AL,AA,AY,AU,BH,BI,BR,I5,AB,DZ,FP,↓reduceIte,jA,jB,jX,jC,enP,f1,f2,f12,f13,f14,wrap_succ (show j < 9223372036854775807 by omega)]
  refine ⟨n - 1,by omega,j+1,v2,by omega,trivial,trivial,trivial,trivial,rfl,hC.trans hch2',?_,hvH2,hdH2,hoH2⟩
  rw [KA _ _ hj',AOU]; exact S2
 ·have hj' : ¬ j < e.args.length:=by simpa using hlt
  simp -implicitDefEqProofs only [BB,A8,BK,D6,A7,E5,FY,GG,CW,AZ,BA,AC,AQ,AO,BD,AX,AL,AA,AU,BM,BC,↓reduceIte,jB,jC]
  rw [List.take_of_length_le (by omega),← ALX] at SH
  exact ⟨trivial,v',hC,SH⟩
theorem AF7 (G:Nat→AV) (ops:List Int) (hops:ops.length≤1048576) (h0:Hp) (c ob:Nat) (s0:SM) (hoc:ob≠c) (e:Ex) (hw:wt e≤1048576) (h:Hp) (ns:List ByteArray) (v:AV) (S:NSt h0 c ns v h) (hob:h[ob]? = some (.live 1 [[.sl s0 1 (ops.map qencI)]])) (hn:ns.length≤1048576) :
  ACalls (En G) 87 [.agg (CV e),.fn (.func 193) [] [.ptr ob 0 0,.ptr c 0 0]] h fun _ h' => ∃ v',Cn c v h v' h'∧NSt h0 c (nmL ops ns (pre e)) v' h':=by
 have hcl:=CB S.cell
 have hol:=CB hob
 refine acN Tryz.func87 rfl ?_
 show awp _ _ _ _ _ (EH _ [] _)
 generalize hfv:AV.fn (.func 193) [] [.ptr ob 0 0,.ptr c 0 0]=fv
 have hbx : ∀ H:Hp,OE H fv=some (.ptr H.length 0 0,H ++ [.live 1 [[fv]]]):=fun H=>by rw [← hfv]; rfl
 simp -implicitDefEqProofs only [BB,A8,A7,AZ,BA,AC,AQ,AO,BD,AX,AL,AA,AY,EX,FN,CY,IX,BV,BF,CE,jF,jD,↓reduceIte,jA,jB,jC,enP,jJ,bxE,hbx,AQ4]
 have g0:(h ++ [ABlk.live 4 [CV e]] ++ [ABlk.live 1 [[fv]]] ++ [ABlk.live 1 [[AV.nilfn]]])[(h ++ [ABlk.live 4 [CV e]] ++ [ABlk.live 1 [[fv]]]).length]? = some (.live 1 [[.nilfn]]):=C9 _ _
 simp -implicitDefEqProofs only [A8,A7,AZ,BA,AC,AQ,AO,BD,AX,DV,AA,AY,BN,BZ,↓reduceIte,jA,jB,jC,enP,QU AQN (AQ5 _ _ _) g0]
 have S3:=((S.app [ABlk.live 4 [CV e]]).app [ABlk.live 1 [[fv]]]).app [ABlk.live 1 [[AV.nilfn]]]
 have c3:Cn c v h v (h ++ [ABlk.live 4 [CV e]] ++ [ABlk.live 1 [[fv]]] ++ [ABlk.live 1 [[AV.nilfn]]]):=((Ch.app c v .nilfn h _).trans (Ch.app _ _ _ _ _)).trans (Ch.app _ _ _ _ _)
 have v3:(h ++ [ABlk.live 4 [CV e]] ++ [ABlk.live 1 [[fv]]] ++ [ABlk.live 1 [[AV.nilfn]]])[(h ++ [ABlk.live 4 [CV e]]).length]? = some (.live 1 [[fv]]):=CX (C9 _ _)
 have e3:(h ++ [ABlk.live 4 [CV e]] ++ [ABlk.live 1 [[fv]]] ++ [ABlk.live 1 [[AV.nilfn]]])[h.length]? = some (.live 4 [CV e]):=CX (CX (C9 _ _))
 have o3:(h ++ [ABlk.live 4 [CV e]] ++ [ABlk.live 1 [[fv]]] ++ [ABlk.live 1 [[AV.nilfn]]])[ob]? = some (.live 1 [[.sl s0 1 (ops.map qencI)]]):=CX (CX (CX hob))
 have hdl:(h ++ [ABlk.live 4 [CV e]] ++ [ABlk.live 1 [[fv]]]).length=h.length+2:=by simp
 have hvl:(h ++ [ABlk.live 4 [CV e]]).length=h.length+1:=by simp
 generalize (h ++ [ABlk.live 4 [CV e]] ++ [ABlk.live 1 [[fv]]]).length=db at g0 hdl ⊢
 generalize (h ++ [ABlk.live 4 [CV e]]).length=vb at v3 hvl ⊢
 generalize h ++ [ABlk.live 4 [CV e]] ++ [ABlk.live 1 [[fv]]] ++ [ABlk.live 1 [[AV.nilfn]]]=H at g0 S3 c3 v3 e3 o3 ⊢
 have hdn : ¬ isB v db:=S3.ne g0 (.inr fun x q=>by simp at q)
 generalize hH:H.set db (.live 1 [[AV.fn (.func 130) [] [.ptr vb 0 0,.ptr db 0 0]]])=H'
 have gd:H'[db]? = some (.live 1 [[.fn (.func 130) [] [.ptr vb 0 0,.ptr db 0 0]]]):=by rw [← hH]; exact G5 g0
 have gv:H'[vb]? = some (.live 1 [[fv]]):=by rw [← hH]; exact KQ v3 (by omega)
 have ge:H'[h.length]? = some (.live 4 [CV e]):=by rw [← hH]; exact KQ e3 (by omega)
 have go:H'[ob]? = some (.live 1 [[.sl s0 1 (ops.map qencI)]]):=by rw [← hH]; exact KQ o3 (by omega)
 have hb0:=S.ex.le
 have S4:NSt h0 c ns v H':=by
  rw [← hH]
  exact ⟨KQ S3.cell (by omega),S3.out.keep fun b hb=>by rw [jW,if_neg (fun q=>hdn (by rw [q]; exact hb))],S3.base,S3.ex.set (by omega) _⟩
 have c4:Cn c v h v H':=by
  rw [← hH]
  exact ⟨by have:=c3.len; simpa using this,fun b hb hbc hbv hbu=>by rw [jW,if_neg (by omega)]; exact c3.get b hb hbc hbv hbu,fun _ q => .inl q,fun _ q => .inl q⟩
 simp -implicitDefEqProofs only [AZ,AC,AQ,AO,BD,AX,AL,AA,AY,BN,BX,BP,AB,jF,jD,zA,zN,↓reduceIte,jA,jB,jC,enP,IB ABZ gd,IU ge]
 rw [← hfv] at gv
 have hp:=U0 e
 refine (AG8 G ops hops h0 c ob vb db s0 (by omega) (by omega) hoc e (by omega) H' ns v S4 go (by omega) gv gd).mono ?_
 rintro r h' ⟨rfl,v',hch,S5⟩
 simp -implicitDefEqProofs only [I7,BA,AL]
 exact ⟨v',c4.trans hch,S5⟩
theorem AVB (h:Hp):JF Tryz.prog h 120=some (.ptr h.length 0 0,h ++ [.live 1 [[.sl .nil 0 []]]]):=JP (row := [.sl .nil 0 []]) (by kernel_rfl)
theorem Y9 (G:Nat→AV) (ops:List Int) (hops:ops.length≤1048576) (s0:SM) (e:Ex) (hw:wt e≤1048576) (h:Hp):PCall (En G) 161 [.agg (CV e),.sl s0 1 (ops.map qencI)] h (.sl (nm (nmL ops [] (pre e))) 1 ((nmL ops [] (pre e)).map encStr)):=by
 refine TM AR9 ?_
 refine acN Tryz.func161 rfl ?_
 show awp _ _ _ _ _ (EH _ [.tmp 4] _)
 have ge:=CX (x:=ABlk.live 1 [[.sl .nil 0 []]]) (CX (x:=ABlk.live 1 [[AV.sl s0 1 (ops.map qencI)]]) (C9 h (.live 4 [CV e])))
 have go:=CX (x:=ABlk.live 1 [[.sl .nil 0 []]]) (C9 (h ++ [ABlk.live 4 [CV e]]) (ABlk.live 1 [[AV.sl s0 1 (ops.map qencI)]]))
 have gc:=C9 (h ++ [ABlk.live 4 [CV e]] ++ [ABlk.live 1 [[AV.sl s0 1 (ops.map qencI)]]]) (ABlk.live 1 [[.sl .nil 0 []]])
 have hx:ext h (h ++ [ABlk.live 4 [CV e]] ++ [ABlk.live 1 [[AV.sl s0 1 (ops.map qencI)]]] ++ [ABlk.live 1 [[.sl .nil 0 []]]]):=(((ext.rfl' h).app _).app _).app _
 have hol:(h ++ [ABlk.live 4 [CV e]]).length=h.length+1:=by simp
 have hcl:(h ++ [ABlk.live 4 [CV e]] ++ [ABlk.live 1 [[AV.sl s0 1 (ops.map qencI)]]]).length=h.length+2:=by simp
 simp -implicitDefEqProofs only [AHH,BB,A8,A7,AZ,BA,AC,AQ,AO,BD,AX,AL,AA,AY,AU,LG,BC,EX,FN,BN,BV,BF,CE,↓reduceIte,jA,jB,jC,enP,bxE,AVB]
 generalize h ++ [ABlk.live 4 [CV e]] ++ [ABlk.live 1 [[AV.sl s0 1 (ops.map qencI)]]] ++ [ABlk.live 1 [[.sl .nil 0 []]]]=H at ge go gc hx ⊢
 generalize (h ++ [ABlk.live 4 [CV e]] ++ [ABlk.live 1 [[AV.sl s0 1 (ops.map qencI)]]]).length=c at gc hcl ⊢
 generalize (h ++ [ABlk.live 4 [CV e]]).length=ob at go hol ⊢
 simp -implicitDefEqProofs only [AZ,AC,AQ,AO,BD,AX,AL,AA,AY,BO,IX,BX,BP,AB,jF,jD,jE,↓reduceIte,jA,jB,jC,IU ge]
 have S:NSt h c [] (.sl .nil 0 []) H:=⟨gc,outG.nil _ _ _ _,by omega,hx⟩
 refine (AF7 G ops hops h c ob s0 (by omega) e hw H [] _ S go (by simp)).mono ?_
 rintro r h' ⟨v',hch,S5⟩
 simp -implicitDefEqProofs only [BB,A8,BK,A7,CW,AZ,BA,AC,AQ,AO,BD,AX,AL,AA,AY,BC,BN,AB,↓reduceIte,jA,jB,jC,enP,IB ABY S5.cell]
 exact ⟨S5.ex,S5.out⟩
theorem AUL (h:Hp) (a b:Int):FM Tryz.prog false h 45 2 [(0,.int .i64 a),(1,.int .i64 b)]=some (.sl .full 1 [[.int .i64 a],[.int .i64 b]],h):=by kernel_rfl
theorem AHS (G:Nat→AV) (e:Ex) (hw:wt e≤1048576) (h:Hp):PCall (En G) 111 [.agg (CV e)] h (.sl (nm (nmL [2] [] (pre e))) 1 ((nmL [2] [] (pre e)).map encStr)):=by
 refine ACalls.pure0 rfl ?_
 refine acN Tryz.func111 rfl ?_
 show awp _ _ _ _ _ (EH _ [.tmp 2] _)
 simp -implicitDefEqProofs only [EU,EN,BB,A8,A7,AZ,BA,AC,AQ,AO,BD,AX,AL,AA,AY,AU,BO,BH,LG,BC,FN,F9,BN,BX,BP,BV,AB,BF,jF,jD,jE,↓reduceIte,jA,jB,jC,enP,bxE,ldE,AWT]
 refine (Y9 G [2] (by decide) .full e hw _).use ?_
 simp -implicitDefEqProofs only [BK,A7,CW,AZ,BA,AC,AQ,AO,BD,AX,AL,AA,AY,BC,↓reduceIte,jB,jC]
 exact ⟨trivial,_,rfl⟩
theorem AF2 (G:Nat→AV) (e:Ex) (hw:wt e≤1048576) (h:Hp):PCall (En G) 109 [.agg (CV e)] h (.sl (nm (nmL [3,24] [] (pre e))) 1 ((nmL [3,24] [] (pre e)).map encStr)):=by
 refine ACalls.pure0 rfl ?_
 refine acN Tryz.func109 rfl ?_
 show awp _ _ _ _ _ (EH _ [.tmp 2] _)
 simp -implicitDefEqProofs only [EU,EN,BB,A8,A7,AZ,BA,AC,AQ,AO,BD,AX,AL,AA,AY,AU,BO,BH,LG,BC,FN,F9,BN,BX,BP,BV,AB,BF,jF,jD,jE,↓reduceIte,jA,jB,jC,enP,bxE,ldE,AUL]
 refine (Y9 G [3,24] (by decide) .full e hw _).use ?_
 simp -implicitDefEqProofs only [BK,A7,CW,AZ,BA,AC,AQ,AO,BD,AX,AL,AA,AY,BC,↓reduceIte,jB,jC]
 exact ⟨trivial,_,rfl⟩
end Go.Proofs.YtokehnfjjmpanaaGreatDoor.Xe
namespace Go.Proofs.YtokehnfjjmpanaaGreatDoor.Xe
open Sm Bins Cov Wd Go.RowKit
open List renaming mem_cons→zV,length_append→zQ
theorem AED {e:Ex} (h:IZ e=0):(e.op=1→0≤e.n∧e.n≤65535)∧(e.op=3→e.args.length=1)∧(e.op≠1→e.op≠2→e.op≠3→e.op≠24→AVH e.op e.args.length):=by
 unfold IZ at h
 have hO:RX e=false:=by
  cases hb:RX e
  ·rfl
  ·rw [hb] at h; simp at h
 have hN:AAE e=false:=by
  cases hb:AAE e
  ·rfl
  ·rw [hO,hb] at h; simp at h
 have hS:XB e=false:=by
  cases hb:XB e
  ·rfl
  ·rw [hO,hN,hb] at h; simp at h
 have hops:TW e.op e.args.length=true:=by
  unfold XB at hS
  rw [Bool.or_eq_false_iff] at hS
  simpa using hS.2
 have h1:1≤e.op∧e.op≤25:=by unfold RX at hO; simp at hO; omega
 refine ⟨fun h1 => ?_,fun h3 => ?_,fun n1 n2 n3 n24=>⟨fun h22 => ?_,fun h23 => ?_,fun n22 n23 => ?_⟩⟩
 ·unfold AAE at hN; simp [h1] at hN; omega
 ·unfold TW at hops; rw [h3] at hops; simp [arity] at hops; omega
 ·unfold TW at hops; rw [h22] at hops; simp [arity] at hops; omega
 ·unfold TW at hops; rw [h23] at hops; simp at hops; omega
 ·unfold TW at hops
  rw [if_neg (by simpa using n23)] at hops
  have h5:arity e.op=1∨arity e.op=2:=by
   by_cases hq:e.op=3∨e.op=4∨e.op=5∨e.op=6∨e.op=25
   ·left; unfold arity; rw [if_neg (by omega),if_neg (by omega),if_pos hq]
   ·right; unfold arity; rw [if_neg (by omega),if_neg (by omega),if_neg hq,if_neg n22,if_neg n23]
  have h6:((e.args.length:Nat):Int)=arity e.op:=by simpa using hops
  omega
theorem str_eq {a b:ByteArray} (h:(a.toList == b.toList)=true):a=b:=by
 rw [ByteArray.toList_eq,ByteArray.toList_eq] at h
 exact ByteArray.ext (Array.toList_inj.1 (beq_iff_eq.1 h))
theorem AOT (P:ByteArray→Bool) (ops:List Int) (ns:List ByteArray) (e:Ex):(nmU ops ns e).all P=(ns.all P && (!Rk.hasB ops e.op || P e.name)):=by
 unfold nmU
 cases hb:Rk.hasB ops e.op
 ·simp
 cases hs:KP ns e.name
 ·simp
 ·simp
  intro ha
  unfold KP at hs
  rw [List.any_eq_true] at hs
  obtain ⟨u,hu,he⟩:=hs
  rw [str_eq he]; exact ha u hu
theorem ACC (P:ByteArray→Bool) (ops:List Int) : ∀ (xs:List Ex) (ns:List ByteArray),(nmL ops ns xs).all P=(ns.all P && xs.all fun e => !Rk.hasB ops e.op || P e.name)
 | [],ns=>by simp [nmL]
 | e :: xs,ns=>by
   have:=ACC P ops xs (nmU ops ns e)
   simp only [nmL,List.foldl_cons,List.all_cons] at this ⊢
   rw [this,AOT,Bool.and_assoc]
theorem AMW {xs:List Ex} (h:errs xs=0) : ∀ x∈xs,IZ x=0:=by
 induction xs with
 | nil=>intro x hx; cases hx
 | cons y ys ih =>
   have h1:ys.foldl (fun z e=>if z=0 then IZ e else z) (IZ y)=0:=h
   have hy:IZ y=0:=by
    rcases Classical.em (IZ y=0) with q | q
    ·exact q
    ·rw [ACV _ _ q] at h1; exact h1
   rw [hy] at h1
   intro x hx
   rcases zV.1 hx with rfl | hx
   ·exact hy
   ·exact ih h1 x hx
theorem ABJ {e:Ex} (h:exE e=0) : ∀ x∈pre e,IZ x=0:=by
 unfold exE at h
 split at h
 ·cases h
 ·exact AMW h
section
variable (G:Nat→AV)
theorem VO : ∀ xs:List Ex,xs.length≤(IG xs).length
 | []=>by simp [IG]
 | x :: xs=>by
   have:=VO xs
   simp only [IG,zQ,List.length_cons,pre_eq x]; omega
theorem PV {a:Ex} : ∀ {xs:List Ex},a∈xs→(pre a).length≤(IG xs).length
 | x :: xs,h=>by
   simp only [IG,zQ]
   rcases zV.1 h with rfl | h
   ·omega
   ·have:=PV h; omega
end
end Go.Proofs.YtokehnfjjmpanaaGreatDoor.Xe
