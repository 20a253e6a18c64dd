/- Part 9 of the proof (Se, Sg, Sr, Sh, Kr, Kw, T0, T1, T2, T3, Cf); no condition. -/
import Derived.Below
import Derived.Test.YtfpagfhhhlljjaaGreatDoorRows
import Derived.Carry
import Derived.ReadAgain
import Derived.ChangeSame
import Derived.OpenShut
import Derived.WideKeyArgs
import Derived.LaidMore
import Derived.Shelf.Vars
import Derived.OrdersIn
import Derived.TacticsIn
import Derived.RangeFuncBox
import Derived.RangeFuncLeaves
import Derived.RangeFuncFrom
import Derived.Shelf.Abstract
import Derived.WalkKit
import Derived.OwnWalkIn
import Derived.TacticsInMore
import Derived.LoopNIn
import Derived.LoopIn
import Derived.Test.YtfpagfhhhlljjaaGreatDoorProg
import Derived.RangeFuncNested
import Derived.RangeFuncBound
import Derived.RangeFuncCalls
import Derived.RegionIn
import Derived.Maps.AppendAt
import Derived.Test.YtfpagfhhhlljjaaGreatDoorCards
import Derived.JoinedCond
import Derived.KernelRfl
import Derived.Test.YtfpagfhhhlljjaaGreatDoorYD8
set_option linter.unusedVariables false
namespace Go.Proofs.YtfpagfhhhlljjaaGreatDoor.Sm
open Go.RowKit
open List renaming getElem?_map→jY
theorem SimH.below {E:Env}{g:Gh}{h:Hp}{w w':World}(S:SimH E g h w)(hb:Below w.heap.size w w'):SimH E g h w' where
 os:=hb.os.trans S.os
 tape:=hb.tape.trans S.tape
 output:=hb.output.trans S.output
 fro k o hk:=by
  have:=S.fro k o hk
  rw[hb.block k (by have:=(Array.getElem?_eq_some_iff.1 this).1; exact this)]; exact this
 lo:=S.lo
 live b k xs hb':=by
  obtain⟨l,c,e,h1,h2,h3,h4,h5⟩:=S.live b k xs hb'
  refine⟨l,c,e,h1,h2,h3,?_,h5⟩
  rw[hb.block _ (by have:=(Array.getElem?_eq_some_iff.1 h4).1; exact this)]; exact h4
 iter b s pos hb':=by
  obtain⟨l,h1,h2,h3,h4,h5⟩:=S.iter b s pos hb'
  refine⟨l,h1,h2,h3,h4,?_⟩
  rw[hb.block _ (by have:=(Array.getElem?_eq_some_iff.1 h5).1; exact this)]; exact h5
 inj:=S.inj
 fresh:=S.fresh
 glob:=S.glob
theorem PCall.of_ints {E:Env}{f:FuncId}{args:List AV}{h:Hp}{ns:List Int}(hok:ZG E.P f)(hne:ns≠[])
  (hc : ∀ (g:Gh) (w:World) (cargs:Array Value),SimH E g h w→X5 g args cargs→Calls E.P f cargs w fun e w'=>Below w.heap.size w w'∧∃ b c ty cap,e = .returned (.slice (some ⟨b,0,none⟩) ns.length cap) ∧
   w.heap.size≤b∧w'.heap[b]? = some (.cells c ty (0,0))∧ns.length≤cap∧∀ i (hi:i < ns.length),c[i]? = some (.int .i64 ns[i])):PCall E f args h (.sl .any 1 (ns.map fun n => [.int .i64 n])):=by
 refine⟨hok,fun g w cargs S ha => ?_⟩
 refine(hc g w cargs S ha).mono ?_
 rintro e w' ⟨hbl,b,c,ty,cap,rfl,hb,hw,hcap,hcell⟩
 have S':=S.below hbl
 obtain⟨u1,u2⟩:=S.unowned_new hb
 have hr:RepF (g.freeze b (.cells c ty (0,0))).M (.sl .any 1 (ns.map fun n => [.int .i64 n])) (.slice (some ⟨b,0,none⟩) ns.length cap):=by
  have hl:ns.length=(ns.map fun n => [AV.int .i64 n]).length:=by simp
  rw[hl]
  refine .sl .any 1 _ b 0 c ty (0,0) cap (fun i _=>(c[i]?).getD default) (by simpa using hne) (by simp) (by simp [Gh.freeze]) ?_ ?_ ?_ (by simpa using hcap) (by simp)
  ·intro i row hrow
   rw[jY,Option.map_eq_some_iff] at hrow
   obtain⟨n,_,rfl⟩:=hrow
   exact⟨rfl,fun j v hv=>by cases j with
    | zero=>cases hv; rfl
    | succ j=>cases hv⟩
  ·intro i j hi hj
   obtain rfl:j=0:=by omega
   simp only[List.length_map] at hi
   simp only[Nat.zero_add,Nat.mul_one,Nat.add_zero]
   rw[hcell i hi]; rfl
  ·intro i j row v hrow hv
   rw[jY,Option.map_eq_some_iff] at hrow
   obtain⟨n,hn,rfl⟩:=hrow
   obtain⟨hi,rfl⟩:=List.getElem?_eq_some_iff.1 hn
   cases j with
   | zero=>cases hv; rw[hcell i hi]; exact .int _ _
   | succ j=>cases hv
 exact⟨_,_,g.freeze b (.cells c ty (0,0)),h,rfl,⟨rfl,rfl⟩,Gh.freeze_le u2,S'.freeze hw u2 u1,.fro hr⟩
end Go.Proofs.YtfpagfhhhlljjaaGreatDoor.Sm
namespace Go.Proofs.YtfpagfhhhlljjaaGreatDoor.Sm
open Bool renaming and_eq_true→jX
open List renaming append_nil→jF,getElem?_map→jY,getElem?_eq_some_iff→yD
open Nat renaming zero_le→qY,eq_zero_or_pos→wI,add_zero→jK

def M0 (W:World):Nat→Option Obj:=fun k=>W.heap[k]?
def g0 (W:World):Gh:=⟨M0 W,fun _=>none,W.os,W.tape,W.output,fun _=>none⟩
theorem A8Q {E:Env}{W:World}(hN:E.L=none)(hG : ∀ n,RepF (M0 W) (E.G n) (.pointer (some ⟨n,0,none⟩))):SimH E (g0 W) [] W where
 os:=rfl
 tape:=rfl
 output:=rfl
 fro k o h:=h
 lo g0 h:=by rw[hN] at h; cases h
 live b k xs h:=by simp at h
 iter b s pos h:=by simp at h
 inj b b' x x' l l' h:=by simp at h
 fresh b _:=rfl
 glob:=hG
theorem ANE {E:Env}{f:FuncId}{avs:List AV}{args:Array Value}{W:World}(hc:ACalls E f avs [] fun v _=>v = .bool true)(hN:E.L=none)
  (hG : ∀ n,RepF (M0 W) (E.G n) (.pointer (some ⟨n,0,none⟩))) (ha:X5 (g0 W) avs args) :
  Calls E.P f args W fun e w'=>e = .returned (.bool true)∧RowKit.Below W.heap.size W w':=by
 refine(hc.2 (g0 W) W args (A8Q hN hG) ha).mono ?_
 rintro e w' ⟨v,cv,g',h',rfl,rfl,hle,S,hr⟩
 rw[hr.bool_inv]
 have hfro : ∀ k o,W.heap[k]? = some o→w'.heap[k]? = some o:=fun k o h=>S.fro k o (hle.M k o h)
 refine⟨rfl,?_,?_,?_,?_,?_⟩
 ·rw[S.os,hle.os]; rfl
 ·rw[S.tape,hle.tape]; rfl
 ·rw[S.output,hle.output]; rfl
 ·rcases Nat.lt_or_ge w'.heap.size W.heap.size with h | h
  ·have h1:=hfro w'.heap.size _ (Array.getElem?_eq_getElem h)
   simp at h1
  ·exact h
 ·intro k hk
  rw[hfro k _ (Array.getElem?_eq_getElem hk),Array.getElem?_eq_getElem hk]
theorem AV8 {H:Type}{enc:TypeId × Value→H}{P:Program}{f:Func}{s:ChangeSpec}{tb:TypeId}{apart fresh handsOn:Bool}{W W':World}{args:Array Value}{ds gs:List (DataW H)}{before:List MemPlace}
  (hW:DataW.Whole enc P f.params.toList s.vars apart W args.toList ds gs before) (hb:RowKit.Below W.heap.size W W')
  (hv:s.vars = []) (hr:f.resultTypes = #[tb]) (hub:P.underlying tb=some .bool)
  (hs:s.fn H ds = { results := [.lit (.bool true)],args:=ds })
  (hl:laidOutB P=true) (hp:f.params.toList.all (fun t=>P.readableRec t && decide (t < P.types.size))=true) :
  s.post enc P f apart fresh handsOn false W args (.bool true) W':=by
 have hW0:=hW
 obtain⟨p,q,hA,hV,rfl,_,_⟩:=hW
 rw[hv] at hV
 obtain⟨rfl,rfl⟩:gs = []∧q = []:=by
  cases gs with
  | nil=>exact⟨rfl,hV⟩
  | cons=>exact hV.elim
 have hfn:s.fn H (ds++[]) = { results := [.lit (.bool true)],args:=ds }:=by rw[jF]; exact hs
 rw[jF] at hW0
 have hlt : ∀ x∈p,x.block < W.heap.size:=fun x hx=>hW0.lt x hx
 have hall : ∀ (sp:Nat→Bool),(∀ x∈p,sp x.block=true)→∀ {ts:List TypeId} {vs:List Value} {ds:List (DataW H)} {ps:List MemPlace},(ts.all (fun t=>P.readableRec t && decide (t < P.types.size))=true) →
   (∀ x∈ps,x∈p)→DataW.TrodAll enc P W 0 (fun _=>true) true ts vs ds ps→DataW.TrodAll enc P W' 0 sp true ts vs ds ps:=by
  intro sp hsp ts
  induction ts with
  | nil =>
    intro vs ds ps _ _ h
    cases vs <;> cases ds <;> first | exact h | exact h.elim
  | cons t ts ih =>
    intro vs ds ps hts hm h
    cases vs with
    | nil=>exact h.elim
    | cons v vs =>
      cases ds with
      | nil=>exact h.elim
      | cons d ds =>
        obtain⟨p1,q1,h1,h2,e⟩:=h
        simp only[List.all_cons,jX,decide_eq_true_eq] at hts
        have hm1 : ∀ x∈p1,x∈p:=fun x hx=>hm x (by rw[e]; exact List.mem_append_left _ hx)
        exact⟨p1,q1,WideElems.Trod_stays hl hts.1.1 hts.1.2 h1 (fun x hx=>hb.same (hlt x (hm1 x hx))) (fun x hx=>hsp x (hm1 x hx)),ih hts.2 (fun x hx=>hm x (by rw[e]; exact List.mem_append_right _ hx)) h2,e⟩
 have hold : ∀ x∈p,(fun b=>decide (b < W.heap.size)) x.block=true:=fun x hx=>by simpa using hlt x hx
 refine⟨ds,[],p,[],p,[],hW0,?_,?_,?_,World.keptBut_mono (fun x hx=>⟨hx,.inr (.inl hx)⟩) (hb.frame (·∈p)),fun h=>by cases h⟩
 ·rw[hfn,hr]
  exact ChangeShapes.trodAll_mk1 (RowKit.shut_bool hub true)
 ·rw[hfn]; exact hall _ hold hp (fun _ h=>h) hA
 ·rw[hv,hfn]; exact rfl

open Go.Proofs.YtfpagfhhhlljjaaGreatDoor.Rows (uptoBulk uptoBulkAll)
def RowP (M:Nat→Option Obj)(rs:List AV)(cs:List Value):Prop := ∀ (j:Nat) (a:AV),rs[j]? = some a→a.leaf=true∧∃ c,cs[j]? = some c∧RepF M a c
theorem RowP.nil (M:Nat→Option Obj)(cs:List Value):RowP M [] cs:=fun j a h=>by simp at h
theorem RowP.one {M:Nat→Option Obj}{a:AV}{c:Value}(hl:a.leaf=true)(h:RepF M a c):RowP M [a] [c]:=by
 intro j b hb
 cases j with
 | zero=>simp at hb; subst hb; exact⟨hl,c,rfl,h⟩
 | succ j=>simp at hb
theorem RowP.append {M:Nat→Option Obj}{rs bs:List AV}{cs:List Value}{n:Nat}(h:RowP M rs (cs.take n))(hn:rs.length=n)(k:RowP M bs (cs.drop n)):RowP M (rs++bs) cs:=by
 intro j a ha
 rw[List.getElem?_append] at ha
 split at ha
 ·obtain⟨h1,c,h2,h3⟩:=h j a ha
  rw[List.getElem?_take] at h2
  split at h2
  ·exact⟨h1,c,h2,h3⟩
  ·cases h2
 ·obtain⟨h1,c,h2,h3⟩:=k _ a ha
  rw[List.getElem?_drop] at h2
  exact⟨h1,c,by rw[← h2]; congr 1; omega,h3⟩
def RdAt (P:Program)(n:Nat)(t:TypeId){α:Type}(enc:α→List AV)(ok:α→Nat→Prop):Prop :=
 ∀ (H:Type) (ench:TypeId × Value→H) (w:World) (cs:List Value) (d:DataW H) (ps:List MemPlace),
   DataW.trod ench P w 0 (fun _=>true) true n t cs=some (d,ps)→∃ x,ok x (uptoBulk d)∧RowP (M0 w) (enc x) cs
def Rd (P:Program)(t:TypeId){α:Type}(enc:α→List AV)(ok:α→Nat→Prop):Prop := ∀ n,RdAt P n t enc ok
theorem RdAt.zero {P:Program}{t:TypeId}{α:Type}{enc:α→List AV}{ok:α→Nat→Prop}:RdAt P 0 t enc ok:=by
 intro H ench w cs d ps h; simp [DataW.trod] at h
theorem RdAt.map {P:Program}{n:Nat}{t:TypeId}{α β:Type}{enc:α→List AV}{ok:α→Nat→Prop}{enc':β→List AV}{ok':β→Nat→Prop}(f:α→β)(h:RdAt P n t enc ok)
  (he : ∀ x,enc' (f x)=enc x) (hk : ∀ x b,ok x b→ok' (f x) b):RdAt P n t enc' ok':=by
 intro H ench w cs d ps ht
 obtain⟨x,h1,h2⟩:=h H ench w cs d ps ht
 exact⟨f x,hk x _ h1,by rw[he]; exact h2⟩
theorem Rd.map {P:Program}{t:TypeId}{α β:Type}{enc:α→List AV}{ok:α→Nat→Prop}{enc':β→List AV}{ok':β→Nat→Prop}(f:α→β)(h:Rd P t enc ok)
 (he : ∀ x,enc' (f x)=enc x) (hk : ∀ x b,ok x b→ok' (f x) b):Rd P t enc' ok':=fun n=>(h n).map f he hk
def okI (z:Int)(_:Nat):Prop := -9223372036854775808≤z∧z≤9223372036854775807
def okS (s:ByteArray)(b:Nat):Prop:=s.size+1≤b
def okT {α:Type}(_:α)(_:Nat):Prop:=True
def okL {α:Type}(ok:α→Nat→Prop):List α→Nat→Prop
 | [],_=>True
 | x :: xs,b => ∃ b1 b2,b1+b2≤b∧1≤b1∧ok x b1∧okL ok xs b2
theorem okL.length {α:Type}{ok:α→Nat→Prop} : ∀ {xs:List α} {b:Nat},okL ok xs b→xs.length≤b
 | [],_,_=>qY _
 | _ :: _,_,⟨_,_,h1,h2,_,h4⟩=>by have:=okL.length h4; simp; omega
theorem okL.each {α:Type}{ok:α→Nat→Prop} : ∀ {xs:List α} {b:Nat},okL ok xs b→∀ x∈xs,∃ b1,b1≤b∧ok x b1
 | [],_,_,_,h=>by cases h
 | y :: ys,b,⟨b1,b2,h1,h2,h3,h4⟩,x,h=>by
   cases List.mem_cons.1 h with
   | inl e=>subst e; exact⟨b1,by omega,h3⟩
   | inr e=>obtain⟨b3,h5,h6⟩:=okL.each h4 x e; exact⟨b3,by omega,h6⟩
theorem okL.mono {α:Type}{ok:α→Nat→Prop} : ∀ {xs:List α} {b b':Nat},okL ok xs b→b≤b'→okL ok xs b'
 | [],_,_,_,_=>trivial
 | _ :: _,_,_,⟨b1,b2,h1,h2,h3,h4⟩,h=>⟨b1,b2,by omega,h2,h3,h4⟩
theorem AYE {H:Type}(d:DataW H):1≤uptoBulk d:=by
 cases d with
 | lit l=>cases l <;> simp [uptoBulk]
 | nil=>simp [uptoBulk]
 | ptr d=>simp [uptoBulk]
 | slice elems spare=>simp [uptoBulk]
 | agg parts=>simp [uptoBulk]
 | iface t d=>simp [uptoBulk]
 | map entries=>simp [uptoBulk]
 | held h=>simp [uptoBulk]
theorem A3X {P:Program}{t:TypeId}(hu:P.underlying t=some (.int .i64)):Rd P t (fun z:Int => [.int .i64 z]) okI:=by
 intro n H ench w cs d ps h
 obtain⟨z,rfl,hx,hz⟩:=DataW.trod_int hu h
 refine⟨z,?_,RowP.one rfl (.int _ _)⟩
 simp only[Lit.wf,jX,decide_eq_true_eq] at hz
 exact hz
theorem AZ3 {P:Program}{t:TypeId}(hu:P.underlying t=some .bool):Rd P t (fun z:Bool => [.bool z]) okT:=by
 intro n H ench w cs d ps h
 obtain⟨z,rfl,hx⟩:=DataW.trod_bool hu h
 exact⟨_,trivial,RowP.one rfl (.bool _)⟩
theorem A3W {P:Program}{t:TypeId}(hu:P.underlying t=some .string):Rd P t (fun z:ByteArray => [.str z]) okS:=by
 intro n H ench w cs d ps h
 obtain⟨s,rfl,hx,_⟩:=DataW.trod_string hu h
 cases hx
 refine⟨s,?_,RowP.one rfl (.str _)⟩
 simp only[okS,uptoBulk,Array.length_toList]
 exact Nat.le_refl _
theorem AEP {α β:Type}{f:α→Option β}{x:α}{xs:List α}{ys:List β}(h:(x :: xs).mapM f=some ys) : ∃ y zs,f x=some y∧xs.mapM f=some zs∧ys=y :: zs:=by
 rw[List.mapM_cons] at h
 cases hx:f x with
 | none=>simp [hx] at h
 | some y =>
   cases hz:xs.mapM f with
   | none=>simp [hx,hz] at h
   | some zs=>simp [hx,hz] at h; exact⟨y,zs,rfl,rfl,h.symm⟩
theorem ALE {P:Program}{n:Nat}{e:TypeId}{α:Type}{enc:α→List AV}{ok:α→Nat→Prop}(hr:RdAt P n e enc ok){H:Type}{ench:TypeId × Value→H}{w:World} :
  ∀ (zs:List (DataW H × List MemPlace)) (cells:Nat→Option (List Value)),(∀ i,i < zs.length→(cells i).bind (DataW.trod ench P w 0 (fun _=>true) true n e)=zs[i]?) →
    ∃ xs:List α,xs.length=zs.length∧okL ok xs (uptoBulkAll (zs.map (·.1)))∧∀ (i:Nat) (x:α),xs[i]? = some x→∃ cs,cells i=some cs∧RowP (M0 w) (enc x) cs
 | [],cells,h=>⟨[],rfl,trivial,fun i x h=>by simp at h⟩
 | y :: zs,cells,h=>by
   have h0:=h 0 (by simp)
   cases hc:cells 0 with
   | none=>simp [hc] at h0
   | some cs =>
     simp only[hc,Option.bind_some,List.getElem?_cons_zero] at h0
     obtain⟨x,k1,k2⟩:=hr H ench w cs y.1 y.2 h0
     obtain⟨xs,l1,l2,l3⟩:=ALE hr zs (fun i=>cells (i+1)) (fun i hi=>by have:=h (i+1) (by simpa using hi); simpa using this)
     refine⟨x :: xs,by simp [l1],⟨uptoBulk y.1,uptoBulkAll (zs.map (·.1)),by simp [uptoBulkAll],AYE _,k1,l2⟩,?_⟩
     intro i x' hx
     cases i with
     | zero=>simp at hx; subst hx; exact⟨cs,hc,k2⟩
     | succ i=>simp at hx; exact l3 i x' hx
theorem AOV {β:Type}{f:Nat→Option β}{n i:Nat}{ys:List β}(h:(List.range n).mapM f=some ys)(hi:i < n) : ∃ y,f i=some y∧ys[i]? = some y:=by
 have gen : ∀ (l:List Nat) (ys:List β),l.mapM f=some ys→∀ j k:Nat,l[j]? = some k→∃ y,f k=some y∧ys[j]? = some y:=by
  intro l
  induction l with
  | nil=>intro ys _ j k hj; simp at hj
  | cons a l ih =>
    intro ys hl j k hj
    obtain⟨y,zs,h1,h2,rfl⟩:=AEP hl
    cases j with
    | zero=>simp at hj; subst hj; exact⟨y,h1,rfl⟩
    | succ j=>simp at hj; exact ih zs h2 j k hj
 exact gen _ _ h i i (by simp [hi])
theorem cells_at {w:World}{a:Addr}{n:Nat}{cs:List Value}(h:w.cells? 0 a n=some cs){i:Nat}(hi:i < n) : ∃ c,w.cell? (a.add i)=some c∧cs[i]? = some c:=by
 unfold World.cells? at h
 simp only[qY,if_true] at h
 exact AOV h hi
theorem OC {P:Program}{n:Nat}{t e:TypeId}{k:Nat}{α:Type}{enc:α→List AV}{ok:α→Nat→Prop}(hu:P.underlying t=some (.slice e))(hk:P.cellsOf e=k)(hk0:0 < k)(hlen : ∀ x,(enc x).length=k)
  (hr:RdAt P n e enc ok):RdAt P (n+1) t (fun x:SM × List α => [.sl x.1 k (x.2.map enc)]) (fun x b => ∃ b',b'+1≤b∧okL ok x.2 b'):=by
 intro H ench w cs d ps h
 rcases DataW.trod_slice hu h with⟨rfl,hd⟩ | ⟨a,len,cap,zs,rest,m,hm,rfl,hd,_,hlc,_,hzl,hel,_,_⟩
 ·cases hd
  exact⟨(.nil,[]),⟨0,by simp [uptoBulk],trivial⟩,RowP.one rfl (.nil _)⟩
 ·obtain rfl:n=m:=by omega
  simp only[Prod.mk.injEq] at hd
  obtain⟨xs,l1,l2,l3⟩:=ALE hr zs (fun i=>w.cells? 0 (a.add (i * P.cellsOf e)) (P.cellsOf e)) (fun i hi=>hel i (by omega))
  rw[hzl] at l1
  have hok : ∃ b',b'+1≤uptoBulk d∧okL ok xs b':=⟨uptoBulkAll (zs.map (·.1)),by rw[hd.1]; simp [uptoBulk],l2⟩
  rcases wI len with h0 | hpos
  ·subst h0
   have:xs = []:=List.length_eq_zero_iff.1 l1
   subst this
   exact⟨(.any,[]),hok,RowP.one rfl (.empty .any k a cap (by simp) (by simp))⟩
  ·refine⟨(.any,xs),hok,RowP.one rfl ?_⟩
   have cellAt : ∀ i j,i < len→j < k→∃ c,w.cell? ((a.add (i * k)).add j)=some c∧∀ x a',xs[i]? = some x→(enc x)[j]? = some a'→a'.leaf=true∧RepF (M0 w) a' c:=by
    intro i j hi hj
    have hx:i < xs.length:=by omega
    obtain⟨cs',q1,q2⟩:=l3 i xs[i] (by simp [hx])
    rw[hk] at q1
    obtain⟨c,r1,r2⟩:=cells_at q1 hj
    refine⟨c,r1,fun x a' hx' ha' => ?_⟩
    rw[List.getElem?_eq_getElem hx] at hx'
    cases hx'
    obtain⟨s1,c',s2,s3⟩:=q2 j a' ha'
    rw[r2] at s2; cases s2
    exact⟨s1,s3⟩
   obtain⟨cb,co,sp⟩:=a
   have hadd : ∀ i j,((Addr.mk cb co none).add (i * k)).add j=⟨cb,co+i * k+j,none⟩:=by
    intro i j
    rw[addr_add,addr_add]
   obtain⟨c0,hc0,_⟩:=cellAt 0 0 hpos hk0
   have hsp:sp=none:=by
    simp [Addr.add,World.cell?] at hc0
    split at hc0
    ·split at hc0
     ·cases hc0
     ·rename_i hs; simpa using hs
    ·cases hc0
   subst hsp
   rw[hadd] at hc0
   simp only[World.cell?] at hc0
   split at hc0
   case h_2=>cases hc0
   rename_i c ty fz hw
   have rd : ∀ i j,w.cell? ⟨cb,co+i * k+j,none⟩=c[co+i * k+j]? := fun i j=>by simp [World.cell?,hw]
   have hlx:len=(xs.map enc).length:=by simp [l1]
   rw[hlx]
   refine .sl .any k (xs.map enc) cb co c ty fz cap (fun i j=>c[co+i * k+j]?.getD default) ?_ (by simp) hw ?_ ?_ ?_ ?_ (by simp)
   ·intro hx
    have:xs = []:=by simpa using hx
    subst this; simp at l1; omega
   ·intro i row hrow
    rw[jY,Option.map_eq_some_iff] at hrow
    obtain⟨x,hx,rfl⟩:=hrow
    refine⟨hlen x,fun j v hv => ?_⟩
    have hi:i < len:=by rw[← l1]; exact(yD.1 hx).1
    have hj:j < k:=by rw[← hlen x]; exact(yD.1 hv).1
    obtain⟨c,_,hc2⟩:=cellAt i j hi hj
    exact(hc2 x v hx hv).1
   ·intro i j hi hj
    obtain⟨c',q1,_⟩:=cellAt i j (by simpa [l1] using hi) hj
    rw[hadd,rd] at q1
    rw[q1]; rfl
   ·intro i j row v hrow hv
    rw[jY,Option.map_eq_some_iff] at hrow
    obtain⟨x,hx,rfl⟩:=hrow
    have hi:i < len:=by rw[← l1]; exact(yD.1 hx).1
    have hj:j < k:=by rw[← hlen x]; exact(yD.1 hv).1
    obtain⟨c',q1,q2⟩:=cellAt i j hi hj
    rw[hadd,rd] at q1
    show RepF _ _ (c[co+i * k+j]?.getD default)
    rw[q1]
    exact(q2 x v hx hv).2
   ·simp [l1]; exact hlc
def A18 (P:Program)(n:Nat)(fs:List Field)(off:Nat){α:Type}(enc:α→List AV)(ok:α→Nat→Prop):Prop :=
 ∀ (H:Type) (ench:TypeId × Value→H) (w:World) (cs:List Value) (zs:List (DataW H × List MemPlace)),zs.length=fs.length →
   (∀ (i:Nat) (f:Field),fs[i]? = some f→DataW.trod ench P w 0 (fun _=>true) true n f.type ((cs.drop f.offset).take (P.cellsOf f.type))=zs[i]?)→∃ x,ok x (uptoBulkAll (zs.map (·.1)))∧RowP (M0 w) (enc x) (cs.drop off)
theorem TK {P:Program}{n off:Nat}:A18 P n [] off (fun _:Unit => []) okT:=fun _ _ _ _ _ _ _=>⟨(),trivial,RowP.nil _ _⟩
theorem JK {P:Program}{n off k:Nat}{f:Field}{fs:List Field}{α β:Type}{enc:α→List AV}{ok:α→Nat→Prop}{enc':β→List AV}{ok':β→Nat→Prop}(ho:f.offset=off)(hk:P.cellsOf f.type=k)
  (hlen : ∀ x,(enc x).length=k) (h:RdAt P n f.type enc ok) (h':A18 P n fs (off+k) enc' ok') :
  A18 P n (f :: fs) off (fun x:α × β=>enc x.1++enc' x.2) (fun x b => ∃ b1 b2,b1+b2≤b∧ok x.1 b1∧ok' x.2 b2):=by
 intro H ench w cs zs hl hz
 cases zs with
 | nil=>simp at hl
 | cons y zs =>
   have h1:=hz 0 f rfl
   obtain⟨x,k1,k2⟩:=h H ench w _ y.1 y.2 (by simpa using h1)
   obtain⟨x',l1,l2⟩:=h' H ench w cs zs (by simpa using hl) (fun i f' hf=>by have:=hz (i+1) f' (by simpa using hf); simpa using this)
   refine⟨(x,x'),⟨_,_,Nat.le_of_eq (by simp [uptoBulkAll]),k1,l1⟩,?_⟩
   rw[ho,hk] at k2
   refine RowP.append k2 (hlen x) ?_
   rw[List.drop_drop]
   exact l2
theorem OX {P:Program}{n:Nat}{t:TypeId}{fs:List Field}{α:Type}{enc:α→List AV}{ok:α→Nat→Prop}(hu:P.underlying t=some (.struct fs.toArray))(h:A18 P n fs 0 enc ok) :
  RdAt P (n+1) t enc (fun x b => ∃ b',b'+1≤b∧ok x b'):=by
 intro H ench w cs d ps ht
 obtain⟨zs,m,hm,hd,_,hl,hz⟩:=DataW.trod_struct hu ht
 obtain rfl:n=m:=by omega
 obtain⟨x,k1,k2⟩:=h H ench w cs zs (by simpa using hl) (fun i f hf=>hz i f (by simpa using hf))
 simp only[Prod.mk.injEq] at hd
 exact⟨x,⟨_,by rw[hd.1]; simp [uptoBulk],k1⟩,by simpa using k2⟩

open Go.Proofs.YtfpagfhhhlljjaaGreatDoor.Rows (uptoBulk uptoBulkAll)
def PR (P:Program)(t:TypeId){α:Type}(av:α→AV)(ok:α→Nat→Prop):Prop :=
 ∀ (H:Type) (ench:TypeId × Value→H) (w:World) (base:Nat) (v:Value) (d:DataW H) (ps:List MemPlace),Value.okWide P w .any base t v→DataW.Trod ench P w 0 (fun _=>true) true t v d ps →
   ∃ x,ok x (uptoBulk d)∧RepF (M0 w) (av x) v
def AO2 (P:Program)(t:TypeId):Bool:=match P.underlying t with
 | some (.int _)=>true
 | some .bool=>true
 | some .string=>true
 | some (.slice _)=>true
 | _=>false
theorem cell_of {P:Program}{t:TypeId}{w:World}{base:Nat}{v:Value}(hc:AO2 P t=true)(h:Value.okWide P w .any base t v):v.cells.toList = [v]:=by
 unfold AO2 at hc
 unfold Value.okWide at h
 split at hc <;> rename_i hu <;> first | (cases hc; done) | skip
 all_goals
  rw[hu] at h
  simp only[Cell.okWide,Cell.ok,hu] at h
  cases v <;> first | rfl | (simp at h; done) | exact h.elim
theorem A8G {P:Program}{t:TypeId}{α:Type}{enc:α→List AV}{av:α→AV}{ok:α→Nat→Prop}(h:Rd P t enc ok)(he : ∀ x,enc x = [av x])(hc:AO2 P t=true):PR P t av ok:=by
 intro H ench w base v d ps hv ⟨n,ht⟩
 rw[cell_of hc hv] at ht
 obtain⟨x,h1,h2⟩:=h n H ench w _ d ps ht
 refine⟨x,h1,?_⟩
 rw[he] at h2
 obtain⟨_,c,h3,h4⟩:=h2 0 (av x) rfl
 simp at h3; subst h3
 exact h4
theorem A8T {P:Program}{t:TypeId}{α:Type}{enc:α→List AV}{ok:α→Nat→Prop}{k:Nat}(h:Rd P t enc ok)(hl : ∀ x,ok x 0∨True→(enc x).length=k)(hk:P.cellsOf t=k)(hc:LJ P t=some true):PR P t (fun x => .agg (enc x)) ok:=by
 intro H ench w base v d ps hv ⟨n,ht⟩
 have hag : ∃ cs,v = .agg cs∧cs.size=P.cellsOf t:=by
  unfold LJ at hc
  unfold Value.okWide at hv
  cases hu:P.underlying t with
  | none=>simp [hu] at hc
  | some td =>
    rw[hu] at hc hv
    cases td <;> simp at hc <;> exact⟨_,hv.choose_spec.1,hv.choose_spec.2.1⟩
 obtain⟨cs,rfl,hs⟩:=hag
 obtain⟨x,h1,h2⟩:=h n H ench w _ d ps ht
 refine⟨x,h1,.agg _ cs (by rw[hs,hl x (.inr trivial),hk]) ?_⟩
 intro i a cv ha hcv
 obtain⟨_,c,h3,h4⟩:=h2 i a ha
 simp [Value.cells] at h3
 rw[hcv] at h3; cases h3
 exact h4
def PRs (P:Program)(ts:List TypeId){α:Type}(avs:α→List AV)(ok:α→Nat→Prop):Prop :=
 ∀ (H:Type) (ench:TypeId × Value→H) (w:World) (base:Nat) (vs:List Value) (ds:List (DataW H)) (ps:List MemPlace),(∀ (j:Nat) t v,ts[j]? = some t→vs[j]? = some v→Value.okWide P w .any base t v) →
   DataW.TrodAll ench P w 0 (fun _=>true) true ts vs ds ps→∃ x,ok x (uptoBulkAll ds)∧vs.length=(avs x).length∧∀ (i:Nat) (a:AV) (v:Value),(avs x)[i]? = some a→vs[i]? = some v→RepF (M0 w) a v
theorem PRs.len {P:Program}{w:World}{H:Type}{ench:TypeId × Value→H}{sp:Nat→Bool}{held:Bool}{base:Nat} : ∀ {ts:List TypeId} {vs:List Value} {ds:List (DataW H)} {ps:List MemPlace},DataW.TrodAll ench P w base sp held ts vs ds ps→ds.length=ts.length
 | [],[],[],_,_=>rfl
 | _ :: _,_ :: _,_ :: _,_,⟨_,_,_,h2,_⟩=>by simp [PRs.len h2]
theorem A8F {P:Program}:PRs P [] (fun _:Unit => []) okT:=by
 intro H ench w base vs ds ps _ h
 cases vs with
 | nil=>exact⟨(),trivial,rfl,fun i a v h=>by simp at h⟩
 | cons v vs=>cases ds <;> exact h.elim
theorem A5S {P:Program}{t:TypeId}{ts:List TypeId}{α β:Type}{av:α→AV}{ok:α→Nat→Prop}{avs:β→List AV}{ok':β→Nat→Prop}(h:PR P t av ok)(h':PRs P ts avs ok') :
  PRs P (t :: ts) (fun x:α × β=>av x.1 :: avs x.2) (fun x b => ∃ b1 b2,b1+b2≤b∧ok x.1 b1∧ok' x.2 b2):=by
 intro H ench w base vs ds ps hv ht
 cases vs with
 | nil=>cases ds <;> exact ht.elim
 | cons v vs =>
   cases ds with
   | nil=>exact ht.elim
   | cons d ds =>
     obtain⟨p,q,h1,h2,_⟩:=ht
     obtain⟨x,k1,k2⟩:=h H ench w base v d p (hv 0 t v rfl rfl) h1
     obtain⟨y,l1,l2,l3⟩:=h' H ench w base vs ds q (fun j t' v' a b=>hv (j+1) t' v' (by simpa using a) (by simpa using b)) h2
     refine⟨(x,y),⟨_,_,Nat.le_of_eq (by simp [uptoBulkAll]),k1,l1⟩,by simp [l2],?_⟩
     intro i a v' ha hv'
     cases i with
     | zero=>simp at ha hv'; subst ha; subst hv'; exact k2
     | succ i=>simp at ha hv'; exact l3 i a v' ha hv'
theorem A0T {H:Type}{enc:TypeId × Value→H}{E:Env}{f:FuncId}{fn:Func}{s:ChangeSpec}{tb:TypeId}{apart fresh handsOn:Bool}{W:World}{base:Nat}{args:Array Value}{ds gs:List (DataW H)}{before:List MemPlace}
  {α:Type} {avs:α→List AV} {ok:α→Nat→Prop} (hr:PRs E.P fn.params.toList avs ok) (hlaw : ∀ x,ok x (uptoBulkAll ds)→ACalls E f (avs x) [] fun v _=>v = .bool true)
  (hval : ∀ (j:Nat) t v,fn.params[j]? = some t→args[j]? = some v→Value.okWide E.P W .any base t v)
  (hW:DataW.Whole enc E.P fn.params.toList s.vars apart W args.toList ds gs before) (hG : ∀ n,RepF (M0 W) (E.G n) (.pointer (some ⟨n,0,none⟩)))
  (hv:s.vars = []) (ht:fn.resultTypes = #[tb]) (hub:E.P.underlying tb=some .bool)
  (hs:s.fn H ds = { results := [.lit (.bool true)],args:=ds })
  (hl:laidOutB E.P=true) (hp:fn.params.toList.all (fun t=>E.P.readableRec t && decide (t < E.P.types.size))=true) (hN:E.L=none:=by rfl) :
  Calls E.P f args W fun e W' => ∃ v,e = .returned v∧s.post enc E.P fn apart fresh handsOn false W args v W':=by
 obtain⟨p,q,hA,_⟩:=id hW
 obtain⟨x,k1,k2,k3⟩:=hr H enc W base args.toList ds p (fun j t v a b=>hval j t v (by simpa using a) (by simpa using b)) hA
 have ha:X5 (g0 W) (avs x) args:=⟨by simpa using k2,fun i v cv h1 h2 => .fro (k3 i v cv h1 (by simpa using h2))⟩
 refine(ANE (hlaw x k1) hN hG ha).mono ?_
 rintro e w' ⟨rfl,hb⟩
 exact⟨_,rfl,AV8 hW hb hv ht hub hs hl hp⟩
theorem ATM {P:Program}{w:World}{t e:TypeId}(hu:P.underlying t=some (.slice e))(he:P.underlying e=some .string)(hk:P.cellsOf e=1){H:Type}{ench:TypeId × Value→H}{sp:Nat→Bool}{held:Bool}{n:Nat}{cs:List Value}
  {l:List ByteArray} {d:DataW H} (hd:d = .slice (l.map fun s => .lit (.string s.data.toList)) []) {p:List MemPlace} (h:DataW.trod ench P w 0 sp held n t cs=some (d,p)) :
  ∃ c,cs = [c]∧RepF (M0 w) (.sl .any 1 (l.map fun s => [.str s])) c:=by
 subst hd
 rcases DataW.trod_slice hu h with⟨_,hx⟩ | ⟨a,len,cap,zs,rest,m,_,rfl,hx,_,hlc,_,hzl,hel,_,_⟩
 ·cases hx
 ·simp only[Prod.mk.injEq,DataW.slice.injEq] at hx
  obtain⟨⟨hz,_⟩,_⟩:=hx
  have hll:l.length=len:=by have:=congrArg List.length hz; simpa [hzl] using this
  refine⟨_,rfl,?_⟩
  rcases wI len with h0 | hpos
  ·subst h0
   have:l = []:=List.length_eq_zero_iff.1 hll
   subst this
   exact .empty .any 1 a cap (by simp) (by simp)
  ·have cellAt : ∀ i (s:ByteArray),l[i]? = some s→w.cell? (a.add i)=some (.string s):=by
    intro i s hs
    have hi:i < len:=by rw[← hll]; exact(yD.1 hs).1
    have h1:=hel i hi
    rw[hk,Nat.mul_one] at h1
    have h2:zs[i]?.map (·.1)=some (.lit (.string s.data.toList)):=by
     rw[← jY,← hz,jY,hs]; rfl
    cases hc:w.cells? 0 (a.add i) 1 with
    | none=>rw[hc] at h1; rw[← h1] at h2; cases h2
    | some c1 =>
      rw[hc,Option.bind_some] at h1
      obtain⟨z,hzi⟩ : ∃ z,zs[i]? = some z:=by cases hh:zs[i]? with
       | none=>rw[hh] at h2; cases h2
       | some z=>exact⟨z,rfl⟩
      rw[hzi] at h1 h2
      obtain⟨s',rfl,rfl,_⟩:=DataW.trod_string he h1
      simp only[Option.map_some,Option.some.injEq,DataW.lit.injEq,Lit.string.injEq] at h2
      have:s'=s:=by
       cases s'; cases s
       simp only at h2
       congr 1
       exact Array.toList_inj.1 h2
      subst this
      obtain⟨c,r1,r2⟩:=cells_at hc (i:=0) (by decide)
      simp at r2; subst r2
      simpa [Addr.add] using r1
   obtain⟨cb,co,sp'⟩:=a
   have h00:=cellAt 0 l[0] (by simp [hll,hpos])
   have hsp:sp'=none:=by
    simp [Addr.add,World.cell?] at h00
    split at h00
    ·split at h00
     ·cases h00
     ·rename_i hs; simpa using hs
    ·cases h00
   subst hsp
   have hadd : ∀ i,(Addr.mk cb co none).add i=⟨cb,co+i,none⟩:=fun i=>addr_add _ _ _
   rw[hadd] at h00
   simp only[World.cell?] at h00
   split at h00
   case h_2=>cases h00
   rename_i c ty fz hw
   have rd : ∀ i,w.cell? ⟨cb,co+i,none⟩=c[co+i]? := fun i=>by simp [World.cell?,hw]
   have hlx:len=(l.map fun s => [AV.str s]).length:=by simp [hll]
   rw[hlx]
   refine .sl .any 1 _ cb co c ty fz cap (fun i j=>c[co+i * 1+j]?.getD default) ?_ (by simp) hw ?_ ?_ ?_ (by simp [hll]; exact hlc) (by simp)
   ·intro hx
    have:l = []:=by simpa using hx
    subst this; simp at hll; omega
   ·intro i row hrow
    rw[jY,Option.map_eq_some_iff] at hrow
    obtain⟨x,hx,rfl⟩:=hrow
    refine⟨rfl,fun j v hv => ?_⟩
    cases j with
    | zero=>simp at hv; subst hv; rfl
    | succ j=>simp at hv
   ·intro i j hi hj
    have hi':i < l.length:=by simpa using hi
    have:=cellAt i l[i] (by simp [hi'])
    rw[hadd,rd] at this
    have hj0:j=0:=by omega
    subst hj0
    simp only[Nat.mul_one,jK]
    rw[this]; rfl
   ·intro i j row v hrow hv
    rw[jY,Option.map_eq_some_iff] at hrow
    obtain⟨x,hx,rfl⟩:=hrow
    have:=cellAt i x hx
    rw[hadd,rd] at this
    cases j with
    | zero =>
      simp at hv; subst hv
      simp only[Nat.mul_one,jK]
      rw[this]; exact .str _
    | succ j=>simp at hv
theorem AZJ {P:Program}{w:World}{n:String}{g:Nat}{cs:Array Value}{c:Value}{a:AV}(hg:P.globalNamed n=some g)(h:w.var? P n=some cs)(hc:cs.toList = [c])(hr:RepF (M0 w) a c)(hl:a.leaf=true) :
  RepF (M0 w) (.fptr 1 [[a]] 0 0) (.pointer (some ⟨g,0,none⟩)):=by
 have h0:=World.var?_cell hg h 0
 have e:cs = #[c]:=by rw[← Array.toArray_toList (xs:=cs),hc]
 rw[e] at h0
 simp only[World.cell?] at h0
 split at h0
 case h_2=>simp at h0
 rename_i cc ty fz hw
 have hcc:cc[0]? = some c:=by simpa using h0
 refine .fptr 1 [[a]] 0 0 g 0 cc ty fz (fun _ _=>c) hw ?_ ?_ ?_
 ·intro i row hrow
  cases i with
  | zero =>
    simp at hrow; subst hrow
    refine⟨rfl,fun j v hv => ?_⟩
    cases j with
    | zero=>simp at hv; subst hv; exact hl
    | succ j=>simp at hv
  | succ i=>simp at hrow
 ·intro i j hi hj
  have:i=0:=by simpa using hi
  have:j=0:=by omega
  subst_vars
  simpa using hcc
 ·intro i j row v hrow hv
  cases i with
  | zero =>
    simp at hrow; subst hrow
    cases j with
    | zero=>simp at hv; subst hv; exact hr
    | succ j=>simp at hv
  | succ i=>simp at hrow
end Go.Proofs.YtfpagfhhhlljjaaGreatDoor.Sm
namespace Go.Proofs.YtfpagfhhhlljjaaGreatDoor.Cov
open Sm Bins Go.RowKit
def okR (r:Rng)(_:Nat):Prop:=(-9223372036854775808≤r.lo∧r.lo≤9223372036854775807)∧(-9223372036854775808≤r.hi∧r.hi≤9223372036854775807)
theorem cl3:Tryz.prog.cellsOf 3=1:=by kernel_rfl
theorem cl9:Tryz.prog.cellsOf 9=1:=by kernel_rfl
theorem A62:Tryz.prog.cellsOf 53=1:=by kernel_rfl
theorem A9A:Tryz.prog.cellsOf 54=1:=by kernel_rfl
theorem A9D:Tryz.prog.cellsOf 46=1:=by kernel_rfl
theorem A63:Tryz.prog.cellsOf 48=4:=by kernel_rfl
theorem A9C:Tryz.prog.cellsOf 49=1:=by kernel_rfl
theorem A9B:Tryz.prog.cellsOf 51=6:=by kernel_rfl
theorem A89:Tryz.prog.cellsOf 56=4:=by kernel_rfl
theorem A85:Tryz.prog.cellsOf 69=3:=by kernel_rfl
theorem A4R:Tryz.prog.cellsOf 26=1:=by kernel_rfl
theorem A86:Tryz.prog.cellsOf 67=1:=by kernel_rfl
theorem A9F:Tryz.prog.cellsOf 22=1:=by kernel_rfl
theorem A9E:Tryz.prog.cellsOf 23=1:=by kernel_rfl
theorem A9T:Tryz.prog.cellsOf 25=2:=by kernel_rfl
theorem rdI:Rd Tryz.prog 3 qencI okI:=A3X Tryz.underlying3
theorem rdStr:Rd Tryz.prog 9 encStr okS:=A3W Tryz.underlying9
theorem VK {α:Type}{ok:α→Nat→Prop}{xs:List α}{b:Nat}(h : ∃ b',b'+1≤b∧okL ok xs b'):okL ok xs b:=by obtain⟨b',h1,h2⟩:=h; exact h2.mono (by omega)
def A35 (x:Is)(b:Nat):Prop:=okL okI x.l b
theorem A3Y:Rd Tryz.prog 26 encL A35:=by
 intro n
 cases n with
 | zero=>exact RdAt.zero
 | succ n=>exact RdAt.map (fun x:SM × List Int=>(⟨x.1,x.2⟩:Is)) (OC Tryz.underlying26 cl3 (by decide) (fun _=>rfl) (rdI n)) (fun _=>rfl) (fun x b h=>VK h)
def okE (e:Ex)(b:Nat):Prop:=wt e≤b
theorem ALW : ∀ {l:List Ex} {b:Nat},okL okE l b→wts l≤b
 | [],b,_=>Nat.zero_le _
 | x :: xs,b,⟨b1,b2,h1,_,h3,h4⟩=>by
   have:=ALW h4
   simp only[wts]; unfold okE at h3; omega
theorem rdE : ∀ n:Nat,RdAt Tryz.prog n 48 DX okE:=by
 intro n
 induction n using Nat.strongRecOn with
 | _ n ih =>
   match n,ih with
   | 0,_=>exact RdAt.zero
   | 1,_ =>
     intro H ench w cs d ps h
     obtain⟨zs,m,hm,_,_,hl,hz⟩:=DataW.trod_struct Tryz.underlying48 h
     obtain rfl:m=0:=by omega
     have:=hz 0 _ rfl
     simp only[DataW.trod] at this
     have h0:zs = []:=by cases zs with
      | nil=>rfl
      | cons a l=>simp at this
     subst h0; simp at hl
   | n+2,ih =>
     have rdA:RdAt Tryz.prog (n+1) 46 (fun x:SM × List Ex => [.sl x.1 4 (x.2.map DX)]) (fun x b => ∃ b',b'+1≤b∧okL okE x.2 b'):=OC Tryz.underlying46 A63 (by decide) JE (ih n (by omega))
     refine RdAt.map (fun x:Int × Int × ByteArray × (SM × List Ex) × Unit=>Ex.mk x.1 x.2.1 x.2.2.1 x.2.2.2.1.1 x.2.2.2.1.2)
      (OX Tryz.underlying48 (JK rfl cl3 (fun _=>rfl) (rdI _) (JK rfl cl3 (fun _=>rfl) (rdI _) (JK rfl cl9 (fun _=>rfl) (rdStr _) (JK rfl A9D (fun _=>rfl) rdA TK))))) (fun x=>by rw[JJ]; rfl) ?_
     rintro⟨a,b,c,d,_⟩ N ⟨_,hN,b1,b2,hb,h1,b3,b4,hb2,h2,b5,b6,hb3,h3,b7,b8,hb4,⟨b9,h5,h6⟩,_⟩
     have h7:=ALW h6
     unfold okS at h3
     show wt _≤_
     rw[NF]
     simp only[Ex.name,Ex.args]
     simp only at h3 h7
     omega
theorem rdR:Rd Tryz.prog 88 encR okR:=by
 intro n
 cases n with
 | zero=>exact RdAt.zero
 | succ n =>
   refine RdAt.map (fun x:Int × Int × Unit=>(⟨x.1,x.2.1⟩:Rng)) (OX Tryz.underlying88 (JK rfl cl3 (fun _=>rfl) (rdI n) (JK rfl cl3 (fun _=>rfl) (rdI n) TK))) (fun _=>rfl) ?_
   rintro⟨a,b,_⟩ N ⟨_,_,_,_,_,h1,_,_,_,h2,_⟩
   exact⟨h1,h2⟩
theorem A84:Tryz.prog.cellsOf 88=2:=by kernel_rfl
def A0A (x:Rs)(b:Nat):Prop:=okL okR x.l b
theorem A5Q:Rd Tryz.prog 53 encS A0A:=by
 intro n
 cases n with
 | zero=>exact RdAt.zero
 | succ n=>exact RdAt.map (fun x:SM × List Rng=>(⟨x.1,x.2⟩:Rs)) (OC Tryz.underlying53 A84 (by decide) AAN (rdR n)) (fun _=>rfl) (fun x b h=>VK h)
def okB (x:Bin)(b:Nat):Prop := ∃ b1 b2 b3,b1+b2+b3≤b∧okS x.name b1∧A0A x.ranges b2∧okL A0A x.steps b3
theorem rdB:Rd Tryz.prog 56 G9 okB:=by
 intro n
 match n with
 | 0=>exact RdAt.zero
 | 1 =>
   intro H ench w cs d ps h
   obtain⟨zs,m,hm,_,_,hl,hz⟩:=DataW.trod_struct Tryz.underlying56 h
   obtain rfl:m=0:=by omega
   have:=hz 0 _ rfl
   simp only[DataW.trod] at this
   have h0:zs = []:=by cases zs with
    | nil=>rfl
    | cons a l=>simp at this
   subst h0; simp at hl
 | n+2 =>
   have rdSt:RdAt Tryz.prog (n+1) 54 (fun x:SM × List Rs => [.sl x.1 1 (x.2.map encS)]) (fun x b => ∃ b',b'+1≤b∧okL A0A x.2 b'):=OC Tryz.underlying54 A62 (by decide) (fun _=>rfl) (A5Q n)
   refine RdAt.map (fun x:ByteArray × Int × Rs × (SM × List Rs) × Unit=>(⟨x.1,x.2.1,x.2.2.1,x.2.2.2.1.1,x.2.2.2.1.2⟩:Bin))
    (OX Tryz.underlying56 (JK rfl cl9 (fun _=>rfl) (rdStr _) (JK rfl cl3 (fun _=>rfl) (rdI _) (JK rfl A62 (fun _=>rfl) (A5Q _) (JK rfl A9A (fun _=>rfl) rdSt TK))))) (fun _=>rfl) ?_
   rintro⟨a,b,c,d,_⟩ N ⟨_,hN,b1,b2,hb,h1,b3,b4,hb2,h2,b5,b6,hb3,h3,b7,b8,hb4,h4,_⟩
   exact⟨b1,b5,b7,by omega,h1,h3,VK h4⟩
theorem AYP {x:Bin}{b:Nat}(h:okB x b)(hb:b≤1048576):BinOk x:=by
 obtain⟨b1,b2,b3,h0,h1,h2,h3⟩:=h
 have l2:=h2.length
 have l3:=h3.length
 have hs : ∀ l∈sets x,l.l.length≤1048576:=by
  intro l hl
  unfold sets at hl
  split at hl
  ·simp at hl; subst hl; omega
  ·obtain⟨b4,h4,h5⟩:=h3.each l hl
   have:=h5.length
   omega
 refine⟨?_,?_,by omega,fun l hl=>by have:=hs l hl; omega⟩
 ·unfold sets
  split
  ·simp
  ·omega
 ·unfold okS at h1; omega
theorem AEA {t:TypeId}{f:Field}{fs:List Field}{α:Type}{enc:α→List AV}{ok:α→Nat→Prop}(hu:Tryz.prog.underlying t=some (.struct (f :: fs).toArray)):RdAt Tryz.prog 1 t enc ok:=by
 intro H ench w cs d ps h
 obtain⟨zs,m,hm,_,_,hl,hz⟩:=DataW.trod_struct hu h
 obtain rfl:m=0:=by omega
 have:=hz 0 _ rfl
 simp only[DataW.trod] at this
 have h0:zs = []:=by cases zs with
  | nil=>rfl
  | cons a l=>simp at this
 subst h0; simp at hl
def A0B (p:Pt)(b:Nat):Prop := ∃ b1 b2 b3,b1+b2+b3≤b∧okS p.name b1∧okE p.ex b2∧okL okB p.bins b3
theorem rdP:Rd Tryz.prog 51 GI A0B:=by
 intro n
 match n with
 | 0=>exact RdAt.zero
 | 1=>exact AEA Tryz.underlying51
 | n+2 =>
   have rdBs:RdAt Tryz.prog (n+1) 49 (fun x:SM × List Bin => [.sl x.1 4 (x.2.map G9)]) (fun x b => ∃ b',b'+1≤b∧okL okB x.2 b'):=OC Tryz.underlying49 A89 (by decide) MG (rdB n)
   refine RdAt.map (fun x:ByteArray × Ex × (SM × List Bin) × Unit=>(⟨x.1,x.2.1,x.2.2.1.1,x.2.2.1.2⟩:Pt))
    (OX Tryz.underlying51 (JK rfl cl9 (fun _=>rfl) (rdStr _) (JK rfl A63 JE (rdE _) (JK rfl A9C (fun _=>rfl) rdBs TK)))) (fun x=>rfl) ?_
   rintro⟨a,b,c,_⟩ N ⟨_,hN,b1,b2,hb,h1,b3,b4,hb2,h2,b5,b6,hb3,h3,_⟩
   exact⟨b1,b3,b5,by omega,h1,h2,VK h3⟩
def A0C (c:Cr)(b:Nat):Prop := ∃ b1 b2 b3,b1+b2+b3≤b∧okS c.name b1∧okL okI c.pts b2∧okL A35 c.excl b3
theorem rdC:Rd Tryz.prog 69 GV A0C:=by
 intro n
 match n with
 | 0=>exact RdAt.zero
 | 1=>exact AEA Tryz.underlying69
 | n+2 =>
   have rdXs:RdAt Tryz.prog (n+1) 67 (fun x:SM × List Is => [.sl x.1 1 (x.2.map encL)]) (fun x b => ∃ b',b'+1≤b∧okL A35 x.2 b'):=OC Tryz.underlying67 A4R (by decide) AFL (A3Y n)
   refine RdAt.map (fun x:ByteArray × Is × (SM × List Is) × Unit=>(⟨x.1,x.2.1.m,x.2.1.l,x.2.2.1.1,x.2.2.1.2⟩:Cr))
    (OX Tryz.underlying69 (JK rfl cl9 (fun _=>rfl) (rdStr _) (JK rfl A4R AFL (A3Y _) (JK rfl A86 (fun _=>rfl) rdXs TK)))) (fun x=>rfl) ?_
   rintro⟨a,b,c,_⟩ N ⟨_,hN,b1,b2,hb,h1,b3,b4,hb2,h2,b5,b6,hb3,h3,_⟩
   exact⟨b1,b3,b5,by omega,h1,h2,VK h3⟩
def okM (m:Mo)(b:Nat):Prop := ∃ b1 b2,b1+b2≤b∧okL A0B m.pts b1∧okL A0C m.crs b2
theorem rdM:Rd Tryz.prog 25 EE okM:=by
 intro n
 match n with
 | 0=>exact RdAt.zero
 | 1=>exact AEA Tryz.underlying25
 | n+2 =>
   have rdPs:RdAt Tryz.prog (n+1) 22 (fun x:SM × List Pt => [.sl x.1 6 (x.2.map GI)]) (fun x b => ∃ b',b'+1≤b∧okL A0B x.2 b'):=OC Tryz.underlying22 A9B (by decide) JL (rdP n)
   have rdCs:RdAt Tryz.prog (n+1) 23 (fun x:SM × List Cr => [.sl x.1 3 (x.2.map GV)]) (fun x b => ∃ b',b'+1≤b∧okL A0C x.2 b'):=OC Tryz.underlying23 A85 (by decide) KH (rdC n)
   refine RdAt.map (fun x:(SM × List Pt) × (SM × List Cr) × Unit=>(⟨x.1.1,x.1.2,x.2.1.1,x.2.1.2⟩:Mo))
    (OX Tryz.underlying25 (JK rfl A9F (fun _=>rfl) rdPs (JK rfl A9E (fun _=>rfl) rdCs TK))) (fun x=>rfl) ?_
   rintro⟨a,b,_⟩ N ⟨_,hN,b1,b2,hb,h1,b3,b4,hb2,h2,_⟩
   exact⟨b1,b3,by omega,VK h1,VK h2⟩
theorem AZ4 {p:Pt}{b:Nat}(h:A0B p b)(hb:b≤1048576):PtOk p:=by
 obtain⟨b1,b2,b3,h0,h1,h2,h3⟩:=h
 have l3:=h3.length
 unfold okS at h1
 unfold okE at h2
 refine⟨by omega,by omega,by omega,fun x hx => ?_⟩
 obtain⟨b4,h4,h5⟩:=h3.each x hx
 exact AYP h5 (by omega)
theorem A1G {c:Cr}{b:Nat}(h:A0C c b)(hb:b≤1048576):CrOk c:=by
 obtain⟨b1,b2,b3,h0,h1,h2,h3⟩:=h
 have l2:=h2.length
 have l3:=h3.length
 unfold okS at h1
 refine⟨by omega,by omega,by omega,fun x hx => ?_⟩
 obtain⟨b4,h4,h5⟩:=h3.each x hx
 have:=okL.length h5
 omega
theorem A8H {m:Mo}{b:Nat}(h:okM m b)(hb:b≤1048576):MoOk m:=by
 obtain⟨b1,b2,h0,h1,h2⟩:=h
 have l1:=h1.length
 have l2:=h2.length
 refine⟨by omega,by omega,fun p hp => ?_,fun c hc => ?_⟩
 ·obtain⟨b4,h4,h5⟩:=h1.each p hp
  exact AZ4 h5 (by omega)
 ·obtain⟨b4,h4,h5⟩:=h2.each c hc
  exact A1G h5 (by omega)
noncomputable def AWX (z:Int):Nat→AV:=fun n=>if n=0 then .fptr 1 [[.sl .any 1 (kw.map encStr)]] 0 0 else if n=1 then .fptr 1 [[.int .i64 z]] 0 0 else .junk
theorem A6E (z:Int):GOk (AWX z):=⟨⟨.any,rfl⟩,z,rfl⟩
theorem AWZ {H:Type}:(Rows.laid_testbench_lexer_keywords:DataW H) = .slice (kw.map fun s => .lit (.string s.data.toList)) []:=rfl
theorem AZK {w:World}{g:Nat}{k:IntKind}{z:Int}(h:w.cell? ⟨g,0,none⟩=some (.int k z)):RepF (M0 w) (.fptr 1 [[.int k z]] 0 0) (.pointer (some ⟨g,0,none⟩)):=by
 simp only[World.cell?] at h
 split at h
 case h_2=>simp at h
 rename_i cc ty fz hw
 have hcc:cc[0]? = some (.int k z):=by simpa using h
 refine .fptr 1 [[.int k z]] 0 0 g 0 cc ty fz (fun _ _ => .int k z) hw ?_ ?_ ?_
 ·intro i row hrow
  cases i with
  | zero =>
    simp at hrow; subst hrow
    refine⟨rfl,fun j v hv => ?_⟩
    cases j with
    | zero=>simp at hv; subst hv; rfl
    | succ j=>simp at hv
  | succ i=>simp at hrow
 ·intro i j hi hj
  obtain rfl:i=0:=by simpa using hi
  obtain rfl:j=0:=by omega
  exact hcc
 ·intro i j row v hrow hv
  cases i with
  | zero =>
    simp at hrow; subst hrow
    cases j with
    | zero=>simp at hv; subst hv; exact .int _ _
    | succ j=>simp at hv
  | succ i=>simp at hrow
theorem A8J {W:World}(h:laidMetH Tryz.prog [("testbench/lexer.keywords",Rows.laid_testbench_lexer_keywords)] W) (hsh:W.ShapedOpen Tryz.prog) :
  ∃ z,∀ n,RepF (M0 W) (AWX z n) (.pointer (some ⟨n,0,none⟩)):=by
 rw[MakeChecks.laidMetH_plain _ _ _ (by kernel_rfl)] at h
 obtain⟨ps,⟨g3,t3,cs3,f3,p3,q3,hg3,ht3,hv3,hd3,_,_⟩,_,_⟩:=h
 have hgk:Tryz.prog.globalNamed "testbench/lexer.keywords" = some 0:=by kernel_rfl
 have htk:(Tryz.prog.globals[0]?).map (·.type)=some 65:=by kernel_rfl
 obtain rfl:=Option.some.inj (hgk.symm.trans hg3)
 obtain rfl:=Option.some.inj (htk.symm.trans ht3)
 obtain⟨c,h1,h2⟩:=ATM Tryz.underlying65 Tryz.underlying9 cl9 AWZ hd3
 obtain⟨z,hz⟩:=cell_of_shapedOpen_int (P:=Tryz.prog) (g:=1) (t:=3) (zero := #[.int .i64 0]) hsh (of_decide_eq_true (by kernel_rfl)) (by kernel_rfl) rfl (by kernel_rfl) (by kernel_rfl) Tryz.underlying3
 refine⟨z,fun n => ?_⟩
 unfold AWX
 split
 ·rename_i hn; subst hn
  exact AZJ hg3 hv3 h1 h2 rfl
 ·split
  ·rename_i hn; subst hn
   exact AZK hz
  ·exact .junk _
end Go.Proofs.YtfpagfhhhlljjaaGreatDoor.Cov
namespace Go.Proofs.YtfpagfhhhlljjaaGreatDoor.Back

def ARB:Op→Bool
 | .move _=>true
 | .load _ _=>true
 | .store _ _ _=>true
 | .binOp _ _ _ _ _=>true
 | .indexAddr _ _ _=>true
 | _=>false
theorem AON {F F':Fence}{n:Nat}{P:Program}{o:Oper}{a:Act}{w:World}{K:Act→World→Prop}{Q:Exit→Act→World→Prop}(hp:ARB o.op=true)(h:o.wpIn F' n P a w K Q):o.wpIn F n P a w K Q:=by
 have hd : ∀ c,o.op≠.defer c:=fun c e=>by rw[e] at hp; cases hp
 have hab : ∀ f,o.about P w a.eval=some f→F.fn f:=by
  intro f hf
  unfold Oper.about at hf
  cases ho:o.op <;> rw[ho] at hf hp <;> first | (cases hp; done) | (cases hf; done)
 unfold Oper.wpIn at *
 refine⟨hab,?_⟩
 have h:=h.2
 rw[Oper.semAt_eq _ _ _ hd] at h ⊢
 have key:(∃ v w',(execOp a.eval o).run P w = .ok (.value v) w')∨(∃ w',(execOp a.eval o).run P w = .ok .skip w')∨∃ e w',(execOp a.eval o).run P w = .halt e w':=by
  have hv : ∀ s:Sem Value,(∃ v w',(do pure (.value (← s)):Sem Next).run P w = .ok (.value v) w')∨∃ e w',(do pure (.value (← s)):Sem Next).run P w = .halt e w':=by
   intro s
   simp only[Sem.run_bind]
   cases s.run P w with
   | ok v w'=>exact .inl ⟨v,w',rfl⟩
   | halt e w'=>exact .inr ⟨e,w',rfl⟩
  have hu : ∀ s:Sem Unit,(∃ w',(do s; pure .skip:Sem Next).run P w = .ok .skip w')∨∃ e w',(do s; pure .skip:Sem Next).run P w = .halt e w':=by
   intro s
   simp only[Sem.run_bind]
   cases s.run P w with
   | ok v w'=>exact .inl ⟨w',rfl⟩
   | halt e w'=>exact .inr ⟨e,w',rfl⟩
  unfold execOp
  cases ho:o.op <;> rw[ho] at hp <;> first | (cases hp; done) | skip
  case move x=>exact .inl ⟨_,_,rfl⟩
  case load t x =>
   rcases hv (Instr.loadAt t (a.eval x)) with h | h
   ·exact .inl h
   ·exact .inr (.inr h)
  case store t x y =>
   rcases hu (Instr.storeAt t (a.eval x) (a.eval y)) with h | h
   ·exact .inr (.inl h)
   ·exact .inr (.inr h)
  case binOp op t x y u =>
   rcases hv (do eqGuard op t x y (a.eval x) (a.eval y); binOp op t (a.eval x) (a.eval y)) with h | h
   ·exact .inl h
   ·exact .inr (.inr h)
  case indexAddr t x y =>
   rcases hv (Instr.indexAt t (a.eval x) (a.eval y)) with h | h
   ·exact .inl h
   ·exact .inr (.inr h)
 rcases key with⟨v,w',e⟩ | ⟨w',e⟩ | ⟨x,w',e⟩
 ·rw[e] at h ⊢; exact h
 ·rw[e] at h ⊢; exact h
 ·rw[e] at h ⊢
  cases x <;> exact h
theorem AHM {F F':Fence}{n:Nat}{P:Program}{md:Region.Mode}{ops:Array Oper}{Q:Exit→Act→World→Prop}(hp : ∀ (i:Nat) (o:Oper),ops[i]? = some o→ARB o.op=true∧o.guard=none) :
  ∀ (fuel:Nat) (listed:Array Bool) (a:Act) (w:World),wpAnyIn F' n P md ops Q fuel listed a w→wpAnyIn F n P md ops Q fuel listed a w
 | 0,_,_,_,h=>h
 | fuel+1,listed,a,w,h=>by
   refine⟨h.1,fun i hi => ?_⟩
   have h2:=h.2 i hi
   have h3:=wpOpIn_mono (fun a w=>AHM (F:=F) hp fuel _ a w) h2
   unfold wpOpIn at *
   split
   ·rename_i ho; simpa [ho] using h3
   ·rename_i o ho
    simp only[ho] at h3
    obtain⟨hp1,hp2⟩:=hp i o ho
    have hw:Region.wanted o (yielded ops a.tmps)=true:=by unfold Region.wanted; rw[hp2]
    simp only[hw,if_true] at h3 ⊢
    exact AON hp1 h3
end Go.Proofs.YtfpagfhhhlljjaaGreatDoor.Back
namespace Go.Proofs.YtfpagfhhhlljjaaGreatDoor.Back
open Go.RowKit Go.Shelf
open List renaming length_cons→zX,length_nil→qM,nil_append→qE,cons_append→qO
open Nat renaming reduceAdd→jM
attribute [local go_sem] Oper.semAt_some
def upto {α:Type}(f:Nat→α)(k:Nat):List α:=(List.range k).map f
theorem upto_succ {α:Type}(f:Nat→α)(k:Nat):upto f (k+1)=upto f k++[f k]:=by simp [upto,List.range_succ]
theorem upto_length {α:Type}(f:Nat→α)(k:Nat):(upto f k).length=k:=by simp [upto]
def Kb (n₀ Bs:Nat)(A B:World):Prop:=Below n₀ A B∧∀ v,A.cell? ⟨Bs,0,none⟩=some v→B.cell? ⟨Bs,0,none⟩=some v
theorem Kb.refl (n₀ Bs:Nat)(A:World):Kb n₀ Bs A A:=⟨Below.refl _ _,fun _ h=>h⟩
theorem Kb.trans {n₀ Bs:Nat}{A B C:World}(h:Kb n₀ Bs A B)(k:Kb n₀ Bs B C):Kb n₀ Bs A C:=⟨h.1.trans k.1,fun v hv=>k.2 v (h.2 v hv)⟩
set_option maxRecDepth 100000 in
set_option maxHeartbeats 2000000 in
theorem AYS {α:Type}(val:α→Nat × Int)(f:Nat→α)(F:Fence)(n:Nat)(h8:F.fn 192)(hro:F.round=none)(hn:1≤n)(l Bs n₀ b off len cap:Nat)(zs:List Int)(hreach:len≤1048576)(hb:b < n₀)(hf : ∀ k,k < len→val (f k)=(len - 1 - k,zs[len - 1 - k]?.getD 0))(J Jx:List α→World→Prop)
  (hY : ∀ pre x W,J pre W→pre.length < len→YieldAt F (n - 1) Tryz.prog l #[.int .i64 ((val x).1:Int),.int .i64 (val x).2] W fun e W' =>
   (e = .returned (.bool true)∧J (pre++[x]) W'∧Kb n₀ Bs W W')∨(e = .returned (.bool false)∧Jx (pre++[x]) W'))
  (W:World) (hBs:W.cell? ⟨Bs,0,none⟩=some (.slice (some ⟨b,off,none⟩) len cap)) (hc : ∀ j,j < len→W.cell? ⟨b,off+j,none⟩=some (.int .i64 (zs[j]?.getD 0))) (h0:J [] W) :
  CallsIn F n Tryz.prog 192 #[.func (.yield l) #[] #[],.pointer (some ⟨Bs,0,none⟩)] W fun e W'=>(∃ v,e = .returned v) ∧
   ((∃ ys,ys=upto f len∧J ys W')∨(∃ pre,(∃ k,k≤len∧pre=upto f k)∧Jx pre W')):=by
 refine callsIn_of_wp Tryz.func192 rfl h8 ?_ hro
 simp only[Tryz.ntmps192,List.size_toArray,zX,qM,jM,Nat.reduceSub,Array.replicate_succ,Array.replicate_zero,List.push_toArray,List.append_toArray,qE,qO]
 gi_wp2
 gi_loopw [3] (fun i wr=>Kb n₀ Bs W wr∧((∃ j k:Nat,j+k+1=len∧i = .int .i64 (j:Int)∧J (upto f k) wr)∨(i = .int .i64 (-1)∧J (upto f len) wr)))
  (fun i _=>(intOf i+1).toNat)
 case atStart =>
  refine⟨Kb.refl _ _ _,?_⟩
  rcases Nat.eq_zero_or_pos len with hz | hz
  ·subst hz
   exact .inr ⟨rfl,h0⟩
  ·exact .inl ⟨len - 1,0,by omega,by congr 1; omega,h0⟩
 case round =>
  obtain⟨hnx,⟨j,k,hjk,rfl,hJs⟩ | ⟨rfl,hJs⟩⟩:=hrel
  ·have hcx':wr.cell? ⟨b,off+j,none⟩=some (.int .i64 (zs[j]?.getD 0)):=(hnx.1.cell (p:=⟨b,off+j,none⟩) hb).trans (hc j (by omega))
   have hBs':wr.cell? ⟨Bs,0,none⟩=some (.slice (some ⟨b,off,none⟩) len cap):=hnx.2 _ hBs
   have hf':val (f k)=(j,zs[j]?.getD 0):=by
    have:len - 1 - k=j:=by omega
    rw[hf k (by omega),this]
   have hjl:j < len:=by omega
   obtain⟨fn,tmps,assign,body,hy,hR⟩:=hY _ (f k) wr hJs (by rw[upto_length]; omega)
   rw[hf'] at hy
   dsimp only at hy
   gi_wp2
   refine hR.mono ?_
   rintro e W3 (⟨rfl,hJ3,hk3⟩ | ⟨rfl,hJx3⟩)
   ·gi_wp2
    go_roundw
    case rel =>
     refine⟨hnx.trans hk3,?_⟩
     cases j with
     | zero =>
       refine .inr ⟨by simp,?_⟩
       have e:upto f len=upto f (k+1):=congrArg (upto _) (by omega)
       rw[e,upto_succ]; exact hJ3
     | succ j=>exact .inl ⟨j,k+1,by omega,by simp,by rw[upto_succ]; exact hJ3⟩
    case measure=>simp [intOf]
   ·gi_wp2
    refine bodyPost_ret (results_none rfl _ _ _) rfl ?_
    exact⟨⟨_,rfl⟩,.inr ⟨_,⟨k+1,by omega,by rw[upto_succ]⟩,hJx3⟩⟩
  ·gi_wp2
   go_end0
   exact⟨⟨_,rfl⟩,.inl ⟨_,rfl,hJs⟩⟩
set_option maxHeartbeats 1000000 in
theorem A1X (F:Fence)(n:Nat)(h5:F.fn 159)(hro:F.round=none)(a:Option Addr)(len cap:Nat)(w:World) :
  CallsIn F n Tryz.prog 159 #[.slice a len cap] w fun e w'=>e = .returned (.func (.func 192) #[] #[.pointer (some ⟨w.heap.size,0,none⟩)])∧w'=w.alloc (.cells #[.slice a len cap] 26):=by
 refine callsIn_of_wp Tryz.func159 rfl h5 ?_ hro
 simp only[Tryz.ntmps159,List.size_toArray,zX,qM,jM,Nat.reduceSub,Array.replicate_succ,Array.replicate_zero,List.push_toArray,List.append_toArray,qE,qO]
 gi_wp2
 go_ret
 exact⟨rfl,rfl⟩
theorem APX {α:Type}(val:α→Nat × Int)(f:Nat→α)(F:Fence)(n:Nat)(h8:F.fn 192)(hro:F.round=none)(hn:1≤n)(Bs n₀ b off cap:Nat)(zs:List Int)(hreach:zs.length≤1048576)(hf : ∀ k,k < zs.length→val (f k)=(zs.length - 1 - k,zs[zs.length - 1 - k]?.getD 0))(w:World)(hBs0:Bs < w.heap.size)(hn₀:n₀≤w.heap.size)(hb:b < n₀)
  (hBs:w.cell? ⟨Bs,0,none⟩=some (.slice (some ⟨b,off,none⟩) zs.length cap)) (hc : ∀ j,j < zs.length→w.cell? ⟨b,off+j,none⟩=some (.int .i64 (zs[j]?.getD 0))) :
  SeqStopsK F n Tryz.prog 192 #[.pointer (some ⟨Bs,0,none⟩)] (fun x:α => #[Value.int .i64 ((val x).1:Int),.int .i64 (val x).2]) (Kb n₀ Bs) (fun ys=>ys=upto f zs.length) (fun _=>True) zs.length w:=fun l J Jx W hW _ _ hY h0=>by
 refine(AYS val f F n h8 hro hn l Bs n₀ b off zs.length cap zs hreach hb hf J Jx hY W ((hW.cell (p:=⟨Bs,0,none⟩) hBs0).trans hBs) (fun j hj=>(hW.cell (p:=⟨b,off+j,none⟩) (Nat.lt_of_lt_of_le hb hn₀)).trans (hc j hj)) h0).mono ?_
 rintro e W' ⟨he,⟨ys,rfl,hj⟩ | ⟨pre,_,hj⟩⟩
 ·exact⟨he,.inl ⟨_,rfl,hj⟩⟩
 ·exact⟨he,.inr ⟨_,trivial,hj⟩⟩
end Go.Proofs.YtfpagfhhhlljjaaGreatDoor.Back
set_option linter.unusedVariables false
namespace Go.Proofs.YtfpagfhhhlljjaaGreatDoor.Back
open Go.RowKit Go.Shelf
open Int renaming toNat_natCast→qV
open List renaming replicate→jZ,getElem?_eq_getElem→jS
open Nat renaming le_refl→jL
open Option renaming getD_some→jA
attribute [local go_sem] Oper.semAt_some
theorem A0P (w:World):(Instr.makeSlice 26 (.int .i64 0) (.int .i64 0)).run Tryz.prog w = .ok (.slice (some ⟨w.heap.size,0,none⟩) 0 0) (w.alloc (.cells #[] 3)):=by kernel_rfl
theorem A0O (w:World):(Instr.makeSlice 26 (.int .i64 1) (.int .i64 1)).run Tryz.prog w = .ok (.slice (some ⟨w.heap.size,0,none⟩) 1 1) (w.alloc (.cells #[.int .i64 0] 3)):=by kernel_rfl
theorem A0N (w:World):(Instr.makeSlice 26 (.int .i64 2) (.int .i64 2)).run Tryz.prog w = .ok (.slice (some ⟨w.heap.size,0,none⟩) 2 2) (w.alloc (.cells #[.int .i64 0,.int .i64 0] 3)):=by kernel_rfl
theorem A0M (w:World):(Instr.makeSlice 26 (.int .i64 3) (.int .i64 3)).run Tryz.prog w = .ok (.slice (some ⟨w.heap.size,0,none⟩) 3 3) (w.alloc (.cells #[.int .i64 0,.int .i64 0,.int .i64 0] 3)):=by kernel_rfl
theorem A0L (w:World):(Instr.makeSlice 26 (.int .i64 4) (.int .i64 4)).run Tryz.prog w = .ok (.slice (some ⟨w.heap.size,0,none⟩) 4 4) (w.alloc (.cells #[.int .i64 0,.int .i64 0,.int .i64 0,.int .i64 0] 3)):=by kernel_rfl
theorem A37 (n:Nat)(hn:n≤4)(w:World):(Instr.makeSlice 26 (.int .i64 (n:Int)) (.int .i64 (n:Int))).run Tryz.prog w = .ok (.slice (some ⟨w.heap.size,0,none⟩) n n) (w.alloc (.cells (Array.replicate n (.int .i64 0)) 3)):=by
 have h:n=0∨n=1∨n=2∨n=3∨n=4:=by omega
 rcases h with rfl | rfl | rfl | rfl | rfl
 ·exact A0P w
 ·exact A0O w
 ·exact A0N w
 ·exact A0M w
 ·exact A0L w
abbrev Pr (n:Nat) := { x:Nat × Int // x.1 < n∧1≤x.2∧x.2≤64 }
def stp (s:List Nat × Nat)(x:Nat × Int):List Nat × Nat:=(s.1.set x.1 (s.2 % x.2.toNat),s.2 / x.2.toNat)
def fld (n K:Nat)(pre:List (Pr n)):List Nat × Nat:=(pre.map (·.1)).foldl stp (jZ n 0,K)
theorem AMM (n K:Nat)(pre:List (Pr n))(x:Pr n):fld n K (pre++[x])=stp (fld n K pre) x.1:=by unfold fld; rw[List.map_append,List.foldl_append]; rfl
theorem A01 (n K:Nat)(pre:List (Pr n)):(fld n K pre).1.length=n:=by
 unfold fld
 have gen : ∀ (l:List (Nat × Int)) (s:List Nat × Nat),s.1.length=n→(l.foldl stp s).1.length=n:=by
  intro l
  induction l with
  | nil=>intro s h; exact h
  | cons x l ih=>intro s h; exact ih _ (by simp [stp,h])
 exact gen _ _ (by simp)
theorem A4F (n K:Nat)(pre:List (Pr n)):(fld n K pre).2≤K:=by
 unfold fld
 have gen : ∀ (l:List (Nat × Int)) (s:List Nat × Nat),s.2≤K→(l.foldl stp s).2≤K:=by
  intro l
  induction l with
  | nil=>intro s h; exact h
  | cons x l ih=>intro s h; exact ih _ (Nat.le_trans (Nat.div_le_self _ _) h)
 exact gen _ _ (jL _)
theorem AML (ns:List Nat)(K:Nat)(f:Nat→Pr ns.length)(hf : ∀ k,k < ns.length→(f k).1=(ns.length - 1 - k,((ns[ns.length - 1 - k]?.getD 0:Nat):Int))) :
  ∀ k,k≤ns.length→fld ns.length K (upto f k)=(jZ (ns.length - k) 0++(Cov.tupF (ns.drop (ns.length - k)) K).1,(Cov.tupF (ns.drop (ns.length - k)) K).2)
 | 0,_=>by
   rw[Nat.sub_zero,List.drop_eq_nil_of_le (jL _)]
   simp [fld,upto,Cov.tupF]
 | k+1,hk=>by
   have ih:=AML ns K f hf k (by omega)
   rw[upto_succ,AMM,ih,hf k (by omega)]
   have hj:ns.length - (k+1) < ns.length:=by omega
   have e1:ns.length - 1 - k=ns.length - (k+1):=by omega
   have e2:ns.length - k=ns.length - (k+1)+1:=by omega
   rw[Cov.tup_step hj,e1,e2,jS hj]
   generalize Cov.tupF (ns.drop (ns.length - (k+1)+1)) K=r
   simp only[stp,jA,qV,Prod.mk.injEq,and_true]
   rw[List.replicate_succ',List.append_assoc,List.set_append_right _ _ (by simp)]
   simp
theorem AFX {ns:List Nat}{K:Nat}{w W0 W:World}{pre:List (Pr ns.length)}{xi xm s:Nat}{c:Array Value}{px:(xi,(xm:Int)).1 < ns.length∧1≤(xi,(xm:Int)).2∧(xi,(xm:Int)).2≤64}{a:Act}(hs0:W0.heap.size=w.heap.size+4)(hx1:xi < ns.length)(hxn:xm≠0)
  (hk:W.cell? ⟨w.heap.size,0,none⟩=some (.int .i64 (s:Int))) (hkf:W.frozen? ⟨w.heap.size,0,none⟩=false) (hc1:W.heap[w.heap.size+1]? = some (.cells c 3 (0,0))) (hc2:c=((fld ns.length K pre).1.map fun n:Nat=>Value.int .i64 (n:Int)).toArray)
  (hbx:W.cell? ⟨w.heap.size+2,0,none⟩=some (.slice (some ⟨w.heap.size+1,0,none⟩) ns.length ns.length)) (hBW:Below w.heap.size w W) (hs:(fld ns.length K pre).2=s) (hcs:c.size=ns.length) :
  ownPostG W0.heap.size (Kb w.heap.size (w.heap.size+3))
   (fun pre W=>((W.cell? ⟨w.heap.size,0,none⟩=some (.int .i64 ((fld ns.length K pre).2:Nat))∧W.frozen? ⟨w.heap.size,0,none⟩=false)∧(∃ c,W.heap[w.heap.size+1]? = some (.cells c 3 (0,0))∧c=((fld ns.length K pre).1.map fun n:Nat=>Value.int .i64 (n:Int)).toArray)∧W.cell? ⟨w.heap.size+2,0,none⟩=some (.slice (some ⟨w.heap.size+1,0,none⟩) ns.length ns.length))∧Below w.heap.size w W)
   (fun _ _ _=>False) (pre++[⟨(xi,(xm:Int)),px⟩]) W .normal a
   ((W.setCell ⟨w.heap.size+1,xi,none⟩ (.int .i64 ((s:Int) % (xm:Int)))).setCell ⟨w.heap.size,0,none⟩ (.int .i64 ((s:Int) / (xm:Int)))).drew:=by
 generalize hS:w.heap.size=S at *
 have hoth : ∀ k,k≠S→k≠S+1→((W.setCell ⟨S+1,xi,none⟩ (.int .i64 ((s:Int) % (xm:Int)))).setCell ⟨S,0,none⟩ (.int .i64 ((s:Int) / (xm:Int)))).drew.heap[k]? = W.heap[k]? := fun k h1 h2 =>
  (Below.heap_setCell _ ⟨S,0,none⟩ _ k h1).trans (Below.heap_setCell _ ⟨S+1,xi,none⟩ _ k h2)
 have hBl:Below S W ((W.setCell ⟨S+1,xi,none⟩ (.int .i64 ((s:Int) % (xm:Int)))).setCell ⟨S,0,none⟩ (.int .i64 ((s:Int) / (xm:Int)))).drew :=
  (((Below.refl S W).setCell (p:=⟨S+1,xi,none⟩) (Nat.le_succ S) _).setCell (p:=⟨S,0,none⟩) (jL S) _).drew
 have hst:fld ns.length K (pre++[⟨(xi,(xm:Int)),px⟩])=((fld ns.length K pre).1.set xi (s % xm),s / xm):=by
  rw[AMM]
  simp only[stp,qV,hs]
 refine⟨⟨hBl.size,fun k o hk1 hk2 _=>(hoth k (by omega) (by omega)).trans hk2⟩,⟨hBl,fun v hv=>(World.cell?_of_block (hoth (S+3) (by omega) (by omega))).trans hv⟩,⟨⟨⟨?_,?_⟩,⟨c.setIfInBounds xi (.int .i64 ((s:Int) % (xm:Int))),?_,?_⟩,?_⟩,hBW.trans hBl⟩⟩
 ·rw[hst]
  have h1:(W.setCell ⟨S+1,xi,none⟩ (.int .i64 ((s:Int) % (xm:Int)))).cell? ⟨S,0,none⟩=some (.int .i64 (s:Int)):=(World.cell?_of_block (heap_setCell_other W ⟨S+1,xi,none⟩ S _ (by simp))).trans hk
  exact World.cell?_setCell_same _ _ _ h1
 ·show World.frozen? ((W.setCell _ _).setCell _ _) _=false
  rw[World.frozen?_setCell,World.frozen?_setCell]; exact hkf
 ·have h1:=heap_setCell_same W (S+1) xi c 3 (.int .i64 ((s:Int) % (xm:Int))) hc1
  exact(heap_setCell_other (W.setCell ⟨S+1,xi,none⟩ (.int .i64 ((s:Int) % (xm:Int)))) ⟨S,0,none⟩ (S+1) _ (by simp)).trans h1
 ·rw[hst,hc2]
  simp only[List.setIfInBounds_toArray,List.map_set,Array.mk.injEq]
  rfl
 ·exact(World.cell?_of_block (hoth (S+2) (by omega) (by omega))).trans hbx
set_option maxRecDepth 100000 in
set_option maxHeartbeats 2000000 in
theorem tuple_in (F:Fence)(n:Nat)(h3:F.fn 114)(h5:F.fn 159)(h7:F.fn 192)(hro:F.round=none)(hn:3≤n)(b off cap:Nat)(ns:List Nat)(K:Nat)(w:World)(hb:b < w.heap.size)
  (hc : ∀ j,j < ns.length→w.cell? ⟨b,off+j,none⟩=some (.int .i64 ((ns[j]?.getD 0:Nat):Int))) (hlen:ns.length≤4) (hz:0 < ns.length) (hpos : ∀ x∈ns,1≤x∧x≤64) (hK:K≤1048576) :
  CallsIn F n Tryz.prog 114 #[.slice (some ⟨b,off,none⟩) ns.length cap,.int .i64 (K:Int)] w fun e W'=>Below w.heap.size w W'∧∃ c ty,e = .returned (.slice (some ⟨w.heap.size+1,0,none⟩) ns.length ns.length) ∧
   W'.heap[w.heap.size+1]? = some (.cells c ty (0,0))∧∀ i (hi:i < (Cov.tupF ns K).1.length),c[i]? = some (.int .i64 (((Cov.tupF ns K).1[i]:Nat):Int)):=by
 have h1:1≤n:=by omega
 refine callsIn_of_wp_marks Tryz.func114 rfl h3 ?_ hro
 simp only[Tryz.ntmps114,List.size_toArray,List.length_cons,List.length_nil,Nat.reduceAdd,Nat.reduceSub,Array.replicate_succ,Array.replicate_zero,List.push_toArray,List.append_toArray,List.nil_append,List.cons_append]
 have hmk:=fun w:World=>A37 ns.length hlen w
 gi_wp2_with (gi_at_call 159; refine(A1X F (n - 1) h5 hro _ _ _ _).mono ?_; rintro e w' ⟨rfl,rfl⟩)
 have hx : ∀ k,k < ns.length→ns.length - 1 - k < ns.length∧(1:Int)≤((ns[ns.length - 1 - k]?.getD 1:Nat):Int)∧((ns[ns.length - 1 - k]?.getD 1:Nat):Int)≤64:=by
  intro k hk
  have hj:ns.length - 1 - k < ns.length:=by omega
  rw[jS hj]
  have:=hpos _ (List.getElem_mem hj)
  simp only[jA]
  omega
 have hgd : ∀ k,k < ns.length→ns[ns.length - 1 - k]?.getD 1=ns[ns.length - 1 - k]?.getD 0:=by
  intro k hk
  rw[jS (show ns.length - 1 - k < ns.length by omega)]; rfl
 obtain⟨f,hf⟩ : ∃ f:Nat→Pr ns.length,∀ k,k < ns.length→(f k).1=(ns.length - 1 - k,((ns[ns.length - 1 - k]?.getD 0:Nat):Int)):=by
  ·refine⟨fun k=>if hk:k < ns.length then ⟨(ns.length - 1 - k,((ns[ns.length - 1 - k]?.getD 1:Nat):Int)),hx k hk⟩ else ⟨(ns.length - 1 - 0,((ns[ns.length - 1 - 0]?.getD 1:Nat):Int)),hx 0 hz⟩,fun k hk => ?_⟩
   simp only[dif_pos hk,hgd k hk]
 have bK:=Boxed.new w 3 (.int .i64 (K:Int))
 have hzs:((ns.map fun n:Nat=>(n:Int)).length)=ns.length:=by simp
 have hzg : ∀ j:Nat,(ns.map fun n:Nat=>(n:Int))[j]?.getD 0=((ns[j]?.getD 0:Nat):Int):=by
  intro j
  rw[List.getElem?_map]
  cases ns[j]? <;> rfl
 generalize hW0:((((w.alloc (Obj.cells #[Value.int .i64 (K:Int)] 3)).alloc (Obj.cells (Array.replicate ns.length (Value.int .i64 0)) 3)).alloc (Obj.cells #[Value.slice (some ⟨w.heap.size+1,0,none⟩) ns.length ns.length] 26)).alloc (Obj.cells #[Value.slice (some ⟨b,off,none⟩) ns.length cap] 26))=W0
 have hs0:W0.heap.size=w.heap.size+4:=by rw[← hW0]; simp
 have hB0:Below w.heap.size w W0:=by
  rw[← hW0]
  exact((((Below.refl _ w).alloc (jL _) _).alloc (by simp) _).alloc (by simp; omega) _).alloc (by simp; omega) _
 refine wpIn_rangeFunc_ownG hro h1 (gf:=192) (lb := #[.pointer (some ⟨w.heap.size+3,0,none⟩)]) rfl h7 (enters_of Tryz.func192 (by kernel_rfl) rfl)
  (w0:=W0) (APX (fun x:Pr ns.length=>x.1) f F (n - 1) h7 hro (by omega) (w.heap.size+3) w.heap.size b off cap (ns.map fun n:Nat=>(n:Int)) (by rw[hzs]; omega) (fun k hk=>by rw[hzs] at hk; rw[hf k hk,hzs,hzg]) W0 (by omega) (by omega) hb ?box ?cells)
  (fun h k=>Kb.trans h k) ?keepb (Below.refl _ _) (fun _=>rfl)
  (fun pre W=>((W.cell? ⟨w.heap.size,0,none⟩=some (.int .i64 ((fld ns.length K pre).2:Nat))∧W.frozen? ⟨w.heap.size,0,none⟩=false)∧(∃ c,W.heap[w.heap.size+1]? = some (.cells c 3 (0,0))∧c=((fld ns.length K pre).1.map fun n:Nat=>Value.int .i64 (n:Int)).toArray)∧W.cell? ⟨w.heap.size+2,0,none⟩=some (.slice (some ⟨w.heap.size+1,0,none⟩) ns.length ns.length))∧Below w.heap.size w W)
  (fun _ _ _=>False) ?own ?ownx ?start
  (fun x => { tmps := #[.slice (some ⟨b,off,none⟩) ns.length cap,.int .i64 (K:Int),undef,.pointer (some ⟨w.heap.size,0,none⟩),.slice none 0 0,.pointer (some ⟨w.heap.size+2,0,none⟩),.int .i64 (x.1.1:Int),.int .i64 x.1.2,.slice (some ⟨b,off,none⟩) ns.length cap,.int .i64 (ns.length:Int),.slice (some ⟨w.heap.size+1,0,none⟩) ns.length ns.length,.slice (some ⟨b,off,none⟩) ns.length cap,.func (.func 192) #[] #[.pointer (some ⟨w.heap.size+3,0,none⟩)],.int .i64 (x.1.1:Int),.int .i64 x.1.2,undef,undef,undef,undef,undef,undef,undef,undef,undef,undef],defers := [] }) ?assign ?body ?done ?stop
 case box =>
  rw[← hW0,hzs]
  have h3:=(Boxed.new (((w.alloc (Obj.cells #[Value.int .i64 (K:Int)] 3)).alloc (Obj.cells (Array.replicate ns.length (Value.int .i64 0)) 3)).alloc (Obj.cells #[Value.slice (some ⟨w.heap.size+1,0,none⟩) ns.length ns.length] 26)) 26 (.slice (some ⟨b,off,none⟩) ns.length cap)).cell
  simpa using h3
 case cells =>
  intro j hj
  rw[hzs] at hj
  rw[hzg]
  exact(hB0.cell (p:=⟨b,off+j,none⟩) hb).trans (hc j hj)
 case keepb =>
  intro W l o o' hl ho hoc how
  refine⟨belowK_b (w:=W0) (by omega) W l o o' hl ho hoc how,fun v hv => ?_⟩
  exact cell_kept hv (grownBy_putObj' W l o') (fun r e=>by cases e; exact⟨o,ho,hoc⟩)
 case own =>
  refine OwnFrom.and (Own.from (fun s A B row hs hg hr=>⟨⟨cell_kept hs.1.1 hg hr,(frozen_kept hs.1.1 hg hr).trans hs.1.2⟩,?_,cell_kept hs.2.2 hg hr⟩) _) (ownFrom_below (jL _) (by omega))
  obtain⟨c,h1,h2⟩:=hs.2.1
  exact⟨c,(hg.block _ (Array.getElem?_eq_some_iff.1 h1).1 (fun e=>by obtain⟨o,ho,hcc⟩:=hr _ e.symm; rw[h1] at ho; cases ho; cases hcc)).trans h1,h2⟩
 case ownx=>exact fun _ _ _ _ _ hs _ _=>hs
 case start =>
  have g1:=((bK.alloc (Obj.cells (Array.replicate ns.length (Value.int .i64 0)) 3)).alloc (Obj.cells #[Value.slice (some ⟨w.heap.size+1,0,none⟩) ns.length ns.length] 26)).alloc (Obj.cells #[Value.slice (some ⟨b,off,none⟩) ns.length cap] 26)
  rw[hW0] at g1
  refine⟨⟨⟨g1.cell,g1.frozen⟩,⟨Array.replicate ns.length (Value.int .i64 0),?_,?_⟩,?_⟩,hB0⟩
  ·rw[← hW0]
   refine(Below.heap_alloc _ _ _ (by simp)).trans ((Below.heap_alloc _ _ _ (by simp)).trans ?_)
   have:=World.alloc_heap_new (w.alloc (Obj.cells #[Value.int .i64 (K:Int)] 3)) (Obj.cells (Array.replicate ns.length (Value.int .i64 0)) 3)
   rwa [World.size_alloc] at this
  ·simp [fld]
  ·have g2:=(Boxed.new ((w.alloc (Obj.cells #[Value.int .i64 (K:Int)] 3)).alloc (Obj.cells (Array.replicate ns.length (Value.int .i64 0)) 3)) 26 (.slice (some ⟨w.heap.size+1,0,none⟩) ns.length ns.length)).alloc (Obj.cells #[Value.slice (some ⟨b,off,none⟩) ns.length cap] 26)
   rw[hW0] at g2
   have h4:=g2.cell
   rw[World.size_alloc,World.size_alloc] at h4
   exact h4
 case assign =>
  intro l x W K hK
  gi_wp2
  exact hK
 case body =>
  rintro l pre ⟨⟨xi,xn⟩,hx1,hx2,hx3⟩ W ⟨⟨⟨hk,hkf⟩,⟨c,hc1,hc2⟩,hbx⟩,hBW⟩ hpre
  simp only at hx1 hx2 hx3
  obtain⟨s,hs⟩ : ∃ s,(fld ns.length K pre).2=s:=⟨_,rfl⟩
  rw[hs] at hk
  have hsK:s≤1048576:=by
   have:=A4F ns.length K pre
   omega
  obtain⟨xm,rfl⟩ : ∃ xm:Nat,xn=(xm:Int):=⟨xn.toNat,by omega⟩
  have hxn:xm≠0:=by omega
  have hcs:c.size=ns.length:=by rw[hc2]; simp [A01]
  have hoc:W.frozen? ⟨w.heap.size+1,xi,none⟩=false:=by simp [World.frozen?,hc1]
  have hcx : ∃ v,W.cell? ⟨w.heap.size+1,xi,none⟩=some v:=⟨c[xi]'(by omega),by simp [World.cell?,hc1,hcs,hx1]⟩
  obtain⟨v0,hv0⟩:=hcx
  have hq0:(0:Int)≤(s:Int) / (xm:Int):=Int.ediv_nonneg (by omega) (by omega)
  have hq1:(s:Int) / (xm:Int)≤1048576:=Int.le_trans (Int.ediv_le_self _ (by omega)) (by omega)
  gi_wp2
  rename_i Qb Kr hKr
  refine wpIn_region_any (by kernel_rfl) ?_
  refine AHM (F':=F) (fun i o ho => ?_) _ _ _ _ ?_
  ·match i,ho with
   | 0,ho=>cases ho; exact⟨rfl,rfl⟩
   | 1,ho=>cases ho; exact⟨rfl,rfl⟩
   | 2,ho=>cases ho; exact⟨rfl,rfl⟩
   | 3,ho=>cases ho; exact⟨rfl,rfl⟩
   | 4,ho=>cases ho; exact⟨rfl,rfl⟩
   | 5,ho=>cases ho; exact⟨rfl,rfl⟩
   | 6,ho=>cases ho; exact⟨rfl,rfl⟩
   | i+7,ho=>simp at ho
  change wpAnyIn _ _ _ _ _ _ _ _ _ (World.drew _)
  refine wpAnyIn_take (i:=1) (v := ?_) hro rfl (by kernel_rfl) (by kernel_rfl) (by kernel_rfl) (fun _ _ _ h=>h) ⟨Or.inl ⟨by rfl,?_⟩,fun _=>rfl⟩ ?_
  rotate_left
  ·intro w; go_simp; rfl
  refine wpAnyIn_take (i:=3) (v := ?_) hro rfl (by kernel_rfl) (by kernel_rfl) (by kernel_rfl) (fun _ _ _ h=>h) ⟨Or.inl ⟨by rfl,?_⟩,fun _=>rfl⟩ ?_
  rotate_left
  ·intro w; go_simp; rfl
  refine wpAnyIn_ready (rs := [0,2]) (by kernel_rfl) (by simp) ?_
  refine AllReadyIn.cons rfl (fun K hK => ?_) (AllReadyIn.cons rfl (fun K hK => ?_) AllReadyIn.nil)
  ·go_simp
   refine hK _ _ ?_; clear hK K
   refine wpAnyIn_ready (rs := [2]) (by kernel_rfl) (by simp) ?_
   refine AllReadyIn.cons rfl (fun K hK => ?_) AllReadyIn.nil
   go_simp
   refine hK _ _ ?_; clear hK K
   refine wpAnyIn_ready (rs := [4]) (by kernel_rfl) (by simp) ?_
   refine AllReadyIn.cons rfl (fun K hK => ?_) AllReadyIn.nil
   go_simp
   refine hK _ _ ?_; clear hK K
   refine wpAnyIn_ready (rs := [5]) (by kernel_rfl) (by simp) ?_
   refine AllReadyIn.cons rfl (fun K hK => ?_) AllReadyIn.nil
   go_simp
   refine hK _ _ ?_; clear hK K
   refine wpAnyIn_ready (rs := [6]) (by kernel_rfl) (by simp) ?_
   refine AllReadyIn.cons rfl (fun K hK => ?_) AllReadyIn.nil
   go_simp
   refine hK _ _ ?_; clear hK K
   refine wpAnyIn_done (by kernel_rfl) ?_ _
   refine hKr _ _ ?_
   clear hKr
   gi_wp2
   exact AFX hs0 hx1 hxn hk hkf hc1 hc2 hbx hBW hs hcs
  ·go_simp
   refine hK _ _ ?_; clear hK K
   refine wpAnyIn_ready (rs := [0,4]) (by kernel_rfl) (by simp) ?_
   refine AllReadyIn.cons rfl (fun K hK => ?_) (AllReadyIn.cons rfl (fun K hK => ?_) AllReadyIn.nil)
   ·go_simp
    refine hK _ _ ?_; clear hK K
    refine wpAnyIn_ready (rs := [4]) (by kernel_rfl) (by simp) ?_
    refine AllReadyIn.cons rfl (fun K hK => ?_) AllReadyIn.nil
    go_simp
    refine hK _ _ ?_; clear hK K
    refine wpAnyIn_ready (rs := [5]) (by kernel_rfl) (by simp) ?_
    refine AllReadyIn.cons rfl (fun K hK => ?_) AllReadyIn.nil
    go_simp
    refine hK _ _ ?_; clear hK K
    refine wpAnyIn_ready (rs := [6]) (by kernel_rfl) (by simp) ?_
    refine AllReadyIn.cons rfl (fun K hK => ?_) AllReadyIn.nil
    go_simp
    refine hK _ _ ?_; clear hK K
    refine wpAnyIn_done (by kernel_rfl) ?_ _
    refine hKr _ _ ?_
    clear hKr
    gi_wp2
    exact AFX hs0 hx1 hxn hk hkf hc1 hc2 hbx hBW hs hcs
   ·go_simp
    refine hK _ _ ?_; clear hK K
    refine wpAnyIn_ready (rs := [0]) (by kernel_rfl) (by simp) ?_
    refine AllReadyIn.cons rfl (fun K hK => ?_) AllReadyIn.nil
    go_simp
    refine hK _ _ ?_; clear hK K
    refine wpAnyIn_ready (rs := [5]) (by kernel_rfl) (by simp) ?_
    refine AllReadyIn.cons rfl (fun K hK => ?_) AllReadyIn.nil
    go_simp
    refine hK _ _ ?_; clear hK K
    refine wpAnyIn_ready (rs := [6]) (by kernel_rfl) (by simp) ?_
    refine AllReadyIn.cons rfl (fun K hK => ?_) AllReadyIn.nil
    go_simp
    refine hK _ _ ?_; clear hK K
    refine wpAnyIn_done (by kernel_rfl) ?_ _
    refine hKr _ _ ?_
    clear hKr
    gi_wp2
    exact AFX hs0 hx1 hxn hk hkf hc1 hc2 hbx hBW hs hcs
 case done =>
  rintro D ys W hD rfl ⟨⟨_,⟨c,hcc,he⟩,hc5⟩,hB⟩ hKD
  gi_wp2
  refine⟨by simp,.inl ⟨_,_,rfl,run_takeDeferred hKD,?_⟩⟩
  refine⟨_,results_tmp rfl _ _ _,hB.trans (belowK_b (w:=w) (jL _) W D _ _ (by omega) hKD rfl rfl),c,3,rfl,?_,?_⟩
  ·exact((grownBy_putObj' W D (.deferred none)).block _ (Array.getElem?_eq_some_iff.1 hcc).1 (fun e=>by cases e; rw[hcc] at hKD; cases hKD)).trans hcc
  ·intro i hi
   have hfu:=AML ns K f hf ns.length (jL _)
   rw[Nat.sub_self,List.drop_zero] at hfu
   rw[hzs] at he
   rw[he,hfu]
   simp [hi]
 case stop =>
  rintro D c pre W _ _ h _
  exact h.elim
end Go.Proofs.YtfpagfhhhlljjaaGreatDoor.Back
namespace Go.Proofs.YtfpagfhhhlljjaaGreatDoor.Cov
open Sm Bins Go.RowKit
open List renaming length_map→jH,getElem?_eq_getElem→jS
open Nat renaming le_refl→jL
theorem A5A (G:Nat→AV):VW G:=by
 intro ns s K h hz hlen hpos hK
 have hne:O6 ns K≠[]:=by
  intro e
  have h1:(O6 ns K).length=ns.length:=by unfold O6; rw[jH,RU]
  rw[e] at h1; simp at h1; omega
 have hnn:ns.map JI≠[]:=by
  intro e
  have:=congrArg List.length e
  simp at this; rw[this] at hz; cases hz
 refine PCall.of_ints (cok 114 G (by kernel_rfl)) hne fun g w cargs S ha => ?_
 obtain⟨hsz,hget⟩:=ha
 obtain⟨cv0,cv1,rfl⟩ : ∃ a b,cargs = #[a,b]:=by
  obtain⟨l⟩:=cargs
  match l,hsz with
  | [a,b],_=>exact⟨a,b,rfl⟩
 have r0:=(hget 0 _ _ rfl rfl).sl_inv
 have r1:=(hget 1 _ _ rfl rfl).int_inv
 subst r1
 generalize hxs:ns.map JI=xs at r0
 cases r0 with
 | nil=>rw[hxs] at hnn; exact absurd rfl hnn
 | empty=>rw[hxs] at hnn; exact absurd rfl hnn
 | sl _ _ _ cb co c e fz cap cv q1 q2 q3 q4 q5 q6 q7 q8 =>
   subst hxs
   have hw:=S.fro _ _ q3
   have hcb:cb < w.heap.size:=(Array.getElem?_eq_some_iff.1 hw).1
   rw[jH]
   have hc : ∀ j,j < ns.length→w.cell? ⟨cb,co+j,none⟩=some (.int .i64 ((ns[j]?.getD 0:Nat):Int)):=by
    intro j hj
    have h1:=q5 j 0 (by simpa using hj) (by omega)
    have h2:=q6 j 0 (JI ns[j]) (.int .i64 (ns[j]:Int)) (by rw[List.getElem?_map,jS hj]; rfl) rfl
    rw[Nat.mul_one,Nat.add_zero] at h1
    rw[RJ hw,h1,jS hj,Option.getD_some]
    generalize cv j 0=u at h2
    cases h2; rfl
   have hin:=Back.tuple_in Fence.wide 3 trivial trivial trivial rfl (jL 3) cb co cap ns K w hcb hc hlen hz hpos hK
   refine(callsIn_wide.1 hin).mono ?_
   rintro e W' ⟨hB,c',ty,rfl,hh,hcell⟩
   have hl:(O6 ns K).length=ns.length:=by unfold O6; rw[jH,RU]
   refine⟨hB,w.heap.size+1,c',ty,ns.length,by rw[hl],Nat.le_succ _,hh,by rw[hl]; exact jL _,fun i hi => ?_⟩
   have hi':i < (tupF ns K).1.length:=by rw[RU,← hl]; exact hi
   rw[hcell i hi']
   simp [O6]
end Go.Proofs.YtfpagfhhhlljjaaGreatDoor.Cov
namespace Go.Proofs.YtfpagfhhhlljjaaGreatDoor.Head
open List renaming contains_nil→jJ

def signs:List Char:=([104,97,114,110,101,115,115,32,50,57,51,102,98,55,54,48,48,50,99,100,50,101,102,52,48,98,97,101,101,57,100,101,97,102,102,98,98,98,100,54,55,53,102,51,48,100,48,54,48,49,51,50,49,49,53,53,55,57,52,54,99,57,48,102,56,51,54,57,54,50,57,56,32,99,117,116,32,97,116,32,116,101,115,116,98,101,110,99,104,47,116,101,115,116,98,101,110,99,104,108,97,119,53,48,46,72,111,108,101,67,104,101,99,107,115,32,116,101,115,116,98,101,110,99,104,47,116,101,115,116,98,101,110,99,104,108,97,119,53,48,46,72,111,108,101,67,111,110,100,105,116,105,111,110,115,32,116,101,115,116,98,101,110,99,104,47,116,101,115,116,98,101,110,99,104,108,97,119,53,48,46,72,111,108,101,84,101,108,108,115,32,116,101,115,116,98,101,110,99,104,47,116,101,115,116,98,101,110,99,104,108,97,119,53,48,46,72,111,108,101,72,105,116,115,32,116,101,115,116,98,101,110,99,104,47,116,101,115,116,98,101,110,99,104,108,97,119,53,48,46,72,111,108,101,78,101,101,100,115,32,116,101,115,116,98,101,110,99,104,47,116,101,115,116,98,101,110,99,104,108,97,119,53,48,46,72,111,108,101,78,97,109,101,115]:List Nat).map Char.ofNat
theorem AWD:Tryz.pinned.checked.prog.initOrder=String.ofList signs:=by kernel_rfl
theorem AG9 {s:String}{l:List Char}(h:s=String.ofList l):s.toList=l:=by rw[h,String.toList_ofList]
theorem ZU:Tryz.pinned.checked.prog.initOrder.toList=signs:=AG9 AWD
def AM6:List Char:=(signs.drop 73).take 3
def AV0:List (List Char):=wordsSigns (signs.drop 77)
def hsum:List Char:=(signs.drop 8).take 64
theorem ADP:behindMainWord (wordsSigns signs)=AM6 :: AV0:=by kernel_rfl
theorem A3F:wordsSigns signs=signs.take 7 :: hsum :: wordsSigns (signs.drop 73):=by kernel_rfl
theorem AKR:stripLifts liftWords (AM6 :: AV0)=([],AM6 :: AV0):=by kernel_rfl
theorem A1A:Tryz.pinned.checked.prog.doorFits []=true:=by kernel_rfl
theorem AWW:Tryz.pinned.checked.prog.laysLater=false:=by kernel_rfl
theorem AZ2:Tryz.pinned.checked.prog.bearsReflect=false:=by kernel_rfl
theorem A4N:(AM6 == "cut".toList)=true:=by kernel_rfl
theorem AM5:((some AM6) == some "cut".toList)=true:=by kernel_rfl
theorem A5W:(AM6 == "gc".toList)=false:=by kernel_rfl
theorem A0D:(AM6 == "spec".toList)=false:=by kernel_rfl
theorem A0E:(some AM6 == some "carried".toList)=false:=by kernel_rfl
theorem sum_is:isSumSigns hsum=true:=by kernel_rfl
theorem A4D:(signs.take 7 == "harness".toList)=true:=by kernel_rfl
theorem AXR {P:Program}(h:P.initOrder.toList=signs)(hd:P.doorFits []=true)(hl:P.laysLater=false)(hr:P.bearsReflect=false):P.mayEnter=true:=by
 unfold Program.mayEnter
 generalize P.initOrder.toList=l at h
 subst h
 rw[ADP]
 simp only[AKR,hd,hl,hr,jJ,List.head?_cons,Bool.not_false,Bool.or_true,Bool.and_true,AM5]
theorem A0Q {P:Program}(h:P.initOrder.toList=signs):P.make=some .cut:=by
 unfold Program.make
 generalize P.initOrder.toList=l at h
 subst h
 rw[ADP]
 simp only[A5W,A0D,A4N,Bool.or_false,Bool.false_eq_true,if_false,Bool.true_or,if_true]
theorem AT7 {P:Program}(h:P.initOrder.toList=signs):P.liftsFinal=false:=by
 unfold Program.liftsFinal Program.headLifts
 generalize P.initOrder.toList=l at h
 subst h
 rw[ADP]
 simp only[AKR,List.head?_cons,A0E,AM5,Bool.false_and,Bool.false_or,if_true,jJ]
theorem A0R {P:Program}{s:String}(h:P.initOrder.toList=signs)(hs:s=String.ofList hsum):P.mainIs=some (true,s.toList):=by
 rw[AG9 hs]
 unfold Program.mainIs
 generalize P.initOrder.toList=l at h
 subst h
 rw[A3F]
 show(if !isSumSigns hsum then none else if signs.take 7 == "harness".toList then some (true,hsum) else if signs.take 7 == "ownmain".toList then some (false,hsum) else none)=_
 rw[sum_is,A4D]
 rfl
theorem A6V:Tryz.pinned.checked.prog.mayEnter=true:=AXR ZU A1A AWW AZ2
theorem make_is:Tryz.pinned.checked.prog.make=some .cut:=A0Q ZU
theorem A42:Tryz.pinned.checked.prog.liftsFinal=false:=AT7 ZU
theorem A8I {s:String}(hs:s=String.ofList hsum):Tryz.pinned.checked.prog.mainIs=some (true,s.toList):=A0R ZU hs
end Go.Proofs.YtfpagfhhhlljjaaGreatDoor.Head
