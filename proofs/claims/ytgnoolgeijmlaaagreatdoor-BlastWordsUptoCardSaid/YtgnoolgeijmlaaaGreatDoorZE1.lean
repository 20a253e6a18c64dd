/- Part 1 of the proof (Sm1, Sm2, Sm3, Sm4, Sm5, Sm6, Sm7); no condition. -/
import Derived.Orders
import Derived.Laws.World
import Derived.Laws.Cells
import Derived.Laws.Append
import Derived.Deep.LoopGhost
import Derived.Laws.StructEq
set_option linter.unusedVariables false
namespace Go.Proofs.YtgnoolgeijmlaaaGreatDoor

end Go.Proofs.YtgnoolgeijmlaaaGreatDoor
namespace Go.Proofs.YtgnoolgeijmlaaaGreatDoor.Sm
open Bool renaming false_eq_true→jQ,or_eq_true→qO
open List renaming getElem?_eq_none→zO,getElem?_append→wC,getElem?_set→zI,length_cons→zZ,getElem?_take→qN,getElem?_drop→wF,getElem?_eq_getElem→jX,mem_of_getElem?→zV,getElem_of_mem→qW,mem_append→qE,eq_nil_of_length_eq_zero→qI,nil_append→qA,length_set→zY,replicate→jJ
open Nat renaming lt_or_ge→jY,le_refl→jP,eq_zero_or_pos→qQ,add_assoc→wE,mul_comm→qX,mul_le_mul_right→wH,add_mul→qB,mod_lt→qR,zero_add→jG
open Option renaming getD_some→jB

inductive SM where
 | nil|full|any
 deriving DecidableEq
inductive AV where
 | int (k:IntKind) (n:Int)
 | bool (b:Bool)
 | str (s:ByteArray)
 | sl (m:SM) (k:Nat) (xs:List (List AV))
 | own (b off len:Nat)
 | ptr (b i j:Nat)
 | fptr (k:Nat) (xs:List (List AV)) (i j:Nat)
 | nilp
 | fn (f:Fn) (first caps:List AV)
 | nilfn
 | agg (cs:List AV)
 | tup (vs:List AV)
 | ifc (t:TypeId) (v:Value)
 | nilifc
 | nilmp
 | mp (b:Nat)
 | junk
def AV.leaf:AV->Bool
 | .agg _=>false
 | .tup _=>false
 | .junk=>false
 | _=>true
inductive ABlk where
 | dead
 | live (k:Nat) (xs:List (List AV))
 | iter (s:ByteArray) (pos:Nat)
 | map (es:List (AV×AV))
def ABlk.isObj:ABlk->Bool
 | .iter _ _=>true
 | .map _=>true
 | _=>false
structure Loc where
 cb:Nat
 co:Nat
 k:Nat
 sz:Nat
structure Gh where
 M:Nat->Option Obj
 μ:Nat->Option Loc
 os:Os
 tape:Nat->Question->Nat
 output:Array (Nat×ByteArray)
 B:Nat->Option Obj
structure Env where
 P:Program
 G:Nat->AV
 L:Option Gh
 X:Value->List ABlk->Prop
def VC (k:Nat)(xs:List (List AV)):Prop:=∀(i:Nat) (row:List AV),xs[i]?=some row->row.length=k∧∀(j:Nat) (v:AV),row[j]?=some v->v.leaf=true
inductive RepF (M:Nat->Option Obj):AV->Value->Prop
 | int (k:IntKind) (n:Int):RepF M (.int k n) (.int k n)
 | bool (b:Bool):RepF M (.bool b) (.bool b)
 | str (s:ByteArray):RepF M (.str s) (.string s)
 | nil (k:Nat):RepF M (.sl .nil k []) (.slice none 0 0)
 | empty (m:SM) (k:Nat) (a:Addr) (cap:Nat):m≠.nil->(m=.full->cap=0)->RepF M (.sl m k []) (.slice (some a) 0 cap)
 | sl (m:SM) (k:Nat) (xs:List (List AV)) (cb co:Nat) (c:Array Value) (e:TypeId) (fz:Nat×Nat) (cap:Nat) (cv:Nat->Nat->Value) :
  xs≠[]->m≠.nil->M cb=some (.cells c e fz)->VC k xs ->
  (∀(i j:Nat),i<xs.length->j<k->c[co+i*k+j]?=some (cv i j)) ->
  (∀(i j:Nat) (row:List AV) (v:AV),xs[i]?=some row->row[j]?=some v->RepF M v (cv i j)) ->
  xs.length<=cap->(m=.full->cap=xs.length) ->
  RepF M (.sl m k xs) (.slice (some ⟨cb,co,none⟩) xs.length cap)
 | fptr (k:Nat) (xs:List (List AV)) (i j cb co:Nat) (c:Array Value) (e:TypeId) (fz:Nat×Nat) (cv:Nat->Nat->Value) :
  M cb=some (.cells c e fz)->VC k xs ->
  (∀(i j:Nat),i<xs.length->j<k->c[co+i*k+j]?=some (cv i j)) ->
  (∀(i j:Nat) (row:List AV) (v:AV),xs[i]?=some row->row[j]?=some v->RepF M v (cv i j)) ->
  RepF M (.fptr k xs i j) (.pointer (some ⟨cb,co+i*k+j,none⟩))
 | nilp:RepF M .nilp (.pointer none)
 | fn (f:Fn) (first caps:List AV) (first' caps':Array Value):first'.size=first.length->caps'.size=caps.length ->
  (∀(i:Nat) (v:AV) (cv:Value),first[i]?=some v->first'[i]?=some cv->RepF M v cv)->(∀(i:Nat) (v:AV) (cv:Value),caps[i]?=some v->caps'[i]?=some cv->RepF M v cv) ->
  RepF M (.fn f first caps) (.func f first' caps')
 | nilfn:RepF M .nilfn .nilFunc
 | agg (cs:List AV) (vs:Array Value):vs.size=cs.length->(∀(i:Nat) (v:AV) (cv:Value),cs[i]?=some v->vs[i]?=some cv->RepF M v cv)->RepF M (.agg cs) (.agg vs)
 | tup (cs:List AV) (vs:Array Value):vs.size=cs.length->(∀(i:Nat) (v:AV) (cv:Value),cs[i]?=some v->vs[i]?=some cv->RepF M v cv)->RepF M (.tup cs) (.tuple vs)
 | ifc (t:TypeId) (v:Value):RepF M (.ifc t v) (.iface t v)
 | nilifc:RepF M .nilifc .nilIface
 | nilmp:RepF M .nilmp (.map none)
 | junk (v:Value):RepF M .junk v
inductive Rep (g:Gh):AV->Value->Prop
 | fro {v:AV} {cv:Value}:RepF g.M v cv->Rep g v cv
 | own (b off len cap:Nat) (l:Loc):g.μ b=some l->len<=cap->l.co+(off+cap)*l.k<=l.sz ->
  Rep g (.own b off len) (.slice (some ⟨l.cb,l.co+off*l.k,none⟩) len cap)
 | ownz (b off:Nat) (a:Addr) (l:Loc):g.μ b=some l->Rep g (.own b off 0) (.slice (some a) 0 0)
 | ptr (b i j:Nat) (l:Loc):g.μ b=some l->Rep g (.ptr b i j) (.pointer (some ⟨l.cb,l.co+i*l.k+j,none⟩))
 | mp (b:Nat) (l:Loc):g.μ b=some l->Rep g (.mp b) (.map (some l.cb))
 | fn (f:Fn) (first caps:List AV) (first' caps':Array Value):first'.size=first.length->caps'.size=caps.length ->
  (∀(i:Nat) (v:AV) (cv:Value),first[i]?=some v->first'[i]?=some cv->Rep g v cv)->(∀(i:Nat) (v:AV) (cv:Value),caps[i]?=some v->caps'[i]?=some cv->Rep g v cv) ->
  Rep g (.fn f first caps) (.func f first' caps')
 | agg (cs:List AV) (vs:Array Value):vs.size=cs.length->(∀(i:Nat) (v:AV) (cv:Value),cs[i]?=some v->vs[i]?=some cv->Rep g v cv)->Rep g (.agg cs) (.agg vs)
 | tup (cs:List AV) (vs:Array Value):vs.size=cs.length->(∀(i:Nat) (v:AV) (cv:Value),cs[i]?=some v->vs[i]?=some cv->Rep g v cv)->Rep g (.tup cs) (.tuple vs)
structure Gh.le (g g':Gh):Prop where
 M:∀k o,g.M k=some o->g'.M k=some o
 μ:∀b l,g.μ b=some l->g'.μ b=some l
 os:g'.os=g.os
 tape:g'.tape=g.tape
 output:g'.output=g.output
 B:g'.B=g.B
theorem Gh.le.refl (g:Gh):g.le g:=⟨fun _ _ h=>h,fun _ _ h=>h,rfl,rfl,rfl,rfl⟩
theorem Gh.le.trans {a b c:Gh}(h:a.le b)(k:b.le c):a.le c :=
 ⟨fun _ _ x=>k.M _ _ (h.M _ _ x),fun _ _ x=>k.μ _ _ (h.μ _ _ x),k.os.trans h.os,k.tape.trans h.tape,k.output.trans h.output,k.B.trans h.B⟩
def Gh.leM (g g':Gh):Prop:=(∀k o,g.M k=some o->g'.M k=some o)∧∀b l,g.μ b=some l->g'.μ b=some l
theorem Gh.leM.trans {a b c:Gh}(h:a.leM b)(k:b.leM c):a.leM c:=⟨fun _ _ x=>k.1 _ _ (h.1 _ _ x),fun _ _ x=>k.2 _ _ (h.2 _ _ x)⟩
theorem Gh.le.toM {a b:Gh}(h:a.le b):a.leM b:=⟨h.M,h.μ⟩
theorem RepF.monoC {M M':Nat->Option Obj}(hM:∀k c e fz,M k=some (.cells c e fz)->M' k=some (.cells c e fz)){v:AV}{cv:Value}(h:RepF M v cv):RepF M' v cv:=by
 induction h with
 | int k n=>exact .int k n
 | bool b=>exact .bool b
 | str s=>exact .str s
 | nil k=>exact .nil k
 | empty m k a cap h1 h2=>exact .empty m k a cap h1 h2
 | sl m k xs cb co c e fz cap cv h1 h2 h3 h4 h5 _ h7 h8 ih=>exact .sl m k xs cb co c e fz cap cv h1 h2 (hM _ _ _ _ h3) h4 h5 ih h7 h8
 | fptr k xs i j cb co c e fz cv h3 h4 h5 _ ih=>exact .fptr k xs i j cb co c e fz cv (hM _ _ _ _ h3) h4 h5 ih
 | nilp=>exact .nilp
 | fn f first caps first' caps' h1 h2 _ _ ih1 ih2=>exact .fn f first caps first' caps' h1 h2 ih1 ih2
 | nilfn=>exact .nilfn
 | agg cs vs h1 _ ih=>exact .agg cs vs h1 ih
 | tup cs vs h1 _ ih=>exact .tup cs vs h1 ih
 | ifc t v=>exact .ifc t v
 | nilifc=>exact .nilifc
 | nilmp=>exact .nilmp
 | junk v=>exact .junk v
theorem RepF.mono {M M':Nat->Option Obj}(hM:∀k o,M k=some o->M' k=some o){v:AV}{cv:Value}(h:RepF M v cv):RepF M' v cv:=h.monoC fun k _ _ _=>hM k _
theorem Rep.monoC {g g':Gh}(hM:∀k c e fz,g.M k=some (.cells c e fz)->g'.M k=some (.cells c e fz))(hμ:∀b l,g.μ b=some l->g'.μ b=some l){v:AV}{cv:Value}(h:Rep g v cv):Rep g' v cv:=by
 induction h with
 | fro h=>exact .fro (h.monoC hM)
 | own b off len cap l h1 h2 h3=>exact .own b off len cap l (hμ _ _ h1) h2 h3
 | ownz b off a l h1=>exact .ownz b off a l (hμ _ _ h1)
 | ptr b i j l h1=>exact .ptr b i j l (hμ _ _ h1)
 | mp b l h1=>exact .mp b l (hμ _ _ h1)
 | fn f first caps first' caps' h1 h2 _ _ ih1 ih2=>exact .fn f first caps first' caps' h1 h2 ih1 ih2
 | agg cs vs h1 _ ih=>exact .agg cs vs h1 ih
 | tup cs vs h1 _ ih=>exact .tup cs vs h1 ih
theorem Rep.mono {g g':Gh}(hg:g.le g'){v:AV}{cv:Value}(h:Rep g v cv):Rep g' v cv:=h.monoC (fun k _ _ _=>hg.M k _) hg.μ
theorem Rep.junk (g:Gh)(v:Value):Rep g .junk v:=.fro (.junk v)
theorem Rep.int (g:Gh)(k:IntKind)(n:Int):Rep g (.int k n) (.int k n):=.fro (.int k n)
theorem Rep.bool (g:Gh)(b:Bool):Rep g (.bool b) (.bool b):=.fro (.bool b)
theorem Rep.str (g:Gh)(s:ByteArray):Rep g (.str s) (.string s):=.fro (.str s)
theorem Rep.int_inv {g:Gh}{k:IntKind}{n:Int}{cv:Value}(h:Rep g (.int k n) cv):cv=.int k n:=by
 cases h with|fro h=>cases h; rfl
theorem Rep.bool_inv {g:Gh}{b:Bool}{cv:Value}(h:Rep g (.bool b) cv):cv=.bool b:=by
 cases h with|fro h=>cases h; rfl
theorem Rep.str_inv {g:Gh}{s:ByteArray}{cv:Value}(h:Rep g (.str s) cv):cv=.string s:=by
 cases h with|fro h=>cases h; rfl
theorem Rep.nilp_inv {g:Gh}{cv:Value}(h:Rep g .nilp cv):cv=.pointer none:=by
 cases h with|fro h=>cases h; rfl
theorem Rep.nilfn_inv {g:Gh}{cv:Value}(h:Rep g .nilfn cv):cv=.nilFunc:=by
 cases h with|fro h=>cases h; rfl
theorem Rep.agg_inv {g:Gh}{cs:List AV}{cv:Value}(h:Rep g (.agg cs) cv) :
  ∃vs:Array Value,cv=.agg vs∧vs.size=cs.length∧∀(i:Nat) (v:AV) (cv:Value),cs[i]?=some v->vs[i]?=some cv->Rep g v cv:=by
 cases h with
 | fro h=>cases h with|agg _ vs h1 h2=>exact⟨vs,rfl,h1,fun i v cv a b=>.fro (h2 i v cv a b)⟩
 | agg _ vs h1 h2=>exact⟨vs,rfl,h1,h2⟩
theorem Rep.tup_inv {g:Gh}{cs:List AV}{cv:Value}(h:Rep g (.tup cs) cv) :
  ∃vs:Array Value,cv=.tuple vs∧vs.size=cs.length∧∀(i:Nat) (v:AV) (cv:Value),cs[i]?=some v->vs[i]?=some cv->Rep g v cv:=by
 cases h with
 | fro h=>cases h with|tup _ vs h1 h2=>exact⟨vs,rfl,h1,fun i v cv a b=>.fro (h2 i v cv a b)⟩
 | tup _ vs h1 h2=>exact⟨vs,rfl,h1,h2⟩
theorem Rep.fn_inv {g:Gh}{f:Fn}{first caps:List AV}{cv:Value}(h:Rep g (.fn f first caps) cv) :
  ∃ first' caps':Array Value,cv=.func f first' caps'∧first'.size=first.length∧caps'.size=caps.length ∧
    (∀(i:Nat) (v:AV) (cv:Value),first[i]?=some v->first'[i]?=some cv->Rep g v cv)∧∀(i:Nat) (v:AV) (cv:Value),caps[i]?=some v->caps'[i]?=some cv->Rep g v cv:=by
 cases h with
 | fro h=>cases h with|fn _ _ _ a b h1 h2 h3 h4=>exact⟨a,b,rfl,h1,h2,fun i v cv x y=>.fro (h3 i v cv x y),fun i v cv x y=>.fro (h4 i v cv x y)⟩
 | fn _ _ _ a b h1 h2 h3 h4=>exact⟨a,b,rfl,h1,h2,h3,h4⟩
theorem Rep.ptr_inv {g:Gh}{b i j:Nat}{cv:Value}(h:Rep g (.ptr b i j) cv) :
  ∃l,g.μ b=some l∧cv=.pointer (some ⟨l.cb,l.co+i*l.k+j,none⟩):=by
 cases h with
 | fro h=>cases h
 | ptr _ _ _ l h1=>exact⟨l,h1,rfl⟩
theorem Rep.mp_inv {g:Gh}{b:Nat}{cv:Value}(h:Rep g (.mp b) cv):∃l,g.μ b=some l∧cv=.map (some l.cb):=by
 cases h with
 | fro h=>cases h
 | mp _ l h1=>exact⟨l,h1,rfl⟩
theorem Rep.nilmp_inv {g:Gh}{cv:Value}(h:Rep g .nilmp cv):cv=.map none:=by
 cases h with|fro h=>cases h; rfl
theorem Rep.nilifc_inv {g:Gh}{cv:Value}(h:Rep g .nilifc cv):cv=.nilIface:=by
 cases h with|fro h=>cases h; rfl
theorem Rep.ifc_inv {g:Gh}{t:TypeId}{v:Value}{cv:Value}(h:Rep g (.ifc t v) cv):cv=.iface t v:=by
 cases h with|fro h=>cases h; rfl
theorem Rep.own_inv {g:Gh}{b off len:Nat}{cv:Value}(h:Rep g (.own b off len) cv) :
  (∃l cap,g.μ b=some l∧len<=cap∧l.co+(off+cap)*l.k<=l.sz∧cv=.slice (some ⟨l.cb,l.co+off*l.k,none⟩) len cap) ∨
  (len=0∧∃a,cv=.slice (some a) 0 0):=by
 cases h with
 | fro h=>cases h
 | own _ _ _ cap l h1 h2 h3=>exact .inl ⟨l,cap,h1,h2,h3,rfl⟩
 | ownz _ _ a=>exact .inr ⟨rfl,a,rfl⟩
theorem Rep.own_dom {g:Gh}{b off len:Nat}{cv:Value}(h:Rep g (.own b off len) cv):∃l,g.μ b=some l:=by
 cases h with
 | fro h=>cases h
 | own _ _ _ cap l h1 h2 h3=>exact⟨l,h1⟩
 | ownz _ _ a l h1=>exact⟨l,h1⟩
theorem Rep.sl_inv {g:Gh}{m:SM}{k:Nat}{xs:List (List AV)}{cv:Value}(h:Rep g (.sl m k xs) cv):RepF g.M (.sl m k xs) cv:=by
 cases h with|fro h=>exact h
theorem Rep.fptr_inv {g:Gh}{k:Nat}{xs:List (List AV)}{i j:Nat}{cv:Value}(h:Rep g (.fptr k xs i j) cv):RepF g.M (.fptr k xs i j) cv:=by
 cases h with|fro h=>exact h
theorem Rep.leaf_one {g:Gh}{v:AV}{cv:Value}(h:Rep g v cv)(hl:v.leaf=true):cv.oneCell'=true∧cv.cells = #[cv]:=by
 cases h with
 | fro h=>cases h<;>first|exact⟨rfl,rfl⟩|cases hl
 | own=>exact⟨rfl,rfl⟩
 | ownz=>exact⟨rfl,rfl⟩
 | ptr=>exact⟨rfl,rfl⟩
 | mp=>exact⟨rfl,rfl⟩
 | fn=>exact⟨rfl,rfl⟩
 | agg=>cases hl
 | tup=>cases hl
inductive ObjRep (g:Gh):ABlk->Obj->Prop
 | iter (s:ByteArray) (pos:Nat):ObjRep g (.iter s pos) (.stringIter s pos)
 | map (es:List (AV×AV)) (ces:Array MapEntry) (clock:Nat):ces.size=es.length->(∀(i:Nat) (k v:AV) (e:MapEntry),es[i]?=some (k,v)->ces[i]?=some e->Rep g k e.key∧Rep g v e.val)->ObjRep g (.map es) (.map ces clock)
theorem ObjRep.mono {g g':Gh}(hg:∀v cv,Rep g v cv->Rep g' v cv){x:ABlk}{o:Obj}(h:ObjRep g x o):ObjRep g' x o:=by
 cases h with
 | iter s pos=>exact .iter s pos
 | map es ces clock h1 h2=>exact .map es ces clock h1 fun i k v e a b=>⟨hg _ _ (h2 i k v e a b).1,hg _ _ (h2 i k v e a b).2⟩
theorem ObjRep.isObj {g:Gh}{x:ABlk}{o:Obj}(h:ObjRep g x o):x.isObj=true:=by cases h<;>rfl
structure SimH (E:Env) (g:Gh) (h:List ABlk) (w:World):Prop where
 os:w.os=g.os
 tape:w.tape=g.tape
 output:w.output=g.output
 fro:∀k o,g.M k=some o->w.heap[k]?=some o
 lo:∀g0,E.L=some g0->g0.leM g
 live:∀b k xs,h[b]?=some (.live k xs)->∃l c e,g.μ b=some l∧l.k=k∧g.M l.cb=none∧w.heap[l.cb]?=some (.cells c e (0,0))∧c.size=l.sz ∧
  l.co+xs.length*k<=l.sz∧VC k xs∧∀(i j:Nat) (row:List AV) (v:AV),xs[i]?=some row->row[j]?=some v->∃cv,c[l.co+i*k+j]?=some cv∧Rep g v cv
 obj:∀b x,h[b]?=some x->x.isObj=true->∃l o,g.μ b=some l∧l.co=0∧l.k=0∧g.M l.cb=none∧w.heap[l.cb]?=some o∧ObjRep g x o
 inj:∀b b' x x' l l',h[b]?=some x->x≠.dead->h[b']?=some x'->x'≠.dead->g.μ b=some l->g.μ b'=some l'->l.cb=l'.cb->b=b'
 fresh:∀b,h.length<=b->g.μ b=none
 glob:∀n,RepF g.M (E.G n) (.pointer (some ⟨n,0,none⟩))
theorem SimH.iter {E:Env}{g:Gh}{h:List ABlk}{w:World}(S:SimH E g h w)(b:Nat)(s:ByteArray)(pos:Nat)(hx:h[b]?=some (.iter s pos)):∃l,g.μ b=some l∧l.co=0∧l.k=0∧g.M l.cb=none∧w.heap[l.cb]?=some (.stringIter s pos):=by
 obtain⟨l,o,h1,h2,h3,h4,h5,h6⟩:=S.obj b _ hx rfl;cases h6;exact⟨l,h1,h2,h3,h4,h5⟩
inductive Marks (g:Gh):List Deferred->Prop
 | nil:Marks g []
 | cons (D:Nat) (ds:List Deferred):g.B D=none->g.M D=some (.deferred (some []))->(∀d∈ds,d.target≠.collected D)->Marks g ds->Marks g ({ target:=.collected D,args := #[] } :: ds)
theorem Marks.mono {g g':Gh}(hg:g.le g'){ds:List Deferred}(h:Marks g ds):Marks g' ds:=by
 induction h with
 | nil=>exact .nil
 | cons D ds h0 h1 h2 _ ih=>exact .cons D ds (hg.B▸h0) (hg.M _ _ h1) h2 ih
structure Sim (E:Env) (n:Nat) (g:Gh) (F:Nat->AV) (h:List ABlk) (a:Act) (w:World):Prop where
 simH:SimH E g h w
 defers:Marks g a.defers
 dx:a.defers=[]∨∀u h,¬E.X u h
 base:∀k o,g.B k=some o->g.M k=some o
 size:a.tmps.size=n
 frame:∀i,Rep g (F i) (a.tmps.getD i undef)
def upd (F:Nat->AV)(d:Nat)(v:AV):Nat->AV:=fun i=>if i=d then v else F i
def EY (F:Nat->AV):Option Nat->AV->Nat->AV
 | some d,v=>upd F d v
 | none,_=>F
def IQ:AV:=.tup []
theorem Rep.undef (g:Gh):Rep g IQ undef:=.fro (.tup [] #[] rfl (by simp))
theorem APX {g:Gh}{F:Nat->AV}{a:Act}{n:Nat}{d:Option Tmp}{v:AV}{cv:Value}(hs:a.tmps.size=n)(hd:∀x,d=some x->x<n)
  (hf:∀i,Rep g (F i) (a.tmps.getD i Go.undef)) (hv:Rep g v cv):∀i,Rep g (EY F d v i) ((a.put d cv).tmps.getD i Go.undef):=by
 intro i
 cases d with
 | none=>exact hf i
 | some d =>
   have hlt:d<a.tmps.size:=hs▸hd d rfl;simp only[EY,upd,Act.put];by_cases hi:i=d
   .subst hi; simpa [hlt] using hv
   .have:d≠i:=fun e=>hi e.symm
    simpa [hi,Array.getElem?_setIfInBounds_ne this] using hf i
theorem Sim.put {E:Env}{n:Nat}{g g':Gh}{F:Nat->AV}{h h':List ABlk}{a:Act}{w w':World}{d:Option Tmp}{v:AV}{cv:Value}(s:Sim E n g F h a w)
  (hd:∀x,d=some x->x<n) (hg:g.le g') (hH:SimH E g' h' w') (hv:Rep g' v cv):Sim E n g' (EY F d v) h' (a.put d cv) w' where
 simH:=hH
 defers:=by cases d<;>exact s.defers.mono hg
 dx:=by cases d<;>exact s.dx
 base:=fun k o hk=>hg.M k o (s.base k o (hg.B▸hk))
 size:=by cases d<;>simp [Act.put,s.size]
 frame:=APX s.size hd (fun i=>(s.frame i).mono hg) hv

def szO (P:Program)(t:TypeId):Option Nat:=(P.info? t).map (·.size)
def P6 (P:Program)(t:TypeId):Option Value:=(P.info? t).bind (·.zero)
def JO (P:Program)(t:TypeId):Option Bool:=(P.underlying t).map fun d=>match d with|.struct _=>true|.array _ _=>true|_=>false
theorem FY {P:Program}{t:TypeId}{n:Nat}(h:szO P t=some n)(w:World):(sizeOf t).run P w=.ok n w:=by
 unfold szO at h
 cases hi:P.info? t with
 | none=>simp [hi] at h
 | some i=>simp [hi] at h; simp [sizeOf,typeInfo,hi,h]
theorem JA {P:Program}{t:TypeId}{z:Value}(h:P6 P t=some z)(w:World):(zeroValue t).run P w=.ok z w:=by
 unfold P6 at h
 cases hi:P.info? t with
 | none=>simp [hi] at h
 | some i=>simp [hi] at h; simp [zeroValue,typeInfo,hi,h]
theorem CS {P:Program}{t:TypeId}{d:TypeDesc}(h:P.underlying t=some d)(w:World):(underlying t).run P w=.ok d w:=by
 simp [underlying,h]
theorem LC {P:Program}{t:TypeId}{b:Bool}(h:JO P t=some b)(w:World):(isAgg t).run P w=.ok b w:=by
 unfold JO at h
 cases hd:P.underlying t with
 | none=>simp [hd] at h
 | some d=>simp [hd] at h; cases d<;>simp at h<;>simp [isAgg,underlying,hd,h]
def PD (op:BinOp)(k:IntKind)(a b:Int):Option AV :=
 match op with
 | .add=>some (.int k (k.wrap (a+b)))
 | .sub=>some (.int k (k.wrap (a-b)))
 | .mul=>some (.int k (k.wrap (a*b)))
 | .quo=>if b=0 then none else some (.int k (k.wrap (a.tdiv b)))
 | .rem=>if b=0 then none else some (.int k (a.tmod b))
 | .and=>some (.int k (k.wrap (BitVec.ofInt k.bits a &&& BitVec.ofInt k.bits b).toNat))
 | .or=>some (.int k (k.wrap (BitVec.ofInt k.bits a ||| BitVec.ofInt k.bits b).toNat))
 | .xor=>some (.int k (k.wrap (BitVec.ofInt k.bits a ^^^ BitVec.ofInt k.bits b).toNat))
 | .andNot=>some (.int k (k.wrap (BitVec.ofInt k.bits a &&& ~~~(BitVec.ofInt k.bits b)).toNat))
 | .eql=>some (.bool (a==b))
 | .neq=>some (.bool (a != b))
 | .lss=>some (.bool (decide (a<b)))
 | .leq=>some (.bool (decide (a<=b)))
 | .gtr=>some (.bool (decide (a>b)))
 | .geq=>some (.bool (decide (a≥b)))
 | _=>none
def WU (op:BinOp)(k:IntKind)(a:Int)(k':IntKind)(b:Int):Option AV :=
 match op with
 | .shl=>if b<0 then none else some (.int k (k.wrap (a*2^(min b.toNat k.bits))))
 | .shr=>if b<0 then none else some (.int k (a.fdiv (2^(min b.toNat k.bits))))
 | _=>if k=k' then PD op k a b else none
def AT7 (op:BinOp)(a b:ByteArray):Option AV :=
 match op with
 | .add=>if((a.size+b.size:Nat):Int)<=IntKind.i64.max then some (.str (a++b)) else none
 | .eql=>some (.bool (a.toList==b.toList))
 | .neq=>some (.bool (!(a.toList==b.toList)))
 | .lss=>some (.bool (Op.bytesLess a.toList b.toList))
 | _=>none
def ACM (P:Program)(t:TypeId)(op:BinOp)(a b:Bool):Option AV :=
 match P.underlying t with
 | some .bool=>match op with
   | .eql=>some (.bool (a==b))
   | .neq=>some (.bool (!(a==b)))
   | _=>none
 | _=>none
def AMA:Option TypeDesc->Option AV->Option AV->Option Bool
 | some (.int _),some (.int k a),some (.int k' b)=>if k=k' then some (a==b) else none
 | some .bool,some (.bool a),some (.bool b)=>some (a==b)
 | some .string,some (.str a),some (.str b)=>some (a.toList==b.toList)
 | _,_,_=>none
def eqF (P:Program)(xs ys:List AV):List Field->Option Bool
 | []=>some true
 | f::fs=>if f.name = "_" then none else match AMA (P.underlying f.type) xs[f.offset]? ys[f.offset]?,eqF P xs ys fs with
   | some a,some b=>some (a&&b)
   | _,_=>none
def AMR (P:Program)(t:TypeId)(op:BinOp)(xs ys:List AV):Option AV :=
 match P.underlying t with
 | some (.struct fs)=>if P.stoodInHeld t=false∧P.eqGuardType P.depth t=false then match eqF P xs ys fs.toList with
    | some r=>match op with
      | .eql=>some (.bool r)
      | .neq=>some (.bool (!r))
      | _=>none
    | none=>none
   else none
 | _=>none
theorem AHQ {P:Program}{d n:Nat}{t:TypeId}{xs ys:List AV}{vs us:Array Value}{g:Gh}{r:Bool}(w:World)(h:AMA (P.underlying t) xs[n]? ys[n]?=some r)
  (h1:vs.size=xs.length) (h2:∀(i:Nat) (v:AV) (cv:Value),xs[i]?=some v->vs[i]?=some cv->Rep g v cv)
  (h3:us.size=ys.length) (h4:∀(i:Nat) (v:AV) (cv:Value),ys[i]?=some v->us[i]?=some cv->Rep g v cv) :
  ∃a b,(part t vs n).run P w=.ok a w∧(part t us n).run P w=.ok b w∧(Op.equalIn (d+1) t a b).run P w=.ok r w:=by
 have get:∀ {zs:List AV} {cs:Array Value} {x:AV},cs.size=zs.length->(∀(i:Nat) (v:AV) (cv:Value),zs[i]?=some v->cs[i]?=some cv->Rep g v cv)->zs[n]?=some x->∃c,cs[n]?=some c∧Rep g x c:=by
  intro zs cs x hs hr hx
  have hlt:n<cs.size:=by
   rw[hs];rcases jY n zs.length with h|h
   .exact h
   .rw[zO h] at hx; cases hx
  exact⟨cs[n],by simp [hlt],hr n x cs[n] hx (by simp [hlt])⟩
 have prt:∀ {cs:Array Value} {c:Value} {td:TypeDesc},P.underlying t=some td->(match td with|.struct _=>true|.array _ _=>true|_=>false)=false->cs[n]?=some c->(part t cs n).run P w=.ok c w:=by
  intro cs c td hd hn hc;have ha:JO P t=some false:=by simp [JO,hd,hn]
  simp [part,LC ha,hc]
 unfold AMA at h;split at h
 .rename_i ki k a k' b hu hx hy
  split at h
  .rename_i hk
   subst hk;cases h;obtain⟨c1,p1,q1⟩:=get h1 h2 hx;obtain⟨c2,p2,q2⟩:=get h3 h4 hy;rw[q1.int_inv] at p1; rw[q2.int_inv] at p2;exact⟨_,_,prt hu rfl p1,prt hu rfl p2,run_equalIn_int w d t k ki a b hu⟩
  .cases h
 .rename_i a b hu hx hy
  cases h;obtain⟨c1,p1,q1⟩:=get h1 h2 hx;obtain⟨c2,p2,q2⟩:=get h3 h4 hy;rw[q1.bool_inv] at p1; rw[q2.bool_inv] at p2;exact⟨_,_,prt hu rfl p1,prt hu rfl p2,run_equalIn_bool' w d t a b hu⟩
 .rename_i a b hu hx hy
  cases h;obtain⟨c1,p1,q1⟩:=get h1 h2 hx;obtain⟨c2,p2,q2⟩:=get h3 h4 hy;rw[q1.str_inv] at p1; rw[q2.str_inv] at p2;exact⟨_,_,prt hu rfl p1,prt hu rfl p2,run_equalIn_string w d t a b hu⟩
 .cases h
theorem AAX {P:Program}{d:Nat}{xs ys:List AV}{vs us:Array Value}{g:Gh}(w:World)
  (h1:vs.size=xs.length) (h2:∀(i:Nat) (v:AV) (cv:Value),xs[i]?=some v->vs[i]?=some cv->Rep g v cv)
  (h3:us.size=ys.length) (h4:∀(i:Nat) (v:AV) (cv:Value),ys[i]?=some v->us[i]?=some cv->Rep g v cv):∀(fs:List Field) (r:Bool),eqF P xs ys fs=some r->(Op.eqFields (d+1) vs us fs).run P w=.ok r w
 | [],r,h=>by simp [eqF] at h; subst h; simp [Op.eqFields]
 | f::fs,r,h=>by
   simp only[eqF] at h;split at h
   .cases h
   rename_i hn;split at h
   case h_2=>cases h
   rename_i a b ha hb;cases h;obtain⟨c1,c2,p1,p2,p3⟩:=AHQ (d:=d) w ha h1 h2 h3 h4;have ih:=AAX (d:=d) w h1 h2 h3 h4 fs b hb;simp only[Op.eqFields,ne_eq,hn,not_false_eq_true,if_true,Sem.run_bind,p1,p2,p3,Result.andThen_ok]
   cases a with
   | true=>simpa using ih
   | false=>simp
def KU:AV->Option Bool
 | .sl .nil _ _=>some true
 | .sl _ _ _=>some false
 | .own _ _ _=>some false
 | .nilp=>some true
 | .ptr _ _ _=>some false
 | .fptr _ _ _ _=>some false
 | .nilfn=>some true
 | .fn _ _ _=>some false
 | _=>none
def U8:AV->Option Nat
 | .sl _ _ _=>some 0
 | .own _ _ _=>some 0
 | .nilp=>some 1
 | .ptr _ _ _=>some 1
 | .fptr _ _ _ _=>some 1
 | .nilfn=>some 2
 | .fn _ _ _=>some 2
 | _=>none
def AEV (P:Program)(t:TypeId):Option Nat :=
 match P.underlying t with
 | some (.slice _)=>some 0
 | some (.pointer _)=>some 1
 | some (.func _ _ _)=>some 2
 | _=>none
def UZ (P:Program)(t:TypeId)(op:BinOp)(x y:AV):Option AV :=
 if AEV P t=some 0∧U8 x=some 0∧U8 y=some 0∨AEV P t=some 1∧U8 x=some 1∧U8 y=some 1∨AEV P t=some 2∧U8 x=some 2∧U8 y=some 2 then
  match KU x,KU y with
  | some a,some true=>match op with
    | .eql=>some (.bool a)
    | .neq=>some (.bool (!a))
    | _=>none
  | some true,some a=>match op with
    | .eql=>some (.bool a)
    | .neq=>some (.bool (!a))
    | _=>none
  | _,_=>none
 else none
def ASH:AV->Option Bool
 | .nilifc=>some true
 | .ifc _ _=>some false
 | _=>none
def AHX (P:Program)(t:TypeId)(op:BinOp)(x y:AV):Option AV :=
 match P.underlying t with
 | some (.interface ms)=>if ms.isEmpty=true then match ASH x,y with
   | some a,.nilifc=>match op with
     | .eql=>some (.bool a)
     | .neq=>some (.bool (!a))
     | _=>none
   | _,_=>none
   else none
 | _=>none
def JD (P:Program)(t:TypeId)(op:BinOp)(x y:AV):Option AV :=
 match x with
 | .nilifc=>AHX P t op .nilifc y
 | .ifc a b=>AHX P t op (.ifc a b) y
 | .int k a=>match y with
   | .int k' b=>WU op k a k' b
   | _=>none
 | .str a=>match y with
   | .str b=>AT7 op a b
   | _=>none
 | .bool a=>match y with
   | .bool b=>ACM P t op a b
   | _=>none
 | .agg xs=>match y with
   | .agg ys=>AMR P t op xs ys
   | _=>none
 | .sl m k xs=>UZ P t op (.sl m k xs) y
 | .own b o l=>UZ P t op (.own b o l) y
 | .nilp=>UZ P t op .nilp y
 | .ptr b i j=>UZ P t op (.ptr b i j) y
 | .fptr k xs i j=>UZ P t op (.fptr k xs i j) y
 | .nilfn=>UZ P t op .nilfn y
 | .fn f a b=>UZ P t op (.fn f a b) y
 | _=>none
def JY (op:BinOp)(t:TypeId)(x y:Operand)(a b:Value):Sem Value:=do eqGuard op t x y a b; binOp op t a b
theorem AMO {P:Program}{t:TypeId}{op:BinOp}{k k':IntKind}{a b:Int}{v:AV}(g:Gh)(w:World)(x y:Operand)(h:WU op k a k' b=some v) :
  ∃cv,(JY op t x y (.int k a) (.int k' b)).run P w=.ok cv w∧Rep g v cv:=by
 unfold WU at h;cases op<;>simp only at h
 case shl =>
  split at h
  .cases h
  .cases h; rename_i hb; exact⟨_,by simp [JY,eqGuard,binOp,Op.shift,hb],.int _ _ _⟩
 case shr =>
  split at h
  .cases h
  .cases h; rename_i hb; exact⟨_,by simp [JY,eqGuard,binOp,Op.shift,hb],.int _ _ _⟩
 all_goals
  split at h
  case isFalse=>cases h
  rename_i hk;subst hk;simp only[PD] at h
 case quo =>
  split at h
  .cases h
  .cases h; rename_i hb; exact⟨_,by simp [JY,eqGuard,binOp,Op.intDiv,hb],.int _ _ _⟩
 case rem =>
  split at h
  .cases h
  .cases h; rename_i hb; exact⟨_,by simp [JY,eqGuard,binOp,Op.intDiv,hb],.int _ _ _⟩
 all_goals first
  | (cases h; done)
  | (cases h; exact⟨_,by simp only[JY,eqGuard,binOp,Sem.run_bind,ne_eq,not_true_eq_false,↓reduceIte]; rfl,.int _ _ _⟩)
  | (cases h; exact⟨_,by simp only[JY,eqGuard,binOp,Sem.run_bind,ne_eq,not_true_eq_false,↓reduceIte]; rfl,.bool _ _⟩)
theorem AMM {P:Program}{t:TypeId}{op:BinOp}{a b:ByteArray}{v:AV}(g:Gh)(w:World)(x y:Operand)(h:AT7 op a b=some v) :
  ∃cv,(JY op t x y (.string a) (.string b)).run P w=.ok cv w∧Rep g v cv:=by
 unfold AT7 at h;cases op<;>simp only at h
 case add =>
  split at h
  .cases h
   rename_i hb;have hb':¬(((a.size+b.size:Nat):Int)>IntKind.i64.max):=Int.not_lt.2 hb;exact⟨_,by simp only[JY,eqGuard,binOp,Op.stringOp,if_neg hb',Sem.run_bind]; rfl,.str _ _⟩
  .cases h
 all_goals first
  | (cases h; done)
  | (cases h; exact⟨_,by simp only[JY,eqGuard,binOp,Op.stringOp,Sem.run_bind]; rfl,.bool _ _⟩)
theorem PU (t:TypeId)(x y:Value):Op.equal t x y=Op.equalIn (9999+1) t x y:=rfl
theorem AIT {P:Program}{t:TypeId}(hu:P.underlying t=some .bool)(d:Nat)(a b:Bool)(w:World) :
 (Op.equalIn (d+1) t (.bool a) (.bool b)).run P w=.ok (a==b) w:=by simp [Op.equalIn,underlying,hu]
theorem AGT {P:Program}{t e:TypeId}(hu:P.underlying t=some (.slice e))(d:Nat)(p q:Option Addr)(l c l' c':Nat)(w:World)(h:p=none∨q=none) :
  (Op.equalIn (d+1) t (.slice p l c) (.slice q l' c')).run P w=.ok (p.isNone&&q.isNone) w:=by
 cases p<;>cases q<;>simp at h<;>simp [Op.equalIn,underlying,hu]
theorem AC4 {P:Program}{t e:TypeId}(hu:P.underlying t=some (.pointer e))(d:Nat)(p q:Option Addr)(w:World)(h:p=none∨q=none) :
  (Op.equalIn (d+1) t (.pointer p) (.pointer q)).run P w=.ok (p.isNone&&q.isNone) w:=by
 cases p<;>cases q<;>simp at h<;>simp [Op.equalIn,underlying,hu]
theorem AAI {P:Program}{t:TypeId}{a b:Array TypeId}{c:Bool}(hu:P.underlying t=some (.func a b c))(d:Nat)(w:World) :
  (Op.equalIn (d+1) t .nilFunc .nilFunc).run P w=.ok true w∧(∀f p q,(Op.equalIn (d+1) t .nilFunc (.func f p q)).run P w=.ok false w) ∧
  ∀f p q,(Op.equalIn (d+1) t (.func f p q) .nilFunc).run P w=.ok false w:=by
 simp [Op.equalIn,underlying,hu]
theorem ABY {P:Program}{t:TypeId}(hu:P.underlying t=some .bool)(x y:Operand)(a b:Bool)(w:World) :
  (JY .eql t x y (.bool a) (.bool b)).run P w=.ok (.bool (a==b)) w∧(JY .neq t x y (.bool a) (.bool b)).run P w=.ok (.bool (!(a==b))) w:=by
 simp only[JY,eqGuard,binOp,PU];constructor<;>simp [AIT hu]
theorem AE6 {P:Program}{t:TypeId}{op:BinOp}{a b:Bool}{v:AV}(g:Gh)(w:World)(x y:Operand)(h:ACM P t op a b=some v) :
  ∃cv,(JY op t x y (.bool a) (.bool b)).run P w=.ok cv w∧Rep g v cv:=by
 unfold ACM at h;split at h
 .rename_i hu
  have k:=ABY hu x y a b w
  cases op<;>simp only at h<;>first
   | (cases h; done)
   | (cases h; exact⟨_,k.1,.bool _ _⟩)
   | (cases h; exact⟨_,k.2,.bool _ _⟩)
 .cases h
theorem AHY {P:Program}{t:TypeId}{op:BinOp}{xs ys:List AV}{v:AV}{cx cy:Value}{g:Gh}(w:World)(x y:Operand)(h:AMR P t op xs ys=some v)
  (hx:Rep g (.agg xs) cx) (hy:Rep g (.agg ys) cy):∃cv,(JY op t x y cx cy).run P w=.ok cv w∧Rep g v cv:=by
 obtain⟨vs,rfl,h1,h2⟩:=hx.agg_inv;obtain⟨us,rfl,h3,h4⟩:=hy.agg_inv;unfold AMR at h;split at h
 case h_2=>cases h
 rename_i fs hu;split at h
 case isFalse=>cases h
 rename_i hc;obtain⟨hc1,hc2⟩:=hc;split at h
 case h_2=>cases h
 rename_i r hr;have hfs:P.fieldsOf t=fs:=by simp [Program.fieldsOf,hu]
 have hE:=AAX (d:=9998) w h1 h2 h3 h4 fs.toList r hr
 have hI:(Op.equalIn 10000 t (.agg vs) (.agg us)).run P w=.ok r w:=by
  rw[run_equalIn_agg w 9999 t vs us (by rw[hfs]; exact hu) hc1,hfs]; exact hE
 split at h
 .cases h
  refine⟨.bool r,?_,.bool g r⟩;simp only[JY,Sem.run_bind,run_eqGuard_agg w .eql t x y vs us hc2,Result.andThen_ok,run_eql_struct,hI]
 .cases h
  refine⟨.bool (!r),?_,.bool g _⟩;simp only[JY,Sem.run_bind,run_eqGuard_agg w .neq t x y vs us hc2,Result.andThen_ok,run_neq_struct,hI]
 .cases h
theorem AHW {P:Program}{t:TypeId}{op:BinOp}{x y v:AV}{cx cy:Value}{g:Gh}(w:World)(ox oy:Operand)(h:UZ P t op x y=some v)
  (hx:Rep g x cx) (hy:Rep g y cy):∃cv,(JY op t ox oy cx cy).run P w=.ok cv w∧Rep g v cv:=by
 have key:∀(a b:Bool),KU x=some a->KU y=some b->(a=true∨b=true)->(AEV P t=some 0∧U8 x=some 0∧U8 y=some 0∨AEV P t=some 1∧U8 x=some 1∧U8 y=some 1∨AEV P t=some 2∧U8 x=some 2∧U8 y=some 2) ->
   (Op.equal t cx cy).run P w=.ok (a&&b) w∧(∀(op:BinOp),(eqGuard op t ox oy cx cy).run P w=.ok () w)∧binOp .eql t cx cy=(do pure (.bool (<-Op.equal t cx cy)):Sem Value)∧binOp .neq t cx cy=(do pure (.bool (!(<-Op.equal t cx cy))):Sem Value):=by
  intro a b ha hb hab hr
  have hu:(AEV P t=some 0->∃e,P.underlying t=some (.slice e))∧(AEV P t=some 1->∃e,P.underlying t=some (.pointer e))∧(AEV P t=some 2->∃p r q,P.underlying t=some (.func p r q)):=by
   unfold AEV;refine⟨fun h=>?_,fun h=>?_,fun h=>?_⟩<;>split at h<;>simp at h<;>simp_all
  have hg:∀(op:BinOp) (c d:Value),(match c,d with|.nilIface,.nilIface=>False|.agg _,.agg _=>False|_,_=>True)->(eqGuard op t ox oy c d).run P w=.ok () w:=by
   intro op c d hcd;unfold eqGuard;cases op<;>simp
   all_goals (split<;>simp_all)
  rcases hr with⟨h0,h1,h2⟩|⟨h0,h1,h2⟩|⟨h0,h1,h2⟩
  .obtain⟨e,he⟩:=hu.1 h0
   have cxs:∃p l c,cx=.slice p l c∧(a=p.isNone):=by
    cases x<;>simp [U8] at h1
    case sl m k xs =>
     cases hx.sl_inv with
     | nil=>simp [KU] at ha; exact⟨none,0,0,rfl,ha▸rfl⟩
     | empty _ _ q cap hm _=>cases m<;>simp [KU] at ha hm<;>exact⟨_,_,_,rfl,by simp [ha]⟩
     | sl _ _ _ cb co c e fz cap cv q1 hm=>cases m<;>simp [KU] at ha hm<;>exact⟨_,_,_,rfl,by simp [ha]⟩
    case own=>rcases hx.own_inv with⟨l,cap,_,_,_,e⟩|⟨_,q,e⟩<;>subst e<;>simp [KU] at ha<;>exact⟨_,_,_,rfl,by simp [ha]⟩
   have cys:∃p l c,cy=.slice p l c∧(b=p.isNone):=by
    cases y<;>simp [U8] at h2
    case sl m k xs =>
     cases hy.sl_inv with
     | nil=>simp [KU] at hb; exact⟨none,0,0,rfl,hb▸rfl⟩
     | empty _ _ q cap hm _=>cases m<;>simp [KU] at hb hm<;>exact⟨_,_,_,rfl,by simp [hb]⟩
     | sl _ _ _ cb co c e fz cap cv q1 hm=>cases m<;>simp [KU] at hb hm<;>exact⟨_,_,_,rfl,by simp [hb]⟩
    case own=>rcases hy.own_inv with⟨l,cap,_,_,_,e⟩|⟨_,q,e⟩<;>subst e<;>simp [KU] at hb<;>exact⟨_,_,_,rfl,by simp [hb]⟩
   obtain⟨p,l,c,rfl,hp⟩:=cxs;obtain⟨p',l',c',rfl,hp'⟩:=cys;refine⟨?_,fun op=>hg op _ _ trivial,rfl,rfl⟩;rw[PU,AGT he _ _ _ _ _ _ _ _ (by cases p<;>cases p'<;>simp_all),hp,hp']
  .obtain⟨e,he⟩:=hu.2.1 h0
   have cxs:∃p,cx=.pointer p∧(a=p.isNone):=by
    cases x<;>simp [U8] at h1
    case nilp=>simp [KU] at ha; exact⟨none,hx.nilp_inv,by simp [ha]⟩
    case ptr=>obtain⟨l,_,e⟩:=hx.ptr_inv; simp [KU] at ha; exact⟨_,e,by simp [ha]⟩
    case fptr=>cases hx.fptr_inv; simp [KU] at ha; exact⟨_,rfl,by simp [ha]⟩
   have cys:∃p,cy=.pointer p∧(b=p.isNone):=by
    cases y<;>simp [U8] at h2
    case nilp=>simp [KU] at hb; exact⟨none,hy.nilp_inv,by simp [hb]⟩
    case ptr=>obtain⟨l,_,e⟩:=hy.ptr_inv; simp [KU] at hb; exact⟨_,e,by simp [hb]⟩
    case fptr=>cases hy.fptr_inv; simp [KU] at hb; exact⟨_,rfl,by simp [hb]⟩
   obtain⟨p,rfl,hp⟩:=cxs;obtain⟨p',rfl,hp'⟩:=cys;refine⟨?_,fun op=>hg op _ _ trivial,rfl,rfl⟩;rw[PU,AC4 he _ _ _ _ (by cases p<;>cases p'<;>simp_all),hp,hp']
  .obtain⟨e1,e2,e3,he⟩:=hu.2.2 h0
   have cxs:(cx=.nilFunc∧a=true)∨(∃f p q,cx=.func f p q∧a=false):=by
    cases x<;>simp [U8] at h1
    case nilfn=>simp [KU] at ha; exact .inl ⟨hx.nilfn_inv,ha⟩
    case fn=>obtain⟨p,q,e,_⟩:=hx.fn_inv; simp [KU] at ha; exact .inr ⟨_,_,_,e,ha⟩
   have cys:(cy=.nilFunc∧b=true)∨(∃f p q,cy=.func f p q∧b=false):=by
    cases y<;>simp [U8] at h2
    case nilfn=>simp [KU] at hb; exact .inl ⟨hy.nilfn_inv,hb⟩
    case fn=>obtain⟨p,q,e,_⟩:=hy.fn_inv; simp [KU] at hb; exact .inr ⟨_,_,_,e,hb⟩
   rcases cxs with⟨rfl,rfl⟩|⟨f,p,q,rfl,rfl⟩<;>rcases cys with⟨rfl,rfl⟩|⟨f',p',q',rfl,rfl⟩
   .exact⟨by rw[PU,(AAI he _ _).1]; rfl,fun op=>hg op _ _ trivial,rfl,rfl⟩
   .exact⟨by rw[PU,(AAI he _ _).2.1]; rfl,fun op=>hg op _ _ trivial,rfl,rfl⟩
   .exact⟨by rw[PU,(AAI he _ _).2.2]; rfl,fun op=>hg op _ _ trivial,rfl,rfl⟩
   .simp at hab
 unfold UZ at h;split at h
 .rename_i hr
  split at h
  .rename_i a ha hb
   obtain⟨k1,k2,k3,k4⟩:=key a true ha hb (.inr rfl) hr
   cases op<;>simp only at h<;>first
    | (cases h; done)
    | (cases h; exact⟨.bool a,by simp [JY,k2,k3,k1],.bool _ _⟩)
    | (cases h; exact⟨.bool (!a),by simp [JY,k2,k4,k1],.bool _ _⟩)
  .rename_i a _ ha hb
   obtain⟨k1,k2,k3,k4⟩:=key true a ha hb (.inl rfl) hr
   cases op<;>simp only at h<;>first
    | (cases h; done)
    | (cases h; exact⟨.bool a,by simp [JY,k2,k3,k1],.bool _ _⟩)
    | (cases h; exact⟨.bool (!a),by simp [JY,k2,k4,k1],.bool _ _⟩)
  .cases h
 .cases h
theorem ABX {P:Program}{t:TypeId}{ms:Array (String×TypeId)}(hu:P.underlying t=some (.interface ms))(hms:ms.isEmpty=true)(d:Nat)(w:World):(Op.eqGuardIn (d+1) t .nilIface .nilIface).run P w=.ok false w:=by
 simp [Op.eqGuardIn,CS hu,hms]
theorem AC5 {P:Program}{t:TypeId}{ms:Array (String×TypeId)}(hu:P.underlying t=some (.interface ms))(d:Nat)(w:World):(Op.equalIn (d+1) t .nilIface .nilIface).run P w=.ok true w∧∀q u,(Op.equalIn (d+1) t (.iface q u) .nilIface).run P w=.ok false w:=by
 simp [Op.equalIn,CS hu]
theorem Z7 {P:Program}{t:TypeId}{op:BinOp}{x y v:AV}{cx cy:Value}{g:Gh}(w:World)(ox oy:Operand)(h:AHX P t op x y=some v)
  (hx:Rep g x cx) (hy:Rep g y cy):∃cv,(JY op t ox oy cx cy).run P w=.ok cv w∧Rep g v cv:=by
 unfold AHX at h;split at h
 case h_2=>cases h
 rename_i ms hu;split at h
 case isFalse=>cases h
 rename_i hms;split at h
 case h_2=>cases h
 rename_i a ha;have hcy:=hy.nilifc_inv;subst hcy;have hgd:(Op.eqGuardIn Op.maxDepth t .nilIface .nilIface).run P w=.ok false w:=ABX hu hms 9999 w
 have hcx:(cx=.nilIface∧a=true)∨(∃q u,cx=.iface q u)∧a=false:=by
  cases x<;>simp [ASH] at ha
  .exact .inr ⟨⟨_,_,hx.ifc_inv⟩,ha⟩
  .exact .inl ⟨hx.nilifc_inv,ha⟩
 rcases hcx with⟨rfl,rfl⟩|⟨⟨q,u,rfl⟩,rfl⟩
 .have he:(Op.equal t .nilIface .nilIface).run P w=.ok true w:=(AC5 hu 9999 w).1
  have hG:∀(op:BinOp),(eqGuard op t ox oy .nilIface .nilIface).run P w=.ok () w:=fun op=>by
   unfold eqGuard;cases op<;>simp [hgd]
  cases op<;>simp only at h<;>first
   | (cases h; done)
   | (cases h; refine⟨.bool true,?_,.bool _ _⟩; simp only[JY,Sem.run_bind,hG,Result.andThen_ok]; simp [binOp,he])
   | (cases h; refine⟨.bool false,?_,.bool _ _⟩; simp only[JY,Sem.run_bind,hG,Result.andThen_ok]; simp [binOp,he])
 .have he:(Op.equal t (.iface q u) .nilIface).run P w=.ok false w:=(AC5 hu 9999 w).2 q u
  have hG:∀(op:BinOp),(eqGuard op t ox oy (.iface q u) .nilIface).run P w=.ok () w:=fun op=>by
   unfold eqGuard;cases op<;>simp
  cases op<;>simp only at h<;>first
   | (cases h; done)
   | (cases h; refine⟨.bool false,?_,.bool _ _⟩; simp only[JY,Sem.run_bind,hG,Result.andThen_ok]; simp [binOp,he])
   | (cases h; refine⟨.bool true,?_,.bool _ _⟩; simp only[JY,Sem.run_bind,hG,Result.andThen_ok]; simp [binOp,he])
theorem AMQ {P:Program}{t:TypeId}{op:BinOp}{x y v:AV}{cx cy:Value}{g:Gh}(w:World)(ox oy:Operand)(h:JD P t op x y=some v)
  (hx:Rep g x cx) (hy:Rep g y cy):∃cv,(JY op t ox oy cx cy).run P w=.ok cv w∧Rep g v cv:=by
 unfold JD at h;cases x<;>simp only at h
 case int k a =>
  cases y<;>simp only at h<;>first|(cases h; done)|skip
  rw[hx.int_inv,hy.int_inv]; exact AMO g w ox oy h
 case str a =>
  cases y<;>simp only at h<;>first|(cases h; done)|skip
  rw[hx.str_inv,hy.str_inv]; exact AMM g w ox oy h
 case bool a =>
  cases y<;>simp only at h<;>first|(cases h; done)|skip
  rw[hx.bool_inv,hy.bool_inv]; exact AE6 g w ox oy h
 case agg a =>
  cases y<;>simp only at h<;>first|(cases h; done)|skip
  exact AHY w ox oy h hx hy
 case tup=>cases h
 case ifc=>exact Z7 w ox oy h hx hy
 case nilifc=>exact Z7 w ox oy h hx hy
 case mp=>cases h
 case nilmp=>cases h
 case junk=>cases h
 all_goals exact AHW w ox oy h hx hy

theorem addr_add (b o n:Nat):(Addr.mk b o none).add n=⟨b,o+n,none⟩:=by
 unfold Addr.add; split
 .rename_i h; subst h; rfl
 .rfl
theorem ANX {α:Type}{n:Nat}{p:Nat->α->Prop}(h:∀j,j<n->∃c,p j c):∃cs:List α,cs.length=n∧∀(j:Nat) (c:α),cs[j]?=some c->p j c:=by
 induction n with
 | zero=>exact⟨[],rfl,by simp⟩
 | succ n ih =>
   obtain⟨cs,h1,h2⟩:=ih (fun j hj=>h j (by omega));obtain⟨c,hc⟩:=h n (by omega);refine⟨cs++[c],by simp [h1],fun j d hd=>?_⟩;rw[wC] at hd;split at hd
   .exact h2 j d hd
   .rename_i hj
    have:j=n:=by
     have h3:j-cs.length<1:=by
      rcases jY (j-cs.length) 1 with h|h
      .exact h
      .rw[zO (by simpa using h)] at hd; cases hd
     omega
    subst this;have:j-cs.length=0:=by omega
    rw[this] at hd;simp at hd; subst hd; exact hc
def SI (g:Gh)(h:List ABlk)(cb:Nat):Prop:=∀b x l,h[b]?=some x->x≠.dead->g.μ b=some l->l.cb≠cb
theorem SimH.fro_ne {E:Env}{g:Gh}{h:List ABlk}{w:World}(S:SimH E g h w){k:Nat}{o:Obj}(hk:g.M k=some o):k<w.heap.size:=by
 have:=S.fro k o hk;rcases jY k w.heap.size with h|h
 .exact h
 .simp [Array.getElem?_eq_none h] at this
theorem SimH.world {E:Env}{g:Gh}{h:List ABlk}{w w':World}(S:SimH E g h w)(h1:w'.os=w.os)(h2:w'.tape=w.tape)(h3:w'.output=w.output)
  (hb:∀k,((∃o,g.M k=some o)∨¬SI g h k)->w'.heap[k]?=w.heap[k]?):SimH E g h w' where
 os:=h1.trans S.os
 tape:=h2.trans S.tape
 output:=h3.trans S.output
 fro k o hk:=(hb k (.inl ⟨o,hk⟩)).trans (S.fro k o hk)
 lo:=S.lo
 live b k xs hx:=by
  obtain⟨l,c,e,q1,q2,q3,q4,q5⟩:=S.live b k xs hx;refine⟨l,c,e,q1,q2,q3,?_,q5⟩;rw[hb l.cb (.inr fun hu=>hu b _ l hx (by simp) q1 rfl)]; exact q4
 obj b x hx hi:=by
  obtain⟨l,o,q1,q2,q3,q4,q5,q6⟩:=S.obj b x hx hi;refine⟨l,o,q1,q2,q3,q4,?_,q6⟩;rw[hb l.cb (.inr fun hu=>hu b _ l hx (by rintro rfl; cases hi) q1 rfl)]; exact q5
 inj:=S.inj
 fresh:=S.fresh
 glob:=S.glob
theorem SimH.kill {E:Env}{g:Gh}{h:List ABlk}{w:World}(S:SimH E g h w)(b:Nat):SimH E g (h.set b .dead) w where
 os:=S.os
 tape:=S.tape
 output:=S.output
 fro:=S.fro
 lo:=S.lo
 live b' k xs hx:=by
  rw[zI] at hx;split at hx
  .split at hx<;>simp at hx
  .exact S.live b' k xs hx
 obj b' x hx hi:=by
  rw[zI] at hx;split at hx
  .split at hx
   .cases hx; cases hi
   .cases hx
  .exact S.obj b' x hx hi
 inj b1 b2 x x' l l' e1 n1 e2 n2:=by
  rw[zI] at e1 e2;split at e1
  .split at e1<;>simp at e1; exact absurd e1.symm n1
  .split at e2
   .split at e2<;>simp at e2; exact absurd e2.symm n2
   .exact S.inj b1 b2 x x' l l' e1 n1 e2 n2
 fresh b' hb:=S.fresh b' (by simpa using hb)
 glob:=S.glob
theorem NK {E:Env}{g:Gh}{h:List ABlk}{w:World}(S:SimH E g h w){b:Nat}{x:ABlk}{l:Loc}(hx:h[b]?=some x)(hn:x≠.dead)(hl:g.μ b=some l) :
  SI g (h.set b .dead) l.cb:=by
 intro b' x' l' e1 n1 e2 e3;rw[zI] at e1;split at e1
 .split at e1<;>simp at e1; exact absurd e1.symm n1
 .rename_i hne; exact hne (S.inj b b' x x' l l' hx hn e1 n1 hl e2 e3.symm)
def OO (g:Gh)(c:Array Value)(co k:Nat)(xs:List (List AV)):Prop :=
 co+xs.length*k<=c.size∧VC k xs∧∀(i j:Nat) (row:List AV) (v:AV),xs[i]?=some row->row[j]?=some v->∃cv,c[co+i*k+j]?=some cv∧Rep g v cv
def Gh.adopt (g:Gh)(b:Nat)(l:Loc):Gh := { g with μ:=fun x=>if x=b then some l else g.μ x }
theorem Gh.adopt_le {g:Gh}{b:Nat}{l:Loc}(h:g.μ b=none):g.le (g.adopt b l) :=
 ⟨fun _ _ h=>h,fun x y hx=>by simp only[Gh.adopt]; split<;>simp_all,rfl,rfl,rfl,rfl⟩
theorem SimH.adopt {E:Env}{g:Gh}{h:List ABlk}{w:World}(S:SimH E g h w){cb co k:Nat}{c:Array Value}{e:TypeId}{xs:List (List AV)}
  (hw:w.heap[cb]?=some (.cells c e (0,0))) (hM:g.M cb=none) (hu:SI g h cb) (hr:OO g c co k xs) :
  SimH E (g.adopt h.length ⟨cb,co,k,c.size⟩) (h++[.live k xs]) w:=by
 have hle:=Gh.adopt_le (l:=⟨cb,co,k,c.size⟩) (S.fresh h.length (jP _));have old:∀b,b<h.length->(g.adopt h.length ⟨cb,co,k,c.size⟩).μ b=g.μ b:=fun b hb=>by simp only[Gh.adopt]; rw[if_neg (by omega)]
 have new:(g.adopt h.length ⟨cb,co,k,c.size⟩).μ h.length=some ⟨cb,co,k,c.size⟩:=by simp [Gh.adopt]
 have split:∀b x,(h++[ABlk.live k xs])[b]?=some x->(b<h.length∧h[b]?=some x)∨(b=h.length∧x=.live k xs):=by
  intro b x hx;rw[wC] at hx;split at hx
  .rename_i hb; exact .inl ⟨hb,hx⟩
  .rename_i hb
   right
   have:b-h.length=0:=by
    rcases qQ (b-h.length) with h0|h0
    .exact h0
    .rw[zO (by simp; omega)] at hx; cases hx
   rw[this] at hx;simp at hx;exact⟨by omega,hx.symm⟩
 exact {
  os:=S.os,tape:=S.tape,output:=S.output,fro:=S.fro,lo:=fun g0 hk=>(S.lo g0 hk).trans hle.toM
  live:=by
   intro b k' xs' hx;rcases split b _ hx with⟨hb,hy⟩|⟨rfl,hy⟩
   .obtain⟨l,c',e',q1,q2,q3,q4,q5,q6,q7,q8⟩:=S.live b k' xs' hy
    exact⟨l,c',e',by rw[old b hb]; exact q1,q2,q3,q4,q5,q6,q7,fun i j row v r1 r2=>let ⟨cv,s1,s2⟩:=q8 i j row v r1 r2; ⟨cv,s1,s2.mono hle⟩⟩
   .cases hy
    exact⟨_,c,e,new,rfl,hM,hw,rfl,hr.1,hr.2.1,fun i j row v r1 r2=>let ⟨cv,s1,s2⟩:=hr.2.2 i j row v r1 r2; ⟨cv,s1,s2.mono hle⟩⟩
  obj:=by
   intro b x hx hi;rcases split b _ hx with⟨hb,hy⟩|⟨rfl,hy⟩
   .obtain⟨l,o,q1,q2,q3,q4,q5,q6⟩:=S.obj b x hy hi
    exact⟨l,o,by rw[old b hb]; exact q1,q2,q3,q4,q5,q6.mono fun _ _ r=>r.mono hle⟩
   .subst hy; cases hi
  inj:=by
   intro b b' x x' l l' e1 n1 e2 n2 m1 m2 hcb;rcases split b _ e1 with⟨hb,e1⟩|⟨rfl,e1⟩<;>rcases split b' _ e2 with⟨hb',e2⟩|⟨rfl,e2⟩
   .rw[old b hb] at m1; rw[old b' hb'] at m2; exact S.inj b b' x x' l l' e1 n1 e2 n2 m1 m2 hcb
   .rw[old b hb] at m1; rw[new] at m2; cases m2; exact absurd hcb (hu b x l e1 n1 m1)
   .rw[new] at m1; rw[old b' hb'] at m2; cases m1; exact absurd hcb.symm (hu b' x' l' e2 n2 m2)
   .rfl
  fresh:=by
   intro b hb;simp at hb;simp only[Gh.adopt]; rw[if_neg (by omega)]; exact S.fresh b (by omega)
  glob:=S.glob }
theorem SimH.adopt_obj {E:Env}{g:Gh}{h:List ABlk}{w:World}(S:SimH E g h w){cb:Nat}{y:ABlk}{oy:Obj}
  (hw:w.heap[cb]?=some oy) (hM:g.M cb=none) (hu:SI g h cb) (hyo:ObjRep g y oy) :
  SimH E (g.adopt h.length ⟨cb,0,0,0⟩) (h++[y]) w:=by
 have hyi:=hyo.isObj;have hle:=Gh.adopt_le (l:=⟨cb,0,0,0⟩) (S.fresh h.length (jP _));have old:∀b,b<h.length->(g.adopt h.length ⟨cb,0,0,0⟩).μ b=g.μ b:=fun b hb=>by simp only[Gh.adopt]; rw[if_neg (by omega)]
 have new:(g.adopt h.length ⟨cb,0,0,0⟩).μ h.length=some ⟨cb,0,0,0⟩:=by simp [Gh.adopt]
 have split:∀b x,(h++[y])[b]?=some x->(b<h.length∧h[b]?=some x)∨(b=h.length∧x=y):=by
  intro b x hx;rw[wC] at hx;split at hx
  .rename_i hb; exact .inl ⟨hb,hx⟩
  .rename_i hb
   right
   have:b-h.length=0:=by
    rcases qQ (b-h.length) with h0|h0
    .exact h0
    .rw[zO (by simp; omega)] at hx; cases hx
   rw[this] at hx;simp at hx;exact⟨by omega,hx.symm⟩
 exact {
  os:=S.os,tape:=S.tape,output:=S.output,fro:=S.fro,lo:=fun g0 hk=>(S.lo g0 hk).trans hle.toM
  live:=by
   intro b k' xs' hx;rcases split b _ hx with⟨hb,hy⟩|⟨rfl,hy⟩
   .obtain⟨l,c',e',q1,q2,q3,q4,q5,q6,q7,q8⟩:=S.live b k' xs' hy
    exact⟨l,c',e',by rw[old b hb]; exact q1,q2,q3,q4,q5,q6,q7,fun i j row v r1 r2=>let ⟨cv,s1,s2⟩:=q8 i j row v r1 r2; ⟨cv,s1,s2.mono hle⟩⟩
   .subst hy; cases hyi
  obj:=by
   intro b x hx hi;rcases split b _ hx with⟨hb,hy⟩|⟨rfl,hy⟩
   .obtain⟨l,o,q1,q2,q3,q4,q5,q6⟩:=S.obj b x hy hi
    exact⟨l,o,by rw[old b hb]; exact q1,q2,q3,q4,q5,q6.mono fun _ _ r=>r.mono hle⟩
   .subst hy
    exact⟨_,oy,new,rfl,rfl,hM,hw,hyo.mono fun _ _ r=>r.mono hle⟩
  inj:=by
   intro b b' x x' l l' e1 n1 e2 n2 m1 m2 hcb;rcases split b _ e1 with⟨hb,e1⟩|⟨rfl,e1⟩<;>rcases split b' _ e2 with⟨hb',e2⟩|⟨rfl,e2⟩
   .rw[old b hb] at m1; rw[old b' hb'] at m2; exact S.inj b b' x x' l l' e1 n1 e2 n2 m1 m2 hcb
   .rw[old b hb] at m1; rw[new] at m2; cases m2; exact absurd hcb (hu b x l e1 n1 m1)
   .rw[new] at m1; rw[old b' hb'] at m2; cases m1; exact absurd hcb.symm (hu b' x' l' e2 n2 m2)
   .rfl
  fresh:=by
   intro b hb;simp at hb;simp only[Gh.adopt]; rw[if_neg (by omega)]; exact S.fresh b (by omega)
  glob:=S.glob }
theorem SimH.revive {E:Env}{g:Gh}{h:List ABlk}{w:World}(S:SimH E g h w){b:Nat}{l:Loc}{c:Array Value}{e:TypeId}{xs:List (List AV)}
  (hl:g.μ b=some l) (hw:w.heap[l.cb]?=some (.cells c e (0,0))) (hsz:c.size=l.sz) (hM:g.M l.cb=none) (hu:SI g h l.cb) (hr:OO g c l.co l.k xs) :
  SimH E g (h.set b (.live l.k xs)) w where
 os:=S.os
 tape:=S.tape
 output:=S.output
 fro:=S.fro
 lo:=S.lo
 live b' k' xs' hx:=by
  rw[zI] at hx;split at hx
  .rename_i hb; subst hb
   split at hx<;>simp at hx;obtain⟨rfl,rfl⟩:=hx;exact⟨l,c,e,hl,rfl,hM,hw,hsz,hsz▸hr.1,hr.2.1,hr.2.2⟩
  .exact S.live b' k' xs' hx
 obj b' x hx hi:=by
  rw[zI] at hx;split at hx
  .split at hx
   .cases hx; cases hi
   .cases hx
  .exact S.obj b' x hx hi
 inj b1 b2 x x' l1 l2 e1 n1 e2 n2 m1 m2 hcb:=by
  rw[zI] at e1 e2;split at e1<;>split at e2
  .rename_i a1 a2; rw[<-a1,<-a2]
  .rename_i a1 a2; subst a1; rw[hl] at m1; cases m1; exact absurd hcb.symm (hu b2 x' l2 e2 n2 m2)
  .rename_i a1 a2; subst a2; rw[hl] at m2; cases m2; exact absurd hcb (hu b1 x l1 e1 n1 m1)
  .exact S.inj b1 b2 x x' l1 l2 e1 n1 e2 n2 m1 m2 hcb
 fresh b' hb:=S.fresh b' (by simpa using hb)
 glob:=S.glob
theorem SimH.revive_obj {E:Env}{g:Gh}{h:List ABlk}{w:World}(S:SimH E g h w){b:Nat}{l:Loc}{y:ABlk}{oy:Obj}
  (hl:g.μ b=some l) (h0:l.co=0) (h1:l.k=0) (hw:w.heap[l.cb]?=some oy) (hM:g.M l.cb=none) (hu:SI g h l.cb) (hyo:ObjRep g y oy) :
  SimH E g (h.set b y) w where
 os:=S.os
 tape:=S.tape
 output:=S.output
 fro:=S.fro
 lo:=S.lo
 live b' k' xs' hx:=by
  rw[zI] at hx;split at hx
  .split at hx
   .cases hx; cases hyo
   .cases hx
  .exact S.live b' k' xs' hx
 obj b' x hx hi:=by
  rw[zI] at hx;split at hx
  .rename_i hb; subst hb
   split at hx
   .cases hx; exact⟨l,oy,hl,h0,h1,hM,hw,hyo⟩
   .cases hx
  .exact S.obj b' x hx hi
 inj b1 b2 x x' l1 l2 e1 n1 e2 n2 m1 m2 hcb:=by
  rw[zI] at e1 e2;split at e1<;>split at e2
  .rename_i a1 a2; rw[<-a1,<-a2]
  .rename_i a1 a2; subst a1; rw[hl] at m1; cases m1; exact absurd hcb.symm (hu b2 x' l2 e2 n2 m2)
  .rename_i a1 a2; subst a2; rw[hl] at m2; cases m2; exact absurd hcb (hu b1 x l1 e1 n1 m1)
  .exact S.inj b1 b2 x x' l1 l2 e1 n1 e2 n2 m1 m2 hcb
 fresh b' hb:=S.fresh b' (by simpa using hb)
 glob:=S.glob
def Gh.freeze (g:Gh)(cb:Nat)(o:Obj):Gh := { g with M:=fun x=>if x=cb then some o else g.M x }
theorem Gh.freeze_le {g:Gh}{cb:Nat}{o:Obj}(h:g.M cb=none):g.le (g.freeze cb o) :=
 ⟨fun k o' hk=>by simp only[Gh.freeze]; split<;>simp_all,fun _ _ h=>h,rfl,rfl,rfl,rfl⟩
theorem SimH.freeze {E:Env}{g:Gh}{h:List ABlk}{w:World}(S:SimH E g h w){cb:Nat}{o:Obj}(hw:w.heap[cb]?=some o)(hM:g.M cb=none)(hu:SI g h cb) :
  SimH E (g.freeze cb o) h w:=by
 have hle:=Gh.freeze_le (o:=o) hM;have hne:∀l,g.M l=none->l≠cb->(g.freeze cb o).M l=none:=fun l h0 h1=>by simp only[Gh.freeze]; rw[if_neg h1]; exact h0
 exact {
  os:=S.os,tape:=S.tape,output:=S.output
  lo:=fun g0 hk=>(S.lo g0 hk).trans hle.toM
  fro:=by
   intro k o' hk;simp only[Gh.freeze] at hk;split at hk
   .rename_i hkc; cases hk; rw[hkc]; exact hw
   .exact S.fro k o' hk
  live:=by
   intro b k xs hx;obtain⟨l,c',e',q1,q2,q3,q4,q5,q6,q7,q8⟩:=S.live b k xs hx;exact⟨l,c',e',q1,q2,hne _ q3 (hu b _ l hx (by simp) q1),q4,q5,q6,q7,fun i j row v r1 r2=>let ⟨cv,s1,s2⟩:=q8 i j row v r1 r2; ⟨cv,s1,s2.mono hle⟩⟩
  obj:=by
   intro b x hx hi;obtain⟨l,o,q1,q2,q3,q4,q5,q6⟩:=S.obj b x hx hi;exact⟨l,o,q1,q2,q3,hne _ q4 (hu b _ l hx (by rintro rfl; cases hi) q1),q5,q6.mono fun _ _ r=>r.mono hle⟩
  inj:=S.inj
  fresh:=S.fresh
  glob:=fun n=>(S.glob n).mono hle.M }
theorem SimH.unowned_new {E:Env}{g:Gh}{h:List ABlk}{w:World}(S:SimH E g h w){cb:Nat}(hcb:w.heap.size<=cb):SI g h cb∧g.M cb=none:=by
 constructor
 .intro b x l hx hn hl he
  cases x with
  | dead=>exact hn rfl
  | live k xs =>
    obtain⟨l',c,e,q1,_,_,q4,_⟩:=S.live b k xs hx;rw[hl] at q1; cases q1;rw[he,Array.getElem?_eq_none hcb] at q4; cases q4
  | _ =>
    obtain⟨l',o,q1,_,_,_,q5,_⟩:=S.obj b _ hx rfl;rw[hl] at q1; cases q1;rw[he,Array.getElem?_eq_none hcb] at q5; cases q5
 .cases hM:g.M cb with
  | none=>rfl
  | some o=>have:=S.fro_ne hM; omega
structure Grew (w w':World) (o:Obj):Prop where
 os:w'.os=w.os
 tape:w'.tape=w.tape
 output:w'.output=w.output
 heap:w'.heap=w.heap.push o
theorem SimH.grew {E:Env}{g:Gh}{h:List ABlk}{w w':World}{o:Obj}(S:SimH E g h w)(hw:Grew w w' o):SimH E g h w'∧w'.heap[w.heap.size]?=some o:=by
 refine⟨S.world hw.os hw.tape hw.output fun k hk=>?_,by rw[hw.heap]; simp⟩
 have hlt:k<w.heap.size:=by
  rcases jY k w.heap.size with hlt|hge
  .exact hlt
  .obtain⟨u1,u2⟩:=S.unowned_new hge
   rcases hk with⟨o',ho⟩|hk
   .rw[u2] at ho; cases ho
   .exact absurd u1 hk
 rw[hw.heap,Array.getElem?_push,if_neg (by omega)]
theorem SimH.new {E:Env}{g:Gh}{h:List ABlk}{w w':World}{c:Array Value}{e:TypeId}{k:Nat}{xs:List (List AV)}(S:SimH E g h w)(hw:Grew w w' (.cells c e (0,0)))
  (hr:OO g c 0 k xs):SimH E (g.adopt h.length ⟨w.heap.size,0,k,c.size⟩) (h++[.live k xs]) w'∧g.le (g.adopt h.length ⟨w.heap.size,0,k,c.size⟩):=by
 obtain⟨S',h0⟩:=S.grew hw;obtain⟨u1,u2⟩:=S.unowned_new (jP _);exact⟨S'.adopt h0 u2 u1 hr,Gh.adopt_le (S.fresh _ (jP _))⟩
theorem SimH.newF {E:Env}{g:Gh}{h:List ABlk}{w w':World}{o:Obj}(S:SimH E g h w)(hw:Grew w w' o) :
  SimH E (g.freeze w.heap.size o) h w'∧g.le (g.freeze w.heap.size o)∧(g.freeze w.heap.size o).M w.heap.size=some o:=by
 obtain⟨S',h0⟩:=S.grew hw;obtain⟨u1,u2⟩:=S.unowned_new (jP _);exact⟨S'.freeze h0 u2 u1,Gh.freeze_le u2,by simp [Gh.freeze]⟩
structure Wrote (w w':World) (cb:Nat) (e:TypeId) (c c':Array Value) (off:Nat) (vs:List Value):Prop where
 os:w'.os=w.os
 tape:w'.tape=w.tape
 output:w'.output=w.output
 here:w'.heap[cb]?=some (.cells c' e (0,0))
 size:c'.size=c.size
 cells:∀j,c'[j]?=if off<=j∧j<off+vs.length then vs[j-off]? else c[j]?
 else_:∀k,k≠cb->w'.heap[k]?=w.heap[k]?
theorem OW (P:Program)(cb off:Nat)(e:TypeId):∀(vs:List Value) (i:Nat) (w:World) (c:Array Value),w.heap[cb]?=some (.cells c e (0,0))->off+i+vs.length<=c.size ->
  (∀v∈vs,v.oneCell'=true)->∃w' c',(storeCells ⟨cb,off,none⟩ vs i).run P w=.ok () w'∧Wrote w w' cb e c c' (off+i) vs
 | [],i,w,c,hw,_,_=>⟨w,c,by simp [storeCells],⟨rfl,rfl,rfl,hw,rfl,fun j=>by rw[if_neg (by simp)],fun _ _=>rfl⟩⟩
 | v::vs,i,w,c,hw,hlen,h1=>by
   simp only[zZ] at hlen
   have hcell:w.cell? ⟨cb,off+i,none⟩=some (c[off+i]'(by omega)):=by
    simp [World.cell?,hw]
   have hfz:w.frozen? ⟨cb,off+i,none⟩=false:=by simp [World.frozen?,hw]
   have hstep:(store ((Addr.mk cb off none).add i) v).run P w=.ok () (w.setCell ⟨cb,off+i,none⟩ v):=by
    rw[addr_add,run_store P w _ v .plain (h1 v (by simp)),hcell];simp [hfz]
   have hw1:(w.setCell ⟨cb,off+i,none⟩ v).heap[cb]?=some (.cells (c.setIfInBounds (off+i) v) e (0,0)):=by
    simp [World.setCell,Array.getElem?_modify,hw]
   obtain⟨w',c',hrun,hW⟩:=OW P cb off e vs (i+1) _ _ hw1 (by simp; omega) (fun u hu=>h1 u (by simp [hu]));refine⟨w',c',?_,?_⟩
   .simp only[storeCells,Sem.run_bind,hstep,Result.andThen_ok,hrun]
   .exact {
    os:=hW.os,tape:=hW.tape,output:=hW.output,here:=hW.here
    size:=by rw[hW.size]; simp
    cells:=by
     intro j;rw[hW.cells j];simp only[zZ];by_cases h2:off+(i+1)<=j∧j<off+(i+1)+vs.length
     .rw[if_pos h2,if_pos (by omega)]
      have:j-(off+i)=(j-(off+(i+1)))+1:=by omega
      rw[this]; simp
     .rw[if_neg h2]
      by_cases h3:j=off+i
      .subst h3
       rw[if_pos (by omega)];have:off+i<c.size:=by omega
       simp [this]
      .rw[if_neg (by omega),Array.getElem?_setIfInBounds_ne (by omega)]
    else_:=by
     intro k hk;rw[hW.else_ k hk];simp only[World.setCell,Array.getElem?_modify]
     rw[if_neg (by simpa using fun h=>hk h.symm)] }
theorem SimH.write {E:Env}{g:Gh}{h:List ABlk}{w w':World}{b k:Nat}{xs xs':List (List AV)}{l:Loc}{c c':Array Value}{e:TypeId}{off:Nat}{vs:List Value}(S:SimH E g h w)
  (hb:h[b]?=some (.live k xs)) (hl:g.μ b=some l) (hw:Wrote w w' l.cb e c c' off vs) (hsz:c.size=l.sz) (hr:OO g c' l.co l.k xs'):SimH E g (h.set b (.live l.k xs')) w':=by
 have S1:=S.kill b;have u:=NK S hb (by simp) hl;obtain⟨l',c0,e0,q1,q2,q3,q4,q5,_⟩:=S.live b k xs hb;rw[hl] at q1; cases q1
 have S2:SimH E g (h.set b .dead) w':=S1.world hw.os hw.tape hw.output fun k' hk=>by
  refine hw.else_ k' fun he=>?_
  subst he;rcases hk with⟨o,ho⟩|hk
  .rw[q3] at ho; cases ho
  .exact hk u
 have:=S2.revive hl hw.here (hw.size.trans hsz) q3 u hr;simpa using this

def rowAt (h:List ABlk):AV->Option (List AV×Nat)
 | .ptr b i j=>match h[b]? with
   | some (.live _ xs)=>match xs[i]? with
     | some row=>some (row,j)
     | none=>none
   | _=>none
 | .fptr _ xs i j=>match xs[i]? with
   | some row=>some (row,j)
   | none=>none
 | _=>none
theorem TK {w:World}{cb o:Nat}{c:Array Value}{e:TypeId}{fz:Nat×Nat}(h:w.heap[cb]?=some (.cells c e fz)):w.cell? ⟨cb,o,none⟩=c[o]? := by simp [World.cell?,h]
theorem CB {α:Type}{l:List α}{i:Nat}{x:α}(h:l[i]?=some x):i<l.length:=by
 rcases jY i l.length with h1|h1
 .exact h1
 .rw[zO h1] at h; cases h
theorem AK1 {E:Env}{g:Gh}{h:List ABlk}{w:World}{a:AV}{ca:Value}{row:List AV}{j:Nat}(S:SimH E g h w)(hr:Rep g a ca)(ha:rowAt h a=some (row,j)) :
  ∃cb base,ca=.pointer (some ⟨cb,base+j,none⟩)∧∀(j':Nat) (v:AV),row[j']?=some v->∃c,w.cell? ⟨cb,base+j',none⟩=some c∧Rep g v c:=by
 unfold rowAt at ha;split at ha
 .rename_i b i j0
  split at ha
  .rename_i k xs hb
   split at ha
   .rename_i row' hrow
    cases ha;obtain⟨l,hl,rfl⟩:=hr.ptr_inv;obtain⟨l',c,e,q1,q2,q3,q4,q5,q6,q7,q8⟩:=S.live b k xs hb;rw[hl] at q1; cases q1;refine⟨l.cb,l.co+i*l.k,rfl,fun j' v hv=>?_⟩;obtain⟨cv,s1,s2⟩:=q8 i j' row v hrow hv;exact⟨cv,by rw[TK q4,q2]; exact s1,s2⟩
   .cases ha
  .cases ha
 .rename_i k xs i j0
  split at ha
  .rename_i row' hrow
   cases ha
   cases hr.fptr_inv with
   | fptr _ _ _ _ cb co c e fz cv h3 h4 h5 h6 =>
     refine⟨cb,co+i*k,rfl,fun j' v hv=>?_⟩;have hk:=(h4 i row hrow).1;have hj:j'<k:=hk▸CB hv;exact⟨cv i j',by rw[TK (S.fro _ _ h3)]; exact h5 i j' (CB hrow) hj,.fro (h6 i j' row v hrow hv)⟩
  .cases ha
 .cases ha
def DF (P:Program)(h:List ABlk)(t:TypeId)(a:AV):Option AV :=
 match rowAt h a with
 | some (row,j)=>match JO P t with
   | some true=>match szO P t with
     | some n=>if j+n<=row.length then some (.agg ((row.drop j).take n)) else none
     | none=>none
   | some false=>row[j]?
   | none=>none
 | none=>none
theorem ADH {E:Env}{g:Gh}{h:List ABlk}{w:World}{t:TypeId}{a v:AV}{ca:Value}(S:SimH E g h w)(ha:DF E.P h t a=some v)(hr:Rep g a ca) :
  ∃cv,(Instr.loadAt t ca).run E.P w=.ok cv w∧Rep g v cv:=by
 unfold DF at ha;split at ha
 case h_2=>cases ha
 rename_i row j hrow;obtain⟨cb,base,rfl,hread⟩:=AK1 S hr hrow;split at ha
 .rename_i hag
  split at ha
  .rename_i n hn
   split at ha
   .rename_i hle
    cases ha
    have hex:∀i,i<n->∃c,w.cell? ⟨cb,base+j+i,none⟩=some c∧∀v,((row.drop j).take n)[i]?=some v->Rep g v c:=by
     intro i hi;have hlt:j+i<row.length:=by omega
     obtain⟨c,h1,h2⟩:=hread (j+i) row[j+i] (by simp [hlt]);refine⟨c,by rw[wE]; exact h1,fun v hv=>?_⟩
     have:row[j+i]?=some v:=by
      rw[qN,if_pos hi,wF] at hv;exact hv
     rw[jX hlt] at this;cases this; exact h2
    obtain⟨cs,hl,hcs⟩:=ANX hex;have hrun:=run_loadCells_list (P:=E.P) w ⟨cb,base+j,none⟩ cs (fun i c hc=>by rw[addr_add]; exact(hcs i c hc).1);rw[hl] at hrun;refine⟨.agg cs.toArray,?_,.agg _ _ (by simp [hl]; omega) ?_⟩
    .simp [Instr.loadAt,Instr.sureAddr,loadVar,LC hag,FY hn,hrun]
    .intro i v cv h1 h2
     exact(hcs i cv (by simpa using h2)).2 v h1
   .cases ha
  .cases ha
 .rename_i hag
  obtain⟨c,h1,h2⟩:=hread j v ha;exact⟨c,by simp [Instr.loadAt,Instr.sureAddr,loadVar,LC hag,h1],h2⟩
 .cases ha
def JM:AV->Option (List AV)
 | .agg cs=>if cs.all AV.leaf then some cs else none
 | .tup _=>none
 | .junk=>none
 | v=>some [v]
theorem PX {g:Gh}{v:AV}{cs:List AV}{cv:Value}(h:JM v=some cs)(hr:Rep g v cv) :
  cv.cells.size=cs.length∧(∀(j:Nat) (x:AV),cs[j]?=some x->x.leaf=true)∧(∀(j:Nat) (x:AV) (c:Value),cs[j]?=some x->cv.cells[j]?=some c->Rep g x c∧c.oneCell'=true) ∧
  ∀c∈cv.cells.toList,c.oneCell'=true:=by
 have one:v.leaf=true->cs=[v]->cv.cells.size=cs.length∧(∀(j:Nat) (x:AV),cs[j]?=some x->x.leaf=true)∧(∀(j:Nat) (x:AV) (c:Value),cs[j]?=some x->cv.cells[j]?=some c->Rep g x c∧c.oneCell'=true) ∧
  ∀c∈cv.cells.toList,c.oneCell'=true:=by
  intro hl e;subst e;obtain⟨h1,h2⟩:=hr.leaf_one hl;rw[h2];refine⟨rfl,?_,?_,?_⟩
  .intro j x hx; cases j<;>simp at hx; subst hx; exact hl
  .intro j x c hx hc; cases j<;>simp at hx hc; subst hx hc; exact⟨hr,h1⟩
  .intro c hc; simp at hc; subst hc; exact h1
 cases v<;>simp [JM] at h<;>first|exact one rfl h.symm|skip
 obtain⟨h,rfl⟩:=h;rename_i cs;obtain⟨vs,rfl,h1,h2⟩:=hr.agg_inv
 have hx:∀(j:Nat) (x:AV) (c:Value),cs[j]?=some x->(Value.agg vs).cells[j]?=some c->Rep g x c∧c.oneCell'=true:=by
  intro j x c hx hc;have hr':=h2 j x c hx hc;exact⟨hr',(hr'.leaf_one (h x (zV hx))).1⟩
 refine⟨h1,fun j x hx=>h x (zV hx),hx,fun c hc=>?_⟩;obtain⟨j,hj,hjc⟩:=qW hc;simp only[Value.cells,Array.length_toList] at hj;have:j<cs.length:=by omega
 exact(hx j cs[j] c (by simp [this]) (by simp only[Value.cells] at hjc|-; rw[<-hjc]; simp [hj])).2
def splice (row:List AV)(j:Nat)(cs:List AV):List AV:=row.take j++cs++row.drop (j+cs.length)
theorem XJ (row:List AV)(j:Nat)(cs:List AV)(h:j+cs.length<=row.length)(i:Nat) :
  (splice row j cs)[i]?=if j<=i∧i<j+cs.length then cs[i-j]? else row[i]? := by
 unfold splice;rw[List.append_assoc,wC];simp only[List.length_take,Nat.min_eq_left (show j<=row.length by omega)];split
 .rename_i hlt
  rw[if_neg (by omega),qN,if_pos hlt]
 .rw[wC]
  split
  .rw[if_pos (by omega)]
  .rw[if_neg (by omega),wF]
   congr 1; omega
theorem WY (row:List AV)(j:Nat)(cs:List AV)(h:j+cs.length<=row.length):(splice row j cs).length=row.length:=by
 simp [splice]; omega
def FO (P:Program)(h:List ABlk)(t:TypeId)(a v:AV):Option (List ABlk) :=
 match a with
 | .ptr b i j=>match h[b]? with
   | some (.live k xs)=>match xs[i]? with
     | some row=>match JM v with
       | some cs=>if szO P t=some cs.length∧j+cs.length<=row.length then some (h.set b (.live k (xs.set i (splice row j cs)))) else none
       | none=>none
     | none=>none
   | _=>none
 | _=>none
theorem ALU {k i j i' j':Nat}(hj:j<k)(hj':j'<k)(h:i*k+j=i'*k+j'):i=i'∧j=j':=by
 have h1:(i*k+j)/k=i:=by rw[qX,Nat.mul_add_div (by omega),Nat.div_eq_of_lt hj]; omega
 have h2:(i'*k+j')/k=i':=by rw[qX,Nat.mul_add_div (by omega),Nat.div_eq_of_lt hj']; omega
 rw[h] at h1;have:i=i':=h1.symm.trans h2;subst this;exact⟨rfl,by omega⟩
theorem ABL {E:Env}{g:Gh}{h h':List ABlk}{w:World}{t:TypeId}{a v:AV}{ca cv:Value}(S:SimH E g h w)(hs:FO E.P h t a v=some h')(hr:Rep g a ca)(hv:Rep g v cv) :
  ∃w',(Instr.storeAt t ca cv).run E.P w=.ok () w'∧SimH E g h' w':=by
 unfold FO at hs;split at hs
 case h_2=>cases hs
 rename_i b i j;split at hs
 case h_2=>cases hs
 rename_i k xs hb;split at hs
 case h_2=>cases hs
 rename_i row hrow;split at hs
 case h_2=>cases hs
 rename_i cs hcs;split at hs
 case isFalse=>cases hs
 rename_i hc;obtain⟨hsz,hle⟩:=hc;cases hs;obtain⟨l,hl,rfl⟩:=hr.ptr_inv;obtain⟨l',c,e,q1,q2,q3,q4,q5,q6,q7,q8⟩:=S.live b k xs hb;rw[hl] at q1; cases q1;subst q2;obtain⟨a1,a2,a3,a4⟩:=PX hcs hv;have hrl:=(q7 i row hrow).1;have hi:=CB hrow
 have him:i*l.k+l.k<=xs.length*l.k:=by
  have:=wH l.k (show i+1<=xs.length by omega);rw[qB,Nat.one_mul] at this; exact this
 have hlen:cv.cells.toList.length=cs.length:=by simpa using a1
 obtain⟨w',c',hrun,hW⟩:=OW E.P l.cb (l.co+i*l.k+j) e cv.cells.toList 0 w c q4 (by rw[hlen]; omega) a4;have hsz':szO E.P t=some cv.cells.size:=by rw[a1]; exact hsz
 refine⟨w',?_,S.write hb hl hW q5 ?_⟩
 .simp [Instr.storeAt,Instr.sureAddr,storeVar,FY hsz',hrun]
 .refine⟨by rw[hW.size,q5]; simpa using q6,?_,?_⟩
  .intro i' row' hr'
   rw[zI] at hr';split at hr'
   .rename_i hii; subst hii
    cases hr';refine⟨by rw[WY _ _ _ (by omega)]; exact hrl,fun j' x hx=>?_⟩;rw[XJ _ _ _ hle] at hx;split at hx
    .exact a2 _ x hx
    .exact(q7 i row hrow).2 j' x hx
   .exact q7 i' row' hr'
  .intro i' j' row' x hr' hx
   rw[zI] at hr'
   have old:∀row',xs[i']?=some row'->row'[j']?=some x->¬(i'=i∧j<=j'∧j'<j+cs.length)->∃cv',c'[l.co+i'*l.k+j']?=some cv'∧Rep g x cv':=by
    intro row' h1 h2 h3;have hj':j'<l.k:=(q7 i' row' h1).1▸CB h2;rw[hW.cells,hlen];rw[if_neg ?_]
    .exact q8 i' j' row' x h1 h2
    .intro hh
     have e1:l.co+i'*l.k+j'=l.co+i*l.k+(j+(l.co+i'*l.k+j'-(l.co+i*l.k+j+0))):=by omega
     have e2:=ALU (k:=l.k) (i:=i') (j:=j') (i':=i) (j':=j+(l.co+i'*l.k+j'-(l.co+i*l.k+j+0))) hj' (by omega) (by omega);exact h3 ⟨e2.1,by omega,by omega⟩
   split at hr'
   .rename_i hii; subst hii
    cases hr';rw[XJ _ _ _ hle] at hx;split at hx
    .rename_i hin
     have hlt:j'-j<cv.cells.size:=by omega
     refine⟨cv.cells[j'-j],?_,(a3 (j'-j) x _ hx (by simp [hlt])).1⟩;rw[hW.cells,hlen,if_pos (by omega)];have:l.co+i*l.k+j'-(l.co+i*l.k+j+0)=j'-j:=by omega
     rw[this]; simp [hlt]
    .rename_i hin
     exact old row hrow hx (fun hh=>hin ⟨hh.2.1,hh.2.2⟩)
   .rename_i hii
    exact old row' hr' hx (fun hh=>hii hh.1.symm)
theorem AO9 {g:Gh}{cs:List AV}{c:Array Value}(h1:c.size=cs.length)(h2:∀(j:Nat) (x:AV),cs[j]?=some x->x.leaf=true)
  (h3:∀(j:Nat) (x:AV) (v:Value),cs[j]?=some x->c[j]?=some v->Rep g x v):OO g c 0 cs.length [cs]:=by
 refine⟨by simp [h1],?_,?_⟩
 .intro i row hr
  cases i<;>simp at hr;subst hr; exact⟨rfl,h2⟩
 .intro i j row v hr hv
  cases i<;>simp at hr;subst hr;have hj:=CB hv;refine⟨c[j]'(by omega),by simp,h3 j v _ hv (by simp)⟩
def MG (h:List ABlk)(v:AV):Option (AV×List ABlk) :=
 match JM v with
 | some cs=>some (.ptr h.length 0 0,h++[.live cs.length [cs]])
 | none=>none
theorem Y0 {E:Env}{g:Gh}{h:List ABlk}{w:World}{t:TypeId}{v:AV}{cs:List AV}{cv:Value}(S:SimH E g h w)(hcs:JM v=some cs)(hv:Rep g v cv) :
  ∃w' g',(newVar t cv).run E.P w=.ok ⟨w.heap.size,0,none⟩ w'∧Rep g' (.ptr h.length 0 0) (.pointer (some ⟨w.heap.size,0,none⟩))∧g.le g'∧SimH E g' (h++[.live cs.length [cs]]) w':=by
 obtain⟨a1,a2,a3,a4⟩:=PX hcs hv;obtain⟨S',hle⟩:=S.new (w':=w.alloc (.cells cv.cells t)) (c:=cv.cells) (e:=t) (k:=cs.length) (xs:=[cs]) ⟨rfl,rfl,rfl,rfl⟩ (AO9 a1 a2 fun j x v h1 h2=>(a3 j x v h1 h2).1);refine⟨_,_,?_,?_,hle,S'⟩
 .simp [newVar,newRow]
 .have:=Rep.ptr (g:=g.adopt h.length ⟨w.heap.size,0,cs.length,cv.cells.size⟩) h.length 0 0 _ (show _=some _ by simp [Gh.adopt]; rfl)
  simpa using this
theorem AP6 {E:Env}{g:Gh}{h h':List ABlk}{w:World}{t:TypeId}{v r:AV}{cv:Value}(S:SimH E g h w)(hs:MG h v=some (r,h'))(hv:Rep g v cv) :
  ∃c w' g',(Instr.box t cv).run E.P w=.ok c w'∧Rep g' r c∧g.le g'∧SimH E g' h' w':=by
 unfold MG at hs;split at hs
 .rename_i cs hcs
  cases hs;obtain⟨w',g',hrun,hr,hle,S'⟩:=Y0 (t:=t) S hcs hv;exact⟨_,w',g',by simp [Instr.box,hrun],hr,hle,S'⟩
 .cases hs
def ABQ:Value->AV
 | .int k n=>.int k n
 | .bool b=>.bool b
 | .string s=>.str s
 | .slice none 0 0=>.sl .nil 0 []
 | .pointer none=>.nilp
 | .nilFunc=>.nilfn
 | .nilIface=>.nilifc
 | .map none=>.nilmp
 | _=>.junk
def QL:Value->AV
 | .agg cs=>.agg (cs.toList.map ABQ)
 | .tuple cs=>.tup (cs.toList.map ABQ)
 | v=>ABQ v
theorem ABB (M:Nat->Option Obj)(v:Value):RepF M (ABQ v) v:=by
 unfold ABQ;split<;>constructor
theorem N7 (M:Nat->Option Obj)(v:Value):RepF M (QL v) v:=by
 unfold QL;split
 .refine .agg _ _ (by simp) fun i v cv h1 h2=>?_
  simp at h1;obtain⟨a,h1,rfl⟩:=h1;rw[h1] at h2; cases h2; exact ABB M _
 .refine .tup _ _ (by simp) fun i v cv h1 h2=>?_
  simp at h1;obtain⟨a,h1,rfl⟩:=h1;rw[h1] at h2; cases h2; exact ABB M _
 .exact ABB M _
def J6 (P:Program)(h:List ABlk)(t:TypeId):Option (AV×List ABlk) :=
 match P6 P t with
 | some z=>MG h (QL z)
 | none=>none
theorem AKK {E:Env}{g:Gh}{h h':List ABlk}{w:World}{t:TypeId}{r:AV}(S:SimH E g h w)(hs:J6 E.P h t=some (r,h')) :
  ∃c w' g',(Instr.alloc t true (.tuple #[])).run E.P w=.ok c w'∧Rep g' r c∧g.le g'∧SimH E g' h' w':=by
 unfold J6 at hs;split at hs
 .rename_i z hz
  unfold MG at hs;split at hs
  .rename_i cs hcs
   cases hs;obtain⟨w',g',hrun,hr,hle,S'⟩:=Y0 (t:=t) S hcs (.fro (N7 g.M z));exact⟨_,w',g',by simp [Instr.alloc,JA hz,hrun],hr,hle,S'⟩
  .cases hs
 .cases hs
def CZ (P:Program)(t:TypeId)(a:AV)(f:Nat):Option AV :=
 match P.underlying t with
 | some (.struct fields)=>match fields[f]? with
   | some fl=>match szO P fl.type with
     | some (_+1)=>match a with
       | .ptr b i j=>some (.ptr b i (j+fl.offset))
       | .fptr k xs i j=>some (.fptr k xs i (j+fl.offset))
       | _=>none
     | _=>none
   | none=>none
 | _=>none
theorem ADO {M:Nat->Option Obj}{k i j n:Nat}{xs:List (List AV)}{cv:Value}(h:RepF M (.fptr k xs i j) cv) :
  ∃cb o,cv=.pointer (some ⟨cb,o,none⟩)∧RepF M (.fptr k xs i (j+n)) (.pointer (some ⟨cb,o+n,none⟩)):=by
 cases h with
 | fptr _ _ _ _ cb co c e fz cv h3 h4 h5 h6 =>
   exact⟨cb,_,rfl,by have:=RepF.fptr k xs i (j+n) cb co c e fz cv h3 h4 h5 h6; rwa [<-wE] at this⟩
theorem AB5 {P:Program}{g:Gh}{w:World}{t:TypeId}{a v:AV}{f:Nat}{ca:Value}(ha:CZ P t a f=some v)(hr:Rep g a ca) :
  ∃cv,(Instr.fieldAt t ca f).run P w=.ok cv w∧Rep g v cv:=by
 unfold CZ at ha;split at ha
 case h_2=>cases ha
 rename_i fields hu;split at ha
 case h_2=>cases ha
 rename_i fl hf;split at ha
 case h_2=>cases ha
 rename_i n hn;split at ha
 .cases ha
  obtain⟨l,hl,rfl⟩:=hr.ptr_inv;refine⟨_,by simp [Instr.fieldAt,CS hu,hf,Instr.sureAddr,fieldPlace,FY hn,addr_add]; rfl,?_⟩;rw[wE];exact .ptr _ _ _ l hl
 .cases ha
  obtain⟨cb,o,rfl,h2⟩:=ADO (n:=fl.offset) hr.fptr_inv;exact⟨_,by simp [Instr.fieldAt,CS hu,hf,Instr.sureAddr,fieldPlace,FY hn,addr_add],.fro h2⟩
 .cases ha
def GN (P:Program)(h:List ABlk)(t:TypeId)(a ix:AV):Option AV :=
 match ix with
 | .int _ i=>match P.underlying t with
   | some (.slice e)=>match a with
     | .sl _ k xs=>if szO P e=some k∧0<=i∧i<(xs.length:Int) then some (.fptr k xs i.toNat 0) else none
     | .own b off len=>match h[b]? with
       | some (.live k _)=>if szO P e=some k∧0<=i∧i<(len:Int) then some (.ptr b (off+i.toNat) 0) else none
       | _=>none
     | _=>none
   | some (.array n e)=>match szO P e with
     | some s=>if 0<=i∧i<(n:Int) then match a with
       | .ptr b r j=>some (.ptr b r (j+i.toNat*s))
       | .fptr k xs r j=>some (.fptr k xs r (j+i.toNat*s))
       | _=>none
       else none
     | none=>none
   | _=>none
 | _=>none
theorem AB3 {E:Env}{g:Gh}{h:List ABlk}{w:World}{t:TypeId}{a ix v:AV}{ca ci:Value}(S:SimH E g h w)(ha:GN E.P h t a ix=some v)(hr:Rep g a ca)(hi:Rep g ix ci) :
  ∃cv,(Instr.indexAt t ca ci).run E.P w=.ok cv w∧Rep g v cv:=by
 unfold GN at ha;split at ha
 case h_2=>cases ha
 rename_i kk i;rw[hi.int_inv];split at ha
 .rename_i e hu
  split at ha
  .rename_i m k xs
   split at ha
   case isFalse=>cases ha
   rename_i hc;obtain⟨hk,h0,h1⟩:=hc;cases ha;have hne:xs≠[]:=by intro hx; subst hx; simp at h1; omega
   cases hr.sl_inv with
   | nil=>exact absurd rfl hne
   | empty=>exact absurd rfl hne
   | sl _ _ _ cb co c e' fz cap cv q1 q2 q3 q4 q5 q6 q7 q8 =>
     refine⟨.pointer (some ⟨cb,co+i.toNat*k,none⟩),?_,.fro ?_⟩
     .simp [Instr.indexAt,asIntOf,CS hu,h0,h1,FY hk,addr_add]
     .have:=RepF.fptr k xs i.toNat 0 cb co c e' fz cv q3 q4 q5 q6
      simpa using this
  .rename_i b off len
   split at ha
   case h_2=>cases ha
   rename_i k xs hb;split at ha
   case isFalse=>cases ha
   rename_i hc;obtain⟨hk,h0,h1⟩:=hc;cases ha;rcases hr.own_inv with⟨l,cap,q1,q2,q3,rfl⟩|⟨hl,_⟩
   .obtain⟨l',c,e',p1,p2,_⟩:=S.live b k xs hb
    rw[q1] at p1; cases p1;refine⟨.pointer (some ⟨l.cb,l.co+off*l.k+i.toNat*k,none⟩),?_,?_⟩
    .simp [Instr.indexAt,asIntOf,CS hu,h0,h1,FY hk,addr_add]
    .have:=Rep.ptr (g:=g) b (off+i.toNat) 0 l q1
     rw[qB] at this;rw[<-p2];simpa [wE] using this
   .omega
  .cases ha
 .rename_i n e hu
  split at ha
  case h_2=>cases ha
  rename_i s hs;split at ha
  case isFalse=>cases ha
  rename_i hc;obtain⟨h0,h1⟩:=hc;split at ha
  .cases ha
   obtain⟨l,hl,rfl⟩:=hr.ptr_inv;refine⟨_,by simp [Instr.indexAt,Instr.sureAddr,asIntOf,CS hu,h0,h1,FY hs,addr_add]; rfl,?_⟩;rw[wE];exact .ptr _ _ _ l hl
  .cases ha
   obtain⟨cb,o,rfl,h2⟩:=ADO (n:=i.toNat*s) hr.fptr_inv;exact⟨_,by simp [Instr.indexAt,Instr.sureAddr,asIntOf,CS hu,h0,h1,FY hs,addr_add],.fro h2⟩
  .cases ha
 .cases ha

structure Flat (g:Gh) (k:Nat) (xs:List (List AV)) (cs:List Value):Prop where
 len:cs.length=xs.length*k
 rows:VC k xs
 get:∀(i j:Nat) (row:List AV) (v:AV),xs[i]?=some row->row[j]?=some v->∃cv,cs[i*k+j]?=some cv∧Rep g v cv
 one:∀c∈cs,c.oneCell'=true
theorem Flat.nil (g:Gh)(k:Nat):Flat g k [] []:=⟨by simp,fun _ _ h=>by simp at h,fun _ _ _ _ h=>by simp at h,by simp⟩
theorem Flat.mono {g g':Gh}(hg:g.le g'){k:Nat}{xs:List (List AV)}{cs:List Value}(h:Flat g k xs cs):Flat g' k xs cs :=
 ⟨h.len,h.rows,fun i j row v a b=>let ⟨cv,p,q⟩:=h.get i j row v a b; ⟨cv,p,q.mono hg⟩,h.one⟩
theorem XA {g:Gh}{w:World}{k cb co:Nat}{xs:List (List AV)}(hr:VC k xs)
  (hread:∀(i j:Nat) (row:List AV) (v:AV),xs[i]?=some row->row[j]?=some v->∃c,w.cell? ⟨cb,co+i*k+j,none⟩=some c∧Rep g v c) :
  ∃cs,Flat g k xs cs∧∀(j:Nat) (v:Value),cs[j]?=some v->w.cell? ⟨cb,co+j,none⟩=some v:=by
 have hex:∀n,n<xs.length*k->∃c,w.cell? ⟨cb,co+n,none⟩=some c∧∃row v,xs[n/k]?=some row∧row[n%k]?=some v∧Rep g v c:=by
  intro n hn
  have hk:0<k:=by rcases qQ k with h|h; · subst h; simp at hn
                  .exact h
  have hd:n/k<xs.length:=Nat.div_lt_of_lt_mul (by rw[qX]; exact hn);have hm:n%k<k:=qR _ hk;have hrow:xs[n/k]?=some xs[n/k]:=by simp [hd]
  have hl:=(hr _ _ hrow).1;have hv:(xs[n/k])[n%k]?=some ((xs[n/k])[n%k]'(by omega)):=by simp [hl,hm]
  obtain⟨c,h1,h2⟩:=hread _ _ _ _ hrow hv;have e:co+n/k*k+n%k=co+n:=by rw[wE,Nat.div_add_mod']
  exact⟨c,by rw[<-e]; exact h1,_,_,hrow,hv,h2⟩
 obtain⟨cs,hl,hcs⟩:=ANX hex;refine⟨cs,⟨hl,hr,fun i j row v h1 h2=>?_,fun c hc=>?_⟩,fun j v h=>(hcs j v h).1⟩
 .have hj:j<k:=(hr i row h1).1▸CB h2
  have hi:=CB h1
  have hlt:i*k+j<cs.length:=by
   rw[hl];have:=wH k (show i+1<=xs.length by omega);rw[qB,Nat.one_mul] at this; omega
  refine⟨cs[i*k+j],by simp [hlt],?_⟩;obtain⟨_,row',v',e1,e2,e3⟩:=hcs (i*k+j) cs[i*k+j] (by simp [hlt]);have d1:(i*k+j)/k=i:=by rw[qX,Nat.mul_add_div (by omega),Nat.div_eq_of_lt hj]; omega
  have d2:(i*k+j)%k=j:=by rw[qX,Nat.mul_add_mod,Nat.mod_eq_of_lt hj]
  rw[d1,h1] at e1; cases e1;rw[d2,h2] at e2; cases e2;exact e3
 .obtain⟨n,hn,rfl⟩:=qW hc
  obtain⟨_,row',v',e1,e2,e3⟩:=hcs n cs[n] (by simp [hn]);exact(e3.leaf_one ((hr _ _ e1).2 _ _ e2)).1
theorem Flat.append {g:Gh}{k:Nat}{xs ys:List (List AV)}{cs ds:List Value}(h1:Flat g k xs cs)(h2:Flat g k ys ds):Flat g k (xs++ys) (cs++ds) where
 len:=by simp [h1.len,h2.len,qB]
 rows i row h:=by
  rw[wC] at h;split at h
  .exact h1.rows i row h
  .exact h2.rows _ row h
 get i j row v hr hv:=by
  rw[wC] at hr;split at hr
  .obtain⟨cv,a,b⟩:=h1.get i j row v hr hv
   exact⟨cv,by rw[List.getElem?_append_left (CB a)]; exact a,b⟩
  .rename_i hi
   obtain⟨cv,a,b⟩:=h2.get _ j row v hr hv;refine⟨cv,?_,b⟩
   have e:i*k+j=cs.length+((i-xs.length)*k+j):=by
    rw[h1.len,<-wE,<-qB];congr 2; omega
   rw[e,List.getElem?_append_right (by omega)];simpa using a
 one c hc:=by
  rcases qE.1 hc with h|h
  .exact h1.one c h
  .exact h2.one c h
theorem Flat.holds {g:Gh}{k co:Nat}{xs:List (List AV)}{cs:List Value}{arr:Array Value}(h:Flat g k xs cs)(hl:co+cs.length<=arr.size)
  (ha:∀(j:Nat) (c:Value),cs[j]?=some c->arr[co+j]?=some c):OO g arr co k xs :=
 ⟨by rw[<-h.len]; exact hl,h.rows,fun i j row v h1 h2=>let ⟨cv,a,b⟩:=h.get i j row v h1 h2; ⟨cv,by rw[wE]; exact ha _ _ a,b⟩⟩
def KQ (h:List ABlk):AV->Option (Nat×List (List AV))
 | .sl _ k xs=>some (k,xs)
 | .own b off len=>match h[b]? with
   | some (.live k xs)=>if off+len<=xs.length then some (k,(xs.drop off).take len) else none
   | _=>none
 | _=>none
theorem RI {E:Env}{g:Gh}{h:List ABlk}{w:World}{a:AV}{ca:Value}{k:Nat}{xs:List (List AV)}(S:SimH E g h w)(hr:Rep g a ca)(hc:KQ h a=some (k,xs)) :
  ∃p cap,ca=.slice p xs.length cap∧xs.length<=cap∧((p=none∧xs=[]∧cap=0)∨∃ad cs,p=some ad∧Flat g k xs cs∧∀(j:Nat) (v:Value),cs[j]?=some v->w.cell? (ad.add j)=some v):=by
 unfold KQ at hc;split at hc
 .cases hc
  cases hr.sl_inv with
  | nil=>exact⟨none,0,rfl,jP _,.inl ⟨rfl,rfl,rfl⟩⟩
  | empty m k a cap=>exact⟨some a,cap,rfl,Nat.zero_le _,.inr ⟨a,[],rfl,Flat.nil g k,by simp⟩⟩
  | sl _ _ _ cb co c e fz cap cv q1 q2 q3 q4 q5 q6 q7 q8 =>
    obtain⟨cs,h1,h2⟩:=XA (g:=g) (w:=w) (cb:=cb) (co:=co) q4 fun i j row v r1 r2 =>
     ⟨cv i j,by rw[TK (S.fro _ _ q3)]; exact q5 i j (CB r1) ((q4 i row r1).1▸CB r2),.fro (q6 i j row v r1 r2)⟩
    exact⟨_,cap,rfl,q7,.inr ⟨_,cs,rfl,h1,fun j v hj=>by rw[addr_add]; exact h2 j v hj⟩⟩
 .rename_i b off len
  split at hc
  case h_2=>cases hc
  rename_i k' xs' hb;split at hc
  case isFalse=>cases hc
  rename_i hle;cases hc;have hlen:((xs'.drop off).take len).length=len:=by simp; omega
  obtain⟨l',c,e,p1,p2,p3,p4,p5,p6,p7,p8⟩:=S.live b k xs' hb
  have sub:∀i row,((xs'.drop off).take len)[i]?=some row->xs'[off+i]?=some row:=by
   intro i row hi;have hlt:=CB hi;rw[qN,if_pos (by omega),wF] at hi;exact hi
  rw[hlen];rcases hr.own_inv with⟨l,cap,q1,q2,q3,rfl⟩|⟨h0,q,rfl⟩
  .rw[q1] at p1; cases p1
   subst p2
   obtain⟨cs,h1,h2⟩:=XA (g:=g) (w:=w) (cb:=l'.cb) (co:=l'.co+off*l'.k) (k:=l'.k) (xs:=(xs'.drop off).take len) (fun i row hi=>p7 _ row (sub i row hi)) fun i j row v r1 r2=>by
    obtain⟨cv,s1,s2⟩:=p8 _ j row v (sub i row r1) r2;refine⟨cv,?_,s2⟩;rw[TK p4,<-s1,qB];congr 1; omega
   exact⟨_,cap,rfl,q2,.inr ⟨_,cs,rfl,h1,fun j v hj=>by rw[addr_add]; exact h2 j v hj⟩⟩
  .subst h0
   exact⟨_,0,rfl,jP _,.inr ⟨q,[],rfl,by simp [Flat.nil],by simp⟩⟩
 .cases hc
def KL:Option AV->Option Nat->Option Nat
 | none,d=>d
 | some (.int _ i),_=>if 0<=i then some i.toNat else none
 | some _,_=>none
def MK (P:Program)(h:List ABlk)(t:TypeId)(x:AV)(lo hi mx:Option AV):Option AV :=
 match P.underlying t with
 | some .string=>match x,mx with
   | .str s,none=>match KL lo (some 0),KL hi (some s.size) with
     | some l,some u=>if l<=u∧u<=s.size then some (.str (s.extract l u)) else none
     | _,_=>none
   | _,_=>none
 | some (.slice e)=>match x with
   | .sl m k xs=>match KL lo (some 0),KL hi (some xs.length) with
     | some l,some u=>match mx with
       | none=>if szO P e=some k∧l<=u∧u<=xs.length then some (.sl (match m with|.nil=>.nil|.full=>if u=xs.length then .full else .any|.any=>.any) k ((xs.drop l).take (u-l))) else none
       | some mv=>match KL (some mv) none with
         | some c=>if szO P e=some k∧l<=u∧u<=c∧c<=xs.length∧hi.isSome=true then some (.sl (match m with|.nil=>.nil|_=>if u=c then .full else .any) k ((xs.drop l).take (u-l))) else none
         | none=>none
     | _,_=>none
   | .own b off len=>match KL lo (some 0),KL hi (some len),mx with
     | some l,some u,none=>match h[b]? with
       | some (.live k _)=>if szO P e=some k∧l<=u∧u<=len then some (.own b (off+l) (u-l)) else none
       | _=>none
     | _,_,_=>none
   | _=>none
 | _=>none
theorem NL {P:Program}{g:Gh}{x:AV}{cx:Value}{d:Option Nat}{u y:Nat}(w:World)(code:BoundsCode)(hb:KL (some x) d=some u)(hr:Rep g x cx)(hy:u<=y) :
  (Instr.sliceBound cx y code).run P w=.ok u w:=by
 cases x<;>simp only[KL] at hb<;>first|(cases hb; done)|skip
 rename_i k i;split at hb
 .rename_i h0
  cases hb;rw[hr.int_inv];have:i<=y:=by omega
  simp [Instr.sliceBound,asIntOf,h0,this]
 .cases hb
theorem UB {P:Program}{g:Gh}{lo hi:Option AV}{clo chi:Option Value}{l u len cap:Nat}(w:World)(sl:Bool)(hlo:(lo=none∧clo=none)∨∃v cv,lo=some v∧clo=some cv∧Rep g v cv)
  (hhi:(hi=none∧chi=none)∨∃v cv,hi=some v∧chi=some cv∧Rep g v cv) (h1:KL lo (some 0)=some l) (h2:KL hi (some len)=some u) (hlu:l<=u) (hu:u<=len) (hc:len<=cap) :
  (Instr.sliceBounds sl len cap clo chi none).run P w=.ok (l,u,cap) w:=by
 rcases hlo with⟨rfl,rfl⟩|⟨v,cv,rfl,rfl,r1⟩<;>rcases hhi with⟨rfl,rfl⟩|⟨v',cv',rfl,rfl,r2⟩
 .simp [KL] at h1 h2; subst h1 h2; simp [Instr.sliceBounds]
 .simp [KL] at h1; subst h1; simp [Instr.sliceBounds,NL w _ h2 r2 (show u<=cap by omega)]
 .have:=NL (P:=P) w .sliceB h1 r1 hlu
  simp [KL] at h2; subst h2; simp [Instr.sliceBounds,this]
 .simp [Instr.sliceBounds,NL w _ h2 r2 (show u<=cap by omega),NL w _ h1 r1 hlu]
theorem AIV {P:Program}{g:Gh}{lo hi:Option AV}{clo chi:Option Value}{mv:AV}{cm:Value}{l u c len cap:Nat}(w:World)(sl:Bool)(hlo:(lo=none∧clo=none)∨∃v cv,lo=some v∧clo=some cv∧Rep g v cv)
  (hhi:(hi=none∧chi=none)∨∃v cv,hi=some v∧chi=some cv∧Rep g v cv) (hm:Rep g mv cm) (h1:KL lo (some 0)=some l) (h2:KL hi (some len)=some u) (h3:KL (some mv) none=some c) (hs:hi.isSome=true)
  (hlu:l<=u) (huc:u<=c) (hc:c<=cap):(Instr.sliceBounds sl len cap clo chi (some cm)).run P w=.ok (l,u,c) w:=by
 rcases hhi with⟨rfl,rfl⟩|⟨v',cv',rfl,rfl,r2⟩
 .simp at hs
 rcases hlo with⟨rfl,rfl⟩|⟨v,cv,rfl,rfl,r1⟩
 .simp [KL] at h1; subst h1; simp [Instr.sliceBounds,NL w _ h2 r2 huc,NL w _ h3 hm hc]
 .simp [Instr.sliceBounds,NL w _ h2 r2 huc,NL w _ h3 hm hc,NL w _ h1 r1 hlu]
theorem AOE {M:Nat->Option Obj}{m m':SM}{k l u c cap len:Nat}{xs:List (List AV)}{p:Option Addr}(h:RepF M (.sl m k xs) (.slice p len cap))(hlu:l<=u)(hu:u<=xs.length)(huc:u<=c)(hcc:c<=cap)
  (hm:m'=.nil↔m=.nil) (hf:m'=.full->c=u):RepF M (.sl m' k ((xs.drop l).take (u-l))) (.slice (if c=l then p else p.map (·.add (l*k))) (u-l) (c-l)):=by
 have hlen:((xs.drop l).take (u-l)).length=u-l:=by simp; omega
 cases h with
 | nil => simp at hu; have:m'=.nil:=hm.2 rfl; subst this; subst hu; have:l=0:=by omega
          subst this; have:c=0:=by omega
          subst this; exact .nil k
 | empty _ _ a _ h1 h2 =>
   simp at hu; subst hu; have:l=0:=by omega
   subst this;have e:(if c=0 then some a else (some a).map (·.add (0*k)))=some a:=by simp [Addr.add]
   rw[e]; simp;exact .empty m' k a c (fun h=>h1 (hm.1 h)) (fun h=>hf h)
 | sl _ _ _ cb co cc e fz _ cv q1 q2 q3 q4 q5 q6 q7 q8 =>
   by_cases hemp:u=l
   .subst hemp
    simp;refine(?_:RepF M (.sl m' k []) (.slice (if c=u then some ⟨cb,co,none⟩ else some ((Addr.mk cb co none).add (u*k))) 0 (c-u)));have:∃a,(if c=u then some (Addr.mk cb co none) else some ((Addr.mk cb co none).add (u*k)))=some a:=by split<;>exact⟨_,rfl⟩
    obtain⟨a,ha⟩:=this;rw[ha];exact .empty m' k a _ (fun h=>q2 (hm.1 h)) (fun h=>by have:=hf h; omega)
   .have hcl:c≠l:=by omega
    rw[if_neg hcl];simp only[Option.map_some,addr_add]
    have hsub:∀i row,((xs.drop l).take (u-l))[i]?=some row->xs[l+i]?=some row:=by
     intro i row hi;have hlt:=CB hi;rw[qN,if_pos (by omega),wF] at hi;exact hi
    have:=RepF.sl (M:=M) m' k ((xs.drop l).take (u-l)) cb (co+l*k) cc e fz (c-l) (fun i j=>cv (l+i) j) (by intro h0; rw[h0] at hlen; simp at hlen; omega) (fun h=>q2 (hm.1 h)) q3
     (fun i row hi=>q4 _ row (hsub i row hi)) (fun i j hi hj=>by rw[<-q5 (l+i) j (by omega) hj]; congr 1; rw[qB]; omega)
     (fun i j row v hi hv=>q6 _ j row v (hsub i row hi) hv) (by omega) (fun h=>by have:=hf h; omega)
    rw[hlen] at this; exact this
theorem AIP {E:Env}{g:Gh}{h:List ABlk}{w:World}{t:TypeId}{x v:AV}{cx:Value}{lo hi mx:Option AV}{clo chi cmx:Option Value}(S:SimH E g h w)(ha:MK E.P h t x lo hi mx=some v)(hr:Rep g x cx)
  (hlo:(lo=none∧clo=none)∨∃v cv,lo=some v∧clo=some cv∧Rep g v cv) (hhi:(hi=none∧chi=none)∨∃v cv,hi=some v∧chi=some cv∧Rep g v cv)
  (hmx:(mx=none∧cmx=none)∨∃v cv,mx=some v∧cmx=some cv∧Rep g v cv):∃cv,(Instr.sliceAt t cx clo chi cmx).run E.P w=.ok cv w∧Rep g v cv:=by
 unfold MK at ha;split at ha
 .rename_i hu
  split at ha
  case h_2=>cases ha
  rename_i s;split at ha
  case h_2=>cases ha
  rename_i l u hl hh;split at ha
  case isFalse=>cases ha
  rename_i hc;cases ha;rcases hmx with⟨_,rfl⟩|⟨_,_,h,_⟩
  .rw[hr.str_inv]
   refine⟨.string (s.extract l u),?_,.str _ _⟩;simp [Instr.sliceAt,Instr.slice,CS hu,UB w false hlo hhi hl hh hc.1 hc.2 (jP _)]
  .cases h
 .rename_i e hu
  split at ha
  .rename_i m k xs
   split at ha
   case h_2=>cases ha
   rename_i l u hl hh
   have hcx:∃p cap,cx=.slice p xs.length cap∧xs.length<=cap∧(m=.full->cap=xs.length):=by
    cases hr.sl_inv with
    | nil=>exact⟨_,_,rfl,jP _,fun h=>by cases h⟩
    | empty _ _ a cap h1 h2=>exact⟨_,_,rfl,Nat.zero_le _,h2⟩
    | sl _ _ _ cb co c e fz cap cv q1 q2 q3 q4 q5 q6 q7 q8=>exact⟨_,_,rfl,q7,q8⟩
   obtain⟨p,cap,rfl,hcap,hfull⟩:=hcx;split at ha
   .split at ha
    case isFalse=>cases ha
    rename_i hc;obtain⟨hk,hlu,hux⟩:=hc;cases ha;rcases hmx with⟨_,rfl⟩|⟨_,_,h,_⟩
    .refine⟨_,by simp [Instr.sliceAt,Instr.slice,CS hu,UB w true hlo hhi hl hh hlu hux hcap,FY hk],.fro (AOE hr.sl_inv hlu hux (by omega) (jP _) ?_ ?_)⟩
     .cases m<;>simp
      split<;>simp
     .cases m<;>simp
      intro h; have:=hfull rfl; omega
    .cases h
   .rename_i mv
    split at ha
    case h_2=>cases ha
    rename_i c hcv;split at ha
    case isFalse=>cases ha
    rename_i hc;obtain⟨hk,hlu,huc,hcx,hs⟩:=hc;cases ha;rcases hmx with⟨h,_⟩|⟨_,cm,h,rfl,hm⟩
    .cases h
    .cases h
     refine⟨_,by simp [Instr.sliceAt,Instr.slice,CS hu,AIV w true hlo hhi hm hl hh hcv hs hlu huc (show c<=cap by omega),FY hk],.fro (AOE hr.sl_inv hlu (by omega) huc (by omega) ?_ ?_)⟩
     .cases m<;>simp<;>split<;>simp
     .cases m<;>simp<;>intro h<;>exact h.symm
  .rename_i b off len
   split at ha
   case h_2=>cases ha
   rename_i l u hl hh;split at ha
   case h_2=>cases ha
   rename_i k xs hb;split at ha
   case isFalse=>cases ha
   rename_i hc;obtain⟨hk,hlu,hul⟩:=hc;cases ha;rcases hmx with⟨_,rfl⟩|⟨_,_,h,_⟩
   .rcases hr.own_inv with⟨lc,cap,q1,q2,q3,rfl⟩|⟨h0,q,rfl⟩
    .obtain⟨l',c,e',p1,p2,_⟩:=S.live b k xs hb
     rw[q1] at p1; cases p1;refine⟨_,by simp [Instr.sliceAt,Instr.slice,CS hu,UB w true hlo hhi hl hh hlu hul q2,FY hk]; rfl,?_⟩;by_cases hcl:cap=l
     .subst hcl
      rw[if_pos rfl];have:u-cap=0:=by omega
      rw[this]; simp;exact .ownz _ _ _ _ q1
     .rw[if_neg hcl,addr_add,<-p2]
      have:=Rep.own (g:=g) b (off+l) (u-l) (cap-l) lc q1 (by omega) (by rw[show off+l+(cap-l)=off+cap by omega]; exact q3);rw[qB] at this;rw[wE]; exact this
    .subst h0
     have:u=0:=by omega
     subst this;have:l=0:=by omega
     subst this;refine⟨_,by simp [Instr.sliceAt,Instr.slice,CS hu,UB w true hlo hhi hl hh (jP _) (jP _) (jP _),FY hk]; rfl,.ownz _ _ _ _ hr.own_dom.choose_spec⟩
   .cases h
  .cases ha
 .cases ha

def ABW (P:Program)(t:TypeId):Option Nat:=(P6 P t).map (·.cells.size)
def OJ (P:Program)(t:TypeId):Option Nat:=(P.info? t).map (·.bytes)
def room (n b:Nat):Prop:=n<=70368744177664∧n*b<=70368744177664
instance (n b:Nat):Decidable (room n b):=inferInstanceAs (Decidable (_∧_))
theorem OX {n b:Nat}(hn:n<=16777216)(hb:b<=4194304):room n b:=by
 have h:=Nat.mul_le_mul hn hb;exact⟨by omega,by omega⟩
theorem AG4 {P:Program}{t:TypeId}{k b z:Nat}(h1:szO P t=some k)(h2:OJ P t=some b)(h3:ABW P t=some z) :
  ∃i v,P.info? t=some i∧i.size=k∧i.bytes=b∧i.zero=some v∧v.cells.size=z∧P6 P t=some v:=by
 unfold szO OJ ABW P6 at *
 cases hi:P.info? t with
 | none=>simp [hi] at h1
 | some i =>
   simp [hi] at h1 h2 h3;obtain⟨v,h4,h5⟩:=h3;exact⟨i,v,rfl,h1,h2,h4,h5,by simp [h4]⟩
structure Src (P:Program) (w:World) (k:Nat) (x:Value) (news:List Value) (m:Nat):Prop where
 len:∀w',(Builtin.lenOf x).run P w'=.ok m w'
 cells:∀w',w'.heap=w.heap->(Builtin.firstCells k m x).run P w'=.ok news.toArray w'
def WR (P:Program)(h:List ABlk)(k:Nat)(t:TypeId)(x:AV):Option (List (List AV)) :=
 match P.underlying t with
 | some .string=>match x with
   | .str s=>if k=1 then some (s.data.toList.map fun b=>[.int .u8 b.toNat]) else none
   | _=>none
 | some (.slice _)=>match KQ h x with
   | some (k',ys)=>if ys.length=0∨k'=k then some ys else none
   | none=>none
 | _=>none
theorem src_of {E:Env}{g:Gh}{h:List ABlk}{w:World}{k:Nat}{t:TypeId}{x:AV}{cx:Value}{ys:List (List AV)}(S:SimH E g h w)(hs:WR E.P h k t x=some ys)(hr:Rep g x cx) :
  ∃news,Src E.P w k cx news ys.length∧Flat g k ys news∧∃d,E.P.underlying t=some d∧(d=.string∨∃e,d=.slice e):=by
 unfold WR at hs;split at hs
 .rename_i hu
  split at hs
  case h_2=>cases hs
  rename_i s;split at hs
  case isFalse=>cases hs
  rename_i hk; subst hk;cases hs;rw[hr.str_inv];refine⟨s.data.toList.map fun b=>.int .u8 b.toNat,⟨fun w'=>by simp [Builtin.lenOf],fun w' _=>?_⟩,⟨by simp,?_,?_,?_⟩,_,hu,.inl rfl⟩
  .simp only[Builtin.firstCells,List.length_map,Array.length_toList]
   have:(s.extract 0 s.data.size)=s:=ByteArray.extract_zero_size (b:=s);rw[this,Sem.run_pure];congr 1;apply Array.ext';simp
  .intro i row hi
   simp at hi;obtain⟨b,_,rfl⟩:=hi;exact⟨rfl,fun j v hv=>by cases j<;>simp at hv; subst hv; rfl⟩
  .intro i j row v hi hv
   simp at hi;obtain⟨b,hb,rfl⟩:=hi;cases j<;>simp at hv;subst hv;exact⟨.int .u8 b.toNat,by simp [hb],.int _ _ _⟩
  .intro c hc
   simp at hc;obtain⟨b,_,rfl⟩:=hc;rfl
 .rename_i e hu
  split at hs
  case h_2=>cases hs
  rename_i k' ys' hc;split at hs
  case isFalse=>cases hs
  rename_i hk;cases hs;obtain⟨p,cap,rfl,hcap,hp⟩:=RI S hr hc;rcases hp with⟨rfl,rfl,rfl⟩|⟨ad,cs,rfl,hF,hcells⟩
  .exact⟨[],⟨fun w'=>by simp [Builtin.lenOf],fun w' _=>by simp [Builtin.firstCells]⟩,Flat.nil g k,_,hu,.inr ⟨_,rfl⟩⟩
  .have hF':Flat g k ys cs:=by
    rcases hk with h0|h0
    .have:ys=[]:=qI h0
     subst this;have:cs=[]:=qI (by rw[hF.len]; simp);subst this;exact Flat.nil g k
    .rw[<-h0]; exact hF
   refine⟨cs,⟨fun w'=>by simp [Builtin.lenOf],fun w' hw=>run_firstCells_some w' k ys.length ad ys.length cap cs hF'.len fun j v hj=>?_⟩,hF',_,hu,.inr ⟨_,rfl⟩⟩;have:=hcells j v hj;unfold World.cell? at *;rw[hw]; exact this
 .cases hs
theorem AET {P:Program}{t0 t1 ty e:TypeId}{i:TypeInfo}{d:TypeDesc}(h0:P.underlying t0=some (.slice e))(h1:P.underlying t1=some d)(hd:d=.string∨∃e,d=.slice e)(hi:P.info? e=some i)
  {b:Addr} {len cap m:Nat} {x:Value} {news:List Value} {w w':World} (hx:Src P w i.size x news m) (hn:len+m<=cap) (hs:(storeCells (b.add (len*i.size)) news).run P w=.ok () w') :
  (Builtin.append_ #[t0,t1] ty #[.slice (some b) len cap,x]).run P w=.ok (.slice (some b) (len+m) cap) w':=by
 have hl:=hx.len w;have hc:=hx.cells w rfl;rcases hd with rfl|⟨e',rfl⟩
 .simp [Builtin.append_,CS h0,CS h1,sizeOf,typeInfo,hi,hl,hc,hn,hs]
 .simp [Builtin.append_,CS h0,CS h1,sizeOf,typeInfo,hi,hl,hc,hn,hs]
theorem QX {P:Program}{t0 t1 ty e:TypeId}{i:TypeInfo}{z:Value}{d:TypeDesc}(h0:P.underlying t0=some (.slice e))(h1:P.underlying t1=some d)(hd:d=.string∨∃e,d=.slice e)(hi:P.info? e=some i)(hz:i.zero=some z)
  {p:Option Addr} {len cap m:Nat} {x:Value} {olds news:List Value} {w:World} (hx:Src P w i.size x news m) (ho:∀w',w'.heap=w.heap->(Builtin.firstCells i.size len (.slice p len cap)).run P w'=.ok olds.toArray w')
  (hn:cap<len+m) (hr:room (len+m) i.bytes) :
  ∃ nc,len+m<=nc∧(Builtin.append_ #[t0,t1] ty #[.slice p len cap,x]).run P w =
    .ok (.slice (some ⟨w.heap.size,0,none⟩) (len+m) nc) (w.drew.alloc (.cells ((olds++news).toArray++Builtin.zeroCells z.cells (nc-(len+m))) e)):=by
 have hl:=hx.len w;have hc:=hx.cells w.drew rfl;have ho':=ho w.drew rfl;have hn':¬(len+m<=cap):=by omega
 have h63:¬(9223372036854775807<((len:Int)+(m:Int))):=by have:=hr.1; omega
 have h48:¬(281474976710656<Builtin.nextslicecap (len+m) cap*i.bytes):=by
  have:=growslice_fits hn (bytes:=i.bytes) (by have:=hr.2; omega); omega
 refine⟨grownCap w (len+m) cap e,?_,?_⟩
 .unfold grownCap
  simp only[Question.cut];omega
 .rw[show(olds++news).toArray=olds.toArray++news.toArray from by simp]
  rcases hd with rfl|⟨e',rfl⟩
  .simp [Builtin.append_,CS h0,CS h1,sizeOf,typeInfo,zeroValue,hi,hz,hl,hn',h63,h48,Question.forced,hc,ho',newRow,grownCap]
   congr 2; apply Array.ext'; simp
  .simp [Builtin.append_,CS h0,CS h1,sizeOf,typeInfo,zeroValue,hi,hz,hl,hn',h63,h48,Question.forced,hc,ho',newRow,grownCap]
   congr 2; apply Array.ext'; simp
def bump (P:Program)(own:Bool)(h:List ABlk)(e:TypeId)(m:SM)(k:Nat)(xs ys:List (List AV))(kill:Option Nat)(s:AV):Option (AV×List ABlk) :=
 if ys.length=0 then some (s,h) else
 match szO P e,ABW P e,OJ P e with
 | some k',some z,some b=>if(k'=k∨m=.nil)∧z=k'∧room (xs.length+ys.length) b then
    match kill with
    | some o=>if own then some (.own h.length 0 (xs.length+ys.length),h.set o .dead++[.live k' (xs++ys)]) else none
    | none=>if own then some (.own h.length 0 (xs.length+ys.length),h++[.live k' (xs++ys)]) else some (.sl .any k' (xs++ys),h)
   else none
 | _,_,_=>none
def IP (P:Program)(own:Bool)(h:List ABlk)(t0 t1:TypeId)(s x:AV):Option (AV×List ABlk) :=
 match P.underlying t0 with
 | some (.slice e)=>match szO P e with
   | some k=>match WR P h k t1 x with
     | some ys=>match s with
       | .sl .nil _ _=>bump P own h e .nil k [] ys none s
       | .sl .full k0 xs=>if k0=k then bump P own h e .full k xs ys none s else none
       | .own b off len=>match KQ h (.own b off len) with
         | some (k0,xs)=>if k0=k then bump P own h e .any k xs ys (some b) s else none
         | none=>none
       | _=>none
     | none=>none
   | none=>none
 | _=>none
theorem MR (z:Array Value)(n:Nat):(Builtin.zeroCells z n).size=n*z.size:=by simp [Builtin.zeroCells]
theorem O7 {E:Env}{g:Gh}{h:List ABlk}{w w1:World}{e:TypeId}{k need nc:Nat}{xs:List (List AV)}{cs:List Value}{rest:Array Value}(S:SimH E g h w)(hF:Flat g k xs cs)(hrest:rest.size=(nc-need)*k)(hneed:xs.length=need)(hnc:need<=nc)
  (hw:Grew w w1 (.cells (cs.toArray++rest) e (0,0))):∃g',g.le g'∧SimH E g' (h++[.live k xs]) w1∧Rep g' (.own h.length 0 need) (.slice (some ⟨w.heap.size,0,none⟩) need nc):=by
 obtain⟨S',hle⟩:=S.new (k:=k) (xs:=xs) hw (hF.holds (by simp) fun j c hj=>by
  simp only[jG];rw[Array.getElem?_append_left (by simpa using CB hj)]
  simpa using hj)
 refine⟨_,hle,S',?_⟩
 have:=Rep.own (g:=g.adopt h.length ⟨w.heap.size,0,k,(cs.toArray++rest).size⟩) h.length 0 need nc ⟨w.heap.size,0,k,(cs.toArray++rest).size⟩ (by simp [Gh.adopt]) hnc (by
  simp [hF.len,hrest,hneed,<-qB]
  exact wH k (by omega))
 simpa using this
theorem P5 {E:Env}{g:Gh}{h:List ABlk}{w w1:World}{e:TypeId}{k need nc:Nat}{xs:List (List AV)}{cs:List Value}{rest:Array Value}(S:SimH E g h w)(hF:Flat g k xs cs)(hfr:∀(i j:Nat) (row:List AV) (v:AV),xs[i]?=some row->row[j]?=some v->∀cv,Rep g v cv->RepF g.M v cv)
  (hneed:xs.length=need) (hnc:need<=nc) (m:SM) (hm:m≠.nil) (hmf:m=.full->nc=need)
  (hw:Grew w w1 (.cells (cs.toArray++rest) e (0,0))):∃g',g.le g'∧SimH E g' h w1∧Rep g' (.sl m k xs) (.slice (some ⟨w.heap.size,0,none⟩) need nc):=by
 obtain⟨S',hle,hM⟩:=S.newF hw;refine⟨_,hle,S',.fro ?_⟩;subst hneed;by_cases hx:xs=[]
 .subst hx
  exact .empty m k _ _ hm (fun h=>by simpa using hmf h)
 .refine .sl m k xs w.heap.size 0 _ _ _ nc (fun i j=>(cs[i*k+j]?).getD Go.undef) hx hm hM hF.rows (fun i j hi hj=>?_) (fun i j row v h1 h2=>?_) hnc hmf
  .have hrow:xs[i]?=some xs[i]:=by simp [hi]
   have hl:=(hF.rows i _ hrow).1;obtain⟨cv,a,_⟩:=hF.get i j _ ((xs[i])[j]'(by omega)) hrow (by simp [hl,hj]);rw[a];simp only[jG,jB];rw[Array.getElem?_append_left (by simpa using CB a)];simpa using a
  .obtain⟨cv,a,b⟩:=hF.get i j row v h1 h2
   rw[a];simp only[jB];exact(hfr i j row v h1 h2 cv b).mono hle.M
def AV.frozen:AV->Bool
 | .int _ _=>true
 | .bool _=>true
 | .str _=>true
 | .sl _ _ _=>true
 | .fptr _ _ _ _=>true
 | .nilp=>true
 | .nilfn=>true
 | .nilifc=>true
 | .nilmp=>true
 | .ifc _ _=>true
 | .fn _ [] []=>true
 | _=>false
theorem AV.frozen_rep {g:Gh}{v:AV}{cv:Value}(h:v.frozen=true)(hr:Rep g v cv):RepF g.M v cv:=by
 cases v with
 | fn f a b =>
   cases a<;>cases b<;>simp [AV.frozen] at h;obtain⟨p,q,rfl,h1,h2,_,_⟩:=hr.fn_inv;exact .fn f [] [] p q h1 h2 (by simp) (by simp)
 | own=>simp [AV.frozen] at h
 | ptr=>simp [AV.frozen] at h
 | mp=>simp [AV.frozen] at h
 | agg=>simp [AV.frozen] at h
 | tup=>simp [AV.frozen] at h
 | junk=>simp [AV.frozen] at h
 | _=>cases hr with|fro h=>exact h
set_option maxHeartbeats 1000000 in
theorem AHU {E:Env}{g:Gh}{h h':List ABlk}{w:World}{own:Bool}{t0 t1 ty:TypeId}{s x r:AV}{cs cx:Value}(S:SimH E g h w)(ha:IP E.P own h t0 t1 s x=some (r,h'))(hs:Rep g s cs)(hx:Rep g x cx)
  (hfr:own=false->∀k ys xs,WR E.P h k t1 x=some ys->KQ h s=some xs->∀row∈xs.2++ys,∀v∈row,v.frozen=true) :
  ∃c w' g',(Builtin.append_ #[t0,t1] ty #[cs,cx]).run E.P w=.ok c w'∧Rep g' r c∧g.le g'∧SimH E g' h' w':=by
 unfold IP at ha;split at ha
 case h_2=>cases ha
 rename_i e hu;split at ha
 case h_2=>cases ha
 rename_i k hk;split at ha
 case h_2=>cases ha
 rename_i ys hys;obtain⟨news,hsrc,hFy,d,hd,hdi⟩:=src_of S hys hx
 have hk':∃i,E.P.info? e=some i∧i.size=k:=by
  unfold szO at hk; cases hi:E.P.info? e with
  | none=>simp [hi] at hk
  | some i=>simp [hi] at hk; exact⟨i,rfl,hk⟩
 obtain⟨i,hi,hik⟩:=hk';subst hik
 -- nothing to append
 have none_:ys.length=0->(∃p len cap,cs=.slice p len cap∧len<=cap)->(Builtin.append_ #[t0,t1] ty #[cs,cx]).run E.P w=.ok cs w:=by
  intro h0 ⟨p,len,cap,hc,hle⟩;subst hc;have hy0:ys=[]:=qI h0;subst hy0;have hn0:news=[]:=qI (by rw[hFy.len]; simp);subst hn0;have hl:=hsrc.len w;have hc:=hsrc.cells w rfl;rcases hdi with rfl|⟨e',rfl⟩<;>cases p<;>simp at hl hc<;>simp [Builtin.append_,CS hu,CS hd,sizeOf,typeInfo,hi,hl,hc,hle,storeCells]
 split at ha
 .-- nil
  rename_i k0 xs0
  cases hs.sl_inv with
  | empty _ _ _ _ h1=>exact absurd rfl h1
  | sl _ _ _ _ _ _ _ _ _ _ _ h1=>exact absurd rfl h1
  | nil =>
    unfold bump at ha;split at ha
    .rename_i h0
     cases ha;exact⟨_,w,g,none_ h0 ⟨_,_,_,rfl,jP _⟩,hs,Gh.le.refl g,S⟩
    .rename_i h0
     split at ha
     case h_2=>cases ha
     rename_i k' z b e1 e2 e3;split at ha
     case isFalse=>cases ha
     rename_i hc;obtain⟨hkk,hz,hroom⟩:=hc;obtain⟨i',v,j1,j2,j3,j4,j5,j6⟩:=AG4 e1 e3 e2;rw[hi] at j1; cases j1;subst j2 j3;simp only[List.length_nil,jG,qA] at ha hroom;obtain⟨nc,hnc,hrun⟩:=QX (ty:=ty) (p:=none) (len:=0) (cap:=0) (olds:=[]) (w:=w) hu hd hdi hi j4 hsrc (fun w' _=>by simp [Builtin.firstCells]) (by omega) (by simpa using hroom);simp only[jG] at hnc hrun;have hG:Grew w (w.drew.alloc (.cells (news.toArray++Builtin.zeroCells v.cells (nc-ys.length)) e)) (.cells (news.toArray++Builtin.zeroCells v.cells (nc-ys.length)) e (0,0)):=⟨rfl,rfl,rfl,rfl⟩;simp only[qA] at hrun
     cases own with
     | true =>
       simp only[if_true] at ha;cases ha;obtain⟨g',q1,q2,q3⟩:=O7 (nc:=nc) S hFy (by rw[MR,j5,hz]) rfl hnc hG;exact⟨_,_,g',hrun,q3,q1,q2⟩
     | false =>
       simp only[jQ,if_false] at ha;cases ha;obtain⟨g',q1,q2,q3⟩:=P5 (nc:=nc) S hFy (fun i' j row v' r1 r2 cv hcv=>AV.frozen_rep (hfr rfl _ ys _ hys rfl row (qE.2 (.inr (zV r1))) v' (zV r2)) hcv) rfl hnc .any (by simp) (by simp) hG;exact⟨_,_,g',hrun,q3,q1,q2⟩
 .-- full
  rename_i k0 xs;split at ha
  case isFalse=>cases ha
  rename_i hk0;subst hk0;have hc:KQ h (.sl .full i.size xs)=some (i.size,xs):=rfl;obtain⟨p,cap,hcs,hcap,hp⟩:=RI S hs hc
  have hfull:cap=xs.length:=by
   cases hs.sl_inv with
   | empty _ _ _ _ _ h2=>cases hcs; exact h2 rfl
   | sl _ _ _ _ _ _ _ _ _ _ _ _ _ _ _ _ _ h8=>cases hcs; exact h8 rfl
  subst hcs;unfold bump at ha;split at ha
  .rename_i h0
   cases ha;exact⟨_,w,g,none_ h0 ⟨_,_,_,rfl,hcap⟩,hs,Gh.le.refl g,S⟩
  .rename_i h0
   split at ha
   case h_2=>cases ha
   rename_i k' z b e1 e2 e3;split at ha
   case isFalse=>cases ha
   rename_i hc';obtain⟨hkk,hz,hroom⟩:=hc';obtain⟨i',v,j1,j2,j3,j4,j5,j6⟩:=AG4 e1 e3 e2;rw[hi] at j1; cases j1;subst j2 j3;rcases hp with⟨rfl,rfl,rfl⟩|⟨ad,olds,rfl,hFo,hcells⟩
   .cases hs.sl_inv
   obtain⟨nc,hnc,hrun⟩:=QX (ty:=ty) (p:=some ad) (len:=xs.length) (cap:=cap) (olds:=olds) (w:=w) hu hd hdi hi j4 hsrc (fun w' hw=>run_firstCells_some w' i.size xs.length ad _ _ olds hFo.len fun j u hj=>by
    have:=hcells j u hj;unfold World.cell? at *
    rw[hw]; exact this) (by omega) hroom
   have hFF:=hFo.append hFy;have hG:Grew w (w.drew.alloc (.cells ((olds++news).toArray++Builtin.zeroCells v.cells (nc-(xs.length+ys.length))) e)) (.cells ((olds++news).toArray++Builtin.zeroCells v.cells (nc-(xs.length+ys.length))) e (0,0)):=⟨rfl,rfl,rfl,rfl⟩
   cases own with
   | true =>
     simp only[if_true] at ha;cases ha;obtain⟨g',q1,q2,q3⟩:=O7 (nc:=nc) S hFF (by rw[MR,j5,hz]) (by simp) hnc hG;exact⟨_,_,g',hrun,q3,q1,q2⟩
   | false =>
     simp only[jQ,if_false] at ha;cases ha;obtain⟨g',q1,q2,q3⟩:=P5 (nc:=nc) S hFF (fun i' j row v' r1 r2 cv hcv=>AV.frozen_rep (hfr rfl _ ys _ hys rfl row (zV r1) v' (zV r2)) hcv) (by simp) hnc .any (by simp) (by simp) hG;exact⟨_,_,g',hrun,q3,q1,q2⟩
 .-- the call's own
  rename_i b off len;split at ha
  case h_2=>cases ha
  rename_i k0 xs hc;split at ha
  case isFalse=>cases ha
  rename_i hk0;subst hk0;obtain⟨p,cap,hcs,hcap,hp⟩:=RI S hs hc;subst hcs;unfold bump at ha;split at ha
  .rename_i h0
   cases ha;exact⟨_,w,g,none_ h0 ⟨_,_,_,rfl,hcap⟩,hs,Gh.le.refl g,S⟩
  rename_i h0;split at ha
  case h_2=>cases ha
  rename_i k' z bb e1 e2 e3;split at ha
  case isFalse=>cases ha
  rename_i hc';obtain⟨hkk,hz,hroom⟩:=hc';obtain⟨i',v,j1,j2,j3,j4,j5,j6⟩:=AG4 e1 e3 e2;rw[hi] at j1; cases j1;subst j2 j3;simp only at ha;split at ha
  case isFalse=>cases ha
  cases ha
  have hpn:p≠none:=by
   intro h1; subst h1;rcases hs.own_inv with⟨_,_,_,_,_,q⟩|⟨_,_,q⟩<;>cases q
  rcases hp with⟨rfl,_⟩|⟨ad,olds,rfl,hFo,hcells⟩
  .exact absurd rfl hpn
  have hFF:=hFo.append hFy;have Sk:=S.kill b;by_cases hin:xs.length+ys.length<=cap
  .-- in place
   have hb:∃kb xsb,h[b]?=some (.live kb xsb):=by
    unfold KQ at hc; simp only at hc;split at hc
    .rename_i hh; exact⟨_,_,hh⟩
    .cases hc
   obtain⟨kb,xsb,hb⟩:=hb;obtain⟨l',c,e',p1,p2,p3,p4,p5,p6,p7,p8⟩:=S.live b kb xsb hb
   have hkb:kb=i.size:=by
    unfold KQ at hc; simp only[hb] at hc;split at hc<;>cases hc; rfl
   rcases hs.own_inv with⟨l,cap',q1,q2,q3,qe⟩|⟨hz0,q,qe⟩
   .cases qe
    rw[q1] at p1; cases p1;subst hkb;have hlk:l'.k=i.size:=p2
    obtain⟨w',c',hrunS,hW⟩:=OW E.P l'.cb (l'.co+off*l'.k+xs.length*i.size) e' news 0 w c p4 (by
     rw[hFy.len,p5];have:(xs.length+ys.length)*l'.k<=cap*l'.k:=wH _ hin;rw[qB] at q3 this;rw[<-hlk]
     omega) hFy.one
    have hrun:=AET (ty:=ty) (len:=xs.length) (cap:=cap) hu hd hdi hi hsrc hin (b:=⟨l'.cb,l'.co+off*l'.k,none⟩) (by rw[addr_add]; exact hrunS);have u:=NK S hb (by simp) q1
    have S2:SimH E g (h.set b .dead) w':=Sk.world hW.os hW.tape hW.output fun k' hk'=>by
     refine hW.else_ k' fun he=>?_
     subst he;rcases hk' with⟨o,ho⟩|hk'
     .rw[p3] at ho; cases ho
     .exact hk' u
    have hsub:∀(j:Nat) (c0:Value),olds[j]?=some c0->c[l'.co+off*l'.k+j]?=some c0:=by
     intro j c0 hj;have:=hcells j c0 hj;rw[addr_add,TK p4] at this;exact this
    have hh:OO g c' (l'.co+off*l'.k) i.size (xs++ys):=by
     refine hFF.holds ?_ ?_
     .rw[hW.size,p5]
      simp only[List.length_append];rw[hFo.len,hFy.len];have:(xs.length+ys.length)*l'.k<=cap*l'.k:=wH _ hin;rw[qB] at q3 this;rw[<-hlk]; omega
     .intro j c0 hj
      rw[hW.cells];rw[wC] at hj;split at hj
      .rename_i hlt
       rw[if_neg (by rw[hFo.len] at hlt; omega)];exact hsub j c0 hj
      .rename_i hge
       have hlt:=CB hj;rw[if_pos (by rw[hFo.len] at hge hlt; omega)];rw[<-hj]; congr 1; rw[hFo.len]; omega
    have S3:=S2.adopt hW.here p3 u hh;rw[zY] at S3;have hle:g.le (g.adopt h.length ⟨l'.cb,l'.co+off*l'.k,i.size,c'.size⟩):=Gh.adopt_le (S.fresh _ (jP _));refine⟨_,w',_,hrun,?_,hle,S3⟩
    have:=Rep.own (g:=g.adopt h.length ⟨l'.cb,l'.co+off*l'.k,i.size,c'.size⟩) h.length 0 (xs.length+ys.length) cap ⟨l'.cb,l'.co+off*l'.k,i.size,c'.size⟩ (by simp [Gh.adopt]) hin (by
     simp only[jG];rw[hW.size,p5,<-hlk]
     rw[qB] at q3; omega)
    simpa using this
   .have hc0:xs.length=0∧cap=0:=by injection qe with _ h1 h2; exact⟨h1,h2⟩
    omega
  .-- a new array
   obtain⟨nc,hnc,hrun⟩:=QX (ty:=ty) (p:=some ad) (len:=xs.length) (cap:=cap) (olds:=olds) (w:=w) hu hd hdi hi j4 hsrc (fun w' hw=>run_firstCells_some w' i.size xs.length ad _ _ olds hFo.len fun j u hj=>by
    have:=hcells j u hj;unfold World.cell? at *
    rw[hw]; exact this) (by omega) hroom
   have hG:Grew w (w.drew.alloc (.cells ((olds++news).toArray++Builtin.zeroCells v.cells (nc-(xs.length+ys.length))) e)) (.cells ((olds++news).toArray++Builtin.zeroCells v.cells (nc-(xs.length+ys.length))) e (0,0)):=⟨rfl,rfl,rfl,rfl⟩;obtain⟨g',q1,q2,q3⟩:=O7 (nc:=nc) Sk hFF (by rw[MR,j5,hz]) (by simp) hnc hG;rw[zY] at q3;exact⟨_,_,g',hrun,q3,q1,q2⟩
 .cases ha

theorem ATZ (a:Array Value):a.toList.toArray++#[]=a:=by simp
theorem AJM:∀(vs:List Value) (s off:Nat) (c:Array Value),off+s+vs.length<=c.size ->
  ((vs.zipIdx s).foldl (fun cs (x,j)=>cs.setIfInBounds (off+j) x) c).size=c.size ∧
  ∀m,((vs.zipIdx s).foldl (fun cs (x,j)=>cs.setIfInBounds (off+j) x) c)[m]?=if off+s<=m∧m<off+s+vs.length then vs[m-(off+s)]? else c[m]?
 | [],s,off,c,_=>by
   refine⟨rfl,fun m=>?_⟩;rw[if_neg (by simp only[List.length_nil]; omega)]; rfl
 | v::vs,s,off,c,h=>by
   simp only[zZ] at h;obtain⟨h1,h2⟩:=AJM vs (s+1) off (c.setIfInBounds (off+s) v) (by simp; omega);simp only[List.zipIdx_cons,List.foldl_cons,zZ];refine⟨by rw[h1]; simp,fun m=>?_⟩;rw[h2 m];by_cases h3:off+(s+1)<=m∧m<off+(s+1)+vs.length
   .rw[if_pos h3,if_pos (by omega)]
    have:m-(off+s)=(m-(off+(s+1)))+1:=by omega
    rw[this]; simp
   .rw[if_neg h3]
    by_cases h4:m=off+s
    .subst h4
     have:off+s<c.size:=by omega
     simp [this]
    .rw[if_neg (by omega),Array.getElem?_setIfInBounds_ne (by omega)]
theorem ADP (v:Value)(off:Nat)(c:Array Value)(h:off+v.cells.size<=c.size) :
  (v.cells.zipIdx.foldl (fun cs (x,j)=>cs.setIfInBounds (off+j) x) c).size=c.size ∧
  ∀m,(v.cells.zipIdx.foldl (fun cs (x,j)=>cs.setIfInBounds (off+j) x) c)[m]?=if off<=m∧m<off+v.cells.size then v.cells[m-off]? else c[m]? := by
 have:=AJM v.cells.toList 0 off c (by simpa using h);rw[<-Array.foldl_toList,Array.toList_zipIdx];simpa using this
structure RowRep (g:Gh) (as:List AV) (c:Array Value):Prop where
 size:c.size=as.length
 get:∀(j:Nat) (x:AV) (v:Value),as[j]?=some x->c[j]?=some v->Rep g x v
def AFV (place:Nat->Option (Nat×Nat))(as:List AV):List (Nat×AV)->Option (List AV)
 | []=>some as
 | (i,x)::r=>match place i with
   | some (off,size)=>match JM x with
     | some cs=>if cs.length=size∧off+size<=as.length then AFV place (splice as off cs) r else none
     | none=>none
   | none=>none
inductive Parts (g:Gh):List (Nat×AV)->List (Nat×Value)->Prop
 | nil:Parts g [] []
 | cons {i:Nat} {x:AV} {v:Value} {l:List (Nat×AV)} {m:List (Nat×Value)}:Rep g x v->Parts g l m->Parts g ((i,x)::l) ((i,v)::m)
theorem ADS {g:Gh}{place:Nat->Option (Nat×Nat)}{l:List (Nat×AV)}{m:List (Nat×Value)}(hp:Parts g l m):∀ {as as':List AV} {c:Array Value},AFV place as l=some as'->RowRep g as c ->
  ∃c',Instr.fill place c m=some c'∧RowRep g as' c':=by
 induction hp with
 | nil=>intro as as' c h hr; simp [AFV] at h; subst h; exact⟨c,rfl,hr⟩
 | @cons i x v l m hx _ ih =>
   intro as as' c h hr;simp only[AFV] at h
   cases hpl:place i with
   | none=>simp [hpl] at h
   | some os =>
     obtain⟨off,size⟩:=os;simp only[hpl] at h
     cases hcs:JM x with
     | none=>simp [hcs] at h
     | some cs =>
       simp only[hcs] at h;split at h
       case isFalse=>cases h
       rename_i hc;obtain⟨h1,h2⟩:=hc;obtain⟨a1,a2,a3,a4⟩:=PX hcs hx;obtain⟨f1,f2⟩:=ADP v off c (by rw[a1,hr.size]; omega)
       have hrow:RowRep g (splice as off cs) (v.cells.zipIdx.foldl (fun cs (x,j)=>cs.setIfInBounds (off+j) x) c):=by
        refine⟨by rw[f1,WY _ _ _ (by omega)]; exact hr.size,fun j y u hy hu=>?_⟩;rw[XJ _ _ _ (by omega)] at hy;rw[f2,a1] at hu;split at hy
        .rename_i hin
         rw[if_pos hin] at hu;exact(a3 _ y u hy hu).1
        .rename_i hin
         rw[if_neg hin] at hu;exact hr.get j y u hy hu
       obtain⟨c',h3,h4⟩:=ih h hrow;refine⟨c',?_,h4⟩;simp only[Instr.fill,hpl];rw[if_neg (by have:=hr.size; simp only[qO,decide_eq_true_eq]; omega)];exact h3
def N9 (P:Program)(t:TypeId):Option (List AV) :=
 match P6 P t with
 | some z=>JM (QL z)
 | none=>none
theorem TW {P:Program}{t:TypeId}{row:List AV}(h:N9 P t=some row):∃z,P6 P t=some z∧z.cells.size=row.length∧(∀(j:Nat) (x:AV),row[j]?=some x->x.leaf=true) ∧
  ∀g:Gh,(∀(j:Nat) (x:AV) (c:Value),row[j]?=some x->z.cells[j]?=some c->Rep g x c∧c.oneCell'=true):=by
 unfold N9 at h;split at h
 .rename_i z hz
  obtain⟨a1,a2,_,_⟩:=PX h (.fro (N7 (fun _=>none) z):Rep ⟨fun _=>none,fun _=>none,default,fun _ _=>0,#[],fun _=>none⟩ (QL z) z);exact⟨z,hz,a1,a2,fun g=>(PX h (.fro (N7 g.M z):Rep g (QL z) z)).2.2.1⟩
 .cases h
def WF (P:Program):List Field->Option (List (Nat×Nat))
 | []=>some []
 | f::r=>match szO P f.type,WF P r with
   | some n,some l=>some ((f.offset,n)::l)
   | _,_=>none
def KD (P:Program)(t:TypeId)(parts:List (Nat×AV)):Option AV :=
 match N9 P t with
 | some zr=>match P.underlying t with
   | some (.struct fields)=>match WF P fields.toList with
     | some pl=>match AFV (fun i=>pl[i]?) zr parts with
       | some cs=>some (.agg cs)
       | none=>none
     | none=>none
   | some (.array _ e)=>match szO P e with
     | some n=>match AFV (fun i=>some (i*n,n)) zr parts with
       | some cs=>some (.agg cs)
       | none=>none
     | none=>none
   | _=>none
 | none=>none
theorem run_places {P:Program}{w:World}:∀ {fs:List Field} {pl:List (Nat×Nat)},WF P fs=some pl ->
  (fs.mapM (fun f=>do pure (f.offset,<-sizeOf f.type):Field->Sem (Nat×Nat))).run P w=.ok pl w
 | [],pl,h=>by simp [WF] at h; subst h; simp
 | f::fs,pl,h=>by
   simp only[WF] at h
   cases h1:szO P f.type with
   | none=>simp [h1] at h
   | some n =>
     cases h2:WF P fs with
     | none=>simp [h1,h2] at h
     | some l =>
       simp [h1,h2] at h;subst h;have:=run_places (w:=w) h2;simp only[List.mapM_cons,Sem.run_bind,FY h1,Result.andThen_ok,this,Sem.run_pure]
theorem AJ5 {P:Program}{g:Gh}{w:World}{t:TypeId}{parts:List (Nat×AV)}{cparts:Array (Nat×Value)}{v:AV}(ha:KD P t parts=some v)(hp:Parts g parts cparts.toList) :
  ∃cv,(Instr.build t cparts).run P w=.ok cv w∧Rep g v cv:=by
 unfold KD at ha;split at ha
 case h_2=>cases ha
 rename_i zr hz;obtain⟨z,z1,z2,z3,z4⟩:=TW hz;have hrow:RowRep g zr z.cells:=⟨z2,fun j x c h1 h2=>(z4 g j x c h1 h2).1⟩;split at ha
 .rename_i fields hu
  split at ha
  case h_2=>cases ha
  rename_i pl hpl;split at ha
  case h_2=>cases ha
  rename_i cs hcs;cases ha;obtain⟨c',h1,h2⟩:=ADS hp hcs hrow;refine⟨.agg c',?_,.agg _ _ h2.size h2.get⟩
  have hm:(fields.mapM (fun f=>do pure (f.offset,<-sizeOf f.type):Field->Sem (Nat×Nat))).run P w=.ok pl.toArray w:=by
   have:=run_places (w:=w) hpl;rw[Array.mapM_eq_mapM_toList];simp only[Sem.run_map,this,Result.andThen_ok]
  have h1':Instr.fill (fun i=>pl.toArray[i]?) z.cells cparts.toList=some c':=by
   rw[<-h1]; congr 1; funext i; simp
  simp only[Instr.build,Sem.run_bind,JA z1,Result.andThen_ok,CS hu,hm];simp only[h1',Sem.run_pure]
 .rename_i n e hu
  split at ha
  case h_2=>cases ha
  rename_i s hs;split at ha
  case h_2=>cases ha
  rename_i cs hcs;cases ha;obtain⟨c',h1,h2⟩:=ADS hp hcs hrow;refine⟨.agg c',?_,.agg _ _ h2.size h2.get⟩;simp only[Instr.build,Sem.run_bind,JA z1,Result.andThen_ok,CS hu,FY hs,h1,Sem.run_pure]
 .cases ha
def AFH (k:Nat):Nat->List (Nat×AV)->Option (List (List AV))
 | _,[]=>some []
 | s,(i,x)::r=>match JM x,AFH k (s+1) r with
   | some cs,some l=>if i=s∧cs.length=k then some (cs::l) else none
   | _,_=>none
def GG (P:Program)(own:Bool)(h:List ABlk)(t:TypeId)(len:Nat)(parts:List (Nat×AV)):Option (AV×List ABlk) :=
 match P.underlying t with
 | some (.slice e)=>match szO P e with
   | some k=>match ABW P e with
     | some z=>match AFH k 0 parts with
       | some rows=>if rows.length=len∧z=k∧len*k<=16777216 then
          if own then some (.own h.length 0 len,h++[.live k rows]) else if rows.all (·.all AV.frozen) then some (.sl .full k rows,h) else none
         else none
       | none=>none
     | none=>none
   | none=>none
 | _=>none
theorem AO8 {g:Gh}{k n:Nat}{l:List (Nat×AV)}{m:List (Nat×Value)}(hp:Parts g l m):∀ {s:Nat} {rows:List (List AV)} {c:Array Value},AFH k s l=some rows->c.size=n*k->s+rows.length<=n ->
  ∃ c',Instr.fill (fun i=>some (i*k,k)) c m=some c'∧c'.size=c.size∧VC k rows∧(∀j,j<s*k->c'[j]?=c[j]?) ∧
    ∀(i j:Nat) (row:List AV) (v:AV),rows[i]?=some row->row[j]?=some v->∃cv,c'[(s+i)*k+j]?=some cv∧Rep g v cv∧cv.oneCell'=true:=by
 induction hp with
 | nil =>
   intro s rows c h _ _;simp [AFH] at h; subst h;exact⟨c,rfl,rfl,fun _ _ h=>by simp at h,fun _ _=>rfl,fun _ _ _ _ h=>by simp at h⟩
 | @cons i x v l m hx _ ih =>
   intro s rows c h hsz hle;simp only[AFH] at h
   cases hcs:JM x with
   | none=>simp [hcs] at h
   | some cs =>
     cases hr:AFH k (s+1) l with
     | none=>simp [hcs,hr] at h
     | some rs =>
       simp only[hcs,hr] at h;split at h
       case isFalse=>cases h
       rename_i hc;obtain⟨rfl,hlen⟩:=hc;cases h;simp only[zZ] at hle;obtain⟨a1,a2,a3,a4⟩:=PX hcs hx
       have hik:i*k+k<=n*k:=by
        have:=wH k (show i+1<=n by omega);rw[qB,Nat.one_mul] at this; exact this
       obtain⟨f1,f2⟩:=ADP v (i*k) c (by rw[a1,hsz]; omega);obtain⟨c',q1,q2,q3,q4,q5⟩:=ih (s:=i+1) (c:=v.cells.zipIdx.foldl (fun cs (x,j)=>cs.setIfInBounds (i*k+j) x) c) hr (by rw[f1]; exact hsz) (by omega);have hlt:i*k+k=(i+1)*k:=by rw[qB,Nat.one_mul]
       refine⟨c',?_,by rw[q2,f1],?_,?_,?_⟩
       .simp only[Instr.fill]
        rw[if_neg (by simp only[qO,decide_eq_true_eq]; omega)];exact q1
       .intro i' row hrow
        cases i' with
        | zero=>simp at hrow; subst hrow; exact⟨hlen,a2⟩
        | succ i'=>exact q3 i' row (by simpa using hrow)
       .intro j hj
        rw[q4 j (by omega),f2,if_neg (by omega)]
       .intro i' j row y hrow hy
        cases i' with
        | zero =>
          simp at hrow; subst hrow;have hj:=CB hy;have hjv:j<v.cells.size:=by omega
          refine⟨v.cells[j],?_,a3 j y _ hy (by simp [hjv])⟩;rw[Nat.add_zero,q4 _ (by omega),f2,a1,if_pos (by omega)];have:i*k+j-i*k=j:=by omega
          rw[this]; simp [hjv]
        | succ i' =>
          have:=q5 i' j row y (by simpa using hrow) hy;rw[show i+(i'+1)=i+1+i' by omega]; exact this
theorem AA7 {E:Env}{g:Gh}{h h':List ABlk}{w:World}{own:Bool}{t:TypeId}{len:Nat}{parts:List (Nat×AV)}{cparts:Array (Nat×Value)}{r:AV}(S:SimH E g h w)
  (ha:GG E.P own h t len parts=some (r,h')) (hp:Parts g parts cparts.toList) :
  ∃c w' g',(Instr.buildSlice t len cparts).run E.P w=.ok c w'∧Rep g' r c∧g.le g'∧SimH E g' h' w':=by
 unfold GG at ha;split at ha
 case h_2=>cases ha
 rename_i e hu;split at ha
 case h_2=>cases ha
 rename_i k hk;split at ha
 case h_2=>cases ha
 rename_i z hz;split at ha
 case h_2=>cases ha
 rename_i rows hrows;split at ha
 case isFalse=>cases ha
 rename_i hc;obtain⟨hl,rfl,hsm⟩:=hc
 have hzz:∃zv,P6 E.P e=some zv∧zv.cells.size=z:=by
  unfold ABW at hz; cases hzo:P6 E.P e with
  | none=>simp [hzo] at hz
  | some zv=>simp [hzo] at hz; exact⟨zv,rfl,hz⟩
 obtain⟨zv,hzv,hzs⟩:=hzz;obtain⟨zr,hzr⟩:∃zr:Array Value,zr=if len*z=0 then #[] else zv.cells:=⟨_,rfl⟩
 obtain⟨c',q1,q2,q3,_,q5⟩:=AO8 (n:=len) hp (c:=(Array.range (len*z)).map (zr[· % zr.size]!)) hrows (by simp) (by omega);have hsm':¬(len*z>2^24):=by simp; omega
 have hrun:(Instr.buildSlice t len cparts).run E.P w=.ok (.slice (some ⟨w.heap.size,0,none⟩) len len) (w.alloc (.cells c' e)):=by
  unfold Instr.buildSlice;by_cases h0:len*z=0
  .rw[if_pos h0] at hzr
   rw[hzr] at q1;simp only[Sem.run_bind,CS hu,Result.andThen_ok,FY hk,if_neg hsm',if_pos h0,Sem.run_pure,q1,newRow,run_newObj];rfl
  .rw[if_neg h0] at hzr
   rw[hzr] at q1;simp only[Sem.run_bind,CS hu,Result.andThen_ok,FY hk,if_neg hsm',if_neg h0,Sem.run_pure,JA hzv,q1,newRow,run_newObj];rfl
 have hF:Flat g z rows c'.toList:=⟨by simp [q2,hl],q3,fun i j row v h1 h2=>by
  obtain⟨cv,s1,s2,_⟩:=q5 i j row v h1 h2;exact⟨cv,by simpa using s1,s2⟩,fun cc hcc=>by
  obtain⟨m,hm,rfl⟩:=qW hcc;simp [q2] at hm
  have hkp:0<z:=by rcases qQ z with h0|h0; · subst h0; simp at hm
                   .exact h0
  have hd:m/z<rows.length:=by rw[hl]; exact Nat.div_lt_of_lt_mul (by rw[qX]; exact hm)
  have hrow:rows[m/z]?=some rows[m/z]:=by simp [hd]
  have hrl:=(q3 _ _ hrow).1;have hmz:=qR m hkp;obtain⟨cv,s1,_,s3⟩:=q5 _ (m%z) _ ((rows[m/z])[m%z]'(by omega)) hrow (by simp [hrl,hmz]);rw[jG,Nat.div_add_mod'] at s1;have:c'[m]?=some c'.toList[m]:=by simp [q2,hm]
  rw[this] at s1; cases s1; exact s3⟩
 have hG:Grew w (w.alloc (.cells c' e)) (.cells (c'.toList.toArray++#[]) e (0,0)):=by
  rw[ATZ]; exact⟨rfl,rfl,rfl,rfl⟩
 cases own with
 | true =>
   simp only[if_true] at ha;cases ha;obtain⟨g',p1,p2,p3⟩:=O7 (nc:=len) S hF (by simp) hl (jP _) hG;exact⟨_,_,g',hrun,p3,p1,p2⟩
 | false =>
   simp only[jQ,if_false] at ha;split at ha
   case isFalse=>cases ha
   rename_i hfr;cases ha;simp only[List.all_eq_true] at hfr;obtain⟨g',p1,p2,p3⟩:=P5 (nc:=len) S hF (fun i j row v h1 h2 cv hcv=>AV.frozen_rep (hfr row (zV h1) v (zV h2)) hcv) hl (jP _) .full (by simp) (by simp) hG;exact⟨_,_,g',hrun,p3,p1,p2⟩
def IX (P:Program)(own:Bool)(h:List ABlk)(t:TypeId)(len cap:AV):Option (AV×List ABlk) :=
 match len,cap with
 | .int _ l,.int _ c=>match P.underlying t with
   | some (.slice e)=>match szO P e,OJ P e with
     | some k,some b=>match N9 P e with
       | some zr=>if 0<=l∧l<=c∧room c.toNat b∧zr.length=k then
          if own then some (.own h.length 0 l.toNat,h++[.live k (jJ c.toNat zr)])
          else if l=c then some (.sl .full k (jJ c.toNat zr),h) else none
         else none
       | none=>none
     | _,_=>none
   | _=>none
 | _,_=>none
theorem wrap64_small {c:Int}(h0:0<=c)(h1:c<=70368744177664):IntKind.i64.wrap c=c:=by
 unfold IntKind.wrap IntKind.bits IntKind.signed;simp;omega
theorem AB1 {E:Env}{g:Gh}{h h':List ABlk}{w:World}{own:Bool}{t:TypeId}{len cap r:AV}{cl cc:Value}(S:SimH E g h w)(ha:IX E.P own h t len cap=some (r,h'))(hrl:Rep g len cl)(hrc:Rep g cap cc) :
  ∃c w' g',(Instr.makeSlice t cl cc).run E.P w=.ok c w'∧Rep g' r c∧g.le g'∧SimH E g' h' w':=by
 unfold IX at ha;split at ha
 case h_2=>cases ha
 rename_i k1 l k2 c;split at ha
 case h_2=>cases ha
 rename_i e hu;split at ha
 case h_2=>cases ha
 rename_i k b hk hb;split at ha
 case h_2=>cases ha
 rename_i zr hz;split at ha
 case isFalse=>cases ha
 rename_i hc;obtain⟨h0,hlc,hroom,hzl⟩:=hc;rw[hrl.int_inv,hrc.int_inv];obtain⟨z,z1,z2,z3,z4⟩:=TW hz
 have hi:∃i,E.P.info? e=some i∧i.bytes=b∧i.size=k∧i.zero=some z:=by
  unfold OJ at hb; unfold szO at hk; unfold P6 at z1
  cases hi:E.P.info? e with
  | none=>simp [hi] at hb
  | some i=>simp [hi] at hb hk z1; exact⟨i,rfl,hb,hk,z1⟩
 obtain⟨i,hi,rfl,rfl,hiz⟩:=hi;have hcb:c<=70368744177664:=by have:=hroom.1; omega
 have e1:=wrap64_small (c:=l) h0 (by omega);have e2:=wrap64_small (c:=c) (by omega) hcb
 have hbc:¬((i.bytes:Int)*c>281474976710656):=by
  have:=hroom.2;have h2:((c.toNat*i.bytes:Nat):Int)<=70368744177664:=by omega
  rw[Int.natCast_mul] at h2;have h3:((c.toNat:Nat):Int)=c:=by omega
  rw[h3,Int.mul_comm] at h2;omega
 have hl0:¬(l<0):=by omega
 have hlc':¬(l>c):=by omega
 have hc0:¬(c<0):=by omega
 obtain⟨zc,hzr⟩:∃zc:Array Value,zc=if c.toNat*i.size=0 then #[] else z.cells:=⟨_,rfl⟩
 have hzc:c.toNat*i.size≠0->zc=z.cells:=fun h=>by rw[hzr,if_neg h]
 have hrun:(Instr.makeSlice t (.int k1 l) (.int k2 c)).run E.P w=.ok (.slice (some ⟨w.heap.size,0,none⟩) l.toNat c.toNat) (w.alloc (.cells ((Array.range (c.toNat*i.size)).map (zc[· % zc.size]!)) e)):=by
  unfold Instr.makeSlice;have hti:(typeInfo e).run E.P w=.ok i w:=by simp only[typeInfo,Sem.run_bind,run_program,Result.andThen_ok,hi,Sem.run_pure]
  have hcond:((decide (c<0)||decide (((i.bytes:Nat):Int)*c>2^48))||decide (l<0)||decide (l>c))=false:=by
   have e48:((2:Int)^48)=281474976710656:=by decide
   rw[e48,decide_eq_false hbc,decide_eq_false hl0,decide_eq_false hlc',decide_eq_false hc0];rfl
  by_cases h00:c.toNat*i.size=0
  .rw[if_pos h00] at hzr
   simp only[Sem.run_bind,CS hu,Result.andThen_ok,asInt,asIntOf,Sem.run_pure,hti,e1,e2,hcond,jQ,if_false,run_askRoom,FY hk,if_pos h00,newRow,run_newObj,hzr];rfl
  .rw[if_neg h00] at hzr
   simp only[Sem.run_bind,CS hu,Result.andThen_ok,asInt,asIntOf,Sem.run_pure,hti,e1,e2,hcond,jQ,if_false,run_askRoom,FY hk,if_neg h00,JA z1,newRow,run_newObj,hzr];rfl
 have hF:Flat g i.size (jJ c.toNat zr) ((Array.range (c.toNat*i.size)).map (zc[· % zc.size]!)).toList:=by
  have hcell:∀m,m<c.toNat*i.size->∃hm:m%i.size<z.cells.size,((Array.range (c.toNat*i.size)).map (zc[· % zc.size]!)).toList[m]?=some (z.cells[m%i.size]'hm):=by
   intro m hm
   have hkp:0<i.size:=by rcases qQ i.size with h0|h0; · rw[h0] at hm; simp at hm
                         .exact h0
   have hzs:z.cells.size=i.size:=by rw[z2,hzl]
   have hmz:=qR m hkp;refine⟨by omega,?_⟩;have:zc=z.cells:=hzc (by omega);subst this;simp only[Array.toList_map,List.getElem?_map,Array.getElem?_toList];simp [hm,hzs];rw[getElem!_pos _ _ (by omega)]
  refine⟨by simp,?_,?_,?_⟩
  .intro a row hr
   rw[List.getElem?_replicate] at hr;split at hr<;>simp at hr;subst hr;exact⟨hzl,z3⟩
  .intro a j row v hr hv
   have ha:=CB hr;simp at ha;rw[List.getElem?_replicate,if_pos (by omega)] at hr;cases hr;have hj:j<i.size:=hzl▸CB hv
   have hlt:a*i.size+j<c.toNat*i.size:=by
    have:=wH i.size (show a+1<=c.toNat by omega);rw[qB,Nat.one_mul] at this; omega
   obtain⟨hm,h1⟩:=hcell _ hlt;refine⟨_,h1,(z4 g j v _ hv ?_).1⟩;have:(a*i.size+j)%i.size=j:=by rw[qX,Nat.mul_add_mod,Nat.mod_eq_of_lt hj]
   simp [this]
  .intro cc hcc
   obtain⟨m,hm,rfl⟩:=qW hcc;have hm':m<c.toNat*i.size:=by simpa using hm
   obtain⟨hmz,h1⟩:=hcell m hm';have:((Array.range (c.toNat*i.size)).map (zc[· % zc.size]!)).toList[m]?=some (((Array.range (c.toNat*i.size)).map (zc[· % zc.size]!)).toList[m]):=jX hm;rw[this] at h1;have h2:=Option.some.inj h1;rw[h2];have hzs:m%i.size<zr.length:=by omega
   exact(z4 g (m%i.size) zr[m%i.size] _ (by simp) (by simp [hmz])).2
 have hG:Grew w (w.alloc (.cells ((Array.range (c.toNat*i.size)).map (zc[· % zc.size]!)) e)) (.cells (((Array.range (c.toNat*i.size)).map (zc[· % zc.size]!)).toList.toArray++#[]) e (0,0)) := by
  rw[ATZ]; exact⟨rfl,rfl,rfl,rfl⟩
 cases own with
 | true =>
   simp only[if_true] at ha;cases ha;obtain⟨g',p1,p2,p3⟩:=O7 (nc:=c.toNat) S hF (by simp) (by simp) (jP _) hG;refine⟨_,_,g',hrun,?_,p1,p2⟩;rcases p3.own_inv with⟨lc,cap',q1,q2,q3,q4⟩|⟨q1,a,q2⟩
   .injection q4 with q5 q6 q7
    rw[q5,q7];exact Rep.own (g:=g') h.length 0 l.toNat cap' lc q1 (by omega) q3
   .have:l=0∧c=0:=by constructor<;>omega
    rw[this.1,this.2];have e0:(Int.toNat 0)=0:=rfl;rw[e0];exact .ownz _ _ _ _ p3.own_dom.choose_spec
 | false =>
   simp only[jQ,if_false] at ha;split at ha
   case isFalse=>cases ha
   rename_i hlc2;cases ha;subst hlc2
   have hfr:∀x∈zr,∀(cv:Value),Rep g x cv->RepF g.M x cv:=by
    intro x hx cv hcv;obtain⟨j,hj,rfl⟩:=qW hx;have hzrow:∃z',JM (QL z')=some zr:=⟨z,by unfold N9 at hz; simp only[z1] at hz; exact hz⟩
    obtain⟨z',hz'⟩:=hzrow
    have:∀y∈zr,y.frozen=true:=by
     intro y hy
     have av1:∀v:Value,(ABQ v).frozen=true∨ABQ v=.junk:=by
      intro v; unfold ABQ; split<;>simp [AV.frozen]
     have aux:∀(v:AV),JM v=some zr->(v.frozen=true∨v=.junk∨∃l,v=.agg l∧∀y∈l,y.frozen=true∨y=.junk)->y.frozen=true:=by
      intro v hv hcase;rcases hcase with h1|h1|⟨l,h1,h2⟩
      .cases v<;>simp [AV.frozen] at h1<;>simp [JM] at hv<;>subst hv<;>simp at hy<;>subst hy<;>simp [AV.frozen,h1]
      .subst h1; simp [JM] at hv
      .subst h1
       simp [JM] at hv;obtain⟨hv,rfl⟩:=hv;rcases h2 y hy with h3|h3
       .exact h3
       .subst h3; have:=hv _ hy; simp [AV.leaf] at this
     refine aux _ hz' ?_;unfold QL;split
     .right; right; refine⟨_,rfl,fun y hy=>?_⟩
      simp at hy; obtain⟨v,_,rfl⟩:=hy; exact av1 v
     .simp [QL,JM] at hz'
     .rcases av1 z' with h1|h1
      .exact .inl h1
      .exact .inr (.inl h1)
    exact AV.frozen_rep (this _ hx) hcv
   obtain⟨g',p1,p2,p3⟩:=P5 (nc:=l.toNat) S hF (fun i j row v h1 h2 cv hcv=>by
    rw[List.getElem?_replicate] at h1;split at h1<;>simp at h1;subst h1
    exact hfr v (zV h2) cv hcv) (by simp) (jP _) .full (by simp) (by simp) hG
   exact⟨_,_,g',hrun,p3,p1,p2⟩
end Go.Proofs.YtgnoolgeijmlaaaGreatDoor.Sm
