/- Part 1 of the proof; no condition. -/
import Derived.KernelRfl
import Derived.Orders
import Derived.Laws.World
import Derived.Laws.Cells
import Derived.Laws.Append
import Derived.Deep.LoopGhost
import Derived.Laws.StructEq
import Derived.Laws.BytesString
import Derived.Still
import Derived.Sort.LoopGhostIn
import Derived.OrdersIn
import Derived.TacticsIn
import Derived.RangeFuncRecord
import Derived.RangeFuncSeq
set_option linter.unusedVariables false
namespace Go.Proofs.YtiihpnicbekebaaGreatDoor
section
theorem cj {p q:Prop}(h:p)(k:q):p/\q:=⟨h,k⟩
theorem om:(!false)=true:=rfl
end
set_option maxHeartbeats 1000000
open Bool renaming false_eq_true→zZ,or_eq_true→qO
open List renaming all_eq_true→zJ,append_assoc→zA,eq_nil_of_length_eq_zero→qY,getElem?_eq_getElem→jP,getElem?_map→zB,getElem?_set→zW,getElem_of_mem→qR,length_cons→zF,length_map→jI,length_nil→zH,length_set→qZ,length_take→jT,mem_append→zQ,mem_of_getElem?→qC,nil_append→zX,replicate→zD
open Nat renaming add_mul→qM,le_refl→jF,lt_or_ge→zC,mod_lt→wI,mul_le_mul_right→wO,zero_add→jG,zero_le→qN
open Option renaming getD_some→jD
section
variable {p:Prop}
theorem U (h:p:=by omega):p:=h
theorem BC (h:p:=by kernel_rfl):p:=h
theorem BA (h:p:=by simp):p:=h
theorem AO (h:p:=by first|exact True.intro|assumption|rfl):p:=h
theorem BQ {a:Prop}(x:a)(h:a->p:=by intro y;simpa using y):p:=h x
theorem DX (h:p:=by decide):p:=h
theorem NI (h:p:=by simp;omega):p:=h
theorem H7:True/\True:=⟨trivial,trivial⟩
end
namespace Sm
variable {M:Nat->Option Obj} {ca ci cv cx:Value} {b cb i j k n:Nat} {e t ty:TypeId} {o:Obj} {w:World} {P:Program} {op:BinOp} {a:Act} {ρ':Operand->Value} {f:FuncId}
inductive SM where
 | nil|full|any
 deriving DecidableEq
inductive AV where
 | int (k:IntKind) (n:Int)
 | bool (b:Bool)
 | str (s:ByteArray)
 | sl (m:SM) (k:Nat) (xs:List (List AV))
 | own (b off len:Nat)
 | ptr (b i j:Nat)
 | fptr (k:Nat) (xs:List (List AV)) (i j:Nat)
 | nilp
 | fn (f:Fn) (first caps:List AV)
 | nilfn
 | agg (cs:List AV)
 | tup (vs:List AV)
 | ifc (t:TypeId) (v:Value)
 | nilifc
 | nilmp
 | mp (b:Nat)
 | junk
def AV.leaf:AV->Bool
 | .agg _=>false
 | .tup _=>false
 | .junk=>false
 | _=>true
inductive bO where
 | dead
 | live (k:Nat) (xs:List (List AV))
 | iter (s:ByteArray) (pos:Nat)
 | map (es:List (AV×AV))
def bO.isObj:bO->Bool
 | .iter _ _=>true
 | .map _=>true
 | _=>false
structure Loc where
 cb:Nat
 co:Nat
 k:Nat
 sz:Nat
structure Gh where
 M:Nat->Option Obj
 μ:Nat->Option Loc
 os:Os
 tape:Nat->Question->Nat
 output:Array (Nat×ByteArray)
 B:Nat->Option Obj
structure Env where
 P:Program
 G:Nat->AV
 L:Option Gh
 X:Value->List bO->Prop
def ZX (k:Nat)(xs:List (List AV)):Prop:=∀(i:Nat) (row:List AV),xs[i]?=some row->row.length=k/\∀(j:Nat) (v:AV),row[j]?=some v->v.leaf=true
inductive cw (M:Nat->Option Obj):AV->Value->Prop
 | int (k:IntKind) (n:Int):cw M (.int k n) (.int k n)
 | bool (b:Bool):cw M (.bool b) (.bool b)
 | str (s:ByteArray):cw M (.str s) (.string s)
 | nil (k:Nat):cw M (.sl .nil k []) (.slice none 0 0)
 | empty (m:SM) (k:Nat) (a:Addr) (cap:Nat):m≠.nil->(m=.full->cap=0)->cw M (.sl m k []) (.slice (some a) 0 cap)
 | sl (m:SM) (k:Nat) (xs:List (List AV)) (cb co:Nat) (c:Array Value) (e:TypeId) (fz:Nat×Nat) (cap:Nat) (cv:Nat->Nat->Value) :
  xs≠[]->m≠.nil->M cb=some (.cells c e fz)->ZX k xs ->
  (∀(i j:Nat),i<xs.length->j<k->c[co+i*k+j]?=some (cv i j)) ->
  (∀(i j:Nat) (row:List AV) (v:AV),xs[i]?=some row->row[j]?=some v->cw M v (cv i j)) ->
  xs.length<=cap->(m=.full->cap=xs.length) ->
  cw M (.sl m k xs) (.slice (some ⟨cb,co,none⟩) xs.length cap)
 | fptr (k:Nat) (xs:List (List AV)) (i j cb co:Nat) (c:Array Value) (e:TypeId) (fz:Nat×Nat) (cv:Nat->Nat->Value) :
  M cb=some (.cells c e fz)->ZX k xs ->
  (∀(i j:Nat),i<xs.length->j<k->c[co+i*k+j]?=some (cv i j)) ->
  (∀(i j:Nat) (row:List AV) (v:AV),xs[i]?=some row->row[j]?=some v->cw M v (cv i j)) ->
  cw M (.fptr k xs i j) (.pointer (some ⟨cb,co+i*k+j,none⟩))
 | nilp:cw M .nilp (.pointer none)
 | fn (f:Fn) (first caps:List AV) (first' caps':Array Value):first'.size=first.length->caps'.size=caps.length ->
  (∀(i:Nat) (v:AV) (cv:Value),first[i]?=some v->first'[i]?=some cv->cw M v cv)->(∀(i:Nat) (v:AV) (cv:Value),caps[i]?=some v->caps'[i]?=some cv->cw M v cv) ->
  cw M (.fn f first caps) (.func f first' caps')
 | nilfn:cw M .nilfn .nilFunc
 | agg (cs:List AV) (vs:Array Value):vs.size=cs.length->(∀(i:Nat) (v:AV) (cv:Value),cs[i]?=some v->vs[i]?=some cv->cw M v cv)->cw M (.agg cs) (.agg vs)
 | tup (cs:List AV) (vs:Array Value):vs.size=cs.length->(∀(i:Nat) (v:AV) (cv:Value),cs[i]?=some v->vs[i]?=some cv->cw M v cv)->cw M (.tup cs) (.tuple vs)
 | ifc (t:TypeId) (v:Value):cw M (.ifc t v) (.iface t v)
 | nilifc:cw M .nilifc .nilIface
 | nilmp:cw M .nilmp (.map none)
 | junk (v:Value):cw M .junk v
inductive Rep (g:Gh):AV->Value->Prop
 | fro {v:AV} {cv:Value}:cw g.M v cv->Rep g v cv
 | own (b off len cap:Nat) (l:Loc):g.μ b=some l->len<=cap->l.co+(off+cap)*l.k<=l.sz ->
  Rep g (.own b off len) (.slice (some ⟨l.cb,l.co+off*l.k,none⟩) len cap)
 | ownz (b off:Nat) (a:Addr) (l:Loc):g.μ b=some l->Rep g (.own b off 0) (.slice (some a) 0 0)
 | ptr (b i j:Nat) (l:Loc):g.μ b=some l->Rep g (.ptr b i j) (.pointer (some ⟨l.cb,l.co+i*l.k+j,none⟩))
 | mp (b:Nat) (l:Loc):g.μ b=some l->Rep g (.mp b) (.map (some l.cb))
 | fn (f:Fn) (first caps:List AV) (first' caps':Array Value):first'.size=first.length->caps'.size=caps.length ->
  (∀(i:Nat) (v:AV) (cv:Value),first[i]?=some v->first'[i]?=some cv->Rep g v cv)->(∀(i:Nat) (v:AV) (cv:Value),caps[i]?=some v->caps'[i]?=some cv->Rep g v cv) ->
  Rep g (.fn f first caps) (.func f first' caps')
 | agg (cs:List AV) (vs:Array Value):vs.size=cs.length->(∀(i:Nat) (v:AV) (cv:Value),cs[i]?=some v->vs[i]?=some cv->Rep g v cv)->Rep g (.agg cs) (.agg vs)
 | tup (cs:List AV) (vs:Array Value):vs.size=cs.length->(∀(i:Nat) (v:AV) (cv:Value),cs[i]?=some v->vs[i]?=some cv->Rep g v cv)->Rep g (.tup cs) (.tuple vs)
structure Gh.le (g g':Gh):Prop where
 M:∀k o,g.M k=some o->g'.M k=some o
 μ:∀b l,g.μ b=some l->g'.μ b=some l
 os:g'.os=g.os
 tape:g'.tape=g.tape
 output:g'.output=g.output
 B:g'.B=g.B
theorem Gh.le.refl (g:Gh):g.le g:=⟨fun _ _ h=>h,fun _ _ h=>h,rfl,rfl,rfl,rfl⟩
theorem Gh.le.trans {a b c:Gh}(h:a.le b)(k:b.le c):a.le c :=
 ⟨fun _ _ x=>k.M _ _ (h.M _ _ x),fun _ _ x=>k.μ _ _ (h.μ _ _ x),k.os.trans h.os,k.tape.trans h.tape,k.output.trans h.output,k.B.trans h.B⟩
def Gh.leM (g g':Gh):Prop:=(∀k o,g.M k=some o->g'.M k=some o)/\∀b l,g.μ b=some l->g'.μ b=some l
theorem Gh.leM.trans {a b c:Gh}(h:a.leM b)(k:b.leM c):a.leM c:=⟨fun _ _ x=>k.1 _ _ (h.1 _ _ x),fun _ _ x=>k.2 _ _ (h.2 _ _ x)⟩
theorem Gh.le.toM {a b:Gh}(h:a.le b):a.leM b:=⟨h.M,h.μ⟩
theorem cw.monoC {M':Nat->Option Obj}(N:∀k c e q,M k=some (.cells c e q)->M' k=some (.cells c e q)){v:AV}(h:cw M v cv):cw M' v cv:=by
 induction h with
 | int k n=>exact .int k n
 | bool b=>exact .bool b
 | str s=>exact .str s
 | nil k=>exact .nil k
 | empty m k a cap g B=>exact .empty m k a cap g B
 | sl m k L cb C c e q cap cv g B F G H _ O Q p=>exact .sl m k L cb C c e q cap cv g B (N _ _ _ _ F) G H p O Q
 | fptr k L i j cb C c e q cv F G H _ p=>exact .fptr k L i j cb C c e q cv (N _ _ _ _ F) G H p
 | nilp=>exact .nilp
 | fn f first A d l g B _ _ I J=>exact .fn f first A d l g B I J
 | nilfn=>exact .nilfn
 | agg E K g _ p=>exact .agg E K g p
 | tup E K g _ p=>exact .tup E K g p
 | ifc t v=>exact .ifc t v
 | nilifc=>exact .nilifc
 | nilmp=>exact .nilmp
 | junk v=>exact .junk v
theorem cw.mono {M':Nat->Option Obj}(c:∀k o,M k=some o->M' k=some o){v:AV}(h:cw M v cv):cw M' v cv:=h.monoC fun k _ _ _=>c k _
theorem Rep.monoC {g g':Gh}(L:∀k c e J,g.M k=some (.cells c e J)->g'.M k=some (.cells c e J))(B:∀b l,g.μ b=some l->g'.μ b=some l){v:AV}{cv:Value}(h:Rep g v cv):Rep g' v cv:=by
 induction h with
 | fro h=>exact .fro (h.monoC L)
 | own b off len cap l d E K=>exact .own b off len cap l (B _ _ d) E K
 | ownz b off a l d=>exact .ownz b off a l (B _ _ d)
 | ptr b i j l d=>exact .ptr b i j l (B _ _ d)
 | mp b l d=>exact .mp b l (B _ _ d)
 | fn f first A p q d E _ _ G H=>exact .fn f first A p q d E G H
 | agg C I d _ F=>exact .agg C I d F
 | tup C I d _ F=>exact .tup C I d F
theorem Rep.mono {g g':Gh}(c:g.le g'){v:AV}(h:Rep g v cv):Rep g' v cv:=h.monoC (fun k _ _ _=>c.M k _) c.μ
theorem Rep.int (g:Gh)(k:IntKind)(n:Int):Rep g (.int k n) (.int k n):=.fro (.int k n)
theorem Rep.bool (g:Gh)(b:Bool):Rep g (.bool b) (.bool b):=.fro (.bool b)
theorem Rep.str (g:Gh)(s:ByteArray):Rep g (.str s) (.string s):=.fro (.str s)
theorem Rep.int_inv {g:Gh}{k:IntKind}{n:Int}(h:Rep g (.int k n) cv):cv=.int k n:=by
 cases h with|fro h=>cases h;rfl
theorem Rep.bool_inv {g:Gh}{b:Bool}(h:Rep g (.bool b) cv):cv=.bool b:=by
 cases h with|fro h=>cases h;rfl
theorem Rep.str_inv {g:Gh}{s:ByteArray}(h:Rep g (.str s) cv):cv=.string s:=by
 cases h with|fro h=>cases h;rfl
theorem Rep.nilp_inv {g:Gh}(h:Rep g .nilp cv):cv=.pointer none:=by
 cases h with|fro h=>cases h;rfl
theorem Rep.nilfn_inv {g:Gh}(h:Rep g .nilfn cv):cv=.nilFunc:=by
 cases h with|fro h=>cases h;rfl
theorem Rep.agg_inv {g:Gh}{cs:List AV}(h:Rep g (.agg cs) cv):
  ∃c:Array Value,cv=.agg c/\c.size=cs.length/\∀(i:Nat) (v:AV) (cv:Value),cs[i]?=some v->c[i]?=some cv->Rep g v cv:=by
 cases h with
 | fro h=>cases h with|agg _ c d l=>exact⟨c,rfl,d,fun i v cv a b=>.fro (l i v cv a b)⟩
 | agg _ c d l=>exact⟨c,rfl,d,l⟩
theorem Rep.tup_inv {g:Gh}{cs:List AV}(h:Rep g (.tup cs) cv):
  ∃c:Array Value,cv=.tuple c/\c.size=cs.length/\∀(i:Nat) (v:AV) (cv:Value),cs[i]?=some v->c[i]?=some cv->Rep g v cv:=by
 cases h with
 | fro h=>cases h with|tup _ c d l=>exact⟨c,rfl,d,fun i v cv a b=>.fro (l i v cv a b)⟩
 | tup _ c d l=>exact⟨c,rfl,d,l⟩
theorem Rep.fn_inv {g:Gh}{f:Fn}{first l:List AV}(h:Rep g (.fn f first l) cv):
  ∃ c d:Array Value,cv=.func f c d/\c.size=first.length/\d.size=l.length /\
    (∀(i:Nat) (v:AV) (cv:Value),first[i]?=some v->c[i]?=some cv->Rep g v cv)/\∀(i:Nat) (v:AV) (cv:Value),l[i]?=some v->d[i]?=some cv->Rep g v cv:=by
 cases h with
 | fro h=>cases h with|fn _ _ _ a b p q A B=>exact⟨a,b,rfl,p,q,fun i v cv x y=>.fro (A i v cv x y),fun i v cv x y=>.fro (B i v cv x y)⟩
 | fn _ _ _ a b p q A B=>exact⟨a,b,rfl,p,q,A,B⟩
theorem Rep.ptr_inv {g:Gh}(h:Rep g (.ptr b i j) cv):
  ∃l,g.μ b=some l/\cv=.pointer (some ⟨l.cb,l.co+i*l.k+j,none⟩):=by
 cases h with
 | fro h=>cases h
 | ptr _ _ _ l c=>exact⟨l,c,rfl⟩
theorem Rep.mp_inv {g:Gh}(h:Rep g (.mp b) cv):∃l,g.μ b=some l/\cv=.map (some l.cb):=by
 cases h with
 | fro h=>cases h
 | mp _ l c=>exact⟨l,c,rfl⟩
theorem Rep.nilmp_inv {g:Gh}(h:Rep g .nilmp cv):cv=.map none:=by
 cases h with|fro h=>cases h;rfl
theorem Rep.nilifc_inv {g:Gh}(h:Rep g .nilifc cv):cv=.nilIface:=by
 cases h with|fro h=>cases h;rfl
theorem Rep.ifc_inv {g:Gh}{v:Value}(h:Rep g (.ifc t v) cv):cv=.iface t v:=by
 cases h with|fro h=>cases h;rfl
theorem Rep.own_inv {g:Gh}{off len:Nat}(h:Rep g (.own b off len) cv):
  (∃l cap,g.μ b=some l/\len<=cap/\l.co+(off+cap)*l.k<=l.sz/\cv=.slice (some ⟨l.cb,l.co+off*l.k,none⟩) len cap) \/
  (len=0/\∃a,cv=.slice (some a) 0 0):=by
 cases h with
 | fro h=>cases h
 | own _ _ _ cap l c d p=>exact .inl ⟨l,cap,c,d,p,rfl⟩
 | ownz _ _ a=>exact .inr ⟨rfl,a,rfl⟩
theorem Rep.own_dom {g:Gh}{off len:Nat}(h:Rep g (.own b off len) cv):∃l,g.μ b=some l:=by
 cases h with
 | fro h=>cases h
 | own _ _ _ cap l c d p=>exact⟨l,c⟩
 | ownz _ _ a l c=>exact⟨l,c⟩
theorem Rep.sl_inv {g:Gh}{m:SM}{xs:List (List AV)}(h:Rep g (.sl m k xs) cv):cw g.M (.sl m k xs) cv:=by
 cases h with|fro h=>exact h
theorem Rep.fptr_inv {g:Gh}{xs:List (List AV)}(h:Rep g (.fptr k xs i j) cv):cw g.M (.fptr k xs i j) cv:=by
 cases h with|fro h=>exact h
theorem Rep.leaf_one {g:Gh}{v:AV}(h:Rep g v cv)(c:v.leaf=true):cv.oneCell'=true/\cv.cells = #[cv]:=by
 cases h with
 | fro h=>cases h<;>first|exact⟨rfl,rfl⟩|cases c
 | own=>exact⟨rfl,rfl⟩
 | ownz=>exact⟨rfl,rfl⟩
 | ptr=>exact⟨rfl,rfl⟩
 | mp=>exact⟨rfl,rfl⟩
 | fn=>exact⟨rfl,rfl⟩
 | agg=>cases c
 | tup=>cases c
inductive ee (g:Gh):bO->Obj->Prop
 | iter (s:ByteArray) (pos:Nat):ee g (.iter s pos) (.stringIter s pos)
 | map (es:List (AV×AV)) (ces:Array MapEntry) (clock:Nat):ces.size=es.length->(∀(i:Nat) (k v:AV) (e:MapEntry),es[i]?=some (k,v)->ces[i]?=some e->Rep g k e.key/\Rep g v e.val)->ee g (.map es) (.map ces clock)
theorem ee.mono {g g':Gh}(p:∀v cv,Rep g v cv->Rep g' v cv){x:bO}(h:ee g x o):ee g' x o:=by
 cases h with
 | iter s pos=>exact .iter s pos
 | map q d c A l=>exact .map q d c A fun i k v e a b=>⟨p _ _ (l i k v e a b).1,p _ _ (l i k v e a b).2⟩
theorem ee.isObj {g:Gh}{x:bO}{o:Obj}(h:ee g x o):x.isObj=true:=by cases h<;>rfl
structure ck (E:Env) (g:Gh) (h:List bO) (w:World):Prop where
 os:w.os=g.os
 tape:w.tape=g.tape
 output:w.output=g.output
 fro:∀k o,g.M k=some o->w.heap[k]?=some o
 lo:∀g0,E.L=some g0->g0.leM g
 live:∀b k xs,h[b]?=some (.live k xs)->∃l c e,g.μ b=some l/\l.k=k/\g.M l.cb=none/\w.heap[l.cb]?=some (.cells c e (0,0))/\c.size=l.sz /\
  l.co+xs.length*k<=l.sz/\ZX k xs/\∀(i j:Nat) (row:List AV) (v:AV),xs[i]?=some row->row[j]?=some v->∃cv,c[l.co+i*k+j]?=some cv/\Rep g v cv
 obj:∀b x,h[b]?=some x->x.isObj=true->∃l o,g.μ b=some l/\l.co=0/\l.k=0/\g.M l.cb=none/\w.heap[l.cb]?=some o/\ee g x o
 inj:∀b b' x x' l l',h[b]?=some x->x≠.dead->h[b']?=some x'->x'≠.dead->g.μ b=some l->g.μ b'=some l'->l.cb=l'.cb->b=b'
 fresh:∀b,h.length<=b->g.μ b=none
 glob:∀n,cw g.M (E.G n) (.pointer (some ⟨n,0,none⟩))
theorem ck.iter {E:Env}{g:Gh}{h:List bO}(S:ck E g h w)(b:Nat)(s:ByteArray)(pos:Nat)(C:h[b]?=some (.iter s pos)):∃l,g.μ b=some l/\l.co=0/\l.k=0/\g.M l.cb=none/\w.heap[l.cb]?=some (.stringIter s pos):=by
 obtain⟨l,o,c,d,p,q,A,B⟩:=S.obj b _ C rfl;cases B;exact⟨l,c,d,p,q,A⟩
inductive Marks (g:Gh):List Deferred->Prop
 | nil:Marks g []
 | cons (D:Nat) (ds:List Deferred):g.B D=none->g.M D=some (.deferred (some []))->(∀d∈ds,d.target≠.collected D)->Marks g ds->Marks g ({ target:=.collected D,args := #[] } :: ds)
theorem Marks.mono {g g':Gh}(c:g.le g'){ds:List Deferred}(h:Marks g ds):Marks g' ds:=by
 induction h with
 | nil=>exact .nil
 | cons D ds d l p _ q=>exact .cons D ds (c.B▸d) (c.M _ _ l) p q
structure iy (E:Env) (n:Nat) (g:Gh) (F:Nat->AV) (h:List bO) (a:Act) (w:World):Prop where
 simH:ck E g h w
 defers:Marks g a.defers
 dx:a.defers=[]\/∀u h,¬E.X u h
 base:∀k o,g.B k=some o->g.M k=some o
 size:a.tmps.size=n
 frame:∀i,Rep g (F i) (a.tmps.getD i undef)
def upd (F:Nat->AV)(d:Nat)(v:AV):Nat->AV:=fun i=>if i=d then v else F i
def GV (F:Nat->AV):Option Nat->AV->Nat->AV
 | some d,v=>upd F d v
 | none,_=>F
def IK:AV:=.tup []
theorem Rep.undef (g:Gh):Rep g IK undef:=.fro (.tup [] #[] rfl BA)
theorem Zo {g:Gh}{F:Nat->AV}{a:Act}{n:Nat}{d:Option Tmp}{v:AV}{cv:Value}(p:a.tmps.size=n)(l:∀x,d=some x->x<n)
  (h:∀i,Rep g (F i) (a.tmps.getD i Go.undef)) (q:Rep g v cv):∀i,Rep g (GV F d v i) ((a.put d cv).tmps.getD i Go.undef):=by
 intro i
 cases d with
 | none=>exact h i
 | some d =>
   have c:d<a.tmps.size:=p▸l d rfl;simp only[GV,upd,Act.put];by_cases hi:i=d
   .subst hi;simpa [c] using q
   .have:d≠i:=fun e=>hi e.symm
    simpa [hi,Array.getElem?_setIfInBounds_ne this] using h i
theorem iy.put {E:Env}{n:Nat}{g g':Gh}{F:Nat->AV}{h h':List bO}{a:Act}{w w':World}{d:Option Tmp}{v:AV}{cv:Value}(s:iy E n g F h a w)
  (hd:∀x,d=some x->x<n) (hg:g.le g') (hH:ck E g' h' w') (hv:Rep g' v cv):iy E n g' (GV F d v) h' (a.put d cv) w' where
 simH:=hH
 defers:=by cases d<;>exact s.defers.mono hg
 dx:=by cases d<;>exact s.dx
 base:=fun k o hk=>hg.M k o (s.base k o (hg.B▸hk))
 size:=by cases d<;>simp [Act.put,s.size]
 frame:=Zo s.size hd (fun i=>(s.frame i).mono hg) hv
def da (P:Program)(t:TypeId):Option Nat:=(P.info? t).map (·.size)
def ZO (P:Program)(t:TypeId):Option Value:=(P.info? t).bind (·.zero)
def KN (P:Program)(t:TypeId):Option Bool:=(P.underlying t).map fun d=>match d with|.struct _=>true|.array _ _=>true|_=>false
theorem E8 (h:da P t=some n)(w:World):(sizeOf t).run P w=.ok n w:=by
 unfold da at h
 cases c:P.info? t with
 | none=>simp [c] at h
 | some i=>simp [c] at h;simp [sizeOf,typeInfo,c,h]
theorem MG {z:Value}(h:ZO P t=some z)(w:World):(zeroValue t).run P w=.ok z w:=by
 unfold ZO at h
 cases c:P.info? t with
 | none=>simp [c] at h
 | some i=>simp [c] at h;simp [zeroValue,typeInfo,c,h]
theorem CU {d:TypeDesc}(h:P.underlying t=some d)(w:World):(underlying t).run P w=.ok d w:=by
 simp [underlying,h]
theorem OC {b:Bool}(h:KN P t=some b)(w:World):(isAgg t).run P w=.ok b w:=by
 unfold KN at h
 cases c:P.underlying t with
 | none=>simp [c] at h
 | some d=>simp [c] at h;cases d<;>simp at h<;>simp [isAgg,underlying,c,h]
def TS (op:BinOp)(k:IntKind)(a b:Int):Option AV :=
 match op with
 | .add=>some (.int k (k.wrap (a+b)))
 | .sub=>some (.int k (k.wrap (a-b)))
 | .mul=>some (.int k (k.wrap (a*b)))
 | .quo=>if b=0 then none else some (.int k (k.wrap (a.tdiv b)))
 | .rem=>if b=0 then none else some (.int k (a.tmod b))
 | .and=>some (.int k (k.wrap (BitVec.ofInt k.bits a &&& BitVec.ofInt k.bits b).toNat))
 | .or=>some (.int k (k.wrap (BitVec.ofInt k.bits a ||| BitVec.ofInt k.bits b).toNat))
 | .xor=>some (.int k (k.wrap (BitVec.ofInt k.bits a ^^^ BitVec.ofInt k.bits b).toNat))
 | .andNot=>some (.int k (k.wrap (BitVec.ofInt k.bits a &&& ~~~(BitVec.ofInt k.bits b)).toNat))
 | .eql=>some (.bool (a==b))
 | .neq=>some (.bool (a != b))
 | .lss=>some (.bool (decide (a<b)))
 | .leq=>some (.bool (decide (a<=b)))
 | .gtr=>some (.bool (decide (a>b)))
 | .geq=>some (.bool (decide (a≥b)))
 | _=>none
def iA (op:BinOp)(k:IntKind)(a:Int)(c:IntKind)(b:Int):Option AV :=
 match op with
 | .shl=>if b<0 then none else some (.int k (k.wrap (a*2^(min b.toNat k.bits))))
 | .shr=>if b<0 then none else some (.int k (a.fdiv (2^(min b.toNat k.bits))))
 | _=>if k=c then TS op k a b else none
def td (op:BinOp)(a b:ByteArray):Option AV :=
 match op with
 | .add=>if((a.size+b.size:Nat):Int)<=IntKind.i64.max then some (.str (a++b)) else none
 | .eql=>some (.bool (a.toList==b.toList))
 | .neq=>some (.bool (!(a.toList==b.toList)))
 | .lss=>some (.bool (Op.bytesLess a.toList b.toList))
 | _=>none
def oE (P:Program)(t:TypeId)(op:BinOp)(a b:Bool):Option AV :=
 match P.underlying t with
 | some .bool=>match op with
   | .eql=>some (.bool (a==b))
   | .neq=>some (.bool (!(a==b)))
   | _=>none
 | _=>none
def Ai:Option TypeDesc->Option AV->Option AV->Option Bool
 | some (.int _),some (.int k a),some (.int c b)=>if k=c then some (a==b) else none
 | some .bool,some (.bool a),some (.bool b)=>some (a==b)
 | some .string,some (.str a),some (.str b)=>some (a.toList==b.toList)
 | _,_,_=>none
def eqF (P:Program)(xs ys:List AV):List Field->Option Bool
 | []=>some true
 | f::fs=>if f.name = "_" then none else match Ai (P.underlying f.type) xs[f.offset]? ys[f.offset]?,eqF P xs ys fs with
   | some a,some b=>some (a&&b)
   | _,_=>none
def Af (P:Program)(t:TypeId)(op:BinOp)(xs ys:List AV):Option AV :=
 match P.underlying t with
 | some (.struct c)=>if P.stoodInHeld t=false/\P.eqGuardType P.depth t=false then match eqF P xs ys c.toList with
    | some r=>match op with
      | .eql=>some (.bool r)
      | .neq=>some (.bool (!r))
      | _=>none
    | none=>none
   else none
 | _=>none
theorem Sp {P:Program}{d n:Nat}{t:TypeId}{xs ys:List AV}{Q O:Array Value}{g:Gh}{r:Bool}(w:World)(h:Ai (P.underlying t) xs[n]? ys[n]?=some r)
  (J:Q.size=xs.length) (h2:∀(i:Nat) (v:AV) (cv:Value),xs[i]?=some v->Q[i]?=some cv->Rep g v cv)
  (K:O.size=ys.length) (L:∀(i:Nat) (v:AV) (cv:Value),ys[i]?=some v->O[i]?=some cv->Rep g v cv) :
  ∃a b,(part t Q n).run P w=.ok a w/\(part t O n).run P w=.ok b w/\(Op.equalIn (d+1) t a b).run P w=.ok r w:=by
 have get:∀ {I:List AV} {p:Array Value} {x:AV},p.size=I.length->(∀(i:Nat) (v:AV) (cv:Value),I[i]?=some v->p[i]?=some cv->Rep g v cv)->I[n]?=some x->∃c,p[n]?=some c/\Rep g x c:=by
  intro I p x hs Z C;have E:n<p.size:=by grind
  exact⟨p[n],by simp [E],Z n x p[n] C (by simp [E])⟩
 have l:∀ {p:Array Value} {c:Value} {N:TypeDesc},P.underlying t=some N->(match N with|.struct _=>true|.array _ _=>true|_=>false)=false->p[n]?=some c->(part t p n).run P w=.ok c w:=by
  intro p c N X Y V;have T:KN P t=some false:=by simp [KN,X,Y]
  simp [part,OC T,V]
 unfold Ai at h;split at h
 .rename_i ki k a k' b q C F
  split at h
  .rename_i hk
   subst hk;cases h;obtain⟨R,A,G⟩:=get J h2 C;obtain⟨S,B,H⟩:=get K L F;rw[G.int_inv] at A;rw[H.int_inv] at B;exact⟨_,_,l q rfl A,l q rfl B,run_equalIn_int w d t k ki a b q⟩
  .cases h
 .rename_i a b q C F
  cases h;obtain⟨R,A,G⟩:=get J h2 C;obtain⟨S,B,H⟩:=get K L F;rw[G.bool_inv] at A;rw[H.bool_inv] at B;exact⟨_,_,l q rfl A,l q rfl B,run_equalIn_bool' w d t a b q⟩
 .rename_i a b q C F
  cases h;obtain⟨R,A,G⟩:=get J h2 C;obtain⟨S,B,H⟩:=get K L F;rw[G.str_inv] at A;rw[H.str_inv] at B;exact⟨_,_,l q rfl A,l q rfl B,run_equalIn_string w d t a b q⟩
 .cases h
theorem yI {P:Program}{d:Nat}{xs ys:List AV}{p l:Array Value}{g:Gh}(w:World)
  (q:p.size=xs.length) (h2:∀(i:Nat) (v:AV) (cv:Value),xs[i]?=some v->p[i]?=some cv->Rep g v cv)
  (A:l.size=ys.length) (B:∀(i:Nat) (v:AV) (cv:Value),ys[i]?=some v->l[i]?=some cv->Rep g v cv):∀(c:List Field) (r:Bool),eqF P xs ys c=some r->(Op.eqFields (d+1) p l c).run P w=.ok r w
 | [],r,h=>by simp [eqF] at h;subst h;simp [Op.eqFields]
 | f::c,r,h=>by
   simp only[eqF] at h;split at h
   .cases h
   rename_i F;split at h
   case h_2=>cases h
   rename_i a b C E;cases h;obtain⟨K,L,H,I,J⟩:=Sp (d:=d) w C q h2 A B;have G:=yI (d:=d) w q h2 A B c b E;simp only[Op.eqFields,ne_eq,F,not_false_eq_true,if_true,Sem.run_bind,H,I,J,Result.andThen_ok]
   cases a with
   | true=>simpa using G
   | false=>simp
def MS:AV->Option Bool
 | .sl .nil _ _=>some true
 | .sl _ _ _=>some false
 | .own _ _ _=>some false
 | .nilp=>some true
 | .ptr _ _ _=>some false
 | .fptr _ _ _ _=>some false
 | .nilfn=>some true
 | .fn _ _ _=>some false
 | _=>none
def ZK:AV->Option Nat
 | .sl _ _ _=>some 0
 | .own _ _ _=>some 0
 | .nilp=>some 1
 | .ptr _ _ _=>some 1
 | .fptr _ _ _ _=>some 1
 | .nilfn=>some 2
 | .fn _ _ _=>some 2
 | _=>none
def uI (P:Program)(t:TypeId):Option Nat :=
 match P.underlying t with
 | some (.slice _)=>some 0
 | some (.pointer _)=>some 1
 | some (.func _ _ _)=>some 2
 | _=>none
def Y8 (P:Program)(t:TypeId)(op:BinOp)(x y:AV):Option AV :=
 if uI P t=some 0/\ZK x=some 0/\ZK y=some 0\/uI P t=some 1/\ZK x=some 1/\ZK y=some 1\/uI P t=some 2/\ZK x=some 2/\ZK y=some 2 then
  match MS x,MS y with
  | some a,some true=>match op with
    | .eql=>some (.bool a)
    | .neq=>some (.bool (!a))
    | _=>none
  | some true,some a=>match op with
    | .eql=>some (.bool a)
    | .neq=>some (.bool (!a))
    | _=>none
  | _,_=>none
 else none
def Ir:AV->Option Bool
 | .nilifc=>some true
 | .ifc _ _=>some false
 | _=>none
def ur (P:Program)(t:TypeId)(op:BinOp)(x y:AV):Option AV :=
 match P.underlying t with
 | some (.interface c)=>if c.isEmpty=true then match Ir x,y with
   | some a,.nilifc=>match op with
     | .eql=>some (.bool a)
     | .neq=>some (.bool (!a))
     | _=>none
   | _,_=>none
   else none
 | _=>none
def IZ (P:Program)(t:TypeId)(op:BinOp)(x y:AV):Option AV :=
 match x with
 | .nilifc=>ur P t op .nilifc y
 | .ifc a b=>ur P t op (.ifc a b) y
 | .int k a=>match y with
   | .int d b=>iA op k a d b
   | _=>none
 | .str a=>match y with
   | .str b=>td op a b
   | _=>none
 | .bool a=>match y with
   | .bool b=>oE P t op a b
   | _=>none
 | .agg c=>match y with
   | .agg g=>Af P t op c g
   | _=>none
 | .sl m k c=>Y8 P t op (.sl m k c) y
 | .own b o l=>Y8 P t op (.own b o l) y
 | .nilp=>Y8 P t op .nilp y
 | .ptr b i j=>Y8 P t op (.ptr b i j) y
 | .fptr k c i j=>Y8 P t op (.fptr k c i j) y
 | .nilfn=>Y8 P t op .nilfn y
 | .fn f a b=>Y8 P t op (.fn f a b) y
 | _=>none
def KL (op:BinOp)(t:TypeId)(x y:Operand)(a b:Value):Sem Value:=do eqGuard op t x y a b;binOp op t a b
theorem Wh {k d:IntKind}{a b:Int}{v:AV}(g:Gh)(w:World)(x y:Operand)(h:iA op k a d b=some v):
  ∃cv,(KL op t x y (.int k a) (.int d b)).run P w=.ok cv w/\Rep g v cv:=by
 unfold iA at h;cases op<;>simp only at h
 case shl =>
  split at h
  .cases h
  .cases h;rename_i c;exact⟨_,by simp [KL,eqGuard,binOp,Op.shift,c],.int _ _ _⟩
 case shr =>
  split at h
  .cases h
  .cases h;rename_i c;exact⟨_,by simp [KL,eqGuard,binOp,Op.shift,c],.int _ _ _⟩
 all_goals
  split at h
  case isFalse=>cases h
  rename_i hk;subst hk;simp only[TS] at h
 case quo =>
  split at h
  .cases h
  .cases h;rename_i c;exact⟨_,by simp [KL,eqGuard,binOp,Op.intDiv,c],.int _ _ _⟩
 case rem =>
  split at h
  .cases h
  .cases h;rename_i c;exact⟨_,by simp [KL,eqGuard,binOp,Op.intDiv,c],.int _ _ _⟩
 all_goals first
  | (cases h;done)
  | (cases h;exact⟨_,by simp only[KL,eqGuard,binOp,Sem.run_bind,ne_eq,not_true_eq_false,↓reduceIte];rfl,.int _ _ _⟩)
  | (cases h;exact⟨_,by simp only[KL,eqGuard,binOp,Sem.run_bind,ne_eq,not_true_eq_false,↓reduceIte];rfl,.bool _ _⟩)
theorem We {a b:ByteArray}{v:AV}(g:Gh)(w:World)(x y:Operand)(h:td op a b=some v):
  ∃cv,(KL op t x y (.string a) (.string b)).run P w=.ok cv w/\Rep g v cv:=by
 unfold td at h;cases op<;>simp only at h
 case add =>
  split at h
  .cases h
   rename_i d;have c:¬(((a.size+b.size:Nat):Int)>IntKind.i64.max):=Int.not_lt.2 d;exact⟨_,by simp only[KL,eqGuard,binOp,Op.stringOp,if_neg c,Sem.run_bind];rfl,.str _ _⟩
  .cases h
 all_goals first
  | (cases h;done)
  | (cases h;exact⟨_,by simp only[KL,eqGuard,binOp,Op.stringOp,Sem.run_bind];rfl,.bool _ _⟩)
theorem TJ (t:TypeId)(x y:Value):Op.equal t x y=Op.equalIn (9999+1) t x y:=rfl
theorem Td (c:P.underlying t=some .bool)(d:Nat)(a b:Bool)(w:World):
 (Op.equalIn (d+1) t (.bool a) (.bool b)).run P w=.ok (a==b) w:=by simp [Op.equalIn,underlying,c]
theorem RC (A:P.underlying t=some (.slice e))(d:Nat)(p q:Option Addr)(l c l' g:Nat)(w:World)(h:p=none\/q=none):
  (Op.equalIn (d+1) t (.slice p l c) (.slice q l' g)).run P w=.ok (p.isNone&&q.isNone) w:=by
 cases p<;>cases q<;>simp at h<;>simp [Op.equalIn,underlying,A]
theorem pA (c:P.underlying t=some (.pointer e))(d:Nat)(p q:Option Addr)(w:World)(h:p=none\/q=none):
  (Op.equalIn (d+1) t (.pointer p) (.pointer q)).run P w=.ok (p.isNone&&q.isNone) w:=by
 cases p<;>cases q<;>simp at h<;>simp [Op.equalIn,underlying,c]
theorem iR {a b:Array TypeId}{c:Bool}(g:P.underlying t=some (.func a b c))(d:Nat)(w:World):
  (Op.equalIn (d+1) t .nilFunc .nilFunc).run P w=.ok true w/\(∀f p q,(Op.equalIn (d+1) t .nilFunc (.func f p q)).run P w=.ok false w) /\
  ∀f p q,(Op.equalIn (d+1) t (.func f p q) .nilFunc).run P w=.ok false w:=by
 simp [Op.equalIn,underlying,g]
theorem mQ (c:P.underlying t=some .bool)(x y:Operand)(a b:Bool)(w:World):
  (KL .eql t x y (.bool a) (.bool b)).run P w=.ok (.bool (a==b)) w/\(KL .neq t x y (.bool a) (.bool b)).run P w=.ok (.bool (!(a==b))) w:=by
 simp only[KL,eqGuard,binOp,TJ];constructor<;>simp [Td c]
theorem vG {a b:Bool}{v:AV}(g:Gh)(w:World)(x y:Operand)(h:oE P t op a b=some v):
  ∃cv,(KL op t x y (.bool a) (.bool b)).run P w=.ok cv w/\Rep g v cv:=by
 unfold oE at h;split at h
 .rename_i c
  have k:=mQ c x y a b w
  cases op<;>simp only at h<;>first
   | (cases h;done)
   | (cases h;exact⟨_,k.1,.bool _ _⟩)
   | (cases h;exact⟨_,k.2,.bool _ _⟩)
 .cases h
theorem Sf {P:Program}{t:TypeId}{op:BinOp}{xs ys:List AV}{v:AV}{cx B:Value}{g:Gh}(w:World)(x y:Operand)(h:Af P t op xs ys=some v)
  (O:Rep g (.agg xs) cx) (Q:Rep g (.agg ys) B):∃cv,(KL op t x y cx B).run P w=.ok cv w/\Rep g v cv:=by
 obtain⟨q,rfl,G,H⟩:=O.agg_inv;obtain⟨p,rfl,I,J⟩:=Q.agg_inv;unfold Af at h;split at h
 case h_2=>cases h
 rename_i C F;split at h
 case isFalse=>cases h
 rename_i L;obtain⟨A,c⟩:=L;split at h
 case h_2=>cases h
 rename_i r N;have l:P.fieldsOf t=C:=by simp [Program.fieldsOf,F]
 have K:=yI (d:=9998) w G H I J C.toList r N
 have E:(Op.equalIn 10000 t (.agg q) (.agg p)).run P w=.ok r w:=by
  rw[run_equalIn_agg w 9999 t q p (by rw[l];exact F) A,l];exact K
 split at h
 .cases h
  refine⟨.bool r,?_,.bool g r⟩;simp only[KL,Sem.run_bind,run_eqGuard_agg w .eql t x y q p c,Result.andThen_ok,run_eql_struct,E]
 .cases h
  refine⟨.bool (!r),?_,.bool g _⟩;simp only[KL,Sem.run_bind,run_eqGuard_agg w .neq t x y q p c,Result.andThen_ok,run_neq_struct,E]
 .cases h
theorem Sb {P:Program}{t:TypeId}{op:BinOp}{x y v:AV}{cx C:Value}{g:Gh}(w:World)(ox oy:Operand)(h:Y8 P t op x y=some v)
  (J:Rep g x cx) (K:Rep g y C):∃cv,(KL op t ox oy cx C).run P w=.ok cv w/\Rep g v cv:=by
 have key:∀(a b:Bool),MS x=some a->MS y=some b->(a=true\/b=true)->(uI P t=some 0/\ZK x=some 0/\ZK y=some 0\/uI P t=some 1/\ZK x=some 1/\ZK y=some 1\/uI P t=some 2/\ZK x=some 2/\ZK y=some 2) ->
   (Op.equal t cx C).run P w=.ok (a&&b) w/\(∀(op:BinOp),(eqGuard op t ox oy cx C).run P w=.ok () w)/\binOp .eql t cx C=(do pure (.bool (<-Op.equal t cx C)):Sem Value)/\binOp .neq t cx C=(do pure (.bool (!(<-Op.equal t cx C))):Sem Value):=by
  intro a b A B X T
  have Z:(uI P t=some 0->∃e,P.underlying t=some (.slice e))/\(uI P t=some 1->∃e,P.underlying t=some (.pointer e))/\(uI P t=some 2->∃p r q,P.underlying t=some (.func p r q)):=by
   unfold uI;refine⟨fun h=>?_,fun h=>?_,fun h=>?_⟩<;>split at h<;>simp at h<;>simp_all
  have Q:∀(op:BinOp) (c d:Value),(match c,d with|.nilIface,.nilIface=>False|.agg _,.agg _=>False|_,_=>True)->(eqGuard op t ox oy c d).run P w=.ok () w:=by
   intro op c d a0;unfold eqGuard;cases op<;>simp
   all_goals (split<;>simp_all)
  rcases T with⟨L,N,O⟩|⟨L,N,O⟩|⟨L,N,O⟩
  .obtain⟨e,G⟩:=Z.1 L
   have E:∃p l c,cx=.slice p l c/\(a=p.isNone):=by
    cases x<;>simp [ZK] at N
    case sl m k xs =>
     cases J.sl_inv with
     | nil=>simp [MS] at A;exact⟨none,0,0,rfl,A▸rfl⟩
     | empty _ _ q cap H _=>cases m<;>simp [MS] at A H<;>exact⟨_,_,_,rfl,by simp [A]⟩
     | sl _ _ _ cb co c e fz cap cv q1 H=>cases m<;>simp [MS] at A H<;>exact⟨_,_,_,rfl,by simp [A]⟩
    case own=>rcases J.own_inv with⟨l,cap,_,_,_,e⟩|⟨_,q,e⟩<;>subst e<;>simp [MS] at A<;>exact⟨_,_,_,rfl,by simp [A]⟩
   have F:∃p l c,C=.slice p l c/\(b=p.isNone):=by
    cases y<;>simp [ZK] at O
    case sl m k xs =>
     cases K.sl_inv with
     | nil=>simp [MS] at B;exact⟨none,0,0,rfl,B▸rfl⟩
     | empty _ _ q cap H _=>cases m<;>simp [MS] at B H<;>exact⟨_,_,_,rfl,by simp [B]⟩
     | sl _ _ _ cb co c e fz cap cv q1 H=>cases m<;>simp [MS] at B H<;>exact⟨_,_,_,rfl,by simp [B]⟩
    case own=>rcases K.own_inv with⟨l,cap,_,_,_,e⟩|⟨_,q,e⟩<;>subst e<;>simp [MS] at B<;>exact⟨_,_,_,rfl,by simp [B]⟩
   obtain⟨p,l,c,rfl,Y⟩:=E;obtain⟨V,l',c',rfl,I⟩:=F;refine⟨?_,fun op=>Q op _ _ trivial,rfl,rfl⟩;rw[TJ,RC G _ _ _ _ _ _ _ _ (by cases p<;>cases V<;>simp_all),Y,I]
  .obtain⟨e,G⟩:=Z.2.1 L
   have E:∃p,cx=.pointer p/\(a=p.isNone):=by
    cases x<;>simp [ZK] at N
    case nilp=>simp [MS] at A;exact⟨none,J.nilp_inv,by simp [A]⟩
    case ptr=>obtain⟨l,_,e⟩:=J.ptr_inv;simp [MS] at A;exact⟨_,e,by simp [A]⟩
    case fptr=>cases J.fptr_inv;simp [MS] at A;exact⟨_,rfl,by simp [A]⟩
   have F:∃p,C=.pointer p/\(b=p.isNone):=by
    cases y<;>simp [ZK] at O
    case nilp=>simp [MS] at B;exact⟨none,K.nilp_inv,by simp [B]⟩
    case ptr=>obtain⟨l,_,e⟩:=K.ptr_inv;simp [MS] at B;exact⟨_,e,by simp [B]⟩
    case fptr=>cases K.fptr_inv;simp [MS] at B;exact⟨_,rfl,by simp [B]⟩
   obtain⟨p,rfl,Y⟩:=E;obtain⟨V,rfl,I⟩:=F;refine⟨?_,fun op=>Q op _ _ trivial,rfl,rfl⟩;rw[TJ,pA G _ _ _ _ (by cases p<;>cases V<;>simp_all),Y,I]
  .obtain⟨e1,e2,e3,G⟩:=Z.2.2 L
   have E:(cx=.nilFunc/\a=true)\/(∃f p q,cx=.func f p q/\a=false):=by
    cases x<;>simp [ZK] at N
    case nilfn=>simp [MS] at A;exact .inl ⟨J.nilfn_inv,A⟩
    case fn=>obtain⟨p,q,e,_⟩:=J.fn_inv;simp [MS] at A;exact .inr ⟨_,_,_,e,A⟩
   have F:(C=.nilFunc/\b=true)\/(∃f p q,C=.func f p q/\b=false):=by
    cases y<;>simp [ZK] at O
    case nilfn=>simp [MS] at B;exact .inl ⟨K.nilfn_inv,B⟩
    case fn=>obtain⟨p,q,e,_⟩:=K.fn_inv;simp [MS] at B;exact .inr ⟨_,_,_,e,B⟩
   rcases E with⟨rfl,rfl⟩|⟨f,p,q,rfl,rfl⟩<;>rcases F with⟨rfl,rfl⟩|⟨f',V,q',rfl,rfl⟩
   .exact⟨by rw[TJ,(iR G _ _).1];rfl,fun op=>Q op _ _ trivial,rfl,rfl⟩
   .exact⟨by rw[TJ,(iR G _ _).2.1];rfl,fun op=>Q op _ _ trivial,rfl,rfl⟩
   .exact⟨by rw[TJ,(iR G _ _).2.2];rfl,fun op=>Q op _ _ trivial,rfl,rfl⟩
   .simp at X
 unfold Y8 at h;split at h
 .rename_i T
  split at h
  .rename_i a A B
   obtain⟨R,S,k3,k4⟩:=key a true A B (.inr rfl) T
   cases op<;>simp only at h<;>first
    | (cases h;done)
    | (cases h;exact⟨.bool a,by simp [KL,S,k3,R],.bool _ _⟩)
    | (cases h;exact⟨.bool (!a),by simp [KL,S,k4,R],.bool _ _⟩)
  .rename_i a _ A B
   obtain⟨R,S,k3,k4⟩:=key true a A B (.inl rfl) T
   cases op<;>simp only at h<;>first
    | (cases h;done)
    | (cases h;exact⟨.bool a,by simp [KL,S,k3,R],.bool _ _⟩)
    | (cases h;exact⟨.bool (!a),by simp [KL,S,k4,R],.bool _ _⟩)
  .cases h
 .cases h
theorem mP {g:Array (String×TypeId)}(h:P.underlying t=some (.interface g))(c:g.isEmpty=true)(d:Nat)(w:World):(Op.eqGuardIn (d+1) t .nilIface .nilIface).run P w=.ok false w:=by
 simp [Op.eqGuardIn,CU h,c]
theorem pB {g:Array (String×TypeId)}(c:P.underlying t=some (.interface g))(d:Nat)(w:World):(Op.equalIn (d+1) t .nilIface .nilIface).run P w=.ok true w/\∀q u,(Op.equalIn (d+1) t (.iface q u) .nilIface).run P w=.ok false w:=by
 simp [Op.equalIn,CU c]
theorem iB {P:Program}{t:TypeId}{op:BinOp}{x y v:AV}{cx H:Value}{g:Gh}(w:World)(F G:Operand)(h:ur P t op x y=some v)
  (I:Rep g x cx) (J:Rep g y H):∃cv,(KL op t F G cx H).run P w=.ok cv w/\Rep g v cv:=by
 unfold ur at h;split at h
 case h_2=>cases h
 rename_i K E;split at h
 case isFalse=>cases h
 rename_i C;split at h
 case h_2=>cases h
 rename_i a l;have A:=J.nilifc_inv;subst A;have B:(Op.eqGuardIn Op.maxDepth t .nilIface .nilIface).run P w=.ok false w:=mP E C 9999 w
 have p:(cx=.nilIface/\a=true)\/(∃q u,cx=.iface q u)/\a=false:=by
  cases x<;>simp [Ir] at l
  .exact .inr ⟨⟨_,_,I.ifc_inv⟩,l⟩
  .exact .inl ⟨I.nilifc_inv,l⟩
 rcases p with⟨rfl,rfl⟩|⟨⟨q,u,rfl⟩,rfl⟩
 .have d:(Op.equal t .nilIface .nilIface).run P w=.ok true w:=(pB E 9999 w).1
  have c:∀(op:BinOp),(eqGuard op t F G .nilIface .nilIface).run P w=.ok () w:=fun op=>by
   unfold eqGuard;cases op<;>simp [B]
  cases op<;>simp only at h<;>first
   | (cases h;done)
   | (cases h;refine⟨.bool true,?_,.bool _ _⟩;simp only[KL,Sem.run_bind,c,Result.andThen_ok];simp [binOp,d])
   | (cases h;refine⟨.bool false,?_,.bool _ _⟩;simp only[KL,Sem.run_bind,c,Result.andThen_ok];simp [binOp,d])
 .have d:(Op.equal t (.iface q u) .nilIface).run P w=.ok false w:=(pB E 9999 w).2 q u
  have c:∀(op:BinOp),(eqGuard op t F G (.iface q u) .nilIface).run P w=.ok () w:=fun op=>by
   unfold eqGuard;cases op<;>simp
  cases op<;>simp only at h<;>first
   | (cases h;done)
   | (cases h;refine⟨.bool false,?_,.bool _ _⟩;simp only[KL,Sem.run_bind,c,Result.andThen_ok];simp [binOp,d])
   | (cases h;refine⟨.bool true,?_,.bool _ _⟩;simp only[KL,Sem.run_bind,c,Result.andThen_ok];simp [binOp,d])
theorem Wi {P:Program}{t:TypeId}{op:BinOp}{x y v:AV}{cx q:Value}{g:Gh}(w:World)(c d:Operand)(h:IZ P t op x y=some v)
  (l:Rep g x cx) (p:Rep g y q):∃cv,(KL op t c d cx q).run P w=.ok cv w/\Rep g v cv:=by
 unfold IZ at h;cases x<;>simp only at h
 case int k a =>
  cases y<;>simp only at h<;>first|(cases h;done)|skip
  rw[l.int_inv,p.int_inv];exact Wh g w c d h
 case str a =>
  cases y<;>simp only at h<;>first|(cases h;done)|skip
  rw[l.str_inv,p.str_inv];exact We g w c d h
 case bool a =>
  cases y<;>simp only at h<;>first|(cases h;done)|skip
  rw[l.bool_inv,p.bool_inv];exact vG g w c d h
 case agg a =>
  cases y<;>simp only at h<;>first|(cases h;done)|skip
  exact Sf w c d h l p
 case tup=>cases h
 case ifc=>exact iB w c d h l p
 case nilifc=>exact iB w c d h l p
 case mp=>cases h
 case nilmp=>cases h
 case junk=>cases h
 all_goals exact Sb w c d h l p
theorem addr_add (b o n:Nat):(Addr.mk b o none).add n=⟨b,o+n,none⟩:=by
 unfold Addr.add;split
 .rename_i h;subst h;rfl
 .rfl
theorem Hu {α:Type}{p:Nat->α->Prop}(h:∀j,j<n->∃c,p j c):∃cs:List α,cs.length=n/\∀(j:Nat) (c:α),cs[j]?=some c->p j c:=by
 induction n with
 | zero=>exact⟨[],rfl,BA⟩
 | succ n A =>
   obtain⟨cs,l,q⟩:=A (fun j C=>h j U);obtain⟨c,B⟩:=h n U;refine⟨cs++[c],by simp [l],fun j d g=>?_⟩;rw[List.getElem?_append] at g;split at g
   .exact q j d g
   .grind
def WA (g:Gh)(h:List bO)(cb:Nat):Prop:=∀b x l,h[b]?=some x->x≠.dead->g.μ b=some l->l.cb≠cb
theorem ck.fro_ne {E:Env}{g:Gh}{h:List bO}(S:ck E g h w)(hk:g.M k=some o):k<w.heap.size:=by
 have:=S.fro k o hk;rcases zC k w.heap.size with h|h
 .exact h
 .simp [Array.getElem?_eq_none h] at this
theorem ck.world {E:Env}{g:Gh}{h:List bO}{w w':World}(S:ck E g h w)(h1:w'.os=w.os)(h2:w'.tape=w.tape)(h3:w'.output=w.output)
  (hb:∀k,((∃o,g.M k=some o)\/¬WA g h k)->w'.heap[k]?=w.heap[k]?):ck E g h w' where
 os:=h1.trans S.os
 tape:=h2.trans S.tape
 output:=h3.trans S.output
 fro k o hk:=(hb k (.inl ⟨o,hk⟩)).trans (S.fro k o hk)
 lo:=S.lo
 live b k xs hx:=by
  obtain⟨l,c,e,q1,q2,q3,q4,q5⟩:=S.live b k xs hx;refine⟨l,c,e,q1,q2,q3,?_,q5⟩;rw[hb l.cb (.inr fun hu=>hu b _ l hx BA q1 rfl)];exact q4
 obj b x hx hi:=by
  obtain⟨l,o,q1,q2,q3,q4,q5,q6⟩:=S.obj b x hx hi;refine⟨l,o,q1,q2,q3,q4,?_,q6⟩;rw[hb l.cb (.inr fun hu=>hu b _ l hx (by rintro rfl;cases hi) q1 rfl)];exact q5
 inj:=S.inj
 fresh:=S.fresh
 glob:=S.glob
theorem ck.kill {E:Env}{g:Gh}{h:List bO}(S:ck E g h w)(b:Nat):ck E g (h.set b .dead) w where
 os:=S.os
 tape:=S.tape
 output:=S.output
 fro:=S.fro
 lo:=S.lo
 live b' k xs hx:=by
  rw[zW] at hx;split at hx
  .split at hx<;>simp at hx
  .exact S.live b' k xs hx
 obj b' x hx hi:=by
  rw[zW] at hx;split at hx
  .split at hx
   .cases hx;cases hi
   .cases hx
  .exact S.obj b' x hx hi
 inj b1 b2 x x' l l' e1 n1 e2 n2:=by
  rw[zW] at e1 e2;split at e1
  .simp_all
  .split at e2
   .simp_all
   .exact S.inj b1 b2 x x' l l' e1 n1 e2 n2
 fresh b' hb:=S.fresh b' (BQ hb)
 glob:=S.glob
theorem PW {E:Env}{g:Gh}{h:List bO}(S:ck E g h w){x:bO}{l:Loc}(F:h[b]?=some x)(C:x≠.dead)(B:g.μ b=some l):
  WA g (h.set b .dead) l.cb:=by
 intro p I G c H q A;rw[zW] at c;split at c
 .simp_all
 .rename_i d;exact d (S.inj b p x I l G F C c H B q A.symm)
def Q7 (g:Gh)(c:Array Value)(co k:Nat)(xs:List (List AV)):Prop :=
 co+xs.length*k<=c.size/\ZX k xs/\∀(i j:Nat) (row:List AV) (v:AV),xs[i]?=some row->row[j]?=some v->∃cv,c[co+i*k+j]?=some cv/\Rep g v cv
def Gh.adopt (g:Gh)(b:Nat)(l:Loc):Gh := { g with μ:=fun x=>if x=b then some l else g.μ x }
theorem Gh.adopt_le {g:Gh}{l:Loc}(h:g.μ b=none):g.le (g.adopt b l) :=
 ⟨fun _ _ h=>h,fun x y c=>by simp only[Gh.adopt];split<;>simp_all,rfl,rfl,rfl,rfl⟩
theorem ck.adopt {E:Env}{g:Gh}{h:List bO}{w:World}(S:ck E g h w){cb co k:Nat}{c:Array Value}{e:TypeId}{xs:List (List AV)}
  (hw:w.heap[cb]?=some (.cells c e (0,0))) (hM:g.M cb=none) (R:WA g h cb) (J:Q7 g c co k xs) :
  ck E (g.adopt h.length ⟨cb,co,k,c.size⟩) (h++[.live k xs]) w:=by
 have hle:=Gh.adopt_le (l:=⟨cb,co,k,c.size⟩) (S.fresh h.length (jF _));have d:∀b,b<h.length->(g.adopt h.length ⟨cb,co,k,c.size⟩).μ b=g.μ b:=fun b p=>by simp only[Gh.adopt];rw[if_neg U]
 have new:(g.adopt h.length ⟨cb,co,k,c.size⟩).μ h.length=some ⟨cb,co,k,c.size⟩:=by simp [Gh.adopt]
 have split:∀b x,(h++[bO.live k xs])[b]?=some x->(b<h.length/\h[b]?=some x)\/(b=h.length/\x=.live k xs):=by grind
 exact {
  os:=S.os,tape:=S.tape,output:=S.output,fro:=S.fro,lo:=fun g0 hk=>(S.lo g0 hk).trans hle.toM
  live:=by
   intro b Z O K;rcases split b _ K with⟨p,A⟩|⟨rfl,A⟩
   .obtain⟨l,c',e',q1,q2,q3,q4,q5,q6,q7,q8⟩:=S.live b Z O A
    exact⟨l,c',e',by rw[d b p];exact q1,q2,q3,q4,q5,q6,q7,fun i j row v L N=>let ⟨cv,s1,s2⟩:=q8 i j row v L N;⟨cv,s1,s2.mono hle⟩⟩
   .cases A
    exact⟨_,c,e,new,rfl,hM,hw,rfl,J.1,J.2.1,fun i j row v L N=>let ⟨cv,s1,s2⟩:=J.2.2 i j row v L N;⟨cv,s1,s2.mono hle⟩⟩
  obj:=by
   intro b x K Q;rcases split b _ K with⟨p,A⟩|⟨rfl,A⟩
   .obtain⟨l,o,q1,q2,q3,q4,q5,q6⟩:=S.obj b x A Q
    exact⟨l,o,by rw[d b p];exact q1,q2,q3,q4,q5,q6.mono fun _ _ r=>r.mono hle⟩
   .subst A;cases Q
  inj:=by
   intro b F x Y l T G V H X B C q;rcases split b _ G with⟨p,G⟩|⟨rfl,G⟩<;>rcases split F _ H with⟨I,H⟩|⟨rfl,H⟩
   .rw[d b p] at B;rw[d F I] at C;exact S.inj b F x Y l T G V H X B C q
   .rw[d b p] at B;rw[new] at C;cases C;exact absurd q (R b x l G V B)
   .rw[new] at B;rw[d F I] at C;cases B;exact absurd q.symm (R F Y T H X C)
   .rfl
  fresh:=by
   intro b p;simp at p;simp only[Gh.adopt];rw[if_neg U];exact S.fresh b U
  glob:=S.glob }
theorem ck.adopt_obj {E:Env}{g:Gh}{h:List bO}{w:World}(S:ck E g h w){cb:Nat}{y:bO}{oy:Obj}
  (hw:w.heap[cb]?=some oy) (hM:g.M cb=none) (N:WA g h cb) (I:ee g y oy) :
  ck E (g.adopt h.length ⟨cb,0,0,0⟩) (h++[y]) w:=by
 have K:=I.isObj;have hle:=Gh.adopt_le (l:=⟨cb,0,0,0⟩) (S.fresh h.length (jF _));have c:∀b,b<h.length->(g.adopt h.length ⟨cb,0,0,0⟩).μ b=g.μ b:=fun b d=>by simp only[Gh.adopt];rw[if_neg U]
 have new:(g.adopt h.length ⟨cb,0,0,0⟩).μ h.length=some ⟨cb,0,0,0⟩:=by simp [Gh.adopt]
 have split:∀b x,(h++[y])[b]?=some x->(b<h.length/\h[b]?=some x)\/(b=h.length/\x=y):=by grind
 exact {
  os:=S.os,tape:=S.tape,output:=S.output,fro:=S.fro,lo:=fun g0 hk=>(S.lo g0 hk).trans hle.toM
  live:=by
   intro b X L J;rcases split b _ J with⟨d,q⟩|⟨rfl,q⟩
   .obtain⟨l,c',e',q1,q2,q3,q4,q5,q6,q7,Y⟩:=S.live b X L q
    exact⟨l,c',e',by rw[c b d];exact q1,q2,q3,q4,q5,q6,q7,fun i j row v Z r2=>let ⟨cv,s1,s2⟩:=Y i j row v Z r2;⟨cv,s1,s2.mono hle⟩⟩
   .subst q;cases K
  obj:=by
   intro b x J V;rcases split b _ J with⟨d,q⟩|⟨rfl,q⟩
   .obtain⟨l,o,q1,q2,q3,q4,q5,q6⟩:=S.obj b x q V
    exact⟨l,o,by rw[c b d];exact q1,q2,q3,q4,q5,q6.mono fun _ _ r=>r.mono hle⟩
   .subst q
    exact⟨_,oy,new,rfl,rfl,hM,hw,I.mono fun _ _ r=>r.mono hle⟩
  inj:=by
   intro b C x T l O F Q G R A B p;rcases split b _ F with⟨d,F⟩|⟨rfl,F⟩<;>rcases split C _ G with⟨H,G⟩|⟨rfl,G⟩
   .rw[c b d] at A;rw[c C H] at B;exact S.inj b C x T l O F Q G R A B p
   .rw[c b d] at A;rw[new] at B;cases B;exact absurd p (N b x l F Q A)
   .rw[new] at A;rw[c C H] at B;cases A;exact absurd p.symm (N C T O G R B)
   .rfl
  fresh:=by
   intro b d;simp at d;simp only[Gh.adopt];rw[if_neg U];exact S.fresh b U
  glob:=S.glob }
theorem ck.revive {E:Env}{g:Gh}{h:List bO}{w:World}(S:ck E g h w){b:Nat}{l:Loc}{c:Array Value}{e:TypeId}{xs:List (List AV)}
  (hl:g.μ b=some l) (hw:w.heap[l.cb]?=some (.cells c e (0,0))) (hsz:c.size=l.sz) (hM:g.M l.cb=none) (hu:WA g h l.cb) (hr:Q7 g c l.co l.k xs) :
  ck E g (h.set b (.live l.k xs)) w where
 os:=S.os
 tape:=S.tape
 output:=S.output
 fro:=S.fro
 lo:=S.lo
 live b' k' xs' hx:=by
  rw[zW] at hx;split at hx
  .rename_i hb;subst hb
   split at hx<;>simp at hx;obtain⟨rfl,rfl⟩:=hx;exact⟨l,c,e,hl,rfl,hM,hw,hsz,hsz▸hr.1,hr.2.1,hr.2.2⟩
  .exact S.live b' k' xs' hx
 obj b' x hx hi:=by
  rw[zW] at hx;split at hx
  .split at hx
   .cases hx;cases hi
   .cases hx
  .exact S.obj b' x hx hi
 inj b1 b2 x x' l1 l2 e1 n1 e2 n2 m1 m2 hcb:=by
  rw[zW] at e1 e2;split at e1<;>split at e2
  .rename_i a1 a2;rw[<-a1,<-a2]
  .rename_i a1 a2;subst a1;rw[hl] at m1;cases m1;exact absurd hcb.symm (hu b2 x' l2 e2 n2 m2)
  .rename_i a1 a2;subst a2;rw[hl] at m2;cases m2;exact absurd hcb (hu b1 x l1 e1 n1 m1)
  .exact S.inj b1 b2 x x' l1 l2 e1 n1 e2 n2 m1 m2 hcb
 fresh b' hb:=S.fresh b' (BQ hb)
 glob:=S.glob
theorem ck.revive_obj {E:Env}{g:Gh}{h:List bO}{w:World}(S:ck E g h w){b:Nat}{l:Loc}{y:bO}{oy:Obj}
  (hl:g.μ b=some l) (h0:l.co=0) (h1:l.k=0) (hw:w.heap[l.cb]?=some oy) (hM:g.M l.cb=none) (hu:WA g h l.cb) (hyo:ee g y oy) :
  ck E g (h.set b y) w where
 os:=S.os
 tape:=S.tape
 output:=S.output
 fro:=S.fro
 lo:=S.lo
 live b' k' xs' hx:=by
  rw[zW] at hx;split at hx
  .split at hx
   .cases hx;cases hyo
   .cases hx
  .exact S.live b' k' xs' hx
 obj b' x hx hi:=by
  rw[zW] at hx;split at hx
  .simp_all
  .exact S.obj b' x hx hi
 inj b1 b2 x x' l1 l2 e1 n1 e2 n2 m1 m2 hcb:=by
  rw[zW] at e1 e2;split at e1<;>split at e2
  .rename_i a1 a2;rw[<-a1,<-a2]
  .rename_i a1 a2;subst a1;rw[hl] at m1;cases m1;exact absurd hcb.symm (hu b2 x' l2 e2 n2 m2)
  .rename_i a1 a2;subst a2;rw[hl] at m2;cases m2;exact absurd hcb (hu b1 x l1 e1 n1 m1)
  .exact S.inj b1 b2 x x' l1 l2 e1 n1 e2 n2 m1 m2 hcb
 fresh b' hb:=S.fresh b' (BQ hb)
 glob:=S.glob
def Gh.freeze (g:Gh)(cb:Nat)(o:Obj):Gh := { g with M:=fun x=>if x=cb then some o else g.M x }
theorem Gh.freeze_le {g:Gh}(h:g.M cb=none):g.le (g.freeze cb o) :=
 ⟨fun k c hk=>by simp only[Gh.freeze];split<;>simp_all,fun _ _ h=>h,rfl,rfl,rfl,rfl⟩
theorem ck.freeze {E:Env}{g:Gh}{h:List bO}{w:World}(S:ck E g h w){cb:Nat}{o:Obj}(K:w.heap[cb]?=some o)(C:g.M cb=none)(q:WA g h cb) :
  ck E (g.freeze cb o) h w:=by
 have hle:=Gh.freeze_le (o:=o) C;have c:∀l,g.M l=none->l≠cb->(g.freeze cb o).M l=none:=fun l A B=>by simp only[Gh.freeze];rw[if_neg B];exact A
 exact {
  os:=S.os,tape:=S.tape,output:=S.output
  lo:=fun g0 hk=>(S.lo g0 hk).trans hle.toM
  fro:=by
   intro k F hk;simp only[Gh.freeze] at hk;split at hk
   .simp_all
   .exact S.fro k F hk
  live:=by
   intro b k J d;obtain⟨l,c',e',q1,q2,q3,q4,q5,q6,q7,G⟩:=S.live b k J d;exact⟨l,c',e',q1,q2,c _ q3 (q b _ l d BA q1),q4,q5,q6,q7,fun i j row v H I=>let ⟨cv,s1,s2⟩:=G i j row v H I;⟨cv,s1,s2.mono hle⟩⟩
  obj:=by
   intro b x d p;obtain⟨l,o,q1,q2,q3,q4,q5,q6⟩:=S.obj b x d p;exact⟨l,o,q1,q2,q3,c _ q4 (q b _ l d (by rintro rfl;cases p) q1),q5,q6.mono fun _ _ r=>r.mono hle⟩
  inj:=S.inj
  fresh:=S.fresh
  glob:=fun n=>(S.glob n).mono hle.M }
theorem ck.unowned_new {E:Env}{g:Gh}{h:List bO}(S:ck E g h w)(d:w.heap.size<=cb):WA g h cb/\g.M cb=none:=by
 constructor
 .intro b x l B H A q
  cases x with
  | dead=>exact H rfl
  | live k J =>
    obtain⟨I,c,e,p,_,_,C,_⟩:=S.live b k J B;rw[A] at p;cases p;rw[q,Array.getElem?_eq_none d] at C;cases C
  | _ =>
    obtain⟨I,o,p,_,_,_,F,_⟩:=S.obj b _ B rfl;rw[A] at p;cases p;rw[q,Array.getElem?_eq_none d] at F;cases F
 .cases G:g.M cb with
  | none=>rfl
  | some o=>have:=S.fro_ne G;omega
structure Grew (w w':World) (o:Obj):Prop where
 os:w'.os=w.os
 tape:w'.tape=w.tape
 output:w'.output=w.output
 heap:w'.heap=w.heap.push o
theorem ck.grew {E:Env}{g:Gh}{h:List bO}{w':World}(S:ck E g h w)(d:Grew w w' o):ck E g h w'/\w'.heap[w.heap.size]?=some o:=by
 refine⟨S.world d.os d.tape d.output fun k hk=>?_,by rw[d.heap];simp⟩
 have c:k<w.heap.size:=by
  rcases zC k w.heap.size with c|l
  .exact c
  .obtain⟨q,A⟩:=S.unowned_new l
   rcases hk with⟨B,p⟩|hk
   .rw[A] at p;cases p
   .exact absurd q hk
 rw[d.heap,Array.getElem?_push,if_neg U]
theorem ck.new {E:Env}{g:Gh}{h:List bO}{w w':World}{c:Array Value}{e:TypeId}{k:Nat}{xs:List (List AV)}(S:ck E g h w)(q:Grew w w' (.cells c e (0,0)))
  (p:Q7 g c 0 k xs):ck E (g.adopt h.length ⟨w.heap.size,0,k,c.size⟩) (h++[.live k xs]) w'/\g.le (g.adopt h.length ⟨w.heap.size,0,k,c.size⟩):=by
 obtain⟨d,l⟩:=S.grew q;obtain⟨A,B⟩:=S.unowned_new (jF _);exact⟨d.adopt l B A p,Gh.adopt_le (S.fresh _ (jF _))⟩
theorem ck.newF {E:Env}{g:Gh}{h:List bO}{w':World}(S:ck E g h w)(p:Grew w w' o):
  ck E (g.freeze w.heap.size o) h w'/\g.le (g.freeze w.heap.size o)/\(g.freeze w.heap.size o).M w.heap.size=some o:=by
 obtain⟨d,l⟩:=S.grew p;obtain⟨q,c⟩:=S.unowned_new (jF _);exact⟨d.freeze l c q,Gh.freeze_le c,by simp [Gh.freeze]⟩
structure Wrote (w w':World) (cb:Nat) (e:TypeId) (c c':Array Value) (off:Nat) (vs:List Value):Prop where
 os:w'.os=w.os
 tape:w'.tape=w.tape
 output:w'.output=w.output
 here:w'.heap[cb]?=some (.cells c' e (0,0))
 size:c'.size=c.size
 cells:∀j,c'[j]?=if off<=j/\j<off+vs.length then vs[j-off]? else c[j]?
 else_:∀k,k≠cb->w'.heap[k]?=w.heap[k]?
theorem RH (P:Program)(cb off:Nat)(e:TypeId):∀(p:List Value) (i:Nat) (w:World) (c:Array Value),w.heap[cb]?=some (.cells c e (0,0))->off+i+p.length<=c.size ->
  (∀v∈p,v.oneCell'=true)->∃w' C,(storeCells ⟨cb,off,none⟩ p i).run P w=.ok () w'/\Wrote w w' cb e c C (off+i) p
 | [],i,w,c,B,_,_=>⟨w,c,by simp [storeCells],⟨rfl,rfl,rfl,B,rfl,fun j=>by rw[if_neg BA],fun _ _=>rfl⟩⟩
 | v::p,i,w,c,B,q,G=>by
   simp only[zF] at q
   have g:w.cell? ⟨cb,off+i,none⟩=some (c[off+i]'U):=by
    simp [World.cell?,B]
   have E:w.frozen? ⟨cb,off+i,none⟩=false:=by simp [World.frozen?,B]
   have l:(store ((Addr.mk cb off none).add i) v).run P w=.ok () (w.setCell ⟨cb,off+i,none⟩ v):=by
    rw[addr_add,run_store P w _ v .plain (G v BA),g];simp [E]
   have F:(w.setCell ⟨cb,off+i,none⟩ v).heap[cb]?=some (.cells (c.setIfInBounds (off+i) v) e (0,0)):=by
    simp [World.setCell,Array.getElem?_modify,B]
   obtain⟨w',C,A,d⟩:=RH P cb off e p (i+1) _ _ F NI (fun u H=>G u (by simp [H]));refine⟨w',C,?_,?_⟩
   .simp only[storeCells,Sem.run_bind,l,Result.andThen_ok,A]
   .exact {
    os:=d.os,tape:=d.tape,output:=d.output,here:=d.here
    size:=by rw[d.size];simp
    cells:=by
     intro j;rw[d.cells j];simp only[zF];by_cases h2:off+(i+1)<=j/\j<off+(i+1)+p.length
     .grind
     .grind
    else_:=by
     intro k hk;rw[d.else_ k hk];simp only[World.setCell,Array.getElem?_modify]
     rw[if_neg (by simpa using fun h=>hk h.symm)] }
theorem ck.write {E:Env}{g:Gh}{h:List bO}{w w':World}{b k:Nat}{xs p:List (List AV)}{l:Loc}{c B:Array Value}{e:TypeId}{off:Nat}{O:List Value}(S:ck E g h w)
  (C:h[b]?=some (.live k xs)) (q:g.μ b=some l) (d:Wrote w w' l.cb e c B off O) (A:c.size=l.sz) (L:Q7 g B l.co l.k p):ck E g (h.set b (.live l.k p)) w':=by
 have I:=S.kill b;have u:=PW S C BA q;obtain⟨T,Q,R,G,V,H,X,Y,_⟩:=S.live b k xs C;rw[q] at G;cases G
 have J:ck E g (h.set b .dead) w':=I.world d.os d.tape d.output fun N hk=>by
  refine d.else_ N fun K=>?_
  subst K;rcases hk with⟨o,F⟩|hk
  .rw[H] at F;cases F
  .exact hk u
 have:=J.revive q d.here (d.size.trans A) H u L;simpa using this
def rowAt (h:List bO):AV->Option (List AV×Nat)
 | .ptr b i j=>match h[b]? with
   | some (.live _ c)=>match c[i]? with
     | some row=>some (row,j)
     | none=>none
   | _=>none
 | .fptr _ c i j=>match c[i]? with
   | some row=>some (row,j)
   | none=>none
 | _=>none
theorem VI {o:Nat}{c:Array Value}{d:Nat×Nat}(h:w.heap[cb]?=some (.cells c e d)):w.cell? ⟨cb,o,none⟩=c[o]? := by simp [World.cell?,h]
theorem AY {α:Type}{l:List α}{x:α}(h:l[i]?=some x):i<l.length:=by grind
theorem Vc {E:Env}{g:Gh}{h:List bO}{a:AV}{row:List AV}(S:ck E g h w)(C:Rep g a ca)(p:rowAt h a=some (row,j)):
  ∃cb q,ca=.pointer (some ⟨cb,q+j,none⟩)/\∀(j':Nat) (v:AV),row[j']?=some v->∃c,w.cell? ⟨cb,q+j',none⟩=some c/\Rep g v c:=by
 unfold rowAt at p;split at p
 .rename_i b i R
  split at p
  .rename_i k G N
   split at p
   .rename_i A d
    cases p;obtain⟨l,Q,rfl⟩:=C.ptr_inv;obtain⟨l',c,e,F,T,q3,V,q5,q6,q7,X⟩:=S.live b k G N;rw[Q] at F;cases F;refine⟨l.cb,l.co+i*l.k,rfl,fun j' v B=>?_⟩;obtain⟨cv,Y,Z⟩:=X i j' row v d B;exact⟨cv,by rw[VI V,T];exact Y,Z⟩
   .cases p
  .cases p
 .rename_i k G i R
  split at p
  .rename_i A d
   cases p
   cases C.fptr_inv with
   | fptr _ _ _ _ cb H c e fz cv I J K L =>
     refine⟨cb,H+i*k,rfl,fun j' v B=>?_⟩;have hk:=(J i row d).1;have O:j'<k:=hk▸AY B;exact⟨cv i j',by rw[VI (S.fro _ _ I)];exact K i j' (AY d) O,.fro (L i j' row v d B)⟩
  .cases p
 .cases p
def BR (P:Program)(h:List bO)(t:TypeId)(a:AV):Option AV :=
 match rowAt h a with
 | some (row,j)=>match KN P t with
   | some true=>match da P t with
     | some n=>if j+n<=row.length then some (.agg ((row.drop j).take n)) else none
     | none=>none
   | some false=>row[j]?
   | none=>none
 | none=>none
theorem qS {E:Env}{g:Gh}{h:List bO}{a v:AV}(S:ck E g h w)(d:BR E.P h t a=some v)(N:Rep g a ca):
  ∃cv,(Instr.loadAt t ca).run E.P w=.ok cv w/\Rep g v cv:=by
 unfold BR at d;split at d
 case h_2=>cases d
 rename_i row j C;obtain⟨cb,p,rfl,l⟩:=Vc S N C;split at d
 .rename_i A
  split at d
  .rename_i n L
   split at d
   .rename_i hle
    cases d
    have hex:∀i,i<n->∃c,w.cell? ⟨cb,p+j+i,none⟩=some c/\∀v,((row.drop j).take n)[i]?=some v->Rep g v c:=by
     intro i O;have B:j+i<row.length:=U;obtain⟨c,F,G⟩:=l (j+i) row[j+i] (by simp [B]);refine⟨c,by rw[Nat.add_assoc];exact F,fun v Q=>?_⟩;have:row[j+i]?=some v:=by simp_all
     rw[jP B] at this;cases this;exact G
    obtain⟨I,J,H⟩:=Hu hex;have q:=run_loadCells_list (P:=E.P) w ⟨cb,p+j,none⟩ I (fun i c K=>by rw[addr_add];exact(H i c K).1);rw[J] at q;refine⟨.agg I.toArray,?_,.agg _ _ (by simp [J];omega) ?_⟩
    .simp [Instr.loadAt,Instr.sureAddr,loadVar,OC A,E8 L,q]
    .grind
   .cases d
  .cases d
 .rename_i A
  obtain⟨c,F,G⟩:=l j v d;exact⟨c,by simp [Instr.loadAt,Instr.sureAddr,loadVar,OC A,F],G⟩
 .cases d
def JI:AV->Option (List AV)
 | .agg c=>if c.all AV.leaf then some c else none
 | .tup _=>none
 | .junk=>none
 | v=>some [v]
theorem TR {g:Gh}{v:AV}{cs:List AV}(h:JI v=some cs)(E:Rep g v cv):
  cv.cells.size=cs.length/\(∀(j:Nat) (x:AV),cs[j]?=some x->x.leaf=true)/\(∀(j:Nat) (x:AV) (c:Value),cs[j]?=some x->cv.cells[j]?=some c->Rep g x c/\c.oneCell'=true) /\
  ∀c∈cv.cells.toList,c.oneCell'=true:=by
 have one:v.leaf=true->cs=[v]->cv.cells.size=cs.length/\(∀(j:Nat) (x:AV),cs[j]?=some x->x.leaf=true)/\(∀(j:Nat) (x:AV) (c:Value),cs[j]?=some x->cv.cells[j]?=some c->Rep g x c/\c.oneCell'=true) /\
  ∀c∈cv.cells.toList,c.oneCell'=true:=by
  intro F e;subst e;obtain⟨B,q⟩:=E.leaf_one F;rw[q];refine⟨rfl,?_,?_,?_⟩
  .grind
  .grind
  .simp_all
 cases v<;>simp [JI] at h<;>first|exact one rfl h.symm|skip
 obtain⟨h,rfl⟩:=h;rename_i cs;obtain⟨G,rfl,B,q⟩:=E.agg_inv
 have d:∀(j:Nat) (x:AV) (c:Value),cs[j]?=some x->(Value.agg G).cells[j]?=some c->Rep g x c/\c.oneCell'=true:=by
  intro j x c d A;have p:=q j x c d A;exact⟨p,(p.leaf_one (h x (qC d))).1⟩
 refine⟨B,fun j x d=>h x (qC d),d,fun c A=>?_⟩;obtain⟨j,C,l⟩:=qR A;simp only[Value.cells,Array.length_toList] at C;have:j<cs.length:=U;exact(d j cs[j] c (by simp [this]) (by simp only[Value.cells] at l|-;rw[<-l];simp [C])).2
def splice (row:List AV)(j:Nat)(cs:List AV):List AV:=row.take j++cs++row.drop (j+cs.length)
theorem dO (row:List AV)(j:Nat)(cs:List AV)(h:j+cs.length<=row.length)(i:Nat):
  (splice row j cs)[i]?=if j<=i/\i<j+cs.length then cs[i-j]? else row[i]? := by
 unfold splice;rw[zA,List.getElem?_append];simp only[jT,Nat.min_eq_left (U:j<=row.length)];split
 .grind
 .grind
theorem cT (row:List AV)(j:Nat)(cs:List AV)(h:j+cs.length<=row.length):(splice row j cs).length=row.length:=by
 simp [splice];omega
def D7 (P:Program)(h:List bO)(t:TypeId)(a v:AV):Option (List bO) :=
 match a with
 | .ptr b i j=>match h[b]? with
   | some (.live k d)=>match d[i]? with
     | some row=>match JI v with
       | some c=>if da P t=some c.length/\j+c.length<=row.length then some (h.set b (.live k (d.set i (splice row j c)))) else none
       | none=>none
     | none=>none
   | _=>none
 | _=>none
theorem Vf {i' j':Nat}(l:j<k)(c:j'<k)(h:i*k+j=i'*k+j'):i=i'/\j=j':=by
 have d:(i*k+j)/k=i:=by rw[Nat.mul_comm,Nat.mul_add_div U,Nat.div_eq_of_lt l];omega
 have g:(i'*k+j')/k=i':=by rw[Nat.mul_comm,Nat.mul_add_div U,Nat.div_eq_of_lt c];omega
 rw[h] at d;have:i=i':=d.symm.trans g;subst this;exact⟨rfl,U⟩
theorem SZ {E:Env}{g:Gh}{h Y:List bO}{a v:AV}(S:ck E g h w)(q:D7 E.P h t a v=some Y)(hr:Rep g a ca)(hv:Rep g v cv):
  ∃w',(Instr.storeAt t ca cv).run E.P w=.ok () w'/\ck E g Y w':=by
 unfold D7 at q;split at q
 case h_2=>cases q
 rename_i b i j;split at q
 case h_2=>cases q
 rename_i k N hb;split at q
 case h_2=>cases q
 rename_i row B;split at q
 case h_2=>cases q
 rename_i X O;split at q
 case isFalse=>cases q
 rename_i hc;obtain⟨T,hle⟩:=hc;cases q;obtain⟨l,hl,rfl⟩:=hr.ptr_inv;obtain⟨l',c,e,q1,q2,q3,q4,q5,q6,L,q8⟩:=S.live b k N hb;rw[hl] at q1;cases q1;subst q2;obtain⟨V,a2,a3,a4⟩:=TR O hv;have R:=(L i row B).1;have hi:=AY B
 have a0:i*l.k+l.k<=N.length*l.k:=by
  have:=wO l.k (U:i+1<=N.length);rw[qM,Nat.one_mul] at this;exact this
 have A:cv.cells.toList.length=X.length:=BQ V;obtain⟨w',c',I,K⟩:=RH E.P l.cb (l.co+i*l.k+j) e cv.cells.toList 0 w c q4 (by rw[A];omega) a4;have J:da E.P t=some cv.cells.size:=by rw[V];exact T
 refine⟨w',?_,S.write hb hl K q5 ?_⟩
 .simp [Instr.storeAt,Instr.sureAddr,storeVar,E8 J,I]
 .refine⟨by rw[K.size,q5];simpa using q6,?_,?_⟩
  .intro i' d p
   rw[zW] at p;split at p
   .rename_i F;subst F
    cases p;refine⟨by rw[cT _ _ _ U];exact R,fun j' x C=>?_⟩;rw[dO _ _ _ hle] at C;split at C
    .exact a2 _ x C
    .exact(L i row B).2 j' x C
   .exact L i' d p
  .intro i' j' d x p C
   rw[zW] at p
   have a6:∀d,N[i']?=some d->d[j']?=some x->¬(i'=i/\j<=j'/\j'<j+X.length)->∃G,c'[l.co+i'*l.k+j']?=some G/\Rep g x G:=by
    intro d Z h2 h3;have Q:j'<l.k:=(L i' d Z).1▸AY h2;rw[K.cells,A];rw[if_neg ?_]
    .exact q8 i' j' d x Z h2
    .intro hh
     have e1:l.co+i'*l.k+j'=l.co+i*l.k+(j+(l.co+i'*l.k+j'-(l.co+i*l.k+j+0))):=U;have e2:=Vf (k:=l.k) (i:=i') (j:=j') (i':=i) (j':=j+(l.co+i'*l.k+j'-(l.co+i*l.k+j+0))) Q U U;exact h3 ⟨e2.1,U,U⟩
   split at p
   .rename_i F;subst F
    cases p;rw[dO _ _ _ hle] at C;split at C
    .rename_i a5
     have H:j'-j<cv.cells.size:=U;refine⟨cv.cells[j'-j],?_,(a3 (j'-j) x _ C (by simp [H])).1⟩;rw[K.cells,A,if_pos U];have:l.co+i*l.k+j'-(l.co+i*l.k+j+0)=j'-j:=U;rw[this];simp [H]
    .simp_all
   .grind
theorem Xm {g:Gh}{cs:List AV}{c:Array Value}(l:c.size=cs.length)(h2:∀(j:Nat) (x:AV),cs[j]?=some x->x.leaf=true)
  (p:∀(j:Nat) (x:AV) (v:Value),cs[j]?=some x->c[j]?=some v->Rep g x v):Q7 g c 0 cs.length [cs]:=by
 refine⟨by simp [l],?_,?_⟩
 .intro i row d
  cases i<;>simp at d;subst d;exact⟨rfl,h2⟩
 .intro i j row v d h
  cases i<;>simp at d;subst d;have q:=AY h;refine⟨c[j]'U,BA,p j v _ h BA⟩
def OU (h:List bO)(v:AV):Option (AV×List bO) :=
 match JI v with
 | some c=>some (.ptr h.length 0 0,h++[.live c.length [c]])
 | none=>none
theorem fR {E:Env}{g:Gh}{h:List bO}{v:AV}{cs:List AV}(S:ck E g h w)(d:JI v=some cs)(F:Rep g v cv):
  ∃w' g',(newVar t cv).run E.P w=.ok ⟨w.heap.size,0,none⟩ w'/\Rep g' (.ptr h.length 0 0) (.pointer (some ⟨w.heap.size,0,none⟩))/\g.le g'/\ck E g' (h++[.live cs.length [cs]]) w':=by
 obtain⟨p,q,A,G⟩:=TR d F;obtain⟨l,hle⟩:=S.new (w':=w.alloc (.cells cv.cells t)) (c:=cv.cells) (e:=t) (k:=cs.length) (xs:=[cs]) ⟨rfl,rfl,rfl,rfl⟩ (Xm p q fun j x v B C=>(A j x v B C).1);refine⟨_,_,?_,?_,hle,l⟩
 .simp [newVar,newRow]
 .have:=Rep.ptr (g:=g.adopt h.length ⟨w.heap.size,0,cs.length,cv.cells.size⟩) h.length 0 0 _ (show _=some _ by simp [Gh.adopt];rfl)
  simpa using this
theorem Zf {E:Env}{g:Gh}{h q:List bO}{v r:AV}(S:ck E g h w)(l:OU h v=some (r,q))(C:Rep g v cv):
  ∃c w' g',(Instr.box t cv).run E.P w=.ok c w'/\Rep g' r c/\g.le g'/\ck E g' q w':=by
 unfold OU at l;split at l
 .rename_i F p
  cases l;obtain⟨w',g',d,B,hle,A⟩:=fR (t:=t) S p C;exact⟨_,w',g',by simp [Instr.box,d],B,hle,A⟩
 .cases l
def mG:Value->AV
 | .int k n=>.int k n
 | .bool b=>.bool b
 | .string s=>.str s
 | .slice none 0 0=>.sl .nil 0 []
 | .pointer none=>.nilp
 | .nilFunc=>.nilfn
 | .nilIface=>.nilifc
 | .map none=>.nilmp
 | _=>.junk
def ZN:Value->AV
 | .agg c=>.agg (c.toList.map mG)
 | .tuple c=>.tup (c.toList.map mG)
 | v=>mG v
theorem kY (M:Nat->Option Obj)(v:Value):cw M (mG v) v:=by
 unfold mG;split<;>constructor
theorem hQ (M:Nat->Option Obj)(v:Value):cw M (ZN v) v:=by
 unfold ZN;split
 .refine .agg _ _ BA fun i v cv c d=>?_
  simp at c;obtain⟨a,c,rfl⟩:=c;rw[c] at d;cases d;exact kY M _
 .refine .tup _ _ BA fun i v cv c d=>?_
  simp at c;obtain⟨a,c,rfl⟩:=c;rw[c] at d;cases d;exact kY M _
 .exact kY M _
def H9 (P:Program)(h:List bO)(t:TypeId):Option (AV×List bO) :=
 match ZO P t with
 | some z=>OU h (ZN z)
 | none=>none
theorem Uj {E:Env}{g:Gh}{h q:List bO}{r:AV}(S:ck E g h w)(d:H9 E.P h t=some (r,q)):
  ∃c w' g',(Instr.alloc t true (.tuple #[])).run E.P w=.ok c w'/\Rep g' r c/\g.le g'/\ck E g' q w':=by
 unfold H9 at d;split at d
 .rename_i z C
  unfold OU at d;split at d
  .rename_i F p
   cases d;obtain⟨w',g',l,B,hle,A⟩:=fR (t:=t) S p (.fro (hQ g.M z));exact⟨_,w',g',by simp [Instr.alloc,MG C,l],B,hle,A⟩
  .cases d
 .cases d
def BM (P:Program)(t:TypeId)(a:AV)(f:Nat):Option AV :=
 match P.underlying t with
 | some (.struct c)=>match c[f]? with
   | some fl=>match da P fl.type with
     | some (_+1)=>match a with
       | .ptr b i j=>some (.ptr b i (j+fl.offset))
       | .fptr k d i j=>some (.fptr k d i (j+fl.offset))
       | _=>none
     | _=>none
   | none=>none
 | _=>none
theorem rM {xs:List (List AV)}(h:cw M (.fptr k xs i j) cv):
  ∃cb o,cv=.pointer (some ⟨cb,o,none⟩)/\cw M (.fptr k xs i (j+n)) (.pointer (some ⟨cb,o+n,none⟩)):=by
 cases h with
 | fptr _ _ _ _ cb d c e g cv l p q A =>
   exact⟨cb,_,rfl,by have:=cw.fptr k xs i (j+n) cb d c e g cv l p q A;rwa [<-Nat.add_assoc] at this⟩
theorem mX {g:Gh}{a v:AV}{f:Nat}(c:BM P t a f=some v)(q:Rep g a ca):
  ∃cv,(Instr.fieldAt t ca f).run P w=.ok cv w/\Rep g v cv:=by
 unfold BM at c;split at c
 case h_2=>cases c
 rename_i d A;split at c
 case h_2=>cases c
 rename_i fl h;split at c
 case h_2=>cases c
 rename_i n p;split at c
 .cases c
  obtain⟨l,C,rfl⟩:=q.ptr_inv;refine⟨_,by simp [Instr.fieldAt,CU A,h,Instr.sureAddr,fieldPlace,E8 p,addr_add];rfl,?_⟩;rw[Nat.add_assoc];exact .ptr _ _ _ l C
 .cases c
  obtain⟨cb,o,rfl,B⟩:=rM (n:=fl.offset) q.fptr_inv;exact⟨_,by simp [Instr.fieldAt,CU A,h,Instr.sureAddr,fieldPlace,E8 p,addr_add],.fro B⟩
 .cases c
def FC (P:Program)(h:List bO)(t:TypeId)(a d:AV):Option AV :=
 match d with
 | .int _ i=>match P.underlying t with
   | some (.slice e)=>match a with
     | .sl _ k c=>if da P e=some k/\0<=i/\i<(c.length:Int) then some (.fptr k c i.toNat 0) else none
     | .own b off len=>match h[b]? with
       | some (.live k _)=>if da P e=some k/\0<=i/\i<(len:Int) then some (.ptr b (off+i.toNat) 0) else none
       | _=>none
     | _=>none
   | some (.array n e)=>match da P e with
     | some s=>if 0<=i/\i<(n:Int) then match a with
       | .ptr b r j=>some (.ptr b r (j+i.toNat*s))
       | .fptr k c r j=>some (.fptr k c r (j+i.toNat*s))
       | _=>none
       else none
     | none=>none
   | _=>none
 | _=>none
theorem mW {E:Env}{g:Gh}{h:List bO}{a N v:AV}(S:ck E g h w)(d:FC E.P h t a N=some v)(F:Rep g a ca)(X:Rep g N ci):
  ∃cv,(Instr.indexAt t ca ci).run E.P w=.ok cv w/\Rep g v cv:=by
 unfold FC at d;split at d
 case h_2=>cases d
 rename_i kk i;rw[X.int_inv];split at d
 .rename_i e C
  split at d
  .rename_i m k G
   split at d
   case isFalse=>cases d
   rename_i A;obtain⟨hk,q,p⟩:=A;cases d;have B:G≠[]:=by intro Y;subst Y;simp at p;omega
   cases F.sl_inv with
   | nil=>exact absurd rfl B
   | empty=>exact absurd rfl B
   | sl _ _ _ cb I c J R cap cv H q2 Q q4 q5 q6 q7 q8 =>
     refine⟨.pointer (some ⟨cb,I+i.toNat*k,none⟩),?_,.fro ?_⟩
     .simp [Instr.indexAt,asIntOf,CU C,q,p,E8 hk,addr_add]
     .have:=cw.fptr k G i.toNat 0 cb I c J R cv Q q4 q5 q6
      simpa using this
  .rename_i b off len
   split at d
   case h_2=>cases d
   rename_i k G V;split at d
   case isFalse=>cases d
   rename_i A;obtain⟨hk,q,p⟩:=A;cases d;rcases F.own_inv with⟨l,cap,H,q2,Q,rfl⟩|⟨K,_⟩
   .obtain⟨l',c,J,O,Z,_⟩:=S.live b k G V
    rw[H] at O;cases O;refine⟨.pointer (some ⟨l.cb,l.co+off*l.k+i.toNat*k,none⟩),?_,?_⟩
    .simp [Instr.indexAt,asIntOf,CU C,q,p,E8 hk,addr_add]
    .have:=Rep.ptr (g:=g) b (off+i.toNat) 0 l H
     rw[qM] at this;rw[<-Z];simpa [Nat.add_assoc] using this
   .omega
  .cases d
 .rename_i n e C
  split at d
  case h_2=>cases d
  rename_i s L;split at d
  case isFalse=>cases d
  rename_i A;obtain⟨q,p⟩:=A;split at d
  .cases d
   obtain⟨l,K,rfl⟩:=F.ptr_inv;refine⟨_,by simp [Instr.indexAt,Instr.sureAddr,asIntOf,CU C,q,p,E8 L,addr_add];rfl,?_⟩;rw[Nat.add_assoc];exact .ptr _ _ _ l K
  .cases d
   obtain⟨cb,o,rfl,T⟩:=rM (n:=i.toNat*s) F.fptr_inv;exact⟨_,by simp [Instr.indexAt,Instr.sureAddr,asIntOf,CU C,q,p,E8 L,addr_add],.fro T⟩
  .cases d
 .cases d
structure Flat (g:Gh) (k:Nat) (xs:List (List AV)) (cs:List Value):Prop where
 len:cs.length=xs.length*k
 rows:ZX k xs
 get:∀(i j:Nat) (row:List AV) (v:AV),xs[i]?=some row->row[j]?=some v->∃cv,cs[i*k+j]?=some cv/\Rep g v cv
 one:∀c∈cs,c.oneCell'=true
theorem Flat.nil (g:Gh)(k:Nat):Flat g k [] []:=⟨BA,fun _ _ h=>by simp at h,fun _ _ _ _ h=>by simp at h,BA⟩
theorem Flat.mono {g g':Gh}(c:g.le g'){k:Nat}{xs:List (List AV)}{cs:List Value}(h:Flat g k xs cs):Flat g' k xs cs :=
 ⟨h.len,h.rows,fun i j row v a b=>let ⟨cv,p,q⟩:=h.get i j row v a b;⟨cv,p,q.mono c⟩,h.one⟩
theorem dB {g:Gh}{w:World}{k cb co:Nat}{xs:List (List AV)}(I:ZX k xs)
  (p:∀(i j:Nat) (row:List AV) (v:AV),xs[i]?=some row->row[j]?=some v->∃c,w.cell? ⟨cb,co+i*k+j,none⟩=some c/\Rep g v c) :
  ∃cs,Flat g k xs cs/\∀(j:Nat) (v:Value),cs[j]?=some v->w.cell? ⟨cb,co+j,none⟩=some v:=by
 have hex:∀n,n<xs.length*k->∃c,w.cell? ⟨cb,co+n,none⟩=some c/\∃row v,xs[n/k]?=some row/\row[n%k]?=some v/\Rep g v c:=by
  intro n H
  have hk:0<k:=by rcases Nat.eq_zero_or_pos k with h|h;· subst h;simp at H
                  .exact h
  have R:n/k<xs.length:=Nat.div_lt_of_lt_mul (by rw[Nat.mul_comm];exact H);have S:n%k<k:=wI _ hk;have d:xs[n/k]?=some xs[n/k]:=by simp [R]
  have G:=(I _ _ d).1;have L:(xs[n/k])[n%k]?=some ((xs[n/k])[n%k]'U):=by simp [G,S]
  obtain⟨c,q,F⟩:=p _ _ _ _ d L;have e:co+n/k*k+n%k=co+n:=by rw[Nat.add_assoc,Nat.div_add_mod']
  exact⟨c,by rw[<-e];exact q,_,_,d,L,F⟩
 obtain⟨cs,G,l⟩:=Hu hex;refine⟨cs,⟨G,I,fun i j row v q F=>?_,fun c Q=>?_⟩,fun j v h=>(l j v h).1⟩
 .have K:j<k:=(I i row q).1▸AY F
  have V:=AY q
  have A:i*k+j<cs.length:=by
   rw[G];have:=wO k (U:i+1<=xs.length);rw[qM,Nat.one_mul] at this;omega
  refine⟨cs[i*k+j],by simp [A],?_⟩;obtain⟨_,B,T,C,E,J⟩:=l (i*k+j) cs[i*k+j] (by simp [A]);have N:(i*k+j)/k=i:=by rw[Nat.mul_comm,Nat.mul_add_div U,Nat.div_eq_of_lt K];omega
  have O:(i*k+j)%k=j:=by rw[Nat.mul_comm,Nat.mul_add_mod,Nat.mod_eq_of_lt K]
  rw[N,q] at C;cases C;rw[O,F] at E;cases E;exact J
 .obtain⟨n,H,rfl⟩:=qR Q
  obtain⟨_,B,T,C,E,J⟩:=l n cs[n] (by simp [H]);exact(J.leaf_one ((I _ _ C).2 _ _ E)).1
theorem Flat.append {g:Gh}{xs ys:List (List AV)}{cs ds:List Value}(h1:Flat g k xs cs)(h2:Flat g k ys ds):Flat g k (xs++ys) (cs++ds) where
 len:=by simp [h1.len,h2.len,qM]
 rows i row h:=by
  rw[List.getElem?_append] at h;split at h
  .exact h1.rows i row h
  .exact h2.rows _ row h
 get i j row v hr hv:=by
  rw[List.getElem?_append] at hr;split at hr
  .obtain⟨cv,a,b⟩:=h1.get i j row v hr hv
   exact⟨cv,by rw[List.getElem?_append_left (AY a)];exact a,b⟩
  .rename_i hi
   obtain⟨cv,a,b⟩:=h2.get _ j row v hr hv;refine⟨cv,?_,b⟩
   have e:i*k+j=cs.length+((i-xs.length)*k+j):=by
    rw[h1.len,<-Nat.add_assoc,<-qM];congr 2;omega
   rw[e,List.getElem?_append_right U];simpa using a
 one c hc:=by
  rcases zQ.1 hc with h|h
  .exact h1.one c h
  .exact h2.one c h
theorem Flat.holds {g:Gh}{k co:Nat}{xs:List (List AV)}{cs:List Value}{arr:Array Value}(h:Flat g k xs cs)(q:co+cs.length<=arr.size)
  (p:∀(j:Nat) (c:Value),cs[j]?=some c->arr[co+j]?=some c):Q7 g arr co k xs :=
 ⟨by rw[<-h.len];exact q,h.rows,fun i j row v d l=>let ⟨cv,a,b⟩:=h.get i j row v d l;⟨cv,by rw[Nat.add_assoc];exact p _ _ a,b⟩⟩
def JR (h:List bO):AV->Option (Nat×List (List AV))
 | .sl _ k c=>some (k,c)
 | .own b off len=>match h[b]? with
   | some (.live k c)=>if off+len<=c.length then some (k,(c.drop off).take len) else none
   | _=>none
 | _=>none
theorem VW {E:Env}{g:Gh}{h:List bO}{a:AV}{xs:List (List AV)}(S:ck E g h w)(L:Rep g a ca)(A:JR h a=some (k,xs)):
  ∃p cap,ca=.slice p xs.length cap/\xs.length<=cap/\((p=none/\xs=[]/\cap=0)\/∃K cs,p=some K/\Flat g k xs cs/\∀(j:Nat) (v:Value),cs[j]?=some v->w.cell? (K.add j)=some v):=by
 unfold JR at A;split at A
 .cases A
  cases L.sl_inv with
  | nil=>exact⟨none,0,rfl,jF _,.inl ⟨rfl,rfl,rfl⟩⟩
  | empty m k a cap=>exact⟨some a,cap,rfl,qN _,.inr ⟨a,[],rfl,Flat.nil g k,BA⟩⟩
  | sl _ _ _ cb co c e fz cap cv O Q R T q5 q6 q7 q8 =>
    obtain⟨cs,H,I⟩:=dB (g:=g) (w:=w) (cb:=cb) (co:=co) T fun i j row v C G =>
     ⟨cv i j,by rw[VI (S.fro _ _ R)];exact q5 i j (AY C) ((T i row C).1▸AY G),.fro (q6 i j row v C G)⟩
    exact⟨_,cap,rfl,q7,.inr ⟨_,cs,rfl,H,fun j v J=>by rw[addr_add];exact I j v J⟩⟩
 .rename_i b off len
  split at A
  case h_2=>cases A
  rename_i k' d X;split at A
  case isFalse=>cases A
  rename_i hle;cases A;have B:((d.drop off).take len).length=len:=by simp;omega
  obtain⟨F,c,e,N,Z,p3,p4,p5,p6,p7,p8⟩:=S.live b k d X;have sub:∀i row,((d.drop off).take len)[i]?=some row->d[off+i]?=some row:=by grind
  rw[B];rcases L.own_inv with⟨l,cap,O,Q,R,rfl⟩|⟨V,q,rfl⟩
  .rw[O] at N;cases N
   subst Z
   obtain⟨cs,H,I⟩:=dB (g:=g) (w:=w) (cb:=F.cb) (co:=F.co+off*F.k) (k:=F.k) (xs:=(d.drop off).take len) (fun i row Y=>p7 _ row (sub i row Y)) fun i j row v C G=>by
    obtain⟨cv,s1,s2⟩:=p8 _ j row v (sub i row C) G;refine⟨cv,?_,s2⟩;rw[VI p4,<-s1,qM];congr 1;omega
   exact⟨_,cap,rfl,Q,.inr ⟨_,cs,rfl,H,fun j v J=>by rw[addr_add];exact I j v J⟩⟩
  .subst V
   exact⟨_,0,rfl,jF _,.inr ⟨q,[],rfl,by simp [Flat.nil],BA⟩⟩
 .cases A
def G8:Option AV->Option Nat->Option Nat
 | none,d=>d
 | some (.int _ i),_=>if 0<=i then some i.toNat else none
 | some _,_=>none
def IW (P:Program)(h:List bO)(t:TypeId)(x:AV)(lo g p:Option AV):Option AV :=
 match P.underlying t with
 | some .string=>match x,p with
   | .str s,none=>match G8 lo (some 0),G8 g (some s.size) with
     | some l,some u=>if l<=u/\u<=s.size then some (.str (s.extract l u)) else none
     | _,_=>none
   | _,_=>none
 | some (.slice e)=>match x with
   | .sl m k d=>match G8 lo (some 0),G8 g (some d.length) with
     | some l,some u=>match p with
       | none=>if da P e=some k/\l<=u/\u<=d.length then some (.sl (match m with|.nil=>.nil|.full=>if u=d.length then .full else .any|.any=>.any) k ((d.drop l).take (u-l))) else none
       | some q=>match G8 (some q) none with
         | some c=>if da P e=some k/\l<=u/\u<=c/\c<=d.length/\g.isSome=true then some (.sl (match m with|.nil=>.nil|_=>if u=c then .full else .any) k ((d.drop l).take (u-l))) else none
         | none=>none
     | _,_=>none
   | .own b off len=>match G8 lo (some 0),G8 g (some len),p with
     | some l,some u,none=>match h[b]? with
       | some (.live k _)=>if da P e=some k/\l<=u/\u<=len then some (.own b (off+l) (u-l)) else none
       | _=>none
     | _,_,_=>none
   | _=>none
 | _=>none
theorem PY {g:Gh}{x:AV}{d:Option Nat}{u y:Nat}(w:World)(c:BoundsCode)(h:G8 (some x) d=some u)(p:Rep g x cx)(q:u<=y):
  (Instr.sliceBound cx y c).run P w=.ok u w:=by
 cases x<;>simp only[G8] at h<;>first|(cases h;done)|skip
 rename_i k i;split at h
 .rename_i l
  cases h;rw[p.int_inv];have:i<=y:=U;simp [Instr.sliceBound,asIntOf,l,this]
 .cases h
theorem YJ {P:Program}{g:Gh}{lo A:Option AV}{d c:Option Value}{l u len cap:Nat}(w:World)(sl:Bool)(B:(lo=none/\d=none)\/∃v cv,lo=some v/\d=some cv/\Rep g v cv)
  (q:(A=none/\c=none)\/∃v cv,A=some v/\c=some cv/\Rep g v cv) (h:G8 lo (some 0)=some l) (h2:G8 A (some len)=some u) (p:l<=u) (H:u<=len) (G:len<=cap) :
  (Instr.sliceBounds sl len cap d c none).run P w=.ok (l,u,cap) w:=by
 rcases B with⟨rfl,rfl⟩|⟨v,cv,rfl,rfl,C⟩<;>rcases q with⟨rfl,rfl⟩|⟨I,F,rfl,rfl,E⟩
 .simp [G8] at h h2;subst h h2;simp [Instr.sliceBounds]
 .simp [G8] at h;subst h;simp [Instr.sliceBounds,PY w _ h2 E (U:u<=cap)]
 .have:=PY (P:=P) w .sliceB h C p
  simp [G8] at h2;subst h2;simp [Instr.sliceBounds,this]
 .simp [Instr.sliceBounds,PY w _ h2 E (U:u<=cap),PY w _ h C p]
theorem Tf {P:Program}{g:Gh}{lo q:Option AV}{h d:Option Value}{J:AV}{F:Value}{l u c len cap:Nat}(w:World)(sl:Bool)(C:(lo=none/\h=none)\/∃v cv,lo=some v/\h=some cv/\Rep g v cv)
  (B:(q=none/\d=none)\/∃v cv,q=some v/\d=some cv/\Rep g v cv) (I:Rep g J F) (A:G8 lo (some 0)=some l) (h2:G8 q (some len)=some u) (G:G8 (some J) none=some c) (N:q.isSome=true)
  (E:l<=u) (p:u<=c) (H:c<=cap):(Instr.sliceBounds sl len cap h d (some F)).run P w=.ok (l,u,c) w:=by
 rcases B with⟨rfl,rfl⟩|⟨Q,L,rfl,rfl,K⟩
 .simp at N
 rcases C with⟨rfl,rfl⟩|⟨v,cv,rfl,rfl,O⟩
 .simp [G8] at A;subst A;simp [Instr.sliceBounds,PY w _ h2 K p,PY w _ G I H]
 .simp [Instr.sliceBounds,PY w _ h2 K p,PY w _ G I H,PY w _ A O E]
theorem Hx {M:Nat->Option Obj}{m m':SM}{k l u c cap len:Nat}{xs:List (List AV)}{p:Option Addr}(h:cw M (.sl m k xs) (.slice p len cap))(Q:l<=u)(C:u<=xs.length)(R:u<=c)(N:c<=cap)
  (B:m'=.nil↔m=.nil) (F:m'=.full->c=u):cw M (.sl m' k ((xs.drop l).take (u-l))) (.slice (if c=l then p else p.map (·.add (l*k))) (u-l) (c-l)):=by
 have d:((xs.drop l).take (u-l)).length=u-l:=by simp;omega
 cases h with
 | nil => simp at C;have:m'=.nil:=B.2 rfl;subst this;subst C;have:l=0:=U
          subst this;have:c=0:=U;subst this;exact .nil k
 | empty _ _ a _ K Z =>
   simp at C;subst C;have:l=0:=U;subst this;have e:(if c=0 then some a else (some a).map (·.add (0*k)))=some a:=by simp [Addr.add]
   rw[e];simp;exact .empty m' k a c (fun h=>K (B.1 h)) (fun h=>F h)
 | sl _ _ _ cb q H e I _ cv q1 G T V X Y q7 q8 =>
   by_cases hemp:u=l
   .subst hemp
    simp;refine(?_:cw M (.sl m' k []) (.slice (if c=u then some ⟨cb,q,none⟩ else some ((Addr.mk cb q none).add (u*k))) 0 (c-u)));have:∃a,(if c=u then some (Addr.mk cb q none) else some ((Addr.mk cb q none).add (u*k)))=some a:=by split<;>exact⟨_,rfl⟩
    obtain⟨a,L⟩:=this;rw[L];exact .empty m' k a _ (fun h=>G (B.1 h)) (fun h=>by have:=F h;omega)
   .have E:c≠l:=U
    rw[if_neg E];simp only[Option.map_some,addr_add];have g:∀i row,((xs.drop l).take (u-l))[i]?=some row->xs[l+i]?=some row:=by grind
    have:=cw.sl (M:=M) m' k ((xs.drop l).take (u-l)) cb (q+l*k) H e I (c-l) (fun i j=>cv (l+i) j) (by intro J;rw[J] at d;simp at d;omega) (fun h=>G (B.1 h)) T
     (fun i row A=>V _ row (g i row A)) (fun i j A O=>by rw[<-X (l+i) j U O];congr 1;rw[qM];omega)
     (fun i j row v A S=>Y _ j row v (g i row A) S) U (fun h=>by have:=F h;omega)
    rw[d] at this;exact this
theorem Sz {E:Env}{g:Gh}{h:List bO}{w:World}{t:TypeId}{x v:AV}{cx:Value}{lo hi mx:Option AV}{I H J:Option Value}(S:ck E g h w)(d:IW E.P h t x lo hi mx=some v)(N:Rep g x cx)
  (C:(lo=none/\I=none)\/∃v cv,lo=some v/\I=some cv/\Rep g v cv) (B:(hi=none/\H=none)\/∃v cv,hi=some v/\H=some cv/\Rep g v cv)
  (F:(mx=none/\J=none)\/∃v cv,mx=some v/\J=some cv/\Rep g v cv):∃cv,(Instr.sliceAt t cx I H J).run E.P w=.ok cv w/\Rep g v cv:=by
 unfold IW at d;split at d
 .rename_i O
  split at d
  case h_2=>cases d
  rename_i s;split at d
  case h_2=>cases d
  rename_i l u L K;split at d
  case isFalse=>cases d
  rename_i G;cases d;rcases F with⟨_,rfl⟩|⟨_,_,h,_⟩
  .rw[N.str_inv]
   refine⟨.string (s.extract l u),?_,.str _ _⟩;simp [Instr.sliceAt,Instr.slice,CU O,YJ w false C B L K G.1 G.2 (jF _)]
  .cases h
 .rename_i e O
  split at d
  .rename_i m k X
   split at d
   case h_2=>cases d
   rename_i l u L K
   have R:∃p cap,cx=.slice p X.length cap/\X.length<=cap/\(m=.full->cap=X.length):=by
    cases N.sl_inv with
    | nil=>exact⟨_,_,rfl,jF _,fun h=>by cases h⟩
    | empty _ _ a cap h1 h2=>exact⟨_,_,rfl,qN _,h2⟩
    | sl _ _ _ cb co c e fz cap cv Y q2 q3 q4 q5 q6 q7 q8=>exact⟨_,_,rfl,q7,q8⟩
   obtain⟨p,cap,rfl,Q,a0⟩:=R;split at d
   .split at d
    case isFalse=>cases d
    rename_i G;obtain⟨hk,A,V⟩:=G;cases d;rcases F with⟨_,rfl⟩|⟨_,_,h,_⟩
    .refine⟨_,by simp [Instr.sliceAt,Instr.slice,CU O,YJ w true C B L K A V Q,E8 hk],.fro (Hx N.sl_inv A V U (jF _) ?_ ?_)⟩
     .grind
     .grind
    .cases h
   .rename_i mv
    split at d
    case h_2=>cases d
    rename_i c Z;split at d
    case isFalse=>cases d
    rename_i G;obtain⟨hk,A,T,R,hs⟩:=G;cases d;rcases F with⟨h,_⟩|⟨_,cm,h,rfl,hm⟩
    .cases h
    .cases h
     refine⟨_,by simp [Instr.sliceAt,Instr.slice,CU O,Tf w true C B hm L K Z hs A T (U:c<=cap),E8 hk],.fro (Hx N.sl_inv A U T U ?_ ?_)⟩
     .cases m<;>simp<;>split<;>simp
     .grind
  .rename_i b off len
   split at d
   case h_2=>cases d
   rename_i l u L K;split at d
   case h_2=>cases d
   rename_i k X hb;split at d
   case isFalse=>cases d
   rename_i G;obtain⟨hk,A,a1⟩:=G;cases d;rcases F with⟨_,rfl⟩|⟨_,_,h,_⟩
   .rcases N.own_inv with⟨lc,cap,Y,q2,q3,rfl⟩|⟨h0,q,rfl⟩
    .obtain⟨l',c,e',p1,p2,_⟩:=S.live b k X hb
     rw[Y] at p1;cases p1;refine⟨_,by simp [Instr.sliceAt,Instr.slice,CU O,YJ w true C B L K A a1 q2,E8 hk];rfl,?_⟩;by_cases hcl:cap=l
     .subst hcl
      rw[if_pos rfl];have:u-cap=0:=U;rw[this];simp;exact .ownz _ _ _ _ Y
     .rw[if_neg hcl,addr_add,<-p2]
      have:=Rep.own (g:=g) b (off+l) (u-l) (cap-l) lc Y U (by rw[show off+l+(cap-l)=off+cap by omega];exact q3);rw[qM] at this;rw[Nat.add_assoc];exact this
    .subst h0
     have:u=0:=U;subst this;have:l=0:=U;subst this;refine⟨_,by simp [Instr.sliceAt,Instr.slice,CU O,YJ w true C B L K (jF _) (jF _) (jF _),E8 hk];rfl,.ownz _ _ _ _ N.own_dom.choose_spec⟩
   .cases h
  .cases d
 .cases d
def U5 (P:Program)(t:TypeId):Option Nat:=(ZO P t).map (·.cells.size)
def L8 (P:Program)(t:TypeId):Option Nat:=(P.info? t).map (·.bytes)
def room (n b:Nat):Prop:=n<=70368744177664/\n*b<=70368744177664
instance (n b:Nat):Decidable (room n b):=inferInstanceAs (Decidable (_/\_))
theorem JF (d:n<=16777216)(c:b<=4194304):room n b:=by
 have h:=Nat.mul_le_mul d c;exact⟨U,U⟩
theorem y5 {z:Nat}(c:da P t=some k)(h2:L8 P t=some b)(d:U5 P t=some z):
  ∃i v,P.info? t=some i/\i.size=k/\i.bytes=b/\i.zero=some v/\v.cells.size=z/\ZO P t=some v:=by
 unfold da L8 U5 ZO at *
 cases h:P.info? t with
 | none=>simp [h] at c
 | some i =>
   simp [h] at c h2 d;obtain⟨v,g,l⟩:=d;exact⟨i,v,rfl,c,h2,g,l,by simp [g]⟩
structure Src (P:Program) (w:World) (k:Nat) (x:Value) (news:List Value) (m:Nat):Prop where
 len:∀w',(Builtin.lenOf x).run P w'=.ok m w'
 cells:∀w',w'.heap=w.heap->(Builtin.firstCells k m x).run P w'=.ok news.toArray w'
def TC (P:Program)(h:List bO)(k:Nat)(t:TypeId)(x:AV):Option (List (List AV)) :=
 match P.underlying t with
 | some .string=>match x with
   | .str s=>if k=1 then some (s.data.toList.map fun b=>[.int .u8 b.toNat]) else none
   | _=>none
 | some (.slice _)=>match JR h x with
   | some (d,c)=>if c.length=0\/d=k then some c else none
   | none=>none
 | _=>none
theorem src_of {E:Env}{g:Gh}{h:List bO}{x:AV}{ys:List (List AV)}(S:ck E g h w)(l:TC E.P h k t x=some ys)(O:Rep g x cx):
  ∃A,Src E.P w k cx A ys.length/\Flat g k ys A/\∃d,E.P.underlying t=some d/\(d=.string\/∃e,d=.slice e):=by
 unfold TC at l;split at l
 .rename_i J
  split at l
  case h_2=>cases l
  rename_i s;split at l
  case isFalse=>cases l
  rename_i hk;subst hk;cases l;rw[O.str_inv];refine⟨s.data.toList.map fun b=>.int .u8 b.toNat,⟨fun B=>by simp [Builtin.lenOf],fun B _=>?_⟩,⟨BA,?_,?_,?_⟩,_,J,.inl rfl⟩
  .simp only[Builtin.firstCells,jI,Array.length_toList]
   have:(s.extract 0 s.data.size)=s:=ByteArray.extract_zero_size (b:=s);rw[this,Sem.run_pure];congr 1;apply Array.ext';simp
  .intro i row F
   simp at F;obtain⟨b,_,rfl⟩:=F;exact⟨rfl,fun j v G=>by cases j<;>simp at G;subst G;rfl⟩
  .intro i j row v F G
   simp at F;obtain⟨b,R,rfl⟩:=F;cases j<;>simp at G;subst G;exact⟨.int .u8 b.toNat,by simp [R],.int _ _ _⟩
  .intro c I
   simp at I;obtain⟨b,_,rfl⟩:=I;rfl
 .rename_i e J
  split at l
  case h_2=>cases l
  rename_i Z Y I;split at l
  case isFalse=>cases l
  rename_i hk;cases l;obtain⟨p,cap,rfl,N,V⟩:=VW S O I;rcases V with⟨rfl,rfl,rfl⟩|⟨Q,H,rfl,L,q⟩
  .exact⟨[],⟨fun B=>by simp [Builtin.lenOf],fun B _=>by simp [Builtin.firstCells]⟩,Flat.nil g k,_,J,.inr ⟨_,rfl⟩⟩
  .have C:Flat g k ys H:=by
    rcases hk with K|K
    .have:ys=[]:=qY K
     subst this;have:H=[]:=qY (by rw[L.len];simp);subst this;exact Flat.nil g k
    .rw[<-K];exact L
   refine⟨H,⟨fun B=>by simp [Builtin.lenOf],fun B X=>run_firstCells_some B k ys.length Q ys.length cap H C.len fun j v T=>?_⟩,C,_,J,.inr ⟨_,rfl⟩⟩;have:=q j v T;unfold World.cell? at *;rw[X];exact this
 .cases l
theorem uH {P:Program}{t0 E ty e:TypeId}{i:TypeInfo}{d:TypeDesc}(g:P.underlying t0=some (.slice e))(h:P.underlying E=some d)(F:d=.string\/∃e,d=.slice e)(p:P.info? e=some i)
  {b:Addr} {len cap m:Nat} {x:Value} {c:List Value} {w w':World} (C:Src P w i.size x c m) (A:len+m<=cap) (B:(storeCells (b.add (len*i.size)) c).run P w=.ok () w') :
  (Builtin.append_ #[t0,E] ty #[.slice (some b) len cap,x]).run P w=.ok (.slice (some b) (len+m) cap) w':=by
 have q:=C.len w;have l:=C.cells w rfl;rcases F with rfl|⟨G,rfl⟩
 .simp [Builtin.append_,CU g,CU h,sizeOf,typeInfo,p,q,l,A,B]
 .simp [Builtin.append_,CU g,CU h,sizeOf,typeInfo,p,q,l,A,B]
theorem VO {P:Program}{t0 J ty e:TypeId}{i:TypeInfo}{z:Value}{d:TypeDesc}(A:P.underlying t0=some (.slice e))(B:P.underlying J=some d)(K:d=.string\/∃e,d=.slice e)(E:P.info? e=some i)(I:i.zero=some z)
  {p:Option Addr} {len cap m:Nat} {x:Value} {olds c:List Value} {w:World} (H:Src P w i.size x c m) (N:∀w',w'.heap=w.heap->(Builtin.firstCells i.size len (.slice p len cap)).run P w'=.ok olds.toArray w')
  (L:cap<len+m) (G:room (len+m) i.bytes) :
  ∃ nc,len+m<=nc/\(Builtin.append_ #[t0,J] ty #[.slice p len cap,x]).run P w =
    .ok (.slice (some ⟨w.heap.size,0,none⟩) (len+m) nc) (w.drew.alloc (.cells ((olds++c).toArray++Builtin.zeroCells z.cells (nc-(len+m))) e)):=by
 have F:=H.len w;have C:=H.cells w.drew rfl;have q:=N w.drew rfl;have l:¬(len+m<=cap):=U;have h:¬(9223372036854775807<((len:Int)+(m:Int))):=by have:=G.1;omega
 have g:¬(281474976710656<Builtin.nextslicecap (len+m) cap*i.bytes):=by
  have:=growslice_fits L (bytes:=i.bytes) (by have:=G.2;omega);omega
 refine⟨grownCap w (len+m) cap e,?_,?_⟩
 .unfold grownCap
  simp only[Question.cut];omega
 .rw[show(olds++c).toArray=olds.toArray++c.toArray from by simp]
  rcases K with rfl|⟨O,rfl⟩
  .simp [Builtin.append_,CU A,CU B,sizeOf,typeInfo,zeroValue,E,I,F,l,h,g,Question.forced,C,q,newRow,grownCap]
   congr 2;apply Array.ext';simp
  .simp [Builtin.append_,CU A,CU B,sizeOf,typeInfo,zeroValue,E,I,F,l,h,g,Question.forced,C,q,newRow,grownCap]
   congr 2;apply Array.ext';simp
def bump (P:Program)(own:Bool)(h:List bO)(e:TypeId)(m:SM)(k:Nat)(xs ys:List (List AV))(d:Option Nat)(s:AV):Option (AV×List bO) :=
 if ys.length=0 then some (s,h) else
 match da P e,U5 P e,L8 P e with
 | some c,some z,some b=>if(c=k\/m=.nil)/\z=c/\room (xs.length+ys.length) b then
    match d with
    | some o=>if own then some (.own h.length 0 (xs.length+ys.length),h.set o .dead++[.live c (xs++ys)]) else none
    | none=>if own then some (.own h.length 0 (xs.length+ys.length),h++[.live c (xs++ys)]) else some (.sl .any c (xs++ys),h)
   else none
 | _,_,_=>none
def EJ (P:Program)(own:Bool)(h:List bO)(t0 l:TypeId)(s x:AV):Option (AV×List bO) :=
 match P.underlying t0 with
 | some (.slice e)=>match da P e with
   | some k=>match TC P h k l x with
     | some g=>match s with
       | .sl .nil _ _=>bump P own h e .nil k [] g none s
       | .sl .full c d=>if c=k then bump P own h e .full k d g none s else none
       | .own b off len=>match JR h (.own b off len) with
         | some (c,d)=>if c=k then bump P own h e .any k d g (some b) s else none
         | none=>none
       | _=>none
     | none=>none
   | none=>none
 | _=>none
theorem PE (z:Array Value)(n:Nat):(Builtin.zeroCells z n).size=n*z.size:=by simp [Builtin.zeroCells]
theorem SB {E:Env}{g:Gh}{h:List bO}{w F:World}{e:TypeId}{k d nc:Nat}{xs:List (List AV)}{cs:List Value}{l:Array Value}(S:ck E g h w)(B:Flat g k xs cs)(q:l.size=(nc-d)*k)(p:xs.length=d)(A:d<=nc)
  (H:Grew w F (.cells (cs.toArray++l) e (0,0))):∃g',g.le g'/\ck E g' (h++[.live k xs]) F/\Rep g' (.own h.length 0 d) (.slice (some ⟨w.heap.size,0,none⟩) d nc):=by
 obtain⟨G,hle⟩:=S.new (k:=k) (xs:=xs) H (B.holds BA fun j c C=>by
  simp only[jG];rw[Array.getElem?_append_left (by simpa using AY C)]
  simpa using C)
 refine⟨_,hle,G,?_⟩
 have:=Rep.own (g:=g.adopt h.length ⟨w.heap.size,0,k,(cs.toArray++l).size⟩) h.length 0 d nc ⟨w.heap.size,0,k,(cs.toArray++l).size⟩ (by simp [Gh.adopt]) A (by
  simp [B.len,q,p,<-qM]
  exact wO k U)
 simpa using this
theorem UA {E:Env}{g:Gh}{h:List bO}{w I:World}{e:TypeId}{k c nc:Nat}{xs:List (List AV)}{cs:List Value}{q:Array Value}(S:ck E g h w)(A:Flat g k xs cs)(B:∀(i j:Nat) (row:List AV) (v:AV),xs[i]?=some row->row[j]?=some v->∀cv,Rep g v cv->cw g.M v cv)
  (l:xs.length=c) (C:c<=nc) (m:SM) (H:m≠.nil) (p:m=.full->nc=c)
  (Q:Grew w I (.cells (cs.toArray++q) e (0,0))):∃g',g.le g'/\ck E g' h I/\Rep g' (.sl m k xs) (.slice (some ⟨w.heap.size,0,none⟩) c nc):=by
 obtain⟨J,hle,K⟩:=S.newF Q;refine⟨_,hle,J,.fro ?_⟩;subst l;by_cases hx:xs=[]
 .subst hx
  exact .empty m k _ _ H (fun h=>by simpa using p h)
 .refine .sl m k xs w.heap.size 0 _ _ _ nc (fun i j=>(cs[i*k+j]?).getD Go.undef) hx H K A.rows (fun i j L N=>?_) (fun i j row v F G=>?_) C p
  .have d:xs[i]?=some xs[i]:=by simp [L]
   have O:=(A.rows i _ d).1;obtain⟨cv,a,_⟩:=A.get i j _ ((xs[i])[j]'U) d (by simp [O,N]);rw[a];simp only[jG,jD];rw[Array.getElem?_append_left (by simpa using AY a)];simpa using a
  .obtain⟨cv,a,b⟩:=A.get i j row v F G
   rw[a];simp only[jD];exact(B i j row v F G cv b).mono hle.M
def AV.frozen:AV->Bool
 | .int _ _=>true
 | .bool _=>true
 | .str _=>true
 | .sl _ _ _=>true
 | .fptr _ _ _ _=>true
 | .nilp=>true
 | .nilfn=>true
 | .nilifc=>true
 | .nilmp=>true
 | .ifc _ _=>true
 | .fn _ [] []=>true
 | _=>false
theorem AV.frozen_rep {g:Gh}{v:AV}(h:v.frozen=true)(c:Rep g v cv):cw g.M v cv:=by
 cases v with
 | fn f a b =>
   cases a<;>cases b<;>simp [AV.frozen] at h;obtain⟨p,q,rfl,d,l,_,_⟩:=c.fn_inv;exact .fn f [] [] p q d l BA BA
 | own=>simp [AV.frozen] at h
 | ptr=>simp [AV.frozen] at h
 | mp=>simp [AV.frozen] at h
 | agg=>simp [AV.frozen] at h
 | tup=>simp [AV.frozen] at h
 | junk=>simp [AV.frozen] at h
 | _=>cases c with|fro h=>exact h
theorem R8 {E:Env}{g:Gh}{h h':List bO}{w:World}{own:Bool}{t0 t1 ty:TypeId}{s x r:AV}{cs cx:Value}(S:ck E g h w)(A:EJ E.P own h t0 t1 s x=some (r,h'))(hs:Rep g s cs)(hx:Rep g x cx)
  (a9:own=false->∀k ys xs,TC E.P h k t1 x=some ys->JR h s=some xs->∀row∈xs.2++ys,∀v∈row,v.frozen=true) :
  ∃c w' g',(Builtin.append_ #[t0,t1] ty #[cs,cx]).run E.P w=.ok c w'/\Rep g' r c/\g.le g'/\ck E g' h' w':=by
 unfold EJ at A;split at A
 case h_2=>cases A
 rename_i e hu;split at A
 case h_2=>cases A
 rename_i k hk;split at A
 case h_2=>cases A
 rename_i ys a7;obtain⟨F,I,L,d,hd,Y⟩:=src_of S a7 hx
 have a0:∃i,E.P.info? e=some i/\i.size=k:=by
  unfold da at hk;cases Z:E.P.info? e with
  | none=>simp [Z] at hk
  | some i=>simp [Z] at hk;exact⟨i,rfl,hk⟩
 obtain⟨i,Z,af⟩:=a0;subst af
 -- nothing to append
 have O:ys.length=0->(∃p len cap,cs=.slice p len cap/\len<=cap)->(Builtin.append_ #[t0,t1] ty #[cs,cx]).run E.P w=.ok cs w:=by
  intro h0 ⟨p,len,cap,K,hle⟩;subst K;have aj:ys=[]:=qY h0;subst aj;have ah:F=[]:=qY (by rw[L.len];simp);subst ah;have hl:=I.len w;have K:=I.cells w rfl;rcases Y with rfl|⟨e',rfl⟩<;>cases p<;>simp at hl K<;>simp [Builtin.append_,CU hu,CU hd,sizeOf,typeInfo,Z,hl,K,hle,storeCells]
 split at A
 .-- nil
  rename_i k0 am
  cases hs.sl_inv with
  | empty _ _ _ _ h1=>exact absurd rfl h1
  | sl _ _ _ _ _ _ _ _ _ _ _ h1=>exact absurd rfl h1
  | nil =>
    unfold bump at A;split at A
    .rename_i h0
     cases A;exact⟨_,w,g,O h0 ⟨_,_,_,rfl,jF _⟩,hs,Gh.le.refl g,S⟩
    .rename_i h0
     split at A
     case h_2=>cases A
     rename_i k' z b e1 e2 e3;split at A
     case isFalse=>cases A
     rename_i K;obtain⟨aa,hz,C⟩:=K;obtain⟨i',v,j1,j2,j3,j4,j5,j6⟩:=y5 e1 e3 e2;rw[Z] at j1;cases j1;subst j2 j3;simp only[zH,jG,zX] at A C;obtain⟨nc,N,B⟩:=VO (ty:=ty) (p:=none) (len:=0) (cap:=0) (olds:=[]) (w:=w) hu hd Y Z j4 I (fun w' _=>by simp [Builtin.firstCells]) U (BQ C);simp only[jG] at N B;have hG:Grew w (w.drew.alloc (.cells (F.toArray++Builtin.zeroCells v.cells (nc-ys.length)) e)) (.cells (F.toArray++Builtin.zeroCells v.cells (nc-ys.length)) e (0,0)):=⟨rfl,rfl,rfl,rfl⟩;simp only[zX] at B
     cases own with
     | true =>
       simp only[if_true] at A;cases A;obtain⟨g',R,q2,Q⟩:=SB (nc:=nc) S L (by rw[PE,j5,hz]) rfl N hG;exact⟨_,_,g',B,Q,R,q2⟩
     | false =>
       simp only[zZ,if_false] at A;cases A;obtain⟨g',R,q2,Q⟩:=UA (nc:=nc) S L (fun i' j row v' r1 r2 cv a2=>AV.frozen_rep (a9 rfl _ ys _ a7 rfl row (zQ.2 (.inr (qC r1))) v' (qC r2)) a2) rfl N .any BA BA hG;exact⟨_,_,g',B,Q,R,q2⟩
 .-- full
  rename_i k0 xs;split at A
  case isFalse=>cases A
  rename_i a3;subst a3;have K:JR h (.sl .full i.size xs)=some (i.size,xs):=rfl;obtain⟨p,cap,X,V,hp⟩:=VW S hs K
  have ac:cap=xs.length:=by
   cases hs.sl_inv with
   | empty _ _ _ _ _ h2=>cases X;exact h2 rfl
   | sl _ _ _ _ _ _ _ _ _ _ _ _ _ _ _ _ _ h8=>cases X;exact h8 rfl
  subst X;unfold bump at A;split at A
  .rename_i h0
   cases A;exact⟨_,w,g,O h0 ⟨_,_,_,rfl,V⟩,hs,Gh.le.refl g,S⟩
  .rename_i h0
   split at A
   case h_2=>cases A
   rename_i k' z b e1 e2 e3;split at A
   case isFalse=>cases A
   rename_i a1;obtain⟨aa,hz,C⟩:=a1;obtain⟨i',v,j1,j2,j3,j4,j5,j6⟩:=y5 e1 e3 e2;rw[Z] at j1;cases j1;subst j2 j3;rcases hp with⟨rfl,rfl,rfl⟩|⟨ad,olds,rfl,J,G⟩
   .cases hs.sl_inv
   obtain⟨nc,N,B⟩:=VO (ty:=ty) (p:=some ad) (len:=xs.length) (cap:=cap) (olds:=olds) (w:=w) hu hd Y Z j4 I (fun w' hw=>run_firstCells_some w' i.size xs.length ad _ _ olds J.len fun j u hj=>by
    have:=G j u hj;unfold World.cell? at *
    rw[hw];exact this) U C
   have T:=J.append L;have hG:Grew w (w.drew.alloc (.cells ((olds++F).toArray++Builtin.zeroCells v.cells (nc-(xs.length+ys.length))) e)) (.cells ((olds++F).toArray++Builtin.zeroCells v.cells (nc-(xs.length+ys.length))) e (0,0)):=⟨rfl,rfl,rfl,rfl⟩
   cases own with
   | true =>
     simp only[if_true] at A;cases A;obtain⟨g',R,q2,Q⟩:=SB (nc:=nc) S T (by rw[PE,j5,hz]) BA N hG;exact⟨_,_,g',B,Q,R,q2⟩
   | false =>
     simp only[zZ,if_false] at A;cases A;obtain⟨g',R,q2,Q⟩:=UA (nc:=nc) S T (fun i' j row v' r1 r2 cv a2=>AV.frozen_rep (a9 rfl _ ys _ a7 rfl row (qC r1) v' (qC r2)) a2) BA N .any BA BA hG;exact⟨_,_,g',B,Q,R,q2⟩
 .-- the call's own
  rename_i b off len;split at A
  case h_2=>cases A
  rename_i k0 xs K;split at A
  case isFalse=>cases A
  rename_i a3;subst a3;obtain⟨p,cap,X,V,hp⟩:=VW S hs K;subst X;unfold bump at A;split at A
  .rename_i h0
   cases A;exact⟨_,w,g,O h0 ⟨_,_,_,rfl,V⟩,hs,Gh.le.refl g,S⟩
  rename_i h0;split at A
  case h_2=>cases A
  rename_i k' z bb e1 e2 e3;split at A
  case isFalse=>cases A
  rename_i a1;obtain⟨aa,hz,C⟩:=a1;obtain⟨i',v,j1,j2,j3,j4,j5,j6⟩:=y5 e1 e3 e2;rw[Z] at j1;cases j1;subst j2 j3;simp only at A;split at A
  case isFalse=>cases A
  cases A
  have ai:p≠none:=by
   intro h1;subst h1;rcases hs.own_inv with⟨_,_,_,_,_,q⟩|⟨_,_,q⟩<;>cases q
  rcases hp with⟨rfl,_⟩|⟨ad,olds,rfl,J,G⟩
  .exact absurd rfl ai
  have T:=J.append L;have Sk:=S.kill b;by_cases hin:xs.length+ys.length<=cap
  .-- in place
   have hb:∃kb a8,h[b]?=some (.live kb a8):=by
    unfold JR at K;simp only at K;split at K
    .rename_i hh;exact⟨_,_,hh⟩
    .cases K
   obtain⟨kb,a8,hb⟩:=hb;obtain⟨H,c,e',p1,p2,p3,p4,p5,p6,p7,p8⟩:=S.live b kb a8 hb
   have ag:kb=i.size:=by
    unfold JR at K;simp only[hb] at K;split at K<;>cases K;rfl
   rcases hs.own_inv with⟨l,ak,R,q2,Q,qe⟩|⟨al,q,qe⟩
   .cases qe
    rw[R] at p1;cases p1;subst ag;have a4:H.k=i.size:=p2
    obtain⟨w',c',a6,hW⟩:=RH E.P H.cb (H.co+off*H.k+xs.length*i.size) e' F 0 w c p4 (by
     rw[L.len,p5];have:(xs.length+ys.length)*H.k<=cap*H.k:=wO _ hin;rw[qM] at Q this;rw[<-a4]
     omega) L.one
    have B:=uH (ty:=ty) (len:=xs.length) (cap:=cap) hu hd Y Z I hin (b:=⟨H.cb,H.co+off*H.k,none⟩) (by rw[addr_add];exact a6);have u:=PW S hb BA R
    have S2:ck E g (h.set b .dead) w':=Sk.world hW.os hW.tape hW.output fun k' a0=>by
     refine hW.else_ k' fun he=>?_
     subst he;rcases a0 with⟨o,ho⟩|a0
     .rw[p3] at ho;cases ho
     .exact a0 u
    have ab:∀(j:Nat) (c0:Value),olds[j]?=some c0->c[H.co+off*H.k+j]?=some c0:=by
     intro j c0 hj;have:=G j c0 hj;rw[addr_add,VI p4] at this;exact this
    have hh:Q7 g c' (H.co+off*H.k) i.size (xs++ys):=by
     refine T.holds ?_ ?_
     .rw[hW.size,p5]
      simp only[List.length_append];rw[J.len,L.len];have:(xs.length+ys.length)*H.k<=cap*H.k:=wO _ hin;rw[qM] at Q this;rw[<-a4];omega
     .intro j c0 hj
      rw[hW.cells];rw[List.getElem?_append] at hj;split at hj
      .rename_i a5
       rw[if_neg (by rw[J.len] at a5;omega)];exact ab j c0 hj
      .rename_i ae
       have a5:=AY hj;rw[if_pos (by rw[J.len] at ae a5;omega)];rw[<-hj];congr 1;rw[J.len];omega
    have S3:=S2.adopt hW.here p3 u hh;rw[qZ] at S3;have hle:g.le (g.adopt h.length ⟨H.cb,H.co+off*H.k,i.size,c'.size⟩):=Gh.adopt_le (S.fresh _ (jF _));refine⟨_,w',_,B,?_,hle,S3⟩
    have:=Rep.own (g:=g.adopt h.length ⟨H.cb,H.co+off*H.k,i.size,c'.size⟩) h.length 0 (xs.length+ys.length) cap ⟨H.cb,H.co+off*H.k,i.size,c'.size⟩ (by simp [Gh.adopt]) hin (by
     simp only[jG];rw[hW.size,p5,<-a4]
     rw[qM] at Q;omega)
    simpa using this
   .simp_all
  .-- a new array
   obtain⟨nc,N,B⟩:=VO (ty:=ty) (p:=some ad) (len:=xs.length) (cap:=cap) (olds:=olds) (w:=w) hu hd Y Z j4 I (fun w' hw=>run_firstCells_some w' i.size xs.length ad _ _ olds J.len fun j u hj=>by
    have:=G j u hj;unfold World.cell? at *
    rw[hw];exact this) U C
   have hG:Grew w (w.drew.alloc (.cells ((olds++F).toArray++Builtin.zeroCells v.cells (nc-(xs.length+ys.length))) e)) (.cells ((olds++F).toArray++Builtin.zeroCells v.cells (nc-(xs.length+ys.length))) e (0,0)):=⟨rfl,rfl,rfl,rfl⟩;obtain⟨g',R,q2,Q⟩:=SB (nc:=nc) Sk T (by rw[PE,j5,hz]) BA N hG;rw[qZ] at Q;exact⟨_,_,g',B,Q,R,q2⟩
 .cases A
theorem Jv (a:Array Value):a.toList.toArray++#[]=a:=BA
theorem Ev:∀(d:List Value) (s off:Nat) (c:Array Value),off+s+d.length<=c.size ->
  ((d.zipIdx s).foldl (fun cs (x,j)=>cs.setIfInBounds (off+j) x) c).size=c.size /\
  ∀m,((d.zipIdx s).foldl (fun cs (x,j)=>cs.setIfInBounds (off+j) x) c)[m]?=if off+s<=m/\m<off+s+d.length then d[m-(off+s)]? else c[m]?
 | [],s,off,c,_=>by
   refine⟨rfl,fun m=>?_⟩;rw[if_neg (by simp only[zH];omega)];rfl
 | v::d,s,off,c,h=>by
   simp only[zF] at h;obtain⟨g,l⟩:=Ev d (s+1) off (c.setIfInBounds (off+s) v) NI;simp only[List.zipIdx_cons,List.foldl_cons,zF];refine⟨by rw[g];simp,fun m=>?_⟩;rw[l m];by_cases h3:off+(s+1)<=m/\m<off+(s+1)+d.length
   .grind
   .grind
theorem rN (v:Value)(off:Nat)(c:Array Value)(h:off+v.cells.size<=c.size):
  (v.cells.zipIdx.foldl (fun cs (x,j)=>cs.setIfInBounds (off+j) x) c).size=c.size /\
  ∀m,(v.cells.zipIdx.foldl (fun cs (x,j)=>cs.setIfInBounds (off+j) x) c)[m]?=if off<=m/\m<off+v.cells.size then v.cells[m-off]? else c[m]? := by
 have:=Ev v.cells.toList 0 off c (BQ h);rw[<-Array.foldl_toList,Array.toList_zipIdx];simpa using this
structure js (g:Gh) (as:List AV) (c:Array Value):Prop where
 size:c.size=as.length
 get:∀(j:Nat) (x:AV) (v:Value),as[j]?=some x->c[j]?=some v->Rep g x v
def yG (c:Nat->Option (Nat×Nat))(as:List AV):List (Nat×AV)->Option (List AV)
 | []=>some as
 | (i,x)::r=>match c i with
   | some (off,d)=>match JI x with
     | some g=>if g.length=d/\off+d<=as.length then yG c (splice as off g) r else none
     | none=>none
   | none=>none
inductive Parts (g:Gh):List (Nat×AV)->List (Nat×Value)->Prop
 | nil:Parts g [] []
 | cons {i:Nat} {x:AV} {v:Value} {l:List (Nat×AV)} {m:List (Nat×Value)}:Rep g x v->Parts g l m->Parts g ((i,x)::l) ((i,v)::m)
theorem rU {g:Gh}{d:Nat->Option (Nat×Nat)}{l:List (Nat×AV)}{m:List (Nat×Value)}(S:Parts g l m):∀ {as p:List AV} {c:Array Value},yG d as l=some p->js g as c ->
  ∃E,Instr.fill d c m=some E/\js g p E:=by
 induction S with
 | nil=>intro as p c h B;simp [yG] at h;subst h;exact⟨c,rfl,B⟩
 | @cons i x v l m T _ V =>
   intro as p c h B;simp only[yG] at h
   cases A:d i with
   | none=>simp [A] at h
   | some X =>
     obtain⟨off,K⟩:=X;simp only[A] at h
     cases q:JI x with
     | none=>simp [q] at h
     | some F =>
       simp only[q] at h;split at h
       case isFalse=>cases h
       rename_i R;obtain⟨h1,h2⟩:=R;obtain⟨J,Y,Z,a4⟩:=TR q T;obtain⟨L,N⟩:=rN v off c (by rw[J,B.size];omega)
       have C:js g (splice as off F) (v.cells.zipIdx.foldl (fun F (x,j)=>F.setIfInBounds (off+j) x) c):=by
        refine⟨by rw[L,cT _ _ _ U];exact B.size,fun j y u I H=>?_⟩;rw[dO _ _ _ U] at I;rw[N,J] at H;split at I
        .grind
        .rename_i G
         rw[if_neg G] at H;exact B.get j y u I H
       obtain⟨E,O,Q⟩:=V h C;refine⟨E,?_,Q⟩;simp only[Instr.fill,A];rw[if_neg (by have:=B.size;simp only[qO,decide_eq_true_eq];omega)];exact O
def N9 (P:Program)(t:TypeId):Option (List AV) :=
 match ZO P t with
 | some z=>JI (ZN z)
 | none=>none
theorem X5 {row:List AV}(h:N9 P t=some row):∃z,ZO P t=some z/\z.cells.size=row.length/\(∀(j:Nat) (x:AV),row[j]?=some x->x.leaf=true) /\
  ∀g:Gh,(∀(j:Nat) (x:AV) (c:Value),row[j]?=some x->z.cells[j]?=some c->Rep g x c/\c.oneCell'=true):=by
 unfold N9 at h;split at h
 .rename_i z p
  obtain⟨d,l,_,_⟩:=TR h (.fro (hQ (fun _=>none) z):Rep ⟨fun _=>none,fun _=>none,default,fun _ _=>0,#[],fun _=>none⟩ (ZN z) z);exact⟨z,p,d,l,fun g=>(TR h (.fro (hQ g.M z):Rep g (ZN z) z)).2.2.1⟩
 .cases h
def bL (P:Program):List Field->Option (List (Nat×Nat))
 | []=>some []
 | f::r=>match da P f.type,bL P r with
   | some n,some l=>some ((f.offset,n)::l)
   | _,_=>none
def IY (P:Program)(t:TypeId)(parts:List (Nat×AV)):Option AV :=
 match N9 P t with
 | some g=>match P.underlying t with
   | some (.struct c)=>match bL P c.toList with
     | some h=>match yG (fun i=>h[i]?) g parts with
       | some d=>some (.agg d)
       | none=>none
     | none=>none
   | some (.array _ e)=>match da P e with
     | some n=>match yG (fun i=>some (i*n,n)) g parts with
       | some d=>some (.agg d)
       | none=>none
     | none=>none
   | _=>none
 | none=>none
theorem run_places {P:Program}{w:World}:∀ {c:List Field} {g:List (Nat×Nat)},bL P c=some g ->
  (c.mapM (fun f=>do pure (f.offset,<-sizeOf f.type):Field->Sem (Nat×Nat))).run P w=.ok g w
 | [],g,h=>by simp [bL] at h;subst h;simp
 | f::c,g,h=>by
   simp only[bL] at h
   cases d:da P f.type with
   | none=>simp [d] at h
   | some n =>
     cases p:bL P c with
     | none=>simp [d,p] at h
     | some l =>
       simp [d,p] at h;subst h;have:=run_places (w:=w) p;simp only[List.mapM_cons,Sem.run_bind,E8 d,Result.andThen_ok,this,Sem.run_pure]
theorem Uh {g:Gh}{parts:List (Nat×AV)}{d:Array (Nat×Value)}{v:AV}(h:IY P t parts=some v)(H:Parts g parts d.toList):
  ∃cv,(Instr.build t d).run P w=.ok cv w/\Rep g v cv:=by
 unfold IY at h;split at h
 case h_2=>cases h
 rename_i R O;obtain⟨z,J,Q,S,z4⟩:=X5 O;have p:js g R z.cells:=⟨Q,fun j x c C q=>(z4 g j x c C q).1⟩;split at h
 .rename_i l G
  split at h
  case h_2=>cases h
  rename_i I F;split at h
  case h_2=>cases h
  rename_i K A;cases h;obtain⟨B,C,q⟩:=rU H A p;refine⟨.agg B,?_,.agg _ _ q.size q.get⟩
  have L:(l.mapM (fun f=>do pure (f.offset,<-sizeOf f.type):Field->Sem (Nat×Nat))).run P w=.ok I.toArray w:=by
   have:=run_places (w:=w) F;rw[Array.mapM_eq_mapM_toList];simp only[Sem.run_map,this,Result.andThen_ok]
  have E:Instr.fill (fun i=>I.toArray[i]?) z.cells d.toList=some B:=by simp_all
  simp only[Instr.build,Sem.run_bind,MG J,Result.andThen_ok,CU G,L];simp only[E,Sem.run_pure]
 .rename_i n e G
  split at h
  case h_2=>cases h
  rename_i s N;split at h
  case h_2=>cases h
  rename_i K A;cases h;obtain⟨B,C,q⟩:=rU H A p;refine⟨.agg B,?_,.agg _ _ q.size q.get⟩;simp only[Instr.build,Sem.run_bind,MG J,Result.andThen_ok,CU G,E8 N,C,Sem.run_pure]
 .cases h
def cW (k:Nat):Nat->List (Nat×AV)->Option (List (List AV))
 | _,[]=>some []
 | s,(i,x)::r=>match JI x,cW k (s+1) r with
   | some c,some l=>if i=s/\c.length=k then some (c::l) else none
   | _,_=>none
def DR (P:Program)(own:Bool)(h:List bO)(t:TypeId)(len:Nat)(parts:List (Nat×AV)):Option (AV×List bO) :=
 match P.underlying t with
 | some (.slice e)=>match da P e with
   | some k=>match U5 P e with
     | some z=>match cW k 0 parts with
       | some c=>if c.length=len/\z=k/\len*k<=16777216 then
          if own then some (.own h.length 0 len,h++[.live k c]) else if c.all (·.all AV.frozen) then some (.sl .full k c,h) else none
         else none
       | none=>none
     | none=>none
   | none=>none
 | _=>none
theorem Xk {g:Gh}{l:List (Nat×AV)}{m:List (Nat×Value)}(T:Parts g l m):∀ {s:Nat} {p:List (List AV)} {c:Array Value},cW k s l=some p->c.size=n*k->s+p.length<=n ->
  ∃ B,Instr.fill (fun i=>some (i*k,k)) c m=some B/\B.size=c.size/\ZX k p/\(∀j,j<s*k->B[j]?=c[j]?) /\
    ∀(i j:Nat) (row:List AV) (v:AV),p[i]?=some row->row[j]?=some v->∃cv,B[(s+i)*k+j]?=some cv/\Rep g v cv/\cv.oneCell'=true:=by
 induction T with
 | nil =>
   intro s p c h _ _;simp [cW] at h;subst h;exact⟨c,rfl,rfl,fun _ _ h=>by simp at h,fun _ _=>rfl,fun _ _ _ _ h=>by simp at h⟩
 | @cons i x v l m V _ X =>
   intro s p c h F hle;simp only[cW] at h
   cases q:JI x with
   | none=>simp [q] at h
   | some J =>
     cases G:cW k (s+1) l with
     | none=>simp [q,G] at h
     | some rs =>
       simp only[q,G] at h;split at h
       case isFalse=>cases h
       rename_i Q;obtain⟨rfl,E⟩:=Q;cases h;simp only[zF] at hle;obtain⟨I,L,N,a4⟩:=TR q V
       have R:i*k+k<=n*k:=by
        have:=wO k (U:i+1<=n);rw[qM,Nat.one_mul] at this;exact this
       obtain⟨K,O⟩:=rN v (i*k) c (by rw[I,F];omega);obtain⟨B,Y,Z,q3,q4,q5⟩:=X (s:=i+1) (c:=v.cells.zipIdx.foldl (fun J (x,j)=>J.setIfInBounds (i*k+j) x) c) G (by rw[K];exact F) U;have S:i*k+k=(i+1)*k:=by rw[qM,Nat.one_mul]
       refine⟨B,?_,by rw[Z,K],?_,?_,?_⟩
       .simp only[Instr.fill]
        rw[if_neg (by simp only[qO,decide_eq_true_eq];omega)];exact Y
       .intro A row d
        cases A with
        | zero=>simp at d;subst d;exact⟨E,L⟩
        | succ A=>exact q3 A row (BQ d)
       .grind
       .intro A j row y d H
        cases A with
        | zero =>
          simp at d;subst d;have hj:=AY H;have C:j<v.cells.size:=U;refine⟨v.cells[j],?_,N j y _ H (by simp [C])⟩;rw[Nat.add_zero,q4 _ U,O,I,if_pos U];have:i*k+j-i*k=j:=U;rw[this];simp [C]
        | succ A =>
          have:=q5 A j row y (BQ d) H;rw[show i+(A+1)=i+1+A by omega];exact this
theorem kU {E:Env}{g:Gh}{h h':List bO}{w:World}{own:Bool}{t:TypeId}{len:Nat}{parts:List (Nat×AV)}{d:Array (Nat×Value)}{r:AV}(S:ck E g h w)
  (l:DR E.P own h t len parts=some (r,h')) (hp:Parts g parts d.toList) :
  ∃c w' g',(Instr.buildSlice t len d).run E.P w=.ok c w'/\Rep g' r c/\g.le g'/\ck E g' h' w':=by
 unfold DR at l;split at l
 case h_2=>cases l
 rename_i e hu;split at l
 case h_2=>cases l
 rename_i k hk;split at l
 case h_2=>cases l
 rename_i z Q;split at l
 case h_2=>cases l
 rename_i p G;split at l
 case isFalse=>cases l
 rename_i hc;obtain⟨N,rfl,a5⟩:=hc
 have a4:∃I,ZO E.P e=some I/\I.cells.size=z:=by
  unfold U5 at Q;cases K:ZO E.P e with
  | none=>simp [K] at Q
  | some I=>simp [K] at Q;exact⟨I,rfl,Q⟩
 obtain⟨I,a3,a6⟩:=a4;obtain⟨T,q⟩:∃T:Array Value,T=if len*z=0 then #[] else I.cells:=⟨_,rfl⟩
 obtain⟨H,R,q2,q3,_,q5⟩:=Xk (n:=len) hp (c:=(Array.range (len*z)).map (T[· % T.size]!)) G BA U;have F:¬(len*z>2^24):=by simp;omega
 have C:(Instr.buildSlice t len d).run E.P w=.ok (.slice (some ⟨w.heap.size,0,none⟩) len len) (w.alloc (.cells H e)):=by
  unfold Instr.buildSlice;by_cases A:len*z=0
  .rw[if_pos A] at q
   rw[q] at R;simp only[Sem.run_bind,CU hu,Result.andThen_ok,E8 hk,if_neg F,if_pos A,Sem.run_pure,R,newRow,run_newObj];rfl
  .rw[if_neg A] at q
   rw[q] at R;simp only[Sem.run_bind,CU hu,Result.andThen_ok,E8 hk,if_neg F,if_neg A,Sem.run_pure,MG a3,R,newRow,run_newObj];rfl
 have hF:Flat g z p H.toList:=⟨by simp [q2,N],q3,fun i j row v V X=>by
  obtain⟨cv,L,s2,_⟩:=q5 i j row v V X;exact⟨cv,BQ L,s2⟩,fun cc Y=>by
  obtain⟨m,O,rfl⟩:=qR Y;simp [q2] at O
  have a0:0<z:=by rcases Nat.eq_zero_or_pos z with A|A;· subst A;simp at O
                  .exact A
  have hd:m/z<p.length:=by rw[N];exact Nat.div_lt_of_lt_mul (by rw[Nat.mul_comm];exact O)
  have B:p[m/z]?=some p[m/z]:=by simp [hd]
  have a2:=(q3 _ _ B).1;have a1:=wI m a0;obtain⟨cv,L,_,s3⟩:=q5 _ (m%z) _ ((p[m/z])[m%z]'U) B (by simp [a2,a1]);rw[jG,Nat.div_add_mod'] at L;have:H[m]?=some H.toList[m]:=by simp [q2,O]
  rw[this] at L;cases L;exact s3⟩
 have hG:Grew w (w.alloc (.cells H e)) (.cells (H.toList.toArray++#[]) e (0,0)):=by
  rw[Jv];exact⟨rfl,rfl,rfl,rfl⟩
 cases own with
 | true =>
   simp only[if_true] at l;cases l;obtain⟨g',p1,p2,p3⟩:=SB (nc:=len) S hF BA N (jF _) hG;exact⟨_,_,g',C,p3,p1,p2⟩
 | false =>
   simp only[zZ,if_false] at l;split at l
   case isFalse=>cases l
   rename_i J;cases l;simp only[zJ] at J;obtain⟨g',p1,p2,p3⟩:=UA (nc:=len) S hF (fun i j row v V X cv Z=>AV.frozen_rep (J row (qC V) v (qC X)) Z) N (jF _) .full BA BA hG;exact⟨_,_,g',C,p3,p1,p2⟩
def IX (P:Program)(own:Bool)(h:List bO)(t:TypeId)(len cap:AV):Option (AV×List bO) :=
 match len,cap with
 | .int _ l,.int _ c=>match P.underlying t with
   | some (.slice e)=>match da P e,L8 P e with
     | some k,some b=>match N9 P e with
       | some d=>if 0<=l/\l<=c/\room c.toNat b/\d.length=k then
          if own then some (.own h.length 0 l.toNat,h++[.live k (zD c.toNat d)])
          else if l=c then some (.sl .full k (zD c.toNat d),h) else none
         else none
       | none=>none
     | _,_=>none
   | _=>none
 | _,_=>none
theorem wrap64_small {c:Int}(d:0<=c)(g:c<=70368744177664):IntKind.i64.wrap c=c:=by
 unfold IntKind.wrap IntKind.bits IntKind.signed;simp;omega
theorem mV {E:Env}{g:Gh}{h h':List bO}{own:Bool}{len cap r:AV}{cl cc:Value}(S:ck E g h w)(d:IX E.P own h t len cap=some (r,h'))(ab:Rep g len cl)(aa:Rep g cap cc):
  ∃c w' g',(Instr.makeSlice t cl cc).run E.P w=.ok c w'/\Rep g' r c/\g.le g'/\ck E g' h' w':=by
 unfold IX at d;split at d
 case h_2=>cases d
 rename_i k1 l k2 c;split at d
 case h_2=>cases d
 rename_i e hu;split at d
 case h_2=>cases d
 rename_i k b hk hb;split at d
 case h_2=>cases d
 rename_i R hz;split at d
 case isFalse=>cases d
 rename_i hc;obtain⟨X,aj,C,O⟩:=hc;rw[ab.int_inv,aa.int_inv];obtain⟨z,z1,z2,z3,z4⟩:=X5 hz
 have T:∃i,E.P.info? e=some i/\i.bytes=b/\i.size=k/\i.zero=some z:=by
  unfold L8 at hb;unfold da at hk;unfold ZO at z1
  cases T:E.P.info? e with
  | none=>simp [T] at hb
  | some i=>simp [T] at hb hk z1;exact⟨i,rfl,hb,hk,z1⟩
 obtain⟨i,T,rfl,rfl,ah⟩:=T;have a4:c<=70368744177664:=by have:=C.1;omega
 have e1:=wrap64_small (c:=l) X U;have e2:=wrap64_small (c:=c) U a4
 have af:¬((i.bytes:Int)*c>281474976710656):=by
  have:=C.2;have I:((c.toNat*i.bytes:Nat):Int)<=70368744177664:=U;rw[Int.natCast_mul] at I;have Y:((c.toNat:Nat):Int)=c:=U;rw[Y,Int.mul_comm] at I;omega
 have ai:¬(l<0):=U;have ad:¬(l>c):=U;have ag:¬(c<0):=U;obtain⟨p,F⟩:∃p:Array Value,p=if c.toNat*i.size=0 then #[] else z.cells:=⟨_,rfl⟩
 have ac:c.toNat*i.size≠0->p=z.cells:=fun h=>by rw[F,if_neg h]
 have K:(Instr.makeSlice t (.int k1 l) (.int k2 c)).run E.P w=.ok (.slice (some ⟨w.heap.size,0,none⟩) l.toNat c.toNat) (w.alloc (.cells ((Array.range (c.toNat*i.size)).map (p[· % p.size]!)) e)):=by
  unfold Instr.makeSlice;have a1:(typeInfo e).run E.P w=.ok i w:=by simp only[typeInfo,Sem.run_bind,run_program,Result.andThen_ok,T,Sem.run_pure]
  have B:((decide (c<0)||decide (((i.bytes:Nat):Int)*c>2^48))||decide (l<0)||decide (l>c))=false:=by simp_all
  by_cases h00:c.toNat*i.size=0
  .rw[if_pos h00] at F
   simp only[Sem.run_bind,CU hu,Result.andThen_ok,asInt,asIntOf,Sem.run_pure,a1,e1,e2,B,zZ,if_false,run_askRoom,E8 hk,if_pos h00,newRow,run_newObj,F];rfl
  .rw[if_neg h00] at F
   simp only[Sem.run_bind,CU hu,Result.andThen_ok,asInt,asIntOf,Sem.run_pure,a1,e1,e2,B,zZ,if_false,run_askRoom,E8 hk,if_neg h00,MG z1,newRow,run_newObj,F];rfl
 have hF:Flat g i.size (zD c.toNat R) ((Array.range (c.toNat*i.size)).map (p[· % p.size]!)).toList:=by
  have A:∀m,m<c.toNat*i.size->∃H:m%i.size<z.cells.size,((Array.range (c.toNat*i.size)).map (p[· % p.size]!)).toList[m]?=some (z.cells[m%i.size]'H):=by
   intro m H
   have a7:0<i.size:=by rcases Nat.eq_zero_or_pos i.size with X|X;· rw[X] at H;simp at H
                        .exact X
   have a3:z.cells.size=i.size:=by rw[z2,O]
   have a0:=wI m a7;refine⟨U,?_⟩;have:p=z.cells:=ac U;subst this;simp only[Array.toList_map,zB,Array.getElem?_toList];simp [H,a3];rw[getElem!_pos _ _ U]
  refine⟨BA,?_,?_,?_⟩
  .intro a row J
   rw[List.getElem?_replicate] at J;split at J<;>simp at J;subst J;exact⟨O,z3⟩
  .intro a j row v J G
   have d:=AY J;simp at d;rw[List.getElem?_replicate,if_pos U] at J;cases J;have hj:j<i.size:=O▸AY G
   have a8:a*i.size+j<c.toNat*i.size:=by
    have:=wO i.size (U:a+1<=c.toNat);rw[qM,Nat.one_mul] at this;omega
   obtain⟨H,q⟩:=A _ a8;refine⟨_,q,(z4 g j v _ G ?_).1⟩;have:(a*i.size+j)%i.size=j:=by rw[Nat.mul_comm,Nat.mul_add_mod,Nat.mod_eq_of_lt hj]
   simp [this]
  .intro cc a5
   obtain⟨m,H,rfl⟩:=qR a5;have a9:m<c.toNat*i.size:=BQ H;obtain⟨a0,q⟩:=A m a9;have:((Array.range (c.toNat*i.size)).map (p[· % p.size]!)).toList[m]?=some (((Array.range (c.toNat*i.size)).map (p[· % p.size]!)).toList[m]):=jP H;rw[this] at q;have I:=Option.some.inj q;rw[I];have a3:m%i.size<R.length:=U;exact(z4 g (m%i.size) R[m%i.size] _ BA (by simp [a0])).2
 have hG:Grew w (w.alloc (.cells ((Array.range (c.toNat*i.size)).map (p[· % p.size]!)) e)) (.cells (((Array.range (c.toNat*i.size)).map (p[· % p.size]!)).toList.toArray++#[]) e (0,0)) := by
  rw[Jv];exact⟨rfl,rfl,rfl,rfl⟩
 cases own with
 | true =>
   simp only[if_true] at d;cases d;obtain⟨g',p1,p2,p3⟩:=SB (nc:=c.toNat) S hF BA BA (jF _) hG;refine⟨_,_,g',K,?_,p1,p2⟩;rcases p3.own_inv with⟨lc,V,q1,q2,q3,q4⟩|⟨q1,a,q2⟩
   .injection q4 with q5 q6 q7
    rw[q5,q7];exact Rep.own (g:=g') h.length 0 l.toNat V lc q1 U q3
   .grind
 | false =>
   simp only[zZ,if_false] at d;split at d
   case isFalse=>cases d
   rename_i Z;cases d;subst Z
   have a6:∀x∈R,∀(cv:Value),Rep g x cv->cw g.M x cv:=by
    intro x hx cv N;obtain⟨j,hj,rfl⟩:=qR hx;have Q:∃z',JI (ZN z')=some R:=⟨z,by unfold N9 at hz;simp only[z1] at hz;exact hz⟩;obtain⟨z',a2⟩:=Q
    have:∀y∈R,y.frozen=true:=by
     intro y hy
     have ae:∀v:Value,(mG v).frozen=true\/mG v=.junk:=by
      intro v;unfold mG;split<;>simp [AV.frozen]
     have aux:∀(v:AV),JI v=some R->(v.frozen=true\/v=.junk\/∃l,v=.agg l/\∀y∈l,y.frozen=true\/y=.junk)->y.frozen=true:=by
      intro v G L;rcases L with q|q|⟨l,q,I⟩
      .cases v<;>simp [AV.frozen] at q<;>simp [JI] at G<;>subst G<;>simp at hy<;>subst hy<;>simp [AV.frozen,q]
      .subst q;simp [JI] at G
      .subst q
       simp [JI] at G;obtain⟨G,rfl⟩:=G;rcases I y hy with Y|Y
       .exact Y
       .subst Y;have:=G _ hy;simp [AV.leaf] at this
     refine aux _ a2 ?_;unfold ZN;split
     .simp_all
     .simp [ZN,JI] at a2
     .grind
    exact AV.frozen_rep (this _ hx) N
   obtain⟨g',p1,p2,p3⟩:=UA (nc:=l.toNat) S hF (fun i j row v q I cv N=>by
    rw[List.getElem?_replicate] at q;split at q<;>simp at q;subst q
    exact a6 v (qC I) cv N) BA (jF _) .full BA BA hG
   exact⟨_,_,g',K,p3,p1,p2⟩
theorem pC {E:Env}{g:Gh}{h:List bO}{w:World}{b k at_:Nat}{B d:List (List AV)}{l:Loc}{ds:List Value}(S:ck E g h w)(N:h[b]?=some (.live k B))(O:g.μ b=some l)
  (G:Flat g k d ds) (hle:at_+d.length<=B.length) :
  ∃w',(storeCells ⟨l.cb,l.co+at_*k,none⟩ ds).run E.P w=.ok () w'/\ck E g (h.set b (.live k (B.take at_++d++B.drop (at_+d.length)))) w':=by
 obtain⟨l',c,e,Q,X,q3,Y,R,Z,T,q8⟩:=S.live b k B N;rw[O] at Q;cases Q;subst X;have C:(at_+d.length)*l.k<=B.length*l.k:=wO _ hle;rw[qM] at C;have J:=G.len;obtain⟨w',c',F,H⟩:=RH E.P l.cb (l.co+at_*l.k) e ds 0 w c Y U G.one;refine⟨w',F,S.write N O H R ⟨?_,?_,?_⟩⟩
 .rw[H.size,R]
  have:(B.take at_++d++B.drop (at_+d.length)).length=B.length:=by simp;omega
  rw[this];exact Z
 all_goals
  have split:∀i row,(B.take at_++d++B.drop (at_+d.length))[i]?=some row->(B[i]?=some row/\(i<at_\/at_+d.length<=i))\/(at_<=i/\d[i-at_]?=some row):=by
   intro i row q;rw[zA,List.getElem?_append] at q;simp only[jT,Nat.min_eq_left (U:at_<=B.length)] at q;split at q
   .simp_all
   .grind
 .intro i row q
  rcases split i row q with⟨p,_⟩|⟨_,p⟩
  .exact T i row p
  .exact G.rows _ row p
 .intro i j row v q K
  rcases split i row q with⟨p,A⟩|⟨p,A⟩
  .obtain⟨cv,I,L⟩:=q8 i j row v p K
   refine⟨cv,?_,L⟩;have hj:j<l.k:=(T i row p).1▸AY K;rw[H.cells,if_neg]
   .exact I
   .rw[J]
    intro hh;rcases A with A|A
    .have:=wO l.k (U:i+1<=at_)
     rw[qM,Nat.one_mul] at this;omega
    .grind
  .obtain⟨cv,I,L⟩:=G.get _ j row v A K
   refine⟨cv,?_,L⟩;have V:=AY I;have e1:i*l.k=at_*l.k+(i-at_)*l.k:=by rw[<-qM];congr 1;omega
   rw[H.cells,if_pos U,<-I];congr 1;omega
def eg (B:List (List AV))(at_:Nat)(c:List (List AV)):List (List AV):=B.take at_++c++B.drop (at_+c.length)
theorem Flat.take {g:Gh}{k n:Nat}{xs:List (List AV)}{cs:List Value}(h:Flat g k xs cs):Flat g k (xs.take n) (cs.take (n*k)) where
 len:=by simp [h.len]
 rows i row hr:=by
  rw[List.getElem?_take] at hr;split at hr
  .exact h.rows i row hr
  .cases hr
 get i j row v hr hv:=by
  rw[List.getElem?_take] at hr;split at hr
  .rename_i hi
   obtain⟨cv,a,b⟩:=h.get i j row v hr hv;refine⟨cv,?_,b⟩;have hj:j<k:=(h.rows i row hr).1▸AY hv;have:=wO k (U:i+1<=n);rw[qM,Nat.one_mul] at this;rw[List.getElem?_take,if_pos U];exact a
  .cases hr
 one c hc:=h.one c (List.mem_of_mem_take hc)
def qb (P:Program)(h:List bO)(t:TypeId)(d s:AV):Option (AV×List bO) :=
 match P.underlying t with
 | some (.slice e)=>match da P e with
   | some k=>match JR h s with
     | some (g,c)=>match d with
       | .own b off len=>match h[b]? with
         | some (.live l B)=>if l=k/\(g=k\/c.length=0)/\off+len<=B.length then some (.int .i64 (min c.length len),h.set b (.live k (eg B off (c.take (min c.length len))))) else none
         | _=>none
       | .sl .nil _ _=>some (.int .i64 0,h)
       | _=>none
     | none=>none
   | none=>none
 | _=>none
theorem Wr {E:Env}{g:Gh}{h h':List bO}{t1:TypeId}{d s r:AV}{cd cs:Value}(S:ck E g h w)(C:qb E.P h t d s=some (r,h'))(hd:Rep g d cd)(hs:Rep g s cs):
  ∃c w' g',(Builtin.copy_ #[t,t1] ty #[cd,cs]).run E.P w=.ok c w'/\Rep g' r c/\g.le g'/\ck E g' h' w':=by
 unfold qb at C;split at C
 case h_2=>cases C
 rename_i e hu;split at C
 case h_2=>cases C
 rename_i k hk;split at C
 case h_2=>cases C
 rename_i k' A hc;obtain⟨p,cap,rfl,a3,hp⟩:=VW S hs hc;split at C
 .rename_i b off len
  split at C
  case h_2=>cases C
  rename_i J B hb;split at C
  case isFalse=>cases C
  rename_i Y;obtain⟨rfl,a0,a4⟩:=Y;cases C
  -- the cells read
  have Q:∃R,Flat g J (A.take (min A.length len)) R/\(Builtin.firstCells J (min A.length len) (.slice p A.length cap)).run E.P w=.ok R.toArray w:=by
   rcases hp with⟨rfl,rfl,rfl⟩|⟨ad,cs,rfl,hF,G⟩
   .exact⟨[],by simp [Flat.nil],by simp [Builtin.firstCells]⟩
   .have X:Flat g J A cs:=by
     rcases a0 with K|K
     .rw[<-K];exact hF
     .have:A=[]:=qY K
      subst this;have:cs=[]:=qY (by rw[hF.len];simp);subst this;exact Flat.nil g J
    have hT:=X.take (n:=min A.length len);refine⟨_,hT,run_firstCells_some w J (min A.length len) ad _ cap _ ?_ fun j v T=>?_⟩
    .rw[hT.len];simp
    .rw[List.getElem?_take] at T
     split at T
     .exact G j v T
     .cases T
  obtain⟨R,L,F⟩:=Q;have N:Nat.min A.length len=min A.length len:=rfl;have I:(A.take (min A.length len)).length=min A.length len:=BA;rcases hd.own_inv with⟨l,a2,q1,q2,q3,rfl⟩|⟨K,q,rfl⟩
  .obtain⟨l',c,e',p1,p2,_⟩:=S.live b J B hb
   rw[q1] at p1;cases p1;obtain⟨w',O,S'⟩:=pC S hb q1 L (at_:=off) (by rw[I];omega);refine⟨.int .i64 ((min A.length len:Nat):Int),w',g,?_,?_,Gh.le.refl g,S'⟩
   .simp [Builtin.copy_,CU hu,E8 hk,Builtin.lenOf,N,F,p2,O,goInt]
   .have:((min A.length len:Nat):Int)=min (A.length:Int) (len:Int):=U
    rw[this];exact .int _ _ _
  .subst K
   have Z:R=[]:=qY (by rw[L.len];simp);subst Z;refine⟨.int .i64 0,w,g,?_,?_,Gh.le.refl g,?_⟩
   .have a5:Nat.min A.length 0=0:=BA
    have a1:min A.length 0=0:=BA;rw[a1] at F;simp [Builtin.copy_,CU hu,E8 hk,Builtin.lenOf,F,storeCells,goInt]
   .have:min (A.length:Int) ((0:Nat):Int)=0:=U
    rw[this];exact .int _ _ _
   .have e0:eg B off (A.take (min A.length 0))=B:=by simp [eg]
    rw[e0]
    have:h.set b (.live J B)=h:=by
     apply List.ext_getElem?;intro j;rw[zW];split
     .grind
     .rfl
    rw[this];exact S
 .rename_i k2 a6
  cases C
  cases hd.sl_inv with
  | empty _ _ _ _ V=>exact absurd rfl V
  | sl _ _ _ _ _ _ _ _ _ _ _ V=>exact absurd rfl V
  | nil =>
    have H:∃arr,(Builtin.firstCells k 0 (.slice p A.length cap)).run E.P w=.ok arr w:=by
     cases p<;>simp [Builtin.firstCells,loadCells,loadCellsFrom]
    obtain⟨arr,H⟩:=H;refine⟨.int .i64 0,w,g,?_,.int _ _ _,Gh.le.refl g,S⟩;simp [Builtin.copy_,CU hu,E8 hk,Builtin.lenOf,H,goInt]
 .cases C
def lG (P:Program)(h:List bO)(t:TypeId)(d:AV):Option (AV×List bO) :=
 match P.underlying t with
 | some (.slice e)=>match N9 P e with
   | some c=>match d with
     | .own b off len=>match h[b]? with
       | some (.live k B)=>if k=c.length/\off+len<=B.length then some (IK,h.set b (.live k (eg B off (zD len c)))) else none
       | _=>none
     | .sl _ _ g=>if g.length=0 then some (IK,h) else none
     | _=>none
   | none=>none
 | _=>none
theorem Uu {g:Gh}{d:List AV}{z:Value}(n:Nat)(C:z.cells.size=d.length)(h2:∀(j:Nat) (x:AV),d[j]?=some x->x.leaf=true)
  (I:∀(j:Nat) (x:AV) (c:Value),d[j]?=some x->z.cells[j]?=some c->Rep g x c/\c.oneCell'=true):Flat g d.length (zD n d) (Builtin.zeroCells z.cells n).toList:=by
 have h:∀m,m<n*d.length->∃l:m%d.length<z.cells.size,(Builtin.zeroCells z.cells n).toList[m]?=some (z.cells[m%d.length]'l):=by
  intro m l
  have F:0<d.length:=by rcases Nat.eq_zero_or_pos d.length with B|B;· rw[B] at l;simp at l
                        .exact B
  have q:=wI m F;refine⟨U,?_⟩;simp only[Builtin.zeroCells,Array.toList_map,zB,Array.getElem?_toList];simp [C,l];rw[getElem!_pos _ _ U]
 refine⟨by simp [PE,C],?_,?_,?_⟩
 .intro a row p
  rw[List.getElem?_replicate] at p;split at p<;>simp at p;subst p;exact⟨rfl,h2⟩
 .intro a j row v p K
  have J:=AY p;simp at J;rw[List.getElem?_replicate,if_pos J] at p;cases p;have N:=AY K
  have G:a*d.length+j<n*d.length:=by
   have:=wO d.length (U:a+1<=n);rw[qM,Nat.one_mul] at this;omega
  obtain⟨l,A⟩:=h _ G;refine⟨_,A,(I j v _ K ?_).1⟩;have:(a*d.length+j)%d.length=j:=by rw[Nat.mul_comm,Nat.mul_add_mod,Nat.mod_eq_of_lt N]
  simp [this]
 .intro Q E
  obtain⟨m,l,rfl⟩:=qR E;have H:m<n*d.length:=by simpa [PE,C] using l
  obtain⟨q,A⟩:=h m H;rw[jP l] at A;have L:=Option.some.inj A;rw[L];have O:m%d.length<d.length:=U;exact(I (m%d.length) d[m%d.length] _ BA (by simp [q])).2
theorem T4 {E:Env}{g:Gh}{h K:List bO}{d r:AV}{J:Value}(S:ck E g h w)(p:lG E.P h t d=some (r,K))(G:Rep g d J):
  ∃c w' g',(Builtin.clear_ #[t] ty #[J]).run E.P w=.ok c w'/\Rep g' r c/\g.le g'/\ck E g' K w':=by
 unfold lG at p;split at p
 case h_2=>cases p
 rename_i e F;split at p
 case h_2=>cases p
 rename_i Q hz;obtain⟨z,z1,z2,z3,z4⟩:=X5 hz;split at p
 .rename_i b off len
  split at p
  case h_2=>cases p
  rename_i k B N;split at p
  case isFalse=>cases p
  rename_i Y;obtain⟨rfl,hle⟩:=Y;cases p;have X:=Uu len z2 z3 (z4 g);by_cases hl0:len=0
  .subst hl0
   have T:eg B off (zD 0 Q)=B:=by simp [eg]
   have Z:h.set b (.live Q.length B)=h:=by
    apply List.ext_getElem?;intro j;rw[zW];split
    .grind
    .rfl
   rw[T,Z];rcases G.own_inv with⟨l,A,I,q2,q3,rfl⟩|⟨L,q,rfl⟩
   .exact⟨undef,w,g,by simp [Builtin.clear_,CU F];rfl,Rep.undef g,Gh.le.refl g,S⟩
   .exact⟨undef,w,g,by simp [Builtin.clear_,CU F];rfl,Rep.undef g,Gh.le.refl g,S⟩
  .rcases G.own_inv with⟨l,A,I,q2,q3,rfl⟩|⟨L,q,rfl⟩
   .obtain⟨l',c,e',O,p2,_⟩:=S.live b _ B N
    rw[I] at O;cases O;obtain⟨w',C,R⟩:=pC S N I X (at_:=off) (BQ hle);refine⟨undef,w',g,?_,Rep.undef g,Gh.le.refl g,R⟩;obtain⟨m,rfl⟩:∃m,len=m+1:=⟨len-1,U⟩;simp [Builtin.clear_,CU F,MG z1,p2,C];rfl
   .exact absurd L hl0
 .rename_i m k xs
  split at p
  case isFalse=>cases p
  rename_i hx;cases p;have H:xs=[]:=qY hx;subst H;refine⟨undef,w,g,?_,Rep.undef g,Gh.le.refl g,S⟩
  cases G.sl_inv with
  | nil=>simp [Builtin.clear_,CU F];rfl
  | empty=>simp [Builtin.clear_,CU F];rfl
  | sl _ _ _ _ _ _ _ _ _ _ V=>exact absurd rfl V
 .cases p
def tU (P:Program)(t:TypeId)(x:AV)(f:Nat):Option AV :=
 match x with
 | .agg d=>match P.underlying t with
   | some (.struct c)=>match c[f]? with
     | some fl=>match KN P fl.type with
       | some true=>match da P fl.type with
         | some n=>some (.agg ((d.drop fl.offset).take n))
         | none=>none
       | some false=>d[fl.offset]?
       | none=>none
     | none=>none
   | _=>none
 | _=>none
theorem T' {g:Gh}{x v:AV}{f:Nat}(c:tU P t x f=some v)(F:Rep g x cx):∃cv,(Instr.field t cx f).run P w=.ok cv w/\Rep g v cv:=by
 unfold tU at c;split at c
 case h_2=>cases c
 rename_i G;obtain⟨p,rfl,q,C⟩:=F.agg_inv;split at c
 case h_2=>cases c
 rename_i h B;split at c
 case h_2=>cases c
 rename_i fl A;split at c
 .rename_i d
  split at c
  .rename_i n E
   cases c;refine⟨.agg (p.extract fl.offset (fl.offset+n)),by simp [Instr.field,CU B,A,part,OC d,E8 E,asAgg],.agg _ _ (by simp [q];omega) fun i v cv a b=>?_⟩;rw[List.getElem?_take] at a;split at a
   .grind
   .cases a
  .cases c
 .rename_i d
  have l:=AY c;have:p[fl.offset]?=some (p[fl.offset]'U):=by simp [q,l]
  exact⟨_,by simp [Instr.field,CU B,A,part,OC d,asAgg,this],C _ v _ c this⟩
 .cases c
def QY (P:Program)(t:TypeId)(x d:AV):Option AV :=
 match x,d with
 | .str s,.int _ i=>match P.underlying t with
   | some .string=>if 0<=i then match s[i.toNat]? with
     | some b=>some (.int .u8 b.toNat)
     | none=>none
     else none
   | _=>none
 | .agg c,.int _ i=>match P.underlying t with
   | some (.array n e)=>match da P e with
     | some z=>if 0<=i/\i<(n:Int) then match KN P e with
        | some true=>some (.agg ((c.drop (i.toNat*z)).take z))
        | some false=>c[i.toNat*z]?
        | none=>none
       else none
     | none=>none
   | _=>none
 | _,_=>none
theorem Tu {g:Gh}{x F v:AV}(c:QY P t x F=some v)(C:Rep g x cx)(B:Rep g F ci):∃cv,(Instr.index t cx ci).run P w=.ok cv w/\Rep g v cv:=by
 unfold QY at c;split at c
 case h_3=>cases c
 .rename_i s k i
  split at c
  case h_2=>cases c
  rename_i l;split at c
  case isFalse=>cases c
  rename_i G;split at c
  case h_2=>cases c
  rename_i b h;cases c;rw[C.str_inv,B.int_inv];exact⟨.int .u8 b.toNat,by simp [Instr.index,asIntOf,CU l,G,h],.int _ _ _⟩
 .rename_i I k i
  obtain⟨q,rfl,A,H⟩:=C.agg_inv;rw[B.int_inv];split at c
  case h_2=>cases c
  rename_i n e l;split at c
  case h_2=>cases c
  rename_i z E;split at c
  case isFalse=>cases c
  rename_i h;split at c
  .rename_i d
   cases c;refine⟨.agg (q.extract (i.toNat*z) (i.toNat*z+z)),by simp [Instr.index,asIntOf,CU l,h,E8 E,part,OC d],.agg _ _ (by simp [A];omega) fun j v cv a b=>?_⟩;rw[List.getElem?_take] at a;split at a
   .grind
   .cases a
  .rename_i d
   have p:=AY c;have:q[i.toNat*z]?=some (q[i.toNat*z]'U):=by simp [A,p]
   exact⟨_,by simp [Instr.index,asIntOf,CU l,h,E8 E,part,OC d,this],H _ v _ c this⟩
  .cases c
def oi (op:UnOp)(x:AV):Option AV :=
 match op,x with
 | .not,.bool b=>some (.bool (!b))
 | .neg,.int k n=>some (.int k (k.wrap (0-n)))
 | .xor,.int k n=>some (.int k (k.wrap (BitVec.ofInt k.bits (if k.signed then -1 else k.max) ^^^ BitVec.ofInt k.bits n).toNat))
 | _,_=>none
theorem AR2 {g:Gh}{op:UnOp}{x v:AV}(c:oi op x=some v)(d:Rep g x cx):∃cv,(Op.unary op cx).run P w=.ok cv w/\Rep g v cv:=by
 unfold oi at c;split at c
 .cases c;rw[d.bool_inv];exact⟨_,rfl,.bool _ _⟩
 .cases c;rw[d.int_inv];exact⟨_,rfl,.int _ _ _⟩
 .cases c;rw[d.int_inv];exact⟨_,rfl,.int _ _ _⟩
 .cases c
def qg:List (List AV)->Option (List Int)
 | []=>some []
 | r::rs=>match r with
   | [.int .u8 n]=>match qg rs with
     | some c=>some (n::c)
     | none=>none
   | _=>none
def strOf (ns:List Int):ByteArray:=ns.foldl (fun r n=>r.push (UInt8.ofNat n.toNat)) ByteArray.empty
def ZH (P:Program)(s d:TypeId)(x:AV):Option AV :=
 match x with
 | .int _ n=>match P.underlying s,P.underlying d with
   | some _,some (.int k)=>some (.int k (k.wrap n))
   | _,_=>none
 | .str b=>match P.underlying s,P.underlying d with
   | some .string,some .string=>some (.str b)
   | _,_=>none
 | .sl _ k g=>match P.underlying s,P.underlying d with
   | some (.slice e),some .string=>match P.underlying e with
     | some (.int .u8)=>if k=1 then match qg g with
       | some c=>some (.str (strOf c))
       | none=>none
       else none
     | _=>none
   | _,_=>none
 | _=>none
theorem DM {g:Gh}:∀ {xs:List (List AV)} {ns:List Int} {cs:List Value},qg xs=some ns->cs.length=xs.length->(∀(i:Nat) (row:List AV) (v:AV),xs[i]?=some row->row[0]?=some v->∃cv,cs[i]?=some cv/\Rep g v cv)->cs=ns.map (Value.int .u8)
 | [],ns,cs,h,d,_=>by
   simp [qg] at h;subst h;exact List.length_eq_zero_iff.1 (BQ d)
 | r::rs,ns,cs,h,d,q=>by
   unfold qg at h;split at h
   case h_2=>cases h
   rename_i n;split at h
   case h_2=>cases h
   rename_i l B;cases h
   cases cs with
   | nil=>simp at d
   | cons c cs =>
     obtain⟨cv,p,A⟩:=q 0 _ _ rfl rfl;simp at p;subst p;have C:cs=l.map (Value.int .u8):=DM B (BQ d) (fun i row v a b=>by have:=q (i+1) row v (BQ a) b;simpa using this);rw[A.int_inv,C];rfl
theorem Ws {E:Env}{g:Gh}{h:List bO}{s d:TypeId}{x v:AV}(S:ck E g h w)(l:ZH E.P s d x=some v)(J:Rep g x cx):∃cv,(convert s d cx).run E.P w=.ok cv w/\Rep g v cv:=by
 unfold ZH at l;split at l
 .split at l
  .rename_i k0 n Z k F G
   cases l;rw[J.int_inv];exact⟨_,by simp [convert,CU F,CU G];rfl,.int _ _ _⟩
  .cases l
 .split at l
  .rename_i b F G
   cases l;rw[J.str_inv];exact⟨_,by simp [convert,CU F,CU G],.str _ _⟩
  .cases l
 .rename_i m k xs
  split at l
  case h_2=>cases l
  rename_i e V O;split at l
  case h_2=>cases l
  rename_i Q;split at l
  case isFalse=>cases l
  rename_i hk;subst hk;split at l
  case h_2=>cases l
  rename_i C A;cases l;obtain⟨p,cap,rfl,_,T⟩:=VW (k:=1) (xs:=xs) S J rfl;refine⟨.string (strOf C),?_,.str _ _⟩;rw[run_convert_bytes_string w s d e _ _ _ V Q O];rcases T with⟨rfl,rfl,rfl⟩|⟨K,L,rfl,I,N⟩
  .simp [qg] at A;subst A
   simp [Conv.bytesToString,strOf]
  .have B:L=C.map (Value.int .u8):=DM (g:=g) A (by have:=I.len;omega) (fun i row v a b=>by
    obtain⟨cv,X,Y⟩:=I.get i 0 row v a b
    exact⟨cv,BQ X,Y⟩)
   have q:=run_loadCells_list (P:=E.P) w K L (fun i c H=>N i c H);rw[B] at q;have R:(C.map (Value.int .u8)).length=xs.length:=by rw[<-B];have:=I.len;omega
   rw[R] at q;rw[run_bytesToString w K xs.length cap C q];rfl
 .cases l
def KI (P:Program)(t:TypeId)(x:AV):Option AV :=
 match P.underlying t with
 | some .string=>match x with
   | .str s=>some (.int .i64 s.size)
   | _=>none
 | some (.slice _)=>match x with
   | .sl _ _ c=>some (.int .i64 c.length)
   | .own _ _ len=>some (.int .i64 len)
   | _=>none
 | some (.array n _)=>some (.int .i64 n)
 | _=>none
theorem Zc {g:Gh}{x v:AV}(c:KI P t x=some v)(h:Rep g x cx):∃cv,(Builtin.len_ #[t] ty #[cx]).run P w=.ok cv w/\Rep g v cv:=by
 unfold KI at c;split at c
 .rename_i d
  split at c
  .cases c;rw[h.str_inv];exact⟨_,by simp [Builtin.len_,CU d];rfl,.int _ _ _⟩
  .cases c
 .rename_i e d
  split at c
  .cases c
   have:∃p cap,cx=.slice p (List.length ‹List (List AV)›) cap:=by cases h.sl_inv<;>exact⟨_,_,rfl⟩
   obtain⟨p,cap,rfl⟩:=this;exact⟨_,by simp [Builtin.len_,CU d];rfl,.int _ _ _⟩
  .cases c
   rcases h.own_inv with⟨l,cap,_,_,_,rfl⟩|⟨A,q,rfl⟩
   .exact⟨_,by simp [Builtin.len_,CU d];rfl,.int _ _ _⟩
   .subst A;exact⟨_,by simp [Builtin.len_,CU d];rfl,.int _ _ _⟩
  .cases c
 .rename_i n e d
  cases c;exact⟨_,by simp [Builtin.len_,CU d];rfl,.int _ _ _⟩
 .cases c
def qa:AV->AV->Option AV
 | .int k a,.int c b=>if k=c then some (.int k (max a b)) else none
 | _,_=>none
def p_:AV->AV->Option AV
 | .int k a,.int c b=>if k=c then some (.int k (min a b)) else none
 | _,_=>none
def ZG (f:AV->AV->Option AV):AV->List AV->Option AV
 | x,[]=>some x
 | x,y::r=>match f x y with
   | some z=>ZG f z r
   | none=>none
theorem eC {P:Program}{g:Gh}{w:World}{f:AV->AV->Option AV}{c:Value->Value->Sem Value}(F:∀x y z cx l,f x y=some z->Rep g x cx->Rep g y l->∃A,(c cx l).run P w=.ok A w/\Rep g z A) :
  ∀ (ys:List AV) (d:List Value) (x v:AV) (cx:Value),ZG f x ys=some v->Rep g x cx->d.length=ys.length->(∀(i:Nat) (y:AV) (l:Value),ys[i]?=some y->d[i]?=some l->Rep g y l) ->
    ∃cv,(d.foldlM c cx).run P w=.ok cv w/\Rep g v cv
 | [],d,x,v,cx,h,C,B,_=>by
   cases d with
   | nil=>simp [ZG] at h;subst h;exact⟨cx,rfl,C⟩
   | cons=>simp at B
 | y::ys,d,x,v,cx,h,C,B,G=>by
   cases d with
   | nil=>simp at B
   | cons l d =>
     simp only[ZG] at h
     cases E:f x y with
     | none=>simp [E] at h
     | some z =>
       simp only[E] at h;obtain⟨A,H,I⟩:=F x y z cx l E C (G 0 y l rfl rfl);obtain⟨cv,J,K⟩:=eC F ys d z v A h I (BQ B) (fun i a b p q=>G (i+1) a b (BQ p) (BQ q));exact⟨cv,by simp [List.foldlM_cons,H,J],K⟩
theorem Vs {g:Gh}(x y z:AV)(cx c:Value)(h:qa x y=some z)(l:Rep g x cx)(p:Rep g y c):∃d,(Builtin.max2 cx c).run P w=.ok d w/\Rep g z d:=by
 unfold qa at h;split at h
 .split at h
  .cases h
   rw[l.int_inv,p.int_inv];refine⟨_,rfl,?_⟩;rename_i k a q b _;have:(if b>a then b else a)=max a b:=by omega
   rw[this];exact .int _ _ _
  .cases h
 .cases h
theorem Vq {g:Gh}(x y z:AV)(cx c:Value)(h:p_ x y=some z)(l:Rep g x cx)(p:Rep g y c):∃d,(Builtin.min2 cx c).run P w=.ok d w/\Rep g z d:=by
 unfold p_ at h;split at h
 .split at h
  .cases h
   rw[l.int_inv,p.int_inv];refine⟨_,rfl,?_⟩;rename_i k a q b _;have:(if b<a then b else a)=min a b:=by omega
   rw[this];exact .int _ _ _
  .cases h
 .cases h
def mK (h:List bO)(d:AV)(c:Bool):Option (AV×List bO) :=
 match d,c with
 | .ptr b 0 0,true=>match h[b]? with
   | some (.iter s pos)=>if pos<s.size then some (.tup [.bool true,.int .i64 pos,.int .i32 (Utf8.decode s pos).1],h.set b (.iter s (pos+(Utf8.decode s pos).2))) else some (.tup [.bool false],h)
   | _=>none
 | _,_=>none
theorem Vm {E:Env}{g:Gh}{h H:List bO}{K r:AV}{b:Bool}(S:ck E g h w)(p:mK h K b=some (r,H))(Y:Rep g K ci):
  ∃c w' g',(Instr.next ci b ty).run E.P w=.ok c w'/\Rep g' r c/\g.le g'/\ck E g' H w':=by
 unfold mK at p;split at p
 case h_2=>cases p
 rename_i b;split at p
 case h_2=>cases p
 rename_i s pos I;obtain⟨l,F,rfl⟩:=Y.ptr_inv;obtain⟨Z,L,N,O,Q,R⟩:=S.iter b s pos I;rw[F] at L;cases L;rw[N,O];have q:(getObj l.cb).run E.P w=.ok (.stringIter s pos) w:=by simp [getObj,Sem.run,R]
 split at p
 .rename_i d
  cases p;have C:(setObj l.cb (.stringIter s (pos+(Utf8.decode s pos).2))).run E.P w=.ok () { w with heap:=w.heap.setIfInBounds l.cb (.stringIter s (pos+(Utf8.decode s pos).2)) }:=by simp [setObj,Sem.run,R]
  have G:l.cb<w.heap.size:=by grind
  refine⟨.tuple #[.bool true,.int .i64 pos,.int .i32 (Utf8.decode s pos).1],{ w with heap:=w.heap.setIfInBounds l.cb (.stringIter s (pos+(Utf8.decode s pos).2)) },g,?_,.tup _ _ rfl ?_,Gh.le.refl g,?_⟩
  .simp [Instr.next,q,d,C,goInt]
  .intro i v cv A B
   rcases i with _|_|_|i<;>simp at A B<;>subst A B
   .exact .bool _ _
   .exact .int _ _ _
   .exact .int _ _ _
  .have T:=S.kill b
   have u:=PW S I BA F
   have V:ck E g (h.set b .dead) { w with heap:=w.heap.setIfInBounds l.cb (.stringIter s (pos+(Utf8.decode s pos).2)) }:=T.world rfl rfl rfl fun k hk=>by
    refine Array.getElem?_setIfInBounds_ne fun X=>?_
    subst X;rcases hk with⟨o,J⟩|hk
    .rw[Q] at J;cases J
    .exact hk u
   have:=V.revive_obj F N O (by simp [G]) Q u (.iter s (pos+(Utf8.decode s pos).2));simpa using this
 .rename_i d
  cases p;refine⟨.tuple #[.bool false],w,g,?_,.tup _ _ rfl ?_,Gh.le.refl g,S⟩
  .simp [Instr.next,q,d]
  .intro i v cv A B
   rcases i with _|i<;>simp at A B;subst A B;exact .bool _ _
def lF (P:Program)(h:List bO)(t:TypeId)(x:AV):Option (AV×List bO) :=
 match x with
 | .str s=>match P.underlying t with
   | some .string=>some (.ptr h.length 0 0,h++[.iter s 0])
   | _=>none
 | _=>none
theorem Tl {E:Env}{g:Gh}{h l:List bO}{x r:AV}(S:ck E g h w)(d:lF E.P h t x=some (r,l))(B:Rep g x cx):
  ∃c w' g',(Instr.range t cx).run E.P w=.ok c w'/\Rep g' r c/\g.le g'/\ck E g' l w':=by
 unfold lF at d;split at d
 case h_2=>cases d
 rename_i s;split at d
 case h_2=>cases d
 rename_i C;cases d;rw[B.str_inv];have A:Grew w (w.alloc (.stringIter s 0)) (.stringIter s 0):=⟨rfl,rfl,rfl,rfl⟩;obtain⟨p,q⟩:=S.grew A;obtain⟨F,G⟩:=S.unowned_new (jF _);refine⟨.pointer (some ⟨w.heap.size,0,none⟩),_,_,?_,?_,Gh.adopt_le (S.fresh _ (jF _)),p.adopt_obj q G F (.iter s 0)⟩
 .simp [Instr.range,CU C]
 .have:=Rep.ptr (g:=g.adopt h.length ⟨w.heap.size,0,0,0⟩) h.length 0 0 ⟨w.heap.size,0,0,0⟩ (by simp [Gh.adopt])
  simpa using this
def rC:List AV->Option (List (IntKind×Int))
 | []=>some []
 | .int k n::r=>(rC r).map ((k,n) :: ·)
 | _=>none
def x8 (p:IntKind×Int):AV:=.int p.1 p.2
def sx (p:IntKind×Int):Value:=.int p.1 p.2
theorem xT:∀ {xs:List AV} {is:List (IntKind×Int)},rC xs=some is->xs=is.map x8
 | [],is,h=>by simp [rC] at h;subst h;rfl
 | x::r,is,h=>by
   unfold rC at h;split at h
   .rename_i c;cases c
   .rename_i k n l c
    cases c
    cases d:rC r with
    | none=>rw[d] at h;cases h
    | some g =>
      rw[d] at h;cases h;rw[xT d];rfl
   .cases h
theorem ASV {g:Gh}{is:List (IntKind×Int)}{c:Value}(h:Rep g (.agg (is.map x8)) c):c=.agg (is.map sx).toArray:=by
 obtain⟨p,rfl,q,A⟩:=h.agg_inv;congr 1;have l:p.size=is.length:=by rw[q,jI]
 apply Array.ext
 .simp [l]
 .intro i B C
  have d:i<is.length:=U;have:=A i (x8 is[i]) p[i] (by rw[zB,jP d];rfl) (by simp [B]);have:=this.int_inv;rw[this];simp [sx]
def Gf (h:List bO):Option (AV×List bO):=some (.mp h.length,h++[.map []])
theorem uN {E:Env}{g:Gh}{h d:List bO}{r:AV}(S:ck E g h w)(A:Gf h=some (r,d)):
  ∃c w' g',(Instr.makeMap t none).run E.P w=.ok c w'/\Rep g' r c/\g.le g'/\ck E g' d w':=by
 cases A;have q:Grew w (w.alloc (.map #[] 0)) (.map #[] 0):=⟨rfl,rfl,rfl,rfl⟩;obtain⟨l,p⟩:=S.grew q;obtain⟨B,C⟩:=S.unowned_new (jF _);refine⟨.map (some w.heap.size),_,_,?_,?_,Gh.adopt_le (S.fresh _ (jF _)),l.adopt_obj p C B (.map [] #[] 0 rfl BA)⟩
 .simp [Instr.makeMap]
 .exact Rep.mp (g:=g.adopt h.length ⟨w.heap.size,0,0,0⟩) h.length ⟨w.heap.size,0,0,0⟩ (by simp [Gh.adopt])
def oD (P:Program)(h:List bO)(t:TypeId)(m k:AV)(c:Bool):Option AV:=none
theorem R1 {E:Env}{g:Gh}{h:List bO}{m k v:AV}{d c:Value}{l:Bool}(S:ck E g h w)(p:oD E.P h t m k l=some v)(q:Rep g m d)(hk:Rep g k c):
 ∃cv,(Instr.lookup t d c l).run E.P w=.ok cv w/\Rep g v cv:=by cases p
def tS (P:Program)(h:List bO)(t:TypeId)(m k v:AV):Option (List bO):=none
theorem mU {E:Env}{g:Gh}{h l:List bO}{m k v:AV}{d c:Value}(S:ck E g h w)(p:tS E.P h t m k v=some l)(q:Rep g m d)(hk:Rep g k c)(A:Rep g v cv):
 ∃w',(Instr.mapUpdate t d c cv).run E.P w=.ok () w'/\ck E g l w':=by cases p
def HT (P:Program)(x:AV)(c:TypeId)(d:Bool):Option AV:=none
theorem Sq {g:Gh}{x v:AV}{l c:TypeId}{d:Bool}(h:HT P x c d=some v)(p:Rep g x cx):
 ∃cv,(Instr.typeAssert cx l c d).run P w=.ok cv w/\Rep g v cv:=by cases h
def HS (P:Program)(h:List bO)(t:TypeId)(x:AV)(lo c d:Option AV):Option (AV×List bO):=none
theorem RO {E:Env}{g:Gh}{h q:List bO}{w:World}{t:TypeId}{x v:AV}{cx:Value}{lo A B:Option AV}{l d p:Option Value}(S:ck E g h w)(C:HS E.P h t x lo A B=some (v,q))(I:Rep g x cx)
 (G:lo=none->l=none) (F:A=none->d=none) (H:B=none->p=none):∃c w' g',(Instr.sliceAt t cx l d p).run E.P w=.ok c w'/\Rep g' v c/\g.le g'/\ck E g' q w':=by cases C
def ev (E:Env)(F:Nat->AV):Operand->AV
 | .tmp t=>F t
 | .const v=>ZN v
 | .global g=>E.G g
 | .func f=>.fn (.func f) [] []
theorem eI {E:Env}{g:Gh}{F:Nat->AV}{h:List bO}(s:iy E n g F h a w)(x:Operand):Rep g (ev E F x) (a.eval x):=by
 cases x with
 | tmp t=>exact s.frame t
 | const v=>exact .fro (hQ g.M v)
 | global n=>exact .fro (s.simH.glob n)
 | func f=>exact .fro (.fn _ _ _ _ _ rfl rfl BA BA)
def ll (ρ:Operand->AV):List (Nat×Operand)->List (Nat×AV)
 | []=>[]
 | (i,x)::r=>(i,ρ x)::ll ρ r
theorem kJ {g:Gh}{ρ:Operand->AV}{ρ':Operand->Value}(c:∀x,Rep g (ρ x) (ρ' x)):∀l:List (Nat×Operand),Parts g (ll ρ l) (l.map fun(i,x)=>(i,ρ' x))
 | []=>.nil
 | (_,x)::r=>.cons (c x) (kJ c r)
def f_ (h:List bO):Option AV->Option (AV×List bO)
 | some v=>some (v,h)
 | none=>none
def re:Option (List bO)->Option (AV×List bO)
 | some h=>some (IK,h)
 | none=>none
def OG (P:Program)(h:List bO)(t0 c:TypeId)(s x:AV):Bool :=
 match P.underlying t0 with
 | some (.slice e)=>match da P e with
   | some k=>match TC P h k c x,JR h s with
     | some g,some d=>(d.2++g).all (·.all AV.frozen)
     | _,_=>false
   | none=>false
 | _=>false
def SE (P:Program)(own:Bool)(h:List bO)(b:Builtin)(c:List TypeId)(xs:List AV):Option (AV×List bO) :=
 match b with
 | .len=>match c,xs with
   | [t],[x]=>f_ h (KI P t x)
   | _,_=>none
 | .max=>match xs with
   | x::r=>f_ h (ZG qa x r)
   | _=>none
 | .min=>match xs with
   | x::r=>f_ h (ZG p_ x r)
   | _=>none
 | .append=>match c,xs with
   | [g,l],[s,x]=>if own||OG P h g l s x then EJ P own h g l s x else none
   | _,_=>none
 | .copy=>match c,xs with
   | [t,_],[d,s]=>qb P h t d s
   | _,_=>none
 | .clear=>match c,xs with
   | [t],[d]=>lG P h t d
   | _,_=>none
 | _=>none
def ep (P:Program)(own:Bool)(h:List bO)(ρ:Operand->AV)(o:Op):Option (AV×List bO) :=
 match o with
 | .move x=>some (ρ x,h)
 | .assign x=>some (ρ x,h)
 | .pick c a b=>match ρ c with
   | .bool true=>some (ρ a,h)
   | .bool false=>some (ρ b,h)
   | _=>none
 | .alloc e=>H9 P h e
 | .box _ x=>OU h (ρ x)
 | .build t q=>f_ h (IY P t (ll ρ q.toList))
 | .buildSlice t n q=>DR P own h t n (ll ρ q.toList)
 | .load t a=>f_ h (BR P h t (ρ a))
 | .store t a x=>re (D7 P h t (ρ a) (ρ x))
 | .nilCheck x=>match ρ x with
   | .ptr b i j=>some (.ptr b i j,h)
   | .fptr k G i j=>some (.fptr k G i j,h)
   | _=>none
 | .binOp op t x y _=>f_ h (IZ P t op (ρ x) (ρ y))
 | .unOp op _ x=>f_ h (oi op (ρ x))
 | .convert s d x=>f_ h (ZH P s d (ρ x))
 | .makeFunc fn a c=>some (.fn fn (a.toList.map ρ) (c.toList.map ρ),h)
 | .makeSlice t l c=>IX P own h t (ρ l) (ρ c)
 | .slice t x B A C=>match own with
   | true=>HS P h t (ρ x) (B.map ρ) (A.map ρ) (C.map ρ)
   | false=>f_ h (IW P h t (ρ x) (B.map ρ) (A.map ρ) (C.map ρ))
 | .fieldAddr t x f=>f_ h (BM P t (ρ x) f)
 | .field t x f=>f_ h (tU P t (ρ x) f)
 | .indexAddr t x i=>f_ h (FC P h t (ρ x) (ρ i))
 | .index t x i=>f_ h (QY P t (ρ x) (ρ i))
 | .range t x=>lF P h t (ρ x)
 | .next it s=>mK h (ρ it) s
 | .extract t i=>match ρ t with
   | .tup F=>f_ h F[i]?
   | _=>none
 | .makeInterface t x=>match P.underlying t,ρ x with
   | some (.struct _),.agg E=>match rC E with
     | some is=>some (.ifc t (.agg (is.map sx).toArray),h)
     | none=>none
   | _,_=>none
 | .makeMap _ r=>match r with
   | none=>Gf h
   | some _=>none
 | .mapUpdate t m k x=>re (tS P h t (ρ m) (ρ k) (ρ x))
 | .lookup t m k p=>f_ h (oD P h t (ρ m) (ρ k) p)
 | .typeAssert x _ g p=>f_ h (HT P (ρ x) g p)
 | .call c=>match c.callee with
   | .builtin b=>SE P own h b c.argTypes.toList (c.args.toList.map ρ)
   | _=>none
 | _=>none
theorem IG {h c:List bO}{x:Option AV}{v:AV}(e:f_ h x=some (v,c)):x=some v/\c=h:=by
 cases x<;>simp [f_] at e;exact⟨by rw[e.1],e.2.symm⟩
theorem UE {c:List bO}{x:Option (List bO)}{v:AV}(e:re x=some (v,c)):x=some c/\v=IK:=by
 cases x<;>simp [re] at e;exact⟨by rw[e.2],e.1.symm⟩
theorem z8 {g:Gh}{ρ:Operand->AV}(c:∀x,Rep g (ρ x) (ρ' x))(x:Option Operand):(x.map ρ=none/\x.map ρ'=none)\/∃v cv,x.map ρ=some v/\x.map ρ'=some cv/\Rep g v cv:=by
 cases x with
 | none=>exact .inl ⟨rfl,rfl⟩
 | some x=>exact .inr ⟨_,_,rfl,rfl,c x⟩
def Leaves (E:Env)(g:Gh)(w:World)(s:Sem Next)(v:AV)(l:List bO):Prop :=
 ∃d cv h c,s.run E.P w=.ok d h/\(d=.value cv\/(d=.skip/\cv=undef))/\Rep c v cv/\g.le c/\ck E c l h
theorem Leaves.of_val {E:Env}{g:Gh}{h c:List bO}{s:Sem Value}{v:AV}(S:ck E g h w)(p:c=h)(q:∃cv,s.run E.P w=.ok cv w/\Rep g v cv):Leaves E g w (do pure (.value (<-s))) v c:=by
 obtain⟨cv,d,l⟩:=q;subst p;exact⟨.value cv,cv,w,g,by simp [d],.inl rfl,l,Gh.le.refl g,S⟩
theorem Leaves.of_step {E:Env}{g:Gh}{d:List bO}{s:Sem Value}{v:AV}(A:∃c w' g',s.run E.P w=.ok c w'/\Rep g' v c/\g.le g'/\ck E g' d w'):Leaves E g w (do pure (.value (<-s))) v d:=by
 obtain⟨cv,w',g',h,l,p,q⟩:=A;exact⟨.value cv,cv,w',g',by simp [h],.inl rfl,l,p,q⟩
theorem Hh {α β:Type}{c:Array α}{f:α->β}{x:β}(h:c.toList.map f=[x]):∃o,c = #[o]/\f o=x:=by
 obtain⟨l⟩:=c
 cases l with
 | nil=>simp at h
 | cons a l=>cases l with
   | nil=>simp at h;exact⟨a,rfl,h⟩
   | cons=>simp at h
theorem GB {α β:Type}{c:Array α}{f:α->β}{x y:β}(h:c.toList.map f=[x,y]):∃o p,c = #[o,p]/\f o=x/\f p=y:=by
 obtain⟨l⟩:=c
 cases l with
 | nil=>simp at h
 | cons a l=>cases l with
   | nil=>simp at h
   | cons b l=>cases l with
     | nil=>simp at h;exact⟨a,b,rfl,h.1,h.2⟩
     | cons=>simp at h
theorem WR {α:Type}{c:Array α}{l:List α}(h:c.toList=l):c=l.toArray:=by rw[<-h]
theorem Te {E:Env}{b:Builtin}{args:Array Operand}{ats:Array TypeId}:
  ∃cs,(do let d <-resolve ρ' { callee:=.builtin b,args,argTypes:=ats } ty;invoke d.target d.args:Sem Next).run E.P w=(builtin b ats ty cs (args.map ρ')).run E.P w :=
 ⟨_,by simp only[resolve,invoke,Sem.run_bind,Sem.run_pure,Result.andThen_ok];rfl⟩
theorem Ht (f:Operand->Value)(o:Operand):Array.map f #[o] = #[f o]:=BA
theorem Hr (f:Operand->Value)(o p:Operand):Array.map f #[o,p] = #[f o,f p]:=BA
theorem S8 {h:List bO}{p:Nat}{x:AV}{ys c:List (List AV)}(g:TC P h k t x=some ys)(h2:TC P h p t x=some c):ys=c:=by
 unfold TC at g h2
 cases l:P.underlying t with
 | none=>simp [l] at g
 | some d =>
   cases d<;>simp only[l] at g h2<;>first|(cases g;done)|skip
   .grind
   .grind
theorem vE {E:Env}{g:Gh}{h O:List bO}{w:World}{own:Bool}{b:Builtin}{args:Array Operand}{ats:Array TypeId}{ty:TypeId}{ρ:Operand->AV}{ρ':Operand->Value}{v:AV}{cs:Array Bool}(S:ck E g h w)(B:∀x,Rep g (ρ x) (ρ' x))
  (q:SE E.P own h b ats.toList (args.toList.map ρ)=some (v,O)):Leaves E g w (builtin b ats ty cs (args.map ρ')) v O:=by
 unfold SE at q;split at q
 .split at q
  .rename_i t x A c
   obtain⟨o,rfl,rfl⟩:=Hh c;obtain⟨F,G⟩:=IG q;rw[WR A,Ht];exact Leaves.of_val S G (Zc F (B o))
  .cases q
 .split at q
  .rename_i x r c
   obtain⟨F,G⟩:=IG q;obtain⟨l⟩:=args
   cases l with
   | nil=>simp at c
   | cons o l =>
     simp at c;obtain⟨rfl,rfl⟩:=c;refine Leaves.of_val S G ?_
     have:=eC (P:=E.P) (g:=g) (w:=w) Vs (l.map ρ) (l.map ρ') (ρ o) v (ρ' o) F (B o) BA (fun i y Q a b=>by
      simp at a b;obtain⟨z,J,rfl⟩:=a;obtain⟨Y,I,rfl⟩:=b
      rw[J] at I;cases I;exact B z)
     simpa [Builtin.max_] using this
  .cases q
 .split at q
  .rename_i x r c
   obtain⟨F,G⟩:=IG q;obtain⟨l⟩:=args
   cases l with
   | nil=>simp at c
   | cons o l =>
     simp at c;obtain⟨rfl,rfl⟩:=c;refine Leaves.of_val S G ?_
     have:=eC (P:=E.P) (g:=g) (w:=w) Vq (l.map ρ) (l.map ρ') (ρ o) v (ρ' o) F (B o) BA (fun i y Q a b=>by
      simp at a b;obtain⟨z,J,rfl⟩:=a;obtain⟨Y,I,rfl⟩:=b
      rw[J] at I;cases I;exact B z)
     simpa [Builtin.min_] using this
  .cases q
 .split at q
  .rename_i t0 V s x A c
   obtain⟨o,p,rfl,rfl,rfl⟩:=GB c;rw[WR A,Hr];split at q
   case isFalse=>cases q
   rename_i H;refine Leaves.of_step (R8 S q (B o) (B p) ?_);intro R k X xs F G;subst R;simp only[Bool.false_or,OG] at H;unfold EJ at q;split at q
   case h_2=>cases q
   rename_i e T;split at q
   case h_2=>cases q
   rename_i Z K;split at q
   case h_2=>cases q
   rename_i N C;simp only[T,K,C,G,zJ] at H
   have L:X=N:=by
    exact S8 F C
   subst L;exact H
  .cases q
 .split at q
  .rename_i t V d s A c
   obtain⟨o,p,rfl,rfl,rfl⟩:=GB c;rw[WR A,Hr];exact Leaves.of_step (Wr S q (B o) (B p))
  .cases q
 .split at q
  .rename_i t d A c
   obtain⟨o,rfl,rfl⟩:=Hh c;rw[WR A,Ht];exact Leaves.of_step (T4 S q (B o))
  .cases q
 .cases q
theorem Zj {E:Env}{g:Gh}{h V:List bO}{own:Bool}{o:Oper}{ρ:Operand->AV}{v:AV}(S:ck E g h w)(p:∀x,Rep g (ρ x) (ρ' x))(d:ep E.P own h ρ o.op=some (v,V)):
  Leaves E g w (execOp ρ' o) v V:=by
 obtain⟨dst,op,ty,pos,K,L⟩:=o;simp only at d;unfold ep at d;split at d
 .cases d;exact⟨_,_,w,g,rfl,.inl rfl,p _,Gh.le.refl g,S⟩
 .cases d;exact⟨_,_,w,g,rfl,.inl rfl,p _,Gh.le.refl g,S⟩
 .rename_i c a b
  have I:=p c;split at d
  .rename_i B;cases d;rw[B] at I
   exact⟨.value (ρ' a),ρ' a,w,g,by simp [execOp,I.bool_inv,asBool],.inl rfl,p _,Gh.le.refl g,S⟩
  .rename_i B;cases d;rw[B] at I
   exact⟨.value (ρ' b),ρ' b,w,g,by simp [execOp,I.bool_inv,asBool],.inl rfl,p _,Gh.le.refl g,S⟩
  .cases d
 .exact Leaves.of_step (Uj S d)
 .exact Leaves.of_step (Zf S d (p _))
 .obtain⟨q,A⟩:=IG d
  exact Leaves.of_val S A (Uh q (by rw[Array.toList_map];exact kJ p _))
 .exact Leaves.of_step (kU S d (by rw[Array.toList_map];exact kJ p _))
 .obtain⟨q,A⟩:=IG d
  exact Leaves.of_val S A (qS S q (p _))
 .obtain⟨q,rfl⟩:=UE d
  obtain⟨G,A,N⟩:=SZ S q (p _) (p _);exact⟨.skip,undef,G,g,by simp [execOp,A],.inr ⟨rfl,rfl⟩,Rep.undef g,Gh.le.refl g,N⟩
 .rename_i x
  have C:=p x;split at d
  .rename_i B;cases d;rw[B] at C
   obtain⟨l,hl,e⟩:=C.ptr_inv;exact⟨.value (ρ' x),ρ' x,w,g,by simp [execOp,e],.inl rfl,C,Gh.le.refl g,S⟩
  .rename_i B;cases d;rw[B] at C
   obtain⟨cb,oo,e,_⟩:=rM (n:=0) C.fptr_inv;exact⟨.value (ρ' x),ρ' x,w,g,by simp [execOp,e],.inl rfl,C,Gh.le.refl g,S⟩
  .cases d
 .obtain⟨q,A⟩:=IG d
  exact Leaves.of_val S A (Wi w _ _ q (p _) (p _))
 .obtain⟨q,A⟩:=IG d
  exact Leaves.of_val S A (AR2 q (p _))
 .obtain⟨q,A⟩:=IG d
  exact Leaves.of_val S A (Ws S q (p _))
 .rename_i fn a c
  cases d;refine⟨.value (.func fn (a.map ρ') (c.map ρ')),_,w,g,by simp [execOp,Instr.makeFunc],.inl rfl,.fn _ _ _ _ _ BA BA ?_ ?_,Gh.le.refl g,S⟩
  .grind
  .grind
 .exact Leaves.of_step (mV S d (p _) (p _))
 .cases own with
  | false =>
    obtain⟨q,A⟩:=IG d;exact Leaves.of_val S A (Sz S q (p _) (z8 p _) (z8 p _) (z8 p _))
  | true =>
    have no:∀x:Option Operand,x.map ρ=none->x.map ρ'=none:=fun x C=>by cases x<;>simp at C|-
    exact Leaves.of_step (RO S d (p _) (no _) (no _) (no _))
 .obtain⟨q,A⟩:=IG d
  exact Leaves.of_val S A (mX q (p _))
 .obtain⟨q,A⟩:=IG d
  exact Leaves.of_val S A (T' q (p _))
 .obtain⟨q,A⟩:=IG d
  exact Leaves.of_val S A (mW S q (p _) (p _))
 .obtain⟨q,A⟩:=IG d
  exact Leaves.of_val S A (Tu q (p _) (p _))
 .exact Leaves.of_step (Tl S d (p _))
 .exact Leaves.of_step (Vm S d (p _))
 .rename_i t i
  have F:=p t;split at d
  .rename_i vs B
   rw[B] at F;obtain⟨q,A⟩:=IG d;obtain⟨X,e,R,T⟩:=F.tup_inv;have Q:=AY q;have J:X[i]?=some (X[i]'U):=by simp [R,Q]
   refine Leaves.of_val S A ⟨_,?_,T i v _ q J⟩;rw[e];simp [Instr.extract,J]
  .cases d
 .rename_i t x
  have F:=p x;split at d
  .rename_i fs cs J B
   rw[B] at F;split at d
   .rename_i is Z
    cases d;rw[xT Z] at F;have e:=ASV F;refine Leaves.of_val S rfl ⟨.iface t (.agg (is.map sx).toArray),?_,.fro (.ifc _ _)⟩;rw[e];simp [Instr.makeInterface,CU J]
   .cases d
  .cases d
 .split at d
  .exact Leaves.of_step (uN S d)
  .cases d
 .obtain⟨q,rfl⟩:=UE d
  obtain⟨G,A,N⟩:=mU S q (p _) (p _) (p _);exact⟨.skip,undef,G,g,by simp [execOp,A],.inr ⟨rfl,rfl⟩,Rep.undef g,Gh.le.refl g,N⟩
 .obtain⟨q,A⟩:=IG d
  exact Leaves.of_val S A (R1 S q (p _) (p _))
 .obtain⟨q,A⟩:=IG d
  exact Leaves.of_val S A (Sq q (p _))
 .rename_i c
  split at d
  .rename_i b B
   obtain⟨H,args,ats⟩:=c;simp only at B d;subst B;obtain⟨cs,O⟩:=Te (E:=E) (ρ':=ρ') (b:=b) (args:=args) (ats:=ats) (ty:=ty) (w:=w);obtain⟨nx,cv,G,Y,R,T⟩:=vE (ty:=ty) (cs:=cs) S p d;exact⟨nx,cv,G,Y,O.trans R,T⟩
  .cases d
 .cases d
abbrev Fr:=Nat->AV
abbrev Hp:=List bO
def eX (P:Program)(f:FuncId):Prop:=∃fn,P.funcs[f]?=some fn∧fn.body.isSome=true∧(fn.name == "runtime.NumGoroutine")=false
def cS (g:Gh)(args:List AV)(c:Array Value):Prop:=c.size=args.length/\∀(i:Nat) (v:AV) (cv:Value),args[i]?=some v->c[i]?=some cv->Rep g v cv
def ACalls (E:Env)(f:FuncId)(args:List AV)(h:Hp)(R:AV->Hp->Prop):Prop :=
 eX E.P f/\∀(g:Gh) (w:World) (c:Array Value),ck E g h w->cS g args c ->
  Calls E.P f c w fun e p=>(∃v cv d l,e=.returned cv/\R v l/\g.le d/\ck E d l p/\Rep d v cv)\/∃u d l,e=.panicked [{ v:=u,recovered:=false }]/\E.X u l/\g.le d/\ck E d l p
theorem ACalls.mono {E:Env}{f:FuncId}{args:List AV}{h:Hp}{R l:AV->Hp->Prop}(p:ACalls E f args h R)(B:∀v d,R v d->l v d):ACalls E f args h l :=
 ⟨p.1,fun g w c S A=>(p.2 g w c S A).mono fun _ _ q=>q.imp (fun⟨v,cv,g',d,e,r,q⟩=>⟨v,cv,g',d,e,B _ _ r,q⟩) id⟩
def Env.nox (E:Env):Env := { E with X:=fun _ _=>False }
theorem ck.nox {E:Env}{g:Gh}{h:Hp}{w:World}(S:ck E g h w):ck E.nox g h w:=⟨S.os,S.tape,S.output,S.fro,S.lo,S.live,S.obj,S.inj,S.fresh,S.glob⟩
theorem ck.ofNox {E:Env}{g:Gh}{h:Hp}(S:ck E.nox g h w):ck E g h w:=⟨S.os,S.tape,S.output,S.fro,S.lo,S.live,S.obj,S.inj,S.fresh,S.glob⟩
theorem ACalls.ofNox {E:Env}{f:FuncId}{args:List AV}{h:Hp}{R:AV->Hp->Prop}(d:ACalls E.nox f args h R):ACalls E f args h R :=
 ⟨d.1,fun g w c S p=>(d.2 g w c S.nox p).mono fun _ _ q=>q.elim (fun⟨v,cv,g',h',e,r,l,S',q⟩=>.inl ⟨v,cv,g',h',e,r,l,S'.ofNox,q⟩) (fun⟨_,_,_,_,x,_⟩=>x.elim)⟩
def a_ (E:Env)(f:FuncId)(args:List AV)(h:Hp)(r:AV):Prop:=ACalls E.nox f args h fun v c=>v=r/\c=h
theorem a_.use {E:Env}{args:List AV}{h:Hp}{r:AV}{K:AV->Hp->Prop}(g:a_ E f args h r)(hk:K r h):ACalls E f args h K :=
 ACalls.mono (ACalls.ofNox g) fun _ _ ⟨c,d⟩=>by rw[c,d];exact hk
def Env.know (E:Env)(g:Gh):Env := { E with L:=some g }
def YC (E:Env)(l:Nat)(args:List AV)(h:Hp)(K:AV->Hp->Prop):Prop :=
 ∀ (g:Gh) (w:World) (c:Array Value),ck E g h w->cS g args c ->
   YieldAt Fence.wide 0 E.P l c w fun e q=>∃v cv d p,e=.returned cv/\K v p/\g.le d/\ck E d p q/\Rep d v cv
theorem YC.mono {E:Env}{l:Nat}{args:List AV}{h:Hp}{K C:AV->Hp->Prop}(L:YC E l args h K)(hk:∀v A,K v A->C v A):YC E l args h C:=fun g w c S J=>by
 obtain⟨fn,p,B,d,H,I⟩:=L g w c S J;exact⟨fn,p,B,d,H,I.mono fun e N ⟨v,cv,G,A,F,k,q⟩=>⟨v,cv,G,A,F,hk _ _ k,q⟩⟩
def OT (E:Env)(own:Bool)(op:Op)(F:Fr)(h:Hp)(K:AV->Hp->Prop):Prop :=
 match op with
 | .call { callee:=.value f,args:=as,.. }=>match ev E F f with
   | .fn (.func d) first c=>ACalls E d (first++(as.toList.map (ev E F)++c)) h K
   | .fn (.yield l) [] []=>YC E l (as.toList.map (ev E F)) h K
   | _=>False
 | .panic x=>match ev E F x with
   | .ifc t u=>E.X (.iface t u) h
   | _=>False
 | op=>match ep E.P own h (ev E F) op with
   | some (v,g)=>K v g
   | none=>False
theorem Ef {args:Array Value}(h:eX P f):(callFunc f args).run P w=.ok (.enter f args) w:=by
 obtain⟨fn,h1,h2,h3⟩:=h;have h4:¬(fn.body=none):=by intro h; rw[h] at h2; cases h2
 have h5:¬(fn.name = "runtime.NumGoroutine"):=BQ h3
 simp [callFunc,h1,h4,h5]
theorem Hs {E:Env}{g:Gh}{F:Fr}{h:Hp}(s:iy E n g F h a w)(l:List Operand)(i:Nat)(v:AV)(cv:Value)(d:(l.map (ev E F))[i]?=some v)(h2:(l.map a.eval)[i]?=some cv):Rep g v cv:=by
 simp at d h2;obtain⟨z,p,rfl⟩:=d;obtain⟨q,c,rfl⟩:=h2;rw[p] at c;cases c;exact eI s z
theorem ZZ {g:Gh}{xs ys:List AV}{as h:Array Value}(c:cS g xs as)(h2:cS g ys h):cS g (xs++ys) (as++h):=by
 refine⟨by simp [c.1,h2.1],fun i v cv p q=>?_⟩;rw[List.getElem?_append] at p;rw[Array.getElem?_append] at q;rw[c.1] at q;split at p
 .rename_i d;rw[if_pos d] at q;exact c.2 i v cv p q
 .rename_i d;rw[if_neg d] at q;exact h2.2 _ v cv p q
def FW (ρ:Option Nat):Fence := { Fence.wide with round:=ρ }
theorem CallsIn.FW_of {args:Array Value}{R:Ending->World->Prop}(ρ:Option Nat)(n:Nat)(h:Calls P f args w R):CallsIn (FW ρ) n P f args w R :=
 show CallsIn Fence.wide n P f args w R from callsIn_wide.2 h
theorem sB {ρ:Option Nat}{E:Env}{n:Nat}{own:Bool}{o:Oper}{F:Fr}{h:Hp}{K:AV->Hp->Prop}{g:Gh}{a:Act}{w:World}{next:Act->World->Prop}{Q:Exit->Act->World->Prop}
  (I:OT E own o.op F h K) (s:iy E n g F h a w) (N:∀v A,K v A->∀g' w' cv,g.le g'->ck E g' A w'->Rep g' v cv->next (a.put o.dst cv) w')
  (hp:∀u A,E.X u A->∀g' w',g.le g'->ck E g' A w'->a.defers=[]->Q (.panic [{ v:=u,recovered:=false }]) a w'):o.wpIn (FW ρ) 0 E.P a w next Q:=by
 have dx:∀u A,E.X u A->a.defers=[]:=fun u A I=>s.dx.elim id fun q=>(q u A I).elim
 have plain:∀v A,ep E.P own h (ev E F) o.op=some (v,A)->K v A->o.wpIn (FW ρ) 0 E.P a w next Q:=by
  intro v A ha hk;obtain⟨nx,cv,w',g',h1,h2,h3,h4,h5⟩:=Zj (o:=o) s.simH (fun x=>eI s x) ha;have hd:∀c,o.op≠.defer c:=fun c H=>by rw[H] at ha;simp [ep] at ha
  unfold Oper.wpIn;refine⟨fun _ _=>trivial,?_⟩;rw[Oper.semAt_eq _ _ _ hd,h1];rcases h2 with rfl|⟨rfl,rfl⟩
  .exact N v A hk g' w' cv h4 h5 h3
  .exact N v A hk g' w' _ h4 h5 h3
 unfold OT at I;split at I
 .rename_i f as a2 G
  split at I
  .rename_i Z first R hf
   obtain⟨a0,H⟩:=I;have J:=eI s f;rw[hf] at J;obtain⟨d,C,L,k1,k2,k3,k4⟩:=J.fn_inv
   have hL:cS g (first++(as.toList.map (ev E F)++R)) (d++(as.map a.eval++C)) :=
    ZZ ⟨k1,k3⟩ (ZZ ⟨BA,fun i v cv p q=>Hs s as.toList i v cv p (BQ q)⟩ ⟨k2,k4⟩)
   have B:(execOp a.eval o).run E.P w=.ok (.enter Z (d++(as.map a.eval++C))) w:=by
    unfold execOp;rw[G];simp only[resolve,L,Deferred.ofValue,Sem.run_bind,Sem.run_pure,Result.andThen_ok,invoke];rw[Ef a0,Array.append_assoc]
   unfold Oper.wpIn;refine⟨fun _ _=>trivial,?_⟩;rw[Oper.semAt_eq _ _ _ (fun c H=>by rw[G] at H;cases H),B];refine⟨fun N=>(Bool.noConfusion N),CallsIn.FW_of ρ _ ?_⟩;refine(H g w _ s.simH hL).mono fun e w' q=>?_
   rcases q with⟨v,cv,g',A,Y,r,q1,q2,q3⟩|⟨u,g',A,Y,r,q1,q2⟩
   .grind
   .grind
  .rename_i l hf
   have J:=eI s f;rw[hf] at J;obtain⟨d,C,L,k1,k2,k3,k4⟩:=J.fn_inv;have a1:d = #[]:=BQ k1;have hL:cS g (as.toList.map (ev E F)) (as.map a.eval):=⟨BA,fun i v cv p q=>Hs s as.toList i v cv p (BQ q)⟩;obtain⟨fn,T,V,O,hy,hR⟩:=I g w _ s.simH hL
   have B:(execOp a.eval o).run E.P w=.ok (.round l fn T V O) w:=by
    unfold execOp;rw[G];simp only[resolve,L,Deferred.ofValue,Sem.run_bind,Sem.run_pure,Result.andThen_ok,invoke];rw[a1,Array.empty_append,hy]
   unfold Oper.wpIn;refine⟨fun _ _=>trivial,?_⟩;rw[Oper.semAt_eq _ _ _ (fun c H=>by rw[G] at H;cases H),B];refine⟨fun N=>(Bool.noConfusion N),show RoundIn Fence.wide 0 _ _ _ _ _ _ _ _ from ?_⟩;refine hR.mono fun e w' ⟨v,cv,g',A,Y,r,q1,q2,q3⟩=>?_
   subst Y;exact N v A r g' w' cv q1 q2 q3
  .exact I.elim
 .rename_i x G
  split at I
  .rename_i t u hu
   have S:=eI s x;rw[hu] at S
   have hv:a.eval x=.iface t u:=by
    generalize a.eval x=y at S|-
    cases S with
    | fro S=>cases S;rfl
   unfold Oper.wpIn;refine⟨fun _ _=>trivial,?_⟩
   have B:(execOp a.eval o).run E.P w=.halt (.panic (.iface t u)) w:=by
    unfold execOp;rw[G];simp only[hv];rfl
   rw[Oper.semAt_eq _ _ _ (fun c H=>by rw[G] at H;cases H),B];exact hp _ h I g w (Gh.le.refl g) s.simH (dx _ h I)
  .exact I.elim
 .grind
def uW:List (Option Tmp)->Nat->Option Tmp
 | [],_=>none
 | d::_,0=>d
 | _::r,j+1=>uW r j
theorem y7:∀(l:List Oper) (j:Nat),uW (l.map (·.dst)) j=(l[j]?).bind (·.dst)
 | [],j=>by simp [uW]
 | o::l,0=>by simp [uW]
 | o::l,j+1=>by simp [uW,y7 l j]
def OJ (ds:List (Option Tmp))(F:Fr)(g:Option (Nat×Bool)):Option Bool :=
 match g with
 | none=>some true
 | some (j,c)=>match uW ds j with
   | none=>some false
   | some d=>match F d with
     | .bool b=>some (b==c)
     | .tup []=>some false
     | _=>none
theorem dH {E:Env}{g:Gh}{F:Fr}{h:Hp}{ops:Array Oper}{o:Oper}{c:Bool}(s:iy E n g F h a w)(l:OJ (ops.toList.map (·.dst)) F o.guard=some c):
  Region.wanted o (yielded ops a.tmps)=c:=by
 unfold OJ at l;unfold Region.wanted;split at l
 .rename_i G;rw[G];cases l;rfl
 .rename_i j I G
  rw[G];simp only;rw[y7] at l;have p:(ops.toList[j]?).bind (·.dst)=(ops[j]?).bind (·.dst):=BA;rw[p] at l;split at l
  .rename_i q
   cases l;simp [yielded,q]
  .rename_i d q
   have B:=s.frame d;split at l
   .rename_i b C
    cases l;rw[C] at B;have A:=B.bool_inv
    have J:d<a.tmps.size:=by
     rcases zC d a.tmps.size with h|h
     .exact h
     .simp [h,undef] at A
    have:a.tmps[d]?=some (.bool b):=by simp_all
    simp [yielded,q,this]
   .rename_i C
    cases l;rw[C] at B;obtain⟨L,A,K,_⟩:=B.tup_inv;have H:L = #[]:=BQ K;subst H
    have:yielded ops a.tmps j=none:=by
     unfold yielded;rw[q];simp only[Option.bind_some];rcases zC d a.tmps.size with h|h
     .simp [h] at A|-;rw[A]
     .simp [h]
    rw[this];rfl
   .cases l
def LH (xs:List (List AV)):Bool:=xs.all (·.all AV.frozen)
def QO (s:Fr×Hp)(i:Nat):Fr×Hp :=
 match s.1 i with
 | .own b off len=>match s.2[b]? with
   | some (.live k c)=>if off+len<=c.length/\LH ((c.drop off).take len)=true then (upd s.1 i (.sl .any k ((c.drop off).take len)),s.2.set b .dead) else s
   | _=>s
 | _=>s
theorem dY {E:Env}{g:Gh}{h:Hp}{w:World}{b off len k:Nat}{xs:List (List AV)}{cv:Value}{M':Nat->Option Obj}{l:Loc}{c:Array Value}{e:TypeId}(S:ck E g h w)(Y:h[b]?=some (.live k xs))(Z:g.μ b=some l)
  (hw:w.heap[l.cb]?=some (.cells c e (0,0))) (X:M' l.cb=some (.cells c e (0,0))) (hle:off+len<=xs.length) (L:Rep g (.own b off len) cv) {φ:AV->AV}
  (J:∀row∈(xs.drop off).take len,∀v∈row,(φ v).leaf=true/\∀cv,Rep g v cv->cw M' (φ v) cv):cw M' (.sl .any k (((xs.drop off).take len).map (·.map φ))) cv:=by
 have B:((xs.drop off).take len).length=len:=by simp;omega
 have sub:∀(i:Nat) (row:List AV),((xs.drop off).take len)[i]?=some row->xs[off+i]?=some row:=by grind
 generalize (xs.drop off).take len=ys at B sub J|-
 have C:∀(i:Nat) (row:List AV),(ys.map (·.map φ))[i]?=some row->∃d,ys[i]?=some d/\row=d.map φ:=by simp_all
 have A:∀(j:Nat) (d:List AV) (v:AV),(d.map φ)[j]?=some v->∃u,d[j]?=some u/\v=φ u:=by simp_all
 have p:(ys.map (·.map φ)).length=len:=by rw[jI];exact B
 by_cases h0:len=0
 .subst h0
  have:ys=[]:=qY B;subst this;rcases L.own_inv with⟨l,cap,_,_,_,rfl⟩|⟨_,q,rfl⟩
  .exact .empty .any k _ cap BA BA
  .exact .empty .any k _ 0 BA BA
 rcases L.own_inv with⟨l',cap,T,q2,q3,rfl⟩|⟨hz,_⟩
 case inr=>exact absurd hz h0
 obtain⟨l2,c',e',N,p2,p3,O,p5,p6,Q,R⟩:=S.live b k xs Y;rw[Z] at T N;cases T;cases N;rw[hw] at O;cases O;subst p2
 have:=cw.sl (M:=M') .any l.k (ys.map (·.map φ)) l.cb (l.co+off*l.k) c e (0,0) cap (fun i j=>(c[l.co+(off+i)*l.k+j]?).getD Go.undef)
  (by intro hx;rw[hx] at p;exact h0 p.symm) BA X
  (fun i row G=>by
   obtain⟨d,F,rfl⟩:=C i row G;refine⟨by rw[jI];exact(Q _ _ (sub i d F)).1,fun j v I=>?_⟩;obtain⟨u,H,rfl⟩:=A j d v I
   exact(J d (qC F) u (qC H)).1)
  (fun i j G hj=>by
   rw[p] at G;have F:ys[i]?=some (ys[i]'U):=jP _;have K:=sub i _ F;have a0:=(Q _ _ K).1;obtain⟨cv,a,_⟩:=R _ j _ ((ys[i]'U)[j]'U) K (jP _);have V:l.co+off*l.k+i*l.k+j=l.co+(off+i)*l.k+j:=by rw[qM];omega
   rw[V,a];rfl)
  (fun i j row v G I=>by
   obtain⟨d,F,rfl⟩:=C i row G;obtain⟨u,H,rfl⟩:=A j d v I;obtain⟨cv,a,b⟩:=R _ j _ u (sub i d F) H;rw[a]
   exact(J d (qC F) u (qC H)).2 cv b)
  (by rw[p];exact q2) BA
 rw[p] at this;exact this
theorem uX {E:Env}{g:Gh}{F:Fr}{h:Hp}(i:Nat)(s:iy E n g F h a w):∃g',g.le g'/\iy E n g' (QO (F,h) i).1 (QO (F,h) i).2 a w:=by
 unfold QO;simp only;split
 case h_2=>exact⟨g,Gh.le.refl g,s⟩
 rename_i b off len Q;split
 case h_2=>exact⟨g,Gh.le.refl g,s⟩
 rename_i k A B;split
 case isFalse=>exact⟨g,Gh.le.refl g,s⟩
 rename_i S;obtain⟨hle,p⟩:=S;obtain⟨l,c,e,J,Z,K,L,p5,p6,p7,p8⟩:=s.simH.live b k A B;have N:=s.simH.kill b;have u:=PW s.simH B BA J;have O:=N.freeze L K u;have q:g.le (g.freeze l.cb (.cells c e (0,0))):=Gh.freeze_le K;refine⟨_,q,O,s.defers.mono q,s.dx,fun k o hk=>q.M k o (s.base k o hk),s.size,fun j=>?_⟩;simp only[upd];split
 .rename_i T
  subst T;have I:=s.frame j;rw[Q] at I;have R:(g.freeze l.cb (.cells c e (0,0))).M l.cb=some (.cells c e (0,0)):=by simp [Gh.freeze]
  simp only[LH,zJ] at p
  have:=dY (φ:=id) s.simH B J L R hle I (fun row d v H=>by
   obtain⟨i,Y,rfl⟩:=qR d;obtain⟨X,V,rfl⟩:=qR H;refine⟨?_,fun cv C=>(AV.frozen_rep (p _ d _ H) C).mono q.M⟩;have:=p _ d _ H
   revert this
   generalize (((A.drop off).take len)[i])[X]=y;intro this
   cases y<;>simp_all [AV.frozen,AV.leaf])
  have G:((A.drop off).take len).map (·.map id)=(A.drop off).take len:=by simp_all
  rw[G] at this;exact .fro this
 .exact(s.frame j).mono q
def NS (s:Fr×Hp):List Nat->Fr×Hp
 | []=>s
 | i::r=>NS (QO s i) r
theorem aP {E:Env}{n:Nat}{a:Act}{w:World}:∀(l:List Nat) {g:Gh} {F:Fr} {h:Hp},iy E n g F h a w->∃g',g.le g'/\iy E n g' (NS (F,h) l).1 (NS (F,h) l).2 a w
 | [],g,_,_,s=>⟨g,Gh.le.refl g,s⟩
 | i::r,_,F,h,s=>by
   obtain⟨B,d,q⟩:=uX i s;obtain⟨c,p,A⟩:=aP r q;exact⟨c,d.trans p,A⟩
structure Hint where
 md:Nat->Bool
 fz:Nat->List Nat
def Hint.none:Hint:=⟨fun _=>false,fun _=>[]⟩
def CP (op:Op)(b:Bool):Bool :=
 match op with
 | .buildSlice _ _ _=>b
 | .slice _ _ _ _ _=>b
 | _ => !b
def W (E:Env)(H:Hint)(ds:List (Option Tmp)):List Oper->Fr->Hp->(Fr->Hp->Prop)->Prop
 | [],F,h,K=>K F h
 | o::r,F,h,K=>match OJ ds F o.guard with
   | some c=>(c=true->OT E (CP o.op (H.md (o.dst.getD 0))) o.op (NS (F,h) (H.fz (o.dst.getD 0))).1 (NS (F,h) (H.fz (o.dst.getD 0))).2 fun v d=>W E H ds r (GV (NS (F,h) (H.fz (o.dst.getD 0))).1 o.dst v) d K) /\
     (c=false->W E H ds r (GV F o.dst IK) h K)
   | none=>False
theorem y9 {ρ:Option Nat}{E:Env}{H:Hint}{n:Nat}{ops:Array Oper}{Q:Exit->Act->World->Prop}{K:Fr->Hp->Prop}{g0:Gh}:∀(l:List Oper) (F:Fr) (h:Hp) (g:Gh) (a:Act) (w:World),
  W E H (ops.toList.map (·.dst)) l F h K->iy E n g F h a w->g0.le g->(∀o∈l,∀d,o.dst=some d->d<n) ->
  (∀F' p g' C w',K F' p->g0.le g'->iy E n g' F' p C w'->Q .normal C w') ->
  (∀u p g' C w',E.X u p->g0.le g'->ck E g' p w'->C.defers=[]->Q (.panic [{ v:=u,recovered:=false }]) C w')->wpListIn (FW ρ) 0 E.P ops Q l a w
 | [],F,h,g,a,w,q,s,G,_,hk,_=>hk F h g a w q G s
 | o::r,F,h,g,a,w,q,s,G,J,hk,O=>by
   unfold W at q;split at q
   .rename_i c T
    have B:=dH (o:=o) s T;unfold wpListIn;rw[B]
    cases c with
    | true =>
      simp only[if_true];obtain⟨g1,I,S⟩:=aP (H.fz (o.dst.getD 0)) s;refine(sB (q.1 rfl) S (fun v p Y g' w' cv hle L V=>?_) fun u p Z g' w' hle L N=>O u p g' a w' Z (G.trans (I.trans hle)) L N);exact y9 r _ _ _ _ _ Y (S.put (J o BA) hle L V) (G.trans (I.trans hle)) (fun R A=>J R (by simp [A])) hk O
    | false =>
      simp only[zZ,if_false];refine⟨fun _ _=>trivial,?_⟩;exact y9 r _ _ _ _ _ (q.2 rfl) (s.put (J o BA) (Gh.le.refl g) s.simH (Rep.undef g)) G (fun R A=>J R (by simp [A])) hk O
   .exact q.elim
end Sm
end Go.Proofs.YtiihpnicbekebaaGreatDoor
