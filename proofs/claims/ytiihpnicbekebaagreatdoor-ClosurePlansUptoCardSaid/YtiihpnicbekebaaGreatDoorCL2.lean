/- Part 2 of the proof; no condition. -/
import Derived.RangeFuncLeaves
import Derived.Deep.Draws
import Derived.Test.YtiihpnicbekebaaGreatDoorCL1
set_option linter.unusedVariables false
set_option linter.unusedSimpArgs false
set_option maxRecDepth 8000
open Bool renaming and_eq_true→jY,false_eq_true→zZ,false_or→wF,or_eq_false_iff→wG,or_eq_true→qO
open List renaming all_eq_true→zJ,any_eq_true→qK,append_assoc→zA,contains_cons→jZ,foldl_cons→qU,getD_eq_getElem?_getD→wQ,getElem?_append_left→qF,getElem?_eq_none→wC,getElem?_map→zB,getElem?_set_ne→zY,length_eq_zero_iff→wP,map_congr_left→wB,mem_append→zQ,mem_cons→zM,mem_of_getElem?→qC,take_of_length_le→jK
open Nat renaming add_zero→jR,le_of_ble_eq_true→jB,le_refl→jF,lt_or_ge→zC,zero_add→jG,zero_le→qN
namespace Go.Proofs.YtiihpnicbekebaaGreatDoor
namespace Sm
variable {E:Env} {own:Bool} {op:Op} {F F':Fr} {h h' h1 h2:Hp} {a s v x:AV} {K:AV->Hp->Prop} {P:Program} {ρ:Operand->AV} {i j k n u:Nat} {t:TypeId} {md:Nat->Bool} {o:Oper} {sep:List (Nat×Nat)} {ops:Array Oper} {ds:List (Option Tmp)} {listed:Array Bool} {L:List Nat} {w:World}
def hkB (own:Bool):Builtin->Nat
 | .len=>0
 | .max=>0
 | .min=>0
 | .append=>if own then 2 else 1
 | _=>2
def hk (own:Bool):Op->Nat
 | .move _=>0
 | .assign _=>0
 | .pick _ _ _=>0
 | .build _ _=>0
 | .binOp _ _ _ _ _=>0
 | .unOp _ _ _=>0
 | .convert _ _ _=>0
 | .makeFunc _ _ _=>0
 | .fieldAddr _ _ _=>0
 | .field _ _ _=>0
 | .index _ _ _=>0
 | .extract _ _=>0
 | .nilCheck _=>0
 | .load _ _=>1
 | .slice _ _ _ _ _=>if own then 2 else 1
 | .indexAddr _ _ _=>1
 | .lookup _ _ _ _=>1
 | .buildSlice _ _ _=>if own then 3 else 0
 | .makeSlice _ _ _=>if own then 3 else 0
 | .call c=>match c.callee with
   | .builtin b=>hkB own b
   | _=>if own then 1 else 4
 | .alloc _=>3
 | .makeMap _ _=>3
 | _=>2
def gk (E:Env)(own:Bool)(op:Op)(F:Fr)(h:Hp)(v:AV)(h':Hp):Prop :=
 match op with
 | .call { callee:=.value f,args:=as,.. }=>match ev E F f with
   | .fn (.func c) first b=>h'=h/\a_ E c (first++(as.toList.map (ev E F)++b)) h v/\(own=true->∀x,a_ E c (first++(as.toList.map (ev E F)++b)) (h++x) v)
   | _=>False
 | op=>ep E.P own h (ev E F) op=some (v,h')
theorem gk.exec (b:gk E own op F h v h')(hk:K v h'):OT E own op F h K:=by
 unfold gk at b;unfold OT;split at b
 .split at b
  .rename_i d
   simp only[d];obtain⟨rfl,c,_⟩:=b;exact c.use hk
  .exact b.elim
 .split
  .simp_all
  .simp [ep] at b
  .rw[b];exact hk
theorem kK {ρ ρ':Operand->AV}:∀ {l:List (Nat×Operand)},(∀x∈l.map (·.2),ρ x=ρ' x)->ll ρ l=ll ρ' l
 | [],_=>rfl
 | (i,x)::r,h=>by
   simp only[ll];rw[h x BA,kK (fun y b=>h y (by simp at b|-;exact .inr b))]
theorem yY {ρ':Operand->AV}(d:∀x∈op.operands,ρ x=ρ' x):ep P own h ρ op=ep P own h ρ' op:=by
 cases op<;>simp only[Op.operands] at d<;>simp only[ep]
 case build t ps=>rw[kK (ρ:=ρ) (ρ':=ρ') fun x b=>d x (BQ b)]
 case buildSlice t n ps=>rw[kK (ρ:=ρ) (ρ':=ρ') fun x b=>d x (BQ b)]
 case makeFunc fn first captured =>
  rw[wB (l:=first.toList) fun x b=>d x (by simp at b;simp [b]),wB (l:=captured.toList) fun x b=>d x (by simp at b;simp [b])]
 case call c =>
  have h1:c.args.toList.map ρ=c.args.toList.map ρ':=wB fun x b=>d x (by simp at b;simp [Call.operands,b])
  rw[h1]
 case slice t x lo hi mx=>cases lo<;>cases hi<;>cases mx<;>simp_all
 all_goals (first|rfl|(simp_all;done))
theorem ARJ (c:∀x∈op.operands,ev E F x=ev E F' x)(b:gk E own op F h v h'):gk E own op F' h v h':=by
 unfold gk at *;split at b
 .rename_i f as e
  have h1:ev E F f=ev E F' f:=c f (by simp [Op.operands,Call.operands]);have h2:as.toList.map (ev E F)=as.toList.map (ev E F'):=wB fun x d=>c x (by simp at d;simp [Op.operands,Call.operands,d])
  rw[h1,h2] at b;exact b
 .rw[yY c] at b
  exact b
theorem OX {x:Option AV}(e:f_ h x=some (v,h')):h'=h/\f_ h2 x=some (v,h2):=by
 obtain⟨h1,b⟩:=IG e;rw[h1];exact⟨b,rfl⟩
theorem K_ (e:hk own op=0)(d:ep P own h ρ op=some (v,h')):h'=h/\∀h2,ep P own h2 ρ op=some (v,h2):=by
 cases op<;>simp only[hk] at e<;>first|(cases e;done)|skip
 case move=>simp only[ep] at *;cases d;exact⟨rfl,fun _=>rfl⟩
 case assign=>simp only[ep] at *;cases d;exact⟨rfl,fun _=>rfl⟩
 case pick c a b =>
  simp only[ep] at *;split at d
  .simp_all
  .simp_all
  .cases d
 case nilCheck x =>
  simp only[ep] at *;split at d
  .simp_all
  .simp_all
  .cases d
 case makeFunc=>simp only[ep] at *;cases d;exact⟨rfl,fun _=>rfl⟩
 case extract t i =>
  simp only[ep] at *;split at d
  .exact⟨(OX (h2:=h) d).1,fun h2=>(OX d).2⟩
  .cases d
 case buildSlice t n ps =>
  split at e
  .cases e
  .rename_i g
   have f:own=false:=BQ g;subst f;simp only[ep,DR] at *;split at d
   case h_2=>cases d
   split at d
   case h_2=>cases d
   split at d
   case h_2=>cases d
   split at d
   case h_2=>cases d
   split at d
   case isFalse=>cases d
   try simp only[zZ,if_false] at d
   split at d
   case isFalse=>cases d
   cases d;refine⟨rfl,fun h2=>?_⟩
   simp_all
   assumption
 case makeSlice t l c =>
  split at e
  .cases e
  .rename_i g
   have f:own=false:=BQ g;subst f;simp only[ep,IX] at *;split at d
   case h_2=>cases d
   split at d
   case h_2=>cases d
   split at d
   case h_2=>cases d
   split at d
   case h_2=>cases d
   split at d
   case isFalse=>cases d
   try simp only[zZ,if_false] at d
   split at d
   case isFalse=>cases d
   cases d;refine⟨rfl,fun h2=>?_⟩
   simp_all
 case call c =>
  split at e
  case h_2=>split at e<;>cases e
  rename_i b p;simp only[ep,p] at *
  cases b<;>simp only[hkB] at e<;>first|(cases e;done)|skip
  .split at e<;>cases e
  .simp only[SE] at *
   split at d
   .exact⟨(OX (h2:=h) d).1,fun h2=>(OX d).2⟩
   .cases d
  .simp only[SE] at *
   split at d
   .exact⟨(OX (h2:=h) d).1,fun h2=>(OX d).2⟩
   .cases d
  .simp only[SE] at *
   split at d
   .exact⟨(OX (h2:=h) d).1,fun h2=>(OX d).2⟩
   .cases d
 case slice=>split at e<;>cases e
 all_goals
  simp only[ep] at *;exact⟨(OX (h2:=h) d).1,fun h2=>(OX d).2⟩
theorem K9 (f:hk own op=1)(d:ep P own h ρ op=some (v,h')):h'=h:=by
 cases op<;>simp only[hk] at f<;>first|(cases f;done)|skip
 case load=>simp only[ep] at d;exact(IG d).2
 case slice =>
  split at f
  .cases f
  .rename_i A
   have p:own=false:=BQ A;subst p;simp only[ep] at d;exact(IG d).2
 case indexAddr=>simp only[ep] at d;exact(IG d).2
 case lookup=>simp only[ep] at d;exact(IG d).2
 case buildSlice=>split at f<;>cases f
 case makeSlice=>split at f<;>cases f
 case call c =>
  split at f
  .rename_i b q
   simp only[ep,q] at d
   cases b<;>simp only[hkB] at f<;>first|(cases f;done)|skip
   split at f
   .cases f
   .rename_i A
    have p:own=false:=BQ A;subst p;simp only[SE] at d;split at d
    case h_2=>cases d
    split at d
    case isFalse=>cases d
    unfold EJ at d
    have l:∀(e:TypeId) (m:SM) (k:Nat) (B C:List (List AV)) (g:Option Nat) (s:AV),bump P false h e m k B C g s=some (v,h')->h'=h:=by
     intro e m k B C g s q;unfold bump at q;split at q
     .cases q;rfl
     .grind
    split at d
    case h_2=>cases d
    split at d
    case h_2=>cases d
    split at d
    case h_2=>cases d
    split at d
    .exact l _ _ _ _ _ _ _ d
    .grind
    .grind
    .cases d
  .rename_i q
   simp only[ep] at d
   first
    | (cases d;done)
    | (split at d
       .simp_all
       .cases d)
theorem Xp {r:List AV×Nat}(y:bO)(b:rowAt h a=some r):rowAt (h++[y]) a=some r:=by
 unfold rowAt at *;split at b
 .grind
 .exact b
 .cases b
theorem kP {r:Nat×List (List AV)}(y:bO)(b:JR h a=some r):JR (h++[y]) a=some r:=by
 unfold JR at *;split at b
 .exact b
 .grind
 .cases b
theorem Dy {ys:List (List AV)}(y:bO)(b:TC P h k t x=some ys):TC P (h++[y]) k t x=some ys:=by
 unfold TC at *;split at b
 .exact b
 .split at b
  .rename_i c
   simp only[kP y c];exact b
  .cases b
 .cases b
theorem rJ {t0 c:TypeId}(y:bO)(b:OG P h t0 c s x=true):OG P (h++[y]) t0 c s x=true:=by
 unfold OG at *;split at b
 .split at b
  .split at b
   .rename_i h1 h2
    simp only[Dy y h1,kP y h2];exact b
   .cases b
  .cases b
 .cases b
theorem tE {e:TypeId}{m:SM}{xs ys:List (List AV)}{b:Option Nat}(y:bO)(c:bump P false h e m k xs ys b s=some (v,h')):bump P false (h++[y]) e m k xs ys b s=some (v,h++[y]):=by
 unfold bump at *;split at c
 .simp_all
 .rename_i d
  rw[if_neg d];split at c
  .split at c
   .rename_i f
    rw[if_pos f]
    cases b<;>simp at c|-
    exact c.1
   .cases c
  .cases c
theorem Um {t0 d:TypeId}(y:bO)(b:EJ P false h t0 d s x=some (v,h')):EJ P false (h++[y]) t0 d s x=some (v,h++[y]):=by
 unfold EJ at *;split at b
 case h_2=>cases b
 split at b
 case h_2=>cases b
 split at b
 case h_2=>cases b
 rename_i e;simp only[Dy y e];split at b
 .exact tE y b
 .split at b
  .rename_i c;rw[if_pos c];exact tE y b
  .cases b
 .split at b
  .rename_i f
   simp only[kP y f];split at b
   .rename_i c;rw[if_pos c];exact tE y b
   .cases b
  .cases b
 .cases b
theorem ARB (y:bO)(b:BR P h t a=some v):BR P (h++[y]) t a=some v:=by
 unfold BR at *;split at b
 .rename_i h1;simp only[Xp y h1];exact b
 .cases b
theorem Wf {lo c d:Option AV}(y:bO)(b:IW P h t x lo c d=some v):IW P (h++[y]) t x lo c d=some v:=by
 unfold IW at *;split at b
 .exact b
 .split at b
  .exact b
  .grind
  .cases b
 .cases b
theorem tT {c:AV}(y:bO)(b:FC P h t a c=some v):FC P (h++[y]) t a c=some v:=by
 unfold FC at *;split at b
 .split at b
  .grind
  .exact b
  .cases b
 .cases b
theorem Ul {m k:AV}{b:Bool}(y:bO)(c:oD P h t m k b=some v):oD P (h++[y]) t m k b=some v:=by cases c
theorem nM {x b:Option AV}(y:bO)(d:∀v,x=some v->b=some v)(c:f_ h x=some (v,h')):f_ (h++[y]) b=some (v,h++[y]):=by
 obtain⟨h1,h2⟩:=IG c;rw[d v h1];rfl
theorem Ui (y:bO)(d:hk own op=1)(e:ep P own h ρ op=some (v,h')):ep P own (h++[y]) ρ op=some (v,h++[y]):=by
 cases op<;>simp only[hk] at d<;>first|(cases d;done)|skip
 case load=>simp only[ep] at *;exact nM y (fun _=>ARB y) e
 case slice =>
  split at d
  .cases d
  .rename_i l
   have f:own=false:=BQ l;subst f;simp only[ep] at *;exact nM y (fun _=>Wf y) e
 case indexAddr=>simp only[ep] at *;exact nM y (fun _=>tT y) e
 case lookup=>simp only[ep] at *;exact nM y (fun _=>Ul y) e
 case buildSlice=>split at d<;>cases d
 case makeSlice=>split at d<;>cases d
 case call c =>
  split at d
  .rename_i b p
   simp only[ep,p] at *
   cases b<;>simp only[hkB] at d<;>first|(cases d;done)|skip
   split at d
   .cases d
   .rename_i l
    have f:own=false:=BQ l;subst f;simp only[SE] at *;split at e
    case h_2=>cases e
    split at e
    case isFalse=>cases e
    rename_i g;simp only[wF] at g;simp only[rJ y g,Bool.or_true,if_true];exact Um y e
  .rename_i p
   simp only[ep] at e
   first
    | (cases e;done)
    | (split at e
       .simp_all
       .cases e)
theorem Lf (y:bO)(c:hk own op=1)(b:gk E own op F h v h'):gk E own op F (h++[y]) v (h++[y]):=by
 unfold gk at *;split at b
 .split at b
  .obtain⟨_,_,h2⟩:=b
   have d:own=true:=by
    simp only[hk] at c;cases own
    .simp at c
    .rfl
   refine⟨rfl,h2 d [y],fun _ x=>?_⟩;rw[List.append_assoc];exact h2 d _
  .exact b.elim
 .exact Ui y c b
theorem ARK (d:hk own op=3)(e:gk E own op F h v h'):∃y,h'=h++[y]:=by
 cases op<;>simp only[hk] at d<;>first|(cases d;done)|skip
 case slice=>split at d<;>cases d
 case makeMap t r =>
  simp only[gk,ep] at e
  cases r with
  | none=>cases e;exact⟨_,rfl⟩
  | some r=>cases e
 case alloc t =>
  simp only[gk,ep,H9,OU] at e;split at e
  .grind
  .cases e
 case buildSlice =>
  split at d
  .rename_i f
   subst f;simp only[gk,ep,DR] at e
   repeat' split at e
   all_goals first|(cases e;done)|(cases e;exact⟨_,rfl⟩)|simp_all
  .cases d
 case makeSlice =>
  split at d
  .rename_i f
   subst f;simp only[gk,ep,IX] at e
   repeat' split at e
   all_goals first|(cases e;done)|(cases e;exact⟨_,rfl⟩)|simp_all
  .cases d
 case call c =>
  split at d
  .rename_i b g
   cases b<;>simp only[hkB] at d<;>first|(cases d;done)|(split at d<;>cases d)
  .split at d<;>cases d
theorem Le (b:hk own op=0)(c:gk E own op F h v h'):h'=h/\∀h2,gk E own op F h2 v h2:=by
 unfold gk at *;split at c
 .simp only[hk] at b
  split at b<;>cases b
 .exact K_ b c
theorem Ld (d:hk own op=1\/hk own op=4)(e:gk E own op F h v h'):h'=h:=by
 unfold gk at *;split at e
 .grind
 .rename_i g
  rcases d with d|d
  .exact K9 d e
  .exfalso
   cases op<;>simp only[hk] at d<;>first|(cases d;done)|skip
   case buildSlice=>split at d<;>cases d
   case makeSlice=>split at d<;>cases d
   case slice=>split at d<;>cases d
   case call c =>
    split at d
    .rename_i b f
     cases b<;>simp only[hkB] at d<;>first|(cases d;done)|(split at d<;>cases d)
    .rename_i f
     simp only[ep] at e
     first
      | (cases e;done)
      | (split at e
         .simp_all
         .cases e)
def fj (E:Env)(op:Op)(F:Fr)(h:Hp)(v:AV)(h':Hp):Prop :=
 match op with
 | .call { callee:=.value f,args:=as,.. }=>match ev E F f with
   | .fn (.func c) first b=>ACalls E c (first++(as.toList.map (ev E F)++b)) h fun d h1=>d=v/\h1=h'
   | _=>False
 | _=>False
theorem fj.exec (b:fj E op F h v h')(hk:K v h'):OT E own op F h K:=by
 unfold fj at b;unfold OT;split at b
 .split at b
  .rename_i e
   simp only[e];exact b.mono fun f h1 ⟨c,d⟩=>by rw[c,d];exact hk
  .exact b.elim
 .exact b.elim
theorem Ug (c:∀x∈op.operands,ev E F x=ev E F' x)(b:fj E op F h v h'):fj E op F' h v h':=by
 unfold fj at *;split at b
 .rename_i f as e
  have h1:ev E F f=ev E F' f:=c f (by simp [Op.operands,Call.operands]);have h2:as.toList.map (ev E F)=as.toList.map (ev E F'):=wB fun x d=>c x (by simp at d;simp [Op.operands,Call.operands,d])
  rw[h1,h2] at b;exact b
 .exact b.elim
def du (E:Env)(md:Nat->Bool)(o:Oper)(F:Fr)(h:Hp)(v:AV)(h':Hp):Prop :=
 match md (o.dst.getD 0+1000000) with
 | false=>gk E (md (o.dst.getD 0)) o.op F h v h'
 | true=>fj E o.op F h v h'
def k8 (md:Nat->Bool)(o:Oper):Nat :=
 match md (o.dst.getD 0+1000000) with
 | false=>hk (md (o.dst.getD 0)) o.op
 | true=>2
theorem du.exec {E:Env}{md:Nat->Bool}{o:Oper}{F:Fr}{h h':Hp}{v:AV}{K:AV->Hp->Prop}(b:du E md o F h v h')(hk:K v h'):OT E (md (o.dst.getD 0)) o.op F h K:=by
 unfold du at b;split at b
 .exact b.exec hk
 .exact b.exec hk
theorem eW (c:∀x∈o.op.operands,ev E F x=ev E F' x)(b:du E md o F h v h'):du E md o F' h v h':=by
 unfold du at *;split at b
 .exact ARJ c b
 .exact Ug c b
theorem uB (b:k8 md o=0)(c:du E md o F h v h'):h'=h/\∀h2,du E md o F h2 v h2:=by
 unfold du at *;unfold k8 at b;split at c
 .rename_i d;simp only[d] at b|-;exact Le b c
 .simp_all
theorem uA (b:k8 md o=1\/k8 md o=4)(c:du E md o F h v h'):h'=h:=by
 unfold du at c;unfold k8 at b;split at c
 .rename_i d;simp only[d] at b;exact Ld b c
 .simp_all
theorem AWZ (y:bO)(b:k8 md o=1)(c:du E md o F h v h'):du E md o F (h++[y]) v (h++[y]):=by
 unfold du at *;unfold k8 at b;split at c
 .rename_i d;simp only[d] at b|-;exact Lf y b c
 .simp_all
theorem Xf (b:k8 md o=3)(c:du E md o F h v h'):∃y,h'=h++[y]:=by
 unfold du at c;unfold k8 at b;split at c
 .rename_i d;simp only[d] at b;exact ARK b c
 .simp_all
def fe (E:Env)(md:Nat->Bool)(ds:List (Option Tmp))(o:Oper)(s b:Fr×Hp):Prop :=
 (OJ ds s.1 o.guard=some true/\∃v h',du E md o s.1 s.2 v h'/\b=(GV s.1 o.dst v,h')) \/
 (OJ ds s.1 o.guard=some false/\b=(GV s.1 o.dst IK,s.2))
def cL:AV->AV->Prop
 | .ptr b _ _,.ptr c _ _=>b≠c
 | _,_=>True
def SN (F:Fr):List (Nat×Nat)->Prop
 | []=>True
 | (t,u)::r=>cL (F t) (F u)/\SN F r
def dU (sep:List (Nat×Nat))(t u:Nat):Bool:=sep.any fun p=>(p.1==t&&p.2==u)||(p.1==u&&p.2==t)
def ti (sep:List (Nat×Nat))(op:Op)(u:Nat):Bool:=match op with
 | .fieldAddr _ (.tmp t) _=>dU sep t u
 | _=>false
def cV (sep:List (Nat×Nat))(ops:List Oper):Bool:=ops.all fun o=>match o.dst with
 | none=>true
 | some d=>sep.all fun p=>p.1 != p.2&&(p.1 != d||ti sep o.op p.2)&&(p.2 != d||ti sep o.op p.1)
theorem bF {b:AV}(h:cL a b):cL b a:=by
 cases a<;>cases b<;>simp only[cL] at * <;> exact Ne.symm h
theorem tV {F:Fr}:∀ {sep:List (Nat×Nat)},SN F sep↔∀p∈sep,cL (F p.1) (F p.2)
 | []=>⟨fun _ _ h=>by (cases h),fun _=>trivial⟩
 | (a,b)::r=>by
   unfold SN;rw[tV];simp only[zM,forall_eq_or_imp]
theorem iC {t:Nat}(d:SN F sep)(h:dU sep t u=true):cL (F t) (F u):=by
 unfold dU at h;rw[qK] at h;obtain⟨p,c,b⟩:=h;have:=tV.1 d p c;simp only[qO,jY,beq_iff_eq] at b;rcases b with⟨h1,h2⟩|⟨h1,h2⟩
 .rw[h1,h2] at this;exact this
 .rw[h1,h2] at this;exact bF this
theorem uZ {y:AV}{f:Nat}(b:BM P t x f=some v)(c:cL x y):cL v y:=by
 unfold BM at b;split at b
 case h_2=>cases b
 split at b
 case h_2=>cases b
 split at b
 case h_2=>cases b
 split at b
 .cases b
  cases y<;>simp only[cL] at * <;> exact c
 .cases b;exact trivial
 .cases b
theorem Gz {d:Tmp}(c:SN F sep)(e:∀p∈sep,p.1≠p.2/\(p.1=d->cL v (F p.2))/\(p.2=d->cL (F p.1) v)):SN (upd F d v) sep:=by
 rw[tV] at *;intro p b;obtain⟨f,h1,h2⟩:=e p b;have g:=c p b;simp only[upd];by_cases e1:p.1=d
 .grind
 .grind
theorem oV (y:AV):cL IK y:=by unfold IK;trivial
theorem W8 {ops:List Oper}(b:cV sep ops=true)(f:o∈ops)(c:SN F sep):SN (GV F o.dst IK) sep:=by
 have:=zJ.1 b o f
 cases e:o.dst with
 | none=>exact c
 | some d =>
   rw[e] at this;simp only[zJ,jY,bne_iff_ne] at this;exact Gz c fun p g=>⟨(this p g).1.1,fun _=>oV _,fun _=>bF (oV _)⟩
def qf (sep:List (Nat×Nat))(x y:Op):Bool:=match x,y with
 | .load _ (.tmp t),.store _ (.tmp u) _=>dU sep t u
 | .store _ (.tmp t) _,.load _ (.tmp u)=>dU sep t u
 | .store _ (.tmp t) _,.store _ (.tmp u) _=>dU sep t u
 | .indexAddr _ _ _,.store _ _ _=>true
 | .store _ _ _,.indexAddr _ _ _=>true
 | _,_=>false
def XD (md:Nat->Bool)(sep:List (Nat×Nat))(x y:Oper):Bool :=
 let a:=k8 md x
 let b:=k8 md y
 a==0||b==0||((a==1||a==4)&&(b==1||b==4))||(a==1&&b==3)||qf sep x.op y.op
theorem Du {c i' j':Nat}{b:bO}(d:cL a (.ptr c i' j')):BR P (h.set c b) t a=BR P h t a:=by
 have:rowAt (h.set c b) a=rowAt h a:=by
  cases a<;>simp only[rowAt];rw[zY (Ne.symm d)]
 unfold BR;rw[this]
theorem VZ (c:D7 P h t a v=some h'):∃b i j,a=.ptr b i j:=by
 unfold D7 at c;split at c
 .exact⟨_,_,_,rfl⟩
 .cases c
theorem WT {b:Nat}(c:D7 P h t (.ptr b i j) v=some h'):∃d,h'=h.set b d/\∀h2:Hp,h2[b]?=h[b]?->D7 P h2 t (.ptr b i j) v=some (h2.set b d):=by
 simp only[D7] at c;split at c
 case h_2=>cases c
 rename_i k A f;split at c
 case h_2=>cases c
 rename_i row p;split at c
 case h_2=>cases c
 rename_i q g;split at c
 case isFalse=>cases c
 rename_i e;cases c;refine⟨_,rfl,fun h2 l=>?_⟩;simp only[D7,l,f,p,g];rw[if_pos e]
theorem X3 {p:TypeId}{f b:AV}(c:D7 P h p b v=some h'):FC P h' t a f=FC P h t a f:=by
 obtain⟨l,A,B,rfl⟩:=VZ c;simp only[D7] at c;split at c
 case h_2=>cases c
 rename_i k C q;split at c
 case h_2=>cases c
 split at c
 case h_2=>cases c
 split at c
 case isFalse=>cases c
 cases c;unfold FC;cases f<;>try rfl
 cases P.underlying t with
 | none=>rfl
 | some d =>
   cases d<;>try rfl
   cases a<;>try rfl
   rename_i g off len;by_cases e:g=l
   .grind
   .simp only[zY (Ne.symm e)]
theorem Gi {x y:Op}(b:qf sep x y=true):¬fj E x F h v h1/\¬fj E y F h v h1:=by
 unfold qf at b;split at b
 case h_6=>cases b
 all_goals exact⟨fun h=>h,fun h=>h⟩
theorem Lc {J M:Bool}{x y:Op}{u:AV}(I:SN F sep)(B:qf sep x y=true)(f:gk E J x F h v h1)(g:gk E M y F h1 u h2):
  ∃h',gk E M y F h u h'/\gk E J x F h' v h2:=by
 unfold qf at B;split at B
 case h_6=>cases B
 .rename_i t a N c z
  have b:=iC I B
  simp only[gk,ep,ev] at f g|-
  obtain⟨e,rfl⟩:=IG f;obtain⟨d,rfl⟩:=UE g;obtain⟨A,S,V,H⟩:=VZ d;rw[H] at b
  simp only[H] at d|-
  obtain⟨p,rfl,_⟩:=WT d;exact⟨_,by rw[d];rfl,by rw[Du b,e];rfl⟩
 .rename_i t a z N c
  have b:=iC I B
  simp only[gk,ep,ev] at f g|-
  obtain⟨e,rfl⟩:=UE f;obtain⟨d,rfl⟩:=IG g;obtain⟨C,R,T,G⟩:=VZ e;rw[G] at b
  simp only[G] at e|-
  obtain⟨p,rfl,_⟩:=WT e;rw[Du (bF b)] at d;exact⟨_,by rw[d];rfl,by rw[e];rfl⟩
 .rename_i t a z N c Z
  have b:=iC I B
  simp only[gk,ep,ev] at f g|-
  obtain⟨e,rfl⟩:=UE f;obtain⟨d,rfl⟩:=UE g;obtain⟨C,R,T,G⟩:=VZ e;obtain⟨A,S,V,H⟩:=VZ d;rw[G,H] at b;have q:C≠A:=b
  simp only[G,H] at e d|-
  obtain⟨p,rfl,X⟩:=WT e;obtain⟨l,rfl,Y⟩:=WT d;have O:h[A]?=(h.set C p)[A]? := by rw[zY q]
  have Q:(h.set A l)[C]?=h[C]? := by rw[zY (Ne.symm q)]
  refine⟨h.set A l,by rw[Y h O];rfl,?_⟩;rw[X _ Q,List.set_comm _ _ q];rfl
 .simp only[gk,ep] at f g|-
  obtain⟨e,rfl⟩:=IG f;obtain⟨d,rfl⟩:=UE g;exact⟨_,by rw[d];rfl,by rw[X3 d,e];rfl⟩
 .simp only[gk,ep] at f g|-
  obtain⟨e,rfl⟩:=UE f;obtain⟨d,rfl⟩:=IG g;rw[X3 e] at d;exact⟨_,by rw[d];rfl,by rw[e];rfl⟩
theorem NC (F:Fr){x y:Option Tmp}(v u:AV)(h:∀d,x=some d->y≠some d):GV (GV F x v) y u=GV (GV F y u) x v:=by
 cases x with
 | none=>rfl
 | some d =>
   cases y with
   | none=>rfl
   | some e =>
     have b:e≠d:=fun c=>h d rfl (c▸rfl)
     funext i;simp only[GV,upd];by_cases h1:i=e
     .subst h1;simp [b]
     .simp [h1]
theorem ux {dst:Option Tmp}{x:Operand}(h:∀d,dst=some d->x≠.tmp d):ev E (GV F dst v) x=ev E F x:=by
 cases dst with
 | none=>rfl
 | some d =>
   cases x with
   | tmp t =>
     have:t≠d:=fun e=>h d rfl (e▸rfl)
     simp [ev,GV,upd,this]
   | _=>rfl
theorem fT {d:Tmp}(h:d ∉ o.looksAt ops):∀x∈o.op.operands,x≠.tmp d:=by
 intro x c b;subst b;refine h (zQ.2 (.inl ?_));rw[List.mem_filterMap];exact⟨.tmp d,BQ c,rfl⟩
theorem eZ {dst:Option Tmp}(h:∀d,dst=some d->d ∉ o.looksAt ops):
  OJ (ops.toList.map (·.dst)) (GV F dst v) o.guard=OJ (ops.toList.map (·.dst)) F o.guard:=by
 unfold OJ;split
 .rfl
 .rename_i j f p
  rw[y7];have b:(ops.toList[j]?).bind (·.dst)=(ops[j]?).bind (·.dst):=BA;rw[b]
  cases g:(ops[j]?).bind (·.dst) with
  | none=>rfl
  | some d =>
    simp only
    have:GV F dst v d=F d:=by
     cases dst with
     | none=>rfl
     | some e =>
       have c:d≠e:=by
        intro l;subst l;refine h d rfl (zQ.2 (.inr ?_));rw[p];simp [g]
       simp [GV,upd,c]
    rw[this]
theorem AWY {x y:Oper}{u:AV}(e:SN F sep)(b:qf sep x.op y.op=true)(c:du E md x F h v h1)(d:du E md y F h1 u h2):
  ∃h',du E md y F h u h'/\du E md x F h' v h2:=by
 unfold du at *;split at c
 case h_2=>exact absurd c (Gi b).1
 rename_i f;split at d
 case h_2=>exact absurd d (Gi b).2
 rename_i g;exact Lc e b c d
theorem uD {E:Env}{md:Nat->Bool}{sep:List (Nat×Nat)}{ops:Array Oper}{x y:Oper}{s V X:Fr×Hp}(G:SN s.1 sep)(M:x.apart ops y=true)(C:XD md sep x y=true)
  (Z:fe E md (ops.toList.map (·.dst)) x s V) (hy:fe E md (ops.toList.map (·.dst)) y V X):∃t,fe E md (ops.toList.map (·.dst)) y s t/\fe E md (ops.toList.map (·.dst)) x t X:=by
 obtain⟨S,l,T⟩:=Oper.apart_spec M;obtain⟨F,h⟩:=s
 have B:∀ {v u:AV} {h1 h2:Hp},du E md y (GV F x.dst v) h1 u h2->du E md y F h1 u h2:=fun N =>
  eW (fun z A=>ux fun d q O=>fT (S d q) z A O) N
 have e:∀ {v u:AV} {h1 h2:Hp},du E md x F h1 u h2->du E md x (GV F y.dst v) h1 u h2:=fun N =>
  eW (fun z A=>(ux fun d q O=>fT (T d q) z A O).symm) N
 have H:∀v,OJ (ops.toList.map (·.dst)) (GV F x.dst v) y.guard=OJ (ops.toList.map (·.dst)) F y.guard:=fun v=>eZ S
 have p:∀v,OJ (ops.toList.map (·.dst)) (GV F y.dst v) x.guard=OJ (ops.toList.map (·.dst)) F x.guard:=fun v=>eZ T
 rcases Z with⟨f,v,h1,g,rfl⟩|⟨f,rfl⟩<;>rcases hy with⟨c,u,h2,Q,rfl⟩|⟨c,rfl⟩
 .simp only at *
  rw[H] at c;have b:=B Q;simp only[XD,qO,jY,beq_iff_eq] at C;rcases C with (((hc|hc)|⟨hc1,hc2⟩)|⟨hc1,hc2⟩)|hc
  .obtain⟨rfl,A⟩:=uB hc g
   exact⟨(GV F y.dst u,h2),.inl ⟨c,u,h2,b,rfl⟩,.inl ⟨by rw[p];exact f,v,h2,e (A h2),by rw[NC F v u l]⟩⟩
  .obtain⟨rfl,A⟩:=uB hc b
   exact⟨(GV F y.dst u,h),.inl ⟨c,u,h,A h,rfl⟩,.inl ⟨by rw[p];exact f,v,_,e g,by rw[NC F v u l]⟩⟩
  .have J:=uA hc1 g
   subst J;have Y:=uA hc2 b;subst Y;exact⟨(GV F y.dst u,_),.inl ⟨c,u,_,b,rfl⟩,.inl ⟨by rw[p];exact f,v,_,e g,by rw[NC F v u l]⟩⟩
  .have J:=uA (.inl hc1) g
   subst J;obtain⟨I,rfl⟩:=Xf hc2 b;exact⟨(GV F y.dst u,_),.inl ⟨c,u,_,b,rfl⟩,.inl ⟨by rw[p];exact f,v,_,e (AWZ I hc1 g),by rw[NC F v u l]⟩⟩
  .obtain⟨R,r1,r2⟩:=AWY G hc g b
   exact⟨(GV F y.dst u,R),.inl ⟨c,u,R,r1,rfl⟩,.inl ⟨by rw[p];exact f,v,_,e r2,by rw[NC F v u l]⟩⟩
 .simp only at *
  rw[H] at c;exact⟨(GV F y.dst IK,h),.inr ⟨c,rfl⟩,.inl ⟨by rw[p];exact f,v,h1,e g,by rw[NC F v IK l]⟩⟩
 .simp only at *
  rw[H] at c;exact⟨(GV F y.dst u,h2),.inl ⟨c,u,h2,B Q,rfl⟩,.inr ⟨by rw[p];exact f,by rw[NC F IK u l]⟩⟩
 .simp only at *
  rw[H] at c;exact⟨(GV F y.dst IK,h),.inr ⟨c,rfl⟩,.inr ⟨by rw[p];exact f,by rw[NC F IK IK l]⟩⟩
def im (E:Env)(md:Nat->Bool)(ops:Array Oper)(Q:Fr×Hp->Prop):Nat->Array Bool->Fr×Hp->Prop
 | 0,listed,s=>Region.ready .any ops listed=[]/\Q s
 | b+1,listed,s=>(Region.ready .any ops listed=[]->Q s) /\
   ∀i∈Region.ready .any ops listed,∃o c,ops[i]?=some o/\fe E md (ops.toList.map (·.dst)) o s c/\im E md ops Q b (listed.setIfInBounds i true) c
theorem AUO (h:ti sep op u=true):∃ty t f,op=.fieldAddr ty (.tmp t) f/\dU sep t u=true:=by
 unfold ti at h;split at h
 .exact⟨_,_,_,rfl,h⟩
 .cases h
theorem Jf (g:SN F sep)(c:ti sep o.op u=true)(b:du E md o F h v h'):cL v (F u):=by
 obtain⟨l,t,f,e,d⟩:=AUO c;have h1:=iC g d;unfold du at b;rw[e] at b;split at b
 .simp only[gk,ep,ev] at b
  exact uZ (IG b).1 h1
 .exact b.elim
theorem X4 {ops:List Oper}{s A:Fr×Hp}(c:cV sep ops=true)(q:o∈ops)(f:SN s.1 sep)(h:fe E md ds o s A):SN A.1 sep:=by
 rcases h with⟨_,v,h',l,rfl⟩|⟨_,rfl⟩
 .have:=zJ.1 c o q
  cases b:o.dst with
  | none=>exact f
  | some d =>
    rw[b] at this;simp only[zJ,jY,qO,bne_iff_ne] at this;refine Gz f fun p g=>⟨(this p g).1.1,fun e=>?_,fun e=>?_⟩
    .rcases (this p g).1.2 with h1|h1
     .exact absurd e h1
     .exact Jf f h1 l
    .rcases (this p g).2 with h1|h1
     .exact absurd e h1
     .exact bF (Jf f h1 l)
 .exact W8 c q f
theorem fS (h:ops[i]?=some o):o∈ops.toList:=by grind
theorem tQ {E:Env}{md:Nat->Bool}{sep:List (Nat×Nat)}{ops:Array Oper}{Q:Fr×Hp->Prop}{i:Nat}{A:Oper}(O:cV sep ops.toList=true)(hi:ops[i]?=some A)(r:Nat->Bool)
  (V:∀j f,ops[j]?=some f->r j=true->j≠i->∃e∈f.after,Region.binds .any e=true/\r e.on=true):∀(fuel:Nat) (listed:Array Bool) (s J:Fr×Hp),
  (∀j,r j=true->listed.getD j true=false) ->
  (∀j f,ops[j]?=some f->j≠i->listed.getD j true=false->r j=false->A.apart ops f=true/\XD md sep A f=true)->SN s.1 sep ->
  i∈Region.ready .any ops listed->fe E md (ops.toList.map (·.dst)) A s J->im E md ops Q fuel (listed.setIfInBounds i true) J->im E md ops Q (fuel+1) listed s:=by
 intro fuel
 induction fuel with
 | zero =>
   intro listed s J _ _ _ q Y H;refine⟨fun h=>(by rw[h] at q;cases q),fun j I=>?_⟩;by_cases hji:j=i
   .grind
   .have:=ready_mono I hji
    rw[H.1] at this;cases this
 | succ fuel ih =>
   intro listed s J a0 b T q Y H;refine⟨fun h=>(by rw[h] at q;cases q),fun j I=>?_⟩;by_cases hji:j=i
   .grind
   .obtain⟨f,s2,d,R,p⟩:=H.2 j (ready_mono I hji)
    obtain⟨g,a1,l,S⟩:=mem_ready.1 I;rw[d] at l;cases l;have B:r j=false:=by grind
    obtain⟨q1,q2⟩:=b j f d hji g B;obtain⟨t,Z,t2⟩:=uD T q1 q2 Y R
    have C:∀k,r k=true->(listed.setIfInBounds j true).getD k true=false:=fun k hk=>by
     by_cases hjk:j=k
     .subst hjk;rw[B] at hk;cases hk
     .simp_all
    have c:∀k G,ops[k]?=some G->k≠i->(listed.setIfInBounds j true).getD k true=false->r k=false->A.apart ops G=true/\XD md sep A G=true:=fun k G hk M X N=>by
     refine b k G hk M ?_ N;by_cases hjk:j=k
     .subst hjk;exact g
     .simp_all
    refine⟨f,t,d,Z,ih (listed.setIfInBounds j true) t s2 C c (X4 O (fS d) T Z) (ready_mono q (Ne.symm hji)) t2 ?_⟩;rw[Array.setIfInBounds_comm _ _ hji];exact p
def ru (acc:List Nat)(b:List Edge):Nat:=b.foldl (fun s e=>if Region.binds .any e then s ||| (2^e.on ||| acc.getD e.on 0) else s) 0
def nB:List Oper->List Nat->List Nat
 | [],acc=>acc
 | o::r,acc=>nB r (acc++[ru acc o.after.toList])
def rowOk (md:Nat->Bool)(sep:List (Nat×Nat))(ops:Array Oper)(k:Nat)(x:Oper):List Oper->List Nat->Bool
 | y::r,m::ms=>(m.testBit k||(XD md sep x y&&x.apart ops y))&&rowOk md sep ops k x r ms
 | _,_=>true
def nL (md:Nat->Bool)(sep:List (Nat×Nat))(ops:Array Oper):List Oper->List Nat->Nat->Bool
 | x::r,_::ms,k=>rowOk md sep ops k x r ms&&nL md sep ops r ms (k+1)
 | _,_,_=>true
def aD:List Oper->Nat->Bool
 | [],_=>true
 | o::r,k=>o.after.toList.all (fun e => !(Region.binds .any e)||Nat.blt e.on k)&&aD r (k+1)
def s7 (md:Nat->Bool)(sep:List (Nat×Nat))(ops:Array Oper):Bool:=aD ops.toList 0&&nL md sep ops ops.toList (nB ops.toList []) 0
theorem eA:∀ {l:List Oper} {k:Nat},aD l k=true->∀(i:Nat) (o:Oper),l[i]?=some o->∀e∈o.after,Region.binds .any e=true->e.on<k+i
 | [],_,_,i,o,h=>by simp at h
 | x::l,k,b,i,o,h=>by
   simp only[aD,jY] at b;intro e d c
   cases i with
   | zero =>
     simp at h;subst h;have:=zJ.1 b.1 e (BQ d);rw[c] at this;simp only[Bool.not_true,wF,Nat.blt_eq] at this;exact this
   | succ i =>
     have:=eA b.2 i o (BQ h) e d c;omega
theorem pE {md:Nat->Bool}{sep:List (Nat×Nat)}{ops:Array Oper}{k:Nat}{x:Oper}:∀ {l:List Oper} {b:List Nat},rowOk md sep ops k x l b=true->∀(j:Nat) (y:Oper),l[j]?=some y->j<b.length ->
  (b.getD j 0).testBit k=true\/(x.apart ops y=true/\XD md sep x y=true)
 | [],_,_,j,y,h,_=>by simp at h
 | _::_,[],_,j,y,_,h=>by simp at h
 | z::l,m::b,c,j,y,h,d=>by
   simp only[rowOk,jY,qO] at c
   cases j with
   | zero =>
     simp at h;subst h;rcases c.1 with h1|h1
     .exact .inl (BQ h1)
     .exact .inr ⟨h1.2,h1.1⟩
   | succ j =>
     have:=pE c.2 j y (BQ h) (BQ d);simpa using this
theorem fN {md:Nat->Bool}{sep:List (Nat×Nat)}{ops:Array Oper}:∀ {l:List Oper} {e:List Nat} {k:Nat},nL md sep ops l e k=true->e.length=l.length->∀(i j:Nat) (x y:Oper),i<j->l[i]?=some x->l[j]?=some y ->
  (e.getD j 0).testBit (k+i)=true\/(x.apart ops y=true/\XD md sep x y=true)
 | [],_,_,_,_,i,j,x,y,_,h,_=>by simp at h
 | _::_,[],_,_,d,_,_,_,_,_,_,_=>by simp at d
 | z::l,m::e,k,f,d,i,j,x,y,p,g,q=>by
   simp only[nL,jY] at f;simp at d;obtain⟨c,rfl⟩:∃c,j=c+1:=⟨j-1,U⟩;have b:l[c]?=some y:=BQ q
   cases i with
   | zero =>
     simp at g;subst g;have:=pE f.1 c y b (by have:=AY b;omega);simpa using this
   | succ i =>
     have:=fN f.2 d i c x y U (BQ g) b;rw[show k+1+i=k+(i+1) by omega] at this;simpa using this
theorem xJ {acc:List Nat}{k:Nat}:∀(b:List Edge) (s:Nat),(b.foldl (fun s e=>if Region.binds .any e then s ||| (2^e.on ||| acc.getD e.on 0) else s) s).testBit k=true->s.testBit k=true\/∃e∈b,Region.binds .any e=true/\(e.on=k\/(acc.getD e.on 0).testBit k=true)
 | [],s,h=>.inl h
 | e::b,s,h=>by
   rw[qU] at h;rcases xJ b _ h with h1|⟨c,h1,h2⟩
   .grind
   .exact .inr ⟨c,by simp [h1],h2⟩
theorem lC:∀(l:List Oper) (acc:List Nat),∃b,nB l acc=acc++b/\b.length=l.length/\∀(i:Nat) (o:Oper),l[i]?=some o->(nB l acc).getD (acc.length+i) 0=ru ((nB l acc).take (acc.length+i)) o.after.toList
 | [],acc=>⟨[],by simp [nB],rfl,fun i o h=>by simp at h⟩
 | x::l,acc=>by
   obtain⟨b,h1,h2,c⟩:=lC l (acc++[ru acc x.after.toList]);have e:nB (x::l) acc=nB l (acc++[ru acc x.after.toList]):=rfl;refine⟨ru acc x.after.toList::b,by rw[e,h1];simp,by simp [h2],fun i o h=>?_⟩;rw[e]
   cases i with
   | zero =>
     simp at h;subst h;rw[h1];simp [wQ]
   | succ i =>
     have:=c i o (BQ h);rw[List.length_append,List.length_singleton] at this;rw[show acc.length+(i+1)=acc.length+1+i by omega];exact this
def QS (ops:Array Oper)(k j:Nat):Bool:=((nB ops.toList []).getD j 0).testBit k
theorem YG (ops:Array Oper):(nB ops.toList []).length=ops.size:=by
 obtain⟨b,h1,h2,_⟩:=lC ops.toList [];rw[h1];simp [h2]
theorem bB (h:QS ops k j=true):j<ops.size:=by
 rcases zC j ops.size with h1|h1
 .exact h1
 .unfold QS at h
  rw[wQ,wC (by rw[YG];exact h1)] at h;simp at h
theorem V9 (q:aD ops.toList 0=true)(l:ops[j]?=some o)(h:QS ops k j=true):∃e∈o.after,Region.binds .any e=true/\e.on<j/\(e.on=k\/QS ops k e.on=true):=by
 obtain⟨_,_,_,p⟩:=lC ops.toList [];have f:=p j o (BQ l);simp only[List.length_nil,jG] at f;unfold QS at h;rw[f] at h;rcases xJ _ _ h with d|⟨e,d,g,c⟩
 .simp at d
 .have b:=eA q j o (BQ l) e (BQ d) g
  rw[jG] at b;refine⟨e,BQ d,g,b,?_⟩;rcases c with c|c
  .exact .inl c
  .refine .inr ?_
   unfold QS;rw[wQ,List.getElem?_take,if_pos b,<-wQ] at c;exact c
theorem Xv (f:aD ops.toList 0=true):∀(j:Nat),QS ops k j=true->k<j:=by
 intro j
 induction j using Nat.strongRecOn with
 | _ j g =>
   intro h;have d:=bB h;obtain⟨e,_,_,c,b⟩:=V9 f (show ops[j]?=some ops[j] by simp [d]) h;rcases b with b|b
   .omega
   .have:=g e.on c b;omega
def D (E:Env)(md:Nat->Bool)(ds:List (Option Tmp)):List Oper->Fr->Hp->(Fr->Hp->Prop)->Prop
 | [],F,h,K=>K F h
 | o::r,F,h,K=>match OJ ds F o.guard with
   | some c=>(c=true->∃v h',du E md o F h v h'/\D E md ds r (GV F o.dst v) h' K)/\(c=false->D E md ds r (GV F o.dst IK) h K)
   | none=>False
theorem tZ {r:List Oper}{K:Fr->Hp->Prop}(b:D E md ds (o::r) F h K):
  ∃d,fe E md ds o (F,h) d/\D E md ds r d.1 d.2 K:=by
 unfold D at b;split at b
 .rename_i c e
  cases c with
  | true =>
    obtain⟨v,h',h1,h2⟩:=b.1 rfl;exact⟨_,.inl ⟨e,v,h',h1,rfl⟩,h2⟩
  | false=>exact⟨_,.inr ⟨e,rfl⟩,b.2 rfl⟩
 .exact b.elim
def LK (ops:Array Oper)(k:Nat)(listed:Array Bool):Prop:=listed.size=ops.size/\∀j,j<ops.size->listed[j]?=some (decide (j<k))
theorem LK.getD {ops:Array Oper}{k j:Nat}{listed:Array Bool}(h:LK ops k listed)(b:j<ops.size)(d:Bool):listed.getD j d=decide (j<k):=by
 have:=h.2 j b;rw[Array.getD_eq_getD_getElem?,this];rfl
theorem LK.next (h:LK ops k listed):LK ops (k+1) (listed.setIfInBounds k true):=by
 refine⟨by simpa using h.1,fun j b=>?_⟩;by_cases e:k=j
 .subst e
  rw[Array.getElem?_setIfInBounds_self_of_lt (by rw[h.1];exact b)];simp
 .rw[Array.getElem?_setIfInBounds_ne e,h.2 j b]
  congr 1;rw[decide_eq_decide];omega
theorem Gc {E:Env}{md:Nat->Bool}{sep:List (Nat×Nat)}{ops:Array Oper}{K:Fr->Hp->Prop}(g:cV sep ops.toList=true)(S:s7 md sep ops=true):∀(l:List Oper) (k:Nat) (listed:Array Bool) (F:Fr) (h:Hp),(∀j:Nat,l[j]?=ops[k+j]?) ->
  LK ops k listed->SN F sep->D E md (ops.toList.map (·.dst)) l F h K->im E md ops (fun s=>K s.1 s.2) l.length listed (F,h)
 | [],k,listed,F,h,I,f,_,M=>by
   refine⟨?_,M⟩;rw[List.eq_nil_iff_forall_not_mem];intro i Y;obtain⟨h1,o,h2,_⟩:=mem_ready.1 Y;have d:i<ops.size:=(Array.getElem?_eq_some_iff.1 h2).1
   have hk:ops.size<=k:=by
    have:=(I 0).symm;simp only[jR,List.getElem?_nil] at this;simpa using this
   rw[f.getD d] at h1;simp at h1;omega
 | o::l,k,listed,F,h,I,f,T,M=>by
   have q:ops[k]?=some o:=by simpa using (I 0).symm
   have d:k<ops.size:=(Array.getElem?_eq_some_iff.1 q).1;have B:=S;simp only[s7,jY] at B;obtain⟨c,p⟩:=B;obtain⟨R,h1,h2⟩:=tZ M
   refine tQ g q (fun j=>decide (j=k)||QS ops k j) (fun j V H b C=>?_) l.length listed (F,h) R (fun j b=>?_) (fun j V H C G b=>?_) T ?_ h1
    (Gc g S l (k+1) _ R.1 R.2 (fun j=>by have:=I (j+1);simpa [Nat.add_assoc,Nat.add_comm 1 j] using this) f.next (X4 (s:=(F,h)) g (fS q) T h1) h2)
   .simp only[qO,decide_eq_true_eq] at b
    rcases b with b|b
    .exact absurd b C
    .obtain⟨e,O,N,_,X⟩:=V9 c H b
     exact⟨e,O,N,BQ X⟩
   .simp only[qO,decide_eq_true_eq] at b
    rcases b with rfl|b
    .rw[f.getD d];simp
    .have J:=bB b
     have A:=Xv c j b;rw[f.getD J];simp;omega
   .have J:j<ops.size:=(Array.getElem?_eq_some_iff.1 H).1
    rw[f.getD J] at G;simp only[wG,decide_eq_false_iff_not] at b;have Q:k<j:=by simp at G;omega
    rcases fN p (by rw[YG];simp) k j o V Q (BQ q) (BQ H) with A|A
    .rw[jG] at A
     have:QS ops k j=true:=A;rw[this] at b;cases b.2
    .exact A
   .rw[mem_ready]
    refine⟨by rw[f.getD d];simp,o,q,fun e O N=>?_⟩;have:=eA c k o (BQ q) e O N;rw[jG] at this;rw[f.getD U];simpa using this
structure LS (ops:Array Oper) (L:List Nat) (listed:Array Bool):Prop where
 size:listed.size=ops.size
 at':∀j,j<ops.size->listed[j]?=some (L.contains j)
 lt:∀j∈L,j<ops.size
theorem LS.getD {ops:Array Oper}{L:List Nat}{listed:Array Bool}(h:LS ops L listed){j:Nat}(b:j<ops.size)(d:Bool):listed.getD j d=L.contains j:=by
 have:=h.at' j b;rw[Array.getD_eq_getD_getElem?,this];rfl
theorem LS.getF (h:LS ops L listed)(j:Nat):listed.getD j false=L.contains j:=by
 rcases zC j ops.size with b|b
 .exact h.getD b false
 .have h1:listed[j]?=none:=by rw[Array.getElem?_eq_none_iff,h.size];exact b
  rw[Array.getD_eq_getD_getElem?,h1]
  have:L.contains j=false:=by
   rw[List.contains_eq_mem,decide_eq_false_iff_not];exact fun q=>by have:=h.lt j q;omega
  rw[this];rfl
theorem LS.next (h:LS ops L listed)(c:i<ops.size):LS ops (i::L) (listed.setIfInBounds i true):=by
 refine⟨by simpa using h.size,fun j b=>?_,fun j b=>?_⟩
 .by_cases e:i=j
  .subst e
   rw[Array.getElem?_setIfInBounds_self_of_lt (by rw[h.size];exact b)];simp
  .rw[Array.getElem?_setIfInBounds_ne e,h.at' j b]
   congr 1;simp [Ne.symm e]
 .rcases zM.1 b with rfl|b
  .exact c
  .exact h.lt j b
def TZ (x:Oper)(L:List Nat):Bool:=x.after.toList.all fun e => !(Region.binds .any e)||L.contains e.on
def ui (md:Nat->Bool)(sep:List (Nat×Nat))(ops:Array Oper)(i:Nat)(x:Oper)(L:List Nat):Nat->List Oper->List Nat->Bool
 | _,[],_=>true
 | _,_::_,[]=>false
 | k,y::l,m::ms=>(match m.testBit i with
   | true => !L.contains k
   | false=>L.contains k||k==i||(XD md sep x y&&x.apart ops y))&&ui md sep ops i x L (k+1) l ms
theorem lU {md:Nat->Bool}{sep:List (Nat×Nat)}{ops:Array Oper}{i:Nat}{x:Oper}{L:List Nat}:∀ {l:List Oper} {b:List Nat} {k:Nat},ui md sep ops i x L k l b=true->b.length=l.length->∀(j:Nat) (y:Oper),l[j]?=some y ->
  ((b.getD j 0).testBit i=true/\L.contains (k+j)=false)\/((b.getD j 0).testBit i=false/\(L.contains (k+j)=true\/k+j=i\/(x.apart ops y=true/\XD md sep x y=true)))
 | [],_,_,_,_,j,y,h=>by simp at h
 | _::_,[],_,_,d,_,_,_=>by simp at d
 | z::l,m::b,k,c,d,j,y,e=>by
   unfold ui at c;rw[jY] at c
   cases j with
   | zero =>
     simp at e;subst e;have h1:=c.1;simp only[List.getD_cons_zero,jR]
     cases f:m.testBit i with
     | true =>
       rw[f] at h1;exact .inl ⟨rfl,BQ h1⟩
     | false =>
       rw[f] at h1;simp only[qO,jY,beq_iff_eq] at h1;refine .inr ⟨rfl,?_⟩;rcases h1 with (h1|h1)|h1
       .exact .inl h1
       .exact .inr (.inl h1)
       .exact .inr (.inr ⟨h1.2,h1.1⟩)
   | succ j =>
     have:=lU c.2 (BQ d) j y (BQ e);rw[show k+1+j=k+(j+1) by omega] at this;simpa using this
def B9 (md:Nat->Bool)(sep:List (Nat×Nat))(ops:Array Oper)(i:Nat)(L:List Nat):Bool:=match ops.toList[i]? with
 | none=>false
 | some x => !L.contains i&&TZ x L&&ui md sep ops i x L 0 ops.toList (nB ops.toList [])
def pT (md:Nat->Bool)(sep:List (Nat×Nat))(ops:Array Oper):List Nat->List Nat->Bool
 | [],_=>true
 | i::r,L=>B9 md sep ops i L&&pT md sep ops r (i::L)
def O6 (l:List Oper):List Nat->List Oper
 | []=>[]
 | i::r=>match l[i]? with
   | some o=>o::O6 l r
   | none=>O6 l r
theorem Z4 (b:LS ops L listed){x:Oper}(d:ops[i]?=some x)(f:L.contains i=false)(l:TZ x L=true):i∈Region.ready .any ops listed:=by
 have c:i<ops.size:=(Array.getElem?_eq_some_iff.1 d).1;rw[mem_ready];refine⟨by rw[b.getD c,f],x,d,fun e p g=>?_⟩;have:=zJ.1 l e (BQ p);rw[g] at this;have h1:L.contains e.on=true:=BQ this;have h2:e.on∈L:=by simpa [List.contains_eq_mem] using h1
 rw[b.getD (b.lt _ h2),h1]
theorem lB {E:Env}{md:Nat->Bool}{sep:List (Nat×Nat)}{ops:Array Oper}{Q:Fr×Hp->Prop}{K:Fr->Hp->Prop}{fuel:Nat}(C:cV sep ops.toList=true)(q:aD ops.toList 0=true):∀(pre L:List Nat) (listed:Array Bool) (F:Fr) (h:Hp),pT md sep ops pre L=true ->
  LS ops L listed->SN F sep->D E md (ops.toList.map (·.dst)) (O6 ops.toList pre) F h K ->
  (∀(F':Fr) (h':Hp) (g:Array Bool),LS ops (pre.reverse++L) g->SN F' sep->K F' h'->im E md ops Q fuel g (F',h'))->im E md ops Q (fuel+pre.length) listed (F,h)
 | [],L,listed,F,h,_,A,N,G,S=>S F h listed A N G
 | i::r,L,listed,F,h,T,A,N,G,S=>by
   unfold pT at T;rw[jY] at T;obtain⟨l,V⟩:=T;unfold B9 at l
   cases O:ops.toList[i]? with
   | none=>rw[O] at l;cases l
   | some x =>
     rw[O] at l;simp only[jY,Bool.not_eq_true'] at l;obtain⟨⟨Y,R⟩,hf⟩:=l;have J:ops[i]?=some x:=BQ O;have hlt:i<ops.size:=(Array.getElem?_eq_some_iff.1 J).1;unfold O6 at G;rw[O] at G;obtain⟨X,h1,h2⟩:=tZ G;have p:=lU hf (by rw[YG];simp)
     refine tQ C J (fun j=>decide (j=i)||QS ops i j) (fun j Z M f B=>?_) (fuel+r.length) listed (F,h) X (fun j f=>?_) (fun j Z M B H f=>?_) N (Z4 A J Y R) h1
      (lB C q r (i::L) _ X.1 X.2 V (A.next hlt) (X4 (s:=(F,h)) C (fS J) N h1) h2 (fun F' h' l' a b c=>S F' h' l' (BQ a) b c))
     .simp only[qO,decide_eq_true_eq] at f
      rcases f with f|f
      .exact absurd f B
      .obtain⟨e,R,hb,_,h7⟩:=V9 q M f
       exact⟨e,R,hb,BQ h7⟩
     .simp only[qO,decide_eq_true_eq] at f
      rcases f with rfl|f
      .rw[A.getD hlt,Y]
      .have I:=bB f
       have d:=p j ops[j] (by simp [I]);rw[jG] at d;rw[A.getD I];rcases d with d|d
       .exact d.2
       .unfold QS at f
        rw[d.1] at f;cases f
     .have I:j<ops.size:=(Array.getElem?_eq_some_iff.1 M).1
      rw[A.getD I] at H;simp only[wG,decide_eq_false_iff_not] at f;have d:=p j Z (BQ M);rw[jG] at d;rcases d with d|⟨_,d|d|d⟩
      .have:QS ops i j=true:=d.1
       rw[this] at f;cases f.2
      .rw[H] at d;cases d
      .exact absurd d B
      .exact d
def QI (i j:Nat)(L:List Nat):Nat->List Oper->Bool
 | _,[]=>true
 | k,z::l=>(L.contains k||k==i||k==j||(z.after.toList.any (fun e=>Region.binds .any e && !L.contains e.on&&e.on != i)&&z.after.toList.any (fun e=>Region.binds .any e && !L.contains e.on&&e.on != j)))&&QI i j L (k+1) l
theorem XA {i j:Nat}{L:List Nat}:∀ {l:List Oper} {k:Nat},QI i j L k l=true->∀(n:Nat) (z:Oper),l[n]?=some z->L.contains (k+n)=true\/k+n=i\/k+n=j \/
  ((∃e∈z.after,Region.binds .any e=true/\L.contains e.on=false/\e.on≠i)/\∃e∈z.after,Region.binds .any e=true/\L.contains e.on=false/\e.on≠j)
 | [],_,_,n,z,h=>by simp at h
 | y::l,k,b,n,z,c=>by
   unfold QI at b;rw[jY] at b
   cases n with
   | zero =>
     simp at c;subst c;have h1:=b.1;simp only[qO,jY,beq_iff_eq,qK,Bool.not_eq_true',bne_iff_ne] at h1;rcases h1 with ((h1|h1)|h1)|⟨⟨e,h1,h2⟩,e',h3,h4⟩
     .exact .inl h1
     .exact .inr (.inl h1)
     .exact .inr (.inr (.inl h1))
     .grind
   | succ n =>
     have:=XA b.2 n z (BQ c);rw[show k+1+n=k+(n+1) by omega] at this;exact this
def Ip (ops:Array Oper)(i j:Nat)(L:List Nat):Bool:=match ops.toList[i]?,ops.toList[j]? with
 | some x,some y=>i != j && !L.contains i && !L.contains j&&TZ x L&&TZ y L&&QI i j L 0 ops.toList
 | _,_=>false
theorem Sl {x:Oper}(h:TZ x L=true):TZ x (i::L)=true:=by
 unfold TZ at *;rw[zJ] at *;intro e b;have:=h e b
 simp only[qO] at this|-
 rcases this with h1|h1
 .exact .inl h1
 .simp_all
theorem Us (d:LS ops L listed)(q:QI i j L 0 ops.toList=true)(hk:k∈Region.ready .any ops listed):k=i\/k=j:=by
 obtain⟨h1,z,h2,f⟩:=mem_ready.1 hk;have c:k<ops.size:=(Array.getElem?_eq_some_iff.1 h2).1;rw[d.getD c] at h1;rcases XA q k z (BQ h2) with b|b|b|⟨⟨e,g,l,p,_⟩,_⟩
 .rw[jG,h1] at b;cases b
 .exact .inl U
 .exact .inr U
 .have:=f e g l
  rw[d.getF,p] at this;cases this
theorem To (f:LS ops (i::L) listed)(B:QI i j L 0 ops.toList=true)(hk:k∈Region.ready .any ops listed):k=j:=by
 obtain⟨h1,z,h2,g⟩:=mem_ready.1 hk;have c:k<ops.size:=(Array.getElem?_eq_some_iff.1 h2).1;rw[f.getD c] at h1;have b:L.contains k=false/\k≠i:=by simp_all
 rcases XA B k z (BQ h2) with d|d|d|⟨⟨e,l,p,q,A⟩,_⟩
 .simp_all
 .exact absurd U b.2
 .omega
 .have:=g e l p
  rw[f.getF,jZ,q,Bool.or_false] at this;exact absurd (BQ this) A
theorem cX {i j:Nat}{L:List Nat}:∀ {l:List Oper} {k:Nat},QI i j L k l=true->QI j i L k l=true
 | [],_,_=>rfl
 | z::l,k,h=>by
   unfold QI at h|-
   rw[jY] at h|-
   refine⟨?_,cX h.2⟩;have h1:=h.1
   simp only[qO,jY] at h1|-
   rcases h1 with ((h1|h1)|h1)|h1
   .exact .inl (.inl (.inl h1))
   .exact .inl (.inr h1)
   .exact .inl (.inl (.inr h1))
   .exact .inr ⟨h1.2,h1.1⟩
theorem zP {E:Env}{md:Nat->Bool}{sep:List (Nat×Nat)}{ops:Array Oper}{Q:Fr×Hp->Prop}{K:Fr->Hp->Prop}{fuel:Nat}{i j:Nat}{x y:Oper}{c:List Oper}{L:List Nat}{listed:Array Bool}{F:Fr}{h:Hp}
  (e:cV sep ops.toList=true) (p:ops[i]?=some x) (g:ops[j]?=some y) (A:i≠j) (B:L.contains j=false) (l:TZ y L=true) (V:QI i j L 0 ops.toList=true) (S:LS ops L listed) (X:SN F sep)
  (R:D E md (ops.toList.map (·.dst)) (x::y::c) F h K)
  (T:∀(F':Fr) (h':Hp) (b:Array Bool),LS ops (j::i::L) b->SN F' sep->D E md (ops.toList.map (·.dst)) c F' h' K->im E md ops Q fuel b (F',h')) :
  ∃o M,ops[i]?=some o/\fe E md (ops.toList.map (·.dst)) o (F,h) M/\im E md ops Q (fuel+1) (listed.setIfInBounds i true) M:=by
 have hlti:i<ops.size:=(Array.getElem?_eq_some_iff.1 p).1;have hltj:j<ops.size:=(Array.getElem?_eq_some_iff.1 g).1;obtain⟨G,I,N⟩:=tZ R;have d:=S.next hlti;have C:=X4 (s:=(F,h)) e (fS p) X I;have f:j∈Region.ready .any ops (listed.setIfInBounds i true):=Z4 d g (by rw[jZ,B];simp;exact fun q=>A q.symm) (Sl l);refine⟨x,G,p,I,fun q=>by rw[q] at f;(cases f),fun k hk=>?_⟩;obtain rfl:=To d V hk;obtain⟨H,J,O⟩:=tZ (F:=G.1) (h:=G.2) N;exact⟨y,H,g,J,T H.1 H.2 _ (d.next hltj) (X4 e (fS g) C J) O⟩
theorem LS.perm (h:LS ops (i::j::L) listed):LS ops (j::i::L) listed :=
 ⟨h.size,fun k hk=>by rw[h.at' k hk];congr 1;simp only[jZ];cases (k==i)<;>cases (k==j)<;>rfl,fun k hk=>h.lt k (by
  simp only[zM] at hk|-
  rcases hk with h1|h1|h1
  .exact .inr (.inl h1)
  .exact .inl h1
  .exact .inr (.inr h1))⟩
def allIn (L:List Nat):Nat->List Oper->Bool
 | _,[]=>true
 | k,_::l=>L.contains k&&allIn L (k+1) l
theorem tR {L:List Nat}:∀ {l:List Oper} {k:Nat},allIn L k l=true->∀n,n<l.length->L.contains (k+n)=true
 | [],_,_,n,h=>by simp at h
 | _::l,k,b,n,c=>by
   unfold allIn at b;rw[jY] at b
   cases n with
   | zero=>exact b.1
   | succ n =>
     have:=tR b.2 n (BQ c);rw[show k+1+n=k+(n+1) by omega] at this;exact this
theorem ready_nil (c:LS ops L listed)(d:allIn L 0 ops.toList=true):Region.ready .any ops listed=[]:=by
 rw[List.eq_nil_iff_forall_not_mem];intro k hk;obtain⟨h1,z,h2,_⟩:=mem_ready.1 hk;have b:k<ops.size:=(Array.getElem?_eq_some_iff.1 h2).1;rw[c.getD b] at h1;have:=tR d k (BQ b);rw[jG,h1] at this;cases this
def zo (md:Nat->Bool)(sep:List (Nat×Nat))(ops:Array Oper)(pre:List Nat)(i j:Nat)(b:List Nat):Bool :=
 cV sep ops.toList&&aD ops.toList 0&&pT md sep ops pre []&&Ip ops i j (pre.reverse++[])&&pT md sep ops b (j::i::(pre.reverse++[]))&&allIn (b.reverse++(j::i::(pre.reverse++[]))) 0 ops.toList&&Nat.beq (b.length+2+pre.length) ops.size
theorem mJ {K:Fr->Hp->Prop}(e:s7 md sep ops=true)(b:cV sep ops.toList=true)(f:SN F sep)(c:D E md (ops.toList.map (·.dst)) ops.toList F h K):
  im E md ops (fun s=>K s.1 s.2) ops.size (Array.replicate ops.size false) (F,h):=by
 have:=Gc (E:=E) (md:=md) (sep:=sep) (ops:=ops) (K:=K) b e ops.toList 0 (Array.replicate ops.size false) F h BA ⟨BA,fun j d=>by simp [d]⟩ f c;simpa using this
theorem Zk {E:Env}{md:Nat->Bool}{sep:List (Nat×Nat)}{ops:Array Oper}{K:Fr->Hp->Prop}{pre b:List Nat}{i j:Nat}{F:Fr}{h:Hp}(Y:zo md sep ops pre i j b=true)(hs:SN F sep)
  (hD:D E md (ops.toList.map (·.dst)) (O6 ops.toList pre) F h (fun F h=>D E md (ops.toList.map (·.dst)) (O6 ops.toList (i::j::b)) F h K/\D E md (ops.toList.map (·.dst)) (O6 ops.toList (j::i::b)) F h K)) :
  im E md ops (fun s=>K s.1 s.2) ops.size (Array.replicate ops.size false) (F,h):=by
 unfold zo at Y;simp only[jY] at Y;obtain⟨⟨⟨⟨⟨⟨f,g⟩,I⟩,c⟩,A⟩,C⟩,a2⟩:=Y;have l:b.length+2+pre.length=ops.size:=Nat.eq_of_beq_eq_true a2;have V:LS ops [] (Array.replicate ops.size false):=⟨BA,fun k hk=>by simp [hk],fun k hk=>by cases hk⟩;rw[<-l];have key:=lB (E:=E) (Q:=fun s=>K s.1 s.2) (fuel:=b.length+2) f g pre [] (Array.replicate ops.size false) F h I V hs hD (fun F' h' l' O M hK=>?_)
 .rw[l] at key|-;exact key
 unfold Ip at c
 cases B:ops.toList[i]? with
 | none=>rw[B] at c;cases c
 | some x =>
   cases N:ops.toList[j]? with
   | none=>rw[B,N] at c;cases c
   | some y =>
     rw[B,N] at c;simp only[jY,bne_iff_ne,Bool.not_eq_true'] at c;obtain⟨⟨⟨⟨⟨H,G⟩,a0⟩,hex⟩,Z⟩,ho⟩:=c;have hi:ops[i]?=some x:=BQ B;have hj:ops[j]?=some y:=BQ N;obtain⟨d1,d2⟩:=hK
     have e1:O6 ops.toList (i::j::b)=x::y::O6 ops.toList b:=by
      simp only[O6,B,N]
     have e2:O6 ops.toList (j::i::b)=y::x::O6 ops.toList b:=by
      simp only[O6,B,N]
     rw[e1] at d1;rw[e2] at d2;have J:=Z4 O hi G hex
     have e:∀(F':Fr) (h':Hp) (d:Array Bool),LS ops (j::i::(pre.reverse++[])) d->SN F' sep->D E md (ops.toList.map (·.dst)) (O6 ops.toList b) F' h' K->im E md ops (fun s=>K s.1 s.2) b.length d (F',h'):=by
      intro R h2 l2 p a1 S;have:=lB (E:=E) (Q:=fun s=>K s.1 s.2) (fuel:=0) f g b (j::i::(pre.reverse++[])) l2 R h2 A p a1 S (fun F3 h3 l3 X _ T=>⟨ready_nil X C,T⟩);rw[jG] at this;exact this
     refine⟨fun q=>by rw[q] at J;(cases J),fun k hk=>?_⟩;rcases Us O ho hk with rfl|rfl
     .exact zP f hi hj H a0 Z ho O M d1 e
     .exact zP f hj hi (Ne.symm H) G hex (cX ho) O M d2 (fun R h2 l2 p=>e R h2 l2 p.perm)
theorem TQ {c:AV->Hp->Prop}(hk:∀v h,K v h->c v h)(b:OT E own op F h K):OT E own op F h c:=by
 unfold OT at *;split at b
 .split at b
  .rename_i d;exact b.mono hk
  .exact YC.mono b hk
  .exact b.elim
 .exact b
 .grind
def hY (E:Env)(md:Nat->Bool)(ds:List (Option Tmp))(o:Oper)(s:Fr×Hp)(P:Fr×Hp->Prop):Prop :=
 (OJ ds s.1 o.guard=some true/\OT E (md (o.dst.getD 0)) o.op s.1 s.2 fun v h'=>P (GV s.1 o.dst v,h')) \/
 (OJ ds s.1 o.guard=some false/\P (GV s.1 o.dst IK,s.2))
theorem hY.mono {s:Fr×Hp}{P b:Fr×Hp->Prop}(c:∀s,P s->b s)(h:hY E md ds o s P):hY E md ds o s b:=by
 rcases h with⟨h1,h2⟩|⟨h1,h2⟩
 .exact .inl ⟨h1,TQ (fun v h' d=>c _ d) h2⟩
 .exact .inr ⟨h1,c _ h2⟩
theorem fe.next {s c:Fr×Hp}{P:Fr×Hp->Prop}(h:fe E md ds o s c)(b:P c):hY E md ds o s P:=by
 rcases h with⟨h1,v,h',h2,rfl⟩|⟨h1,rfl⟩
 .exact .inl ⟨h1,h2.exec b⟩
 .exact .inr ⟨h1,b⟩
def lA (E:Env)(md:Nat->Bool)(ops:Array Oper)(Q:Fr×Hp->Prop):Nat->Array Bool->Fr×Hp->Prop
 | 0,listed,s=>Region.ready .any ops listed=[]/\Q s
 | b+1,listed,s=>(Region.ready .any ops listed=[]->Q s) /\
   ∀i∈Region.ready .any ops listed,∃o,ops[i]?=some o/\hY E md (ops.toList.map (·.dst)) o s fun c=>lA E md ops Q b (listed.setIfInBounds i true) c
theorem im.toN {E:Env}{md:Nat->Bool}{ops:Array Oper}{Q:Fr×Hp->Prop}:∀ {fuel:Nat} {listed:Array Bool} {s:Fr×Hp},im E md ops Q fuel listed s->lA E md ops Q fuel listed s
 | 0,_,_,h=>h
 | fuel+1,_,_,h=>⟨h.1,fun i c=>by
   obtain⟨o,d,h1,h2,b⟩:=h.2 i c
   exact⟨o,h1,h2.next (im.toN b)⟩⟩
theorem zE {E:Env}{md:Nat->Bool}{ops:Array Oper}{Q c:Fr×Hp->Prop}(b:∀s,Q s->c s):∀(fuel:Nat) (listed:Array Bool) (s:Fr×Hp),lA E md ops Q fuel listed s->lA E md ops c fuel listed s
 | 0,_,_,h=>⟨h.1,b _ h.2⟩
 | fuel+1,_,_,h=>⟨fun d=>b _ (h.1 d),fun i e=>by
   obtain⟨o,h1,h2⟩:=h.2 i e
   exact⟨o,h1,h2.mono fun g f=>zE b fuel _ _ f⟩⟩
theorem dG {ρ:Option Nat}{E:Env}{md:Nat->Bool}{n:Nat}{ops:Array Oper}{Q:Exit->Act->World->Prop}{K:Fr×Hp->Prop}{g0:Gh}(l:∀(i:Nat) (o:Oper),ops[i]?=some o->∀d,o.dst=some d->d<n)
  (hk:∀F' h' g' e w',K (F',h')->g0.le g'->iy E n g' F' h' e w'->Q .normal e w')
  (C:∀u h' g' e w',E.X u h'->g0.le g'->ck E g' h' w'->e.defers=[]->Q (.panic [{ v:=u,recovered:=false }]) e w'):∀(fuel:Nat) (listed:Array Bool) (F:Fr) (h:Hp) (g:Gh) (a:Act) (w:World),
  lA E md ops K fuel listed (F,h)->g0.le g->iy E n g F h a w->wpAnyIn (FW ρ) 0 E.P .any ops Q fuel listed a w
 | 0,_,F,h,g,a,w,f,c,s=>⟨f.1,hk F h g a w f.2 c s⟩
 | fuel+1,listed,F,h,g,a,w,f,c,s=>by
   refine⟨fun I=>hk F h g a w (f.1 I) c s,fun i J=>?_⟩;obtain⟨o,B,G⟩:=f.2 i J;unfold wpOpIn;simp only[B];rcases G with⟨p,H⟩|⟨p,b⟩
   .rw[dH (o:=o) s p]
    simp only[if_true];refine(sB H s ?_ fun u h' N g' w' hle q A=>C u h' g' a w' N (c.trans hle) q A);intro R h' b g' w' O hle q M;exact dG l hk C fuel _ _ _ _ _ _ b (c.trans hle) (s.put (l i o B) hle q M)
   .rw[dH (o:=o) s p]
    simp only[zZ,if_false];refine⟨fun _ _=>trivial,?_⟩;exact dG l hk C fuel _ _ _ _ _ _ b c (s.put (l i o B) (Gh.le.refl g) s.simH (Rep.undef g))
inductive e8 where
 | normal|exit (id:Nat)|ret
def e8.to:e8->Exit
 | .normal=>.normal
 | .exit b=>.exit b
 | .ret=>.ret
def fE (next:Fr->Hp->Prop)(Q:e8->Fr->Hp->Prop):e8->Fr->Hp->Prop
 | .normal,F,h=>next F h
 | .exit b,F,h=>Q (.exit b) F h
 | .ret,F,h=>Q .ret F h
def VR (b:Nat)(Q:e8->Fr->Hp->Prop):e8->Fr->Hp->Prop
 | .normal,F,h=>Q .normal F h
 | .exit i,F,h=>if i=b then Q .normal F h else Q (.exit i) F h
 | .ret,F,h=>Q .ret F h
def mu (F:Fr):List Tmp->List AV->Fr
 | p::ps,v::vs=>mu (upd F p v) ps vs
 | _,_=>F
def Iter (E:Env)(f:FuncId)(b:List AV)(N:Nat)(xs:Nat->List AV)(I:Nat->Hp->Prop):Prop :=
 ∀(l:Nat) (g0:Gh),(∀k h,k<N->I k h->YC (E.know g0) l (xs k) h fun v h'=>v=.bool true/\I (k+1) h')->∀h,I 0 h->ACalls (E.know g0) f (.fn (.yield l) [] []::b) h fun _ h'=>I N h'
def kx (E:Env)(h h':Hp):Prop:=∀(g:Gh) (w:World),ck E g h w->∃b,g.le b/\ck E b h' w
def dZ:Code->Bool
 | .seq a b=>dZ a&&dZ b
 | .block _ b=>dZ b
 | .cond _ a b=>dZ a&&dZ b
 | .loop b=>dZ b
 | .scope b=>dZ b
 | .rangeFunc _ _ _ _=>false
 | _=>true
def dh (E:Env)(H:Hint):Code->Fr->Hp->(e8->Fr->Hp->Prop)->Prop
 | .skip,F,h,Q=>Q .normal F h
 | .label _,F,h,Q=>Q .normal F h
 | .scope b,F,h,Q=>dh E H b F h Q
 | .ret,F,h,Q=>Q .ret F h
 | .exit p,F,h,Q=>Q (.exit p) F h
 | .seq a b,F,h,Q=>dh E H a F h (fE (fun F h=>dh E H b F h Q) Q)
 | .block p b,F,h,Q=>dh E H b F h (VR p Q)
 | .cond c a b,F,h,Q=>match ev E F c with
   | .bool t=>(t=true->dh E H a F h Q)/\(t=false->dh E H b F h Q)
   | _=>False
 | .loop b,F,h,Q=>∃I:Nat->Fr->Hp->Prop,(∃n,I n F h)/\∀n F h,I n F h->dh E H b F h (fE (fun F' h'=>∃m,m<n/\I m F' h') Q)
 | .region _ ops l,F,h,Q=>match l with
   | false=>W E H (ops.toList.map (·.dst)) ops.toList F h (Q .normal)
   | true=>lA E H.md ops (fun s=>Q .normal s.1 s.2) ops.size (Array.replicate ops.size false) (F,h)
 | .rangeFunc G B g d,F,h,Q=>(∀u h,¬E.X u h)/\(dZ g&&dZ d)=true/\∃(f:FuncId) (e:List AV) (N:Nat) (q:Nat->List AV) (I:Nat->Hp->Prop),ev E F G=.fn (.func f) [] e/\Iter E f e N q I/\I 0 h /\
  (∀k h',k<N->I k h'->(q k).length=B.size/\dh E H g (mu F B.toList (q k)) h' (fE (fun C h1=>dh E H d C h1 (fE (fun _ h2=>∃A,kx E h2 A/\I (k+1) A) fun _ _ _=>False)) fun _ _ _=>False))/\∀h',I N h'->Q .normal F h'
 | _,_,_,_=>False
def UO (n:Nat):Code->Bool
 | .seq a b=>UO n a&&UO n b
 | .block _ b=>UO n b
 | .cond _ a b=>UO n a&&UO n b
 | .loop b=>UO n b
 | .scope b=>UO n b
 | .rangeFunc _ c a b=>UO n a&&UO n b&&c.all fun p=>decide (p<n)
 | .region _ ops _=>ops.toList.all fun o=>match o.dst with
   | some d=>decide (d<n)
   | none=>true
 | _=>true
def After (E:Env)(n:Nat)(g:Gh)(Q:e8->Fr->Hp->Prop)(e:Exit)(a:Act)(w:World):Prop :=
 (∃x b F h,e=x.to/\Q x F h/\g.le b/\iy E n b F h a w)\/∃u b h,e=.panic [{ v:=u,recovered:=false }]/\E.X u h/\g.le b/\ck E b h w/\a.defers=[]
theorem eQ {E:Env}{n:Nat}{g:Gh}{next:Fr->Hp->Prop}{Q:e8->Fr->Hp->Prop}{e:Exit}{a:Act}{w:World}{k:Act->World->Prop}{f:Exit->Act->World->Prop}(h:After E n g (fE next Q) e a w)
  (h1:∀F h g',next F h->g.le g'->iy E n g' F h a w->k a w) (h2:After E n g Q e a w->e≠.normal->f e a w):Exit.then k f e a w:=by
 rcases h with⟨x,g',F,c,rfl,d,b,s⟩|⟨u,g',h',rfl,p,b,S,l⟩
 .cases x with
  | normal=>exact h1 F c g' d b s
  | exit q=>exact h2 (.inl ⟨.exit q,g',F,c,rfl,d,b,s⟩) (by simp [e8.to])
  | ret=>exact h2 (.inl ⟨.ret,g',F,c,rfl,d,b,s⟩) (by simp [e8.to])
 .exact h2 (.inr ⟨u,g',h',rfl,p,b,S,l⟩) BA
theorem After.mono_g {g g1:Gh}{Q:e8->Fr->Hp->Prop}{e:Exit}{a:Act}(d:g.le g1)(h:After E n g1 Q e a w):After E n g Q e a w:=by
 rcases h with⟨x,c,F,l,b,p,h1,s⟩|⟨u,c,h',b,q,h1,S,f⟩
 .exact .inl ⟨x,c,F,l,b,p,d.trans h1,s⟩
 .exact .inr ⟨u,c,h',b,q,d.trans h1,S,f⟩
theorem AZU (h:(ops.toList.all fun o=>match o.dst with|some d=>decide (d<n)|none=>true)=true):∀o∈ops.toList,∀d,o.dst=some d->d<n:=by grind
def Gh.putM (g:Gh)(l:Nat)(o:Option Obj):Gh := { g with M:=fun x=>if x=l then o else g.M x }
theorem Gh.putM_eq (g:Gh)(l:Nat)(o:Option Obj):(g.putM l o).M l=o:=by simp [Gh.putM]
theorem Gh.putM_ne (g:Gh){l:Nat}(o:Option Obj)(h:k≠l):(g.putM l o).M k=g.M k:=by simp [Gh.putM,h]
theorem pJ {g:Gh}{l:Nat}{o:Obj}(p:g.M l=some o)(f:∀c e b,o≠.cells c e b)(d:Option Obj)(k:Nat)(c:Array Value)(e:TypeId)(b:Nat×Nat)(hk:g.M k=some (.cells c e b)):(g.putM l d).M k=some (.cells c e b):=by
 rw[g.putM_ne d (fun q=>by subst q;rw[p] at hk;cases hk;exact f _ _ _ rfl)];exact hk
theorem Rep.putM {g:Gh}{l:Nat}{o:Obj}(q:g.M l=some o)(p:∀c e f,o≠.cells c e f)(d:Option Obj){v:AV}{b:Value}(h:Rep g v b):Rep (g.putM l d) v b :=
 h.monoC (pJ q p d) fun _ _ h=>h
theorem ck.putM {E E':Env}{g:Gh}{h:Hp}{w:World}(S:ck E g h w){l:Nat}{o:Obj}(p:g.M l=some o)(H:∀c e T,o≠.cells c e T)(R:Obj)(f:Option Obj)(h1:f=some R\/f=none)
  (V:E'.G=E.G) (X:∀g0,E'.L=some g0->g0.leM (g.putM l f)):ck E' (g.putM l f) h (w.putObj l R):=by
 have Z:=S.fro _ _ p;have I:l<w.heap.size:=(Array.getElem?_eq_some_iff.1 Z).1;refine⟨S.os,S.tape,S.output,fun k x hk=>?_,X,fun b k xs C=>?_,fun b x C Y=>?_,S.inj,S.fresh,fun n=>V▸(S.glob n).monoC (pJ p H f)⟩
 .by_cases e:k=l
  .subst e
   rw[g.putM_eq] at hk;rcases h1 with h1|h1
   .rw[h1] at hk;cases hk;exact World.putObj_heap_same I
   .rw[h1] at hk;cases hk
  .rw[g.putM_ne _ e] at hk
   rw[World.putObj_heap_other e];exact S.fro k x hk
 .obtain⟨lc,c,e,J,N,A,B,O,Q,q7,q8⟩:=S.live b k xs C
  have d:lc.cb≠l:=fun q=>by rw[q,p] at A;cases A
  exact⟨lc,c,e,J,N,(g.putM_ne _ d).trans A,(World.putObj_heap_other d).trans B,O,Q,q7,fun i j row v r1 r2=>let ⟨cv,s1,s2⟩:=q8 i j row v r1 r2;⟨cv,s1,s2.putM p H f⟩⟩
 .obtain⟨lc,ob,J,N,A,B,O,Q⟩:=S.obj b x C Y
  have d:lc.cb≠l:=fun q=>by rw[q,p] at B;cases B
  exact⟨lc,ob,J,N,A,(g.putM_ne _ d).trans B,(World.putObj_heap_other d).trans O,Q.mono fun _ _ r=>r.putM p H f⟩
theorem ck.env {E':Env}{g:Gh}(S:ck E g h w)(b:E'.G=E.G)(c:∀g0,E'.L=some g0->g0.leM g):ck E' g h w:=⟨S.os,S.tape,S.output,S.fro,c,S.live,S.obj,S.inj,S.fresh,fun n=>b▸S.glob n⟩
def Gh.reB (g:Gh)(b:Nat->Option Obj):Gh := { g with B:=b }
theorem Rep.reB {g:Gh}(b:Nat->Option Obj){v:AV}{c:Value}(h:Rep g v c):Rep (g.reB b) v c:=Rep.monoC (g:=g) (g':=g.reB b) (fun _ _ _ _ h=>h) (fun _ _ h=>h) h
theorem ck.reB {E:Env}{g:Gh}{h:Hp}{w:World}(S:ck E g h w)(b:Nat->Option Obj):ck E (g.reB b) h w :=
 ⟨S.os,S.tape,S.output,S.fro,S.lo,fun d k A f=>let ⟨lc,c,e,q1,q2,q3,q4,q5,q6,q7,q8⟩:=S.live d k A f;⟨lc,c,e,q1,q2,q3,q4,q5,q6,q7,fun i j row v p q=>let ⟨cv,s1,s2⟩:=q8 i j row v p q;⟨cv,s1,s2.reB b⟩⟩,fun d x f l=>let ⟨lc,o,q1,q2,q3,q4,q5,q6⟩:=S.obj d x f l;⟨lc,o,q1,q2,q3,q4,q5,q6.mono fun _ _ r=>r.reB b⟩,S.inj,S.fresh,S.glob⟩
theorem Marks.putM {g:Gh}{l:Nat}{o:Obj}(d:g.M l=some o)(c:∀x,o≠.deferred x)(f:Option Obj){ds:List Deferred}(h:Marks g ds):Marks (g.putM l f) ds:=by
 induction h with
 | nil=>exact .nil
 | cons D ds b h1 h2 _ e=>exact .cons D ds b ((g.putM_ne _ fun q=>by subst q;rw[d] at h1;cases h1;exact c _ rfl).trans h1) h2 e
theorem Marks.lt {g:Gh}(p:∀k o,g.M k=some o->k<w.heap.size){ds:List Deferred}(h:Marks g ds):∀d∈ds,∀D,w.heap.size<=D->d.target≠.collected D:=by
 induction h with
 | nil=>intro d b;cases b
 | cons D ds l h1 h2 _ f =>
   intro d b e c;rcases zM.1 b with rfl|b
   .grind
   .exact f d b e c
theorem fold_size (ps:List (Tmp×Value)):∀t:Array Value,(ps.foldl (fun t (p,v)=>t.setIfInBounds p v) t).size=t.size:=by
 induction ps with
 | nil=>intro t;rfl
 | cons x ps b=>intro t;rw[qU,b];simp
theorem Ew {g:Gh}{n:Nat}:∀(ps:List Tmp) (xs:List AV) (c:List Value) (F:Fr) (t:Array Value),t.size=n->(∀p∈ps,p<n)->xs.length=ps.length->c.length=ps.length->(∀(i:Nat) (x:AV) (v:Value),xs[i]?=some x->c[i]?=some v->Rep g x v) ->
  (∀i,Rep g (F i) (t.getD i undef))->∀i,Rep g (mu F ps xs i) (((ps.zip c).foldl (fun t (p,v)=>t.setIfInBounds p v) t).getD i undef)
 | [],xs,c,F,t,_,_,_,_,_,h=>by
   intro i;have e:mu F [] xs=F:=by cases xs<;>rfl
   rw[e];exact h i
 | p::ps,[],_,F,t,_,_,h1,_,_,_=>by simp at h1
 | p::ps,_::_,[],F,t,_,_,_,h2,_,_=>by simp at h2
 | p::ps,x::xs,v::c,F,t,A,f,h1,h2,l,h=>by
   refine Ew ps xs c (upd F p x) (t.setIfInBounds p v) (BQ A) (fun q B=>f q (by simp [B])) (BQ h1) (BQ h2) (fun i a b C G=>l (i+1) a b (BQ C) (BQ G)) fun i=>?_
   have d:p<t.size:=A▸f p BA;simp only[upd];by_cases hi:i=p
   .subst hi
    simpa [d] using l 0 x v rfl rfl
   .have:p≠i:=fun e=>hi e.symm
    rw[if_neg hi];simpa [Array.getElem?_setIfInBounds_ne this] using h i
theorem SH {N:Fence}{Q:Exit->Act->World->Prop}{a:Act}{c:Code}(h:c.wpIn N n P Q a w)(M:∀l a w,¬Q (.goto l) a w):(Code.scope c).wpIn N n P Q a w:=by
 intro b k q H B C;have A:(lone (b.atR a (.code (.scope c)::k)) q w).fenced P N:=fenced_calm B C rfl;have h1:step P (lone (b.atR a (.code (.scope c)::k)) q w)=.next (lone (b.atR a (.code c :: .inScope c::k)) q w):=step_lone_go (by simp [stepG,stepG.exec,Frame.atR]);obtain⟨e,g,p,f,d⟩:=h b (.inScope c::k) q H B C
 cases e with
 | normal =>
   have h2:step P (lone (b.atR g (.inScope c::k)) q p)=.next (lone (b.atR g k) q p):=step_lone_go (by simp [stepG,stepG.exec,Frame.atR]);exact⟨.normal,g,p,f,.head A h1 (StepsIn.trans d (.one (fenced_calm B C rfl) h2))⟩
 | exit I =>
   have J:exitTo I (.inScope c::k)=exitTo I k:=by simp [exitTo]
   exact⟨.exit I,g,p,f,fun O hk=>.head A h1 (d.1 O (by rw[J];exact hk)),
    fun G hk=>let ⟨k1,p1,p2⟩:=d.2 G (by rw[J];exact hk);⟨k1,p1,.head A h1 p2⟩⟩
 | goto l=>exact absurd f (M _ _ _)
 | ret=>exact⟨_,g,p,f,.of_steps (.one A h1) d⟩
 | panic R=>exact⟨_,g,p,f,.of_steps (.one A h1) d⟩
 | outgrown=>exact⟨_,g,p,f,.of_steps (.one A h1) d⟩
theorem Zh {H:Hint}(hm:E.P.follows .mixedOrders=true):∀(c:Code) (ρ:Option Nat) (F:Fr) (h:Hp) (Q:e8->Fr->Hp->Prop) (g:Gh) (a:Act) (w:World),
  dh E H c F h Q->UO n c=true->(ρ=none\/dZ c=true)->iy E n g F h a w->c.wpIn (FW ρ) 0 E.P (After E n g Q) a w:=by
 intro c
 induction c with
 | skip=>intro ρ F h Q g a w A _ _ s;exact wpIn_skip (.inl ⟨.normal,g,F,h,rfl,A,Gh.le.refl g,s⟩)
 | label l=>intro ρ F h Q g a w A _ _ s;exact wpIn_label (.inl ⟨.normal,g,F,h,rfl,A,Gh.le.refl g,s⟩)
 | scope b ih =>
   intro ρ F h Q g a w A C Y s;refine SH (ih ρ F h Q g a w A C Y s) fun l a w q=>?_
   rcases q with⟨x,_,_,_,e,_⟩|⟨_,_,_,e,_⟩
   .cases x<;>cases e
   .cases e
 | ret=>intro ρ F h Q g a w A _ _ s;exact wpIn_ret (.inl ⟨.ret,g,F,h,rfl,A,Gh.le.refl g,s⟩)
 | exit id=>intro ρ F h Q g a w A _ _ s;exact wpIn_exit (.inl ⟨.exit id,g,F,h,rfl,A,Gh.le.refl g,s⟩)
 | seq x y ao ap =>
   intro ρ F h Q g a w A C Y s;simp only[UO,dZ,jY] at C Y;refine wpIn_seq (wpIn_mono (ao ρ F h _ g a w A C.1 (Y.imp id And.left) s) fun e a' w' q=>?_);exact eQ q (fun F' h' R hn X s'=>wpIn_mono (ap ρ F' h' Q R a' w' hn C.2 (Y.imp id And.right) s') fun e a w q=>q.mono_g X) fun q _=>q
 | block id b ih =>
   intro ρ F h Q g a w A C Y s;refine wpIn_block (wpIn_mono (ih ρ F h _ g a w A C Y s) fun e a' w' q=>?_);rcases q with⟨x,R,F',h',rfl,hq,X,s'⟩|⟨u,R,h',rfl,hx,X,S,C⟩
   rotate_left
   .exact .inr ⟨u,R,h',rfl,hx,X,S,C⟩
   cases x with
   | normal=>exact .inl ⟨.normal,R,F',h',rfl,hq,X,s'⟩
   | exit i =>
     simp only[e8.to,Exit.inBlock,VR] at *;split
     .rename_i hi;rw[if_pos hi] at hq;exact .inl ⟨.normal,R,F',h',rfl,hq,X,s'⟩
     .rename_i hi;rw[if_neg hi] at hq;exact .inl ⟨.exit i,R,F',h',rfl,hq,X,s'⟩
   | ret=>exact .inl ⟨.ret,R,F',h',rfl,hq,X,s'⟩
 | cond c x y ao ap =>
   intro ρ F h Q g a w A C Y s;simp only[UO,dZ,jY] at C Y;simp only[dh] at A;have hr:=eI s c;split at A
   .rename_i t ht
    rw[ht] at hr;refine wpIn_cond hr.bool_inv ?_
    cases t with
    | true=>exact ao ρ F h Q g a w (A.1 rfl) C.1 (Y.imp id And.left) s
    | false=>exact ap ρ F h Q g a w (A.2 rfl) C.2 (Y.imp id And.right) s
   .exact A.elim
 | loop b ih =>
   intro ρ F h Q g a w A C Y s;obtain⟨I,⟨n0,h0⟩,ad⟩:=A;refine wpIn_loop_ghost (fun k a w=>∃R F h,I k F h/\g.le R/\iy E n R F h a w) n0 ⟨g,F,h,h0,Gh.le.refl g,s⟩ ?_;rintro k a1 w1 ⟨g1,F1,h1,hI,ab,s1⟩;refine wpIn_mono (ih ρ F1 h1 _ g1 a1 w1 (ad k F1 h1 hI) C Y s1) fun e a' w' q=>?_
   exact eQ q (fun F' h' R hn X s'=>by obtain⟨m,be,bf⟩:=hn;exact⟨m,be,R,F',h',bf,ab.trans X,s'⟩) fun q _=>q.mono_g ab
 | region id ops au =>
   intro ρ F h Q g a w A C Y s;have ag:=AZU (n:=n) (ops:=ops) C;simp only[dh] at A
   cases au with
   | false =>
     refine wpIn_region_list (y9 (n:=n) (g0:=g) ops.toList F h g a w A s (Gh.le.refl g) ag (fun F' h' R a' w' hk X s'=>.inl ⟨.normal,R,F',h',rfl,hk,X,s'⟩) fun u h' R a' w' hx X S C=>.inr ⟨u,R,h',rfl,hx,X,S,C⟩)
   | true =>
     have sd:iy E n g F h a { w with drawn:=w.drawn+1 }:=⟨s.simH.world rfl rfl rfl fun _ _=>rfl,s.defers,s.dx,s.base,s.size,s.frame⟩;refine wpIn_region_any hm ?_;refine dG (n:=n) (g0:=g) (md:=H.md) (K:=fun s=>Q .normal s.1 s.2) (fun i o ho=>ag o ?_) (fun F' h' R a' w' hk X s'=>.inl ⟨.normal,R,F',h',rfl,hk,X,s'⟩) (fun u h' R a' w' hx X S C=>.inr ⟨u,R,h',rfl,hx,X,S,C⟩) ops.size _ F h g a _ ?_ (Gh.le.refl g) sd
     .have:ops.toList[i]?=some o:=BQ ho
      exact qC this
     .exact A
 | rangeFunc gf ps aq body bj bk =>
   intro ρ F h Q g a w A C Y s;obtain⟨hX,am,f,ar,N,xs,I,b8,hit,b2,an,al⟩:=A;simp only[UO,dZ,jY] at C am Y;have bi:ρ=none:=Y.resolve_right BA;subst bi;obtain⟨⟨b4,b5⟩,b6⟩:=C
   have bh:∀p∈ps.toList,p<n:=fun p hp=>by
    have:=Array.all_eq_true'.1 b6 p (BQ hp);simpa using this
   have hr:=eI s gf;rw[b8] at hr;obtain⟨a9,a0,b7,k1,k2,k3,k4⟩:=hr.fn_inv;have aa:a9 = #[]:=BQ k1;subst aa;refine wpIn_rangeFunc ?_;intro fn _;obtain⟨rec,G⟩:∃rec:LoopState->Loop,rec=fun st=>{ state:=st,pending:=none,fn,tmps:=a.tmps,params:=ps,assign:=aq,body,defers:=w.heap.size }:=⟨_,rfl⟩
   obtain⟨W0,aj⟩:∃W0,w.alloc (.deferred (some []))=W0:=⟨_,rfl⟩;obtain⟨W1,aw⟩:∃W1,W0.alloc (.loop (rec .ready))=W1:=⟨_,rfl⟩;have bo:W0.heap.size=w.heap.size+1:=by rw[<-aj];simp
   have G0:Grew w W0 (.deferred (some [])):=by rw[<-aj];exact⟨rfl,rfl,rfl,rfl⟩
   have G1:Grew W0 W1 (.loop (rec .ready)):=by rw[<-aw];exact⟨rfl,rfl,rfl,rfl⟩
   obtain⟨S0,bl,m0⟩:=s.simH.newF G0;obtain⟨S1,ae,m1⟩:=S0.newF G1;rw[bo] at S1 ae m1;have av:g.M w.heap.size=none:=(s.simH.unowned_new (Nat.le_refl _)).2;have ac:g.M (w.heap.size+1)=none:=(s.simH.unowned_new (Nat.le_succ _)).2;obtain⟨g1,ab⟩:∃g1,(g.freeze w.heap.size (.deferred (some []))).freeze (w.heap.size+1) (.loop (rec .ready))=g1:=⟨_,rfl⟩;rw[ab] at S1 ae m1;have a6:g.le g1:=bl.trans ae;have mD:g1.M w.heap.size=some (.deferred (some [])):=ae.M _ _ m0;obtain⟨l,hl⟩:∃l,w.heap.size+1=l:=⟨_,rfl⟩;obtain⟨D,hD⟩:∃D,w.heap.size=D:=⟨_,rfl⟩;have b1:D≠l:=U;rw[hl] at m1 ac;rw[hD] at mD av;have az:ck (E.know g1) g1 h W1:=S1.env rfl fun g0 hk=>by cases hk;exact⟨fun _ _ x=>x,fun _ _ x=>x⟩
   have nc:∀st c e fz,Obj.loop (rec st)≠.cells c e fz:=fun _ _ _ _ q=>by cases q
   have nd:∀st x,Obj.loop (rec st)≠.deferred x:=fun _ _ q=>by cases q
   have hB:∀k o,g.B k=some o->k≠l:=fun k o hk q=>by subst q;have:=s.base _ _ hk;rw[ac] at this;cases this
   have b3:∀g0,E.L=some g0->g0.M l=none:=fun g0 hk=>by
    cases hx:g0.M l with
    | none=>rfl
    | some x=>have:=(s.simH.lo _ hk).1 _ _ hx;rw[ac] at this;cases this
   have af:∀k h1,k<N->I k h1->YC (E.know g1) l (xs k) h1 fun v h'=>v=.bool true/\I (k+1) h':=by
    intro k h1 hk hI g2 w2 vs S2 ay;obtain⟨ai,A⟩:=an k h1 hk hI;have a7:g1.leM g2:=S2.lo _ rfl;have m2:g2.M l=some (.loop (rec .ready)):=a7.1 _ _ m1;have ba:w2.heap[l]?=some (.loop (rec .ready)):=S2.fro _ _ m2;have ax:vs.size=ps.size:=by rw[ay.1];exact ai
    have hy:=run_yield (P:=E.P) (args:=vs) ba (by rw[G];exact ax);rw[G] at hy;have Z:g.leM (g2.reB g.B):=a6.toM.trans a7
    have bn:iy E n (g2.reB g.B) (mu F ps.toList (xs k)) h1 { tmps:=(ps.zip vs).foldl (fun tmps (t,a)=>tmps.setIfInBounds t a) a.tmps,defers:=[] } w2:=by
     refine⟨(S2.reB g.B).env rfl fun g0 hk=>(s.simH.lo _ hk).trans Z,.nil,.inl rfl,fun k o hk=>Z.1 _ _ (s.base _ _ hk),?_,?_⟩
     .rw[<-Array.foldl_toList,fold_size];exact s.size
     .rw[<-Array.foldl_toList,Array.toList_zip]
      exact Ew ps.toList (xs k) vs.toList F a.tmps s.size bh (BQ ai) (BQ ax) (fun i x v p q=>(ay.2 i x v p (BQ q)).reB g.B) fun i=>(s.frame i).monoC (fun _ _ _ _ h=>Z.1 _ _ h) Z.2
    refine⟨fn,_,aq,body,hy,roundIn_of_wpIn trivial ?_⟩;refine wpIn_mono (bj (some l) _ h1 _ (g2.reB g.B) _ w2 A b4 (.inr am.1) bn) fun e a3 w3 q=>?_
    refine eQ q (fun F3 h3 g3 hb J s3=>?_) fun q bg=>?_
    .have m3:g3.M l=some (.loop (rec .ready)):=J.M _ _ m2
     have bb:w3.heap[l]?=some (.loop (rec .ready)):=s3.simH.fro _ _ m3;obtain⟨bz,ak⟩:∃bz,Obj.loop (rec .busy)=bz:=⟨_,rfl⟩;have m4:(g3.putM l (some bz)).M l=some bz:=g3.putM_eq l _;have b0:g3.B=g.B:=J.B
     have s4:iy E n (g3.putM l (some bz)) F3 h3 a3 (w3.putObj l bz):=by
      refine⟨s3.simH.putM m3 (nc _) bz _ (.inl rfl) rfl fun g0 hk=>?_,s3.defers.putM m3 (nd _) _,.inr hX,fun k o hk=>?_,s3.size,fun i=>(s3.frame i).putM m3 (nc _) _⟩
      .have:=(s.simH.lo _ hk).trans (Z.trans J.toM)
       exact⟨fun k o a4=>(g3.putM_ne _ fun q=>by subst q;rw[b3 _ hk] at a4;cases a4).trans (this.1 _ _ a4),this.2⟩
      .have a4:g.B k=some o:=b0▸hk
       exact(g3.putM_ne _ (hB k o a4)).trans (s3.base _ _ hk)
     refine⟨w3.putObj l bz,?_,?_⟩
     .rw[run_beginRound bb (by rw[G]),<-ak,G]
     refine wpIn_mono (bk (some l) _ h3 _ _ a3 _ hb b5 (.inr am.2) s4) ?_;rintro e a5 w5 (⟨x,g4,F5,h4,rfl,hq,le44,s5'⟩|⟨_,_,_,_,hx,_⟩)
     rotate_left
     .exact(hX _ _ hx).elim
     cases x with
     | exit i=>exact hq.elim
     | ret=>exact hq.elim
     | normal =>
       obtain⟨h5,b9,hq⟩:=hq;obtain⟨g5,bm,s5⟩:=b9 g4 w5 s5'.simH;have V:=le44.trans bm;have m5:g5.M l=some bz:=V.M _ _ m4;have bc:w5.heap[l]?=some (.loop (rec .busy)):=ak▸s5.fro _ _ m5;have ah:=run_endRound (P:=E.P) none bc;have an:(Obj.loop { rec .busy with state:=if(none:Option Code).isNone then LoopState.ready else .done,pending:=none })=.loop (rec .ready):=by rw[G];rfl
       rw[an] at ah
       have a8:g2.leM (g5.putM l (some (.loop (rec .ready)))):=⟨fun k o hk=>by
        by_cases e:k=l
        .subst e;rw[m2] at hk;rw[g5.putM_eq];exact hk
        .rw[g5.putM_ne _ e];exact V.M _ _ ((g3.putM_ne _ e).trans (J.M _ _ hk)),fun b lc hk=>V.μ _ _ (J.μ _ _ hk)⟩
       refine⟨_,_,ah,.bool true,.bool true,(g5.putM l (some (.loop (rec .ready)))).reB g2.B,h5,rfl,⟨rfl,hq⟩,?_,?_,.bool _ _⟩
       .exact⟨a8.1,a8.2,V.os.trans J.os,V.tape.trans J.tape,V.output.trans J.output,rfl⟩
       .refine(s5.putM (E':=E.know g1) m5 (fun c e fz q=>nc .busy c e fz (ak.trans q)) (.loop (rec .ready)) _ (.inl rfl) rfl fun g0 hk=>?_).reB g2.B
        cases hk;exact a7.trans a8
    .rcases q with⟨x,g3,F3,h3,rfl,hq,_⟩|⟨_,_,_,_,hx,_⟩
     rotate_left
     .exact(hX _ _ hx).elim
     cases x with
     | normal=>exact absurd rfl bg
     | exit i=>exact hq.elim
     | ret=>exact hq.elim
   have a2:=hit l g1 af h b2
   have hL:cS g1 (.fn (.yield l) [] []::ar) (#[.func (.yield l) #[] #[]]++a0):=by
    refine ZZ (xs:=[.fn (.yield l) [] []]) ⟨rfl,fun i v cv p q=>?_⟩ ⟨k2,fun i v cv p q=>(k4 i v cv p q).mono a6⟩
    match i with
    | 0=>cases p;cases q;exact .fro (.fn _ _ _ _ _ rfl rfl (fun i v cv p=>by cases p) fun i v cv p=>by cases p)
    | i+1=>cases p
   refine⟨l,[{ target:=.collected D,args := #[] }],W1,{ target:=.fn (.func f) a0,args := #[.func (.yield l) #[] #[]] },W1,f,#[.func (.yield l) #[] #[]]++a0,W1,?_,?_,fun _ _=>trivial,?_,fun hn=>(Bool.noConfusion hn),CallsIn.FW_of none _ ?_⟩
   .rw[<-aw,<-aj,<-hl,<-hD,G]
    exact run_enterLoop_outer _ _ _ _ _
   .simp only[resolve,b7]
    simp [Deferred.ofValue,Act.eval]
   .simp only[invoke]
    exact Ef a2.1
   refine(a2.2 g1 W1 _ az hL).mono ?_;rintro e w6 (⟨v,cv,g6,h6,rfl,hIN,le16,S6,_⟩|⟨_,_,_,_,hx,_⟩)
   rotate_left
   .exact(hX _ _ hx).elim
   have m6:g6.M l=some (.loop (rec .ready)):=le16.M _ _ m1;have bd:w6.heap[l]?=some (.loop (rec .ready)):=S6.fro _ _ m6;have T:g.le g6:=a6.trans le16;have O:g.le (g6.putM l none):=⟨fun k o hk=>(g6.putM_ne _ fun q=>by subst q;rw[ac] at hk;cases hk).trans (T.M _ _ hk),T.μ,T.os,T.tape,T.output,T.B⟩;refine⟨none,_,by rw[run_endLoop bd (by rw[G];simp),G],.inl ⟨.normal,g6.putM l none,F,h6,rfl,al h6 hIN,O,?_⟩⟩;refine⟨S6.putM (E':=E) m6 (nc _) _ _ (.inr rfl) rfl fun g0 hk=>(s.simH.lo _ hk).trans O.toM,.cons D _ ?_ ((g6.putM_ne _ b1).trans (le16.M _ _ mD)) (fun d C=>s.defers.lt (fun k o hk=>s.simH.fro_ne hk) d C D U) (s.defers.mono O),.inr hX,fun k o hk=>O.M _ _ (s.base _ _ (O.B▸hk)),s.size,fun i=>(s.frame i).mono O⟩
   cases hx:(g6.putM l none).B D with
   | none=>rfl
   | some x=>have:=s.base D x (O.B▸hx);rw[av] at this;cases this
 | _=>intro ρ F h Q g a w A _ _ s;simp only[dh] at A
def X0 (P:Program)(h:Hp)(F:Fr):ResultVar->Option AV
 | .tmp t=>some (F t)
 | .cell a t=>match F a with
   | .ptr b i j=>BR P h t (.ptr b i j)
   | _=>none
def U2 (P:Program)(h:Hp)(F:Fr):List ResultVar->Option (List AV)
 | []=>some []
 | r::l=>match X0 P h F r,U2 P h F l with
   | some v,some b=>some (v::b)
   | _,_=>none
def hZ (P:Program)(h:Hp)(F:Fr):List ResultVar->Option AV
 | [r]=>X0 P h F r
 | l=>match U2 P h F l with
   | some b=>some (.tup b)
   | none=>none
def iT (tmps:Array Value):ResultVar->Sem Value
 | .tmp t=>pure (tmps.getD t undef)
 | .cell a t=>do loadVar t (<-asAddr (tmps.getD a undef))
theorem mI {g:Gh}{a:Act}{r:ResultVar}(s:iy E n g F h a w)(c:X0 E.P h F r=some v):∃d,(iT a.tmps r).run E.P w=.ok d w/\Rep g v d:=by
 cases r with
 | tmp t=>simp only[X0] at c;cases c;exact⟨_,rfl,s.frame t⟩
 | cell x t =>
   simp only[X0] at c;have e:=s.frame x;split at c
   .rename_i b i j p
    rw[p] at e;obtain⟨d,h1,h2⟩:=qS s.simH c e;obtain⟨l,_,f⟩:=e.ptr_inv;rw[f] at h1;refine⟨d,?_,h2⟩;simp only[iT,f,asAddr,Sem.run_bind,Sem.run_pure,Result.andThen_ok];simpa [Instr.loadAt,Instr.sureAddr] using h1
   .cases c
theorem mH {E:Env}{n:Nat}{g:Gh}{F:Fr}{h:Hp}{a:Act}{w:World}(s:iy E n g F h a w):∀(l:List ResultVar) (d:List AV),U2 E.P h F l=some d ->
  ∃b:List Value,(l.mapM (iT a.tmps)).run E.P w=.ok b w/\b.length=d.length/\∀(i:Nat) (v:AV) (e:Value),d[i]?=some v->b[i]?=some e->Rep g v e
 | [],d,c=>by simp [U2] at c;subst c;exact⟨[],BA,rfl,BA⟩
 | r::l,d,c=>by
   simp only[U2] at c
   cases h1:X0 E.P h F r with
   | none=>simp [h1] at c
   | some v =>
     cases h2:U2 E.P h F l with
     | none=>simp [h1,h2] at c
     | some A =>
       simp [h1,h2] at c;subst c;obtain⟨e,B,C⟩:=mI s h1;obtain⟨b,G,H,I⟩:=mH s l A h2;refine⟨e::b,by simp [List.mapM_cons,B,G],by simp [H],fun i J f p q=>?_⟩
       cases i with
       | zero=>simp at p q;subst p q;exact C
       | succ i=>exact I i J f (BQ p) (BQ q)
theorem Vd (fn:Func)(tmps:Array Value):results fn tmps=(do let vs <-fn.results.mapM (iT tmps);pure (if h:vs.size=1 then vs[0] else .tuple vs):Sem Value):=by
 unfold results;congr 2
theorem W6 {g:Gh}{a:Act}{fn:Func}(s:iy E n g F h a w)(d:hZ E.P h F fn.results.toList=some v):∃f,(results fn a.tmps).run E.P w=.ok f w/\Rep g v f:=by
 have c:∀b:List Value,(fn.results.toList.mapM (iT a.tmps)).run E.P w=.ok b w->(fn.results.mapM (iT a.tmps)).run E.P w=.ok b.toArray w:=by
  intro b C;rw[Array.mapM_eq_mapM_toList];simp only[Sem.run_map,C,Result.andThen_ok]
 rw[Vd];unfold hZ at d;split at d
 .rename_i r A
  obtain⟨f,h1,h2⟩:=mI s d;have:=c [f] (by rw[A];simp [h1]);exact⟨f,by simp [this],h2⟩
 .rename_i A
  split at d
  .rename_i q p
   cases d;obtain⟨b,G,H,I⟩:=mH s _ _ p
   have B:¬(b.length=1):=by
    intro h1
    have:fn.results.toList.length=1:=by
     have:∀(l:List ResultVar) (q:List AV),U2 E.P h F l=some q->q.length=l.length:=by
      intro l
      induction l with
      | nil=>intro q e;simp [U2] at e;subst e;rfl
      | cons r l J =>
        intro q e;simp only[U2] at e;split at e
        .grind
        .cases e
     have:=this _ _ p;omega
    match hx:fn.results.toList,this with
    | [r],_=>exact A r hx
   have:=c b G;exact⟨.tuple b.toArray,by simp [this,B],.tup _ _ (BQ H) (BQ I)⟩
  .cases d
def P7:List AV->Fr
 | []=>fun _=>IK
 | v::r=>fun i=>match i with
   | 0=>v
   | i+1=>P7 r i
theorem ED (v:AV)(r:List AV):P7 (v::r) 0=v:=rfl
theorem ET (v:AV)(r:List AV)(i:Nat):P7 (v::r) (i+1)=P7 r i:=rfl
theorem lV:∀(l:List AV) (i:Nat),P7 l i=(l[i]?).getD IK
 | [],i=>by simp [P7]
 | v::r,0=>by simp [P7]
 | v::r,i+1=>by simp [P7,lV r i]
theorem fU {E:Env}{fn:Func}{tmps:Array Value}{R:Ending->World->Prop}{h:Hp}{B:Nat->Option Obj}(I:∀g0,E.L=some g0->∀k o,g0.M k=some o->B k=some o):∀(ds:List Deferred) (g:Gh) (w:World),
  g.B=B->Marks g ds->ck E g h w->(∀k o,B k=some o->g.M k=some o) ->
  (∀g' w',ck E g' h w'->g'.B=B->(∀k o,B k=some o->g'.M k=some o)->g'.μ=g.μ->g'.os=g.os->g'.tape=g.tape->g'.output=g.output->(∀v A,Rep g v A->Rep g' v A)->LeavesInM Fence.wide 0 E.P fn tmps R [] .returning w') ->
  LeavesInM Fence.wide 0 E.P fn tmps R ds .returning w
 | [],g,w,l,_,S,G,hk=>hk g w S l G rfl rfl rfl rfl fun _ _ h=>h
 | d::ds,g,w,l,hm,S,G,hk=>by
   cases hm with
   | cons D _ h0 h1 h2 h3 =>
     have J:∀c e fz,Obj.deferred (some [])≠.cells c e fz:=fun _ _ _ q=>by cases q
     have f:B D=none:=l▸h0
     have H:ck E (g.putM D none) h (w.putObj D (.deferred none)):=S.putM h1 J _ _ (.inr rfl) rfl fun g0 p=>by
      have:=S.lo _ p;exact⟨fun k o b=>(g.putM_ne _ fun q=>by subst q;rw[I _ p _ _ b] at f;cases f).trans (this.1 _ _ b),this.2⟩
     have m2:Marks (g.putM D none) ds:=by
      clear hk H
      induction h3 with
      | nil=>exact .nil
      | cons N C q0 q1 q2 _ ih =>
        refine .cons N C q0 ((g.putM_ne _ fun q=>?_).trans q1) q2 (ih fun d hd=>h2 d (List.mem_cons_of_mem _ hd));exact h2 _ (List.mem_cons_self) (by rw[q])
     refine⟨BA,.inl ⟨D,_,rfl,run_takeDeferred (S.fro _ _ h1),fU I ds (g.putM D none) _ l m2 H (fun k o b=>(g.putM_ne _ fun q=>by subst q;rw[b] at f;cases f).trans (G k o b)) fun g' w' O Q T V X Y Z a7=>hk g' w' O Q T V X Y Z fun v A hr=>a7 v A (hr.putM h1 J none)⟩⟩
theorem II {E:Env}{H:Hint}{f:FuncId}{fn:Func}{c:Code}{args:List AV}{h:Hp}{R:AV->Hp->Prop}(hm:E.P.follows .mixedOrders=true)(hf:E.P.funcs[f]?=some fn)(hb:fn.body=some c)
  (hname:(fn.name == "runtime.NumGoroutine")=false) (hok:UO fn.ntmps c=true) (hn:args.length<=fn.ntmps)
  (hw:dh E H c (P7 args) h (fun e F h'=>(match e with|.exit _=>False|_=>True)∧∃r,hZ E.P h' F fn.results.toList=some r∧R r h')):ACalls E f args h R:=by
 refine⟨⟨fn,hf,by simp [hb],hname⟩,fun g w cargs S ha=>?_⟩;refine callsIn_wide.1 (callsIn_of_wp_marks (n:=0) hf hb trivial ?_)
 have s:iy E fn.ntmps (g.reB g.M) (P7 args) h { tmps:=cargs++Array.replicate (fn.ntmps-cargs.size) undef,defers:=[] } w:=by
  refine⟨S.reB g.M,.nil,.inl rfl,fun _ _ h=>h,by simp [ha.1]; omega,fun i=>?_⟩;rw[lV];simp only[Array.getD_eq_getD_getElem?,Array.getElem?_append];split
  .rename_i hi
   have h1:i<args.length:=by rw[<-ha.1]; exact hi
   rw[List.getElem?_eq_getElem h1];have:=ha.2 i args[i] cargs[i] (by simp [h1]) (by simp [hi]);simpa [hi] using this.reB g.M
  .rename_i hi
   have h1:args.length<=i:=by rw[<-ha.1]; omega
   rw[wC h1,Array.getElem?_replicate];have h2:(if i-cargs.size<fn.ntmps-cargs.size then some undef else none).getD undef=undef:=by split<;>rfl
   simp only[Option.getD_none];rw[h2];exact Rep.undef _
 have main:∀(a':Act) (w':World) (g':Gh) (F':Fr) (h':Hp) (r:AV),hZ E.P h' F' fn.results.toList=some r->R r h'->(g.reB g.M).le g'->iy E fn.ntmps g' F' h' a' w' ->
   LeavesInM Fence.wide 0 E.P fn a'.tmps (fun e w'=>(∃v cv g' h',e=.returned cv∧R v h'∧g.le g'∧ck E g' h' w'∧Rep g' v cv)∨∃u g' h',e=.panicked [{ v:=u,recovered:=false }]∧E.X u h'∧g.le g'∧ck E g' h' w') a'.defers .returning w':=by
  intro a' w' g' F' h' r hr hR hg s';refine fU (B:=g.M) (fun g0 hg0=>(S.lo _ hg0).1) a'.defers g' w' hg.B s'.defers s'.simH (fun k o hk=>hg.M k o hk) ?_;intro g2 w2 S2 b1 b2 b3 b4 b5 b6 b7;have s2:iy E fn.ntmps g2 F' h' { a' with defers:=[] } w2:=⟨S2,.nil,.inl rfl,fun k o hk=>b2 k o (b1▸hk),s'.size,fun i=>b7 _ _ (s'.frame i)⟩;obtain⟨cv,q1,q2⟩:=W6 s2 hr;exact⟨cv,q1,.inl ⟨r,cv,g2.reB g.B,h',rfl,hR,⟨b2,fun b l hl=>by show g2.μ b=_; rw[b3]; exact hg.μ b l hl,b4.trans hg.os,b5.trans hg.tape,b6.trans hg.output,rfl⟩,S2.reB g.B,q2.reB g.B⟩⟩
 refine wpIn_mono (Zh (ρ:=none) hm c _ _ _ (g.reB g.M) _ w hw hok (.inl rfl) s) ?_;rintro e a' w' (⟨x,g',F',h',rfl,⟨hx,r,hr,hR⟩,hg,s'⟩|⟨u,g',h',rfl,hx,hg,S',hd⟩)
 rotate_left
 .show LeavesInM _ _ _ _ _ _ a'.defers _ _
  rw[hd];exact .inr ⟨u,g'.reB g.B,h',rfl,hx,⟨fun k o hk=>hg.M k o hk,fun b l hl=>hg.μ b l hl,hg.os,hg.tape,hg.output,rfl⟩,S'.reB g.B⟩
 cases x with
 | normal=>exact main a' w' g' F' h' r hr hR hg s'
 | ret=>exact main a' w' g' F' h' r hr hR hg s'
 | exit id=>exact hx.elim
def FK (n:Nat)(h:Hp):Nat->AV->AV
 | 0,_=>.junk
 | d+1,v=>match v with
   | .own b off len=>if b<n then .junk else match h[b]? with
     | some (.live k e)=>if off+len<=e.length/\(((e.drop off).take len).map (·.map (FK n h d))).all (·.all AV.leaf)=true then .sl .any k (((e.drop off).take len).map (·.map (FK n h d))) else .junk
     | _=>.junk
   | .ptr _ _ _=>.junk
   | .mp _=>.junk
   | .fn f a b=>match a,b with
     | [],[]=>.fn f [] []
     | _,_=>.junk
   | .agg c=>.agg (c.map (FK n h d))
   | .tup c=>.tup (c.map (FK n h d))
   | v=>v
theorem cw.again {M:Nat->Option Obj}{g':Gh}{l:Nat->Option Obj}(I:∀k o,g'.M k=some o->l k=some o){O:Value}(V:cw M v O):∀d,Rep g' v d->cw l v d:=by
 induction V with
 | int k n=>intro d h;rw[h.int_inv];exact .int k n
 | bool b=>intro d h;rw[h.bool_inv];exact .bool b
 | str s=>intro d h;rw[h.str_inv];exact .str s
 | nil k=>intro d h;exact h.sl_inv.mono I
 | empty m k a cap h1 h2=>intro d h;exact h.sl_inv.mono I
 | sl m k xs R S c e T cap d h1 h2 X Y Z _ h7 h8 A=>intro d h;exact h.sl_inv.mono I
 | fptr k xs i j R S c e T d X Y Z _ A=>intro d h;exact h.fptr_inv.mono I
 | nilp=>intro d h;rw[h.nilp_inv];exact .nilp
 | fn f first p H J h1 h2 _ _ a0 a1 =>
   intro d h;obtain⟨a,b,rfl,B,C,q3,q4⟩:=h.fn_inv;refine .fn f first p a b B C (fun i v d g q=>?_) (fun i v d g q=>?_)
   .grind
   .grind
 | nilfn=>intro d h;rw[h.nilfn_inv];exact .nilfn
 | agg N G h1 _ A =>
   intro d h;obtain⟨a,rfl,B,C⟩:=h.agg_inv;refine .agg N a B fun i v d g q=>?_
   have Q:i<G.size:=by rw[h1];exact AY g
   exact A i v G[i] g (by simp [Q]) d (C i v d g q)
 | tup N G h1 _ A =>
   intro d h;obtain⟨a,rfl,B,C⟩:=h.tup_inv;refine .tup N a B fun i v d g q=>?_
   have Q:i<G.size:=by rw[h1];exact AY g
   exact A i v G[i] g (by simp [Q]) d (C i v d g q)
 | ifc t v =>
   intro d h
   cases h with
   | fro h=>cases h;exact .ifc t v
 | nilifc=>intro d h;rw[h.nilifc_inv];exact .nilifc
 | nilmp=>intro d h;rw[h.nilmp_inv];exact .nilmp
 | junk v=>intro d h;exact .junk d
theorem Rep.restrict {g g' B:Gh}(Y:∀k o,g'.M k=some o->B.M k=some o)(N:∀b,(∃l,g.μ b=some l)->B.μ b=g'.μ b){S:Value}(X:Rep g v S):∀c,Rep g' v c->Rep B v c:=by
 induction X with
 | fro h=>intro c h';exact .fro (h.again Y c h')
 | own b off len cap l h1 h2 h3 =>
   intro c h;have H:=N b ⟨l,h1⟩
   cases h with
   | fro h=>cases h
   | own _ _ _ e p d A O=>exact .own b off len e p (H.trans d) A O
   | ownz _ _ a p d=>exact .ownz _ _ a p (H.trans d)
 | ownz b off a l h1 =>
   intro c h;have H:=N b ⟨l,h1⟩
   cases h with
   | fro h=>cases h
   | own _ _ _ e p d A O=>exact .own b off 0 e p (H.trans d) A O
   | ownz _ _ a p d=>exact .ownz _ _ a p (H.trans d)
 | ptr b i j l h1 =>
   intro c h;obtain⟨p,d,rfl⟩:=h.ptr_inv;exact .ptr b i j p ((N b ⟨l,h1⟩).trans d)
 | mp b l h1 =>
   intro c h;obtain⟨p,d,rfl⟩:=h.mp_inv;exact .mp b p ((N b ⟨l,h1⟩).trans d)
 | fn f first C J Q h1 h2 _ _ Z a0 =>
   intro c h;obtain⟨a,b,rfl,d,A,O,q4⟩:=h.fn_inv;refine .fn f first C a b d A (fun i v c q G=>?_) (fun i v c q G=>?_)
   .grind
   .grind
 | agg R I h1 _ V =>
   intro c h;obtain⟨a,rfl,d,A⟩:=h.agg_inv;refine .agg R a d fun i v c q G=>?_
   have T:i<I.size:=by rw[h1];exact AY q
   exact V i v I[i] q (by simp [T]) c (A i v c q G)
 | tup R I h1 _ V =>
   intro c h;obtain⟨a,rfl,d,A⟩:=h.tup_inv;refine .tup R a d fun i v c q G=>?_
   have T:i<I.size:=by rw[h1];exact AY q
   exact V i v I[i] q (by simp [T]) c (A i v c q G)
theorem ee.restrict {g g' f:Gh}(B:∀k o,g'.M k=some o->f.M k=some o)(C:∀b,(∃l,g.μ b=some l)->f.μ b=g'.μ b){x:bO}{o J:Obj}(H:ee g x J)(h:ee g' x o):ee f x o:=by
 cases h with
 | iter s pos=>exact .iter s pos
 | map G A d h1 h2 =>
   cases H with
   | map _ c p N O =>
     refine .map G A d h1 fun i k v e a b=>?_
     have I:i<c.size:=by rw[N];exact AY a
     have q:=O i k v c[i] a (by simp [I]);have r:=h2 i k v e a b;exact⟨q.1.restrict B C _ r.1,q.2.restrict B C _ r.2⟩
theorem xZ {E:Env}{g:Gh}{h:Hp}{w:World}{n:Nat}{M:Nat->Option Obj}(S:ck E g h w)(Z:∀k o,g.M k=some o->M k=some o)
  (hF:∀b k xs l,n<=b->h[b]?=some (.live k xs)->g.μ b=some l->M l.cb=w.heap[l.cb]?):∀(d:Nat) (v:AV) (A:Value),Rep g v A->cw M (FK n h d v) A
 | 0,v,A,_=>by simp only[FK];exact .junk _
 | d+1,v,A,q=>by
   have IH:=xZ S Z hF d
   cases v with
   | own b off len =>
     simp only[FK];split
     .exact .junk _
     rename_i hb;split
     case h_2=>exact .junk _
     rename_i k xs hx;split
     case isFalse=>exact .junk _
     rename_i I;obtain⟨a2,C⟩:=I;obtain⟨l,c,e,J,R,q3,q4,q5,q6,q7,q8⟩:=S.live b k xs hx;have a0:M l.cb=some (.cells c e (0,0)):=(hF b k xs l U hx J).trans q4;by_cases h0:len=0
     .subst h0
      simp only[List.take_zero,List.map_nil];rcases q.own_inv with⟨l',cap,r1,r2,r3,rfl⟩|⟨_,a,rfl⟩
      .exact .empty _ _ _ _ BA BA
      .exact .empty _ _ _ _ BA BA
     .rcases q.own_inv with⟨l',cap,r1,r2,r3,rfl⟩|⟨hz,a,rfl⟩
      .rw[J] at r1;cases r1
       have B:(((xs.drop off).take len).map (·.map (FK n h d))).length=len:=by simp;omega
       have V:∀(i:Nat) (row:List AV),(((xs.drop off).take len).map (·.map (FK n h d)))[i]?=some row->∃r,xs[off+i]?=some r/\row=r.map (FK n h d)/\i<len:=by grind
       have key:∀i j,i<len->j<k->∃A,c[l.co+off*l.k+i*k+j]?=some A/\∀(row:List AV) (v:AV),(((xs.drop off).take len).map (·.map (FK n h d)))[i]?=some row->row[j]?=some v->cw M v A:=by
        intro i j G O;have X:off+i<xs.length:=U;have a3:=(q7 (off+i) xs[off+i] (by simp [X])).1;have a1:j<(xs[off+i]).length:=U;obtain⟨A,s1,s2⟩:=q8 (off+i) j xs[off+i] (xs[off+i])[j] (by simp [X]) (by simp [a1]);refine⟨A,?_,fun row v p N=>?_⟩
        .grind
        .grind
       classical
       have:∃H:Nat->Nat->Value,∀i j,i<len->j<k->c[l.co+off*l.k+i*k+j]?=some (H i j)/\∀(row:List AV) (v:AV),(((xs.drop off).take len).map (·.map (FK n h d)))[i]?=some row->row[j]?=some v->cw M v (H i j):=by
        refine⟨fun i j=>if Q:i<len/\j<k then (key i j Q.1 Q.2).choose else undef,fun i j G O=>?_⟩;have Q:i<len/\j<k:=⟨G,O⟩;simp only[Q,and_self,dite_true];exact(key i j G O).choose_spec
       obtain⟨H,T⟩:=this
       have Y:ZX k (((xs.drop off).take len).map (·.map (FK n h d))):=by
        intro i row G;obtain⟨r,t1,t2,_⟩:=V i row G;subst t2;refine⟨by simpa using (q7 _ r t1).1,fun j v hv=>?_⟩;rw[zJ] at C;have:=C _ (qC G);rw[zJ] at this;exact this v (qC hv)
       have:=cw.sl (M:=M) .any k (((xs.drop off).take len).map (·.map (FK n h d))) l.cb (l.co+off*l.k) c e (0,0) cap H (by intro Q;rw[Q] at B;simp at B;omega) BA a0 Y
        (fun i j G O=>(T i j (B▸G) O).1) (fun i j row v p N=>by
         have G:i<len:=B▸AY p;have O:j<k:=by rw[<-(Y i row p).1];exact AY N
         exact(T i j G O).2 row v p N) (by rw[B];exact r2) BA
       rw[B] at this;exact this
      .exact absurd hz h0
   | ptr b i j=>simp only[FK];exact .junk _
   | mp b=>simp only[FK];exact .junk _
   | nilifc=>rw[q.nilifc_inv];simp only[FK];exact .nilifc
   | nilmp=>rw[q.nilmp_inv];simp only[FK];exact .nilmp
   | fn f a b =>
     simp only[FK];split
     .obtain⟨a',b',rfl,J,R,_⟩:=q.fn_inv
      exact .fn f [] [] a' b' J R BA BA
     .exact .junk _
   | agg cs =>
     simp only[FK];obtain⟨a,rfl,J,R⟩:=q.agg_inv;refine .agg _ a (BQ J) fun i v A p N=>?_
     rw[zB] at p
     cases I:cs[i]? with
     | none=>rw[I] at p;cases p
     | some x=>rw[I] at p;simp at p;subst p;exact IH _ _ (R i x A I N)
   | tup cs =>
     simp only[FK];obtain⟨a,rfl,J,R⟩:=q.tup_inv;refine .tup _ a (BQ J) fun i v A p N=>?_
     rw[zB] at p
     cases I:cs[i]? with
     | none=>rw[I] at p;cases p
     | some x=>rw[I] at p;simp at p;subst p;exact IH _ _ (R i x A I N)
   | int k n=>rw[q.int_inv];simp only[FK];exact .int _ _
   | bool b=>rw[q.bool_inv];simp only[FK];exact .bool _
   | str s=>rw[q.str_inv];simp only[FK];exact .str _
   | sl m k xs=>simp only[FK];exact q.sl_inv.mono Z
   | fptr k xs i j=>simp only[FK];exact q.fptr_inv.mono Z
   | nilp=>rw[q.nilp_inv];simp only[FK];exact .nilp
   | nilfn=>rw[q.nilfn_inv];simp only[FK];exact .nilfn
   | ifc t u=>simp only[FK];cases q with
     | fro q=>exact q.mono Z
   | junk=>simp only[FK];exact .junk _
def Keep (n d:Nat)(h h' h1:Hp)(b:Nat):Prop :=
 h1[b]?=some .dead\/(h1[b]?=h'[b]?/\h'[b]?=h[b]?)\/∃k c,h'[b]?=some (.live k c)/\h1[b]?=some (.live k (c.map (·.map (FK n h' d))))/\(c.map (·.map (FK n h' d))).all (·.all AV.leaf)=true
theorem ACalls.trunc {E:Env}{f:FuncId}{args:List AV}{h:Hp}{R R':AV->Hp->Prop}(hc:ACalls E f args h R)
  (hk:∀v h',R v h'->∃d h1,h1.length=h.length/\(∀b,b<h.length->Keep h.length d h h' h1 b)/\R' (FK h.length h' d v) h1):ACalls E f args h R':=by
 refine⟨hc.1,fun g w a1 S ha=>(hc.2 g w a1 S ha).mono ?_⟩;rintro e w' (⟨v,cv,g',h',rfl,hR,hle,S',hr⟩|q)
 rotate_left
 .exact .inr q
 obtain⟨d,h1,T,I,a6⟩:=hk v h' hR
 classical
 let M:Nat->Option Obj:=fun k=>match g'.M k with
  | some o=>some o
  | none=>if ∃b k' Z l,h.length<=b/\h'[b]?=some (bO.live k' Z)/\g'.μ b=some l/\l.cb=k then w'.heap[k]? else none
 have hM:∀k o,g'.M k=some o->M k=some o:=fun k o hk=>by simp only[M,hk]
 have a3:∀b k Z l,h.length<=b->h'[b]?=some (.live k Z)->g'.μ b=some l->M l.cb=w'.heap[l.cb]? := by
  intro b k Z l A p X;obtain⟨l',c,e,Q,q2,Y,q4,_⟩:=S'.live b k Z p;rw[X] at Q;cases Q;simp only[M,Y];rw[if_pos ⟨b,k,Z,l,A,p,X,rfl⟩]
 have H:∀b x l,b<h.length->h'[b]?=some x->x≠.dead->g'.μ b=some l->g'.M l.cb=none->M l.cb=none:=by
  intro b x l A p hn X h0;simp only[M,h0];rw[if_neg];rintro⟨b',k',O,l',Q,q2,Y,q4⟩;have:=S'.inj b b' x _ l l' p hn q2 BA X Y q4.symm;omega
 let g2:Gh := { g' with M:=M,μ:=fun b=>if b<h.length then g'.μ b else none }
 have hμ:∀b,b<h.length->g2.μ b=g'.μ b:=fun b A=>by simp [g2,A]
 have N:∀b,(∃l,g.μ b=some l)->g2.μ b=g'.μ b:=by
  rintro b ⟨l,X⟩;refine hμ b ?_;rcases zC b h.length with A|A
  .exact A
  .rw[S.fresh b A] at X;cases X
 have a4:=xZ (n:=h.length) S' hM a3;refine .inl ⟨FK h.length h' d v,cv,g2,h1,rfl,a6,?_,?_,.fro (a4 d v cv hr)⟩
 .exact⟨fun k o hk=>hM k o (hle.M k o hk),fun b l X=>by rw[N b ⟨l,X⟩];exact hle.μ b l X,hle.os,hle.tape,hle.output,hle.B⟩
 .refine⟨S'.os,S'.tape,S'.output,?_,fun g0 hk=>⟨fun k o x=>hM k o ((S'.lo g0 hk).1 k o x),fun b l x=>by have h1:=(S.lo g0 hk).2 b l x;rw[N b ⟨l,h1⟩];exact hle.μ b l h1⟩,?_,?_,?_,?_,fun n=>(S'.glob n).mono hM⟩
  .intro k o hk
   change M k=some o at hk;simp only[M] at hk;split at hk
   .rename_i o' aa;cases hk;exact S'.fro k o aa
   .simp_all
  .intro b k Z p
   have A:b<h.length:=T▸AY p;rcases I b A with G|⟨G,V⟩|⟨k',O,G,V,k3⟩
   .rw[G] at p;cases p
   .rw[G] at p
    obtain⟨l,c,e,Q,q2,Y,q4,q5,q6,q7,q8⟩:=S'.live b k Z p;rw[V] at p;obtain⟨l0,c0,e0,p1,p2,p3,p4,p5,p6,p7,p8⟩:=S.live b k Z p;refine⟨l,c,e,(hμ b A).trans Q,q2,H b _ l A (V.trans p) BA Q Y,q4,q5,q6,q7,fun i j row v e1 e2=>?_⟩;obtain⟨cv,s1,s2⟩:=q8 i j row v e1 e2;obtain⟨ad,_,t2⟩:=p8 i j row v e1 e2;exact⟨cv,s1,t2.restrict hM N cv s2⟩
   .rw[V] at p
    cases p;obtain⟨l,c,e,Q,q2,Y,q4,q5,q6,q7,q8⟩:=S'.live b k O G;refine⟨l,c,e,(hμ b A).trans Q,q2,H b _ l A G BA Q Y,q4,q5,BQ q6,?_,?_⟩
    .intro i row C
     have a9:=C;rw[zB] at C
     cases J:O[i]? with
     | none=>rw[J] at C;cases C
     | some r =>
       rw[J] at C;simp at C;subst C;refine⟨by simpa using (q7 i r J).1,fun j v hv=>?_⟩;rw[zJ] at k3;have:=k3 _ (qC a9);rw[zJ] at this;exact this v (qC hv)
    .intro i j row v C hv
     rw[zB] at C
     cases J:O[i]? with
     | none=>rw[J] at C;cases C
     | some r =>
       rw[J] at C;simp at C;subst C;rw[zB] at hv
       cases a2:r[j]? with
       | none=>rw[a2] at hv;cases hv
       | some x =>
         rw[a2] at hv;simp at hv;subst hv;obtain⟨cv,s1,s2⟩:=q8 i j r x J a2;exact⟨cv,s1,.fro (a4 d x cv s2)⟩
  .intro b x p C
   have A:b<h.length:=T▸AY p;rcases I b A with G|⟨G,V⟩|⟨k',O,G,V,k3⟩
   .rw[G] at p;cases p;cases C
   .rw[G] at p
    obtain⟨l,o,Q,q2,Y,q4,q5,q6⟩:=S'.obj b x p C;rw[V] at p;obtain⟨l0,o0,p1,p2,p3,p4,p5,p6⟩:=S.obj b x p C;exact⟨l,o,(hμ b A).trans Q,q2,Y,H b _ l A (V.trans p) (by rintro rfl;cases C) Q q4,q5,p6.restrict hM N q6⟩
   .rw[V] at p;cases p;cases C
  .have a0:∀b x,h1[b]?=some x->x≠.dead->b<h.length/\∃y,h'[b]?=some y/\y≠.dead:=by
    intro b x p hn;have A:b<h.length:=T▸AY p;refine⟨A,?_⟩;rcases I b A with G|⟨G,V⟩|⟨k',O,G,V,k3⟩
    .simp_all
    .exact⟨x,G▸p,hn⟩
    .exact⟨_,G,BA⟩
   intro b b' x x' l l' e1 n1 e2 n2 m1 m2 a8;obtain⟨A,y,hy,ac⟩:=a0 b x e1 n1;obtain⟨a7,y',ab,a5⟩:=a0 b' x' e2 n2;rw[hμ b A] at m1;rw[hμ b' a7] at m2;exact S'.inj b b' y y' l l' hy ac ab a5 m1 m2 a8
  .grind
theorem ACalls.pure {E:Env}{f:FuncId}{args:List AV}{h:Hp}{R:AV->Hp->Prop}{r:AV}(d:Nat)(l:ACalls E f args h R)
  (hk:∀v h',R v h'->(∃x,h'=h++x)/\FK h.length h' d v=r) (g:E.nox=E:=by rfl):a_ E f args h r:=by
 unfold a_;rw[g];refine l.trunc fun v h' e=>?_
 obtain⟨⟨x,rfl⟩,p⟩:=hk v h' e;exact⟨d,h,rfl,fun b c=>.inr (.inl ⟨by rw[qF c],by rw[qF c]⟩),p,rfl⟩
theorem ACalls.pure0 {f:FuncId}{args:List AV}{r:AV}(hr:(match r with|.int _ _=>true|.bool _=>true|.str _=>true|.sl _ _ _=>true|_=>false)=true)(hc:ACalls E f args h fun v h'=>v=r/\∃x,h'=h++x)(hX:E.nox=E:=by rfl):a_ E f args h r :=
 hc.pure 1 (fun v h' ⟨e,x⟩=>⟨x,by subst e;cases v<;>simp at hr<;>rfl⟩) hX
theorem E0 {g:Gh}{c:Nat}{b:Value}(h:Rep g (.sl .nil k []) b):Rep g (.sl .nil c []) b:=by
 have:=h.sl_inv
 cases this with
 | nil=>exact .fro (.nil c)
 | empty _ _ _ _ h1=>exact absurd rfl h1
 | sl _ _ _ _ _ _ _ _ _ _ h1=>exact absurd rfl h1
theorem ACalls.conv {f:FuncId}{args:List AV}{R l:AV->Hp->Prop}(p:ACalls E f args h R)(B:∀v h',R v h'->∃d,l d h'/\∀g c,Rep g v c->Rep g d c):ACalls E f args h l :=
 ⟨p.1,fun g w b S A=>(p.2 g w b S A).mono fun _ _ q=>q.imp (fun⟨v,c,g',h',e,r,q1,q2,q3⟩=>let ⟨d,r',q4⟩:=B v h' r;⟨d,c,g',h',e,r',q1,q2,q4 g' c q3⟩) id⟩
end Sm
namespace Sm
variable {H:Hint} {Q:e8->Fr->Hp->Prop} {want:Bool} {i j len n o off s:Nat} {v x:AV} {m:SM} {kk:IntKind} {xs ys:List (List AV)} {cs row:List AV} {y:bO} {cv:Value}
def sr (E:Env)(H:Hint)(b:Code)(Q:e8->Fr->Hp->Prop):e8->Fr->Hp->Prop:=fE (fun F h=>dh E H b F h Q) Q
theorem BU (E:Env)(H:Hint)(b:Code)(Q:e8->Fr->Hp->Prop)(F:Fr)(h:Hp):sr E H b Q .normal F h=dh E H b F h Q:=rfl
theorem dT (E:Env)(H:Hint)(b:Code)(Q:e8->Fr->Hp->Prop)(F:Fr)(h:Hp)(i:Nat):sr E H b Q (.exit i) F h=Q (.exit i) F h:=rfl
theorem MJ (E:Env)(H:Hint)(b:Code)(Q:e8->Fr->Hp->Prop)(F:Fr)(h:Hp):sr E H b Q .ret F h=Q .ret F h:=rfl
theorem J4 (a:Nat)(Q:e8->Fr->Hp->Prop)(F:Fr)(h:Hp):VR a Q .normal F h=Q .normal F h:=rfl
theorem tH (a:Nat)(Q:e8->Fr->Hp->Prop)(F:Fr)(h:Hp):VR a Q .ret F h=Q .ret F h:=rfl
theorem VY (a i:Nat)(Q:e8->Fr->Hp->Prop)(F:Fr)(h:Hp):VR a Q (.exit i) F h=if i=a then Q .normal F h else Q (.exit i) F h:=rfl
def we (I:Nat->Fr->Hp->Prop)(n:Nat)(Q:e8->Fr->Hp->Prop):e8->Fr->Hp->Prop:=fE (fun a b=>∃m,m<n/\I m a b) Q
theorem LC (I:Nat->Fr->Hp->Prop)(n:Nat)(Q:e8->Fr->Hp->Prop)(F:Fr)(h:Hp):we I n Q .normal F h =∃m,m<n/\I m F h:=rfl
theorem lO (I:Nat->Fr->Hp->Prop)(n:Nat)(Q:e8->Fr->Hp->Prop)(F:Fr)(h:Hp)(i:Nat):we I n Q (.exit i) F h=Q (.exit i) F h:=rfl
theorem u5 (I:Nat->Fr->Hp->Prop)(n:Nat)(Q:e8->Fr->Hp->Prop)(F:Fr)(h:Hp):we I n Q .ret F h=Q .ret F h:=rfl
def MW (P:Program)(rs:List ResultVar)(R:AV->Hp->Prop):e8->Fr->Hp->Prop:=fun e F a=>(match e with|.exit _=>False|_=>True)/\∃r,hZ P a F rs=some r/\R r a
theorem MO (P:Program)(t:Nat)(R:AV->Hp->Prop)(F:Fr)(h:Hp):MW P [.tmp t] R .ret F h=R (F t) h:=by simp [MW,hZ,X0]
theorem Ml (P:Program)(R:AV->Hp->Prop)(F:Fr)(h:Hp):MW P [] R .ret F h=R (.tup []) h:=by simp [MW,hZ,U2]
theorem sF (P:Program)(R:AV->Hp->Prop)(F:Fr)(h:Hp):MW P [] R .normal F h=R (.tup []) h:=by simp [MW,hZ,U2]
theorem sE (P:Program)(t u:Nat)(R:AV->Hp->Prop)(F:Fr)(h:Hp):MW P [.tmp t,.tmp u] R .ret F h=R (.tup [F t,F u]) h:=by simp [MW,hZ,U2,X0]
theorem IT (P:Program)(t u v:Nat)(R:AV->Hp->Prop)(F:Fr)(h:Hp):MW P [.tmp t,.tmp u,.tmp v] R .ret F h=R (.tup [F t,F u,F v]) h:=by simp [MW,hZ,U2,X0]
def mE (E:Env)(H:Hint)(x y:Code)(F:Fr)(h:Hp)(Q:e8->Fr->Hp->Prop)(v:AV):Prop:=match v with
 | .bool t=>(t=true->dh E H x F h Q)/\(t=false->dh E H y F h Q)
 | _=>False
theorem LV (E:Env)(H:Hint)(x y:Code)(F:Fr)(h:Hp)(Q:e8->Fr->Hp->Prop):mE E H x y F h Q (.bool true)=dh E H x F h Q:=by simp [mE]
theorem G5 (E:Env)(H:Hint)(x y:Code)(F:Fr)(h:Hp)(Q:e8->Fr->Hp->Prop):mE E H x y F h Q (.bool false)=dh E H y F h Q:=by simp [mE]
theorem BL {E:Env}{x y:Code}{F:Fr}{h:Hp}{b:Bool}(a:b=true->dh E H x F h Q)(h2:b=false->dh E H y F h Q):mE E H x y F h Q (.bool b):=⟨a,h2⟩
theorem CJ (E:Env)(H:Hint)(F:Fr)(h:Hp)(Q:e8->Fr->Hp->Prop):dh E H .skip F h Q=Q .normal F h:=rfl
theorem FD (E:Env)(H:Hint)(F:Fr)(h:Hp)(Q:e8->Fr->Hp->Prop):dh E H .ret F h Q=Q .ret F h:=rfl
theorem RY (E:Env)(H:Hint)(i:Nat)(F:Fr)(h:Hp)(Q:e8->Fr->Hp->Prop):dh E H (.exit i) F h Q=Q (.exit i) F h:=rfl
theorem BZ (E:Env)(H:Hint)(a b:Code)(F:Fr)(h:Hp)(Q:e8->Fr->Hp->Prop):dh E H (.seq a b) F h Q=dh E H a F h (sr E H b Q):=rfl
theorem cJ (E:Env)(H:Hint)(l:Nat)(F:Fr)(h:Hp)(Q:e8->Fr->Hp->Prop):dh E H (.label l) F h Q=Q .normal F h:=rfl
theorem yW (E:Env)(H:Hint)(b:Code)(F:Fr)(h:Hp)(Q:e8->Fr->Hp->Prop):dh E H (.scope b) F h Q=dh E H b F h Q:=rfl
theorem CG (E:Env)(H:Hint)(a:Nat)(b:Code)(F:Fr)(h:Hp)(Q:e8->Fr->Hp->Prop):dh E H (.block a b) F h Q=dh E H b F h (VR a Q):=rfl
theorem DJ (E:Env)(H:Hint)(c:Operand)(x y:Code)(F:Fr)(h:Hp)(Q:e8->Fr->Hp->Prop):dh E H (.cond c x y) F h Q=mE E H x y F h Q (ev E F c):=rfl
theorem BB {E:Env}{b:Code}{F:Fr}{h:Hp}(I:Nat->Fr->Hp->Prop)(n:Nat)(a:I n F h)(c:∀n F h,I n F h->dh E H b F h (we I n Q)):dh E H (.loop b) F h Q:=⟨I,⟨n,a⟩,c⟩
def EM:List Oper->Nat->Option Tmp
 | [],_=>none
 | o::_,0=>o.dst
 | _::r,j+1=>EM r j
theorem aM:∀(l:List Oper) (j:Nat),uW (l.map (·.dst)) j=EM l j
 | [],j=>by simp [uW,EM]
 | o::l,0=>by simp [uW,EM]
 | o::l,j+1=>by simp [uW,EM,aM l j]
def WW (E:Env)(H:Hint)(ops:List Oper)(l:List Oper)(F:Fr)(h:Hp)(K:Fr->Hp->Prop):Prop:=W E H (ops.map (·.dst)) l F h K
def vK (E:Env)(H:Hint)(ops:List Oper)(d:Option Tmp)(r:List Oper)(F:Fr)(K:Fr->Hp->Prop):AV->Hp->Prop:=fun v a=>WW E H ops r (GV F d v) a K
theorem BH (E:Env)(H:Hint)(ops:List Oper)(d:Tmp)(r:List Oper)(F:Fr)(K:Fr->Hp->Prop)(v:AV)(h:Hp):vK E H ops (some d) r F K v h=WW E H ops r (upd F d v) h K:=rfl
theorem D9 (E:Env)(H:Hint)(ops:List Oper)(r:List Oper)(F:Fr)(K:Fr->Hp->Prop)(v:AV)(h:Hp):vK E H ops none r F K v h=WW E H ops r F h K:=rfl
def X1 (E:Env)(own:Bool)(op:Op)(s:Fr×Hp)(c:Fr->AV->Hp->Prop):Prop:=OT E own op s.1 s.2 (c s.1)
def wc (E:Env)(H:Hint)(ops:List Oper)(d:Option Tmp)(r:List Oper)(K:Fr->Hp->Prop):Fr->AV->Hp->Prop:=fun F=>vK E H ops d r F K
def G1 (E:Env)(H:Hint)(ops:List Oper)(d:Option Tmp)(op:Op)(r:List Oper)(F:Fr)(h:Hp)(K:Fr->Hp->Prop)(want:Bool)(v:AV):Prop :=
 match v with
 | .bool b=>((b==want)=true->X1 E (CP op (H.md (d.getD 0))) op (NS (F,h) (H.fz (d.getD 0))) (wc E H ops d r K))/\((b==want)=false->WW E H ops r (GV F d IK) h K)
 | .tup []=>WW E H ops r (GV F d IK) h K
 | _=>False
theorem CQ (E:Env)(H:Hint)(ops:List Oper)(F:Fr)(h:Hp)(K:Fr->Hp->Prop):WW E H ops [] F h K=K F h:=rfl
theorem BX (E:Env)(H:Hint)(ops:List Oper)(d:Option Tmp)(op:Op)(t:TypeId)(p:String)(e:Array Edge)(r:List Oper)(F:Fr)(h:Hp)(K:Fr->Hp->Prop):
  WW E H ops (⟨d,op,t,p,e,none⟩::r) F h K=X1 E (CP op (H.md (d.getD 0))) op (NS (F,h) (H.fz (d.getD 0))) (wc E H ops d r K):=by
 simp only[WW,W,OJ,true_imp_iff,Bool.true_eq_false,false_imp_iff,and_true,X1];rfl
theorem AWL (E:Env)(H:Hint)(ops:List Oper)(d:Option Tmp)(op:Op)(t:TypeId)(p:String)(e:Array Edge)(j:Nat)(want:Bool)(r:List Oper)(F:Fr)(h:Hp)(K:Fr->Hp->Prop)(g:Tmp)(a:EM ops j=some g):
  WW E H ops (⟨d,op,t,p,e,some (j,want)⟩::r) F h K=G1 E H ops d op r F h K want (F g):=by
 simp only[WW,W,OJ,aM,a,G1];generalize F g=v
 cases v with
 | bool b=>rfl
 | tup c=>cases c with
   | nil=>simp
   | cons=>rfl
 | _=>rfl
def GX (E:Env)(H:Hint)(ops:List Oper)(d:Option Tmp)(op:Op)(r:List Oper)(F:Fr)(h:Hp)(K:Fr->Hp->Prop)(want:Bool)(o:Option Tmp):Prop:=match o with
 | some g=>G1 E H ops d op r F h K want (F g)
 | none=>WW E H ops r (GV F d IK) h K
theorem EU (E:Env)(H:Hint)(ops:List Oper)(d:Option Tmp)(op:Op)(r:List Oper)(F:Fr)(h:Hp)(K:Fr->Hp->Prop)(want:Bool)(g:Tmp):GX E H ops d op r F h K want (some g)=G1 E H ops d op r F h K want (F g):=rfl
theorem D8 (E:Env)(H:Hint)(ops:List Oper)(d:Option Tmp)(op:Op)(t:TypeId)(p:String)(e:Array Edge)(j:Nat)(want:Bool)(r:List Oper)(F:Fr)(h:Hp)(K:Fr->Hp->Prop):
  WW E H ops (⟨d,op,t,p,e,some (j,want)⟩::r) F h K=GX E H ops d op r F h K want (EM ops j):=by
 cases a:EM ops j with
 | some g=>exact AWL E H ops d op t p e j want r F h K g a
 | none=>simp [WW,W,OJ,aM,a,GX]
theorem I8 {E:Env}{ops:List Oper}{d:Option Tmp}{op:Op}{r:List Oper}{F:Fr}{h:Hp}{K:Fr->Hp->Prop}{b:Bool}(c:b=true->G1 E H ops d op r F h K want (.bool true))(a:b=false->G1 E H ops d op r F h K want (.bool false)):G1 E H ops d op r F h K want (.bool b):=by
 cases b
 .exact a rfl
 .exact c rfl
theorem SX (E:Env)(H:Hint)(ops:List Oper)(d:Option Tmp)(op:Op)(r:List Oper)(F:Fr)(h:Hp)(K:Fr->Hp->Prop):G1 E H ops d op r F h K true (.bool true)=X1 E (CP op (H.md (d.getD 0))) op (NS (F,h) (H.fz (d.getD 0))) (wc E H ops d r K):=by simp [G1]
theorem J6 (E:Env)(H:Hint)(ops:List Oper)(d:Option Tmp)(op:Op)(r:List Oper)(F:Fr)(h:Hp)(K:Fr->Hp->Prop):G1 E H ops d op r F h K false (.bool false)=X1 E (CP op (H.md (d.getD 0))) op (NS (F,h) (H.fz (d.getD 0))) (wc E H ops d r K):=by simp [G1]
theorem iD (E:Env)(H:Hint)(ops:List Oper)(d:Option Tmp)(op:Op)(r:List Oper)(F:Fr)(h:Hp)(K:Fr->Hp->Prop):G1 E H ops d op r F h K true (.bool false)=WW E H ops r (GV F d IK) h K:=by simp [G1]
theorem iE (E:Env)(H:Hint)(ops:List Oper)(d:Option Tmp)(op:Op)(r:List Oper)(F:Fr)(h:Hp)(K:Fr->Hp->Prop):G1 E H ops d op r F h K false (.bool true)=WW E H ops r (GV F d IK) h K:=by simp [G1]
theorem qx (E:Env)(H:Hint)(ops:List Oper)(d:Option Tmp)(op:Op)(r:List Oper)(F:Fr)(h:Hp)(K:Fr->Hp->Prop)(want:Bool):G1 E H ops d op r F h K want IK=WW E H ops r (GV F d IK) h K:=rfl
def JG (o:Option (AV×Hp))(K:AV->Hp->Prop):Prop:=match o with
 | some (v,h)=>K v h
 | none=>False
theorem CS (v:AV)(h:Hp)(K:AV->Hp->Prop):JG (some (v,h)) K=K v h:=rfl
theorem AA (v:AV)(h:Hp)(K:AV->Hp->Prop):JG (f_ h (some v)) K=K v h:=rfl
theorem CY (h:Hp)(K:AV->Hp->Prop):JG (re (some h)) K=K IK h:=rfl
def sa (E:Env)(f:AV)(args:List AV)(h:Hp)(K:AV->Hp->Prop):Prop:=match f with
 | .fn (.func b) first a=>ACalls E b (first++(args++a)) h K
 | .fn (.yield l) [] []=>YC E l args h K
 | _=>False
theorem KK (E:Env)(l:Nat)(args:List AV)(h:Hp)(K:AV->Hp->Prop):sa E (.fn (.yield l) [] []) args h K=YC E l args h K:=rfl
theorem D5 (E:Env)(b:FuncId)(args a:List AV)(h:Hp)(K:AV->Hp->Prop):sa E (.fn (.func b) [] a) args h K=ACalls E b (args++a) h K:=rfl
theorem EE (E:Env)(own:Bool)(f:Operand)(as:Array Operand)(a:Array TypeId)(F:Fr)(h:Hp)(c:Fr->AV->Hp->Prop):
  X1 E own (.call { callee:=.value f,args:=as,argTypes:=a }) (F,h) c=sa E (ev E F f) (as.toList.map (ev E F)) h (c F):=by
 unfold X1 OT sa;rfl
theorem Pw (E:Env)(own:Bool)(op:Op)(F:Fr)(h:Hp)(c:Fr->AV->Hp->Prop)(a:(match op with|.call { callee:=.value _,.. }=>false|.panic _=>false|_=>true)=true):
  X1 E own op (F,h) c=JG (ep E.P own h (ev E F) op) (c F):=by
 unfold X1 OT JG;split
 .simp at a
 .simp at a
 .rfl
theorem BV (E:Env)(H:Hint)(ops:List Oper)(d:Option Tmp)(r:List Oper)(K:Fr->Hp->Prop)(F:Fr):wc E H ops d r K F=vK E H ops d r F K:=rfl
theorem BO (E:Env)(H:Hint)(i:Nat)(l:List Oper)(F:Fr)(h:Hp)(Q:e8->Fr->Hp->Prop):dh E H (.region i l.toArray false) F h Q=WW E H l l F h (Q .normal):=rfl
theorem AX (F:Nat->AV)(d i:Nat)(v:AV):upd F d v i=if i=d then v else F i:=rfl
theorem BI (E:Env)(F:Fr)(t:Nat):ev E F (.tmp t)=F t:=rfl
theorem CB (E:Env)(F:Fr)(v:Value):ev E F (.const v)=ZN v:=rfl
theorem EI (E:Env)(F:Fr)(f:Nat):ev E F (.func f)=.fn (.func f) [] []:=rfl
theorem AZR (E:Env)(F:Fr)(f:Nat):ev E F (.global f)=E.G f:=rfl
theorem DF (k:IntKind)(n:Int):ZN (.int k n)=.int k n:=rfl
theorem EP (b:Bool):ZN (.bool b)=.bool b:=rfl
theorem kX (s:ByteArray):ZN (.string s)=.str s:=rfl
theorem XE:ZN (.slice none 0 0)=.sl .nil 0 []:=rfl
theorem HA:ZN (.pointer none)=.nilp:=rfl
theorem AWB:ZN .nilFunc=.nilfn:=rfl
section
variable (E:Env) (own:Bool) (F:Fr) (h:Hp) (c:Fr->AV->Hp->Prop)
theorem CV (x:Operand):X1 E own (.move x) (F,h) c=c F (ev E F x) h:=rfl
theorem CX (x:Operand):X1 E own (.assign x) (F,h) c=c F (ev E F x) h:=rfl
def vd (a b:AV)(h:Hp)(K:AV->Hp->Prop)(v:AV):Prop:=match v with
 | .bool true=>K a h
 | .bool false=>K b h
 | _=>False
theorem FQ (x a b:Operand):X1 E own (.pick x a b) (F,h) c=vd (ev E F a) (ev E F b) h (c F) (ev E F x):=by
 simp only[X1,OT,ep,vd];generalize ev E F x=v
 cases v with
 | bool b=>cases b<;>rfl
 | _=>rfl
theorem KX (a b:AV)(K:AV->Hp->Prop):vd a b h K (.bool true)=K a h:=rfl
theorem GH (a b:AV)(K:AV->Hp->Prop):vd a b h K (.bool false)=K b h:=rfl
theorem EZ (e:TypeId):X1 E own (.alloc e) (F,h) c=JG (H9 E.P h e) (c F):=rfl
theorem V8 (e:TypeId)(x:Operand):X1 E own (.box e x) (F,h) c=JG (OU h (ev E F x)) (c F):=rfl
theorem OA (t:TypeId)(ps:List (Nat×Operand)):X1 E own (.build t ps.toArray) (F,h) c=JG (f_ h (IY E.P t (ll (ev E F) ps))) (c F):=rfl
theorem ES (t:TypeId)(n:Nat)(ps:List (Nat×Operand)):X1 E own (.buildSlice t n ps.toArray) (F,h) c=JG (DR E.P own h t n (ll (ev E F) ps)) (c F):=rfl
theorem BP (t:TypeId)(a:Operand):X1 E own (.load t a) (F,h) c=JG (f_ h (BR E.P h t (ev E F a))) (c F):=rfl
theorem D6 (t:TypeId)(a x:Operand):X1 E own (.store t a x) (F,h) c=JG (re (D7 E.P h t (ev E F a) (ev E F x))) (c F):=rfl
theorem DW (op:BinOp)(t u:TypeId)(x y:Operand):X1 E own (.binOp op t x y u) (F,h) c=JG (f_ h (IZ E.P t op (ev E F x) (ev E F y))) (c F):=rfl
theorem iF (op:UnOp)(t:TypeId)(x:Operand):X1 E own (.unOp op t x) (F,h) c=JG (f_ h (oi op (ev E F x))) (c F):=rfl
theorem ue (s d:TypeId)(x:Operand):X1 E own (.convert s d x) (F,h) c=JG (f_ h (ZH E.P s d (ev E F x))) (c F):=rfl
theorem SY (fn:Fn)(a b:List Operand):X1 E own (.makeFunc fn a.toArray b.toArray) (F,h) c=c F (.fn fn (a.map (ev E F)) (b.map (ev E F))) h:=rfl
theorem V7 (t:TypeId)(l k:Operand):X1 E own (.makeSlice t l k) (F,h) c=JG (IX E.P own h t (ev E F l) (ev E F k)) (c F):=rfl
def Kf (P:Program)(t:TypeId)(v:AV)(h:Hp):Option (AV×Hp):=match P.underlying t,v with
 | some (.struct _),.agg cs=>match rC cs with
   | some is=>some (.ifc t (.agg (is.map sx).toArray),h)
   | none=>none
 | _,_=>none
theorem U6 (t:TypeId)(x:Operand)(lo a b:Option Operand):X1 E false (.slice t x lo a b) (F,h) c=JG (f_ h (IW E.P h t (ev E F x) (lo.map (ev E F)) (a.map (ev E F)) (b.map (ev E F)))) (c F):=rfl
theorem BG (t:TypeId)(x:Operand)(f:Nat):X1 E own (.fieldAddr t x f) (F,h) c=JG (f_ h (BM E.P t (ev E F x) f)) (c F):=rfl
theorem AW7 (t:TypeId)(x:Operand)(f:Nat):X1 E own (.field t x f) (F,h) c=JG (f_ h (tU E.P t (ev E F x) f)) (c F):=rfl
theorem AC (t:TypeId)(x i:Operand):X1 E own (.indexAddr t x i) (F,h) c=JG (f_ h (FC E.P h t (ev E F x) (ev E F i))) (c F):=rfl
theorem Gv (t:TypeId)(x i:Operand):X1 E own (.index t x i) (F,h) c=JG (f_ h (QY E.P t (ev E F x) (ev E F i))) (c F):=rfl
theorem AW6 (t:TypeId)(x:Operand):X1 E own (.range t x) (F,h) c=JG (lF E.P h t (ev E F x)) (c F):=rfl
theorem Ii (it:Operand)(s:Bool):X1 E own (.next it s) (F,h) c=JG (mK h (ev E F it) s) (c F):=rfl
def ye (h:Hp)(i:Nat)(K:AV->Hp->Prop)(v:AV):Prop:=match v with
 | .tup a=>JG (f_ h a[i]?) K
 | _=>False
theorem OV (t:Operand)(i:Nat):X1 E own (.extract t i) (F,h) c=ye h i (c F) (ev E F t):=by
 simp only[X1,OT,ep,ye,JG];cases ev E F t<;>rfl
theorem VD (a:List AV)(i:Nat)(K:AV->Hp->Prop):ye h i K (.tup a)=JG (f_ h a[i]?) K:=rfl
theorem GZ (a:Operand)(t:TypeId):X1 E own (.call { callee:=.builtin .len,args := #[a],argTypes := #[t] }) (F,h) c=JG (f_ h (KI E.P t (ev E F a))) (c F):=rfl
theorem ri (a b:Operand)(d:Array TypeId):X1 E own (.call { callee:=.builtin .max,args := #[a,b],argTypes:=d }) (F,h) c=JG (f_ h (ZG qa (ev E F a) [ev E F b])) (c F):=rfl
theorem u6 (a b:Operand)(d:Array TypeId):X1 E own (.call { callee:=.builtin .min,args := #[a,b],argTypes:=d }) (F,h) c=JG (f_ h (ZG p_ (ev E F a) [ev E F b])) (c F):=rfl
theorem IC (s x:Operand)(t0 a:TypeId):X1 E true (.call { callee:=.builtin .append,args := #[s,x],argTypes := #[t0,a] }) (F,h) c=JG (EJ E.P true h t0 a (ev E F s) (ev E F x)) (c F):=rfl
theorem vJ (s x:Operand)(t0 a:TypeId):X1 E false (.call { callee:=.builtin .append,args := #[s,x],argTypes := #[t0,a] }) (F,h) c=JG (if OG E.P h t0 a (ev E F s) (ev E F x)=true then EJ E.P false h t0 a (ev E F s) (ev E F x) else none) (c F):=by
 simp only[X1,OT,ep,SE,JG];rfl
theorem Lo (s x:Operand)(t0 a:TypeId):X1 E own (.call { callee:=.builtin .copy,args := #[s,x],argTypes := #[t0,a] }) (F,h) c=JG (qb E.P h t0 (ev E F s) (ev E F x)) (c F):=rfl
theorem AW8 (s:Operand)(t0:TypeId):X1 E own (.call { callee:=.builtin .clear,args := #[s],argTypes := #[t0] }) (F,h) c=JG (lG E.P h t0 (ev E F s)) (c F):=rfl
end
theorem RR {P:Program}{t:TypeId}{a:Array Field}{f:Nat}{fl:Field}(l:P.underlying t=some (.struct a))(d:a[f]?=some fl)(g:da P fl.type=some (n+1))(off:Nat)(e:fl.offset=off):
  (∀b i j,BM P t (.ptr b i j) f=some (.ptr b i (j+off)))/\(∀k xs i j,BM P t (.fptr k xs i j) f=some (.fptr k xs i (j+off))):=by
 subst e;constructor<;>intros<;>simp [BM,l,d,g]
def JJ (k:Nat)(h:Hp)(a e:AV):Option AV:=match e with
 | .int _ i=>match a with
   | .sl _ d xs=>if k=d/\0<=i/\i<(xs.length:Int) then some (.fptr d xs i.toNat 0) else none
   | .own b off len=>match h[b]? with
     | some (.live d _)=>if k=d/\0<=i/\i<(len:Int) then some (.ptr b (off+i.toNat) 0) else none
     | _=>none
   | _=>none
 | _=>none
theorem F7 {P:Program}{t e:TypeId}{k:Nat}(d:P.underlying t=some (.slice e))(hk:da P e=some k)(h:Hp)(a b:AV):FC P h t a b=JJ k h a b:=by
 unfold FC JJ;cases b<;>simp only;simp only[d,hk,Option.some.injEq];rfl
def fW:Op->Bool
 | .call { callee:=.value _,.. }=>true
 | _=>false
def yQ (E:Env)(own:Bool)(f:AV)(args:List AV)(h:Hp)(K:AV->Hp->Prop):Prop:=match f with
 | .fn (.func b) first a=>∃r,(a_ E b (first++(args++a)) h r/\(own=true->∀x,a_ E b (first++(args++a)) (h++x) r))/\K r h
 | _=>False
theorem KE (E:Env)(b:FuncId)(args a:List AV)(h:Hp)(K:AV->Hp->Prop):yQ E false (.fn (.func b) [] a) args h K =∃r,a_ E b (args++a) h r/\K r h:=by
 simp [yQ]
theorem kR (E:Env)(b:FuncId)(args a:List AV)(h:Hp)(K:AV->Hp->Prop):yQ E true (.fn (.func b) [] a) args h K =∃r,(∀x,a_ E b (args++a) (h++x) r)/\K r h:=by
 apply propext;constructor
 .rintro⟨r,⟨_,d⟩,e⟩;exact⟨r,d rfl,e⟩
 .rintro⟨r,d,e⟩;exact⟨r,⟨by have:=d [];rwa [List.append_nil] at this,fun _=>d⟩,e⟩
def Y1 (E:Env)(own:Bool)(op:Op)(s:Fr×Hp)(c:Fr->AV->Hp->Prop):Prop:=match op with
 | .call { callee:=.value f,args:=as,.. }=>yQ E own (ev E s.1 f) (as.toList.map (ev E s.1)) s.2 (c s.1)
 | .panic _=>False
 | op=>X1 E own op s c
theorem KU (E:Env)(own:Bool)(f:Operand)(as:Array Operand)(a:Array TypeId)(F:Fr)(h:Hp)(c:Fr->AV->Hp->Prop):
 Y1 E own (.call { callee:=.value f,args:=as,argTypes:=a }) (F,h) c=yQ E own (ev E F f) (as.toList.map (ev E F)) h (c F):=rfl
theorem Pv (E:Env)(own:Bool)(op:Op)(s:Fr×Hp)(c:Fr->AV->Hp->Prop)(a:fW op=false)(b:¬ ∃x,op=.panic x):Y1 E own op s c=X1 E own op s c:=by
 unfold Y1;split
 .simp [fW] at a
 .exact absurd ⟨_,rfl⟩ b
 .rfl
theorem xS {op:Op}(h:fW op=true):∃f as a,op=.call { callee:=.value f,args:=as,argTypes:=a }:=by
 cases op<;>simp only[fW] at h<;>try (cases h;done)
 rename_i c;obtain⟨b,as,a⟩:=c
 cases b with
 | value f=>exact⟨f,as,a,rfl⟩
 | _=>simp [fW] at h
theorem Mb {E:Env}{own:Bool}{op:Op}{F:Fr}{h b:Hp}(a:fW op=false):gk E own op F h v b=(ep E.P own h (ev E F) op=some (v,b)):=by
 unfold gk;split
 .simp [fW] at a
 .rfl
theorem Km (E:Env)(own:Bool)(op:Op)(s:Fr×Hp)(c:Fr->AV->Hp->Prop):(∃v e,gk E own op s.1 s.2 v e/\c s.1 v e)=Y1 E own op s c:=by
 apply propext
 cases b:fW op with
 | true =>
   obtain⟨f,as,p,rfl⟩:=xS b;obtain⟨F,h⟩:=s;rw[KU];unfold gk yQ;simp only;generalize ev E F f=fv
   cases fv with
   | fn fn first g =>
     cases fn with
     | func k =>
       constructor
       .grind
       .grind
     | _=>constructor<;>(intro a;first|exact a.elim|(obtain⟨_,_,a,_⟩:=a;exact a.elim))
   | _=>constructor<;>(intro a;first|exact a.elim|(obtain⟨_,_,a,_⟩:=a;exact a.elim))
 | false =>
   obtain⟨F,h⟩:=s;rcases Classical.em (∃x,op=.panic x) with⟨x,rfl⟩|d
   .constructor
    .rintro⟨v,e,l,_⟩
     simp [gk,ep] at l
    .intro q;exact q.elim
   rw[Pv _ _ _ _ _ b d,Pw _ _ _ _ _ _ (by
    split
    .simp [fW] at b
    .exact absurd ⟨_,rfl⟩ d
    .rfl)]
   simp only[Mb b];unfold JG;constructor
   .simp_all
   .grind
def AM (E:Env)(f:AV)(args:List AV)(h:Hp)(K:AV->Hp->Prop):Prop:=match f with
 | .fn (.func b) first a=>∃r d,ACalls E b (first++(args++a)) h (fun g e=>g=r/\e=d)/\K r d
 | _=>False
def YE (E:Env)(op:Op)(s:Fr×Hp)(c:Fr->AV->Hp->Prop):Prop:=match op with
 | .call { callee:=.value f,args:=as,.. }=>AM E (ev E s.1 f) (as.toList.map (ev E s.1)) s.2 (c s.1)
 | _=>False
def YO (E:Env)(a own:Bool)(op:Op)(s:Fr×Hp)(c:Fr->AV->Hp->Prop):Prop:=match a with
 | false=>Y1 E own op s c
 | true=>YE E op s c
theorem I4 (E:Env)(own:Bool)(op:Op)(s:Fr×Hp)(c:Fr->AV->Hp->Prop):YO E false own op s c=Y1 E own op s c:=rfl
theorem AWX {E:Env}{op:Op}{F:Fr}{h d:Hp}(b:fW op=false):¬fj E op F h v d:=by
 intro a;unfold fj at a;split at a
 .simp [fW] at b
 .exact a
theorem Pu {E:Env}{op:Op}{s:Fr×Hp}{c:Fr->AV->Hp->Prop}(b:fW op=false):¬YE E op s c:=by
 intro a;unfold YE at a;split at a
 .simp [fW] at b
 .exact a
theorem Kk (E:Env)(op:Op)(s:Fr×Hp)(c:Fr->AV->Hp->Prop):(∃v d,fj E op s.1 s.2 v d/\c s.1 v d)=YE E op s c:=by
 apply propext
 cases b:fW op with
 | true =>
   obtain⟨f,as,k,rfl⟩:=xS b;obtain⟨F,h⟩:=s;show(∃v d,fj E _ F h v d/\c F v d)↔AM E (ev E F f) (as.toList.map (ev E F)) h (c F);unfold fj AM;simp only;generalize ev E F f=fv
   cases fv with
   | fn fn first e =>
     cases fn with
     | func g=>exact Iff.rfl
     | _=>constructor<;>(intro a;first|exact a.elim|(obtain⟨_,_,a,_⟩:=a;exact a.elim))
   | _=>constructor<;>(intro a;first|exact a.elim|(obtain⟨_,_,a,_⟩:=a;exact a.elim))
 | false =>
   constructor
   .rintro⟨_,_,a,_⟩;exact(AWX b a).elim
   .intro a;exact(Pu b a).elim
theorem A0 {E:Env}{md:Nat->Bool}{d:Option Tmp}{op:Op}(t:TypeId)(p:String)(e:Array Edge)(g:Option (Nat×Bool))(s:Fr×Hp)(c:Fr->AV->Hp->Prop):
  YO E (md (d.getD 0+1000000)) (md (d.getD 0)) op s c =∃v a,du E md ⟨d,op,t,p,e,g⟩ s.1 s.2 v a/\c s.1 v a:=by
 unfold YO du;simp only;generalize md (d.getD 0+1000000)=q
 cases q with
 | false=>exact(Km E (md (d.getD 0)) op s c).symm
 | true=>exact(Kk E op s c).symm
def DD (E:Env)(md:Nat->Bool)(ops:List Oper)(l:List Oper)(F:Fr)(h:Hp)(K:Fr->Hp->Prop):Prop:=D E md (ops.map (·.dst)) l F h K
def vj (E:Env)(md:Nat->Bool)(ops:List Oper)(d:Option Tmp)(r:List Oper)(F:Fr)(K:Fr->Hp->Prop):AV->Hp->Prop:=fun v a=>DD E md ops r (GV F d v) a K
theorem EC (E:Env)(md:Nat->Bool)(ops:List Oper)(d:Tmp)(r:List Oper)(F:Fr)(K:Fr->Hp->Prop)(v:AV)(h:Hp):vj E md ops (some d) r F K v h=DD E md ops r (upd F d v) h K:=rfl
theorem O8 (E:Env)(md:Nat->Bool)(ops:List Oper)(r:List Oper)(F:Fr)(K:Fr->Hp->Prop)(v:AV)(h:Hp):vj E md ops none r F K v h=DD E md ops r F h K:=rfl
def dc (E:Env)(md:Nat->Bool)(ops:List Oper)(d:Option Tmp)(r:List Oper)(K:Fr->Hp->Prop):Fr->AV->Hp->Prop:=fun F=>vj E md ops d r F K
theorem EO (E:Env)(md:Nat->Bool)(ops:List Oper)(d:Option Tmp)(r:List Oper)(K:Fr->Hp->Prop)(F:Fr):dc E md ops d r K F=vj E md ops d r F K:=rfl
theorem FU (E:Env)(md:Nat->Bool)(ops:List Oper)(F:Fr)(h:Hp)(K:Fr->Hp->Prop):DD E md ops [] F h K=K F h:=rfl
theorem DI {E:Env}{l:List Oper}{F:Fr}{h:Hp}(b:s7 H.md [] l.toArray=true)(a:DD E H.md l l F h (Q .normal)):dh E H (.region i l.toArray true) F h Q :=
 (mJ (sep:=[]) b (by unfold cV;rw[zJ];intro o _;cases o.dst<;>rfl) trivial a).toN
theorem yX {E:Env}{l:List Oper}{F:Fr}{h:Hp}(sep:List (Nat×Nat))(a:(s7 H.md sep l.toArray&&cV sep l)=true)(d:SN F sep)(b:DD E H.md l l F h (Q .normal)):dh E H (.region i l.toArray true) F h Q :=
 (mJ (Bool.and_eq_true_iff.1 a).1 (by simpa using (Bool.and_eq_true_iff.1 a).2) d b).toN
theorem Ga {E:Env}{H:Hint}{n:Nat}{l:List Oper}{F:Fr}{h:Hp}{Q:e8->Fr->Hp->Prop}(sep:List (Nat×Nat))(pre:List Nat)(i j:Nat)(a:List Nat)(d:zo H.md sep l.toArray pre i j a=true)(e:SN F sep)
 (b:DD E H.md l (O6 l pre) F h fun F h=>DD E H.md l (O6 l (i::j::a)) F h (Q .normal)/\DD E H.md l (O6 l (j::i::a)) F h (Q .normal)):dh E H (.region n l.toArray true) F h Q:=(Zk d e b).toN
theorem FG (F:Fr):SN F []=True:=rfl
theorem Dv (F:Fr)(t u:Nat)(r:List (Nat×Nat)):SN F ((t,u)::r)=(cL (F t) (F u)/\SN F r):=rfl
theorem DA (b i j a i' j':Nat):cL (.ptr b i j) (.ptr a i' j')=(b≠a):=rfl
theorem ER (E:Env)(md:Nat->Bool)(ops:List Oper)(d:Option Tmp)(op:Op)(t:TypeId)(p:String)(e:Array Edge)(r:List Oper)(F:Fr)(h:Hp)(K:Fr->Hp->Prop):
  DD E md ops (⟨d,op,t,p,e,none⟩::r) F h K=YO E (md (d.getD 0+1000000)) (md (d.getD 0)) op (F,h) (dc E md ops d r K):=by
 rw[A0 t p e none];simp only[DD,D,OJ,true_imp_iff,Bool.true_eq_false,false_imp_iff,and_true];rfl
def GD (E:Env)(md:Nat->Bool)(ops:List Oper)(d:Option Tmp)(op:Op)(r:List Oper)(F:Fr)(h:Hp)(K:Fr->Hp->Prop)(want:Bool)(v:AV):Prop :=
 match v with
 | .bool b=>((b==want)=true->YO E (md (d.getD 0+1000000)) (md (d.getD 0)) op (F,h) (dc E md ops d r K))/\((b==want)=false->DD E md ops r (GV F d IK) h K)
 | .tup []=>DD E md ops r (GV F d IK) h K
 | _=>False
theorem AW5 (E:Env)(md:Nat->Bool)(ops:List Oper)(d:Option Tmp)(op:Op)(t:TypeId)(p:String)(e:Array Edge)(j:Nat)(want:Bool)(r:List Oper)(F:Fr)(h:Hp)(K:Fr->Hp->Prop)(g:Tmp)(a:EM ops j=some g):
  DD E md ops (⟨d,op,t,p,e,some (j,want)⟩::r) F h K=GD E md ops d op r F h K want (F g):=by
 simp only[DD,D,OJ,aM,a,GD,A0 t p e (some (j,want))];generalize F g=v
 cases v with
 | bool b=>rfl
 | tup f=>cases f with
   | nil=>simp
   | cons=>rfl
 | _=>rfl
def GY (E:Env)(md:Nat->Bool)(ops:List Oper)(d:Option Tmp)(op:Op)(r:List Oper)(F:Fr)(h:Hp)(K:Fr->Hp->Prop)(want:Bool)(o:Option Tmp):Prop:=match o with
 | some g=>GD E md ops d op r F h K want (F g)
 | none=>DD E md ops r (GV F d IK) h K
theorem KW (E:Env)(md:Nat->Bool)(ops:List Oper)(d:Option Tmp)(op:Op)(r:List Oper)(F:Fr)(h:Hp)(K:Fr->Hp->Prop)(want:Bool)(g:Tmp):GY E md ops d op r F h K want (some g)=GD E md ops d op r F h K want (F g):=rfl
theorem JA (E:Env)(md:Nat->Bool)(ops:List Oper)(d:Option Tmp)(op:Op)(t:TypeId)(p:String)(e:Array Edge)(j:Nat)(want:Bool)(r:List Oper)(F:Fr)(h:Hp)(K:Fr->Hp->Prop):
  DD E md ops (⟨d,op,t,p,e,some (j,want)⟩::r) F h K=GY E md ops d op r F h K want (EM ops j):=by
 cases a:EM ops j with
 | some g=>exact AW5 E md ops d op t p e j want r F h K g a
 | none=>simp [DD,D,OJ,aM,a,GY]
theorem mL {E:Env}{md:Nat->Bool}{ops:List Oper}{d:Option Tmp}{op:Op}{r:List Oper}{F:Fr}{h:Hp}{K:Fr->Hp->Prop}{b:Bool}(e:b=true->GD E md ops d op r F h K want (.bool true))(a:b=false->GD E md ops d op r F h K want (.bool false)):GD E md ops d op r F h K want (.bool b):=by
 cases b
 .exact a rfl
 .exact e rfl
section
variable (E:Env) (md:Nat->Bool) (ops:List Oper) (d:Option Tmp) (op:Op) (r:List Oper) (F:Fr) (h:Hp) (K:Fr->Hp->Prop)
theorem ZI:GD E md ops d op r F h K true (.bool true)=YO E (md (d.getD 0+1000000)) (md (d.getD 0)) op (F,h) (dc E md ops d r K):=by simp [GD]
theorem ZJ:GD E md ops d op r F h K false (.bool false)=YO E (md (d.getD 0+1000000)) (md (d.getD 0)) op (F,h) (dc E md ops d r K):=by simp [GD]
theorem qd:GD E md ops d op r F h K true (.bool false)=DD E md ops r (GV F d IK) h K:=by simp [GD]
theorem A3:GD E md ops d op r F h K false (.bool true)=DD E md ops r (GV F d IK) h K:=by simp [GD]
theorem te (want:Bool):GD E md ops d op r F h K want IK=DD E md ops r (GV F d IK) h K:=rfl
theorem FI (own:Bool)(x:Operand)(c:Fr->AV->Hp->Prop):Y1 E own (.move x) (F,h) c=c F (ev E F x) h:=rfl
theorem JX (own:Bool)(x:Operand)(c:Fr->AV->Hp->Prop):Y1 E own (.assign x) (F,h) c=c F (ev E F x) h:=rfl
variable (own:Bool) (c:Fr->AV->Hp->Prop)
theorem RD (x a b:Operand):Y1 E own (.pick x a b) (F,h) c=X1 E own (.pick x a b) (F,h) c:=rfl
theorem eY (t:TypeId):Y1 E own (.alloc t) (F,h) c=X1 E own (.alloc t) (F,h) c:=rfl
theorem Ng (t:TypeId)(x:Operand):Y1 E own (.box t x) (F,h) c=X1 E own (.box t x) (F,h) c:=rfl
theorem X8 (t:TypeId)(ps:Array (Nat×Operand)):Y1 E own (.build t ps) (F,h) c=X1 E own (.build t ps) (F,h) c:=rfl
theorem JK (t:TypeId)(n:Nat)(ps:Array (Nat×Operand)):Y1 E own (.buildSlice t n ps) (F,h) c=X1 E own (.buildSlice t n ps) (F,h) c:=rfl
theorem EX (t:TypeId)(x:Operand):Y1 E own (.load t x) (F,h) c=X1 E own (.load t x) (F,h) c:=rfl
theorem PU (t:TypeId)(x y:Operand):Y1 E own (.store t x y) (F,h) c=X1 E own (.store t x y) (F,h) c:=rfl
theorem JO (o:BinOp)(t u:TypeId)(x y:Operand):Y1 E own (.binOp o t x y u) (F,h) c=X1 E own (.binOp o t x y u) (F,h) c:=rfl
theorem so (o:UnOp)(t:TypeId)(x:Operand):Y1 E own (.unOp o t x) (F,h) c=X1 E own (.unOp o t x) (F,h) c:=rfl
theorem Ih (t u:TypeId)(x:Operand):Y1 E own (.convert t u x) (F,h) c=X1 E own (.convert t u x) (F,h) c:=rfl
theorem ZP (t:TypeId)(x y:Operand):Y1 E own (.makeSlice t x y) (F,h) c=X1 E own (.makeSlice t x y) (F,h) c:=rfl
theorem X6 (t:TypeId)(x:Operand)(lo a b:Option Operand):Y1 E own (.slice t x lo a b) (F,h) c=X1 E own (.slice t x lo a b) (F,h) c:=rfl
theorem DT (t:TypeId)(x:Operand)(i:Nat):Y1 E own (.fieldAddr t x i) (F,h) c=X1 E own (.fieldAddr t x i) (F,h) c:=rfl
theorem DK (t:TypeId)(x y:Operand):Y1 E own (.indexAddr t x y) (F,h) c=X1 E own (.indexAddr t x y) (F,h) c:=rfl
theorem yl (t:TypeId)(x y:Operand):Y1 E own (.index t x y) (F,h) c=X1 E own (.index t x y) (F,h) c:=rfl
theorem XG (x:Operand)(i:Nat):Y1 E own (.extract x i) (F,h) c=X1 E own (.extract x i) (F,h) c:=rfl
theorem IB (b:Builtin)(as:Array Operand)(a:Array TypeId):Y1 E own (.call { callee:=.builtin b,args:=as,argTypes:=a }) (F,h) c=X1 E own (.call { callee:=.builtin b,args:=as,argTypes:=a }) (F,h) c:=rfl
end
theorem eR {E:Env}{H:Hint}{ds:List (Option Tmp)}{K e:Fr->Hp->Prop}(hk:∀F h,K F h->e F h):∀(l:List Oper) (F:Fr) (h:Hp),W E H ds l F h K->W E H ds l F h e
 | [],F,h,a=>hk F h a
 | o::r,F,h,a=>by
   simp only[W] at a|-
   split at a
   .exact⟨fun b=>TQ (fun v g f=>eR hk r _ _ f) (a.1 b),fun b=>eR hk r _ _ (a.2 b)⟩
   .exact a.elim
theorem lH {E:Env}{md:Nat->Bool}{ds:List (Option Tmp)}{K e:Fr->Hp->Prop}(hk:∀F h,K F h->e F h):∀(l:List Oper) (F:Fr) (h:Hp),D E md ds l F h K->D E md ds l F h e
 | [],F,h,a=>hk F h a
 | o::r,F,h,a=>by
   simp only[D] at a|-
   split at a
   .exact⟨fun b=>let ⟨v,h',h1,h2⟩:=a.1 b;⟨v,h',h1,lH hk r _ _ h2⟩,fun b=>lH hk r _ _ (a.2 b)⟩
   .exact a.elim
theorem oO {next next':Fr->Hp->Prop}{b:e8->Fr->Hp->Prop}(g:∀F h,next F h->next' F h)(f:∀e F h,Q e F h->b e F h):∀e F h,fE next Q e F h->fE next' b e F h:=by
 intro e F h a
 cases e with
 | normal=>exact g F h a
 | exit i=>exact f _ F h a
 | ret=>exact f _ F h a
theorem hJ {E:Env}:∀(c:Code) {F:Fr} {h:Hp} {Q p:e8->Fr->Hp->Prop},(∀e F h,Q e F h->p e F h)->dh E H c F h Q->dh E H c F h p:=by
 intro c
 induction c with
 | skip=>intro F h Q p k a;exact k _ _ _ a
 | label l=>intro F h Q p k a;exact k _ _ _ a
 | scope b C=>intro F h Q p k a;exact C k a
 | ret=>intro F h Q p k a;exact k _ _ _ a
 | exit i=>intro F h Q p k a;exact k _ _ _ a
 | seq x y G J=>intro F h Q p k a;exact G (oO (fun F h q=>J k q) k) a
 | block id b C =>
   intro F h Q p k a;refine C (fun e F h q=>?_) a
   cases e with
   | normal=>exact k _ _ _ q
   | exit i =>
     simp only[VR] at q|-
     split
     .simp_all
     .simp_all
   | ret=>exact k _ _ _ q
 | cond c x y G J =>
   intro F h Q p k a
   simp only[dh] at a|-
   split at a
   .grind
   .exact a.elim
 | loop b C =>
   intro F h Q p k a;obtain⟨I,L,hr⟩:=a;exact⟨I,L,fun n F h M=>C (oO (fun _ _ q=>q) k) (hr n F h M)⟩
 | region i ops B =>
   intro F h Q p k a
   simp only[dh] at a|-
   cases B with
   | false=>exact eR (k _) _ _ _ a
   | true=>exact zE (fun s=>k _ s.1 s.2) _ _ _ a
 | rangeFunc g ps P O a0 a1 =>
   intro F h Q p k a;obtain⟨Z,L,f,A,N,xs,I,S,T,V,X,Y⟩:=a;exact⟨Z,L,f,A,N,xs,I,S,T,V,X,fun R M=>k _ _ _ (Y R M)⟩
 | _=>intro F h Q p k a;simp only[dh] at a
def sy (N:Fr->Hp->Prop)(R:Fr->Hp->Prop):e8->Fr->Hp->Prop
 | .normal,F,h=>N F h
 | .ret,F,h=>R F h
 | .exit _,_,_=>False
theorem vf (N R:Fr->Hp->Prop)(F:Fr)(h:Hp):sy N R .normal F h=N F h:=rfl
theorem oC {E:Env}{c:Code}{F:Fr}{h:Hp}(N R:Fr->Hp->Prop)(g:dh E H c F h (sy N R))(b:∀F h,N F h->Q .normal F h)(f:∀F h,R F h->Q .ret F h):dh E H c F h Q :=
 hJ c (fun e F h a=>by
  cases e with
  | normal=>exact b F h a
  | ret=>exact f F h a
  | exit i=>exact a.elim) g
theorem SI {E:Env}{ops:List Oper}{d:Option Tmp}{op:Op}{r:List Oper}{F:Fr}{h:Hp}{K:Fr->Hp->Prop}(e:Fr->Hp->Prop)(a:G1 E H ops d op r F h e want v)(hk:∀F h,e F h->K F h):G1 E H ops d op r F h K want v:=by
 unfold G1 at *;split at a
 .exact⟨fun b=>TQ (fun v g f=>eR hk r _ _ f) (a.1 b),fun b=>eR hk r _ _ (a.2 b)⟩
 .exact eR hk r _ _ a
 .exact a.elim
theorem Js {E:Env}{md:Nat->Bool}{ops r:List Oper}{F:Fr}{h:Hp}{K:Fr->Hp->Prop}(a:Fr->Hp->Prop)(b:DD E md ops r F h a)(hk:∀F h,a F h->K F h):DD E md ops r F h K:=lH hk r _ _ b
theorem Jz {E:Env}{md:Nat->Bool}{ops:List Oper}{d:Option Tmp}{op:Op}{r:List Oper}{F:Fr}{h:Hp}{K:Fr->Hp->Prop}(K':Fr->Hp->Prop)(hw:GD E md ops d op r F h K' want v)(hk:∀F h,K' F h->K F h):GD E md ops d op r F h K want v:=by
 unfold GD at *
 simp only[A0 (d:=d) 0 "" #[] none] at *
 split at hw
 .refine⟨fun hc=>?_,fun hc=>lH hk r _ _ (hw.2 hc)⟩
  obtain⟨v,h',h1,h2⟩:=hw.1 hc;exact⟨v,h',h1,lH hk r _ _ h2⟩
 .exact lH hk r _ _ hw
 .exact hw.elim
theorem Ma {E:Env}{H:Hint}{gf:Operand}{ps:Array Tmp}{g a:Code}{F:Fr}{h:Hp}{Q:e8->Fr->Hp->Prop}{f:FuncId}{b:List AV}(B:(dZ g&&dZ a)=true)(A:ev E F gf=.fn (.func f) [] b)
  (N:Nat) (xs:Nat->List AV) (I:Nat->Hp->Prop) (hit:Iter E f b N xs I) (L:I 0 h)
  (J:∀k l,k<N->I k l->(xs k).length=ps.size/\dh E H g (mu F ps.toList (xs k)) l (sr E H a (sy (fun _ h2=>∃C,kx E h2 C/\I (k+1) C) fun _ _=>False))) (O:∀l,I N l->Q .normal F l) (M:∀u h,¬E.X u h:=by exact fun _ _ q=>q):dh E H (.rangeFunc gf ps g a) F h Q :=
 ⟨M,B,f,b,N,xs,I,A,hit,L,fun k l hk G=>⟨(J k l hk G).1,hJ g (fun e P S p=>by
  cases e with
  | normal=>exact hJ a (fun e R h2 p=>by cases e with
    | normal=>exact p
    | exit i=>exact p.elim
    | ret=>exact p.elim) p
  | exit i=>exact p.elim
  | ret=>exact p.elim) (J k l hk G).2⟩,O⟩
def xg (i:Nat)(N:Fr->Hp->Prop)(R:Fr->Hp->Prop):e8->Fr->Hp->Prop
 | .normal,_,_=>False
 | .ret,F,h=>R F h
 | .exit j,F,h=>if j=i then N F h else False
theorem C' (i j:Nat)(N R:Fr->Hp->Prop)(F:Fr)(h:Hp):xg i N R (.exit j) F h=if j=i then N F h else False:=rfl
theorem wu (i:Nat)(N R:Fr->Hp->Prop)(F:Fr)(h:Hp):xg i N R .ret F h=R F h:=rfl
theorem EG {E:Env}{c:Code}{F:Fr}{h:Hp}(i:Nat)(N R:Fr->Hp->Prop)(g:dh E H c F h (xg i N R))(b:∀F h,N F h->Q (.exit i) F h)(f:∀F h,R F h->Q .ret F h):dh E H c F h Q :=
 hJ c (fun e F h a=>by
  cases e with
  | normal=>exact a.elim
  | ret=>exact f F h a
  | exit j =>
    simp only[xg] at a;split at a
    .rename_i e;subst e;exact b F h a
    .exact a.elim) g
theorem Xu {E:Env}{ops r:List Oper}{d:Option Tmp}{F:Fr}{h:Hp}{K:Fr->Hp->Prop}(a:Fr->Hp->Prop)(b:vK E H ops d r F a v h)(hk:∀F h,a F h->K F h):vK E H ops d r F K v h:=eR hk r _ _ b
theorem IJ (ρ:Operand->AV):ll ρ []=[]:=rfl
theorem G6 (ρ:Operand->AV)(i:Nat)(x:Operand)(r:List (Nat×Operand)):ll ρ ((i,x)::r)=(i,ρ x)::ll ρ r:=rfl
theorem KG {o:Option (AV×Hp)}{K:AV->Hp->Prop}{h:Hp}(a:o=some (v,h))(hk:K v h):JG o K:=by rw[a];exact hk
theorem BD (n:Nat):Hint.none.md n=false:=rfl
theorem BN (n:Nat):Hint.none.fz n=[]:=rfl
theorem BF (s:Fr×Hp):NS s []=s:=rfl
theorem UJ (s:Fr×Hp)(i:Nat)(r:List Nat):NS s (i::r)=NS (QO s i) r:=rfl
def hint (md:List Nat)(a:List (Nat×List Nat)):Hint:=⟨fun n=>md.contains n,fun n=>match a.find? (fun x=>x.1==n) with|some x=>x.2|none=>[]⟩
section
variable (P:Program) (t:TypeId) (k:IntKind) (a b:Int)
theorem GU:IZ P t .add (.int k a) (.int k b)=some (.int k (k.wrap (a+b))):=by simp [IZ,iA,TS]
theorem L9:IZ P t .sub (.int k a) (.int k b)=some (.int k (k.wrap (a-b))):=by simp [IZ,iA,TS]
theorem Y6:IZ P t .mul (.int k a) (.int k b)=some (.int k (k.wrap (a*b))):=by simp [IZ,iA,TS]
theorem zl (h:b≠0):IZ P t .quo (.int k a) (.int k b)=some (.int k (k.wrap (a.tdiv b))):=by simp [IZ,iA,TS,h]
theorem cH (h:b≠0):IZ P t .rem (.int k a) (.int k b)=some (.int k (a.tmod b)):=by simp [IZ,iA,TS,h]
theorem JP:IZ P t .eql (.int k a) (.int k b)=some (.bool (a==b)):=by simp [IZ,iA,TS]
theorem FM:IZ P t .neq (.int k a) (.int k b)=some (.bool (a != b)):=by simp [IZ,iA,TS]
theorem F9:IZ P t .lss (.int k a) (.int k b)=some (.bool (decide (a<b))):=by simp [IZ,iA,TS]
theorem cI:IZ P t .leq (.int k a) (.int k b)=some (.bool (decide (a<=b))):=by simp [IZ,iA,TS]
theorem KF:IZ P t .gtr (.int k a) (.int k b)=some (.bool (decide (a>b))):=by simp [IZ,iA,TS]
theorem JU:IZ P t .geq (.int k a) (.int k b)=some (.bool (decide (a≥b))):=by simp [IZ,iA,TS]
theorem QN (s u:ByteArray):IZ P t .eql (.str s) (.str u)=some (.bool (s.toList==u.toList)):=rfl
theorem tJ (s u:ByteArray):IZ P t .neq (.str s) (.str u)=some (.bool (!(s.toList==u.toList))):=rfl
theorem AV0 (p q:Bool)(e:P.underlying t=some .bool):IZ P t .eql (.bool p) (.bool q)=some (.bool (p==q)):=by simp [IZ,oE,e]
theorem WX (p:Bool):oi .not (.bool p)=some (.bool (!p)):=rfl
theorem zp:oi .neg (.int k a)=some (.int k (k.wrap (0-a))):=rfl
theorem pX:ZG qa (.int k a) [.int k b]=some (.int k (max a b)):=by simp [ZG,qa]
theorem uo:ZG p_ (.int k a) [.int k b]=some (.int k (min a b)):=by simp [ZG,p_]
theorem gX {s d:TypeId}{e:IntKind}{ds:TypeDesc}(f:P.underlying s=some ds)(h2:P.underlying d=some (.int e)):ZH P s d (.int k a)=some (.int e (e.wrap a)):=by simp [ZH,f,h2]
end
theorem wrap_i64 {n:Int}(e : -9223372036854775808<=n)(f:n<=9223372036854775807):IntKind.i64.wrap n=n:=by
 unfold IntKind.wrap IntKind.bits IntKind.signed;simp;omega
section
variable {α:Type} {P:Program}
theorem OD {t e:TypeId}(f:P.underlying t=some (.slice e)):(∀m k xs,KI P t (.sl m k xs)=some (.int .i64 xs.length))/\∀b off len,KI P t (.own b off len)=some (.int .i64 len):=by
 constructor<;>intros<;>simp [KI,f]
theorem AYW {t:TypeId}(e:P.underlying t=some .string)(s:ByteArray):KI P t (.str s)=some (.int .i64 s.size):=by simp [KI,e]
theorem CE {k:Nat}{h:Hp}{f:α->List AV}{xs:List α}(e:n<xs.length):JJ k h (.sl m k (xs.map f)) (.int kk (n:Int))=some (.fptr k (xs.map f) n 0):=by
 simp [JJ,e]
theorem Cc {k:Nat}{h:Hp}{i:Int}(e:0<=i)(f:i<(xs.length:Int)):JJ k h (.sl m k xs) (.int kk i)=some (.fptr k xs i.toNat 0):=by
 simp [JJ,e,f]
theorem GR {k:Nat}{h:Hp}{b:Nat}(e:h[b]?=some (.live k xs))(f:n<len):JJ k h (.own b off len) (.int kk (n:Int))=some (.ptr b (off+n) 0):=by
 simp [JJ,e,f]
theorem BK {h:Hp}{t:TypeId}{k:Nat}{f:α->List AV}{xs:List α}(e:KN P t=some false)(g:n<xs.length):BR P h t (.fptr k (xs.map f) n j)=(f xs[n])[j]? := by
 simp [BR,rowAt,g,e]
theorem DL {h:Hp}{t:TypeId}{k:Nat}{f:α->List AV}{xs:List α}(e:KN P t=some true)(p:da P t=some s)(g:∀x,(f x).length=s)(l:n<xs.length):
  BR P h t (.fptr k (xs.map f) n 0)=some (.agg (f xs[n])):=by
 have:=g xs[n];simp [BR,rowAt,l,e,p,this];rw[jK U]
theorem BJ {h:Hp}{t:TypeId}{b k:Nat}(e:KN P t=some false)(f:h[b]?=some (.live k xs))(g:xs[i]?=some row):BR P h t (.ptr b i j)=row[j]? := by
 simp [BR,rowAt,f,g,e]
theorem EK {h:Hp}{t:TypeId}{b k:Nat}(e:KN P t=some true)(p:da P t=some s)(f:h[b]?=some (.live k xs))(l:xs[i]?=some row)(g:j+s<=row.length):
  BR P h t (.ptr b i j)=some (.agg ((row.drop j).take s)):=by
 simp [BR,rowAt,f,l,e,p,g]
end
theorem A8 (h:Hp)(x:bO):(h++[x])[h.length]?=some x:=BA
theorem nH (h:Hp)(x y:bO):(h++[x]).set h.length y=h++[y]:=BA
theorem AU {h:Hp}{x:bO}{b:Nat}(e:h[b]?=some y):(h++[x])[b]?=some y:=by grind
theorem bS {P:Program}{h:Hp}{t:TypeId}{k:Nat}(e:KN P t=some true)(g:da P t=some s)(f:j+s<=row.length):BR P (h++[.live k [row]]) t (.ptr h.length 0 j)=some (.agg ((row.drop j).take s)):=by
 simp [BR,rowAt,e,g,f]
theorem VH {P:Program}{h:Hp}{t:TypeId}{k:Nat}(e:JI v=some cs)(g:da P t=some cs.length)(f:j+cs.length<=row.length):
  D7 P (h++[.live k [row]]) t (.ptr h.length 0 j) v=some (h++[.live k [splice row j cs]]):=by
 simp [D7,e,g,f]
theorem L' {h:Hp}(e:JI v=some cs):OU h v=some (.ptr h.length 0 0,h++[.live cs.length [cs]]):=by simp [OU,e]
theorem SC (e:cs.all AV.leaf=true):JI (.agg cs)=some cs:=by simp only[JI,e,if_true]
theorem aY (k:IntKind)(n:Int):JI (.int k n)=some [.int k n]:=rfl
theorem Ps (m:SM)(k:Nat)(xs:List (List AV)):JI (.sl m k xs)=some [.sl m k xs]:=rfl
theorem Ae (a b c:Nat):JI (.own a b c)=some [.own a b c]:=rfl
theorem CH (f:Fn)(a b:List AV):JI (.fn f a b)=some [.fn f a b]:=rfl
theorem ND (h:n<=9223372036854775807):IntKind.i64.wrap (n:Int)=(n:Int):=wrap_i64 U U
theorem wrap_succ (h:n<9223372036854775807):IntKind.i64.wrap ((n:Int)+1)=((n+1:Nat):Int):=by rw[wrap_i64 U U];omega
theorem FO (l:List Nat)(f:List (Nat×List Nat))(n:Nat):(hint l f).md n=l.contains n:=rfl
set_option linter.unusedSimpArgs false in
theorem FZ {P:Program}{h:Hp}{t:TypeId}(e:N9 P t=some row):H9 P h t=some (.ptr h.length 0 0,h++[.live row.length [row]]):=by
 unfold N9 at e;unfold H9 OU;split at e
 .rename_i z f;simp only[f,e]
 .cases e
theorem K0 (h:Hp)(k:IntKind)(n:Int):OU h (.int k n)=some (.ptr h.length 0 0,h++[.live 1 [[.int k n]]]):=rfl
theorem KV (h:Hp)(b:ByteArray):OU h (.str b)=some (.ptr h.length 0 0,h++[.live 1 [[.str b]]]):=rfl
theorem tF (h:Hp)(m:SM)(k:Nat)(xs:List (List AV)):OU h (.sl m k xs)=some (.ptr h.length 0 0,h++[.live 1 [[.sl m k xs]]]):=rfl
theorem cG {h:Hp}(e:cs.all AV.leaf=true):OU h (.agg cs)=some (.ptr h.length 0 0,h++[.live cs.length [cs]]):=L' (SC e)
theorem ATJ {P:Program}{h x:Hp}{t:TypeId}{b:Nat}(f:BR P h t (.ptr b i j)=some v):BR P (h++x) t (.ptr b i j)=some v:=by
 have e:b<h.length:=by
  rcases Nat.lt_or_ge b h.length with e|e
  .exact e
  .have:h[b]?=none:=List.getElem?_eq_none e
   simp [BR,rowAt,this] at f
 have:(h++x)[b]?=h[b]? := List.getElem?_append_left e
 unfold BR at f|-
 simp only[rowAt,this] at f|-
 exact f
theorem EN {P:Program}{h:Hp}{t:TypeId}{k:Nat}(e:KN P t=some false):BR P (h++[.live k [row]]) t (.ptr h.length 0 j)=row[j]? := by
 simp [BR,rowAt,e]
theorem ACalls.of_rep {E:Env}{f:FuncId}{args:List AV}{h:Hp}{R:AV->Hp->Prop}(l:eX E.P f)(q:(∃(g:Gh) (e:Array Value),cS g args e)->ACalls E f args h R):ACalls E f args h R :=
 ⟨l,fun g w e S p=>(q ⟨g,e,p⟩).2 g w e S p⟩
theorem Vl {g:Gh}{args:List AV}{e:Array Value}{k:Nat}(l:cS g args e)(p:args[i]?=some (.sl .nil k xs)):xs=[]:=by
 have f:i<e.size:=by rw[l.1];exact AY p
 have:=(l.2 i _ e[i] p (by simp [f])).sl_inv;generalize e[i]=cv at this
 cases this with
 | nil=>rfl
 | empty=>rfl
 | sl _ _ _ _ _ _ _ _ _ _ _ h=>exact absurd rfl h
theorem ATI {P:Program}{h:Hp}{t:TypeId}{k:Nat}(e:KN P t=some false)(f:xs[i]?=some row)(g:row[j]?=some v):BR P h t (.fptr k xs i j)=some v:=by
 simp [BR,rowAt,e,f,g]
theorem IE {P:Program}{h:Hp}{t:TypeId}{b k:Nat}(f:JI v=some cs)(p:da P t=some cs.length)(e:h[b]?=some (.live k xs))(l:xs[i]?=some row)(g:j+cs.length<=row.length):
  D7 P h t (.ptr b i j) v=some (h.set b (.live k (xs.set i (splice row j cs)))):=by
 simp [D7,f,p,e,l,g]
def ext (h H:Hp):Prop:=∃x,H=h++x
theorem ext.rfl' (h:Hp):ext h h:=⟨[],BA⟩
theorem ext.app {h H:Hp}(e:ext h H)(x:Hp):ext h (H++x):=by obtain⟨y,rfl⟩:=e;exact⟨y++x,by rw[zA]⟩
theorem ext.set {h H:Hp}(f:ext h H){b:Nat}(e:h.length<=b)(y:bO):ext h (H.set b y):=by
 obtain⟨x,rfl⟩:=f;exact⟨x.set (b-h.length) y,by rw[List.set_append_right _ _ e]⟩
theorem ext.trans {a b c:Hp}(f:ext a b)(h2:ext b c):ext a c:=by obtain⟨x,rfl⟩:=f;exact h2.casesOn fun y e=>⟨x++y,by rw[e,zA]⟩
theorem ext.le {h H:Hp}(e:ext h H):h.length<=H.length:=by obtain⟨x,rfl⟩:=e;simp
theorem DU {h:Hp}{b:Nat}{x:Option bO}(g:h[o]?=x)(f:o≠b):(h.set b y)[o]?=x:=by rw[List.getElem?_set,if_neg (fun e=>f e.symm)];exact g
theorem CO {h:Hp}{b:Nat}{x:bO}(e:h[b]?=some x):(h.set b y)[b]?=some y:=by grind
def vB (m:SM)(u n:Nat):SM:=match m with|.nil=>.nil|.full=>if u=n then .full else .any|.any=>.any
section
variable {P:Program} {t e:TypeId} {k:Nat} (hu:P.underlying t=some (.slice e)) (hs:da P e=some k)
include hu hs
theorem yp {h:Hp}{l:Nat}(p:l<=xs.length):IW P h t (.sl m k xs) (some (.int kk (l:Int))) none none=some (.sl m k (xs.drop l)):=by
 have f:G8 (some (.int kk (l:Int))) (some 0)=some l:=by simp [G8]
 have g:G8 none (some xs.length)=some xs.length:=rfl;simp only[IW,hu,f,g,hs,true_and];rw[if_pos ⟨p,jF _⟩,jK BA];cases m<;>simp
theorem rj {h:Hp}{u:Nat}(l:u<=xs.length):IW P h t (.sl m k xs) none (some (.int kk (u:Int))) none=some (.sl (vB m u xs.length) k (xs.take u)):=by
 have f:G8 (some (.int kk (u:Int))) (some xs.length)=some u:=by simp [G8]
 have g:G8 none (some 0)=some 0:=rfl;simp only[IW,hu,f,g,hs,true_and];rw[if_pos ⟨qN _,l⟩];cases m<;>simp [vB]
theorem Ij {h:Hp}{b u:Nat}(l:h[b]?=some (.live k xs))(p:u<=len):IW P h t (.own b off len) none (some (.int kk (u:Int))) none=some (.own b off u):=by
 have f:G8 (some (.int kk (u:Int))) (some len)=some u:=by simp [G8]
 have g:G8 none (some 0)=some 0:=rfl;simp only[IW,hu,f,g,hs,l,true_and];rw[if_pos ⟨qN _,p⟩];simp
theorem Eu {h:Hp}{b l:Nat}(p:h[b]?=some (.live k xs))(q:l<=len):IW P h t (.own b off len) (some (.int kk (l:Int))) none none=some (.own b (off+l) (len-l)):=by
 have f:G8 (some (.int kk (l:Int))) (some 0)=some l:=by simp [G8]
 have g:G8 none (some len)=some len:=rfl;simp only[IW,hu,f,g,hs,p,true_and];rw[if_pos ⟨q,jF _⟩]
end
section
variable {P:Program} {t e:TypeId} {k b:Nat} (hu:P.underlying t=some (.slice e)) (hs:da P e=some k) (hz:U5 P e=some k) (hb:L8 P e=some b)
include hu hs hz hb
theorem aU {h:Hp}(p:JR h x=some (k,ys))(f:ys≠[])(l:room (xs.length+ys.length) b):
  EJ P true h t t (.sl .full k xs) x=some (.own h.length 0 (xs.length+ys.length),h++[.live k (xs++ys)]):=by
 have g:¬ys.length=0:=BQ f;simp [EJ,hu,hs,TC,p,bump,hz,hb,l,g]
theorem WS {h:Hp}{q:Nat}(p:JR h x=some (k,ys))(f:ys≠[])(l:room ys.length b):
  EJ P true h t t (.sl .nil q xs) x=some (.own h.length 0 ys.length,h++[.live k ys]):=by
 have g:¬ys.length=0:=BQ f;simp [EJ,hu,hs,TC,p,bump,hz,hb,l,g]
theorem VG {h:Hp}(g:JR h (.own o off len)=some (k,xs))(q:JR h x=some (k,ys))(f:ys≠[])(p:room (xs.length+ys.length) b):
  EJ P true h t t (.own o off len) x=some (.own h.length 0 (xs.length+ys.length),h.set o .dead++[.live k (xs++ys)]):=by
 have l:¬ys.length=0:=BQ f;simp [EJ,hu,hs,TC,q,bump,hz,hb,p,l,g]
theorem W7 {h:Hp}(p:JR h x=some (k,ys))(f:ys≠[])(l:room (xs.length+ys.length) b):
  EJ P false h t t (.sl .full k xs) x=some (.sl .any k (xs++ys),h):=by
 have g:¬ys.length=0:=BQ f;simp [EJ,hu,hs,TC,p,bump,hz,hb,l,g]
omit hz hb in
theorem Gb {h:Hp}{own:Bool}{m':SM}{g:Nat}(f:m=.nil\/m=.full):EJ P own h t t (.sl m k xs) (.sl m' g [])=some (.sl m k xs,h):=by
 rcases f with rfl|rfl<;>simp [EJ,hu,hs,TC,JR,bump]
end
theorem H6 (h:Hp)(m:SM)(k:Nat)(xs:List (List AV)):JR h (.sl m k xs)=some (k,xs):=rfl
theorem KH {h:Hp}{k:Nat}(hb:h[o]?=some (.live k xs))(f:off+len<=xs.length):JR h (.own o off len)=some (k,(xs.drop off).take len):=by simp [JR,hb,f]
theorem uY {P:Program}{t e:TypeId}{k:Nat}{h:Hp}{xs ys:List (List AV)}{s x:AV}(hu:P.underlying t=some (.slice e))(hs:da P e=some k)(g:JR h s=some (k,xs))(l:JR h x=some (k,ys))
  (f:(xs++ys).all (·.all AV.frozen)=true):OG P h t t s x=true:=by
 unfold OG;simp only[hu,hs,TC,l,g,or_true,if_true];exact f
def JQ (P:Program)(t:TypeId)(f off:Nat):Bool:=match P.underlying t with
 | some (.struct g)=>match g[f]? with
   | some fl=>fl.offset==off&&(match da P fl.type with
     | some n=>Nat.ble 1 n
     | none=>false)
   | none=>false
 | _=>false
theorem GM {P:Program}{t:TypeId}{f:Nat}(h:JQ P t f off=true):
  (∀b i j,BM P t (.ptr b i j) f=some (.ptr b i (j+off)))/\(∀k xs i j,BM P t (.fptr k xs i j) f=some (.fptr k xs i (j+off))):=by
 unfold JQ at h;split at h
 case h_2=>cases h
 rename_i g hu;split at h
 case h_2=>cases h
 rename_i fl q;simp only[jY,beq_iff_eq] at h;obtain⟨p,l⟩:=h;split at l
 case h_2=>cases l
 rename_i n hs;have A:1<=n:=jB l;obtain⟨m,rfl⟩:∃m,n=m+1:=⟨n-1,U⟩;exact RR hu q hs off p
def Cv (a b:AV):Prop:=∀(M:Nat->Option Obj) (cv:Value),cw M a cv->cw M b cv
def cz (a b:AV):Prop:=∀(g:Gh) (cv:Value),Rep g a cv->Rep g b cv
theorem Cv.refl (a:AV):Cv a a:=fun _ _ h=>h
theorem cz.refl (a:AV):cz a a:=fun _ _ h=>h
theorem Cv.nil (k f:Nat):Cv (.sl .nil k []) (.sl .nil f []):=by
 intro M cv h
 cases h with
 | nil=>exact .nil f
 | empty m l a cap g=>exact absurd rfl g
 | sl _ _ _ _ _ _ _ _ _ _ h=>exact absurd rfl h
theorem Cv.empty (m:SM)(k f:Nat):Cv (.sl m k []) (.sl m f []):=by
 intro M cv h
 cases h with
 | nil=>exact .nil f
 | empty m p a cap g l=>exact .empty m f a cap g l
 | sl _ _ _ _ _ _ _ _ _ _ h=>exact absurd rfl h
theorem Cv.any {m:SM}(J:m≠.nil)(k:Nat)(xs:List (List AV)):Cv (.sl m k xs) (.sl .any k xs):=by
 intro M cv h
 cases h with
 | nil=>exact absurd rfl J
 | empty m N a cap f q=>exact .empty .any k a cap BA BA
 | sl m k xs g l c e p cap cv f q A B C G I L=>exact .sl .any k xs g l c e p cap cv f BA A B C G I BA
def cf (r g:List AV):Prop:=g.length=r.length/\∀(j:Nat) (v f:AV),r[j]?=some v->g[j]?=some f->f.leaf=true/\Cv v f
theorem Cv.rows {k:Nat}(q:ys.length=xs.length)(h:∀(i:Nat) (r g:List AV),xs[i]?=some r->ys[i]?=some g->cf r g):Cv (.sl m k xs) (.sl m k ys):=by
 have row:∀(i:Nat) (g:List AV),ys[i]?=some g->∃r,xs[i]?=some r/\cf r g:=fun i g A=>by
  have I:i<xs.length:=by rw[<-q];exact AY A
  exact⟨xs[i],by simp [I],h i _ _ (by simp [I]) A⟩
 intro M cv A
 cases A with
 | nil=>have:ys=[]:=wP.1 q;subst this;exact .nil k
 | empty m k0 a cap C G=>have:ys=[]:=wP.1 q;subst this;exact .empty m k a cap C G
 | sl m k xs O R c e S cap cv C G T V X Y h7 Z =>
   rw[<-q];refine .sl m k ys O R c e S cap cv (fun e=>C (by subst e;exact wP.1 q.symm)) G T ?_ ?_ ?_ U (fun e=>by rw[q];exact Z e)
   .intro i g l
    obtain⟨r,J,B,L⟩:=row i g l;refine⟨by rw[B];exact(V i r J).1,fun j N f=>?_⟩;have p:j<r.length:=by rw[<-B];exact AY f
    exact(L j r[j] N (by simp [p]) f).1
   .intro i j I p;exact X i j U p
   .intro i j g N l f
    obtain⟨r,J,B,L⟩:=row i g l;have p:j<r.length:=by rw[<-B];exact AY f
    exact(L j r[j] N (by simp [p]) f).2 _ _ (Y i j r r[j] J (by simp [p]))
theorem Cv.map {α:Type}{m:SM}{k:Nat}{xs:List α}{f l:α->List AV}(h:∀x∈xs,cf (f x) (l x)):Cv (.sl m k (xs.map f)) (.sl m k (xs.map l)):=by
 refine Cv.rows BA fun i r B p q=>?_
 rw[zB,Option.map_eq_some_iff] at p q;obtain⟨x,A,rfl⟩:=p;obtain⟨C,g,rfl⟩:=q;rw[A] at g;cases g;exact h x (qC A)
theorem cf.refl {r:List AV}(h:∀v∈r,v.leaf=true):cf r r:=⟨rfl,fun j v l f g=>by rw[f] at g;cases g;exact⟨h v (qC f),Cv.refl v⟩⟩
theorem cf.nil:cf [] []:=⟨rfl,fun j v f h=>by simp at h⟩
theorem cf.cons {v l:AV}{r q:List AV}(B:l.leaf=true)(h:Cv v l)(p:cf r q):cf (v::r) (l::q):=by
 refine⟨by simp [p.1],fun j a A f g=>?_⟩
 cases j with
 | zero=>simp at f g;subst f;subst g;exact⟨B,h⟩
 | succ j=>simp at f g;exact p.2 j a A f g
theorem cz.sl {m m':SM}{k f:Nat}{xs ys:List (List AV)}(h:Cv (.sl m k xs) (.sl m' f ys)):cz (.sl m k xs) (.sl m' f ys):=fun _ _ g=>.fro (h _ _ g.sl_inv)
def cq (r f:List AV):Prop:=f.length=r.length/\∀(j:Nat) (v g:AV),r[j]?=some v->f[j]?=some g->cz v g
theorem cq.nil:cq [] []:=⟨rfl,fun j v f h=>by simp at h⟩
theorem cq.cons {v q:AV}{r p:List AV}(h:cz v q)(l:cq r p):cq (v::r) (q::p):=by
 refine⟨by simp [l.1],fun j a A f g=>?_⟩
 cases j with
 | zero=>simp at f g;subst f;subst g;exact h
 | succ j=>simp at f g;exact l.2 j a A f g
theorem cq.refl (r:List AV):cq r r:=⟨rfl,fun j v l g f=>by rw[g] at f;cases f;exact cz.refl v⟩
theorem cz.agg {r f:List AV}(h:cq r f):cz (.agg r) (.agg f):=by
 intro g cv A;obtain⟨C,rfl,p,q⟩:=A.agg_inv;refine .agg f C (by rw[p,h.1]) fun i B c a b=>?_
 have l:i<r.length:=by rw[<-h.1];exact AY a
 exact h.2 i r[i] B (by simp [l]) a g c (q i r[i] c (by simp [l]) b)
theorem cz.tup {r f:List AV}(h:cq r f):cz (.tup r) (.tup f):=by
 intro g cv A;obtain⟨C,rfl,p,q⟩:=A.tup_inv;refine .tup f C (by rw[p,h.1]) fun i B c a b=>?_
 have l:i<r.length:=by rw[<-h.1];exact AY a
 exact h.2 i r[i] B (by simp [l]) a g c (q i r[i] c (by simp [l]) b)
theorem ACalls.args {E:Env}{f:FuncId}{args args':List AV}{h:Hp}{R:AV->Hp->Prop}(A:ACalls E f args' h R)(p:cq args args'):ACalls E f args h R:=by
 refine⟨A.1,fun g w l S C=>A.2 g w l S ⟨by rw[C.1,p.1],fun i I cv q G=>?_⟩⟩;have B:i<args.length:=by rw[<-p.1];exact AY q
 exact p.2 i args[i] I (by simp [B]) q g cv (C.2 i args[i] cv (by simp [B]) G)
theorem a_.args {E:Env}{f:FuncId}{args args':List AV}{h:Hp}{r:AV}(l:a_ E f args' h r)(g:cq args args'):a_ E f args h r:=ACalls.args l g
theorem a_.res {E:Env}{f:FuncId}{args:List AV}{h:Hp}{r g:AV}(q:a_ E f args h r)(A:cz r g):a_ E f args h g :=
 ACalls.conv q fun v B ⟨l,p⟩=>by subst l;exact⟨g,⟨rfl,p⟩,A⟩
theorem IR (l:List Nat)(n:Nat):(hint l []).fz n=[]:=rfl
theorem NR (l:List Nat)(a:Nat)(s:List Nat)(n:Nat):(hint l [(a,s)]).fz n=if(a==n)=true then s else []:=by
 unfold hint;simp only[List.find?];cases a==n<;>rfl
theorem gA {H:Hp}{b k:Nat}(hb:H[b]?=some (.live k xs))(l:off+len<=xs.length)(g:LH ((xs.drop off).take len)=true):
  ∀F:Fr,F i=.own b off len->QO (F,H) i=(upd F i (.sl .any k ((xs.drop off).take len)),H.set b .dead):=by
 intro F f;unfold QO;simp only[f,hb];rw[if_pos ⟨l,g⟩]
theorem fZ {H:Hp}{k:Nat}:∀F:Fr,F i=.sl m k xs->QO (F,H) i=(F,H):=by
 intro F f;unfold QO;simp only[f]
def nilA (h:Hp)(K:AV->Hp->Prop)(v:AV):Prop:=match v with
 | .ptr b i j=>K (.ptr b i j) h
 | .fptr k xs i j=>K (.fptr k xs i j) h
 | _=>False
theorem X9 {E:Env}{F:Fr}{h:Hp}{c:Fr->AV->Hp->Prop}{own:Bool}(x:Operand):X1 E own (.nilCheck x) (F,h) c=nilA h (c F) (ev E F x):=by
 simp only[X1,OT,ep,nilA];generalize ev E F x=v;cases v<;>rfl
theorem X7 {E:Env}{F:Fr}{h:Hp}{c:Fr->AV->Hp->Prop}{own:Bool}(x:Operand):Y1 E own (.nilCheck x) (F,h) c=X1 E own (.nilCheck x) (F,h) c:=rfl
theorem fQ (h:Hp)(K:AV->Hp->Prop)(b i j:Nat):nilA h K (.ptr b i j)=K (.ptr b i j) h:=rfl
theorem a_.of_reads {E:Env}{f:FuncId}{args:List AV}{h:Hp}{r:AV}(q:eX E.P f)
  (B:∀(g:Gh) (w:World) (l:Array Value),ck E g h w->cS g args l->∃cv,Rep g r cv/\Calls E.P f l w fun e w'=>e=.returned cv/\∃n,w'=w.drewN n):a_ E f args h r:=by
 refine⟨q,fun g w l S A=>?_⟩;obtain⟨cv,C,p⟩:=B g w l S.ofNox A;refine p.mono ?_;rintro e w' ⟨rfl,n,rfl⟩;exact .inl ⟨r,cv,g,h,rfl,⟨rfl,rfl⟩,Gh.le.refl g,S.world rfl rfl rfl fun k _=>rfl,C⟩
inductive PT where
 | done
 | ones (pre:List Nat) (t:PT)
 | alt (i:Nat) (t r:PT)
 | non
def PT.heads:PT->List Nat
 | .alt i _ r=>i::r.heads
 | _=>[]
def gV (hs L:List Nat):Nat->List Oper->Bool
 | _,[]=>true
 | k,z::l=>(L.contains k||hs.contains k||z.after.toList.any (fun e=>Region.binds .any e && !L.contains e.on))&&gV hs L (k+1) l
theorem gU {hs L:List Nat}:∀ {l:List Oper} {k:Nat},gV hs L k l=true->∀(n:Nat) (z:Oper),l[n]?=some z->L.contains (k+n)=true\/k+n∈hs\/∃e∈z.after,Region.binds .any e=true/\L.contains e.on=false
 | [],_,_,n,z,h=>by simp at h
 | y::l,k,g,n,z,hz=>by
   unfold gV at g;rw[jY] at g
   cases n with
   | zero =>
     simp at hz;subst hz;have f:=g.1;simp only[qO,jY,List.any_eq_true,Bool.not_eq_true'] at f;rcases f with (f|f)|⟨e,f,h2⟩
     .exact .inl f
     .simp_all
     .grind
   | succ n =>
     have:=gU g.2 n z (BQ hz);rw[show k+1+n=k+(n+1) by omega] at this;exact this
theorem Tz {ops:Array Oper}{hs L:List Nat}{f:Array Bool}{k:Nat}(A:LS ops L f)(J:gV hs L 0 ops.toList=true)(hk:k∈Region.ready .any ops f):k∈hs:=by
 obtain⟨p,z,q,B⟩:=mem_ready.1 hk;have l:k<ops.size:=(Array.getElem?_eq_some_iff.1 q).1;rw[A.getD l] at p;rcases gU J k z (BQ q) with g|g|⟨e,C,G,I⟩
 .rw[jG,p] at g;cases g
 .simpa using g
 .have:=B e C G
  rw[A.getF,I] at this;cases this
def Ab (ops:Array Oper)(i:Nat)(L:List Nat):Bool:=match ops.toList[i]? with
 | none=>false
 | some x => !L.contains i&&TZ x L
theorem R7 {ops:Array Oper}{L:List Nat}{f:Array Bool}(l:LS ops L f)(h:Ab ops i L=true):i∈Region.ready .any ops f:=by
 unfold Ab at h
 cases g:ops.toList[i]? with
 | none=>rw[g] at h;cases h
 | some x =>
   rw[g] at h;simp only[jY,Bool.not_eq_true'] at h;exact Z4 l (BQ g) h.1 h.2
def lc (d:Option Tmp)(K:Fr->Hp->Prop):Fr->AV->Hp->Prop:=fun F v h=>K (GV F d v) h
theorem x7 (K:Fr->Hp->Prop)(F:Fr)(v:AV)(h:Hp):lc none K F v h=K F h:=rfl
theorem x6 (d:Tmp)(K:Fr->Hp->Prop)(F:Fr)(v:AV)(h:Hp):lc (some d) K F v h=K (upd F d v) h:=rfl
def yf (md:Nat->Bool)(o:Oper):Bool:=match md (o.dst.getD 0+1000000) with
 | true=>false
 | false=>match o.op with
   | .call { callee:=.value _,.. }=>false
   | .panic _=>false
   | _=>true
theorem Z0 {E:Env}{md:Nat->Bool}{ds:List (Option Tmp)}{o:Oper}{s:Fr×Hp}{P:Fr×Hp->Prop}(g:yf md o=true)(h:hY E md ds o s P):∃q,fe E md ds o s q/\P q:=by
 unfold yf at g;split at g
 .cases g
 rename_i C;rcases h with⟨p,f⟩|⟨p,f⟩
 .unfold OT at f
  split at f
  .rename_i l;rw[l] at g;cases g
  .rename_i l;rw[l] at g;cases g
  .rename_i G I
   split at f
   .rename_i v A B
    refine⟨_,.inl ⟨p,v,A,?_,rfl⟩,f⟩;unfold du;simp only[C];unfold gk;split
    .simp_all
    .exact B
   .exact f.elim
 .exact⟨_,.inr ⟨p,rfl⟩,f⟩
theorem Uk {E:Env}{own:Bool}{op:Op}{F F':Fr}{h:Hp}{K:AV->Hp->Prop}(l:∀x∈op.operands,ev E F x=ev E F' x)(g:OT E own op F h K):OT E own op F' h K:=by
 unfold OT at *;split at g
 .rename_i f as q
  have A:ev E F f=ev E F' f:=l f (by simp [Op.operands,Call.operands]);have B:as.toList.map (ev E F)=as.toList.map (ev E F'):=List.map_congr_left fun x p=>l x (by simp at p;simp [Op.operands,Call.operands,p])
  rw[A,B] at g;exact g
 .rename_i x
  rw[l x (by simp [Op.operands])] at g;exact g
 .rw[yY l] at g
  exact g
def rf (md:Nat->Bool)(x y:Oper):Bool:=k8 md x==0||(XD md [] x y&&yf md y)
theorem Xg {E:Env}{md:Nat->Bool}{ops:Array Oper}{x y:Oper}{s s1:Fr×Hp}{P:Fr×Hp->Prop}(I:x.apart ops y=true)(q:rf md x y=true)
  (Y:fe E md (ops.toList.map (·.dst)) x s s1) (X:hY E md (ops.toList.map (·.dst)) y s1 P):hY E md (ops.toList.map (·.dst)) y s fun t=>∃M,fe E md (ops.toList.map (·.dst)) x t M/\P M:=by
 unfold rf at q;rw[qO] at q;rcases q with p|p
 .have p:k8 md x=0:=BQ p
  obtain⟨Z,L,p3⟩:=Oper.apart_spec I;obtain⟨F,h⟩:=s
  have G:∀ {v:AV} {l:Hp} {K:AV->Hp->Prop},OT E (md (y.dst.getD 0)) y.op (GV F x.dst v) l K->OT E (md (y.dst.getD 0)) y.op F l K:=fun S =>
   Uk (fun z hz=>ux fun d A T=>fT (Z d A) z hz T) S
  have C:∀ {v u:AV} {l J:Hp},du E md x F l u J->du E md x (GV F y.dst v) l u J:=fun S =>
   eW (fun z hz=>(ux fun d A T=>fT (p3 d A) z hz T).symm) S
  have O:∀v,OJ (ops.toList.map (·.dst)) (GV F x.dst v) y.guard=OJ (ops.toList.map (·.dst)) F y.guard:=fun v=>eZ Z
  have N:∀v,OJ (ops.toList.map (·.dst)) (GV F y.dst v) x.guard=OJ (ops.toList.map (·.dst)) F x.guard:=fun v=>eZ p3
  rcases Y with⟨B,v,l,a2,rfl⟩|⟨B,rfl⟩
  .obtain⟨rfl,hz⟩:=uB p a2
   rcases X with⟨f,g⟩|⟨f,g⟩
   .simp only at f g
    rw[O] at f;refine .inl ⟨f,TQ (fun u R V=>?_) (G g)⟩;exact⟨_,.inl ⟨by rw[N];exact B,v,R,C (hz R),by rw[NC F v u L]⟩,V⟩
   .simp only at f g
    rw[O] at f;exact .inr ⟨f,_,.inl ⟨by rw[N];exact B,v,_,C (hz _),by rw[NC F v IK L]⟩,g⟩
  .rcases X with⟨f,g⟩|⟨f,g⟩
   .simp only at f g
    rw[O] at f;refine .inl ⟨f,TQ (fun u R V=>?_) (G g)⟩;exact⟨_,.inr ⟨by rw[N];exact B,by rw[NC F IK u L]⟩,V⟩
   .simp only at f g
    rw[O] at f;exact .inr ⟨f,_,.inr ⟨by rw[N];exact B,by rw[NC F IK IK L]⟩,g⟩
 .rw[jY] at p
  obtain⟨M,l,J⟩:=Z0 p.2 X;obtain⟨t,t1,t2⟩:=uD (sep:=[]) trivial I p.1 Y l;exact t1.next ⟨M,t2,J⟩
theorem Wb {E:Env}{md:Nat->Bool}{ops:Array Oper}{Q:Fr×Hp->Prop}{i:Nat}{B:Oper}(Z:ops[i]?=some B)(r:Nat->Bool)
  (a0:∀j p,ops[j]?=some p->r j=true->j≠i->∃e∈p.after,Region.binds .any e=true/\r e.on=true):∀(fuel:Nat) (f:Array Bool) (s R:Fr×Hp),
  (∀j,r j=true->f.getD j true=false) ->
  (∀j p,ops[j]?=some p->j≠i->f.getD j true=false->r j=false->B.apart ops p=true/\rf md B p=true) ->
  i∈Region.ready .any ops f->fe E md (ops.toList.map (·.dst)) B s R->lA E md ops Q fuel (f.setIfInBounds i true) R->lA E md ops Q (fuel+1) f s:=by
 intro fuel
 induction fuel with
 | zero =>
   intro f s R _ _ I O H;refine⟨fun h=>(by rw[h] at I;cases I),fun j N=>?_⟩;by_cases hji:j=i
   .subst hji;exact⟨B,Z,O.next H⟩
   .have:=ready_mono N hji
    rw[H.1] at this;cases this
 | succ fuel ih =>
   intro f s R a2 g I O H;refine⟨fun h=>(by rw[h] at I;cases I),fun j N=>?_⟩;by_cases hji:j=i
   .subst hji;exact⟨B,Z,O.next H⟩
   .obtain⟨p,C,V⟩:=H.2 j (ready_mono N hji)
    obtain⟨q,a3,A,Y⟩:=mem_ready.1 N;rw[C] at A;cases A;have J:r j=false:=by grind
    obtain⟨q1,q2⟩:=g j p C hji q J;have X:=Xg q1 q2 O V
    have L:∀k,r k=true->(f.setIfInBounds j true).getD k true=false:=fun k hk=>by
     by_cases hjk:j=k
     .subst hjk;rw[J] at hk;cases hk
     .simp_all
    have l:∀k M,ops[k]?=some M->k≠i->(f.setIfInBounds j true).getD k true=false->r k=false->B.apart ops M=true/\rf md B M=true:=fun k M hk S a1 T=>by
     refine g k M hk S ?_ T;by_cases hjk:j=k
     .subst hjk;exact q
     .simp_all
    refine⟨p,C,X.mono fun t ⟨s2,t2,G⟩=>ih (f.setIfInBounds j true) t s2 L l (ready_mono I (Ne.symm hji)) t2 ?_⟩;rw[Array.setIfInBounds_comm _ _ hji];exact G
def vq (md:Nat->Bool)(ops:Array Oper)(i:Nat)(x:Oper)(L:List Nat):Nat->List Oper->List Nat->Bool
 | _,[],_=>true
 | _,_::_,[]=>false
 | k,y::l,m::ms=>(match m.testBit i with
   | true => !L.contains k
   | false=>L.contains k||k==i||(rf md x y&&x.apart ops y))&&vq md ops i x L (k+1) l ms
theorem rK {md:Nat->Bool}{ops:Array Oper}{i:Nat}{x:Oper}{L:List Nat}:∀ {l:List Oper} {g:List Nat} {k:Nat},vq md ops i x L k l g=true->g.length=l.length->∀(j:Nat) (y:Oper),l[j]?=some y ->
  ((g.getD j 0).testBit i=true/\L.contains (k+j)=false)\/((g.getD j 0).testBit i=false/\(L.contains (k+j)=true\/k+j=i\/(x.apart ops y=true/\rf md x y=true)))
 | [],_,_,_,_,j,y,h=>by simp at h
 | _::_,[],_,_,q,_,_,_=>by simp at q
 | z::l,m::g,k,p,q,j,y,A=>by
   unfold vq at p;rw[jY] at p
   cases j with
   | zero =>
     simp at A;subst A;have f:=p.1;simp only[List.getD_cons_zero,Nat.add_zero]
     cases hb:m.testBit i with
     | true =>
       rw[hb] at f;exact .inl ⟨rfl,BQ f⟩
     | false =>
       rw[hb] at f;simp only[qO,jY,beq_iff_eq] at f;refine .inr ⟨rfl,?_⟩;rcases f with (f|f)|f
       .exact .inl f
       .exact .inr (.inl f)
       .exact .inr (.inr ⟨f.2,f.1⟩)
   | succ j =>
     have:=rK p.2 (BQ q) j y (BQ A);rw[show k+1+j=k+(j+1) by omega] at this;simpa using this
def CM (md:Nat->Bool)(ops:Array Oper)(i:Nat)(L:List Nat):Bool:=match ops.toList[i]? with
 | none=>false
 | some x => !L.contains i&&TZ x L&&vq md ops i x L 0 ops.toList (nB ops.toList [])
def ve (md:Nat->Bool)(ops:Array Oper):List Nat->List Nat->Bool
 | [],_=>true
 | i::r,L=>CM md ops i L&&ve md ops r (i::L)
theorem yZ {E:Env}{md:Nat->Bool}{ops:Array Oper}{Q:Fr×Hp->Prop}{K:Fr->Hp->Prop}{fuel:Nat}(B:aD ops.toList 0=true):∀(pre L:List Nat) (f:Array Bool) (F:Fr) (h:Hp),ve md ops pre L=true ->
  LS ops L f->D E md (ops.toList.map (·.dst)) (O6 ops.toList pre) F h K ->
  (∀(F':Fr) (M:Hp) (p:Array Bool),LS ops (pre.reverse++L) p->K F' M->lA E md ops Q fuel p (F',M))->lA E md ops Q (fuel+pre.length) f (F,h)
 | [],L,f,F,h,_,C,I,V=>V F h f C I
 | i::r,L,f,F,h,X,C,I,V=>by
   unfold ve at X;rw[jY] at X;obtain⟨q,Y⟩:=X;unfold CM at q
   cases R:ops.toList[i]? with
   | none=>rw[R] at q;cases q
   | some x =>
     rw[R] at q;simp only[jY,Bool.not_eq_true'] at q;obtain⟨⟨h0,S⟩,hf⟩:=q;have T:ops[i]?=some x:=BQ R;have hlt:i<ops.size:=(Array.getElem?_eq_some_iff.1 T).1;unfold O6 at I;rw[R] at I;obtain⟨Z,h1,h2⟩:=tZ I;have A:=rK hf (by rw[YG];simp)
     refine Wb T (fun j=>decide (j=i)||QS ops i j) (fun j oj O g G=>?_) (fuel+r.length) f (F,h) Z (fun j g=>?_) (fun j oj O G J g=>?_) (Z4 C T h0 S) h1
      (yZ B r (i::L) _ Z.1 Z.2 Y (C.next hlt) h2 (fun F' M l' a c=>V F' M l' (BQ a) c))
     .simp only[qO,decide_eq_true_eq] at g
      rcases g with g|g
      .exact absurd g G
      .obtain⟨e,S,hb,_,h7⟩:=V9 B O g
       exact⟨e,S,hb,BQ h7⟩
     .simp only[qO,decide_eq_true_eq] at g
      rcases g with rfl|g
      .rw[C.getD hlt,h0]
      .have N:=bB g
       have l:=A j ops[j] (by simp [N]);rw[jG] at l;rw[C.getD N];rcases l with l|l
       .exact l.2
       .unfold QS at g
        rw[l.1] at g;cases g
     .have N:j<ops.size:=(Array.getElem?_eq_some_iff.1 O).1
      rw[C.getD N] at J;simp only[Bool.or_eq_false_iff,decide_eq_false_iff_not] at g;have l:=A j oj (BQ O);rw[jG] at l;rcases l with l|⟨_,l|l|l⟩
      .unfold QS at g
       rw[l.1] at g;cases g.2
      .rw[J] at l;cases l
      .exact absurd l G
      .exact l
def vt (ops:Array Oper)(i:Nat):Bool:=match ops.toList[i]? with
 | some o=>o.guard.isNone
 | none=>false
mutual
def uL (md:Nat->Bool)(ops:Array Oper):PT->Nat->List Nat->Bool
 | .done,n,L=>Nat.beq n 0&&allIn L 0 ops.toList
 | .ones pre t,n,L=>Nat.ble pre.length n&&ve md ops pre L&&uL md ops t (n-pre.length) (pre.reverse++L)
 | .alt i t r,n,L=>Nat.ble 1 n&&Ab ops i L&&gV (i::r.heads) L 0 ops.toList&&vt ops i&&uL md ops t (n-1) (i::L)&&qk md ops r (n-1) L
 | .non,_,_=>false
def qk (md:Nat->Bool)(ops:Array Oper):PT->Nat->List Nat->Bool
 | .alt i t r,n,L=>vt ops i&&uL md ops t n (i::L)&&qk md ops r n L
 | .non,_,_=>true
 | _,_,_=>false
end
def DN (E:Env)(md:Nat->Bool)(ops:List Oper)(K:Fr->Hp->Prop):PT->Fr->Hp->Prop
 | .done,F,h=>K F h
 | .ones pre t,F,h=>DD E md ops (O6 ops pre) F h (fun F h=>DN E md ops K t F h)
 | .alt i t r,F,h=>(match ops[i]? with|some o=>X1 E (md (o.dst.getD 0)) o.op (F,h) (lc o.dst fun F h=>DN E md ops K t F h)|none=>False)/\DN E md ops K r F h
 | .non,_,_=>True
section
variable {E:Env} {md:Nat->Bool} {ops:Array Oper} {K:Fr->Hp->Prop}
def CI (E:Env)(md:Nat->Bool)(ops:Array Oper)(K:Fr->Hp->Prop)(t:PT):Prop :=
 (∀n L f F h,uL md ops t n L=true->LS ops L f->DN E md ops.toList K t F h->lA E md ops (fun s=>K s.1 s.2) n f (F,h)) /\
 (∀n L f F h,qk md ops t n L=true->LS ops L f->DN E md ops.toList K t F h->∀k∈t.heads,k∈Region.ready .any ops f->∃o,ops[k]?=some o/\hY E md (ops.toList.map (·.dst)) o (F,h) fun g=>lA E md ops (fun s=>K s.1 s.2) n (f.setIfInBounds k true) g)
theorem vM {i:Nat}{t:PT}{n:Nat}{L:List Nat}{f:Array Bool}{F:Fr}{h:Hp}(G:CI E md ops K t)(l:vt ops i=true)(B:uL md ops t n (i::L)=true)(C:LS ops L f)
  (q:match ops.toList[i]? with|some o=>X1 E (md (o.dst.getD 0)) o.op (F,h) (lc o.dst fun F h=>DN E md ops.toList K t F h)|none=>False) (hk:i∈Region.ready .any ops f):∃o,ops[i]?=some o/\hY E md (ops.toList.map (·.dst)) o (F,h) fun J=>lA E md ops (fun s=>K s.1 s.2) n (f.setIfInBounds i true) J:=by
 obtain⟨_,z,g,_⟩:=mem_ready.1 hk;have hlt:i<ops.size:=(Array.getElem?_eq_some_iff.1 g).1;have A:ops.toList[i]?=some z:=BQ g;rw[A] at q;unfold vt at l;rw[A] at l;have p:z.guard=none:=BQ l;refine⟨z,g,.inl ⟨by rw[p];rfl,TQ (fun v M I=>?_) q⟩⟩;exact G.1 n (i::L) _ _ _ B (C.next hlt) I
theorem Xz (q:aD ops.toList 0=true)(t:PT):CI E md ops K t:=by
 induction t with
 | done =>
   refine⟨fun n L f F h g l p=>?_,fun n L f F h g=>by simp [qk] at g⟩;simp only[uL,jY] at g;obtain rfl:n=0:=Nat.eq_of_beq_eq_true g.1;exact⟨ready_nil l g.2,p⟩
 | ones pre t ih =>
   refine⟨fun n L f F h g l p=>?_,fun n L f F h g=>by simp [qk] at g⟩;simp only[uL,jY] at g;obtain⟨⟨J,M⟩,N⟩:=g;have hn:n-pre.length+pre.length=n:=Nat.sub_add_cancel (jB J);have:=yZ (E:=E) (Q:=fun s=>K s.1 s.2) (fuel:=n-pre.length) q pre L f F h M l p (fun T V l' O hK=>ih.1 _ _ l' T V N O hK);rw[hn] at this;exact this
 | alt i t r C B =>
   refine⟨fun n L f F h g l p=>?_,fun n L f F h g l p k hk S=>?_⟩
   .simp only[uL,jY] at g
    obtain⟨⟨⟨⟨⟨J,X⟩,M⟩,Z⟩,N⟩,Y⟩:=g;obtain⟨n,rfl⟩:∃m,n=m+1:=⟨n-1,by have:=jB J;omega⟩;obtain⟨G,I⟩:=p;refine⟨fun A=>?_,fun k hk=>?_⟩
    .have:=R7 l X
     rw[A] at this;cases this
    .rcases zM.1 (Tz l M hk) with rfl|R
     .exact vM C Z N l G hk
     .exact B.2 n L f F h Y l I k R hk
   .simp only[qk,jY] at g
    obtain⟨G,I⟩:=p;rcases zM.1 hk with rfl|R
    .exact vM C g.1.1 g.1.2 l G S
    .exact B.2 n L f F h g.2 l I k R S
 | non =>
   refine⟨fun n L f F h g=>by simp [uL] at g,fun n L f F h g l p k hk=>by cases hk⟩
end
theorem yV {E:Env}{H:Hint}{n:Nat}{l:List Oper}{F:Fr}{h:Hp}{Q:e8->Fr->Hp->Prop}(t:PT)(g:(aD l.toArray.toList 0&&uL H.md l.toArray t l.toArray.size [])=true)
  (p:DN E H.md l (Q .normal) t F h):dh E H (.region n l.toArray true) F h Q:=by
 simp only[jY] at g;have f:LS l.toArray [] (Array.replicate l.toArray.size false):=⟨BA,fun k hk=>by simp at hk;simp [hk],fun k hk=>by cases hk⟩;exact(Xz (E:=E) (K:=Q .normal) g.1 t).1 _ _ _ F h g.2 f p
def Gh.still (g:Gh)(w:World):Gh := { g with M:=fun k=>w.heap[k]? }
theorem ck.still {E:Env}{g:Gh}{h:Hp}{w:World}(S:ck E g h w):ck E (g.still w) (h.map fun _=>.dead) w where
 os:=S.os
 tape:=S.tape
 output:=S.output
 fro _ _ hk:=hk
 lo g0 hk:=⟨fun k o q=>S.fro k o ((S.lo g0 hk).1 k o q),(S.lo g0 hk).2⟩
 live b k xs hb:=by rw[zB] at hb;cases hx:h[b]? <;> rw[hx] at hb<;>cases hb
 obj b x hb hi:=by
  rw[zB] at hb;cases hx:h[b]? <;> rw[hx] at hb<;>cases hb;cases hi
 inj b b' x x' l l' hb hn:=by
  rw[zB] at hb;cases hx:h[b]? <;> rw[hx] at hb<;>cases hb;exact absurd rfl hn
 fresh b hb:=S.fresh b (BQ hb)
 glob n:=(S.glob n).monoC fun k c e fz hk=>S.fro k _ hk
def rr:AV->Bool
 | .int _ _=>true
 | .bool _=>true
 | .str _=>true
 | _=>false
def vu:AV->Bool
 | .tup f=>f.all rr
 | v=>rr v
theorem kE {g g':Gh}(h:rr v=true)(r:Rep g v cv):Rep g' v cv:=by
 cases v<;>simp [rr] at h
 all_goals (cases r with|fro r=>cases r;constructor;constructor)
theorem Zp {g g':Gh}(h:vu v=true)(r:Rep g v cv):Rep g' v cv:=by
 cases v with
 | tup A =>
   simp only[vu,zJ] at h
   cases r with
   | fro r =>
     cases r with
     | tup _ l hs q=>exact .tup _ _ hs fun i v cv f p=>kE (g:=g) (h v (qC f)) (.fro (q i v cv f p))
   | tup _ l hs q=>exact .tup _ _ hs fun i v cv f p=>kE (h v (qC f)) (q i v cv f p)
 | _=>first|exact kE h r|(simp [vu,rr] at h)
inductive lx (h:Hp):AV->AV->Prop
 | same (v:AV):lx h v v
 | own (b k len:Nat) (xs:List (List AV)):h[b]?=some (.live k xs)->len=xs.length->(∀row∈xs,∀v∈row,v.frozen=true/\v.leaf=true)->lx h (.own b 0 len) (.sl .any k xs)
theorem lx.rep {E:Env}{g:Gh}{h:Hp}{w:World}(S:ck E g h w){I:AV}(t:lx h v I)(r:Rep g v cv):Rep (g.still w) I cv:=by
 have hle:g.leM (g.still w):=⟨fun k o hk=>S.fro k o hk,fun _ _ h=>h⟩
 cases t with
 | same=>exact Rep.monoC (fun k c e J hk=>hle.1 _ _ hk) hle.2 r
 | own b k len xs hb q p =>
   obtain⟨l,c,e,L,N,O,G,R,T,V,X⟩:=S.live b k xs hb;have B:((xs.drop 0).take len)=xs:=by subst q;simp
   have:=dY (φ:=id) (M':=(g.still w).M) S hb L G G (U:0+len<=xs.length) r (fun row f v C=>by
    rw[B] at f
    exact⟨(p row f v C).2,fun cv A=>(AV.frozen_rep (p row f v C).1 A).monoC fun k c e J hk=>S.fro k _ hk⟩)
   rw[B] at this;simpa using Rep.fro this
theorem a_.thaw {E:Env}{f:FuncId}{args args':List AV}{h:Hp}{r:AV}(I:a_ E f args' (h.map fun _=>.dead) r)(X:args'.length=args.length)(R:∀(i:Nat) (J:AV),args'[i]?=some J->∃v,args[i]?=some v/\lx h v J)
  (Y:vu r=true):a_ E f args h r :=
 ⟨I.1,fun g w C S B=>(I.2 (g.still w) w C S.still ⟨B.1.trans X.symm,fun i x v L N=>by
   obtain⟨y,O,t⟩:=R i x L
   exact t.rep S (B.2 i y v O N)⟩).mono fun e w' q=>by
  rcases q with⟨v,cv,g',h',T,⟨rfl,rfl⟩,hle,G,Z⟩|⟨_,_,_,_,hx,_⟩
  .have A:∀k o,w.heap[k]?=some o->w'.heap[k]?=some o:=fun k o hk=>G.fro k o (hle.M k o hk)
   refine .inl ⟨v,cv,g,h,T,⟨rfl,rfl⟩,Gh.le.refl g,?_,Zp Y Z⟩
   exact⟨G.os.trans hle.os,G.tape.trans hle.tape,G.output.trans hle.output,fun k o hk=>A k o (S.fro k o hk),S.lo,
    fun b k xs hb=>let ⟨l,c,e,p1,p2,p3,p4,p⟩:=S.live b k xs hb;⟨l,c,e,p1,p2,p3,A _ _ p4,p⟩,
    fun b x hb V=>let ⟨l,o,p1,p2,p3,p4,p5,p6⟩:=S.obj b x hb V;⟨l,o,p1,p2,p3,p4,A _ _ p5,p6⟩,S.inj,S.fresh,S.glob⟩
  .exact hx.elim⟩
theorem vQ:type_of% (cj @AA (cj @AC (cj @AX (cj @BD (cj @BF (cj @BG (cj @BH (cj @BI (cj @BN (cj @BO (cj @BP (cj @BU (cj @BV (cj @BX (cj @BZ (cj @CB (cj @CG (cj @CJ (cj @CQ (cj @CS (cj @CV (cj @CX (cj @CY (cj @D5 (cj @D6 (cj @D8 (cj @D9 (cj @DF (cj @DJ (cj @DK (cj @DT (cj @DW (cj @EC (cj @ED (cj @EE (cj @EI (cj @EO (cj @EP (cj @ER (cj @ES (cj @ET (cj @EU (cj @EX (cj @EZ (cj @F9 (cj @FD (cj @FI (cj @FM (cj @FO (cj @FQ (cj @FU (cj @G5 (cj @G6 (cj @GH (cj @GU (cj @GZ (cj @I4 (cj @IB (cj @IC (cj @IJ (cj @IR (cj @J4 (cj @J6 (cj @JO (cj @JP (cj @JU (cj @KF (cj @KX (cj @LC (cj @LV (cj @MJ (cj @MO (cj @Bool.not_false (cj @List.append_nil.{0} (cj @List.map_cons.{0,0} (cj @List.map_nil.{0,0} (cj @Nat.add_zero (cj @Nat.zero_add (@Option.getD_some.{0}))))))))))))))))))))))))))))))))))))))))))))))))))))))))))))))))))))))))))))))):=And.intro @AA (cj @AC (cj @AX (cj @BD (cj @BF (cj @BG (cj @BH (cj @BI (cj @BN (cj @BO (cj @BP (cj @BU (cj @BV (cj @BX (cj @BZ (cj @CB (cj @CG (cj @CJ (cj @CQ (cj @CS (cj @CV (cj @CX (cj @CY (cj @D5 (cj @D6 (cj @D8 (cj @D9 (cj @DF (cj @DJ (cj @DK (cj @DT (cj @DW (cj @EC (cj @ED (cj @EE (cj @EI (cj @EO (cj @EP (cj @ER (cj @ES (cj @ET (cj @EU (cj @EX (cj @EZ (cj @F9 (cj @FD (cj @FI (cj @FM (cj @FO (cj @FQ (cj @FU (cj @G5 (cj @G6 (cj @GH (cj @GU (cj @GZ (cj @I4 (cj @IB (cj @IC (cj @IJ (cj @IR (cj @J4 (cj @J6 (cj @JO (cj @JP (cj @JU (cj @KF (cj @KX (cj @LC (cj @LV (cj @MJ (cj @MO (cj @Bool.not_false (cj @List.append_nil.{0} (cj @List.map_cons.{0,0} (cj @List.map_nil.{0,0} (cj @Nat.add_zero (cj @Nat.zero_add (@Option.getD_some.{0}))))))))))))))))))))))))))))))))))))))))))))))))))))))))))))))))))))))))))))))
end Sm
end Go.Proofs.YtiihpnicbekebaaGreatDoor
