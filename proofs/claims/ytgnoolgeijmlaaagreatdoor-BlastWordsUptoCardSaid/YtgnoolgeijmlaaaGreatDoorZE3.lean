/- Part 3 of the proof (Sm11, So, Sn, Sm12, Sm13, Sv); no condition. -/
import Derived.RangeFuncLeaves
import Derived.Test.YtgnoolgeijmlaaaGreatDoorZE2
set_option linter.unusedVariables false
namespace Go.Proofs.YtgnoolgeijmlaaaGreatDoor.Sm
open Bool renaming false_eq_true→jQ,false_or→qG,or_eq_true→qO,and_eq_true→zB
open List renaming getElem?_append_left→zS,getElem?_eq_none→zO,mem_cons→qY,all_eq_true→zQ,getElem?_set_ne→jS,mem_append→qE,mem_of_getElem?→zV,getD_eq_getElem?_getD→zM,getElem?_take→qN,getElem?_eq_getElem→jX,getElem?_map→zL
open Nat renaming lt_or_ge→jY,zero_add→jG

def hkB (own:Bool):Builtin->Nat
 | .len=>0
 | .max=>0
 | .min=>0
 | .append=>if own then 2 else 1
 | _=>2
def hk (own:Bool):Op->Nat
 | .move _=>0
 | .assign _=>0
 | .pick _ _ _=>0
 | .build _ _=>0
 | .binOp _ _ _ _ _=>0
 | .unOp _ _ _=>0
 | .convert _ _ _=>0
 | .makeFunc _ _ _=>0
 | .fieldAddr _ _ _=>0
 | .field _ _ _=>0
 | .index _ _ _=>0
 | .extract _ _=>0
 | .nilCheck _=>0
 | .load _ _=>1
 | .slice _ _ _ _ _=>if own then 2 else 1
 | .indexAddr _ _ _=>1
 | .lookup _ _ _ _=>1
 | .buildSlice _ _ _=>if own then 3 else 0
 | .makeSlice _ _ _=>if own then 3 else 0
 | .call c=>match c.callee with
   | .builtin b=>hkB own b
   | _=>if own then 1 else 4
 | .alloc _=>3
 | .makeMap _ _=>3
 | _=>2
def DEx (E:Env)(own:Bool)(op:Op)(F:Fr)(h:Hp)(v:AV)(h':Hp):Prop :=
 match op with
 | .call { callee:=.value f,args:=as,.. }=>match ev E F f with
   | .fn (.func fid) first caps=>h'=h∧PCall E fid (first++(as.toList.map (ev E F)++caps)) h v∧(own=true->∀x,PCall E fid (first++(as.toList.map (ev E F)++caps)) (h++x) v)
   | _=>False
 | op=>aop E.P own h (ev E F) op=some (v,h')
theorem DEx.exec {E:Env}{own:Bool}{op:Op}{F:Fr}{h h':Hp}{v:AV}{K:AV->Hp->Prop}(hd:DEx E own op F h v h')(hk:K v h'):MQ E own op F h K:=by
 unfold DEx at hd;unfold MQ;split at hd
 .split at hd
  .rename_i hf
   simp only[hf];obtain⟨rfl,hc,_⟩:=hd;exact hc.use hk
  .exact hd.elim
 .split
  .simp_all
  .simp [aop] at hd
  .rw[hd]; exact hk
theorem AAV {ρ ρ':Operand->AV}:∀ {l:List (Nat×Operand)},(∀x∈l.map (·.2),ρ x=ρ' x)->evp ρ l=evp ρ' l
 | [],_=>rfl
 | (i,x)::r,h=>by
   simp only[evp];rw[h x (by simp),AAV (fun y hy=>h y (by simp at hy|-; exact .inr hy))]
theorem AGB {P:Program}{own:Bool}{h:Hp}{ρ ρ':Operand->AV}{op:Op}(he:∀x∈op.operands,ρ x=ρ' x):aop P own h ρ op=aop P own h ρ' op:=by
 cases op<;>simp only[Op.operands] at he<;>simp only[aop]
 case build t ps=>rw[AAV (ρ:=ρ) (ρ':=ρ') fun x hx=>he x (by simpa using hx)]
 case buildSlice t n ps=>rw[AAV (ρ:=ρ) (ρ':=ρ') fun x hx=>he x (by simpa using hx)]
 case makeFunc fn first captured =>
  rw[List.map_congr_left (l:=first.toList) fun x hx=>he x (by simp at hx; simp [hx]),List.map_congr_left (l:=captured.toList) fun x hx=>he x (by simp at hx; simp [hx])]
 case call c =>
  have h1:c.args.toList.map ρ=c.args.toList.map ρ':=List.map_congr_left fun x hx=>he x (by simp at hx; simp [Call.operands,hx])
  rw[h1]
 case slice t x lo hi mx=>cases lo<;>cases hi<;>cases mx<;>simp_all
 all_goals (first|rfl|(simp_all; done))
theorem AQI {E:Env}{own:Bool}{op:Op}{F F':Fr}{h h':Hp}{v:AV}(he:∀x∈op.operands,ev E F x=ev E F' x)(hd:DEx E own op F h v h'):DEx E own op F' h v h':=by
 unfold DEx at *;split at hd
 .rename_i f as ats
  have h1:ev E F f=ev E F' f:=he f (by simp [Op.operands,Call.operands]);have h2:as.toList.map (ev E F)=as.toList.map (ev E F'):=List.map_congr_left fun x hx=>he x (by simp at hx; simp [Op.operands,Call.operands,hx])
  rw[h1,h2] at hd;exact hd
 .rw[AGB he] at hd
  exact hd
theorem MI {x:Option AV}{h h2 h':Hp}{v:AV}(e:ofO h x=some (v,h')):h'=h∧ofO h2 x=some (v,h2):=by
 obtain⟨h1,h3⟩:=IK e;rw[h1]; exact⟨h3,rfl⟩
theorem AXE {P:Program}{own:Bool}{h h':Hp}{ρ:Operand->AV}{op:Op}{v:AV}(h0:hk own op=0)(ha:aop P own h ρ op=some (v,h')):h'=h∧∀h2,aop P own h2 ρ op=some (v,h2):=by
 cases op<;>simp only[hk] at h0<;>first|(cases h0; done)|skip
 case move=>simp only[aop] at *; cases ha; exact⟨rfl,fun _=>rfl⟩
 case assign=>simp only[aop] at *; cases ha; exact⟨rfl,fun _=>rfl⟩
 case pick c a b =>
  simp only[aop] at *;split at ha
  .rename_i e; cases ha; exact⟨rfl,fun _=>rfl⟩
  .rename_i e; cases ha; exact⟨rfl,fun _=>rfl⟩
  .cases ha
 case nilCheck x =>
  simp only[aop] at *;split at ha
  .rename_i e; cases ha; exact⟨rfl,fun _=>rfl⟩
  .rename_i e; cases ha; exact⟨rfl,fun _=>rfl⟩
  .cases ha
 case makeFunc=>simp only[aop] at *; cases ha; exact⟨rfl,fun _=>rfl⟩
 case extract t i =>
  simp only[aop] at *;split at ha
  .exact⟨(MI (h2:=h) ha).1,fun h2=>(MI ha).2⟩
  .cases ha
 case buildSlice t n ps =>
  split at h0
  .cases h0
  .rename_i ho
   have ho':own=false:=by simpa using ho
   subst ho';simp only[aop,GG] at *;split at ha
   case h_2=>cases ha
   split at ha
   case h_2=>cases ha
   split at ha
   case h_2=>cases ha
   split at ha
   case h_2=>cases ha
   split at ha
   case isFalse=>cases ha
   try simp only[jQ,if_false] at ha
   split at ha
   case isFalse=>cases ha
   cases ha;refine⟨rfl,fun h2=>?_⟩
   simp_all
   assumption
 case makeSlice t l c =>
  split at h0
  .cases h0
  .rename_i ho
   have ho':own=false:=by simpa using ho
   subst ho';simp only[aop,IX] at *;split at ha
   case h_2=>cases ha
   split at ha
   case h_2=>cases ha
   split at ha
   case h_2=>cases ha
   split at ha
   case h_2=>cases ha
   split at ha
   case isFalse=>cases ha
   try simp only[jQ,if_false] at ha
   split at ha
   case isFalse=>cases ha
   cases ha;refine⟨rfl,fun h2=>?_⟩
   simp_all
 case call c =>
  split at h0
  case h_2=>split at h0<;>cases h0
  rename_i b hb;simp only[aop,hb] at *
  cases b<;>simp only[hkB] at h0<;>first|(cases h0; done)|skip
  .split at h0<;>cases h0
  .simp only[QH] at *
   split at ha
   .exact⟨(MI (h2:=h) ha).1,fun h2=>(MI ha).2⟩
   .cases ha
  .simp only[QH] at *
   split at ha
   .exact⟨(MI (h2:=h) ha).1,fun h2=>(MI ha).2⟩
   .cases ha
  .simp only[QH] at *
   split at ha
   .exact⟨(MI (h2:=h) ha).1,fun h2=>(MI ha).2⟩
   .cases ha
 case slice=>split at h0<;>cases h0
 all_goals
  simp only[aop] at *;exact⟨(MI (h2:=h) ha).1,fun h2=>(MI ha).2⟩
theorem AXD {P:Program}{own:Bool}{h h':Hp}{ρ:Operand->AV}{op:Op}{v:AV}(h0:hk own op=1)(ha:aop P own h ρ op=some (v,h')):h'=h:=by
 cases op<;>simp only[hk] at h0<;>first|(cases h0; done)|skip
 case load=>simp only[aop] at ha; exact(IK ha).2
 case slice =>
  split at h0
  .cases h0
  .rename_i ho
   have ho':own=false:=by simpa using ho
   subst ho';simp only[aop] at ha; exact(IK ha).2
 case indexAddr=>simp only[aop] at ha; exact(IK ha).2
 case lookup=>simp only[aop] at ha; exact(IK ha).2
 case buildSlice=>split at h0<;>cases h0
 case makeSlice=>split at h0<;>cases h0
 case call c =>
  split at h0
  .rename_i b hb
   simp only[aop,hb] at ha
   cases b<;>simp only[hkB] at h0<;>first|(cases h0; done)|skip
   split at h0
   .cases h0
   .rename_i ho
    have ho':own=false:=by simpa using ho
    subst ho';simp only[QH] at ha;split at ha
    case h_2=>cases ha
    split at ha
    case isFalse=>cases ha
    unfold IP at ha
    have bumpF:∀(e:TypeId) (m:SM) (k:Nat) (xs ys:List (List AV)) (kill:Option Nat) (s:AV),bump P false h e m k xs ys kill s=some (v,h')->h'=h:=by
     intro e m k xs ys kill s hb;unfold bump at hb;split at hb
     .cases hb; rfl
     .split at hb
      .split at hb
       .split at hb
        .simp at hb
        .simp at hb; exact hb.2.symm
       .cases hb
      .cases hb
    split at ha
    case h_2=>cases ha
    split at ha
    case h_2=>cases ha
    split at ha
    case h_2=>cases ha
    split at ha
    .exact bumpF _ _ _ _ _ _ _ ha
    .split at ha
     .exact bumpF _ _ _ _ _ _ _ ha
     .cases ha
    .split at ha
     .split at ha
      .exact bumpF _ _ _ _ _ _ _ ha
      .cases ha
     .cases ha
    .cases ha
  .rename_i hb
   simp only[aop] at ha
   first
    | (cases ha; done)
    | (split at ha
       .rename_i b' hb'; exact absurd hb' (hb b')
       .cases ha)
theorem ZA {h:Hp}{b:Nat}{x:ABlk}(y:ABlk)(hb:h[b]?=some x):(h++[y])[b]?=some x:=by
 rw[zS]
 .exact hb
 .rcases jY b h.length with h1|h1
  .exact h1
  .rw[zO h1] at hb; cases hb
theorem APA {h:Hp}{a:AV}{r:List AV×Nat}(y:ABlk)(hr:rowAt h a=some r):rowAt (h++[y]) a=some r:=by
 unfold rowAt at *;split at hr
 .split at hr
  .rename_i k xs hb
   simp only[ZA y hb]; exact hr
  .cases hr
 .exact hr
 .cases hr
theorem AA6 {h:Hp}{a:AV}{r:Nat×List (List AV)}(y:ABlk)(hr:KQ h a=some r):KQ (h++[y]) a=some r:=by
 unfold KQ at *;split at hr
 .exact hr
 .split at hr
  .rename_i hb
   simp only[ZA y hb]; exact hr
  .cases hr
 .cases hr
theorem AIO {P:Program}{h:Hp}{k:Nat}{t:TypeId}{x:AV}{ys:List (List AV)}(y:ABlk)(hr:WR P h k t x=some ys):WR P (h++[y]) k t x=some ys:=by
 unfold WR at *;split at hr
 .exact hr
 .split at hr
  .rename_i hc
   simp only[AA6 y hc]; exact hr
  .cases hr
 .cases hr
theorem ADM {P:Program}{h:Hp}{t0 t1:TypeId}{s x:AV}(y:ABlk)(hr:Q9 P h t0 t1 s x=true):Q9 P (h++[y]) t0 t1 s x=true:=by
 unfold Q9 at *;split at hr
 .split at hr
  .split at hr
   .rename_i h1 h2
    simp only[AIO y h1,AA6 y h2]; exact hr
   .cases hr
  .cases hr
 .cases hr
theorem AD5 {P:Program}{h h':Hp}{e:TypeId}{m:SM}{k:Nat}{xs ys:List (List AV)}{kill:Option Nat}{s v:AV}(y:ABlk)(hr:bump P false h e m k xs ys kill s=some (v,h')):bump P false (h++[y]) e m k xs ys kill s=some (v,h++[y]):=by
 unfold bump at *;split at hr
 .rename_i h0; rw[if_pos h0]; cases hr; rfl
 .rename_i h0
  rw[if_neg h0];split at hr
  .split at hr
   .rename_i hc
    rw[if_pos hc];cases kill<;>simp at hr|-;exact hr.1
   .cases hr
  .cases hr
theorem AKO {P:Program}{h h':Hp}{t0 t1:TypeId}{s x v:AV}(y:ABlk)(hr:IP P false h t0 t1 s x=some (v,h')):IP P false (h++[y]) t0 t1 s x=some (v,h++[y]):=by
 unfold IP at *;split at hr
 case h_2=>cases hr
 split at hr
 case h_2=>cases hr
 split at hr
 case h_2=>cases hr
 rename_i h3;simp only[AIO y h3];split at hr
 .exact AD5 y hr
 .split at hr
  .rename_i hc; rw[if_pos hc]; exact AD5 y hr
  .cases hr
 .split at hr
  .rename_i h4
   simp only[AA6 y h4];split at hr
   .rename_i hc; rw[if_pos hc]; exact AD5 y hr
   .cases hr
  .cases hr
 .cases hr
theorem AQE {P:Program}{h:Hp}{t:TypeId}{a v:AV}(y:ABlk)(hr:DF P h t a=some v):DF P (h++[y]) t a=some v:=by
 unfold DF at *;split at hr
 .rename_i h1; simp only[APA y h1]; exact hr
 .cases hr
theorem AMN {P:Program}{h:Hp}{t:TypeId}{x v:AV}{lo hi mx:Option AV}(y:ABlk)(hr:MK P h t x lo hi mx=some v):MK P (h++[y]) t x lo hi mx=some v:=by
 unfold MK at *;split at hr
 .exact hr
 .split at hr
  .exact hr
  .split at hr
   .split at hr
    .rename_i hb; simp only[ZA y hb]; exact hr
    .cases hr
   .cases hr
  .cases hr
 .cases hr
theorem AEJ {P:Program}{h:Hp}{t:TypeId}{a ix v:AV}(y:ABlk)(hr:GN P h t a ix=some v):GN P (h++[y]) t a ix=some v:=by
 unfold GN at *;split at hr
 .split at hr
  .split at hr
   .exact hr
   .split at hr
    .rename_i hb; simp only[ZA y hb]; exact hr
    .cases hr
   .cases hr
  .exact hr
  .cases hr
 .cases hr
theorem AKN {P:Program}{h:Hp}{t:TypeId}{m k v:AV}{ok:Bool}(y:ABlk)(hr:JZ P h t m k ok=some v):JZ P (h++[y]) t m k ok=some v:=by
 unfold JZ at *;split at hr
 .split at hr
  .split at hr
   .rename_i hb; simp only[ZA y hb]; exact hr
   .cases hr
  .cases hr
 .cases hr
theorem ACE {h h':Hp}{x x':Option AV}{v:AV}(y:ABlk)(hx:∀v,x=some v->x'=some v)(hr:ofO h x=some (v,h')):ofO (h++[y]) x'=some (v,h++[y]):=by
 obtain⟨h1,h2⟩:=IK hr;rw[hx v h1]; rfl
theorem AKG {P:Program}{own:Bool}{h h':Hp}{ρ:Operand->AV}{op:Op}{v:AV}(y:ABlk)(h0:hk own op=1)(ha:aop P own h ρ op=some (v,h')):aop P own (h++[y]) ρ op=some (v,h++[y]):=by
 cases op<;>simp only[hk] at h0<;>first|(cases h0; done)|skip
 case load=>simp only[aop] at *; exact ACE y (fun _=>AQE y) ha
 case slice =>
  split at h0
  .cases h0
  .rename_i ho
   have ho':own=false:=by simpa using ho
   subst ho';simp only[aop] at *; exact ACE y (fun _=>AMN y) ha
 case indexAddr=>simp only[aop] at *; exact ACE y (fun _=>AEJ y) ha
 case lookup=>simp only[aop] at *; exact ACE y (fun _=>AKN y) ha
 case buildSlice=>split at h0<;>cases h0
 case makeSlice=>split at h0<;>cases h0
 case call c =>
  split at h0
  .rename_i b hb
   simp only[aop,hb] at *
   cases b<;>simp only[hkB] at h0<;>first|(cases h0; done)|skip
   split at h0
   .cases h0
   .rename_i ho
    have ho':own=false:=by simpa using ho
    subst ho';simp only[QH] at *;split at ha
    case h_2=>cases ha
    split at ha
    case isFalse=>cases ha
    rename_i hfz;simp only[qG] at hfz;simp only[ADM y hfz,Bool.or_true,if_true];exact AKO y ha
  .rename_i hb
   simp only[aop] at ha
   first
    | (cases ha; done)
    | (split at ha
       .rename_i b' hb'; exact absurd hb' (hb b')
       .cases ha)
theorem AXP {E:Env}{own:Bool}{op:Op}{F:Fr}{h h':Hp}{v:AV}(y:ABlk)(h0:hk own op=1)(hd:DEx E own op F h v h'):DEx E own op F (h++[y]) v (h++[y]):=by
 unfold DEx at *;split at hd
 .split at hd
  .obtain⟨_,_,h2⟩:=hd
   have ho:own=true:=by
    simp only[hk] at h0;cases own
    .simp at h0
    .rfl
   refine⟨rfl,h2 ho [y],fun _ x=>?_⟩;rw[List.append_assoc]; exact h2 ho _
  .exact hd.elim
 .exact AKG y h0 hd
theorem AQJ {E:Env}{own:Bool}{op:Op}{F:Fr}{h h':Hp}{v:AV}(h0:hk own op=3)(hd:DEx E own op F h v h'):∃y,h'=h++[y]:=by
 cases op<;>simp only[hk] at h0<;>first|(cases h0; done)|skip
 case slice=>split at h0<;>cases h0
 case makeMap t r =>
  simp only[DEx,aop] at hd
  cases r with
  | none=>cases hd; exact⟨_,rfl⟩
  | some r=>cases hd
 case alloc t =>
  simp only[DEx,aop,J6,MG] at hd;split at hd
  .split at hd
   .cases hd; exact⟨_,rfl⟩
   .cases hd
  .cases hd
 case buildSlice =>
  split at h0
  .rename_i ho
   subst ho;simp only[DEx,aop,GG] at hd
   repeat' split at hd
   all_goals first|(cases hd; done)|(cases hd; exact⟨_,rfl⟩)|simp_all
  .cases h0
 case makeSlice =>
  split at h0
  .rename_i ho
   subst ho;simp only[DEx,aop,IX] at hd
   repeat' split at hd
   all_goals first|(cases hd; done)|(cases hd; exact⟨_,rfl⟩)|simp_all
  .cases h0
 case call c =>
  split at h0
  .rename_i b hb
   cases b<;>simp only[hkB] at h0<;>first|(cases h0; done)|(split at h0<;>cases h0)
  .split at h0<;>cases h0
theorem AXO {E:Env}{own:Bool}{op:Op}{F:Fr}{h h':Hp}{v:AV}(h0:hk own op=0)(hd:DEx E own op F h v h'):h'=h∧∀h2,DEx E own op F h2 v h2:=by
 unfold DEx at *;split at hd
 .simp only[hk] at h0
  split at h0<;>cases h0
 .exact AXE h0 hd
theorem AXN {E:Env}{own:Bool}{op:Op}{F:Fr}{h h':Hp}{v:AV}(h0:hk own op=1∨hk own op=4)(hd:DEx E own op F h v h'):h'=h:=by
 unfold DEx at *;split at hd
 .split at hd
  .exact hd.1
  .exact hd.elim
 .rename_i hno
  rcases h0 with h0|h0
  .exact AXD h0 hd
  .exfalso
   cases op<;>simp only[hk] at h0<;>first|(cases h0; done)|skip
   case buildSlice=>split at h0<;>cases h0
   case makeSlice=>split at h0<;>cases h0
   case slice=>split at h0<;>cases h0
   case call c =>
    split at h0
    .rename_i b hb
     cases b<;>simp only[hkB] at h0<;>first|(cases h0; done)|(split at h0<;>cases h0)
    .rename_i hb
     simp only[aop] at hd
     first
      | (cases hd; done)
      | (split at hd
         .rename_i b' hb'; exact absurd hb' (hb b')
         .cases hd)
def ECall (E:Env)(op:Op)(F:Fr)(h:Hp)(v:AV)(h':Hp):Prop :=
 match op with
 | .call { callee:=.value f,args:=as,.. }=>match ev E F f with
   | .fn (.func fid) first caps=>ACalls E fid (first++(as.toList.map (ev E F)++caps)) h fun v1 h1=>v1=v∧h1=h'
   | _=>False
 | _=>False
theorem ECall.exec {E:Env}{own:Bool}{op:Op}{F:Fr}{h h':Hp}{v:AV}{K:AV->Hp->Prop}(hd:ECall E op F h v h')(hk:K v h'):MQ E own op F h K:=by
 unfold ECall at hd;unfold MQ;split at hd
 .split at hd
  .rename_i hf
   simp only[hf];exact hd.mono fun v1 h1 ⟨e1,e2⟩=>by rw[e1,e2]; exact hk
  .exact hd.elim
 .exact hd.elim
theorem AKP {E:Env}{op:Op}{F F':Fr}{h h':Hp}{v:AV}(he:∀x∈op.operands,ev E F x=ev E F' x)(hd:ECall E op F h v h'):ECall E op F' h v h':=by
 unfold ECall at *;split at hd
 .rename_i f as ats
  have h1:ev E F f=ev E F' f:=he f (by simp [Op.operands,Call.operands]);have h2:as.toList.map (ev E F)=as.toList.map (ev E F'):=List.map_congr_left fun x hx=>he x (by simp at hx; simp [Op.operands,Call.operands,hx])
  rw[h1,h2] at hd;exact hd
 .exact hd.elim
def DExO (E:Env)(md:Nat->Bool)(o:Oper)(F:Fr)(h:Hp)(v:AV)(h':Hp):Prop :=
 match md (o.dst.getD 0+1000000) with
 | false=>DEx E (md (o.dst.getD 0)) o.op F h v h'
 | true=>ECall E o.op F h v h'
def hkO (md:Nat->Bool)(o:Oper):Nat :=
 match md (o.dst.getD 0+1000000) with
 | false=>hk (md (o.dst.getD 0)) o.op
 | true=>2
theorem DExO.exec {E:Env}{md:Nat->Bool}{o:Oper}{F:Fr}{h h':Hp}{v:AV}{K:AV->Hp->Prop}(hd:DExO E md o F h v h')(hk:K v h'):MQ E (md (o.dst.getD 0)) o.op F h K:=by
 unfold DExO at hd;split at hd
 .exact hd.exec hk
 .exact hd.exec hk
theorem YH {E:Env}{md:Nat->Bool}{o:Oper}{F F':Fr}{h h':Hp}{v:AV}(he:∀x∈o.op.operands,ev E F x=ev E F' x)(hd:DExO E md o F h v h'):DExO E md o F' h v h':=by
 unfold DExO at *;split at hd
 .exact AQI he hd
 .exact AKP he hd
theorem AEO {E:Env}{md:Nat->Bool}{o:Oper}{F:Fr}{h h':Hp}{v:AV}(h0:hkO md o=0)(hd:DExO E md o F h v h'):h'=h∧∀h2,DExO E md o F h2 v h2:=by
 unfold DExO at *;unfold hkO at h0;split at hd
 .rename_i he; simp only[he] at h0|-; exact AXO h0 hd
 .rename_i he; simp only[he] at h0; cases h0
theorem AEN {E:Env}{md:Nat->Bool}{o:Oper}{F:Fr}{h h':Hp}{v:AV}(h0:hkO md o=1∨hkO md o=4)(hd:DExO E md o F h v h'):h'=h:=by
 unfold DExO at hd;unfold hkO at h0;split at hd
 .rename_i he; simp only[he] at h0; exact AXN h0 hd
 .rename_i he; simp only[he] at h0; rcases h0 with h0|h0<;>cases h0
theorem AUI {E:Env}{md:Nat->Bool}{o:Oper}{F:Fr}{h h':Hp}{v:AV}(y:ABlk)(h0:hkO md o=1)(hd:DExO E md o F h v h'):DExO E md o F (h++[y]) v (h++[y]):=by
 unfold DExO at *;unfold hkO at h0;split at hd
 .rename_i he; simp only[he] at h0|-; exact AXP y h0 hd
 .rename_i he; simp only[he] at h0; cases h0
theorem AMV {E:Env}{md:Nat->Bool}{o:Oper}{F:Fr}{h h':Hp}{v:AV}(h0:hkO md o=3)(hd:DExO E md o F h v h'):∃y,h'=h++[y]:=by
 unfold DExO at hd;unfold hkO at h0;split at hd
 .rename_i he; simp only[he] at h0; exact AQJ h0 hd
 .rename_i he; simp only[he] at h0; cases h0
def AStep (E:Env)(md:Nat->Bool)(ds:List (Option Tmp))(o:Oper)(s s':Fr×Hp):Prop :=
 (KO ds s.1 o.guard=some true∧∃v h',DExO E md o s.1 s.2 v h'∧s'=(EY s.1 o.dst v,h')) ∨
 (KO ds s.1 o.guard=some false∧s'=(EY s.1 o.dst IQ,s.2))
def YS:AV->AV->Prop
 | .ptr b _ _,.ptr b' _ _=>b≠b'
 | _,_=>True
def VY (F:Fr):List (Nat×Nat)->Prop
 | []=>True
 | (t,u)::r=>YS (F t) (F u)∧VY F r
def XK (sep:List (Nat×Nat))(t u:Nat):Bool:=sep.any fun p=>(p.1==t&&p.2==u)||(p.1==u&&p.2==t)
def faB (sep:List (Nat×Nat))(op:Op)(u:Nat):Bool:=match op with
 | .fieldAddr _ (.tmp t) _=>XK sep t u
 | _=>false
def AC3 (sep:List (Nat×Nat))(ops:List Oper):Bool:=ops.all fun o=>match o.dst with
 | none=>true
 | some d=>sep.all fun p=>p.1 != p.2&&(p.1 != d||faB sep o.op p.2)&&(p.2 != d||faB sep o.op p.1)
theorem V8 {a b:AV}(h:YS a b):YS b a:=by
 cases a<;>cases b<;>simp only[YS] at * <;> exact Ne.symm h
theorem AEL {F:Fr}:∀ {sep:List (Nat×Nat)},VY F sep↔∀p∈sep,YS (F p.1) (F p.2)
 | []=>⟨fun _ _ h=>by (cases h),fun _=>trivial⟩
 | (a,b)::r=>by
   unfold VY;rw[AEL];simp only[qY,forall_eq_or_imp]
theorem AAA {F:Fr}{t u:Nat}{sep:List (Nat×Nat)}(hs:VY F sep)(h:XK sep t u=true):YS (F t) (F u):=by
 unfold XK at h;rw[List.any_eq_true] at h;obtain⟨p,hp,hq⟩:=h;have:=AEL.1 hs p hp;simp only[qO,zB,beq_iff_eq] at hq;rcases hq with⟨h1,h2⟩|⟨h1,h2⟩
 .rw[h1,h2] at this; exact this
 .rw[h1,h2] at this; exact V8 this
theorem AE1 {P:Program}{t:TypeId}{x v y:AV}{f:Nat}(hv:CZ P t x f=some v)(hs:YS x y):YS v y:=by
 unfold CZ at hv;split at hv
 case h_2=>cases hv
 split at hv
 case h_2=>cases hv
 split at hv
 case h_2=>cases hv
 split at hv
 .cases hv
  cases y<;>simp only[YS] at * <;> exact hs
 .cases hv; exact trivial
 .cases hv
theorem AM4 {F:Fr}{sep:List (Nat×Nat)}{d:Tmp}{v:AV}(hs:VY F sep)(hv:∀p∈sep,p.1≠p.2∧(p.1=d->YS v (F p.2))∧(p.2=d->YS (F p.1) v)):VY (upd F d v) sep:=by
 rw[AEL] at *;intro p hp;obtain⟨h0,h1,h2⟩:=hv p hp;have h3:=hs p hp;simp only[upd];by_cases e1:p.1=d
 .have e2:p.2≠d:=fun e=>h0 (e1.trans e.symm)
  rw[if_pos e1,if_neg e2]; exact h1 e1
 .rw[if_neg e1]
  by_cases e2:p.2=d
  .rw[if_pos e2]; exact h2 e2
  .rw[if_neg e2]; exact h3
theorem AC2 (y:AV):YS IQ y:=by unfold IQ; trivial
theorem AMS {sep:List (Nat×Nat)}{ops:List Oper}{F:Fr}{o:Oper}(hok:AC3 sep ops=true)(ho:o∈ops)(hs:VY F sep):VY (EY F o.dst IQ) sep:=by
 have:=zQ.1 hok o ho
 cases hd:o.dst with
 | none=>exact hs
 | some d =>
   rw[hd] at this;simp only[zQ,zB,bne_iff_ne] at this;exact AM4 hs fun p hp=>⟨(this p hp).1.1,fun _=>AC2 _,fun _=>V8 (AC2 _)⟩
def AO7 (sep:List (Nat×Nat))(x y:Op):Bool:=match x,y with
 | .load _ (.tmp t),.store _ (.tmp u) _=>XK sep t u
 | .store _ (.tmp t) _,.load _ (.tmp u)=>XK sep t u
 | .store _ (.tmp t) _,.store _ (.tmp u) _=>XK sep t u
 | .indexAddr _ _ _,.store _ _ _=>true
 | .store _ _ _,.indexAddr _ _ _=>true
 | _,_=>false
def VR (md:Nat->Bool)(sep:List (Nat×Nat))(x y:Oper):Bool :=
 let a:=hkO md x
 let b:=hkO md y
 a==0||b==0||((a==1||a==4)&&(b==1||b==4))||(a==1&&b==3)||AO7 sep x.op y.op
theorem AGG {P:Program}{h:Hp}{t:TypeId}{a:AV}{b' i' j':Nat}{blk:ABlk}(hne:YS a (.ptr b' i' j')):DF P (h.set b' blk) t a=DF P h t a:=by
 have:rowAt (h.set b' blk) a=rowAt h a:=by
  cases a<;>simp only[rowAt];rw[jS (Ne.symm hne)]
 unfold DF;rw[this]
theorem RP {P:Program}{h h':Hp}{t:TypeId}{a v:AV}(hs:FO P h t a v=some h'):∃b i j,a=.ptr b i j:=by
 unfold FO at hs;split at hs
 .exact⟨_,_,_,rfl⟩
 .cases hs
theorem SV {P:Program}{h h':Hp}{t:TypeId}{b i j:Nat}{v:AV}(hs:FO P h t (.ptr b i j) v=some h'):∃blk,h'=h.set b blk∧∀h2:Hp,h2[b]?=h[b]?->FO P h2 t (.ptr b i j) v=some (h2.set b blk):=by
 simp only[FO] at hs;split at hs
 case h_2=>cases hs
 rename_i k xs hb;split at hs
 case h_2=>cases hs
 rename_i row hr;split at hs
 case h_2=>cases hs
 rename_i cs hc;split at hs
 case isFalse=>cases hs
 rename_i hif;cases hs;refine⟨_,rfl,fun h2 he=>?_⟩;simp only[FO,he,hb,hr,hc];rw[if_pos hif]
theorem AG8 {h:Hp}{b:Nat}{x y:ABlk}(hb:h[b]?=some x):(h.set b y)[b]?=some y:=by
 have:=CB hb;rw[List.getElem?_set,if_pos rfl,if_pos this]
theorem TV {P:Program}{h h':Hp}{t t':TypeId}{a ix b v:AV}(hs:FO P h t' b v=some h'):GN P h' t a ix=GN P h t a ix:=by
 obtain⟨b1,i1,j1,rfl⟩:=RP hs;simp only[FO] at hs;split at hs
 case h_2=>cases hs
 rename_i k xs hb;split at hs
 case h_2=>cases hs
 split at hs
 case h_2=>cases hs
 split at hs
 case isFalse=>cases hs
 cases hs;unfold GN;cases ix<;>try rfl
 cases P.underlying t with
 | none=>rfl
 | some d =>
   cases d<;>try rfl
   cases a<;>try rfl
   rename_i b0 off len;by_cases e:b0=b1
   .subst e
    simp only[AG8 hb,hb]
   .simp only[jS (Ne.symm e)]
theorem ANC {E:Env}{sep:List (Nat×Nat)}{x y:Op}{F:Fr}{h h1:Hp}{v:AV}(hb:AO7 sep x y=true):¬ECall E x F h v h1∧¬ECall E y F h v h1:=by
 unfold AO7 at hb;split at hb
 case h_6=>cases hb
 all_goals exact⟨fun h=>h,fun h=>h⟩
theorem AXM {E:Env}{o1 o2:Bool}{sep:List (Nat×Nat)}{x y:Op}{F:Fr}{h h1 h2:Hp}{v u:AV}(hs:VY F sep)(hb:AO7 sep x y=true)(hx:DEx E o1 x F h v h1)(hy:DEx E o2 y F h1 u h2) :
  ∃h',DEx E o2 y F h u h'∧DEx E o1 x F h' v h2:=by
 unfold AO7 at hb;split at hb
 case h_6=>cases hb
 .rename_i t a t' c z
  have hsep:=AAA hs hb;simp only[DEx,aop,ev] at hx hy|-;obtain⟨p1,rfl⟩:=IK hx;obtain⟨q1,rfl⟩:=QB hy;obtain⟨b2,i2,j2,e2⟩:=RP q1;rw[e2] at hsep;simp only[e2] at q1|-;obtain⟨blk,rfl,_⟩:=SV q1;exact⟨_,by rw[q1]; rfl,by rw[AGG hsep,p1]; rfl⟩
 .rename_i t a z t' c
  have hsep:=AAA hs hb;simp only[DEx,aop,ev] at hx hy|-;obtain⟨p1,rfl⟩:=QB hx;obtain⟨q1,rfl⟩:=IK hy;obtain⟨b1,i1,j1,e1⟩:=RP p1;rw[e1] at hsep;simp only[e1] at p1|-;obtain⟨blk,rfl,_⟩:=SV p1;rw[AGG (V8 hsep)] at q1;exact⟨_,by rw[q1]; rfl,by rw[p1]; rfl⟩
 .rename_i t a z t' c z'
  have hsep:=AAA hs hb;simp only[DEx,aop,ev] at hx hy|-;obtain⟨p1,rfl⟩:=QB hx;obtain⟨q1,rfl⟩:=QB hy;obtain⟨b1,i1,j1,e1⟩:=RP p1;obtain⟨b2,i2,j2,e2⟩:=RP q1;rw[e1,e2] at hsep;have hne:b1≠b2:=hsep;simp only[e1,e2] at p1 q1|-;obtain⟨blk,rfl,p2⟩:=SV p1;obtain⟨blk',rfl,q2⟩:=SV q1;have g1:h[b2]?=(h.set b1 blk)[b2]? := by rw[jS hne]
  have g2:(h.set b2 blk')[b1]?=h[b1]? := by rw[jS (Ne.symm hne)]
  refine⟨h.set b2 blk',by rw[q2 h g1]; rfl,?_⟩;rw[p2 _ g2,List.set_comm _ _ hne];rfl
 .simp only[DEx,aop] at hx hy|-
  obtain⟨p1,rfl⟩:=IK hx;obtain⟨q1,rfl⟩:=QB hy;exact⟨_,by rw[q1]; rfl,by rw[TV q1,p1]; rfl⟩
 .simp only[DEx,aop] at hx hy|-
  obtain⟨p1,rfl⟩:=QB hx;obtain⟨q1,rfl⟩:=IK hy;rw[TV p1] at q1;exact⟨_,by rw[q1]; rfl,by rw[p1]; rfl⟩
theorem KY (F:Fr){x y:Option Tmp}(v u:AV)(h:∀d,x=some d->y≠some d):EY (EY F x v) y u=EY (EY F y u) x v:=by
 cases x with
 | none=>rfl
 | some d =>
   cases y with
   | none=>rfl
   | some e =>
     have hne:e≠d:=fun he=>h d rfl (he▸rfl)
     funext i;simp only[EY,upd];by_cases h1:i=e
     .subst h1; simp [hne]
     .simp [h1]
theorem AHI {E:Env}{F:Fr}{dst:Option Tmp}{v:AV}{x:Operand}(h:∀d,dst=some d->x≠.tmp d):ev E (EY F dst v) x=ev E F x:=by
 cases dst with
 | none=>rfl
 | some d =>
   cases x with
   | tmp t =>
     have:t≠d:=fun e=>h d rfl (e▸rfl)
     simp [ev,EY,upd,this]
   | _=>rfl
theorem Y5 {ops:Array Oper}{o:Oper}{d:Tmp}(h:d ∉ o.looksAt ops):∀x∈o.op.operands,x≠.tmp d:=by
 intro x hx he;subst he;refine h (qE.2 (.inl ?_));rw[List.mem_filterMap];exact⟨.tmp d,by simpa using hx,rfl⟩
theorem YL {ops:Array Oper}{o:Oper}{F:Fr}{dst:Option Tmp}{v:AV}(h:∀d,dst=some d->d ∉ o.looksAt ops) :
  KO (ops.toList.map (·.dst)) (EY F dst v) o.guard=KO (ops.toList.map (·.dst)) F o.guard:=by
 unfold KO;split
 .rfl
 .rename_i j want hg
  rw[ZB];have hops:(ops.toList[j]?).bind (·.dst)=(ops[j]?).bind (·.dst):=by simp
  rw[hops]
  cases hd:(ops[j]?).bind (·.dst) with
  | none=>rfl
  | some d =>
    simp only
    have:EY F dst v d=F d:=by
     cases dst with
     | none=>rfl
     | some e =>
       have hne:d≠e:=by
        intro he;subst he;refine h d rfl (qE.2 (.inr ?_));rw[hg];simp [hd]
       simp [EY,upd,hne]
    rw[this]
theorem AUH {E:Env}{md:Nat->Bool}{sep:List (Nat×Nat)}{x y:Oper}{F:Fr}{h h1 h2:Hp}{v u:AV}(hs:VY F sep)(hb:AO7 sep x.op y.op=true)(hx:DExO E md x F h v h1)(hy:DExO E md y F h1 u h2) :
  ∃h',DExO E md y F h u h'∧DExO E md x F h' v h2:=by
 unfold DExO at *;split at hx
 case h_2=>exact absurd hx (ANC hb).1
 rename_i e1;split at hy
 case h_2=>exact absurd hy (ANC hb).2
 rename_i e2;exact AXM hs hb hx hy
theorem AEP {E:Env}{md:Nat->Bool}{sep:List (Nat×Nat)}{ops:Array Oper}{x y:Oper}{s s1 s2:Fr×Hp}(hsep:VY s.1 sep)(hap:x.apart ops y=true)(hco:VR md sep x y=true)
  (hx:AStep E md (ops.toList.map (·.dst)) x s s1) (hy:AStep E md (ops.toList.map (·.dst)) y s1 s2):∃t,AStep E md (ops.toList.map (·.dst)) y s t∧AStep E md (ops.toList.map (·.dst)) x t s2:=by
 obtain⟨p1,p2,p3⟩:=Oper.apart_spec hap;obtain⟨F,h⟩:=s
 have exY:∀ {v u:AV} {h1 h2:Hp},DExO E md y (EY F x.dst v) h1 u h2->DExO E md y F h1 u h2:=fun hd =>
  YH (fun z hz=>AHI fun d hdd he=>Y5 (p1 d hdd) z hz he) hd
 have exX:∀ {v u:AV} {h1 h2:Hp},DExO E md x F h1 u h2->DExO E md x (EY F y.dst v) h1 u h2:=fun hd =>
  YH (fun z hz=>(AHI fun d hdd he=>Y5 (p3 d hdd) z hz he).symm) hd
 have wY:∀v,KO (ops.toList.map (·.dst)) (EY F x.dst v) y.guard=KO (ops.toList.map (·.dst)) F y.guard:=fun v=>YL p1
 have wX:∀v,KO (ops.toList.map (·.dst)) (EY F y.dst v) x.guard=KO (ops.toList.map (·.dst)) F x.guard:=fun v=>YL p3
 rcases hx with⟨a1,v,h1,a2,rfl⟩|⟨a1,rfl⟩<;>rcases hy with⟨b1,u,h2,b2,rfl⟩|⟨b1,rfl⟩
 .simp only at *
  rw[wY] at b1;have b2':=exY b2;simp only[VR,qO,zB,beq_iff_eq] at hco;rcases hco with (((hc|hc)|⟨hc1,hc2⟩)|⟨hc1,hc2⟩)|hc
  .obtain⟨rfl,hz⟩:=AEO hc a2
   exact⟨(EY F y.dst u,h2),.inl ⟨b1,u,h2,b2',rfl⟩,.inl ⟨by rw[wX]; exact a1,v,h2,exX (hz h2),by rw[KY F v u p2]⟩⟩
  .obtain⟨rfl,hz⟩:=AEO hc b2'
   exact⟨(EY F y.dst u,h),.inl ⟨b1,u,h,hz h,rfl⟩,.inl ⟨by rw[wX]; exact a1,v,_,exX a2,by rw[KY F v u p2]⟩⟩
  .have e1:=AEN hc1 a2
   subst e1;have e2:=AEN hc2 b2';subst e2;exact⟨(EY F y.dst u,_),.inl ⟨b1,u,_,b2',rfl⟩,.inl ⟨by rw[wX]; exact a1,v,_,exX a2,by rw[KY F v u p2]⟩⟩
  .have e1:=AEN (.inl hc1) a2
   subst e1;obtain⟨blk,rfl⟩:=AMV hc2 b2';exact⟨(EY F y.dst u,_),.inl ⟨b1,u,_,b2',rfl⟩,.inl ⟨by rw[wX]; exact a1,v,_,exX (AUI blk hc1 a2),by rw[KY F v u p2]⟩⟩
  .obtain⟨h3,r1,r2⟩:=AUH hsep hc a2 b2'
   exact⟨(EY F y.dst u,h3),.inl ⟨b1,u,h3,r1,rfl⟩,.inl ⟨by rw[wX]; exact a1,v,_,exX r2,by rw[KY F v u p2]⟩⟩
 .simp only at *
  rw[wY] at b1;exact⟨(EY F y.dst IQ,h),.inr ⟨b1,rfl⟩,.inl ⟨by rw[wX]; exact a1,v,h1,exX a2,by rw[KY F v IQ p2]⟩⟩
 .simp only at *
  rw[wY] at b1;exact⟨(EY F y.dst u,h2),.inl ⟨b1,u,h2,exY b2,rfl⟩,.inr ⟨by rw[wX]; exact a1,by rw[KY F IQ u p2]⟩⟩
 .simp only at *
  rw[wY] at b1;exact⟨(EY F y.dst IQ,h),.inr ⟨b1,rfl⟩,.inr ⟨by rw[wX]; exact a1,by rw[KY F IQ IQ p2]⟩⟩
def anyA (E:Env)(md:Nat->Bool)(ops:Array Oper)(Q:Fr×Hp->Prop):Nat->Array Bool->Fr×Hp->Prop
 | 0,listed,s=>Region.ready .any ops listed=[]∧Q s
 | fuel+1,listed,s=>(Region.ready .any ops listed=[]->Q s) ∧
   ∀i∈Region.ready .any ops listed,∃o s',ops[i]?=some o∧AStep E md (ops.toList.map (·.dst)) o s s'∧anyA E md ops Q fuel (listed.setIfInBounds i true) s'
theorem AS3 {sep:List (Nat×Nat)}{op:Op}{u:Nat}(h:faB sep op u=true):∃ty t f,op=.fieldAddr ty (.tmp t) f∧XK sep t u=true:=by
 unfold faB at h;split at h
 .exact⟨_,_,_,rfl,h⟩
 .cases h
theorem AS2 {E:Env}{md:Nat->Bool}{sep:List (Nat×Nat)}{o:Oper}{F:Fr}{h h':Hp}{v:AV}{u:Nat}(hs:VY F sep)(hf:faB sep o.op u=true)(hd:DExO E md o F h v h'):YS v (F u):=by
 obtain⟨ty,t,f,e,hh⟩:=AS3 hf;have h1:=AAA hs hh;unfold DExO at hd;rw[e] at hd;split at hd
 .simp only[DEx,aop,ev] at hd
  exact AE1 (IK hd).1 h1
 .exact hd.elim
theorem AGH {E:Env}{md:Nat->Bool}{sep:List (Nat×Nat)}{ops:List Oper}{ds:List (Option Tmp)}{o:Oper}{s s':Fr×Hp}(hok:AC3 sep ops=true)(ho:o∈ops)(hs:VY s.1 sep)(h:AStep E md ds o s s'):VY s'.1 sep:=by
 rcases h with⟨_,v,h',hd,rfl⟩|⟨_,rfl⟩
 .have:=zQ.1 hok o ho
  cases hdst:o.dst with
  | none=>exact hs
  | some d =>
    rw[hdst] at this;simp only[zQ,zB,qO,bne_iff_ne] at this;refine AM4 hs fun p hp=>⟨(this p hp).1.1,fun e=>?_,fun e=>?_⟩
    .rcases (this p hp).1.2 with h1|h1
     .exact absurd e h1
     .exact AS2 hs h1 hd
    .rcases (this p hp).2 with h1|h1
     .exact absurd e h1
     .exact V8 (AS2 hs h1 hd)
 .exact AMS hok ho hs
theorem ANQ {ops:Array Oper}{i:Nat}{o:Oper}(h:ops[i]?=some o):o∈ops.toList:=by
 have:ops.toList[i]?=some o:=by simpa using h
 exact zV this
theorem AML {E:Env}{md:Nat->Bool}{sep:List (Nat×Nat)}{ops:Array Oper}{Q:Fr×Hp->Prop}{i:Nat}{oi:Oper}(hok:AC3 sep ops.toList=true)(hi:ops[i]?=some oi)(r:Nat->Bool)
  (hsup:∀j oj,ops[j]?=some oj->r j=true->j≠i->∃e∈oj.after,Region.binds .any e=true∧r e.on=true):∀(fuel:Nat) (listed:Array Bool) (s s1:Fr×Hp),
  (∀j,r j=true->listed.getD j true=false) ->
  (∀j oj,ops[j]?=some oj->j≠i->listed.getD j true=false->r j=false->oi.apart ops oj=true∧VR md sep oi oj=true)->VY s.1 sep ->
  i∈Region.ready .any ops listed->AStep E md (ops.toList.map (·.dst)) oi s s1->anyA E md ops Q fuel (listed.setIfInBounds i true) s1->anyA E md ops Q (fuel+1) listed s:=by
 intro fuel
 induction fuel with
 | zero =>
   intro listed s s1 _ _ _ hr hy H;refine⟨fun h=>(by rw[h] at hr; cases hr),fun j hj=>?_⟩;by_cases hji:j=i
   .subst hji; exact⟨oi,s1,hi,hy,H⟩
   .have:=ready_mono hj hji
    rw[H.1] at this;cases this
 | succ fuel ih =>
   intro listed s s1 hun hfree hs hr hy H;refine⟨fun h=>(by rw[h] at hr; cases hr),fun j hj=>?_⟩;by_cases hji:j=i
   .subst hji; exact⟨oi,s1,hi,hy,H⟩
   .obtain⟨oj,s2,hoj,hst,hrest⟩:=H.2 j (ready_mono hj hji)
    obtain⟨hjun,oj',hoj',hall⟩:=mem_ready.1 hj;rw[hoj] at hoj'; cases hoj'
    have hrj:r j=false:=by
     cases hc:r j with
     | false=>rfl
     | true =>
       obtain⟨e,he,hb,hre⟩:=hsup j oj hoj hc hji;have h1:=hall e he hb;have h0:=hun e.on hre;rcases jY e.on listed.size with h'|h'
       .simp [h'] at h0 h1; rw[h0] at h1; cases h1
       .simp [Array.getElem?_eq_none h'] at h1
    obtain⟨q1,q2⟩:=hfree j oj hoj hji hjun hrj;obtain⟨t,t1,t2⟩:=AEP hs q1 q2 hy hst
    have hun':∀k,r k=true->(listed.setIfInBounds j true).getD k true=false:=fun k hk=>by
     by_cases hjk:j=k
     .subst hjk; rw[hrj] at hk; cases hk
     .rw[getD_set_ne true hjk]; exact hun k hk
    have hfree':∀k ok,ops[k]?=some ok->k≠i->(listed.setIfInBounds j true).getD k true=false->r k=false->oi.apart ops ok=true∧VR md sep oi ok=true:=fun k ok hk hki hun2 hno=>by
     refine hfree k ok hk hki ?_ hno;by_cases hjk:j=k
     .subst hjk; exact hjun
     .rw[getD_set_ne true hjk] at hun2; exact hun2
    refine⟨oj,t,hoj,t1,ih (listed.setIfInBounds j true) t s2 hun' hfree' (AGH hok (ANQ hoj) hs t1) (ready_mono hr (Ne.symm hji)) t2 ?_⟩;rw[Array.setIfInBounds_comm _ _ hji];exact hrest
def AI9 (acc:List Nat)(es:List Edge):Nat:=es.foldl (fun s e=>if Region.binds .any e then s ||| (2^e.on ||| acc.getD e.on 0) else s) 0
def ABD:List Oper->List Nat->List Nat
 | [],acc=>acc
 | o::r,acc=>ABD r (acc++[AI9 acc o.after.toList])
def rowOk (md:Nat->Bool)(sep:List (Nat×Nat))(ops:Array Oper)(k:Nat)(x:Oper):List Oper->List Nat->Bool
 | y::r,m::ms=>(m.testBit k||(VR md sep x y&&x.apart ops y))&&rowOk md sep ops k x r ms
 | _,_=>true
def ACD (md:Nat->Bool)(sep:List (Nat×Nat))(ops:Array Oper):List Oper->List Nat->Nat->Bool
 | x::r,_::ms,k=>rowOk md sep ops k x r ms&&ACD md sep ops r ms (k+1)
 | _,_,_=>true
def W9:List Oper->Nat->Bool
 | [],_=>true
 | o::r,k=>o.after.toList.all (fun e => !(Region.binds .any e)||Nat.blt e.on k)&&W9 r (k+1)
def AR9 (md:Nat->Bool)(sep:List (Nat×Nat))(ops:Array Oper):Bool:=W9 ops.toList 0&&ACD md sep ops ops.toList (ABD ops.toList []) 0
theorem PN:∀ {l:List Oper} {k:Nat},W9 l k=true->∀(i:Nat) (o:Oper),l[i]?=some o->∀e∈o.after,Region.binds .any e=true->e.on<k+i
 | [],_,_,i,o,h=>by simp at h
 | x::l,k,hl,i,o,h=>by
   simp only[W9,zB] at hl;intro e he hb
   cases i with
   | zero =>
     simp at h; subst h;have:=zQ.1 hl.1 e (by simpa using he);rw[hb] at this;simp only[Bool.not_true,qG,Nat.blt_eq] at this;exact this
   | succ i =>
     have:=PN hl.2 i o (by simpa using h) e he hb;omega
theorem AC7 {md:Nat->Bool}{sep:List (Nat×Nat)}{ops:Array Oper}{k:Nat}{x:Oper}:∀ {l:List Oper} {ms:List Nat},rowOk md sep ops k x l ms=true->∀(j:Nat) (y:Oper),l[j]?=some y->j<ms.length ->
  (ms.getD j 0).testBit k=true∨(x.apart ops y=true∧VR md sep x y=true)
 | [],_,_,j,y,h,_=>by simp at h
 | _::_,[],_,j,y,_,h=>by simp at h
 | z::l,m::ms,hr,j,y,h,hj=>by
   simp only[rowOk,zB,qO] at hr
   cases j with
   | zero =>
     simp at h; subst h;rcases hr.1 with h1|h1
     .exact .inl (by simpa using h1)
     .exact .inr ⟨h1.2,h1.1⟩
   | succ j =>
     have:=AC7 hr.2 j y (by simpa using h) (by simpa using hj);simpa using this
theorem YY {md:Nat->Bool}{sep:List (Nat×Nat)}{ops:Array Oper}:∀ {l:List Oper} {ms:List Nat} {k:Nat},ACD md sep ops l ms k=true->ms.length=l.length->∀(i j:Nat) (x y:Oper),i<j->l[i]?=some x->l[j]?=some y ->
  (ms.getD j 0).testBit (k+i)=true∨(x.apart ops y=true∧VR md sep x y=true)
 | [],_,_,_,_,i,j,x,y,_,h,_=>by simp at h
 | _::_,[],_,_,hl,_,_,_,_,_,_,_=>by simp at hl
 | z::l,m::ms,k,hp,hl,i,j,x,y,hij,hx,hy=>by
   simp only[ACD,zB] at hp;simp at hl;obtain⟨j',rfl⟩:∃j',j=j'+1:=⟨j-1,by omega⟩
   have hy':l[j']?=some y:=by simpa using hy
   cases i with
   | zero =>
     simp at hx; subst hx;have:=AC7 hp.1 j' y hy' (by have:=CB hy'; omega);simpa using this
   | succ i =>
     have:=YY hp.2 hl i j' x y (by omega) (by simpa using hx) hy';rw[show k+1+i=k+(i+1) by omega] at this;simpa using this
theorem AFO {acc:List Nat}{k:Nat}:∀(es:List Edge) (s:Nat),(es.foldl (fun s e=>if Region.binds .any e then s ||| (2^e.on ||| acc.getD e.on 0) else s) s).testBit k=true->s.testBit k=true∨∃e∈es,Region.binds .any e=true∧(e.on=k∨(acc.getD e.on 0).testBit k=true)
 | [],s,h=>.inl h
 | e::es,s,h=>by
   rw[List.foldl_cons] at h;rcases AFO es _ h with h1|⟨e',h1,h2⟩
   .split at h1
    .rename_i hb
     rw[Nat.testBit_or,Nat.testBit_or,qO,qO,Nat.testBit_two_pow] at h1;rcases h1 with h1|h1|h1
     .exact .inl h1
     .exact .inr ⟨e,by simp,hb,.inl (by simpa using h1)⟩
     .exact .inr ⟨e,by simp,hb,.inr h1⟩
    .exact .inl h1
   .exact .inr ⟨e',by simp [h1],h2⟩
theorem ABC:∀(l:List Oper) (acc:List Nat),∃tl,ABD l acc=acc++tl∧tl.length=l.length∧∀(i:Nat) (o:Oper),l[i]?=some o->(ABD l acc).getD (acc.length+i) 0=AI9 ((ABD l acc).take (acc.length+i)) o.after.toList
 | [],acc=>⟨[],by simp [ABD],rfl,fun i o h=>by simp at h⟩
 | x::l,acc=>by
   obtain⟨tl,h1,h2,h3⟩:=ABC l (acc++[AI9 acc x.after.toList]);have e:ABD (x::l) acc=ABD l (acc++[AI9 acc x.after.toList]):=rfl;refine⟨AI9 acc x.after.toList::tl,by rw[e,h1]; simp,by simp [h2],fun i o h=>?_⟩;rw[e]
   cases i with
   | zero =>
     simp at h; subst h;rw[h1];simp [zM]
   | succ i =>
     have:=h3 i o (by simpa using h);rw[List.length_append,List.length_singleton] at this;rw[show acc.length+(i+1)=acc.length+1+i by omega];exact this
def OC (ops:Array Oper)(k j:Nat):Bool:=((ABD ops.toList []).getD j 0).testBit k
theorem XH (ops:Array Oper):(ABD ops.toList []).length=ops.size:=by
 obtain⟨tl,h1,h2,_⟩:=ABC ops.toList [];rw[h1]; simp [h2]
theorem V5 {ops:Array Oper}{k j:Nat}(h:OC ops k j=true):j<ops.size:=by
 rcases jY j ops.size with h1|h1
 .exact h1
 .unfold OC at h
  rw[zM,zO (by rw[XH]; exact h1)] at h;simp at h
theorem SE {ops:Array Oper}(hl:W9 ops.toList 0=true){k j:Nat}{o:Oper}(ho:ops[j]?=some o)(h:OC ops k j=true):∃e∈o.after,Region.binds .any e=true∧e.on<j∧(e.on=k∨OC ops k e.on=true):=by
 obtain⟨_,_,_,h3⟩:=ABC ops.toList [];have h4:=h3 j o (by simpa using ho);simp only[List.length_nil,jG] at h4;unfold OC at h;rw[h4] at h;rcases AFO _ _ h with h5|⟨e,h5,h6,h7⟩
 .simp at h5
 .have hlt:=PN hl j o (by simpa using ho) e (by simpa using h5) h6
  rw[jG] at hlt;refine⟨e,by simpa using h5,h6,hlt,?_⟩;rcases h7 with h7|h7
  .exact .inl h7
  .refine .inr ?_
   unfold OC;rw[zM,qN,if_pos hlt,<-zM] at h7;exact h7
theorem AOU {ops:Array Oper}(hl:W9 ops.toList 0=true){k:Nat}:∀(j:Nat),OC ops k j=true->k<j:=by
 intro j
 induction j using Nat.strongRecOn with
 | _ j ih =>
   intro h;have hj:=V5 h;obtain⟨e,_,_,hlt,h7⟩:=SE hl (show ops[j]?=some ops[j] by simp [hj]) h;rcases h7 with h7|h7
   .omega
   .have:=ih e.on hlt h7; omega
def D (E:Env)(md:Nat->Bool)(ds:List (Option Tmp)):List Oper->Fr->Hp->(Fr->Hp->Prop)->Prop
 | [],F,h,K=>K F h
 | o::r,F,h,K=>match KO ds F o.guard with
   | some c=>(c=true->∃v h',DExO E md o F h v h'∧D E md ds r (EY F o.dst v) h' K)∧(c=false->D E md ds r (EY F o.dst IQ) h K)
   | none=>False
theorem AUG {E:Env}{md:Nat->Bool}{ds:List (Option Tmp)}{o:Oper}{r:List Oper}{F:Fr}{h:Hp}{K:Fr->Hp->Prop}(hD:D E md ds (o::r) F h K) :
  ∃s',AStep E md ds o (F,h) s'∧D E md ds r s'.1 s'.2 K:=by
 unfold D at hD;split at hD
 .rename_i c hc
  cases c with
  | true =>
    obtain⟨v,h',h1,h2⟩:=hD.1 rfl;exact⟨_,.inl ⟨hc,v,h',h1,rfl⟩,h2⟩
  | false=>exact⟨_,.inr ⟨hc,rfl⟩,hD.2 rfl⟩
 .exact hD.elim
def LK (ops:Array Oper)(k:Nat)(listed:Array Bool):Prop:=listed.size=ops.size∧∀j,j<ops.size->listed[j]?=some (decide (j<k))
theorem LK.getD {ops:Array Oper}{k j:Nat}{listed:Array Bool}(h:LK ops k listed)(hj:j<ops.size)(d:Bool):listed.getD j d=decide (j<k):=by
 have:=h.2 j hj;rw[Array.getD_eq_getD_getElem?,this]; rfl
theorem LK.next {ops:Array Oper}{k:Nat}{listed:Array Bool}(h:LK ops k listed):LK ops (k+1) (listed.setIfInBounds k true):=by
 refine⟨by simpa using h.1,fun j hj=>?_⟩;by_cases e:k=j
 .subst e
  rw[Array.getElem?_setIfInBounds_self_of_lt (by rw[h.1]; exact hj)];simp
 .rw[Array.getElem?_setIfInBounds_ne e,h.2 j hj]
  congr 1;rw[decide_eq_decide];omega
theorem AKH {E:Env}{md:Nat->Bool}{sep:List (Nat×Nat)}{ops:Array Oper}{K:Fr->Hp->Prop}(hok:AC3 sep ops.toList=true)(hB:AR9 md sep ops=true):∀(l:List Oper) (k:Nat) (listed:Array Bool) (F:Fr) (h:Hp),(∀j:Nat,l[j]?=ops[k+j]?) ->
  LK ops k listed->VY F sep->D E md (ops.toList.map (·.dst)) l F h K->anyA E md ops (fun s=>K s.1 s.2) l.length listed (F,h)
 | [],k,listed,F,h,hl,hL,_,hD=>by
   refine⟨?_,hD⟩;rw[List.eq_nil_iff_forall_not_mem];intro i hi;obtain⟨h1,o,h2,_⟩:=mem_ready.1 hi;have hlt:i<ops.size:=(Array.getElem?_eq_some_iff.1 h2).1
   have hk:ops.size<=k:=by
    have:=(hl 0).symm;simp only[Nat.add_zero,List.getElem?_nil] at this;simpa using this
   rw[hL.getD hlt] at h1;simp at h1; omega
 | o::l,k,listed,F,h,hl,hL,hs,hD=>by
   have h0:ops[k]?=some o:=by simpa using (hl 0).symm
   have hlt:k<ops.size:=(Array.getElem?_eq_some_iff.1 h0).1;have hB':=hB;simp only[AR9,zB] at hB';obtain⟨hlow,hpair⟩:=hB';obtain⟨s',h1,h2⟩:=AUG hD
   refine AML hok h0 (fun j=>decide (j=k)||OC ops k j) (fun j oj hj hr hne=>?_) l.length listed (F,h) s' (fun j hr=>?_) (fun j oj hj hne hun hr=>?_) hs ?_ h1
    (AKH hok hB l (k+1) _ s'.1 s'.2 (fun j=>by have:=hl (j+1); simpa [Nat.add_assoc,Nat.add_comm 1 j] using this) hL.next (AGH (s:=(F,h)) hok (ANQ h0) hs h1) h2)
   .simp only[qO,decide_eq_true_eq] at hr
    rcases hr with hr|hr
    .exact absurd hr hne
    .obtain⟨e,he,hb,_,h7⟩:=SE hlow hj hr
     exact⟨e,he,hb,by simpa using h7⟩
   .simp only[qO,decide_eq_true_eq] at hr
    rcases hr with rfl|hr
    .rw[hL.getD hlt]; simp
    .have h3:=V5 hr
     have h4:=AOU hlow j hr;rw[hL.getD h3]; simp; omega
   .have h3:j<ops.size:=(Array.getElem?_eq_some_iff.1 hj).1
    rw[hL.getD h3] at hun;simp only[Bool.or_eq_false_iff,decide_eq_false_iff_not] at hr;have hkj:k<j:=by simp at hun; omega
    rcases YY hpair (by rw[XH]; simp) k j o oj hkj (by simpa using h0) (by simpa using hj) with h4|h4
    .rw[jG] at h4
     have:OC ops k j=true:=h4;rw[this] at hr; cases hr.2
    .exact h4
   .rw[mem_ready]
    refine⟨by rw[hL.getD hlt]; simp,o,h0,fun e he hb=>?_⟩;have:=PN hlow k o (by simpa using h0) e he hb;rw[jG] at this;rw[hL.getD (by omega)]; simpa using this

structure LS (ops:Array Oper) (L:List Nat) (listed:Array Bool):Prop where
 size:listed.size=ops.size
 at':∀j,j<ops.size->listed[j]?=some (L.contains j)
 lt:∀j∈L,j<ops.size
theorem LS.getD {ops:Array Oper}{L:List Nat}{listed:Array Bool}(h:LS ops L listed){j:Nat}(hj:j<ops.size)(d:Bool):listed.getD j d=L.contains j:=by
 have:=h.at' j hj;rw[Array.getD_eq_getD_getElem?,this]; rfl
theorem LS.getF {ops:Array Oper}{L:List Nat}{listed:Array Bool}(h:LS ops L listed)(j:Nat):listed.getD j false=L.contains j:=by
 rcases jY j ops.size with hj|hj
 .exact h.getD hj false
 .have h1:listed[j]?=none:=by rw[Array.getElem?_eq_none_iff,h.size]; exact hj
  rw[Array.getD_eq_getD_getElem?,h1]
  have:L.contains j=false:=by
   rw[List.contains_eq_mem,decide_eq_false_iff_not];exact fun q=>by have:=h.lt j q; omega
  rw[this]; rfl
theorem LS.next {ops:Array Oper}{L:List Nat}{listed:Array Bool}(h:LS ops L listed){i:Nat}(hi:i<ops.size):LS ops (i::L) (listed.setIfInBounds i true):=by
 refine⟨by simpa using h.size,fun j hj=>?_,fun j hj=>?_⟩
 .by_cases e:i=j
  .subst e
   rw[Array.getElem?_setIfInBounds_self_of_lt (by rw[h.size]; exact hj)];simp
  .rw[Array.getElem?_setIfInBounds_ne e,h.at' j hj]
   congr 1;simp [Ne.symm e]
 .rcases qY.1 hj with rfl|hj
  .exact hi
  .exact h.lt j hj
def AHM (x:Oper)(L:List Nat):Bool:=x.after.toList.all fun e => !(Region.binds .any e)||L.contains e.on
def IE (l:List Oper):List Nat->List Oper
 | []=>[]
 | i::r=>match l[i]? with
   | some o=>o::IE l r
   | none=>IE l r
theorem AIX {ops:Array Oper}{L:List Nat}{listed:Array Bool}(hL:LS ops L listed){i:Nat}{x:Oper}(hi:ops[i]?=some x)(h0:L.contains i=false)(he:AHM x L=true):i∈Region.ready .any ops listed:=by
 have hlt:i<ops.size:=(Array.getElem?_eq_some_iff.1 hi).1;rw[mem_ready];refine⟨by rw[hL.getD hlt,h0],x,hi,fun e hm hb=>?_⟩;have:=zQ.1 he e (by simpa using hm);rw[hb] at this;have h1:L.contains e.on=true:=by simpa using this
 have h2:e.on∈L:=by simpa [List.contains_eq_mem] using h1
 rw[hL.getD (hL.lt _ h2),h1]
def allIn (L:List Nat):Nat->List Oper->Bool
 | _,[]=>true
 | k,_::l=>L.contains k&&allIn L (k+1) l
theorem AEH {L:List Nat}:∀ {l:List Oper} {k:Nat},allIn L k l=true->∀n,n<l.length->L.contains (k+n)=true
 | [],_,_,n,h=>by simp at h
 | _::l,k,ha,n,hn=>by
   unfold allIn at ha;rw[zB] at ha
   cases n with
   | zero=>exact ha.1
   | succ n =>
     have:=AEH ha.2 n (by simpa using hn);rw[show k+1+n=k+(n+1) by omega] at this;exact this
theorem ready_nil {ops:Array Oper}{L:List Nat}{listed:Array Bool}(hL:LS ops L listed)(ha:allIn L 0 ops.toList=true):Region.ready .any ops listed=[]:=by
 rw[List.eq_nil_iff_forall_not_mem];intro k hk;obtain⟨h1,z,h2,_⟩:=mem_ready.1 hk;have hlt:k<ops.size:=(Array.getElem?_eq_some_iff.1 h2).1;rw[hL.getD hlt] at h1;have:=AEH ha k (by simpa using hlt);rw[jG,h1] at this; cases this
theorem ABT {E:Env}{md:Nat->Bool}{sep:List (Nat×Nat)}{ops:Array Oper}{K:Fr->Hp->Prop}{F:Fr}{h:Hp}(hl:AR9 md sep ops=true)(hok:AC3 sep ops.toList=true)(hs:VY F sep)(hD:D E md (ops.toList.map (·.dst)) ops.toList F h K) :
  anyA E md ops (fun s=>K s.1 s.2) ops.size (Array.replicate ops.size false) (F,h):=by
 have:=AKH (E:=E) (md:=md) (sep:=sep) (ops:=ops) (K:=K) hok hl ops.toList 0 (Array.replicate ops.size false) F h (by simp) ⟨by simp,fun j hj=>by simp [hj]⟩ hs hD;simpa using this

theorem OL {E:Env}{own:Bool}{op:Op}{F:Fr}{h:Hp}{K K':AV->Hp->Prop}(hk:∀v h,K v h->K' v h)(ha:MQ E own op F h K):MQ E own op F h K':=by
 unfold MQ at *;split at ha
 .split at ha
  .rename_i hf; exact ha.mono hk
  .exact YC.mono ha hk
  .exact ha.elim
 .exact ha
 .split at ha
  .rename_i v h' he; exact hk v h' ha
  .exact ha.elim
def ANext (E:Env)(md:Nat->Bool)(ds:List (Option Tmp))(o:Oper)(s:Fr×Hp)(P:Fr×Hp->Prop):Prop :=
 (KO ds s.1 o.guard=some true∧MQ E (md (o.dst.getD 0)) o.op s.1 s.2 fun v h'=>P (EY s.1 o.dst v,h')) ∨
 (KO ds s.1 o.guard=some false∧P (EY s.1 o.dst IQ,s.2))
theorem ANext.mono {E:Env}{md:Nat->Bool}{ds:List (Option Tmp)}{o:Oper}{s:Fr×Hp}{P P':Fr×Hp->Prop}(hp:∀s,P s->P' s)(h:ANext E md ds o s P):ANext E md ds o s P':=by
 rcases h with⟨h1,h2⟩|⟨h1,h2⟩
 .exact .inl ⟨h1,OL (fun v h' hv=>hp _ hv) h2⟩
 .exact .inr ⟨h1,hp _ h2⟩
theorem AStep.next {E:Env}{md:Nat->Bool}{ds:List (Option Tmp)}{o:Oper}{s s':Fr×Hp}{P:Fr×Hp->Prop}(h:AStep E md ds o s s')(hp:P s'):ANext E md ds o s P:=by
 rcases h with⟨h1,v,h',h2,rfl⟩|⟨h1,rfl⟩
 .exact .inl ⟨h1,h2.exec hp⟩
 .exact .inr ⟨h1,hp⟩
def U9 (E:Env)(md:Nat->Bool)(ops:Array Oper)(Q:Fr×Hp->Prop):Nat->Array Bool->Fr×Hp->Prop
 | 0,listed,s=>Region.ready .any ops listed=[]∧Q s
 | fuel+1,listed,s=>(Region.ready .any ops listed=[]->Q s) ∧
   ∀i∈Region.ready .any ops listed,∃o,ops[i]?=some o∧ANext E md (ops.toList.map (·.dst)) o s fun s'=>U9 E md ops Q fuel (listed.setIfInBounds i true) s'
theorem anyA.toN {E:Env}{md:Nat->Bool}{ops:Array Oper}{Q:Fr×Hp->Prop}:∀ {fuel:Nat} {listed:Array Bool} {s:Fr×Hp},anyA E md ops Q fuel listed s->U9 E md ops Q fuel listed s
 | 0,_,_,h=>h
 | fuel+1,_,_,h=>⟨h.1,fun i hi=>by
   obtain⟨o,s',h1,h2,h3⟩:=h.2 i hi
   exact⟨o,h1,h2.next (anyA.toN h3)⟩⟩
theorem AGD {E:Env}{md:Nat->Bool}{ops:Array Oper}{Q Q':Fr×Hp->Prop}(hq:∀s,Q s->Q' s):∀(fuel:Nat) (listed:Array Bool) (s:Fr×Hp),U9 E md ops Q fuel listed s->U9 E md ops Q' fuel listed s
 | 0,_,_,h=>⟨h.1,hq _ h.2⟩
 | fuel+1,_,_,h=>⟨fun h0=>hq _ (h.1 h0),fun i hi=>by
   obtain⟨o,h1,h2⟩:=h.2 i hi
   exact⟨o,h1,h2.mono fun s' hs=>AGD hq fuel _ _ hs⟩⟩
theorem XF {ρ:Option Nat}{E:Env}{md:Nat->Bool}{n:Nat}{ops:Array Oper}{Q:Exit->Act->World->Prop}{K:Fr×Hp->Prop}{g0:Gh}(hd:∀(i:Nat) (o:Oper),ops[i]?=some o->∀d,o.dst=some d->d<n)
  (hk:∀F' h' g' a' w',K (F',h')->g0.le g'->Sim E n g' F' h' a' w'->Q .normal a' w')
  (hp:∀u h' g' a' w',E.X u h'->g0.le g'->SimH E g' h' w'->a'.defers=[]->Q (.panic [{ v:=u,recovered:=false }]) a' w'):∀(fuel:Nat) (listed:Array Bool) (F:Fr) (h:Hp) (g:Gh) (a:Act) (w:World),
  U9 E md ops K fuel listed (F,h)->g0.le g->Sim E n g F h a w->wpAnyIn (FW ρ) 0 E.P .any ops Q fuel listed a w
 | 0,_,F,h,g,a,w,hA,hg,s=>⟨hA.1,hk F h g a w hA.2 hg s⟩
 | fuel+1,listed,F,h,g,a,w,hA,hg,s=>by
   refine⟨fun h0=>hk F h g a w (hA.1 h0) hg s,fun i hi=>?_⟩;obtain⟨o,ho,hst⟩:=hA.2 i hi;unfold wpOpIn;simp only[ho];rcases hst with⟨a1,a2⟩|⟨a1,hrest⟩
   .rw[XG (o:=o) s a1]
    simp only[if_true];refine(ADW a2 s ?_ fun u h' hx g' w' hle hH hds=>hp u h' g' a w' hx (hg.trans hle) hH hds);intro v' h' hrest g' w' cv hle hH hr;exact XF hd hk hp fuel _ _ _ _ _ _ hrest (hg.trans hle) (s.put (hd i o ho) hle hH hr)
   .rw[XG (o:=o) s a1]
    simp only[jQ,if_false];refine⟨fun _ _=>trivial,?_⟩;exact XF hd hk hp fuel _ _ _ _ _ _ hrest hg (s.put (hd i o ho) (Gh.le.refl g) s.simH (Rep.undef g))
def TL (l:List Oper)(n:Nat):Bool:=l.all fun o=>match o.guard with
 | none=>true
 | some (j,_)=>Nat.blt j n
def XQ (init:List Oper)(last:Oper):Bool :=
 W9 (init++[last]) 0&&TL init init.length&&(match (ABD (init++[last]) [])[init.length]? with|some m=>(List.range init.length).all (fun k=>m.testBit k)|none=>false)
theorem AMZ {init:List Oper}{last:Oper}{o:Oper}(F:Fr)(hg:TL init init.length=true)(ho:o∈init):KO ((init++[last]).map (·.dst)) F o.guard=KO (init.map (·.dst)) F o.guard:=by
 have h1:=zQ.1 hg o ho
 cases hgd:o.guard with
 | none=>rfl
 | some jw =>
   obtain⟨j,wn⟩:=jw;rw[hgd] at h1;have hj:j<init.length:=by simpa [Nat.blt_eq] using h1
   have e:AB4 ((init++[last]).map (·.dst)) j=AB4 (init.map (·.dst)) j:=by
    rw[ZB,ZB,zS hj]
   unfold KO;simp only[e]
theorem AH8 {init:List Oper}{last:Oper}{o:Oper}{F:Fr}{r:Bool}(hg:TL init init.length=true)(ho:o∈init)(h:KO (init.map (·.dst)) F o.guard=some r):KO ((init++[last]).map (·.dst)) F o.guard=some r:=by
 rw[AMZ F hg ho]; exact h
theorem AH1 {E:Env}{md:Nat->Bool}{init:List Oper}{last:Oper}{K:Fr->Hp->Prop}(hg:TL init init.length=true):∀(l:List Oper),(∀o∈l,o∈init)->∀(F:Fr) (h:Hp),D E md ((init++[last]).map (·.dst)) l F h K->D E md (init.map (·.dst)) l F h K
 | [],_,F,h,hd=>hd
 | o::r,hm,F,h,hd=>by
   simp only[D] at hd|-;rw[AMZ F hg (hm o (by simp))] at hd;split at hd
   .exact⟨fun hc=>let ⟨v,h',h1,h2⟩:=hd.1 hc; ⟨v,h',h1,AH1 hg r (fun x hx=>hm x (by simp [hx])) _ _ h2⟩,fun hc=>AH1 hg r (fun x hx=>hm x (by simp [hx])) _ _ (hd.2 hc)⟩
   .exact hd.elim
def Closed (ops:Array Oper)(listed:Array Bool):Prop:=∀j o,ops[j]?=some o->listed.getD j false=true->∀e∈o.after,Region.binds .any e=true->listed.getD e.on false=true
section
variable {E:Env} {md:Nat->Bool} {init:List Oper} {last:Oper} {Q:Fr×Hp->Prop}
theorem AEF (hok:XQ init last=true):∀(fuel:Nat) (listed:Array Bool) (s:Fr×Hp),listed.size=init.length->Closed init.toArray listed ->
  U9 E md init.toArray (fun s=>ANext E md ((init++[last]).map (·.dst)) last s Q) fuel listed s->U9 E md (init++[last]).toArray Q (fuel+1) (listed.push false) s:=by
 simp only[XQ,zB] at hok;obtain⟨⟨hlow,hgl⟩,hanc⟩:=hok;have hlow':=hlow;have hget:∀i,i<init.length->(init++[last]).toArray[i]?=init.toArray[i]? := fun i hi=>by simp [zS hi]
 have hlast:(init++[last]).toArray[init.length]?=some last:=by simp
 have hpush:∀(listed:Array Bool) (i:Nat),listed.size=init.length->i<init.length->(listed.push false).getD i false=listed.getD i false:=fun listed i hs hi=>by
  rw[Array.getD_eq_getD_getElem?,Array.getD_eq_getD_getElem?,Array.getElem?_push_lt (by omega)];simp [hs,hi]
 have hpushT:∀(listed:Array Bool) (i:Nat),listed.size=init.length->i<init.length->(listed.push false).getD i true=listed.getD i true:=fun listed i hs hi=>by
  rw[Array.getD_eq_getD_getElem?,Array.getD_eq_getD_getElem?,Array.getElem?_push_lt (by omega)];simp [hs,hi]
 have hlowE:∀i o,init[i]?=some o->∀e∈o.after,Region.binds .any e=true->e.on<i:=fun i o ho e he hb=>by
  have hi:=CB ho;have:=PN hlow i o (by rw[zS hi]; exact ho) e he hb;omega
 -- the first operations are ready in both
 have hrd:∀(listed:Array Bool) (i:Nat),listed.size=init.length->i<init.length->i∈Region.ready .any (init++[last]).toArray (listed.push false)->i∈Region.ready .any init.toArray listed:=fun listed i hs hi hr=>by
  obtain⟨h1,z,h2,h3⟩:=mem_ready.1 hr;rw[hget i hi] at h2;refine mem_ready.2 ⟨by rw[<-hpushT listed i hs hi]; exact h1,z,h2,fun e he hb=>?_⟩;have hlt:=hlowE i z (by simpa using h2) e he hb;rw[<-hpush listed e.on hs (by omega)];exact h3 e he hb
 -- nothing is ready: all are listed
 have hall:∀(listed:Array Bool),listed.size=init.length->Region.ready .any init.toArray listed=[]->∀i,i<init.length->listed.getD i false=true:=fun listed hs hr i=>by
  induction i using Nat.strongRecOn with
  | _ i ih =>
    intro hi;rcases Bool.eq_false_or_eq_true (listed.getD i false) with h|h
    .exact h
    exfalso;have hx:init.toArray[i]?=some init[i]:=by simp [hi]
    have:i∈Region.ready .any init.toArray listed:=mem_ready.2 ⟨by
     rw[Array.getD_eq_getD_getElem?] at h|-;have:∃b,listed[i]?=some b:=⟨listed[i]'(by omega),by simp [hs,hi]⟩
     obtain⟨b,hb⟩:=this;rw[hb] at h|-; simpa using h,_,hx,fun e he hb=>by
     have hlt:=hlowE i _ (by simp [hi]) e he hb
     exact ih e.on hlt (by omega)⟩
    rw[hr] at this; cases this
 -- the last is ready: all are listed
 have hlistd:∀(listed:Array Bool),listed.size=init.length->Closed init.toArray listed->init.length∈Region.ready .any (init++[last]).toArray (listed.push false)->∀i,i<init.length->listed.getD i false=true:=fun listed hs hcl hr i hi=>by
  obtain⟨_,z,h2,h3⟩:=mem_ready.1 hr;rw[hlast] at h2; cases h2
  have hw:OC (init++[last]).toArray i init.length=true:=by
   unfold OC;rw[zM]
   cases hm:(ABD (init++[last]) [])[init.length]? with
   | none=>rw[hm] at hanc; cases hanc
   | some m =>
     rw[hm] at hanc;have:=zQ.1 hanc i (by simpa using hi);simpa using this
  have key:∀(j:Nat),OC (init++[last]).toArray i j=true->(∀o,(init++[last]).toArray[j]?=some o->∀e∈o.after,Region.binds .any e=true->listed.getD e.on false=true)->listed.getD i false=true:=by
   intro j
   induction j using Nat.strongRecOn with
   | _ j ih =>
     intro hwj hj;have hjl:=V5 hwj;obtain⟨e,he,hb,hlt,h7⟩:=SE (ops:=(init++[last]).toArray) hlow' (show(init++[last]).toArray[j]?=some (init++[last]).toArray[j] by simp) hwj;have hle:=hj _ (by simp) e he hb;rcases h7 with h7|h7
     .rw[<-h7]; exact hle
     .have heon:e.on<init.length:=by
       have:(init++[last]).toArray.size=init.length+1:=by simp
       omega
      exact ih e.on hlt h7 fun o ho e' he' hb'=>by
       rw[hget e.on heon] at ho;exact hcl e.on o ho hle e' he' hb'
  refine key init.length hw fun o ho e he hb=>?_
  rw[hlast] at ho; cases ho;have hlt:=PN hlow init.length last (by simp) e he hb;have:=h3 e he hb;rw[hpush listed e.on hs (by omega)] at this;exact this
 -- when all are listed only the last is left
 have hfin:∀(fuel:Nat) (listed:Array Bool) (s:Fr×Hp),listed.size=init.length->Closed init.toArray listed->(∀i,i<init.length->listed.getD i false=true)->ANext E md ((init++[last]).map (·.dst)) last s Q->U9 E md (init++[last]).toArray Q (fuel+1) (listed.push false) s:=fun fuel listed s hs hcl hal hA=>by
  have hlr:init.length∈Region.ready .any (init++[last]).toArray (listed.push false):=mem_ready.2 ⟨by
   rw[Array.getD_eq_getD_getElem?,<-hs]; simp,last,hlast,fun e he hb=>by
   have hlt:=PN hlow init.length last (by simp) e he hb;rw[hpush listed e.on hs (by omega)]
   exact hal e.on (by omega)⟩
  refine⟨fun h0=>(by rw[h0] at hlr; cases hlr),fun i hi=>?_⟩;obtain⟨h1,z,h2,_⟩:=mem_ready.1 hi;have hil:i<init.length+1:=by have:=(Array.getElem?_eq_some_iff.1 h2).1; simpa using this
  have hie:i=init.length:=by
   rcases jY i init.length with h|h
   .rw[hpushT listed i hs h] at h1
    have:=hal i h;rw[Array.getD_eq_getD_getElem?] at this h1;have hb:∃b,listed[i]?=some b:=⟨listed[i]'(by omega),by simp [hs,h]⟩
    obtain⟨b,hb⟩:=hb;rw[hb] at this h1;simp at this h1;rw[this] at h1; cases h1
   .omega
  subst hie;refine⟨last,hlast,?_⟩
  have hnone:Region.ready .any (init++[last]).toArray ((listed.push false).setIfInBounds init.length true)=[]:=by
   rw[List.eq_nil_iff_forall_not_mem];intro k hk;obtain⟨k1,z',k2,_⟩:=mem_ready.1 hk;have hkl:k<init.length+1:=by have:=(Array.getElem?_eq_some_iff.1 k2).1; simpa using this
   rcases jY k init.length with h|h
   .have e:((listed.push false).setIfInBounds init.length true).getD k true=listed.getD k true:=by
     rw[<-hpushT listed k hs h,Array.getD_eq_getD_getElem?,Array.getD_eq_getD_getElem?,Array.getElem?_setIfInBounds_ne (by omega)]
    rw[e] at k1;have:=hal k h;rw[Array.getD_eq_getD_getElem?] at this k1;obtain⟨b,hb⟩:∃b,listed[k]?=some b:=⟨listed[k]'(by omega),by simp [hs,h]⟩
    rw[hb] at this k1;simp at this k1;rw[this] at k1; cases k1
   .have hke:k=init.length:=by omega
    subst hke;rw[Array.getD_eq_getD_getElem?,Array.getElem?_setIfInBounds_self_of_lt (by simp [hs])] at k1;simp at k1
  have hds:(init++[last]).toArray.toList.map (·.dst)=(init++[last]).map (·.dst):=by simp
  rw[hds];refine hA.mono fun s' hq=>?_
  cases fuel with
  | zero=>exact⟨hnone,hq⟩
  | succ f=>exact⟨fun _=>hq,fun k hk=>by rw[hnone] at hk; cases hk⟩
 intro fuel
 induction fuel with
 | zero =>
   intro listed s hs hcl hA;exact hfin 0 listed s hs hcl (hall listed hs hA.1) hA.2
 | succ fuel ih =>
   intro listed s hs hcl hA;by_cases h0:Region.ready .any init.toArray listed=[]
   .exact hfin (fuel+1) listed s hs hcl (hall listed hs h0) (hA.1 h0)
   refine⟨fun hn=>?_,fun i hi=>?_⟩
   .exfalso
    refine h0 ?_;rw[List.eq_nil_iff_forall_not_mem];intro k hk;obtain⟨k1,z,k2,k3⟩:=mem_ready.1 hk;have hkl:k<init.length:=by have:=(Array.getElem?_eq_some_iff.1 k2).1; simpa using this
    have:k∈Region.ready .any (init++[last]).toArray (listed.push false):=mem_ready.2 ⟨by rw[hpushT listed k hs hkl]; exact k1,z,by rw[hget k hkl]; exact k2,fun e he hb=>by
     have hlt:=hlowE k z (by simpa using k2) e he hb;rw[hpush listed e.on hs (by omega)]
     exact k3 e he hb⟩
    rw[hn] at this; cases this
   .obtain⟨i1,z,i2,_⟩:=mem_ready.1 hi
    have hil:i<init.length+1:=by have:=(Array.getElem?_eq_some_iff.1 i2).1; simpa using this
    have hin:i<init.length:=by
     rcases jY i init.length with h|h
     .exact h
     .exfalso
      have hie:i=init.length:=by omega
      subst hie;have hal:=hlistd listed hs hcl hi;refine h0 ?_;rw[List.eq_nil_iff_forall_not_mem];intro k hk;obtain⟨k1,z',k2,_⟩:=mem_ready.1 hk;have hkl:k<init.length:=by have:=(Array.getElem?_eq_some_iff.1 k2).1; simpa using this
      have:=hal k hkl;rw[Array.getD_eq_getD_getElem?] at this k1;obtain⟨b,hb⟩:∃b,listed[k]?=some b:=⟨listed[k]'(by omega),by simp [hs,hkl]⟩
      rw[hb] at this k1;simp at this k1;rw[this] at k1; cases k1
    have hri:=hrd listed i hs hin hi;obtain⟨o,ho,hst⟩:=hA.2 i hri;refine⟨o,by rw[hget i hin]; exact ho,?_⟩
    have ho':o∈init:=by
     have:init[i]?=some o:=by simpa using ho
     exact zV this
    have hds1:(init++[last]).toArray.toList.map (·.dst)=(init++[last]).map (·.dst):=by simp
    have hds2:init.toArray.toList.map (·.dst)=init.map (·.dst):=by simp
    rw[hds1];rw[hds2] at hst
    have hst':ANext E md ((init++[last]).map (·.dst)) o s fun s'=>U9 E md init.toArray (fun s=>ANext E md ((init++[last]).map (·.dst)) last s Q) fuel (listed.setIfInBounds i true) s':=by
     rcases hst with⟨a1,a2⟩|⟨a1,a2⟩
     .exact .inl ⟨AH8 hgl ho' a1,a2⟩
     .exact .inr ⟨AH8 hgl ho' a1,a2⟩
    refine hst'.mono fun s' hrest=>?_
    have hpe:(listed.push false).setIfInBounds i true=(listed.setIfInBounds i true).push false:=by
     apply Array.ext_getElem?;intro k;rw[Array.getElem?_setIfInBounds,Array.getElem?_push,Array.getElem?_push,Array.getElem?_setIfInBounds];simp only[Array.size_push,Array.size_setIfInBounds];by_cases hki:i=k
     .subst hki
      simp [hs,hin,show i≠init.length by omega,show i<init.length+1 by omega]
     .simp [hki]
    rw[hpe];refine ih _ s' (by simpa using hs) (fun j oj hj hlj e he hb=>?_) hrest;have hjl:j<init.length:=by have:=(Array.getElem?_eq_some_iff.1 hj).1; simpa using this
    have up:∀k,listed.getD k false=true->(listed.setIfInBounds i true).getD k false=true:=fun k hk=>by
     rw[Array.getD_eq_getD_getElem?,Array.getElem?_setIfInBounds];split
     .split<;>simp_all
     .rw[<-Array.getD_eq_getD_getElem?]; exact hk
    by_cases hji:i=j
    .subst hji
     rw[ho] at hj; cases hj;obtain⟨_,z',z2,z3⟩:=mem_ready.1 hri;rw[ho] at z2; cases z2;exact up _ (z3 e he hb)
    .refine up _ (hcl j oj hj ?_ e he hb)
     rw[Array.getD_eq_getD_getElem?,Array.getElem?_setIfInBounds_ne hji,<-Array.getD_eq_getD_getElem?] at hlj;exact hlj
theorem AQB (hok:XQ init last=true)(fuel:Nat)(listed:Array Bool)(s:Fr×Hp)(hs:listed.size=init.length)(hc:Closed init.toArray listed)
 (hA:anyA E md init.toArray (fun s=>ANext E md ((init++[last]).map (·.dst)) last s Q) fuel listed s):U9 E md (init++[last]).toArray Q (fuel+1) (listed.push false) s:=AEF hok fuel listed s hs hc hA.toN
end

inductive AEx where
 | normal|exit (id:Nat)|ret
def AEx.to:AEx->Exit
 | .normal=>.normal
 | .exit id=>.exit id
 | .ret=>.ret
def YN (next:Fr->Hp->Prop)(Q:AEx->Fr->Hp->Prop):AEx->Fr->Hp->Prop
 | .normal,F,h=>next F h
 | .exit id,F,h=>Q (.exit id) F h
 | .ret,F,h=>Q .ret F h
def Q5 (id:Nat)(Q:AEx->Fr->Hp->Prop):AEx->Fr->Hp->Prop
 | .normal,F,h=>Q .normal F h
 | .exit i,F,h=>if i=id then Q .normal F h else Q (.exit i) F h
 | .ret,F,h=>Q .ret F h
def AQX (F:Fr):List Tmp->List AV->Fr
 | p::ps,v::vs=>AQX (upd F p v) ps vs
 | _,_=>F
def Iter (E:Env)(f:FuncId)(caps:List AV)(N:Nat)(xs:Nat->List AV)(I:Nat->Hp->Prop):Prop :=
 ∀(l:Nat) (g0:Gh),(∀k h,k<N->I k h->YC (E.know g0) l (xs k) h fun v h'=>v=.bool true∧I (k+1) h')->∀h,I 0 h->ACalls (E.know g0) f (.fn (.yield l) [] []::caps) h fun _ h'=>I N h'
def GSt (E:Env)(h h':Hp):Prop:=∀(g:Gh) (w:World),SimH E g h w->∃g',g.le g'∧SimH E g' h' w
def ABZ:Code->Bool
 | .seq a b=>ABZ a&&ABZ b
 | .block _ b=>ABZ b
 | .cond _ a b=>ABZ a&&ABZ b
 | .loop b=>ABZ b
 | .rangeFunc _ _ _ _=>false
 | _=>true
def awp (E:Env)(H:Hint):Code->Fr->Hp->(AEx->Fr->Hp->Prop)->Prop
 | .skip,F,h,Q=>Q .normal F h
 | .label _,F,h,Q=>Q .normal F h
 | .ret,F,h,Q=>Q .ret F h
 | .exit id,F,h,Q=>Q (.exit id) F h
 | .seq a b,F,h,Q=>awp E H a F h (YN (fun F h=>awp E H b F h Q) Q)
 | .block id b,F,h,Q=>awp E H b F h (Q5 id Q)
 | .cond c a b,F,h,Q=>match ev E F c with
   | .bool t=>(t=true->awp E H a F h Q)∧(t=false->awp E H b F h Q)
   | _=>False
 | .loop b,F,h,Q=>∃I:Nat->Fr->Hp->Prop,(∃n,I n F h)∧∀n F h,I n F h->awp E H b F h (YN (fun F' h'=>∃m,m<n∧I m F' h') Q)
 | .region _ ops draw,F,h,Q=>match draw with
   | false=>W E H (ops.toList.map (·.dst)) ops.toList F h (Q .normal)
   | true=>U9 E H.md ops (fun s=>Q .normal s.1 s.2) ops.size (Array.replicate ops.size false) (F,h)
 | .rangeFunc gf ps asg body,F,h,Q=>(∀u h,¬E.X u h)∧(ABZ asg&&ABZ body)=true∧∃(f:FuncId) (caps:List AV) (N:Nat) (xs:Nat->List AV) (I:Nat->Hp->Prop),ev E F gf=.fn (.func f) [] caps∧Iter E f caps N xs I∧I 0 h ∧
  (∀k h',k<N->I k h'->(xs k).length=ps.size∧awp E H asg (AQX F ps.toList (xs k)) h' (YN (fun F1 h1=>awp E H body F1 h1 (YN (fun _ h2=>∃h3,GSt E h2 h3∧I (k+1) h3) fun _ _ _=>False)) fun _ _ _=>False))∧∀h',I N h'->Q .normal F h'
 | _,_,_,_=>False
def RH (n:Nat):Code->Bool
 | .seq a b=>RH n a&&RH n b
 | .block _ b=>RH n b
 | .cond _ a b=>RH n a&&RH n b
 | .loop b=>RH n b
 | .rangeFunc _ ps a b=>RH n a&&RH n b&&ps.all fun p=>decide (p<n)
 | .region _ ops _=>ops.toList.all fun o=>match o.dst with
   | some d=>decide (d<n)
   | none=>true
 | _=>true
def After (E:Env)(n:Nat)(g:Gh)(Q:AEx->Fr->Hp->Prop)(e:Exit)(a:Act)(w:World):Prop :=
 (∃x g' F h,e=x.to∧Q x F h∧g.le g'∧Sim E n g' F h a w)∨∃u g' h,e=.panic [{ v:=u,recovered:=false }]∧E.X u h∧g.le g'∧SimH E g' h w∧a.defers=[]
theorem YD {E:Env}{n:Nat}{g:Gh}{next:Fr->Hp->Prop}{Q:AEx->Fr->Hp->Prop}{e:Exit}{a:Act}{w:World}{k:Act->World->Prop}{Q':Exit->Act->World->Prop}(h:After E n g (YN next Q) e a w)
  (h1:∀F h g',next F h->g.le g'->Sim E n g' F h a w->k a w) (h2:After E n g Q e a w->e≠.normal->Q' e a w):Exit.then k Q' e a w:=by
 rcases h with⟨x,g',F,hp,rfl,hq,hg,s⟩|⟨u,g',h',rfl,hx,hg,S,hd⟩
 .cases x with
  | normal=>exact h1 F hp g' hq hg s
  | exit id=>exact h2 (.inl ⟨.exit id,g',F,hp,rfl,hq,hg,s⟩) (by simp [AEx.to])
  | ret=>exact h2 (.inl ⟨.ret,g',F,hp,rfl,hq,hg,s⟩) (by simp [AEx.to])
 .exact h2 (.inr ⟨u,g',h',rfl,hx,hg,S,hd⟩) (by simp)
theorem After.mono_g {E:Env}{n:Nat}{g g1:Gh}{Q:AEx->Fr->Hp->Prop}{e:Exit}{a:Act}{w:World}(hg:g.le g1)(h:After E n g1 Q e a w):After E n g Q e a w:=by
 rcases h with⟨x,g',F,hp,e1,hq,h1,s⟩|⟨u,g',h',e1,hx,h1,S,hd⟩
 .exact .inl ⟨x,g',F,hp,e1,hq,hg.trans h1,s⟩
 .exact .inr ⟨u,g',h',e1,hx,hg.trans h1,S,hd⟩
theorem AWP {n:Nat}{ops:Array Oper}(h:(ops.toList.all fun o=>match o.dst with|some d=>decide (d<n)|none=>true)=true):∀o∈ops.toList,∀d,o.dst=some d->d<n:=by
 intro o ho d hd;rw[zQ] at h;have:=h o ho;rw[hd] at this;simpa using this
def Gh.putM (g:Gh)(l:Nat)(o:Option Obj):Gh := { g with M:=fun x=>if x=l then o else g.M x }
theorem Gh.putM_eq (g:Gh)(l:Nat)(o:Option Obj):(g.putM l o).M l=o:=by simp [Gh.putM]
theorem Gh.putM_ne (g:Gh){l k:Nat}(o:Option Obj)(h:k≠l):(g.putM l o).M k=g.M k:=by simp [Gh.putM,h]
theorem AC8 {g:Gh}{l:Nat}{o:Obj}(ho:g.M l=some o)(hc:∀c e fz,o≠.cells c e fz)(o':Option Obj)(k:Nat)(c:Array Value)(e:TypeId)(fz:Nat×Nat)(hk:g.M k=some (.cells c e fz)):(g.putM l o').M k=some (.cells c e fz):=by
 rw[g.putM_ne o' (fun q=>by subst q; rw[ho] at hk; cases hk; exact hc _ _ _ rfl)]; exact hk
theorem Rep.putM {g:Gh}{l:Nat}{o:Obj}(ho:g.M l=some o)(hc:∀c e fz,o≠.cells c e fz)(o':Option Obj){v:AV}{cv:Value}(h:Rep g v cv):Rep (g.putM l o') v cv :=
 h.monoC (AC8 ho hc o') fun _ _ h=>h
theorem SimH.putM {E E':Env}{g:Gh}{h:Hp}{w:World}(S:SimH E g h w){l:Nat}{o:Obj}(ho:g.M l=some o)(hc:∀c e fz,o≠.cells c e fz)(o1:Obj)(o':Option Obj)(h1:o'=some o1∨o'=none)
  (hG:E'.G=E.G) (hL:∀g0,E'.L=some g0->g0.leM (g.putM l o')):SimH E' (g.putM l o') h (w.putObj l o1):=by
 have hw:=S.fro _ _ ho;have hlt:l<w.heap.size:=(Array.getElem?_eq_some_iff.1 hw).1;refine⟨S.os,S.tape,S.output,fun k x hk=>?_,hL,fun b k xs hb=>?_,fun b x hb hi=>?_,S.inj,S.fresh,fun n=>hG▸(S.glob n).monoC (AC8 ho hc o')⟩
 .by_cases e:k=l
  .subst e
   rw[g.putM_eq] at hk;rcases h1 with h1|h1
   .rw[h1] at hk; cases hk; exact World.putObj_heap_same hlt
   .rw[h1] at hk; cases hk
  .rw[g.putM_ne _ e] at hk
   rw[World.putObj_heap_other e]; exact S.fro k x hk
 .obtain⟨lc,c,e,q1,q2,q3,q4,q5,q6,q7,q8⟩:=S.live b k xs hb
  have hne:lc.cb≠l:=fun q=>by rw[q,ho] at q3; cases q3
  exact⟨lc,c,e,q1,q2,(g.putM_ne _ hne).trans q3,(World.putObj_heap_other hne).trans q4,q5,q6,q7,fun i j row v r1 r2=>let ⟨cv,s1,s2⟩:=q8 i j row v r1 r2; ⟨cv,s1,s2.putM ho hc o'⟩⟩
 .obtain⟨lc,ob,q1,q2,q3,q4,q5,q6⟩:=S.obj b x hb hi
  have hne:lc.cb≠l:=fun q=>by rw[q,ho] at q4; cases q4
  exact⟨lc,ob,q1,q2,q3,(g.putM_ne _ hne).trans q4,(World.putObj_heap_other hne).trans q5,q6.mono fun _ _ r=>r.putM ho hc o'⟩
theorem SimH.env {E E':Env}{g:Gh}{h:Hp}{w:World}(S:SimH E g h w)(hG:E'.G=E.G)(hL:∀g0,E'.L=some g0->g0.leM g):SimH E' g h w:=⟨S.os,S.tape,S.output,S.fro,hL,S.live,S.obj,S.inj,S.fresh,fun n=>hG▸S.glob n⟩
def Gh.reB (g:Gh)(b:Nat->Option Obj):Gh := { g with B:=b }
theorem Rep.reB {g:Gh}(b:Nat->Option Obj){v:AV}{cv:Value}(h:Rep g v cv):Rep (g.reB b) v cv:=Rep.monoC (g:=g) (g':=g.reB b) (fun _ _ _ _ h=>h) (fun _ _ h=>h) h
theorem SimH.reB {E:Env}{g:Gh}{h:Hp}{w:World}(S:SimH E g h w)(b:Nat->Option Obj):SimH E (g.reB b) h w :=
 ⟨S.os,S.tape,S.output,S.fro,S.lo,fun b' k xs hb=>let ⟨lc,c,e,q1,q2,q3,q4,q5,q6,q7,q8⟩:=S.live b' k xs hb; ⟨lc,c,e,q1,q2,q3,q4,q5,q6,q7,fun i j row v r1 r2=>let ⟨cv,s1,s2⟩:=q8 i j row v r1 r2; ⟨cv,s1,s2.reB b⟩⟩,fun b' x hb hi=>let ⟨lc,o,q1,q2,q3,q4,q5,q6⟩:=S.obj b' x hb hi; ⟨lc,o,q1,q2,q3,q4,q5,q6.mono fun _ _ r=>r.reB b⟩,S.inj,S.fresh,S.glob⟩
theorem Marks.putM {g:Gh}{l:Nat}{o:Obj}(ho:g.M l=some o)(hd:∀x,o≠.deferred x)(o':Option Obj){ds:List Deferred}(h:Marks g ds):Marks (g.putM l o') ds:=by
 induction h with
 | nil=>exact .nil
 | cons D ds h0 h1 h2 _ ih=>exact .cons D ds h0 ((g.putM_ne _ fun q=>by subst q; rw[ho] at h1; cases h1; exact hd _ rfl).trans h1) h2 ih
theorem Marks.lt {g:Gh}{w:World}(hf:∀k o,g.M k=some o->k<w.heap.size){ds:List Deferred}(h:Marks g ds):∀d∈ds,∀D,w.heap.size<=D->d.target≠.collected D:=by
 induction h with
 | nil=>intro d hd; cases hd
 | cons D ds h0 h1 h2 _ ih =>
   intro d hd D' hD';rcases qY.1 hd with rfl|hd
   .intro e; cases e; have:=hf _ _ h1; omega
   .exact ih d hd D' hD'
theorem fold_size (ps:List (Tmp×Value)):∀t:Array Value,(ps.foldl (fun t (p,v)=>t.setIfInBounds p v) t).size=t.size:=by
 induction ps with
 | nil=>intro t; rfl
 | cons x ps ih=>intro t; rw[List.foldl_cons,ih]; simp
theorem AJN {g:Gh}{n:Nat}:∀(ps:List Tmp) (xs:List AV) (vs:List Value) (F:Fr) (t:Array Value),t.size=n->(∀p∈ps,p<n)->xs.length=ps.length->vs.length=ps.length->(∀(i:Nat) (x:AV) (v:Value),xs[i]?=some x->vs[i]?=some v->Rep g x v) ->
  (∀i,Rep g (F i) (t.getD i undef))->∀i,Rep g (AQX F ps xs i) (((ps.zip vs).foldl (fun t (p,v)=>t.setIfInBounds p v) t).getD i undef)
 | [],xs,vs,F,t,_,_,_,_,_,h=>by
   intro i;have e:AQX F [] xs=F:=by cases xs<;>rfl
   rw[e]; exact h i
 | p::ps,[],_,F,t,_,_,h1,_,_,_=>by simp at h1
 | p::ps,_::_,[],F,t,_,_,_,h2,_,_=>by simp at h2
 | p::ps,x::xs,v::vs,F,t,ht,hp,h1,h2,hr,h=>by
   refine AJN ps xs vs (upd F p x) (t.setIfInBounds p v) (by simpa using ht) (fun q hq=>hp q (by simp [hq])) (by simpa using h1) (by simpa using h2) (fun i a b q1 q2=>hr (i+1) a b (by simpa using q1) (by simpa using q2)) fun i=>?_
   have hlt:p<t.size:=ht▸hp p (by simp);simp only[upd];by_cases hi:i=p
   .subst hi
    simpa [hlt] using hr 0 x v rfl rfl
   .have:p≠i:=fun e=>hi e.symm
    rw[if_neg hi];simpa [Array.getElem?_setIfInBounds_ne this] using h i
theorem AF7 {E:Env}{H:Hint}{n:Nat}(hm:E.P.follows .mixedOrders=true):∀(c:Code) (ρ:Option Nat) (F:Fr) (h:Hp) (Q:AEx->Fr->Hp->Prop) (g:Gh) (a:Act) (w:World),
  awp E H c F h Q->RH n c=true->(ρ=none∨ABZ c=true)->Sim E n g F h a w->c.wpIn (FW ρ) 0 E.P (After E n g Q) a w:=by
 intro c
 induction c with
 | skip=>intro ρ F h Q g a w hw _ _ s; exact wpIn_skip (.inl ⟨.normal,g,F,h,rfl,hw,Gh.le.refl g,s⟩)
 | label l=>intro ρ F h Q g a w hw _ _ s; exact wpIn_label (.inl ⟨.normal,g,F,h,rfl,hw,Gh.le.refl g,s⟩)
 | ret=>intro ρ F h Q g a w hw _ _ s; exact wpIn_ret (.inl ⟨.ret,g,F,h,rfl,hw,Gh.le.refl g,s⟩)
 | exit id=>intro ρ F h Q g a w hw _ _ s; exact wpIn_exit (.inl ⟨.exit id,g,F,h,rfl,hw,Gh.le.refl g,s⟩)
 | seq x y ihx ihy =>
   intro ρ F h Q g a w hw hd hρ s;simp only[RH,ABZ,zB] at hd hρ;refine wpIn_seq (wpIn_mono (ihx ρ F h _ g a w hw hd.1 (hρ.imp id And.left) s) fun e a' w' q=>?_);exact YD q (fun F' h' g' hn hg s'=>wpIn_mono (ihy ρ F' h' Q g' a' w' hn hd.2 (hρ.imp id And.right) s') fun e a w q=>q.mono_g hg) fun q _=>q
 | block id b ih =>
   intro ρ F h Q g a w hw hd hρ s;refine wpIn_block (wpIn_mono (ih ρ F h _ g a w hw hd hρ s) fun e a' w' q=>?_);rcases q with⟨x,g',F',h',rfl,hq,hg,s'⟩|⟨u,g',h',rfl,hx,hg,S,hd⟩
   rotate_left
   .exact .inr ⟨u,g',h',rfl,hx,hg,S,hd⟩
   cases x with
   | normal=>exact .inl ⟨.normal,g',F',h',rfl,hq,hg,s'⟩
   | exit i =>
     simp only[AEx.to,Exit.inBlock,Q5] at *;split
     .rename_i hi; rw[if_pos hi] at hq; exact .inl ⟨.normal,g',F',h',rfl,hq,hg,s'⟩
     .rename_i hi; rw[if_neg hi] at hq; exact .inl ⟨.exit i,g',F',h',rfl,hq,hg,s'⟩
   | ret=>exact .inl ⟨.ret,g',F',h',rfl,hq,hg,s'⟩
 | cond c x y ihx ihy =>
   intro ρ F h Q g a w hw hd hρ s;simp only[RH,ABZ,zB] at hd hρ;simp only[awp] at hw;have hr:=XY s c;split at hw
   .rename_i t ht
    rw[ht] at hr;refine wpIn_cond hr.bool_inv ?_
    cases t with
    | true=>exact ihx ρ F h Q g a w (hw.1 rfl) hd.1 (hρ.imp id And.left) s
    | false=>exact ihy ρ F h Q g a w (hw.2 rfl) hd.2 (hρ.imp id And.right) s
   .exact hw.elim
 | loop b ih =>
   intro ρ F h Q g a w hw hd hρ s;obtain⟨I,⟨n0,h0⟩,hround⟩:=hw;refine wpIn_loop_ghost (fun k a w=>∃g' F h,I k F h∧g.le g'∧Sim E n g' F h a w) n0 ⟨g,F,h,h0,Gh.le.refl g,s⟩ ?_;rintro k a1 w1 ⟨g1,F1,h1,hI,hg1,s1⟩;refine wpIn_mono (ih ρ F1 h1 _ g1 a1 w1 (hround k F1 h1 hI) hd hρ s1) fun e a' w' q=>?_
   exact YD q (fun F' h' g' hn hg s'=>by obtain⟨m,hm1,hm2⟩:=hn; exact⟨m,hm1,g',F',h',hm2,hg1.trans hg,s'⟩) fun q _=>q.mono_g hg1
 | region id ops draw =>
   intro ρ F h Q g a w hw hd hρ s;have hdst:=AWP (n:=n) (ops:=ops) hd;simp only[awp] at hw
   cases draw with
   | false =>
     refine wpIn_region_list (AHZ (n:=n) (g0:=g) ops.toList F h g a w hw s (Gh.le.refl g) hdst (fun F' h' g' a' w' hk hg s'=>.inl ⟨.normal,g',F',h',rfl,hk,hg,s'⟩) fun u h' g' a' w' hx hg S hd=>.inr ⟨u,g',h',rfl,hx,hg,S,hd⟩)
   | true =>
     have sd:Sim E n g F h a { w with drawn:=w.drawn+1 }:=⟨s.simH.world rfl rfl rfl fun _ _=>rfl,s.defers,s.dx,s.base,s.size,s.frame⟩;refine wpIn_region_any hm ?_;refine XF (n:=n) (g0:=g) (md:=H.md) (K:=fun s=>Q .normal s.1 s.2) (fun i o ho=>hdst o ?_) (fun F' h' g' a' w' hk hg s'=>.inl ⟨.normal,g',F',h',rfl,hk,hg,s'⟩) (fun u h' g' a' w' hx hg S hd=>.inr ⟨u,g',h',rfl,hx,hg,S,hd⟩) ops.size _ F h g a _ ?_ (Gh.le.refl g) sd
     .have:ops.toList[i]?=some o:=by simpa using ho
      exact zV this
     .exact hw
 | rangeFunc gf ps asg body iha ihb =>
   intro ρ F h Q g a w hw hd hρ s;obtain⟨hX,hno,f,caps,N,xs,I,hgf,hit,hI0,hrd,hdone⟩:=hw;simp only[RH,ABZ,zB] at hd hno hρ;have hρ0:ρ=none:=hρ.resolve_right (by simp);subst hρ0;obtain⟨⟨hd1,hd2⟩,hd3⟩:=hd
   have hps:∀p∈ps.toList,p<n:=fun p hp=>by
    have:=Array.all_eq_true'.1 hd3 p (by simpa using hp);simpa using this
   have hr:=XY s gf;rw[hgf] at hr;obtain⟨first',ccaps,hfe,k1,k2,k3,k4⟩:=hr.fn_inv;have hfirst:first' = #[]:=by simpa using k1
   subst hfirst;refine wpIn_rangeFunc ?_;intro fn _;obtain⟨rec,hrec⟩:∃rec:LoopState->Loop,rec=fun st=>{ state:=st,pending:=none,fn,tmps:=a.tmps,params:=ps,assign:=asg,body,defers:=w.heap.size }:=⟨_,rfl⟩
   obtain⟨W0,hW0⟩:∃W0,w.alloc (.deferred (some []))=W0:=⟨_,rfl⟩
   obtain⟨W1,hW1⟩:∃W1,W0.alloc (.loop (rec .ready))=W1:=⟨_,rfl⟩
   have sz0:W0.heap.size=w.heap.size+1:=by rw[<-hW0]; simp
   have G0:Grew w W0 (.deferred (some [])):=by rw[<-hW0]; exact⟨rfl,rfl,rfl,rfl⟩
   have G1:Grew W0 W1 (.loop (rec .ready)):=by rw[<-hW1]; exact⟨rfl,rfl,rfl,rfl⟩
   obtain⟨S0,le0,m0⟩:=s.simH.newF G0;obtain⟨S1,le1,m1⟩:=S0.newF G1;rw[sz0] at S1 le1 m1;have hDn:g.M w.heap.size=none:=(s.simH.unowned_new (Nat.le_refl _)).2;have hln:g.M (w.heap.size+1)=none:=(s.simH.unowned_new (Nat.le_succ _)).2;obtain⟨g1,hg1⟩:∃g1,(g.freeze w.heap.size (.deferred (some []))).freeze (w.heap.size+1) (.loop (rec .ready))=g1:=⟨_,rfl⟩
   rw[hg1] at S1 le1 m1;have le01:g.le g1:=le0.trans le1;have mD:g1.M w.heap.size=some (.deferred (some [])):=le1.M _ _ m0;obtain⟨l,hl⟩:∃l,w.heap.size+1=l:=⟨_,rfl⟩
   obtain⟨D,hD⟩:∃D,w.heap.size=D:=⟨_,rfl⟩
   have hDl:D≠l:=by omega
   rw[hl] at m1 hln;rw[hD] at mD hDn;have S1':SimH (E.know g1) g1 h W1:=S1.env rfl fun g0 hk=>by cases hk; exact⟨fun _ _ x=>x,fun _ _ x=>x⟩
   have nc:∀st c e fz,Obj.loop (rec st)≠.cells c e fz:=fun _ _ _ _ q=>by cases q
   have nd:∀st x,Obj.loop (rec st)≠.deferred x:=fun _ _ q=>by cases q
   have hB:∀k o,g.B k=some o->k≠l:=fun k o hk q=>by subst q; have:=s.base _ _ hk; rw[hln] at this; cases this
   have hLl:∀g0,E.L=some g0->g0.M l=none:=fun g0 hk=>by
    cases hx:g0.M l with
    | none=>rfl
    | some x=>have:=(s.simH.lo _ hk).1 _ _ hx; rw[hln] at this; cases this
   have rounds:∀k h1,k<N->I k h1->YC (E.know g1) l (xs k) h1 fun v h'=>v=.bool true∧I (k+1) h':=by
    intro k h1 hk hI g2 w2 vs S2 hvs;obtain⟨hlen,hw⟩:=hrd k h1 hk hI;have le12:g1.leM g2:=S2.lo _ rfl;have m2:g2.M l=some (.loop (rec .ready)):=le12.1 _ _ m1;have hl2:w2.heap[l]?=some (.loop (rec .ready)):=S2.fro _ _ m2;have hvl:vs.size=ps.size:=by rw[hvs.1]; exact hlen
    have hy:=run_yield (P:=E.P) (args:=vs) hl2 (by rw[hrec]; exact hvl);rw[hrec] at hy;have le02:g.leM (g2.reB g.B):=le01.toM.trans le12
    have sd2:Sim E n (g2.reB g.B) (AQX F ps.toList (xs k)) h1 { tmps:=(ps.zip vs).foldl (fun tmps (t,a)=>tmps.setIfInBounds t a) a.tmps,defers:=[] } w2:=by
     refine⟨(S2.reB g.B).env rfl fun g0 hk=>(s.simH.lo _ hk).trans le02,.nil,.inl rfl,fun k o hk=>le02.1 _ _ (s.base _ _ hk),?_,?_⟩
     .rw[<-Array.foldl_toList,fold_size]; exact s.size
     .rw[<-Array.foldl_toList,Array.toList_zip]
      exact AJN ps.toList (xs k) vs.toList F a.tmps s.size hps (by simpa using hlen) (by simpa using hvl) (fun i x v p q=>(hvs.2 i x v p (by simpa using q)).reB g.B) fun i=>(s.frame i).monoC (fun _ _ _ _ h=>le02.1 _ _ h) le02.2
    refine⟨fn,_,asg,body,hy,roundIn_of_wpIn trivial ?_⟩;refine wpIn_mono (iha (some l) _ h1 _ (g2.reB g.B) _ w2 hw hd1 (.inr hno.1) sd2) fun e a3 w3 q=>?_
    refine YD q (fun F3 h3 g3 hb le23 s3=>?_) fun q hne=>?_
    .have m3:g3.M l=some (.loop (rec .ready)):=le23.M _ _ m2
     have hl3:w3.heap[l]?=some (.loop (rec .ready)):=s3.simH.fro _ _ m3;obtain⟨bz,hbz⟩:∃bz,Obj.loop (rec .busy)=bz:=⟨_,rfl⟩
     have m4:(g3.putM l (some bz)).M l=some bz:=g3.putM_eq l _;have hB3:g3.B=g.B:=le23.B
     have s4:Sim E n (g3.putM l (some bz)) F3 h3 a3 (w3.putObj l bz):=by
      refine⟨s3.simH.putM m3 (nc _) bz _ (.inl rfl) rfl fun g0 hk=>?_,s3.defers.putM m3 (nd _) _,.inr hX,fun k o hk=>?_,s3.size,fun i=>(s3.frame i).putM m3 (nc _) _⟩
      .have:=(s.simH.lo _ hk).trans (le02.trans le23.toM)
       exact⟨fun k o hk'=>(g3.putM_ne _ fun q=>by subst q; rw[hLl _ hk] at hk'; cases hk').trans (this.1 _ _ hk'),this.2⟩
      .have hk':g.B k=some o:=hB3▸hk
       exact(g3.putM_ne _ (hB k o hk')).trans (s3.base _ _ hk)
     refine⟨w3.putObj l bz,?_,?_⟩
     .rw[run_beginRound hl3 (by rw[hrec]),<-hbz,hrec]
     refine wpIn_mono (ihb (some l) _ h3 _ _ a3 _ hb hd2 (.inr hno.2) s4) ?_;rintro e a5 w5 (⟨x,g4,F5,h4,rfl,hq,le44,s5'⟩|⟨_,_,_,_,hx,_⟩)
     rotate_left
     .exact(hX _ _ hx).elim
     cases x with
     | exit i=>exact hq.elim
     | ret=>exact hq.elim
     | normal =>
       obtain⟨h5,hgs,hq⟩:=hq;obtain⟨g5,le5,s5⟩:=hgs g4 w5 s5'.simH;have le45:=le44.trans le5;have m5:g5.M l=some bz:=le45.M _ _ m4;have hl5:w5.heap[l]?=some (.loop (rec .busy)):=hbz▸s5.fro _ _ m5;have hend:=run_endRound (P:=E.P) none hl5;have hrd:(Obj.loop { rec .busy with state:=if(none:Option Code).isNone then LoopState.ready else .done,pending:=none })=.loop (rec .ready):=by rw[hrec]; rfl
       rw[hrd] at hend
       have le25:g2.leM (g5.putM l (some (.loop (rec .ready)))):=⟨fun k o hk=>by
        by_cases e:k=l
        .subst e; rw[m2] at hk; rw[g5.putM_eq]; exact hk
        .rw[g5.putM_ne _ e]; exact le45.M _ _ ((g3.putM_ne _ e).trans (le23.M _ _ hk)),fun b lc hk=>le45.μ _ _ (le23.μ _ _ hk)⟩
       refine⟨_,_,hend,.bool true,.bool true,(g5.putM l (some (.loop (rec .ready)))).reB g2.B,h5,rfl,⟨rfl,hq⟩,?_,?_,.bool _ _⟩
       .exact⟨le25.1,le25.2,le45.os.trans le23.os,le45.tape.trans le23.tape,le45.output.trans le23.output,rfl⟩
       .refine(s5.putM (E':=E.know g1) m5 (fun c e fz q=>nc .busy c e fz (hbz.trans q)) (.loop (rec .ready)) _ (.inl rfl) rfl fun g0 hk=>?_).reB g2.B
        cases hk;exact le12.trans le25
    .rcases q with⟨x,g3,F3,h3,rfl,hq,_⟩|⟨_,_,_,_,hx,_⟩
     rotate_left
     .exact(hX _ _ hx).elim
     cases x with
     | normal=>exact absurd rfl hne
     | exit i=>exact hq.elim
     | ret=>exact hq.elim
   have hcall:=hit l g1 rounds h hI0
   have hL:YG g1 (.fn (.yield l) [] []::caps) (#[.func (.yield l) #[] #[]]++ccaps):=by
    refine SK (xs:=[.fn (.yield l) [] []]) ⟨rfl,fun i v cv p q=>?_⟩ ⟨k2,fun i v cv p q=>(k4 i v cv p q).mono le01⟩
    match i with
    | 0=>cases p; cases q; exact .fro (.fn _ _ _ _ _ rfl rfl (fun i v cv p=>by cases p) fun i v cv p=>by cases p)
    | i+1=>cases p
   refine⟨l,[{ target:=.collected D,args := #[] }],W1,{ target:=.fn (.func f) ccaps,args := #[.func (.yield l) #[] #[]] },W1,f,#[.func (.yield l) #[] #[]]++ccaps,W1,?_,?_,fun _ _=>trivial,?_,fun hn=>(Bool.noConfusion hn),CallsIn.FW_of none _ ?_⟩
   .rw[<-hW1,<-hW0,<-hl,<-hD,hrec]
    exact run_enterLoop_outer _ _ _ _ _
   .simp only[resolve,hfe]
    simp [Deferred.ofValue,Act.eval]
   .simp only[invoke]
    exact YU hcall.1
   refine(hcall.2 g1 W1 _ S1' hL).mono ?_;rintro e w6 (⟨v,cv,g6,h6,rfl,hIN,le16,S6,_⟩|⟨_,_,_,_,hx,_⟩)
   rotate_left
   .exact(hX _ _ hx).elim
   have m6:g6.M l=some (.loop (rec .ready)):=le16.M _ _ m1;have hl6:w6.heap[l]?=some (.loop (rec .ready)):=S6.fro _ _ m6;have le06:g.le g6:=le01.trans le16;have le07:g.le (g6.putM l none):=⟨fun k o hk=>(g6.putM_ne _ fun q=>by subst q; rw[hln] at hk; cases hk).trans (le06.M _ _ hk),le06.μ,le06.os,le06.tape,le06.output,le06.B⟩;refine⟨none,_,by rw[run_endLoop hl6 (by rw[hrec]; simp),hrec],.inl ⟨.normal,g6.putM l none,F,h6,rfl,hdone h6 hIN,le07,?_⟩⟩;refine⟨S6.putM (E':=E) m6 (nc _) _ _ (.inr rfl) rfl fun g0 hk=>(s.simH.lo _ hk).trans le07.toM,.cons D _ ?_ ((g6.putM_ne _ hDl).trans (le16.M _ _ mD)) (fun d hd=>s.defers.lt (fun k o hk=>s.simH.fro_ne hk) d hd D (by omega)) (s.defers.mono le07),.inr hX,fun k o hk=>le07.M _ _ (s.base _ _ (le07.B▸hk)),s.size,fun i=>(s.frame i).mono le07⟩
   cases hx:(g6.putM l none).B D with
   | none=>rfl
   | some x=>have:=s.base D x (le07.B▸hx); rw[hDn] at this; cases this
 | _=>intro ρ F h Q g a w hw _ _ s; simp only[awp] at hw
def U5 (P:Program)(h:Hp)(F:Fr):ResultVar->Option AV
 | .tmp t=>some (F t)
 | .cell a t=>match F a with
   | .ptr b i j=>DF P h t (.ptr b i j)
   | _=>none
def TR (P:Program)(h:Hp)(F:Fr):List ResultVar->Option (List AV)
 | []=>some []
 | r::l=>match U5 P h F r,TR P h F l with
   | some v,some vs=>some (v::vs)
   | _,_=>none
def AB8 (P:Program)(h:Hp)(F:Fr):List ResultVar->Option AV
 | [r]=>U5 P h F r
 | l=>match TR P h F l with
   | some vs=>some (.tup vs)
   | none=>none
def AAJ (tmps:Array Value):ResultVar->Sem Value
 | .tmp t=>pure (tmps.getD t undef)
 | .cell a t=>do loadVar t (<-asAddr (tmps.getD a undef))
theorem ABS {E:Env}{n:Nat}{g:Gh}{F:Fr}{h:Hp}{a:Act}{w:World}{r:ResultVar}{v:AV}(s:Sim E n g F h a w)(hr:U5 E.P h F r=some v):∃cv,(AAJ a.tmps r).run E.P w=.ok cv w∧Rep g v cv:=by
 cases r with
 | tmp t=>simp only[U5] at hr; cases hr; exact⟨_,rfl,s.frame t⟩
 | cell x t =>
   simp only[U5] at hr;have hx:=s.frame x;split at hr
   .rename_i b i j hb
    rw[hb] at hx;obtain⟨cv,h1,h2⟩:=ADH s.simH hr hx;obtain⟨l,_,he⟩:=hx.ptr_inv;rw[he] at h1;refine⟨cv,?_,h2⟩;simp only[AAJ,he,asAddr,Sem.run_bind,Sem.run_pure,Result.andThen_ok];simpa [Instr.loadAt,Instr.sureAddr] using h1
   .cases hr
theorem ABR {E:Env}{n:Nat}{g:Gh}{F:Fr}{h:Hp}{a:Act}{w:World}(s:Sim E n g F h a w):∀(l:List ResultVar) (vs:List AV),TR E.P h F l=some vs ->
  ∃cvs:List Value,(l.mapM (AAJ a.tmps)).run E.P w=.ok cvs w∧cvs.length=vs.length∧∀(i:Nat) (v:AV) (cv:Value),vs[i]?=some v->cvs[i]?=some cv->Rep g v cv
 | [],vs,hr=>by simp [TR] at hr; subst hr; exact⟨[],by simp,rfl,by simp⟩
 | r::l,vs,hr=>by
   simp only[TR] at hr
   cases h1:U5 E.P h F r with
   | none=>simp [h1] at hr
   | some v =>
     cases h2:TR E.P h F l with
     | none=>simp [h1,h2] at hr
     | some vs' =>
       simp [h1,h2] at hr;subst hr;obtain⟨cv,k1,k2⟩:=ABS s h1;obtain⟨cvs,q1,q2,q3⟩:=ABR s l vs' h2;refine⟨cv::cvs,by simp [List.mapM_cons,k1,q1],by simp [q2],fun i v' cv' p q=>?_⟩
       cases i with
       | zero=>simp at p q; subst p q; exact k2
       | succ i=>exact q3 i v' cv' (by simpa using p) (by simpa using q)
theorem AK4 (fn:Func)(tmps:Array Value):results fn tmps=(do let vs <-fn.results.mapM (AAJ tmps); pure (if h:vs.size=1 then vs[0] else .tuple vs):Sem Value):=by
 unfold results;congr 2
theorem AED {E:Env}{n:Nat}{g:Gh}{F:Fr}{h:Hp}{a:Act}{w:World}{fn:Func}{v:AV}(s:Sim E n g F h a w)(hr:AB8 E.P h F fn.results.toList=some v):∃cv,(results fn a.tmps).run E.P w=.ok cv w∧Rep g v cv:=by
 have hmap:∀cvs:List Value,(fn.results.toList.mapM (AAJ a.tmps)).run E.P w=.ok cvs w->(fn.results.mapM (AAJ a.tmps)).run E.P w=.ok cvs.toArray w:=by
  intro cvs hc;rw[Array.mapM_eq_mapM_toList];simp only[Sem.run_map,hc,Result.andThen_ok]
 rw[AK4];unfold AB8 at hr;split at hr
 .rename_i r hl
  obtain⟨cv,h1,h2⟩:=ABS s hr;have:=hmap [cv] (by rw[hl]; simp [h1]);exact⟨cv,by simp [this],h2⟩
 .rename_i hl
  split at hr
  .rename_i vs hvs
   cases hr;obtain⟨cvs,q1,q2,q3⟩:=ABR s _ _ hvs
   have hne:¬(cvs.length=1):=by
    intro h1
    have:fn.results.toList.length=1:=by
     have:∀(l:List ResultVar) (vs:List AV),TR E.P h F l=some vs->vs.length=l.length:=by
      intro l
      induction l with
      | nil=>intro vs hv; simp [TR] at hv; subst hv; rfl
      | cons r l ih =>
        intro vs hv;simp only[TR] at hv;split at hv
        .rename_i v' vs' e1 e2; cases hv; simp [ih vs' e2]
        .cases hv
     have:=this _ _ hvs;omega
    match hx:fn.results.toList,this with
    | [r],_=>exact hl r hx
   have:=hmap cvs q1;exact⟨.tuple cvs.toArray,by simp [this,hne],.tup _ _ (by simpa using q2) (by simpa using q3)⟩
  .cases hr
def L9:List AV->Fr
 | []=>fun _=>IQ
 | v::r=>fun i=>match i with
   | 0=>v
   | i+1=>L9 r i
theorem BF (v:AV)(r:List AV):L9 (v::r) 0=v:=rfl
theorem BN (v:AV)(r:List AV)(i:Nat):L9 (v::r) (i+1)=L9 r i:=rfl
theorem VM:∀(l:List AV) (i:Nat),L9 l i=(l[i]?).getD IQ
 | [],i=>by simp [L9]
 | v::r,0=>by simp [L9]
 | v::r,i+1=>by simp [L9,VM r i]
theorem Y8 {E:Env}{fn:Func}{tmps:Array Value}{R:Ending->World->Prop}{h:Hp}{B:Nat->Option Obj}(hB:∀g0,E.L=some g0->∀k o,g0.M k=some o->B k=some o):∀(ds:List Deferred) (g:Gh) (w:World),
  g.B=B->Marks g ds->SimH E g h w->(∀k o,B k=some o->g.M k=some o) ->
  (∀g' w',SimH E g' h w'->g'.B=B->(∀k o,B k=some o->g'.M k=some o)->g'.μ=g.μ->g'.os=g.os->g'.tape=g.tape->g'.output=g.output->(∀v cv,Rep g v cv->Rep g' v cv)->LeavesInM Fence.wide 0 E.P fn tmps R [] .returning w') ->
  LeavesInM Fence.wide 0 E.P fn tmps R ds .returning w
 | [],g,w,hgB,_,S,hb,hk=>hk g w S hgB hb rfl rfl rfl rfl fun _ _ h=>h
 | d::ds,g,w,hgB,hm,S,hb,hk=>by
   cases hm with
   | cons D _ h0 h1 h2 h3 =>
     have hc:∀c e fz,Obj.deferred (some [])≠.cells c e fz:=fun _ _ _ q=>by cases q
     have hDB:B D=none:=hgB▸h0
     have S2:SimH E (g.putM D none) h (w.putObj D (.deferred none)):=S.putM h1 hc _ _ (.inr rfl) rfl fun g0 hg0=>by
      have:=S.lo _ hg0;exact⟨fun k o hk'=>(g.putM_ne _ fun q=>by subst q; rw[hB _ hg0 _ _ hk'] at hDB; cases hDB).trans (this.1 _ _ hk'),this.2⟩
     have m2:Marks (g.putM D none) ds:=by
      clear hk S2
      induction h3 with
      | nil=>exact .nil
      | cons D' ds' q0 q1 q2 _ ih =>
        refine .cons D' ds' q0 ((g.putM_ne _ fun q=>?_).trans q1) q2 (ih fun d hd=>h2 d (List.mem_cons_of_mem _ hd));exact h2 _ (List.mem_cons_self) (by rw[q])
     refine⟨by simp,.inl ⟨D,_,rfl,run_takeDeferred (S.fro _ _ h1),Y8 hB ds (g.putM D none) _ hgB m2 S2 (fun k o hk'=>(g.putM_ne _ fun q=>by subst q; rw[hk'] at hDB; cases hDB).trans (hb k o hk')) fun g' w' S' a1 a2 a3 a4 a5 a6 a7=>hk g' w' S' a1 a2 a3 a4 a5 a6 fun v cv hr=>a7 v cv (hr.putM h1 hc none)⟩⟩
theorem IV {E:Env}{H:Hint}{f:FuncId}{fn:Func}{c:Code}{args:List AV}{h:Hp}{R:AV->Hp->Prop}(hm:E.P.follows .mixedOrders=true)(hf:E.P.funcs[f]?=some fn)(hb:fn.body=some c)
  (hname:(fn.name == "runtime.NumGoroutine")=false) (hok:RH fn.ntmps c=true) (hn:args.length<=fn.ntmps)
  (hw:awp E H c (L9 args) h (fun e F h'=>(match e with|.exit _=>False|_=>True)∧∃r,AB8 E.P h' F fn.results.toList=some r∧R r h')):ACalls E f args h R:=by
 refine⟨⟨fn,hf,by simp [hb],hname⟩,fun g w cargs S ha=>?_⟩;refine callsIn_wide.1 (callsIn_of_wp_marks (n:=0) hf hb trivial ?_)
 have s:Sim E fn.ntmps (g.reB g.M) (L9 args) h { tmps:=cargs++Array.replicate (fn.ntmps-cargs.size) undef,defers:=[] } w:=by
  refine⟨S.reB g.M,.nil,.inl rfl,fun _ _ h=>h,by simp [ha.1]; omega,fun i=>?_⟩;rw[VM];simp only[Array.getD_eq_getD_getElem?,Array.getElem?_append];split
  .rename_i hi
   have h1:i<args.length:=by rw[<-ha.1]; exact hi
   rw[jX h1];have:=ha.2 i args[i] cargs[i] (by simp [h1]) (by simp [hi]);simpa [hi] using this.reB g.M
  .rename_i hi
   have h1:args.length<=i:=by rw[<-ha.1]; omega
   rw[zO h1,Array.getElem?_replicate];have h2:(if i-cargs.size<fn.ntmps-cargs.size then some undef else none).getD undef=undef:=by split<;>rfl
   simp only[Option.getD_none];rw[h2];exact Rep.undef _
 have main:∀(a':Act) (w':World) (g':Gh) (F':Fr) (h':Hp) (r:AV),AB8 E.P h' F' fn.results.toList=some r->R r h'->(g.reB g.M).le g'->Sim E fn.ntmps g' F' h' a' w' ->
   LeavesInM Fence.wide 0 E.P fn a'.tmps (fun e w'=>(∃v cv g' h',e=.returned cv∧R v h'∧g.le g'∧SimH E g' h' w'∧Rep g' v cv)∨∃u g' h',e=.panicked [{ v:=u,recovered:=false }]∧E.X u h'∧g.le g'∧SimH E g' h' w') a'.defers .returning w':=by
  intro a' w' g' F' h' r hr hR hg s';refine Y8 (B:=g.M) (fun g0 hg0=>(S.lo _ hg0).1) a'.defers g' w' hg.B s'.defers s'.simH (fun k o hk=>hg.M k o hk) ?_;intro g2 w2 S2 b1 b2 b3 b4 b5 b6 b7;have s2:Sim E fn.ntmps g2 F' h' { a' with defers:=[] } w2:=⟨S2,.nil,.inl rfl,fun k o hk=>b2 k o (b1▸hk),s'.size,fun i=>b7 _ _ (s'.frame i)⟩;obtain⟨cv,q1,q2⟩:=AED s2 hr;exact⟨cv,q1,.inl ⟨r,cv,g2.reB g.B,h',rfl,hR,⟨b2,fun b l hl=>by show g2.μ b=_; rw[b3]; exact hg.μ b l hl,b4.trans hg.os,b5.trans hg.tape,b6.trans hg.output,rfl⟩,S2.reB g.B,q2.reB g.B⟩⟩
 refine wpIn_mono (AF7 (ρ:=none) hm c _ _ _ (g.reB g.M) _ w hw hok (.inl rfl) s) ?_;rintro e a' w' (⟨x,g',F',h',rfl,⟨hx,r,hr,hR⟩,hg,s'⟩|⟨u,g',h',rfl,hx,hg,S',hd⟩)
 rotate_left
 .show LeavesInM _ _ _ _ _ _ a'.defers _ _
  rw[hd];exact .inr ⟨u,g'.reB g.B,h',rfl,hx,⟨fun k o hk=>hg.M k o hk,fun b l hl=>hg.μ b l hl,hg.os,hg.tape,hg.output,rfl⟩,S'.reB g.B⟩
 cases x with
 | normal=>exact main a' w' g' F' h' r hr hR hg s'
 | ret=>exact main a' w' g' F' h' r hr hR hg s'
 | exit id=>exact hx.elim
def JS (n:Nat)(h:Hp):Nat->AV->AV
 | 0,_=>.junk
 | d+1,v=>match v with
   | .own b off len=>if b<n then .junk else match h[b]? with
     | some (.live k xs)=>if off+len<=xs.length∧(((xs.drop off).take len).map (·.map (JS n h d))).all (·.all AV.leaf)=true then .sl .any k (((xs.drop off).take len).map (·.map (JS n h d))) else .junk
     | _=>.junk
   | .ptr _ _ _=>.junk
   | .mp _=>.junk
   | .fn f a b=>match a,b with
     | [],[]=>.fn f [] []
     | _,_=>.junk
   | .agg cs=>.agg (cs.map (JS n h d))
   | .tup cs=>.tup (cs.map (JS n h d))
   | v=>v

theorem RepF.again {M:Nat->Option Obj}{g':Gh}{M'':Nat->Option Obj}(hM:∀k o,g'.M k=some o->M'' k=some o){v:AV}{cv0:Value}(h0:RepF M v cv0):∀cv,Rep g' v cv->RepF M'' v cv:=by
 induction h0 with
 | int k n=>intro cv h; rw[h.int_inv]; exact .int k n
 | bool b=>intro cv h; rw[h.bool_inv]; exact .bool b
 | str s=>intro cv h; rw[h.str_inv]; exact .str s
 | nil k=>intro cv h; exact h.sl_inv.mono hM
 | empty m k a cap h1 h2=>intro cv h; exact h.sl_inv.mono hM
 | sl m k xs cb co c e fz cap cv h1 h2 h3 h4 h5 _ h7 h8 ih=>intro cv h; exact h.sl_inv.mono hM
 | fptr k xs i j cb co c e fz cv h3 h4 h5 _ ih=>intro cv h; exact h.fptr_inv.mono hM
 | nilp=>intro cv h; rw[h.nilp_inv]; exact .nilp
 | fn f first caps first' caps' h1 h2 _ _ ih1 ih2 =>
   intro cv h;obtain⟨a,b,rfl,q1,q2,q3,q4⟩:=h.fn_inv;refine .fn f first caps a b q1 q2 (fun i v cv e1 e2=>?_) (fun i v cv e1 e2=>?_)
   .have hi:i<first'.size:=by rw[h1]; exact CB e1
    exact ih1 i v first'[i] e1 (by simp [hi]) cv (q3 i v cv e1 e2)
   .have hi:i<caps'.size:=by rw[h2]; exact CB e1
    exact ih2 i v caps'[i] e1 (by simp [hi]) cv (q4 i v cv e1 e2)
 | nilfn=>intro cv h; rw[h.nilfn_inv]; exact .nilfn
 | agg cs vs h1 _ ih =>
   intro cv h;obtain⟨a,rfl,q1,q2⟩:=h.agg_inv;refine .agg cs a q1 fun i v cv e1 e2=>?_
   have hi:i<vs.size:=by rw[h1]; exact CB e1
   exact ih i v vs[i] e1 (by simp [hi]) cv (q2 i v cv e1 e2)
 | tup cs vs h1 _ ih =>
   intro cv h;obtain⟨a,rfl,q1,q2⟩:=h.tup_inv;refine .tup cs a q1 fun i v cv e1 e2=>?_
   have hi:i<vs.size:=by rw[h1]; exact CB e1
   exact ih i v vs[i] e1 (by simp [hi]) cv (q2 i v cv e1 e2)
 | ifc t v =>
   intro cv h
   cases h with
   | fro h=>cases h; exact .ifc t v
 | nilifc=>intro cv h; rw[h.nilifc_inv]; exact .nilifc
 | nilmp=>intro cv h; rw[h.nilmp_inv]; exact .nilmp
 | junk v=>intro cv h; exact .junk cv
theorem Rep.restrict {g g' g'':Gh}(hM:∀k o,g'.M k=some o->g''.M k=some o)(hμ:∀b,(∃l,g.μ b=some l)->g''.μ b=g'.μ b){v:AV}{cv0:Value}(h0:Rep g v cv0):∀cv,Rep g' v cv->Rep g'' v cv:=by
 induction h0 with
 | fro h=>intro cv h'; exact .fro (h.again hM cv h')
 | own b off len cap l h1 h2 h3 =>
   intro cv h;have hb:=hμ b ⟨l,h1⟩
   cases h with
   | fro h=>cases h
   | own _ _ _ cap' l' q1 q2 q3=>exact .own b off len cap' l' (hb.trans q1) q2 q3
   | ownz _ _ a l' q1=>exact .ownz _ _ a l' (hb.trans q1)
 | ownz b off a l h1 =>
   intro cv h;have hb:=hμ b ⟨l,h1⟩
   cases h with
   | fro h=>cases h
   | own _ _ _ cap' l' q1 q2 q3=>exact .own b off 0 cap' l' (hb.trans q1) q2 q3
   | ownz _ _ a l' q1=>exact .ownz _ _ a l' (hb.trans q1)
 | ptr b i j l h1 =>
   intro cv h;obtain⟨l',q1,rfl⟩:=h.ptr_inv;exact .ptr b i j l' ((hμ b ⟨l,h1⟩).trans q1)
 | mp b l h1 =>
   intro cv h;obtain⟨l',q1,rfl⟩:=h.mp_inv;exact .mp b l' ((hμ b ⟨l,h1⟩).trans q1)
 | fn f first caps first' caps' h1 h2 _ _ ih1 ih2 =>
   intro cv h;obtain⟨a,b,rfl,q1,q2,q3,q4⟩:=h.fn_inv;refine .fn f first caps a b q1 q2 (fun i v cv e1 e2=>?_) (fun i v cv e1 e2=>?_)
   .have hi:i<first'.size:=by rw[h1]; exact CB e1
    exact ih1 i v first'[i] e1 (by simp [hi]) cv (q3 i v cv e1 e2)
   .have hi:i<caps'.size:=by rw[h2]; exact CB e1
    exact ih2 i v caps'[i] e1 (by simp [hi]) cv (q4 i v cv e1 e2)
 | agg cs vs h1 _ ih =>
   intro cv h;obtain⟨a,rfl,q1,q2⟩:=h.agg_inv;refine .agg cs a q1 fun i v cv e1 e2=>?_
   have hi:i<vs.size:=by rw[h1]; exact CB e1
   exact ih i v vs[i] e1 (by simp [hi]) cv (q2 i v cv e1 e2)
 | tup cs vs h1 _ ih =>
   intro cv h;obtain⟨a,rfl,q1,q2⟩:=h.tup_inv;refine .tup cs a q1 fun i v cv e1 e2=>?_
   have hi:i<vs.size:=by rw[h1]; exact CB e1
   exact ih i v vs[i] e1 (by simp [hi]) cv (q2 i v cv e1 e2)
theorem ObjRep.restrict {g g' g'':Gh}(hM:∀k o,g'.M k=some o->g''.M k=some o)(hμ:∀b,(∃l,g.μ b=some l)->g''.μ b=g'.μ b){x:ABlk}{o o0:Obj}(h0:ObjRep g x o0)(h:ObjRep g' x o):ObjRep g'' x o:=by
 cases h with
 | iter s pos=>exact .iter s pos
 | map es ces clock h1 h2 =>
   cases h0 with
   | map _ ces0 clock0 p1 p2 =>
     refine .map es ces clock h1 fun i k v e a b=>?_
     have hi:i<ces0.size:=by rw[p1]; exact CB a
     have q:=p2 i k v ces0[i] a (by simp [hi]);have r:=h2 i k v e a b;exact⟨q.1.restrict hM hμ _ r.1,q.2.restrict hM hμ _ r.2⟩
theorem AFT {E:Env}{g:Gh}{h:Hp}{w:World}{n:Nat}{M:Nat->Option Obj}(S:SimH E g h w)(hM:∀k o,g.M k=some o->M k=some o)
  (hF:∀b k xs l,n<=b->h[b]?=some (.live k xs)->g.μ b=some l->M l.cb=w.heap[l.cb]?):∀(d:Nat) (v:AV) (cv:Value),Rep g v cv->RepF M (JS n h d v) cv
 | 0,v,cv,_=>by simp only[JS]; exact .junk _
 | d+1,v,cv,hr=>by
   have IH:=AFT S hM hF d
   cases v with
   | own b off len =>
     simp only[JS];split
     .exact .junk _
     rename_i hb;split
     case h_2=>exact .junk _
     rename_i k xs hx;split
     case isFalse=>exact .junk _
     rename_i hc;obtain⟨hlen,hleaf⟩:=hc;obtain⟨l,c,e,q1,q2,q3,q4,q5,q6,q7,q8⟩:=S.live b k xs hx;have hMc:M l.cb=some (.cells c e (0,0)):=(hF b k xs l (by omega) hx q1).trans q4;by_cases h0:len=0
     .subst h0
      simp only[List.take_zero,List.map_nil];rcases hr.own_inv with⟨l',cap,r1,r2,r3,rfl⟩|⟨_,a,rfl⟩
      .exact .empty _ _ _ _ (by simp) (by simp)
      .exact .empty _ _ _ _ (by simp) (by simp)
     .rcases hr.own_inv with⟨l',cap,r1,r2,r3,rfl⟩|⟨hz,a,rfl⟩
      .rw[q1] at r1; cases r1
       have hlx:(((xs.drop off).take len).map (·.map (JS n h d))).length=len:=by simp; omega
       have hget:∀(i:Nat) (row:List AV),(((xs.drop off).take len).map (·.map (JS n h d)))[i]?=some row->∃r,xs[off+i]?=some r∧row=r.map (JS n h d)∧i<len:=by
        intro i row hi;rw[zL] at hi
        cases hr2:((xs.drop off).take len)[i]? with
        | none=>rw[hr2] at hi; cases hi
        | some r =>
          rw[hr2] at hi;simp at hi;rw[qN] at hr2;split at hr2
          .rename_i hil
           rw[List.getElem?_drop] at hr2;exact⟨r,hr2,hi.symm,hil⟩
          .cases hr2
       have key:∀i j,i<len->j<k->∃cv,c[l.co+off*l.k+i*k+j]?=some cv∧∀(row:List AV) (v:AV),(((xs.drop off).take len).map (·.map (JS n h d)))[i]?=some row->row[j]?=some v->RepF M v cv:=by
        intro i j hi hj;have hlt:off+i<xs.length:=by omega
        have hrow:=(q7 (off+i) xs[off+i] (by simp [hlt])).1;have hjl:j<(xs[off+i]).length:=by omega
        obtain⟨cv,s1,s2⟩:=q8 (off+i) j xs[off+i] (xs[off+i])[j] (by simp [hlt]) (by simp [hjl]);refine⟨cv,?_,fun row v e1 e2=>?_⟩
        .rw[<-s1]; congr 1; rw[q2,Nat.add_mul]; omega
        .obtain⟨r,t1,t2,_⟩:=hget i row e1
         rw[jX hlt] at t1;cases t1;subst t2;rw[zL,jX hjl] at e2;simp at e2;subst e2;exact IH _ _ s2
       classical
       have:∃cvf:Nat->Nat->Value,∀i j,i<len->j<k->c[l.co+off*l.k+i*k+j]?=some (cvf i j)∧∀(row:List AV) (v:AV),(((xs.drop off).take len).map (·.map (JS n h d)))[i]?=some row->row[j]?=some v->RepF M v (cvf i j):=by
        refine⟨fun i j=>if hh:i<len∧j<k then (key i j hh.1 hh.2).choose else undef,fun i j hi hj=>?_⟩;have hh:i<len∧j<k:=⟨hi,hj⟩;simp only[hh,and_self,dite_true];exact(key i j hi hj).choose_spec
       obtain⟨cvf,hcv⟩:=this
       have rok:VC k (((xs.drop off).take len).map (·.map (JS n h d))):=by
        intro i row hi;obtain⟨r,t1,t2,_⟩:=hget i row hi;subst t2;refine⟨by simpa using (q7 _ r t1).1,fun j v hv=>?_⟩;rw[zQ] at hleaf;have:=hleaf _ (zV hi);rw[zQ] at this;exact this v (zV hv)
       have:=RepF.sl (M:=M) .any k (((xs.drop off).take len).map (·.map (JS n h d))) l.cb (l.co+off*l.k) c e (0,0) cap cvf (by intro hh; rw[hh] at hlx; simp at hlx; omega) (by simp) hMc rok
        (fun i j hi hj=>(hcv i j (hlx▸hi) hj).1) (fun i j row v e1 e2=>by
         have hi:i<len:=hlx▸CB e1;have hj:j<k:=by rw[<-(rok i row e1).1]; exact CB e2
         exact(hcv i j hi hj).2 row v e1 e2) (by rw[hlx]; exact r2) (by simp)
       rw[hlx] at this;exact this
      .exact absurd hz h0
   | ptr b i j=>simp only[JS]; exact .junk _
   | mp b=>simp only[JS]; exact .junk _
   | nilifc=>rw[hr.nilifc_inv]; simp only[JS]; exact .nilifc
   | nilmp=>rw[hr.nilmp_inv]; simp only[JS]; exact .nilmp
   | fn f a b =>
     simp only[JS];split
     .obtain⟨a',b',rfl,q1,q2,_⟩:=hr.fn_inv
      exact .fn f [] [] a' b' q1 q2 (by simp) (by simp)
     .exact .junk _
   | agg cs =>
     simp only[JS];obtain⟨a,rfl,q1,q2⟩:=hr.agg_inv;refine .agg _ a (by simpa using q1) fun i v cv e1 e2=>?_
     rw[zL] at e1
     cases hc:cs[i]? with
     | none=>rw[hc] at e1; cases e1
     | some x=>rw[hc] at e1; simp at e1; subst e1; exact IH _ _ (q2 i x cv hc e2)
   | tup cs =>
     simp only[JS];obtain⟨a,rfl,q1,q2⟩:=hr.tup_inv;refine .tup _ a (by simpa using q1) fun i v cv e1 e2=>?_
     rw[zL] at e1
     cases hc:cs[i]? with
     | none=>rw[hc] at e1; cases e1
     | some x=>rw[hc] at e1; simp at e1; subst e1; exact IH _ _ (q2 i x cv hc e2)
   | int k n=>rw[hr.int_inv]; simp only[JS]; exact .int _ _
   | bool b=>rw[hr.bool_inv]; simp only[JS]; exact .bool _
   | str s=>rw[hr.str_inv]; simp only[JS]; exact .str _
   | sl m k xs=>simp only[JS]; exact hr.sl_inv.mono hM
   | fptr k xs i j=>simp only[JS]; exact hr.fptr_inv.mono hM
   | nilp=>rw[hr.nilp_inv]; simp only[JS]; exact .nilp
   | nilfn=>rw[hr.nilfn_inv]; simp only[JS]; exact .nilfn
   | ifc t u=>simp only[JS]; cases hr with
     | fro hr=>exact hr.mono hM
   | junk=>simp only[JS]; exact .junk _
def Keep (n d:Nat)(h h' h1:Hp)(b:Nat):Prop :=
 h1[b]?=some .dead∨(h1[b]?=h'[b]?∧h'[b]?=h[b]?)∨∃k xs,h'[b]?=some (.live k xs)∧h1[b]?=some (.live k (xs.map (·.map (JS n h' d))))∧(xs.map (·.map (JS n h' d))).all (·.all AV.leaf)=true
theorem ACalls.trunc {E:Env}{f:FuncId}{args:List AV}{h:Hp}{R R':AV->Hp->Prop}(hc:ACalls E f args h R)
  (hk:∀v h',R v h'->∃d h1,h1.length=h.length∧(∀b,b<h.length->Keep h.length d h h' h1 b)∧R' (JS h.length h' d v) h1):ACalls E f args h R':=by
 refine⟨hc.1,fun g w cargs S ha=>(hc.2 g w cargs S ha).mono ?_⟩;rintro e w' (⟨v,cv,g',h',rfl,hR,hle,S',hr⟩|q)
 rotate_left
 .exact .inr q
 obtain⟨d,h1,hlen,hkeep,hR'⟩:=hk v h' hR
 classical
 let M:Nat->Option Obj:=fun k=>match g'.M k with
  | some o=>some o
  | none=>if ∃b k' xs l,h.length<=b∧h'[b]?=some (ABlk.live k' xs)∧g'.μ b=some l∧l.cb=k then w'.heap[k]? else none
 have hM:∀k o,g'.M k=some o->M k=some o:=fun k o hk=>by simp only[M,hk]
 have hMin:∀b k xs l,h.length<=b->h'[b]?=some (.live k xs)->g'.μ b=some l->M l.cb=w'.heap[l.cb]? := by
  intro b k xs l hb hx hl;obtain⟨l',c,e,q1,q2,q3,q4,_⟩:=S'.live b k xs hx;rw[hl] at q1; cases q1;simp only[M,q3];rw[if_pos ⟨b,k,xs,l,hb,hx,hl,rfl⟩]
 have hMout:∀b x l,b<h.length->h'[b]?=some x->x≠.dead->g'.μ b=some l->g'.M l.cb=none->M l.cb=none:=by
  intro b x l hb hx hn hl h0;simp only[M,h0];rw[if_neg];rintro⟨b',k',xs',l',q1,q2,q3,q4⟩;have:=S'.inj b b' x _ l l' hx hn q2 (by simp) hl q3 q4.symm;omega
 let g2:Gh := { g' with M:=M,μ:=fun b=>if b<h.length then g'.μ b else none }
 have hμ:∀b,b<h.length->g2.μ b=g'.μ b:=fun b hb=>by simp [g2,hb]
 have hdom:∀b,(∃l,g.μ b=some l)->g2.μ b=g'.μ b:=by
  rintro b ⟨l,hl⟩;refine hμ b ?_;rcases jY b h.length with hb|hb
  .exact hb
  .rw[S.fresh b hb] at hl; cases hl
 have hfz:=AFT (n:=h.length) S' hM hMin;refine .inl ⟨JS h.length h' d v,cv,g2,h1,rfl,hR',?_,?_,.fro (hfz d v cv hr)⟩
 .exact⟨fun k o hk=>hM k o (hle.M k o hk),fun b l hl=>by rw[hdom b ⟨l,hl⟩]; exact hle.μ b l hl,hle.os,hle.tape,hle.output,hle.B⟩
 .refine⟨S'.os,S'.tape,S'.output,?_,fun g0 hk=>⟨fun k o x=>hM k o ((S'.lo g0 hk).1 k o x),fun b l x=>by have h1:=(S.lo g0 hk).2 b l x; rw[hdom b ⟨l,h1⟩]; exact hle.μ b l h1⟩,?_,?_,?_,?_,fun n=>(S'.glob n).mono hM⟩
  .intro k o hk
   change M k=some o at hk;simp only[M] at hk;split at hk
   .rename_i o' ho'; cases hk; exact S'.fro k o ho'
   .split at hk
    .exact hk
    .cases hk
  .intro b k xs hx
   have hb:b<h.length:=hlen▸CB hx;rcases hkeep b hb with k1|⟨k1,k2⟩|⟨k',xs',k1,k2,k3⟩
   .rw[k1] at hx; cases hx
   .rw[k1] at hx
    obtain⟨l,c,e,q1,q2,q3,q4,q5,q6,q7,q8⟩:=S'.live b k xs hx;rw[k2] at hx;obtain⟨l0,c0,e0,p1,p2,p3,p4,p5,p6,p7,p8⟩:=S.live b k xs hx;refine⟨l,c,e,(hμ b hb).trans q1,q2,hMout b _ l hb (k2.trans hx) (by simp) q1 q3,q4,q5,q6,q7,fun i j row v e1 e2=>?_⟩;obtain⟨cv,s1,s2⟩:=q8 i j row v e1 e2;obtain⟨cv0,_,t2⟩:=p8 i j row v e1 e2;exact⟨cv,s1,t2.restrict hM hdom cv s2⟩
   .rw[k2] at hx
    cases hx;obtain⟨l,c,e,q1,q2,q3,q4,q5,q6,q7,q8⟩:=S'.live b k xs' k1;refine⟨l,c,e,(hμ b hb).trans q1,q2,hMout b _ l hb k1 (by simp) q1 q3,q4,q5,by simpa using q6,?_,?_⟩
    .intro i row hi
     have hi0:=hi;rw[zL] at hi
     cases hr2:xs'[i]? with
     | none=>rw[hr2] at hi; cases hi
     | some r =>
       rw[hr2] at hi; simp at hi; subst hi;refine⟨by simpa using (q7 i r hr2).1,fun j v hv=>?_⟩;rw[zQ] at k3;have:=k3 _ (zV hi0);rw[zQ] at this;exact this v (zV hv)
    .intro i j row v hi hv
     rw[zL] at hi
     cases hr2:xs'[i]? with
     | none=>rw[hr2] at hi; cases hi
     | some r =>
       rw[hr2] at hi; simp at hi; subst hi;rw[zL] at hv
       cases hv2:r[j]? with
       | none=>rw[hv2] at hv; cases hv
       | some x =>
         rw[hv2] at hv; simp at hv; subst hv;obtain⟨cv,s1,s2⟩:=q8 i j r x hr2 hv2;exact⟨cv,s1,.fro (hfz d x cv s2)⟩
  .intro b x hx hi
   have hb:b<h.length:=hlen▸CB hx;rcases hkeep b hb with k1|⟨k1,k2⟩|⟨k',xs',k1,k2,k3⟩
   .rw[k1] at hx; cases hx; cases hi
   .rw[k1] at hx
    obtain⟨l,o,q1,q2,q3,q4,q5,q6⟩:=S'.obj b x hx hi;rw[k2] at hx;obtain⟨l0,o0,p1,p2,p3,p4,p5,p6⟩:=S.obj b x hx hi;exact⟨l,o,(hμ b hb).trans q1,q2,q3,hMout b _ l hb (k2.trans hx) (by rintro rfl; cases hi) q1 q4,q5,p6.restrict hM hdom q6⟩
   .rw[k2] at hx; cases hx; cases hi
  .have back:∀b x,h1[b]?=some x->x≠.dead->b<h.length∧∃y,h'[b]?=some y∧y≠.dead:=by
    intro b x hx hn;have hb:b<h.length:=hlen▸CB hx;refine⟨hb,?_⟩;rcases hkeep b hb with k1|⟨k1,k2⟩|⟨k',xs',k1,k2,k3⟩
    .rw[k1] at hx; cases hx; exact absurd rfl hn
    .exact⟨x,k1▸hx,hn⟩
    .exact⟨_,k1,by simp⟩
   intro b b' x x' l l' e1 n1 e2 n2 m1 m2 hcb;obtain⟨hb,y,hy,hyn⟩:=back b x e1 n1;obtain⟨hb',y',hy',hyn'⟩:=back b' x' e2 n2;rw[hμ b hb] at m1;rw[hμ b' hb'] at m2;exact S'.inj b b' y y' l l' hy hyn hy' hyn' m1 m2 hcb
  .intro b hb
   have:¬b<h.length:=by omega
   simp [g2,this]
theorem ACalls.pure {E:Env}{f:FuncId}{args:List AV}{h:Hp}{R:AV->Hp->Prop}{r:AV}(d:Nat)(hc:ACalls E f args h R)
  (hk:∀v h',R v h'->(∃x,h'=h++x)∧JS h.length h' d v=r) (hX:E.nox=E:=by rfl):PCall E f args h r:=by
 unfold PCall;rw[hX];refine hc.trunc fun v h' hR=>?_
 obtain⟨⟨x,rfl⟩,hr⟩:=hk v h' hR;exact⟨d,h,rfl,fun b hb=>.inr (.inl ⟨by rw[zS hb],by rw[zS hb]⟩),hr,rfl⟩
theorem ACalls.pure0 {E:Env}{f:FuncId}{args:List AV}{h:Hp}{r:AV}(hr:(match r with|.int _ _=>true|.bool _=>true|.str _=>true|.sl _ _ _=>true|_=>false)=true)(hc:ACalls E f args h fun v h'=>v=r∧∃x,h'=h++x)(hX:E.nox=E:=by rfl):PCall E f args h r :=
 hc.pure 1 (fun v h' ⟨e,x⟩=>⟨x,by subst e; cases v<;>simp at hr<;>rfl⟩) hX
theorem ARY {g:Gh}{k k':Nat}{cv:Value}(h:Rep g (.sl .nil k []) cv):Rep g (.sl .nil k' []) cv:=by
 have:=h.sl_inv
 cases this with
 | nil=>exact .fro (.nil k')
 | empty _ _ _ _ h1=>exact absurd rfl h1
 | sl _ _ _ _ _ _ _ _ _ _ h1=>exact absurd rfl h1
theorem ACalls.conv {E:Env}{f:FuncId}{args:List AV}{h:Hp}{R R':AV->Hp->Prop}(hc:ACalls E f args h R)(hr:∀v h',R v h'->∃v',R' v' h'∧∀g cv,Rep g v cv->Rep g v' cv):ACalls E f args h R' :=
 ⟨hc.1,fun g w cargs S ha=>(hc.2 g w cargs S ha).mono fun _ _ q=>q.imp (fun⟨v,cv,g',h',e,r,q1,q2,q3⟩=>let ⟨v',r',q4⟩:=hr v h' r; ⟨v',cv,g',h',e,r',q1,q2,q4 g' cv q3⟩) id⟩
end Go.Proofs.YtgnoolgeijmlaaaGreatDoor.Sm
set_option linter.unusedSimpArgs false
set_option maxRecDepth 8000
namespace Go.Proofs.YtgnoolgeijmlaaaGreatDoor.Sm

def AU9 (E:Env)(H:Hint)(b:Code)(Q:AEx->Fr->Hp->Prop):AEx->Fr->Hp->Prop:=YN (fun F h=>awp E H b F h Q) Q
theorem A7 (E:Env)(H:Hint)(b:Code)(Q:AEx->Fr->Hp->Prop)(F:Fr)(h:Hp):AU9 E H b Q .normal F h=awp E H b F h Q:=rfl
theorem EN (E:Env)(H:Hint)(b:Code)(Q:AEx->Fr->Hp->Prop)(F:Fr)(h:Hp)(i:Nat):AU9 E H b Q (.exit i) F h=Q (.exit i) F h:=rfl
theorem CX (E:Env)(H:Hint)(b:Code)(Q:AEx->Fr->Hp->Prop)(F:Fr)(h:Hp):AU9 E H b Q .ret F h=Q .ret F h:=rfl
theorem EP (id:Nat)(Q:AEx->Fr->Hp->Prop)(F:Fr)(h:Hp):Q5 id Q .normal F h=Q .normal F h:=rfl
theorem EO (id:Nat)(Q:AEx->Fr->Hp->Prop)(F:Fr)(h:Hp):Q5 id Q .ret F h=Q .ret F h:=rfl
theorem ES (id i:Nat)(Q:AEx->Fr->Hp->Prop)(F:Fr)(h:Hp):Q5 id Q (.exit i) F h=if i=id then Q .normal F h else Q (.exit i) F h:=rfl
def AVD (I:Nat->Fr->Hp->Prop)(n:Nat)(Q:AEx->Fr->Hp->Prop):AEx->Fr->Hp->Prop:=YN (fun F' h'=>∃m,m<n∧I m F' h') Q
theorem EU (I:Nat->Fr->Hp->Prop)(n:Nat)(Q:AEx->Fr->Hp->Prop)(F:Fr)(h:Hp):AVD I n Q .normal F h =∃m,m<n∧I m F h:=rfl
theorem FH (I:Nat->Fr->Hp->Prop)(n:Nat)(Q:AEx->Fr->Hp->Prop)(F:Fr)(h:Hp)(i:Nat):AVD I n Q (.exit i) F h=Q (.exit i) F h:=rfl
theorem GR (I:Nat->Fr->Hp->Prop)(n:Nat)(Q:AEx->Fr->Hp->Prop)(F:Fr)(h:Hp):AVD I n Q .ret F h=Q .ret F h:=rfl
def EK (P:Program)(rs:List ResultVar)(R:AV->Hp->Prop):AEx->Fr->Hp->Prop:=fun e F h'=>(match e with|.exit _=>False|_=>True)∧∃r,AB8 P h' F rs=some r∧R r h'
theorem CP (P:Program)(t:Nat)(R:AV->Hp->Prop)(F:Fr)(h:Hp):EK P [.tmp t] R .ret F h=R (F t) h:=by simp [EK,AB8,U5]
theorem AAZ (P:Program)(R:AV->Hp->Prop)(F:Fr)(h:Hp):EK P [] R .normal F h=R (.tup []) h:=by simp [EK,AB8,TR]
theorem AAY (P:Program)(t u:Nat)(R:AV->Hp->Prop)(F:Fr)(h:Hp):EK P [.tmp t,.tmp u] R .ret F h=R (.tup [F t,F u]) h:=by simp [EK,AB8,TR,U5]
theorem O4 (P:Program)(t u v:Nat)(R:AV->Hp->Prop)(F:Fr)(h:Hp):EK P [.tmp t,.tmp u,.tmp v] R .ret F h=R (.tup [F t,F u,F v]) h:=by simp [EK,AB8,TR,U5]
theorem I8 (P:Program)(a t:Nat)(R:AV->Hp->Prop)(F:Fr)(h:Hp)(b i j:Nat)(hF:F a=.ptr b i j):EK P [.cell a t] R .ret F h =∃r,DF P h t (.ptr b i j)=some r∧R r h:=by simp [EK,AB8,U5,hF]
def AD4 (E:Env)(H:Hint)(x y:Code)(F:Fr)(h:Hp)(Q:AEx->Fr->Hp->Prop)(v:AV):Prop:=match v with
 | .bool t=>(t=true->awp E H x F h Q)∧(t=false->awp E H y F h Q)
 | _=>False
theorem DV (E:Env)(H:Hint)(x y:Code)(F:Fr)(h:Hp)(Q:AEx->Fr->Hp->Prop):AD4 E H x y F h Q (.bool true)=awp E H x F h Q:=by simp [AD4]
theorem EC (E:Env)(H:Hint)(x y:Code)(F:Fr)(h:Hp)(Q:AEx->Fr->Hp->Prop):AD4 E H x y F h Q (.bool false)=awp E H y F h Q:=by simp [AD4]
theorem C9 {E:Env}{H:Hint}{x y:Code}{F:Fr}{h:Hp}{Q:AEx->Fr->Hp->Prop}{b:Bool}(h1:b=true->awp E H x F h Q)(h2:b=false->awp E H y F h Q):AD4 E H x y F h Q (.bool b):=⟨h1,h2⟩
theorem BV (E:Env)(H:Hint)(F:Fr)(h:Hp)(Q:AEx->Fr->Hp->Prop):awp E H .skip F h Q=Q .normal F h:=rfl
theorem BK (E:Env)(H:Hint)(F:Fr)(h:Hp)(Q:AEx->Fr->Hp->Prop):awp E H .ret F h Q=Q .ret F h:=rfl
theorem DZ (E:Env)(H:Hint)(i:Nat)(F:Fr)(h:Hp)(Q:AEx->Fr->Hp->Prop):awp E H (.exit i) F h Q=Q (.exit i) F h:=rfl
theorem BC (E:Env)(H:Hint)(a b:Code)(F:Fr)(h:Hp)(Q:AEx->Fr->Hp->Prop):awp E H (.seq a b) F h Q=awp E H a F h (AU9 E H b Q):=rfl
theorem BX (E:Env)(H:Hint)(id:Nat)(b:Code)(F:Fr)(h:Hp)(Q:AEx->Fr->Hp->Prop):awp E H (.block id b) F h Q=awp E H b F h (Q5 id Q):=rfl
theorem BJ (E:Env)(H:Hint)(c:Operand)(x y:Code)(F:Fr)(h:Hp)(Q:AEx->Fr->Hp->Prop):awp E H (.cond c x y) F h Q=AD4 E H x y F h Q (ev E F c):=rfl
theorem D7 {E:Env}{H:Hint}{b:Code}{F:Fr}{h:Hp}{Q:AEx->Fr->Hp->Prop}(I:Nat->Fr->Hp->Prop)(n:Nat)(h0:I n F h)(hr:∀n F h,I n F h->awp E H b F h (AVD I n Q)):awp E H (.loop b) F h Q:=⟨I,⟨n,h0⟩,hr⟩
def CV:List Oper->Nat->Option Tmp
 | [],_=>none
 | o::_,0=>o.dst
 | _::r,j+1=>CV r j
theorem VK:∀(l:List Oper) (j:Nat),AB4 (l.map (·.dst)) j=CV l j
 | [],j=>by simp [AB4,CV]
 | o::l,0=>by simp [AB4,CV]
 | o::l,j+1=>by simp [AB4,CV,VK l j]
def WW (E:Env)(H:Hint)(ops:List Oper)(l:List Oper)(F:Fr)(h:Hp)(K:Fr->Hp->Prop):Prop:=W E H (ops.map (·.dst)) l F h K
def AMY (E:Env)(H:Hint)(ops:List Oper)(d:Option Tmp)(r:List Oper)(F:Fr)(K:Fr->Hp->Prop):AV->Hp->Prop:=fun v h'=>WW E H ops r (EY F d v) h' K
theorem AL (E:Env)(H:Hint)(ops:List Oper)(d:Tmp)(r:List Oper)(F:Fr)(K:Fr->Hp->Prop)(v:AV)(h:Hp):AMY E H ops (some d) r F K v h=WW E H ops r (upd F d v) h K:=rfl
theorem D9 (E:Env)(H:Hint)(ops:List Oper)(r:List Oper)(F:Fr)(K:Fr->Hp->Prop)(v:AV)(h:Hp):AMY E H ops none r F K v h=WW E H ops r F h K:=rfl
def X1 (E:Env)(own:Bool)(op:Op)(s:Fr×Hp)(c:Fr->AV->Hp->Prop):Prop:=MQ E own op s.1 s.2 (c s.1)
def wc (E:Env)(H:Hint)(ops:List Oper)(d:Option Tmp)(r:List Oper)(K:Fr->Hp->Prop):Fr->AV->Hp->Prop:=fun F=>AMY E H ops d r F K
def G1 (E:Env)(H:Hint)(ops:List Oper)(d:Option Tmp)(op:Op)(r:List Oper)(F:Fr)(h:Hp)(K:Fr->Hp->Prop)(want:Bool)(v:AV):Prop :=
 match v with
 | .bool b=>((b==want)=true->X1 E (BD op (H.md (d.getD 0))) op (LU (F,h) (H.fz (d.getD 0))) (wc E H ops d r K))∧((b==want)=false->WW E H ops r (EY F d IQ) h K)
 | .tup []=>WW E H ops r (EY F d IQ) h K
 | _=>False
theorem BB (E:Env)(H:Hint)(ops:List Oper)(F:Fr)(h:Hp)(K:Fr->Hp->Prop):WW E H ops [] F h K=K F h:=rfl
theorem AZ (E:Env)(H:Hint)(ops:List Oper)(d:Option Tmp)(op:Op)(t:TypeId)(p:String)(e:Array Edge)(r:List Oper)(F:Fr)(h:Hp)(K:Fr->Hp->Prop) :
  WW E H ops (⟨d,op,t,p,e,none⟩::r) F h K=X1 E (BD op (H.md (d.getD 0))) op (LU (F,h) (H.fz (d.getD 0))) (wc E H ops d r K):=by
 simp only[WW,W,KO,true_imp_iff,Bool.true_eq_false,false_imp_iff,and_true,X1];rfl
theorem AUD (E:Env)(H:Hint)(ops:List Oper)(d:Option Tmp)(op:Op)(t:TypeId)(p:String)(e:Array Edge)(j:Nat)(want:Bool)(r:List Oper)(F:Fr)(h:Hp)(K:Fr->Hp->Prop)(g:Tmp)(hg:CV ops j=some g) :
  WW E H ops (⟨d,op,t,p,e,some (j,want)⟩::r) F h K=G1 E H ops d op r F h K want (F g):=by
 simp only[WW,W,KO,VK,hg,G1];generalize F g=v
 cases v with
 | bool b=>rfl
 | tup vs=>cases vs with
   | nil=>simp
   | cons=>rfl
 | _=>rfl
def GX (E:Env)(H:Hint)(ops:List Oper)(d:Option Tmp)(op:Op)(r:List Oper)(F:Fr)(h:Hp)(K:Fr->Hp->Prop)(want:Bool)(o:Option Tmp):Prop:=match o with
 | some g=>G1 E H ops d op r F h K want (F g)
 | none=>WW E H ops r (EY F d IQ) h K
theorem CO (E:Env)(H:Hint)(ops:List Oper)(d:Option Tmp)(op:Op)(r:List Oper)(F:Fr)(h:Hp)(K:Fr->Hp->Prop)(want:Bool)(g:Tmp):GX E H ops d op r F h K want (some g)=G1 E H ops d op r F h K want (F g):=rfl
theorem BR (E:Env)(H:Hint)(ops:List Oper)(d:Option Tmp)(op:Op)(t:TypeId)(p:String)(e:Array Edge)(j:Nat)(want:Bool)(r:List Oper)(F:Fr)(h:Hp)(K:Fr->Hp->Prop) :
  WW E H ops (⟨d,op,t,p,e,some (j,want)⟩::r) F h K=GX E H ops d op r F h K want (CV ops j):=by
 cases hg:CV ops j with
 | some g=>exact AUD E H ops d op t p e j want r F h K g hg
 | none=>simp [WW,W,KO,VK,hg,GX]
theorem KR {E:Env}{H:Hint}{ops:List Oper}{d:Option Tmp}{op:Op}{r:List Oper}{F:Fr}{h:Hp}{K:Fr->Hp->Prop}{want b:Bool}(ht:b=true->G1 E H ops d op r F h K want (.bool true))(hf:b=false->G1 E H ops d op r F h K want (.bool false)):G1 E H ops d op r F h K want (.bool b):=by
 cases b
 .exact hf rfl
 .exact ht rfl
theorem GZ (E:Env)(H:Hint)(ops:List Oper)(d:Option Tmp)(op:Op)(r:List Oper)(F:Fr)(h:Hp)(K:Fr->Hp->Prop):G1 E H ops d op r F h K true (.bool true)=X1 E (BD op (H.md (d.getD 0))) op (LU (F,h) (H.fz (d.getD 0))) (wc E H ops d r K):=by simp [G1]
theorem FP (E:Env)(H:Hint)(ops:List Oper)(d:Option Tmp)(op:Op)(r:List Oper)(F:Fr)(h:Hp)(K:Fr->Hp->Prop):G1 E H ops d op r F h K false (.bool false)=X1 E (BD op (H.md (d.getD 0))) op (LU (F,h) (H.fz (d.getD 0))) (wc E H ops d r K):=by simp [G1]
theorem JF (E:Env)(H:Hint)(ops:List Oper)(d:Option Tmp)(op:Op)(r:List Oper)(F:Fr)(h:Hp)(K:Fr->Hp->Prop):G1 E H ops d op r F h K true (.bool false)=WW E H ops r (EY F d IQ) h K:=by simp [G1]
theorem H7 (E:Env)(H:Hint)(ops:List Oper)(d:Option Tmp)(op:Op)(r:List Oper)(F:Fr)(h:Hp)(K:Fr->Hp->Prop):G1 E H ops d op r F h K false (.bool true)=WW E H ops r (EY F d IQ) h K:=by simp [G1]
theorem VA (E:Env)(H:Hint)(ops:List Oper)(d:Option Tmp)(op:Op)(r:List Oper)(F:Fr)(h:Hp)(K:Fr->Hp->Prop)(want:Bool):G1 E H ops d op r F h K want IQ=WW E H ops r (EY F d IQ) h K:=rfl
def IW (o:Option (AV×Hp))(K:AV->Hp->Prop):Prop:=match o with
 | some (v,h)=>K v h
 | none=>False
theorem CE (v:AV)(h:Hp)(K:AV->Hp->Prop):IW (some (v,h)) K=K v h:=rfl
theorem AB (v:AV)(h:Hp)(K:AV->Hp->Prop):IW (ofO h (some v)) K=K v h:=rfl
theorem CJ (h:Hp)(K:AV->Hp->Prop):IW (ofS (some h)) K=K IQ h:=rfl
def ABP (E:Env)(f:AV)(args:List AV)(h:Hp)(K:AV->Hp->Prop):Prop:=match f with
 | .fn (.func fid) first caps=>ACalls E fid (first++(args++caps)) h K
 | .fn (.yield l) [] []=>YC E l args h K
 | _=>False
theorem BL (E:Env)(fid:FuncId)(args caps:List AV)(h:Hp)(K:AV->Hp->Prop):ABP E (.fn (.func fid) [] caps) args h K=ACalls E fid (args++caps) h K:=rfl
theorem BU (E:Env)(own:Bool)(f:Operand)(as:Array Operand)(ts:Array TypeId)(F:Fr)(h:Hp)(c:Fr->AV->Hp->Prop) :
  X1 E own (.call { callee:=.value f,args:=as,argTypes:=ts }) (F,h) c=ABP E (ev E F f) (as.toList.map (ev E F)) h (c F):=by
 unfold X1 MQ ABP;rfl
theorem A30 (E:Env)(own:Bool)(op:Op)(F:Fr)(h:Hp)(c:Fr->AV->Hp->Prop)(hop:(match op with|.call { callee:=.value _,.. }=>false|.panic _=>false|_=>true)=true) :
  X1 E own op (F,h) c=IW (aop E.P own h (ev E F) op) (c F):=by
 unfold X1 MQ IW;split
 .simp at hop
 .simp at hop
 .rfl
def A1H (E:Env)(v:AV)(h:Hp):Prop:=match v with
 | .ifc t u=>E.X (.iface t u) h
 | _=>False
theorem ARN (E:Env)(t:TypeId)(u:Value)(h:Hp):A1H E (.ifc t u) h=E.X (.iface t u) h:=rfl
theorem AUR (E:Env)(own:Bool)(x:Operand)(F:Fr)(h:Hp)(c:Fr->AV->Hp->Prop):X1 E own (.panic x) (F,h) c=A1H E (ev E F x) h:=rfl
theorem AX (E:Env)(H:Hint)(ops:List Oper)(d:Option Tmp)(r:List Oper)(K:Fr->Hp->Prop)(F:Fr):wc E H ops d r K F=AMY E H ops d r F K:=rfl
theorem BA (E:Env)(H:Hint)(i:Nat)(l:List Oper)(F:Fr)(h:Hp)(Q:AEx->Fr->Hp->Prop):awp E H (.region i l.toArray false) F h Q=WW E H l l F h (Q .normal):=rfl
theorem AA (F:Nat->AV)(d i:Nat)(v:AV):upd F d v i=if i=d then v else F i:=rfl
theorem AY (E:Env)(F:Fr)(t:Nat):ev E F (.tmp t)=F t:=rfl
theorem AU (E:Env)(F:Fr)(v:Value):ev E F (.const v)=QL v:=rfl
theorem BQ (E:Env)(F:Fr)(f:Nat):ev E F (.func f)=.fn (.func f) [] []:=rfl
theorem AWO (E:Env)(F:Fr)(f:Nat):ev E F (.global f)=E.G f:=rfl
theorem BH (k:IntKind)(n:Int):QL (.int k n)=.int k n:=rfl
theorem BP (b:Bool):QL (.bool b)=.bool b:=rfl
theorem JB (s:ByteArray):QL (.string s)=.str s:=rfl
theorem JC:QL (.slice none 0 0)=.sl .nil 0 []:=rfl
theorem SQ:QL (.pointer none)=.nilp:=rfl
theorem AXB:QL .nilIface=.nilifc:=rfl
section
variable (E:Env) (own:Bool) (F:Fr) (h:Hp) (c:Fr->AV->Hp->Prop)
theorem BG (x:Operand):X1 E own (.move x) (F,h) c=c F (ev E F x) h:=rfl
theorem A8 (x:Operand):X1 E own (.assign x) (F,h) c=c F (ev E F x) h:=rfl
def ANH (a b:AV)(h:Hp)(K:AV->Hp->Prop)(v:AV):Prop:=match v with
 | .bool true=>K a h
 | .bool false=>K b h
 | _=>False
theorem CW (x a b:Operand):X1 E own (.pick x a b) (F,h) c=ANH (ev E F a) (ev E F b) h (c F) (ev E F x):=by
 simp only[X1,MQ,aop,ANH];generalize ev E F x=v
 cases v with
 | bool b=>cases b<;>rfl
 | _=>rfl
theorem ED (a b:AV)(K:AV->Hp->Prop):ANH a b h K (.bool true)=K a h:=rfl
theorem EH (a b:AV)(K:AV->Hp->Prop):ANH a b h K (.bool false)=K b h:=rfl
theorem ET (e:TypeId):X1 E own (.alloc e) (F,h) c=IW (J6 E.P h e) (c F):=rfl
theorem FV (e:TypeId)(x:Operand):X1 E own (.box e x) (F,h) c=IW (MG h (ev E F x)) (c F):=rfl
theorem IC (t:TypeId)(ps:List (Nat×Operand)):X1 E own (.build t ps.toArray) (F,h) c=IW (ofO h (KD E.P t (evp (ev E F) ps))) (c F):=rfl
theorem FZ (t:TypeId)(n:Nat)(ps:List (Nat×Operand)):X1 E own (.buildSlice t n ps.toArray) (F,h) c=IW (GG E.P own h t n (evp (ev E F) ps)) (c F):=rfl
theorem BM (t:TypeId)(a:Operand):X1 E own (.load t a) (F,h) c=IW (ofO h (DF E.P h t (ev E F a))) (c F):=rfl
theorem DI (t:TypeId)(a x:Operand):X1 E own (.store t a x) (F,h) c=IW (ofS (FO E.P h t (ev E F a) (ev E F x))) (c F):=rfl
theorem BZ (op:BinOp)(t u:TypeId)(x y:Operand):X1 E own (.binOp op t x y u) (F,h) c=IW (ofO h (JD E.P t op (ev E F x) (ev E F y))) (c F):=rfl
theorem I9 (op:UnOp)(t:TypeId)(x:Operand):X1 E own (.unOp op t x) (F,h) c=IW (ofO h (aUn op (ev E F x))) (c F):=rfl
theorem AKR (s d:TypeId)(x:Operand):X1 E own (.convert s d x) (F,h) c=IW (ofO h (Z8 E.P s d (ev E F x))) (c F):=rfl
theorem I5 (fn:Fn)(a b:List Operand):X1 E own (.makeFunc fn a.toArray b.toArray) (F,h) c=c F (.fn fn (a.map (ev E F)) (b.map (ev E F))) h:=rfl
theorem JV (t:TypeId)(l k:Operand):X1 E own (.makeSlice t l k) (F,h) c=IW (IX E.P own h t (ev E F l) (ev E F k)) (c F):=rfl
theorem wxP (E:Env)(X:Value->Hp->Prop):(E.wx X).P=E.P:=rfl
theorem wxX (E:Env)(X:Value->Hp->Prop):(E.wx X).X=X:=rfl
def mkI (P:Program)(t:TypeId)(v:AV)(h:Hp):Option (AV×Hp):=match P.underlying t,v with
 | some (.struct _),.agg cs=>match U3 cs with
   | some is=>some (.ifc t (.agg (is.map AB2).toArray),h)
   | none=>none
 | _,_=>none
theorem AVV {P:Program}{t:TypeId}{fs:Array Field}(hu:P.underlying t=some (.struct fs))(h:Hp)(k:IntKind)(n:Int):mkI P t (.agg [.int k n]) h=some (.ifc t (.agg #[.int k n]),h):=by
 unfold mkI; rw[hu]; rfl
theorem A0P (t:TypeId)(x:Operand):X1 E own (.makeInterface t x) (F,h) c=IW (mkI E.P t (ev E F x) h) (c F):=rfl
theorem V3 (t:TypeId):X1 E own (.makeMap t none) (F,h) c=c F (.mp h.length) (h++[.map []]):=rfl
theorem OM (t:TypeId)(m k x:Operand):X1 E own (.mapUpdate t m k x) (F,h) c=IW (ofS (J5 E.P h t (ev E F m) (ev E F k) (ev E F x))) (c F):=rfl
theorem TD (t:TypeId)(m k:Operand)(ok:Bool):X1 E own (.lookup t m k ok) (F,h) c=IW (ofO h (JZ E.P h t (ev E F m) (ev E F k) ok)) (c F):=rfl
theorem AH5 (x:Operand)(t a:TypeId)(ok:Bool):X1 E own (.typeAssert x t a ok) (F,h) c=IW (ofO h (WQ E.P (ev E F x) a ok)) (c F):=rfl
theorem AH4 (t:TypeId)(x:Operand)(lo hi mx:Option Operand):X1 E true (.slice t x lo hi mx) (F,h) c=IW (WP E.P h t (ev E F x) (lo.map (ev E F)) (hi.map (ev E F)) (mx.map (ev E F))) (c F):=rfl
theorem OV (t:TypeId)(x:Operand)(lo hi mx:Option Operand):X1 E false (.slice t x lo hi mx) (F,h) c=IW (ofO h (MK E.P h t (ev E F x) (lo.map (ev E F)) (hi.map (ev E F)) (mx.map (ev E F)))) (c F):=rfl
theorem BI (t:TypeId)(x:Operand)(f:Nat):X1 E own (.fieldAddr t x f) (F,h) c=IW (ofO h (CZ E.P t (ev E F x) f)) (c F):=rfl
theorem AMX (t:TypeId)(x:Operand)(f:Nat):X1 E own (.field t x f) (F,h) c=IW (ofO h (ABF E.P t (ev E F x) f)) (c F):=rfl
theorem CG (t:TypeId)(x i:Operand):X1 E own (.indexAddr t x i) (F,h) c=IW (ofO h (GN E.P h t (ev E F x) (ev E F i))) (c F):=rfl
theorem NI (t:TypeId)(x i:Operand):X1 E own (.index t x i) (F,h) c=IW (ofO h (O9 E.P t (ev E F x) (ev E F i))) (c F):=rfl
theorem AUQ (t:TypeId)(x:Operand):X1 E own (.range t x) (F,h) c=IW (ABE E.P h t (ev E F x)) (c F):=rfl
theorem AQN (it:Operand)(s:Bool):X1 E own (.next it s) (F,h) c=IW (ABU h (ev E F it) s) (c F):=rfl
def AZ0 (h:Hp)(i:Nat)(K:AV->Hp->Prop)(v:AV):Prop:=match v with
 | .tup vs=>IW (ofO h vs[i]?) K
 | _=>False
theorem FC (t:Operand)(i:Nat):X1 E own (.extract t i) (F,h) c=AZ0 h i (c F) (ev E F t):=by
 simp only[X1,MQ,aop,AZ0,IW];cases ev E F t<;>rfl
theorem GU (vs:List AV)(i:Nat)(K:AV->Hp->Prop):AZ0 h i K (.tup vs)=IW (ofO h vs[i]?) K:=rfl
theorem FB (a:Operand)(t:TypeId):X1 E own (.call { callee:=.builtin .len,args := #[a],argTypes := #[t] }) (F,h) c=IW (ofO h (LX E.P t (ev E F a))) (c F):=rfl
theorem A0Q (a b:Operand)(ts:Array TypeId):X1 E own (.call { callee:=.builtin .max,args := #[a,b],argTypes:=ts }) (F,h) c=IW (ofO h (RQ AGF (ev E F a) [ev E F b])) (c F):=rfl
theorem AXQ (a b:Operand)(ts:Array TypeId):X1 E own (.call { callee:=.builtin .min,args := #[a,b],argTypes:=ts }) (F,h) c=IW (ofO h (RQ Z5 (ev E F a) [ev E F b])) (c F):=rfl
theorem MC (s x:Operand)(t0 t1:TypeId):X1 E true (.call { callee:=.builtin .append,args := #[s,x],argTypes := #[t0,t1] }) (F,h) c=IW (IP E.P true h t0 t1 (ev E F s) (ev E F x)) (c F):=rfl
end
theorem AHC {P:Program}{t:TypeId}{fields:Array Field}{f:Nat}{fl:Field}{n:Nat}(hu:P.underlying t=some (.struct fields))(hf:fields[f]?=some fl)(hs:szO P fl.type=some (n+1))(off:Nat)(ho:fl.offset=off) :
  (∀b i j,CZ P t (.ptr b i j) f=some (.ptr b i (j+off)))∧(∀k xs i j,CZ P t (.fptr k xs i j) f=some (.fptr k xs i (j+off))):=by
 subst ho;constructor<;>intros<;>simp [CZ,hu,hf,hs]
def J8 (k:Nat)(h:Hp)(a ix:AV):Option AV:=match ix with
 | .int _ i=>match a with
   | .sl _ k' xs=>if k=k'∧0<=i∧i<(xs.length:Int) then some (.fptr k' xs i.toNat 0) else none
   | .own b off len=>match h[b]? with
     | some (.live k' _)=>if k=k'∧0<=i∧i<(len:Int) then some (.ptr b (off+i.toNat) 0) else none
     | _=>none
   | _=>none
 | _=>none
theorem IY {P:Program}{t e:TypeId}{k:Nat}(hu:P.underlying t=some (.slice e))(hk:szO P e=some k)(h:Hp)(a ix:AV):GN P h t a ix=J8 k h a ix:=by
 unfold GN J8;cases ix<;>simp only;simp only[hu,hk,Option.some.injEq];rfl
def Y9:Op->Bool
 | .call { callee:=.value _,.. }=>true
 | _=>false
def AF5 (E:Env)(own:Bool)(f:AV)(args:List AV)(h:Hp)(K:AV->Hp->Prop):Prop:=match f with
 | .fn (.func fid) first caps=>∃r,(PCall E fid (first++(args++caps)) h r∧(own=true->∀x,PCall E fid (first++(args++caps)) (h++x) r))∧K r h
 | _=>False
theorem G6 (E:Env)(fid:FuncId)(args caps:List AV)(h:Hp)(K:AV->Hp->Prop):AF5 E false (.fn (.func fid) [] caps) args h K =∃r,PCall E fid (args++caps) h r∧K r h:=by
 simp [AF5]
theorem AF4 (E:Env)(fid:FuncId)(args caps:List AV)(h:Hp)(K:AV->Hp->Prop):AF5 E true (.fn (.func fid) [] caps) args h K =∃r,(∀x,PCall E fid (args++caps) (h++x) r)∧K r h:=by
 apply propext;constructor
 .rintro⟨r,⟨_,h2⟩,h3⟩; exact⟨r,h2 rfl,h3⟩
 .rintro⟨r,h2,h3⟩; exact⟨r,⟨by have:=h2 []; rwa [List.append_nil] at this,fun _=>h2⟩,h3⟩
def Y1 (E:Env)(own:Bool)(op:Op)(s:Fr×Hp)(c:Fr->AV->Hp->Prop):Prop:=match op with
 | .call { callee:=.value f,args:=as,.. }=>AF5 E own (ev E s.1 f) (as.toList.map (ev E s.1)) s.2 (c s.1)
 | .panic _=>False
 | op=>X1 E own op s c
theorem H9 (E:Env)(own:Bool)(f:Operand)(as:Array Operand)(ts:Array TypeId)(F:Fr)(h:Hp)(c:Fr->AV->Hp->Prop) :
 Y1 E own (.call { callee:=.value f,args:=as,argTypes:=ts }) (F,h) c=AF5 E own (ev E F f) (as.toList.map (ev E F)) h (c F):=rfl
theorem A3Z (E:Env)(own:Bool)(op:Op)(s:Fr×Hp)(c:Fr->AV->Hp->Prop)(hop:Y9 op=false)(hpn:¬ ∃x,op=.panic x):Y1 E own op s c=X1 E own op s c:=by
 unfold Y1;split
 .simp [Y9] at hop
 .exact absurd ⟨_,rfl⟩ hpn
 .rfl
theorem AFP {op:Op}(h:Y9 op=true):∃f as ts,op=.call { callee:=.value f,args:=as,argTypes:=ts }:=by
 cases op<;>simp only[Y9] at h<;>try (cases h; done)
 rename_i c;obtain⟨cl,as,ts⟩:=c
 cases cl with
 | value f=>exact⟨f,as,ts,rfl⟩
 | _=>simp [Y9] at h
theorem A0I {E:Env}{own:Bool}{op:Op}{F:Fr}{h h':Hp}{v:AV}(hop:Y9 op=false):DEx E own op F h v h'=(aop E.P own h (ev E F) op=some (v,h')):=by
 unfold DEx;split
 .simp [Y9] at hop
 .rfl
theorem AXK (E:Env)(own:Bool)(op:Op)(s:Fr×Hp)(c:Fr->AV->Hp->Prop):(∃v h',DEx E own op s.1 s.2 v h'∧c s.1 v h')=Y1 E own op s c:=by
 apply propext
 cases hop:Y9 op with
 | true =>
   obtain⟨f,as,ts,rfl⟩:=AFP hop;obtain⟨F,h⟩:=s;rw[H9];unfold DEx AF5;simp only;generalize ev E F f=fv
   cases fv with
   | fn fn first caps =>
     cases fn with
     | func fid =>
       constructor
       .rintro⟨v,h',⟨rfl,h1,h1'⟩,h2⟩; exact⟨v,⟨h1,h1'⟩,h2⟩
       .rintro⟨r,⟨h1,h1'⟩,h2⟩; exact⟨r,h,⟨rfl,h1,h1'⟩,h2⟩
     | _=>constructor<;>(intro hh; first|exact hh.elim|(obtain⟨_,_,hh,_⟩:=hh; exact hh.elim))
   | _=>constructor<;>(intro hh; first|exact hh.elim|(obtain⟨_,_,hh,_⟩:=hh; exact hh.elim))
 | false =>
   obtain⟨F,h⟩:=s;rcases Classical.em (∃x,op=.panic x) with⟨x,rfl⟩|hpn
   .constructor
    .rintro⟨v,h',h1,_⟩
     simp [DEx,aop] at h1
    .intro q; exact q.elim
   rw[A3Z _ _ _ _ _ hop hpn,A30 _ _ _ _ _ _ (by
    split
    .simp [Y9] at hop
    .exact absurd ⟨_,rfl⟩ hpn
    .rfl)]
   simp only[A0I hop];unfold IW;constructor
   .rintro⟨v,h',h1,h2⟩; rw[h1]; exact h2
   .intro hy
    split at hy
    .rename_i v h' he; exact⟨v,h',he,hy⟩
    .exact hy.elim
def ATO (E:Env)(f:AV)(args:List AV)(h:Hp)(K:AV->Hp->Prop):Prop:=match f with
 | .fn (.func fid) first caps=>∃r h',ACalls E fid (first++(args++caps)) h (fun v1 h1=>v1=r∧h1=h')∧K r h'
 | _=>False
def YE (E:Env)(op:Op)(s:Fr×Hp)(c:Fr->AV->Hp->Prop):Prop:=match op with
 | .call { callee:=.value f,args:=as,.. }=>ATO E (ev E s.1 f) (as.toList.map (ev E s.1)) s.2 (c s.1)
 | _=>False
def YO (E:Env)(eff own:Bool)(op:Op)(s:Fr×Hp)(c:Fr->AV->Hp->Prop):Prop:=match eff with
 | false=>Y1 E own op s c
 | true=>YE E op s c
theorem EX (E:Env)(own:Bool)(op:Op)(s:Fr×Hp)(c:Fr->AV->Hp->Prop):YO E false own op s c=Y1 E own op s c:=rfl
theorem AUF {E:Env}{op:Op}{F:Fr}{h h':Hp}{v:AV}(hop:Y9 op=false):¬ECall E op F h v h':=by
 intro hh;unfold ECall at hh;split at hh
 .simp [Y9] at hop
 .exact hh
theorem A3Y {E:Env}{op:Op}{s:Fr×Hp}{c:Fr->AV->Hp->Prop}(hop:Y9 op=false):¬YE E op s c:=by
 intro hh;unfold YE at hh;split at hh
 .simp [Y9] at hop
 .exact hh
theorem AXJ (E:Env)(op:Op)(s:Fr×Hp)(c:Fr->AV->Hp->Prop):(∃v h',ECall E op s.1 s.2 v h'∧c s.1 v h')=YE E op s c:=by
 apply propext
 cases hop:Y9 op with
 | true =>
   obtain⟨f,as,ts,rfl⟩:=AFP hop;obtain⟨F,h⟩:=s;show(∃v h',ECall E _ F h v h'∧c F v h')↔ATO E (ev E F f) (as.toList.map (ev E F)) h (c F);unfold ECall ATO;simp only;generalize ev E F f=fv
   cases fv with
   | fn fn first caps =>
     cases fn with
     | func fid=>exact Iff.rfl
     | _=>constructor<;>(intro hh; first|exact hh.elim|(obtain⟨_,_,hh,_⟩:=hh; exact hh.elim))
   | _=>constructor<;>(intro hh; first|exact hh.elim|(obtain⟨_,_,hh,_⟩:=hh; exact hh.elim))
 | false =>
   constructor
   .rintro⟨_,_,hh,_⟩; exact(AUF hop hh).elim
   .intro hh; exact(A3Y hop hh).elim
theorem AYS {E:Env}{md:Nat->Bool}{d:Option Tmp}{op:Op}(t:TypeId)(p:String)(e:Array Edge)(g:Option (Nat×Bool))(s:Fr×Hp)(c:Fr->AV->Hp->Prop) :
  YO E (md (d.getD 0+1000000)) (md (d.getD 0)) op s c =∃v h',DExO E md ⟨d,op,t,p,e,g⟩ s.1 s.2 v h'∧c s.1 v h':=by
 unfold YO DExO;simp only;generalize md (d.getD 0+1000000)=q
 cases q with
 | false=>exact(AXK E (md (d.getD 0)) op s c).symm
 | true=>exact(AXJ E op s c).symm
def DD (E:Env)(md:Nat->Bool)(ops:List Oper)(l:List Oper)(F:Fr)(h:Hp)(K:Fr->Hp->Prop):Prop:=D E md (ops.map (·.dst)) l F h K
def AOD (E:Env)(md:Nat->Bool)(ops:List Oper)(d:Option Tmp)(r:List Oper)(F:Fr)(K:Fr->Hp->Prop):AV->Hp->Prop:=fun v h'=>DD E md ops r (EY F d v) h' K
theorem CY (E:Env)(md:Nat->Bool)(ops:List Oper)(d:Tmp)(r:List Oper)(F:Fr)(K:Fr->Hp->Prop)(v:AV)(h:Hp):AOD E md ops (some d) r F K v h=DD E md ops r (upd F d v) h K:=rfl
theorem G8 (E:Env)(md:Nat->Bool)(ops:List Oper)(r:List Oper)(F:Fr)(K:Fr->Hp->Prop)(v:AV)(h:Hp):AOD E md ops none r F K v h=DD E md ops r F h K:=rfl
def dc (E:Env)(md:Nat->Bool)(ops:List Oper)(d:Option Tmp)(r:List Oper)(K:Fr->Hp->Prop):Fr->AV->Hp->Prop:=fun F=>AOD E md ops d r F K
theorem DK (E:Env)(md:Nat->Bool)(ops:List Oper)(d:Option Tmp)(r:List Oper)(K:Fr->Hp->Prop)(F:Fr):dc E md ops d r K F=AOD E md ops d r F K:=rfl
theorem DW (E:Env)(md:Nat->Bool)(ops:List Oper)(F:Fr)(h:Hp)(K:Fr->Hp->Prop):DD E md ops [] F h K=K F h:=rfl
theorem GL {E:Env}{H:Hint}{i:Nat}{l:List Oper}{F:Fr}{h:Hp}{Q:AEx->Fr->Hp->Prop}(hl:AR9 H.md [] l.toArray=true)(hd:DD E H.md l l F h (Q .normal)):awp E H (.region i l.toArray true) F h Q :=
 (ABT (sep:=[]) hl (by unfold AC3; rw[List.all_eq_true]; intro o _; cases o.dst<;>rfl) trivial hd).toN
theorem DL (E:Env)(md:Nat->Bool)(ops:List Oper)(d:Option Tmp)(op:Op)(t:TypeId)(p:String)(e:Array Edge)(r:List Oper)(F:Fr)(h:Hp)(K:Fr->Hp->Prop) :
  DD E md ops (⟨d,op,t,p,e,none⟩::r) F h K=YO E (md (d.getD 0+1000000)) (md (d.getD 0)) op (F,h) (dc E md ops d r K):=by
 rw[AYS t p e none];simp only[DD,D,KO,true_imp_iff,Bool.true_eq_false,false_imp_iff,and_true];rfl
def GD (E:Env)(md:Nat->Bool)(ops:List Oper)(d:Option Tmp)(op:Op)(r:List Oper)(F:Fr)(h:Hp)(K:Fr->Hp->Prop)(want:Bool)(v:AV):Prop :=
 match v with
 | .bool b=>((b==want)=true->YO E (md (d.getD 0+1000000)) (md (d.getD 0)) op (F,h) (dc E md ops d r K))∧((b==want)=false->DD E md ops r (EY F d IQ) h K)
 | .tup []=>DD E md ops r (EY F d IQ) h K
 | _=>False
theorem AUJ (E:Env)(md:Nat->Bool)(ops:List Oper)(d:Option Tmp)(op:Op)(t:TypeId)(p:String)(e:Array Edge)(j:Nat)(want:Bool)(r:List Oper)(F:Fr)(h:Hp)(K:Fr->Hp->Prop)(g:Tmp)(hg:CV ops j=some g) :
  DD E md ops (⟨d,op,t,p,e,some (j,want)⟩::r) F h K=GD E md ops d op r F h K want (F g):=by
 simp only[DD,D,KO,VK,hg,GD,AYS t p e (some (j,want))];generalize F g=v
 cases v with
 | bool b=>rfl
 | tup vs=>cases vs with
   | nil=>simp
   | cons=>rfl
 | _=>rfl
def GY (E:Env)(md:Nat->Bool)(ops:List Oper)(d:Option Tmp)(op:Op)(r:List Oper)(F:Fr)(h:Hp)(K:Fr->Hp->Prop)(want:Bool)(o:Option Tmp):Prop:=match o with
 | some g=>GD E md ops d op r F h K want (F g)
 | none=>DD E md ops r (EY F d IQ) h K
theorem FK (E:Env)(md:Nat->Bool)(ops:List Oper)(d:Option Tmp)(op:Op)(r:List Oper)(F:Fr)(h:Hp)(K:Fr->Hp->Prop)(want:Bool)(g:Tmp):GY E md ops d op r F h K want (some g)=GD E md ops d op r F h K want (F g):=rfl
theorem EM (E:Env)(md:Nat->Bool)(ops:List Oper)(d:Option Tmp)(op:Op)(t:TypeId)(p:String)(e:Array Edge)(j:Nat)(want:Bool)(r:List Oper)(F:Fr)(h:Hp)(K:Fr->Hp->Prop) :
  DD E md ops (⟨d,op,t,p,e,some (j,want)⟩::r) F h K=GY E md ops d op r F h K want (CV ops j):=by
 cases hg:CV ops j with
 | some g=>exact AUJ E md ops d op t p e j want r F h K g hg
 | none=>simp [DD,D,KO,VK,hg,GY]
theorem A32 {E:Env}{md:Nat->Bool}{ops:List Oper}{d:Option Tmp}{op:Op}{r:List Oper}{F:Fr}{h:Hp}{K:Fr->Hp->Prop}{want b:Bool}(ht:b=true->GD E md ops d op r F h K want (.bool true))(hf:b=false->GD E md ops d op r F h K want (.bool false)):GD E md ops d op r F h K want (.bool b):=by
 cases b
 .exact hf rfl
 .exact ht rfl
section
variable (E:Env) (md:Nat->Bool) (ops:List Oper) (d:Option Tmp) (op:Op) (r:List Oper) (F:Fr) (h:Hp) (K:Fr->Hp->Prop)
theorem QM:GD E md ops d op r F h K true (.bool true)=YO E (md (d.getD 0+1000000)) (md (d.getD 0)) op (F,h) (dc E md ops d r K):=by simp [GD]
theorem L8:GD E md ops d op r F h K false (.bool false)=YO E (md (d.getD 0+1000000)) (md (d.getD 0)) op (F,h) (dc E md ops d r K):=by simp [GD]
theorem U6:GD E md ops d op r F h K true (.bool false)=DD E md ops r (EY F d IQ) h K:=by simp [GD]
theorem N8:GD E md ops d op r F h K false (.bool true)=DD E md ops r (EY F d IQ) h K:=by simp [GD]
theorem AMT (want:Bool):GD E md ops d op r F h K want IQ=DD E md ops r (EY F d IQ) h K:=rfl
theorem EG (own:Bool)(x:Operand)(c:Fr->AV->Hp->Prop):Y1 E own (.move x) (F,h) c=c F (ev E F x) h:=rfl
theorem FN (own:Bool)(x:Operand)(c:Fr->AV->Hp->Prop):Y1 E own (.assign x) (F,h) c=c F (ev E F x) h:=rfl
variable (own:Bool) (c:Fr->AV->Hp->Prop)
theorem GH (x a b:Operand):Y1 E own (.pick x a b) (F,h) c=X1 E own (.pick x a b) (F,h) c:=rfl
theorem AUP (t:TypeId):Y1 E own (.alloc t) (F,h) c=X1 E own (.alloc t) (F,h) c:=rfl
theorem AQL (t:TypeId)(x:Operand):Y1 E own (.box t x) (F,h) c=X1 E own (.box t x) (F,h) c:=rfl
theorem YJ (t:TypeId)(ps:Array (Nat×Operand)):Y1 E own (.build t ps) (F,h) c=X1 E own (.build t ps) (F,h) c:=rfl
theorem KZ (t:TypeId)(n:Nat)(ps:Array (Nat×Operand)):Y1 E own (.buildSlice t n ps) (F,h) c=X1 E own (.buildSlice t n ps) (F,h) c:=rfl
theorem EI (t:TypeId)(x:Operand):Y1 E own (.load t x) (F,h) c=X1 E own (.load t x) (F,h) c:=rfl
theorem IA (t:TypeId)(x y:Operand):Y1 E own (.store t x y) (F,h) c=X1 E own (.store t x y) (F,h) c:=rfl
theorem IG (o:BinOp)(t u:TypeId)(x y:Operand):Y1 E own (.binOp o t x y u) (F,h) c=X1 E own (.binOp o t x y u) (F,h) c:=rfl
theorem AH3 (o:UnOp)(t:TypeId)(x:Operand):Y1 E own (.unOp o t x) (F,h) c=X1 E own (.unOp o t x) (F,h) c:=rfl
theorem AYU (t u:TypeId)(x:Operand):Y1 E own (.convert t u x) (F,h) c=X1 E own (.convert t u x) (F,h) c:=rfl
theorem ACN (fn:Fn)(a b:Array Operand):Y1 E own (.makeFunc fn a b) (F,h) c=X1 E own (.makeFunc fn a b) (F,h) c:=rfl
theorem ABJ (t:TypeId)(x y:Operand):Y1 E own (.makeSlice t x y) (F,h) c=X1 E own (.makeSlice t x y) (F,h) c:=rfl
theorem VZ (t:TypeId)(x:Operand)(lo hi mx:Option Operand):Y1 E own (.slice t x lo hi mx) (F,h) c=X1 E own (.slice t x lo hi mx) (F,h) c:=rfl
theorem DR (t:TypeId)(x:Operand)(i:Nat):Y1 E own (.fieldAddr t x i) (F,h) c=X1 E own (.fieldAddr t x i) (F,h) c:=rfl
theorem AUO (t:TypeId)(x:Operand)(i:Nat):Y1 E own (.field t x i) (F,h) c=X1 E own (.field t x i) (F,h) c:=rfl
theorem D8 (t:TypeId)(x y:Operand):Y1 E own (.indexAddr t x y) (F,h) c=X1 E own (.indexAddr t x y) (F,h) c:=rfl
theorem ACO (t:TypeId)(x y:Operand)(b:Bool):Y1 E own (.lookup t x y b) (F,h) c=X1 E own (.lookup t x y b) (F,h) c:=rfl
theorem AUN (t:TypeId)(x y:Operand):Y1 E own (.index t x y) (F,h) c=X1 E own (.index t x y) (F,h) c:=rfl
theorem MH (x:Operand)(i:Nat):Y1 E own (.extract x i) (F,h) c=X1 E own (.extract x i) (F,h) c:=rfl
theorem JJ (b:Builtin)(as:Array Operand)(ts:Array TypeId):Y1 E own (.call { callee:=.builtin b,args:=as,argTypes:=ts }) (F,h) c=X1 E own (.call { callee:=.builtin b,args:=as,argTypes:=ts }) (F,h) c:=rfl
end
theorem ABG {E:Env}{H:Hint}{ds:List (Option Tmp)}{K K':Fr->Hp->Prop}(hk:∀F h,K F h->K' F h):∀(l:List Oper) (F:Fr) (h:Hp),W E H ds l F h K->W E H ds l F h K'
 | [],F,h,hw=>hk F h hw
 | o::r,F,h,hw=>by
   simp only[W] at hw|-;split at hw
   .exact⟨fun hc=>OL (fun v h' hv=>ABG hk r _ _ hv) (hw.1 hc),fun hc=>ABG hk r _ _ (hw.2 hc)⟩
   .exact hw.elim
theorem AH0 {E:Env}{md:Nat->Bool}{ds:List (Option Tmp)}{K K':Fr->Hp->Prop}(hk:∀F h,K F h->K' F h):∀(l:List Oper) (F:Fr) (h:Hp),D E md ds l F h K->D E md ds l F h K'
 | [],F,h,hw=>hk F h hw
 | o::r,F,h,hw=>by
   simp only[D] at hw|-;split at hw
   .exact⟨fun hc=>let ⟨v,h',h1,h2⟩:=hw.1 hc; ⟨v,h',h1,AH0 hk r _ _ h2⟩,fun hc=>AH0 hk r _ _ (hw.2 hc)⟩
   .exact hw.elim
theorem ACX {next next':Fr->Hp->Prop}{Q Q':AEx->Fr->Hp->Prop}(hn:∀F h,next F h->next' F h)(hq:∀e F h,Q e F h->Q' e F h):∀e F h,YN next Q e F h->YN next' Q' e F h:=by
 intro e F h ht
 cases e with
 | normal=>exact hn F h ht
 | exit i=>exact hq _ F h ht
 | ret=>exact hq _ F h ht
theorem AKD {E:Env}{H:Hint}:∀(c:Code) {F:Fr} {h:Hp} {Q Q':AEx->Fr->Hp->Prop},(∀e F h,Q e F h->Q' e F h)->awp E H c F h Q->awp E H c F h Q':=by
 intro c
 induction c with
 | skip=>intro F h Q Q' hq hw; exact hq _ _ _ hw
 | label l=>intro F h Q Q' hq hw; exact hq _ _ _ hw
 | ret=>intro F h Q Q' hq hw; exact hq _ _ _ hw
 | exit i=>intro F h Q Q' hq hw; exact hq _ _ _ hw
 | seq x y ihx ihy=>intro F h Q Q' hq hw; exact ihx (ACX (fun F h hh=>ihy hq hh) hq) hw
 | block id b ih =>
   intro F h Q Q' hq hw;refine ih (fun e F h hh=>?_) hw
   cases e with
   | normal=>exact hq _ _ _ hh
   | exit i =>
     simp only[Q5] at hh|-;split
     .rename_i hi; rw[if_pos hi] at hh; exact hq _ _ _ hh
     .rename_i hi; rw[if_neg hi] at hh; exact hq _ _ _ hh
   | ret=>exact hq _ _ _ hh
 | cond c x y ihx ihy =>
   intro F h Q Q' hq hw;simp only[awp] at hw|-;split at hw
   .exact⟨fun hc=>ihx hq (hw.1 hc),fun hc=>ihy hq (hw.2 hc)⟩
   .exact hw.elim
 | loop b ih =>
   intro F h Q Q' hq hw;obtain⟨I,h0,hr⟩:=hw;exact⟨I,h0,fun n F h hI=>ih (ACX (fun _ _ hh=>hh) hq) (hr n F h hI)⟩
 | region i ops draw =>
   intro F h Q Q' hq hw;simp only[awp] at hw|-
   cases draw with
   | false=>exact ABG (hq _) _ _ _ hw
   | true=>exact AGD (fun s=>hq _ s.1 s.2) _ _ _ hw
 | rangeFunc g ps asg body iha ihb =>
   intro F h Q Q' hq hw;obtain⟨hX,h0,f,caps,N,xs,I,h1,h2,h3,h4,h5⟩:=hw;exact⟨hX,h0,f,caps,N,xs,I,h1,h2,h3,h4,fun h' hI=>hq _ _ _ (h5 h' hI)⟩
 | _=>intro F h Q Q' hq hw; simp only[awp] at hw
def AVW (N:Fr->Hp->Prop)(R:Fr->Hp->Prop):AEx->Fr->Hp->Prop
 | .normal,F,h=>N F h
 | .ret,F,h=>R F h
 | .exit _,_,_=>False
theorem KE (N R:Fr->Hp->Prop)(F:Fr)(h:Hp):AVW N R .normal F h=N F h:=rfl
theorem UU {E:Env}{H:Hint}{c:Code}{F:Fr}{h:Hp}{Q:AEx->Fr->Hp->Prop}(N R:Fr->Hp->Prop)(hw:awp E H c F h (AVW N R))(hn:∀F h,N F h->Q .normal F h)(hr:∀F h,R F h->Q .ret F h):awp E H c F h Q :=
 AKD c (fun e F h hh=>by
  cases e with
  | normal=>exact hn F h hh
  | ret=>exact hr F h hh
  | exit i=>exact hh.elim) hw
theorem RU {E:Env}{H:Hint}{ops:List Oper}{d:Option Tmp}{op:Op}{r:List Oper}{F:Fr}{h:Hp}{K:Fr->Hp->Prop}{want:Bool}{v:AV}(K':Fr->Hp->Prop)(hw:G1 E H ops d op r F h K' want v)(hk:∀F h,K' F h->K F h):G1 E H ops d op r F h K want v:=by
 unfold G1 at *;split at hw
 .exact⟨fun hc=>OL (fun v h' hv=>ABG hk r _ _ hv) (hw.1 hc),fun hc=>ABG hk r _ _ (hw.2 hc)⟩
 .exact ABG hk r _ _ hw
 .exact hw.elim
theorem AH2 {E:Env}{md:Nat->Bool}{ops r:List Oper}{F:Fr}{h:Hp}{K:Fr->Hp->Prop}(K':Fr->Hp->Prop)(hw:DD E md ops r F h K')(hk:∀F h,K' F h->K F h):DD E md ops r F h K:=AH0 hk r _ _ hw
def lpQ (i:Nat)(N:Fr->Hp->Prop)(R:Fr->Hp->Prop):AEx->Fr->Hp->Prop
 | .normal,_,_=>False
 | .ret,F,h=>R F h
 | .exit j,F,h=>if j=i then N F h else False
theorem JL (i j:Nat)(N R:Fr->Hp->Prop)(F:Fr)(h:Hp):lpQ i N R (.exit j) F h=if j=i then N F h else False:=rfl
theorem OY (i:Nat)(N R:Fr->Hp->Prop)(F:Fr)(h:Hp):lpQ i N R .ret F h=R F h:=rfl
theorem GI {E:Env}{H:Hint}{c:Code}{F:Fr}{h:Hp}{Q:AEx->Fr->Hp->Prop}(i:Nat)(N R:Fr->Hp->Prop)(hw:awp E H c F h (lpQ i N R))(hn:∀F h,N F h->Q (.exit i) F h)(hr:∀F h,R F h->Q .ret F h):awp E H c F h Q :=
 AKD c (fun e F h hh=>by
  cases e with
  | normal=>exact hh.elim
  | ret=>exact hr F h hh
  | exit j =>
    simp only[lpQ] at hh;split at hh
    .rename_i e; subst e; exact hn F h hh
    .exact hh.elim) hw
end Go.Proofs.YtgnoolgeijmlaaaGreatDoor.Sm
