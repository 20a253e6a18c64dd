/- Part 2 of the proof (Sm11, So, Sn, Sm12, Sm13, Sv, Sw, Sc, Sd, St, Su, Th); no condition. -/
import Derived.RangeFuncLeaves
import Derived.Deep.Draws
import Derived.Test.YtiihpnicbekebaaGreatDoorCH1
set_option linter.unusedVariables false
set_option linter.unusedSimpArgs false
set_option maxRecDepth 8000
open Bool renaming and_eq_true→jO,false_eq_true→qU,false_or→wV,or_eq_false_iff→wF,or_eq_true→qN
open List renaming all_eq_true→zL,any_eq_true→qL,append_assoc→zK,contains_cons→zA,foldl_cons→wC,getD_eq_getElem?_getD→zF,getElem?_append_left→zX,getElem?_eq_getElem→jG,getElem?_eq_none→zY,getElem?_map→jV,getElem?_set_ne→jY,getElem?_set→zJ,getElem?_take→wQ,length_eq_zero_iff→yH,map_congr_left→yA,mem_append→zI,mem_cons→zQ,mem_of_getElem?→zZ,take_of_length_le→jJ
open Nat renaming add_zero→zD,le_of_ble_eq_true→jB,le_refl→jF,lt_or_ge→jW,zero_add→jH,zero_le→qI
namespace Go.Proofs.YtiihpnicbekebaaGreatDoor.Sm
variable {E:Env} {own:Bool} {op:Op} {F F':Fr} {h h' h1 h2:Hp} {a s v x:AV} {K:AV->Hp->Prop} {P:Program} {ρ:Operand->AV} {b i j k n u:Nat} {t:TypeId} {md:Nat->Bool} {o:Oper} {sep:List (Nat×Nat)} {ops:Array Oper} {ds:List (Option Tmp)} {listed:Array Bool} {L:List Nat} {w:World}

def hkB (own:Bool):Builtin->Nat
 | .len=>0
 | .max=>0
 | .min=>0
 | .append=>if own then 2 else 1
 | _=>2
def hk (own:Bool):Op->Nat
 | .move _=>0
 | .assign _=>0
 | .pick _ _ _=>0
 | .build _ _=>0
 | .binOp _ _ _ _ _=>0
 | .unOp _ _ _=>0
 | .convert _ _ _=>0
 | .makeFunc _ _ _=>0
 | .fieldAddr _ _ _=>0
 | .field _ _ _=>0
 | .index _ _ _=>0
 | .extract _ _=>0
 | .nilCheck _=>0
 | .load _ _=>1
 | .slice _ _ _ _ _=>if own then 2 else 1
 | .indexAddr _ _ _=>1
 | .lookup _ _ _ _=>1
 | .buildSlice _ _ _=>if own then 3 else 0
 | .makeSlice _ _ _=>if own then 3 else 0
 | .call c=>match c.callee with
   | .builtin b=>hkB own b
   | _=>if own then 1 else 4
 | .alloc _=>3
 | .makeMap _ _=>3
 | _=>2
def DEx (E:Env)(own:Bool)(op:Op)(F:Fr)(h:Hp)(v:AV)(h':Hp):Prop :=
 match op with
 | .call { callee:=.value f,args:=as,.. }=>match ev E F f with
   | .fn (.func fid) first caps=>h'=h∧PCall E fid (first++(as.toList.map (ev E F)++caps)) h v∧(own=true->∀x,PCall E fid (first++(as.toList.map (ev E F)++caps)) (h++x) v)
   | _=>False
 | op=>aop E.P own h (ev E F) op=some (v,h')
theorem DEx.exec (hd:DEx E own op F h v h')(hk:K v h'):NG E own op F h K:=by
 unfold DEx at hd;unfold NG;split at hd
 .split at hd
  .rename_i hf
   simp only[hf];obtain⟨rfl,hc,_⟩:=hd;exact hc.use hk
  .exact hd.elim
 .split
  .simp_all
  .simp [aop] at hd
  .rw[hd]; exact hk
theorem gD {ρ ρ':Operand->AV}:∀ {l:List (Nat×Operand)},(∀x∈l.map (·.2),ρ x=ρ' x)->evp ρ l=evp ρ' l
 | [],_=>rfl
 | (i,x)::r,h=>by
   simp only[evp];rw[h x AZ,gD (fun y hy=>h y (by simp at hy|-; exact .inr hy))]
theorem uR {ρ':Operand->AV}(he:∀x∈op.operands,ρ x=ρ' x):aop P own h ρ op=aop P own h ρ' op:=by
 cases op<;>simp only[Op.operands] at he<;>simp only[aop]
 case build t ps=>rw[gD (ρ:=ρ) (ρ':=ρ') fun x hx=>he x (BG hx)]
 case buildSlice t n ps=>rw[gD (ρ:=ρ) (ρ':=ρ') fun x hx=>he x (BG hx)]
 case makeFunc fn first captured =>
  rw[yA (l:=first.toList) fun x hx=>he x (by simp at hx; simp [hx]),yA (l:=captured.toList) fun x hx=>he x (by simp at hx; simp [hx])]
 case call c =>
  have h1:c.args.toList.map ρ=c.args.toList.map ρ':=yA fun x hx=>he x (by simp at hx; simp [Call.operands,hx])
  rw[h1]
 case slice t x lo hi mx=>cases lo<;>cases hi<;>cases mx<;>simp_all
 all_goals (first|rfl|(simp_all; done))
theorem APO (he:∀x∈op.operands,ev E F x=ev E F' x)(hd:DEx E own op F h v h'):DEx E own op F' h v h':=by
 unfold DEx at *;split at hd
 .rename_i f as ats
  have h1:ev E F f=ev E F' f:=he f (by simp [Op.operands,Call.operands]);have h2:as.toList.map (ev E F)=as.toList.map (ev E F'):=yA fun x hx=>he x (by simp at hx; simp [Op.operands,Call.operands,hx])
  rw[h1,h2] at hd;exact hd
 .rw[uR he] at hd
  exact hd
theorem MV {x:Option AV}(e:ofO h x=some (v,h')):h'=h∧ofO h2 x=some (v,h2):=by
 obtain⟨h1,h3⟩:=GK e;rw[h1]; exact⟨h3,rfl⟩
theorem AZ0 (h0:hk own op=0)(ha:aop P own h ρ op=some (v,h')):h'=h∧∀h2,aop P own h2 ρ op=some (v,h2):=by
 cases op<;>simp only[hk] at h0<;>first|(cases h0; done)|skip
 case move=>simp only[aop] at *; cases ha; exact⟨rfl,fun _=>rfl⟩
 case assign=>simp only[aop] at *; cases ha; exact⟨rfl,fun _=>rfl⟩
 case pick c a b =>
  simp only[aop] at *;split at ha
  .rename_i e; cases ha; exact⟨rfl,fun _=>rfl⟩
  .rename_i e; cases ha; exact⟨rfl,fun _=>rfl⟩
  .cases ha
 case nilCheck x =>
  simp only[aop] at *;split at ha
  .rename_i e; cases ha; exact⟨rfl,fun _=>rfl⟩
  .rename_i e; cases ha; exact⟨rfl,fun _=>rfl⟩
  .cases ha
 case makeFunc=>simp only[aop] at *; cases ha; exact⟨rfl,fun _=>rfl⟩
 case extract t i =>
  simp only[aop] at *;split at ha
  .exact⟨(MV (h2:=h) ha).1,fun h2=>(MV ha).2⟩
  .cases ha
 case buildSlice t n ps =>
  split at h0
  .cases h0
  .rename_i ho
   have ho':own=false:=BG ho;subst ho';simp only[aop,C9] at *;split at ha
   case h_2=>cases ha
   split at ha
   case h_2=>cases ha
   split at ha
   case h_2=>cases ha
   split at ha
   case h_2=>cases ha
   split at ha
   case isFalse=>cases ha
   try simp only[qU,if_false] at ha
   split at ha
   case isFalse=>cases ha
   cases ha;refine⟨rfl,fun h2=>?_⟩
   simp_all
   assumption
 case makeSlice t l c =>
  split at h0
  .cases h0
  .rename_i ho
   have ho':own=false:=BG ho;subst ho';simp only[aop,GR] at *;split at ha
   case h_2=>cases ha
   split at ha
   case h_2=>cases ha
   split at ha
   case h_2=>cases ha
   split at ha
   case h_2=>cases ha
   split at ha
   case isFalse=>cases ha
   try simp only[qU,if_false] at ha
   split at ha
   case isFalse=>cases ha
   cases ha;refine⟨rfl,fun h2=>?_⟩
   simp_all
 case call c =>
  split at h0
  case h_2=>split at h0<;>cases h0
  rename_i b hb;simp only[aop,hb] at *
  cases b<;>simp only[hkB] at h0<;>first|(cases h0; done)|skip
  .split at h0<;>cases h0
  .simp only[RN] at *
   split at ha
   .exact⟨(MV (h2:=h) ha).1,fun h2=>(MV ha).2⟩
   .cases ha
  .simp only[RN] at *
   split at ha
   .exact⟨(MV (h2:=h) ha).1,fun h2=>(MV ha).2⟩
   .cases ha
  .simp only[RN] at *
   split at ha
   .exact⟨(MV (h2:=h) ha).1,fun h2=>(MV ha).2⟩
   .cases ha
 case slice=>split at h0<;>cases h0
 all_goals
  simp only[aop] at *;exact⟨(MV (h2:=h) ha).1,fun h2=>(MV ha).2⟩
theorem AZZ (h0:hk own op=1)(ha:aop P own h ρ op=some (v,h')):h'=h:=by
 cases op<;>simp only[hk] at h0<;>first|(cases h0; done)|skip
 case load=>simp only[aop] at ha; exact(GK ha).2
 case slice =>
  split at h0
  .cases h0
  .rename_i ho
   have ho':own=false:=BG ho;subst ho';simp only[aop] at ha; exact(GK ha).2
 case indexAddr=>simp only[aop] at ha; exact(GK ha).2
 case lookup=>simp only[aop] at ha; exact(GK ha).2
 case buildSlice=>split at h0<;>cases h0
 case makeSlice=>split at h0<;>cases h0
 case call c =>
  split at h0
  .rename_i b hb
   simp only[aop,hb] at ha
   cases b<;>simp only[hkB] at h0<;>first|(cases h0; done)|skip
   split at h0
   .cases h0
   .rename_i ho
    have ho':own=false:=BG ho;subst ho';simp only[RN] at ha;split at ha
    case h_2=>cases ha
    split at ha
    case isFalse=>cases ha
    unfold EP at ha
    have bumpF:∀(e:TypeId) (m:SM) (k:Nat) (xs ys:List (List AV)) (kill:Option Nat) (s:AV),bump P false h e m k xs ys kill s=some (v,h')->h'=h:=by
     intro e m k xs ys kill s hb;unfold bump at hb;split at hb
     .cases hb; rfl
     .split at hb
      .split at hb
       .split at hb
        .simp at hb
        .simp at hb; exact hb.2.symm
       .cases hb
      .cases hb
    split at ha
    case h_2=>cases ha
    split at ha
    case h_2=>cases ha
    split at ha
    case h_2=>cases ha
    split at ha
    .exact bumpF _ _ _ _ _ _ _ ha
    .split at ha
     .exact bumpF _ _ _ _ _ _ _ ha
     .cases ha
    .split at ha
     .split at ha
      .exact bumpF _ _ _ _ _ _ _ ha
      .cases ha
     .cases ha
    .cases ha
  .rename_i hb
   simp only[aop] at ha
   first
    | (cases ha; done)
    | (split at ha
       .rename_i b' hb'; exact absurd hb' (hb b')
       .cases ha)
theorem lG {x:ABlk}(y:ABlk)(hb:h[b]?=some x):(h++[y])[b]?=some x:=by
 rw[zX]
 .exact hb
 .rcases jW b h.length with h1|h1
  .exact h1
  .rw[zY h1] at hb; cases hb
theorem AM0 {r:List AV×Nat}(y:ABlk)(hr:rowAt h a=some r):rowAt (h++[y]) a=some r:=by
 unfold rowAt at *;split at hr
 .split at hr
  .rename_i k xs hb
   simp only[lG y hb]; exact hr
  .cases hr
 .exact hr
 .cases hr
theorem gK {r:Nat×List (List AV)}(y:ABlk)(hr:IV h a=some r):IV (h++[y]) a=some r:=by
 unfold IV at *;split at hr
 .exact hr
 .split at hr
  .rename_i hb
   simp only[lG y hb]; exact hr
  .cases hr
 .cases hr
theorem ABP {ys:List (List AV)}(y:ABlk)(hr:SS P h k t x=some ys):SS P (h++[y]) k t x=some ys:=by
 unfold SS at *;split at hr
 .exact hr
 .split at hr
  .rename_i hc
   simp only[gK y hc]; exact hr
  .cases hr
 .cases hr
theorem nR {t0 t1:TypeId}(y:ABlk)(hr:TF P h t0 t1 s x=true):TF P (h++[y]) t0 t1 s x=true:=by
 unfold TF at *;split at hr
 .split at hr
  .split at hr
   .rename_i h1 h2
    simp only[ABP y h1,gK y h2]; exact hr
   .cases hr
  .cases hr
 .cases hr
theorem pB {e:TypeId}{m:SM}{xs ys:List (List AV)}{kill:Option Nat}(y:ABlk)(hr:bump P false h e m k xs ys kill s=some (v,h')):bump P false (h++[y]) e m k xs ys kill s=some (v,h++[y]):=by
 unfold bump at *;split at hr
 .rename_i h0; rw[if_pos h0]; cases hr; rfl
 .rename_i h0
  rw[if_neg h0];split at hr
  .split at hr
   .rename_i hc
    rw[if_pos hc]
    cases kill<;>simp at hr|-
    exact hr.1
   .cases hr
  .cases hr
theorem AF1 {t0 t1:TypeId}(y:ABlk)(hr:EP P false h t0 t1 s x=some (v,h')):EP P false (h++[y]) t0 t1 s x=some (v,h++[y]):=by
 unfold EP at *;split at hr
 case h_2=>cases hr
 split at hr
 case h_2=>cases hr
 split at hr
 case h_2=>cases hr
 rename_i h3;simp only[ABP y h3];split at hr
 .exact pB y hr
 .split at hr
  .rename_i hc; rw[if_pos hc]; exact pB y hr
  .cases hr
 .split at hr
  .rename_i h4
   simp only[gK y h4];split at hr
   .rename_i hc; rw[if_pos hc]; exact pB y hr
   .cases hr
  .cases hr
 .cases hr
theorem APK (y:ABlk)(hr:BH P h t a=some v):BH P (h++[y]) t a=some v:=by
 unfold BH at *;split at hr
 .rename_i h1; simp only[AM0 y h1]; exact hr
 .cases hr
theorem AIZ {lo hi mx:Option AV}(y:ABlk)(hr:IA P h t x lo hi mx=some v):IA P (h++[y]) t x lo hi mx=some v:=by
 unfold IA at *;split at hr
 .exact hr
 .split at hr
  .exact hr
  .split at hr
   .split at hr
    .rename_i hb; simp only[lG y hb]; exact hr
    .cases hr
   .cases hr
  .cases hr
 .cases hr
theorem pS {ix:AV}(y:ABlk)(hr:EJ P h t a ix=some v):EJ P (h++[y]) t a ix=some v:=by
 unfold EJ at *;split at hr
 .split at hr
  .split at hr
   .exact hr
   .split at hr
    .rename_i hb; simp only[lG y hb]; exact hr
    .cases hr
   .cases hr
  .exact hr
  .cases hr
 .cases hr
theorem AF0 {m k:AV}{ok:Bool}(y:ABlk)(hr:lO P h t m k ok=some v):lO P (h++[y]) t m k ok=some v:=by cases hr
theorem lE {x x':Option AV}(y:ABlk)(hx:∀v,x=some v->x'=some v)(hr:ofO h x=some (v,h')):ofO (h++[y]) x'=some (v,h++[y]):=by
 obtain⟨h1,h2⟩:=GK hr;rw[hx v h1]; rfl
theorem AFQ (y:ABlk)(h0:hk own op=1)(ha:aop P own h ρ op=some (v,h')):aop P own (h++[y]) ρ op=some (v,h++[y]):=by
 cases op<;>simp only[hk] at h0<;>first|(cases h0; done)|skip
 case load=>simp only[aop] at *; exact lE y (fun _=>APK y) ha
 case slice =>
  split at h0
  .cases h0
  .rename_i ho
   have ho':own=false:=BG ho;subst ho';simp only[aop] at *; exact lE y (fun _=>AIZ y) ha
 case indexAddr=>simp only[aop] at *; exact lE y (fun _=>pS y) ha
 case lookup=>simp only[aop] at *; exact lE y (fun _=>AF0 y) ha
 case buildSlice=>split at h0<;>cases h0
 case makeSlice=>split at h0<;>cases h0
 case call c =>
  split at h0
  .rename_i b hb
   simp only[aop,hb] at *
   cases b<;>simp only[hkB] at h0<;>first|(cases h0; done)|skip
   split at h0
   .cases h0
   .rename_i ho
    have ho':own=false:=BG ho;subst ho';simp only[RN] at *;split at ha
    case h_2=>cases ha
    split at ha
    case isFalse=>cases ha
    rename_i hfz;simp only[wV] at hfz;simp only[nR y hfz,Bool.or_true,if_true];exact AF1 y ha
  .rename_i hb
   simp only[aop] at ha
   first
    | (cases ha; done)
    | (split at ha
       .rename_i b' hb'; exact absurd hb' (hb b')
       .cases ha)
theorem A0G (y:ABlk)(h0:hk own op=1)(hd:DEx E own op F h v h'):DEx E own op F (h++[y]) v (h++[y]):=by
 unfold DEx at *;split at hd
 .split at hd
  .obtain⟨_,_,h2⟩:=hd
   have ho:own=true:=by
    simp only[hk] at h0;cases own
    .simp at h0
    .rfl
   refine⟨rfl,h2 ho [y],fun _ x=>?_⟩;rw[List.append_assoc]; exact h2 ho _
  .exact hd.elim
 .exact AFQ y h0 hd
theorem APP (h0:hk own op=3)(hd:DEx E own op F h v h'):∃y,h'=h++[y]:=by
 cases op<;>simp only[hk] at h0<;>first|(cases h0; done)|skip
 case slice=>split at h0<;>cases h0
 case makeMap t r =>
  simp only[DEx,aop] at hd
  cases r with
  | none=>cases hd; exact⟨_,rfl⟩
  | some r=>cases hd
 case alloc t =>
  simp only[DEx,aop,GU,MS] at hd;split at hd
  .split at hd
   .cases hd; exact⟨_,rfl⟩
   .cases hd
  .cases hd
 case buildSlice =>
  split at h0
  .rename_i ho
   subst ho;simp only[DEx,aop,C9] at hd
   repeat' split at hd
   all_goals first|(cases hd; done)|(cases hd; exact⟨_,rfl⟩)|simp_all
  .cases h0
 case makeSlice =>
  split at h0
  .rename_i ho
   subst ho;simp only[DEx,aop,GR] at hd
   repeat' split at hd
   all_goals first|(cases hd; done)|(cases hd; exact⟨_,rfl⟩)|simp_all
  .cases h0
 case call c =>
  split at h0
  .rename_i b hb
   cases b<;>simp only[hkB] at h0<;>first|(cases h0; done)|(split at h0<;>cases h0)
  .split at h0<;>cases h0
theorem A0F (h0:hk own op=0)(hd:DEx E own op F h v h'):h'=h∧∀h2,DEx E own op F h2 v h2:=by
 unfold DEx at *;split at hd
 .simp only[hk] at h0
  split at h0<;>cases h0
 .exact AZ0 h0 hd
theorem A0E (h0:hk own op=1∨hk own op=4)(hd:DEx E own op F h v h'):h'=h:=by
 unfold DEx at *;split at hd
 .split at hd
  .exact hd.1
  .exact hd.elim
 .rename_i hno
  rcases h0 with h0|h0
  .exact AZZ h0 hd
  .exfalso
   cases op<;>simp only[hk] at h0<;>first|(cases h0; done)|skip
   case buildSlice=>split at h0<;>cases h0
   case makeSlice=>split at h0<;>cases h0
   case slice=>split at h0<;>cases h0
   case call c =>
    split at h0
    .rename_i b hb
     cases b<;>simp only[hkB] at h0<;>first|(cases h0; done)|(split at h0<;>cases h0)
    .rename_i hb
     simp only[aop] at hd
     first
      | (cases hd; done)
      | (split at hd
         .rename_i b' hb'; exact absurd hb' (hb b')
         .cases hd)
def ECall (E:Env)(op:Op)(F:Fr)(h:Hp)(v:AV)(h':Hp):Prop :=
 match op with
 | .call { callee:=.value f,args:=as,.. }=>match ev E F f with
   | .fn (.func fid) first caps=>ACalls E fid (first++(as.toList.map (ev E F)++caps)) h fun v1 h1=>v1=v∧h1=h'
   | _=>False
 | _=>False
theorem ECall.exec (hd:ECall E op F h v h')(hk:K v h'):NG E own op F h K:=by
 unfold ECall at hd;unfold NG;split at hd
 .split at hd
  .rename_i hf
   simp only[hf];exact hd.mono fun v1 h1 ⟨e1,e2⟩=>by rw[e1,e2]; exact hk
  .exact hd.elim
 .exact hd.elim
theorem AGB (he:∀x∈op.operands,ev E F x=ev E F' x)(hd:ECall E op F h v h'):ECall E op F' h v h':=by
 unfold ECall at *;split at hd
 .rename_i f as ats
  have h1:ev E F f=ev E F' f:=he f (by simp [Op.operands,Call.operands]);have h2:as.toList.map (ev E F)=as.toList.map (ev E F'):=yA fun x hx=>he x (by simp at hx; simp [Op.operands,Call.operands,hx])
  rw[h1,h2] at hd;exact hd
 .exact hd.elim
def DExO (E:Env)(md:Nat->Bool)(o:Oper)(F:Fr)(h:Hp)(v:AV)(h':Hp):Prop :=
 match md (o.dst.getD 0+1000000) with
 | false=>DEx E (md (o.dst.getD 0)) o.op F h v h'
 | true=>ECall E o.op F h v h'
def hkO (md:Nat->Bool)(o:Oper):Nat :=
 match md (o.dst.getD 0+1000000) with
 | false=>hk (md (o.dst.getD 0)) o.op
 | true=>2
theorem DExO.exec {E:Env}{md:Nat->Bool}{o:Oper}{F:Fr}{h h':Hp}{v:AV}{K:AV->Hp->Prop}(hd:DExO E md o F h v h')(hk:K v h'):NG E (md (o.dst.getD 0)) o.op F h K:=by
 unfold DExO at hd;split at hd
 .exact hd.exec hk
 .exact hd.exec hk
theorem cF (he:∀x∈o.op.operands,ev E F x=ev E F' x)(hd:DExO E md o F h v h'):DExO E md o F' h v h':=by
 unfold DExO at *;split at hd
 .exact APO he hd
 .exact AGB he hd
theorem pZ (h0:hkO md o=0)(hd:DExO E md o F h v h'):h'=h∧∀h2,DExO E md o F h2 v h2:=by
 unfold DExO at *;unfold hkO at h0;split at hd
 .rename_i he; simp only[he] at h0|-; exact A0F h0 hd
 .rename_i he; simp only[he] at h0; cases h0
theorem pY (h0:hkO md o=1∨hkO md o=4)(hd:DExO E md o F h v h'):h'=h:=by
 unfold DExO at hd;unfold hkO at h0;split at hd
 .rename_i he; simp only[he] at h0; exact A0E h0 hd
 .rename_i he; simp only[he] at h0; rcases h0 with h0|h0<;>cases h0
theorem AVQ (y:ABlk)(h0:hkO md o=1)(hd:DExO E md o F h v h'):DExO E md o F (h++[y]) v (h++[y]):=by
 unfold DExO at *;unfold hkO at h0;split at hd
 .rename_i he; simp only[he] at h0|-; exact A0G y h0 hd
 .rename_i he; simp only[he] at h0; cases h0
theorem AI7 (h0:hkO md o=3)(hd:DExO E md o F h v h'):∃y,h'=h++[y]:=by
 unfold DExO at hd;unfold hkO at h0;split at hd
 .rename_i he; simp only[he] at h0; exact APP h0 hd
 .rename_i he; simp only[he] at h0; cases h0
def AStep (E:Env)(md:Nat->Bool)(ds:List (Option Tmp))(o:Oper)(s s':Fr×Hp):Prop :=
 (MO ds s.1 o.guard=some true∧∃v h',DExO E md o s.1 s.2 v h'∧s'=(FV s.1 o.dst v,h')) ∨
 (MO ds s.1 o.guard=some false∧s'=(FV s.1 o.dst GZ,s.2))
def ZM:AV->AV->Prop
 | .ptr b _ _,.ptr b' _ _=>b≠b'
 | _,_=>True
def QB (F:Fr):List (Nat×Nat)->Prop
 | []=>True
 | (t,u)::r=>ZM (F t) (F u)∧QB F r
def aV (sep:List (Nat×Nat))(t u:Nat):Bool:=sep.any fun p=>(p.1==t&&p.2==u)||(p.1==u&&p.2==t)
def faB (sep:List (Nat×Nat))(op:Op)(u:Nat):Bool:=match op with
 | .fieldAddr _ (.tmp t) _=>aV sep t u
 | _=>false
def ZY (sep:List (Nat×Nat))(ops:List Oper):Bool:=ops.all fun o=>match o.dst with
 | none=>true
 | some d=>sep.all fun p=>p.1 != p.2&&(p.1 != d||faB sep o.op p.2)&&(p.2 != d||faB sep o.op p.1)
theorem YX {b:AV}(h:ZM a b):ZM b a:=by
 cases a<;>cases b<;>simp only[ZM] at * <;> exact Ne.symm h
theorem pU {F:Fr}:∀ {sep:List (Nat×Nat)},QB F sep↔∀p∈sep,ZM (F p.1) (F p.2)
 | []=>⟨fun _ _ h=>by (cases h),fun _=>trivial⟩
 | (a,b)::r=>by
   unfold QB;rw[pU];simp only[zQ,forall_eq_or_imp]
theorem eN {t:Nat}(hs:QB F sep)(h:aV sep t u=true):ZM (F t) (F u):=by
 unfold aV at h;rw[qL] at h;obtain⟨p,hp,hq⟩:=h;have:=pU.1 hs p hp;simp only[qN,jO,beq_iff_eq] at hq;rcases hq with⟨h1,h2⟩|⟨h1,h2⟩
 .rw[h1,h2] at this; exact this
 .rw[h1,h2] at this; exact YX this
theorem rT {y:AV}{f:Nat}(hv:BD P t x f=some v)(hs:ZM x y):ZM v y:=by
 unfold BD at hv;split at hv
 case h_2=>cases hv
 split at hv
 case h_2=>cases hv
 split at hv
 case h_2=>cases hv
 split at hv
 .cases hv
  cases y<;>simp only[ZM] at * <;> exact hs
 .cases hv; exact trivial
 .cases hv
theorem AJJ {d:Tmp}(hs:QB F sep)(hv:∀p∈sep,p.1≠p.2∧(p.1=d->ZM v (F p.2))∧(p.2=d->ZM (F p.1) v)):QB (upd F d v) sep:=by
 rw[pU] at *;intro p hp;obtain⟨h0,h1,h2⟩:=hv p hp;have h3:=hs p hp;simp only[upd];by_cases e1:p.1=d
 .have e2:p.2≠d:=fun e=>h0 (e1.trans e.symm)
  rw[if_pos e1,if_neg e2]; exact h1 e1
 .rw[if_neg e1]
  by_cases e2:p.2=d
  .rw[if_pos e2]; exact h2 e2
  .rw[if_neg e2]; exact h3
theorem mF (y:AV):ZM GZ y:=by unfold GZ; trivial
theorem AI3 {ops:List Oper}(hok:ZY sep ops=true)(ho:o∈ops)(hs:QB F sep):QB (FV F o.dst GZ) sep:=by
 have:=zL.1 hok o ho
 cases hd:o.dst with
 | none=>exact hs
 | some d =>
   rw[hd] at this;simp only[zL,jO,bne_iff_ne] at this;exact AJJ hs fun p hp=>⟨(this p hp).1.1,fun _=>mF _,fun _=>YX (mF _)⟩
def AMQ (sep:List (Nat×Nat))(x y:Op):Bool:=match x,y with
 | .load _ (.tmp t),.store _ (.tmp u) _=>aV sep t u
 | .store _ (.tmp t) _,.load _ (.tmp u)=>aV sep t u
 | .store _ (.tmp t) _,.store _ (.tmp u) _=>aV sep t u
 | .indexAddr _ _ _,.store _ _ _=>true
 | .store _ _ _,.indexAddr _ _ _=>true
 | _,_=>false
def U4 (md:Nat->Bool)(sep:List (Nat×Nat))(x y:Oper):Bool :=
 let a:=hkO md x
 let b:=hkO md y
 a==0||b==0||((a==1||a==4)&&(b==1||b==4))||(a==1&&b==3)||AMQ sep x.op y.op
theorem uZ {b' i' j':Nat}{blk:ABlk}(hne:ZM a (.ptr b' i' j')):BH P (h.set b' blk) t a=BH P h t a:=by
 have:rowAt (h.set b' blk) a=rowAt h a:=by
  cases a<;>simp only[rowAt];rw[jY (Ne.symm hne)]
 unfold BH;rw[this]
theorem TV (hs:DT P h t a v=some h'):∃b i j,a=.ptr b i j:=by
 unfold DT at hs;split at hs
 .exact⟨_,_,_,rfl⟩
 .cases hs
theorem UX (hs:DT P h t (.ptr b i j) v=some h'):∃blk,h'=h.set b blk∧∀h2:Hp,h2[b]?=h[b]?->DT P h2 t (.ptr b i j) v=some (h2.set b blk):=by
 simp only[DT] at hs;split at hs
 case h_2=>cases hs
 rename_i k xs hb;split at hs
 case h_2=>cases hs
 rename_i row hr;split at hs
 case h_2=>cases hs
 rename_i cs hc;split at hs
 case isFalse=>cases hs
 rename_i hif;cases hs;refine⟨_,rfl,fun h2 he=>?_⟩;simp only[DT,he,hb,hr,hc];rw[if_pos hif]
theorem xT {x y:ABlk}(hb:h[b]?=some x):(h.set b y)[b]?=some y:=by
 have:=Z hb;rw[List.getElem?_set,if_pos rfl,if_pos this]
theorem VT {t':TypeId}{ix b:AV}(hs:DT P h t' b v=some h'):EJ P h' t a ix=EJ P h t a ix:=by
 obtain⟨b1,i1,j1,rfl⟩:=TV hs;simp only[DT] at hs;split at hs
 case h_2=>cases hs
 rename_i k xs hb;split at hs
 case h_2=>cases hs
 split at hs
 case h_2=>cases hs
 split at hs
 case isFalse=>cases hs
 cases hs;unfold EJ;cases ix<;>try rfl
 cases P.underlying t with
 | none=>rfl
 | some d =>
   cases d<;>try rfl
   cases a<;>try rfl
   rename_i b0 off len;by_cases e:b0=b1
   .subst e
    simp only[xT hb,hb]
   .simp only[jY (Ne.symm e)]
theorem AJU {x y:Op}(hb:AMQ sep x y=true):¬ECall E x F h v h1∧¬ECall E y F h v h1:=by
 unfold AMQ at hb;split at hb
 case h_6=>cases hb
 all_goals exact⟨fun h=>h,fun h=>h⟩
theorem A0D {o1 o2:Bool}{x y:Op}{u:AV}(hs:QB F sep)(hb:AMQ sep x y=true)(hx:DEx E o1 x F h v h1)(hy:DEx E o2 y F h1 u h2):
  ∃h',DEx E o2 y F h u h'∧DEx E o1 x F h' v h2:=by
 unfold AMQ at hb;split at hb
 case h_6=>cases hb
 .rename_i t a t' c z
  have hsep:=eN hs hb
  simp only[DEx,aop,ev] at hx hy|-
  obtain⟨p1,rfl⟩:=GK hx;obtain⟨q1,rfl⟩:=Q4 hy;obtain⟨b2,i2,j2,e2⟩:=TV q1;rw[e2] at hsep
  simp only[e2] at q1|-
  obtain⟨blk,rfl,_⟩:=UX q1;exact⟨_,by rw[q1]; rfl,by rw[uZ hsep,p1]; rfl⟩
 .rename_i t a z t' c
  have hsep:=eN hs hb
  simp only[DEx,aop,ev] at hx hy|-
  obtain⟨p1,rfl⟩:=Q4 hx;obtain⟨q1,rfl⟩:=GK hy;obtain⟨b1,i1,j1,e1⟩:=TV p1;rw[e1] at hsep
  simp only[e1] at p1|-
  obtain⟨blk,rfl,_⟩:=UX p1;rw[uZ (YX hsep)] at q1;exact⟨_,by rw[q1]; rfl,by rw[p1]; rfl⟩
 .rename_i t a z t' c z'
  have hsep:=eN hs hb
  simp only[DEx,aop,ev] at hx hy|-
  obtain⟨p1,rfl⟩:=Q4 hx;obtain⟨q1,rfl⟩:=Q4 hy;obtain⟨b1,i1,j1,e1⟩:=TV p1;obtain⟨b2,i2,j2,e2⟩:=TV q1;rw[e1,e2] at hsep;have hne:b1≠b2:=hsep
  simp only[e1,e2] at p1 q1|-
  obtain⟨blk,rfl,p2⟩:=UX p1;obtain⟨blk',rfl,q2⟩:=UX q1;have g1:h[b2]?=(h.set b1 blk)[b2]? := by rw[jY hne]
  have g2:(h.set b2 blk')[b1]?=h[b1]? := by rw[jY (Ne.symm hne)]
  refine⟨h.set b2 blk',by rw[q2 h g1]; rfl,?_⟩;rw[p2 _ g2,List.set_comm _ _ hne];rfl
 .simp only[DEx,aop] at hx hy|-
  obtain⟨p1,rfl⟩:=GK hx;obtain⟨q1,rfl⟩:=Q4 hy;exact⟨_,by rw[q1]; rfl,by rw[VT q1,p1]; rfl⟩
 .simp only[DEx,aop] at hx hy|-
  obtain⟨p1,rfl⟩:=Q4 hx;obtain⟨q1,rfl⟩:=GK hy;rw[VT p1] at q1;exact⟨_,by rw[q1]; rfl,by rw[p1]; rfl⟩
theorem KU (F:Fr){x y:Option Tmp}(v u:AV)(h:∀d,x=some d->y≠some d):FV (FV F x v) y u=FV (FV F y u) x v:=by
 cases x with
 | none=>rfl
 | some d =>
   cases y with
   | none=>rfl
   | some e =>
     have hne:e≠d:=fun he=>h d rfl (he▸rfl)
     funext i;simp only[FV,upd];by_cases h1:i=e
     .subst h1; simp [hne]
     .simp [h1]
theorem yZ {dst:Option Tmp}{x:Operand}(h:∀d,dst=some d->x≠.tmp d):ev E (FV F dst v) x=ev E F x:=by
 cases dst with
 | none=>rfl
 | some d =>
   cases x with
   | tmp t =>
     have:t≠d:=fun e=>h d rfl (e▸rfl)
     simp [ev,FV,upd,this]
   | _=>rfl
theorem dG {d:Tmp}(h:d ∉ o.looksAt ops):∀x∈o.op.operands,x≠.tmp d:=by
 intro x hx he;subst he;refine h (zI.2 (.inl ?_));rw[List.mem_filterMap];exact⟨.tmp d,BG hx,rfl⟩
theorem cK {dst:Option Tmp}(h:∀d,dst=some d->d ∉ o.looksAt ops):
  MO (ops.toList.map (·.dst)) (FV F dst v) o.guard=MO (ops.toList.map (·.dst)) F o.guard:=by
 unfold MO;split
 .rfl
 .rename_i j want hg
  rw[xU];have hops:(ops.toList[j]?).bind (·.dst)=(ops[j]?).bind (·.dst):=AZ;rw[hops]
  cases hd:(ops[j]?).bind (·.dst) with
  | none=>rfl
  | some d =>
    simp only
    have:FV F dst v d=F d:=by
     cases dst with
     | none=>rfl
     | some e =>
       have hne:d≠e:=by
        intro he;subst he;refine h d rfl (zI.2 (.inr ?_));rw[hg];simp [hd]
       simp [FV,upd,hne]
    rw[this]
theorem AVP {x y:Oper}{u:AV}(hs:QB F sep)(hb:AMQ sep x.op y.op=true)(hx:DExO E md x F h v h1)(hy:DExO E md y F h1 u h2):
  ∃h',DExO E md y F h u h'∧DExO E md x F h' v h2:=by
 unfold DExO at *;split at hx
 case h_2=>exact absurd hx (AJU hb).1
 rename_i e1;split at hy
 case h_2=>exact absurd hy (AJU hb).2
 rename_i e2;exact A0D hs hb hx hy
theorem qS {E:Env}{md:Nat->Bool}{sep:List (Nat×Nat)}{ops:Array Oper}{x y:Oper}{s s1 s2:Fr×Hp}(hsep:QB s.1 sep)(hap:x.apart ops y=true)(hco:U4 md sep x y=true)
  (hx:AStep E md (ops.toList.map (·.dst)) x s s1) (hy:AStep E md (ops.toList.map (·.dst)) y s1 s2):∃t,AStep E md (ops.toList.map (·.dst)) y s t∧AStep E md (ops.toList.map (·.dst)) x t s2:=by
 obtain⟨p1,p2,p3⟩:=Oper.apart_spec hap;obtain⟨F,h⟩:=s
 have exY:∀ {v u:AV} {h1 h2:Hp},DExO E md y (FV F x.dst v) h1 u h2->DExO E md y F h1 u h2:=fun hd =>
  cF (fun z hz=>yZ fun d hdd he=>dG (p1 d hdd) z hz he) hd
 have exX:∀ {v u:AV} {h1 h2:Hp},DExO E md x F h1 u h2->DExO E md x (FV F y.dst v) h1 u h2:=fun hd =>
  cF (fun z hz=>(yZ fun d hdd he=>dG (p3 d hdd) z hz he).symm) hd
 have wY:∀v,MO (ops.toList.map (·.dst)) (FV F x.dst v) y.guard=MO (ops.toList.map (·.dst)) F y.guard:=fun v=>cK p1
 have wX:∀v,MO (ops.toList.map (·.dst)) (FV F y.dst v) x.guard=MO (ops.toList.map (·.dst)) F x.guard:=fun v=>cK p3
 rcases hx with⟨a1,v,h1,a2,rfl⟩|⟨a1,rfl⟩<;>rcases hy with⟨b1,u,h2,b2,rfl⟩|⟨b1,rfl⟩
 .simp only at *
  rw[wY] at b1;have b2':=exY b2;simp only[U4,qN,jO,beq_iff_eq] at hco;rcases hco with (((hc|hc)|⟨hc1,hc2⟩)|⟨hc1,hc2⟩)|hc
  .obtain⟨rfl,hz⟩:=pZ hc a2
   exact⟨(FV F y.dst u,h2),.inl ⟨b1,u,h2,b2',rfl⟩,.inl ⟨by rw[wX]; exact a1,v,h2,exX (hz h2),by rw[KU F v u p2]⟩⟩
  .obtain⟨rfl,hz⟩:=pZ hc b2'
   exact⟨(FV F y.dst u,h),.inl ⟨b1,u,h,hz h,rfl⟩,.inl ⟨by rw[wX]; exact a1,v,_,exX a2,by rw[KU F v u p2]⟩⟩
  .have e1:=pY hc1 a2
   subst e1;have e2:=pY hc2 b2';subst e2;exact⟨(FV F y.dst u,_),.inl ⟨b1,u,_,b2',rfl⟩,.inl ⟨by rw[wX]; exact a1,v,_,exX a2,by rw[KU F v u p2]⟩⟩
  .have e1:=pY (.inl hc1) a2
   subst e1;obtain⟨blk,rfl⟩:=AI7 hc2 b2';exact⟨(FV F y.dst u,_),.inl ⟨b1,u,_,b2',rfl⟩,.inl ⟨by rw[wX]; exact a1,v,_,exX (AVQ blk hc1 a2),by rw[KU F v u p2]⟩⟩
  .obtain⟨h3,r1,r2⟩:=AVP hsep hc a2 b2'
   exact⟨(FV F y.dst u,h3),.inl ⟨b1,u,h3,r1,rfl⟩,.inl ⟨by rw[wX]; exact a1,v,_,exX r2,by rw[KU F v u p2]⟩⟩
 .simp only at *
  rw[wY] at b1;exact⟨(FV F y.dst GZ,h),.inr ⟨b1,rfl⟩,.inl ⟨by rw[wX]; exact a1,v,h1,exX a2,by rw[KU F v GZ p2]⟩⟩
 .simp only at *
  rw[wY] at b1;exact⟨(FV F y.dst u,h2),.inl ⟨b1,u,h2,exY b2,rfl⟩,.inr ⟨by rw[wX]; exact a1,by rw[KU F GZ u p2]⟩⟩
 .simp only at *
  rw[wY] at b1;exact⟨(FV F y.dst GZ,h),.inr ⟨b1,rfl⟩,.inr ⟨by rw[wX]; exact a1,by rw[KU F GZ GZ p2]⟩⟩
def anyA (E:Env)(md:Nat->Bool)(ops:Array Oper)(Q:Fr×Hp->Prop):Nat->Array Bool->Fr×Hp->Prop
 | 0,listed,s=>Region.ready .any ops listed=[]∧Q s
 | fuel+1,listed,s=>(Region.ready .any ops listed=[]->Q s) ∧
   ∀i∈Region.ready .any ops listed,∃o s',ops[i]?=some o∧AStep E md (ops.toList.map (·.dst)) o s s'∧anyA E md ops Q fuel (listed.setIfInBounds i true) s'
theorem AS9 (h:faB sep op u=true):∃ty t f,op=.fieldAddr ty (.tmp t) f∧aV sep t u=true:=by
 unfold faB at h;split at h
 .exact⟨_,_,_,rfl,h⟩
 .cases h
theorem AS8 (hs:QB F sep)(hf:faB sep o.op u=true)(hd:DExO E md o F h v h'):ZM v (F u):=by
 obtain⟨ty,t,f,e,hh⟩:=AS9 hf;have h1:=eN hs hh;unfold DExO at hd;rw[e] at hd;split at hd
 .simp only[DEx,aop,ev] at hd
  exact rT (GK hd).1 h1
 .exact hd.elim
theorem VU {ops:List Oper}{s s':Fr×Hp}(hok:ZY sep ops=true)(ho:o∈ops)(hs:QB s.1 sep)(h:AStep E md ds o s s'):QB s'.1 sep:=by
 rcases h with⟨_,v,h',hd,rfl⟩|⟨_,rfl⟩
 .have:=zL.1 hok o ho
  cases hdst:o.dst with
  | none=>exact hs
  | some d =>
    rw[hdst] at this;simp only[zL,jO,qN,bne_iff_ne] at this;refine AJJ hs fun p hp=>⟨(this p hp).1.1,fun e=>?_,fun e=>?_⟩
    .rcases (this p hp).1.2 with h1|h1
     .exact absurd e h1
     .exact AS8 hs h1 hd
    .rcases (this p hp).2 with h1|h1
     .exact absurd e h1
     .exact YX (AS8 hs h1 hd)
 .exact AI3 hok ho hs
theorem dF (h:ops[i]?=some o):o∈ops.toList:=by
 have:ops.toList[i]?=some o:=BG h;exact zZ this
theorem pM {E:Env}{md:Nat->Bool}{sep:List (Nat×Nat)}{ops:Array Oper}{Q:Fr×Hp->Prop}{i:Nat}{oi:Oper}(hok:ZY sep ops.toList=true)(hi:ops[i]?=some oi)(r:Nat->Bool)
  (hsup:∀j oj,ops[j]?=some oj->r j=true->j≠i->∃e∈oj.after,Region.binds .any e=true∧r e.on=true):∀(fuel:Nat) (listed:Array Bool) (s s1:Fr×Hp),
  (∀j,r j=true->listed.getD j true=false) ->
  (∀j oj,ops[j]?=some oj->j≠i->listed.getD j true=false->r j=false->oi.apart ops oj=true∧U4 md sep oi oj=true)->QB s.1 sep ->
  i∈Region.ready .any ops listed->AStep E md (ops.toList.map (·.dst)) oi s s1->anyA E md ops Q fuel (listed.setIfInBounds i true) s1->anyA E md ops Q (fuel+1) listed s:=by
 intro fuel
 induction fuel with
 | zero =>
   intro listed s s1 _ _ _ hr hy H;refine⟨fun h=>(by rw[h] at hr; cases hr),fun j hj=>?_⟩;by_cases hji:j=i
   .subst hji; exact⟨oi,s1,hi,hy,H⟩
   .have:=ready_mono hj hji
    rw[H.1] at this;cases this
 | succ fuel ih =>
   intro listed s s1 hun hfree hs hr hy H;refine⟨fun h=>(by rw[h] at hr; cases hr),fun j hj=>?_⟩;by_cases hji:j=i
   .subst hji; exact⟨oi,s1,hi,hy,H⟩
   .obtain⟨oj,s2,hoj,hst,hrest⟩:=H.2 j (ready_mono hj hji)
    obtain⟨hjun,oj',hoj',hall⟩:=mem_ready.1 hj;rw[hoj] at hoj'; cases hoj'
    have hrj:r j=false:=by
     cases hc:r j with
     | false=>rfl
     | true =>
       obtain⟨e,he,hb,hre⟩:=hsup j oj hoj hc hji;have h1:=hall e he hb;have h0:=hun e.on hre;rcases jW e.on listed.size with h'|h'
       .simp [h'] at h0 h1; rw[h0] at h1; cases h1
       .simp [Array.getElem?_eq_none h'] at h1
    obtain⟨q1,q2⟩:=hfree j oj hoj hji hjun hrj;obtain⟨t,t1,t2⟩:=qS hs q1 q2 hy hst
    have hun':∀k,r k=true->(listed.setIfInBounds j true).getD k true=false:=fun k hk=>by
     by_cases hjk:j=k
     .subst hjk; rw[hrj] at hk; cases hk
     .rw[getD_set_ne true hjk]; exact hun k hk
    have hfree':∀k ok,ops[k]?=some ok->k≠i->(listed.setIfInBounds j true).getD k true=false->r k=false->oi.apart ops ok=true∧U4 md sep oi ok=true:=fun k ok hk hki hun2 hno=>by
     refine hfree k ok hk hki ?_ hno;by_cases hjk:j=k
     .subst hjk; exact hjun
     .rw[getD_set_ne true hjk] at hun2; exact hun2
    refine⟨oj,t,hoj,t1,ih (listed.setIfInBounds j true) t s2 hun' hfree' (VU hok (dF hoj) hs t1) (ready_mono hr (Ne.symm hji)) t2 ?_⟩;rw[Array.setIfInBounds_comm _ _ hji];exact hrest
def ADC (acc:List Nat)(es:List Edge):Nat:=es.foldl (fun s e=>if Region.binds .any e then s ||| (2^e.on ||| acc.getD e.on 0) else s) 0
def kY:List Oper->List Nat->List Nat
 | [],acc=>acc
 | o::r,acc=>kY r (acc++[ADC acc o.after.toList])
def rowOk (md:Nat->Bool)(sep:List (Nat×Nat))(ops:Array Oper)(k:Nat)(x:Oper):List Oper->List Nat->Bool
 | y::r,m::ms=>(m.testBit k||(U4 md sep x y&&x.apart ops y))&&rowOk md sep ops k x r ms
 | _,_=>true
def lD (md:Nat->Bool)(sep:List (Nat×Nat))(ops:Array Oper):List Oper->List Nat->Nat->Bool
 | x::r,_::ms,k=>rowOk md sep ops k x r ms&&lD md sep ops r ms (k+1)
 | _,_,_=>true
def X7:List Oper->Nat->Bool
 | [],_=>true
 | o::r,k=>o.after.toList.all (fun e => !(Region.binds .any e)||Nat.blt e.on k)&&X7 r (k+1)
def AR2 (md:Nat->Bool)(sep:List (Nat×Nat))(ops:Array Oper):Bool:=X7 ops.toList 0&&lD md sep ops ops.toList (kY ops.toList []) 0
theorem bD:∀ {l:List Oper} {k:Nat},X7 l k=true->∀(i:Nat) (o:Oper),l[i]?=some o->∀e∈o.after,Region.binds .any e=true->e.on<k+i
 | [],_,_,i,o,h=>by simp at h
 | x::l,k,hl,i,o,h=>by
   simp only[X7,jO] at hl;intro e he hb
   cases i with
   | zero =>
     simp at h; subst h;have:=zL.1 hl.1 e (BG he);rw[hb] at this;simp only[Bool.not_true,wV,Nat.blt_eq] at this;exact this
   | succ i =>
     have:=bD hl.2 i o (BG h) e he hb;omega
theorem mK {md:Nat->Bool}{sep:List (Nat×Nat)}{ops:Array Oper}{k:Nat}{x:Oper}:∀ {l:List Oper} {ms:List Nat},rowOk md sep ops k x l ms=true->∀(j:Nat) (y:Oper),l[j]?=some y->j<ms.length ->
  (ms.getD j 0).testBit k=true∨(x.apart ops y=true∧U4 md sep x y=true)
 | [],_,_,j,y,h,_=>by simp at h
 | _::_,[],_,j,y,_,h=>by simp at h
 | z::l,m::ms,hr,j,y,h,hj=>by
   simp only[rowOk,jO,qN] at hr
   cases j with
   | zero =>
     simp at h; subst h;rcases hr.1 with h1|h1
     .exact .inl (BG h1)
     .exact .inr ⟨h1.2,h1.1⟩
   | succ j =>
     have:=mK hr.2 j y (BG h) (BG hj);simpa using this
theorem dA {md:Nat->Bool}{sep:List (Nat×Nat)}{ops:Array Oper}:∀ {l:List Oper} {ms:List Nat} {k:Nat},lD md sep ops l ms k=true->ms.length=l.length->∀(i j:Nat) (x y:Oper),i<j->l[i]?=some x->l[j]?=some y ->
  (ms.getD j 0).testBit (k+i)=true∨(x.apart ops y=true∧U4 md sep x y=true)
 | [],_,_,_,_,i,j,x,y,_,h,_=>by simp at h
 | _::_,[],_,_,hl,_,_,_,_,_,_,_=>by simp at hl
 | z::l,m::ms,k,hp,hl,i,j,x,y,hij,hx,hy=>by
   simp only[lD,jO] at hp;simp at hl;obtain⟨j',rfl⟩:∃j',j=j'+1:=⟨j-1,U⟩;have hy':l[j']?=some y:=BG hy
   cases i with
   | zero =>
     simp at hx; subst hx;have:=mK hp.1 j' y hy' (by have:=Z hy'; omega);simpa using this
   | succ i =>
     have:=dA hp.2 hl i j' x y U (BG hx) hy';rw[show k+1+i=k+(i+1) by omega] at this;simpa using this
theorem tK {acc:List Nat}{k:Nat}:∀(es:List Edge) (s:Nat),(es.foldl (fun s e=>if Region.binds .any e then s ||| (2^e.on ||| acc.getD e.on 0) else s) s).testBit k=true->s.testBit k=true∨∃e∈es,Region.binds .any e=true∧(e.on=k∨(acc.getD e.on 0).testBit k=true)
 | [],s,h=>.inl h
 | e::es,s,h=>by
   rw[wC] at h;rcases tK es _ h with h1|⟨e',h1,h2⟩
   .split at h1
    .rename_i hb
     rw[Nat.testBit_or,Nat.testBit_or,qN,qN,Nat.testBit_two_pow] at h1;rcases h1 with h1|h1|h1
     .exact .inl h1
     .exact .inr ⟨e,AZ,hb,.inl (BG h1)⟩
     .exact .inr ⟨e,AZ,hb,.inr h1⟩
    .exact .inl h1
   .exact .inr ⟨e',by simp [h1],h2⟩
theorem hZ:∀(l:List Oper) (acc:List Nat),∃tl,kY l acc=acc++tl∧tl.length=l.length∧∀(i:Nat) (o:Oper),l[i]?=some o->(kY l acc).getD (acc.length+i) 0=ADC ((kY l acc).take (acc.length+i)) o.after.toList
 | [],acc=>⟨[],by simp [kY],rfl,fun i o h=>by simp at h⟩
 | x::l,acc=>by
   obtain⟨tl,h1,h2,h3⟩:=hZ l (acc++[ADC acc x.after.toList]);have e:kY (x::l) acc=kY l (acc++[ADC acc x.after.toList]):=rfl;refine⟨ADC acc x.after.toList::tl,by rw[e,h1]; simp,by simp [h2],fun i o h=>?_⟩;rw[e]
   cases i with
   | zero =>
     simp at h; subst h;rw[h1];simp [zF]
   | succ i =>
     have:=h3 i o (BG h);rw[List.length_append,List.length_singleton] at this;rw[show acc.length+(i+1)=acc.length+1+i by omega];exact this
def O5 (ops:Array Oper)(k j:Nat):Bool:=((kY ops.toList []).getD j 0).testBit k
theorem V3 (ops:Array Oper):(kY ops.toList []).length=ops.size:=by
 obtain⟨tl,h1,h2,_⟩:=hZ ops.toList [];rw[h1]; simp [h2]
theorem YW (h:O5 ops k j=true):j<ops.size:=by
 rcases jW j ops.size with h1|h1
 .exact h1
 .unfold O5 at h
  rw[zF,zY (by rw[V3]; exact h1)] at h;simp at h
theorem UE (hl:X7 ops.toList 0=true)(ho:ops[j]?=some o)(h:O5 ops k j=true):∃e∈o.after,Region.binds .any e=true∧e.on<j∧(e.on=k∨O5 ops k e.on=true):=by
 obtain⟨_,_,_,h3⟩:=hZ ops.toList [];have h4:=h3 j o (BG ho);simp only[List.length_nil,jH] at h4;unfold O5 at h;rw[h4] at h;rcases tK _ _ h with h5|⟨e,h5,h6,h7⟩
 .simp at h5
 .have hlt:=bD hl j o (BG ho) e (BG h5) h6
  rw[jH] at hlt;refine⟨e,BG h5,h6,hlt,?_⟩;rcases h7 with h7|h7
  .exact .inl h7
  .refine .inr ?_
   unfold O5;rw[zF,wQ,if_pos hlt,<-zF] at h7;exact h7
theorem AMD (hl:X7 ops.toList 0=true):∀(j:Nat),O5 ops k j=true->k<j:=by
 intro j
 induction j using Nat.strongRecOn with
 | _ j ih =>
   intro h;have hj:=YW h;obtain⟨e,_,_,hlt,h7⟩:=UE hl (show ops[j]?=some ops[j] by simp [hj]) h;rcases h7 with h7|h7
   .omega
   .have:=ih e.on hlt h7; omega
def D (E:Env)(md:Nat->Bool)(ds:List (Option Tmp)):List Oper->Fr->Hp->(Fr->Hp->Prop)->Prop
 | [],F,h,K=>K F h
 | o::r,F,h,K=>match MO ds F o.guard with
   | some c=>(c=true->∃v h',DExO E md o F h v h'∧D E md ds r (FV F o.dst v) h' K)∧(c=false->D E md ds r (FV F o.dst GZ) h K)
   | none=>False
theorem pX {r:List Oper}{K:Fr->Hp->Prop}(hD:D E md ds (o::r) F h K):
  ∃s',AStep E md ds o (F,h) s'∧D E md ds r s'.1 s'.2 K:=by
 unfold D at hD;split at hD
 .rename_i c hc
  cases c with
  | true =>
    obtain⟨v,h',h1,h2⟩:=hD.1 rfl;exact⟨_,.inl ⟨hc,v,h',h1,rfl⟩,h2⟩
  | false=>exact⟨_,.inr ⟨hc,rfl⟩,hD.2 rfl⟩
 .exact hD.elim
def LK (ops:Array Oper)(k:Nat)(listed:Array Bool):Prop:=listed.size=ops.size∧∀j,j<ops.size->listed[j]?=some (decide (j<k))
theorem LK.getD {ops:Array Oper}{k j:Nat}{listed:Array Bool}(h:LK ops k listed)(hj:j<ops.size)(d:Bool):listed.getD j d=decide (j<k):=by
 have:=h.2 j hj;rw[Array.getD_eq_getD_getElem?,this]; rfl
theorem LK.next (h:LK ops k listed):LK ops (k+1) (listed.setIfInBounds k true):=by
 refine⟨by simpa using h.1,fun j hj=>?_⟩;by_cases e:k=j
 .subst e
  rw[Array.getElem?_setIfInBounds_self_of_lt (by rw[h.1]; exact hj)];simp
 .rw[Array.getElem?_setIfInBounds_ne e,h.2 j hj]
  congr 1;rw[decide_eq_decide];omega
theorem AFT {E:Env}{md:Nat->Bool}{sep:List (Nat×Nat)}{ops:Array Oper}{K:Fr->Hp->Prop}(hok:ZY sep ops.toList=true)(hB:AR2 md sep ops=true):∀(l:List Oper) (k:Nat) (listed:Array Bool) (F:Fr) (h:Hp),(∀j:Nat,l[j]?=ops[k+j]?) ->
  LK ops k listed->QB F sep->D E md (ops.toList.map (·.dst)) l F h K->anyA E md ops (fun s=>K s.1 s.2) l.length listed (F,h)
 | [],k,listed,F,h,hl,hL,_,hD=>by
   refine⟨?_,hD⟩;rw[List.eq_nil_iff_forall_not_mem];intro i hi;obtain⟨h1,o,h2,_⟩:=mem_ready.1 hi;have hlt:i<ops.size:=(Array.getElem?_eq_some_iff.1 h2).1
   have hk:ops.size<=k:=by
    have:=(hl 0).symm;simp only[zD,List.getElem?_nil] at this;simpa using this
   rw[hL.getD hlt] at h1;simp at h1; omega
 | o::l,k,listed,F,h,hl,hL,hs,hD=>by
   have h0:ops[k]?=some o:=by simpa using (hl 0).symm
   have hlt:k<ops.size:=(Array.getElem?_eq_some_iff.1 h0).1;have hB':=hB;simp only[AR2,jO] at hB';obtain⟨hlow,hpair⟩:=hB';obtain⟨s',h1,h2⟩:=pX hD
   refine pM hok h0 (fun j=>decide (j=k)||O5 ops k j) (fun j oj hj hr hne=>?_) l.length listed (F,h) s' (fun j hr=>?_) (fun j oj hj hne hun hr=>?_) hs ?_ h1
    (AFT hok hB l (k+1) _ s'.1 s'.2 (fun j=>by have:=hl (j+1); simpa [Nat.add_assoc,Nat.add_comm 1 j] using this) hL.next (VU (s:=(F,h)) hok (dF h0) hs h1) h2)
   .simp only[qN,decide_eq_true_eq] at hr
    rcases hr with hr|hr
    .exact absurd hr hne
    .obtain⟨e,he,hb,_,h7⟩:=UE hlow hj hr
     exact⟨e,he,hb,BG h7⟩
   .simp only[qN,decide_eq_true_eq] at hr
    rcases hr with rfl|hr
    .rw[hL.getD hlt]; simp
    .have h3:=YW hr
     have h4:=AMD hlow j hr;rw[hL.getD h3]; simp; omega
   .have h3:j<ops.size:=(Array.getElem?_eq_some_iff.1 hj).1
    rw[hL.getD h3] at hun;simp only[wF,decide_eq_false_iff_not] at hr;have hkj:k<j:=by simp at hun; omega
    rcases dA hpair (by rw[V3]; simp) k j o oj hkj (BG h0) (BG hj) with h4|h4
    .rw[jH] at h4
     have:O5 ops k j=true:=h4;rw[this] at hr; cases hr.2
    .exact h4
   .rw[mem_ready]
    refine⟨by rw[hL.getD hlt]; simp,o,h0,fun e he hb=>?_⟩;have:=bD hlow k o (BG h0) e he hb;rw[jH] at this;rw[hL.getD U]; simpa using this

structure LS (ops:Array Oper) (L:List Nat) (listed:Array Bool):Prop where
 size:listed.size=ops.size
 at':∀j,j<ops.size->listed[j]?=some (L.contains j)
 lt:∀j∈L,j<ops.size
theorem LS.getD {ops:Array Oper}{L:List Nat}{listed:Array Bool}(h:LS ops L listed){j:Nat}(hj:j<ops.size)(d:Bool):listed.getD j d=L.contains j:=by
 have:=h.at' j hj;rw[Array.getD_eq_getD_getElem?,this]; rfl
theorem LS.getF (h:LS ops L listed)(j:Nat):listed.getD j false=L.contains j:=by
 rcases jW j ops.size with hj|hj
 .exact h.getD hj false
 .have h1:listed[j]?=none:=by rw[Array.getElem?_eq_none_iff,h.size]; exact hj
  rw[Array.getD_eq_getD_getElem?,h1]
  have:L.contains j=false:=by
   rw[List.contains_eq_mem,decide_eq_false_iff_not];exact fun q=>by have:=h.lt j q; omega
  rw[this]; rfl
theorem LS.next (h:LS ops L listed)(hi:i<ops.size):LS ops (i::L) (listed.setIfInBounds i true):=by
 refine⟨by simpa using h.size,fun j hj=>?_,fun j hj=>?_⟩
 .by_cases e:i=j
  .subst e
   rw[Array.getElem?_setIfInBounds_self_of_lt (by rw[h.size]; exact hj)];simp
  .rw[Array.getElem?_setIfInBounds_ne e,h.at' j hj]
   congr 1;simp [Ne.symm e]
 .rcases zQ.1 hj with rfl|hj
  .exact hi
  .exact h.lt j hj
def QQ (x:Oper)(L:List Nat):Bool:=x.after.toList.all fun e => !(Region.binds .any e)||L.contains e.on
def xZ (md:Nat->Bool)(sep:List (Nat×Nat))(ops:Array Oper)(i:Nat)(x:Oper)(L:List Nat):Nat->List Oper->List Nat->Bool
 | _,[],_=>true
 | _,_::_,[]=>false
 | k,y::l,m::ms=>(match m.testBit i with
   | true => !L.contains k
   | false=>L.contains k||k==i||(U4 md sep x y&&x.apart ops y))&&xZ md sep ops i x L (k+1) l ms
theorem iT {md:Nat->Bool}{sep:List (Nat×Nat)}{ops:Array Oper}{i:Nat}{x:Oper}{L:List Nat}:∀ {l:List Oper} {ms:List Nat} {k:Nat},xZ md sep ops i x L k l ms=true->ms.length=l.length->∀(j:Nat) (y:Oper),l[j]?=some y ->
  ((ms.getD j 0).testBit i=true∧L.contains (k+j)=false)∨((ms.getD j 0).testBit i=false∧(L.contains (k+j)=true∨k+j=i∨(x.apart ops y=true∧U4 md sep x y=true)))
 | [],_,_,_,_,j,y,h=>by simp at h
 | _::_,[],_,_,hl,_,_,_=>by simp at hl
 | z::l,m::ms,k,hf,hl,j,y,hy=>by
   unfold xZ at hf;rw[jO] at hf
   cases j with
   | zero =>
     simp at hy; subst hy;have h1:=hf.1;simp only[List.getD_cons_zero,zD]
     cases hb:m.testBit i with
     | true =>
       rw[hb] at h1;exact .inl ⟨rfl,BG h1⟩
     | false =>
       rw[hb] at h1;simp only[qN,jO,beq_iff_eq] at h1;refine .inr ⟨rfl,?_⟩;rcases h1 with (h1|h1)|h1
       .exact .inl h1
       .exact .inr (.inl h1)
       .exact .inr (.inr ⟨h1.2,h1.1⟩)
   | succ j =>
     have:=iT hf.2 (BG hl) j y (BG hy);rw[show k+1+j=k+(j+1) by omega] at this;simpa using this
def A0X (md:Nat->Bool)(sep:List (Nat×Nat))(ops:Array Oper)(i:Nat)(L:List Nat):Bool:=match ops.toList[i]? with
 | none=>false
 | some x => !L.contains i&&QQ x L&&xZ md sep ops i x L 0 ops.toList (kY ops.toList [])
def mY (md:Nat->Bool)(sep:List (Nat×Nat))(ops:Array Oper):List Nat->List Nat->Bool
 | [],_=>true
 | i::r,L=>A0X md sep ops i L&&mY md sep ops r (i::L)
def NR (l:List Oper):List Nat->List Oper
 | []=>[]
 | i::r=>match l[i]? with
   | some o=>o::NR l r
   | none=>NR l r
theorem XW (hL:LS ops L listed){x:Oper}(hi:ops[i]?=some x)(h0:L.contains i=false)(he:QQ x L=true):i∈Region.ready .any ops listed:=by
 have hlt:i<ops.size:=(Array.getElem?_eq_some_iff.1 hi).1;rw[mem_ready];refine⟨by rw[hL.getD hlt,h0],x,hi,fun e hm hb=>?_⟩;have:=zL.1 he e (BG hm);rw[hb] at this;have h1:L.contains e.on=true:=BG this;have h2:e.on∈L:=by simpa [List.contains_eq_mem] using h1
 rw[hL.getD (hL.lt _ h2),h1]
theorem hU {E:Env}{md:Nat->Bool}{sep:List (Nat×Nat)}{ops:Array Oper}{Q:Fr×Hp->Prop}{K:Fr->Hp->Prop}{fuel:Nat}(hok:ZY sep ops.toList=true)(hlow:X7 ops.toList 0=true):∀(pre L:List Nat) (listed:Array Bool) (F:Fr) (h:Hp),mY md sep ops pre L=true ->
  LS ops L listed->QB F sep->D E md (ops.toList.map (·.dst)) (NR ops.toList pre) F h K ->
  (∀(F':Fr) (h':Hp) (listed':Array Bool),LS ops (pre.reverse++L) listed'->QB F' sep->K F' h'->anyA E md ops Q fuel listed' (F',h'))->anyA E md ops Q (fuel+pre.length) listed (F,h)
 | [],L,listed,F,h,_,hL,hs,hD,hn=>hn F h listed hL hs hD
 | i::r,L,listed,F,h,ho,hL,hs,hD,hn=>by
   unfold mY at ho;rw[jO] at ho;obtain⟨ho1,ho2⟩:=ho;unfold A0X at ho1
   cases hx:ops.toList[i]? with
   | none=>rw[hx] at ho1; cases ho1
   | some x =>
     rw[hx] at ho1;simp only[jO,Bool.not_eq_true'] at ho1;obtain⟨⟨h0,he⟩,hf⟩:=ho1;have hi:ops[i]?=some x:=BG hx;have hlt:i<ops.size:=(Array.getElem?_eq_some_iff.1 hi).1;unfold NR at hD;rw[hx] at hD;obtain⟨s',h1,h2⟩:=pX hD;have hspec:=iT hf (by rw[V3]; simp)
     refine pM hok hi (fun j=>decide (j=i)||O5 ops i j) (fun j oj hj hr hne=>?_) (fuel+r.length) listed (F,h) s' (fun j hr=>?_) (fun j oj hj hne hun hr=>?_) hs (XW hL hi h0 he) h1
      (hU hok hlow r (i::L) _ s'.1 s'.2 ho2 (hL.next hlt) (VU (s:=(F,h)) hok (dF hi) hs h1) h2 (fun F' h' l' a b c=>hn F' h' l' (BG a) b c))
     .simp only[qN,decide_eq_true_eq] at hr
      rcases hr with hr|hr
      .exact absurd hr hne
      .obtain⟨e,he,hb,_,h7⟩:=UE hlow hj hr
       exact⟨e,he,hb,BG h7⟩
     .simp only[qN,decide_eq_true_eq] at hr
      rcases hr with rfl|hr
      .rw[hL.getD hlt,h0]
      .have h3:=YW hr
       have h4:=hspec j ops[j] (by simp [h3]);rw[jH] at h4;rw[hL.getD h3];rcases h4 with h4|h4
       .exact h4.2
       .unfold O5 at hr
        rw[h4.1] at hr; cases hr
     .have h3:j<ops.size:=(Array.getElem?_eq_some_iff.1 hj).1
      rw[hL.getD h3] at hun;simp only[wF,decide_eq_false_iff_not] at hr;have h4:=hspec j oj (BG hj);rw[jH] at h4;rcases h4 with h4|⟨_,h4|h4|h4⟩
      .have:O5 ops i j=true:=h4.1
       rw[this] at hr; cases hr.2
      .rw[hun] at h4; cases h4
      .exact absurd h4 hne
      .exact h4
def OU (i j:Nat)(L:List Nat):Nat->List Oper->Bool
 | _,[]=>true
 | k,z::l=>(L.contains k||k==i||k==j||(z.after.toList.any (fun e=>Region.binds .any e && !L.contains e.on&&e.on != i)&&z.after.toList.any (fun e=>Region.binds .any e && !L.contains e.on&&e.on != j)))&&OU i j L (k+1) l
theorem UY {i j:Nat}{L:List Nat}:∀ {l:List Oper} {k:Nat},OU i j L k l=true->∀(n:Nat) (z:Oper),l[n]?=some z->L.contains (k+n)=true∨k+n=i∨k+n=j ∨
  ((∃e∈z.after,Region.binds .any e=true∧L.contains e.on=false∧e.on≠i)∧∃e∈z.after,Region.binds .any e=true∧L.contains e.on=false∧e.on≠j)
 | [],_,_,n,z,h=>by simp at h
 | y::l,k,ho,n,z,hz=>by
   unfold OU at ho;rw[jO] at ho
   cases n with
   | zero =>
     simp at hz; subst hz;have h1:=ho.1;simp only[qN,jO,beq_iff_eq,qL,Bool.not_eq_true',bne_iff_ne] at h1;rcases h1 with ((h1|h1)|h1)|⟨⟨e,h1,h2⟩,e',h3,h4⟩
     .exact .inl h1
     .exact .inr (.inl h1)
     .exact .inr (.inr (.inl h1))
     .exact .inr (.inr (.inr ⟨⟨e,BG h1,h2.1.1,h2.1.2,h2.2⟩,e',BG h3,h4.1.1,h4.1.2,h4.2⟩))
   | succ n =>
     have:=UY ho.2 n z (BG hz);rw[show k+1+n=k+(n+1) by omega] at this;exact this
def AQ7 (ops:Array Oper)(i j:Nat)(L:List Nat):Bool:=match ops.toList[i]?,ops.toList[j]? with
 | some x,some y=>i != j && !L.contains i && !L.contains j&&QQ x L&&QQ y L&&OU i j L 0 ops.toList
 | _,_=>false
theorem AAD {x:Oper}(h:QQ x L=true):QQ x (i::L)=true:=by
 unfold QQ at *;rw[zL] at *;intro e he;have:=h e he
 simp only[qN] at this|-
 rcases this with h1|h1
 .exact .inl h1
 .refine .inr ?_
  rw[zA,h1]; simp
theorem AG8 (hL:LS ops L listed)(ho:OU i j L 0 ops.toList=true)(hk:k∈Region.ready .any ops listed):k=i∨k=j:=by
 obtain⟨h1,z,h2,h3⟩:=mem_ready.1 hk;have hlt:k<ops.size:=(Array.getElem?_eq_some_iff.1 h2).1;rw[hL.getD hlt] at h1;rcases UY ho k z (BG h2) with h4|h4|h4|⟨⟨e,h5,h6,h7,_⟩,_⟩
 .rw[jH,h1] at h4; cases h4
 .exact .inl U
 .exact .inr U
 .have:=h3 e h5 h6
  rw[hL.getF,h7] at this; cases this
theorem ACY (hL:LS ops (i::L) listed)(ho:OU i j L 0 ops.toList=true)(hk:k∈Region.ready .any ops listed):k=j:=by
 obtain⟨h1,z,h2,h3⟩:=mem_ready.1 hk;have hlt:k<ops.size:=(Array.getElem?_eq_some_iff.1 h2).1;rw[hL.getD hlt] at h1
 have h1':L.contains k=false∧k≠i:=by
  rw[zA,wF] at h1;exact⟨h1.2,by simpa using h1.1⟩
 rcases UY ho k z (BG h2) with h4|h4|h4|⟨⟨e,h5,h6,h7,h8⟩,_⟩
 .rw[jH,h1'.1] at h4; cases h4
 .exact absurd U h1'.2
 .omega
 .have:=h3 e h5 h6
  rw[hL.getF,zA,h7,Bool.or_false] at this;exact absurd (BG this) h8
theorem Z5 {i j:Nat}{L:List Nat}:∀ {l:List Oper} {k:Nat},OU i j L k l=true->OU j i L k l=true
 | [],_,_=>rfl
 | z::l,k,h=>by
   unfold OU at h|-
   rw[jO] at h|-
   refine⟨?_,Z5 h.2⟩;have h1:=h.1
   simp only[qN,jO] at h1|-
   rcases h1 with ((h1|h1)|h1)|h1
   .exact .inl (.inl (.inl h1))
   .exact .inl (.inr h1)
   .exact .inl (.inl (.inr h1))
   .exact .inr ⟨h1.2,h1.1⟩
theorem uU {E:Env}{md:Nat->Bool}{sep:List (Nat×Nat)}{ops:Array Oper}{Q:Fr×Hp->Prop}{K:Fr->Hp->Prop}{fuel:Nat}{i j:Nat}{x y:Oper}{post:List Oper}{L:List Nat}{listed:Array Bool}{F:Fr}{h:Hp}
  (hok:ZY sep ops.toList=true) (hi:ops[i]?=some x) (hj:ops[j]?=some y) (hij:i≠j) (hjL:L.contains j=false) (hey:QQ y L=true) (ho:OU i j L 0 ops.toList=true) (hL:LS ops L listed) (hs:QB F sep)
  (hD:D E md (ops.toList.map (·.dst)) (x::y::post) F h K)
  (hn:∀(F':Fr) (h':Hp) (listed':Array Bool),LS ops (j::i::L) listed'->QB F' sep->D E md (ops.toList.map (·.dst)) post F' h' K->anyA E md ops Q fuel listed' (F',h')) :
  ∃o s',ops[i]?=some o∧AStep E md (ops.toList.map (·.dst)) o (F,h) s'∧anyA E md ops Q (fuel+1) (listed.setIfInBounds i true) s':=by
 have hlti:i<ops.size:=(Array.getElem?_eq_some_iff.1 hi).1;have hltj:j<ops.size:=(Array.getElem?_eq_some_iff.1 hj).1;obtain⟨s1,a1,a2⟩:=pX hD;have hL1:=hL.next hlti;have hs1:=VU (s:=(F,h)) hok (dF hi) hs a1;have hrj:j∈Region.ready .any ops (listed.setIfInBounds i true):=XW hL1 hj (by rw[zA,hjL]; simp; exact fun q=>hij q.symm) (AAD hey);refine⟨x,s1,hi,a1,fun q=>by rw[q] at hrj; (cases hrj),fun k hk=>?_⟩;obtain rfl:=ACY hL1 ho hk;obtain⟨s2,b1,b2⟩:=pX (F:=s1.1) (h:=s1.2) a2;exact⟨y,s2,hj,b1,hn s2.1 s2.2 _ (hL1.next hltj) (VU hok (dF hj) hs1 b1) b2⟩
theorem LS.perm (h:LS ops (i::j::L) listed):LS ops (j::i::L) listed :=
 ⟨h.size,fun k hk=>by rw[h.at' k hk]; congr 1; simp only[zA]; cases (k==i)<;>cases (k==j)<;>rfl,fun k hk=>h.lt k (by
  simp only[zQ] at hk|-
  rcases hk with h1|h1|h1
  .exact .inr (.inl h1)
  .exact .inl h1
  .exact .inr (.inr h1))⟩
def allIn (L:List Nat):Nat->List Oper->Bool
 | _,[]=>true
 | k,_::l=>L.contains k&&allIn L (k+1) l
theorem pN {L:List Nat}:∀ {l:List Oper} {k:Nat},allIn L k l=true->∀n,n<l.length->L.contains (k+n)=true
 | [],_,_,n,h=>by simp at h
 | _::l,k,ha,n,hn=>by
   unfold allIn at ha;rw[jO] at ha
   cases n with
   | zero=>exact ha.1
   | succ n =>
     have:=pN ha.2 n (BG hn);rw[show k+1+n=k+(n+1) by omega] at this;exact this
theorem ready_nil (hL:LS ops L listed)(ha:allIn L 0 ops.toList=true):Region.ready .any ops listed=[]:=by
 rw[List.eq_nil_iff_forall_not_mem];intro k hk;obtain⟨h1,z,h2,_⟩:=mem_ready.1 hk;have hlt:k<ops.size:=(Array.getElem?_eq_some_iff.1 h2).1;rw[hL.getD hlt] at h1;have:=pN ha k (BG hlt);rw[jH,h1] at this; cases this
def AG5 (md:Nat->Bool)(sep:List (Nat×Nat))(ops:Array Oper)(pre:List Nat)(i j:Nat)(post:List Nat):Bool :=
 ZY sep ops.toList&&X7 ops.toList 0&&mY md sep ops pre []&&AQ7 ops i j (pre.reverse++[])&&mY md sep ops post (j::i::(pre.reverse++[]))&&allIn (post.reverse++(j::i::(pre.reverse++[]))) 0 ops.toList&&Nat.beq (post.length+2+pre.length) ops.size
theorem kF {K:Fr->Hp->Prop}(hl:AR2 md sep ops=true)(hok:ZY sep ops.toList=true)(hs:QB F sep)(hD:D E md (ops.toList.map (·.dst)) ops.toList F h K):
  anyA E md ops (fun s=>K s.1 s.2) ops.size (Array.replicate ops.size false) (F,h):=by
 have:=AFT (E:=E) (md:=md) (sep:=sep) (ops:=ops) (K:=K) hok hl ops.toList 0 (Array.replicate ops.size false) F h AZ ⟨AZ,fun j hj=>by simp [hj]⟩ hs hD;simpa using this
theorem APG {E:Env}{md:Nat->Bool}{sep:List (Nat×Nat)}{ops:Array Oper}{K:Fr->Hp->Prop}{pre post:List Nat}{i j:Nat}{F:Fr}{h:Hp}(hP:AG5 md sep ops pre i j post=true)(hs:QB F sep)
  (hD:D E md (ops.toList.map (·.dst)) (NR ops.toList pre) F h (fun F h=>D E md (ops.toList.map (·.dst)) (NR ops.toList (i::j::post)) F h K∧D E md (ops.toList.map (·.dst)) (NR ops.toList (j::i::post)) F h K)) :
  anyA E md ops (fun s=>K s.1 s.2) ops.size (Array.replicate ops.size false) (F,h):=by
 unfold AG5 at hP;simp only[jO] at hP;obtain⟨⟨⟨⟨⟨⟨hok,hlow⟩,hpre⟩,hpair⟩,hpost⟩,hall⟩,hsz⟩:=hP;have hsz':post.length+2+pre.length=ops.size:=Nat.eq_of_beq_eq_true hsz;have hL0:LS ops [] (Array.replicate ops.size false):=⟨AZ,fun k hk=>by simp [hk],fun k hk=>by cases hk⟩;rw[<-hsz'];have key:=hU (E:=E) (Q:=fun s=>K s.1 s.2) (fuel:=post.length+2) hok hlow pre [] (Array.replicate ops.size false) F h hpre hL0 hs hD (fun F' h' l' hL hs' hK=>?_)
 .rw[hsz'] at key|-; exact key
 unfold AQ7 at hpair
 cases hx:ops.toList[i]? with
 | none=>rw[hx] at hpair; cases hpair
 | some x =>
   cases hy:ops.toList[j]? with
   | none=>rw[hx,hy] at hpair; cases hpair
   | some y =>
     rw[hx,hy] at hpair;simp only[jO,bne_iff_ne,Bool.not_eq_true'] at hpair;obtain⟨⟨⟨⟨⟨hij,hiL⟩,hjL⟩,hex⟩,hey⟩,ho⟩:=hpair;have hi:ops[i]?=some x:=BG hx;have hj:ops[j]?=some y:=BG hy;obtain⟨d1,d2⟩:=hK
     have e1:NR ops.toList (i::j::post)=x::y::NR ops.toList post:=by
      simp only[NR,hx,hy]
     have e2:NR ops.toList (j::i::post)=y::x::NR ops.toList post:=by
      simp only[NR,hx,hy]
     rw[e1] at d1;rw[e2] at d2;have hri:=XW hL hi hiL hex
     have hlast:∀(F':Fr) (h':Hp) (listed':Array Bool),LS ops (j::i::(pre.reverse++[])) listed'->QB F' sep->D E md (ops.toList.map (·.dst)) (NR ops.toList post) F' h' K->anyA E md ops (fun s=>K s.1 s.2) post.length listed' (F',h'):=by
      intro F2 h2 l2 hL2 hs2 hD2;have:=hU (E:=E) (Q:=fun s=>K s.1 s.2) (fuel:=0) hok hlow post (j::i::(pre.reverse++[])) l2 F2 h2 hpost hL2 hs2 hD2 (fun F3 h3 l3 hL3 _ hK3=>⟨ready_nil hL3 hall,hK3⟩);rw[jH] at this;exact this
     refine⟨fun q=>by rw[q] at hri; (cases hri),fun k hk=>?_⟩;rcases AG8 hL ho hk with rfl|rfl
     .exact uU hok hi hj hij hjL hey ho hL hs' d1 hlast
     .exact uU hok hj hi (Ne.symm hij) hiL hex (Z5 ho) hL hs' d2 (fun F2 h2 l2 hL2=>hlast F2 h2 l2 hL2.perm)

theorem QI {K':AV->Hp->Prop}(hk:∀v h,K v h->K' v h)(ha:NG E own op F h K):NG E own op F h K':=by
 unfold NG at *;split at ha
 .split at ha
  .rename_i hf; exact ha.mono hk
  .exact YC.mono ha hk
  .exact ha.elim
 .exact ha
 .split at ha
  .rename_i v h' he; exact hk v h' ha
  .exact ha.elim
def ANext (E:Env)(md:Nat->Bool)(ds:List (Option Tmp))(o:Oper)(s:Fr×Hp)(P:Fr×Hp->Prop):Prop :=
 (MO ds s.1 o.guard=some true∧NG E (md (o.dst.getD 0)) o.op s.1 s.2 fun v h'=>P (FV s.1 o.dst v,h')) ∨
 (MO ds s.1 o.guard=some false∧P (FV s.1 o.dst GZ,s.2))
theorem ANext.mono {s:Fr×Hp}{P P':Fr×Hp->Prop}(hp:∀s,P s->P' s)(h:ANext E md ds o s P):ANext E md ds o s P':=by
 rcases h with⟨h1,h2⟩|⟨h1,h2⟩
 .exact .inl ⟨h1,QI (fun v h' hv=>hp _ hv) h2⟩
 .exact .inr ⟨h1,hp _ h2⟩
theorem AStep.next {s s':Fr×Hp}{P:Fr×Hp->Prop}(h:AStep E md ds o s s')(hp:P s'):ANext E md ds o s P:=by
 rcases h with⟨h1,v,h',h2,rfl⟩|⟨h1,rfl⟩
 .exact .inl ⟨h1,h2.exec hp⟩
 .exact .inr ⟨h1,hp⟩
def hJ (E:Env)(md:Nat->Bool)(ops:Array Oper)(Q:Fr×Hp->Prop):Nat->Array Bool->Fr×Hp->Prop
 | 0,listed,s=>Region.ready .any ops listed=[]∧Q s
 | fuel+1,listed,s=>(Region.ready .any ops listed=[]->Q s) ∧
   ∀i∈Region.ready .any ops listed,∃o,ops[i]?=some o∧ANext E md (ops.toList.map (·.dst)) o s fun s'=>hJ E md ops Q fuel (listed.setIfInBounds i true) s'
theorem anyA.toN {E:Env}{md:Nat->Bool}{ops:Array Oper}{Q:Fr×Hp->Prop}:∀ {fuel:Nat} {listed:Array Bool} {s:Fr×Hp},anyA E md ops Q fuel listed s->hJ E md ops Q fuel listed s
 | 0,_,_,h=>h
 | fuel+1,_,_,h=>⟨h.1,fun i hi=>by
   obtain⟨o,s',h1,h2,h3⟩:=h.2 i hi
   exact⟨o,h1,h2.next (anyA.toN h3)⟩⟩
theorem uT {E:Env}{md:Nat->Bool}{ops:Array Oper}{Q Q':Fr×Hp->Prop}(hq:∀s,Q s->Q' s):∀(fuel:Nat) (listed:Array Bool) (s:Fr×Hp),hJ E md ops Q fuel listed s->hJ E md ops Q' fuel listed s
 | 0,_,_,h=>⟨h.1,hq _ h.2⟩
 | fuel+1,_,_,h=>⟨fun h0=>hq _ (h.1 h0),fun i hi=>by
   obtain⟨o,h1,h2⟩:=h.2 i hi
   exact⟨o,h1,h2.mono fun s' hs=>uT hq fuel _ _ hs⟩⟩
theorem aL {ρ:Option Nat}{E:Env}{md:Nat->Bool}{n:Nat}{ops:Array Oper}{Q:Exit->Act->World->Prop}{K:Fr×Hp->Prop}{g0:Gh}(hd:∀(i:Nat) (o:Oper),ops[i]?=some o->∀d,o.dst=some d->d<n)
  (hk:∀F' h' g' a' w',K (F',h')->g0.le g'->Sim E n g' F' h' a' w'->Q .normal a' w')
  (hp:∀u h' g' a' w',E.X u h'->g0.le g'->SimH E g' h' w'->a'.defers=[]->Q (.panic [{ v:=u,recovered:=false }]) a' w'):∀(fuel:Nat) (listed:Array Bool) (F:Fr) (h:Hp) (g:Gh) (a:Act) (w:World),
  hJ E md ops K fuel listed (F,h)->g0.le g->Sim E n g F h a w->wpAnyIn (FW ρ) 0 E.P .any ops Q fuel listed a w
 | 0,_,F,h,g,a,w,hA,hg,s=>⟨hA.1,hk F h g a w hA.2 hg s⟩
 | fuel+1,listed,F,h,g,a,w,hA,hg,s=>by
   refine⟨fun h0=>hk F h g a w (hA.1 h0) hg s,fun i hi=>?_⟩;obtain⟨o,ho,hst⟩:=hA.2 i hi;unfold wpOpIn;simp only[ho];rcases hst with⟨a1,a2⟩|⟨a1,hrest⟩
   .rw[aM (o:=o) s a1]
    simp only[if_true];refine(oH a2 s ?_ fun u h' hx g' w' hle hH hds=>hp u h' g' a w' hx (hg.trans hle) hH hds);intro v' h' hrest g' w' cv hle hH hr;exact aL hd hk hp fuel _ _ _ _ _ _ hrest (hg.trans hle) (s.put (hd i o ho) hle hH hr)
   .rw[aM (o:=o) s a1]
    simp only[qU,if_false];refine⟨fun _ _=>trivial,?_⟩;exact aL hd hk hp fuel _ _ _ _ _ _ hrest hg (s.put (hd i o ho) (Gh.le.refl g) s.simH (Rep.undef g))

inductive AEx where
 | normal|exit (id:Nat)|ret
def AEx.to:AEx->Exit
 | .normal=>.normal
 | .exit id=>.exit id
 | .ret=>.ret
def cN (next:Fr->Hp->Prop)(Q:AEx->Fr->Hp->Prop):AEx->Fr->Hp->Prop
 | .normal,F,h=>next F h
 | .exit id,F,h=>Q (.exit id) F h
 | .ret,F,h=>Q .ret F h
def TC (id:Nat)(Q:AEx->Fr->Hp->Prop):AEx->Fr->Hp->Prop
 | .normal,F,h=>Q .normal F h
 | .exit i,F,h=>if i=id then Q .normal F h else Q (.exit i) F h
 | .ret,F,h=>Q .ret F h
def vJ (F:Fr):List Tmp->List AV->Fr
 | p::ps,v::vs=>vJ (upd F p v) ps vs
 | _,_=>F
def Iter (E:Env)(f:FuncId)(caps:List AV)(N:Nat)(xs:Nat->List AV)(I:Nat->Hp->Prop):Prop :=
 ∀(l:Nat) (g0:Gh),(∀k h,k<N->I k h->YC (E.know g0) l (xs k) h fun v h'=>v=.bool true∧I (k+1) h')->∀h,I 0 h->ACalls (E.know g0) f (.fn (.yield l) [] []::caps) h fun _ h'=>I N h'
def GSt (E:Env)(h h':Hp):Prop:=∀(g:Gh) (w:World),SimH E g h w->∃g',g.le g'∧SimH E g' h' w
def bB:Code->Bool
 | .seq a b=>bB a&&bB b
 | .block _ b=>bB b
 | .cond _ a b=>bB a&&bB b
 | .loop b=>bB b
 | .scope b=>bB b
 | .rangeFunc _ _ _ _=>false
 | _=>true
def awp (E:Env)(H:Hint):Code->Fr->Hp->(AEx->Fr->Hp->Prop)->Prop
 | .skip,F,h,Q=>Q .normal F h
 | .label _,F,h,Q=>Q .normal F h
 | .scope b,F,h,Q=>awp E H b F h Q
 | .ret,F,h,Q=>Q .ret F h
 | .exit id,F,h,Q=>Q (.exit id) F h
 | .seq a b,F,h,Q=>awp E H a F h (cN (fun F h=>awp E H b F h Q) Q)
 | .block id b,F,h,Q=>awp E H b F h (TC id Q)
 | .cond c a b,F,h,Q=>match ev E F c with
   | .bool t=>(t=true->awp E H a F h Q)∧(t=false->awp E H b F h Q)
   | _=>False
 | .loop b,F,h,Q=>∃I:Nat->Fr->Hp->Prop,(∃n,I n F h)∧∀n F h,I n F h->awp E H b F h (cN (fun F' h'=>∃m,m<n∧I m F' h') Q)
 | .region _ ops draw,F,h,Q=>match draw with
   | false=>W E H (ops.toList.map (·.dst)) ops.toList F h (Q .normal)
   | true=>hJ E H.md ops (fun s=>Q .normal s.1 s.2) ops.size (Array.replicate ops.size false) (F,h)
 | .rangeFunc gf ps asg body,F,h,Q=>(∀u h,¬E.X u h)∧(bB asg&&bB body)=true∧∃(f:FuncId) (caps:List AV) (N:Nat) (xs:Nat->List AV) (I:Nat->Hp->Prop),ev E F gf=.fn (.func f) [] caps∧Iter E f caps N xs I∧I 0 h ∧
  (∀k h',k<N->I k h'->(xs k).length=ps.size∧awp E H asg (vJ F ps.toList (xs k)) h' (cN (fun F1 h1=>awp E H body F1 h1 (cN (fun _ h2=>∃h3,GSt E h2 h3∧I (k+1) h3) fun _ _ _=>False)) fun _ _ _=>False))∧∀h',I N h'->Q .normal F h'
 | _,_,_,_=>False
def RH (n:Nat):Code->Bool
 | .seq a b=>RH n a&&RH n b
 | .block _ b=>RH n b
 | .cond _ a b=>RH n a&&RH n b
 | .loop b=>RH n b
 | .scope b=>RH n b
 | .rangeFunc _ ps a b=>RH n a&&RH n b&&ps.all fun p=>decide (p<n)
 | .region _ ops _=>ops.toList.all fun o=>match o.dst with
   | some d=>decide (d<n)
   | none=>true
 | _=>true
def After (E:Env)(n:Nat)(g:Gh)(Q:AEx->Fr->Hp->Prop)(e:Exit)(a:Act)(w:World):Prop :=
 (∃x g' F h,e=x.to∧Q x F h∧g.le g'∧Sim E n g' F h a w)∨∃u g' h,e=.panic [{ v:=u,recovered:=false }]∧E.X u h∧g.le g'∧SimH E g' h w∧a.defers=[]
theorem bX {E:Env}{n:Nat}{g:Gh}{next:Fr->Hp->Prop}{Q:AEx->Fr->Hp->Prop}{e:Exit}{a:Act}{w:World}{k:Act->World->Prop}{Q':Exit->Act->World->Prop}(h:After E n g (cN next Q) e a w)
  (h1:∀F h g',next F h->g.le g'->Sim E n g' F h a w->k a w) (h2:After E n g Q e a w->e≠.normal->Q' e a w):Exit.then k Q' e a w:=by
 rcases h with⟨x,g',F,hp,rfl,hq,hg,s⟩|⟨u,g',h',rfl,hx,hg,S,hd⟩
 .cases x with
  | normal=>exact h1 F hp g' hq hg s
  | exit id=>exact h2 (.inl ⟨.exit id,g',F,hp,rfl,hq,hg,s⟩) (by simp [AEx.to])
  | ret=>exact h2 (.inl ⟨.ret,g',F,hp,rfl,hq,hg,s⟩) (by simp [AEx.to])
 .exact h2 (.inr ⟨u,g',h',rfl,hx,hg,S,hd⟩) AZ
theorem After.mono_g {g g1:Gh}{Q:AEx->Fr->Hp->Prop}{e:Exit}{a:Act}(hg:g.le g1)(h:After E n g1 Q e a w):After E n g Q e a w:=by
 rcases h with⟨x,g',F,hp,e1,hq,h1,s⟩|⟨u,g',h',e1,hx,h1,S,hd⟩
 .exact .inl ⟨x,g',F,hp,e1,hq,hg.trans h1,s⟩
 .exact .inr ⟨u,g',h',e1,hx,hg.trans h1,S,hd⟩
theorem AY2 (h:(ops.toList.all fun o=>match o.dst with|some d=>decide (d<n)|none=>true)=true):∀o∈ops.toList,∀d,o.dst=some d->d<n:=by
 intro o ho d hd;rw[zL] at h;have:=h o ho;rw[hd] at this;simpa using this
def Gh.putM (g:Gh)(l:Nat)(o:Option Obj):Gh := { g with M:=fun x=>if x=l then o else g.M x }
theorem Gh.putM_eq (g:Gh)(l:Nat)(o:Option Obj):(g.putM l o).M l=o:=by simp [Gh.putM]
theorem Gh.putM_ne (g:Gh){l:Nat}(o:Option Obj)(h:k≠l):(g.putM l o).M k=g.M k:=by simp [Gh.putM,h]
theorem mO {g:Gh}{l:Nat}{o:Obj}(ho:g.M l=some o)(hc:∀c e fz,o≠.cells c e fz)(o':Option Obj)(k:Nat)(c:Array Value)(e:TypeId)(fz:Nat×Nat)(hk:g.M k=some (.cells c e fz)):(g.putM l o').M k=some (.cells c e fz):=by
 rw[g.putM_ne o' (fun q=>by subst q; rw[ho] at hk; cases hk; exact hc _ _ _ rfl)]; exact hk
theorem Rep.putM {g:Gh}{l:Nat}{o:Obj}(ho:g.M l=some o)(hc:∀c e fz,o≠.cells c e fz)(o':Option Obj){v:AV}{cv:Value}(h:Rep g v cv):Rep (g.putM l o') v cv :=
 h.monoC (mO ho hc o') fun _ _ h=>h
theorem SimH.putM {E E':Env}{g:Gh}{h:Hp}{w:World}(S:SimH E g h w){l:Nat}{o:Obj}(ho:g.M l=some o)(hc:∀c e fz,o≠.cells c e fz)(o1:Obj)(o':Option Obj)(h1:o'=some o1∨o'=none)
  (hG:E'.G=E.G) (hL:∀g0,E'.L=some g0->g0.leM (g.putM l o')):SimH E' (g.putM l o') h (w.putObj l o1):=by
 have hw:=S.fro _ _ ho;have hlt:l<w.heap.size:=(Array.getElem?_eq_some_iff.1 hw).1;refine⟨S.os,S.tape,S.output,fun k x hk=>?_,hL,fun b k xs hb=>?_,fun b x hb hi=>?_,S.inj,S.fresh,fun n=>hG▸(S.glob n).monoC (mO ho hc o')⟩
 .by_cases e:k=l
  .subst e
   rw[g.putM_eq] at hk;rcases h1 with h1|h1
   .rw[h1] at hk; cases hk; exact World.putObj_heap_same hlt
   .rw[h1] at hk; cases hk
  .rw[g.putM_ne _ e] at hk
   rw[World.putObj_heap_other e]; exact S.fro k x hk
 .obtain⟨lc,c,e,q1,q2,q3,q4,q5,q6,q7,q8⟩:=S.live b k xs hb
  have hne:lc.cb≠l:=fun q=>by rw[q,ho] at q3; cases q3
  exact⟨lc,c,e,q1,q2,(g.putM_ne _ hne).trans q3,(World.putObj_heap_other hne).trans q4,q5,q6,q7,fun i j row v r1 r2=>let ⟨cv,s1,s2⟩:=q8 i j row v r1 r2; ⟨cv,s1,s2.putM ho hc o'⟩⟩
 .obtain⟨lc,ob,q1,q2,q3,q4,q5,q6⟩:=S.obj b x hb hi
  have hne:lc.cb≠l:=fun q=>by rw[q,ho] at q4; cases q4
  exact⟨lc,ob,q1,q2,q3,(g.putM_ne _ hne).trans q4,(World.putObj_heap_other hne).trans q5,q6.mono fun _ _ r=>r.putM ho hc o'⟩
theorem SimH.env {E':Env}{g:Gh}(S:SimH E g h w)(hG:E'.G=E.G)(hL:∀g0,E'.L=some g0->g0.leM g):SimH E' g h w:=⟨S.os,S.tape,S.output,S.fro,hL,S.live,S.obj,S.inj,S.fresh,fun n=>hG▸S.glob n⟩
def Gh.reB (g:Gh)(b:Nat->Option Obj):Gh := { g with B:=b }
theorem Rep.reB {g:Gh}(b:Nat->Option Obj){v:AV}{cv:Value}(h:Rep g v cv):Rep (g.reB b) v cv:=Rep.monoC (g:=g) (g':=g.reB b) (fun _ _ _ _ h=>h) (fun _ _ h=>h) h
theorem SimH.reB {E:Env}{g:Gh}{h:Hp}{w:World}(S:SimH E g h w)(b:Nat->Option Obj):SimH E (g.reB b) h w :=
 ⟨S.os,S.tape,S.output,S.fro,S.lo,fun b' k xs hb=>let ⟨lc,c,e,q1,q2,q3,q4,q5,q6,q7,q8⟩:=S.live b' k xs hb; ⟨lc,c,e,q1,q2,q3,q4,q5,q6,q7,fun i j row v r1 r2=>let ⟨cv,s1,s2⟩:=q8 i j row v r1 r2; ⟨cv,s1,s2.reB b⟩⟩,fun b' x hb hi=>let ⟨lc,o,q1,q2,q3,q4,q5,q6⟩:=S.obj b' x hb hi; ⟨lc,o,q1,q2,q3,q4,q5,q6.mono fun _ _ r=>r.reB b⟩,S.inj,S.fresh,S.glob⟩
theorem Marks.putM {g:Gh}{l:Nat}{o:Obj}(ho:g.M l=some o)(hd:∀x,o≠.deferred x)(o':Option Obj){ds:List Deferred}(h:Marks g ds):Marks (g.putM l o') ds:=by
 induction h with
 | nil=>exact .nil
 | cons D ds h0 h1 h2 _ ih=>exact .cons D ds h0 ((g.putM_ne _ fun q=>by subst q; rw[ho] at h1; cases h1; exact hd _ rfl).trans h1) h2 ih
theorem Marks.lt {g:Gh}(hf:∀k o,g.M k=some o->k<w.heap.size){ds:List Deferred}(h:Marks g ds):∀d∈ds,∀D,w.heap.size<=D->d.target≠.collected D:=by
 induction h with
 | nil=>intro d hd; cases hd
 | cons D ds h0 h1 h2 _ ih =>
   intro d hd D' hD';rcases zQ.1 hd with rfl|hd
   .intro e; cases e; have:=hf _ _ h1; omega
   .exact ih d hd D' hD'
theorem fold_size (ps:List (Tmp×Value)):∀t:Array Value,(ps.foldl (fun t (p,v)=>t.setIfInBounds p v) t).size=t.size:=by
 induction ps with
 | nil=>intro t; rfl
 | cons x ps ih=>intro t; rw[wC,ih]; simp
theorem AD3 {g:Gh}{n:Nat}:∀(ps:List Tmp) (xs:List AV) (vs:List Value) (F:Fr) (t:Array Value),t.size=n->(∀p∈ps,p<n)->xs.length=ps.length->vs.length=ps.length->(∀(i:Nat) (x:AV) (v:Value),xs[i]?=some x->vs[i]?=some v->Rep g x v) ->
  (∀i,Rep g (F i) (t.getD i undef))->∀i,Rep g (vJ F ps xs i) (((ps.zip vs).foldl (fun t (p,v)=>t.setIfInBounds p v) t).getD i undef)
 | [],xs,vs,F,t,_,_,_,_,_,h=>by
   intro i;have e:vJ F [] xs=F:=by cases xs<;>rfl
   rw[e]; exact h i
 | p::ps,[],_,F,t,_,_,h1,_,_,_=>by simp at h1
 | p::ps,_::_,[],F,t,_,_,_,h2,_,_=>by simp at h2
 | p::ps,x::xs,v::vs,F,t,ht,hp,h1,h2,hr,h=>by
   refine AD3 ps xs vs (upd F p x) (t.setIfInBounds p v) (BG ht) (fun q hq=>hp q (by simp [hq])) (BG h1) (BG h2) (fun i a b q1 q2=>hr (i+1) a b (BG q1) (BG q2)) fun i=>?_
   have hlt:p<t.size:=ht▸hp p AZ;simp only[upd];by_cases hi:i=p
   .subst hi
    simpa [hlt] using hr 0 x v rfl rfl
   .have:p≠i:=fun e=>hi e.symm
    rw[if_neg hi];simpa [Array.getElem?_setIfInBounds_ne this] using h i
theorem AA4 {N:Fence}{Q:Exit->Act->World->Prop}{a:Act}{c:Code}(h:c.wpIn N n P Q a w)(hq:∀l a w,¬Q (.goto l) a w):(Code.scope c).wpIn N n P Q a w:=by
 intro b k cs hro hb hr;have h0:(lone (b.atR a (.code (.scope c)::k)) cs w).fenced P N:=fenced_calm hb hr rfl;have h1:step P (lone (b.atR a (.code (.scope c)::k)) cs w)=.next (lone (b.atR a (.code c :: .inScope c::k)) cs w):=step_lone_go (by simp [stepG,stepG.exec,Frame.atR]);obtain⟨e,a1,w1,hq1,harr⟩:=h b (.inScope c::k) cs hro hb hr
 cases e with
 | normal =>
   have h2:step P (lone (b.atR a1 (.inScope c::k)) cs w1)=.next (lone (b.atR a1 k) cs w1):=step_lone_go (by simp [stepG,stepG.exec,Frame.atR]);exact⟨.normal,a1,w1,hq1,.head h0 h1 (StepsIn.trans harr (.one (fenced_calm hb hr rfl) h2))⟩
 | exit id =>
   have hx:exitTo id (.inScope c::k)=exitTo id k:=by simp [exitTo]
   exact⟨.exit id,a1,w1,hq1,fun k' hk=>.head h0 h1 (harr.1 k' (by rw[hx]; exact hk)),
    fun hr' hk=>let ⟨k1,p1,p2⟩:=harr.2 hr' (by rw[hx]; exact hk); ⟨k1,p1,.head h0 h1 p2⟩⟩
 | goto l=>exact absurd hq1 (hq _ _ _)
 | ret=>exact⟨_,a1,w1,hq1,.of_steps (.one h0 h1) harr⟩
 | panic ch=>exact⟨_,a1,w1,hq1,.of_steps (.one h0 h1) harr⟩
 | outgrown=>exact⟨_,a1,w1,hq1,.of_steps (.one h0 h1) harr⟩
theorem APD {H:Hint}(hm:E.P.follows .mixedOrders=true):∀(c:Code) (ρ:Option Nat) (F:Fr) (h:Hp) (Q:AEx->Fr->Hp->Prop) (g:Gh) (a:Act) (w:World),
  awp E H c F h Q->RH n c=true->(ρ=none∨bB c=true)->Sim E n g F h a w->c.wpIn (FW ρ) 0 E.P (After E n g Q) a w:=by
 intro c
 induction c with
 | skip=>intro ρ F h Q g a w hw _ _ s; exact wpIn_skip (.inl ⟨.normal,g,F,h,rfl,hw,Gh.le.refl g,s⟩)
 | label l=>intro ρ F h Q g a w hw _ _ s; exact wpIn_label (.inl ⟨.normal,g,F,h,rfl,hw,Gh.le.refl g,s⟩)
 | scope b ih =>
   intro ρ F h Q g a w hw hd hρ s;refine AA4 (ih ρ F h Q g a w hw hd hρ s) fun l a w q=>?_
   rcases q with⟨x,_,_,_,e,_⟩|⟨_,_,_,e,_⟩
   .cases x<;>cases e
   .cases e
 | ret=>intro ρ F h Q g a w hw _ _ s; exact wpIn_ret (.inl ⟨.ret,g,F,h,rfl,hw,Gh.le.refl g,s⟩)
 | exit id=>intro ρ F h Q g a w hw _ _ s; exact wpIn_exit (.inl ⟨.exit id,g,F,h,rfl,hw,Gh.le.refl g,s⟩)
 | seq x y ihx ihy =>
   intro ρ F h Q g a w hw hd hρ s;simp only[RH,bB,jO] at hd hρ;refine wpIn_seq (wpIn_mono (ihx ρ F h _ g a w hw hd.1 (hρ.imp id And.left) s) fun e a' w' q=>?_);exact bX q (fun F' h' g' hn hg s'=>wpIn_mono (ihy ρ F' h' Q g' a' w' hn hd.2 (hρ.imp id And.right) s') fun e a w q=>q.mono_g hg) fun q _=>q
 | block id b ih =>
   intro ρ F h Q g a w hw hd hρ s;refine wpIn_block (wpIn_mono (ih ρ F h _ g a w hw hd hρ s) fun e a' w' q=>?_);rcases q with⟨x,g',F',h',rfl,hq,hg,s'⟩|⟨u,g',h',rfl,hx,hg,S,hd⟩
   rotate_left
   .exact .inr ⟨u,g',h',rfl,hx,hg,S,hd⟩
   cases x with
   | normal=>exact .inl ⟨.normal,g',F',h',rfl,hq,hg,s'⟩
   | exit i =>
     simp only[AEx.to,Exit.inBlock,TC] at *;split
     .rename_i hi; rw[if_pos hi] at hq; exact .inl ⟨.normal,g',F',h',rfl,hq,hg,s'⟩
     .rename_i hi; rw[if_neg hi] at hq; exact .inl ⟨.exit i,g',F',h',rfl,hq,hg,s'⟩
   | ret=>exact .inl ⟨.ret,g',F',h',rfl,hq,hg,s'⟩
 | cond c x y ihx ihy =>
   intro ρ F h Q g a w hw hd hρ s;simp only[RH,bB,jO] at hd hρ;simp only[awp] at hw;have hr:=bM s c;split at hw
   .rename_i t ht
    rw[ht] at hr;refine wpIn_cond hr.bool_inv ?_
    cases t with
    | true=>exact ihx ρ F h Q g a w (hw.1 rfl) hd.1 (hρ.imp id And.left) s
    | false=>exact ihy ρ F h Q g a w (hw.2 rfl) hd.2 (hρ.imp id And.right) s
   .exact hw.elim
 | loop b ih =>
   intro ρ F h Q g a w hw hd hρ s;obtain⟨I,⟨n0,h0⟩,hround⟩:=hw;refine wpIn_loop_ghost (fun k a w=>∃g' F h,I k F h∧g.le g'∧Sim E n g' F h a w) n0 ⟨g,F,h,h0,Gh.le.refl g,s⟩ ?_;rintro k a1 w1 ⟨g1,F1,h1,hI,hg1,s1⟩;refine wpIn_mono (ih ρ F1 h1 _ g1 a1 w1 (hround k F1 h1 hI) hd hρ s1) fun e a' w' q=>?_
   exact bX q (fun F' h' g' hn hg s'=>by obtain⟨m,hm1,hm2⟩:=hn; exact⟨m,hm1,g',F',h',hm2,hg1.trans hg,s'⟩) fun q _=>q.mono_g hg1
 | region id ops draw =>
   intro ρ F h Q g a w hw hd hρ s;have hdst:=AY2 (n:=n) (ops:=ops) hd;simp only[awp] at hw
   cases draw with
   | false =>
     refine wpIn_region_list (AAX (n:=n) (g0:=g) ops.toList F h g a w hw s (Gh.le.refl g) hdst (fun F' h' g' a' w' hk hg s'=>.inl ⟨.normal,g',F',h',rfl,hk,hg,s'⟩) fun u h' g' a' w' hx hg S hd=>.inr ⟨u,g',h',rfl,hx,hg,S,hd⟩)
   | true =>
     have sd:Sim E n g F h a { w with drawn:=w.drawn+1 }:=⟨s.simH.world rfl rfl rfl fun _ _=>rfl,s.defers,s.dx,s.base,s.size,s.frame⟩;refine wpIn_region_any hm ?_;refine aL (n:=n) (g0:=g) (md:=H.md) (K:=fun s=>Q .normal s.1 s.2) (fun i o ho=>hdst o ?_) (fun F' h' g' a' w' hk hg s'=>.inl ⟨.normal,g',F',h',rfl,hk,hg,s'⟩) (fun u h' g' a' w' hx hg S hd=>.inr ⟨u,g',h',rfl,hx,hg,S,hd⟩) ops.size _ F h g a _ ?_ (Gh.le.refl g) sd
     .have:ops.toList[i]?=some o:=BG ho
      exact zZ this
     .exact hw
 | rangeFunc gf ps asg body iha ihb =>
   intro ρ F h Q g a w hw hd hρ s;obtain⟨hX,hno,f,caps,N,xs,I,hgf,hit,hI0,hrd,hdone⟩:=hw;simp only[RH,bB,jO] at hd hno hρ;have hρ0:ρ=none:=hρ.resolve_right AZ;subst hρ0;obtain⟨⟨hd1,hd2⟩,hd3⟩:=hd
   have hps:∀p∈ps.toList,p<n:=fun p hp=>by
    have:=Array.all_eq_true'.1 hd3 p (BG hp);simpa using this
   have hr:=bM s gf;rw[hgf] at hr;obtain⟨first',ccaps,hfe,k1,k2,k3,k4⟩:=hr.fn_inv;have hfirst:first' = #[]:=BG k1;subst hfirst;refine wpIn_rangeFunc ?_;intro fn _;obtain⟨rec,hrec⟩:∃rec:LoopState->Loop,rec=fun st=>{ state:=st,pending:=none,fn,tmps:=a.tmps,params:=ps,assign:=asg,body,defers:=w.heap.size }:=⟨_,rfl⟩
   obtain⟨W0,hW0⟩:∃W0,w.alloc (.deferred (some []))=W0:=⟨_,rfl⟩;obtain⟨W1,hW1⟩:∃W1,W0.alloc (.loop (rec .ready))=W1:=⟨_,rfl⟩;have sz0:W0.heap.size=w.heap.size+1:=by rw[<-hW0]; simp
   have G0:Grew w W0 (.deferred (some [])):=by rw[<-hW0]; exact⟨rfl,rfl,rfl,rfl⟩
   have G1:Grew W0 W1 (.loop (rec .ready)):=by rw[<-hW1]; exact⟨rfl,rfl,rfl,rfl⟩
   obtain⟨S0,le0,m0⟩:=s.simH.newF G0;obtain⟨S1,le1,m1⟩:=S0.newF G1;rw[sz0] at S1 le1 m1;have hDn:g.M w.heap.size=none:=(s.simH.unowned_new (Nat.le_refl _)).2;have hln:g.M (w.heap.size+1)=none:=(s.simH.unowned_new (Nat.le_succ _)).2;obtain⟨g1,hg1⟩:∃g1,(g.freeze w.heap.size (.deferred (some []))).freeze (w.heap.size+1) (.loop (rec .ready))=g1:=⟨_,rfl⟩;rw[hg1] at S1 le1 m1;have le01:g.le g1:=le0.trans le1;have mD:g1.M w.heap.size=some (.deferred (some [])):=le1.M _ _ m0;obtain⟨l,hl⟩:∃l,w.heap.size+1=l:=⟨_,rfl⟩;obtain⟨D,hD⟩:∃D,w.heap.size=D:=⟨_,rfl⟩;have hDl:D≠l:=U;rw[hl] at m1 hln;rw[hD] at mD hDn;have S1':SimH (E.know g1) g1 h W1:=S1.env rfl fun g0 hk=>by cases hk; exact⟨fun _ _ x=>x,fun _ _ x=>x⟩
   have nc:∀st c e fz,Obj.loop (rec st)≠.cells c e fz:=fun _ _ _ _ q=>by cases q
   have nd:∀st x,Obj.loop (rec st)≠.deferred x:=fun _ _ q=>by cases q
   have hB:∀k o,g.B k=some o->k≠l:=fun k o hk q=>by subst q; have:=s.base _ _ hk; rw[hln] at this; cases this
   have hLl:∀g0,E.L=some g0->g0.M l=none:=fun g0 hk=>by
    cases hx:g0.M l with
    | none=>rfl
    | some x=>have:=(s.simH.lo _ hk).1 _ _ hx; rw[hln] at this; cases this
   have rounds:∀k h1,k<N->I k h1->YC (E.know g1) l (xs k) h1 fun v h'=>v=.bool true∧I (k+1) h':=by
    intro k h1 hk hI g2 w2 vs S2 hvs;obtain⟨hlen,hw⟩:=hrd k h1 hk hI;have le12:g1.leM g2:=S2.lo _ rfl;have m2:g2.M l=some (.loop (rec .ready)):=le12.1 _ _ m1;have hl2:w2.heap[l]?=some (.loop (rec .ready)):=S2.fro _ _ m2;have hvl:vs.size=ps.size:=by rw[hvs.1]; exact hlen
    have hy:=run_yield (P:=E.P) (args:=vs) hl2 (by rw[hrec]; exact hvl);rw[hrec] at hy;have le02:g.leM (g2.reB g.B):=le01.toM.trans le12
    have sd2:Sim E n (g2.reB g.B) (vJ F ps.toList (xs k)) h1 { tmps:=(ps.zip vs).foldl (fun tmps (t,a)=>tmps.setIfInBounds t a) a.tmps,defers:=[] } w2:=by
     refine⟨(S2.reB g.B).env rfl fun g0 hk=>(s.simH.lo _ hk).trans le02,.nil,.inl rfl,fun k o hk=>le02.1 _ _ (s.base _ _ hk),?_,?_⟩
     .rw[<-Array.foldl_toList,fold_size]; exact s.size
     .rw[<-Array.foldl_toList,Array.toList_zip]
      exact AD3 ps.toList (xs k) vs.toList F a.tmps s.size hps (BG hlen) (BG hvl) (fun i x v p q=>(hvs.2 i x v p (BG q)).reB g.B) fun i=>(s.frame i).monoC (fun _ _ _ _ h=>le02.1 _ _ h) le02.2
    refine⟨fn,_,asg,body,hy,roundIn_of_wpIn trivial ?_⟩;refine wpIn_mono (iha (some l) _ h1 _ (g2.reB g.B) _ w2 hw hd1 (.inr hno.1) sd2) fun e a3 w3 q=>?_
    refine bX q (fun F3 h3 g3 hb le23 s3=>?_) fun q hne=>?_
    .have m3:g3.M l=some (.loop (rec .ready)):=le23.M _ _ m2
     have hl3:w3.heap[l]?=some (.loop (rec .ready)):=s3.simH.fro _ _ m3;obtain⟨bz,hbz⟩:∃bz,Obj.loop (rec .busy)=bz:=⟨_,rfl⟩;have m4:(g3.putM l (some bz)).M l=some bz:=g3.putM_eq l _;have hB3:g3.B=g.B:=le23.B
     have s4:Sim E n (g3.putM l (some bz)) F3 h3 a3 (w3.putObj l bz):=by
      refine⟨s3.simH.putM m3 (nc _) bz _ (.inl rfl) rfl fun g0 hk=>?_,s3.defers.putM m3 (nd _) _,.inr hX,fun k o hk=>?_,s3.size,fun i=>(s3.frame i).putM m3 (nc _) _⟩
      .have:=(s.simH.lo _ hk).trans (le02.trans le23.toM)
       exact⟨fun k o hk'=>(g3.putM_ne _ fun q=>by subst q; rw[hLl _ hk] at hk'; cases hk').trans (this.1 _ _ hk'),this.2⟩
      .have hk':g.B k=some o:=hB3▸hk
       exact(g3.putM_ne _ (hB k o hk')).trans (s3.base _ _ hk)
     refine⟨w3.putObj l bz,?_,?_⟩
     .rw[run_beginRound hl3 (by rw[hrec]),<-hbz,hrec]
     refine wpIn_mono (ihb (some l) _ h3 _ _ a3 _ hb hd2 (.inr hno.2) s4) ?_;rintro e a5 w5 (⟨x,g4,F5,h4,rfl,hq,le44,s5'⟩|⟨_,_,_,_,hx,_⟩)
     rotate_left
     .exact(hX _ _ hx).elim
     cases x with
     | exit i=>exact hq.elim
     | ret=>exact hq.elim
     | normal =>
       obtain⟨h5,hgs,hq⟩:=hq;obtain⟨g5,le5,s5⟩:=hgs g4 w5 s5'.simH;have le45:=le44.trans le5;have m5:g5.M l=some bz:=le45.M _ _ m4;have hl5:w5.heap[l]?=some (.loop (rec .busy)):=hbz▸s5.fro _ _ m5;have hend:=run_endRound (P:=E.P) none hl5;have hrd:(Obj.loop { rec .busy with state:=if(none:Option Code).isNone then LoopState.ready else .done,pending:=none })=.loop (rec .ready):=by rw[hrec]; rfl
       rw[hrd] at hend
       have le25:g2.leM (g5.putM l (some (.loop (rec .ready)))):=⟨fun k o hk=>by
        by_cases e:k=l
        .subst e; rw[m2] at hk; rw[g5.putM_eq]; exact hk
        .rw[g5.putM_ne _ e]; exact le45.M _ _ ((g3.putM_ne _ e).trans (le23.M _ _ hk)),fun b lc hk=>le45.μ _ _ (le23.μ _ _ hk)⟩
       refine⟨_,_,hend,.bool true,.bool true,(g5.putM l (some (.loop (rec .ready)))).reB g2.B,h5,rfl,⟨rfl,hq⟩,?_,?_,.bool _ _⟩
       .exact⟨le25.1,le25.2,le45.os.trans le23.os,le45.tape.trans le23.tape,le45.output.trans le23.output,rfl⟩
       .refine(s5.putM (E':=E.know g1) m5 (fun c e fz q=>nc .busy c e fz (hbz.trans q)) (.loop (rec .ready)) _ (.inl rfl) rfl fun g0 hk=>?_).reB g2.B
        cases hk;exact le12.trans le25
    .rcases q with⟨x,g3,F3,h3,rfl,hq,_⟩|⟨_,_,_,_,hx,_⟩
     rotate_left
     .exact(hX _ _ hx).elim
     cases x with
     | normal=>exact absurd rfl hne
     | exit i=>exact hq.elim
     | ret=>exact hq.elim
   have hcall:=hit l g1 rounds h hI0
   have hL:ZW g1 (.fn (.yield l) [] []::caps) (#[.func (.yield l) #[] #[]]++ccaps):=by
    refine XV (xs:=[.fn (.yield l) [] []]) ⟨rfl,fun i v cv p q=>?_⟩ ⟨k2,fun i v cv p q=>(k4 i v cv p q).mono le01⟩
    match i with
    | 0=>cases p; cases q; exact .fro (.fn _ _ _ _ _ rfl rfl (fun i v cv p=>by cases p) fun i v cv p=>by cases p)
    | i+1=>cases p
   refine⟨l,[{ target:=.collected D,args := #[] }],W1,{ target:=.fn (.func f) ccaps,args := #[.func (.yield l) #[] #[]] },W1,f,#[.func (.yield l) #[] #[]]++ccaps,W1,?_,?_,fun _ _=>trivial,?_,fun hn=>(Bool.noConfusion hn),CallsIn.FW_of none _ ?_⟩
   .rw[<-hW1,<-hW0,<-hl,<-hD,hrec]
    exact run_enterLoop_outer _ _ _ _ _
   .simp only[resolve,hfe]
    simp [Deferred.ofValue,Act.eval]
   .simp only[invoke]
    exact AB6 hcall.1
   refine(hcall.2 g1 W1 _ S1' hL).mono ?_;rintro e w6 (⟨v,cv,g6,h6,rfl,hIN,le16,S6,_⟩|⟨_,_,_,_,hx,_⟩)
   rotate_left
   .exact(hX _ _ hx).elim
   have m6:g6.M l=some (.loop (rec .ready)):=le16.M _ _ m1;have hl6:w6.heap[l]?=some (.loop (rec .ready)):=S6.fro _ _ m6;have le06:g.le g6:=le01.trans le16;have le07:g.le (g6.putM l none):=⟨fun k o hk=>(g6.putM_ne _ fun q=>by subst q; rw[hln] at hk; cases hk).trans (le06.M _ _ hk),le06.μ,le06.os,le06.tape,le06.output,le06.B⟩;refine⟨none,_,by rw[run_endLoop hl6 (by rw[hrec]; simp),hrec],.inl ⟨.normal,g6.putM l none,F,h6,rfl,hdone h6 hIN,le07,?_⟩⟩;refine⟨S6.putM (E':=E) m6 (nc _) _ _ (.inr rfl) rfl fun g0 hk=>(s.simH.lo _ hk).trans le07.toM,.cons D _ ?_ ((g6.putM_ne _ hDl).trans (le16.M _ _ mD)) (fun d hd=>s.defers.lt (fun k o hk=>s.simH.fro_ne hk) d hd D U) (s.defers.mono le07),.inr hX,fun k o hk=>le07.M _ _ (s.base _ _ (le07.B▸hk)),s.size,fun i=>(s.frame i).mono le07⟩
   cases hx:(g6.putM l none).B D with
   | none=>rfl
   | some x=>have:=s.base D x (le07.B▸hx); rw[hDn] at this; cases this
 | _=>intro ρ F h Q g a w hw _ _ s; simp only[awp] at hw
def UW (P:Program)(h:Hp)(F:Fr):ResultVar->Option AV
 | .tmp t=>some (F t)
 | .cell a t=>match F a with
   | .ptr b i j=>BH P h t (.ptr b i j)
   | _=>none
def RI (P:Program)(h:Hp)(F:Fr):List ResultVar->Option (List AV)
 | []=>some []
 | r::l=>match UW P h F r,RI P h F l with
   | some v,some vs=>some (v::vs)
   | _,_=>none
def bW (P:Program)(h:Hp)(F:Fr):List ResultVar->Option AV
 | [r]=>UW P h F r
 | l=>match RI P h F l with
   | some vs=>some (.tup vs)
   | none=>none
def eZ (tmps:Array Value):ResultVar->Sem Value
 | .tmp t=>pure (tmps.getD t undef)
 | .cell a t=>do loadVar t (<-asAddr (tmps.getD a undef))
theorem kE {g:Gh}{a:Act}{r:ResultVar}(s:Sim E n g F h a w)(hr:UW E.P h F r=some v):∃cv,(eZ a.tmps r).run E.P w=.ok cv w∧Rep g v cv:=by
 cases r with
 | tmp t=>simp only[UW] at hr; cases hr; exact⟨_,rfl,s.frame t⟩
 | cell x t =>
   simp only[UW] at hr;have hx:=s.frame x;split at hr
   .rename_i b i j hb
    rw[hb] at hx;obtain⟨cv,h1,h2⟩:=nH s.simH hr hx;obtain⟨l,_,he⟩:=hx.ptr_inv;rw[he] at h1;refine⟨cv,?_,h2⟩;simp only[eZ,he,asAddr,Sem.run_bind,Sem.run_pure,Result.andThen_ok];simpa [Instr.loadAt,Instr.sureAddr] using h1
   .cases hr
theorem kD {E:Env}{n:Nat}{g:Gh}{F:Fr}{h:Hp}{a:Act}{w:World}(s:Sim E n g F h a w):∀(l:List ResultVar) (vs:List AV),RI E.P h F l=some vs ->
  ∃cvs:List Value,(l.mapM (eZ a.tmps)).run E.P w=.ok cvs w∧cvs.length=vs.length∧∀(i:Nat) (v:AV) (cv:Value),vs[i]?=some v->cvs[i]?=some cv->Rep g v cv
 | [],vs,hr=>by simp [RI] at hr; subst hr; exact⟨[],AZ,rfl,AZ⟩
 | r::l,vs,hr=>by
   simp only[RI] at hr
   cases h1:UW E.P h F r with
   | none=>simp [h1] at hr
   | some v =>
     cases h2:RI E.P h F l with
     | none=>simp [h1,h2] at hr
     | some vs' =>
       simp [h1,h2] at hr;subst hr;obtain⟨cv,k1,k2⟩:=kE s h1;obtain⟨cvs,q1,q2,q3⟩:=kD s l vs' h2;refine⟨cv::cvs,by simp [List.mapM_cons,k1,q1],by simp [q2],fun i v' cv' p q=>?_⟩
       cases i with
       | zero=>simp at p q; subst p q; exact k2
       | succ i=>exact q3 i v' cv' (BG p) (BG q)
theorem AGX (fn:Func)(tmps:Array Value):results fn tmps=(do let vs <-fn.results.mapM (eZ tmps); pure (if h:vs.size=1 then vs[0] else .tuple vs):Sem Value):=by
 unfold results;congr 2
theorem AIV {g:Gh}{a:Act}{fn:Func}(s:Sim E n g F h a w)(hr:bW E.P h F fn.results.toList=some v):∃cv,(results fn a.tmps).run E.P w=.ok cv w∧Rep g v cv:=by
 have hmap:∀cvs:List Value,(fn.results.toList.mapM (eZ a.tmps)).run E.P w=.ok cvs w->(fn.results.mapM (eZ a.tmps)).run E.P w=.ok cvs.toArray w:=by
  intro cvs hc;rw[Array.mapM_eq_mapM_toList];simp only[Sem.run_map,hc,Result.andThen_ok]
 rw[AGX];unfold bW at hr;split at hr
 .rename_i r hl
  obtain⟨cv,h1,h2⟩:=kE s hr;have:=hmap [cv] (by rw[hl]; simp [h1]);exact⟨cv,by simp [this],h2⟩
 .rename_i hl
  split at hr
  .rename_i vs hvs
   cases hr;obtain⟨cvs,q1,q2,q3⟩:=kD s _ _ hvs
   have hne:¬(cvs.length=1):=by
    intro h1
    have:fn.results.toList.length=1:=by
     have:∀(l:List ResultVar) (vs:List AV),RI E.P h F l=some vs->vs.length=l.length:=by
      intro l
      induction l with
      | nil=>intro vs hv; simp [RI] at hv; subst hv; rfl
      | cons r l ih =>
        intro vs hv;simp only[RI] at hv;split at hv
        .rename_i v' vs' e1 e2; cases hv; simp [ih vs' e2]
        .cases hv
     have:=this _ _ hvs;omega
    match hx:fn.results.toList,this with
    | [r],_=>exact hl r hx
   have:=hmap cvs q1;exact⟨.tuple cvs.toArray,by simp [this,hne],.tup _ _ (BG q2) (BG q3)⟩
  .cases hr
def OB:List AV->Fr
 | []=>fun _=>GZ
 | v::r=>fun i=>match i with
   | 0=>v
   | i+1=>OB r i
theorem DY (v:AV)(r:List AV):OB (v::r) 0=v:=rfl
theorem EN (v:AV)(r:List AV)(i:Nat):OB (v::r) (i+1)=OB r i:=rfl
theorem iU:∀(l:List AV) (i:Nat),OB l i=(l[i]?).getD GZ
 | [],i=>by simp [OB]
 | v::r,0=>by simp [OB]
 | v::r,i+1=>by simp [OB,iU r i]
theorem dI {E:Env}{fn:Func}{tmps:Array Value}{R:Ending->World->Prop}{h:Hp}{B:Nat->Option Obj}(hB:∀g0,E.L=some g0->∀k o,g0.M k=some o->B k=some o):∀(ds:List Deferred) (g:Gh) (w:World),
  g.B=B->Marks g ds->SimH E g h w->(∀k o,B k=some o->g.M k=some o) ->
  (∀g' w',SimH E g' h w'->g'.B=B->(∀k o,B k=some o->g'.M k=some o)->g'.μ=g.μ->g'.os=g.os->g'.tape=g.tape->g'.output=g.output->(∀v cv,Rep g v cv->Rep g' v cv)->LeavesInM Fence.wide 0 E.P fn tmps R [] .returning w') ->
  LeavesInM Fence.wide 0 E.P fn tmps R ds .returning w
 | [],g,w,hgB,_,S,hb,hk=>hk g w S hgB hb rfl rfl rfl rfl fun _ _ h=>h
 | d::ds,g,w,hgB,hm,S,hb,hk=>by
   cases hm with
   | cons D _ h0 h1 h2 h3 =>
     have hc:∀c e fz,Obj.deferred (some [])≠.cells c e fz:=fun _ _ _ q=>by cases q
     have hDB:B D=none:=hgB▸h0
     have S2:SimH E (g.putM D none) h (w.putObj D (.deferred none)):=S.putM h1 hc _ _ (.inr rfl) rfl fun g0 hg0=>by
      have:=S.lo _ hg0;exact⟨fun k o hk'=>(g.putM_ne _ fun q=>by subst q; rw[hB _ hg0 _ _ hk'] at hDB; cases hDB).trans (this.1 _ _ hk'),this.2⟩
     have m2:Marks (g.putM D none) ds:=by
      clear hk S2
      induction h3 with
      | nil=>exact .nil
      | cons D' ds' q0 q1 q2 _ ih =>
        refine .cons D' ds' q0 ((g.putM_ne _ fun q=>?_).trans q1) q2 (ih fun d hd=>h2 d (List.mem_cons_of_mem _ hd));exact h2 _ (List.mem_cons_self) (by rw[q])
     refine⟨AZ,.inl ⟨D,_,rfl,run_takeDeferred (S.fro _ _ h1),dI hB ds (g.putM D none) _ hgB m2 S2 (fun k o hk'=>(g.putM_ne _ fun q=>by subst q; rw[hk'] at hDB; cases hDB).trans (hb k o hk')) fun g' w' S' a1 a2 a3 a4 a5 a6 a7=>hk g' w' S' a1 a2 a3 a4 a5 a6 fun v cv hr=>a7 v cv (hr.putM h1 hc none)⟩⟩
theorem JE {E:Env}{H:Hint}{f:FuncId}{fn:Func}{c:Code}{args:List AV}{h:Hp}{R:AV->Hp->Prop}(hm:E.P.follows .mixedOrders=true)(hf:E.P.funcs[f]?=some fn)(hb:fn.body=some c)
  (hname:(fn.name == "runtime.NumGoroutine")=false) (hok:RH fn.ntmps c=true) (hn:args.length<=fn.ntmps)
  (hw:awp E H c (OB args) h (fun e F h'=>(match e with|.exit _=>False|_=>True)∧∃r,bW E.P h' F fn.results.toList=some r∧R r h')):ACalls E f args h R:=by
 refine⟨⟨fn,hf,by simp [hb],hname⟩,fun g w cargs S ha=>?_⟩;refine callsIn_wide.1 (callsIn_of_wp_marks (n:=0) hf hb trivial ?_)
 have s:Sim E fn.ntmps (g.reB g.M) (OB args) h { tmps:=cargs++Array.replicate (fn.ntmps-cargs.size) undef,defers:=[] } w:=by
  refine⟨S.reB g.M,.nil,.inl rfl,fun _ _ h=>h,by simp [ha.1]; omega,fun i=>?_⟩;rw[iU];simp only[Array.getD_eq_getD_getElem?,Array.getElem?_append];split
  .rename_i hi
   have h1:i<args.length:=by rw[<-ha.1]; exact hi
   rw[jG h1];have:=ha.2 i args[i] cargs[i] (by simp [h1]) (by simp [hi]);simpa [hi] using this.reB g.M
  .rename_i hi
   have h1:args.length<=i:=by rw[<-ha.1]; omega
   rw[zY h1,Array.getElem?_replicate];have h2:(if i-cargs.size<fn.ntmps-cargs.size then some undef else none).getD undef=undef:=by split<;>rfl
   simp only[Option.getD_none];rw[h2];exact Rep.undef _
 have main:∀(a':Act) (w':World) (g':Gh) (F':Fr) (h':Hp) (r:AV),bW E.P h' F' fn.results.toList=some r->R r h'->(g.reB g.M).le g'->Sim E fn.ntmps g' F' h' a' w' ->
   LeavesInM Fence.wide 0 E.P fn a'.tmps (fun e w'=>(∃v cv g' h',e=.returned cv∧R v h'∧g.le g'∧SimH E g' h' w'∧Rep g' v cv)∨∃u g' h',e=.panicked [{ v:=u,recovered:=false }]∧E.X u h'∧g.le g'∧SimH E g' h' w') a'.defers .returning w':=by
  intro a' w' g' F' h' r hr hR hg s';refine dI (B:=g.M) (fun g0 hg0=>(S.lo _ hg0).1) a'.defers g' w' hg.B s'.defers s'.simH (fun k o hk=>hg.M k o hk) ?_;intro g2 w2 S2 b1 b2 b3 b4 b5 b6 b7;have s2:Sim E fn.ntmps g2 F' h' { a' with defers:=[] } w2:=⟨S2,.nil,.inl rfl,fun k o hk=>b2 k o (b1▸hk),s'.size,fun i=>b7 _ _ (s'.frame i)⟩;obtain⟨cv,q1,q2⟩:=AIV s2 hr;exact⟨cv,q1,.inl ⟨r,cv,g2.reB g.B,h',rfl,hR,⟨b2,fun b l hl=>by show g2.μ b=_; rw[b3]; exact hg.μ b l hl,b4.trans hg.os,b5.trans hg.tape,b6.trans hg.output,rfl⟩,S2.reB g.B,q2.reB g.B⟩⟩
 refine wpIn_mono (APD (ρ:=none) hm c _ _ _ (g.reB g.M) _ w hw hok (.inl rfl) s) ?_;rintro e a' w' (⟨x,g',F',h',rfl,⟨hx,r,hr,hR⟩,hg,s'⟩|⟨u,g',h',rfl,hx,hg,S',hd⟩)
 rotate_left
 .show LeavesInM _ _ _ _ _ _ a'.defers _ _
  rw[hd];exact .inr ⟨u,g'.reB g.B,h',rfl,hx,⟨fun k o hk=>hg.M k o hk,fun b l hl=>hg.μ b l hl,hg.os,hg.tape,hg.output,rfl⟩,S'.reB g.B⟩
 cases x with
 | normal=>exact main a' w' g' F' h' r hr hR hg s'
 | ret=>exact main a' w' g' F' h' r hr hR hg s'
 | exit id=>exact hx.elim
def EZ (n:Nat)(h:Hp):Nat->AV->AV
 | 0,_=>.junk
 | d+1,v=>match v with
   | .own b off len=>if b<n then .junk else match h[b]? with
     | some (.live k xs)=>if off+len<=xs.length∧(((xs.drop off).take len).map (·.map (EZ n h d))).all (·.all AV.leaf)=true then .sl .any k (((xs.drop off).take len).map (·.map (EZ n h d))) else .junk
     | _=>.junk
   | .ptr _ _ _=>.junk
   | .mp _=>.junk
   | .fn f a b=>match a,b with
     | [],[]=>.fn f [] []
     | _,_=>.junk
   | .agg cs=>.agg (cs.map (EZ n h d))
   | .tup cs=>.tup (cs.map (EZ n h d))
   | v=>v

theorem RepF.again {M:Nat->Option Obj}{g':Gh}{M'':Nat->Option Obj}(hM:∀k o,g'.M k=some o->M'' k=some o){cv0:Value}(h0:RepF M v cv0):∀cv,Rep g' v cv->RepF M'' v cv:=by
 induction h0 with
 | int k n=>intro cv h; rw[h.int_inv]; exact .int k n
 | bool b=>intro cv h; rw[h.bool_inv]; exact .bool b
 | str s=>intro cv h; rw[h.str_inv]; exact .str s
 | nil k=>intro cv h; exact h.sl_inv.mono hM
 | empty m k a cap h1 h2=>intro cv h; exact h.sl_inv.mono hM
 | sl m k xs cb co c e fz cap cv h1 h2 h3 h4 h5 _ h7 h8 ih=>intro cv h; exact h.sl_inv.mono hM
 | fptr k xs i j cb co c e fz cv h3 h4 h5 _ ih=>intro cv h; exact h.fptr_inv.mono hM
 | nilp=>intro cv h; rw[h.nilp_inv]; exact .nilp
 | fn f first caps first' caps' h1 h2 _ _ ih1 ih2 =>
   intro cv h;obtain⟨a,b,rfl,q1,q2,q3,q4⟩:=h.fn_inv;refine .fn f first caps a b q1 q2 (fun i v cv e1 e2=>?_) (fun i v cv e1 e2=>?_)
   .have hi:i<first'.size:=by rw[h1]; exact Z e1
    exact ih1 i v first'[i] e1 (by simp [hi]) cv (q3 i v cv e1 e2)
   .have hi:i<caps'.size:=by rw[h2]; exact Z e1
    exact ih2 i v caps'[i] e1 (by simp [hi]) cv (q4 i v cv e1 e2)
 | nilfn=>intro cv h; rw[h.nilfn_inv]; exact .nilfn
 | agg cs vs h1 _ ih =>
   intro cv h;obtain⟨a,rfl,q1,q2⟩:=h.agg_inv;refine .agg cs a q1 fun i v cv e1 e2=>?_
   have hi:i<vs.size:=by rw[h1]; exact Z e1
   exact ih i v vs[i] e1 (by simp [hi]) cv (q2 i v cv e1 e2)
 | tup cs vs h1 _ ih =>
   intro cv h;obtain⟨a,rfl,q1,q2⟩:=h.tup_inv;refine .tup cs a q1 fun i v cv e1 e2=>?_
   have hi:i<vs.size:=by rw[h1]; exact Z e1
   exact ih i v vs[i] e1 (by simp [hi]) cv (q2 i v cv e1 e2)
 | ifc t v =>
   intro cv h
   cases h with
   | fro h=>cases h; exact .ifc t v
 | nilifc=>intro cv h; rw[h.nilifc_inv]; exact .nilifc
 | nilmp=>intro cv h; rw[h.nilmp_inv]; exact .nilmp
 | junk v=>intro cv h; exact .junk cv
theorem Rep.restrict {g g' g'':Gh}(hM:∀k o,g'.M k=some o->g''.M k=some o)(hμ:∀b,(∃l,g.μ b=some l)->g''.μ b=g'.μ b){cv0:Value}(h0:Rep g v cv0):∀cv,Rep g' v cv->Rep g'' v cv:=by
 induction h0 with
 | fro h=>intro cv h'; exact .fro (h.again hM cv h')
 | own b off len cap l h1 h2 h3 =>
   intro cv h;have hb:=hμ b ⟨l,h1⟩
   cases h with
   | fro h=>cases h
   | own _ _ _ cap' l' q1 q2 q3=>exact .own b off len cap' l' (hb.trans q1) q2 q3
   | ownz _ _ a l' q1=>exact .ownz _ _ a l' (hb.trans q1)
 | ownz b off a l h1 =>
   intro cv h;have hb:=hμ b ⟨l,h1⟩
   cases h with
   | fro h=>cases h
   | own _ _ _ cap' l' q1 q2 q3=>exact .own b off 0 cap' l' (hb.trans q1) q2 q3
   | ownz _ _ a l' q1=>exact .ownz _ _ a l' (hb.trans q1)
 | ptr b i j l h1 =>
   intro cv h;obtain⟨l',q1,rfl⟩:=h.ptr_inv;exact .ptr b i j l' ((hμ b ⟨l,h1⟩).trans q1)
 | mp b l h1 =>
   intro cv h;obtain⟨l',q1,rfl⟩:=h.mp_inv;exact .mp b l' ((hμ b ⟨l,h1⟩).trans q1)
 | fn f first caps first' caps' h1 h2 _ _ ih1 ih2 =>
   intro cv h;obtain⟨a,b,rfl,q1,q2,q3,q4⟩:=h.fn_inv;refine .fn f first caps a b q1 q2 (fun i v cv e1 e2=>?_) (fun i v cv e1 e2=>?_)
   .have hi:i<first'.size:=by rw[h1]; exact Z e1
    exact ih1 i v first'[i] e1 (by simp [hi]) cv (q3 i v cv e1 e2)
   .have hi:i<caps'.size:=by rw[h2]; exact Z e1
    exact ih2 i v caps'[i] e1 (by simp [hi]) cv (q4 i v cv e1 e2)
 | agg cs vs h1 _ ih =>
   intro cv h;obtain⟨a,rfl,q1,q2⟩:=h.agg_inv;refine .agg cs a q1 fun i v cv e1 e2=>?_
   have hi:i<vs.size:=by rw[h1]; exact Z e1
   exact ih i v vs[i] e1 (by simp [hi]) cv (q2 i v cv e1 e2)
 | tup cs vs h1 _ ih =>
   intro cv h;obtain⟨a,rfl,q1,q2⟩:=h.tup_inv;refine .tup cs a q1 fun i v cv e1 e2=>?_
   have hi:i<vs.size:=by rw[h1]; exact Z e1
   exact ih i v vs[i] e1 (by simp [hi]) cv (q2 i v cv e1 e2)
theorem ObjRep.restrict {g g' g'':Gh}(hM:∀k o,g'.M k=some o->g''.M k=some o)(hμ:∀b,(∃l,g.μ b=some l)->g''.μ b=g'.μ b){x:ABlk}{o o0:Obj}(h0:ObjRep g x o0)(h:ObjRep g' x o):ObjRep g'' x o:=by
 cases h with
 | iter s pos=>exact .iter s pos
 | map es ces clock h1 h2 =>
   cases h0 with
   | map _ ces0 clock0 p1 p2 =>
     refine .map es ces clock h1 fun i k v e a b=>?_
     have hi:i<ces0.size:=by rw[p1]; exact Z a
     have q:=p2 i k v ces0[i] a (by simp [hi]);have r:=h2 i k v e a b;exact⟨q.1.restrict hM hμ _ r.1,q.2.restrict hM hμ _ r.2⟩
theorem tY {E:Env}{g:Gh}{h:Hp}{w:World}{n:Nat}{M:Nat->Option Obj}(S:SimH E g h w)(hM:∀k o,g.M k=some o->M k=some o)
  (hF:∀b k xs l,n<=b->h[b]?=some (.live k xs)->g.μ b=some l->M l.cb=w.heap[l.cb]?):∀(d:Nat) (v:AV) (cv:Value),Rep g v cv->RepF M (EZ n h d v) cv
 | 0,v,cv,_=>by simp only[EZ]; exact .junk _
 | d+1,v,cv,hr=>by
   have IH:=tY S hM hF d
   cases v with
   | own b off len =>
     simp only[EZ];split
     .exact .junk _
     rename_i hb;split
     case h_2=>exact .junk _
     rename_i k xs hx;split
     case isFalse=>exact .junk _
     rename_i hc;obtain⟨hlen,hleaf⟩:=hc;obtain⟨l,c,e,q1,q2,q3,q4,q5,q6,q7,q8⟩:=S.live b k xs hx;have hMc:M l.cb=some (.cells c e (0,0)):=(hF b k xs l U hx q1).trans q4;by_cases h0:len=0
     .subst h0
      simp only[List.take_zero,List.map_nil];rcases hr.own_inv with⟨l',cap,r1,r2,r3,rfl⟩|⟨_,a,rfl⟩
      .exact .empty _ _ _ _ AZ AZ
      .exact .empty _ _ _ _ AZ AZ
     .rcases hr.own_inv with⟨l',cap,r1,r2,r3,rfl⟩|⟨hz,a,rfl⟩
      .rw[q1] at r1; cases r1
       have hlx:(((xs.drop off).take len).map (·.map (EZ n h d))).length=len:=by simp; omega
       have hget:∀(i:Nat) (row:List AV),(((xs.drop off).take len).map (·.map (EZ n h d)))[i]?=some row->∃r,xs[off+i]?=some r∧row=r.map (EZ n h d)∧i<len:=by
        intro i row hi;rw[jV] at hi
        cases hr2:((xs.drop off).take len)[i]? with
        | none=>rw[hr2] at hi; cases hi
        | some r =>
          rw[hr2] at hi;simp at hi;rw[wQ] at hr2;split at hr2
          .rename_i hil
           rw[List.getElem?_drop] at hr2;exact⟨r,hr2,hi.symm,hil⟩
          .cases hr2
       have key:∀i j,i<len->j<k->∃cv,c[l.co+off*l.k+i*k+j]?=some cv∧∀(row:List AV) (v:AV),(((xs.drop off).take len).map (·.map (EZ n h d)))[i]?=some row->row[j]?=some v->RepF M v cv:=by
        intro i j hi hj;have hlt:off+i<xs.length:=U;have hrow:=(q7 (off+i) xs[off+i] (by simp [hlt])).1;have hjl:j<(xs[off+i]).length:=U;obtain⟨cv,s1,s2⟩:=q8 (off+i) j xs[off+i] (xs[off+i])[j] (by simp [hlt]) (by simp [hjl]);refine⟨cv,?_,fun row v e1 e2=>?_⟩
        .rw[<-s1]; congr 1; rw[q2,Nat.add_mul]; omega
        .obtain⟨r,t1,t2,_⟩:=hget i row e1
         rw[jG hlt] at t1;cases t1;subst t2;rw[jV,jG hjl] at e2;simp at e2;subst e2;exact IH _ _ s2
       classical
       have:∃cvf:Nat->Nat->Value,∀i j,i<len->j<k->c[l.co+off*l.k+i*k+j]?=some (cvf i j)∧∀(row:List AV) (v:AV),(((xs.drop off).take len).map (·.map (EZ n h d)))[i]?=some row->row[j]?=some v->RepF M v (cvf i j):=by
        refine⟨fun i j=>if hh:i<len∧j<k then (key i j hh.1 hh.2).choose else undef,fun i j hi hj=>?_⟩;have hh:i<len∧j<k:=⟨hi,hj⟩;simp only[hh,and_self,dite_true];exact(key i j hi hj).choose_spec
       obtain⟨cvf,hcv⟩:=this
       have rok:XQ k (((xs.drop off).take len).map (·.map (EZ n h d))):=by
        intro i row hi;obtain⟨r,t1,t2,_⟩:=hget i row hi;subst t2;refine⟨by simpa using (q7 _ r t1).1,fun j v hv=>?_⟩;rw[zL] at hleaf;have:=hleaf _ (zZ hi);rw[zL] at this;exact this v (zZ hv)
       have:=RepF.sl (M:=M) .any k (((xs.drop off).take len).map (·.map (EZ n h d))) l.cb (l.co+off*l.k) c e (0,0) cap cvf (by intro hh; rw[hh] at hlx; simp at hlx; omega) AZ hMc rok
        (fun i j hi hj=>(hcv i j (hlx▸hi) hj).1) (fun i j row v e1 e2=>by
         have hi:i<len:=hlx▸Z e1;have hj:j<k:=by rw[<-(rok i row e1).1]; exact Z e2
         exact(hcv i j hi hj).2 row v e1 e2) (by rw[hlx]; exact r2) AZ
       rw[hlx] at this;exact this
      .exact absurd hz h0
   | ptr b i j=>simp only[EZ]; exact .junk _
   | mp b=>simp only[EZ]; exact .junk _
   | nilifc=>rw[hr.nilifc_inv]; simp only[EZ]; exact .nilifc
   | nilmp=>rw[hr.nilmp_inv]; simp only[EZ]; exact .nilmp
   | fn f a b =>
     simp only[EZ];split
     .obtain⟨a',b',rfl,q1,q2,_⟩:=hr.fn_inv
      exact .fn f [] [] a' b' q1 q2 AZ AZ
     .exact .junk _
   | agg cs =>
     simp only[EZ];obtain⟨a,rfl,q1,q2⟩:=hr.agg_inv;refine .agg _ a (BG q1) fun i v cv e1 e2=>?_
     rw[jV] at e1
     cases hc:cs[i]? with
     | none=>rw[hc] at e1; cases e1
     | some x=>rw[hc] at e1; simp at e1; subst e1; exact IH _ _ (q2 i x cv hc e2)
   | tup cs =>
     simp only[EZ];obtain⟨a,rfl,q1,q2⟩:=hr.tup_inv;refine .tup _ a (BG q1) fun i v cv e1 e2=>?_
     rw[jV] at e1
     cases hc:cs[i]? with
     | none=>rw[hc] at e1; cases e1
     | some x=>rw[hc] at e1; simp at e1; subst e1; exact IH _ _ (q2 i x cv hc e2)
   | int k n=>rw[hr.int_inv]; simp only[EZ]; exact .int _ _
   | bool b=>rw[hr.bool_inv]; simp only[EZ]; exact .bool _
   | str s=>rw[hr.str_inv]; simp only[EZ]; exact .str _
   | sl m k xs=>simp only[EZ]; exact hr.sl_inv.mono hM
   | fptr k xs i j=>simp only[EZ]; exact hr.fptr_inv.mono hM
   | nilp=>rw[hr.nilp_inv]; simp only[EZ]; exact .nilp
   | nilfn=>rw[hr.nilfn_inv]; simp only[EZ]; exact .nilfn
   | ifc t u=>simp only[EZ]; cases hr with
     | fro hr=>exact hr.mono hM
   | junk=>simp only[EZ]; exact .junk _
def Keep (n d:Nat)(h h' h1:Hp)(b:Nat):Prop :=
 h1[b]?=some .dead∨(h1[b]?=h'[b]?∧h'[b]?=h[b]?)∨∃k xs,h'[b]?=some (.live k xs)∧h1[b]?=some (.live k (xs.map (·.map (EZ n h' d))))∧(xs.map (·.map (EZ n h' d))).all (·.all AV.leaf)=true
theorem ACalls.trunc {E:Env}{f:FuncId}{args:List AV}{h:Hp}{R R':AV->Hp->Prop}(hc:ACalls E f args h R)
  (hk:∀v h',R v h'->∃d h1,h1.length=h.length∧(∀b,b<h.length->Keep h.length d h h' h1 b)∧R' (EZ h.length h' d v) h1):ACalls E f args h R':=by
 refine⟨hc.1,fun g w cargs S ha=>(hc.2 g w cargs S ha).mono ?_⟩;rintro e w' (⟨v,cv,g',h',rfl,hR,hle,S',hr⟩|q)
 rotate_left
 .exact .inr q
 obtain⟨d,h1,hlen,hkeep,hR'⟩:=hk v h' hR
 classical
 let M:Nat->Option Obj:=fun k=>match g'.M k with
  | some o=>some o
  | none=>if ∃b k' xs l,h.length<=b∧h'[b]?=some (ABlk.live k' xs)∧g'.μ b=some l∧l.cb=k then w'.heap[k]? else none
 have hM:∀k o,g'.M k=some o->M k=some o:=fun k o hk=>by simp only[M,hk]
 have hMin:∀b k xs l,h.length<=b->h'[b]?=some (.live k xs)->g'.μ b=some l->M l.cb=w'.heap[l.cb]? := by
  intro b k xs l hb hx hl;obtain⟨l',c,e,q1,q2,q3,q4,_⟩:=S'.live b k xs hx;rw[hl] at q1; cases q1;simp only[M,q3];rw[if_pos ⟨b,k,xs,l,hb,hx,hl,rfl⟩]
 have hMout:∀b x l,b<h.length->h'[b]?=some x->x≠.dead->g'.μ b=some l->g'.M l.cb=none->M l.cb=none:=by
  intro b x l hb hx hn hl h0;simp only[M,h0];rw[if_neg];rintro⟨b',k',xs',l',q1,q2,q3,q4⟩;have:=S'.inj b b' x _ l l' hx hn q2 AZ hl q3 q4.symm;omega
 let g2:Gh := { g' with M:=M,μ:=fun b=>if b<h.length then g'.μ b else none }
 have hμ:∀b,b<h.length->g2.μ b=g'.μ b:=fun b hb=>by simp [g2,hb]
 have hdom:∀b,(∃l,g.μ b=some l)->g2.μ b=g'.μ b:=by
  rintro b ⟨l,hl⟩;refine hμ b ?_;rcases jW b h.length with hb|hb
  .exact hb
  .rw[S.fresh b hb] at hl; cases hl
 have hfz:=tY (n:=h.length) S' hM hMin;refine .inl ⟨EZ h.length h' d v,cv,g2,h1,rfl,hR',?_,?_,.fro (hfz d v cv hr)⟩
 .exact⟨fun k o hk=>hM k o (hle.M k o hk),fun b l hl=>by rw[hdom b ⟨l,hl⟩]; exact hle.μ b l hl,hle.os,hle.tape,hle.output,hle.B⟩
 .refine⟨S'.os,S'.tape,S'.output,?_,fun g0 hk=>⟨fun k o x=>hM k o ((S'.lo g0 hk).1 k o x),fun b l x=>by have h1:=(S.lo g0 hk).2 b l x; rw[hdom b ⟨l,h1⟩]; exact hle.μ b l h1⟩,?_,?_,?_,?_,fun n=>(S'.glob n).mono hM⟩
  .intro k o hk
   change M k=some o at hk;simp only[M] at hk;split at hk
   .rename_i o' ho'; cases hk; exact S'.fro k o ho'
   .split at hk
    .exact hk
    .cases hk
  .intro b k xs hx
   have hb:b<h.length:=hlen▸Z hx;rcases hkeep b hb with k1|⟨k1,k2⟩|⟨k',xs',k1,k2,k3⟩
   .rw[k1] at hx; cases hx
   .rw[k1] at hx
    obtain⟨l,c,e,q1,q2,q3,q4,q5,q6,q7,q8⟩:=S'.live b k xs hx;rw[k2] at hx;obtain⟨l0,c0,e0,p1,p2,p3,p4,p5,p6,p7,p8⟩:=S.live b k xs hx;refine⟨l,c,e,(hμ b hb).trans q1,q2,hMout b _ l hb (k2.trans hx) AZ q1 q3,q4,q5,q6,q7,fun i j row v e1 e2=>?_⟩;obtain⟨cv,s1,s2⟩:=q8 i j row v e1 e2;obtain⟨cv0,_,t2⟩:=p8 i j row v e1 e2;exact⟨cv,s1,t2.restrict hM hdom cv s2⟩
   .rw[k2] at hx
    cases hx;obtain⟨l,c,e,q1,q2,q3,q4,q5,q6,q7,q8⟩:=S'.live b k xs' k1;refine⟨l,c,e,(hμ b hb).trans q1,q2,hMout b _ l hb k1 AZ q1 q3,q4,q5,BG q6,?_,?_⟩
    .intro i row hi
     have hi0:=hi;rw[jV] at hi
     cases hr2:xs'[i]? with
     | none=>rw[hr2] at hi; cases hi
     | some r =>
       rw[hr2] at hi; simp at hi; subst hi;refine⟨by simpa using (q7 i r hr2).1,fun j v hv=>?_⟩;rw[zL] at k3;have:=k3 _ (zZ hi0);rw[zL] at this;exact this v (zZ hv)
    .intro i j row v hi hv
     rw[jV] at hi
     cases hr2:xs'[i]? with
     | none=>rw[hr2] at hi; cases hi
     | some r =>
       rw[hr2] at hi; simp at hi; subst hi;rw[jV] at hv
       cases hv2:r[j]? with
       | none=>rw[hv2] at hv; cases hv
       | some x =>
         rw[hv2] at hv; simp at hv; subst hv;obtain⟨cv,s1,s2⟩:=q8 i j r x hr2 hv2;exact⟨cv,s1,.fro (hfz d x cv s2)⟩
  .intro b x hx hi
   have hb:b<h.length:=hlen▸Z hx;rcases hkeep b hb with k1|⟨k1,k2⟩|⟨k',xs',k1,k2,k3⟩
   .rw[k1] at hx; cases hx; cases hi
   .rw[k1] at hx
    obtain⟨l,o,q1,q2,q3,q4,q5,q6⟩:=S'.obj b x hx hi;rw[k2] at hx;obtain⟨l0,o0,p1,p2,p3,p4,p5,p6⟩:=S.obj b x hx hi;exact⟨l,o,(hμ b hb).trans q1,q2,q3,hMout b _ l hb (k2.trans hx) (by rintro rfl; cases hi) q1 q4,q5,p6.restrict hM hdom q6⟩
   .rw[k2] at hx; cases hx; cases hi
  .have back:∀b x,h1[b]?=some x->x≠.dead->b<h.length∧∃y,h'[b]?=some y∧y≠.dead:=by
    intro b x hx hn;have hb:b<h.length:=hlen▸Z hx;refine⟨hb,?_⟩;rcases hkeep b hb with k1|⟨k1,k2⟩|⟨k',xs',k1,k2,k3⟩
    .rw[k1] at hx; cases hx; exact absurd rfl hn
    .exact⟨x,k1▸hx,hn⟩
    .exact⟨_,k1,AZ⟩
   intro b b' x x' l l' e1 n1 e2 n2 m1 m2 hcb;obtain⟨hb,y,hy,hyn⟩:=back b x e1 n1;obtain⟨hb',y',hy',hyn'⟩:=back b' x' e2 n2;rw[hμ b hb] at m1;rw[hμ b' hb'] at m2;exact S'.inj b b' y y' l l' hy hyn hy' hyn' m1 m2 hcb
  .intro b hb
   have:¬b<h.length:=U;simp [g2,this]
theorem ACalls.pure {E:Env}{f:FuncId}{args:List AV}{h:Hp}{R:AV->Hp->Prop}{r:AV}(d:Nat)(hc:ACalls E f args h R)
  (hk:∀v h',R v h'->(∃x,h'=h++x)∧EZ h.length h' d v=r) (hX:E.nox=E:=by rfl):PCall E f args h r:=by
 unfold PCall;rw[hX];refine hc.trunc fun v h' hR=>?_
 obtain⟨⟨x,rfl⟩,hr⟩:=hk v h' hR;exact⟨d,h,rfl,fun b hb=>.inr (.inl ⟨by rw[zX hb],by rw[zX hb]⟩),hr,rfl⟩
theorem ACalls.pure0 {f:FuncId}{args:List AV}{r:AV}(hr:(match r with|.int _ _=>true|.bool _=>true|.str _=>true|.sl _ _ _=>true|_=>false)=true)(hc:ACalls E f args h fun v h'=>v=r∧∃x,h'=h++x)(hX:E.nox=E:=by rfl):PCall E f args h r :=
 hc.pure 1 (fun v h' ⟨e,x⟩=>⟨x,by subst e; cases v<;>simp at hr<;>rfl⟩) hX
theorem AC8 {g:Gh}{k':Nat}{cv:Value}(h:Rep g (.sl .nil k []) cv):Rep g (.sl .nil k' []) cv:=by
 have:=h.sl_inv
 cases this with
 | nil=>exact .fro (.nil k')
 | empty _ _ _ _ h1=>exact absurd rfl h1
 | sl _ _ _ _ _ _ _ _ _ _ h1=>exact absurd rfl h1
theorem ACalls.conv {f:FuncId}{args:List AV}{R R':AV->Hp->Prop}(hc:ACalls E f args h R)(hr:∀v h',R v h'->∃v',R' v' h'∧∀g cv,Rep g v cv->Rep g v' cv):ACalls E f args h R' :=
 ⟨hc.1,fun g w cargs S ha=>(hc.2 g w cargs S ha).mono fun _ _ q=>q.imp (fun⟨v,cv,g',h',e,r,q1,q2,q3⟩=>let ⟨v',r',q4⟩:=hr v h' r; ⟨v',cv,g',h',e,r',q1,q2,q4 g' cv q3⟩) id⟩
end Go.Proofs.YtiihpnicbekebaaGreatDoor.Sm
namespace Go.Proofs.YtiihpnicbekebaaGreatDoor.Sm
variable {H:Hint} {Q:AEx->Fr->Hp->Prop} {want:Bool} {i j len n o off s:Nat} {v x:AV} {m:SM} {kk:IntKind} {xs ys:List (List AV)} {cs row:List AV} {y:ABlk} {cv:Value}

def AQN (E:Env)(H:Hint)(b:Code)(Q:AEx->Fr->Hp->Prop):AEx->Fr->Hp->Prop:=cN (fun F h=>awp E H b F h Q) Q
theorem BQ (E:Env)(H:Hint)(b:Code)(Q:AEx->Fr->Hp->Prop)(F:Fr)(h:Hp):AQN E H b Q .normal F h=awp E H b F h Q:=rfl
theorem eT (E:Env)(H:Hint)(b:Code)(Q:AEx->Fr->Hp->Prop)(F:Fr)(h:Hp)(i:Nat):AQN E H b Q (.exit i) F h=Q (.exit i) F h:=rfl
theorem LC (E:Env)(H:Hint)(b:Code)(Q:AEx->Fr->Hp->Prop)(F:Fr)(h:Hp):AQN E H b Q .ret F h=Q .ret F h:=rfl
theorem L9 (id:Nat)(Q:AEx->Fr->Hp->Prop)(F:Fr)(h:Hp):TC id Q .normal F h=Q .normal F h:=rfl
theorem kB (id:Nat)(Q:AEx->Fr->Hp->Prop)(F:Fr)(h:Hp):TC id Q .ret F h=Q .ret F h:=rfl
theorem YN (id i:Nat)(Q:AEx->Fr->Hp->Prop)(F:Fr)(h:Hp):TC id Q (.exit i) F h=if i=id then Q .normal F h else Q (.exit i) F h:=rfl
def AWN (I:Nat->Fr->Hp->Prop)(n:Nat)(Q:AEx->Fr->Hp->Prop):AEx->Fr->Hp->Prop:=cN (fun F' h'=>∃m,m<n∧I m F' h') Q
theorem PD (I:Nat->Fr->Hp->Prop)(n:Nat)(Q:AEx->Fr->Hp->Prop)(F:Fr)(h:Hp):AWN I n Q .normal F h =∃m,m<n∧I m F h:=rfl
theorem sU (I:Nat->Fr->Hp->Prop)(n:Nat)(Q:AEx->Fr->Hp->Prop)(F:Fr)(h:Hp)(i:Nat):AWN I n Q (.exit i) F h=Q (.exit i) F h:=rfl
theorem ACC (I:Nat->Fr->Hp->Prop)(n:Nat)(Q:AEx->Fr->Hp->Prop)(F:Fr)(h:Hp):AWN I n Q .ret F h=Q .ret F h:=rfl
def MJ (P:Program)(rs:List ResultVar)(R:AV->Hp->Prop):AEx->Fr->Hp->Prop:=fun e F h'=>(match e with|.exit _=>False|_=>True)∧∃r,bW P h' F rs=some r∧R r h'
theorem MR (P:Program)(t:Nat)(R:AV->Hp->Prop)(F:Fr)(h:Hp):MJ P [.tmp t] R .ret F h=R (F t) h:=by simp [MJ,bW,UW]
theorem A3N (P:Program)(R:AV->Hp->Prop)(F:Fr)(h:Hp):MJ P [] R .ret F h=R (.tup []) h:=by simp [MJ,bW,RI]
theorem gF (P:Program)(R:AV->Hp->Prop)(F:Fr)(h:Hp):MJ P [] R .normal F h=R (.tup []) h:=by simp [MJ,bW,RI]
theorem oJ (P:Program)(t u:Nat)(R:AV->Hp->Prop)(F:Fr)(h:Hp):MJ P [.tmp t,.tmp u] R .ret F h=R (.tup [F t,F u]) h:=by simp [MJ,bW,RI,UW]
theorem ATP (P:Program)(t u v:Nat)(R:AV->Hp->Prop)(F:Fr)(h:Hp):MJ P [.tmp t,.tmp u,.tmp v] R .ret F h=R (.tup [F t,F u,F v]) h:=by simp [MJ,bW,RI,UW]
theorem bN (P:Program)(t u v x:Nat)(R:AV->Hp->Prop)(F:Fr)(h:Hp):MJ P [.tmp t,.tmp u,.tmp v,.tmp x] R .ret F h=R (.tup [F t,F u,F v,F x]) h:=by simp [MJ,bW,RI,UW]
def jN (E:Env)(H:Hint)(x y:Code)(F:Fr)(h:Hp)(Q:AEx->Fr->Hp->Prop)(v:AV):Prop:=match v with
 | .bool t=>(t=true->awp E H x F h Q)∧(t=false->awp E H y F h Q)
 | _=>False
theorem KQ (E:Env)(H:Hint)(x y:Code)(F:Fr)(h:Hp)(Q:AEx->Fr->Hp->Prop):jN E H x y F h Q (.bool true)=awp E H x F h Q:=by simp [jN]
theorem IC (E:Env)(H:Hint)(x y:Code)(F:Fr)(h:Hp)(Q:AEx->Fr->Hp->Prop):jN E H x y F h Q (.bool false)=awp E H y F h Q:=by simp [jN]
theorem BM {E:Env}{x y:Code}{F:Fr}{h:Hp}{b:Bool}(h1:b=true->awp E H x F h Q)(h2:b=false->awp E H y F h Q):jN E H x y F h Q (.bool b):=⟨h1,h2⟩
theorem BV (E:Env)(H:Hint)(F:Fr)(h:Hp)(Q:AEx->Fr->Hp->Prop):awp E H .skip F h Q=Q .normal F h:=rfl
theorem EW (E:Env)(H:Hint)(F:Fr)(h:Hp)(Q:AEx->Fr->Hp->Prop):awp E H .ret F h Q=Q .ret F h:=rfl
theorem TT (E:Env)(H:Hint)(i:Nat)(F:Fr)(h:Hp)(Q:AEx->Fr->Hp->Prop):awp E H (.exit i) F h Q=Q (.exit i) F h:=rfl
theorem BO (E:Env)(H:Hint)(a b:Code)(F:Fr)(h:Hp)(Q:AEx->Fr->Hp->Prop):awp E H (.seq a b) F h Q=awp E H a F h (AQN E H b Q):=rfl
theorem ZK (E:Env)(H:Hint)(l:Nat)(F:Fr)(h:Hp)(Q:AEx->Fr->Hp->Prop):awp E H (.label l) F h Q=Q .normal F h:=rfl
theorem uP (E:Env)(H:Hint)(b:Code)(F:Fr)(h:Hp)(Q:AEx->Fr->Hp->Prop):awp E H (.scope b) F h Q=awp E H b F h Q:=rfl
theorem BR (E:Env)(H:Hint)(id:Nat)(b:Code)(F:Fr)(h:Hp)(Q:AEx->Fr->Hp->Prop):awp E H (.block id b) F h Q=awp E H b F h (TC id Q):=rfl
theorem DW (E:Env)(H:Hint)(c:Operand)(x y:Code)(F:Fr)(h:Hp)(Q:AEx->Fr->Hp->Prop):awp E H (.cond c x y) F h Q=jN E H x y F h Q (ev E F c):=rfl
theorem BJ {E:Env}{b:Code}{F:Fr}{h:Hp}(I:Nat->Fr->Hp->Prop)(n:Nat)(h0:I n F h)(hr:∀n F h,I n F h->awp E H b F h (AWN I n Q)):awp E H (.loop b) F h Q:=⟨I,⟨n,h0⟩,hr⟩
def EI:List Oper->Nat->Option Tmp
 | [],_=>none
 | o::_,0=>o.dst
 | _::r,j+1=>EI r j
theorem YD:∀(l:List Oper) (j:Nat),rR (l.map (·.dst)) j=EI l j
 | [],j=>by simp [rR,EI]
 | o::l,0=>by simp [rR,EI]
 | o::l,j+1=>by simp [rR,EI,YD l j]
def WW (E:Env)(H:Hint)(ops:List Oper)(l:List Oper)(F:Fr)(h:Hp)(K:Fr->Hp->Prop):Prop:=W E H (ops.map (·.dst)) l F h K
def sE (E:Env)(H:Hint)(ops:List Oper)(d:Option Tmp)(r:List Oper)(F:Fr)(K:Fr->Hp->Prop):AV->Hp->Prop:=fun v h'=>WW E H ops r (FV F d v) h' K
theorem BC (E:Env)(H:Hint)(ops:List Oper)(d:Tmp)(r:List Oper)(F:Fr)(K:Fr->Hp->Prop)(v:AV)(h:Hp):sE E H ops (some d) r F K v h=WW E H ops r (upd F d v) h K:=rfl
theorem DU (E:Env)(H:Hint)(ops:List Oper)(r:List Oper)(F:Fr)(K:Fr->Hp->Prop)(v:AV)(h:Hp):sE E H ops none r F K v h=WW E H ops r F h K:=rfl
def X1 (E:Env)(own:Bool)(op:Op)(s:Fr×Hp)(c:Fr->AV->Hp->Prop):Prop:=NG E own op s.1 s.2 (c s.1)
def wc (E:Env)(H:Hint)(ops:List Oper)(d:Option Tmp)(r:List Oper)(K:Fr->Hp->Prop):Fr->AV->Hp->Prop:=fun F=>sE E H ops d r F K
def G1 (E:Env)(H:Hint)(ops:List Oper)(d:Option Tmp)(op:Op)(r:List Oper)(F:Fr)(h:Hp)(K:Fr->Hp->Prop)(want:Bool)(v:AV):Prop :=
 match v with
 | .bool b=>((b==want)=true->X1 E (CG op (H.md (d.getD 0))) op (LW (F,h) (H.fz (d.getD 0))) (wc E H ops d r K))∧((b==want)=false->WW E H ops r (FV F d GZ) h K)
 | .tup []=>WW E H ops r (FV F d GZ) h K
 | _=>False
theorem CB (E:Env)(H:Hint)(ops:List Oper)(F:Fr)(h:Hp)(K:Fr->Hp->Prop):WW E H ops [] F h K=K F h:=rfl
theorem BP (E:Env)(H:Hint)(ops:List Oper)(d:Option Tmp)(op:Op)(t:TypeId)(p:String)(e:Array Edge)(r:List Oper)(F:Fr)(h:Hp)(K:Fr->Hp->Prop):
  WW E H ops (⟨d,op,t,p,e,none⟩::r) F h K=X1 E (CG op (H.md (d.getD 0))) op (LW (F,h) (H.fz (d.getD 0))) (wc E H ops d r K):=by
 simp only[WW,W,MO,true_imp_iff,Bool.true_eq_false,false_imp_iff,and_true,X1];rfl
theorem AVC (E:Env)(H:Hint)(ops:List Oper)(d:Option Tmp)(op:Op)(t:TypeId)(p:String)(e:Array Edge)(j:Nat)(want:Bool)(r:List Oper)(F:Fr)(h:Hp)(K:Fr->Hp->Prop)(g:Tmp)(hg:EI ops j=some g):
  WW E H ops (⟨d,op,t,p,e,some (j,want)⟩::r) F h K=G1 E H ops d op r F h K want (F g):=by
 simp only[WW,W,MO,YD,hg,G1];generalize F g=v
 cases v with
 | bool b=>rfl
 | tup vs=>cases vs with
   | nil=>simp
   | cons=>rfl
 | _=>rfl
def GX (E:Env)(H:Hint)(ops:List Oper)(d:Option Tmp)(op:Op)(r:List Oper)(F:Fr)(h:Hp)(K:Fr->Hp->Prop)(want:Bool)(o:Option Tmp):Prop:=match o with
 | some g=>G1 E H ops d op r F h K want (F g)
 | none=>WW E H ops r (FV F d GZ) h K
theorem EU (E:Env)(H:Hint)(ops:List Oper)(d:Option Tmp)(op:Op)(r:List Oper)(F:Fr)(h:Hp)(K:Fr->Hp->Prop)(want:Bool)(g:Tmp):GX E H ops d op r F h K want (some g)=G1 E H ops d op r F h K want (F g):=rfl
theorem D6 (E:Env)(H:Hint)(ops:List Oper)(d:Option Tmp)(op:Op)(t:TypeId)(p:String)(e:Array Edge)(j:Nat)(want:Bool)(r:List Oper)(F:Fr)(h:Hp)(K:Fr->Hp->Prop):
  WW E H ops (⟨d,op,t,p,e,some (j,want)⟩::r) F h K=GX E H ops d op r F h K want (EI ops j):=by
 cases hg:EI ops j with
 | some g=>exact AVC E H ops d op t p e j want r F h K g hg
 | none=>simp [WW,W,MO,YD,hg,GX]
theorem IW {E:Env}{ops:List Oper}{d:Option Tmp}{op:Op}{r:List Oper}{F:Fr}{h:Hp}{K:Fr->Hp->Prop}{b:Bool}(ht:b=true->G1 E H ops d op r F h K want (.bool true))(hf:b=false->G1 E H ops d op r F h K want (.bool false)):G1 E H ops d op r F h K want (.bool b):=by
 cases b
 .exact hf rfl
 .exact ht rfl
theorem P8 (E:Env)(H:Hint)(ops:List Oper)(d:Option Tmp)(op:Op)(r:List Oper)(F:Fr)(h:Hp)(K:Fr->Hp->Prop):G1 E H ops d op r F h K true (.bool true)=X1 E (CG op (H.md (d.getD 0))) op (LW (F,h) (H.fz (d.getD 0))) (wc E H ops d r K):=by simp [G1]
theorem KL (E:Env)(H:Hint)(ops:List Oper)(d:Option Tmp)(op:Op)(r:List Oper)(F:Fr)(h:Hp)(K:Fr->Hp->Prop):G1 E H ops d op r F h K false (.bool false)=X1 E (CG op (H.md (d.getD 0))) op (LW (F,h) (H.fz (d.getD 0))) (wc E H ops d r K):=by simp [G1]
theorem eP (E:Env)(H:Hint)(ops:List Oper)(d:Option Tmp)(op:Op)(r:List Oper)(F:Fr)(h:Hp)(K:Fr->Hp->Prop):G1 E H ops d op r F h K true (.bool false)=WW E H ops r (FV F d GZ) h K:=by simp [G1]
theorem YU (E:Env)(H:Hint)(ops:List Oper)(d:Option Tmp)(op:Op)(r:List Oper)(F:Fr)(h:Hp)(K:Fr->Hp->Prop):G1 E H ops d op r F h K false (.bool true)=WW E H ops r (FV F d GZ) h K:=by simp [G1]
theorem APN (E:Env)(H:Hint)(ops:List Oper)(d:Option Tmp)(op:Op)(r:List Oper)(F:Fr)(h:Hp)(K:Fr->Hp->Prop)(want:Bool):G1 E H ops d op r F h K want GZ=WW E H ops r (FV F d GZ) h K:=rfl
def IP (o:Option (AV×Hp))(K:AV->Hp->Prop):Prop:=match o with
 | some (v,h)=>K v h
 | none=>False
theorem BX (v:AV)(h:Hp)(K:AV->Hp->Prop):IP (some (v,h)) K=K v h:=rfl
theorem Y (v:AV)(h:Hp)(K:AV->Hp->Prop):IP (ofO h (some v)) K=K v h:=rfl
theorem CQ (h:Hp)(K:AV->Hp->Prop):IP (ofS (some h)) K=K GZ h:=rfl
def AFB (E:Env)(f:AV)(args:List AV)(h:Hp)(K:AV->Hp->Prop):Prop:=match f with
 | .fn (.func fid) first caps=>ACalls E fid (first++(args++caps)) h K
 | .fn (.yield l) [] []=>YC E l args h K
 | _=>False
theorem AZM (E:Env)(l:Nat)(args:List AV)(h:Hp)(K:AV->Hp->Prop):AFB E (.fn (.yield l) [] []) args h K=YC E l args h K:=rfl
theorem DI (E:Env)(fid:FuncId)(args caps:List AV)(h:Hp)(K:AV->Hp->Prop):AFB E (.fn (.func fid) [] caps) args h K=ACalls E fid (args++caps) h K:=rfl
theorem DX (E:Env)(own:Bool)(f:Operand)(as:Array Operand)(ts:Array TypeId)(F:Fr)(h:Hp)(c:Fr->AV->Hp->Prop):
  X1 E own (.call { callee:=.value f,args:=as,argTypes:=ts }) (F,h) c=AFB E (ev E F f) (as.toList.map (ev E F)) h (c F):=by
 unfold X1 NG AFB;rfl
theorem A8M (E:Env)(own:Bool)(op:Op)(F:Fr)(h:Hp)(c:Fr->AV->Hp->Prop)(hop:(match op with|.call { callee:=.value _,.. }=>false|.panic _=>false|_=>true)=true):
  X1 E own op (F,h) c=IP (aop E.P own h (ev E F) op) (c F):=by
 unfold X1 NG IP;split
 .simp at hop
 .simp at hop
 .rfl
theorem BN (E:Env)(H:Hint)(ops:List Oper)(d:Option Tmp)(r:List Oper)(K:Fr->Hp->Prop)(F:Fr):wc E H ops d r K F=sE E H ops d r F K:=rfl
theorem BL (E:Env)(H:Hint)(i:Nat)(l:List Oper)(F:Fr)(h:Hp)(Q:AEx->Fr->Hp->Prop):awp E H (.region i l.toArray false) F h Q=WW E H l l F h (Q .normal):=rfl
theorem AU (F:Nat->AV)(d i:Nat)(v:AV):upd F d v i=if i=d then v else F i:=rfl
theorem BI (E:Env)(F:Fr)(t:Nat):ev E F (.tmp t)=F t:=rfl
theorem CE (E:Env)(F:Fr)(v:Value):ev E F (.const v)=XI v:=rfl
theorem ED (E:Env)(F:Fr)(f:Nat):ev E F (.func f)=.fn (.func f) [] []:=rfl
theorem AY0 (E:Env)(F:Fr)(f:Nat):ev E F (.global f)=E.G f:=rfl
theorem DJ (k:IntKind)(n:Int):XI (.int k n)=.int k n:=rfl
theorem EQ (b:Bool):XI (.bool b)=.bool b:=rfl
theorem gX (s:ByteArray):XI (.string s)=.str s:=rfl
theorem WV:XI (.slice none 0 0)=.sl .nil 0 []:=rfl
theorem ALY:XI (.pointer none)=.nilp:=rfl
theorem AFO:XI .nilFunc=.nilfn:=rfl
section
variable (E:Env) (own:Bool) (F:Fr) (h:Hp) (c:Fr->AV->Hp->Prop)
theorem CV (x:Operand):X1 E own (.move x) (F,h) c=c F (ev E F x) h:=rfl
theorem CO (x:Operand):X1 E own (.assign x) (F,h) c=c F (ev E F x) h:=rfl
def AJ8 (a b:AV)(h:Hp)(K:AV->Hp->Prop)(v:AV):Prop:=match v with
 | .bool true=>K a h
 | .bool false=>K b h
 | _=>False
theorem GH (x a b:Operand):X1 E own (.pick x a b) (F,h) c=AJ8 (ev E F a) (ev E F b) h (c F) (ev E F x):=by
 simp only[X1,NG,aop,AJ8];generalize ev E F x=v
 cases v with
 | bool b=>cases b<;>rfl
 | _=>rfl
theorem JW (a b:AV)(K:AV->Hp->Prop):AJ8 a b h K (.bool true)=K a h:=rfl
theorem IL (a b:AV)(K:AV->Hp->Prop):AJ8 a b h K (.bool false)=K b h:=rfl
theorem EG (e:TypeId):X1 E own (.alloc e) (F,h) c=IP (GU E.P h e) (c F):=rfl
theorem SL (e:TypeId)(x:Operand):X1 E own (.box e x) (F,h) c=IP (MS h (ev E F x)) (c F):=rfl
theorem NZ (t:TypeId)(ps:List (Nat×Operand)):X1 E own (.build t ps.toArray) (F,h) c=IP (ofO h (IY E.P t (evp (ev E F) ps))) (c F):=rfl
theorem F7 (t:TypeId)(n:Nat)(ps:List (Nat×Operand)):X1 E own (.buildSlice t n ps.toArray) (F,h) c=IP (C9 E.P own h t n (evp (ev E F) ps)) (c F):=rfl
theorem BZ (t:TypeId)(a:Operand):X1 E own (.load t a) (F,h) c=IP (ofO h (BH E.P h t (ev E F a))) (c F):=rfl
theorem DK (t:TypeId)(a x:Operand):X1 E own (.store t a x) (F,h) c=IP (ofS (DT E.P h t (ev E F a) (ev E F x))) (c F):=rfl
theorem D9 (op:BinOp)(t u:TypeId)(x y:Operand):X1 E own (.binOp op t x y u) (F,h) c=IP (ofO h (IQ E.P t op (ev E F x) (ev E F y))) (c F):=rfl
theorem AA1 (op:UnOp)(t:TypeId)(x:Operand):X1 E own (.unOp op t x) (F,h) c=IP (ofO h (aUn op (ev E F x))) (c F):=rfl
theorem AGF (s d:TypeId)(x:Operand):X1 E own (.convert s d x) (F,h) c=IP (ofO h (YR E.P s d (ev E F x))) (c F):=rfl
theorem QE (fn:Fn)(a b:List Operand):X1 E own (.makeFunc fn a.toArray b.toArray) (F,h) c=c F (.fn fn (a.map (ev E F)) (b.map (ev E F))) h:=rfl
theorem QV (t:TypeId)(l k:Operand):X1 E own (.makeSlice t l k) (F,h) c=IP (GR E.P own h t (ev E F l) (ev E F k)) (c F):=rfl
def mkI (P:Program)(t:TypeId)(v:AV)(h:Hp):Option (AV×Hp):=match P.underlying t,v with
 | some (.struct _),.agg cs=>match nL cs with
   | some is=>some (.ifc t (.agg (is.map ASM).toArray),h)
   | none=>none
 | _,_=>none
theorem UD (t:TypeId)(x:Operand)(lo hi mx:Option Operand):X1 E false (.slice t x lo hi mx) (F,h) c=IP (ofO h (IA E.P h t (ev E F x) (lo.map (ev E F)) (hi.map (ev E F)) (mx.map (ev E F)))) (c F):=rfl
theorem CJ (t:TypeId)(x:Operand)(f:Nat):X1 E own (.fieldAddr t x f) (F,h) c=IP (ofO h (BD E.P t (ev E F x) f)) (c F):=rfl
theorem AVY (t:TypeId)(x:Operand)(f:Nat):X1 E own (.field t x f) (F,h) c=IP (ofO h (pT E.P t (ev E F x) f)) (c F):=rfl
theorem AO (t:TypeId)(x i:Operand):X1 E own (.indexAddr t x i) (F,h) c=IP (ofO h (EJ E.P h t (ev E F x) (ev E F i))) (c F):=rfl
theorem AJB (t:TypeId)(x i:Operand):X1 E own (.index t x i) (F,h) c=IP (ofO h (O8 E.P t (ev E F x) (ev E F i))) (c F):=rfl
theorem AVX (t:TypeId)(x:Operand):X1 E own (.range t x) (F,h) c=IP (iD E.P h t (ev E F x)) (c F):=rfl
theorem APV (it:Operand)(s:Bool):X1 E own (.next it s) (F,h) c=IP (kG h (ev E F it) s) (c F):=rfl
def A3I (h:Hp)(i:Nat)(K:AV->Hp->Prop)(v:AV):Prop:=match v with
 | .tup vs=>IP (ofO h vs[i]?) K
 | _=>False
theorem KA (t:Operand)(i:Nat):X1 E own (.extract t i) (F,h) c=A3I h i (c F) (ev E F t):=by
 simp only[X1,NG,aop,A3I,IP];cases ev E F t<;>rfl
theorem OD (vs:List AV)(i:Nat)(K:AV->Hp->Prop):A3I h i K (.tup vs)=IP (ofO h vs[i]?) K:=rfl
theorem I7 (a:Operand)(t:TypeId):X1 E own (.call { callee:=.builtin .len,args := #[a],argTypes := #[t] }) (F,h) c=IP (ofO h (JR E.P t (ev E F a))) (c F):=rfl
theorem AJA (a b:Operand)(ts:Array TypeId):X1 E own (.call { callee:=.builtin .max,args := #[a,b],argTypes:=ts }) (F,h) c=IP (ofO h (XC uY (ev E F a) [ev E F b])) (c F):=rfl
theorem AI9 (a b:Operand)(ts:Array TypeId):X1 E own (.call { callee:=.builtin .min,args := #[a,b],argTypes:=ts }) (F,h) c=IP (ofO h (XC uX (ev E F a) [ev E F b])) (c F):=rfl
theorem J6 (s x:Operand)(t0 t1:TypeId):X1 E true (.call { callee:=.builtin .append,args := #[s,x],argTypes := #[t0,t1] }) (F,h) c=IP (EP E.P true h t0 t1 (ev E F s) (ev E F x)) (c F):=rfl
theorem AVZ (s:Operand)(t0:TypeId):X1 E own (.call { callee:=.builtin .clear,args := #[s],argTypes := #[t0] }) (F,h) c=IP (iE E.P h t0 (ev E F s)) (c F):=rfl
end
theorem yM {P:Program}{t:TypeId}{fields:Array Field}{f:Nat}{fl:Field}(hu:P.underlying t=some (.struct fields))(hf:fields[f]?=some fl)(hs:szO P fl.type=some (n+1))(off:Nat)(ho:fl.offset=off):
  (∀b i j,BD P t (.ptr b i j) f=some (.ptr b i (j+off)))∧(∀k xs i j,BD P t (.fptr k xs i j) f=some (.fptr k xs i (j+off))):=by
 subst ho;constructor<;>intros<;>simp [BD,hu,hf,hs]
def IG (k:Nat)(h:Hp)(a ix:AV):Option AV:=match ix with
 | .int _ i=>match a with
   | .sl _ k' xs=>if k=k'∧0<=i∧i<(xs.length:Int) then some (.fptr k' xs i.toNat 0) else none
   | .own b off len=>match h[b]? with
     | some (.live k' _)=>if k=k'∧0<=i∧i<(len:Int) then some (.ptr b (off+i.toNat) 0) else none
     | _=>none
   | _=>none
 | _=>none
theorem FH {P:Program}{t e:TypeId}{k:Nat}(hu:P.underlying t=some (.slice e))(hk:szO P e=some k)(h:Hp)(a ix:AV):EJ P h t a ix=IG k h a ix:=by
 unfold EJ IG;cases ix<;>simp only;simp only[hu,hk,Option.some.injEq];rfl
def dM:Op->Bool
 | .call { callee:=.value _,.. }=>true
 | _=>false
def AFA (E:Env)(own:Bool)(f:AV)(args:List AV)(h:Hp)(K:AV->Hp->Prop):Prop:=match f with
 | .fn (.func fid) first caps=>∃r,(PCall E fid (first++(args++caps)) h r∧(own=true->∀x,PCall E fid (first++(args++caps)) (h++x) r))∧K r h
 | _=>False
theorem NU (E:Env)(fid:FuncId)(args caps:List AV)(h:Hp)(K:AV->Hp->Prop):AFA E false (.fn (.func fid) [] caps) args h K =∃r,PCall E fid (args++caps) h r∧K r h:=by
 simp [AFA]
def Y1 (E:Env)(own:Bool)(op:Op)(s:Fr×Hp)(c:Fr->AV->Hp->Prop):Prop:=match op with
 | .call { callee:=.value f,args:=as,.. }=>AFA E own (ev E s.1 f) (as.toList.map (ev E s.1)) s.2 (c s.1)
 | .panic _=>False
 | op=>X1 E own op s c
theorem O4 (E:Env)(own:Bool)(f:Operand)(as:Array Operand)(ts:Array TypeId)(F:Fr)(h:Hp)(c:Fr->AV->Hp->Prop):
 Y1 E own (.call { callee:=.value f,args:=as,argTypes:=ts }) (F,h) c=AFA E own (ev E F f) (as.toList.map (ev E F)) h (c F):=rfl
theorem A8L (E:Env)(own:Bool)(op:Op)(s:Fr×Hp)(c:Fr->AV->Hp->Prop)(hop:dM op=false)(hpn:¬ ∃x,op=.panic x):Y1 E own op s c=X1 E own op s c:=by
 unfold Y1;split
 .simp [dM] at hop
 .exact absurd ⟨_,rfl⟩ hpn
 .rfl
theorem tO {op:Op}(h:dM op=true):∃f as ts,op=.call { callee:=.value f,args:=as,argTypes:=ts }:=by
 cases op<;>simp only[dM] at h<;>try (cases h; done)
 rename_i c;obtain⟨cl,as,ts⟩:=c
 cases cl with
 | value f=>exact⟨f,as,ts,rfl⟩
 | _=>simp [dM] at h
theorem A4H {E:Env}{own:Bool}{op:Op}{F:Fr}{h h':Hp}(hop:dM op=false):DEx E own op F h v h'=(aop E.P own h (ev E F) op=some (v,h')):=by
 unfold DEx;split
 .simp [dM] at hop
 .rfl
theorem AZ4 (E:Env)(own:Bool)(op:Op)(s:Fr×Hp)(c:Fr->AV->Hp->Prop):(∃v h',DEx E own op s.1 s.2 v h'∧c s.1 v h')=Y1 E own op s c:=by
 apply propext
 cases hop:dM op with
 | true =>
   obtain⟨f,as,ts,rfl⟩:=tO hop;obtain⟨F,h⟩:=s;rw[O4];unfold DEx AFA;simp only;generalize ev E F f=fv
   cases fv with
   | fn fn first caps =>
     cases fn with
     | func fid =>
       constructor
       .rintro⟨v,h',⟨rfl,h1,h1'⟩,h2⟩; exact⟨v,⟨h1,h1'⟩,h2⟩
       .rintro⟨r,⟨h1,h1'⟩,h2⟩; exact⟨r,h,⟨rfl,h1,h1'⟩,h2⟩
     | _=>constructor<;>(intro hh; first|exact hh.elim|(obtain⟨_,_,hh,_⟩:=hh; exact hh.elim))
   | _=>constructor<;>(intro hh; first|exact hh.elim|(obtain⟨_,_,hh,_⟩:=hh; exact hh.elim))
 | false =>
   obtain⟨F,h⟩:=s;rcases Classical.em (∃x,op=.panic x) with⟨x,rfl⟩|hpn
   .constructor
    .rintro⟨v,h',h1,_⟩
     simp [DEx,aop] at h1
    .intro q; exact q.elim
   rw[A8L _ _ _ _ _ hop hpn,A8M _ _ _ _ _ _ (by
    split
    .simp [dM] at hop
    .exact absurd ⟨_,rfl⟩ hpn
    .rfl)]
   simp only[A4H hop];unfold IP;constructor
   .rintro⟨v,h',h1,h2⟩; rw[h1]; exact h2
   .intro hy
    split at hy
    .rename_i v h' he; exact⟨v,h',he,hy⟩
    .exact hy.elim
def AUA (E:Env)(f:AV)(args:List AV)(h:Hp)(K:AV->Hp->Prop):Prop:=match f with
 | .fn (.func fid) first caps=>∃r h',ACalls E fid (first++(args++caps)) h (fun v1 h1=>v1=r∧h1=h')∧K r h'
 | _=>False
def YE (E:Env)(op:Op)(s:Fr×Hp)(c:Fr->AV->Hp->Prop):Prop:=match op with
 | .call { callee:=.value f,args:=as,.. }=>AUA E (ev E s.1 f) (as.toList.map (ev E s.1)) s.2 (c s.1)
 | _=>False
def YO (E:Env)(eff own:Bool)(op:Op)(s:Fr×Hp)(c:Fr->AV->Hp->Prop):Prop:=match eff with
 | false=>Y1 E own op s c
 | true=>YE E op s c
theorem MM (E:Env)(own:Bool)(op:Op)(s:Fr×Hp)(c:Fr->AV->Hp->Prop):YO E false own op s c=Y1 E own op s c:=rfl
theorem AVO {E:Env}{op:Op}{F:Fr}{h h':Hp}(hop:dM op=false):¬ECall E op F h v h':=by
 intro hh;unfold ECall at hh;split at hh
 .simp [dM] at hop
 .exact hh
theorem A8K {E:Env}{op:Op}{s:Fr×Hp}{c:Fr->AV->Hp->Prop}(hop:dM op=false):¬YE E op s c:=by
 intro hh;unfold YE at hh;split at hh
 .simp [dM] at hop
 .exact hh
theorem AZ3 (E:Env)(op:Op)(s:Fr×Hp)(c:Fr->AV->Hp->Prop):(∃v h',ECall E op s.1 s.2 v h'∧c s.1 v h')=YE E op s c:=by
 apply propext
 cases hop:dM op with
 | true =>
   obtain⟨f,as,ts,rfl⟩:=tO hop;obtain⟨F,h⟩:=s;show(∃v h',ECall E _ F h v h'∧c F v h')↔AUA E (ev E F f) (as.toList.map (ev E F)) h (c F);unfold ECall AUA;simp only;generalize ev E F f=fv
   cases fv with
   | fn fn first caps =>
     cases fn with
     | func fid=>exact Iff.rfl
     | _=>constructor<;>(intro hh; first|exact hh.elim|(obtain⟨_,_,hh,_⟩:=hh; exact hh.elim))
   | _=>constructor<;>(intro hh; first|exact hh.elim|(obtain⟨_,_,hh,_⟩:=hh; exact hh.elim))
 | false =>
   constructor
   .rintro⟨_,_,hh,_⟩; exact(AVO hop hh).elim
   .intro hh; exact(A8K hop hh).elim
theorem AVB {E:Env}{md:Nat->Bool}{d:Option Tmp}{op:Op}(t:TypeId)(p:String)(e:Array Edge)(g:Option (Nat×Bool))(s:Fr×Hp)(c:Fr->AV->Hp->Prop):
  YO E (md (d.getD 0+1000000)) (md (d.getD 0)) op s c =∃v h',DExO E md ⟨d,op,t,p,e,g⟩ s.1 s.2 v h'∧c s.1 v h':=by
 unfold YO DExO;simp only;generalize md (d.getD 0+1000000)=q
 cases q with
 | false=>exact(AZ4 E (md (d.getD 0)) op s c).symm
 | true=>exact(AZ3 E op s c).symm
def DD (E:Env)(md:Nat->Bool)(ops:List Oper)(l:List Oper)(F:Fr)(h:Hp)(K:Fr->Hp->Prop):Prop:=D E md (ops.map (·.dst)) l F h K
def ALN (E:Env)(md:Nat->Bool)(ops:List Oper)(d:Option Tmp)(r:List Oper)(F:Fr)(K:Fr->Hp->Prop):AV->Hp->Prop:=fun v h'=>DD E md ops r (FV F d v) h' K
theorem FO (E:Env)(md:Nat->Bool)(ops:List Oper)(d:Tmp)(r:List Oper)(F:Fr)(K:Fr->Hp->Prop)(v:AV)(h:Hp):ALN E md ops (some d) r F K v h=DD E md ops r (upd F d v) h K:=rfl
theorem QR (E:Env)(md:Nat->Bool)(ops:List Oper)(r:List Oper)(F:Fr)(K:Fr->Hp->Prop)(v:AV)(h:Hp):ALN E md ops none r F K v h=DD E md ops r F h K:=rfl
def dc (E:Env)(md:Nat->Bool)(ops:List Oper)(d:Option Tmp)(r:List Oper)(K:Fr->Hp->Prop):Fr->AV->Hp->Prop:=fun F=>ALN E md ops d r F K
theorem G6 (E:Env)(md:Nat->Bool)(ops:List Oper)(d:Option Tmp)(r:List Oper)(K:Fr->Hp->Prop)(F:Fr):dc E md ops d r K F=ALN E md ops d r F K:=rfl
theorem I5 (E:Env)(md:Nat->Bool)(ops:List Oper)(F:Fr)(h:Hp)(K:Fr->Hp->Prop):DD E md ops [] F h K=K F h:=rfl
theorem DZ {E:Env}{l:List Oper}{F:Fr}{h:Hp}(hl:AR2 H.md [] l.toArray=true)(hd:DD E H.md l l F h (Q .normal)):awp E H (.region i l.toArray true) F h Q :=
 (kF (sep:=[]) hl (by unfold ZY; rw[zL]; intro o _; cases o.dst<;>rfl) trivial hd).toN
theorem uQ {E:Env}{l:List Oper}{F:Fr}{h:Hp}(sep:List (Nat×Nat))(hl:(AR2 H.md sep l.toArray&&ZY sep l)=true)(hs:QB F sep)(hd:DD E H.md l l F h (Q .normal)):awp E H (.region i l.toArray true) F h Q :=
 (kF (Bool.and_eq_true_iff.1 hl).1 (by simpa using (Bool.and_eq_true_iff.1 hl).2) hs hd).toN
theorem AFN {E:Env}{H:Hint}{n:Nat}{l:List Oper}{F:Fr}{h:Hp}{Q:AEx->Fr->Hp->Prop}(sep:List (Nat×Nat))(pre:List Nat)(i j:Nat)(post:List Nat)(hl:AG5 H.md sep l.toArray pre i j post=true)(hs:QB F sep)
 (hd:DD E H.md l (NR l pre) F h fun F h=>DD E H.md l (NR l (i::j::post)) F h (Q .normal)∧DD E H.md l (NR l (j::i::post)) F h (Q .normal)):awp E H (.region n l.toArray true) F h Q:=(APG hl hs hd).toN
theorem AF2 (F:Fr):QB F []=True:=rfl
theorem vA (F:Fr)(t u:Nat)(r:List (Nat×Nat)):QB F ((t,u)::r)=(ZM (F t) (F u)∧QB F r):=rfl
theorem ABY (b i j b' i' j':Nat):ZM (.ptr b i j) (.ptr b' i' j')=(b≠b'):=rfl
theorem G9 (E:Env)(md:Nat->Bool)(ops:List Oper)(d:Option Tmp)(op:Op)(t:TypeId)(p:String)(e:Array Edge)(r:List Oper)(F:Fr)(h:Hp)(K:Fr->Hp->Prop):
  DD E md ops (⟨d,op,t,p,e,none⟩::r) F h K=YO E (md (d.getD 0+1000000)) (md (d.getD 0)) op (F,h) (dc E md ops d r K):=by
 rw[AVB t p e none];simp only[DD,D,MO,true_imp_iff,Bool.true_eq_false,false_imp_iff,and_true];rfl
def GD (E:Env)(md:Nat->Bool)(ops:List Oper)(d:Option Tmp)(op:Op)(r:List Oper)(F:Fr)(h:Hp)(K:Fr->Hp->Prop)(want:Bool)(v:AV):Prop :=
 match v with
 | .bool b=>((b==want)=true->YO E (md (d.getD 0+1000000)) (md (d.getD 0)) op (F,h) (dc E md ops d r K))∧((b==want)=false->DD E md ops r (FV F d GZ) h K)
 | .tup []=>DD E md ops r (FV F d GZ) h K
 | _=>False
theorem AVS (E:Env)(md:Nat->Bool)(ops:List Oper)(d:Option Tmp)(op:Op)(t:TypeId)(p:String)(e:Array Edge)(j:Nat)(want:Bool)(r:List Oper)(F:Fr)(h:Hp)(K:Fr->Hp->Prop)(g:Tmp)(hg:EI ops j=some g):
  DD E md ops (⟨d,op,t,p,e,some (j,want)⟩::r) F h K=GD E md ops d op r F h K want (F g):=by
 simp only[DD,D,MO,YD,hg,GD,AVB t p e (some (j,want))];generalize F g=v
 cases v with
 | bool b=>rfl
 | tup vs=>cases vs with
   | nil=>simp
   | cons=>rfl
 | _=>rfl
def GY (E:Env)(md:Nat->Bool)(ops:List Oper)(d:Option Tmp)(op:Op)(r:List Oper)(F:Fr)(h:Hp)(K:Fr->Hp->Prop)(want:Bool)(o:Option Tmp):Prop:=match o with
 | some g=>GD E md ops d op r F h K want (F g)
 | none=>DD E md ops r (FV F d GZ) h K
theorem QU (E:Env)(md:Nat->Bool)(ops:List Oper)(d:Option Tmp)(op:Op)(r:List Oper)(F:Fr)(h:Hp)(K:Fr->Hp->Prop)(want:Bool)(g:Tmp):GY E md ops d op r F h K want (some g)=GD E md ops d op r F h K want (F g):=rfl
theorem MX (E:Env)(md:Nat->Bool)(ops:List Oper)(d:Option Tmp)(op:Op)(t:TypeId)(p:String)(e:Array Edge)(j:Nat)(want:Bool)(r:List Oper)(F:Fr)(h:Hp)(K:Fr->Hp->Prop):
  DD E md ops (⟨d,op,t,p,e,some (j,want)⟩::r) F h K=GY E md ops d op r F h K want (EI ops j):=by
 cases hg:EI ops j with
 | some g=>exact AVS E md ops d op t p e j want r F h K g hg
 | none=>simp [DD,D,MO,YD,hg,GY]
theorem A10 {E:Env}{md:Nat->Bool}{ops:List Oper}{d:Option Tmp}{op:Op}{r:List Oper}{F:Fr}{h:Hp}{K:Fr->Hp->Prop}{b:Bool}(ht:b=true->GD E md ops d op r F h K want (.bool true))(hf:b=false->GD E md ops d op r F h K want (.bool false)):GD E md ops d op r F h K want (.bool b):=by
 cases b
 .exact hf rfl
 .exact ht rfl
section
variable (E:Env) (md:Nat->Bool) (ops:List Oper) (d:Option Tmp) (op:Op) (r:List Oper) (F:Fr) (h:Hp) (K:Fr->Hp->Prop)
theorem eO:GD E md ops d op r F h K true (.bool true)=YO E (md (d.getD 0+1000000)) (md (d.getD 0)) op (F,h) (dc E md ops d r K):=by simp [GD]
theorem pW:GD E md ops d op r F h K false (.bool false)=YO E (md (d.getD 0+1000000)) (md (d.getD 0)) op (F,h) (dc E md ops d r K):=by simp [GD]
theorem AF9:GD E md ops d op r F h K true (.bool false)=DD E md ops r (FV F d GZ) h K:=by simp [GD]
theorem AVM:GD E md ops d op r F h K false (.bool true)=DD E md ops r (FV F d GZ) h K:=by simp [GD]
theorem A0A (want:Bool):GD E md ops d op r F h K want GZ=DD E md ops r (FV F d GZ) h K:=rfl
theorem JU (own:Bool)(x:Operand)(c:Fr->AV->Hp->Prop):Y1 E own (.move x) (F,h) c=c F (ev E F x) h:=rfl
theorem LM (own:Bool)(x:Operand)(c:Fr->AV->Hp->Prop):Y1 E own (.assign x) (F,h) c=c F (ev E F x) h:=rfl
variable (own:Bool) (c:Fr->AV->Hp->Prop)
theorem XM (x a b:Operand):Y1 E own (.pick x a b) (F,h) c=X1 E own (.pick x a b) (F,h) c:=rfl
theorem A4N (t:TypeId)(x:Operand):Y1 E own (.box t x) (F,h) c=X1 E own (.box t x) (F,h) c:=rfl
theorem cJ (t:TypeId)(ps:Array (Nat×Operand)):Y1 E own (.build t ps) (F,h) c=X1 E own (.build t ps) (F,h) c:=rfl
theorem KW (t:TypeId)(n:Nat)(ps:Array (Nat×Operand)):Y1 E own (.buildSlice t n ps) (F,h) c=X1 E own (.buildSlice t n ps) (F,h) c:=rfl
theorem II (t:TypeId)(x:Operand):Y1 E own (.load t x) (F,h) c=X1 E own (.load t x) (F,h) c:=rfl
theorem RX (t:TypeId)(x y:Operand):Y1 E own (.store t x y) (F,h) c=X1 E own (.store t x y) (F,h) c:=rfl
theorem OM (o:BinOp)(t u:TypeId)(x y:Operand):Y1 E own (.binOp o t x y u) (F,h) c=X1 E own (.binOp o t x y u) (F,h) c:=rfl
theorem AVW (o:UnOp)(t:TypeId)(x:Operand):Y1 E own (.unOp o t x) (F,h) c=X1 E own (.unOp o t x) (F,h) c:=rfl
theorem APT (t u:TypeId)(x:Operand):Y1 E own (.convert t u x) (F,h) c=X1 E own (.convert t u x) (F,h) c:=rfl
theorem XN (t:TypeId)(x y:Operand):Y1 E own (.makeSlice t x y) (F,h) c=X1 E own (.makeSlice t x y) (F,h) c:=rfl
theorem cI (t:TypeId)(x:Operand)(lo hi mx:Option Operand):Y1 E own (.slice t x lo hi mx) (F,h) c=X1 E own (.slice t x lo hi mx) (F,h) c:=rfl
theorem E8 (t:TypeId)(x:Operand)(i:Nat):Y1 E own (.fieldAddr t x i) (F,h) c=X1 E own (.fieldAddr t x i) (F,h) c:=rfl
theorem ES (t:TypeId)(x y:Operand):Y1 E own (.indexAddr t x y) (F,h) c=X1 E own (.indexAddr t x y) (F,h) c:=rfl
theorem vD (t:TypeId)(x y:Operand):Y1 E own (.index t x y) (F,h) c=X1 E own (.index t x y) (F,h) c:=rfl
theorem U6 (x:Operand)(i:Nat):Y1 E own (.extract x i) (F,h) c=X1 E own (.extract x i) (F,h) c:=rfl
theorem LJ (b:Builtin)(as:Array Operand)(ts:Array TypeId):Y1 E own (.call { callee:=.builtin b,args:=as,argTypes:=ts }) (F,h) c=X1 E own (.call { callee:=.builtin b,args:=as,argTypes:=ts }) (F,h) c:=rfl
end
theorem bY {E:Env}{H:Hint}{ds:List (Option Tmp)}{K K':Fr->Hp->Prop}(hk:∀F h,K F h->K' F h):∀(l:List Oper) (F:Fr) (h:Hp),W E H ds l F h K->W E H ds l F h K'
 | [],F,h,hw=>hk F h hw
 | o::r,F,h,hw=>by
   simp only[W] at hw|-
   split at hw
   .exact⟨fun hc=>QI (fun v h' hv=>bY hk r _ _ hv) (hw.1 hc),fun hc=>bY hk r _ _ (hw.2 hc)⟩
   .exact hw.elim
theorem iF {E:Env}{md:Nat->Bool}{ds:List (Option Tmp)}{K K':Fr->Hp->Prop}(hk:∀F h,K F h->K' F h):∀(l:List Oper) (F:Fr) (h:Hp),D E md ds l F h K->D E md ds l F h K'
 | [],F,h,hw=>hk F h hw
 | o::r,F,h,hw=>by
   simp only[D] at hw|-
   split at hw
   .exact⟨fun hc=>let ⟨v,h',h1,h2⟩:=hw.1 hc; ⟨v,h',h1,iF hk r _ _ h2⟩,fun hc=>iF hk r _ _ (hw.2 hc)⟩
   .exact hw.elim
theorem lV {next next':Fr->Hp->Prop}{Q':AEx->Fr->Hp->Prop}(hn:∀F h,next F h->next' F h)(hq:∀e F h,Q e F h->Q' e F h):∀e F h,cN next Q e F h->cN next' Q' e F h:=by
 intro e F h ht
 cases e with
 | normal=>exact hn F h ht
 | exit i=>exact hq _ F h ht
 | ret=>exact hq _ F h ht
theorem eF {E:Env}:∀(c:Code) {F:Fr} {h:Hp} {Q Q':AEx->Fr->Hp->Prop},(∀e F h,Q e F h->Q' e F h)->awp E H c F h Q->awp E H c F h Q':=by
 intro c
 induction c with
 | skip=>intro F h Q Q' hq hw; exact hq _ _ _ hw
 | label l=>intro F h Q Q' hq hw; exact hq _ _ _ hw
 | scope b ih=>intro F h Q Q' hq hw; exact ih hq hw
 | ret=>intro F h Q Q' hq hw; exact hq _ _ _ hw
 | exit i=>intro F h Q Q' hq hw; exact hq _ _ _ hw
 | seq x y ihx ihy=>intro F h Q Q' hq hw; exact ihx (lV (fun F h hh=>ihy hq hh) hq) hw
 | block id b ih =>
   intro F h Q Q' hq hw;refine ih (fun e F h hh=>?_) hw
   cases e with
   | normal=>exact hq _ _ _ hh
   | exit i =>
     simp only[TC] at hh|-
     split
     .rename_i hi; rw[if_pos hi] at hh; exact hq _ _ _ hh
     .rename_i hi; rw[if_neg hi] at hh; exact hq _ _ _ hh
   | ret=>exact hq _ _ _ hh
 | cond c x y ihx ihy =>
   intro F h Q Q' hq hw
   simp only[awp] at hw|-
   split at hw
   .exact⟨fun hc=>ihx hq (hw.1 hc),fun hc=>ihy hq (hw.2 hc)⟩
   .exact hw.elim
 | loop b ih =>
   intro F h Q Q' hq hw;obtain⟨I,h0,hr⟩:=hw;exact⟨I,h0,fun n F h hI=>ih (lV (fun _ _ hh=>hh) hq) (hr n F h hI)⟩
 | region i ops draw =>
   intro F h Q Q' hq hw
   simp only[awp] at hw|-
   cases draw with
   | false=>exact bY (hq _) _ _ _ hw
   | true=>exact uT (fun s=>hq _ s.1 s.2) _ _ _ hw
 | rangeFunc g ps asg body iha ihb =>
   intro F h Q Q' hq hw;obtain⟨hX,h0,f,caps,N,xs,I,h1,h2,h3,h4,h5⟩:=hw;exact⟨hX,h0,f,caps,N,xs,I,h1,h2,h3,h4,fun h' hI=>hq _ _ _ (h5 h' hI)⟩
 | _=>intro F h Q Q' hq hw; simp only[awp] at hw
def ARW (N:Fr->Hp->Prop)(R:Fr->Hp->Prop):AEx->Fr->Hp->Prop
 | .normal,F,h=>N F h
 | .ret,F,h=>R F h
 | .exit _,_,_=>False
theorem ARV (N R:Fr->Hp->Prop)(F:Fr)(h:Hp):ARW N R .normal F h=N F h:=rfl
theorem AAL {E:Env}{c:Code}{F:Fr}{h:Hp}(N R:Fr->Hp->Prop)(hw:awp E H c F h (ARW N R))(hn:∀F h,N F h->Q .normal F h)(hr:∀F h,R F h->Q .ret F h):awp E H c F h Q :=
 eF c (fun e F h hh=>by
  cases e with
  | normal=>exact hn F h hh
  | ret=>exact hr F h hh
  | exit i=>exact hh.elim) hw
theorem RS {E:Env}{ops:List Oper}{d:Option Tmp}{op:Op}{r:List Oper}{F:Fr}{h:Hp}{K:Fr->Hp->Prop}(K':Fr->Hp->Prop)(hw:G1 E H ops d op r F h K' want v)(hk:∀F h,K' F h->K F h):G1 E H ops d op r F h K want v:=by
 unfold G1 at *;split at hw
 .exact⟨fun hc=>QI (fun v h' hv=>bY hk r _ _ hv) (hw.1 hc),fun hc=>bY hk r _ _ (hw.2 hc)⟩
 .exact bY hk r _ _ hw
 .exact hw.elim
theorem AVR {E:Env}{md:Nat->Bool}{ops r:List Oper}{F:Fr}{h:Hp}{K:Fr->Hp->Prop}(K':Fr->Hp->Prop)(hw:DD E md ops r F h K')(hk:∀F h,K' F h->K F h):DD E md ops r F h K:=iF hk r _ _ hw
theorem A4F {E:Env}{md:Nat->Bool}{ops:List Oper}{d:Option Tmp}{op:Op}{r:List Oper}{F:Fr}{h:Hp}{K:Fr->Hp->Prop}(K':Fr->Hp->Prop)(hw:GD E md ops d op r F h K' want v)(hk:∀F h,K' F h->K F h):GD E md ops d op r F h K want v:=by
 unfold GD at *
 simp only[AVB (d:=d) 0 "" #[] none] at *
 split at hw
 .refine⟨fun hc=>?_,fun hc=>iF hk r _ _ (hw.2 hc)⟩
  obtain⟨v,h',h1,h2⟩:=hw.1 hc;exact⟨v,h',h1,iF hk r _ _ h2⟩
 .exact iF hk r _ _ hw
 .exact hw.elim
theorem A39 {E:Env}{H:Hint}{gf:Operand}{ps:Array Tmp}{asg body:Code}{F:Fr}{h:Hp}{Q:AEx->Fr->Hp->Prop}{f:FuncId}{caps:List AV}(hno:(bB asg&&bB body)=true)(hgf:ev E F gf=.fn (.func f) [] caps)
  (N:Nat) (xs:Nat->List AV) (I:Nat->Hp->Prop) (hit:Iter E f caps N xs I) (h0:I 0 h)
  (hr:∀k h',k<N->I k h'->(xs k).length=ps.size∧awp E H asg (vJ F ps.toList (xs k)) h' (AQN E H body (ARW (fun _ h2=>∃h3,GSt E h2 h3∧I (k+1) h3) fun _ _=>False))) (hd:∀h',I N h'->Q .normal F h') (hX:∀u h,¬E.X u h:=by exact fun _ _ q=>q):awp E H (.rangeFunc gf ps asg body) F h Q :=
 ⟨hX,hno,f,caps,N,xs,I,hgf,hit,h0,fun k h' hk hI=>⟨(hr k h' hk hI).1,eF asg (fun e F1 h1 hq=>by
  cases e with
  | normal=>exact eF body (fun e F2 h2 hq=>by cases e with
    | normal=>exact hq
    | exit i=>exact hq.elim
    | ret=>exact hq.elim) hq
  | exit i=>exact hq.elim
  | ret=>exact hq.elim) (hr k h' hk hI).2⟩,hd⟩
def lpQ (i:Nat)(N:Fr->Hp->Prop)(R:Fr->Hp->Prop):AEx->Fr->Hp->Prop
 | .normal,_,_=>False
 | .ret,F,h=>R F h
 | .exit j,F,h=>if j=i then N F h else False
theorem A5V (i j:Nat)(N R:Fr->Hp->Prop)(F:Fr)(h:Hp):lpQ i N R (.exit j) F h=if j=i then N F h else False:=rfl
theorem AXV (i:Nat)(N R:Fr->Hp->Prop)(F:Fr)(h:Hp):lpQ i N R .ret F h=R F h:=rfl
theorem ER {E:Env}{c:Code}{F:Fr}{h:Hp}(i:Nat)(N R:Fr->Hp->Prop)(hw:awp E H c F h (lpQ i N R))(hn:∀F h,N F h->Q (.exit i) F h)(hr:∀F h,R F h->Q .ret F h):awp E H c F h Q :=
 eF c (fun e F h hh=>by
  cases e with
  | normal=>exact hh.elim
  | ret=>exact hr F h hh
  | exit j =>
    simp only[lpQ] at hh;split at hh
    .rename_i e; subst e; exact hn F h hh
    .exact hh.elim) hw
theorem sD {E:Env}{ops r:List Oper}{d:Option Tmp}{F:Fr}{h:Hp}{K:Fr->Hp->Prop}(K':Fr->Hp->Prop)(hw:sE E H ops d r F K' v h)(hk:∀F h,K' F h->K F h):sE E H ops d r F K v h:=bY hk r _ _ hw

theorem JK (ρ:Operand->AV):evp ρ []=[]:=rfl
theorem JM (ρ:Operand->AV)(i:Nat)(x:Operand)(r:List (Nat×Operand)):evp ρ ((i,x)::r)=(i,ρ x)::evp ρ r:=rfl
theorem KT {o:Option (AV×Hp)}{K:AV->Hp->Prop}{h:Hp}(ho:o=some (v,h))(hk:K v h):IP o K:=by rw[ho]; exact hk
theorem BF (n:Nat):Hint.none.md n=false:=rfl
theorem BK (n:Nat):Hint.none.fz n=[]:=rfl
theorem BB (s:Fr×Hp):LW s []=s:=rfl
theorem AD0 (s:Fr×Hp)(i:Nat)(r:List Nat):LW s (i::r)=LW (QP s i) r:=rfl
def hint (md:List Nat)(fz:List (Nat×List Nat)):Hint:=⟨fun n=>md.contains n,fun n=>match fz.find? (fun x=>x.1==n) with|some x=>x.2|none=>[]⟩
section
variable (P:Program) (t:TypeId) (k:IntKind) (a b:Int)
theorem IE:IQ P t .add (.int k a) (.int k b)=some (.int k (k.wrap (a+b))):=by simp [IQ,eJ,QK]
theorem PY:IQ P t .sub (.int k a) (.int k b)=some (.int k (k.wrap (a-b))):=by simp [IQ,eJ,QK]
theorem lN:IQ P t .mul (.int k a) (.int k b)=some (.int k (k.wrap (a*b))):=by simp [IQ,eJ,QK]
theorem AZR (h:b≠0):IQ P t .quo (.int k a) (.int k b)=some (.int k (k.wrap (a.tdiv b))):=by simp [IQ,eJ,QK,h]
theorem AAK (h:b≠0):IQ P t .rem (.int k a) (.int k b)=some (.int k (a.tmod b)):=by simp [IQ,eJ,QK,h]
theorem JS:IQ P t .eql (.int k a) (.int k b)=some (.bool (a==b)):=by simp [IQ,eJ,QK]
theorem FU:IQ P t .neq (.int k a) (.int k b)=some (.bool (a != b)):=by simp [IQ,eJ,QK]
theorem IR:IQ P t .lss (.int k a) (.int k b)=some (.bool (decide (a<b))):=by simp [IQ,eJ,QK]
theorem ZI:IQ P t .leq (.int k a) (.int k b)=some (.bool (decide (a<=b))):=by simp [IQ,eJ,QK]
theorem JL:IQ P t .gtr (.int k a) (.int k b)=some (.bool (decide (a>b))):=by simp [IQ,eJ,QK]
theorem ML:IQ P t .geq (.int k a) (.int k b)=some (.bool (decide (a≥b))):=by simp [IQ,eJ,QK]
theorem TQ (s u:ByteArray):IQ P t .eql (.str s) (.str u)=some (.bool (s.toList==u.toList)):=rfl
theorem pF (s u:ByteArray):IQ P t .neq (.str s) (.str u)=some (.bool (!(s.toList==u.toList))):=rfl
theorem eS (p:Bool):aUn .not (.bool p)=some (.bool (!p)):=rfl
theorem AP6:aUn .neg (.int k a)=some (.int k (k.wrap (0-a))):=rfl
theorem xF:XC uY (.int k a) [.int k b]=some (.int k (max a b)):=by simp [XC,uY]
theorem xE:XC uX (.int k a) [.int k b]=some (.int k (min a b)):=by simp [XC,uX]
theorem eC {s d:TypeId}{k':IntKind}{ds:TypeDesc}(h1:P.underlying s=some ds)(h2:P.underlying d=some (.int k')):YR P s d (.int k a)=some (.int k' (k'.wrap a)):=by simp [YR,h1,h2]
end
theorem wrap_i64 {n:Int}(h0 : -9223372036854775808<=n)(h1:n<=9223372036854775807):IntKind.i64.wrap n=n:=by
 unfold IntKind.wrap IntKind.bits IntKind.signed;simp;omega
section
variable {α:Type} {P:Program}
theorem MI {t e:TypeId}(hu:P.underlying t=some (.slice e)):(∀m k xs,JR P t (.sl m k xs)=some (.int .i64 xs.length))∧∀b off len,JR P t (.own b off len)=some (.int .i64 len):=by
 constructor<;>intros<;>simp [JR,hu]
theorem AXZ {t:TypeId}(hu:P.underlying t=some .string)(s:ByteArray):JR P t (.str s)=some (.int .i64 s.size):=by simp [JR,hu]
theorem CX {k:Nat}{h:Hp}{f:α->List AV}{xs:List α}(hn:n<xs.length):IG k h (.sl m k (xs.map f)) (.int kk (n:Int))=some (.fptr k (xs.map f) n 0):=by
 simp [IG,hn]
theorem A04 {k:Nat}{h:Hp}{i:Int}(h0:0<=i)(h1:i<(xs.length:Int)):IG k h (.sl m k xs) (.int kk i)=some (.fptr k xs i.toNat 0):=by
 simp [IG,h0,h1]
theorem GM {k:Nat}{h:Hp}{b:Nat}(hb:h[b]?=some (.live k xs))(hn:n<len):IG k h (.own b off len) (.int kk (n:Int))=some (.ptr b (off+n) 0):=by
 simp [IG,hb,hn]
theorem AX5 {k:Nat}{h:Hp}{b:Nat}{i:Int}(hb:h[b]?=some (.live k xs))(h0:0<=i)(h1:i<(len:Int)):IG k h (.own b off len) (.int kk i)=some (.ptr b (off+i.toNat) 0):=by
 simp [IG,hb,h0,h1]
theorem CU {h:Hp}{t:TypeId}{k:Nat}{f:α->List AV}{xs:List α}(hag:JJ P t=some false)(hn:n<xs.length):BH P h t (.fptr k (xs.map f) n j)=(f xs[n])[j]? := by
 simp [BH,rowAt,hn,hag]
theorem DC {h:Hp}{t:TypeId}{k:Nat}{f:α->List AV}{xs:List α}(hag:JJ P t=some true)(hs:szO P t=some s)(hl:∀x,(f x).length=s)(hn:n<xs.length):
  BH P h t (.fptr k (xs.map f) n 0)=some (.agg (f xs[n])):=by
 have:=hl xs[n];simp [BH,rowAt,hn,hag,hs,this];rw[jJ U]
theorem BA {h:Hp}{t:TypeId}{b k:Nat}(hag:JJ P t=some false)(hb:h[b]?=some (.live k xs))(hr:xs[i]?=some row):BH P h t (.ptr b i j)=row[j]? := by
 simp [BH,rowAt,hb,hr,hag]
theorem EF {h:Hp}{t:TypeId}{b k:Nat}(hag:JJ P t=some true)(hs:szO P t=some s)(hb:h[b]?=some (.live k xs))(hr:xs[i]?=some row)(hl:j+s<=row.length):
  BH P h t (.ptr b i j)=some (.agg ((row.drop j).take s)):=by
 simp [BH,rowAt,hb,hr,hag,hs,hl]
end
theorem AQ (h:Hp)(x:ABlk):(h++[x])[h.length]?=some x:=AZ
theorem vK (h:Hp)(x y:ABlk):(h++[x]).set h.length y=h++[y]:=AZ
theorem AB {h:Hp}{x:ABlk}{b:Nat}(hb:h[b]?=some y):(h++[x])[b]?=some y:=by
 rw[zX (Z hb)]; exact hb
theorem Y8 {P:Program}{h:Hp}{t:TypeId}{k:Nat}(hag:JJ P t=some true)(hs:szO P t=some s)(hl:j+s<=row.length):BH P (h++[.live k [row]]) t (.ptr h.length 0 j)=some (.agg ((row.drop j).take s)):=by
 simp [BH,rowAt,hag,hs,hl]
theorem SE {P:Program}{h:Hp}{t:TypeId}{k:Nat}(hc:H9 v=some cs)(hs:szO P t=some cs.length)(hl:j+cs.length<=row.length):
  DT P (h++[.live k [row]]) t (.ptr h.length 0 j) v=some (h++[.live k [splice row j cs]]):=by
 simp [DT,hc,hs,hl]
theorem A35 {h:Hp}(hc:H9 v=some cs):MS h v=some (.ptr h.length 0 0,h++[.live cs.length [cs]]):=by simp [MS,hc]
theorem O7 (hl:cs.all AV.leaf=true):H9 (.agg cs)=some cs:=by simp only[H9,hl,if_true]
theorem YQ (k:IntKind)(n:Int):H9 (.int k n)=some [.int k n]:=rfl
theorem AU8 (m:SM)(k:Nat)(xs:List (List AV)):H9 (.sl m k xs)=some [.sl m k xs]:=rfl
theorem AAS (a b c:Nat):H9 (.own a b c)=some [.own a b c]:=rfl
theorem A1Y (f:Fn)(a b:List AV):H9 (.fn f a b)=some [.fn f a b]:=rfl
theorem NK (h:n<=9223372036854775807):IntKind.i64.wrap (n:Int)=(n:Int):=wrap_i64 U U
theorem wrap_succ (h:n<9223372036854775807):IntKind.i64.wrap ((n:Int)+1)=((n+1:Nat):Int):=by rw[wrap_i64 U U]; omega
theorem FY (l:List Nat)(f:List (Nat×List Nat))(n:Nat):(hint l f).md n=l.contains n:=rfl
set_option linter.unusedSimpArgs false in
theorem FI {P:Program}{h:Hp}{t:TypeId}(hz:MC P t=some row):GU P h t=some (.ptr h.length 0 0,h++[.live row.length [row]]):=by
 unfold MC at hz;unfold GU MS;split at hz
 .rename_i z hz2; simp only[hz2,hz]
 .cases hz
theorem ALV (h:Hp)(k:IntKind)(n:Int):MS h (.int k n)=some (.ptr h.length 0 0,h++[.live 1 [[.int k n]]]):=rfl
theorem AZP (h:Hp)(b:ByteArray):MS h (.str b)=some (.ptr h.length 0 0,h++[.live 1 [[.str b]]]):=rfl
theorem pC (h:Hp)(m:SM)(k:Nat)(xs:List (List AV)):MS h (.sl m k xs)=some (.ptr h.length 0 0,h++[.live 1 [[.sl m k xs]]]):=rfl
theorem WT {h:Hp}(hl:cs.all AV.leaf=true):MS h (.agg cs)=some (.ptr h.length 0 0,h++[.live cs.length [cs]]):=A35 (O7 hl)
theorem ADE {P:Program}{h x:Hp}{t:TypeId}{b:Nat}(hv:BH P h t (.ptr b i j)=some v):BH P (h++x) t (.ptr b i j)=some v:=by
 have hb:b<h.length:=by
  rcases jW b h.length with hb|hb
  .exact hb
  .have:h[b]?=none:=List.getElem?_eq_none hb
   simp [BH,rowAt,this] at hv
 have:(h++x)[b]?=h[b]? := zX hb
 unfold BH at hv|-
 simp only[rowAt,this] at hv|-
 exact hv
theorem D5 {P:Program}{h:Hp}{t:TypeId}{k:Nat}(hag:JJ P t=some false):BH P (h++[.live k [row]]) t (.ptr h.length 0 j)=row[j]? := by
 simp [BH,rowAt,hag]
theorem ACalls.of_rep {E:Env}{f:FuncId}{args:List AV}{h:Hp}{R:AV->Hp->Prop}(hok:cG E.P f)(hh:(∃(g:Gh) (cargs:Array Value),ZW g args cargs)->ACalls E f args h R):ACalls E f args h R :=
 ⟨hok,fun g w cargs S ha=>(hh ⟨g,cargs,ha⟩).2 g w cargs S ha⟩
theorem nC {g:Gh}{args:List AV}{cargs:Array Value}{k:Nat}(ha:ZW g args cargs)(hi:args[i]?=some (.sl .nil k xs)):xs=[]:=by
 have hlt:i<cargs.size:=by rw[ha.1]; exact Z hi
 have:=(ha.2 i _ cargs[i] hi (by simp [hlt])).sl_inv;generalize cargs[i]=cv at this
 cases this with
 | nil=>rfl
 | empty=>rfl
 | sl _ _ _ _ _ _ _ _ _ _ _ h=>exact absurd rfl h
theorem ARY {P:Program}{h:Hp}{t:TypeId}{k:Nat}(hag:JJ P t=some false)(hr:xs[i]?=some row)(hv:row[j]?=some v):BH P h t (.fptr k xs i j)=some v:=by
 simp [BH,rowAt,hag,hr,hv]
theorem G5 {P:Program}{h:Hp}{t:TypeId}{b k:Nat}(hc:H9 v=some cs)(hs:szO P t=some cs.length)(hb:h[b]?=some (.live k xs))(hr:xs[i]?=some row)(hl:j+cs.length<=row.length):
  DT P h t (.ptr b i j) v=some (h.set b (.live k (xs.set i (splice row j cs)))):=by
 simp [DT,hc,hs,hb,hr,hl]
def ext (h H:Hp):Prop:=∃x,H=h++x
theorem ext.rfl' (h:Hp):ext h h:=⟨[],AZ⟩
theorem ext.app {h H:Hp}(he:ext h H)(x:Hp):ext h (H++x):=by obtain⟨y,rfl⟩:=he; exact⟨y++x,by rw[zK]⟩
theorem ext.set {h H:Hp}(he:ext h H){b:Nat}(hb:h.length<=b)(y:ABlk):ext h (H.set b y):=by
 obtain⟨x,rfl⟩:=he;exact⟨x.set (b-h.length) y,by rw[List.set_append_right _ _ hb]⟩
theorem ext.trans {a b c:Hp}(h1:ext a b)(h2:ext b c):ext a c:=by obtain⟨x,rfl⟩:=h1; exact h2.casesOn fun y e=>⟨x++y,by rw[e,zK]⟩
theorem ext.le {h H:Hp}(he:ext h H):h.length<=H.length:=by obtain⟨x,rfl⟩:=he; simp
theorem CY {h:Hp}{b:Nat}{x:Option ABlk}(ho:h[o]?=x)(hne:o≠b):(h.set b y)[o]?=x:=by rw[zJ,if_neg (fun e=>hne e.symm)]; exact ho
theorem CP {h:Hp}{b:Nat}{x:ABlk}(hb:h[b]?=some x):(h.set b y)[b]?=some y:=by
 have:=Z hb;rw[zJ,if_pos rfl,if_pos this]
def AO0 (m:SM)(u n:Nat):SM:=match m with|.nil=>.nil|.full=>if u=n then .full else .any|.any=>.any
section
variable {P:Program} {t e:TypeId} {k:Nat} (hu:P.underlying t=some (.slice e)) (hs:szO P e=some k)
include hu hs
theorem lC {h:Hp}{l:Nat}(hl:l<=xs.length):IA P h t (.sl m k xs) (some (.int kk (l:Int))) none none=some (.sl m k (xs.drop l)):=by
 have h1:G8 (some (.int kk (l:Int))) (some 0)=some l:=by simp [G8]
 have h2:G8 none (some xs.length)=some xs.length:=rfl;simp only[IA,hu,h1,h2,hs,true_and];rw[if_pos ⟨hl,jF _⟩,jJ AZ];cases m<;>simp
theorem AJR {h:Hp}{u:Nat}(hl:u<=xs.length):IA P h t (.sl m k xs) none (some (.int kk (u:Int))) none=some (.sl (AO0 m u xs.length) k (xs.take u)):=by
 have h1:G8 (some (.int kk (u:Int))) (some xs.length)=some u:=by simp [G8]
 have h2:G8 none (some 0)=some 0:=rfl;simp only[IA,hu,h1,h2,hs,true_and];rw[if_pos ⟨qI _,hl⟩];cases m<;>simp [AO0]
theorem A2R {h:Hp}{b u:Nat}(hb:h[b]?=some (.live k xs))(hl:u<=len):IA P h t (.own b off len) none (some (.int kk (u:Int))) none=some (.own b off u):=by
 have h1:G8 (some (.int kk (u:Int))) (some len)=some u:=by simp [G8]
 have h2:G8 none (some 0)=some 0:=rfl;simp only[IA,hu,h1,h2,hs,hb,true_and];rw[if_pos ⟨qI _,hl⟩];simp
theorem AC0 {h:Hp}{b l:Nat}(hb:h[b]?=some (.live k xs))(hl:l<=len):IA P h t (.own b off len) (some (.int kk (l:Int))) none none=some (.own b (off+l) (len-l)):=by
 have h1:G8 (some (.int kk (l:Int))) (some 0)=some l:=by simp [G8]
 have h2:G8 none (some len)=some len:=rfl;simp only[IA,hu,h1,h2,hs,hb,true_and];rw[if_pos ⟨hl,jF _⟩]
end
section
variable {P:Program} {t e:TypeId} {k b:Nat} (hu:P.underlying t=some (.slice e)) (hs:szO P e=some k) (hz:SK P e=some k) (hb:KG P e=some b)
include hu hs hz hb
theorem VS {h:Hp}(hy:IV h x=some (k,ys))(hne:ys≠[])(hr:room (xs.length+ys.length) b):
  EP P true h t t (.sl .full k xs) x=some (.own h.length 0 (xs.length+ys.length),h++[.live k (xs++ys)]):=by
 have hl:¬ys.length=0:=BG hne;simp [EP,hu,hs,SS,hy,bump,hz,hb,hr,hl]
theorem QT {h:Hp}{k':Nat}(hy:IV h x=some (k,ys))(hne:ys≠[])(hr:room ys.length b):
  EP P true h t t (.sl .nil k' xs) x=some (.own h.length 0 ys.length,h++[.live k ys]):=by
 have hl:¬ys.length=0:=BG hne;simp [EP,hu,hs,SS,hy,bump,hz,hb,hr,hl]
theorem P5 {h:Hp}(hc:IV h (.own o off len)=some (k,xs))(hy:IV h x=some (k,ys))(hne:ys≠[])(hr:room (xs.length+ys.length) b):
  EP P true h t t (.own o off len) x=some (.own h.length 0 (xs.length+ys.length),h.set o .dead++[.live k (xs++ys)]):=by
 have hl:¬ys.length=0:=BG hne;simp [EP,hu,hs,SS,hy,bump,hz,hb,hr,hl,hc]
omit hz hb in
theorem AFP {h:Hp}{own:Bool}{m':SM}{k':Nat}(hm:m=.nil∨m=.full):EP P own h t t (.sl m k xs) (.sl m' k' [])=some (.sl m k xs,h):=by
 rcases hm with rfl|rfl<;>simp [EP,hu,hs,SS,IV,bump]
end
theorem F9 (h:Hp)(m:SM)(k:Nat)(xs:List (List AV)):IV h (.sl m k xs)=some (k,xs):=rfl
theorem JQ {h:Hp}{k:Nat}(hb:h[o]?=some (.live k xs))(hl:off+len<=xs.length):IV h (.own o off len)=some (k,(xs.drop off).take len):=by simp [IV,hb,hl]
theorem uM {h:Hp}{k:Nat}:IV (h++[.live k xs]) (.own h.length 0 xs.length)=some (k,xs):=by simp [IV]
def I4 (P:Program)(t:TypeId)(f off:Nat):Bool:=match P.underlying t with
 | some (.struct fields)=>match fields[f]? with
   | some fl=>fl.offset==off&&(match szO P fl.type with
     | some n=>Nat.ble 1 n
     | none=>false)
   | none=>false
 | _=>false
theorem FZ {P:Program}{t:TypeId}{f:Nat}(h:I4 P t f off=true):
  (∀b i j,BD P t (.ptr b i j) f=some (.ptr b i (j+off)))∧(∀k xs i j,BD P t (.fptr k xs i j) f=some (.fptr k xs i (j+off))):=by
 unfold I4 at h;split at h
 case h_2=>cases h
 rename_i fields hu;split at h
 case h_2=>cases h
 rename_i fl hf;simp only[jO,beq_iff_eq] at h;obtain⟨h1,h2⟩:=h;split at h2
 case h_2=>cases h2
 rename_i n hs;have h3:1<=n:=jB h2;obtain⟨m,rfl⟩:∃m,n=m+1:=⟨n-1,U⟩;exact yM hu hf hs off h1

def Cv (a b:AV):Prop:=∀(M:Nat->Option Obj) (cv:Value),RepF M a cv->RepF M b cv
def CvR (a b:AV):Prop:=∀(g:Gh) (cv:Value),Rep g a cv->Rep g b cv
theorem Cv.refl (a:AV):Cv a a:=fun _ _ h=>h
theorem CvR.refl (a:AV):CvR a a:=fun _ _ h=>h
theorem Cv.nil (k k':Nat):Cv (.sl .nil k []) (.sl .nil k' []):=by
 intro M cv h
 cases h with
 | nil=>exact .nil k'
 | empty m k0 a cap h1=>exact absurd rfl h1
 | sl _ _ _ _ _ _ _ _ _ _ h=>exact absurd rfl h
theorem Cv.empty (m:SM)(k k':Nat):Cv (.sl m k []) (.sl m k' []):=by
 intro M cv h
 cases h with
 | nil=>exact .nil k'
 | empty m k0 a cap h1 h2=>exact .empty m k' a cap h1 h2
 | sl _ _ _ _ _ _ _ _ _ _ h=>exact absurd rfl h
theorem Cv.any {m:SM}(hm:m≠.nil)(k:Nat)(xs:List (List AV)):Cv (.sl m k xs) (.sl .any k xs):=by
 intro M cv h
 cases h with
 | nil=>exact absurd rfl hm
 | empty m k0 a cap h1 h2=>exact .empty .any k a cap AZ AZ
 | sl m k xs cb co c e fz cap cv h1 h2 h3 h4 h5 h6 h7 h8=>exact .sl .any k xs cb co c e fz cap cv h1 AZ h3 h4 h5 h6 h7 AZ
def CvRow (r r':List AV):Prop:=r'.length=r.length∧∀(j:Nat) (v v':AV),r[j]?=some v->r'[j]?=some v'->v'.leaf=true∧Cv v v'
theorem Cv.rows {k:Nat}(hl:ys.length=xs.length)(h:∀(i:Nat) (r r':List AV),xs[i]?=some r->ys[i]?=some r'->CvRow r r'):Cv (.sl m k xs) (.sl m k ys):=by
 have row:∀(i:Nat) (r':List AV),ys[i]?=some r'->∃r,xs[i]?=some r∧CvRow r r':=fun i r' hr=>by
  have hi:i<xs.length:=by rw[<-hl]; exact Z hr
  exact⟨xs[i],by simp [hi],h i _ _ (by simp [hi]) hr⟩
 intro M cv hr
 cases hr with
 | nil=>have:ys=[]:=yH.1 hl; subst this; exact .nil k
 | empty m k0 a cap h1 h2=>have:ys=[]:=yH.1 hl; subst this; exact .empty m k a cap h1 h2
 | sl m k xs cb co c e fz cap cv h1 h2 h3 h4 h5 h6 h7 h8 =>
   rw[<-hl];refine .sl m k ys cb co c e fz cap cv (fun e=>h1 (by subst e; exact yH.1 hl.symm)) h2 h3 ?_ ?_ ?_ U (fun e=>by rw[hl]; exact h8 e)
   .intro i r' hr'
    obtain⟨r,q1,q2,q3⟩:=row i r' hr';refine⟨by rw[q2]; exact(h4 i r q1).1,fun j v' hv'=>?_⟩;have hj:j<r.length:=by rw[<-q2]; exact Z hv'
    exact(q3 j r[j] v' (by simp [hj]) hv').1
   .intro i j hi hj; exact h5 i j U hj
   .intro i j r' v' hr' hv'
    obtain⟨r,q1,q2,q3⟩:=row i r' hr';have hj:j<r.length:=by rw[<-q2]; exact Z hv'
    exact(q3 j r[j] v' (by simp [hj]) hv').2 _ _ (h6 i j r r[j] q1 (by simp [hj]))
theorem Cv.map {α:Type}{m:SM}{k:Nat}{xs:List α}{f f':α->List AV}(h:∀x∈xs,CvRow (f x) (f' x)):Cv (.sl m k (xs.map f)) (.sl m k (xs.map f')):=by
 refine Cv.rows AZ fun i r r' h1 h2=>?_
 rw[jV,Option.map_eq_some_iff] at h1 h2;obtain⟨x,hx,rfl⟩:=h1;obtain⟨x',hx',rfl⟩:=h2;rw[hx] at hx'; cases hx';exact h x (zZ hx)
theorem CvRow.refl {r:List AV}(h:∀v∈r,v.leaf=true):CvRow r r:=⟨rfl,fun j v v' h1 h2=>by rw[h1] at h2; cases h2; exact⟨h v (zZ h1),Cv.refl v⟩⟩
theorem CvRow.nil:CvRow [] []:=⟨rfl,fun j v v' h=>by simp at h⟩
theorem CvRow.cons {v v':AV}{r r':List AV}(hl:v'.leaf=true)(h:Cv v v')(hr:CvRow r r'):CvRow (v::r) (v'::r'):=by
 refine⟨by simp [hr.1],fun j a a' h1 h2=>?_⟩
 cases j with
 | zero=>simp at h1 h2; subst h1; subst h2; exact⟨hl,h⟩
 | succ j=>simp at h1 h2; exact hr.2 j a a' h1 h2
theorem CvR.sl {m m':SM}{k k':Nat}{xs ys:List (List AV)}(h:Cv (.sl m k xs) (.sl m' k' ys)):CvR (.sl m k xs) (.sl m' k' ys):=fun _ _ hr=>.fro (h _ _ hr.sl_inv)
def CvRL (r r':List AV):Prop:=r'.length=r.length∧∀(j:Nat) (v v':AV),r[j]?=some v->r'[j]?=some v'->CvR v v'
theorem CvRL.nil:CvRL [] []:=⟨rfl,fun j v v' h=>by simp at h⟩
theorem CvRL.cons {v v':AV}{r r':List AV}(h:CvR v v')(hr:CvRL r r'):CvRL (v::r) (v'::r'):=by
 refine⟨by simp [hr.1],fun j a a' h1 h2=>?_⟩
 cases j with
 | zero=>simp at h1 h2; subst h1; subst h2; exact h
 | succ j=>simp at h1 h2; exact hr.2 j a a' h1 h2
theorem CvRL.refl (r:List AV):CvRL r r:=⟨rfl,fun j v v' h1 h2=>by rw[h1] at h2; cases h2; exact CvR.refl v⟩
theorem CvR.agg {r r':List AV}(h:CvRL r r'):CvR (.agg r) (.agg r'):=by
 intro g cv hr;obtain⟨vs,rfl,h1,h2⟩:=hr.agg_inv;refine .agg r' vs (by rw[h1,h.1]) fun i v' c a b=>?_
 have hi:i<r.length:=by rw[<-h.1]; exact Z a
 exact h.2 i r[i] v' (by simp [hi]) a g c (h2 i r[i] c (by simp [hi]) b)
theorem CvR.tup {r r':List AV}(h:CvRL r r'):CvR (.tup r) (.tup r'):=by
 intro g cv hr;obtain⟨vs,rfl,h1,h2⟩:=hr.tup_inv;refine .tup r' vs (by rw[h1,h.1]) fun i v' c a b=>?_
 have hi:i<r.length:=by rw[<-h.1]; exact Z a
 exact h.2 i r[i] v' (by simp [hi]) a g c (h2 i r[i] c (by simp [hi]) b)
theorem ACalls.args {E:Env}{f:FuncId}{args args':List AV}{h:Hp}{R:AV->Hp->Prop}(hc:ACalls E f args' h R)(ha:CvRL args args'):ACalls E f args h R:=by
 refine⟨hc.1,fun g w cargs S hr=>hc.2 g w cargs S ⟨by rw[hr.1,ha.1],fun i v' cv h1 h2=>?_⟩⟩;have hi:i<args.length:=by rw[<-ha.1]; exact Z h1
 exact ha.2 i args[i] v' (by simp [hi]) h1 g cv (hr.2 i args[i] cv (by simp [hi]) h2)
theorem PCall.args {E:Env}{f:FuncId}{args args':List AV}{h:Hp}{r:AV}(hc:PCall E f args' h r)(ha:CvRL args args'):PCall E f args h r:=ACalls.args hc ha
theorem PCall.res {E:Env}{f:FuncId}{args:List AV}{h:Hp}{r r':AV}(hc:PCall E f args h r)(hr:CvR r r'):PCall E f args h r' :=
 ACalls.conv hc fun v h' ⟨e1,e2⟩=>by subst e1; exact⟨r',⟨rfl,e2⟩,hr⟩
theorem GN (l:List Nat)(n:Nat):(hint l []).fz n=[]:=rfl
theorem TD (l:List Nat)(a:Nat)(s:List Nat)(n:Nat):(hint l [(a,s)]).fz n=if(a==n)=true then s else []:=by
 unfold hint;simp only[List.find?];cases a==n<;>rfl
theorem ADZ {H:Hp}{b k:Nat}(hb:H[b]?=some (.live k xs))(hl:off+len<=xs.length)(hf:MW ((xs.drop off).take len)=true):
  ∀F:Fr,F i=.own b off len->QP (F,H) i=(upd F i (.sl .any k ((xs.drop off).take len)),H.set b .dead):=by
 intro F hF;unfold QP;simp only[hF,hb];rw[if_pos ⟨hl,hf⟩]
theorem AYN {H:Hp}{k:Nat}:∀F:Fr,F i=.sl m k xs->QP (F,H) i=(F,H):=by
 intro F hF;unfold QP;simp only[hF]

def nilA (h:Hp)(K:AV->Hp->Prop)(v:AV):Prop:=match v with
 | .ptr b i j=>K (.ptr b i j) h
 | .fptr k xs i j=>K (.fptr k xs i j) h
 | _=>False
theorem QD {E:Env}{F:Fr}{h:Hp}{c:Fr->AV->Hp->Prop}{own:Bool}(x:Operand):X1 E own (.nilCheck x) (F,h) c=nilA h (c F) (ev E F x):=by
 simp only[X1,NG,aop,nilA];generalize ev E F x=v;cases v<;>rfl
theorem VW {E:Env}{F:Fr}{h:Hp}{c:Fr->AV->Hp->Prop}{own:Bool}(x:Operand):Y1 E own (.nilCheck x) (F,h) c=X1 E own (.nilCheck x) (F,h) c:=rfl
theorem VG (h:Hp)(K:AV->Hp->Prop)(b i j:Nat):nilA h K (.ptr b i j)=K (.ptr b i j) h:=rfl
theorem PCall.of_reads {E:Env}{f:FuncId}{args:List AV}{h:Hp}{r:AV}(hok:cG E.P f)
  (hc:∀(g:Gh) (w:World) (cargs:Array Value),SimH E g h w->ZW g args cargs->∃cv,Rep g r cv∧Calls E.P f cargs w fun e w'=>e=.returned cv∧∃n,w'=w.drewN n):PCall E f args h r:=by
 refine⟨hok,fun g w cargs S ha=>?_⟩;obtain⟨cv,hr,hcall⟩:=hc g w cargs S.ofNox ha;refine hcall.mono ?_;rintro e w' ⟨rfl,n,rfl⟩;exact .inl ⟨r,cv,g,h,rfl,⟨rfl,rfl⟩,Gh.le.refl g,S.world rfl rfl rfl fun k _=>rfl,hr⟩

inductive PT where
 | done
 | ones (pre:List Nat) (t:PT)
 | alt (i:Nat) (t r:PT)
 | non
def PT.heads:PT->List Nat
 | .alt i _ r=>i::r.heads
 | _=>[]
def eB (hs L:List Nat):Nat->List Oper->Bool
 | _,[]=>true
 | k,z::l=>(L.contains k||hs.contains k||z.after.toList.any (fun e=>Region.binds .any e && !L.contains e.on))&&eB hs L (k+1) l
theorem eA {hs L:List Nat}:∀ {l:List Oper} {k:Nat},eB hs L k l=true->∀(n:Nat) (z:Oper),l[n]?=some z->L.contains (k+n)=true∨k+n∈hs∨∃e∈z.after,Region.binds .any e=true∧L.contains e.on=false
 | [],_,_,n,z,h=>by simp at h
 | y::l,k,ho,n,z,hz=>by
   unfold eB at ho;rw[jO] at ho
   cases n with
   | zero =>
     simp at hz; subst hz;have h1:=ho.1;simp only[qN,jO,List.any_eq_true,Bool.not_eq_true'] at h1;rcases h1 with (h1|h1)|⟨e,h1,h2⟩
     .exact .inl h1
     .exact .inr (.inl (by simpa [List.contains_eq_mem] using h1))
     .exact .inr (.inr ⟨e,BG h1,h2.1,h2.2⟩)
   | succ n =>
     have:=eA ho.2 n z (BG hz);rw[show k+1+n=k+(n+1) by omega] at this;exact this
theorem AE0 {ops:Array Oper}{hs L:List Nat}{listed:Array Bool}{k:Nat}(hL:LS ops L listed)(ho:eB hs L 0 ops.toList=true)(hk:k∈Region.ready .any ops listed):k∈hs:=by
 obtain⟨h1,z,h2,h3⟩:=mem_ready.1 hk;have hlt:k<ops.size:=(Array.getElem?_eq_some_iff.1 h2).1;rw[hL.getD hlt] at h1;rcases eA ho k z (BG h2) with h4|h4|⟨e,h5,h6,h7⟩
 .rw[jH,h1] at h4; cases h4
 .simpa using h4
 .have:=h3 e h5 h6
  rw[hL.getF,h7] at this; cases this
def AHP (ops:Array Oper)(i:Nat)(L:List Nat):Bool:=match ops.toList[i]? with
 | none=>false
 | some x => !L.contains i&&QQ x L
theorem xR {ops:Array Oper}{L:List Nat}{listed:Array Bool}(hL:LS ops L listed)(h:AHP ops i L=true):i∈Region.ready .any ops listed:=by
 unfold AHP at h
 cases hx:ops.toList[i]? with
 | none=>rw[hx] at h; cases h
 | some x =>
   rw[hx] at h;simp only[jO,Bool.not_eq_true'] at h;exact XW hL (BG hx) h.1 h.2
def lc (d:Option Tmp)(K:Fr->Hp->Prop):Fr->AV->Hp->Prop:=fun F v h=>K (FV F d v) h
theorem A55 (K:Fr->Hp->Prop)(F:Fr)(v:AV)(h:Hp):lc none K F v h=K F h:=rfl
theorem A54 (d:Tmp)(K:Fr->Hp->Prop)(F:Fr)(v:AV)(h:Hp):lc (some d) K F v h=K (upd F d v) h:=rfl

def A3R (md:Nat->Bool)(o:Oper):Bool:=match md (o.dst.getD 0+1000000) with
 | true=>false
 | false=>match o.op with
   | .call { callee:=.value _,.. }=>false
   | .panic _=>false
   | _=>true
theorem AOZ {E:Env}{md:Nat->Bool}{ds:List (Option Tmp)}{o:Oper}{s:Fr×Hp}{P:Fr×Hp->Prop}(hd:A3R md o=true)(h:ANext E md ds o s P):∃s',AStep E md ds o s s'∧P s':=by
 unfold A3R at hd;split at hd
 .cases hd
 rename_i he;rcases h with⟨h1,h2⟩|⟨h1,h2⟩
 .unfold NG at h2
  split at h2
  .rename_i hop; rw[hop] at hd; cases hd
  .rename_i hop; rw[hop] at hd; cases hd
  .rename_i hn1 hn2
   split at h2
   .rename_i v h' ha
    refine⟨_,.inl ⟨h1,v,h',?_,rfl⟩,h2⟩;unfold DExO;simp only[he];unfold DEx;split
    .rename_i f as ats hop; exact absurd hop (hn1 f as ats)
    .exact ha
   .exact h2.elim
 .exact⟨_,.inr ⟨h1,rfl⟩,h2⟩
theorem AFY {E:Env}{own:Bool}{op:Op}{F F':Fr}{h:Hp}{K:AV->Hp->Prop}(he:∀x∈op.operands,ev E F x=ev E F' x)(ha:NG E own op F h K):NG E own op F' h K:=by
 unfold NG at *;split at ha
 .rename_i f as ats
  have h1:ev E F f=ev E F' f:=he f (by simp [Op.operands,Call.operands]);have h2:as.toList.map (ev E F)=as.toList.map (ev E F'):=List.map_congr_left fun x hx=>he x (by simp at hx; simp [Op.operands,Call.operands,hx])
  rw[h1,h2] at ha;exact ha
 .rename_i x
  rw[he x (by simp [Op.operands])] at ha;exact ha
 .rw[uR he] at ha
  exact ha
def okN (md:Nat->Bool)(x y:Oper):Bool:=hkO md x==0||(U4 md [] x y&&A3R md y)
theorem AI8 {E:Env}{md:Nat->Bool}{ops:Array Oper}{x y:Oper}{s s1:Fr×Hp}{P:Fr×Hp->Prop}(hap:x.apart ops y=true)(hco:okN md x y=true)
  (hx:AStep E md (ops.toList.map (·.dst)) x s s1) (hy:ANext E md (ops.toList.map (·.dst)) y s1 P):ANext E md (ops.toList.map (·.dst)) y s fun t=>∃s2,AStep E md (ops.toList.map (·.dst)) x t s2∧P s2:=by
 unfold okN at hco;rw[qN] at hco;rcases hco with hc|hc
 .have hc:hkO md x=0:=BG hc
  obtain⟨p1,p2,p3⟩:=Oper.apart_spec hap;obtain⟨F,h⟩:=s
  have exY:∀ {v:AV} {h1:Hp} {K:AV->Hp->Prop},NG E (md (y.dst.getD 0)) y.op (FV F x.dst v) h1 K->NG E (md (y.dst.getD 0)) y.op F h1 K:=fun hd =>
   AFY (fun z hz=>yZ fun d hdd he=>dG (p1 d hdd) z hz he) hd
  have exX:∀ {v u:AV} {h1 h2:Hp},DExO E md x F h1 u h2->DExO E md x (FV F y.dst v) h1 u h2:=fun hd =>
   cF (fun z hz=>(yZ fun d hdd he=>dG (p3 d hdd) z hz he).symm) hd
  have wY:∀v,MO (ops.toList.map (·.dst)) (FV F x.dst v) y.guard=MO (ops.toList.map (·.dst)) F y.guard:=fun v=>cK p1
  have wX:∀v,MO (ops.toList.map (·.dst)) (FV F y.dst v) x.guard=MO (ops.toList.map (·.dst)) F x.guard:=fun v=>cK p3
  rcases hx with⟨a1,v,h1,a2,rfl⟩|⟨a1,rfl⟩
  .obtain⟨rfl,hz⟩:=pZ hc a2
   rcases hy with⟨b1,b2⟩|⟨b1,b2⟩
   .simp only at b1 b2
    rw[wY] at b1;refine .inl ⟨b1,QI (fun u h' hp=>?_) (exY b2)⟩;exact⟨_,.inl ⟨by rw[wX]; exact a1,v,h',exX (hz h'),by rw[KU F v u p2]⟩,hp⟩
   .simp only at b1 b2
    rw[wY] at b1;exact .inr ⟨b1,_,.inl ⟨by rw[wX]; exact a1,v,_,exX (hz _),by rw[KU F v GZ p2]⟩,b2⟩
  .rcases hy with⟨b1,b2⟩|⟨b1,b2⟩
   .simp only at b1 b2
    rw[wY] at b1;refine .inl ⟨b1,QI (fun u h' hp=>?_) (exY b2)⟩;exact⟨_,.inr ⟨by rw[wX]; exact a1,by rw[KU F GZ u p2]⟩,hp⟩
   .simp only at b1 b2
    rw[wY] at b1;exact .inr ⟨b1,_,.inr ⟨by rw[wX]; exact a1,by rw[KU F GZ GZ p2]⟩,b2⟩
 .rw[jO] at hc
  obtain⟨s2,h1,h2⟩:=AOZ hc.2 hy;obtain⟨t,t1,t2⟩:=qS (sep:=[]) trivial hap hc.1 hx h1;exact t1.next ⟨s2,t2,h2⟩
theorem AIW {E:Env}{md:Nat->Bool}{ops:Array Oper}{Q:Fr×Hp->Prop}{i:Nat}{oi:Oper}(hi:ops[i]?=some oi)(r:Nat->Bool)
  (hsup:∀j oj,ops[j]?=some oj->r j=true->j≠i->∃e∈oj.after,Region.binds .any e=true∧r e.on=true):∀(fuel:Nat) (listed:Array Bool) (s s1:Fr×Hp),
  (∀j,r j=true->listed.getD j true=false) ->
  (∀j oj,ops[j]?=some oj->j≠i->listed.getD j true=false->r j=false->oi.apart ops oj=true∧okN md oi oj=true) ->
  i∈Region.ready .any ops listed->AStep E md (ops.toList.map (·.dst)) oi s s1->hJ E md ops Q fuel (listed.setIfInBounds i true) s1->hJ E md ops Q (fuel+1) listed s:=by
 intro fuel
 induction fuel with
 | zero =>
   intro listed s s1 _ _ hr hy H;refine⟨fun h=>(by rw[h] at hr; cases hr),fun j hj=>?_⟩;by_cases hji:j=i
   .subst hji; exact⟨oi,hi,hy.next H⟩
   .have:=ready_mono hj hji
    rw[H.1] at this;cases this
 | succ fuel ih =>
   intro listed s s1 hun hfree hr hy H;refine⟨fun h=>(by rw[h] at hr; cases hr),fun j hj=>?_⟩;by_cases hji:j=i
   .subst hji; exact⟨oi,hi,hy.next H⟩
   .obtain⟨oj,hoj,hst⟩:=H.2 j (ready_mono hj hji)
    obtain⟨hjun,oj',hoj',hall⟩:=mem_ready.1 hj;rw[hoj] at hoj'; cases hoj'
    have hrj:r j=false:=by
     cases hc:r j with
     | false=>rfl
     | true =>
       obtain⟨e,he,hb,hre⟩:=hsup j oj hoj hc hji;have h1:=hall e he hb;have h0:=hun e.on hre;rcases jW e.on listed.size with h'|h'
       .simp [h'] at h0 h1; rw[h0] at h1; cases h1
       .simp [Array.getElem?_eq_none h'] at h1
    obtain⟨q1,q2⟩:=hfree j oj hoj hji hjun hrj;have hsw:=AI8 q1 q2 hy hst
    have hun':∀k,r k=true->(listed.setIfInBounds j true).getD k true=false:=fun k hk=>by
     by_cases hjk:j=k
     .subst hjk; rw[hrj] at hk; cases hk
     .rw[getD_set_ne true hjk]; exact hun k hk
    have hfree':∀k ok,ops[k]?=some ok->k≠i->(listed.setIfInBounds j true).getD k true=false->r k=false->oi.apart ops ok=true∧okN md oi ok=true:=fun k ok hk hki hun2 hno=>by
     refine hfree k ok hk hki ?_ hno;by_cases hjk:j=k
     .subst hjk; exact hjun
     .rw[getD_set_ne true hjk] at hun2; exact hun2
    refine⟨oj,hoj,hsw.mono fun t ⟨s2,t2,hrest⟩=>ih (listed.setIfInBounds j true) t s2 hun' hfree' (ready_mono hr (Ne.symm hji)) t2 ?_⟩;rw[Array.setIfInBounds_comm _ _ hji];exact hrest
def AK5 (md:Nat->Bool)(ops:Array Oper)(i:Nat)(x:Oper)(L:List Nat):Nat->List Oper->List Nat->Bool
 | _,[],_=>true
 | _,_::_,[]=>false
 | k,y::l,m::ms=>(match m.testBit i with
   | true => !L.contains k
   | false=>L.contains k||k==i||(okN md x y&&x.apart ops y))&&AK5 md ops i x L (k+1) l ms
theorem nS {md:Nat->Bool}{ops:Array Oper}{i:Nat}{x:Oper}{L:List Nat}:∀ {l:List Oper} {ms:List Nat} {k:Nat},AK5 md ops i x L k l ms=true->ms.length=l.length->∀(j:Nat) (y:Oper),l[j]?=some y ->
  ((ms.getD j 0).testBit i=true∧L.contains (k+j)=false)∨((ms.getD j 0).testBit i=false∧(L.contains (k+j)=true∨k+j=i∨(x.apart ops y=true∧okN md x y=true)))
 | [],_,_,_,_,j,y,h=>by simp at h
 | _::_,[],_,_,hl,_,_,_=>by simp at hl
 | z::l,m::ms,k,hf,hl,j,y,hy=>by
   unfold AK5 at hf;rw[jO] at hf
   cases j with
   | zero =>
     simp at hy; subst hy;have h1:=hf.1;simp only[List.getD_cons_zero,Nat.add_zero]
     cases hb:m.testBit i with
     | true =>
       rw[hb] at h1;exact .inl ⟨rfl,BG h1⟩
     | false =>
       rw[hb] at h1;simp only[qN,jO,beq_iff_eq] at h1;refine .inr ⟨rfl,?_⟩;rcases h1 with (h1|h1)|h1
       .exact .inl h1
       .exact .inr (.inl h1)
       .exact .inr (.inr ⟨h1.2,h1.1⟩)
   | succ j =>
     have:=nS hf.2 (BG hl) j y (BG hy);rw[show k+1+j=k+(j+1) by omega] at this;simpa using this
def A5I (md:Nat->Bool)(ops:Array Oper)(i:Nat)(L:List Nat):Bool:=match ops.toList[i]? with
 | none=>false
 | some x => !L.contains i&&QQ x L&&AK5 md ops i x L 0 ops.toList (kY ops.toList [])
def AKB (md:Nat->Bool)(ops:Array Oper):List Nat->List Nat->Bool
 | [],_=>true
 | i::r,L=>A5I md ops i L&&AKB md ops r (i::L)
theorem uS {E:Env}{md:Nat->Bool}{ops:Array Oper}{Q:Fr×Hp->Prop}{K:Fr->Hp->Prop}{fuel:Nat}(hlow:X7 ops.toList 0=true):∀(pre L:List Nat) (listed:Array Bool) (F:Fr) (h:Hp),AKB md ops pre L=true ->
  LS ops L listed->D E md (ops.toList.map (·.dst)) (NR ops.toList pre) F h K ->
  (∀(F':Fr) (h':Hp) (listed':Array Bool),LS ops (pre.reverse++L) listed'->K F' h'->hJ E md ops Q fuel listed' (F',h'))->hJ E md ops Q (fuel+pre.length) listed (F,h)
 | [],L,listed,F,h,_,hL,hD,hn=>hn F h listed hL hD
 | i::r,L,listed,F,h,ho,hL,hD,hn=>by
   unfold AKB at ho;rw[jO] at ho;obtain⟨ho1,ho2⟩:=ho;unfold A5I at ho1
   cases hx:ops.toList[i]? with
   | none=>rw[hx] at ho1; cases ho1
   | some x =>
     rw[hx] at ho1;simp only[jO,Bool.not_eq_true'] at ho1;obtain⟨⟨h0,he⟩,hf⟩:=ho1;have hi:ops[i]?=some x:=BG hx;have hlt:i<ops.size:=(Array.getElem?_eq_some_iff.1 hi).1;unfold NR at hD;rw[hx] at hD;obtain⟨s',h1,h2⟩:=pX hD;have hspec:=nS hf (by rw[V3]; simp)
     refine AIW hi (fun j=>decide (j=i)||O5 ops i j) (fun j oj hj hr hne=>?_) (fuel+r.length) listed (F,h) s' (fun j hr=>?_) (fun j oj hj hne hun hr=>?_) (XW hL hi h0 he) h1
      (uS hlow r (i::L) _ s'.1 s'.2 ho2 (hL.next hlt) h2 (fun F' h' l' a c=>hn F' h' l' (BG a) c))
     .simp only[qN,decide_eq_true_eq] at hr
      rcases hr with hr|hr
      .exact absurd hr hne
      .obtain⟨e,he,hb,_,h7⟩:=UE hlow hj hr
       exact⟨e,he,hb,BG h7⟩
     .simp only[qN,decide_eq_true_eq] at hr
      rcases hr with rfl|hr
      .rw[hL.getD hlt,h0]
      .have h3:=YW hr
       have h4:=hspec j ops[j] (by simp [h3]);rw[jH] at h4;rw[hL.getD h3];rcases h4 with h4|h4
       .exact h4.2
       .unfold O5 at hr
        rw[h4.1] at hr; cases hr
     .have h3:j<ops.size:=(Array.getElem?_eq_some_iff.1 hj).1
      rw[hL.getD h3] at hun;simp only[Bool.or_eq_false_iff,decide_eq_false_iff_not] at hr;have h4:=hspec j oj (BG hj);rw[jH] at h4;rcases h4 with h4|⟨_,h4|h4|h4⟩
      .unfold O5 at hr
       rw[h4.1] at hr; cases hr.2
      .rw[hun] at h4; cases h4
      .exact absurd h4 hne
      .exact h4
def AK6 (ops:Array Oper)(i:Nat):Bool:=match ops.toList[i]? with
 | some o=>o.guard.isNone
 | none=>false
mutual
def rI (md:Nat->Bool)(ops:Array Oper):PT->Nat->List Nat->Bool
 | .done,n,L=>Nat.beq n 0&&allIn L 0 ops.toList
 | .ones pre t,n,L=>Nat.ble pre.length n&&AKB md ops pre L&&rI md ops t (n-pre.length) (pre.reverse++L)
 | .alt i t r,n,L=>Nat.ble 1 n&&AHP ops i L&&eB (i::r.heads) L 0 ops.toList&&AK6 ops i&&rI md ops t (n-1) (i::L)&&ANH md ops r (n-1) L
 | .non,_,_=>false
def ANH (md:Nat->Bool)(ops:Array Oper):PT->Nat->List Nat->Bool
 | .alt i t r,n,L=>AK6 ops i&&rI md ops t n (i::L)&&ANH md ops r n L
 | .non,_,_=>true
 | _,_,_=>false
end
def DN (E:Env)(md:Nat->Bool)(ops:List Oper)(K:Fr->Hp->Prop):PT->Fr->Hp->Prop
 | .done,F,h=>K F h
 | .ones pre t,F,h=>DD E md ops (NR ops pre) F h (fun F h=>DN E md ops K t F h)
 | .alt i t r,F,h=>(match ops[i]? with|some o=>X1 E (md (o.dst.getD 0)) o.op (F,h) (lc o.dst fun F h=>DN E md ops K t F h)|none=>False)∧DN E md ops K r F h
 | .non,_,_=>True
section
variable {E:Env} {md:Nat->Bool} {ops:Array Oper} {K:Fr->Hp->Prop}
def A1Z (E:Env)(md:Nat->Bool)(ops:Array Oper)(K:Fr->Hp->Prop)(t:PT):Prop :=
 (∀n L listed F h,rI md ops t n L=true->LS ops L listed->DN E md ops.toList K t F h->hJ E md ops (fun s=>K s.1 s.2) n listed (F,h)) ∧
 (∀n L listed F h,ANH md ops t n L=true->LS ops L listed->DN E md ops.toList K t F h->∀k∈t.heads,k∈Region.ready .any ops listed->∃o,ops[k]?=some o∧ANext E md (ops.toList.map (·.dst)) o (F,h) fun s'=>hJ E md ops (fun s=>K s.1 s.2) n (listed.setIfInBounds k true) s')
theorem sH {i:Nat}{t:PT}{n:Nat}{L:List Nat}{listed:Array Bool}{F:Fr}{h:Hp}(ht:A1Z E md ops K t)(hg:AK6 ops i=true)(h1:rI md ops t n (i::L)=true)(hL:LS ops L listed)
  (hd:match ops.toList[i]? with|some o=>X1 E (md (o.dst.getD 0)) o.op (F,h) (lc o.dst fun F h=>DN E md ops.toList K t F h)|none=>False) (hk:i∈Region.ready .any ops listed):∃o,ops[i]?=some o∧ANext E md (ops.toList.map (·.dst)) o (F,h) fun s'=>hJ E md ops (fun s=>K s.1 s.2) n (listed.setIfInBounds i true) s':=by
 obtain⟨_,z,h2,_⟩:=mem_ready.1 hk;have hlt:i<ops.size:=(Array.getElem?_eq_some_iff.1 h2).1;have hx:ops.toList[i]?=some z:=BG h2;rw[hx] at hd;unfold AK6 at hg;rw[hx] at hg;have hgn:z.guard=none:=BG hg;refine⟨z,h2,.inl ⟨by rw[hgn]; rfl,QI (fun v h' hv=>?_) hd⟩⟩;exact ht.1 n (i::L) _ _ _ h1 (hL.next hlt) hv
theorem AMG (hlow:X7 ops.toList 0=true)(t:PT):A1Z E md ops K t:=by
 induction t with
 | done =>
   refine⟨fun n L listed F h ho hL hd=>?_,fun n L listed F h ho=>by simp [ANH] at ho⟩;simp only[rI,jO] at ho;obtain rfl:n=0:=Nat.eq_of_beq_eq_true ho.1;exact⟨ready_nil hL ho.2,hd⟩
 | ones pre t ih =>
   refine⟨fun n L listed F h ho hL hd=>?_,fun n L listed F h ho=>by simp [ANH] at ho⟩;simp only[rI,jO] at ho;obtain⟨⟨h1,h2⟩,h3⟩:=ho;have hn:n-pre.length+pre.length=n:=Nat.sub_add_cancel (jB h1);have:=uS (E:=E) (Q:=fun s=>K s.1 s.2) (fuel:=n-pre.length) hlow pre L listed F h h2 hL hd (fun F' h' l' hL' hK=>ih.1 _ _ l' F' h' h3 hL' hK);rw[hn] at this;exact this
 | alt i t r iht ihr =>
   refine⟨fun n L listed F h ho hL hd=>?_,fun n L listed F h ho hL hd k hk hr=>?_⟩
   .simp only[rI,jO] at ho
    obtain⟨⟨⟨⟨⟨h1,h0⟩,h2⟩,hg⟩,h3⟩,h4⟩:=ho;obtain⟨n,rfl⟩:∃m,n=m+1:=⟨n-1,by have:=jB h1; omega⟩;obtain⟨d1,d2⟩:=hd;refine⟨fun hnil=>?_,fun k hk=>?_⟩
    .have:=xR hL h0
     rw[hnil] at this; cases this
    .rcases zQ.1 (AE0 hL h2 hk) with rfl|hm
     .exact sH iht hg h3 hL d1 hk
     .exact ihr.2 n L listed F h h4 hL d2 k hm hk
   .simp only[ANH,jO] at ho
    obtain⟨d1,d2⟩:=hd;rcases zQ.1 hk with rfl|hm
    .exact sH iht ho.1.1 ho.1.2 hL d1 hr
    .exact ihr.2 n L listed F h ho.2 hL d2 k hm hr
 | non =>
   refine⟨fun n L listed F h ho=>by simp [rI] at ho,fun n L listed F h ho hL hd k hk=>by cases hk⟩
end
theorem APC {E:Env}{H:Hint}{n:Nat}{l:List Oper}{F:Fr}{h:Hp}{Q:AEx->Fr->Hp->Prop}(t:PT)(hl:(X7 l.toArray.toList 0&&rI H.md l.toArray t l.toArray.size [])=true)
  (hd:DN E H.md l (Q .normal) t F h):awp E H (.region n l.toArray true) F h Q:=by
 simp only[jO] at hl;have hL0:LS l.toArray [] (Array.replicate l.toArray.size false):=⟨AZ,fun k hk=>by simp at hk; simp [hk],fun k hk=>by cases hk⟩;exact(AMG (E:=E) (K:=Q .normal) hl.1 t).1 _ _ _ F h hl.2 hL0 hd

def Gh.still (g:Gh)(w:World):Gh := { g with M:=fun k=>w.heap[k]? }
theorem SimH.still {E:Env}{g:Gh}{h:Hp}{w:World}(S:SimH E g h w):SimH E (g.still w) (h.map fun _=>.dead) w where
 os:=S.os
 tape:=S.tape
 output:=S.output
 fro _ _ hk:=hk
 lo g0 hk:=⟨fun k o q=>S.fro k o ((S.lo g0 hk).1 k o q),(S.lo g0 hk).2⟩
 live b k xs hb:=by rw[jV] at hb; cases hx:h[b]? <;> rw[hx] at hb<;>cases hb
 obj b x hb hi:=by
  rw[jV] at hb;cases hx:h[b]? <;> rw[hx] at hb<;>cases hb;cases hi
 inj b b' x x' l l' hb hn:=by
  rw[jV] at hb;cases hx:h[b]? <;> rw[hx] at hb<;>cases hb;exact absurd rfl hn
 fresh b hb:=S.fresh b (BG hb)
 glob n:=(S.glob n).monoC fun k c e fz hk=>S.fro k _ hk
def AD8:AV->Bool
 | .int _ _=>true
 | .bool _=>true
 | .str _=>true
 | _=>false
def AK8:AV->Bool
 | .tup vs=>vs.all AD8
 | v=>AD8 v
theorem fV {g g':Gh}(h:AD8 v=true)(r:Rep g v cv):Rep g' v cv:=by
 cases v<;>simp [AD8] at h
 all_goals (cases r with|fro r=>cases r; constructor; constructor)
theorem AOH {g g':Gh}(h:AK8 v=true)(r:Rep g v cv):Rep g' v cv:=by
 cases v with
 | tup vs =>
   simp only[AK8,zL] at h
   cases r with
   | fro r =>
     cases r with
     | tup _ cvs hs hv=>exact .tup _ _ hs fun i v cv h1 h2=>fV (g:=g) (h v (zZ h1)) (.fro (hv i v cv h1 h2))
   | tup _ cvs hs hv=>exact .tup _ _ hs fun i v cv h1 h2=>fV (h v (zZ h1)) (hv i v cv h1 h2)
 | _=>first|exact fV h r|(simp [AK8,AD8] at h)
inductive Thaw (h:Hp):AV->AV->Prop
 | same (v:AV):Thaw h v v
 | own (b k len:Nat) (xs:List (List AV)):h[b]?=some (.live k xs)->len=xs.length->(∀row∈xs,∀v∈row,v.frozen=true∧v.leaf=true)->Thaw h (.own b 0 len) (.sl .any k xs)
theorem Thaw.rep {E:Env}{g:Gh}{h:Hp}{w:World}(S:SimH E g h w){v':AV}(t:Thaw h v v')(r:Rep g v cv):Rep (g.still w) v' cv:=by
 have hle:g.leM (g.still w):=⟨fun k o hk=>S.fro k o hk,fun _ _ h=>h⟩
 cases t with
 | same=>exact Rep.monoC (fun k c e fz hk=>hle.1 _ _ hk) hle.2 r
 | own b k len xs hb hlen hfz =>
   obtain⟨l,c,e,p1,p2,p3,p4,p5,p6,p7,p8⟩:=S.live b k xs hb;have e1:((xs.drop 0).take len)=xs:=by subst hlen; simp
   have:=aY (φ:=id) (M':=(g.still w).M) S hb p1 p4 p4 (U:0+len<=xs.length) r (fun row hrow v hv=>by
    rw[e1] at hrow
    exact⟨(hfz row hrow v hv).2,fun cv hcv=>(AV.frozen_rep (hfz row hrow v hv).1 hcv).monoC fun k c e fz hk=>S.fro k _ hk⟩)
   rw[e1] at this;simpa using Rep.fro this
theorem PCall.thaw {E:Env}{f:FuncId}{args args':List AV}{h:Hp}{r:AV}(hc:PCall E f args' (h.map fun _=>.dead) r)(hl:args'.length=args.length)(ha:∀(i:Nat) (v':AV),args'[i]?=some v'->∃v,args[i]?=some v∧Thaw h v v')
  (hr:AK8 r=true):PCall E f args h r :=
 ⟨hc.1,fun g w cargs S hrep=>(hc.2 (g.still w) w cargs S.still ⟨hrep.1.trans hl.symm,fun i x v h1 h2=>by
   obtain⟨y,h3,t⟩:=ha i x h1
   exact t.rep S (hrep.2 i y v h3 h2)⟩).mono fun e w' q=>by
  rcases q with⟨v,cv,g',h',he,⟨rfl,rfl⟩,hle,S',hv⟩|⟨_,_,_,_,hx,_⟩
  .have keep:∀k o,w.heap[k]?=some o->w'.heap[k]?=some o:=fun k o hk=>S'.fro k o (hle.M k o hk)
   refine .inl ⟨v,cv,g,h,he,⟨rfl,rfl⟩,Gh.le.refl g,?_,AOH hr hv⟩
   exact⟨S'.os.trans hle.os,S'.tape.trans hle.tape,S'.output.trans hle.output,fun k o hk=>keep k o (S.fro k o hk),S.lo,
    fun b k xs hb=>let ⟨l,c,e,p1,p2,p3,p4,p⟩:=S.live b k xs hb; ⟨l,c,e,p1,p2,p3,keep _ _ p4,p⟩,
    fun b x hb hi=>let ⟨l,o,p1,p2,p3,p4,p5,p6⟩:=S.obj b x hb hi; ⟨l,o,p1,p2,p3,p4,keep _ _ p5,p6⟩,S.inj,S.fresh,S.glob⟩
  .exact hx.elim⟩
theorem vQ:type_of% (And.intro @AO (And.intro @AU (And.intro @BB (And.intro @BC (And.intro @BF (And.intro @BI (And.intro @BK (And.intro @BL (And.intro @BN (And.intro @BO (And.intro @BP (And.intro @BQ (And.intro @BR (And.intro @BV (And.intro @BX (And.intro @BZ (And.intro @CB (And.intro @CE (And.intro @CJ (And.intro @CO (And.intro @CQ (And.intro @CV (And.intro @D6 (And.intro @D9 (And.intro @DI (And.intro @DJ (And.intro @DK (And.intro @DU (And.intro @DW (And.intro @DX (And.intro @DY (And.intro @E8 (And.intro @ED (And.intro @EG (And.intro @EN (And.intro @EQ (And.intro @ES (And.intro @EU (And.intro @EW (And.intro @FO (And.intro @FU (And.intro @FY (And.intro @G6 (And.intro @G9 (And.intro @GH (And.intro @GN (And.intro @I5 (And.intro @I7 (And.intro @IC (And.intro @IE (And.intro @II (And.intro @IL (And.intro @IR (And.intro @JK (And.intro @JL (And.intro @JU (And.intro @JW (And.intro @KL (And.intro @KQ (And.intro @L9 (And.intro @MM (And.intro @MR (And.intro @Y (And.intro @Bool.not_false (And.intro @List.append_nil.{0} (And.intro @List.map_cons.{0,0} (And.intro @List.map_nil.{0,0} (And.intro @Nat.add_zero (And.intro @Nat.zero_add (@Option.getD_some.{0})))))))))))))))))))))))))))))))))))))))))))))))))))))))))))))))))))))):=And.intro @AO (And.intro @AU (And.intro @BB (And.intro @BC (And.intro @BF (And.intro @BI (And.intro @BK (And.intro @BL (And.intro @BN (And.intro @BO (And.intro @BP (And.intro @BQ (And.intro @BR (And.intro @BV (And.intro @BX (And.intro @BZ (And.intro @CB (And.intro @CE (And.intro @CJ (And.intro @CO (And.intro @CQ (And.intro @CV (And.intro @D6 (And.intro @D9 (And.intro @DI (And.intro @DJ (And.intro @DK (And.intro @DU (And.intro @DW (And.intro @DX (And.intro @DY (And.intro @E8 (And.intro @ED (And.intro @EG (And.intro @EN (And.intro @EQ (And.intro @ES (And.intro @EU (And.intro @EW (And.intro @FO (And.intro @FU (And.intro @FY (And.intro @G6 (And.intro @G9 (And.intro @GH (And.intro @GN (And.intro @I5 (And.intro @I7 (And.intro @IC (And.intro @IE (And.intro @II (And.intro @IL (And.intro @IR (And.intro @JK (And.intro @JL (And.intro @JU (And.intro @JW (And.intro @KL (And.intro @KQ (And.intro @L9 (And.intro @MM (And.intro @MR (And.intro @Y (And.intro @Bool.not_false (And.intro @List.append_nil.{0} (And.intro @List.map_cons.{0,0} (And.intro @List.map_nil.{0,0} (And.intro @Nat.add_zero (And.intro @Nat.zero_add (@Option.getD_some.{0})))))))))))))))))))))))))))))))))))))))))))))))))))))))))))))))))))))
end Go.Proofs.YtiihpnicbekebaaGreatDoor.Sm
