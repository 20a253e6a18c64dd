/- Part 3 of the proof (Sm11, So, Sm12, Sm13, Sv); no condition. -/
import Derived.RangeFuncLeaves
import Derived.Test.YtfpagfhhhlljjaaGreatDoorYD2
set_option linter.unusedVariables false
namespace Go.Proofs.YtfpagfhhhlljjaaGreatDoor.Sm
open Bool renaming false_eq_true→zA,false_or→qR,or_eq_true→qN,and_eq_true→jX
open List renaming getElem?_append_left→zO,getElem?_eq_none→qP,mem_cons→qJ,any_eq_true→qH,all_eq_true→zI,getElem?_set_ne→zW,mem_append→qI,mem_of_getElem?→qC,foldl_cons→wH,getD_eq_getElem?_getD→zQ,getElem?_take→wG,contains_cons→jR,getElem?_eq_getElem→jS,getElem?_map→jY
open Nat renaming lt_or_ge→zM,zero_add→jG,add_zero→jK

def hkB (own:Bool):Builtin→Nat
 | .len=>0
 | .max=>0
 | .min=>0
 | .append=>if own then 2 else 1
 | _=>2
def hk (own:Bool):Op→Nat
 | .move _=>0
 | .assign _=>0
 | .pick _ _ _=>0
 | .build _ _=>0
 | .binOp _ _ _ _ _=>0
 | .unOp _ _ _=>0
 | .convert _ _ _=>0
 | .makeFunc _ _ _=>0
 | .fieldAddr _ _ _=>0
 | .field _ _ _=>0
 | .index _ _ _=>0
 | .extract _ _=>0
 | .nilCheck _=>0
 | .load _ _=>1
 | .slice _ _ _ _ _=>1
 | .indexAddr _ _ _=>1
 | .buildSlice _ _ _=>if own then 3 else 0
 | .makeSlice _ _ _=>if own then 3 else 0
 | .call c=>match c.callee with
   | .builtin b=>hkB own b
   | _=>if own then 1 else 4
 | .alloc _=>3
 | _=>2
def DEx (E:Env)(own:Bool)(op:Op)(F:Fr)(h:Hp)(v:AV)(h':Hp):Prop :=
 match op with
 | .call { callee := .value f,args:=as,.. }=>match ev E F f with
   | .fn (.func fid) first caps=>h'=h∧PCall E fid (first++(as.toList.map (ev E F)++caps)) h v∧(own=true→∀ x,PCall E fid (first++(as.toList.map (ev E F)++caps)) (h++x) v)
   | _=>False
 | op=>aop E.P own h (ev E F) op=some (v,h')
theorem DEx.exec {E:Env}{own:Bool}{op:Op}{F:Fr}{h h':Hp}{v:AV}{K:AV→Hp→Prop}(hd:DEx E own op F h v h')(hk:K v h'):QL E own op F h K:=by
 unfold DEx at hd
 unfold QL
 split at hd
 ·split at hd
  ·rename_i hf
   simp only[hf]
   obtain⟨rfl,hc,_⟩:=hd
   exact hc.use hk
  ·exact hd.elim
 ·split
  ·simp_all
  ·rw[hd]; exact hk
theorem ABV {ρ ρ':Operand→AV} : ∀ {l:List (Nat × Operand)},(∀ x∈l.map (·.2),ρ x=ρ' x)→evp ρ l=evp ρ' l
 | [],_=>rfl
 | (i,x) :: r,h=>by
   simp only[evp]
   rw[h x (by simp),ABV (fun y hy=>h y (by simp at hy ⊢; exact .inr hy))]
theorem AUT {P:Program}{own:Bool}{h:Hp}{ρ ρ':Operand→AV}{op:Op}(he : ∀ x∈op.operands,ρ x=ρ' x):aop P own h ρ op=aop P own h ρ' op:=by
 cases op <;> simp only[Op.operands] at he <;> simp only[aop]
 case build t ps=>rw[ABV (ρ:=ρ) (ρ':=ρ') fun x hx=>he x (by simpa using hx)]
 case buildSlice t n ps=>rw[ABV (ρ:=ρ) (ρ':=ρ') fun x hx=>he x (by simpa using hx)]
 case makeFunc fn first captured =>
  rw[List.map_congr_left (l:=first.toList) fun x hx=>he x (by simp at hx; simp [hx]),List.map_congr_left (l:=captured.toList) fun x hx=>he x (by simp at hx; simp [hx])]
 case call c =>
  have h1:c.args.toList.map ρ=c.args.toList.map ρ':=List.map_congr_left fun x hx=>he x (by simp at hx; simp [Call.operands,hx])
  rw[h1]
 case slice t x lo hi mx=>cases lo <;> cases hi <;> cases mx <;> simp_all
 all_goals (first | rfl | (simp_all; done))
theorem AU5 {E:Env}{own:Bool}{op:Op}{F F':Fr}{h h':Hp}{v:AV}(he : ∀ x∈op.operands,ev E F x=ev E F' x)(hd:DEx E own op F h v h'):DEx E own op F' h v h':=by
 unfold DEx at *
 split at hd
 ·rename_i f as ats
  have h1:ev E F f=ev E F' f:=he f (by simp [Op.operands,Call.operands])
  have h2:as.toList.map (ev E F)=as.toList.map (ev E F'):=List.map_congr_left fun x hx=>he x (by simp at hx; simp [Op.operands,Call.operands,hx])
  rw[h1,h2] at hd
  exact hd
 ·rw[AUT he] at hd
  exact hd
theorem MZ {x:Option AV}{h h2 h':Hp}{v:AV}(e:ofO h x=some (v,h')):h'=h∧ofO h2 x=some (v,h2):=by
 obtain⟨h1,h3⟩:=JC e
 rw[h1]; exact⟨h3,rfl⟩
theorem A10 {P:Program}{own:Bool}{h h':Hp}{ρ:Operand→AV}{op:Op}{v:AV}(h0:hk own op=0)(ha:aop P own h ρ op=some (v,h')):h'=h∧∀ h2,aop P own h2 ρ op=some (v,h2):=by
 cases op <;> simp only[hk] at h0 <;> first | (cases h0; done) | skip
 case move=>simp only[aop] at *; cases ha; exact⟨rfl,fun _=>rfl⟩
 case assign=>simp only[aop] at *; cases ha; exact⟨rfl,fun _=>rfl⟩
 case pick c a b =>
  simp only[aop] at *
  split at ha
  ·rename_i e; cases ha; exact⟨rfl,fun _=>rfl⟩
  ·rename_i e; cases ha; exact⟨rfl,fun _=>rfl⟩
  ·cases ha
 case nilCheck x =>
  simp only[aop] at *
  split at ha
  ·rename_i e; cases ha; exact⟨rfl,fun _=>rfl⟩
  ·rename_i e; cases ha; exact⟨rfl,fun _=>rfl⟩
  ·cases ha
 case makeFunc=>simp only[aop] at *; cases ha; exact⟨rfl,fun _=>rfl⟩
 case extract t i =>
  simp only[aop] at *
  split at ha
  ·exact⟨(MZ (h2:=h) ha).1,fun h2=>(MZ ha).2⟩
  ·cases ha
 case buildSlice t n ps =>
  split at h0
  ·cases h0
  ·rename_i ho
   have ho':own=false:=by simpa using ho
   subst ho'
   simp only[aop,FM] at *
   split at ha
   case h_2=>cases ha
   split at ha
   case h_2=>cases ha
   split at ha
   case h_2=>cases ha
   split at ha
   case h_2=>cases ha
   split at ha
   case isFalse=>cases ha
   try simp only[zA,if_false] at ha
   split at ha
   case isFalse=>cases ha
   cases ha
   refine⟨rfl,fun h2 => ?_⟩
   simp_all
   assumption
 case makeSlice t l c =>
  split at h0
  ·cases h0
  ·rename_i ho
   have ho':own=false:=by simpa using ho
   subst ho'
   simp only[aop,JO] at *
   split at ha
   case h_2=>cases ha
   split at ha
   case h_2=>cases ha
   split at ha
   case h_2=>cases ha
   split at ha
   case h_2=>cases ha
   split at ha
   case isFalse=>cases ha
   try simp only[zA,if_false] at ha
   split at ha
   case isFalse=>cases ha
   cases ha
   refine⟨rfl,fun h2 => ?_⟩
   simp_all
 case call c =>
  split at h0
  case h_2=>split at h0 <;> cases h0
  rename_i b hb
  simp only[aop,hb] at *
  cases b <;> simp only[hkB] at h0 <;> first | (cases h0; done) | skip
  ·split at h0 <;> cases h0
  ·simp only[QM] at *
   split at ha
   ·exact⟨(MZ (h2:=h) ha).1,fun h2=>(MZ ha).2⟩
   ·cases ha
  ·simp only[QM] at *
   split at ha
   ·exact⟨(MZ (h2:=h) ha).1,fun h2=>(MZ ha).2⟩
   ·cases ha
  ·simp only[QM] at *
   split at ha
   ·exact⟨(MZ (h2:=h) ha).1,fun h2=>(MZ ha).2⟩
   ·cases ha
 all_goals
  simp only[aop] at *
  exact⟨(MZ (h2:=h) ha).1,fun h2=>(MZ ha).2⟩
theorem A1Z {P:Program}{own:Bool}{h h':Hp}{ρ:Operand→AV}{op:Op}{v:AV}(h0:hk own op=1)(ha:aop P own h ρ op=some (v,h')):h'=h:=by
 cases op <;> simp only[hk] at h0 <;> first | (cases h0; done) | skip
 case load=>simp only[aop] at ha; exact(JC ha).2
 case slice=>simp only[aop] at ha; exact(JC ha).2
 case indexAddr=>simp only[aop] at ha; exact(JC ha).2
 case buildSlice=>split at h0 <;> cases h0
 case makeSlice=>split at h0 <;> cases h0
 case call c =>
  split at h0
  ·rename_i b hb
   simp only[aop,hb] at ha
   cases b <;> simp only[hkB] at h0 <;> first | (cases h0; done) | skip
   split at h0
   ·cases h0
   ·rename_i ho
    have ho':own=false:=by simpa using ho
    subst ho'
    simp only[QM] at ha
    split at ha
    case h_2=>cases ha
    split at ha
    case isFalse=>cases ha
    unfold GM at ha
    have bumpF : ∀ (e:TypeId) (m:SM) (k:Nat) (xs ys:List (List AV)) (kill:Option Nat) (s:AV),bump P false h e m k xs ys kill s=some (v,h')→h'=h:=by
     intro e m k xs ys kill s hb
     unfold bump at hb
     split at hb
     ·cases hb; rfl
     ·split at hb
      ·split at hb
       ·split at hb
        ·simp at hb
        ·simp at hb; exact hb.2.symm
       ·cases hb
      ·cases hb
    split at ha
    case h_2=>cases ha
    split at ha
    case h_2=>cases ha
    split at ha
    case h_2=>cases ha
    split at ha
    ·exact bumpF _ _ _ _ _ _ _ ha
    ·split at ha
     ·exact bumpF _ _ _ _ _ _ _ ha
     ·cases ha
    ·split at ha
     ·split at ha
      ·exact bumpF _ _ _ _ _ _ _ ha
      ·cases ha
     ·cases ha
    ·cases ha
  ·rename_i hb
   simp only[aop] at ha
   first
    | (cases ha; done)
    | (split at ha
       ·rename_i b' hb'; exact absurd hb' (hb b')
       ·cases ha)
theorem ADE {h:Hp}{b:Nat}{x:ABlk}(y:ABlk)(hb:h[b]? = some x):(h++[y])[b]? = some x:=by
 rw[zO]
 ·exact hb
 ·rcases zM b h.length with h1 | h1
  ·exact h1
  ·rw[qP h1] at hb; cases hb
theorem AS5 {h:Hp}{a:AV}{r:List AV × Nat}(y:ABlk)(hr:rowAt h a=some r):rowAt (h++[y]) a=some r:=by
 unfold rowAt at *
 split at hr
 ·split at hr
  ·rename_i k xs hb
   simp only[ADE y hb]; exact hr
  ·cases hr
 ·exact hr
 ·cases hr
theorem ABZ {h:Hp}{a:AV}{r:Nat × List (List AV)}(y:ABlk)(hr:KE h a=some r):KE (h++[y]) a=some r:=by
 unfold KE at *
 split at hr
 ·exact hr
 ·split at hr
  ·rename_i hb
   simp only[ADE y hb]; exact hr
  ·cases hr
 ·cases hr
theorem AKW {P:Program}{h:Hp}{k:Nat}{t:TypeId}{x:AV}{ys:List (List AV)}(y:ABlk)(hr:VH P h k t x=some ys):VH P (h++[y]) k t x=some ys:=by
 unfold VH at *
 split at hr
 ·exact hr
 ·split at hr
  ·rename_i hc
   simp only[ABZ y hc]; exact hr
  ·cases hr
 ·cases hr
theorem AE2 {P:Program}{h:Hp}{t0 t1:TypeId}{s x:AV}(y:ABlk)(hr:SC P h t0 t1 s x=true):SC P (h++[y]) t0 t1 s x=true:=by
 unfold SC at *
 split at hr
 ·split at hr
  ·split at hr
   ·rename_i h1 h2
    simp only[AKW y h1,ABZ y h2]; exact hr
   ·cases hr
  ·cases hr
 ·cases hr
theorem AFW {P:Program}{h h':Hp}{e:TypeId}{m:SM}{k:Nat}{xs ys:List (List AV)}{kill:Option Nat}{s v:AV}(y:ABlk)(hr:bump P false h e m k xs ys kill s=some (v,h')):bump P false (h++[y]) e m k xs ys kill s=some (v,h++[y]):=by
 unfold bump at *
 split at hr
 ·rename_i h0; rw[if_pos h0]; cases hr; rfl
 ·rename_i h0
  rw[if_neg h0]
  split at hr
  ·split at hr
   ·rename_i hc
    rw[if_pos hc]
    cases kill <;> simp at hr ⊢
    exact hr.1
   ·cases hr
  ·cases hr
theorem ANR {P:Program}{h h':Hp}{t0 t1:TypeId}{s x v:AV}(y:ABlk)(hr:GM P false h t0 t1 s x=some (v,h')):GM P false (h++[y]) t0 t1 s x=some (v,h++[y]):=by
 unfold GM at *
 split at hr
 case h_2=>cases hr
 split at hr
 case h_2=>cases hr
 split at hr
 case h_2=>cases hr
 rename_i h3
 simp only[AKW y h3]
 split at hr
 ·exact AFW y hr
 ·split at hr
  ·rename_i hc; rw[if_pos hc]; exact AFW y hr
  ·cases hr
 ·split at hr
  ·rename_i h4
   simp only[ABZ y h4]
   split at hr
   ·rename_i hc; rw[if_pos hc]; exact AFW y hr
   ·cases hr
  ·cases hr
 ·cases hr
theorem AUZ {P:Program}{h:Hp}{t:TypeId}{a v:AV}(y:ABlk)(hr:D8 P h t a=some v):D8 P (h++[y]) t a=some v:=by
 unfold D8 at *
 split at hr
 ·rename_i h1; simp only[AS5 y h1]; exact hr
 ·cases hr
theorem AP4 {P:Program}{h:Hp}{t:TypeId}{x v:AV}{lo hi mx:Option AV}(y:ABlk)(hr:KL P h t x lo hi mx=some v):KL P (h++[y]) t x lo hi mx=some v:=by
 unfold KL at *
 split at hr
 ·exact hr
 ·split at hr
  ·exact hr
  ·split at hr
   ·split at hr
    ·rename_i hb; simp only[ADE y hb]; exact hr
    ·cases hr
   ·cases hr
  ·cases hr
 ·cases hr
theorem AGB {P:Program}{h:Hp}{t:TypeId}{a ix v:AV}(y:ABlk)(hr:G7 P h t a ix=some v):G7 P (h++[y]) t a ix=some v:=by
 unfold G7 at *
 split at hr
 ·split at hr
  ·split at hr
   ·exact hr
   ·split at hr
    ·rename_i hb; simp only[ADE y hb]; exact hr
    ·cases hr
   ·cases hr
  ·exact hr
  ·cases hr
 ·cases hr
theorem AI0 {h h':Hp}{x x':Option AV}{v:AV}(y:ABlk)(hx : ∀ v,x=some v→x'=some v)(hr:ofO h x=some (v,h')):ofO (h++[y]) x'=some (v,h++[y]):=by
 obtain⟨h1,h2⟩:=JC hr
 rw[hx v h1]; rfl
theorem ANL {P:Program}{own:Bool}{h h':Hp}{ρ:Operand→AV}{op:Op}{v:AV}(y:ABlk)(h0:hk own op=1)(ha:aop P own h ρ op=some (v,h')):aop P own (h++[y]) ρ op=some (v,h++[y]):=by
 cases op <;> simp only[hk] at h0 <;> first | (cases h0; done) | skip
 case load=>simp only[aop] at *; exact AI0 y (fun _=>AUZ y) ha
 case slice=>simp only[aop] at *; exact AI0 y (fun _=>AP4 y) ha
 case indexAddr=>simp only[aop] at *; exact AI0 y (fun _=>AGB y) ha
 case buildSlice=>split at h0 <;> cases h0
 case makeSlice=>split at h0 <;> cases h0
 case call c =>
  split at h0
  ·rename_i b hb
   simp only[aop,hb] at *
   cases b <;> simp only[hkB] at h0 <;> first | (cases h0; done) | skip
   split at h0
   ·cases h0
   ·rename_i ho
    have ho':own=false:=by simpa using ho
    subst ho'
    simp only[QM] at *
    split at ha
    case h_2=>cases ha
    split at ha
    case isFalse=>cases ha
    rename_i hfz
    simp only[qR] at hfz
    simp only[AE2 y hfz,Bool.or_true,if_true]
    exact ANR y ha
  ·rename_i hb
   simp only[aop] at ha
   first
    | (cases ha; done)
    | (split at ha
       ·rename_i b' hb'; exact absurd hb' (hb b')
       ·cases ha)
theorem A2G {E:Env}{own:Bool}{op:Op}{F:Fr}{h h':Hp}{v:AV}(y:ABlk)(h0:hk own op=1)(hd:DEx E own op F h v h'):DEx E own op F (h++[y]) v (h++[y]):=by
 unfold DEx at *
 split at hd
 ·split at hd
  ·obtain⟨_,_,h2⟩:=hd
   have ho:own=true:=by
    simp only[hk] at h0
    cases own
    ·simp at h0
    ·rfl
   refine⟨rfl,h2 ho [y],fun _ x => ?_⟩
   rw[List.append_assoc]; exact h2 ho _
  ·exact hd.elim
 ·exact ANL y h0 hd
theorem AU6 {E:Env}{own:Bool}{op:Op}{F:Fr}{h h':Hp}{v:AV}(h0:hk own op=3)(hd:DEx E own op F h v h') : ∃ y,h'=h++[y]:=by
 cases op <;> simp only[hk] at h0 <;> first | (cases h0; done) | skip
 case alloc t =>
  simp only[DEx,aop,KN,O7] at hd
  split at hd
  ·split at hd
   ·cases hd; exact⟨_,rfl⟩
   ·cases hd
  ·cases hd
 case buildSlice =>
  split at h0
  ·rename_i ho
   subst ho
   simp only[DEx,aop,FM] at hd
   repeat' split at hd
   all_goals first | (cases hd; done) | (cases hd; exact⟨_,rfl⟩) | simp_all
  ·cases h0
 case makeSlice =>
  split at h0
  ·rename_i ho
   subst ho
   simp only[DEx,aop,JO] at hd
   repeat' split at hd
   all_goals first | (cases hd; done) | (cases hd; exact⟨_,rfl⟩) | simp_all
  ·cases h0
 case call c =>
  split at h0
  ·rename_i b hb
   cases b <;> simp only[hkB] at h0 <;> first | (cases h0; done) | (split at h0 <;> cases h0)
  ·split at h0 <;> cases h0
theorem A2F {E:Env}{own:Bool}{op:Op}{F:Fr}{h h':Hp}{v:AV}(h0:hk own op=0)(hd:DEx E own op F h v h'):h'=h∧∀ h2,DEx E own op F h2 v h2:=by
 unfold DEx at *
 split at hd
 ·simp only[hk] at h0
  split at h0 <;> cases h0
 ·exact A10 h0 hd
theorem A2E {E:Env}{own:Bool}{op:Op}{F:Fr}{h h':Hp}{v:AV}(h0:hk own op=1∨hk own op=4)(hd:DEx E own op F h v h'):h'=h:=by
 unfold DEx at *
 split at hd
 ·split at hd
  ·exact hd.1
  ·exact hd.elim
 ·rename_i hno
  rcases h0 with h0 | h0
  ·exact A1Z h0 hd
  ·exfalso
   cases op <;> simp only[hk] at h0 <;> first | (cases h0; done) | skip
   case buildSlice=>split at h0 <;> cases h0
   case makeSlice=>split at h0 <;> cases h0
   case call c =>
    split at h0
    ·rename_i b hb
     cases b <;> simp only[hkB] at h0 <;> first | (cases h0; done) | (split at h0 <;> cases h0)
    ·rename_i hb
     simp only[aop] at hd
     first
      | (cases hd; done)
      | (split at hd
         ·rename_i b' hb'; exact absurd hb' (hb b')
         ·cases hd)
def ECall (E:Env)(op:Op)(F:Fr)(h:Hp)(v:AV)(h':Hp):Prop :=
 match op with
 | .call { callee := .value f,args:=as,.. }=>match ev E F f with
   | .fn (.func fid) first caps=>ACalls E fid (first++(as.toList.map (ev E F)++caps)) h fun v1 h1=>v1=v∧h1=h'
   | _=>False
 | _=>False
theorem ECall.exec {E:Env}{own:Bool}{op:Op}{F:Fr}{h h':Hp}{v:AV}{K:AV→Hp→Prop}(hd:ECall E op F h v h')(hk:K v h'):QL E own op F h K:=by
 unfold ECall at hd
 unfold QL
 split at hd
 ·split at hd
  ·rename_i hf
   simp only[hf]
   exact hd.mono fun v1 h1 ⟨e1,e2⟩=>by rw[e1,e2]; exact hk
  ·exact hd.elim
 ·exact hd.elim
theorem ANW {E:Env}{op:Op}{F F':Fr}{h h':Hp}{v:AV}(he : ∀ x∈op.operands,ev E F x=ev E F' x)(hd:ECall E op F h v h'):ECall E op F' h v h':=by
 unfold ECall at *
 split at hd
 ·rename_i f as ats
  have h1:ev E F f=ev E F' f:=he f (by simp [Op.operands,Call.operands])
  have h2:as.toList.map (ev E F)=as.toList.map (ev E F'):=List.map_congr_left fun x hx=>he x (by simp at hx; simp [Op.operands,Call.operands,hx])
  rw[h1,h2] at hd
  exact hd
 ·exact hd.elim
def DExO (E:Env)(md:Nat→Bool)(o:Oper)(F:Fr)(h:Hp)(v:AV)(h':Hp):Prop :=
 match md (o.dst.getD 0+1000000) with
 | false=>DEx E (md (o.dst.getD 0)) o.op F h v h'
 | true=>ECall E o.op F h v h'
def hkO (md:Nat→Bool)(o:Oper):Nat :=
 match md (o.dst.getD 0+1000000) with
 | false=>hk (md (o.dst.getD 0)) o.op
 | true=>2
theorem DExO.exec {E:Env}{md:Nat→Bool}{o:Oper}{F:Fr}{h h':Hp}{v:AV}{K:AV→Hp→Prop}(hd:DExO E md o F h v h')(hk:K v h'):QL E (md (o.dst.getD 0)) o.op F h K:=by
 unfold DExO at hd
 split at hd
 ·exact hd.exec hk
 ·exact hd.exec hk
theorem AGG {E:Env}{md:Nat→Bool}{o:Oper}{F F':Fr}{h h':Hp}{v:AV}(he : ∀ x∈o.op.operands,ev E F x=ev E F' x)(hd:DExO E md o F h v h'):DExO E md o F' h v h':=by
 unfold DExO at *
 split at hd
 ·exact AU5 he hd
 ·exact ANW he hd
theorem ANX {E:Env}{md:Nat→Bool}{o:Oper}{F:Fr}{h h':Hp}{v:AV}(h0:hkO md o=0)(hd:DExO E md o F h v h'):h'=h∧∀ h2,DExO E md o F h2 v h2:=by
 unfold DExO at *
 unfold hkO at h0
 split at hd
 ·rename_i he; simp only[he] at h0 ⊢; exact A2F h0 hd
 ·rename_i he; simp only[he] at h0; cases h0
theorem AGF {E:Env}{md:Nat→Bool}{o:Oper}{F:Fr}{h h':Hp}{v:AV}(h0:hkO md o=1∨hkO md o=4)(hd:DExO E md o F h v h'):h'=h:=by
 unfold DExO at hd
 unfold hkO at h0
 split at hd
 ·rename_i he; simp only[he] at h0; exact A2E h0 hd
 ·rename_i he; simp only[he] at h0; rcases h0 with h0 | h0 <;> cases h0
theorem AY9 {E:Env}{md:Nat→Bool}{o:Oper}{F:Fr}{h h':Hp}{v:AV}(y:ABlk)(h0:hkO md o=1)(hd:DExO E md o F h v h'):DExO E md o F (h++[y]) v (h++[y]):=by
 unfold DExO at *
 unfold hkO at h0
 split at hd
 ·rename_i he; simp only[he] at h0 ⊢; exact A2G y h0 hd
 ·rename_i he; simp only[he] at h0; cases h0
theorem AQE {E:Env}{md:Nat→Bool}{o:Oper}{F:Fr}{h h':Hp}{v:AV}(h0:hkO md o=3)(hd:DExO E md o F h v h') : ∃ y,h'=h++[y]:=by
 unfold DExO at hd
 unfold hkO at h0
 split at hd
 ·rename_i he; simp only[he] at h0; exact AU6 h0 hd
 ·rename_i he; simp only[he] at h0; cases h0
def AA5 (E:Env)(md:Nat→Bool)(ds:List (Option Tmp))(o:Oper)(s s':Fr × Hp):Prop :=
 (O9 ds s.1 o.guard=some true∧∃ v h',DExO E md o s.1 s.2 v h'∧s'=(EW s.1 o.dst v,h')) ∨
 (O9 ds s.1 o.guard=some false∧s'=(EW s.1 o.dst JA,s.2))
def WF:AV→AV→Prop
 | .ptr b _ _,.ptr b' _ _=>b≠b'
 | _,_=>True
def PQ (F:Fr):List (Nat × Nat)→Prop
 | []=>True
 | (t,u) :: r=>WF (F t) (F u)∧PQ F r
def YV (sep:List (Nat × Nat))(t u:Nat):Bool:=sep.any fun p=>(p.1 == t && p.2 == u) || (p.1 == u && p.2 == t)
def faB (sep:List (Nat × Nat))(op:Op)(u:Nat):Bool:=match op with
 | .fieldAddr _ (.tmp t) _=>YV sep t u
 | _=>false
def X7 (sep:List (Nat × Nat))(ops:List Oper):Bool:=ops.all fun o=>match o.dst with
 | none=>true
 | some d=>sep.all fun p=>p.1 != p.2 && (p.1 != d || faB sep o.op p.2) && (p.2 != d || faB sep o.op p.1)
theorem XH {a b:AV}(h:WF a b):WF b a:=by
 cases a <;> cases b <;> simp only[WF] at * <;> exact Ne.symm h
theorem AGC {F:Fr} : ∀ {sep:List (Nat × Nat)},PQ F sep↔∀ p∈sep,WF (F p.1) (F p.2)
 | []=>⟨fun _ _ h=>by (cases h),fun _=>trivial⟩
 | (a,b) :: r=>by
   unfold PQ
   rw[AGC]
   simp only[qJ,forall_eq_or_imp]
theorem AA2 {F:Fr}{t u:Nat}{sep:List (Nat × Nat)}(hs:PQ F sep)(h:YV sep t u=true):WF (F t) (F u):=by
 unfold YV at h
 rw[qH] at h
 obtain⟨p,hp,hq⟩:=h
 have:=AGC.1 hs p hp
 simp only[qN,jX,beq_iff_eq] at hq
 rcases hq with⟨h1,h2⟩ | ⟨h1,h2⟩
 ·rw[h1,h2] at this; exact this
 ·rw[h1,h2] at this; exact XH this
theorem AGV {P:Program}{t:TypeId}{x v y:AV}{f:Nat}(hv:D6 P t x f=some v)(hs:WF x y):WF v y:=by
 unfold D6 at hv
 split at hv
 case h_2=>cases hv
 split at hv
 case h_2=>cases hv
 split at hv
 case h_2=>cases hv
 split at hv
 ·cases hv
  cases y <;> simp only[WF] at * <;> exact hs
 ·cases hv; exact trivial
 ·cases hv
theorem AQV {F:Fr}{sep:List (Nat × Nat)}{d:Tmp}{v:AV}(hs:PQ F sep)(hv : ∀ p∈sep,p.1≠p.2∧(p.1=d→WF v (F p.2))∧(p.2=d→WF (F p.1) v)):PQ (upd F d v) sep:=by
 rw[AGC] at *
 intro p hp
 obtain⟨h0,h1,h2⟩:=hv p hp
 have h3:=hs p hp
 simp only[upd]
 by_cases e1:p.1=d
 ·have e2:p.2≠d:=fun e=>h0 (e1.trans e.symm)
  rw[if_pos e1,if_neg e2]; exact h1 e1
 ·rw[if_neg e1]
  by_cases e2:p.2=d
  ·rw[if_pos e2]; exact h2 e2
  ·rw[if_neg e2]; exact h3
theorem AD1 (y:AV):WF JA y:=by unfold JA; trivial
theorem AQA {sep:List (Nat × Nat)}{ops:List Oper}{F:Fr}{o:Oper}(hok:X7 sep ops=true)(ho:o∈ops)(hs:PQ F sep):PQ (EW F o.dst JA) sep:=by
 have:=zI.1 hok o ho
 cases hd:o.dst with
 | none=>exact hs
 | some d =>
   rw[hd] at this
   simp only[zI,jX,bne_iff_ne] at this
   exact AQV hs fun p hp=>⟨(this p hp).1.1,fun _=>AD1 _,fun _=>XH (AD1 _)⟩
def ASZ (sep:List (Nat × Nat))(x y:Op):Bool:=match x,y with
 | .load _ (.tmp t),.store _ (.tmp u) _=>YV sep t u
 | .store _ (.tmp t) _,.load _ (.tmp u)=>YV sep t u
 | .store _ (.tmp t) _,.store _ (.tmp u) _=>YV sep t u
 | .indexAddr _ _ _,.store _ _ _=>true
 | .store _ _ _,.indexAddr _ _ _=>true
 | _,_=>false
def VR (md:Nat→Bool)(sep:List (Nat × Nat))(x y:Oper):Bool :=
 let a:=hkO md x
 let b:=hkO md y
 a == 0 || b == 0 || ((a == 1 || a == 4) && (b == 1 || b == 4)) || (a == 1 && b == 3) || ASZ sep x.op y.op
theorem AIL {P:Program}{h:Hp}{t:TypeId}{a:AV}{b' i' j':Nat}{blk:ABlk}(hne:WF a (.ptr b' i' j')):D8 P (h.set b' blk) t a=D8 P h t a:=by
 have:rowAt (h.set b' blk) a=rowAt h a:=by
  cases a <;> simp only[rowAt]
  rw[zW (Ne.symm hne)]
 unfold D8
 rw[this]
theorem SX {P:Program}{h h':Hp}{t:TypeId}{a v:AV}(hs:FP P h t a v=some h') : ∃ b i j,a = .ptr b i j:=by
 unfold FP at hs
 split at hs
 ·exact⟨_,_,_,rfl⟩
 ·cases hs
theorem TZ {P:Program}{h h':Hp}{t:TypeId}{b i j:Nat}{v:AV}(hs:FP P h t (.ptr b i j) v=some h') : ∃ blk,h'=h.set b blk∧∀ h2:Hp,h2[b]? = h[b]?→FP P h2 t (.ptr b i j) v=some (h2.set b blk):=by
 simp only[FP] at hs
 split at hs
 case h_2=>cases hs
 rename_i k xs hb
 split at hs
 case h_2=>cases hs
 rename_i row hr
 split at hs
 case h_2=>cases hs
 rename_i cs hc
 split at hs
 case isFalse=>cases hs
 rename_i hif
 cases hs
 refine⟨_,rfl,fun h2 he => ?_⟩
 simp only[FP,he,hb,hr,hc]
 rw[if_pos hif]
theorem AJI {h:Hp}{b:Nat}{x y:ABlk}(hb:h[b]? = some x):(h.set b y)[b]? = some y:=by
 have:=CJ hb
 rw[List.getElem?_set,if_pos rfl,if_pos this]
theorem U6 {P:Program}{h h':Hp}{t t':TypeId}{a ix b v:AV}(hs:FP P h t' b v=some h'):G7 P h' t a ix=G7 P h t a ix:=by
 obtain⟨b1,i1,j1,rfl⟩:=SX hs
 simp only[FP] at hs
 split at hs
 case h_2=>cases hs
 rename_i k xs hb
 split at hs
 case h_2=>cases hs
 split at hs
 case h_2=>cases hs
 split at hs
 case isFalse=>cases hs
 cases hs
 unfold G7
 cases ix <;> try rfl
 cases P.underlying t with
 | none=>rfl
 | some d =>
   cases d <;> try rfl
   cases a <;> try rfl
   rename_i b0 off len
   by_cases e:b0=b1
   ·subst e
    simp only[AJI hb,hb]
   ·simp only[zW (Ne.symm e)]
theorem AQ4 {E:Env}{sep:List (Nat × Nat)}{x y:Op}{F:Fr}{h h1:Hp}{v:AV}(hb:ASZ sep x y=true) : ¬ ECall E x F h v h1∧¬ ECall E y F h v h1:=by
 unfold ASZ at hb
 split at hb
 case h_6=>cases hb
 all_goals exact⟨fun h=>h,fun h=>h⟩
theorem A2D {E:Env}{o1 o2:Bool}{sep:List (Nat × Nat)}{x y:Op}{F:Fr}{h h1 h2:Hp}{v u:AV}(hs:PQ F sep)(hb:ASZ sep x y=true)(hx:DEx E o1 x F h v h1)(hy:DEx E o2 y F h1 u h2) :
  ∃ h',DEx E o2 y F h u h'∧DEx E o1 x F h' v h2:=by
 unfold ASZ at hb
 split at hb
 case h_6=>cases hb
 ·rename_i t a t' c z
  have hsep:=AA2 hs hb
  simp only[DEx,aop,ev] at hx hy ⊢
  obtain⟨p1,rfl⟩:=JC hx
  obtain⟨q1,rfl⟩:=RZ hy
  obtain⟨b2,i2,j2,e2⟩:=SX q1
  rw[e2] at hsep
  simp only[e2] at q1 ⊢
  obtain⟨blk,rfl,_⟩:=TZ q1
  exact⟨_,by rw[q1]; rfl,by rw[AIL hsep,p1]; rfl⟩
 ·rename_i t a z t' c
  have hsep:=AA2 hs hb
  simp only[DEx,aop,ev] at hx hy ⊢
  obtain⟨p1,rfl⟩:=RZ hx
  obtain⟨q1,rfl⟩:=JC hy
  obtain⟨b1,i1,j1,e1⟩:=SX p1
  rw[e1] at hsep
  simp only[e1] at p1 ⊢
  obtain⟨blk,rfl,_⟩:=TZ p1
  rw[AIL (XH hsep)] at q1
  exact⟨_,by rw[q1]; rfl,by rw[p1]; rfl⟩
 ·rename_i t a z t' c z'
  have hsep:=AA2 hs hb
  simp only[DEx,aop,ev] at hx hy ⊢
  obtain⟨p1,rfl⟩:=RZ hx
  obtain⟨q1,rfl⟩:=RZ hy
  obtain⟨b1,i1,j1,e1⟩:=SX p1
  obtain⟨b2,i2,j2,e2⟩:=SX q1
  rw[e1,e2] at hsep
  have hne:b1≠b2:=hsep
  simp only[e1,e2] at p1 q1 ⊢
  obtain⟨blk,rfl,p2⟩:=TZ p1
  obtain⟨blk',rfl,q2⟩:=TZ q1
  have g1:h[b2]? = (h.set b1 blk)[b2]? := by rw[zW hne]
  have g2:(h.set b2 blk')[b1]? = h[b1]? := by rw[zW (Ne.symm hne)]
  refine⟨h.set b2 blk',by rw[q2 h g1]; rfl,?_⟩
  rw[p2 _ g2,List.set_comm _ _ hne]
  rfl
 ·simp only[DEx,aop] at hx hy ⊢
  obtain⟨p1,rfl⟩:=JC hx
  obtain⟨q1,rfl⟩:=RZ hy
  exact⟨_,by rw[q1]; rfl,by rw[U6 q1,p1]; rfl⟩
 ·simp only[DEx,aop] at hx hy ⊢
  obtain⟨p1,rfl⟩:=RZ hx
  obtain⟨q1,rfl⟩:=JC hy
  rw[U6 p1] at q1
  exact⟨_,by rw[q1]; rfl,by rw[p1]; rfl⟩
theorem O5 (F:Fr){x y:Option Tmp}(v u:AV)(h : ∀ d,x=some d→y≠some d):EW (EW F x v) y u=EW (EW F y u) x v:=by
 cases x with
 | none=>rfl
 | some d =>
   cases y with
   | none=>rfl
   | some e =>
     have hne:e≠d:=fun he=>h d rfl (he ▸ rfl)
     funext i
     simp only[EW,upd]
     by_cases h1:i=e
     ·subst h1; simp [hne]
     ·simp [h1]
theorem AXO {E:Env}{F:Fr}{dst:Option Tmp}{v:AV}{x:Operand}(h : ∀ d,dst=some d→x≠.tmp d):ev E (EW F dst v) x=ev E F x:=by
 cases dst with
 | none=>rfl
 | some d =>
   cases x with
   | tmp t =>
     have:t≠d:=fun e=>h d rfl (e ▸ rfl)
     simp [ev,EW,upd,this]
   | _=>rfl
theorem AL3 {ops:Array Oper}{o:Oper}{d:Tmp}(h:d ∉ o.looksAt ops) : ∀ x∈o.op.operands,x≠.tmp d:=by
 intro x hx he
 subst he
 refine h (qI.2 (.inl ?_))
 rw[List.mem_filterMap]
 exact⟨.tmp d,by simpa using hx,rfl⟩
theorem AKJ {ops:Array Oper}{o:Oper}{F:Fr}{dst:Option Tmp}{v:AV}(h : ∀ d,dst=some d→d ∉ o.looksAt ops) :
  O9 (ops.toList.map (·.dst)) (EW F dst v) o.guard=O9 (ops.toList.map (·.dst)) F o.guard:=by
 unfold O9
 split
 ·rfl
 ·rename_i j want hg
  rw[AJJ]
  have hops:(ops.toList[j]?).bind (·.dst)=(ops[j]?).bind (·.dst):=by simp
  rw[hops]
  cases hd:(ops[j]?).bind (·.dst) with
  | none=>rfl
  | some d =>
    simp only
    have:EW F dst v d=F d:=by
     cases dst with
     | none=>rfl
     | some e =>
       have hne:d≠e:=by
        intro he
        subst he
        refine h d rfl (qI.2 (.inr ?_))
        rw[hg]
        simp [hd]
       simp [EW,upd,hne]
    rw[this]
theorem AY8 {E:Env}{md:Nat→Bool}{sep:List (Nat × Nat)}{x y:Oper}{F:Fr}{h h1 h2:Hp}{v u:AV}(hs:PQ F sep)(hb:ASZ sep x.op y.op=true)(hx:DExO E md x F h v h1)(hy:DExO E md y F h1 u h2) :
  ∃ h',DExO E md y F h u h'∧DExO E md x F h' v h2:=by
 unfold DExO at *
 split at hx
 case h_2=>exact absurd hx (AQ4 hb).1
 rename_i e1
 split at hy
 case h_2=>exact absurd hy (AQ4 hb).2
 rename_i e2
 exact A2D hs hb hx hy
theorem AQF {E:Env}{md:Nat→Bool}{sep:List (Nat × Nat)}{ops:Array Oper}{x y:Oper}{s s1 s2:Fr × Hp}(hsep:PQ s.1 sep)(hap:x.apart ops y=true)(hco:VR md sep x y=true)
  (hx:AA5 E md (ops.toList.map (·.dst)) x s s1) (hy:AA5 E md (ops.toList.map (·.dst)) y s1 s2) : ∃ t,AA5 E md (ops.toList.map (·.dst)) y s t∧AA5 E md (ops.toList.map (·.dst)) x t s2:=by
 obtain⟨p1,p2,p3⟩:=Oper.apart_spec hap
 obtain⟨F,h⟩:=s
 have exY : ∀ {v u:AV} {h1 h2:Hp},DExO E md y (EW F x.dst v) h1 u h2→DExO E md y F h1 u h2:=fun hd =>
  AGG (fun z hz=>AXO fun d hdd he=>AL3 (p1 d hdd) z hz he) hd
 have exX : ∀ {v u:AV} {h1 h2:Hp},DExO E md x F h1 u h2→DExO E md x (EW F y.dst v) h1 u h2:=fun hd =>
  AGG (fun z hz=>(AXO fun d hdd he=>AL3 (p3 d hdd) z hz he).symm) hd
 have wY : ∀ v,O9 (ops.toList.map (·.dst)) (EW F x.dst v) y.guard=O9 (ops.toList.map (·.dst)) F y.guard:=fun v=>AKJ p1
 have wX : ∀ v,O9 (ops.toList.map (·.dst)) (EW F y.dst v) x.guard=O9 (ops.toList.map (·.dst)) F x.guard:=fun v=>AKJ p3
 rcases hx with⟨a1,v,h1,a2,rfl⟩ | ⟨a1,rfl⟩ <;> rcases hy with⟨b1,u,h2,b2,rfl⟩ | ⟨b1,rfl⟩
 ·simp only at *
  rw[wY] at b1
  have b2':=exY b2
  simp only[VR,qN,jX,beq_iff_eq] at hco
  rcases hco with (((hc | hc) | ⟨hc1,hc2⟩) | ⟨hc1,hc2⟩) | hc
  ·obtain⟨rfl,hz⟩:=ANX hc a2
   exact⟨(EW F y.dst u,h2),.inl ⟨b1,u,h2,b2',rfl⟩,.inl ⟨by rw[wX]; exact a1,v,h2,exX (hz h2),by rw[O5 F v u p2]⟩⟩
  ·obtain⟨rfl,hz⟩:=ANX hc b2'
   exact⟨(EW F y.dst u,h),.inl ⟨b1,u,h,hz h,rfl⟩,.inl ⟨by rw[wX]; exact a1,v,_,exX a2,by rw[O5 F v u p2]⟩⟩
  ·have e1:=AGF hc1 a2
   subst e1
   have e2:=AGF hc2 b2'
   subst e2
   exact⟨(EW F y.dst u,_),.inl ⟨b1,u,_,b2',rfl⟩,.inl ⟨by rw[wX]; exact a1,v,_,exX a2,by rw[O5 F v u p2]⟩⟩
  ·have e1:=AGF (.inl hc1) a2
   subst e1
   obtain⟨blk,rfl⟩:=AQE hc2 b2'
   exact⟨(EW F y.dst u,_),.inl ⟨b1,u,_,b2',rfl⟩,.inl ⟨by rw[wX]; exact a1,v,_,exX (AY9 blk hc1 a2),by rw[O5 F v u p2]⟩⟩
  ·obtain⟨h3,r1,r2⟩:=AY8 hsep hc a2 b2'
   exact⟨(EW F y.dst u,h3),.inl ⟨b1,u,h3,r1,rfl⟩,.inl ⟨by rw[wX]; exact a1,v,_,exX r2,by rw[O5 F v u p2]⟩⟩
 ·simp only at *
  rw[wY] at b1
  exact⟨(EW F y.dst JA,h),.inr ⟨b1,rfl⟩,.inl ⟨by rw[wX]; exact a1,v,h1,exX a2,by rw[O5 F v JA p2]⟩⟩
 ·simp only at *
  rw[wY] at b1
  exact⟨(EW F y.dst u,h2),.inl ⟨b1,u,h2,exY b2,rfl⟩,.inr ⟨by rw[wX]; exact a1,by rw[O5 F JA u p2]⟩⟩
 ·simp only at *
  rw[wY] at b1
  exact⟨(EW F y.dst JA,h),.inr ⟨b1,rfl⟩,.inr ⟨by rw[wX]; exact a1,by rw[O5 F JA JA p2]⟩⟩
def ZA (E:Env)(md:Nat→Bool)(ops:Array Oper)(Q:Fr × Hp→Prop):Nat→Array Bool→Fr × Hp→Prop
 | 0,listed,s=>Region.ready .any ops listed = []∧Q s
 | fuel+1,listed,s=>(Region.ready .any ops listed = []→Q s) ∧
   ∀ i∈Region.ready .any ops listed,∃ o s',ops[i]? = some o∧AA5 E md (ops.toList.map (·.dst)) o s s'∧ZA E md ops Q fuel (listed.setIfInBounds i true) s'
theorem AXM {sep:List (Nat × Nat)}{op:Op}{u:Nat}(h:faB sep op u=true) : ∃ ty t f,op = .fieldAddr ty (.tmp t) f∧YV sep t u=true:=by
 unfold faB at h
 split at h
 ·exact⟨_,_,_,rfl,h⟩
 ·cases h
theorem AXL {E:Env}{md:Nat→Bool}{sep:List (Nat × Nat)}{o:Oper}{F:Fr}{h h':Hp}{v:AV}{u:Nat}(hs:PQ F sep)(hf:faB sep o.op u=true)(hd:DExO E md o F h v h'):WF v (F u):=by
 obtain⟨ty,t,f,e,hh⟩:=AXM hf
 have h1:=AA2 hs hh
 unfold DExO at hd
 rw[e] at hd
 split at hd
 ·simp only[DEx,aop,ev] at hd
  exact AGV (JC hd).1 h1
 ·exact hd.elim
theorem U7 {E:Env}{md:Nat→Bool}{sep:List (Nat × Nat)}{ops:List Oper}{ds:List (Option Tmp)}{o:Oper}{s s':Fr × Hp}(hok:X7 sep ops=true)(ho:o∈ops)(hs:PQ s.1 sep)(h:AA5 E md ds o s s'):PQ s'.1 sep:=by
 rcases h with⟨_,v,h',hd,rfl⟩ | ⟨_,rfl⟩
 ·have:=zI.1 hok o ho
  cases hdst:o.dst with
  | none=>exact hs
  | some d =>
    rw[hdst] at this
    simp only[zI,jX,qN,bne_iff_ne] at this
    refine AQV hs fun p hp=>⟨(this p hp).1.1,fun e => ?_,fun e => ?_⟩
    ·rcases (this p hp).1.2 with h1 | h1
     ·exact absurd e h1
     ·exact AXL hs h1 hd
    ·rcases (this p hp).2 with h1 | h1
     ·exact absurd e h1
     ·exact XH (AXL hs h1 hd)
 ·exact AQA hok ho hs
theorem Z7 {ops:Array Oper}{i:Nat}{o:Oper}(h:ops[i]? = some o):o∈ops.toList:=by
 have:ops.toList[i]? = some o:=by simpa using h
 exact qC this
theorem AF6 {E:Env}{md:Nat→Bool}{sep:List (Nat × Nat)}{ops:Array Oper}{Q:Fr × Hp→Prop}{i:Nat}{oi:Oper}(hok:X7 sep ops.toList=true)(hi:ops[i]? = some oi)(r:Nat→Bool)
  (hsup : ∀ j oj,ops[j]? = some oj→r j=true→j≠i→∃ e∈oj.after,Region.binds .any e=true∧r e.on=true) : ∀ (fuel:Nat) (listed:Array Bool) (s s1:Fr × Hp),
  (∀ j,r j=true→listed.getD j true=false) →
  (∀ j oj,ops[j]? = some oj→j≠i→listed.getD j true=false→r j=false→oi.apart ops oj=true∧VR md sep oi oj=true)→PQ s.1 sep →
  i∈Region.ready .any ops listed→AA5 E md (ops.toList.map (·.dst)) oi s s1→ZA E md ops Q fuel (listed.setIfInBounds i true) s1→ZA E md ops Q (fuel+1) listed s:=by
 intro fuel
 induction fuel with
 | zero =>
   intro listed s s1 _ _ _ hr hy H
   refine⟨fun h=>(by rw[h] at hr; cases hr),fun j hj => ?_⟩
   by_cases hji:j=i
   ·subst hji; exact⟨oi,s1,hi,hy,H⟩
   ·have:=ready_mono hj hji
    rw[H.1] at this
    cases this
 | succ fuel ih =>
   intro listed s s1 hun hfree hs hr hy H
   refine⟨fun h=>(by rw[h] at hr; cases hr),fun j hj => ?_⟩
   by_cases hji:j=i
   ·subst hji; exact⟨oi,s1,hi,hy,H⟩
   ·obtain⟨oj,s2,hoj,hst,hrest⟩:=H.2 j (ready_mono hj hji)
    obtain⟨hjun,oj',hoj',hall⟩:=mem_ready.1 hj
    rw[hoj] at hoj'; cases hoj'
    have hrj:r j=false:=by
     cases hc:r j with
     | false=>rfl
     | true =>
       obtain⟨e,he,hb,hre⟩:=hsup j oj hoj hc hji
       have h1:=hall e he hb
       have h0:=hun e.on hre
       rcases zM e.on listed.size with h' | h'
       ·simp [h'] at h0 h1; rw[h0] at h1; cases h1
       ·simp [Array.getElem?_eq_none h'] at h1
    obtain⟨q1,q2⟩:=hfree j oj hoj hji hjun hrj
    obtain⟨t,t1,t2⟩:=AQF hs q1 q2 hy hst
    have hun' : ∀ k,r k=true→(listed.setIfInBounds j true).getD k true=false:=fun k hk=>by
     by_cases hjk:j=k
     ·subst hjk; rw[hrj] at hk; cases hk
     ·rw[getD_set_ne true hjk]; exact hun k hk
    have hfree' : ∀ k ok,ops[k]? = some ok→k≠i→(listed.setIfInBounds j true).getD k true=false→r k=false→oi.apart ops ok=true∧VR md sep oi ok=true:=fun k ok hk hki hun2 hno=>by
     refine hfree k ok hk hki ?_ hno
     by_cases hjk:j=k
     ·subst hjk; exact hjun
     ·rw[getD_set_ne true hjk] at hun2; exact hun2
    refine⟨oj,t,hoj,t1,ih (listed.setIfInBounds j true) t s2 hun' hfree' (U7 hok (Z7 hoj) hs t1) (ready_mono hr (Ne.symm hji)) t2 ?_⟩
    rw[Array.setIfInBounds_comm _ _ hji]
    exact hrest
def AL1 (acc:List Nat)(es:List Edge):Nat:=es.foldl (fun s e=>if Region.binds .any e then s ||| (2 ^ e.on ||| acc.getD e.on 0) else s) 0
def AF7:List Oper→List Nat→List Nat
 | [],acc=>acc
 | o :: r,acc=>AF7 r (acc++[AL1 acc o.after.toList])
def rowOk (md:Nat→Bool)(sep:List (Nat × Nat))(ops:Array Oper)(k:Nat)(x:Oper):List Oper→List Nat→Bool
 | y :: r,m :: ms=>(m.testBit k || (VR md sep x y && x.apart ops y)) && rowOk md sep ops k x r ms
 | _,_=>true
def ADA (md:Nat→Bool)(sep:List (Nat × Nat))(ops:Array Oper):List Oper→List Nat→Nat→Bool
 | x :: r,_ :: ms,k=>rowOk md sep ops k x r ms && ADA md sep ops r ms (k+1)
 | _,_,_=>true
def ACG:List Oper→Nat→Bool
 | [],_=>true
 | o :: r,k=>o.after.toList.all (fun e => !(Region.binds .any e) || Nat.blt e.on k) && ACG r (k+1)
def AWQ (md:Nat→Bool)(sep:List (Nat × Nat))(ops:Array Oper):Bool:=ACG ops.toList 0 && ADA md sep ops ops.toList (AF7 ops.toList []) 0
theorem Y0 : ∀ {l:List Oper} {k:Nat},ACG l k=true→∀ (i:Nat) (o:Oper),l[i]? = some o→∀ e∈o.after,Region.binds .any e=true→e.on < k+i
 | [],_,_,i,o,h=>by simp at h
 | x :: l,k,hl,i,o,h=>by
   simp only[ACG,jX] at hl
   intro e he hb
   cases i with
   | zero =>
     simp at h; subst h
     have:=zI.1 hl.1 e (by simpa using he)
     rw[hb] at this
     simp only[Bool.not_true,qR,Nat.blt_eq] at this
     exact this
   | succ i =>
     have:=Y0 hl.2 i o (by simpa using h) e he hb
     omega
theorem AD6 {md:Nat→Bool}{sep:List (Nat × Nat)}{ops:Array Oper}{k:Nat}{x:Oper} : ∀ {l:List Oper} {ms:List Nat},rowOk md sep ops k x l ms=true→∀ (j:Nat) (y:Oper),l[j]? = some y→j < ms.length →
  (ms.getD j 0).testBit k=true∨(x.apart ops y=true∧VR md sep x y=true)
 | [],_,_,j,y,h,_=>by simp at h
 | _ :: _,[],_,j,y,_,h=>by simp at h
 | z :: l,m :: ms,hr,j,y,h,hj=>by
   simp only[rowOk,jX,qN] at hr
   cases j with
   | zero =>
     simp at h; subst h
     rcases hr.1 with h1 | h1
     ·exact .inl (by simpa using h1)
     ·exact .inr ⟨h1.2,h1.1⟩
   | succ j =>
     have:=AD6 hr.2 j y (by simpa using h) (by simpa using hj)
     simpa using this
theorem ZZ {md:Nat→Bool}{sep:List (Nat × Nat)}{ops:Array Oper} : ∀ {l:List Oper} {ms:List Nat} {k:Nat},ADA md sep ops l ms k=true→ms.length=l.length→∀ (i j:Nat) (x y:Oper),i < j→l[i]? = some x→l[j]? = some y →
  (ms.getD j 0).testBit (k+i)=true∨(x.apart ops y=true∧VR md sep x y=true)
 | [],_,_,_,_,i,j,x,y,_,h,_=>by simp at h
 | _ :: _,[],_,_,hl,_,_,_,_,_,_,_=>by simp at hl
 | z :: l,m :: ms,k,hp,hl,i,j,x,y,hij,hx,hy=>by
   simp only[ADA,jX] at hp
   simp at hl
   obtain⟨j',rfl⟩ : ∃ j',j=j'+1:=⟨j - 1,by omega⟩
   have hy':l[j']? = some y:=by simpa using hy
   cases i with
   | zero =>
     simp at hx; subst hx
     have:=AD6 hp.1 j' y hy' (by have:=CJ hy'; omega)
     simpa using this
   | succ i =>
     have:=ZZ hp.2 hl i j' x y (by omega) (by simpa using hx) hy'
     rw[show k+1+i=k+(i+1) by omega] at this
     simpa using this
theorem AHP {acc:List Nat}{k:Nat} : ∀ (es:List Edge) (s:Nat),(es.foldl (fun s e=>if Region.binds .any e then s ||| (2 ^ e.on ||| acc.getD e.on 0) else s) s).testBit k=true→s.testBit k=true∨∃ e∈es,Region.binds .any e=true∧(e.on=k∨(acc.getD e.on 0).testBit k=true)
 | [],s,h => .inl h
 | e :: es,s,h=>by
   rw[wH] at h
   rcases AHP es _ h with h1 | ⟨e',h1,h2⟩
   ·split at h1
    ·rename_i hb
     rw[Nat.testBit_or,Nat.testBit_or,qN,qN,Nat.testBit_two_pow] at h1
     rcases h1 with h1 | h1 | h1
     ·exact .inl h1
     ·exact .inr ⟨e,by simp,hb,.inl (by simpa using h1)⟩
     ·exact .inr ⟨e,by simp,hb,.inr h1⟩
    ·exact .inl h1
   ·exact .inr ⟨e',by simp [h1],h2⟩
theorem AB4 : ∀ (l:List Oper) (acc:List Nat),∃ tl,AF7 l acc=acc++tl∧tl.length=l.length∧∀ (i:Nat) (o:Oper),l[i]? = some o→(AF7 l acc).getD (acc.length+i) 0=AL1 ((AF7 l acc).take (acc.length+i)) o.after.toList
 | [],acc=>⟨[],by simp [AF7],rfl,fun i o h=>by simp at h⟩
 | x :: l,acc=>by
   obtain⟨tl,h1,h2,h3⟩:=AB4 l (acc++[AL1 acc x.after.toList])
   have e:AF7 (x :: l) acc=AF7 l (acc++[AL1 acc x.after.toList]):=rfl
   refine⟨AL1 acc x.after.toList :: tl,by rw[e,h1]; simp,by simp [h2],fun i o h => ?_⟩
   rw[e]
   cases i with
   | zero =>
     simp at h; subst h
     rw[h1]
     simp [zQ]
   | succ i =>
     have:=h3 i o (by simpa using h)
     rw[List.length_append,List.length_singleton] at this
     rw[show acc.length+(i+1)=acc.length+1+i by omega]
     exact this
def QO (ops:Array Oper)(k j:Nat):Bool:=((AF7 ops.toList []).getD j 0).testBit k
theorem YP (ops:Array Oper):(AF7 ops.toList []).length=ops.size:=by
 obtain⟨tl,h1,h2,_⟩:=AB4 ops.toList []
 rw[h1]; simp [h2]
theorem AA9 {ops:Array Oper}{k j:Nat}(h:QO ops k j=true):j < ops.size:=by
 rcases zM j ops.size with h1 | h1
 ·exact h1
 ·unfold QO at h
  rw[zQ,qP (by rw[YP]; exact h1)] at h
  simp at h
theorem WA {ops:Array Oper}(hl:ACG ops.toList 0=true){k j:Nat}{o:Oper}(ho:ops[j]? = some o)(h:QO ops k j=true) : ∃ e∈o.after,Region.binds .any e=true∧e.on < j∧(e.on=k∨QO ops k e.on=true):=by
 obtain⟨_,_,_,h3⟩:=AB4 ops.toList []
 have h4:=h3 j o (by simpa using ho)
 simp only[List.length_nil,jG] at h4
 unfold QO at h
 rw[h4] at h
 rcases AHP _ _ h with h5 | ⟨e,h5,h6,h7⟩
 ·simp at h5
 ·have hlt:=Y0 hl j o (by simpa using ho) e (by simpa using h5) h6
  rw[jG] at hlt
  refine⟨e,by simpa using h5,h6,hlt,?_⟩
  rcases h7 with h7 | h7
  ·exact .inl h7
  ·refine .inr ?_
   unfold QO
   rw[zQ,wG,if_pos hlt,← zQ] at h7
   exact h7
theorem ASP {ops:Array Oper}(hl:ACG ops.toList 0=true){k:Nat} : ∀ (j:Nat),QO ops k j=true→k < j:=by
 intro j
 induction j using Nat.strongRecOn with
 | _ j ih =>
   intro h
   have hj:=AA9 h
   obtain⟨e,_,_,hlt,h7⟩:=WA hl (show ops[j]? = some ops[j] by simp [hj]) h
   rcases h7 with h7 | h7
   ·omega
   ·have:=ih e.on hlt h7; omega
def D (E:Env)(md:Nat→Bool)(ds:List (Option Tmp)):List Oper→Fr→Hp→(Fr→Hp→Prop)→Prop
 | [],F,h,K=>K F h
 | o :: r,F,h,K=>match O9 ds F o.guard with
   | some c=>(c=true→∃ v h',DExO E md o F h v h'∧D E md ds r (EW F o.dst v) h' K)∧(c=false→D E md ds r (EW F o.dst JA) h K)
   | none=>False
theorem AKE {E:Env}{md:Nat→Bool}{ds:List (Option Tmp)}{o:Oper}{r:List Oper}{F:Fr}{h:Hp}{K:Fr→Hp→Prop}(hD:D E md ds (o :: r) F h K) :
  ∃ s',AA5 E md ds o (F,h) s'∧D E md ds r s'.1 s'.2 K:=by
 unfold D at hD
 split at hD
 ·rename_i c hc
  cases c with
  | true =>
    obtain⟨v,h',h1,h2⟩:=hD.1 rfl
    exact⟨_,.inl ⟨hc,v,h',h1,rfl⟩,h2⟩
  | false=>exact⟨_,.inr ⟨hc,rfl⟩,hD.2 rfl⟩
 ·exact hD.elim
def LK (ops:Array Oper)(k:Nat)(listed:Array Bool):Prop:=listed.size=ops.size∧∀ j,j < ops.size→listed[j]? = some (decide (j < k))
theorem LK.getD {ops:Array Oper}{k j:Nat}{listed:Array Bool}(h:LK ops k listed)(hj:j < ops.size)(d:Bool):listed.getD j d=decide (j < k):=by
 have:=h.2 j hj
 rw[Array.getD_eq_getD_getElem?,this]; rfl
theorem LK.next {ops:Array Oper}{k:Nat}{listed:Array Bool}(h:LK ops k listed):LK ops (k+1) (listed.setIfInBounds k true):=by
 refine⟨by simpa using h.1,fun j hj => ?_⟩
 by_cases e:k=j
 ·subst e
  rw[Array.getElem?_setIfInBounds_self_of_lt (by rw[h.1]; exact hj)]
  simp
 ·rw[Array.getElem?_setIfInBounds_ne e,h.2 j hj]
  congr 1
  rw[decide_eq_decide]
  omega
theorem ANM {E:Env}{md:Nat→Bool}{sep:List (Nat × Nat)}{ops:Array Oper}{K:Fr→Hp→Prop}(hok:X7 sep ops.toList=true)(hB:AWQ md sep ops=true) : ∀ (l:List Oper) (k:Nat) (listed:Array Bool) (F:Fr) (h:Hp),(∀ j:Nat,l[j]? = ops[k+j]?) →
  LK ops k listed→PQ F sep→D E md (ops.toList.map (·.dst)) l F h K→ZA E md ops (fun s=>K s.1 s.2) l.length listed (F,h)
 | [],k,listed,F,h,hl,hL,_,hD=>by
   refine⟨?_,hD⟩
   rw[List.eq_nil_iff_forall_not_mem]
   intro i hi
   obtain⟨h1,o,h2,_⟩:=mem_ready.1 hi
   have hlt:i < ops.size:=(Array.getElem?_eq_some_iff.1 h2).1
   have hk:ops.size≤k:=by
    have:=(hl 0).symm
    simp only[jK,List.getElem?_nil] at this
    simpa using this
   rw[hL.getD hlt] at h1
   simp at h1; omega
 | o :: l,k,listed,F,h,hl,hL,hs,hD=>by
   have h0:ops[k]? = some o:=by simpa using (hl 0).symm
   have hlt:k < ops.size:=(Array.getElem?_eq_some_iff.1 h0).1
   have hB':=hB
   simp only[AWQ,jX] at hB'
   obtain⟨hlow,hpair⟩:=hB'
   obtain⟨s',h1,h2⟩:=AKE hD
   refine AF6 hok h0 (fun j=>decide (j=k) || QO ops k j) (fun j oj hj hr hne => ?_) l.length listed (F,h) s' (fun j hr => ?_) (fun j oj hj hne hun hr => ?_) hs ?_ h1
    (ANM hok hB l (k+1) _ s'.1 s'.2 (fun j=>by have:=hl (j+1); simpa [Nat.add_assoc,Nat.add_comm 1 j] using this) hL.next (U7 (s:=(F,h)) hok (Z7 h0) hs h1) h2)
   ·simp only[qN,decide_eq_true_eq] at hr
    rcases hr with hr | hr
    ·exact absurd hr hne
    ·obtain⟨e,he,hb,_,h7⟩:=WA hlow hj hr
     exact⟨e,he,hb,by simpa using h7⟩
   ·simp only[qN,decide_eq_true_eq] at hr
    rcases hr with rfl | hr
    ·rw[hL.getD hlt]; simp
    ·have h3:=AA9 hr
     have h4:=ASP hlow j hr
     rw[hL.getD h3]; simp; omega
   ·have h3:j < ops.size:=(Array.getElem?_eq_some_iff.1 hj).1
    rw[hL.getD h3] at hun
    simp only[Bool.or_eq_false_iff,decide_eq_false_iff_not] at hr
    have hkj:k < j:=by simp at hun; omega
    rcases ZZ hpair (by rw[YP]; simp) k j o oj hkj (by simpa using h0) (by simpa using hj) with h4 | h4
    ·rw[jG] at h4
     have:QO ops k j=true:=h4
     rw[this] at hr; cases hr.2
    ·exact h4
   ·rw[mem_ready]
    refine⟨by rw[hL.getD hlt]; simp,o,h0,fun e he hb => ?_⟩
    have:=Y0 hlow k o (by simpa using h0) e he hb
    rw[jG] at this
    rw[hL.getD (by omega)]; simpa using this
theorem YM {ρ:Option Nat}{E:Env}{md:Nat→Bool}{n:Nat}{ops:Array Oper}{Q:Exit→Act→World→Prop}{K:Fr × Hp→Prop}{g0:Gh}(hd : ∀ (i:Nat) (o:Oper),ops[i]? = some o→∀ d,o.dst=some d→d < n)
  (hk : ∀ F' h' g' a' w',K (F',h')→g0.le g'→Sim E n g' F' h' a' w'→Q .normal a' w') : ∀ (fuel:Nat) (listed:Array Bool) (F:Fr) (h:Hp) (g:Gh) (a:Act) (w:World),
  ZA E md ops K fuel listed (F,h)→g0.le g→Sim E n g F h a w→wpAnyIn (FW ρ) 0 E.P .any ops Q fuel listed a w
 | 0,_,F,h,g,a,w,hA,hg,s=>⟨hA.1,hk F h g a w hA.2 hg s⟩
 | fuel+1,listed,F,h,g,a,w,hA,hg,s=>by
   refine⟨fun h0=>hk F h g a w (hA.1 h0) hg s,fun i hi => ?_⟩
   obtain⟨o,s',ho,hst,hrest⟩:=hA.2 i hi
   unfold wpOpIn
   simp only[ho]
   rcases hst with⟨a1,v,h1,a2,rfl⟩ | ⟨a1,rfl⟩
   ·rw[YN (o:=o) s a1]
    simp only[if_true]
    refine(AFG (K:=fun v' h'=>v'=v∧h'=h1) (a2.exec ⟨rfl,rfl⟩) s ?_)
    rintro v' h' ⟨rfl,rfl⟩ g' w' cv hle hH hr
    exact YM hd hk fuel _ _ _ _ _ _ hrest (hg.trans hle) (s.put (hd i o ho) hle hH hr)
   ·rw[YN (o:=o) s a1]
    simp only[zA,if_false]
    refine⟨fun _ _=>trivial,?_⟩
    exact YM hd hk fuel _ _ _ _ _ _ hrest hg (s.put (hd i o ho) (Gh.le.refl g) s.simH (Rep.undef g))

theorem AIF {E:Env}{md:Nat→Bool}{ops:Array Oper}{Q Q':Fr × Hp→Prop}(hq : ∀ s,Q s→Q' s) : ∀ (fuel:Nat) (listed:Array Bool) (s:Fr × Hp),ZA E md ops Q fuel listed s→ZA E md ops Q' fuel listed s
 | 0,_,_,h=>⟨h.1,hq _ h.2⟩
 | fuel+1,_,_,h=>⟨fun h0=>hq _ (h.1 h0),fun i hi=>by
   obtain⟨o,s',h1,h2,h3⟩:=h.2 i hi
   exact⟨o,s',h1,h2,AIF hq fuel _ _ h3⟩⟩
structure LS (ops:Array Oper) (L:List Nat) (listed:Array Bool):Prop where
 size:listed.size=ops.size
 at' : ∀ j,j < ops.size→listed[j]? = some (L.contains j)
 lt : ∀ j∈L,j < ops.size
theorem LS.getD {ops:Array Oper}{L:List Nat}{listed:Array Bool}(h:LS ops L listed){j:Nat}(hj:j < ops.size)(d:Bool):listed.getD j d=L.contains j:=by
 have:=h.at' j hj
 rw[Array.getD_eq_getD_getElem?,this]; rfl
theorem LS.getF {ops:Array Oper}{L:List Nat}{listed:Array Bool}(h:LS ops L listed)(j:Nat):listed.getD j false=L.contains j:=by
 rcases zM j ops.size with hj | hj
 ·exact h.getD hj false
 ·have h1:listed[j]? = none:=by rw[Array.getElem?_eq_none_iff,h.size]; exact hj
  rw[Array.getD_eq_getD_getElem?,h1]
  have:L.contains j=false:=by
   rw[List.contains_eq_mem,decide_eq_false_iff_not]
   exact fun q=>by have:=h.lt j q; omega
  rw[this]; rfl
theorem LS.next {ops:Array Oper}{L:List Nat}{listed:Array Bool}(h:LS ops L listed){i:Nat}(hi:i < ops.size):LS ops (i :: L) (listed.setIfInBounds i true):=by
 refine⟨by simpa using h.size,fun j hj => ?_,fun j hj => ?_⟩
 ·by_cases e:i=j
  ·subst e
   rw[Array.getElem?_setIfInBounds_self_of_lt (by rw[h.size]; exact hj)]
   simp
  ·rw[Array.getElem?_setIfInBounds_ne e,h.at' j hj]
   congr 1
   simp [Ne.symm e]
 ·rcases qJ.1 hj with rfl | hj
  ·exact hi
  ·exact h.lt j hj
def TS (x:Oper)(L:List Nat):Bool:=x.after.toList.all fun e => !(Region.binds .any e) || L.contains e.on
def AJL (md:Nat→Bool)(sep:List (Nat × Nat))(ops:Array Oper)(i:Nat)(x:Oper)(L:List Nat):Nat→List Oper→List Nat→Bool
 | _,[],_=>true
 | _,_ :: _,[]=>false
 | k,y :: l,m :: ms=>(match m.testBit i with
   | true => !L.contains k
   | false=>L.contains k || k == i || (VR md sep x y && x.apart ops y)) && AJL md sep ops i x L (k+1) l ms
theorem ACK {md:Nat→Bool}{sep:List (Nat × Nat)}{ops:Array Oper}{i:Nat}{x:Oper}{L:List Nat} : ∀ {l:List Oper} {ms:List Nat} {k:Nat},AJL md sep ops i x L k l ms=true→ms.length=l.length→∀ (j:Nat) (y:Oper),l[j]? = some y →
  ((ms.getD j 0).testBit i=true∧L.contains (k+j)=false)∨((ms.getD j 0).testBit i=false∧(L.contains (k+j)=true∨k+j=i∨(x.apart ops y=true∧VR md sep x y=true)))
 | [],_,_,_,_,j,y,h=>by simp at h
 | _ :: _,[],_,_,hl,_,_,_=>by simp at hl
 | z :: l,m :: ms,k,hf,hl,j,y,hy=>by
   unfold AJL at hf
   rw[jX] at hf
   cases j with
   | zero =>
     simp at hy; subst hy
     have h1:=hf.1
     simp only[List.getD_cons_zero,jK]
     cases hb:m.testBit i with
     | true =>
       rw[hb] at h1
       exact .inl ⟨rfl,by simpa using h1⟩
     | false =>
       rw[hb] at h1
       simp only[qN,jX,beq_iff_eq] at h1
       refine .inr ⟨rfl,?_⟩
       rcases h1 with (h1 | h1) | h1
       ·exact .inl h1
       ·exact .inr (.inl h1)
       ·exact .inr (.inr ⟨h1.2,h1.1⟩)
   | succ j =>
     have:=ACK hf.2 (by simpa using hl) j y (by simpa using hy)
     rw[show k+1+j=k+(j+1) by omega] at this
     simpa using this
def A2N (md:Nat→Bool)(sep:List (Nat × Nat))(ops:Array Oper)(i:Nat)(L:List Nat):Bool:=match ops.toList[i]? with
 | none=>false
 | some x => !L.contains i && TS x L && AJL md sep ops i x L 0 ops.toList (AF7 ops.toList [])
def AEH (md:Nat→Bool)(sep:List (Nat × Nat))(ops:Array Oper):List Nat→List Nat→Bool
 | [],_=>true
 | i :: r,L=>A2N md sep ops i L && AEH md sep ops r (i :: L)
def OZ (l:List Oper):List Nat→List Oper
 | [] => []
 | i :: r=>match l[i]? with
   | some o=>o :: OZ l r
   | none=>OZ l r
theorem AD9 {ops:Array Oper}{L:List Nat}{listed:Array Bool}(hL:LS ops L listed){i:Nat}{x:Oper}(hi:ops[i]? = some x)(h0:L.contains i=false)(he:TS x L=true):i∈Region.ready .any ops listed:=by
 have hlt:i < ops.size:=(Array.getElem?_eq_some_iff.1 hi).1
 rw[mem_ready]
 refine⟨by rw[hL.getD hlt,h0],x,hi,fun e hm hb => ?_⟩
 have:=zI.1 he e (by simpa using hm)
 rw[hb] at this
 have h1:L.contains e.on=true:=by simpa using this
 have h2:e.on∈L:=by simpa [List.contains_eq_mem] using h1
 rw[hL.getD (hL.lt _ h2),h1]
theorem AB3 {E:Env}{md:Nat→Bool}{sep:List (Nat × Nat)}{ops:Array Oper}{Q:Fr × Hp→Prop}{K:Fr→Hp→Prop}{fuel:Nat}(hok:X7 sep ops.toList=true)(hlow:ACG ops.toList 0=true) : ∀ (pre L:List Nat) (listed:Array Bool) (F:Fr) (h:Hp),AEH md sep ops pre L=true →
  LS ops L listed→PQ F sep→D E md (ops.toList.map (·.dst)) (OZ ops.toList pre) F h K →
  (∀ (F':Fr) (h':Hp) (listed':Array Bool),LS ops (pre.reverse++L) listed'→PQ F' sep→K F' h'→ZA E md ops Q fuel listed' (F',h'))→ZA E md ops Q (fuel+pre.length) listed (F,h)
 | [],L,listed,F,h,_,hL,hs,hD,hn=>hn F h listed hL hs hD
 | i :: r,L,listed,F,h,ho,hL,hs,hD,hn=>by
   unfold AEH at ho
   rw[jX] at ho
   obtain⟨ho1,ho2⟩:=ho
   unfold A2N at ho1
   cases hx:ops.toList[i]? with
   | none=>rw[hx] at ho1; cases ho1
   | some x =>
     rw[hx] at ho1
     simp only[jX,Bool.not_eq_true'] at ho1
     obtain⟨⟨h0,he⟩,hf⟩:=ho1
     have hi:ops[i]? = some x:=by simpa using hx
     have hlt:i < ops.size:=(Array.getElem?_eq_some_iff.1 hi).1
     unfold OZ at hD
     rw[hx] at hD
     obtain⟨s',h1,h2⟩:=AKE hD
     have hspec:=ACK hf (by rw[YP]; simp)
     refine AF6 hok hi (fun j=>decide (j=i) || QO ops i j) (fun j oj hj hr hne => ?_) (fuel+r.length) listed (F,h) s' (fun j hr => ?_) (fun j oj hj hne hun hr => ?_) hs (AD9 hL hi h0 he) h1
      (AB3 hok hlow r (i :: L) _ s'.1 s'.2 ho2 (hL.next hlt) (U7 (s:=(F,h)) hok (Z7 hi) hs h1) h2 (fun F' h' l' a b c=>hn F' h' l' (by simpa using a) b c))
     ·simp only[qN,decide_eq_true_eq] at hr
      rcases hr with hr | hr
      ·exact absurd hr hne
      ·obtain⟨e,he,hb,_,h7⟩:=WA hlow hj hr
       exact⟨e,he,hb,by simpa using h7⟩
     ·simp only[qN,decide_eq_true_eq] at hr
      rcases hr with rfl | hr
      ·rw[hL.getD hlt,h0]
      ·have h3:=AA9 hr
       have h4:=hspec j ops[j] (by simp [h3])
       rw[jG] at h4
       rw[hL.getD h3]
       rcases h4 with h4 | h4
       ·exact h4.2
       ·unfold QO at hr
        rw[h4.1] at hr; cases hr
     ·have h3:j < ops.size:=(Array.getElem?_eq_some_iff.1 hj).1
      rw[hL.getD h3] at hun
      simp only[Bool.or_eq_false_iff,decide_eq_false_iff_not] at hr
      have h4:=hspec j oj (by simpa using hj)
      rw[jG] at h4
      rcases h4 with h4 | ⟨_,h4 | h4 | h4⟩
      ·have:QO ops i j=true:=h4.1
       rw[this] at hr; cases hr.2
      ·rw[hun] at h4; cases h4
      ·exact absurd h4 hne
      ·exact h4
def OD (i j:Nat)(L:List Nat):Nat→List Oper→Bool
 | _,[]=>true
 | k,z :: l=>(L.contains k || k == i || k == j || (z.after.toList.any (fun e=>Region.binds .any e && !L.contains e.on && e.on != i) && z.after.toList.any (fun e=>Region.binds .any e && !L.contains e.on && e.on != j))) && OD i j L (k+1) l
theorem UB {i j:Nat}{L:List Nat} : ∀ {l:List Oper} {k:Nat},OD i j L k l=true→∀ (n:Nat) (z:Oper),l[n]? = some z→L.contains (k+n)=true∨k+n=i∨k+n=j ∨
  ((∃ e∈z.after,Region.binds .any e=true∧L.contains e.on=false∧e.on≠i)∧∃ e∈z.after,Region.binds .any e=true∧L.contains e.on=false∧e.on≠j)
 | [],_,_,n,z,h=>by simp at h
 | y :: l,k,ho,n,z,hz=>by
   unfold OD at ho
   rw[jX] at ho
   cases n with
   | zero =>
     simp at hz; subst hz
     have h1:=ho.1
     simp only[qN,jX,beq_iff_eq,qH,Bool.not_eq_true',bne_iff_ne] at h1
     rcases h1 with ((h1 | h1) | h1) | ⟨⟨e,h1,h2⟩,e',h3,h4⟩
     ·exact .inl h1
     ·exact .inr (.inl h1)
     ·exact .inr (.inr (.inl h1))
     ·exact .inr (.inr (.inr ⟨⟨e,by simpa using h1,h2.1.1,h2.1.2,h2.2⟩,e',by simpa using h3,h4.1.1,h4.1.2,h4.2⟩))
   | succ n =>
     have:=UB ho.2 n z (by simpa using hz)
     rw[show k+1+n=k+(n+1) by omega] at this
     exact this
def AV9 (ops:Array Oper)(i j:Nat)(L:List Nat):Bool:=match ops.toList[i]?,ops.toList[j]? with
 | some x,some y=>i != j && !L.contains i && !L.contains j && TS x L && TS y L && OD i j L 0 ops.toList
 | _,_=>false
theorem AJX {x:Oper}{L:List Nat}{i:Nat}(h:TS x L=true):TS x (i :: L)=true:=by
 unfold TS at *
 rw[zI] at *
 intro e he
 have:=h e he
 simp only[qN] at this ⊢
 rcases this with h1 | h1
 ·exact .inl h1
 ·refine .inr ?_
  rw[jR,h1]; simp
theorem AOP {ops:Array Oper}{L:List Nat}{listed:Array Bool}{i j k:Nat}(hL:LS ops L listed)(ho:OD i j L 0 ops.toList=true)(hk:k∈Region.ready .any ops listed):k=i∨k=j:=by
 obtain⟨h1,z,h2,h3⟩:=mem_ready.1 hk
 have hlt:k < ops.size:=(Array.getElem?_eq_some_iff.1 h2).1
 rw[hL.getD hlt] at h1
 rcases UB ho k z (by simpa using h2) with h4 | h4 | h4 | ⟨⟨e,h5,h6,h7,_⟩,_⟩
 ·rw[jG,h1] at h4; cases h4
 ·exact .inl (by omega)
 ·exact .inr (by omega)
 ·have:=h3 e h5 h6
  rw[hL.getF,h7] at this; cases this
theorem ALS {ops:Array Oper}{L:List Nat}{listed:Array Bool}{i j k:Nat}(hL:LS ops (i :: L) listed)(ho:OD i j L 0 ops.toList=true)(hk:k∈Region.ready .any ops listed):k=j:=by
 obtain⟨h1,z,h2,h3⟩:=mem_ready.1 hk
 have hlt:k < ops.size:=(Array.getElem?_eq_some_iff.1 h2).1
 rw[hL.getD hlt] at h1
 have h1':L.contains k=false∧k≠i:=by
  rw[jR,Bool.or_eq_false_iff] at h1
  exact⟨h1.2,by simpa using h1.1⟩
 rcases UB ho k z (by simpa using h2) with h4 | h4 | h4 | ⟨⟨e,h5,h6,h7,h8⟩,_⟩
 ·rw[jG,h1'.1] at h4; cases h4
 ·exact absurd (by omega) h1'.2
 ·omega
 ·have:=h3 e h5 h6
  rw[hL.getF,jR,h7,Bool.or_false] at this
  exact absurd (by simpa using this) h8
theorem X9 {i j:Nat}{L:List Nat} : ∀ {l:List Oper} {k:Nat},OD i j L k l=true→OD j i L k l=true
 | [],_,_=>rfl
 | z :: l,k,h=>by
   unfold OD at h ⊢
   rw[jX] at h ⊢
   refine⟨?_,X9 h.2⟩
   have h1:=h.1
   simp only[qN,jX] at h1 ⊢
   rcases h1 with ((h1 | h1) | h1) | h1
   ·exact .inl (.inl (.inl h1))
   ·exact .inl (.inr h1)
   ·exact .inl (.inl (.inr h1))
   ·exact .inr ⟨h1.2,h1.1⟩
theorem AIG {E:Env}{md:Nat→Bool}{sep:List (Nat × Nat)}{ops:Array Oper}{Q:Fr × Hp→Prop}{K:Fr→Hp→Prop}{fuel:Nat}{i j:Nat}{x y:Oper}{post:List Oper}{L:List Nat}{listed:Array Bool}{F:Fr}{h:Hp}
  (hok:X7 sep ops.toList=true) (hi:ops[i]? = some x) (hj:ops[j]? = some y) (hij:i≠j) (hjL:L.contains j=false) (hey:TS y L=true) (ho:OD i j L 0 ops.toList=true) (hL:LS ops L listed) (hs:PQ F sep)
  (hD:D E md (ops.toList.map (·.dst)) (x :: y :: post) F h K)
  (hn : ∀ (F':Fr) (h':Hp) (listed':Array Bool),LS ops (j :: i :: L) listed'→PQ F' sep→D E md (ops.toList.map (·.dst)) post F' h' K→ZA E md ops Q fuel listed' (F',h')) :
  ∃ o s',ops[i]? = some o∧AA5 E md (ops.toList.map (·.dst)) o (F,h) s'∧ZA E md ops Q (fuel+1) (listed.setIfInBounds i true) s':=by
 have hlti:i < ops.size:=(Array.getElem?_eq_some_iff.1 hi).1
 have hltj:j < ops.size:=(Array.getElem?_eq_some_iff.1 hj).1
 obtain⟨s1,a1,a2⟩:=AKE hD
 have hL1:=hL.next hlti
 have hs1:=U7 (s:=(F,h)) hok (Z7 hi) hs a1
 have hrj:j∈Region.ready .any ops (listed.setIfInBounds i true):=AD9 hL1 hj (by rw[jR,hjL]; simp; exact fun q=>hij q.symm) (AJX hey)
 refine⟨x,s1,hi,a1,fun q=>by rw[q] at hrj; (cases hrj),fun k hk => ?_⟩
 obtain rfl:=ALS hL1 ho hk
 obtain⟨s2,b1,b2⟩:=AKE (F:=s1.1) (h:=s1.2) a2
 exact⟨y,s2,hj,b1,hn s2.1 s2.2 _ (hL1.next hltj) (U7 hok (Z7 hj) hs1 b1) b2⟩
theorem LS.perm {ops:Array Oper}{i j:Nat}{L:List Nat}{listed:Array Bool}(h:LS ops (i :: j :: L) listed):LS ops (j :: i :: L) listed :=
 ⟨h.size,fun k hk=>by rw[h.at' k hk]; congr 1; simp only[jR]; cases (k == i) <;> cases (k == j) <;> rfl,fun k hk=>h.lt k (by
  simp only[qJ] at hk ⊢
  rcases hk with h1 | h1 | h1
  ·exact .inr (.inl h1)
  ·exact .inl h1
  ·exact .inr (.inr h1))⟩
def allIn (L:List Nat):Nat→List Oper→Bool
 | _,[]=>true
 | k,_ :: l=>L.contains k && allIn L (k+1) l
theorem AF8 {L:List Nat} : ∀ {l:List Oper} {k:Nat},allIn L k l=true→∀ n,n < l.length→L.contains (k+n)=true
 | [],_,_,n,h=>by simp at h
 | _ :: l,k,ha,n,hn=>by
   unfold allIn at ha
   rw[jX] at ha
   cases n with
   | zero=>exact ha.1
   | succ n =>
     have:=AF8 ha.2 n (by simpa using hn)
     rw[show k+1+n=k+(n+1) by omega] at this
     exact this
theorem ready_nil {ops:Array Oper}{L:List Nat}{listed:Array Bool}(hL:LS ops L listed)(ha:allIn L 0 ops.toList=true):Region.ready .any ops listed = []:=by
 rw[List.eq_nil_iff_forall_not_mem]
 intro k hk
 obtain⟨h1,z,h2,_⟩:=mem_ready.1 hk
 have hlt:k < ops.size:=(Array.getElem?_eq_some_iff.1 h2).1
 rw[hL.getD hlt] at h1
 have:=AF8 ha k (by simpa using hlt)
 rw[jG,h1] at this; cases this
def AOM (md:Nat→Bool)(sep:List (Nat × Nat))(ops:Array Oper)(pre:List Nat)(i j:Nat)(post:List Nat):Bool :=
 X7 sep ops.toList && ACG ops.toList 0 && AEH md sep ops pre [] && AV9 ops i j (pre.reverse++[]) && AEH md sep ops post (j :: i :: (pre.reverse++[])) && allIn (post.reverse++(j :: i :: (pre.reverse++[]))) 0 ops.toList && Nat.beq (post.length+2+pre.length) ops.size
theorem ACU {E:Env}{md:Nat→Bool}{sep:List (Nat × Nat)}{ops:Array Oper}{K:Fr→Hp→Prop}{F:Fr}{h:Hp}(hl:AWQ md sep ops=true)(hok:X7 sep ops.toList=true)(hs:PQ F sep)(hD:D E md (ops.toList.map (·.dst)) ops.toList F h K) :
  ZA E md ops (fun s=>K s.1 s.2) ops.size (Array.replicate ops.size false) (F,h):=by
 have:=ANM (E:=E) (md:=md) (sep:=sep) (ops:=ops) (K:=K) hok hl ops.toList 0 (Array.replicate ops.size false) F h (by simp) ⟨by simp,fun j hj=>by simp [hj]⟩ hs hD
 simpa using this
theorem AUU {E:Env}{md:Nat→Bool}{sep:List (Nat × Nat)}{ops:Array Oper}{K:Fr→Hp→Prop}{pre post:List Nat}{i j:Nat}{F:Fr}{h:Hp}(hP:AOM md sep ops pre i j post=true)(hs:PQ F sep)
  (hD:D E md (ops.toList.map (·.dst)) (OZ ops.toList pre) F h (fun F h=>D E md (ops.toList.map (·.dst)) (OZ ops.toList (i :: j :: post)) F h K∧D E md (ops.toList.map (·.dst)) (OZ ops.toList (j :: i :: post)) F h K)) :
  ZA E md ops (fun s=>K s.1 s.2) ops.size (Array.replicate ops.size false) (F,h):=by
 unfold AOM at hP
 simp only[jX] at hP
 obtain⟨⟨⟨⟨⟨⟨hok,hlow⟩,hpre⟩,hpair⟩,hpost⟩,hall⟩,hsz⟩:=hP
 have hsz':post.length+2+pre.length=ops.size:=Nat.eq_of_beq_eq_true hsz
 have hL0:LS ops [] (Array.replicate ops.size false):=⟨by simp,fun k hk=>by simp [hk],fun k hk=>by cases hk⟩
 rw[← hsz']
 have key:=AB3 (E:=E) (Q:=fun s=>K s.1 s.2) (fuel:=post.length+2) hok hlow pre [] (Array.replicate ops.size false) F h hpre hL0 hs hD (fun F' h' l' hL hs' hK => ?_)
 ·rw[hsz'] at key ⊢; exact key
 unfold AV9 at hpair
 cases hx:ops.toList[i]? with
 | none=>rw[hx] at hpair; cases hpair
 | some x =>
   cases hy:ops.toList[j]? with
   | none=>rw[hx,hy] at hpair; cases hpair
   | some y =>
     rw[hx,hy] at hpair
     simp only[jX,bne_iff_ne,Bool.not_eq_true'] at hpair
     obtain⟨⟨⟨⟨⟨hij,hiL⟩,hjL⟩,hex⟩,hey⟩,ho⟩:=hpair
     have hi:ops[i]? = some x:=by simpa using hx
     have hj:ops[j]? = some y:=by simpa using hy
     obtain⟨d1,d2⟩:=hK
     have e1:OZ ops.toList (i :: j :: post)=x :: y :: OZ ops.toList post:=by
      simp only[OZ,hx,hy]
     have e2:OZ ops.toList (j :: i :: post)=y :: x :: OZ ops.toList post:=by
      simp only[OZ,hx,hy]
     rw[e1] at d1
     rw[e2] at d2
     have hri:=AD9 hL hi hiL hex
     have hlast : ∀ (F':Fr) (h':Hp) (listed':Array Bool),LS ops (j :: i :: (pre.reverse++[])) listed'→PQ F' sep→D E md (ops.toList.map (·.dst)) (OZ ops.toList post) F' h' K→ZA E md ops (fun s=>K s.1 s.2) post.length listed' (F',h'):=by
      intro F2 h2 l2 hL2 hs2 hD2
      have:=AB3 (E:=E) (Q:=fun s=>K s.1 s.2) (fuel:=0) hok hlow post (j :: i :: (pre.reverse++[])) l2 F2 h2 hpost hL2 hs2 hD2 (fun F3 h3 l3 hL3 _ hK3=>⟨ready_nil hL3 hall,hK3⟩)
      rw[jG] at this
      exact this
     refine⟨fun q=>by rw[q] at hri; (cases hri),fun k hk => ?_⟩
     rcases AOP hL ho hk with rfl | rfl
     ·exact AIG hok hi hj hij hjL hey ho hL hs' d1 hlast
     ·exact AIG hok hj hi (Ne.symm hij) hiL hex (X9 ho) hL hs' d2 (fun F2 h2 l2 hL2=>hlast F2 h2 l2 hL2.perm)

inductive AEx where
 | normal | exit (id:Nat) | ret
def AEx.to:AEx→Exit
 | .normal => .normal
 | .exit id => .exit id
 | .ret => .ret
def ZN (next:Fr→Hp→Prop)(Q:AEx→Fr→Hp→Prop):AEx→Fr→Hp→Prop
 | .normal,F,h=>next F h
 | .exit id,F,h=>Q (.exit id) F h
 | .ret,F,h=>Q .ret F h
def SB (id:Nat)(Q:AEx→Fr→Hp→Prop):AEx→Fr→Hp→Prop
 | .normal,F,h=>Q .normal F h
 | .exit i,F,h=>if i=id then Q .normal F h else Q (.exit i) F h
 | .ret,F,h=>Q .ret F h
def AIP (F:Fr):List Tmp→List AV→Fr
 | p :: ps,v :: vs=>AIP (upd F p v) ps vs
 | _,_=>F
def Iter (E:Env)(f:FuncId)(caps:List AV)(N:Nat)(xs:Nat→List AV)(I:Nat→Hp→Prop):Prop :=
 ∀ (l:Nat) (g0:Gh),(∀ k h,k < N→I k h→YC (E.know g0) l (xs k) h fun v h'=>v = .bool true∧I (k+1) h')→∀ h,I 0 h→ACalls (E.know g0) f (.fn (.yield l) [] [] :: caps) h fun _ h'=>I N h'
def GSt (E:Env)(h h':Hp):Prop := ∀ (g:Gh) (w:World),SimH E g h w→∃ g',g.le g'∧SimH E g' h' w
def Z4:Code→Bool
 | .seq a b=>Z4 a && Z4 b
 | .block _ b=>Z4 b
 | .cond _ a b=>Z4 a && Z4 b
 | .loop b=>Z4 b
 | .rangeFunc _ _ _ _=>false
 | _=>true
def awp (E:Env)(H:Hint):Code→Fr→Hp→(AEx→Fr→Hp→Prop)→Prop
 | .skip,F,h,Q=>Q .normal F h
 | .label _,F,h,Q=>Q .normal F h
 | .ret,F,h,Q=>Q .ret F h
 | .exit id,F,h,Q=>Q (.exit id) F h
 | .seq a b,F,h,Q=>awp E H a F h (ZN (fun F h=>awp E H b F h Q) Q)
 | .block id b,F,h,Q=>awp E H b F h (SB id Q)
 | .cond c a b,F,h,Q=>match ev E F c with
   | .bool t=>(t=true→awp E H a F h Q)∧(t=false→awp E H b F h Q)
   | _=>False
 | .loop b,F,h,Q => ∃ I:Nat→Fr→Hp→Prop,(∃ n,I n F h)∧∀ n F h,I n F h→awp E H b F h (ZN (fun F' h' => ∃ m,m < n∧I m F' h') Q)
 | .region _ ops draw,F,h,Q=>match draw with
   | false=>W E H (ops.toList.map (·.dst)) ops.toList F h (Q .normal)
   | true=>ZA E H.md ops (fun s=>Q .normal s.1 s.2) ops.size (Array.replicate ops.size false) (F,h)
 | .rangeFunc gf ps asg body,F,h,Q=>(Z4 asg && Z4 body)=true∧∃ (f:FuncId) (caps:List AV) (N:Nat) (xs:Nat→List AV) (I:Nat→Hp→Prop),ev E F gf = .fn (.func f) [] caps∧Iter E f caps N xs I∧I 0 h ∧
  (∀ k h',k < N→I k h'→(xs k).length=ps.size∧awp E H asg (AIP F ps.toList (xs k)) h' (ZN (fun F1 h1=>awp E H body F1 h1 (ZN (fun _ h2 => ∃ h3,GSt E h2 h3∧I (k+1) h3) fun _ _ _=>False)) fun _ _ _=>False))∧∀ h',I N h'→Q .normal F h'
 | _,_,_,_=>False
def TT (n:Nat):Code→Bool
 | .seq a b=>TT n a && TT n b
 | .block _ b=>TT n b
 | .cond _ a b=>TT n a && TT n b
 | .loop b=>TT n b
 | .rangeFunc _ ps a b=>TT n a && TT n b && ps.all fun p=>decide (p < n)
 | .region _ ops _=>ops.toList.all fun o=>match o.dst with
   | some d=>decide (d < n)
   | none=>true
 | _=>true
def After (E:Env)(n:Nat)(g:Gh)(Q:AEx→Fr→Hp→Prop)(e:Exit)(a:Act)(w:World):Prop :=
 ∃ x g' F h,e=x.to∧Q x F h∧g.le g'∧Sim E n g' F h a w
theorem ZC {E:Env}{n:Nat}{g:Gh}{next:Fr→Hp→Prop}{Q:AEx→Fr→Hp→Prop}{e:Exit}{a:Act}{w:World}{k:Act→World→Prop}{Q':Exit→Act→World→Prop}(h:After E n g (ZN next Q) e a w)
  (h1 : ∀ F h g',next F h→g.le g'→Sim E n g' F h a w→k a w) (h2:After E n g Q e a w→e≠.normal→Q' e a w):Exit.then k Q' e a w:=by
 obtain⟨x,g',F,hp,rfl,hq,hg,s⟩:=h
 cases x with
 | normal=>exact h1 F hp g' hq hg s
 | exit id=>exact h2 ⟨.exit id,g',F,hp,rfl,hq,hg,s⟩ (by simp [AEx.to])
 | ret=>exact h2 ⟨.ret,g',F,hp,rfl,hq,hg,s⟩ (by simp [AEx.to])
theorem After.mono_g {E:Env}{n:Nat}{g g1:Gh}{Q:AEx→Fr→Hp→Prop}{e:Exit}{a:Act}{w:World}(hg:g.le g1)(h:After E n g1 Q e a w):After E n g Q e a w:=by
 obtain⟨x,g',F,hp,e1,hq,h1,s⟩:=h
 exact⟨x,g',F,hp,e1,hq,hg.trans h1,s⟩
theorem A09 {n:Nat}{ops:Array Oper}(h:(ops.toList.all fun o=>match o.dst with | some d=>decide (d < n) | none=>true)=true) : ∀ o∈ops.toList,∀ d,o.dst=some d→d < n:=by
 intro o ho d hd
 rw[zI] at h
 have:=h o ho
 rw[hd] at this
 simpa using this
def Gh.putM (g:Gh)(l:Nat)(o:Option Obj):Gh := { g with M:=fun x=>if x=l then o else g.M x }
theorem Gh.putM_eq (g:Gh)(l:Nat)(o:Option Obj):(g.putM l o).M l=o:=by simp [Gh.putM]
theorem Gh.putM_ne (g:Gh){l k:Nat}(o:Option Obj)(h:k≠l):(g.putM l o).M k=g.M k:=by simp [Gh.putM,h]
theorem AEB {g:Gh}{l:Nat}{o:Obj}(ho:g.M l=some o)(hc : ∀ c e fz,o≠.cells c e fz)(o':Option Obj)(k:Nat)(c:Array Value)(e:TypeId)(fz:Nat × Nat)(hk:g.M k=some (.cells c e fz)):(g.putM l o').M k=some (.cells c e fz):=by
 rw[g.putM_ne o' (fun q=>by subst q; rw[ho] at hk; cases hk; exact hc _ _ _ rfl)]; exact hk
theorem Rep.putM {g:Gh}{l:Nat}{o:Obj}(ho:g.M l=some o)(hc : ∀ c e fz,o≠.cells c e fz)(o':Option Obj){v:AV}{cv:Value}(h:Rep g v cv):Rep (g.putM l o') v cv :=
 h.monoC (AEB ho hc o') fun _ _ h=>h
theorem SimH.putM {E E':Env}{g:Gh}{h:Hp}{w:World}(S:SimH E g h w){l:Nat}{o:Obj}(ho:g.M l=some o)(hc : ∀ c e fz,o≠.cells c e fz)(o1:Obj)(o':Option Obj)(h1:o'=some o1∨o'=none)
  (hG:E'.G=E.G) (hL : ∀ g0,E'.L=some g0→g0.leM (g.putM l o')):SimH E' (g.putM l o') h (w.putObj l o1):=by
 have hw:=S.fro _ _ ho
 have hlt:l < w.heap.size:=(Array.getElem?_eq_some_iff.1 hw).1
 refine⟨S.os,S.tape,S.output,fun k x hk => ?_,hL,fun b k xs hb => ?_,fun b s pos hb => ?_,S.inj,S.fresh,fun n=>hG ▸ (S.glob n).monoC (AEB ho hc o')⟩
 ·by_cases e:k=l
  ·subst e
   rw[g.putM_eq] at hk
   rcases h1 with h1 | h1
   ·rw[h1] at hk; cases hk; exact World.putObj_heap_same hlt
   ·rw[h1] at hk; cases hk
  ·rw[g.putM_ne _ e] at hk
   rw[World.putObj_heap_other e]; exact S.fro k x hk
 ·obtain⟨lc,c,e,q1,q2,q3,q4,q5,q6,q7,q8⟩:=S.live b k xs hb
  have hne:lc.cb≠l:=fun q=>by rw[q,ho] at q3; cases q3
  exact⟨lc,c,e,q1,q2,(g.putM_ne _ hne).trans q3,(World.putObj_heap_other hne).trans q4,q5,q6,q7,fun i j row v r1 r2=>let ⟨cv,s1,s2⟩:=q8 i j row v r1 r2; ⟨cv,s1,s2.putM ho hc o'⟩⟩
 ·obtain⟨lc,q1,q2,q3,q4,q5⟩:=S.iter b s pos hb
  have hne:lc.cb≠l:=fun q=>by rw[q,ho] at q4; cases q4
  exact⟨lc,q1,q2,q3,(g.putM_ne _ hne).trans q4,(World.putObj_heap_other hne).trans q5⟩
theorem SimH.env {E E':Env}{g:Gh}{h:Hp}{w:World}(S:SimH E g h w)(hG:E'.G=E.G)(hL : ∀ g0,E'.L=some g0→g0.leM g):SimH E' g h w:=⟨S.os,S.tape,S.output,S.fro,hL,S.live,S.iter,S.inj,S.fresh,fun n=>hG ▸ S.glob n⟩
def Gh.reB (g:Gh)(b:Nat→Option Obj):Gh := { g with B:=b }
theorem Rep.reB {g:Gh}(b:Nat→Option Obj){v:AV}{cv:Value}(h:Rep g v cv):Rep (g.reB b) v cv:=Rep.monoC (g:=g) (g':=g.reB b) (fun _ _ _ _ h=>h) (fun _ _ h=>h) h
theorem SimH.reB {E:Env}{g:Gh}{h:Hp}{w:World}(S:SimH E g h w)(b:Nat→Option Obj):SimH E (g.reB b) h w :=
 ⟨S.os,S.tape,S.output,S.fro,S.lo,fun b' k xs hb=>let ⟨lc,c,e,q1,q2,q3,q4,q5,q6,q7,q8⟩:=S.live b' k xs hb; ⟨lc,c,e,q1,q2,q3,q4,q5,q6,q7,fun i j row v r1 r2=>let ⟨cv,s1,s2⟩:=q8 i j row v r1 r2; ⟨cv,s1,s2.reB b⟩⟩,S.iter,S.inj,S.fresh,S.glob⟩
theorem Marks.putM {g:Gh}{l:Nat}{o:Obj}(ho:g.M l=some o)(hd : ∀ x,o≠.deferred x)(o':Option Obj){ds:List Deferred}(h:Marks g ds):Marks (g.putM l o') ds:=by
 induction h with
 | nil=>exact .nil
 | cons D ds h0 h1 h2 _ ih=>exact .cons D ds h0 ((g.putM_ne _ fun q=>by subst q; rw[ho] at h1; cases h1; exact hd _ rfl).trans h1) h2 ih
theorem Marks.lt {g:Gh}{w:World}(hf : ∀ k o,g.M k=some o→k < w.heap.size){ds:List Deferred}(h:Marks g ds) : ∀ d∈ds,∀ D,w.heap.size≤D→d.target≠.collected D:=by
 induction h with
 | nil=>intro d hd; cases hd
 | cons D ds h0 h1 h2 _ ih =>
   intro d hd D' hD'
   rcases qJ.1 hd with rfl | hd
   ·intro e; cases e; have:=hf _ _ h1; omega
   ·exact ih d hd D' hD'
theorem fold_size (ps:List (Tmp × Value)) : ∀ t:Array Value,(ps.foldl (fun t (p,v)=>t.setIfInBounds p v) t).size=t.size:=by
 induction ps with
 | nil=>intro t; rfl
 | cons x ps ih=>intro t; rw[wH,ih]; simp
theorem AMK {g:Gh}{n:Nat} : ∀ (ps:List Tmp) (xs:List AV) (vs:List Value) (F:Fr) (t:Array Value),t.size=n→(∀ p∈ps,p < n)→xs.length=ps.length→vs.length=ps.length→(∀ (i:Nat) (x:AV) (v:Value),xs[i]? = some x→vs[i]? = some v→Rep g x v) →
  (∀ i,Rep g (F i) (t.getD i undef))→∀ i,Rep g (AIP F ps xs i) (((ps.zip vs).foldl (fun t (p,v)=>t.setIfInBounds p v) t).getD i undef)
 | [],xs,vs,F,t,_,_,_,_,_,h=>by
   intro i
   have e:AIP F [] xs=F:=by cases xs <;> rfl
   rw[e]; exact h i
 | p :: ps,[],_,F,t,_,_,h1,_,_,_=>by simp at h1
 | p :: ps,_ :: _,[],F,t,_,_,_,h2,_,_=>by simp at h2
 | p :: ps,x :: xs,v :: vs,F,t,ht,hp,h1,h2,hr,h=>by
   refine AMK ps xs vs (upd F p x) (t.setIfInBounds p v) (by simpa using ht) (fun q hq=>hp q (by simp [hq])) (by simpa using h1) (by simpa using h2) (fun i a b q1 q2=>hr (i+1) a b (by simpa using q1) (by simpa using q2)) fun i => ?_
   have hlt:p < t.size:=ht ▸ hp p (by simp)
   simp only[upd]
   by_cases hi:i=p
   ·subst hi
    simpa [hlt] using hr 0 x v rfl rfl
   ·have:p≠i:=fun e=>hi e.symm
    rw[if_neg hi]
    simpa [Array.getElem?_setIfInBounds_ne this] using h i
theorem AUP {E:Env}{H:Hint}{n:Nat}(hm:E.P.follows .mixedOrders=true) : ∀ (c:Code) (ρ:Option Nat) (F:Fr) (h:Hp) (Q:AEx→Fr→Hp→Prop) (g:Gh) (a:Act) (w:World),
  awp E H c F h Q→TT n c=true→(ρ=none∨Z4 c=true)→Sim E n g F h a w→c.wpIn (FW ρ) 0 E.P (After E n g Q) a w:=by
 intro c
 induction c with
 | skip=>intro ρ F h Q g a w hw _ _ s; exact wpIn_skip ⟨.normal,g,F,h,rfl,hw,Gh.le.refl g,s⟩
 | label l=>intro ρ F h Q g a w hw _ _ s; exact wpIn_label ⟨.normal,g,F,h,rfl,hw,Gh.le.refl g,s⟩
 | ret=>intro ρ F h Q g a w hw _ _ s; exact wpIn_ret ⟨.ret,g,F,h,rfl,hw,Gh.le.refl g,s⟩
 | exit id=>intro ρ F h Q g a w hw _ _ s; exact wpIn_exit ⟨.exit id,g,F,h,rfl,hw,Gh.le.refl g,s⟩
 | seq x y ihx ihy =>
   intro ρ F h Q g a w hw hd hρ s
   simp only[TT,Z4,jX] at hd hρ
   refine wpIn_seq (wpIn_mono (ihx ρ F h _ g a w hw hd.1 (hρ.imp id And.left) s) fun e a' w' q => ?_)
   exact ZC q (fun F' h' g' hn hg s'=>wpIn_mono (ihy ρ F' h' Q g' a' w' hn hd.2 (hρ.imp id And.right) s') fun e a w q=>q.mono_g hg) fun q _=>q
 | block id b ih =>
   intro ρ F h Q g a w hw hd hρ s
   refine wpIn_block (wpIn_mono (ih ρ F h _ g a w hw hd hρ s) fun e a' w' q => ?_)
   obtain⟨x,g',F',h',rfl,hq,hg,s'⟩:=q
   cases x with
   | normal=>exact⟨.normal,g',F',h',rfl,hq,hg,s'⟩
   | exit i =>
     simp only[AEx.to,Exit.inBlock,SB] at *
     split
     ·rename_i hi; rw[if_pos hi] at hq; exact⟨.normal,g',F',h',rfl,hq,hg,s'⟩
     ·rename_i hi; rw[if_neg hi] at hq; exact⟨.exit i,g',F',h',rfl,hq,hg,s'⟩
   | ret=>exact⟨.ret,g',F',h',rfl,hq,hg,s'⟩
 | cond c x y ihx ihy =>
   intro ρ F h Q g a w hw hd hρ s
   simp only[TT,Z4,jX] at hd hρ
   simp only[awp] at hw
   have hr:=ABW s c
   split at hw
   ·rename_i t ht
    rw[ht] at hr
    refine wpIn_cond hr.bool_inv ?_
    cases t with
    | true=>exact ihx ρ F h Q g a w (hw.1 rfl) hd.1 (hρ.imp id And.left) s
    | false=>exact ihy ρ F h Q g a w (hw.2 rfl) hd.2 (hρ.imp id And.right) s
   ·exact hw.elim
 | loop b ih =>
   intro ρ F h Q g a w hw hd hρ s
   obtain⟨I,⟨n0,h0⟩,hround⟩:=hw
   refine wpIn_loop_ghost (fun k a w => ∃ g' F h,I k F h∧g.le g'∧Sim E n g' F h a w) n0 ⟨g,F,h,h0,Gh.le.refl g,s⟩ ?_
   rintro k a1 w1 ⟨g1,F1,h1,hI,hg1,s1⟩
   refine wpIn_mono (ih ρ F1 h1 _ g1 a1 w1 (hround k F1 h1 hI) hd hρ s1) fun e a' w' q => ?_
   exact ZC q (fun F' h' g' hn hg s'=>by obtain⟨m,hm1,hm2⟩:=hn; exact⟨m,hm1,g',F',h',hm2,hg1.trans hg,s'⟩) fun q _=>q.mono_g hg1
 | region id ops draw =>
   intro ρ F h Q g a w hw hd hρ s
   have hdst:=A09 (n:=n) (ops:=ops) hd
   simp only[awp] at hw
   cases draw with
   | false =>
     refine wpIn_region_list (AKD (n:=n) (g0:=g) ops.toList F h g a w hw s (Gh.le.refl g) hdst fun F' h' g' a' w' hk hg s'=>⟨.normal,g',F',h',rfl,hk,hg,s'⟩)
   | true =>
     have sd:Sim E n g F h a { w with drawn:=w.drawn+1 }:=⟨s.simH.world rfl rfl rfl fun _ _=>rfl,s.defers,s.base,s.size,s.frame⟩
     refine wpIn_region_any hm ?_
     refine YM (n:=n) (g0:=g) (md:=H.md) (K:=fun s=>Q .normal s.1 s.2) (fun i o ho=>hdst o ?_) (fun F' h' g' a' w' hk hg s'=>⟨.normal,g',F',h',rfl,hk,hg,s'⟩) ops.size _ F h g a _ ?_ (Gh.le.refl g) sd
     ·have:ops.toList[i]? = some o:=by simpa using ho
      exact qC this
     ·exact hw
 | rangeFunc gf ps asg body iha ihb =>
   intro ρ F h Q g a w hw hd hρ s
   obtain⟨hno,f,caps,N,xs,I,hgf,hit,hI0,hrd,hdone⟩:=hw
   simp only[TT,Z4,jX] at hd hno hρ
   have hρ0:ρ=none:=hρ.resolve_right (by simp)
   subst hρ0
   obtain⟨⟨hd1,hd2⟩,hd3⟩:=hd
   have hps : ∀ p∈ps.toList,p < n:=fun p hp=>by
    have:=Array.all_eq_true'.1 hd3 p (by simpa using hp)
    simpa using this
   have hr:=ABW s gf
   rw[hgf] at hr
   obtain⟨first',ccaps,hfe,k1,k2,k3,k4⟩:=hr.fn_inv
   have hfirst:first' = #[]:=by simpa using k1
   subst hfirst
   refine wpIn_rangeFunc ?_
   intro fn _
   obtain⟨rec,hrec⟩ : ∃ rec:LoopState→Loop,rec=fun st => { state:=st,pending:=none,fn,tmps:=a.tmps,params:=ps,assign:=asg,body,defers:=w.heap.size }:=⟨_,rfl⟩
   obtain⟨W0,hW0⟩ : ∃ W0,w.alloc (.deferred (some []))=W0:=⟨_,rfl⟩
   obtain⟨W1,hW1⟩ : ∃ W1,W0.alloc (.loop (rec .ready))=W1:=⟨_,rfl⟩
   have sz0:W0.heap.size=w.heap.size+1:=by rw[← hW0]; simp
   have G0:Grew w W0 (.deferred (some [])):=by rw[← hW0]; exact⟨rfl,rfl,rfl,rfl⟩
   have G1:Grew W0 W1 (.loop (rec .ready)):=by rw[← hW1]; exact⟨rfl,rfl,rfl,rfl⟩
   obtain⟨S0,le0,m0⟩:=s.simH.newF G0
   obtain⟨S1,le1,m1⟩:=S0.newF G1
   rw[sz0] at S1 le1 m1
   have hDn:g.M w.heap.size=none:=(s.simH.unowned_new (Nat.le_refl _)).2
   have hln:g.M (w.heap.size+1)=none:=(s.simH.unowned_new (Nat.le_succ _)).2
   obtain⟨g1,hg1⟩ : ∃ g1,(g.freeze w.heap.size (.deferred (some []))).freeze (w.heap.size+1) (.loop (rec .ready))=g1:=⟨_,rfl⟩
   rw[hg1] at S1 le1 m1
   have le01:g.le g1:=le0.trans le1
   have mD:g1.M w.heap.size=some (.deferred (some [])):=le1.M _ _ m0
   obtain⟨l,hl⟩ : ∃ l,w.heap.size+1=l:=⟨_,rfl⟩
   obtain⟨D,hD⟩ : ∃ D,w.heap.size=D:=⟨_,rfl⟩
   have hDl:D≠l:=by omega
   rw[hl] at m1 hln
   rw[hD] at mD hDn
   have S1':SimH (E.know g1) g1 h W1:=S1.env rfl fun g0 hk=>by cases hk; exact⟨fun _ _ x=>x,fun _ _ x=>x⟩
   have nc : ∀ st c e fz,Obj.loop (rec st)≠.cells c e fz:=fun _ _ _ _ q=>by cases q
   have nd : ∀ st x,Obj.loop (rec st)≠.deferred x:=fun _ _ q=>by cases q
   have hB : ∀ k o,g.B k=some o→k≠l:=fun k o hk q=>by subst q; have:=s.base _ _ hk; rw[hln] at this; cases this
   have hLl : ∀ g0,E.L=some g0→g0.M l=none:=fun g0 hk=>by
    cases hx:g0.M l with
    | none=>rfl
    | some x=>have:=(s.simH.lo _ hk).1 _ _ hx; rw[hln] at this; cases this
   have rounds : ∀ k h1,k < N→I k h1→YC (E.know g1) l (xs k) h1 fun v h'=>v = .bool true∧I (k+1) h':=by
    intro k h1 hk hI g2 w2 vs S2 hvs
    obtain⟨hlen,hw⟩:=hrd k h1 hk hI
    have le12:g1.leM g2:=S2.lo _ rfl
    have m2:g2.M l=some (.loop (rec .ready)):=le12.1 _ _ m1
    have hl2:w2.heap[l]? = some (.loop (rec .ready)):=S2.fro _ _ m2
    have hvl:vs.size=ps.size:=by rw[hvs.1]; exact hlen
    have hy:=run_yield (P:=E.P) (args:=vs) hl2 (by rw[hrec]; exact hvl)
    rw[hrec] at hy
    have le02:g.leM (g2.reB g.B):=le01.toM.trans le12
    have sd2:Sim E n (g2.reB g.B) (AIP F ps.toList (xs k)) h1 { tmps:=(ps.zip vs).foldl (fun tmps (t,a)=>tmps.setIfInBounds t a) a.tmps,defers := [] } w2:=by
     refine⟨(S2.reB g.B).env rfl fun g0 hk=>(s.simH.lo _ hk).trans le02,.nil,fun k o hk=>le02.1 _ _ (s.base _ _ hk),?_,?_⟩
     ·rw[← Array.foldl_toList,fold_size]; exact s.size
     ·rw[← Array.foldl_toList,Array.toList_zip]
      exact AMK ps.toList (xs k) vs.toList F a.tmps s.size hps (by simpa using hlen) (by simpa using hvl) (fun i x v p q=>(hvs.2 i x v p (by simpa using q)).reB g.B) fun i=>(s.frame i).monoC (fun _ _ _ _ h=>le02.1 _ _ h) le02.2
    refine⟨fn,_,asg,body,hy,roundIn_of_wpIn trivial ?_⟩
    refine wpIn_mono (iha (some l) _ h1 _ (g2.reB g.B) _ w2 hw hd1 (.inr hno.1) sd2) fun e a3 w3 q => ?_
    refine ZC q (fun F3 h3 g3 hb le23 s3 => ?_) fun q hne => ?_
    ·have m3:g3.M l=some (.loop (rec .ready)):=le23.M _ _ m2
     have hl3:w3.heap[l]? = some (.loop (rec .ready)):=s3.simH.fro _ _ m3
     obtain⟨bz,hbz⟩ : ∃ bz,Obj.loop (rec .busy)=bz:=⟨_,rfl⟩
     have m4:(g3.putM l (some bz)).M l=some bz:=g3.putM_eq l _
     have hB3:g3.B=g.B:=le23.B
     have s4:Sim E n (g3.putM l (some bz)) F3 h3 a3 (w3.putObj l bz):=by
      refine⟨s3.simH.putM m3 (nc _) bz _ (.inl rfl) rfl fun g0 hk => ?_,s3.defers.putM m3 (nd _) _,fun k o hk => ?_,s3.size,fun i=>(s3.frame i).putM m3 (nc _) _⟩
      ·have:=(s.simH.lo _ hk).trans (le02.trans le23.toM)
       exact⟨fun k o hk'=>(g3.putM_ne _ fun q=>by subst q; rw[hLl _ hk] at hk'; cases hk').trans (this.1 _ _ hk'),this.2⟩
      ·have hk':g.B k=some o:=hB3 ▸ hk
       exact(g3.putM_ne _ (hB k o hk')).trans (s3.base _ _ hk)
     refine⟨w3.putObj l bz,?_,?_⟩
     ·rw[run_beginRound hl3 (by rw[hrec]),← hbz,hrec]
     refine wpIn_mono (ihb (some l) _ h3 _ _ a3 _ hb hd2 (.inr hno.2) s4) ?_
     rintro e a5 w5 ⟨x,g4,F5,h4,rfl,hq,le44,s5'⟩
     cases x with
     | exit i=>exact hq.elim
     | ret=>exact hq.elim
     | normal =>
       obtain⟨h5,hgs,hq⟩:=hq
       obtain⟨g5,le5,s5⟩:=hgs g4 w5 s5'.simH
       have le45:=le44.trans le5
       have m5:g5.M l=some bz:=le45.M _ _ m4
       have hl5:w5.heap[l]? = some (.loop (rec .busy)):=hbz ▸ s5.fro _ _ m5
       have hend:=run_endRound (P:=E.P) none hl5
       have hrd:(Obj.loop { rec .busy with state:=if(none:Option Code).isNone then LoopState.ready else .done,pending:=none }) = .loop (rec .ready):=by rw[hrec]; rfl
       rw[hrd] at hend
       have le25:g2.leM (g5.putM l (some (.loop (rec .ready)))):=⟨fun k o hk=>by
        by_cases e:k=l
        ·subst e; rw[m2] at hk; rw[g5.putM_eq]; exact hk
        ·rw[g5.putM_ne _ e]; exact le45.M _ _ ((g3.putM_ne _ e).trans (le23.M _ _ hk)),fun b lc hk=>le45.μ _ _ (le23.μ _ _ hk)⟩
       refine⟨_,_,hend,.bool true,.bool true,(g5.putM l (some (.loop (rec .ready)))).reB g2.B,h5,rfl,⟨rfl,hq⟩,?_,?_,.bool _ _⟩
       ·exact⟨le25.1,le25.2,le45.os.trans le23.os,le45.tape.trans le23.tape,le45.output.trans le23.output,rfl⟩
       ·refine(s5.putM (E':=E.know g1) m5 (fun c e fz q=>nc .busy c e fz (hbz.trans q)) (.loop (rec .ready)) _ (.inl rfl) rfl fun g0 hk => ?_).reB g2.B
        cases hk
        exact le12.trans le25
    ·obtain⟨x,g3,F3,h3,rfl,hq,_⟩:=q
     cases x with
     | normal=>exact absurd rfl hne
     | exit i=>exact hq.elim
     | ret=>exact hq.elim
   have hcall:=hit l g1 rounds h hI0
   have hL:X5 g1 (.fn (.yield l) [] [] :: caps) (#[.func (.yield l) #[] #[]]++ccaps):=by
    refine WJ (xs := [.fn (.yield l) [] []]) ⟨rfl,fun i v cv p q => ?_⟩ ⟨k2,fun i v cv p q=>(k4 i v cv p q).mono le01⟩
    match i with
    | 0=>cases p; cases q; exact .fro (.fn _ _ _ _ _ rfl rfl (fun i v cv p=>by cases p) fun i v cv p=>by cases p)
    | i+1=>cases p
   refine⟨l,[{ target := .collected D,args := #[] }],W1,{ target := .fn (.func f) ccaps,args := #[.func (.yield l) #[] #[]] },W1,f,#[.func (.yield l) #[] #[]]++ccaps,W1,?_,?_,fun _ _=>trivial,?_,fun hn=>(Bool.noConfusion hn),CallsIn.FW_of none _ ?_⟩
   ·rw[← hW1,← hW0,← hl,← hD,hrec]
    exact run_enterLoop_outer _ _ _ _ _
   ·simp only[resolve,hfe]
    simp [Deferred.ofValue,Act.eval]
   ·simp only[invoke]
    exact AK9 hcall.1
   refine(hcall.2 g1 W1 _ S1' hL).mono ?_
   rintro e w6 ⟨v,cv,g6,h6,rfl,hIN,le16,S6,_⟩
   have m6:g6.M l=some (.loop (rec .ready)):=le16.M _ _ m1
   have hl6:w6.heap[l]? = some (.loop (rec .ready)):=S6.fro _ _ m6
   have le06:g.le g6:=le01.trans le16
   have le07:g.le (g6.putM l none):=⟨fun k o hk=>(g6.putM_ne _ fun q=>by subst q; rw[hln] at hk; cases hk).trans (le06.M _ _ hk),le06.μ,le06.os,le06.tape,le06.output,le06.B⟩
   refine⟨none,_,by rw[run_endLoop hl6 (by rw[hrec]; simp),hrec],.normal,g6.putM l none,F,h6,rfl,hdone h6 hIN,le07,?_⟩
   refine⟨S6.putM (E':=E) m6 (nc _) _ _ (.inr rfl) rfl fun g0 hk=>(s.simH.lo _ hk).trans le07.toM,.cons D _ ?_ ((g6.putM_ne _ hDl).trans (le16.M _ _ mD)) (fun d hd=>s.defers.lt (fun k o hk=>s.simH.fro_ne hk) d hd D (by omega)) (s.defers.mono le07),fun k o hk=>le07.M _ _ (s.base _ _ (le07.B ▸ hk)),s.size,fun i=>(s.frame i).mono le07⟩
   cases hx:(g6.putM l none).B D with
   | none=>rfl
   | some x=>have:=s.base D x (le07.B ▸ hx); rw[hDn] at this; cases this
 | _=>intro ρ F h Q g a w hw _ _ s; simp only[awp] at hw
def TY (P:Program)(h:Hp)(F:Fr):ResultVar→Option AV
 | .tmp t=>some (F t)
 | .cell a t=>match F a with
   | .ptr b i j=>D8 P h t (.ptr b i j)
   | _=>none
def QW (P:Program)(h:Hp)(F:Fr):List ResultVar→Option (List AV)
 | []=>some []
 | r :: l=>match TY P h F r,QW P h F l with
   | some v,some vs=>some (v :: vs)
   | _,_=>none
def AAY (P:Program)(h:Hp)(F:Fr):List ResultVar→Option AV
 | [r]=>TY P h F r
 | l=>match QW P h F l with
   | some vs=>some (.tup vs)
   | none=>none
def ABE (tmps:Array Value):ResultVar→Sem Value
 | .tmp t=>pure (tmps.getD t undef)
 | .cell a t=>do loadVar t (← asAddr (tmps.getD a undef))
theorem ACT {E:Env}{n:Nat}{g:Gh}{F:Fr}{h:Hp}{a:Act}{w:World}{r:ResultVar}{v:AV}(s:Sim E n g F h a w)(hr:TY E.P h F r=some v) : ∃ cv,(ABE a.tmps r).run E.P w = .ok cv w∧Rep g v cv:=by
 cases r with
 | tmp t=>simp only[TY] at hr; cases hr; exact⟨_,rfl,s.frame t⟩
 | cell x t =>
   simp only[TY] at hr
   have hx:=s.frame x
   split at hr
   ·rename_i b i j hb
    rw[hb] at hx
    obtain⟨cv,h1,h2⟩:=AER s.simH hr hx
    obtain⟨l,_,he⟩:=hx.ptr_inv
    rw[he] at h1
    refine⟨cv,?_,h2⟩
    simp only[ABE,he,asAddr,Sem.run_bind,Sem.run_pure,Result.andThen_ok]
    simpa [Instr.loadAt,Instr.sureAddr] using h1
   ·cases hr
theorem ACS {E:Env}{n:Nat}{g:Gh}{F:Fr}{h:Hp}{a:Act}{w:World}(s:Sim E n g F h a w) : ∀ (l:List ResultVar) (vs:List AV),QW E.P h F l=some vs →
  ∃ cvs:List Value,(l.mapM (ABE a.tmps)).run E.P w = .ok cvs w∧cvs.length=vs.length∧∀ (i:Nat) (v:AV) (cv:Value),vs[i]? = some v→cvs[i]? = some cv→Rep g v cv
 | [],vs,hr=>by simp [QW] at hr; subst hr; exact⟨[],by simp,rfl,by simp⟩
 | r :: l,vs,hr=>by
   simp only[QW] at hr
   cases h1:TY E.P h F r with
   | none=>simp [h1] at hr
   | some v =>
     cases h2:QW E.P h F l with
     | none=>simp [h1,h2] at hr
     | some vs' =>
       simp [h1,h2] at hr
       subst hr
       obtain⟨cv,k1,k2⟩:=ACT s h1
       obtain⟨cvs,q1,q2,q3⟩:=ACS s l vs' h2
       refine⟨cv :: cvs,by simp [List.mapM_cons,k1,q1],by simp [q2],fun i v' cv' p q => ?_⟩
       cases i with
       | zero=>simp at p q; subst p q; exact k2
       | succ i=>exact q3 i v' cv' (by simpa using p) (by simpa using q)
theorem AOI (fn:Func)(tmps:Array Value):results fn tmps=(do let vs ← fn.results.mapM (ABE tmps); pure (if h:vs.size=1 then vs[0] else .tuple vs):Sem Value):=by
 unfold results
 congr 2
theorem AP0 {E:Env}{n:Nat}{g:Gh}{F:Fr}{h:Hp}{a:Act}{w:World}{fn:Func}{v:AV}(s:Sim E n g F h a w)(hr:AAY E.P h F fn.results.toList=some v) : ∃ cv,(results fn a.tmps).run E.P w = .ok cv w∧Rep g v cv:=by
 have hmap : ∀ cvs:List Value,(fn.results.toList.mapM (ABE a.tmps)).run E.P w = .ok cvs w→(fn.results.mapM (ABE a.tmps)).run E.P w = .ok cvs.toArray w:=by
  intro cvs hc
  rw[Array.mapM_eq_mapM_toList]
  simp only[Sem.run_map,hc,Result.andThen_ok]
 rw[AOI]
 unfold AAY at hr
 split at hr
 ·rename_i r hl
  obtain⟨cv,h1,h2⟩:=ACT s hr
  have:=hmap [cv] (by rw[hl]; simp [h1])
  exact⟨cv,by simp [this],h2⟩
 ·rename_i hl
  split at hr
  ·rename_i vs hvs
   cases hr
   obtain⟨cvs,q1,q2,q3⟩:=ACS s _ _ hvs
   have hne : ¬ (cvs.length=1):=by
    intro h1
    have:fn.results.toList.length=1:=by
     have : ∀ (l:List ResultVar) (vs:List AV),QW E.P h F l=some vs→vs.length=l.length:=by
      intro l
      induction l with
      | nil=>intro vs hv; simp [QW] at hv; subst hv; rfl
      | cons r l ih =>
        intro vs hv
        simp only[QW] at hv
        split at hv
        ·rename_i v' vs' e1 e2; cases hv; simp [ih vs' e2]
        ·cases hv
     have:=this _ _ hvs
     omega
    match hx:fn.results.toList,this with
    | [r],_=>exact hl r hx
   have:=hmap cvs q1
   exact⟨.tuple cvs.toArray,by simp [this,hne],.tup _ _ (by simpa using q2) (by simpa using q3)⟩
  ·cases hr
def OI:List AV→Fr
 | []=>fun _=>JA
 | v :: r=>fun i=>match i with
   | 0=>v
   | i+1=>OI r i
theorem BF (v:AV)(r:List AV):OI (v :: r) 0=v:=rfl
theorem BN (v:AV)(r:List AV)(i:Nat):OI (v :: r) (i+1)=OI r i:=rfl
theorem AMI (i:Nat):OI [] i=JA:=rfl
theorem ACM : ∀ (l:List AV) (i:Nat),OI l i=(l[i]?).getD JA
 | [],i=>by simp [OI]
 | v :: r,0=>by simp [OI]
 | v :: r,i+1=>by simp [OI,ACM r i]
theorem Z9 {E:Env}{fn:Func}{tmps:Array Value}{R:Ending→World→Prop}{h:Hp}{B:Nat→Option Obj}(hB : ∀ g0,E.L=some g0→∀ k o,g0.M k=some o→B k=some o) : ∀ (ds:List Deferred) (g:Gh) (w:World),
  g.B=B→Marks g ds→SimH E g h w→(∀ k o,B k=some o→g.M k=some o) →
  (∀ g' w',SimH E g' h w'→g'.B=B→(∀ k o,B k=some o→g'.M k=some o)→g'.μ=g.μ→g'.os=g.os→g'.tape=g.tape→g'.output=g.output→(∀ v cv,Rep g v cv→Rep g' v cv)→LeavesInM Fence.wide 0 E.P fn tmps R [] .returning w') →
  LeavesInM Fence.wide 0 E.P fn tmps R ds .returning w
 | [],g,w,hgB,_,S,hb,hk=>hk g w S hgB hb rfl rfl rfl rfl fun _ _ h=>h
 | d :: ds,g,w,hgB,hm,S,hb,hk=>by
   cases hm with
   | cons D _ h0 h1 h2 h3 =>
     have hc : ∀ c e fz,Obj.deferred (some [])≠.cells c e fz:=fun _ _ _ q=>by cases q
     have hDB:B D=none:=hgB ▸ h0
     have S2:SimH E (g.putM D none) h (w.putObj D (.deferred none)):=S.putM h1 hc _ _ (.inr rfl) rfl fun g0 hg0=>by
      have:=S.lo _ hg0
      exact⟨fun k o hk'=>(g.putM_ne _ fun q=>by subst q; rw[hB _ hg0 _ _ hk'] at hDB; cases hDB).trans (this.1 _ _ hk'),this.2⟩
     have m2:Marks (g.putM D none) ds:=by
      clear hk S2
      induction h3 with
      | nil=>exact .nil
      | cons D' ds' q0 q1 q2 _ ih =>
        refine .cons D' ds' q0 ((g.putM_ne _ fun q => ?_).trans q1) q2 (ih fun d hd=>h2 d (List.mem_cons_of_mem _ hd))
        exact h2 _ (List.mem_cons_self) (by rw[q])
     refine⟨by simp,.inl ⟨D,_,rfl,run_takeDeferred (S.fro _ _ h1),Z9 hB ds (g.putM D none) _ hgB m2 S2 (fun k o hk'=>(g.putM_ne _ fun q=>by subst q; rw[hk'] at hDB; cases hDB).trans (hb k o hk')) fun g' w' S' a1 a2 a3 a4 a5 a6 a7=>hk g' w' S' a1 a2 a3 a4 a5 a6 fun v cv hr=>a7 v cv (hr.putM h1 hc none)⟩⟩
theorem MJ {E:Env}{H:Hint}{f:FuncId}{fn:Func}{c:Code}{args:List AV}{h:Hp}{R:AV→Hp→Prop}(hm:E.P.follows .mixedOrders=true)(hf:E.P.funcs[f]? = some fn)(hb:fn.body=some c)
  (hname:(fn.name == "runtime.NumGoroutine")=false) (hok:TT fn.ntmps c=true) (hn:args.length≤fn.ntmps)
  (hw:awp E H c (OI args) h (fun e F h'=>(match e with | .exit _=>False | _=>True)∧∃ r,AAY E.P h' F fn.results.toList=some r∧R r h')):ACalls E f args h R:=by
 refine⟨⟨fn,hf,by simp [hb],hname⟩,fun g w cargs S ha => ?_⟩
 refine callsIn_wide.1 (callsIn_of_wp_marks (n:=0) hf hb trivial ?_)
 have s:Sim E fn.ntmps (g.reB g.M) (OI args) h { tmps:=cargs++Array.replicate (fn.ntmps - cargs.size) undef,defers := [] } w:=by
  refine⟨S.reB g.M,.nil,fun _ _ h=>h,by simp [ha.1]; omega,fun i => ?_⟩
  rw[ACM]
  simp only[Array.getD_eq_getD_getElem?,Array.getElem?_append]
  split
  ·rename_i hi
   have h1:i < args.length:=by rw[← ha.1]; exact hi
   rw[jS h1]
   have:=ha.2 i args[i] cargs[i] (by simp [h1]) (by simp [hi])
   simpa [hi] using this.reB g.M
  ·rename_i hi
   have h1:args.length≤i:=by rw[← ha.1]; omega
   rw[qP h1,Array.getElem?_replicate]
   have h2:(if i - cargs.size < fn.ntmps - cargs.size then some undef else none).getD undef=undef:=by split <;> rfl
   simp only[Option.getD_none]
   rw[h2]
   exact Rep.undef _
 have main : ∀ (a':Act) (w':World) (g':Gh) (F':Fr) (h':Hp) (r:AV),AAY E.P h' F' fn.results.toList=some r→R r h'→(g.reB g.M).le g'→Sim E fn.ntmps g' F' h' a' w' →
   LeavesInM Fence.wide 0 E.P fn a'.tmps (fun e w' => ∃ v cv g' h',e = .returned cv∧R v h'∧g.le g'∧SimH E g' h' w'∧Rep g' v cv) a'.defers .returning w':=by
  intro a' w' g' F' h' r hr hR hg s'
  refine Z9 (B:=g.M) (fun g0 hg0=>(S.lo _ hg0).1) a'.defers g' w' hg.B s'.defers s'.simH (fun k o hk=>hg.M k o hk) ?_
  intro g2 w2 S2 b1 b2 b3 b4 b5 b6 b7
  have s2:Sim E fn.ntmps g2 F' h' { a' with defers := [] } w2:=⟨S2,.nil,fun k o hk=>b2 k o (b1 ▸ hk),s'.size,fun i=>b7 _ _ (s'.frame i)⟩
  obtain⟨cv,q1,q2⟩:=AP0 s2 hr
  exact⟨cv,q1,r,cv,g2.reB g.B,h',rfl,hR,⟨b2,fun b l hl=>by show g2.μ b=_; rw[b3]; exact hg.μ b l hl,b4.trans hg.os,b5.trans hg.tape,b6.trans hg.output,rfl⟩,S2.reB g.B,q2.reB g.B⟩
 refine wpIn_mono (AUP (ρ:=none) hm c _ _ _ (g.reB g.M) _ w hw hok (.inl rfl) s) ?_
 rintro e a' w' ⟨x,g',F',h',rfl,⟨hx,r,hr,hR⟩,hg,s'⟩
 cases x with
 | normal=>exact main a' w' g' F' h' r hr hR hg s'
 | ret=>exact main a' w' g' F' h' r hr hR hg s'
 | exit id=>exact hx.elim
def IL (n:Nat)(h:Hp):Nat→AV→AV
 | 0,_ => .junk
 | d+1,v=>match v with
   | .own b off len=>if b < n then .junk else match h[b]? with
     | some (.live k xs)=>if off+len≤xs.length∧(((xs.drop off).take len).map (·.map (IL n h d))).all (·.all AV.leaf)=true then .sl .any k (((xs.drop off).take len).map (·.map (IL n h d))) else .junk
     | _ => .junk
   | .ptr _ _ _ => .junk
   | .fn f a b=>match a,b with
     | [],[] => .fn f [] []
     | _,_ => .junk
   | .agg cs => .agg (cs.map (IL n h d))
   | .tup cs => .tup (cs.map (IL n h d))
   | v=>v

theorem RepF.again {M:Nat→Option Obj}{g':Gh}{M'':Nat→Option Obj}(hM : ∀ k o,g'.M k=some o→M'' k=some o){v:AV}{cv0:Value}(h0:RepF M v cv0) : ∀ cv,Rep g' v cv→RepF M'' v cv:=by
 induction h0 with
 | int k n=>intro cv h; rw[h.int_inv]; exact .int k n
 | bool b=>intro cv h; rw[h.bool_inv]; exact .bool b
 | str s=>intro cv h; rw[h.str_inv]; exact .str s
 | nil k=>intro cv h; exact h.sl_inv.mono hM
 | empty m k a cap h1 h2=>intro cv h; exact h.sl_inv.mono hM
 | sl m k xs cb co c e fz cap cv h1 h2 h3 h4 h5 _ h7 h8 ih=>intro cv h; exact h.sl_inv.mono hM
 | fptr k xs i j cb co c e fz cv h3 h4 h5 _ ih=>intro cv h; exact h.fptr_inv.mono hM
 | nilp=>intro cv h; rw[h.nilp_inv]; exact .nilp
 | fn f first caps first' caps' h1 h2 _ _ ih1 ih2 =>
   intro cv h
   obtain⟨a,b,rfl,q1,q2,q3,q4⟩:=h.fn_inv
   refine .fn f first caps a b q1 q2 (fun i v cv e1 e2 => ?_) (fun i v cv e1 e2 => ?_)
   ·have hi:i < first'.size:=by rw[h1]; exact CJ e1
    exact ih1 i v first'[i] e1 (by simp [hi]) cv (q3 i v cv e1 e2)
   ·have hi:i < caps'.size:=by rw[h2]; exact CJ e1
    exact ih2 i v caps'[i] e1 (by simp [hi]) cv (q4 i v cv e1 e2)
 | nilfn=>intro cv h; rw[h.nilfn_inv]; exact .nilfn
 | agg cs vs h1 _ ih =>
   intro cv h
   obtain⟨a,rfl,q1,q2⟩:=h.agg_inv
   refine .agg cs a q1 fun i v cv e1 e2 => ?_
   have hi:i < vs.size:=by rw[h1]; exact CJ e1
   exact ih i v vs[i] e1 (by simp [hi]) cv (q2 i v cv e1 e2)
 | tup cs vs h1 _ ih =>
   intro cv h
   obtain⟨a,rfl,q1,q2⟩:=h.tup_inv
   refine .tup cs a q1 fun i v cv e1 e2 => ?_
   have hi:i < vs.size:=by rw[h1]; exact CJ e1
   exact ih i v vs[i] e1 (by simp [hi]) cv (q2 i v cv e1 e2)
 | junk v=>intro cv h; exact .junk cv
theorem Rep.restrict {g g' g'':Gh}(hM : ∀ k o,g'.M k=some o→g''.M k=some o)(hμ : ∀ b,(∃ l,g.μ b=some l)→g''.μ b=g'.μ b){v:AV}{cv0:Value}(h0:Rep g v cv0) : ∀ cv,Rep g' v cv→Rep g'' v cv:=by
 induction h0 with
 | fro h=>intro cv h'; exact .fro (h.again hM cv h')
 | own b off len cap l h1 h2 h3 =>
   intro cv h
   have hb:=hμ b ⟨l,h1⟩
   cases h with
   | fro h=>cases h
   | own _ _ _ cap' l' q1 q2 q3=>exact .own b off len cap' l' (hb.trans q1) q2 q3
   | ownz _ _ a l' q1=>exact .ownz _ _ a l' (hb.trans q1)
 | ownz b off a l h1 =>
   intro cv h
   have hb:=hμ b ⟨l,h1⟩
   cases h with
   | fro h=>cases h
   | own _ _ _ cap' l' q1 q2 q3=>exact .own b off 0 cap' l' (hb.trans q1) q2 q3
   | ownz _ _ a l' q1=>exact .ownz _ _ a l' (hb.trans q1)
 | ptr b i j l h1 =>
   intro cv h
   obtain⟨l',q1,rfl⟩:=h.ptr_inv
   exact .ptr b i j l' ((hμ b ⟨l,h1⟩).trans q1)
 | fn f first caps first' caps' h1 h2 _ _ ih1 ih2 =>
   intro cv h
   obtain⟨a,b,rfl,q1,q2,q3,q4⟩:=h.fn_inv
   refine .fn f first caps a b q1 q2 (fun i v cv e1 e2 => ?_) (fun i v cv e1 e2 => ?_)
   ·have hi:i < first'.size:=by rw[h1]; exact CJ e1
    exact ih1 i v first'[i] e1 (by simp [hi]) cv (q3 i v cv e1 e2)
   ·have hi:i < caps'.size:=by rw[h2]; exact CJ e1
    exact ih2 i v caps'[i] e1 (by simp [hi]) cv (q4 i v cv e1 e2)
 | agg cs vs h1 _ ih =>
   intro cv h
   obtain⟨a,rfl,q1,q2⟩:=h.agg_inv
   refine .agg cs a q1 fun i v cv e1 e2 => ?_
   have hi:i < vs.size:=by rw[h1]; exact CJ e1
   exact ih i v vs[i] e1 (by simp [hi]) cv (q2 i v cv e1 e2)
 | tup cs vs h1 _ ih =>
   intro cv h
   obtain⟨a,rfl,q1,q2⟩:=h.tup_inv
   refine .tup cs a q1 fun i v cv e1 e2 => ?_
   have hi:i < vs.size:=by rw[h1]; exact CJ e1
   exact ih i v vs[i] e1 (by simp [hi]) cv (q2 i v cv e1 e2)
theorem AHZ {E:Env}{g:Gh}{h:Hp}{w:World}{n:Nat}{M:Nat→Option Obj}(S:SimH E g h w)(hM : ∀ k o,g.M k=some o→M k=some o)
  (hF : ∀ b k xs l,n≤b→h[b]? = some (.live k xs)→g.μ b=some l→M l.cb=w.heap[l.cb]?) : ∀ (d:Nat) (v:AV) (cv:Value),Rep g v cv→RepF M (IL n h d v) cv
 | 0,v,cv,_=>by simp only[IL]; exact .junk _
 | d+1,v,cv,hr=>by
   have IH:=AHZ S hM hF d
   cases v with
   | own b off len =>
     simp only[IL]
     split
     ·exact .junk _
     rename_i hb
     split
     case h_2=>exact .junk _
     rename_i k xs hx
     split
     case isFalse=>exact .junk _
     rename_i hc
     obtain⟨hlen,hleaf⟩:=hc
     obtain⟨l,c,e,q1,q2,q3,q4,q5,q6,q7,q8⟩:=S.live b k xs hx
     have hMc:M l.cb=some (.cells c e (0,0)):=(hF b k xs l (by omega) hx q1).trans q4
     by_cases h0:len=0
     ·subst h0
      simp only[List.take_zero,List.map_nil]
      rcases hr.own_inv with⟨l',cap,r1,r2,r3,rfl⟩ | ⟨_,a,rfl⟩
      ·exact .empty _ _ _ _ (by simp) (by simp)
      ·exact .empty _ _ _ _ (by simp) (by simp)
     ·rcases hr.own_inv with⟨l',cap,r1,r2,r3,rfl⟩ | ⟨hz,a,rfl⟩
      ·rw[q1] at r1; cases r1
       have hlx:(((xs.drop off).take len).map (·.map (IL n h d))).length=len:=by simp; omega
       have hget : ∀ (i:Nat) (row:List AV),(((xs.drop off).take len).map (·.map (IL n h d)))[i]? = some row→∃ r,xs[off+i]? = some r∧row=r.map (IL n h d)∧i < len:=by
        intro i row hi
        rw[jY] at hi
        cases hr2:((xs.drop off).take len)[i]? with
        | none=>rw[hr2] at hi; cases hi
        | some r =>
          rw[hr2] at hi
          simp at hi
          rw[wG] at hr2
          split at hr2
          ·rename_i hil
           rw[List.getElem?_drop] at hr2
           exact⟨r,hr2,hi.symm,hil⟩
          ·cases hr2
       have key : ∀ i j,i < len→j < k→∃ cv,c[l.co+off * l.k+i * k+j]? = some cv∧∀ (row:List AV) (v:AV),(((xs.drop off).take len).map (·.map (IL n h d)))[i]? = some row→row[j]? = some v→RepF M v cv:=by
        intro i j hi hj
        have hlt:off+i < xs.length:=by omega
        have hrow:=(q7 (off+i) xs[off+i] (by simp [hlt])).1
        have hjl:j < (xs[off+i]).length:=by omega
        obtain⟨cv,s1,s2⟩:=q8 (off+i) j xs[off+i] (xs[off+i])[j] (by simp [hlt]) (by simp [hjl])
        refine⟨cv,?_,fun row v e1 e2 => ?_⟩
        ·rw[← s1]; congr 1; rw[q2,Nat.add_mul]; omega
        ·obtain⟨r,t1,t2,_⟩:=hget i row e1
         rw[jS hlt] at t1
         cases t1
         subst t2
         rw[jY,jS hjl] at e2
         simp at e2
         subst e2
         exact IH _ _ s2
       classical
       have : ∃ cvf:Nat→Nat→Value,∀ i j,i < len→j < k→c[l.co+off * l.k+i * k+j]? = some (cvf i j)∧∀ (row:List AV) (v:AV),(((xs.drop off).take len).map (·.map (IL n h d)))[i]? = some row→row[j]? = some v→RepF M v (cvf i j):=by
        refine⟨fun i j=>if hh:i < len∧j < k then (key i j hh.1 hh.2).choose else undef,fun i j hi hj => ?_⟩
        have hh:i < len∧j < k:=⟨hi,hj⟩
        simp only[hh,and_self,dite_true]
        exact(key i j hi hj).choose_spec
       obtain⟨cvf,hcv⟩:=this
       have rok:WG k (((xs.drop off).take len).map (·.map (IL n h d))):=by
        intro i row hi
        obtain⟨r,t1,t2,_⟩:=hget i row hi
        subst t2
        refine⟨by simpa using (q7 _ r t1).1,fun j v hv => ?_⟩
        rw[zI] at hleaf
        have:=hleaf _ (qC hi)
        rw[zI] at this
        exact this v (qC hv)
       have:=RepF.sl (M:=M) .any k (((xs.drop off).take len).map (·.map (IL n h d))) l.cb (l.co+off * l.k) c e (0,0) cap cvf (by intro hh; rw[hh] at hlx; simp at hlx; omega) (by simp) hMc rok
        (fun i j hi hj=>(hcv i j (hlx ▸ hi) hj).1) (fun i j row v e1 e2=>by
         have hi:i < len:=hlx ▸ CJ e1
         have hj:j < k:=by rw[← (rok i row e1).1]; exact CJ e2
         exact(hcv i j hi hj).2 row v e1 e2) (by rw[hlx]; exact r2) (by simp)
       rw[hlx] at this
       exact this
      ·exact absurd hz h0
   | ptr b i j=>simp only[IL]; exact .junk _
   | fn f a b =>
     simp only[IL]
     split
     ·obtain⟨a',b',rfl,q1,q2,_⟩:=hr.fn_inv
      exact .fn f [] [] a' b' q1 q2 (by simp) (by simp)
     ·exact .junk _
   | agg cs =>
     simp only[IL]
     obtain⟨a,rfl,q1,q2⟩:=hr.agg_inv
     refine .agg _ a (by simpa using q1) fun i v cv e1 e2 => ?_
     rw[jY] at e1
     cases hc:cs[i]? with
     | none=>rw[hc] at e1; cases e1
     | some x=>rw[hc] at e1; simp at e1; subst e1; exact IH _ _ (q2 i x cv hc e2)
   | tup cs =>
     simp only[IL]
     obtain⟨a,rfl,q1,q2⟩:=hr.tup_inv
     refine .tup _ a (by simpa using q1) fun i v cv e1 e2 => ?_
     rw[jY] at e1
     cases hc:cs[i]? with
     | none=>rw[hc] at e1; cases e1
     | some x=>rw[hc] at e1; simp at e1; subst e1; exact IH _ _ (q2 i x cv hc e2)
   | int k n=>rw[hr.int_inv]; simp only[IL]; exact .int _ _
   | bool b=>rw[hr.bool_inv]; simp only[IL]; exact .bool _
   | str s=>rw[hr.str_inv]; simp only[IL]; exact .str _
   | sl m k xs=>simp only[IL]; exact hr.sl_inv.mono hM
   | fptr k xs i j=>simp only[IL]; exact hr.fptr_inv.mono hM
   | nilp=>rw[hr.nilp_inv]; simp only[IL]; exact .nilp
   | nilfn=>rw[hr.nilfn_inv]; simp only[IL]; exact .nilfn
   | junk=>simp only[IL]; exact .junk _
def Keep (n d:Nat)(h h' h1:Hp)(b:Nat):Prop :=
 h1[b]? = some .dead∨(h1[b]? = h'[b]?∧h'[b]? = h[b]?)∨∃ k xs,h'[b]? = some (.live k xs)∧h1[b]? = some (.live k (xs.map (·.map (IL n h' d))))∧(xs.map (·.map (IL n h' d))).all (·.all AV.leaf)=true
theorem ACalls.trunc {E:Env}{f:FuncId}{args:List AV}{h:Hp}{R R':AV→Hp→Prop}(hc:ACalls E f args h R)
  (hk : ∀ v h',R v h'→∃ d h1,h1.length=h.length∧(∀ b,b < h.length→Keep h.length d h h' h1 b)∧R' (IL h.length h' d v) h1):ACalls E f args h R':=by
 refine⟨hc.1,fun g w cargs S ha=>(hc.2 g w cargs S ha).mono ?_⟩
 rintro e w' ⟨v,cv,g',h',rfl,hR,hle,S',hr⟩
 obtain⟨d,h1,hlen,hkeep,hR'⟩:=hk v h' hR
 classical
 let M:Nat→Option Obj:=fun k=>match g'.M k with
  | some o=>some o
  | none=>if ∃ b k' xs l,h.length≤b∧h'[b]? = some (ABlk.live k' xs)∧g'.μ b=some l∧l.cb=k then w'.heap[k]? else none
 have hM : ∀ k o,g'.M k=some o→M k=some o:=fun k o hk=>by simp only[M,hk]
 have hMin : ∀ b k xs l,h.length≤b→h'[b]? = some (.live k xs)→g'.μ b=some l→M l.cb=w'.heap[l.cb]? := by
  intro b k xs l hb hx hl
  obtain⟨l',c,e,q1,q2,q3,q4,_⟩:=S'.live b k xs hx
  rw[hl] at q1; cases q1
  simp only[M,q3]
  rw[if_pos ⟨b,k,xs,l,hb,hx,hl,rfl⟩]
 have hMout : ∀ b x l,b < h.length→h'[b]? = some x→x≠.dead→g'.μ b=some l→g'.M l.cb=none→M l.cb=none:=by
  intro b x l hb hx hn hl h0
  simp only[M,h0]
  rw[if_neg]
  rintro⟨b',k',xs',l',q1,q2,q3,q4⟩
  have:=S'.inj b b' x _ l l' hx hn q2 (by simp) hl q3 q4.symm
  omega
 let g2:Gh := { g' with M:=M,μ:=fun b=>if b < h.length then g'.μ b else none }
 have hμ : ∀ b,b < h.length→g2.μ b=g'.μ b:=fun b hb=>by simp [g2,hb]
 have hdom : ∀ b,(∃ l,g.μ b=some l)→g2.μ b=g'.μ b:=by
  rintro b ⟨l,hl⟩
  refine hμ b ?_
  rcases zM b h.length with hb | hb
  ·exact hb
  ·rw[S.fresh b hb] at hl; cases hl
 have hfz:=AHZ (n:=h.length) S' hM hMin
 refine⟨IL h.length h' d v,cv,g2,h1,rfl,hR',?_,?_,.fro (hfz d v cv hr)⟩
 ·exact⟨fun k o hk=>hM k o (hle.M k o hk),fun b l hl=>by rw[hdom b ⟨l,hl⟩]; exact hle.μ b l hl,hle.os,hle.tape,hle.output,hle.B⟩
 ·refine⟨S'.os,S'.tape,S'.output,?_,fun g0 hk=>⟨fun k o x=>hM k o ((S'.lo g0 hk).1 k o x),fun b l x=>by have h1:=(S.lo g0 hk).2 b l x; rw[hdom b ⟨l,h1⟩]; exact hle.μ b l h1⟩,?_,?_,?_,?_,fun n=>(S'.glob n).mono hM⟩
  ·intro k o hk
   change M k=some o at hk
   simp only[M] at hk
   split at hk
   ·rename_i o' ho'; cases hk; exact S'.fro k o ho'
   ·split at hk
    ·exact hk
    ·cases hk
  ·intro b k xs hx
   have hb:b < h.length:=hlen ▸ CJ hx
   rcases hkeep b hb with k1 | ⟨k1,k2⟩ | ⟨k',xs',k1,k2,k3⟩
   ·rw[k1] at hx; cases hx
   ·rw[k1] at hx
    obtain⟨l,c,e,q1,q2,q3,q4,q5,q6,q7,q8⟩:=S'.live b k xs hx
    rw[k2] at hx
    obtain⟨l0,c0,e0,p1,p2,p3,p4,p5,p6,p7,p8⟩:=S.live b k xs hx
    refine⟨l,c,e,(hμ b hb).trans q1,q2,hMout b _ l hb (k2.trans hx) (by simp) q1 q3,q4,q5,q6,q7,fun i j row v e1 e2 => ?_⟩
    obtain⟨cv,s1,s2⟩:=q8 i j row v e1 e2
    obtain⟨cv0,_,t2⟩:=p8 i j row v e1 e2
    exact⟨cv,s1,t2.restrict hM hdom cv s2⟩
   ·rw[k2] at hx
    cases hx
    obtain⟨l,c,e,q1,q2,q3,q4,q5,q6,q7,q8⟩:=S'.live b k xs' k1
    refine⟨l,c,e,(hμ b hb).trans q1,q2,hMout b _ l hb k1 (by simp) q1 q3,q4,q5,by simpa using q6,?_,?_⟩
    ·intro i row hi
     have hi0:=hi
     rw[jY] at hi
     cases hr2:xs'[i]? with
     | none=>rw[hr2] at hi; cases hi
     | some r =>
       rw[hr2] at hi; simp at hi; subst hi
       refine⟨by simpa using (q7 i r hr2).1,fun j v hv => ?_⟩
       rw[zI] at k3
       have:=k3 _ (qC hi0)
       rw[zI] at this
       exact this v (qC hv)
    ·intro i j row v hi hv
     rw[jY] at hi
     cases hr2:xs'[i]? with
     | none=>rw[hr2] at hi; cases hi
     | some r =>
       rw[hr2] at hi; simp at hi; subst hi
       rw[jY] at hv
       cases hv2:r[j]? with
       | none=>rw[hv2] at hv; cases hv
       | some x =>
         rw[hv2] at hv; simp at hv; subst hv
         obtain⟨cv,s1,s2⟩:=q8 i j r x hr2 hv2
         exact⟨cv,s1,.fro (hfz d x cv s2)⟩
  ·intro b s pos hx
   have hb:b < h.length:=hlen ▸ CJ hx
   rcases hkeep b hb with k1 | ⟨k1,k2⟩ | ⟨k',xs',k1,k2,k3⟩
   ·rw[k1] at hx; cases hx
   ·rw[k1] at hx
    obtain⟨l,q1,q2,q3,q4,q5⟩:=S'.iter b s pos hx
    exact⟨l,(hμ b hb).trans q1,q2,q3,hMout b _ l hb hx (by simp) q1 q4,q5⟩
   ·rw[k2] at hx; cases hx
  ·have back : ∀ b x,h1[b]? = some x→x≠.dead→b < h.length∧∃ y,h'[b]? = some y∧y≠.dead:=by
    intro b x hx hn
    have hb:b < h.length:=hlen ▸ CJ hx
    refine⟨hb,?_⟩
    rcases hkeep b hb with k1 | ⟨k1,k2⟩ | ⟨k',xs',k1,k2,k3⟩
    ·rw[k1] at hx; cases hx; exact absurd rfl hn
    ·exact⟨x,k1 ▸ hx,hn⟩
    ·exact⟨_,k1,by simp⟩
   intro b b' x x' l l' e1 n1 e2 n2 m1 m2 hcb
   obtain⟨hb,y,hy,hyn⟩:=back b x e1 n1
   obtain⟨hb',y',hy',hyn'⟩:=back b' x' e2 n2
   rw[hμ b hb] at m1
   rw[hμ b' hb'] at m2
   exact S'.inj b b' y y' l l' hy hyn hy' hyn' m1 m2 hcb
  ·intro b hb
   have : ¬ b < h.length:=by omega
   simp [g2,this]
theorem ACalls.pure {E:Env}{f:FuncId}{args:List AV}{h:Hp}{R:AV→Hp→Prop}{r:AV}(d:Nat)(hc:ACalls E f args h R)
  (hk : ∀ v h',R v h'→(∃ x,h'=h++x)∧IL h.length h' d v=r):PCall E f args h r:=by
 refine hc.trunc fun v h' hR => ?_
 obtain⟨⟨x,rfl⟩,hr⟩:=hk v h' hR
 exact⟨d,h,rfl,fun b hb => .inr (.inl ⟨by rw[zO hb],by rw[zO hb]⟩),hr,rfl⟩
theorem ACalls.pure0 {E:Env}{f:FuncId}{args:List AV}{h:Hp}{r:AV}(hr:(match r with | .int _ _=>true | .bool _=>true | .str _=>true | .sl _ _ _=>true | _=>false)=true)(hc:ACalls E f args h fun v h'=>v=r∧∃ x,h'=h++x):PCall E f args h r :=
 hc.pure 1 fun v h' ⟨e,x⟩=>⟨x,by subst e; cases v <;> simp at hr <;> rfl⟩
theorem ALY {g:Gh}{k k':Nat}{cv:Value}(h:Rep g (.sl .nil k []) cv):Rep g (.sl .nil k' []) cv:=by
 have:=h.sl_inv
 cases this with
 | nil=>exact .fro (.nil k')
 | empty _ _ _ _ h1=>exact absurd rfl h1
 | sl _ _ _ _ _ _ _ _ _ _ h1=>exact absurd rfl h1
theorem ACalls.conv {E:Env}{f:FuncId}{args:List AV}{h:Hp}{R R':AV→Hp→Prop}(hc:ACalls E f args h R)(hr : ∀ v h',R v h'→∃ v',R' v' h'∧∀ g cv,Rep g v cv→Rep g v' cv):ACalls E f args h R' :=
 ⟨hc.1,fun g w cargs S ha=>(hc.2 g w cargs S ha).mono fun _ _ ⟨v,cv,g',h',e,r,q1,q2,q3⟩=>let ⟨v',r',q4⟩:=hr v h' r; ⟨v',cv,g',h',e,r',q1,q2,q4 g' cv q3⟩⟩
end Go.Proofs.YtfpagfhhhlljjaaGreatDoor.Sm
set_option linter.unusedSimpArgs false
set_option maxRecDepth 8000
namespace Go.Proofs.YtfpagfhhhlljjaaGreatDoor.Sm

def AVW (E:Env)(H:Hint)(b:Code)(Q:AEx→Fr→Hp→Prop):AEx→Fr→Hp→Prop:=ZN (fun F h=>awp E H b F h Q) Q
theorem BA (E:Env)(H:Hint)(b:Code)(Q:AEx→Fr→Hp→Prop)(F:Fr)(h:Hp):AVW E H b Q .normal F h=awp E H b F h Q:=rfl
theorem ED (E:Env)(H:Hint)(b:Code)(Q:AEx→Fr→Hp→Prop)(F:Fr)(h:Hp)(i:Nat):AVW E H b Q (.exit i) F h=Q (.exit i) F h:=rfl
theorem CO (E:Env)(H:Hint)(b:Code)(Q:AEx→Fr→Hp→Prop)(F:Fr)(h:Hp):AVW E H b Q .ret F h=Q .ret F h:=rfl
theorem EJ (id:Nat)(Q:AEx→Fr→Hp→Prop)(F:Fr)(h:Hp):SB id Q .normal F h=Q .normal F h:=rfl
theorem EH (id:Nat)(Q:AEx→Fr→Hp→Prop)(F:Fr)(h:Hp):SB id Q .ret F h=Q .ret F h:=rfl
theorem EU (id i:Nat)(Q:AEx→Fr→Hp→Prop)(F:Fr)(h:Hp):SB id Q (.exit i) F h=if i=id then Q .normal F h else Q (.exit i) F h:=rfl
def AZ0 (I:Nat→Fr→Hp→Prop)(n:Nat)(Q:AEx→Fr→Hp→Prop):AEx→Fr→Hp→Prop:=ZN (fun F' h' => ∃ m,m < n∧I m F' h') Q
theorem EQ (I:Nat→Fr→Hp→Prop)(n:Nat)(Q:AEx→Fr→Hp→Prop)(F:Fr)(h:Hp):AZ0 I n Q .normal F h = ∃ m,m < n∧I m F h:=rfl
theorem ES (I:Nat→Fr→Hp→Prop)(n:Nat)(Q:AEx→Fr→Hp→Prop)(F:Fr)(h:Hp)(i:Nat):AZ0 I n Q (.exit i) F h=Q (.exit i) F h:=rfl
theorem FO (I:Nat→Fr→Hp→Prop)(n:Nat)(Q:AEx→Fr→Hp→Prop)(F:Fr)(h:Hp):AZ0 I n Q .ret F h=Q .ret F h:=rfl
def EM (P:Program)(rs:List ResultVar)(R:AV→Hp→Prop):AEx→Fr→Hp→Prop:=fun e F h'=>(match e with | .exit _=>False | _=>True)∧∃ r,AAY P h' F rs=some r∧R r h'
theorem CG (P:Program)(t:Nat)(R:AV→Hp→Prop)(F:Fr)(h:Hp):EM P [.tmp t] R .ret F h=R (F t) h:=by simp [EM,AAY,TY]
theorem AFJ (P:Program)(R:AV→Hp→Prop)(F:Fr)(h:Hp):EM P [] R .normal F h=R (.tup []) h:=by simp [EM,AAY,QW]
theorem IG (P:Program)(t u:Nat)(R:AV→Hp→Prop)(F:Fr)(h:Hp):EM P [.tmp t,.tmp u] R .ret F h=R (.tup [F t,F u]) h:=by simp [EM,AAY,QW,TY]
theorem PI (P:Program)(t u v:Nat)(R:AV→Hp→Prop)(F:Fr)(h:Hp):EM P [.tmp t,.tmp u,.tmp v] R .ret F h=R (.tup [F t,F u,F v]) h:=by simp [EM,AAY,QW,TY]
theorem QQ (P:Program)(t u v x:Nat)(R:AV→Hp→Prop)(F:Fr)(h:Hp):EM P [.tmp t,.tmp u,.tmp v,.tmp x] R .ret F h=R (.tup [F t,F u,F v,F x]) h:=by simp [EM,AAY,QW,TY]
def AFU (E:Env)(H:Hint)(x y:Code)(F:Fr)(h:Hp)(Q:AEx→Fr→Hp→Prop)(v:AV):Prop:=match v with
 | .bool t=>(t=true→awp E H x F h Q)∧(t=false→awp E H y F h Q)
 | _=>False
theorem C9 (E:Env)(H:Hint)(x y:Code)(F:Fr)(h:Hp)(Q:AEx→Fr→Hp→Prop):AFU E H x y F h Q (.bool true)=awp E H x F h Q:=by simp [AFU]
theorem DJ (E:Env)(H:Hint)(x y:Code)(F:Fr)(h:Hp)(Q:AEx→Fr→Hp→Prop):AFU E H x y F h Q (.bool false)=awp E H y F h Q:=by simp [AFU]
theorem CU {E:Env}{H:Hint}{x y:Code}{F:Fr}{h:Hp}{Q:AEx→Fr→Hp→Prop}{b:Bool}(h1:b=true→awp E H x F h Q)(h2:b=false→awp E H y F h Q):AFU E H x y F h Q (.bool b):=⟨h1,h2⟩
theorem BO (E:Env)(H:Hint)(F:Fr)(h:Hp)(Q:AEx→Fr→Hp→Prop):awp E H .skip F h Q=Q .normal F h:=rfl
theorem BK (E:Env)(H:Hint)(F:Fr)(h:Hp)(Q:AEx→Fr→Hp→Prop):awp E H .ret F h Q=Q .ret F h:=rfl
theorem DF (E:Env)(H:Hint)(i:Nat)(F:Fr)(h:Hp)(Q:AEx→Fr→Hp→Prop):awp E H (.exit i) F h Q=Q (.exit i) F h:=rfl
theorem BC (E:Env)(H:Hint)(a b:Code)(F:Fr)(h:Hp)(Q:AEx→Fr→Hp→Prop):awp E H (.seq a b) F h Q=awp E H a F h (AVW E H b Q):=rfl
theorem BP (E:Env)(H:Hint)(id:Nat)(b:Code)(F:Fr)(h:Hp)(Q:AEx→Fr→Hp→Prop):awp E H (.block id b) F h Q=awp E H b F h (SB id Q):=rfl
theorem BI (E:Env)(H:Hint)(c:Operand)(x y:Code)(F:Fr)(h:Hp)(Q:AEx→Fr→Hp→Prop):awp E H (.cond c x y) F h Q=AFU E H x y F h Q (ev E F c):=rfl
theorem DL {E:Env}{H:Hint}{b:Code}{F:Fr}{h:Hp}{Q:AEx→Fr→Hp→Prop}(I:Nat→Fr→Hp→Prop)(n:Nat)(h0:I n F h)(hr : ∀ n F h,I n F h→awp E H b F h (AZ0 I n Q)):awp E H (.loop b) F h Q:=⟨I,⟨n,h0⟩,hr⟩
def CP:List Oper→Nat→Option Tmp
 | [],_=>none
 | o :: _,0=>o.dst
 | _ :: r,j+1=>CP r j
theorem WX : ∀ (l:List Oper) (j:Nat),AGT (l.map (·.dst)) j=CP l j
 | [],j=>by simp [AGT,CP]
 | o :: l,0=>by simp [AGT,CP]
 | o :: l,j+1=>by simp [AGT,CP,WX l j]
def WW (E:Env)(H:Hint)(ops:List Oper)(l:List Oper)(F:Fr)(h:Hp)(K:Fr→Hp→Prop):Prop:=W E H (ops.map (·.dst)) l F h K
def AG6 (E:Env)(H:Hint)(ops:List Oper)(d:Option Tmp)(r:List Oper)(F:Fr)(K:Fr→Hp→Prop):AV→Hp→Prop:=fun v h'=>WW E H ops r (EW F d v) h' K
theorem AC (E:Env)(H:Hint)(ops:List Oper)(d:Tmp)(r:List Oper)(F:Fr)(K:Fr→Hp→Prop)(v:AV)(h:Hp):AG6 E H ops (some d) r F K v h=WW E H ops r (upd F d v) h K:=rfl
theorem ET (E:Env)(H:Hint)(ops:List Oper)(r:List Oper)(F:Fr)(K:Fr→Hp→Prop)(v:AV)(h:Hp):AG6 E H ops none r F K v h=WW E H ops r F h K:=rfl
def X1 (E:Env)(own:Bool)(op:Op)(s:Fr × Hp)(c:Fr→AV→Hp→Prop):Prop:=QL E own op s.1 s.2 (c s.1)
def wc (E:Env)(H:Hint)(ops:List Oper)(d:Option Tmp)(r:List Oper)(K:Fr→Hp→Prop):Fr→AV→Hp→Prop:=fun F=>AG6 E H ops d r F K
def G1 (E:Env)(H:Hint)(ops:List Oper)(d:Option Tmp)(op:Op)(r:List Oper)(F:Fr)(h:Hp)(K:Fr→Hp→Prop)(want:Bool)(v:AV):Prop :=
 match v with
 | .bool b=>((b == want)=true→X1 E (BD op (H.md (d.getD 0))) op (MC (F,h) (H.fz (d.getD 0))) (wc E H ops d r K))∧((b == want)=false→WW E H ops r (EW F d JA) h K)
 | .tup []=>WW E H ops r (EW F d JA) h K
 | _=>False
theorem BB (E:Env)(H:Hint)(ops:List Oper)(F:Fr)(h:Hp)(K:Fr→Hp→Prop):WW E H ops [] F h K=K F h:=rfl
theorem AY (E:Env)(H:Hint)(ops:List Oper)(d:Option Tmp)(op:Op)(t:TypeId)(p:String)(e:Array Edge)(r:List Oper)(F:Fr)(h:Hp)(K:Fr→Hp→Prop) :
  WW E H ops (⟨d,op,t,p,e,none⟩ :: r) F h K=X1 E (BD op (H.md (d.getD 0))) op (MC (F,h) (H.fz (d.getD 0))) (wc E H ops d r K):=by
 simp only[WW,W,O9,true_imp_iff,Bool.true_eq_false,false_imp_iff,and_true,X1]
 rfl
theorem AY3 (E:Env)(H:Hint)(ops:List Oper)(d:Option Tmp)(op:Op)(t:TypeId)(p:String)(e:Array Edge)(j:Nat)(want:Bool)(r:List Oper)(F:Fr)(h:Hp)(K:Fr→Hp→Prop)(g:Tmp)(hg:CP ops j=some g) :
  WW E H ops (⟨d,op,t,p,e,some (j,want)⟩ :: r) F h K=G1 E H ops d op r F h K want (F g):=by
 simp only[WW,W,O9,WX,hg,G1]
 generalize F g=v
 cases v with
 | bool b=>rfl
 | tup vs=>cases vs with
   | nil=>simp
   | cons=>rfl
 | _=>rfl
def GX (E:Env)(H:Hint)(ops:List Oper)(d:Option Tmp)(op:Op)(r:List Oper)(F:Fr)(h:Hp)(K:Fr→Hp→Prop)(want:Bool)(o:Option Tmp):Prop:=match o with
 | some g=>G1 E H ops d op r F h K want (F g)
 | none=>WW E H ops r (EW F d JA) h K
theorem BV (E:Env)(H:Hint)(ops:List Oper)(d:Option Tmp)(op:Op)(r:List Oper)(F:Fr)(h:Hp)(K:Fr→Hp→Prop)(want:Bool)(g:Tmp):GX E H ops d op r F h K want (some g)=G1 E H ops d op r F h K want (F g):=rfl
theorem BL (E:Env)(H:Hint)(ops:List Oper)(d:Option Tmp)(op:Op)(t:TypeId)(p:String)(e:Array Edge)(j:Nat)(want:Bool)(r:List Oper)(F:Fr)(h:Hp)(K:Fr→Hp→Prop) :
  WW E H ops (⟨d,op,t,p,e,some (j,want)⟩ :: r) F h K=GX E H ops d op r F h K want (CP ops j):=by
 cases hg:CP ops j with
 | some g=>exact AY3 E H ops d op t p e j want r F h K g hg
 | none=>simp [WW,W,O9,WX,hg,GX]
theorem I4 {E:Env}{H:Hint}{ops:List Oper}{d:Option Tmp}{op:Op}{r:List Oper}{F:Fr}{h:Hp}{K:Fr→Hp→Prop}{want b:Bool}(ht:b=true→G1 E H ops d op r F h K want (.bool true))(hf:b=false→G1 E H ops d op r F h K want (.bool false)):G1 E H ops d op r F h K want (.bool b):=by
 cases b
 ·exact hf rfl
 ·exact ht rfl
theorem GK (E:Env)(H:Hint)(ops:List Oper)(d:Option Tmp)(op:Op)(r:List Oper)(F:Fr)(h:Hp)(K:Fr→Hp→Prop):G1 E H ops d op r F h K true (.bool true)=X1 E (BD op (H.md (d.getD 0))) op (MC (F,h) (H.fz (d.getD 0))) (wc E H ops d r K):=by simp [G1]
theorem ER (E:Env)(H:Hint)(ops:List Oper)(d:Option Tmp)(op:Op)(r:List Oper)(F:Fr)(h:Hp)(K:Fr→Hp→Prop):G1 E H ops d op r F h K false (.bool false)=X1 E (BD op (H.md (d.getD 0))) op (MC (F,h) (H.fz (d.getD 0))) (wc E H ops d r K):=by simp [G1]
theorem IR (E:Env)(H:Hint)(ops:List Oper)(d:Option Tmp)(op:Op)(r:List Oper)(F:Fr)(h:Hp)(K:Fr→Hp→Prop):G1 E H ops d op r F h K true (.bool false)=WW E H ops r (EW F d JA) h K:=by simp [G1]
theorem FV (E:Env)(H:Hint)(ops:List Oper)(d:Option Tmp)(op:Op)(r:List Oper)(F:Fr)(h:Hp)(K:Fr→Hp→Prop):G1 E H ops d op r F h K false (.bool true)=WW E H ops r (EW F d JA) h K:=by simp [G1]
theorem TD (E:Env)(H:Hint)(ops:List Oper)(d:Option Tmp)(op:Op)(r:List Oper)(F:Fr)(h:Hp)(K:Fr→Hp→Prop)(want:Bool):G1 E H ops d op r F h K want JA=WW E H ops r (EW F d JA) h K:=rfl
def J5 (o:Option (AV × Hp))(K:AV→Hp→Prop):Prop:=match o with
 | some (v,h)=>K v h
 | none=>False
theorem BZ (v:AV)(h:Hp)(K:AV→Hp→Prop):J5 (some (v,h)) K=K v h:=rfl
theorem AB (v:AV)(h:Hp)(K:AV→Hp→Prop):J5 (ofO h (some v)) K=K v h:=rfl
theorem DI (h:Hp)(K:AV→Hp→Prop):J5 (ofS (some h)) K=K JA h:=rfl
def ANF (E:Env)(f:AV)(args:List AV)(h:Hp)(K:AV→Hp→Prop):Prop:=match f with
 | .fn (.func fid) first caps=>ACalls E fid (first++(args++caps)) h K
 | .fn (.yield l) [] []=>YC E l args h K
 | _=>False
theorem A1N (E:Env)(l:Nat)(args:List AV)(h:Hp)(K:AV→Hp→Prop):ANF E (.fn (.yield l) [] []) args h K=YC E l args h K:=rfl
theorem BU (E:Env)(fid:FuncId)(args caps:List AV)(h:Hp)(K:AV→Hp→Prop):ANF E (.fn (.func fid) [] caps) args h K=ACalls E fid (args++caps) h K:=rfl
theorem CE (E:Env)(own:Bool)(f:Operand)(as:Array Operand)(ts:Array TypeId)(F:Fr)(h:Hp)(c:Fr→AV→Hp→Prop) :
  X1 E own (.call { callee := .value f,args:=as,argTypes:=ts }) (F,h) c=ANF E (ev E F f) (as.toList.map (ev E F)) h (c F):=by
 unfold X1 QL ANF
 rfl
theorem A8D (E:Env)(own:Bool)(op:Op)(F:Fr)(h:Hp)(c:Fr→AV→Hp→Prop)(hop:(match op with | .call { callee := .value _,.. }=>false | _=>true)=true) :
  X1 E own op (F,h) c=J5 (aop E.P own h (ev E F) op) (c F):=by
 unfold X1 QL J5
 split
 ·simp at hop
 ·rfl
theorem AX (E:Env)(H:Hint)(ops:List Oper)(d:Option Tmp)(r:List Oper)(K:Fr→Hp→Prop)(F:Fr):wc E H ops d r K F=AG6 E H ops d r F K:=rfl
theorem A8 (E:Env)(H:Hint)(i:Nat)(l:List Oper)(F:Fr)(h:Hp)(Q:AEx→Fr→Hp→Prop):awp E H (.region i l.toArray false) F h Q=WW E H l l F h (Q .normal):=rfl
theorem AA (F:Nat→AV)(d i:Nat)(v:AV):upd F d v i=if i=d then v else F i:=rfl
theorem A7 (E:Env)(F:Fr)(t:Nat):ev E F (.tmp t)=F t:=rfl
theorem AU (E:Env)(F:Fr)(v:Value):ev E F (.const v)=V7 v:=rfl
theorem CB (E:Env)(F:Fr)(f:Nat):ev E F (.func f) = .fn (.func f) [] []:=rfl
theorem A06 (E:Env)(F:Fr)(f:Nat):ev E F (.global f)=E.G f:=rfl
theorem BH (k:IntKind)(n:Int):V7 (.int k n) = .int k n:=rfl
theorem BM (b:Bool):V7 (.bool b) = .bool b:=rfl
theorem I8 (s:ByteArray):V7 (.string s) = .str s:=rfl
theorem HY:V7 (.slice none 0 0) = .sl .nil 0 []:=rfl
theorem A1Y:V7 (.pointer none) = .nilp:=rfl
theorem ANJ:V7 .nilFunc = .nilfn:=rfl
section
variable (E:Env) (own:Bool) (F:Fr) (h:Hp) (c:Fr→AV→Hp→Prop)
theorem BG (x:Operand):X1 E own (.move x) (F,h) c=c F (ev E F x) h:=rfl
theorem AZ (x:Operand):X1 E own (.assign x) (F,h) c=c F (ev E F x) h:=rfl
def ARC (a b:AV)(h:Hp)(K:AV→Hp→Prop)(v:AV):Prop:=match v with
 | .bool true=>K a h
 | .bool false=>K b h
 | _=>False
theorem CQ (x a b:Operand):X1 E own (.pick x a b) (F,h) c=ARC (ev E F a) (ev E F b) h (c F) (ev E F x):=by
 simp only[X1,QL,aop,ARC]
 generalize ev E F x=v
 cases v with
 | bool b=>cases b <;> rfl
 | _=>rfl
theorem DZ (a b:AV)(K:AV→Hp→Prop):ARC a b h K (.bool true)=K a h:=rfl
theorem DR (a b:AV)(K:AV→Hp→Prop):ARC a b h K (.bool false)=K b h:=rfl
theorem FT (e:TypeId):X1 E own (.alloc e) (F,h) c=J5 (KN E.P h e) (c F):=rfl
theorem FN (e:TypeId)(x:Operand):X1 E own (.box e x) (F,h) c=J5 (O7 h (ev E F x)) (c F):=rfl
theorem JP (t:TypeId)(ps:List (Nat × Operand)):X1 E own (.build t ps.toArray) (F,h) c=J5 (ofO h (LM E.P t (evp (ev E F) ps))) (c F):=rfl
theorem EN (t:TypeId)(n:Nat)(ps:List (Nat × Operand)):X1 E own (.buildSlice t n ps.toArray) (F,h) c=J5 (FM E.P own h t n (evp (ev E F) ps)) (c F):=rfl
theorem BQ (t:TypeId)(a:Operand):X1 E own (.load t a) (F,h) c=J5 (ofO h (D8 E.P h t (ev E F a))) (c F):=rfl
theorem EK (t:TypeId)(a x:Operand):X1 E own (.store t a x) (F,h) c=J5 (ofS (FP E.P h t (ev E F a) (ev E F x))) (c F):=rfl
theorem BR (op:BinOp)(t u:TypeId)(x y:Operand):X1 E own (.binOp op t x y u) (F,h) c=J5 (ofO h (JY E.P t op (ev E F x) (ev E F y))) (c F):=rfl
theorem G5 (op:UnOp)(t:TypeId)(x:Operand):X1 E own (.unOp op t x) (F,h) c=J5 (ofO h (aUn op (ev E F x))) (c F):=rfl
theorem AA8 (s d:TypeId)(x:Operand):X1 E own (.convert s d x) (F,h) c=J5 (ofO h (XE E.P s d (ev E F x))) (c F):=rfl
theorem I5 (fn:Fn)(a b:List Operand):X1 E own (.makeFunc fn a.toArray b.toArray) (F,h) c=c F (.fn fn (a.map (ev E F)) (b.map (ev E F))) h:=rfl
theorem KJ (t:TypeId)(l k:Operand):X1 E own (.makeSlice t l k) (F,h) c=J5 (JO E.P own h t (ev E F l) (ev E F k)) (c F):=rfl
theorem TE (t:TypeId)(x:Operand)(lo hi mx:Option Operand):X1 E own (.slice t x lo hi mx) (F,h) c=J5 (ofO h (KL E.P h t (ev E F x) (lo.map (ev E F)) (hi.map (ev E F)) (mx.map (ev E F)))) (c F):=rfl
theorem BJ (t:TypeId)(x:Operand)(f:Nat):X1 E own (.fieldAddr t x f) (F,h) c=J5 (ofO h (D6 E.P t (ev E F x) f)) (c F):=rfl
theorem BX (t:TypeId)(x i:Operand):X1 E own (.indexAddr t x i) (F,h) c=J5 (ofO h (G7 E.P h t (ev E F x) (ev E F i))) (c F):=rfl
theorem O8 (t:TypeId)(x i:Operand):X1 E own (.index t x i) (F,h) c=J5 (ofO h (OT E.P t (ev E F x) (ev E F i))) (c F):=rfl
theorem AZG (t:TypeId)(x:Operand):X1 E own (.range t x) (F,h) c=J5 (AB6 E.P h t (ev E F x)) (c F):=rfl
theorem AVC (it:Operand)(s:Bool):X1 E own (.next it s) (F,h) c=J5 (ACV h (ev E F it) s) (c F):=rfl
def A4G (h:Hp)(i:Nat)(K:AV→Hp→Prop)(v:AV):Prop:=match v with
 | .tup vs=>J5 (ofO h vs[i]?) K
 | _=>False
theorem FB (t:Operand)(i:Nat):X1 E own (.extract t i) (F,h) c=A4G h i (c F) (ev E F t):=by
 simp only[X1,QL,aop,A4G,J5]
 cases ev E F t <;> rfl
theorem GL (vs:List AV)(i:Nat)(K:AV→Hp→Prop):A4G h i K (.tup vs)=J5 (ofO h vs[i]?) K:=rfl
theorem DU (a:Operand)(t:TypeId):X1 E own (.call { callee := .builtin .len,args := #[a],argTypes := #[t] }) (F,h) c=J5 (ofO h (L9 E.P t (ev E F a))) (c F):=rfl
theorem AQN (a b:Operand)(ts:Array TypeId):X1 E own (.call { callee := .builtin .max,args := #[a,b],argTypes:=ts }) (F,h) c=J5 (ofO h (VZ AIK (ev E F a) [ev E F b])) (c F):=rfl
theorem AQM (a b:Operand)(ts:Array TypeId):X1 E own (.call { callee := .builtin .min,args := #[a,b],argTypes:=ts }) (F,h) c=J5 (ofO h (VZ AIJ (ev E F a) [ev E F b])) (c F):=rfl
theorem GR (s x:Operand)(t0 t1:TypeId):X1 E true (.call { callee := .builtin .append,args := #[s,x],argTypes := #[t0,t1] }) (F,h) c=J5 (GM E.P true h t0 t1 (ev E F s) (ev E F x)) (c F):=rfl
theorem AZH (s:Operand)(t0:TypeId):X1 E own (.call { callee := .builtin .clear,args := #[s],argTypes := #[t0] }) (F,h) c=J5 (AB7 E.P h t0 (ev E F s)) (c F):=rfl
end
theorem AJO {P:Program}{t:TypeId}{fields:Array Field}{f:Nat}{fl:Field}{n:Nat}(hu:P.underlying t=some (.struct fields))(hf:fields[f]? = some fl)(hs:szO P fl.type=some (n+1))(off:Nat)(ho:fl.offset=off) :
  (∀ b i j,D6 P t (.ptr b i j) f=some (.ptr b i (j+off)))∧(∀ k xs i j,D6 P t (.fptr k xs i j) f=some (.fptr k xs i (j+off))):=by
 subst ho
 constructor <;> intros <;> simp [D6,hu,hf,hs]
def J3 (k:Nat)(h:Hp)(a ix:AV):Option AV:=match ix with
 | .int _ i=>match a with
   | .sl _ k' xs=>if k=k'∧0≤i∧i < (xs.length:Int) then some (.fptr k' xs i.toNat 0) else none
   | .own b off len=>match h[b]? with
     | some (.live k' _)=>if k=k'∧0≤i∧i < (len:Int) then some (.ptr b (off+i.toNat) 0) else none
     | _=>none
   | _=>none
 | _=>none
theorem JS {P:Program}{t e:TypeId}{k:Nat}(hu:P.underlying t=some (.slice e))(hk:szO P e=some k)(h:Hp)(a ix:AV):G7 P h t a ix=J3 k h a ix:=by
 unfold G7 J3
 cases ix <;> simp only
 simp only[hu,hk,Option.some.injEq]
 rfl
def AAD:Op→Bool
 | .call { callee := .value _,.. }=>true
 | _=>false
def AID (E:Env)(own:Bool)(f:AV)(args:List AV)(h:Hp)(K:AV→Hp→Prop):Prop:=match f with
 | .fn (.func fid) first caps => ∃ r,(PCall E fid (first++(args++caps)) h r∧(own=true→∀ x,PCall E fid (first++(args++caps)) (h++x) r))∧K r h
 | _=>False
theorem F8 (E:Env)(fid:FuncId)(args caps:List AV)(h:Hp)(K:AV→Hp→Prop):AID E false (.fn (.func fid) [] caps) args h K = ∃ r,PCall E fid (args++caps) h r∧K r h:=by
 simp [AID]
theorem AUK (E:Env)(fid:FuncId)(args caps:List AV)(h:Hp)(K:AV→Hp→Prop):AID E true (.fn (.func fid) [] caps) args h K = ∃ r,(∀ x,PCall E fid (args++caps) (h++x) r)∧K r h:=by
 apply propext
 constructor
 ·rintro⟨r,⟨_,h2⟩,h3⟩; exact⟨r,h2 rfl,h3⟩
 ·rintro⟨r,h2,h3⟩; exact⟨r,⟨by have:=h2 []; rwa [List.append_nil] at this,fun _=>h2⟩,h3⟩
def Y1 (E:Env)(own:Bool)(op:Op)(s:Fr × Hp)(c:Fr→AV→Hp→Prop):Prop:=match op with
 | .call { callee := .value f,args:=as,.. }=>AID E own (ev E s.1 f) (as.toList.map (ev E s.1)) s.2 (c s.1)
 | op=>X1 E own op s c
theorem GN (E:Env)(own:Bool)(f:Operand)(as:Array Operand)(ts:Array TypeId)(F:Fr)(h:Hp)(c:Fr→AV→Hp→Prop) :
 Y1 E own (.call { callee := .value f,args:=as,argTypes:=ts }) (F,h) c=AID E own (ev E F f) (as.toList.map (ev E F)) h (c F):=rfl
theorem A8C (E:Env)(own:Bool)(op:Op)(s:Fr × Hp)(c:Fr→AV→Hp→Prop)(hop:AAD op=false):Y1 E own op s c=X1 E own op s c:=by
 unfold Y1
 split
 ·simp [AAD] at hop
 ·rfl
theorem AHT {op:Op}(h:AAD op=true) : ∃ f as ts,op = .call { callee := .value f,args:=as,argTypes:=ts }:=by
 cases op <;> simp only[AAD] at h <;> try (cases h; done)
 rename_i c
 obtain⟨cl,as,ts⟩:=c
 cases cl with
 | value f=>exact⟨f,as,ts,rfl⟩
 | _=>simp [AAD] at h
theorem A40 {E:Env}{own:Bool}{op:Op}{F:Fr}{h h':Hp}{v:AV}(hop:AAD op=false):DEx E own op F h v h'=(aop E.P own h (ev E F) op=some (v,h')):=by
 unfold DEx
 split
 ·simp [AAD] at hop
 ·rfl
theorem A15 (E:Env)(own:Bool)(op:Op)(s:Fr × Hp)(c:Fr→AV→Hp→Prop):(∃ v h',DEx E own op s.1 s.2 v h'∧c s.1 v h')=Y1 E own op s c:=by
 apply propext
 cases hop:AAD op with
 | true =>
   obtain⟨f,as,ts,rfl⟩:=AHT hop
   obtain⟨F,h⟩:=s
   rw[GN]
   unfold DEx AID
   simp only
   generalize ev E F f=fv
   cases fv with
   | fn fn first caps =>
     cases fn with
     | func fid =>
       constructor
       ·rintro⟨v,h',⟨rfl,h1,h1'⟩,h2⟩; exact⟨v,⟨h1,h1'⟩,h2⟩
       ·rintro⟨r,⟨h1,h1'⟩,h2⟩; exact⟨r,h,⟨rfl,h1,h1'⟩,h2⟩
     | _=>constructor <;> (intro hh; first | exact hh.elim | (obtain⟨_,_,hh,_⟩:=hh; exact hh.elim))
   | _=>constructor <;> (intro hh; first | exact hh.elim | (obtain⟨_,_,hh,_⟩:=hh; exact hh.elim))
 | false =>
   obtain⟨F,h⟩:=s
   rw[A8C _ _ _ _ _ hop,A8D _ _ _ _ _ _ (by
    split
    ·simp [AAD] at hop
    ·rfl)]
   simp only[A40 hop]
   unfold J5
   constructor
   ·rintro⟨v,h',h1,h2⟩; rw[h1]; exact h2
   ·intro hy
    split at hy
    ·rename_i v h' he; exact⟨v,h',he,hy⟩
    ·exact hy.elim
def AYA (E:Env)(f:AV)(args:List AV)(h:Hp)(K:AV→Hp→Prop):Prop:=match f with
 | .fn (.func fid) first caps => ∃ r h',ACalls E fid (first++(args++caps)) h (fun v1 h1=>v1=r∧h1=h')∧K r h'
 | _=>False
def YE (E:Env)(op:Op)(s:Fr × Hp)(c:Fr→AV→Hp→Prop):Prop:=match op with
 | .call { callee := .value f,args:=as,.. }=>AYA E (ev E s.1 f) (as.toList.map (ev E s.1)) s.2 (c s.1)
 | _=>False
def YO (E:Env)(eff own:Bool)(op:Op)(s:Fr × Hp)(c:Fr→AV→Hp→Prop):Prop:=match eff with
 | false=>Y1 E own op s c
 | true=>YE E op s c
theorem FY (E:Env)(own:Bool)(op:Op)(s:Fr × Hp)(c:Fr→AV→Hp→Prop):YO E false own op s c=Y1 E own op s c:=rfl
theorem AY7 {E:Env}{op:Op}{F:Fr}{h h':Hp}{v:AV}(hop:AAD op=false) : ¬ ECall E op F h v h':=by
 intro hh
 unfold ECall at hh
 split at hh
 ·simp [AAD] at hop
 ·exact hh
theorem A8B {E:Env}{op:Op}{s:Fr × Hp}{c:Fr→AV→Hp→Prop}(hop:AAD op=false) : ¬ YE E op s c:=by
 intro hh
 unfold YE at hh
 split at hh
 ·simp [AAD] at hop
 ·exact hh
theorem A14 (E:Env)(op:Op)(s:Fr × Hp)(c:Fr→AV→Hp→Prop):(∃ v h',ECall E op s.1 s.2 v h'∧c s.1 v h')=YE E op s c:=by
 apply propext
 cases hop:AAD op with
 | true =>
   obtain⟨f,as,ts,rfl⟩:=AHT hop
   obtain⟨F,h⟩:=s
   show(∃ v h',ECall E _ F h v h'∧c F v h')↔AYA E (ev E F f) (as.toList.map (ev E F)) h (c F)
   unfold ECall AYA
   simp only
   generalize ev E F f=fv
   cases fv with
   | fn fn first caps =>
     cases fn with
     | func fid=>exact Iff.rfl
     | _=>constructor <;> (intro hh; first | exact hh.elim | (obtain⟨_,_,hh,_⟩:=hh; exact hh.elim))
   | _=>constructor <;> (intro hh; first | exact hh.elim | (obtain⟨_,_,hh,_⟩:=hh; exact hh.elim))
 | false =>
   constructor
   ·rintro⟨_,_,hh,_⟩; exact(AY7 hop hh).elim
   ·intro hh; exact(A8B hop hh).elim
theorem AY2 {E:Env}{md:Nat→Bool}{d:Option Tmp}{op:Op}(t:TypeId)(p:String)(e:Array Edge)(g:Option (Nat × Bool))(s:Fr × Hp)(c:Fr→AV→Hp→Prop) :
  YO E (md (d.getD 0+1000000)) (md (d.getD 0)) op s c = ∃ v h',DExO E md ⟨d,op,t,p,e,g⟩ s.1 s.2 v h'∧c s.1 v h':=by
 unfold YO DExO
 simp only
 generalize md (d.getD 0+1000000)=q
 cases q with
 | false=>exact(A15 E (md (d.getD 0)) op s c).symm
 | true=>exact(A14 E op s c).symm
def DD (E:Env)(md:Nat→Bool)(ops:List Oper)(l:List Oper)(F:Fr)(h:Hp)(K:Fr→Hp→Prop):Prop:=D E md (ops.map (·.dst)) l F h K
def ASB (E:Env)(md:Nat→Bool)(ops:List Oper)(d:Option Tmp)(r:List Oper)(F:Fr)(K:Fr→Hp→Prop):AV→Hp→Prop:=fun v h'=>DD E md ops r (EW F d v) h' K
theorem DT (E:Env)(md:Nat→Bool)(ops:List Oper)(d:Tmp)(r:List Oper)(F:Fr)(K:Fr→Hp→Prop)(v:AV)(h:Hp):ASB E md ops (some d) r F K v h=DD E md ops r (upd F d v) h K:=rfl
theorem KG (E:Env)(md:Nat→Bool)(ops:List Oper)(r:List Oper)(F:Fr)(K:Fr→Hp→Prop)(v:AV)(h:Hp):ASB E md ops none r F K v h=DD E md ops r F h K:=rfl
def dc (E:Env)(md:Nat→Bool)(ops:List Oper)(d:Option Tmp)(r:List Oper)(K:Fr→Hp→Prop):Fr→AV→Hp→Prop:=fun F=>ASB E md ops d r F K
theorem EF (E:Env)(md:Nat→Bool)(ops:List Oper)(d:Option Tmp)(r:List Oper)(K:Fr→Hp→Prop)(F:Fr):dc E md ops d r K F=ASB E md ops d r F K:=rfl
theorem EZ (E:Env)(md:Nat→Bool)(ops:List Oper)(F:Fr)(h:Hp)(K:Fr→Hp→Prop):DD E md ops [] F h K=K F h:=rfl
theorem EY {E:Env}{H:Hint}{i:Nat}{l:List Oper}{F:Fr}{h:Hp}{Q:AEx→Fr→Hp→Prop}(hl:AWQ H.md [] l.toArray=true)(hd:DD E H.md l l F h (Q .normal)):awp E H (.region i l.toArray true) F h Q :=
 ACU (sep := []) hl (by unfold X7; rw[List.all_eq_true]; intro o _; cases o.dst <;> rfl) trivial hd
theorem XT {E:Env}{H:Hint}{i:Nat}{l:List Oper}{F:Fr}{h:Hp}{Q:AEx→Fr→Hp→Prop}(sep:List (Nat × Nat))(hl:(AWQ H.md sep l.toArray && X7 sep l)=true)(hs:PQ F sep)(hd:DD E H.md l l F h (Q .normal)):awp E H (.region i l.toArray true) F h Q :=
 ACU (Bool.and_eq_true_iff.1 hl).1 (by simpa using (Bool.and_eq_true_iff.1 hl).2) hs hd
theorem AF4 {E:Env}{H:Hint}{n:Nat}{l:List Oper}{F:Fr}{h:Hp}{Q:AEx→Fr→Hp→Prop}(sep:List (Nat × Nat))(pre:List Nat)(i j:Nat)(post:List Nat)(hl:AOM H.md sep l.toArray pre i j post=true)(hs:PQ F sep)
 (hd:DD E H.md l (OZ l pre) F h fun F h=>DD E H.md l (OZ l (i :: j :: post)) F h (Q .normal)∧DD E H.md l (OZ l (j :: i :: post)) F h (Q .normal)):awp E H (.region n l.toArray true) F h Q:=AUU hl hs hd
theorem AA1 (F:Fr):PQ F []=True:=rfl
theorem XU (F:Fr)(t u:Nat)(r:List (Nat × Nat)):PQ F ((t,u) :: r)=(WF (F t) (F u)∧PQ F r):=rfl
theorem A3U (y:AV):WF JA y=True:=rfl
theorem ZV (b i j b' i' j':Nat):WF (.ptr b i j) (.ptr b' i' j')=(b≠b'):=rfl
theorem EI (E:Env)(md:Nat→Bool)(ops:List Oper)(d:Option Tmp)(op:Op)(t:TypeId)(p:String)(e:Array Edge)(r:List Oper)(F:Fr)(h:Hp)(K:Fr→Hp→Prop) :
  DD E md ops (⟨d,op,t,p,e,none⟩ :: r) F h K=YO E (md (d.getD 0+1000000)) (md (d.getD 0)) op (F,h) (dc E md ops d r K):=by
 rw[AY2 t p e none]
 simp only[DD,D,O9,true_imp_iff,Bool.true_eq_false,false_imp_iff,and_true]
 rfl
def GD (E:Env)(md:Nat→Bool)(ops:List Oper)(d:Option Tmp)(op:Op)(r:List Oper)(F:Fr)(h:Hp)(K:Fr→Hp→Prop)(want:Bool)(v:AV):Prop :=
 match v with
 | .bool b=>((b == want)=true→YO E (md (d.getD 0+1000000)) (md (d.getD 0)) op (F,h) (dc E md ops d r K))∧((b == want)=false→DD E md ops r (EW F d JA) h K)
 | .tup []=>DD E md ops r (EW F d JA) h K
 | _=>False
theorem AZB (E:Env)(md:Nat→Bool)(ops:List Oper)(d:Option Tmp)(op:Op)(t:TypeId)(p:String)(e:Array Edge)(j:Nat)(want:Bool)(r:List Oper)(F:Fr)(h:Hp)(K:Fr→Hp→Prop)(g:Tmp)(hg:CP ops j=some g) :
  DD E md ops (⟨d,op,t,p,e,some (j,want)⟩ :: r) F h K=GD E md ops d op r F h K want (F g):=by
 simp only[DD,D,O9,WX,hg,GD,AY2 t p e (some (j,want))]
 generalize F g=v
 cases v with
 | bool b=>rfl
 | tup vs=>cases vs with
   | nil=>simp
   | cons=>rfl
 | _=>rfl
def GY (E:Env)(md:Nat→Bool)(ops:List Oper)(d:Option Tmp)(op:Op)(r:List Oper)(F:Fr)(h:Hp)(K:Fr→Hp→Prop)(want:Bool)(o:Option Tmp):Prop:=match o with
 | some g=>GD E md ops d op r F h K want (F g)
 | none=>DD E md ops r (EW F d JA) h K
theorem F9 (E:Env)(md:Nat→Bool)(ops:List Oper)(d:Option Tmp)(op:Op)(r:List Oper)(F:Fr)(h:Hp)(K:Fr→Hp→Prop)(want:Bool)(g:Tmp):GY E md ops d op r F h K want (some g)=GD E md ops d op r F h K want (F g):=rfl
theorem FH (E:Env)(md:Nat→Bool)(ops:List Oper)(d:Option Tmp)(op:Op)(t:TypeId)(p:String)(e:Array Edge)(j:Nat)(want:Bool)(r:List Oper)(F:Fr)(h:Hp)(K:Fr→Hp→Prop) :
  DD E md ops (⟨d,op,t,p,e,some (j,want)⟩ :: r) F h K=GY E md ops d op r F h K want (CP ops j):=by
 cases hg:CP ops j with
 | some g=>exact AZB E md ops d op t p e j want r F h K g hg
 | none=>simp [DD,D,O9,WX,hg,GY]
theorem AIM {E:Env}{md:Nat→Bool}{ops:List Oper}{d:Option Tmp}{op:Op}{r:List Oper}{F:Fr}{h:Hp}{K:Fr→Hp→Prop}{want b:Bool}(ht:b=true→GD E md ops d op r F h K want (.bool true))(hf:b=false→GD E md ops d op r F h K want (.bool false)):GD E md ops d op r F h K want (.bool b):=by
 cases b
 ·exact hf rfl
 ·exact ht rfl
section
variable (E:Env) (md:Nat→Bool) (ops:List Oper) (d:Option Tmp) (op:Op) (r:List Oper) (F:Fr) (h:Hp) (K:Fr→Hp→Prop)
theorem QN:GD E md ops d op r F h K true (.bool true)=YO E (md (d.getD 0+1000000)) (md (d.getD 0)) op (F,h) (dc E md ops d r K):=by simp [GD]
theorem SY:GD E md ops d op r F h K false (.bool false)=YO E (md (d.getD 0+1000000)) (md (d.getD 0)) op (F,h) (dc E md ops d r K):=by simp [GD]
theorem AA3:GD E md ops d op r F h K true (.bool false)=DD E md ops r (EW F d JA) h K:=by simp [GD]
theorem AA4:GD E md ops d op r F h K false (.bool true)=DD E md ops r (EW F d JA) h K:=by simp [GD]
theorem A2C (want:Bool):GD E md ops d op r F h K want JA=DD E md ops r (EW F d JA) h K:=rfl
theorem FK (own:Bool)(x:Operand)(c:Fr→AV→Hp→Prop):Y1 E own (.move x) (F,h) c=c F (ev E F x) h:=rfl
theorem IK (own:Bool)(x:Operand)(c:Fr→AV→Hp→Prop):Y1 E own (.assign x) (F,h) c=c F (ev E F x) h:=rfl
variable (own:Bool) (c:Fr→AV→Hp→Prop)
theorem IU (x a b:Operand):Y1 E own (.pick x a b) (F,h) c=X1 E own (.pick x a b) (F,h) c:=rfl
theorem AIO (t:TypeId):Y1 E own (.alloc t) (F,h) c=X1 E own (.alloc t) (F,h) c:=rfl
theorem ZH (t:TypeId)(ps:Array (Nat × Operand)):Y1 E own (.build t ps) (F,h) c=X1 E own (.build t ps) (F,h) c:=rfl
theorem IP (t:TypeId)(n:Nat)(ps:Array (Nat × Operand)):Y1 E own (.buildSlice t n ps) (F,h) c=X1 E own (.buildSlice t n ps) (F,h) c:=rfl
theorem FC (t:TypeId)(x:Operand):Y1 E own (.load t x) (F,h) c=X1 E own (.load t x) (F,h) c:=rfl
theorem KA (t:TypeId)(x y:Operand):Y1 E own (.store t x y) (F,h) c=X1 E own (.store t x y) (F,h) c:=rfl
theorem IY (o:BinOp)(t u:TypeId)(x y:Operand):Y1 E own (.binOp o t x y u) (F,h) c=X1 E own (.binOp o t x y u) (F,h) c:=rfl
theorem AGI (o:UnOp)(t:TypeId)(x:Operand):Y1 E own (.unOp o t x) (F,h) c=X1 E own (.unOp o t x) (F,h) c:=rfl
theorem AVB (t u:TypeId)(x:Operand):Y1 E own (.convert t u x) (F,h) c=X1 E own (.convert t u x) (F,h) c:=rfl
theorem NI (t:TypeId)(x y:Operand):Y1 E own (.makeSlice t x y) (F,h) c=X1 E own (.makeSlice t x y) (F,h) c:=rfl
theorem AZF (t:TypeId)(x:Operand)(lo hi mx:Option Operand):Y1 E own (.slice t x lo hi mx) (F,h) c=X1 E own (.slice t x lo hi mx) (F,h) c:=rfl
theorem D9 (t:TypeId)(x:Operand)(i:Nat):Y1 E own (.fieldAddr t x i) (F,h) c=X1 E own (.fieldAddr t x i) (F,h) c:=rfl
theorem D7 (t:TypeId)(x y:Operand):Y1 E own (.indexAddr t x y) (F,h) c=X1 E own (.indexAddr t x y) (F,h) c:=rfl
theorem AIN (t:TypeId)(x y:Operand):Y1 E own (.index t x y) (F,h) c=X1 E own (.index t x y) (F,h) c:=rfl
theorem KP (x:Operand)(i:Nat):Y1 E own (.extract x i) (F,h) c=X1 E own (.extract x i) (F,h) c:=rfl
theorem H7 (b:Builtin)(as:Array Operand)(ts:Array TypeId):Y1 E own (.call { callee := .builtin b,args:=as,argTypes:=ts }) (F,h) c=X1 E own (.call { callee := .builtin b,args:=as,argTypes:=ts }) (F,h) c:=rfl
end
theorem AGA {E:Env}{own:Bool}{op:Op}{F:Fr}{h:Hp}{K K':AV→Hp→Prop}(hk : ∀ v h,K v h→K' v h)(ha:QL E own op F h K):QL E own op F h K':=by
 unfold QL at *
 split at ha
 ·split at ha
  ·rename_i hf; exact ha.mono hk
  ·exact YC.mono ha hk
  ·exact ha.elim
 ·split at ha
  ·rename_i v h' he; exact hk v h' ha
  ·exact ha.elim
theorem ZF {E:Env}{H:Hint}{ds:List (Option Tmp)}{K K':Fr→Hp→Prop}(hk : ∀ F h,K F h→K' F h) : ∀ (l:List Oper) (F:Fr) (h:Hp),W E H ds l F h K→W E H ds l F h K'
 | [],F,h,hw=>hk F h hw
 | o :: r,F,h,hw=>by
   simp only[W] at hw ⊢
   split at hw
   ·exact⟨fun hc=>AGA (fun v h' hv=>ZF hk r _ _ hv) (hw.1 hc),fun hc=>ZF hk r _ _ (hw.2 hc)⟩
   ·exact hw.elim
theorem AB8 {E:Env}{md:Nat→Bool}{ds:List (Option Tmp)}{K K':Fr→Hp→Prop}(hk : ∀ F h,K F h→K' F h) : ∀ (l:List Oper) (F:Fr) (h:Hp),D E md ds l F h K→D E md ds l F h K'
 | [],F,h,hw=>hk F h hw
 | o :: r,F,h,hw=>by
   simp only[D] at hw ⊢
   split at hw
   ·exact⟨fun hc=>let ⟨v,h',h1,h2⟩:=hw.1 hc; ⟨v,h',h1,AB8 hk r _ _ h2⟩,fun hc=>AB8 hk r _ _ (hw.2 hc)⟩
   ·exact hw.elim
theorem ADW {next next':Fr→Hp→Prop}{Q Q':AEx→Fr→Hp→Prop}(hn : ∀ F h,next F h→next' F h)(hq : ∀ e F h,Q e F h→Q' e F h) : ∀ e F h,ZN next Q e F h→ZN next' Q' e F h:=by
 intro e F h ht
 cases e with
 | normal=>exact hn F h ht
 | exit i=>exact hq _ F h ht
 | ret=>exact hq _ F h ht
theorem AAW {E:Env}{H:Hint} : ∀ (c:Code) {F:Fr} {h:Hp} {Q Q':AEx→Fr→Hp→Prop},(∀ e F h,Q e F h→Q' e F h)→awp E H c F h Q→awp E H c F h Q':=by
 intro c
 induction c with
 | skip=>intro F h Q Q' hq hw; exact hq _ _ _ hw
 | label l=>intro F h Q Q' hq hw; exact hq _ _ _ hw
 | ret=>intro F h Q Q' hq hw; exact hq _ _ _ hw
 | exit i=>intro F h Q Q' hq hw; exact hq _ _ _ hw
 | seq x y ihx ihy=>intro F h Q Q' hq hw; exact ihx (ADW (fun F h hh=>ihy hq hh) hq) hw
 | block id b ih =>
   intro F h Q Q' hq hw
   refine ih (fun e F h hh => ?_) hw
   cases e with
   | normal=>exact hq _ _ _ hh
   | exit i =>
     simp only[SB] at hh ⊢
     split
     ·rename_i hi; rw[if_pos hi] at hh; exact hq _ _ _ hh
     ·rename_i hi; rw[if_neg hi] at hh; exact hq _ _ _ hh
   | ret=>exact hq _ _ _ hh
 | cond c x y ihx ihy =>
   intro F h Q Q' hq hw
   simp only[awp] at hw ⊢
   split at hw
   ·exact⟨fun hc=>ihx hq (hw.1 hc),fun hc=>ihy hq (hw.2 hc)⟩
   ·exact hw.elim
 | loop b ih =>
   intro F h Q Q' hq hw
   obtain⟨I,h0,hr⟩:=hw
   exact⟨I,h0,fun n F h hI=>ih (ADW (fun _ _ hh=>hh) hq) (hr n F h hI)⟩
 | region i ops draw =>
   intro F h Q Q' hq hw
   simp only[awp] at hw ⊢
   cases draw with
   | false=>exact ZF (hq _) _ _ _ hw
   | true=>exact AIF (fun s=>hq _ s.1 s.2) _ _ _ hw
 | rangeFunc g ps asg body iha ihb =>
   intro F h Q Q' hq hw
   obtain⟨h0,f,caps,N,xs,I,h1,h2,h3,h4,h5⟩:=hw
   exact⟨h0,f,caps,N,xs,I,h1,h2,h3,h4,fun h' hI=>hq _ _ _ (h5 h' hI)⟩
 | _=>intro F h Q Q' hq hw; simp only[awp] at hw
def AWN (N:Fr→Hp→Prop)(R:Fr→Hp→Prop):AEx→Fr→Hp→Prop
 | .normal,F,h=>N F h
 | .ret,F,h=>R F h
 | .exit _,_,_=>False
theorem QI (N R:Fr→Hp→Prop)(F:Fr)(h:Hp):AWN N R .normal F h=N F h:=rfl
theorem ADK {E:Env}{H:Hint}{c:Code}{F:Fr}{h:Hp}{Q:AEx→Fr→Hp→Prop}(N R:Fr→Hp→Prop)(hw:awp E H c F h (AWN N R))(hn : ∀ F h,N F h→Q .normal F h)(hr : ∀ F h,R F h→Q .ret F h):awp E H c F h Q :=
 AAW c (fun e F h hh=>by
  cases e with
  | normal=>exact hn F h hh
  | ret=>exact hr F h hh
  | exit i=>exact hh.elim) hw
theorem S9 {E:Env}{H:Hint}{ops:List Oper}{d:Option Tmp}{op:Op}{r:List Oper}{F:Fr}{h:Hp}{K:Fr→Hp→Prop}{want:Bool}{v:AV}(K':Fr→Hp→Prop)(hw:G1 E H ops d op r F h K' want v)(hk : ∀ F h,K' F h→K F h):G1 E H ops d op r F h K want v:=by
 unfold G1 at *
 split at hw
 ·exact⟨fun hc=>AGA (fun v h' hv=>ZF hk r _ _ hv) (hw.1 hc),fun hc=>ZF hk r _ _ (hw.2 hc)⟩
 ·exact ZF hk r _ _ hw
 ·exact hw.elim
theorem AZA {E:Env}{md:Nat→Bool}{ops r:List Oper}{F:Fr}{h:Hp}{K:Fr→Hp→Prop}(K':Fr→Hp→Prop)(hw:DD E md ops r F h K')(hk : ∀ F h,K' F h→K F h):DD E md ops r F h K:=AB8 hk r _ _ hw
theorem A4Z {E:Env}{md:Nat→Bool}{ops:List Oper}{d:Option Tmp}{op:Op}{r:List Oper}{F:Fr}{h:Hp}{K:Fr→Hp→Prop}{want:Bool}{v:AV}(K':Fr→Hp→Prop)(hw:GD E md ops d op r F h K' want v)(hk : ∀ F h,K' F h→K F h):GD E md ops d op r F h K want v:=by
 unfold GD at *
 simp only[AY2 (d:=d) 0 "" #[] none] at *
 split at hw
 ·refine⟨fun hc => ?_,fun hc=>AB8 hk r _ _ (hw.2 hc)⟩
  obtain⟨v,h',h1,h2⟩:=hw.1 hc
  exact⟨v,h',h1,AB8 hk r _ _ h2⟩
 ·exact AB8 hk r _ _ hw
 ·exact hw.elim
theorem A4X {E:Env}{H:Hint}{gf:Operand}{ps:Array Tmp}{asg body:Code}{F:Fr}{h:Hp}{Q:AEx→Fr→Hp→Prop}{f:FuncId}{caps:List AV}(hno:(Z4 asg && Z4 body)=true)(hgf:ev E F gf = .fn (.func f) [] caps)
  (N:Nat) (xs:Nat→List AV) (I:Nat→Hp→Prop) (hit:Iter E f caps N xs I) (h0:I 0 h)
  (hr : ∀ k h',k < N→I k h'→(xs k).length=ps.size∧awp E H asg (AIP F ps.toList (xs k)) h' (AVW E H body (AWN (fun _ h2 => ∃ h3,GSt E h2 h3∧I (k+1) h3) fun _ _=>False))) (hd : ∀ h',I N h'→Q .normal F h'):awp E H (.rangeFunc gf ps asg body) F h Q :=
 ⟨hno,f,caps,N,xs,I,hgf,hit,h0,fun k h' hk hI=>⟨(hr k h' hk hI).1,AAW asg (fun e F1 h1 hq=>by
  cases e with
  | normal=>exact AAW body (fun e F2 h2 hq=>by cases e with
    | normal=>exact hq
    | exit i=>exact hq.elim
    | ret=>exact hq.elim) hq
  | exit i=>exact hq.elim
  | ret=>exact hq.elim) (hr k h' hk hI).2⟩,hd⟩
def lpQ (i:Nat)(N:Fr→Hp→Prop)(R:Fr→Hp→Prop):AEx→Fr→Hp→Prop
 | .normal,_,_=>False
 | .ret,F,h=>R F h
 | .exit j,F,h=>if j=i then N F h else False
theorem KF (i j:Nat)(N R:Fr→Hp→Prop)(F:Fr)(h:Hp):lpQ i N R (.exit j) F h=if j=i then N F h else False:=rfl
theorem MQ (i:Nat)(N R:Fr→Hp→Prop)(F:Fr)(h:Hp):lpQ i N R .ret F h=R F h:=rfl
theorem GZ {E:Env}{H:Hint}{c:Code}{F:Fr}{h:Hp}{Q:AEx→Fr→Hp→Prop}(i:Nat)(N R:Fr→Hp→Prop)(hw:awp E H c F h (lpQ i N R))(hn : ∀ F h,N F h→Q (.exit i) F h)(hr : ∀ F h,R F h→Q .ret F h):awp E H c F h Q :=
 AAW c (fun e F h hh=>by
  cases e with
  | normal=>exact hh.elim
  | ret=>exact hr F h hh
  | exit j =>
    simp only[lpQ] at hh
    split at hh
    ·rename_i e; subst e; exact hn F h hh
    ·exact hh.elim) hw
theorem AG5 {E:Env}{H:Hint}{ops r:List Oper}{d:Option Tmp}{F:Fr}{h:Hp}{K:Fr→Hp→Prop}{v:AV}(K':Fr→Hp→Prop)(hw:AG6 E H ops d r F K' v h)(hk : ∀ F h,K' F h→K F h):AG6 E H ops d r F K v h:=ZF hk r _ _ hw
end Go.Proofs.YtfpagfhhhlljjaaGreatDoor.Sm
