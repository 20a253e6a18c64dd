/- Part 3 of the proof (Sm11, Sm12, Sm13, Sv, Sw, Sc, Sd); no condition. -/
import Derived.Deep.Draws
import Derived.Test.YtocilianjfhifaaGreatDoorV2
set_option linter.unusedVariables false
/- Regions whose order is drawn: the order of the text serves every order, where operations that may change places do not touch one another; no condition. -/
namespace Go.Proofs.YtocilianjfhifaaGreatDoor.Sm
open Go

/-- how an operation touches memory: 0 not at all, 1 it reads, 2 it writes or makes memory, 3 it makes a variable, 4 a call (told for the heap at hand alone) -/
def hkB (own:Bool):Builtin→Nat
 | .len=>0
 | .max=>0
 | .min=>0
 | .append=>if own then 2 else 1
 | _=>2
def hk (own:Bool):Op→Nat
 | .move _=>0
 | .assign _=>0
 | .pick _ _ _=>0
 | .build _ _=>0
 | .binOp _ _ _ _ _=>0
 | .unOp _ _ _=>0
 | .convert _ _ _=>0
 | .makeFunc _ _ _=>0
 | .fieldAddr _ _ _=>0
 | .field _ _ _=>0
 | .index _ _ _=>0
 | .extract _ _=>0
 | .nilCheck _=>0
 | .load _ _=>1
 | .slice _ _ _ _ _=>1
 | .indexAddr _ _ _=>1
 | .buildSlice _ _ _=>if own then 2 else 0
 | .makeSlice _ _ _=>if own then 2 else 0
 | .call c=>match c.callee with
   | .builtin b=>hkB own b
   | _=>if own then 1 else 4
 | .alloc _=>3
 | _=>2

def DEx (E:Env) (own:Bool) (op:Op) (F:Fr) (h:Hp) (v:AV) (h':Hp):Prop :=
 match op with
 | .call { callee := .value f,args:=as,.. }=>match ev E F f with
   | .fn (.func fid) first caps=>h'=h∧PCall E fid (first ++ (as.toList.map (ev E F) ++ caps)) h v∧(own=true→∀ x,PCall E fid (first ++ (as.toList.map (ev E F) ++ caps)) (h ++ x) v)
   | _=>False
 | op=>aop E.P own h (ev E F) op=some (v,h')

theorem DEx.exec {E:Env} {own:Bool} {op:Op} {F:Fr} {h h':Hp} {v:AV} {K:AV→Hp→Prop} (hd:DEx E own op F h v h') (hk:K v h'):MZ E own op F h K:=by
 unfold DEx at hd
 unfold MZ
 split at hd
 ·split at hd
  ·rename_i hf
   simp only [hf]
   obtain ⟨rfl,hc,_⟩:=hd
   exact hc.use hk
  ·exact hd.elim
 ·split
  ·simp_all
  ·rw [hd]; exact hk

theorem WT {ρ ρ':Operand→AV} : ∀ {l:List (Nat × Operand)},(∀ x∈l.map (·.2),ρ x=ρ' x)→evp ρ l=evp ρ' l
 | [],_=>rfl
 | (i,x) :: r,h=>by
   simp only [evp]
   rw [h x (by simp),WT (fun y hy=>h y (by simp at hy ⊢; exact .inr hy))]

theorem AOA {P:Program} {own:Bool} {h:Hp} {ρ ρ':Operand→AV} {op:Op} (he : ∀ x∈op.operands,ρ x=ρ' x):aop P own h ρ op=aop P own h ρ' op:=by
 cases op <;> simp only [Op.operands] at he <;> simp only [aop]
 case build t ps=>rw [WT (ρ:=ρ) (ρ':=ρ') fun x hx=>he x (by simpa using hx)]
 case buildSlice t n ps=>rw [WT (ρ:=ρ) (ρ':=ρ') fun x hx=>he x (by simpa using hx)]
 case makeFunc fn first captured =>
  rw [List.map_congr_left (l:=first.toList) fun x hx=>he x (by simp at hx; simp [hx]),List.map_congr_left (l:=captured.toList) fun x hx=>he x (by simp at hx; simp [hx])]
 case call c =>
  have h1:c.args.toList.map ρ=c.args.toList.map ρ':=List.map_congr_left fun x hx=>he x (by simp at hx; simp [Call.operands,hx])
  rw [h1]
 case slice t x lo hi mx=>cases lo <;> cases hi <;> cases mx <;> simp_all
 all_goals (first | rfl | (simp_all; done))

theorem AOH {E:Env} {own:Bool} {op:Op} {F F':Fr} {h h':Hp} {v:AV} (he : ∀ x∈op.operands,ev E F x=ev E F' x) (hd:DEx E own op F h v h'):DEx E own op F' h v h':=by
 unfold DEx at *
 split at hd
 ·rename_i f as ats
  have h1:ev E F f=ev E F' f:=he f (by simp [Op.operands,Call.operands])
  have h2:as.toList.map (ev E F)=as.toList.map (ev E F'):=List.map_congr_left fun x hx=>he x (by simp at hx; simp [Op.operands,Call.operands,hx])
  rw [h1,h2] at hd
  exact hd
 ·rw [AOA he] at hd
  exact hd

theorem KW {x:Option AV} {h h2 h':Hp} {v:AV} (e:ofO h x=some (v,h')):h'=h∧ofO h2 x=some (v,h2):=by
 obtain ⟨h1,h3⟩:=H8 e
 rw [h1]; exact ⟨h3,rfl⟩

theorem AT1 {P:Program} {own:Bool} {h h':Hp} {ρ:Operand→AV} {op:Op} {v:AV} (h0:hk own op=0) (ha:aop P own h ρ op=some (v,h')):h'=h∧∀ h2,aop P own h2 ρ op=some (v,h2):=by
 cases op <;> simp only [hk] at h0 <;> first | (cases h0; done) | skip
 case move=>simp only [aop] at *; cases ha; exact ⟨rfl,fun _=>rfl⟩
 case assign=>simp only [aop] at *; cases ha; exact ⟨rfl,fun _=>rfl⟩
 case pick c a b =>
  simp only [aop] at *
  split at ha
  ·rename_i e; cases ha; exact ⟨rfl,fun _=>rfl⟩
  ·rename_i e; cases ha; exact ⟨rfl,fun _=>rfl⟩
  ·cases ha
 case nilCheck x =>
  simp only [aop] at *
  split at ha
  ·rename_i e; cases ha; exact ⟨rfl,fun _=>rfl⟩
  ·rename_i e; cases ha; exact ⟨rfl,fun _=>rfl⟩
  ·cases ha
 case makeFunc=>simp only [aop] at *; cases ha; exact ⟨rfl,fun _=>rfl⟩
 case extract t i =>
  simp only [aop] at *
  split at ha
  ·exact ⟨(KW (h2:=h) ha).1,fun h2=>(KW ha).2⟩
  ·cases ha
 case buildSlice t n ps =>
  split at h0
  ·cases h0
  ·rename_i ho
   have ho':own=false:=by simpa using ho
   subst ho'
   simp only [aop,FC] at *
   split at ha
   case h_2=>cases ha
   split at ha
   case h_2=>cases ha
   split at ha
   case h_2=>cases ha
   split at ha
   case h_2=>cases ha
   split at ha
   case isFalse=>cases ha
   try simp only [Bool.false_eq_true,if_false] at ha
   split at ha
   case isFalse=>cases ha
   cases ha
   refine ⟨rfl,fun h2 => ?_⟩
   simp_all
   assumption
 case makeSlice t l c =>
  split at h0
  ·cases h0
  ·rename_i ho
   have ho':own=false:=by simpa using ho
   subst ho'
   simp only [aop,IY] at *
   split at ha
   case h_2=>cases ha
   split at ha
   case h_2=>cases ha
   split at ha
   case h_2=>cases ha
   split at ha
   case h_2=>cases ha
   split at ha
   case isFalse=>cases ha
   try simp only [Bool.false_eq_true,if_false] at ha
   split at ha
   case isFalse=>cases ha
   cases ha
   refine ⟨rfl,fun h2 => ?_⟩
   simp_all
 case call c =>
  split at h0
  case h_2=>split at h0 <;> cases h0
  rename_i b hb
  simp only [aop,hb] at *
  cases b <;> simp only [hkB] at h0 <;> first | (cases h0; done) | skip
  ·split at h0 <;> cases h0
  ·simp only [MU] at *
   split at ha
   ·exact ⟨(KW (h2:=h) ha).1,fun h2=>(KW ha).2⟩
   ·cases ha
  ·simp only [MU] at *
   split at ha
   ·exact ⟨(KW (h2:=h) ha).1,fun h2=>(KW ha).2⟩
   ·cases ha
  ·simp only [MU] at *
   split at ha
   ·exact ⟨(KW (h2:=h) ha).1,fun h2=>(KW ha).2⟩
   ·cases ha
 all_goals
  simp only [aop] at *
  exact ⟨(KW (h2:=h) ha).1,fun h2=>(KW ha).2⟩

theorem AT0 {P:Program} {own:Bool} {h h':Hp} {ρ:Operand→AV} {op:Op} {v:AV} (h0:hk own op=1) (ha:aop P own h ρ op=some (v,h')):h'=h:=by
 cases op <;> simp only [hk] at h0 <;> first | (cases h0; done) | skip
 case load=>simp only [aop] at ha; exact (H8 ha).2
 case slice=>simp only [aop] at ha; exact (H8 ha).2
 case indexAddr=>simp only [aop] at ha; exact (H8 ha).2
 case buildSlice=>split at h0 <;> cases h0
 case makeSlice=>split at h0 <;> cases h0
 case call c =>
  split at h0
  ·rename_i b hb
   simp only [aop,hb] at ha
   cases b <;> simp only [hkB] at h0 <;> first | (cases h0; done) | skip
   split at h0
   ·cases h0
   ·rename_i ho
    have ho':own=false:=by simpa using ho
    subst ho'
    simp only [MU] at ha
    split at ha
    case h_2=>cases ha
    split at ha
    case isFalse=>cases ha
    unfold F5 at ha
    have bumpF : ∀ (e:TypeId) (m:SM) (k:Nat) (xs ys:List (List AV)) (kill:Option Nat) (s:AV),bump P false h e m k xs ys kill s=some (v,h')→h'=h:=by
     intro e m k xs ys kill s hb
     unfold bump at hb
     split at hb
     ·cases hb; rfl
     ·split at hb
      ·split at hb
       ·split at hb
        ·simp at hb
        ·simp at hb; exact hb.2.symm
       ·cases hb
      ·cases hb
    split at ha
    case h_2=>cases ha
    split at ha
    case h_2=>cases ha
    split at ha
    case h_2=>cases ha
    split at ha
    ·exact bumpF _ _ _ _ _ _ _ ha
    ·split at ha
     ·exact bumpF _ _ _ _ _ _ _ ha
     ·cases ha
    ·split at ha
     ·split at ha
      ·exact bumpF _ _ _ _ _ _ _ ha
      ·cases ha
     ·cases ha
    ·cases ha
  ·rename_i hb
   simp only [aop] at ha
   first
    | (cases ha; done)
    | (split at ha
       ·rename_i b' hb'; exact absurd hb' (hb b')
       ·cases ha)

theorem YQ {h:Hp} {b:Nat} {x:ABlk} (y:ABlk) (hb:h[b]? = some x):(h ++ [y])[b]? = some x:=by
 rw [List.getElem?_append_left]
 ·exact hb
 ·rcases Nat.lt_or_ge b h.length with h1 | h1
  ·exact h1
  ·rw [List.getElem?_eq_none h1] at hb; cases hb
theorem AMT {h:Hp} {a:AV} {r:List AV × Nat} (y:ABlk) (hr:rowAt h a=some r):rowAt (h ++ [y]) a=some r:=by
 unfold rowAt at *
 split at hr
 ·split at hr
  ·rename_i k xs hb
   simp only [YQ y hb]; exact hr
  ·cases hr
 ·exact hr
 ·cases hr
theorem WV {h:Hp} {a:AV} {r:Nat × List (List AV)} (y:ABlk) (hr:JL h a=some r):JL (h ++ [y]) a=some r:=by
 unfold JL at *
 split at hr
 ·exact hr
 ·split at hr
  ·rename_i hb
   simp only [YQ y hb]; exact hr
  ·cases hr
 ·cases hr
theorem AFX {P:Program} {h:Hp} {k:Nat} {t:TypeId} {x:AV} {ys:List (List AV)} (y:ABlk) (hr:QC P h k t x=some ys):QC P (h ++ [y]) k t x=some ys:=by
 unfold QC at *
 split at hr
 ·exact hr
 ·split at hr
  ·rename_i hc
   simp only [WV y hc]; exact hr
  ·cases hr
 ·cases hr
theorem AAL {P:Program} {h:Hp} {t0 t1:TypeId} {s x:AV} (y:ABlk) (hr:K6 P h t0 t1 s x=true):K6 P (h ++ [y]) t0 t1 s x=true:=by
 unfold K6 at *
 split at hr
 ·split at hr
  ·split at hr
   ·rename_i h1 h2
    simp only [AFX y h1,WV y h2]; exact hr
   ·cases hr
  ·cases hr
 ·cases hr
theorem AA6 {P:Program} {h h':Hp} {e:TypeId} {m:SM} {k:Nat} {xs ys:List (List AV)} {kill:Option Nat} {s v:AV} (y:ABlk) (hr:bump P false h e m k xs ys kill s=some (v,h')):bump P false (h ++ [y]) e m k xs ys kill s=some (v,h ++ [y]):=by
 unfold bump at *
 split at hr
 ·rename_i h0; rw [if_pos h0]; cases hr; rfl
 ·rename_i h0
  rw [if_neg h0]
  split at hr
  ·split at hr
   ·rename_i hc
    rw [if_pos hc]
    cases kill <;> simp at hr ⊢
    exact hr.1
   ·cases hr
  ·cases hr
theorem AIF {P:Program} {h h':Hp} {t0 t1:TypeId} {s x v:AV} (y:ABlk) (hr:F5 P false h t0 t1 s x=some (v,h')):F5 P false (h ++ [y]) t0 t1 s x=some (v,h ++ [y]):=by
 unfold F5 at *
 split at hr
 case h_2=>cases hr
 split at hr
 case h_2=>cases hr
 split at hr
 case h_2=>cases hr
 rename_i h3
 simp only [AFX y h3]
 split at hr
 ·exact AA6 y hr
 ·split at hr
  ·rename_i hc; rw [if_pos hc]; exact AA6 y hr
  ·cases hr
 ·split at hr
  ·rename_i h4
   simp only [WV y h4]
   split at hr
   ·rename_i hc; rw [if_pos hc]; exact AA6 y hr
   ·cases hr
  ·cases hr
 ·cases hr
theorem AOC {P:Program} {h:Hp} {t:TypeId} {a v:AV} (y:ABlk) (hr:D7 P h t a=some v):D7 P (h ++ [y]) t a=some v:=by
 unfold D7 at *
 split at hr
 ·rename_i h1; simp only [AMT y h1]; exact hr
 ·cases hr
theorem AJ9 {P:Program} {h:Hp} {t:TypeId} {x v:AV} {lo hi mx:Option AV} (y:ABlk) (hr:LM P h t x lo hi mx=some v):LM P (h ++ [y]) t x lo hi mx=some v:=by
 unfold LM at *
 split at hr
 ·exact hr
 ·split at hr
  ·exact hr
  ·split at hr
   ·split at hr
    ·rename_i hb; simp only [YQ y hb]; exact hr
    ·cases hr
   ·cases hr
  ·cases hr
 ·cases hr
theorem ABH {P:Program} {h:Hp} {t:TypeId} {a ix v:AV} (y:ABlk) (hr:FW P h t a ix=some v):FW P (h ++ [y]) t a ix=some v:=by
 unfold FW at *
 split at hr
 ·split at hr
  ·split at hr
   ·exact hr
   ·split at hr
    ·rename_i hb; simp only [YQ y hb]; exact hr
    ·cases hr
   ·cases hr
  ·exact hr
  ·cases hr
 ·cases hr
theorem AD8 {h h':Hp} {x x':Option AV} {v:AV} (y:ABlk) (hx : ∀ v,x=some v→x'=some v) (hr:ofO h x=some (v,h')):ofO (h ++ [y]) x'=some (v,h ++ [y]):=by
 obtain ⟨h1,h2⟩:=H8 hr
 rw [hx v h1]; rfl
/-- what only reads reads the same where there is one variable more -/
theorem AH7 {P:Program} {own:Bool} {h h':Hp} {ρ:Operand→AV} {op:Op} {v:AV} (y:ABlk) (h0:hk own op=1) (ha:aop P own h ρ op=some (v,h')):aop P own (h ++ [y]) ρ op=some (v,h ++ [y]):=by
 cases op <;> simp only [hk] at h0 <;> first | (cases h0; done) | skip
 case load=>simp only [aop] at *; exact AD8 y (fun _=>AOC y) ha
 case slice=>simp only [aop] at *; exact AD8 y (fun _=>AJ9 y) ha
 case indexAddr=>simp only [aop] at *; exact AD8 y (fun _=>ABH y) ha
 case buildSlice=>split at h0 <;> cases h0
 case makeSlice=>split at h0 <;> cases h0
 case call c =>
  split at h0
  ·rename_i b hb
   simp only [aop,hb] at *
   cases b <;> simp only [hkB] at h0 <;> first | (cases h0; done) | skip
   split at h0
   ·cases h0
   ·rename_i ho
    have ho':own=false:=by simpa using ho
    subst ho'
    simp only [MU] at *
    split at ha
    case h_2=>cases ha
    split at ha
    case isFalse=>cases ha
    rename_i hfz
    simp only [Bool.false_or] at hfz
    simp only [AAL y hfz,Bool.or_true,if_true]
    exact AIF y ha
  ·rename_i hb
   simp only [aop] at ha
   first
    | (cases ha; done)
    | (split at ha
       ·rename_i b' hb'; exact absurd hb' (hb b')
       ·cases ha)
theorem AUC {E:Env} {own:Bool} {op:Op} {F:Fr} {h h':Hp} {v:AV} (y:ABlk) (h0:hk own op=1) (hd:DEx E own op F h v h'):DEx E own op F (h ++ [y]) v (h ++ [y]):=by
 unfold DEx at *
 split at hd
 ·split at hd
  ·obtain ⟨_,_,h2⟩:=hd
   have ho:own=true:=by
    simp only [hk] at h0
    cases own
    ·simp at h0
    ·rfl
   refine ⟨rfl,h2 ho [y],fun _ x => ?_⟩
   rw [List.append_assoc]; exact h2 ho _
  ·exact hd.elim
 ·exact AH7 y h0 hd
/-- a new variable lies on top, whatever lies below -/
theorem AOI {E:Env} {own:Bool} {op:Op} {F:Fr} {h h':Hp} {v:AV} (h0:hk own op=3) (hd:DEx E own op F h v h') : ∃ y,h'=h ++ [y]:=by
 cases op <;> simp only [hk] at h0 <;> first | (cases h0; done) | skip
 case alloc t =>
  simp only [DEx,aop,JN,OH] at hd
  split at hd
  ·split at hd
   ·cases hd; exact ⟨_,rfl⟩
   ·cases hd
  ·cases hd
 case buildSlice=>split at h0 <;> cases h0
 case makeSlice=>split at h0 <;> cases h0
 case call c =>
  split at h0
  ·rename_i b hb
   cases b <;> simp only [hkB] at h0 <;> first | (cases h0; done) | (split at h0 <;> cases h0)
  ·split at h0 <;> cases h0

theorem AUB {E:Env} {own:Bool} {op:Op} {F:Fr} {h h':Hp} {v:AV} (h0:hk own op=0) (hd:DEx E own op F h v h'):h'=h∧∀ h2,DEx E own op F h2 v h2:=by
 unfold DEx at *
 split at hd
 ·simp only [hk] at h0
  split at h0 <;> cases h0
 ·exact AT1 h0 hd
theorem AUA {E:Env} {own:Bool} {op:Op} {F:Fr} {h h':Hp} {v:AV} (h0:hk own op=1∨hk own op=4) (hd:DEx E own op F h v h'):h'=h:=by
 unfold DEx at *
 split at hd
 ·split at hd
  ·exact hd.1
  ·exact hd.elim
 ·rename_i hno
  rcases h0 with h0 | h0
  ·exact AT0 h0 hd
  ·exfalso
   cases op <;> simp only [hk] at h0 <;> first | (cases h0; done) | skip
   case buildSlice=>split at h0 <;> cases h0
   case makeSlice=>split at h0 <;> cases h0
   case call c =>
    split at h0
    ·rename_i b hb
     cases b <;> simp only [hkB] at h0 <;> first | (cases h0; done) | (split at h0 <;> cases h0)
    ·rename_i hb
     simp only [aop] at hd
     first
      | (cases hd; done)
      | (split at hd
         ·rename_i b' hb'; exact absurd hb' (hb b')
         ·cases hd)

/-- a call with an effect on memory: what it returns and leaves is fixed -/
def ECall (E:Env) (op:Op) (F:Fr) (h:Hp) (v:AV) (h':Hp):Prop :=
 match op with
 | .call { callee := .value f,args:=as,.. }=>match ev E F f with
   | .fn (.func fid) first caps=>ACalls E fid (first ++ (as.toList.map (ev E F) ++ caps)) h fun v1 h1=>v1=v∧h1=h'
   | _=>False
 | _=>False
theorem ECall.exec {E:Env} {own:Bool} {op:Op} {F:Fr} {h h':Hp} {v:AV} {K:AV→Hp→Prop} (hd:ECall E op F h v h') (hk:K v h'):MZ E own op F h K:=by
 unfold ECall at hd
 unfold MZ
 split at hd
 ·split at hd
  ·rename_i hf
   simp only [hf]
   exact hd.mono fun v1 h1 ⟨e1,e2⟩=>by rw [e1,e2]; exact hk
  ·exact hd.elim
 ·exact hd.elim
theorem AIH {E:Env} {op:Op} {F F':Fr} {h h':Hp} {v:AV} (he : ∀ x∈op.operands,ev E F x=ev E F' x) (hd:ECall E op F h v h'):ECall E op F' h v h':=by
 unfold ECall at *
 split at hd
 ·rename_i f as ats
  have h1:ev E F f=ev E F' f:=he f (by simp [Op.operands,Call.operands])
  have h2:as.toList.map (ev E F)=as.toList.map (ev E F'):=List.map_congr_left fun x hx=>he x (by simp at hx; simp [Op.operands,Call.operands,hx])
  rw [h1,h2] at hd
  exact hd
 ·exact hd.elim
/-- the hint says of which calls they have an effect: by the number of their slot and a million -/
def DExO (E:Env) (md:Nat→Bool) (o:Oper) (F:Fr) (h:Hp) (v:AV) (h':Hp):Prop :=
 match md (o.dst.getD 0+1000000) with
 | false=>DEx E (md (o.dst.getD 0)) o.op F h v h'
 | true=>ECall E o.op F h v h'
def hkO (md:Nat→Bool) (o:Oper):Nat :=
 match md (o.dst.getD 0+1000000) with
 | false=>hk (md (o.dst.getD 0)) o.op
 | true=>2
theorem DExO.exec {E:Env} {md:Nat→Bool} {o:Oper} {F:Fr} {h h':Hp} {v:AV} {K:AV→Hp→Prop} (hd:DExO E md o F h v h') (hk:K v h'):MZ E (md (o.dst.getD 0)) o.op F h K:=by
 unfold DExO at hd
 split at hd
 ·exact hd.exec hk
 ·exact hd.exec hk
theorem ABN {E:Env} {md:Nat→Bool} {o:Oper} {F F':Fr} {h h':Hp} {v:AV} (he : ∀ x∈o.op.operands,ev E F x=ev E F' x) (hd:DExO E md o F h v h'):DExO E md o F' h v h':=by
 unfold DExO at *
 split at hd
 ·exact AOH he hd
 ·exact AIH he hd
theorem AII {E:Env} {md:Nat→Bool} {o:Oper} {F:Fr} {h h':Hp} {v:AV} (h0:hkO md o=0) (hd:DExO E md o F h v h'):h'=h∧∀ h2,DExO E md o F h2 v h2:=by
 unfold DExO at *
 unfold hkO at h0
 split at hd
 ·rename_i he; simp only [he] at h0 ⊢; exact AUB h0 hd
 ·rename_i he; simp only [he] at h0; cases h0
theorem ABM {E:Env} {md:Nat→Bool} {o:Oper} {F:Fr} {h h':Hp} {v:AV} (h0:hkO md o=1∨hkO md o=4) (hd:DExO E md o F h v h'):h'=h:=by
 unfold DExO at hd
 unfold hkO at h0
 split at hd
 ·rename_i he; simp only [he] at h0; exact AUA h0 hd
 ·rename_i he; simp only [he] at h0; rcases h0 with h0 | h0 <;> cases h0
theorem ARN {E:Env} {md:Nat→Bool} {o:Oper} {F:Fr} {h h':Hp} {v:AV} (y:ABlk) (h0:hkO md o=1) (hd:DExO E md o F h v h'):DExO E md o F (h ++ [y]) v (h ++ [y]):=by
 unfold DExO at *
 unfold hkO at h0
 split at hd
 ·rename_i he; simp only [he] at h0 ⊢; exact AUC y h0 hd
 ·rename_i he; simp only [he] at h0; cases h0
theorem AKJ {E:Env} {md:Nat→Bool} {o:Oper} {F:Fr} {h h':Hp} {v:AV} (h0:hkO md o=3) (hd:DExO E md o F h v h') : ∃ y,h'=h ++ [y]:=by
 unfold DExO at hd
 unfold hkO at h0
 split at hd
 ·rename_i he; simp only [he] at h0; exact AOI h0 hd
 ·rename_i he; simp only [he] at h0; cases h0

def X0 (E:Env) (md:Nat→Bool) (ds:List (Option Tmp)) (o:Oper) (s s':Fr × Hp):Prop :=
 (MK ds s.1 o.guard=some true∧∃ v h',DExO E md o s.1 s.2 v h'∧s'=(EM s.1 o.dst v,h')) ∨
 (MK ds s.1 o.guard=some false∧s'=(EM s.1 o.dst HV,s.2))

/- pairs of slots that do not point into the same block -/
def R5:AV→AV→Prop
 | .ptr b _ _,.ptr b' _ _=>b≠b'
 | _,_=>True
def QA (F:Fr):List (Nat × Nat)→Prop
 | []=>True
 | (t,u) :: r=>R5 (F t) (F u)∧QA F r
def UM (sep:List (Nat × Nat)) (t u:Nat):Bool:=sep.any fun p=>(p.1 == t && p.2 == u) || (p.1 == u && p.2 == t)
/-- an address made of one that is known not to point there -/
def faB (sep:List (Nat × Nat)) (op:Op) (u:Nat):Bool:=match op with
 | .fieldAddr _ (.tmp t) _=>UM sep t u
 | _=>false
/-- no operation writes these slots, but with addresses of parts -/
def ZI (sep:List (Nat × Nat)) (ops:List Oper):Bool:=ops.all fun o=>match o.dst with
 | none=>true
 | some d=>sep.all fun p=>p.1 != p.2 && (p.1 != d || faB sep o.op p.2) && (p.2 != d || faB sep o.op p.1)
theorem TI {a b:AV} (h:R5 a b):R5 b a:=by
 cases a <;> cases b <;> simp only [R5] at * <;> exact Ne.symm h
theorem ABK {F:Fr} : ∀ {sep:List (Nat × Nat)},QA F sep↔∀ p∈sep,R5 (F p.1) (F p.2)
 | []=>⟨fun _ _ h=>by (cases h),fun _=>trivial⟩
 | (a,b) :: r=>by
   unfold QA
   rw [ABK]
   simp only [List.mem_cons,forall_eq_or_imp]
theorem WA {F:Fr} {t u:Nat} {sep:List (Nat × Nat)} (hs:QA F sep) (h:UM sep t u=true):R5 (F t) (F u):=by
 unfold UM at h
 rw [List.any_eq_true] at h
 obtain ⟨p,hp,hq⟩:=h
 have:=ABK.1 hs p hp
 simp only [Bool.or_eq_true,Bool.and_eq_true,beq_iff_eq] at hq
 rcases hq with ⟨h1,h2⟩ | ⟨h1,h2⟩
 ·rw [h1,h2] at this; exact this
 ·rw [h1,h2] at this; exact TI this
theorem ABZ {P:Program} {t:TypeId} {x v y:AV} {f:Nat} (hv:CY P t x f=some v) (hs:R5 x y):R5 v y:=by
 unfold CY at hv
 split at hv
 case h_2=>cases hv
 split at hv
 case h_2=>cases hv
 split at hv
 case h_2=>cases hv
 split at hv
 ·cases hv
  cases y <;> simp only [R5] at * <;> exact hs
 ·cases hv; exact trivial
 ·cases hv
theorem AKN {F:Fr} {sep:List (Nat × Nat)} {d:Tmp} {v:AV} (hs:QA F sep) (hv : ∀ p∈sep,p.1≠p.2∧(p.1=d→R5 v (F p.2))∧(p.2=d→R5 (F p.1) v)):QA (upd F d v) sep:=by
 rw [ABK] at *
 intro p hp
 obtain ⟨h0,h1,h2⟩:=hv p hp
 have h3:=hs p hp
 simp only [upd]
 by_cases e1:p.1=d
 ·have e2:p.2≠d:=fun e=>h0 (e1.trans e.symm)
  rw [if_pos e1,if_neg e2]; exact h1 e1
 ·rw [if_neg e1]
  by_cases e2:p.2=d
  ·rw [if_pos e2]; exact h2 e2
  ·rw [if_neg e2]; exact h3
theorem ZG (y:AV):R5 HV y:=by unfold HV; trivial
theorem AKG {sep:List (Nat × Nat)} {ops:List Oper} {F:Fr} {o:Oper} (hok:ZI sep ops=true) (ho:o∈ops) (hs:QA F sep):QA (EM F o.dst HV) sep:=by
 have:=List.all_eq_true.1 hok o ho
 cases hd:o.dst with
 | none=>exact hs
 | some d =>
   rw [hd] at this
   simp only [List.all_eq_true,Bool.and_eq_true,bne_iff_ne] at this
   exact AKN hs fun p hp=>⟨(this p hp).1.1,fun _=>ZG _,fun _=>TI (ZG _)⟩

def AMQ (sep:List (Nat × Nat)) (x y:Op):Bool:=match x,y with
 | .load _ (.tmp t),.store _ (.tmp u) _=>UM sep t u
 | .store _ (.tmp t) _,.load _ (.tmp u)=>UM sep t u
 | .store _ (.tmp t) _,.store _ (.tmp u) _=>UM sep t u
 | _,_=>false
def UZ (md:Nat→Bool) (sep:List (Nat × Nat)) (x y:Oper):Bool :=
 let a:=hkO md x
 let b:=hkO md y
 a == 0 || b == 0 || ((a == 1 || a == 4) && (b == 1 || b == 4)) || (a == 1 && b == 3) || AMQ sep x.op y.op

theorem ADR {P:Program} {h:Hp} {t:TypeId} {a:AV} {b' i' j':Nat} {blk:ABlk} (hne:R5 a (.ptr b' i' j')):D7 P (h.set b' blk) t a=D7 P h t a:=by
 have:rowAt (h.set b' blk) a=rowAt h a:=by
  cases a <;> simp only [rowAt]
  rw [List.getElem?_set_ne (Ne.symm hne)]
 unfold D7
 rw [this]
theorem RH {P:Program} {h h':Hp} {t:TypeId} {a v:AV} (hs:FQ P h t a v=some h') : ∃ b i j,a = .ptr b i j:=by
 unfold FQ at hs
 split at hs
 ·exact ⟨_,_,_,rfl⟩
 ·cases hs
theorem PW {P:Program} {h h':Hp} {t:TypeId} {b i j:Nat} {v:AV} (hs:FQ P h t (.ptr b i j) v=some h') : ∃ blk,h'=h.set b blk∧∀ h2:Hp,h2[b]? = h[b]?→FQ P h2 t (.ptr b i j) v=some (h2.set b blk):=by
 simp only [FQ] at hs
 split at hs
 case h_2=>cases hs
 rename_i k xs hb
 split at hs
 case h_2=>cases hs
 rename_i row hr
 split at hs
 case h_2=>cases hs
 rename_i cs hc
 split at hs
 case isFalse=>cases hs
 rename_i hif
 cases hs
 refine ⟨_,rfl,fun h2 he => ?_⟩
 simp only [FQ,he,hb,hr,hc]
 rw [if_pos hif]
theorem AKV {E:Env} {sep:List (Nat × Nat)} {x y:Op} {F:Fr} {h h1:Hp} {v:AV} (hb:AMQ sep x y=true) : ¬ ECall E x F h v h1∧¬ ECall E y F h v h1:=by
 unfold AMQ at hb
 split at hb
 case h_4=>cases hb
 all_goals exact ⟨fun h=>h,fun h=>h⟩
/-- two operations that touch different blocks change places -/
theorem AT9 {E:Env} {o1 o2:Bool} {sep:List (Nat × Nat)} {x y:Op} {F:Fr} {h h1 h2:Hp} {v u:AV} (hs:QA F sep) (hb:AMQ sep x y=true) (hx:DEx E o1 x F h v h1) (hy:DEx E o2 y F h1 u h2) :
  ∃ h',DEx E o2 y F h u h'∧DEx E o1 x F h' v h2:=by
 unfold AMQ at hb
 split at hb
 case h_4=>cases hb
 ·rename_i t a t' c z
  have hsep:=WA hs hb
  simp only [DEx,aop,ev] at hx hy ⊢
  obtain ⟨p1,rfl⟩:=H8 hx
  obtain ⟨q1,rfl⟩:=SC hy
  obtain ⟨b2,i2,j2,e2⟩:=RH q1
  rw [e2] at hsep
  simp only [e2] at q1 ⊢
  obtain ⟨blk,rfl,_⟩:=PW q1
  exact ⟨_,by rw [q1]; rfl,by rw [ADR hsep,p1]; rfl⟩
 ·rename_i t a z t' c
  have hsep:=WA hs hb
  simp only [DEx,aop,ev] at hx hy ⊢
  obtain ⟨p1,rfl⟩:=SC hx
  obtain ⟨q1,rfl⟩:=H8 hy
  obtain ⟨b1,i1,j1,e1⟩:=RH p1
  rw [e1] at hsep
  simp only [e1] at p1 ⊢
  obtain ⟨blk,rfl,_⟩:=PW p1
  rw [ADR (TI hsep)] at q1
  exact ⟨_,by rw [q1]; rfl,by rw [p1]; rfl⟩
 ·rename_i t a z t' c z'
  have hsep:=WA hs hb
  simp only [DEx,aop,ev] at hx hy ⊢
  obtain ⟨p1,rfl⟩:=SC hx
  obtain ⟨q1,rfl⟩:=SC hy
  obtain ⟨b1,i1,j1,e1⟩:=RH p1
  obtain ⟨b2,i2,j2,e2⟩:=RH q1
  rw [e1,e2] at hsep
  have hne:b1≠b2:=hsep
  simp only [e1,e2] at p1 q1 ⊢
  obtain ⟨blk,rfl,p2⟩:=PW p1
  obtain ⟨blk',rfl,q2⟩:=PW q1
  have g1:h[b2]? = (h.set b1 blk)[b2]? := by rw [List.getElem?_set_ne hne]
  have g2:(h.set b2 blk')[b1]? = h[b1]? := by rw [List.getElem?_set_ne (Ne.symm hne)]
  refine ⟨h.set b2 blk',by rw [q2 h g1]; rfl,?_⟩
  rw [p2 _ g2,List.set_comm _ _ hne]
  rfl
theorem MJ (F:Fr) {x y:Option Tmp} (v u:AV) (h : ∀ d,x=some d→y≠some d):EM (EM F x v) y u=EM (EM F y u) x v:=by
 cases x with
 | none=>rfl
 | some d =>
   cases y with
   | none=>rfl
   | some e =>
     have hne:e≠d:=fun he=>h d rfl (he ▸ rfl)
     funext i
     simp only [EM,upd]
     by_cases h1:i=e
     ·subst h1; simp [hne]
     ·simp [h1]
theorem AQC {E:Env} {F:Fr} {dst:Option Tmp} {v:AV} {x:Operand} (h : ∀ d,dst=some d→x≠.tmp d):ev E (EM F dst v) x=ev E F x:=by
 cases dst with
 | none=>rfl
 | some d =>
   cases x with
   | tmp t =>
     have:t≠d:=fun e=>h d rfl (e ▸ rfl)
     simp [ev,EM,upd,this]
   | _=>rfl

theorem AGO {ops:Array Oper} {o:Oper} {d:Tmp} (h:d ∉ o.looksAt ops) : ∀ x∈o.op.operands,x≠.tmp d:=by
 intro x hx he
 subst he
 refine h (List.mem_append.2 (.inl ?_))
 rw [List.mem_filterMap]
 exact ⟨.tmp d,by simpa using hx,rfl⟩
theorem AFJ {ops:Array Oper} {o:Oper} {F:Fr} {dst:Option Tmp} {v:AV} (h : ∀ d,dst=some d→d ∉ o.looksAt ops) :
  MK (ops.toList.map (·.dst)) (EM F dst v) o.guard=MK (ops.toList.map (·.dst)) F o.guard:=by
 unfold MK
 split
 ·rfl
 ·rename_i j want hg
  rw [AEI]
  have hops:(ops.toList[j]?).bind (·.dst)=(ops[j]?).bind (·.dst):=by simp
  rw [hops]
  cases hd:(ops[j]?).bind (·.dst) with
  | none=>rfl
  | some d =>
    simp only
    have:EM F dst v d=F d:=by
     cases dst with
     | none=>rfl
     | some e =>
       have hne:d≠e:=by
        intro he
        subst he
        refine h d rfl (List.mem_append.2 (.inr ?_))
        rw [hg]
        simp [hd]
       simp [EM,upd,hne]
    rw [this]

theorem ARL {E:Env} {md:Nat→Bool} {sep:List (Nat × Nat)} {x y:Oper} {F:Fr} {h h1 h2:Hp} {v u:AV} (hs:QA F sep) (hb:AMQ sep x.op y.op=true) (hx:DExO E md x F h v h1) (hy:DExO E md y F h1 u h2) :
  ∃ h',DExO E md y F h u h'∧DExO E md x F h' v h2:=by
 unfold DExO at *
 split at hx
 case h_2=>exact absurd hx (AKV hb).1
 rename_i e1
 split at hy
 case h_2=>exact absurd hy (AKV hb).2
 rename_i e2
 exact AT9 hs hb hx hy
theorem AKK {E:Env} {md:Nat→Bool} {sep:List (Nat × Nat)} {ops:Array Oper} {x y:Oper} {s s1 s2:Fr × Hp} (hsep:QA s.1 sep) (hap:x.apart ops y=true) (hco:UZ md sep x y=true)
  (hx:X0 E md (ops.toList.map (·.dst)) x s s1) (hy:X0 E md (ops.toList.map (·.dst)) y s1 s2) : ∃ t,X0 E md (ops.toList.map (·.dst)) y s t∧X0 E md (ops.toList.map (·.dst)) x t s2:=by
 obtain ⟨p1,p2,p3⟩:=Oper.apart_spec hap
 obtain ⟨F,h⟩:=s
 have exY : ∀ {v u:AV} {h1 h2:Hp},DExO E md y (EM F x.dst v) h1 u h2→DExO E md y F h1 u h2:=fun hd =>
  ABN (fun z hz=>AQC fun d hdd he=>AGO (p1 d hdd) z hz he) hd
 have exX : ∀ {v u:AV} {h1 h2:Hp},DExO E md x F h1 u h2→DExO E md x (EM F y.dst v) h1 u h2:=fun hd =>
  ABN (fun z hz=>(AQC fun d hdd he=>AGO (p3 d hdd) z hz he).symm) hd
 have wY : ∀ v,MK (ops.toList.map (·.dst)) (EM F x.dst v) y.guard=MK (ops.toList.map (·.dst)) F y.guard:=fun v=>AFJ p1
 have wX : ∀ v,MK (ops.toList.map (·.dst)) (EM F y.dst v) x.guard=MK (ops.toList.map (·.dst)) F x.guard:=fun v=>AFJ p3
 rcases hx with ⟨a1,v,h1,a2,rfl⟩ | ⟨a1,rfl⟩ <;> rcases hy with ⟨b1,u,h2,b2,rfl⟩ | ⟨b1,rfl⟩
 ·simp only at *
  rw [wY] at b1
  have b2':=exY b2
  simp only [UZ,Bool.or_eq_true,Bool.and_eq_true,beq_iff_eq] at hco
  rcases hco with (((hc | hc) | ⟨hc1,hc2⟩) | ⟨hc1,hc2⟩) | hc
  ·obtain ⟨rfl,hz⟩:=AII hc a2
   exact ⟨(EM F y.dst u,h2),.inl ⟨b1,u,h2,b2',rfl⟩,.inl ⟨by rw [wX]; exact a1,v,h2,exX (hz h2),by rw [MJ F v u p2]⟩⟩
  ·obtain ⟨rfl,hz⟩:=AII hc b2'
   exact ⟨(EM F y.dst u,h),.inl ⟨b1,u,h,hz h,rfl⟩,.inl ⟨by rw [wX]; exact a1,v,_,exX a2,by rw [MJ F v u p2]⟩⟩
  ·have e1:=ABM hc1 a2
   subst e1
   have e2:=ABM hc2 b2'
   subst e2
   exact ⟨(EM F y.dst u,_),.inl ⟨b1,u,_,b2',rfl⟩,.inl ⟨by rw [wX]; exact a1,v,_,exX a2,by rw [MJ F v u p2]⟩⟩
  ·have e1:=ABM (.inl hc1) a2
   subst e1
   obtain ⟨blk,rfl⟩:=AKJ hc2 b2'
   exact ⟨(EM F y.dst u,_),.inl ⟨b1,u,_,b2',rfl⟩,.inl ⟨by rw [wX]; exact a1,v,_,exX (ARN blk hc1 a2),by rw [MJ F v u p2]⟩⟩
  ·obtain ⟨h3,r1,r2⟩:=ARL hsep hc a2 b2'
   exact ⟨(EM F y.dst u,h3),.inl ⟨b1,u,h3,r1,rfl⟩,.inl ⟨by rw [wX]; exact a1,v,_,exX r2,by rw [MJ F v u p2]⟩⟩
 ·simp only at *
  rw [wY] at b1
  exact ⟨(EM F y.dst HV,h),.inr ⟨b1,rfl⟩,.inl ⟨by rw [wX]; exact a1,v,h1,exX a2,by rw [MJ F v HV p2]⟩⟩
 ·simp only at *
  rw [wY] at b1
  exact ⟨(EM F y.dst u,h2),.inl ⟨b1,u,h2,exY b2,rfl⟩,.inr ⟨by rw [wX]; exact a1,by rw [MJ F HV u p2]⟩⟩
 ·simp only at *
  rw [wY] at b1
  exact ⟨(EM F y.dst HV,h),.inr ⟨b1,rfl⟩,.inr ⟨by rw [wX]; exact a1,by rw [MJ F HV HV p2]⟩⟩

/- whatever order -/
def AQ9 (E:Env) (md:Nat→Bool) (ops:Array Oper) (Q:Fr × Hp→Prop):Nat→Array Bool→Fr × Hp→Prop
 | 0,listed,s=>Region.ready .any ops listed = []∧Q s
 | fuel+1,listed,s=>(Region.ready .any ops listed = []→Q s) ∧
   ∀ i∈Region.ready .any ops listed,∃ o s',ops[i]? = some o∧X0 E md (ops.toList.map (·.dst)) o s s'∧AQ9 E md ops Q fuel (listed.setIfInBounds i true) s'

theorem AP9 {sep:List (Nat × Nat)} {op:Op} {u:Nat} (h:faB sep op u=true) : ∃ ty t f,op = .fieldAddr ty (.tmp t) f∧UM sep t u=true:=by
 unfold faB at h
 split at h
 ·exact ⟨_,_,_,rfl,h⟩
 ·cases h
theorem AP8 {E:Env} {md:Nat→Bool} {sep:List (Nat × Nat)} {o:Oper} {F:Fr} {h h':Hp} {v:AV} {u:Nat} (hs:QA F sep) (hf:faB sep o.op u=true) (hd:DExO E md o F h v h'):R5 v (F u):=by
 obtain ⟨ty,t,f,e,hh⟩:=AP9 hf
 have h1:=WA hs hh
 unfold DExO at hd
 rw [e] at hd
 split at hd
 ·simp only [DEx,aop,ev] at hd
  exact ABZ (H8 hd).1 h1
 ·exact hd.elim
theorem ADU {E:Env} {md:Nat→Bool} {sep:List (Nat × Nat)} {ops:List Oper} {ds:List (Option Tmp)} {o:Oper} {s s':Fr × Hp} (hok:ZI sep ops=true) (ho:o∈ops) (hs:QA s.1 sep) (h:X0 E md ds o s s'):QA s'.1 sep:=by
 rcases h with ⟨_,v,h',hd,rfl⟩ | ⟨_,rfl⟩
 ·have:=List.all_eq_true.1 hok o ho
  cases hdst:o.dst with
  | none=>exact hs
  | some d =>
    rw [hdst] at this
    simp only [List.all_eq_true,Bool.and_eq_true,Bool.or_eq_true,bne_iff_ne] at this
    refine AKN hs fun p hp=>⟨(this p hp).1.1,fun e => ?_,fun e => ?_⟩
    ·rcases (this p hp).1.2 with h1 | h1
     ·exact absurd e h1
     ·exact AP8 hs h1 hd
    ·rcases (this p hp).2 with h1 | h1
     ·exact absurd e h1
     ·exact TI (AP8 hs h1 hd)
 ·exact AKG hok ho hs
theorem ALD {ops:Array Oper} {i:Nat} {o:Oper} (h:ops[i]? = some o):o∈ops.toList:=by
 have:ops.toList[i]? = some o:=by simpa using h
 exact List.mem_of_getElem? this
theorem AJ7 {E:Env} {md:Nat→Bool} {sep:List (Nat × Nat)} {ops:Array Oper} {Q:Fr × Hp→Prop} {i:Nat} {oi:Oper} (hok:ZI sep ops.toList=true) (hi:ops[i]? = some oi) (r:Nat→Bool)
  (hsup : ∀ j oj,ops[j]? = some oj→r j=true→j≠i→∃ e∈oj.after,Region.binds .any e=true∧r e.on=true) : ∀ (fuel:Nat) (listed:Array Bool) (s s1:Fr × Hp),
  (∀ j,r j=true→listed.getD j true=false) →
  (∀ j oj,ops[j]? = some oj→j≠i→listed.getD j true=false→r j=false→oi.apart ops oj=true∧UZ md sep oi oj=true)→QA s.1 sep →
  i∈Region.ready .any ops listed→X0 E md (ops.toList.map (·.dst)) oi s s1→AQ9 E md ops Q fuel (listed.setIfInBounds i true) s1→AQ9 E md ops Q (fuel+1) listed s:=by
 intro fuel
 induction fuel with
 | zero =>
   intro listed s s1 _ _ _ hr hy H
   refine ⟨fun h=>(by rw [h] at hr; cases hr),fun j hj => ?_⟩
   by_cases hji:j=i
   ·subst hji; exact ⟨oi,s1,hi,hy,H⟩
   ·have:=ready_mono hj hji
    rw [H.1] at this
    cases this
 | succ fuel ih =>
   intro listed s s1 hun hfree hs hr hy H
   refine ⟨fun h=>(by rw [h] at hr; cases hr),fun j hj => ?_⟩
   by_cases hji:j=i
   ·subst hji; exact ⟨oi,s1,hi,hy,H⟩
   ·obtain ⟨oj,s2,hoj,hst,hrest⟩:=H.2 j (ready_mono hj hji)
    obtain ⟨hjun,oj',hoj',hall⟩:=mem_ready.1 hj
    rw [hoj] at hoj'; cases hoj'
    have hrj:r j=false:=by
     cases hc:r j with
     | false=>rfl
     | true =>
       obtain ⟨e,he,hb,hre⟩:=hsup j oj hoj hc hji
       have h1:=hall e he hb
       have h0:=hun e.on hre
       rcases Nat.lt_or_ge e.on listed.size with h' | h'
       ·simp [h'] at h0 h1; rw [h0] at h1; cases h1
       ·simp [Array.getElem?_eq_none h'] at h1
    obtain ⟨q1,q2⟩:=hfree j oj hoj hji hjun hrj
    obtain ⟨t,t1,t2⟩:=AKK hs q1 q2 hy hst
    have hun' : ∀ k,r k=true→(listed.setIfInBounds j true).getD k true=false:=fun k hk=>by
     by_cases hjk:j=k
     ·subst hjk; rw [hrj] at hk; cases hk
     ·rw [getD_set_ne true hjk]; exact hun k hk
    have hfree' : ∀ k ok,ops[k]? = some ok→k≠i→(listed.setIfInBounds j true).getD k true=false→r k=false→oi.apart ops ok=true∧UZ md sep oi ok=true:=fun k ok hk hki hun2 hno=>by
     refine hfree k ok hk hki ?_ hno
     by_cases hjk:j=k
     ·subst hjk; exact hjun
     ·rw [getD_set_ne true hjk] at hun2; exact hun2
    refine ⟨oj,t,hoj,t1,ih (listed.setIfInBounds j true) t s2 hun' hfree' (ADU hok (ALD hoj) hs t1) (ready_mono hr (Ne.symm hji)) t2 ?_⟩
    rw [Array.setIfInBounds_comm _ _ hji]
    exact hrest

/- whom each operation waits for, as bits -/
def AGN (acc:List Nat) (es:List Edge):Nat:=es.foldl (fun s e=>if Region.binds .any e then s ||| (2 ^ e.on ||| acc.getD e.on 0) else s) 0
def AB9:List Oper→List Nat→List Nat
 | [],acc=>acc
 | o :: r,acc=>AB9 r (acc ++ [AGN acc o.after.toList])
def rowOk (md:Nat→Bool) (sep:List (Nat × Nat)) (ops:Array Oper) (k:Nat) (x:Oper):List Oper→List Nat→Bool
 | y :: r,m :: ms=>(m.testBit k || (UZ md sep x y && x.apart ops y)) && rowOk md sep ops k x r ms
 | _,_=>true
def YL (md:Nat→Bool) (sep:List (Nat × Nat)) (ops:Array Oper):List Oper→List Nat→Nat→Bool
 | x :: r,_ :: ms,k=>rowOk md sep ops k x r ms && YL md sep ops r ms (k+1)
 | _,_,_=>true
def ACU:List Oper→Nat→Bool
 | [],_=>true
 | o :: r,k=>o.after.toList.all (fun e => !(Region.binds .any e) || Nat.blt e.on k) && ACU r (k+1)
/-- the order of the text serves every order: each operation waits for earlier ones alone, and two that do not wait for one another may change places -/
def API (md:Nat→Bool) (sep:List (Nat × Nat)) (ops:Array Oper):Bool:=ACU ops.toList 0 && YL md sep ops ops.toList (AB9 ops.toList []) 0

theorem UR : ∀ {l:List Oper} {k:Nat},ACU l k=true→∀ (i:Nat) (o:Oper),l[i]? = some o→∀ e∈o.after,Region.binds .any e=true→e.on < k+i
 | [],_,_,i,o,h=>by simp at h
 | x :: l,k,hl,i,o,h=>by
   simp only [ACU,Bool.and_eq_true] at hl
   intro e he hb
   cases i with
   | zero =>
     simp at h; subst h
     have:=List.all_eq_true.1 hl.1 e (by simpa using he)
     rw [hb] at this
     simp only [Bool.not_true,Bool.false_or,Nat.blt_eq] at this
     exact this
   | succ i =>
     have:=UR hl.2 i o (by simpa using h) e he hb
     omega
theorem ZL {md:Nat→Bool} {sep:List (Nat × Nat)} {ops:Array Oper} {k:Nat} {x:Oper} : ∀ {l:List Oper} {ms:List Nat},rowOk md sep ops k x l ms=true→∀ (j:Nat) (y:Oper),l[j]? = some y→j < ms.length →
  (ms.getD j 0).testBit k=true∨(x.apart ops y=true∧UZ md sep x y=true)
 | [],_,_,j,y,h,_=>by simp at h
 | _ :: _,[],_,j,y,_,h=>by simp at h
 | z :: l,m :: ms,hr,j,y,h,hj=>by
   simp only [rowOk,Bool.and_eq_true,Bool.or_eq_true] at hr
   cases j with
   | zero =>
     simp at h; subst h
     rcases hr.1 with h1 | h1
     ·exact .inl (by simpa using h1)
     ·exact .inr ⟨h1.2,h1.1⟩
   | succ j =>
     have:=ZL hr.2 j y (by simpa using h) (by simpa using hj)
     simpa using this
theorem VD {md:Nat→Bool} {sep:List (Nat × Nat)} {ops:Array Oper} : ∀ {l:List Oper} {ms:List Nat} {k:Nat},YL md sep ops l ms k=true→ms.length=l.length→∀ (i j:Nat) (x y:Oper),i < j→l[i]? = some x→l[j]? = some y →
  (ms.getD j 0).testBit (k+i)=true∨(x.apart ops y=true∧UZ md sep x y=true)
 | [],_,_,_,_,i,j,x,y,_,h,_=>by simp at h
 | _ :: _,[],_,_,hl,_,_,_,_,_,_,_=>by simp at hl
 | z :: l,m :: ms,k,hp,hl,i,j,x,y,hij,hx,hy=>by
   simp only [YL,Bool.and_eq_true] at hp
   simp at hl
   obtain ⟨j',rfl⟩ : ∃ j',j=j'+1:=⟨j - 1,by omega⟩
   have hy':l[j']? = some y:=by simpa using hy
   cases i with
   | zero =>
     simp at hx; subst hx
     have:=ZL hp.1 j' y hy' (by have:=CE hy'; omega)
     simpa using this
   | succ i =>
     have:=VD hp.2 hl i j' x y (by omega) (by simpa using hx) hy'
     rw [show k+1+i=k+(i+1) by omega] at this
     simpa using this
theorem ACT {acc:List Nat} {k:Nat} : ∀ (es:List Edge) (s:Nat),(es.foldl (fun s e=>if Region.binds .any e then s ||| (2 ^ e.on ||| acc.getD e.on 0) else s) s).testBit k=true→s.testBit k=true∨∃ e∈es,Region.binds .any e=true∧(e.on=k∨(acc.getD e.on 0).testBit k=true)
 | [],s,h => .inl h
 | e :: es,s,h=>by
   rw [List.foldl_cons] at h
   rcases ACT es _ h with h1 | ⟨e',h1,h2⟩
   ·split at h1
    ·rename_i hb
     rw [Nat.testBit_or,Nat.testBit_or,Bool.or_eq_true,Bool.or_eq_true,Nat.testBit_two_pow] at h1
     rcases h1 with h1 | h1 | h1
     ·exact .inl h1
     ·exact .inr ⟨e,by simp,hb,.inl (by simpa using h1)⟩
     ·exact .inr ⟨e,by simp,hb,.inr h1⟩
    ·exact .inl h1
   ·exact .inr ⟨e',by simp [h1],h2⟩
theorem W9 : ∀ (l:List Oper) (acc:List Nat),∃ tl,AB9 l acc=acc ++ tl∧tl.length=l.length∧∀ (i:Nat) (o:Oper),l[i]? = some o→(AB9 l acc).getD (acc.length+i) 0=AGN ((AB9 l acc).take (acc.length+i)) o.after.toList
 | [],acc=>⟨[],by simp [AB9],rfl,fun i o h=>by simp at h⟩
 | x :: l,acc=>by
   obtain ⟨tl,h1,h2,h3⟩:=W9 l (acc ++ [AGN acc x.after.toList])
   have e:AB9 (x :: l) acc=AB9 l (acc ++ [AGN acc x.after.toList]):=rfl
   refine ⟨AGN acc x.after.toList :: tl,by rw [e,h1]; simp,by simp [h2],fun i o h => ?_⟩
   rw [e]
   cases i with
   | zero =>
     simp at h; subst h
     rw [h1]
     simp [List.getD_eq_getElem?_getD]
   | succ i =>
     have:=h3 i o (by simpa using h)
     rw [List.length_append,List.length_singleton] at this
     rw [show acc.length+(i+1)=acc.length+1+i by omega]
     exact this
/-- operation j waits, over others, for operation k -/
def QY (ops:Array Oper) (k j:Nat):Bool:=((AB9 ops.toList []).getD j 0).testBit k
theorem Y5 (ops:Array Oper):(AB9 ops.toList []).length=ops.size:=by
 obtain ⟨tl,h1,h2,_⟩:=W9 ops.toList []
 rw [h1]; simp [h2]
theorem ACD {ops:Array Oper} {k j:Nat} (h:QY ops k j=true):j < ops.size:=by
 rcases Nat.lt_or_ge j ops.size with h1 | h1
 ·exact h1
 ·unfold QY at h
  rw [List.getD_eq_getElem?_getD,List.getElem?_eq_none (by rw [Y5]; exact h1)] at h
  simp at h
theorem XG {ops:Array Oper} (hl:ACU ops.toList 0=true) {k j:Nat} {o:Oper} (ho:ops[j]? = some o) (h:QY ops k j=true) : ∃ e∈o.after,Region.binds .any e=true∧e.on < j∧(e.on=k∨QY ops k e.on=true):=by
 obtain ⟨_,_,_,h3⟩:=W9 ops.toList []
 have h4:=h3 j o (by simpa using ho)
 simp only [List.length_nil,Nat.zero_add] at h4
 unfold QY at h
 rw [h4] at h
 rcases ACT _ _ h with h5 | ⟨e,h5,h6,h7⟩
 ·simp at h5
 ·have hlt:=UR hl j o (by simpa using ho) e (by simpa using h5) h6
  rw [Nat.zero_add] at hlt
  refine ⟨e,by simpa using h5,h6,hlt,?_⟩
  rcases h7 with h7 | h7
  ·exact .inl h7
  ·refine .inr ?_
   unfold QY
   rw [List.getD_eq_getElem?_getD,List.getElem?_take,if_pos hlt,← List.getD_eq_getElem?_getD] at h7
   exact h7
theorem AMI {ops:Array Oper} (hl:ACU ops.toList 0=true) {k:Nat} : ∀ (j:Nat),QY ops k j=true→k < j:=by
 intro j
 induction j using Nat.strongRecOn with
 | _ j ih =>
   intro h
   have hj:=ACD h
   obtain ⟨e,_,_,hlt,h7⟩:=XG hl (show ops[j]? = some ops[j] by simp [hj]) h
   rcases h7 with h7 | h7
   ·omega
   ·have:=ih e.on hlt h7; omega

/-- the order of the text, calls pure -/
def D (E:Env) (md:Nat→Bool) (ds:List (Option Tmp)):List Oper→Fr→Hp→(Fr→Hp→Prop)→Prop
 | [],F,h,K=>K F h
 | o :: r,F,h,K=>match MK ds F o.guard with
   | some c=>(c=true→∃ v h',DExO E md o F h v h'∧D E md ds r (EM F o.dst v) h' K)∧(c=false→D E md ds r (EM F o.dst HV) h K)
   | none=>False

theorem AWX {E:Env} {md:Nat→Bool} {ds:List (Option Tmp)} {o:Oper} {r:List Oper} {F:Fr} {h:Hp} {K:Fr→Hp→Prop} (hD:D E md ds (o :: r) F h K) :
  ∃ s',X0 E md ds o (F,h) s'∧D E md ds r s'.1 s'.2 K:=by
 unfold D at hD
 split at hD
 ·rename_i c hc
  cases c with
  | true =>
    obtain ⟨v,h',h1,h2⟩:=hD.1 rfl
    exact ⟨_,.inl ⟨hc,v,h',h1,rfl⟩,h2⟩
  | false=>exact ⟨_,.inr ⟨hc,rfl⟩,hD.2 rfl⟩
 ·exact hD.elim

/-- the first k operations are done -/
def LK (ops:Array Oper) (k:Nat) (listed:Array Bool):Prop:=listed.size=ops.size∧∀ j,j < ops.size→listed[j]? = some (decide (j < k))
theorem LK.getD {ops:Array Oper} {k j:Nat} {listed:Array Bool} (h:LK ops k listed) (hj:j < ops.size) (d:Bool):listed.getD j d=decide (j < k):=by
 have:=h.2 j hj
 rw [Array.getD_eq_getD_getElem?,this]; rfl
theorem LK.next {ops:Array Oper} {k:Nat} {listed:Array Bool} (h:LK ops k listed):LK ops (k+1) (listed.setIfInBounds k true):=by
 refine ⟨by simpa using h.1,fun j hj => ?_⟩
 by_cases e:k=j
 ·subst e
  rw [Array.getElem?_setIfInBounds_self_of_lt (by rw [h.1]; exact hj)]
  simp
 ·rw [Array.getElem?_setIfInBounds_ne e,h.2 j hj]
  congr 1
  rw [decide_eq_decide]
  omega
theorem AH8 {E:Env} {md:Nat→Bool} {sep:List (Nat × Nat)} {ops:Array Oper} {K:Fr→Hp→Prop} (hok:ZI sep ops.toList=true) (hB:API md sep ops=true) : ∀ (l:List Oper) (k:Nat) (listed:Array Bool) (F:Fr) (h:Hp),(∀ j:Nat,l[j]? = ops[k+j]?) →
  LK ops k listed→QA F sep→D E md (ops.toList.map (·.dst)) l F h K→AQ9 E md ops (fun s=>K s.1 s.2) l.length listed (F,h)
 | [],k,listed,F,h,hl,hL,_,hD=>by
   refine ⟨?_,hD⟩
   rw [List.eq_nil_iff_forall_not_mem]
   intro i hi
   obtain ⟨h1,o,h2,_⟩:=mem_ready.1 hi
   have hlt:i < ops.size:=(Array.getElem?_eq_some_iff.1 h2).1
   have hk:ops.size≤k:=by
    have:=(hl 0).symm
    simp only [Nat.add_zero,List.getElem?_nil] at this
    simpa using this
   rw [hL.getD hlt] at h1
   simp at h1; omega
 | o :: l,k,listed,F,h,hl,hL,hs,hD=>by
   have h0:ops[k]? = some o:=by simpa using (hl 0).symm
   have hlt:k < ops.size:=(Array.getElem?_eq_some_iff.1 h0).1
   have hB':=hB
   simp only [API,Bool.and_eq_true] at hB'
   obtain ⟨hlow,hpair⟩:=hB'
   obtain ⟨s',h1,h2⟩:=AWX hD
   refine AJ7 hok h0 (fun j=>decide (j=k) || QY ops k j) (fun j oj hj hr hne => ?_) l.length listed (F,h) s' (fun j hr => ?_) (fun j oj hj hne hun hr => ?_) hs ?_ h1
    (AH8 hok hB l (k+1) _ s'.1 s'.2 (fun j=>by have:=hl (j+1); simpa [Nat.add_assoc,Nat.add_comm 1 j] using this) hL.next (ADU (s:=(F,h)) hok (ALD h0) hs h1) h2)
   ·simp only [Bool.or_eq_true,decide_eq_true_eq] at hr
    rcases hr with hr | hr
    ·exact absurd hr hne
    ·obtain ⟨e,he,hb,_,h7⟩:=XG hlow hj hr
     exact ⟨e,he,hb,by simpa using h7⟩
   ·simp only [Bool.or_eq_true,decide_eq_true_eq] at hr
    rcases hr with rfl | hr
    ·rw [hL.getD hlt]; simp
    ·have h3:=ACD hr
     have h4:=AMI hlow j hr
     rw [hL.getD h3]; simp; omega
   ·have h3:j < ops.size:=(Array.getElem?_eq_some_iff.1 hj).1
    rw [hL.getD h3] at hun
    simp only [Bool.or_eq_false_iff,decide_eq_false_iff_not] at hr
    have hkj:k < j:=by simp at hun; omega
    rcases VD hpair (by rw [Y5]; simp) k j o oj hkj (by simpa using h0) (by simpa using hj) with h4 | h4
    ·rw [Nat.zero_add] at h4
     have:QY ops k j=true:=h4
     rw [this] at hr; cases hr.2
    ·exact h4
   ·rw [mem_ready]
    refine ⟨by rw [hL.getD hlt]; simp,o,h0,fun e he hb => ?_⟩
    have:=UR hlow k o (by simpa using h0) e he hb
    rw [Nat.zero_add] at this
    rw [hL.getD (by omega)]; simpa using this

theorem UJ {E:Env} {md:Nat→Bool} {n:Nat} {ops:Array Oper} {Q:Exit→Act→World→Prop} {K:Fr × Hp→Prop} {g0:Gh} (hd : ∀ (i:Nat) (o:Oper),ops[i]? = some o→∀ d,o.dst=some d→d < n)
  (hk : ∀ F' h' g' a' w',K (F',h')→g0.le g'→Sim E n g' F' h' a' w'→Q .normal a' w') : ∀ (fuel:Nat) (listed:Array Bool) (F:Fr) (h:Hp) (g:Gh) (a:Act) (w:World),
  AQ9 E md ops K fuel listed (F,h)→g0.le g→Sim E n g F h a w→wpAny E.P .any ops Q fuel listed a w
 | 0,_,F,h,g,a,w,hA,hg,s=>⟨hA.1,hk F h g a w hA.2 hg s⟩
 | fuel+1,listed,F,h,g,a,w,hA,hg,s=>by
   refine ⟨fun h0=>hk F h g a w (hA.1 h0) hg s,fun i hi => ?_⟩
   obtain ⟨o,s',ho,hst,hrest⟩:=hA.2 i hi
   unfold wpOp
   simp only [ho]
   rcases hst with ⟨a1,v,h1,a2,rfl⟩ | ⟨a1,rfl⟩
   ·rw [UK (o:=o) s a1]
    simp only [if_true]
    refine .inl (AAT (K:=fun v' h'=>v'=v∧h'=h1) (a2.exec ⟨rfl,rfl⟩) s ?_)
    rintro v' h' ⟨rfl,rfl⟩ g' w' cv hle hH hr
    exact UJ hd hk fuel _ _ _ _ _ _ hrest (hg.trans hle) (s.put (hd i o ho) hle hH hr)
   ·rw [UK (o:=o) s a1]
    simp only [Bool.false_eq_true,if_false]
    exact UJ hd hk fuel _ _ _ _ _ _ hrest hg (s.put (hd i o ho) (Gh.le.refl g) s.simH (Rep.undef g))
end Go.Proofs.YtocilianjfhifaaGreatDoor.Sm
/- What is to be shown of a function's body, and that it gives the function's contract; freezing what a call hands back; no condition. -/
namespace Go.Proofs.YtocilianjfhifaaGreatDoor.Sm
open Go

inductive AEx where
 | normal | exit (id:Nat) | ret
def AEx.to:AEx→Exit
 | .normal => .normal
 | .exit id => .exit id
 | .ret => .ret
def ZC (next:Fr→Hp→Prop) (Q:AEx→Fr→Hp→Prop):AEx→Fr→Hp→Prop
 | .normal,F,h=>next F h
 | .exit id,F,h=>Q (.exit id) F h
 | .ret,F,h=>Q .ret F h
def O1 (id:Nat) (Q:AEx→Fr→Hp→Prop):AEx→Fr→Hp→Prop
 | .normal,F,h=>Q .normal F h
 | .exit i,F,h=>if i=id then Q .normal F h else Q (.exit i) F h
 | .ret,F,h=>Q .ret F h

/-- what is to be shown of code -/
def awp (E:Env) (H:Hint):Code→Fr→Hp→(AEx→Fr→Hp→Prop)→Prop
 | .skip,F,h,Q=>Q .normal F h
 | .label _,F,h,Q=>Q .normal F h
 | .ret,F,h,Q=>Q .ret F h
 | .exit id,F,h,Q=>Q (.exit id) F h
 | .seq a b,F,h,Q=>awp E H a F h (ZC (fun F h=>awp E H b F h Q) Q)
 | .block id b,F,h,Q=>awp E H b F h (O1 id Q)
 | .cond c a b,F,h,Q=>match ev E F c with
   | .bool t=>(t=true→awp E H a F h Q)∧(t=false→awp E H b F h Q)
   | _=>False
 | .loop b,F,h,Q => ∃ I:Nat→Fr→Hp→Prop,(∃ n,I n F h)∧∀ n F h,I n F h→awp E H b F h (ZC (fun F' h' => ∃ m,m < n∧I m F' h') Q)
 | .region _ ops draw,F,h,Q=>match draw with
   | false=>W E H (ops.toList.map (·.dst)) ops.toList F h (Q .normal)
   | true=>(∃ sep,API H.md sep ops=true∧ZI sep ops.toList=true∧QA F sep)∧D E H.md (ops.toList.map (·.dst)) ops.toList F h (Q .normal)
 | _,_,_,_=>False

def UE (n:Nat):Code→Bool
 | .seq a b=>UE n a && UE n b
 | .block _ b=>UE n b
 | .cond _ a b=>UE n a && UE n b
 | .loop b=>UE n b
 | .region _ ops _=>ops.toList.all fun o=>match o.dst with
   | some d=>decide (d < n)
   | none=>true
 | _=>true

/-- the states behind a piece of code -/
def After (E:Env) (n:Nat) (g:Gh) (Q:AEx→Fr→Hp→Prop) (e:Exit) (a:Act) (w:World):Prop :=
 ∃ x g' F h,e=x.to∧Q x F h∧g.le g'∧Sim E n g' F h a w

theorem ABD {E:Env} {n:Nat} {g:Gh} {next:Fr→Hp→Prop} {Q:AEx→Fr→Hp→Prop} {e:Exit} {a:Act} {w:World} {k:Act→World→Prop} {Q':Exit→Act→World→Prop} (h:After E n g (ZC next Q) e a w)
  (h1 : ∀ F h g',next F h→g.le g'→Sim E n g' F h a w→k a w) (h2:After E n g Q e a w→e≠.normal→Q' e a w):Exit.then k Q' e a w:=by
 obtain ⟨x,g',F,hp,rfl,hq,hg,s⟩:=h
 cases x with
 | normal=>exact h1 F hp g' hq hg s
 | exit id=>exact h2 ⟨.exit id,g',F,hp,rfl,hq,hg,s⟩ (by simp [AEx.to])
 | ret=>exact h2 ⟨.ret,g',F,hp,rfl,hq,hg,s⟩ (by simp [AEx.to])

theorem After.mono_g {E:Env} {n:Nat} {g g1:Gh} {Q:AEx→Fr→Hp→Prop} {e:Exit} {a:Act} {w:World} (hg:g.le g1) (h:After E n g1 Q e a w):After E n g Q e a w:=by
 obtain ⟨x,g',F,hp,e1,hq,h1,s⟩:=h
 exact ⟨x,g',F,hp,e1,hq,hg.trans h1,s⟩

theorem ATH {n:Nat} {ops:Array Oper} (h:(ops.toList.all fun o=>match o.dst with | some d=>decide (d < n) | none=>true)=true) : ∀ o∈ops.toList,∀ d,o.dst=some d→d < n:=by
 intro o ho d hd
 rw [List.all_eq_true] at h
 have:=h o ho
 rw [hd] at this
 simpa using this

theorem AN6 {E:Env} {H:Hint} {n:Nat} (hm:E.P.follows .mixedOrders=true) : ∀ (c:Code) (F:Fr) (h:Hp) (Q:AEx→Fr→Hp→Prop) (g:Gh) (a:Act) (w:World),
  awp E H c F h Q→UE n c=true→Sim E n g F h a w→c.wp E.P (After E n g Q) a w:=by
 intro c
 induction c with
 | skip=>intro F h Q g a w hw _ s; exact wp_skip ⟨.normal,g,F,h,rfl,hw,Gh.le.refl g,s⟩
 | label l=>intro F h Q g a w hw _ s; exact wp_label ⟨.normal,g,F,h,rfl,hw,Gh.le.refl g,s⟩
 | ret=>intro F h Q g a w hw _ s; exact wp_ret ⟨.ret,g,F,h,rfl,hw,Gh.le.refl g,s⟩
 | exit id=>intro F h Q g a w hw _ s; exact wp_exit ⟨.exit id,g,F,h,rfl,hw,Gh.le.refl g,s⟩
 | seq x y ihx ihy =>
   intro F h Q g a w hw hd s
   simp only [UE,Bool.and_eq_true] at hd
   refine wp_seq (wp_mono (ihx F h _ g a w hw hd.1 s) fun e a' w' q => ?_)
   exact ABD q (fun F' h' g' hn hg s'=>wp_mono (ihy F' h' Q g' a' w' hn hd.2 s') fun e a w q=>q.mono_g hg) fun q _=>q
 | block id b ih =>
   intro F h Q g a w hw hd s
   refine wp_block (wp_mono (ih F h _ g a w hw hd s) fun e a' w' q => ?_)
   obtain ⟨x,g',F',h',rfl,hq,hg,s'⟩:=q
   cases x with
   | normal=>exact ⟨.normal,g',F',h',rfl,hq,hg,s'⟩
   | exit i =>
     simp only [AEx.to,Exit.inBlock,O1] at *
     split
     ·rename_i hi; rw [if_pos hi] at hq; exact ⟨.normal,g',F',h',rfl,hq,hg,s'⟩
     ·rename_i hi; rw [if_neg hi] at hq; exact ⟨.exit i,g',F',h',rfl,hq,hg,s'⟩
   | ret=>exact ⟨.ret,g',F',h',rfl,hq,hg,s'⟩
 | cond c x y ihx ihy =>
   intro F h Q g a w hw hd s
   simp only [UE,Bool.and_eq_true] at hd
   simp only [awp] at hw
   have hr:=AEZ s c
   split at hw
   ·rename_i t ht
    rw [ht] at hr
    refine wp_cond hr.bool_inv ?_
    cases t with
    | true=>exact ihx F h Q g a w (hw.1 rfl) hd.1 s
    | false=>exact ihy F h Q g a w (hw.2 rfl) hd.2 s
   ·exact hw.elim
 | loop b ih =>
   intro F h Q g a w hw hd s
   obtain ⟨I,⟨n0,h0⟩,hround⟩:=hw
   refine wp_loop_ghost (fun k a w => ∃ g' F h,I k F h∧g.le g'∧Sim E n g' F h a w) n0 ⟨g,F,h,h0,Gh.le.refl g,s⟩ ?_
   rintro k a1 w1 ⟨g1,F1,h1,hI,hg1,s1⟩
   refine wp_mono (ih F1 h1 _ g1 a1 w1 (hround k F1 h1 hI) hd s1) fun e a' w' q => ?_
   exact ABD q (fun F' h' g' hn hg s'=>by obtain ⟨m,hm1,hm2⟩:=hn; exact ⟨m,hm1,g',F',h',hm2,hg1.trans hg,s'⟩) fun q _=>q.mono_g hg1
 | region id ops draw =>
   intro F h Q g a w hw hd s
   have hdst:=ATH (n:=n) (ops:=ops) hd
   simp only [awp] at hw
   cases draw with
   | false =>
     refine wp_region_list (AFC (n:=n) (g0:=g) ops.toList F h g a w hw s (Gh.le.refl g) hdst fun F' h' g' a' w' hk hg s'=>⟨.normal,g',F',h',rfl,hk,hg,s'⟩)
   | true =>
     obtain ⟨⟨sep,hl,hok,hsF⟩,hD⟩:=hw
     have sd:Sim E n g F h a { w with drawn:=w.drawn+1 }:=⟨s.simH.world rfl rfl rfl fun _ _=>rfl,s.defers,s.size,s.frame⟩
     refine wp_region_any hm ?_
     refine UJ (n:=n) (g0:=g) (md:=H.md) (K:=fun s=>Q .normal s.1 s.2) (fun i o ho=>hdst o ?_) (fun F' h' g' a' w' hk hg s'=>⟨.normal,g',F',h',rfl,hk,hg,s'⟩) ops.size _ F h g a _ ?_ (Gh.le.refl g) sd
     ·have:ops.toList[i]? = some o:=by simpa using ho
      exact List.mem_of_getElem? this
     ·have:=AH8 (E:=E) (md:=H.md) (sep:=sep) (ops:=ops) (K:=Q .normal) hok hl ops.toList 0 (Array.replicate ops.size false) F h (by simp) ⟨by simp,fun j hj=>by simp [hj]⟩ hsF hD
      simpa using this
 | _=>intro F h Q g a w hw _ s; simp only [awp] at hw

/- results -/
def QP (P:Program) (h:Hp) (F:Fr):ResultVar→Option AV
 | .tmp t=>some (F t)
 | .cell a t=>match F a with
   | .ptr b i j=>D7 P h t (.ptr b i j)
   | _=>none
def PD (P:Program) (h:Hp) (F:Fr):List ResultVar→Option (List AV)
 | []=>some []
 | r :: l=>match QP P h F r,PD P h F l with
   | some v,some vs=>some (v :: vs)
   | _,_=>none
def YB (P:Program) (h:Hp) (F:Fr):List ResultVar→Option AV
 | [r]=>QP P h F r
 | l=>match PD P h F l with
   | some vs=>some (.tup vs)
   | none=>none

def WH (tmps:Array Value):ResultVar→Sem Value
 | .tmp t=>pure (tmps.getD t undef)
 | .cell a t=>do loadVar t (← asAddr (tmps.getD a undef))

theorem XW {E:Env} {n:Nat} {g:Gh} {F:Fr} {h:Hp} {a:Act} {w:World} {r:ResultVar} {v:AV} (s:Sim E n g F h a w) (hr:QP E.P h F r=some v) : ∃ cv,(WH a.tmps r).run E.P w = .ok cv w∧Rep g v cv:=by
 cases r with
 | tmp t=>simp only [QP] at hr; cases hr; exact ⟨_,rfl,s.frame t⟩
 | cell x t =>
   simp only [QP] at hr
   have hx:=s.frame x
   split at hr
   ·rename_i b i j hb
    rw [hb] at hx
    obtain ⟨cv,h1,h2⟩:=Z0 s.simH hr hx
    obtain ⟨l,_,he⟩:=hx.ptr_inv
    rw [he] at h1
    refine ⟨cv,?_,h2⟩
    simp only [WH,he,asAddr,Sem.run_bind,Sem.run_pure,Result.andThen_ok]
    simpa [Instr.loadAt,Instr.sureAddr] using h1
   ·cases hr

theorem XV {E:Env} {n:Nat} {g:Gh} {F:Fr} {h:Hp} {a:Act} {w:World} (s:Sim E n g F h a w) : ∀ (l:List ResultVar) (vs:List AV),PD E.P h F l=some vs →
  ∃ cvs:List Value,(l.mapM (WH a.tmps)).run E.P w = .ok cvs w∧cvs.length=vs.length∧∀ (i:Nat) (v:AV) (cv:Value),vs[i]? = some v→cvs[i]? = some cv→Rep g v cv
 | [],vs,hr=>by simp [PD] at hr; subst hr; exact ⟨[],by simp,rfl,by simp⟩
 | r :: l,vs,hr=>by
   simp only [PD] at hr
   cases h1:QP E.P h F r with
   | none=>simp [h1] at hr
   | some v =>
     cases h2:PD E.P h F l with
     | none=>simp [h1,h2] at hr
     | some vs' =>
       simp [h1,h2] at hr
       subst hr
       obtain ⟨cv,k1,k2⟩:=XW s h1
       obtain ⟨cvs,q1,q2,q3⟩:=XV s l vs' h2
       refine ⟨cv :: cvs,by simp [List.mapM_cons,k1,q1],by simp [q2],fun i v' cv' p q => ?_⟩
       cases i with
       | zero=>simp at p q; subst p q; exact k2
       | succ i=>exact q3 i v' cv' (by simpa using p) (by simpa using q)

theorem AIX (fn:Func) (tmps:Array Value):results fn tmps=(do let vs ← fn.results.mapM (WH tmps); pure (if h:vs.size=1 then vs[0] else .tuple vs):Sem Value):=by
 unfold results
 congr 2

theorem AJ5 {E:Env} {n:Nat} {g:Gh} {F:Fr} {h:Hp} {a:Act} {w:World} {fn:Func} {v:AV} (s:Sim E n g F h a w) (hr:YB E.P h F fn.results.toList=some v) : ∃ cv,(results fn a.tmps).run E.P w = .ok cv w∧Rep g v cv:=by
 have hmap : ∀ cvs:List Value,(fn.results.toList.mapM (WH a.tmps)).run E.P w = .ok cvs w→(fn.results.mapM (WH a.tmps)).run E.P w = .ok cvs.toArray w:=by
  intro cvs hc
  rw [Array.mapM_eq_mapM_toList]
  simp only [Sem.run_map,hc,Result.andThen_ok]
 rw [AIX]
 unfold YB at hr
 split at hr
 ·rename_i r hl
  obtain ⟨cv,h1,h2⟩:=XW s hr
  have:=hmap [cv] (by rw [hl]; simp [h1])
  exact ⟨cv,by simp [this],h2⟩
 ·rename_i hl
  split at hr
  ·rename_i vs hvs
   cases hr
   obtain ⟨cvs,q1,q2,q3⟩:=XV s _ _ hvs
   have hne : ¬ (cvs.length=1):=by
    intro h1
    have:fn.results.toList.length=1:=by
     have : ∀ (l:List ResultVar) (vs:List AV),PD E.P h F l=some vs→vs.length=l.length:=by
      intro l
      induction l with
      | nil=>intro vs hv; simp [PD] at hv; subst hv; rfl
      | cons r l ih =>
        intro vs hv
        simp only [PD] at hv
        split at hv
        ·rename_i v' vs' e1 e2; cases hv; simp [ih vs' e2]
        ·cases hv
     have:=this _ _ hvs
     omega
    match hx:fn.results.toList,this with
    | [r],_=>exact hl r hx
   have:=hmap cvs q1
   exact ⟨.tuple cvs.toArray,by simp [this,hne],.tup _ _ (by simpa using q2) (by simpa using q3)⟩
  ·cases hr

/- a function -/
def MN:List AV→Fr
 | []=>fun _=>HV
 | v :: r=>fun i=>match i with
   | 0=>v
   | i+1=>MN r i
theorem BC (v:AV) (r:List AV):MN (v :: r) 0=v:=rfl
theorem BP (v:AV) (r:List AV) (i:Nat):MN (v :: r) (i+1)=MN r i:=rfl
theorem AG5 (i:Nat):MN [] i=HV:=rfl
theorem XQ : ∀ (l:List AV) (i:Nat),MN l i=(l[i]?).getD HV
 | [],i=>by simp [MN]
 | v :: r,0=>by simp [MN]
 | v :: r,i+1=>by simp [MN,XQ r i]

/-- THE RULE OF A FUNCTION -/
theorem BX {E:Env} {H:Hint} {f:FuncId} {fn:Func} {c:Code} {args:List AV} {h:Hp} {R:AV→Hp→Prop} (hm:E.P.follows .mixedOrders=true) (hf:E.P.funcs[f]? = some fn) (hb:fn.body=some c)
  (hname:(fn.name == "runtime.NumGoroutine")=false) (hok:UE fn.ntmps c=true) (hn:args.length≤fn.ntmps)
  (hw:awp E H c (MN args) h (fun e F h'=>(match e with | .exit _=>False | _=>True)∧∃ r,YB E.P h' F fn.results.toList=some r∧R r h')):ACalls E f args h R:=by
 refine ⟨⟨fn,hf,by simp [hb],hname⟩,fun g w cargs S ha => ?_⟩
 refine calls_of_wp hf hb ?_
 have s:Sim E fn.ntmps g (MN args) h { tmps:=cargs ++ Array.replicate (fn.ntmps - cargs.size) undef,defers := [] } w:=by
  refine ⟨S,rfl,by simp [ha.1]; omega,fun i => ?_⟩
  rw [XQ]
  simp only [Array.getD_eq_getD_getElem?,Array.getElem?_append]
  split
  ·rename_i hi
   have h1:i < args.length:=by rw [← ha.1]; exact hi
   rw [List.getElem?_eq_getElem h1]
   have:=ha.2 i args[i] cargs[i] (by simp [h1]) (by simp [hi])
   simpa [hi] using this
  ·rename_i hi
   have h1:args.length≤i:=by rw [← ha.1]; omega
   rw [List.getElem?_eq_none h1,Array.getElem?_replicate]
   have h2:(if i - cargs.size < fn.ntmps - cargs.size then some undef else none).getD undef=undef:=by split <;> rfl
   simp only [Option.getD_none]
   rw [h2]
   exact Rep.undef g
 refine wp_mono (AN6 hm c _ _ _ g _ w hw hok s) ?_
 rintro e a' w' ⟨x,g',F',h',rfl,⟨hx,r,hr,hR⟩,hg,s'⟩
 obtain ⟨cv,q1,q2⟩:=AJ5 s' hr
 cases x with
 | normal=>exact ⟨s'.defers,cv,q1,r,cv,g',h',rfl,hR,hg,s'.simH,q2⟩
 | ret=>exact ⟨s'.defers,cv,q1,r,cv,g',h',rfl,hR,hg,s'.simH,q2⟩
 | exit id=>exact hx.elim

/- freezing -/
def IM (n:Nat) (h:Hp):Nat→AV→AV
 | 0,_ => .junk
 | d+1,v=>match v with
   | .own b off len=>if b < n then .junk else match h[b]? with
     | some (.live k xs)=>if off+len≤xs.length∧(((xs.drop off).take len).map (·.map (IM n h d))).all (·.all AV.leaf)=true then .sl .any k (((xs.drop off).take len).map (·.map (IM n h d))) else .junk
     | _ => .junk
   | .ptr _ _ _ => .junk
   | .fn f a b=>match a,b with
     | [],[] => .fn f [] []
     | _,_ => .junk
   | .agg cs => .agg (cs.map (IM n h d))
   | .tup cs => .tup (cs.map (IM n h d))
   | v=>v
end Go.Proofs.YtocilianjfhifaaGreatDoor.Sm
/- A call leaves its own blocks behind: what it hands back is frozen, and its caller sees its old blocks only; no condition. -/
namespace Go.Proofs.YtocilianjfhifaaGreatDoor.Sm
open Go

theorem RepF.again {M:Nat→Option Obj} {g':Gh} {M'':Nat→Option Obj} (hM : ∀ k o,g'.M k=some o→M'' k=some o) {v:AV} {cv0:Value} (h0:RepF M v cv0) : ∀ cv,Rep g' v cv→RepF M'' v cv:=by
 induction h0 with
 | int k n=>intro cv h; rw [h.int_inv]; exact .int k n
 | bool b=>intro cv h; rw [h.bool_inv]; exact .bool b
 | str s=>intro cv h; rw [h.str_inv]; exact .str s
 | nil k=>intro cv h; exact h.sl_inv.mono hM
 | empty m k a cap h1 h2=>intro cv h; exact h.sl_inv.mono hM
 | sl m k xs cb co c e fz cap cv h1 h2 h3 h4 h5 _ h7 h8 ih=>intro cv h; exact h.sl_inv.mono hM
 | fptr k xs i j cb co c e fz cv h3 h4 h5 _ ih=>intro cv h; exact h.fptr_inv.mono hM
 | nilp=>intro cv h; rw [h.nilp_inv]; exact .nilp
 | fn f first caps first' caps' h1 h2 _ _ ih1 ih2 =>
   intro cv h
   obtain ⟨a,b,rfl,q1,q2,q3,q4⟩:=h.fn_inv
   refine .fn f first caps a b q1 q2 (fun i v cv e1 e2 => ?_) (fun i v cv e1 e2 => ?_)
   ·have hi:i < first'.size:=by rw [h1]; exact CE e1
    exact ih1 i v first'[i] e1 (by simp [hi]) cv (q3 i v cv e1 e2)
   ·have hi:i < caps'.size:=by rw [h2]; exact CE e1
    exact ih2 i v caps'[i] e1 (by simp [hi]) cv (q4 i v cv e1 e2)
 | nilfn=>intro cv h; rw [h.nilfn_inv]; exact .nilfn
 | agg cs vs h1 _ ih =>
   intro cv h
   obtain ⟨a,rfl,q1,q2⟩:=h.agg_inv
   refine .agg cs a q1 fun i v cv e1 e2 => ?_
   have hi:i < vs.size:=by rw [h1]; exact CE e1
   exact ih i v vs[i] e1 (by simp [hi]) cv (q2 i v cv e1 e2)
 | tup cs vs h1 _ ih =>
   intro cv h
   obtain ⟨a,rfl,q1,q2⟩:=h.tup_inv
   refine .tup cs a q1 fun i v cv e1 e2 => ?_
   have hi:i < vs.size:=by rw [h1]; exact CE e1
   exact ih i v vs[i] e1 (by simp [hi]) cv (q2 i v cv e1 e2)
 | junk v=>intro cv h; exact .junk cv

theorem Rep.restrict {g g' g'':Gh} (hM : ∀ k o,g'.M k=some o→g''.M k=some o) (hμ : ∀ b,(∃ l,g.μ b=some l)→g''.μ b=g'.μ b) {v:AV} {cv0:Value} (h0:Rep g v cv0) : ∀ cv,Rep g' v cv→Rep g'' v cv:=by
 induction h0 with
 | fro h=>intro cv h'; exact .fro (h.again hM cv h')
 | own b off len cap l h1 h2 h3 =>
   intro cv h
   have hb:=hμ b ⟨l,h1⟩
   cases h with
   | fro h=>cases h
   | own _ _ _ cap' l' q1 q2 q3=>exact .own b off len cap' l' (hb.trans q1) q2 q3
   | ownz _ _ a l' q1=>exact .ownz _ _ a l' (hb.trans q1)
 | ownz b off a l h1 =>
   intro cv h
   have hb:=hμ b ⟨l,h1⟩
   cases h with
   | fro h=>cases h
   | own _ _ _ cap' l' q1 q2 q3=>exact .own b off 0 cap' l' (hb.trans q1) q2 q3
   | ownz _ _ a l' q1=>exact .ownz _ _ a l' (hb.trans q1)
 | ptr b i j l h1 =>
   intro cv h
   obtain ⟨l',q1,rfl⟩:=h.ptr_inv
   exact .ptr b i j l' ((hμ b ⟨l,h1⟩).trans q1)
 | fn f first caps first' caps' h1 h2 _ _ ih1 ih2 =>
   intro cv h
   obtain ⟨a,b,rfl,q1,q2,q3,q4⟩:=h.fn_inv
   refine .fn f first caps a b q1 q2 (fun i v cv e1 e2 => ?_) (fun i v cv e1 e2 => ?_)
   ·have hi:i < first'.size:=by rw [h1]; exact CE e1
    exact ih1 i v first'[i] e1 (by simp [hi]) cv (q3 i v cv e1 e2)
   ·have hi:i < caps'.size:=by rw [h2]; exact CE e1
    exact ih2 i v caps'[i] e1 (by simp [hi]) cv (q4 i v cv e1 e2)
 | agg cs vs h1 _ ih =>
   intro cv h
   obtain ⟨a,rfl,q1,q2⟩:=h.agg_inv
   refine .agg cs a q1 fun i v cv e1 e2 => ?_
   have hi:i < vs.size:=by rw [h1]; exact CE e1
   exact ih i v vs[i] e1 (by simp [hi]) cv (q2 i v cv e1 e2)
 | tup cs vs h1 _ ih =>
   intro cv h
   obtain ⟨a,rfl,q1,q2⟩:=h.tup_inv
   refine .tup cs a q1 fun i v cv e1 e2 => ?_
   have hi:i < vs.size:=by rw [h1]; exact CE e1
   exact ih i v vs[i] e1 (by simp [hi]) cv (q2 i v cv e1 e2)

/-- freezing is sound, where the blocks from n on are frozen -/
theorem AC3 {E:Env} {g:Gh} {h:Hp} {w:World} {n:Nat} {M:Nat→Option Obj} (S:SimH E g h w) (hM : ∀ k o,g.M k=some o→M k=some o)
  (hF : ∀ b k xs l,n≤b→h[b]? = some (.live k xs)→g.μ b=some l→M l.cb=w.heap[l.cb]?) : ∀ (d:Nat) (v:AV) (cv:Value),Rep g v cv→RepF M (IM n h d v) cv
 | 0,v,cv,_=>by simp only [IM]; exact .junk _
 | d+1,v,cv,hr=>by
   have IH:=AC3 S hM hF d
   cases v with
   | own b off len =>
     simp only [IM]
     split
     ·exact .junk _
     rename_i hb
     split
     case h_2=>exact .junk _
     rename_i k xs hx
     split
     case isFalse=>exact .junk _
     rename_i hc
     obtain ⟨hlen,hleaf⟩:=hc
     obtain ⟨l,c,e,q1,q2,q3,q4,q5,q6,q7,q8⟩:=S.live b k xs hx
     have hMc:M l.cb=some (.cells c e (0,0)):=(hF b k xs l (by omega) hx q1).trans q4
     by_cases h0:len=0
     ·subst h0
      simp only [List.take_zero,List.map_nil]
      rcases hr.own_inv with ⟨l',cap,r1,r2,r3,rfl⟩ | ⟨_,a,rfl⟩
      ·exact .empty _ _ _ _ (by simp) (by simp)
      ·exact .empty _ _ _ _ (by simp) (by simp)
     ·rcases hr.own_inv with ⟨l',cap,r1,r2,r3,rfl⟩ | ⟨hz,a,rfl⟩
      ·rw [q1] at r1; cases r1
       have hlx:(((xs.drop off).take len).map (·.map (IM n h d))).length=len:=by simp; omega
       have hget : ∀ (i:Nat) (row:List AV),(((xs.drop off).take len).map (·.map (IM n h d)))[i]? = some row→∃ r,xs[off+i]? = some r∧row=r.map (IM n h d)∧i < len:=by
        intro i row hi
        rw [List.getElem?_map] at hi
        cases hr2:((xs.drop off).take len)[i]? with
        | none=>rw [hr2] at hi; cases hi
        | some r =>
          rw [hr2] at hi
          simp at hi
          rw [List.getElem?_take] at hr2
          split at hr2
          ·rename_i hil
           rw [List.getElem?_drop] at hr2
           exact ⟨r,hr2,hi.symm,hil⟩
          ·cases hr2
       have key : ∀ i j,i < len→j < k→∃ cv,c[l.co+off * l.k+i * k+j]? = some cv∧∀ (row:List AV) (v:AV),(((xs.drop off).take len).map (·.map (IM n h d)))[i]? = some row→row[j]? = some v→RepF M v cv:=by
        intro i j hi hj
        have hlt:off+i < xs.length:=by omega
        have hrow:=(q7 (off+i) xs[off+i] (by simp [hlt])).1
        have hjl:j < (xs[off+i]).length:=by omega
        obtain ⟨cv,s1,s2⟩:=q8 (off+i) j xs[off+i] (xs[off+i])[j] (by simp [hlt]) (by simp [hjl])
        refine ⟨cv,?_,fun row v e1 e2 => ?_⟩
        ·rw [← s1]; congr 1; rw [q2,Nat.add_mul]; omega
        ·obtain ⟨r,t1,t2,_⟩:=hget i row e1
         rw [List.getElem?_eq_getElem hlt] at t1
         cases t1
         subst t2
         rw [List.getElem?_map,List.getElem?_eq_getElem hjl] at e2
         simp at e2
         subst e2
         exact IH _ _ s2
       classical
       have : ∃ cvf:Nat→Nat→Value,∀ i j,i < len→j < k→c[l.co+off * l.k+i * k+j]? = some (cvf i j)∧∀ (row:List AV) (v:AV),(((xs.drop off).take len).map (·.map (IM n h d)))[i]? = some row→row[j]? = some v→RepF M v (cvf i j):=by
        refine ⟨fun i j=>if hh:i < len∧j < k then (key i j hh.1 hh.2).choose else undef,fun i j hi hj => ?_⟩
        have hh:i < len∧j < k:=⟨hi,hj⟩
        simp only [hh,and_self,dite_true]
        exact (key i j hi hj).choose_spec
       obtain ⟨cvf,hcv⟩:=this
       have rok:R6 k (((xs.drop off).take len).map (·.map (IM n h d))):=by
        intro i row hi
        obtain ⟨r,t1,t2,_⟩:=hget i row hi
        subst t2
        refine ⟨by simpa using (q7 _ r t1).1,fun j v hv => ?_⟩
        rw [List.all_eq_true] at hleaf
        have:=hleaf _ (List.mem_of_getElem? hi)
        rw [List.all_eq_true] at this
        exact this v (List.mem_of_getElem? hv)
       have:=RepF.sl (M:=M) .any k (((xs.drop off).take len).map (·.map (IM n h d))) l.cb (l.co+off * l.k) c e (0,0) cap cvf (by intro hh; rw [hh] at hlx; simp at hlx; omega) (by simp) hMc rok
        (fun i j hi hj=>(hcv i j (hlx ▸ hi) hj).1) (fun i j row v e1 e2=>by
         have hi:i < len:=hlx ▸ CE e1
         have hj:j < k:=by rw [← (rok i row e1).1]; exact CE e2
         exact (hcv i j hi hj).2 row v e1 e2) (by rw [hlx]; exact r2) (by simp)
       rw [hlx] at this
       exact this
      ·exact absurd hz h0
   | ptr b i j=>simp only [IM]; exact .junk _
   | fn f a b =>
     simp only [IM]
     split
     ·obtain ⟨a',b',rfl,q1,q2,_⟩:=hr.fn_inv
      exact .fn f [] [] a' b' q1 q2 (by simp) (by simp)
     ·exact .junk _
   | agg cs =>
     simp only [IM]
     obtain ⟨a,rfl,q1,q2⟩:=hr.agg_inv
     refine .agg _ a (by simpa using q1) fun i v cv e1 e2 => ?_
     rw [List.getElem?_map] at e1
     cases hc:cs[i]? with
     | none=>rw [hc] at e1; cases e1
     | some x=>rw [hc] at e1; simp at e1; subst e1; exact IH _ _ (q2 i x cv hc e2)
   | tup cs =>
     simp only [IM]
     obtain ⟨a,rfl,q1,q2⟩:=hr.tup_inv
     refine .tup _ a (by simpa using q1) fun i v cv e1 e2 => ?_
     rw [List.getElem?_map] at e1
     cases hc:cs[i]? with
     | none=>rw [hc] at e1; cases e1
     | some x=>rw [hc] at e1; simp at e1; subst e1; exact IH _ _ (q2 i x cv hc e2)
   | int k n=>rw [hr.int_inv]; simp only [IM]; exact .int _ _
   | bool b=>rw [hr.bool_inv]; simp only [IM]; exact .bool _
   | str s=>rw [hr.str_inv]; simp only [IM]; exact .str _
   | sl m k xs=>simp only [IM]; exact hr.sl_inv.mono hM
   | fptr k xs i j=>simp only [IM]; exact hr.fptr_inv.mono hM
   | nilp=>rw [hr.nilp_inv]; simp only [IM]; exact .nilp
   | nilfn=>rw [hr.nilfn_inv]; simp only [IM]; exact .nilfn
   | junk=>simp only [IM]; exact .junk _

/-- one old block, as the caller sees it again -/
def AZ3 (n d:Nat) (h h' h1:Hp) (b:Nat):Prop :=
 h1[b]? = some .dead∨(h1[b]? = h'[b]?∧h'[b]? = h[b]?)∨∃ k xs,h'[b]? = some (.live k xs)∧h1[b]? = some (.live k (xs.map (·.map (IM n h' d))))∧(xs.map (·.map (IM n h' d))).all (·.all AV.leaf)=true

theorem ACalls.trunc {E:Env} {f:FuncId} {args:List AV} {h:Hp} {R R':AV→Hp→Prop} (hc:ACalls E f args h R)
  (hk : ∀ v h',R v h'→∃ d h1,h1.length=h.length∧(∀ b,b < h.length→AZ3 h.length d h h' h1 b)∧R' (IM h.length h' d v) h1):ACalls E f args h R':=by
 refine ⟨hc.1,fun g w cargs S ha=>(hc.2 g w cargs S ha).mono ?_⟩
 rintro e w' ⟨v,cv,g',h',rfl,hR,hle,S',hr⟩
 obtain ⟨d,h1,hlen,hkeep,hR'⟩:=hk v h' hR
 classical
 let M:Nat→Option Obj:=fun k=>match g'.M k with
  | some o=>some o
  | none=>if ∃ b k' xs l,h.length≤b∧h'[b]? = some (ABlk.live k' xs)∧g'.μ b=some l∧l.cb=k then w'.heap[k]? else none
 have hM : ∀ k o,g'.M k=some o→M k=some o:=fun k o hk=>by simp only [M,hk]
 have hMin : ∀ b k xs l,h.length≤b→h'[b]? = some (.live k xs)→g'.μ b=some l→M l.cb=w'.heap[l.cb]? := by
  intro b k xs l hb hx hl
  obtain ⟨l',c,e,q1,q2,q3,q4,_⟩:=S'.live b k xs hx
  rw [hl] at q1; cases q1
  simp only [M,q3]
  rw [if_pos ⟨b,k,xs,l,hb,hx,hl,rfl⟩]
 have hMout : ∀ b x l,b < h.length→h'[b]? = some x→x≠.dead→g'.μ b=some l→g'.M l.cb=none→M l.cb=none:=by
  intro b x l hb hx hn hl h0
  simp only [M,h0]
  rw [if_neg]
  rintro ⟨b',k',xs',l',q1,q2,q3,q4⟩
  have:=S'.inj b b' x _ l l' hx hn q2 (by simp) hl q3 q4.symm
  omega
 let g2:Gh := { g' with M:=M,μ:=fun b=>if b < h.length then g'.μ b else none }
 have hμ : ∀ b,b < h.length→g2.μ b=g'.μ b:=fun b hb=>by simp [g2,hb]
 have hdom : ∀ b,(∃ l,g.μ b=some l)→g2.μ b=g'.μ b:=by
  rintro b ⟨l,hl⟩
  refine hμ b ?_
  rcases Nat.lt_or_ge b h.length with hb | hb
  ·exact hb
  ·rw [S.fresh b hb] at hl; cases hl
 have hfz:=AC3 (n:=h.length) S' hM hMin
 refine ⟨IM h.length h' d v,cv,g2,h1,rfl,hR',?_,?_,.fro (hfz d v cv hr)⟩
 ·exact ⟨fun k o hk=>hM k o (hle.M k o hk),fun b l hl=>by rw [hdom b ⟨l,hl⟩]; exact hle.μ b l hl,hle.os,hle.tape,hle.output⟩
 ·refine ⟨S'.os,S'.tape,S'.output,?_,?_,?_,?_,?_,fun n=>(S'.glob n).mono hM⟩
  ·intro k o hk
   change M k=some o at hk
   simp only [M] at hk
   split at hk
   ·rename_i o' ho'; cases hk; exact S'.fro k o ho'
   ·split at hk
    ·exact hk
    ·cases hk
  ·intro b k xs hx
   have hb:b < h.length:=hlen ▸ CE hx
   rcases hkeep b hb with k1 | ⟨k1,k2⟩ | ⟨k',xs',k1,k2,k3⟩
   ·rw [k1] at hx; cases hx
   ·rw [k1] at hx
    obtain ⟨l,c,e,q1,q2,q3,q4,q5,q6,q7,q8⟩:=S'.live b k xs hx
    rw [k2] at hx
    obtain ⟨l0,c0,e0,p1,p2,p3,p4,p5,p6,p7,p8⟩:=S.live b k xs hx
    refine ⟨l,c,e,(hμ b hb).trans q1,q2,hMout b _ l hb (k2.trans hx) (by simp) q1 q3,q4,q5,q6,q7,fun i j row v e1 e2 => ?_⟩
    obtain ⟨cv,s1,s2⟩:=q8 i j row v e1 e2
    obtain ⟨cv0,_,t2⟩:=p8 i j row v e1 e2
    exact ⟨cv,s1,t2.restrict hM hdom cv s2⟩
   ·rw [k2] at hx
    cases hx
    obtain ⟨l,c,e,q1,q2,q3,q4,q5,q6,q7,q8⟩:=S'.live b k xs' k1
    refine ⟨l,c,e,(hμ b hb).trans q1,q2,hMout b _ l hb k1 (by simp) q1 q3,q4,q5,by simpa using q6,?_,?_⟩
    ·intro i row hi
     have hi0:=hi
     rw [List.getElem?_map] at hi
     cases hr2:xs'[i]? with
     | none=>rw [hr2] at hi; cases hi
     | some r =>
       rw [hr2] at hi; simp at hi; subst hi
       refine ⟨by simpa using (q7 i r hr2).1,fun j v hv => ?_⟩
       rw [List.all_eq_true] at k3
       have:=k3 _ (List.mem_of_getElem? hi0)
       rw [List.all_eq_true] at this
       exact this v (List.mem_of_getElem? hv)
    ·intro i j row v hi hv
     rw [List.getElem?_map] at hi
     cases hr2:xs'[i]? with
     | none=>rw [hr2] at hi; cases hi
     | some r =>
       rw [hr2] at hi; simp at hi; subst hi
       rw [List.getElem?_map] at hv
       cases hv2:r[j]? with
       | none=>rw [hv2] at hv; cases hv
       | some x =>
         rw [hv2] at hv; simp at hv; subst hv
         obtain ⟨cv,s1,s2⟩:=q8 i j r x hr2 hv2
         exact ⟨cv,s1,.fro (hfz d x cv s2)⟩
  ·intro b s pos hx
   have hb:b < h.length:=hlen ▸ CE hx
   rcases hkeep b hb with k1 | ⟨k1,k2⟩ | ⟨k',xs',k1,k2,k3⟩
   ·rw [k1] at hx; cases hx
   ·rw [k1] at hx
    obtain ⟨l,q1,q2,q3,q4,q5⟩:=S'.iter b s pos hx
    exact ⟨l,(hμ b hb).trans q1,q2,q3,hMout b _ l hb hx (by simp) q1 q4,q5⟩
   ·rw [k2] at hx; cases hx
  ·have back : ∀ b x,h1[b]? = some x→x≠.dead→b < h.length∧∃ y,h'[b]? = some y∧y≠.dead:=by
    intro b x hx hn
    have hb:b < h.length:=hlen ▸ CE hx
    refine ⟨hb,?_⟩
    rcases hkeep b hb with k1 | ⟨k1,k2⟩ | ⟨k',xs',k1,k2,k3⟩
    ·rw [k1] at hx; cases hx; exact absurd rfl hn
    ·exact ⟨x,k1 ▸ hx,hn⟩
    ·exact ⟨_,k1,by simp⟩
   intro b b' x x' l l' e1 n1 e2 n2 m1 m2 hcb
   obtain ⟨hb,y,hy,hyn⟩:=back b x e1 n1
   obtain ⟨hb',y',hy',hyn'⟩:=back b' x' e2 n2
   rw [hμ b hb] at m1
   rw [hμ b' hb'] at m2
   exact S'.inj b b' y y' l l' hy hyn hy' hyn' m1 m2 hcb
  ·intro b hb
   have : ¬ b < h.length:=by omega
   simp [g2,this]

/-- the common case: nothing old has changed -/
theorem ACalls.pure {E:Env} {f:FuncId} {args:List AV} {h:Hp} {R:AV→Hp→Prop} {r:AV} (d:Nat) (hc:ACalls E f args h R)
  (hk : ∀ v h',R v h'→(∃ x,h'=h ++ x)∧IM h.length h' d v=r):PCall E f args h r:=by
 refine hc.trunc fun v h' hR => ?_
 obtain ⟨⟨x,rfl⟩,hr⟩:=hk v h' hR
 exact ⟨d,h,rfl,fun b hb => .inr (.inl ⟨by rw [List.getElem?_append_left hb],by rw [List.getElem?_append_left hb]⟩),hr,rfl⟩
/-- a call whose value is a number, a truth value or a string -/
theorem ACalls.pure0 {E:Env} {f:FuncId} {args:List AV} {h:Hp} {r:AV} (hr:(match r with | .int _ _=>true | .bool _=>true | .str _=>true | .sl _ _ _=>true | _=>false)=true) (hc:ACalls E f args h fun v h'=>v=r∧∃ x,h'=h ++ x):PCall E f args h r :=
 hc.pure 1 fun v h' ⟨e,x⟩=>⟨x,by subst e; cases v <;> simp at hr <;> rfl⟩
/-- a nil slice is a nil slice of whatever element -/
theorem AGK {g:Gh} {k k':Nat} {cv:Value} (h:Rep g (.sl .nil k []) cv):Rep g (.sl .nil k' []) cv:=by
 have:=h.sl_inv
 cases this with
 | nil=>exact .fro (.nil k')
 | empty _ _ _ _ h1=>exact absurd rfl h1
 | sl _ _ _ _ _ _ _ _ _ _ h1=>exact absurd rfl h1
theorem ACalls.conv {E:Env} {f:FuncId} {args:List AV} {h:Hp} {R R':AV→Hp→Prop} (hc:ACalls E f args h R) (hr : ∀ v h',R v h'→∃ v',R' v' h'∧∀ g cv,Rep g v cv→Rep g v' cv):ACalls E f args h R' :=
 ⟨hc.1,fun g w cargs S ha=>(hc.2 g w cargs S ha).mono fun _ _ ⟨v,cv,g',h',e,r,q1,q2,q3⟩=>let ⟨v',r',q4⟩:=hr v h' r; ⟨v',cv,g',h',e,r',q1,q2,q4 g' cv q3⟩⟩
end Go.Proofs.YtocilianjfhifaaGreatDoor.Sm
/- The proposition to be shown of code, written out step by step: the equations by which it is rewritten; no condition. -/
set_option linter.unusedSimpArgs false
set_option maxRecDepth 8000
namespace Go.Proofs.YtocilianjfhifaaGreatDoor.Sm
open Go

def AR1 (E:Env) (H:Hint) (b:Code) (Q:AEx→Fr→Hp→Prop):AEx→Fr→Hp→Prop:=ZC (fun F h=>awp E H b F h Q) Q
theorem AZ (E:Env) (H:Hint) (b:Code) (Q:AEx→Fr→Hp→Prop) (F:Fr) (h:Hp):AR1 E H b Q .normal F h=awp E H b F h Q:=rfl
theorem DR (E:Env) (H:Hint) (b:Code) (Q:AEx→Fr→Hp→Prop) (F:Fr) (h:Hp) (i:Nat):AR1 E H b Q (.exit i) F h=Q (.exit i) F h:=rfl
theorem CJ (E:Env) (H:Hint) (b:Code) (Q:AEx→Fr→Hp→Prop) (F:Fr) (h:Hp):AR1 E H b Q .ret F h=Q .ret F h:=rfl
theorem DU (id:Nat) (Q:AEx→Fr→Hp→Prop) (F:Fr) (h:Hp):O1 id Q .normal F h=Q .normal F h:=rfl
theorem D6 (id:Nat) (Q:AEx→Fr→Hp→Prop) (F:Fr) (h:Hp):O1 id Q .ret F h=Q .ret F h:=rfl
theorem EB (id i:Nat) (Q:AEx→Fr→Hp→Prop) (F:Fr) (h:Hp):O1 id Q (.exit i) F h=if i=id then Q .normal F h else Q (.exit i) F h:=rfl
/-- the end of a loop's round -/
def AR6 (I:Nat→Fr→Hp→Prop) (n:Nat) (Q:AEx→Fr→Hp→Prop):AEx→Fr→Hp→Prop:=ZC (fun F' h' => ∃ m,m < n∧I m F' h') Q
theorem DZ (I:Nat→Fr→Hp→Prop) (n:Nat) (Q:AEx→Fr→Hp→Prop) (F:Fr) (h:Hp):AR6 I n Q .normal F h = ∃ m,m < n∧I m F h:=rfl
theorem EF (I:Nat→Fr→Hp→Prop) (n:Nat) (Q:AEx→Fr→Hp→Prop) (F:Fr) (h:Hp) (i:Nat):AR6 I n Q (.exit i) F h=Q (.exit i) F h:=rfl
theorem EZ (I:Nat→Fr→Hp→Prop) (n:Nat) (Q:AEx→Fr→Hp→Prop) (F:Fr) (h:Hp):AR6 I n Q .ret F h=Q .ret F h:=rfl
/-- the end of a function -/
def EJ (P:Program) (rs:List ResultVar) (R:AV→Hp→Prop):AEx→Fr→Hp→Prop:=fun e F h'=>(match e with | .exit _=>False | _=>True)∧∃ r,YB P h' F rs=some r∧R r h'
theorem CK (P:Program) (t:Nat) (R:AV→Hp→Prop) (F:Fr) (h:Hp):EJ P [.tmp t] R .ret F h=R (F t) h:=by simp [EJ,YB,QP]
theorem AE0 (P:Program) (R:AV→Hp→Prop) (F:Fr) (h:Hp):EJ P [] R .normal F h=R (.tup []) h:=by simp [EJ,YB,PD]
theorem F6 (P:Program) (t u:Nat) (R:AV→Hp→Prop) (F:Fr) (h:Hp):EJ P [.tmp t,.tmp u] R .ret F h=R (.tup [F t,F u]) h:=by simp [EJ,YB,PD,QP]
theorem MP (P:Program) (t u v:Nat) (R:AV→Hp→Prop) (F:Fr) (h:Hp):EJ P [.tmp t,.tmp u,.tmp v] R .ret F h=R (.tup [F t,F u,F v]) h:=by simp [EJ,YB,PD,QP]
def AA4 (E:Env) (H:Hint) (x y:Code) (F:Fr) (h:Hp) (Q:AEx→Fr→Hp→Prop) (v:AV):Prop:=match v with
 | .bool t=>(t=true→awp E H x F h Q)∧(t=false→awp E H y F h Q)
 | _=>False
theorem DI (E:Env) (H:Hint) (x y:Code) (F:Fr) (h:Hp) (Q:AEx→Fr→Hp→Prop):AA4 E H x y F h Q (.bool true)=awp E H x F h Q:=by simp [AA4]
theorem DL (E:Env) (H:Hint) (x y:Code) (F:Fr) (h:Hp) (Q:AEx→Fr→Hp→Prop):AA4 E H x y F h Q (.bool false)=awp E H y F h Q:=by simp [AA4]
theorem CG {E:Env} {H:Hint} {x y:Code} {F:Fr} {h:Hp} {Q:AEx→Fr→Hp→Prop} {b:Bool} (h1:b=true→awp E H x F h Q) (h2:b=false→awp E H y F h Q):AA4 E H x y F h Q (.bool b):=⟨h1,h2⟩

theorem BK (E:Env) (H:Hint) (F:Fr) (h:Hp) (Q:AEx→Fr→Hp→Prop):awp E H .skip F h Q=Q .normal F h:=rfl
theorem BJ (E:Env) (H:Hint) (F:Fr) (h:Hp) (Q:AEx→Fr→Hp→Prop):awp E H .ret F h Q=Q .ret F h:=rfl
theorem CU (E:Env) (H:Hint) (i:Nat) (F:Fr) (h:Hp) (Q:AEx→Fr→Hp→Prop):awp E H (.exit i) F h Q=Q (.exit i) F h:=rfl
theorem A8 (E:Env) (H:Hint) (a b:Code) (F:Fr) (h:Hp) (Q:AEx→Fr→Hp→Prop):awp E H (.seq a b) F h Q=awp E H a F h (AR1 E H b Q):=rfl
theorem BM (E:Env) (H:Hint) (id:Nat) (b:Code) (F:Fr) (h:Hp) (Q:AEx→Fr→Hp→Prop):awp E H (.block id b) F h Q=awp E H b F h (O1 id Q):=rfl
theorem BF (E:Env) (H:Hint) (c:Operand) (x y:Code) (F:Fr) (h:Hp) (Q:AEx→Fr→Hp→Prop):awp E H (.cond c x y) F h Q=AA4 E H x y F h Q (ev E F c):=rfl
theorem CS {E:Env} {H:Hint} {b:Code} {F:Fr} {h:Hp} {Q:AEx→Fr→Hp→Prop} (I:Nat→Fr→Hp→Prop) (n:Nat) (h0:I n F h) (hr : ∀ n F h,I n F h→awp E H b F h (AR6 I n Q)):awp E H (.loop b) F h Q:=⟨I,⟨n,h0⟩,hr⟩

/- lists of operations -/
def BZ:List Oper→Nat→Option Tmp
 | [],_=>none
 | o :: _,0=>o.dst
 | _ :: r,j+1=>BZ r j
theorem SG : ∀ (l:List Oper) (j:Nat),ABX (l.map (·.dst)) j=BZ l j
 | [],j=>by simp [ABX,BZ]
 | o :: l,0=>by simp [ABX,BZ]
 | o :: l,j+1=>by simp [ABX,BZ,SG l j]
def WW (E:Env) (H:Hint) (ops:List Oper) (l:List Oper) (F:Fr) (h:Hp) (K:Fr→Hp→Prop):Prop:=W E H (ops.map (·.dst)) l F h K
def AKM (E:Env) (H:Hint) (ops:List Oper) (d:Option Tmp) (r:List Oper) (F:Fr) (K:Fr→Hp→Prop):AV→Hp→Prop:=fun v h'=>WW E H ops r (EM F d v) h' K
theorem AC (E:Env) (H:Hint) (ops:List Oper) (d:Tmp) (r:List Oper) (F:Fr) (K:Fr→Hp→Prop) (v:AV) (h:Hp):AKM E H ops (some d) r F K v h=WW E H ops r (upd F d v) h K:=rfl
theorem EQ (E:Env) (H:Hint) (ops:List Oper) (r:List Oper) (F:Fr) (K:Fr→Hp→Prop) (v:AV) (h:Hp):AKM E H ops none r F K v h=WW E H ops r F h K:=rfl
/-- one operation -/
def X1 (E:Env) (own:Bool) (op:Op) (s:Fr × Hp) (c:Fr→AV→Hp→Prop):Prop:=MZ E own op s.1 s.2 (c s.1)
def wc (E:Env) (H:Hint) (ops:List Oper) (d:Option Tmp) (r:List Oper) (K:Fr→Hp→Prop):Fr→AV→Hp→Prop:=fun F=>AKM E H ops d r F K
/-- a guarded operation -/
def G1 (E:Env) (H:Hint) (ops:List Oper) (d:Option Tmp) (op:Op) (r:List Oper) (F:Fr) (h:Hp) (K:Fr→Hp→Prop) (want:Bool) (v:AV):Prop :=
 match v with
 | .bool b=>((b == want)=true→X1 E (BA op (H.md (d.getD 0))) op (KH (F,h) (H.fz (d.getD 0))) (wc E H ops d r K))∧((b == want)=false→WW E H ops r (EM F d HV) h K)
 | .tup []=>WW E H ops r (EM F d HV) h K
 | _=>False

theorem A9 (E:Env) (H:Hint) (ops:List Oper) (F:Fr) (h:Hp) (K:Fr→Hp→Prop):WW E H ops [] F h K=K F h:=rfl
theorem AU (E:Env) (H:Hint) (ops:List Oper) (d:Option Tmp) (op:Op) (t:TypeId) (p:String) (e:Array Edge) (r:List Oper) (F:Fr) (h:Hp) (K:Fr→Hp→Prop) :
  WW E H ops (⟨d,op,t,p,e,none⟩ :: r) F h K=X1 E (BA op (H.md (d.getD 0))) op (KH (F,h) (H.fz (d.getD 0))) (wc E H ops d r K):=by
 simp only [WW,W,MK,true_imp_iff,Bool.true_eq_false,false_imp_iff,and_true,X1]
 rfl
theorem ARI (E:Env) (H:Hint) (ops:List Oper) (d:Option Tmp) (op:Op) (t:TypeId) (p:String) (e:Array Edge) (j:Nat) (want:Bool) (r:List Oper) (F:Fr) (h:Hp) (K:Fr→Hp→Prop) (g:Tmp) (hg:BZ ops j=some g) :
  WW E H ops (⟨d,op,t,p,e,some (j,want)⟩ :: r) F h K=G1 E H ops d op r F h K want (F g):=by
 simp only [WW,W,MK,SG,hg,G1]
 generalize F g=v
 cases v with
 | bool b=>rfl
 | tup vs=>cases vs with
   | nil=>simp
   | cons=>rfl
 | _=>rfl
def GX (E:Env) (H:Hint) (ops:List Oper) (d:Option Tmp) (op:Op) (r:List Oper) (F:Fr) (h:Hp) (K:Fr→Hp→Prop) (want:Bool) (o:Option Tmp):Prop:=match o with
 | some g=>G1 E H ops d op r F h K want (F g)
 | none=>WW E H ops r (EM F d HV) h K
theorem BQ (E:Env) (H:Hint) (ops:List Oper) (d:Option Tmp) (op:Op) (r:List Oper) (F:Fr) (h:Hp) (K:Fr→Hp→Prop) (want:Bool) (g:Tmp):GX E H ops d op r F h K want (some g)=G1 E H ops d op r F h K want (F g):=rfl
theorem BH (E:Env) (H:Hint) (ops:List Oper) (d:Option Tmp) (op:Op) (t:TypeId) (p:String) (e:Array Edge) (j:Nat) (want:Bool) (r:List Oper) (F:Fr) (h:Hp) (K:Fr→Hp→Prop) :
  WW E H ops (⟨d,op,t,p,e,some (j,want)⟩ :: r) F h K=GX E H ops d op r F h K want (BZ ops j):=by
 cases hg:BZ ops j with
 | some g=>exact ARI E H ops d op t p e j want r F h K g hg
 | none=>simp [WW,W,MK,SG,hg,GX]
theorem GJ {E:Env} {H:Hint} {ops:List Oper} {d:Option Tmp} {op:Op} {r:List Oper} {F:Fr} {h:Hp} {K:Fr→Hp→Prop} {want b:Bool} (ht:b=true→G1 E H ops d op r F h K want (.bool true)) (hf:b=false→G1 E H ops d op r F h K want (.bool false)):G1 E H ops d op r F h K want (.bool b):=by
 cases b
 ·exact hf rfl
 ·exact ht rfl
theorem FZ (E:Env) (H:Hint) (ops:List Oper) (d:Option Tmp) (op:Op) (r:List Oper) (F:Fr) (h:Hp) (K:Fr→Hp→Prop):G1 E H ops d op r F h K true (.bool true)=X1 E (BA op (H.md (d.getD 0))) op (KH (F,h) (H.fz (d.getD 0))) (wc E H ops d r K):=by simp [G1]
theorem EH (E:Env) (H:Hint) (ops:List Oper) (d:Option Tmp) (op:Op) (r:List Oper) (F:Fr) (h:Hp) (K:Fr→Hp→Prop):G1 E H ops d op r F h K false (.bool false)=X1 E (BA op (H.md (d.getD 0))) op (KH (F,h) (H.fz (d.getD 0))) (wc E H ops d r K):=by simp [G1]
theorem IQ (E:Env) (H:Hint) (ops:List Oper) (d:Option Tmp) (op:Op) (r:List Oper) (F:Fr) (h:Hp) (K:Fr→Hp→Prop):G1 E H ops d op r F h K true (.bool false)=WW E H ops r (EM F d HV) h K:=by simp [G1]
theorem FN (E:Env) (H:Hint) (ops:List Oper) (d:Option Tmp) (op:Op) (r:List Oper) (F:Fr) (h:Hp) (K:Fr→Hp→Prop):G1 E H ops d op r F h K false (.bool true)=WW E H ops r (EM F d HV) h K:=by simp [G1]
theorem PE (E:Env) (H:Hint) (ops:List Oper) (d:Option Tmp) (op:Op) (r:List Oper) (F:Fr) (h:Hp) (K:Fr→Hp→Prop) (want:Bool):G1 E H ops d op r F h K want HV=WW E H ops r (EM F d HV) h K:=rfl

def IA (o:Option (AV × Hp)) (K:AV→Hp→Prop):Prop:=match o with
 | some (v,h)=>K v h
 | none=>False
theorem BO (v:AV) (h:Hp) (K:AV→Hp→Prop):IA (some (v,h)) K=K v h:=rfl
theorem AB (v:AV) (h:Hp) (K:AV→Hp→Prop):IA (ofO h (some v)) K=K v h:=rfl
theorem DF (h:Hp) (K:AV→Hp→Prop):IA (ofS (some h)) K=K HV h:=rfl
def AQX (E:Env) (f:AV) (args:List AV) (h:Hp) (K:AV→Hp→Prop):Prop:=match f with
 | .fn (.func fid) first caps=>ACalls E fid (first ++ (args ++ caps)) h K
 | _=>False
theorem BR (E:Env) (fid:FuncId) (args caps:List AV) (h:Hp) (K:AV→Hp→Prop):AQX E (.fn (.func fid) [] caps) args h K=ACalls E fid (args ++ caps) h K:=rfl
theorem BV (E:Env) (own:Bool) (f:Operand) (as:Array Operand) (ts:Array TypeId) (F:Fr) (h:Hp) (c:Fr→AV→Hp→Prop) :
  X1 E own (.call { callee := .value f,args:=as,argTypes:=ts }) (F,h) c=AQX E (ev E F f) (as.toList.map (ev E F)) h (c F):=by
 unfold X1 MZ AQX
 rfl
theorem AYY (E:Env) (own:Bool) (op:Op) (F:Fr) (h:Hp) (c:Fr→AV→Hp→Prop) (hop:(match op with | .call { callee := .value _,.. }=>false | _=>true)=true) :
  X1 E own op (F,h) c=IA (aop E.P own h (ev E F) op) (c F):=by
 unfold X1 MZ IA
 split
 ·simp at hop
 ·rfl
theorem AR (E:Env) (H:Hint) (ops:List Oper) (d:Option Tmp) (r:List Oper) (K:Fr→Hp→Prop) (F:Fr):wc E H ops d r K F=AKM E H ops d r F K:=rfl
theorem AX (E:Env) (H:Hint) (i:Nat) (l:List Oper) (F:Fr) (h:Hp) (Q:AEx→Fr→Hp→Prop):awp E H (.region i l.toArray false) F h Q=WW E H l l F h (Q .normal):=rfl

theorem AA (F:Nat→AV) (d i:Nat) (v:AV):upd F d v i=if i=d then v else F i:=rfl
theorem AY (E:Env) (F:Fr) (t:Nat):ev E F (.tmp t)=F t:=rfl
theorem AQ (E:Env) (F:Fr) (v:Value):ev E F (.const v)=TV v:=rfl
theorem BS (E:Env) (F:Fr) (f:Nat):ev E F (.func f) = .fn (.func f) [] []:=rfl
theorem ATG (E:Env) (F:Fr) (f:Nat):ev E F (.global f)=E.G f:=rfl
theorem BD (k:IntKind) (n:Int):TV (.int k n) = .int k n:=rfl
theorem BI (b:Bool):TV (.bool b) = .bool b:=rfl
theorem JU (s:ByteArray):TV (.string s) = .str s:=rfl
theorem EX:TV (.slice none 0 0) = .sl .nil 0 []:=rfl
theorem ATY:TV (.pointer none) = .nilp:=rfl
/- the operations, one by one -/
section
variable (E:Env) (own:Bool) (F:Fr) (h:Hp) (c:Fr→AV→Hp→Prop)
theorem BB (x:Operand):X1 E own (.move x) (F,h) c=c F (ev E F x) h:=rfl
theorem A7 (x:Operand):X1 E own (.assign x) (F,h) c=c F (ev E F x) h:=rfl
def AK0 (a b:AV) (h:Hp) (K:AV→Hp→Prop) (v:AV):Prop:=match v with
 | .bool true=>K a h
 | .bool false=>K b h
 | _=>False
theorem CF (x a b:Operand):X1 E own (.pick x a b) (F,h) c=AK0 (ev E F a) (ev E F b) h (c F) (ev E F x):=by
 simp only [X1,MZ,aop,AK0]
 generalize ev E F x=v
 cases v with
 | bool b=>cases b <;> rfl
 | _=>rfl
theorem DJ (a b:AV) (K:AV→Hp→Prop):AK0 a b h K (.bool true)=K a h:=rfl
theorem DK (a b:AV) (K:AV→Hp→Prop):AK0 a b h K (.bool false)=K b h:=rfl
theorem FL (e:TypeId):X1 E own (.alloc e) (F,h) c=IA (JN E.P h e) (c F):=rfl
theorem EW (e:TypeId) (x:Operand):X1 E own (.box e x) (F,h) c=IA (OH h (ev E F x)) (c F):=rfl
theorem IR (t:TypeId) (ps:List (Nat × Operand)):X1 E own (.build t ps.toArray) (F,h) c=IA (ofO h (JX E.P t (evp (ev E F) ps))) (c F):=rfl
theorem EA (t:TypeId) (n:Nat) (ps:List (Nat × Operand)):X1 E own (.buildSlice t n ps.toArray) (F,h) c=IA (FC E.P own h t n (evp (ev E F) ps)) (c F):=rfl
theorem BL (t:TypeId) (a:Operand):X1 E own (.load t a) (F,h) c=IA (ofO h (D7 E.P h t (ev E F a))) (c F):=rfl
theorem EC (t:TypeId) (a x:Operand):X1 E own (.store t a x) (F,h) c=IA (ofS (FQ E.P h t (ev E F a) (ev E F x))) (c F):=rfl
theorem BN (op:BinOp) (t u:TypeId) (x y:Operand):X1 E own (.binOp op t x y u) (F,h) c=IA (ofO h (KY E.P t op (ev E F x) (ev E F y))) (c F):=rfl
theorem F9 (op:UnOp) (t:TypeId) (x:Operand):X1 E own (.unOp op t x) (F,h) c=IA (ofO h (aUn op (ev E F x))) (c F):=rfl
theorem ADX (s d:TypeId) (x:Operand):X1 E own (.convert s d x) (F,h) c=IA (ofO h (QT E.P s d (ev E F x))) (c F):=rfl
theorem KO (fn:Fn) (a b:List Operand):X1 E own (.makeFunc fn a.toArray b.toArray) (F,h) c=c F (.fn fn (a.map (ev E F)) (b.map (ev E F))) h:=rfl
theorem I9 (t:TypeId) (l k:Operand):X1 E own (.makeSlice t l k) (F,h) c=IA (IY E.P own h t (ev E F l) (ev E F k)) (c F):=rfl
theorem PL (t:TypeId) (x:Operand) (lo hi mx:Option Operand):X1 E own (.slice t x lo hi mx) (F,h) c=IA (ofO h (LM E.P h t (ev E F x) (lo.map (ev E F)) (hi.map (ev E F)) (mx.map (ev E F)))) (c F):=rfl
theorem BG (t:TypeId) (x:Operand) (f:Nat):X1 E own (.fieldAddr t x f) (F,h) c=IA (ofO h (CY E.P t (ev E F x) f)) (c F):=rfl
theorem BU (t:TypeId) (x i:Operand):X1 E own (.indexAddr t x i) (F,h) c=IA (ofO h (FW E.P h t (ev E F x) (ev E F i))) (c F):=rfl
theorem NZ (t:TypeId) (x i:Operand):X1 E own (.index t x i) (F,h) c=IA (ofO h (NY E.P t (ev E F x) (ev E F i))) (c F):=rfl
theorem ARS (t:TypeId) (x:Operand):X1 E own (.range t x) (F,h) c=IA (XB E.P h t (ev E F x)) (c F):=rfl
theorem AOO (it:Operand) (s:Bool):X1 E own (.next it s) (F,h) c=IA (XY h (ev E F it) s) (c F):=rfl
def AV9 (h:Hp) (i:Nat) (K:AV→Hp→Prop) (v:AV):Prop:=match v with
 | .tup vs=>IA (ofO h vs[i]?) K
 | _=>False
theorem D8 (t:Operand) (i:Nat):X1 E own (.extract t i) (F,h) c=AV9 h i (c F) (ev E F t):=by
 simp only [X1,MZ,aop,AV9,IA]
 cases ev E F t <;> rfl
theorem FB (vs:List AV) (i:Nat) (K:AV→Hp→Prop):AV9 h i K (.tup vs)=IA (ofO h vs[i]?) K:=rfl
theorem C8 (a:Operand) (t:TypeId):X1 E own (.call { callee := .builtin .len,args := #[a],argTypes := #[t] }) (F,h) c=IA (ofO h (JD E.P t (ev E F a))) (c F):=rfl
theorem AXA (a b:Operand) (ts:Array TypeId):X1 E own (.call { callee := .builtin .max,args := #[a,b],argTypes:=ts }) (F,h) c=IA (ofO h (RQ ADQ (ev E F a) [ev E F b])) (c F):=rfl
theorem AFG (a b:Operand) (ts:Array TypeId):X1 E own (.call { callee := .builtin .min,args := #[a,b],argTypes:=ts }) (F,h) c=IA (ofO h (RQ ADP (ev E F a) [ev E F b])) (c F):=rfl
theorem FT (s x:Operand) (t0 t1:TypeId):X1 E true (.call { callee := .builtin .append,args := #[s,x],argTypes := #[t0,t1] }) (F,h) c=IA (F5 E.P true h t0 t1 (ev E F s) (ev E F x)) (c F):=rfl
theorem AMF (s x:Operand) (t0 t1:TypeId):X1 E false (.call { callee := .builtin .append,args := #[s,x],argTypes := #[t0,t1] }) (F,h) c=IA (if K6 E.P h t0 t1 (ev E F s) (ev E F x)=true then F5 E.P false h t0 t1 (ev E F s) (ev E F x) else none) (c F):=by
 simp only [X1,MZ,aop,MU,IA]
 rfl
theorem AVG (s x:Operand) (t0 t1:TypeId):X1 E own (.call { callee := .builtin .copy,args := #[s,x],argTypes := #[t0,t1] }) (F,h) c=IA (ADS E.P h t0 (ev E F s) (ev E F x)) (c F):=rfl
end

/- the types -/
theorem AEN {P:Program} {t:TypeId} {fields:Array Field} {f:Nat} {fl:Field} {n:Nat} (hu:P.underlying t=some (.struct fields)) (hf:fields[f]? = some fl) (hs:szO P fl.type=some (n+1)) (off:Nat) (ho:fl.offset=off) :
  (∀ b i j,CY P t (.ptr b i j) f=some (.ptr b i (j+off)))∧(∀ k xs i j,CY P t (.fptr k xs i j) f=some (.fptr k xs i (j+off))):=by
 subst ho
 constructor <;> intros <;> simp [CY,hu,hf,hs]
def KL (k:Nat) (h:Hp) (a ix:AV):Option AV:=match ix with
 | .int _ i=>match a with
   | .sl _ k' xs=>if k=k'∧0≤i∧i < (xs.length:Int) then some (.fptr k' xs i.toNat 0) else none
   | .own b off len=>match h[b]? with
     | some (.live k' _)=>if k=k'∧0≤i∧i < (len:Int) then some (.ptr b (off+i.toNat) 0) else none
     | _=>none
   | _=>none
 | _=>none
theorem GU {P:Program} {t e:TypeId} {k:Nat} (hu:P.underlying t=some (.slice e)) (hk:szO P e=some k) (h:Hp) (a ix:AV):FW P h t a ix=KL k h a ix:=by
 unfold FW KL
 cases ix <;> simp only
 simp only [hu,hk,Option.some.injEq]
 rfl
/- drawn regions, in the order of the text -/
def VJ:Op→Bool
 | .call { callee := .value _,.. }=>true
 | _=>false
def ADJ (E:Env) (own:Bool) (f:AV) (args:List AV) (h:Hp) (K:AV→Hp→Prop):Prop:=match f with
 | .fn (.func fid) first caps => ∃ r,(PCall E fid (first ++ (args ++ caps)) h r∧(own=true→∀ x,PCall E fid (first ++ (args ++ caps)) (h ++ x) r))∧K r h
 | _=>False
theorem FD (E:Env) (fid:FuncId) (args caps:List AV) (h:Hp) (K:AV→Hp→Prop):ADJ E false (.fn (.func fid) [] caps) args h K = ∃ r,PCall E fid (args ++ caps) h r∧K r h:=by
 simp [ADJ]
/-- a call that is told for every heap above: it may change places with a new variable -/
theorem AN1 (E:Env) (fid:FuncId) (args caps:List AV) (h:Hp) (K:AV→Hp→Prop):ADJ E true (.fn (.func fid) [] caps) args h K = ∃ r,(∀ x,PCall E fid (args ++ caps) (h ++ x) r)∧K r h:=by
 apply propext
 constructor
 ·rintro ⟨r,⟨_,h2⟩,h3⟩; exact ⟨r,h2 rfl,h3⟩
 ·rintro ⟨r,h2,h3⟩; exact ⟨r,⟨by have:=h2 []; rwa [List.append_nil] at this,fun _=>h2⟩,h3⟩
def Y1 (E:Env) (own:Bool) (op:Op) (s:Fr × Hp) (c:Fr→AV→Hp→Prop):Prop:=match op with
 | .call { callee := .value f,args:=as,.. }=>ADJ E own (ev E s.1 f) (as.toList.map (ev E s.1)) s.2 (c s.1)
 | op=>X1 E own op s c
theorem FP (E:Env) (own:Bool) (f:Operand) (as:Array Operand) (ts:Array TypeId) (F:Fr) (h:Hp) (c:Fr→AV→Hp→Prop) :
 Y1 E own (.call { callee := .value f,args:=as,argTypes:=ts }) (F,h) c=ADJ E own (ev E F f) (as.toList.map (ev E F)) h (c F):=rfl
theorem AYX (E:Env) (own:Bool) (op:Op) (s:Fr × Hp) (c:Fr→AV→Hp→Prop) (hop:VJ op=false):Y1 E own op s c=X1 E own op s c:=by
 unfold Y1
 split
 ·simp [VJ] at hop
 ·rfl
theorem ACW {op:Op} (h:VJ op=true) : ∃ f as ts,op = .call { callee := .value f,args:=as,argTypes:=ts }:=by
 cases op <;> simp only [VJ] at h <;> try (cases h; done)
 rename_i c
 obtain ⟨cl,as,ts⟩:=c
 cases cl with
 | value f=>exact ⟨f,as,ts,rfl⟩
 | _=>simp [VJ] at h
theorem AWY {E:Env} {own:Bool} {op:Op} {F:Fr} {h h':Hp} {v:AV} (hop:VJ op=false):DEx E own op F h v h'=(aop E.P own h (ev E F) op=some (v,h')):=by
 unfold DEx
 split
 ·simp [VJ] at hop
 ·rfl
theorem AT7 (E:Env) (own:Bool) (op:Op) (s:Fr × Hp) (c:Fr→AV→Hp→Prop):(∃ v h',DEx E own op s.1 s.2 v h'∧c s.1 v h')=Y1 E own op s c:=by
 apply propext
 cases hop:VJ op with
 | true =>
   obtain ⟨f,as,ts,rfl⟩:=ACW hop
   obtain ⟨F,h⟩:=s
   rw [FP]
   unfold DEx ADJ
   simp only
   generalize ev E F f=fv
   cases fv with
   | fn fn first caps =>
     cases fn with
     | func fid =>
       constructor
       ·rintro ⟨v,h',⟨rfl,h1,h1'⟩,h2⟩; exact ⟨v,⟨h1,h1'⟩,h2⟩
       ·rintro ⟨r,⟨h1,h1'⟩,h2⟩; exact ⟨r,h,⟨rfl,h1,h1'⟩,h2⟩
     | _=>constructor <;> (intro hh; first | exact hh.elim | (obtain ⟨_,_,hh,_⟩:=hh; exact hh.elim))
   | _=>constructor <;> (intro hh; first | exact hh.elim | (obtain ⟨_,_,hh,_⟩:=hh; exact hh.elim))
 | false =>
   obtain ⟨F,h⟩:=s
   rw [AYX _ _ _ _ _ hop,AYY _ _ _ _ _ _ (by
    split
    ·simp [VJ] at hop
    ·rfl)]
   simp only [AWY hop]
   unfold IA
   constructor
   ·rintro ⟨v,h',h1,h2⟩; rw [h1]; exact h2
   ·intro hy
    split at hy
    ·rename_i v h' he; exact ⟨v,h',he,hy⟩
    ·exact hy.elim
/-- a call with an effect -/
def AH0 (E:Env) (f:AV) (args:List AV) (h:Hp) (K:AV→Hp→Prop):Prop:=match f with
 | .fn (.func fid) first caps => ∃ r h',ACalls E fid (first ++ (args ++ caps)) h (fun v1 h1=>v1=r∧h1=h')∧K r h'
 | _=>False
theorem AQW (E:Env) (fid:FuncId) (args caps:List AV) (h:Hp) (K:AV→Hp→Prop):AH0 E (.fn (.func fid) [] caps) args h K = ∃ r h',ACalls E fid (args ++ caps) h (fun v1 h1=>v1=r∧h1=h')∧K r h':=rfl
def YE (E:Env) (op:Op) (s:Fr × Hp) (c:Fr→AV→Hp→Prop):Prop:=match op with
 | .call { callee := .value f,args:=as,.. }=>AH0 E (ev E s.1 f) (as.toList.map (ev E s.1)) s.2 (c s.1)
 | _=>False
def YO (E:Env) (eff own:Bool) (op:Op) (s:Fr × Hp) (c:Fr→AV→Hp→Prop):Prop:=match eff with
 | false=>Y1 E own op s c
 | true=>YE E op s c
theorem FJ (E:Env) (own:Bool) (op:Op) (s:Fr × Hp) (c:Fr→AV→Hp→Prop):YO E false own op s c=Y1 E own op s c:=rfl
theorem AT5 (E:Env) (own:Bool) (f:Operand) (as:Array Operand) (ts:Array TypeId) (F:Fr) (h:Hp) (c:Fr→AV→Hp→Prop) :
 YO E true own (.call { callee := .value f,args:=as,argTypes:=ts }) (F,h) c=AH0 E (ev E F f) (as.toList.map (ev E F)) h (c F):=rfl
theorem ARK {E:Env} {op:Op} {F:Fr} {h h':Hp} {v:AV} (hop:VJ op=false) : ¬ ECall E op F h v h':=by
 intro hh
 unfold ECall at hh
 split at hh
 ·simp [VJ] at hop
 ·exact hh
theorem AYW {E:Env} {op:Op} {s:Fr × Hp} {c:Fr→AV→Hp→Prop} (hop:VJ op=false) : ¬ YE E op s c:=by
 intro hh
 unfold YE at hh
 split at hh
 ·simp [VJ] at hop
 ·exact hh
theorem AT6 (E:Env) (op:Op) (s:Fr × Hp) (c:Fr→AV→Hp→Prop):(∃ v h',ECall E op s.1 s.2 v h'∧c s.1 v h')=YE E op s c:=by
 apply propext
 cases hop:VJ op with
 | true =>
   obtain ⟨f,as,ts,rfl⟩:=ACW hop
   obtain ⟨F,h⟩:=s
   show (∃ v h',ECall E _ F h v h'∧c F v h')↔AH0 E (ev E F f) (as.toList.map (ev E F)) h (c F)
   unfold ECall AH0
   simp only
   generalize ev E F f=fv
   cases fv with
   | fn fn first caps =>
     cases fn with
     | func fid=>exact Iff.rfl
     | _=>constructor <;> (intro hh; first | exact hh.elim | (obtain ⟨_,_,hh,_⟩:=hh; exact hh.elim))
   | _=>constructor <;> (intro hh; first | exact hh.elim | (obtain ⟨_,_,hh,_⟩:=hh; exact hh.elim))
 | false =>
   constructor
   ·rintro ⟨_,_,hh,_⟩; exact (ARK hop hh).elim
   ·intro hh; exact (AYW hop hh).elim
theorem AVE {E:Env} {md:Nat→Bool} {d:Option Tmp} {op:Op} (t:TypeId) (p:String) (e:Array Edge) (g:Option (Nat × Bool)) (s:Fr × Hp) (c:Fr→AV→Hp→Prop) :
  YO E (md (d.getD 0+1000000)) (md (d.getD 0)) op s c = ∃ v h',DExO E md ⟨d,op,t,p,e,g⟩ s.1 s.2 v h'∧c s.1 v h':=by
 unfold YO DExO
 simp only
 generalize md (d.getD 0+1000000)=q
 cases q with
 | false=>exact (AT7 E (md (d.getD 0)) op s c).symm
 | true=>exact (AT6 E op s c).symm
def DD (E:Env) (md:Nat→Bool) (ops:List Oper) (l:List Oper) (F:Fr) (h:Hp) (K:Fr→Hp→Prop):Prop:=D E md (ops.map (·.dst)) l F h K
def AL3 (E:Env) (md:Nat→Bool) (ops:List Oper) (d:Option Tmp) (r:List Oper) (F:Fr) (K:Fr→Hp→Prop):AV→Hp→Prop:=fun v h'=>DD E md ops r (EM F d v) h' K
theorem CZ (E:Env) (md:Nat→Bool) (ops:List Oper) (d:Tmp) (r:List Oper) (F:Fr) (K:Fr→Hp→Prop) (v:AV) (h:Hp):AL3 E md ops (some d) r F K v h=DD E md ops r (upd F d v) h K:=rfl
theorem LD (E:Env) (md:Nat→Bool) (ops:List Oper) (r:List Oper) (F:Fr) (K:Fr→Hp→Prop) (v:AV) (h:Hp):AL3 E md ops none r F K v h=DD E md ops r F h K:=rfl
def dc (E:Env) (md:Nat→Bool) (ops:List Oper) (d:Option Tmp) (r:List Oper) (K:Fr→Hp→Prop):Fr→AV→Hp→Prop:=fun F=>AL3 E md ops d r F K
theorem DT (E:Env) (md:Nat→Bool) (ops:List Oper) (d:Option Tmp) (r:List Oper) (K:Fr→Hp→Prop) (F:Fr):dc E md ops d r K F=AL3 E md ops d r F K:=rfl
theorem EO (E:Env) (md:Nat→Bool) (ops:List Oper) (F:Fr) (h:Hp) (K:Fr→Hp→Prop):DD E md ops [] F h K=K F h:=rfl
theorem EG {E:Env} {H:Hint} {i:Nat} {l:List Oper} {F:Fr} {h:Hp} {Q:AEx→Fr→Hp→Prop} (hl:API H.md [] l.toArray=true) (hd:DD E H.md l l F h (Q .normal)):awp E H (.region i l.toArray true) F h Q:=⟨⟨[],hl,by unfold ZI; rw [List.all_eq_true]; intro o _; cases o.dst <;> rfl,trivial⟩,hd⟩
/-- the same, where pairs of slots are known to point into different blocks -/
theorem WY {E:Env} {H:Hint} {i:Nat} {l:List Oper} {F:Fr} {h:Hp} {Q:AEx→Fr→Hp→Prop} (sep:List (Nat × Nat)) (hl:(API H.md sep l.toArray && ZI sep l)=true) (hs:QA F sep) (hd:DD E H.md l l F h (Q .normal)):awp E H (.region i l.toArray true) F h Q :=
 ⟨⟨sep,(Bool.and_eq_true_iff.1 hl).1,by simpa using (Bool.and_eq_true_iff.1 hl).2,hs⟩,hd⟩
theorem ABJ (F:Fr):QA F []=True:=rfl
theorem XD (F:Fr) (t u:Nat) (r:List (Nat × Nat)):QA F ((t,u) :: r)=(R5 (F t) (F u)∧QA F r):=rfl
theorem AVS (y:AV):R5 HV y=True:=rfl
theorem ZH (b i j b' i' j':Nat):R5 (.ptr b i j) (.ptr b' i' j')=(b≠b'):=rfl
theorem DV (E:Env) (md:Nat→Bool) (ops:List Oper) (d:Option Tmp) (op:Op) (t:TypeId) (p:String) (e:Array Edge) (r:List Oper) (F:Fr) (h:Hp) (K:Fr→Hp→Prop) :
  DD E md ops (⟨d,op,t,p,e,none⟩ :: r) F h K=YO E (md (d.getD 0+1000000)) (md (d.getD 0)) op (F,h) (dc E md ops d r K):=by
 rw [AVE t p e none]
 simp only [DD,D,MK,true_imp_iff,Bool.true_eq_false,false_imp_iff,and_true]
 rfl
/-- a guarded operation of a drawn region -/
def GD (E:Env) (md:Nat→Bool) (ops:List Oper) (d:Option Tmp) (op:Op) (r:List Oper) (F:Fr) (h:Hp) (K:Fr→Hp→Prop) (want:Bool) (v:AV):Prop :=
 match v with
 | .bool b=>((b == want)=true→YO E (md (d.getD 0+1000000)) (md (d.getD 0)) op (F,h) (dc E md ops d r K))∧((b == want)=false→DD E md ops r (EM F d HV) h K)
 | .tup []=>DD E md ops r (EM F d HV) h K
 | _=>False
theorem ARP (E:Env) (md:Nat→Bool) (ops:List Oper) (d:Option Tmp) (op:Op) (t:TypeId) (p:String) (e:Array Edge) (j:Nat) (want:Bool) (r:List Oper) (F:Fr) (h:Hp) (K:Fr→Hp→Prop) (g:Tmp) (hg:BZ ops j=some g) :
  DD E md ops (⟨d,op,t,p,e,some (j,want)⟩ :: r) F h K=GD E md ops d op r F h K want (F g):=by
 simp only [DD,D,MK,SG,hg,GD,AVE t p e (some (j,want))]
 generalize F g=v
 cases v with
 | bool b=>rfl
 | tup vs=>cases vs with
   | nil=>simp
   | cons=>rfl
 | _=>rfl
def GY (E:Env) (md:Nat→Bool) (ops:List Oper) (d:Option Tmp) (op:Op) (r:List Oper) (F:Fr) (h:Hp) (K:Fr→Hp→Prop) (want:Bool) (o:Option Tmp):Prop:=match o with
 | some g=>GD E md ops d op r F h K want (F g)
 | none=>DD E md ops r (EM F d HV) h K
theorem FR (E:Env) (md:Nat→Bool) (ops:List Oper) (d:Option Tmp) (op:Op) (r:List Oper) (F:Fr) (h:Hp) (K:Fr→Hp→Prop) (want:Bool) (g:Tmp):GY E md ops d op r F h K want (some g)=GD E md ops d op r F h K want (F g):=rfl
theorem EY (E:Env) (md:Nat→Bool) (ops:List Oper) (d:Option Tmp) (op:Op) (t:TypeId) (p:String) (e:Array Edge) (j:Nat) (want:Bool) (r:List Oper) (F:Fr) (h:Hp) (K:Fr→Hp→Prop) :
  DD E md ops (⟨d,op,t,p,e,some (j,want)⟩ :: r) F h K=GY E md ops d op r F h K want (BZ ops j):=by
 cases hg:BZ ops j with
 | some g=>exact ARP E md ops d op t p e j want r F h K g hg
 | none=>simp [DD,D,MK,SG,hg,GY]
theorem AIG {E:Env} {md:Nat→Bool} {ops:List Oper} {d:Option Tmp} {op:Op} {r:List Oper} {F:Fr} {h:Hp} {K:Fr→Hp→Prop} {want b:Bool} (ht:b=true→GD E md ops d op r F h K want (.bool true)) (hf:b=false→GD E md ops d op r F h K want (.bool false)):GD E md ops d op r F h K want (.bool b):=by
 cases b
 ·exact hf rfl
 ·exact ht rfl
section
variable (E:Env) (md:Nat→Bool) (ops:List Oper) (d:Option Tmp) (op:Op) (r:List Oper) (F:Fr) (h:Hp) (K:Fr→Hp→Prop)
theorem QU:GD E md ops d op r F h K true (.bool true)=YO E (md (d.getD 0+1000000)) (md (d.getD 0)) op (F,h) (dc E md ops d r K):=by simp [GD]
theorem NT:GD E md ops d op r F h K false (.bool false)=YO E (md (d.getD 0+1000000)) (md (d.getD 0)) op (F,h) (dc E md ops d r K):=by simp [GD]
theorem ABL:GD E md ops d op r F h K true (.bool false)=DD E md ops r (EM F d HV) h K:=by simp [GD]
theorem WB:GD E md ops d op r F h K false (.bool true)=DD E md ops r (EM F d HV) h K:=by simp [GD]
theorem AWW (want:Bool):GD E md ops d op r F h K want HV=DD E md ops r (EM F d HV) h K:=rfl
theorem ET (own:Bool) (x:Operand) (c:Fr→AV→Hp→Prop):Y1 E own (.move x) (F,h) c=c F (ev E F x) h:=rfl
theorem GM (own:Bool) (x:Operand) (c:Fr→AV→Hp→Prop):Y1 E own (.assign x) (F,h) c=c F (ev E F x) h:=rfl
variable (own:Bool) (c:Fr→AV→Hp→Prop)
theorem G6 (x a b:Operand):Y1 E own (.pick x a b) (F,h) c=X1 E own (.pick x a b) (F,h) c:=rfl
theorem ARR (t:TypeId):Y1 E own (.alloc t) (F,h) c=X1 E own (.alloc t) (F,h) c:=rfl
theorem ADW (t:TypeId) (ps:Array (Nat × Operand)):Y1 E own (.build t ps) (F,h) c=X1 E own (.build t ps) (F,h) c:=rfl
theorem I7 (t:TypeId) (n:Nat) (ps:Array (Nat × Operand)):Y1 E own (.buildSlice t n ps) (F,h) c=X1 E own (.buildSlice t n ps) (F,h) c:=rfl
theorem EN (t:TypeId) (x:Operand):Y1 E own (.load t x) (F,h) c=X1 E own (.load t x) (F,h) c:=rfl
theorem K8 (t:TypeId) (x y:Operand):Y1 E own (.store t x y) (F,h) c=X1 E own (.store t x y) (F,h) c:=rfl
theorem GK (o:BinOp) (t u:TypeId) (x y:Operand):Y1 E own (.binOp o t x y u) (F,h) c=X1 E own (.binOp o t x y u) (F,h) c:=rfl
theorem ADV (o:UnOp) (t:TypeId) (x:Operand):Y1 E own (.unOp o t x) (F,h) c=X1 E own (.unOp o t x) (F,h) c:=rfl
theorem AVF (t u:TypeId) (x:Operand):Y1 E own (.convert t u x) (F,h) c=X1 E own (.convert t u x) (F,h) c:=rfl
theorem NJ (t:TypeId) (x y:Operand):Y1 E own (.makeSlice t x y) (F,h) c=X1 E own (.makeSlice t x y) (F,h) c:=rfl
theorem AKL (t:TypeId) (x:Operand) (lo hi mx:Option Operand):Y1 E own (.slice t x lo hi mx) (F,h) c=X1 E own (.slice t x lo hi mx) (F,h) c:=rfl
theorem DW (t:TypeId) (x:Operand) (i:Nat):Y1 E own (.fieldAddr t x i) (F,h) c=X1 E own (.fieldAddr t x i) (F,h) c:=rfl
theorem DN (t:TypeId) (x y:Operand):Y1 E own (.indexAddr t x y) (F,h) c=X1 E own (.indexAddr t x y) (F,h) c:=rfl
theorem ARQ (t:TypeId) (x y:Operand):Y1 E own (.index t x y) (F,h) c=X1 E own (.index t x y) (F,h) c:=rfl
theorem KU (x:Operand) (i:Nat):Y1 E own (.extract x i) (F,h) c=X1 E own (.extract x i) (F,h) c:=rfl
theorem FX (b:Builtin) (as:Array Operand) (ts:Array TypeId):Y1 E own (.call { callee := .builtin b,args:=as,argTypes:=ts }) (F,h) c=X1 E own (.call { callee := .builtin b,args:=as,argTypes:=ts }) (F,h) c:=rfl
end

/- weakening: what is shown with one aim holds with a weaker one -/
theorem ABE {E:Env} {own:Bool} {op:Op} {F:Fr} {h:Hp} {K K':AV→Hp→Prop} (hk : ∀ v h,K v h→K' v h) (ha:MZ E own op F h K):MZ E own op F h K':=by
 unfold MZ at *
 split at ha
 ·split at ha
  ·rename_i hf; exact ha.mono hk
  ·exact ha.elim
 ·split at ha
  ·rename_i v h' he; exact hk v h' ha
  ·exact ha.elim
theorem XC {E:Env} {H:Hint} {ds:List (Option Tmp)} {K K':Fr→Hp→Prop} (hk : ∀ F h,K F h→K' F h) : ∀ (l:List Oper) (F:Fr) (h:Hp),W E H ds l F h K→W E H ds l F h K'
 | [],F,h,hw=>hk F h hw
 | o :: r,F,h,hw=>by
   simp only [W] at hw ⊢
   split at hw
   ·exact ⟨fun hc=>ABE (fun v h' hv=>XC hk r _ _ hv) (hw.1 hc),fun hc=>XC hk r _ _ (hw.2 hc)⟩
   ·exact hw.elim
theorem AFD {E:Env} {md:Nat→Bool} {ds:List (Option Tmp)} {K K':Fr→Hp→Prop} (hk : ∀ F h,K F h→K' F h) : ∀ (l:List Oper) (F:Fr) (h:Hp),D E md ds l F h K→D E md ds l F h K'
 | [],F,h,hw=>hk F h hw
 | o :: r,F,h,hw=>by
   simp only [D] at hw ⊢
   split at hw
   ·exact ⟨fun hc=>let ⟨v,h',h1,h2⟩:=hw.1 hc; ⟨v,h',h1,AFD hk r _ _ h2⟩,fun hc=>AFD hk r _ _ (hw.2 hc)⟩
   ·exact hw.elim
theorem ZB {next next':Fr→Hp→Prop} {Q Q':AEx→Fr→Hp→Prop} (hn : ∀ F h,next F h→next' F h) (hq : ∀ e F h,Q e F h→Q' e F h) : ∀ e F h,ZC next Q e F h→ZC next' Q' e F h:=by
 intro e F h ht
 cases e with
 | normal=>exact hn F h ht
 | exit i=>exact hq _ F h ht
 | ret=>exact hq _ F h ht
theorem AH5 {E:Env} {H:Hint} : ∀ (c:Code) {F:Fr} {h:Hp} {Q Q':AEx→Fr→Hp→Prop},(∀ e F h,Q e F h→Q' e F h)→awp E H c F h Q→awp E H c F h Q':=by
 intro c
 induction c with
 | skip=>intro F h Q Q' hq hw; exact hq _ _ _ hw
 | label l=>intro F h Q Q' hq hw; exact hq _ _ _ hw
 | ret=>intro F h Q Q' hq hw; exact hq _ _ _ hw
 | exit i=>intro F h Q Q' hq hw; exact hq _ _ _ hw
 | seq x y ihx ihy=>intro F h Q Q' hq hw; exact ihx (ZB (fun F h hh=>ihy hq hh) hq) hw
 | block id b ih =>
   intro F h Q Q' hq hw
   refine ih (fun e F h hh => ?_) hw
   cases e with
   | normal=>exact hq _ _ _ hh
   | exit i =>
     simp only [O1] at hh ⊢
     split
     ·rename_i hi; rw [if_pos hi] at hh; exact hq _ _ _ hh
     ·rename_i hi; rw [if_neg hi] at hh; exact hq _ _ _ hh
   | ret=>exact hq _ _ _ hh
 | cond c x y ihx ihy =>
   intro F h Q Q' hq hw
   simp only [awp] at hw ⊢
   split at hw
   ·exact ⟨fun hc=>ihx hq (hw.1 hc),fun hc=>ihy hq (hw.2 hc)⟩
   ·exact hw.elim
 | loop b ih =>
   intro F h Q Q' hq hw
   obtain ⟨I,h0,hr⟩:=hw
   exact ⟨I,h0,fun n F h hI=>ih (ZB (fun _ _ hh=>hh) hq) (hr n F h hI)⟩
 | region i ops draw =>
   intro F h Q Q' hq hw
   simp only [awp] at hw ⊢
   cases draw with
   | false=>exact XC (hq _) _ _ _ hw
   | true=>exact ⟨hw.1,AFD (hq _) _ _ _ hw.2⟩
 | _=>intro F h Q Q' hq hw; simp only [awp] at hw
/-- a stop behind which the code goes on as usual, or has returned -/
def ASU (N:Fr→Hp→Prop) (R:Fr→Hp→Prop):AEx→Fr→Hp→Prop
 | .normal,F,h=>N F h
 | .ret,F,h=>R F h
 | .exit _,_,_=>False
theorem UB (N R:Fr→Hp→Prop) (F:Fr) (h:Hp):ASU N R .normal F h=N F h:=rfl
theorem AMA {E:Env} {H:Hint} {c:Code} {F:Fr} {h:Hp} {Q:AEx→Fr→Hp→Prop} (N R:Fr→Hp→Prop) (hw:awp E H c F h (ASU N R)) (hn : ∀ F h,N F h→Q .normal F h) (hr : ∀ F h,R F h→Q .ret F h):awp E H c F h Q :=
 AH5 c (fun e F h hh=>by
  cases e with
  | normal=>exact hn F h hh
  | ret=>exact hr F h hh
  | exit i=>exact hh.elim) hw
theorem RL {E:Env} {H:Hint} {ops:List Oper} {d:Option Tmp} {op:Op} {r:List Oper} {F:Fr} {h:Hp} {K:Fr→Hp→Prop} {want:Bool} {v:AV} (K':Fr→Hp→Prop) (hw:G1 E H ops d op r F h K' want v) (hk : ∀ F h,K' F h→K F h):G1 E H ops d op r F h K want v:=by
 unfold G1 at *
 split at hw
 ·exact ⟨fun hc=>ABE (fun v h' hv=>XC hk r _ _ hv) (hw.1 hc),fun hc=>XC hk r _ _ (hw.2 hc)⟩
 ·exact XC hk r _ _ hw
 ·exact hw.elim
theorem ARO {E:Env} {md:Nat→Bool} {ops r:List Oper} {F:Fr} {h:Hp} {K:Fr→Hp→Prop} (K':Fr→Hp→Prop) (hw:DD E md ops r F h K') (hk : ∀ F h,K' F h→K F h):DD E md ops r F h K:=AFD hk r _ _ hw
/-- a stop behind a loop that is left by one exit, or by a return -/
def lpQ (i:Nat) (N:Fr→Hp→Prop) (R:Fr→Hp→Prop):AEx→Fr→Hp→Prop
 | .normal,_,_=>False
 | .ret,F,h=>R F h
 | .exit j,F,h=>if j=i then N F h else False
theorem II (i j:Nat) (N R:Fr→Hp→Prop) (F:Fr) (h:Hp):lpQ i N R (.exit j) F h=if j=i then N F h else False:=rfl
theorem KC (i:Nat) (N R:Fr→Hp→Prop) (F:Fr) (h:Hp):lpQ i N R .ret F h=R F h:=rfl
theorem FO {E:Env} {H:Hint} {c:Code} {F:Fr} {h:Hp} {Q:AEx→Fr→Hp→Prop} (i:Nat) (N R:Fr→Hp→Prop) (hw:awp E H c F h (lpQ i N R)) (hn : ∀ F h,N F h→Q (.exit i) F h) (hr : ∀ F h,R F h→Q .ret F h):awp E H c F h Q :=
 AH5 c (fun e F h hh=>by
  cases e with
  | normal=>exact hh.elim
  | ret=>exact hr F h hh
  | exit j =>
    simp only [lpQ] at hh
    split at hh
    ·rename_i e; subst e; exact hn F h hh
    ·exact hh.elim) hw
end Go.Proofs.YtocilianjfhifaaGreatDoor.Sm
/- Equations for the values that occur most: numbers, slices of data, blocks of the call's own; no condition. -/
namespace Go.Proofs.YtocilianjfhifaaGreatDoor.Sm
open Go

theorem E8 (ρ:Operand→AV):evp ρ [] = []:=rfl
theorem FI (ρ:Operand→AV) (i:Nat) (x:Operand) (r:List (Nat × Operand)):evp ρ ((i,x) :: r)=(i,ρ x) :: evp ρ r:=rfl
theorem FK {o:Option (AV × Hp)} {K:AV→Hp→Prop} {v:AV} {h:Hp} (ho:o=some (v,h)) (hk:K v h):IA o K:=by rw [ho]; exact hk
theorem AL (n:Nat):Hint.none.md n=false:=rfl
theorem AO (n:Nat):Hint.none.fz n = []:=rfl
theorem AJ (s:Fr × Hp):KH s []=s:=rfl
theorem NQ (s:Fr × Hp) (i:Nat) (r:List Nat):KH s (i :: r)=KH (NG s i) r:=rfl
/-- hints as lists of slots -/
def hint (md:List Nat) (fz:List (Nat × List Nat)):Hint:=⟨fun n=>md.contains n,fun n=>match fz.find? (fun x=>x.1 == n) with | some x=>x.2 | none => []⟩

/- numbers -/
section
variable (P:Program) (t:TypeId) (k:IntKind) (a b:Int)
theorem CR:KY P t .add (.int k a) (.int k b)=some (.int k (k.wrap (a+b))):=by simp [KY,V9,NF]
theorem J8:KY P t .sub (.int k a) (.int k b)=some (.int k (k.wrap (a - b))):=by simp [KY,V9,NF]
theorem TS:KY P t .mul (.int k a) (.int k b)=some (.int k (k.wrap (a * b))):=by simp [KY,V9,NF]
theorem ATT (h:b≠0):KY P t .quo (.int k a) (.int k b)=some (.int k (k.wrap (a.tdiv b))):=by simp [KY,V9,NF,h]
theorem AE5 (h:b≠0):KY P t .rem (.int k a) (.int k b)=some (.int k (a.tmod b)):=by simp [KY,V9,NF,h]
theorem D9:KY P t .eql (.int k a) (.int k b)=some (.bool (a == b)):=by simp [KY,V9,NF]
theorem ED:KY P t .neq (.int k a) (.int k b)=some (.bool (a != b)):=by simp [KY,V9,NF]
theorem CO:KY P t .lss (.int k a) (.int k b)=some (.bool (decide (a < b))):=by simp [KY,V9,NF]
theorem J9:KY P t .leq (.int k a) (.int k b)=some (.bool (decide (a≤b))):=by simp [KY,V9,NF]
theorem EK:KY P t .gtr (.int k a) (.int k b)=some (.bool (decide (a > b))):=by simp [KY,V9,NF]
theorem F3:KY P t .geq (.int k a) (.int k b)=some (.bool (decide (a≥b))):=by simp [KY,V9,NF]
theorem LZ (s u:ByteArray):KY P t .eql (.str s) (.str u)=some (.bool (s.toList == u.toList)):=rfl
theorem AA8 (s u:ByteArray):KY P t .neq (.str s) (.str u)=some (.bool (!(s.toList == u.toList))):=rfl
theorem AQ2 (p q:Bool) (hu:P.underlying t=some .bool):KY P t .eql (.bool p) (.bool q)=some (.bool (p == q)):=by simp [KY,Y3,hu]
theorem ER (p:Bool):aUn .not (.bool p)=some (.bool (!p)):=rfl
theorem AV0:RQ ADQ (.int k a) [.int k b]=some (.int k (max a b)):=by simp [RQ,ADQ]
theorem ZX:RQ ADP (.int k a) [.int k b]=some (.int k (min a b)):=by simp [RQ,ADP]
theorem AHS {s d:TypeId} {k':IntKind} {ds:TypeDesc} (h1:P.underlying s=some ds) (h2:P.underlying d=some (.int k')):QT P s d (.int k a)=some (.int k' (k'.wrap a)):=by simp [QT,h1,h2]
end
theorem wrap_i64 {n:Int} (h0 : -9223372036854775808≤n) (h1:n≤9223372036854775807):IntKind.i64.wrap n=n:=by
 unfold IntKind.wrap IntKind.bits IntKind.signed
 simp
 omega

/- slices -/
section
variable {α:Type} {P:Program}
theorem MC {t e:TypeId} (hu:P.underlying t=some (.slice e)):(∀ m k xs,JD P t (.sl m k xs)=some (.int .i64 xs.length))∧∀ b off len,JD P t (.own b off len)=some (.int .i64 len):=by
 constructor <;> intros <;> simp [JD,hu]
theorem ASZ {t:TypeId} (hu:P.underlying t=some .string) (s:ByteArray):JD P t (.str s)=some (.int .i64 s.size):=by simp [JD,hu]
theorem CW {k:Nat} {h:Hp} {m:SM} {f:α→List AV} {xs:List α} {kk:IntKind} {n:Nat} (hn:n < xs.length):KL k h (.sl m k (xs.map f)) (.int kk (n:Int))=some (.fptr k (xs.map f) n 0):=by
 simp [KL,hn]
theorem AUQ {k:Nat} {h:Hp} {m:SM} {xs:List (List AV)} {kk:IntKind} {i:Int} (h0:0≤i) (h1:i < (xs.length:Int)):KL k h (.sl m k xs) (.int kk i)=some (.fptr k xs i.toNat 0):=by
 simp [KL,h0,h1]
theorem Q7 {k:Nat} {h:Hp} {b off len:Nat} {kk:IntKind} {n:Nat} {xs:List (List AV)} (hb:h[b]? = some (.live k xs)) (hn:n < len):KL k h (.own b off len) (.int kk (n:Int))=some (.ptr b (off+n) 0):=by
 simp [KL,hb,hn]
/-- one cell of an element -/
theorem CP {h:Hp} {t:TypeId} {k n j:Nat} {f:α→List AV} {xs:List α} (hag:JV P t=some false) (hn:n < xs.length):D7 P h t (.fptr k (xs.map f) n j)=(f xs[n])[j]? := by
 simp [D7,rowAt,hn,hag]
/-- a whole element -/
theorem ES {h:Hp} {t:TypeId} {k n s:Nat} {f:α→List AV} {xs:List α} (hag:JV P t=some true) (hs:szO P t=some s) (hl : ∀ x,(f x).length=s) (hn:n < xs.length) :
  D7 P h t (.fptr k (xs.map f) n 0)=some (.agg (f xs[n])):=by
 have:=hl xs[n]
 simp [D7,rowAt,hn,hag,hs,this]
 rw [List.take_of_length_le (by omega)]
theorem DX {h:Hp} {t:TypeId} {b i j k:Nat} {xs:List (List AV)} {row:List AV} (hag:JV P t=some false) (hb:h[b]? = some (.live k xs)) (hr:xs[i]? = some row):D7 P h t (.ptr b i j)=row[j]? := by
 simp [D7,rowAt,hb,hr,hag]
theorem IK {h:Hp} {t:TypeId} {b i j k s:Nat} {xs:List (List AV)} {row:List AV} (hag:JV P t=some true) (hs:szO P t=some s) (hb:h[b]? = some (.live k xs)) (hr:xs[i]? = some row) (hl:j+s≤row.length) :
  D7 P h t (.ptr b i j)=some (.agg ((row.drop j).take s)):=by
 simp [D7,rowAt,hb,hr,hag,hs,hl]
end

/- blocks on top of the heap -/
theorem CQ (h:Hp) (x:ABlk):(h ++ [x])[h.length]? = some x:=by simp
theorem YH (h:Hp) (x y:ABlk):(h ++ [x]).set h.length y=h ++ [y]:=by simp
theorem C9 {h:Hp} {x y:ABlk} {b:Nat} (hb:h[b]? = some y):(h ++ [x])[b]? = some y:=by
 rw [List.getElem?_append_left (CE hb)]; exact hb
theorem ACV {P:Program} {h:Hp} {t:TypeId} {k s j:Nat} {row:List AV} (hag:JV P t=some true) (hs:szO P t=some s) (hl:j+s≤row.length):D7 P (h ++ [.live k [row]]) t (.ptr h.length 0 j)=some (.agg ((row.drop j).take s)):=by
 simp [D7,rowAt,hag,hs,hl]
theorem M5 {P:Program} {h:Hp} {t:TypeId} {k j:Nat} {row cs:List AV} {v:AV} (hc:IV v=some cs) (hs:szO P t=some cs.length) (hl:j+cs.length≤row.length) :
  FQ P (h ++ [.live k [row]]) t (.ptr h.length 0 j) v=some (h ++ [.live k [splice row j cs]]):=by
 simp [FQ,hc,hs,hl]
theorem AWP {h:Hp} {v:AV} {cs:List AV} (hc:IV v=some cs):OH h v=some (.ptr h.length 0 0,h ++ [.live cs.length [cs]]):=by simp [OH,hc]
theorem TB {cs:List AV} (hl:cs.all AV.leaf=true):IV (.agg cs)=some cs:=by simp only [IV,hl,if_true]
theorem RG (k:IntKind) (n:Int):IV (.int k n)=some [.int k n]:=rfl
theorem AYU (m:SM) (k:Nat) (xs:List (List AV)):IV (.sl m k xs)=some [.sl m k xs]:=rfl
theorem ABG (a b c:Nat):IV (.own a b c)=some [.own a b c]:=rfl
theorem AYV (f:Fn) (a b:List AV):IV (.fn f a b)=some [.fn f a b]:=rfl
theorem RY {n:Nat} (h:n≤9223372036854775807):IntKind.i64.wrap (n:Int)=(n:Int):=wrap_i64 (by omega) (by omega)
theorem CB {n:Nat} (h:n < 9223372036854775807):IntKind.i64.wrap ((n:Int)+1)=((n+1:Nat):Int):=by rw [wrap_i64 (by omega) (by omega)]; omega
theorem CL (l:List Nat) (f:List (Nat × List Nat)) (n:Nat):(hint l f).md n=l.contains n:=rfl
theorem JC {P:Program} {h:Hp} {t:TypeId} {row:List AV} (hz:L8 P t=some row):JN P h t=some (.ptr h.length 0 0,h ++ [.live row.length [row]]):=by
 unfold L8 at hz
 unfold JN OH
 split at hz
 ·rename_i z hz2; simp only [hz2,hz]
 ·cases hz
theorem AQ1 (h:Hp) (m:SM) (k:Nat) (xs:List (List AV)):OH h (.sl m k xs)=some (.ptr h.length 0 0,h ++ [.live 1 [[.sl m k xs]]]):=rfl
theorem TR {h:Hp} {cs:List AV} (hl:cs.all AV.leaf=true):OH h (.agg cs)=some (.ptr h.length 0 0,h ++ [.live cs.length [cs]]):=AWP (TB hl)
/-- reading the block on top -/
theorem CX {P:Program} {h:Hp} {t:TypeId} {k j:Nat} {row:List AV} (hag:JV P t=some false):D7 P (h ++ [.live k [row]]) t (.ptr h.length 0 j)=row[j]? := by
 simp [D7,rowAt,hag]
theorem APH {P:Program} {h:Hp} {t:TypeId} {k i j:Nat} {xs:List (List AV)} {row:List AV} {v:AV} (hag:JV P t=some false) (hr:xs[i]? = some row) (hv:row[j]? = some v):D7 P h t (.fptr k xs i j)=some v:=by
 simp [D7,rowAt,hag,hr,hv]
theorem KV {P:Program} {h:Hp} {t:TypeId} {b i j k:Nat} {xs:List (List AV)} {row cs:List AV} {v:AV} (hc:IV v=some cs) (hs:szO P t=some cs.length) (hb:h[b]? = some (.live k xs)) (hr:xs[i]? = some row) (hl:j+cs.length≤row.length) :
  FQ P h t (.ptr b i j) v=some (h.set b (.live k (xs.set i (splice row j cs)))):=by
 simp [FQ,hc,hs,hb,hr,hl]
/-- what has only grown above h -/
def ext (h H:Hp):Prop := ∃ x,H=h ++ x
theorem ext.rfl' (h:Hp):ext h h:=⟨[],by simp⟩
theorem ext.app {h H:Hp} (he:ext h H) (x:Hp):ext h (H ++ x):=by obtain ⟨y,rfl⟩:=he; exact ⟨y ++ x,by rw [List.append_assoc]⟩
theorem ext.set {h H:Hp} (he:ext h H) {b:Nat} (hb:h.length≤b) (y:ABlk):ext h (H.set b y):=by
 obtain ⟨x,rfl⟩:=he
 exact ⟨x.set (b - h.length) y,by rw [List.set_append_right _ _ hb]⟩
theorem ext.trans {a b c:Hp} (h1:ext a b) (h2:ext b c):ext a c:=by obtain ⟨x,rfl⟩:=h1; exact h2.casesOn fun y e=>⟨x ++ y,by rw [e,List.append_assoc]⟩
theorem ext.le {h H:Hp} (he:ext h H):h.length≤H.length:=by obtain ⟨x,rfl⟩:=he; simp
theorem EP {h:Hp} {b o:Nat} {x:Option ABlk} {y:ABlk} (ho:h[o]? = x) (hne:o≠b):(h.set b y)[o]? = x:=by rw [List.getElem?_set,if_neg (fun e=>hne e.symm)]; exact ho
theorem EI {h:Hp} {b:Nat} {x y:ABlk} (hb:h[b]? = some x):(h.set b y)[b]? = some y:=by
 have:=CE hb
 rw [List.getElem?_set,if_pos rfl,if_pos this]
/- parts of slices -/
def ANU (m:SM) (u n:Nat):SM:=match m with | .nil => .nil | .full=>if u=n then .full else .any | .any => .any
section
variable {P:Program} {t e:TypeId} {k:Nat} (hu:P.underlying t=some (.slice e)) (hs:szO P e=some k)
include hu hs
theorem AKS {h:Hp} {m:SM} {kk:IntKind} {xs:List (List AV)} {l:Nat} (hl:l≤xs.length):LM P h t (.sl m k xs) (some (.int kk (l:Int))) none none=some (.sl m k (xs.drop l)):=by
 have h1:IE (some (.int kk (l:Int))) (some 0)=some l:=by simp [IE]
 have h2:IE none (some xs.length)=some xs.length:=rfl
 simp only [LM,hu,h1,h2,hs,true_and]
 rw [if_pos ⟨hl,Nat.le_refl _⟩,List.take_of_length_le (by simp)]
 cases m <;> simp
theorem AKR {h:Hp} {m:SM} {kk:IntKind} {xs:List (List AV)} {u:Nat} (hl:u≤xs.length):LM P h t (.sl m k xs) none (some (.int kk (u:Int))) none=some (.sl (ANU m u xs.length) k (xs.take u)):=by
 have h1:IE (some (.int kk (u:Int))) (some xs.length)=some u:=by simp [IE]
 have h2:IE none (some 0)=some 0:=rfl
 simp only [LM,hu,h1,h2,hs,true_and]
 rw [if_pos ⟨Nat.zero_le _,hl⟩]
 cases m <;> simp [ANU]
end
/- appending -/
section
variable {P:Program} {t e:TypeId} {k b:Nat} (hu:P.underlying t=some (.slice e)) (hs:szO P e=some k) (hz:PG P e=some k) (hb:KD P e=some b)
include hu hs hz hb
theorem ABA {h:Hp} {xs ys:List (List AV)} {x:AV} (hy:JL h x=some (k,ys)) (hne:ys≠[]) (hr:room (xs.length+ys.length) b) :
  F5 P true h t t (.sl .full k xs) x=some (.own h.length 0 (xs.length+ys.length),h ++ [.live k (xs ++ ys)]):=by
 have hl : ¬ ys.length=0:=by simpa using hne
 simp [F5,hu,hs,QC,hy,bump,hz,hb,hr,hl]
theorem V4 {h:Hp} {k':Nat} {xs ys:List (List AV)} {x:AV} (hy:JL h x=some (k,ys)) (hne:ys≠[]) (hr:room ys.length b) :
  F5 P true h t t (.sl .nil k' xs) x=some (.own h.length 0 ys.length,h ++ [.live k ys]):=by
 have hl : ¬ ys.length=0:=by simpa using hne
 simp [F5,hu,hs,QC,hy,bump,hz,hb,hr,hl]
theorem Y2 {h:Hp} {o off len:Nat} {xs ys:List (List AV)} {x:AV} (hc:JL h (.own o off len)=some (k,xs)) (hy:JL h x=some (k,ys)) (hne:ys≠[]) (hr:room (xs.length+ys.length) b) :
  F5 P true h t t (.own o off len) x=some (.own h.length 0 (xs.length+ys.length),h.set o .dead ++ [.live k (xs ++ ys)]):=by
 have hl : ¬ ys.length=0:=by simpa using hne
 simp [F5,hu,hs,QC,hy,bump,hz,hb,hr,hl,hc]
theorem AJ6 {h:Hp} {xs ys:List (List AV)} {x:AV} (hy:JL h x=some (k,ys)) (hne:ys≠[]) (hr:room (xs.length+ys.length) b) :
  F5 P false h t t (.sl .full k xs) x=some (.sl .any k (xs ++ ys),h):=by
 have hl : ¬ ys.length=0:=by simpa using hne
 simp [F5,hu,hs,QC,hy,bump,hz,hb,hr,hl]
omit hz hb in
theorem AH6 {h:Hp} {own:Bool} {m m':SM} {k':Nat} {xs:List (List AV)} (hm:m = .nil∨m = .full):F5 P own h t t (.sl m k xs) (.sl m' k' [])=some (.sl m k xs,h):=by
 rcases hm with rfl | rfl <;> simp [F5,hu,hs,QC,JL,bump]
end
theorem J7 (h:Hp) (m:SM) (k:Nat) (xs:List (List AV)):JL h (.sl m k xs)=some (k,xs):=rfl
theorem OO {h:Hp} {o k off len:Nat} {xs:List (List AV)} (hb:h[o]? = some (.live k xs)) (hl:off+len≤xs.length):JL h (.own o off len)=some (k,(xs.drop off).take len):=by simp [JL,hb,hl]
/-- a field lies there -/
def KI (P:Program) (t:TypeId) (f off:Nat):Bool:=match P.underlying t with
 | some (.struct fields)=>match fields[f]? with
   | some fl=>fl.offset == off && (match szO P fl.type with
     | some n=>Nat.ble 1 n
     | none=>false)
   | none=>false
 | _=>false
theorem IX {P:Program} {t:TypeId} {f off:Nat} (h:KI P t f off=true) :
  (∀ b i j,CY P t (.ptr b i j) f=some (.ptr b i (j+off)))∧(∀ k xs i j,CY P t (.fptr k xs i j) f=some (.fptr k xs i (j+off))):=by
 unfold KI at h
 split at h
 case h_2=>cases h
 rename_i fields hu
 split at h
 case h_2=>cases h
 rename_i fl hf
 simp only [Bool.and_eq_true,beq_iff_eq] at h
 obtain ⟨h1,h2⟩:=h
 split at h2
 case h_2=>cases h2
 rename_i n hs
 have h3:1≤n:=Nat.le_of_ble_eq_true h2
 obtain ⟨m,rfl⟩ : ∃ m,n=m+1:=⟨n - 1,by omega⟩
 exact AEN hu hf hs off h1
end Go.Proofs.YtocilianjfhifaaGreatDoor.Sm
/- One value under two readings: a nil slice of whatever element, and what holds such; no condition. -/
namespace Go.Proofs.YtocilianjfhifaaGreatDoor.Sm
open Go

def Cv (a b:AV):Prop := ∀ (M:Nat→Option Obj) (cv:Value),RepF M a cv→RepF M b cv
def CvR (a b:AV):Prop := ∀ (g:Gh) (cv:Value),Rep g a cv→Rep g b cv
theorem Cv.refl (a:AV):Cv a a:=fun _ _ h=>h
theorem CvR.refl (a:AV):CvR a a:=fun _ _ h=>h
theorem Cv.nil (k k':Nat):Cv (.sl .nil k []) (.sl .nil k' []):=by
 intro M cv h
 cases h with
 | nil=>exact .nil k'
 | empty m k0 a cap h1=>exact absurd rfl h1
 | sl _ _ _ _ _ _ _ _ _ _ h=>exact absurd rfl h
theorem Cv.empty (m:SM) (k k':Nat):Cv (.sl m k []) (.sl m k' []):=by
 intro M cv h
 cases h with
 | nil=>exact .nil k'
 | empty m k0 a cap h1 h2=>exact .empty m k' a cap h1 h2
 | sl _ _ _ _ _ _ _ _ _ _ h=>exact absurd rfl h
theorem Cv.any {m:SM} (hm:m≠.nil) (k:Nat) (xs:List (List AV)):Cv (.sl m k xs) (.sl .any k xs):=by
 intro M cv h
 cases h with
 | nil=>exact absurd rfl hm
 | empty m k0 a cap h1 h2=>exact .empty .any k a cap (by simp) (by simp)
 | sl m k xs cb co c e fz cap cv h1 h2 h3 h4 h5 h6 h7 h8=>exact .sl .any k xs cb co c e fz cap cv h1 (by simp) h3 h4 h5 h6 h7 (by simp)
/-- rows whose cells turn -/
def CvRow (r r':List AV):Prop:=r'.length=r.length∧∀ (j:Nat) (v v':AV),r[j]? = some v→r'[j]? = some v'→v'.leaf=true∧Cv v v'
theorem Cv.rows {m:SM} {k:Nat} {xs ys:List (List AV)} (hl:ys.length=xs.length) (h : ∀ (i:Nat) (r r':List AV),xs[i]? = some r→ys[i]? = some r'→CvRow r r'):Cv (.sl m k xs) (.sl m k ys):=by
 have row : ∀ (i:Nat) (r':List AV),ys[i]? = some r'→∃ r,xs[i]? = some r∧CvRow r r':=fun i r' hr=>by
  have hi:i < xs.length:=by rw [← hl]; exact CE hr
  exact ⟨xs[i],by simp [hi],h i _ _ (by simp [hi]) hr⟩
 intro M cv hr
 cases hr with
 | nil=>have:ys = []:=List.length_eq_zero_iff.1 hl; subst this; exact .nil k
 | empty m k0 a cap h1 h2=>have:ys = []:=List.length_eq_zero_iff.1 hl; subst this; exact .empty m k a cap h1 h2
 | sl m k xs cb co c e fz cap cv h1 h2 h3 h4 h5 h6 h7 h8 =>
   rw [← hl]
   refine .sl m k ys cb co c e fz cap cv (fun e=>h1 (by subst e; exact List.length_eq_zero_iff.1 hl.symm)) h2 h3 ?_ ?_ ?_ (by omega) (fun e=>by rw [hl]; exact h8 e)
   ·intro i r' hr'
    obtain ⟨r,q1,q2,q3⟩:=row i r' hr'
    refine ⟨by rw [q2]; exact (h4 i r q1).1,fun j v' hv' => ?_⟩
    have hj:j < r.length:=by rw [← q2]; exact CE hv'
    exact (q3 j r[j] v' (by simp [hj]) hv').1
   ·intro i j hi hj; exact h5 i j (by omega) hj
   ·intro i j r' v' hr' hv'
    obtain ⟨r,q1,q2,q3⟩:=row i r' hr'
    have hj:j < r.length:=by rw [← q2]; exact CE hv'
    exact (q3 j r[j] v' (by simp [hj]) hv').2 _ _ (h6 i j r r[j] q1 (by simp [hj]))
theorem Cv.map {α:Type} {m:SM} {k:Nat} {xs:List α} {f f':α→List AV} (h : ∀ x∈xs,CvRow (f x) (f' x)):Cv (.sl m k (xs.map f)) (.sl m k (xs.map f')):=by
 refine Cv.rows (by simp) fun i r r' h1 h2 => ?_
 rw [List.getElem?_map,Option.map_eq_some_iff] at h1 h2
 obtain ⟨x,hx,rfl⟩:=h1
 obtain ⟨x',hx',rfl⟩:=h2
 rw [hx] at hx'; cases hx'
 exact h x (List.mem_of_getElem? hx)
theorem CvRow.refl {r:List AV} (h : ∀ v∈r,v.leaf=true):CvRow r r:=⟨rfl,fun j v v' h1 h2=>by rw [h1] at h2; cases h2; exact ⟨h v (List.mem_of_getElem? h1),Cv.refl v⟩⟩
theorem CvRow.nil:CvRow [] []:=⟨rfl,fun j v v' h=>by simp at h⟩
theorem CvRow.cons {v v':AV} {r r':List AV} (hl:v'.leaf=true) (h:Cv v v') (hr:CvRow r r'):CvRow (v :: r) (v' :: r'):=by
 refine ⟨by simp [hr.1],fun j a a' h1 h2 => ?_⟩
 cases j with
 | zero=>simp at h1 h2; subst h1; subst h2; exact ⟨hl,h⟩
 | succ j=>simp at h1 h2; exact hr.2 j a a' h1 h2
theorem CvR.sl {m m':SM} {k k':Nat} {xs ys:List (List AV)} (h:Cv (.sl m k xs) (.sl m' k' ys)):CvR (.sl m k xs) (.sl m' k' ys):=fun _ _ hr => .fro (h _ _ hr.sl_inv)
/-- rows of values: structs, tuples, arguments -/
def CvRL (r r':List AV):Prop:=r'.length=r.length∧∀ (j:Nat) (v v':AV),r[j]? = some v→r'[j]? = some v'→CvR v v'
theorem CvRL.nil:CvRL [] []:=⟨rfl,fun j v v' h=>by simp at h⟩
theorem CvRL.cons {v v':AV} {r r':List AV} (h:CvR v v') (hr:CvRL r r'):CvRL (v :: r) (v' :: r'):=by
 refine ⟨by simp [hr.1],fun j a a' h1 h2 => ?_⟩
 cases j with
 | zero=>simp at h1 h2; subst h1; subst h2; exact h
 | succ j=>simp at h1 h2; exact hr.2 j a a' h1 h2
theorem CvRL.refl (r:List AV):CvRL r r:=⟨rfl,fun j v v' h1 h2=>by rw [h1] at h2; cases h2; exact CvR.refl v⟩
theorem CvR.agg {r r':List AV} (h:CvRL r r'):CvR (.agg r) (.agg r'):=by
 intro g cv hr
 obtain ⟨vs,rfl,h1,h2⟩:=hr.agg_inv
 refine .agg r' vs (by rw [h1,h.1]) fun i v' c a b => ?_
 have hi:i < r.length:=by rw [← h.1]; exact CE a
 exact h.2 i r[i] v' (by simp [hi]) a g c (h2 i r[i] c (by simp [hi]) b)
theorem CvR.tup {r r':List AV} (h:CvRL r r'):CvR (.tup r) (.tup r'):=by
 intro g cv hr
 obtain ⟨vs,rfl,h1,h2⟩:=hr.tup_inv
 refine .tup r' vs (by rw [h1,h.1]) fun i v' c a b => ?_
 have hi:i < r.length:=by rw [← h.1]; exact CE a
 exact h.2 i r[i] v' (by simp [hi]) a g c (h2 i r[i] c (by simp [hi]) b)
/-- a call's arguments, under another reading -/
theorem ACalls.args {E:Env} {f:FuncId} {args args':List AV} {h:Hp} {R:AV→Hp→Prop} (hc:ACalls E f args' h R) (ha:CvRL args args'):ACalls E f args h R:=by
 refine ⟨hc.1,fun g w cargs S hr=>hc.2 g w cargs S ⟨by rw [hr.1,ha.1],fun i v' cv h1 h2 => ?_⟩⟩
 have hi:i < args.length:=by rw [← ha.1]; exact CE h1
 exact ha.2 i args[i] v' (by simp [hi]) h1 g cv (hr.2 i args[i] cv (by simp [hi]) h2)
theorem PCall.args {E:Env} {f:FuncId} {args args':List AV} {h:Hp} {r:AV} (hc:PCall E f args' h r) (ha:CvRL args args'):PCall E f args h r:=ACalls.args hc ha
theorem PCall.res {E:Env} {f:FuncId} {args:List AV} {h:Hp} {r r':AV} (hc:PCall E f args h r) (hr:CvR r r'):PCall E f args h r' :=
 ACalls.conv hc fun v h' ⟨e1,e2⟩=>by subst e1; exact ⟨r',⟨rfl,e2⟩,hr⟩
theorem DY (l:List Nat) (n:Nat):(hint l []).fz n = []:=rfl
theorem EE (l:List Nat) (a:Nat) (s:List Nat) (n:Nat):(hint l [(a,s)]).fz n=if (a == n)=true then s else []:=by
 unfold hint
 simp only [List.find?]
 cases a == n <;> rfl
theorem QK {H:Hp} {i b off len k:Nat} {xs:List (List AV)} (hb:H[b]? = some (.live k xs)) (hl:off+len≤xs.length) (hf:LG ((xs.drop off).take len)=true) :
  ∀ F:Fr,F i = .own b off len→NG (F,H) i=(upd F i (.sl .any k ((xs.drop off).take len)),H.set b .dead):=by
 intro F hF
 unfold NG
 simp only [hF,hb]
 rw [if_pos ⟨hl,hf⟩]
theorem ALR {H:Hp} {i k:Nat} {m:SM} {xs:List (List AV)} : ∀ F:Fr,F i = .sl m k xs→NG (F,H) i=(F,H):=by
 intro F hF
 unfold NG
 simp only [hF]
end Go.Proofs.YtocilianjfhifaaGreatDoor.Sm
/- More equations: the nil check; a kit's contract brought over; indexing a string; what is the same for every seat; no condition. -/
namespace Go.Proofs.YtocilianjfhifaaGreatDoor.Sm
open Go

def AVY (h:Hp) (K:AV→Hp→Prop) (v:AV):Prop:=match v with
 | .ptr b i j=>K (.ptr b i j) h
 | .fptr k xs i j=>K (.fptr k xs i j) h
 | _=>False
theorem H9 {E:Env} {F:Fr} {h:Hp} {c:Fr→AV→Hp→Prop} {own:Bool} (x:Operand):X1 E own (.nilCheck x) (F,h) c=AVY h (c F) (ev E F x):=by
 simp only [X1,MZ,aop,AVY]
 generalize ev E F x=v
 cases v <;> rfl
theorem M3 {E:Env} {F:Fr} {h:Hp} {c:Fr→AV→Hp→Prop} {own:Bool} (x:Operand):Y1 E own (.nilCheck x) (F,h) c=X1 E own (.nilCheck x) (F,h) c:=rfl
theorem JH (h:Hp) (K:AV→Hp→Prop) (b i j:Nat):AVY h K (.ptr b i j)=K (.ptr b i j) h:=rfl
/-- what the kit proved of a call that only reads and draws -/
theorem PCall.of_reads {E:Env} {f:FuncId} {args:List AV} {h:Hp} {r:AV} (hok:XE E.P f)
  (hc : ∀ (g:Gh) (w:World) (cargs:Array Value),SimH E g h w→RepL g args cargs→∃ cv,Rep g r cv∧Calls E.P f cargs w fun e w'=>e = .returned cv∧∃ n,w'=w.drewN n):PCall E f args h r:=by
 refine ⟨hok,fun g w cargs S ha => ?_⟩
 obtain ⟨cv,hr,hcall⟩:=hc g w cargs S ha
 refine hcall.mono ?_
 rintro e w' ⟨rfl,n,rfl⟩
 exact ⟨r,cv,g,h,rfl,⟨rfl,rfl⟩,Gh.le.refl g,S.world rfl rfl rfl fun k _=>rfl,hr⟩
end Go.Proofs.YtocilianjfhifaaGreatDoor.Sm
