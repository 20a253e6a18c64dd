/- Regions whose order is drawn: the order of the text serves every order, where operations that may change places do not touch one another; no condition. -/
import Derived.Test.YtpdohkcjhphibaaDoorSm10
set_option linter.unusedVariables false
namespace Go.Proofs.YtpdohkcjhphibaaDoor.Sm
open Go

/-- how an operation touches memory: 0 not at all, 1 it reads, 2 it writes or makes memory -/
def hkB (own : Bool) : Builtin → Nat
  | .len => 0
  | .max => 0
  | .min => 0
  | .append => if own then 2 else 1
  | _ => 2
def hk (own : Bool) : Op → Nat
  | .move _ => 0
  | .assign _ => 0
  | .pick _ _ _ => 0
  | .build _ _ => 0
  | .binOp _ _ _ _ _ => 0
  | .unOp _ _ _ => 0
  | .convert _ _ _ => 0
  | .makeFunc _ _ _ => 0
  | .fieldAddr _ _ _ => 0
  | .field _ _ _ => 0
  | .index _ _ _ => 0
  | .extract _ _ => 0
  | .nilCheck _ => 0
  | .load _ _ => 1
  | .slice _ _ _ _ _ => 1
  | .indexAddr _ _ _ => 1
  | .buildSlice _ _ _ => if own then 2 else 0
  | .makeSlice _ _ _ => if own then 2 else 0
  | .call c => match c.callee with
    | .builtin b => hkB own b
    | _ => 1
  | _ => 2

def DEx (E : Env) (own : Bool) (op : Op) (F : Fr) (h : Hp) (v : AV) (h' : Hp) : Prop :=
  match op with
  | .call { callee := .value f, args := as, .. } => match ev E F f with
    | .fn (.func fid) first caps => h' = h ∧ PCall E fid (first ++ (as.toList.map (ev E F) ++ caps)) h v
    | _ => False
  | op => aop E.P own h (ev E F) op = some (v, h')

theorem DEx.exec {E : Env} {own : Bool} {op : Op} {F : Fr} {h h' : Hp} {v : AV} {K : AV → Hp → Prop} (hd : DEx E own op F h v h') (hk : K v h') : aexec E own op F h K := by
  unfold DEx at hd
  unfold aexec
  split at hd
  · split at hd
    · rename_i hf
      simp only [hf]
      obtain ⟨rfl, hc⟩ := hd
      exact hc.use hk
    · exact hd.elim
  · split
    · simp_all
    · rw [hd]; exact hk

theorem evp_congr {ρ ρ' : Operand → AV} : ∀ {l : List (Nat × Operand)}, (∀ x ∈ l.map (·.2), ρ x = ρ' x) → evp ρ l = evp ρ' l
  | [], _ => rfl
  | (i, x) :: r, h => by
    simp only [evp]
    rw [h x (by simp), evp_congr (fun y hy => h y (by simp at hy ⊢; exact .inr hy))]

theorem aop_congr {P : Program} {own : Bool} {h : Hp} {ρ ρ' : Operand → AV} {op : Op} (he : ∀ x ∈ op.operands, ρ x = ρ' x) : aop P own h ρ op = aop P own h ρ' op := by
  cases op <;> simp only [Op.operands] at he <;> simp only [aop]
  case build t ps => rw [evp_congr (ρ := ρ) (ρ' := ρ') fun x hx => he x (by simpa using hx)]
  case buildSlice t n ps => rw [evp_congr (ρ := ρ) (ρ' := ρ') fun x hx => he x (by simpa using hx)]
  case makeFunc fn first captured =>
    rw [List.map_congr_left (l := first.toList) fun x hx => he x (by simp at hx; simp [hx]), List.map_congr_left (l := captured.toList) fun x hx => he x (by simp at hx; simp [hx])]
  case call c =>
    have h1 : c.args.toList.map ρ = c.args.toList.map ρ' := List.map_congr_left fun x hx => he x (by simp at hx; simp [Call.operands, hx])
    rw [h1]
  case slice t x lo hi mx => cases lo <;> cases hi <;> cases mx <;> simp_all
  all_goals (first | rfl | (simp_all; done))

theorem DEx_congr {E : Env} {own : Bool} {op : Op} {F F' : Fr} {h h' : Hp} {v : AV} (he : ∀ x ∈ op.operands, ev E F x = ev E F' x) (hd : DEx E own op F h v h') : DEx E own op F' h v h' := by
  unfold DEx at *
  split at hd
  · rename_i f as ats
    have h1 : ev E F f = ev E F' f := he f (by simp [Op.operands, Call.operands])
    have h2 : as.toList.map (ev E F) = as.toList.map (ev E F') := List.map_congr_left fun x hx => he x (by simp at hx; simp [Op.operands, Call.operands, hx])
    rw [h1, h2] at hd
    exact hd
  · rw [aop_congr he] at hd
    exact hd

theorem build_ofO {x : Option AV} {h h2 h' : Hp} {v : AV} (e : ofO h x = some (v, h')) : h' = h ∧ ofO h2 x = some (v, h2) := by
  obtain ⟨h1, h3⟩ := ofO_some e
  rw [h1]; exact ⟨h3, rfl⟩

theorem aop_hk0 {P : Program} {own : Bool} {h h' : Hp} {ρ : Operand → AV} {op : Op} {v : AV} (h0 : hk own op = 0) (ha : aop P own h ρ op = some (v, h')) : h' = h ∧ ∀ h2, aop P own h2 ρ op = some (v, h2) := by
  cases op <;> simp only [hk] at h0 <;> first | (cases h0; done) | skip
  case move => simp only [aop] at *; cases ha; exact ⟨rfl, fun _ => rfl⟩
  case assign => simp only [aop] at *; cases ha; exact ⟨rfl, fun _ => rfl⟩
  case pick c a b =>
    simp only [aop] at *
    split at ha
    · rename_i e; cases ha; exact ⟨rfl, fun _ => rfl⟩
    · rename_i e; cases ha; exact ⟨rfl, fun _ => rfl⟩
    · cases ha
  case nilCheck x =>
    simp only [aop] at *
    split at ha
    · rename_i e; cases ha; exact ⟨rfl, fun _ => rfl⟩
    · rename_i e; cases ha; exact ⟨rfl, fun _ => rfl⟩
    · cases ha
  case makeFunc => simp only [aop] at *; cases ha; exact ⟨rfl, fun _ => rfl⟩
  case extract t i =>
    simp only [aop] at *
    split at ha
    · exact ⟨(build_ofO (h2 := h) ha).1, fun h2 => (build_ofO ha).2⟩
    · cases ha
  case buildSlice t n ps =>
    split at h0
    · cases h0
    · rename_i ho
      have ho' : own = false := by simpa using ho
      subst ho'
      simp only [aop, aBuildSlice] at *
      split at ha
      case h_2 => cases ha
      split at ha
      case h_2 => cases ha
      split at ha
      case h_2 => cases ha
      split at ha
      case h_2 => cases ha
      split at ha
      case isFalse => cases ha
      try simp only [Bool.false_eq_true, if_false] at ha
      split at ha
      case isFalse => cases ha
      cases ha
      refine ⟨rfl, fun h2 => ?_⟩
      simp_all
      assumption
  case makeSlice t l c =>
    split at h0
    · cases h0
    · rename_i ho
      have ho' : own = false := by simpa using ho
      subst ho'
      simp only [aop, aMakeSlice] at *
      split at ha
      case h_2 => cases ha
      split at ha
      case h_2 => cases ha
      split at ha
      case h_2 => cases ha
      split at ha
      case h_2 => cases ha
      split at ha
      case isFalse => cases ha
      try simp only [Bool.false_eq_true, if_false] at ha
      split at ha
      case isFalse => cases ha
      cases ha
      refine ⟨rfl, fun h2 => ?_⟩
      simp_all
  case call c =>
    split at h0
    case h_2 => cases h0
    rename_i b hb
    simp only [aop, hb] at *
    cases b <;> simp only [hkB] at h0 <;> first | (cases h0; done) | skip
    · split at h0 <;> cases h0
    · simp only [aBuiltin] at *
      split at ha
      · exact ⟨(build_ofO (h2 := h) ha).1, fun h2 => (build_ofO ha).2⟩
      · cases ha
    · simp only [aBuiltin] at *
      split at ha
      · exact ⟨(build_ofO (h2 := h) ha).1, fun h2 => (build_ofO ha).2⟩
      · cases ha
    · simp only [aBuiltin] at *
      split at ha
      · exact ⟨(build_ofO (h2 := h) ha).1, fun h2 => (build_ofO ha).2⟩
      · cases ha
  all_goals
    simp only [aop] at *
    exact ⟨(build_ofO (h2 := h) ha).1, fun h2 => (build_ofO ha).2⟩

theorem aop_hk1 {P : Program} {own : Bool} {h h' : Hp} {ρ : Operand → AV} {op : Op} {v : AV} (h0 : hk own op = 1) (ha : aop P own h ρ op = some (v, h')) : h' = h := by
  cases op <;> simp only [hk] at h0 <;> first | (cases h0; done) | skip
  case load => simp only [aop] at ha; exact (ofO_some ha).2
  case slice => simp only [aop] at ha; exact (ofO_some ha).2
  case indexAddr => simp only [aop] at ha; exact (ofO_some ha).2
  case buildSlice => split at h0 <;> cases h0
  case makeSlice => split at h0 <;> cases h0
  case call c =>
    split at h0
    · rename_i b hb
      simp only [aop, hb] at ha
      cases b <;> simp only [hkB] at h0 <;> first | (cases h0; done) | skip
      split at h0
      · cases h0
      · rename_i ho
        have ho' : own = false := by simpa using ho
        subst ho'
        simp only [aBuiltin] at ha
        split at ha
        case h_2 => cases ha
        split at ha
        case isFalse => cases ha
        unfold aAppend at ha
        have bumpF : ∀ (e : TypeId) (m : SM) (k : Nat) (xs ys : List (List AV)) (kill : Option Nat) (s : AV), bump P false h e m k xs ys kill s = some (v, h') → h' = h := by
          intro e m k xs ys kill s hb
          unfold bump at hb
          split at hb
          · cases hb; rfl
          · split at hb
            · split at hb
              · split at hb
                · simp at hb
                · simp at hb; exact hb.2.symm
              · cases hb
            · cases hb
        split at ha
        case h_2 => cases ha
        split at ha
        case h_2 => cases ha
        split at ha
        case h_2 => cases ha
        split at ha
        · exact bumpF _ _ _ _ _ _ _ ha
        · split at ha
          · exact bumpF _ _ _ _ _ _ _ ha
          · cases ha
        · split at ha
          · split at ha
            · exact bumpF _ _ _ _ _ _ _ ha
            · cases ha
          · cases ha
        · cases ha
    · rename_i hb
      simp only [aop] at ha
      first
        | (cases ha; done)
        | (split at ha
           · rename_i b' hb'; exact absurd hb' (hb b')
           · cases ha)

theorem DEx_hk0 {E : Env} {own : Bool} {op : Op} {F : Fr} {h h' : Hp} {v : AV} (h0 : hk own op = 0) (hd : DEx E own op F h v h') : h' = h ∧ ∀ h2, DEx E own op F h2 v h2 := by
  unfold DEx at *
  split at hd
  · simp [hk] at h0
  · exact aop_hk0 h0 hd
theorem DEx_hk1 {E : Env} {own : Bool} {op : Op} {F : Fr} {h h' : Hp} {v : AV} (h0 : hk own op = 1) (hd : DEx E own op F h v h') : h' = h := by
  unfold DEx at *
  split at hd
  · split at hd
    · exact hd.1
    · exact hd.elim
  · exact aop_hk1 h0 hd

def AStep (E : Env) (md : Nat → Bool) (ds : List (Option Tmp)) (o : Oper) (s s' : Fr × Hp) : Prop :=
  (wantA ds s.1 o.guard = some true ∧ ∃ v h', DEx E (md (o.dst.getD 0)) o.op s.1 s.2 v h' ∧ s' = (aput s.1 o.dst v, h')) ∨
  (wantA ds s.1 o.guard = some false ∧ s' = (aput s.1 o.dst undefA, s.2))

def compat (md : Nat → Bool) (x y : Oper) : Bool :=
  let a := hk (md (x.dst.getD 0)) x.op
  let b := hk (md (y.dst.getD 0)) y.op
  a == 0 || b == 0 || (a == 1 && b == 1)

theorem aput_comm (F : Fr) {x y : Option Tmp} (v u : AV) (h : ∀ d, x = some d → y ≠ some d) : aput (aput F x v) y u = aput (aput F y u) x v := by
  cases x with
  | none => rfl
  | some d =>
    cases y with
    | none => rfl
    | some e =>
      have hne : e ≠ d := fun he => h d rfl (he ▸ rfl)
      funext i
      simp only [aput, upd]
      by_cases h1 : i = e
      · subst h1; simp [hne]
      · simp [h1]
theorem ev_put {E : Env} {F : Fr} {dst : Option Tmp} {v : AV} {x : Operand} (h : ∀ d, dst = some d → x ≠ .tmp d) : ev E (aput F dst v) x = ev E F x := by
  cases dst with
  | none => rfl
  | some d =>
    cases x with
    | tmp t =>
      have : t ≠ d := fun e => h d rfl (e ▸ rfl)
      simp [ev, aput, upd, this]
    | _ => rfl

theorem looks_op {ops : Array Oper} {o : Oper} {d : Tmp} (h : d ∉ o.looksAt ops) : ∀ x ∈ o.op.operands, x ≠ .tmp d := by
  intro x hx he
  subst he
  refine h (List.mem_append.2 (.inl ?_))
  rw [List.mem_filterMap]
  exact ⟨.tmp d, by simpa using hx, rfl⟩
theorem want_put {ops : Array Oper} {o : Oper} {F : Fr} {dst : Option Tmp} {v : AV} (h : ∀ d, dst = some d → d ∉ o.looksAt ops) :
    wantA (ops.toList.map (·.dst)) (aput F dst v) o.guard = wantA (ops.toList.map (·.dst)) F o.guard := by
  unfold wantA
  split
  · rfl
  · rename_i j want hg
    rw [gdst_eq]
    have hops : (ops.toList[j]?).bind (·.dst) = (ops[j]?).bind (·.dst) := by simp
    rw [hops]
    cases hd : (ops[j]?).bind (·.dst) with
    | none => rfl
    | some d =>
      simp only
      have : aput F dst v d = F d := by
        cases dst with
        | none => rfl
        | some e =>
          have hne : d ≠ e := by
            intro he
            subst he
            refine h d rfl (List.mem_append.2 (.inr ?_))
            rw [hg]
            simp [hd]
          simp [aput, upd, hne]
      rw [this]

theorem AStep_swap {E : Env} {md : Nat → Bool} {ops : Array Oper} {x y : Oper} {s s1 s2 : Fr × Hp} (hap : x.apart ops y = true) (hco : compat md x y = true)
    (hx : AStep E md (ops.toList.map (·.dst)) x s s1) (hy : AStep E md (ops.toList.map (·.dst)) y s1 s2) : ∃ t, AStep E md (ops.toList.map (·.dst)) y s t ∧ AStep E md (ops.toList.map (·.dst)) x t s2 := by
  obtain ⟨p1, p2, p3⟩ := Oper.apart_spec hap
  obtain ⟨F, h⟩ := s
  have exY : ∀ {v u : AV} {h1 h2 : Hp}, DEx E (md (y.dst.getD 0)) y.op (aput F x.dst v) h1 u h2 → DEx E (md (y.dst.getD 0)) y.op F h1 u h2 := fun hd =>
    DEx_congr (fun z hz => ev_put fun d hdd he => looks_op (p1 d hdd) z hz he) hd
  have exX : ∀ {v u : AV} {h1 h2 : Hp}, DEx E (md (x.dst.getD 0)) x.op F h1 u h2 → DEx E (md (x.dst.getD 0)) x.op (aput F y.dst v) h1 u h2 := fun hd =>
    DEx_congr (fun z hz => (ev_put fun d hdd he => looks_op (p3 d hdd) z hz he).symm) hd
  have wY : ∀ v, wantA (ops.toList.map (·.dst)) (aput F x.dst v) y.guard = wantA (ops.toList.map (·.dst)) F y.guard := fun v => want_put p1
  have wX : ∀ v, wantA (ops.toList.map (·.dst)) (aput F y.dst v) x.guard = wantA (ops.toList.map (·.dst)) F x.guard := fun v => want_put p3
  rcases hx with ⟨a1, v, h1, a2, rfl⟩ | ⟨a1, rfl⟩ <;> rcases hy with ⟨b1, u, h2, b2, rfl⟩ | ⟨b1, rfl⟩
  · simp only at *
    rw [wY] at b1
    have b2' := exY b2
    simp only [compat, Bool.or_eq_true, Bool.and_eq_true, beq_iff_eq] at hco
    rcases hco with (hc | hc) | ⟨hc1, hc2⟩
    · obtain ⟨rfl, hz⟩ := DEx_hk0 hc a2
      exact ⟨(aput F y.dst u, h2), .inl ⟨b1, u, h2, b2', rfl⟩, .inl ⟨by rw [wX]; exact a1, v, h2, exX (hz h2), by rw [aput_comm F v u p2]⟩⟩
    · obtain ⟨rfl, hz⟩ := DEx_hk0 hc b2'
      exact ⟨(aput F y.dst u, h), .inl ⟨b1, u, h, hz h, rfl⟩, .inl ⟨by rw [wX]; exact a1, v, _, exX a2, by rw [aput_comm F v u p2]⟩⟩
    · have e1 := DEx_hk1 hc1 a2
      subst e1
      have e2 := DEx_hk1 hc2 b2'
      subst e2
      exact ⟨(aput F y.dst u, _), .inl ⟨b1, u, _, b2', rfl⟩, .inl ⟨by rw [wX]; exact a1, v, _, exX a2, by rw [aput_comm F v u p2]⟩⟩
  · simp only at *
    rw [wY] at b1
    exact ⟨(aput F y.dst undefA, h), .inr ⟨b1, rfl⟩, .inl ⟨by rw [wX]; exact a1, v, h1, exX a2, by rw [aput_comm F v undefA p2]⟩⟩
  · simp only at *
    rw [wY] at b1
    exact ⟨(aput F y.dst u, h2), .inl ⟨b1, u, h2, exY b2, rfl⟩, .inr ⟨by rw [wX]; exact a1, by rw [aput_comm F undefA u p2]⟩⟩
  · simp only at *
    rw [wY] at b1
    exact ⟨(aput F y.dst undefA, h), .inr ⟨b1, rfl⟩, .inr ⟨by rw [wX]; exact a1, by rw [aput_comm F undefA undefA p2]⟩⟩

/- whatever order -/
def anyA (E : Env) (md : Nat → Bool) (ops : Array Oper) (Q : Fr × Hp → Prop) : Nat → Array Bool → Fr × Hp → Prop
  | 0, listed, s => Region.ready .any ops listed = [] ∧ Q s
  | fuel + 1, listed, s => (Region.ready .any ops listed = [] → Q s) ∧
    ∀ i ∈ Region.ready .any ops listed, ∃ o s', ops[i]? = some o ∧ AStep E md (ops.toList.map (·.dst)) o s s' ∧ anyA E md ops Q fuel (listed.setIfInBounds i true) s'

theorem anyA_first {E : Env} {md : Nat → Bool} {ops : Array Oper} {Q : Fr × Hp → Prop} {i : Nat} {oi : Oper} (hi : ops[i]? = some oi) (r : Nat → Bool)
    (hsup : ∀ j oj, ops[j]? = some oj → r j = true → j ≠ i → ∃ e ∈ oj.after, Region.binds .any e = true ∧ r e.on = true) : ∀ (fuel : Nat) (listed : Array Bool) (s s1 : Fr × Hp),
    (∀ j, r j = true → listed.getD j true = false) →
    (∀ j oj, ops[j]? = some oj → j ≠ i → listed.getD j true = false → r j = false → oi.apart ops oj = true ∧ compat md oi oj = true) →
    i ∈ Region.ready .any ops listed → AStep E md (ops.toList.map (·.dst)) oi s s1 → anyA E md ops Q fuel (listed.setIfInBounds i true) s1 → anyA E md ops Q (fuel + 1) listed s := by
  intro fuel
  induction fuel with
  | zero =>
    intro listed s s1 _ _ hr hy H
    refine ⟨fun h => (by rw [h] at hr; cases hr), fun j hj => ?_⟩
    by_cases hji : j = i
    · subst hji; exact ⟨oi, s1, hi, hy, H⟩
    · have := ready_mono hj hji
      rw [H.1] at this
      cases this
  | succ fuel ih =>
    intro listed s s1 hun hfree hr hy H
    refine ⟨fun h => (by rw [h] at hr; cases hr), fun j hj => ?_⟩
    by_cases hji : j = i
    · subst hji; exact ⟨oi, s1, hi, hy, H⟩
    · obtain ⟨oj, s2, hoj, hst, hrest⟩ := H.2 j (ready_mono hj hji)
      obtain ⟨hjun, oj', hoj', hall⟩ := mem_ready.1 hj
      rw [hoj] at hoj'; cases hoj'
      have hrj : r j = false := by
        cases hc : r j with
        | false => rfl
        | true =>
          obtain ⟨e, he, hb, hre⟩ := hsup j oj hoj hc hji
          have h1 := hall e he hb
          have h0 := hun e.on hre
          rcases Nat.lt_or_ge e.on listed.size with h' | h'
          · simp [h'] at h0 h1; rw [h0] at h1; cases h1
          · simp [Array.getElem?_eq_none h'] at h1
      obtain ⟨q1, q2⟩ := hfree j oj hoj hji hjun hrj
      obtain ⟨t, t1, t2⟩ := AStep_swap q1 q2 hy hst
      have hun' : ∀ k, r k = true → (listed.setIfInBounds j true).getD k true = false := fun k hk => by
        by_cases hjk : j = k
        · subst hjk; rw [hrj] at hk; cases hk
        · rw [getD_set_ne true hjk]; exact hun k hk
      have hfree' : ∀ k ok, ops[k]? = some ok → k ≠ i → (listed.setIfInBounds j true).getD k true = false → r k = false → oi.apart ops ok = true ∧ compat md oi ok = true := fun k ok hk hki hun2 hno => by
        refine hfree k ok hk hki ?_ hno
        by_cases hjk : j = k
        · subst hjk; exact hjun
        · rw [getD_set_ne true hjk] at hun2; exact hun2
      refine ⟨oj, t, hoj, t1, ih (listed.setIfInBounds j true) t s2 hun' hfree' (ready_mono hr (Ne.symm hji)) t2 ?_⟩
      rw [Array.setIfInBounds_comm _ _ hji]
      exact hrest

/-- what waits for operation k -/
def depsA (ops : Array Oper) (k : Nat) : Array Bool :=
  (List.range ops.size).foldl (fun r j => match ops[j]? with
    | some oj => if oj.after.any fun e => Region.binds .any e && r.getD e.on false then r.setIfInBounds j true else r
    | none => r) ((Array.replicate ops.size false).setIfInBounds k true)
def freeA (md : Nat → Bool) (ops : Array Oper) (listed : Array Bool) (k : Nat) : Bool :=
  match ops[k]? with
  | none => false
  | some ok => let r := depsA ops k
    (List.range r.size).all (fun j => !(r.getD j false) || !(listed.getD j true)) &&
    (List.range ops.size).all fun j => match ops[j]? with
    | none => true
    | some oj => j == k || (if r.getD j false then oj.after.any fun e => Region.binds .any e && r.getD e.on false else listed.getD j true || (ok.apart ops oj && compat md ok oj))
def lexFromA (md : Nat → Bool) (ops : Array Oper) : Nat → Nat → Array Bool → Bool
  | 0, _, listed => (Region.ready .any ops listed).isEmpty
  | fuel + 1, k, listed => (Region.ready .any ops listed).contains k && freeA md ops listed k && lexFromA md ops fuel (k + 1) (listed.setIfInBounds k true)
def lexA (md : Nat → Bool) (ops : Array Oper) : Bool := lexFromA md ops ops.size 0 (Array.replicate ops.size false)

theorem freeA_spec {md : Nat → Bool} {ops : Array Oper} {listed : Array Bool} {k : Nat} {ok : Oper} (hk : ops[k]? = some ok) (h : freeA md ops listed k = true) :
    (∀ j oj, ops[j]? = some oj → (depsA ops k).getD j false = true → j ≠ k → ∃ e ∈ oj.after, Region.binds .any e = true ∧ (depsA ops k).getD e.on false = true) ∧
    (∀ j, (depsA ops k).getD j false = true → listed.getD j true = false) ∧
    (∀ j oj, ops[j]? = some oj → j ≠ k → listed.getD j true = false → (depsA ops k).getD j false = false → ok.apart ops oj = true ∧ compat md ok oj = true) := by
  unfold freeA at h
  simp only [hk, Bool.and_eq_true] at h
  obtain ⟨h1, h2⟩ := h
  rw [List.all_eq_true] at h1 h2
  refine ⟨fun j oj hj hr hne => ?_, fun j hr => ?_, fun j oj hj hne hun hr => ?_⟩
  · have hlt : j < ops.size := (Array.getElem?_eq_some_iff.1 hj).1
    have h3 := h2 j (by simpa using hlt)
    simp only [hj, hr, if_true, Bool.or_eq_true, beq_iff_eq] at h3
    rcases h3 with h3 | h3
    · exact absurd h3 hne
    · obtain ⟨e, he, hb⟩ := Array.any_eq_true'.1 h3
      simp only [Bool.and_eq_true] at hb
      exact ⟨e, he, hb.1, hb.2⟩
  · have hlt : j < (depsA ops k).size := by
      rcases Nat.lt_or_ge j (depsA ops k).size with h' | h'
      · exact h'
      · simp [Array.getElem?_eq_none h'] at hr
    have h3 := h1 j (by simpa using hlt)
    rw [hr] at h3
    simpa using h3
  · have hlt : j < ops.size := (Array.getElem?_eq_some_iff.1 hj).1
    have h3 := h2 j (by simpa using hlt)
    simp only [hj, hr, Bool.false_eq_true, if_false, hun, Bool.false_or, Bool.or_eq_true, beq_iff_eq, Bool.and_eq_true] at h3
    rcases h3 with h3 | h3
    · exact absurd h3 hne
    · exact h3

/-- the order of the text, calls pure -/
def D (E : Env) (md : Nat → Bool) (ds : List (Option Tmp)) : List Oper → Fr → Hp → (Fr → Hp → Prop) → Prop
  | [], F, h, K => K F h
  | o :: r, F, h, K => match wantA ds F o.guard with
    | some c => (c = true → ∃ v h', DEx E (md (o.dst.getD 0)) o.op F h v h' ∧ D E md ds r (aput F o.dst v) h' K) ∧ (c = false → D E md ds r (aput F o.dst undefA) h K)
    | none => False

theorem D_step {E : Env} {md : Nat → Bool} {ds : List (Option Tmp)} {o : Oper} {r : List Oper} {F : Fr} {h : Hp} {K : Fr → Hp → Prop} (hD : D E md ds (o :: r) F h K) :
    ∃ s', AStep E md ds o (F, h) s' ∧ D E md ds r s'.1 s'.2 K := by
  unfold D at hD
  split at hD
  · rename_i c hc
    cases c with
    | true =>
      obtain ⟨v, h', h1, h2⟩ := hD.1 rfl
      exact ⟨_, .inl ⟨hc, v, h', h1, rfl⟩, h2⟩
    | false => exact ⟨_, .inr ⟨hc, rfl⟩, hD.2 rfl⟩
  · exact hD.elim

theorem anyA_lex {E : Env} {md : Nat → Bool} {ops : Array Oper} {K : Fr → Hp → Prop} : ∀ (l : List Oper) (k : Nat) (listed : Array Bool) (F : Fr) (h : Hp), (∀ j : Nat, l[j]? = ops[k + j]?) →
    lexFromA md ops l.length k listed = true → D E md (ops.toList.map (·.dst)) l F h K → anyA E md ops (fun s => K s.1 s.2) l.length listed (F, h)
  | [], _, _, _, _, _, hB, h => ⟨by simpa [lexFromA] using hB, h⟩
  | o :: l, k, listed, F, h, hl, hB, hD => by
    have h0 : ops[k]? = some o := by simpa using (hl 0).symm
    simp only [List.length_cons, lexFromA, Bool.and_eq_true] at hB
    obtain ⟨⟨hr, hf⟩, hB'⟩ := hB
    obtain ⟨s', h1, h2⟩ := D_step hD
    obtain ⟨f1, f2, f3⟩ := freeA_spec h0 hf
    exact anyA_first h0 (fun j => (depsA ops k).getD j false) f1 l.length listed (F, h) s' f2 f3 (by simpa using hr) h1
      (anyA_lex l (k + 1) _ s'.1 s'.2 (fun j => by have := hl (j + 1); simpa [Nat.add_assoc, Nat.add_comm 1 j] using this) hB' h2)

theorem wpAny_of_A {E : Env} {md : Nat → Bool} {n : Nat} {ops : Array Oper} {Q : Exit → Act → World → Prop} {K : Fr × Hp → Prop} {g0 : Gh} (hd : ∀ (i : Nat) (o : Oper), ops[i]? = some o → ∀ d, o.dst = some d → d < n)
    (hk : ∀ F' h' g' a' w', K (F', h') → g0.le g' → Sim E n g' F' h' a' w' → Q .normal a' w') : ∀ (fuel : Nat) (listed : Array Bool) (F : Fr) (h : Hp) (g : Gh) (a : Act) (w : World),
    anyA E md ops K fuel listed (F, h) → g0.le g → Sim E n g F h a w → wpAny E.P .any ops Q fuel listed a w
  | 0, _, F, h, g, a, w, hA, hg, s => ⟨hA.1, hk F h g a w hA.2 hg s⟩
  | fuel + 1, listed, F, h, g, a, w, hA, hg, s => by
    refine ⟨fun h0 => hk F h g a w (hA.1 h0) hg s, fun i hi => ?_⟩
    obtain ⟨o, s', ho, hst, hrest⟩ := hA.2 i hi
    unfold wpOp
    simp only [ho]
    rcases hst with ⟨a1, v, h1, a2, rfl⟩ | ⟨a1, rfl⟩
    · rw [want_sound (o := o) s a1]
      simp only [if_true]
      refine .inl (exec_sound (K := fun v' h' => v' = v ∧ h' = h1) (a2.exec ⟨rfl, rfl⟩) s ?_)
      rintro v' h' ⟨rfl, rfl⟩ g' w' cv hle hH hr
      exact wpAny_of_A hd hk fuel _ _ _ _ _ _ hrest (hg.trans hle) (s.put (hd i o ho) hle hH hr)
    · rw [want_sound (o := o) s a1]
      simp only [Bool.false_eq_true, if_false]
      exact wpAny_of_A hd hk fuel _ _ _ _ _ _ hrest hg (s.put (hd i o ho) (Gh.le.refl g) s.simH (Rep.undef g))
end Go.Proofs.YtpdohkcjhphibaaDoor.Sm
