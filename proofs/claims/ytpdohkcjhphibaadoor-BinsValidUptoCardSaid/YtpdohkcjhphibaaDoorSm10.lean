/- Calls, lists of operations, code: the proposition to be shown of a piece of code on abstract states, and that it suffices; no condition. -/
import Derived.Test.YtpdohkcjhphibaaDoorSm9
set_option linter.unusedVariables false
namespace Go.Proofs.YtpdohkcjhphibaaDoor.Sm
open Go

abbrev Fr := Nat → AV
abbrev Hp := List ABlk

def CallOk (P : Program) (f : FuncId) : Prop := ∃ fn, P.funcs[f]? = some fn ∧ fn.body.isSome = true ∧ (fn.name == "runtime.NumGoroutine") = false

def RepL (g : Gh) (args : List AV) (cargs : Array Value) : Prop := cargs.size = args.length ∧ ∀ (i : Nat) (v : AV) (cv : Value), args[i]? = some v → cargs[i]? = some cv → Rep g v cv

/-- the contract of a function: called so in an abstract state it returns so -/
def ACalls (E : Env) (f : FuncId) (args : List AV) (h : Hp) (R : AV → Hp → Prop) : Prop :=
  CallOk E.P f ∧ ∀ (g : Gh) (w : World) (cargs : Array Value), SimH E g h w → RepL g args cargs →
    Calls E.P f cargs w fun e w' => ∃ v cv g' h', e = .returned cv ∧ R v h' ∧ g.le g' ∧ SimH E g' h' w' ∧ Rep g' v cv
theorem ACalls.mono {E : Env} {f : FuncId} {args : List AV} {h : Hp} {R R' : AV → Hp → Prop} (hc : ACalls E f args h R) (hr : ∀ v h', R v h' → R' v h') : ACalls E f args h R' :=
  ⟨hc.1, fun g w cargs S ha => (hc.2 g w cargs S ha).mono fun _ _ ⟨v, cv, g', h', e, r, q⟩ => ⟨v, cv, g', h', e, hr _ _ r, q⟩⟩
/-- a pure call: one value, and the call's caller sees no change -/
def PCall (E : Env) (f : FuncId) (args : List AV) (h : Hp) (r : AV) : Prop := ACalls E f args h fun v h' => v = r ∧ h' = h
theorem PCall.use {E : Env} {f : FuncId} {args : List AV} {h : Hp} {r : AV} {K : AV → Hp → Prop} (hc : PCall E f args h r) (hk : K r h) : ACalls E f args h K :=
  ACalls.mono hc fun _ _ ⟨e1, e2⟩ => by rw [e1, e2]; exact hk

def aexec (E : Env) (own : Bool) (op : Op) (F : Fr) (h : Hp) (K : AV → Hp → Prop) : Prop :=
  match op with
  | .call { callee := .value f, args := as, .. } => match ev E F f with
    | .fn (.func fid) first caps => ACalls E fid (first ++ (as.toList.map (ev E F) ++ caps)) h K
    | _ => False
  | op => match aop E.P own h (ev E F) op with
    | some (v, h') => K v h'
    | none => False

theorem run_call {P : Program} {f : FuncId} {args : Array Value} {w : World} (h : CallOk P f) : (callFunc f args).run P w = .ok (.enter f args) w := by
  obtain ⟨fn, h1, h2, h3⟩ := h
  have h4 : ¬ (fn.body = none) := by intro h; rw [h] at h2; cases h2
  have h5 : ¬ (fn.name = "runtime.NumGoroutine") := by simpa using h3
  simp [callFunc, h1, h4, h5]

theorem map_rep {E : Env} {n : Nat} {g : Gh} {F : Fr} {h : Hp} {a : Act} {w : World} (s : Sim E n g F h a w) (l : List Operand) (i : Nat) (v : AV) (cv : Value) (h1 : (l.map (ev E F))[i]? = some v) (h2 : (l.map a.eval)[i]? = some cv) : Rep g v cv := by
  simp at h1 h2
  obtain ⟨z, a1, rfl⟩ := h1
  obtain ⟨z', b1, rfl⟩ := h2
  rw [a1] at b1; cases b1; exact ev_rep s z

theorem repL_append {g : Gh} {xs ys : List AV} {as bs : Array Value} (h1 : RepL g xs as) (h2 : RepL g ys bs) : RepL g (xs ++ ys) (as ++ bs) := by
  refine ⟨by simp [h1.1, h2.1], fun i v cv p q => ?_⟩
  rw [List.getElem?_append] at p
  rw [Array.getElem?_append] at q
  rw [h1.1] at q
  split at p
  · rename_i hi; rw [if_pos hi] at q; exact h1.2 i v cv p q
  · rename_i hi; rw [if_neg hi] at q; exact h2.2 _ v cv p q

theorem exec_sound {E : Env} {n : Nat} {own : Bool} {o : Oper} {F : Fr} {h : Hp} {K : AV → Hp → Prop} {g : Gh} {a : Act} {w : World} {next : Act → World → Prop} {Q : Exit → Act → World → Prop}
    (hx : aexec E own o.op F h K) (s : Sim E n g F h a w) (hn : ∀ v h', K v h' → ∀ g' w' cv, g.le g' → SimH E g' h' w' → Rep g' v cv → next (a.put o.dst cv) w') : o.wp E.P a w next Q := by
  have plain : ∀ v h', aop E.P own h (ev E F) o.op = some (v, h') → K v h' → o.wp E.P a w next Q := by
    intro v h' ha hk
    obtain ⟨nx, cv, w', g', h1, h2, h3, h4, h5⟩ := aop_sound (o := o) s.simH (fun x => ev_rep s x) ha
    unfold Oper.wp
    rw [h1]
    rcases h2 with rfl | ⟨rfl, rfl⟩
    · exact hn v h' hk g' w' cv h4 h5 h3
    · exact hn v h' hk g' w' _ h4 h5 h3
  unfold aexec at hx
  split at hx
  · rename_i f as ats hop
    split at hx
    · rename_i fid first caps hf
      obtain ⟨hok, hc⟩ := hx
      have hfr := ev_rep s f
      rw [hf] at hfr
      obtain ⟨first', caps', hfe, k1, k2, k3, k4⟩ := hfr.fn_inv
      have hL : RepL g (first ++ (as.toList.map (ev E F) ++ caps)) (first' ++ (as.map a.eval ++ caps')) :=
        repL_append ⟨k1, k3⟩ (repL_append ⟨by simp, fun i v cv p q => map_rep s as.toList i v cv p (by simpa using q)⟩ ⟨k2, k4⟩)
      have hrun : (execOp a.eval o).run E.P w = .ok (.enter fid (first' ++ (as.map a.eval ++ caps'))) w := by
        unfold execOp
        rw [hop]
        simp only [resolve, hfe, Deferred.ofValue, Sem.run_bind, Sem.run_pure, Result.andThen_ok, invoke]
        rw [run_call hok, Array.append_assoc]
      unfold Oper.wp
      rw [hrun]
      refine (hc g w _ s.simH hL).mono fun e w' ⟨v, cv, g', h', e1, r, q1, q2, q3⟩ => ?_
      subst e1
      exact hn v h' r g' w' cv q1 q2 q3
    · exact hx.elim
  · split at hx
    · rename_i v h' ha
      exact plain v h' ha hx
    · exact hx.elim

/- guards -/
def gdst : List (Option Tmp) → Nat → Option Tmp
  | [], _ => none
  | d :: _, 0 => d
  | _ :: r, j + 1 => gdst r j
theorem gdst_eq : ∀ (l : List Oper) (j : Nat), gdst (l.map (·.dst)) j = (l[j]?).bind (·.dst)
  | [], j => by simp [gdst]
  | o :: l, 0 => by simp [gdst]
  | o :: l, j + 1 => by simp [gdst, gdst_eq l j]
def wantA (ds : List (Option Tmp)) (F : Fr) (gd : Option (Nat × Bool)) : Option Bool :=
  match gd with
  | none => some true
  | some (j, want) => match gdst ds j with
    | none => some false
    | some d => match F d with
      | .bool b => some (b == want)
      | .tup [] => some false
      | _ => none

theorem want_sound {E : Env} {n : Nat} {g : Gh} {F : Fr} {h : Hp} {a : Act} {w : World} {ops : Array Oper} {o : Oper} {c : Bool} (s : Sim E n g F h a w) (hw : wantA (ops.toList.map (·.dst)) F o.guard = some c) :
    Region.wanted o (yielded ops a.tmps) = c := by
  unfold wantA at hw
  unfold Region.wanted
  split at hw
  · rename_i hg; rw [hg]; cases hw; rfl
  · rename_i j want hg
    rw [hg]
    simp only
    rw [gdst_eq] at hw
    have hops : (ops.toList[j]?).bind (·.dst) = (ops[j]?).bind (·.dst) := by simp
    rw [hops] at hw
    split at hw
    · rename_i hd
      cases hw
      simp [yielded, hd]
    · rename_i d hd
      have hf := s.frame d
      split at hw
      · rename_i b hb
        cases hw
        rw [hb] at hf
        have he := hf.bool_inv
        have hlt : d < a.tmps.size := by
          rcases Nat.lt_or_ge d a.tmps.size with h | h
          · exact h
          · simp [h, undef] at he
        have : a.tmps[d]? = some (.bool b) := by
          simp [hlt] at he ⊢; exact he
        simp [yielded, hd, this]
      · rename_i hb
        cases hw
        rw [hb] at hf
        obtain ⟨vs, he, hs, _⟩ := hf.tup_inv
        have hvs : vs = #[] := by simpa using hs
        subst hvs
        have : yielded ops a.tmps j = none := by
          unfold yielded
          rw [hd]
          simp only [Option.bind_some]
          rcases Nat.lt_or_ge d a.tmps.size with h | h
          · simp [h] at he ⊢; rw [he]
          · simp [h]
        rw [this]; rfl
      · cases hw

/- a slice of the call's own in a slot is frozen: nobody will write to it any more -/
def allFrozen (xs : List (List AV)) : Bool := xs.all (·.all AV.frozen)
def frzSlot (s : Fr × Hp) (i : Nat) : Fr × Hp :=
  match s.1 i with
  | .own b off len => match s.2[b]? with
    | some (.live k xs) => if off + len ≤ xs.length ∧ allFrozen ((xs.drop off).take len) = true then (upd s.1 i (.sl .any k ((xs.drop off).take len)), s.2.set b .dead) else s
    | _ => s
  | _ => s

theorem own_frozen {E : Env} {g : Gh} {h : Hp} {w : World} {b off len k : Nat} {xs : List (List AV)} {cv : Value} {M' : Nat → Option Obj} {l : Loc} {c : Array Value} {e : TypeId} (S : SimH E g h w) (hb : h[b]? = some (.live k xs)) (hl : g.μ b = some l)
    (hw : w.heap[l.cb]? = some (.cells c e (0, 0))) (hM : M' l.cb = some (.cells c e (0, 0))) (hle : off + len ≤ xs.length) (hr : Rep g (.own b off len) cv) {φ : AV → AV}
    (hφ : ∀ row ∈ (xs.drop off).take len, ∀ v ∈ row, (φ v).leaf = true ∧ ∀ cv, Rep g v cv → RepF M' (φ v) cv) : RepF M' (.sl .any k (((xs.drop off).take len).map (·.map φ))) cv := by
  have hlen : ((xs.drop off).take len).length = len := by simp; omega
  have sub : ∀ (i : Nat) (row : List AV), ((xs.drop off).take len)[i]? = some row → xs[off + i]? = some row := by
    intro i row hi
    have hlt := lt_of_getElem? hi
    rw [List.getElem?_take, if_pos (by omega), List.getElem?_drop] at hi
    exact hi
  generalize (xs.drop off).take len = ys at hlen sub hφ ⊢
  have hrows : ∀ (i : Nat) (row : List AV), (ys.map (·.map φ))[i]? = some row → ∃ row', ys[i]? = some row' ∧ row = row'.map φ := by
    intro i row hi
    rw [List.getElem?_map] at hi
    cases hy : ys[i]? with
    | none => rw [hy] at hi; cases hi
    | some r => rw [hy] at hi; cases hi; exact ⟨r, rfl, rfl⟩
  have hcells : ∀ (j : Nat) (row' : List AV) (v : AV), (row'.map φ)[j]? = some v → ∃ u, row'[j]? = some u ∧ v = φ u := by
    intro j row' v hv
    rw [List.getElem?_map] at hv
    cases hy : row'[j]? with
    | none => rw [hy] at hv; cases hv
    | some r => rw [hy] at hv; cases hv; exact ⟨r, rfl, rfl⟩
  have hlen2 : (ys.map (·.map φ)).length = len := by rw [List.length_map]; exact hlen
  by_cases h0 : len = 0
  · subst h0
    have : ys = [] := List.eq_nil_of_length_eq_zero hlen
    subst this
    rcases hr.own_inv with ⟨l, cap, _, _, _, rfl⟩ | ⟨_, q, rfl⟩
    · exact .empty .any k _ cap (by simp) (by simp)
    · exact .empty .any k _ 0 (by simp) (by simp)
  rcases hr.own_inv with ⟨l', cap, q1, q2, q3, rfl⟩ | ⟨hz, _⟩
  case inr => exact absurd hz h0
  obtain ⟨l2, c', e', p1, p2, p3, p4, p5, p6, p7, p8⟩ := S.live b k xs hb
  rw [hl] at q1 p1; cases q1; cases p1
  rw [hw] at p4; cases p4
  subst p2
  have := RepF.sl (M := M') .any l.k (ys.map (·.map φ)) l.cb (l.co + off * l.k) c e (0, 0) cap (fun i j => (c[l.co + (off + i) * l.k + j]?).getD Go.undef)
    (by intro hx; rw [hx] at hlen2; exact h0 hlen2.symm) (by simp) hM
    (fun i row hi => by
      obtain ⟨row', h1, rfl⟩ := hrows i row hi
      refine ⟨by rw [List.length_map]; exact (p7 _ _ (sub i row' h1)).1, fun j v hv => ?_⟩
      obtain ⟨u, hu, rfl⟩ := hcells j row' v hv
      exact (hφ row' (List.mem_of_getElem? h1) u (List.mem_of_getElem? hu)).1)
    (fun i j hi hj => by
      rw [hlen2] at hi
      have h1 : ys[i]? = some (ys[i]'(by omega)) := List.getElem?_eq_getElem _
      have h2 := sub i _ h1
      have hrl := (p7 _ _ h2).1
      obtain ⟨cv, a, _⟩ := p8 _ j _ ((ys[i]'(by omega))[j]'(by omega)) h2 (List.getElem?_eq_getElem _)
      have e1 : l.co + off * l.k + i * l.k + j = l.co + (off + i) * l.k + j := by rw [Nat.add_mul]; omega
      rw [e1, a]; rfl)
    (fun i j row v hi hv => by
      obtain ⟨row', h1, rfl⟩ := hrows i row hi
      obtain ⟨u, hu, rfl⟩ := hcells j row' v hv
      obtain ⟨cv, a, b⟩ := p8 _ j _ u (sub i row' h1) hu
      rw [a]
      exact (hφ row' (List.mem_of_getElem? h1) u (List.mem_of_getElem? hu)).2 cv b)
    (by rw [hlen2]; exact q2) (by simp)
  rw [hlen2] at this
  exact this

theorem frzSlot_sound {E : Env} {n : Nat} {g : Gh} {F : Fr} {h : Hp} {a : Act} {w : World} (i : Nat) (s : Sim E n g F h a w) : ∃ g', g.le g' ∧ Sim E n g' (frzSlot (F, h) i).1 (frzSlot (F, h) i).2 a w := by
  unfold frzSlot
  simp only
  split
  case h_2 => exact ⟨g, Gh.le.refl g, s⟩
  rename_i b off len hF
  split
  case h_2 => exact ⟨g, Gh.le.refl g, s⟩
  rename_i k xs hb
  split
  case isFalse => exact ⟨g, Gh.le.refl g, s⟩
  rename_i hc
  obtain ⟨hle, hfz⟩ := hc
  obtain ⟨l, c, e, p1, p2, p3, p4, p5, p6, p7, p8⟩ := s.simH.live b k xs hb
  have S1 := s.simH.kill b
  have u := unowned_kill s.simH hb (by simp) p1
  have S2 := S1.freeze p4 p3 u
  have hg : g.le (g.freeze l.cb (.cells c e (0, 0))) := Gh.freeze_le p3
  refine ⟨_, hg, S2, s.defers, s.size, fun j => ?_⟩
  simp only [upd]
  split
  · rename_i hj
    subst hj
    have hr := s.frame j
    rw [hF] at hr
    have hM : (g.freeze l.cb (.cells c e (0, 0))).M l.cb = some (.cells c e (0, 0)) := by simp [Gh.freeze]
    simp only [allFrozen, List.all_eq_true] at hfz
    have := own_frozen (φ := id) s.simH hb p1 p4 hM hle hr (fun row hrow v hv => by
      obtain ⟨i, hi, rfl⟩ := List.getElem_of_mem hrow
      obtain ⟨j', hj', rfl⟩ := List.getElem_of_mem hv
      refine ⟨?_, fun cv hcv => (AV.frozen_rep (hfz _ hrow _ hv) hcv).mono hg.M⟩
      have := hfz _ hrow _ hv
      revert this
      generalize (((xs.drop off).take len)[i])[j'] = y
      intro this
      cases y <;> simp_all [AV.frozen, AV.leaf])
    have hid : ((xs.drop off).take len).map (·.map id) = (xs.drop off).take len := by
      have : (fun x : List AV => x.map id) = id := by funext x; simp
      rw [this, List.map_id]
    rw [hid] at this
    exact .fro this
  · exact (s.frame j).mono hg

def frzSlots (s : Fr × Hp) : List Nat → Fr × Hp
  | [] => s
  | i :: r => frzSlots (frzSlot s i) r
theorem frzSlots_sound {E : Env} {n : Nat} {a : Act} {w : World} : ∀ (l : List Nat) {g : Gh} {F : Fr} {h : Hp}, Sim E n g F h a w → ∃ g', g.le g' ∧ Sim E n g' (frzSlots (F, h) l).1 (frzSlots (F, h) l).2 a w
  | [], g, _, _, s => ⟨g, Gh.le.refl g, s⟩
  | i :: r, _, F, h, s => by
    obtain ⟨g1, h1, s1⟩ := frzSlot_sound i s
    obtain ⟨g2, h2, s2⟩ := frzSlots_sound r s1
    exact ⟨g2, h1.trans h2, s2⟩

/-- what the prover says beside the code: at which operations a slice is the call's own against the rule (md), which slots are frozen ahead of which operation (fz) -/
structure Hint where
  md : Nat → Bool
  fz : Nat → List Nat
def Hint.none : Hint := ⟨fun _ => false, fun _ => []⟩

/-- is what this operation makes the call's own? append and make: yes, a composite: no; turned where the hint says so -/
def ownOp (op : Op) (b : Bool) : Bool :=
  match op with
  | .buildSlice _ _ _ => b
  | _ => !b

/- a list of operations in the order of the text -/
def W (E : Env) (H : Hint) (ds : List (Option Tmp)) : List Oper → Fr → Hp → (Fr → Hp → Prop) → Prop
  | [], F, h, K => K F h
  | o :: r, F, h, K => match wantA ds F o.guard with
    | some c => (c = true → aexec E (ownOp o.op (H.md (o.dst.getD 0))) o.op (frzSlots (F, h) (H.fz (o.dst.getD 0))).1 (frzSlots (F, h) (H.fz (o.dst.getD 0))).2 fun v h' => W E H ds r (aput (frzSlots (F, h) (H.fz (o.dst.getD 0))).1 o.dst v) h' K) ∧
      (c = false → W E H ds r (aput F o.dst undefA) h K)
    | none => False

theorem W_sound {E : Env} {H : Hint} {n : Nat} {ops : Array Oper} {Q : Exit → Act → World → Prop} {K : Fr → Hp → Prop} {g0 : Gh} : ∀ (l : List Oper) (F : Fr) (h : Hp) (g : Gh) (a : Act) (w : World),
    W E H (ops.toList.map (·.dst)) l F h K → Sim E n g F h a w → g0.le g → (∀ o ∈ l, ∀ d, o.dst = some d → d < n) →
    (∀ F' h' g' a' w', K F' h' → g0.le g' → Sim E n g' F' h' a' w' → Q .normal a' w') → wpList E.P ops Q l a w
  | [], F, h, g, a, w, hW, s, hg, _, hk => hk F h g a w hW hg s
  | o :: r, F, h, g, a, w, hW, s, hg, hd, hk => by
    unfold W at hW
    split at hW
    · rename_i c hc
      have hwant := want_sound (o := o) s hc
      unfold wpList
      rw [hwant]
      cases c with
      | true =>
        simp only [if_true]
        obtain ⟨g1, hg1, s1⟩ := frzSlots_sound (H.fz (o.dst.getD 0)) s
        refine .inl (exec_sound (hW.1 rfl) s1 fun v h' hv g' w' cv hle hH hr => ?_)
        exact W_sound r _ _ _ _ _ hv (s1.put (hd o (by simp)) hle hH hr) (hg.trans (hg1.trans hle)) (fun o' ho' => hd o' (by simp [ho'])) hk
      | false =>
        simp only [Bool.false_eq_true, if_false]
        exact W_sound r _ _ _ _ _ (hW.2 rfl) (s.put (hd o (by simp)) (Gh.le.refl g) s.simH (Rep.undef g)) hg (fun o' ho' => hd o' (by simp [ho'])) hk
    · exact hW.elim
end Go.Proofs.YtpdohkcjhphibaaDoor.Sm
