/- The abstract step of a statement, calls, regions whose order is drawn, code: what is to be shown of a piece of code, as a proposition on abstract states; and that it suffices; no condition. -/
import Derived.Test.YtpdohkcjhphibaaDoorSm8
import Derived.Still
set_option linter.unusedVariables false
namespace Go.Proofs.YtpdohkcjhphibaaDoor.Sm
open Go

def ev (E : Env) (F : Nat → AV) : Operand → AV
  | .tmp t => F t
  | .const v => avOf v
  | .global g => E.G g
  | .func f => .fn (.func f) [] []
theorem ev_rep {E : Env} {n : Nat} {g : Gh} {F : Nat → AV} {h : List ABlk} {a : Act} {w : World} (s : Sim E n g F h a w) (x : Operand) : Rep g (ev E F x) (a.eval x) := by
  cases x with
  | tmp t => exact s.frame t
  | const v => exact .fro (avOf_rep g.M v)
  | global n => exact .fro (s.simH.glob n)
  | func f => exact .fro (.fn _ _ _ _ _ rfl rfl (by simp) (by simp))

def evp (ρ : Operand → AV) : List (Nat × Operand) → List (Nat × AV)
  | [] => []
  | (i, x) :: r => (i, ρ x) :: evp ρ r
theorem evp_parts {g : Gh} {ρ : Operand → AV} {ρ' : Operand → Value} (hr : ∀ x, Rep g (ρ x) (ρ' x)) : ∀ l : List (Nat × Operand), Parts g (evp ρ l) (l.map fun (i, x) => (i, ρ' x))
  | [] => .nil
  | (_, x) :: r => .cons (hr x) (evp_parts hr r)

def ofO (h : List ABlk) : Option AV → Option (AV × List ABlk)
  | some v => some (v, h)
  | none => none
def ofS : Option (List ABlk) → Option (AV × List ABlk)
  | some h => some (undefA, h)
  | none => none

def frozenArgs (P : Program) (h : List ABlk) (t0 t1 : TypeId) (s x : AV) : Bool :=
  match P.underlying t0 with
  | some (.slice e) => match szO P e with
    | some k => match srcA P h k t1 x, conts h s with
      | some ys, some xs => (xs.2 ++ ys).all (·.all AV.frozen)
      | _, _ => false
    | none => false
  | _ => false

def aBuiltin (P : Program) (own : Bool) (h : List ABlk) (b : Builtin) (ts : List TypeId) (xs : List AV) : Option (AV × List ABlk) :=
  match b with
  | .len => match ts, xs with
    | [t], [x] => ofO h (aLen P t x)
    | _, _ => none
  | .max => match xs with
    | x :: r => ofO h (aFold aMax2 x r)
    | _ => none
  | .min => match xs with
    | x :: r => ofO h (aFold aMin2 x r)
    | _ => none
  | .append => match ts, xs with
    | [t0, t1], [s, x] => if own || frozenArgs P h t0 t1 s x then aAppend P own h t0 t1 s x else none
    | _, _ => none
  | .copy => match ts, xs with
    | [t, _], [d, s] => aCopy P h t d s
    | _, _ => none
  | .clear => match ts, xs with
    | [t], [d] => aClear P h t d
    | _, _ => none
  | _ => none

def aop (P : Program) (own : Bool) (h : List ABlk) (ρ : Operand → AV) (o : Op) : Option (AV × List ABlk) :=
  match o with
  | .move x => some (ρ x, h)
  | .assign x => some (ρ x, h)
  | .pick c a b => match ρ c with
    | .bool true => some (ρ a, h)
    | .bool false => some (ρ b, h)
    | _ => none
  | .alloc e => aAlloc P h e
  | .box _ x => aBox h (ρ x)
  | .build t ps => ofO h (aBuild P t (evp ρ ps.toList))
  | .buildSlice t n ps => aBuildSlice P own h t n (evp ρ ps.toList)
  | .load t a => ofO h (aLoad P h t (ρ a))
  | .store t a x => ofS (aStore P h t (ρ a) (ρ x))
  | .nilCheck x => match ρ x with
    | .ptr b i j => some (.ptr b i j, h)
    | .fptr k xs i j => some (.fptr k xs i j, h)
    | _ => none
  | .binOp op t x y _ => ofO h (aBin P t op (ρ x) (ρ y))
  | .unOp op _ x => ofO h (aUn op (ρ x))
  | .convert s d x => ofO h (aConv P s d (ρ x))
  | .makeFunc fn a c => some (.fn fn (a.toList.map ρ) (c.toList.map ρ), h)
  | .makeSlice t l c => aMakeSlice P own h t (ρ l) (ρ c)
  | .slice t x lo hi mx => ofO h (aSlice P h t (ρ x) (lo.map ρ) (hi.map ρ) (mx.map ρ))
  | .fieldAddr t x f => ofO h (aFieldAddr P t (ρ x) f)
  | .field t x f => ofO h (aField P t (ρ x) f)
  | .indexAddr t x i => ofO h (aIndexAddr P h t (ρ x) (ρ i))
  | .index t x i => ofO h (aIndex P t (ρ x) (ρ i))
  | .range t x => aRange P h t (ρ x)
  | .next it s => aNext h (ρ it) s
  | .extract t i => match ρ t with
    | .tup vs => ofO h vs[i]?
    | _ => none
  | .call c => match c.callee with
    | .builtin b => aBuiltin P own h b c.argTypes.toList (c.args.toList.map ρ)
    | _ => none
  | _ => none

theorem ofO_some {h h' : List ABlk} {x : Option AV} {v : AV} (e : ofO h x = some (v, h')) : x = some v ∧ h' = h := by
  cases x <;> simp [ofO] at e; exact ⟨by rw [e.1], e.2.symm⟩
theorem ofS_some {h' : List ABlk} {x : Option (List ABlk)} {v : AV} (e : ofS x = some (v, h')) : x = some h' ∧ v = undefA := by
  cases x <;> simp [ofS] at e; exact ⟨by rw [e.2], e.1.symm⟩

theorem optRep {g : Gh} {ρ : Operand → AV} {ρ' : Operand → Value} (hr : ∀ x, Rep g (ρ x) (ρ' x)) (x : Option Operand) : (x.map ρ = none ∧ x.map ρ' = none) ∨ ∃ v cv, x.map ρ = some v ∧ x.map ρ' = some cv ∧ Rep g v cv := by
  cases x with
  | none => exact .inl ⟨rfl, rfl⟩
  | some x => exact .inr ⟨_, _, rfl, rfl, hr x⟩

/-- what an operation that is no call of a function leaves -/
def Leaves (E : Env) (g : Gh) (w : World) (s : Sem Next) (v : AV) (h' : List ABlk) : Prop :=
  ∃ nx cv w' g', s.run E.P w = .ok nx w' ∧ (nx = .value cv ∨ (nx = .skip ∧ cv = undef)) ∧ Rep g' v cv ∧ g.le g' ∧ SimH E g' h' w'

theorem Leaves.of_val {E : Env} {g : Gh} {h h' : List ABlk} {w : World} {s : Sem Value} {v : AV} (S : SimH E g h w) (hh : h' = h) (hx : ∃ cv, s.run E.P w = .ok cv w ∧ Rep g v cv) : Leaves E g w (do pure (.value (← s))) v h' := by
  obtain ⟨cv, h1, h2⟩ := hx
  subst hh
  exact ⟨.value cv, cv, w, g, by simp [h1], .inl rfl, h2, Gh.le.refl g, S⟩
theorem Leaves.of_step {E : Env} {g : Gh} {h' : List ABlk} {w : World} {s : Sem Value} {v : AV} (hx : ∃ c w' g', s.run E.P w = .ok c w' ∧ Rep g' v c ∧ g.le g' ∧ SimH E g' h' w') : Leaves E g w (do pure (.value (← s))) v h' := by
  obtain ⟨cv, w', g', h1, h2, h3, h4⟩ := hx
  exact ⟨.value cv, cv, w', g', by simp [h1], .inl rfl, h2, h3, h4⟩

theorem one_arr {α β : Type} {c : Array α} {f : α → β} {x : β} (h : c.toList.map f = [x]) : ∃ o, c = #[o] ∧ f o = x := by
  obtain ⟨l⟩ := c
  cases l with
  | nil => simp at h
  | cons a l => cases l with
    | nil => simp at h; exact ⟨a, rfl, h⟩
    | cons => simp at h
theorem two_arr {α β : Type} {c : Array α} {f : α → β} {x y : β} (h : c.toList.map f = [x, y]) : ∃ o p, c = #[o, p] ∧ f o = x ∧ f p = y := by
  obtain ⟨l⟩ := c
  cases l with
  | nil => simp at h
  | cons a l => cases l with
    | nil => simp at h
    | cons b l => cases l with
      | nil => simp at h; exact ⟨a, b, rfl, h.1, h.2⟩
      | cons => simp at h
theorem arr_of_list {α : Type} {c : Array α} {l : List α} (h : c.toList = l) : c = l.toArray := by rw [← h]

theorem run_builtin {E : Env} {ρ' : Operand → Value} {b : Builtin} {args : Array Operand} {ats : Array TypeId} {ty : TypeId} {w : World} :
    ∃ cs, (do let d ← resolve ρ' { callee := .builtin b, args, argTypes := ats } ty; invoke d.target d.args : Sem Next).run E.P w = (builtin b ats ty cs (args.map ρ')).run E.P w :=
  ⟨_, by simp only [resolve, invoke, Sem.run_bind, Sem.run_pure, Result.andThen_ok]; rfl⟩
theorem map_one (f : Operand → Value) (o : Operand) : Array.map f #[o] = #[f o] := by simp
theorem map_two (f : Operand → Value) (o p : Operand) : Array.map f #[o, p] = #[f o, f p] := by simp

theorem srcA_unique {P : Program} {h : List ABlk} {k k' : Nat} {t : TypeId} {x : AV} {ys ys' : List (List AV)} (h1 : srcA P h k t x = some ys) (h2 : srcA P h k' t x = some ys') : ys = ys' := by
  unfold srcA at h1 h2
  cases hu : P.underlying t with
  | none => simp [hu] at h1
  | some d =>
    cases d <;> simp only [hu] at h1 h2 <;> first | (cases h1; done) | skip
    · cases x <;> simp only at h1 h2 <;> first | (cases h1; done) | skip
      split at h1
      · split at h2
        · rw [h1] at h2; exact Option.some.inj h2
        · cases h2
      · cases h1
    · cases hc : conts h x with
      | none => simp [hc] at h1
      | some q =>
        simp only [hc] at h1 h2
        split at h1
        · split at h2
          · rw [h1] at h2; exact Option.some.inj h2
          · cases h2
        · cases h1

theorem builtin_sound {E : Env} {g : Gh} {h h' : List ABlk} {w : World} {own : Bool} {b : Builtin} {args : Array Operand} {ats : Array TypeId} {ty : TypeId} {ρ : Operand → AV} {ρ' : Operand → Value} {v : AV} {cs : Array Bool} (S : SimH E g h w) (hr : ∀ x, Rep g (ρ x) (ρ' x))
    (ha : aBuiltin E.P own h b ats.toList (args.toList.map ρ) = some (v, h')) : Leaves E g w (builtin b ats ty cs (args.map ρ')) v h' := by
  unfold aBuiltin at ha
  split at ha
  · split at ha
    · rename_i t x hts hxs
      obtain ⟨o, rfl, rfl⟩ := one_arr hxs
      obtain ⟨h1, h2⟩ := ofO_some ha
      rw [arr_of_list hts, map_one]
      exact Leaves.of_val S h2 (len_sound h1 (hr o))
    · cases ha
  · split at ha
    · rename_i x r hxs
      obtain ⟨h1, h2⟩ := ofO_some ha
      obtain ⟨l⟩ := args
      cases l with
      | nil => simp at hxs
      | cons o l =>
        simp at hxs
        obtain ⟨rfl, rfl⟩ := hxs
        refine Leaves.of_val S h2 ?_
        have := fold_sound (P := E.P) (g := g) (w := w) max2_sound (l.map ρ) (l.map ρ') (ρ o) v (ρ' o) h1 (hr o) (by simp) (fun i y cy a b => by
          simp at a b
          obtain ⟨z, a1, rfl⟩ := a
          obtain ⟨z', b1, rfl⟩ := b
          rw [a1] at b1; cases b1; exact hr z)
        simpa [Builtin.max_] using this
    · cases ha
  · split at ha
    · rename_i x r hxs
      obtain ⟨h1, h2⟩ := ofO_some ha
      obtain ⟨l⟩ := args
      cases l with
      | nil => simp at hxs
      | cons o l =>
        simp at hxs
        obtain ⟨rfl, rfl⟩ := hxs
        refine Leaves.of_val S h2 ?_
        have := fold_sound (P := E.P) (g := g) (w := w) min2_sound (l.map ρ) (l.map ρ') (ρ o) v (ρ' o) h1 (hr o) (by simp) (fun i y cy a b => by
          simp at a b
          obtain ⟨z, a1, rfl⟩ := a
          obtain ⟨z', b1, rfl⟩ := b
          rw [a1] at b1; cases b1; exact hr z)
        simpa [Builtin.min_] using this
    · cases ha
  · split at ha
    · rename_i t0 t1 s x hts hxs
      obtain ⟨o, p, rfl, rfl, rfl⟩ := two_arr hxs
      rw [arr_of_list hts, map_two]
      split at ha
      case isFalse => cases ha
      rename_i hfz
      refine Leaves.of_step (append_sound S ha (hr o) (hr p) ?_)
      intro ho k ys xs h1 h2
      subst ho
      simp only [Bool.false_or, frozenArgs] at hfz
      unfold aAppend at ha
      split at ha
      case h_2 => cases ha
      rename_i e hu
      split at ha
      case h_2 => cases ha
      rename_i k' hk'
      split at ha
      case h_2 => cases ha
      rename_i ys' hys'
      simp only [hu, hk', hys', h2, List.all_eq_true] at hfz
      have hyy : ys = ys' := by
        exact srcA_unique h1 hys'
      subst hyy
      exact hfz
    · cases ha
  · split at ha
    · rename_i t t1 d s hts hxs
      obtain ⟨o, p, rfl, rfl, rfl⟩ := two_arr hxs
      rw [arr_of_list hts, map_two]
      exact Leaves.of_step (copy_sound S ha (hr o) (hr p))
    · cases ha
  · split at ha
    · rename_i t d hts hxs
      obtain ⟨o, rfl, rfl⟩ := one_arr hxs
      rw [arr_of_list hts, map_one]
      exact Leaves.of_step (clear_sound S ha (hr o))
    · cases ha
  · cases ha

set_option maxHeartbeats 1000000 in
theorem aop_sound {E : Env} {g : Gh} {h h' : List ABlk} {w : World} {own : Bool} {o : Oper} {ρ : Operand → AV} {ρ' : Operand → Value} {v : AV} (S : SimH E g h w) (hr : ∀ x, Rep g (ρ x) (ρ' x)) (ha : aop E.P own h ρ o.op = some (v, h')) :
    Leaves E g w (execOp ρ' o) v h' := by
  obtain ⟨dst, op, ty, pos, after, guard⟩ := o
  simp only at ha
  unfold aop at ha
  split at ha
  · cases ha; exact ⟨_, _, w, g, rfl, .inl rfl, hr _, Gh.le.refl g, S⟩
  · cases ha; exact ⟨_, _, w, g, rfl, .inl rfl, hr _, Gh.le.refl g, S⟩
  · rename_i c a b
    have hc := hr c
    split at ha
    · rename_i hb; cases ha; rw [hb] at hc
      exact ⟨.value (ρ' a), ρ' a, w, g, by simp [execOp, hc.bool_inv, asBool], .inl rfl, hr _, Gh.le.refl g, S⟩
    · rename_i hb; cases ha; rw [hb] at hc
      exact ⟨.value (ρ' b), ρ' b, w, g, by simp [execOp, hc.bool_inv, asBool], .inl rfl, hr _, Gh.le.refl g, S⟩
    · cases ha
  · exact Leaves.of_step (alloc_sound S ha)
  · exact Leaves.of_step (box_sound S ha (hr _))
  · obtain ⟨h1, h2⟩ := ofO_some ha
    exact Leaves.of_val S h2 (build_sound h1 (by rw [Array.toList_map]; exact evp_parts hr _))
  · exact Leaves.of_step (buildSlice_sound S ha (by rw [Array.toList_map]; exact evp_parts hr _))
  · obtain ⟨h1, h2⟩ := ofO_some ha
    exact Leaves.of_val S h2 (load_sound S h1 (hr _))
  · obtain ⟨h1, rfl⟩ := ofS_some ha
    obtain ⟨w', h2, h3⟩ := store_sound S h1 (hr _) (hr _)
    exact ⟨.skip, undef, w', g, by simp [execOp, h2], .inr ⟨rfl, rfl⟩, Rep.undef g, Gh.le.refl g, h3⟩
  · rename_i x
    have hx := hr x
    split at ha
    · rename_i hb; cases ha; rw [hb] at hx
      obtain ⟨l, hl, e⟩ := hx.ptr_inv
      exact ⟨.value (ρ' x), ρ' x, w, g, by simp [execOp, e], .inl rfl, hx, Gh.le.refl g, S⟩
    · rename_i hb; cases ha; rw [hb] at hx
      obtain ⟨cb, oo, e, _⟩ := fptr_off (n := 0) hx.fptr_inv
      exact ⟨.value (ρ' x), ρ' x, w, g, by simp [execOp, e], .inl rfl, hx, Gh.le.refl g, S⟩
    · cases ha
  · obtain ⟨h1, h2⟩ := ofO_some ha
    exact Leaves.of_val S h2 (aBin_sound w _ _ h1 (hr _) (hr _))
  · obtain ⟨h1, h2⟩ := ofO_some ha
    exact Leaves.of_val S h2 (un_sound h1 (hr _))
  · obtain ⟨h1, h2⟩ := ofO_some ha
    exact Leaves.of_val S h2 (conv_sound S h1 (hr _))
  · rename_i fn a c
    cases ha
    refine ⟨.value (.func fn (a.map ρ') (c.map ρ')), _, w, g, by simp [execOp, Instr.makeFunc], .inl rfl, .fn _ _ _ _ _ (by simp) (by simp) ?_ ?_, Gh.le.refl g, S⟩
    · intro i v cv h1 h2
      simp at h1 h2
      obtain ⟨z, a1, rfl⟩ := h1
      obtain ⟨z', b1, rfl⟩ := h2
      rw [a1] at b1; cases b1; exact hr z
    · intro i v cv h1 h2
      simp at h1 h2
      obtain ⟨z, a1, rfl⟩ := h1
      obtain ⟨z', b1, rfl⟩ := h2
      rw [a1] at b1; cases b1; exact hr z
  · exact Leaves.of_step (makeSlice_sound S ha (hr _) (hr _))
  · obtain ⟨h1, h2⟩ := ofO_some ha
    exact Leaves.of_val S h2 (slice_sound S h1 (hr _) (optRep hr _) (optRep hr _) (optRep hr _))
  · obtain ⟨h1, h2⟩ := ofO_some ha
    exact Leaves.of_val S h2 (fieldAddr_sound h1 (hr _))
  · obtain ⟨h1, h2⟩ := ofO_some ha
    exact Leaves.of_val S h2 (field_sound h1 (hr _))
  · obtain ⟨h1, h2⟩ := ofO_some ha
    exact Leaves.of_val S h2 (indexAddr_sound S h1 (hr _) (hr _))
  · obtain ⟨h1, h2⟩ := ofO_some ha
    exact Leaves.of_val S h2 (index_sound h1 (hr _) (hr _))
  · exact Leaves.of_step (range_sound S ha (hr _))
  · exact Leaves.of_step (next_sound S ha (hr _))
  · rename_i t i
    have ht := hr t
    split at ha
    · rename_i vs hb
      rw [hb] at ht
      obtain ⟨h1, h2⟩ := ofO_some ha
      obtain ⟨us, e, k1, k2⟩ := ht.tup_inv
      have hlt := lt_of_getElem? h1
      have hu : us[i]? = some (us[i]'(by omega)) := by simp [k1, hlt]
      refine Leaves.of_val S h2 ⟨_, ?_, k2 i v _ h1 hu⟩
      rw [e]; simp [Instr.extract, hu]
    · cases ha
  · rename_i c
    split at ha
    · rename_i b hb
      obtain ⟨callee, args, ats⟩ := c
      simp only at hb ha
      subst hb
      obtain ⟨cs, hcs⟩ := run_builtin (E := E) (ρ' := ρ') (b := b) (args := args) (ats := ats) (ty := ty) (w := w)
      obtain ⟨nx, cv, w', g', k1, k2⟩ := builtin_sound (ty := ty) (cs := cs) S hr ha
      exact ⟨nx, cv, w', g', hcs.trans k1, k2⟩
    · cases ha
  · cases ha
end Go.Proofs.YtpdohkcjhphibaaDoor.Sm
