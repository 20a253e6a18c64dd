/- One value under two readings: a nil slice of whatever element, and what holds such; no condition. -/
import Derived.Test.YtpdohkcjhphibaaDoorSw
set_option linter.unusedVariables false
namespace Go.Proofs.YtpdohkcjhphibaaDoor.Sm
open Go

def Cv (a b : AV) : Prop := ∀ (M : Nat → Option Obj) (cv : Value), RepF M a cv → RepF M b cv
def CvR (a b : AV) : Prop := ∀ (g : Gh) (cv : Value), Rep g a cv → Rep g b cv
theorem Cv.refl (a : AV) : Cv a a := fun _ _ h => h
theorem CvR.refl (a : AV) : CvR a a := fun _ _ h => h
theorem Cv.nil (k k' : Nat) : Cv (.sl .nil k []) (.sl .nil k' []) := by
  intro M cv h
  cases h with
  | nil => exact .nil k'
  | empty m k0 a cap h1 => exact absurd rfl h1
  | sl _ _ _ _ _ _ _ _ _ _ h => exact absurd rfl h
theorem Cv.empty (m : SM) (k k' : Nat) : Cv (.sl m k []) (.sl m k' []) := by
  intro M cv h
  cases h with
  | nil => exact .nil k'
  | empty m k0 a cap h1 h2 => exact .empty m k' a cap h1 h2
  | sl _ _ _ _ _ _ _ _ _ _ h => exact absurd rfl h
theorem Cv.any {m : SM} (hm : m ≠ .nil) (k : Nat) (xs : List (List AV)) : Cv (.sl m k xs) (.sl .any k xs) := by
  intro M cv h
  cases h with
  | nil => exact absurd rfl hm
  | empty m k0 a cap h1 h2 => exact .empty .any k a cap (by simp) (by simp)
  | sl m k xs cb co c e fz cap cv h1 h2 h3 h4 h5 h6 h7 h8 => exact .sl .any k xs cb co c e fz cap cv h1 (by simp) h3 h4 h5 h6 h7 (by simp)
/-- rows whose cells turn -/
def CvRow (r r' : List AV) : Prop := r'.length = r.length ∧ ∀ (j : Nat) (v v' : AV), r[j]? = some v → r'[j]? = some v' → v'.leaf = true ∧ Cv v v'
theorem Cv.rows {m : SM} {k : Nat} {xs ys : List (List AV)} (hl : ys.length = xs.length) (h : ∀ (i : Nat) (r r' : List AV), xs[i]? = some r → ys[i]? = some r' → CvRow r r') : Cv (.sl m k xs) (.sl m k ys) := by
  have row : ∀ (i : Nat) (r' : List AV), ys[i]? = some r' → ∃ r, xs[i]? = some r ∧ CvRow r r' := fun i r' hr => by
    have hi : i < xs.length := by rw [← hl]; exact lt_of_getElem? hr
    exact ⟨xs[i], by simp [hi], h i _ _ (by simp [hi]) hr⟩
  intro M cv hr
  cases hr with
  | nil => have : ys = [] := List.length_eq_zero_iff.1 hl; subst this; exact .nil k
  | empty m k0 a cap h1 h2 => have : ys = [] := List.length_eq_zero_iff.1 hl; subst this; exact .empty m k a cap h1 h2
  | sl m k xs cb co c e fz cap cv h1 h2 h3 h4 h5 h6 h7 h8 =>
    rw [← hl]
    refine .sl m k ys cb co c e fz cap cv (fun e => h1 (by subst e; exact List.length_eq_zero_iff.1 hl.symm)) h2 h3 ?_ ?_ ?_ (by omega) (fun e => by rw [hl]; exact h8 e)
    · intro i r' hr'
      obtain ⟨r, q1, q2, q3⟩ := row i r' hr'
      refine ⟨by rw [q2]; exact (h4 i r q1).1, fun j v' hv' => ?_⟩
      have hj : j < r.length := by rw [← q2]; exact lt_of_getElem? hv'
      exact (q3 j r[j] v' (by simp [hj]) hv').1
    · intro i j hi hj; exact h5 i j (by omega) hj
    · intro i j r' v' hr' hv'
      obtain ⟨r, q1, q2, q3⟩ := row i r' hr'
      have hj : j < r.length := by rw [← q2]; exact lt_of_getElem? hv'
      exact (q3 j r[j] v' (by simp [hj]) hv').2 _ _ (h6 i j r r[j] q1 (by simp [hj]))
theorem Cv.map {α : Type} {m : SM} {k : Nat} {xs : List α} {f f' : α → List AV} (h : ∀ x ∈ xs, CvRow (f x) (f' x)) : Cv (.sl m k (xs.map f)) (.sl m k (xs.map f')) := by
  refine Cv.rows (by simp) fun i r r' h1 h2 => ?_
  rw [List.getElem?_map, Option.map_eq_some_iff] at h1 h2
  obtain ⟨x, hx, rfl⟩ := h1
  obtain ⟨x', hx', rfl⟩ := h2
  rw [hx] at hx'; cases hx'
  exact h x (List.mem_of_getElem? hx)
theorem CvRow.refl {r : List AV} (h : ∀ v ∈ r, v.leaf = true) : CvRow r r := ⟨rfl, fun j v v' h1 h2 => by rw [h1] at h2; cases h2; exact ⟨h v (List.mem_of_getElem? h1), Cv.refl v⟩⟩
theorem CvRow.nil : CvRow [] [] := ⟨rfl, fun j v v' h => by simp at h⟩
theorem CvRow.cons {v v' : AV} {r r' : List AV} (hl : v'.leaf = true) (h : Cv v v') (hr : CvRow r r') : CvRow (v :: r) (v' :: r') := by
  refine ⟨by simp [hr.1], fun j a a' h1 h2 => ?_⟩
  cases j with
  | zero => simp at h1 h2; subst h1; subst h2; exact ⟨hl, h⟩
  | succ j => simp at h1 h2; exact hr.2 j a a' h1 h2
theorem CvR.sl {m m' : SM} {k k' : Nat} {xs ys : List (List AV)} (h : Cv (.sl m k xs) (.sl m' k' ys)) : CvR (.sl m k xs) (.sl m' k' ys) := fun _ _ hr => .fro (h _ _ hr.sl_inv)
/-- rows of values: structs, tuples, arguments -/
def CvRL (r r' : List AV) : Prop := r'.length = r.length ∧ ∀ (j : Nat) (v v' : AV), r[j]? = some v → r'[j]? = some v' → CvR v v'
theorem CvRL.nil : CvRL [] [] := ⟨rfl, fun j v v' h => by simp at h⟩
theorem CvRL.cons {v v' : AV} {r r' : List AV} (h : CvR v v') (hr : CvRL r r') : CvRL (v :: r) (v' :: r') := by
  refine ⟨by simp [hr.1], fun j a a' h1 h2 => ?_⟩
  cases j with
  | zero => simp at h1 h2; subst h1; subst h2; exact h
  | succ j => simp at h1 h2; exact hr.2 j a a' h1 h2
theorem CvRL.refl (r : List AV) : CvRL r r := ⟨rfl, fun j v v' h1 h2 => by rw [h1] at h2; cases h2; exact CvR.refl v⟩
theorem CvR.agg {r r' : List AV} (h : CvRL r r') : CvR (.agg r) (.agg r') := by
  intro g cv hr
  obtain ⟨vs, rfl, h1, h2⟩ := hr.agg_inv
  refine .agg r' vs (by rw [h1, h.1]) fun i v' c a b => ?_
  have hi : i < r.length := by rw [← h.1]; exact lt_of_getElem? a
  exact h.2 i r[i] v' (by simp [hi]) a g c (h2 i r[i] c (by simp [hi]) b)
theorem CvR.tup {r r' : List AV} (h : CvRL r r') : CvR (.tup r) (.tup r') := by
  intro g cv hr
  obtain ⟨vs, rfl, h1, h2⟩ := hr.tup_inv
  refine .tup r' vs (by rw [h1, h.1]) fun i v' c a b => ?_
  have hi : i < r.length := by rw [← h.1]; exact lt_of_getElem? a
  exact h.2 i r[i] v' (by simp [hi]) a g c (h2 i r[i] c (by simp [hi]) b)
/-- a call's arguments, under another reading -/
theorem ACalls.args {E : Env} {f : FuncId} {args args' : List AV} {h : Hp} {R : AV → Hp → Prop} (hc : ACalls E f args' h R) (ha : CvRL args args') : ACalls E f args h R := by
  refine ⟨hc.1, fun g w cargs S hr => hc.2 g w cargs S ⟨by rw [hr.1, ha.1], fun i v' cv h1 h2 => ?_⟩⟩
  have hi : i < args.length := by rw [← ha.1]; exact lt_of_getElem? h1
  exact ha.2 i args[i] v' (by simp [hi]) h1 g cv (hr.2 i args[i] cv (by simp [hi]) h2)
theorem PCall.args {E : Env} {f : FuncId} {args args' : List AV} {h : Hp} {r : AV} (hc : PCall E f args' h r) (ha : CvRL args args') : PCall E f args h r := ACalls.args hc ha
theorem PCall.res {E : Env} {f : FuncId} {args : List AV} {h : Hp} {r r' : AV} (hc : PCall E f args h r) (hr : CvR r r') : PCall E f args h r' :=
  ACalls.conv hc fun v h' ⟨e1, e2⟩ => by subst e1; exact ⟨r', ⟨rfl, e2⟩, hr⟩
theorem hint_fz0 (l : List Nat) (n : Nat) : (hint l []).fz n = [] := rfl
theorem hint_fz1 (l : List Nat) (a : Nat) (s : List Nat) (n : Nat) : (hint l [(a, s)]).fz n = if (a == n) = true then s else [] := by
  unfold hint
  simp only [List.find?]
  cases a == n <;> rfl
theorem frz_own1 {H : Hp} {i b off len k : Nat} {xs : List (List AV)} (hb : H[b]? = some (.live k xs)) (hl : off + len ≤ xs.length) (hf : allFrozen ((xs.drop off).take len) = true) :
    ∀ F : Fr, F i = .own b off len → frzSlot (F, H) i = (upd F i (.sl .any k ((xs.drop off).take len)), H.set b .dead) := by
  intro F hF
  unfold frzSlot
  simp only [hF, hb]
  rw [if_pos ⟨hl, hf⟩]
theorem frz_sl1 {H : Hp} {i k : Nat} {m : SM} {xs : List (List AV)} : ∀ F : Fr, F i = .sl m k xs → frzSlot (F, H) i = (F, H) := by
  intro F hF
  unfold frzSlot
  simp only [hF]
end Go.Proofs.YtpdohkcjhphibaaDoor.Sm
