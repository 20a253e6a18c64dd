/- The plain laws of Normal: the same numbers, ascending with gaps, idempotent, whatever the order of the list; no program. -/
import Derived.Test.YtpdohkcjhphibaaDoorKw
import Derived.Test.YtpdohkcjhphibaaDoorC4
set_option linter.unusedVariables false
namespace Go.Proofs.YtpdohkcjhphibaaDoor.Bins
open Go Go.Proofs.YtpdohkcjhphibaaDoor.Sm

theorem normal_perm {xs ys : List Rng} (h : ys.Perm xs) : normal ys = normal xs := by
  have hp : ((ys.filter full).mergeSort byLo).Perm (xs.filter full) := (List.mergeSort_perm _ _).trans (h.filter full)
  have hs : ((ys.filter full).mergeSort byLo).Pairwise (fun a b => a.lo ≤ b.lo) := by
    have := List.pairwise_mergeSort (le := byLo) (fun a b c h1 h2 => by simp [byLo] at *; omega) (fun a b => by simp [byLo]; omega) (ys.filter full)
    exact this.imp fun {a b} h => by simpa [byLo] using h
  exact normal_of hp hs

def inI (r : Rng) : Prop := okR r 0
structure Inv (ps out : List Rng) : Prop where
  f : ∀ r ∈ out, full r = true ∧ inI r
  pw : out.Pairwise (fun a b => a.lo ≤ b.lo)
  gap : ∀ (i : Nat) (a b : Rng), out[i]? = some a → out[i + 1]? = some b → glue a b = false
  ins : ∀ v, inside out v = inside ps v
  low : ∀ r ∈ out, ∃ p ∈ ps, r.lo = p.lo
theorem inside_append (xs ys : List Rng) (v : Int) : inside (xs ++ ys) v = (inside xs v || inside ys v) := by simp [inside]
theorem glue_range {t r : Rng} (ht : full t = true ∧ inI t) (hr : full r = true ∧ inI r) (hlo : t.lo ≤ r.lo) (hg : glue t r = true) (v : Int) :
    (decide (t.lo ≤ v) && decide (v ≤ max t.hi r.hi)) = ((decide (t.lo ≤ v) && decide (v ≤ t.hi)) || (decide (r.lo ≤ v) && decide (v ≤ r.hi))) := by
  obtain ⟨h1, ⟨h2, h3⟩, h4, h5⟩ := ht
  obtain ⟨k1, ⟨k2, k3⟩, k4, k5⟩ := hr
  simp only [full, decide_eq_true_eq] at h1 k1
  have hg' : r.lo ≤ t.hi + 1 := by
    simp only [glue, Bool.or_eq_true, decide_eq_true_eq] at hg
    rcases hg with hg | hg
    · omega
    · rcases (show -9223372036854775808 < r.lo ∨ r.lo ≤ -9223372036854775808 by omega) with h | h
      · rw [wrap_i64 (by omega) (by omega)] at hg; omega
      · omega
  rw [Bool.eq_iff_iff]
  simp only [Bool.and_eq_true, Bool.or_eq_true, decide_eq_true_eq]
  omega
theorem Inv.step {ps out : List Rng} (h : Inv ps out) {r : Rng} (hr : full r = true ∧ inI r) (hlo : ∀ p ∈ ps, p.lo ≤ r.lo) : Inv (ps ++ [r]) (join out r) := by
  have hall : ∀ x ∈ out, x.lo ≤ r.lo := fun x hx => by obtain ⟨p, hp, e⟩ := h.low x hx; have := hlo p hp; omega
  have hone : ∀ v, inside [r] v = (decide (r.lo ≤ v) && decide (v ≤ r.hi)) := fun v => by simp [inside]
  have plain : (∀ t, out.getLast? = some t → glue t r = false) → Inv (ps ++ [r]) (out ++ [r]) := by
    intro hng
    refine ⟨?_, ?_, ?_, ?_, ?_⟩
    · intro x hx
      rw [List.mem_append] at hx
      rcases hx with hx | hx
      · exact h.f x hx
      · simp at hx; subst hx; exact hr
    · rw [List.pairwise_append]
      exact ⟨h.pw, by simp, fun a ha b hb => by simp at hb; subst hb; exact hall a ha⟩
    · intro i a b ha hb
      rcases Nat.lt_or_ge (i + 1) out.length with h1 | h1
      · rw [List.getElem?_append_left (by omega)] at ha hb
        exact h.gap i a b ha hb
      · have h2 : i + 1 = out.length := by
          have := lt_of_getElem? hb
          simp at this; omega
        rw [List.getElem?_append_right h1, h2] at hb
        rw [List.getElem?_append_left (by omega)] at ha
        simp at hb; subst hb
        refine hng a ?_
        rw [List.getLast?_eq_getElem?, ← ha]
        congr 1; omega
    · intro v; rw [inside_append, inside_append, h.ins]
    · intro x hx
      rw [List.mem_append] at hx
      rcases hx with hx | hx
      · obtain ⟨p, hp, e⟩ := h.low x hx; exact ⟨p, by simp [hp], e⟩
      · simp at hx; subst hx; exact ⟨x, by simp, rfl⟩
  unfold join
  cases hl : out.getLast? with
  | none => exact plain (fun t ht => by rw [hl] at ht; cases ht)
  | some t =>
    obtain ⟨ini, rfl⟩ : ∃ ini, out = ini ++ [t] := by
      obtain ⟨ini, hi⟩ := List.getLast?_eq_some_iff.1 hl
      exact ⟨ini, hi⟩
    cases hg : glue t r with
    | false => simp only [hg, Bool.false_eq_true, if_false]; exact plain (fun t' ht' => by rw [hl] at ht'; cases ht'; exact hg)
    | true =>
      simp only [hg, if_true, List.dropLast_concat]
      have ht := h.f t (by simp)
      have htl := hall t (by simp)
      have hft : full ⟨t.lo, max t.hi r.hi⟩ = true := by
        have h1 := ht.1
        simp only [full, decide_eq_true_eq] at h1 ⊢
        omega
      refine ⟨?_, ?_, ?_, ?_, ?_⟩
      · intro x hx
        rw [List.mem_append] at hx
        rcases hx with hx | hx
        · exact h.f x (by simp [hx])
        · simp at hx; subst hx
          refine ⟨hft, ?_⟩
          obtain ⟨_, ⟨h2, h3⟩, h4, h5⟩ := ht
          obtain ⟨_, ⟨k2, k3⟩, k4, k5⟩ := hr
          exact ⟨⟨h2, h3⟩, by show _ ≤ max t.hi r.hi; omega, by show max t.hi r.hi ≤ _; omega⟩
      · have hp := h.pw
        rw [List.pairwise_append] at hp ⊢
        exact ⟨hp.1, by simp, fun a ha b hb => by simp at hb; subst hb; exact hp.2.2 a ha t (by simp)⟩
      · intro i a b ha hb
        rcases Nat.lt_or_ge (i + 1) ini.length with h1 | h1
        · rw [List.getElem?_append_left (by omega)] at ha hb
          exact h.gap i a b (by rw [List.getElem?_append_left (by omega)]; exact ha) (by rw [List.getElem?_append_left (by omega)]; exact hb)
        · have h2 : i + 1 = ini.length := by
            have := lt_of_getElem? hb
            simp at this; omega
          rw [List.getElem?_append_right h1, h2] at hb
          rw [List.getElem?_append_left (by omega)] at ha
          simp at hb; subst hb
          have := h.gap i a t (by rw [List.getElem?_append_left (by omega)]; exact ha) (by rw [List.getElem?_append_right h1, h2]; simp)
          unfold glue at this ⊢
          exact this
      · intro v
        rw [inside_append, inside_append, ← h.ins, inside_append, hone, Bool.or_assoc]
        congr 1
        have := glue_range ht hr htl hg v
        simp only [inside, List.any_cons, List.any_nil, Bool.or_false]
        exact this
      · intro x hx
        rw [List.mem_append] at hx
        rcases hx with hx | hx
        · obtain ⟨p, hp, e⟩ := h.low x (by simp [hx]); exact ⟨p, by simp [hp], e⟩
        · simp at hx; subst hx
          obtain ⟨p, hp, e⟩ := h.low t (by simp)
          exact ⟨p, by simp [hp], e⟩
theorem Inv.fold : ∀ (xs ps out : List Rng), Inv ps out → (ps ++ xs).Pairwise (fun a b => a.lo ≤ b.lo) → (∀ r ∈ xs, full r = true ∧ inI r) → Inv (ps ++ xs) (xs.foldl join out)
  | [], ps, out, h, _, _ => by simpa using h
  | x :: xs, ps, out, h, hp, hf => by
    have e : ps ++ x :: xs = (ps ++ [x]) ++ xs := by simp
    rw [e] at hp ⊢
    have hp1 := (List.pairwise_append.1 hp).1
    exact Inv.fold xs (ps ++ [x]) (join out x) (h.step (hf x (by simp)) fun p hp2 => (List.pairwise_append.1 hp1).2.2 p hp2 x (by simp)) hp (fun r hr => hf r (by simp [hr]))
theorem normal_inv {xs : List Rng} (hx : ∀ r ∈ xs, inI r) : Inv ((xs.filter full).mergeSort byLo) (normal xs) := by
  have hs : ((xs.filter full).mergeSort byLo).Pairwise (fun a b => a.lo ≤ b.lo) := by
    have := List.pairwise_mergeSort (le := byLo) (fun a b c h1 h2 => by simp [byLo] at *; omega) (fun a b => by simp [byLo]; omega) (xs.filter full)
    exact this.imp fun {a b} h => by simpa [byLo] using h
  have := Inv.fold ((xs.filter full).mergeSort byLo) [] [] ⟨by simp, .nil, by simp, fun _ => rfl, by simp⟩ (by simpa using hs) (fun r hr => by
    rw [List.mem_mergeSort, List.mem_filter] at hr
    exact ⟨hr.2, hx r hr.1⟩)
  unfold normal joinAll
  simpa using this
theorem inside_perm {xs ys : List Rng} (h : xs.Perm ys) (v : Int) : inside xs v = inside ys v := by
  unfold inside
  rw [Bool.eq_iff_iff, List.any_eq_true, List.any_eq_true]
  exact ⟨fun ⟨r, h1, h2⟩ => ⟨r, h.mem_iff.1 h1, h2⟩, fun ⟨r, h1, h2⟩ => ⟨r, h.mem_iff.2 h1, h2⟩⟩
theorem inside_full (xs : List Rng) (v : Int) : inside (xs.filter full) v = inside xs v := by
  unfold inside
  rw [Bool.eq_iff_iff, List.any_eq_true, List.any_eq_true]
  constructor
  · rintro ⟨r, h1, h2⟩; exact ⟨r, (List.mem_filter.1 h1).1, h2⟩
  · rintro ⟨r, h1, h2⟩
    refine ⟨r, List.mem_filter.2 ⟨h1, ?_⟩, h2⟩
    simp only [Bool.and_eq_true, decide_eq_true_eq] at h2
    simp only [full, decide_eq_true_eq]
    omega
theorem normal_inside {xs : List Rng} (hx : ∀ r ∈ xs, inI r) (v : Int) : inside (normal xs) v = inside xs v := by
  rw [(normal_inv hx).ins, inside_perm (List.mergeSort_perm _ _), inside_full]
theorem join_fix : ∀ (ys out : List Rng), (∀ (i : Nat) (a b : Rng), (out ++ ys)[i]? = some a → (out ++ ys)[i + 1]? = some b → glue a b = false) → ys.foldl join out = out ++ ys
  | [], out, _ => by simp
  | y :: ys, out, h => by
    have e : join out y = out ++ [y] := by
      unfold join
      cases hl : out.getLast? with
      | none => rfl
      | some t =>
        obtain ⟨ini, rfl⟩ := List.getLast?_eq_some_iff.1 hl
        have : glue t y = false := h ini.length t y (by simp) (by
          rw [List.append_assoc, List.getElem?_append_right (by omega)]
          simp)
        simp [this]
    simp only [List.foldl_cons, e]
    rw [join_fix ys (out ++ [y]) (by simpa using h)]
    simp
theorem normal_idem {xs : List Rng} (hx : ∀ r ∈ xs, inI r) : normal (normal xs) = normal xs := by
  have h := normal_inv hx
  have hf : (normal xs).filter full = normal xs := List.filter_eq_self.2 fun r hr => (h.f r hr).1
  have := normal_of (xs := normal xs) (ys := normal xs) (by rw [hf]) h.pw
  rw [← this]
  unfold joinAll
  have h2 := join_fix (normal xs) [] (by simpa using h.gap)
  simpa using h2
end Go.Proofs.YtpdohkcjhphibaaDoor.Bins
