/- The plain law of Normal: merging a list sorted by the lower ends does not depend on the order of equals; no program. -/
import Derived.Test.YtpdohkcjhphibaaDoorB2
set_option linter.unusedVariables false
namespace Go.Proofs.YtpdohkcjhphibaaDoor.Bins
open Go Go.Proofs.YtpdohkcjhphibaaDoor.Sm

def full (r : Rng) : Bool := decide (r.lo ≤ r.hi)
def glue (t r : Rng) : Bool := decide (r.lo ≤ t.hi) || decide (IntKind.i64.wrap (r.lo - 1) = t.hi)
/-- one range joins the ranges so far -/
def join (out : List Rng) (r : Rng) : List Rng := match out.getLast? with
  | some t => if glue t r then out.dropLast ++ [⟨t.lo, max t.hi r.hi⟩] else out ++ [r]
  | none => out ++ [r]
def joinAll (xs : List Rng) : List Rng := xs.foldl join []
def byLo (a b : Rng) : Bool := decide (a.lo ≤ b.lo)
def normal (xs : List Rng) : List Rng := joinAll ((xs.filter full).mergeSort byLo)

theorem join_swap {out : List Rng} {a b : Rng} (h : a.lo = b.lo) (ha : full a = true) (hb : full b = true) : join (join out a) b = join (join out b) a := by
  simp only [full, decide_eq_true_eq] at ha hb
  have key : ∀ (init : List Rng) (t r s : Rng), glue t s = true → (join (init ++ [t]) s) = init ++ [⟨t.lo, max t.hi s.hi⟩] := by
    intro init t r s hg
    simp [join, hg]
  cases hl : out.getLast? with
  | none =>
    have : out = [] := by simpa using hl
    subst this
    have e1 : join [] a = [] ++ [a] := rfl
    have e2 : join [] b = [] ++ [b] := rfl
    rw [e1, e2, key [] a a b (by simp [glue]; omega), key [] b b a (by simp [glue]; omega)]
    simp [h, Int.max_comm]
  | some t =>
    obtain ⟨init, rfl⟩ : ∃ init, out = init ++ [t] := by
      have := List.getLast?_eq_some_iff.1 hl
      exact this
    have hg : glue t a = glue t b := by unfold glue; rw [h]
    cases hc : glue t a with
    | true =>
      have hc' : glue t b = true := by rw [← hg]; exact hc
      rw [key init t a a hc, key init t b b hc', key init _ a b (by simp [glue]; omega), key init _ b a (by simp [glue]; omega)]
      simp only [Int.max_assoc, Int.max_comm a.hi b.hi]
    | false =>
      have hc' : glue t b = false := by rw [← hg]; exact hc
      have e1 : join (init ++ [t]) a = (init ++ [t]) ++ [a] := by simp [join, hc]
      have e2 : join (init ++ [t]) b = (init ++ [t]) ++ [b] := by simp [join, hc']
      rw [e1, e2, key (init ++ [t]) a a b (by simp [glue]; omega), key (init ++ [t]) b b a (by simp [glue]; omega)]
      simp [h, Int.max_comm]

/-- an element may be pulled to the front over equals -/
theorem pull {a : Rng} (ha : full a = true) : ∀ (pre : List Rng) (rest out : List Rng), (∀ x ∈ pre, x.lo = a.lo ∧ full x = true) → (pre ++ a :: rest).foldl join out = (a :: (pre ++ rest)).foldl join out
  | [], rest, out, _ => rfl
  | p :: pre, rest, out, h => by
    have hp := h p (by simp)
    have ih := pull ha pre rest (join out p) (fun x hx => h x (by simp [hx]))
    simp only [List.cons_append, List.foldl_cons] at ih ⊢
    rw [ih, join_swap hp.1 hp.2 ha]

theorem join_perm : ∀ (xs ys : List Rng) (out : List Rng), xs.Perm ys → xs.Pairwise (fun a b => a.lo ≤ b.lo) → ys.Pairwise (fun a b => a.lo ≤ b.lo) → (∀ x ∈ xs, full x = true) → xs.foldl join out = ys.foldl join out
  | [], ys, out, hp, _, _, _ => by rw [List.nil_perm.1 hp]
  | a :: xs, ys, out, hp, hx, hy, hf => by
    have hmem : a ∈ ys := hp.subset (by simp)
    obtain ⟨pre, rest, rfl⟩ := List.append_of_mem hmem
    have hpre : ∀ x ∈ pre, x.lo = a.lo ∧ full x = true := by
      intro x hxp
      have h1 : x.lo ≤ a.lo := (List.pairwise_append.1 hy).2.2 x hxp a (by simp)
      have h2 : x ∈ a :: xs := hp.symm.subset (by simp [hxp])
      have h3 : a.lo ≤ x.lo := by
        rcases List.mem_cons.1 h2 with rfl | h2
        · exact Int.le_refl _
        · exact (List.pairwise_cons.1 hx).1 x h2
      exact ⟨by omega, hf x h2⟩
    rw [pull (hf a (by simp)) pre rest out hpre]
    simp only [List.foldl_cons]
    have hp' : xs.Perm (pre ++ rest) := (List.perm_cons a).1 (hp.trans (List.perm_middle))
    refine join_perm xs (pre ++ rest) _ hp' (List.pairwise_cons.1 hx).2 ?_ (fun x h => hf x (by simp [h]))
    have := List.pairwise_append.1 hy
    rw [List.pairwise_append]
    exact ⟨this.1, (List.pairwise_cons.1 this.2.1).2, fun x h1 y h2 => this.2.2 x h1 y (by simp [h2])⟩

theorem normal_of {xs ys : List Rng} (hp : ys.Perm (xs.filter full)) (hs : ys.Pairwise (fun a b => a.lo ≤ b.lo)) : joinAll ys = normal xs := by
  unfold normal joinAll
  refine join_perm _ _ _ (hp.trans (List.mergeSort_perm _ _).symm) hs ?_ (fun x hx => by have := hp.subset hx; simp at this; exact this.2)
  have := List.pairwise_mergeSort (le := byLo) (fun a b c h1 h2 => by simp [byLo] at *; omega) (fun a b => by simp [byLo]; omega) (xs.filter full)
  exact this.imp (by simp [byLo])
end Go.Proofs.YtpdohkcjhphibaaDoor.Bins
