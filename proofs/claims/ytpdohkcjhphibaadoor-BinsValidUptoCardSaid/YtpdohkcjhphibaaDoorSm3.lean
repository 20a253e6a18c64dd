/- What memory steps do to the relation: a block that nobody owns turns, a block is taken up, let go, frozen; no condition. -/
import Derived.Test.YtpdohkcjhphibaaDoorSm2
set_option linter.unusedVariables false
namespace Go.Proofs.YtpdohkcjhphibaaDoor.Sm
open Go

theorem addr_add (b o n : Nat) : (Addr.mk b o none).add n = ⟨b, o + n, none⟩ := by
  unfold Addr.add; split
  · rename_i h; subst h; rfl
  · rfl

theorem list_of {α : Type} {n : Nat} {p : Nat → α → Prop} (h : ∀ j, j < n → ∃ c, p j c) : ∃ cs : List α, cs.length = n ∧ ∀ (j : Nat) (c : α), cs[j]? = some c → p j c := by
  induction n with
  | zero => exact ⟨[], rfl, by simp⟩
  | succ n ih =>
    obtain ⟨cs, h1, h2⟩ := ih (fun j hj => h j (by omega))
    obtain ⟨c, hc⟩ := h n (by omega)
    refine ⟨cs ++ [c], by simp [h1], fun j d hd => ?_⟩
    rw [List.getElem?_append] at hd
    split at hd
    · exact h2 j d hd
    · rename_i hj
      have : j = n := by
        have h3 : j - cs.length < 1 := by
          rcases Nat.lt_or_ge (j - cs.length) 1 with h | h
          · exact h
          · rw [List.getElem?_eq_none (by simpa using h)] at hd; cases hd
        omega
      subst this
      have : j - cs.length = 0 := by omega
      rw [this] at hd
      simp at hd; subst hd; exact hc

/-- nobody alive owns the concrete block -/
def unowned (g : Gh) (h : List ABlk) (cb : Nat) : Prop := ∀ b x l, h[b]? = some x → x ≠ .dead → g.μ b = some l → l.cb ≠ cb

theorem SimH.fro_ne {E : Env} {g : Gh} {h : List ABlk} {w : World} (S : SimH E g h w) {k : Nat} {o : Obj} (hk : g.M k = some o) : k < w.heap.size := by
  have := S.fro k o hk
  rcases Nat.lt_or_ge k w.heap.size with h | h
  · exact h
  · simp [Array.getElem?_eq_none h] at this

/-- P1: the world turns at blocks that are neither frozen nor owned -/
theorem SimH.world {E : Env} {g : Gh} {h : List ABlk} {w w' : World} (S : SimH E g h w) (h1 : w'.os = w.os) (h2 : w'.tape = w.tape) (h3 : w'.output = w.output)
    (hb : ∀ k, ((∃ o, g.M k = some o) ∨ ¬ unowned g h k) → w'.heap[k]? = w.heap[k]?) : SimH E g h w' where
  os := h1.trans S.os
  tape := h2.trans S.tape
  output := h3.trans S.output
  fro k o hk := (hb k (.inl ⟨o, hk⟩)).trans (S.fro k o hk)
  live b k xs hx := by
    obtain ⟨l, c, e, q1, q2, q3, q4, q5⟩ := S.live b k xs hx
    refine ⟨l, c, e, q1, q2, q3, ?_, q5⟩
    rw [hb l.cb (.inr fun hu => hu b _ l hx (by simp) q1 rfl)]; exact q4
  iter b s pos hx := by
    obtain ⟨l, q1, q2, q3, q4, q5⟩ := S.iter b s pos hx
    refine ⟨l, q1, q2, q3, q4, ?_⟩
    rw [hb l.cb (.inr fun hu => hu b _ l hx (by simp) q1 rfl)]; exact q5
  inj := S.inj
  fresh := S.fresh
  glob := S.glob

/-- P3: a block is let go -/
theorem SimH.kill {E : Env} {g : Gh} {h : List ABlk} {w : World} (S : SimH E g h w) (b : Nat) : SimH E g (h.set b .dead) w where
  os := S.os
  tape := S.tape
  output := S.output
  fro := S.fro
  live b' k xs hx := by
    rw [List.getElem?_set] at hx
    split at hx
    · split at hx <;> simp at hx
    · exact S.live b' k xs hx
  iter b' s pos hx := by
    rw [List.getElem?_set] at hx
    split at hx
    · split at hx <;> simp at hx
    · exact S.iter b' s pos hx
  inj b1 b2 x x' l l' e1 n1 e2 n2 := by
    rw [List.getElem?_set] at e1 e2
    split at e1
    · split at e1 <;> simp at e1; exact absurd e1.symm n1
    · split at e2
      · split at e2 <;> simp at e2; exact absurd e2.symm n2
      · exact S.inj b1 b2 x x' l l' e1 n1 e2 n2
  fresh b' hb := S.fresh b' (by simpa using hb)
  glob := S.glob

theorem unowned_kill {E : Env} {g : Gh} {h : List ABlk} {w : World} (S : SimH E g h w) {b : Nat} {x : ABlk} {l : Loc} (hx : h[b]? = some x) (hn : x ≠ .dead) (hl : g.μ b = some l) :
    unowned g (h.set b .dead) l.cb := by
  intro b' x' l' e1 n1 e2 e3
  rw [List.getElem?_set] at e1
  split at e1
  · split at e1 <;> simp at e1; exact absurd e1.symm n1
  · rename_i hne; exact hne (S.inj b b' x x' l l' hx hn e1 n1 hl e2 e3.symm)

/-- what a live block must hold -/
def holdsRows (g : Gh) (c : Array Value) (co k : Nat) (xs : List (List AV)) : Prop :=
  co + xs.length * k ≤ c.size ∧ rowsOk k xs ∧ ∀ (i j : Nat) (row : List AV) (v : AV), xs[i]? = some row → row[j]? = some v → ∃ cv, c[co + i * k + j]? = some cv ∧ Rep g v cv

def Gh.adopt (g : Gh) (b : Nat) (l : Loc) : Gh := { g with μ := fun x => if x = b then some l else g.μ x }

theorem Gh.adopt_le {g : Gh} {b : Nat} {l : Loc} (h : g.μ b = none) : g.le (g.adopt b l) :=
  ⟨fun _ _ h => h, fun x y hx => by simp only [Gh.adopt]; split <;> simp_all, rfl, rfl, rfl⟩

/-- P2: a new abstract block over a concrete one that nobody owns -/
theorem SimH.adopt {E : Env} {g : Gh} {h : List ABlk} {w : World} (S : SimH E g h w) {cb co k : Nat} {c : Array Value} {e : TypeId} {xs : List (List AV)}
    (hw : w.heap[cb]? = some (.cells c e (0, 0))) (hM : g.M cb = none) (hu : unowned g h cb) (hr : holdsRows g c co k xs) :
    SimH E (g.adopt h.length ⟨cb, co, k, c.size⟩) (h ++ [.live k xs]) w := by
  have hle := Gh.adopt_le (l := ⟨cb, co, k, c.size⟩) (S.fresh h.length (Nat.le_refl _))
  have old : ∀ b, b < h.length → (g.adopt h.length ⟨cb, co, k, c.size⟩).μ b = g.μ b := fun b hb => by simp only [Gh.adopt]; rw [if_neg (by omega)]
  have new : (g.adopt h.length ⟨cb, co, k, c.size⟩).μ h.length = some ⟨cb, co, k, c.size⟩ := by simp [Gh.adopt]
  have split : ∀ b x, (h ++ [ABlk.live k xs])[b]? = some x → (b < h.length ∧ h[b]? = some x) ∨ (b = h.length ∧ x = .live k xs) := by
    intro b x hx
    rw [List.getElem?_append] at hx
    split at hx
    · rename_i hb; exact .inl ⟨hb, hx⟩
    · rename_i hb
      right
      have : b - h.length = 0 := by
        rcases Nat.eq_zero_or_pos (b - h.length) with h0 | h0
        · exact h0
        · rw [List.getElem?_eq_none (by simp; omega)] at hx; cases hx
      rw [this] at hx
      simp at hx
      exact ⟨by omega, hx.symm⟩
  exact {
    os := S.os, tape := S.tape, output := S.output, fro := S.fro
    live := by
      intro b k' xs' hx
      rcases split b _ hx with ⟨hb, hy⟩ | ⟨rfl, hy⟩
      · obtain ⟨l, c', e', q1, q2, q3, q4, q5, q6, q7, q8⟩ := S.live b k' xs' hy
        exact ⟨l, c', e', by rw [old b hb]; exact q1, q2, q3, q4, q5, q6, q7, fun i j row v r1 r2 => let ⟨cv, s1, s2⟩ := q8 i j row v r1 r2; ⟨cv, s1, s2.mono hle⟩⟩
      · cases hy
        exact ⟨_, c, e, new, rfl, hM, hw, rfl, hr.1, hr.2.1, fun i j row v r1 r2 => let ⟨cv, s1, s2⟩ := hr.2.2 i j row v r1 r2; ⟨cv, s1, s2.mono hle⟩⟩
    iter := by
      intro b s pos hx
      rcases split b _ hx with ⟨hb, hy⟩ | ⟨rfl, hy⟩
      · obtain ⟨l, q1, q2⟩ := S.iter b s pos hy
        exact ⟨l, by rw [old b hb]; exact q1, q2⟩
      · cases hy
    inj := by
      intro b b' x x' l l' e1 n1 e2 n2 m1 m2 hcb
      rcases split b _ e1 with ⟨hb, e1⟩ | ⟨rfl, e1⟩ <;> rcases split b' _ e2 with ⟨hb', e2⟩ | ⟨rfl, e2⟩
      · rw [old b hb] at m1; rw [old b' hb'] at m2; exact S.inj b b' x x' l l' e1 n1 e2 n2 m1 m2 hcb
      · rw [old b hb] at m1; rw [new] at m2; cases m2; exact absurd hcb (hu b x l e1 n1 m1)
      · rw [new] at m1; rw [old b' hb'] at m2; cases m1; exact absurd hcb.symm (hu b' x' l' e2 n2 m2)
      · rfl
    fresh := by
      intro b hb
      simp at hb
      simp only [Gh.adopt]; rw [if_neg (by omega)]; exact S.fresh b (by omega)
    glob := S.glob }

/-- P2': a new string iterator -/
theorem SimH.adopt_iter {E : Env} {g : Gh} {h : List ABlk} {w : World} (S : SimH E g h w) {cb : Nat} {s : ByteArray} {pos : Nat}
    (hw : w.heap[cb]? = some (.stringIter s pos)) (hM : g.M cb = none) (hu : unowned g h cb) :
    SimH E (g.adopt h.length ⟨cb, 0, 0, 0⟩) (h ++ [.iter s pos]) w := by
  have hle := Gh.adopt_le (l := ⟨cb, 0, 0, 0⟩) (S.fresh h.length (Nat.le_refl _))
  have old : ∀ b, b < h.length → (g.adopt h.length ⟨cb, 0, 0, 0⟩).μ b = g.μ b := fun b hb => by simp only [Gh.adopt]; rw [if_neg (by omega)]
  have new : (g.adopt h.length ⟨cb, 0, 0, 0⟩).μ h.length = some ⟨cb, 0, 0, 0⟩ := by simp [Gh.adopt]
  have split : ∀ b x, (h ++ [ABlk.iter s pos])[b]? = some x → (b < h.length ∧ h[b]? = some x) ∨ (b = h.length ∧ x = .iter s pos) := by
    intro b x hx
    rw [List.getElem?_append] at hx
    split at hx
    · rename_i hb; exact .inl ⟨hb, hx⟩
    · rename_i hb
      right
      have : b - h.length = 0 := by
        rcases Nat.eq_zero_or_pos (b - h.length) with h0 | h0
        · exact h0
        · rw [List.getElem?_eq_none (by simp; omega)] at hx; cases hx
      rw [this] at hx
      simp at hx
      exact ⟨by omega, hx.symm⟩
  exact {
    os := S.os, tape := S.tape, output := S.output, fro := S.fro
    live := by
      intro b k' xs' hx
      rcases split b _ hx with ⟨hb, hy⟩ | ⟨rfl, hy⟩
      · obtain ⟨l, c', e', q1, q2, q3, q4, q5, q6, q7, q8⟩ := S.live b k' xs' hy
        exact ⟨l, c', e', by rw [old b hb]; exact q1, q2, q3, q4, q5, q6, q7, fun i j row v r1 r2 => let ⟨cv, s1, s2⟩ := q8 i j row v r1 r2; ⟨cv, s1, s2.mono hle⟩⟩
      · cases hy
    iter := by
      intro b s' pos' hx
      rcases split b _ hx with ⟨hb, hy⟩ | ⟨rfl, hy⟩
      · obtain ⟨l, q1, q2⟩ := S.iter b s' pos' hy
        exact ⟨l, by rw [old b hb]; exact q1, q2⟩
      · cases hy
        exact ⟨_, new, rfl, rfl, hM, hw⟩
    inj := by
      intro b b' x x' l l' e1 n1 e2 n2 m1 m2 hcb
      rcases split b _ e1 with ⟨hb, e1⟩ | ⟨rfl, e1⟩ <;> rcases split b' _ e2 with ⟨hb', e2⟩ | ⟨rfl, e2⟩
      · rw [old b hb] at m1; rw [old b' hb'] at m2; exact S.inj b b' x x' l l' e1 n1 e2 n2 m1 m2 hcb
      · rw [old b hb] at m1; rw [new] at m2; cases m2; exact absurd hcb (hu b x l e1 n1 m1)
      · rw [new] at m1; rw [old b' hb'] at m2; cases m1; exact absurd hcb.symm (hu b' x' l' e2 n2 m2)
      · rfl
    fresh := by
      intro b hb
      simp at hb
      simp only [Gh.adopt]; rw [if_neg (by omega)]; exact S.fresh b (by omega)
    glob := S.glob }

/-- P5: a dead abstract block whose concrete one nobody owns lives again -/
theorem SimH.revive {E : Env} {g : Gh} {h : List ABlk} {w : World} (S : SimH E g h w) {b : Nat} {l : Loc} {c : Array Value} {e : TypeId} {xs : List (List AV)}
    (hl : g.μ b = some l) (hw : w.heap[l.cb]? = some (.cells c e (0, 0))) (hsz : c.size = l.sz) (hM : g.M l.cb = none) (hu : unowned g h l.cb) (hr : holdsRows g c l.co l.k xs) :
    SimH E g (h.set b (.live l.k xs)) w where
  os := S.os
  tape := S.tape
  output := S.output
  fro := S.fro
  live b' k' xs' hx := by
    rw [List.getElem?_set] at hx
    split at hx
    · rename_i hb; subst hb
      split at hx <;> simp at hx
      obtain ⟨rfl, rfl⟩ := hx
      exact ⟨l, c, e, hl, rfl, hM, hw, hsz, hsz ▸ hr.1, hr.2.1, hr.2.2⟩
    · exact S.live b' k' xs' hx
  iter b' s pos hx := by
    rw [List.getElem?_set] at hx
    split at hx
    · split at hx <;> simp at hx
    · exact S.iter b' s pos hx
  inj b1 b2 x x' l1 l2 e1 n1 e2 n2 m1 m2 hcb := by
    rw [List.getElem?_set] at e1 e2
    split at e1 <;> split at e2
    · rename_i a1 a2; rw [← a1, ← a2]
    · rename_i a1 a2; subst a1; rw [hl] at m1; cases m1; exact absurd hcb.symm (hu b2 x' l2 e2 n2 m2)
    · rename_i a1 a2; subst a2; rw [hl] at m2; cases m2; exact absurd hcb (hu b1 x l1 e1 n1 m1)
    · exact S.inj b1 b2 x x' l1 l2 e1 n1 e2 n2 m1 m2 hcb
  fresh b' hb := S.fresh b' (by simpa using hb)
  glob := S.glob
theorem SimH.revive_iter {E : Env} {g : Gh} {h : List ABlk} {w : World} (S : SimH E g h w) {b : Nat} {l : Loc} {s : ByteArray} {pos : Nat}
    (hl : g.μ b = some l) (h0 : l.co = 0) (h1 : l.k = 0) (hw : w.heap[l.cb]? = some (.stringIter s pos)) (hM : g.M l.cb = none) (hu : unowned g h l.cb) :
    SimH E g (h.set b (.iter s pos)) w where
  os := S.os
  tape := S.tape
  output := S.output
  fro := S.fro
  live b' k' xs' hx := by
    rw [List.getElem?_set] at hx
    split at hx
    · split at hx <;> simp at hx
    · exact S.live b' k' xs' hx
  iter b' s' pos' hx := by
    rw [List.getElem?_set] at hx
    split at hx
    · rename_i hb; subst hb
      split at hx <;> simp at hx
      obtain ⟨rfl, rfl⟩ := hx
      exact ⟨l, hl, h0, h1, hM, hw⟩
    · exact S.iter b' s' pos' hx
  inj b1 b2 x x' l1 l2 e1 n1 e2 n2 m1 m2 hcb := by
    rw [List.getElem?_set] at e1 e2
    split at e1 <;> split at e2
    · rename_i a1 a2; rw [← a1, ← a2]
    · rename_i a1 a2; subst a1; rw [hl] at m1; cases m1; exact absurd hcb.symm (hu b2 x' l2 e2 n2 m2)
    · rename_i a1 a2; subst a2; rw [hl] at m2; cases m2; exact absurd hcb (hu b1 x l1 e1 n1 m1)
    · exact S.inj b1 b2 x x' l1 l2 e1 n1 e2 n2 m1 m2 hcb
  fresh b' hb := S.fresh b' (by simpa using hb)
  glob := S.glob

def Gh.freeze (g : Gh) (cb : Nat) (o : Obj) : Gh := { g with M := fun x => if x = cb then some o else g.M x }
theorem Gh.freeze_le {g : Gh} {cb : Nat} {o : Obj} (h : g.M cb = none) : g.le (g.freeze cb o) :=
  ⟨fun k o' hk => by simp only [Gh.freeze]; split <;> simp_all, fun _ _ h => h, rfl, rfl, rfl⟩

/-- P4: a concrete block that nobody owns is frozen -/
theorem SimH.freeze {E : Env} {g : Gh} {h : List ABlk} {w : World} (S : SimH E g h w) {cb : Nat} {o : Obj} (hw : w.heap[cb]? = some o) (hM : g.M cb = none) (hu : unowned g h cb) :
    SimH E (g.freeze cb o) h w := by
  have hle := Gh.freeze_le (o := o) hM
  have hne : ∀ l, g.M l = none → l ≠ cb → (g.freeze cb o).M l = none := fun l h0 h1 => by simp only [Gh.freeze]; rw [if_neg h1]; exact h0
  exact {
    os := S.os, tape := S.tape, output := S.output
    fro := by
      intro k o' hk
      simp only [Gh.freeze] at hk
      split at hk
      · rename_i hkc; cases hk; rw [hkc]; exact hw
      · exact S.fro k o' hk
    live := by
      intro b k xs hx
      obtain ⟨l, c', e', q1, q2, q3, q4, q5, q6, q7, q8⟩ := S.live b k xs hx
      exact ⟨l, c', e', q1, q2, hne _ q3 (hu b _ l hx (by simp) q1), q4, q5, q6, q7, fun i j row v r1 r2 => let ⟨cv, s1, s2⟩ := q8 i j row v r1 r2; ⟨cv, s1, s2.mono hle⟩⟩
    iter := by
      intro b s pos hx
      obtain ⟨l, q1, q2, q3, q4, q5⟩ := S.iter b s pos hx
      exact ⟨l, q1, q2, q3, hne _ q4 (hu b _ l hx (by simp) q1), q5⟩
    inj := S.inj
    fresh := S.fresh
    glob := fun n => (S.glob n).mono hle.M }

theorem SimH.unowned_new {E : Env} {g : Gh} {h : List ABlk} {w : World} (S : SimH E g h w) {cb : Nat} (hcb : w.heap.size ≤ cb) : unowned g h cb ∧ g.M cb = none := by
  constructor
  · intro b x l hx hn hl he
    cases x with
    | dead => exact hn rfl
    | live k xs =>
      obtain ⟨l', c, e, q1, _, _, q4, _⟩ := S.live b k xs hx
      rw [hl] at q1; cases q1
      rw [he, Array.getElem?_eq_none hcb] at q4; cases q4
    | iter s pos =>
      obtain ⟨l', q1, _, _, _, q5⟩ := S.iter b s pos hx
      rw [hl] at q1; cases q1
      rw [he, Array.getElem?_eq_none hcb] at q5; cases q5
  · cases hM : g.M cb with
    | none => rfl
    | some o => have := S.fro_ne hM; omega

/-- a world with a new block on top (draws do not count) -/
structure Grew (w w' : World) (o : Obj) : Prop where
  os : w'.os = w.os
  tape : w'.tape = w.tape
  output : w'.output = w.output
  heap : w'.heap = w.heap.push o

theorem SimH.grew {E : Env} {g : Gh} {h : List ABlk} {w w' : World} {o : Obj} (S : SimH E g h w) (hw : Grew w w' o) : SimH E g h w' ∧ w'.heap[w.heap.size]? = some o := by
  refine ⟨S.world hw.os hw.tape hw.output fun k hk => ?_, by rw [hw.heap]; simp⟩
  have hlt : k < w.heap.size := by
    rcases Nat.lt_or_ge k w.heap.size with hlt | hge
    · exact hlt
    · obtain ⟨u1, u2⟩ := S.unowned_new hge
      rcases hk with ⟨o', ho⟩ | hk
      · rw [u2] at ho; cases ho
      · exact absurd u1 hk
  rw [hw.heap, Array.getElem?_push, if_neg (by omega)]

/-- a new block of the call's own -/
theorem SimH.new {E : Env} {g : Gh} {h : List ABlk} {w w' : World} {c : Array Value} {e : TypeId} {k : Nat} {xs : List (List AV)} (S : SimH E g h w) (hw : Grew w w' (.cells c e (0, 0)))
    (hr : holdsRows g c 0 k xs) : SimH E (g.adopt h.length ⟨w.heap.size, 0, k, c.size⟩) (h ++ [.live k xs]) w' ∧ g.le (g.adopt h.length ⟨w.heap.size, 0, k, c.size⟩) := by
  obtain ⟨S', h0⟩ := S.grew hw
  obtain ⟨u1, u2⟩ := S.unowned_new (Nat.le_refl _)
  exact ⟨S'.adopt h0 u2 u1 hr, Gh.adopt_le (S.fresh _ (Nat.le_refl _))⟩
/-- a new block, frozen at once -/
theorem SimH.newF {E : Env} {g : Gh} {h : List ABlk} {w w' : World} {o : Obj} (S : SimH E g h w) (hw : Grew w w' o) :
    SimH E (g.freeze w.heap.size o) h w' ∧ g.le (g.freeze w.heap.size o) ∧ (g.freeze w.heap.size o).M w.heap.size = some o := by
  obtain ⟨S', h0⟩ := S.grew hw
  obtain ⟨u1, u2⟩ := S.unowned_new (Nat.le_refl _)
  exact ⟨S'.freeze h0 u2 u1, Gh.freeze_le u2, by simp [Gh.freeze]⟩

/-- what a run of stores leaves: one block written at a row of places -/
structure Wrote (w w' : World) (cb : Nat) (e : TypeId) (c c' : Array Value) (off : Nat) (vs : List Value) : Prop where
  os : w'.os = w.os
  tape : w'.tape = w.tape
  output : w'.output = w.output
  here : w'.heap[cb]? = some (.cells c' e (0, 0))
  size : c'.size = c.size
  cells : ∀ j, c'[j]? = if off ≤ j ∧ j < off + vs.length then vs[j - off]? else c[j]?
  else_ : ∀ k, k ≠ cb → w'.heap[k]? = w.heap[k]?

theorem run_storeCells (P : Program) (cb off : Nat) (e : TypeId) : ∀ (vs : List Value) (i : Nat) (w : World) (c : Array Value), w.heap[cb]? = some (.cells c e (0, 0)) → off + i + vs.length ≤ c.size →
    (∀ v ∈ vs, v.oneCell' = true) → ∃ w' c', (storeCells ⟨cb, off, none⟩ vs i).run P w = .ok () w' ∧ Wrote w w' cb e c c' (off + i) vs
  | [], i, w, c, hw, _, _ => ⟨w, c, by simp [storeCells], ⟨rfl, rfl, rfl, hw, rfl, fun j => by rw [if_neg (by simp)], fun _ _ => rfl⟩⟩
  | v :: vs, i, w, c, hw, hlen, h1 => by
    simp only [List.length_cons] at hlen
    have hcell : w.cell? ⟨cb, off + i, none⟩ = some (c[off + i]'(by omega)) := by
      simp [World.cell?, hw]
    have hfz : w.frozen? ⟨cb, off + i, none⟩ = false := by simp [World.frozen?, hw]
    have hstep : (store ((Addr.mk cb off none).add i) v).run P w = .ok () (w.setCell ⟨cb, off + i, none⟩ v) := by
      rw [addr_add, run_store P w _ v .plain (h1 v (by simp)), hcell]
      simp [hfz]
    have hw1 : (w.setCell ⟨cb, off + i, none⟩ v).heap[cb]? = some (.cells (c.setIfInBounds (off + i) v) e (0, 0)) := by
      simp [World.setCell, Array.getElem?_modify, hw]
    obtain ⟨w', c', hrun, hW⟩ := run_storeCells P cb off e vs (i + 1) _ _ hw1 (by simp; omega) (fun u hu => h1 u (by simp [hu]))
    refine ⟨w', c', ?_, ?_⟩
    · simp only [storeCells, Sem.run_bind, hstep, Result.andThen_ok, hrun]
    · exact {
        os := hW.os, tape := hW.tape, output := hW.output, here := hW.here
        size := by rw [hW.size]; simp
        cells := by
          intro j
          rw [hW.cells j]
          simp only [List.length_cons]
          by_cases h2 : off + (i + 1) ≤ j ∧ j < off + (i + 1) + vs.length
          · rw [if_pos h2, if_pos (by omega)]
            have : j - (off + i) = (j - (off + (i + 1))) + 1 := by omega
            rw [this]; simp
          · rw [if_neg h2]
            by_cases h3 : j = off + i
            · subst h3
              rw [if_pos (by omega)]
              have : off + i < c.size := by omega
              simp [this]
            · rw [if_neg (by omega), Array.getElem?_setIfInBounds_ne (by omega)]
        else_ := by
          intro k hk
          rw [hW.else_ k hk]
          simp only [World.setCell, Array.getElem?_modify]
          rw [if_neg (by simpa using fun h => hk h.symm)] }

/-- a live block is written -/
theorem SimH.write {E : Env} {g : Gh} {h : List ABlk} {w w' : World} {b k : Nat} {xs xs' : List (List AV)} {l : Loc} {c c' : Array Value} {e : TypeId} {off : Nat} {vs : List Value} (S : SimH E g h w)
    (hb : h[b]? = some (.live k xs)) (hl : g.μ b = some l) (hw : Wrote w w' l.cb e c c' off vs) (hsz : c.size = l.sz) (hr : holdsRows g c' l.co l.k xs') : SimH E g (h.set b (.live l.k xs')) w' := by
  have S1 := S.kill b
  have u := unowned_kill S hb (by simp) hl
  obtain ⟨l', c0, e0, q1, q2, q3, q4, q5, _⟩ := S.live b k xs hb
  rw [hl] at q1; cases q1
  have S2 : SimH E g (h.set b .dead) w' := S1.world hw.os hw.tape hw.output fun k' hk => by
    refine hw.else_ k' fun he => ?_
    subst he
    rcases hk with ⟨o, ho⟩ | hk
    · rw [q3] at ho; cases ho
    · exact hk u
  have := S2.revive hl hw.here (hw.size.trans hsz) q3 u hr
  simpa using this
end Go.Proofs.YtpdohkcjhphibaaDoor.Sm
