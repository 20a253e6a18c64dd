/- What a value reads as, type by type: readers that are put together as the type is; no condition. -/
import Derived.Test.YtpdohkcjhphibaaDoorSg
set_option linter.unusedVariables false
namespace Go.Proofs.YtpdohkcjhphibaaDoor.Sm
open Go
open Rows (uptoBulk uptoBulkAll)

def RowP (M : Nat → Option Obj) (rs : List AV) (cs : List Value) : Prop := ∀ (j : Nat) (a : AV), rs[j]? = some a → a.leaf = true ∧ ∃ c, cs[j]? = some c ∧ RepF M a c

theorem RowP.nil (M : Nat → Option Obj) (cs : List Value) : RowP M [] cs := fun j a h => by simp at h
theorem RowP.one {M : Nat → Option Obj} {a : AV} {c : Value} (hl : a.leaf = true) (h : RepF M a c) : RowP M [a] [c] := by
  intro j b hb
  cases j with
  | zero => simp at hb; subst hb; exact ⟨hl, c, rfl, h⟩
  | succ j => simp at hb
theorem RowP.append {M : Nat → Option Obj} {rs bs : List AV} {cs : List Value} {n : Nat} (h : RowP M rs (cs.take n)) (hn : rs.length = n) (k : RowP M bs (cs.drop n)) : RowP M (rs ++ bs) cs := by
  intro j a ha
  rw [List.getElem?_append] at ha
  split at ha
  · obtain ⟨h1, c, h2, h3⟩ := h j a ha
    rw [List.getElem?_take] at h2
    split at h2
    · exact ⟨h1, c, h2, h3⟩
    · cases h2
  · obtain ⟨h1, c, h2, h3⟩ := k _ a ha
    rw [List.getElem?_drop] at h2
    exact ⟨h1, c, by rw [← h2]; congr 1; omega, h3⟩

def RdAt (P : Program) (n : Nat) (t : TypeId) {α : Type} (enc : α → List AV) (ok : α → Nat → Prop) : Prop :=
  ∀ (H : Type) (ench : TypeId × Value → H) (w : World) (cs : List Value) (d : DataW H) (ps : List MemPlace),
    DataW.trod ench P w 0 (fun _ => true) true n t cs = some (d, ps) → ∃ x, ok x (uptoBulk d) ∧ RowP (M0 w) (enc x) cs
def Rd (P : Program) (t : TypeId) {α : Type} (enc : α → List AV) (ok : α → Nat → Prop) : Prop := ∀ n, RdAt P n t enc ok

theorem RdAt.zero {P : Program} {t : TypeId} {α : Type} {enc : α → List AV} {ok : α → Nat → Prop} : RdAt P 0 t enc ok := by
  intro H ench w cs d ps h; simp [DataW.trod] at h
theorem RdAt.map {P : Program} {n : Nat} {t : TypeId} {α β : Type} {enc : α → List AV} {ok : α → Nat → Prop} {enc' : β → List AV} {ok' : β → Nat → Prop} (f : α → β) (h : RdAt P n t enc ok)
    (he : ∀ x, enc' (f x) = enc x) (hk : ∀ x b, ok x b → ok' (f x) b) : RdAt P n t enc' ok' := by
  intro H ench w cs d ps ht
  obtain ⟨x, h1, h2⟩ := h H ench w cs d ps ht
  exact ⟨f x, hk x _ h1, by rw [he]; exact h2⟩
theorem Rd.map {P : Program} {t : TypeId} {α β : Type} {enc : α → List AV} {ok : α → Nat → Prop} {enc' : β → List AV} {ok' : β → Nat → Prop} (f : α → β) (h : Rd P t enc ok)
    (he : ∀ x, enc' (f x) = enc x) (hk : ∀ x b, ok x b → ok' (f x) b) : Rd P t enc' ok' := fun n => (h n).map f he hk

def okI (z : Int) (_ : Nat) : Prop := -9223372036854775808 ≤ z ∧ z ≤ 9223372036854775807
def okS (s : ByteArray) (b : Nat) : Prop := s.size + 1 ≤ b
def okT {α : Type} (_ : α) (_ : Nat) : Prop := True
/-- a list's bulk is shared out among its elements -/
def okL {α : Type} (ok : α → Nat → Prop) : List α → Nat → Prop
  | [], _ => True
  | x :: xs, b => ∃ b1 b2, b1 + b2 ≤ b ∧ 1 ≤ b1 ∧ ok x b1 ∧ okL ok xs b2
theorem okL.length {α : Type} {ok : α → Nat → Prop} : ∀ {xs : List α} {b : Nat}, okL ok xs b → xs.length ≤ b
  | [], _, _ => Nat.zero_le _
  | _ :: _, _, ⟨_, _, h1, h2, _, h4⟩ => by have := okL.length h4; simp; omega
theorem okL.each {α : Type} {ok : α → Nat → Prop} : ∀ {xs : List α} {b : Nat}, okL ok xs b → ∀ x ∈ xs, ∃ b1, b1 ≤ b ∧ ok x b1
  | [], _, _, _, h => by cases h
  | y :: ys, b, ⟨b1, b2, h1, h2, h3, h4⟩, x, h => by
    cases List.mem_cons.1 h with
    | inl e => subst e; exact ⟨b1, by omega, h3⟩
    | inr e => obtain ⟨b3, h5, h6⟩ := okL.each h4 x e; exact ⟨b3, by omega, h6⟩
theorem okL.mono {α : Type} {ok : α → Nat → Prop} : ∀ {xs : List α} {b b' : Nat}, okL ok xs b → b ≤ b' → okL ok xs b'
  | [], _, _, _, _ => trivial
  | _ :: _, _, _, ⟨b1, b2, h1, h2, h3, h4⟩, h => ⟨b1, b2, by omega, h2, h3, h4⟩

theorem bulk_pos {H : Type} (d : DataW H) : 1 ≤ uptoBulk d := by
  cases d with
  | lit l => cases l <;> simp [uptoBulk]
  | nil => simp [uptoBulk]
  | ptr d => simp [uptoBulk]
  | slice elems spare => simp [uptoBulk]
  | agg parts => simp [uptoBulk]
  | iface t d => simp [uptoBulk]
  | map entries => simp [uptoBulk]
  | held h => simp [uptoBulk]

theorem rd_int {P : Program} {t : TypeId} (hu : P.underlying t = some (.int .i64)) : Rd P t (fun z : Int => [.int .i64 z]) okI := by
  intro n H ench w cs d ps h
  obtain ⟨z, rfl, hx, hz⟩ := DataW.trod_int hu h
  refine ⟨z, ?_, RowP.one rfl (.int _ _)⟩
  simp only [Lit.wf, Bool.and_eq_true, decide_eq_true_eq] at hz
  exact hz
theorem rd_u16 {P : Program} {t : TypeId} (hu : P.underlying t = some (.int .u16)) : Rd P t (fun z : Int => [.int .u16 z]) (fun z _ => 0 ≤ z ∧ z ≤ 65535) := by
  intro n H ench w cs d ps h
  obtain ⟨z, rfl, hx, hz⟩ := DataW.trod_int hu h
  refine ⟨z, ?_, RowP.one rfl (.int _ _)⟩
  simp only [Lit.wf, Bool.and_eq_true, decide_eq_true_eq] at hz
  exact hz
theorem rd_bool {P : Program} {t : TypeId} (hu : P.underlying t = some .bool) : Rd P t (fun z : Bool => [.bool z]) okT := by
  intro n H ench w cs d ps h
  obtain ⟨z, rfl, hx⟩ := DataW.trod_bool hu h
  exact ⟨_, trivial, RowP.one rfl (.bool _)⟩
theorem rd_str {P : Program} {t : TypeId} (hu : P.underlying t = some .string) : Rd P t (fun z : ByteArray => [.str z]) okS := by
  intro n H ench w cs d ps h
  obtain ⟨s, rfl, hx, _⟩ := DataW.trod_string hu h
  cases hx
  refine ⟨s, ?_, RowP.one rfl (.str _)⟩
  simp only [okS, uptoBulk, Array.length_toList]
  exact Nat.le_refl _

theorem mapM_cons_some {α β : Type} {f : α → Option β} {x : α} {xs : List α} {ys : List β} (h : (x :: xs).mapM f = some ys) : ∃ y zs, f x = some y ∧ xs.mapM f = some zs ∧ ys = y :: zs := by
  rw [List.mapM_cons] at h
  cases hx : f x with
  | none => simp [hx] at h
  | some y =>
    cases hz : xs.mapM f with
    | none => simp [hx, hz] at h
    | some zs => simp [hx, hz] at h; exact ⟨y, zs, rfl, rfl, h.symm⟩
/-- elements, one by one -/
theorem rd_elems {P : Program} {n : Nat} {e : TypeId} {α : Type} {enc : α → List AV} {ok : α → Nat → Prop} (hr : RdAt P n e enc ok) {H : Type} {ench : TypeId × Value → H} {w : World} :
    ∀ (zs : List (DataW H × List MemPlace)) (cells : Nat → Option (List Value)), (∀ i, i < zs.length → (cells i).bind (DataW.trod ench P w 0 (fun _ => true) true n e) = zs[i]?) →
      ∃ xs : List α, xs.length = zs.length ∧ okL ok xs (uptoBulkAll (zs.map (·.1))) ∧ ∀ (i : Nat) (x : α), xs[i]? = some x → ∃ cs, cells i = some cs ∧ RowP (M0 w) (enc x) cs
  | [], cells, h => ⟨[], rfl, trivial, fun i x h => by simp at h⟩
  | y :: zs, cells, h => by
    have h0 := h 0 (by simp)
    cases hc : cells 0 with
    | none => simp [hc] at h0
    | some cs =>
      simp only [hc, Option.bind_some, List.getElem?_cons_zero] at h0
      obtain ⟨x, k1, k2⟩ := hr H ench w cs y.1 y.2 h0
      obtain ⟨xs, l1, l2, l3⟩ := rd_elems hr zs (fun i => cells (i + 1)) (fun i hi => by have := h (i + 1) (by simpa using hi); simpa using this)
      refine ⟨x :: xs, by simp [l1], ⟨uptoBulk y.1, uptoBulkAll (zs.map (·.1)), by simp [uptoBulkAll], bulk_pos _, k1, l2⟩, ?_⟩
      intro i x' hx
      cases i with
      | zero => simp at hx; subst hx; exact ⟨cs, hc, k2⟩
      | succ i => simp at hx; exact l3 i x' hx
theorem mapM_range {β : Type} {f : Nat → Option β} {n i : Nat} {ys : List β} (h : (List.range n).mapM f = some ys) (hi : i < n) : ∃ y, f i = some y ∧ ys[i]? = some y := by
  have gen : ∀ (l : List Nat) (ys : List β), l.mapM f = some ys → ∀ j k : Nat, l[j]? = some k → ∃ y, f k = some y ∧ ys[j]? = some y := by
    intro l
    induction l with
    | nil => intro ys _ j k hj; simp at hj
    | cons a l ih =>
      intro ys hl j k hj
      obtain ⟨y, zs, h1, h2, rfl⟩ := mapM_cons_some hl
      cases j with
      | zero => simp at hj; subst hj; exact ⟨y, h1, rfl⟩
      | succ j => simp at hj; exact ih zs h2 j k hj
  exact gen _ _ h i i (by simp [hi])

theorem cells_at {w : World} {a : Addr} {n : Nat} {cs : List Value} (h : w.cells? 0 a n = some cs) {i : Nat} (hi : i < n) : ∃ c, w.cell? (a.add i) = some c ∧ cs[i]? = some c := by
  unfold World.cells? at h
  simp only [Nat.zero_le, if_true] at h
  exact mapM_range h hi

/-- a slice: how it lies, and what it holds -/
theorem rd_slice {P : Program} {n : Nat} {t e : TypeId} {k : Nat} {α : Type} {enc : α → List AV} {ok : α → Nat → Prop} (hu : P.underlying t = some (.slice e)) (hk : P.cellsOf e = k) (hk0 : 0 < k) (hlen : ∀ x, (enc x).length = k)
    (hr : RdAt P n e enc ok) : RdAt P (n + 1) t (fun x : SM × List α => [.sl x.1 k (x.2.map enc)]) (fun x b => ∃ b', b' + 1 ≤ b ∧ okL ok x.2 b') := by
  intro H ench w cs d ps h
  rcases DataW.trod_slice hu h with ⟨rfl, hd⟩ | ⟨a, len, cap, zs, rest, m, hm, rfl, hd, _, hlc, _, hzl, hel, _, _⟩
  · cases hd
    exact ⟨(.nil, []), ⟨0, by simp [uptoBulk], trivial⟩, RowP.one rfl (.nil _)⟩
  · obtain rfl : n = m := by omega
    simp only [Prod.mk.injEq] at hd
    obtain ⟨xs, l1, l2, l3⟩ := rd_elems hr zs (fun i => w.cells? 0 (a.add (i * P.cellsOf e)) (P.cellsOf e)) (fun i hi => hel i (by omega))
    rw [hzl] at l1
    have hok : ∃ b', b' + 1 ≤ uptoBulk d ∧ okL ok xs b' := ⟨uptoBulkAll (zs.map (·.1)), by rw [hd.1]; simp [uptoBulk], l2⟩
    rcases Nat.eq_zero_or_pos len with h0 | hpos
    · subst h0
      have : xs = [] := List.length_eq_zero_iff.1 l1
      subst this
      exact ⟨(.any, []), hok, RowP.one rfl (.empty .any k a cap (by simp) (by simp))⟩
    · refine ⟨(.any, xs), hok, RowP.one rfl ?_⟩
      have cellAt : ∀ i j, i < len → j < k → ∃ c, w.cell? ((a.add (i * k)).add j) = some c ∧ ∀ x a', xs[i]? = some x → (enc x)[j]? = some a' → a'.leaf = true ∧ RepF (M0 w) a' c := by
        intro i j hi hj
        have hx : i < xs.length := by omega
        obtain ⟨cs', q1, q2⟩ := l3 i xs[i] (by simp [hx])
        rw [hk] at q1
        obtain ⟨c, r1, r2⟩ := cells_at q1 hj
        refine ⟨c, r1, fun x a' hx' ha' => ?_⟩
        rw [List.getElem?_eq_getElem hx] at hx'
        cases hx'
        obtain ⟨s1, c', s2, s3⟩ := q2 j a' ha'
        rw [r2] at s2; cases s2
        exact ⟨s1, s3⟩
      obtain ⟨cb, co, sp⟩ := a
      have hadd : ∀ i j, ((Addr.mk cb co none).add (i * k)).add j = ⟨cb, co + i * k + j, none⟩ := by
        intro i j
        rw [addr_add, addr_add]
      obtain ⟨c0, hc0, _⟩ := cellAt 0 0 hpos hk0
      have hsp : sp = none := by
        simp [Addr.add, World.cell?] at hc0
        split at hc0
        · split at hc0
          · cases hc0
          · rename_i hs; simpa using hs
        · cases hc0
      subst hsp
      rw [hadd] at hc0
      simp only [World.cell?] at hc0
      split at hc0
      case h_2 => cases hc0
      rename_i c ty fz hw
      have rd : ∀ i j, w.cell? ⟨cb, co + i * k + j, none⟩ = c[co + i * k + j]? := fun i j => by simp [World.cell?, hw]
      have hlx : len = (xs.map enc).length := by simp [l1]
      rw [hlx]
      refine .sl .any k (xs.map enc) cb co c ty fz cap (fun i j => c[co + i * k + j]?.getD default) ?_ (by simp) hw ?_ ?_ ?_ ?_ (by simp)
      · intro hx
        have : xs = [] := by simpa using hx
        subst this; simp at l1; omega
      · intro i row hrow
        rw [List.getElem?_map, Option.map_eq_some_iff] at hrow
        obtain ⟨x, hx, rfl⟩ := hrow
        refine ⟨hlen x, fun j v hv => ?_⟩
        have hi : i < len := by rw [← l1]; exact (List.getElem?_eq_some_iff.1 hx).1
        have hj : j < k := by rw [← hlen x]; exact (List.getElem?_eq_some_iff.1 hv).1
        obtain ⟨c, _, hc2⟩ := cellAt i j hi hj
        exact (hc2 x v hx hv).1
      · intro i j hi hj
        obtain ⟨c', q1, _⟩ := cellAt i j (by simpa [l1] using hi) hj
        rw [hadd, rd] at q1
        rw [q1]; rfl
      · intro i j row v hrow hv
        rw [List.getElem?_map, Option.map_eq_some_iff] at hrow
        obtain ⟨x, hx, rfl⟩ := hrow
        have hi : i < len := by rw [← l1]; exact (List.getElem?_eq_some_iff.1 hx).1
        have hj : j < k := by rw [← hlen x]; exact (List.getElem?_eq_some_iff.1 hv).1
        obtain ⟨c', q1, q2⟩ := cellAt i j hi hj
        rw [hadd, rd] at q1
        show RepF _ _ (c[co + i * k + j]?.getD default)
        rw [q1]
        exact (q2 x v hx hv).2
      · simp [l1]; exact hlc

/- structs -/
def RdFs (P : Program) (n : Nat) (fs : List Field) (off : Nat) {α : Type} (enc : α → List AV) (ok : α → Nat → Prop) : Prop :=
  ∀ (H : Type) (ench : TypeId × Value → H) (w : World) (cs : List Value) (zs : List (DataW H × List MemPlace)), zs.length = fs.length →
    (∀ (i : Nat) (f : Field), fs[i]? = some f → DataW.trod ench P w 0 (fun _ => true) true n f.type ((cs.drop f.offset).take (P.cellsOf f.type)) = zs[i]?) → ∃ x, ok x (uptoBulkAll (zs.map (·.1))) ∧ RowP (M0 w) (enc x) (cs.drop off)
theorem rdf_nil {P : Program} {n off : Nat} : RdFs P n [] off (fun _ : Unit => []) okT := fun _ _ _ _ _ _ _ => ⟨(), trivial, RowP.nil _ _⟩
theorem rdf_cons {P : Program} {n off k : Nat} {f : Field} {fs : List Field} {α β : Type} {enc : α → List AV} {ok : α → Nat → Prop} {enc' : β → List AV} {ok' : β → Nat → Prop} (ho : f.offset = off) (hk : P.cellsOf f.type = k)
    (hlen : ∀ x, (enc x).length = k) (h : RdAt P n f.type enc ok) (h' : RdFs P n fs (off + k) enc' ok') :
    RdFs P n (f :: fs) off (fun x : α × β => enc x.1 ++ enc' x.2) (fun x b => ∃ b1 b2, b1 + b2 ≤ b ∧ ok x.1 b1 ∧ ok' x.2 b2) := by
  intro H ench w cs zs hl hz
  cases zs with
  | nil => simp at hl
  | cons y zs =>
    have h1 := hz 0 f rfl
    obtain ⟨x, k1, k2⟩ := h H ench w _ y.1 y.2 (by simpa using h1)
    obtain ⟨x', l1, l2⟩ := h' H ench w cs zs (by simpa using hl) (fun i f' hf => by have := hz (i + 1) f' (by simpa using hf); simpa using this)
    refine ⟨(x, x'), ⟨_, _, Nat.le_of_eq (by simp [uptoBulkAll]), k1, l1⟩, ?_⟩
    rw [ho, hk] at k2
    refine RowP.append k2 (hlen x) ?_
    rw [List.drop_drop]
    exact l2
theorem rd_struct {P : Program} {n : Nat} {t : TypeId} {fs : List Field} {α : Type} {enc : α → List AV} {ok : α → Nat → Prop} (hu : P.underlying t = some (.struct fs.toArray)) (h : RdFs P n fs 0 enc ok) :
    RdAt P (n + 1) t enc (fun x b => ∃ b', b' + 1 ≤ b ∧ ok x b') := by
  intro H ench w cs d ps ht
  obtain ⟨zs, m, hm, hd, _, hl, hz⟩ := DataW.trod_struct hu ht
  obtain rfl : n = m := by omega
  obtain ⟨x, k1, k2⟩ := h H ench w cs zs (by simpa using hl) (fun i f hf => hz i f (by simpa using hf))
  simp only [Prod.mk.injEq] at hd
  exact ⟨x, ⟨_, by rw [hd.1]; simp [uptoBulk], k1⟩, by simpa using k2⟩
/-- an array: so many elements, one behind the other -/
theorem rd_array {P : Program} {n m k : Nat} {t e : TypeId} {α : Type} {enc : α → List AV} {ok : α → Nat → Prop} (hu : P.underlying t = some (.array m e)) (hk : P.cellsOf e = k) (hlen : ∀ x, (enc x).length = k) (hr : RdAt P n e enc ok) :
    RdAt P (n + 1) t (fun xs : List α => (xs.map enc).flatten) (fun xs b => xs.length = m ∧ ∃ b', b' + 1 ≤ b ∧ okL ok xs b') := by
  intro H ench w cs d ps ht
  obtain ⟨zs, m', hm, hd, _, hl, hz⟩ := DataW.trod_array hu ht
  obtain rfl : n = m' := by omega
  obtain ⟨xs, l1, l2, l3⟩ := rd_elems hr zs (fun i => some ((cs.drop (i * P.cellsOf e)).take (P.cellsOf e))) (fun i hi => by simpa using hz i (by omega))
  simp only [Prod.mk.injEq] at hd
  refine ⟨xs, ⟨by omega, _, by rw [hd.1]; simp [uptoBulk], l2⟩, ?_⟩
  clear hz hl l1 l2 hd ht
  have gen : ∀ (xs : List α) (off : Nat), (∀ (i : Nat) (x : α), xs[i]? = some x → RowP (M0 w) (enc x) ((cs.drop (off + i * k)).take k)) → RowP (M0 w) ((xs.map enc).flatten) (cs.drop off) := by
    intro xs
    induction xs with
    | nil => intro off _; exact RowP.nil _ _
    | cons x xs ih =>
      intro off h
      simp only [List.map_cons, List.flatten_cons]
      refine RowP.append (by simpa using h 0 x rfl) (hlen x) ?_
      rw [List.drop_drop]
      refine ih (off + k) fun i y hy => ?_
      have := h (i + 1) y (by simpa using hy)
      rw [show off + k + i * k = off + (i + 1) * k by rw [Nat.succ_mul]; omega]
      exact this
  have := gen xs 0 (fun i x hx => by
    obtain ⟨cs', q1, q2⟩ := l3 i x hx
    simp only [Option.some.injEq] at q1
    rw [hk] at q1
    rw [Nat.zero_add, q1]; exact q2)
  simpa using this
end Go.Proofs.YtpdohkcjhphibaaDoor.Sm
