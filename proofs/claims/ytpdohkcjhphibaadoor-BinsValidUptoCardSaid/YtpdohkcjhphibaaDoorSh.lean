/- A law's contract in the row's words, out of its abstract contract; the witness and the card are closed law by law; no condition. -/
import Derived.Test.YtpdohkcjhphibaaDoorSr
set_option linter.unusedVariables false
namespace Go.Proofs.YtpdohkcjhphibaaDoor.Sm
open Go
open Rows (uptoBulk uptoBulkAll)

/-- a parameter: what it reads as -/
def PR (P : Program) (t : TypeId) {α : Type} (av : α → AV) (ok : α → Nat → Prop) : Prop :=
  ∀ (H : Type) (ench : TypeId × Value → H) (w : World) (base : Nat) (v : Value) (d : DataW H) (ps : List MemPlace), Value.okWide P w .any base t v → DataW.Trod ench P w 0 (fun _ => true) true t v d ps →
    ∃ x, ok x (uptoBulk d) ∧ RepF (M0 w) (av x) v
def isCell (P : Program) (t : TypeId) : Bool := match P.underlying t with
  | some (.int _) => true
  | some .bool => true
  | some .string => true
  | some (.slice _) => true
  | _ => false
theorem cell_of {P : Program} {t : TypeId} {w : World} {base : Nat} {v : Value} (hc : isCell P t = true) (h : Value.okWide P w .any base t v) : v.cells.toList = [v] := by
  unfold isCell at hc
  unfold Value.okWide at h
  split at hc <;> rename_i hu <;> first | (cases hc; done) | skip
  all_goals
    rw [hu] at h
    simp only [Cell.okWide, Cell.ok, hu] at h
    cases v <;> first | rfl | (simp at h; done) | exact h.elim
theorem pr_cell {P : Program} {t : TypeId} {α : Type} {enc : α → List AV} {av : α → AV} {ok : α → Nat → Prop} (h : Rd P t enc ok) (he : ∀ x, enc x = [av x]) (hc : isCell P t = true) : PR P t av ok := by
  intro H ench w base v d ps hv ⟨n, ht⟩
  rw [cell_of hc hv] at ht
  obtain ⟨x, h1, h2⟩ := h n H ench w _ d ps ht
  refine ⟨x, h1, ?_⟩
  rw [he] at h2
  obtain ⟨_, c, h3, h4⟩ := h2 0 (av x) rfl
  simp at h3; subst h3
  exact h4
theorem pr_agg {P : Program} {t : TypeId} {α : Type} {enc : α → List AV} {ok : α → Nat → Prop} {k : Nat} (h : Rd P t enc ok) (hl : ∀ x, ok x 0 ∨ True → (enc x).length = k) (hk : P.cellsOf t = k) (hc : aggO P t = some true) : PR P t (fun x => .agg (enc x)) ok := by
  intro H ench w base v d ps hv ⟨n, ht⟩
  have hag : ∃ cs, v = .agg cs ∧ cs.size = P.cellsOf t := by
    unfold aggO at hc
    unfold Value.okWide at hv
    cases hu : P.underlying t with
    | none => simp [hu] at hc
    | some td =>
      rw [hu] at hc hv
      cases td <;> simp at hc <;> exact ⟨_, hv.choose_spec.1, hv.choose_spec.2.1⟩
  obtain ⟨cs, rfl, hs⟩ := hag
  obtain ⟨x, h1, h2⟩ := h n H ench w _ d ps ht
  refine ⟨x, h1, .agg _ cs (by rw [hs, hl x (.inr trivial), hk]) ?_⟩
  intro i a cv ha hcv
  obtain ⟨_, c, h3, h4⟩ := h2 i a ha
  simp [Value.cells] at h3
  rw [hcv] at h3; cases h3
  exact h4

def PRs (P : Program) (ts : List TypeId) {α : Type} (avs : α → List AV) (ok : α → Nat → Prop) : Prop :=
  ∀ (H : Type) (ench : TypeId × Value → H) (w : World) (base : Nat) (vs : List Value) (ds : List (DataW H)) (ps : List MemPlace), (∀ (j : Nat) t v, ts[j]? = some t → vs[j]? = some v → Value.okWide P w .any base t v) →
    DataW.TrodAll ench P w 0 (fun _ => true) true ts vs ds ps → ∃ x, ok x (uptoBulkAll ds) ∧ vs.length = (avs x).length ∧ ∀ (i : Nat) (a : AV) (v : Value), (avs x)[i]? = some a → vs[i]? = some v → RepF (M0 w) a v
theorem PRs.len {P : Program} {w : World} {H : Type} {ench : TypeId × Value → H} {sp : Nat → Bool} {held : Bool} {base : Nat} : ∀ {ts : List TypeId} {vs : List Value} {ds : List (DataW H)} {ps : List MemPlace}, DataW.TrodAll ench P w base sp held ts vs ds ps → ds.length = ts.length
  | [], [], [], _, _ => rfl
  | _ :: _, _ :: _, _ :: _, _, ⟨_, _, _, h2, _⟩ => by simp [PRs.len h2]
theorem prs_nil {P : Program} : PRs P [] (fun _ : Unit => []) okT := by
  intro H ench w base vs ds ps _ h
  cases vs with
  | nil => exact ⟨(), trivial, rfl, fun i a v h => by simp at h⟩
  | cons v vs => cases ds <;> exact h.elim
theorem prs_cons {P : Program} {t : TypeId} {ts : List TypeId} {α β : Type} {av : α → AV} {ok : α → Nat → Prop} {avs : β → List AV} {ok' : β → Nat → Prop} (h : PR P t av ok) (h' : PRs P ts avs ok') :
    PRs P (t :: ts) (fun x : α × β => av x.1 :: avs x.2) (fun x b => ∃ b1 b2, b1 + b2 ≤ b ∧ ok x.1 b1 ∧ ok' x.2 b2) := by
  intro H ench w base vs ds ps hv ht
  cases vs with
  | nil => cases ds <;> exact ht.elim
  | cons v vs =>
    cases ds with
    | nil => exact ht.elim
    | cons d ds =>
      obtain ⟨p, q, h1, h2, _⟩ := ht
      obtain ⟨x, k1, k2⟩ := h H ench w base v d p (hv 0 t v rfl rfl) h1
      obtain ⟨y, l1, l2, l3⟩ := h' H ench w base vs ds q (fun j t' v' a b => hv (j + 1) t' v' (by simpa using a) (by simpa using b)) h2
      refine ⟨(x, y), ⟨_, _, Nat.le_of_eq (by simp [uptoBulkAll]), k1, l1⟩, by simp [l2], ?_⟩
      intro i a v' ha hv'
      cases i with
      | zero => simp at ha hv'; subst ha; subst hv'; exact k2
      | succ i => simp at ha hv'; exact l3 i a v' ha hv'

theorem law_contract {H : Type} {enc : TypeId × Value → H} {E : Env} {f : FuncId} {fn : Func} {s : ChangeSpec} {tb : TypeId} {apart fresh handsOn : Bool} {W : World} {base : Nat} {args : Array Value} {ds gs : List (DataW H)} {before : List MemPlace}
    {α : Type} {avs : α → List AV} {ok : α → Nat → Prop} (hr : PRs E.P fn.params.toList avs ok) (hlaw : ∀ x, ok x (uptoBulkAll ds) → ACalls E f (avs x) [] fun v _ => v = .bool true)
    (hval : ∀ (j : Nat) t v, fn.params[j]? = some t → args[j]? = some v → Value.okWide E.P W .any base t v)
    (hW : DataW.Whole enc E.P fn.params.toList s.vars apart W args.toList ds gs before) (hG : ∀ n, RepF (M0 W) (E.G n) (.pointer (some ⟨n, 0, none⟩)))
    (hv : s.vars = []) (ht : fn.resultTypes = #[tb]) (hub : E.P.underlying tb = some .bool)
    (hs : s.fn H ds = { results := [.lit (.bool true)], args := ds })
    (hl : laidOutB E.P = true) (hp : fn.params.toList.all (fun t => E.P.readableRec t && decide (t < E.P.types.size)) = true) :
    Calls E.P f args W fun e W' => ∃ v, e = .returned v ∧ s.post enc E.P fn apart fresh handsOn false W args v W' := by
  obtain ⟨p, q, hA, _⟩ := id hW
  obtain ⟨x, k1, k2, k3⟩ := hr H enc W base args.toList ds p (fun j t v a b => hval j t v (by simpa using a) (by simpa using b)) hA
  have ha : RepL (g0 W) (avs x) args := ⟨by simpa using k2, fun i v cv h1 h2 => .fro (k3 i v cv h1 (by simpa using h2))⟩
  refine (calls_below (hlaw x k1) hG ha).mono ?_
  rintro e w' ⟨rfl, hb⟩
  exact ⟨_, rfl, post_law hW hb hv ht hub hs hl hp⟩

/-- a listed slice of strings -/
theorem laid_strs {P : Program} {w : World} {t e : TypeId} (hu : P.underlying t = some (.slice e)) (he : P.underlying e = some .string) (hk : P.cellsOf e = 1) {H : Type} {ench : TypeId × Value → H} {sp : Nat → Bool} {held : Bool} {n : Nat} {cs : List Value}
    {l : List ByteArray} {d : DataW H} (hd : d = .slice (l.map fun s => .lit (.string s.data.toList)) []) {p : List MemPlace} (h : DataW.trod ench P w 0 sp held n t cs = some (d, p)) :
    ∃ c, cs = [c] ∧ RepF (M0 w) (.sl .any 1 (l.map fun s => [.str s])) c := by
  subst hd
  rcases DataW.trod_slice hu h with ⟨_, hx⟩ | ⟨a, len, cap, zs, rest, m, _, rfl, hx, _, hlc, _, hzl, hel, _, _⟩
  · cases hx
  · simp only [Prod.mk.injEq, DataW.slice.injEq] at hx
    obtain ⟨⟨hz, _⟩, _⟩ := hx
    have hll : l.length = len := by have := congrArg List.length hz; simpa [hzl] using this
    refine ⟨_, rfl, ?_⟩
    rcases Nat.eq_zero_or_pos len with h0 | hpos
    · subst h0
      have : l = [] := List.length_eq_zero_iff.1 hll
      subst this
      exact .empty .any 1 a cap (by simp) (by simp)
    · have cellAt : ∀ i (s : ByteArray), l[i]? = some s → w.cell? (a.add i) = some (.string s) := by
        intro i s hs
        have hi : i < len := by rw [← hll]; exact (List.getElem?_eq_some_iff.1 hs).1
        have h1 := hel i hi
        rw [hk, Nat.mul_one] at h1
        have h2 : zs[i]?.map (·.1) = some (.lit (.string s.data.toList)) := by
          rw [← List.getElem?_map, ← hz, List.getElem?_map, hs]; rfl
        cases hc : w.cells? 0 (a.add i) 1 with
        | none => rw [hc] at h1; rw [← h1] at h2; cases h2
        | some c1 =>
          rw [hc, Option.bind_some] at h1
          obtain ⟨z, hzi⟩ : ∃ z, zs[i]? = some z := by cases hh : zs[i]? with
            | none => rw [hh] at h2; cases h2
            | some z => exact ⟨z, rfl⟩
          rw [hzi] at h1 h2
          obtain ⟨s', rfl, rfl, _⟩ := DataW.trod_string he h1
          simp only [Option.map_some, Option.some.injEq, DataW.lit.injEq, Lit.string.injEq] at h2
          have : s' = s := by
            cases s'; cases s
            simp only at h2
            congr 1
            exact Array.toList_inj.1 h2
          subst this
          obtain ⟨c, r1, r2⟩ := cells_at hc (i := 0) (by decide)
          simp at r2; subst r2
          simpa [Addr.add] using r1
      obtain ⟨cb, co, sp'⟩ := a
      have h00 := cellAt 0 l[0] (by simp [hll, hpos])
      have hsp : sp' = none := by
        simp [Addr.add, World.cell?] at h00
        split at h00
        · split at h00
          · cases h00
          · rename_i hs; simpa using hs
        · cases h00
      subst hsp
      have hadd : ∀ i, (Addr.mk cb co none).add i = ⟨cb, co + i, none⟩ := fun i => addr_add _ _ _
      rw [hadd] at h00
      simp only [World.cell?] at h00
      split at h00
      case h_2 => cases h00
      rename_i c ty fz hw
      have rd : ∀ i, w.cell? ⟨cb, co + i, none⟩ = c[co + i]? := fun i => by simp [World.cell?, hw]
      have hlx : len = (l.map fun s => [AV.str s]).length := by simp [hll]
      rw [hlx]
      refine .sl .any 1 _ cb co c ty fz cap (fun i j => c[co + i * 1 + j]?.getD default) ?_ (by simp) hw ?_ ?_ ?_ (by simp [hll]; exact hlc) (by simp)
      · intro hx
        have : l = [] := by simpa using hx
        subst this; simp at hll; omega
      · intro i row hrow
        rw [List.getElem?_map, Option.map_eq_some_iff] at hrow
        obtain ⟨x, hx, rfl⟩ := hrow
        refine ⟨rfl, fun j v hv => ?_⟩
        cases j with
        | zero => simp at hv; subst hv; rfl
        | succ j => simp at hv
      · intro i j hi hj
        have hi' : i < l.length := by simpa using hi
        have := cellAt i l[i] (by simp [hi'])
        rw [hadd, rd] at this
        have hj0 : j = 0 := by omega
        subst hj0
        simp only [Nat.mul_one, Nat.add_zero]
        rw [this]; rfl
      · intro i j row v hrow hv
        rw [List.getElem?_map, Option.map_eq_some_iff] at hrow
        obtain ⟨x, hx, rfl⟩ := hrow
        have := cellAt i x hx
        rw [hadd, rd] at this
        cases j with
        | zero =>
          simp at hv; subst hv
          simp only [Nat.mul_one, Nat.add_zero]
          rw [this]; exact .str _
        | succ j => simp at hv
/-- a variable of one cell -/
theorem var_one {P : Program} {w : World} {n : String} {g : Nat} {cs : Array Value} {c : Value} {a : AV} (hg : P.globalNamed n = some g) (h : w.var? P n = some cs) (hc : cs.toList = [c]) (hr : RepF (M0 w) a c) (hl : a.leaf = true) :
    RepF (M0 w) (.fptr 1 [[a]] 0 0) (.pointer (some ⟨g, 0, none⟩)) := by
  have h0 := World.var?_cell hg h 0
  have e : cs = #[c] := by rw [← Array.toArray_toList (xs := cs), hc]
  rw [e] at h0
  simp only [World.cell?] at h0
  split at h0
  case h_2 => simp at h0
  rename_i cc ty fz hw
  have hcc : cc[0]? = some c := by simpa using h0
  refine .fptr 1 [[a]] 0 0 g 0 cc ty fz (fun _ _ => c) hw ?_ ?_ ?_
  · intro i row hrow
    cases i with
    | zero =>
      simp at hrow; subst hrow
      refine ⟨rfl, fun j v hv => ?_⟩
      cases j with
      | zero => simp at hv; subst hv; exact hl
      | succ j => simp at hv
    | succ i => simp at hrow
  · intro i j hi hj
    have : i = 0 := by simpa using hi
    have : j = 0 := by omega
    subst_vars
    simpa using hcc
  · intro i j row v hrow hv
    cases i with
    | zero =>
      simp at hrow; subst hrow
      cases j with
      | zero => simp at hv; subst hv; exact hr
      | succ j => simp at hv
    | succ i => simp at hrow
end Go.Proofs.YtpdohkcjhphibaaDoor.Sm
