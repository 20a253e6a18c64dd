/- The abstract operations on memory (loads, stores, addresses, new blocks), and that each is what the model does; no condition. -/
import Derived.Test.YtpdohkcjhphibaaDoorSm3
set_option linter.unusedVariables false
namespace Go.Proofs.YtpdohkcjhphibaaDoor.Sm
open Go

def rowAt (h : List ABlk) : AV → Option (List AV × Nat)
  | .ptr b i j => match h[b]? with
    | some (.live _ xs) => match xs[i]? with
      | some row => some (row, j)
      | none => none
    | _ => none
  | .fptr _ xs i j => match xs[i]? with
    | some row => some (row, j)
    | none => none
  | _ => none

theorem heap_cell {w : World} {cb o : Nat} {c : Array Value} {e : TypeId} {fz : Nat × Nat} (h : w.heap[cb]? = some (.cells c e fz)) : w.cell? ⟨cb, o, none⟩ = c[o]? := by simp [World.cell?, h]

theorem lt_of_getElem? {α : Type} {l : List α} {i : Nat} {x : α} (h : l[i]? = some x) : i < l.length := by
  rcases Nat.lt_or_ge i l.length with h1 | h1
  · exact h1
  · rw [List.getElem?_eq_none h1] at h; cases h

theorem rowAt_read {E : Env} {g : Gh} {h : List ABlk} {w : World} {a : AV} {ca : Value} {row : List AV} {j : Nat} (S : SimH E g h w) (hr : Rep g a ca) (ha : rowAt h a = some (row, j)) :
    ∃ cb base, ca = .pointer (some ⟨cb, base + j, none⟩) ∧ ∀ (j' : Nat) (v : AV), row[j']? = some v → ∃ c, w.cell? ⟨cb, base + j', none⟩ = some c ∧ Rep g v c := by
  unfold rowAt at ha
  split at ha
  · rename_i b i j0
    split at ha
    · rename_i k xs hb
      split at ha
      · rename_i row' hrow
        cases ha
        obtain ⟨l, hl, rfl⟩ := hr.ptr_inv
        obtain ⟨l', c, e, q1, q2, q3, q4, q5, q6, q7, q8⟩ := S.live b k xs hb
        rw [hl] at q1; cases q1
        refine ⟨l.cb, l.co + i * l.k, rfl, fun j' v hv => ?_⟩
        obtain ⟨cv, s1, s2⟩ := q8 i j' row v hrow hv
        exact ⟨cv, by rw [heap_cell q4, q2]; exact s1, s2⟩
      · cases ha
    · cases ha
  · rename_i k xs i j0
    split at ha
    · rename_i row' hrow
      cases ha
      cases hr.fptr_inv with
      | fptr _ _ _ _ cb co c e fz cv h3 h4 h5 h6 =>
        refine ⟨cb, co + i * k, rfl, fun j' v hv => ?_⟩
        have hk := (h4 i row hrow).1
        have hj : j' < k := hk ▸ lt_of_getElem? hv
        exact ⟨cv i j', by rw [heap_cell (S.fro _ _ h3)]; exact h5 i j' (lt_of_getElem? hrow) hj, .fro (h6 i j' row v hrow hv)⟩
    · cases ha
  · cases ha

/- loads -/
def aLoad (P : Program) (h : List ABlk) (t : TypeId) (a : AV) : Option AV :=
  match rowAt h a with
  | some (row, j) => match aggO P t with
    | some true => match szO P t with
      | some n => if j + n ≤ row.length then some (.agg ((row.drop j).take n)) else none
      | none => none
    | some false => row[j]?
    | none => none
  | none => none

theorem load_sound {E : Env} {g : Gh} {h : List ABlk} {w : World} {t : TypeId} {a v : AV} {ca : Value} (S : SimH E g h w) (ha : aLoad E.P h t a = some v) (hr : Rep g a ca) :
    ∃ cv, (Instr.loadAt t ca).run E.P w = .ok cv w ∧ Rep g v cv := by
  unfold aLoad at ha
  split at ha
  case h_2 => cases ha
  rename_i row j hrow
  obtain ⟨cb, base, rfl, hread⟩ := rowAt_read S hr hrow
  split at ha
  · rename_i hag
    split at ha
    · rename_i n hn
      split at ha
      · rename_i hle
        cases ha
        have hex : ∀ i, i < n → ∃ c, w.cell? ⟨cb, base + j + i, none⟩ = some c ∧ ∀ v, ((row.drop j).take n)[i]? = some v → Rep g v c := by
          intro i hi
          have hlt : j + i < row.length := by omega
          obtain ⟨c, h1, h2⟩ := hread (j + i) row[j + i] (by simp [hlt])
          refine ⟨c, by rw [Nat.add_assoc]; exact h1, fun v hv => ?_⟩
          have : row[j + i]? = some v := by
            rw [List.getElem?_take, if_pos hi, List.getElem?_drop] at hv
            exact hv
          rw [List.getElem?_eq_getElem hlt] at this
          cases this; exact h2
        obtain ⟨cs, hl, hcs⟩ := list_of hex
        have hrun := run_loadCells_list (P := E.P) w ⟨cb, base + j, none⟩ cs (fun i c hc => by rw [addr_add]; exact (hcs i c hc).1)
        rw [hl] at hrun
        refine ⟨.agg cs.toArray, ?_, .agg _ _ (by simp [hl]; omega) ?_⟩
        · simp [Instr.loadAt, Instr.sureAddr, loadVar, run_isAgg_of hag, run_sizeOf_of hn, hrun]
        · intro i v cv h1 h2
          exact (hcs i cv (by simpa using h2)).2 v h1
      · cases ha
    · cases ha
  · rename_i hag
    obtain ⟨c, h1, h2⟩ := hread j v ha
    exact ⟨c, by simp [Instr.loadAt, Instr.sureAddr, loadVar, run_isAgg_of hag, h1], h2⟩
  · cases ha

/- the cells of a value that is stored -/
def acells : AV → Option (List AV)
  | .agg cs => if cs.all AV.leaf then some cs else none
  | .tup _ => none
  | .junk => none
  | v => some [v]

theorem acells_rep {g : Gh} {v : AV} {cs : List AV} {cv : Value} (h : acells v = some cs) (hr : Rep g v cv) :
    cv.cells.size = cs.length ∧ (∀ (j : Nat) (x : AV), cs[j]? = some x → x.leaf = true) ∧ (∀ (j : Nat) (x : AV) (c : Value), cs[j]? = some x → cv.cells[j]? = some c → Rep g x c ∧ c.oneCell' = true) ∧
    ∀ c ∈ cv.cells.toList, c.oneCell' = true := by
  have one : v.leaf = true → cs = [v] → cv.cells.size = cs.length ∧ (∀ (j : Nat) (x : AV), cs[j]? = some x → x.leaf = true) ∧ (∀ (j : Nat) (x : AV) (c : Value), cs[j]? = some x → cv.cells[j]? = some c → Rep g x c ∧ c.oneCell' = true) ∧
    ∀ c ∈ cv.cells.toList, c.oneCell' = true := by
    intro hl e
    subst e
    obtain ⟨h1, h2⟩ := hr.leaf_one hl
    rw [h2]
    refine ⟨rfl, ?_, ?_, ?_⟩
    · intro j x hx; cases j <;> simp at hx; subst hx; exact hl
    · intro j x c hx hc; cases j <;> simp at hx hc; subst hx hc; exact ⟨hr, h1⟩
    · intro c hc; simp at hc; subst hc; exact h1
  cases v <;> simp [acells] at h <;> first | exact one rfl h.symm | skip
  obtain ⟨h, rfl⟩ := h
  rename_i cs
  obtain ⟨vs, rfl, h1, h2⟩ := hr.agg_inv
  have hx : ∀ (j : Nat) (x : AV) (c : Value), cs[j]? = some x → (Value.agg vs).cells[j]? = some c → Rep g x c ∧ c.oneCell' = true := by
    intro j x c hx hc
    have hr' := h2 j x c hx hc
    exact ⟨hr', (hr'.leaf_one (h x (List.mem_of_getElem? hx))).1⟩
  refine ⟨h1, fun j x hx => h x (List.mem_of_getElem? hx), hx, fun c hc => ?_⟩
  obtain ⟨j, hj, hjc⟩ := List.getElem_of_mem hc
  simp only [Value.cells, Array.length_toList] at hj
  have : j < cs.length := by omega
  exact (hx j cs[j] c (by simp [this]) (by simp only [Value.cells] at hjc ⊢; rw [← hjc]; simp [hj])).2

/-- a row with some of its cells replaced -/
def splice (row : List AV) (j : Nat) (cs : List AV) : List AV := row.take j ++ cs ++ row.drop (j + cs.length)
theorem splice_get (row : List AV) (j : Nat) (cs : List AV) (h : j + cs.length ≤ row.length) (i : Nat) :
    (splice row j cs)[i]? = if j ≤ i ∧ i < j + cs.length then cs[i - j]? else row[i]? := by
  unfold splice
  rw [List.append_assoc, List.getElem?_append]
  simp only [List.length_take, Nat.min_eq_left (show j ≤ row.length by omega)]
  split
  · rename_i hlt
    rw [if_neg (by omega), List.getElem?_take, if_pos hlt]
  · rw [List.getElem?_append]
    split
    · rw [if_pos (by omega)]
    · rw [if_neg (by omega), List.getElem?_drop]
      congr 1; omega
theorem splice_length (row : List AV) (j : Nat) (cs : List AV) (h : j + cs.length ≤ row.length) : (splice row j cs).length = row.length := by
  simp [splice]; omega

/- stores -/
def aStore (P : Program) (h : List ABlk) (t : TypeId) (a v : AV) : Option (List ABlk) :=
  match a with
  | .ptr b i j => match h[b]? with
    | some (.live k xs) => match xs[i]? with
      | some row => match acells v with
        | some cs => if szO P t = some cs.length ∧ j + cs.length ≤ row.length then some (h.set b (.live k (xs.set i (splice row j cs)))) else none
        | none => none
      | none => none
    | _ => none
  | _ => none

theorem flat_index {k i j i' j' : Nat} (hj : j < k) (hj' : j' < k) (h : i * k + j = i' * k + j') : i = i' ∧ j = j' := by
  have h1 : (i * k + j) / k = i := by rw [Nat.mul_comm, Nat.mul_add_div (by omega), Nat.div_eq_of_lt hj]; omega
  have h2 : (i' * k + j') / k = i' := by rw [Nat.mul_comm, Nat.mul_add_div (by omega), Nat.div_eq_of_lt hj']; omega
  rw [h] at h1
  have : i = i' := h1.symm.trans h2
  subst this
  exact ⟨rfl, by omega⟩

theorem store_sound {E : Env} {g : Gh} {h h' : List ABlk} {w : World} {t : TypeId} {a v : AV} {ca cv : Value} (S : SimH E g h w) (hs : aStore E.P h t a v = some h') (hr : Rep g a ca) (hv : Rep g v cv) :
    ∃ w', (Instr.storeAt t ca cv).run E.P w = .ok () w' ∧ SimH E g h' w' := by
  unfold aStore at hs
  split at hs
  case h_2 => cases hs
  rename_i b i j
  split at hs
  case h_2 => cases hs
  rename_i k xs hb
  split at hs
  case h_2 => cases hs
  rename_i row hrow
  split at hs
  case h_2 => cases hs
  rename_i cs hcs
  split at hs
  case isFalse => cases hs
  rename_i hc
  obtain ⟨hsz, hle⟩ := hc
  cases hs
  obtain ⟨l, hl, rfl⟩ := hr.ptr_inv
  obtain ⟨l', c, e, q1, q2, q3, q4, q5, q6, q7, q8⟩ := S.live b k xs hb
  rw [hl] at q1; cases q1
  subst q2
  obtain ⟨a1, a2, a3, a4⟩ := acells_rep hcs hv
  have hrl := (q7 i row hrow).1
  have hi := lt_of_getElem? hrow
  have him : i * l.k + l.k ≤ xs.length * l.k := by
    have := Nat.mul_le_mul_right l.k (show i + 1 ≤ xs.length by omega)
    rw [Nat.add_mul, Nat.one_mul] at this; exact this
  have hlen : cv.cells.toList.length = cs.length := by simpa using a1
  obtain ⟨w', c', hrun, hW⟩ := run_storeCells E.P l.cb (l.co + i * l.k + j) e cv.cells.toList 0 w c q4 (by rw [hlen]; omega) a4
  have hsz' : szO E.P t = some cv.cells.size := by rw [a1]; exact hsz
  refine ⟨w', ?_, S.write hb hl hW q5 ?_⟩
  · simp [Instr.storeAt, Instr.sureAddr, storeVar, run_sizeOf_of hsz', hrun]
  · refine ⟨by rw [hW.size, q5]; simpa using q6, ?_, ?_⟩
    · intro i' row' hr'
      rw [List.getElem?_set] at hr'
      split at hr'
      · rename_i hii; subst hii
        cases hr'
        refine ⟨by rw [splice_length _ _ _ (by omega)]; exact hrl, fun j' x hx => ?_⟩
        rw [splice_get _ _ _ hle] at hx
        split at hx
        · exact a2 _ x hx
        · exact (q7 i row hrow).2 j' x hx
      · exact q7 i' row' hr'
    · intro i' j' row' x hr' hx
      rw [List.getElem?_set] at hr'
      have old : ∀ row', xs[i']? = some row' → row'[j']? = some x → ¬ (i' = i ∧ j ≤ j' ∧ j' < j + cs.length) → ∃ cv', c'[l.co + i' * l.k + j']? = some cv' ∧ Rep g x cv' := by
        intro row' h1 h2 h3
        have hj' : j' < l.k := (q7 i' row' h1).1 ▸ lt_of_getElem? h2
        rw [hW.cells, hlen]
        rw [if_neg ?_]
        · exact q8 i' j' row' x h1 h2
        · intro hh
          have e1 : l.co + i' * l.k + j' = l.co + i * l.k + (j + (l.co + i' * l.k + j' - (l.co + i * l.k + j + 0))) := by omega
          have e2 := flat_index (k := l.k) (i := i') (j := j') (i' := i) (j' := j + (l.co + i' * l.k + j' - (l.co + i * l.k + j + 0))) hj' (by omega) (by omega)
          exact h3 ⟨e2.1, by omega, by omega⟩
      split at hr'
      · rename_i hii; subst hii
        cases hr'
        rw [splice_get _ _ _ hle] at hx
        split at hx
        · rename_i hin
          have hlt : j' - j < cv.cells.size := by omega
          refine ⟨cv.cells[j' - j], ?_, (a3 (j' - j) x _ hx (by simp [hlt])).1⟩
          rw [hW.cells, hlen, if_pos (by omega)]
          have : l.co + i * l.k + j' - (l.co + i * l.k + j + 0) = j' - j := by omega
          rw [this]; simp [hlt]
        · rename_i hin
          exact old row hrow hx (fun hh => hin ⟨hh.2.1, hh.2.2⟩)
      · rename_i hii
        exact old row' hr' hx (fun hh => hii hh.1.symm)

/- new variables -/
theorem row_holds {g : Gh} {cs : List AV} {c : Array Value} (h1 : c.size = cs.length) (h2 : ∀ (j : Nat) (x : AV), cs[j]? = some x → x.leaf = true)
    (h3 : ∀ (j : Nat) (x : AV) (v : Value), cs[j]? = some x → c[j]? = some v → Rep g x v) : holdsRows g c 0 cs.length [cs] := by
  refine ⟨by simp [h1], ?_, ?_⟩
  · intro i row hr
    cases i <;> simp at hr
    subst hr; exact ⟨rfl, h2⟩
  · intro i j row v hr hv
    cases i <;> simp at hr
    subst hr
    have hj := lt_of_getElem? hv
    refine ⟨c[j]'(by omega), by simp, h3 j v _ hv (by simp)⟩

def aBox (h : List ABlk) (v : AV) : Option (AV × List ABlk) :=
  match acells v with
  | some cs => some (.ptr h.length 0 0, h ++ [.live cs.length [cs]])
  | none => none

theorem newVar_sound {E : Env} {g : Gh} {h : List ABlk} {w : World} {t : TypeId} {v : AV} {cs : List AV} {cv : Value} (S : SimH E g h w) (hcs : acells v = some cs) (hv : Rep g v cv) :
    ∃ w' g', (newVar t cv).run E.P w = .ok ⟨w.heap.size, 0, none⟩ w' ∧ Rep g' (.ptr h.length 0 0) (.pointer (some ⟨w.heap.size, 0, none⟩)) ∧ g.le g' ∧ SimH E g' (h ++ [.live cs.length [cs]]) w' := by
  obtain ⟨a1, a2, a3, a4⟩ := acells_rep hcs hv
  obtain ⟨S', hle⟩ := S.new (w' := w.alloc (.cells cv.cells t)) (c := cv.cells) (e := t) (k := cs.length) (xs := [cs]) ⟨rfl, rfl, rfl, rfl⟩ (row_holds a1 a2 fun j x v h1 h2 => (a3 j x v h1 h2).1)
  refine ⟨_, _, ?_, ?_, hle, S'⟩
  · simp [newVar, newRow]
  · have := Rep.ptr (g := g.adopt h.length ⟨w.heap.size, 0, cs.length, cv.cells.size⟩) h.length 0 0 _ (show _ = some _ by simp [Gh.adopt]; rfl)
    simpa using this

theorem box_sound {E : Env} {g : Gh} {h h' : List ABlk} {w : World} {t : TypeId} {v r : AV} {cv : Value} (S : SimH E g h w) (hs : aBox h v = some (r, h')) (hv : Rep g v cv) :
    ∃ c w' g', (Instr.box t cv).run E.P w = .ok c w' ∧ Rep g' r c ∧ g.le g' ∧ SimH E g' h' w' := by
  unfold aBox at hs
  split at hs
  · rename_i cs hcs
    cases hs
    obtain ⟨w', g', hrun, hr, hle, S'⟩ := newVar_sound (t := t) S hcs hv
    exact ⟨_, w', g', by simp [Instr.box, hrun], hr, hle, S'⟩
  · cases hs

/- constants -/
def avOf1 : Value → AV
  | .int k n => .int k n
  | .bool b => .bool b
  | .string s => .str s
  | .slice none 0 0 => .sl .nil 0 []
  | .pointer none => .nilp
  | .nilFunc => .nilfn
  | _ => .junk
def avOf : Value → AV
  | .agg cs => .agg (cs.toList.map avOf1)
  | .tuple cs => .tup (cs.toList.map avOf1)
  | v => avOf1 v
theorem avOf1_rep (M : Nat → Option Obj) (v : Value) : RepF M (avOf1 v) v := by
  unfold avOf1
  split <;> constructor
theorem avOf_rep (M : Nat → Option Obj) (v : Value) : RepF M (avOf v) v := by
  unfold avOf
  split
  · refine .agg _ _ (by simp) fun i v cv h1 h2 => ?_
    simp at h1
    obtain ⟨a, h1, rfl⟩ := h1
    rw [h1] at h2; cases h2; exact avOf1_rep M _
  · refine .tup _ _ (by simp) fun i v cv h1 h2 => ?_
    simp at h1
    obtain ⟨a, h1, rfl⟩ := h1
    rw [h1] at h2; cases h2; exact avOf1_rep M _
  · exact avOf1_rep M _

def aAlloc (P : Program) (h : List ABlk) (t : TypeId) : Option (AV × List ABlk) :=
  match zeroO P t with
  | some z => aBox h (avOf z)
  | none => none
theorem alloc_sound {E : Env} {g : Gh} {h h' : List ABlk} {w : World} {t : TypeId} {r : AV} (S : SimH E g h w) (hs : aAlloc E.P h t = some (r, h')) :
    ∃ c w' g', (Instr.alloc t true (.tuple #[])).run E.P w = .ok c w' ∧ Rep g' r c ∧ g.le g' ∧ SimH E g' h' w' := by
  unfold aAlloc at hs
  split at hs
  · rename_i z hz
    unfold aBox at hs
    split at hs
    · rename_i cs hcs
      cases hs
      obtain ⟨w', g', hrun, hr, hle, S'⟩ := newVar_sound (t := t) S hcs (.fro (avOf_rep g.M z))
      exact ⟨_, w', g', by simp [Instr.alloc, run_zeroValue_of hz, hrun], hr, hle, S'⟩
    · cases hs
  · cases hs

/- addresses -/
def aFieldAddr (P : Program) (t : TypeId) (a : AV) (f : Nat) : Option AV :=
  match P.underlying t with
  | some (.struct fields) => match fields[f]? with
    | some fl => match szO P fl.type with
      | some (_ + 1) => match a with
        | .ptr b i j => some (.ptr b i (j + fl.offset))
        | .fptr k xs i j => some (.fptr k xs i (j + fl.offset))
        | _ => none
      | _ => none
    | none => none
  | _ => none
theorem fptr_off {M : Nat → Option Obj} {k i j n : Nat} {xs : List (List AV)} {cv : Value} (h : RepF M (.fptr k xs i j) cv) :
    ∃ cb o, cv = .pointer (some ⟨cb, o, none⟩) ∧ RepF M (.fptr k xs i (j + n)) (.pointer (some ⟨cb, o + n, none⟩)) := by
  cases h with
  | fptr _ _ _ _ cb co c e fz cv h3 h4 h5 h6 =>
    exact ⟨cb, _, rfl, by have := RepF.fptr k xs i (j + n) cb co c e fz cv h3 h4 h5 h6; rwa [← Nat.add_assoc] at this⟩
theorem fieldAddr_sound {P : Program} {g : Gh} {w : World} {t : TypeId} {a v : AV} {f : Nat} {ca : Value} (ha : aFieldAddr P t a f = some v) (hr : Rep g a ca) :
    ∃ cv, (Instr.fieldAt t ca f).run P w = .ok cv w ∧ Rep g v cv := by
  unfold aFieldAddr at ha
  split at ha
  case h_2 => cases ha
  rename_i fields hu
  split at ha
  case h_2 => cases ha
  rename_i fl hf
  split at ha
  case h_2 => cases ha
  rename_i n hn
  split at ha
  · cases ha
    obtain ⟨l, hl, rfl⟩ := hr.ptr_inv
    refine ⟨_, by simp [Instr.fieldAt, run_underlying_of hu, hf, Instr.sureAddr, fieldPlace, run_sizeOf_of hn, addr_add]; rfl, ?_⟩
    rw [Nat.add_assoc]
    exact .ptr _ _ _ l hl
  · cases ha
    obtain ⟨cb, o, rfl, h2⟩ := fptr_off (n := fl.offset) hr.fptr_inv
    exact ⟨_, by simp [Instr.fieldAt, run_underlying_of hu, hf, Instr.sureAddr, fieldPlace, run_sizeOf_of hn, addr_add], .fro h2⟩
  · cases ha

def aIndexAddr (P : Program) (h : List ABlk) (t : TypeId) (a ix : AV) : Option AV :=
  match ix with
  | .int _ i => match P.underlying t with
    | some (.slice e) => match a with
      | .sl _ k xs => if szO P e = some k ∧ 0 ≤ i ∧ i < (xs.length : Int) then some (.fptr k xs i.toNat 0) else none
      | .own b off len => match h[b]? with
        | some (.live k _) => if szO P e = some k ∧ 0 ≤ i ∧ i < (len : Int) then some (.ptr b (off + i.toNat) 0) else none
        | _ => none
      | _ => none
    | some (.array n e) => match szO P e with
      | some s => if 0 ≤ i ∧ i < (n : Int) then match a with
        | .ptr b r j => some (.ptr b r (j + i.toNat * s))
        | .fptr k xs r j => some (.fptr k xs r (j + i.toNat * s))
        | _ => none
        else none
      | none => none
    | _ => none
  | _ => none
theorem indexAddr_sound {E : Env} {g : Gh} {h : List ABlk} {w : World} {t : TypeId} {a ix v : AV} {ca ci : Value} (S : SimH E g h w) (ha : aIndexAddr E.P h t a ix = some v) (hr : Rep g a ca) (hi : Rep g ix ci) :
    ∃ cv, (Instr.indexAt t ca ci).run E.P w = .ok cv w ∧ Rep g v cv := by
  unfold aIndexAddr at ha
  split at ha
  case h_2 => cases ha
  rename_i kk i
  rw [hi.int_inv]
  split at ha
  · rename_i e hu
    split at ha
    · rename_i m k xs
      split at ha
      case isFalse => cases ha
      rename_i hc
      obtain ⟨hk, h0, h1⟩ := hc
      cases ha
      have hne : xs ≠ [] := by intro hx; subst hx; simp at h1; omega
      cases hr.sl_inv with
      | nil => exact absurd rfl hne
      | empty => exact absurd rfl hne
      | sl _ _ _ cb co c e' fz cap cv q1 q2 q3 q4 q5 q6 q7 q8 =>
        refine ⟨.pointer (some ⟨cb, co + i.toNat * k, none⟩), ?_, .fro ?_⟩
        · simp [Instr.indexAt, asIntOf, run_underlying_of hu, h0, h1, run_sizeOf_of hk, addr_add]
        · have := RepF.fptr k xs i.toNat 0 cb co c e' fz cv q3 q4 q5 q6
          simpa using this
    · rename_i b off len
      split at ha
      case h_2 => cases ha
      rename_i k xs hb
      split at ha
      case isFalse => cases ha
      rename_i hc
      obtain ⟨hk, h0, h1⟩ := hc
      cases ha
      rcases hr.own_inv with ⟨l, cap, q1, q2, q3, rfl⟩ | ⟨hl, _⟩
      · obtain ⟨l', c, e', p1, p2, _⟩ := S.live b k xs hb
        rw [q1] at p1; cases p1
        refine ⟨.pointer (some ⟨l.cb, l.co + off * l.k + i.toNat * k, none⟩), ?_, ?_⟩
        · simp [Instr.indexAt, asIntOf, run_underlying_of hu, h0, h1, run_sizeOf_of hk, addr_add]
        · have := Rep.ptr (g := g) b (off + i.toNat) 0 l q1
          rw [Nat.add_mul] at this
          rw [← p2]
          simpa [Nat.add_assoc] using this
      · omega
    · cases ha
  · rename_i n e hu
    split at ha
    case h_2 => cases ha
    rename_i s hs
    split at ha
    case isFalse => cases ha
    rename_i hc
    obtain ⟨h0, h1⟩ := hc
    split at ha
    · cases ha
      obtain ⟨l, hl, rfl⟩ := hr.ptr_inv
      refine ⟨_, by simp [Instr.indexAt, Instr.sureAddr, asIntOf, run_underlying_of hu, h0, h1, run_sizeOf_of hs, addr_add]; rfl, ?_⟩
      rw [Nat.add_assoc]
      exact .ptr _ _ _ l hl
    · cases ha
      obtain ⟨cb, o, rfl, h2⟩ := fptr_off (n := i.toNat * s) hr.fptr_inv
      exact ⟨_, by simp [Instr.indexAt, Instr.sureAddr, asIntOf, run_underlying_of hu, h0, h1, run_sizeOf_of hs, addr_add], .fro h2⟩
    · cases ha
  · cases ha
end Go.Proofs.YtpdohkcjhphibaaDoor.Sm
