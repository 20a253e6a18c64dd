/- Building and making slices, structs by value, strings, scalars: the abstract operations, and that each is what the model does; no condition. -/
import Derived.Test.YtpdohkcjhphibaaDoorSm6
set_option linter.unusedVariables false
namespace Go.Proofs.YtpdohkcjhphibaaDoor.Sm
open Go

theorem arr_id (a : Array Value) : a.toList.toArray ++ #[] = a := by simp

/- filling places of a row of cells -/
theorem fold_set : ∀ (vs : List Value) (s off : Nat) (c : Array Value), off + s + vs.length ≤ c.size →
    ((vs.zipIdx s).foldl (fun cs (x, j) => cs.setIfInBounds (off + j) x) c).size = c.size ∧
    ∀ m, ((vs.zipIdx s).foldl (fun cs (x, j) => cs.setIfInBounds (off + j) x) c)[m]? = if off + s ≤ m ∧ m < off + s + vs.length then vs[m - (off + s)]? else c[m]?
  | [], s, off, c, _ => by
    refine ⟨rfl, fun m => ?_⟩
    rw [if_neg (by simp only [List.length_nil]; omega)]; rfl
  | v :: vs, s, off, c, h => by
    simp only [List.length_cons] at h
    obtain ⟨h1, h2⟩ := fold_set vs (s + 1) off (c.setIfInBounds (off + s) v) (by simp; omega)
    simp only [List.zipIdx_cons, List.foldl_cons, List.length_cons]
    refine ⟨by rw [h1]; simp, fun m => ?_⟩
    rw [h2 m]
    by_cases h3 : off + (s + 1) ≤ m ∧ m < off + (s + 1) + vs.length
    · rw [if_pos h3, if_pos (by omega)]
      have : m - (off + s) = (m - (off + (s + 1))) + 1 := by omega
      rw [this]; simp
    · rw [if_neg h3]
      by_cases h4 : m = off + s
      · subst h4
        have : off + s < c.size := by omega
        simp [this]
      · rw [if_neg (by omega), Array.getElem?_setIfInBounds_ne (by omega)]

theorem fold_cells (v : Value) (off : Nat) (c : Array Value) (h : off + v.cells.size ≤ c.size) :
    (v.cells.zipIdx.foldl (fun cs (x, j) => cs.setIfInBounds (off + j) x) c).size = c.size ∧
    ∀ m, (v.cells.zipIdx.foldl (fun cs (x, j) => cs.setIfInBounds (off + j) x) c)[m]? = if off ≤ m ∧ m < off + v.cells.size then v.cells[m - off]? else c[m]? := by
  have := fold_set v.cells.toList 0 off c (by simpa using h)
  rw [← Array.foldl_toList, Array.toList_zipIdx]
  simpa using this

/-- a row of abstract cells over a row of cells -/
structure RowRep (g : Gh) (as : List AV) (c : Array Value) : Prop where
  size : c.size = as.length
  get : ∀ (j : Nat) (x : AV) (v : Value), as[j]? = some x → c[j]? = some v → Rep g x v

def fillA (place : Nat → Option (Nat × Nat)) (as : List AV) : List (Nat × AV) → Option (List AV)
  | [] => some as
  | (i, x) :: r => match place i with
    | some (off, size) => match acells x with
      | some cs => if cs.length = size ∧ off + size ≤ as.length then fillA place (splice as off cs) r else none
      | none => none
    | none => none

inductive Parts (g : Gh) : List (Nat × AV) → List (Nat × Value) → Prop
  | nil : Parts g [] []
  | cons {i : Nat} {x : AV} {v : Value} {l : List (Nat × AV)} {m : List (Nat × Value)} : Rep g x v → Parts g l m → Parts g ((i, x) :: l) ((i, v) :: m)

theorem fill_sound {g : Gh} {place : Nat → Option (Nat × Nat)} {l : List (Nat × AV)} {m : List (Nat × Value)} (hp : Parts g l m) : ∀ {as as' : List AV} {c : Array Value}, fillA place as l = some as' → RowRep g as c →
    ∃ c', Instr.fill place c m = some c' ∧ RowRep g as' c' := by
  induction hp with
  | nil => intro as as' c h hr; simp [fillA] at h; subst h; exact ⟨c, rfl, hr⟩
  | @cons i x v l m hx _ ih =>
    intro as as' c h hr
    simp only [fillA] at h
    cases hpl : place i with
    | none => simp [hpl] at h
    | some os =>
      obtain ⟨off, size⟩ := os
      simp only [hpl] at h
      cases hcs : acells x with
      | none => simp [hcs] at h
      | some cs =>
        simp only [hcs] at h
        split at h
        case isFalse => cases h
        rename_i hc
        obtain ⟨h1, h2⟩ := hc
        obtain ⟨a1, a2, a3, a4⟩ := acells_rep hcs hx
        obtain ⟨f1, f2⟩ := fold_cells v off c (by rw [a1, hr.size]; omega)
        have hrow : RowRep g (splice as off cs) (v.cells.zipIdx.foldl (fun cs (x, j) => cs.setIfInBounds (off + j) x) c) := by
          refine ⟨by rw [f1, splice_length _ _ _ (by omega)]; exact hr.size, fun j y u hy hu => ?_⟩
          rw [splice_get _ _ _ (by omega)] at hy
          rw [f2, a1] at hu
          split at hy
          · rename_i hin
            rw [if_pos hin] at hu
            exact (a3 _ y u hy hu).1
          · rename_i hin
            rw [if_neg hin] at hu
            exact hr.get j y u hy hu
        obtain ⟨c', h3, h4⟩ := ih h hrow
        refine ⟨c', ?_, h4⟩
        simp only [Instr.fill, hpl]
        rw [if_neg (by have := hr.size; simp only [Bool.or_eq_true, decide_eq_true_eq]; omega)]
        exact h3

def zeroRow (P : Program) (t : TypeId) : Option (List AV) :=
  match zeroO P t with
  | some z => acells (avOf z)
  | none => none
theorem zeroRow_spec {P : Program} {t : TypeId} {row : List AV} (h : zeroRow P t = some row) : ∃ z, zeroO P t = some z ∧ z.cells.size = row.length ∧ (∀ (j : Nat) (x : AV), row[j]? = some x → x.leaf = true) ∧
    ∀ g : Gh, (∀ (j : Nat) (x : AV) (c : Value), row[j]? = some x → z.cells[j]? = some c → Rep g x c ∧ c.oneCell' = true) := by
  unfold zeroRow at h
  split at h
  · rename_i z hz
    obtain ⟨a1, a2, _, _⟩ := acells_rep h (.fro (avOf_rep (fun _ => none) z) : Rep ⟨fun _ => none, fun _ => none, default, fun _ _ => 0, #[]⟩ (avOf z) z)
    exact ⟨z, hz, a1, a2, fun g => (acells_rep h (.fro (avOf_rep g.M z) : Rep g (avOf z) z)).2.2.1⟩
  · cases h

/- a struct or an array by value -/
def placesA (P : Program) : List Field → Option (List (Nat × Nat))
  | [] => some []
  | f :: r => match szO P f.type, placesA P r with
    | some n, some l => some ((f.offset, n) :: l)
    | _, _ => none
def aBuild (P : Program) (t : TypeId) (parts : List (Nat × AV)) : Option AV :=
  match zeroRow P t with
  | some zr => match P.underlying t with
    | some (.struct fields) => match placesA P fields.toList with
      | some pl => match fillA (fun i => pl[i]?) zr parts with
        | some cs => some (.agg cs)
        | none => none
      | none => none
    | some (.array _ e) => match szO P e with
      | some n => match fillA (fun i => some (i * n, n)) zr parts with
        | some cs => some (.agg cs)
        | none => none
      | none => none
    | _ => none
  | none => none

theorem run_places {P : Program} {w : World} : ∀ {fs : List Field} {pl : List (Nat × Nat)}, placesA P fs = some pl →
    (fs.mapM (fun f => do pure (f.offset, ← sizeOf f.type) : Field → Sem (Nat × Nat))).run P w = .ok pl w
  | [], pl, h => by simp [placesA] at h; subst h; simp
  | f :: fs, pl, h => by
    simp only [placesA] at h
    cases h1 : szO P f.type with
    | none => simp [h1] at h
    | some n =>
      cases h2 : placesA P fs with
      | none => simp [h1, h2] at h
      | some l =>
        simp [h1, h2] at h
        subst h
        have := run_places (w := w) h2
        simp only [List.mapM_cons, Sem.run_bind, run_sizeOf_of h1, Result.andThen_ok, this, Sem.run_pure]

theorem build_sound {P : Program} {g : Gh} {w : World} {t : TypeId} {parts : List (Nat × AV)} {cparts : Array (Nat × Value)} {v : AV} (ha : aBuild P t parts = some v) (hp : Parts g parts cparts.toList) :
    ∃ cv, (Instr.build t cparts).run P w = .ok cv w ∧ Rep g v cv := by
  unfold aBuild at ha
  split at ha
  case h_2 => cases ha
  rename_i zr hz
  obtain ⟨z, z1, z2, z3, z4⟩ := zeroRow_spec hz
  have hrow : RowRep g zr z.cells := ⟨z2, fun j x c h1 h2 => (z4 g j x c h1 h2).1⟩
  split at ha
  · rename_i fields hu
    split at ha
    case h_2 => cases ha
    rename_i pl hpl
    split at ha
    case h_2 => cases ha
    rename_i cs hcs
    cases ha
    obtain ⟨c', h1, h2⟩ := fill_sound hp hcs hrow
    refine ⟨.agg c', ?_, .agg _ _ h2.size h2.get⟩
    have hm : (fields.mapM (fun f => do pure (f.offset, ← sizeOf f.type) : Field → Sem (Nat × Nat))).run P w = .ok pl.toArray w := by
      have := run_places (w := w) hpl
      rw [Array.mapM_eq_mapM_toList]
      simp only [Sem.run_map, this, Result.andThen_ok]
    have h1' : Instr.fill (fun i => pl.toArray[i]?) z.cells cparts.toList = some c' := by
      rw [← h1]; congr 1; funext i; simp
    simp only [Instr.build, Sem.run_bind, run_zeroValue_of z1, Result.andThen_ok, run_underlying_of hu, hm]
    simp only [h1', Sem.run_pure]
  · rename_i n e hu
    split at ha
    case h_2 => cases ha
    rename_i s hs
    split at ha
    case h_2 => cases ha
    rename_i cs hcs
    cases ha
    obtain ⟨c', h1, h2⟩ := fill_sound hp hcs hrow
    refine ⟨.agg c', ?_, .agg _ _ h2.size h2.get⟩
    simp only [Instr.build, Sem.run_bind, run_zeroValue_of z1, Result.andThen_ok, run_underlying_of hu, run_sizeOf_of hs, h1, Sem.run_pure]
  · cases ha

/- a composite slice whose elements are all given, in order -/
def rowsA (k : Nat) : Nat → List (Nat × AV) → Option (List (List AV))
  | _, [] => some []
  | s, (i, x) :: r => match acells x, rowsA k (s + 1) r with
    | some cs, some l => if i = s ∧ cs.length = k then some (cs :: l) else none
    | _, _ => none
def aBuildSlice (P : Program) (own : Bool) (h : List ABlk) (t : TypeId) (len : Nat) (parts : List (Nat × AV)) : Option (AV × List ABlk) :=
  match P.underlying t with
  | some (.slice e) => match szO P e with
    | some k => match zszO P e with
      | some z => match rowsA k 0 parts with
        | some rows => if rows.length = len ∧ z = k ∧ len * k ≤ 16777216 then
            if own then some (.own h.length 0 len, h ++ [.live k rows]) else if rows.all (·.all AV.frozen) then some (.sl .full k rows, h) else none
          else none
        | none => none
      | none => none
    | none => none
  | _ => none

theorem rows_fill {g : Gh} {k n : Nat} {l : List (Nat × AV)} {m : List (Nat × Value)} (hp : Parts g l m) : ∀ {s : Nat} {rows : List (List AV)} {c : Array Value}, rowsA k s l = some rows → c.size = n * k → s + rows.length ≤ n →
    ∃ c', Instr.fill (fun i => some (i * k, k)) c m = some c' ∧ c'.size = c.size ∧ rowsOk k rows ∧ (∀ j, j < s * k → c'[j]? = c[j]?) ∧
      ∀ (i j : Nat) (row : List AV) (v : AV), rows[i]? = some row → row[j]? = some v → ∃ cv, c'[(s + i) * k + j]? = some cv ∧ Rep g v cv ∧ cv.oneCell' = true := by
  induction hp with
  | nil =>
    intro s rows c h _ _
    simp [rowsA] at h; subst h
    exact ⟨c, rfl, rfl, fun _ _ h => by simp at h, fun _ _ => rfl, fun _ _ _ _ h => by simp at h⟩
  | @cons i x v l m hx _ ih =>
    intro s rows c h hsz hle
    simp only [rowsA] at h
    cases hcs : acells x with
    | none => simp [hcs] at h
    | some cs =>
      cases hr : rowsA k (s + 1) l with
      | none => simp [hcs, hr] at h
      | some rs =>
        simp only [hcs, hr] at h
        split at h
        case isFalse => cases h
        rename_i hc
        obtain ⟨rfl, hlen⟩ := hc
        cases h
        simp only [List.length_cons] at hle
        obtain ⟨a1, a2, a3, a4⟩ := acells_rep hcs hx
        have hik : i * k + k ≤ n * k := by
          have := Nat.mul_le_mul_right k (show i + 1 ≤ n by omega)
          rw [Nat.add_mul, Nat.one_mul] at this; exact this
        obtain ⟨f1, f2⟩ := fold_cells v (i * k) c (by rw [a1, hsz]; omega)
        obtain ⟨c', q1, q2, q3, q4, q5⟩ := ih (s := i + 1) (c := v.cells.zipIdx.foldl (fun cs (x, j) => cs.setIfInBounds (i * k + j) x) c) hr (by rw [f1]; exact hsz) (by omega)
        have hlt : i * k + k = (i + 1) * k := by rw [Nat.add_mul, Nat.one_mul]
        refine ⟨c', ?_, by rw [q2, f1], ?_, ?_, ?_⟩
        · simp only [Instr.fill]
          rw [if_neg (by simp only [Bool.or_eq_true, decide_eq_true_eq]; omega)]
          exact q1
        · intro i' row hrow
          cases i' with
          | zero => simp at hrow; subst hrow; exact ⟨hlen, a2⟩
          | succ i' => exact q3 i' row (by simpa using hrow)
        · intro j hj
          rw [q4 j (by omega), f2, if_neg (by omega)]
        · intro i' j row y hrow hy
          cases i' with
          | zero =>
            simp at hrow; subst hrow
            have hj := lt_of_getElem? hy
            have hjv : j < v.cells.size := by omega
            refine ⟨v.cells[j], ?_, a3 j y _ hy (by simp [hjv])⟩
            rw [Nat.add_zero, q4 _ (by omega), f2, a1, if_pos (by omega)]
            have : i * k + j - i * k = j := by omega
            rw [this]; simp [hjv]
          | succ i' =>
            have := q5 i' j row y (by simpa using hrow) hy
            rw [show i + (i' + 1) = i + 1 + i' by omega]; exact this

theorem buildSlice_sound {E : Env} {g : Gh} {h h' : List ABlk} {w : World} {own : Bool} {t : TypeId} {len : Nat} {parts : List (Nat × AV)} {cparts : Array (Nat × Value)} {r : AV} (S : SimH E g h w)
    (ha : aBuildSlice E.P own h t len parts = some (r, h')) (hp : Parts g parts cparts.toList) :
    ∃ c w' g', (Instr.buildSlice t len cparts).run E.P w = .ok c w' ∧ Rep g' r c ∧ g.le g' ∧ SimH E g' h' w' := by
  unfold aBuildSlice at ha
  split at ha
  case h_2 => cases ha
  rename_i e hu
  split at ha
  case h_2 => cases ha
  rename_i k hk
  split at ha
  case h_2 => cases ha
  rename_i z hz
  split at ha
  case h_2 => cases ha
  rename_i rows hrows
  split at ha
  case isFalse => cases ha
  rename_i hc
  obtain ⟨hl, rfl, hsm⟩ := hc
  have hzz : ∃ zv, zeroO E.P e = some zv ∧ zv.cells.size = z := by
    unfold zszO at hz; cases hzo : zeroO E.P e with
    | none => simp [hzo] at hz
    | some zv => simp [hzo] at hz; exact ⟨zv, rfl, hz⟩
  obtain ⟨zv, hzv, hzs⟩ := hzz
  obtain ⟨zr, hzr⟩ : ∃ zr : Array Value, zr = if len * z = 0 then #[] else zv.cells := ⟨_, rfl⟩
  obtain ⟨c', q1, q2, q3, _, q5⟩ := rows_fill (n := len) hp (c := (Array.range (len * z)).map (zr[· % zr.size]!)) hrows (by simp) (by omega)
  have hsm' : ¬ (len * z > 2 ^ 24) := by simp; omega
  have hrun : (Instr.buildSlice t len cparts).run E.P w = .ok (.slice (some ⟨w.heap.size, 0, none⟩) len len) (w.alloc (.cells c' e)) := by
    unfold Instr.buildSlice
    by_cases h0 : len * z = 0
    · rw [if_pos h0] at hzr
      rw [hzr] at q1
      simp only [Sem.run_bind, run_underlying_of hu, Result.andThen_ok, run_sizeOf_of hk, if_neg hsm', if_pos h0, Sem.run_pure, q1, newRow, run_newObj]
      rfl
    · rw [if_neg h0] at hzr
      rw [hzr] at q1
      simp only [Sem.run_bind, run_underlying_of hu, Result.andThen_ok, run_sizeOf_of hk, if_neg hsm', if_neg h0, Sem.run_pure, run_zeroValue_of hzv, q1, newRow, run_newObj]
      rfl
  have hF : Flat g z rows c'.toList := ⟨by simp [q2, hl], q3, fun i j row v h1 h2 => by
    obtain ⟨cv, s1, s2, _⟩ := q5 i j row v h1 h2
    exact ⟨cv, by simpa using s1, s2⟩, fun cc hcc => by
    obtain ⟨m, hm, rfl⟩ := List.getElem_of_mem hcc
    simp [q2] at hm
    have hkp : 0 < z := by rcases Nat.eq_zero_or_pos z with h0 | h0; · subst h0; simp at hm
                           · exact h0
    have hd : m / z < rows.length := by rw [hl]; exact Nat.div_lt_of_lt_mul (by rw [Nat.mul_comm]; exact hm)
    have hrow : rows[m / z]? = some rows[m / z] := by simp [hd]
    have hrl := (q3 _ _ hrow).1
    have hmz := Nat.mod_lt m hkp
    obtain ⟨cv, s1, _, s3⟩ := q5 _ (m % z) _ ((rows[m / z])[m % z]'(by omega)) hrow (by simp [hrl, hmz])
    rw [Nat.zero_add, Nat.div_add_mod'] at s1
    have : c'[m]? = some c'.toList[m] := by simp [q2, hm]
    rw [this] at s1; cases s1; exact s3⟩
  have hG : Grew w (w.alloc (.cells c' e)) (.cells (c'.toList.toArray ++ #[]) e (0, 0)) := by
    rw [arr_id]; exact ⟨rfl, rfl, rfl, rfl⟩
  cases own with
  | true =>
    simp only [if_true] at ha
    cases ha
    obtain ⟨g', p1, p2, p3⟩ := append_fresh (nc := len) S hF (by simp) hl (Nat.le_refl _) hG
    exact ⟨_, _, g', hrun, p3, p1, p2⟩
  | false =>
    simp only [Bool.false_eq_true, if_false] at ha
    split at ha
    case isFalse => cases ha
    rename_i hfr
    cases ha
    simp only [List.all_eq_true] at hfr
    obtain ⟨g', p1, p2, p3⟩ := append_freshF (nc := len) S hF (fun i j row v h1 h2 cv hcv => AV.frozen_rep (hfr row (List.mem_of_getElem? h1) v (List.mem_of_getElem? h2)) hcv) hl (Nat.le_refl _) .full (by simp) (by simp) hG
    exact ⟨_, _, g', hrun, p3, p1, p2⟩

/- make -/
def aMakeSlice (P : Program) (own : Bool) (h : List ABlk) (t : TypeId) (len cap : AV) : Option (AV × List ABlk) :=
  match len, cap with
  | .int _ l, .int _ c => match P.underlying t with
    | some (.slice e) => match szO P e, bytesO P e with
      | some k, some b => match zeroRow P e with
        | some zr => if 0 ≤ l ∧ l ≤ c ∧ room c.toNat b ∧ zr.length = k then
            if own then some (.own h.length 0 l.toNat, h ++ [.live k (List.replicate c.toNat zr)])
            else if l = c then some (.sl .full k (List.replicate c.toNat zr), h) else none
          else none
        | none => none
      | _, _ => none
    | _ => none
  | _, _ => none

theorem wrap64_small {c : Int} (h0 : 0 ≤ c) (h1 : c ≤ 70368744177664) : IntKind.i64.wrap c = c := by
  unfold IntKind.wrap IntKind.bits IntKind.signed
  simp
  omega

theorem makeSlice_sound {E : Env} {g : Gh} {h h' : List ABlk} {w : World} {own : Bool} {t : TypeId} {len cap r : AV} {cl cc : Value} (S : SimH E g h w) (ha : aMakeSlice E.P own h t len cap = some (r, h')) (hrl : Rep g len cl) (hrc : Rep g cap cc) :
    ∃ c w' g', (Instr.makeSlice t cl cc).run E.P w = .ok c w' ∧ Rep g' r c ∧ g.le g' ∧ SimH E g' h' w' := by
  unfold aMakeSlice at ha
  split at ha
  case h_2 => cases ha
  rename_i k1 l k2 c
  split at ha
  case h_2 => cases ha
  rename_i e hu
  split at ha
  case h_2 => cases ha
  rename_i k b hk hb
  split at ha
  case h_2 => cases ha
  rename_i zr hz
  split at ha
  case isFalse => cases ha
  rename_i hc
  obtain ⟨h0, hlc, hroom, hzl⟩ := hc
  rw [hrl.int_inv, hrc.int_inv]
  obtain ⟨z, z1, z2, z3, z4⟩ := zeroRow_spec hz
  have hi : ∃ i, E.P.info? e = some i ∧ i.bytes = b ∧ i.size = k ∧ i.zero = some z := by
    unfold bytesO at hb; unfold szO at hk; unfold zeroO at z1
    cases hi : E.P.info? e with
    | none => simp [hi] at hb
    | some i => simp [hi] at hb hk z1; exact ⟨i, rfl, hb, hk, z1⟩
  obtain ⟨i, hi, rfl, rfl, hiz⟩ := hi
  have hcb : c ≤ 70368744177664 := by have := hroom.1; omega
  have e1 := wrap64_small (c := l) h0 (by omega)
  have e2 := wrap64_small (c := c) (by omega) hcb
  have hbc : ¬ ((i.bytes : Int) * c > 281474976710656) := by
    have := hroom.2
    have h2 : ((c.toNat * i.bytes : Nat) : Int) ≤ 70368744177664 := by omega
    rw [Int.natCast_mul] at h2
    have h3 : ((c.toNat : Nat) : Int) = c := by omega
    rw [h3, Int.mul_comm] at h2
    omega
  have hl0 : ¬ (l < 0) := by omega
  have hlc' : ¬ (l > c) := by omega
  have hc0 : ¬ (c < 0) := by omega
  obtain ⟨zc, hzr⟩ : ∃ zc : Array Value, zc = if c.toNat * i.size = 0 then #[] else z.cells := ⟨_, rfl⟩
  have hzc : c.toNat * i.size ≠ 0 → zc = z.cells := fun h => by rw [hzr, if_neg h]
  have hrun : (Instr.makeSlice t (.int k1 l) (.int k2 c)).run E.P w = .ok (.slice (some ⟨w.heap.size, 0, none⟩) l.toNat c.toNat) (w.alloc (.cells ((Array.range (c.toNat * i.size)).map (zc[· % zc.size]!)) e)) := by
    unfold Instr.makeSlice
    have hti : (typeInfo e).run E.P w = .ok i w := by simp only [typeInfo, Sem.run_bind, run_program, Result.andThen_ok, hi, Sem.run_pure]
    have hcond : ((decide (c < 0) || decide (((i.bytes : Nat) : Int) * c > 2 ^ 48)) || decide (l < 0) || decide (l > c)) = false := by
      have e48 : ((2 : Int) ^ 48) = 281474976710656 := by decide
      rw [e48, decide_eq_false hbc, decide_eq_false hl0, decide_eq_false hlc', decide_eq_false hc0]
      rfl
    by_cases h00 : c.toNat * i.size = 0
    · rw [if_pos h00] at hzr
      simp only [Sem.run_bind, run_underlying_of hu, Result.andThen_ok, asInt, asIntOf, Sem.run_pure, hti, e1, e2, hcond, Bool.false_eq_true, if_false, run_askRoom, run_sizeOf_of hk, if_pos h00, newRow, run_newObj, hzr]
      rfl
    · rw [if_neg h00] at hzr
      simp only [Sem.run_bind, run_underlying_of hu, Result.andThen_ok, asInt, asIntOf, Sem.run_pure, hti, e1, e2, hcond, Bool.false_eq_true, if_false, run_askRoom, run_sizeOf_of hk, if_neg h00, run_zeroValue_of z1, newRow, run_newObj, hzr]
      rfl
  have hF : Flat g i.size (List.replicate c.toNat zr) ((Array.range (c.toNat * i.size)).map (zc[· % zc.size]!)).toList := by
    have hcell : ∀ m, m < c.toNat * i.size → ∃ hm : m % i.size < z.cells.size, ((Array.range (c.toNat * i.size)).map (zc[· % zc.size]!)).toList[m]? = some (z.cells[m % i.size]'hm) := by
      intro m hm
      have hkp : 0 < i.size := by rcases Nat.eq_zero_or_pos i.size with h0 | h0; · rw [h0] at hm; simp at hm
                                  · exact h0
      have hzs : z.cells.size = i.size := by rw [z2, hzl]
      have hmz := Nat.mod_lt m hkp
      refine ⟨by omega, ?_⟩
      have : zc = z.cells := hzc (by omega)
      subst this
      simp only [Array.toList_map, List.getElem?_map, Array.getElem?_toList]
      simp [hm, hzs]
      rw [getElem!_pos _ _ (by omega)]
    refine ⟨by simp, ?_, ?_, ?_⟩
    · intro a row hr
      rw [List.getElem?_replicate] at hr
      split at hr <;> simp at hr
      subst hr
      exact ⟨hzl, z3⟩
    · intro a j row v hr hv
      have ha := lt_of_getElem? hr
      simp at ha
      rw [List.getElem?_replicate, if_pos (by omega)] at hr
      cases hr
      have hj : j < i.size := hzl ▸ lt_of_getElem? hv
      have hlt : a * i.size + j < c.toNat * i.size := by
        have := Nat.mul_le_mul_right i.size (show a + 1 ≤ c.toNat by omega)
        rw [Nat.add_mul, Nat.one_mul] at this; omega
      obtain ⟨hm, h1⟩ := hcell _ hlt
      refine ⟨_, h1, (z4 g j v _ hv ?_).1⟩
      have : (a * i.size + j) % i.size = j := by rw [Nat.mul_comm, Nat.mul_add_mod, Nat.mod_eq_of_lt hj]
      simp [this]
    · intro cc hcc
      obtain ⟨m, hm, rfl⟩ := List.getElem_of_mem hcc
      have hm' : m < c.toNat * i.size := by simpa using hm
      obtain ⟨hmz, h1⟩ := hcell m hm'
      have : ((Array.range (c.toNat * i.size)).map (zc[· % zc.size]!)).toList[m]? = some (((Array.range (c.toNat * i.size)).map (zc[· % zc.size]!)).toList[m]) := List.getElem?_eq_getElem hm
      rw [this] at h1
      have h2 := Option.some.inj h1
      rw [h2]
      have hzs : m % i.size < zr.length := by omega
      exact (z4 g (m % i.size) zr[m % i.size] _ (by simp) (by simp [hmz])).2
  have hG : Grew w (w.alloc (.cells ((Array.range (c.toNat * i.size)).map (zc[· % zc.size]!)) e)) (.cells (((Array.range (c.toNat * i.size)).map (zc[· % zc.size]!)).toList.toArray ++ #[]) e (0, 0)) := by
    rw [arr_id]; exact ⟨rfl, rfl, rfl, rfl⟩
  cases own with
  | true =>
    simp only [if_true] at ha
    cases ha
    obtain ⟨g', p1, p2, p3⟩ := append_fresh (nc := c.toNat) S hF (by simp) (by simp) (Nat.le_refl _) hG
    refine ⟨_, _, g', hrun, ?_, p1, p2⟩
    rcases p3.own_inv with ⟨lc, cap', q1, q2, q3, q4⟩ | ⟨q1, a, q2⟩
    · injection q4 with q5 q6 q7
      rw [q5, q7]
      exact Rep.own (g := g') h.length 0 l.toNat cap' lc q1 (by omega) q3
    · have : l = 0 ∧ c = 0 := by constructor <;> omega
      rw [this.1, this.2]
      have e0 : (Int.toNat 0) = 0 := rfl
      rw [e0]
      exact .ownz _ _ _ _ p3.own_dom.choose_spec
  | false =>
    simp only [Bool.false_eq_true, if_false] at ha
    split at ha
    case isFalse => cases ha
    rename_i hlc2
    cases ha
    subst hlc2
    have hfr : ∀ x ∈ zr, ∀ (cv : Value), Rep g x cv → RepF g.M x cv := by
      intro x hx cv hcv
      obtain ⟨j, hj, rfl⟩ := List.getElem_of_mem hx
      have hzrow : ∃ z', acells (avOf z') = some zr := ⟨z, by unfold zeroRow at hz; simp only [z1] at hz; exact hz⟩
      obtain ⟨z', hz'⟩ := hzrow
      have : ∀ y ∈ zr, y.frozen = true := by
        intro y hy
        have av1 : ∀ v : Value, (avOf1 v).frozen = true ∨ avOf1 v = .junk := by
          intro v; unfold avOf1; split <;> simp [AV.frozen]
        have aux : ∀ (v : AV), acells v = some zr → (v.frozen = true ∨ v = .junk ∨ ∃ l, v = .agg l ∧ ∀ y ∈ l, y.frozen = true ∨ y = .junk) → y.frozen = true := by
          intro v hv hcase
          rcases hcase with h1 | h1 | ⟨l, h1, h2⟩
          · cases v <;> simp [AV.frozen] at h1 <;> simp [acells] at hv <;> subst hv <;> simp at hy <;> subst hy <;> simp [AV.frozen, h1]
          · subst h1; simp [acells] at hv
          · subst h1
            simp [acells] at hv
            obtain ⟨hv, rfl⟩ := hv
            rcases h2 y hy with h3 | h3
            · exact h3
            · subst h3; have := hv _ hy; simp [AV.leaf] at this
        refine aux _ hz' ?_
        unfold avOf
        split
        · right; right; refine ⟨_, rfl, fun y hy => ?_⟩
          simp at hy; obtain ⟨v, _, rfl⟩ := hy; exact av1 v
        · simp [avOf, acells] at hz'
        · rcases av1 z' with h1 | h1
          · exact .inl h1
          · exact .inr (.inl h1)
      exact AV.frozen_rep (this _ hx) hcv
    obtain ⟨g', p1, p2, p3⟩ := append_freshF (nc := l.toNat) S hF (fun i j row v h1 h2 cv hcv => by
      rw [List.getElem?_replicate] at h1
      split at h1 <;> simp at h1
      subst h1
      exact hfr v (List.mem_of_getElem? h2) cv hcv) (by simp) (Nat.le_refl _) .full (by simp) (by simp) hG
    exact ⟨_, _, g', hrun, p3, p1, p2⟩
end Go.Proofs.YtpdohkcjhphibaaDoor.Sm
