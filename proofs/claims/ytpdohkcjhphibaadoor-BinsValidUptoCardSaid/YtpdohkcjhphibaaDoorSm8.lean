/- The abstract operation of a statement's step, and that it is what the model does; no condition. -/
import Derived.Test.YtpdohkcjhphibaaDoorSm7
import Derived.Laws.BytesString
set_option linter.unusedVariables false
namespace Go.Proofs.YtpdohkcjhphibaaDoor.Sm
open Go

/- rows of a block overwritten -/
theorem rows_write {E : Env} {g : Gh} {h : List ABlk} {w : World} {b k at_ : Nat} {B zs : List (List AV)} {l : Loc} {ds : List Value} (S : SimH E g h w) (hb : h[b]? = some (.live k B)) (hl : g.μ b = some l)
    (hF : Flat g k zs ds) (hle : at_ + zs.length ≤ B.length) :
    ∃ w', (storeCells ⟨l.cb, l.co + at_ * k, none⟩ ds).run E.P w = .ok () w' ∧ SimH E g (h.set b (.live k (B.take at_ ++ zs ++ B.drop (at_ + zs.length)))) w' := by
  obtain ⟨l', c, e, q1, q2, q3, q4, q5, q6, q7, q8⟩ := S.live b k B hb
  rw [hl] at q1; cases q1
  subst q2
  have hmul : (at_ + zs.length) * l.k ≤ B.length * l.k := Nat.mul_le_mul_right _ hle
  rw [Nat.add_mul] at hmul
  have hfl := hF.len
  obtain ⟨w', c', hrun, hW⟩ := run_storeCells E.P l.cb (l.co + at_ * l.k) e ds 0 w c q4 (by omega) hF.one
  refine ⟨w', hrun, S.write hb hl hW q5 ⟨?_, ?_, ?_⟩⟩
  · rw [hW.size, q5]
    have : (B.take at_ ++ zs ++ B.drop (at_ + zs.length)).length = B.length := by simp; omega
    rw [this]; exact q6
  all_goals
    have split : ∀ i row, (B.take at_ ++ zs ++ B.drop (at_ + zs.length))[i]? = some row → (B[i]? = some row ∧ (i < at_ ∨ at_ + zs.length ≤ i)) ∨ (at_ ≤ i ∧ zs[i - at_]? = some row) := by
      intro i row hr
      rw [List.append_assoc, List.getElem?_append] at hr
      simp only [List.length_take, Nat.min_eq_left (show at_ ≤ B.length by omega)] at hr
      split at hr
      · rename_i hi
        rw [List.getElem?_take, if_pos hi] at hr
        exact .inl ⟨hr, .inl hi⟩
      · rename_i hi
        rw [List.getElem?_append] at hr
        split at hr
        · exact .inr ⟨by omega, hr⟩
        · rename_i hj
          rw [List.getElem?_drop] at hr
          have : at_ + zs.length + (i - at_ - zs.length) = i := by omega
          rw [this] at hr
          exact .inl ⟨hr, .inr (by omega)⟩
  · intro i row hr
    rcases split i row hr with ⟨h1, _⟩ | ⟨_, h1⟩
    · exact q7 i row h1
    · exact hF.rows _ row h1
  · intro i j row v hr hv
    rcases split i row hr with ⟨h1, h2⟩ | ⟨h1, h2⟩
    · obtain ⟨cv, s1, s2⟩ := q8 i j row v h1 hv
      refine ⟨cv, ?_, s2⟩
      have hj : j < l.k := (q7 i row h1).1 ▸ lt_of_getElem? hv
      rw [hW.cells, if_neg]
      · exact s1
      · rw [hfl]
        intro hh
        rcases h2 with h2 | h2
        · have := Nat.mul_le_mul_right l.k (show i + 1 ≤ at_ by omega)
          rw [Nat.add_mul, Nat.one_mul] at this; omega
        · have := Nat.mul_le_mul_right l.k h2
          rw [Nat.add_mul] at this; omega
    · obtain ⟨cv, s1, s2⟩ := hF.get _ j row v h2 hv
      refine ⟨cv, ?_, s2⟩
      have hlt := lt_of_getElem? s1
      have e1 : i * l.k = at_ * l.k + (i - at_) * l.k := by rw [← Nat.add_mul]; congr 1; omega
      rw [hW.cells, if_pos (by omega), ← s1]
      congr 1; omega

def rowsSet (B : List (List AV)) (at_ : Nat) (zs : List (List AV)) : List (List AV) := B.take at_ ++ zs ++ B.drop (at_ + zs.length)

theorem Flat.take {g : Gh} {k n : Nat} {xs : List (List AV)} {cs : List Value} (h : Flat g k xs cs) : Flat g k (xs.take n) (cs.take (n * k)) where
  len := by simp [h.len]
  rows i row hr := by
    rw [List.getElem?_take] at hr
    split at hr
    · exact h.rows i row hr
    · cases hr
  get i j row v hr hv := by
    rw [List.getElem?_take] at hr
    split at hr
    · rename_i hi
      obtain ⟨cv, a, b⟩ := h.get i j row v hr hv
      refine ⟨cv, ?_, b⟩
      have hj : j < k := (h.rows i row hr).1 ▸ lt_of_getElem? hv
      have := Nat.mul_le_mul_right k (show i + 1 ≤ n by omega)
      rw [Nat.add_mul, Nat.one_mul] at this
      rw [List.getElem?_take, if_pos (by omega)]; exact a
    · cases hr
  one c hc := h.one c (List.mem_of_mem_take hc)

def aCopy (P : Program) (h : List ABlk) (t : TypeId) (d s : AV) : Option (AV × List ABlk) :=
  match P.underlying t with
  | some (.slice e) => match szO P e with
    | some k => match conts h s with
      | some (k', ys) => match d with
        | .own b off len => match h[b]? with
          | some (.live k0 B) => if k0 = k ∧ (k' = k ∨ ys.length = 0) ∧ off + len ≤ B.length then some (.int .i64 (min ys.length len), h.set b (.live k (rowsSet B off (ys.take (min ys.length len))))) else none
          | _ => none
        | .sl .nil _ _ => some (.int .i64 0, h)
        | _ => none
      | none => none
    | none => none
  | _ => none

theorem copy_sound {E : Env} {g : Gh} {h h' : List ABlk} {w : World} {t t1 ty : TypeId} {d s r : AV} {cd cs : Value} (S : SimH E g h w) (ha : aCopy E.P h t d s = some (r, h')) (hd : Rep g d cd) (hs : Rep g s cs) :
    ∃ c w' g', (Builtin.copy_ #[t, t1] ty #[cd, cs]).run E.P w = .ok c w' ∧ Rep g' r c ∧ g.le g' ∧ SimH E g' h' w' := by
  unfold aCopy at ha
  split at ha
  case h_2 => cases ha
  rename_i e hu
  split at ha
  case h_2 => cases ha
  rename_i k hk
  split at ha
  case h_2 => cases ha
  rename_i k' ys hc
  obtain ⟨p, cap, rfl, hcap, hp⟩ := conts_flat S hs hc
  split at ha
  · rename_i b off len
    split at ha
    case h_2 => cases ha
    rename_i k0 B hb
    split at ha
    case isFalse => cases ha
    rename_i hcc
    obtain ⟨rfl, hkk, hlB⟩ := hcc
    cases ha
    -- the cells read
    have hsrc : ∃ ds, Flat g k0 (ys.take (min ys.length len)) ds ∧ (Builtin.firstCells k0 (min ys.length len) (.slice p ys.length cap)).run E.P w = .ok ds.toArray w := by
      rcases hp with ⟨rfl, rfl, rfl⟩ | ⟨ad, cs, rfl, hF, hcells⟩
      · exact ⟨[], by simp [Flat.nil], by simp [Builtin.firstCells]⟩
      · have hF' : Flat g k0 ys cs := by
          rcases hkk with h0 | h0
          · rw [← h0]; exact hF
          · have : ys = [] := List.eq_nil_of_length_eq_zero h0
            subst this
            have : cs = [] := List.eq_nil_of_length_eq_zero (by rw [hF.len]; simp)
            subst this
            exact Flat.nil g k0
        have hT := hF'.take (n := min ys.length len)
        refine ⟨_, hT, run_firstCells_some w k0 (min ys.length len) ad _ cap _ ?_ fun j v hj => ?_⟩
        · rw [hT.len]; simp

        · rw [List.getElem?_take] at hj
          split at hj
          · exact hcells j v hj
          · cases hj
    obtain ⟨ds, hFd, hrunF⟩ := hsrc
    have hmin : Nat.min ys.length len = min ys.length len := rfl
    have hlenT : (ys.take (min ys.length len)).length = min ys.length len := by simp
    rcases hd.own_inv with ⟨l, cap', q1, q2, q3, rfl⟩ | ⟨h0, q, rfl⟩
    · obtain ⟨l', c, e', p1, p2, _⟩ := S.live b k0 B hb
      rw [q1] at p1; cases p1
      obtain ⟨w', hrun, S'⟩ := rows_write S hb q1 hFd (at_ := off) (by rw [hlenT]; omega)
      refine ⟨.int .i64 ((min ys.length len : Nat) : Int), w', g, ?_, ?_, Gh.le.refl g, S'⟩
      · simp [Builtin.copy_, run_underlying_of hu, run_sizeOf_of hk, Builtin.lenOf, hmin, hrunF, p2, hrun, goInt]
      · have : ((min ys.length len : Nat) : Int) = min (ys.length : Int) (len : Int) := by omega
        rw [this]; exact .int _ _ _
    · subst h0
      have hds : ds = [] := List.eq_nil_of_length_eq_zero (by rw [hFd.len]; simp)
      subst hds
      refine ⟨.int .i64 0, w, g, ?_, ?_, Gh.le.refl g, ?_⟩
      · have hm0 : Nat.min ys.length 0 = 0 := by simp
        have hm1 : min ys.length 0 = 0 := by simp
        rw [hm1] at hrunF
        simp [Builtin.copy_, run_underlying_of hu, run_sizeOf_of hk, Builtin.lenOf, hrunF, storeCells, goInt]
      · have : min (ys.length : Int) ((0 : Nat) : Int) = 0 := by omega
        rw [this]; exact .int _ _ _
      · have e0 : rowsSet B off (ys.take (min ys.length 0)) = B := by simp [rowsSet]
        rw [e0]
        have : h.set b (.live k0 B) = h := by
          apply List.ext_getElem?
          intro j
          rw [List.getElem?_set]
          split
          · rename_i hj; subst hj; split <;> rename_i hlt
            · exact hb.symm
            · rw [List.getElem?_eq_none (by omega)]
          · rfl
        rw [this]; exact S
  · rename_i k2 xs2
    cases ha
    cases hd.sl_inv with
    | empty _ _ _ _ h1 => exact absurd rfl h1
    | sl _ _ _ _ _ _ _ _ _ _ _ h1 => exact absurd rfl h1
    | nil =>
      have hf0 : ∃ arr, (Builtin.firstCells k 0 (.slice p ys.length cap)).run E.P w = .ok arr w := by
        cases p <;> simp [Builtin.firstCells, loadCells, loadCellsFrom]
      obtain ⟨arr, hf0⟩ := hf0
      refine ⟨.int .i64 0, w, g, ?_, .int _ _ _, Gh.le.refl g, S⟩
      simp [Builtin.copy_, run_underlying_of hu, run_sizeOf_of hk, Builtin.lenOf, hf0, goInt]
  · cases ha

def aClear (P : Program) (h : List ABlk) (t : TypeId) (d : AV) : Option (AV × List ABlk) :=
  match P.underlying t with
  | some (.slice e) => match zeroRow P e with
    | some zr => match d with
      | .own b off len => match h[b]? with
        | some (.live k B) => if k = zr.length ∧ off + len ≤ B.length then some (undefA, h.set b (.live k (rowsSet B off (List.replicate len zr)))) else none
        | _ => none
      | .sl _ _ xs => if xs.length = 0 then some (undefA, h) else none
      | _ => none
    | none => none
  | _ => none

theorem zeros_flat {g : Gh} {zr : List AV} {z : Value} (n : Nat) (h1 : z.cells.size = zr.length) (h2 : ∀ (j : Nat) (x : AV), zr[j]? = some x → x.leaf = true)
    (h3 : ∀ (j : Nat) (x : AV) (c : Value), zr[j]? = some x → z.cells[j]? = some c → Rep g x c ∧ c.oneCell' = true) : Flat g zr.length (List.replicate n zr) (Builtin.zeroCells z.cells n).toList := by
  have hcell : ∀ m, m < n * zr.length → ∃ hm : m % zr.length < z.cells.size, (Builtin.zeroCells z.cells n).toList[m]? = some (z.cells[m % zr.length]'hm) := by
    intro m hm
    have hkp : 0 < zr.length := by rcases Nat.eq_zero_or_pos zr.length with h0 | h0; · rw [h0] at hm; simp at hm
                                   · exact h0
    have hmz := Nat.mod_lt m hkp
    refine ⟨by omega, ?_⟩
    simp only [Builtin.zeroCells, Array.toList_map, List.getElem?_map, Array.getElem?_toList]
    simp [h1, hm]
    rw [getElem!_pos _ _ (by omega)]
  refine ⟨by simp [zeroCells_size, h1], ?_, ?_, ?_⟩
  · intro a row hr
    rw [List.getElem?_replicate] at hr
    split at hr <;> simp at hr
    subst hr
    exact ⟨rfl, h2⟩
  · intro a j row v hr hv
    have ha := lt_of_getElem? hr
    simp at ha
    rw [List.getElem?_replicate, if_pos ha] at hr
    cases hr
    have hj := lt_of_getElem? hv
    have hlt : a * zr.length + j < n * zr.length := by
      have := Nat.mul_le_mul_right zr.length (show a + 1 ≤ n by omega)
      rw [Nat.add_mul, Nat.one_mul] at this; omega
    obtain ⟨hm, h4⟩ := hcell _ hlt
    refine ⟨_, h4, (h3 j v _ hv ?_).1⟩
    have : (a * zr.length + j) % zr.length = j := by rw [Nat.mul_comm, Nat.mul_add_mod, Nat.mod_eq_of_lt hj]
    simp [this]
  · intro cc hcc
    obtain ⟨m, hm, rfl⟩ := List.getElem_of_mem hcc
    have hm' : m < n * zr.length := by simpa [zeroCells_size, h1] using hm
    obtain ⟨hmz, h4⟩ := hcell m hm'
    rw [List.getElem?_eq_getElem hm] at h4
    have h5 := Option.some.inj h4
    rw [h5]
    have hzs : m % zr.length < zr.length := by omega
    exact (h3 (m % zr.length) zr[m % zr.length] _ (by simp) (by simp [hmz])).2

theorem clear_sound {E : Env} {g : Gh} {h h' : List ABlk} {w : World} {t ty : TypeId} {d r : AV} {cd : Value} (S : SimH E g h w) (ha : aClear E.P h t d = some (r, h')) (hd : Rep g d cd) :
    ∃ c w' g', (Builtin.clear_ #[t] ty #[cd]).run E.P w = .ok c w' ∧ Rep g' r c ∧ g.le g' ∧ SimH E g' h' w' := by
  unfold aClear at ha
  split at ha
  case h_2 => cases ha
  rename_i e hu
  split at ha
  case h_2 => cases ha
  rename_i zr hz
  obtain ⟨z, z1, z2, z3, z4⟩ := zeroRow_spec hz
  split at ha
  · rename_i b off len
    split at ha
    case h_2 => cases ha
    rename_i k B hb
    split at ha
    case isFalse => cases ha
    rename_i hc
    obtain ⟨rfl, hle⟩ := hc
    cases ha
    have hF := zeros_flat len z2 z3 (z4 g)
    by_cases hl0 : len = 0
    · subst hl0
      have e0 : rowsSet B off (List.replicate 0 zr) = B := by simp [rowsSet]
      have hh : h.set b (.live zr.length B) = h := by
        apply List.ext_getElem?
        intro j
        rw [List.getElem?_set]
        split
        · rename_i hj; subst hj; split <;> rename_i hlt
          · exact hb.symm
          · rw [List.getElem?_eq_none (by omega)]
        · rfl
      rw [e0, hh]
      rcases hd.own_inv with ⟨l, cap', q1, q2, q3, rfl⟩ | ⟨h0, q, rfl⟩
      · exact ⟨undef, w, g, by simp [Builtin.clear_, run_underlying_of hu]; rfl, Rep.undef g, Gh.le.refl g, S⟩
      · exact ⟨undef, w, g, by simp [Builtin.clear_, run_underlying_of hu]; rfl, Rep.undef g, Gh.le.refl g, S⟩
    · rcases hd.own_inv with ⟨l, cap', q1, q2, q3, rfl⟩ | ⟨h0, q, rfl⟩
      · obtain ⟨l', c, e', p1, p2, _⟩ := S.live b _ B hb
        rw [q1] at p1; cases p1
        obtain ⟨w', hrun, S'⟩ := rows_write S hb q1 hF (at_ := off) (by simpa using hle)
        refine ⟨undef, w', g, ?_, Rep.undef g, Gh.le.refl g, S'⟩
        obtain ⟨m, rfl⟩ : ∃ m, len = m + 1 := ⟨len - 1, by omega⟩
        simp [Builtin.clear_, run_underlying_of hu, run_zeroValue_of z1, p2, hrun]
        rfl
      · exact absurd h0 hl0
  · rename_i m k xs
    split at ha
    case isFalse => cases ha
    rename_i hx
    cases ha
    have hx0 : xs = [] := List.eq_nil_of_length_eq_zero hx
    subst hx0
    refine ⟨undef, w, g, ?_, Rep.undef g, Gh.le.refl g, S⟩
    cases hd.sl_inv with
    | nil => simp [Builtin.clear_, run_underlying_of hu]; rfl
    | empty => simp [Builtin.clear_, run_underlying_of hu]; rfl
    | sl _ _ _ _ _ _ _ _ _ _ h1 => exact absurd rfl h1
  · cases ha

/- a field, a byte -/
def aField (P : Program) (t : TypeId) (x : AV) (f : Nat) : Option AV :=
  match x with
  | .agg cs => match P.underlying t with
    | some (.struct fields) => match fields[f]? with
      | some fl => match aggO P fl.type with
        | some true => match szO P fl.type with
          | some n => some (.agg ((cs.drop fl.offset).take n))
          | none => none
        | some false => cs[fl.offset]?
        | none => none
      | none => none
    | _ => none
  | _ => none
theorem field_sound {P : Program} {g : Gh} {w : World} {t : TypeId} {x v : AV} {f : Nat} {cx : Value} (ha : aField P t x f = some v) (hr : Rep g x cx) : ∃ cv, (Instr.field t cx f).run P w = .ok cv w ∧ Rep g v cv := by
  unfold aField at ha
  split at ha
  case h_2 => cases ha
  rename_i cs
  obtain ⟨vs, rfl, h1, h2⟩ := hr.agg_inv
  split at ha
  case h_2 => cases ha
  rename_i fields hu
  split at ha
  case h_2 => cases ha
  rename_i fl hf
  split at ha
  · rename_i hag
    split at ha
    · rename_i n hn
      cases ha
      refine ⟨.agg (vs.extract fl.offset (fl.offset + n)), by simp [Instr.field, run_underlying_of hu, hf, part, run_isAgg_of hag, run_sizeOf_of hn, asAgg], .agg _ _ (by simp [h1]; omega) fun i v cv a b => ?_⟩
      rw [List.getElem?_take] at a
      split at a
      · rw [List.getElem?_drop] at a
        rw [Array.getElem?_extract] at b
        split at b
        · exact h2 _ v cv a b
        · cases b
      · cases a
    · cases ha
  · rename_i hag
    have hlt := lt_of_getElem? ha
    have : vs[fl.offset]? = some (vs[fl.offset]'(by omega)) := by simp [h1, hlt]
    exact ⟨_, by simp [Instr.field, run_underlying_of hu, hf, part, run_isAgg_of hag, asAgg, this], h2 _ v _ ha this⟩
  · cases ha

def aIndex (P : Program) (t : TypeId) (x ix : AV) : Option AV :=
  match x, ix with
  | .str s, .int _ i => match P.underlying t with
    | some .string => if 0 ≤ i then match s[i.toNat]? with
      | some b => some (.int .u8 b.toNat)
      | none => none
      else none
    | _ => none
  | _, _ => none
theorem index_sound {P : Program} {g : Gh} {w : World} {t : TypeId} {x ix v : AV} {cx ci : Value} (ha : aIndex P t x ix = some v) (hr : Rep g x cx) (hi : Rep g ix ci) : ∃ cv, (Instr.index t cx ci).run P w = .ok cv w ∧ Rep g v cv := by
  unfold aIndex at ha
  split at ha
  case h_2 => cases ha
  rename_i s k i
  split at ha
  case h_2 => cases ha
  rename_i hu
  split at ha
  case isFalse => cases ha
  rename_i h0
  split at ha
  case h_2 => cases ha
  rename_i b hb
  cases ha
  rw [hr.str_inv, hi.int_inv]
  exact ⟨.int .u8 b.toNat, by simp [Instr.index, asIntOf, run_underlying_of hu, h0, hb], .int _ _ _⟩

/- scalars -/
def aUn (op : UnOp) (x : AV) : Option AV :=
  match op, x with
  | .not, .bool b => some (.bool (!b))
  | .neg, .int k n => some (.int k (k.wrap (0 - n)))
  | .xor, .int k n => some (.int k (k.wrap (BitVec.ofInt k.bits (if k.signed then -1 else k.max) ^^^ BitVec.ofInt k.bits n).toNat))
  | _, _ => none
theorem un_sound {P : Program} {g : Gh} {w : World} {op : UnOp} {x v : AV} {cx : Value} (ha : aUn op x = some v) (hr : Rep g x cx) : ∃ cv, (Op.unary op cx).run P w = .ok cv w ∧ Rep g v cv := by
  unfold aUn at ha
  split at ha
  · cases ha; rw [hr.bool_inv]; exact ⟨_, rfl, .bool _ _⟩
  · cases ha; rw [hr.int_inv]; exact ⟨_, rfl, .int _ _ _⟩
  · cases ha; rw [hr.int_inv]; exact ⟨_, rfl, .int _ _ _⟩
  · cases ha
def u8of : List (List AV) → Option (List Int)
  | [] => some []
  | r :: rs => match r with
    | [.int .u8 n] => match u8of rs with
      | some ns => some (n :: ns)
      | none => none
    | _ => none
/-- the string of these bytes -/
def strOf (ns : List Int) : ByteArray := ns.foldl (fun r n => r.push (UInt8.ofNat n.toNat)) ByteArray.empty
def aConv (P : Program) (s d : TypeId) (x : AV) : Option AV :=
  match x with
  | .int _ n => match P.underlying s, P.underlying d with
    | some _, some (.int k) => some (.int k (k.wrap n))
    | _, _ => none
  | .str b => match P.underlying s, P.underlying d with
    | some .string, some .string => some (.str b)
    | _, _ => none
  | .sl _ k xs => match P.underlying s, P.underlying d with
    | some (.slice e), some .string => match P.underlying e with
      | some (.int .u8) => if k = 1 then match u8of xs with
        | some ns => some (.str (strOf ns))
        | none => none
        else none
      | _ => none
    | _, _ => none
  | _ => none
theorem u8of_get {g : Gh} : ∀ {xs : List (List AV)} {ns : List Int} {cs : List Value}, u8of xs = some ns → cs.length = xs.length → (∀ (i : Nat) (row : List AV) (v : AV), xs[i]? = some row → row[0]? = some v → ∃ cv, cs[i]? = some cv ∧ Rep g v cv) → cs = ns.map (Value.int .u8)
  | [], ns, cs, h, hl, _ => by
    simp [u8of] at h; subst h
    exact List.length_eq_zero_iff.1 (by simpa using hl)
  | r :: rs, ns, cs, h, hl, hr => by
    unfold u8of at h
    split at h
    case h_2 => cases h
    rename_i n
    split at h
    case h_2 => cases h
    rename_i ns' hn
    cases h
    cases cs with
    | nil => simp at hl
    | cons c cs =>
      obtain ⟨cv, h1, h2⟩ := hr 0 _ _ rfl rfl
      simp at h1; subst h1
      have ih : cs = ns'.map (Value.int .u8) := u8of_get hn (by simpa using hl) (fun i row v a b => by have := hr (i + 1) row v (by simpa using a) b; simpa using this)
      rw [h2.int_inv, ih]
      rfl
theorem conv_sound {E : Env} {g : Gh} {h : List ABlk} {w : World} {s d : TypeId} {x v : AV} {cx : Value} (S : SimH E g h w) (ha : aConv E.P s d x = some v) (hr : Rep g x cx) : ∃ cv, (convert s d cx).run E.P w = .ok cv w ∧ Rep g v cv := by
  unfold aConv at ha
  split at ha
  · split at ha
    · rename_i k0 n ds k h1 h2
      cases ha; rw [hr.int_inv]
      exact ⟨_, by simp [convert, run_underlying_of h1, run_underlying_of h2]; rfl, .int _ _ _⟩
    · cases ha
  · split at ha
    · rename_i b h1 h2
      cases ha; rw [hr.str_inv]
      exact ⟨_, by simp [convert, run_underlying_of h1, run_underlying_of h2], .str _ _⟩
    · cases ha
  · rename_i m k xs
    split at ha
    case h_2 => cases ha
    rename_i e hs hd
    split at ha
    case h_2 => cases ha
    rename_i he
    split at ha
    case isFalse => cases ha
    rename_i hk
    subst hk
    split at ha
    case h_2 => cases ha
    rename_i ns hns
    cases ha
    obtain ⟨p, cap, rfl, _, hp⟩ := conts_flat (k := 1) (xs := xs) S hr rfl
    refine ⟨.string (strOf ns), ?_, .str _ _⟩
    rw [run_convert_bytes_string w s d e _ _ _ hs he hd]
    rcases hp with ⟨rfl, rfl, rfl⟩ | ⟨ad, cs, rfl, hf, hc⟩
    · simp [u8of] at hns; subst hns
      simp [Conv.bytesToString, strOf]
    · have hcs : cs = ns.map (Value.int .u8) := u8of_get (g := g) hns (by have := hf.len; omega) (fun i row v a b => by
        obtain ⟨cv, q1, q2⟩ := hf.get i 0 row v a b
        exact ⟨cv, by simpa using q1, q2⟩)
      have hrun := run_loadCells_list (P := E.P) w ad cs (fun i c hci => hc i c hci)
      rw [hcs] at hrun
      have hl : (ns.map (Value.int .u8)).length = xs.length := by rw [← hcs]; have := hf.len; omega
      rw [hl] at hrun
      rw [run_bytesToString w ad xs.length cap ns hrun]
      rfl
  · cases ha

def aLen (P : Program) (t : TypeId) (x : AV) : Option AV :=
  match P.underlying t with
  | some .string => match x with
    | .str s => some (.int .i64 s.size)
    | _ => none
  | some (.slice _) => match x with
    | .sl _ _ xs => some (.int .i64 xs.length)
    | .own _ _ len => some (.int .i64 len)
    | _ => none
  | some (.array n _) => some (.int .i64 n)
  | _ => none
theorem len_sound {P : Program} {g : Gh} {w : World} {t ty : TypeId} {x v : AV} {cx : Value} (ha : aLen P t x = some v) (hr : Rep g x cx) : ∃ cv, (Builtin.len_ #[t] ty #[cx]).run P w = .ok cv w ∧ Rep g v cv := by
  unfold aLen at ha
  split at ha
  · rename_i hu
    split at ha
    · cases ha; rw [hr.str_inv]; exact ⟨_, by simp [Builtin.len_, run_underlying_of hu]; rfl, .int _ _ _⟩
    · cases ha
  · rename_i e hu
    split at ha
    · cases ha
      have : ∃ p cap, cx = .slice p (List.length ‹List (List AV)›) cap := by cases hr.sl_inv <;> exact ⟨_, _, rfl⟩
      obtain ⟨p, cap, rfl⟩ := this
      exact ⟨_, by simp [Builtin.len_, run_underlying_of hu]; rfl, .int _ _ _⟩
    · cases ha
      rcases hr.own_inv with ⟨l, cap, _, _, _, rfl⟩ | ⟨h0, q, rfl⟩
      · exact ⟨_, by simp [Builtin.len_, run_underlying_of hu]; rfl, .int _ _ _⟩
      · subst h0; exact ⟨_, by simp [Builtin.len_, run_underlying_of hu]; rfl, .int _ _ _⟩
    · cases ha
  · rename_i n e hu
    cases ha
    exact ⟨_, by simp [Builtin.len_, run_underlying_of hu]; rfl, .int _ _ _⟩
  · cases ha

def aMax2 : AV → AV → Option AV
  | .int k a, .int k' b => if k = k' then some (.int k (max a b)) else none
  | _, _ => none
def aMin2 : AV → AV → Option AV
  | .int k a, .int k' b => if k = k' then some (.int k (min a b)) else none
  | _, _ => none
def aFold (f : AV → AV → Option AV) : AV → List AV → Option AV
  | x, [] => some x
  | x, y :: r => match f x y with
    | some z => aFold f z r
    | none => none
theorem fold_sound {P : Program} {g : Gh} {w : World} {f : AV → AV → Option AV} {c : Value → Value → Sem Value} (hf : ∀ x y z cx cy, f x y = some z → Rep g x cx → Rep g y cy → ∃ cz, (c cx cy).run P w = .ok cz w ∧ Rep g z cz) :
    ∀ (ys : List AV) (cys : List Value) (x v : AV) (cx : Value), aFold f x ys = some v → Rep g x cx → cys.length = ys.length → (∀ (i : Nat) (y : AV) (cy : Value), ys[i]? = some y → cys[i]? = some cy → Rep g y cy) →
      ∃ cv, (cys.foldlM c cx).run P w = .ok cv w ∧ Rep g v cv
  | [], cys, x, v, cx, h, hx, hl, _ => by
    cases cys with
    | nil => simp [aFold] at h; subst h; exact ⟨cx, rfl, hx⟩
    | cons => simp at hl
  | y :: ys, cys, x, v, cx, h, hx, hl, hr => by
    cases cys with
    | nil => simp at hl
    | cons cy cys =>
      simp only [aFold] at h
      cases hz : f x y with
      | none => simp [hz] at h
      | some z =>
        simp only [hz] at h
        obtain ⟨cz, h1, h2⟩ := hf x y z cx cy hz hx (hr 0 y cy rfl rfl)
        obtain ⟨cv, h3, h4⟩ := fold_sound hf ys cys z v cz h h2 (by simpa using hl) (fun i a b p q => hr (i + 1) a b (by simpa using p) (by simpa using q))
        exact ⟨cv, by simp [List.foldlM_cons, h1, h3], h4⟩
theorem max2_sound {P : Program} {g : Gh} {w : World} (x y z : AV) (cx cy : Value) (h : aMax2 x y = some z) (hx : Rep g x cx) (hy : Rep g y cy) : ∃ cz, (Builtin.max2 cx cy).run P w = .ok cz w ∧ Rep g z cz := by
  unfold aMax2 at h
  split at h
  · split at h
    · cases h
      rw [hx.int_inv, hy.int_inv]
      refine ⟨_, rfl, ?_⟩
      rename_i k a k' b _
      have : (if b > a then b else a) = max a b := by rw [Int.max_def]; split <;> split <;> omega
      rw [this]; exact .int _ _ _
    · cases h
  · cases h
theorem min2_sound {P : Program} {g : Gh} {w : World} (x y z : AV) (cx cy : Value) (h : aMin2 x y = some z) (hx : Rep g x cx) (hy : Rep g y cy) : ∃ cz, (Builtin.min2 cx cy).run P w = .ok cz w ∧ Rep g z cz := by
  unfold aMin2 at h
  split at h
  · split at h
    · cases h
      rw [hx.int_inv, hy.int_inv]
      refine ⟨_, rfl, ?_⟩
      rename_i k a k' b _
      have : (if b < a then b else a) = min a b := by rw [Int.min_def]; split <;> split <;> omega
      rw [this]; exact .int _ _ _
    · cases h
  · cases h

/- ranging over a string -/
def aNext (h : List ABlk) (it : AV) (isString : Bool) : Option (AV × List ABlk) :=
  match it, isString with
  | .ptr b 0 0, true => match h[b]? with
    | some (.iter s pos) => if pos < s.size then some (.tup [.bool true, .int .i64 pos, .int .i32 (Utf8.decode s pos).1], h.set b (.iter s (pos + (Utf8.decode s pos).2))) else some (.tup [.bool false], h)
    | _ => none
  | _, _ => none
theorem next_sound {E : Env} {g : Gh} {h h' : List ABlk} {w : World} {ty : TypeId} {it r : AV} {ci : Value} {b : Bool} (S : SimH E g h w) (ha : aNext h it b = some (r, h')) (hr : Rep g it ci) :
    ∃ c w' g', (Instr.next ci b ty).run E.P w = .ok c w' ∧ Rep g' r c ∧ g.le g' ∧ SimH E g' h' w' := by
  unfold aNext at ha
  split at ha
  case h_2 => cases ha
  rename_i b
  split at ha
  case h_2 => cases ha
  rename_i s pos hb
  obtain ⟨l, hl, rfl⟩ := hr.ptr_inv
  obtain ⟨l', q1, q2, q3, q4, q5⟩ := S.iter b s pos hb
  rw [hl] at q1; cases q1
  rw [q2, q3]
  have hget : (getObj l.cb).run E.P w = .ok (.stringIter s pos) w := by simp [getObj, Sem.run, q5]
  split at ha
  · rename_i hpos
    cases ha
    have hset : (setObj l.cb (.stringIter s (pos + (Utf8.decode s pos).2))).run E.P w = .ok () { w with heap := w.heap.setIfInBounds l.cb (.stringIter s (pos + (Utf8.decode s pos).2)) } := by simp [setObj, Sem.run, q5]
    have hlt : l.cb < w.heap.size := by
      rcases Nat.lt_or_ge l.cb w.heap.size with h | h
      · exact h
      · rw [Array.getElem?_eq_none h] at q5; cases q5
    refine ⟨.tuple #[.bool true, .int .i64 pos, .int .i32 (Utf8.decode s pos).1], { w with heap := w.heap.setIfInBounds l.cb (.stringIter s (pos + (Utf8.decode s pos).2)) }, g, ?_, .tup _ _ rfl ?_, Gh.le.refl g, ?_⟩
    · simp [Instr.next, hget, hpos, hset, goInt]
    · intro i v cv h1 h2
      rcases i with _ | _ | _ | i <;> simp at h1 h2 <;> subst h1 h2
      · exact .bool _ _
      · exact .int _ _ _
      · exact .int _ _ _
    · have S1 := S.kill b
      have u := unowned_kill S hb (by simp) hl
      have S2 : SimH E g (h.set b .dead) { w with heap := w.heap.setIfInBounds l.cb (.stringIter s (pos + (Utf8.decode s pos).2)) } := S1.world rfl rfl rfl fun k hk => by
        refine Array.getElem?_setIfInBounds_ne fun he => ?_
        subst he
        rcases hk with ⟨o, ho⟩ | hk
        · rw [q4] at ho; cases ho
        · exact hk u
      have := S2.revive_iter (s := s) (pos := pos + (Utf8.decode s pos).2) hl q2 q3 (by simp [hlt]) q4 u
      simpa using this
  · rename_i hpos
    cases ha
    refine ⟨.tuple #[.bool false], w, g, ?_, .tup _ _ rfl ?_, Gh.le.refl g, S⟩
    · simp [Instr.next, hget, hpos]
    · intro i v cv h1 h2
      rcases i with _ | i <;> simp at h1 h2
      subst h1 h2; exact .bool _ _
def aRange (P : Program) (h : List ABlk) (t : TypeId) (x : AV) : Option (AV × List ABlk) :=
  match x with
  | .str s => match P.underlying t with
    | some .string => some (.ptr h.length 0 0, h ++ [.iter s 0])
    | _ => none
  | _ => none
theorem range_sound {E : Env} {g : Gh} {h h' : List ABlk} {w : World} {t : TypeId} {x r : AV} {cx : Value} (S : SimH E g h w) (ha : aRange E.P h t x = some (r, h')) (hr : Rep g x cx) :
    ∃ c w' g', (Instr.range t cx).run E.P w = .ok c w' ∧ Rep g' r c ∧ g.le g' ∧ SimH E g' h' w' := by
  unfold aRange at ha
  split at ha
  case h_2 => cases ha
  rename_i s
  split at ha
  case h_2 => cases ha
  rename_i hu
  cases ha
  rw [hr.str_inv]
  have hG : Grew w (w.alloc (.stringIter s 0)) (.stringIter s 0) := ⟨rfl, rfl, rfl, rfl⟩
  obtain ⟨S', h0⟩ := S.grew hG
  obtain ⟨u1, u2⟩ := S.unowned_new (Nat.le_refl _)
  refine ⟨.pointer (some ⟨w.heap.size, 0, none⟩), _, _, ?_, ?_, Gh.adopt_le (S.fresh _ (Nat.le_refl _)), S'.adopt_iter h0 u2 u1⟩
  · simp [Instr.range, run_underlying_of hu]
  · have := Rep.ptr (g := g.adopt h.length ⟨w.heap.size, 0, 0, 0⟩) h.length 0 0 ⟨w.heap.size, 0, 0, 0⟩ (by simp [Gh.adopt])
    simpa using this
end Go.Proofs.YtpdohkcjhphibaaDoor.Sm
