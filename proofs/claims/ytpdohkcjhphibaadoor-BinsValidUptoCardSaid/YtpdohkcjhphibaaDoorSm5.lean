/- Slices: their contents, cutting, building, making, appending: the abstract operations, and that each is what the model does; no condition. -/
import Derived.Test.YtpdohkcjhphibaaDoorSm4
set_option linter.unusedVariables false
namespace Go.Proofs.YtpdohkcjhphibaaDoor.Sm
open Go

structure Flat (g : Gh) (k : Nat) (xs : List (List AV)) (cs : List Value) : Prop where
  len : cs.length = xs.length * k
  rows : rowsOk k xs
  get : ∀ (i j : Nat) (row : List AV) (v : AV), xs[i]? = some row → row[j]? = some v → ∃ cv, cs[i * k + j]? = some cv ∧ Rep g v cv
  one : ∀ c ∈ cs, c.oneCell' = true

theorem Flat.nil (g : Gh) (k : Nat) : Flat g k [] [] := ⟨by simp, fun _ _ h => by simp at h, fun _ _ _ _ h => by simp at h, by simp⟩
theorem Flat.mono {g g' : Gh} (hg : g.le g') {k : Nat} {xs : List (List AV)} {cs : List Value} (h : Flat g k xs cs) : Flat g' k xs cs :=
  ⟨h.len, h.rows, fun i j row v a b => let ⟨cv, p, q⟩ := h.get i j row v a b; ⟨cv, p, q.mono hg⟩, h.one⟩

theorem flat_of_reads {g : Gh} {w : World} {k cb co : Nat} {xs : List (List AV)} (hr : rowsOk k xs)
    (hread : ∀ (i j : Nat) (row : List AV) (v : AV), xs[i]? = some row → row[j]? = some v → ∃ c, w.cell? ⟨cb, co + i * k + j, none⟩ = some c ∧ Rep g v c) :
    ∃ cs, Flat g k xs cs ∧ ∀ (j : Nat) (v : Value), cs[j]? = some v → w.cell? ⟨cb, co + j, none⟩ = some v := by
  have hex : ∀ n, n < xs.length * k → ∃ c, w.cell? ⟨cb, co + n, none⟩ = some c ∧ ∃ row v, xs[n / k]? = some row ∧ row[n % k]? = some v ∧ Rep g v c := by
    intro n hn
    have hk : 0 < k := by rcases Nat.eq_zero_or_pos k with h | h; · subst h; simp at hn
                          · exact h
    have hd : n / k < xs.length := Nat.div_lt_of_lt_mul (by rw [Nat.mul_comm]; exact hn)
    have hm : n % k < k := Nat.mod_lt _ hk
    have hrow : xs[n / k]? = some xs[n / k] := by simp [hd]
    have hl := (hr _ _ hrow).1
    have hv : (xs[n / k])[n % k]? = some ((xs[n / k])[n % k]'(by omega)) := by simp [hl, hm]
    obtain ⟨c, h1, h2⟩ := hread _ _ _ _ hrow hv
    have e : co + n / k * k + n % k = co + n := by rw [Nat.add_assoc, Nat.div_add_mod']
    exact ⟨c, by rw [← e]; exact h1, _, _, hrow, hv, h2⟩
  obtain ⟨cs, hl, hcs⟩ := list_of hex
  refine ⟨cs, ⟨hl, hr, fun i j row v h1 h2 => ?_, fun c hc => ?_⟩, fun j v h => (hcs j v h).1⟩
  · have hj : j < k := (hr i row h1).1 ▸ lt_of_getElem? h2
    have hi := lt_of_getElem? h1
    have hlt : i * k + j < cs.length := by
      rw [hl]
      have := Nat.mul_le_mul_right k (show i + 1 ≤ xs.length by omega)
      rw [Nat.add_mul, Nat.one_mul] at this; omega
    refine ⟨cs[i * k + j], by simp [hlt], ?_⟩
    obtain ⟨_, row', v', e1, e2, e3⟩ := hcs (i * k + j) cs[i * k + j] (by simp [hlt])
    have d1 : (i * k + j) / k = i := by rw [Nat.mul_comm, Nat.mul_add_div (by omega), Nat.div_eq_of_lt hj]; omega
    have d2 : (i * k + j) % k = j := by rw [Nat.mul_comm, Nat.mul_add_mod, Nat.mod_eq_of_lt hj]
    rw [d1, h1] at e1; cases e1
    rw [d2, h2] at e2; cases e2
    exact e3
  · obtain ⟨n, hn, rfl⟩ := List.getElem_of_mem hc
    obtain ⟨_, row', v', e1, e2, e3⟩ := hcs n cs[n] (by simp [hn])
    exact (e3.leaf_one ((hr _ _ e1).2 _ _ e2)).1

theorem Flat.append {g : Gh} {k : Nat} {xs ys : List (List AV)} {cs ds : List Value} (h1 : Flat g k xs cs) (h2 : Flat g k ys ds) : Flat g k (xs ++ ys) (cs ++ ds) where
  len := by simp [h1.len, h2.len, Nat.add_mul]
  rows i row h := by
    rw [List.getElem?_append] at h
    split at h
    · exact h1.rows i row h
    · exact h2.rows _ row h
  get i j row v hr hv := by
    rw [List.getElem?_append] at hr
    split at hr
    · obtain ⟨cv, a, b⟩ := h1.get i j row v hr hv
      exact ⟨cv, by rw [List.getElem?_append_left (lt_of_getElem? a)]; exact a, b⟩
    · rename_i hi
      obtain ⟨cv, a, b⟩ := h2.get _ j row v hr hv
      refine ⟨cv, ?_, b⟩
      have e : i * k + j = cs.length + ((i - xs.length) * k + j) := by
        rw [h1.len, ← Nat.add_assoc, ← Nat.add_mul]
        congr 2; omega
      rw [e, List.getElem?_append_right (by omega)]
      simpa using a
  one c hc := by
    rcases List.mem_append.1 hc with h | h
    · exact h1.one c h
    · exact h2.one c h

theorem Flat.holds {g : Gh} {k co : Nat} {xs : List (List AV)} {cs : List Value} {arr : Array Value} (h : Flat g k xs cs) (hl : co + cs.length ≤ arr.size)
    (ha : ∀ (j : Nat) (c : Value), cs[j]? = some c → arr[co + j]? = some c) : holdsRows g arr co k xs :=
  ⟨by rw [← h.len]; exact hl, h.rows, fun i j row v h1 h2 => let ⟨cv, a, b⟩ := h.get i j row v h1 h2; ⟨cv, by rw [Nat.add_assoc]; exact ha _ _ a, b⟩⟩

def conts (h : List ABlk) : AV → Option (Nat × List (List AV))
  | .sl _ k xs => some (k, xs)
  | .own b off len => match h[b]? with
    | some (.live k xs) => if off + len ≤ xs.length then some (k, (xs.drop off).take len) else none
    | _ => none
  | _ => none

theorem conts_flat {E : Env} {g : Gh} {h : List ABlk} {w : World} {a : AV} {ca : Value} {k : Nat} {xs : List (List AV)} (S : SimH E g h w) (hr : Rep g a ca) (hc : conts h a = some (k, xs)) :
    ∃ p cap, ca = .slice p xs.length cap ∧ xs.length ≤ cap ∧ ((p = none ∧ xs = [] ∧ cap = 0) ∨ ∃ ad cs, p = some ad ∧ Flat g k xs cs ∧ ∀ (j : Nat) (v : Value), cs[j]? = some v → w.cell? (ad.add j) = some v) := by
  unfold conts at hc
  split at hc
  · cases hc
    cases hr.sl_inv with
    | nil => exact ⟨none, 0, rfl, Nat.le_refl _, .inl ⟨rfl, rfl, rfl⟩⟩
    | empty m k a cap => exact ⟨some a, cap, rfl, Nat.zero_le _, .inr ⟨a, [], rfl, Flat.nil g k, by simp⟩⟩
    | sl _ _ _ cb co c e fz cap cv q1 q2 q3 q4 q5 q6 q7 q8 =>
      obtain ⟨cs, h1, h2⟩ := flat_of_reads (g := g) (w := w) (cb := cb) (co := co) q4 fun i j row v r1 r2 =>
        ⟨cv i j, by rw [heap_cell (S.fro _ _ q3)]; exact q5 i j (lt_of_getElem? r1) ((q4 i row r1).1 ▸ lt_of_getElem? r2), .fro (q6 i j row v r1 r2)⟩
      exact ⟨_, cap, rfl, q7, .inr ⟨_, cs, rfl, h1, fun j v hj => by rw [addr_add]; exact h2 j v hj⟩⟩
  · rename_i b off len
    split at hc
    case h_2 => cases hc
    rename_i k' xs' hb
    split at hc
    case isFalse => cases hc
    rename_i hle
    cases hc
    have hlen : ((xs'.drop off).take len).length = len := by simp; omega
    obtain ⟨l', c, e, p1, p2, p3, p4, p5, p6, p7, p8⟩ := S.live b k xs' hb
    have sub : ∀ i row, ((xs'.drop off).take len)[i]? = some row → xs'[off + i]? = some row := by
      intro i row hi
      have hlt := lt_of_getElem? hi
      rw [List.getElem?_take, if_pos (by omega), List.getElem?_drop] at hi
      exact hi
    rw [hlen]
    rcases hr.own_inv with ⟨l, cap, q1, q2, q3, rfl⟩ | ⟨h0, q, rfl⟩
    · rw [q1] at p1; cases p1
      subst p2
      obtain ⟨cs, h1, h2⟩ := flat_of_reads (g := g) (w := w) (cb := l'.cb) (co := l'.co + off * l'.k) (k := l'.k) (xs := (xs'.drop off).take len) (fun i row hi => p7 _ row (sub i row hi)) fun i j row v r1 r2 => by
        obtain ⟨cv, s1, s2⟩ := p8 _ j row v (sub i row r1) r2
        refine ⟨cv, ?_, s2⟩
        rw [heap_cell p4, ← s1, Nat.add_mul]
        congr 1; omega
      exact ⟨_, cap, rfl, q2, .inr ⟨_, cs, rfl, h1, fun j v hj => by rw [addr_add]; exact h2 j v hj⟩⟩
    · subst h0
      exact ⟨_, 0, rfl, Nat.le_refl _, .inr ⟨q, [], rfl, by simp [Flat.nil], by simp⟩⟩
  · cases hc

/- cutting -/
def boundA : Option AV → Option Nat → Option Nat
  | none, d => d
  | some (.int _ i), _ => if 0 ≤ i then some i.toNat else none
  | some _, _ => none
def aSlice (P : Program) (h : List ABlk) (t : TypeId) (x : AV) (lo hi mx : Option AV) : Option AV :=
  match P.underlying t with
  | some .string => match x, mx with
    | .str s, none => match boundA lo (some 0), boundA hi (some s.size) with
      | some l, some u => if l ≤ u ∧ u ≤ s.size then some (.str (s.extract l u)) else none
      | _, _ => none
    | _, _ => none
  | some (.slice e) => match x with
    | .sl m k xs => match boundA lo (some 0), boundA hi (some xs.length) with
      | some l, some u => match mx with
        | none => if szO P e = some k ∧ l ≤ u ∧ u ≤ xs.length then some (.sl (match m with | .nil => .nil | .full => if u = xs.length then .full else .any | .any => .any) k ((xs.drop l).take (u - l))) else none
        | some mv => match boundA (some mv) none with
          | some c => if szO P e = some k ∧ l ≤ u ∧ u ≤ c ∧ c ≤ xs.length ∧ hi.isSome = true then some (.sl (match m with | .nil => .nil | _ => if u = c then .full else .any) k ((xs.drop l).take (u - l))) else none
          | none => none
      | _, _ => none
    | .own b off len => match boundA lo (some 0), boundA hi (some len), mx with
      | some l, some u, none => match h[b]? with
        | some (.live k _) => if szO P e = some k ∧ l ≤ u ∧ u ≤ len then some (.own b (off + l) (u - l)) else none
        | _ => none
      | _, _, _ => none
    | _ => none
  | _ => none

theorem run_bound {P : Program} {g : Gh} {x : AV} {cx : Value} {d : Option Nat} {u y : Nat} (w : World) (code : BoundsCode) (hb : boundA (some x) d = some u) (hr : Rep g x cx) (hy : u ≤ y) :
    (Instr.sliceBound cx y code).run P w = .ok u w := by
  cases x <;> simp only [boundA] at hb <;> first | (cases hb; done) | skip
  rename_i k i
  split at hb
  · rename_i h0
    cases hb
    rw [hr.int_inv]
    have : i ≤ y := by omega
    simp [Instr.sliceBound, asIntOf, h0, this]
  · cases hb

theorem OptRep {g : Gh} {x : Option AV} {cx : Option Value} (h : ∀ v cv, x = some v → cx = some cv → Rep g v cv) (hs : x.isSome = cx.isSome) : (x = none ∧ cx = none) ∨ ∃ v cv, x = some v ∧ cx = some cv ∧ Rep g v cv := by
  cases x <;> cases cx <;> simp at hs
  · exact .inl ⟨rfl, rfl⟩
  · exact .inr ⟨_, _, rfl, rfl, h _ _ rfl rfl⟩

theorem run_bounds {P : Program} {g : Gh} {lo hi : Option AV} {clo chi : Option Value} {l u len cap : Nat} (w : World) (sl : Bool) (hlo : (lo = none ∧ clo = none) ∨ ∃ v cv, lo = some v ∧ clo = some cv ∧ Rep g v cv)
    (hhi : (hi = none ∧ chi = none) ∨ ∃ v cv, hi = some v ∧ chi = some cv ∧ Rep g v cv) (h1 : boundA lo (some 0) = some l) (h2 : boundA hi (some len) = some u) (hlu : l ≤ u) (hu : u ≤ len) (hc : len ≤ cap) :
    (Instr.sliceBounds sl len cap clo chi none).run P w = .ok (l, u, cap) w := by
  rcases hlo with ⟨rfl, rfl⟩ | ⟨v, cv, rfl, rfl, r1⟩ <;> rcases hhi with ⟨rfl, rfl⟩ | ⟨v', cv', rfl, rfl, r2⟩
  · simp [boundA] at h1 h2; subst h1 h2; simp [Instr.sliceBounds]
  · simp [boundA] at h1; subst h1; simp [Instr.sliceBounds, run_bound w _ h2 r2 (show u ≤ cap by omega)]
  · have := run_bound (P := P) w .sliceB h1 r1 hlu
    simp [boundA] at h2; subst h2; simp [Instr.sliceBounds, this]
  · simp [Instr.sliceBounds, run_bound w _ h2 r2 (show u ≤ cap by omega), run_bound w _ h1 r1 hlu]
theorem run_bounds3 {P : Program} {g : Gh} {lo hi : Option AV} {clo chi : Option Value} {mv : AV} {cm : Value} {l u c len cap : Nat} (w : World) (sl : Bool) (hlo : (lo = none ∧ clo = none) ∨ ∃ v cv, lo = some v ∧ clo = some cv ∧ Rep g v cv)
    (hhi : (hi = none ∧ chi = none) ∨ ∃ v cv, hi = some v ∧ chi = some cv ∧ Rep g v cv) (hm : Rep g mv cm) (h1 : boundA lo (some 0) = some l) (h2 : boundA hi (some len) = some u) (h3 : boundA (some mv) none = some c) (hs : hi.isSome = true)
    (hlu : l ≤ u) (huc : u ≤ c) (hc : c ≤ cap) : (Instr.sliceBounds sl len cap clo chi (some cm)).run P w = .ok (l, u, c) w := by
  rcases hhi with ⟨rfl, rfl⟩ | ⟨v', cv', rfl, rfl, r2⟩
  · simp at hs
  rcases hlo with ⟨rfl, rfl⟩ | ⟨v, cv, rfl, rfl, r1⟩
  · simp [boundA] at h1; subst h1; simp [Instr.sliceBounds, run_bound w _ h2 r2 huc, run_bound w _ h3 hm hc]
  · simp [Instr.sliceBounds, run_bound w _ h2 r2 huc, run_bound w _ h3 hm hc, run_bound w _ h1 r1 hlu]

theorem cut_rep {M : Nat → Option Obj} {m m' : SM} {k l u c cap len : Nat} {xs : List (List AV)} {p : Option Addr} (h : RepF M (.sl m k xs) (.slice p len cap)) (hlu : l ≤ u) (hu : u ≤ xs.length) (huc : u ≤ c) (hcc : c ≤ cap)
    (hm : m' = .nil ↔ m = .nil) (hf : m' = .full → c = u) : RepF M (.sl m' k ((xs.drop l).take (u - l))) (.slice (if c = l then p else p.map (·.add (l * k))) (u - l) (c - l)) := by
  have hlen : ((xs.drop l).take (u - l)).length = u - l := by simp; omega
  cases h with
  | nil => simp at hu; have : m' = .nil := hm.2 rfl; subst this; subst hu; have : l = 0 := by omega
           subst this; have : c = 0 := by omega
           subst this; exact .nil k
  | empty _ _ a _ h1 h2 =>
    simp at hu; subst hu; have : l = 0 := by omega
    subst this
    have e : (if c = 0 then some a else (some a).map (·.add (0 * k))) = some a := by simp [Addr.add]
    rw [e]; simp
    exact .empty m' k a c (fun h => h1 (hm.1 h)) (fun h => hf h)
  | sl _ _ _ cb co cc e fz _ cv q1 q2 q3 q4 q5 q6 q7 q8 =>
    by_cases hemp : u = l
    · subst hemp
      simp
      refine (?_ : RepF M (.sl m' k []) (.slice (if c = u then some ⟨cb, co, none⟩ else some ((Addr.mk cb co none).add (u * k))) 0 (c - u)))
      have : ∃ a, (if c = u then some (Addr.mk cb co none) else some ((Addr.mk cb co none).add (u * k))) = some a := by split <;> exact ⟨_, rfl⟩
      obtain ⟨a, ha⟩ := this
      rw [ha]
      exact .empty m' k a _ (fun h => q2 (hm.1 h)) (fun h => by have := hf h; omega)
    · have hcl : c ≠ l := by omega
      rw [if_neg hcl]
      simp only [Option.map_some, addr_add]
      have hsub : ∀ i row, ((xs.drop l).take (u - l))[i]? = some row → xs[l + i]? = some row := by
        intro i row hi
        have hlt := lt_of_getElem? hi
        rw [List.getElem?_take, if_pos (by omega), List.getElem?_drop] at hi
        exact hi
      have := RepF.sl (M := M) m' k ((xs.drop l).take (u - l)) cb (co + l * k) cc e fz (c - l) (fun i j => cv (l + i) j) (by intro h0; rw [h0] at hlen; simp at hlen; omega) (fun h => q2 (hm.1 h)) q3
        (fun i row hi => q4 _ row (hsub i row hi)) (fun i j hi hj => by rw [← q5 (l + i) j (by omega) hj]; congr 1; rw [Nat.add_mul]; omega)
        (fun i j row v hi hv => q6 _ j row v (hsub i row hi) hv) (by omega) (fun h => by have := hf h; omega)
      rw [hlen] at this; exact this

theorem slice_sound {E : Env} {g : Gh} {h : List ABlk} {w : World} {t : TypeId} {x v : AV} {cx : Value} {lo hi mx : Option AV} {clo chi cmx : Option Value} (S : SimH E g h w) (ha : aSlice E.P h t x lo hi mx = some v) (hr : Rep g x cx)
    (hlo : (lo = none ∧ clo = none) ∨ ∃ v cv, lo = some v ∧ clo = some cv ∧ Rep g v cv) (hhi : (hi = none ∧ chi = none) ∨ ∃ v cv, hi = some v ∧ chi = some cv ∧ Rep g v cv)
    (hmx : (mx = none ∧ cmx = none) ∨ ∃ v cv, mx = some v ∧ cmx = some cv ∧ Rep g v cv) : ∃ cv, (Instr.sliceAt t cx clo chi cmx).run E.P w = .ok cv w ∧ Rep g v cv := by
  unfold aSlice at ha
  split at ha
  · rename_i hu
    split at ha
    case h_2 => cases ha
    rename_i s
    split at ha
    case h_2 => cases ha
    rename_i l u hl hh
    split at ha
    case isFalse => cases ha
    rename_i hc
    cases ha
    rcases hmx with ⟨_, rfl⟩ | ⟨_, _, h, _⟩
    · rw [hr.str_inv]
      refine ⟨.string (s.extract l u), ?_, .str _ _⟩
      simp [Instr.sliceAt, Instr.slice, run_underlying_of hu, run_bounds w false hlo hhi hl hh hc.1 hc.2 (Nat.le_refl _)]
    · cases h
  · rename_i e hu
    split at ha
    · rename_i m k xs
      split at ha
      case h_2 => cases ha
      rename_i l u hl hh
      have hcx : ∃ p cap, cx = .slice p xs.length cap ∧ xs.length ≤ cap ∧ (m = .full → cap = xs.length) := by
        cases hr.sl_inv with
        | nil => exact ⟨_, _, rfl, Nat.le_refl _, fun h => by cases h⟩
        | empty _ _ a cap h1 h2 => exact ⟨_, _, rfl, Nat.zero_le _, h2⟩
        | sl _ _ _ cb co c e fz cap cv q1 q2 q3 q4 q5 q6 q7 q8 => exact ⟨_, _, rfl, q7, q8⟩
      obtain ⟨p, cap, rfl, hcap, hfull⟩ := hcx
      split at ha
      · split at ha
        case isFalse => cases ha
        rename_i hc
        obtain ⟨hk, hlu, hux⟩ := hc
        cases ha
        rcases hmx with ⟨_, rfl⟩ | ⟨_, _, h, _⟩
        · refine ⟨_, by simp [Instr.sliceAt, Instr.slice, run_underlying_of hu, run_bounds w true hlo hhi hl hh hlu hux hcap, run_sizeOf_of hk], .fro (cut_rep hr.sl_inv hlu hux (by omega) (Nat.le_refl _) ?_ ?_)⟩
          · cases m <;> simp
            split <;> simp
          · cases m <;> simp
            intro h; have := hfull rfl; omega
        · cases h
      · rename_i mv
        split at ha
        case h_2 => cases ha
        rename_i c hcv
        split at ha
        case isFalse => cases ha
        rename_i hc
        obtain ⟨hk, hlu, huc, hcx, hs⟩ := hc
        cases ha
        rcases hmx with ⟨h, _⟩ | ⟨_, cm, h, rfl, hm⟩
        · cases h
        · cases h
          refine ⟨_, by simp [Instr.sliceAt, Instr.slice, run_underlying_of hu, run_bounds3 w true hlo hhi hm hl hh hcv hs hlu huc (show c ≤ cap by omega), run_sizeOf_of hk], .fro (cut_rep hr.sl_inv hlu (by omega) huc (by omega) ?_ ?_)⟩
          · cases m <;> simp <;> split <;> simp
          · cases m <;> simp <;> intro h <;> exact h.symm
    · rename_i b off len
      split at ha
      case h_2 => cases ha
      rename_i l u hl hh
      split at ha
      case h_2 => cases ha
      rename_i k xs hb
      split at ha
      case isFalse => cases ha
      rename_i hc
      obtain ⟨hk, hlu, hul⟩ := hc
      cases ha
      rcases hmx with ⟨_, rfl⟩ | ⟨_, _, h, _⟩
      · rcases hr.own_inv with ⟨lc, cap, q1, q2, q3, rfl⟩ | ⟨h0, q, rfl⟩
        · obtain ⟨l', c, e', p1, p2, _⟩ := S.live b k xs hb
          rw [q1] at p1; cases p1
          refine ⟨_, by simp [Instr.sliceAt, Instr.slice, run_underlying_of hu, run_bounds w true hlo hhi hl hh hlu hul q2, run_sizeOf_of hk]; rfl, ?_⟩
          by_cases hcl : cap = l
          · subst hcl
            rw [if_pos rfl]
            have : u - cap = 0 := by omega
            rw [this]; simp
            exact .ownz _ _ _ _ q1
          · rw [if_neg hcl, addr_add, ← p2]
            have := Rep.own (g := g) b (off + l) (u - l) (cap - l) lc q1 (by omega) (by rw [show off + l + (cap - l) = off + cap by omega]; exact q3)
            rw [Nat.add_mul] at this
            rw [Nat.add_assoc]; exact this
        · subst h0
          have : u = 0 := by omega
          subst this
          have : l = 0 := by omega
          subst this
          refine ⟨_, by simp [Instr.sliceAt, Instr.slice, run_underlying_of hu, run_bounds w true hlo hhi hl hh (Nat.le_refl _) (Nat.le_refl _) (Nat.le_refl _), run_sizeOf_of hk]; rfl, .ownz _ _ _ _ hr.own_dom.choose_spec⟩
      · cases h
    · cases ha
  · cases ha
end Go.Proofs.YtpdohkcjhphibaaDoor.Sm
