/- New slices, appending, copying, structs by value, strings: the abstract operations, and that each is what the model does; no condition. -/
import Derived.Test.YtpdohkcjhphibaaDoorSm5
set_option linter.unusedVariables false
namespace Go.Proofs.YtpdohkcjhphibaaDoor.Sm
open Go

def zszO (P : Program) (t : TypeId) : Option Nat := (zeroO P t).map (·.cells.size)
def bytesO (P : Program) (t : TypeId) : Option Nat := (P.info? t).map (·.bytes)
/-- there is room for n elements of b bytes (twice over) -/
def room (n b : Nat) : Prop := n ≤ 70368744177664 ∧ n * b ≤ 70368744177664
instance (n b : Nat) : Decidable (room n b) := inferInstanceAs (Decidable (_ ∧ _))
theorem room_of {n b : Nat} (hn : n ≤ 16777216) (hb : b ≤ 4194304) : room n b := by
  have h := Nat.mul_le_mul hn hb
  exact ⟨by omega, by omega⟩

theorem info_of {P : Program} {t : TypeId} {k b z : Nat} (h1 : szO P t = some k) (h2 : bytesO P t = some b) (h3 : zszO P t = some z) :
    ∃ i v, P.info? t = some i ∧ i.size = k ∧ i.bytes = b ∧ i.zero = some v ∧ v.cells.size = z ∧ zeroO P t = some v := by
  unfold szO bytesO zszO zeroO at *
  cases hi : P.info? t with
  | none => simp [hi] at h1
  | some i =>
    simp [hi] at h1 h2 h3
    obtain ⟨v, h4, h5⟩ := h3
    exact ⟨i, v, rfl, h1, h2, h4, h5, by simp [h4]⟩

/-- what is appended or copied, told for every world over the same memory -/
structure Src (P : Program) (w : World) (k : Nat) (x : Value) (news : List Value) (m : Nat) : Prop where
  len : ∀ w', (Builtin.lenOf x).run P w' = .ok m w'
  cells : ∀ w', w'.heap = w.heap → (Builtin.firstCells k m x).run P w' = .ok news.toArray w'

def srcA (P : Program) (h : List ABlk) (k : Nat) (t : TypeId) (x : AV) : Option (List (List AV)) :=
  match P.underlying t with
  | some .string => match x with
    | .str s => if k = 1 then some (s.data.toList.map fun b => [.int .u8 b.toNat]) else none
    | _ => none
  | some (.slice _) => match conts h x with
    | some (k', ys) => if ys.length = 0 ∨ k' = k then some ys else none
    | none => none
  | _ => none

theorem src_of {E : Env} {g : Gh} {h : List ABlk} {w : World} {k : Nat} {t : TypeId} {x : AV} {cx : Value} {ys : List (List AV)} (S : SimH E g h w) (hs : srcA E.P h k t x = some ys) (hr : Rep g x cx) :
    ∃ news, Src E.P w k cx news ys.length ∧ Flat g k ys news ∧ ∃ d, E.P.underlying t = some d ∧ (d = .string ∨ ∃ e, d = .slice e) := by
  unfold srcA at hs
  split at hs
  · rename_i hu
    split at hs
    case h_2 => cases hs
    rename_i s
    split at hs
    case isFalse => cases hs
    rename_i hk; subst hk
    cases hs
    rw [hr.str_inv]
    refine ⟨s.data.toList.map fun b => .int .u8 b.toNat, ⟨fun w' => by simp [Builtin.lenOf], fun w' _ => ?_⟩, ⟨by simp, ?_, ?_, ?_⟩, _, hu, .inl rfl⟩
    · simp only [Builtin.firstCells, List.length_map, Array.length_toList]
      have : (s.extract 0 s.data.size) = s := ByteArray.extract_zero_size (b := s)
      rw [this, Sem.run_pure]
      congr 1
      apply Array.ext'
      simp
    · intro i row hi
      simp at hi
      obtain ⟨b, _, rfl⟩ := hi
      exact ⟨rfl, fun j v hv => by cases j <;> simp at hv; subst hv; rfl⟩
    · intro i j row v hi hv
      simp at hi
      obtain ⟨b, hb, rfl⟩ := hi
      cases j <;> simp at hv
      subst hv
      exact ⟨.int .u8 b.toNat, by simp [hb], .int _ _ _⟩
    · intro c hc
      simp at hc
      obtain ⟨b, _, rfl⟩ := hc
      rfl
  · rename_i e hu
    split at hs
    case h_2 => cases hs
    rename_i k' ys' hc
    split at hs
    case isFalse => cases hs
    rename_i hk
    cases hs
    obtain ⟨p, cap, rfl, hcap, hp⟩ := conts_flat S hr hc
    rcases hp with ⟨rfl, rfl, rfl⟩ | ⟨ad, cs, rfl, hF, hcells⟩
    · exact ⟨[], ⟨fun w' => by simp [Builtin.lenOf], fun w' _ => by simp [Builtin.firstCells]⟩, Flat.nil g k, _, hu, .inr ⟨_, rfl⟩⟩
    · have hF' : Flat g k ys cs := by
        rcases hk with h0 | h0
        · have : ys = [] := List.eq_nil_of_length_eq_zero h0
          subst this
          have : cs = [] := List.eq_nil_of_length_eq_zero (by rw [hF.len]; simp)
          subst this
          exact Flat.nil g k
        · rw [← h0]; exact hF
      refine ⟨cs, ⟨fun w' => by simp [Builtin.lenOf], fun w' hw => run_firstCells_some w' k ys.length ad ys.length cap cs hF'.len fun j v hj => ?_⟩, hF', _, hu, .inr ⟨_, rfl⟩⟩
      have := hcells j v hj
      unfold World.cell? at *
      rw [hw]; exact this
  · cases hs

/-- append where there is room -/
theorem run_append_in {P : Program} {t0 t1 ty e : TypeId} {i : TypeInfo} {d : TypeDesc} (h0 : P.underlying t0 = some (.slice e)) (h1 : P.underlying t1 = some d) (hd : d = .string ∨ ∃ e, d = .slice e) (hi : P.info? e = some i)
    {b : Addr} {len cap m : Nat} {x : Value} {news : List Value} {w w' : World} (hx : Src P w i.size x news m) (hn : len + m ≤ cap) (hs : (storeCells (b.add (len * i.size)) news).run P w = .ok () w') :
    (Builtin.append_ #[t0, t1] ty #[.slice (some b) len cap, x]).run P w = .ok (.slice (some b) (len + m) cap) w' := by
  have hl := hx.len w
  have hc := hx.cells w rfl
  rcases hd with rfl | ⟨e', rfl⟩
  · simp [Builtin.append_, run_underlying_of h0, run_underlying_of h1, sizeOf, typeInfo, hi, hl, hc, hn, hs]
  · simp [Builtin.append_, run_underlying_of h0, run_underlying_of h1, sizeOf, typeInfo, hi, hl, hc, hn, hs]

/-- append where there is none -/
theorem run_append_out {P : Program} {t0 t1 ty e : TypeId} {i : TypeInfo} {z : Value} {d : TypeDesc} (h0 : P.underlying t0 = some (.slice e)) (h1 : P.underlying t1 = some d) (hd : d = .string ∨ ∃ e, d = .slice e) (hi : P.info? e = some i) (hz : i.zero = some z)
    {p : Option Addr} {len cap m : Nat} {x : Value} {olds news : List Value} {w : World} (hx : Src P w i.size x news m) (ho : ∀ w', w'.heap = w.heap → (Builtin.firstCells i.size len (.slice p len cap)).run P w' = .ok olds.toArray w')
    (hn : cap < len + m) (hr : room (len + m) i.bytes) :
    ∃ nc, len + m ≤ nc ∧ (Builtin.append_ #[t0, t1] ty #[.slice p len cap, x]).run P w =
      .ok (.slice (some ⟨w.heap.size, 0, none⟩) (len + m) nc) (w.drew.alloc (.cells ((olds ++ news).toArray ++ Builtin.zeroCells z.cells (nc - (len + m))) e)) := by
  have hl := hx.len w
  have hc := hx.cells w.drew rfl
  have ho' := ho w.drew rfl
  have hn' : ¬ (len + m ≤ cap) := by omega
  have h63 : ¬ (9223372036854775807 < ((len : Int) + (m : Int))) := by have := hr.1; omega
  have h48 : ¬ (281474976710656 < Builtin.nextslicecap (len + m) cap * i.bytes) := by
    have := growslice_fits hn (bytes := i.bytes) (by have := hr.2; omega); omega
  refine ⟨grownCap w (len + m) cap e, ?_, ?_⟩
  · unfold grownCap
    simp only [Question.cut]
    omega
  · rw [show (olds ++ news).toArray = olds.toArray ++ news.toArray from by simp]
    rcases hd with rfl | ⟨e', rfl⟩
    · simp [Builtin.append_, run_underlying_of h0, run_underlying_of h1, sizeOf, typeInfo, zeroValue, hi, hz, hl, hn', h63, h48, Question.forced, hc, ho', newRow, grownCap]
      congr 2; apply Array.ext'; simp
    · simp [Builtin.append_, run_underlying_of h0, run_underlying_of h1, sizeOf, typeInfo, zeroValue, hi, hz, hl, hn', h63, h48, Question.forced, hc, ho', newRow, grownCap]
      congr 2; apply Array.ext'; simp

def bump (P : Program) (own : Bool) (h : List ABlk) (e : TypeId) (m : SM) (k : Nat) (xs ys : List (List AV)) (kill : Option Nat) (s : AV) : Option (AV × List ABlk) :=
  if ys.length = 0 then some (s, h) else
  match szO P e, zszO P e, bytesO P e with
  | some k', some z, some b => if (k' = k ∨ m = .nil) ∧ z = k' ∧ room (xs.length + ys.length) b then
      match kill with
      | some o => if own then some (.own h.length 0 (xs.length + ys.length), h.set o .dead ++ [.live k' (xs ++ ys)]) else none
      | none => if own then some (.own h.length 0 (xs.length + ys.length), h ++ [.live k' (xs ++ ys)]) else some (.sl .any k' (xs ++ ys), h)
    else none
  | _, _, _ => none

def aAppend (P : Program) (own : Bool) (h : List ABlk) (t0 t1 : TypeId) (s x : AV) : Option (AV × List ABlk) :=
  match P.underlying t0 with
  | some (.slice e) => match szO P e with
    | some k => match srcA P h k t1 x with
      | some ys => match s with
        | .sl .nil _ _ => bump P own h e .nil k [] ys none s
        | .sl .full k0 xs => if k0 = k then bump P own h e .full k xs ys none s else none
        | .own b off len => match conts h (.own b off len) with
          | some (k0, xs) => if k0 = k then bump P own h e .any k xs ys (some b) s else none
          | none => none
        | _ => none
      | none => none
    | none => none
  | _ => none

theorem zeroCells_size (z : Array Value) (n : Nat) : (Builtin.zeroCells z n).size = n * z.size := by simp [Builtin.zeroCells]

theorem append_fresh {E : Env} {g : Gh} {h : List ABlk} {w w1 : World} {e : TypeId} {k need nc : Nat} {xs : List (List AV)} {cs : List Value} {rest : Array Value} (S : SimH E g h w) (hF : Flat g k xs cs) (hrest : rest.size = (nc - need) * k) (hneed : xs.length = need) (hnc : need ≤ nc)
    (hw : Grew w w1 (.cells (cs.toArray ++ rest) e (0, 0))) : ∃ g', g.le g' ∧ SimH E g' (h ++ [.live k xs]) w1 ∧ Rep g' (.own h.length 0 need) (.slice (some ⟨w.heap.size, 0, none⟩) need nc) := by
  obtain ⟨S', hle⟩ := S.new (k := k) (xs := xs) hw (hF.holds (by simp) fun j c hj => by
    simp only [Nat.zero_add]
    rw [Array.getElem?_append_left (by simpa using lt_of_getElem? hj)]
    simpa using hj)
  refine ⟨_, hle, S', ?_⟩
  have := Rep.own (g := g.adopt h.length ⟨w.heap.size, 0, k, (cs.toArray ++ rest).size⟩) h.length 0 need nc ⟨w.heap.size, 0, k, (cs.toArray ++ rest).size⟩ (by simp [Gh.adopt]) hnc (by
    simp [hF.len, hrest, hneed, ← Nat.add_mul]
    exact Nat.mul_le_mul_right k (by omega))
  simpa using this
theorem append_freshF {E : Env} {g : Gh} {h : List ABlk} {w w1 : World} {e : TypeId} {k need nc : Nat} {xs : List (List AV)} {cs : List Value} {rest : Array Value} (S : SimH E g h w) (hF : Flat g k xs cs) (hfr : ∀ (i j : Nat) (row : List AV) (v : AV), xs[i]? = some row → row[j]? = some v → ∀ cv, Rep g v cv → RepF g.M v cv)
    (hneed : xs.length = need) (hnc : need ≤ nc) (m : SM) (hm : m ≠ .nil) (hmf : m = .full → nc = need)
    (hw : Grew w w1 (.cells (cs.toArray ++ rest) e (0, 0))) : ∃ g', g.le g' ∧ SimH E g' h w1 ∧ Rep g' (.sl m k xs) (.slice (some ⟨w.heap.size, 0, none⟩) need nc) := by
  obtain ⟨S', hle, hM⟩ := S.newF hw
  refine ⟨_, hle, S', .fro ?_⟩
  subst hneed
  by_cases hx : xs = []
  · subst hx
    exact .empty m k _ _ hm (fun h => by simpa using hmf h)
  · refine .sl m k xs w.heap.size 0 _ _ _ nc (fun i j => (cs[i * k + j]?).getD Go.undef) hx hm hM hF.rows (fun i j hi hj => ?_) (fun i j row v h1 h2 => ?_) hnc hmf
    · have hrow : xs[i]? = some xs[i] := by simp [hi]
      have hl := (hF.rows i _ hrow).1
      obtain ⟨cv, a, _⟩ := hF.get i j _ ((xs[i])[j]'(by omega)) hrow (by simp [hl, hj])
      rw [a]
      simp only [Nat.zero_add, Option.getD_some]
      rw [Array.getElem?_append_left (by simpa using lt_of_getElem? a)]
      simpa using a
    · obtain ⟨cv, a, b⟩ := hF.get i j row v h1 h2
      rw [a]
      simp only [Option.getD_some]
      exact (hfr i j row v h1 h2 cv b).mono hle.M

/-- frozen through and through (nothing of the call's own in it) -/
def AV.frozen : AV → Bool
  | .int _ _ => true
  | .bool _ => true
  | .str _ => true
  | .sl _ _ _ => true
  | .fptr _ _ _ _ => true
  | .nilp => true
  | .nilfn => true
  | .fn _ [] [] => true
  | _ => false
theorem AV.frozen_rep {g : Gh} {v : AV} {cv : Value} (h : v.frozen = true) (hr : Rep g v cv) : RepF g.M v cv := by
  cases v with
  | fn f a b =>
    cases a <;> cases b <;> simp [AV.frozen] at h
    obtain ⟨p, q, rfl, h1, h2, _, _⟩ := hr.fn_inv
    exact .fn f [] [] p q h1 h2 (by simp) (by simp)
  | own => simp [AV.frozen] at h
  | ptr => simp [AV.frozen] at h
  | agg => simp [AV.frozen] at h
  | tup => simp [AV.frozen] at h
  | junk => simp [AV.frozen] at h
  | _ => cases hr with | fro h => exact h

set_option maxHeartbeats 1000000 in
theorem append_sound {E : Env} {g : Gh} {h h' : List ABlk} {w : World} {own : Bool} {t0 t1 ty : TypeId} {s x r : AV} {cs cx : Value} (S : SimH E g h w) (ha : aAppend E.P own h t0 t1 s x = some (r, h')) (hs : Rep g s cs) (hx : Rep g x cx)
    (hfr : own = false → ∀ k ys xs, srcA E.P h k t1 x = some ys → conts h s = some xs → ∀ row ∈ xs.2 ++ ys, ∀ v ∈ row, v.frozen = true) :
    ∃ c w' g', (Builtin.append_ #[t0, t1] ty #[cs, cx]).run E.P w = .ok c w' ∧ Rep g' r c ∧ g.le g' ∧ SimH E g' h' w' := by
  unfold aAppend at ha
  split at ha
  case h_2 => cases ha
  rename_i e hu
  split at ha
  case h_2 => cases ha
  rename_i k hk
  split at ha
  case h_2 => cases ha
  rename_i ys hys
  obtain ⟨news, hsrc, hFy, d, hd, hdi⟩ := src_of S hys hx
  have hk' : ∃ i, E.P.info? e = some i ∧ i.size = k := by
    unfold szO at hk; cases hi : E.P.info? e with
    | none => simp [hi] at hk
    | some i => simp [hi] at hk; exact ⟨i, rfl, hk⟩
  obtain ⟨i, hi, hik⟩ := hk'
  subst hik
  -- nothing to append
  have none_ : ys.length = 0 → (∃ p len cap, cs = .slice p len cap ∧ len ≤ cap) → (Builtin.append_ #[t0, t1] ty #[cs, cx]).run E.P w = .ok cs w := by
    intro h0 ⟨p, len, cap, hc, hle⟩
    subst hc
    have hy0 : ys = [] := List.eq_nil_of_length_eq_zero h0
    subst hy0
    have hn0 : news = [] := List.eq_nil_of_length_eq_zero (by rw [hFy.len]; simp)
    subst hn0
    have hl := hsrc.len w
    have hc := hsrc.cells w rfl
    rcases hdi with rfl | ⟨e', rfl⟩ <;> cases p <;> simp at hl hc <;> simp [Builtin.append_, run_underlying_of hu, run_underlying_of hd, sizeOf, typeInfo, hi, hl, hc, hle, storeCells]
  split at ha
  · -- nil
    rename_i k0 xs0
    cases hs.sl_inv with
    | empty _ _ _ _ h1 => exact absurd rfl h1
    | sl _ _ _ _ _ _ _ _ _ _ _ h1 => exact absurd rfl h1
    | nil =>
      unfold bump at ha
      split at ha
      · rename_i h0
        cases ha
        exact ⟨_, w, g, none_ h0 ⟨_, _, _, rfl, Nat.le_refl _⟩, hs, Gh.le.refl g, S⟩
      · rename_i h0
        split at ha
        case h_2 => cases ha
        rename_i k' z b e1 e2 e3
        split at ha
        case isFalse => cases ha
        rename_i hc
        obtain ⟨hkk, hz, hroom⟩ := hc
        obtain ⟨i', v, j1, j2, j3, j4, j5, j6⟩ := info_of e1 e3 e2
        rw [hi] at j1; cases j1
        subst j2 j3
        simp only [List.length_nil, Nat.zero_add, List.nil_append] at ha hroom
        obtain ⟨nc, hnc, hrun⟩ := run_append_out (ty := ty) (p := none) (len := 0) (cap := 0) (olds := []) (w := w) hu hd hdi hi j4 hsrc (fun w' _ => by simp [Builtin.firstCells]) (by omega) (by simpa using hroom)
        simp only [Nat.zero_add] at hnc hrun
        have hG : Grew w (w.drew.alloc (.cells (news.toArray ++ Builtin.zeroCells v.cells (nc - ys.length)) e)) (.cells (news.toArray ++ Builtin.zeroCells v.cells (nc - ys.length)) e (0, 0)) := ⟨rfl, rfl, rfl, rfl⟩
        simp only [List.nil_append] at hrun
        cases own with
        | true =>
          simp only [if_true] at ha
          cases ha
          obtain ⟨g', q1, q2, q3⟩ := append_fresh (nc := nc) S hFy (by rw [zeroCells_size, j5, hz]) rfl hnc hG
          exact ⟨_, _, g', hrun, q3, q1, q2⟩
        | false =>
          simp only [Bool.false_eq_true, if_false] at ha
          cases ha
          obtain ⟨g', q1, q2, q3⟩ := append_freshF (nc := nc) S hFy (fun i' j row v' r1 r2 cv hcv => AV.frozen_rep (hfr rfl _ ys _ hys rfl row (List.mem_append.2 (.inr (List.mem_of_getElem? r1))) v' (List.mem_of_getElem? r2)) hcv) rfl hnc .any (by simp) (by simp) hG
          exact ⟨_, _, g', hrun, q3, q1, q2⟩
  · -- full
    rename_i k0 xs
    split at ha
    case isFalse => cases ha
    rename_i hk0
    subst hk0
    have hc : conts h (.sl .full i.size xs) = some (i.size, xs) := rfl
    obtain ⟨p, cap, hcs, hcap, hp⟩ := conts_flat S hs hc
    have hfull : cap = xs.length := by
      cases hs.sl_inv with
      | empty _ _ _ _ _ h2 => cases hcs; exact h2 rfl
      | sl _ _ _ _ _ _ _ _ _ _ _ _ _ _ _ _ _ h8 => cases hcs; exact h8 rfl
    subst hcs
    unfold bump at ha
    split at ha
    · rename_i h0
      cases ha
      exact ⟨_, w, g, none_ h0 ⟨_, _, _, rfl, hcap⟩, hs, Gh.le.refl g, S⟩
    · rename_i h0
      split at ha
      case h_2 => cases ha
      rename_i k' z b e1 e2 e3
      split at ha
      case isFalse => cases ha
      rename_i hc'
      obtain ⟨hkk, hz, hroom⟩ := hc'
      obtain ⟨i', v, j1, j2, j3, j4, j5, j6⟩ := info_of e1 e3 e2
      rw [hi] at j1; cases j1
      subst j2 j3
      rcases hp with ⟨rfl, rfl, rfl⟩ | ⟨ad, olds, rfl, hFo, hcells⟩
      · cases hs.sl_inv
      obtain ⟨nc, hnc, hrun⟩ := run_append_out (ty := ty) (p := some ad) (len := xs.length) (cap := cap) (olds := olds) (w := w) hu hd hdi hi j4 hsrc (fun w' hw => run_firstCells_some w' i.size xs.length ad _ _ olds hFo.len fun j u hj => by
        have := hcells j u hj
        unfold World.cell? at *
        rw [hw]; exact this) (by omega) hroom
      have hFF := hFo.append hFy
      have hG : Grew w (w.drew.alloc (.cells ((olds ++ news).toArray ++ Builtin.zeroCells v.cells (nc - (xs.length + ys.length))) e)) (.cells ((olds ++ news).toArray ++ Builtin.zeroCells v.cells (nc - (xs.length + ys.length))) e (0, 0)) := ⟨rfl, rfl, rfl, rfl⟩
      cases own with
      | true =>
        simp only [if_true] at ha
        cases ha
        obtain ⟨g', q1, q2, q3⟩ := append_fresh (nc := nc) S hFF (by rw [zeroCells_size, j5, hz]) (by simp) hnc hG
        exact ⟨_, _, g', hrun, q3, q1, q2⟩
      | false =>
        simp only [Bool.false_eq_true, if_false] at ha
        cases ha
        obtain ⟨g', q1, q2, q3⟩ := append_freshF (nc := nc) S hFF (fun i' j row v' r1 r2 cv hcv => AV.frozen_rep (hfr rfl _ ys _ hys rfl row (List.mem_of_getElem? r1) v' (List.mem_of_getElem? r2)) hcv) (by simp) hnc .any (by simp) (by simp) hG
        exact ⟨_, _, g', hrun, q3, q1, q2⟩
  · -- the call's own
    rename_i b off len
    split at ha
    case h_2 => cases ha
    rename_i k0 xs hc
    split at ha
    case isFalse => cases ha
    rename_i hk0
    subst hk0
    obtain ⟨p, cap, hcs, hcap, hp⟩ := conts_flat S hs hc
    subst hcs
    unfold bump at ha
    split at ha
    · rename_i h0
      cases ha
      exact ⟨_, w, g, none_ h0 ⟨_, _, _, rfl, hcap⟩, hs, Gh.le.refl g, S⟩
    rename_i h0
    split at ha
    case h_2 => cases ha
    rename_i k' z bb e1 e2 e3
    split at ha
    case isFalse => cases ha
    rename_i hc'
    obtain ⟨hkk, hz, hroom⟩ := hc'
    obtain ⟨i', v, j1, j2, j3, j4, j5, j6⟩ := info_of e1 e3 e2
    rw [hi] at j1; cases j1
    subst j2 j3
    simp only at ha
    split at ha
    case isFalse => cases ha
    cases ha
    have hpn : p ≠ none := by
      intro h1; subst h1
      rcases hs.own_inv with ⟨_, _, _, _, _, q⟩ | ⟨_, _, q⟩ <;> cases q
    rcases hp with ⟨rfl, _⟩ | ⟨ad, olds, rfl, hFo, hcells⟩
    · exact absurd rfl hpn
    have hFF := hFo.append hFy
    have Sk := S.kill b
    by_cases hin : xs.length + ys.length ≤ cap
    · -- in place
      have hb : ∃ kb xsb, h[b]? = some (.live kb xsb) := by
        unfold conts at hc; simp only at hc
        split at hc
        · rename_i hh; exact ⟨_, _, hh⟩
        · cases hc
      obtain ⟨kb, xsb, hb⟩ := hb
      obtain ⟨l', c, e', p1, p2, p3, p4, p5, p6, p7, p8⟩ := S.live b kb xsb hb
      have hkb : kb = i.size := by
        unfold conts at hc; simp only [hb] at hc
        split at hc <;> cases hc; rfl
      rcases hs.own_inv with ⟨l, cap', q1, q2, q3, qe⟩ | ⟨hz0, q, qe⟩
      · cases qe
        rw [q1] at p1; cases p1
        subst hkb
        have hlk : l'.k = i.size := p2
        obtain ⟨w', c', hrunS, hW⟩ := run_storeCells E.P l'.cb (l'.co + off * l'.k + xs.length * i.size) e' news 0 w c p4 (by
          rw [hFy.len, p5]
          have : (xs.length + ys.length) * l'.k ≤ cap * l'.k := Nat.mul_le_mul_right _ hin
          rw [Nat.add_mul] at q3 this
          rw [← hlk]
          omega) hFy.one
        have hrun := run_append_in (ty := ty) (len := xs.length) (cap := cap) hu hd hdi hi hsrc hin (b := ⟨l'.cb, l'.co + off * l'.k, none⟩) (by rw [addr_add]; exact hrunS)
        have u := unowned_kill S hb (by simp) q1
        have S2 : SimH E g (h.set b .dead) w' := Sk.world hW.os hW.tape hW.output fun k' hk' => by
          refine hW.else_ k' fun he => ?_
          subst he
          rcases hk' with ⟨o, ho⟩ | hk'
          · rw [p3] at ho; cases ho
          · exact hk' u
        have hsub : ∀ (j : Nat) (c0 : Value), olds[j]? = some c0 → c[l'.co + off * l'.k + j]? = some c0 := by
          intro j c0 hj
          have := hcells j c0 hj
          rw [addr_add, heap_cell p4] at this
          exact this
        have hh : holdsRows g c' (l'.co + off * l'.k) i.size (xs ++ ys) := by
          refine hFF.holds ?_ ?_
          · rw [hW.size, p5]
            simp only [List.length_append]
            rw [hFo.len, hFy.len]
            have : (xs.length + ys.length) * l'.k ≤ cap * l'.k := Nat.mul_le_mul_right _ hin
            rw [Nat.add_mul] at q3 this
            rw [← hlk]; omega
          · intro j c0 hj
            rw [hW.cells]
            rw [List.getElem?_append] at hj
            split at hj
            · rename_i hlt
              rw [if_neg (by rw [hFo.len] at hlt; omega)]
              exact hsub j c0 hj
            · rename_i hge
              have hlt := lt_of_getElem? hj
              rw [if_pos (by rw [hFo.len] at hge hlt; omega)]
              rw [← hj]; congr 1; rw [hFo.len]; omega
        have S3 := S2.adopt hW.here p3 u hh
        rw [List.length_set] at S3
        have hle : g.le (g.adopt h.length ⟨l'.cb, l'.co + off * l'.k, i.size, c'.size⟩) := Gh.adopt_le (S.fresh _ (Nat.le_refl _))
        refine ⟨_, w', _, hrun, ?_, hle, S3⟩
        have := Rep.own (g := g.adopt h.length ⟨l'.cb, l'.co + off * l'.k, i.size, c'.size⟩) h.length 0 (xs.length + ys.length) cap ⟨l'.cb, l'.co + off * l'.k, i.size, c'.size⟩ (by simp [Gh.adopt]) hin (by
          simp only [Nat.zero_add]
          rw [hW.size, p5, ← hlk]
          rw [Nat.add_mul] at q3; omega)
        simpa using this
      · have hc0 : xs.length = 0 ∧ cap = 0 := by injection qe with _ h1 h2; exact ⟨h1, h2⟩
        omega
    · -- a new array
      obtain ⟨nc, hnc, hrun⟩ := run_append_out (ty := ty) (p := some ad) (len := xs.length) (cap := cap) (olds := olds) (w := w) hu hd hdi hi j4 hsrc (fun w' hw => run_firstCells_some w' i.size xs.length ad _ _ olds hFo.len fun j u hj => by
        have := hcells j u hj
        unfold World.cell? at *
        rw [hw]; exact this) (by omega) hroom
      have hG : Grew w (w.drew.alloc (.cells ((olds ++ news).toArray ++ Builtin.zeroCells v.cells (nc - (xs.length + ys.length))) e)) (.cells ((olds ++ news).toArray ++ Builtin.zeroCells v.cells (nc - (xs.length + ys.length))) e (0, 0)) := ⟨rfl, rfl, rfl, rfl⟩
      obtain ⟨g', q1, q2, q3⟩ := append_fresh (nc := nc) Sk hFF (by rw [zeroCells_size, j5, hz]) (by simp) hnc hG
      rw [List.length_set] at q3
      exact ⟨_, _, g', hrun, q3, q1, q2⟩
  · cases ha
end Go.Proofs.YtpdohkcjhphibaaDoor.Sm
