/- A call leaves its own blocks behind: what it hands back is frozen, and its caller sees its old blocks only; no condition. -/
import Derived.Test.YtpdohkcjhphibaaDoorSm12
set_option linter.unusedVariables false
namespace Go.Proofs.YtpdohkcjhphibaaDoor.Sm
open Go

theorem RepF.again {M : Nat → Option Obj} {g' : Gh} {M'' : Nat → Option Obj} (hM : ∀ k o, g'.M k = some o → M'' k = some o) {v : AV} {cv0 : Value} (h0 : RepF M v cv0) : ∀ cv, Rep g' v cv → RepF M'' v cv := by
  induction h0 with
  | int k n => intro cv h; rw [h.int_inv]; exact .int k n
  | bool b => intro cv h; rw [h.bool_inv]; exact .bool b
  | str s => intro cv h; rw [h.str_inv]; exact .str s
  | nil k => intro cv h; exact h.sl_inv.mono hM
  | empty m k a cap h1 h2 => intro cv h; exact h.sl_inv.mono hM
  | sl m k xs cb co c e fz cap cv h1 h2 h3 h4 h5 _ h7 h8 ih => intro cv h; exact h.sl_inv.mono hM
  | fptr k xs i j cb co c e fz cv h3 h4 h5 _ ih => intro cv h; exact h.fptr_inv.mono hM
  | nilp => intro cv h; rw [h.nilp_inv]; exact .nilp
  | fn f first caps first' caps' h1 h2 _ _ ih1 ih2 =>
    intro cv h
    obtain ⟨a, b, rfl, q1, q2, q3, q4⟩ := h.fn_inv
    refine .fn f first caps a b q1 q2 (fun i v cv e1 e2 => ?_) (fun i v cv e1 e2 => ?_)
    · have hi : i < first'.size := by rw [h1]; exact lt_of_getElem? e1
      exact ih1 i v first'[i] e1 (by simp [hi]) cv (q3 i v cv e1 e2)
    · have hi : i < caps'.size := by rw [h2]; exact lt_of_getElem? e1
      exact ih2 i v caps'[i] e1 (by simp [hi]) cv (q4 i v cv e1 e2)
  | nilfn => intro cv h; rw [h.nilfn_inv]; exact .nilfn
  | agg cs vs h1 _ ih =>
    intro cv h
    obtain ⟨a, rfl, q1, q2⟩ := h.agg_inv
    refine .agg cs a q1 fun i v cv e1 e2 => ?_
    have hi : i < vs.size := by rw [h1]; exact lt_of_getElem? e1
    exact ih i v vs[i] e1 (by simp [hi]) cv (q2 i v cv e1 e2)
  | tup cs vs h1 _ ih =>
    intro cv h
    obtain ⟨a, rfl, q1, q2⟩ := h.tup_inv
    refine .tup cs a q1 fun i v cv e1 e2 => ?_
    have hi : i < vs.size := by rw [h1]; exact lt_of_getElem? e1
    exact ih i v vs[i] e1 (by simp [hi]) cv (q2 i v cv e1 e2)
  | junk v => intro cv h; exact .junk cv

theorem Rep.restrict {g g' g'' : Gh} (hM : ∀ k o, g'.M k = some o → g''.M k = some o) (hμ : ∀ b, (∃ l, g.μ b = some l) → g''.μ b = g'.μ b) {v : AV} {cv0 : Value} (h0 : Rep g v cv0) : ∀ cv, Rep g' v cv → Rep g'' v cv := by
  induction h0 with
  | fro h => intro cv h'; exact .fro (h.again hM cv h')
  | own b off len cap l h1 h2 h3 =>
    intro cv h
    have hb := hμ b ⟨l, h1⟩
    cases h with
    | fro h => cases h
    | own _ _ _ cap' l' q1 q2 q3 => exact .own b off len cap' l' (hb.trans q1) q2 q3
    | ownz _ _ a l' q1 => exact .ownz _ _ a l' (hb.trans q1)
  | ownz b off a l h1 =>
    intro cv h
    have hb := hμ b ⟨l, h1⟩
    cases h with
    | fro h => cases h
    | own _ _ _ cap' l' q1 q2 q3 => exact .own b off 0 cap' l' (hb.trans q1) q2 q3
    | ownz _ _ a l' q1 => exact .ownz _ _ a l' (hb.trans q1)
  | ptr b i j l h1 =>
    intro cv h
    obtain ⟨l', q1, rfl⟩ := h.ptr_inv
    exact .ptr b i j l' ((hμ b ⟨l, h1⟩).trans q1)
  | fn f first caps first' caps' h1 h2 _ _ ih1 ih2 =>
    intro cv h
    obtain ⟨a, b, rfl, q1, q2, q3, q4⟩ := h.fn_inv
    refine .fn f first caps a b q1 q2 (fun i v cv e1 e2 => ?_) (fun i v cv e1 e2 => ?_)
    · have hi : i < first'.size := by rw [h1]; exact lt_of_getElem? e1
      exact ih1 i v first'[i] e1 (by simp [hi]) cv (q3 i v cv e1 e2)
    · have hi : i < caps'.size := by rw [h2]; exact lt_of_getElem? e1
      exact ih2 i v caps'[i] e1 (by simp [hi]) cv (q4 i v cv e1 e2)
  | agg cs vs h1 _ ih =>
    intro cv h
    obtain ⟨a, rfl, q1, q2⟩ := h.agg_inv
    refine .agg cs a q1 fun i v cv e1 e2 => ?_
    have hi : i < vs.size := by rw [h1]; exact lt_of_getElem? e1
    exact ih i v vs[i] e1 (by simp [hi]) cv (q2 i v cv e1 e2)
  | tup cs vs h1 _ ih =>
    intro cv h
    obtain ⟨a, rfl, q1, q2⟩ := h.tup_inv
    refine .tup cs a q1 fun i v cv e1 e2 => ?_
    have hi : i < vs.size := by rw [h1]; exact lt_of_getElem? e1
    exact ih i v vs[i] e1 (by simp [hi]) cv (q2 i v cv e1 e2)

/-- freezing is sound, where the blocks from n on are frozen -/
theorem frz_sound {E : Env} {g : Gh} {h : Hp} {w : World} {n : Nat} {M : Nat → Option Obj} (S : SimH E g h w) (hM : ∀ k o, g.M k = some o → M k = some o)
    (hF : ∀ b k xs l, n ≤ b → h[b]? = some (.live k xs) → g.μ b = some l → M l.cb = w.heap[l.cb]?) : ∀ (d : Nat) (v : AV) (cv : Value), Rep g v cv → RepF M (frzF n h d v) cv
  | 0, v, cv, _ => by simp only [frzF]; exact .junk _
  | d + 1, v, cv, hr => by
    have IH := frz_sound S hM hF d
    cases v with
    | own b off len =>
      simp only [frzF]
      split
      · exact .junk _
      rename_i hb
      split
      case h_2 => exact .junk _
      rename_i k xs hx
      split
      case isFalse => exact .junk _
      rename_i hc
      obtain ⟨hlen, hleaf⟩ := hc
      obtain ⟨l, c, e, q1, q2, q3, q4, q5, q6, q7, q8⟩ := S.live b k xs hx
      have hMc : M l.cb = some (.cells c e (0, 0)) := (hF b k xs l (by omega) hx q1).trans q4
      by_cases h0 : len = 0
      · subst h0
        simp only [List.take_zero, List.map_nil]
        rcases hr.own_inv with ⟨l', cap, r1, r2, r3, rfl⟩ | ⟨_, a, rfl⟩
        · exact .empty _ _ _ _ (by simp) (by simp)
        · exact .empty _ _ _ _ (by simp) (by simp)
      · rcases hr.own_inv with ⟨l', cap, r1, r2, r3, rfl⟩ | ⟨hz, a, rfl⟩
        · rw [q1] at r1; cases r1
          have hlx : (((xs.drop off).take len).map (·.map (frzF n h d))).length = len := by simp; omega
          have hget : ∀ (i : Nat) (row : List AV), (((xs.drop off).take len).map (·.map (frzF n h d)))[i]? = some row → ∃ r, xs[off + i]? = some r ∧ row = r.map (frzF n h d) ∧ i < len := by
            intro i row hi
            rw [List.getElem?_map] at hi
            cases hr2 : ((xs.drop off).take len)[i]? with
            | none => rw [hr2] at hi; cases hi
            | some r =>
              rw [hr2] at hi
              simp at hi
              rw [List.getElem?_take] at hr2
              split at hr2
              · rename_i hil
                rw [List.getElem?_drop] at hr2
                exact ⟨r, hr2, hi.symm, hil⟩
              · cases hr2
          have key : ∀ i j, i < len → j < k → ∃ cv, c[l.co + off * l.k + i * k + j]? = some cv ∧ ∀ (row : List AV) (v : AV), (((xs.drop off).take len).map (·.map (frzF n h d)))[i]? = some row → row[j]? = some v → RepF M v cv := by
            intro i j hi hj
            have hlt : off + i < xs.length := by omega
            have hrow := (q7 (off + i) xs[off + i] (by simp [hlt])).1
            have hjl : j < (xs[off + i]).length := by omega
            obtain ⟨cv, s1, s2⟩ := q8 (off + i) j xs[off + i] (xs[off + i])[j] (by simp [hlt]) (by simp [hjl])
            refine ⟨cv, ?_, fun row v e1 e2 => ?_⟩
            · rw [← s1]; congr 1; rw [q2, Nat.add_mul]; omega
            · obtain ⟨r, t1, t2, _⟩ := hget i row e1
              rw [List.getElem?_eq_getElem hlt] at t1
              cases t1
              subst t2
              rw [List.getElem?_map, List.getElem?_eq_getElem hjl] at e2
              simp at e2
              subst e2
              exact IH _ _ s2
          classical
          have : ∃ cvf : Nat → Nat → Value, ∀ i j, i < len → j < k → c[l.co + off * l.k + i * k + j]? = some (cvf i j) ∧ ∀ (row : List AV) (v : AV), (((xs.drop off).take len).map (·.map (frzF n h d)))[i]? = some row → row[j]? = some v → RepF M v (cvf i j) := by
            refine ⟨fun i j => if hh : i < len ∧ j < k then (key i j hh.1 hh.2).choose else undef, fun i j hi hj => ?_⟩
            have hh : i < len ∧ j < k := ⟨hi, hj⟩
            simp only [hh, and_self, dite_true]
            exact (key i j hi hj).choose_spec
          obtain ⟨cvf, hcv⟩ := this
          have rok : rowsOk k (((xs.drop off).take len).map (·.map (frzF n h d))) := by
            intro i row hi
            obtain ⟨r, t1, t2, _⟩ := hget i row hi
            subst t2
            refine ⟨by simpa using (q7 _ r t1).1, fun j v hv => ?_⟩
            rw [List.all_eq_true] at hleaf
            have := hleaf _ (List.mem_of_getElem? hi)
            rw [List.all_eq_true] at this
            exact this v (List.mem_of_getElem? hv)
          have := RepF.sl (M := M) .any k (((xs.drop off).take len).map (·.map (frzF n h d))) l.cb (l.co + off * l.k) c e (0, 0) cap cvf (by intro hh; rw [hh] at hlx; simp at hlx; omega) (by simp) hMc rok
            (fun i j hi hj => (hcv i j (hlx ▸ hi) hj).1) (fun i j row v e1 e2 => by
              have hi : i < len := hlx ▸ lt_of_getElem? e1
              have hj : j < k := by rw [← (rok i row e1).1]; exact lt_of_getElem? e2
              exact (hcv i j hi hj).2 row v e1 e2) (by rw [hlx]; exact r2) (by simp)
          rw [hlx] at this
          exact this
        · exact absurd hz h0
    | ptr b i j => simp only [frzF]; exact .junk _
    | fn f a b =>
      simp only [frzF]
      split
      · obtain ⟨a', b', rfl, q1, q2, _⟩ := hr.fn_inv
        exact .fn f [] [] a' b' q1 q2 (by simp) (by simp)
      · exact .junk _
    | agg cs =>
      simp only [frzF]
      obtain ⟨a, rfl, q1, q2⟩ := hr.agg_inv
      refine .agg _ a (by simpa using q1) fun i v cv e1 e2 => ?_
      rw [List.getElem?_map] at e1
      cases hc : cs[i]? with
      | none => rw [hc] at e1; cases e1
      | some x => rw [hc] at e1; simp at e1; subst e1; exact IH _ _ (q2 i x cv hc e2)
    | tup cs =>
      simp only [frzF]
      obtain ⟨a, rfl, q1, q2⟩ := hr.tup_inv
      refine .tup _ a (by simpa using q1) fun i v cv e1 e2 => ?_
      rw [List.getElem?_map] at e1
      cases hc : cs[i]? with
      | none => rw [hc] at e1; cases e1
      | some x => rw [hc] at e1; simp at e1; subst e1; exact IH _ _ (q2 i x cv hc e2)
    | int k n => rw [hr.int_inv]; simp only [frzF]; exact .int _ _
    | bool b => rw [hr.bool_inv]; simp only [frzF]; exact .bool _
    | str s => rw [hr.str_inv]; simp only [frzF]; exact .str _
    | sl m k xs => simp only [frzF]; exact hr.sl_inv.mono hM
    | fptr k xs i j => simp only [frzF]; exact hr.fptr_inv.mono hM
    | nilp => rw [hr.nilp_inv]; simp only [frzF]; exact .nilp
    | nilfn => rw [hr.nilfn_inv]; simp only [frzF]; exact .nilfn
    | junk => simp only [frzF]; exact .junk _

/-- one old block, as the caller sees it again -/
def Keep (n d : Nat) (h h' h1 : Hp) (b : Nat) : Prop :=
  h1[b]? = some .dead ∨ (h1[b]? = h'[b]? ∧ h'[b]? = h[b]?) ∨ ∃ k xs, h'[b]? = some (.live k xs) ∧ h1[b]? = some (.live k (xs.map (·.map (frzF n h' d)))) ∧ (xs.map (·.map (frzF n h' d))).all (·.all AV.leaf) = true

theorem ACalls.trunc {E : Env} {f : FuncId} {args : List AV} {h : Hp} {R R' : AV → Hp → Prop} (hc : ACalls E f args h R)
    (hk : ∀ v h', R v h' → ∃ d h1, h1.length = h.length ∧ (∀ b, b < h.length → Keep h.length d h h' h1 b) ∧ R' (frzF h.length h' d v) h1) : ACalls E f args h R' := by
  refine ⟨hc.1, fun g w cargs S ha => (hc.2 g w cargs S ha).mono ?_⟩
  rintro e w' ⟨v, cv, g', h', rfl, hR, hle, S', hr⟩
  obtain ⟨d, h1, hlen, hkeep, hR'⟩ := hk v h' hR
  classical
  let M : Nat → Option Obj := fun k => match g'.M k with
    | some o => some o
    | none => if ∃ b k' xs l, h.length ≤ b ∧ h'[b]? = some (ABlk.live k' xs) ∧ g'.μ b = some l ∧ l.cb = k then w'.heap[k]? else none
  have hM : ∀ k o, g'.M k = some o → M k = some o := fun k o hk => by simp only [M, hk]
  have hMin : ∀ b k xs l, h.length ≤ b → h'[b]? = some (.live k xs) → g'.μ b = some l → M l.cb = w'.heap[l.cb]? := by
    intro b k xs l hb hx hl
    obtain ⟨l', c, e, q1, q2, q3, q4, _⟩ := S'.live b k xs hx
    rw [hl] at q1; cases q1
    simp only [M, q3]
    rw [if_pos ⟨b, k, xs, l, hb, hx, hl, rfl⟩]
  have hMout : ∀ b x l, b < h.length → h'[b]? = some x → x ≠ .dead → g'.μ b = some l → g'.M l.cb = none → M l.cb = none := by
    intro b x l hb hx hn hl h0
    simp only [M, h0]
    rw [if_neg]
    rintro ⟨b', k', xs', l', q1, q2, q3, q4⟩
    have := S'.inj b b' x _ l l' hx hn q2 (by simp) hl q3 q4.symm
    omega
  let g2 : Gh := { g' with M := M, μ := fun b => if b < h.length then g'.μ b else none }
  have hμ : ∀ b, b < h.length → g2.μ b = g'.μ b := fun b hb => by simp [g2, hb]
  have hdom : ∀ b, (∃ l, g.μ b = some l) → g2.μ b = g'.μ b := by
    rintro b ⟨l, hl⟩
    refine hμ b ?_
    rcases Nat.lt_or_ge b h.length with hb | hb
    · exact hb
    · rw [S.fresh b hb] at hl; cases hl
  have hfz := frz_sound (n := h.length) S' hM hMin
  refine ⟨frzF h.length h' d v, cv, g2, h1, rfl, hR', ?_, ?_, .fro (hfz d v cv hr)⟩
  · exact ⟨fun k o hk => hM k o (hle.M k o hk), fun b l hl => by rw [hdom b ⟨l, hl⟩]; exact hle.μ b l hl, hle.os, hle.tape, hle.output⟩
  · refine ⟨S'.os, S'.tape, S'.output, ?_, ?_, ?_, ?_, ?_, fun n => (S'.glob n).mono hM⟩
    · intro k o hk
      change M k = some o at hk
      simp only [M] at hk
      split at hk
      · rename_i o' ho'; cases hk; exact S'.fro k o ho'
      · split at hk
        · exact hk
        · cases hk
    · intro b k xs hx
      have hb : b < h.length := hlen ▸ lt_of_getElem? hx
      rcases hkeep b hb with k1 | ⟨k1, k2⟩ | ⟨k', xs', k1, k2, k3⟩
      · rw [k1] at hx; cases hx
      · rw [k1] at hx
        obtain ⟨l, c, e, q1, q2, q3, q4, q5, q6, q7, q8⟩ := S'.live b k xs hx
        rw [k2] at hx
        obtain ⟨l0, c0, e0, p1, p2, p3, p4, p5, p6, p7, p8⟩ := S.live b k xs hx
        refine ⟨l, c, e, (hμ b hb).trans q1, q2, hMout b _ l hb (k2.trans hx) (by simp) q1 q3, q4, q5, q6, q7, fun i j row v e1 e2 => ?_⟩
        obtain ⟨cv, s1, s2⟩ := q8 i j row v e1 e2
        obtain ⟨cv0, _, t2⟩ := p8 i j row v e1 e2
        exact ⟨cv, s1, t2.restrict hM hdom cv s2⟩
      · rw [k2] at hx
        cases hx
        obtain ⟨l, c, e, q1, q2, q3, q4, q5, q6, q7, q8⟩ := S'.live b k xs' k1
        refine ⟨l, c, e, (hμ b hb).trans q1, q2, hMout b _ l hb k1 (by simp) q1 q3, q4, q5, by simpa using q6, ?_, ?_⟩
        · intro i row hi
          have hi0 := hi
          rw [List.getElem?_map] at hi
          cases hr2 : xs'[i]? with
          | none => rw [hr2] at hi; cases hi
          | some r =>
            rw [hr2] at hi; simp at hi; subst hi
            refine ⟨by simpa using (q7 i r hr2).1, fun j v hv => ?_⟩
            rw [List.all_eq_true] at k3
            have := k3 _ (List.mem_of_getElem? hi0)
            rw [List.all_eq_true] at this
            exact this v (List.mem_of_getElem? hv)
        · intro i j row v hi hv
          rw [List.getElem?_map] at hi
          cases hr2 : xs'[i]? with
          | none => rw [hr2] at hi; cases hi
          | some r =>
            rw [hr2] at hi; simp at hi; subst hi
            rw [List.getElem?_map] at hv
            cases hv2 : r[j]? with
            | none => rw [hv2] at hv; cases hv
            | some x =>
              rw [hv2] at hv; simp at hv; subst hv
              obtain ⟨cv, s1, s2⟩ := q8 i j r x hr2 hv2
              exact ⟨cv, s1, .fro (hfz d x cv s2)⟩
    · intro b s pos hx
      have hb : b < h.length := hlen ▸ lt_of_getElem? hx
      rcases hkeep b hb with k1 | ⟨k1, k2⟩ | ⟨k', xs', k1, k2, k3⟩
      · rw [k1] at hx; cases hx
      · rw [k1] at hx
        obtain ⟨l, q1, q2, q3, q4, q5⟩ := S'.iter b s pos hx
        exact ⟨l, (hμ b hb).trans q1, q2, q3, hMout b _ l hb hx (by simp) q1 q4, q5⟩
      · rw [k2] at hx; cases hx
    · have back : ∀ b x, h1[b]? = some x → x ≠ .dead → b < h.length ∧ ∃ y, h'[b]? = some y ∧ y ≠ .dead := by
        intro b x hx hn
        have hb : b < h.length := hlen ▸ lt_of_getElem? hx
        refine ⟨hb, ?_⟩
        rcases hkeep b hb with k1 | ⟨k1, k2⟩ | ⟨k', xs', k1, k2, k3⟩
        · rw [k1] at hx; cases hx; exact absurd rfl hn
        · exact ⟨x, k1 ▸ hx, hn⟩
        · exact ⟨_, k1, by simp⟩
      intro b b' x x' l l' e1 n1 e2 n2 m1 m2 hcb
      obtain ⟨hb, y, hy, hyn⟩ := back b x e1 n1
      obtain ⟨hb', y', hy', hyn'⟩ := back b' x' e2 n2
      rw [hμ b hb] at m1
      rw [hμ b' hb'] at m2
      exact S'.inj b b' y y' l l' hy hyn hy' hyn' m1 m2 hcb
    · intro b hb
      have : ¬ b < h.length := by omega
      simp [g2, this]

/-- the common case: nothing old has changed -/
theorem ACalls.pure {E : Env} {f : FuncId} {args : List AV} {h : Hp} {R : AV → Hp → Prop} {r : AV} (d : Nat) (hc : ACalls E f args h R)
    (hk : ∀ v h', R v h' → (∃ x, h' = h ++ x) ∧ frzF h.length h' d v = r) : PCall E f args h r := by
  refine hc.trunc fun v h' hR => ?_
  obtain ⟨⟨x, rfl⟩, hr⟩ := hk v h' hR
  exact ⟨d, h, rfl, fun b hb => .inr (.inl ⟨by rw [List.getElem?_append_left hb], by rw [List.getElem?_append_left hb]⟩), hr, rfl⟩
/-- a call whose value is a number, a truth value or a string -/
theorem ACalls.pure0 {E : Env} {f : FuncId} {args : List AV} {h : Hp} {r : AV} (hr : (match r with | .int _ _ => true | .bool _ => true | .str _ => true | .sl _ _ _ => true | _ => false) = true) (hc : ACalls E f args h fun v h' => v = r ∧ ∃ x, h' = h ++ x) : PCall E f args h r :=
  hc.pure 1 fun v h' ⟨e, x⟩ => ⟨x, by subst e; cases v <;> simp at hr <;> rfl⟩
/-- a nil slice is a nil slice of whatever element -/
theorem nil_conv {g : Gh} {k k' : Nat} {cv : Value} (h : Rep g (.sl .nil k []) cv) : Rep g (.sl .nil k' []) cv := by
  have := h.sl_inv
  cases this with
  | nil => exact .fro (.nil k')
  | empty _ _ _ _ h1 => exact absurd rfl h1
  | sl _ _ _ _ _ _ _ _ _ _ h1 => exact absurd rfl h1
theorem ACalls.conv {E : Env} {f : FuncId} {args : List AV} {h : Hp} {R R' : AV → Hp → Prop} (hc : ACalls E f args h R) (hr : ∀ v h', R v h' → ∃ v', R' v' h' ∧ ∀ g cv, Rep g v cv → Rep g v' cv) : ACalls E f args h R' :=
  ⟨hc.1, fun g w cargs S ha => (hc.2 g w cargs S ha).mono fun _ _ ⟨v, cv, g', h', e, r, q1, q2, q3⟩ => let ⟨v', r', q4⟩ := hr v h' r; ⟨v', cv, g', h', e, r', q1, q2, q4 g' cv q3⟩⟩
end Go.Proofs.YtpdohkcjhphibaaDoor.Sm
