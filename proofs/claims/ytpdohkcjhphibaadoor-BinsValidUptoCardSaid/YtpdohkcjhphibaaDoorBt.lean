/- The sort of ranges as an abstract contract; no condition. -/
import Derived.Test.YtpdohkcjhphibaaDoorBs
import Derived.Test.YtpdohkcjhphibaaDoorC3
set_option linter.unusedVariables false
namespace Go.Proofs.YtpdohkcjhphibaaDoor.Bins
open Go Go.Proofs Go.Proofs.YtpdohkcjhphibaaDoor.Sm Go.Shelf Go.RowKit Go.Lib Go.Sort

theorem encV_len (x : Rng) : (encV x).length = 2 := rfl
theorem encV_get (x : Rng) (j : Nat) (a : AV) (h : (encR x)[j]? = some a) (g : Gh) : ∃ v, (encV x)[j]? = some v ∧ (encV x)[j]! = v ∧ Rep g a v ∧ ∀ v', Rep g a v' → v' = v := by
  match j, h with
  | 0, h => simp [encR] at h; subst h; exact ⟨_, rfl, rfl, .int _ _ _, fun v' hv => hv.int_inv⟩
  | 1, h => simp [encR] at h; subst h; exact ⟨_, rfl, rfl, .int _ _ _, fun v' hv => hv.int_inv⟩
  | n + 2, h => simp [encR] at h
theorem sort_enters : ∀ args w, (callFunc 32 args).run Tryd.prog w = .ok (.enter 32 args) w := enters_of Tryd.func32 (by kernel_rfl) rfl
theorem div_lt2 {t n : Nat} (h : t < n * 2) : t / 2 < n := by omega

theorem sortOwn (G : Nat → AV) (xs : List Rng) (b : Nat) (tail : List (List AV)) (h0 h : Hp) (hl : xs.length ≤ 16777216) (he : ext h0 h) (hb0 : h0.length ≤ b) (hb : h[b]? = some (.live 2 (xs.map encR ++ tail))) :
    ACalls (En G) 31 [.own b 0 xs.length, .fn (.func 32) [] []] h fun _ H => ext h0 H ∧ ∃ ys : List Rng, ys.Perm xs ∧ ys.Pairwise (fun a b => a.lo ≤ b.lo) ∧ H[b]? = some (.live 2 (ys.map encR ++ tail)) := by
  refine ⟨cok 31 G (by kernel_rfl), fun g w cargs S ha => ?_⟩
  obtain ⟨hsz, hget⟩ := ha
  obtain ⟨cv0, cv1, rfl⟩ : ∃ a b, cargs = #[a, b] := by
    obtain ⟨l⟩ := cargs
    match l, hsz with
    | [a, b], _ => exact ⟨a, b, rfl⟩
  have r0 := hget 0 _ cv0 rfl rfl
  have r1 := hget 1 _ cv1 rfl rfl
  obtain ⟨f1, f2, rfl, q1, q2, _⟩ := r1.fn_inv
  obtain rfl : f1 = #[] := Array.eq_empty_of_size_eq_zero (by simpa using q1)
  obtain rfl : f2 = #[] := Array.eq_empty_of_size_eq_zero (by simpa using q2)
  have none_case : ∀ (p : Option Addr) (cap : Nat), xs = [] → Calls Tryd.prog 31 #[.slice p 0 cap, .func (.func 32) #[] #[]] w fun e w' => ∃ v cv g' h', e = .returned cv ∧ (ext h0 h' ∧ ∃ ys : List Rng, ys.Perm xs ∧ ys.Pairwise (fun a b => a.lo ≤ b.lo) ∧ h'[b]? = some (.live 2 (ys.map encR ++ tail))) ∧ g.le g' ∧ SimH (En G) g' h' w' ∧ Rep g' v cv := by
    intro p cap hx
    have hcon := AnyF.slices_SortFunc_none sortR p cap (.func (.func 32) #[] #[]) w
    change Calls Tryd.prog 31 _ _ _ at hcon
    refine hcon.mono ?_
    rintro e w' ⟨rfl, rfl⟩
    exact ⟨.tup [], _, g, h, rfl, ⟨he, xs, .refl _, by rw [hx]; exact .nil, hb⟩, Gh.le.refl g, S, Rep.undef g⟩
  rcases r0.own_inv with ⟨l, cap, hl0, hlc, hsp, rfl⟩ | ⟨hn, a, rfl⟩
  case inr =>
    have hx : xs = [] := List.length_eq_zero_iff.1 hn
    have := none_case (some a) 0 hx
    exact this
  obtain ⟨l', c, ety, p1, p2, p3, p4, p5, p6, p7, p8⟩ := S.live b 2 _ hb
  rw [hl0] at p1; cases p1
  obtain ⟨cb, co, k, sz⟩ := l
  simp only at p2 p3 p4 p5 p6 p8 hsp
  subst p2
  simp only [Nat.zero_mul, Nat.add_zero]
  have hblk : cb < w.heap.size := by
    have := (Array.getElem?_eq_some_iff.1 p4).1; exact this
  -- the row's cells
  have hcell : ∀ t, t < xs.length * 2 → c[co + t]? = some ((encV (xs.toArray[t / 2]!))[t % 2]!) := by
    intro t ht
    have hi := div_lt2 ht
    have e1 : (xs.map encR ++ tail)[t / 2]? = some (encR xs[t / 2]) := by rw [List.getElem?_append_left (by simpa using hi)]; exact row_map hi
    have hj : t % 2 < 2 := Nat.mod_lt _ (by decide)
    have e2 : (encR xs[t / 2])[t % 2]? = some ((encR xs[t / 2])[t % 2]'hj) := List.getElem?_eq_getElem _
    obtain ⟨cv, s1, s2⟩ := p8 (t / 2) (t % 2) _ _ e1 e2
    obtain ⟨v, _, t2, _, t4⟩ := encV_get _ _ _ e2 g
    rw [show co + t / 2 * 2 + t % 2 = co + t by omega] at s1
    rw [s1, t4 cv s2]
    have : xs.toArray[t / 2]! = xs[t / 2] := by simp [hi]
    rw [this, t2]
  have hH : HoldsK encV 2 w cb co xs.toArray := by
    intro t ht
    simp only [size_flatK, List.size_toArray] at ht
    refine ⟨?_, ?_⟩
    · rw [get_flatK _ _ _ _ (by simpa using ht)]
      simp only [World.cell?, p4]
      exact hcell t ht
    · simp [World.frozen?, p4]
  have hcon := AnyQ.slices_SortFunc sortR 2 Tryd.isAgg33 Tryd.sizeOf33 encV encV_len (fun x v hv => by simp [encV] at hv; rcases hv with rfl | rfl <;> rfl) (fun x y => Lib.compareInt x.lo y.lo) swoLo 32 #[] cb co cap xs.toArray w
    sort_enters (cmpLays32 cb co _ w) hH hblk (by simp; omega)
  simp only [List.size_toArray] at hcon
  change Calls Tryd.prog 31 _ _ _ at hcon
  refine hcon.mono ?_
  rintro e w' ⟨rfl, d', m, os, hp, hs, rfl⟩
  have hds : d'.size = xs.length := by simpa using hp.1
  have hperm : d'.toList.Perm xs := by
    have := hp.2.2
    simpa [Array.extract_eq_self_of_le, hds] using this
  have hpw : d'.toList.Pairwise (fun a b => a.lo ≤ b.lo) := by
    rw [List.pairwise_iff_getElem]
    intro i j hi hj hij
    have := hs i j (Nat.zero_le _) hij (by simpa [hds] using hj)
    rw [ltLo] at this
    simp at hi hj
    rw [getElem!_pos d' i hi, getElem!_pos d' j hj] at this
    simpa using this
  -- the written world
  have hw1 : Wrote w (putRowK encV 2 (Sort.ahead w m) cb co d') cb ety c (putCells id co (flatK encV 2 d') c) co (flatK encV 2 d').toList := by
    refine ⟨rfl, rfl, rfl, ?_, ?_, ?_, ?_⟩
    · show (w.heap.modify cb _)[cb]? = _
      rw [Array.getElem?_modify, if_pos rfl, p4]
      rfl
    · simp [putCells]
    · intro j
      simp only [putCells, Array.getElem?_mapIdx, Array.length_toList]
      rcases Nat.lt_or_ge j c.size with hj | hj
      · rw [Array.getElem?_eq_getElem hj]
        simp only [Option.map_some]
        split
        · rename_i hh
          rw [Array.getElem?_toList, Array.getElem?_eq_getElem (by omega), getElem!_pos _ _ (by omega)]
          rfl
        · rfl
      · rw [Array.getElem?_eq_none hj, if_neg ?_]
        · rfl
        · simp only [size_flatK, hds]
          have : co + xs.length * 2 ≤ c.size := by
            rw [p5]; simp only [List.length_append, List.length_map] at p6; omega
          omega
    · intro k hk
      show (w.heap.modify cb _)[k]? = _
      rw [Array.getElem?_modify, if_neg (fun e => hk e.symm)]
  have hrows : holdsRows g (putCells id co (flatK encV 2 d') c) co 2 (d'.toList.map encR ++ tail) := by
    refine ⟨?_, ?_, ?_⟩
    · have : (putCells id co (flatK encV 2 d') c).size = c.size := hw1.size
      rw [this, p5]
      simp only [List.length_append, List.length_map, Array.length_toList, hds] at p6 ⊢
      exact p6
    · intro i row hrow
      rcases Nat.lt_or_ge i xs.length with hi | hi
      · rw [List.getElem?_append_left (by simpa [hds] using hi), List.getElem?_map, Option.map_eq_some_iff] at hrow
        obtain ⟨x, _, rfl⟩ := hrow
        refine ⟨rfl, fun j v hv => ?_⟩
        match j, hv with
        | 0, hv => simp [encR] at hv; subst hv; rfl
        | 1, hv => simp [encR] at hv; subst hv; rfl
        | n + 2, hv => simp [encR] at hv
      · rw [List.getElem?_append_right (by simpa [hds] using hi)] at hrow
        refine p7 i row ?_
        rw [List.getElem?_append_right (by simpa using hi)]
        simpa [hds] using hrow
    · intro i j row v hrow hv
      rw [hw1.cells]
      rcases Nat.lt_or_ge i xs.length with hi | hi
      · have hi' : i < d'.toList.length := by simpa [hds] using hi
        rw [List.getElem?_append_left (by simpa using hi'), row_map hi'] at hrow
        cases hrow
        have hj : j < 2 := (List.getElem?_eq_some_iff.1 hv).1
        obtain ⟨v', t1, t2, t3, _⟩ := encV_get _ _ _ hv g
        refine ⟨v', ?_, t3⟩
        have hlt : i * 2 + j < d'.size * 2 := by omega
        rw [if_pos (by simp only [Array.length_toList, size_flatK]; omega), show co + i * 2 + j - co = i * 2 + j by omega, Array.getElem?_toList, Array.getElem?_eq_getElem (by simpa using hlt)]
        rw [← getElem!_pos, get_flatK _ _ _ _ hlt, show (i * 2 + j) / 2 = i by omega, show (i * 2 + j) % 2 = j by omega]
        rw [getElem!_pos d' i (by omega)]
        rw [show d'[i] = d'.toList[i] by simp, t2]
      · rw [if_neg (by simp only [Array.length_toList, size_flatK, hds]; omega)]
        rw [List.getElem?_append_right (by simpa [hds] using hi)] at hrow
        refine p8 i j row v ?_ hv
        rw [List.getElem?_append_right (by simpa using hi)]
        simpa [hds] using hrow
  have S1 := S.write hb hl0 hw1 p5 hrows
  have S2 : SimH (En G) g (h.set b (.live 2 (d'.toList.map encR ++ tail))) (sortWorldK encV 2 w cb co m d' os) := by
    refine S1.world rfl rfl rfl fun k hk => ?_
    show ((putRowK encV 2 (Sort.ahead w m) cb co d').heap ++ os)[k]? = _
    rcases Nat.lt_or_ge k (putRowK encV 2 (Sort.ahead w m) cb co d').heap.size with hlt | hge
    · rw [Array.getElem?_append_left hlt]
    · exfalso
      obtain ⟨u1, u2⟩ := S1.unowned_new hge
      rcases hk with ⟨o, ho⟩ | hk
      · rw [u2] at ho; cases ho
      · exact hk u1
  exact ⟨.tup [], _, g, _, rfl, ⟨he.set hb0 _, d'.toList, hperm, hpw, get_set_eq hb⟩, Gh.le.refl g, S2, Rep.undef g⟩

theorem sortNone (G : Nat → AV) (m : SM) (k : Nat) (h : Hp) : PCall (En G) 31 [.sl m k [], .fn (.func 32) [] []] h (.tup []) := by
  refine ⟨cok 31 G (by kernel_rfl), fun g w cargs S ha => ?_⟩
  obtain ⟨hsz, hget⟩ := ha
  obtain ⟨cv0, cv1, rfl⟩ : ∃ a b, cargs = #[a, b] := by
    obtain ⟨l⟩ := cargs
    match l, hsz with
    | [a, b], _ => exact ⟨a, b, rfl⟩
  have r0 := (hget 0 _ cv0 rfl rfl).sl_inv
  have r1 := hget 1 _ cv1 rfl rfl
  obtain ⟨f1, f2, rfl, q1, q2, _⟩ := r1.fn_inv
  obtain rfl : f1 = #[] := Array.eq_empty_of_size_eq_zero (by simpa using q1)
  obtain rfl : f2 = #[] := Array.eq_empty_of_size_eq_zero (by simpa using q2)
  have none_case : ∀ (p : Option Addr) (cap : Nat), Calls Tryd.prog 31 #[.slice p 0 cap, .func (.func 32) #[] #[]] w fun e w' => ∃ v cv g' h', e = .returned cv ∧ (v = .tup [] ∧ h' = h) ∧ g.le g' ∧ SimH (En G) g' h' w' ∧ Rep g' v cv := by
    intro p cap
    have hcon := AnyF.slices_SortFunc_none sortR p cap (.func (.func 32) #[] #[]) w
    change Calls Tryd.prog 31 _ _ _ at hcon
    refine hcon.mono ?_
    rintro e w' ⟨rfl, rfl⟩
    exact ⟨.tup [], _, g, h, rfl, ⟨rfl, rfl⟩, Gh.le.refl g, S, Rep.undef g⟩
  generalize hx : AV.sl m k [] = v at r0
  cases r0 <;> first | (cases hx; done) | skip
  · exact none_case _ _
  · exact none_case _ _
  · rename_i hne _ _ _ _ _ _ _
    cases hx; exact absurd rfl hne

theorem sortOk (G : Nat → AV) : SortOk G := ⟨fun xs b tail h0 h hl he hb0 hb => sortOwn G xs b tail h0 h hl he hb0 hb, fun m k h => sortNone G m k h⟩
theorem normal_prog' (G : Nat → AV) (xs : List Rng) (m : SM) (h : Hp) (hl : xs.length ≤ 8388608) : PCall (En G) 12 [.sl m 2 (xs.map encR)] h (.sl (nm (normal xs)) 2 ((normal xs).map encR)) := normal_prog G (sortOk G) xs m h hl
end Go.Proofs.YtpdohkcjhphibaaDoor.Bins
