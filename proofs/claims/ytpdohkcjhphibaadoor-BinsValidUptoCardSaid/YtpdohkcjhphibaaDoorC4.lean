/- The contract of the reference's Normal; no condition. -/
import Derived.Test.YtpdohkcjhphibaaDoorC3
set_option linter.unusedVariables false
set_option linter.unusedSimpArgs false
namespace Go.Proofs.YtpdohkcjhphibaaDoor.Bins
open Go Go.Proofs.YtpdohkcjhphibaaDoor.Sm

structure Sel (xs dn cur : List Rng) : Prop where
  perm : (dn ++ cur).Perm xs
  sorted : dn.Pairwise (fun a b => a.lo ≤ b.lo)
  below : ∀ d ∈ dn, ∀ c ∈ cur, d.lo ≤ c.lo
theorem swap_out {cur : List Rng} {b : Nat} (hb : b < cur.length) : (cur[b] :: (cur.set b (cur[cur.length - 1]'(by omega))).take (cur.length - 1)).Perm cur := by
  obtain ⟨init, t, rfl⟩ : ∃ init t, cur = init ++ [t] := ⟨cur.dropLast, cur.getLast (by intro e; subst e; simp at hb), (List.dropLast_concat_getLast _).symm⟩
  have hl : (init ++ [t]).length - 1 = init.length := by simp
  have hlast : (init ++ [t])[(init ++ [t]).length - 1]'(by simp) = t := by simp
  rw [hlast, hl]
  rcases Nat.lt_or_ge b init.length with h | h
  · rw [List.set_append_left _ _ h, List.take_left' (by simp), List.getElem_append_left h]
    have h1 : init = init.take b ++ init[b] :: init.drop (b + 1) := by rw [List.getElem_cons_drop, List.take_append_drop]
    have h2 : init.set b t = init.take b ++ t :: init.drop (b + 1) := by rw [List.set_eq_take_append_cons_drop, if_pos h]
    rw [h2]
    generalize init[b] = x at h1
    generalize init.take b = p at h1
    generalize init.drop (b + 1) = q at h1
    subst h1
    have e1 : (x :: (p ++ t :: q)).Perm (p ++ x :: t :: q) := List.perm_middle.symm
    refine e1.trans ?_
    rw [List.append_assoc]
    refine List.Perm.append_left p ?_
    rw [List.cons_append]
    refine List.Perm.cons x ?_
    exact (List.perm_append_singleton t q).symm
  · have : b = init.length := by simp at hb; omega
    subst this
    rw [List.getElem_append_right (Nat.le_refl _)]
    simp
    exact (List.perm_append_singleton t init).symm
theorem Sel.step {xs dn cur : List Rng} (h : Sel xs dn cur) {b : Nat} (hb : b < cur.length) (hmin : ∀ c ∈ cur, cur[b].lo ≤ c.lo) :
    Sel xs (dn ++ [cur[b]]) ((cur.set b (cur[cur.length - 1]'(by omega))).take (cur.length - 1)) := by
  have hs := swap_out hb
  generalize (cur.set b (cur[cur.length - 1]'(by omega))).take (cur.length - 1) = nx at hs
  refine ⟨?_, ?_, ?_⟩
  · rw [List.append_assoc]
    exact (List.Perm.append_left dn hs).trans h.perm
  · rw [List.pairwise_append]
    refine ⟨h.sorted, by simp, ?_⟩
    intro a ha c hc
    simp at hc; subst hc
    exact h.below a ha _ (List.getElem_mem hb)
  · intro d hd c hc
    have hcm : c ∈ cur := hs.mem_iff.1 (List.mem_cons_of_mem _ hc)
    rw [List.mem_append] at hd
    rcases hd with hd | hd
    · exact h.below d hd c hcm
    · simp at hd; subst hd; exact hmin c hcm
theorem Sel.done {xs dn : List Rng} (h : Sel xs dn []) : (dn.filter full).foldl join [] = normal xs := by
  have hp := h.perm
  rw [List.append_nil] at hp
  exact normal_of (hp.filter full) (h.sorted.filter full)
theorem srcR.nil_or {h : Hp} {ys : List Rng} {b : Nat} {v : AV} {H : Hp} (hs : srcR h ys b v H) (hne : ys ≠ []) : h.length ≤ b ∧ v = .own b 0 ys.length ∧ ∃ tail, H[b]? = some (.live 2 (ys.map encR ++ tail)) := by
  rcases hs with ⟨h1, _⟩ | h2
  · exact absurd h1 hne
  · exact h2
theorem src_len {h : Hp} {ys : List Rng} {b : Nat} {v : AV} {H : Hp} (hs : srcR h ys b v H) : aLen Tryd.prog 22 v = some (.int .i64 ys.length) := by
  rcases hs with ⟨rfl, m0, k0, rfl⟩ | ⟨_, rfl, _⟩
  · exact ln22.1 _ _ _
  · exact ln22.2 _ _ _

set_option maxHeartbeats 1000000 in
theorem normal_refA (G : Nat → AV) (xs : List Rng) (m : SM) (h : Hp) (hl : xs.length ≤ 8388608) :
    ACalls (En G) 13 [.sl m 2 (xs.map encR)] h fun v H => ext h H ∧ ∃ b, outR h (normal xs) b v H := by
  refine acalls_of (H := Hint.none) (enM G) Tryd.func13 rfl (by kernel_rfl) (by kernel_rfl) (Nat.le_of_ble_eq_true (by kernel_rfl)) ?_
  show awp _ _ _ _ _ (endQ _ [.tmp 2] _)
  obtain ⟨v0, H0, hap, hex0, hsrc0⟩ : ∃ v0 H0, aAppend Tryd.prog true h 22 22 (.sl .full 2 []) (.sl m 2 (xs.map encR)) = some (v0, H0) ∧ ext h H0 ∧ srcR h xs h.length v0 H0 := by
    rcases Classical.em (xs = []) with hx | hx
    · subst hx
      exact ⟨_, _, app_none Tryd.underlying22 sz33 (.inr rfl), ext.rfl' _, .inl ⟨rfl, _, _, rfl⟩⟩
    · have hne : xs.map encR ≠ [] := by simpa using hx
      refine ⟨_, _, app_full (xs := []) ud22 sz33 zs22 by22 (conts_sl h m 2 (xs.map encR)) hne (room_of (by simp; omega) (by omega)), ⟨_, rfl⟩, .inr ⟨Nat.le_refl _, by simp, [], by simp⟩⟩
  simp -implicitDefEqProofs only [List.getElem?_cons_zero, List.getElem?_cons_succ, evp_nil, awp_seq, awp_block, awp_reg, seqQ_n, WW_one, WW_nil, none_md, none_fz, frz_nil, ownOp, wc_app, wcont_s, upd_app, ev_tmp, ev_const, av_nil, x_move, x_assign, x_buildSlice, x_append, holdsO_some, frameOf_zero, ↓reduceIte, Nat.reduceEqDiff, Option.getD_some, Bool.not_false, enP, bs22_0, hap]
  refine awp_loop (fun n F H => ∃ dn cur b, n = cur.length ∧ Sel xs dn cur ∧ ext h H ∧ srcR h cur b (F 4) H ∧ outR h ((dn.filter full).foldl join []) b (F 3) H) xs.length
    ⟨[], xs, h.length, rfl, ⟨by simp, .nil, by simp⟩, hex0, by simp -implicitDefEqProofs only [List.getElem?_cons_zero, List.getElem?_cons_succ, upd_app, ↓reduceIte]; exact hsrc0, .inl ⟨rfl, by simp -implicitDefEqProofs only [List.getElem?_cons_zero, List.getElem?_cons_succ, upd_app, ↓reduceIte, Nat.reduceEqDiff]⟩⟩ ?_
  rintro n F H ⟨dn, cur, b, rfl, hsel, hex, hsrc, hout⟩
  have hcl : cur.length ≤ 8388608 := by have := hsel.perm.length_eq; simp at this; omega
  generalize f4 : F 4 = v4 at hsrc
  simp -implicitDefEqProofs only [List.getElem?_cons_zero, List.getElem?_cons_succ, awp_seq, awp_reg, awp_cond, seqQ_n, WW_one, WW_nil, none_md, none_fz, frz_nil, ownOp, wc_app, wcont_s, upd_app, ev_tmp, ev_const, av_int, x_move, x_bin, x_len, holdsO_ofO, bin_gtr, ↓reduceIte, Option.getD_some, Bool.not_false, enP, f4, src_len hsrc]
  refine cond_of (fun hc => ?_) (fun hc => ?_)
  · have hne : cur ≠ [] := by intro e; subst e; simp at hc
    obtain ⟨hb1, rfl, tail, ht⟩ := hsrc.nil_or hne
    generalize f3 : F 3 = v3 at hout
    have hcp : 0 < cur.length := List.length_pos_iff.2 hne
    have ld : ∀ j (hj : j < cur.length), aLoad Tryd.prog H 3 (.ptr b j 0) = some (.int .i64 cur[j].lo) := fun j hj => by
      rw [load_row ag3 ht (row := encR cur[j]) (by rw [List.getElem?_append_left (by simpa using hj)]; exact row_map hj)]; rfl
    have ldA : ∀ j (hj : j < cur.length), aLoad Tryd.prog H 33 (.ptr b j 0) = some (.agg (encR cur[j])) := fun j hj => by
      rw [load_rowA ag33 sz33 ht (row := encR cur[j]) (by rw [List.getElem?_append_left (by simpa using hj)]; exact row_map hj) (by simp [encR])]; rfl
    simp -implicitDefEqProofs only [List.getElem?_cons_zero, List.getElem?_cons_succ, awp_seq, awp_block, awp_reg, awp_skip, seqQ_n, WW_one, WW_nil, none_md, none_fz, frz_nil, ownOp, wc_app, wcont_s, ev_const, av_int, x_assign, Option.getD_some, Bool.not_false]
    refine awp_loop (fun n2 F H2 => ∃ i best, ∃ hb : best < cur.length, n2 + i = cur.length ∧ best < i ∧ (∀ j, j < i → ∀ c, cur[j]? = some c → (cur[best]'hb).lo ≤ c.lo) ∧ F 3 = v3 ∧ F 4 = .own b 0 cur.length ∧ F 5 = .int .i64 (best : Nat) ∧ F 6 = .int .i64 (i : Nat) ∧ H2 = H) (cur.length - 1)
      ⟨1, 0, hcp, by omega, by omega, fun j hj c hc => by
        have : j = 0 := by omega
        subst this; rw [List.getElem?_eq_getElem hcp] at hc; cases hc; exact Int.le_refl _, by simp -implicitDefEqProofs only [List.getElem?_cons_zero, List.getElem?_cons_succ, upd_app, ↓reduceIte, Nat.reduceEqDiff, f3], by simp -implicitDefEqProofs only [List.getElem?_cons_zero, List.getElem?_cons_succ, upd_app, ↓reduceIte, Nat.reduceEqDiff, f4], by simp -implicitDefEqProofs only [List.getElem?_cons_zero, List.getElem?_cons_succ, upd_app, ↓reduceIte, Nat.reduceEqDiff]; rfl, by simp -implicitDefEqProofs only [List.getElem?_cons_zero, List.getElem?_cons_succ, upd_app, ↓reduceIte]; rfl, rfl⟩ ?_
    clear f3 f4
    rintro n2 F H2 ⟨i, best, hbl, hi, hbi, hmin, f3, f4, f5, f6, rfl⟩
    simp -implicitDefEqProofs only [List.getElem?_cons_zero, List.getElem?_cons_succ, awp_seq, awp_reg, awp_cond, seqQ_n, WW_one, WW_nil, none_md, none_fz, frz_nil, ownOp, wc_app, wcont_s, upd_app, ev_tmp, x_move, x_bin, x_len, holdsO_ofO, bin_lss, ↓reduceIte, Nat.reduceEqDiff, Option.getD_some, Bool.not_false, enP, f4, f6, ln22.2]
    refine cond_of (fun hd => ?_) (fun hd => ?_)
    · have hd' : i < cur.length := by simpa using hd
      simp -implicitDefEqProofs only [List.getElem?_cons_zero, List.getElem?_cons_succ, awp_seq, awp_block, awp_skip, seqQ_n]
      refine awp_draw (by kernel_rfl) ?_
      simp -implicitDefEqProofs only [List.getElem?_cons_zero, List.getElem?_cons_succ, dc_app, dcont_s, DD_nil, DD_one, y_move, y_load, y_bin, y_fieldAddr, y_indexAddr, awp_cond, seqQ_n, none_md, upd_app, ev_tmp, x_load, x_bin, x_fieldAddr, x_indexAddr, holdsO_ofO, bin_lss, ↓reduceIte, Nat.reduceEqDiff, Nat.add_zero, Nat.zero_add, Option.getD_some, enP, ix22, fa33_0, f4, f5, f6, ix_own ht hd', ix_own ht hbl, ld i hd', ld best hbl]
      refine cond_of (fun he => ?_) (fun he => ?_)
      · simp -implicitDefEqProofs only [List.getElem?_cons_zero, List.getElem?_cons_succ, awp_reg, seqQ_n, blk_n, rnd_n, WW_one, WW_nil, none_md, none_fz, frz_nil, ownOp, wc_app, wcont_s, upd_app, ev_tmp, ev_const, av_int, x_move, x_assign, x_bin, holdsO_ofO, bin_add, ↓reduceIte, Nat.reduceEqDiff, Option.getD_some, Bool.not_false, enP, f6, wrap_succ (show i < 9223372036854775807 by omega)]
        refine ⟨n2 - 1, by omega, i + 1, i, hd', by omega, by omega, fun j hj c hc => ?_, f3, f4, rfl, rfl, trivial⟩
        have he' : cur[i].lo < cur[best].lo := by simpa using he
        rcases Nat.lt_or_ge j i with h1 | h1
        · have := hmin j h1 c hc; omega
        · have : j = i := by omega
          subst this; rw [List.getElem?_eq_getElem hd'] at hc; cases hc; exact Int.le_refl _
      · simp -implicitDefEqProofs only [List.getElem?_cons_zero, List.getElem?_cons_succ, awp_reg, awp_skip, seqQ_n, blk_n, rnd_n, WW_one, WW_nil, none_md, none_fz, frz_nil, ownOp, wc_app, wcont_s, upd_app, ev_tmp, ev_const, av_int, x_move, x_assign, x_bin, holdsO_ofO, bin_add, ↓reduceIte, Nat.reduceEqDiff, Option.getD_some, Bool.not_false, enP, f6, wrap_succ (show i < 9223372036854775807 by omega)]
        refine ⟨n2 - 1, by omega, i + 1, best, hbl, by omega, by omega, fun j hj c hc => ?_, f3, f4, f5, rfl, trivial⟩
        have he' : ¬ cur[i].lo < cur[best].lo := by simpa using he
        rcases Nat.lt_or_ge j i with h1 | h1
        · exact hmin j h1 c hc
        · have : j = i := by omega
          subst this; rw [List.getElem?_eq_getElem hd'] at hc; cases hc; omega
    · have hd' : ¬ i < cur.length := by simpa using hd
      have hmin' : ∀ c ∈ cur, cur[best].lo ≤ c.lo := by
        intro c hc
        obtain ⟨j, hj, rfl⟩ := List.mem_iff_getElem.1 hc
        exact hmin j (by omega) _ (List.getElem?_eq_getElem hj)
      have hst := hsel.step hbl hmin'
      have ldb := ldA best hbl
      generalize hr : cur[best] = r at hst ldb
      have hlt1 : cur.length - 1 < cur.length := by omega
      have hlast : (IntKind.i64.wrap ((cur.length : Int) - 1)) = ((cur.length - 1 : Nat) : Int) := by rw [wrap_i64 (by omega) (by omega)]; omega
      have ht2 : (H2 ++ [ABlk.live 2 [encR r]])[b]? = some (.live 2 (cur.map encR ++ tail)) := below_get ht
      have hbl2 := lt_of_getElem? ht
      have ixl : ixSl 2 (H2 ++ [ABlk.live 2 [encR r]]) (.own b 0 cur.length) (.int .i64 ((cur.length - 1 : Nat) : Int)) = some (.ptr b (cur.length - 1) 0) := by rw [ix_own ht2 hlt1, Nat.zero_add]
      have ldl : aLoad Tryd.prog (H2 ++ [ABlk.live 2 [encR r]]) 33 (.ptr b (cur.length - 1) 0) = some (.agg (encR cur[cur.length - 1])) := load_app (ldA _ hlt1)
      generalize hlst : cur[cur.length - 1] = lst at hst ldl
      have st : aStore Tryd.prog (H2 ++ [ABlk.live 2 [encR r]]) 33 (.ptr b best 0) (.agg (encR lst)) = some ((H2 ++ [ABlk.live 2 [encR r]]).set b (.live 2 ((cur.set best lst).map encR ++ tail))) := by
        have h2 := store_row (P := Tryd.prog) (t := 33) (j := 0) (v := .agg (encR lst)) (cs := encR lst) rfl sz33 ht2 (i := best) (row := encR r) (by rw [List.getElem?_append_left (by simpa using hbl), row_map hbl, hr]) (by simp [encR])
        have h3 : (cur.map encR ++ tail).set best (encR lst) = (cur.set best lst).map encR ++ tail := by rw [List.set_append_left _ _ (by simpa using hbl), List.map_set]
        rw [h2, splice_full (by simp [encR]), h3]
      have ht3 : ((H2 ++ [ABlk.live 2 [encR r]]).set b (.live 2 ((cur.set best lst).map encR ++ tail)))[b]? = some (.live 2 ((cur.set best lst).map encR ++ tail)) := get_set_eq ht2
      have hrr : ((H2 ++ [ABlk.live 2 [encR r]]).set b (.live 2 ((cur.set best lst).map encR ++ tail)))[List.length H2]? = some (.live 2 [encR r]) := get_set_ne (top_get _ _) (by omega)
      have hex3 : ext h ((H2 ++ [ABlk.live 2 [encR r]]).set b (.live 2 ((cur.set best lst).map encR ++ tail))) := (hex.app _).set hb1 _
      have hout3 : outR h ((dn.filter full).foldl join []) b v3 ((H2 ++ [ABlk.live 2 [encR r]]).set b (.live 2 ((cur.set best lst).map encR ++ tail))) := by
        rcases hout with h1 | ⟨h1, o, h2, h3, h4, h5⟩
        · exact .inl h1
        · exact .inr ⟨h1, o, h2, h3, h4, get_set_ne (below_get h5) h3⟩
      have hH3l : List.length ((H2 ++ [ABlk.live 2 [encR r]]).set b (.live 2 ((cur.set best lst).map encR ++ tail))) = List.length H2 + 1 := by simp
      have hsrc3 : ∀ {H'}, H'[b]? = some (.live 2 ((cur.set best lst).map encR ++ tail)) → srcR h ((cur.set best lst).take (cur.length - 1)) b (.own b 0 (cur.length - 1)) H' := by
        intro H' hh
        refine .inr ⟨hb1, ?_, ((cur.set best lst).drop (cur.length - 1)).map encR ++ tail, ?_⟩
        · simp
        · rw [hh, ← List.append_assoc, ← List.map_append, List.take_append_drop]
      have hcl3 : ((cur.set best lst).take (cur.length - 1)).length = cur.length - 1 := by simp
      simp -implicitDefEqProofs only [Option.map_some, Option.map_none, List.getElem?_cons_zero, List.getElem?_cons_succ, awp_seq, awp_reg, awp_exit, seqQ_n, seqQ_e, blk_e, rnd_e, WW_one, WW_nil, none_md, none_fz, frz_nil, ownOp, wc_app, wcont_s, wcont_n, upd_app, ev_tmp, ev_const, av_int, x_move, x_alloc, x_load, x_store, x_bin, x_slice, x_indexAddr, x_len, holdsO_some, holdsO_ofO, holdsO_ofS, bin_sub, ↓reduceIte, Nat.reduceEqDiff, Nat.zero_add, Option.getD_some, Bool.not_false, enP, ix22, f4, f5, ix_own ht hbl, ldb, al33, st33 _ _ [.int .i64 0, .int .i64 0] rfl, hlast, ln22.2, ixl, ldl, ix_own ht2 hbl, st]
      generalize hH3 : (H2 ++ [ABlk.live 2 [encR r]]).set b (.live 2 ((cur.set best lst).map encR ++ tail)) = H3 at ht3 hrr hex3 hout3 hH3l
      generalize (cur.set best lst).take (cur.length - 1) = nx at hst hsrc3 hcl3
      clear hH3 hsrc hex ht hout ht2 st ixl ldl ld ldA ldb hmin hmin'
      have ld7 : ∀ j, aLoad Tryd.prog H3 3 (.ptr (List.length H2) 0 j) = (encR r)[j]? := fun j => load_row ag3 hrr rfl
      simp -implicitDefEqProofs only [List.getElem?_cons_zero, List.getElem?_cons_succ, awp_seq, awp_reg, awp_cond, seqQ_n, WW_one, WW_nil, none_md, none_fz, frz_nil, ownOp, wc_app, wcont_s, upd_app, ev_tmp, x_assign, x_load, x_bin, x_fieldAddr, holdsO_ofO, bin_gtr, ↓reduceIte, Nat.reduceEqDiff, Nat.add_zero, Nat.zero_add, Option.getD_some, Bool.not_false, enP, fa33_0, fa33_1, own_to Tryd.underlying22 sz33 ht3 (show cur.length - 1 ≤ cur.length by omega), ld7, encR0, encR1]
      refine cond_of (fun hg => ?_) (fun hg => ?_)
      · simp -implicitDefEqProofs only [List.getElem?_cons_zero, List.getElem?_cons_succ, awp_exit, seqQ_e, blk_e, rnd_n, upd_app, ↓reduceIte, Nat.reduceEqDiff]
        refine ⟨cur.length - 1, by omega, dn ++ [r], nx, b, by omega, hst, hex3, hsrc3 ht3, ?_⟩
        have : (dn ++ [r]).filter full = dn.filter full := by
          rw [List.filter_append]
          have : full r = false := by simp [full] at hg ⊢; exact hg
          simp [this]
        rw [this, f3]; exact hout3
      · have hfr : full r = true := by simp [full] at hg ⊢; exact hg
        have hft : ((dn ++ [r]).filter full).foldl join [] = join ((dn.filter full).foldl join []) r := by
          rw [List.filter_append, List.foldl_append]; simp [hfr]
        have hol0 : ((dn.filter full).foldl join []).length ≤ 8388608 := by
          have h1 := joins_len (dn.filter full) []
          have h2 : (dn.filter full).length ≤ dn.length := List.length_filter_le _ _
          have h3 := hsel.perm.length_eq
          simp at h1 h3; omega
        generalize (dn.filter full).foldl join [] = out at hft hol0 hout3
        rcases hout3 with ⟨rfl, rfl⟩ | ⟨hne2, o, ho1, ho2, rfl, ho⟩
        · have dneg : decide ((IntKind.i64.wrap (((0 : Nat) : Int) - 1)) ≥ 0) = false := by rw [wrap_i64 (by omega) (by omega)]; simp
          simp -implicitDefEqProofs only [List.getElem?_cons_zero, List.getElem?_cons_succ, awp_seq, awp_reg, awp_skip, seqQ_n, WW_one, WW_nil, none_md, none_fz, frz_nil, ownOp, wc_app, wcont_s, upd_app, ev_tmp, ev_const, av_int, x_move, x_assign, x_bin, x_len, holdsO_ofO, bin_sub, ↓reduceIte, Nat.reduceEqDiff, Option.getD_some, Bool.not_false, enP, ln22, f3, List.length_nil]
          refine awp_draw (by kernel_rfl) ?_
          have h1 : ([encR r] : List (List AV)) ≠ [] := by simp
          have ld77 : aLoad Tryd.prog H3 33 (.ptr (List.length H2) 0 0) = some (.agg (encR r)) := by rw [load_rowA ag33 sz33 hrr rfl (Nat.le_refl 2)]; rfl
          simp -implicitDefEqProofs only [List.getElem?_cons_zero, List.getElem?_cons_succ, evp_nil, evp_cons, dc_app, dcont_s, DD_nil, DD_one, DD_guardE, GY_some, GD_tf, GD_u, y_move, y_pick, y_bin, awp_reg, awp_cond, seqQ_n, blk_n, rnd_n, cond_f, WW_one, WW_nil, gdstO, none_md, none_fz, frz_nil, ownOp, wc_app, wcont_s, upd_app, aput, ev_tmp, ev_const, av_int, av_bool, x_move, x_assign, x_pick, pick_f, x_buildSlice, x_load, x_bin, x_append, holdsO_some, holdsO_ofO, bin_geq, ↓reduceIte, Nat.reduceEqDiff, Option.getD_some, Bool.not_false, enP, dneg, ld77, f3, bs22_1, app_nil ud22 sz33 zs22 by22 (conts_sl H3 .full 2 [encR r]) h1 (room_of (by simp) (by omega))]
          refine ⟨cur.length - 1, by omega, dn ++ [r], nx, b, by omega, hst, hex3.app _, hsrc3 (below_get ht3), ?_⟩
          rw [hft]
          exact .inr ⟨by simp [join], _, by rw [hH3l]; have := hex3.le; omega, by omega, rfl, by simp [join]⟩
        · obtain ⟨init, t, rfl⟩ : ∃ init t, out = init ++ [t] := ⟨out.dropLast, out.getLast hne2, (List.dropLast_concat_getLast hne2).symm⟩
          have hol := lt_of_getElem? ho
          have hlast2 : (IntKind.i64.wrap (((init ++ [t]).length : Int) - 1)) = ((init.length : Nat) : Int) := by
            rw [wrap_i64 (by omega) (by omega)]; simp
          have dpos : decide (((init.length : Nat) : Int) ≥ 0) = true := by simp
          have hil : init.length < (init ++ [t]).length := by simp
          have erow : ((init ++ [t]).map encR)[init.length]? = some (encR t) := by simp
          have lhi : aLoad Tryd.prog H3 3 (.ptr o init.length 1) = some (.int .i64 t.hi) := by rw [load_row ag3 ho erow]; rfl
          simp -implicitDefEqProofs only [List.getElem?_cons_zero, List.getElem?_cons_succ, awp_seq, awp_reg, awp_skip, seqQ_n, WW_one, WW_nil, none_md, none_fz, frz_nil, ownOp, wc_app, wcont_s, upd_app, ev_tmp, ev_const, av_int, x_move, x_assign, x_bin, x_len, holdsO_ofO, bin_sub, ↓reduceIte, Nat.reduceEqDiff, Option.getD_some, Bool.not_false, enP, f3, ln22.2, hlast2]
          refine awp_draw (by kernel_rfl) ?_
          simp -implicitDefEqProofs only [List.getElem?_cons_zero, List.getElem?_cons_succ, dc_app, dcont_s, DD_one, DD_guardE, GY_some, GD_tt, y_move, y_load, y_bin, y_fieldAddr, y_indexAddr, gdstO, none_md, upd_app, ev_tmp, ev_const, av_int, x_load, x_bin, x_fieldAddr, x_indexAddr, holdsO_ofO, bin_leq, bin_geq, ↓reduceIte, Nat.reduceEqDiff, Nat.add_zero, Nat.zero_add, Option.getD_some, enP, ix22, fa33_0, fa33_1, dpos, ld7, encR0, f3, ix_own ho hil, lhi]
          refine GD_mid (fun F H' => F 81 = .bool (glue t r) ∧ F 4 = .own b 0 (cur.length - 1) ∧ F 3 = .own o 0 (init ++ [t]).length ∧ F 7 = .ptr (List.length H2) 0 0 ∧ F 8 = .int .i64 (init.length : Nat) ∧ H' = H3) ?_ ?_
          · refine GD_of (fun ha => ?_) (fun ha => ?_)
            · simp -implicitDefEqProofs only [List.getElem?_cons_zero, List.getElem?_cons_succ, dc_app, dcont_s, DD_nil, DD_one, DD_guardE, GY_some, GD_tt, GD_ft, y_pick, gdstO, none_md, upd_app, aput, ev_tmp, ev_const, av_bool, x_pick, pick_t, ↓reduceIte, Nat.reduceEqDiff, Option.getD_some, ha, f3]
              exact ⟨by unfold glue; rw [ha]; rfl, trivial, trivial, trivial, trivial, trivial⟩
            · simp -implicitDefEqProofs only [List.getElem?_cons_zero, List.getElem?_cons_succ, dc_app, dcont_s, DD_nil, DD_one, DD_guardE, GY_some, GD_tt, GD_ff, y_move, y_pick, y_load, y_bin, y_fieldAddr, y_indexAddr, gdstO, none_md, upd_app, ev_tmp, ev_const, av_int, av_bool, x_pick, pick_t, pick_f, x_load, x_bin, x_fieldAddr, x_indexAddr, holdsO_ofO, bin_sub, bin_eql, ↓reduceIte, Nat.reduceEqDiff, Nat.add_zero, Nat.zero_add, Option.getD_some, enP, ix22, fa33_0, fa33_1, ha, ld7, encR0, f3, ix_own ho hil, lhi]
              exact ⟨by unfold glue; rw [ha]; rfl, trivial, trivial, trivial, trivial, trivial⟩
          clear f3 f4 f5 f6
          rintro F H' ⟨f81, f4, f3, f7, f8, rfl⟩
          simp -implicitDefEqProofs only [List.getElem?_cons_zero, List.getElem?_cons_succ, awp_cond, seqQ_n, ev_tmp, f81]
          refine cond_of (fun hgl => ?_) (fun hgl => ?_)
          · have st : ∀ v : Int, aStore Tryd.prog H' 3 (.ptr o init.length 1) (.int .i64 v) = some (H'.set o (.live 2 ((init ++ [Rng.mk t.lo v]).map encR))) := by
              intro v
              have h2 := store_row (P := Tryd.prog) (t := 3) (j := 1) (v := .int .i64 v) (cs := [.int .i64 v]) rfl sz3 ho erow (by simp [encR])
              have h3 : ((init ++ [t]).map encR).set init.length (splice (encR t) 1 [.int .i64 v]) = (init ++ [Rng.mk t.lo v]).map encR := by simp [encR, splice]
              rw [h2, h3]
            refine awp_draw (by kernel_rfl) ?_
            simp -implicitDefEqProofs only [List.getElem?_cons_zero, List.getElem?_cons_succ, dc_app, dcont_s, dcont_n, DD_nil, DD_one, y_move, y_load, y_store, y_fieldAddr, y_indexAddr, y_builtin, blk_n, rnd_n, none_md, upd_app, ev_tmp, x_load, x_store, x_fieldAddr, x_indexAddr, x_max, holdsO_ofO, holdsO_ofS, max_ii, ↓reduceIte, Nat.reduceEqDiff, Nat.zero_add, Option.getD_some, enP, ix22, fa33_1, f3, f7, f8, ix_own ho hil, lhi, ld7, encR1, st]
            refine ⟨cur.length - 1, by omega, dn ++ [r], nx, b, by omega, hst, hex3.set ho1 _, ?_, ?_⟩
            · rw [f4]; exact hsrc3 (get_set_ne ht3 ho2.symm)
            · rw [hft]
              have hj : join (init ++ [t]) r = init ++ [⟨t.lo, max t.hi r.hi⟩] := by simp [join, hgl]
              rw [hj]
              exact .inr ⟨by simp, o, ho1, ho2, by simp, get_set_eq ho⟩
          · have h1 : ([encR r] : List (List AV)) ≠ [] := by simp
            have ld77 : aLoad Tryd.prog H' 33 (.ptr (List.length H2) 0 0) = some (.agg (encR r)) := by rw [load_rowA ag33 sz33 hrr rfl (Nat.le_refl 2)]; rfl
            have hc1 : conts H' (.own o 0 (init ++ [t]).length) = some (2, (init ++ [t]).map encR) := by
              rw [conts_own ho (by simp), List.drop_zero, List.take_of_length_le (by simp)]
            simp -implicitDefEqProofs only [List.getElem?_cons_zero, List.getElem?_cons_succ, evp_nil, evp_cons, awp_reg, blk_n, rnd_n, WW_one, WW_nil, none_md, none_fz, frz_nil, ownOp, wc_app, wcont_s, upd_app, ev_tmp, x_move, x_assign, x_buildSlice, x_load, x_append, holdsO_some, holdsO_ofO, ↓reduceIte, Nat.reduceEqDiff, Option.getD_some, Bool.not_false, enP, ld77, f3, f7, bs22_1, app_own ud22 sz33 zs22 by22 hc1 (conts_sl H' .full 2 [encR r]) h1 (room_of (by simp at hol0 ⊢; omega) (by omega))]
            refine ⟨cur.length - 1, by omega, dn ++ [r], nx, b, by omega, hst, (hex3.set ho1 _).app _, ?_, ?_⟩
            · rw [f4]; exact hsrc3 (below_get (get_set_ne ht3 ho2.symm))
            · rw [hft]
              have hj : join (init ++ [t]) r = (init ++ [t]) ++ [r] := by simp [join, hgl]
              rw [hj]
              exact .inr ⟨by simp, H'.length, by have := hex3.le; omega, by omega, by simp, by simp⟩
  · have hn : cur = [] := by simpa using hc
    subst hn
    rw [hsel.done] at hout
    simp -implicitDefEqProofs only [List.getElem?_cons_zero, List.getElem?_cons_succ, awp_seq, awp_reg, awp_ret, awp_exit, seqQ_n, seqQ_e, blk_e, rnd_e, end_r, WW_one, WW_nil, none_md, none_fz, frz_nil, ownOp, wc_app, wcont_s, upd_app, ev_tmp, x_move, x_assign, ↓reduceIte, Nat.reduceEqDiff, Option.getD_some, Bool.not_false]
    exact ⟨hex, b, hout⟩
end Go.Proofs.YtpdohkcjhphibaaDoor.Bins
