/- Contracts of Same, of the two checks of a list of ranges, of the two common-number tests; no condition. -/
import Derived.Test.YtpdohkcjhphibaaDoorB1
set_option linter.unusedVariables false
set_option linter.unusedSimpArgs false
namespace Go.Proofs.YtpdohkcjhphibaaDoor.Bins
open Go Go.Proofs.YtpdohkcjhphibaaDoor.Sm

theorem neq33 (r s : Rng) : aBin Tryd.prog 33 .neq (.agg (encR r)) (.agg (encR s)) = some (.bool (!decide (r = s))) := by
  have h : aBin Tryd.prog 33 .neq (.agg (encR r)) (.agg (encR s)) = some (.bool (!((r.lo == s.lo) && ((r.hi == s.hi) && true)))) := by kernel_rfl
  rw [h]
  cases r; cases s
  simp only [Rng.mk.injEq, Bool.and_true]
  congr 3
  rw [Bool.eq_iff_iff]; simp

theorem drop_eq {α : Type} [DecidableEq α] {xs ys : List α} {k : Nat} (hx : k < xs.length) (hy : k < ys.length) : decide (xs.drop k = ys.drop k) = (decide (xs[k] = ys[k]) && decide (xs.drop (k+1) = ys.drop (k+1))) := by
  rw [List.drop_eq_getElem_cons hx, List.drop_eq_getElem_cons hy, Bool.eq_iff_iff]
  simp only [decide_eq_true_eq, Bool.and_eq_true, List.cons.injEq]

theorem same_ref (G : Nat → AV) (xs ys : List Rng) (m m' : SM) (h : Hp) (hl : xs.length ≤ 1099511627776) :
    PCall (En G) 11 [.sl m 2 (xs.map encR), .sl m' 2 (ys.map encR)] h (.bool (decide (xs = ys))) := by
  refine acalls_of (H := Hint.none) (enM G) Tryd.func11 rfl (by kernel_rfl) (by kernel_rfl) (Nat.le_of_ble_eq_true (by kernel_rfl)) ?_
  show awp _ _ _ _ _ (endQ _ [.tmp 4] _)
  simp -implicitDefEqProofs only [List.getElem?_cons_zero, List.getElem?_cons_succ, awp_seq, awp_reg, awp_cond, seqQ_n, WW_one, WW_nil, none_md, none_fz, frz_nil, ownOp, wc_app, wcont_s, upd_app, ev_tmp, ev_const, av_bool, x_move, x_assign, x_bin, x_len, holdsO_ofO, bin_neq, frameOf_zero, frameOf_succ, ↓reduceIte, Nat.reduceEqDiff, Option.getD_some, Bool.not_false, enP, ln22, List.length_map]
  refine cond_of (fun hc => ?_) (fun hc => ?_)
  · simp -implicitDefEqProofs only [List.getElem?_cons_zero, List.getElem?_cons_succ, awp_seq, awp_reg, awp_ret, seqQ_n, seqQ_r, end_r, WW_one, WW_nil, none_md, none_fz, frz_nil, ownOp, wc_app, wcont_s, upd_app, ev_const, av_bool, x_assign, ↓reduceIte, Option.getD_some, Bool.not_false]
    have : xs ≠ ys := by intro e; subst e; simp at hc
    exact ⟨by simp [this], trivial⟩
  simp -implicitDefEqProofs only [List.getElem?_cons_zero, List.getElem?_cons_succ, awp_seq, awp_block, awp_reg, awp_skip, seqQ_n, WW_one, WW_nil, none_md, none_fz, frz_nil, ownOp, wc_app, wcont_s, ev_const, av_int, x_assign, Option.getD_some, Bool.not_false]
  have hxy : xs.length = ys.length := by simp at hc; omega
  refine awp_loop (fun n F H => ∃ k, n + k = xs.length ∧ F 0 = .sl m 2 (xs.map encR) ∧ F 1 = .sl m' 2 (ys.map encR) ∧ F 5 = .int .i64 (k : Nat) ∧ H = h ∧ decide (xs = ys) = decide (xs.drop k = ys.drop k)) xs.length ⟨0, by simp, rfl, rfl, rfl, rfl, rfl⟩ ?_
  rintro n F H ⟨k, hk, f0, f1, f5, rfl, hin⟩
  simp -implicitDefEqProofs only [List.getElem?_cons_zero, List.getElem?_cons_succ, awp_seq, awp_reg, awp_cond, seqQ_n, WW_one, WW_nil, none_md, none_fz, frz_nil, ownOp, wc_app, wcont_s, upd_app, ev_tmp, x_move, x_bin, x_len, holdsO_ofO, bin_lss, ↓reduceIte, Nat.reduceEqDiff, Option.getD_some, Bool.not_false, enP, ln22, f0, f5, List.length_map]
  refine cond_of (fun hc => ?_) (fun hc => ?_)
  · have hc' : k < xs.length := by simpa using hc
    have hcy : k < ys.length := by omega
    simp -implicitDefEqProofs only [List.getElem?_cons_zero, List.getElem?_cons_succ, awp_seq, awp_block, awp_skip, seqQ_n]
    refine awp_draw (by kernel_rfl) ?_
    simp -implicitDefEqProofs only [List.getElem?_cons_zero, List.getElem?_cons_succ, dc_app, dcont_s, DD_nil, DD_one, y_move, y_load, y_bin, y_indexAddr, awp_cond, seqQ_n, none_md, upd_app, ev_tmp, x_load, x_bin, x_indexAddr, holdsO_ofO, ↓reduceIte, Nat.reduceEqDiff, Option.getD_some, enP, ix22, f0, f1, f5, ix_map hc', ix_map hcy, load_mapA ag33 sz33 encR_len hc', load_mapA ag33 sz33 encR_len hcy, neq33]
    rw [drop_eq hc' hcy] at hin
    refine cond_of (fun hb => ?_) (fun hb => ?_)
    · simp -implicitDefEqProofs only [List.getElem?_cons_zero, List.getElem?_cons_succ, awp_seq, awp_reg, awp_ret, seqQ_n, seqQ_r, blk_r, rnd_r, end_r, WW_one, WW_nil, none_md, none_fz, frz_nil, ownOp, wc_app, wcont_s, upd_app, ev_const, av_bool, x_assign, ↓reduceIte, Option.getD_some, Bool.not_false]
      rw [hin]
      exact ⟨by simp at hb; simp [hb], trivial⟩
    · simp -implicitDefEqProofs only [List.getElem?_cons_zero, List.getElem?_cons_succ, awp_reg, awp_skip, seqQ_n, blk_n, rnd_n, WW_one, WW_nil, none_md, none_fz, frz_nil, ownOp, wc_app, wcont_s, upd_app, ev_tmp, ev_const, av_int, x_move, x_assign, x_bin, holdsO_ofO, bin_add, ↓reduceIte, Nat.reduceEqDiff, Option.getD_some, Bool.not_false, enP, f5, wrap_succ (show k < 9223372036854775807 by omega)]
      refine ⟨n - 1, by omega, k + 1, by omega, f0, f1, rfl, trivial, ?_⟩
      rw [hin]
      simp at hb
      simp [hb]
  · have hc' : ¬ k < xs.length := by simpa using hc
    simp -implicitDefEqProofs only [List.getElem?_cons_zero, List.getElem?_cons_succ, awp_seq, awp_reg, awp_ret, awp_exit, seqQ_n, seqQ_e, blk_e, rnd_e, end_r, WW_one, WW_nil, none_md, none_fz, frz_nil, ownOp, wc_app, wcont_s, upd_app, ev_const, av_bool, x_assign, ↓reduceIte, Option.getD_some, Bool.not_false]
    refine ⟨?_, trivial⟩
    rw [hin, List.drop_eq_nil_of_le (by omega), List.drop_eq_nil_of_le (by omega)]; simp

/-- the error of a list of ranges: 0, 1 or 2 -/
def bad (r : Rng) : Bool := decide (r.lo < 0) || decide (r.lo > r.hi) || decide (r.hi > 65535)
def rangesE (xs : List Rng) : Int := if xs.length > 64 then 2 else if xs.any bad then 1 else 0

theorem rangesE_big {xs : List Rng} (h : xs.length > 64) : rangesE xs = 2 := by simp [rangesE, h]
theorem rangesE_bad {xs : List Rng} (h : ¬ xs.length > 64) (hb : xs.any bad = true) : rangesE xs = 1 := by simp [rangesE, h, hb]
theorem rangesE_ok {xs : List Rng} (h : ¬ xs.length > 64) (hb : xs.any bad = false) : rangesE xs = 0 := by simp [rangesE, h, hb]

theorem al33 (h : Hp) : aAlloc Tryd.prog h 33 = some (.ptr h.length 0 0, h ++ [.live 2 [[.int .i64 0, .int .i64 0]]]) := alloc_of (row := [.int .i64 0, .int .i64 0]) (by kernel_rfl)
theorem st33 (h : Hp) (r : Rng) (row : List AV) (hr : row.length = 2) : aStore Tryd.prog (h ++ [.live 2 [row]]) 33 (.ptr h.length 0 0) (.agg (encR r)) = some (h ++ [.live 2 [encR r]]) := by
  rw [store_top (cs := encR r) rfl sz33 (by simp [hr, encR])]
  simp [splice, hr, encR]

theorem ranges_prog (G : Nat → AV) (xs : List Rng) (m : SM) (h : Hp) (hl : xs.length ≤ 1099511627776) :
    PCall (En G) 39 [.sl m 2 (xs.map encR)] h (.int .i64 (rangesE xs)) := by
  refine ACalls.pure0 rfl ?_
  refine acalls_of (H := Hint.none) (enM G) Tryd.func39 rfl (by kernel_rfl) (by kernel_rfl) (Nat.le_of_ble_eq_true (by kernel_rfl)) ?_
  show awp _ _ _ _ _ (endQ _ [.tmp 2] _)
  simp -implicitDefEqProofs only [List.getElem?_cons_zero, List.getElem?_cons_succ, awp_seq, awp_reg, awp_cond, seqQ_n, WW_one, WW_nil, none_md, none_fz, frz_nil, ownOp, wc_app, wcont_s, upd_app, ev_tmp, ev_const, av_int, x_move, x_assign, x_bin, x_len, holdsO_ofO, bin_gtr, frameOf_zero, ↓reduceIte, Nat.reduceEqDiff, Option.getD_some, Bool.not_false, enP, ln22, List.length_map]
  refine cond_of (fun hc => ?_) (fun hc => ?_)
  · simp -implicitDefEqProofs only [List.getElem?_cons_zero, List.getElem?_cons_succ, awp_seq, awp_reg, awp_ret, seqQ_n, seqQ_r, end_r, WW_one, WW_nil, none_md, none_fz, frz_nil, ownOp, wc_app, wcont_s, upd_app, ev_const, av_int, x_assign, ↓reduceIte, Option.getD_some, Bool.not_false]
    exact ⟨by rw [rangesE_big (by simp at hc; omega)], [], by simp⟩
  simp -implicitDefEqProofs only [List.getElem?_cons_zero, List.getElem?_cons_succ, awp_seq, awp_block, awp_reg, awp_skip, seqQ_n, WW_one, WW_nil, none_md, none_fz, frz_nil, ownOp, wc_app, wcont_s, upd_app, ev_tmp, ev_const, av_int, x_move, x_len, holdsO_ofO, frameOf_zero, ↓reduceIte, Nat.reduceEqDiff, Option.getD_some, Bool.not_false, enP, ln22, List.length_map]
  have h64 : ¬ xs.length > 64 := by simp at hc; omega
  refine awp_loop (fun n F H => ∃ k, n + k = xs.length ∧ F 8 = .sl m 2 (xs.map encR) ∧ F 9 = .int .i64 xs.length ∧ F 10 = .int .i64 (k : Nat) ∧ (∃ x, H = h ++ x) ∧ xs.any bad = (xs.drop k).any bad) xs.length ⟨0, by simp, rfl, rfl, rfl, ⟨[], by simp⟩, rfl⟩ ?_
  rintro n F H ⟨k, hk, f8, f9, f10, ⟨x, rfl⟩, hin⟩
  simp -implicitDefEqProofs only [List.getElem?_cons_zero, List.getElem?_cons_succ, awp_seq, awp_reg, awp_cond, seqQ_n, WW_one, WW_nil, none_md, none_fz, frz_nil, ownOp, wc_app, wcont_s, upd_app, ev_tmp, x_bin, holdsO_ofO, bin_lss, ↓reduceIte, Option.getD_some, Bool.not_false, enP, f9, f10]
  refine cond_of (fun hc => ?_) (fun hc => ?_)
  · have hc' : k < xs.length := by simpa using hc
    have hs := any_step bad xs k hc'
    simp -implicitDefEqProofs only [List.getElem?_cons_zero, List.getElem?_cons_succ, awp_seq, awp_block, awp_reg, awp_skip, seqQ_n, WW_one, WW_nil, WW_guardE, GX_some, gdstO, none_md, none_fz, frz_nil, ownOp, wc_app, wcont_s, wcont_n, upd_app, ev_tmp, ev_const, av_int, x_move, x_alloc, x_load, x_store, x_bin, x_fieldAddr, x_indexAddr, holdsO_some, holdsO_ofO, holdsO_ofS, bin_lss, ↓reduceIte, Nat.reduceEqDiff, Nat.add_zero, Option.getD_some, Bool.not_false, enP, ix22, fa33_0, f8, f10, ix_map hc', load_mapA ag33 sz33 encR_len hc', al33, st33 _ _ [.int .i64 0, .int .i64 0] rfl, load_last ag3, encR0]
    rw [hs] at hin
    have fin : bad xs[k] = true → rangesE xs = 1 := fun hb => rangesE_bad h64 (by rw [hin, hb]; rfl)
    have nxt : bad xs[k] = false → xs.any bad = (xs.drop (k+1)).any bad := fun hb => by rw [hin, hb]; rfl
    refine G1_of (fun ha => ?_) (fun ha => ?_)
    · simp -implicitDefEqProofs only [List.getElem?_cons_zero, List.getElem?_cons_succ, awp_seq, awp_reg, awp_ret, awp_cond, seqQ_n, seqQ_r, blk_r, rnd_r, end_r, cond_t, WW_one, WW_nil, WW_guardE, GX_some, gdstO, G1_ft, none_md, none_fz, frz_nil, ownOp, wc_app, wcont_s, upd_app, aput, ev_tmp, ev_const, av_int, av_bool, x_move, x_assign, x_pick, pick_t, ↓reduceIte, Nat.reduceEqDiff, Option.getD_some, Bool.not_false, ha]
      exact ⟨by rw [fin (by unfold bad; rw [ha]; rfl)], _, by rw [List.append_assoc]⟩
    simp -implicitDefEqProofs only [List.getElem?_cons_zero, List.getElem?_cons_succ, WW_one, WW_guardE, GX_some, gdstO, G1_ff, none_md, none_fz, frz_nil, ownOp, wc_app, wcont_s, upd_app, ev_tmp, ev_const, av_bool, x_move, x_pick, pick_f, x_load, x_bin, x_fieldAddr, holdsO_ofO, bin_gtr, ↓reduceIte, Nat.reduceEqDiff, Nat.add_zero, Nat.zero_add, Option.getD_some, Bool.not_false, enP, fa33_0, fa33_1, ha, load_last ag3, encR0, encR1]
    refine G1_of (fun hb => ?_) (fun hb => ?_)
    · simp -implicitDefEqProofs only [List.getElem?_cons_zero, List.getElem?_cons_succ, awp_seq, awp_reg, awp_ret, awp_cond, seqQ_n, seqQ_r, blk_r, rnd_r, end_r, cond_t, WW_one, WW_nil, WW_guardE, GX_some, gdstO, G1_ft, none_md, none_fz, frz_nil, ownOp, wc_app, wcont_s, upd_app, aput, ev_tmp, ev_const, av_int, av_bool, x_assign, x_pick, pick_t, ↓reduceIte, Nat.reduceEqDiff, Option.getD_some, Bool.not_false, hb]
      exact ⟨by rw [fin (by unfold bad; rw [hb]; simp)], _, by rw [List.append_assoc]⟩
    simp -implicitDefEqProofs only [List.getElem?_cons_zero, List.getElem?_cons_succ, awp_cond, seqQ_n, WW_one, WW_nil, WW_guardE, GX_some, gdstO, G1_ff, none_md, none_fz, frz_nil, ownOp, wc_app, wcont_s, upd_app, ev_tmp, ev_const, av_int, av_bool, x_pick, pick_f, x_load, x_bin, x_fieldAddr, holdsO_ofO, bin_gtr, ↓reduceIte, Nat.reduceEqDiff, Nat.zero_add, Option.getD_some, Bool.not_false, enP, fa33_1, hb, load_last ag3, encR1]
    refine cond_of (fun hc => ?_) (fun hc => ?_)
    · simp -implicitDefEqProofs only [List.getElem?_cons_zero, List.getElem?_cons_succ, awp_seq, awp_reg, awp_ret, seqQ_n, seqQ_r, blk_r, rnd_r, end_r, WW_one, WW_nil, none_md, none_fz, frz_nil, ownOp, wc_app, wcont_s, upd_app, ev_const, av_int, x_assign, ↓reduceIte, Option.getD_some, Bool.not_false]
      exact ⟨by rw [fin (by unfold bad; rw [hc]; simp)], _, by rw [List.append_assoc]⟩
    · simp -implicitDefEqProofs only [List.getElem?_cons_zero, List.getElem?_cons_succ, awp_reg, awp_skip, seqQ_n, blk_n, rnd_n, WW_one, WW_nil, none_md, none_fz, frz_nil, ownOp, wc_app, wcont_s, upd_app, ev_tmp, ev_const, av_int, x_move, x_bin, holdsO_ofO, bin_add, ↓reduceIte, Nat.reduceEqDiff, Option.getD_some, Bool.not_false, enP, f10, wrap_succ (show k < 9223372036854775807 by omega)]
      exact ⟨n - 1, by omega, k + 1, by omega, f8, f9, rfl, ⟨_, by rw [List.append_assoc]⟩, nxt (by unfold bad; rw [ha, hb, hc]; rfl)⟩
  · have hc' : ¬ k < xs.length := by simpa using hc
    simp -implicitDefEqProofs only [List.getElem?_cons_zero, List.getElem?_cons_succ, awp_seq, awp_reg, awp_ret, awp_exit, seqQ_n, seqQ_e, blk_e, rnd_e, end_r, WW_one, WW_nil, none_md, none_fz, frz_nil, ownOp, wc_app, wcont_s, upd_app, ev_const, av_int, x_assign, ↓reduceIte, Option.getD_some, Bool.not_false]
    rw [List.drop_eq_nil_of_le (by omega)] at hin
    exact ⟨by rw [rangesE_ok h64 hin], _, rfl⟩

theorem ranges_ref (G : Nat → AV) (xs : List Rng) (m : SM) (h : Hp) :
    PCall (En G) 41 [.sl m 2 (xs.map encR)] h (.int .i64 (rangesE xs)) := by
  refine acalls_of (H := Hint.none) (enM G) Tryd.func41 rfl (by kernel_rfl) (by kernel_rfl) (Nat.le_of_ble_eq_true (by kernel_rfl)) ?_
  show awp _ _ _ _ _ (endQ _ [.tmp 2] _)
  simp -implicitDefEqProofs only [List.getElem?_cons_zero, List.getElem?_cons_succ, awp_seq, awp_reg, awp_cond, seqQ_n, WW_one, WW_nil, none_md, none_fz, frz_nil, ownOp, wc_app, wcont_s, upd_app, ev_tmp, ev_const, av_int, x_move, x_assign, x_bin, x_len, holdsO_ofO, bin_gtr, frameOf_zero, ↓reduceIte, Nat.reduceEqDiff, Option.getD_some, Bool.not_false, enP, ln22, List.length_map]
  refine cond_of (fun hc => ?_) (fun hc => ?_)
  · simp -implicitDefEqProofs only [List.getElem?_cons_zero, List.getElem?_cons_succ, awp_seq, awp_reg, awp_ret, seqQ_n, seqQ_r, end_r, WW_one, WW_nil, none_md, none_fz, frz_nil, ownOp, wc_app, wcont_s, upd_app, ev_const, av_int, x_assign, ↓reduceIte, Option.getD_some, Bool.not_false]
    exact ⟨by rw [rangesE_big (by simp at hc; omega)], trivial⟩
  simp -implicitDefEqProofs only [List.getElem?_cons_zero, List.getElem?_cons_succ, awp_seq, awp_block, awp_reg, awp_skip, seqQ_n, WW_one, WW_nil, none_md, none_fz, frz_nil, ownOp, wc_app, wcont_s, ev_const, av_int, x_assign, Option.getD_some, Bool.not_false]
  have h64 : ¬ xs.length > 64 := by simp at hc; omega
  refine awp_loop (fun n F H => ∃ k, n + k = xs.length ∧ F 0 = .sl m 2 (xs.map encR) ∧ F 3 = .int .i64 (k : Nat) ∧ H = h ∧ xs.any bad = (xs.drop k).any bad) xs.length ⟨0, by simp, rfl, rfl, rfl, rfl⟩ ?_
  rintro n F H ⟨k, hk, f0, f3, rfl, hin⟩
  simp -implicitDefEqProofs only [List.getElem?_cons_zero, List.getElem?_cons_succ, awp_seq, awp_reg, awp_cond, seqQ_n, WW_one, WW_nil, none_md, none_fz, frz_nil, ownOp, wc_app, wcont_s, upd_app, ev_tmp, x_move, x_bin, x_len, holdsO_ofO, bin_lss, ↓reduceIte, Nat.reduceEqDiff, Option.getD_some, Bool.not_false, enP, ln22, f0, f3, List.length_map]
  refine cond_of (fun hc => ?_) (fun hc => ?_)
  · have hc' : k < xs.length := by simpa using hc
    rw [any_step bad xs k hc'] at hin
    have fin : bad xs[k] = true → rangesE xs = 1 := fun hb => rangesE_bad h64 (by rw [hin, hb]; rfl)
    have nxt : bad xs[k] = false → xs.any bad = (xs.drop (k+1)).any bad := fun hb => by rw [hin, hb]; rfl
    simp -implicitDefEqProofs only [List.getElem?_cons_zero, List.getElem?_cons_succ, awp_seq, awp_block, awp_skip, seqQ_n]
    refine awp_draw (by kernel_rfl) ?_
    simp -implicitDefEqProofs only [List.getElem?_cons_zero, List.getElem?_cons_succ, dc_app, dcont_s, DD_one, DD_guardE, GY_some, y_move, y_load, y_bin, y_fieldAddr, y_indexAddr, gdstO, none_md, upd_app, ev_tmp, ev_const, av_int, x_load, x_bin, x_fieldAddr, x_indexAddr, holdsO_ofO, bin_lss, ↓reduceIte, Nat.reduceEqDiff, Nat.add_zero, Option.getD_some, enP, ix22, fa33_0, f0, f3, ix_map hc', load_map ag3 hc', encR0]
    refine GD_of (fun ha => ?_) (fun ha => ?_)
    · simp -implicitDefEqProofs only [List.getElem?_cons_zero, List.getElem?_cons_succ, dc_app, dcont_s, DD_nil, DD_one, DD_guardE, GY_some, GD_ft, y_move, y_pick, awp_seq, awp_reg, awp_ret, awp_cond, seqQ_n, seqQ_r, blk_r, rnd_r, end_r, cond_t, WW_one, WW_nil, gdstO, none_md, none_fz, frz_nil, ownOp, wc_app, wcont_s, upd_app, aput, ev_tmp, ev_const, av_int, av_bool, x_assign, x_pick, pick_t, ↓reduceIte, Nat.reduceEqDiff, Option.getD_some, Bool.not_false, ha]
      exact ⟨by rw [fin (by unfold bad; rw [ha]; rfl)], trivial⟩
    simp -implicitDefEqProofs only [List.getElem?_cons_zero, List.getElem?_cons_succ, dc_app, dcont_s, DD_one, DD_guardE, GY_some, GD_ff, y_move, y_pick, y_load, y_bin, y_fieldAddr, y_indexAddr, gdstO, none_md, upd_app, ev_tmp, ev_const, av_bool, x_pick, pick_f, x_load, x_bin, x_fieldAddr, x_indexAddr, holdsO_ofO, bin_gtr, ↓reduceIte, Nat.reduceEqDiff, Nat.add_zero, Nat.zero_add, Option.getD_some, enP, ix22, fa33_0, fa33_1, ha, f0, f3, ix_map hc', load_map ag3 hc', encR0, encR1]
    refine GD_of (fun hb => ?_) (fun hb => ?_)
    · simp -implicitDefEqProofs only [List.getElem?_cons_zero, List.getElem?_cons_succ, dc_app, dcont_s, DD_nil, DD_one, DD_guardE, GY_some, GD_ft, y_pick, awp_seq, awp_reg, awp_ret, awp_cond, seqQ_n, seqQ_r, blk_r, rnd_r, end_r, cond_t, WW_one, WW_nil, gdstO, none_md, none_fz, frz_nil, ownOp, wc_app, wcont_s, upd_app, aput, ev_tmp, ev_const, av_int, av_bool, x_assign, x_pick, pick_t, ↓reduceIte, Nat.reduceEqDiff, Option.getD_some, Bool.not_false, hb]
      exact ⟨by rw [fin (by unfold bad; rw [hb]; simp)], trivial⟩
    simp -implicitDefEqProofs only [List.getElem?_cons_zero, List.getElem?_cons_succ, dc_app, dcont_s, DD_nil, DD_one, DD_guardE, GY_some, GD_ff, y_move, y_pick, y_load, y_bin, y_fieldAddr, y_indexAddr, awp_cond, seqQ_n, gdstO, none_md, upd_app, ev_tmp, ev_const, av_int, av_bool, x_pick, pick_f, x_load, x_bin, x_fieldAddr, x_indexAddr, holdsO_ofO, bin_gtr, ↓reduceIte, Nat.reduceEqDiff, Nat.zero_add, Option.getD_some, enP, ix22, fa33_1, hb, f0, f3, ix_map hc', load_map ag3 hc', encR1]
    refine cond_of (fun hc => ?_) (fun hc => ?_)
    · simp -implicitDefEqProofs only [List.getElem?_cons_zero, List.getElem?_cons_succ, awp_seq, awp_reg, awp_ret, seqQ_n, seqQ_r, blk_r, rnd_r, end_r, WW_one, WW_nil, none_md, none_fz, frz_nil, ownOp, wc_app, wcont_s, upd_app, ev_const, av_int, x_assign, ↓reduceIte, Option.getD_some, Bool.not_false]
      exact ⟨by rw [fin (by unfold bad; rw [hc]; simp)], trivial⟩
    · simp -implicitDefEqProofs only [List.getElem?_cons_zero, List.getElem?_cons_succ, awp_reg, awp_skip, seqQ_n, blk_n, rnd_n, WW_one, WW_nil, none_md, none_fz, frz_nil, ownOp, wc_app, wcont_s, upd_app, ev_tmp, ev_const, av_int, x_move, x_assign, x_bin, holdsO_ofO, bin_add, ↓reduceIte, Nat.reduceEqDiff, Option.getD_some, Bool.not_false, enP, f3, wrap_succ (show k < 9223372036854775807 by omega)]
      exact ⟨n - 1, by omega, k + 1, by omega, f0, rfl, trivial, nxt (by unfold bad; rw [ha, hb, hc]; rfl)⟩
  · have hc' : ¬ k < xs.length := by simpa using hc
    simp -implicitDefEqProofs only [List.getElem?_cons_zero, List.getElem?_cons_succ, awp_seq, awp_reg, awp_ret, awp_exit, seqQ_n, seqQ_e, blk_e, rnd_e, end_r, WW_one, WW_nil, none_md, none_fz, frz_nil, ownOp, wc_app, wcont_s, upd_app, ev_const, av_int, x_assign, ↓reduceIte, Option.getD_some, Bool.not_false]
    rw [List.drop_eq_nil_of_le (by omega)] at hin
    exact ⟨by rw [rangesE_ok h64 hin], trivial⟩
end Go.Proofs.YtpdohkcjhphibaaDoor.Bins
