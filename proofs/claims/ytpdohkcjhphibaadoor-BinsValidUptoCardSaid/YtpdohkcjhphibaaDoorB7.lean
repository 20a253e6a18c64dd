/- The contract of the reference's Valid; no condition. -/
import Derived.Test.YtpdohkcjhphibaaDoorB6
set_option linter.unusedVariables false
set_option linter.unusedSimpArgs false
namespace Go.Proofs.YtpdohkcjhphibaaDoor.Bins
open Go Go.Proofs.YtpdohkcjhphibaaDoor.Sm

theorem valid_ref (G : Nat → AV) (b : Bin) (hb : BinOk b) (h : Hp) : PCall (En G) 18 [.agg (encB b)] h (.int .i64 (validE b)) := by
  refine ACalls.pure0 rfl ?_
  refine acalls_of (H := Hint.none) (enM G) Tryd.func18 rfl (by kernel_rfl) (by kernel_rfl) (Nat.le_of_ble_eq_true (by kernel_rfl)) ?_
  show awp _ _ _ _ _ (endQ _ [.tmp 2] _)
  simp -implicitDefEqProofs only [List.getElem?_cons_zero, List.getElem?_cons_succ, awp_seq, awp_reg, seqQ_n, WW_one, WW_nil, none_md, none_fz, frz_nil, ownOp, wc_app, wcont_s, upd_app, ev_tmp, ev_const, ev_func, av_int, x_assign, x_box, x_load, x_fieldAddr, X1_call, callA_fn, holdsO_some, holdsO_ofO, frameOf_zero, List.map_cons, List.map_nil, List.append_nil, ↓reduceIte, Nat.reduceEqDiff, Nat.add_zero, Option.getD_some, Bool.not_false, enP, fa29_0, bxB, load_last ag9, encB0]
  refine (isName_ref G b.name _).use ?_
  simp -implicitDefEqProofs only [List.getElem?_cons_zero, List.getElem?_cons_succ, awp_cond, seqQ_n, WW_one, WW_nil, none_md, none_fz, frz_nil, ownOp, wc_app, wcont_s, upd_app, ev_tmp, x_un, holdsO_ofO, un_not, ↓reduceIte, Option.getD_some, Bool.not_false]
  refine cond_of (fun hn => ?_) (fun hn => ?_)
  · simp -implicitDefEqProofs only [List.getElem?_cons_zero, List.getElem?_cons_succ, awp_seq, awp_reg, awp_ret, seqQ_n, seqQ_r, end_r, WW_one, WW_nil, none_md, none_fz, frz_nil, ownOp, wc_app, wcont_s, upd_app, ev_const, av_int, x_assign, ↓reduceIte, Option.getD_some, Bool.not_false]
    exact ⟨by rw [validE_name (by simpa using hn)], _, rfl⟩
  have hn' : isName b.name = true := by simpa using hn
  simp -implicitDefEqProofs only [List.getElem?_cons_zero, List.getElem?_cons_succ, awp_seq, awp_reg, awp_skip, seqQ_n, WW_one, WW_guardE, GX_some, gdstO, none_md, none_fz, frz_nil, ownOp, wc_app, wcont_s, upd_app, ev_tmp, ev_const, av_int, x_move, x_load, x_bin, x_fieldAddr, holdsO_ofO, bin_lss, ↓reduceIte, Nat.reduceEqDiff, Nat.zero_add, Option.getD_some, Bool.not_false, enP, fa29_1, load_last ag3, encB1]
  refine G1_mid (fun F H => F 53 = .bool (refShape b) ∧ F 1 = .ptr h.length 0 0 ∧ H = h ++ [.live 4 [encB b]]) ?_ ?_
  · refine G1_of (fun ha => ?_) (fun ha => ?_)
    · simp -implicitDefEqProofs only [List.getElem?_cons_zero, List.getElem?_cons_succ, WW_one, WW_nil, WW_guardE, GX_some, gdstO, G1_ft, G1_u, none_md, none_fz, frz_nil, ownOp, wc_app, wcont_s, upd_app, aput, ev_tmp, ev_const, av_bool, x_move, x_pick, pick_t, ↓reduceIte, Nat.reduceEqDiff, Option.getD_some, Bool.not_false, ha]
      exact ⟨by unfold refShape; rw [ha]; rfl, trivial, trivial⟩
    simp -implicitDefEqProofs only [List.getElem?_cons_zero, List.getElem?_cons_succ, WW_one, WW_guardE, GX_some, gdstO, G1_ff, none_md, none_fz, frz_nil, ownOp, wc_app, wcont_s, upd_app, ev_tmp, ev_const, av_int, av_bool, x_move, x_pick, pick_f, x_load, x_bin, x_fieldAddr, holdsO_ofO, bin_gtr, ↓reduceIte, Nat.reduceEqDiff, Nat.zero_add, Option.getD_some, Bool.not_false, enP, fa29_1, ha, load_last ag3, encB1]
    refine G1_of (fun hb => ?_) (fun hb => ?_)
    · simp -implicitDefEqProofs only [List.getElem?_cons_zero, List.getElem?_cons_succ, WW_one, WW_nil, WW_guardE, GX_some, gdstO, G1_ft, G1_u, none_md, none_fz, frz_nil, ownOp, wc_app, wcont_s, upd_app, aput, ev_tmp, ev_const, av_bool, x_move, x_pick, pick_t, ↓reduceIte, Nat.reduceEqDiff, Option.getD_some, Bool.not_false, hb]
      exact ⟨by unfold refShape; rw [ha, hb]; rfl, trivial, trivial⟩
    simp -implicitDefEqProofs only [List.getElem?_cons_zero, List.getElem?_cons_succ, WW_one, WW_guardE, GX_some, gdstO, G1_ff, none_md, none_fz, frz_nil, ownOp, wc_app, wcont_s, upd_app, ev_tmp, ev_const, av_int, av_bool, x_move, x_pick, pick_f, x_load, x_bin, x_fieldAddr, x_len, holdsO_ofO, bin_gtr, ↓reduceIte, Nat.reduceEqDiff, Nat.zero_add, Option.getD_some, Bool.not_false, enP, be4, ln22, ln27, fa29_2, fa29_3, hb, load_last ag22, load_last ag27, encB2, encB3, List.length_map]
    refine G1_of (fun hc => ?_) (fun hc => ?_)
    · simp -implicitDefEqProofs only [List.getElem?_cons_zero, List.getElem?_cons_succ, WW_one, WW_nil, WW_guardE, GX_some, gdstO, G1_ft, G1_u, none_md, none_fz, frz_nil, ownOp, wc_app, wcont_s, upd_app, aput, ev_tmp, ev_const, av_bool, x_move, x_pick, pick_t, ↓reduceIte, Nat.reduceEqDiff, Option.getD_some, Bool.not_false, hc]
      exact ⟨by unfold refShape; rw [ha, hb, hc]; rfl, trivial, trivial⟩
    simp -implicitDefEqProofs only [List.getElem?_cons_zero, List.getElem?_cons_succ, WW_guardE, GX_some, gdstO, G1_ff, none_md, none_fz, frz_nil, ownOp, wc_app, wcont_s, upd_app, ev_tmp, ev_const, av_int, x_move, x_load, x_bin, x_fieldAddr, holdsO_ofO, bin_neq, ↓reduceIte, Nat.reduceEqDiff, Nat.zero_add, Option.getD_some, Bool.not_false, enP, fa29_1, hc, load_last ag3, encB1]
    refine G1_of (fun hd => ?_) (fun hd => ?_)
    · simp -implicitDefEqProofs only [List.getElem?_cons_zero, List.getElem?_cons_succ, WW_one, WW_guardE, GX_some, gdstO, G1_tt, G1_ff, none_md, none_fz, frz_nil, ownOp, wc_app, wcont_s, upd_app, ev_tmp, ev_const, av_int, av_bool, x_move, x_pick, pick_t, pick_f, x_load, x_bin, x_fieldAddr, x_len, holdsO_ofO, bin_gtr, ↓reduceIte, Nat.reduceEqDiff, Nat.zero_add, Option.getD_some, Bool.not_false, enP, ln27, fa29_3, hd, load_last ag27, encB3, List.length_map]
      refine G1_of (fun he => ?_) (fun he => ?_)
      · simp -implicitDefEqProofs only [List.getElem?_cons_zero, List.getElem?_cons_succ, WW_one, WW_nil, WW_guardE, GX_some, gdstO, G1_ft, none_md, none_fz, frz_nil, ownOp, wc_app, wcont_s, upd_app, aput, ev_tmp, ev_const, av_bool, x_move, x_pick, pick_t, ↓reduceIte, Nat.reduceEqDiff, Option.getD_some, Bool.not_false, he]
        exact ⟨by unfold refShape; rw [ha, hb, hc, hd, he]; rfl, trivial, trivial⟩
      simp -implicitDefEqProofs only [List.getElem?_cons_zero, List.getElem?_cons_succ, WW_one, WW_guardE, GX_some, gdstO, G1_ff, none_md, none_fz, frz_nil, ownOp, wc_app, wcont_s, upd_app, ev_tmp, ev_const, av_int, av_bool, x_move, x_pick, pick_f, x_load, x_bin, x_fieldAddr, x_len, holdsO_ofO, bin_eql, ↓reduceIte, Nat.reduceEqDiff, Nat.zero_add, Option.getD_some, Bool.not_false, enP, ln27, fa29_3, he, load_last ag27, encB3, List.length_map]
      refine G1_of (fun hf => ?_) (fun hf => ?_)
      · simp -implicitDefEqProofs only [List.getElem?_cons_zero, List.getElem?_cons_succ, WW_one, WW_nil, WW_guardE, GX_some, gdstO, G1_ft, none_md, none_fz, frz_nil, ownOp, wc_app, wcont_s, upd_app, aput, ev_tmp, ev_const, av_bool, x_pick, pick_t, ↓reduceIte, Nat.reduceEqDiff, Option.getD_some, Bool.not_false, hf]
        exact ⟨by unfold refShape; rw [ha, hb, hc, hd, he, hf]; rfl, trivial, trivial⟩
      · simp -implicitDefEqProofs only [List.getElem?_cons_zero, List.getElem?_cons_succ, WW_one, WW_nil, WW_guardE, GX_some, gdstO, G1_ff, none_md, none_fz, frz_nil, ownOp, wc_app, wcont_s, upd_app, ev_tmp, ev_const, av_int, av_bool, x_pick, pick_f, x_load, x_bin, x_fieldAddr, x_len, holdsO_ofO, bin_gtr, ↓reduceIte, Nat.reduceEqDiff, Nat.zero_add, Option.getD_some, Bool.not_false, enP, ln27, fa29_3, hf, load_last ag27, encB3, List.length_map]
        exact ⟨by unfold refShape; rw [ha, hb, hc, hd, he, hf]; rfl, trivial, trivial⟩
    · simp -implicitDefEqProofs only [List.getElem?_cons_zero, List.getElem?_cons_succ, WW_one, WW_guardE, GX_some, gdstO, G1_ff, G1_tf, none_md, none_fz, frz_nil, ownOp, wc_app, wcont_s, upd_app, aput, ev_tmp, ev_const, av_int, av_bool, x_move, x_pick, pick_f, x_load, x_bin, x_fieldAddr, x_len, holdsO_ofO, bin_eql, ↓reduceIte, Nat.reduceEqDiff, Nat.zero_add, Option.getD_some, Bool.not_false, enP, ln27, fa29_3, hd, load_last ag27, encB3, List.length_map]
      refine G1_of (fun hf => ?_) (fun hf => ?_)
      · simp -implicitDefEqProofs only [List.getElem?_cons_zero, List.getElem?_cons_succ, WW_one, WW_nil, WW_guardE, GX_some, gdstO, G1_ft, none_md, none_fz, frz_nil, ownOp, wc_app, wcont_s, upd_app, aput, ev_tmp, ev_const, av_bool, x_pick, pick_t, ↓reduceIte, Nat.reduceEqDiff, Option.getD_some, Bool.not_false, hf]
        exact ⟨by unfold refShape; rw [ha, hb, hc, hd, hf]; rfl, trivial, trivial⟩
      · simp -implicitDefEqProofs only [List.getElem?_cons_zero, List.getElem?_cons_succ, WW_one, WW_nil, WW_guardE, GX_some, gdstO, G1_ff, none_md, none_fz, frz_nil, ownOp, wc_app, wcont_s, upd_app, ev_tmp, ev_const, av_int, av_bool, x_pick, pick_f, x_load, x_bin, x_fieldAddr, x_len, holdsO_ofO, bin_gtr, ↓reduceIte, Nat.reduceEqDiff, Nat.zero_add, Option.getD_some, Bool.not_false, enP, ln27, fa29_3, hf, load_last ag27, encB3, List.length_map]
        exact ⟨by unfold refShape; rw [ha, hb, hc, hd, hf]; rfl, trivial, trivial⟩
  rintro F H ⟨f53, f1, rfl⟩
  simp -implicitDefEqProofs only [List.getElem?_cons_zero, List.getElem?_cons_succ, awp_cond, seqQ_n, ev_tmp, f53]
  refine cond_of (fun hs => ?_) (fun hs => ?_)
  · simp -implicitDefEqProofs only [List.getElem?_cons_zero, List.getElem?_cons_succ, awp_seq, awp_reg, awp_ret, seqQ_n, seqQ_r, end_r, WW_one, WW_nil, none_md, none_fz, frz_nil, ownOp, wc_app, wcont_s, upd_app, ev_const, av_int, x_assign, ↓reduceIte, Option.getD_some, Bool.not_false]
    exact ⟨by rw [validE_shape hn' hs], _, rfl⟩
  simp -implicitDefEqProofs only [List.getElem?_cons_zero, List.getElem?_cons_succ, awp_seq, awp_block, awp_reg, awp_skip, seqQ_n, WW_one, WW_nil, none_md, none_fz, frz_nil, ownOp, wc_app, wcont_s, ev_const, av_int, x_assign, Option.getD_some, Bool.not_false]
  refine awp_lp 0 (fun F H => F 1 = .ptr h.length 0 0 ∧ H = h ++ [.live 4 [encB b]] ∧ b.steps.any (fun l => decide (l.l.length = 0)) = false) (fun F H => F 2 = .int .i64 (validE b) ∧ H = h ++ [.live 4 [encB b]]) ?_ ?_ ?_
  · refine awp_loop (fun n F H => ∃ k, n + k = b.steps.length ∧ F 1 = .ptr h.length 0 0 ∧ F 3 = .int .i64 (k : Nat) ∧ H = h ++ [.live 4 [encB b]] ∧ (b.steps.take k).any (fun l => decide (l.l.length = 0)) = false) b.steps.length ⟨0, by simp, by simp -implicitDefEqProofs only [List.getElem?_cons_zero, List.getElem?_cons_succ, upd_app, ↓reduceIte, Nat.reduceEqDiff, f1], by simp -implicitDefEqProofs only [List.getElem?_cons_zero, List.getElem?_cons_succ, upd_app, ↓reduceIte]; rfl, rfl, rfl⟩ ?_
    rintro n F H ⟨k, hk, f1, f3, rfl, hin⟩
    simp -implicitDefEqProofs only [List.getElem?_cons_zero, List.getElem?_cons_succ, awp_seq, awp_reg, awp_cond, seqQ_n, WW_one, WW_nil, none_md, none_fz, frz_nil, ownOp, wc_app, wcont_s, upd_app, ev_tmp, x_move, x_load, x_bin, x_fieldAddr, x_len, holdsO_ofO, bin_lss, ↓reduceIte, Nat.reduceEqDiff, Nat.zero_add, Option.getD_some, Bool.not_false, enP, ln27, fa29_3, f1, f3, load_last ag27, encB3, List.length_map]
    refine cond_of (fun hc => ?_) (fun hc => ?_)
    · have hc' : k < b.steps.length := by simpa using hc
      have t0 := any_take (fun l : Rs => decide (l.l.length = 0)) b.steps k hc'
      simp -implicitDefEqProofs only [List.getElem?_cons_zero, List.getElem?_cons_succ, awp_seq, awp_block, awp_reg, awp_skip, awp_cond, seqQ_n, WW_one, WW_nil, none_md, none_fz, frz_nil, ownOp, wc_app, wcont_s, upd_app, ev_tmp, ev_const, av_int, x_move, x_load, x_bin, x_fieldAddr, x_indexAddr, x_len, holdsO_ofO, bin_eql, ↓reduceIte, Nat.reduceEqDiff, Nat.zero_add, Option.getD_some, Bool.not_false, enP, ln22, ix27, fa29_3, f1, f3, load_last ag27, encB3, ix_map hc', load_map ag22 hc', encS0, List.length_map]
      refine cond_of (fun hd => ?_) (fun hd => ?_)
      · simp -implicitDefEqProofs only [List.getElem?_cons_zero, List.getElem?_cons_succ, awp_seq, awp_reg, awp_ret, seqQ_n, seqQ_r, blk_r, lp_r, rnd_r, WW_one, WW_nil, none_md, none_fz, frz_nil, ownOp, wc_app, wcont_s, upd_app, ev_const, av_int, x_assign, ↓reduceIte, Option.getD_some, Bool.not_false]
        refine ⟨?_, trivial⟩
        have : b.steps.any (fun l => decide (l.l.length = 0)) = true := by
          rw [List.any_eq_true]
          exact ⟨b.steps[k], by simp, by simp at hd; simp [hd]⟩
        rw [validE_empty hn' this]
      · simp -implicitDefEqProofs only [List.getElem?_cons_zero, List.getElem?_cons_succ, awp_reg, awp_skip, seqQ_n, blk_n, rnd_n, WW_one, WW_nil, none_md, none_fz, frz_nil, ownOp, wc_app, wcont_s, upd_app, ev_tmp, ev_const, av_int, x_move, x_assign, x_bin, holdsO_ofO, bin_add, ↓reduceIte, Nat.reduceEqDiff, Option.getD_some, Bool.not_false, enP, f3, wrap_succ (show k < 9223372036854775807 by have := hb.steps; omega)]
        refine ⟨n - 1, by omega, k + 1, by omega, f1, rfl, trivial, ?_⟩
        rw [t0, hin]
        simp at hd
        simp [hd]
    · have hc' : ¬ k < b.steps.length := by simpa using hc
      simp -implicitDefEqProofs only [List.getElem?_cons_zero, List.getElem?_cons_succ, awp_exit, seqQ_e, lp_e, rnd_e, upd_app, ↓reduceIte, Nat.reduceEqDiff]
      rw [List.take_of_length_le (by omega)] at hin
      exact ⟨f1, trivial, hin⟩
  · rintro F H ⟨f1, rfl, he⟩
    have hs' : refShape b = false := by simpa using hs
    have hv := validE_sets hn' hs' he
    simp -implicitDefEqProofs only [List.getElem?_cons_zero, List.getElem?_cons_succ, awp_seq, awp_reg, seqQ_n, blk_e, WW_one, none_md, none_fz, frz_nil, ownOp, wc_app, wcont_s, upd_app, ev_tmp, ev_func, x_load, X1_call, callA_fn, holdsO_ofO, List.map_cons, List.map_nil, List.append_nil, ↓reduceIte, Option.getD_some, Bool.not_false, enP, f1, ldB]
    refine (sets_ref G b _).use ?_
    simp -implicitDefEqProofs only [List.getElem?_cons_zero, List.getElem?_cons_succ, awp_seq, awp_block, awp_reg, seqQ_n, WW_one, WW_nil, none_md, none_fz, frz_nil, ownOp, wc_app, wcont_s, upd_app, ev_tmp, ev_const, av_int, x_assign, ↓reduceIte, Option.getD_some, Bool.not_false]
    refine awp_lp 2 (fun F H => F 4 = .sl (setsM b) 1 ((sets b).map encS) ∧ H = h ++ [.live 4 [encB b]] ∧ (sets b).any (fun l => decide (l.l.length > 64)) = false) (fun F H => F 2 = .int .i64 (validE b) ∧ H = h ++ [.live 4 [encB b]]) ?_ ?_ ?_
    · refine awp_loop (fun n F H => ∃ k, n + k = (sets b).length ∧ F 4 = .sl (setsM b) 1 ((sets b).map encS) ∧ F 5 = .int .i64 (k : Nat) ∧ H = h ++ [.live 4 [encB b]] ∧ ((sets b).take k).any (fun l => decide (l.l.length > 64)) = false) (sets b).length ⟨0, by simp, by simp -implicitDefEqProofs only [List.getElem?_cons_zero, List.getElem?_cons_succ, upd_app, ↓reduceIte, Nat.reduceEqDiff], by simp -implicitDefEqProofs only [List.getElem?_cons_zero, List.getElem?_cons_succ, upd_app, ↓reduceIte]; rfl, rfl, rfl⟩ ?_
      rintro n F H ⟨k, hk, f4, f5, rfl, hin⟩
      simp -implicitDefEqProofs only [List.getElem?_cons_zero, List.getElem?_cons_succ, awp_seq, awp_reg, awp_cond, seqQ_n, WW_one, WW_nil, none_md, none_fz, frz_nil, ownOp, wc_app, wcont_s, upd_app, ev_tmp, x_move, x_bin, x_len, holdsO_ofO, bin_lss, ↓reduceIte, Nat.reduceEqDiff, Option.getD_some, Bool.not_false, enP, ln27, f4, f5, List.length_map]
      refine cond_of (fun hc => ?_) (fun hc => ?_)
      · have hc' : k < (sets b).length := by simpa using hc
        have t0 := any_take (fun l : Rs => decide (l.l.length > 64)) (sets b) k hc'
        simp -implicitDefEqProofs only [List.getElem?_cons_zero, List.getElem?_cons_succ, awp_seq, awp_block, awp_reg, awp_skip, awp_cond, seqQ_n, WW_one, WW_nil, none_md, none_fz, frz_nil, ownOp, wc_app, wcont_s, upd_app, ev_tmp, ev_const, av_int, x_move, x_load, x_bin, x_indexAddr, x_len, holdsO_ofO, bin_gtr, ↓reduceIte, Nat.reduceEqDiff, Option.getD_some, Bool.not_false, enP, ln22, ix27, f4, f5, ix_map hc', load_map ag22 hc', encS0, List.length_map]
        refine cond_of (fun hd => ?_) (fun hd => ?_)
        · simp -implicitDefEqProofs only [List.getElem?_cons_zero, List.getElem?_cons_succ, awp_seq, awp_reg, awp_ret, seqQ_n, seqQ_r, blk_r, lp_r, rnd_r, WW_one, WW_nil, none_md, none_fz, frz_nil, ownOp, wc_app, wcont_s, upd_app, ev_const, av_int, x_assign, ↓reduceIte, Option.getD_some, Bool.not_false]
          refine ⟨?_, trivial⟩
          have : (sets b).any (fun l => decide (l.l.length > 64)) = true := by
            rw [List.any_eq_true]
            exact ⟨(sets b)[k], by simp, by simp at hd ⊢; omega⟩
          rw [hv, if_pos this]
        · simp -implicitDefEqProofs only [List.getElem?_cons_zero, List.getElem?_cons_succ, awp_reg, awp_skip, seqQ_n, blk_n, rnd_n, WW_one, WW_nil, none_md, none_fz, frz_nil, ownOp, wc_app, wcont_s, upd_app, ev_tmp, ev_const, av_int, x_move, x_assign, x_bin, holdsO_ofO, bin_add, ↓reduceIte, Nat.reduceEqDiff, Option.getD_some, Bool.not_false, enP, f5, wrap_succ (show k < 9223372036854775807 by have := hb.num; omega)]
          refine ⟨n - 1, by omega, k + 1, by omega, f4, rfl, trivial, ?_⟩
          rw [t0, hin]
          simp at hd ⊢
          omega
      · have hc' : ¬ k < (sets b).length := by simpa using hc
        simp -implicitDefEqProofs only [List.getElem?_cons_zero, List.getElem?_cons_succ, awp_exit, seqQ_e, lp_e, rnd_e, upd_app, ↓reduceIte, Nat.reduceEqDiff]
        rw [List.take_of_length_le (by omega)] at hin
        exact ⟨f4, trivial, hin⟩
    · rintro F H ⟨f4, rfl, h64⟩
      rw [h64] at hv
      simp only [Bool.false_eq_true, if_false] at hv
      simp -implicitDefEqProofs only [List.getElem?_cons_zero, List.getElem?_cons_succ, awp_seq, awp_block, awp_reg, seqQ_n, blk_e, WW_one, WW_nil, none_md, none_fz, frz_nil, ownOp, wc_app, wcont_s, ev_const, av_int, x_assign, ↓reduceIte, Option.getD_some, Bool.not_false]
      refine awp_loop (fun n F H => ∃ k, n + k = (sets b).length ∧ F 4 = .sl (setsM b) 1 ((sets b).map encS) ∧ F 6 = .int .i64 (k : Nat) ∧ H = h ++ [.live 4 [encB b]] ∧ ((sets b).take k).any (fun l => l.l.any bad) = false) (sets b).length ⟨0, by simp, by simp -implicitDefEqProofs only [List.getElem?_cons_zero, List.getElem?_cons_succ, upd_app, ↓reduceIte, Nat.reduceEqDiff, f4], by simp -implicitDefEqProofs only [List.getElem?_cons_zero, List.getElem?_cons_succ, upd_app, ↓reduceIte]; rfl, rfl, rfl⟩ ?_
      rintro n F H ⟨k, hk, f4, f6, rfl, hin⟩
      simp -implicitDefEqProofs only [List.getElem?_cons_zero, List.getElem?_cons_succ, awp_seq, awp_reg, awp_cond, seqQ_n, WW_one, WW_nil, none_md, none_fz, frz_nil, ownOp, wc_app, wcont_s, upd_app, ev_tmp, x_move, x_bin, x_len, holdsO_ofO, bin_lss, ↓reduceIte, Nat.reduceEqDiff, Option.getD_some, Bool.not_false, enP, ln27, f4, f6, List.length_map]
      refine cond_of (fun hc => ?_) (fun hc => ?_)
      · have hc' : k < (sets b).length := by simpa using hc
        have t0 := any_take (fun l : Rs => l.l.any bad) (sets b) k hc'
        simp -implicitDefEqProofs only [List.getElem?_cons_zero, List.getElem?_cons_succ, awp_seq, awp_block, awp_reg, awp_skip, seqQ_n, WW_one, none_md, none_fz, frz_nil, ownOp, wc_app, wcont_s, upd_app, ev_tmp, ev_func, x_move, x_load, x_indexAddr, X1_call, callA_fn, holdsO_ofO, List.map_cons, List.map_nil, List.append_nil, ↓reduceIte, Nat.reduceEqDiff, Option.getD_some, Bool.not_false, enP, ix27, f4, f6, ix_map hc', load_map ag22 hc', encS0]
        refine (ranges_ref G _ _ _).use ?_
        have hk64 : ¬ (sets b)[k].l.length > 64 := by
          rw [List.any_eq_false] at h64
          have := h64 (sets b)[k] (by simp)
          simpa using this
        simp -implicitDefEqProofs only [List.getElem?_cons_zero, List.getElem?_cons_succ, awp_seq, awp_reg, awp_cond, seqQ_n, WW_one, WW_nil, none_md, none_fz, frz_nil, ownOp, wc_app, wcont_s, upd_app, ev_tmp, ev_const, av_int, x_move, x_assign, x_bin, holdsO_ofO, bin_neq, ↓reduceIte, Option.getD_some, Bool.not_false, enP]
        cases hbad : (sets b)[k].l.any bad with
        | true =>
          have hr := rangesE_bad hk64 hbad
          refine cond_of (fun hd => ?_) (fun hd => ?_)
          · simp -implicitDefEqProofs only [List.getElem?_cons_zero, List.getElem?_cons_succ, awp_seq, awp_reg, awp_ret, seqQ_n, seqQ_r, blk_r, rnd_r, end_r, WW_one, WW_nil, none_md, none_fz, frz_nil, ownOp, wc_app, wcont_s, upd_app, ev_tmp, x_move, x_assign, ↓reduceIte, Nat.reduceEqDiff, Option.getD_some, Bool.not_false]
            refine ⟨?_, _, rfl⟩
            have : (sets b).any (fun l => l.l.any bad) = true := by
              rw [List.any_eq_true]
              exact ⟨(sets b)[k], by simp, hbad⟩
            rw [hr, hv, if_pos this]
          · rw [hr] at hd; simp at hd
        | false =>
          have hr := rangesE_ok hk64 hbad
          refine cond_of (fun hd => ?_) (fun hd => ?_)
          · rw [hr] at hd; simp at hd
          · simp -implicitDefEqProofs only [List.getElem?_cons_zero, List.getElem?_cons_succ, awp_reg, awp_skip, seqQ_n, blk_n, rnd_n, WW_one, WW_nil, none_md, none_fz, frz_nil, ownOp, wc_app, wcont_s, upd_app, ev_tmp, ev_const, av_int, x_move, x_assign, x_bin, holdsO_ofO, bin_add, ↓reduceIte, Nat.reduceEqDiff, Option.getD_some, Bool.not_false, enP, f6, wrap_succ (show k < 9223372036854775807 by have := hb.num; omega)]
            refine ⟨n - 1, by omega, k + 1, by omega, f4, rfl, trivial, ?_⟩
            rw [t0, hin, hbad]; rfl
      · have hc' : ¬ k < (sets b).length := by simpa using hc
        simp -implicitDefEqProofs only [List.getElem?_cons_zero, List.getElem?_cons_succ, awp_seq, awp_reg, awp_ret, awp_exit, seqQ_n, seqQ_e, blk_e, rnd_e, end_r, WW_one, WW_nil, none_md, none_fz, frz_nil, ownOp, wc_app, wcont_s, upd_app, ev_const, av_int, x_assign, ↓reduceIte, Option.getD_some, Bool.not_false]
        rw [List.take_of_length_le (by omega)] at hin
        exact ⟨by rw [hv, if_neg (by rw [hin]; simp)], _, rfl⟩
    · rintro F H ⟨f2, rfl⟩
      simp -implicitDefEqProofs only [List.getElem?_cons_zero, List.getElem?_cons_succ, seqQ_r, blk_r, end_r]
      exact ⟨f2, _, rfl⟩
  · rintro F H ⟨f2, rfl⟩
    simp -implicitDefEqProofs only [List.getElem?_cons_zero, List.getElem?_cons_succ, seqQ_r, blk_r, end_r]
    exact ⟨by rw [f2], _, rfl⟩
end Go.Proofs.YtpdohkcjhphibaaDoor.Bins
