/- Part 7 of the proof (M8, M9, M10, M11, M12, M13, M14, N1); no condition. -/
import Derived.Test.YtocilianjfhifaaGreatDoorP6
set_option linter.unusedVariables false
/- The error of a model: the reference; no condition but the bounds on lengths. -/
set_option linter.unusedSimpArgs false
set_option maxRecDepth 8000
namespace Go.Proofs.YtocilianjfhifaaGreatDoor.Cov
open Go Go.Proofs Go.Proofs.YtocilianjfhifaaGreatDoor.Sm Go.Proofs.YtocilianjfhifaaGreatDoor.Bins Go.RowKit

theorem model_ref (G : Nat → AV) (m : Mo) (hm : MoOk m) (h : Hp) : PCall (En G) 50 [.agg (encM m)] h (.int .i64 (modelE m)) := by
  refine ACalls.pure0 rfl ?_
  have hm1 := hm.np
  have hm2 := hm.nc
  refine acalls_of (H := Hint.none) (enM G) Tryz.func50 rfl (by kernel_rfl) (by kernel_rfl) (Nat.le_of_ble_eq_true (by kernel_rfl)) ?_
  show awp _ _ _ _ _ (endQ _ [.tmp 2] _)
  have hw : IntKind.i64.wrap ((m.pts.length : Int) + (m.crs.length : Int)) = (m.pts.length : Int) + (m.crs.length : Int) := wrap_i64 (by omega) (by omega)
  have gm := top_get h (.live 2 [encM m])
  have hx : ∃ x, h ++ [ABlk.live 2 [encM m]] = h ++ x := ⟨_, rfl⟩
  simp -implicitDefEqProofs only [awp_seq, awp_reg, seqQ_n, WW_one, WW_nil, none_md, none_fz, frz_nil, ownOp, wc_app, wcont_s, upd_app, ev_tmp, ev_const, av_int, x_assign, x_box, x_load, x_fieldAddr, holdsO_some, holdsO_ofO, frameOf_zero, ↓reduceIte, Nat.reduceEqDiff, Nat.add_zero, Option.getD_some, Bool.not_false, enP, fa25_0, bxM]
  generalize h ++ [ABlk.live 2 [encM m]] = H at gm hx ⊢
  have lm0 : aLoad Tryz.prog H 22 (.ptr h.length 0 0) = some (.sl m.pm 6 (m.pts.map encP)) := by rw [load_row ag22 gm (row := encM m) rfl, encM0]
  have lm1 : aLoad Tryz.prog H 23 (.ptr h.length 0 1) = some (.sl m.cm 3 (m.crs.map encC)) := by rw [load_row ag23 gm (row := encM m) rfl, encM1]
  simp -implicitDefEqProofs only [awp_cond, seqQ_n, WW_one, WW_nil, none_md, none_fz, frz_nil, ownOp, wc_app, wcont_s, upd_app, ev_tmp, ev_const, av_int, x_load, x_bin, x_fieldAddr, x_len, holdsO_ofO, bin_add, bin_gtr, ↓reduceIte, Nat.reduceEqDiff, Nat.zero_add, Option.getD_some, Bool.not_false, enP, ln22, ln23, fa25_1, lm0, lm1, List.length_map, hw]
  refine cond_of (fun h1 => ?_) (fun h1 => ?_)
  · simp -implicitDefEqProofs only [awp_seq, awp_reg, awp_ret, seqQ_n, seqQ_r, end_r, WW_one, WW_nil, none_md, none_fz, frz_nil, ownOp, wc_app, wcont_s, upd_app, ev_const, av_int, x_assign, ↓reduceIte, Option.getD_some, Bool.not_false]
    exact ⟨by unfold modelE; rw [if_pos (by simp at h1; omega)], hx⟩
  have h1' : ¬ 16 < m.pts.length + m.crs.length := by simp at h1; omega
  have hme : modelE m = if fstE pointE m.pts ≠ 0 then fstE pointE m.pts else if dupB (m.pts.map (·.name)) then 8 else if fstE (crossE m) m.crs ≠ 0 then fstE (crossE m) m.crs else if dupB (m.crs.map (·.name)) then 8 else 0 := by
    unfold modelE; rw [if_neg h1']
  simp -implicitDefEqProofs only [awp_seq, awp_block, awp_reg, awp_skip, seqQ_n, WW_one, WW_nil, none_md, none_fz, frz_nil, ownOp, wc_app, wcont_s, ev_const, av_int, x_assign, Option.getD_some, Bool.not_false]
  refine awp_lp 0 (fun F H' => F 1 = .ptr h.length 0 0 ∧ H' = H ∧ fstE pointE m.pts = 0) (fun F H' => F 2 = .int .i64 (modelE m) ∧ H' = H) ?_ ?_ ?_
  · refine awp_loop (fun n F H' => ∃ k, n + k = m.pts.length ∧ F 1 = .ptr h.length 0 0 ∧ F 3 = .int .i64 (k : Nat) ∧ H' = H ∧ fstE pointE m.pts = fstE pointE (m.pts.drop k)) m.pts.length ⟨0, by simp, by simp -implicitDefEqProofs only [upd_app, ↓reduceIte, Nat.reduceEqDiff], by simp -implicitDefEqProofs only [upd_app, ↓reduceIte]; rfl, rfl, rfl⟩ ?_
    rintro n F H' ⟨k, hk, f1, f3, rfl, hf⟩
    simp -implicitDefEqProofs only [awp_seq, awp_reg, awp_cond, seqQ_n, WW_one, WW_nil, none_md, none_fz, frz_nil, ownOp, wc_app, wcont_s, upd_app, ev_tmp, x_move, x_load, x_bin, x_fieldAddr, x_len, holdsO_ofO, bin_lss, ↓reduceIte, Nat.reduceEqDiff, Nat.add_zero, Option.getD_some, Bool.not_false, enP, ln22, fa25_0, f1, f3, lm0, List.length_map]
    refine cond_of (fun hc => ?_) (fun hc => ?_)
    · have hk' : k < m.pts.length := by simpa using hc
      have hs := fstE_step pointE m.pts k hk'
      simp -implicitDefEqProofs only [awp_seq, awp_block, awp_reg, awp_skip, seqQ_n, WW_one, none_md, none_fz, frz_nil, ownOp, wc_app, wcont_s, upd_app, ev_tmp, ev_func, x_move, x_load, x_fieldAddr, x_indexAddr, X1_call, callA_fn, holdsO_ofO, List.map_cons, List.map_nil, List.append_nil, ↓reduceIte, Nat.reduceEqDiff, Nat.add_zero, Option.getD_some, Bool.not_false, enP, ix22, fa25_0, f1, f3, lm0, ix_map hk', load_mapA ag56 sz56 encP_len hk']
      refine (point_ref G m.pts[k] (hm.pts _ (List.getElem_mem hk')) _).use ?_
      simp -implicitDefEqProofs only [awp_seq, awp_reg, awp_cond, seqQ_n, WW_one, WW_nil, none_md, none_fz, frz_nil, ownOp, wc_app, wcont_s, upd_app, ev_tmp, ev_const, av_int, x_move, x_assign, x_bin, holdsO_ofO, bin_neq, ↓reduceIte, Option.getD_some, Bool.not_false, enP]
      refine cond_of (fun hv => ?_) (fun hv => ?_)
      · simp -implicitDefEqProofs only [awp_seq, awp_reg, awp_ret, seqQ_n, seqQ_r, blk_r, lp_r, rnd_r, WW_one, WW_nil, none_md, none_fz, frz_nil, ownOp, wc_app, wcont_s, upd_app, ev_tmp, x_move, x_assign, ↓reduceIte, Nat.reduceEqDiff, Option.getD_some, Bool.not_false]
        have hv' : pointE m.pts[k] ≠ 0 := by simpa using hv
        have : fstE pointE m.pts = pointE m.pts[k] := by rw [hf, hs, if_neg hv']
        exact ⟨by rw [hme, this, if_pos hv'], trivial⟩
      · have hv' : pointE m.pts[k] = 0 := by simpa using hv
        simp -implicitDefEqProofs only [awp_reg, awp_skip, seqQ_n, blk_n, rnd_n, WW_one, WW_nil, none_md, none_fz, frz_nil, ownOp, wc_app, wcont_s, upd_app, ev_tmp, ev_const, av_int, x_move, x_assign, x_bin, holdsO_ofO, bin_add, ↓reduceIte, Nat.reduceEqDiff, Option.getD_some, Bool.not_false, enP, f3, wrap_succ (show k < 9223372036854775807 by omega)]
        exact ⟨n - 1, by omega, k + 1, by omega, f1, rfl, trivial, by rw [hf, hs, if_pos hv']⟩
    · have hk' : ¬ k < m.pts.length := by simpa using hc
      simp -implicitDefEqProofs only [awp_exit, seqQ_e, lp_e, rnd_e, upd_app, ↓reduceIte, Nat.reduceEqDiff]
      exact ⟨f1, trivial, by rw [hf, List.drop_eq_nil_of_le (by omega)]; rfl⟩
  · rintro F H' ⟨f1, rfl, hf⟩
    have hfull := full_of hf
    rw [hf, if_neg (fun hh => hh rfl)] at hme
    simp -implicitDefEqProofs only [awp_seq, awp_block, awp_reg, seqQ_n, blk_e, WW_one, WW_nil, none_md, none_fz, frz_nil, ownOp, wc_app, wcont_s, ev_const, av_int, x_assign, ↓reduceIte, Option.getD_some, Bool.not_false, f1]
    refine awp_lp 2 (fun F H => F 1 = .ptr h.length 0 0 ∧ H = H' ∧ dupB (m.pts.map (·.name)) = false) (fun F H => F 2 = .int .i64 (modelE m) ∧ H = H') ?_ ?_ ?_
    · generalize hN : m.pts.map (·.name) = N at hme ⊢
      have hNl : N.length = m.pts.length := by rw [← hN]; simp
      have hNi : ∀ i (hi : i < m.pts.length), N[i]? = some m.pts[i].name := fun i hi => by rw [← hN, List.getElem?_map, List.getElem?_eq_getElem hi]; rfl
      refine awp_loop (fun n F H => ∃ i, n + i = m.pts.length ∧ F 1 = .ptr h.length 0 0 ∧ F 5 = .int .i64 (i : Nat) ∧ H = H' ∧ dupB N = dupT (N.take i) (N.drop i)) m.pts.length ⟨0, by simp, by simp -implicitDefEqProofs only [upd_app, ↓reduceIte, Nat.reduceEqDiff, f1], by simp -implicitDefEqProofs only [upd_app, ↓reduceIte]; rfl, rfl, rfl⟩ ?_
      clear f1
      rintro n F H' ⟨i, hi, f1, f5, rfl, hd⟩
      simp -implicitDefEqProofs only [awp_seq, awp_reg, awp_cond, seqQ_n, WW_one, WW_nil, none_md, none_fz, frz_nil, ownOp, wc_app, wcont_s, upd_app, ev_tmp, x_move, x_load, x_bin, x_fieldAddr, x_len, holdsO_ofO, bin_lss, ↓reduceIte, Nat.reduceEqDiff, Nat.add_zero, Option.getD_some, Bool.not_false, enP, ln22, fa25_0, f1, f5, lm0, List.length_map]
      refine cond_of (fun hc => ?_) (fun hc => ?_)
      · have hi' : i < m.pts.length := by simpa using hc
        have hdrop := dupT_step N i (by omega)
        rw [getElem_some (hNi i hi')] at hdrop
        simp -implicitDefEqProofs only [awp_seq, awp_block, awp_reg, awp_skip, seqQ_n, WW_one, WW_nil, none_md, none_fz, frz_nil, ownOp, wc_app, wcont_s, ev_const, av_int, x_assign, Option.getD_some, Bool.not_false, f5]
        refine awp_lp 4 (fun F' H => F' 1 = .ptr h.length 0 0 ∧ F' 5 = .int .i64 (i : Nat) ∧ H = H' ∧ hasS (N.take i) m.pts[i].name = false) (fun F' H => F' 2 = .int .i64 8 ∧ H = H' ∧ dupB N = true) ?_ ?_ ?_
        · refine awp_loop (fun n F' H => ∃ k, n + k = i ∧ F' 1 = .ptr h.length 0 0 ∧ F' 5 = .int .i64 (i : Nat) ∧ F' 6 = .int .i64 (k : Nat) ∧ H = H' ∧ hasS (N.take i) m.pts[i].name = hasS ((N.take i).drop k) m.pts[i].name) i ⟨0, by simp, by simp -implicitDefEqProofs only [upd_app, ↓reduceIte, Nat.reduceEqDiff, f1], by simp -implicitDefEqProofs only [upd_app, ↓reduceIte, Nat.reduceEqDiff, f5], by simp -implicitDefEqProofs only [upd_app, ↓reduceIte]; rfl, rfl, rfl⟩ ?_
          clear f1 f5
          rintro n' F H' ⟨k, hk, f1, f5, f6, rfl, hin⟩
          simp -implicitDefEqProofs only [awp_seq, awp_reg, awp_cond, seqQ_n, WW_one, WW_nil, none_md, none_fz, frz_nil, ownOp, wc_app, wcont_s, upd_app, ev_tmp, x_move, x_bin, holdsO_ofO, bin_lss, ↓reduceIte, Nat.reduceEqDiff, Option.getD_some, Bool.not_false, enP, f5, f6]
          refine cond_of (fun hc => ?_) (fun hc => ?_)
          · have hk' : k < i := by simpa using hc
            have hk2 : k < m.pts.length := by omega
            have hs := any_step (fun u => m.pts[i].name.toList == u.toList) (N.take i) k (by rw [List.length_take]; omega)
            have hx : (N.take i)[k]'(by rw [List.length_take]; omega) = m.pts[k].name := by
              rw [List.getElem_take]; exact getElem_some (hNi k hk2)
            rw [hx] at hs
            simp -implicitDefEqProofs only [awp_seq, awp_block, awp_skip, seqQ_n]
            refine awp_draw (by kernel_rfl) ?_
            simp -implicitDefEqProofs only [YO_f, dc_app, dcont_s, DD_nil, DD_one, y_move, y_load, y_bin, y_fieldAddr, y_indexAddr, awp_cond, seqQ_n, none_md, upd_app, ev_tmp, x_load, x_bin, x_fieldAddr, x_indexAddr, holdsO_ofO, bin_seql, ↓reduceIte, Nat.reduceEqDiff, Nat.reduceAdd, Nat.add_zero, Option.getD_some, enP, ix22, fa25_0, fa56_0, f1, f5, f6, lm0, ix_map hi', ix_map hk2, load_map ag9 hi', load_map ag9 hk2, encP0]
            refine cond_of (fun hb => ?_) (fun hb => ?_)
            · simp -implicitDefEqProofs only [awp_seq, awp_reg, awp_ret, seqQ_n, seqQ_r, blk_r, lp_r, rnd_r, WW_one, WW_nil, none_md, none_fz, frz_nil, ownOp, wc_app, wcont_s, upd_app, ev_const, av_int, x_assign, ↓reduceIte, Option.getD_some, Bool.not_false]
              have : hasS (N.take i) m.pts[i].name = true := by
                rw [hin]; unfold hasS; rw [hs, BEq.comm, hb]; rfl
              exact ⟨trivial, trivial, by rw [hd, hdrop, this]; rfl⟩
            · simp -implicitDefEqProofs only [awp_reg, awp_skip, seqQ_n, blk_n, rnd_n, WW_one, WW_nil, none_md, none_fz, frz_nil, ownOp, wc_app, wcont_s, upd_app, ev_tmp, ev_const, av_int, x_move, x_assign, x_bin, holdsO_ofO, bin_add, ↓reduceIte, Nat.reduceEqDiff, Option.getD_some, Bool.not_false, enP, f6, wrap_succ (show k < 9223372036854775807 by omega)]
              refine ⟨n' - 1, by omega, k + 1, by omega, f1, f5, rfl, trivial, ?_⟩
              rw [hin]; unfold hasS; rw [hs, BEq.comm, hb]; rfl
          · have hk' : ¬ k < i := by simpa using hc
            simp -implicitDefEqProofs only [awp_exit, seqQ_e, lp_e, rnd_e, upd_app, ↓reduceIte, Nat.reduceEqDiff]
            refine ⟨f1, f5, trivial, ?_⟩
            rw [hin, List.drop_eq_nil_of_le (by rw [List.length_take]; omega)]; rfl
        · rintro F' H' ⟨g1, g5, rfl, hn⟩
          simp -implicitDefEqProofs only [awp_reg, seqQ_n, blk_n, blk_e, rnd_n, WW_one, WW_nil, none_md, none_fz, frz_nil, ownOp, wc_app, wcont_s, upd_app, ev_tmp, ev_const, av_int, x_move, x_assign, x_bin, holdsO_ofO, bin_add, ↓reduceIte, Nat.reduceEqDiff, Option.getD_some, Bool.not_false, enP, g5, wrap_succ (show i < 9223372036854775807 by omega)]
          refine ⟨n - 1, by omega, i + 1, by omega, g1, rfl, trivial, ?_⟩
          rw [hd, hdrop, hn]; rfl
        · rintro F' H' ⟨g2, rfl, hdd⟩
          simp -implicitDefEqProofs only [seqQ_r, blk_r, lp_r, rnd_r, g2]
          exact ⟨by rw [hme, hdd]; rfl, trivial⟩
      · have hi' : ¬ i < m.pts.length := by simpa using hc
        simp -implicitDefEqProofs only [awp_exit, seqQ_e, lp_e, rnd_e, upd_app, ↓reduceIte, Nat.reduceEqDiff]
        exact ⟨f1, trivial, by rw [hd, List.drop_eq_nil_of_le (by omega)]; rfl⟩
    · clear f1
      rintro F H ⟨f1, rfl, hd⟩
      rw [hd] at hme
      simp only [Bool.false_eq_true, if_false] at hme
      simp -implicitDefEqProofs only [awp_seq, awp_block, awp_reg, seqQ_n, blk_e, WW_one, WW_nil, none_md, none_fz, frz_nil, ownOp, wc_app, wcont_s, ev_const, av_int, x_assign, ↓reduceIte, Option.getD_some, Bool.not_false]
      refine awp_lp 6 (fun F H' => F 1 = .ptr h.length 0 0 ∧ H' = H ∧ fstE (crossE m) m.crs = 0) (fun F H' => F 2 = .int .i64 (modelE m) ∧ H' = H) ?_ ?_ ?_
      · refine awp_loop (fun n F H' => ∃ k, n + k = m.crs.length ∧ F 1 = .ptr h.length 0 0 ∧ F 7 = .int .i64 (k : Nat) ∧ H' = H ∧ fstE (crossE m) m.crs = fstE (crossE m) (m.crs.drop k)) m.crs.length ⟨0, by simp, by simp -implicitDefEqProofs only [upd_app, ↓reduceIte, Nat.reduceEqDiff, f1], by simp -implicitDefEqProofs only [upd_app, ↓reduceIte]; rfl, rfl, rfl⟩ ?_
        clear f1
        rintro n F H' ⟨k, hk, f1, f7, rfl, hf⟩
        simp -implicitDefEqProofs only [awp_seq, awp_reg, awp_cond, seqQ_n, WW_one, WW_nil, none_md, none_fz, frz_nil, ownOp, wc_app, wcont_s, upd_app, ev_tmp, x_move, x_load, x_bin, x_fieldAddr, x_len, holdsO_ofO, bin_lss, ↓reduceIte, Nat.reduceEqDiff, Nat.zero_add, Option.getD_some, Bool.not_false, enP, ln23, fa25_1, f1, f7, lm1, List.length_map]
        refine cond_of (fun hc => ?_) (fun hc => ?_)
        · have hk' : k < m.crs.length := by simpa using hc
          have hs := fstE_step (crossE m) m.crs k hk'
          simp -implicitDefEqProofs only [awp_seq, awp_block, awp_skip, seqQ_n]
          refine awp_draw (by kernel_rfl) ?_
          simp -implicitDefEqProofs only [YO_f, dc_app, dcont_s, DD_nil, DD_one, y_move, y_assign, y_load, y_fieldAddr, y_indexAddr, Y1_call, callP_fn, awp_seq, awp_reg, seqQ_n, WW_one, none_md, none_fz, frz_nil, ownOp, wc_app, wcont_s, upd_app, ev_tmp, ev_const, ev_func, av_int, x_move, x_load, x_bin, x_fieldAddr, x_indexAddr, holdsO_ofO, List.map_cons, List.map_nil, List.append_nil, ↓reduceIte, Nat.reduceEqDiff, Nat.reduceAdd, Nat.zero_add, Option.getD_some, Bool.not_false, enP, ix23, fa25_1, f1, f7, lm1, ldM gm, ix_map hk', load_mapA ag71 sz71 encC_len hk']
          refine ⟨_, cross_ref G m m.crs[k] (hm.crs _ (List.getElem_mem hk')) hfull _, ?_⟩
          try simp -implicitDefEqProofs only [awp_cond, seqQ_n, WW_nil, wcont_s, upd_app, ev_tmp, holdsO_ofO, bin_neq, ↓reduceIte]
          refine cond_of (fun hv => ?_) (fun hv => ?_)
          · simp -implicitDefEqProofs only [awp_seq, awp_reg, awp_ret, seqQ_n, seqQ_r, blk_r, lp_r, rnd_r, WW_one, WW_nil, none_md, none_fz, frz_nil, ownOp, wc_app, wcont_s, upd_app, ev_tmp, x_move, x_assign, ↓reduceIte, Nat.reduceEqDiff, Option.getD_some, Bool.not_false]
            have hv' : crossE m m.crs[k] ≠ 0 := by simpa using hv
            have : fstE (crossE m) m.crs = crossE m m.crs[k] := by rw [hf, hs, if_neg hv']
            exact ⟨by rw [hme, this, if_pos hv'], trivial⟩
          · have hv' : crossE m m.crs[k] = 0 := by simpa using hv
            simp -implicitDefEqProofs only [awp_reg, awp_skip, seqQ_n, blk_n, rnd_n, WW_one, WW_nil, none_md, none_fz, frz_nil, ownOp, wc_app, wcont_s, upd_app, ev_tmp, ev_const, av_int, x_move, x_assign, x_bin, holdsO_ofO, bin_add, ↓reduceIte, Nat.reduceEqDiff, Option.getD_some, Bool.not_false, enP, f7, wrap_succ (show k < 9223372036854775807 by omega)]
            exact ⟨n - 1, by omega, k + 1, by omega, f1, rfl, trivial, by rw [hf, hs, if_pos hv']⟩
        · have hk' : ¬ k < m.crs.length := by simpa using hc
          simp -implicitDefEqProofs only [awp_exit, seqQ_e, lp_e, rnd_e, upd_app, ↓reduceIte, Nat.reduceEqDiff]
          exact ⟨f1, trivial, by rw [hf, List.drop_eq_nil_of_le (by omega)]; rfl⟩
      · rintro F H' ⟨f1, rfl, hf⟩
        rw [hf, if_neg (fun hh => hh rfl)] at hme
        simp -implicitDefEqProofs only [awp_seq, awp_block, awp_reg, seqQ_n, blk_e, WW_one, WW_nil, none_md, none_fz, frz_nil, ownOp, wc_app, wcont_s, ev_const, av_int, x_assign, ↓reduceIte, Option.getD_some, Bool.not_false]
        generalize hN : m.crs.map (·.name) = N at hme
        have hNl : N.length = m.crs.length := by rw [← hN]; simp
        have hNi : ∀ i (hi : i < m.crs.length), N[i]? = some m.crs[i].name := fun i hi => by rw [← hN, List.getElem?_map, List.getElem?_eq_getElem hi]; rfl
        refine awp_loop (fun n F H => ∃ i, n + i = m.crs.length ∧ F 1 = .ptr h.length 0 0 ∧ F 9 = .int .i64 (i : Nat) ∧ H = H' ∧ dupB N = dupT (N.take i) (N.drop i)) m.crs.length ⟨0, by simp, by simp -implicitDefEqProofs only [upd_app, ↓reduceIte, Nat.reduceEqDiff, f1], by simp -implicitDefEqProofs only [upd_app, ↓reduceIte]; rfl, rfl, rfl⟩ ?_
        clear f1
        rintro n F H' ⟨i, hi, f1, f9, rfl, hd⟩
        simp -implicitDefEqProofs only [awp_seq, awp_reg, awp_cond, seqQ_n, WW_one, WW_nil, none_md, none_fz, frz_nil, ownOp, wc_app, wcont_s, upd_app, ev_tmp, x_move, x_load, x_bin, x_fieldAddr, x_len, holdsO_ofO, bin_lss, ↓reduceIte, Nat.reduceEqDiff, Nat.zero_add, Option.getD_some, Bool.not_false, enP, ln23, fa25_1, f1, f9, lm1, List.length_map]
        refine cond_of (fun hc => ?_) (fun hc => ?_)
        · have hi' : i < m.crs.length := by simpa using hc
          have hdrop := dupT_step N i (by omega)
          rw [getElem_some (hNi i hi')] at hdrop
          simp -implicitDefEqProofs only [awp_seq, awp_block, awp_reg, awp_skip, seqQ_n, WW_one, WW_nil, none_md, none_fz, frz_nil, ownOp, wc_app, wcont_s, ev_const, av_int, x_assign, Option.getD_some, Bool.not_false, f9]
          refine awp_lp 10 (fun F' H => F' 1 = .ptr h.length 0 0 ∧ F' 9 = .int .i64 (i : Nat) ∧ H = H' ∧ hasS (N.take i) m.crs[i].name = false) (fun F' H => F' 2 = .int .i64 8 ∧ H = H' ∧ dupB N = true) ?_ ?_ ?_
          · refine awp_loop (fun n F' H => ∃ k, n + k = i ∧ F' 1 = .ptr h.length 0 0 ∧ F' 9 = .int .i64 (i : Nat) ∧ F' 10 = .int .i64 (k : Nat) ∧ H = H' ∧ hasS (N.take i) m.crs[i].name = hasS ((N.take i).drop k) m.crs[i].name) i ⟨0, by simp, by simp -implicitDefEqProofs only [upd_app, ↓reduceIte, Nat.reduceEqDiff, f1], by simp -implicitDefEqProofs only [upd_app, ↓reduceIte, Nat.reduceEqDiff, f9], by simp -implicitDefEqProofs only [upd_app, ↓reduceIte]; rfl, rfl, rfl⟩ ?_
            clear f1 f9
            rintro n' F H' ⟨k, hk, f1, f9, f10, rfl, hin⟩
            simp -implicitDefEqProofs only [awp_seq, awp_reg, awp_cond, seqQ_n, WW_one, WW_nil, none_md, none_fz, frz_nil, ownOp, wc_app, wcont_s, upd_app, ev_tmp, x_move, x_bin, holdsO_ofO, bin_lss, ↓reduceIte, Nat.reduceEqDiff, Option.getD_some, Bool.not_false, enP, f9, f10]
            refine cond_of (fun hc => ?_) (fun hc => ?_)
            · have hk' : k < i := by simpa using hc
              have hk2 : k < m.crs.length := by omega
              have hs := any_step (fun u => m.crs[i].name.toList == u.toList) (N.take i) k (by rw [List.length_take]; omega)
              have hx : (N.take i)[k]'(by rw [List.length_take]; omega) = m.crs[k].name := by
                rw [List.getElem_take]; exact getElem_some (hNi k hk2)
              rw [hx] at hs
              simp -implicitDefEqProofs only [awp_seq, awp_block, awp_skip, seqQ_n]
              refine awp_draw (by kernel_rfl) ?_
              simp -implicitDefEqProofs only [YO_f, dc_app, dcont_s, DD_nil, DD_one, y_move, y_load, y_bin, y_fieldAddr, y_indexAddr, awp_cond, seqQ_n, none_md, upd_app, ev_tmp, x_load, x_bin, x_fieldAddr, x_indexAddr, holdsO_ofO, bin_seql, ↓reduceIte, Nat.reduceEqDiff, Nat.reduceAdd, Nat.add_zero, Nat.zero_add, Option.getD_some, enP, ix23, fa25_1, fa71_0, f1, f9, f10, lm1, ix_map hi', ix_map hk2, load_map ag9 hi', load_map ag9 hk2, encC0]
              refine cond_of (fun hb => ?_) (fun hb => ?_)
              · simp -implicitDefEqProofs only [awp_seq, awp_reg, awp_ret, seqQ_n, seqQ_r, blk_r, lp_r, rnd_r, WW_one, WW_nil, none_md, none_fz, frz_nil, ownOp, wc_app, wcont_s, upd_app, ev_const, av_int, x_assign, ↓reduceIte, Option.getD_some, Bool.not_false]
                have : hasS (N.take i) m.crs[i].name = true := by
                  rw [hin]; unfold hasS; rw [hs, BEq.comm, hb]; rfl
                exact ⟨trivial, trivial, by rw [hd, hdrop, this]; rfl⟩
              · simp -implicitDefEqProofs only [awp_reg, awp_skip, seqQ_n, blk_n, rnd_n, WW_one, WW_nil, none_md, none_fz, frz_nil, ownOp, wc_app, wcont_s, upd_app, ev_tmp, ev_const, av_int, x_move, x_assign, x_bin, holdsO_ofO, bin_add, ↓reduceIte, Nat.reduceEqDiff, Option.getD_some, Bool.not_false, enP, f10, wrap_succ (show k < 9223372036854775807 by omega)]
                refine ⟨n' - 1, by omega, k + 1, by omega, f1, f9, rfl, trivial, ?_⟩
                rw [hin]; unfold hasS; rw [hs, BEq.comm, hb]; rfl
            · have hk' : ¬ k < i := by simpa using hc
              simp -implicitDefEqProofs only [awp_exit, seqQ_e, lp_e, rnd_e, upd_app, ↓reduceIte, Nat.reduceEqDiff]
              refine ⟨f1, f9, trivial, ?_⟩
              rw [hin, List.drop_eq_nil_of_le (by rw [List.length_take]; omega)]; rfl
          · rintro F' H' ⟨g1, g9, rfl, hn⟩
            simp -implicitDefEqProofs only [awp_reg, seqQ_n, blk_n, blk_e, rnd_n, WW_one, WW_nil, none_md, none_fz, frz_nil, ownOp, wc_app, wcont_s, upd_app, ev_tmp, ev_const, av_int, x_move, x_assign, x_bin, holdsO_ofO, bin_add, ↓reduceIte, Nat.reduceEqDiff, Option.getD_some, Bool.not_false, enP, g9, wrap_succ (show i < 9223372036854775807 by omega)]
            refine ⟨n - 1, by omega, i + 1, by omega, g1, rfl, trivial, ?_⟩
            rw [hd, hdrop, hn]; rfl
          · rintro F' H' ⟨g2, rfl, hdd⟩
            simp -implicitDefEqProofs only [seqQ_r, blk_r, rnd_r, end_r, g2]
            exact ⟨by rw [hme, hdd]; rfl, hx⟩
        · have hi' : ¬ i < m.crs.length := by simpa using hc
          simp -implicitDefEqProofs only [awp_seq, awp_reg, awp_ret, awp_exit, seqQ_n, seqQ_e, blk_e, rnd_e, end_r, WW_one, WW_nil, none_md, none_fz, frz_nil, ownOp, wc_app, wcont_s, upd_app, ev_const, av_int, x_assign, ↓reduceIte, Option.getD_some, Bool.not_false]
          exact ⟨by rw [hme, hd, List.drop_eq_nil_of_le (by omega)]; rfl, hx⟩
      · rintro F H' ⟨f2, rfl⟩
        simp -implicitDefEqProofs only [seqQ_r, blk_r, end_r, f2]
        exact ⟨trivial, hx⟩
    · rintro F H ⟨f2, rfl⟩
      simp -implicitDefEqProofs only [seqQ_r, blk_r, end_r, f2]
      exact ⟨trivial, hx⟩
  · rintro F H' ⟨f2, rfl⟩
    simp -implicitDefEqProofs only [seqQ_r, blk_r, end_r, f2]
    exact ⟨trivial, hx⟩
end Go.Proofs.YtocilianjfhifaaGreatDoor.Cov
/- Equal lists, counts, combinations that count, on both sides; no condition but the bounds on lengths. -/
set_option linter.unusedSimpArgs false
set_option maxRecDepth 8000
namespace Go.Proofs.YtocilianjfhifaaGreatDoor.Cov
open Go Go.Proofs Go.Proofs.YtocilianjfhifaaGreatDoor.Sm Go.Proofs.YtocilianjfhifaaGreatDoor.Bins Go.RowKit

def eqL (a b : List Int) : Bool := decide (a = b)
theorem eqL_step {a b : List Int} {k : Nat} (ha : k < a.length) (hb : k < b.length) : eqL (a.drop k) (b.drop k) = (decide (a[k] = b[k]) && eqL (a.drop (k + 1)) (b.drop (k + 1))) := by
  rw [List.drop_eq_getElem_cons ha, List.drop_eq_getElem_cons hb]
  unfold eqL
  rw [decide_eq_decide.2 (Iff.of_eq (List.cons.injEq _ _ _ _)), Bool.decide_and]
theorem equal_prog (G : Nat → AV) (a b : List Int) (s t : SM) (h : Hp) (hl : b.length ≤ 1099511627776) : PCall (En G) 188 [.sl s 1 (a.map encI), .sl t 1 (b.map encI)] h (.bool (eqL a b)) := by
  refine acalls_of (H := Hint.none) (enM G) Tryz.func188 rfl (by kernel_rfl) (by kernel_rfl) (Nat.le_of_ble_eq_true (by kernel_rfl)) ?_
  show awp _ _ _ _ _ (endQ _ [.tmp 4] _)
  simp -implicitDefEqProofs only [awp_seq, awp_reg, awp_cond, seqQ_n, WW_one, WW_nil, none_md, none_fz, frz_nil, ownOp, wc_app, wcont_s, upd_app, ev_tmp, ev_const, av_bool, x_move, x_assign, x_bin, x_len, holdsO_ofO, bin_neq, frameOf_zero, frameOf_succ, ↓reduceIte, Nat.reduceEqDiff, Option.getD_some, Bool.not_false, enP, ln57, List.length_map]
  refine cond_of (fun h1 => ?_) (fun h1 => ?_)
  · simp -implicitDefEqProofs only [awp_seq, awp_reg, awp_ret, seqQ_n, seqQ_r, end_r, WW_one, WW_nil, none_md, none_fz, frz_nil, ownOp, wc_app, wcont_s, upd_app, ev_const, av_bool, x_assign, ↓reduceIte, Option.getD_some, Bool.not_false]
    have : eqL a b = false := by
      unfold eqL; rw [decide_eq_false_iff_not]; intro e; subst e; simp at h1
    exact ⟨by rw [this], trivial⟩
  have hab : a.length = b.length := by simp at h1; omega
  simp -implicitDefEqProofs only [awp_seq, awp_block, awp_reg, awp_skip, seqQ_n, WW_one, WW_nil, none_md, none_fz, frz_nil, ownOp, wc_app, wcont_s, upd_app, ev_tmp, ev_const, av_int, x_move, x_len, holdsO_ofO, frameOf_zero, ↓reduceIte, Nat.reduceEqDiff, Option.getD_some, Bool.not_false, enP, ln57, List.length_map]
  refine awp_loop (fun n F H => ∃ k, n + k = a.length ∧ F 0 = .sl s 1 (a.map encI) ∧ F 1 = .sl t 1 (b.map encI) ∧ F 12 = .int .i64 a.length ∧ F 13 = .int .i64 (k : Nat) ∧ H = h ∧ eqL a b = eqL (a.drop k) (b.drop k)) a.length ⟨0, by simp, by simp -implicitDefEqProofs only [upd_app, frameOf_zero, ↓reduceIte, Nat.reduceEqDiff], by simp -implicitDefEqProofs only [upd_app, frameOf_zero, frameOf_succ, ↓reduceIte, Nat.reduceEqDiff], by simp -implicitDefEqProofs only [upd_app, ↓reduceIte, Nat.reduceEqDiff], by simp -implicitDefEqProofs only [upd_app, ↓reduceIte]; rfl, rfl, rfl⟩ ?_
  rintro n F H ⟨k, hk, f0, f1, f12, f13, rfl, hi⟩
  simp -implicitDefEqProofs only [awp_seq, awp_reg, awp_cond, seqQ_n, WW_one, WW_nil, none_md, none_fz, frz_nil, ownOp, wc_app, wcont_s, upd_app, ev_tmp, x_bin, holdsO_ofO, bin_lss, ↓reduceIte, Option.getD_some, Bool.not_false, enP, f12, f13]
  refine cond_of (fun hc => ?_) (fun hc => ?_)
  · have hk' : k < a.length := by simpa using hc
    have hkb : k < b.length := by omega
    rw [eqL_step hk' hkb] at hi
    simp -implicitDefEqProofs only [awp_seq, awp_block, awp_reg, awp_skip, seqQ_n, WW_one, WW_nil, none_md, none_fz, frz_nil, ownOp, wc_app, wcont_s, upd_app, ev_tmp, x_move, x_assign, ↓reduceIte, Nat.reduceEqDiff, Option.getD_some, Bool.not_false, f13]
    refine awp_draw (by kernel_rfl) ?_
    simp -implicitDefEqProofs only [YO_f, dc_app, dcont_s, DD_nil, DD_one, y_move, y_load, y_bin, y_indexAddr, awp_cond, seqQ_n, none_md, upd_app, ev_tmp, x_load, x_bin, x_indexAddr, holdsO_ofO, bin_neq, ↓reduceIte, Nat.reduceEqDiff, Nat.reduceAdd, Option.getD_some, enP, ix57, f0, f1, f13, ix_map hk', ix_map hkb, load_map ag3 hk', load_map ag3 hkb, encI0]
    refine cond_of (fun hd => ?_) (fun hd => ?_)
    · simp -implicitDefEqProofs only [awp_seq, awp_reg, awp_ret, seqQ_n, seqQ_r, blk_r, rnd_r, end_r, WW_one, WW_nil, none_md, none_fz, frz_nil, ownOp, wc_app, wcont_s, upd_app, ev_const, av_bool, x_assign, ↓reduceIte, Option.getD_some, Bool.not_false]
      have : decide (a[k] = b[k]) = false := by simpa using hd
      exact ⟨by rw [hi, this]; rfl, trivial⟩
    · simp -implicitDefEqProofs only [awp_reg, awp_skip, seqQ_n, blk_n, rnd_n, WW_one, WW_nil, none_md, none_fz, frz_nil, ownOp, wc_app, wcont_s, upd_app, ev_tmp, ev_const, av_int, x_move, x_bin, holdsO_ofO, bin_add, ↓reduceIte, Nat.reduceEqDiff, Option.getD_some, Bool.not_false, enP, f13, wrap_succ (show k < 9223372036854775807 by omega)]
      have : decide (a[k] = b[k]) = true := by simpa using hd
      exact ⟨n - 1, by omega, k + 1, by omega, f0, f1, f12, rfl, trivial, by rw [hi, this]; rfl⟩
  · have hk' : ¬ k < a.length := by simpa using hc
    simp -implicitDefEqProofs only [awp_seq, awp_reg, awp_ret, awp_exit, seqQ_n, seqQ_e, blk_e, rnd_e, end_r, WW_one, WW_nil, none_md, none_fz, frz_nil, ownOp, wc_app, wcont_s, upd_app, ev_const, av_bool, x_assign, ↓reduceIte, Option.getD_some, Bool.not_false]
    exact ⟨by rw [hi, List.drop_eq_nil_of_le (by omega), List.drop_eq_nil_of_le (by omega)]; rfl, trivial⟩


theorem same46_ref (G : Nat → AV) (a b : List Int) (s t : SM) (h : Hp) (hl : b.length ≤ 1099511627776) : PCall (En G) 148 [.sl s 1 (a.map encI), .sl t 1 (b.map encI)] h (.bool (eqL a b)) := by
  refine acalls_of (H := Hint.none) (enM G) Tryz.func148 rfl (by kernel_rfl) (by kernel_rfl) (Nat.le_of_ble_eq_true (by kernel_rfl)) ?_
  show awp _ _ _ _ _ (endQ _ [.tmp 4] _)
  simp -implicitDefEqProofs only [awp_seq, awp_reg, awp_cond, seqQ_n, WW_one, WW_nil, none_md, none_fz, frz_nil, ownOp, wc_app, wcont_s, upd_app, ev_tmp, ev_const, av_bool, x_move, x_assign, x_bin, x_len, holdsO_ofO, bin_neq, frameOf_zero, frameOf_succ, ↓reduceIte, Nat.reduceEqDiff, Option.getD_some, Bool.not_false, enP, ln57, List.length_map]
  refine cond_of (fun h1 => ?_) (fun h1 => ?_)
  · simp -implicitDefEqProofs only [awp_seq, awp_reg, awp_ret, seqQ_n, seqQ_r, end_r, WW_one, WW_nil, none_md, none_fz, frz_nil, ownOp, wc_app, wcont_s, upd_app, ev_const, av_bool, x_assign, ↓reduceIte, Option.getD_some, Bool.not_false]
    have : eqL a b = false := by
      unfold eqL; rw [decide_eq_false_iff_not]; intro e; subst e; simp at h1
    exact ⟨by rw [this], trivial⟩
  have hab : a.length = b.length := by simp at h1; omega
  simp -implicitDefEqProofs only [awp_seq, awp_block, awp_reg, awp_skip, seqQ_n, WW_one, WW_nil, none_md, none_fz, frz_nil, ownOp, wc_app, wcont_s, ev_const, av_int, x_assign, Option.getD_some, Bool.not_false]
  refine awp_loop (fun n F H => ∃ k, n + k = a.length ∧ F 0 = .sl s 1 (a.map encI) ∧ F 1 = .sl t 1 (b.map encI) ∧ F 5 = .int .i64 (k : Nat) ∧ H = h ∧ eqL a b = eqL (a.drop k) (b.drop k)) a.length ⟨0, by simp, by simp -implicitDefEqProofs only [upd_app, frameOf_zero, ↓reduceIte, Nat.reduceEqDiff], by simp -implicitDefEqProofs only [upd_app, frameOf_zero, frameOf_succ, ↓reduceIte, Nat.reduceEqDiff], by simp -implicitDefEqProofs only [upd_app, ↓reduceIte]; rfl, rfl, rfl⟩ ?_
  rintro n F H ⟨k, hk, f0, f1, f5, rfl, hi⟩
  simp -implicitDefEqProofs only [awp_seq, awp_reg, awp_cond, seqQ_n, WW_one, WW_nil, none_md, none_fz, frz_nil, ownOp, wc_app, wcont_s, upd_app, ev_tmp, x_move, x_bin, x_len, holdsO_ofO, bin_lss, ↓reduceIte, Nat.reduceEqDiff, Option.getD_some, Bool.not_false, enP, ln57, f0, f5, List.length_map]
  refine cond_of (fun hc => ?_) (fun hc => ?_)
  · have hk' : k < a.length := by simpa using hc
    have hkb : k < b.length := by omega
    rw [eqL_step hk' hkb] at hi
    simp -implicitDefEqProofs only [awp_seq, awp_block, awp_skip, seqQ_n]
    refine awp_draw (by kernel_rfl) ?_
    simp -implicitDefEqProofs only [YO_f, dc_app, dcont_s, DD_nil, DD_one, y_move, y_load, y_bin, y_indexAddr, awp_cond, seqQ_n, none_md, upd_app, ev_tmp, x_load, x_bin, x_indexAddr, holdsO_ofO, bin_neq, ↓reduceIte, Nat.reduceEqDiff, Nat.reduceAdd, Option.getD_some, enP, ix57, f0, f1, f5, ix_map hk', ix_map hkb, load_map ag3 hk', load_map ag3 hkb, encI0]
    refine cond_of (fun hd => ?_) (fun hd => ?_)
    · simp -implicitDefEqProofs only [awp_seq, awp_reg, awp_ret, seqQ_n, seqQ_r, blk_r, rnd_r, end_r, WW_one, WW_nil, none_md, none_fz, frz_nil, ownOp, wc_app, wcont_s, upd_app, ev_const, av_bool, x_assign, ↓reduceIte, Option.getD_some, Bool.not_false]
      have : decide (a[k] = b[k]) = false := by simpa using hd
      exact ⟨by rw [hi, this]; rfl, trivial⟩
    · simp -implicitDefEqProofs only [awp_reg, awp_skip, seqQ_n, blk_n, rnd_n, WW_one, WW_nil, none_md, none_fz, frz_nil, ownOp, wc_app, wcont_s, upd_app, ev_tmp, ev_const, av_int, x_move, x_assign, x_bin, holdsO_ofO, bin_add, ↓reduceIte, Nat.reduceEqDiff, Option.getD_some, Bool.not_false, enP, f5, wrap_succ (show k < 9223372036854775807 by omega)]
      have : decide (a[k] = b[k]) = true := by simpa using hd
      exact ⟨n - 1, by omega, k + 1, by omega, f0, f1, rfl, trivial, by rw [hi, this]; rfl⟩
  · have hk' : ¬ k < a.length := by simpa using hc
    simp -implicitDefEqProofs only [awp_seq, awp_reg, awp_ret, awp_exit, seqQ_n, seqQ_e, blk_e, rnd_e, end_r, WW_one, WW_nil, none_md, none_fz, frz_nil, ownOp, wc_app, wcont_s, upd_app, ev_const, av_bool, x_assign, ↓reduceIte, Option.getD_some, Bool.not_false]
    exact ⟨by rw [hi, List.drop_eq_nil_of_le (by omega), List.drop_eq_nil_of_le (by omega)]; rfl, trivial⟩


theorem same47_ref (G : Nat → AV) (a b : List Int) (s t : SM) (h : Hp) (hl : b.length ≤ 1099511627776) : PCall (En G) 192 [.sl s 1 (a.map encI), .sl t 1 (b.map encI)] h (.bool (eqL a b)) := by
  refine acalls_of (H := Hint.none) (enM G) Tryz.func192 rfl (by kernel_rfl) (by kernel_rfl) (Nat.le_of_ble_eq_true (by kernel_rfl)) ?_
  show awp _ _ _ _ _ (endQ _ [.tmp 4] _)
  simp -implicitDefEqProofs only [awp_seq, awp_reg, awp_cond, seqQ_n, WW_one, WW_nil, none_md, none_fz, frz_nil, ownOp, wc_app, wcont_s, upd_app, ev_tmp, ev_const, av_bool, x_move, x_assign, x_bin, x_len, holdsO_ofO, bin_neq, frameOf_zero, frameOf_succ, ↓reduceIte, Nat.reduceEqDiff, Option.getD_some, Bool.not_false, enP, ln57, List.length_map]
  refine cond_of (fun h1 => ?_) (fun h1 => ?_)
  · simp -implicitDefEqProofs only [awp_seq, awp_reg, awp_ret, seqQ_n, seqQ_r, end_r, WW_one, WW_nil, none_md, none_fz, frz_nil, ownOp, wc_app, wcont_s, upd_app, ev_const, av_bool, x_assign, ↓reduceIte, Option.getD_some, Bool.not_false]
    have : eqL a b = false := by
      unfold eqL; rw [decide_eq_false_iff_not]; intro e; subst e; simp at h1
    exact ⟨by rw [this], trivial⟩
  have hab : a.length = b.length := by simp at h1; omega
  simp -implicitDefEqProofs only [awp_seq, awp_block, awp_reg, awp_skip, seqQ_n, WW_one, WW_nil, none_md, none_fz, frz_nil, ownOp, wc_app, wcont_s, ev_const, av_int, x_assign, Option.getD_some, Bool.not_false]
  refine awp_loop (fun n F H => ∃ k, n + k = a.length ∧ F 0 = .sl s 1 (a.map encI) ∧ F 1 = .sl t 1 (b.map encI) ∧ F 5 = .int .i64 (k : Nat) ∧ H = h ∧ eqL a b = eqL (a.drop k) (b.drop k)) a.length ⟨0, by simp, by simp -implicitDefEqProofs only [upd_app, frameOf_zero, ↓reduceIte, Nat.reduceEqDiff], by simp -implicitDefEqProofs only [upd_app, frameOf_zero, frameOf_succ, ↓reduceIte, Nat.reduceEqDiff], by simp -implicitDefEqProofs only [upd_app, ↓reduceIte]; rfl, rfl, rfl⟩ ?_
  rintro n F H ⟨k, hk, f0, f1, f5, rfl, hi⟩
  simp -implicitDefEqProofs only [awp_seq, awp_reg, awp_cond, seqQ_n, WW_one, WW_nil, none_md, none_fz, frz_nil, ownOp, wc_app, wcont_s, upd_app, ev_tmp, x_move, x_bin, x_len, holdsO_ofO, bin_lss, ↓reduceIte, Nat.reduceEqDiff, Option.getD_some, Bool.not_false, enP, ln57, f0, f5, List.length_map]
  refine cond_of (fun hc => ?_) (fun hc => ?_)
  · have hk' : k < a.length := by simpa using hc
    have hkb : k < b.length := by omega
    rw [eqL_step hk' hkb] at hi
    simp -implicitDefEqProofs only [awp_seq, awp_block, awp_skip, seqQ_n]
    refine awp_draw (by kernel_rfl) ?_
    simp -implicitDefEqProofs only [YO_f, dc_app, dcont_s, DD_nil, DD_one, y_move, y_load, y_bin, y_indexAddr, awp_cond, seqQ_n, none_md, upd_app, ev_tmp, x_load, x_bin, x_indexAddr, holdsO_ofO, bin_neq, ↓reduceIte, Nat.reduceEqDiff, Nat.reduceAdd, Option.getD_some, enP, ix57, f0, f1, f5, ix_map hk', ix_map hkb, load_map ag3 hk', load_map ag3 hkb, encI0]
    refine cond_of (fun hd => ?_) (fun hd => ?_)
    · simp -implicitDefEqProofs only [awp_seq, awp_reg, awp_ret, seqQ_n, seqQ_r, blk_r, rnd_r, end_r, WW_one, WW_nil, none_md, none_fz, frz_nil, ownOp, wc_app, wcont_s, upd_app, ev_const, av_bool, x_assign, ↓reduceIte, Option.getD_some, Bool.not_false]
      have : decide (a[k] = b[k]) = false := by simpa using hd
      exact ⟨by rw [hi, this]; rfl, trivial⟩
    · simp -implicitDefEqProofs only [awp_reg, awp_skip, seqQ_n, blk_n, rnd_n, WW_one, WW_nil, none_md, none_fz, frz_nil, ownOp, wc_app, wcont_s, upd_app, ev_tmp, ev_const, av_int, x_move, x_assign, x_bin, holdsO_ofO, bin_add, ↓reduceIte, Nat.reduceEqDiff, Option.getD_some, Bool.not_false, enP, f5, wrap_succ (show k < 9223372036854775807 by omega)]
      have : decide (a[k] = b[k]) = true := by simpa using hd
      exact ⟨n - 1, by omega, k + 1, by omega, f0, f1, rfl, trivial, by rw [hi, this]; rfl⟩
  · have hk' : ¬ k < a.length := by simpa using hc
    simp -implicitDefEqProofs only [awp_seq, awp_reg, awp_ret, awp_exit, seqQ_n, seqQ_e, blk_e, rnd_e, end_r, WW_one, WW_nil, none_md, none_fz, frz_nil, ownOp, wc_app, wcont_s, upd_app, ev_const, av_bool, x_assign, ↓reduceIte, Option.getD_some, Bool.not_false]
    exact ⟨by rw [hi, List.drop_eq_nil_of_le (by omega), List.drop_eq_nil_of_le (by omega)]; rfl, trivial⟩


def withinB (n : Int) : Bool := decide (0 ≤ n) && decide (n ≤ 1099511627776)
def countB (n : Int) (may : Bool) : Bool := withinB n && (may || n == 0)
theorem within_ref (G : Nat → AV) (n : Int) (h : Hp) : PCall (En G) 88 [.int .i64 n] h (.bool (withinB n)) := by
  refine acalls_of (H := Hint.none) (enM G) Tryz.func88 rfl (by kernel_rfl) (by kernel_rfl) (Nat.le_of_ble_eq_true (by kernel_rfl)) ?_
  show awp _ _ _ _ _ (endQ _ [.tmp 2] _)
  simp -implicitDefEqProofs only [awp_seq, awp_reg, seqQ_n, WW_one, WW_nil, WW_guardE, GX_some, gdstO, none_md, none_fz, frz_nil, ownOp, wc_app, wcont_s, upd_app, ev_tmp, ev_const, av_int, av_bool, x_move, x_assign, x_bin, holdsO_ofO, bin_geq, frameOf_zero, ↓reduceIte, Nat.reduceEqDiff, Option.getD_some, Bool.not_false, enP]
  cases ha : decide (n ≥ 0)
  all_goals
    simp -implicitDefEqProofs only [awp_ret, seqQ_n, end_r, WW_one, WW_nil, WW_guardE, GX_some, gdstO, G1_tt, G1_tf, none_md, none_fz, frz_nil, ownOp, wc_app, wcont_s, upd_app, aput, ev_tmp, ev_const, av_int, av_bool, x_move, x_assign, x_pick, pick_t, pick_f, x_bin, holdsO_ofO, bin_leq, frameOf_zero, ↓reduceIte, Nat.reduceEqDiff, Option.getD_some, Bool.not_false, enP, ha]
    exact ⟨by unfold withinB; rw [show decide (0 ≤ n) = decide (n ≥ 0) from rfl, ha]; rfl, trivial⟩
theorem count_prog (G : Nat → AV) (n : Int) (may : Bool) (h : Hp) : PCall (En G) 126 [.int .i64 n, .bool may] h (.bool (countB n may)) := by
  refine acalls_of (H := Hint.none) (enM G) Tryz.func126 rfl (by kernel_rfl) (by kernel_rfl) (Nat.le_of_ble_eq_true (by kernel_rfl)) ?_
  show awp _ _ _ _ _ (endQ _ [.tmp 4] _)
  simp -implicitDefEqProofs only [awp_seq, awp_reg, seqQ_n, WW_one, WW_nil, WW_guardE, GX_some, gdstO, none_md, none_fz, frz_nil, ownOp, wc_app, wcont_s, upd_app, ev_tmp, ev_const, av_int, av_bool, x_move, x_assign, x_bin, holdsO_ofO, bin_geq, frameOf_zero, ↓reduceIte, Nat.reduceEqDiff, Option.getD_some, Bool.not_false, enP]
  cases ha : decide (n ≥ 0) <;> cases hb : decide (n ≤ 1099511627776) <;> cases may
  all_goals
    simp -implicitDefEqProofs only [awp_ret, seqQ_n, end_r, WW_one, WW_nil, WW_guardE, GX_some, gdstO, G1_tt, G1_ff, G1_tf, G1_ft, G1_u, none_md, none_fz, frz_nil, ownOp, wc_app, wcont_s, upd_app, aput, ev_tmp, ev_const, av_int, av_bool, x_move, x_assign, x_pick, pick_t, pick_f, x_bin, holdsO_ofO, bin_eql, bin_leq, frameOf_zero, frameOf_succ, ↓reduceIte, Nat.reduceEqDiff, Option.getD_some, Bool.not_false, enP, ha, hb]
    exact ⟨by unfold countB withinB; rw [show decide (0 ≤ n) = decide (n ≥ 0) from rfl, ha, hb]; rfl, trivial⟩
theorem counts_prog (G : Nat → AV) (b : Bin) (h : Hp) : PCall (En G) 179 [.agg (encB b)] h (.bool (b.kind == 0)) := by
  refine ACalls.pure0 rfl ?_
  refine acalls_of (H := Hint.none) (enM G) Tryz.func179 rfl (by kernel_rfl) (by kernel_rfl) (Nat.le_of_ble_eq_true (by kernel_rfl)) ?_
  show awp _ _ _ _ _ (endQ _ [.tmp 2] _)
  simp -implicitDefEqProofs only [awp_seq, awp_reg, awp_ret, seqQ_n, end_r, WW_one, WW_nil, none_md, none_fz, frz_nil, ownOp, wc_app, wcont_s, upd_app, ev_tmp, ev_const, av_int, av_bool, x_assign, x_box, x_load, x_bin, x_fieldAddr, holdsO_some, holdsO_ofO, bin_eql, frameOf_zero, ↓reduceIte, Nat.reduceEqDiff, Nat.zero_add, Option.getD_some, Bool.not_false, enP, fa121_1, bxB, load_last ag3, encB1]
  exact ⟨trivial, _, rfl⟩
/-- do all bins of a combination count? -/
def kindAt (m : Mo) (p b : Int) : Int := match (binsAt m p)[b.toNat]? with
  | some x => x.kind
  | none => 0
def kindsB (m : Mo) : List Int → List Int → Bool
  | p :: ps, b :: bs => (kindAt m p b == 0) && kindsB m ps bs
  | _, _ => true
def hitB (m : Mo) (c : Cr) (l : List Int) : Bool := kindsB m c.pts l && !(c.excl.any fun x => eqL x.l l)
theorem insT_at {m : Mo} : ∀ {ps l : List Int}, insT (szs m ps) l = true → ∀ (k : Nat) (hk : k < l.length) (hp : k < ps.length), 0 ≤ l[k] ∧ l[k] < ((binsAt m ps[k]).length : Int)
  | p :: ps, b :: bs, h, k, hk, hp => by
    simp only [szs, List.map_cons, insT, Bool.and_eq_true, decide_eq_true_eq] at h
    cases k with
    | zero => exact h.1
    | succ k => exact insT_at (m := m) (ps := ps) h.2 k (by simpa using hk) (by simpa using hp)
  | [], b :: bs, h, k, hk, hp => by simp at hp
  | _, [], h, k, hk, hp => by simp at hk
theorem kindsB_step (m : Mo) (ps l : List Int) (k : Nat) (hp : k < ps.length) (hk : k < l.length) : kindsB m (ps.drop k) (l.drop k) = ((kindAt m ps[k] l[k] == 0) && kindsB m (ps.drop (k + 1)) (l.drop (k + 1))) := by
  rw [List.drop_eq_getElem_cons hp, List.drop_eq_getElem_cons hk]; rfl
theorem kindsB_nil (m : Mo) (ps : List Int) : kindsB m ps [] = true := by cases ps <;> rfl
/-- a bin of a combination, read -/
theorem bin_ix {m : Mo} {p b : Int} (h0 : 0 ≤ b) (h1 : b < ((binsAt m p).length : Int)) (h : Hp) (s : SM) : ixSl 4 h (.sl s 4 ((binsAt m p).map encB)) (.int .i64 b) = some (.fptr 4 ((binsAt m p).map encB) b.toNat 0) :=
  ix_sl h0 (by rw [List.length_map]; exact h1)
theorem bin_kind {m : Mo} {p b : Int} (h0 : 0 ≤ b) (h1 : b < ((binsAt m p).length : Int)) : ((binsAt m p)[b.toNat]'(by omega)).kind = kindAt m p b := by
  unfold kindAt; rw [List.getElem?_eq_getElem (by omega)]
theorem excl_fn (G : Nat → AV) (l : List Int) (s : SM) (b : Nat) (r : Is) (h : Hp) (hb : h[b]? = some (.live 1 [[.sl s 1 (l.map encI)]])) (hl : l.length ≤ 1099511627776) :
    PCall (En G) 221 [.sl r.m 1 (r.l.map encI), .ptr b 0 0] h (.bool (eqL r.l l)) := by
  refine acalls_of (H := Hint.none) (enM G) Tryz.func221 rfl (by kernel_rfl) (by kernel_rfl) (Nat.le_of_ble_eq_true (by kernel_rfl)) ?_
  show awp _ _ _ _ _ (endQ _ [.tmp 3] _)
  simp -implicitDefEqProofs only [awp_seq, awp_reg, seqQ_n, WW_one, WW_nil, none_md, none_fz, frz_nil, ownOp, wc_app, wcont_s, upd_app, ev_tmp, ev_const, ev_func, av_bool, x_move, x_assign, x_load, X1_call, callA_fn, holdsO_ofO, frameOf_zero, frameOf_succ, List.map_cons, List.map_nil, List.append_nil, ↓reduceIte, Nat.reduceEqDiff, Option.getD_some, Bool.not_false, enP, ld_cell ag57 hb]
  refine (equal_prog G r.l l r.m s h hl).use ?_
  simp -implicitDefEqProofs only [awp_ret, seqQ_n, end_r, WW_one, WW_nil, none_md, none_fz, frz_nil, ownOp, wc_app, wcont_s, upd_app, ev_tmp, x_assign, ↓reduceIte, Option.getD_some, Bool.not_false]
  exact ⟨trivial, trivial⟩
end Go.Proofs.YtocilianjfhifaaGreatDoor.Cov
/- Combinations that count, and the combination with a number, on both sides (but cover.tuple); no condition but the bounds on lengths. -/
set_option linter.unusedSimpArgs false
set_option maxRecDepth 8000
namespace Go.Proofs.YtocilianjfhifaaGreatDoor.Cov
open Go Go.Proofs Go.Proofs.YtocilianjfhifaaGreatDoor.Sm Go.Proofs.YtocilianjfhifaaGreatDoor.Bins Go.RowKit

theorem Two.app {h H : Hp} {m : Mo} {c : Cr} {cb : Nat} (t : Two h H m c cb) (x : Hp) : Two h (H ++ x) m c cb := by
  obtain ⟨y, hy⟩ := t.hx
  exact ⟨below_getL t.gm, below_getL t.gc, ⟨y ++ x, by rw [hy, List.append_assoc]⟩⟩
theorem hittable_prog (G : Nat → AV) (m : Mo) (c : Cr) (l : List Int) (s : SM) (h : Hp) (hh : Here m c.pts) (hi : insT (szs m c.pts) l = true) (hl : c.pts.length ≤ 1048576) (hx : c.excl.length ≤ 1048576) : PCall (En G) 169 [.agg (encM m), .agg (encC c), .sl s 1 (l.map encI)] h (.bool (hitB m c l)) := by
  refine ACalls.pure0 rfl ?_
  have hlen : l.length = c.pts.length := by have := insT_len hi; rw [szs_len] at this; omega
  refine acalls_of (H := Hint.none) (enM G) Tryz.func169 rfl (by kernel_rfl) (by kernel_rfl) (Nat.le_of_ble_eq_true (by kernel_rfl)) ?_
  show awp _ _ _ _ _ (endQ _ [.tmp 6] _)
  have t := (Two.mk' h m c).app [.live 1 [[.sl s 1 (l.map encI)]]]
  have gl := top_get (h ++ [ABlk.live 2 [encM m]] ++ [ABlk.live 3 [encC c]]) (.live 1 [[.sl s 1 (l.map encI)]])
  simp -implicitDefEqProofs only [box_sl, awp_seq, awp_reg, seqQ_n, WW_one, WW_nil, none_md, none_fz, frz_nil, ownOp, wc_app, wcont_s, upd_app, ev_tmp, ev_const, av_bool, x_assign, x_box, x_load, holdsO_some, frameOf_zero, frameOf_succ, ↓reduceIte, Nat.reduceEqDiff, Option.getD_some, Bool.not_false, enP, bxM, bxC]
  generalize h ++ [ABlk.live 2 [encM m]] ++ [ABlk.live 3 [encC c]] ++ [ABlk.live 1 [[.sl s 1 (l.map encI)]]] = H at t gl ⊢
  generalize (h ++ [ABlk.live 2 [encM m]] ++ [ABlk.live 3 [encC c]]).length = lb at gl ⊢
  generalize (h ++ [ABlk.live 2 [encM m]]).length = cb at t ⊢
  simp -implicitDefEqProofs only [awp_block, seqQ_n, WW_one, WW_nil, none_md, none_fz, frz_nil, ownOp, wc_app, wcont_s, upd_app, ev_tmp, ev_const, av_int, x_move, x_len, holdsO_ofO, ↓reduceIte, Option.getD_some, Bool.not_false, enP, ln57, ld_cell ag57 gl, List.length_map]
  have hkb := kindsB_step m c.pts l
  refine awp_lp 0 (fun F H' => F 4 = .ptr cb 0 0 ∧ F 5 = .ptr lb 0 0 ∧ H' = H ∧ kindsB m c.pts l = true) (fun F H' => F 6 = .bool false ∧ H' = H ∧ kindsB m c.pts l = false) ?_ ?_ ?_
  · refine awp_loop (fun n F H' => ∃ k, n + k = l.length ∧ F 3 = .ptr h.length 0 0 ∧ F 4 = .ptr cb 0 0 ∧ F 5 = .ptr lb 0 0 ∧ F 9 = .sl s 1 (l.map encI) ∧ F 10 = .int .i64 l.length ∧ F 11 = .int .i64 (k : Nat) ∧ H' = H ∧ kindsB m c.pts l = kindsB m (c.pts.drop k) (l.drop k)) l.length ⟨0, by simp, by simp -implicitDefEqProofs only [upd_app, ↓reduceIte, Nat.reduceEqDiff], by simp -implicitDefEqProofs only [upd_app, ↓reduceIte, Nat.reduceEqDiff], by simp -implicitDefEqProofs only [upd_app, ↓reduceIte, Nat.reduceEqDiff], by simp -implicitDefEqProofs only [upd_app, ↓reduceIte, Nat.reduceEqDiff], by simp -implicitDefEqProofs only [upd_app, ↓reduceIte, Nat.reduceEqDiff], by simp -implicitDefEqProofs only [upd_app, ↓reduceIte]; rfl, rfl, rfl⟩ ?_
    rintro n F H' ⟨k, hk, f3, f4, f5, f9, f10, f11, rfl, hk0⟩
    simp -implicitDefEqProofs only [awp_seq, awp_reg, awp_cond, seqQ_n, WW_one, WW_nil, none_md, none_fz, frz_nil, ownOp, wc_app, wcont_s, upd_app, ev_tmp, x_bin, holdsO_ofO, bin_lss, ↓reduceIte, Option.getD_some, Bool.not_false, enP, f10, f11]
    refine cond_of (fun hc => ?_) (fun hc => ?_)
    · have hk' : k < l.length := by simpa using hc
      have hkc : k < c.pts.length := by omega
      rw [hkb k hkc hk'] at hk0
      obtain ⟨h0, h1⟩ := insT_at hi k hk' hkc
      obtain ⟨s2, ls⟩ := hh.ld hkc H'
      simp -implicitDefEqProofs only [awp_seq, awp_block, awp_reg, awp_skip, seqQ_n, WW_one, WW_nil, none_md, none_fz, frz_nil, ownOp, wc_app, wcont_s, upd_app, ev_tmp, x_move, x_assign, x_load, x_indexAddr, holdsO_ofO, ↓reduceIte, Nat.reduceEqDiff, Option.getD_some, Bool.not_false, enP, ix57, f9, f11, ix_map hk', load_map ag3 hk', encI0]
      refine awp_draw (by kernel_rfl) ?_
      simp -implicitDefEqProofs only [YO_f, dc_app, dcont_s, DD_one, y_move, y_load, y_un, y_fieldAddr, y_indexAddr, Y1_call, callP_fn, none_md, upd_app, ev_tmp, ev_func, x_load, x_un, x_fieldAddr, x_indexAddr, holdsO_ofO, List.map_cons, List.map_nil, List.append_nil, ↓reduceIte, Nat.reduceEqDiff, Nat.reduceAdd, Nat.add_zero, Nat.zero_add, Option.getD_some, enP, ix22, fa25_0, ix54, fa56_2, ix57, fa71_1, f3, f4, f11, t.lm, t.l1, ix_map hkc, load_map ag3 hkc, encI0, hh.ix hkc, ls, bin_ix h0 h1, load_mapA ag121 sz121 encB_len (show l[k].toNat < (binsAt m c.pts[k]).length by omega)]
      refine ⟨_, counts_prog G _ _, ?_⟩
      try simp -implicitDefEqProofs only [dcont_s, DD_nil, awp_cond, seqQ_n, upd_app, ev_tmp, holdsO_ofO, un_not, ↓reduceIte]
      rw [bin_kind h0 h1]
      cases hkd : (kindAt m c.pts[k] l[k] == 0)
      · simp -implicitDefEqProofs only [awp_seq, awp_reg, awp_ret, seqQ_n, seqQ_r, blk_r, lp_r, rnd_r, cond_t, WW_one, WW_nil, none_md, none_fz, frz_nil, ownOp, wc_app, wcont_s, upd_app, ev_const, av_bool, x_assign, ↓reduceIte, Option.getD_some, Bool.not_false]
        exact ⟨trivial, trivial, by rw [hk0, hkd]; rfl⟩
      · simp -implicitDefEqProofs only [awp_reg, awp_skip, seqQ_n, blk_n, rnd_n, cond_f, WW_one, WW_nil, none_md, none_fz, frz_nil, ownOp, wc_app, wcont_s, upd_app, ev_tmp, ev_const, av_int, x_move, x_bin, holdsO_ofO, bin_add, ↓reduceIte, Nat.reduceEqDiff, Option.getD_some, Bool.not_true, Bool.not_false, enP, f11, wrap_succ (show k < 9223372036854775807 by omega)]
        exact ⟨n - 1, by omega, k + 1, by omega, f3, f4, f5, f9, f10, rfl, trivial, by rw [hk0, hkd]; rfl⟩
    · have hk' : ¬ k < l.length := by simpa using hc
      simp -implicitDefEqProofs only [awp_exit, seqQ_e, lp_e, rnd_e, upd_app, ↓reduceIte, Nat.reduceEqDiff]
      exact ⟨f4, f5, trivial, by rw [hk0, List.drop_eq_nil_of_le (show l.length ≤ k by omega), kindsB_nil]⟩
  · rintro F H' ⟨f4, f5, rfl, hk⟩
    simp -implicitDefEqProofs only [awp_seq, awp_reg, seqQ_n, blk_e, WW_one, none_md, none_fz, frz_nil, ownOp, wc_app, wcont_s, upd_app, ev_tmp, ev_func, x_load, x_makeFunc, x_fieldAddr, X1_call, callA_fn, holdsO_ofO, List.map_cons, List.map_nil, List.append_nil, ↓reduceIte, Nat.reduceEqDiff, Nat.zero_add, Option.getD_some, Bool.not_false, enP, fa71_2, f4, f5, t.l2]
    refine (containsFunc26 G c.excl c.xm 221 _ (fun x => eqL x.l l) _ (by omega) fun r => excl_fn G l s _ r _ gl (by omega)).use ?_
    simp -implicitDefEqProofs only [awp_ret, seqQ_n, end_r, WW_one, WW_nil, none_md, none_fz, frz_nil, ownOp, wc_app, wcont_s, upd_app, ev_tmp, x_assign, x_un, holdsO_ofO, un_not, ↓reduceIte, Option.getD_some, Bool.not_false]
    exact ⟨by unfold hitB; rw [hk]; rfl, t.hx⟩
  · rintro F H' ⟨f6, rfl, hk⟩
    simp -implicitDefEqProofs only [seqQ_r, blk_r, end_r, f6]
    exact ⟨by unfold hitB; rw [hk]; rfl, t.hx⟩
theorem counts_ref (G : Nat → AV) (m : Mo) (c : Cr) (l : List Int) (s : SM) (h : Hp) (hh : Here m c.pts) (hi : insT (szs m c.pts) l = true) (hl : c.pts.length ≤ 1048576) (hx : c.excl.length ≤ 1048576) : PCall (En G) 90 [.agg (encM m), .agg (encC c), .sl s 1 (l.map encI)] h (.bool (hitB m c l)) := by
  refine ACalls.pure0 rfl ?_
  have hlen : l.length = c.pts.length := by have := insT_len hi; rw [szs_len] at this; omega
  refine acalls_of (H := Hint.none) (enM G) Tryz.func90 rfl (by kernel_rfl) (by kernel_rfl) (Nat.le_of_ble_eq_true (by kernel_rfl)) ?_
  show awp _ _ _ _ _ (endQ _ [.tmp 6] _)
  have t := Two.mk' h m c
  simp -implicitDefEqProofs only [awp_seq, awp_block, awp_reg, seqQ_n, WW_one, WW_nil, none_md, none_fz, frz_nil, ownOp, wc_app, wcont_s, upd_app, ev_tmp, ev_const, av_int, av_bool, x_assign, x_box, holdsO_some, frameOf_zero, frameOf_succ, ↓reduceIte, Nat.reduceEqDiff, Option.getD_some, Bool.not_false, enP, bxM, bxC]
  generalize h ++ [ABlk.live 2 [encM m]] ++ [ABlk.live 3 [encC c]] = H at t ⊢
  generalize (h ++ [ABlk.live 2 [encM m]]).length = cb at t ⊢
  have hkb := kindsB_step m c.pts l
  refine awp_lp 0 (fun F H' => F 2 = .sl s 1 (l.map encI) ∧ F 3 = .ptr h.length 0 0 ∧ F 4 = .ptr cb 0 0 ∧ H' = H ∧ (c.excl.any fun x => eqL x.l l) = false) (fun F H' => F 6 = .bool false ∧ H' = H ∧ (c.excl.any fun x => eqL x.l l) = true) ?_ ?_ ?_
  · refine awp_loop (fun n F H' => ∃ k, n + k = c.excl.length ∧ F 2 = .sl s 1 (l.map encI) ∧ F 3 = .ptr h.length 0 0 ∧ F 4 = .ptr cb 0 0 ∧ F 7 = .int .i64 (k : Nat) ∧ H' = H ∧ (c.excl.any fun x => eqL x.l l) = ((c.excl.drop k).any fun x => eqL x.l l)) c.excl.length ⟨0, by simp, by simp -implicitDefEqProofs only [upd_app, frameOf_zero, frameOf_succ, ↓reduceIte, Nat.reduceEqDiff], by simp -implicitDefEqProofs only [upd_app, ↓reduceIte, Nat.reduceEqDiff], by simp -implicitDefEqProofs only [upd_app, ↓reduceIte, Nat.reduceEqDiff], by simp -implicitDefEqProofs only [upd_app, ↓reduceIte]; rfl, rfl, rfl⟩ ?_
    rintro n F H' ⟨k, hk, f2, f3, f4, f7, rfl, ha⟩
    simp -implicitDefEqProofs only [awp_seq, awp_reg, awp_cond, seqQ_n, WW_one, WW_nil, none_md, none_fz, frz_nil, ownOp, wc_app, wcont_s, upd_app, ev_tmp, x_move, x_load, x_bin, x_fieldAddr, x_len, holdsO_ofO, bin_lss, ↓reduceIte, Nat.reduceEqDiff, Nat.zero_add, Option.getD_some, Bool.not_false, enP, ln26, fa71_2, f4, f7, t.l2, List.length_map]
    refine cond_of (fun hc => ?_) (fun hc => ?_)
    · have hk' : k < c.excl.length := by simpa using hc
      have hs := any_step (fun x : Is => eqL x.l l) c.excl k hk'
      simp -implicitDefEqProofs only [awp_seq, awp_block, awp_reg, awp_skip, seqQ_n, WW_one, none_md, none_fz, frz_nil, ownOp, wc_app, wcont_s, upd_app, ev_tmp, ev_func, x_move, x_load, x_fieldAddr, x_indexAddr, X1_call, callA_fn, holdsO_ofO, List.map_cons, List.map_nil, List.append_nil, ↓reduceIte, Nat.reduceEqDiff, Nat.zero_add, Option.getD_some, Bool.not_false, enP, ix26, fa71_2, f2, f4, f7, t.l2, ix_map hk', load_map ag57 hk', encL0]
      refine (same46_ref G c.excl[k].l l _ s _ (by omega)).use ?_
      simp -implicitDefEqProofs only [awp_cond, seqQ_n, WW_nil, wcont_s, upd_app, ev_tmp, ↓reduceIte]
      cases he : eqL c.excl[k].l l
      · simp -implicitDefEqProofs only [awp_reg, awp_skip, seqQ_n, blk_n, rnd_n, cond_f, WW_one, WW_nil, none_md, none_fz, frz_nil, ownOp, wc_app, wcont_s, upd_app, ev_tmp, ev_const, av_int, x_move, x_assign, x_bin, holdsO_ofO, bin_add, ↓reduceIte, Nat.reduceEqDiff, Option.getD_some, Bool.not_false, enP, f7, wrap_succ (show k < 9223372036854775807 by omega)]
        exact ⟨n - 1, by omega, k + 1, by omega, f2, f3, f4, rfl, trivial, by rw [ha, hs, he]; rfl⟩
      · simp -implicitDefEqProofs only [awp_seq, awp_reg, awp_ret, seqQ_n, seqQ_r, blk_r, lp_r, rnd_r, cond_t, WW_one, WW_nil, none_md, none_fz, frz_nil, ownOp, wc_app, wcont_s, upd_app, ev_const, av_bool, x_assign, ↓reduceIte, Option.getD_some, Bool.not_false]
        exact ⟨trivial, trivial, by rw [ha, hs, he]; rfl⟩
    · have hk' : ¬ k < c.excl.length := by simpa using hc
      simp -implicitDefEqProofs only [awp_exit, seqQ_e, lp_e, rnd_e, upd_app, ↓reduceIte, Nat.reduceEqDiff]
      exact ⟨f2, f3, f4, trivial, by rw [ha, List.drop_eq_nil_of_le (by omega)]; rfl⟩
  · rintro F H' ⟨f2, f3, f4, rfl, ha⟩
    have hhb : hitB m c l = kindsB m c.pts l := by unfold hitB; rw [ha]; simp
    rw [hhb]
    simp -implicitDefEqProofs only [awp_seq, awp_block, awp_reg, seqQ_n, blk_e, WW_one, WW_nil, none_md, none_fz, frz_nil, ownOp, wc_app, wcont_s, ev_const, av_int, x_assign, ↓reduceIte, Option.getD_some, Bool.not_false]
    refine awp_loop (fun n F H => ∃ k, n + k = l.length ∧ F 2 = .sl s 1 (l.map encI) ∧ F 3 = .ptr h.length 0 0 ∧ F 4 = .ptr cb 0 0 ∧ F 8 = .int .i64 (k : Nat) ∧ H = H' ∧ kindsB m c.pts l = kindsB m (c.pts.drop k) (l.drop k)) l.length ⟨0, by simp, by simp -implicitDefEqProofs only [upd_app, ↓reduceIte, Nat.reduceEqDiff, f2], by simp -implicitDefEqProofs only [upd_app, ↓reduceIte, Nat.reduceEqDiff, f3], by simp -implicitDefEqProofs only [upd_app, ↓reduceIte, Nat.reduceEqDiff, f4], by simp -implicitDefEqProofs only [upd_app, ↓reduceIte]; rfl, rfl, rfl⟩ ?_
    clear f2 f3 f4
    rintro n F H' ⟨k, hk, f2, f3, f4, f8, rfl, hk0⟩
    simp -implicitDefEqProofs only [awp_seq, awp_reg, awp_cond, seqQ_n, WW_one, WW_nil, none_md, none_fz, frz_nil, ownOp, wc_app, wcont_s, upd_app, ev_tmp, x_move, x_bin, x_len, holdsO_ofO, bin_lss, ↓reduceIte, Nat.reduceEqDiff, Option.getD_some, Bool.not_false, enP, ln57, f2, f8, List.length_map]
    refine cond_of (fun hc => ?_) (fun hc => ?_)
    · have hk' : k < l.length := by simpa using hc
      have hkc : k < c.pts.length := by omega
      rw [hkb k hkc hk'] at hk0
      obtain ⟨h0, h1⟩ := insT_at hi k hk' hkc
      obtain ⟨s2, ls⟩ := hh.ld hkc H'
      have hlt : l[k].toNat < (binsAt m c.pts[k]).length := by omega
      simp -implicitDefEqProofs only [awp_seq, awp_block, awp_skip, seqQ_n]
      refine awp_draw (by kernel_rfl) ?_
      simp -implicitDefEqProofs only [YO_f, dc_app, dcont_s, DD_nil, DD_one, y_move, y_load, y_bin, y_fieldAddr, y_indexAddr, awp_cond, seqQ_n, none_md, upd_app, ev_tmp, ev_const, av_int, x_load, x_bin, x_fieldAddr, x_indexAddr, holdsO_ofO, bin_neq, ↓reduceIte, Nat.reduceEqDiff, Nat.reduceAdd, Nat.add_zero, Nat.zero_add, Option.getD_some, enP, ix22, fa25_0, ix54, fa56_2, ix57, fa71_1, fa121_1, bne, f2, f3, f4, f8, t.lm, t.l1, ix_map hkc, load_map ag3 hkc, ix_map hk', load_map ag3 hk', encI0, hh.ix hkc, ls, bin_ix h0 h1, load_map ag3 hlt, encB1, bin_kind h0 h1]
      cases hkd : (kindAt m c.pts[k] l[k] == 0)
      · simp -implicitDefEqProofs only [awp_seq, awp_reg, awp_ret, seqQ_n, seqQ_r, blk_r, rnd_r, end_r, cond_t, WW_one, WW_nil, none_md, none_fz, frz_nil, ownOp, wc_app, wcont_s, upd_app, ev_const, av_bool, x_assign, ↓reduceIte, Option.getD_some, Bool.not_false]
        exact ⟨by rw [hk0, hkd]; rfl, t.hx⟩
      · simp -implicitDefEqProofs only [awp_reg, awp_skip, seqQ_n, blk_n, rnd_n, cond_f, WW_one, WW_nil, none_md, none_fz, frz_nil, ownOp, wc_app, wcont_s, upd_app, ev_tmp, ev_const, av_int, x_move, x_assign, x_bin, holdsO_ofO, bin_add, ↓reduceIte, Nat.reduceEqDiff, Option.getD_some, Bool.not_true, Bool.not_false, enP, f8, wrap_succ (show k < 9223372036854775807 by omega)]
        exact ⟨n - 1, by omega, k + 1, by omega, f2, f3, f4, rfl, trivial, by rw [hk0, hkd]; rfl⟩
    · have hk' : ¬ k < l.length := by simpa using hc
      simp -implicitDefEqProofs only [awp_seq, awp_reg, awp_ret, awp_exit, seqQ_n, seqQ_e, blk_e, rnd_e, end_r, WW_one, WW_nil, none_md, none_fz, frz_nil, ownOp, wc_app, wcont_s, upd_app, ev_const, av_bool, x_assign, ↓reduceIte, Option.getD_some, Bool.not_false]
      exact ⟨by rw [hk0, List.drop_eq_nil_of_le (show l.length ≤ k by omega), kindsB_nil], t.hx⟩
  · rintro F H' ⟨f6, rfl, ha⟩
    simp -implicitDefEqProofs only [seqQ_r, blk_r, end_r, f6]
    exact ⟨by unfold hitB; rw [ha]; simp, t.hx⟩
end Go.Proofs.YtocilianjfhifaaGreatDoor.Cov
/- The combination with a number: the reference's Tuple of layer 46; no condition but the bounds on lengths. -/
set_option linter.unusedSimpArgs false
set_option maxRecDepth 8000
namespace Go.Proofs.YtocilianjfhifaaGreatDoor.Cov
open Go Go.Proofs Go.Proofs.YtocilianjfhifaaGreatDoor.Sm Go.Proofs.YtocilianjfhifaaGreatDoor.Bins Go.RowKit

theorem encN_eq (xs : List Nat) : xs.map encN = (xs.map fun n : Nat => (n : Int)).map encI := by
  rw [List.map_map]; rfl
/-- the digits, and what is left -/
def tupF : List Nat → Nat → List Nat × Nat
  | [], k => ([], k)
  | n :: ns, k => (((tupF ns k).2 % n) :: (tupF ns k).1, (tupF ns k).2 / n)
def tupI (ns : List Nat) (k : Nat) : List Int := (tupF ns k).1.map fun n : Nat => (n : Int)
theorem tupF_len : ∀ (ns : List Nat) (k : Nat), (tupF ns k).1.length = ns.length
  | [], _ => rfl
  | n :: ns, k => by simp [tupF, tupF_len ns k]
theorem tupF_le : ∀ (ns : List Nat) (k : Nat), (tupF ns k).2 ≤ k
  | [], _ => Nat.le_refl _
  | _ :: ns, k => Nat.le_trans (Nat.div_le_self _ _) (tupF_le ns k)
theorem tupI_ins : ∀ (ns : List Nat) (k : Nat), (∀ n ∈ ns, 1 ≤ n) → insT ns (tupI ns k) = true
  | [], _, _ => rfl
  | n :: ns, k, h => by
    have h1 := h n (by simp)
    have ih := tupI_ins ns k (fun x hx => h x (by simp [hx]))
    have h2 : (tupF ns k).2 % n < n := Nat.mod_lt _ (by omega)
    show insT (n :: ns) (((tupF ns k).2 % n : Nat) :: tupI ns k) = true
    unfold insT
    rw [ih]
    simp; omega
theorem tup_step {ns : List Nat} {K j : Nat} (hj : j < ns.length) : tupF (ns.drop j) K = (((tupF (ns.drop (j + 1)) K).2 % ns[j]) :: (tupF (ns.drop (j + 1)) K).1, (tupF (ns.drop (j + 1)) K).2 / ns[j]) := by
  rw [List.drop_eq_getElem_cons hj]; rfl
theorem set_step {α : Type} {f : α → List AV} {pre out : List α} {j : Nat} {x : α} (hj : j < pre.length) : ((pre.take (j + 1) ++ out).map f).set j (f x) = (pre.take j ++ x :: out).map f := by
  rw [List.take_succ_eq_append_getElem hj, List.append_assoc]
  simp only [List.map_append, List.map_cons, List.map_nil, List.singleton_append]
  rw [List.set_append_right _ _ (by simp; omega)]
  simp [Nat.min_eq_left (Nat.le_of_lt hj)]
theorem mk56 (h : Hp) (n : Nat) (hn : n ≤ 1048576) : aMakeSlice Tryz.prog true h 57 (.int .i64 (n : Int)) (.int .i64 (n : Int)) = some (.own h.length 0 n, h ++ [.live 1 ((List.replicate n 0).map encN)]) := by
  have hz : zeroRow Tryz.prog 3 = some [.int .i64 0] := by kernel_rfl
  have hr : room n 8 := room_of (by omega) (by omega)
  unfold aMakeSlice
  simp only [ud57, sz3, by57, hz, Int.toNat_natCast]
  rw [if_pos ⟨by omega, Int.le_refl _, hr, rfl⟩]
  simp [encN]
theorem st_own {h : Hp} {o j : Nat} {rows : List (List AV)} {x : Nat} (ho : h[o]? = some (.live 1 rows)) (hj : ∃ v, rows[j]? = some [v]) : aStore Tryz.prog h 3 (.ptr o j 0) (.int .i64 (x : Int)) = some (h.set o (.live 1 (rows.set j (encN x)))) := by
  obtain ⟨v, hv⟩ := hj
  rw [store_row (ac_int _ _) sz3 ho hv (by simp)]; rfl
theorem rem_nat (a b : Nat) (hb : 0 < b) : aBin Tryz.prog 3 .rem (.int .i64 (a : Int)) (.int .i64 (b : Int)) = some (.int .i64 ((a % b : Nat) : Int)) := by
  rw [bin_rem _ _ _ _ _ (by omega), Int.tmod_eq_emod_of_nonneg (by omega)]; rfl
theorem quo_nat (a b : Nat) (hb : 0 < b) (ha : a ≤ 9223372036854775807) : aBin Tryz.prog 3 .quo (.int .i64 (a : Int)) (.int .i64 (b : Int)) = some (.int .i64 ((a / b : Nat) : Int)) := by
  have h1 : ((a : Int).tdiv (b : Int)) = ((a / b : Nat) : Int) := by rw [Int.tdiv_eq_ediv_of_nonneg (by omega)]; rfl
  have h2 := Nat.div_le_self a b
  rw [bin_quo _ _ _ _ _ (by omega), h1, wrap_nat (by omega)]
theorem tuple_ref (G : Nat → AV) (m : Mo) (c : Cr) (K : Nat) (h : Hp) (hh : Here m c.pts) (hf : Full m) (h0 : 0 < c.pts.length) (hl : c.pts.length ≤ 1048576) (hK : K ≤ 1048576) : PCall (En G) 91 [.agg (encM m), .agg (encC c), .int .i64 (K : Int)] h (.sl .any 1 ((tupI (szs m c.pts) K).map encI)) := by
  have hs := hf.szs hh
  have hsl := szs_len m c.pts
  have hgo : ACalls (En G) 91 [.agg (encM m), .agg (encC c), .int .i64 (K : Int)] h fun v H => ext h H ∧ outG 1 encN h (tupF (szs m c.pts) K).1 v H := by
    refine acalls_of (H := Hint.none) (enM G) Tryz.func91 rfl (by kernel_rfl) (by kernel_rfl) (Nat.le_of_ble_eq_true (by kernel_rfl)) ?_
    show awp _ _ _ _ _ (endQ _ [.tmp 6] _)
    have t := Two.mk' h m c
    have hlt : h.length ≤ (h ++ [ABlk.live 2 [encM m]] ++ [ABlk.live 3 [encC c]]).length := by simp
    have he0 : ext h (h ++ [ABlk.live 2 [encM m]] ++ [ABlk.live 3 [encC c]]) := ((ext.rfl' h).app _).app _
    simp -implicitDefEqProofs only [awp_seq, awp_reg, seqQ_n, WW_one, WW_nil, none_md, none_fz, frz_nil, ownOp, wc_app, wcont_s, upd_app, ev_tmp, ev_const, av_nil, x_assign, x_box, x_load, x_fieldAddr, holdsO_some, holdsO_ofO, frameOf_zero, frameOf_succ, ↓reduceIte, Nat.reduceEqDiff, Nat.zero_add, Option.getD_some, Bool.not_false, enP, fa71_1, bxM, bxC]
    generalize h ++ [ABlk.live 2 [encM m]] ++ [ABlk.live 3 [encC c]] = H at t hlt he0 ⊢
    generalize (h ++ [ABlk.live 2 [encM m]]).length = cb at t ⊢
    have t2 : Two h (H ++ [.live 1 ((List.replicate c.pts.length 0).map encN)]) m c cb := t.app _
    simp -implicitDefEqProofs only [awp_seq, awp_block, awp_reg, seqQ_n, WW_one, WW_nil, none_md, none_fz, frz_nil, ownOp, wc_app, wcont_s, upd_app, ev_tmp, ev_const, av_int, x_assign, x_load, x_bin, x_makeSlice, x_fieldAddr, x_len, holdsO_some, holdsO_ofO, bin_sub, ↓reduceIte, Nat.reduceEqDiff, Nat.zero_add, Option.getD_some, Bool.not_false, enP, ln57, fa71_1, t.l1, List.length_map, mk56 _ _ hl, t2.l1]
    rw [wrap_i64 (n := (c.pts.length : Int) - 1) (by omega) (by omega)]
    refine awp_loop (fun n F H' => ∃ j, n = j ∧ j ≤ c.pts.length ∧ F 3 = .ptr h.length 0 0 ∧ F 4 = .ptr cb 0 0 ∧ F 7 = .own H.length 0 c.pts.length ∧ F 8 = .int .i64 ((j : Int) - 1) ∧ F 2 = .int .i64 ((tupF ((szs m c.pts).drop j) K).2 : Nat) ∧ Two h H' m c cb ∧ ext h H' ∧ H'[H.length]? = some (.live 1 (((List.replicate c.pts.length 0).take j ++ (tupF ((szs m c.pts).drop j) K).1).map encN))) c.pts.length ⟨c.pts.length, rfl, Nat.le_refl _, by simp -implicitDefEqProofs only [upd_app, ↓reduceIte, Nat.reduceEqDiff], by simp -implicitDefEqProofs only [upd_app, ↓reduceIte, Nat.reduceEqDiff], by simp -implicitDefEqProofs only [upd_app, ↓reduceIte, Nat.reduceEqDiff], by simp -implicitDefEqProofs only [upd_app, ↓reduceIte], by simp -implicitDefEqProofs only [upd_app, frameOf_zero, frameOf_succ, ↓reduceIte, Nat.reduceEqDiff]; rw [List.drop_eq_nil_of_le (by omega)]; rfl, t2, he0.app _, ?_⟩ ?_
    · rw [List.drop_eq_nil_of_le (by omega), List.take_of_length_le (by simp)]
      simp only [tupF, List.append_nil]
      exact top_get _ _
    rintro n F H' ⟨j, rfl, hj, f3, f4, f7, f8, f2, t', he, ho⟩
    simp -implicitDefEqProofs only [awp_seq, awp_reg, awp_cond, seqQ_n, WW_one, WW_nil, none_md, none_fz, frz_nil, ownOp, wc_app, wcont_s, upd_app, ev_tmp, ev_const, av_int, x_move, x_bin, holdsO_ofO, bin_geq, ↓reduceIte, Option.getD_some, Bool.not_false, enP, f8]
    cases n with
    | zero =>
      have : decide ((((0 : Nat) : Int) - 1) ≥ 0) = false := by decide
      simp -implicitDefEqProofs only [awp_seq, awp_reg, awp_ret, awp_exit, seqQ_n, seqQ_e, blk_e, rnd_e, end_r, cond_f, WW_one, WW_nil, none_md, none_fz, frz_nil, ownOp, wc_app, wcont_s, upd_app, ev_tmp, x_move, x_assign, ↓reduceIte, Nat.reduceEqDiff, Option.getD_some, Bool.not_false, this, f7]
      rw [List.take_zero, List.nil_append, List.drop_zero] at ho
      refine ⟨he, .inr ⟨?_, H.length, hlt, by rw [tupF_len, hsl], ho⟩⟩
      intro e
      have := tupF_len (szs m c.pts) K
      rw [e] at this; simp at this; omega
    | succ j =>
      have hd : decide ((((j + 1 : Nat) : Int) - 1) ≥ 0) = true := by simp
      have hj' : j < c.pts.length := by omega
      have hjs : j < (szs m c.pts).length := by omega
      have hgt : (szs m c.pts)[j] = (binsAt m c.pts[j]).length := getElem_some (szs_get m c.pts j hj')
      have h1 := (hs _ (List.getElem_mem hjs)).1
      rw [hgt] at h1
      obtain ⟨s, ls⟩ := hh.ld hj' H'
      have e1 : (((j + 1 : Nat) : Int) - 1) = (j : Int) := by omega
      have hst := tup_step (K := K) hjs
      rw [hgt] at hst
      have hle := tupF_le ((szs m c.pts).drop (j + 1)) K
      generalize hr : (tupF ((szs m c.pts).drop (j + 1)) K) = r at ho f2 hst hle
      have hrow : ∃ v, (((List.replicate c.pts.length 0).take (j + 1) ++ r.1).map encN)[j]? = some [v] := by
        refine ⟨.int .i64 0, ?_⟩
        rw [List.getElem?_map, List.getElem?_append_left (by simp; omega), List.getElem?_take_of_lt (by omega), List.getElem?_replicate_of_lt hj']
        rfl
      have hset := set_step (f := encN) (pre := List.replicate c.pts.length 0) (out := r.1) (j := j) (x := r.2 % (binsAt m c.pts[j]).length) (by simpa using hj')
      have hlo := lt_of_getElem? ho
      simp -implicitDefEqProofs only [awp_seq, awp_block, awp_skip, seqQ_n, cond_t, hd]
      refine awp_draw (by kernel_rfl) ?_
      simp -implicitDefEqProofs only [YO_f, dc_app, dcont_s, DD_nil, DD_one, y_move, y_assign, y_load, y_fieldAddr, y_indexAddr, y_builtin, awp_seq, awp_reg, seqQ_n, blk_n, rnd_n, WW_one, WW_nil, none_md, none_fz, frz_nil, ownOp, wc_app, wcont_s, wcont_n, upd_app, ev_tmp, ev_const, av_int, x_move, x_assign, x_load, x_store, x_bin, x_fieldAddr, x_indexAddr, x_len, holdsO_ofO, holdsO_ofS, bin_sub, ↓reduceIte, Nat.reduceEqDiff, Nat.reduceAdd, Nat.add_zero, Nat.zero_add, Option.getD_some, Bool.not_false, enP, ix22, fa25_0, ln54, fa56_2, ix57, fa71_1, Option.getD_none, f2, f3, f4, f7, f8, e1, t'.lm, t'.l1, ix_map hj', load_map ag3 hj', encI0, hh.ix hj', ls, List.length_map, ix_own ho hj', rem_nat _ _ h1, quo_nat _ _ h1 (show r.2 ≤ 9223372036854775807 by omega), st_own ho hrow, hset]
      refine ⟨j, by omega, j, rfl, by omega, trivial, trivial, trivial, ?_, ?_, ⟨get_set_ne t'.gm ?_, get_set_ne t'.gc ?_, ?_⟩, he.set hlt _, ?_⟩
      · rw [wrap_i64 (by omega) (by omega)]
      · rw [hst]
      · exact Nat.ne_of_lt (lt_of_getElem? t.gm)
      · exact Nat.ne_of_lt (lt_of_getElem? t.gc)
      · exact he.set hlt _
      · rw [hst]; exact get_set_eq ho
  have hp := outG_pure frzN hgo
  have hne : (tupF (szs m c.pts) K).1 ≠ [] := by
    intro e
    have := tupF_len (szs m c.pts) K
    rw [e] at this; simp at this; omega
  rw [encN_eq] at hp
  have hnm : nm (tupF (szs m c.pts) K).1 = SM.any := by
    cases hx : (tupF (szs m c.pts) K).1 with
    | nil => exact absurd hx hne
    | cons a l => rfl
  rw [hnm] at hp
  exact hp
end Go.Proofs.YtocilianjfhifaaGreatDoor.Cov
/- Coverages that fit a model: the program, given cover.tuple's contract; no condition but the bounds on lengths. -/
set_option linter.unusedSimpArgs false
set_option maxRecDepth 8000
namespace Go.Proofs.YtocilianjfhifaaGreatDoor.Cov
open Go Go.Proofs Go.Proofs.YtocilianjfhifaaGreatDoor.Sm Go.Proofs.YtocilianjfhifaaGreatDoor.Bins Go.RowKit

/-- a coverage -/
structure Cvr where
  pm : SM
  pts : List Is
  cm : SM
  crs : List Is
  sam : Int
  ill : Int
def encV (v : Cvr) : List AV := [.sl v.pm 1 (v.pts.map encL), .sl v.cm 1 (v.crs.map encL), .int .i64 v.sam, .int .i64 v.ill]
theorem encV0 (v : Cvr) : (encV v)[0]? = some (.sl v.pm 1 (v.pts.map encL)) := rfl
theorem encV1 (v : Cvr) : (encV v)[1]? = some (.sl v.cm 1 (v.crs.map encL)) := rfl
theorem encV2 (v : Cvr) : (encV v)[2]? = some (.int .i64 v.sam) := rfl
theorem encV3 (v : Cvr) : (encV v)[3]? = some (.int .i64 v.ill) := rfl
theorem encV_len (v : Cvr) : (encV v).length = 4 := rfl
theorem bxV (h : Hp) (v : Cvr) : aBox h (.agg (encV v)) = some (.ptr h.length 0 0, h ++ [.live 4 [encV v]]) := rfl
theorem ldV {h : Hp} {b : Nat} {v : Cvr} (hb : h[b]? = some (.live 4 [encV v])) : aLoad Tryz.prog h 28 (.ptr b 0 0) = some (.agg (encV v)) := by
  rw [load_rowA ag28 sz28 hb rfl (by rw [encV_len]; exact Nat.le_refl 4)]; rfl
/-- counts, one by one -/
def rowF (p : Nat → Bool) : Nat → List Int → Bool
  | _, [] => true
  | k, n :: ns => countB n (p k) && rowF p (k + 1) ns
theorem rowF_step (p : Nat → Bool) (l : List Int) (k : Nat) (hk : k < l.length) : rowF p k (l.drop k) = (countB l[k] (p k) && rowF p (k + 1) (l.drop (k + 1))) := by
  rw [List.drop_eq_getElem_cons hk]; rfl
def fit2 {α : Type} (ok : α → Is → Bool) : List α → List Is → Bool
  | [], [] => true
  | a :: ws, x :: xs => ok a x && fit2 ok ws xs
  | _, _ => false
theorem fit2_len {α : Type} {ok : α → Is → Bool} : ∀ {ws : List α} {xs : List Is}, fit2 ok ws xs = true → ws.length = xs.length
  | [], [], _ => rfl
  | a :: ws, x :: xs, h => by
    simp only [fit2, Bool.and_eq_true] at h
    simp [fit2_len h.2]
  | [], _ :: _, h => by cases h
  | _ :: _, [], h => by cases h
theorem fit2_step {α : Type} (ok : α → Is → Bool) (ws : List α) (xs : List Is) (k : Nat) (ha : k < ws.length) (hx : k < xs.length) : fit2 ok (ws.drop k) (xs.drop k) = (ok ws[k] xs[k] && fit2 ok (ws.drop (k + 1)) (xs.drop (k + 1))) := by
  rw [List.drop_eq_getElem_cons ha, List.drop_eq_getElem_cons hx]; rfl
theorem fit2_end {α : Type} (ok : α → Is → Bool) (ws : List α) (xs : List Is) (k : Nat) (ha : ws.length ≤ k) (hx : xs.length ≤ k) : fit2 ok (ws.drop k) (xs.drop k) = true := by
  rw [List.drop_eq_nil_of_le ha, List.drop_eq_nil_of_le hx]; rfl
def kindOf (p : Pt) (k : Nat) : Int := match p.bins[k]? with
  | some b => b.kind
  | none => 0
def okP (p : Pt) (x : Is) : Bool := (x.l.length == p.bins.length) && rowF (fun k => kindOf p k == 0) 0 x.l
def okC (m : Mo) (c : Cr) (x : Is) : Bool := (x.l.length == prodN (szs m c.pts)) && rowF (fun k => hitB m c (tupI (szs m c.pts) k)) 0 x.l
structure CvOk (v : Cvr) : Prop where
  pts : v.pts.length ≤ 1048576
  crs : v.crs.length ≤ 1048576
  eachP : ∀ x ∈ v.pts, x.l.length ≤ 1048576
  eachC : ∀ x ∈ v.crs, x.l.length ≤ 1048576
theorem fitP_prog (G : Nat → AV) (m : Mo) (l : List Is) (s : SM) (h : Hp) (hm : MoOk m) (hl : ∀ x ∈ l, x.l.length ≤ 1048576) : PCall (En G) 124 [.agg (encM m), .sl s 1 (l.map encL)] h (.bool (fit2 okP m.pts l)) := by
  refine ACalls.pure0 rfl ?_
  have hm1 := hm.np
  refine acalls_of (H := Hint.none) (enM G) Tryz.func124 rfl (by kernel_rfl) (by kernel_rfl) (Nat.le_of_ble_eq_true (by kernel_rfl)) ?_
  show awp _ _ _ _ _ (endQ _ [.tmp 4] _)
  simp -implicitDefEqProofs only [awp_seq, awp_reg, awp_cond, seqQ_n, WW_one, WW_nil, none_md, none_fz, frz_nil, ownOp, wc_app, wcont_s, upd_app, ev_tmp, ev_const, av_bool, x_move, x_assign, x_box, x_load, x_bin, x_fieldAddr, x_len, holdsO_some, holdsO_ofO, bin_neq, frameOf_zero, frameOf_succ, ↓reduceIte, Nat.reduceEqDiff, Nat.add_zero, Option.getD_some, Bool.not_false, enP, ln22, fa25_0, ln26, bxM, load_last ag22, encM0, List.length_map]
  refine cond_of (fun h1 => ?_) (fun h1 => ?_)
  · simp -implicitDefEqProofs only [awp_seq, awp_reg, awp_ret, seqQ_n, seqQ_r, end_r, WW_one, WW_nil, none_md, none_fz, frz_nil, ownOp, wc_app, wcont_s, upd_app, ev_const, av_bool, x_assign, ↓reduceIte, Option.getD_some, Bool.not_false]
    have : fit2 okP m.pts l = false := by
      rw [← Bool.not_eq_true]; intro e
      have := fit2_len e
      simp at h1; omega
    exact ⟨by rw [this], _, rfl⟩
  have hlen : l.length = m.pts.length := by simp at h1; omega
  simp -implicitDefEqProofs only [awp_seq, awp_block, awp_reg, awp_skip, seqQ_n, WW_one, WW_nil, none_md, none_fz, frz_nil, ownOp, wc_app, wcont_s, upd_app, ev_tmp, ev_const, av_int, x_move, x_load, x_fieldAddr, x_len, holdsO_ofO, ↓reduceIte, Nat.reduceEqDiff, Nat.add_zero, Option.getD_some, Bool.not_false, enP, ln22, fa25_0, load_last ag22, encM0, List.length_map]
  refine awp_loop (fun n F H => ∃ i, n + i = m.pts.length ∧ F 1 = .sl s 1 (l.map encL) ∧ F 16 = .sl m.pm 6 (m.pts.map encP) ∧ F 17 = .int .i64 m.pts.length ∧ F 18 = .int .i64 (i : Nat) ∧ (∃ x, H = h ++ x) ∧ fit2 okP m.pts l = fit2 okP (m.pts.drop i) (l.drop i)) m.pts.length ⟨0, by simp, by simp -implicitDefEqProofs only [upd_app, frameOf_zero, frameOf_succ, ↓reduceIte, Nat.reduceEqDiff], by simp -implicitDefEqProofs only [upd_app, ↓reduceIte, Nat.reduceEqDiff], by simp -implicitDefEqProofs only [upd_app, ↓reduceIte, Nat.reduceEqDiff], by simp -implicitDefEqProofs only [upd_app, ↓reduceIte]; rfl, ⟨_, rfl⟩, rfl⟩ ?_
  rintro n F H ⟨i, hi, f1, f16, f17, f18, hx, hf⟩
  simp -implicitDefEqProofs only [awp_seq, awp_reg, awp_cond, seqQ_n, WW_one, WW_nil, none_md, none_fz, frz_nil, ownOp, wc_app, wcont_s, upd_app, ev_tmp, x_bin, holdsO_ofO, bin_lss, ↓reduceIte, Option.getD_some, Bool.not_false, enP, f17, f18]
  refine cond_of (fun hc => ?_) (fun hc => ?_)
  · have hi' : i < m.pts.length := by simpa using hc
    have hil : i < l.length := by omega
    rw [fit2_step okP m.pts l i hi' hil] at hf
    have hx1 : ∃ x, H ++ [ABlk.live 6 [encP m.pts[i]]] = h ++ x := by
      obtain ⟨x, rfl⟩ := hx
      exact ⟨_, List.append_assoc _ _ _⟩
    have hxl := hl _ (List.getElem_mem hil)
    simp -implicitDefEqProofs only [awp_seq, awp_block, awp_reg, awp_skip, seqQ_n, WW_one, WW_nil, none_md, none_fz, frz_nil, ownOp, wc_app, wcont_s, wcont_n, upd_app, ev_tmp, x_move, x_assign, x_alloc, x_load, x_store, x_indexAddr, holdsO_some, holdsO_ofO, holdsO_ofS, ↓reduceIte, Nat.reduceEqDiff, Option.getD_some, Bool.not_false, enP, ix22, Option.getD_none, f16, f18, ix_map hi', load_mapA ag56 sz56 encP_len hi', al75, st75 _ _ [.str ⟨#[]⟩, .int .i64 0, .int .i64 0, .str ⟨#[]⟩, .sl .nil 0 [], .sl .nil 0 []] rfl]
    refine awp_draw (by kernel_rfl) ?_
    simp -implicitDefEqProofs only [YO_f, dc_app, dcont_s, DD_nil, DD_one, y_move, y_load, y_bin, y_fieldAddr, y_indexAddr, y_builtin, awp_cond, seqQ_n, none_md, upd_app, ev_tmp, x_load, x_bin, x_fieldAddr, x_indexAddr, x_len, holdsO_ofO, bin_neq, ↓reduceIte, Nat.reduceEqDiff, Nat.reduceAdd, Nat.zero_add, Option.getD_some, enP, ix26, ln54, fa56_2, ln57, f1, ix_map hil, load_map ag57 hil, encL0, load_last ag54, encP5, List.length_map]
    refine cond_of (fun h2 => ?_) (fun h2 => ?_)
    · simp -implicitDefEqProofs only [awp_seq, awp_reg, awp_ret, seqQ_n, seqQ_r, blk_r, rnd_r, end_r, WW_one, WW_nil, none_md, none_fz, frz_nil, ownOp, wc_app, wcont_s, upd_app, ev_const, av_bool, x_assign, ↓reduceIte, Option.getD_some, Bool.not_false]
      have : okP m.pts[i] l[i] = false := by
        have : (l[i].l.length == m.pts[i].bins.length) = false := by
          rw [beq_eq_false_iff_ne]; intro e; simp [e] at h2
        unfold okP; rw [this]; rfl
      exact ⟨by rw [hf, this]; rfl, hx1⟩
    have hbl : l[i].l.length = m.pts[i].bins.length := by simp at h2; omega
    have hok : okP m.pts[i] l[i] = rowF (fun k => kindOf m.pts[i] k == 0) 0 l[i].l := by
      unfold okP; rw [beq_iff_eq.2 hbl]; rfl
    simp -implicitDefEqProofs only [awp_seq, awp_block, awp_reg, awp_skip, seqQ_n, WW_one, WW_nil, none_md, none_fz, frz_nil, ownOp, wc_app, wcont_s, upd_app, ev_tmp, ev_const, av_int, x_move, x_load, x_indexAddr, x_len, holdsO_ofO, ↓reduceIte, Nat.reduceEqDiff, Option.getD_some, Bool.not_false, enP, ix26, ln57, f1, ix_map hil, load_map ag57 hil, encL0, List.length_map]
    refine awp_lp 2 (fun F' H' => F' 1 = .sl s 1 (l.map encL) ∧ F' 16 = .sl m.pm 6 (m.pts.map encP) ∧ F' 17 = .int .i64 m.pts.length ∧ F' 18 = .int .i64 (i : Nat) ∧ H' = H ++ [.live 6 [encP m.pts[i]]] ∧ okP m.pts[i] l[i] = true) (fun F' H' => F' 4 = .bool false ∧ H' = H ++ [.live 6 [encP m.pts[i]]] ∧ okP m.pts[i] l[i] = false) ?_ ?_ ?_
    · refine awp_loop (fun n F' H' => ∃ k, n + k = l[i].l.length ∧ F' 1 = .sl s 1 (l.map encL) ∧ F' 16 = .sl m.pm 6 (m.pts.map encP) ∧ F' 17 = .int .i64 m.pts.length ∧ F' 18 = .int .i64 (i : Nat) ∧ F' 6 = .ptr H.length 0 0 ∧ F' 35 = .sl l[i].m 1 (l[i].l.map encI) ∧ F' 36 = .int .i64 l[i].l.length ∧ F' 37 = .int .i64 (k : Nat) ∧ H' = H ++ [.live 6 [encP m.pts[i]]] ∧ okP m.pts[i] l[i] = rowF (fun k => kindOf m.pts[i] k == 0) k (l[i].l.drop k)) l[i].l.length ⟨0, by simp, by simp -implicitDefEqProofs only [upd_app, ↓reduceIte, Nat.reduceEqDiff, f1], by simp -implicitDefEqProofs only [upd_app, ↓reduceIte, Nat.reduceEqDiff, f16], by simp -implicitDefEqProofs only [upd_app, ↓reduceIte, Nat.reduceEqDiff, f17], by simp -implicitDefEqProofs only [upd_app, ↓reduceIte, Nat.reduceEqDiff, f18], by simp -implicitDefEqProofs only [upd_app, ↓reduceIte, Nat.reduceEqDiff], by simp -implicitDefEqProofs only [upd_app, ↓reduceIte, Nat.reduceEqDiff], by simp -implicitDefEqProofs only [upd_app, ↓reduceIte, Nat.reduceEqDiff], by simp -implicitDefEqProofs only [upd_app, ↓reduceIte]; rfl, rfl, hok⟩ ?_
      clear f1 f16 f17 f18
      rintro n' F H' ⟨k, hk, f1, f16, f17, f18, f6, f35, f36, f37, rfl, hr⟩
      simp -implicitDefEqProofs only [awp_seq, awp_reg, awp_cond, seqQ_n, WW_one, WW_nil, none_md, none_fz, frz_nil, ownOp, wc_app, wcont_s, upd_app, ev_tmp, x_bin, holdsO_ofO, bin_lss, ↓reduceIte, Option.getD_some, Bool.not_false, enP, f36, f37]
      refine cond_of (fun hc => ?_) (fun hc => ?_)
      · have hk' : k < l[i].l.length := by simpa using hc
        have hkb : k < m.pts[i].bins.length := by omega
        have hkd : kindOf m.pts[i] k = (m.pts[i].bins[k]).kind := by unfold kindOf; rw [List.getElem?_eq_getElem hkb]
        rw [rowF_step _ _ _ hk', hkd] at hr
        simp -implicitDefEqProofs only [awp_seq, awp_block, awp_reg, awp_skip, seqQ_n, WW_one, WW_nil, none_md, none_fz, frz_nil, ownOp, wc_app, wcont_s, upd_app, ev_tmp, ev_func, x_move, x_assign, x_load, x_fieldAddr, x_indexAddr, X1_call, callA_fn, holdsO_ofO, List.map_cons, List.map_nil, List.append_nil, ↓reduceIte, Nat.reduceEqDiff, Nat.zero_add, Option.getD_some, Bool.not_false, enP, ix54, fa56_2, ix57, f6, f35, f37, ix_map hk', load_map ag3 hk', encI0, load_last ag54, encP5, ix_map hkb, load_mapA ag121 sz121 encB_len hkb]
        refine (counts_prog G _ _).use ?_
        simp -implicitDefEqProofs only [WW_one, none_md, none_fz, frz_nil, ownOp, wc_app, wcont_s, upd_app, ev_tmp, ev_func, X1_call, callA_fn, List.map_cons, List.map_nil, List.append_nil, ↓reduceIte, Nat.reduceEqDiff, Option.getD_some, Bool.not_false]
        refine (count_prog G _ _ _).use ?_
        simp -implicitDefEqProofs only [awp_cond, seqQ_n, WW_one, WW_nil, none_md, none_fz, frz_nil, ownOp, wc_app, wcont_s, upd_app, ev_tmp, x_un, holdsO_ofO, un_not, ↓reduceIte, Option.getD_some, Bool.not_false]
        cases hcb : countB l[i].l[k] (m.pts[i].bins[k].kind == 0)
        · simp -implicitDefEqProofs only [awp_seq, awp_reg, awp_ret, seqQ_n, seqQ_r, blk_r, lp_r, rnd_r, cond_t, WW_one, WW_nil, none_md, none_fz, frz_nil, ownOp, wc_app, wcont_s, upd_app, ev_const, av_bool, x_assign, ↓reduceIte, Option.getD_some, Bool.not_false]
          exact ⟨trivial, trivial, by rw [hr, hcb]; rfl⟩
        · simp -implicitDefEqProofs only [awp_reg, awp_skip, seqQ_n, blk_n, rnd_n, cond_f, WW_one, WW_nil, none_md, none_fz, frz_nil, ownOp, wc_app, wcont_s, upd_app, ev_tmp, ev_const, av_int, x_move, x_bin, holdsO_ofO, bin_add, ↓reduceIte, Nat.reduceEqDiff, Option.getD_some, Bool.not_true, Bool.not_false, enP, f37, wrap_succ (show k < 9223372036854775807 by omega)]
          exact ⟨n' - 1, by omega, k + 1, by omega, f1, f16, f17, f18, f6, f35, f36, rfl, trivial, by rw [hr, hcb]; rfl⟩
      · have hk' : ¬ k < l[i].l.length := by simpa using hc
        simp -implicitDefEqProofs only [awp_exit, seqQ_e, lp_e, rnd_e, upd_app, ↓reduceIte, Nat.reduceEqDiff]
        exact ⟨f1, f16, f17, f18, trivial, by rw [hr, List.drop_eq_nil_of_le (by omega)]; rfl⟩
    · rintro F' H' ⟨g1, g16, g17, g18, rfl, hr⟩
      simp -implicitDefEqProofs only [awp_reg, seqQ_n, blk_n, blk_e, rnd_n, WW_one, WW_nil, none_md, none_fz, frz_nil, ownOp, wc_app, wcont_s, upd_app, ev_tmp, ev_const, av_int, x_move, x_bin, holdsO_ofO, bin_add, ↓reduceIte, Nat.reduceEqDiff, Option.getD_some, Bool.not_false, enP, g18, wrap_succ (show i < 9223372036854775807 by omega)]
      exact ⟨n - 1, by omega, i + 1, by omega, g1, g16, g17, rfl, hx1, by rw [hf, hr]; rfl⟩
    · rintro F' H' ⟨g4, rfl, hr⟩
      simp -implicitDefEqProofs only [seqQ_r, blk_r, rnd_r, end_r, g4]
      exact ⟨by rw [hf, hr]; rfl, hx1⟩
  · have hi' : ¬ i < m.pts.length := by simpa using hc
    simp -implicitDefEqProofs only [awp_seq, awp_reg, awp_ret, awp_exit, seqQ_n, seqQ_e, blk_e, rnd_e, end_r, WW_one, WW_nil, none_md, none_fz, frz_nil, ownOp, wc_app, wcont_s, upd_app, ev_const, av_bool, x_assign, ↓reduceIte, Option.getD_some, Bool.not_false]
    exact ⟨by rw [hf, fit2_end okP _ _ i (by omega) (by omega)], hx⟩
end Go.Proofs.YtocilianjfhifaaGreatDoor.Cov
/- Coverages that fit a model: crosses, and the whole; the program, given cover.tuple's contract; no condition but the variables that are laid and the bounds on lengths. -/
set_option linter.unusedSimpArgs false
set_option maxRecDepth 8000
namespace Go.Proofs.YtocilianjfhifaaGreatDoor.Cov
open Go Go.Proofs Go.Proofs.YtocilianjfhifaaGreatDoor.Sm Go.Proofs.YtocilianjfhifaaGreatDoor.Bins Go.RowKit

/-- the contract of cover.tuple -/
def TupleOk (G : Nat → AV) : Prop := ∀ (ns : List Nat) (s : SM) (K : Nat) (h : Hp), 0 < ns.length → ns.length ≤ 4 → (∀ n ∈ ns, 1 ≤ n ∧ n ≤ 64) → K ≤ 1048576 →
  PCall (En G) 168 [.sl s 1 (ns.map encN), .int .i64 (K : Int)] h (.sl .any 1 ((tupI ns K).map encI))
structure CrGood (m : Mo) (c : Cr) : Prop where
  here : Here m c.pts
  two : 2 ≤ c.pts.length
  four : c.pts.length ≤ 4
  prod : prodN (szs m c.pts) ≤ 256
  num : c.excl.length ≤ 256
  excl : ∀ x ∈ c.excl, insT (szs m c.pts) x.l = true
theorem crGood_of {m : Mo} {c : Cr} (h : crossE m c = 0) : CrGood m c := by
  unfold crossE at h
  split at h
  · cases h
  · split at h
    · cases h
    · split at h
      · cases h
      · split at h
        · cases h
        · split at h
          · cases h
          · rename_i h1 h2 h3 h4 h5
            have h3' : incT m.pts.length none c.pts = true := by simpa using h3
            refine ⟨incT_here h3', by omega, by omega, by omega, by omega, fun x hx => ?_⟩
            rw [Bool.not_eq_true, List.any_eq_false] at h5
            have := h5 x hx
            simpa using this
structure Good (m : Mo) : Prop where
  num : m.pts.length + m.crs.length ≤ 16
  full : Full m
  crs : ∀ c ∈ m.crs, CrGood m c
theorem good_of {m : Mo} (h : modelE m = 0) : Good m := by
  unfold modelE at h
  split at h
  · cases h
  · split at h
    · rename_i h2; exact absurd h h2
    · split at h
      · cases h
      · split at h
        · rename_i h4; exact absurd h h4
        · rename_i h1 h2 h3 h4
          refine ⟨by omega, full_of (by simpa using h2), fun c hc => crGood_of (fstE_all _ (by simpa using h4) c hc)⟩
theorem fitC_prog (G : Nat → AV) (hT : TupleOk G) (m : Mo) (l : List Is) (s : SM) (h : Hp) (hm : MoOk m) (hg : Good m) (hl : ∀ x ∈ l, x.l.length ≤ 1048576) : PCall (En G) 125 [.agg (encM m), .sl s 1 (l.map encL)] h (.bool (fit2 (okC m) m.crs l)) := by
  refine ACalls.pure0 rfl ?_
  have hm1 := hm.nc
  refine acalls_of (H := Hint.none) (enM G) Tryz.func125 rfl (by kernel_rfl) (by kernel_rfl) (Nat.le_of_ble_eq_true (by kernel_rfl)) ?_
  show awp _ _ _ _ _ (endQ _ [.tmp 4] _)
  simp -implicitDefEqProofs only [awp_seq, awp_reg, awp_cond, seqQ_n, WW_one, WW_nil, none_md, none_fz, frz_nil, ownOp, wc_app, wcont_s, upd_app, ev_tmp, ev_const, av_bool, x_move, x_assign, x_box, x_load, x_bin, x_fieldAddr, x_len, holdsO_some, holdsO_ofO, bin_neq, frameOf_zero, frameOf_succ, ↓reduceIte, Nat.reduceEqDiff, Nat.zero_add, Option.getD_some, Bool.not_false, enP, ln23, fa25_1, ln26, bxM, load_last ag23, encM1, List.length_map]
  refine cond_of (fun h1 => ?_) (fun h1 => ?_)
  · simp -implicitDefEqProofs only [awp_seq, awp_reg, awp_ret, seqQ_n, seqQ_r, end_r, WW_one, WW_nil, none_md, none_fz, frz_nil, ownOp, wc_app, wcont_s, upd_app, ev_const, av_bool, x_assign, ↓reduceIte, Option.getD_some, Bool.not_false]
    have : fit2 (okC m) m.crs l = false := by
      rw [← Bool.not_eq_true]; intro e
      have := fit2_len e
      simp at h1; omega
    exact ⟨by rw [this], _, rfl⟩
  have hlen : l.length = m.crs.length := by simp at h1; omega
  simp -implicitDefEqProofs only [awp_seq, awp_block, awp_reg, awp_skip, seqQ_n, WW_one, WW_nil, none_md, none_fz, frz_nil, ownOp, wc_app, wcont_s, upd_app, ev_tmp, ev_const, av_int, x_move, x_load, x_fieldAddr, x_len, holdsO_ofO, ↓reduceIte, Nat.reduceEqDiff, Nat.zero_add, Option.getD_some, Bool.not_false, enP, ln23, fa25_1, load_last ag23, encM1, List.length_map]
  refine awp_loop (fun n F H => ∃ i, n + i = m.crs.length ∧ F 1 = .sl s 1 (l.map encL) ∧ F 2 = .ptr h.length 0 0 ∧ F 17 = .sl m.cm 3 (m.crs.map encC) ∧ F 18 = .int .i64 m.crs.length ∧ F 19 = .int .i64 (i : Nat) ∧ H[h.length]? = some (.live 2 [encM m]) ∧ (∃ x, H = h ++ x) ∧ fit2 (okC m) m.crs l = fit2 (okC m) (m.crs.drop i) (l.drop i)) m.crs.length ⟨0, by simp, by simp -implicitDefEqProofs only [upd_app, frameOf_zero, frameOf_succ, ↓reduceIte, Nat.reduceEqDiff], by simp -implicitDefEqProofs only [upd_app, ↓reduceIte, Nat.reduceEqDiff], by simp -implicitDefEqProofs only [upd_app, ↓reduceIte, Nat.reduceEqDiff], by simp -implicitDefEqProofs only [upd_app, ↓reduceIte, Nat.reduceEqDiff], by simp -implicitDefEqProofs only [upd_app, ↓reduceIte]; rfl, top_get _ _, ⟨_, rfl⟩, rfl⟩ ?_
  rintro n F H ⟨i, hi, f1, f2, f17, f18, f19, gm, hx, hf⟩
  simp -implicitDefEqProofs only [awp_seq, awp_reg, awp_cond, seqQ_n, WW_one, WW_nil, none_md, none_fz, frz_nil, ownOp, wc_app, wcont_s, upd_app, ev_tmp, x_bin, holdsO_ofO, bin_lss, ↓reduceIte, Option.getD_some, Bool.not_false, enP, f18, f19]
  refine cond_of (fun hc => ?_) (fun hc => ?_)
  · have hi' : i < m.crs.length := by simpa using hc
    have hil : i < l.length := by omega
    rw [fit2_step (okC m) m.crs l i hi' hil] at hf
    have hcg := hg.crs _ (List.getElem_mem hi')
    have hfs := hg.full.szs hcg.here
    have hsl := szs_len m m.crs[i].pts
    have hx1 : ∃ x, H ++ [ABlk.live 3 [encC m.crs[i]]] = h ++ x := by
      obtain ⟨x, rfl⟩ := hx
      exact ⟨_, List.append_assoc _ _ _⟩
    have hxl := hl _ (List.getElem_mem hil)
    have gm1 : (H ++ [ABlk.live 3 [encC m.crs[i]]])[h.length]? = some (.live 2 [encM m]) := below_get gm
    have gc1 := top_get H (.live 3 [encC m.crs[i]])
    have htwo := hcg.two
    have hfour := hcg.four
    have hpr := hcg.prod
    simp -implicitDefEqProofs only [awp_seq, awp_block, awp_reg, awp_skip, seqQ_n, WW_one, WW_nil, none_md, none_fz, frz_nil, ownOp, wc_app, wcont_s, wcont_n, upd_app, ev_tmp, ev_func, x_move, x_assign, x_alloc, x_load, x_store, x_indexAddr, X1_call, callA_fn, holdsO_some, holdsO_ofO, holdsO_ofS, List.map_cons, List.map_nil, List.append_nil, ↓reduceIte, Nat.reduceEqDiff, Option.getD_some, Bool.not_false, enP, ix23, Option.getD_none, f2, f17, f19, ix_map hi', load_mapA ag71 sz71 encC_len hi', al82, st82 _ _ [.str ⟨#[]⟩, .sl .nil 0 [], .sl .nil 0 []] rfl, ldM gm1, ldC gc1]
    refine (sizes_prog G m _ _ hcg.here (by omega)).use ?_
    simp -implicitDefEqProofs only [awp_seq, seqQ_n, WW_one, WW_nil, none_md, none_fz, frz_nil, ownOp, wc_app, wcont_s, upd_app, ev_tmp, x_assign, ↓reduceIte, Option.getD_some, Bool.not_false]
    refine awp_draw (by kernel_rfl) ?_
    simp -implicitDefEqProofs only [YO_f, dc_app, dcont_s, DD_one, y_move, y_load, y_bin, y_indexAddr, y_builtin, Y1_call, callP_fn, none_md, upd_app, ev_tmp, ev_func, x_load, x_bin, x_indexAddr, x_len, holdsO_ofO, List.map_cons, List.map_nil, List.append_nil, ↓reduceIte, Nat.reduceEqDiff, Nat.reduceAdd, Option.getD_some, enP, ix26, ln57, f1, ix_map hil, load_map ag57 hil, encL0, List.length_map]
    refine ⟨_, product_prog G _ _ _ (fun n hn => (hfs n hn).2) (by omega), ?_⟩
    try simp -implicitDefEqProofs only [dcont_s, DD_nil, awp_cond, seqQ_n, upd_app, ev_tmp, holdsO_ofO, bin_neq, ↓reduceIte]
    refine cond_of (fun h2 => ?_) (fun h2 => ?_)
    · simp -implicitDefEqProofs only [awp_seq, awp_reg, awp_ret, seqQ_n, seqQ_r, blk_r, rnd_r, end_r, WW_one, WW_nil, none_md, none_fz, frz_nil, ownOp, wc_app, wcont_s, upd_app, ev_const, av_bool, x_assign, ↓reduceIte, Option.getD_some, Bool.not_false]
      have : okC m m.crs[i] l[i] = false := by
        have : (l[i].l.length == prodN (szs m m.crs[i].pts)) = false := by
          rw [beq_eq_false_iff_ne]; intro e; simp [e] at h2
        unfold okC; rw [this]; rfl
      exact ⟨by rw [hf, this]; rfl, hx1⟩
    have hbl : l[i].l.length = prodN (szs m m.crs[i].pts) := by simp at h2; omega
    have hok : okC m m.crs[i] l[i] = rowF (fun k => hitB m m.crs[i] (tupI (szs m m.crs[i].pts) k)) 0 l[i].l := by
      unfold okC; rw [beq_iff_eq.2 hbl]; rfl
    simp -implicitDefEqProofs only [awp_seq, awp_block, awp_reg, awp_skip, seqQ_n, WW_one, WW_nil, none_md, none_fz, frz_nil, ownOp, wc_app, wcont_s, upd_app, ev_tmp, ev_const, av_int, x_move, x_load, x_indexAddr, x_len, holdsO_ofO, ↓reduceIte, Nat.reduceEqDiff, Option.getD_some, Bool.not_false, enP, ix26, ln57, f1, ix_map hil, load_map ag57 hil, encL0, List.length_map]
    refine awp_lp 2 (fun F' H' => F' 1 = .sl s 1 (l.map encL) ∧ F' 2 = .ptr h.length 0 0 ∧ F' 17 = .sl m.cm 3 (m.crs.map encC) ∧ F' 18 = .int .i64 m.crs.length ∧ F' 19 = .int .i64 (i : Nat) ∧ H' = H ++ [.live 3 [encC m.crs[i]]] ∧ okC m m.crs[i] l[i] = true) (fun F' H' => F' 4 = .bool false ∧ H' = H ++ [.live 3 [encC m.crs[i]]] ∧ okC m m.crs[i] l[i] = false) ?_ ?_ ?_
    · refine awp_loop (fun n F' H' => ∃ k, n + k = l[i].l.length ∧ F' 1 = .sl s 1 (l.map encL) ∧ F' 2 = .ptr h.length 0 0 ∧ F' 17 = .sl m.cm 3 (m.crs.map encC) ∧ F' 18 = .int .i64 m.crs.length ∧ F' 19 = .int .i64 (i : Nat) ∧ F' 6 = .ptr H.length 0 0 ∧ F' 7 = .sl (nm (szs m m.crs[i].pts)) 1 ((szs m m.crs[i].pts).map encN) ∧ F' 38 = .sl l[i].m 1 (l[i].l.map encI) ∧ F' 39 = .int .i64 l[i].l.length ∧ F' 40 = .int .i64 (k : Nat) ∧ H' = H ++ [.live 3 [encC m.crs[i]]] ∧ okC m m.crs[i] l[i] = rowF (fun k => hitB m m.crs[i] (tupI (szs m m.crs[i].pts) k)) k (l[i].l.drop k)) l[i].l.length ⟨0, by simp, by simp -implicitDefEqProofs only [upd_app, ↓reduceIte, Nat.reduceEqDiff, f1], by simp -implicitDefEqProofs only [upd_app, ↓reduceIte, Nat.reduceEqDiff, f2], by simp -implicitDefEqProofs only [upd_app, ↓reduceIte, Nat.reduceEqDiff, f17], by simp -implicitDefEqProofs only [upd_app, ↓reduceIte, Nat.reduceEqDiff, f18], by simp -implicitDefEqProofs only [upd_app, ↓reduceIte, Nat.reduceEqDiff, f19], by simp -implicitDefEqProofs only [upd_app, ↓reduceIte, Nat.reduceEqDiff], by simp -implicitDefEqProofs only [upd_app, ↓reduceIte, Nat.reduceEqDiff], by simp -implicitDefEqProofs only [upd_app, ↓reduceIte, Nat.reduceEqDiff], by simp -implicitDefEqProofs only [upd_app, ↓reduceIte, Nat.reduceEqDiff], by simp -implicitDefEqProofs only [upd_app, ↓reduceIte]; rfl, rfl, hok⟩ ?_
      clear f1 f2 f17 f18 f19
      rintro n' F H' ⟨k, hk, f1, f2, f17, f18, f19, f6, f7, f38, f39, f40, rfl, hr⟩
      simp -implicitDefEqProofs only [awp_seq, awp_reg, awp_cond, seqQ_n, WW_one, WW_nil, none_md, none_fz, frz_nil, ownOp, wc_app, wcont_s, upd_app, ev_tmp, x_bin, holdsO_ofO, bin_lss, ↓reduceIte, Option.getD_some, Bool.not_false, enP, f39, f40]
      refine cond_of (fun hc => ?_) (fun hc => ?_)
      · have hk' : k < l[i].l.length := by simpa using hc
        rw [rowF_step _ _ _ hk'] at hr
        simp -implicitDefEqProofs only [awp_seq, awp_block, awp_reg, awp_skip, seqQ_n, WW_one, WW_nil, none_md, none_fz, frz_nil, ownOp, wc_app, wcont_s, upd_app, ev_tmp, x_move, x_assign, x_load, x_indexAddr, holdsO_ofO, ↓reduceIte, Nat.reduceEqDiff, Option.getD_some, Bool.not_false, enP, ix57, f38, f40, ix_map hk', load_map ag3 hk', encI0]
        refine awp_draw (by kernel_rfl) ?_
        simp -implicitDefEqProofs only [YO_f, dc_app, dcont_s, DD_one, y_move, y_load, y_un, Y1_call, callP_fn, none_md, upd_app, ev_tmp, ev_func, x_load, x_un, holdsO_ofO, List.map_cons, List.map_nil, List.append_nil, ↓reduceIte, Nat.reduceEqDiff, Nat.reduceAdd, Option.getD_some, enP, f2, f6, f7, ldM gm1, ldC gc1]
        refine ⟨_, hT _ _ k _ (by omega) (by omega) hfs (by omega), ?_⟩
        try simp -implicitDefEqProofs only []
        refine ⟨_, hittable_prog G m m.crs[i] _ _ _ hcg.here (tupI_ins _ _ fun n hn => (hfs n hn).1) (by omega) (by have := hcg.num; omega), ?_⟩
        try simp -implicitDefEqProofs only []
        refine ⟨_, count_prog G _ _ _, ?_⟩
        try simp -implicitDefEqProofs only [dcont_s, DD_nil, awp_cond, seqQ_n, upd_app, ev_tmp, holdsO_ofO, un_not, ↓reduceIte]
        cases hcb : countB l[i].l[k] (hitB m m.crs[i] (tupI (szs m m.crs[i].pts) k))
        · simp -implicitDefEqProofs only [awp_seq, awp_reg, awp_ret, seqQ_n, seqQ_r, blk_r, lp_r, rnd_r, cond_t, WW_one, WW_nil, none_md, none_fz, frz_nil, ownOp, wc_app, wcont_s, upd_app, ev_const, av_bool, x_assign, ↓reduceIte, Option.getD_some, Bool.not_false]
          exact ⟨trivial, trivial, by rw [hr, hcb]; rfl⟩
        · simp -implicitDefEqProofs only [awp_reg, awp_skip, seqQ_n, blk_n, rnd_n, cond_f, WW_one, WW_nil, none_md, none_fz, frz_nil, ownOp, wc_app, wcont_s, upd_app, ev_tmp, ev_const, av_int, x_move, x_bin, holdsO_ofO, bin_add, ↓reduceIte, Nat.reduceEqDiff, Option.getD_some, Bool.not_true, Bool.not_false, enP, f40, wrap_succ (show k < 9223372036854775807 by omega)]
          exact ⟨n' - 1, by omega, k + 1, by omega, f1, f2, f17, f18, f19, f6, f7, f38, f39, rfl, trivial, by rw [hr, hcb]; rfl⟩
      · have hk' : ¬ k < l[i].l.length := by simpa using hc
        simp -implicitDefEqProofs only [awp_exit, seqQ_e, lp_e, rnd_e, upd_app, ↓reduceIte, Nat.reduceEqDiff]
        exact ⟨f1, f2, f17, f18, f19, trivial, by rw [hr, List.drop_eq_nil_of_le (by omega)]; rfl⟩
    · rintro F' H' ⟨g1, g2, g17, g18, g19, rfl, hr⟩
      simp -implicitDefEqProofs only [awp_reg, seqQ_n, blk_n, blk_e, rnd_n, WW_one, WW_nil, none_md, none_fz, frz_nil, ownOp, wc_app, wcont_s, upd_app, ev_tmp, ev_const, av_int, x_move, x_bin, holdsO_ofO, bin_add, ↓reduceIte, Nat.reduceEqDiff, Option.getD_some, Bool.not_false, enP, g19, wrap_succ (show i < 9223372036854775807 by omega)]
      exact ⟨n - 1, by omega, i + 1, by omega, g1, g2, g17, g18, rfl, gm1, hx1, by rw [hf, hr]; rfl⟩
    · rintro F' H' ⟨g4, rfl, hr⟩
      simp -implicitDefEqProofs only [seqQ_r, blk_r, rnd_r, end_r, g4]
      exact ⟨by rw [hf, hr]; rfl, hx1⟩
  · have hi' : ¬ i < m.crs.length := by simpa using hc
    simp -implicitDefEqProofs only [awp_seq, awp_reg, awp_ret, awp_exit, seqQ_n, seqQ_e, blk_e, rnd_e, end_r, WW_one, WW_nil, none_md, none_fz, frz_nil, ownOp, wc_app, wcont_s, upd_app, ev_const, av_bool, x_assign, ↓reduceIte, Option.getD_some, Bool.not_false]
    exact ⟨by rw [hf, fit2_end (okC m) _ _ i (by omega) (by omega)], hx⟩
def fitsB (m : Mo) (v : Cvr) : Bool := (modelE m == 0) && fit2 okP m.pts v.pts && fit2 (okC m) m.crs v.crs && withinB v.sam && withinB v.ill
theorem countB_true (n : Int) : countB n true = withinB n := by unfold countB; simp
theorem fits_prog (G : Nat → AV) (hG : GOk G) (hT : TupleOk G) (m : Mo) (v : Cvr) (hm : MoOk m) (hv : CvOk v) (h : Hp) : PCall (En G) 66 [.agg (encM m), .agg (encV v)] h (.bool (fitsB m v)) := by
  refine ACalls.pure0 rfl ?_
  refine acalls_of (H := Hint.none) (enM G) Tryz.func66 rfl (by kernel_rfl) (by kernel_rfl) (Nat.le_of_ble_eq_true (by kernel_rfl)) ?_
  show awp _ _ _ _ _ (endQ _ [.tmp 4] _)
  have gm : (h ++ [ABlk.live 2 [encM m]] ++ [ABlk.live 4 [encV v]])[h.length]? = some (.live 2 [encM m]) := below_get (top_get _ _)
  have gv := top_get (h ++ [ABlk.live 2 [encM m]]) (.live 4 [encV v])
  have hx : ∃ x, h ++ [ABlk.live 2 [encM m]] ++ [ABlk.live 4 [encV v]] = h ++ x := ⟨_, List.append_assoc _ _ _⟩
  simp -implicitDefEqProofs only [awp_seq, awp_reg, seqQ_n, WW_one, WW_nil, none_md, none_fz, frz_nil, ownOp, wc_app, wcont_s, upd_app, ev_tmp, ev_const, av_bool, x_assign, x_box, x_load, holdsO_some, frameOf_zero, frameOf_succ, ↓reduceIte, Nat.reduceEqDiff, Option.getD_some, Bool.not_false, enP, bxM, bxV]
  generalize h ++ [ABlk.live 2 [encM m]] ++ [ABlk.live 4 [encV v]] = H at gm gv hx ⊢
  generalize (h ++ [ABlk.live 2 [encM m]]).length = vb at gv ⊢
  have l0 : aLoad Tryz.prog H 26 (.ptr vb 0 0) = some (.sl v.pm 1 (v.pts.map encL)) := by rw [load_row ag26 gv (row := encV v) rfl, encV0]
  have l1 : aLoad Tryz.prog H 26 (.ptr vb 0 1) = some (.sl v.cm 1 (v.crs.map encL)) := by rw [load_row ag26 gv (row := encV v) rfl, encV1]
  have l2 : aLoad Tryz.prog H 3 (.ptr vb 0 2) = some (.int .i64 v.sam) := by rw [load_row ag3 gv (row := encV v) rfl, encV2]
  have l3 : aLoad Tryz.prog H 3 (.ptr vb 0 3) = some (.int .i64 v.ill) := by rw [load_row ag3 gv (row := encV v) rfl, encV3]
  simp -implicitDefEqProofs only [WW_one, none_md, none_fz, frz_nil, ownOp, wc_app, wcont_s, upd_app, ev_tmp, ev_func, X1_call, callA_fn, holdsO_ofO, List.map_cons, List.map_nil, List.append_nil, ↓reduceIte, Option.getD_some, Bool.not_false, ldM gm]
  refine (model_prog G hG m hm _).use ?_
  simp -implicitDefEqProofs only [WW_one, WW_guardE, GX_some, gdstO, none_md, none_fz, frz_nil, ownOp, wc_app, wcont_s, upd_app, ev_tmp, ev_const, av_int, x_move, x_bin, holdsO_ofO, bin_eql, ↓reduceIte, Option.getD_some, Bool.not_false, enP]
  cases h1 : (modelE m == 0)
  · simp -implicitDefEqProofs only [awp_ret, seqQ_n, end_r, WW_one, WW_nil, WW_guardE, GX_some, gdstO, G1_tf, none_md, none_fz, frz_nil, ownOp, wc_app, wcont_s, upd_app, aput, ev_tmp, ev_const, av_bool, x_move, x_assign, x_pick, pick_f, ↓reduceIte, Nat.reduceEqDiff, Option.getD_some, Bool.not_false]
    exact ⟨by unfold fitsB; rw [h1]; rfl, hx⟩
  have hg := good_of (beq_iff_eq.1 h1)
  simp -implicitDefEqProofs only [WW_guardE, GX_some, gdstO, G1_tt, none_md, none_fz, frz_nil, ownOp, wc_app, wcont_s, upd_app, ev_tmp, ev_func, x_load, x_fieldAddr, X1_call, callA_fn, holdsO_ofO, List.map_cons, List.map_nil, List.append_nil, ↓reduceIte, Nat.reduceEqDiff, Nat.add_zero, Option.getD_some, Bool.not_false, enP, fa28_0, ldM gm, l0]
  refine (fitP_prog G m v.pts v.pm _ hm hv.eachP).use ?_
  simp -implicitDefEqProofs only [WW_one, WW_guardE, GX_some, gdstO, none_md, none_fz, frz_nil, ownOp, wc_app, wcont_s, upd_app, ev_tmp, ev_const, av_bool, x_move, x_pick, pick_t, ↓reduceIte, Nat.reduceEqDiff, Option.getD_some, Bool.not_false]
  cases h2 : fit2 okP m.pts v.pts
  · simp -implicitDefEqProofs only [awp_ret, seqQ_n, end_r, WW_one, WW_nil, WW_guardE, GX_some, gdstO, G1_tf, none_md, none_fz, frz_nil, ownOp, wc_app, wcont_s, upd_app, aput, ev_tmp, ev_const, av_bool, x_move, x_assign, x_pick, pick_f, ↓reduceIte, Nat.reduceEqDiff, Option.getD_some, Bool.not_false]
    exact ⟨by unfold fitsB; rw [h1, h2]; rfl, hx⟩
  simp -implicitDefEqProofs only [WW_guardE, GX_some, gdstO, G1_tt, none_md, none_fz, frz_nil, ownOp, wc_app, wcont_s, upd_app, ev_tmp, ev_func, x_load, x_fieldAddr, X1_call, callA_fn, holdsO_ofO, List.map_cons, List.map_nil, List.append_nil, ↓reduceIte, Nat.reduceEqDiff, Nat.zero_add, Option.getD_some, Bool.not_false, enP, fa28_1, ldM gm, l1]
  refine (fitC_prog G hT m v.crs v.cm _ hm hg hv.eachC).use ?_
  simp -implicitDefEqProofs only [WW_one, WW_guardE, GX_some, gdstO, none_md, none_fz, frz_nil, ownOp, wc_app, wcont_s, upd_app, ev_tmp, ev_const, av_bool, x_move, x_pick, pick_t, ↓reduceIte, Nat.reduceEqDiff, Option.getD_some, Bool.not_false]
  cases h3 : fit2 (okC m) m.crs v.crs
  · simp -implicitDefEqProofs only [awp_ret, seqQ_n, end_r, WW_one, WW_nil, WW_guardE, GX_some, gdstO, G1_tf, none_md, none_fz, frz_nil, ownOp, wc_app, wcont_s, upd_app, aput, ev_tmp, ev_const, av_bool, x_move, x_assign, x_pick, pick_f, ↓reduceIte, Nat.reduceEqDiff, Option.getD_some, Bool.not_false]
    exact ⟨by unfold fitsB; rw [h1, h2, h3]; rfl, hx⟩
  simp -implicitDefEqProofs only [WW_guardE, GX_some, gdstO, G1_tt, none_md, none_fz, frz_nil, ownOp, wc_app, wcont_s, upd_app, ev_tmp, ev_const, ev_func, av_bool, x_load, x_fieldAddr, X1_call, callA_fn, holdsO_ofO, List.map_cons, List.map_nil, List.append_nil, ↓reduceIte, Nat.reduceEqDiff, Nat.zero_add, Option.getD_some, Bool.not_false, enP, fa28_2, l2]
  refine (count_prog G _ _ _).use ?_
  simp -implicitDefEqProofs only [WW_one, WW_guardE, GX_some, gdstO, none_md, none_fz, frz_nil, ownOp, wc_app, wcont_s, upd_app, ev_tmp, ev_const, av_bool, x_move, x_pick, pick_t, ↓reduceIte, Nat.reduceEqDiff, Option.getD_some, Bool.not_false, countB_true]
  cases h4 : withinB v.sam
  · simp -implicitDefEqProofs only [awp_ret, seqQ_n, end_r, WW_one, WW_nil, WW_guardE, GX_some, gdstO, G1_tf, none_md, none_fz, frz_nil, ownOp, wc_app, wcont_s, upd_app, aput, ev_tmp, ev_const, av_bool, x_assign, x_pick, pick_f, ↓reduceIte, Nat.reduceEqDiff, Option.getD_some, Bool.not_false]
    exact ⟨by unfold fitsB; rw [h1, h2, h3, h4]; rfl, hx⟩
  simp -implicitDefEqProofs only [WW_guardE, GX_some, gdstO, G1_tt, none_md, none_fz, frz_nil, ownOp, wc_app, wcont_s, upd_app, ev_tmp, ev_const, ev_func, av_bool, x_load, x_fieldAddr, X1_call, callA_fn, holdsO_ofO, List.map_cons, List.map_nil, List.append_nil, ↓reduceIte, Nat.reduceEqDiff, Nat.zero_add, Option.getD_some, Bool.not_false, enP, fa28_3, l3]
  refine (count_prog G _ _ _).use ?_
  simp -implicitDefEqProofs only [awp_ret, seqQ_n, end_r, WW_one, WW_nil, none_md, none_fz, frz_nil, ownOp, wc_app, wcont_s, upd_app, ev_tmp, ev_const, av_bool, x_assign, x_pick, pick_t, ↓reduceIte, Nat.reduceEqDiff, Option.getD_some, Bool.not_false, countB_true]
  exact ⟨by unfold fitsB; rw [h1, h2, h3, h4]; rfl, hx⟩
end Go.Proofs.YtocilianjfhifaaGreatDoor.Cov
/- Coverages that fit a model: the reference; no condition but the bounds on lengths. -/
set_option linter.unusedSimpArgs false
set_option maxRecDepth 8000
namespace Go.Proofs.YtocilianjfhifaaGreatDoor.Cov
open Go Go.Proofs Go.Proofs.YtocilianjfhifaaGreatDoor.Sm Go.Proofs.YtocilianjfhifaaGreatDoor.Bins Go.RowKit

/-- a model and a coverage in two blocks -/
structure TwoV (h H : Hp) (m : Mo) (v : Cvr) (vb : Nat) : Prop where
  gm : H[h.length]? = some (.live 2 [encM m])
  gv : H[vb]? = some (.live 4 [encV v])
  hx : ∃ x, H = h ++ x
theorem TwoV.mk' (h : Hp) (m : Mo) (v : Cvr) : TwoV h (h ++ [.live 2 [encM m]] ++ [.live 4 [encV v]]) m v (h ++ [ABlk.live 2 [encM m]]).length := ⟨below_get (top_get _ _), top_get _ _, ⟨_, List.append_assoc _ _ _⟩⟩
section
variable {h H : Hp} {m : Mo} {v : Cvr} {vb : Nat} (t : TwoV h H m v vb)
include t
theorem TwoV.m0 : aLoad Tryz.prog H 22 (.ptr h.length 0 0) = some (.sl m.pm 6 (m.pts.map encP)) := by rw [load_row ag22 t.gm (row := encM m) rfl, encM0]
theorem TwoV.m1 : aLoad Tryz.prog H 23 (.ptr h.length 0 1) = some (.sl m.cm 3 (m.crs.map encC)) := by rw [load_row ag23 t.gm (row := encM m) rfl, encM1]
theorem TwoV.l0 : aLoad Tryz.prog H 26 (.ptr vb 0 0) = some (.sl v.pm 1 (v.pts.map encL)) := by rw [load_row ag26 t.gv (row := encV v) rfl, encV0]
theorem TwoV.l1 : aLoad Tryz.prog H 26 (.ptr vb 0 1) = some (.sl v.cm 1 (v.crs.map encL)) := by rw [load_row ag26 t.gv (row := encV v) rfl, encV1]
theorem TwoV.l2 : aLoad Tryz.prog H 3 (.ptr vb 0 2) = some (.int .i64 v.sam) := by rw [load_row ag3 t.gv (row := encV v) rfl, encV2]
theorem TwoV.l3 : aLoad Tryz.prog H 3 (.ptr vb 0 3) = some (.int .i64 v.ill) := by rw [load_row ag3 t.gv (row := encV v) rfl, encV3]
end
/-- as the reference asks -/
theorem countB_ref (n : Int) (may : Bool) : countB n may = !(!withinB n || (decide (n > 0) && !may)) := by
  unfold countB
  cases hw : withinB n
  · rfl
  · have h0 : 0 ≤ n := by
      unfold withinB at hw; simp at hw; exact hw.1
    cases may
    · have : (n == 0) = !decide (n > 0) := by rw [Bool.eq_iff_iff]; simp; omega
      rw [this]; cases decide (n > 0) <;> rfl
    · cases decide (n > 0) <;> rfl
set_option maxHeartbeats 1000000 in
theorem fits_ref (G : Nat → AV) (m : Mo) (v : Cvr) (hm : MoOk m) (hv : CvOk v) (h : Hp) : PCall (En G) 39 [.agg (encM m), .agg (encV v)] h (.bool (fitsB m v)) := by
  refine ACalls.pure0 rfl ?_
  have hm1 := hm.np
  have hm2 := hm.nc
  refine acalls_of (H := Hint.none) (enM G) Tryz.func39 rfl (by kernel_rfl) (by kernel_rfl) (Nat.le_of_ble_eq_true (by kernel_rfl)) ?_
  show awp _ _ _ _ _ (endQ _ [.tmp 4] _)
  have t := TwoV.mk' h m v
  simp -implicitDefEqProofs only [awp_seq, awp_reg, seqQ_n, WW_one, WW_nil, none_md, none_fz, frz_nil, ownOp, wc_app, wcont_s, upd_app, ev_tmp, ev_const, av_bool, x_assign, x_box, x_load, holdsO_some, frameOf_zero, frameOf_succ, ↓reduceIte, Nat.reduceEqDiff, Option.getD_some, Bool.not_false, enP, bxM, bxV]
  generalize h ++ [ABlk.live 2 [encM m]] ++ [ABlk.live 4 [encV v]] = H at t ⊢
  generalize (h ++ [ABlk.live 2 [encM m]]).length = vb at t ⊢
  have hlp : m.pts.length ≠ v.pts.length → fit2 okP m.pts v.pts = false := fun hne => by
    rw [← Bool.not_eq_true]; exact fun e => hne (fit2_len e)
  have hlc : m.crs.length ≠ v.crs.length → fit2 (okC m) m.crs v.crs = false := fun hne => by
    rw [← Bool.not_eq_true]; exact fun e => hne (fit2_len e)
  simp -implicitDefEqProofs only [WW_one, none_md, none_fz, frz_nil, ownOp, wc_app, wcont_s, upd_app, ev_tmp, ev_func, X1_call, callA_fn, holdsO_ofO, List.map_cons, List.map_nil, List.append_nil, ↓reduceIte, Option.getD_some, Bool.not_false, ldM t.gm]
  refine (model_ref G m hm _).use ?_
  simp -implicitDefEqProofs only [WW_one, WW_guardE, GX_some, gdstO, none_md, none_fz, frz_nil, ownOp, wc_app, wcont_s, upd_app, ev_tmp, ev_const, av_int, x_move, x_bin, holdsO_ofO, bin_neq, ↓reduceIte, Option.getD_some, Bool.not_false, enP, bne]
  cases h1 : (modelE m == 0)
  · simp -implicitDefEqProofs only [awp_seq, awp_reg, awp_ret, awp_cond, seqQ_n, seqQ_r, end_r, cond_t, WW_one, WW_nil, WW_guardE, GX_some, gdstO, G1_ft, none_md, none_fz, frz_nil, ownOp, wc_app, wcont_s, upd_app, aput, ev_tmp, ev_const, av_bool, x_move, x_assign, x_pick, pick_t, ↓reduceIte, Nat.reduceEqDiff, Option.getD_some, Bool.not_false]
    exact ⟨by unfold fitsB; rw [h1]; rfl, t.hx⟩
  have hg := good_of (beq_iff_eq.1 h1)
  simp -implicitDefEqProofs only [WW_one, WW_guardE, GX_some, gdstO, G1_ff, none_md, none_fz, frz_nil, ownOp, wc_app, wcont_s, upd_app, ev_tmp, ev_const, av_bool, x_move, x_pick, pick_f, x_load, x_bin, x_fieldAddr, x_len, holdsO_ofO, bin_neq, ↓reduceIte, Nat.reduceEqDiff, Nat.add_zero, Option.getD_some, Bool.not_true, Bool.not_false, enP, ln22, fa25_0, ln26, fa28_0, t.m0, t.l0, List.length_map, bne]
  cases h2 : ((v.pts.length : Int) == (m.pts.length : Int))
  · simp -implicitDefEqProofs only [awp_seq, awp_reg, awp_ret, awp_cond, seqQ_n, seqQ_r, end_r, cond_t, WW_one, WW_nil, WW_guardE, GX_some, gdstO, G1_ft, none_md, none_fz, frz_nil, ownOp, wc_app, wcont_s, upd_app, aput, ev_tmp, ev_const, av_bool, x_move, x_assign, x_pick, pick_t, ↓reduceIte, Nat.reduceEqDiff, Option.getD_some, Bool.not_false]
    have := hlp (by simp at h2; omega)
    exact ⟨by unfold fitsB; rw [this]; simp, t.hx⟩
  have h2' : v.pts.length = m.pts.length := by simp at h2; omega
  simp -implicitDefEqProofs only [WW_one, WW_guardE, GX_some, gdstO, G1_ff, none_md, none_fz, frz_nil, ownOp, wc_app, wcont_s, upd_app, ev_tmp, ev_const, av_bool, x_move, x_pick, pick_f, x_load, x_bin, x_fieldAddr, x_len, holdsO_ofO, bin_neq, ↓reduceIte, Nat.reduceEqDiff, Nat.zero_add, Option.getD_some, Bool.not_true, Bool.not_false, enP, ln23, fa25_1, ln26, fa28_1, t.m1, t.l1, List.length_map, bne]
  cases h3 : ((v.crs.length : Int) == (m.crs.length : Int))
  · simp -implicitDefEqProofs only [awp_seq, awp_reg, awp_ret, awp_cond, seqQ_n, seqQ_r, end_r, cond_t, WW_one, WW_nil, WW_guardE, GX_some, gdstO, G1_ft, none_md, none_fz, frz_nil, ownOp, wc_app, wcont_s, upd_app, aput, ev_tmp, ev_const, av_bool, x_move, x_assign, x_pick, pick_t, ↓reduceIte, Nat.reduceEqDiff, Option.getD_some, Bool.not_false]
    have := hlc (by simp at h3; omega)
    exact ⟨by unfold fitsB; rw [this]; simp, t.hx⟩
  have h3' : v.crs.length = m.crs.length := by simp at h3; omega
  simp -implicitDefEqProofs only [WW_guardE, GX_some, gdstO, G1_ff, none_md, none_fz, frz_nil, ownOp, wc_app, wcont_s, upd_app, ev_tmp, ev_func, x_load, x_fieldAddr, X1_call, callA_fn, holdsO_ofO, List.map_cons, List.map_nil, List.append_nil, ↓reduceIte, Nat.reduceEqDiff, Nat.zero_add, Option.getD_some, Bool.not_true, Bool.not_false, enP, fa28_2, t.l2]
  refine (within_ref G _ _).use ?_
  simp -implicitDefEqProofs only [WW_one, WW_guardE, GX_some, gdstO, G1_ff, none_md, none_fz, frz_nil, ownOp, wc_app, wcont_s, upd_app, ev_tmp, ev_const, av_bool, x_move, x_pick, pick_f, x_un, holdsO_ofO, un_not, ↓reduceIte, Nat.reduceEqDiff, Option.getD_some, Bool.not_false]
  cases h4 : withinB v.sam
  · simp -implicitDefEqProofs only [awp_seq, awp_reg, awp_ret, awp_cond, seqQ_n, seqQ_r, end_r, cond_t, WW_one, WW_nil, WW_guardE, GX_some, gdstO, G1_ft, none_md, none_fz, frz_nil, ownOp, wc_app, wcont_s, upd_app, aput, ev_tmp, ev_const, av_bool, x_assign, x_pick, pick_t, ↓reduceIte, Nat.reduceEqDiff, Option.getD_some, Bool.not_false]
    exact ⟨by unfold fitsB; rw [h4]; simp, t.hx⟩
  simp -implicitDefEqProofs only [WW_guardE, GX_some, gdstO, G1_ff, none_md, none_fz, frz_nil, ownOp, wc_app, wcont_s, upd_app, ev_tmp, ev_func, x_load, x_fieldAddr, X1_call, callA_fn, holdsO_ofO, List.map_cons, List.map_nil, List.append_nil, ↓reduceIte, Nat.reduceEqDiff, Nat.zero_add, Option.getD_some, Bool.not_true, Bool.not_false, enP, fa28_3, t.l3]
  refine (within_ref G _ _).use ?_
  simp -implicitDefEqProofs only [awp_cond, seqQ_n, WW_one, WW_nil, WW_guardE, GX_some, gdstO, G1_ff, none_md, none_fz, frz_nil, ownOp, wc_app, wcont_s, upd_app, ev_tmp, ev_const, av_bool, x_pick, pick_f, x_un, holdsO_ofO, un_not, ↓reduceIte, Nat.reduceEqDiff, Option.getD_some, Bool.not_false]
  cases h5 : withinB v.ill
  · simp -implicitDefEqProofs only [awp_seq, awp_reg, awp_ret, seqQ_n, seqQ_r, end_r, cond_t, WW_one, WW_nil, none_md, none_fz, frz_nil, ownOp, wc_app, wcont_s, upd_app, ev_const, av_bool, x_assign, ↓reduceIte, Option.getD_some, Bool.not_false]
    exact ⟨by unfold fitsB; rw [h5]; simp, t.hx⟩
  have hfb : fitsB m v = (fit2 okP m.pts v.pts && fit2 (okC m) m.crs v.crs) := by unfold fitsB; rw [h1, h4, h5]; simp
  rw [hfb]
  simp -implicitDefEqProofs only [awp_seq, awp_block, awp_reg, awp_skip, seqQ_n, cond_f, WW_one, WW_nil, none_md, none_fz, frz_nil, ownOp, wc_app, wcont_s, ev_const, av_int, x_assign, Option.getD_some, Bool.not_true, Bool.not_false]
  refine awp_lp 0 (fun F H' => F 2 = .ptr h.length 0 0 ∧ F 3 = .ptr vb 0 0 ∧ H' = H ∧ fit2 okP m.pts v.pts = true) (fun F H' => F 4 = .bool false ∧ H' = H ∧ fit2 okP m.pts v.pts = false) ?_ ?_ ?_
  · refine awp_loop (fun n F H' => ∃ i, n + i = m.pts.length ∧ F 2 = .ptr h.length 0 0 ∧ F 3 = .ptr vb 0 0 ∧ F 5 = .int .i64 (i : Nat) ∧ H' = H ∧ fit2 okP m.pts v.pts = fit2 okP (m.pts.drop i) (v.pts.drop i)) m.pts.length ⟨0, by simp, by simp -implicitDefEqProofs only [upd_app, ↓reduceIte, Nat.reduceEqDiff], by simp -implicitDefEqProofs only [upd_app, ↓reduceIte, Nat.reduceEqDiff], by simp -implicitDefEqProofs only [upd_app, ↓reduceIte]; rfl, rfl, rfl⟩ ?_
    rintro n F H' ⟨i, hi, f2, f3, f5, rfl, hf⟩
    simp -implicitDefEqProofs only [awp_seq, awp_reg, awp_cond, seqQ_n, WW_one, WW_nil, none_md, none_fz, frz_nil, ownOp, wc_app, wcont_s, upd_app, ev_tmp, x_move, x_load, x_bin, x_fieldAddr, x_len, holdsO_ofO, bin_lss, ↓reduceIte, Nat.reduceEqDiff, Nat.add_zero, Option.getD_some, Bool.not_false, enP, ln22, fa25_0, f2, f5, t.m0, List.length_map]
    refine cond_of (fun hc => ?_) (fun hc => ?_)
    · have hi' : i < m.pts.length := by simpa using hc
      have hil : i < v.pts.length := by omega
      rw [fit2_step okP m.pts v.pts i hi' hil] at hf
      have hxl := hv.eachP _ (List.getElem_mem hil)
      simp -implicitDefEqProofs only [awp_seq, awp_block, awp_skip, seqQ_n]
      refine awp_draw (by kernel_rfl) ?_
      simp -implicitDefEqProofs only [YO_f, dc_app, dcont_s, DD_nil, DD_one, y_move, y_load, y_bin, y_fieldAddr, y_indexAddr, y_builtin, awp_cond, seqQ_n, none_md, upd_app, ev_tmp, x_load, x_bin, x_fieldAddr, x_indexAddr, x_len, holdsO_ofO, bin_neq, ↓reduceIte, Nat.reduceEqDiff, Nat.reduceAdd, Nat.add_zero, Nat.zero_add, Option.getD_some, enP, ix22, fa25_0, ix26, fa28_0, ln54, fa56_2, ln57, f2, f3, f5, t.m0, t.l0, ix_map hil, ix_map hi', load_map ag57 hil, encL0, load_map ag54 hi', encP5, List.length_map]
      refine cond_of (fun h6 => ?_) (fun h6 => ?_)
      · simp -implicitDefEqProofs only [awp_seq, awp_reg, awp_ret, seqQ_n, seqQ_r, blk_r, lp_r, rnd_r, WW_one, WW_nil, none_md, none_fz, frz_nil, ownOp, wc_app, wcont_s, upd_app, ev_const, av_bool, x_assign, ↓reduceIte, Option.getD_some, Bool.not_false]
        have : okP m.pts[i] v.pts[i] = false := by
          have : (v.pts[i].l.length == m.pts[i].bins.length) = false := by
            rw [beq_eq_false_iff_ne]; intro e; simp [e] at h6
          unfold okP; rw [this]; rfl
        exact ⟨trivial, trivial, by rw [hf, this]; rfl⟩
      have hbl : v.pts[i].l.length = m.pts[i].bins.length := by simp at h6; omega
      have hok : okP m.pts[i] v.pts[i] = rowF (fun k => kindOf m.pts[i] k == 0) 0 v.pts[i].l := by
        unfold okP; rw [beq_iff_eq.2 hbl]; rfl
      simp -implicitDefEqProofs only [awp_seq, awp_block, awp_reg, awp_skip, seqQ_n, WW_one, WW_nil, none_md, none_fz, frz_nil, ownOp, wc_app, wcont_s, ev_const, av_int, x_assign, Option.getD_some, Bool.not_false]
      refine awp_lp 2 (fun F' H => F' 2 = .ptr h.length 0 0 ∧ F' 3 = .ptr vb 0 0 ∧ F' 5 = .int .i64 (i : Nat) ∧ H = H' ∧ okP m.pts[i] v.pts[i] = true) (fun F' H => F' 4 = .bool false ∧ H = H' ∧ okP m.pts[i] v.pts[i] = false) ?_ ?_ ?_
      · refine awp_loop (fun n F' H => ∃ k, n + k = v.pts[i].l.length ∧ F' 2 = .ptr h.length 0 0 ∧ F' 3 = .ptr vb 0 0 ∧ F' 5 = .int .i64 (i : Nat) ∧ F' 6 = .int .i64 (k : Nat) ∧ H = H' ∧ okP m.pts[i] v.pts[i] = rowF (fun k => kindOf m.pts[i] k == 0) k (v.pts[i].l.drop k)) v.pts[i].l.length ⟨0, by simp, by simp -implicitDefEqProofs only [upd_app, ↓reduceIte, Nat.reduceEqDiff, f2], by simp -implicitDefEqProofs only [upd_app, ↓reduceIte, Nat.reduceEqDiff, f3], by simp -implicitDefEqProofs only [upd_app, ↓reduceIte, Nat.reduceEqDiff, f5], by simp -implicitDefEqProofs only [upd_app, ↓reduceIte]; rfl, rfl, hok⟩ ?_
        clear f2 f3 f5
        rintro n' F H' ⟨k, hk, f2, f3, f5, f6, rfl, hr⟩
        simp -implicitDefEqProofs only [awp_seq, awp_reg, awp_cond, seqQ_n, WW_one, WW_nil, none_md, none_fz, frz_nil, ownOp, wc_app, wcont_s, upd_app, ev_tmp, x_move, x_load, x_bin, x_fieldAddr, x_indexAddr, x_len, holdsO_ofO, bin_lss, ↓reduceIte, Nat.reduceEqDiff, Nat.add_zero, Option.getD_some, Bool.not_false, enP, ix26, fa28_0, ln57, f3, f5, f6, t.l0, ix_map hil, load_map ag57 hil, encL0, List.length_map]
        refine cond_of (fun hc => ?_) (fun hc => ?_)
        · have hk' : k < v.pts[i].l.length := by simpa using hc
          have hkb : k < m.pts[i].bins.length := by omega
          have hkd : kindOf m.pts[i] k = (m.pts[i].bins[k]).kind := by unfold kindOf; rw [List.getElem?_eq_getElem hkb]
          rw [rowF_step _ _ _ hk', hkd, countB_ref] at hr
          simp -implicitDefEqProofs only [awp_seq, awp_block, awp_reg, awp_skip, seqQ_n, WW_one, WW_nil, none_md, none_fz, frz_nil, ownOp, wc_app, wcont_s, upd_app, ev_tmp, ev_func, x_move, x_assign, x_load, x_fieldAddr, x_indexAddr, X1_call, callA_fn, holdsO_ofO, List.map_cons, List.map_nil, List.append_nil, ↓reduceIte, Nat.reduceEqDiff, Nat.add_zero, Option.getD_some, Bool.not_false, enP, ix26, fa28_0, ix57, f3, f5, f6, t.l0, ix_map hil, load_map ag57 hil, encL0, ix_map hk', load_map ag3 hk', encI0]
          refine (within_ref G _ _).use ?_
          simp -implicitDefEqProofs only [WW_one, WW_guardE, GX_some, gdstO, none_md, none_fz, frz_nil, ownOp, wc_app, wcont_s, upd_app, ev_tmp, x_move, x_un, holdsO_ofO, un_not, ↓reduceIte, Option.getD_some, Bool.not_false]
          cases hw : withinB v.pts[i].l[k]
          · simp -implicitDefEqProofs only [awp_seq, awp_reg, awp_ret, awp_cond, seqQ_n, seqQ_r, blk_r, lp_r, rnd_r, cond_t, WW_one, WW_nil, WW_guardE, GX_some, gdstO, G1_ft, G1_u, none_md, none_fz, frz_nil, ownOp, wc_app, wcont_s, upd_app, aput, ev_tmp, ev_const, av_bool, x_assign, x_pick, pick_t, ↓reduceIte, Nat.reduceEqDiff, Option.getD_some, Bool.not_false]
            exact ⟨trivial, trivial, by rw [hr, hw]; rfl⟩
          rw [hw] at hr
          simp -implicitDefEqProofs only [WW_guardE, GX_some, gdstO, G1_ff, none_md, none_fz, frz_nil, ownOp, wc_app, wcont_s, upd_app, ev_tmp, ev_const, av_int, x_move, x_bin, holdsO_ofO, bin_gtr, ↓reduceIte, Nat.reduceEqDiff, Option.getD_some, Bool.not_true, Bool.not_false, enP]
          cases hp : decide (v.pts[i].l[k] > 0)
          · simp -implicitDefEqProofs only [awp_reg, awp_skip, awp_cond, seqQ_n, blk_n, rnd_n, cond_f, WW_one, WW_nil, WW_guardE, GX_some, gdstO, G1_ff, G1_tf, none_md, none_fz, frz_nil, ownOp, wc_app, wcont_s, upd_app, aput, ev_tmp, ev_const, av_int, av_bool, x_move, x_assign, x_pick, pick_f, x_bin, holdsO_ofO, bin_add, ↓reduceIte, Nat.reduceEqDiff, Option.getD_some, Bool.not_false, enP, f6, wrap_succ (show k < 9223372036854775807 by omega)]
            exact ⟨n' - 1, by omega, k + 1, by omega, f2, f3, f5, rfl, trivial, by rw [hr, hp]; rfl⟩
          rw [hp] at hr
          simp -implicitDefEqProofs only [awp_cond, seqQ_n, WW_one, WW_nil, WW_guardE, GX_some, gdstO, G1_tt, G1_ff, none_md, none_fz, frz_nil, ownOp, wc_app, wcont_s, upd_app, ev_tmp, ev_const, av_int, av_bool, x_move, x_pick, pick_t, pick_f, x_load, x_bin, x_fieldAddr, x_indexAddr, holdsO_ofO, bin_neq, ↓reduceIte, Nat.reduceEqDiff, Nat.add_zero, Nat.zero_add, Option.getD_some, Bool.not_false, enP, ix22, fa25_0, ix54, fa56_2, fa121_1, f2, f5, f6, t.m0, ix_map hi', load_map ag54 hi', encP5, ix_map hkb, load_map ag3 hkb, encB1, bne]
          cases hz : (m.pts[i].bins[k].kind == 0)
          · simp -implicitDefEqProofs only [awp_seq, awp_reg, awp_ret, seqQ_n, seqQ_r, blk_r, lp_r, rnd_r, cond_t, WW_one, WW_nil, none_md, none_fz, frz_nil, ownOp, wc_app, wcont_s, upd_app, ev_const, av_bool, x_assign, ↓reduceIte, Option.getD_some, Bool.not_false]
            exact ⟨trivial, trivial, by rw [hr, hz]; rfl⟩
          · simp -implicitDefEqProofs only [awp_reg, awp_skip, seqQ_n, blk_n, rnd_n, cond_f, WW_one, WW_nil, none_md, none_fz, frz_nil, ownOp, wc_app, wcont_s, upd_app, ev_tmp, ev_const, av_int, x_move, x_assign, x_bin, holdsO_ofO, bin_add, ↓reduceIte, Nat.reduceEqDiff, Option.getD_some, Bool.not_true, Bool.not_false, enP, f6, wrap_succ (show k < 9223372036854775807 by omega)]
            exact ⟨n' - 1, by omega, k + 1, by omega, f2, f3, f5, rfl, trivial, by rw [hr, hz]; rfl⟩
        · have hk' : ¬ k < v.pts[i].l.length := by simpa using hc
          simp -implicitDefEqProofs only [awp_exit, seqQ_e, lp_e, rnd_e, upd_app, ↓reduceIte, Nat.reduceEqDiff]
          exact ⟨f2, f3, f5, trivial, by rw [hr, List.drop_eq_nil_of_le (by omega)]; rfl⟩
      · rintro F' H' ⟨g2, g3, g5, rfl, hr⟩
        simp -implicitDefEqProofs only [awp_reg, seqQ_n, blk_n, blk_e, rnd_n, WW_one, WW_nil, none_md, none_fz, frz_nil, ownOp, wc_app, wcont_s, upd_app, ev_tmp, ev_const, av_int, x_move, x_assign, x_bin, holdsO_ofO, bin_add, ↓reduceIte, Nat.reduceEqDiff, Option.getD_some, Bool.not_false, enP, g5, wrap_succ (show i < 9223372036854775807 by omega)]
        exact ⟨n - 1, by omega, i + 1, by omega, g2, g3, rfl, trivial, by rw [hf, hr]; rfl⟩
      · rintro F' H' ⟨g4, rfl, hr⟩
        simp -implicitDefEqProofs only [seqQ_r, blk_r, lp_r, rnd_r, g4]
        exact ⟨trivial, trivial, by rw [hf, hr]; rfl⟩
    · have hi' : ¬ i < m.pts.length := by simpa using hc
      simp -implicitDefEqProofs only [awp_exit, seqQ_e, lp_e, rnd_e, upd_app, ↓reduceIte, Nat.reduceEqDiff]
      exact ⟨f2, f3, trivial, by rw [hf, fit2_end okP _ _ i (by omega) (by omega)]⟩
  · rintro F H' ⟨f2, f3, rfl, hfp⟩
    rw [hfp, Bool.true_and]
    simp -implicitDefEqProofs only [awp_seq, awp_block, awp_reg, seqQ_n, blk_e, WW_one, WW_nil, none_md, none_fz, frz_nil, ownOp, wc_app, wcont_s, ev_const, av_int, x_assign, ↓reduceIte, Option.getD_some, Bool.not_false]
    refine awp_loop (fun n F H => ∃ i, n + i = m.crs.length ∧ F 2 = .ptr h.length 0 0 ∧ F 3 = .ptr vb 0 0 ∧ F 8 = .int .i64 (i : Nat) ∧ H = H' ∧ fit2 (okC m) m.crs v.crs = fit2 (okC m) (m.crs.drop i) (v.crs.drop i)) m.crs.length ⟨0, by simp, by simp -implicitDefEqProofs only [upd_app, ↓reduceIte, Nat.reduceEqDiff, f2], by simp -implicitDefEqProofs only [upd_app, ↓reduceIte, Nat.reduceEqDiff, f3], by simp -implicitDefEqProofs only [upd_app, ↓reduceIte]; rfl, rfl, rfl⟩ ?_
    clear f2 f3
    rintro n F H' ⟨i, hi, f2, f3, f8, rfl, hf⟩
    simp -implicitDefEqProofs only [awp_seq, awp_reg, awp_cond, seqQ_n, WW_one, WW_nil, none_md, none_fz, frz_nil, ownOp, wc_app, wcont_s, upd_app, ev_tmp, x_move, x_load, x_bin, x_fieldAddr, x_len, holdsO_ofO, bin_lss, ↓reduceIte, Nat.reduceEqDiff, Nat.zero_add, Option.getD_some, Bool.not_false, enP, ln23, fa25_1, f2, f8, t.m1, List.length_map]
    refine cond_of (fun hc => ?_) (fun hc => ?_)
    · have hi' : i < m.crs.length := by simpa using hc
      have hil : i < v.crs.length := by omega
      rw [fit2_step (okC m) m.crs v.crs i hi' hil] at hf
      have hxl := hv.eachC _ (List.getElem_mem hil)
      have hcg := hg.crs _ (List.getElem_mem hi')
      have hfs := hg.full.szs hcg.here
      have htwo := hcg.two
      have hfour := hcg.four
      have hpr := hcg.prod
      have hnum := hcg.num
      have hmin : min (prodN (szs m m.crs[i].pts) : Int) 1000 = (prodN (szs m m.crs[i].pts) : Int) := by omega
      simp -implicitDefEqProofs only [awp_seq, awp_block, awp_skip, seqQ_n]
      refine awp_draw (by kernel_rfl) ?_
      simp -implicitDefEqProofs only [YO_f, dc_app, dcont_s, DD_one, y_move, y_load, y_bin, y_fieldAddr, y_indexAddr, y_builtin, Y1_call, callP_fn, none_md, upd_app, ev_tmp, ev_func, x_load, x_bin, x_fieldAddr, x_indexAddr, x_len, holdsO_ofO, List.map_cons, List.map_nil, List.append_nil, ↓reduceIte, Nat.reduceEqDiff, Nat.reduceAdd, Nat.zero_add, Option.getD_some, enP, ix23, fa25_1, ix26, fa28_1, ln57, f2, f3, f8, t.m1, t.l1, ldM t.gm, ix_map hil, ix_map hi', load_map ag57 hil, encL0, load_mapA ag71 sz71 encC_len hi', List.length_map]
      refine ⟨_, csize_ref G m m.crs[i] _ hcg.here hg.full (by omega), ?_⟩
      rw [hmin]
      try simp -implicitDefEqProofs only [dcont_s, DD_nil, awp_cond, seqQ_n, upd_app, ev_tmp, holdsO_ofO, bin_neq, ↓reduceIte]
      refine cond_of (fun h6 => ?_) (fun h6 => ?_)
      · simp -implicitDefEqProofs only [awp_seq, awp_reg, awp_ret, seqQ_n, seqQ_r, blk_r, rnd_r, end_r, WW_one, WW_nil, none_md, none_fz, frz_nil, ownOp, wc_app, wcont_s, upd_app, ev_const, av_bool, x_assign, ↓reduceIte, Option.getD_some, Bool.not_false]
        have : okC m m.crs[i] v.crs[i] = false := by
          have : (v.crs[i].l.length == prodN (szs m m.crs[i].pts)) = false := by
            rw [beq_eq_false_iff_ne]; intro e; simp [e] at h6
          unfold okC; rw [this]; rfl
        exact ⟨by rw [hf, this]; rfl, t.hx⟩
      have hbl : v.crs[i].l.length = prodN (szs m m.crs[i].pts) := by simp at h6; omega
      have hok : okC m m.crs[i] v.crs[i] = rowF (fun k => hitB m m.crs[i] (tupI (szs m m.crs[i].pts) k)) 0 v.crs[i].l := by
        unfold okC; rw [beq_iff_eq.2 hbl]; rfl
      simp -implicitDefEqProofs only [awp_seq, awp_block, awp_reg, awp_skip, seqQ_n, WW_one, WW_nil, none_md, none_fz, frz_nil, ownOp, wc_app, wcont_s, ev_const, av_int, x_assign, Option.getD_some, Bool.not_false]
      refine awp_lp 6 (fun F' H => F' 2 = .ptr h.length 0 0 ∧ F' 3 = .ptr vb 0 0 ∧ F' 8 = .int .i64 (i : Nat) ∧ H = H' ∧ okC m m.crs[i] v.crs[i] = true) (fun F' H => F' 4 = .bool false ∧ H = H' ∧ okC m m.crs[i] v.crs[i] = false) ?_ ?_ ?_
      · refine awp_loop (fun n F' H => ∃ k, n + k = v.crs[i].l.length ∧ F' 2 = .ptr h.length 0 0 ∧ F' 3 = .ptr vb 0 0 ∧ F' 8 = .int .i64 (i : Nat) ∧ F' 9 = .int .i64 (k : Nat) ∧ H = H' ∧ okC m m.crs[i] v.crs[i] = rowF (fun k => hitB m m.crs[i] (tupI (szs m m.crs[i].pts) k)) k (v.crs[i].l.drop k)) v.crs[i].l.length ⟨0, by simp, by simp -implicitDefEqProofs only [upd_app, ↓reduceIte, Nat.reduceEqDiff, f2], by simp -implicitDefEqProofs only [upd_app, ↓reduceIte, Nat.reduceEqDiff, f3], by simp -implicitDefEqProofs only [upd_app, ↓reduceIte, Nat.reduceEqDiff, f8], by simp -implicitDefEqProofs only [upd_app, ↓reduceIte]; rfl, rfl, hok⟩ ?_
        clear f2 f3 f8
        rintro n' F H' ⟨k, hk, f2, f3, f8, f9, rfl, hr⟩
        simp -implicitDefEqProofs only [awp_seq, awp_reg, awp_cond, seqQ_n, WW_one, WW_nil, none_md, none_fz, frz_nil, ownOp, wc_app, wcont_s, upd_app, ev_tmp, x_move, x_load, x_bin, x_fieldAddr, x_indexAddr, x_len, holdsO_ofO, bin_lss, ↓reduceIte, Nat.reduceEqDiff, Nat.zero_add, Option.getD_some, Bool.not_false, enP, ix26, fa28_1, ln57, f3, f8, f9, t.l1, ix_map hil, load_map ag57 hil, encL0, List.length_map]
        refine cond_of (fun hc => ?_) (fun hc => ?_)
        · have hk' : k < v.crs[i].l.length := by simpa using hc
          rw [rowF_step _ _ _ hk', countB_ref] at hr
          simp -implicitDefEqProofs only [awp_seq, awp_block, awp_reg, awp_skip, seqQ_n, WW_one, WW_nil, none_md, none_fz, frz_nil, ownOp, wc_app, wcont_s, upd_app, ev_tmp, x_move, x_assign, x_load, x_fieldAddr, x_indexAddr, holdsO_ofO, ↓reduceIte, Nat.reduceEqDiff, Nat.zero_add, Option.getD_some, Bool.not_false, enP, ix26, fa28_1, ix57, f3, f8, f9, t.l1, ix_map hil, load_map ag57 hil, encL0, ix_map hk', load_map ag3 hk', encI0]
          refine awp_draw (by kernel_rfl) ?_
          simp -implicitDefEqProofs only [YO_f, dc_app, dcont_s, DD_one, y_move, y_un, Y1_call, callP_fn, none_md, upd_app, ev_tmp, ev_func, x_un, List.map_cons, List.map_nil, List.append_nil, ↓reduceIte, Nat.reduceAdd, Option.getD_some]
          refine ⟨_, within_ref G _ _, ?_⟩
          try simp -implicitDefEqProofs only [YO_f, dc_app, dcont_s, DD_one, DD_guardE, GY_some, y_move, gdstO, none_md, upd_app, ev_tmp, holdsO_ofO, un_not, ↓reduceIte, Nat.reduceAdd, Option.getD_some]
          cases hw : withinB v.crs[i].l[k]
          · simp -implicitDefEqProofs only [YO_f, dc_app, dcont_s, DD_nil, DD_one, DD_guardE, GY_some, GD_ft, GD_u, y_pick, awp_seq, awp_reg, awp_ret, awp_cond, seqQ_n, seqQ_r, blk_r, lp_r, rnd_r, cond_t, WW_one, WW_nil, gdstO, none_md, none_fz, frz_nil, ownOp, wc_app, wcont_s, upd_app, aput, ev_tmp, ev_const, av_bool, x_assign, x_pick, pick_t, ↓reduceIte, Nat.reduceEqDiff, Nat.reduceAdd, Option.getD_some, Bool.not_false]
            exact ⟨trivial, trivial, by rw [hr, hw]; rfl⟩
          rw [hw] at hr
          simp -implicitDefEqProofs only [YO_f, dc_app, dcont_s, DD_guardE, GY_some, GD_ff, y_move, y_bin, gdstO, none_md, upd_app, ev_tmp, ev_const, av_int, x_bin, holdsO_ofO, bin_gtr, ↓reduceIte, Nat.reduceEqDiff, Nat.reduceAdd, Option.getD_some, Bool.not_true, enP]
          cases hp : decide (v.crs[i].l[k] > 0)
          · simp -implicitDefEqProofs only [YO_f, dc_app, dcont_s, DD_nil, DD_one, DD_guardE, GY_some, GD_ff, GD_tf, y_pick, awp_reg, awp_skip, awp_cond, seqQ_n, blk_n, rnd_n, cond_f, WW_one, WW_nil, gdstO, none_md, none_fz, frz_nil, ownOp, wc_app, wcont_s, upd_app, aput, ev_tmp, ev_const, av_int, av_bool, x_move, x_assign, x_pick, pick_f, x_bin, holdsO_ofO, bin_add, ↓reduceIte, Nat.reduceEqDiff, Nat.reduceAdd, Option.getD_some, Bool.not_false, enP, f9, wrap_succ (show k < 9223372036854775807 by omega)]
            exact ⟨n' - 1, by omega, k + 1, by omega, f2, f3, f8, rfl, trivial, by rw [hr, hp]; rfl⟩
          rw [hp] at hr
          simp -implicitDefEqProofs only [YO_f, dc_app, dcont_s, DD_guardE, GY_some, GD_tt, y_move, y_load, y_un, y_fieldAddr, y_indexAddr, Y1_call, callP_fn, gdstO, none_md, upd_app, ev_tmp, ev_func, x_load, x_un, x_fieldAddr, x_indexAddr, holdsO_ofO, List.map_cons, List.map_nil, List.append_nil, ↓reduceIte, Nat.reduceEqDiff, Nat.reduceAdd, Nat.zero_add, Option.getD_some, enP, ix23, fa25_1, f2, f8, f9, t.m1, ldM t.gm, ix_map hi', load_mapA ag71 sz71 encC_len hi']
          refine ⟨_, tuple_ref G m m.crs[i] k _ hcg.here hg.full (by omega) (by omega) (by omega), ?_⟩
          try simp -implicitDefEqProofs only []
          refine ⟨_, counts_ref G m m.crs[i] _ _ _ hcg.here (tupI_ins _ _ fun n hn => (hfs n hn).1) (by omega) (by omega), ?_⟩
          try simp -implicitDefEqProofs only [YO_f, dc_app, dcont_s, DD_nil, DD_one, DD_guardE, GY_some, GD_ff, y_pick, awp_cond, seqQ_n, gdstO, none_md, upd_app, ev_tmp, ev_const, av_bool, x_pick, pick_t, pick_f, holdsO_ofO, un_not, ↓reduceIte, Nat.reduceEqDiff, Nat.reduceAdd, Option.getD_some]
          cases hz : hitB m m.crs[i] (tupI (szs m m.crs[i].pts) k)
          · simp -implicitDefEqProofs only [awp_seq, awp_reg, awp_ret, seqQ_n, seqQ_r, blk_r, lp_r, rnd_r, cond_t, WW_one, WW_nil, none_md, none_fz, frz_nil, ownOp, wc_app, wcont_s, upd_app, ev_const, av_bool, x_assign, ↓reduceIte, Option.getD_some, Bool.not_false]
            exact ⟨trivial, trivial, by rw [hr, hz]; rfl⟩
          · simp -implicitDefEqProofs only [awp_reg, awp_skip, seqQ_n, blk_n, rnd_n, cond_f, WW_one, WW_nil, none_md, none_fz, frz_nil, ownOp, wc_app, wcont_s, upd_app, ev_tmp, ev_const, av_int, x_move, x_assign, x_bin, holdsO_ofO, bin_add, ↓reduceIte, Nat.reduceEqDiff, Option.getD_some, Bool.not_true, Bool.not_false, enP, f9, wrap_succ (show k < 9223372036854775807 by omega)]
            exact ⟨n' - 1, by omega, k + 1, by omega, f2, f3, f8, rfl, trivial, by rw [hr, hz]; rfl⟩
        · have hk' : ¬ k < v.crs[i].l.length := by simpa using hc
          simp -implicitDefEqProofs only [awp_exit, seqQ_e, lp_e, rnd_e, upd_app, ↓reduceIte, Nat.reduceEqDiff]
          exact ⟨f2, f3, f8, trivial, by rw [hr, List.drop_eq_nil_of_le (by omega)]; rfl⟩
      · rintro F' H' ⟨g2, g3, g8, rfl, hr⟩
        simp -implicitDefEqProofs only [awp_reg, seqQ_n, blk_n, blk_e, rnd_n, WW_one, WW_nil, none_md, none_fz, frz_nil, ownOp, wc_app, wcont_s, upd_app, ev_tmp, ev_const, av_int, x_move, x_assign, x_bin, holdsO_ofO, bin_add, ↓reduceIte, Nat.reduceEqDiff, Option.getD_some, Bool.not_false, enP, g8, wrap_succ (show i < 9223372036854775807 by omega)]
        exact ⟨n - 1, by omega, i + 1, by omega, g2, g3, rfl, trivial, by rw [hf, hr]; rfl⟩
      · rintro F' H' ⟨g4, rfl, hr⟩
        simp -implicitDefEqProofs only [seqQ_r, blk_r, rnd_r, end_r, g4]
        exact ⟨by rw [hf, hr]; rfl, t.hx⟩
    · have hi' : ¬ i < m.crs.length := by simpa using hc
      simp -implicitDefEqProofs only [awp_seq, awp_reg, awp_ret, awp_exit, seqQ_n, seqQ_e, blk_e, rnd_e, end_r, WW_one, WW_nil, none_md, none_fz, frz_nil, ownOp, wc_app, wcont_s, upd_app, ev_const, av_bool, x_assign, ↓reduceIte, Option.getD_some, Bool.not_false]
      exact ⟨by rw [hf, fit2_end (okC m) _ _ i (by omega) (by omega)], t.hx⟩
  · rintro F H' ⟨f4, rfl, hfp⟩
    simp -implicitDefEqProofs only [seqQ_r, blk_r, end_r, f4]
    exact ⟨by rw [hfp]; rfl, t.hx⟩
end Go.Proofs.YtocilianjfhifaaGreatDoor.Cov
/- Combinations of layer 47: the program; no condition but the bounds on lengths. -/
set_option linter.unusedSimpArgs false
set_option maxRecDepth 8000
namespace Go.Proofs.YtocilianjfhifaaGreatDoor.Cov
open Go Go.Proofs Go.Proofs.YtocilianjfhifaaGreatDoor.Sm Go.Proofs.YtocilianjfhifaaGreatDoor.Bins Go.RowKit

theorem indexFuncI (G : Nat → AV) (xs : List Int) (m : SM) (fid : FuncId) (caps : List AV) (p : Int → Bool) (h : Hp) (hl : xs.length ≤ 1099511627776)
    (hf : ∀ r, PCall (En G) fid (.int .i64 r :: caps) h (.bool (p r))) :
    PCall (En G) 204 [.sl m 1 (xs.map encI), .fn (.func fid) [] caps] h (.int .i64 (match xs.findIdx? p with | some i => (i : Int) | none => -1)) := by
  refine acalls_of (H := Hint.none) (enM G) Tryz.func204 rfl (by kernel_rfl) (by kernel_rfl) (Nat.le_of_ble_eq_true (by kernel_rfl)) ?_
  show awp _ _ _ _ _ (endQ _ [.tmp 4] _)
  simp -implicitDefEqProofs only [awp_seq, awp_block, awp_reg, seqQ_n, WW_one, WW_nil, none_md, none_fz, frz_nil, ownOp, wc_app, wcont_s, upd_app, ev_tmp, ev_const, av_int, x_move, x_assign, x_len, holdsO_ofO, frameOf_zero, ↓reduceIte, Nat.reduceEqDiff, Option.getD_some, Bool.not_false, enP, ln57, List.length_map]
  refine awp_loop (fun n F H => ∃ k, n + k = xs.length ∧ F 0 = .sl m 1 (xs.map encI) ∧ F 1 = .fn (.func fid) [] caps ∧ F 7 = .int .i64 xs.length ∧ F 8 = .int .i64 (k : Nat) ∧ H = h ∧ (xs.take k).all (fun r => !p r) = true) xs.length ⟨0, by simp, rfl, rfl, rfl, rfl, rfl, rfl⟩ ?_
  rintro n F H ⟨k, hk, f0, f1, f7, f8, rfl, hin⟩
  simp -implicitDefEqProofs only [awp_seq, awp_reg, awp_cond, seqQ_n, WW_one, WW_nil, none_md, none_fz, frz_nil, ownOp, wc_app, wcont_s, upd_app, ev_tmp, x_bin, holdsO_ofO, bin_lss, ↓reduceIte, Option.getD_some, Bool.not_false, enP, f0, f1, f7, f8, List.length_map]
  refine cond_of (fun hc => ?_) (fun hc => ?_)
  · have hc' : k < xs.length := by simpa using hc
    simp -implicitDefEqProofs only [awp_seq, awp_block, awp_reg, awp_skip, seqQ_n, WW_one, WW_nil, none_md, none_fz, frz_nil, ownOp, wc_app, wcont_s, upd_app, ev_tmp, x_move, x_assign, x_load, x_indexAddr, X1_call, callA_fn, holdsO_ofO, List.map_cons, List.map_nil, List.nil_append, List.cons_append, ↓reduceIte, Nat.reduceEqDiff, Option.getD_some, Bool.not_false, enP, ix57, f0, f1, f7, f8, ix_map hc', load_map ag3 hc', encI0]
    refine (hf _).use ?_
    simp -implicitDefEqProofs only [awp_cond, seqQ_n, WW_nil, wcont_s, upd_app, ev_tmp, ↓reduceIte]
    refine cond_of (fun hb => ?_) (fun hb => ?_)
    · simp -implicitDefEqProofs only [awp_seq, awp_reg, awp_ret, seqQ_n, seqQ_r, blk_r, rnd_r, end_r, WW_one, WW_nil, none_md, none_fz, frz_nil, ownOp, wc_app, wcont_s, upd_app, ev_tmp, x_move, x_assign, ↓reduceIte, Nat.reduceEqDiff, Option.getD_some, Bool.not_false]
      refine ⟨?_, trivial⟩
      rw [List.findIdx?_eq_some_iff_getElem.2 ⟨hc', hb, fun j hj => by
        rw [List.all_eq_true] at hin
        have := hin xs[j] (by rw [List.mem_take_iff_getElem]; exact ⟨j, by omega, rfl⟩)
        simpa using this⟩]
    · simp -implicitDefEqProofs only [awp_reg, awp_skip, seqQ_n, blk_n, rnd_n, WW_one, WW_nil, none_md, none_fz, frz_nil, ownOp, wc_app, wcont_s, upd_app, ev_tmp, ev_const, av_int, x_move, x_bin, holdsO_ofO, bin_add, ↓reduceIte, Nat.reduceEqDiff, Option.getD_some, Bool.not_false, enP, f8, wrap_succ (show k < 9223372036854775807 by omega)]
      refine ⟨n - 1, by omega, k + 1, by omega, f0, f1, f7, rfl, trivial, ?_⟩
      rw [List.take_succ_eq_append_getElem hc', List.all_append, hin]
      simp only [List.all_cons, List.all_nil, hb]; rfl
  · have hc' : ¬ k < xs.length := by simpa using hc
    simp -implicitDefEqProofs only [awp_seq, awp_reg, awp_ret, awp_exit, seqQ_n, seqQ_e, blk_e, rnd_e, end_r, WW_one, WW_nil, none_md, none_fz, frz_nil, ownOp, wc_app, wcont_s, upd_app, ev_const, av_int, x_assign, ↓reduceIte, Option.getD_some, Bool.not_false]
    refine ⟨?_, trivial⟩
    rw [List.take_of_length_le (by omega)] at hin
    rw [List.findIdx?_eq_none_iff.2 (by simpa using hin)]

theorem containsFuncI (G : Nat → AV) (xs : List Int) (m : SM) (fid : FuncId) (caps : List AV) (p : Int → Bool) (h : Hp) (hl : xs.length ≤ 1099511627776)
    (hf : ∀ r, PCall (En G) fid (.int .i64 r :: caps) h (.bool (p r))) :
    PCall (En G) 155 [.sl m 1 (xs.map encI), .fn (.func fid) [] caps] h (.bool (xs.any p)) := by
  refine acalls_of (H := Hint.none) (enM G) Tryz.func155 rfl (by kernel_rfl) (by kernel_rfl) (Nat.le_of_ble_eq_true (by kernel_rfl)) ?_
  show awp _ _ _ _ _ (endQ _ [.tmp 4] _)
  simp -implicitDefEqProofs only [awp_seq, awp_reg, seqQ_n, WW_one, WW_nil, none_md, none_fz, frz_nil, ownOp, wc_app, wcont_s, upd_app, ev_tmp, ev_const, ev_func, av_bool, x_move, x_assign, X1_call, callA_fn, frameOf_zero, frameOf_succ, List.map_cons, List.map_nil, List.append_nil, ↓reduceIte, Nat.reduceEqDiff, Option.getD_some, Bool.not_false, enP]
  refine (indexFuncI G xs m fid caps p h hl hf).use ?_
  simp -implicitDefEqProofs only [awp_ret, seqQ_n, end_r, WW_one, WW_nil, none_md, none_fz, frz_nil, ownOp, wc_app, wcont_s, upd_app, ev_tmp, ev_const, av_int, x_assign, x_bin, holdsO_ofO, bin_geq, ↓reduceIte, Option.getD_some, Bool.not_false, enP]
  refine ⟨?_, trivial⟩
  cases hx : xs.findIdx? p with
  | some i =>
    obtain ⟨h1, h2, _⟩ := List.findIdx?_eq_some_iff_getElem.1 hx
    have : xs.any p = true := List.any_eq_true.2 ⟨xs[i], by simp, h2⟩
    simp [this]
  | none =>
    have : xs.any p = false := by
      rw [List.findIdx?_eq_none_iff] at hx
      rw [List.any_eq_false]; intro x hx2; simp [hx x hx2]
    simp [this]
theorem ldM0 {h : Hp} {b : Nat} {m : Mo} (hb : h[b]? = some (.live 2 [encM m])) : aLoad Tryz.prog h 22 (.ptr b 0 0) = some (.sl m.pm 6 (m.pts.map encP)) := by rw [load_row ag22 hb (row := encM m) rfl, encM0]
theorem ldM1 {h : Hp} {b : Nat} {m : Mo} (hb : h[b]? = some (.live 2 [encM m])) : aLoad Tryz.prog h 23 (.ptr b 0 1) = some (.sl m.cm 3 (m.crs.map encC)) := by rw [load_row ag23 hb (row := encM m) rfl, encM1]
theorem missing_fn (G : Nat → AV) (m : Mo) (b : Nat) (p : Int) (h : Hp) (hb : h[b]? = some (.live 2 [encM m])) : PCall (En G) 224 [.int .i64 p, .ptr b 0 0] h (.bool (decide (p < 0) || decide (p ≥ (m.pts.length : Int)))) := by
  refine acalls_of (H := Hint.none) (enM G) Tryz.func224 rfl (by kernel_rfl) (by kernel_rfl) (Nat.le_of_ble_eq_true (by kernel_rfl)) ?_
  show awp _ _ _ _ _ (endQ _ [.tmp 3] _)
  simp -implicitDefEqProofs only [awp_seq, awp_reg, seqQ_n, WW_one, WW_nil, WW_guardE, GX_some, gdstO, none_md, none_fz, frz_nil, ownOp, wc_app, wcont_s, upd_app, ev_tmp, ev_const, av_int, av_bool, x_move, x_assign, x_bin, holdsO_ofO, bin_lss, frameOf_zero, ↓reduceIte, Nat.reduceEqDiff, Option.getD_some, Bool.not_false, enP]
  cases ha : decide (p < 0)
  · simp -implicitDefEqProofs only [Bool.false_or, awp_ret, seqQ_n, end_r, WW_one, WW_nil, WW_guardE, GX_some, gdstO, G1_ff, none_md, none_fz, frz_nil, ownOp, wc_app, wcont_s, upd_app, ev_tmp, ev_const, av_bool, x_move, x_assign, x_pick, pick_f, x_load, x_bin, x_fieldAddr, x_len, holdsO_ofO, bin_geq, frameOf_zero, frameOf_succ, ↓reduceIte, Nat.reduceEqDiff, Nat.add_zero, Option.getD_some, Bool.not_false, enP, ln22, fa25_0, ldM0 hb, List.length_map]
    exact ⟨by simp, trivial⟩
  · simp -implicitDefEqProofs only [Bool.true_or, awp_ret, seqQ_n, end_r, WW_one, WW_nil, WW_guardE, GX_some, gdstO, G1_ft, none_md, none_fz, frz_nil, ownOp, wc_app, wcont_s, upd_app, aput, ev_tmp, ev_const, av_bool, x_assign, x_pick, pick_t, ↓reduceIte, Nat.reduceEqDiff, Option.getD_some, Bool.not_false]
    exact ⟨by simp, trivial⟩
theorem here_any {m : Mo} {l : List Int} (hh : Here m l) : (l.any fun p => decide (p < 0) || decide (p ≥ (m.pts.length : Int))) = false := by
  rw [List.any_eq_false]
  intro p hp
  have := hh p hp
  simp; omega
theorem usable_prog (G : Nat → AV) (m : Mo) (i : Nat) (hi : i < m.crs.length) (hg : CrGood m m.crs[i]) (h : Hp) : PCall (En G) 184 [.agg (encM m), .int .i64 (i : Int)] h (.bool true) := by
  refine ACalls.pure0 rfl ?_
  have hfour := hg.four
  refine acalls_of (H := Hint.none) (enM G) Tryz.func184 rfl (by kernel_rfl) (by kernel_rfl) (Nat.le_of_ble_eq_true (by kernel_rfl)) ?_
  show awp _ _ _ _ _ (endQ _ [.tmp 4] _)
  have d0 : decide ((i : Int) < 0) = false := by simp
  have d1 : decide ((i : Int) ≥ (m.crs.length : Int)) = false := by simp; omega
  simp -implicitDefEqProofs only [awp_seq, awp_reg, awp_skip, awp_cond, seqQ_n, cond_f, WW_one, WW_nil, WW_guardE, GX_some, gdstO, G1_ff, none_md, none_fz, frz_nil, ownOp, wc_app, wcont_s, upd_app, ev_tmp, ev_const, ev_func, av_int, av_bool, x_move, x_assign, x_pick, pick_f, x_box, x_load, x_bin, x_makeFunc, x_fieldAddr, x_indexAddr, x_len, X1_call, callA_fn, holdsO_some, holdsO_ofO, bin_lss, bin_geq, frameOf_zero, frameOf_succ, List.map_cons, List.map_nil, List.append_nil, ↓reduceIte, Nat.reduceEqDiff, Nat.zero_add, Option.getD_some, Bool.not_false, enP, ix23, ln23, fa25_1, fa71_1, bxM, d0, load_last ag23, encM1, List.length_map, d1, ix_map hi, load_map ag57 hi, encC1]
  refine (containsFuncI G m.crs[i].pts m.crs[i].pm 224 _ _ _ (by omega) fun r => missing_fn G m _ r _ (top_get _ _)).use ?_
  simp -implicitDefEqProofs only [awp_ret, seqQ_n, end_r, WW_one, WW_nil, none_md, none_fz, frz_nil, ownOp, wc_app, wcont_s, upd_app, ev_tmp, x_assign, x_un, holdsO_ofO, un_not, ↓reduceIte, Option.getD_some, Bool.not_false, here_any hg.here]
  exact ⟨trivial, _, rfl⟩
theorem ccounts_prog (G : Nat → AV) (m : Mo) (i : Nat) (hi : i < m.crs.length) (hg : CrGood m m.crs[i]) (h : Hp) : PCall (En G) 185 [.agg (encM m), .int .i64 (i : Int)] h (.sl .any 1 ((szs m m.crs[i].pts).map encN)) := by
  have hfour := hg.four
  have htwo := hg.two
  have hh := hg.here
  have hp : PCall (En G) 185 [.agg (encM m), .int .i64 (i : Int)] h (.sl (nm (szs m m.crs[i].pts)) 1 ((szs m m.crs[i].pts).map encN)) := by
    refine outG_pure frzN ?_
    refine acalls_of (H := Hint.none) (enM G) Tryz.func185 rfl (by kernel_rfl) (by kernel_rfl) (Nat.le_of_ble_eq_true (by kernel_rfl)) ?_
    show awp _ _ _ _ _ (endQ _ [.tmp 4] _)
    simp -implicitDefEqProofs only [awp_seq, awp_block, awp_reg, seqQ_n, WW_one, WW_nil, none_md, none_fz, frz_nil, ownOp, wc_app, wcont_s, upd_app, ev_tmp, ev_const, av_int, av_nil, x_move, x_assign, x_box, x_load, x_fieldAddr, x_indexAddr, x_len, holdsO_some, holdsO_ofO, frameOf_zero, frameOf_succ, ↓reduceIte, Nat.reduceEqDiff, Nat.zero_add, Option.getD_some, Bool.not_false, enP, ix23, fa25_1, ln57, fa71_1, bxM, load_last ag23, encM1, ix_map hi, load_map ag57 hi, encC1, List.length_map]
    refine awp_loop (fun n F H => ∃ k, n + k = m.crs[i].pts.length ∧ F 2 = .ptr h.length 0 0 ∧ F 13 = .sl m.crs[i].pm 1 (m.crs[i].pts.map encI) ∧ F 14 = .int .i64 m.crs[i].pts.length ∧ F 15 = .int .i64 (k : Nat) ∧ H[h.length]? = some (.live 2 [encM m]) ∧ ext h H ∧ (∀ b, isB (F 5) b → h.length < b) ∧ outG 1 encN h (szs m (m.crs[i].pts.take k)) (F 5) H) m.crs[i].pts.length ⟨0, by simp, by simp -implicitDefEqProofs only [upd_app, ↓reduceIte, Nat.reduceEqDiff], by simp -implicitDefEqProofs only [upd_app, ↓reduceIte, Nat.reduceEqDiff], by simp -implicitDefEqProofs only [upd_app, ↓reduceIte, Nat.reduceEqDiff], by simp -implicitDefEqProofs only [upd_app, ↓reduceIte]; rfl, top_get _ _, (ext.rfl' h).app _, fun b hb => hb.elim, outG.nil _ _ _ _⟩ ?_
    rintro n F H ⟨k, hk, f2, f13, f14, f15, hb, he, hlt, ho⟩
    simp -implicitDefEqProofs only [awp_seq, awp_reg, awp_cond, seqQ_n, WW_one, WW_nil, none_md, none_fz, frz_nil, ownOp, wc_app, wcont_s, upd_app, ev_tmp, x_bin, holdsO_ofO, bin_lss, ↓reduceIte, Option.getD_some, Bool.not_false, enP, f14, f15]
    refine cond_of (fun hc => ?_) (fun hc => ?_)
    · have hk' : k < m.crs[i].pts.length := by simpa using hc
      obtain ⟨s, ls⟩ := hh.ld hk' H
      have hzl : (szs m (m.crs[i].pts.take k)).length < 8388608 := by unfold szs; simp; omega
      obtain ⟨v', H', ha, ho', hkeep, he', hle, hb'⟩ := ho.append ud57 sz3 zs57 by57 (by omega) hzl he (binsAt m m.crs[i].pts[k]).length
      simp -implicitDefEqProofs only [evp_nil, evp_cons, awp_seq, awp_block, awp_reg, awp_skip, seqQ_n, WW_one, WW_nil, none_md, none_fz, frz_nil, ownOp, wc_app, wcont_s, upd_app, ev_tmp, x_move, x_assign, x_buildSlice, x_load, x_fieldAddr, x_indexAddr, x_len, x_append, holdsO_some, holdsO_ofO, ↓reduceIte, Nat.reduceEqDiff, Nat.add_zero, Nat.zero_add, Option.getD_some, Bool.not_false, enP, ix22, fa25_0, ln54, fa56_2, ix57, f2, f13, f15, ix_map hk', load_map ag3 hk', encI0, ldM0 hb, hh.ix hk', ls, List.length_map, bs56]
      refine holdsO_of (v := v') (h := H') (by rw [show [[AV.int .i64 ((binsAt m m.crs[i].pts[k]).length : Int)]] = [encN (binsAt m m.crs[i].pts[k]).length] from rfl, ha]) ?_
      simp -implicitDefEqProofs only [awp_reg, seqQ_n, blk_n, rnd_n, WW_one, WW_nil, none_md, none_fz, frz_nil, ownOp, wc_app, wcont_s, upd_app, ev_tmp, ev_const, av_int, x_move, x_assign, x_bin, holdsO_ofO, bin_add, ↓reduceIte, Nat.reduceEqDiff, Option.getD_some, Bool.not_false, enP, f15, wrap_succ (show k < 9223372036854775807 by omega)]
      refine ⟨n - 1, by omega, k + 1, by omega, f2, f13, f14, rfl, hkeep _ _ hb (fun e => by have := hlt _ e; omega), he', fun b hbb => ?_, ?_⟩
      · have := hb' b hbb; have := lt_of_getElem? hb; omega
      · rw [szs_take m m.crs[i].pts k hk']; exact ho'
    · have hk' : ¬ k < m.crs[i].pts.length := by simpa using hc
      rw [List.take_of_length_le (by omega)] at ho
      simp -implicitDefEqProofs only [awp_seq, awp_reg, awp_ret, awp_exit, seqQ_n, seqQ_e, blk_e, rnd_e, end_r, WW_one, WW_nil, none_md, none_fz, frz_nil, ownOp, wc_app, wcont_s, upd_app, ev_tmp, x_move, x_assign, ↓reduceIte, Nat.reduceEqDiff, Option.getD_some, Bool.not_false]
      exact ⟨he, ho⟩
  have hnm : nm (szs m m.crs[i].pts) = SM.any := by
    have := szs_len m m.crs[i].pts
    cases hx : szs m m.crs[i].pts with
    | nil => rw [hx] at this; simp at this; omega
    | cons a l => rfl
  rw [hnm] at hp
  exact hp
theorem size_prog47 (G : Nat → AV) (m : Mo) (i : Nat) (hi : i < m.crs.length) (hg : CrGood m m.crs[i]) (hf : Full m) (h : Hp) : PCall (En G) 139 [.agg (encM m), .int .i64 (i : Int)] h (.int .i64 (prodN (szs m m.crs[i].pts))) := by
  refine ACalls.pure0 rfl ?_
  have hfour := hg.four
  have hs := hf.szs hg.here
  have hsl := szs_len m m.crs[i].pts
  have hx : ∃ x, h ++ [ABlk.live 2 [encM m]] = h ++ x := ⟨_, rfl⟩
  refine acalls_of (H := Hint.none) (enM G) Tryz.func139 rfl (by kernel_rfl) (by kernel_rfl) (Nat.le_of_ble_eq_true (by kernel_rfl)) ?_
  show awp _ _ _ _ _ (endQ _ [.tmp 4] _)
  simp -implicitDefEqProofs only [awp_seq, awp_reg, seqQ_n, WW_one, WW_nil, none_md, none_fz, frz_nil, ownOp, wc_app, wcont_s, upd_app, ev_tmp, ev_const, ev_func, av_int, x_move, x_assign, x_box, x_load, X1_call, callA_fn, holdsO_some, holdsO_ofO, frameOf_zero, frameOf_succ, List.map_cons, List.map_nil, List.append_nil, ↓reduceIte, Nat.reduceEqDiff, Option.getD_some, Bool.not_false, enP, bxM, ldM (top_get h (.live 2 [encM m]))]
  refine (usable_prog G m i hi hg _).use ?_
  simp -implicitDefEqProofs only [awp_seq, awp_reg, awp_skip, awp_cond, seqQ_n, cond_f, WW_one, WW_nil, none_md, none_fz, frz_nil, ownOp, wc_app, wcont_s, upd_app, ev_tmp, ev_const, ev_func, av_int, x_move, x_assign, x_load, x_un, X1_call, callA_fn, holdsO_ofO, un_not, frameOf_zero, frameOf_succ, List.map_cons, List.map_nil, List.append_nil, ↓reduceIte, Nat.reduceEqDiff, Option.getD_some, Bool.not_true, Bool.not_false, enP, ldM (top_get h (.live 2 [encM m]))]
  refine (ccounts_prog G m i hi hg _).use ?_
  simp -implicitDefEqProofs only [awp_block, seqQ_n, WW_one, WW_nil, none_md, none_fz, frz_nil, ownOp, wc_app, wcont_s, upd_app, ev_tmp, ev_const, av_int, x_move, x_len, holdsO_ofO, ↓reduceIte, Option.getD_some, Bool.not_false, enP, ln57, List.length_map]
  generalize szs m m.crs[i].pts = l at hs hsl ⊢
  have hp : ∀ k, prodN (l.take k) ≤ 16777216 := fun k => by
    have := prodN_le (l.take k) 4 (fun n hn => (hs n (List.mem_of_mem_take hn)).2) (by rw [List.length_take]; omega)
    simpa using this
  refine awp_loop (fun n F H => ∃ k, n + k = l.length ∧ F 5 = .int .i64 (prodN (l.take k)) ∧ F 14 = .sl .any 1 (l.map encN) ∧ F 15 = .int .i64 l.length ∧ F 16 = .int .i64 (k : Nat) ∧ H = h ++ [ABlk.live 2 [encM m]]) l.length ⟨0, by simp, by simp -implicitDefEqProofs only [upd_app, ↓reduceIte, Nat.reduceEqDiff]; rfl, by simp -implicitDefEqProofs only [upd_app, ↓reduceIte, Nat.reduceEqDiff], by simp -implicitDefEqProofs only [upd_app, ↓reduceIte, Nat.reduceEqDiff], by simp -implicitDefEqProofs only [upd_app, ↓reduceIte]; rfl, rfl⟩ ?_
  rintro n F H ⟨k, hk, f5, f14, f15, f16, rfl⟩
  simp -implicitDefEqProofs only [awp_seq, awp_reg, awp_cond, seqQ_n, WW_one, WW_nil, none_md, none_fz, frz_nil, ownOp, wc_app, wcont_s, upd_app, ev_tmp, x_bin, holdsO_ofO, bin_lss, ↓reduceIte, Option.getD_some, Bool.not_false, enP, f15, f16]
  refine cond_of (fun hc => ?_) (fun hc => ?_)
  · have hk' : k < l.length := by simpa using hc
    have h1 := hp (k + 1)
    rw [prodN_take l k hk'] at h1
    have hw : IntKind.i64.wrap ((prodN (l.take k) : Int) * (l[k] : Int)) = ((prodN (l.take (k + 1)) : Nat) : Int) := by
      rw [prodN_take l k hk', ← Int.natCast_mul, wrap_nat (by omega)]
    simp -implicitDefEqProofs only [awp_seq, awp_block, awp_reg, awp_skip, seqQ_n, blk_n, rnd_n, WW_one, WW_nil, none_md, none_fz, frz_nil, ownOp, wc_app, wcont_s, upd_app, ev_tmp, ev_const, av_int, x_move, x_assign, x_load, x_bin, x_indexAddr, holdsO_ofO, bin_add, bin_mul, ↓reduceIte, Nat.reduceEqDiff, Option.getD_some, Bool.not_false, enP, ix57, f5, f14, f16, ix_map hk', load_map ag3 hk', encN0, hw, wrap_succ (show k < 9223372036854775807 by omega)]
    exact ⟨n - 1, by omega, k + 1, by omega, rfl, trivial, f15, rfl, trivial⟩
  · have hk' : ¬ k < l.length := by simpa using hc
    rw [List.take_of_length_le (by omega)] at f5
    simp -implicitDefEqProofs only [awp_seq, awp_reg, awp_ret, awp_exit, seqQ_n, seqQ_e, blk_e, rnd_e, end_r, WW_one, WW_nil, none_md, none_fz, frz_nil, ownOp, wc_app, wcont_s, upd_app, ev_tmp, x_move, x_assign, ↓reduceIte, Nat.reduceEqDiff, Option.getD_some, Bool.not_false, f5]
    exact ⟨trivial, hx⟩
/-- the number of a combination, as the machine counts -/
def idxW : List Nat → List Int → Int → Int
  | n :: ns, x :: xs, z => idxW ns xs (IntKind.i64.wrap (IntKind.i64.wrap (z * (n : Int)) + x))
  | _, _, z => z
theorem idxW_nil (ns : List Nat) (z : Int) : idxW ns [] z = z := by cases ns <;> rfl
theorem insT_get : ∀ {ns : List Nat} {l : List Int}, insT ns l = true → ∀ (k : Nat) (hk : k < l.length) (hp : k < ns.length), 0 ≤ l[k] ∧ l[k] < (ns[k] : Int)
  | n :: ns, b :: bs, h, k, hk, hp => by
    simp only [insT, Bool.and_eq_true, decide_eq_true_eq] at h
    cases k with
    | zero => exact h.1
    | succ k => exact insT_get (ns := ns) h.2 k (by simpa using hk) (by simpa using hp)
  | [], b :: bs, h, k, hk, hp => by simp at hp
  | _, [], h, k, hk, hp => by simp at hk
theorem index_prog47 (G : Nat → AV) (m : Mo) (i : Nat) (hi : i < m.crs.length) (hg : CrGood m m.crs[i]) (l : List Int) (s : SM) (hin : insT (szs m m.crs[i].pts) l = true) (h : Hp) : PCall (En G) 186 [.agg (encM m), .int .i64 (i : Int), .sl s 1 (l.map encI)] h (.tup [.int .i64 (idxW (szs m m.crs[i].pts) l 0), .bool true]) := by
  have hfour := hg.four
  have hsl := szs_len m m.crs[i].pts
  have hlen := insT_len hin
  refine ACalls.pure 2 (R := fun v H => v = .tup [.int .i64 (idxW (szs m m.crs[i].pts) l 0), .bool true] ∧ ∃ x, H = h ++ x) ?_ (fun v h' ⟨e, x⟩ => ⟨x, by subst e; rfl⟩)
  have hx : ∃ x, h ++ [ABlk.live 2 [encM m]] = h ++ x := ⟨_, rfl⟩
  refine acalls_of (H := Hint.none) (enM G) Tryz.func186 rfl (by kernel_rfl) (by kernel_rfl) (Nat.le_of_ble_eq_true (by kernel_rfl)) ?_
  show awp _ _ _ _ _ (endQ _ [.tmp 6, .tmp 7] _)
  simp -implicitDefEqProofs only [awp_seq, awp_reg, seqQ_n, WW_one, WW_nil, none_md, none_fz, frz_nil, ownOp, wc_app, wcont_s, upd_app, ev_tmp, ev_const, ev_func, av_int, av_bool, x_move, x_assign, x_box, x_load, X1_call, callA_fn, holdsO_some, holdsO_ofO, frameOf_zero, frameOf_succ, List.map_cons, List.map_nil, List.append_nil, ↓reduceIte, Nat.reduceEqDiff, Option.getD_some, Bool.not_false, enP, bxM, ldM (top_get h (.live 2 [encM m]))]
  refine (usable_prog G m i hi hg _).use ?_
  simp -implicitDefEqProofs only [awp_seq, awp_reg, awp_skip, awp_cond, seqQ_n, cond_f, WW_one, WW_nil, none_md, none_fz, frz_nil, ownOp, wc_app, wcont_s, upd_app, ev_tmp, ev_func, x_move, x_load, x_un, X1_call, callA_fn, holdsO_ofO, un_not, frameOf_zero, frameOf_succ, List.map_cons, List.map_nil, List.append_nil, ↓reduceIte, Nat.reduceEqDiff, Option.getD_some, Bool.not_true, Bool.not_false, enP, ldM (top_get h (.live 2 [encM m]))]
  refine (ccounts_prog G m i hi hg _).use ?_
  generalize szs m m.crs[i].pts = ns at hin hsl hlen ⊢
  have hne : ((l.length : Int) != (ns.length : Int)) = false := by rw [hlen]; simp
  simp -implicitDefEqProofs only [awp_seq, awp_block, awp_reg, awp_skip, awp_cond, seqQ_n, cond_f, WW_one, WW_nil, none_md, none_fz, frz_nil, ownOp, wc_app, wcont_s, upd_app, ev_tmp, ev_const, av_int, x_move, x_assign, x_bin, x_len, holdsO_ofO, bin_neq, frameOf_zero, frameOf_succ, ↓reduceIte, Nat.reduceEqDiff, Option.getD_some, Bool.not_false, enP, ln57, List.length_map, hne]
  refine awp_loop (fun n F H => ∃ k, n + k = l.length ∧ F 8 = .sl .any 1 (ns.map encN) ∧ (∃ z, F 9 = .int .i64 z ∧ idxW ns l 0 = idxW (ns.drop k) (l.drop k) z) ∧ F 24 = .sl s 1 (l.map encI) ∧ F 25 = .int .i64 l.length ∧ F 26 = .int .i64 (k : Nat) ∧ H = h ++ [ABlk.live 2 [encM m]]) l.length ⟨0, by simp, by simp -implicitDefEqProofs only [upd_app, ↓reduceIte, Nat.reduceEqDiff], ⟨0, rfl, rfl⟩, by simp -implicitDefEqProofs only [upd_app, ↓reduceIte, Nat.reduceEqDiff], by simp -implicitDefEqProofs only [upd_app, ↓reduceIte, Nat.reduceEqDiff], by simp -implicitDefEqProofs only [upd_app, ↓reduceIte]; rfl, rfl⟩ ?_
  rintro n F H ⟨k, hk, f8, ⟨z, f9, hz⟩, f24, f25, f26, rfl⟩
  simp -implicitDefEqProofs only [awp_seq, awp_reg, awp_cond, seqQ_n, WW_one, WW_nil, none_md, none_fz, frz_nil, ownOp, wc_app, wcont_s, upd_app, ev_tmp, x_bin, holdsO_ofO, bin_lss, ↓reduceIte, Option.getD_some, Bool.not_false, enP, f25, f26]
  refine cond_of (fun hc => ?_) (fun hc => ?_)
  · have hk' : k < l.length := by simpa using hc
    have hkn : k < ns.length := by omega
    obtain ⟨h0, h1⟩ := insT_get hin k hk' hkn
    have d0 : decide (l[k] < 0) = false := by simp; omega
    have d1 : decide (l[k] ≥ (ns[k] : Int)) = false := by simp; omega
    rw [List.drop_eq_getElem_cons hk', List.drop_eq_getElem_cons hkn] at hz
    simp -implicitDefEqProofs only [awp_seq, awp_block, awp_reg, awp_skip, awp_cond, seqQ_n, blk_n, rnd_n, cond_f, WW_one, WW_nil, WW_guardE, GX_some, gdstO, G1_ff, none_md, none_fz, frz_nil, ownOp, wc_app, wcont_s, upd_app, ev_tmp, ev_const, av_int, av_bool, x_move, x_assign, x_pick, pick_f, x_load, x_bin, x_indexAddr, holdsO_ofO, bin_add, bin_mul, bin_lss, bin_geq, ↓reduceIte, Nat.reduceEqDiff, Option.getD_some, Bool.not_false, enP, ix57, f8, f9, f24, f26, ix_map hk', load_map ag3 hk', encI0, d0, ix_map hkn, load_map ag3 hkn, encN0, d1, wrap_succ (show k < 9223372036854775807 by omega)]
    exact ⟨n - 1, by omega, k + 1, by omega, trivial, ⟨_, rfl, hz⟩, trivial, f25, rfl, trivial⟩
  · have hk' : ¬ k < l.length := by simpa using hc
    rw [List.drop_eq_nil_of_le (show l.length ≤ k by omega), idxW_nil] at hz
    simp -implicitDefEqProofs only [awp_seq, awp_reg, awp_ret, awp_exit, seqQ_n, seqQ_e, blk_e, rnd_e, end_r2, WW_one, WW_nil, none_md, none_fz, frz_nil, ownOp, wc_app, wcont_s, upd_app, ev_tmp, ev_const, av_bool, x_move, x_assign, ↓reduceIte, Nat.reduceEqDiff, Option.getD_some, Bool.not_false, f9, hz]
    exact ⟨trivial, hx⟩
end Go.Proofs.YtocilianjfhifaaGreatDoor.Cov
