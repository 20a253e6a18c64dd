/- The laws BinsValid, BinsRanges, BinsHits, BinsOverlaps; no condition but the keywords that are laid and the bounds on lengths. -/
import Derived.Test.YtpdohkcjhphibaaDoorD4
import Derived.Test.YtpdohkcjhphibaaDoorKw
set_option linter.unusedVariables false
set_option linter.unusedSimpArgs false
namespace Go.Proofs.YtpdohkcjhphibaaDoor.Bins
open Go Go.Proofs.YtpdohkcjhphibaaDoor.Sm

theorem binSmall_of {x : Bin} {b : Nat} (h : okB x b) (hb : b ≤ 1048576) : BinSmall x := by
  obtain ⟨b1, b2, b3, h0, h1, _, h2, h3⟩ := h
  have l2 := h2.length
  have l3 := h3.length
  have hs : ∀ l ∈ sets x, l.l.length ≤ 1048576 := by
    intro l hl
    unfold sets at hl
    split at hl
    · simp at hl; subst hl; omega
    · obtain ⟨b4, h4, h5⟩ := h3.each l hl
      have := h5.length
      omega
  refine ⟨⟨?_, ?_, by omega, fun l hl => by have := hs l hl; omega⟩, fun l hl => by have := hs l hl; omega⟩
  · unfold sets
    split
    · simp
    · omega
  · unfold okS at h1; omega

theorem steps_of {x : Bin} {b : Nat} (h : okB x b) (hb : b ≤ 1048576) : x.steps.length ≤ 1048576 := by
  obtain ⟨b1, b2, b3, h0, _, _, _, h3⟩ := h
  have := h3.length
  omega
theorem law_valid (G : Nat → AV) (hG : KwG G) (b : Bin) (hb : BinSmall b) (h : Hp) : PCall (En G) 6 [.agg (encB b)] h (.bool true) := by
  refine ACalls.pure0 rfl ?_
  refine acalls_of (H := Hint.none) (enM G) Tryd.func6 rfl (by kernel_rfl) (by kernel_rfl) (Nat.le_of_ble_eq_true (by kernel_rfl)) ?_
  show awp _ _ _ _ _ (endQ _ [.tmp 2] _)
  simp -implicitDefEqProofs only [List.getElem?_cons_zero, List.getElem?_cons_succ, awp_seq, awp_reg, seqQ_n, WW_one, WW_nil, none_md, none_fz, frz_nil, ownOp, wc_app, wcont_s, ev_tmp, ev_const, av_bool, x_assign, x_box, holdsO_some, frameOf_zero, Option.getD_some, Bool.not_false, enP, bxB]
  refine awp_draw (by kernel_rfl) ?_
  have c1 : (validE b == validE b) = true := by simp
  have c2 : (size b == size b) = true := by simp
  simp -implicitDefEqProofs only [List.getElem?_cons_zero, List.getElem?_cons_succ, dc_app, dcont_s, DD_one, y_load, y_bin, Y1_call, callP_fn, none_md, upd_app, ev_tmp, ev_func, x_load, x_bin, holdsO_ofO, List.map_cons, List.map_nil, List.append_nil, ↓reduceIte, Nat.reduceEqDiff, Option.getD_some, enP, ldB]
  refine ⟨_, valid_prog G hG b hb.ok _, ?_⟩
  try simp -implicitDefEqProofs only [toL, Option.map_some, Option.map_none, List.getElem?_cons_zero, List.getElem?_cons_succ, evp_nil, evp_cons, hint_md, List.contains_cons, List.contains_nil, Nat.reduceBEq, Bool.or_false, Bool.false_or, Bool.or_true, Bool.true_or, box_int, box_bool, box_str, box_sl, dc_app, dcont_s, dcont_n, DD_nil, DD_one, DD_guardE, GY_some, GD_tt, GD_ff, GD_tf, GD_ft, GD_u, y_move, y_assign, y_pick, y_alloc, y_box, y_build, y_buildSlice, y_load, y_store, y_bin, y_un, y_conv, y_makeFunc, y_makeSlice, y_slice, y_fieldAddr, y_field, y_indexAddr, y_index, y_range, y_next, y_extract, y_builtin, Y1_call, callP_fn, awp_seq, awp_block, awp_reg, awp_skip, awp_ret, awp_exit, awp_cond, seqQ_n, seqQ_e, seqQ_r, blk_n, blk_r, blk_e, mid_n, mid_r, lp_e, lp_r, rnd_n, rnd_e, rnd_r, end_r, end_n, end_r0, end_n0, end_r2, end_r3, end_r4, cond_t, cond_f, WW_one, WW_nil, WW_guardE, GX_some, gdstO, G1_tt, G1_ff, G1_tf, G1_ft, G1_u, none_md, none_fz, frz_nil, ownOp, wc_app, wcont_s, wcont_n, upd_app, aput, ev_tmp, ev_const, ev_func, ev_glob, av_int, av_bool, av_str, av_nil, av_nilp, av_nilfn, x_move, x_assign, x_pick, pick_t, pick_f, x_alloc, x_box, x_build, x_buildSlice, x_load, x_store, x_bin, x_un, x_conv, x_makeFunc, x_makeSlice, x_slice, x_fieldAddr, x_field, x_indexAddr, x_index, x_range, x_next, x_extract, ext_tup, x_len, x_max, x_min, x_append, x_appendF, x_copy, x_clear, X1_call, callA_fn, holdsO_some, holdsO_ofO, holdsO_ofS, bin_add, bin_sub, bin_mul, bin_eql, bin_neq, bin_lss, bin_leq, bin_gtr, bin_geq, bin_seql, bin_sneq, un_not, un_neg, max_ii, min_ii, frameOf_zero, frameOf_succ, frameOf_nil, List.map_cons, List.map_nil, List.append_nil, List.nil_append, List.cons_append, ↓reduceIte, Nat.reduceEqDiff, Nat.reduceAdd, Nat.add_zero, Nat.zero_add, Option.getD_some, Bool.not_true, Bool.not_false, decide_true, decide_false, enP, enG, be4, bn4, ln9, ix22, ln22, ix27, ln27, fa28_0, fa28_1, fa28_2, fa28_3, fa29_0, fa29_1, fa29_2, fa29_3, ix30, ln30, fa32_0, fa32_1, fa33_0, fa33_1, ix39, ln39, ix79, ln79, ix92, ln92, cv2_76, cv3_5, cv3_60, cv3_76, cv3_83, cv5_3, cv38_3, cv60_3, cv60_74, cv74_5, cv76_5, cv76_74, ldB]
  refine ⟨_, valid_ref G b hb.ok _, ?_⟩
  try simp -implicitDefEqProofs only [List.getElem?_cons_zero, List.getElem?_cons_succ, dc_app, dcont_s, DD_one, DD_guardE, GY_some, GD_tt, y_move, y_load, y_bin, Y1_call, callP_fn, gdstO, none_md, upd_app, ev_tmp, ev_func, x_load, x_bin, holdsO_ofO, bin_eql, List.map_cons, List.map_nil, List.append_nil, ↓reduceIte, Nat.reduceEqDiff, Option.getD_some, enP, ldB, c1]
  refine ⟨_, size_prog G hG b hb _, ?_⟩
  try simp -implicitDefEqProofs only [toL, Option.map_some, Option.map_none, List.getElem?_cons_zero, List.getElem?_cons_succ, evp_nil, evp_cons, hint_md, List.contains_cons, List.contains_nil, Nat.reduceBEq, Bool.or_false, Bool.false_or, Bool.or_true, Bool.true_or, box_int, box_bool, box_str, box_sl, dc_app, dcont_s, dcont_n, DD_nil, DD_one, DD_guardE, GY_some, GD_tt, GD_ff, GD_tf, GD_ft, GD_u, y_move, y_assign, y_pick, y_alloc, y_box, y_build, y_buildSlice, y_load, y_store, y_bin, y_un, y_conv, y_makeFunc, y_makeSlice, y_slice, y_fieldAddr, y_field, y_indexAddr, y_index, y_range, y_next, y_extract, y_builtin, Y1_call, callP_fn, awp_seq, awp_block, awp_reg, awp_skip, awp_ret, awp_exit, awp_cond, seqQ_n, seqQ_e, seqQ_r, blk_n, blk_r, blk_e, mid_n, mid_r, lp_e, lp_r, rnd_n, rnd_e, rnd_r, end_r, end_n, end_r0, end_n0, end_r2, end_r3, end_r4, cond_t, cond_f, WW_one, WW_nil, WW_guardE, GX_some, gdstO, G1_tt, G1_ff, G1_tf, G1_ft, G1_u, none_md, none_fz, frz_nil, ownOp, wc_app, wcont_s, wcont_n, upd_app, aput, ev_tmp, ev_const, ev_func, ev_glob, av_int, av_bool, av_str, av_nil, av_nilp, av_nilfn, x_move, x_assign, x_pick, pick_t, pick_f, x_alloc, x_box, x_build, x_buildSlice, x_load, x_store, x_bin, x_un, x_conv, x_makeFunc, x_makeSlice, x_slice, x_fieldAddr, x_field, x_indexAddr, x_index, x_range, x_next, x_extract, ext_tup, x_len, x_max, x_min, x_append, x_appendF, x_copy, x_clear, X1_call, callA_fn, holdsO_some, holdsO_ofO, holdsO_ofS, bin_add, bin_sub, bin_mul, bin_eql, bin_neq, bin_lss, bin_leq, bin_gtr, bin_geq, bin_seql, bin_sneq, un_not, un_neg, max_ii, min_ii, frameOf_zero, frameOf_succ, frameOf_nil, List.map_cons, List.map_nil, List.append_nil, List.nil_append, List.cons_append, ↓reduceIte, Nat.reduceEqDiff, Nat.reduceAdd, Nat.add_zero, Nat.zero_add, Option.getD_some, Bool.not_true, Bool.not_false, decide_true, decide_false, enP, enG, be4, bn4, ln9, ix22, ln22, ix27, ln27, fa28_0, fa28_1, fa28_2, fa28_3, fa29_0, fa29_1, fa29_2, fa29_3, ix30, ln30, fa32_0, fa32_1, fa33_0, fa33_1, ix39, ln39, ix79, ln79, ix92, ln92, cv2_76, cv3_5, cv3_60, cv3_76, cv3_83, cv5_3, cv38_3, cv60_3, cv60_74, cv74_5, cv76_5, cv76_74, ldB]
  refine ⟨_, size_ref G b hb _, ?_⟩
  try simp -implicitDefEqProofs only [List.getElem?_cons_zero, List.getElem?_cons_succ, dc_app, dcont_s, DD_nil, DD_one, DD_guardE, GY_some, GD_tt, y_move, y_assign, y_pick, Y1_call, callP_fn, awp_ret, seqQ_n, end_r, gdstO, none_md, upd_app, ev_tmp, ev_const, ev_func, av_bool, x_pick, pick_t, holdsO_ofO, bin_eql, List.map_nil, List.append_nil, ↓reduceIte, Nat.reduceEqDiff, Option.getD_some, c2]
  refine ⟨_, awake G hG _, ?_⟩
  try simp -implicitDefEqProofs only [List.getElem?_cons_zero, List.getElem?_cons_succ]
  exact ⟨trivial, _, rfl⟩

theorem law_ranges (G : Nat → AV) (hG : KwG G) (xs : List Rng) (m : SM) (v : Int) (h : Hp) (hl : xs.length ≤ 1048576) : PCall (En G) 3 [.sl m 2 (xs.map encR), .int .i64 v] h (.bool true) := by
  refine ACalls.pure0 rfl ?_
  refine acalls_of (H := Hint.none) (enM G) Tryd.func3 rfl (by kernel_rfl) (by kernel_rfl) (Nat.le_of_ble_eq_true (by kernel_rfl)) ?_
  show awp _ _ _ _ _ (endQ _ [.tmp 4] _)
  have e1 : min (xs.length : Int) 100 = ((min xs.length 100 : Nat) : Int) := by omega
  have hl2 : (xs.take (min xs.length 100)).length ≤ 100 := by simp; omega
  simp -implicitDefEqProofs only [Option.map_some, Option.map_none, List.getElem?_cons_zero, List.getElem?_cons_succ, awp_seq, awp_reg, seqQ_n, WW_one, WW_nil, none_md, none_fz, frz_nil, ownOp, wc_app, wcont_s, upd_app, ev_tmp, ev_const, ev_func, av_int, av_bool, x_move, x_assign, x_slice, x_len, x_min, X1_call, callA_fn, holdsO_ofO, min_ii, frameOf_zero, frameOf_succ, List.map_cons, List.map_nil, List.append_nil, ↓reduceIte, Nat.reduceEqDiff, Option.getD_some, Bool.not_false, enP, ln22, List.length_map, e1, sl_to ud22 sz33 (h := h) (m := m) (kk := .i64) (xs := xs.map encR) (u := min xs.length 100) (by simp; omega), ← List.map_take]
  generalize xs.take (min xs.length 100) = ys at hl2
  generalize cutM m (min xs.length 100) xs.length = m2
  refine (inside_prog G ys m2 v h (by omega)).use ?_
  simp -implicitDefEqProofs only [List.getElem?_cons_zero, List.getElem?_cons_succ, WW_one, none_md, none_fz, frz_nil, ownOp, wc_app, wcont_s, upd_app, ev_tmp, ev_func, x_move, X1_call, callA_fn, frameOf_zero, frameOf_succ, List.map_cons, List.map_nil, List.append_nil, ↓reduceIte, Nat.reduceEqDiff, Option.getD_some, Bool.not_false]
  refine (inside_ref G ys m2 v h (by omega)).use ?_
  simp -implicitDefEqProofs only [List.getElem?_cons_zero, List.getElem?_cons_succ, WW_one, WW_guardE, GX_some, gdstO, none_md, none_fz, frz_nil, ownOp, wc_app, wcont_s, upd_app, ev_tmp, x_move, x_bin, holdsO_ofO, ↓reduceIte, Nat.reduceEqDiff, Option.getD_some, Bool.not_false, enP, be4, be4]
  have c1 : (inside ys v == inside ys v) = true := by simp
  simp -implicitDefEqProofs only [List.getElem?_cons_zero, List.getElem?_cons_succ, WW_guardE, GX_some, gdstO, G1_tt, none_md, none_fz, frz_nil, ownOp, wc_app, wcont_s, upd_app, ev_tmp, ev_func, x_move, X1_call, callA_fn, List.map_cons, List.map_nil, List.append_nil, ↓reduceIte, Nat.reduceEqDiff, Option.getD_some, Bool.not_false, c1]
  refine (normal_prog' G ys m2 h (by omega)).use ?_
  simp -implicitDefEqProofs only [List.getElem?_cons_zero, List.getElem?_cons_succ, WW_guardE, GX_some, gdstO, G1_tt, none_md, none_fz, frz_nil, ownOp, wc_app, wcont_s, upd_app, ev_tmp, ev_func, x_move, X1_call, callA_fn, List.map_cons, List.map_nil, List.append_nil, ↓reduceIte, Nat.reduceEqDiff, Option.getD_some, Bool.not_false]
  refine (normal_ref G ys m2 h (by omega)).use ?_
  simp -implicitDefEqProofs only [List.getElem?_cons_zero, List.getElem?_cons_succ, WW_guardE, GX_some, gdstO, G1_tt, none_md, none_fz, frz_nil, ownOp, wc_app, wcont_s, upd_app, ev_tmp, ev_func, X1_call, callA_fn, List.map_cons, List.map_nil, List.append_nil, ↓reduceIte, Nat.reduceEqDiff, Option.getD_some, Bool.not_false]
  refine (same_ref G (normal ys) (normal ys) _ _ h (Nat.le_trans (normal_len ys) (by omega))).use ?_
  have c2 : decide (normal ys = normal ys) = true := by simp
  try simp -implicitDefEqProofs only [List.getElem?_cons_zero, List.getElem?_cons_succ, WW_one, WW_guardE, GX_some, gdstO, G1_tt, none_md, none_fz, frz_nil, ownOp, wc_app, wcont_s, upd_app, ev_tmp, ev_const, ev_func, av_bool, x_move, x_pick, pick_t, X1_call, callA_fn, List.map_nil, List.append_nil, ↓reduceIte, Nat.reduceEqDiff, Option.getD_some, Bool.not_false, decide_true]
  refine (awake G hG h).use ?_
  simp -implicitDefEqProofs only [List.getElem?_cons_zero, List.getElem?_cons_succ, awp_ret, seqQ_n, end_r, WW_one, WW_nil, none_md, none_fz, frz_nil, ownOp, wc_app, wcont_s, upd_app, ev_tmp, ev_const, av_bool, x_assign, x_pick, pick_t, ↓reduceIte, Nat.reduceEqDiff, Option.getD_some, Bool.not_false]
  exact ⟨trivial, _, by rw [List.append_nil]⟩

theorem sets_eq {a b : Bin} (h1 : a.ranges = b.ranges) (h2 : a.steps = b.steps) : sets a = sets b := by unfold sets; rw [h1, h2]
/-- only the last values count -/
theorem hit_last (b : Bin) (last : List Int) (v : Int) (k : Nat) (hk : k ≤ last.length) (hn : (sets b).length ≤ last.length + 1 - k) : hit b (last.drop k) v = hit b last v := by
  have hv : ∀ i, i < (sets b).length → valAt (last.drop k) (sets b).length v i = valAt last (sets b).length v i := by
    intro i hi
    unfold valAt
    split
    · rw [List.getElem?_drop, List.length_drop]
      congr 2
      omega
    · rfl
  have hK : ∀ n, n ≤ (sets b).length → hitK b (last.drop k) v n = hitK b last v n := by
    intro n
    induction n with
    | zero => intro _; rfl
    | succ n ih => intro hn'; rw [hitK_succ, hitK_succ, ih (by omega), hv n (by omega)]
  unfold hit
  rw [hK _ (Nat.le_refl _), List.length_drop]
  congr 2
  rw [decide_eq_decide]
  omega
theorem hit_front (b : Bin) (pre last : List Int) (v : Int) (h : hit b last v = true) : hit b (pre ++ last) v = true := by
  have hn : (sets b).length ≤ last.length + 1 := by
    unfold hit at h
    simp only [Bool.and_eq_true, decide_eq_true_eq] at h
    exact h.1.2
  have := hit_last b (pre ++ last) v pre.length (by simp) (by simp; omega)
  rw [List.drop_left] at this
  rw [← this]; exact h
/-- cut where the bin has no more steps -/
theorem sets_steps (b : Bin) : (sets b).length ≤ max (b.steps.length : Int) 1 := by
  unfold sets
  split
  · simp; omega
  · omega
theorem hit_cut (b : Bin) (last : List Int) (v : Int) : hit b (last.drop (max ((last.length : Int) - max ((b.steps.length : Int) - 1) 0) 0).toNat) v = hit b last v := by
  rcases Classical.em (validE b = 0) with h | h
  · have h1 := sets_steps b
    have h2 := valid_sets h
    rcases Nat.lt_or_ge (last.length + 1) (sets b).length with h3 | h3
    · have e : ∀ l : List Int, l.length + 1 < (sets b).length → hit b l v = false := by
        intro l hl
        have : ¬ (sets b).length ≤ l.length + 1 := by omega
        simp [hit, this]
      rw [e last h3, e _ (by rw [List.length_drop]; omega)]
    · exact hit_last b last v _ (by omega) (by omega)
  · simp [hit, h]

theorem frI (xs : List Int) : (xs.map encI).all (·.all AV.frozen) = true := by
  rw [List.all_eq_true]
  intro r hr
  obtain ⟨x, _, rfl⟩ := List.mem_map.1 hr
  rfl
set_option maxRecDepth 8000 in
set_option maxHeartbeats 1000000 in
theorem law_hits (G : Nat → AV) (hG : KwG G) (b : Bin) (hb : BinSmall b) (last : List Int) (m : SM) (v : Int) (h : Hp) (hl : last.length ≤ 1048576) (hbs : b.steps.length ≤ 1048576) : PCall (En G) 4 [.agg (encB b), .sl m 1 (last.map encI), .int .i64 v] h (.bool true) := by
  refine ACalls.pure0 rfl ?_
  refine acalls_of (H := Hint.none) (enM G) Tryd.func4 rfl (by kernel_rfl) (by kernel_rfl) (Nat.le_of_ble_eq_true (by kernel_rfl)) ?_
  show awp _ _ _ _ _ (endQ _ [.tmp 6] _)
  simp -implicitDefEqProofs only [List.getElem?_cons_zero, List.getElem?_cons_succ, awp_seq, awp_reg, seqQ_n, WW_one, WW_nil, none_md, none_fz, frz_nil, ownOp, wc_app, wcont_s, upd_app, ev_tmp, ev_const, ev_func, av_bool, x_move, x_assign, x_box, x_load, X1_call, callA_fn, holdsO_some, holdsO_ofO, frameOf_zero, frameOf_succ, List.map_cons, List.map_nil, List.append_nil, ↓reduceIte, Nat.reduceEqDiff, Option.getD_some, Bool.not_false, enP, bxB, ldB]
  refine (hit_prog G hG b hb.ok last m v _ (by omega)).use ?_
  simp -implicitDefEqProofs only [List.getElem?_cons_zero, List.getElem?_cons_succ, awp_seq, awp_reg, seqQ_n, WW_one, WW_nil, none_md, none_fz, frz_nil, ownOp, wc_app, wcont_s, upd_app, ev_tmp, ev_func, x_move, x_assign, x_load, X1_call, callA_fn, holdsO_ofO, frameOf_zero, frameOf_succ, List.map_cons, List.map_nil, List.append_nil, ↓reduceIte, Nat.reduceEqDiff, Option.getD_some, Bool.not_false, enP, ldB]
  refine (hit_ref G b hb.ok last m v _ (by omega)).use ?_
  have c1 : (!(hit b last v == hit b last v)) = false := by simp
  have w1 : IntKind.i64.wrap ((b.steps.length : Int) - 1) = (b.steps.length : Int) - 1 := wrap_i64 (by omega) (by omega)
  have w2 : IntKind.i64.wrap ((last.length : Int) - max ((b.steps.length : Int) - 1) 0) = (last.length : Int) - max ((b.steps.length : Int) - 1) 0 := wrap_i64 (by omega) (by omega)
  have hcut := hit_cut b last v
  have ek : max ((last.length : Int) - max ((b.steps.length : Int) - 1) 0) 0 = ((max ((last.length : Int) - max ((b.steps.length : Int) - 1) 0) 0).toNat : Int) := by omega
  have ekl : (max ((last.length : Int) - max ((b.steps.length : Int) - 1) 0) 0).toNat ≤ last.length := by omega
  have eld : aLoad Tryd.prog (h ++ [.live 4 [encB b]]) 27 (.ptr h.length 0 3) = some (.sl b.sm 1 (b.steps.map encS)) := by rw [load_last ag27]; rfl
  simp -implicitDefEqProofs only [List.getElem?_cons_zero, List.getElem?_cons_succ, awp_seq, awp_reg, awp_skip, awp_cond, seqQ_n, cond_f, WW_one, WW_nil, none_md, none_fz, frz_nil, ownOp, wc_app, wcont_s, upd_app, ev_tmp, ev_const, av_int, x_move, x_assign, x_load, x_bin, x_fieldAddr, x_len, x_max, holdsO_ofO, bin_sub, max_ii, frameOf_zero, frameOf_succ, ↓reduceIte, Nat.reduceEqDiff, Nat.zero_add, Option.getD_some, Bool.not_false, enP, bn4, ln27, fa29_3, ln30, bn4, c1, List.length_map, eld, w1, w2]
  rw [ek]
  generalize (max ((last.length : Int) - max ((b.steps.length : Int) - 1) 0) 0).toNat = k at hcut ekl
  refine awp_draw (by kernel_rfl) ?_
  simp -implicitDefEqProofs only [Option.map_some, Option.map_none, List.getElem?_cons_zero, List.getElem?_cons_succ, dc_app, dcont_s, DD_one, y_move, y_load, y_bin, y_slice, Y1_call, callP_fn, none_md, upd_app, ev_tmp, ev_func, x_load, x_bin, x_slice, holdsO_ofO, frameOf_zero, frameOf_succ, List.map_cons, List.map_nil, List.append_nil, ↓reduceIte, Nat.reduceEqDiff, Option.getD_some, enP, ldB, sl_from ud30 sz3 (h := h ++ [.live 4 [encB b]]) (m := m) (kk := .i64) (xs := last.map encI) (l := k) (by simpa using ekl), ← List.map_drop]
  refine ⟨_, hit_prog G hG b hb.ok (last.drop k) m v _ (by simp; omega), ?_⟩
  have hfr := hit_front b [v, v] last v
  rw [hcut]
  generalize hit b last v = t at hfr
  cases t
  · simp -implicitDefEqProofs only [List.getElem?_cons_zero, List.getElem?_cons_succ, dc_app, dcont_s, DD_nil, DD_one, DD_guardE, GY_some, GD_tt, GD_ft, y_move, y_assign, y_pick, y_un, Y1_call, callP_fn, awp_ret, seqQ_n, end_r, gdstO, none_md, upd_app, aput, ev_tmp, ev_const, ev_func, av_bool, x_pick, pick_t, x_un, holdsO_ofO, un_not, List.map_nil, List.append_nil, ↓reduceIte, Nat.reduceEqDiff, Option.getD_some, Bool.not_false, be4, be4, show (false == false) = true from rfl]
    refine ⟨_, awake G hG _, ?_⟩
    try simp -implicitDefEqProofs only [List.getElem?_cons_zero, List.getElem?_cons_succ]
    exact ⟨trivial, _, rfl⟩
  · obtain ⟨m3, hap⟩ : ∃ m3, aAppend Tryd.prog false (h ++ [.live 4 [encB b]]) 30 30 (.sl .full 1 [[.int .i64 v], [.int .i64 v]]) (.sl m 1 (last.map encI)) = some (.sl m3 1 (([v, v] ++ last).map encI), h ++ [.live 4 [encB b]]) := by
      rcases Classical.em (last = []) with hx | hx
      · subst hx
        exact ⟨.full, app_none ud30 sz3 (.inr rfl)⟩
      · exact ⟨.any, app_frozen ud30 sz3 zs30 by30 (conts_sl _ m 1 (last.map encI)) (by simpa using hx) (room_of (by simp; omega) (by omega))⟩
    have hfa : frozenArgs Tryd.prog (h ++ [.live 4 [encB b]]) 30 30 (.sl .full 1 [[.int .i64 v], [.int .i64 v]]) (.sl m 1 (last.map encI)) = true :=
      frozenArgs_of ud30 sz3 (conts_sl _ .full 1 _) (conts_sl _ m 1 (last.map encI)) (by rw [List.all_append, frI]; rfl)
    simp -implicitDefEqProofs only [List.getElem?_cons_zero, List.getElem?_cons_succ, evp_nil, evp_cons, dc_app, dcont_s, DD_one, DD_guardE, GY_some, GD_tt, GD_ff, y_move, y_pick, y_buildSlice, y_load, y_un, y_builtin, Y1_call, callP_fn, gdstO, none_md, upd_app, ev_tmp, ev_const, ev_func, av_bool, x_pick, pick_t, pick_f, x_buildSlice, x_load, x_un, x_appendF, holdsO_some, holdsO_ofO, un_not, frameOf_zero, frameOf_succ, List.map_cons, List.map_nil, List.append_nil, List.nil_append, List.cons_append, ↓reduceIte, Nat.reduceEqDiff, Option.getD_some, Bool.not_true, enP, be4, be4, show (true == true) = true from rfl, ldB, bs30_2, hfa, hap]
    refine ⟨_, hit_prog G hG b hb.ok ([v, v] ++ last) m3 v _ (by simp; omega), ?_⟩
    rw [hfr rfl]
    simp -implicitDefEqProofs only [List.getElem?_cons_zero, List.getElem?_cons_succ, dc_app, dcont_s, DD_nil, DD_one, GD_tt, y_assign, y_pick, Y1_call, callP_fn, awp_ret, seqQ_n, end_r, none_md, upd_app, ev_tmp, ev_const, ev_func, av_bool, x_pick, pick_t, List.map_nil, List.append_nil, ↓reduceIte, Nat.reduceEqDiff, Option.getD_some]
    refine ⟨_, awake G hG _, ?_⟩
    try simp -implicitDefEqProofs only [List.getElem?_cons_zero, List.getElem?_cons_succ]
    exact ⟨trivial, _, rfl⟩
end Go.Proofs.YtpdohkcjhphibaaDoor.Bins
