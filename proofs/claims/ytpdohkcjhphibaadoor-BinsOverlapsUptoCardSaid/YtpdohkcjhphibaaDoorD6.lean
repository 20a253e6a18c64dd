/- The law BinsOverlaps; no condition but the keywords that are laid and the bounds on lengths. -/
import Derived.Test.YtpdohkcjhphibaaDoorD5
set_option linter.unusedVariables false
set_option linter.unusedSimpArgs false
namespace Go.Proofs.YtpdohkcjhphibaaDoor.Bins
open Go Go.Proofs.YtpdohkcjhphibaaDoor.Sm

theorem touch_comm (r s : Rng) : touch r s = touch s r := by unfold touch; rw [Int.max_comm, Int.min_comm r.hi]
theorem meet_comm (xs ys : List Rng) : meet xs ys = meet ys xs := by
  unfold meet
  rw [Bool.eq_iff_iff, List.any_eq_true, List.any_eq_true]
  constructor <;>
  · rintro ⟨r, h1, h2⟩
    obtain ⟨s, h3, h4⟩ := List.any_eq_true.1 h2
    exact ⟨s, h3, List.any_eq_true.2 ⟨r, h1, by rw [touch_comm]; exact h4⟩⟩
theorem overlap_comm (a b : Bin) : overlap a b = overlap b a := by
  unfold overlap
  rw [Nat.min_comm, Bool.and_comm (decide (validE a = 0))]
  congr 1
  unfold ovK
  congr 1
  funext j
  exact meet_comm _ _
theorem valid_each {b : Bin} (h : validE b = 0) : ∀ l ∈ sets b, l.l ≠ [] ∧ ∀ r ∈ l.l, bad r = false := by
  unfold validE at h
  split at h
  case isFalse => cases h
  split at h
  · cases h
  split at h
  · cases h
  rename_i hr he
  split at h
  · cases h
  split at h
  · cases h
  rename_i _ hb
  intro l hl
  constructor
  · intro hl0
    unfold sets at hl
    split at hl
    · rename_i h1
      simp at hl; subst hl
      rw [hl0] at h1; simp at h1
    · rw [Bool.not_eq_true, List.any_eq_false] at he
      have := he l hl
      rw [hl0] at this; simp at this
  · intro r hr2
    rw [Bool.not_eq_true, List.any_eq_false] at hb
    have := hb l hl
    rw [Bool.not_eq_true, List.any_eq_false] at this
    simpa using this r hr2
theorem meet_self {xs : List Rng} (h1 : xs ≠ []) (h2 : ∀ r ∈ xs, bad r = false) : meet xs xs = true := by
  obtain ⟨r, l, rfl⟩ : ∃ r l, xs = r :: l := by cases xs with
    | nil => exact absurd rfl h1
    | cons r l => exact ⟨r, l, rfl⟩
  unfold meet
  rw [List.any_eq_true]
  refine ⟨r, by simp, List.any_eq_true.2 ⟨r, by simp, ?_⟩⟩
  have := h2 r (by simp)
  simp only [bad, Bool.or_eq_false_iff, decide_eq_false_iff_not] at this
  simp only [touch, decide_eq_true_eq]
  omega
theorem overlap_self (a : Bin) : overlap a a = decide (validE a = 0) := by
  unfold overlap
  rw [Nat.min_self, Bool.and_self]
  rcases Classical.em (validE a = 0) with h | h
  · rw [decide_eq_true h, Bool.true_and]
    unfold ovK
    rw [List.all_eq_true]
    intro j hj
    simp at hj
    have hi : (sets a).length - (j + 1) < (sets a).length := by omega
    rw [setAt_of hi]
    have := valid_each h _ (List.getElem_mem hi)
    exact meet_self this.1 this.2
  · rw [decide_eq_false h, Bool.false_and]
theorem inside_meet {xs ys : List Rng} {v : Int} (h1 : inside xs v = true) (h2 : inside ys v = true) : meet xs ys = true := by
  unfold inside at h1 h2
  obtain ⟨r, hr, h3⟩ := List.any_eq_true.1 h1
  obtain ⟨s, hs, h4⟩ := List.any_eq_true.1 h2
  unfold meet
  refine List.any_eq_true.2 ⟨r, hr, List.any_eq_true.2 ⟨s, hs, ?_⟩⟩
  simp only [Bool.and_eq_true, decide_eq_true_eq] at h3 h4
  simp only [touch, decide_eq_true_eq]
  omega
theorem hit_parts {b : Bin} {last : List Int} {v : Int} (h : hit b last v = true) : validE b = 0 ∧ (sets b).length ≤ last.length + 1 ∧ ∀ i, i < (sets b).length → inside (setAt b i) (valAt last (sets b).length v i) = true := by
  unfold hit at h
  simp only [Bool.and_eq_true, decide_eq_true_eq] at h
  refine ⟨h.1.1, h.1.2, fun i hi => ?_⟩
  have := h.2
  unfold hitK at this
  rw [List.all_eq_true] at this
  exact this i (by simpa using hi)
theorem hit_overlap {a b : Bin} {last : List Int} {v : Int} (ha : hit a last v = true) (hb : hit b last v = true) : overlap a b = true := by
  obtain ⟨a1, a2, a3⟩ := hit_parts ha
  obtain ⟨b1, b2, b3⟩ := hit_parts hb
  unfold overlap
  rw [decide_eq_true a1, decide_eq_true b1, Bool.true_and, Bool.true_and]
  unfold ovK
  rw [List.all_eq_true]
  intro j hj
  simp at hj
  have h1 := a3 ((sets a).length - (j + 1)) (by omega)
  have h2 := b3 ((sets b).length - (j + 1)) (by omega)
  have e : valAt last (sets a).length v ((sets a).length - (j + 1)) = valAt last (sets b).length v ((sets b).length - (j + 1)) := by
    unfold valAt
    rcases Nat.eq_zero_or_pos j with h0 | h0
    · rw [if_neg (by omega), if_neg (by omega)]
    · rw [if_pos (by omega), if_pos (by omega)]
      congr 2
      omega
  rw [e] at h1
  exact inside_meet h1 h2

set_option maxRecDepth 8000 in
set_option maxHeartbeats 1000000 in
theorem law_overlaps (G : Nat → AV) (hG : KwG G) (a b : Bin) (ha : BinSmall a) (hb : BinSmall b) (l : List Int) (m : SM) (h : Hp) (hl : l.length ≤ 1048576) : PCall (En G) 8 [.agg (encB a), .agg (encB b), .sl m 1 (l.map encI)] h (.bool true) := by
  refine ACalls.pure0 rfl ?_
  refine acalls_of (H := Hint.none) (enM G) Tryd.func8 rfl (by kernel_rfl) (by kernel_rfl) (Nat.le_of_ble_eq_true (by kernel_rfl)) ?_
  show awp _ _ _ _ _ (endQ _ [.tmp 6] _)
  have lda : aLoad Tryd.prog (h ++ [.live 4 [encB a]] ++ [.live 4 [encB b]]) 29 (.ptr h.length 0 0) = some (.agg (encB a)) := ldB2 h a b
  have ldb : aLoad Tryd.prog (h ++ [.live 4 [encB a]] ++ [.live 4 [encB b]]) 29 (.ptr (h ++ [ABlk.live 4 [encB a]]).length 0 0) = some (.agg (encB b)) := ldB _ b
  simp -implicitDefEqProofs only [List.getElem?_cons_zero, List.getElem?_cons_succ, awp_seq, awp_reg, seqQ_n, WW_one, WW_nil, none_md, none_fz, frz_nil, ownOp, wc_app, wcont_s, upd_app, ev_tmp, ev_const, ev_func, av_bool, x_assign, x_box, x_load, X1_call, callA_fn, holdsO_some, holdsO_ofO, frameOf_zero, frameOf_succ, List.map_cons, List.map_nil, List.append_nil, ↓reduceIte, Nat.reduceEqDiff, Option.getD_some, Bool.not_false, enP, bxB, lda, ldb]
  refine (overlap_prog G hG a b ha.ok hb.ok _).use ?_
  simp -implicitDefEqProofs only [List.getElem?_cons_zero, List.getElem?_cons_succ, awp_seq, seqQ_n, WW_one, WW_nil, none_md, none_fz, frz_nil, ownOp, wc_app, wcont_s, upd_app, ev_tmp, x_assign, ↓reduceIte, Option.getD_some, Bool.not_false]
  refine awp_draw (by kernel_rfl) ?_
  simp -implicitDefEqProofs only [List.getElem?_cons_zero, List.getElem?_cons_succ, dc_app, dcont_s, DD_one, y_move, y_load, y_bin, Y1_call, callP_fn, none_md, upd_app, ev_tmp, ev_func, x_load, x_bin, holdsO_ofO, List.map_cons, List.map_nil, List.append_nil, ↓reduceIte, Nat.reduceEqDiff, Option.getD_some, enP, lda, ldb]
  refine ⟨_, overlap_ref G a b ha.ok hb.ok _, ?_⟩
  have c1 : (!(overlap a b == overlap a b)) = false := by simp
  simp -implicitDefEqProofs only [List.getElem?_cons_zero, List.getElem?_cons_succ, dc_app, dcont_s, DD_one, DD_guardE, GY_some, GD_ff, y_move, y_load, y_bin, Y1_call, callP_fn, gdstO, none_md, upd_app, ev_tmp, ev_func, x_load, x_bin, holdsO_ofO, List.map_cons, List.map_nil, List.append_nil, ↓reduceIte, Nat.reduceEqDiff, Option.getD_some, enP, bn4, bn4, c1, lda, ldb]
  refine ⟨_, overlap_prog G hG b a hb.ok ha.ok _, ?_⟩
  have c2 : (!(overlap a b == overlap b a)) = false := by rw [overlap_comm b a]; simp
  simp -implicitDefEqProofs only [List.getElem?_cons_zero, List.getElem?_cons_succ, dc_app, dcont_s, DD_one, DD_guardE, GY_some, GD_ff, y_move, y_pick, y_load, y_bin, Y1_call, callP_fn, gdstO, none_md, upd_app, ev_tmp, ev_const, ev_func, av_int, av_bool, x_pick, pick_f, x_load, x_bin, holdsO_ofO, List.map_cons, List.map_nil, List.append_nil, ↓reduceIte, Nat.reduceEqDiff, Option.getD_some, enP, bn4, bn4, c2, lda]
  refine ⟨_, overlap_prog G hG a a ha.ok ha.ok _, ?_⟩
  try simp -implicitDefEqProofs only [toL, Option.map_some, Option.map_none, List.getElem?_cons_zero, List.getElem?_cons_succ, evp_nil, evp_cons, hint_md, List.contains_cons, List.contains_nil, Nat.reduceBEq, Bool.or_false, Bool.false_or, Bool.or_true, Bool.true_or, box_int, box_bool, box_str, box_sl, dc_app, dcont_s, dcont_n, DD_nil, DD_one, DD_guardE, GY_some, GD_tt, GD_ff, GD_tf, GD_ft, GD_u, y_move, y_assign, y_pick, y_alloc, y_box, y_build, y_buildSlice, y_load, y_store, y_bin, y_un, y_conv, y_makeFunc, y_makeSlice, y_slice, y_fieldAddr, y_field, y_indexAddr, y_index, y_range, y_next, y_extract, y_builtin, Y1_call, callP_fn, awp_seq, awp_block, awp_reg, awp_skip, awp_ret, awp_exit, awp_cond, seqQ_n, seqQ_e, seqQ_r, blk_n, blk_r, blk_e, mid_n, mid_r, lp_e, lp_r, rnd_n, rnd_e, rnd_r, end_r, end_n, end_r0, end_n0, end_r2, end_r3, end_r4, cond_t, cond_f, WW_one, WW_nil, WW_guardE, GX_some, gdstO, G1_tt, G1_ff, G1_tf, G1_ft, G1_u, none_md, none_fz, frz_nil, ownOp, wc_app, wcont_s, wcont_n, upd_app, aput, ev_tmp, ev_const, ev_func, ev_glob, av_int, av_bool, av_str, av_nil, av_nilp, av_nilfn, x_move, x_assign, x_pick, pick_t, pick_f, x_alloc, x_box, x_build, x_buildSlice, x_load, x_store, x_bin, x_un, x_conv, x_makeFunc, x_makeSlice, x_slice, x_fieldAddr, x_field, x_indexAddr, x_index, x_range, x_next, x_extract, ext_tup, x_len, x_max, x_min, x_append, x_appendF, x_copy, x_clear, X1_call, callA_fn, holdsO_some, holdsO_ofO, holdsO_ofS, bin_add, bin_sub, bin_mul, bin_eql, bin_neq, bin_lss, bin_leq, bin_gtr, bin_geq, bin_seql, bin_sneq, un_not, un_neg, max_ii, min_ii, frameOf_zero, frameOf_succ, frameOf_nil, List.map_cons, List.map_nil, List.append_nil, List.nil_append, List.cons_append, ↓reduceIte, Nat.reduceEqDiff, Nat.reduceAdd, Nat.add_zero, Nat.zero_add, Option.getD_some, Bool.not_true, Bool.not_false, decide_true, decide_false, enP, enG, be4, bn4, ln9, ix22, ln22, ix27, ln27, fa28_0, fa28_1, fa28_2, fa28_3, fa29_0, fa29_1, fa29_2, fa29_3, ix30, ln30, fa32_0, fa32_1, fa33_0, fa33_1, ix39, ln39, ix79, ln79, ix92, ln92, cv2_76, cv3_5, cv3_60, cv3_76, cv3_83, cv5_3, cv38_3, cv60_3, cv60_74, cv74_5, cv76_5, cv76_74, lda, ldb]
  refine ⟨_, valid_ref G a ha.ok _, ?_⟩
  have c3 : (!(overlap a a == (validE a == 0))) = false := by rw [overlap_self]; cases hz : (validE a == 0) <;> simp_all
  simp -implicitDefEqProofs only [List.getElem?_cons_zero, List.getElem?_cons_succ, dc_app, dcont_s, DD_nil, DD_one, DD_guardE, GY_some, GD_ff, y_pick, y_bin, awp_seq, awp_reg, awp_skip, awp_cond, seqQ_n, cond_f, WW_one, WW_nil, gdstO, none_md, none_fz, frz_nil, ownOp, wc_app, wcont_s, upd_app, ev_tmp, ev_const, av_int, av_bool, x_move, x_pick, pick_f, x_bin, x_len, holdsO_ofO, bin_eql, bin_gtr, frameOf_zero, frameOf_succ, ↓reduceIte, Nat.reduceEqDiff, Option.getD_some, Bool.not_false, enP, bn4, ln30, bn4, c3]
  refine cond_of (fun hc => ?_) (fun hc => ?_)
  · have hne : l ≠ [] := by intro e; subst e; simp at hc
    obtain ⟨ini, x, rfl⟩ : ∃ ini x, l = ini ++ [x] := ⟨l.dropLast, l.getLast hne, (List.dropLast_concat_getLast hne).symm⟩
    have hil : ini.length ≤ 1048576 := by simp at hl; omega
    have w1 : IntKind.i64.wrap (((ini ++ [x]).length : Int) - 1) = ((ini.length : Nat) : Int) := by rw [List.length_append, List.length_singleton, wrap_i64 (by omega) (by omega)]; omega
    have hlt : ini.length < (ini ++ [x]).length := by simp
    have hx : (ini ++ [x])[ini.length]'hlt = x := by simp
    have e1 : aLoad Tryd.prog (h ++ [.live 4 [encB a]] ++ [.live 4 [encB b]]) 3 (.fptr 1 ((ini ++ [x]).map encI) ini.length 0) = some (.int .i64 x) := by rw [load_map ag3 hlt, hx]; rfl
    have e2 : ((ini ++ [x]).map encI).take ini.length = ini.map encI := by simp
    simp -implicitDefEqProofs only [List.getElem?_cons_zero, List.getElem?_cons_succ, awp_seq, awp_reg, seqQ_n, WW_one, WW_nil, none_md, none_fz, frz_nil, ownOp, wc_app, wcont_s, upd_app, ev_tmp, ev_const, av_int, x_move, x_assign, x_bin, x_len, holdsO_ofO, bin_sub, frameOf_zero, frameOf_succ, ↓reduceIte, Nat.reduceEqDiff, Option.getD_some, Bool.not_false, enP, ln30, List.length_map, w1]
    refine awp_draw (by kernel_rfl) ?_
    simp -implicitDefEqProofs only [Option.map_some, Option.map_none, List.getElem?_cons_zero, List.getElem?_cons_succ, dc_app, dcont_s, DD_one, DD_guardE, GY_some, y_move, y_load, y_slice, y_indexAddr, Y1_call, callP_fn, gdstO, none_md, upd_app, ev_tmp, ev_func, x_load, x_slice, x_indexAddr, holdsO_ofO, frameOf_zero, frameOf_succ, List.map_cons, List.map_nil, List.append_nil, ↓reduceIte, Nat.reduceEqDiff, Option.getD_some, enP, ix30, lda, sl_to ud30 sz3 (h := h ++ [.live 4 [encB a]] ++ [.live 4 [encB b]]) (m := m) (kk := .i64) (xs := (ini ++ [x]).map encI) (u := ini.length) (by simp), e2, ix_map hlt, e1]
    refine ⟨_, hit_prog G hG a ha.ok ini _ x _ (by omega), ?_⟩
    have hov := fun h1 h2 => hit_overlap (a := a) (b := b) (last := ini) (v := x) h1 h2
    generalize hit a ini x = ha1 at hov
    cases ha1
    · simp -implicitDefEqProofs only [List.getElem?_cons_zero, List.getElem?_cons_succ, dc_app, dcont_s, DD_nil, DD_one, DD_guardE, GY_some, GD_tf, y_move, y_pick, awp_seq, awp_reg, awp_skip, awp_cond, seqQ_n, cond_f, WW_one, gdstO, none_md, none_fz, frz_nil, ownOp, wc_app, upd_app, aput, ev_tmp, ev_const, ev_func, av_bool, x_pick, pick_f, X1_call, callA_fn, List.map_nil, List.append_nil, ↓reduceIte, Nat.reduceEqDiff, Option.getD_some, Bool.not_false]
      refine (awake G hG _).use ?_
      simp -implicitDefEqProofs only [List.getElem?_cons_zero, List.getElem?_cons_succ, awp_ret, seqQ_n, end_r, WW_one, WW_nil, none_md, none_fz, frz_nil, ownOp, wc_app, wcont_s, upd_app, ev_tmp, x_assign, ↓reduceIte, Option.getD_some, Bool.not_false]
      exact ⟨trivial, _, by rw [List.append_assoc]⟩
    · simp -implicitDefEqProofs only [Option.map_some, Option.map_none, List.getElem?_cons_zero, List.getElem?_cons_succ, dc_app, dcont_s, DD_one, DD_guardE, GY_some, GD_tt, y_move, y_pick, y_load, y_slice, y_indexAddr, Y1_call, callP_fn, gdstO, none_md, upd_app, ev_tmp, ev_const, ev_func, av_bool, x_pick, pick_t, x_load, x_slice, x_indexAddr, holdsO_ofO, frameOf_zero, frameOf_succ, List.map_cons, List.map_nil, List.append_nil, ↓reduceIte, Nat.reduceEqDiff, Option.getD_some, enP, ix30, ldb, sl_to ud30 sz3 (h := h ++ [.live 4 [encB a]] ++ [.live 4 [encB b]]) (m := m) (kk := .i64) (xs := (ini ++ [x]).map encI) (u := ini.length) (by simp), e2, ix_map hlt, e1]
      refine ⟨_, hit_prog G hG b hb.ok ini _ x _ (by omega), ?_⟩
      generalize hit b ini x = hb1 at hov
      cases hb1
      · simp -implicitDefEqProofs only [List.getElem?_cons_zero, List.getElem?_cons_succ, dc_app, dcont_s, DD_nil, DD_one, DD_guardE, GY_some, GD_tf, y_pick, awp_seq, awp_reg, awp_skip, awp_cond, seqQ_n, cond_f, WW_one, gdstO, none_md, none_fz, frz_nil, ownOp, wc_app, upd_app, aput, ev_tmp, ev_const, ev_func, av_bool, x_pick, pick_f, X1_call, callA_fn, List.map_nil, List.append_nil, ↓reduceIte, Nat.reduceEqDiff, Option.getD_some, Bool.not_false]
        refine (awake G hG _).use ?_
        simp -implicitDefEqProofs only [List.getElem?_cons_zero, List.getElem?_cons_succ, awp_ret, seqQ_n, end_r, WW_one, WW_nil, none_md, none_fz, frz_nil, ownOp, wc_app, wcont_s, upd_app, ev_tmp, x_assign, ↓reduceIte, Option.getD_some, Bool.not_false]
        exact ⟨trivial, _, by rw [List.append_assoc]⟩
      · simp -implicitDefEqProofs only [List.getElem?_cons_zero, List.getElem?_cons_succ, dc_app, dcont_s, DD_nil, DD_one, DD_guardE, GY_some, GD_tt, y_move, y_pick, y_un, awp_seq, awp_reg, awp_skip, awp_cond, seqQ_n, cond_f, WW_one, gdstO, none_md, none_fz, frz_nil, ownOp, wc_app, upd_app, ev_tmp, ev_const, ev_func, av_bool, x_pick, pick_t, x_un, X1_call, callA_fn, holdsO_ofO, un_not, List.map_nil, List.append_nil, ↓reduceIte, Nat.reduceEqDiff, Option.getD_some, Bool.not_true, Bool.not_false, hov rfl rfl]
        refine (awake G hG _).use ?_
        simp -implicitDefEqProofs only [List.getElem?_cons_zero, List.getElem?_cons_succ, awp_ret, seqQ_n, end_r, WW_one, WW_nil, none_md, none_fz, frz_nil, ownOp, wc_app, wcont_s, upd_app, ev_tmp, x_assign, ↓reduceIte, Option.getD_some, Bool.not_false]
        exact ⟨trivial, _, by rw [List.append_assoc]⟩
  · simp -implicitDefEqProofs only [List.getElem?_cons_zero, List.getElem?_cons_succ, awp_seq, awp_reg, awp_skip, seqQ_n, WW_one, none_md, none_fz, frz_nil, ownOp, wc_app, ev_func, X1_call, callA_fn, List.map_nil, List.append_nil, Option.getD_some, Bool.not_false]
    refine (awake G hG _).use ?_
    simp -implicitDefEqProofs only [List.getElem?_cons_zero, List.getElem?_cons_succ, awp_ret, seqQ_n, end_r, WW_one, WW_nil, none_md, none_fz, frz_nil, ownOp, wc_app, wcont_s, upd_app, ev_tmp, x_assign, ↓reduceIte, Option.getD_some, Bool.not_false]
    exact ⟨trivial, _, by rw [List.append_assoc]⟩
end Go.Proofs.YtpdohkcjhphibaaDoor.Bins
