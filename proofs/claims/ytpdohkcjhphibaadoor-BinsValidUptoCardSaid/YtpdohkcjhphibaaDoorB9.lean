/- Contracts of Overlap and of SameBin; no condition. -/
import Derived.Test.YtpdohkcjhphibaaDoorB8
set_option linter.unusedVariables false
set_option linter.unusedSimpArgs false
namespace Go.Proofs.YtpdohkcjhphibaaDoor.Bins
open Go Go.Proofs.YtpdohkcjhphibaaDoor.Sm

def ovK (a b : Bin) (k : Nat) : Bool := (List.range k).all fun j => meet (setAt a ((sets a).length - (j + 1))) (setAt b ((sets b).length - (j + 1)))
def overlap (a b : Bin) : Bool := decide (validE a = 0) && decide (validE b = 0) && ovK a b (min (sets a).length (sets b).length)
theorem ovK_succ (a b : Bin) (k : Nat) : ovK a b (k + 1) = (ovK a b k && meet (setAt a ((sets a).length - (k + 1))) (setAt b ((sets b).length - (k + 1)))) := by
  unfold ovK; rw [List.range_succ, List.all_append, List.all_cons, List.all_nil, Bool.and_true]
theorem ovK_le {a b : Bin} {k n : Nat} (hk : k < n) (h : meet (setAt a ((sets a).length - (k + 1))) (setAt b ((sets b).length - (k + 1))) = false) : ovK a b n = false := by
  unfold ovK; rw [List.all_eq_false]; exact ⟨k, by simpa using hk, by simp [h]⟩
theorem setAt_of {b : Bin} {i : Nat} (h : i < (sets b).length) : setAt b i = (sets b)[i].l := by unfold setAt; simp [h]
theorem ldB2 (h : Hp) (a b : Bin) : aLoad Tryd.prog (h ++ [.live 4 [encB a]] ++ [.live 4 [encB b]]) 29 (.ptr h.length 0 0) = some (.agg (encB a)) := load_app (ldB h a)

theorem overlap_prog (G : Nat → AV) (hG : KwG G) (a b : Bin) (ha : BinOk a) (hb : BinOk b) (h : Hp) : PCall (En G) 24 [.agg (encB a), .agg (encB b)] h (.bool (overlap a b)) := by
  refine ACalls.pure0 rfl ?_
  refine acalls_of (H := Hint.none) (enM G) Tryd.func24 rfl (by kernel_rfl) (by kernel_rfl) (Nat.le_of_ble_eq_true (by kernel_rfl)) ?_
  show awp _ _ _ _ _ (endQ _ [.tmp 4] _)
  simp -implicitDefEqProofs only [List.getElem?_cons_zero, List.getElem?_cons_succ, awp_seq, awp_reg, seqQ_n, WW_one, WW_nil, none_md, none_fz, frz_nil, ownOp, wc_app, wcont_s, upd_app, ev_tmp, ev_const, ev_func, av_bool, x_assign, x_box, x_load, X1_call, callA_fn, holdsO_some, holdsO_ofO, frameOf_zero, frameOf_succ, List.map_cons, List.map_nil, List.append_nil, ↓reduceIte, Nat.reduceEqDiff, Option.getD_some, Bool.not_false, enP, bxB, ldB2]
  refine (valid_prog G hG a ha _).use ?_
  simp -implicitDefEqProofs only [List.getElem?_cons_zero, List.getElem?_cons_succ, WW_one, WW_guardE, GX_some, gdstO, none_md, none_fz, frz_nil, ownOp, wc_app, wcont_s, upd_app, ev_tmp, ev_const, av_int, x_move, x_bin, holdsO_ofO, bin_neq, ↓reduceIte, Option.getD_some, Bool.not_false, enP]
  refine G1_mid (fun F H => F 15 = .bool (validE a != 0 || validE b != 0) ∧ F 2 = .ptr h.length 0 0 ∧ F 3 = .ptr (h ++ [ABlk.live 4 [encB a]]).length 0 0 ∧ H = h ++ [.live 4 [encB a]] ++ [.live 4 [encB b]]) ?_ ?_
  · refine G1_of (fun hc => ?_) (fun hc => ?_)
    · simp -implicitDefEqProofs only [List.getElem?_cons_zero, List.getElem?_cons_succ, Bool.true_or, WW_one, WW_nil, WW_guardE, GX_some, gdstO, G1_ft, none_md, none_fz, frz_nil, ownOp, wc_app, wcont_s, upd_app, aput, ev_tmp, ev_const, av_bool, x_pick, pick_t, ↓reduceIte, Nat.reduceEqDiff, Option.getD_some, Bool.not_false, hc]
      exact ⟨trivial, trivial, trivial, trivial⟩
    · simp -implicitDefEqProofs only [List.getElem?_cons_zero, List.getElem?_cons_succ, Bool.false_or, WW_guardE, GX_some, gdstO, G1_ff, none_md, none_fz, frz_nil, ownOp, wc_app, wcont_s, upd_app, ev_tmp, ev_func, x_load, X1_call, callA_fn, holdsO_ofO, List.map_cons, List.map_nil, List.append_nil, ↓reduceIte, Nat.reduceEqDiff, Option.getD_some, Bool.not_false, enP, hc, ldB]
      refine (valid_prog G hG b hb _).use ?_
      simp -implicitDefEqProofs only [List.getElem?_cons_zero, List.getElem?_cons_succ, WW_one, WW_nil, WW_guardE, GX_some, gdstO, G1_ff, none_md, none_fz, frz_nil, ownOp, wc_app, wcont_s, upd_app, ev_tmp, ev_const, av_int, av_bool, x_pick, pick_f, x_bin, holdsO_ofO, bin_neq, ↓reduceIte, Nat.reduceEqDiff, Option.getD_some, Bool.not_false, enP]
      exact ⟨trivial, trivial, trivial, trivial⟩
  rintro F H ⟨f15, f2, f3, rfl⟩
  simp -implicitDefEqProofs only [List.getElem?_cons_zero, List.getElem?_cons_succ, awp_cond, seqQ_n, ev_tmp, f15]
  refine cond_of (fun hc => ?_) (fun hc => ?_)
  · simp -implicitDefEqProofs only [List.getElem?_cons_zero, List.getElem?_cons_succ, awp_seq, awp_reg, awp_ret, seqQ_n, seqQ_r, end_r, WW_one, WW_nil, none_md, none_fz, frz_nil, ownOp, wc_app, wcont_s, upd_app, ev_const, av_bool, x_assign, ↓reduceIte, Option.getD_some, Bool.not_false]
    refine ⟨?_, _, by rw [List.append_assoc]⟩
    rw [Bool.or_eq_true] at hc
    rcases hc with h' | h'
    · have : validE a ≠ 0 := by simpa using h'
      simp [overlap, this]
    · have : validE b ≠ 0 := by simpa using h'
      simp [overlap, this]
  rw [Bool.or_eq_false_iff] at hc
  have va : validE a = 0 := by simpa using hc.1
  have vb : validE b = 0 := by simpa using hc.2
  have na := ha.num
  have nb := hb.num
  simp -implicitDefEqProofs only [List.getElem?_cons_zero, List.getElem?_cons_succ, awp_seq, awp_skip, seqQ_n]
  refine awp_draw (by kernel_rfl) ?_
  simp -implicitDefEqProofs only [List.getElem?_cons_zero, List.getElem?_cons_succ, dc_app, dcont_s, DD_one, y_load, Y1_call, callP_fn, none_md, upd_app, ev_tmp, ev_func, x_load, holdsO_ofO, List.map_cons, List.map_nil, List.append_nil, ↓reduceIte, Nat.reduceEqDiff, Option.getD_some, enP, f2, f3, ldB2]
  refine ⟨_, sets_prog G a _, ?_⟩
  simp -implicitDefEqProofs only [List.getElem?_cons_zero, List.getElem?_cons_succ, dc_app, dcont_s, DD_nil, DD_one, y_assign, Y1_call, callP_fn, awp_seq, awp_block, awp_reg, seqQ_n, WW_one, WW_nil, none_md, none_fz, frz_nil, ownOp, wc_app, wcont_s, upd_app, ev_tmp, ev_const, ev_func, av_int, x_assign, holdsO_ofO, List.map_cons, List.map_nil, List.append_nil, ↓reduceIte, Nat.reduceEqDiff, Option.getD_some, Bool.not_false, ldB]
  refine ⟨_, sets_prog G b _, ?_⟩
  refine awp_loop (fun n F H' => ∃ k, n + k = min (sets a).length (sets b).length ∧ F 5 = .sl (setsM a) 1 ((sets a).map encS) ∧ F 6 = .sl (setsM b) 1 ((sets b).map encS) ∧ F 7 = .int .i64 ((k + 1 : Nat) : Int) ∧ H' = h ++ [.live 4 [encB a]] ++ [.live 4 [encB b]] ∧ ovK a b k = true) (min (sets a).length (sets b).length) ⟨0, by simp, by simp -implicitDefEqProofs only [List.getElem?_cons_zero, List.getElem?_cons_succ, upd_app, ↓reduceIte, Nat.reduceEqDiff], by simp -implicitDefEqProofs only [List.getElem?_cons_zero, List.getElem?_cons_succ, upd_app, ↓reduceIte, Nat.reduceEqDiff], by simp -implicitDefEqProofs only [List.getElem?_cons_zero, List.getElem?_cons_succ, upd_app, ↓reduceIte, Nat.zero_add]; rfl, rfl, rfl⟩ ?_
  rintro n F H' ⟨k, hk, f5, f6, f7, rfl, hin⟩
  simp -implicitDefEqProofs only [List.getElem?_cons_zero, List.getElem?_cons_succ, awp_seq, awp_reg, awp_cond, seqQ_n, WW_one, WW_nil, none_md, none_fz, frz_nil, ownOp, wc_app, wcont_s, upd_app, ev_tmp, x_move, x_bin, x_len, x_min, holdsO_ofO, bin_leq, min_ii, ↓reduceIte, Nat.reduceEqDiff, Option.getD_some, Bool.not_false, enP, ln27, f5, f6, f7, List.length_map]
  refine cond_of (fun hd => ?_) (fun hd => ?_)
  · have hd' : k < min (sets a).length (sets b).length := by simp at hd; omega
    have hka : (sets a).length - (k + 1) < (sets a).length := by omega
    have hkb : (sets b).length - (k + 1) < (sets b).length := by omega
    have w1 : IntKind.i64.wrap (((sets a).length : Int) - ((k + 1 : Nat) : Int)) = (((sets a).length - (k + 1) : Nat) : Int) := by rw [wrap_i64 (by omega) (by omega)]; omega
    have w2 : IntKind.i64.wrap (((sets b).length : Int) - ((k + 1 : Nat) : Int)) = (((sets b).length - (k + 1) : Nat) : Int) := by rw [wrap_i64 (by omega) (by omega)]; omega
    simp -implicitDefEqProofs only [List.getElem?_cons_zero, List.getElem?_cons_succ, awp_seq, awp_block, awp_skip, seqQ_n]
    refine awp_draw (by kernel_rfl) ?_
    simp -implicitDefEqProofs only [List.getElem?_cons_zero, List.getElem?_cons_succ, dc_app, dcont_s, DD_one, y_move, y_load, y_bin, y_un, y_indexAddr, y_builtin, Y1_call, callP_fn, none_md, upd_app, ev_tmp, ev_func, x_load, x_bin, x_un, x_indexAddr, x_len, holdsO_ofO, bin_sub, List.map_cons, List.map_nil, List.append_nil, ↓reduceIte, Nat.reduceEqDiff, Option.getD_some, enP, ix27, ln27, f5, f6, f7, List.length_map, w1, w2, ix_map hka, ix_map hkb, load_map ag22 hka, load_map ag22 hkb, encS0]
    refine ⟨_, meet_prog G _ _ _ _ _ (ha.sets _ (List.getElem_mem hka)) (hb.sets _ (List.getElem_mem hkb)), ?_⟩
    simp -implicitDefEqProofs only [List.getElem?_cons_zero, List.getElem?_cons_succ, dcont_s, DD_nil, awp_cond, seqQ_n, upd_app, ev_tmp, holdsO_ofO, un_not, ↓reduceIte]
    refine cond_of (fun hi => ?_) (fun hi => ?_)
    · simp -implicitDefEqProofs only [List.getElem?_cons_zero, List.getElem?_cons_succ, awp_seq, awp_reg, awp_ret, seqQ_n, seqQ_r, blk_r, rnd_r, end_r, WW_one, WW_nil, none_md, none_fz, frz_nil, ownOp, wc_app, wcont_s, upd_app, ev_const, av_bool, x_assign, ↓reduceIte, Option.getD_some, Bool.not_false]
      refine ⟨?_, _, by rw [List.append_assoc]⟩
      unfold overlap
      rw [ovK_le hd' (by rw [setAt_of hka, setAt_of hkb]; simpa using hi)]; simp
    · simp -implicitDefEqProofs only [List.getElem?_cons_zero, List.getElem?_cons_succ, awp_reg, awp_skip, seqQ_n, blk_n, rnd_n, WW_one, WW_nil, none_md, none_fz, frz_nil, ownOp, wc_app, wcont_s, upd_app, ev_tmp, ev_const, av_int, x_move, x_assign, x_bin, holdsO_ofO, bin_add, ↓reduceIte, Nat.reduceEqDiff, Option.getD_some, Bool.not_false, enP, f7, wrap_succ (show k + 1 < 9223372036854775807 by omega)]
      refine ⟨n - 1, by omega, k + 1, by omega, f5, f6, rfl, trivial, ?_⟩
      rw [ovK_succ, hin, setAt_of hka, setAt_of hkb]; simpa using hi
  · have hd' : ¬ k < min (sets a).length (sets b).length := by simp at hd; omega
    simp -implicitDefEqProofs only [List.getElem?_cons_zero, List.getElem?_cons_succ, awp_seq, awp_reg, awp_ret, awp_exit, seqQ_n, seqQ_e, blk_e, rnd_e, end_r, WW_one, WW_nil, none_md, none_fz, frz_nil, ownOp, wc_app, wcont_s, upd_app, ev_const, av_bool, x_assign, ↓reduceIte, Option.getD_some, Bool.not_false]
    refine ⟨?_, _, by rw [List.append_assoc]⟩
    have : k = min (sets a).length (sets b).length := by omega
    subst this
    unfold overlap; rw [hin, va, vb]; rfl
theorem overlap_ref (G : Nat → AV) (a b : Bin) (ha : BinOk a) (hb : BinOk b) (h : Hp) : PCall (En G) 25 [.agg (encB a), .agg (encB b)] h (.bool (overlap a b)) := by
  refine ACalls.pure0 rfl ?_
  refine acalls_of (H := Hint.none) (enM G) Tryd.func25 rfl (by kernel_rfl) (by kernel_rfl) (Nat.le_of_ble_eq_true (by kernel_rfl)) ?_
  show awp _ _ _ _ _ (endQ _ [.tmp 4] _)
  simp -implicitDefEqProofs only [List.getElem?_cons_zero, List.getElem?_cons_succ, awp_seq, awp_reg, seqQ_n, WW_one, WW_nil, none_md, none_fz, frz_nil, ownOp, wc_app, wcont_s, upd_app, ev_tmp, ev_const, ev_func, av_bool, x_assign, x_box, x_load, X1_call, callA_fn, holdsO_some, holdsO_ofO, frameOf_zero, frameOf_succ, List.map_cons, List.map_nil, List.append_nil, ↓reduceIte, Nat.reduceEqDiff, Option.getD_some, Bool.not_false, enP, bxB, ldB2]
  refine (valid_ref G a ha _).use ?_
  simp -implicitDefEqProofs only [List.getElem?_cons_zero, List.getElem?_cons_succ, WW_one, WW_guardE, GX_some, gdstO, none_md, none_fz, frz_nil, ownOp, wc_app, wcont_s, upd_app, ev_tmp, ev_const, av_int, x_move, x_bin, holdsO_ofO, bin_neq, ↓reduceIte, Option.getD_some, Bool.not_false, enP]
  refine G1_mid (fun F H => F 15 = .bool (validE a != 0 || validE b != 0) ∧ F 2 = .ptr h.length 0 0 ∧ F 3 = .ptr (h ++ [ABlk.live 4 [encB a]]).length 0 0 ∧ H = h ++ [.live 4 [encB a]] ++ [.live 4 [encB b]]) ?_ ?_
  · refine G1_of (fun hc => ?_) (fun hc => ?_)
    · simp -implicitDefEqProofs only [List.getElem?_cons_zero, List.getElem?_cons_succ, Bool.true_or, WW_one, WW_nil, WW_guardE, GX_some, gdstO, G1_ft, none_md, none_fz, frz_nil, ownOp, wc_app, wcont_s, upd_app, aput, ev_tmp, ev_const, av_bool, x_pick, pick_t, ↓reduceIte, Nat.reduceEqDiff, Option.getD_some, Bool.not_false, hc]
      exact ⟨trivial, trivial, trivial, trivial⟩
    · simp -implicitDefEqProofs only [List.getElem?_cons_zero, List.getElem?_cons_succ, Bool.false_or, WW_guardE, GX_some, gdstO, G1_ff, none_md, none_fz, frz_nil, ownOp, wc_app, wcont_s, upd_app, ev_tmp, ev_func, x_load, X1_call, callA_fn, holdsO_ofO, List.map_cons, List.map_nil, List.append_nil, ↓reduceIte, Nat.reduceEqDiff, Option.getD_some, Bool.not_false, enP, hc, ldB]
      refine (valid_ref G b hb _).use ?_
      simp -implicitDefEqProofs only [List.getElem?_cons_zero, List.getElem?_cons_succ, WW_one, WW_nil, WW_guardE, GX_some, gdstO, G1_ff, none_md, none_fz, frz_nil, ownOp, wc_app, wcont_s, upd_app, ev_tmp, ev_const, av_int, av_bool, x_pick, pick_f, x_bin, holdsO_ofO, bin_neq, ↓reduceIte, Nat.reduceEqDiff, Option.getD_some, Bool.not_false, enP]
      exact ⟨trivial, trivial, trivial, trivial⟩
  rintro F H ⟨f15, f2, f3, rfl⟩
  simp -implicitDefEqProofs only [List.getElem?_cons_zero, List.getElem?_cons_succ, awp_cond, seqQ_n, ev_tmp, f15]
  refine cond_of (fun hc => ?_) (fun hc => ?_)
  · simp -implicitDefEqProofs only [List.getElem?_cons_zero, List.getElem?_cons_succ, awp_seq, awp_reg, awp_ret, seqQ_n, seqQ_r, end_r, WW_one, WW_nil, none_md, none_fz, frz_nil, ownOp, wc_app, wcont_s, upd_app, ev_const, av_bool, x_assign, ↓reduceIte, Option.getD_some, Bool.not_false]
    refine ⟨?_, _, by rw [List.append_assoc]⟩
    rw [Bool.or_eq_true] at hc
    rcases hc with h' | h'
    · have : validE a ≠ 0 := by simpa using h'
      simp [overlap, this]
    · have : validE b ≠ 0 := by simpa using h'
      simp [overlap, this]
  rw [Bool.or_eq_false_iff] at hc
  have va : validE a = 0 := by simpa using hc.1
  have vb : validE b = 0 := by simpa using hc.2
  have na := ha.num
  have nb := hb.num
  simp -implicitDefEqProofs only [List.getElem?_cons_zero, List.getElem?_cons_succ, awp_seq, awp_skip, seqQ_n]
  refine awp_draw (by kernel_rfl) ?_
  simp -implicitDefEqProofs only [List.getElem?_cons_zero, List.getElem?_cons_succ, dc_app, dcont_s, DD_one, y_load, Y1_call, callP_fn, none_md, upd_app, ev_tmp, ev_func, x_load, holdsO_ofO, List.map_cons, List.map_nil, List.append_nil, ↓reduceIte, Nat.reduceEqDiff, Option.getD_some, enP, f2, f3, ldB2]
  refine ⟨_, sets_ref G a _, ?_⟩
  simp -implicitDefEqProofs only [List.getElem?_cons_zero, List.getElem?_cons_succ, dc_app, dcont_s, DD_nil, DD_one, y_assign, Y1_call, callP_fn, awp_seq, awp_block, awp_reg, seqQ_n, WW_one, WW_nil, none_md, none_fz, frz_nil, ownOp, wc_app, wcont_s, upd_app, ev_tmp, ev_const, ev_func, av_int, x_assign, holdsO_ofO, List.map_cons, List.map_nil, List.append_nil, ↓reduceIte, Nat.reduceEqDiff, Option.getD_some, Bool.not_false, ldB]
  refine ⟨_, sets_ref G b _, ?_⟩
  refine awp_loop (fun n F H' => ∃ k, n + k = min (sets a).length (sets b).length ∧ F 5 = .sl (setsM a) 1 ((sets a).map encS) ∧ F 6 = .sl (setsM b) 1 ((sets b).map encS) ∧ F 7 = .int .i64 ((k + 1 : Nat) : Int) ∧ H' = h ++ [.live 4 [encB a]] ++ [.live 4 [encB b]] ∧ ovK a b k = true) (min (sets a).length (sets b).length) ⟨0, by simp, by simp -implicitDefEqProofs only [List.getElem?_cons_zero, List.getElem?_cons_succ, upd_app, ↓reduceIte, Nat.reduceEqDiff], by simp -implicitDefEqProofs only [List.getElem?_cons_zero, List.getElem?_cons_succ, upd_app, ↓reduceIte, Nat.reduceEqDiff], by simp -implicitDefEqProofs only [List.getElem?_cons_zero, List.getElem?_cons_succ, upd_app, ↓reduceIte, Nat.zero_add]; rfl, rfl, rfl⟩ ?_
  rintro n F H' ⟨k, hk, f5, f6, f7, rfl, hin⟩
  simp -implicitDefEqProofs only [List.getElem?_cons_zero, List.getElem?_cons_succ, awp_seq, awp_reg, WW_one, WW_guardE, GX_some, gdstO, none_md, none_fz, frz_nil, ownOp, wc_app, wcont_s, upd_app, ev_tmp, x_move, x_bin, x_len, holdsO_ofO, bin_leq, ↓reduceIte, Nat.reduceEqDiff, Option.getD_some, Bool.not_false, enP, ln27, f5, f7, List.length_map]
  refine G1_mid (fun F H => F 29 = .bool (decide (k < min (sets a).length (sets b).length)) ∧ F 5 = .sl (setsM a) 1 ((sets a).map encS) ∧ F 6 = .sl (setsM b) 1 ((sets b).map encS) ∧ F 7 = .int .i64 ((k + 1 : Nat) : Int) ∧ H = h ++ [.live 4 [encB a]] ++ [.live 4 [encB b]]) ?_ ?_
  · refine G1_of (fun hc => ?_) (fun hc => ?_)
    · simp -implicitDefEqProofs only [List.getElem?_cons_zero, List.getElem?_cons_succ, WW_one, WW_nil, WW_guardE, GX_some, gdstO, G1_tt, none_md, none_fz, frz_nil, ownOp, wc_app, wcont_s, upd_app, ev_tmp, ev_const, av_bool, x_move, x_pick, pick_t, x_bin, x_len, holdsO_ofO, bin_leq, ↓reduceIte, Nat.reduceEqDiff, Option.getD_some, Bool.not_false, enP, ln27, hc, f5, f6, f7, List.length_map]
      refine ⟨?_, trivial, trivial, trivial, trivial⟩
      congr 1
      rw [Bool.eq_iff_iff]; simp at hc ⊢; omega
    · simp -implicitDefEqProofs only [List.getElem?_cons_zero, List.getElem?_cons_succ, WW_one, WW_nil, WW_guardE, GX_some, gdstO, G1_tf, none_md, none_fz, frz_nil, ownOp, wc_app, wcont_s, upd_app, aput, ev_tmp, ev_const, av_bool, x_pick, pick_f, ↓reduceIte, Nat.reduceEqDiff, Option.getD_some, Bool.not_false, hc, f5, f6, f7]
      refine ⟨?_, trivial, trivial, trivial, trivial⟩
      congr 1
      rw [Bool.eq_iff_iff]; simp at hc ⊢; omega
  rintro F H ⟨f29, f5, f6, f7, rfl⟩
  simp -implicitDefEqProofs only [List.getElem?_cons_zero, List.getElem?_cons_succ, awp_cond, seqQ_n, ev_tmp, f29]
  refine cond_of (fun hd => ?_) (fun hd => ?_)
  · have hd' : k < min (sets a).length (sets b).length := by simp at hd; omega
    have hka : (sets a).length - (k + 1) < (sets a).length := by omega
    have hkb : (sets b).length - (k + 1) < (sets b).length := by omega
    have w1 : IntKind.i64.wrap (((sets a).length : Int) - ((k + 1 : Nat) : Int)) = (((sets a).length - (k + 1) : Nat) : Int) := by rw [wrap_i64 (by omega) (by omega)]; omega
    have w2 : IntKind.i64.wrap (((sets b).length : Int) - ((k + 1 : Nat) : Int)) = (((sets b).length - (k + 1) : Nat) : Int) := by rw [wrap_i64 (by omega) (by omega)]; omega
    simp -implicitDefEqProofs only [List.getElem?_cons_zero, List.getElem?_cons_succ, awp_seq, awp_block, awp_skip, seqQ_n]
    refine awp_draw (by kernel_rfl) ?_
    simp -implicitDefEqProofs only [List.getElem?_cons_zero, List.getElem?_cons_succ, dc_app, dcont_s, DD_one, y_move, y_load, y_bin, y_un, y_indexAddr, y_builtin, Y1_call, callP_fn, none_md, upd_app, ev_tmp, ev_func, x_load, x_bin, x_un, x_indexAddr, x_len, holdsO_ofO, bin_sub, List.map_cons, List.map_nil, List.append_nil, ↓reduceIte, Nat.reduceEqDiff, Option.getD_some, enP, ix27, ln27, f5, f6, f7, List.length_map, w1, w2, ix_map hka, ix_map hkb, load_map ag22 hka, load_map ag22 hkb, encS0]
    refine ⟨_, common_ref G _ _ _ _ _ (ha.sets _ (List.getElem_mem hka)) (hb.sets _ (List.getElem_mem hkb)), ?_⟩
    simp -implicitDefEqProofs only [List.getElem?_cons_zero, List.getElem?_cons_succ, dcont_s, DD_nil, awp_cond, seqQ_n, upd_app, ev_tmp, holdsO_ofO, un_not, ↓reduceIte]
    refine cond_of (fun hi => ?_) (fun hi => ?_)
    · simp -implicitDefEqProofs only [List.getElem?_cons_zero, List.getElem?_cons_succ, awp_seq, awp_reg, awp_ret, seqQ_n, seqQ_r, blk_r, rnd_r, end_r, WW_one, WW_nil, none_md, none_fz, frz_nil, ownOp, wc_app, wcont_s, upd_app, ev_const, av_bool, x_assign, ↓reduceIte, Option.getD_some, Bool.not_false]
      refine ⟨?_, _, by rw [List.append_assoc]⟩
      unfold overlap
      rw [ovK_le hd' (by rw [setAt_of hka, setAt_of hkb]; simpa using hi)]; simp
    · simp -implicitDefEqProofs only [List.getElem?_cons_zero, List.getElem?_cons_succ, awp_reg, awp_skip, seqQ_n, blk_n, rnd_n, WW_one, WW_nil, none_md, none_fz, frz_nil, ownOp, wc_app, wcont_s, upd_app, ev_tmp, ev_const, av_int, x_move, x_assign, x_bin, holdsO_ofO, bin_add, ↓reduceIte, Nat.reduceEqDiff, Option.getD_some, Bool.not_false, enP, f7, wrap_succ (show k + 1 < 9223372036854775807 by omega)]
      refine ⟨n - 1, by omega, k + 1, by omega, f5, f6, rfl, trivial, ?_⟩
      rw [ovK_succ, hin, setAt_of hka, setAt_of hkb]; simpa using hi
  · have hd' : ¬ k < min (sets a).length (sets b).length := by simp at hd; omega
    simp -implicitDefEqProofs only [List.getElem?_cons_zero, List.getElem?_cons_succ, awp_seq, awp_reg, awp_ret, awp_exit, seqQ_n, seqQ_e, blk_e, rnd_e, end_r, WW_one, WW_nil, none_md, none_fz, frz_nil, ownOp, wc_app, wcont_s, upd_app, ev_const, av_bool, x_assign, ↓reduceIte, Option.getD_some, Bool.not_false]
    refine ⟨?_, _, by rw [List.append_assoc]⟩
    have : k = min (sets a).length (sets b).length := by omega
    subst this
    unfold overlap; rw [hin, va, vb]; rfl

theorem mask_prog (G : Nat → AV) (n : Int) (h : Hp) : PCall (En G) 42 [.int .i64 n] h (.int .i64 (if n < 0 ∨ n > 16 then 0 else 2 ^ n.toNat - 1)) := by
  refine acalls_of (H := Hint.none) (enM G) Tryd.func42 rfl (by kernel_rfl) (by kernel_rfl) (Nat.le_of_ble_eq_true (by kernel_rfl)) ?_
  show awp _ _ _ _ _ (endQ _ [.tmp 2] _)
  simp -implicitDefEqProofs only [List.getElem?_cons_zero, List.getElem?_cons_succ, awp_seq, awp_reg, seqQ_n, WW_one, WW_nil, WW_guardE, GX_some, gdstO, none_md, none_fz, frz_nil, ownOp, wc_app, wcont_s, upd_app, ev_tmp, ev_const, av_int, x_move, x_assign, x_bin, holdsO_ofO, bin_lss, frameOf_zero, ↓reduceIte, Nat.reduceEqDiff, Option.getD_some, Bool.not_false, enP]
  refine G1_of (fun ha => ?_) (fun ha => ?_)
  · simp -implicitDefEqProofs only [List.getElem?_cons_zero, List.getElem?_cons_succ, awp_seq, awp_reg, awp_ret, awp_cond, seqQ_n, seqQ_r, end_r, cond_t, WW_one, WW_nil, WW_guardE, GX_some, gdstO, G1_ft, none_md, none_fz, frz_nil, ownOp, wc_app, wcont_s, upd_app, aput, ev_tmp, ev_const, av_int, av_bool, x_assign, x_pick, pick_t, ↓reduceIte, Nat.reduceEqDiff, Option.getD_some, Bool.not_false, ha]
    exact ⟨by rw [if_pos (Or.inl (by simpa using ha))], trivial⟩
  simp -implicitDefEqProofs only [List.getElem?_cons_zero, List.getElem?_cons_succ, awp_cond, seqQ_n, WW_one, WW_nil, WW_guardE, GX_some, gdstO, G1_ff, none_md, none_fz, frz_nil, ownOp, wc_app, wcont_s, upd_app, ev_tmp, ev_const, av_int, av_bool, x_move, x_pick, pick_f, x_bin, holdsO_ofO, bin_gtr, frameOf_zero, ↓reduceIte, Nat.reduceEqDiff, Option.getD_some, Bool.not_false, enP, ha]
  refine cond_of (fun hb => ?_) (fun hb => ?_)
  · simp -implicitDefEqProofs only [List.getElem?_cons_zero, List.getElem?_cons_succ, awp_seq, awp_reg, awp_ret, seqQ_n, seqQ_r, end_r, WW_one, WW_nil, none_md, none_fz, frz_nil, ownOp, wc_app, wcont_s, upd_app, ev_const, av_int, x_assign, ↓reduceIte, Option.getD_some, Bool.not_false]
    exact ⟨by rw [if_pos (Or.inr (by simpa using hb))], trivial⟩
  have h0 : ¬ n < 0 := by simpa using ha
  have h1 : ¬ n > 16 := by simpa using hb
  have hp : (2 : Int) ^ n.toNat ≤ 65536 := by
    have : (2 : Nat) ^ n.toNat ≤ 2 ^ 16 := Nat.pow_le_pow_right (by omega) (by omega)
    have h2 : ((2 ^ n.toNat : Nat) : Int) ≤ ((2 ^ 16 : Nat) : Int) := by omega
    simpa using h2
  have hp0 : (0 : Int) < (2 : Int) ^ n.toNat := Int.pow_pos (by omega)
  have hm : min n.toNat IntKind.i64.bits = n.toNat := by show min n.toNat 64 = n.toNat; omega
  simp -implicitDefEqProofs only [List.getElem?_cons_zero, List.getElem?_cons_succ, awp_seq, awp_reg, awp_skip, awp_ret, seqQ_n, end_r, WW_one, WW_nil, none_md, none_fz, frz_nil, ownOp, wc_app, wcont_s, upd_app, ev_tmp, ev_const, av_int, x_move, x_assign, x_bin, holdsO_ofO, bin_sub, frameOf_zero, ↓reduceIte, Nat.reduceEqDiff, Option.getD_some, Bool.not_false, enP, bin_shl _ _ _ _ _ _ h0, hm, Int.one_mul, wrap_i64 (show (-9223372036854775808 : Int) ≤ 2 ^ n.toNat by omega) (show (2 : Int) ^ n.toNat ≤ 9223372036854775807 by omega)]
  rw [wrap_i64 (by omega) (by omega), if_neg (by omega)]
  exact ⟨rfl, trivial⟩

/- two bins, compared as the reference compares them -/
def sameSteps (xs ys : List Rs) : Bool := decide (xs.map (·.l) = ys.map (·.l))
def sameBin (a b : Bin) : Bool := a.name.toList == b.name.toList && a.kind == b.kind && decide (a.ranges.l = b.ranges.l) && sameSteps a.steps b.steps
end Go.Proofs.YtpdohkcjhphibaaDoor.Bins
