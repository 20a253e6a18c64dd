/- The law BinsNormal; no condition but the keywords that are laid and the bounds on lengths. -/
import Derived.Test.YtpdohkcjhphibaaDoorD5
import Derived.Test.YtpdohkcjhphibaaDoorP2
set_option linter.unusedVariables false
set_option linter.unusedSimpArgs false
namespace Go.Proofs.YtpdohkcjhphibaaDoor.Bins
open Go Go.Proofs.YtpdohkcjhphibaaDoor.Sm

theorem frR (xs : List Rng) : allFrozen (xs.map encR) = true := by
  unfold allFrozen
  rw [List.all_eq_true]
  intro r hr
  obtain ⟨x, _, rfl⟩ := List.mem_map.1 hr
  rfl
/-- the list turned round, so far -/
def backSt (ys : List Rng) (h : Hp) (k : Nat) (v : AV) (H : Hp) : Prop := (k = ys.length ∧ v = .sl .nil 0 []) ∨ (k < ys.length ∧ ∃ o, h.length ≤ o ∧ v = .own o 0 (ys.length - k) ∧ H[o]? = some (.live 2 ((ys.drop k).reverse.map encR)))

set_option maxRecDepth 8000 in
set_option maxHeartbeats 2000000 in
theorem law_normal (G : Nat → AV) (hG : KwG G) (xs : List Rng) (m : SM) (v : Int) (h : Hp) (hl : xs.length ≤ 1048576) (hin : ∀ r ∈ xs, inI r) : PCall (En G) 5 [.sl m 2 (xs.map encR), .int .i64 v] h (.bool true) := by
  refine ACalls.pure0 rfl ?_
  refine acalls_of (H := hint [] [(118, [12])]) (enM G) Tryd.func5 rfl (by kernel_rfl) (by kernel_rfl) (Nat.le_of_ble_eq_true (by kernel_rfl)) ?_
  show awp _ _ _ _ _ (endQ _ [.tmp 4] _)
  have e1 : min (xs.length : Int) 100 = ((min xs.length 100 : Nat) : Int) := by omega
  have hl2 : (xs.take (min xs.length 100)).length ≤ 100 := by simp; omega
  have hin2 : ∀ r ∈ xs.take (min xs.length 100), inI r := fun r hr => hin r (List.mem_of_mem_take hr)
  simp -implicitDefEqProofs only [Option.map_some, Option.map_none, List.getElem?_cons_zero, List.getElem?_cons_succ, hint_md, List.contains_nil, Nat.reduceBEq, awp_seq, awp_reg, seqQ_n, WW_one, WW_nil, frz_nil, ownOp, wc_app, wcont_s, upd_app, ev_tmp, ev_const, ev_func, av_int, av_bool, x_move, x_assign, x_slice, x_len, x_min, X1_call, callA_fn, holdsO_ofO, min_ii, frameOf_zero, List.map_cons, List.map_nil, List.append_nil, ↓reduceIte, Nat.reduceEqDiff, Option.getD_some, Bool.not_false, enP, ln22, hint_fz1, Bool.false_eq_true, List.length_map, e1, sl_to ud22 sz33 (h := h) (m := m) (kk := .i64) (xs := xs.map encR) (u := min xs.length 100) (by simp; omega), ← List.map_take]
  generalize xs.take (min xs.length 100) = ys at hl2 hin2
  generalize cutM m (min xs.length 100) xs.length = m2
  have hnl := normal_len ys
  have hinv := normal_inv hin2
  have hns := normal_inside hin2
  have hidem := normal_idem hin2
  have hrev : normal ys.reverse = normal ys := normal_perm (List.reverse_perm ys)
  refine (normal_prog' G ys m2 h (by omega)).use ?_
  simp -implicitDefEqProofs only [List.getElem?_cons_zero, List.getElem?_cons_succ, hint_md, List.contains_nil, Nat.reduceBEq, awp_seq, awp_reg, seqQ_n, WW_one, WW_nil, frz_nil, ownOp, wc_app, wcont_s, upd_app, ev_tmp, ev_func, x_move, x_assign, X1_call, callA_fn, frameOf_zero, frameOf_succ, List.map_cons, List.map_nil, List.append_nil, ↓reduceIte, Nat.reduceEqDiff, Option.getD_some, Bool.not_false, hint_fz1, Bool.false_eq_true]
  refine (inside_prog G ys m2 v h (by omega)).use ?_
  simp -implicitDefEqProofs only [List.getElem?_cons_zero, List.getElem?_cons_succ, hint_md, List.contains_nil, Nat.reduceBEq, WW_one, frz_nil, ownOp, wc_app, wcont_s, upd_app, ev_tmp, ev_func, x_move, X1_call, callA_fn, frameOf_zero, frameOf_succ, List.map_cons, List.map_nil, List.append_nil, ↓reduceIte, Nat.reduceEqDiff, Option.getD_some, Bool.not_false, hint_fz1, Bool.false_eq_true]
  refine (inside_prog G (normal ys) _ v h (by omega)).use ?_
  have c1 : (!(inside ys v == inside (normal ys) v)) = false := by rw [hns]; simp
  simp -implicitDefEqProofs only [List.getElem?_cons_zero, List.getElem?_cons_succ, hint_md, List.contains_nil, Nat.reduceBEq, WW_one, WW_guardE, GX_some, gdstO, G1_ff, frz_nil, ownOp, wc_app, wcont_s, upd_app, ev_tmp, ev_func, x_move, x_bin, X1_call, callA_fn, holdsO_ofO, List.map_cons, List.map_nil, List.append_nil, ↓reduceIte, Nat.reduceEqDiff, Option.getD_some, Bool.not_false, enP, bn4, hint_fz1, Bool.false_eq_true, bn4, c1]
  refine (normal_prog' G (normal ys) _ h (by omega)).use ?_
  rw [hidem]
  simp -implicitDefEqProofs only [List.getElem?_cons_zero, List.getElem?_cons_succ, hint_md, List.contains_nil, Nat.reduceBEq, WW_guardE, GX_some, gdstO, G1_ff, frz_nil, ownOp, wc_app, wcont_s, upd_app, ev_tmp, ev_func, x_move, X1_call, callA_fn, List.map_cons, List.map_nil, List.append_nil, ↓reduceIte, Nat.reduceEqDiff, Option.getD_some, Bool.not_false, hint_fz1, Bool.false_eq_true]
  refine (same_ref G (normal ys) (normal ys) _ _ h (by omega)).use ?_
  simp -implicitDefEqProofs only [List.getElem?_cons_zero, List.getElem?_cons_succ, hint_md, List.contains_nil, Nat.reduceBEq, awp_seq, awp_block, awp_reg, awp_skip, awp_cond, seqQ_n, cond_f, WW_one, WW_nil, WW_guardE, GX_some, gdstO, G1_ff, frz_nil, ownOp, wc_app, wcont_s, upd_app, ev_tmp, ev_const, av_int, av_bool, x_move, x_pick, pick_f, x_un, x_len, holdsO_ofO, un_not, ↓reduceIte, Nat.reduceEqDiff, Option.getD_some, Bool.not_true, Bool.not_false, decide_true, enP, ln22, hint_fz1, Bool.false_eq_true, List.length_map]
  generalize hnn : normal ys = n at hnl hinv hns hidem hrev
  generalize nm n = mn
  refine awp_loop (fun q F H => ∃ k, q + k = n.length ∧ F 0 = .sl m2 2 (ys.map encR) ∧ F 5 = .sl mn 2 (n.map encR) ∧ F 35 = .sl mn 2 (n.map encR) ∧ F 36 = .int .i64 n.length ∧ F 37 = .int .i64 (k : Nat) ∧ ext h H) n.length
    ⟨0, by simp, by simp -implicitDefEqProofs only [List.getElem?_cons_zero, List.getElem?_cons_succ, upd_app, ↓reduceIte, Nat.reduceEqDiff], by simp -implicitDefEqProofs only [List.getElem?_cons_zero, List.getElem?_cons_succ, upd_app, ↓reduceIte, Nat.reduceEqDiff], by simp -implicitDefEqProofs only [List.getElem?_cons_zero, List.getElem?_cons_succ, upd_app, ↓reduceIte, Nat.reduceEqDiff], by simp -implicitDefEqProofs only [List.getElem?_cons_zero, List.getElem?_cons_succ, upd_app, ↓reduceIte, Nat.reduceEqDiff], by simp -implicitDefEqProofs only [List.getElem?_cons_zero, List.getElem?_cons_succ, upd_app, ↓reduceIte]; rfl, ext.rfl' _⟩ ?_
  rintro q F H ⟨k, hk, f0, f5, f35, f36, f37, hex⟩
  simp -implicitDefEqProofs only [List.getElem?_cons_zero, List.getElem?_cons_succ, hint_md, List.contains_nil, Nat.reduceBEq, awp_seq, awp_reg, awp_cond, seqQ_n, WW_one, WW_nil, frz_nil, ownOp, wc_app, wcont_s, upd_app, ev_tmp, x_bin, holdsO_ofO, bin_lss, ↓reduceIte, Option.getD_some, Bool.not_false, enP, hint_fz1, Bool.false_eq_true, f36, f37]
  refine cond_of (fun hc => ?_) (fun hc => ?_)
  · have hc' : k < n.length := by simpa using hc
    have hfk := (hinv.f _ (List.getElem_mem hc')).1
    generalize hr : n[k] = r at hfk
    have er : aLoad Tryd.prog H 33 (.fptr 2 (n.map encR) k 0) = some (.agg (encR r)) := by rw [load_mapA ag33 sz33 encR_len hc', hr]
    have g1 : decide (r.lo > r.hi) = false := by simp [full] at hfk; simp; exact hfk
    simp -implicitDefEqProofs only [List.getElem?_cons_zero, List.getElem?_cons_succ, hint_md, List.contains_nil, Nat.reduceBEq, awp_seq, awp_block, awp_reg, awp_skip, seqQ_n, WW_one, WW_nil, frz_nil, ownOp, wc_app, wcont_s, wcont_n, upd_app, ev_tmp, x_move, x_assign, x_alloc, x_load, x_store, x_indexAddr, holdsO_some, holdsO_ofO, holdsO_ofS, ↓reduceIte, Nat.reduceEqDiff, Option.getD_some, Bool.not_false, enP, ix22, hint_fz1, Bool.false_eq_true, Option.getD_none, f35, f37, ix_map hc', er, al33, st33 _ _ [.int .i64 0, .int .i64 0] rfl]
    refine awp_draw (by kernel_rfl) ?_
    rcases Nat.eq_zero_or_pos k with h0 | h0
    · have g2 : decide ((k : Int) > 0) = false := by simp; omega
      simp -implicitDefEqProofs only [List.getElem?_cons_zero, List.getElem?_cons_succ, hint_md, List.contains_nil, Nat.reduceBEq, dc_app, dcont_s, DD_nil, DD_one, DD_guardE, GY_some, GD_ff, GD_tf, GD_u, y_move, y_pick, y_load, y_bin, y_fieldAddr, awp_reg, awp_skip, awp_cond, seqQ_n, blk_n, rnd_n, cond_f, WW_one, WW_nil, gdstO, frz_nil, ownOp, wc_app, wcont_s, upd_app, aput, ev_tmp, ev_const, av_int, av_bool, x_move, x_pick, pick_f, x_load, x_bin, x_fieldAddr, holdsO_ofO, bin_add, bin_gtr, ↓reduceIte, Nat.reduceEqDiff, Nat.add_zero, Nat.zero_add, Option.getD_some, Bool.not_false, enP, fa33_0, fa33_1, hint_fz1, Bool.false_eq_true, load_last ag3, encR0, encR1, g1, g2, f37, wrap_succ (show k < 9223372036854775807 by omega)]
      exact ⟨q - 1, by omega, k + 1, by omega, f0, f5, f35, f36, rfl, hex.app _⟩
    · have g2 : decide ((k : Int) > 0) = true := by simp; omega
      have hk1 : k - 1 < n.length := by omega
      have hgl := hinv.gap (k - 1) n[k - 1] r (List.getElem?_eq_getElem hk1) (by rw [show k - 1 + 1 = k by omega, List.getElem?_eq_getElem hc', hr])
      have w1 : IntKind.i64.wrap ((k : Int) - 1) = ((k - 1 : Nat) : Int) := by rw [wrap_i64 (by omega) (by omega)]; omega
      have el : ∀ H, aLoad Tryd.prog H 3 (.fptr 2 (n.map encR) (k - 1) 1) = some (.int .i64 (n[k - 1]).hi) := fun H => by rw [load_map ag3 hk1]; rfl
      unfold glue at hgl
      rw [Bool.or_eq_false_iff] at hgl
      obtain ⟨g3, g4⟩ := hgl
      have g5 : (IntKind.i64.wrap (r.lo - 1) == (n[k - 1]).hi) = false := by
        rw [decide_eq_false_iff_not] at g4
        exact beq_eq_false_iff_ne.2 g4
      simp -implicitDefEqProofs only [List.getElem?_cons_zero, List.getElem?_cons_succ, hint_md, List.contains_nil, Nat.reduceBEq, dc_app, dcont_s, DD_nil, DD_one, DD_guardE, GY_some, GD_tt, GD_ff, y_move, y_pick, y_load, y_bin, y_fieldAddr, y_indexAddr, awp_reg, awp_skip, awp_cond, seqQ_n, blk_n, rnd_n, cond_f, WW_one, WW_nil, gdstO, frz_nil, ownOp, wc_app, wcont_s, upd_app, ev_tmp, ev_const, av_int, av_bool, x_move, x_pick, pick_t, pick_f, x_load, x_bin, x_fieldAddr, x_indexAddr, holdsO_ofO, bin_add, bin_sub, bin_eql, bin_leq, bin_gtr, ↓reduceIte, Nat.reduceEqDiff, Nat.add_zero, Nat.zero_add, Option.getD_some, Bool.not_false, enP, ix22, fa33_0, fa33_1, hint_fz1, Bool.false_eq_true, load_last ag3, encR0, encR1, g1, g2, f5, w1, ix_map hk1, el, g3, g5, f37, wrap_succ (show k < 9223372036854775807 by omega)]
      exact ⟨q - 1, by omega, k + 1, by omega, f0, trivial, f35, f36, rfl, hex.app _⟩
  clear hc f35 f36 f37 hk
  simp -implicitDefEqProofs only [List.getElem?_cons_zero, List.getElem?_cons_succ, hint_md, List.contains_nil, Nat.reduceBEq, awp_seq, awp_block, awp_reg, awp_exit, seqQ_n, seqQ_e, blk_e, rnd_e, WW_one, WW_nil, frz_nil, ownOp, wc_app, wcont_s, upd_app, ev_tmp, ev_const, av_int, x_move, x_len, holdsO_ofO, ↓reduceIte, Nat.reduceEqDiff, Option.getD_some, Bool.not_false, enP, ln22, hint_fz1, Bool.false_eq_true, f0, List.length_map]
  refine awp_loop (fun q F H => ∃ k, q + k = ys.length ∧ F 0 = .sl m2 2 (ys.map encR) ∧ F 5 = .sl mn 2 (n.map encR) ∧ F 75 = .sl m2 2 (ys.map encR) ∧ F 76 = .int .i64 ys.length ∧ F 77 = .int .i64 (k : Nat) ∧ ext h H) ys.length
    ⟨0, by simp, by simp -implicitDefEqProofs only [List.getElem?_cons_zero, List.getElem?_cons_succ, upd_app, ↓reduceIte, Nat.reduceEqDiff, f0], by simp -implicitDefEqProofs only [List.getElem?_cons_zero, List.getElem?_cons_succ, upd_app, ↓reduceIte, Nat.reduceEqDiff, f5], by simp -implicitDefEqProofs only [List.getElem?_cons_zero, List.getElem?_cons_succ, upd_app, ↓reduceIte, Nat.reduceEqDiff], by simp -implicitDefEqProofs only [List.getElem?_cons_zero, List.getElem?_cons_succ, upd_app, ↓reduceIte, Nat.reduceEqDiff], by simp -implicitDefEqProofs only [List.getElem?_cons_zero, List.getElem?_cons_succ, upd_app, ↓reduceIte]; rfl, hex⟩ ?_
  clear f0 f5 hex
  rintro q F H ⟨k, hk, f0, f5, f75, f76, f77, hex⟩
  simp -implicitDefEqProofs only [List.getElem?_cons_zero, List.getElem?_cons_succ, hint_md, List.contains_nil, Nat.reduceBEq, awp_seq, awp_reg, awp_cond, seqQ_n, WW_one, WW_nil, frz_nil, ownOp, wc_app, wcont_s, upd_app, ev_tmp, x_bin, holdsO_ofO, bin_lss, ↓reduceIte, Option.getD_some, Bool.not_false, enP, hint_fz1, Bool.false_eq_true, f76, f77]
  refine cond_of (fun hc => ?_) (fun hc => ?_)
  · have hc' : k < ys.length := by simpa using hc
    have hmem := List.getElem_mem hc'
    generalize hr : ys[k] = r at hmem
    have er : aLoad Tryd.prog H 33 (.fptr 2 (ys.map encR) k 0) = some (.agg (encR r)) := by rw [load_mapA ag33 sz33 encR_len hc', hr]
    simp -implicitDefEqProofs only [List.getElem?_cons_zero, List.getElem?_cons_succ, evp_nil, evp_cons, hint_md, List.contains_nil, Nat.reduceBEq, awp_seq, awp_block, awp_reg, awp_skip, seqQ_n, WW_one, WW_nil, frz_nil, ownOp, wc_app, wcont_s, wcont_n, upd_app, ev_tmp, ev_const, av_int, x_move, x_alloc, x_buildSlice, x_load, x_store, x_fieldAddr, x_indexAddr, x_len, holdsO_some, holdsO_ofO, holdsO_ofS, ↓reduceIte, Nat.reduceEqDiff, Nat.add_zero, Nat.zero_add, Option.getD_some, Bool.not_false, enP, ix22, ln30, fa33_0, fa33_1, hint_fz1, Bool.false_eq_true, Option.getD_none, f75, f77, ix_map hc', er, al33, st33 _ _ [.int .i64 0, .int .i64 0] rfl, load_last ag3, encR0, encR1, bs30_2]
    obtain ⟨ats, hats⟩ : ∃ ats : List Int, ats = [r.lo, r.hi] := ⟨_, rfl⟩
    have hatl : ats.length = 2 := by rw [hats]; rfl
    refine awp_loop (fun q2 F H2 => ∃ j, q2 + j = 2 ∧ F 0 = .sl m2 2 (ys.map encR) ∧ F 5 = .sl mn 2 (n.map encR) ∧ F 75 = .sl m2 2 (ys.map encR) ∧ F 76 = .int .i64 ys.length ∧ F 77 = .int .i64 (k : Nat) ∧ F 9 = .ptr H.length 0 0 ∧ F 85 = .sl .full 1 (ats.map encI) ∧ F 86 = .int .i64 2 ∧ F 87 = .int .i64 (j : Nat) ∧ H2 = H ++ [.live 2 [encR r]]) 2
      ⟨0, by simp, by simp -implicitDefEqProofs only [List.getElem?_cons_zero, List.getElem?_cons_succ, upd_app, ↓reduceIte, Nat.reduceEqDiff, f0], by simp -implicitDefEqProofs only [List.getElem?_cons_zero, List.getElem?_cons_succ, upd_app, ↓reduceIte, Nat.reduceEqDiff, f5], by simp -implicitDefEqProofs only [List.getElem?_cons_zero, List.getElem?_cons_succ, upd_app, ↓reduceIte, Nat.reduceEqDiff, f75], by simp -implicitDefEqProofs only [List.getElem?_cons_zero, List.getElem?_cons_succ, upd_app, ↓reduceIte, Nat.reduceEqDiff, f76], by simp -implicitDefEqProofs only [List.getElem?_cons_zero, List.getElem?_cons_succ, upd_app, ↓reduceIte, Nat.reduceEqDiff, f77], by simp -implicitDefEqProofs only [List.getElem?_cons_zero, List.getElem?_cons_succ, upd_app, ↓reduceIte, Nat.reduceEqDiff], by simp -implicitDefEqProofs only [List.getElem?_cons_zero, List.getElem?_cons_succ, upd_app, ↓reduceIte, Nat.reduceEqDiff]; rw [hats]; rfl, by simp -implicitDefEqProofs only [List.getElem?_cons_zero, List.getElem?_cons_succ, upd_app, ↓reduceIte, Nat.reduceEqDiff]; rfl, by simp -implicitDefEqProofs only [List.getElem?_cons_zero, List.getElem?_cons_succ, upd_app, ↓reduceIte]; rfl, rfl⟩ ?_
    clear f0 f5 f75 f76 f77
    rintro q2 F H2 ⟨j, hj, f0, f5, f75, f76, f77, f9, f85, f86, f87, rfl⟩
    simp -implicitDefEqProofs only [List.getElem?_cons_zero, List.getElem?_cons_succ, hint_md, List.contains_nil, Nat.reduceBEq, awp_seq, awp_reg, awp_cond, seqQ_n, WW_one, WW_nil, frz_nil, ownOp, wc_app, wcont_s, upd_app, ev_tmp, x_bin, holdsO_ofO, bin_lss, ↓reduceIte, Option.getD_some, Bool.not_false, enP, hint_fz1, Bool.false_eq_true, f86, f87]
    refine cond_of (fun hd => ?_) (fun hd => ?_)
    · have hd' : j < ats.length := by rw [hatl]; simp at hd; omega
      have hat : ∀ a, ats[j]'hd' = a → full r = true → inside n a = true := by
        intro a ha hf
        rw [hns]
        simp only [full, decide_eq_true_eq] at hf
        unfold inside
        refine List.any_eq_true.2 ⟨r, hmem, ?_⟩
        have : a = r.lo ∨ a = r.hi := by
          have := List.getElem_mem hd'
          rw [ha, hats] at this; simpa using this
        rcases this with rfl | rfl <;> simp <;> omega
      have ea : aLoad Tryd.prog (H ++ [.live 2 [encR r]]) 3 (.fptr 1 (ats.map encI) j 0) = some (.int .i64 (ats[j]'hd')) := by rw [load_map ag3 hd']; rfl
      generalize ats[j]'hd' = a at hat ea
      simp -implicitDefEqProofs only [List.getElem?_cons_zero, List.getElem?_cons_succ, hint_md, List.contains_nil, Nat.reduceBEq, awp_seq, awp_block, awp_reg, awp_skip, seqQ_n, WW_one, WW_nil, WW_guardE, GX_some, gdstO, frz_nil, ownOp, wc_app, wcont_s, upd_app, ev_tmp, x_move, x_assign, x_load, x_bin, x_fieldAddr, x_indexAddr, holdsO_ofO, bin_leq, ↓reduceIte, Nat.reduceEqDiff, Nat.add_zero, Nat.zero_add, Option.getD_some, Bool.not_false, enP, ix30, fa33_0, fa33_1, hint_fz1, Bool.false_eq_true, f85, f87, ix_map hd', ea, f9, load_last ag3, encR0, encR1]
      cases hfr : full r with
      | false =>
        have g1 : decide (r.lo ≤ r.hi) = false := hfr
        simp -implicitDefEqProofs only [List.getElem?_cons_zero, List.getElem?_cons_succ, hint_md, List.contains_nil, Nat.reduceBEq, awp_reg, awp_skip, awp_cond, seqQ_n, blk_n, rnd_n, cond_f, WW_one, WW_nil, WW_guardE, GX_some, gdstO, G1_tf, frz_nil, ownOp, wc_app, wcont_s, upd_app, aput, ev_tmp, ev_const, av_int, av_bool, x_move, x_pick, pick_f, x_bin, holdsO_ofO, bin_add, ↓reduceIte, Nat.reduceEqDiff, Option.getD_some, Bool.not_false, enP, hint_fz1, Bool.false_eq_true, g1, f87, wrap_succ (show j < 9223372036854775807 by omega)]
        exact ⟨q2 - 1, by omega, j + 1, by omega, f0, f5, f75, f76, f77, f9, f85, f86, rfl, trivial⟩
      | true =>
        have g1 : decide (r.lo ≤ r.hi) = true := hfr
        simp -implicitDefEqProofs only [List.getElem?_cons_zero, List.getElem?_cons_succ, hint_md, List.contains_nil, Nat.reduceBEq, WW_guardE, GX_some, gdstO, G1_tt, frz_nil, ownOp, wc_app, wcont_s, upd_app, ev_tmp, ev_func, x_move, X1_call, callA_fn, List.map_cons, List.map_nil, List.append_nil, ↓reduceIte, Nat.reduceEqDiff, Option.getD_some, Bool.not_false, hint_fz1, Bool.false_eq_true, g1, f5]
        refine (inside_prog G n mn a _ (by omega)).use ?_
        simp -implicitDefEqProofs only [List.getElem?_cons_zero, List.getElem?_cons_succ, hint_md, List.contains_nil, Nat.reduceBEq, awp_reg, awp_skip, awp_cond, seqQ_n, blk_n, rnd_n, cond_f, WW_one, WW_nil, WW_guardE, GX_some, gdstO, G1_tt, frz_nil, ownOp, wc_app, wcont_s, upd_app, ev_tmp, ev_const, av_int, av_bool, x_move, x_pick, pick_t, x_bin, x_un, holdsO_ofO, bin_add, un_not, ↓reduceIte, Nat.reduceEqDiff, Option.getD_some, Bool.not_true, Bool.not_false, enP, hint_fz1, Bool.false_eq_true, hat a rfl hfr, f87, wrap_succ (show j < 9223372036854775807 by omega)]
        exact ⟨q2 - 1, by omega, j + 1, by omega, f0, f5, f75, f76, f77, f9, f85, f86, rfl, trivial⟩
    · simp -implicitDefEqProofs only [List.getElem?_cons_zero, List.getElem?_cons_succ, hint_md, List.contains_nil, Nat.reduceBEq, awp_reg, awp_exit, seqQ_n, seqQ_e, blk_n, blk_e, rnd_n, rnd_e, WW_one, WW_nil, frz_nil, ownOp, wc_app, wcont_s, upd_app, ev_tmp, ev_const, av_int, x_move, x_bin, holdsO_ofO, bin_add, ↓reduceIte, Nat.reduceEqDiff, Option.getD_some, Bool.not_false, enP, hint_fz1, Bool.false_eq_true, f77, wrap_succ (show k < 9223372036854775807 by omega)]
      exact ⟨q - 1, by omega, k + 1, by omega, f0, f5, f75, f76, rfl, hex.app _⟩
  clear hc f75 f76 f77 hk
  have w1 : IntKind.i64.wrap ((ys.length : Int) - 1) = (ys.length : Int) - 1 := wrap_i64 (by omega) (by omega)
  simp -implicitDefEqProofs only [List.getElem?_cons_zero, List.getElem?_cons_succ, hint_md, List.contains_nil, Nat.reduceBEq, awp_seq, awp_block, awp_reg, awp_exit, seqQ_n, seqQ_e, blk_e, rnd_e, WW_one, WW_nil, frz_nil, ownOp, wc_app, wcont_s, upd_app, ev_tmp, ev_const, av_int, av_nil, x_move, x_assign, x_bin, x_len, holdsO_ofO, bin_sub, ↓reduceIte, Nat.reduceEqDiff, Option.getD_some, Bool.not_false, enP, ln22, hint_fz1, Bool.false_eq_true, f0, List.length_map, w1]
  refine awp_loop (fun q F H => q ≤ ys.length ∧ F 0 = .sl m2 2 (ys.map encR) ∧ F 5 = .sl mn 2 (n.map encR) ∧ F 13 = .int .i64 ((q : Nat) - 1 : Int) ∧ backSt ys h q (F 12) H ∧ ext h H) ys.length
    ⟨Nat.le_refl _, by simp -implicitDefEqProofs only [List.getElem?_cons_zero, List.getElem?_cons_succ, upd_app, ↓reduceIte, Nat.reduceEqDiff, f0], by simp -implicitDefEqProofs only [List.getElem?_cons_zero, List.getElem?_cons_succ, upd_app, ↓reduceIte, Nat.reduceEqDiff, f5], by simp -implicitDefEqProofs only [List.getElem?_cons_zero, List.getElem?_cons_succ, upd_app, ↓reduceIte], .inl ⟨rfl, by simp -implicitDefEqProofs only [List.getElem?_cons_zero, List.getElem?_cons_succ, upd_app, ↓reduceIte, Nat.reduceEqDiff]⟩, hex⟩ ?_
  clear f0 f5 hex w1
  rintro q F H ⟨hq, f0, f5, f13, hst, hex⟩
  simp -implicitDefEqProofs only [List.getElem?_cons_zero, List.getElem?_cons_succ, hint_md, List.contains_nil, Nat.reduceBEq, awp_seq, awp_reg, awp_cond, seqQ_n, WW_one, WW_nil, frz_nil, ownOp, wc_app, wcont_s, upd_app, ev_tmp, ev_const, av_int, x_move, x_bin, holdsO_ofO, bin_geq, ↓reduceIte, Option.getD_some, Bool.not_false, enP, hint_fz1, Bool.false_eq_true, f13]
  refine cond_of (fun hd => ?_) (fun hd => ?_)
  · have hq0 : 0 < q := by simp at hd; omega
    have hq1 : q - 1 < ys.length := by omega
    have ei : ((q : Int) - 1) = ((q - 1 : Nat) : Int) := by omega
    have w2 : IntKind.i64.wrap (((q - 1 : Nat) : Int) - 1) = ((q - 1 : Nat) : Int) - 1 := wrap_i64 (by omega) (by omega)
    have er : aLoad Tryd.prog H 33 (.fptr 2 (ys.map encR) (q - 1) 0) = some (.agg (encR ys[q - 1])) := load_mapA ag33 sz33 encR_len hq1
    have hdr : ys.drop (q - 1) = ys[q - 1] :: ys.drop q := by rw [List.drop_eq_getElem_cons hq1, show q - 1 + 1 = q by omega]
    have h1 : ([encR ys[q - 1]] : List (List AV)) ≠ [] := by simp
    refine Or.elim hst (fun hh => ?_) (fun hh => ?_)
    · have hql := hh.1
      have f12 := hh.2
      simp -implicitDefEqProofs only [List.getElem?_cons_zero, List.getElem?_cons_succ, evp_nil, evp_cons, hint_md, List.contains_nil, Nat.reduceBEq, awp_seq, awp_block, awp_reg, awp_skip, seqQ_n, blk_n, rnd_n, WW_one, WW_nil, frz_nil, ownOp, wc_app, wcont_s, upd_app, ev_tmp, ev_const, av_int, x_move, x_assign, x_buildSlice, x_load, x_bin, x_indexAddr, x_append, holdsO_some, holdsO_ofO, bin_sub, ↓reduceIte, Nat.reduceEqDiff, Option.getD_some, Bool.not_false, enP, ix22, hint_fz1, Bool.false_eq_true, f12, f0, f13, ei, ix_map hq1, er, bs22_1, app_nil ud22 sz33 zs22 by22 (conts_sl H .full 2 [encR ys[q - 1]]) h1 (room_of (by simp) (by omega)), w2]
      refine ⟨q - 1, by omega, by omega, trivial, f5, rfl, .inr ⟨by omega, _, hex.le, ?_, ?_⟩, hex.app _⟩
      · congr 1; simp; omega
      · have hd0 : ys.drop q = [] := by rw [hql]; exact List.drop_length
        rw [hdr, hd0]; simp
    · obtain ⟨hql, o, ho1, f12, ho⟩ := hh
      have hcn : conts H (.own o 0 (ys.length - q)) = some (2, (ys.drop q).reverse.map encR) := by
        rw [conts_own ho (by simp), List.drop_zero, List.take_of_length_le (by simp)]
      simp -implicitDefEqProofs only [List.getElem?_cons_zero, List.getElem?_cons_succ, evp_nil, evp_cons, hint_md, List.contains_nil, Nat.reduceBEq, awp_seq, awp_block, awp_reg, awp_skip, seqQ_n, blk_n, rnd_n, WW_one, WW_nil, frz_nil, ownOp, wc_app, wcont_s, upd_app, ev_tmp, ev_const, av_int, x_move, x_assign, x_buildSlice, x_load, x_bin, x_indexAddr, x_append, holdsO_some, holdsO_ofO, bin_sub, ↓reduceIte, Nat.reduceEqDiff, Option.getD_some, Bool.not_false, enP, ix22, hint_fz1, Bool.false_eq_true, f12, f0, f13, ei, ix_map hq1, er, bs22_1, app_own ud22 sz33 zs22 by22 hcn (conts_sl H .full 2 [encR ys[q - 1]]) h1 (room_of (by simp; omega) (by omega)), w2]
      refine ⟨q - 1, by omega, by omega, trivial, f5, rfl, .inr ⟨by omega, (H.set o .dead).length, by simp; exact hex.le, ?_, ?_⟩, (hex.set ho1 _).app _⟩
      · simp; omega
      · rw [hdr]; simp
  · have hq0 : q = 0 := by simp at hd; omega
    have fin : ∀ (mb : SM) (rows : List (List AV)) (H' : Hp), ext h H' → rows = ys.reverse.map encR → PCall (En G) 12 [.sl mb 2 rows] H' (.sl (nm n) 2 (n.map encR)) := fun mb rows H' _ e => by
      subst e
      have := normal_prog' G ys.reverse mb H' (by simp; omega)
      rw [hrev] at this; exact this
    refine Or.elim hst (fun hh => ?_) (fun hh => ?_)
    · have f12 := hh.2
      have hy : ys = [] := List.length_eq_zero_iff.1 (by omega)
      have hnil : PCall (En G) 12 [.sl .nil 0 []] H (.sl (nm n) 2 (n.map encR)) := (fin .nil [] H hex (by rw [hy]; rfl)).args (CvRL.cons (CvR.sl (Cv.nil 0 2)) CvRL.nil)
      simp -implicitDefEqProofs only [List.getElem?_cons_zero, List.getElem?_cons_succ, hint_md, List.contains_nil, Nat.reduceBEq, awp_seq, awp_reg, awp_exit, seqQ_n, seqQ_e, blk_e, rnd_e, WW_one, frz_nil, ownOp, wc_app, wcont_s, upd_app, ev_tmp, ev_func, x_move, X1_call, callA_fn, List.map_cons, List.map_nil, List.append_nil, ↓reduceIte, Nat.reduceEqDiff, Option.getD_some, Bool.not_false, hint_fz1, Bool.false_eq_true, frz_cons, frz_sl1 (H := H) (i := 12) (k := 0) (m := .nil) (xs := []), f12]
      refine hnil.use ?_
      simp -implicitDefEqProofs only [List.getElem?_cons_zero, List.getElem?_cons_succ, hint_md, List.contains_nil, Nat.reduceBEq, WW_one, frz_nil, ownOp, wc_app, wcont_s, upd_app, ev_tmp, ev_func, x_move, X1_call, callA_fn, List.map_cons, List.map_nil, List.append_nil, ↓reduceIte, Nat.reduceEqDiff, Option.getD_some, Bool.not_false, hint_fz1, Bool.false_eq_true, f5]
      refine (same_ref G n n _ _ H (by omega)).use ?_
      simp -implicitDefEqProofs only [List.getElem?_cons_zero, List.getElem?_cons_succ, hint_md, List.contains_nil, Nat.reduceBEq, WW_one, WW_guardE, GX_some, gdstO, G1_tt, frz_nil, ownOp, wc_app, wcont_s, upd_app, ev_tmp, ev_func, x_move, X1_call, callA_fn, List.map_nil, List.append_nil, ↓reduceIte, Option.getD_some, Bool.not_false, decide_true, hint_fz1, Bool.false_eq_true]
      refine (awake G hG H).use ?_
      simp -implicitDefEqProofs only [List.getElem?_cons_zero, List.getElem?_cons_succ, hint_md, List.contains_nil, Nat.reduceBEq, awp_ret, seqQ_n, end_r, WW_one, WW_nil, frz_nil, ownOp, wc_app, wcont_s, upd_app, ev_tmp, ev_const, av_bool, x_assign, x_pick, pick_t, ↓reduceIte, Nat.reduceEqDiff, Option.getD_some, Bool.not_false, hint_fz1, Bool.false_eq_true]
      exact ⟨trivial, hex⟩
    · obtain ⟨hql, o, ho1, f12, ho⟩ := hh
      subst hq0
      have hz := frz_own1 (i := 12) (off := 0) (len := ys.length - 0) ho (by simp) (by rw [List.drop_zero, List.take_of_length_le (by simp)]; exact frR _)
      rw [List.drop_zero, List.take_of_length_le (by simp)] at hz
      simp -implicitDefEqProofs only [List.getElem?_cons_zero, List.getElem?_cons_succ, hint_md, List.contains_nil, Nat.reduceBEq, awp_seq, awp_reg, awp_exit, seqQ_n, seqQ_e, blk_e, rnd_e, WW_one, frz_nil, ownOp, wc_app, wcont_s, upd_app, ev_tmp, ev_func, x_move, X1_call, callA_fn, List.map_cons, List.map_nil, List.append_nil, ↓reduceIte, Nat.reduceEqDiff, Option.getD_some, Bool.not_false, hint_fz1, Bool.false_eq_true, frz_cons, hz, f12]
      refine (fin .any _ _ (hex.set ho1 _) (by simp)).use ?_
      simp -implicitDefEqProofs only [List.getElem?_cons_zero, List.getElem?_cons_succ, hint_md, List.contains_nil, Nat.reduceBEq, WW_one, frz_nil, ownOp, wc_app, wcont_s, upd_app, ev_tmp, ev_func, x_move, X1_call, callA_fn, List.map_cons, List.map_nil, List.append_nil, ↓reduceIte, Nat.reduceEqDiff, Option.getD_some, Bool.not_false, hint_fz1, Bool.false_eq_true, f5]
      refine (same_ref G n n _ _ _ (by omega)).use ?_
      simp -implicitDefEqProofs only [List.getElem?_cons_zero, List.getElem?_cons_succ, hint_md, List.contains_nil, Nat.reduceBEq, WW_one, WW_guardE, GX_some, gdstO, G1_tt, frz_nil, ownOp, wc_app, wcont_s, upd_app, ev_tmp, ev_func, x_move, X1_call, callA_fn, List.map_nil, List.append_nil, ↓reduceIte, Option.getD_some, Bool.not_false, decide_true, hint_fz1, Bool.false_eq_true]
      refine (awake G hG _).use ?_
      simp -implicitDefEqProofs only [List.getElem?_cons_zero, List.getElem?_cons_succ, hint_md, List.contains_nil, Nat.reduceBEq, awp_ret, seqQ_n, end_r, WW_one, WW_nil, frz_nil, ownOp, wc_app, wcont_s, upd_app, ev_tmp, ev_const, av_bool, x_assign, x_pick, pick_t, ↓reduceIte, Nat.reduceEqDiff, Option.getD_some, Bool.not_false, hint_fz1, Bool.false_eq_true]
      exact ⟨trivial, hex.set ho1 _⟩
end Go.Proofs.YtpdohkcjhphibaaDoor.Bins
