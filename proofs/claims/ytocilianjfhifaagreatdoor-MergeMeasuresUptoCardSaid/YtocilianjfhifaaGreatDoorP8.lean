/- Part 8 of the proof (N2, N3, N4, N5, N6, N7, N8, N9); no condition. -/
import Derived.Test.YtocilianjfhifaaGreatDoorP7
set_option linter.unusedVariables false
/- Tuple and Excluded of layer 47: the program; no condition but the bounds on lengths. -/
set_option linter.unusedSimpArgs false
set_option maxRecDepth 8000
namespace Go.Proofs.YtocilianjfhifaaGreatDoor.Cov
open Go Go.Proofs Go.Proofs.YtocilianjfhifaaGreatDoor.Sm Go.Proofs.YtocilianjfhifaaGreatDoor.Bins Go.RowKit

theorem cp56 {H : Hp} {o n : Nat} {rows ys : List (List AV)} {s : SM} (ho : H[o]? = some (.live 1 rows)) (hr : rows.length = n) (hy : ys.length = n) : aCopy Tryz.prog H 57 (.own o 0 n) (.sl s 1 ys) = some (.int .i64 (n : Int), H.set o (.live 1 ys)) := by
  have hrs : rowsSet rows 0 ys = ys := by
    unfold rowsSet
    rw [List.take_zero, List.nil_append, List.drop_eq_nil_of_le (by omega), List.append_nil]
  have h1 : min (n : Int) (n : Int) = (n : Int) := by omega
  unfold aCopy
  simp only [ud57, sz3, conts_sl, ho]
  rw [if_pos ⟨trivial, .inl trivial, by omega⟩]
  simp [hy, hrs, List.take_of_length_le (Nat.le_of_eq hy)]
/-- a pair of a list of the call's own and a truth value, as its caller sees it -/
theorem pair_pure {E : Env} {f : FuncId} {args : List AV} {h : Hp} {ys : List Nat} {b : Bool} (hc : ACalls E f args h fun v H => ext h H ∧ ∃ o, h.length ≤ o ∧ v = .tup [.own o 0 ys.length, .bool b] ∧ H[o]? = some (.live 1 (ys.map encN))) :
    PCall E f args h (.tup [.sl .any 1 (ys.map encN), .bool b]) := by
  refine ACalls.pure 3 hc ?_
  rintro v H ⟨hex, o, ho1, rfl, ho⟩
  refine ⟨hex, ?_⟩
  show AV.tup [frzF h.length H 2 (.own o 0 ys.length), frzF h.length H 2 (.bool b)] = _
  rw [frz_own frzN ho1 ho]
  rfl
theorem tuple_prog47 (G : Nat → AV) (m : Mo) (i : Nat) (hi : i < m.crs.length) (hg : CrGood m m.crs[i]) (hf : Full m) (K : Nat) (hK : K < prodN (szs m m.crs[i].pts)) (h : Hp) : PCall (En G) 140 [.agg (encM m), .int .i64 (i : Int), .int .i64 (K : Int)] h (.tup [.sl .any 1 ((tupI (szs m m.crs[i].pts) K).map encI), .bool true]) := by
  have hprod := hg.prod
  have hs := hf.szs hg.here
  have hsl := szs_len m m.crs[i].pts
  have hfour := hg.four
  show PCall (En G) 140 _ h (.tup [.sl .any 1 (((tupF (szs m m.crs[i].pts) K).1.map fun n : Nat => (n : Int)).map encI), .bool true])
  rw [← encN_eq]
  refine pair_pure ?_
  rw [tupF_len]
  refine acalls_of (H := Hint.none) (enM G) Tryz.func140 rfl (by kernel_rfl) (by kernel_rfl) (Nat.le_of_ble_eq_true (by kernel_rfl)) ?_
  show awp _ _ _ _ _ (endQ _ [.tmp 6, .tmp 7] _)
  have d0 : decide ((K : Int) < 0) = false := by simp
  simp -implicitDefEqProofs only [awp_seq, awp_reg, seqQ_n, WW_one, WW_nil, WW_guardE, GX_some, gdstO, G1_ff, none_md, none_fz, frz_nil, ownOp, wc_app, wcont_s, upd_app, ev_tmp, ev_const, ev_func, av_int, av_bool, av_nil, x_move, x_assign, x_box, x_load, x_bin, X1_call, callA_fn, holdsO_some, holdsO_ofO, bin_lss, frameOf_zero, frameOf_succ, List.map_cons, List.map_nil, List.append_nil, ↓reduceIte, Nat.reduceEqDiff, Option.getD_some, Bool.not_false, enP, bxM, d0, ldM (top_get h (.live 2 [encM m]))]
  refine (size_prog47 G m i hi hg hf _).use ?_
  have d1 : decide ((K : Int) ≥ ((prodN (szs m m.crs[i].pts) : Nat) : Int)) = false := by simp; omega
  simp -implicitDefEqProofs only [awp_seq, awp_reg, awp_skip, awp_cond, seqQ_n, cond_f, WW_one, WW_nil, WW_guardE, GX_some, gdstO, G1_ff, none_md, none_fz, frz_nil, ownOp, wc_app, wcont_s, upd_app, ev_tmp, ev_const, ev_func, av_bool, x_move, x_pick, pick_f, x_load, x_bin, X1_call, callA_fn, holdsO_ofO, bin_geq, frameOf_zero, frameOf_succ, List.map_cons, List.map_nil, List.append_nil, ↓reduceIte, Nat.reduceEqDiff, Option.getD_some, Bool.not_false, enP, d1, ldM (top_get h (.live 2 [encM m]))]
  refine (ccounts_prog G m i hi hg _).use ?_
  clear d1
  generalize szs m m.crs[i].pts = ns at hs hsl hK hprod ⊢
  have hlt : h.length ≤ (h ++ [ABlk.live 2 [encM m]]).length := by simp
  have he0 : ext h (h ++ [ABlk.live 2 [encM m]]) := (ext.rfl' h).app _
  generalize h ++ [ABlk.live 2 [encM m]] = H at hlt he0 ⊢
  have hcp := cp56 (s := .any) (ys := ns.map encN) (top_get H (.live 1 ((List.replicate ns.length 0).map encN))) (n := ns.length) (by simp) (by simp)
  rw [top_set] at hcp
  simp -implicitDefEqProofs only [awp_seq, awp_block, awp_reg, seqQ_n, WW_one, WW_nil, none_md, none_fz, frz_nil, ownOp, wc_app, wcont_s, upd_app, ev_tmp, ev_const, av_int, x_move, x_assign, x_bin, x_makeSlice, x_len, x_copy, holdsO_some, holdsO_ofO, bin_sub, ↓reduceIte, Nat.reduceEqDiff, Option.getD_some, Bool.not_false, enP, ln57, List.length_map, mk56 H ns.length (by omega), hcp]
  rw [wrap_i64 (n := (ns.length : Int) - 1) (by omega) (by omega)]
  refine awp_loop (fun n F H' => ∃ j, n = j ∧ j ≤ ns.length ∧ F 8 = .sl .any 1 (ns.map encN) ∧ F 9 = .own H.length 0 ns.length ∧ F 10 = .int .i64 ((j : Int) - 1) ∧ F 2 = .int .i64 ((tupF (ns.drop j) K).2 : Nat) ∧ ext h H' ∧ H'[H.length]? = some (.live 1 ((ns.take j ++ (tupF (ns.drop j) K).1).map encN))) ns.length ⟨ns.length, rfl, Nat.le_refl _, by simp -implicitDefEqProofs only [upd_app, ↓reduceIte, Nat.reduceEqDiff], by simp -implicitDefEqProofs only [upd_app, ↓reduceIte, Nat.reduceEqDiff], by simp -implicitDefEqProofs only [upd_app, ↓reduceIte], by simp -implicitDefEqProofs only [upd_app, frameOf_zero, frameOf_succ, ↓reduceIte, Nat.reduceEqDiff]; rw [List.drop_eq_nil_of_le (Nat.le_refl _)]; rfl, he0.app _, ?_⟩ ?_
  · rw [List.drop_eq_nil_of_le (Nat.le_refl _), List.take_of_length_le (Nat.le_refl _)]
    simp only [tupF, List.append_nil]
    exact top_get _ _
  rintro n F H' ⟨j, rfl, hj, f8, f9, f10, f2, he, ho⟩
  simp -implicitDefEqProofs only [awp_seq, awp_reg, awp_cond, seqQ_n, WW_one, WW_nil, none_md, none_fz, frz_nil, ownOp, wc_app, wcont_s, upd_app, ev_tmp, ev_const, av_int, x_move, x_bin, holdsO_ofO, bin_geq, ↓reduceIte, Option.getD_some, Bool.not_false, enP, f10]
  cases n with
  | zero =>
    have : decide ((((0 : Nat) : Int) - 1) ≥ 0) = false := by decide
    simp -implicitDefEqProofs only [awp_seq, awp_reg, awp_ret, awp_exit, seqQ_n, seqQ_e, blk_e, rnd_e, end_r2, cond_f, WW_one, WW_nil, none_md, none_fz, frz_nil, ownOp, wc_app, wcont_s, upd_app, ev_tmp, ev_const, av_bool, x_move, x_assign, ↓reduceIte, Nat.reduceEqDiff, Option.getD_some, Bool.not_false, this, f9]
    rw [List.take_zero, List.nil_append, List.drop_zero] at ho
    exact ⟨he, H.length, hlt, rfl, ho⟩
  | succ j =>
    have hd : decide ((j : Int) ≥ 0) = true := by simp
    have hj' : j < ns.length := by omega
    have h1 := (hs _ (List.getElem_mem hj')).1
    have e1 : (((j + 1 : Nat) : Int) - 1) = (j : Int) := by omega
    have hst := tup_step (K := K) hj'
    have hle := tupF_le (ns.drop (j + 1)) K
    generalize hr : (tupF (ns.drop (j + 1)) K) = r at ho f2 hst hle
    have hrow : ∃ v, ((ns.take (j + 1) ++ r.1).map encN)[j]? = some [v] := by
      refine ⟨.int .i64 ns[j], ?_⟩
      rw [List.getElem?_map, List.getElem?_append_left (by simp; omega), List.getElem?_take_of_lt (by omega), List.getElem?_eq_getElem hj']
      rfl
    have hset := set_step (f := encN) (pre := ns) (out := r.1) (j := j) (x := r.2 % ns[j]) hj'
    simp -implicitDefEqProofs only [awp_seq, awp_block, awp_reg, awp_skip, seqQ_n, blk_n, rnd_n, cond_t, WW_one, WW_nil, none_md, none_fz, frz_nil, ownOp, wc_app, wcont_s, wcont_n, upd_app, ev_tmp, ev_const, av_int, x_move, x_assign, x_load, x_store, x_bin, x_indexAddr, holdsO_ofO, holdsO_ofS, bin_sub, ↓reduceIte, Nat.reduceEqDiff, Nat.zero_add, Option.getD_some, Bool.not_false, enP, ix57, Option.getD_none, hd, f2, f8, f9, f10, e1, ix_map hj', load_map ag3 hj', encN0, ix_own ho hj', rem_nat _ _ h1, quo_nat _ _ h1 (show r.2 ≤ 9223372036854775807 by omega), st_own ho hrow, hset]
    refine ⟨j, by omega, j, rfl, by omega, trivial, trivial, ?_, ?_, he.set hlt _, ?_⟩
    · rw [wrap_i64 (by omega) (by omega)]
    · rw [hst]
    · rw [hst]; exact get_set_eq ho
theorem excluded_fn (G : Nat → AV) (l : List Int) (s : SM) (b : Nat) (r : Is) (h : Hp) (hb : h[b]? = some (.live 1 [[.sl s 1 (l.map encI)]])) (hl : l.length ≤ 1099511627776) :
    PCall (En G) 187 [.sl r.m 1 (r.l.map encI), .ptr b 0 0] h (.bool (eqL r.l l)) := by
  refine acalls_of (H := Hint.none) (enM G) Tryz.func187 rfl (by kernel_rfl) (by kernel_rfl) (Nat.le_of_ble_eq_true (by kernel_rfl)) ?_
  show awp _ _ _ _ _ (endQ _ [.tmp 3] _)
  simp -implicitDefEqProofs only [awp_seq, awp_reg, seqQ_n, WW_one, WW_nil, none_md, none_fz, frz_nil, ownOp, wc_app, wcont_s, upd_app, ev_tmp, ev_const, ev_func, av_bool, x_move, x_assign, x_load, X1_call, callA_fn, holdsO_ofO, frameOf_zero, frameOf_succ, List.map_cons, List.map_nil, List.append_nil, ↓reduceIte, Nat.reduceEqDiff, Option.getD_some, Bool.not_false, enP, ld_cell ag57 hb]
  refine (equal_prog G r.l l r.m s h hl).use ?_
  simp -implicitDefEqProofs only [awp_ret, seqQ_n, end_r, WW_one, WW_nil, none_md, none_fz, frz_nil, ownOp, wc_app, wcont_s, upd_app, ev_tmp, x_assign, ↓reduceIte, Option.getD_some, Bool.not_false]
  exact ⟨trivial, trivial⟩
theorem excluded_prog (G : Nat → AV) (m : Mo) (i : Nat) (hi : i < m.crs.length) (hg : CrGood m m.crs[i]) (l : List Int) (s : SM) (hin : insT (szs m m.crs[i].pts) l = true) (h : Hp) : PCall (En G) 141 [.agg (encM m), .int .i64 (i : Int), .sl s 1 (l.map encI)] h (.bool (!hitB m m.crs[i] l)) := by
  refine ACalls.pure0 rfl ?_
  have hh := hg.here
  have hfour := hg.four
  have hnum := hg.num
  have hlen : l.length = m.crs[i].pts.length := by have := insT_len hin; rw [szs_len] at this; omega
  refine acalls_of (H := Hint.none) (enM G) Tryz.func141 rfl (by kernel_rfl) (by kernel_rfl) (Nat.le_of_ble_eq_true (by kernel_rfl)) ?_
  show awp _ _ _ _ _ (endQ _ [.tmp 6] _)
  have gm : (h ++ [ABlk.live 2 [encM m]] ++ [ABlk.live 1 [[.sl s 1 (l.map encI)]]])[h.length]? = some (.live 2 [encM m]) := below_get (top_get _ _)
  have gl := top_get (h ++ [ABlk.live 2 [encM m]]) (.live 1 [[.sl s 1 (l.map encI)]])
  have hx : ∃ x, h ++ [ABlk.live 2 [encM m]] ++ [ABlk.live 1 [[.sl s 1 (l.map encI)]]] = h ++ x := ⟨_, List.append_assoc _ _ _⟩
  simp -implicitDefEqProofs only [box_sl, awp_seq, awp_reg, seqQ_n, WW_one, WW_nil, none_md, none_fz, frz_nil, ownOp, wc_app, wcont_s, upd_app, ev_tmp, ev_const, av_bool, x_assign, x_box, x_load, holdsO_some, frameOf_zero, frameOf_succ, ↓reduceIte, Nat.reduceEqDiff, Option.getD_some, Bool.not_false, enP, bxM]
  generalize h ++ [ABlk.live 2 [encM m]] ++ [ABlk.live 1 [[.sl s 1 (l.map encI)]]] = H at gm gl hx ⊢
  generalize (h ++ [ABlk.live 2 [encM m]]).length = lb at gl ⊢
  simp -implicitDefEqProofs only [WW_one, none_md, none_fz, frz_nil, ownOp, wc_app, wcont_s, upd_app, ev_tmp, ev_func, x_move, x_load, X1_call, callA_fn, holdsO_ofO, frameOf_zero, frameOf_succ, List.map_cons, List.map_nil, List.append_nil, ↓reduceIte, Nat.reduceEqDiff, Option.getD_some, Bool.not_false, enP, ldM gm, ld_cell ag57 gl]
  refine (index_prog47 G m i hi hg l s hin _).use ?_
  simp -implicitDefEqProofs only [List.getElem?_cons_zero, List.getElem?_cons_succ, awp_seq, awp_block, awp_reg, awp_skip, awp_cond, seqQ_n, cond_f, WW_one, WW_nil, none_md, none_fz, frz_nil, ownOp, wc_app, wcont_s, upd_app, ev_tmp, ev_const, av_int, x_move, x_assign, x_load, x_un, x_fieldAddr, x_indexAddr, x_extract, ext_tup, x_len, holdsO_ofO, un_not, frameOf_zero, frameOf_succ, ↓reduceIte, Nat.reduceEqDiff, Nat.zero_add, Option.getD_some, Bool.not_true, Bool.not_false, enP, ix23, fa25_1, ln57, fa71_1, ldM1 gm, ix_map hi, load_map ag57 hi, encC1, List.length_map]
  have hkb := kindsB_step m m.crs[i].pts l
  refine awp_lp 0 (fun F H' => F 1 = .int .i64 (i : Nat) ∧ F 3 = .ptr h.length 0 0 ∧ F 5 = .ptr lb 0 0 ∧ H' = H ∧ kindsB m m.crs[i].pts l = true) (fun F H' => F 6 = .bool true ∧ H' = H ∧ kindsB m m.crs[i].pts l = false) ?_ ?_ ?_
  · refine awp_loop (fun n F H' => ∃ k, n + k = l.length ∧ F 1 = .int .i64 (i : Nat) ∧ F 3 = .ptr h.length 0 0 ∧ F 5 = .ptr lb 0 0 ∧ F 25 = .sl m.crs[i].pm 1 (m.crs[i].pts.map encI) ∧ F 26 = .int .i64 m.crs[i].pts.length ∧ F 27 = .int .i64 (k : Nat) ∧ H' = H ∧ kindsB m m.crs[i].pts l = kindsB m (m.crs[i].pts.drop k) (l.drop k)) l.length ⟨0, by simp, by simp -implicitDefEqProofs only [upd_app, frameOf_zero, frameOf_succ, ↓reduceIte, Nat.reduceEqDiff], by simp -implicitDefEqProofs only [upd_app, ↓reduceIte, Nat.reduceEqDiff], by simp -implicitDefEqProofs only [upd_app, ↓reduceIte, Nat.reduceEqDiff], by simp -implicitDefEqProofs only [upd_app, ↓reduceIte, Nat.reduceEqDiff], by simp -implicitDefEqProofs only [upd_app, ↓reduceIte, Nat.reduceEqDiff], by simp -implicitDefEqProofs only [upd_app, ↓reduceIte]; rfl, rfl, rfl⟩ ?_
    rintro n F H' ⟨k, hk, f1, f3, f5, f25, f26, f27, rfl, hk0⟩
    simp -implicitDefEqProofs only [awp_seq, awp_reg, awp_cond, seqQ_n, WW_one, WW_nil, none_md, none_fz, frz_nil, ownOp, wc_app, wcont_s, upd_app, ev_tmp, x_bin, holdsO_ofO, bin_lss, ↓reduceIte, Option.getD_some, Bool.not_false, enP, f26, f27]
    refine cond_of (fun hc => ?_) (fun hc => ?_)
    · have hkc : k < m.crs[i].pts.length := by simpa using hc
      have hk' : k < l.length := by omega
      rw [hkb k hkc hk'] at hk0
      obtain ⟨h0, h1⟩ := insT_at hin k hk' hkc
      obtain ⟨s2, ls⟩ := hh.ld hkc H'
      have hlt : l[k].toNat < (binsAt m m.crs[i].pts[k]).length := by omega
      simp -implicitDefEqProofs only [awp_seq, awp_block, awp_reg, awp_skip, seqQ_n, WW_one, WW_nil, none_md, none_fz, frz_nil, ownOp, wc_app, wcont_s, upd_app, ev_tmp, x_move, x_assign, x_load, x_indexAddr, holdsO_ofO, ↓reduceIte, Nat.reduceEqDiff, Option.getD_some, Bool.not_false, enP, ix57, f25, f27, ix_map hkc, load_map ag3 hkc, encI0]
      refine awp_draw (by kernel_rfl) ?_
      simp -implicitDefEqProofs only [YO_f, dc_app, dcont_s, DD_nil, DD_one, y_move, y_load, y_bin, y_fieldAddr, y_indexAddr, awp_cond, seqQ_n, none_md, upd_app, ev_tmp, ev_const, av_int, x_load, x_bin, x_fieldAddr, x_indexAddr, holdsO_ofO, bin_neq, ↓reduceIte, Nat.reduceEqDiff, Nat.reduceAdd, Nat.add_zero, Nat.zero_add, Option.getD_some, enP, ix22, fa25_0, ix54, fa56_2, ix57, fa121_1, bne, f3, f5, f27, ldM0 gm, hh.ix hkc, ls, ld_cell ag57 gl, ix_map hk', load_map ag3 hk', encI0, bin_ix h0 h1, load_map ag3 hlt, encB1, bin_kind h0 h1]
      cases hkd : (kindAt m m.crs[i].pts[k] l[k] == 0)
      · simp -implicitDefEqProofs only [awp_seq, awp_reg, awp_ret, seqQ_n, seqQ_r, blk_r, lp_r, rnd_r, cond_t, WW_one, WW_nil, none_md, none_fz, frz_nil, ownOp, wc_app, wcont_s, upd_app, ev_const, av_bool, x_assign, ↓reduceIte, Option.getD_some, Bool.not_false]
        exact ⟨trivial, trivial, by rw [hk0, hkd]; rfl⟩
      · simp -implicitDefEqProofs only [awp_reg, awp_skip, seqQ_n, blk_n, rnd_n, cond_f, WW_one, WW_nil, none_md, none_fz, frz_nil, ownOp, wc_app, wcont_s, upd_app, ev_tmp, ev_const, av_int, x_move, x_bin, holdsO_ofO, bin_add, ↓reduceIte, Nat.reduceEqDiff, Option.getD_some, Bool.not_true, Bool.not_false, enP, f27, wrap_succ (show k < 9223372036854775807 by omega)]
        exact ⟨n - 1, by omega, k + 1, by omega, f1, f3, f5, f25, f26, rfl, trivial, by rw [hk0, hkd]; rfl⟩
    · have hk' : ¬ k < m.crs[i].pts.length := by simpa using hc
      simp -implicitDefEqProofs only [awp_exit, seqQ_e, lp_e, rnd_e, upd_app, ↓reduceIte, Nat.reduceEqDiff]
      exact ⟨f1, f3, f5, trivial, by rw [hk0, List.drop_eq_nil_of_le (show l.length ≤ k by omega), kindsB_nil]⟩
  · rintro F H' ⟨f1, f3, f5, rfl, hk⟩
    simp -implicitDefEqProofs only [awp_seq, awp_reg, seqQ_n, blk_e, WW_one, none_md, none_fz, frz_nil, ownOp, wc_app, wcont_s, upd_app, ev_tmp, ev_func, x_move, x_load, x_makeFunc, x_fieldAddr, x_indexAddr, X1_call, callA_fn, holdsO_ofO, List.map_cons, List.map_nil, List.append_nil, ↓reduceIte, Nat.reduceEqDiff, Nat.zero_add, Option.getD_some, Bool.not_false, enP, ix23, fa25_1, fa71_2, f1, f3, f5, ldM1 gm, ix_map hi, load_map ag26 hi, encC2]
    refine (containsFunc26 G m.crs[i].excl m.crs[i].xm 187 _ (fun x => eqL x.l l) _ (by omega) fun r => excluded_fn G l s _ r _ gl (by omega)).use ?_
    simp -implicitDefEqProofs only [awp_ret, seqQ_n, end_r, WW_one, WW_nil, none_md, none_fz, frz_nil, ownOp, wc_app, wcont_s, upd_app, ev_tmp, x_assign, ↓reduceIte, Option.getD_some, Bool.not_false]
    exact ⟨by unfold hitB; rw [hk]; simp, hx⟩
  · rintro F H' ⟨f6, rfl, hk⟩
    simp -implicitDefEqProofs only [seqQ_r, blk_r, end_r, f6]
    exact ⟨by unfold hitB; rw [hk]; rfl, hx⟩
end Go.Proofs.YtocilianjfhifaaGreatDoor.Cov
/- Combinations of layer 47: the reference; no condition but the bounds on lengths. -/
set_option linter.unusedSimpArgs false
set_option maxRecDepth 8000
namespace Go.Proofs.YtocilianjfhifaaGreatDoor.Cov
open Go Go.Proofs Go.Proofs.YtocilianjfhifaaGreatDoor.Sm Go.Proofs.YtocilianjfhifaaGreatDoor.Bins Go.RowKit

theorem usable_ref (G : Nat → AV) (m : Mo) (i : Nat) (hi : i < m.crs.length) (hg : CrGood m m.crs[i]) (h : Hp) : PCall (En G) 189 [.agg (encM m), .int .i64 (i : Int)] h (.bool true) := by
  refine ACalls.pure0 rfl ?_
  have hfour := hg.four
  have gm := top_get h (.live 2 [encM m])
  have hx : ∃ x, h ++ [ABlk.live 2 [encM m]] = h ++ x := ⟨_, rfl⟩
  refine acalls_of (H := Hint.none) (enM G) Tryz.func189 rfl (by kernel_rfl) (by kernel_rfl) (Nat.le_of_ble_eq_true (by kernel_rfl)) ?_
  show awp _ _ _ _ _ (endQ _ [.tmp 4] _)
  have d0 : decide ((i : Int) < 0) = false := by simp
  have d1 : decide ((i : Int) ≥ (m.crs.length : Int)) = false := by simp; omega
  simp -implicitDefEqProofs only [awp_seq, awp_block, awp_reg, awp_skip, awp_cond, seqQ_n, cond_f, WW_one, WW_nil, WW_guardE, GX_some, gdstO, G1_ff, none_md, none_fz, frz_nil, ownOp, wc_app, wcont_s, upd_app, ev_tmp, ev_const, av_int, av_bool, x_move, x_assign, x_pick, pick_f, x_box, x_load, x_bin, x_fieldAddr, x_indexAddr, x_len, holdsO_some, holdsO_ofO, bin_lss, bin_geq, frameOf_zero, frameOf_succ, ↓reduceIte, Nat.reduceEqDiff, Nat.zero_add, Option.getD_some, Bool.not_false, enP, ix23, ln23, fa25_1, fa71_1, bxM, d0, ldM1 gm, List.length_map, d1, ix_map hi, load_map ag57 hi, encC1]
  generalize h ++ [ABlk.live 2 [encM m]] = H at gm hx ⊢
  refine awp_loop (fun n F H' => ∃ k, n + k = m.crs[i].pts.length ∧ F 2 = .ptr h.length 0 0 ∧ F 5 = .sl m.crs[i].pm 1 (m.crs[i].pts.map encI) ∧ F 6 = .int .i64 (k : Nat) ∧ H' = H) m.crs[i].pts.length ⟨0, by simp, by simp -implicitDefEqProofs only [upd_app, ↓reduceIte, Nat.reduceEqDiff], by simp -implicitDefEqProofs only [upd_app, ↓reduceIte, Nat.reduceEqDiff], by simp -implicitDefEqProofs only [upd_app, ↓reduceIte]; rfl, rfl⟩ ?_
  rintro n F H' ⟨k, hk, f2, f5, f6, rfl⟩
  simp -implicitDefEqProofs only [awp_seq, awp_reg, awp_cond, seqQ_n, WW_one, WW_nil, none_md, none_fz, frz_nil, ownOp, wc_app, wcont_s, upd_app, ev_tmp, x_move, x_bin, x_len, holdsO_ofO, bin_lss, ↓reduceIte, Nat.reduceEqDiff, Option.getD_some, Bool.not_false, enP, ln57, f5, f6, List.length_map]
  refine cond_of (fun hc => ?_) (fun hc => ?_)
  · have hk' : k < m.crs[i].pts.length := by simpa using hc
    have hb := hg.here _ (List.getElem_mem hk')
    have e0 : decide (m.crs[i].pts[k] < 0) = false := by simp; omega
    have e1 : decide (m.crs[i].pts[k] ≥ (m.pts.length : Int)) = false := by simp; omega
    simp -implicitDefEqProofs only [awp_seq, awp_block, awp_skip, seqQ_n]
    refine awp_draw (by kernel_rfl) ?_
    simp -implicitDefEqProofs only [YO_f, dc_app, dcont_s, DD_nil, DD_one, DD_guardE, GY_some, GD_ff, y_move, y_pick, y_load, y_bin, y_fieldAddr, y_indexAddr, y_builtin, awp_reg, awp_skip, awp_cond, seqQ_n, blk_n, rnd_n, cond_f, WW_one, WW_nil, gdstO, none_md, none_fz, frz_nil, ownOp, wc_app, wcont_s, upd_app, ev_tmp, ev_const, av_int, av_bool, x_move, x_assign, x_pick, pick_f, x_load, x_bin, x_fieldAddr, x_indexAddr, x_len, holdsO_ofO, bin_add, bin_lss, bin_geq, ↓reduceIte, Nat.reduceEqDiff, Nat.reduceAdd, Nat.add_zero, Option.getD_some, Bool.not_false, enP, ln22, fa25_0, ix57, f2, f5, f6, ix_map hk', load_map ag3 hk', encI0, e0, ldM0 gm, List.length_map, e1, wrap_succ (show k < 9223372036854775807 by omega)]
    exact ⟨n - 1, by omega, k + 1, by omega, trivial, trivial, rfl, trivial⟩
  · simp -implicitDefEqProofs only [awp_seq, awp_reg, awp_ret, awp_exit, seqQ_n, seqQ_e, blk_e, rnd_e, end_r, WW_one, WW_nil, none_md, none_fz, frz_nil, ownOp, wc_app, wcont_s, upd_app, ev_const, av_bool, x_assign, ↓reduceIte, Option.getD_some, Bool.not_false]
    exact ⟨trivial, hx⟩
theorem bins_ref47 (G : Nat → AV) (m : Mo) (i : Nat) (hi : i < m.crs.length) (hg : CrGood m m.crs[i]) (k : Nat) (hk : k < m.crs[i].pts.length) (h : Hp) : PCall (En G) 190 [.agg (encM m), .int .i64 (i : Int), .int .i64 (k : Int)] h (.int .i64 ((binsAt m m.crs[i].pts[k]).length : Int)) := by
  refine ACalls.pure0 rfl ?_
  have gm := top_get h (.live 2 [encM m])
  obtain ⟨s, ls⟩ := hg.here.ld hk (h ++ [ABlk.live 2 [encM m]])
  refine acalls_of (H := Hint.none) (enM G) Tryz.func190 rfl (by kernel_rfl) (by kernel_rfl) (Nat.le_of_ble_eq_true (by kernel_rfl)) ?_
  show awp _ _ _ _ _ (endQ _ [.tmp 6] _)
  simp -implicitDefEqProofs only [awp_seq, awp_reg, seqQ_n, WW_one, WW_nil, none_md, none_fz, frz_nil, ownOp, wc_app, wcont_s, ev_tmp, ev_const, av_int, x_assign, x_box, holdsO_some, frameOf_zero, Option.getD_some, Bool.not_false, enP, bxM]
  refine awp_draw (by kernel_rfl) ?_
  simp -implicitDefEqProofs only [YO_f, dc_app, dcont_s, DD_nil, DD_one, y_move, y_assign, y_load, y_fieldAddr, y_indexAddr, y_builtin, awp_ret, seqQ_n, end_r, none_md, upd_app, ev_tmp, x_load, x_fieldAddr, x_indexAddr, x_len, holdsO_ofO, frameOf_zero, frameOf_succ, ↓reduceIte, Nat.reduceEqDiff, Nat.reduceAdd, Nat.add_zero, Nat.zero_add, Option.getD_some, enP, ix22, ix23, fa25_0, fa25_1, ln54, fa56_2, ix57, fa71_1, ldM0 gm, ldM1 gm, ix_map hi, load_map ag57 hi, encC1, ix_map hk, load_map ag3 hk, encI0, hg.here.ix hk, ls, List.length_map]
  exact ⟨trivial, _, rfl⟩
theorem size_ref47 (G : Nat → AV) (m : Mo) (i : Nat) (hi : i < m.crs.length) (hg : CrGood m m.crs[i]) (hf : Full m) (h : Hp) : PCall (En G) 142 [.agg (encM m), .int .i64 (i : Int)] h (.int .i64 (prodN (szs m m.crs[i].pts))) := by
  refine ACalls.pure0 rfl ?_
  have hfour := hg.four
  have hs := hf.szs hg.here
  have hsl := szs_len m m.crs[i].pts
  have hget := szs_get m m.crs[i].pts
  have gm := top_get h (.live 2 [encM m])
  have hx : ∃ x, h ++ [ABlk.live 2 [encM m]] = h ++ x := ⟨_, rfl⟩
  refine acalls_of (H := Hint.none) (enM G) Tryz.func142 rfl (by kernel_rfl) (by kernel_rfl) (Nat.le_of_ble_eq_true (by kernel_rfl)) ?_
  show awp _ _ _ _ _ (endQ _ [.tmp 4] _)
  simp -implicitDefEqProofs only [awp_seq, awp_reg, seqQ_n, WW_one, WW_nil, none_md, none_fz, frz_nil, ownOp, wc_app, wcont_s, upd_app, ev_tmp, ev_const, ev_func, av_int, x_move, x_assign, x_box, x_load, X1_call, callA_fn, holdsO_some, holdsO_ofO, frameOf_zero, frameOf_succ, List.map_cons, List.map_nil, List.append_nil, ↓reduceIte, Nat.reduceEqDiff, Option.getD_some, Bool.not_false, enP, bxM, ldM gm]
  refine (usable_ref G m i hi hg _).use ?_
  simp -implicitDefEqProofs only [awp_seq, awp_block, awp_reg, awp_skip, awp_cond, seqQ_n, cond_f, WW_one, WW_nil, none_md, none_fz, frz_nil, ownOp, wc_app, wcont_s, upd_app, ev_tmp, ev_const, av_int, x_assign, x_un, holdsO_ofO, un_not, ↓reduceIte, Option.getD_some, Bool.not_true, Bool.not_false]
  generalize h ++ [ABlk.live 2 [encM m]] = H at gm hx ⊢
  generalize szs m m.crs[i].pts = l at hs hsl hget ⊢
  have hp : ∀ k, prodN (l.take k) ≤ 16777216 := fun k => by
    have := prodN_le (l.take k) 4 (fun n hn => (hs n (List.mem_of_mem_take hn)).2) (by rw [List.length_take]; omega)
    simpa using this
  refine awp_loop (fun n F H' => ∃ k, n + k = l.length ∧ F 1 = .int .i64 (i : Nat) ∧ F 2 = .ptr h.length 0 0 ∧ F 5 = .int .i64 (prodN (l.take k)) ∧ F 6 = .int .i64 (k : Nat) ∧ H' = H) l.length ⟨0, by simp, by simp -implicitDefEqProofs only [upd_app, frameOf_zero, frameOf_succ, ↓reduceIte, Nat.reduceEqDiff], by simp -implicitDefEqProofs only [upd_app, ↓reduceIte, Nat.reduceEqDiff], by simp -implicitDefEqProofs only [upd_app, ↓reduceIte, Nat.reduceEqDiff]; rfl, by simp -implicitDefEqProofs only [upd_app, ↓reduceIte]; rfl, rfl⟩ ?_
  rintro n F H' ⟨k, hk, f1, f2, f5, f6, rfl⟩
  simp -implicitDefEqProofs only [awp_seq, awp_reg, awp_cond, seqQ_n, WW_one, WW_nil, none_md, none_fz, frz_nil, ownOp, wc_app, wcont_s, upd_app, ev_tmp, x_move, x_load, x_bin, x_fieldAddr, x_indexAddr, x_len, holdsO_ofO, bin_lss, ↓reduceIte, Nat.reduceEqDiff, Nat.zero_add, Option.getD_some, Bool.not_false, enP, ix23, fa25_1, ln57, fa71_1, f1, f2, f6, ldM1 gm, ix_map hi, load_map ag57 hi, encC1, List.length_map]
  refine cond_of (fun hc => ?_) (fun hc => ?_)
  · have hkc : k < m.crs[i].pts.length := by simpa using hc
    have hk' : k < l.length := by omega
    have h1 := hp (k + 1)
    rw [prodN_take l k hk'] at h1
    have hgk : l[k] = (binsAt m m.crs[i].pts[k]).length := getElem_some (hget k hkc)
    have hw : IntKind.i64.wrap ((prodN (l.take k) : Int) * ((binsAt m m.crs[i].pts[k]).length : Int)) = ((prodN (l.take (k + 1)) : Nat) : Int) := by
      rw [← hgk, prodN_take l k hk', ← Int.natCast_mul, wrap_nat (by omega)]
    simp -implicitDefEqProofs only [awp_seq, awp_block, awp_reg, awp_skip, seqQ_n, WW_one, none_md, none_fz, frz_nil, ownOp, wc_app, wcont_s, upd_app, ev_tmp, ev_func, x_move, x_load, X1_call, callA_fn, holdsO_ofO, List.map_cons, List.map_nil, List.append_nil, ↓reduceIte, Nat.reduceEqDiff, Option.getD_some, Bool.not_false, enP, f1, f2, f5, f6, ldM gm]
    refine (bins_ref47 G m i hi hg k hkc _).use ?_
    simp -implicitDefEqProofs only [awp_reg, seqQ_n, blk_n, rnd_n, WW_one, WW_nil, none_md, none_fz, frz_nil, ownOp, wc_app, wcont_s, upd_app, ev_tmp, ev_const, av_int, x_move, x_assign, x_bin, holdsO_ofO, bin_add, bin_mul, ↓reduceIte, Nat.reduceEqDiff, Option.getD_some, Bool.not_false, enP, f6, hw, wrap_succ (show k < 9223372036854775807 by omega)]
    exact ⟨n - 1, by omega, k + 1, by omega, f1, f2, rfl, rfl, trivial⟩
  · have hk' : ¬ k < m.crs[i].pts.length := by simpa using hc
    rw [List.take_of_length_le (by omega)] at f5
    simp -implicitDefEqProofs only [awp_seq, awp_reg, awp_ret, awp_exit, seqQ_n, seqQ_e, blk_e, rnd_e, end_r, WW_one, WW_nil, none_md, none_fz, frz_nil, ownOp, wc_app, wcont_s, upd_app, ev_tmp, x_move, x_assign, ↓reduceIte, Nat.reduceEqDiff, Option.getD_some, Bool.not_false, f5]
    exact ⟨trivial, hx⟩
theorem tuple_ref47 (G : Nat → AV) (m : Mo) (i : Nat) (hi : i < m.crs.length) (hg : CrGood m m.crs[i]) (hf : Full m) (K : Nat) (hK : K < prodN (szs m m.crs[i].pts)) (h : Hp) : PCall (En G) 143 [.agg (encM m), .int .i64 (i : Int), .int .i64 (K : Int)] h (.tup [.sl .any 1 ((tupI (szs m m.crs[i].pts) K).map encI), .bool true]) := by
  have hprod := hg.prod
  have hs := hf.szs hg.here
  have hsl := szs_len m m.crs[i].pts
  have hget := szs_get m m.crs[i].pts
  have hfour := hg.four
  show PCall (En G) 143 _ h (.tup [.sl .any 1 (((tupF (szs m m.crs[i].pts) K).1.map fun n : Nat => (n : Int)).map encI), .bool true])
  rw [← encN_eq]
  refine pair_pure ?_
  rw [tupF_len]
  have gm := top_get h (.live 2 [encM m])
  refine acalls_of (H := Hint.none) (enM G) Tryz.func143 rfl (by kernel_rfl) (by kernel_rfl) (Nat.le_of_ble_eq_true (by kernel_rfl)) ?_
  show awp _ _ _ _ _ (endQ _ [.tmp 6, .tmp 7] _)
  have d0 : decide ((K : Int) < 0) = false := by simp
  simp -implicitDefEqProofs only [awp_seq, awp_reg, seqQ_n, WW_one, WW_nil, WW_guardE, GX_some, gdstO, G1_ff, none_md, none_fz, frz_nil, ownOp, wc_app, wcont_s, upd_app, ev_tmp, ev_const, ev_func, av_int, av_bool, av_nil, x_move, x_assign, x_box, x_load, x_bin, X1_call, callA_fn, holdsO_some, holdsO_ofO, bin_lss, frameOf_zero, frameOf_succ, List.map_cons, List.map_nil, List.append_nil, ↓reduceIte, Nat.reduceEqDiff, Option.getD_some, Bool.not_false, enP, bxM, d0, ldM gm]
  refine (size_ref47 G m i hi hg hf _).use ?_
  have d1 : decide ((K : Int) ≥ ((prodN (szs m m.crs[i].pts) : Nat) : Int)) = false := by simp; omega
  simp -implicitDefEqProofs only [awp_seq, awp_reg, awp_skip, awp_cond, seqQ_n, cond_f, WW_one, WW_nil, WW_guardE, GX_some, gdstO, G1_ff, none_md, none_fz, frz_nil, ownOp, wc_app, wcont_s, upd_app, ev_tmp, ev_const, av_bool, x_move, x_pick, pick_f, x_load, x_bin, x_makeSlice, x_fieldAddr, x_indexAddr, x_len, holdsO_ofO, bin_geq, frameOf_zero, frameOf_succ, ↓reduceIte, Nat.reduceEqDiff, Nat.zero_add, Option.getD_some, Bool.not_false, enP, ix23, fa25_1, ln57, fa71_1, d1, ldM1 gm, ix_map hi, load_map ag57 hi, encC1, List.length_map]
  clear d1
  rw [← hsl]
  generalize szs m m.crs[i].pts = ns at hs hsl hK hprod hget ⊢
  have hlt : h.length < (h ++ [ABlk.live 2 [encM m]]).length := by simp
  have he0 : ext h (h ++ [ABlk.live 2 [encM m]]) := (ext.rfl' h).app _
  generalize h ++ [ABlk.live 2 [encM m]] = H at hlt he0 gm ⊢
  simp -implicitDefEqProofs only [awp_seq, awp_block, awp_reg, seqQ_n, WW_one, WW_nil, none_md, none_fz, frz_nil, ownOp, wc_app, wcont_s, upd_app, ev_tmp, ev_const, av_int, x_move, x_assign, x_bin, x_len, holdsO_some, holdsO_ofO, bin_sub, ↓reduceIte, Option.getD_some, Bool.not_false, enP, ln57, mk56 H ns.length (by omega)]
  rw [wrap_i64 (n := (ns.length : Int) - 1) (by omega) (by omega)]
  refine awp_loop (fun n F H' => ∃ j, n = j ∧ j ≤ ns.length ∧ F 1 = .int .i64 (i : Nat) ∧ F 3 = .ptr h.length 0 0 ∧ F 8 = .own H.length 0 ns.length ∧ F 9 = .int .i64 ((j : Int) - 1) ∧ F 2 = .int .i64 ((tupF (ns.drop j) K).2 : Nat) ∧ H'[h.length]? = some (.live 2 [encM m]) ∧ ext h H' ∧ H'[H.length]? = some (.live 1 (((List.replicate ns.length 0).take j ++ (tupF (ns.drop j) K).1).map encN))) ns.length ⟨ns.length, rfl, Nat.le_refl _, by simp -implicitDefEqProofs only [upd_app, frameOf_zero, frameOf_succ, ↓reduceIte, Nat.reduceEqDiff], by simp -implicitDefEqProofs only [upd_app, ↓reduceIte, Nat.reduceEqDiff], by simp -implicitDefEqProofs only [upd_app, ↓reduceIte, Nat.reduceEqDiff], by simp -implicitDefEqProofs only [upd_app, ↓reduceIte], by simp -implicitDefEqProofs only [upd_app, frameOf_zero, frameOf_succ, ↓reduceIte, Nat.reduceEqDiff]; rw [List.drop_eq_nil_of_le (Nat.le_refl _)]; rfl, below_get gm, he0.app _, ?_⟩ ?_
  · rw [List.drop_eq_nil_of_le (Nat.le_refl _), List.take_of_length_le (by simp)]
    simp only [tupF, List.append_nil]
    exact top_get _ _
  rintro n F H' ⟨j, rfl, hj, f1, f3, f8, f9, f2, gm', he, ho⟩
  simp -implicitDefEqProofs only [awp_seq, awp_reg, awp_cond, seqQ_n, WW_one, WW_nil, none_md, none_fz, frz_nil, ownOp, wc_app, wcont_s, upd_app, ev_tmp, ev_const, av_int, x_move, x_bin, holdsO_ofO, bin_geq, ↓reduceIte, Option.getD_some, Bool.not_false, enP, f9]
  cases n with
  | zero =>
    have : decide ((((0 : Nat) : Int) - 1) ≥ 0) = false := by decide
    simp -implicitDefEqProofs only [awp_seq, awp_reg, awp_ret, awp_exit, seqQ_n, seqQ_e, blk_e, rnd_e, end_r2, cond_f, WW_one, WW_nil, none_md, none_fz, frz_nil, ownOp, wc_app, wcont_s, upd_app, ev_tmp, ev_const, av_bool, x_move, x_assign, ↓reduceIte, Nat.reduceEqDiff, Option.getD_some, Bool.not_false, this, f8]
    rw [List.take_zero, List.nil_append, List.drop_zero] at ho
    exact ⟨he, H.length, Nat.le_of_lt hlt, rfl, ho⟩
  | succ j =>
    have hd : decide ((((j + 1 : Nat) : Int) - 1) ≥ 0) = true := by simp
    have hj' : j < ns.length := by omega
    have hjc : j < m.crs[i].pts.length := by omega
    have hgk : ns[j] = (binsAt m m.crs[i].pts[j]).length := getElem_some (hget j hjc)
    have h1 := (hs _ (List.getElem_mem hj')).1
    have e1 : (((j + 1 : Nat) : Int) - 1) = (j : Int) := by omega
    have hst := tup_step (K := K) hj'
    have hle := tupF_le (ns.drop (j + 1)) K
    generalize hr : (tupF (ns.drop (j + 1)) K) = r at ho f2 hst hle
    have hrow : ∃ v, (((List.replicate ns.length 0).take (j + 1) ++ r.1).map encN)[j]? = some [v] := by
      refine ⟨.int .i64 0, ?_⟩
      rw [List.getElem?_map, List.getElem?_append_left (by simp; omega), List.getElem?_take_of_lt (by omega), List.getElem?_replicate_of_lt hj']
      rfl
    have hset := set_step (f := encN) (pre := List.replicate ns.length 0) (out := r.1) (j := j) (x := r.2 % ns[j]) (by simpa using hj')
    simp -implicitDefEqProofs only [awp_seq, awp_block, awp_reg, awp_skip, seqQ_n, cond_t, WW_one, none_md, none_fz, frz_nil, ownOp, wc_app, wcont_s, upd_app, ev_tmp, ev_func, x_move, x_load, X1_call, callA_fn, holdsO_ofO, List.map_cons, List.map_nil, List.append_nil, ↓reduceIte, Nat.reduceEqDiff, Option.getD_some, Bool.not_false, enP, hd, f1, f3, f9, ldM gm']
    rw [e1]
    refine (bins_ref47 G m i hi hg j hjc _).use ?_
    rw [← hgk]
    simp -implicitDefEqProofs only [awp_seq, awp_reg, seqQ_n, blk_n, rnd_n, WW_one, WW_nil, none_md, none_fz, frz_nil, ownOp, wc_app, wcont_s, wcont_n, upd_app, ev_tmp, ev_const, av_int, x_move, x_assign, x_store, x_bin, x_indexAddr, holdsO_ofO, holdsO_ofS, bin_sub, ↓reduceIte, Nat.reduceEqDiff, Nat.zero_add, Option.getD_some, Bool.not_false, enP, ix57, Option.getD_none, f2, f8, f9, e1, ix_own ho hj', rem_nat _ _ h1, quo_nat _ _ h1 (show r.2 ≤ 9223372036854775807 by omega), st_own ho hrow, hset]
    refine ⟨j, by omega, j, rfl, by omega, f1, f3, trivial, ?_, ?_, get_set_ne gm' (Nat.ne_of_lt hlt), he.set (Nat.le_of_lt hlt) _, ?_⟩
    · rw [wrap_i64 (by omega) (by omega)]
    · rw [hst]
    · rw [hst]; exact get_set_eq ho
theorem index_ref47 (G : Nat → AV) (m : Mo) (i : Nat) (hi : i < m.crs.length) (hg : CrGood m m.crs[i]) (l : List Int) (s : SM) (hin : insT (szs m m.crs[i].pts) l = true) (h : Hp) : PCall (En G) 191 [.agg (encM m), .int .i64 (i : Int), .sl s 1 (l.map encI)] h (.tup [.int .i64 (idxW (szs m m.crs[i].pts) l 0), .bool true]) := by
  have hfour := hg.four
  have hsl := szs_len m m.crs[i].pts
  have hget := szs_get m m.crs[i].pts
  have hlen := insT_len hin
  refine ACalls.pure 2 (R := fun v H => v = .tup [.int .i64 (idxW (szs m m.crs[i].pts) l 0), .bool true] ∧ ∃ x, H = h ++ x) ?_ (fun v h' ⟨e, x⟩ => ⟨x, by subst e; rfl⟩)
  have gm := top_get h (.live 2 [encM m])
  have hx : ∃ x, h ++ [ABlk.live 2 [encM m]] = h ++ x := ⟨_, rfl⟩
  refine acalls_of (H := Hint.none) (enM G) Tryz.func191 rfl (by kernel_rfl) (by kernel_rfl) (Nat.le_of_ble_eq_true (by kernel_rfl)) ?_
  show awp _ _ _ _ _ (endQ _ [.tmp 6, .tmp 7] _)
  simp -implicitDefEqProofs only [awp_seq, awp_reg, seqQ_n, WW_one, WW_nil, none_md, none_fz, frz_nil, ownOp, wc_app, wcont_s, upd_app, ev_tmp, ev_const, ev_func, av_int, av_bool, x_move, x_assign, x_box, x_load, X1_call, callA_fn, holdsO_some, holdsO_ofO, frameOf_zero, frameOf_succ, List.map_cons, List.map_nil, List.append_nil, ↓reduceIte, Nat.reduceEqDiff, Option.getD_some, Bool.not_false, enP, bxM, ldM gm]
  refine (usable_ref G m i hi hg _).use ?_
  have hne : ((l.length : Int) != (m.crs[i].pts.length : Int)) = false := by rw [← hsl, hlen]; simp
  simp -implicitDefEqProofs only [awp_seq, awp_block, awp_reg, awp_skip, awp_cond, seqQ_n, cond_f, WW_one, WW_nil, WW_guardE, GX_some, gdstO, G1_ff, none_md, none_fz, frz_nil, ownOp, wc_app, wcont_s, upd_app, ev_tmp, ev_const, av_int, av_bool, x_move, x_assign, x_pick, pick_f, x_load, x_bin, x_un, x_fieldAddr, x_indexAddr, x_len, holdsO_ofO, bin_neq, un_not, frameOf_zero, frameOf_succ, ↓reduceIte, Nat.reduceEqDiff, Nat.zero_add, Option.getD_some, Bool.not_true, Bool.not_false, enP, ix23, fa25_1, ln57, fa71_1, ldM1 gm, ix_map hi, load_map ag57 hi, encC1, List.length_map, hne]
  generalize h ++ [ABlk.live 2 [encM m]] = H at gm hx ⊢
  generalize szs m m.crs[i].pts = ns at hin hsl hlen hget ⊢
  refine awp_loop (fun n F H' => ∃ k, n + k = l.length ∧ F 1 = .int .i64 (i : Nat) ∧ F 2 = .sl s 1 (l.map encI) ∧ F 3 = .ptr h.length 0 0 ∧ (∃ z, F 8 = .int .i64 z ∧ idxW ns l 0 = idxW (ns.drop k) (l.drop k) z) ∧ F 9 = .int .i64 (k : Nat) ∧ H' = H) l.length ⟨0, by simp, by simp -implicitDefEqProofs only [upd_app, frameOf_zero, frameOf_succ, ↓reduceIte, Nat.reduceEqDiff], by simp -implicitDefEqProofs only [upd_app, frameOf_zero, frameOf_succ, ↓reduceIte, Nat.reduceEqDiff], by simp -implicitDefEqProofs only [upd_app, ↓reduceIte, Nat.reduceEqDiff], ⟨0, rfl, rfl⟩, by simp -implicitDefEqProofs only [upd_app, ↓reduceIte]; rfl, rfl⟩ ?_
  rintro n F H' ⟨k, hk, f1, f2, f3, ⟨z, f8, hz⟩, f9, rfl⟩
  simp -implicitDefEqProofs only [awp_seq, awp_reg, awp_cond, seqQ_n, WW_one, WW_nil, none_md, none_fz, frz_nil, ownOp, wc_app, wcont_s, upd_app, ev_tmp, x_move, x_bin, x_len, holdsO_ofO, bin_lss, ↓reduceIte, Nat.reduceEqDiff, Option.getD_some, Bool.not_false, enP, ln57, f2, f9, List.length_map]
  refine cond_of (fun hc => ?_) (fun hc => ?_)
  · have hk' : k < l.length := by simpa using hc
    have hkn : k < ns.length := by omega
    have hkc : k < m.crs[i].pts.length := by omega
    have hgk : ns[k] = (binsAt m m.crs[i].pts[k]).length := getElem_some (hget k hkc)
    obtain ⟨h0, h1⟩ := insT_get hin k hk' hkn
    have d0 : decide (l[k] < 0) = false := by simp; omega
    have d1 : decide (l[k] ≥ (ns[k] : Int)) = false := by simp; omega
    rw [List.drop_eq_getElem_cons hk', List.drop_eq_getElem_cons hkn] at hz
    simp -implicitDefEqProofs only [awp_seq, awp_block, awp_reg, awp_skip, seqQ_n, WW_one, none_md, none_fz, frz_nil, ownOp, wc_app, wcont_s, upd_app, ev_tmp, ev_func, x_move, x_load, X1_call, callA_fn, holdsO_ofO, List.map_cons, List.map_nil, List.append_nil, ↓reduceIte, Nat.reduceEqDiff, Option.getD_some, Bool.not_false, enP, f1, f3, f9, ldM gm]
    refine (bins_ref47 G m i hi hg k hkc _).use ?_
    rw [← hgk]
    simp -implicitDefEqProofs only [awp_seq, awp_reg, awp_skip, awp_cond, seqQ_n, blk_n, rnd_n, cond_f, WW_one, WW_nil, WW_guardE, GX_some, gdstO, G1_ff, none_md, none_fz, frz_nil, ownOp, wc_app, wcont_s, upd_app, ev_tmp, ev_const, av_int, av_bool, x_move, x_assign, x_pick, pick_f, x_load, x_bin, x_indexAddr, holdsO_ofO, bin_add, bin_mul, bin_lss, bin_geq, ↓reduceIte, Nat.reduceEqDiff, Option.getD_some, Bool.not_false, enP, ix57, f2, f8, f9, ix_map hk', load_map ag3 hk', encI0, d0, d1, wrap_succ (show k < 9223372036854775807 by omega)]
    exact ⟨n - 1, by omega, k + 1, by omega, f1, trivial, f3, ⟨_, rfl, hz⟩, rfl, trivial⟩
  · have hk' : ¬ k < l.length := by simpa using hc
    rw [List.drop_eq_nil_of_le (show l.length ≤ k by omega), idxW_nil] at hz
    simp -implicitDefEqProofs only [awp_seq, awp_reg, awp_ret, awp_exit, seqQ_n, seqQ_e, blk_e, rnd_e, end_r2, WW_one, WW_nil, none_md, none_fz, frz_nil, ownOp, wc_app, wcont_s, upd_app, ev_tmp, ev_const, av_bool, x_move, x_assign, ↓reduceIte, Nat.reduceEqDiff, Option.getD_some, Bool.not_false, f8, hz]
    exact ⟨trivial, hx⟩
theorem excluded_ref (G : Nat → AV) (m : Mo) (i : Nat) (hi : i < m.crs.length) (hg : CrGood m m.crs[i]) (l : List Int) (s : SM) (hin : insT (szs m m.crs[i].pts) l = true) (h : Hp) : PCall (En G) 144 [.agg (encM m), .int .i64 (i : Int), .sl s 1 (l.map encI)] h (.bool (!hitB m m.crs[i] l)) := by
  refine ACalls.pure0 rfl ?_
  have hh := hg.here
  have hfour := hg.four
  have hnum := hg.num
  have hlen : l.length = m.crs[i].pts.length := by have := insT_len hin; rw [szs_len] at this; omega
  refine acalls_of (H := Hint.none) (enM G) Tryz.func144 rfl (by kernel_rfl) (by kernel_rfl) (Nat.le_of_ble_eq_true (by kernel_rfl)) ?_
  show awp _ _ _ _ _ (endQ _ [.tmp 6] _)
  have t := Two.mk' h m m.crs[i]
  simp -implicitDefEqProofs only [awp_seq, awp_reg, seqQ_n, WW_one, WW_nil, none_md, none_fz, frz_nil, ownOp, wc_app, wcont_s, upd_app, ev_tmp, ev_const, ev_func, av_bool, x_move, x_assign, x_box, x_load, X1_call, callA_fn, holdsO_some, holdsO_ofO, frameOf_zero, frameOf_succ, List.map_cons, List.map_nil, List.append_nil, ↓reduceIte, Nat.reduceEqDiff, Option.getD_some, Bool.not_false, enP, bxM, ldM (top_get h (.live 2 [encM m]))]
  refine (index_ref47 G m i hi hg l s hin _).use ?_
  simp -implicitDefEqProofs only [List.getElem?_cons_zero, List.getElem?_cons_succ, awp_seq, awp_block, awp_reg, awp_skip, awp_cond, seqQ_n, cond_f, WW_one, WW_nil, none_md, none_fz, frz_nil, ownOp, wc_app, wcont_s, wcont_n, upd_app, ev_tmp, ev_const, av_int, x_move, x_assign, x_alloc, x_load, x_store, x_un, x_fieldAddr, x_indexAddr, x_extract, ext_tup, holdsO_some, holdsO_ofO, holdsO_ofS, un_not, frameOf_zero, frameOf_succ, ↓reduceIte, Nat.reduceEqDiff, Nat.zero_add, Option.getD_some, Bool.not_true, Bool.not_false, enP, ix23, fa25_1, Option.getD_none, ldM1 (top_get h (.live 2 [encM m])), ix_map hi, load_mapA ag71 sz71 encC_len hi, al82, st82 _ _ [.str ⟨#[]⟩, .sl .nil 0 [], .sl .nil 0 []] rfl]
  generalize h ++ [ABlk.live 2 [encM m]] ++ [ABlk.live 3 [encC m.crs[i]]] = H at t ⊢
  generalize (h ++ [ABlk.live 2 [encM m]]).length = cb at t ⊢
  have hkb := kindsB_step m m.crs[i].pts l
  refine awp_lp 0 (fun F H' => F 2 = .sl s 1 (l.map encI) ∧ F 3 = .ptr h.length 0 0 ∧ F 9 = .ptr cb 0 0 ∧ H' = H ∧ (m.crs[i].excl.any fun x => eqL x.l l) = false) (fun F H' => F 6 = .bool true ∧ H' = H ∧ (m.crs[i].excl.any fun x => eqL x.l l) = true) ?_ ?_ ?_
  · refine awp_loop (fun n F H' => ∃ k, n + k = m.crs[i].excl.length ∧ F 2 = .sl s 1 (l.map encI) ∧ F 3 = .ptr h.length 0 0 ∧ F 9 = .ptr cb 0 0 ∧ F 10 = .int .i64 (k : Nat) ∧ H' = H ∧ (m.crs[i].excl.any fun x => eqL x.l l) = ((m.crs[i].excl.drop k).any fun x => eqL x.l l)) m.crs[i].excl.length ⟨0, by simp, by simp -implicitDefEqProofs only [upd_app, frameOf_zero, frameOf_succ, ↓reduceIte, Nat.reduceEqDiff], by simp -implicitDefEqProofs only [upd_app, ↓reduceIte, Nat.reduceEqDiff], by simp -implicitDefEqProofs only [upd_app, ↓reduceIte, Nat.reduceEqDiff], by simp -implicitDefEqProofs only [upd_app, ↓reduceIte]; rfl, rfl, rfl⟩ ?_
    rintro n F H' ⟨k, hk, f2, f3, f9, f10, rfl, ha⟩
    simp -implicitDefEqProofs only [awp_seq, awp_reg, awp_cond, seqQ_n, WW_one, WW_nil, none_md, none_fz, frz_nil, ownOp, wc_app, wcont_s, upd_app, ev_tmp, x_move, x_load, x_bin, x_fieldAddr, x_len, holdsO_ofO, bin_lss, ↓reduceIte, Nat.reduceEqDiff, Nat.zero_add, Option.getD_some, Bool.not_false, enP, ln26, fa71_2, f9, f10, t.l2, List.length_map]
    refine cond_of (fun hc => ?_) (fun hc => ?_)
    · have hk' : k < m.crs[i].excl.length := by simpa using hc
      have hs := any_step (fun x : Is => eqL x.l l) m.crs[i].excl k hk'
      simp -implicitDefEqProofs only [awp_seq, awp_block, awp_reg, awp_skip, seqQ_n, WW_one, none_md, none_fz, frz_nil, ownOp, wc_app, wcont_s, upd_app, ev_tmp, ev_func, x_move, x_load, x_fieldAddr, x_indexAddr, X1_call, callA_fn, holdsO_ofO, List.map_cons, List.map_nil, List.append_nil, ↓reduceIte, Nat.reduceEqDiff, Nat.zero_add, Option.getD_some, Bool.not_false, enP, ix26, fa71_2, f2, f9, f10, t.l2, ix_map hk', load_map ag57 hk', encL0]
      refine (same47_ref G m.crs[i].excl[k].l l _ s _ (by omega)).use ?_
      simp -implicitDefEqProofs only [awp_cond, seqQ_n, WW_nil, wcont_s, upd_app, ev_tmp, ↓reduceIte]
      cases he : eqL m.crs[i].excl[k].l l
      · simp -implicitDefEqProofs only [awp_reg, awp_skip, seqQ_n, blk_n, rnd_n, cond_f, WW_one, WW_nil, none_md, none_fz, frz_nil, ownOp, wc_app, wcont_s, upd_app, ev_tmp, ev_const, av_int, x_move, x_assign, x_bin, holdsO_ofO, bin_add, ↓reduceIte, Nat.reduceEqDiff, Option.getD_some, Bool.not_false, enP, f10, wrap_succ (show k < 9223372036854775807 by omega)]
        exact ⟨n - 1, by omega, k + 1, by omega, f2, f3, f9, rfl, trivial, by rw [ha, hs, he]; rfl⟩
      · simp -implicitDefEqProofs only [awp_seq, awp_reg, awp_ret, seqQ_n, seqQ_r, blk_r, lp_r, rnd_r, cond_t, WW_one, WW_nil, none_md, none_fz, frz_nil, ownOp, wc_app, wcont_s, upd_app, ev_const, av_bool, x_assign, ↓reduceIte, Option.getD_some, Bool.not_false]
        exact ⟨trivial, trivial, by rw [ha, hs, he]; rfl⟩
    · have hk' : ¬ k < m.crs[i].excl.length := by simpa using hc
      simp -implicitDefEqProofs only [awp_exit, seqQ_e, lp_e, rnd_e, upd_app, ↓reduceIte, Nat.reduceEqDiff]
      exact ⟨f2, f3, f9, trivial, by rw [ha, List.drop_eq_nil_of_le (by omega)]; rfl⟩
  · rintro F H' ⟨f2, f3, f9, rfl, ha⟩
    have hhb : hitB m m.crs[i] l = kindsB m m.crs[i].pts l := by unfold hitB; rw [ha]; simp
    rw [hhb]
    simp -implicitDefEqProofs only [awp_seq, awp_block, awp_reg, seqQ_n, blk_e, WW_one, WW_nil, none_md, none_fz, frz_nil, ownOp, wc_app, wcont_s, ev_const, av_int, x_assign, ↓reduceIte, Option.getD_some, Bool.not_false]
    refine awp_loop (fun n F H => ∃ k, n + k = l.length ∧ F 2 = .sl s 1 (l.map encI) ∧ F 3 = .ptr h.length 0 0 ∧ F 9 = .ptr cb 0 0 ∧ F 11 = .int .i64 (k : Nat) ∧ H = H' ∧ kindsB m m.crs[i].pts l = kindsB m (m.crs[i].pts.drop k) (l.drop k)) l.length ⟨0, by simp, by simp -implicitDefEqProofs only [upd_app, ↓reduceIte, Nat.reduceEqDiff, f2], by simp -implicitDefEqProofs only [upd_app, ↓reduceIte, Nat.reduceEqDiff, f3], by simp -implicitDefEqProofs only [upd_app, ↓reduceIte, Nat.reduceEqDiff, f9], by simp -implicitDefEqProofs only [upd_app, ↓reduceIte]; rfl, rfl, rfl⟩ ?_
    clear f2 f3 f9
    rintro n F H' ⟨k, hk, f2, f3, f9, f11, rfl, hk0⟩
    simp -implicitDefEqProofs only [awp_seq, awp_reg, awp_cond, seqQ_n, WW_one, WW_nil, none_md, none_fz, frz_nil, ownOp, wc_app, wcont_s, upd_app, ev_tmp, x_move, x_bin, x_len, holdsO_ofO, bin_lss, ↓reduceIte, Nat.reduceEqDiff, Option.getD_some, Bool.not_false, enP, ln57, f2, f11, List.length_map]
    refine cond_of (fun hc => ?_) (fun hc => ?_)
    · have hk' : k < l.length := by simpa using hc
      have hkc : k < m.crs[i].pts.length := by omega
      rw [hkb k hkc hk'] at hk0
      obtain ⟨h0, h1⟩ := insT_at hin k hk' hkc
      obtain ⟨s2, ls⟩ := hh.ld hkc H'
      have hlt : l[k].toNat < (binsAt m m.crs[i].pts[k]).length := by omega
      simp -implicitDefEqProofs only [awp_seq, awp_block, awp_skip, seqQ_n]
      refine awp_draw (by kernel_rfl) ?_
      simp -implicitDefEqProofs only [YO_f, dc_app, dcont_s, DD_nil, DD_one, y_move, y_load, y_bin, y_fieldAddr, y_indexAddr, awp_cond, seqQ_n, none_md, upd_app, ev_tmp, ev_const, av_int, x_load, x_bin, x_fieldAddr, x_indexAddr, holdsO_ofO, bin_neq, ↓reduceIte, Nat.reduceEqDiff, Nat.reduceAdd, Nat.add_zero, Nat.zero_add, Option.getD_some, enP, ix22, fa25_0, ix54, fa56_2, ix57, fa71_1, fa121_1, bne, f2, f3, f9, f11, t.lm, t.l1, ix_map hkc, load_map ag3 hkc, ix_map hk', load_map ag3 hk', encI0, hh.ix hkc, ls, bin_ix h0 h1, load_map ag3 hlt, encB1, bin_kind h0 h1]
      cases hkd : (kindAt m m.crs[i].pts[k] l[k] == 0)
      · simp -implicitDefEqProofs only [awp_seq, awp_reg, awp_ret, seqQ_n, seqQ_r, blk_r, rnd_r, end_r, cond_t, WW_one, WW_nil, none_md, none_fz, frz_nil, ownOp, wc_app, wcont_s, upd_app, ev_const, av_bool, x_assign, ↓reduceIte, Option.getD_some, Bool.not_false]
        exact ⟨by rw [hk0, hkd]; rfl, t.hx⟩
      · simp -implicitDefEqProofs only [awp_reg, awp_skip, seqQ_n, blk_n, rnd_n, cond_f, WW_one, WW_nil, none_md, none_fz, frz_nil, ownOp, wc_app, wcont_s, upd_app, ev_tmp, ev_const, av_int, x_move, x_assign, x_bin, holdsO_ofO, bin_add, ↓reduceIte, Nat.reduceEqDiff, Option.getD_some, Bool.not_true, Bool.not_false, enP, f11, wrap_succ (show k < 9223372036854775807 by omega)]
        exact ⟨n - 1, by omega, k + 1, by omega, f2, f3, f9, rfl, trivial, by rw [hk0, hkd]; rfl⟩
    · have hk' : ¬ k < l.length := by simpa using hc
      simp -implicitDefEqProofs only [awp_seq, awp_reg, awp_ret, awp_exit, seqQ_n, seqQ_e, blk_e, rnd_e, end_r, WW_one, WW_nil, none_md, none_fz, frz_nil, ownOp, wc_app, wcont_s, upd_app, ev_const, av_bool, x_assign, ↓reduceIte, Option.getD_some, Bool.not_false]
      exact ⟨by rw [hk0, List.drop_eq_nil_of_le (show l.length ≤ k by omega), kindsB_nil]; rfl, t.hx⟩
  · rintro F H' ⟨f6, rfl, ha⟩
    simp -implicitDefEqProofs only [seqQ_r, blk_r, end_r, f6]
    exact ⟨by unfold hitB; rw [ha]; simp, t.hx⟩
end Go.Proofs.YtocilianjfhifaaGreatDoor.Cov
/- The goals of a model: the program; no condition but the bounds on lengths. -/
namespace Go.Proofs.YtocilianjfhifaaGreatDoor.Cov
open Go Go.Proofs Go.Proofs.YtocilianjfhifaaGreatDoor.Sm Go.Proofs.YtocilianjfhifaaGreatDoor.Bins Go.RowKit

/-- a goal -/
structure Gl where
  cross : Bool
  idx : Nat
  bm : SM
  bins : List Int
  at_ : Nat
def encG (g : Gl) : List AV := [.bool g.cross, .int .i64 (g.idx : Int), .sl g.bm 1 (g.bins.map encI), .int .i64 (g.at_ : Int)]
def encH (g : Gl) : List AV := [.bool g.cross, .int .i64 (g.idx : Int), .sl g.bm 1 (g.bins.map encI)]
theorem encG_len (g : Gl) : (encG g).length = 4 := rfl
theorem encH_len (g : Gl) : (encH g).length = 3 := rfl
theorem frzG : Frz encG := fun _ _ _ _ => ⟨rfl, rfl⟩
theorem frzH : Frz encH := fun _ _ _ _ => ⟨rfl, rfl⟩
def mkP (i k : Nat) : Gl := ⟨false, i, .full, [(k : Int)], k⟩
def mkC (m : Mo) (i k : Nat) (c : Cr) : Gl := ⟨true, i, .any, tupI (szs m c.pts) k, k⟩
def gPk (i : Nat) (p : Pt) : Nat → List Gl
  | 0 => []
  | k + 1 => gPk i p k ++ (if (kindOf p k == 0) = true then [mkP i k] else [])
def gP (m : Mo) : Nat → List Gl
  | 0 => []
  | i + 1 => gP m i ++ (match m.pts[i]? with | some p => gPk i p p.bins.length | none => [])
def gCk (m : Mo) (i : Nat) (c : Cr) : Nat → List Gl
  | 0 => []
  | k + 1 => gCk m i c k ++ (if hitB m c (tupI (szs m c.pts) k) = true then [mkC m i k c] else [])
def gC (m : Mo) : Nat → List Gl
  | 0 => gP m m.pts.length
  | i + 1 => gC m i ++ (match m.crs[i]? with | some c => gCk m i c (prodN (szs m c.pts)) | none => [])
def goals (m : Mo) : List Gl := gC m m.crs.length
theorem gPk_len (i : Nat) (p : Pt) : ∀ k, (gPk i p k).length ≤ k
  | 0 => Nat.le_refl _
  | k + 1 => by
    have := gPk_len i p k
    simp only [gPk, List.length_append]
    split <;> simp <;> omega
theorem gP_len {m : Mo} (hf : Full m) : ∀ i, (gP m i).length ≤ 64 * i
  | 0 => Nat.le_refl _
  | i + 1 => by
    have h1 := gP_len hf i
    simp only [gP, List.length_append]
    split
    · rename_i p hp
      have h2 := gPk_len i p p.bins.length
      have h3 := (hf p (List.mem_of_getElem? hp)).2
      omega
    · simp; omega
theorem gCk_len (m : Mo) (i : Nat) (c : Cr) : ∀ k, (gCk m i c k).length ≤ k
  | 0 => Nat.le_refl _
  | k + 1 => by
    have := gCk_len m i c k
    simp only [gCk, List.length_append]
    split <;> simp <;> omega
theorem gC_len {m : Mo} (hg : Good m) : ∀ i, (gC m i).length ≤ 64 * m.pts.length + 256 * i
  | 0 => gP_len hg.full _
  | i + 1 => by
    have h1 := gC_len hg i
    simp only [gC, List.length_append]
    split
    · rename_i c hc
      have h2 := gCk_len m i c (prodN (szs m c.pts))
      have h3 := (hg.crs c (List.mem_of_getElem? hc)).prod
      omega
    · simp; omega
theorem goals_len {m : Mo} (hg : Good m) : (goals m).length ≤ 8192 := by
  have h1 := gC_len hg m.crs.length
  have h2 := hg.num
  unfold goals; omega
theorem bd58p (i : Int) (xs : List (List AV)) : aBuild Tryz.prog 106 [(1, .int .i64 i), (2, .sl .full 1 xs)] = some (.agg [.bool false, .int .i64 i, .sl .full 1 xs]) := by kernel_rfl
theorem bd58c (i : Int) (xs : List (List AV)) : aBuild Tryz.prog 106 [(0, .bool true), (1, .int .i64 i), (2, .sl .any 1 xs)] = some (.agg [.bool true, .int .i64 i, .sl .any 1 xs]) := by kernel_rfl
theorem bd60p (i k : Int) (xs : List (List AV)) : aBuild Tryz.prog 108 [(0, .agg [.bool false, .int .i64 i, .sl .full 1 xs]), (1, .int .i64 k)] = some (.agg [.bool false, .int .i64 i, .sl .full 1 xs, .int .i64 k]) := by kernel_rfl
theorem bd60c (i k : Int) (xs : List (List AV)) : aBuild Tryz.prog 108 [(0, .agg [.bool true, .int .i64 i, .sl .any 1 xs]), (1, .int .i64 k)] = some (.agg [.bool true, .int .i64 i, .sl .any 1 xs, .int .i64 k]) := by kernel_rfl
theorem bs52 (h : Hp) (g : Gl) (hf : (encG g).all AV.frozen = true) : aBuildSlice Tryz.prog false h 101 1 [(0, .agg (encG g))] = some (.sl .full 4 [encG g], h) := by
  have h1 : Tryz.prog.underlying 101 = some (.slice 108) := ud101
  unfold aBuildSlice
  simp only [h1, sz108, zs101]
  have h2 : rowsA 4 0 [(0, AV.agg (encG g))] = some [encG g] := rfl
  simp [h2, hf]
end Go.Proofs.YtocilianjfhifaaGreatDoor.Cov
/- The goals of a model: merge.goals; no condition but the bounds on lengths. -/
set_option linter.unusedSimpArgs false
set_option maxRecDepth 8000
namespace Go.Proofs.YtocilianjfhifaaGreatDoor.Cov
open Go Go.Proofs Go.Proofs.YtocilianjfhifaaGreatDoor.Sm Go.Proofs.YtocilianjfhifaaGreatDoor.Bins Go.RowKit

theorem goals_prog (G : Nat → AV) (m : Mo) (hm : MoOk m) (hg : Good m) (h : Hp) : PCall (En G) 80 [.agg (encM m)] h (.sl (nm (goals m)) 4 ((goals m).map encG)) := by
  refine outG_pure frzG ?_
  have hm1 := hm.np
  have hm2 := hm.nc
  have hnum := hg.num
  refine acalls_of (H := Hint.none) (enM G) Tryz.func80 rfl (by kernel_rfl) (by kernel_rfl) (Nat.le_of_ble_eq_true (by kernel_rfl)) ?_
  show awp _ _ _ _ _ (endQ _ [.tmp 2] _)
  simp -implicitDefEqProofs only [awp_seq, awp_block, awp_reg, seqQ_n, WW_one, WW_nil, none_md, none_fz, frz_nil, ownOp, wc_app, wcont_s, upd_app, ev_tmp, ev_const, av_int, av_nil, x_move, x_assign, x_box, x_load, x_fieldAddr, x_len, holdsO_some, holdsO_ofO, frameOf_zero, ↓reduceIte, Nat.reduceEqDiff, Nat.add_zero, Option.getD_some, Bool.not_false, enP, ln22, fa25_0, bxM, ldM0 (top_get h (.live 2 [encM m])), List.length_map]
  refine awp_lp 0 (fun F H => F 1 = .ptr h.length 0 0 ∧ H[h.length]? = some (.live 2 [encM m]) ∧ ext h H ∧ (∀ b, isB (F 3) b → h.length < b) ∧ outG 4 encG h (gC m 0) (F 3) H) (fun _ _ => False) ?_ ?_ (fun _ _ hh => hh.elim)
  · refine awp_loop (fun n F H => ∃ i, n + i = m.pts.length ∧ F 1 = .ptr h.length 0 0 ∧ F 13 = .sl m.pm 6 (m.pts.map encP) ∧ F 14 = .int .i64 m.pts.length ∧ F 15 = .int .i64 (i : Nat) ∧ H[h.length]? = some (.live 2 [encM m]) ∧ ext h H ∧ (∀ b, isB (F 3) b → h.length < b) ∧ outG 4 encG h (gP m i) (F 3) H) m.pts.length ⟨0, by simp, by simp -implicitDefEqProofs only [upd_app, ↓reduceIte, Nat.reduceEqDiff], by simp -implicitDefEqProofs only [upd_app, ↓reduceIte, Nat.reduceEqDiff], by simp -implicitDefEqProofs only [upd_app, ↓reduceIte, Nat.reduceEqDiff], by simp -implicitDefEqProofs only [upd_app, ↓reduceIte]; rfl, top_get _ _, (ext.rfl' h).app _, fun b hb => hb.elim, outG.nil _ _ _ _⟩ ?_
    rintro n F H ⟨i, hi, f1, f13, f14, f15, gm, he, hlt, ho⟩
    simp -implicitDefEqProofs only [awp_seq, awp_reg, awp_cond, seqQ_n, WW_one, WW_nil, none_md, none_fz, frz_nil, ownOp, wc_app, wcont_s, upd_app, ev_tmp, x_bin, holdsO_ofO, bin_lss, ↓reduceIte, Option.getD_some, Bool.not_false, enP, f14, f15]
    refine cond_of (fun hc => ?_) (fun hc => ?_)
    · have hi' : i < m.pts.length := by simpa using hc
      have hgp : gP m (i + 1) = gP m i ++ gPk i m.pts[i] m.pts[i].bins.length := by
        simp only [gP]; rw [List.getElem?_eq_getElem hi']
      have h64 := (hg.full _ (List.getElem_mem hi')).2
      have hpl := gP_len hg.full i
      simp -implicitDefEqProofs only [awp_seq, awp_block, awp_reg, awp_skip, seqQ_n, WW_one, WW_nil, none_md, none_fz, frz_nil, ownOp, wc_app, wcont_s, wcont_n, upd_app, ev_tmp, ev_const, av_int, x_move, x_assign, x_alloc, x_load, x_store, x_fieldAddr, x_indexAddr, x_len, holdsO_some, holdsO_ofO, holdsO_ofS, ↓reduceIte, Nat.reduceEqDiff, Nat.zero_add, Option.getD_some, Bool.not_false, enP, ix22, ln54, fa56_2, Option.getD_none, f13, f15, ix_map hi', load_mapA ag56 sz56 encP_len hi', al75, st75 _ _ [.str ⟨#[]⟩, .int .i64 0, .int .i64 0, .str ⟨#[]⟩, .sl .nil 0 [], .sl .nil 0 []] rfl, load_last ag54, encP5, List.length_map]
      refine awp_lp 2 (fun F' H' => F' 1 = .ptr h.length 0 0 ∧ F' 13 = .sl m.pm 6 (m.pts.map encP) ∧ F' 14 = .int .i64 m.pts.length ∧ F' 15 = .int .i64 (i : Nat) ∧ H'[h.length]? = some (.live 2 [encM m]) ∧ ext h H' ∧ (∀ b, isB (F' 3) b → h.length < b) ∧ outG 4 encG h (gP m (i + 1)) (F' 3) H') (fun _ _ => False) ?_ ?_ (fun _ _ hh => hh.elim)
      · refine awp_loop (fun n F' H' => ∃ k, n + k = m.pts[i].bins.length ∧ F' 1 = .ptr h.length 0 0 ∧ F' 13 = .sl m.pm 6 (m.pts.map encP) ∧ F' 14 = .int .i64 m.pts.length ∧ F' 15 = .int .i64 (i : Nat) ∧ F' 4 = .int .i64 (i : Nat) ∧ F' 21 = .sl m.pts[i].bm 4 (m.pts[i].bins.map encB) ∧ F' 22 = .int .i64 m.pts[i].bins.length ∧ F' 23 = .int .i64 (k : Nat) ∧ H'[h.length]? = some (.live 2 [encM m]) ∧ ext h H' ∧ (∀ b, isB (F' 3) b → h.length < b) ∧ outG 4 encG h (gP m i ++ gPk i m.pts[i] k) (F' 3) H') m.pts[i].bins.length ⟨0, by simp, by simp -implicitDefEqProofs only [upd_app, ↓reduceIte, Nat.reduceEqDiff, f1], by simp -implicitDefEqProofs only [upd_app, ↓reduceIte, Nat.reduceEqDiff, f13], by simp -implicitDefEqProofs only [upd_app, ↓reduceIte, Nat.reduceEqDiff, f14], by simp -implicitDefEqProofs only [upd_app, ↓reduceIte, Nat.reduceEqDiff, f15], by simp -implicitDefEqProofs only [upd_app, ↓reduceIte, Nat.reduceEqDiff], by simp -implicitDefEqProofs only [upd_app, ↓reduceIte, Nat.reduceEqDiff], by simp -implicitDefEqProofs only [upd_app, ↓reduceIte, Nat.reduceEqDiff], by simp -implicitDefEqProofs only [upd_app, ↓reduceIte]; rfl, below_get gm, he.app _, hlt, by rw [show gPk i m.pts[i] 0 = [] from rfl, List.append_nil]; exact ho.app _⟩ ?_
        clear f1 f13 f14 f15 gm he hlt ho
        rintro n' F H ⟨k, hk, f1, f13, f14, f15, f4, f21, f22, f23, gm, he, hlt, ho⟩
        simp -implicitDefEqProofs only [awp_seq, awp_reg, awp_cond, seqQ_n, WW_one, WW_nil, none_md, none_fz, frz_nil, ownOp, wc_app, wcont_s, upd_app, ev_tmp, x_bin, holdsO_ofO, bin_lss, ↓reduceIte, Option.getD_some, Bool.not_false, enP, f22, f23]
        refine cond_of (fun hc => ?_) (fun hc => ?_)
        · have hk' : k < m.pts[i].bins.length := by simpa using hc
          have hkd : kindOf m.pts[i] k = (m.pts[i].bins[k]).kind := by unfold kindOf; rw [List.getElem?_eq_getElem hk']
          have hkl := gPk_len i m.pts[i] k
          have ho1 := ho.app [.live 4 [encB m.pts[i].bins[k]]]
          have he1 : ext h (H ++ [.live 4 [encB m.pts[i].bins[k]]]) := he.app _
          simp -implicitDefEqProofs only [awp_seq, awp_block, awp_reg, awp_skip, awp_cond, seqQ_n, WW_one, WW_nil, none_md, none_fz, frz_nil, ownOp, wc_app, wcont_s, wcont_n, upd_app, ev_tmp, ev_const, av_int, x_move, x_assign, x_alloc, x_load, x_store, x_bin, x_fieldAddr, x_indexAddr, holdsO_some, holdsO_ofO, holdsO_ofS, bin_eql, ↓reduceIte, Nat.reduceEqDiff, Nat.zero_add, Option.getD_some, Bool.not_false, enP, ix54, fa121_1, Option.getD_none, f21, f23, ix_map hk', load_mapA ag121 sz121 encB_len hk', al79, st79 _ _ [.str ⟨#[]⟩, .int .i64 0, .sl .nil 0 [], .sl .nil 0 []] rfl, load_last ag3, encB1]
          cases hz : (m.pts[i].bins[k].kind == 0)
          · have hgk : gPk i m.pts[i] (k + 1) = gPk i m.pts[i] k := by
              simp only [gPk]; rw [hkd, hz]; simp
            simp -implicitDefEqProofs only [awp_reg, awp_skip, seqQ_n, blk_n, rnd_n, cond_f, WW_one, WW_nil, none_md, none_fz, frz_nil, ownOp, wc_app, wcont_s, upd_app, ev_tmp, ev_const, av_int, x_move, x_bin, holdsO_ofO, bin_add, ↓reduceIte, Nat.reduceEqDiff, Option.getD_some, Bool.not_false, enP, f23, wrap_succ (show k < 9223372036854775807 by omega)]
            refine ⟨n' - 1, by omega, k + 1, by omega, f1, f13, f14, f15, f4, f21, f22, rfl, below_get gm, he1, hlt, ?_⟩
            rw [hgk]; exact ho1
          · have hgk : gP m i ++ gPk i m.pts[i] (k + 1) = (gP m i ++ gPk i m.pts[i] k) ++ [mkP i k] := by
              simp only [gPk]; rw [hkd, hz, if_pos rfl, List.append_assoc]
            obtain ⟨v', H', ha, ho', hkeep, he', hle, hb'⟩ := ho1.append ud101 sz108 zs101 by101 (by omega) (by rw [List.length_append]; omega) he1 (mkP i k)
            simp -implicitDefEqProofs only [evp_nil, evp_cons, awp_reg, cond_t, WW_one, none_md, none_fz, frz_nil, ownOp, wc_app, wcont_s, upd_app, ev_tmp, x_move, x_build, x_buildSlice, holdsO_some, holdsO_ofO, ↓reduceIte, Nat.reduceEqDiff, Option.getD_some, Bool.not_false, enP, f4, bs56, bd58p, bd60p]
            rw [show [AV.bool false, AV.int .i64 ((i : Nat) : Int), AV.sl .full 1 [[.int .i64 ((k : Nat) : Int)]], AV.int .i64 ((k : Nat) : Int)] = encG (mkP i k) from rfl]
            simp -implicitDefEqProofs only [WW_one, none_md, none_fz, frz_nil, ownOp, wc_app, wcont_s, upd_app, ev_tmp, x_append, holdsO_some, ↓reduceIte, Nat.reduceEqDiff, Option.getD_some, Bool.not_false, enP, bs52 _ _ (show (encG (mkP i k)).all AV.frozen = true from rfl)]
            refine holdsO_of (v := v') (h := H') ha ?_
            simp -implicitDefEqProofs only [awp_reg, seqQ_n, blk_n, rnd_n, WW_one, WW_nil, none_md, none_fz, frz_nil, ownOp, wc_app, wcont_s, upd_app, ev_tmp, ev_const, av_int, x_move, x_assign, x_bin, holdsO_ofO, bin_add, ↓reduceIte, Nat.reduceEqDiff, Option.getD_some, Bool.not_false, enP, f23, wrap_succ (show k < 9223372036854775807 by omega)]
            refine ⟨n' - 1, by omega, k + 1, by omega, f1, f13, f14, f15, f4, f21, f22, rfl, hkeep _ _ (below_get gm) (fun e => by have := hlt _ e; omega), he', fun b hbb => ?_, ?_⟩
            · have h1 := hb' b hbb; have h2 := lt_of_getElem? gm; rw [h1]; simp; omega
            · rw [hgk]; exact ho'
        · have hk' : ¬ k < m.pts[i].bins.length := by simpa using hc
          have hke : k = m.pts[i].bins.length := by omega
          simp -implicitDefEqProofs only [awp_exit, seqQ_e, lp_e, rnd_e, upd_app, ↓reduceIte, Nat.reduceEqDiff]
          refine ⟨f1, f13, f14, f15, gm, he, hlt, ?_⟩
          rw [hgp, ← hke]; exact ho
      · rintro F' H' ⟨g1, g13, g14, g15, gm', he', hlt', ho'⟩
        simp -implicitDefEqProofs only [awp_reg, seqQ_n, blk_n, blk_e, rnd_n, WW_one, WW_nil, none_md, none_fz, frz_nil, ownOp, wc_app, wcont_s, upd_app, ev_tmp, ev_const, av_int, x_move, x_bin, holdsO_ofO, bin_add, ↓reduceIte, Nat.reduceEqDiff, Option.getD_some, Bool.not_false, enP, g15, wrap_succ (show i < 9223372036854775807 by omega)]
        exact ⟨n - 1, by omega, i + 1, by omega, g1, g13, g14, rfl, gm', he', hlt', ho'⟩
    · have hi' : ¬ i < m.pts.length := by simpa using hc
      have hie : i = m.pts.length := by omega
      subst hie
      simp -implicitDefEqProofs only [awp_exit, seqQ_e, lp_e, rnd_e, upd_app, ↓reduceIte, Nat.reduceEqDiff]
      exact ⟨f1, gm, he, hlt, ho⟩
  · rintro F H ⟨f1, gm, he, hlt, ho⟩
    simp -implicitDefEqProofs only [awp_seq, awp_block, awp_reg, seqQ_n, blk_e, WW_one, WW_nil, none_md, none_fz, frz_nil, ownOp, wc_app, wcont_s, upd_app, ev_tmp, ev_const, av_int, x_move, x_load, x_fieldAddr, x_len, holdsO_ofO, ↓reduceIte, Nat.zero_add, Option.getD_some, Bool.not_false, enP, ln23, fa25_1, f1, ldM1 gm, List.length_map]
    refine awp_loop (fun n F H => ∃ i, n + i = m.crs.length ∧ F 1 = .ptr h.length 0 0 ∧ F 44 = .int .i64 m.crs.length ∧ F 45 = .int .i64 (i : Nat) ∧ H[h.length]? = some (.live 2 [encM m]) ∧ ext h H ∧ (∀ b, isB (F 3) b → h.length < b) ∧ outG 4 encG h (gC m i) (F 3) H) m.crs.length ⟨0, by simp, by simp -implicitDefEqProofs only [upd_app, ↓reduceIte, Nat.reduceEqDiff, f1], by simp -implicitDefEqProofs only [upd_app, ↓reduceIte, Nat.reduceEqDiff], by simp -implicitDefEqProofs only [upd_app, ↓reduceIte]; rfl, gm, he, hlt, ho⟩ ?_
    clear f1 gm he hlt ho
    rintro n F H ⟨i, hi, f1, f44, f45, gm, he, hlt, ho⟩
    simp -implicitDefEqProofs only [awp_seq, awp_reg, awp_cond, seqQ_n, WW_one, WW_nil, none_md, none_fz, frz_nil, ownOp, wc_app, wcont_s, upd_app, ev_tmp, x_bin, holdsO_ofO, bin_lss, ↓reduceIte, Option.getD_some, Bool.not_false, enP, f44, f45]
    refine cond_of (fun hc => ?_) (fun hc => ?_)
    · have hi' : i < m.crs.length := by simpa using hc
      have hcg := hg.crs _ (List.getElem_mem hi')
      have hfs := hg.full.szs hcg.here
      have hgc : gC m (i + 1) = gC m i ++ gCk m i m.crs[i] (prodN (szs m m.crs[i].pts)) := by
        simp only [gC]; rw [List.getElem?_eq_getElem hi']
      have hpr := hcg.prod
      have hcl := gC_len hg i
      simp -implicitDefEqProofs only [awp_seq, awp_block, awp_reg, awp_skip, seqQ_n, WW_one, WW_nil, none_md, none_fz, frz_nil, ownOp, wc_app, wcont_s, upd_app, ev_tmp, ev_func, x_move, x_assign, x_load, X1_call, callA_fn, holdsO_ofO, List.map_cons, List.map_nil, List.append_nil, ↓reduceIte, Nat.reduceEqDiff, Option.getD_some, Bool.not_false, enP, f1, f45, ldM gm]
      refine (size_prog47 G m i hi' hcg hg.full _).use ?_
      simp -implicitDefEqProofs only [awp_block, seqQ_n, WW_one, WW_nil, none_md, none_fz, frz_nil, ownOp, wc_app, wcont_s, ev_const, av_int, x_move, Option.getD_some, Bool.not_false]
      refine awp_lp 6 (fun F' H' => F' 1 = .ptr h.length 0 0 ∧ F' 44 = .int .i64 m.crs.length ∧ F' 45 = .int .i64 (i : Nat) ∧ H'[h.length]? = some (.live 2 [encM m]) ∧ ext h H' ∧ (∀ b, isB (F' 3) b → h.length < b) ∧ outG 4 encG h (gC m (i + 1)) (F' 3) H') (fun _ _ => False) ?_ ?_ (fun _ _ hh => hh.elim)
      · refine awp_loop (fun n F' H' => ∃ k, n + k = prodN (szs m m.crs[i].pts) ∧ F' 1 = .ptr h.length 0 0 ∧ F' 44 = .int .i64 m.crs.length ∧ F' 45 = .int .i64 (i : Nat) ∧ F' 8 = .int .i64 (i : Nat) ∧ F' 50 = .int .i64 (prodN (szs m m.crs[i].pts) : Nat) ∧ F' 51 = .int .i64 (k : Nat) ∧ H'[h.length]? = some (.live 2 [encM m]) ∧ ext h H' ∧ (∀ b, isB (F' 3) b → h.length < b) ∧ outG 4 encG h (gC m i ++ gCk m i m.crs[i] k) (F' 3) H') (prodN (szs m m.crs[i].pts)) ⟨0, by simp, by simp -implicitDefEqProofs only [upd_app, ↓reduceIte, Nat.reduceEqDiff, f1], by simp -implicitDefEqProofs only [upd_app, ↓reduceIte, Nat.reduceEqDiff, f44], by simp -implicitDefEqProofs only [upd_app, ↓reduceIte, Nat.reduceEqDiff, f45], by simp -implicitDefEqProofs only [upd_app, ↓reduceIte, Nat.reduceEqDiff], by simp -implicitDefEqProofs only [upd_app, ↓reduceIte, Nat.reduceEqDiff], by simp -implicitDefEqProofs only [upd_app, ↓reduceIte]; rfl, gm, he, hlt, by rw [show gCk m i m.crs[i] 0 = [] from rfl, List.append_nil]; exact ho⟩ ?_
        clear f1 f44 f45 gm he hlt ho
        rintro n' F H ⟨k, hk, f1, f44, f45, f8, f50, f51, gm, he, hlt, ho⟩
        simp -implicitDefEqProofs only [awp_seq, awp_reg, awp_cond, seqQ_n, WW_one, WW_nil, none_md, none_fz, frz_nil, ownOp, wc_app, wcont_s, upd_app, ev_tmp, x_bin, holdsO_ofO, bin_lss, ↓reduceIte, Option.getD_some, Bool.not_false, enP, f50, f51]
        refine cond_of (fun hc => ?_) (fun hc => ?_)
        · have hk' : k < prodN (szs m m.crs[i].pts) := by simpa using hc
          have hkl := gCk_len m i m.crs[i] k
          simp -implicitDefEqProofs only [awp_seq, awp_block, awp_reg, awp_skip, seqQ_n, WW_one, WW_nil, none_md, none_fz, frz_nil, ownOp, wc_app, wcont_s, upd_app, ev_tmp, ev_func, x_move, x_assign, x_load, X1_call, callA_fn, holdsO_ofO, List.map_cons, List.map_nil, List.append_nil, ↓reduceIte, Nat.reduceEqDiff, Option.getD_some, Bool.not_false, enP, f1, f8, f51, ldM gm]
          refine (tuple_prog47 G m i hi' hcg hg.full k hk' _).use ?_
          simp -implicitDefEqProofs only [List.getElem?_cons_zero, List.getElem?_cons_succ, awp_seq, awp_reg, seqQ_n, WW_one, WW_nil, WW_guardE, GX_some, gdstO, G1_tt, none_md, none_fz, frz_nil, ownOp, wc_app, wcont_s, upd_app, ev_tmp, ev_func, x_move, x_assign, x_load, x_extract, ext_tup, X1_call, callA_fn, holdsO_ofO, List.map_cons, List.map_nil, List.append_nil, ↓reduceIte, Nat.reduceEqDiff, Option.getD_some, Bool.not_false, enP, f1, f8, ldM gm]
          refine (excluded_prog G m i hi' hcg _ _ (tupI_ins _ _ fun n hn => (hfs n hn).1) _).use ?_
          simp -implicitDefEqProofs only [awp_cond, seqQ_n, WW_one, WW_nil, WW_guardE, GX_some, gdstO, G1_tt, none_md, none_fz, frz_nil, ownOp, wc_app, wcont_s, upd_app, ev_tmp, ev_const, av_bool, x_pick, pick_t, x_un, holdsO_ofO, un_not, ↓reduceIte, Nat.reduceEqDiff, Option.getD_some, Bool.not_false]
          cases hz : hitB m m.crs[i] (tupI (szs m m.crs[i].pts) k)
          · have hgk : gCk m i m.crs[i] (k + 1) = gCk m i m.crs[i] k := by
              simp only [gCk]; rw [hz]; simp
            simp -implicitDefEqProofs only [awp_reg, awp_skip, seqQ_n, blk_n, rnd_n, cond_f, WW_one, WW_nil, none_md, none_fz, frz_nil, ownOp, wc_app, wcont_s, upd_app, ev_tmp, ev_const, av_int, x_move, x_bin, holdsO_ofO, bin_add, ↓reduceIte, Nat.reduceEqDiff, Option.getD_some, Bool.not_true, Bool.not_false, enP, f51, wrap_succ (show k < 9223372036854775807 by omega)]
            refine ⟨n' - 1, by omega, k + 1, by omega, f1, f44, f45, f8, f50, rfl, gm, he, hlt, ?_⟩
            rw [hgk]; exact ho
          · have hgk : gC m i ++ gCk m i m.crs[i] (k + 1) = (gC m i ++ gCk m i m.crs[i] k) ++ [mkC m i k m.crs[i]] := by
              simp only [gCk]; rw [hz, if_pos rfl, List.append_assoc]
            obtain ⟨v', H', ha, ho', hkeep, he', hle, hb'⟩ := ho.append ud101 sz108 zs101 by101 (by omega) (by rw [List.length_append]; omega) he (mkC m i k m.crs[i])
            simp -implicitDefEqProofs only [evp_nil, evp_cons, awp_reg, cond_t, WW_one, none_md, none_fz, frz_nil, ownOp, wc_app, wcont_s, upd_app, ev_tmp, ev_const, av_bool, x_move, x_build, x_buildSlice, holdsO_ofO, ↓reduceIte, Nat.reduceEqDiff, Option.getD_some, Bool.not_true, Bool.not_false, enP, f8, bd58c, bd60c]
            rw [show [AV.bool true, AV.int .i64 ((i : Nat) : Int), AV.sl .any 1 ((tupI (szs m m.crs[i].pts) k).map encI), AV.int .i64 ((k : Nat) : Int)] = encG (mkC m i k m.crs[i]) from rfl]
            simp -implicitDefEqProofs only [WW_one, none_md, none_fz, frz_nil, ownOp, wc_app, wcont_s, upd_app, ev_tmp, x_append, holdsO_some, ↓reduceIte, Nat.reduceEqDiff, Option.getD_some, Bool.not_false, enP, bs52 _ _ (show (encG (mkC m i k m.crs[i])).all AV.frozen = true from rfl)]
            refine holdsO_of (v := v') (h := H') ha ?_
            simp -implicitDefEqProofs only [awp_reg, seqQ_n, blk_n, rnd_n, WW_one, WW_nil, none_md, none_fz, frz_nil, ownOp, wc_app, wcont_s, upd_app, ev_tmp, ev_const, av_int, x_move, x_assign, x_bin, holdsO_ofO, bin_add, ↓reduceIte, Nat.reduceEqDiff, Option.getD_some, Bool.not_false, enP, f51, wrap_succ (show k < 9223372036854775807 by omega)]
            refine ⟨n' - 1, by omega, k + 1, by omega, f1, f44, f45, f8, f50, rfl, hkeep _ _ gm (fun e => by have := hlt _ e; omega), he', fun b hbb => ?_, ?_⟩
            · have h1 := hb' b hbb; have h2 := lt_of_getElem? gm; omega
            · rw [hgk]; exact ho'
        · have hk' : ¬ k < prodN (szs m m.crs[i].pts) := by simpa using hc
          have hke : k = prodN (szs m m.crs[i].pts) := by omega
          simp -implicitDefEqProofs only [awp_exit, seqQ_e, lp_e, rnd_e, upd_app, ↓reduceIte, Nat.reduceEqDiff]
          refine ⟨f1, f44, f45, gm, he, hlt, ?_⟩
          rw [hgc, ← hke]; exact ho
      · rintro F' H' ⟨g1, g44, g45, gm', he', hlt', ho'⟩
        simp -implicitDefEqProofs only [awp_reg, seqQ_n, blk_n, blk_e, rnd_n, WW_one, WW_nil, none_md, none_fz, frz_nil, ownOp, wc_app, wcont_s, upd_app, ev_tmp, ev_const, av_int, x_move, x_bin, holdsO_ofO, bin_add, ↓reduceIte, Nat.reduceEqDiff, Option.getD_some, Bool.not_false, enP, g45, wrap_succ (show i < 9223372036854775807 by omega)]
        exact ⟨n - 1, by omega, i + 1, by omega, g1, g44, rfl, gm', he', hlt', ho'⟩
    · have hi' : ¬ i < m.crs.length := by simpa using hc
      have hie : i = m.crs.length := by omega
      subst hie
      simp -implicitDefEqProofs only [awp_seq, awp_reg, awp_ret, awp_exit, seqQ_n, seqQ_e, blk_e, rnd_e, end_r, WW_one, WW_nil, none_md, none_fz, frz_nil, ownOp, wc_app, wcont_s, upd_app, ev_tmp, x_move, x_assign, ↓reduceIte, Nat.reduceEqDiff, Option.getD_some, Bool.not_false]
      exact ⟨he, ho⟩
end Go.Proofs.YtocilianjfhifaaGreatDoor.Cov
/- The goals of a model: the reference; no condition but the bounds on lengths. -/
set_option linter.unusedSimpArgs false
set_option maxRecDepth 8000
namespace Go.Proofs.YtocilianjfhifaaGreatDoor.Cov
open Go Go.Proofs Go.Proofs.YtocilianjfhifaaGreatDoor.Sm Go.Proofs.YtocilianjfhifaaGreatDoor.Bins Go.RowKit

theorem bd64p (i k : Int) (xs : List (List AV)) : aBuild Tryz.prog 112 [(0, .agg [.bool false, .int .i64 i, .sl .full 1 xs]), (1, .int .i64 k)] = some (.agg [.bool false, .int .i64 i, .sl .full 1 xs, .int .i64 k]) := by kernel_rfl
theorem bd64c (i k : Int) (xs : List (List AV)) : aBuild Tryz.prog 112 [(0, .agg [.bool true, .int .i64 i, .sl .any 1 xs]), (1, .int .i64 k)] = some (.agg [.bool true, .int .i64 i, .sl .any 1 xs, .int .i64 k]) := by kernel_rfl
theorem bs54 (h : Hp) (g : Gl) (hf : (encG g).all AV.frozen = true) : aBuildSlice Tryz.prog false h 103 1 [(0, .agg (encG g))] = some (.sl .full 4 [encG g], h) := by
  have h1 : Tryz.prog.underlying 103 = some (.slice 112) := ud103
  unfold aBuildSlice
  simp only [h1, sz112, zs103]
  have h2 : rowsA 4 0 [(0, AV.agg (encG g))] = some [encG g] := rfl
  simp [h2, hf]
theorem goals_ref (G : Nat → AV) (m : Mo) (hm : MoOk m) (hg : Good m) (h : Hp) : PCall (En G) 81 [.agg (encM m)] h (.sl (nm (goals m)) 4 ((goals m).map encG)) := by
  refine outG_pure frzG ?_
  have hm1 := hm.np
  have hm2 := hm.nc
  have hnum := hg.num
  refine acalls_of (H := Hint.none) (enM G) Tryz.func81 rfl (by kernel_rfl) (by kernel_rfl) (Nat.le_of_ble_eq_true (by kernel_rfl)) ?_
  show awp _ _ _ _ _ (endQ _ [.tmp 2] _)
  simp -implicitDefEqProofs only [awp_seq, awp_block, awp_reg, seqQ_n, WW_one, WW_nil, none_md, none_fz, frz_nil, ownOp, wc_app, wcont_s, ev_tmp, ev_const, av_int, av_nil, x_assign, x_box, holdsO_some, frameOf_zero, Option.getD_some, Bool.not_false, enP, bxM]
  refine awp_lp 0 (fun F H => F 1 = .ptr h.length 0 0 ∧ H[h.length]? = some (.live 2 [encM m]) ∧ ext h H ∧ (∀ b, isB (F 3) b → h.length < b) ∧ outG 4 encG h (gC m 0) (F 3) H) (fun _ _ => False) ?_ ?_ (fun _ _ hh => hh.elim)
  · refine awp_loop (fun n F H => ∃ i, n + i = m.pts.length ∧ F 1 = .ptr h.length 0 0 ∧ F 4 = .int .i64 (i : Nat) ∧ H[h.length]? = some (.live 2 [encM m]) ∧ ext h H ∧ (∀ b, isB (F 3) b → h.length < b) ∧ outG 4 encG h (gP m i) (F 3) H) m.pts.length ⟨0, by simp, by simp -implicitDefEqProofs only [upd_app, ↓reduceIte, Nat.reduceEqDiff], by simp -implicitDefEqProofs only [upd_app, ↓reduceIte]; rfl, top_get _ _, (ext.rfl' h).app _, fun b hb => hb.elim, outG.nil _ _ _ _⟩ ?_
    rintro n F H ⟨i, hi, f1, f4, gm, he, hlt, ho⟩
    simp -implicitDefEqProofs only [awp_seq, awp_reg, awp_cond, seqQ_n, WW_one, WW_nil, none_md, none_fz, frz_nil, ownOp, wc_app, wcont_s, upd_app, ev_tmp, x_move, x_load, x_bin, x_fieldAddr, x_len, holdsO_ofO, bin_lss, ↓reduceIte, Nat.reduceEqDiff, Nat.add_zero, Option.getD_some, Bool.not_false, enP, ln22, fa25_0, f1, f4, ldM0 gm, List.length_map]
    refine cond_of (fun hc => ?_) (fun hc => ?_)
    · have hi' : i < m.pts.length := by simpa using hc
      have hgp : gP m (i + 1) = gP m i ++ gPk i m.pts[i] m.pts[i].bins.length := by
        simp only [gP]; rw [List.getElem?_eq_getElem hi']
      have h64 := (hg.full _ (List.getElem_mem hi')).2
      have hpl := gP_len hg.full i
      simp -implicitDefEqProofs only [awp_seq, awp_block, awp_reg, awp_skip, seqQ_n, WW_one, WW_nil, none_md, none_fz, frz_nil, ownOp, wc_app, wcont_s, ev_const, av_int, x_assign, Option.getD_some, Bool.not_false]
      refine awp_lp 2 (fun F' H' => F' 1 = .ptr h.length 0 0 ∧ F' 4 = .int .i64 (i : Nat) ∧ H'[h.length]? = some (.live 2 [encM m]) ∧ ext h H' ∧ (∀ b, isB (F' 3) b → h.length < b) ∧ outG 4 encG h (gP m (i + 1)) (F' 3) H') (fun _ _ => False) ?_ ?_ (fun _ _ hh => hh.elim)
      · refine awp_loop (fun n F' H' => ∃ k, n + k = m.pts[i].bins.length ∧ F' 1 = .ptr h.length 0 0 ∧ F' 4 = .int .i64 (i : Nat) ∧ F' 5 = .int .i64 (k : Nat) ∧ H'[h.length]? = some (.live 2 [encM m]) ∧ ext h H' ∧ (∀ b, isB (F' 3) b → h.length < b) ∧ outG 4 encG h (gP m i ++ gPk i m.pts[i] k) (F' 3) H') m.pts[i].bins.length ⟨0, by simp, by simp -implicitDefEqProofs only [upd_app, ↓reduceIte, Nat.reduceEqDiff, f1], by simp -implicitDefEqProofs only [upd_app, ↓reduceIte, Nat.reduceEqDiff, f4], by simp -implicitDefEqProofs only [upd_app, ↓reduceIte]; rfl, gm, he, hlt, by rw [show gPk i m.pts[i] 0 = [] from rfl, List.append_nil]; exact ho⟩ ?_
        clear f1 f4 gm he hlt ho
        rintro n' F H ⟨k, hk, f1, f4, f5, gm, he, hlt, ho⟩
        simp -implicitDefEqProofs only [awp_seq, awp_reg, awp_cond, seqQ_n, WW_one, WW_nil, none_md, none_fz, frz_nil, ownOp, wc_app, wcont_s, upd_app, ev_tmp, x_move, x_load, x_bin, x_fieldAddr, x_indexAddr, x_len, holdsO_ofO, bin_lss, ↓reduceIte, Nat.reduceEqDiff, Nat.add_zero, Nat.zero_add, Option.getD_some, Bool.not_false, enP, ix22, fa25_0, ln54, fa56_2, f1, f4, f5, ldM0 gm, ix_map hi', load_map ag54 hi', encP5, List.length_map]
        refine cond_of (fun hc => ?_) (fun hc => ?_)
        · have hk' : k < m.pts[i].bins.length := by simpa using hc
          have hkd : kindOf m.pts[i] k = (m.pts[i].bins[k]).kind := by unfold kindOf; rw [List.getElem?_eq_getElem hk']
          have hkl := gPk_len i m.pts[i] k
          simp -implicitDefEqProofs only [awp_seq, awp_block, awp_reg, awp_skip, awp_cond, seqQ_n, WW_one, WW_nil, none_md, none_fz, frz_nil, ownOp, wc_app, wcont_s, upd_app, ev_tmp, ev_const, av_int, x_move, x_load, x_bin, x_fieldAddr, x_indexAddr, holdsO_ofO, bin_eql, ↓reduceIte, Nat.reduceEqDiff, Nat.add_zero, Nat.zero_add, Option.getD_some, Bool.not_false, enP, ix22, fa25_0, ix54, fa56_2, fa121_1, f1, f4, f5, ldM0 gm, ix_map hi', load_map ag54 hi', encP5, ix_map hk', load_map ag3 hk', encB1]
          cases hz : (m.pts[i].bins[k].kind == 0)
          · have hgk : gPk i m.pts[i] (k + 1) = gPk i m.pts[i] k := by
              simp only [gPk]; rw [hkd, hz]; simp
            simp -implicitDefEqProofs only [awp_reg, awp_skip, seqQ_n, blk_n, rnd_n, cond_f, WW_one, WW_nil, none_md, none_fz, frz_nil, ownOp, wc_app, wcont_s, upd_app, ev_tmp, ev_const, av_int, x_move, x_assign, x_bin, holdsO_ofO, bin_add, ↓reduceIte, Nat.reduceEqDiff, Option.getD_some, Bool.not_false, enP, f5, wrap_succ (show k < 9223372036854775807 by omega)]
            refine ⟨n' - 1, by omega, k + 1, by omega, f1, f4, rfl, gm, he, hlt, ?_⟩
            rw [hgk]; exact ho
          · have hgk : gP m i ++ gPk i m.pts[i] (k + 1) = (gP m i ++ gPk i m.pts[i] k) ++ [mkP i k] := by
              simp only [gPk]; rw [hkd, hz, if_pos rfl, List.append_assoc]
            obtain ⟨v', H', ha, ho', hkeep, he', hle, hb'⟩ := ho.append ud103 sz112 zs103 by103 (by omega) (by rw [List.length_append]; omega) he (mkP i k)
            simp -implicitDefEqProofs only [evp_nil, evp_cons, awp_reg, cond_t, WW_one, none_md, none_fz, frz_nil, ownOp, wc_app, wcont_s, upd_app, ev_tmp, x_move, x_build, x_buildSlice, holdsO_some, holdsO_ofO, ↓reduceIte, Nat.reduceEqDiff, Option.getD_some, Bool.not_false, enP, f4, f5, bs56, bd58p, bd64p]
            rw [show [AV.bool false, AV.int .i64 ((i : Nat) : Int), AV.sl .full 1 [[.int .i64 ((k : Nat) : Int)]], AV.int .i64 ((k : Nat) : Int)] = encG (mkP i k) from rfl]
            simp -implicitDefEqProofs only [WW_one, none_md, none_fz, frz_nil, ownOp, wc_app, wcont_s, upd_app, ev_tmp, x_append, holdsO_some, ↓reduceIte, Nat.reduceEqDiff, Option.getD_some, Bool.not_false, enP, bs54 _ _ (show (encG (mkP i k)).all AV.frozen = true from rfl)]
            refine holdsO_of (v := v') (h := H') ha ?_
            simp -implicitDefEqProofs only [awp_reg, seqQ_n, blk_n, rnd_n, WW_one, WW_nil, none_md, none_fz, frz_nil, ownOp, wc_app, wcont_s, upd_app, ev_tmp, ev_const, av_int, x_move, x_assign, x_bin, holdsO_ofO, bin_add, ↓reduceIte, Nat.reduceEqDiff, Option.getD_some, Bool.not_false, enP, f5, wrap_succ (show k < 9223372036854775807 by omega)]
            refine ⟨n' - 1, by omega, k + 1, by omega, f1, f4, rfl, hkeep _ _ gm (fun e => by have := hlt _ e; omega), he', fun b hbb => ?_, ?_⟩
            · have h1 := hb' b hbb; have h2 := lt_of_getElem? gm; omega
            · rw [hgk]; exact ho'
        · have hk' : ¬ k < m.pts[i].bins.length := by simpa using hc
          have hke : k = m.pts[i].bins.length := by omega
          simp -implicitDefEqProofs only [awp_exit, seqQ_e, lp_e, rnd_e, upd_app, ↓reduceIte, Nat.reduceEqDiff]
          refine ⟨f1, f4, gm, he, hlt, ?_⟩
          rw [hgp, ← hke]; exact ho
      · rintro F' H' ⟨g1, g4, gm', he', hlt', ho'⟩
        simp -implicitDefEqProofs only [awp_reg, seqQ_n, blk_n, blk_e, rnd_n, WW_one, WW_nil, none_md, none_fz, frz_nil, ownOp, wc_app, wcont_s, upd_app, ev_tmp, ev_const, av_int, x_move, x_assign, x_bin, holdsO_ofO, bin_add, ↓reduceIte, Nat.reduceEqDiff, Option.getD_some, Bool.not_false, enP, g4, wrap_succ (show i < 9223372036854775807 by omega)]
        exact ⟨n - 1, by omega, i + 1, by omega, g1, rfl, gm', he', hlt', ho'⟩
    · have hi' : ¬ i < m.pts.length := by simpa using hc
      have hie : i = m.pts.length := by omega
      subst hie
      simp -implicitDefEqProofs only [awp_exit, seqQ_e, lp_e, rnd_e, upd_app, ↓reduceIte, Nat.reduceEqDiff]
      exact ⟨f1, gm, he, hlt, ho⟩
  · rintro F H ⟨f1, gm, he, hlt, ho⟩
    simp -implicitDefEqProofs only [awp_seq, awp_block, awp_reg, seqQ_n, blk_e, WW_one, WW_nil, none_md, none_fz, frz_nil, ownOp, wc_app, wcont_s, ev_const, av_int, x_assign, ↓reduceIte, Option.getD_some, Bool.not_false]
    refine awp_loop (fun n F H => ∃ i, n + i = m.crs.length ∧ F 1 = .ptr h.length 0 0 ∧ F 6 = .int .i64 (i : Nat) ∧ H[h.length]? = some (.live 2 [encM m]) ∧ ext h H ∧ (∀ b, isB (F 3) b → h.length < b) ∧ outG 4 encG h (gC m i) (F 3) H) m.crs.length ⟨0, by simp, by simp -implicitDefEqProofs only [upd_app, ↓reduceIte, Nat.reduceEqDiff, f1], by simp -implicitDefEqProofs only [upd_app, ↓reduceIte]; rfl, gm, he, hlt, ho⟩ ?_
    clear f1 gm he hlt ho
    rintro n F H ⟨i, hi, f1, f6, gm, he, hlt, ho⟩
    simp -implicitDefEqProofs only [awp_seq, awp_reg, awp_cond, seqQ_n, WW_one, WW_nil, none_md, none_fz, frz_nil, ownOp, wc_app, wcont_s, upd_app, ev_tmp, x_move, x_load, x_bin, x_fieldAddr, x_len, holdsO_ofO, bin_lss, ↓reduceIte, Nat.reduceEqDiff, Nat.zero_add, Option.getD_some, Bool.not_false, enP, ln23, fa25_1, f1, f6, ldM1 gm, List.length_map]
    refine cond_of (fun hc => ?_) (fun hc => ?_)
    · have hi' : i < m.crs.length := by simpa using hc
      have hcg := hg.crs _ (List.getElem_mem hi')
      have hfs := hg.full.szs hcg.here
      have hgc : gC m (i + 1) = gC m i ++ gCk m i m.crs[i] (prodN (szs m m.crs[i].pts)) := by
        simp only [gC]; rw [List.getElem?_eq_getElem hi']
      have hpr := hcg.prod
      have hcl := gC_len hg i
      simp -implicitDefEqProofs only [awp_seq, awp_block, awp_reg, awp_skip, seqQ_n, WW_one, WW_nil, none_md, none_fz, frz_nil, ownOp, wc_app, wcont_s, ev_const, av_int, x_assign, Option.getD_some, Bool.not_false]
      refine awp_lp 6 (fun F' H' => F' 1 = .ptr h.length 0 0 ∧ F' 6 = .int .i64 (i : Nat) ∧ H'[h.length]? = some (.live 2 [encM m]) ∧ ext h H' ∧ (∀ b, isB (F' 3) b → h.length < b) ∧ outG 4 encG h (gC m (i + 1)) (F' 3) H') (fun _ _ => False) ?_ ?_ (fun _ _ hh => hh.elim)
      · refine awp_loop (fun n F' H' => ∃ k, n + k = prodN (szs m m.crs[i].pts) ∧ F' 1 = .ptr h.length 0 0 ∧ F' 6 = .int .i64 (i : Nat) ∧ F' 7 = .int .i64 (k : Nat) ∧ H'[h.length]? = some (.live 2 [encM m]) ∧ ext h H' ∧ (∀ b, isB (F' 3) b → h.length < b) ∧ outG 4 encG h (gC m i ++ gCk m i m.crs[i] k) (F' 3) H') (prodN (szs m m.crs[i].pts)) ⟨0, by simp, by simp -implicitDefEqProofs only [upd_app, ↓reduceIte, Nat.reduceEqDiff, f1], by simp -implicitDefEqProofs only [upd_app, ↓reduceIte, Nat.reduceEqDiff, f6], by simp -implicitDefEqProofs only [upd_app, ↓reduceIte]; rfl, gm, he, hlt, by rw [show gCk m i m.crs[i] 0 = [] from rfl, List.append_nil]; exact ho⟩ ?_
        clear f1 f6 gm he hlt ho
        rintro n' F H ⟨k, hk, f1, f6, f7, gm, he, hlt, ho⟩
        simp -implicitDefEqProofs only [awp_seq, awp_reg, WW_one, none_md, none_fz, frz_nil, ownOp, wc_app, wcont_s, upd_app, ev_tmp, ev_func, x_move, x_load, X1_call, callA_fn, holdsO_ofO, List.map_cons, List.map_nil, List.append_nil, ↓reduceIte, Nat.reduceEqDiff, Option.getD_some, Bool.not_false, enP, f1, f6, f7, ldM gm]
        refine (size_ref47 G m i hi' hcg hg.full _).use ?_
        simp -implicitDefEqProofs only [awp_cond, seqQ_n, WW_one, WW_nil, none_md, none_fz, frz_nil, ownOp, wc_app, wcont_s, upd_app, ev_tmp, x_bin, holdsO_ofO, bin_lss, ↓reduceIte, Nat.reduceEqDiff, Option.getD_some, Bool.not_false, enP]
        refine cond_of (fun hc => ?_) (fun hc => ?_)
        · have hk' : k < prodN (szs m m.crs[i].pts) := by simpa using hc
          have hkl := gCk_len m i m.crs[i] k
          simp -implicitDefEqProofs only [awp_seq, awp_block, awp_reg, awp_skip, seqQ_n, WW_one, none_md, none_fz, frz_nil, ownOp, wc_app, wcont_s, upd_app, ev_tmp, ev_func, x_move, x_load, X1_call, callA_fn, holdsO_ofO, List.map_cons, List.map_nil, List.append_nil, ↓reduceIte, Nat.reduceEqDiff, Option.getD_some, Bool.not_false, enP, f1, f6, f7, ldM gm]
          refine (tuple_ref47 G m i hi' hcg hg.full k hk' _).use ?_
          simp -implicitDefEqProofs only [List.getElem?_cons_zero, List.getElem?_cons_succ, awp_seq, awp_reg, seqQ_n, WW_one, WW_nil, none_md, none_fz, frz_nil, ownOp, wc_app, wcont_s, upd_app, ev_tmp, ev_func, x_move, x_assign, x_load, x_extract, ext_tup, X1_call, callA_fn, holdsO_ofO, List.map_cons, List.map_nil, List.append_nil, ↓reduceIte, Nat.reduceEqDiff, Option.getD_some, Bool.not_false, enP, f1, f6, ldM gm]
          refine (excluded_ref G m i hi' hcg _ _ (tupI_ins _ _ fun n hn => (hfs n hn).1) _).use ?_
          simp -implicitDefEqProofs only [awp_cond, seqQ_n, WW_one, WW_nil, none_md, none_fz, frz_nil, ownOp, wc_app, wcont_s, upd_app, ev_tmp, x_un, holdsO_ofO, un_not, ↓reduceIte, Option.getD_some, Bool.not_false]
          cases hz : hitB m m.crs[i] (tupI (szs m m.crs[i].pts) k)
          · have hgk : gCk m i m.crs[i] (k + 1) = gCk m i m.crs[i] k := by
              simp only [gCk]; rw [hz]; simp
            simp -implicitDefEqProofs only [awp_reg, awp_skip, seqQ_n, blk_n, rnd_n, cond_f, WW_one, WW_nil, none_md, none_fz, frz_nil, ownOp, wc_app, wcont_s, upd_app, ev_tmp, ev_const, av_int, x_move, x_assign, x_bin, holdsO_ofO, bin_add, ↓reduceIte, Nat.reduceEqDiff, Option.getD_some, Bool.not_true, Bool.not_false, enP, f7, wrap_succ (show k < 9223372036854775807 by omega)]
            refine ⟨n' - 1, by omega, k + 1, by omega, f1, f6, rfl, gm, he, hlt, ?_⟩
            rw [hgk]; exact ho
          · have hgk : gC m i ++ gCk m i m.crs[i] (k + 1) = (gC m i ++ gCk m i m.crs[i] k) ++ [mkC m i k m.crs[i]] := by
              simp only [gCk]; rw [hz, if_pos rfl, List.append_assoc]
            obtain ⟨v', H', ha, ho', hkeep, he', hle, hb'⟩ := ho.append ud103 sz112 zs103 by103 (by omega) (by rw [List.length_append]; omega) he (mkC m i k m.crs[i])
            simp -implicitDefEqProofs only [evp_nil, evp_cons, awp_reg, cond_t, WW_one, none_md, none_fz, frz_nil, ownOp, wc_app, wcont_s, upd_app, ev_tmp, ev_const, av_bool, x_move, x_build, x_buildSlice, holdsO_ofO, ↓reduceIte, Nat.reduceEqDiff, Option.getD_some, Bool.not_true, Bool.not_false, enP, f6, f7, bd58c, bd64c]
            rw [show [AV.bool true, AV.int .i64 ((i : Nat) : Int), AV.sl .any 1 ((tupI (szs m m.crs[i].pts) k).map encI), AV.int .i64 ((k : Nat) : Int)] = encG (mkC m i k m.crs[i]) from rfl]
            simp -implicitDefEqProofs only [WW_one, none_md, none_fz, frz_nil, ownOp, wc_app, wcont_s, upd_app, ev_tmp, x_append, holdsO_some, ↓reduceIte, Nat.reduceEqDiff, Option.getD_some, Bool.not_false, enP, bs54 _ _ (show (encG (mkC m i k m.crs[i])).all AV.frozen = true from rfl)]
            refine holdsO_of (v := v') (h := H') ha ?_
            simp -implicitDefEqProofs only [awp_reg, seqQ_n, blk_n, rnd_n, WW_one, WW_nil, none_md, none_fz, frz_nil, ownOp, wc_app, wcont_s, upd_app, ev_tmp, ev_const, av_int, x_move, x_assign, x_bin, holdsO_ofO, bin_add, ↓reduceIte, Nat.reduceEqDiff, Option.getD_some, Bool.not_false, enP, f7, wrap_succ (show k < 9223372036854775807 by omega)]
            refine ⟨n' - 1, by omega, k + 1, by omega, f1, f6, rfl, hkeep _ _ gm (fun e => by have := hlt _ e; omega), he', fun b hbb => ?_, ?_⟩
            · have h1 := hb' b hbb; have h2 := lt_of_getElem? gm; omega
            · rw [hgk]; exact ho'
        · have hk' : ¬ k < prodN (szs m m.crs[i].pts) := by simpa using hc
          have hke : k = prodN (szs m m.crs[i].pts) := by omega
          simp -implicitDefEqProofs only [awp_exit, seqQ_e, lp_e, rnd_e, upd_app, ↓reduceIte, Nat.reduceEqDiff]
          refine ⟨f1, f6, gm, he, hlt, ?_⟩
          rw [hgc, ← hke]; exact ho
      · rintro F' H' ⟨g1, g6, gm', he', hlt', ho'⟩
        simp -implicitDefEqProofs only [awp_reg, seqQ_n, blk_n, blk_e, rnd_n, WW_one, WW_nil, none_md, none_fz, frz_nil, ownOp, wc_app, wcont_s, upd_app, ev_tmp, ev_const, av_int, x_move, x_assign, x_bin, holdsO_ofO, bin_add, ↓reduceIte, Nat.reduceEqDiff, Option.getD_some, Bool.not_false, enP, g6, wrap_succ (show i < 9223372036854775807 by omega)]
        exact ⟨n - 1, by omega, i + 1, by omega, g1, rfl, gm', he', hlt', ho'⟩
    · have hi' : ¬ i < m.crs.length := by simpa using hc
      have hie : i = m.crs.length := by omega
      subst hie
      simp -implicitDefEqProofs only [awp_seq, awp_reg, awp_ret, awp_exit, seqQ_n, seqQ_e, blk_e, rnd_e, end_r, WW_one, WW_nil, none_md, none_fz, frz_nil, ownOp, wc_app, wcont_s, upd_app, ev_tmp, x_move, x_assign, ↓reduceIte, Nat.reduceEqDiff, Option.getD_some, Bool.not_false]
      exact ⟨he, ho⟩
end Go.Proofs.YtocilianjfhifaaGreatDoor.Cov
/- The count of a goal, and what is made of goals, on both sides; no condition but the bounds on lengths, and cover.tuple's contract. -/
set_option linter.unusedSimpArgs false
set_option maxRecDepth 8000
namespace Go.Proofs.YtocilianjfhifaaGreatDoor.Cov
open Go Go.Proofs Go.Proofs.YtocilianjfhifaaGreatDoor.Sm Go.Proofs.YtocilianjfhifaaGreatDoor.Bins Go.RowKit

def cellAt (l : List Is) (i k : Nat) : Int := match l[i]? with
  | some x => (match x.l[k]? with | some z => z | none => 0)
  | none => 0
def countG (v : Cvr) (g : Gl) : Int := if g.cross then cellAt v.crs g.idx g.at_ else cellAt v.pts g.idx g.at_
def InL (l : List Is) (i k : Nat) : Prop := ∃ hi : i < l.length, k < (l[i]'hi).l.length
def InR (v : Cvr) (g : Gl) : Prop := if g.cross = true then InL v.crs g.idx g.at_ else InL v.pts g.idx g.at_
theorem cellAt_eq {l : List Is} {i k : Nat} (h : InL l i k) : ∃ (hi : i < l.length) (hk : k < l[i].l.length), cellAt l i k = l[i].l[k] := by
  obtain ⟨hi, hk⟩ := h
  refine ⟨hi, hk, ?_⟩
  unfold cellAt
  rw [List.getElem?_eq_getElem hi]
  simp only
  rw [List.getElem?_eq_getElem hk]
def GoalOf (m : Mo) (g : Gl) : Prop := (g.cross = false ∧ ∃ p, m.pts[g.idx]? = some p ∧ g.at_ < p.bins.length) ∨ (g.cross = true ∧ ∃ c, m.crs[g.idx]? = some c ∧ g.at_ < prodN (szs m c.pts))
theorem gPk_of {i : Nat} {p : Pt} : ∀ {k : Nat} {g : Gl}, g ∈ gPk i p k → g.cross = false ∧ g.idx = i ∧ g.at_ < k
  | 0, g, h => by cases h
  | k + 1, g, h => by
    simp only [gPk, List.mem_append] at h
    rcases h with h | h
    · obtain ⟨h1, h2, h3⟩ := gPk_of h; exact ⟨h1, h2, by omega⟩
    · split at h
      · simp at h; subst h; exact ⟨rfl, rfl, Nat.lt_succ_self k⟩
      · cases h
theorem gP_of {m : Mo} : ∀ {i : Nat} {g : Gl}, g ∈ gP m i → GoalOf m g
  | 0, g, h => by cases h
  | i + 1, g, h => by
    simp only [gP, List.mem_append] at h
    rcases h with h | h
    · exact gP_of h
    · split at h
      · rename_i p hp
        obtain ⟨h1, h2, h3⟩ := gPk_of h
        exact .inl ⟨h1, p, by rw [h2]; exact hp, h3⟩
      · cases h
theorem gCk_of {m : Mo} {i : Nat} {c : Cr} : ∀ {k : Nat} {g : Gl}, g ∈ gCk m i c k → g.cross = true ∧ g.idx = i ∧ g.at_ < k
  | 0, g, h => by cases h
  | k + 1, g, h => by
    simp only [gCk, List.mem_append] at h
    rcases h with h | h
    · obtain ⟨h1, h2, h3⟩ := gCk_of h; exact ⟨h1, h2, by omega⟩
    · split at h
      · simp at h; subst h; exact ⟨rfl, rfl, Nat.lt_succ_self k⟩
      · cases h
theorem gC_of {m : Mo} : ∀ {i : Nat} {g : Gl}, g ∈ gC m i → GoalOf m g
  | 0, g, h => gP_of h
  | i + 1, g, h => by
    simp only [gC, List.mem_append] at h
    rcases h with h | h
    · exact gC_of h
    · split at h
      · rename_i c hc
        obtain ⟨h1, h2, h3⟩ := gCk_of h
        exact .inr ⟨h1, c, by rw [h2]; exact hc, h3⟩
      · cases h
theorem fit2_get {α : Type} {ok : α → Is → Bool} : ∀ {ws : List α} {xs : List Is}, fit2 ok ws xs = true → ∀ (i : Nat) (a : α), ws[i]? = some a → ∃ x, xs[i]? = some x ∧ ok a x = true
  | [], [], _, i, a, h => by simp at h
  | w :: ws, x :: xs, h, i, a, ha => by
    simp only [fit2, Bool.and_eq_true] at h
    cases i with
    | zero => simp at ha; subst ha; exact ⟨x, rfl, h.1⟩
    | succ i => exact fit2_get h.2 i a (by simpa using ha)
  | [], _ :: _, h, _, _, _ => by cases h
  | _ :: _, [], h, _, _, _ => by cases h
theorem inL_of {l : List Is} {i k n : Nat} {x : Is} (hx : l[i]? = some x) (hn : x.l.length = n) (hk : k < n) : InL l i k := by
  obtain ⟨hi, e⟩ := List.getElem?_eq_some_iff.1 hx
  exact ⟨hi, by rw [e]; omega⟩
theorem inR_of {m : Mo} {v : Cvr} (hf : fitsB m v = true) {g : Gl} (hg : g ∈ goals m) : InR v g := by
  unfold fitsB at hf
  simp only [Bool.and_eq_true] at hf
  obtain ⟨⟨⟨⟨_, h1⟩, h2⟩, _⟩, _⟩ := hf
  unfold InR
  rcases gC_of hg with ⟨hc, p, hp, hk⟩ | ⟨hc, c, hcc, hk⟩
  · rw [if_neg (by simp [hc])]
    obtain ⟨x, hx, ho⟩ := fit2_get h1 _ _ hp
    unfold okP at ho
    simp only [Bool.and_eq_true, beq_iff_eq] at ho
    exact inL_of hx ho.1 hk
  · rw [if_pos hc]
    obtain ⟨x, hx, ho⟩ := fit2_get h2 _ _ hcc
    unfold okC at ho
    simp only [Bool.and_eq_true, beq_iff_eq] at ho
    exact inL_of hx ho.1 hk
theorem encG0 (g : Gl) : (encG g)[0]? = some (.bool g.cross) := rfl
theorem encG1 (g : Gl) : (encG g)[1]? = some (.int .i64 (g.idx : Int)) := rfl
theorem encG3 (g : Gl) : (encG g)[3]? = some (.int .i64 (g.at_ : Int)) := rfl
theorem bxG (h : Hp) (g : Gl) : aBox h (.agg (encG g)) = some (.ptr h.length 0 0, h ++ [.live 4 [encG g]]) := rfl
theorem reached_prog1 (G : Nat → AV) (v : Cvr) (g : Gl) (hi : InR v g) (h : Hp) : PCall (En G) 82 [.agg (encG g), .agg (encV v)] h (.bool (decide (countG v g > 0))) := by
  refine ACalls.pure0 rfl ?_
  refine acalls_of (H := Hint.none) (enM G) Tryz.func82 rfl (by kernel_rfl) (by kernel_rfl) (Nat.le_of_ble_eq_true (by kernel_rfl)) ?_
  show awp _ _ _ _ _ (endQ _ [.tmp 4] _)
  have gg : (h ++ [ABlk.live 4 [encG g]] ++ [ABlk.live 4 [encV v]])[h.length]? = some (.live 4 [encG g]) := below_get (top_get _ _)
  have gv := top_get (h ++ [ABlk.live 4 [encG g]]) (.live 4 [encV v])
  have hx : ∃ x, h ++ [ABlk.live 4 [encG g]] ++ [ABlk.live 4 [encV v]] = h ++ x := ⟨_, List.append_assoc _ _ _⟩
  simp -implicitDefEqProofs only [awp_seq, awp_reg, seqQ_n, WW_one, WW_nil, none_md, none_fz, frz_nil, ownOp, wc_app, wcont_s, upd_app, ev_tmp, ev_const, av_bool, x_assign, x_box, x_load, x_fieldAddr, holdsO_some, holdsO_ofO, frameOf_zero, frameOf_succ, ↓reduceIte, Nat.reduceEqDiff, Nat.add_zero, Option.getD_some, Bool.not_false, enP, fa106_0, fa108_0, bxG, bxV]
  generalize h ++ [ABlk.live 4 [encG g]] ++ [ABlk.live 4 [encV v]] = H at gg gv hx ⊢
  generalize (h ++ [ABlk.live 4 [encG g]]).length = vb at gv ⊢
  have l0 : aLoad Tryz.prog H 4 (.ptr h.length 0 0) = some (.bool g.cross) := by rw [load_row ag4 gg (row := encG g) rfl, encG0]
  have l1 : aLoad Tryz.prog H 3 (.ptr h.length 0 1) = some (.int .i64 (g.idx : Int)) := by rw [load_row ag3 gg (row := encG g) rfl, encG1]
  have l3 : aLoad Tryz.prog H 3 (.ptr h.length 0 3) = some (.int .i64 (g.at_ : Int)) := by rw [load_row ag3 gg (row := encG g) rfl, encG3]
  have lv0 : aLoad Tryz.prog H 26 (.ptr vb 0 0) = some (.sl v.pm 1 (v.pts.map encL)) := by rw [load_row ag26 gv (row := encV v) rfl, encV0]
  have lv1 : aLoad Tryz.prog H 26 (.ptr vb 0 1) = some (.sl v.cm 1 (v.crs.map encL)) := by rw [load_row ag26 gv (row := encV v) rfl, encV1]
  simp -implicitDefEqProofs only [awp_cond, seqQ_n, WW_nil, wcont_s, upd_app, ev_tmp, holdsO_ofO, ↓reduceIte, l0]
  unfold InR at hi
  cases hc : g.cross
  · rw [if_neg (by simp [hc])] at hi
    obtain ⟨h1, h2, h3⟩ := cellAt_eq hi
    have hcg : countG v g = v.pts[g.idx].l[g.at_] := by unfold countG; rw [hc, if_neg (by simp), h3]
    simp -implicitDefEqProofs only [awp_seq, awp_skip, seqQ_n, cond_f]
    refine awp_draw (by kernel_rfl) ?_
    simp -implicitDefEqProofs only [YO_f, dc_app, dcont_s, DD_nil, DD_one, y_assign, y_load, y_bin, y_fieldAddr, y_indexAddr, awp_ret, seqQ_n, end_r, none_md, upd_app, ev_tmp, ev_const, av_int, x_load, x_bin, x_fieldAddr, x_indexAddr, holdsO_ofO, bin_gtr, ↓reduceIte, Nat.reduceEqDiff, Nat.reduceAdd, Nat.add_zero, Nat.zero_add, Option.getD_some, enP, ix26, fa28_0, ix57, fa106_1, fa108_0, fa108_1, l1, l3, lv0, ix_map h1, load_map ag57 h1, encL0, ix_map h2, load_map ag3 h2, encI0]
    exact ⟨by rw [hcg], hx⟩
  · rw [if_pos hc] at hi
    obtain ⟨h1, h2, h3⟩ := cellAt_eq hi
    have hcg : countG v g = v.crs[g.idx].l[g.at_] := by unfold countG; rw [hc, if_pos rfl, h3]
    simp -implicitDefEqProofs only [awp_seq, cond_t]
    refine awp_draw (by kernel_rfl) ?_
    simp -implicitDefEqProofs only [YO_f, dc_app, dcont_s, DD_nil, DD_one, y_assign, y_load, y_bin, y_fieldAddr, y_indexAddr, awp_ret, seqQ_n, seqQ_r, end_r, none_md, upd_app, ev_tmp, ev_const, av_int, x_load, x_bin, x_fieldAddr, x_indexAddr, holdsO_ofO, bin_gtr, ↓reduceIte, Nat.reduceEqDiff, Nat.reduceAdd, Nat.add_zero, Nat.zero_add, Option.getD_some, enP, ix26, fa28_1, ix57, fa106_1, fa108_0, fa108_1, l1, l3, lv1, ix_map h1, load_map ag57 h1, encL0, ix_map h2, load_map ag3 h2, encI0]
    exact ⟨by rw [hcg], hx⟩
theorem count_ref1 (G : Nat → AV) (v : Cvr) (g : Gl) (hi : InR v g) (h : Hp) : PCall (En G) 83 [.agg (encV v), .agg (encG g)] h (.int .i64 (countG v g)) := by
  refine ACalls.pure0 rfl ?_
  refine acalls_of (H := Hint.none) (enM G) Tryz.func83 rfl (by kernel_rfl) (by kernel_rfl) (Nat.le_of_ble_eq_true (by kernel_rfl)) ?_
  show awp _ _ _ _ _ (endQ _ [.tmp 4] _)
  have gv : (h ++ [ABlk.live 4 [encV v]] ++ [ABlk.live 4 [encG g]])[h.length]? = some (.live 4 [encV v]) := below_get (top_get _ _)
  have gg := top_get (h ++ [ABlk.live 4 [encV v]]) (.live 4 [encG g])
  have hx : ∃ x, h ++ [ABlk.live 4 [encV v]] ++ [ABlk.live 4 [encG g]] = h ++ x := ⟨_, List.append_assoc _ _ _⟩
  simp -implicitDefEqProofs only [awp_seq, awp_reg, seqQ_n, WW_one, WW_nil, none_md, none_fz, frz_nil, ownOp, wc_app, wcont_s, upd_app, ev_tmp, ev_const, av_int, x_assign, x_box, x_load, x_fieldAddr, holdsO_some, holdsO_ofO, frameOf_zero, frameOf_succ, ↓reduceIte, Nat.reduceEqDiff, Nat.add_zero, Option.getD_some, Bool.not_false, enP, fa106_0, fa112_0, bxG, bxV]
  generalize h ++ [ABlk.live 4 [encV v]] ++ [ABlk.live 4 [encG g]] = H at gg gv hx ⊢
  generalize (h ++ [ABlk.live 4 [encV v]]).length = gb at gg ⊢
  have l0 : aLoad Tryz.prog H 4 (.ptr gb 0 0) = some (.bool g.cross) := by rw [load_row ag4 gg (row := encG g) rfl, encG0]
  have l1 : aLoad Tryz.prog H 3 (.ptr gb 0 1) = some (.int .i64 (g.idx : Int)) := by rw [load_row ag3 gg (row := encG g) rfl, encG1]
  have l3 : aLoad Tryz.prog H 3 (.ptr gb 0 3) = some (.int .i64 (g.at_ : Int)) := by rw [load_row ag3 gg (row := encG g) rfl, encG3]
  have lv0 : aLoad Tryz.prog H 26 (.ptr h.length 0 0) = some (.sl v.pm 1 (v.pts.map encL)) := by rw [load_row ag26 gv (row := encV v) rfl, encV0]
  have lv1 : aLoad Tryz.prog H 26 (.ptr h.length 0 1) = some (.sl v.cm 1 (v.crs.map encL)) := by rw [load_row ag26 gv (row := encV v) rfl, encV1]
  simp -implicitDefEqProofs only [awp_cond, seqQ_n, WW_nil, wcont_s, upd_app, ev_tmp, holdsO_ofO, ↓reduceIte, l0]
  unfold InR at hi
  cases hc : g.cross
  · rw [if_neg (by simp [hc])] at hi
    obtain ⟨h1, h2, h3⟩ := cellAt_eq hi
    have hcg : countG v g = v.pts[g.idx].l[g.at_] := by unfold countG; rw [hc, if_neg (by simp), h3]
    simp -implicitDefEqProofs only [awp_seq, awp_skip, seqQ_n, cond_f]
    refine awp_draw (by kernel_rfl) ?_
    simp -implicitDefEqProofs only [YO_f, dc_app, dcont_s, DD_nil, DD_one, y_assign, y_load, y_fieldAddr, y_indexAddr, awp_ret, seqQ_n, end_r, none_md, upd_app, ev_tmp, x_load, x_fieldAddr, x_indexAddr, holdsO_ofO, ↓reduceIte, Nat.reduceEqDiff, Nat.reduceAdd, Nat.add_zero, Nat.zero_add, Option.getD_some, enP, ix26, fa28_0, ix57, fa106_1, fa112_0, fa112_1, l1, l3, lv0, ix_map h1, load_map ag57 h1, encL0, ix_map h2, load_map ag3 h2, encI0]
    exact ⟨by rw [hcg], hx⟩
  · rw [if_pos hc] at hi
    obtain ⟨h1, h2, h3⟩ := cellAt_eq hi
    have hcg : countG v g = v.crs[g.idx].l[g.at_] := by unfold countG; rw [hc, if_pos rfl, h3]
    simp -implicitDefEqProofs only [awp_seq, cond_t]
    refine awp_draw (by kernel_rfl) ?_
    simp -implicitDefEqProofs only [YO_f, dc_app, dcont_s, DD_nil, DD_one, y_assign, y_load, y_fieldAddr, y_indexAddr, awp_ret, seqQ_n, seqQ_r, end_r, none_md, upd_app, ev_tmp, x_load, x_fieldAddr, x_indexAddr, holdsO_ofO, ↓reduceIte, Nat.reduceEqDiff, Nat.reduceAdd, Nat.add_zero, Nat.zero_add, Option.getD_some, enP, ix26, fa28_1, ix57, fa106_1, fa112_0, fa112_1, l1, l3, lv1, ix_map h1, load_map ag57 h1, encL0, ix_map h2, load_map ag3 h2, encI0]
    exact ⟨by rw [hcg], hx⟩
end Go.Proofs.YtocilianjfhifaaGreatDoor.Cov
/- Goal, Reached, Holes, Gain of the program; no condition but the variables that are laid, the bounds on lengths, and cover.tuple's contract. -/
set_option linter.unusedSimpArgs false
set_option maxRecDepth 8000
namespace Go.Proofs.YtocilianjfhifaaGreatDoor.Cov
open Go Go.Proofs Go.Proofs.YtocilianjfhifaaGreatDoor.Sm Go.Proofs.YtocilianjfhifaaGreatDoor.Bins Go.RowKit

theorem encG_leaf (g : Gl) : (encG g).all AV.leaf = true := rfl
theorem encH_fro (g : Gl) : (encH g).all AV.frozen = true := rfl
theorem al60 (h : Hp) : aAlloc Tryz.prog h 108 = some (.ptr h.length 0 0, h ++ [.live 4 [[.bool false, .int .i64 0, .sl .nil 0 [], .int .i64 0]]]) := alloc_of (row := [.bool false, .int .i64 0, .sl .nil 0 [], .int .i64 0]) (by kernel_rfl)
theorem st60 (h : Hp) (g : Gl) (row : List AV) (hr : row.length = 4) : aStore Tryz.prog (h ++ [.live 4 [row]]) 108 (.ptr h.length 0 0) (.agg (encG g)) = some (h ++ [.live 4 [encG g]]) := by
  rw [store_top (ac_agg (encG_leaf g)) (by rw [encG_len]; exact sz108) (by rw [encG_len, hr]; exact Nat.le_refl _)]
  have : splice row 0 (encG g) = encG g := by unfold splice; simp [encG_len, hr]
  rw [this]
theorem ldG {h : Hp} {b : Nat} {g : Gl} (hb : h[b]? = some (.live 4 [encG g])) : aLoad Tryz.prog h 108 (.ptr b 0 0) = some (.agg (encG g)) := by
  rw [load_rowA ag108 sz108 hb rfl (by rw [encG_len]; exact Nat.le_refl 4)]; rfl
theorem ldH {h : Hp} {b : Nat} {g : Gl} (hb : h[b]? = some (.live 4 [encG g])) : aLoad Tryz.prog h 106 (.ptr b 0 0) = some (.agg (encH g)) := by
  rw [load_rowA ag106 sz106 hb rfl (by rw [encG_len]; omega)]; rfl
theorem ldHf {h : Hp} {xs : List Gl} {k : Nat} (hk : k < xs.length) : aLoad Tryz.prog h 106 (.fptr 4 (xs.map encG) k 0) = some (.agg (encH xs[k])) := by
  have h1 := encG_len xs[k]
  simp [aLoad, Sm.rowAt, hk, ag106, sz106, h1]
  rfl
theorem bs32 (h : Hp) (g : Gl) : aBuildSlice Tryz.prog false h 32 1 [(0, .agg (encH g))] = some (.sl .full 3 [encH g], h) := by
  have h1 : Tryz.prog.underlying 32 = some (.slice 106) := ud32
  unfold aBuildSlice
  simp only [h1, sz106, zs32]
  have h2 : rowsA 3 0 [(0, AV.agg (encH g))] = some [encH g] := rfl
  simp [h2, encH_fro]
def goalN (m : Mo) : Nat := if modelE m = 0 then (goals m).length else 0
theorem goal_prog (G : Nat → AV) (hG : GOk G) (m : Mo) (hm : MoOk m) (h : Hp) : PCall (En G) 22 [.agg (encM m)] h (.int .i64 (goalN m)) := by
  refine ACalls.pure0 rfl ?_
  refine acalls_of (H := Hint.none) (enM G) Tryz.func22 rfl (by kernel_rfl) (by kernel_rfl) (Nat.le_of_ble_eq_true (by kernel_rfl)) ?_
  show awp _ _ _ _ _ (endQ _ [.tmp 2] _)
  simp -implicitDefEqProofs only [awp_seq, awp_reg, seqQ_n, WW_one, WW_nil, none_md, none_fz, frz_nil, ownOp, wc_app, wcont_s, upd_app, ev_tmp, ev_const, ev_func, av_int, x_assign, x_box, x_load, X1_call, callA_fn, holdsO_some, holdsO_ofO, frameOf_zero, List.map_cons, List.map_nil, List.append_nil, ↓reduceIte, Nat.reduceEqDiff, Option.getD_some, Bool.not_false, enP, bxM, ldM (top_get h _)]
  refine (model_prog G hG m hm _).use ?_
  simp -implicitDefEqProofs only [awp_cond, seqQ_n, WW_one, WW_nil, none_md, none_fz, frz_nil, ownOp, wc_app, wcont_s, upd_app, ev_tmp, ev_const, av_int, x_bin, holdsO_ofO, bin_neq, ↓reduceIte, Option.getD_some, Bool.not_false, enP]
  refine cond_of (fun h1 => ?_) (fun h1 => ?_)
  · simp -implicitDefEqProofs only [awp_seq, awp_reg, awp_ret, seqQ_n, seqQ_r, end_r, WW_one, WW_nil, none_md, none_fz, frz_nil, ownOp, wc_app, wcont_s, upd_app, ev_const, av_int, x_assign, ↓reduceIte, Option.getD_some, Bool.not_false]
    exact ⟨by unfold goalN; rw [if_neg (by simpa using h1)]; rfl, _, rfl⟩
  have h1' : modelE m = 0 := by simpa using h1
  simp -implicitDefEqProofs only [awp_seq, awp_reg, awp_skip, seqQ_n, WW_one, none_md, none_fz, frz_nil, ownOp, wc_app, wcont_s, upd_app, ev_tmp, ev_func, x_load, X1_call, callA_fn, holdsO_ofO, List.map_cons, List.map_nil, List.append_nil, ↓reduceIte, Nat.reduceEqDiff, Option.getD_some, Bool.not_false, enP, ldM (top_get h _)]
  refine (goals_prog G m hm (good_of h1') _).use ?_
  simp -implicitDefEqProofs only [awp_ret, seqQ_n, end_r, WW_one, WW_nil, none_md, none_fz, frz_nil, ownOp, wc_app, wcont_s, upd_app, ev_tmp, x_assign, x_len, holdsO_ofO, ↓reduceIte, Option.getD_some, Bool.not_false, enP, ln101, List.length_map]
  exact ⟨by unfold goalN; rw [if_pos h1'], _, rfl⟩
theorem goal_ref (G : Nat → AV) (m : Mo) (hm : MoOk m) (h : Hp) : PCall (En G) 23 [.agg (encM m)] h (.int .i64 (goalN m)) := by
  refine ACalls.pure0 rfl ?_
  refine acalls_of (H := Hint.none) (enM G) Tryz.func23 rfl (by kernel_rfl) (by kernel_rfl) (Nat.le_of_ble_eq_true (by kernel_rfl)) ?_
  show awp _ _ _ _ _ (endQ _ [.tmp 2] _)
  simp -implicitDefEqProofs only [awp_seq, awp_reg, seqQ_n, WW_one, WW_nil, none_md, none_fz, frz_nil, ownOp, wc_app, wcont_s, upd_app, ev_tmp, ev_const, ev_func, av_int, x_assign, x_box, x_load, X1_call, callA_fn, holdsO_some, holdsO_ofO, frameOf_zero, List.map_cons, List.map_nil, List.append_nil, ↓reduceIte, Nat.reduceEqDiff, Option.getD_some, Bool.not_false, enP, bxM, ldM (top_get h _)]
  refine (model_ref G m hm _).use ?_
  simp -implicitDefEqProofs only [awp_cond, seqQ_n, WW_one, WW_nil, none_md, none_fz, frz_nil, ownOp, wc_app, wcont_s, upd_app, ev_tmp, ev_const, av_int, x_bin, holdsO_ofO, bin_neq, ↓reduceIte, Option.getD_some, Bool.not_false, enP]
  refine cond_of (fun h1 => ?_) (fun h1 => ?_)
  · simp -implicitDefEqProofs only [awp_seq, awp_reg, awp_ret, seqQ_n, seqQ_r, end_r, WW_one, WW_nil, none_md, none_fz, frz_nil, ownOp, wc_app, wcont_s, upd_app, ev_const, av_int, x_assign, ↓reduceIte, Option.getD_some, Bool.not_false]
    exact ⟨by unfold goalN; rw [if_neg (by simpa using h1)]; rfl, _, rfl⟩
  have h1' : modelE m = 0 := by simpa using h1
  simp -implicitDefEqProofs only [awp_seq, awp_reg, awp_skip, seqQ_n, WW_one, none_md, none_fz, frz_nil, ownOp, wc_app, wcont_s, upd_app, ev_tmp, ev_func, x_load, X1_call, callA_fn, holdsO_ofO, List.map_cons, List.map_nil, List.append_nil, ↓reduceIte, Nat.reduceEqDiff, Option.getD_some, Bool.not_false, enP, ldM (top_get h _)]
  refine (goals_ref G m hm (good_of h1') _).use ?_
  simp -implicitDefEqProofs only [awp_ret, seqQ_n, end_r, WW_one, WW_nil, none_md, none_fz, frz_nil, ownOp, wc_app, wcont_s, upd_app, ev_tmp, x_assign, x_len, holdsO_ofO, ↓reduceIte, Option.getD_some, Bool.not_false, enP, ln103, List.length_map]
  exact ⟨by unfold goalN; rw [if_pos h1'], _, rfl⟩
theorem fitsB_good {m : Mo} {v : Cvr} (hf : fitsB m v = true) : modelE m = 0 := by
  unfold fitsB at hf
  simp only [Bool.and_eq_true, beq_iff_eq] at hf
  exact hf.1.1.1.1
def reachN (m : Mo) (v : Cvr) : Nat := if fitsB m v = true then (goals m).countP (fun g => decide (countG v g > 0)) else 0
theorem countP_take {α : Type} (p : α → Bool) (xs : List α) (k : Nat) (hk : k < xs.length) : (xs.take (k + 1)).countP p = (xs.take k).countP p + (if p xs[k] = true then 1 else 0) := by
  rw [List.take_succ_eq_append_getElem hk, List.countP_append]; simp
theorem filter_take {α : Type} (p : α → Bool) (xs : List α) (k : Nat) (hk : k < xs.length) : (xs.take (k + 1)).filter p = (xs.take k).filter p ++ (if p xs[k] = true then [xs[k]] else []) := by
  rw [List.take_succ_eq_append_getElem hk, List.filter_append]; simp [List.filter_cons]
theorem reach_prog (G : Nat → AV) (hG : GOk G) (hT : TupleOk G) (m : Mo) (v : Cvr) (hm : MoOk m) (hv : CvOk v) (h : Hp) : PCall (En G) 24 [.agg (encM m), .agg (encV v)] h (.int .i64 (reachN m v)) := by
  refine ACalls.pure0 rfl ?_
  refine acalls_of (H := Hint.none) (enM G) Tryz.func24 rfl (by kernel_rfl) (by kernel_rfl) (Nat.le_of_ble_eq_true (by kernel_rfl)) ?_
  show awp _ _ _ _ _ (endQ _ [.tmp 4] _)
  have t := TwoV.mk' h m v
  simp -implicitDefEqProofs only [awp_seq, awp_reg, seqQ_n, WW_one, WW_nil, none_md, none_fz, frz_nil, ownOp, wc_app, wcont_s, upd_app, ev_tmp, ev_const, av_int, x_assign, x_box, x_load, holdsO_some, frameOf_zero, frameOf_succ, ↓reduceIte, Nat.reduceEqDiff, Option.getD_some, Bool.not_false, enP, bxM, bxV]
  generalize h ++ [ABlk.live 2 [encM m]] ++ [ABlk.live 4 [encV v]] = H at t ⊢
  generalize (h ++ [ABlk.live 2 [encM m]]).length = vb at t ⊢
  simp -implicitDefEqProofs only [WW_one, none_md, none_fz, frz_nil, ownOp, wc_app, wcont_s, upd_app, ev_tmp, ev_func, x_load, X1_call, callA_fn, holdsO_ofO, List.map_cons, List.map_nil, List.append_nil, ↓reduceIte, Nat.reduceEqDiff, Option.getD_some, Bool.not_false, enP, ldM t.gm, ldV t.gv]
  refine (fits_prog G hG hT m v hm hv _).use ?_
  simp -implicitDefEqProofs only [awp_cond, seqQ_n, WW_one, WW_nil, none_md, none_fz, frz_nil, ownOp, wc_app, wcont_s, upd_app, ev_tmp, x_un, holdsO_ofO, un_not, ↓reduceIte, Option.getD_some, Bool.not_false]
  cases hf : fitsB m v
  · simp -implicitDefEqProofs only [awp_seq, awp_reg, awp_ret, seqQ_n, seqQ_r, end_r, cond_t, WW_one, WW_nil, none_md, none_fz, frz_nil, ownOp, wc_app, wcont_s, upd_app, ev_const, av_int, x_assign, ↓reduceIte, Option.getD_some, Bool.not_false]
    exact ⟨by unfold reachN; rw [hf]; rfl, t.hx⟩
  have hg := good_of (fitsB_good hf)
  have hgl := goals_len hg
  have hin : ∀ g ∈ goals m, InR v g := fun g hg' => inR_of hf hg'
  simp -implicitDefEqProofs only [awp_seq, awp_reg, awp_skip, seqQ_n, cond_f, WW_one, WW_nil, none_md, none_fz, frz_nil, ownOp, wc_app, wcont_s, upd_app, ev_tmp, ev_const, ev_func, av_int, x_assign, x_load, X1_call, callA_fn, holdsO_ofO, List.map_cons, List.map_nil, List.append_nil, ↓reduceIte, Nat.reduceEqDiff, Option.getD_some, Bool.not_true, Bool.not_false, enP, ldM t.gm]
  refine (goals_prog G m hm hg _).use ?_
  have hrn : reachN m v = (goals m).countP (fun g => decide (countG v g > 0)) := by unfold reachN; rw [if_pos hf]
  rw [hrn]
  generalize goals m = gs at hgl hin ⊢
  simp -implicitDefEqProofs only [awp_block, seqQ_n, WW_one, WW_nil, none_md, none_fz, frz_nil, ownOp, wc_app, wcont_s, upd_app, ev_tmp, ev_const, av_int, x_move, x_len, holdsO_ofO, ↓reduceIte, Option.getD_some, Bool.not_false, enP, ln101, List.length_map]
  refine awp_loop (fun n F H' => ∃ k, n + k = gs.length ∧ F 3 = .ptr vb 0 0 ∧ F 5 = .int .i64 ((gs.take k).countP (fun g => decide (countG v g > 0)) : Nat) ∧ F 13 = .sl (nm gs) 4 (gs.map encG) ∧ F 14 = .int .i64 gs.length ∧ F 15 = .int .i64 (k : Nat) ∧ H'[vb]? = some (.live 4 [encV v]) ∧ ∃ x, H' = h ++ x) gs.length ⟨0, by simp, by simp -implicitDefEqProofs only [upd_app, ↓reduceIte, Nat.reduceEqDiff], by simp -implicitDefEqProofs only [upd_app, ↓reduceIte, Nat.reduceEqDiff]; rfl, by simp -implicitDefEqProofs only [upd_app, ↓reduceIte, Nat.reduceEqDiff], by simp -implicitDefEqProofs only [upd_app, ↓reduceIte, Nat.reduceEqDiff], by simp -implicitDefEqProofs only [upd_app, ↓reduceIte]; rfl, t.gv, t.hx⟩ ?_
  rintro n F H' ⟨k, hk, f3, f5, f13, f14, f15, gv, x, rfl⟩
  simp -implicitDefEqProofs only [awp_seq, awp_reg, awp_cond, seqQ_n, WW_one, WW_nil, none_md, none_fz, frz_nil, ownOp, wc_app, wcont_s, upd_app, ev_tmp, x_bin, holdsO_ofO, bin_lss, ↓reduceIte, Option.getD_some, Bool.not_false, enP, f14, f15]
  refine cond_of (fun hc => ?_) (fun hc => ?_)
  · have hk' : k < gs.length := by simpa using hc
    have hcl : (gs.take k).countP (fun g => decide (countG v g > 0)) ≤ k := Nat.le_trans (List.countP_le_length) (by simp; omega)
    have hct := countP_take (fun g => decide (countG v g > 0)) gs k hk'
    simp -implicitDefEqProofs only [awp_seq, awp_block, awp_reg, awp_skip, seqQ_n, WW_one, WW_nil, none_md, none_fz, frz_nil, ownOp, wc_app, wcont_s, wcont_n, upd_app, ev_tmp, ev_func, x_alloc, x_load, x_store, x_indexAddr, X1_call, callA_fn, holdsO_some, holdsO_ofO, holdsO_ofS, List.map_cons, List.map_nil, List.append_nil, ↓reduceIte, Nat.reduceEqDiff, Option.getD_some, Bool.not_false, enP, ix101, Option.getD_none, f3, f13, f15, ix_map hk', load_mapA ag108 sz108 encG_len hk', al60, st60 _ _ [.bool false, .int .i64 0, .sl .nil 0 [], .int .i64 0] rfl, ldG (top_get (h ++ x) _), ldV (below_get (x := .live 4 [encG gs[k]]) gv)]
    refine (reached_prog1 G v gs[k] (hin _ (List.getElem_mem hk')) _).use ?_
    simp -implicitDefEqProofs only [awp_cond, seqQ_n, WW_nil, wcont_s, upd_app, ev_tmp, ↓reduceIte]
    cases hp : decide (countG v gs[k] > 0)
    · simp -implicitDefEqProofs only [awp_reg, awp_skip, seqQ_n, blk_n, rnd_n, cond_f, WW_one, WW_nil, none_md, none_fz, frz_nil, ownOp, wc_app, wcont_s, upd_app, ev_tmp, ev_const, av_int, x_move, x_bin, holdsO_ofO, bin_add, ↓reduceIte, Nat.reduceEqDiff, Option.getD_some, Bool.not_false, enP, f15, wrap_succ (show k < 9223372036854775807 by omega)]
      refine ⟨n - 1, by omega, k + 1, by omega, f3, ?_, f13, f14, rfl, below_get gv, _, List.append_assoc _ _ _⟩
      rw [hct, hp]; exact f5
    · simp -implicitDefEqProofs only [awp_reg, seqQ_n, blk_n, rnd_n, cond_t, WW_one, WW_nil, none_md, none_fz, frz_nil, ownOp, wc_app, wcont_s, upd_app, ev_tmp, ev_const, av_int, x_move, x_assign, x_bin, holdsO_ofO, bin_add, ↓reduceIte, Nat.reduceEqDiff, Option.getD_some, Bool.not_false, enP, f5, f15, wrap_succ (show k < 9223372036854775807 by omega), wrap_succ (show (gs.take k).countP (fun g => decide (countG v g > 0)) < 9223372036854775807 by omega)]
      refine ⟨n - 1, by omega, k + 1, by omega, f3, ?_, f13, f14, rfl, below_get gv, _, List.append_assoc _ _ _⟩
      rw [hct, hp]; rfl
  · have hk' : ¬ k < gs.length := by simpa using hc
    rw [List.take_of_length_le (by omega)] at f5
    simp -implicitDefEqProofs only [awp_seq, awp_reg, awp_ret, awp_exit, seqQ_n, seqQ_e, blk_e, rnd_e, end_r, WW_one, WW_nil, none_md, none_fz, frz_nil, ownOp, wc_app, wcont_s, upd_app, ev_tmp, x_move, x_assign, ↓reduceIte, Nat.reduceEqDiff, Option.getD_some, Bool.not_false, f5]
    exact ⟨trivial, x, rfl⟩
def holesL (m : Mo) (v : Cvr) : List Gl := if fitsB m v = true then (goals m).filter (fun g => !decide (countG v g > 0)) else []
theorem holes_prog (G : Nat → AV) (hG : GOk G) (hT : TupleOk G) (m : Mo) (v : Cvr) (hm : MoOk m) (hv : CvOk v) (h : Hp) : PCall (En G) 29 [.agg (encM m), .agg (encV v)] h (.sl (nm (holesL m v)) 3 ((holesL m v).map encH)) := by
  refine outG_pure frzH ?_
  refine acalls_of (H := Hint.none) (enM G) Tryz.func29 rfl (by kernel_rfl) (by kernel_rfl) (Nat.le_of_ble_eq_true (by kernel_rfl)) ?_
  show awp _ _ _ _ _ (endQ _ [.tmp 4] _)
  have t := TwoV.mk' h m v
  have hvb : h.length < (h ++ [ABlk.live 2 [encM m]]).length := by simp
  simp -implicitDefEqProofs only [awp_seq, awp_reg, seqQ_n, WW_one, WW_nil, none_md, none_fz, frz_nil, ownOp, wc_app, wcont_s, upd_app, ev_tmp, ev_const, av_nil, x_assign, x_box, x_load, holdsO_some, frameOf_zero, frameOf_succ, ↓reduceIte, Nat.reduceEqDiff, Option.getD_some, Bool.not_false, enP, bxM, bxV]
  generalize h ++ [ABlk.live 2 [encM m]] ++ [ABlk.live 4 [encV v]] = H at t ⊢
  generalize (h ++ [ABlk.live 2 [encM m]]).length = vb at t hvb ⊢
  simp -implicitDefEqProofs only [WW_one, none_md, none_fz, frz_nil, ownOp, wc_app, wcont_s, upd_app, ev_tmp, ev_func, x_load, X1_call, callA_fn, holdsO_ofO, List.map_cons, List.map_nil, List.append_nil, ↓reduceIte, Nat.reduceEqDiff, Option.getD_some, Bool.not_false, enP, ldM t.gm, ldV t.gv]
  refine (fits_prog G hG hT m v hm hv _).use ?_
  simp -implicitDefEqProofs only [awp_cond, seqQ_n, WW_one, WW_nil, none_md, none_fz, frz_nil, ownOp, wc_app, wcont_s, upd_app, ev_tmp, x_un, holdsO_ofO, un_not, ↓reduceIte, Option.getD_some, Bool.not_false]
  cases hf : fitsB m v
  · simp -implicitDefEqProofs only [awp_seq, awp_reg, awp_ret, seqQ_n, seqQ_r, end_r, cond_t, WW_one, WW_nil, none_md, none_fz, frz_nil, ownOp, wc_app, wcont_s, upd_app, ev_const, av_nil, x_assign, ↓reduceIte, Option.getD_some, Bool.not_false]
    have : holesL m v = [] := by unfold holesL; rw [hf]; rfl
    rw [this]
    exact ⟨t.hx, outG.nil _ _ _ _⟩
  have hg := good_of (fitsB_good hf)
  have hgl := goals_len hg
  have hin : ∀ g ∈ goals m, InR v g := fun g hg' => inR_of hf hg'
  simp -implicitDefEqProofs only [awp_seq, awp_reg, awp_skip, seqQ_n, cond_f, WW_one, WW_nil, none_md, none_fz, frz_nil, ownOp, wc_app, wcont_s, upd_app, ev_tmp, ev_const, ev_func, av_nil, x_assign, x_load, X1_call, callA_fn, holdsO_ofO, List.map_cons, List.map_nil, List.append_nil, ↓reduceIte, Nat.reduceEqDiff, Option.getD_some, Bool.not_true, Bool.not_false, enP, ldM t.gm]
  refine (goals_prog G m hm hg _).use ?_
  have hrn : holesL m v = (goals m).filter (fun g => !decide (countG v g > 0)) := by unfold holesL; rw [if_pos hf]
  rw [hrn]
  generalize goals m = gs at hgl hin ⊢
  simp -implicitDefEqProofs only [awp_block, seqQ_n, WW_one, WW_nil, none_md, none_fz, frz_nil, ownOp, wc_app, wcont_s, upd_app, ev_tmp, ev_const, av_int, x_move, x_len, holdsO_ofO, ↓reduceIte, Option.getD_some, Bool.not_false, enP, ln101, List.length_map]
  refine awp_loop (fun n F H' => ∃ k, n + k = gs.length ∧ F 3 = .ptr vb 0 0 ∧ F 13 = .sl (nm gs) 4 (gs.map encG) ∧ F 14 = .int .i64 gs.length ∧ F 15 = .int .i64 (k : Nat) ∧ H'[vb]? = some (.live 4 [encV v]) ∧ ext h H' ∧ (∀ b, isB (F 5) b → vb < b) ∧ outG 3 encH h ((gs.take k).filter (fun g => !decide (countG v g > 0))) (F 5) H') gs.length ⟨0, by simp, by simp -implicitDefEqProofs only [upd_app, ↓reduceIte, Nat.reduceEqDiff], by simp -implicitDefEqProofs only [upd_app, ↓reduceIte, Nat.reduceEqDiff], by simp -implicitDefEqProofs only [upd_app, ↓reduceIte, Nat.reduceEqDiff], by simp -implicitDefEqProofs only [upd_app, ↓reduceIte]; rfl, t.gv, t.hx, fun b hb => hb.elim, outG.nil _ _ _ _⟩ ?_
  rintro n F H' ⟨k, hk, f3, f13, f14, f15, gv, he, hlt, ho⟩
  simp -implicitDefEqProofs only [awp_seq, awp_reg, awp_cond, seqQ_n, WW_one, WW_nil, none_md, none_fz, frz_nil, ownOp, wc_app, wcont_s, upd_app, ev_tmp, x_bin, holdsO_ofO, bin_lss, ↓reduceIte, Option.getD_some, Bool.not_false, enP, f14, f15]
  refine cond_of (fun hc => ?_) (fun hc => ?_)
  · have hk' : k < gs.length := by simpa using hc
    have hcl : ((gs.take k).filter (fun g => !decide (countG v g > 0))).length ≤ k := Nat.le_trans (List.length_filter_le _ _) (by simp; omega)
    have hct := filter_take (fun g => !decide (countG v g > 0)) gs k hk'
    have ho1 := ho.app [.live 4 [encG gs[k]]]
    have he1 : ext h (H' ++ [.live 4 [encG gs[k]]]) := he.app _
    simp -implicitDefEqProofs only [awp_seq, awp_block, awp_reg, awp_skip, seqQ_n, WW_one, WW_nil, none_md, none_fz, frz_nil, ownOp, wc_app, wcont_s, wcont_n, upd_app, ev_tmp, ev_func, x_alloc, x_load, x_store, x_indexAddr, X1_call, callA_fn, holdsO_some, holdsO_ofO, holdsO_ofS, List.map_cons, List.map_nil, List.append_nil, ↓reduceIte, Nat.reduceEqDiff, Option.getD_some, Bool.not_false, enP, ix101, Option.getD_none, f3, f13, f15, ix_map hk', load_mapA ag108 sz108 encG_len hk', al60, st60 _ _ [.bool false, .int .i64 0, .sl .nil 0 [], .int .i64 0] rfl, ldG (top_get H' _), ldV (below_get (x := .live 4 [encG gs[k]]) gv)]
    refine (reached_prog1 G v gs[k] (hin _ (List.getElem_mem hk')) _).use ?_
    simp -implicitDefEqProofs only [awp_cond, seqQ_n, WW_one, WW_nil, none_md, none_fz, frz_nil, ownOp, wc_app, wcont_s, upd_app, ev_tmp, x_un, holdsO_ofO, un_not, ↓reduceIte, Option.getD_some, Bool.not_false]
    cases hp : decide (countG v gs[k] > 0)
    · obtain ⟨v', H2, ha, ho', hkeep, he', hle, hb'⟩ := ho1.append ud32 sz106 zs32 by32 (by omega) (by omega) he1 gs[k]
      simp -implicitDefEqProofs only [evp_nil, evp_cons, awp_reg, cond_t, WW_one, none_md, none_fz, frz_nil, ownOp, wc_app, wcont_s, upd_app, ev_tmp, x_move, x_buildSlice, x_load, x_fieldAddr, x_append, holdsO_some, holdsO_ofO, ↓reduceIte, Nat.reduceEqDiff, Nat.add_zero, Option.getD_some, Bool.not_false, enP, fa108_0, ldH (top_get H' (.live 4 [encG gs[k]])), bs32]
      refine holdsO_of (v := v') (h := H2) ha ?_
      simp -implicitDefEqProofs only [awp_reg, seqQ_n, blk_n, rnd_n, WW_one, WW_nil, none_md, none_fz, frz_nil, ownOp, wc_app, wcont_s, upd_app, ev_tmp, ev_const, av_int, x_move, x_assign, x_bin, holdsO_ofO, bin_add, ↓reduceIte, Nat.reduceEqDiff, Option.getD_some, Bool.not_false, enP, f15, wrap_succ (show k < 9223372036854775807 by omega)]
      refine ⟨n - 1, by omega, k + 1, by omega, f3, f13, f14, rfl, hkeep _ _ (below_get gv) (fun e => by have := hlt _ e; omega), he', fun b hbb => ?_, ?_⟩
      · have h1 := hb' b hbb; have h2 := lt_of_getElem? gv; rw [h1]; simp; omega
      · rw [hct, hp]; exact ho'
    · simp -implicitDefEqProofs only [awp_reg, awp_skip, seqQ_n, blk_n, rnd_n, cond_f, WW_one, WW_nil, none_md, none_fz, frz_nil, ownOp, wc_app, wcont_s, upd_app, ev_tmp, ev_const, av_int, x_move, x_bin, holdsO_ofO, bin_add, ↓reduceIte, Nat.reduceEqDiff, Option.getD_some, Bool.not_true, Bool.not_false, enP, f15, wrap_succ (show k < 9223372036854775807 by omega)]
      refine ⟨n - 1, by omega, k + 1, by omega, f3, f13, f14, rfl, below_get gv, he1, hlt, ?_⟩
      rw [hct, hp]
      simp only [Bool.not_true, Bool.false_eq_true, if_false, List.append_nil]
      exact ho1
  · have hk' : ¬ k < gs.length := by simpa using hc
    rw [List.take_of_length_le (by omega)] at ho
    simp -implicitDefEqProofs only [awp_seq, awp_reg, awp_ret, awp_exit, seqQ_n, seqQ_e, blk_e, rnd_e, end_r, WW_one, WW_nil, none_md, none_fz, frz_nil, ownOp, wc_app, wcont_s, upd_app, ev_tmp, x_move, x_assign, ↓reduceIte, Nat.reduceEqDiff, Option.getD_some, Bool.not_false]
    exact ⟨he, ho⟩
end Go.Proofs.YtocilianjfhifaaGreatDoor.Cov
/- Holes, Reached, Gain, Percent of both sides; no condition but the variables that are laid, the bounds on lengths, and cover.tuple's contract. -/
set_option linter.unusedSimpArgs false
set_option maxRecDepth 8000
namespace Go.Proofs.YtocilianjfhifaaGreatDoor.Cov
open Go Go.Proofs Go.Proofs.YtocilianjfhifaaGreatDoor.Sm Go.Proofs.YtocilianjfhifaaGreatDoor.Bins Go.RowKit

theorem rowF_get {p : Nat → Bool} : ∀ {l : List Int} {j : Nat}, rowF p j l = true → ∀ z ∈ l, 0 ≤ z
  | [], _, _, _, h => by cases h
  | n :: ns, j, h, z, hz => by
    simp only [rowF, Bool.and_eq_true] at h
    cases List.mem_cons.1 hz with
    | inl e =>
      subst e
      have := h.1
      unfold countB withinB at this
      simp only [Bool.and_eq_true, decide_eq_true_eq] at this
      exact this.1.1
    | inr e => exact rowF_get h.2 z e
theorem cell_pos {l : List Is} {i k : Nat} (h : ∀ x, l[i]? = some x → ∀ z ∈ x.l, 0 ≤ z) : 0 ≤ cellAt l i k := by
  unfold cellAt
  split
  · rename_i x hx
    split
    · rename_i z hz; exact h x hx z (List.mem_of_getElem? hz)
    · omega
  · omega
theorem count_pos {m : Mo} {v : Cvr} (hf : fitsB m v = true) {g : Gl} (hg : g ∈ goals m) : 0 ≤ countG v g := by
  unfold fitsB at hf
  simp only [Bool.and_eq_true] at hf
  obtain ⟨⟨⟨⟨_, h1⟩, h2⟩, _⟩, _⟩ := hf
  unfold countG
  rcases gC_of hg with ⟨hc, p, hp, hk⟩ | ⟨hc, c, hcc, hk⟩
  · rw [if_neg (by simp [hc])]
    refine cell_pos fun x hx => ?_
    obtain ⟨x', hx', ho⟩ := fit2_get h1 _ _ hp
    rw [hx] at hx'; cases hx'
    unfold okP at ho
    simp only [Bool.and_eq_true] at ho
    exact rowF_get ho.2
  · rw [if_pos hc]
    refine cell_pos fun x hx => ?_
    obtain ⟨x', hx', ho⟩ := fit2_get h2 _ _ hcc
    rw [hx] at hx'; cases hx'
    unfold okC at ho
    simp only [Bool.and_eq_true] at ho
    exact rowF_get ho.2
theorem zero_pos {z : Int} (h : 0 ≤ z) : (z == 0) = !decide (z > 0) := by
  rw [Bool.eq_iff_iff]; simp; omega
theorem holes_ref (G : Nat → AV) (m : Mo) (v : Cvr) (hm : MoOk m) (hv : CvOk v) (h : Hp) : PCall (En G) 30 [.agg (encM m), .agg (encV v)] h (.sl (nm (holesL m v)) 3 ((holesL m v).map encH)) := by
  refine outG_pure frzH ?_
  refine acalls_of (H := Hint.none) (enM G) Tryz.func30 rfl (by kernel_rfl) (by kernel_rfl) (Nat.le_of_ble_eq_true (by kernel_rfl)) ?_
  show awp _ _ _ _ _ (endQ _ [.tmp 4] _)
  have t := TwoV.mk' h m v
  have hvb : h.length < (h ++ [ABlk.live 2 [encM m]]).length := by simp
  simp -implicitDefEqProofs only [awp_seq, awp_reg, seqQ_n, WW_one, WW_nil, none_md, none_fz, frz_nil, ownOp, wc_app, wcont_s, upd_app, ev_tmp, ev_const, av_nil, x_assign, x_box, x_load, holdsO_some, frameOf_zero, frameOf_succ, ↓reduceIte, Nat.reduceEqDiff, Option.getD_some, Bool.not_false, enP, bxM, bxV]
  generalize h ++ [ABlk.live 2 [encM m]] ++ [ABlk.live 4 [encV v]] = H at t ⊢
  generalize (h ++ [ABlk.live 2 [encM m]]).length = vb at t hvb ⊢
  simp -implicitDefEqProofs only [WW_one, none_md, none_fz, frz_nil, ownOp, wc_app, wcont_s, upd_app, ev_tmp, ev_func, X1_call, callA_fn, holdsO_ofO, List.map_cons, List.map_nil, List.append_nil, ↓reduceIte, Option.getD_some, Bool.not_false, ldM t.gm]
  refine (model_ref G m hm _).use ?_
  simp -implicitDefEqProofs only [WW_one, WW_guardE, GX_some, gdstO, none_md, none_fz, frz_nil, ownOp, wc_app, wcont_s, upd_app, ev_tmp, ev_const, av_int, x_move, x_bin, holdsO_ofO, bin_neq, ↓reduceIte, Option.getD_some, Bool.not_false, enP, bne]
  cases h1 : (modelE m == 0)
  · simp -implicitDefEqProofs only [awp_seq, awp_reg, awp_ret, awp_cond, seqQ_n, seqQ_r, end_r, cond_t, WW_one, WW_nil, WW_guardE, GX_some, gdstO, G1_ft, none_md, none_fz, frz_nil, ownOp, wc_app, wcont_s, upd_app, aput, ev_tmp, ev_const, av_bool, av_nil, x_assign, x_pick, pick_t, ↓reduceIte, Nat.reduceEqDiff, Option.getD_some, Bool.not_false]
    have : holesL m v = [] := by unfold holesL fitsB; rw [h1]; rfl
    rw [this]
    exact ⟨t.hx, outG.nil _ _ _ _⟩
  simp -implicitDefEqProofs only [WW_guardE, GX_some, gdstO, G1_ff, none_md, none_fz, frz_nil, ownOp, wc_app, wcont_s, upd_app, ev_tmp, ev_func, x_load, X1_call, callA_fn, holdsO_ofO, List.map_cons, List.map_nil, List.append_nil, ↓reduceIte, Nat.reduceEqDiff, Option.getD_some, Bool.not_true, Bool.not_false, enP, ldM t.gm, ldV t.gv]
  refine (fits_ref G m v hm hv _).use ?_
  simp -implicitDefEqProofs only [awp_cond, seqQ_n, WW_one, WW_nil, WW_guardE, GX_some, gdstO, G1_ff, none_md, none_fz, frz_nil, ownOp, wc_app, wcont_s, upd_app, ev_tmp, ev_const, av_bool, x_pick, pick_f, x_un, holdsO_ofO, un_not, ↓reduceIte, Nat.reduceEqDiff, Option.getD_some, Bool.not_false]
  cases hf : fitsB m v
  · simp -implicitDefEqProofs only [awp_seq, awp_reg, awp_ret, seqQ_n, seqQ_r, end_r, cond_t, WW_one, WW_nil, none_md, none_fz, frz_nil, ownOp, wc_app, wcont_s, upd_app, ev_const, av_nil, x_assign, ↓reduceIte, Option.getD_some, Bool.not_false]
    have : holesL m v = [] := by unfold holesL; rw [hf]; rfl
    rw [this]
    exact ⟨t.hx, outG.nil _ _ _ _⟩
  have hg := good_of (fitsB_good hf)
  have hgl := goals_len hg
  have hin : ∀ g ∈ goals m, InR v g := fun g hg' => inR_of hf hg'
  have hpos : ∀ g ∈ goals m, 0 ≤ countG v g := fun g hg' => count_pos hf hg'
  simp -implicitDefEqProofs only [awp_seq, awp_reg, awp_skip, seqQ_n, cond_f, WW_one, WW_nil, none_md, none_fz, frz_nil, ownOp, wc_app, wcont_s, upd_app, ev_tmp, ev_const, ev_func, av_nil, x_assign, x_load, X1_call, callA_fn, holdsO_ofO, List.map_cons, List.map_nil, List.append_nil, ↓reduceIte, Nat.reduceEqDiff, Option.getD_some, Bool.not_true, Bool.not_false, enP, ldM t.gm]
  refine (goals_ref G m hm hg _).use ?_
  have hrn : holesL m v = (goals m).filter (fun g => !decide (countG v g > 0)) := by unfold holesL; rw [if_pos hf]
  rw [hrn]
  generalize goals m = gs at hgl hin hpos ⊢
  simp -implicitDefEqProofs only [awp_seq, awp_block, awp_reg, seqQ_n, WW_one, WW_nil, none_md, none_fz, frz_nil, ownOp, wc_app, wcont_s, upd_app, ev_tmp, ev_const, av_int, x_assign, ↓reduceIte, Option.getD_some, Bool.not_false]
  refine awp_loop (fun n F H' => ∃ k, n + k = gs.length ∧ F 3 = .ptr vb 0 0 ∧ F 6 = .sl (nm gs) 4 (gs.map encG) ∧ F 7 = .int .i64 (k : Nat) ∧ H'[vb]? = some (.live 4 [encV v]) ∧ ext h H' ∧ (∀ b, isB (F 5) b → vb < b) ∧ outG 3 encH h ((gs.take k).filter (fun g => !decide (countG v g > 0))) (F 5) H') gs.length ⟨0, by simp, by simp -implicitDefEqProofs only [upd_app, ↓reduceIte, Nat.reduceEqDiff], by simp -implicitDefEqProofs only [upd_app, ↓reduceIte, Nat.reduceEqDiff], by simp -implicitDefEqProofs only [upd_app, ↓reduceIte]; rfl, t.gv, t.hx, fun b hb => hb.elim, outG.nil _ _ _ _⟩ ?_
  rintro n F H' ⟨k, hk, f3, f6, f7, gv, he, hlt, ho⟩
  simp -implicitDefEqProofs only [awp_seq, awp_reg, awp_cond, seqQ_n, WW_one, WW_nil, none_md, none_fz, frz_nil, ownOp, wc_app, wcont_s, upd_app, ev_tmp, x_move, x_bin, x_len, holdsO_ofO, bin_lss, ↓reduceIte, Nat.reduceEqDiff, Option.getD_some, Bool.not_false, enP, ln103, f6, f7, List.length_map]
  refine cond_of (fun hc => ?_) (fun hc => ?_)
  · have hk' : k < gs.length := by simpa using hc
    have hcl : ((gs.take k).filter (fun g => !decide (countG v g > 0))).length ≤ k := Nat.le_trans (List.length_filter_le _ _) (by simp; omega)
    have hct := filter_take (fun g => !decide (countG v g > 0)) gs k hk'
    simp -implicitDefEqProofs only [awp_seq, awp_block, awp_skip, seqQ_n]
    refine awp_draw (by kernel_rfl) ?_
    simp -implicitDefEqProofs only [YO_f, dc_app, dcont_s, DD_one, y_move, y_load, y_bin, y_indexAddr, Y1_call, callP_fn, none_md, upd_app, ev_tmp, ev_const, ev_func, av_int, x_load, x_bin, x_indexAddr, holdsO_ofO, List.map_cons, List.map_nil, List.append_nil, ↓reduceIte, Nat.reduceEqDiff, Nat.reduceAdd, Option.getD_some, enP, ix103, f3, f6, f7, ix_map hk', load_mapA ag112 sz112 encG_len hk', ldV gv]
    refine ⟨_, count_ref1 G v gs[k] (hin _ (List.getElem_mem hk')) _, ?_⟩
    try simp -implicitDefEqProofs only [dcont_s, DD_nil, awp_cond, seqQ_n, upd_app, ev_tmp, holdsO_ofO, bin_eql, ↓reduceIte]
    rw [zero_pos (hpos _ (List.getElem_mem hk'))]
    cases hp : decide (countG v gs[k] > 0)
    · obtain ⟨v', H2, ha, ho', hkeep, he', hle, hb'⟩ := ho.append ud32 sz106 zs32 by32 (by omega) (by omega) he gs[k]
      simp -implicitDefEqProofs only [evp_nil, evp_cons, awp_reg, cond_t, WW_one, none_md, none_fz, frz_nil, ownOp, wc_app, wcont_s, upd_app, ev_tmp, x_move, x_buildSlice, x_load, x_fieldAddr, x_indexAddr, x_append, holdsO_some, holdsO_ofO, ↓reduceIte, Nat.reduceEqDiff, Nat.add_zero, Option.getD_some, Bool.not_false, enP, ix103, fa112_0, f6, f7, ix_map hk', ldHf hk', bs32]
      refine holdsO_of (v := v') (h := H2) ha ?_
      simp -implicitDefEqProofs only [awp_reg, seqQ_n, blk_n, rnd_n, WW_one, WW_nil, none_md, none_fz, frz_nil, ownOp, wc_app, wcont_s, upd_app, ev_tmp, ev_const, av_int, x_move, x_assign, x_bin, holdsO_ofO, bin_add, ↓reduceIte, Nat.reduceEqDiff, Option.getD_some, Bool.not_false, enP, f7, wrap_succ (show k < 9223372036854775807 by omega)]
      refine ⟨n - 1, by omega, k + 1, by omega, f3, f6, rfl, hkeep _ _ gv (fun e => by have := hlt _ e; omega), he', fun b hbb => ?_, ?_⟩
      · have h1 := hb' b hbb; have h2 := lt_of_getElem? gv; omega
      · rw [hct, hp]; exact ho'
    · simp -implicitDefEqProofs only [awp_reg, awp_skip, seqQ_n, blk_n, rnd_n, cond_f, WW_one, WW_nil, none_md, none_fz, frz_nil, ownOp, wc_app, wcont_s, upd_app, ev_tmp, ev_const, av_int, x_move, x_assign, x_bin, holdsO_ofO, bin_add, ↓reduceIte, Nat.reduceEqDiff, Option.getD_some, Bool.not_true, Bool.not_false, enP, f7, wrap_succ (show k < 9223372036854775807 by omega)]
      refine ⟨n - 1, by omega, k + 1, by omega, f3, f6, rfl, gv, he, hlt, ?_⟩
      rw [hct, hp]
      simp only [Bool.not_true, Bool.false_eq_true, if_false, List.append_nil]
      exact ho
  · have hk' : ¬ k < gs.length := by simpa using hc
    rw [List.take_of_length_le (by omega)] at ho
    simp -implicitDefEqProofs only [awp_seq, awp_reg, awp_ret, awp_exit, seqQ_n, seqQ_e, blk_e, rnd_e, end_r, WW_one, WW_nil, none_md, none_fz, frz_nil, ownOp, wc_app, wcont_s, upd_app, ev_tmp, x_move, x_assign, ↓reduceIte, Nat.reduceEqDiff, Option.getD_some, Bool.not_false]
    exact ⟨he, ho⟩
theorem reach_holes {m : Mo} {v : Cvr} (hf : fitsB m v = true) : reachN m v + (holesL m v).length = goalN m := by
  unfold reachN holesL goalN
  rw [if_pos hf, if_pos hf, if_pos (fitsB_good hf)]
  generalize goals m = gs
  induction gs with
  | nil => rfl
  | cons g gs ih =>
    cases hp : decide (countG v g > 0)
    · simp only [List.countP_cons, List.filter_cons, hp, List.length_cons, Bool.not_false, if_true, Bool.false_eq_true, if_false] at ih ⊢
      omega
    · simp only [List.countP_cons, List.filter_cons, hp, List.length_cons, Bool.not_true, if_true, Bool.false_eq_true, if_false] at ih ⊢
      omega
theorem goalN_le {m : Mo} : goalN m ≤ 8192 := by
  unfold goalN
  split
  · rename_i h; exact goals_len (good_of h)
  · omega
theorem reach_ref (G : Nat → AV) (m : Mo) (v : Cvr) (hm : MoOk m) (hv : CvOk v) (h : Hp) : PCall (En G) 25 [.agg (encM m), .agg (encV v)] h (.int .i64 (reachN m v)) := by
  refine ACalls.pure0 rfl ?_
  refine acalls_of (H := Hint.none) (enM G) Tryz.func25 rfl (by kernel_rfl) (by kernel_rfl) (Nat.le_of_ble_eq_true (by kernel_rfl)) ?_
  show awp _ _ _ _ _ (endQ _ [.tmp 4] _)
  have t := TwoV.mk' h m v
  simp -implicitDefEqProofs only [awp_seq, awp_reg, seqQ_n, WW_one, WW_nil, none_md, none_fz, frz_nil, ownOp, wc_app, wcont_s, upd_app, ev_tmp, ev_const, av_int, x_assign, x_box, x_load, holdsO_some, frameOf_zero, frameOf_succ, ↓reduceIte, Nat.reduceEqDiff, Option.getD_some, Bool.not_false, enP, bxM, bxV]
  generalize h ++ [ABlk.live 2 [encM m]] ++ [ABlk.live 4 [encV v]] = H at t ⊢
  generalize (h ++ [ABlk.live 2 [encM m]]).length = vb at t ⊢
  simp -implicitDefEqProofs only [WW_one, none_md, none_fz, frz_nil, ownOp, wc_app, wcont_s, upd_app, ev_tmp, ev_func, X1_call, callA_fn, holdsO_ofO, List.map_cons, List.map_nil, List.append_nil, ↓reduceIte, Option.getD_some, Bool.not_false, ldM t.gm]
  refine (model_ref G m hm _).use ?_
  simp -implicitDefEqProofs only [WW_one, WW_guardE, GX_some, gdstO, none_md, none_fz, frz_nil, ownOp, wc_app, wcont_s, upd_app, ev_tmp, ev_const, av_int, x_move, x_bin, holdsO_ofO, bin_neq, ↓reduceIte, Option.getD_some, Bool.not_false, enP, bne]
  cases h1 : (modelE m == 0)
  · simp -implicitDefEqProofs only [awp_seq, awp_reg, awp_ret, awp_cond, seqQ_n, seqQ_r, end_r, cond_t, WW_one, WW_nil, WW_guardE, GX_some, gdstO, G1_ft, none_md, none_fz, frz_nil, ownOp, wc_app, wcont_s, upd_app, aput, ev_tmp, ev_const, av_int, av_bool, x_assign, x_pick, pick_t, ↓reduceIte, Nat.reduceEqDiff, Option.getD_some, Bool.not_false]
    exact ⟨by unfold reachN fitsB; rw [h1]; rfl, t.hx⟩
  simp -implicitDefEqProofs only [WW_guardE, GX_some, gdstO, G1_ff, none_md, none_fz, frz_nil, ownOp, wc_app, wcont_s, upd_app, ev_tmp, ev_func, x_load, X1_call, callA_fn, holdsO_ofO, List.map_cons, List.map_nil, List.append_nil, ↓reduceIte, Nat.reduceEqDiff, Option.getD_some, Bool.not_true, Bool.not_false, enP, ldM t.gm, ldV t.gv]
  refine (fits_ref G m v hm hv _).use ?_
  simp -implicitDefEqProofs only [awp_cond, seqQ_n, WW_one, WW_nil, WW_guardE, GX_some, gdstO, G1_ff, none_md, none_fz, frz_nil, ownOp, wc_app, wcont_s, upd_app, ev_tmp, ev_const, av_bool, x_pick, pick_f, x_un, holdsO_ofO, un_not, ↓reduceIte, Nat.reduceEqDiff, Option.getD_some, Bool.not_false]
  cases hf : fitsB m v
  · simp -implicitDefEqProofs only [awp_seq, awp_reg, awp_ret, seqQ_n, seqQ_r, end_r, cond_t, WW_one, WW_nil, none_md, none_fz, frz_nil, ownOp, wc_app, wcont_s, upd_app, ev_const, av_int, x_assign, ↓reduceIte, Option.getD_some, Bool.not_false]
    exact ⟨by unfold reachN; rw [hf]; rfl, t.hx⟩
  have hrh := reach_holes hf
  have hgn := goalN_le (m := m)
  have hw : IntKind.i64.wrap ((goalN m : Int) - ((holesL m v).length : Int)) = ((reachN m v : Nat) : Int) := by
    rw [wrap_i64 (by omega) (by omega)]; omega
  simp -implicitDefEqProofs only [awp_seq, awp_skip, seqQ_n, cond_f, Bool.not_true]
  refine awp_draw (by kernel_rfl) ?_
  simp -implicitDefEqProofs only [YO_f, dc_app, dcont_s, DD_one, y_load, y_builtin, Y1_call, callP_fn, none_md, upd_app, ev_tmp, ev_func, x_load, x_len, holdsO_ofO, List.map_cons, List.map_nil, List.append_nil, ↓reduceIte, Nat.reduceEqDiff, Nat.reduceAdd, Option.getD_some, enP, ldM t.gm, ldV t.gv]
  refine ⟨_, goal_ref G m hm _, ?_⟩
  try simp -implicitDefEqProofs only [ldM t.gm, ldV t.gv]
  refine ⟨_, holes_ref G m v hm hv _, ?_⟩
  try simp -implicitDefEqProofs only [YO_f, dc_app, dcont_s, DD_nil, DD_one, y_assign, y_bin, awp_ret, seqQ_n, end_r, none_md, upd_app, ev_tmp, x_bin, holdsO_ofO, bin_sub, ↓reduceIte, Nat.reduceEqDiff, Nat.reduceAdd, Option.getD_some, enP, ln32, List.length_map, hw]
  exact ⟨trivial, t.hx⟩
def percN (m : Mo) (v : Cvr) : Nat := if fitsB m v = true then (if goalN m = 0 then 100 else 100 * reachN m v / goalN m) else 0
theorem reachN_le {m : Mo} {v : Cvr} (hf : fitsB m v = true) : reachN m v ≤ goalN m := by have := reach_holes hf; omega
theorem perc_prog (G : Nat → AV) (hG : GOk G) (hT : TupleOk G) (m : Mo) (v : Cvr) (hm : MoOk m) (hv : CvOk v) (h : Hp) : PCall (En G) 26 [.agg (encM m), .agg (encV v)] h (.int .i64 (percN m v)) := by
  refine ACalls.pure0 rfl ?_
  refine acalls_of (H := Hint.none) (enM G) Tryz.func26 rfl (by kernel_rfl) (by kernel_rfl) (Nat.le_of_ble_eq_true (by kernel_rfl)) ?_
  show awp _ _ _ _ _ (endQ _ [.tmp 4] _)
  have t := TwoV.mk' h m v
  simp -implicitDefEqProofs only [awp_seq, awp_reg, seqQ_n, WW_one, WW_nil, none_md, none_fz, frz_nil, ownOp, wc_app, wcont_s, upd_app, ev_tmp, ev_const, av_int, x_assign, x_box, x_load, holdsO_some, frameOf_zero, frameOf_succ, ↓reduceIte, Nat.reduceEqDiff, Option.getD_some, Bool.not_false, enP, bxM, bxV]
  generalize h ++ [ABlk.live 2 [encM m]] ++ [ABlk.live 4 [encV v]] = H at t ⊢
  generalize (h ++ [ABlk.live 2 [encM m]]).length = vb at t ⊢
  simp -implicitDefEqProofs only [WW_one, none_md, none_fz, frz_nil, ownOp, wc_app, wcont_s, upd_app, ev_tmp, ev_func, x_load, X1_call, callA_fn, holdsO_ofO, List.map_cons, List.map_nil, List.append_nil, ↓reduceIte, Nat.reduceEqDiff, Option.getD_some, Bool.not_false, enP, ldM t.gm, ldV t.gv]
  refine (fits_prog G hG hT m v hm hv _).use ?_
  simp -implicitDefEqProofs only [awp_cond, seqQ_n, WW_one, WW_nil, none_md, none_fz, frz_nil, ownOp, wc_app, wcont_s, upd_app, ev_tmp, x_un, holdsO_ofO, un_not, ↓reduceIte, Option.getD_some, Bool.not_false]
  cases hf : fitsB m v
  · simp -implicitDefEqProofs only [awp_seq, awp_reg, awp_ret, seqQ_n, seqQ_r, end_r, cond_t, WW_one, WW_nil, none_md, none_fz, frz_nil, ownOp, wc_app, wcont_s, upd_app, ev_const, av_int, x_assign, ↓reduceIte, Option.getD_some, Bool.not_false]
    exact ⟨by unfold percN; rw [hf]; rfl, t.hx⟩
  have hgn := goalN_le (m := m)
  have hrl := reachN_le hf
  simp -implicitDefEqProofs only [awp_seq, awp_reg, awp_skip, seqQ_n, cond_f, WW_one, none_md, none_fz, frz_nil, ownOp, wc_app, wcont_s, upd_app, ev_tmp, ev_func, x_load, X1_call, callA_fn, holdsO_ofO, List.map_cons, List.map_nil, List.append_nil, ↓reduceIte, Nat.reduceEqDiff, Option.getD_some, Bool.not_true, Bool.not_false, enP, ldM t.gm]
  refine (goal_prog G hG m hm _).use ?_
  simp -implicitDefEqProofs only [awp_seq, awp_reg, awp_cond, seqQ_n, WW_one, WW_nil, none_md, none_fz, frz_nil, ownOp, wc_app, wcont_s, upd_app, ev_tmp, ev_const, av_int, x_move, x_assign, x_bin, holdsO_ofO, bin_eql, ↓reduceIte, Option.getD_some, Bool.not_false, enP]
  refine cond_of (fun h2 => ?_) (fun h2 => ?_)
  · simp -implicitDefEqProofs only [awp_seq, awp_reg, awp_ret, seqQ_n, seqQ_r, end_r, WW_one, WW_nil, none_md, none_fz, frz_nil, ownOp, wc_app, wcont_s, upd_app, ev_const, av_int, x_assign, ↓reduceIte, Option.getD_some, Bool.not_false]
    have : goalN m = 0 := by simpa using h2
    exact ⟨by unfold percN; rw [if_pos hf, if_pos this]; rfl, t.hx⟩
  have hg0 : goalN m ≠ 0 := by simpa using h2
  have hw : IntKind.i64.wrap (100 * (reachN m v : Int)) = ((100 * reachN m v : Nat) : Int) := by
    rw [wrap_i64 (by omega) (by omega)]; omega
  simp -implicitDefEqProofs only [awp_seq, awp_reg, awp_skip, seqQ_n, WW_one, none_md, none_fz, frz_nil, ownOp, wc_app, wcont_s, upd_app, ev_tmp, ev_func, x_load, X1_call, callA_fn, holdsO_ofO, List.map_cons, List.map_nil, List.append_nil, ↓reduceIte, Nat.reduceEqDiff, Option.getD_some, Bool.not_false, enP, ldM t.gm, ldV t.gv]
  refine (reach_prog G hG hT m v hm hv _).use ?_
  simp -implicitDefEqProofs only [awp_ret, seqQ_n, end_r, WW_one, WW_nil, none_md, none_fz, frz_nil, ownOp, wc_app, wcont_s, upd_app, ev_tmp, ev_const, av_int, x_move, x_assign, x_bin, holdsO_ofO, bin_mul, ↓reduceIte, Nat.reduceEqDiff, Option.getD_some, Bool.not_false, enP, hw, quo_nat _ _ (Nat.pos_of_ne_zero hg0) (show 100 * reachN m v ≤ 9223372036854775807 by omega)]
  exact ⟨by unfold percN; rw [if_pos hf, if_neg hg0], t.hx⟩
theorem perc_ref (G : Nat → AV) (m : Mo) (v : Cvr) (hm : MoOk m) (hv : CvOk v) (h : Hp) : PCall (En G) 27 [.agg (encM m), .agg (encV v)] h (.int .i64 (percN m v)) := by
  refine ACalls.pure0 rfl ?_
  refine acalls_of (H := Hint.none) (enM G) Tryz.func27 rfl (by kernel_rfl) (by kernel_rfl) (Nat.le_of_ble_eq_true (by kernel_rfl)) ?_
  show awp _ _ _ _ _ (endQ _ [.tmp 4] _)
  have t := TwoV.mk' h m v
  simp -implicitDefEqProofs only [awp_seq, awp_reg, seqQ_n, WW_one, WW_nil, none_md, none_fz, frz_nil, ownOp, wc_app, wcont_s, upd_app, ev_tmp, ev_const, av_int, x_assign, x_box, x_load, holdsO_some, frameOf_zero, frameOf_succ, ↓reduceIte, Nat.reduceEqDiff, Option.getD_some, Bool.not_false, enP, bxM, bxV]
  generalize h ++ [ABlk.live 2 [encM m]] ++ [ABlk.live 4 [encV v]] = H at t ⊢
  generalize (h ++ [ABlk.live 2 [encM m]]).length = vb at t ⊢
  simp -implicitDefEqProofs only [WW_one, none_md, none_fz, frz_nil, ownOp, wc_app, wcont_s, upd_app, ev_tmp, ev_func, X1_call, callA_fn, holdsO_ofO, List.map_cons, List.map_nil, List.append_nil, ↓reduceIte, Option.getD_some, Bool.not_false, ldM t.gm]
  refine (model_ref G m hm _).use ?_
  simp -implicitDefEqProofs only [WW_one, WW_guardE, GX_some, gdstO, none_md, none_fz, frz_nil, ownOp, wc_app, wcont_s, upd_app, ev_tmp, ev_const, av_int, x_move, x_bin, holdsO_ofO, bin_neq, ↓reduceIte, Option.getD_some, Bool.not_false, enP, bne]
  cases h1 : (modelE m == 0)
  · simp -implicitDefEqProofs only [awp_seq, awp_reg, awp_ret, awp_cond, seqQ_n, seqQ_r, end_r, cond_t, WW_one, WW_nil, WW_guardE, GX_some, gdstO, G1_ft, none_md, none_fz, frz_nil, ownOp, wc_app, wcont_s, upd_app, aput, ev_tmp, ev_const, av_int, av_bool, x_assign, x_pick, pick_t, ↓reduceIte, Nat.reduceEqDiff, Option.getD_some, Bool.not_false]
    exact ⟨by unfold percN fitsB; rw [h1]; rfl, t.hx⟩
  simp -implicitDefEqProofs only [WW_guardE, GX_some, gdstO, G1_ff, none_md, none_fz, frz_nil, ownOp, wc_app, wcont_s, upd_app, ev_tmp, ev_func, x_load, X1_call, callA_fn, holdsO_ofO, List.map_cons, List.map_nil, List.append_nil, ↓reduceIte, Nat.reduceEqDiff, Option.getD_some, Bool.not_true, Bool.not_false, enP, ldM t.gm, ldV t.gv]
  refine (fits_ref G m v hm hv _).use ?_
  simp -implicitDefEqProofs only [awp_cond, seqQ_n, WW_one, WW_nil, WW_guardE, GX_some, gdstO, G1_ff, none_md, none_fz, frz_nil, ownOp, wc_app, wcont_s, upd_app, ev_tmp, ev_const, av_bool, x_pick, pick_f, x_un, holdsO_ofO, un_not, ↓reduceIte, Nat.reduceEqDiff, Option.getD_some, Bool.not_false]
  cases hf : fitsB m v
  · simp -implicitDefEqProofs only [awp_seq, awp_reg, awp_ret, seqQ_n, seqQ_r, end_r, cond_t, WW_one, WW_nil, none_md, none_fz, frz_nil, ownOp, wc_app, wcont_s, upd_app, ev_const, av_int, x_assign, ↓reduceIte, Option.getD_some, Bool.not_false]
    exact ⟨by unfold percN; rw [hf]; rfl, t.hx⟩
  have hgn := goalN_le (m := m)
  have hrl := reachN_le hf
  simp -implicitDefEqProofs only [awp_seq, awp_reg, awp_skip, seqQ_n, cond_f, WW_one, none_md, none_fz, frz_nil, ownOp, wc_app, wcont_s, upd_app, ev_tmp, ev_func, x_load, X1_call, callA_fn, holdsO_ofO, List.map_cons, List.map_nil, List.append_nil, ↓reduceIte, Nat.reduceEqDiff, Option.getD_some, Bool.not_true, Bool.not_false, enP, ldM t.gm]
  refine (goal_ref G m hm _).use ?_
  simp -implicitDefEqProofs only [awp_cond, seqQ_n, WW_one, WW_nil, none_md, none_fz, frz_nil, ownOp, wc_app, wcont_s, upd_app, ev_tmp, ev_const, av_int, x_bin, holdsO_ofO, bin_eql, ↓reduceIte, Option.getD_some, Bool.not_false, enP]
  refine cond_of (fun h2 => ?_) (fun h2 => ?_)
  · simp -implicitDefEqProofs only [awp_seq, awp_reg, awp_ret, seqQ_n, seqQ_r, end_r, WW_one, WW_nil, none_md, none_fz, frz_nil, ownOp, wc_app, wcont_s, upd_app, ev_const, av_int, x_assign, ↓reduceIte, Option.getD_some, Bool.not_false]
    have : goalN m = 0 := by simpa using h2
    exact ⟨by unfold percN; rw [if_pos hf, if_pos this]; rfl, t.hx⟩
  have hg0 : goalN m ≠ 0 := by simpa using h2
  have hw : IntKind.i64.wrap ((reachN m v : Int) * 100) = ((100 * reachN m v : Nat) : Int) := by
    rw [wrap_i64 (by omega) (by omega)]; omega
  simp -implicitDefEqProofs only [awp_seq, awp_skip, seqQ_n]
  refine awp_draw (by kernel_rfl) ?_
  simp -implicitDefEqProofs only [YO_f, dc_app, dcont_s, DD_one, y_load, y_bin, Y1_call, callP_fn, none_md, upd_app, ev_tmp, ev_const, ev_func, av_int, x_load, x_bin, holdsO_ofO, List.map_cons, List.map_nil, List.append_nil, ↓reduceIte, Nat.reduceEqDiff, Nat.reduceAdd, Option.getD_some, enP, ldM t.gm, ldV t.gv]
  refine ⟨_, reach_ref G m v hm hv _, ?_⟩
  try simp -implicitDefEqProofs only [YO_f, dc_app, dcont_s, DD_one, y_load, y_bin, Y1_call, callP_fn, none_md, upd_app, ev_tmp, ev_func, x_load, x_bin, holdsO_ofO, bin_mul, List.map_cons, List.map_nil, List.append_nil, ↓reduceIte, Nat.reduceEqDiff, Nat.reduceAdd, Option.getD_some, enP, hw, ldM t.gm]
  refine ⟨_, goal_ref G m hm _, ?_⟩
  try simp -implicitDefEqProofs only [YO_f, dc_app, dcont_s, DD_nil, DD_one, y_assign, awp_ret, seqQ_n, end_r, none_md, upd_app, ev_tmp, holdsO_ofO, ↓reduceIte, Nat.reduceAdd, Option.getD_some, hw, quo_nat _ _ (Nat.pos_of_ne_zero hg0) (show 100 * reachN m v ≤ 9223372036854775807 by omega)]
  exact ⟨by unfold percN; rw [if_pos hf, if_neg hg0], t.hx⟩
end Go.Proofs.YtocilianjfhifaaGreatDoor.Cov
