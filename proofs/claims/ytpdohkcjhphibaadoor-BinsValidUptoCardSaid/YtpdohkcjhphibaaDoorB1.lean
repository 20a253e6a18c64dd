import Derived.Test.YtpdohkcjhphibaaDoorFt
set_option linter.unusedVariables false
set_option linter.unusedSimpArgs false
namespace Go.Proofs.YtpdohkcjhphibaaDoor.Bins
open Go Go.Proofs.YtpdohkcjhphibaaDoor.Sm
structure Rng where
  lo : Int
  hi : Int
  deriving DecidableEq
def encR (r : Rng) : List AV := [.int .i64 r.lo, .int .i64 r.hi]
theorem encR_len (r : Rng) : (encR r).length = 2 := rfl
theorem encR0 (r : Rng) : (encR r)[0]? = some (.int .i64 r.lo) := rfl
theorem encR1 (r : Rng) : (encR r)[1]? = some (.int .i64 r.hi) := rfl
def inside (xs : List Rng) (v : Int) : Bool := xs.any fun r => decide (r.lo ≤ v) && decide (v ≤ r.hi)

theorem any_step {α : Type} (p : α → Bool) (xs : List α) (k : Nat) (h : k < xs.length) : (xs.drop k).any p = (p xs[k] || (xs.drop (k+1)).any p) := by
  rw [List.drop_eq_getElem_cons h, List.any_cons]

set_option maxHeartbeats 400000 in
theorem inside_ref (G : Nat → AV) (xs : List Rng) (m : SM) (v : Int) (h : Hp) (hl : xs.length ≤ 1099511627776) :
    PCall (En G) 10 [.sl m 2 (xs.map encR), .int .i64 v] h (.bool (inside xs v)) := by
  refine acalls_of (H := Hint.none) (enM G) Tryd.func10 rfl (by kernel_rfl) (by kernel_rfl) (Nat.le_of_ble_eq_true (by kernel_rfl)) ?_
  show awp _ _ _ _ _ (endQ _ [.tmp 4] _)
  simp -implicitDefEqProofs only [List.getElem?_cons_zero, List.getElem?_cons_succ, awp_seq, awp_block, awp_reg, seqQ_n, WW_one, WW_nil, none_md, none_fz, frz_nil, ownOp, wc_app, wcont_s, ev_const, av_int, av_bool, x_assign, Option.getD_some, Bool.not_false, enP]
  refine awp_loop (fun n F H => ∃ k, n + k = xs.length ∧ F 0 = .sl m 2 (xs.map encR) ∧ F 1 = .int .i64 v ∧ F 5 = .int .i64 (k : Nat) ∧ H = h ∧ inside xs v = inside (xs.drop k) v) xs.length ⟨0, by simp, rfl, rfl, rfl, rfl, rfl⟩ ?_
  rintro n F H ⟨k, hk, f0, f1, f5, rfl, hin⟩
  simp -implicitDefEqProofs only [List.getElem?_cons_zero, List.getElem?_cons_succ, awp_seq, awp_reg, awp_cond, seqQ_n, WW_one, WW_nil, none_md, none_fz, frz_nil, ownOp, wc_app, wcont_s, upd_app, ev_tmp, x_move, x_bin, x_len, holdsO_ofO, bin_lss, ↓reduceIte, Nat.reduceEqDiff, Option.getD_some, Bool.not_false, enP, ln22, f0, f5, List.length_map]
  refine cond_of (fun hc => ?_) (fun hc => ?_)
  · have hc' : k < xs.length := by simpa using hc
    have hs : inside (xs.drop k) v = (decide (xs[k].lo ≤ v) && decide (v ≤ xs[k].hi) || inside (xs.drop (k+1)) v) := any_step _ xs k hc'
    simp -implicitDefEqProofs only [List.getElem?_cons_zero, List.getElem?_cons_succ, awp_seq, awp_block, awp_reg, awp_skip, seqQ_n, WW_one, WW_guardE, GX_some, gdstO, none_md, none_fz, frz_nil, ownOp, wc_app, wcont_s, upd_app, ev_tmp, x_move, x_load, x_bin, x_fieldAddr, x_indexAddr, holdsO_ofO, bin_leq, ↓reduceIte, Nat.reduceEqDiff, Nat.add_zero, Option.getD_some, Bool.not_false, enP, ix22, fa33_0, f0, f1, f5, ix_map hc', load_map ag3 hc', encR0]
    refine G1_of (fun ha => ?_) (fun ha => ?_)
    · simp -implicitDefEqProofs only [List.getElem?_cons_zero, List.getElem?_cons_succ, awp_cond, seqQ_n, WW_one, WW_nil, WW_guardE, GX_some, gdstO, G1_tt, none_md, none_fz, frz_nil, ownOp, wc_app, wcont_s, upd_app, ev_tmp, ev_const, av_bool, x_move, x_pick, pick_t, x_load, x_bin, x_fieldAddr, x_indexAddr, holdsO_ofO, bin_leq, ↓reduceIte, Nat.reduceEqDiff, Nat.zero_add, Option.getD_some, Bool.not_false, enP, ix22, fa33_1, f0, f1, f5, ix_map hc', load_map ag3 hc', encR1, ha]
      refine cond_of (fun hb => ?_) (fun hb => ?_)
      · simp -implicitDefEqProofs only [List.getElem?_cons_zero, List.getElem?_cons_succ, awp_seq, awp_reg, awp_ret, seqQ_n, seqQ_r, blk_r, rnd_r, end_r, WW_one, WW_nil, none_md, none_fz, frz_nil, ownOp, wc_app, wcont_s, upd_app, ev_const, av_bool, x_assign, ↓reduceIte, Option.getD_some, Bool.not_false]
        exact ⟨by rw [hin, hs, ha, hb]; rfl, trivial⟩
      · simp -implicitDefEqProofs only [List.getElem?_cons_zero, List.getElem?_cons_succ, awp_reg, awp_skip, seqQ_n, blk_n, rnd_n, WW_one, WW_nil, none_md, none_fz, frz_nil, ownOp, wc_app, wcont_s, upd_app, ev_tmp, ev_const, av_int, x_move, x_assign, x_bin, holdsO_ofO, bin_add, ↓reduceIte, Nat.reduceEqDiff, Option.getD_some, Bool.not_false, enP, f5, wrap_succ (show k < 9223372036854775807 by omega)]
        exact ⟨n - 1, by omega, k + 1, by omega, f0, f1, rfl, trivial, by rw [hin, hs, ha, hb]; rfl⟩
    · simp -implicitDefEqProofs only [List.getElem?_cons_zero, List.getElem?_cons_succ, awp_reg, awp_skip, awp_cond, seqQ_n, blk_n, rnd_n, cond_f, WW_one, WW_nil, WW_guardE, GX_some, gdstO, G1_tf, none_md, none_fz, frz_nil, ownOp, wc_app, wcont_s, upd_app, aput, ev_tmp, ev_const, av_int, av_bool, x_move, x_assign, x_pick, pick_f, x_bin, holdsO_ofO, bin_add, ↓reduceIte, Nat.reduceEqDiff, Option.getD_some, Bool.not_false, enP, ha, f5, wrap_succ (show k < 9223372036854775807 by omega)]
      exact ⟨n - 1, by omega, k + 1, by omega, f0, f1, rfl, trivial, by rw [hin, hs, ha]; rfl⟩
  · have hc' : ¬ k < xs.length := by simpa using hc
    simp -implicitDefEqProofs only [List.getElem?_cons_zero, List.getElem?_cons_succ, awp_seq, awp_reg, awp_ret, awp_exit, seqQ_n, seqQ_e, blk_e, rnd_e, end_r, WW_one, WW_nil, none_md, none_fz, frz_nil, ownOp, wc_app, wcont_s, upd_app, ev_const, av_bool, x_assign, ↓reduceIte, Option.getD_some, Bool.not_false]
    exact ⟨by rw [hin, List.drop_eq_nil_of_le (by omega)]; rfl, trivial⟩

theorem bxR (h : Hp) (r : Rng) : aBox h (.agg (encR r)) = some (.ptr h.length 0 0, h ++ [.live 2 [encR r]]) := rfl

/-- the closure of Inside -/
theorem inside_fn (G : Nat → AV) (r : Rng) (b : Nat) (v : Int) (h : Hp) (hv : aLoad Tryd.prog h 3 (.ptr b 0 0) = some (.int .i64 v)) :
    PCall (En G) 27 [.agg (encR r), .ptr b 0 0] h (.bool (decide (r.lo ≤ v) && decide (v ≤ r.hi))) := by
  refine ACalls.pure0 rfl ?_
  refine acalls_of (H := Hint.none) (enM G) Tryd.func27 rfl (by kernel_rfl) (by kernel_rfl) (Nat.le_of_ble_eq_true (by kernel_rfl)) ?_
  show awp _ _ _ _ _ (endQ _ [.tmp 3] _)
  simp -implicitDefEqProofs only [List.getElem?_cons_zero, List.getElem?_cons_succ, awp_seq, awp_reg, seqQ_n, WW_one, WW_nil, WW_guardE, GX_some, gdstO, none_md, none_fz, frz_nil, ownOp, wc_app, wcont_s, upd_app, ev_tmp, ev_const, av_bool, x_move, x_assign, x_box, x_load, x_bin, x_fieldAddr, holdsO_some, holdsO_ofO, bin_leq, frameOf_zero, frameOf_succ, ↓reduceIte, Nat.reduceEqDiff, Nat.add_zero, Option.getD_some, Bool.not_false, enP, fa33_0, bxR, load_last ag3, load_app hv, encR0]
  refine G1_of (fun ha => ?_) (fun ha => ?_)
  · simp -implicitDefEqProofs only [List.getElem?_cons_zero, List.getElem?_cons_succ, awp_ret, seqQ_n, end_r, WW_one, WW_nil, WW_guardE, GX_some, gdstO, G1_tt, none_md, none_fz, frz_nil, ownOp, wc_app, wcont_s, upd_app, ev_tmp, ev_const, av_bool, x_assign, x_pick, pick_t, x_load, x_bin, x_fieldAddr, holdsO_ofO, bin_leq, frameOf_zero, frameOf_succ, ↓reduceIte, Nat.reduceEqDiff, Nat.zero_add, Option.getD_some, Bool.not_false, enP, fa33_1, load_last ag3, load_app hv, encR1, ha]
    exact ⟨by simp, _, rfl⟩
  · simp -implicitDefEqProofs only [List.getElem?_cons_zero, List.getElem?_cons_succ, awp_ret, seqQ_n, end_r, WW_one, WW_nil, WW_guardE, GX_some, gdstO, G1_tf, none_md, none_fz, frz_nil, ownOp, wc_app, wcont_s, upd_app, aput, ev_tmp, ev_const, av_bool, x_assign, x_pick, pick_f, ↓reduceIte, Nat.reduceEqDiff, Option.getD_some, Bool.not_false, ha]
    exact ⟨by simp, _, rfl⟩

/-- IndexFunc over ranges -/
theorem indexFunc (G : Nat → AV) (xs : List Rng) (m : SM) (fid : FuncId) (caps : List AV) (p : Rng → Bool) (h : Hp) (hl : xs.length ≤ 1099511627776)
    (hf : ∀ r, PCall (En G) fid (.agg (encR r) :: caps) h (.bool (p r))) :
    PCall (En G) 47 [.sl m 2 (xs.map encR), .fn (.func fid) [] caps] h (.int .i64 (match xs.findIdx? p with | some i => (i : Int) | none => -1)) := by
  refine acalls_of (H := Hint.none) (enM G) Tryd.func47 rfl (by kernel_rfl) (by kernel_rfl) (Nat.le_of_ble_eq_true (by kernel_rfl)) ?_
  show awp _ _ _ _ _ (endQ _ [.tmp 4] _)
  simp -implicitDefEqProofs only [List.getElem?_cons_zero, List.getElem?_cons_succ, awp_seq, awp_block, awp_reg, seqQ_n, WW_one, WW_nil, none_md, none_fz, frz_nil, ownOp, wc_app, wcont_s, upd_app, ev_tmp, ev_const, av_int, x_move, x_assign, x_len, holdsO_ofO, frameOf_zero, ↓reduceIte, Nat.reduceEqDiff, Option.getD_some, Bool.not_false, enP, ln22, List.length_map]
  refine awp_loop (fun n F H => ∃ k, n + k = xs.length ∧ F 0 = .sl m 2 (xs.map encR) ∧ F 1 = .fn (.func fid) [] caps ∧ F 7 = .int .i64 xs.length ∧ F 8 = .int .i64 (k : Nat) ∧ H = h ∧ (xs.take k).all (fun r => !p r) = true) xs.length ⟨0, by simp, rfl, rfl, rfl, rfl, rfl, rfl⟩ ?_
  rintro n F H ⟨k, hk, f0, f1, f7, f8, rfl, hin⟩
  simp -implicitDefEqProofs only [List.getElem?_cons_zero, List.getElem?_cons_succ, awp_seq, awp_reg, awp_cond, seqQ_n, WW_one, WW_nil, none_md, none_fz, frz_nil, ownOp, wc_app, wcont_s, upd_app, ev_tmp, x_bin, holdsO_ofO, bin_lss, ↓reduceIte, Option.getD_some, Bool.not_false, enP, f7, f8]
  refine cond_of (fun hc => ?_) (fun hc => ?_)
  · have hc' : k < xs.length := by simpa using hc
    simp -implicitDefEqProofs only [List.getElem?_cons_zero, List.getElem?_cons_succ, awp_seq, awp_block, awp_reg, awp_skip, seqQ_n, WW_one, WW_nil, none_md, none_fz, frz_nil, ownOp, wc_app, wcont_s, upd_app, ev_tmp, x_move, x_assign, x_load, x_indexAddr, X1_call, callA_fn, holdsO_ofO, List.map_cons, List.map_nil, List.nil_append, List.cons_append, ↓reduceIte, Nat.reduceEqDiff, Option.getD_some, Bool.not_false, enP, ix22, f0, f1, f8, ix_map hc', load_mapA ag33 sz33 encR_len hc']
    refine (hf _).use ?_
    simp -implicitDefEqProofs only [List.getElem?_cons_zero, List.getElem?_cons_succ, awp_cond, seqQ_n, WW_nil, wcont_s, upd_app, ev_tmp, ↓reduceIte]
    refine cond_of (fun hb => ?_) (fun hb => ?_)
    · simp -implicitDefEqProofs only [List.getElem?_cons_zero, List.getElem?_cons_succ, awp_seq, awp_reg, awp_ret, seqQ_n, seqQ_r, blk_r, rnd_r, end_r, WW_one, WW_nil, none_md, none_fz, frz_nil, ownOp, wc_app, wcont_s, upd_app, ev_tmp, x_move, x_assign, ↓reduceIte, Nat.reduceEqDiff, Option.getD_some, Bool.not_false]
      refine ⟨?_, trivial⟩
      rw [List.findIdx?_eq_some_iff_getElem.2 ⟨hc', hb, fun j hj => by
        rw [List.all_eq_true] at hin
        have := hin xs[j] (by rw [List.mem_take_iff_getElem]; exact ⟨j, by omega, rfl⟩)
        simpa using this⟩]
    · simp -implicitDefEqProofs only [List.getElem?_cons_zero, List.getElem?_cons_succ, awp_reg, awp_skip, seqQ_n, blk_n, rnd_n, WW_one, WW_nil, none_md, none_fz, frz_nil, ownOp, wc_app, wcont_s, upd_app, ev_tmp, ev_const, av_int, x_move, x_bin, holdsO_ofO, bin_add, ↓reduceIte, Nat.reduceEqDiff, Option.getD_some, Bool.not_false, enP, f8, wrap_succ (show k < 9223372036854775807 by omega)]
      refine ⟨n - 1, by omega, k + 1, by omega, f0, f1, f7, rfl, trivial, ?_⟩
      rw [List.take_succ_eq_append_getElem hc', List.all_append, hin]
      simp only [List.all_cons, List.all_nil, hb]; rfl
  · have hc' : ¬ k < xs.length := by simpa using hc
    simp -implicitDefEqProofs only [List.getElem?_cons_zero, List.getElem?_cons_succ, awp_seq, awp_reg, awp_ret, awp_exit, seqQ_n, seqQ_e, blk_e, rnd_e, end_r, WW_one, WW_nil, none_md, none_fz, frz_nil, ownOp, wc_app, wcont_s, upd_app, ev_const, av_int, x_assign, ↓reduceIte, Option.getD_some, Bool.not_false]
    refine ⟨?_, trivial⟩
    rw [List.take_of_length_le (by omega)] at hin
    rw [List.findIdx?_eq_none_iff.2 (by simpa using hin)]

/-- ContainsFunc over ranges -/
theorem containsFunc (G : Nat → AV) (xs : List Rng) (m : SM) (fid : FuncId) (caps : List AV) (p : Rng → Bool) (h : Hp) (hl : xs.length ≤ 1099511627776)
    (hf : ∀ r, PCall (En G) fid (.agg (encR r) :: caps) h (.bool (p r))) :
    PCall (En G) 26 [.sl m 2 (xs.map encR), .fn (.func fid) [] caps] h (.bool (xs.any p)) := by
  refine acalls_of (H := Hint.none) (enM G) Tryd.func26 rfl (by kernel_rfl) (by kernel_rfl) (Nat.le_of_ble_eq_true (by kernel_rfl)) ?_
  show awp _ _ _ _ _ (endQ _ [.tmp 4] _)
  simp -implicitDefEqProofs only [List.getElem?_cons_zero, List.getElem?_cons_succ, awp_seq, awp_reg, seqQ_n, WW_one, WW_nil, none_md, none_fz, frz_nil, ownOp, wc_app, wcont_s, upd_app, ev_tmp, ev_const, ev_func, av_bool, x_move, x_assign, X1_call, callA_fn, frameOf_zero, frameOf_succ, List.map_cons, List.map_nil, List.append_nil, ↓reduceIte, Nat.reduceEqDiff, Option.getD_some, Bool.not_false, enP]
  refine (indexFunc G xs m fid caps p h hl hf).use ?_
  simp -implicitDefEqProofs only [List.getElem?_cons_zero, List.getElem?_cons_succ, awp_ret, seqQ_n, end_r, WW_one, WW_nil, none_md, none_fz, frz_nil, ownOp, wc_app, wcont_s, upd_app, ev_tmp, ev_const, av_int, x_assign, x_bin, holdsO_ofO, bin_geq, ↓reduceIte, Option.getD_some, Bool.not_false, enP]
  refine ⟨?_, trivial⟩
  cases hx : xs.findIdx? p with
  | some i =>
    obtain ⟨h1, h2, _⟩ := List.findIdx?_eq_some_iff_getElem.1 hx
    have : xs.any p = true := List.any_eq_true.2 ⟨xs[i], by simp, h2⟩
    simp [this]
  | none =>
    have : xs.any p = false := by
      rw [List.findIdx?_eq_none_iff] at hx
      rw [List.any_eq_false]; intro x hx2; simp [hx x hx2]
    simp [this]

theorem inside_prog (G : Nat → AV) (xs : List Rng) (m : SM) (v : Int) (h : Hp) (hl : xs.length ≤ 1099511627776) :
    PCall (En G) 9 [.sl m 2 (xs.map encR), .int .i64 v] h (.bool (inside xs v)) := by
  refine ACalls.pure0 rfl ?_
  refine acalls_of (H := Hint.none) (enM G) Tryd.func9 rfl (by kernel_rfl) (by kernel_rfl) (Nat.le_of_ble_eq_true (by kernel_rfl)) ?_
  show awp _ _ _ _ _ (endQ _ [.tmp 4] _)
  simp -implicitDefEqProofs only [List.getElem?_cons_zero, List.getElem?_cons_succ, box_int, awp_seq, awp_reg, seqQ_n, WW_one, WW_nil, none_md, none_fz, frz_nil, ownOp, wc_app, wcont_s, upd_app, ev_tmp, ev_const, ev_func, av_bool, x_move, x_assign, x_box, x_makeFunc, X1_call, callA_fn, holdsO_some, frameOf_zero, frameOf_succ, List.map_cons, List.map_nil, List.append_nil, ↓reduceIte, Nat.reduceEqDiff, Option.getD_some, Bool.not_false, enP]
  refine (containsFunc G xs m 27 _ _ _ hl fun r => inside_fn G r h.length v _ (load_last ag3)).use ?_
  simp -implicitDefEqProofs only [List.getElem?_cons_zero, List.getElem?_cons_succ, awp_ret, seqQ_n, end_r, WW_one, WW_nil, none_md, none_fz, frz_nil, ownOp, wc_app, wcont_s, upd_app, ev_tmp, x_assign, ↓reduceIte, Option.getD_some, Bool.not_false]
  exact ⟨rfl, _, rfl⟩

end Go.Proofs.YtpdohkcjhphibaaDoor.Bins
