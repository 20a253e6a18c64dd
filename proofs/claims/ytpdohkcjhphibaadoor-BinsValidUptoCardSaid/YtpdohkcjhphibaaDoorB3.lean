/- Contracts of meet, common, sets and of the clones; no condition. -/
import Derived.Test.YtpdohkcjhphibaaDoorB2
set_option linter.unusedVariables false
set_option linter.unusedSimpArgs false
namespace Go.Proofs.YtpdohkcjhphibaaDoor.Bins
open Go Go.Proofs.YtpdohkcjhphibaaDoor.Sm

def touch (r s : Rng) : Bool := decide (max r.lo s.lo ≤ min r.hi s.hi)
def meet (xs ys : List Rng) : Bool := xs.any fun r => ys.any fun s => touch r s

theorem meet_fn2 (G : Nat → AV) (r s : Rng) (b : Nat) (h : Hp) (h0 : aLoad Tryd.prog h 3 (.ptr b 0 0) = some (.int .i64 r.lo)) (h1 : aLoad Tryd.prog h 3 (.ptr b 0 1) = some (.int .i64 r.hi)) :
    PCall (En G) 61 [.agg (encR s), .ptr b 0 0] h (.bool (touch r s)) := by
  refine ACalls.pure0 rfl ?_
  refine acalls_of (H := Hint.none) (enM G) Tryd.func61 rfl (by kernel_rfl) (by kernel_rfl) (Nat.le_of_ble_eq_true (by kernel_rfl)) ?_
  show awp _ _ _ _ _ (endQ _ [.tmp 3] _)
  simp -implicitDefEqProofs only [List.getElem?_cons_zero, List.getElem?_cons_succ, awp_seq, awp_reg, awp_ret, seqQ_n, end_r, WW_one, WW_nil, none_md, none_fz, frz_nil, ownOp, wc_app, wcont_s, upd_app, ev_tmp, ev_const, av_bool, x_assign, x_box, x_load, x_bin, x_fieldAddr, x_max, x_min, holdsO_some, holdsO_ofO, bin_leq, max_ii, min_ii, frameOf_zero, frameOf_succ, ↓reduceIte, Nat.reduceEqDiff, Nat.add_zero, Nat.zero_add, Option.getD_some, Bool.not_false, enP, fa33_0, fa33_1, bxR, load_last ag3, load_app h0, load_app h1, encR0, encR1]
  exact ⟨rfl, _, rfl⟩

theorem meet_fn1 (G : Nat → AV) (r : Rng) (ys : List Rng) (m : SM) (b : Nat) (h : Hp) (hl : ys.length ≤ 1099511627776) (hv : aLoad Tryd.prog h 22 (.ptr b 0 0) = some (.sl m 2 (ys.map encR))) :
    PCall (En G) 60 [.agg (encR r), .ptr b 0 0] h (.bool (ys.any fun s => touch r s)) := by
  refine ACalls.pure0 rfl ?_
  refine acalls_of (H := Hint.none) (enM G) Tryd.func60 rfl (by kernel_rfl) (by kernel_rfl) (Nat.le_of_ble_eq_true (by kernel_rfl)) ?_
  show awp _ _ _ _ _ (endQ _ [.tmp 3] _)
  simp -implicitDefEqProofs only [List.getElem?_cons_zero, List.getElem?_cons_succ, awp_seq, awp_reg, seqQ_n, WW_one, WW_nil, none_md, none_fz, frz_nil, ownOp, wc_app, wcont_s, upd_app, ev_tmp, ev_const, ev_func, av_bool, x_assign, x_box, x_load, x_makeFunc, X1_call, callA_fn, holdsO_some, holdsO_ofO, frameOf_zero, frameOf_succ, List.map_cons, List.map_nil, List.append_nil, ↓reduceIte, Nat.reduceEqDiff, Option.getD_some, Bool.not_false, enP, bxR, load_app hv]
  refine (containsFunc G ys m 61 _ _ _ hl fun s => meet_fn2 G r s h.length _ (load_last ag3) (load_last ag3)).use ?_
  simp -implicitDefEqProofs only [List.getElem?_cons_zero, List.getElem?_cons_succ, awp_ret, seqQ_n, end_r, WW_one, WW_nil, none_md, none_fz, frz_nil, ownOp, wc_app, wcont_s, upd_app, ev_tmp, x_assign, ↓reduceIte, Option.getD_some, Bool.not_false]
  exact ⟨trivial, _, rfl⟩

theorem meet_prog (G : Nat → AV) (xs ys : List Rng) (m m' : SM) (h : Hp) (hl : xs.length ≤ 1099511627776) (hl' : ys.length ≤ 1099511627776) :
    PCall (En G) 45 [.sl m 2 (xs.map encR), .sl m' 2 (ys.map encR)] h (.bool (meet xs ys)) := by
  refine ACalls.pure0 rfl ?_
  refine acalls_of (H := Hint.none) (enM G) Tryd.func45 rfl (by kernel_rfl) (by kernel_rfl) (Nat.le_of_ble_eq_true (by kernel_rfl)) ?_
  show awp _ _ _ _ _ (endQ _ [.tmp 4] _)
  simp -implicitDefEqProofs only [List.getElem?_cons_zero, List.getElem?_cons_succ, box_sl, awp_seq, awp_reg, seqQ_n, WW_one, WW_nil, none_md, none_fz, frz_nil, ownOp, wc_app, wcont_s, upd_app, ev_tmp, ev_const, ev_func, av_bool, x_move, x_assign, x_box, x_makeFunc, X1_call, callA_fn, holdsO_some, frameOf_zero, frameOf_succ, List.map_cons, List.map_nil, List.append_nil, ↓reduceIte, Nat.reduceEqDiff, Option.getD_some, Bool.not_false, enP]
  refine (containsFunc G xs m 60 _ _ _ hl fun r => meet_fn1 G r ys m' h.length _ hl' (load_last ag22)).use ?_
  simp -implicitDefEqProofs only [List.getElem?_cons_zero, List.getElem?_cons_succ, awp_ret, seqQ_n, end_r, WW_one, WW_nil, none_md, none_fz, frz_nil, ownOp, wc_app, wcont_s, upd_app, ev_tmp, x_assign, ↓reduceIte, Option.getD_some, Bool.not_false]
  exact ⟨rfl, _, rfl⟩

theorem common_ref (G : Nat → AV) (xs ys : List Rng) (m m' : SM) (h : Hp) (hl : xs.length ≤ 1099511627776) (hl' : ys.length ≤ 1099511627776) :
    PCall (En G) 46 [.sl m 2 (xs.map encR), .sl m' 2 (ys.map encR)] h (.bool (meet xs ys)) := by
  refine acalls_of (H := Hint.none) (enM G) Tryd.func46 rfl (by kernel_rfl) (by kernel_rfl) (Nat.le_of_ble_eq_true (by kernel_rfl)) ?_
  show awp _ _ _ _ _ (endQ _ [.tmp 4] _)
  simp -implicitDefEqProofs only [List.getElem?_cons_zero, List.getElem?_cons_succ, awp_seq, awp_block, awp_reg, seqQ_n, WW_one, WW_nil, none_md, none_fz, frz_nil, ownOp, wc_app, wcont_s, ev_const, av_int, av_bool, x_assign, Option.getD_some, Bool.not_false, enP]
  refine awp_loop (fun n F H => ∃ k, n + k = xs.length ∧ F 0 = .sl m 2 (xs.map encR) ∧ F 1 = .sl m' 2 (ys.map encR) ∧ F 5 = .int .i64 (k : Nat) ∧ H = h ∧ meet xs ys = meet (xs.drop k) ys) xs.length ⟨0, by simp, rfl, rfl, rfl, rfl, rfl⟩ ?_
  rintro n F H ⟨k, hk, f0, f1, f5, rfl, hin⟩
  simp -implicitDefEqProofs only [List.getElem?_cons_zero, List.getElem?_cons_succ, awp_seq, awp_reg, awp_cond, seqQ_n, WW_one, WW_nil, none_md, none_fz, frz_nil, ownOp, wc_app, wcont_s, upd_app, ev_tmp, x_move, x_bin, x_len, holdsO_ofO, bin_lss, ↓reduceIte, Nat.reduceEqDiff, Option.getD_some, Bool.not_false, enP, ln22, f0, f5, List.length_map]
  refine cond_of (fun hc => ?_) (fun hc => ?_)
  · have hc' : k < xs.length := by simpa using hc
    have hs : meet (xs.drop k) ys = ((ys.any fun s => touch xs[k] s) || meet (xs.drop (k+1)) ys) := any_step _ xs k hc'
    simp -implicitDefEqProofs only [List.getElem?_cons_zero, List.getElem?_cons_succ, awp_seq, awp_block, awp_reg, awp_skip, seqQ_n, WW_one, WW_nil, none_md, none_fz, frz_nil, ownOp, wc_app, wcont_s, ev_const, av_int, x_assign, Option.getD_some, Bool.not_false]
    refine awp_loop (fun n2 F H2 => ∃ j, n2 + j = ys.length ∧ F 0 = .sl m 2 (xs.map encR) ∧ F 1 = .sl m' 2 (ys.map encR) ∧ F 5 = .int .i64 (k : Nat) ∧ F 6 = .int .i64 (j : Nat) ∧ H2 = H ∧ (ys.any fun s => touch xs[k] s) = ((ys.drop j).any fun s => touch xs[k] s)) ys.length ⟨0, by simp, by simp -implicitDefEqProofs only [List.getElem?_cons_zero, List.getElem?_cons_succ, upd_app, ↓reduceIte, Nat.reduceEqDiff, f0], by simp -implicitDefEqProofs only [List.getElem?_cons_zero, List.getElem?_cons_succ, upd_app, ↓reduceIte, Nat.reduceEqDiff, f1], by simp -implicitDefEqProofs only [List.getElem?_cons_zero, List.getElem?_cons_succ, upd_app, ↓reduceIte, Nat.reduceEqDiff, f5], by simp -implicitDefEqProofs only [List.getElem?_cons_zero, List.getElem?_cons_succ, upd_app, ↓reduceIte]; rfl, rfl, rfl⟩ ?_
    rintro n2 F H2 ⟨j, hj, f0, f1, f5, f6, rfl, hin2⟩
    simp -implicitDefEqProofs only [List.getElem?_cons_zero, List.getElem?_cons_succ, awp_seq, awp_reg, awp_cond, seqQ_n, WW_one, WW_nil, none_md, none_fz, frz_nil, ownOp, wc_app, wcont_s, upd_app, ev_tmp, x_move, x_bin, x_len, holdsO_ofO, bin_lss, ↓reduceIte, Nat.reduceEqDiff, Option.getD_some, Bool.not_false, enP, ln22, f1, f6, List.length_map]
    refine cond_of (fun hd => ?_) (fun hd => ?_)
    · have hd' : j < ys.length := by simpa using hd
      rw [any_step _ ys j hd'] at hin2
      simp -implicitDefEqProofs only [List.getElem?_cons_zero, List.getElem?_cons_succ, awp_seq, awp_block, awp_skip, seqQ_n]
      refine awp_draw (by kernel_rfl) ?_
      simp -implicitDefEqProofs only [List.getElem?_cons_zero, List.getElem?_cons_succ, dc_app, dcont_s, DD_nil, DD_one, y_move, y_load, y_bin, y_fieldAddr, y_indexAddr, y_builtin, awp_cond, seqQ_n, none_md, upd_app, ev_tmp, x_load, x_bin, x_fieldAddr, x_indexAddr, x_max, x_min, holdsO_ofO, bin_leq, max_ii, min_ii, ↓reduceIte, Nat.reduceEqDiff, Nat.add_zero, Nat.zero_add, Option.getD_some, enP, ix22, fa33_0, fa33_1, f0, f1, f5, f6, ix_map hc', ix_map hd', load_map ag3 hc', load_map ag3 hd', encR0, encR1]
      refine cond_of (fun hb => ?_) (fun hb => ?_)
      · simp -implicitDefEqProofs only [List.getElem?_cons_zero, List.getElem?_cons_succ, awp_seq, awp_reg, awp_ret, seqQ_n, seqQ_r, blk_r, rnd_r, end_r, WW_one, WW_nil, none_md, none_fz, frz_nil, ownOp, wc_app, wcont_s, upd_app, ev_const, av_bool, x_assign, ↓reduceIte, Option.getD_some, Bool.not_false]
        refine ⟨?_, trivial⟩
        rw [hin, hs, hin2]; unfold touch; rw [hb]; rfl
      · simp -implicitDefEqProofs only [List.getElem?_cons_zero, List.getElem?_cons_succ, awp_reg, awp_skip, seqQ_n, blk_n, rnd_n, WW_one, WW_nil, none_md, none_fz, frz_nil, ownOp, wc_app, wcont_s, upd_app, ev_tmp, ev_const, av_int, x_move, x_assign, x_bin, holdsO_ofO, bin_add, ↓reduceIte, Nat.reduceEqDiff, Option.getD_some, Bool.not_false, enP, f6, wrap_succ (show j < 9223372036854775807 by omega)]
        refine ⟨n2 - 1, by omega, j + 1, by omega, f0, f1, f5, rfl, trivial, ?_⟩
        rw [hin2]; unfold touch; rw [hb]; rfl
    · have hd' : ¬ j < ys.length := by simpa using hd
      rw [List.drop_eq_nil_of_le (by omega)] at hin2
      simp -implicitDefEqProofs only [List.getElem?_cons_zero, List.getElem?_cons_succ, awp_reg, awp_exit, seqQ_n, seqQ_e, blk_n, blk_e, rnd_n, rnd_e, WW_one, WW_nil, none_md, none_fz, frz_nil, ownOp, wc_app, wcont_s, upd_app, ev_tmp, ev_const, av_int, x_move, x_assign, x_bin, holdsO_ofO, bin_add, ↓reduceIte, Nat.reduceEqDiff, Option.getD_some, Bool.not_false, enP, f5, wrap_succ (show k < 9223372036854775807 by omega)]
      exact ⟨n - 1, by omega, k + 1, by omega, f0, f1, rfl, trivial, by rw [hin, hs, hin2]; rfl⟩
  · have hc' : ¬ k < xs.length := by simpa using hc
    simp -implicitDefEqProofs only [List.getElem?_cons_zero, List.getElem?_cons_succ, awp_seq, awp_reg, awp_ret, awp_exit, seqQ_n, seqQ_e, blk_e, rnd_e, end_r, WW_one, WW_nil, none_md, none_fz, frz_nil, ownOp, wc_app, wcont_s, upd_app, ev_const, av_bool, x_assign, ↓reduceIte, Option.getD_some, Bool.not_false]
    exact ⟨by rw [hin, List.drop_eq_nil_of_le (by omega)]; rfl, trivial⟩

/- a bin -/
structure Rs where
  m : SM
  l : List Rng
def encRs (r : Rs) : AV := .sl r.m 2 (r.l.map encR)
def encS (r : Rs) : List AV := [encRs r]
structure Bin where
  name : ByteArray
  kind : Int
  ranges : Rs
  sm : SM
  steps : List Rs
def encB (b : Bin) : List AV := [.str b.name, .int .i64 b.kind, encRs b.ranges, .sl b.sm 1 (b.steps.map encS)]
theorem encB0 (b : Bin) : (encB b)[0]? = some (.str b.name) := rfl
theorem encB1 (b : Bin) : (encB b)[1]? = some (.int .i64 b.kind) := rfl
theorem encB2 (b : Bin) : (encB b)[2]? = some (.sl b.ranges.m 2 (b.ranges.l.map encR)) := rfl
theorem encB3 (b : Bin) : (encB b)[3]? = some (.sl b.sm 1 (b.steps.map encS)) := rfl
theorem encB_len (b : Bin) : (encB b).length = 4 := rfl
theorem encS0 (r : Rs) : (encS r)[0]? = some (.sl r.m 2 (r.l.map encR)) := rfl
theorem bxB (h : Hp) (b : Bin) : aBox h (.agg (encB b)) = some (.ptr h.length 0 0, h ++ [.live 4 [encB b]]) := rfl
theorem ldB (h : Hp) (b : Bin) : aLoad Tryd.prog (h ++ [.live 4 [encB b]]) 29 (.ptr h.length 0 0) = some (.agg (encB b)) := load_topA ag29 sz29 (by simp [encB])

def setsM (b : Bin) : SM := if b.ranges.l.length > 0 then .full else b.sm
def sets (b : Bin) : List Rs := if b.ranges.l.length > 0 then [b.ranges] else b.steps
theorem bs27 (h : Hp) (r : Rs) : aBuildSlice Tryd.prog false h 27 1 [(0, .sl r.m 2 (r.l.map encR))] = some (.sl .full 1 ([r].map encS), h) := by
  have : (rowsA 1 0 [(0, AV.sl r.m 2 (r.l.map encR))]) = some [[.sl r.m 2 (r.l.map encR)]] := rfl
  simp only [aBuildSlice, Tryd.underlying27, sz22, this]
  have hz : zszO Tryd.prog 22 = some 1 := by kernel_rfl
  simp [hz, AV.frozen, encS, encRs]
end Go.Proofs.YtpdohkcjhphibaaDoor.Bins
