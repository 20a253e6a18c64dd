/- Contracts of the lexer's functions on names, of the program and of the reference; no condition. -/
import Derived.Test.YtpdohkcjhphibaaDoorB4
import Derived.Laws.RangeAny
set_option linter.unusedVariables false
set_option linter.unusedSimpArgs false
namespace Go.Proofs.YtpdohkcjhphibaaDoor.Bins
open Go Go.Proofs.YtpdohkcjhphibaaDoor.Sm

def lowB (n : Int) : Bool := decide (n ≥ 97) && decide (n ≤ 122)
def digB (n : Int) : Bool := decide (n ≥ 48) && decide (n ≤ 57)
def folB (n : Int) : Bool := lowB n || digB n || (decide (n ≥ 65) && decide (n ≤ 90)) || n == 95

theorem lower_prog (G : Nat → AV) (n : Int) (h : Hp) : PCall (En G) 72 [.int .i32 n] h (.bool (lowB n)) := by
  refine acalls_of (H := Hint.none) (enM G) Tryd.func72 rfl (by kernel_rfl) (by kernel_rfl) (Nat.le_of_ble_eq_true (by kernel_rfl)) ?_
  show awp _ _ _ _ _ (endQ _ [.tmp 2] _)
  simp -implicitDefEqProofs only [List.getElem?_cons_zero, List.getElem?_cons_succ, awp_seq, awp_reg, seqQ_n, WW_one, WW_nil, WW_guardE, GX_some, gdstO, none_md, none_fz, frz_nil, ownOp, wc_app, wcont_s, upd_app, ev_tmp, ev_const, av_int, av_bool, x_move, x_assign, x_bin, holdsO_ofO, bin_geq, frameOf_zero, ↓reduceIte, Nat.reduceEqDiff, Option.getD_some, Bool.not_false, enP]
  refine G1_of (fun ha => ?_) (fun ha => ?_)
  · simp -implicitDefEqProofs only [List.getElem?_cons_zero, List.getElem?_cons_succ, awp_ret, seqQ_n, end_r, WW_one, WW_nil, WW_guardE, GX_some, gdstO, G1_tt, none_md, none_fz, frz_nil, ownOp, wc_app, wcont_s, upd_app, ev_tmp, ev_const, av_int, av_bool, x_move, x_assign, x_pick, pick_t, x_bin, holdsO_ofO, bin_leq, frameOf_zero, ↓reduceIte, Nat.reduceEqDiff, Option.getD_some, Bool.not_false, enP, ha]
    exact ⟨by unfold lowB; rw [ha]; rfl, trivial⟩
  · simp -implicitDefEqProofs only [List.getElem?_cons_zero, List.getElem?_cons_succ, awp_ret, seqQ_n, end_r, WW_one, WW_nil, WW_guardE, GX_some, gdstO, G1_tf, none_md, none_fz, frz_nil, ownOp, wc_app, wcont_s, upd_app, aput, ev_tmp, ev_const, av_bool, x_assign, x_pick, pick_f, ↓reduceIte, Nat.reduceEqDiff, Option.getD_some, Bool.not_false, ha]
    exact ⟨by unfold lowB; rw [ha]; rfl, trivial⟩
theorem digit_prog (G : Nat → AV) (n : Int) (h : Hp) : PCall (En G) 86 [.int .i32 n] h (.bool (digB n)) := by
  refine acalls_of (H := Hint.none) (enM G) Tryd.func86 rfl (by kernel_rfl) (by kernel_rfl) (Nat.le_of_ble_eq_true (by kernel_rfl)) ?_
  show awp _ _ _ _ _ (endQ _ [.tmp 2] _)
  simp -implicitDefEqProofs only [List.getElem?_cons_zero, List.getElem?_cons_succ, awp_seq, awp_reg, seqQ_n, WW_one, WW_nil, WW_guardE, GX_some, gdstO, none_md, none_fz, frz_nil, ownOp, wc_app, wcont_s, upd_app, ev_tmp, ev_const, av_int, av_bool, x_move, x_assign, x_bin, holdsO_ofO, bin_geq, frameOf_zero, ↓reduceIte, Nat.reduceEqDiff, Option.getD_some, Bool.not_false, enP]
  refine G1_of (fun ha => ?_) (fun ha => ?_)
  · simp -implicitDefEqProofs only [List.getElem?_cons_zero, List.getElem?_cons_succ, awp_ret, seqQ_n, end_r, WW_one, WW_nil, WW_guardE, GX_some, gdstO, G1_tt, none_md, none_fz, frz_nil, ownOp, wc_app, wcont_s, upd_app, ev_tmp, ev_const, av_int, av_bool, x_move, x_assign, x_pick, pick_t, x_bin, holdsO_ofO, bin_leq, frameOf_zero, ↓reduceIte, Nat.reduceEqDiff, Option.getD_some, Bool.not_false, enP, ha]
    exact ⟨by unfold digB; rw [ha]; rfl, trivial⟩
  · simp -implicitDefEqProofs only [List.getElem?_cons_zero, List.getElem?_cons_succ, awp_ret, seqQ_n, end_r, WW_one, WW_nil, WW_guardE, GX_some, gdstO, G1_tf, none_md, none_fz, frz_nil, ownOp, wc_app, wcont_s, upd_app, aput, ev_tmp, ev_const, av_bool, x_assign, x_pick, pick_f, ↓reduceIte, Nat.reduceEqDiff, Option.getD_some, Bool.not_false, ha]
    exact ⟨by unfold digB; rw [ha]; rfl, trivial⟩
theorem small_ref (G : Nat → AV) (n : Int) (h : Hp) : PCall (En G) 55 [.int .u8 n] h (.bool (lowB n)) := by
  refine acalls_of (H := Hint.none) (enM G) Tryd.func55 rfl (by kernel_rfl) (by kernel_rfl) (Nat.le_of_ble_eq_true (by kernel_rfl)) ?_
  show awp _ _ _ _ _ (endQ _ [.tmp 2] _)
  simp -implicitDefEqProofs only [List.getElem?_cons_zero, List.getElem?_cons_succ, awp_seq, awp_reg, seqQ_n, WW_one, WW_nil, WW_guardE, GX_some, gdstO, none_md, none_fz, frz_nil, ownOp, wc_app, wcont_s, upd_app, ev_tmp, ev_const, av_int, av_bool, x_move, x_assign, x_bin, holdsO_ofO, bin_geq, frameOf_zero, ↓reduceIte, Nat.reduceEqDiff, Option.getD_some, Bool.not_false, enP]
  refine G1_of (fun ha => ?_) (fun ha => ?_)
  · simp -implicitDefEqProofs only [List.getElem?_cons_zero, List.getElem?_cons_succ, awp_ret, seqQ_n, end_r, WW_one, WW_nil, WW_guardE, GX_some, gdstO, G1_tt, none_md, none_fz, frz_nil, ownOp, wc_app, wcont_s, upd_app, ev_tmp, ev_const, av_int, av_bool, x_move, x_assign, x_pick, pick_t, x_bin, holdsO_ofO, bin_leq, frameOf_zero, ↓reduceIte, Nat.reduceEqDiff, Option.getD_some, Bool.not_false, enP, ha]
    exact ⟨by unfold lowB; rw [ha]; rfl, trivial⟩
  · simp -implicitDefEqProofs only [List.getElem?_cons_zero, List.getElem?_cons_succ, awp_ret, seqQ_n, end_r, WW_one, WW_nil, WW_guardE, GX_some, gdstO, G1_tf, none_md, none_fz, frz_nil, ownOp, wc_app, wcont_s, upd_app, aput, ev_tmp, ev_const, av_bool, x_assign, x_pick, pick_f, ↓reduceIte, Nat.reduceEqDiff, Option.getD_some, Bool.not_false, ha]
    exact ⟨by unfold lowB; rw [ha]; rfl, trivial⟩
theorem digit_ref (G : Nat → AV) (n : Int) (h : Hp) : PCall (En G) 78 [.int .u8 n] h (.bool (digB n)) := by
  refine acalls_of (H := Hint.none) (enM G) Tryd.func78 rfl (by kernel_rfl) (by kernel_rfl) (Nat.le_of_ble_eq_true (by kernel_rfl)) ?_
  show awp _ _ _ _ _ (endQ _ [.tmp 2] _)
  simp -implicitDefEqProofs only [List.getElem?_cons_zero, List.getElem?_cons_succ, awp_seq, awp_reg, seqQ_n, WW_one, WW_nil, WW_guardE, GX_some, gdstO, none_md, none_fz, frz_nil, ownOp, wc_app, wcont_s, upd_app, ev_tmp, ev_const, av_int, av_bool, x_move, x_assign, x_bin, holdsO_ofO, bin_geq, frameOf_zero, ↓reduceIte, Nat.reduceEqDiff, Option.getD_some, Bool.not_false, enP]
  refine G1_of (fun ha => ?_) (fun ha => ?_)
  · simp -implicitDefEqProofs only [List.getElem?_cons_zero, List.getElem?_cons_succ, awp_ret, seqQ_n, end_r, WW_one, WW_nil, WW_guardE, GX_some, gdstO, G1_tt, none_md, none_fz, frz_nil, ownOp, wc_app, wcont_s, upd_app, ev_tmp, ev_const, av_int, av_bool, x_move, x_assign, x_pick, pick_t, x_bin, holdsO_ofO, bin_leq, frameOf_zero, ↓reduceIte, Nat.reduceEqDiff, Option.getD_some, Bool.not_false, enP, ha]
    exact ⟨by unfold digB; rw [ha]; rfl, trivial⟩
  · simp -implicitDefEqProofs only [List.getElem?_cons_zero, List.getElem?_cons_succ, awp_ret, seqQ_n, end_r, WW_one, WW_nil, WW_guardE, GX_some, gdstO, G1_tf, none_md, none_fz, frz_nil, ownOp, wc_app, wcont_s, upd_app, aput, ev_tmp, ev_const, av_bool, x_assign, x_pick, pick_f, ↓reduceIte, Nat.reduceEqDiff, Option.getD_some, Bool.not_false, ha]
    exact ⟨by unfold digB; rw [ha]; rfl, trivial⟩
theorem follows_prog (G : Nat → AV) (n : Int) (h : Hp) : PCall (En G) 73 [.int .i32 n] h (.bool (folB n)) := by
  refine acalls_of (H := Hint.none) (enM G) Tryd.func73 rfl (by kernel_rfl) (by kernel_rfl) (Nat.le_of_ble_eq_true (by kernel_rfl)) ?_
  show awp _ _ _ _ _ (endQ _ [.tmp 2] _)
  simp -implicitDefEqProofs only [List.getElem?_cons_zero, List.getElem?_cons_succ, awp_seq, awp_reg, seqQ_n, WW_one, WW_nil, none_md, none_fz, frz_nil, ownOp, wc_app, wcont_s, upd_app, ev_tmp, ev_const, ev_func, av_bool, x_move, x_assign, X1_call, callA_fn, frameOf_zero, List.map_cons, List.map_nil, List.append_nil, ↓reduceIte, Nat.reduceEqDiff, Option.getD_some, Bool.not_false, enP]
  refine (lower_prog G n h).use ?_
  simp -implicitDefEqProofs only [List.getElem?_cons_zero, List.getElem?_cons_succ, WW_one, WW_guardE, GX_some, gdstO, none_md, none_fz, frz_nil, ownOp, wc_app, wcont_s, upd_app, ev_tmp, x_move, ↓reduceIte, Option.getD_some, Bool.not_false]
  refine G1_of (fun ha => ?_) (fun ha => ?_)
  · simp -implicitDefEqProofs only [List.getElem?_cons_zero, List.getElem?_cons_succ, awp_ret, seqQ_n, end_r, WW_one, WW_nil, WW_guardE, GX_some, gdstO, G1_ft, G1_u, none_md, none_fz, frz_nil, ownOp, wc_app, wcont_s, upd_app, aput, ev_tmp, ev_const, av_bool, x_move, x_assign, x_pick, pick_t, ↓reduceIte, Nat.reduceEqDiff, Option.getD_some, Bool.not_false, ha]
    exact ⟨by unfold folB; rw [ha]; rfl, trivial⟩
  simp -implicitDefEqProofs only [List.getElem?_cons_zero, List.getElem?_cons_succ, WW_guardE, GX_some, gdstO, G1_ff, none_md, none_fz, frz_nil, ownOp, wc_app, wcont_s, upd_app, ev_tmp, ev_func, x_move, X1_call, callA_fn, frameOf_zero, List.map_cons, List.map_nil, List.append_nil, ↓reduceIte, Nat.reduceEqDiff, Option.getD_some, Bool.not_false, ha]
  refine (digit_prog G n h).use ?_
  simp -implicitDefEqProofs only [List.getElem?_cons_zero, List.getElem?_cons_succ, WW_one, WW_guardE, GX_some, gdstO, none_md, none_fz, frz_nil, ownOp, wc_app, wcont_s, upd_app, ev_tmp, ev_const, av_bool, x_move, x_pick, pick_f, ↓reduceIte, Nat.reduceEqDiff, Option.getD_some, Bool.not_false]
  refine G1_of (fun hb => ?_) (fun hb => ?_)
  · simp -implicitDefEqProofs only [List.getElem?_cons_zero, List.getElem?_cons_succ, awp_ret, seqQ_n, end_r, WW_one, WW_nil, WW_guardE, GX_some, gdstO, G1_ft, G1_u, none_md, none_fz, frz_nil, ownOp, wc_app, wcont_s, upd_app, aput, ev_tmp, ev_const, av_bool, x_move, x_assign, x_pick, pick_t, ↓reduceIte, Nat.reduceEqDiff, Option.getD_some, Bool.not_false, hb]
    exact ⟨by unfold folB; rw [ha, hb]; rfl, trivial⟩
  simp -implicitDefEqProofs only [List.getElem?_cons_zero, List.getElem?_cons_succ, WW_guardE, GX_some, gdstO, G1_ff, none_md, none_fz, frz_nil, ownOp, wc_app, wcont_s, upd_app, ev_tmp, ev_const, av_int, x_move, x_bin, holdsO_ofO, bin_geq, frameOf_zero, ↓reduceIte, Nat.reduceEqDiff, Option.getD_some, Bool.not_false, enP, hb]
  refine G1_of (fun hc => ?_) (fun hc => ?_)
  · simp -implicitDefEqProofs only [List.getElem?_cons_zero, List.getElem?_cons_succ, WW_one, WW_guardE, GX_some, gdstO, G1_tt, G1_ff, none_md, none_fz, frz_nil, ownOp, wc_app, wcont_s, upd_app, ev_tmp, ev_const, av_int, av_bool, x_move, x_pick, pick_t, pick_f, x_bin, holdsO_ofO, bin_leq, frameOf_zero, ↓reduceIte, Nat.reduceEqDiff, Option.getD_some, Bool.not_false, enP, hc]
    refine G1_of (fun hd => ?_) (fun hd => ?_)
    · simp -implicitDefEqProofs only [List.getElem?_cons_zero, List.getElem?_cons_succ, awp_ret, seqQ_n, end_r, WW_one, WW_nil, WW_guardE, GX_some, gdstO, G1_ft, none_md, none_fz, frz_nil, ownOp, wc_app, wcont_s, upd_app, aput, ev_tmp, ev_const, av_bool, x_assign, x_pick, pick_t, ↓reduceIte, Nat.reduceEqDiff, Option.getD_some, Bool.not_false, hd]
      exact ⟨by unfold folB; rw [ha, hb, hc, hd]; rfl, trivial⟩
    · simp -implicitDefEqProofs only [List.getElem?_cons_zero, List.getElem?_cons_succ, awp_ret, seqQ_n, end_r, WW_one, WW_nil, WW_guardE, GX_some, gdstO, G1_ff, none_md, none_fz, frz_nil, ownOp, wc_app, wcont_s, upd_app, ev_tmp, ev_const, av_int, av_bool, x_move, x_assign, x_pick, pick_f, x_bin, holdsO_ofO, bin_eql, frameOf_zero, ↓reduceIte, Nat.reduceEqDiff, Option.getD_some, Bool.not_false, enP, hd]
      exact ⟨by unfold folB; rw [ha, hb, hc, hd]; rfl, trivial⟩
  · simp -implicitDefEqProofs only [List.getElem?_cons_zero, List.getElem?_cons_succ, awp_ret, seqQ_n, end_r, WW_one, WW_nil, WW_guardE, GX_some, gdstO, G1_ff, G1_tf, none_md, none_fz, frz_nil, ownOp, wc_app, wcont_s, upd_app, aput, ev_tmp, ev_const, av_int, av_bool, x_move, x_assign, x_pick, pick_f, x_bin, holdsO_ofO, bin_eql, frameOf_zero, ↓reduceIte, Nat.reduceEqDiff, Option.getD_some, Bool.not_false, enP, hc]
    exact ⟨by unfold folB; rw [ha, hb, hc]; rfl, trivial⟩
theorem inner_ref (G : Nat → AV) (n : Int) (h : Hp) : PCall (En G) 57 [.int .u8 n] h (.bool (folB n)) := by
  refine acalls_of (H := Hint.none) (enM G) Tryd.func57 rfl (by kernel_rfl) (by kernel_rfl) (Nat.le_of_ble_eq_true (by kernel_rfl)) ?_
  show awp _ _ _ _ _ (endQ _ [.tmp 2] _)
  simp -implicitDefEqProofs only [List.getElem?_cons_zero, List.getElem?_cons_succ, awp_seq, awp_reg, seqQ_n, WW_one, WW_nil, none_md, none_fz, frz_nil, ownOp, wc_app, wcont_s, upd_app, ev_tmp, ev_const, ev_func, av_bool, x_move, x_assign, X1_call, callA_fn, frameOf_zero, List.map_cons, List.map_nil, List.append_nil, ↓reduceIte, Nat.reduceEqDiff, Option.getD_some, Bool.not_false, enP]
  refine (small_ref G n h).use ?_
  simp -implicitDefEqProofs only [List.getElem?_cons_zero, List.getElem?_cons_succ, WW_one, WW_guardE, GX_some, gdstO, none_md, none_fz, frz_nil, ownOp, wc_app, wcont_s, upd_app, ev_tmp, x_move, ↓reduceIte, Option.getD_some, Bool.not_false]
  refine G1_of (fun ha => ?_) (fun ha => ?_)
  · simp -implicitDefEqProofs only [List.getElem?_cons_zero, List.getElem?_cons_succ, awp_ret, seqQ_n, end_r, WW_one, WW_nil, WW_guardE, GX_some, gdstO, G1_ft, G1_u, none_md, none_fz, frz_nil, ownOp, wc_app, wcont_s, upd_app, aput, ev_tmp, ev_const, av_bool, x_move, x_assign, x_pick, pick_t, ↓reduceIte, Nat.reduceEqDiff, Option.getD_some, Bool.not_false, ha]
    exact ⟨by unfold folB; rw [ha]; rfl, trivial⟩
  simp -implicitDefEqProofs only [List.getElem?_cons_zero, List.getElem?_cons_succ, WW_guardE, GX_some, gdstO, G1_ff, none_md, none_fz, frz_nil, ownOp, wc_app, wcont_s, upd_app, ev_tmp, ev_func, x_move, X1_call, callA_fn, frameOf_zero, List.map_cons, List.map_nil, List.append_nil, ↓reduceIte, Nat.reduceEqDiff, Option.getD_some, Bool.not_false, ha]
  refine (digit_ref G n h).use ?_
  simp -implicitDefEqProofs only [List.getElem?_cons_zero, List.getElem?_cons_succ, WW_one, WW_guardE, GX_some, gdstO, none_md, none_fz, frz_nil, ownOp, wc_app, wcont_s, upd_app, ev_tmp, ev_const, av_bool, x_move, x_pick, pick_f, ↓reduceIte, Nat.reduceEqDiff, Option.getD_some, Bool.not_false]
  refine G1_of (fun hb => ?_) (fun hb => ?_)
  · simp -implicitDefEqProofs only [List.getElem?_cons_zero, List.getElem?_cons_succ, awp_ret, seqQ_n, end_r, WW_one, WW_nil, WW_guardE, GX_some, gdstO, G1_ft, G1_u, none_md, none_fz, frz_nil, ownOp, wc_app, wcont_s, upd_app, aput, ev_tmp, ev_const, av_bool, x_move, x_assign, x_pick, pick_t, ↓reduceIte, Nat.reduceEqDiff, Option.getD_some, Bool.not_false, hb]
    exact ⟨by unfold folB; rw [ha, hb]; rfl, trivial⟩
  simp -implicitDefEqProofs only [List.getElem?_cons_zero, List.getElem?_cons_succ, WW_guardE, GX_some, gdstO, G1_ff, none_md, none_fz, frz_nil, ownOp, wc_app, wcont_s, upd_app, ev_tmp, ev_const, av_int, x_move, x_bin, holdsO_ofO, bin_geq, frameOf_zero, ↓reduceIte, Nat.reduceEqDiff, Option.getD_some, Bool.not_false, enP, hb]
  refine G1_of (fun hc => ?_) (fun hc => ?_)
  · simp -implicitDefEqProofs only [List.getElem?_cons_zero, List.getElem?_cons_succ, WW_one, WW_guardE, GX_some, gdstO, G1_tt, G1_ff, none_md, none_fz, frz_nil, ownOp, wc_app, wcont_s, upd_app, ev_tmp, ev_const, av_int, av_bool, x_move, x_pick, pick_t, pick_f, x_bin, holdsO_ofO, bin_leq, frameOf_zero, ↓reduceIte, Nat.reduceEqDiff, Option.getD_some, Bool.not_false, enP, hc]
    refine G1_of (fun hd => ?_) (fun hd => ?_)
    · simp -implicitDefEqProofs only [List.getElem?_cons_zero, List.getElem?_cons_succ, awp_ret, seqQ_n, end_r, WW_one, WW_nil, WW_guardE, GX_some, gdstO, G1_ft, none_md, none_fz, frz_nil, ownOp, wc_app, wcont_s, upd_app, aput, ev_tmp, ev_const, av_bool, x_assign, x_pick, pick_t, ↓reduceIte, Nat.reduceEqDiff, Option.getD_some, Bool.not_false, hd]
      exact ⟨by unfold folB; rw [ha, hb, hc, hd]; rfl, trivial⟩
    · simp -implicitDefEqProofs only [List.getElem?_cons_zero, List.getElem?_cons_succ, awp_ret, seqQ_n, end_r, WW_one, WW_nil, WW_guardE, GX_some, gdstO, G1_ff, none_md, none_fz, frz_nil, ownOp, wc_app, wcont_s, upd_app, ev_tmp, ev_const, av_int, av_bool, x_move, x_assign, x_pick, pick_f, x_bin, holdsO_ofO, bin_eql, frameOf_zero, ↓reduceIte, Nat.reduceEqDiff, Option.getD_some, Bool.not_false, enP, hd]
      exact ⟨by unfold folB; rw [ha, hb, hc, hd]; rfl, trivial⟩
  · simp -implicitDefEqProofs only [List.getElem?_cons_zero, List.getElem?_cons_succ, awp_ret, seqQ_n, end_r, WW_one, WW_nil, WW_guardE, GX_some, gdstO, G1_ff, G1_tf, none_md, none_fz, frz_nil, ownOp, wc_app, wcont_s, upd_app, aput, ev_tmp, ev_const, av_int, av_bool, x_move, x_assign, x_pick, pick_f, x_bin, holdsO_ofO, bin_eql, frameOf_zero, ↓reduceIte, Nat.reduceEqDiff, Option.getD_some, Bool.not_false, enP, hc]
    exact ⟨by unfold folB; rw [ha, hb, hc]; rfl, trivial⟩

/- strings in lists -/
def encStr (s : ByteArray) : List AV := [.str s]
theorem encStr0 (s : ByteArray) : (encStr s)[0]? = some (.str s) := rfl
def hasS (xs : List ByteArray) (v : ByteArray) : Bool := xs.any fun u => v.toList == u.toList

theorem has_ref (G : Nat → AV) (xs : List ByteArray) (m : SM) (v : ByteArray) (h : Hp) (hl : xs.length ≤ 1099511627776) :
    PCall (En G) 76 [.sl m 1 (xs.map encStr), .str v] h (.bool (hasS xs v)) := by
  refine acalls_of (H := Hint.none) (enM G) Tryd.func76 rfl (by kernel_rfl) (by kernel_rfl) (Nat.le_of_ble_eq_true (by kernel_rfl)) ?_
  show awp _ _ _ _ _ (endQ _ [.tmp 4] _)
  simp -implicitDefEqProofs only [List.getElem?_cons_zero, List.getElem?_cons_succ, awp_seq, awp_block, awp_reg, seqQ_n, WW_one, WW_nil, none_md, none_fz, frz_nil, ownOp, wc_app, wcont_s, ev_const, av_int, av_bool, x_assign, Option.getD_some, Bool.not_false, enP]
  refine awp_loop (fun n F H => ∃ k, n + k = xs.length ∧ F 0 = .sl m 1 (xs.map encStr) ∧ F 1 = .str v ∧ F 5 = .int .i64 (k : Nat) ∧ H = h ∧ hasS xs v = hasS (xs.drop k) v) xs.length ⟨0, by simp, rfl, rfl, rfl, rfl, rfl⟩ ?_
  rintro n F H ⟨k, hk, f0, f1, f5, rfl, hin⟩
  simp -implicitDefEqProofs only [List.getElem?_cons_zero, List.getElem?_cons_succ, awp_seq, awp_reg, awp_cond, seqQ_n, WW_one, WW_nil, none_md, none_fz, frz_nil, ownOp, wc_app, wcont_s, upd_app, ev_tmp, x_move, x_bin, x_len, holdsO_ofO, bin_lss, ↓reduceIte, Nat.reduceEqDiff, Option.getD_some, Bool.not_false, enP, ln79, f0, f5, List.length_map]
  refine cond_of (fun hc => ?_) (fun hc => ?_)
  · have hc' : k < xs.length := by simpa using hc
    have hs : hasS (xs.drop k) v = ((v.toList == xs[k].toList) || hasS (xs.drop (k+1)) v) := any_step _ xs k hc'
    simp -implicitDefEqProofs only [List.getElem?_cons_zero, List.getElem?_cons_succ, awp_seq, awp_block, awp_reg, awp_skip, awp_cond, seqQ_n, WW_one, WW_nil, none_md, none_fz, frz_nil, ownOp, wc_app, wcont_s, upd_app, ev_tmp, x_move, x_load, x_bin, x_indexAddr, holdsO_ofO, bin_seql, ↓reduceIte, Nat.reduceEqDiff, Option.getD_some, Bool.not_false, enP, ix79, f0, f1, f5, ix_map hc', load_map ag9 hc', encStr0]
    refine cond_of (fun hb => ?_) (fun hb => ?_)
    · simp -implicitDefEqProofs only [List.getElem?_cons_zero, List.getElem?_cons_succ, awp_seq, awp_reg, awp_ret, seqQ_n, seqQ_r, blk_r, rnd_r, end_r, WW_one, WW_nil, none_md, none_fz, frz_nil, ownOp, wc_app, wcont_s, upd_app, ev_const, av_bool, x_assign, ↓reduceIte, Option.getD_some, Bool.not_false]
      refine ⟨?_, trivial⟩
      rw [hin, hs, show (v.toList == xs[k].toList) = true by rw [BEq.comm]; exact hb]; rfl
    · simp -implicitDefEqProofs only [List.getElem?_cons_zero, List.getElem?_cons_succ, awp_reg, awp_skip, seqQ_n, blk_n, rnd_n, WW_one, WW_nil, none_md, none_fz, frz_nil, ownOp, wc_app, wcont_s, upd_app, ev_tmp, ev_const, av_int, x_move, x_assign, x_bin, holdsO_ofO, bin_add, ↓reduceIte, Nat.reduceEqDiff, Option.getD_some, Bool.not_false, enP, f5, wrap_succ (show k < 9223372036854775807 by omega)]
      refine ⟨n - 1, by omega, k + 1, by omega, f0, f1, rfl, trivial, ?_⟩
      rw [hin, hs, show (v.toList == xs[k].toList) = false by rw [BEq.comm]; exact hb]; rfl
  · have hc' : ¬ k < xs.length := by simpa using hc
    simp -implicitDefEqProofs only [List.getElem?_cons_zero, List.getElem?_cons_succ, awp_seq, awp_reg, awp_ret, awp_exit, seqQ_n, seqQ_e, blk_e, rnd_e, end_r, WW_one, WW_nil, none_md, none_fz, frz_nil, ownOp, wc_app, wcont_s, upd_app, ev_const, av_bool, x_assign, ↓reduceIte, Option.getD_some, Bool.not_false]
    exact ⟨by rw [hin, List.drop_eq_nil_of_le (by omega)]; rfl, trivial⟩

theorem index_prog (G : Nat → AV) (xs : List ByteArray) (m : SM) (v : ByteArray) (h : Hp) (hl : xs.length ≤ 1099511627776) :
    ∃ i : Int, (decide (i ≥ 0) = hasS xs v) ∧ PCall (En G) 87 [.sl m 1 (xs.map encStr), .str v] h (.int .i64 i) := by
  refine ⟨(match xs.findIdx? (fun u => v.toList == u.toList) with | some i => (i : Int) | none => -1), ?_, ?_⟩
  · cases hx : xs.findIdx? (fun u => v.toList == u.toList) with
    | some i =>
      obtain ⟨h1, h2, _⟩ := List.findIdx?_eq_some_iff_getElem.1 hx
      have : hasS xs v = true := List.any_eq_true.2 ⟨xs[i], by simp, h2⟩
      simp [this]
    | none =>
      have : hasS xs v = false := by
        rw [List.findIdx?_eq_none_iff] at hx
        unfold hasS
        rw [List.any_eq_false]; intro x hx2; simp only [hx x hx2]; simp
      simp [this]
  refine acalls_of (H := Hint.none) (enM G) Tryd.func87 rfl (by kernel_rfl) (by kernel_rfl) (Nat.le_of_ble_eq_true (by kernel_rfl)) ?_
  show awp _ _ _ _ _ (endQ _ [.tmp 4] _)
  simp -implicitDefEqProofs only [List.getElem?_cons_zero, List.getElem?_cons_succ, awp_seq, awp_block, awp_reg, seqQ_n, WW_one, WW_nil, none_md, none_fz, frz_nil, ownOp, wc_app, wcont_s, upd_app, ev_tmp, ev_const, av_int, x_move, x_assign, x_len, holdsO_ofO, frameOf_zero, ↓reduceIte, Nat.reduceEqDiff, Option.getD_some, Bool.not_false, enP, ln79, List.length_map]
  refine awp_loop (fun n F H => ∃ k, n + k = xs.length ∧ F 0 = .sl m 1 (xs.map encStr) ∧ F 1 = .str v ∧ F 7 = .int .i64 xs.length ∧ F 8 = .int .i64 (k : Nat) ∧ H = h ∧ (xs.take k).all (fun u => !(v.toList == u.toList)) = true) xs.length ⟨0, by simp, rfl, rfl, rfl, rfl, rfl, rfl⟩ ?_
  rintro n F H ⟨k, hk, f0, f1, f7, f8, rfl, hin⟩
  simp -implicitDefEqProofs only [List.getElem?_cons_zero, List.getElem?_cons_succ, awp_seq, awp_reg, awp_cond, seqQ_n, WW_one, WW_nil, none_md, none_fz, frz_nil, ownOp, wc_app, wcont_s, upd_app, ev_tmp, x_bin, holdsO_ofO, bin_lss, ↓reduceIte, Option.getD_some, Bool.not_false, enP, f7, f8]
  refine cond_of (fun hc => ?_) (fun hc => ?_)
  · have hc' : k < xs.length := by simpa using hc
    simp -implicitDefEqProofs only [List.getElem?_cons_zero, List.getElem?_cons_succ, awp_seq, awp_block, awp_reg, awp_skip, awp_cond, seqQ_n, WW_one, WW_nil, none_md, none_fz, frz_nil, ownOp, wc_app, wcont_s, upd_app, ev_tmp, x_move, x_assign, x_load, x_bin, x_indexAddr, holdsO_ofO, bin_seql, ↓reduceIte, Nat.reduceEqDiff, Option.getD_some, Bool.not_false, enP, ix79, f0, f1, f8, ix_map hc', load_map ag9 hc', encStr0]
    refine cond_of (fun hb => ?_) (fun hb => ?_)
    · simp -implicitDefEqProofs only [List.getElem?_cons_zero, List.getElem?_cons_succ, awp_seq, awp_reg, awp_ret, seqQ_n, seqQ_r, blk_r, rnd_r, end_r, WW_one, WW_nil, none_md, none_fz, frz_nil, ownOp, wc_app, wcont_s, upd_app, ev_tmp, x_move, x_assign, ↓reduceIte, Nat.reduceEqDiff, Option.getD_some, Bool.not_false]
      refine ⟨?_, trivial⟩
      rw [List.findIdx?_eq_some_iff_getElem.2 ⟨hc', hb, fun j hj => by
        rw [List.all_eq_true] at hin
        have := hin xs[j] (by rw [List.mem_take_iff_getElem]; exact ⟨j, by omega, rfl⟩)
        simpa using this⟩]
    · simp -implicitDefEqProofs only [List.getElem?_cons_zero, List.getElem?_cons_succ, awp_reg, awp_skip, seqQ_n, blk_n, rnd_n, WW_one, WW_nil, none_md, none_fz, frz_nil, ownOp, wc_app, wcont_s, upd_app, ev_tmp, ev_const, av_int, x_move, x_bin, holdsO_ofO, bin_add, ↓reduceIte, Nat.reduceEqDiff, Option.getD_some, Bool.not_false, enP, f8, wrap_succ (show k < 9223372036854775807 by omega)]
      refine ⟨n - 1, by omega, k + 1, by omega, f0, f1, f7, rfl, trivial, ?_⟩
      rw [List.take_succ_eq_append_getElem hc', List.all_append, hin]
      simp only [List.all_cons, List.all_nil, hb]; rfl
  · have hc' : ¬ k < xs.length := by simpa using hc
    simp -implicitDefEqProofs only [List.getElem?_cons_zero, List.getElem?_cons_succ, awp_seq, awp_reg, awp_ret, awp_exit, seqQ_n, seqQ_e, blk_e, rnd_e, end_r, WW_one, WW_nil, none_md, none_fz, frz_nil, ownOp, wc_app, wcont_s, upd_app, ev_const, av_int, x_assign, ↓reduceIte, Option.getD_some, Bool.not_false]
    refine ⟨?_, trivial⟩
    rw [List.take_of_length_le (by omega)] at hin
    rw [List.findIdx?_eq_none_iff.2 (by
      intro x hx
      rw [List.all_eq_true] at hin
      simpa using hin x hx)]
theorem contains_prog (G : Nat → AV) (xs : List ByteArray) (m : SM) (v : ByteArray) (h : Hp) (hl : xs.length ≤ 1099511627776) :
    PCall (En G) 74 [.sl m 1 (xs.map encStr), .str v] h (.bool (hasS xs v)) := by
  obtain ⟨i, hi, hp⟩ := index_prog G xs m v h hl
  refine acalls_of (H := Hint.none) (enM G) Tryd.func74 rfl (by kernel_rfl) (by kernel_rfl) (Nat.le_of_ble_eq_true (by kernel_rfl)) ?_
  show awp _ _ _ _ _ (endQ _ [.tmp 4] _)
  simp -implicitDefEqProofs only [List.getElem?_cons_zero, List.getElem?_cons_succ, awp_seq, awp_reg, seqQ_n, WW_one, WW_nil, none_md, none_fz, frz_nil, ownOp, wc_app, wcont_s, upd_app, ev_tmp, ev_const, ev_func, av_bool, x_move, x_assign, X1_call, callA_fn, frameOf_zero, frameOf_succ, List.map_cons, List.map_nil, List.append_nil, ↓reduceIte, Nat.reduceEqDiff, Option.getD_some, Bool.not_false, enP]
  refine hp.use ?_
  simp -implicitDefEqProofs only [List.getElem?_cons_zero, List.getElem?_cons_succ, awp_ret, seqQ_n, end_r, WW_one, WW_nil, none_md, none_fz, frz_nil, ownOp, wc_app, wcont_s, upd_app, ev_tmp, ev_const, av_int, x_assign, x_bin, holdsO_ofO, bin_geq, ↓reduceIte, Option.getD_some, Bool.not_false, enP]
  exact ⟨by rw [hi], trivial⟩

def kw : List ByteArray := [⟨#[99, 108, 97, 115, 115]⟩, ⟨#[101, 120, 116, 101, 110, 100, 115]⟩, ⟨#[114, 97, 110, 100]⟩, ⟨#[114, 97, 110, 100, 99]⟩, ⟨#[115, 116, 97, 116, 101]⟩, ⟨#[99, 111, 110, 115, 116, 114, 97, 105, 110, 116]⟩, ⟨#[115, 111, 102, 116]⟩, ⟨#[100, 105, 115, 116]⟩, ⟨#[105, 102]⟩, ⟨#[101, 108, 115, 101]⟩, ⟨#[101, 97, 99, 104]⟩, ⟨#[105, 110]⟩, ⟨#[115, 111, 108, 118, 101]⟩, ⟨#[98, 101, 102, 111, 114, 101]⟩, ⟨#[105, 110, 115, 105, 100, 101]⟩, ⟨#[112, 114, 111, 112, 101, 114, 116, 121]⟩, ⟨#[115, 101, 113]⟩, ⟨#[97, 110, 100]⟩, ⟨#[111, 114]⟩, ⟨#[110, 111, 116]⟩, ⟨#[115, 101, 116]⟩, ⟨#[104, 111, 108, 100]⟩, ⟨#[112, 108, 97, 105, 110]⟩, ⟨#[114, 101, 112, 101, 97, 116]⟩]
theorem kw_len : kw.length = 24 := rfl
theorem keywords_ref (G : Nat → AV) (h : Hp) : PCall (En G) 77 [] h (.sl .full 1 (kw.map encStr)) := by
  refine acalls_of (H := Hint.none) (enM G) Tryd.func77 rfl (by kernel_rfl) (by kernel_rfl) (Nat.le_of_ble_eq_true (by kernel_rfl)) ?_
  show awp _ _ _ _ _ (endQ _ [.tmp 0] _)
  simp -implicitDefEqProofs only [List.getElem?_cons_zero, List.getElem?_cons_succ, evp_nil, evp_cons, awp_seq, awp_reg, seqQ_n, WW_one, WW_nil, none_md, none_fz, frz_nil, ownOp, wc_app, wcont_s, ev_const, av_str, av_nil, x_assign, x_buildSlice, Option.getD_some, Bool.not_false, enP]
  refine holdsO_of (v := .sl .full 1 (kw.map encStr)) (h := h) (by kernel_rfl) ?_
  simp -implicitDefEqProofs only [List.getElem?_cons_zero, List.getElem?_cons_succ, awp_ret, seqQ_n, end_r, WW_one, WW_nil, none_md, none_fz, frz_nil, ownOp, wc_app, wcont_s, upd_app, ev_tmp, x_assign, ↓reduceIte, Option.getD_some, Bool.not_false]
  exact ⟨trivial, trivial⟩
theorem isKeyword_ref (G : Nat → AV) (v : ByteArray) (h : Hp) : PCall (En G) 56 [.str v] h (.bool (hasS kw v)) := by
  refine acalls_of (H := Hint.none) (enM G) Tryd.func56 rfl (by kernel_rfl) (by kernel_rfl) (Nat.le_of_ble_eq_true (by kernel_rfl)) ?_
  show awp _ _ _ _ _ (endQ _ [.tmp 2] _)
  simp -implicitDefEqProofs only [List.getElem?_cons_zero, List.getElem?_cons_succ, awp_seq, awp_reg, seqQ_n, WW_one, WW_nil, none_md, none_fz, frz_nil, ownOp, wc_app, wcont_s, ev_const, ev_func, av_bool, x_assign, X1_call, callA_fn, List.map_nil, List.append_nil, Option.getD_some, Bool.not_false, enP]
  refine (keywords_ref G h).use ?_
  simp -implicitDefEqProofs only [List.getElem?_cons_zero, List.getElem?_cons_succ, WW_one, none_md, none_fz, frz_nil, ownOp, wc_app, wcont_s, upd_app, ev_tmp, ev_func, x_move, X1_call, callA_fn, frameOf_zero, List.map_cons, List.map_nil, List.append_nil, ↓reduceIte, Nat.reduceEqDiff, Option.getD_some, Bool.not_false]
  refine (has_ref G kw .full v h (by rw [kw_len]; omega)).use ?_
  simp -implicitDefEqProofs only [List.getElem?_cons_zero, List.getElem?_cons_succ, awp_ret, seqQ_n, end_r, WW_one, WW_nil, none_md, none_fz, frz_nil, ownOp, wc_app, wcont_s, upd_app, ev_tmp, x_assign, ↓reduceIte, Option.getD_some, Bool.not_false]
  exact ⟨trivial, trivial⟩
/-- the global variable of the keywords -/
def KwG (G : Nat → AV) : Prop := ∃ m, G 0 = .fptr 1 [[.sl m 1 (kw.map encStr)]] 0 0
theorem isKeyword_prog (G : Nat → AV) (hG : KwG G) (v : ByteArray) (h : Hp) : PCall (En G) 52 [.str v] h (.bool (hasS kw v)) := by
  obtain ⟨m, hg⟩ := hG
  refine acalls_of (H := Hint.none) (enM G) Tryd.func52 rfl (by kernel_rfl) (by kernel_rfl) (Nat.le_of_ble_eq_true (by kernel_rfl)) ?_
  show awp _ _ _ _ _ (endQ _ [.tmp 2] _)
  have e : aLoad Tryd.prog h 79 (G 0) = some (.sl m 1 (kw.map encStr)) := by rw [hg]; exact load_fix ag79 rfl rfl
  have hl : kw.length ≤ 1099511627776 := by rw [kw_len]; omega
  simp -implicitDefEqProofs only [List.getElem?_cons_zero, List.getElem?_cons_succ, awp_seq, awp_reg, seqQ_n, WW_one, WW_nil, none_md, none_fz, frz_nil, ownOp, wc_app, wcont_s, upd_app, ev_tmp, ev_const, ev_func, ev_glob, av_bool, x_move, x_assign, x_load, X1_call, callA_fn, holdsO_ofO, frameOf_zero, List.map_cons, List.map_nil, List.append_nil, ↓reduceIte, Nat.reduceEqDiff, Option.getD_some, Bool.not_false, enP, enG, e]
  refine (contains_prog G kw m v h hl).use ?_
  simp -implicitDefEqProofs only [List.getElem?_cons_zero, List.getElem?_cons_succ, awp_ret, seqQ_n, end_r, WW_one, WW_nil, none_md, none_fz, frz_nil, ownOp, wc_app, wcont_s, upd_app, ev_tmp, x_assign, ↓reduceIte, Option.getD_some, Bool.not_false]
  exact ⟨trivial, trivial⟩

/-- a word: not empty, begins small, goes on as names do -/
def wordB (s : ByteArray) : Bool := (match s.data.toList with | [] => false | b :: _ => lowB b.toNat) && s.data.toList.all fun b => folB b.toNat
def isName (s : ByteArray) : Bool := wordB s && decide (s.size ≤ 16) && !hasS kw s

theorem fol_small {n : Int} (h : folB n = true) : n < 128 := by
  simp only [folB, lowB, digB, Bool.or_eq_true, Bool.and_eq_true, decide_eq_true_eq, beq_iff_eq] at h
  omega
theorem rng_str (h : Hp) (s : ByteArray) : aRange Tryd.prog h 9 (.str s) = some (.ptr h.length 0 0, h ++ [.iter s 0]) := by
  have : Tryd.prog.underlying 9 = some .string := by kernel_rfl
  simp [aRange, this]
theorem next_go {h : Hp} {s : ByteArray} {pos : Nat} (hp : pos < s.size) : aNext (h ++ [.iter s pos]) (.ptr h.length 0 0) true = some (.tup [.bool true, .int .i64 pos, .int .i32 (Utf8.decode s pos).1], h ++ [.iter s (pos + (Utf8.decode s pos).2)]) := by
  simp [aNext, hp]
theorem next_end {h : Hp} {s : ByteArray} {pos : Nat} (hp : ¬ pos < s.size) : aNext (h ++ [.iter s pos]) (.ptr h.length 0 0) true = some (.tup [.bool false], h ++ [.iter s pos]) := by
  simp [aNext, hp]

theorem wordB_fail {s : ByteArray} {k : Nat} (hk : k < s.size) (hb : folB (s[k]'hk).toNat = false) : wordB s = false := by
  unfold wordB
  have : (s.data.toList.all fun b => folB b.toNat) = false := by
    rw [List.all_eq_false]
    exact ⟨s[k], Array.getElem_mem_toList (xs := s.data) hk, by simp [hb]⟩
  rw [this]; simp
theorem wordB_fail0 {s : ByteArray} (hk : 0 < s.size) (hb : lowB (s[0]'hk).toNat = false) : wordB s = false := by
  unfold wordB
  have : (match s.data.toList with | [] => false | b :: _ => lowB b.toNat) = false := by
    cases hl : s.data.toList with
    | nil => rfl
    | cons b l =>
      have h0 : s[0]'hk = b := by
        have : s.data.toList[0]? = some b := by rw [hl]; rfl
        have h2 : s.data[0]? = some b := by rw [← Array.getElem?_toList]; exact this
        have hk' : 0 < s.data.size := hk
        rw [Array.getElem?_eq_getElem hk'] at h2
        exact Option.some.inj h2
      simp only
      rw [← h0]; exact hb
  rw [this]; simp
theorem wordB_ok {s : ByteArray} (hk : 0 < s.size) (hb : lowB (s[0]'hk).toNat = true) (ha : ∀ i (hi : i < s.size), folB (s[i]'hi).toNat = true) : wordB s = true := by
  unfold wordB
  have h1 : (match s.data.toList with | [] => false | b :: _ => lowB b.toNat) = true := by
    cases hl : s.data.toList with
    | nil =>
      have : s.data.toList.length = 0 := by rw [hl]; rfl
      have h2 : s.data.size = 0 := by simpa using this
      have h3 : s.size = s.data.size := rfl
      omega
    | cons b l =>
      have h0 : s[0]'hk = b := by
        have : s.data.toList[0]? = some b := by rw [hl]; rfl
        have h2 : s.data[0]? = some b := by rw [← Array.getElem?_toList]; exact this
        have hk' : 0 < s.data.size := hk
        rw [Array.getElem?_eq_getElem hk'] at h2
        exact Option.some.inj h2
      simp only
      rw [← h0]; exact hb
  rw [h1, Bool.true_and, List.all_eq_true]
  intro b hbm
  obtain ⟨i, hi, rfl⟩ := List.getElem_of_mem hbm
  have hi' : i < s.size := by simpa using hi
  exact ha i hi'

theorem word_prog (G : Nat → AV) (s : ByteArray) (h : Hp) (hl : s.size ≤ 1099511627776) : PCall (En G) 51 [.str s] h (.bool (wordB s)) := by
  refine ACalls.pure0 rfl ?_
  refine acalls_of (H := Hint.none) (enM G) Tryd.func51 rfl (by kernel_rfl) (by kernel_rfl) (Nat.le_of_ble_eq_true (by kernel_rfl)) ?_
  show awp _ _ _ _ _ (endQ _ [.tmp 2] _)
  simp -implicitDefEqProofs only [List.getElem?_cons_zero, List.getElem?_cons_succ, awp_seq, awp_block, awp_reg, seqQ_n, WW_one, WW_nil, none_md, none_fz, frz_nil, ownOp, wc_app, wcont_s, upd_app, ev_tmp, ev_const, av_bool, x_move, x_assign, x_range, holdsO_some, frameOf_zero, ↓reduceIte, Nat.reduceEqDiff, Option.getD_some, Bool.not_false, enP, rng_str]
  refine awp_loop (fun n F H => ∃ k, n + k = s.size ∧ F 0 = .str s ∧ F 6 = .ptr h.length 0 0 ∧ H = h ++ [.iter s k] ∧ (∀ i (hi : i < s.size), i < k → folB (s[i]'hi).toNat = true) ∧ (∀ hp : 0 < s.size, 0 < k → lowB (s[0]'hp).toNat = true)) s.size ⟨0, by simp, rfl, by simp -implicitDefEqProofs only [List.getElem?_cons_zero, List.getElem?_cons_succ, upd_app, ↓reduceIte], rfl, fun _ _ h => absurd h (by omega), fun _ h => absurd h (by omega)⟩ ?_
  rintro n F H ⟨k, hk, f0, f6, rfl, hall, h0⟩
  rcases Classical.em (k < s.size) with hp | hp
  · have go : ∀ (r : Nat × Nat), Utf8.decode s k = r → (folB r.1 = true → r = ((s[k]'hp).toNat, 1) ∧ folB (s[k]'hp).toNat = true) ∧ (folB r.1 = false → wordB s = false) ∧ (lowB r.1 = false → k = 0 → wordB s = false) ∧ (lowB r.1 = true → folB r.1 = true) := by
      rintro r rfl
      have lf : ∀ n, lowB n = true → folB n = true := fun n hn => by unfold folB; rw [hn]; rfl
      rcases Nat.lt_or_ge (s[k]'hp).toNat 128 with ha | ha
      · have hd := decode_ascii s k hp ha
        rw [hd]
        exact ⟨fun hf => ⟨rfl, hf⟩, fun hf => wordB_fail hp hf, fun hf h0 => by subst h0; exact wordB_fail0 hp hf, lf _⟩
      · have hd := (decode_high s k hp ha).1
        refine ⟨fun hf => ?_, fun _ => ?_, fun _ h0 => ?_, lf _⟩
        · have := fol_small hf; omega
        · refine wordB_fail hp ?_
          cases hf : folB (s[k]'hp).toNat with
          | false => rfl
          | true => have := fol_small hf; omega
        · refine wordB_fail hp ?_
          cases hf : folB (s[k]'hp).toNat with
          | false => rfl
          | true => have := fol_small hf; omega
    simp -implicitDefEqProofs only [List.getElem?_cons_zero, List.getElem?_cons_succ, awp_seq, awp_block, awp_reg, awp_skip, awp_cond, seqQ_n, cond_t, WW_one, WW_nil, WW_guardE, GX_some, gdstO, none_md, none_fz, frz_nil, ownOp, wc_app, wcont_s, upd_app, ev_tmp, ev_const, av_int, x_move, x_assign, x_bin, x_next, x_extract, ext_tup, holdsO_some, holdsO_ofO, bin_eql, ↓reduceIte, Nat.reduceEqDiff, Option.getD_some, Bool.not_false, enP, f6, next_go hp]
    generalize hr : Utf8.decode s k = r at go
    obtain ⟨g1, g2, g3, g4⟩ := go r rfl
    have done : ∀ H', folB r.1 = true → (k = 0 → lowB r.1 = true) → H' = h ++ [ABlk.iter s (k + r.2)] → ∃ m, m < n ∧ ∃ k', m + k' = s.size ∧ H' = h ++ [.iter s k'] ∧ (∀ i (hi : i < s.size), i < k' → folB (s[i]'hi).toNat = true) ∧ (∀ hp : 0 < s.size, 0 < k' → lowB (s[0]'hp).toNat = true) := by
      intro H' hf hlw hH
      obtain ⟨e1, e2⟩ := g1 hf
      refine ⟨n - 1, by omega, k + 1, by omega, by rw [hH, e1], fun i hi hik => ?_, fun hp0 _ => ?_⟩
      · rcases Nat.lt_or_ge i k with h' | h'
        · exact hall i hi h'
        · have : i = k := by omega
          subst this; exact e2
      · rcases Nat.eq_zero_or_pos k with h' | h'
        · subst h'; have := hlw rfl; rw [e1] at this; exact this
        · exact h0 hp0 h'
    refine G1_of (fun ha => ?_) (fun ha => ?_)
    · have hk0 : k = 0 := by simp at ha; omega
      simp -implicitDefEqProofs only [List.getElem?_cons_zero, List.getElem?_cons_succ, WW_guardE, GX_some, gdstO, G1_tt, none_md, none_fz, frz_nil, ownOp, wc_app, wcont_s, upd_app, ev_tmp, ev_func, x_move, X1_call, callA_fn, List.map_cons, List.map_nil, List.append_nil, ↓reduceIte, Nat.reduceEqDiff, Option.getD_some, Bool.not_false, ha]
      refine (lower_prog G _ _).use ?_
      simp -implicitDefEqProofs only [List.getElem?_cons_zero, List.getElem?_cons_succ, WW_one, WW_guardE, GX_some, gdstO, G1_tt, none_md, none_fz, frz_nil, ownOp, wc_app, wcont_s, upd_app, ev_tmp, ev_const, av_bool, x_move, x_pick, pick_t, x_un, holdsO_ofO, un_not, ↓reduceIte, Nat.reduceEqDiff, Option.getD_some, Bool.not_false]
      refine G1_of (fun hb => ?_) (fun hb => ?_)
      · simp -implicitDefEqProofs only [List.getElem?_cons_zero, List.getElem?_cons_succ, awp_seq, awp_reg, awp_ret, awp_cond, seqQ_n, seqQ_r, blk_r, rnd_r, end_r, cond_t, WW_one, WW_nil, WW_guardE, GX_some, gdstO, G1_ft, none_md, none_fz, frz_nil, ownOp, wc_app, wcont_s, upd_app, aput, ev_tmp, ev_const, av_bool, x_assign, x_pick, pick_t, ↓reduceIte, Nat.reduceEqDiff, Option.getD_some, Bool.not_false, hb]
        have hlw : lowB r.1 = false := by simpa using hb
        exact ⟨by rw [g3 hlw hk0], _, rfl⟩
      have hlw : lowB r.1 = true := by simpa using hb
      simp -implicitDefEqProofs only [List.getElem?_cons_zero, List.getElem?_cons_succ, WW_guardE, GX_some, gdstO, G1_ff, none_md, none_fz, frz_nil, ownOp, wc_app, wcont_s, upd_app, ev_tmp, ev_func, x_move, X1_call, callA_fn, List.map_cons, List.map_nil, List.append_nil, ↓reduceIte, Nat.reduceEqDiff, Option.getD_some, Bool.not_false, hb]
      refine (follows_prog G _ _).use ?_
      simp -implicitDefEqProofs only [List.getElem?_cons_zero, List.getElem?_cons_succ, awp_cond, seqQ_n, WW_one, WW_nil, WW_guardE, GX_some, gdstO, G1_ff, none_md, none_fz, frz_nil, ownOp, wc_app, wcont_s, upd_app, ev_tmp, ev_const, av_bool, x_pick, pick_f, x_un, holdsO_ofO, un_not, ↓reduceIte, Nat.reduceEqDiff, Option.getD_some, Bool.not_false]
      have hf := g4 hlw
      simp -implicitDefEqProofs only [List.getElem?_cons_zero, List.getElem?_cons_succ, awp_skip, blk_n, rnd_n, cond_f, upd_app, ↓reduceIte, Nat.reduceEqDiff, Bool.not_true, hf]
      obtain ⟨m, h1, k', h2, h3, h4, h5⟩ := done _ hf (fun _ => hlw) rfl
      exact ⟨m, h1, k', h2, f0, f6, h3, h4, h5⟩
    · have hk0 : k ≠ 0 := by intro e; subst e; simp at ha
      simp -implicitDefEqProofs only [List.getElem?_cons_zero, List.getElem?_cons_succ, WW_one, WW_guardE, GX_some, gdstO, G1_ff, G1_tf, none_md, none_fz, frz_nil, ownOp, wc_app, wcont_s, upd_app, aput, ev_tmp, ev_const, ev_func, av_bool, x_move, x_pick, pick_f, X1_call, callA_fn, List.map_cons, List.map_nil, List.append_nil, ↓reduceIte, Nat.reduceEqDiff, Option.getD_some, Bool.not_false, ha]
      refine (follows_prog G _ _).use ?_
      simp -implicitDefEqProofs only [List.getElem?_cons_zero, List.getElem?_cons_succ, awp_cond, seqQ_n, WW_one, WW_nil, WW_guardE, GX_some, gdstO, G1_ff, none_md, none_fz, frz_nil, ownOp, wc_app, wcont_s, upd_app, ev_tmp, ev_const, av_bool, x_pick, pick_f, x_un, holdsO_ofO, un_not, ↓reduceIte, Nat.reduceEqDiff, Option.getD_some, Bool.not_false]
      refine cond_of (fun hb => ?_) (fun hb => ?_)
      · have hf : folB r.1 = false := by simpa using hb
        simp -implicitDefEqProofs only [List.getElem?_cons_zero, List.getElem?_cons_succ, awp_seq, awp_reg, awp_ret, seqQ_n, seqQ_r, blk_r, rnd_r, end_r, WW_one, WW_nil, none_md, none_fz, frz_nil, ownOp, wc_app, wcont_s, upd_app, ev_const, av_bool, x_assign, ↓reduceIte, Option.getD_some, Bool.not_false]
        exact ⟨by rw [g2 hf], _, rfl⟩
      · have hf : folB r.1 = true := by simpa using hb
        simp -implicitDefEqProofs only [List.getElem?_cons_zero, List.getElem?_cons_succ, awp_skip, blk_n, rnd_n, upd_app, ↓reduceIte, Nat.reduceEqDiff]
        obtain ⟨m, h1, k', h2, h3, h4, h5⟩ := done _ hf (fun e => absurd e hk0) rfl
        exact ⟨m, h1, k', h2, f0, f6, h3, h4, h5⟩
  · simp -implicitDefEqProofs only [List.getElem?_cons_zero, List.getElem?_cons_succ, awp_seq, awp_reg, awp_ret, awp_exit, awp_cond, seqQ_n, seqQ_e, blk_e, rnd_e, end_r, cond_f, WW_one, WW_nil, none_md, none_fz, frz_nil, ownOp, wc_app, wcont_s, upd_app, ev_tmp, ev_const, av_str, x_move, x_assign, x_bin, x_next, x_extract, ext_tup, holdsO_some, holdsO_ofO, bin_sneq, ↓reduceIte, Nat.reduceEqDiff, Option.getD_some, Bool.not_false, enP, f0, f6, next_end hp]
    have hks : k = s.size := by omega
    refine ⟨?_, _, rfl⟩
    congr 1
    rcases Nat.eq_zero_or_pos s.size with hz | hz
    · have : s = ⟨#[]⟩ := by
        obtain ⟨d⟩ := s
        have : d.size = 0 := hz
        rw [Array.eq_empty_of_size_eq_zero this]
      subst this
      rw [ByteArray.toList_eq]
      rfl
    · rw [wordB_ok hz (h0 hz (by omega)) (fun i hi => hall i hi (by omega))]
      have hne : s.toList ≠ [] := by
        rw [ByteArray.toList_eq]
        intro e
        have : s.data.toList.length = 0 := by rw [e]; rfl
        have h2 : s.data.size = 0 := by simpa using this
        have h3 : s.size = s.data.size := rfl
        omega
      cases hl2 : s.toList with
      | nil => exact absurd hl2 hne
      | cons => rw [ByteArray.toList_eq]; rfl
end Go.Proofs.YtpdohkcjhphibaaDoor.Bins
