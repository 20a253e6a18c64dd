/- The contracts of strconv.Itoa and of the reference's Number, for the numbers from 0 to 99; no other condition. -/
import Derived.Test.YtpdohkcjhphibaaDoorB9
import Derived.Test.YtpdohkcjhphibaaDoorSc
set_option linter.unusedVariables false
set_option linter.unusedSimpArgs false
namespace Go.Proofs.YtpdohkcjhphibaaDoor.Bins
open Go Go.Proofs.YtpdohkcjhphibaaDoor.Sm

def digs : ByteArray := ⟨#[48, 49, 50, 51, 52, 53, 54, 55, 56, 57, 97, 98, 99, 100, 101, 102, 103, 104, 105, 106, 107, 108, 109, 110, 111, 112, 113, 114, 115, 116, 117, 118, 119, 120, 121, 122]⟩
def tab2 : ByteArray := ⟨#[48, 48, 48, 49, 48, 50, 48, 51, 48, 52, 48, 53, 48, 54, 48, 55, 48, 56, 48, 57, 49, 48, 49, 49, 49, 50, 49, 51, 49, 52, 49, 53, 49, 54, 49, 55, 49, 56, 49, 57, 50, 48, 50, 49, 50, 50, 50, 51, 50, 52, 50, 53, 50, 54, 50, 55, 50, 56, 50, 57, 51, 48, 51, 49, 51, 50, 51, 51, 51, 52, 51, 53, 51, 54, 51, 55, 51, 56, 51, 57, 52, 48, 52, 49, 52, 50, 52, 51, 52, 52, 52, 53, 52, 54, 52, 55, 52, 56, 52, 57, 53, 48, 53, 49, 53, 50, 53, 51, 53, 52, 53, 53, 53, 54, 53, 55, 53, 56, 53, 57, 54, 48, 54, 49, 54, 50, 54, 51, 54, 52, 54, 53, 54, 54, 54, 55, 54, 56, 54, 57, 55, 48, 55, 49, 55, 50, 55, 51, 55, 52, 55, 53, 55, 54, 55, 55, 55, 56, 55, 57, 56, 48, 56, 49, 56, 50, 56, 51, 56, 52, 56, 53, 56, 54, 56, 55, 56, 56, 56, 57, 57, 48, 57, 49, 57, 50, 57, 51, 57, 52, 57, 53, 57, 54, 57, 55, 57, 56, 57, 57]⟩
/-- the decimal text of a number below 100 -/
def dec (i : Nat) : ByteArray := if i < 10 then strOf [48 + (i : Int)] else strOf [48 + ((i / 10 : Nat) : Int)] ++ strOf [48 + ((i % 10 : Nat) : Int)]
theorem dig1 : ∀ i : Nat, i < 10 → digs.extract i (i + 1) = dec i := by decide +kernel
theorem dig2 : ∀ i : Nat, i < 100 → 10 ≤ i → tab2.extract (i * 2) (i * 2 + 2) = dec i := by decide +kernel
theorem dec_size : ∀ i : Nat, i < 100 → (dec i).size ≤ 2 := by decide +kernel
theorem dec_size0 : ∀ i : Nat, i < 100 → 1 ≤ (dec i).size := by decide +kernel
theorem bin_sadd {P : Program} {t : TypeId} {s u : ByteArray} (h : s.size + u.size ≤ 9223372036854775807) : aBin P t .add (.str s) (.str u) = some (.str (s ++ u)) := by
  have : ((s.size + u.size : Nat) : Int) ≤ IntKind.i64.max := by
    have e : IntKind.i64.max = 9223372036854775807 := by decide
    rw [e]; omega
  simp only [aBin, aStr, if_pos this]
theorem sl_str {P : Program} {t : TypeId} {h : Hp} {s : ByteArray} {kk kk' : IntKind} {l u : Nat} (hu : P.underlying t = some .string) (h1 : l ≤ u) (h2 : u ≤ s.size) : aSlice P h t (.str s) (some (.int kk (l : Int))) (some (.int kk' (u : Int))) none = some (.str (s.extract l u)) := by
  have b1 : boundA (some (.int kk (l : Int))) (some 0) = some l := by simp [boundA]
  have b2 : boundA (some (.int kk' (u : Int))) (some s.size) = some u := by simp [boundA]
  simp only [aSlice, hu, b1, b2]
  rw [if_pos ⟨h1, h2⟩]
set_option maxRecDepth 20000 in
theorem small_prog (G : Nat → AV) (i : Nat) (hi : i < 100) (h : Hp) : PCall (En G) 88 [.int .i64 (i : Nat)] h (.str (dec i)) := by
  refine acalls_of (H := Hint.none) (enM G) Tryd.func88 rfl (by kernel_rfl) (by kernel_rfl) (Nat.le_of_ble_eq_true (by kernel_rfl)) ?_
  show awp _ _ _ _ _ (endQ _ [.tmp 2] _)
  simp -implicitDefEqProofs only [List.getElem?_cons_zero, List.getElem?_cons_succ, awp_seq, awp_reg, awp_cond, seqQ_n, WW_one, WW_nil, none_md, none_fz, frz_nil, ownOp, wc_app, wcont_s, upd_app, ev_tmp, ev_const, av_int, av_str, x_move, x_assign, x_bin, holdsO_ofO, bin_lss, frameOf_zero, ↓reduceIte, Nat.reduceEqDiff, Option.getD_some, Bool.not_false, enP]
  refine cond_of (fun hc => ?_) (fun hc => ?_)
  · have hc' : i < 10 := by simp at hc; omega
    simp -implicitDefEqProofs only [Option.map_some, Option.map_none, List.getElem?_cons_zero, List.getElem?_cons_succ, awp_seq, awp_reg, WW_one, none_md, none_fz, frz_nil, ownOp, wc_app, wcont_s, upd_app, ev_tmp, ev_const, av_int, av_str, x_move, x_bin, x_slice, holdsO_ofO, bin_add, frameOf_zero, ↓reduceIte, Nat.reduceEqDiff, Option.getD_some, Bool.not_false, enP, wrap_succ (show i < 9223372036854775807 by omega)]
    refine holdsO_of (v := .str (dec i)) (h := h) ?_ ?_
    · have e := sl_str (P := Tryd.prog) (t := 9) (h := h) (s := digs) (kk := .i64) (kk' := .i64) Tryd.underlying9 (show i ≤ i + 1 by omega) (Nat.le_trans (show i + 1 ≤ 36 by omega) (Nat.le_of_ble_eq_true (by kernel_rfl)))
      rw [dig1 i hc'] at e
      exact congrArg (ofO h) e
    · simp -implicitDefEqProofs only [List.getElem?_cons_zero, List.getElem?_cons_succ, awp_ret, seqQ_n, seqQ_r, end_r, WW_one, WW_nil, none_md, none_fz, frz_nil, ownOp, wc_app, wcont_s, upd_app, ev_tmp, x_assign, ↓reduceIte, Option.getD_some, Bool.not_false]
      exact ⟨trivial, trivial⟩
  · have hc' : ¬ i < 10 := by simp at hc; omega
    have w2 : IntKind.i64.wrap ((i : Int) * 2) = ((i * 2 : Nat) : Int) := by rw [wrap_i64 (by omega) (by omega)]; omega
    have w3 : IntKind.i64.wrap (((i * 2 : Nat) : Int) + 2) = ((i * 2 + 2 : Nat) : Int) := by rw [wrap_i64 (by omega) (by omega)]; omega
    simp -implicitDefEqProofs only [Option.map_some, Option.map_none, List.getElem?_cons_zero, List.getElem?_cons_succ, awp_seq, awp_reg, awp_skip, seqQ_n, WW_one, none_md, none_fz, frz_nil, ownOp, wc_app, wcont_s, upd_app, ev_tmp, ev_const, av_int, av_str, x_move, x_bin, x_slice, holdsO_ofO, bin_add, bin_mul, frameOf_zero, ↓reduceIte, Nat.reduceEqDiff, Option.getD_some, Bool.not_false, enP, w2, w3]
    refine holdsO_of (v := .str (dec i)) (h := h) ?_ ?_
    · have e := sl_str (P := Tryd.prog) (t := 9) (h := h) (s := tab2) (kk := .i64) (kk' := .i64) Tryd.underlying9 (show i * 2 ≤ i * 2 + 2 by omega) (Nat.le_trans (show i * 2 + 2 ≤ 200 by omega) (Nat.le_of_ble_eq_true (by kernel_rfl)))
      rw [dig2 i hi (by omega)] at e
      exact congrArg (ofO h) e
    · simp -implicitDefEqProofs only [List.getElem?_cons_zero, List.getElem?_cons_succ, awp_ret, seqQ_n, end_r, WW_one, WW_nil, none_md, none_fz, frz_nil, ownOp, wc_app, wcont_s, upd_app, ev_tmp, x_assign, ↓reduceIte, Option.getD_some, Bool.not_false]
      exact ⟨trivial, trivial⟩
theorem format_prog (G : Nat → AV) (i : Nat) (hi : i < 100) (h : Hp) : PCall (En G) 79 [.int .i64 (i : Nat), .int .i64 10] h (.str (dec i)) := by
  refine acalls_of (H := Hint.none) (enM G) Tryd.func79 rfl (by kernel_rfl) (by kernel_rfl) (Nat.le_of_ble_eq_true (by kernel_rfl)) ?_
  show awp _ _ _ _ _ (endQ _ [.tmp 4] _)
  have c1 : decide ((0 : Int) ≤ (i : Int)) = true := by simp
  have c2 : decide ((i : Int) < 100) = true := by simp; omega
  have c3 : ((10 : Int) == 10) = true := rfl
  simp -implicitDefEqProofs only [List.getElem?_cons_zero, List.getElem?_cons_succ, awp_seq, awp_reg, awp_cond, seqQ_n, cond_t, WW_one, WW_nil, WW_guardE, GX_some, gdstO, G1_tt, none_md, none_fz, frz_nil, ownOp, wc_app, wcont_s, upd_app, ev_tmp, ev_const, ev_func, av_int, av_bool, av_str, x_move, x_assign, x_pick, pick_t, x_bin, X1_call, callA_fn, holdsO_ofO, bin_eql, bin_lss, bin_leq, frameOf_zero, frameOf_succ, List.map_cons, List.map_nil, List.append_nil, ↓reduceIte, Nat.reduceEqDiff, Option.getD_some, Bool.not_false, enP, c1, c2, c3]
  refine (small_prog G i hi h).use ?_
  simp -implicitDefEqProofs only [List.getElem?_cons_zero, List.getElem?_cons_succ, awp_ret, seqQ_n, seqQ_r, end_r, WW_one, WW_nil, none_md, none_fz, frz_nil, ownOp, wc_app, wcont_s, upd_app, ev_tmp, x_assign, ↓reduceIte, Option.getD_some, Bool.not_false]
  exact ⟨trivial, trivial⟩
theorem itoa_prog (G : Nat → AV) (i : Nat) (hi : i < 100) (h : Hp) : PCall (En G) 43 [.int .i64 (i : Nat)] h (.str (dec i)) := by
  refine acalls_of (H := Hint.none) (enM G) Tryd.func43 rfl (by kernel_rfl) (by kernel_rfl) (Nat.le_of_ble_eq_true (by kernel_rfl)) ?_
  show awp _ _ _ _ _ (endQ _ [.tmp 2] _)
  simp -implicitDefEqProofs only [List.getElem?_cons_zero, List.getElem?_cons_succ, awp_seq, awp_reg, seqQ_n, WW_one, WW_nil, none_md, none_fz, frz_nil, ownOp, wc_app, wcont_s, upd_app, ev_tmp, ev_const, ev_func, av_str, x_move, x_assign, X1_call, callA_fn, frameOf_zero, List.map_cons, List.map_nil, List.append_nil, ↓reduceIte, Nat.reduceEqDiff, Option.getD_some, Bool.not_false, enP]
  have h58 : PCall (En G) 58 [.int .i64 (i : Nat)] h (.str (dec i)) := by
    refine acalls_of (H := Hint.none) (enM G) Tryd.func58 rfl (by kernel_rfl) (by kernel_rfl) (Nat.le_of_ble_eq_true (by kernel_rfl)) ?_
    show awp _ _ _ _ _ (endQ _ [.tmp 2] _)
    simp -implicitDefEqProofs only [List.getElem?_cons_zero, List.getElem?_cons_succ, awp_seq, awp_reg, seqQ_n, WW_one, WW_nil, none_md, none_fz, frz_nil, ownOp, wc_app, wcont_s, upd_app, ev_tmp, ev_const, ev_func, av_int, av_str, x_move, x_assign, X1_call, callA_fn, frameOf_zero, List.map_cons, List.map_nil, List.append_nil, ↓reduceIte, Nat.reduceEqDiff, Option.getD_some, Bool.not_false, enP]
    refine (format_prog G i hi h).use ?_
    simp -implicitDefEqProofs only [List.getElem?_cons_zero, List.getElem?_cons_succ, awp_ret, seqQ_n, end_r, WW_one, WW_nil, none_md, none_fz, frz_nil, ownOp, wc_app, wcont_s, upd_app, ev_tmp, x_assign, ↓reduceIte, Option.getD_some, Bool.not_false]
    exact ⟨trivial, trivial⟩
  refine h58.use ?_
  simp -implicitDefEqProofs only [List.getElem?_cons_zero, List.getElem?_cons_succ, awp_ret, seqQ_n, end_r, WW_one, WW_nil, none_md, none_fz, frz_nil, ownOp, wc_app, wcont_s, upd_app, ev_tmp, x_assign, ↓reduceIte, Option.getD_some, Bool.not_false]
  exact ⟨trivial, trivial⟩

theorem bs92 (h : Hp) (n : Int) : aBuildSlice Tryd.prog false h 92 1 [(0, .int .u8 n)] = some (.sl .full 1 [[.int .u8 n]], h) := by kernel_rfl
theorem cvs (n : Int) : aConv Tryd.prog 92 9 (.sl .full 1 [[.int .u8 n]]) = some (.str (strOf [n])) := by kernel_rfl
theorem wrap_u8 {n : Int} (h0 : 0 ≤ n) (h1 : n ≤ 255) : IntKind.u8.wrap n = n := by
  unfold IntKind.wrap IntKind.bits IntKind.signed
  simp
  omega
theorem digits1 (G : Nat → AV) (i : Nat) (hi : i < 10) (h : Hp) : PCall (En G) 80 [.int .i64 (-(i : Int))] h (.str (dec i)) := by
  refine acalls_of (H := Hint.none) (enM G) Tryd.func80 rfl (by kernel_rfl) (by kernel_rfl) (Nat.le_of_ble_eq_true (by kernel_rfl)) ?_
  show awp _ _ _ _ _ (endQ _ [.tmp 2] _)
  have c1 : decide (-(i : Int) > -10) = true := by simp; omega
  have w1 : IntKind.i64.wrap (48 - -(i : Int)) = 48 + (i : Int) := by rw [wrap_i64 (by omega) (by omega)]; omega
  have w2 : IntKind.u8.wrap (48 + (i : Int)) = 48 + (i : Int) := wrap_u8 (by omega) (by omega)
  simp -implicitDefEqProofs only [List.getElem?_cons_zero, List.getElem?_cons_succ, evp_nil, evp_cons, awp_seq, awp_reg, awp_ret, awp_cond, seqQ_n, seqQ_r, end_r, cond_t, WW_one, WW_nil, none_md, none_fz, frz_nil, ownOp, wc_app, wcont_s, upd_app, ev_tmp, ev_const, av_int, av_str, x_move, x_assign, x_buildSlice, x_bin, x_conv, holdsO_some, holdsO_ofO, bin_sub, bin_gtr, frameOf_zero, ↓reduceIte, Nat.reduceEqDiff, Option.getD_some, Bool.not_false, enP, cv3_5, c1, w1, w2, bs92, cvs]
  exact ⟨by unfold dec; rw [if_pos hi], trivial⟩
theorem digits2 (G : Nat → AV) (i : Nat) (hi : i < 100) (h : Hp) : PCall (En G) 80 [.int .i64 (-(i : Int))] h (.str (dec i)) := by
  rcases Nat.lt_or_ge i 10 with h10 | h10
  · exact digits1 G i h10 h
  refine acalls_of (H := Hint.none) (enM G) Tryd.func80 rfl (by kernel_rfl) (by kernel_rfl) (Nat.le_of_ble_eq_true (by kernel_rfl)) ?_
  show awp _ _ _ _ _ (endQ _ [.tmp 2] _)
  have c1 : decide (-(i : Int) > -10) = false := by simp; omega
  simp -implicitDefEqProofs only [List.getElem?_cons_zero, List.getElem?_cons_succ, awp_seq, awp_reg, awp_skip, awp_cond, seqQ_n, cond_f, WW_one, WW_nil, none_md, none_fz, frz_nil, ownOp, wc_app, wcont_s, upd_app, ev_tmp, ev_const, av_int, av_str, x_move, x_assign, x_bin, holdsO_ofO, bin_gtr, frameOf_zero, ↓reduceIte, Nat.reduceEqDiff, Option.getD_some, Bool.not_false, enP, c1]
  refine awp_draw (by kernel_rfl) ?_
  have q1 : IntKind.i64.wrap ((-(i : Int)).tdiv 10) = -((i / 10 : Nat) : Int) := by
    rw [Int.neg_tdiv, Int.tdiv_eq_ediv_of_nonneg (by omega), wrap_i64 (by omega) (by omega)]; omega
  have q2 : (-(i : Int)).tmod 10 = -((i % 10 : Nat) : Int) := by
    rw [Int.neg_tmod, Int.tmod_eq_emod_of_nonneg (by omega)]; omega
  have w1 : IntKind.i64.wrap (48 - -((i % 10 : Nat) : Int)) = 48 + ((i % 10 : Nat) : Int) := by rw [wrap_i64 (by omega) (by omega)]; omega
  have w2 : IntKind.u8.wrap (48 + ((i % 10 : Nat) : Int)) = 48 + ((i % 10 : Nat) : Int) := wrap_u8 (by omega) (by omega)
  have b1 : aBin Tryd.prog 3 .quo (.int .i64 (-(i : Int))) (.int .i64 10) = some (.int .i64 (-((i / 10 : Nat) : Int))) := by rw [bin_quo _ _ _ _ _ (by decide), q1]
  have b2 : aBin Tryd.prog 3 .rem (.int .i64 (-(i : Int))) (.int .i64 10) = some (.int .i64 (-((i % 10 : Nat) : Int))) := by rw [bin_rem _ _ _ _ _ (by decide), q2]
  have hd : dec i = strOf [48 + ((i / 10 : Nat) : Int)] ++ strOf [48 + ((i % 10 : Nat) : Int)] := by unfold dec; rw [if_neg (by omega)]
  have hd1 : dec (i / 10) = strOf [48 + ((i / 10 : Nat) : Int)] := by unfold dec; rw [if_pos (by omega)]
  simp -implicitDefEqProofs only [List.getElem?_cons_zero, List.getElem?_cons_succ, dc_app, dcont_s, DD_one, y_move, y_bin, Y1_call, callP_fn, none_md, upd_app, ev_tmp, ev_const, ev_func, av_int, x_bin, holdsO_ofO, frameOf_zero, List.map_cons, List.map_nil, List.append_nil, ↓reduceIte, Nat.reduceEqDiff, Option.getD_some, enP, b1]
  refine ⟨_, digits1 G (i / 10) (by omega) h, ?_⟩
  have hs1 := dec_size (i / 10) (by omega)
  have hs2 : (strOf [48 + ((i % 10 : Nat) : Int)]).size ≤ 2 := by
    have := dec_size (i % 10) (by omega)
    have e : dec (i % 10) = strOf [48 + ((i % 10 : Nat) : Int)] := by unfold dec; rw [if_pos (by omega)]
    rw [e] at this; exact this
  simp -implicitDefEqProofs only [List.getElem?_cons_zero, List.getElem?_cons_succ, evp_nil, evp_cons, dc_app, dcont_s, DD_nil, DD_one, y_assign, y_buildSlice, y_bin, y_conv, awp_ret, seqQ_n, end_r, none_md, upd_app, ev_tmp, ev_const, av_int, x_buildSlice, x_bin, x_conv, holdsO_some, holdsO_ofO, bin_sub, ↓reduceIte, Nat.reduceEqDiff, Option.getD_some, enP, cv3_5, b2, w1, w2, bs92, cvs, bin_sadd (show (dec (i / 10)).size + (strOf [48 + ((i % 10 : Nat) : Int)]).size ≤ 9223372036854775807 by omega)]
  exact ⟨by rw [hd, hd1], trivial⟩
theorem number_ref (G : Nat → AV) (i : Nat) (hi : i < 100) (h : Hp) : PCall (En G) 44 [.int .i64 (i : Nat)] h (.str (dec i ++ ⟨#[59]⟩)) := by
  refine acalls_of (H := Hint.none) (enM G) Tryd.func44 rfl (by kernel_rfl) (by kernel_rfl) (Nat.le_of_ble_eq_true (by kernel_rfl)) ?_
  show awp _ _ _ _ _ (endQ _ [.tmp 2] _)
  simp -implicitDefEqProofs only [List.getElem?_cons_zero, List.getElem?_cons_succ, awp_seq, awp_reg, seqQ_n, WW_one, WW_nil, none_md, none_fz, frz_nil, ownOp, wc_app, wcont_s, upd_app, ev_tmp, ev_const, ev_func, av_str, x_move, x_assign, X1_call, callA_fn, frameOf_zero, List.map_cons, List.map_nil, List.append_nil, ↓reduceIte, Nat.reduceEqDiff, Option.getD_some, Bool.not_false, enP]
  have h59 : PCall (En G) 59 [.int .i64 (i : Nat)] h (.str (dec i)) := by
    refine acalls_of (H := Hint.none) (enM G) Tryd.func59 rfl (by kernel_rfl) (by kernel_rfl) (Nat.le_of_ble_eq_true (by kernel_rfl)) ?_
    show awp _ _ _ _ _ (endQ _ [.tmp 2] _)
    have c1 : decide ((i : Int) < 0) = false := by simp
    have w1 : IntKind.i64.wrap (0 - (i : Int)) = -(i : Int) := by rw [wrap_i64 (by omega) (by omega)]; omega
    simp -implicitDefEqProofs only [List.getElem?_cons_zero, List.getElem?_cons_succ, awp_seq, awp_reg, awp_skip, awp_cond, seqQ_n, cond_f, WW_one, WW_nil, none_md, none_fz, frz_nil, ownOp, wc_app, wcont_s, upd_app, ev_tmp, ev_const, ev_func, av_int, av_str, x_move, x_assign, x_bin, x_un, X1_call, callA_fn, holdsO_ofO, bin_lss, un_neg, frameOf_zero, List.map_cons, List.map_nil, List.append_nil, ↓reduceIte, Nat.reduceEqDiff, Option.getD_some, Bool.not_false, enP, c1, w1]
    refine (digits2 G i hi h).use ?_
    simp -implicitDefEqProofs only [List.getElem?_cons_zero, List.getElem?_cons_succ, awp_ret, seqQ_n, end_r, WW_one, WW_nil, none_md, none_fz, frz_nil, ownOp, wc_app, wcont_s, upd_app, ev_tmp, x_assign, ↓reduceIte, Option.getD_some, Bool.not_false]
    exact ⟨trivial, trivial⟩
  refine h59.use ?_
  have hs1 := dec_size i hi
  simp -implicitDefEqProofs only [List.getElem?_cons_zero, List.getElem?_cons_succ, awp_ret, seqQ_n, end_r, WW_one, WW_nil, none_md, none_fz, frz_nil, ownOp, wc_app, wcont_s, upd_app, ev_tmp, ev_const, av_str, x_assign, x_bin, holdsO_ofO, ↓reduceIte, Option.getD_some, Bool.not_false, enP, bin_sadd (show (dec i).size + (⟨#[59]⟩ : ByteArray).size ≤ 9223372036854775807 from Nat.le_trans (Nat.add_le_add_right hs1 1) (by decide))]
  exact ⟨trivial, trivial⟩
end Go.Proofs.YtpdohkcjhphibaaDoor.Bins
