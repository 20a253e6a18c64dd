/- The chapter's examples; no condition but the keywords that are laid. -/
import Derived.Test.YtpdohkcjhphibaaDoorD3
import Derived.Test.YtpdohkcjhphibaaDoorD1
set_option linter.unusedVariables false
set_option linter.unusedSimpArgs false
namespace Go.Proofs.YtpdohkcjhphibaaDoor.Bins
open Go Go.Proofs.YtpdohkcjhphibaaDoor.Sm

def exL : List Rng := [⟨5, 7⟩, ⟨1, 2⟩, ⟨3, 3⟩, ⟨9, 8⟩]
theorem exL_normal : normal exL = [⟨1, 3⟩, ⟨5, 7⟩] := by
  have h := normal_of (xs := exL) (ys := [⟨1, 2⟩, ⟨3, 3⟩, ⟨5, 7⟩]) (by decide) (by decide)
  rw [← h]; decide
def exB : Bin := ⟨⟨#[116]⟩, 0, ⟨.nil, []⟩, .full, [⟨.full, [⟨1, 1⟩]⟩, ⟨.full, [⟨2, 3⟩]⟩]⟩
theorem exB_ok : BinOk exB := ⟨by decide, by decide, by decide, by decide⟩
theorem exB_hit1 : hit exB [5, 1] 3 = true := by decide +kernel
theorem exB_hit2 : hit exB [1, 5] 3 = false := by decide +kernel
theorem exA_ok : autoV 3 3 = .tup [.sl .any 4 ((autoL 8 3).map encB), .int .i64 0] := by unfold autoV; rw [if_pos (by decide)]; rfl
theorem exA_at (h : Hp) : ixSl 4 h (.sl .any 4 ((autoL 8 3).map encB)) (.int .i64 1) = some (.fptr 4 ((autoL 8 3).map encB) 1 0) := ix_map (n := 1) (by decide)
theorem exA_ld (h : Hp) : aLoad Tryd.prog h 22 (.fptr 4 ((autoL 8 3).map encB) 1 2) = some (.sl .full 2 ([⟨2, 4⟩].map encR)) := by
  rw [load_map ag22 (n := 1) (by decide)]; rfl
theorem bs22_4 (h : Hp) (a b c d e f i j : Int) : aBuildSlice Tryd.prog false h 22 4 [(0, .agg [.int .i64 a, .int .i64 b]), (1, .agg [.int .i64 c, .int .i64 d]), (2, .agg [.int .i64 e, .int .i64 f]), (3, .agg [.int .i64 i, .int .i64 j])] =
    some (.sl .full 2 [[.int .i64 a, .int .i64 b], [.int .i64 c, .int .i64 d], [.int .i64 e, .int .i64 f], [.int .i64 i, .int .i64 j]], h) := by kernel_rfl
theorem bs22_2 (h : Hp) (a b c d : Int) : aBuildSlice Tryd.prog false h 22 2 [(0, .agg [.int .i64 a, .int .i64 b]), (1, .agg [.int .i64 c, .int .i64 d])] = some (.sl .full 2 [[.int .i64 a, .int .i64 b], [.int .i64 c, .int .i64 d]], h) := by kernel_rfl
theorem bs27_2 (h : Hp) (xs ys : List (List AV)) : aBuildSlice Tryd.prog false h 27 2 [(0, .sl .full 2 xs), (1, .sl .full 2 ys)] = some (.sl .full 1 [[.sl .full 2 xs], [.sl .full 2 ys]], h) := by kernel_rfl
theorem bs30_2 (h : Hp) (a b : Int) : aBuildSlice Tryd.prog false h 30 2 [(0, .int .i64 a), (1, .int .i64 b)] = some (.sl .full 1 [[.int .i64 a], [.int .i64 b]], h) := by kernel_rfl
theorem bd29_3 (s : ByteArray) (xs : List (List AV)) : aBuild Tryd.prog 29 [(0, .str s), (3, .sl .full 1 xs)] = some (.agg [.str s, .int .i64 0, .sl .nil 0 [], .sl .full 1 xs]) := by kernel_rfl
theorem al29 (h : Hp) : aAlloc Tryd.prog h 29 = some (.ptr h.length 0 0, h ++ [.live 4 [[.str ⟨#[]⟩, .int .i64 0, .sl .nil 0 [], .sl .nil 0 []]]]) := alloc_of (row := [.str ⟨#[]⟩, .int .i64 0, .sl .nil 0 [], .sl .nil 0 []]) (by kernel_rfl)
def exRow : List AV := [.str ⟨#[116]⟩, .int .i64 0, .sl .nil 0 [], .sl .full 1 [[.sl .full 2 [[.int .i64 1, .int .i64 1]]], [.sl .full 2 [[.int .i64 2, .int .i64 3]]]]]
theorem exRow_conv : CvR (.agg exRow) (.agg (encB exB)) := CvR.agg (CvRL.cons (CvR.refl _) (CvRL.cons (CvR.refl _) (CvRL.cons (CvR.sl (Cv.nil 0 2)) (CvRL.cons (CvR.refl _) CvRL.nil))))
theorem st29 (h : Hp) (row : List AV) (hr : row.length = 4) : aStore Tryd.prog (h ++ [.live 4 [row]]) 29 (.ptr h.length 0 0) (.agg [.str ⟨#[116]⟩, .int .i64 0, .sl .nil 0 [], .sl .full 1 [[.sl .full 2 [[.int .i64 1, .int .i64 1]]], [.sl .full 2 [[.int .i64 2, .int .i64 3]]]]]) = some (h ++ [.live 4 [exRow]]) := by
  have h1 := store_top (P := Tryd.prog) (t := 29) (h := h) (k := 4) (j := 0) (row := row) (cs := exRow) (v := .agg exRow) rfl sz29 (by rw [hr]; exact Nat.le_refl 4)
  rw [splice_full (by rw [hr]; rfl)] at h1
  exact h1
theorem ldX (h : Hp) : aLoad Tryd.prog (h ++ [.live 4 [exRow]]) 29 (.ptr h.length 0 0) = some (.agg exRow) := load_topA ag29 sz29 (by decide)
theorem hitX (G : Nat → AV) (hG : KwG G) (a b v : Int) (h : Hp) : PCall (En G) 15 [.agg exRow, .sl .full 1 [[.int .i64 a], [.int .i64 b]], .int .i64 v] h (.bool (hit exB [a, b] v)) :=
  (hit_prog G hG exB exB_ok [a, b] .full v h (Nat.le_of_ble_eq_true rfl)).args (CvRL.cons exRow_conv (CvRL.refl _))

set_option maxRecDepth 8000 in
set_option maxHeartbeats 1000000 in
theorem awake (G : Nat → AV) (hG : KwG G) (h : Hp) : PCall (En G) 14 [] h (.bool true) := by
  refine ACalls.pure0 rfl ?_
  refine acalls_of (H := Hint.none) (enM G) Tryd.func14 rfl (by kernel_rfl) (by kernel_rfl) (Nat.le_of_ble_eq_true (by kernel_rfl)) ?_
  show awp _ _ _ _ _ (endQ _ [.tmp 0] _)
  simp -implicitDefEqProofs only [List.getElem?_cons_zero, List.getElem?_cons_succ, evp_nil, evp_cons, awp_seq, awp_reg, seqQ_n, WW_one, WW_nil, none_md, none_fz, frz_nil, ownOp, wc_app, wcont_s, upd_app, ev_tmp, ev_const, ev_func, av_int, av_bool, x_assign, x_build, x_buildSlice, X1_call, callA_fn, holdsO_some, holdsO_ofO, List.map_cons, List.map_nil, List.append_nil, ↓reduceIte, Nat.reduceEqDiff, Option.getD_some, Bool.not_false, enP, bd33, bs22_4]
  have n1 : PCall (En G) 12 [.sl .full 2 (exL.map encR)] h (.sl .any 2 (([⟨1, 3⟩, ⟨5, 7⟩] : List Rng).map encR)) := by
    have := normal_prog' G exL .full h (by decide)
    rw [exL_normal] at this
    exact this
  refine PCall.use n1 ?_
  simp -implicitDefEqProofs only [List.getElem?_cons_zero, List.getElem?_cons_succ, awp_seq, awp_reg, seqQ_n, WW_one, WW_nil, none_md, none_fz, frz_nil, ownOp, wc_app, wcont_s, upd_app, ev_tmp, ev_const, ev_func, av_int, x_assign, X1_call, callA_fn, List.map_cons, List.map_nil, List.append_nil, ↓reduceIte, Option.getD_some, Bool.not_false]
  have a1 := auto_prog G 3 3 h
  rw [exA_ok] at a1
  refine a1.use ?_
  simp -implicitDefEqProofs only [List.getElem?_cons_zero, List.getElem?_cons_succ, evp_nil, evp_cons, awp_seq, awp_reg, seqQ_n, WW_one, WW_nil, none_md, none_fz, frz_nil, ownOp, wc_app, wcont_s, wcont_n, upd_app, ev_tmp, ev_const, ev_func, av_int, av_str, x_move, x_assign, x_alloc, x_build, x_buildSlice, x_store, x_extract, ext_tup, X1_call, callA_fn, holdsO_some, holdsO_ofO, holdsO_ofS, List.map_cons, List.map_nil, List.append_nil, ↓reduceIte, Nat.reduceEqDiff, Option.getD_some, Bool.not_false, enP, bd33, bs22i, bs27_2, bd29_3, al29, st29 h [.str ⟨#[]⟩, .int .i64 0, .sl .nil 0 [], .sl .nil 0 []] rfl, bs22_2]
  have s1 := same_ref G ([⟨1, 3⟩, ⟨5, 7⟩] : List Rng) ([⟨1, 3⟩, ⟨5, 7⟩] : List Rng) .any .full (h ++ [.live 4 [exRow]]) (by decide)
  refine PCall.use (r := .bool true) s1 ?_
  have c1 : ((0 : Int) == 0) = true := rfl
  have c2 : (((((autoL 8 3).map encB).length : Nat) : Int) == 3) = true := rfl
  simp -implicitDefEqProofs only [List.getElem?_cons_zero, List.getElem?_cons_succ, evp_nil, evp_cons, WW_one, WW_guardE, GX_some, gdstO, G1_tt, none_md, none_fz, frz_nil, ownOp, wc_app, wcont_s, upd_app, ev_tmp, ev_const, ev_func, av_int, av_bool, x_move, x_pick, pick_t, x_build, x_buildSlice, x_load, x_bin, x_fieldAddr, x_indexAddr, x_len, X1_call, callA_fn, holdsO_some, holdsO_ofO, bin_eql, List.map_cons, List.map_nil, List.append_nil, ↓reduceIte, Nat.reduceEqDiff, Nat.zero_add, Option.getD_some, Bool.not_false, enP, fa29_2, ix39, ln39, c1, c2, exA_at, exA_ld, bd33, bs22i]
  have s2 := same_ref G ([⟨2, 4⟩] : List Rng) ([⟨2, 4⟩] : List Rng) .full .full (h ++ [.live 4 [exRow]]) (by decide)
  refine PCall.use (r := .bool true) s2 ?_
  simp -implicitDefEqProofs only [List.getElem?_cons_zero, List.getElem?_cons_succ, evp_nil, evp_cons, WW_one, WW_guardE, GX_some, gdstO, G1_tt, none_md, none_fz, frz_nil, ownOp, wc_app, wcont_s, upd_app, ev_tmp, ev_const, ev_func, av_int, av_bool, x_move, x_pick, pick_t, x_buildSlice, x_load, X1_call, callA_fn, holdsO_some, holdsO_ofO, List.map_cons, List.map_nil, List.append_nil, ↓reduceIte, Nat.reduceEqDiff, Option.getD_some, Bool.not_false, enP, ldX, bs30_2]
  have h1 := hitX G hG 5 1 3 (h ++ [.live 4 [exRow]])
  rw [exB_hit1] at h1
  refine h1.use ?_
  simp -implicitDefEqProofs only [List.getElem?_cons_zero, List.getElem?_cons_succ, evp_nil, evp_cons, WW_one, WW_guardE, GX_some, gdstO, G1_tt, none_md, none_fz, frz_nil, ownOp, wc_app, wcont_s, upd_app, ev_tmp, ev_const, ev_func, av_int, av_bool, x_move, x_pick, pick_t, x_buildSlice, x_load, X1_call, callA_fn, holdsO_some, holdsO_ofO, List.map_cons, List.map_nil, List.append_nil, ↓reduceIte, Nat.reduceEqDiff, Option.getD_some, Bool.not_false, enP, ldX, bs30_2]
  have h2 := hitX G hG 1 5 3 (h ++ [.live 4 [exRow]])
  rw [exB_hit2] at h2
  refine h2.use ?_
  simp -implicitDefEqProofs only [List.getElem?_cons_zero, List.getElem?_cons_succ, awp_ret, seqQ_n, end_r, WW_one, WW_nil, WW_guardE, GX_some, gdstO, G1_tt, none_md, none_fz, frz_nil, ownOp, wc_app, wcont_s, upd_app, ev_tmp, ev_const, av_bool, x_assign, x_pick, pick_t, x_un, holdsO_ofO, un_not, ↓reduceIte, Nat.reduceEqDiff, Option.getD_some, Bool.not_false]
  exact ⟨trivial, _, rfl⟩
end Go.Proofs.YtpdohkcjhphibaaDoor.Bins
