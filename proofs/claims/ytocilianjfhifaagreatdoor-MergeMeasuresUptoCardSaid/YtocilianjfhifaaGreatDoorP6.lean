/- Part 6 of the proof (M1, M2, M3, L1, M4, M5, M6, M7); no condition. -/
import Derived.Test.YtocilianjfhifaaGreatDoorP5
set_option linter.unusedVariables false
/- Points, crosses, models; whether names repeat; no condition. -/
set_option linter.unusedSimpArgs false
set_option maxRecDepth 8000
namespace Go.Proofs.YtocilianjfhifaaGreatDoor.Cov
open Go Go.Proofs Go.Proofs.YtocilianjfhifaaGreatDoor.Sm Go.Proofs.YtocilianjfhifaaGreatDoor.Bins Go.RowKit

/-- a slice of numbers -/
structure Is where
  m : SM
  l : List Int
def encL (x : Is) : List AV := [.sl x.m 1 (x.l.map encI)]
theorem encL0 (x : Is) : (encL x)[0]? = some (.sl x.m 1 (x.l.map encI)) := rfl
theorem encL_len (x : Is) : (encL x).length = 1 := rfl
/-- a point -/
structure Pt where
  name : ByteArray
  ex : Ex
  bm : SM
  bins : List Bin
def encP (p : Pt) : List AV := .str p.name :: (encE p.ex ++ [.sl p.bm 4 (p.bins.map encB)])
theorem encP0 (p : Pt) : (encP p)[0]? = some (.str p.name) := rfl
theorem encP5 (p : Pt) : (encP p)[5]? = some (.sl p.bm 4 (p.bins.map encB)) := by unfold encP; rw [encE_eq]; rfl
theorem encP_len (p : Pt) : (encP p).length = 6 := by unfold encP; rw [encE_eq]; rfl
theorem encP_leaf (p : Pt) : (encP p).all AV.leaf = true := by unfold encP; rw [encE_eq]; rfl
theorem encP_ex (p : Pt) : ((encP p).drop 1).take 4 = encE p.ex := by unfold encP; rw [encE_eq]; rfl
theorem bxP (h : Hp) (p : Pt) : aBox h (.agg (encP p)) = some (.ptr h.length 0 0, h ++ [.live 6 [encP p]]) := by
  have := box_agg (h := h) (encP_leaf p)
  rw [encP_len] at this; exact this
theorem ldP_ex {h : Hp} {b : Nat} {p : Pt} (hb : h[b]? = some (.live 6 [encP p])) : aLoad Tryz.prog h 53 (.ptr b 0 1) = some (.agg (encE p.ex)) := by
  rw [load_rowA ag53 sz53 hb rfl (by rw [encP_len]; omega), encP_ex]
/-- a cross -/
structure Cr where
  name : ByteArray
  pm : SM
  pts : List Int
  xm : SM
  excl : List Is
def encC (c : Cr) : List AV := [.str c.name, .sl c.pm 1 (c.pts.map encI), .sl c.xm 1 (c.excl.map encL)]
theorem encC0 (c : Cr) : (encC c)[0]? = some (.str c.name) := rfl
theorem encC1 (c : Cr) : (encC c)[1]? = some (.sl c.pm 1 (c.pts.map encI)) := rfl
theorem encC2 (c : Cr) : (encC c)[2]? = some (.sl c.xm 1 (c.excl.map encL)) := rfl
theorem encC_len (c : Cr) : (encC c).length = 3 := rfl
theorem bxC (h : Hp) (c : Cr) : aBox h (.agg (encC c)) = some (.ptr h.length 0 0, h ++ [.live 3 [encC c]]) := rfl
/-- a model -/
structure Mo where
  pm : SM
  pts : List Pt
  cm : SM
  crs : List Cr
def encM (m : Mo) : List AV := [.sl m.pm 6 (m.pts.map encP), .sl m.cm 3 (m.crs.map encC)]
theorem encM0 (m : Mo) : (encM m)[0]? = some (.sl m.pm 6 (m.pts.map encP)) := rfl
theorem encM1 (m : Mo) : (encM m)[1]? = some (.sl m.cm 3 (m.crs.map encC)) := rfl
theorem encM_len (m : Mo) : (encM m).length = 2 := rfl
theorem bxM (h : Hp) (m : Mo) : aBox h (.agg (encM m)) = some (.ptr h.length 0 0, h ++ [.live 2 [encM m]]) := rfl
/-- does a name come twice? -/
def dupT : List ByteArray → List ByteArray → Bool
  | _, [] => false
  | seen, x :: xs => hasS seen x || dupT (seen ++ [x]) xs
def dupB (l : List ByteArray) : Bool := dupT [] l
theorem dupT_step (N : List ByteArray) (i : Nat) (hi : i < N.length) : dupT (N.take i) (N.drop i) = (hasS (N.take i) N[i] || dupT (N.take (i + 1)) (N.drop (i + 1))) := by
  rw [List.drop_eq_getElem_cons hi, List.take_succ_eq_append_getElem hi]; rfl
theorem getElem_some {α : Type} {l : List α} {i : Nat} {hi : i < l.length} {x : α} (h : l[i]? = some x) : l[i] = x := by
  rw [List.getElem?_eq_getElem hi] at h; exact Option.some.inj h

theorem nameFnB (G : Nat → AV) (x : Bin) (h : Hp) : PCall (En G) 154 [.agg (encB x)] h (.str x.name) := by
  refine ACalls.pure0 rfl ?_
  refine acalls_of (H := Hint.none) (enM G) Tryz.func154 rfl (by kernel_rfl) (by kernel_rfl) (Nat.le_of_ble_eq_true (by kernel_rfl)) ?_
  show awp _ _ _ _ _ (endQ _ [.tmp 2] _)
  simp -implicitDefEqProofs only [awp_seq, awp_reg, awp_ret, seqQ_n, end_r, WW_one, WW_nil, none_md, none_fz, frz_nil, ownOp, wc_app, wcont_s, upd_app, ev_tmp, ev_const, av_str, x_assign, x_box, x_load, x_fieldAddr, holdsO_some, holdsO_ofO, frameOf_zero, ↓reduceIte, Nat.reduceEqDiff, Nat.add_zero, Option.getD_some, Bool.not_false, enP, fa121_0, bxB, load_last ag9, encB0]
  exact ⟨trivial, _, rfl⟩
theorem repeatedB (G : Nat → AV) (xs : List Bin) (m : SM) (h : Hp) (hl : xs.length ≤ 1099511627776) :
    PCall (En G) 153 [.sl m 4 (xs.map encB), .fn (.func 154) [] []] h (.bool (dupB (xs.map (·.name)))) := by
  refine acalls_of (H := Hint.none) (enM G) Tryz.func153 rfl (by kernel_rfl) (by kernel_rfl) (Nat.le_of_ble_eq_true (by kernel_rfl)) ?_
  show awp _ _ _ _ _ (endQ _ [.tmp 4] _)
  simp -implicitDefEqProofs only [awp_seq, awp_block, awp_reg, seqQ_n, WW_one, WW_nil, none_md, none_fz, frz_nil, ownOp, wc_app, wcont_s, upd_app, ev_tmp, ev_const, av_int, av_bool, x_move, x_assign, x_len, holdsO_ofO, frameOf_zero, ↓reduceIte, Nat.reduceEqDiff, Option.getD_some, Bool.not_false, enP, ln54, List.length_map]
  generalize hN : xs.map (·.name) = N
  have hNl : N.length = xs.length := by rw [← hN]; simp
  have hNi : ∀ i (hi : i < xs.length), N[i]? = some xs[i].name := fun i hi => by rw [← hN, List.getElem?_map, List.getElem?_eq_getElem hi]; rfl
  refine awp_loop (fun n F H => ∃ i, n + i = xs.length ∧ F 0 = .sl m 4 (xs.map encB) ∧ F 1 = .fn (.func 154) [] [] ∧ F 8 = .int .i64 xs.length ∧ F 9 = .int .i64 (i : Nat) ∧ H = h ∧ dupB N = dupT (N.take i) (N.drop i)) xs.length ⟨0, by simp, by simp -implicitDefEqProofs only [upd_app, frameOf_zero, ↓reduceIte, Nat.reduceEqDiff], by simp -implicitDefEqProofs only [upd_app, frameOf_zero, frameOf_succ, ↓reduceIte, Nat.reduceEqDiff], by simp -implicitDefEqProofs only [upd_app, ↓reduceIte, Nat.reduceEqDiff], by simp -implicitDefEqProofs only [upd_app, ↓reduceIte]; rfl, rfl, rfl⟩ ?_
  rintro n F H ⟨i, hi, f0, f1, f8, f9, rfl, hd⟩
  simp -implicitDefEqProofs only [awp_seq, awp_reg, awp_cond, seqQ_n, WW_one, WW_nil, none_md, none_fz, frz_nil, ownOp, wc_app, wcont_s, upd_app, ev_tmp, x_bin, holdsO_ofO, bin_lss, ↓reduceIte, Option.getD_some, Bool.not_false, enP, f8, f9]
  refine cond_of (fun hc => ?_) (fun hc => ?_)
  · have hi' : i < xs.length := by simpa using hc
    have hdrop := dupT_step N i (by omega)
    rw [getElem_some (hNi i hi')] at hdrop
    simp -implicitDefEqProofs only [awp_seq, awp_block, awp_reg, awp_skip, seqQ_n, WW_one, WW_nil, none_md, none_fz, frz_nil, ownOp, wc_app, wcont_s, upd_app, ev_tmp, ev_const, av_int, x_move, x_assign, ↓reduceIte, Nat.reduceEqDiff, Option.getD_some, Bool.not_false, f9]
    refine awp_lp 2 (fun F' H' => F' 0 = .sl m 4 (xs.map encB) ∧ F' 1 = .fn (.func 154) [] [] ∧ F' 8 = .int .i64 xs.length ∧ F' 9 = .int .i64 (i : Nat) ∧ H' = H ∧ hasS (N.take i) xs[i].name = false) (fun F' H' => F' 4 = .bool (dupB N) ∧ H' = H) ?_ ?_ ?_
    · refine awp_loop (fun n F' H' => ∃ k, n + k = i ∧ F' 0 = .sl m 4 (xs.map encB) ∧ F' 1 = .fn (.func 154) [] [] ∧ F' 8 = .int .i64 xs.length ∧ F' 9 = .int .i64 (i : Nat) ∧ F' 5 = .int .i64 (i : Nat) ∧ F' 12 = .int .i64 (i : Nat) ∧ F' 13 = .int .i64 (k : Nat) ∧ H' = H ∧ hasS (N.take i) xs[i].name = hasS ((N.take i).drop k) xs[i].name) i ⟨0, by simp, by simp -implicitDefEqProofs only [upd_app, ↓reduceIte, Nat.reduceEqDiff, f0], by simp -implicitDefEqProofs only [upd_app, ↓reduceIte, Nat.reduceEqDiff, f1], by simp -implicitDefEqProofs only [upd_app, ↓reduceIte, Nat.reduceEqDiff, f8], by simp -implicitDefEqProofs only [upd_app, ↓reduceIte, Nat.reduceEqDiff, f9], by simp -implicitDefEqProofs only [upd_app, ↓reduceIte, Nat.reduceEqDiff], by simp -implicitDefEqProofs only [upd_app, ↓reduceIte, Nat.reduceEqDiff], by simp -implicitDefEqProofs only [upd_app, ↓reduceIte]; rfl, rfl, rfl⟩ ?_
      clear f0 f1 f8 f9
      rintro n' F H' ⟨k, hk, f0, f1, f8, f9, f5, f12, f13, rfl, hin⟩
      simp -implicitDefEqProofs only [awp_seq, awp_reg, awp_cond, seqQ_n, WW_one, WW_nil, none_md, none_fz, frz_nil, ownOp, wc_app, wcont_s, upd_app, ev_tmp, x_bin, holdsO_ofO, bin_lss, ↓reduceIte, Option.getD_some, Bool.not_false, enP, f12, f13]
      refine cond_of (fun hc => ?_) (fun hc => ?_)
      · have hk' : k < i := by simpa using hc
        have hk2 : k < xs.length := by omega
        have hs := any_step (fun u => xs[i].name.toList == u.toList) (N.take i) k (by rw [List.length_take]; omega)
        have hx : (N.take i)[k]'(by rw [List.length_take]; omega) = xs[k].name := by
          rw [List.getElem_take]; exact getElem_some (hNi k hk2)
        rw [hx] at hs
        simp -implicitDefEqProofs only [awp_seq, awp_block, awp_reg, awp_skip, seqQ_n, WW_one, WW_nil, none_md, none_fz, frz_nil, ownOp, wc_app, wcont_s, upd_app, ev_tmp, x_move, x_assign, ↓reduceIte, Nat.reduceEqDiff, Option.getD_some, Bool.not_false, f13]
        refine awp_draw (by kernel_rfl) ?_
        simp -implicitDefEqProofs only [YO_f, dc_app, dcont_s, DD_one, y_move, y_load, y_bin, y_indexAddr, Y1_call, callP_fn, none_md, upd_app, ev_tmp, x_load, x_bin, x_indexAddr, holdsO_ofO, List.map_cons, List.map_nil, List.append_nil, ↓reduceIte, Nat.reduceEqDiff, Nat.reduceAdd, Option.getD_some, enP, ix54, f0, f1, f5, ix_map hi', ix_map hk2, load_mapA ag121 sz121 encB_len hi', load_mapA ag121 sz121 encB_len hk2]
        refine ⟨_, nameFnB G xs[i] _, ?_⟩
        refine ⟨_, nameFnB G xs[k] _, ?_⟩
        try simp -implicitDefEqProofs only [dcont_s, DD_nil, awp_cond, seqQ_n, upd_app, ev_tmp, holdsO_ofO, bin_seql, ↓reduceIte]
        refine cond_of (fun hb => ?_) (fun hb => ?_)
        · simp -implicitDefEqProofs only [awp_seq, awp_reg, awp_ret, seqQ_n, seqQ_r, blk_r, lp_r, rnd_r, WW_one, WW_nil, none_md, none_fz, frz_nil, ownOp, wc_app, wcont_s, upd_app, ev_const, av_bool, x_assign, ↓reduceIte, Option.getD_some, Bool.not_false]
          refine ⟨?_, trivial⟩
          have : hasS (N.take i) xs[i].name = true := by
            rw [hin]; unfold hasS; rw [hs, hb]; rfl
          rw [hd, hdrop, this]; rfl
        · simp -implicitDefEqProofs only [awp_reg, awp_skip, seqQ_n, blk_n, rnd_n, WW_one, WW_nil, none_md, none_fz, frz_nil, ownOp, wc_app, wcont_s, upd_app, ev_tmp, ev_const, av_int, x_move, x_bin, holdsO_ofO, bin_add, ↓reduceIte, Nat.reduceEqDiff, Option.getD_some, Bool.not_false, enP, f13, wrap_succ (show k < 9223372036854775807 by omega)]
          refine ⟨n' - 1, by omega, k + 1, by omega, f0, f1, f8, f9, f5, f12, rfl, trivial, ?_⟩
          rw [hin]; unfold hasS; rw [hs, hb]; rfl
      · have hk' : ¬ k < i := by simpa using hc
        simp -implicitDefEqProofs only [awp_exit, seqQ_e, lp_e, rnd_e, upd_app, ↓reduceIte, Nat.reduceEqDiff]
        refine ⟨f0, f1, f8, f9, trivial, ?_⟩
        rw [hin, List.drop_eq_nil_of_le (by rw [List.length_take]; omega)]; rfl
    · rintro F' H' ⟨g0, g1, g8, g9, rfl, hn⟩
      simp -implicitDefEqProofs only [awp_reg, seqQ_n, blk_n, blk_e, rnd_n, WW_one, WW_nil, none_md, none_fz, frz_nil, ownOp, wc_app, wcont_s, upd_app, ev_tmp, ev_const, av_int, x_move, x_bin, holdsO_ofO, bin_add, ↓reduceIte, Nat.reduceEqDiff, Option.getD_some, Bool.not_false, enP, g9, wrap_succ (show i < 9223372036854775807 by omega)]
      refine ⟨n - 1, by omega, i + 1, by omega, g0, g1, g8, rfl, trivial, ?_⟩
      rw [hd, hdrop, hn]; rfl
    · rintro F' H' ⟨g4, rfl⟩
      simp -implicitDefEqProofs only [seqQ_r, blk_r, rnd_r, end_r, g4]
      exact ⟨trivial, trivial⟩
  · have hi' : ¬ i < xs.length := by simpa using hc
    simp -implicitDefEqProofs only [awp_seq, awp_reg, awp_ret, awp_exit, seqQ_n, seqQ_e, blk_e, rnd_e, end_r, WW_one, WW_nil, none_md, none_fz, frz_nil, ownOp, wc_app, wcont_s, upd_app, ev_const, av_bool, x_assign, ↓reduceIte, Option.getD_some, Bool.not_false]
    exact ⟨by rw [hd, List.drop_eq_nil_of_le (by omega)]; rfl, trivial⟩


theorem nameFnP (G : Nat → AV) (x : Pt) (h : Hp) : PCall (En G) 129 [.agg (encP x)] h (.str x.name) := by
  refine ACalls.pure0 rfl ?_
  refine acalls_of (H := Hint.none) (enM G) Tryz.func129 rfl (by kernel_rfl) (by kernel_rfl) (Nat.le_of_ble_eq_true (by kernel_rfl)) ?_
  show awp _ _ _ _ _ (endQ _ [.tmp 2] _)
  simp -implicitDefEqProofs only [awp_seq, awp_reg, awp_ret, seqQ_n, end_r, WW_one, WW_nil, none_md, none_fz, frz_nil, ownOp, wc_app, wcont_s, upd_app, ev_tmp, ev_const, av_str, x_assign, x_box, x_load, x_fieldAddr, holdsO_some, holdsO_ofO, frameOf_zero, ↓reduceIte, Nat.reduceEqDiff, Nat.add_zero, Option.getD_some, Bool.not_false, enP, fa56_0, bxP, load_last ag9, encP0]
  exact ⟨trivial, _, rfl⟩
theorem repeatedP (G : Nat → AV) (xs : List Pt) (m : SM) (h : Hp) (hl : xs.length ≤ 1099511627776) :
    PCall (En G) 128 [.sl m 6 (xs.map encP), .fn (.func 129) [] []] h (.bool (dupB (xs.map (·.name)))) := by
  refine acalls_of (H := Hint.none) (enM G) Tryz.func128 rfl (by kernel_rfl) (by kernel_rfl) (Nat.le_of_ble_eq_true (by kernel_rfl)) ?_
  show awp _ _ _ _ _ (endQ _ [.tmp 4] _)
  simp -implicitDefEqProofs only [awp_seq, awp_block, awp_reg, seqQ_n, WW_one, WW_nil, none_md, none_fz, frz_nil, ownOp, wc_app, wcont_s, upd_app, ev_tmp, ev_const, av_int, av_bool, x_move, x_assign, x_len, holdsO_ofO, frameOf_zero, ↓reduceIte, Nat.reduceEqDiff, Option.getD_some, Bool.not_false, enP, ln22, List.length_map]
  generalize hN : xs.map (·.name) = N
  have hNl : N.length = xs.length := by rw [← hN]; simp
  have hNi : ∀ i (hi : i < xs.length), N[i]? = some xs[i].name := fun i hi => by rw [← hN, List.getElem?_map, List.getElem?_eq_getElem hi]; rfl
  refine awp_loop (fun n F H => ∃ i, n + i = xs.length ∧ F 0 = .sl m 6 (xs.map encP) ∧ F 1 = .fn (.func 129) [] [] ∧ F 8 = .int .i64 xs.length ∧ F 9 = .int .i64 (i : Nat) ∧ H = h ∧ dupB N = dupT (N.take i) (N.drop i)) xs.length ⟨0, by simp, by simp -implicitDefEqProofs only [upd_app, frameOf_zero, ↓reduceIte, Nat.reduceEqDiff], by simp -implicitDefEqProofs only [upd_app, frameOf_zero, frameOf_succ, ↓reduceIte, Nat.reduceEqDiff], by simp -implicitDefEqProofs only [upd_app, ↓reduceIte, Nat.reduceEqDiff], by simp -implicitDefEqProofs only [upd_app, ↓reduceIte]; rfl, rfl, rfl⟩ ?_
  rintro n F H ⟨i, hi, f0, f1, f8, f9, rfl, hd⟩
  simp -implicitDefEqProofs only [awp_seq, awp_reg, awp_cond, seqQ_n, WW_one, WW_nil, none_md, none_fz, frz_nil, ownOp, wc_app, wcont_s, upd_app, ev_tmp, x_bin, holdsO_ofO, bin_lss, ↓reduceIte, Option.getD_some, Bool.not_false, enP, f8, f9]
  refine cond_of (fun hc => ?_) (fun hc => ?_)
  · have hi' : i < xs.length := by simpa using hc
    have hdrop := dupT_step N i (by omega)
    rw [getElem_some (hNi i hi')] at hdrop
    simp -implicitDefEqProofs only [awp_seq, awp_block, awp_reg, awp_skip, seqQ_n, WW_one, WW_nil, none_md, none_fz, frz_nil, ownOp, wc_app, wcont_s, upd_app, ev_tmp, ev_const, av_int, x_move, x_assign, ↓reduceIte, Nat.reduceEqDiff, Option.getD_some, Bool.not_false, f9]
    refine awp_lp 2 (fun F' H' => F' 0 = .sl m 6 (xs.map encP) ∧ F' 1 = .fn (.func 129) [] [] ∧ F' 8 = .int .i64 xs.length ∧ F' 9 = .int .i64 (i : Nat) ∧ H' = H ∧ hasS (N.take i) xs[i].name = false) (fun F' H' => F' 4 = .bool (dupB N) ∧ H' = H) ?_ ?_ ?_
    · refine awp_loop (fun n F' H' => ∃ k, n + k = i ∧ F' 0 = .sl m 6 (xs.map encP) ∧ F' 1 = .fn (.func 129) [] [] ∧ F' 8 = .int .i64 xs.length ∧ F' 9 = .int .i64 (i : Nat) ∧ F' 5 = .int .i64 (i : Nat) ∧ F' 12 = .int .i64 (i : Nat) ∧ F' 13 = .int .i64 (k : Nat) ∧ H' = H ∧ hasS (N.take i) xs[i].name = hasS ((N.take i).drop k) xs[i].name) i ⟨0, by simp, by simp -implicitDefEqProofs only [upd_app, ↓reduceIte, Nat.reduceEqDiff, f0], by simp -implicitDefEqProofs only [upd_app, ↓reduceIte, Nat.reduceEqDiff, f1], by simp -implicitDefEqProofs only [upd_app, ↓reduceIte, Nat.reduceEqDiff, f8], by simp -implicitDefEqProofs only [upd_app, ↓reduceIte, Nat.reduceEqDiff, f9], by simp -implicitDefEqProofs only [upd_app, ↓reduceIte, Nat.reduceEqDiff], by simp -implicitDefEqProofs only [upd_app, ↓reduceIte, Nat.reduceEqDiff], by simp -implicitDefEqProofs only [upd_app, ↓reduceIte]; rfl, rfl, rfl⟩ ?_
      clear f0 f1 f8 f9
      rintro n' F H' ⟨k, hk, f0, f1, f8, f9, f5, f12, f13, rfl, hin⟩
      simp -implicitDefEqProofs only [awp_seq, awp_reg, awp_cond, seqQ_n, WW_one, WW_nil, none_md, none_fz, frz_nil, ownOp, wc_app, wcont_s, upd_app, ev_tmp, x_bin, holdsO_ofO, bin_lss, ↓reduceIte, Option.getD_some, Bool.not_false, enP, f12, f13]
      refine cond_of (fun hc => ?_) (fun hc => ?_)
      · have hk' : k < i := by simpa using hc
        have hk2 : k < xs.length := by omega
        have hs := any_step (fun u => xs[i].name.toList == u.toList) (N.take i) k (by rw [List.length_take]; omega)
        have hx : (N.take i)[k]'(by rw [List.length_take]; omega) = xs[k].name := by
          rw [List.getElem_take]; exact getElem_some (hNi k hk2)
        rw [hx] at hs
        simp -implicitDefEqProofs only [awp_seq, awp_block, awp_reg, awp_skip, seqQ_n, WW_one, WW_nil, none_md, none_fz, frz_nil, ownOp, wc_app, wcont_s, upd_app, ev_tmp, x_move, x_assign, ↓reduceIte, Nat.reduceEqDiff, Option.getD_some, Bool.not_false, f13]
        refine awp_draw (by kernel_rfl) ?_
        simp -implicitDefEqProofs only [YO_f, dc_app, dcont_s, DD_one, y_move, y_load, y_bin, y_indexAddr, Y1_call, callP_fn, none_md, upd_app, ev_tmp, x_load, x_bin, x_indexAddr, holdsO_ofO, List.map_cons, List.map_nil, List.append_nil, ↓reduceIte, Nat.reduceEqDiff, Nat.reduceAdd, Option.getD_some, enP, ix22, f0, f1, f5, ix_map hi', ix_map hk2, load_mapA ag56 sz56 encP_len hi', load_mapA ag56 sz56 encP_len hk2]
        refine ⟨_, nameFnP G xs[i] _, ?_⟩
        refine ⟨_, nameFnP G xs[k] _, ?_⟩
        try simp -implicitDefEqProofs only [dcont_s, DD_nil, awp_cond, seqQ_n, upd_app, ev_tmp, holdsO_ofO, bin_seql, ↓reduceIte]
        refine cond_of (fun hb => ?_) (fun hb => ?_)
        · simp -implicitDefEqProofs only [awp_seq, awp_reg, awp_ret, seqQ_n, seqQ_r, blk_r, lp_r, rnd_r, WW_one, WW_nil, none_md, none_fz, frz_nil, ownOp, wc_app, wcont_s, upd_app, ev_const, av_bool, x_assign, ↓reduceIte, Option.getD_some, Bool.not_false]
          refine ⟨?_, trivial⟩
          have : hasS (N.take i) xs[i].name = true := by
            rw [hin]; unfold hasS; rw [hs, hb]; rfl
          rw [hd, hdrop, this]; rfl
        · simp -implicitDefEqProofs only [awp_reg, awp_skip, seqQ_n, blk_n, rnd_n, WW_one, WW_nil, none_md, none_fz, frz_nil, ownOp, wc_app, wcont_s, upd_app, ev_tmp, ev_const, av_int, x_move, x_bin, holdsO_ofO, bin_add, ↓reduceIte, Nat.reduceEqDiff, Option.getD_some, Bool.not_false, enP, f13, wrap_succ (show k < 9223372036854775807 by omega)]
          refine ⟨n' - 1, by omega, k + 1, by omega, f0, f1, f8, f9, f5, f12, rfl, trivial, ?_⟩
          rw [hin]; unfold hasS; rw [hs, hb]; rfl
      · have hk' : ¬ k < i := by simpa using hc
        simp -implicitDefEqProofs only [awp_exit, seqQ_e, lp_e, rnd_e, upd_app, ↓reduceIte, Nat.reduceEqDiff]
        refine ⟨f0, f1, f8, f9, trivial, ?_⟩
        rw [hin, List.drop_eq_nil_of_le (by rw [List.length_take]; omega)]; rfl
    · rintro F' H' ⟨g0, g1, g8, g9, rfl, hn⟩
      simp -implicitDefEqProofs only [awp_reg, seqQ_n, blk_n, blk_e, rnd_n, WW_one, WW_nil, none_md, none_fz, frz_nil, ownOp, wc_app, wcont_s, upd_app, ev_tmp, ev_const, av_int, x_move, x_bin, holdsO_ofO, bin_add, ↓reduceIte, Nat.reduceEqDiff, Option.getD_some, Bool.not_false, enP, g9, wrap_succ (show i < 9223372036854775807 by omega)]
      refine ⟨n - 1, by omega, i + 1, by omega, g0, g1, g8, rfl, trivial, ?_⟩
      rw [hd, hdrop, hn]; rfl
    · rintro F' H' ⟨g4, rfl⟩
      simp -implicitDefEqProofs only [seqQ_r, blk_r, rnd_r, end_r, g4]
      exact ⟨trivial, trivial⟩
  · have hi' : ¬ i < xs.length := by simpa using hc
    simp -implicitDefEqProofs only [awp_seq, awp_reg, awp_ret, awp_exit, seqQ_n, seqQ_e, blk_e, rnd_e, end_r, WW_one, WW_nil, none_md, none_fz, frz_nil, ownOp, wc_app, wcont_s, upd_app, ev_const, av_bool, x_assign, ↓reduceIte, Option.getD_some, Bool.not_false]
    exact ⟨by rw [hd, List.drop_eq_nil_of_le (by omega)]; rfl, trivial⟩


theorem nameFnC (G : Nat → AV) (x : Cr) (h : Hp) : PCall (En G) 132 [.agg (encC x)] h (.str x.name) := by
  refine ACalls.pure0 rfl ?_
  refine acalls_of (H := Hint.none) (enM G) Tryz.func132 rfl (by kernel_rfl) (by kernel_rfl) (Nat.le_of_ble_eq_true (by kernel_rfl)) ?_
  show awp _ _ _ _ _ (endQ _ [.tmp 2] _)
  simp -implicitDefEqProofs only [awp_seq, awp_reg, awp_ret, seqQ_n, end_r, WW_one, WW_nil, none_md, none_fz, frz_nil, ownOp, wc_app, wcont_s, upd_app, ev_tmp, ev_const, av_str, x_assign, x_box, x_load, x_fieldAddr, holdsO_some, holdsO_ofO, frameOf_zero, ↓reduceIte, Nat.reduceEqDiff, Nat.add_zero, Option.getD_some, Bool.not_false, enP, fa71_0, bxC, load_last ag9, encC0]
  exact ⟨trivial, _, rfl⟩
theorem repeatedC (G : Nat → AV) (xs : List Cr) (m : SM) (h : Hp) (hl : xs.length ≤ 1099511627776) :
    PCall (En G) 131 [.sl m 3 (xs.map encC), .fn (.func 132) [] []] h (.bool (dupB (xs.map (·.name)))) := by
  refine acalls_of (H := Hint.none) (enM G) Tryz.func131 rfl (by kernel_rfl) (by kernel_rfl) (Nat.le_of_ble_eq_true (by kernel_rfl)) ?_
  show awp _ _ _ _ _ (endQ _ [.tmp 4] _)
  simp -implicitDefEqProofs only [awp_seq, awp_block, awp_reg, seqQ_n, WW_one, WW_nil, none_md, none_fz, frz_nil, ownOp, wc_app, wcont_s, upd_app, ev_tmp, ev_const, av_int, av_bool, x_move, x_assign, x_len, holdsO_ofO, frameOf_zero, ↓reduceIte, Nat.reduceEqDiff, Option.getD_some, Bool.not_false, enP, ln23, List.length_map]
  generalize hN : xs.map (·.name) = N
  have hNl : N.length = xs.length := by rw [← hN]; simp
  have hNi : ∀ i (hi : i < xs.length), N[i]? = some xs[i].name := fun i hi => by rw [← hN, List.getElem?_map, List.getElem?_eq_getElem hi]; rfl
  refine awp_loop (fun n F H => ∃ i, n + i = xs.length ∧ F 0 = .sl m 3 (xs.map encC) ∧ F 1 = .fn (.func 132) [] [] ∧ F 8 = .int .i64 xs.length ∧ F 9 = .int .i64 (i : Nat) ∧ H = h ∧ dupB N = dupT (N.take i) (N.drop i)) xs.length ⟨0, by simp, by simp -implicitDefEqProofs only [upd_app, frameOf_zero, ↓reduceIte, Nat.reduceEqDiff], by simp -implicitDefEqProofs only [upd_app, frameOf_zero, frameOf_succ, ↓reduceIte, Nat.reduceEqDiff], by simp -implicitDefEqProofs only [upd_app, ↓reduceIte, Nat.reduceEqDiff], by simp -implicitDefEqProofs only [upd_app, ↓reduceIte]; rfl, rfl, rfl⟩ ?_
  rintro n F H ⟨i, hi, f0, f1, f8, f9, rfl, hd⟩
  simp -implicitDefEqProofs only [awp_seq, awp_reg, awp_cond, seqQ_n, WW_one, WW_nil, none_md, none_fz, frz_nil, ownOp, wc_app, wcont_s, upd_app, ev_tmp, x_bin, holdsO_ofO, bin_lss, ↓reduceIte, Option.getD_some, Bool.not_false, enP, f8, f9]
  refine cond_of (fun hc => ?_) (fun hc => ?_)
  · have hi' : i < xs.length := by simpa using hc
    have hdrop := dupT_step N i (by omega)
    rw [getElem_some (hNi i hi')] at hdrop
    simp -implicitDefEqProofs only [awp_seq, awp_block, awp_reg, awp_skip, seqQ_n, WW_one, WW_nil, none_md, none_fz, frz_nil, ownOp, wc_app, wcont_s, upd_app, ev_tmp, ev_const, av_int, x_move, x_assign, ↓reduceIte, Nat.reduceEqDiff, Option.getD_some, Bool.not_false, f9]
    refine awp_lp 2 (fun F' H' => F' 0 = .sl m 3 (xs.map encC) ∧ F' 1 = .fn (.func 132) [] [] ∧ F' 8 = .int .i64 xs.length ∧ F' 9 = .int .i64 (i : Nat) ∧ H' = H ∧ hasS (N.take i) xs[i].name = false) (fun F' H' => F' 4 = .bool (dupB N) ∧ H' = H) ?_ ?_ ?_
    · refine awp_loop (fun n F' H' => ∃ k, n + k = i ∧ F' 0 = .sl m 3 (xs.map encC) ∧ F' 1 = .fn (.func 132) [] [] ∧ F' 8 = .int .i64 xs.length ∧ F' 9 = .int .i64 (i : Nat) ∧ F' 5 = .int .i64 (i : Nat) ∧ F' 12 = .int .i64 (i : Nat) ∧ F' 13 = .int .i64 (k : Nat) ∧ H' = H ∧ hasS (N.take i) xs[i].name = hasS ((N.take i).drop k) xs[i].name) i ⟨0, by simp, by simp -implicitDefEqProofs only [upd_app, ↓reduceIte, Nat.reduceEqDiff, f0], by simp -implicitDefEqProofs only [upd_app, ↓reduceIte, Nat.reduceEqDiff, f1], by simp -implicitDefEqProofs only [upd_app, ↓reduceIte, Nat.reduceEqDiff, f8], by simp -implicitDefEqProofs only [upd_app, ↓reduceIte, Nat.reduceEqDiff, f9], by simp -implicitDefEqProofs only [upd_app, ↓reduceIte, Nat.reduceEqDiff], by simp -implicitDefEqProofs only [upd_app, ↓reduceIte, Nat.reduceEqDiff], by simp -implicitDefEqProofs only [upd_app, ↓reduceIte]; rfl, rfl, rfl⟩ ?_
      clear f0 f1 f8 f9
      rintro n' F H' ⟨k, hk, f0, f1, f8, f9, f5, f12, f13, rfl, hin⟩
      simp -implicitDefEqProofs only [awp_seq, awp_reg, awp_cond, seqQ_n, WW_one, WW_nil, none_md, none_fz, frz_nil, ownOp, wc_app, wcont_s, upd_app, ev_tmp, x_bin, holdsO_ofO, bin_lss, ↓reduceIte, Option.getD_some, Bool.not_false, enP, f12, f13]
      refine cond_of (fun hc => ?_) (fun hc => ?_)
      · have hk' : k < i := by simpa using hc
        have hk2 : k < xs.length := by omega
        have hs := any_step (fun u => xs[i].name.toList == u.toList) (N.take i) k (by rw [List.length_take]; omega)
        have hx : (N.take i)[k]'(by rw [List.length_take]; omega) = xs[k].name := by
          rw [List.getElem_take]; exact getElem_some (hNi k hk2)
        rw [hx] at hs
        simp -implicitDefEqProofs only [awp_seq, awp_block, awp_reg, awp_skip, seqQ_n, WW_one, WW_nil, none_md, none_fz, frz_nil, ownOp, wc_app, wcont_s, upd_app, ev_tmp, x_move, x_assign, ↓reduceIte, Nat.reduceEqDiff, Option.getD_some, Bool.not_false, f13]
        refine awp_draw (by kernel_rfl) ?_
        simp -implicitDefEqProofs only [YO_f, dc_app, dcont_s, DD_one, y_move, y_load, y_bin, y_indexAddr, Y1_call, callP_fn, none_md, upd_app, ev_tmp, x_load, x_bin, x_indexAddr, holdsO_ofO, List.map_cons, List.map_nil, List.append_nil, ↓reduceIte, Nat.reduceEqDiff, Nat.reduceAdd, Option.getD_some, enP, ix23, f0, f1, f5, ix_map hi', ix_map hk2, load_mapA ag71 sz71 encC_len hi', load_mapA ag71 sz71 encC_len hk2]
        refine ⟨_, nameFnC G xs[i] _, ?_⟩
        refine ⟨_, nameFnC G xs[k] _, ?_⟩
        try simp -implicitDefEqProofs only [dcont_s, DD_nil, awp_cond, seqQ_n, upd_app, ev_tmp, holdsO_ofO, bin_seql, ↓reduceIte]
        refine cond_of (fun hb => ?_) (fun hb => ?_)
        · simp -implicitDefEqProofs only [awp_seq, awp_reg, awp_ret, seqQ_n, seqQ_r, blk_r, lp_r, rnd_r, WW_one, WW_nil, none_md, none_fz, frz_nil, ownOp, wc_app, wcont_s, upd_app, ev_const, av_bool, x_assign, ↓reduceIte, Option.getD_some, Bool.not_false]
          refine ⟨?_, trivial⟩
          have : hasS (N.take i) xs[i].name = true := by
            rw [hin]; unfold hasS; rw [hs, hb]; rfl
          rw [hd, hdrop, this]; rfl
        · simp -implicitDefEqProofs only [awp_reg, awp_skip, seqQ_n, blk_n, rnd_n, WW_one, WW_nil, none_md, none_fz, frz_nil, ownOp, wc_app, wcont_s, upd_app, ev_tmp, ev_const, av_int, x_move, x_bin, holdsO_ofO, bin_add, ↓reduceIte, Nat.reduceEqDiff, Option.getD_some, Bool.not_false, enP, f13, wrap_succ (show k < 9223372036854775807 by omega)]
          refine ⟨n' - 1, by omega, k + 1, by omega, f0, f1, f8, f9, f5, f12, rfl, trivial, ?_⟩
          rw [hin]; unfold hasS; rw [hs, hb]; rfl
      · have hk' : ¬ k < i := by simpa using hc
        simp -implicitDefEqProofs only [awp_exit, seqQ_e, lp_e, rnd_e, upd_app, ↓reduceIte, Nat.reduceEqDiff]
        refine ⟨f0, f1, f8, f9, trivial, ?_⟩
        rw [hin, List.drop_eq_nil_of_le (by rw [List.length_take]; omega)]; rfl
    · rintro F' H' ⟨g0, g1, g8, g9, rfl, hn⟩
      simp -implicitDefEqProofs only [awp_reg, seqQ_n, blk_n, blk_e, rnd_n, WW_one, WW_nil, none_md, none_fz, frz_nil, ownOp, wc_app, wcont_s, upd_app, ev_tmp, ev_const, av_int, x_move, x_bin, holdsO_ofO, bin_add, ↓reduceIte, Nat.reduceEqDiff, Option.getD_some, Bool.not_false, enP, g9, wrap_succ (show i < 9223372036854775807 by omega)]
      refine ⟨n - 1, by omega, i + 1, by omega, g0, g1, g8, rfl, trivial, ?_⟩
      rw [hd, hdrop, hn]; rfl
    · rintro F' H' ⟨g4, rfl⟩
      simp -implicitDefEqProofs only [seqQ_r, blk_r, rnd_r, end_r, g4]
      exact ⟨trivial, trivial⟩
  · have hi' : ¬ i < xs.length := by simpa using hc
    simp -implicitDefEqProofs only [awp_seq, awp_reg, awp_ret, awp_exit, seqQ_n, seqQ_e, blk_e, rnd_e, end_r, WW_one, WW_nil, none_md, none_fz, frz_nil, ownOp, wc_app, wcont_s, upd_app, ev_const, av_bool, x_assign, ↓reduceIte, Option.getD_some, Bool.not_false]
    exact ⟨by rw [hd, List.drop_eq_nil_of_le (by omega)]; rfl, trivial⟩

end Go.Proofs.YtocilianjfhifaaGreatDoor.Cov
/- The error of a point, on both sides; no condition but the variables that are laid and the bounds on lengths. -/
set_option linter.unusedSimpArgs false
set_option maxRecDepth 8000
namespace Go.Proofs.YtocilianjfhifaaGreatDoor.Cov
open Go Go.Proofs Go.Proofs.YtocilianjfhifaaGreatDoor.Sm Go.Proofs.YtocilianjfhifaaGreatDoor.Bins Go.RowKit

/-- the first error of a list -/
def fstE {α : Type} (f : α → Int) : List α → Int
  | [] => 0
  | x :: xs => if f x = 0 then fstE f xs else f x
theorem fstE_step {α : Type} (f : α → Int) (xs : List α) (k : Nat) (hk : k < xs.length) : fstE f (xs.drop k) = if f xs[k] = 0 then fstE f (xs.drop (k + 1)) else f xs[k] := by
  rw [List.drop_eq_getElem_cons hk]; rfl
def pointE (p : Pt) : Int :=
  if isName p.name = false then 7 else if exE p.ex ≠ 0 then exE p.ex else if p.bins.length = 0 then 1 else if 64 < p.bins.length then 2 else
    if fstE validE p.bins ≠ 0 then fstE validE p.bins else if dupB (p.bins.map (·.name)) then 8 else 0
structure PtOk (p : Pt) : Prop where
  ex : wt p.ex ≤ 1048576
  name : p.name.size ≤ 1048576
  num : p.bins.length ≤ 1048576
  bins : ∀ b ∈ p.bins, BinOk b
theorem al79 (h : Hp) : aAlloc Tryz.prog h 121 = some (.ptr h.length 0 0, h ++ [.live 4 [[.str ⟨#[]⟩, .int .i64 0, .sl .nil 0 [], .sl .nil 0 []]]]) := alloc_of (row := [.str ⟨#[]⟩, .int .i64 0, .sl .nil 0 [], .sl .nil 0 []]) (by kernel_rfl)
theorem st79 (h : Hp) (b : Bin) (row : List AV) (hr : row.length = 4) : aStore Tryz.prog (h ++ [.live 4 [row]]) 121 (.ptr h.length 0 0) (.agg (encB b)) = some (h ++ [.live 4 [encB b]]) := by
  rw [store_top (ac_agg rfl) (by rw [encB_len]; exact sz121) (by rw [encB_len, hr]; exact Nat.le_refl _)]
  have : splice row 0 (encB b) = encB b := by unfold splice; simp [encB_len, hr]
  rw [this]
theorem point_prog (G : Nat → AV) (hG : GOk G) (p : Pt) (hp : PtOk p) (h : Hp) : PCall (En G) 97 [.agg (encP p)] h (.int .i64 (pointE p)) := by
  refine ACalls.pure0 rfl ?_
  have hp1 := hp.ex
  have hp2 := hp.name
  have hp3 := hp.num
  refine acalls_of (H := Hint.none) (enM G) Tryz.func97 rfl (by kernel_rfl) (by kernel_rfl) (Nat.le_of_ble_eq_true (by kernel_rfl)) ?_
  show awp _ _ _ _ _ (endQ _ [.tmp 2] _)
  simp -implicitDefEqProofs only [awp_seq, awp_reg, seqQ_n, WW_one, WW_nil, none_md, none_fz, frz_nil, ownOp, wc_app, wcont_s, upd_app, ev_tmp, ev_const, ev_func, av_int, x_assign, x_box, x_load, x_fieldAddr, X1_call, callA_fn, holdsO_some, holdsO_ofO, frameOf_zero, List.map_cons, List.map_nil, List.append_nil, ↓reduceIte, Nat.reduceEqDiff, Nat.add_zero, Option.getD_some, Bool.not_false, enP, fa56_0, bxP, load_last ag9, encP0]
  refine (isName_prog G hG.kw p.name _ (by omega)).use ?_
  simp -implicitDefEqProofs only [awp_cond, seqQ_n, WW_one, WW_nil, none_md, none_fz, frz_nil, ownOp, wc_app, wcont_s, upd_app, ev_tmp, x_un, holdsO_ofO, un_not, ↓reduceIte, Option.getD_some, Bool.not_false]
  cases h1 : isName p.name
  · simp -implicitDefEqProofs only [awp_seq, awp_reg, awp_ret, seqQ_n, seqQ_r, end_r, cond_t, WW_one, WW_nil, none_md, none_fz, frz_nil, ownOp, wc_app, wcont_s, upd_app, ev_const, av_int, x_assign, ↓reduceIte, Option.getD_some, Bool.not_false]
    exact ⟨by unfold pointE; rw [if_pos h1], _, rfl⟩
  have h1' : ¬ isName p.name = false := by rw [h1]; decide
  simp -implicitDefEqProofs only [awp_seq, awp_reg, awp_skip, seqQ_n, cond_f, WW_one, none_md, none_fz, frz_nil, ownOp, wc_app, wcont_s, upd_app, ev_tmp, ev_func, x_load, x_fieldAddr, X1_call, callA_fn, holdsO_ofO, List.map_cons, List.map_nil, List.append_nil, ↓reduceIte, Nat.reduceEqDiff, Nat.zero_add, Option.getD_some, Bool.not_true, Bool.not_false, enP, fa56_1, ldP_ex (top_get h _)]
  refine (exvalid_prog G hG p.ex _ hp1).use ?_
  simp -implicitDefEqProofs only [awp_seq, awp_reg, awp_cond, seqQ_n, WW_one, WW_nil, none_md, none_fz, frz_nil, ownOp, wc_app, wcont_s, upd_app, ev_tmp, ev_const, av_int, x_move, x_assign, x_bin, holdsO_ofO, bin_neq, ↓reduceIte, Option.getD_some, Bool.not_false, enP]
  refine cond_of (fun h2 => ?_) (fun h2 => ?_)
  · simp -implicitDefEqProofs only [awp_seq, awp_reg, awp_ret, seqQ_n, seqQ_r, end_r, WW_one, WW_nil, none_md, none_fz, frz_nil, ownOp, wc_app, wcont_s, upd_app, ev_tmp, x_move, x_assign, ↓reduceIte, Nat.reduceEqDiff, Option.getD_some, Bool.not_false]
    exact ⟨by unfold pointE; rw [if_neg h1', if_pos (by simpa using h2)], _, rfl⟩
  have h2' : ¬ exE p.ex ≠ 0 := by simpa using h2
  simp -implicitDefEqProofs only [awp_seq, awp_block, awp_reg, awp_skip, awp_cond, seqQ_n, WW_one, WW_nil, none_md, none_fz, frz_nil, ownOp, wc_app, wcont_s, upd_app, ev_tmp, ev_const, av_int, x_assign, x_load, x_bin, x_fieldAddr, x_len, holdsO_ofO, bin_eql, ↓reduceIte, Nat.reduceEqDiff, Nat.zero_add, Option.getD_some, Bool.not_false, enP, ln54, fa56_2, load_last ag54, encP5, List.length_map]
  refine cond_of (fun h3 => ?_) (fun h3 => ?_)
  · simp -implicitDefEqProofs only [awp_seq, awp_reg, awp_ret, seqQ_n, seqQ_r, blk_r, end_r, WW_one, WW_nil, none_md, none_fz, frz_nil, ownOp, wc_app, wcont_s, upd_app, ev_const, av_int, x_assign, ↓reduceIte, Option.getD_some, Bool.not_false]
    exact ⟨by unfold pointE; rw [if_neg h1', if_neg h2', if_pos (by simp at h3; simpa using h3)], _, rfl⟩
  have h3' : ¬ p.bins.length = 0 := by simp at h3; simpa using h3
  simp -implicitDefEqProofs only [awp_seq, awp_reg, awp_cond, seqQ_n, WW_one, WW_nil, none_md, none_fz, frz_nil, ownOp, wc_app, wcont_s, upd_app, ev_tmp, ev_const, av_int, x_assign, x_load, x_bin, x_fieldAddr, x_len, holdsO_ofO, bin_gtr, ↓reduceIte, Nat.reduceEqDiff, Nat.zero_add, Option.getD_some, Bool.not_false, enP, ln54, fa56_2, load_last ag54, encP5, List.length_map]
  refine cond_of (fun h4 => ?_) (fun h4 => ?_)
  · simp -implicitDefEqProofs only [awp_seq, awp_reg, awp_ret, seqQ_n, seqQ_r, blk_r, end_r, WW_one, WW_nil, none_md, none_fz, frz_nil, ownOp, wc_app, wcont_s, upd_app, ev_const, av_int, x_assign, ↓reduceIte, Option.getD_some, Bool.not_false]
    exact ⟨by unfold pointE; rw [if_neg h1', if_neg h2', if_neg h3', if_pos (by simp at h4; omega)], _, rfl⟩
  have h4' : ¬ 64 < p.bins.length := by simp at h4; omega
  have hpt : pointE p = if fstE validE p.bins ≠ 0 then fstE validE p.bins else if dupB (p.bins.map (·.name)) then 8 else 0 := by
    unfold pointE; rw [if_neg h1', if_neg h2', if_neg h3', if_neg h4']
  simp -implicitDefEqProofs only [awp_seq, awp_block, awp_reg, awp_skip, seqQ_n, blk_n, WW_one, WW_nil, none_md, none_fz, frz_nil, ownOp, wc_app, wcont_s, upd_app, ev_tmp, ev_const, av_int, x_move, x_load, x_fieldAddr, x_len, holdsO_ofO, ↓reduceIte, Nat.reduceEqDiff, Nat.zero_add, Option.getD_some, Bool.not_false, enP, ln54, fa56_2, load_last ag54, encP5, List.length_map]
  refine awp_lp 1 (fun F H => F 1 = .ptr h.length 0 0 ∧ H[h.length]? = some (.live 6 [encP p]) ∧ (∃ x, H = h ++ x) ∧ fstE validE p.bins = 0) (fun F H => F 2 = .int .i64 (pointE p) ∧ ∃ x, H = h ++ x) ?_ ?_ ?_
  · refine awp_loop (fun n F H => ∃ k, n + k = p.bins.length ∧ F 1 = .ptr h.length 0 0 ∧ F 28 = .sl p.bm 4 (p.bins.map encB) ∧ F 29 = .int .i64 p.bins.length ∧ F 30 = .int .i64 (k : Nat) ∧ H[h.length]? = some (.live 6 [encP p]) ∧ (∃ x, H = h ++ x) ∧ fstE validE p.bins = fstE validE (p.bins.drop k)) p.bins.length ⟨0, by simp, by simp -implicitDefEqProofs only [upd_app, ↓reduceIte, Nat.reduceEqDiff], by simp -implicitDefEqProofs only [upd_app, ↓reduceIte, Nat.reduceEqDiff], by simp -implicitDefEqProofs only [upd_app, ↓reduceIte, Nat.reduceEqDiff], by simp -implicitDefEqProofs only [upd_app, ↓reduceIte]; rfl, top_get _ _, ⟨_, rfl⟩, rfl⟩ ?_
    rintro n F H ⟨k, hk, f1, f28, f29, f30, hb, ⟨x, hx⟩, hf⟩
    simp -implicitDefEqProofs only [awp_seq, awp_reg, awp_cond, seqQ_n, WW_one, WW_nil, none_md, none_fz, frz_nil, ownOp, wc_app, wcont_s, upd_app, ev_tmp, x_bin, holdsO_ofO, bin_lss, ↓reduceIte, Option.getD_some, Bool.not_false, enP, f29, f30]
    refine cond_of (fun hc => ?_) (fun hc => ?_)
    · have hk' : k < p.bins.length := by simpa using hc
      have hs := fstE_step validE p.bins k hk'
      simp -implicitDefEqProofs only [awp_seq, awp_block, awp_reg, awp_skip, seqQ_n, WW_one, WW_nil, none_md, none_fz, frz_nil, ownOp, wc_app, wcont_s, wcont_n, upd_app, ev_tmp, ev_func, x_alloc, x_load, x_store, x_indexAddr, X1_call, callA_fn, holdsO_some, holdsO_ofO, holdsO_ofS, List.map_cons, List.map_nil, List.append_nil, ↓reduceIte, Nat.reduceEqDiff, Option.getD_some, Bool.not_false, enP, ix54, Option.getD_none, f28, f30, ix_map hk', load_mapA ag121 sz121 encB_len hk', al79, st79 _ _ [.str ⟨#[]⟩, .int .i64 0, .sl .nil 0 [], .sl .nil 0 []] rfl, ldB]
      refine (valid_prog G hG.kw p.bins[k] (hp.bins _ (List.getElem_mem hk')) _).use ?_
      simp -implicitDefEqProofs only [awp_seq, awp_reg, awp_cond, seqQ_n, WW_one, WW_nil, none_md, none_fz, frz_nil, ownOp, wc_app, wcont_s, upd_app, ev_tmp, ev_const, av_int, x_move, x_assign, x_bin, holdsO_ofO, bin_neq, ↓reduceIte, Option.getD_some, Bool.not_false, enP]
      refine cond_of (fun hv => ?_) (fun hv => ?_)
      · simp -implicitDefEqProofs only [awp_seq, awp_reg, awp_ret, seqQ_n, seqQ_r, blk_r, lp_r, rnd_r, WW_one, WW_nil, none_md, none_fz, frz_nil, ownOp, wc_app, wcont_s, upd_app, ev_tmp, x_move, x_assign, ↓reduceIte, Nat.reduceEqDiff, Option.getD_some, Bool.not_false]
        have hv' : validE p.bins[k] ≠ 0 := by simpa using hv
        have : fstE validE p.bins = validE p.bins[k] := by rw [hf, hs, if_neg hv']
        exact ⟨by rw [hpt, this, if_pos hv'], x ++ _, by rw [hx, List.append_assoc]⟩
      · have hv' : validE p.bins[k] = 0 := by simpa using hv
        simp -implicitDefEqProofs only [awp_reg, awp_skip, seqQ_n, blk_n, rnd_n, WW_one, WW_nil, none_md, none_fz, frz_nil, ownOp, wc_app, wcont_s, upd_app, ev_tmp, ev_const, av_int, x_move, x_bin, holdsO_ofO, bin_add, ↓reduceIte, Nat.reduceEqDiff, Option.getD_some, Bool.not_false, enP, f30, wrap_succ (show k < 9223372036854775807 by omega)]
        exact ⟨n - 1, by omega, k + 1, by omega, f1, f28, f29, rfl, below_get hb, ⟨x ++ _, by rw [hx, List.append_assoc]⟩, by rw [hf, hs, if_pos hv']⟩
    · have hk' : ¬ k < p.bins.length := by simpa using hc
      simp -implicitDefEqProofs only [awp_exit, seqQ_e, lp_e, rnd_e, upd_app, ↓reduceIte, Nat.reduceEqDiff]
      exact ⟨f1, hb, ⟨x, hx⟩, by rw [hf, List.drop_eq_nil_of_le (by omega)]; rfl⟩
  · rintro F H ⟨f1, hb, ⟨x, hx⟩, hf⟩
    have l5 : aLoad Tryz.prog H 54 (.ptr h.length 0 5) = some (.sl p.bm 4 (p.bins.map encB)) := by rw [load_row ag54 hb (row := encP p) rfl, encP5]
    simp -implicitDefEqProofs only [awp_seq, awp_reg, seqQ_n, blk_e, WW_one, none_md, none_fz, frz_nil, ownOp, wc_app, wcont_s, upd_app, ev_tmp, ev_func, x_load, x_fieldAddr, X1_call, callA_fn, holdsO_ofO, List.map_cons, List.map_nil, List.append_nil, ↓reduceIte, Nat.zero_add, Option.getD_some, Bool.not_false, enP, fa56_2, f1, l5]
    refine (repeatedB G p.bins p.bm H (by omega)).use ?_
    simp -implicitDefEqProofs only [awp_cond, seqQ_n, WW_nil, wcont_s, upd_app, ev_tmp, ↓reduceIte]
    cases hd : dupB (p.bins.map (·.name))
    · simp -implicitDefEqProofs only [awp_seq, awp_reg, awp_skip, awp_ret, seqQ_n, end_r, cond_f, WW_one, WW_nil, none_md, none_fz, frz_nil, ownOp, wc_app, wcont_s, upd_app, ev_const, av_int, x_assign, ↓reduceIte, Option.getD_some, Bool.not_false]
      exact ⟨by rw [hpt, hf, hd]; rfl, x, hx⟩
    · simp -implicitDefEqProofs only [awp_seq, awp_reg, awp_ret, seqQ_n, seqQ_r, end_r, cond_t, WW_one, WW_nil, none_md, none_fz, frz_nil, ownOp, wc_app, wcont_s, upd_app, ev_const, av_int, x_assign, ↓reduceIte, Option.getD_some, Bool.not_false]
      exact ⟨by rw [hpt, hf, hd]; rfl, x, hx⟩
  · rintro F H ⟨f2, hx⟩
    simp -implicitDefEqProofs only [seqQ_r, blk_r, end_r, f2]
    exact ⟨trivial, hx⟩
end Go.Proofs.YtocilianjfhifaaGreatDoor.Cov
/- The error of a point: the reference; no condition but the bounds on lengths. -/
set_option linter.unusedSimpArgs false
set_option maxRecDepth 8000
namespace Go.Proofs.YtocilianjfhifaaGreatDoor.Cov
open Go Go.Proofs Go.Proofs.YtocilianjfhifaaGreatDoor.Sm Go.Proofs.YtocilianjfhifaaGreatDoor.Bins Go.RowKit

theorem point_ref (G : Nat → AV) (p : Pt) (hp : PtOk p) (h : Hp) : PCall (En G) 102 [.agg (encP p)] h (.int .i64 (pointE p)) := by
  refine ACalls.pure0 rfl ?_
  have hp1 := hp.ex
  have hp2 := hp.name
  have hp3 := hp.num
  refine acalls_of (H := Hint.none) (enM G) Tryz.func102 rfl (by kernel_rfl) (by kernel_rfl) (Nat.le_of_ble_eq_true (by kernel_rfl)) ?_
  show awp _ _ _ _ _ (endQ _ [.tmp 2] _)
  simp -implicitDefEqProofs only [awp_seq, awp_reg, seqQ_n, WW_one, WW_nil, none_md, none_fz, frz_nil, ownOp, wc_app, wcont_s, upd_app, ev_tmp, ev_const, ev_func, av_int, x_assign, x_box, x_load, x_fieldAddr, X1_call, callA_fn, holdsO_some, holdsO_ofO, frameOf_zero, List.map_cons, List.map_nil, List.append_nil, ↓reduceIte, Nat.reduceEqDiff, Nat.add_zero, Option.getD_some, Bool.not_false, enP, fa56_0, bxP, load_last ag9, encP0]
  refine (isName_ref G p.name _).use ?_
  simp -implicitDefEqProofs only [awp_cond, seqQ_n, WW_one, WW_nil, none_md, none_fz, frz_nil, ownOp, wc_app, wcont_s, upd_app, ev_tmp, x_un, holdsO_ofO, un_not, ↓reduceIte, Option.getD_some, Bool.not_false]
  cases h1 : isName p.name
  · simp -implicitDefEqProofs only [awp_seq, awp_reg, awp_ret, seqQ_n, seqQ_r, end_r, cond_t, WW_one, WW_nil, none_md, none_fz, frz_nil, ownOp, wc_app, wcont_s, upd_app, ev_const, av_int, x_assign, ↓reduceIte, Option.getD_some, Bool.not_false]
    exact ⟨by unfold pointE; rw [if_pos h1], _, rfl⟩
  have h1' : ¬ isName p.name = false := by rw [h1]; decide
  simp -implicitDefEqProofs only [awp_seq, awp_reg, awp_skip, seqQ_n, cond_f, WW_one, none_md, none_fz, frz_nil, ownOp, wc_app, wcont_s, upd_app, ev_tmp, ev_func, x_load, x_fieldAddr, X1_call, callA_fn, holdsO_ofO, List.map_cons, List.map_nil, List.append_nil, ↓reduceIte, Nat.reduceEqDiff, Nat.zero_add, Option.getD_some, Bool.not_true, Bool.not_false, enP, fa56_1, ldP_ex (top_get h _)]
  refine (exvalid_ref G p.ex _ hp1).use ?_
  simp -implicitDefEqProofs only [awp_seq, awp_reg, awp_cond, seqQ_n, WW_one, WW_nil, none_md, none_fz, frz_nil, ownOp, wc_app, wcont_s, upd_app, ev_tmp, ev_const, av_int, x_move, x_assign, x_bin, holdsO_ofO, bin_neq, ↓reduceIte, Option.getD_some, Bool.not_false, enP]
  refine cond_of (fun h2 => ?_) (fun h2 => ?_)
  · simp -implicitDefEqProofs only [awp_seq, awp_reg, awp_ret, seqQ_n, seqQ_r, end_r, WW_one, WW_nil, none_md, none_fz, frz_nil, ownOp, wc_app, wcont_s, upd_app, ev_tmp, x_move, x_assign, ↓reduceIte, Nat.reduceEqDiff, Option.getD_some, Bool.not_false]
    exact ⟨by unfold pointE; rw [if_neg h1', if_pos (by simpa using h2)], _, rfl⟩
  have h2' : ¬ exE p.ex ≠ 0 := by simpa using h2
  simp -implicitDefEqProofs only [awp_seq, awp_reg, awp_skip, awp_cond, seqQ_n, WW_one, WW_nil, none_md, none_fz, frz_nil, ownOp, wc_app, wcont_s, upd_app, ev_tmp, ev_const, av_int, x_load, x_bin, x_fieldAddr, x_len, holdsO_ofO, bin_eql, ↓reduceIte, Nat.reduceEqDiff, Nat.zero_add, Option.getD_some, Bool.not_false, enP, ln54, fa56_2, load_last ag54, encP5, List.length_map]
  refine cond_of (fun h3 => ?_) (fun h3 => ?_)
  · simp -implicitDefEqProofs only [awp_seq, awp_reg, awp_ret, seqQ_n, seqQ_r, end_r, WW_one, WW_nil, none_md, none_fz, frz_nil, ownOp, wc_app, wcont_s, upd_app, ev_const, av_int, x_assign, ↓reduceIte, Option.getD_some, Bool.not_false]
    exact ⟨by unfold pointE; rw [if_neg h1', if_neg h2', if_pos (by simp at h3; simpa using h3)], _, rfl⟩
  have h3' : ¬ p.bins.length = 0 := by simp at h3; simpa using h3
  simp -implicitDefEqProofs only [awp_seq, awp_reg, awp_skip, awp_cond, seqQ_n, WW_one, WW_nil, none_md, none_fz, frz_nil, ownOp, wc_app, wcont_s, upd_app, ev_tmp, ev_const, av_int, x_load, x_bin, x_fieldAddr, x_len, holdsO_ofO, bin_gtr, ↓reduceIte, Nat.reduceEqDiff, Nat.zero_add, Option.getD_some, Bool.not_false, enP, ln54, fa56_2, load_last ag54, encP5, List.length_map]
  refine cond_of (fun h4 => ?_) (fun h4 => ?_)
  · simp -implicitDefEqProofs only [awp_seq, awp_reg, awp_ret, seqQ_n, seqQ_r, end_r, WW_one, WW_nil, none_md, none_fz, frz_nil, ownOp, wc_app, wcont_s, upd_app, ev_const, av_int, x_assign, ↓reduceIte, Option.getD_some, Bool.not_false]
    exact ⟨by unfold pointE; rw [if_neg h1', if_neg h2', if_neg h3', if_pos (by simp at h4; omega)], _, rfl⟩
  have h4' : ¬ 64 < p.bins.length := by simp at h4; omega
  have hpt : pointE p = if fstE validE p.bins ≠ 0 then fstE validE p.bins else if dupB (p.bins.map (·.name)) then 8 else 0 := by
    unfold pointE; rw [if_neg h1', if_neg h2', if_neg h3', if_neg h4']
  simp -implicitDefEqProofs only [awp_seq, awp_block, awp_reg, awp_skip, seqQ_n, WW_one, WW_nil, none_md, none_fz, frz_nil, ownOp, wc_app, wcont_s, ev_const, av_int, x_assign, Option.getD_some, Bool.not_false]
  refine awp_lp 0 (fun F H => F 1 = .ptr h.length 0 0 ∧ H = h ++ [.live 6 [encP p]] ∧ fstE validE p.bins = 0) (fun F H => F 2 = .int .i64 (pointE p) ∧ ∃ x, H = h ++ x) ?_ ?_ ?_
  · refine awp_loop (fun n F H => ∃ k, n + k = p.bins.length ∧ F 1 = .ptr h.length 0 0 ∧ F 4 = .int .i64 (k : Nat) ∧ H = h ++ [.live 6 [encP p]] ∧ fstE validE p.bins = fstE validE (p.bins.drop k)) p.bins.length ⟨0, by simp, by simp -implicitDefEqProofs only [upd_app, ↓reduceIte, Nat.reduceEqDiff], by simp -implicitDefEqProofs only [upd_app, ↓reduceIte]; rfl, rfl, rfl⟩ ?_
    rintro n F H ⟨k, hk, f1, f4, rfl, hf⟩
    simp -implicitDefEqProofs only [awp_seq, awp_reg, awp_cond, seqQ_n, WW_one, WW_nil, none_md, none_fz, frz_nil, ownOp, wc_app, wcont_s, upd_app, ev_tmp, x_move, x_load, x_bin, x_fieldAddr, x_len, holdsO_ofO, bin_lss, ↓reduceIte, Nat.reduceEqDiff, Nat.zero_add, Option.getD_some, Bool.not_false, enP, ln54, fa56_2, f1, f4, load_last ag54, encP5, List.length_map]
    refine cond_of (fun hc => ?_) (fun hc => ?_)
    · have hk' : k < p.bins.length := by simpa using hc
      have hs := fstE_step validE p.bins k hk'
      simp -implicitDefEqProofs only [awp_seq, awp_block, awp_reg, awp_skip, seqQ_n, WW_one, none_md, none_fz, frz_nil, ownOp, wc_app, wcont_s, upd_app, ev_tmp, ev_func, x_move, x_load, x_fieldAddr, x_indexAddr, X1_call, callA_fn, holdsO_ofO, List.map_cons, List.map_nil, List.append_nil, ↓reduceIte, Nat.reduceEqDiff, Nat.zero_add, Option.getD_some, Bool.not_false, enP, ix54, fa56_2, f1, f4, load_last ag54, encP5, ix_map hk', load_mapA ag121 sz121 encB_len hk']
      refine (valid_ref G p.bins[k] (hp.bins _ (List.getElem_mem hk')) _).use ?_
      simp -implicitDefEqProofs only [awp_seq, awp_reg, awp_cond, seqQ_n, WW_one, WW_nil, none_md, none_fz, frz_nil, ownOp, wc_app, wcont_s, upd_app, ev_tmp, ev_const, av_int, x_move, x_assign, x_bin, holdsO_ofO, bin_neq, ↓reduceIte, Option.getD_some, Bool.not_false, enP]
      refine cond_of (fun hv => ?_) (fun hv => ?_)
      · simp -implicitDefEqProofs only [awp_seq, awp_reg, awp_ret, seqQ_n, seqQ_r, blk_r, lp_r, rnd_r, WW_one, WW_nil, none_md, none_fz, frz_nil, ownOp, wc_app, wcont_s, upd_app, ev_tmp, x_move, x_assign, ↓reduceIte, Nat.reduceEqDiff, Option.getD_some, Bool.not_false]
        have hv' : validE p.bins[k] ≠ 0 := by simpa using hv
        have : fstE validE p.bins = validE p.bins[k] := by rw [hf, hs, if_neg hv']
        exact ⟨by rw [hpt, this, if_pos hv'], _, rfl⟩
      · have hv' : validE p.bins[k] = 0 := by simpa using hv
        simp -implicitDefEqProofs only [awp_reg, awp_skip, seqQ_n, blk_n, rnd_n, WW_one, WW_nil, none_md, none_fz, frz_nil, ownOp, wc_app, wcont_s, upd_app, ev_tmp, ev_const, av_int, x_move, x_assign, x_bin, holdsO_ofO, bin_add, ↓reduceIte, Nat.reduceEqDiff, Option.getD_some, Bool.not_false, enP, f4, wrap_succ (show k < 9223372036854775807 by omega)]
        exact ⟨n - 1, by omega, k + 1, by omega, f1, rfl, trivial, by rw [hf, hs, if_pos hv']⟩
    · have hk' : ¬ k < p.bins.length := by simpa using hc
      simp -implicitDefEqProofs only [awp_exit, seqQ_e, lp_e, rnd_e, upd_app, ↓reduceIte, Nat.reduceEqDiff]
      exact ⟨f1, trivial, by rw [hf, List.drop_eq_nil_of_le (by omega)]; rfl⟩
  · rintro F H ⟨f1, rfl, hf⟩
    rw [hf, if_neg (fun hh => hh rfl)] at hpt
    simp -implicitDefEqProofs only [awp_seq, awp_block, awp_reg, seqQ_n, blk_e, WW_one, WW_nil, none_md, none_fz, frz_nil, ownOp, wc_app, wcont_s, ev_const, av_int, x_assign, ↓reduceIte, Option.getD_some, Bool.not_false, f1]
    generalize hN : p.bins.map (·.name) = N at hpt
    have hNl : N.length = p.bins.length := by rw [← hN]; simp
    have hNi : ∀ i (hi : i < p.bins.length), N[i]? = some p.bins[i].name := fun i hi => by rw [← hN, List.getElem?_map, List.getElem?_eq_getElem hi]; rfl
    refine awp_loop (fun n F H => ∃ i, n + i = p.bins.length ∧ F 1 = .ptr h.length 0 0 ∧ F 5 = .int .i64 (i : Nat) ∧ H = h ++ [.live 6 [encP p]] ∧ dupB N = dupT (N.take i) (N.drop i)) p.bins.length ⟨0, by simp, by simp -implicitDefEqProofs only [upd_app, ↓reduceIte, Nat.reduceEqDiff, f1], by simp -implicitDefEqProofs only [upd_app, ↓reduceIte]; rfl, rfl, rfl⟩ ?_
    clear f1
    rintro n F H ⟨i, hi, f1, f5, rfl, hd⟩
    simp -implicitDefEqProofs only [awp_seq, awp_reg, awp_cond, seqQ_n, WW_one, WW_nil, none_md, none_fz, frz_nil, ownOp, wc_app, wcont_s, upd_app, ev_tmp, x_move, x_load, x_bin, x_fieldAddr, x_len, holdsO_ofO, bin_lss, ↓reduceIte, Nat.reduceEqDiff, Nat.zero_add, Option.getD_some, Bool.not_false, enP, ln54, fa56_2, f1, f5, load_last ag54, encP5, List.length_map]
    refine cond_of (fun hc => ?_) (fun hc => ?_)
    · have hi' : i < p.bins.length := by simpa using hc
      have hdrop := dupT_step N i (by omega)
      rw [getElem_some (hNi i hi')] at hdrop
      simp -implicitDefEqProofs only [awp_seq, awp_block, awp_reg, awp_skip, seqQ_n, WW_one, WW_nil, none_md, none_fz, frz_nil, ownOp, wc_app, wcont_s, ev_const, av_int, x_assign, Option.getD_some, Bool.not_false, f5]
      refine awp_lp 4 (fun F' H' => F' 1 = .ptr h.length 0 0 ∧ F' 5 = .int .i64 (i : Nat) ∧ H' = h ++ [.live 6 [encP p]] ∧ hasS (N.take i) p.bins[i].name = false) (fun F' H' => F' 2 = .int .i64 8 ∧ H' = h ++ [.live 6 [encP p]] ∧ dupB N = true) ?_ ?_ ?_
      · refine awp_loop (fun n F' H' => ∃ k, n + k = i ∧ F' 1 = .ptr h.length 0 0 ∧ F' 5 = .int .i64 (i : Nat) ∧ F' 6 = .int .i64 (k : Nat) ∧ H' = h ++ [.live 6 [encP p]] ∧ hasS (N.take i) p.bins[i].name = hasS ((N.take i).drop k) p.bins[i].name) i ⟨0, by simp, by simp -implicitDefEqProofs only [upd_app, ↓reduceIte, Nat.reduceEqDiff, f1], by simp -implicitDefEqProofs only [upd_app, ↓reduceIte, Nat.reduceEqDiff, f5], by simp -implicitDefEqProofs only [upd_app, ↓reduceIte]; rfl, rfl, rfl⟩ ?_
        clear f1 f5
        rintro n' F H' ⟨k, hk, f1, f5, f6, rfl, hin⟩
        simp -implicitDefEqProofs only [awp_seq, awp_reg, awp_cond, seqQ_n, WW_one, WW_nil, none_md, none_fz, frz_nil, ownOp, wc_app, wcont_s, upd_app, ev_tmp, x_move, x_bin, holdsO_ofO, bin_lss, ↓reduceIte, Nat.reduceEqDiff, Option.getD_some, Bool.not_false, enP, f5, f6]
        refine cond_of (fun hc => ?_) (fun hc => ?_)
        · have hk' : k < i := by simpa using hc
          have hk2 : k < p.bins.length := by omega
          have hs := any_step (fun u => p.bins[i].name.toList == u.toList) (N.take i) k (by rw [List.length_take]; omega)
          have hx : (N.take i)[k]'(by rw [List.length_take]; omega) = p.bins[k].name := by
            rw [List.getElem_take]; exact getElem_some (hNi k hk2)
          rw [hx] at hs
          simp -implicitDefEqProofs only [awp_seq, awp_block, awp_skip, seqQ_n]
          refine awp_draw (by kernel_rfl) ?_
          simp -implicitDefEqProofs only [YO_f, dc_app, dcont_s, DD_nil, DD_one, y_move, y_load, y_bin, y_fieldAddr, y_indexAddr, awp_cond, seqQ_n, none_md, upd_app, ev_tmp, x_load, x_bin, x_fieldAddr, x_indexAddr, holdsO_ofO, bin_seql, ↓reduceIte, Nat.reduceEqDiff, Nat.reduceAdd, Nat.add_zero, Nat.zero_add, Option.getD_some, enP, ix54, fa56_2, fa121_0, f1, f5, f6, load_last ag54, encP5, ix_map hi', ix_map hk2, load_map ag9 hi', load_map ag9 hk2, encB0]
          refine cond_of (fun hb => ?_) (fun hb => ?_)
          · simp -implicitDefEqProofs only [awp_seq, awp_reg, awp_ret, seqQ_n, seqQ_r, blk_r, lp_r, rnd_r, WW_one, WW_nil, none_md, none_fz, frz_nil, ownOp, wc_app, wcont_s, upd_app, ev_const, av_int, x_assign, ↓reduceIte, Option.getD_some, Bool.not_false]
            have : hasS (N.take i) p.bins[i].name = true := by
              rw [hin]; unfold hasS; rw [hs, BEq.comm, hb]; rfl
            exact ⟨trivial, trivial, by rw [hd, hdrop, this]; rfl⟩
          · simp -implicitDefEqProofs only [awp_reg, awp_skip, seqQ_n, blk_n, rnd_n, WW_one, WW_nil, none_md, none_fz, frz_nil, ownOp, wc_app, wcont_s, upd_app, ev_tmp, ev_const, av_int, x_move, x_assign, x_bin, holdsO_ofO, bin_add, ↓reduceIte, Nat.reduceEqDiff, Option.getD_some, Bool.not_false, enP, f6, wrap_succ (show k < 9223372036854775807 by omega)]
            refine ⟨n' - 1, by omega, k + 1, by omega, f1, f5, rfl, trivial, ?_⟩
            rw [hin]; unfold hasS; rw [hs, BEq.comm, hb]; rfl
        · have hk' : ¬ k < i := by simpa using hc
          simp -implicitDefEqProofs only [awp_exit, seqQ_e, lp_e, rnd_e, upd_app, ↓reduceIte, Nat.reduceEqDiff]
          refine ⟨f1, f5, trivial, ?_⟩
          rw [hin, List.drop_eq_nil_of_le (by rw [List.length_take]; omega)]; rfl
      · rintro F' H' ⟨g1, g5, rfl, hn⟩
        simp -implicitDefEqProofs only [awp_reg, seqQ_n, blk_n, blk_e, rnd_n, WW_one, WW_nil, none_md, none_fz, frz_nil, ownOp, wc_app, wcont_s, upd_app, ev_tmp, ev_const, av_int, x_move, x_assign, x_bin, holdsO_ofO, bin_add, ↓reduceIte, Nat.reduceEqDiff, Option.getD_some, Bool.not_false, enP, g5, wrap_succ (show i < 9223372036854775807 by omega)]
        refine ⟨n - 1, by omega, i + 1, by omega, g1, rfl, trivial, ?_⟩
        rw [hd, hdrop, hn]; rfl
      · rintro F' H' ⟨g2, rfl, hdd⟩
        simp -implicitDefEqProofs only [seqQ_r, blk_r, rnd_r, end_r, g2]
        exact ⟨by rw [hpt, hdd]; rfl, _, rfl⟩
    · have hi' : ¬ i < p.bins.length := by simpa using hc
      simp -implicitDefEqProofs only [awp_seq, awp_reg, awp_ret, awp_exit, seqQ_n, seqQ_e, blk_e, rnd_e, end_r, WW_one, WW_nil, none_md, none_fz, frz_nil, ownOp, wc_app, wcont_s, upd_app, ev_const, av_int, x_assign, ↓reduceIte, Option.getD_some, Bool.not_false]
      exact ⟨by rw [hpt, hd, List.drop_eq_nil_of_le (by omega)]; rfl, _, rfl⟩
  · rintro F H ⟨f2, hx⟩
    simp -implicitDefEqProofs only [seqQ_r, blk_r, end_r, f2]
    exact ⟨trivial, hx⟩
end Go.Proofs.YtocilianjfhifaaGreatDoor.Cov
/- Lists that are built by appending; whatever the element; no condition. -/
namespace Go.Proofs.YtocilianjfhifaaGreatDoor.Cov
open Go Go.Proofs Go.Proofs.YtocilianjfhifaaGreatDoor.Sm Go.Proofs.YtocilianjfhifaaGreatDoor.Bins Go.RowKit

def outG {α : Type} (k : Nat) (f : α → List AV) (h : Hp) (ys : List α) (v : AV) (H : Hp) : Prop :=
  (ys = [] ∧ v = .sl .nil 0 []) ∨ (ys ≠ [] ∧ ∃ o, h.length ≤ o ∧ v = .own o 0 ys.length ∧ H[o]? = some (.live k (ys.map f)))
theorem outG.nil {α : Type} (k : Nat) (f : α → List AV) (h H : Hp) : outG k f h [] (.sl .nil 0 []) H := .inl ⟨rfl, rfl⟩
theorem outG.keep {α : Type} {k : Nat} {f : α → List AV} {h H H' : Hp} {ys : List α} {v : AV} (ho : outG k f h ys v H) (hk : ∀ b, isB v b → H'[b]? = H[b]?) : outG k f h ys v H' := by
  rcases ho with h1 | ⟨h1, o, h2, rfl, h3⟩
  · exact .inl h1
  · exact .inr ⟨h1, o, h2, rfl, by rw [hk o rfl]; exact h3⟩
theorem outG.lt {α : Type} {k : Nat} {f : α → List AV} {h H : Hp} {ys : List α} {v : AV} {b : Nat} (ho : outG k f h ys v H) (hb : isB v b) : h.length ≤ b ∧ b < H.length := by
  rcases ho with ⟨_, rfl⟩ | ⟨_, o, h2, rfl, h3⟩
  · exact hb.elim
  · cases hb; exact ⟨h2, lt_of_getElem? h3⟩
theorem outG.app {α : Type} {k : Nat} {f : α → List AV} {h H : Hp} {ys : List α} {v : AV} (ho : outG k f h ys v H) (x : Hp) : outG k f h ys v (H ++ x) :=
  ho.keep fun _ hb => List.getElem?_append_left (ho.lt hb).2
theorem outG.append {P : Program} {t e : TypeId} {α : Type} {k bs : Nat} {f : α → List AV} {h H : Hp} {ys : List α} {v : AV} (ho : outG k f h ys v H) (hu : P.underlying t = some (.slice e)) (hs : szO P e = some k) (hz : zszO P e = some k) (hb : bytesO P e = some bs) (hbs : bs ≤ 4194304) (hl : ys.length < 8388608) (he : ext h H) (y : α) :
    ∃ v' H', aAppend P true H t t v (.sl .full k [f y]) = some (v', H') ∧ outG k f h (ys ++ [y]) v' H' ∧ (∀ b x, H[b]? = some x → ¬ isB v b → H'[b]? = some x) ∧ ext h H' ∧ H.length ≤ H'.length ∧ ∀ b, isB v' b → b = H.length := by
  have h1 : ([f y] : List (List AV)) ≠ [] := by simp
  rcases ho with ⟨rfl, rfl⟩ | ⟨hne, o, h2, rfl, h3⟩
  · exact ⟨_, _, app_nil hu hs hz hb (conts_sl H .full k [f y]) h1 (room_of (by simp) hbs), .inr ⟨by simp, H.length, he.le, rfl, by simp⟩, fun b x hb _ => below_getL hb, he.app _, by simp, fun b hb => hb.symm⟩
  · have hc : conts H (.own o 0 ys.length) = some (k, ys.map f) := by
      rw [conts_own h3 (by simp), List.drop_zero, List.take_of_length_le (by simp)]
    refine ⟨_, _, app_own hu hs hz hb hc (conts_sl H .full k [f y]) h1 (room_of (by simp; omega) hbs), .inr ⟨by simp, H.length, he.le, by simp, by simp⟩, fun b x hb hn => ?_, (he.set h2 _).app _, by simp, fun b hb => hb.symm⟩
    have hn' : ¬ o = b := hn
    refine below_getL ?_
    rw [List.getElem?_set, if_neg hn']; exact hb
theorem outG.len {P : Program} {t : TypeId} {α : Type} {k : Nat} {f : α → List AV} {h H : Hp} {ys : List α} {v : AV} (ho : outG k f h ys v H) (hl : (∀ m k xs, aLen P t (.sl m k xs) = some (.int .i64 xs.length)) ∧ ∀ b off len, aLen P t (.own b off len) = some (.int .i64 len)) : aLen P t v = some (.int .i64 ys.length) := by
  rcases ho with ⟨rfl, rfl⟩ | ⟨_, o, _, rfl, _⟩
  · exact hl.1 _ _ _
  · exact hl.2 _ _ _
def nm {α : Type} (ys : List α) : SM := match ys with
  | [] => .nil
  | _ => .any
theorem frzF_own (n : Nat) (h : Hp) (d b off len k : Nat) (xs : List (List AV)) (hn : ¬ b < n) (hb : h[b]? = some (.live k xs)) : frzF n h (d + 1) (.own b off len) = if off + len ≤ xs.length ∧ (((xs.drop off).take len).map (·.map (frzF n h d))).all (·.all AV.leaf) = true then .sl .any k (((xs.drop off).take len).map (·.map (frzF n h d))) else .junk := by
  rw [frzF]
  simp only [hn, if_false, hb]
/-- rows that freezing leaves as they are -/
def Frz {α : Type} (f : α → List AV) : Prop := ∀ (n : Nat) (h : Hp) (d : Nat) (x : α), (f x).map (frzF n h (d + 1)) = f x ∧ (f x).all AV.leaf = true
theorem frz_rows {α : Type} {f : α → List AV} (hf : Frz f) (n : Nat) (h : Hp) (d : Nat) (xs : List α) : (xs.map f).map (·.map (frzF n h (d + 1))) = xs.map f := by
  rw [List.map_map]
  exact List.map_congr_left fun x _ => (hf n h d x).1
theorem frz_own {α : Type} {f : α → List AV} (hf : Frz f) {n d k : Nat} {h : Hp} {o : Nat} {xs : List α} (hn : n ≤ o) (ho : h[o]? = some (.live k (xs.map f))) : frzF n h (d + 2) (.own o 0 xs.length) = .sl .any k (xs.map f) := by
  rw [frzF_own n h (d + 1) o 0 xs.length k _ (by omega) ho, List.drop_zero, List.take_of_length_le (by simp), frz_rows hf n h d xs]
  rw [if_pos]
  refine ⟨by simp, ?_⟩
  rw [List.all_eq_true]
  intro row hr
  obtain ⟨x, _, rfl⟩ := List.mem_map.1 hr
  exact (hf n h d x).2
theorem outG_pure {E : Env} {f : FuncId} {args : List AV} {h : Hp} {α : Type} {k : Nat} {enc : α → List AV} (hf : Frz enc) {ys : List α} (hc : ACalls E f args h fun v H => ext h H ∧ outG k enc h ys v H) : PCall E f args h (.sl (nm ys) k (ys.map enc)) := by
  have h1 : ACalls E f args h fun v H => v = (if ys.length = 0 then AV.sl .nil 0 [] else .sl .any k (ys.map enc)) ∧ H = h := by
    refine ACalls.pure 2 hc ?_
    rintro v H ⟨hex, hout⟩
    refine ⟨hex, ?_⟩
    rcases hout with ⟨rfl, rfl⟩ | ⟨hne, o, ho1, rfl, ho⟩
    · rfl
    · rw [if_neg (by simpa using hne)]; exact frz_own hf ho1 ho
  refine h1.conv ?_
  rintro v H ⟨rfl, rfl⟩
  refine ⟨_, ⟨rfl, rfl⟩, ?_⟩
  intro g cv hr
  cases ys with
  | nil => exact nil_conv hr
  | cons y ys => exact hr
end Go.Proofs.YtocilianjfhifaaGreatDoor.Cov
/- Crosses: their sizes and combinations, on both sides; no condition but the bounds on lengths. -/
set_option linter.unusedSimpArgs false
set_option maxRecDepth 8000
namespace Go.Proofs.YtocilianjfhifaaGreatDoor.Cov
open Go Go.Proofs Go.Proofs.YtocilianjfhifaaGreatDoor.Sm Go.Proofs.YtocilianjfhifaaGreatDoor.Bins Go.RowKit

def binsAt (m : Mo) (p : Int) : List Bin := match m.pts[p.toNat]? with
  | some q => q.bins
  | none => []
def szs (m : Mo) (l : List Int) : List Nat := l.map fun p => (binsAt m p).length
/-- points that are there -/
def Here (m : Mo) (l : List Int) : Prop := ∀ p ∈ l, 0 ≤ p ∧ p < (m.pts.length : Int)
theorem Here.toNat {m : Mo} {l : List Int} (hh : Here m l) {k : Nat} (hk : k < l.length) : (l[k]).toNat < m.pts.length := by
  have := hh _ (List.getElem_mem hk); omega
theorem Here.bins {m : Mo} {l : List Int} (hh : Here m l) {k : Nat} (hk : k < l.length) : (m.pts[(l[k]).toNat]'(hh.toNat hk)).bins = binsAt m l[k] := by
  unfold binsAt; rw [List.getElem?_eq_getElem (hh.toNat hk)]
theorem Here.ix {m : Mo} {l : List Int} (hh : Here m l) {k : Nat} (hk : k < l.length) (h : Hp) (s : SM) : ixSl 6 h (.sl s 6 (m.pts.map encP)) (.int .i64 l[k]) = some (.fptr 6 (m.pts.map encP) (l[k]).toNat 0) := by
  have := hh _ (List.getElem_mem hk)
  exact ix_sl this.1 (by rw [List.length_map]; exact this.2)
theorem Here.ld {m : Mo} {l : List Int} (hh : Here m l) {k : Nat} (hk : k < l.length) (h : Hp) : ∃ s, aLoad Tryz.prog h 54 (.fptr 6 (m.pts.map encP) (l[k]).toNat 5) = some (.sl s 4 ((binsAt m l[k]).map encB)) := by
  rw [load_map ag54 (hh.toNat hk), encP5, hh.bins hk]
  exact ⟨_, rfl⟩
theorem bs56 (h : Hp) (v : Int) : aBuildSlice Tryz.prog false h 57 1 [(0, .int .i64 v)] = some (.sl .full 1 [[.int .i64 v]], h) := by kernel_rfl
def encN (n : Nat) : List AV := [.int .i64 (n : Int)]
theorem frzN : Frz encN := fun _ _ _ _ => ⟨rfl, rfl⟩
theorem encN0 (n : Nat) : (encN n)[0]? = some (.int .i64 (n : Int)) := rfl
theorem encI0 (n : Int) : (encI n)[0]? = some (.int .i64 n) := rfl
theorem szs_take (m : Mo) (l : List Int) (k : Nat) (hk : k < l.length) : szs m (l.take (k + 1)) = szs m (l.take k) ++ [(binsAt m l[k]).length] := by
  unfold szs; rw [List.take_succ_eq_append_getElem hk, List.map_append]; rfl
theorem sizes_prog (G : Nat → AV) (m : Mo) (c : Cr) (h : Hp) (hh : Here m c.pts) (hl : c.pts.length ≤ 1048576) : PCall (En G) 167 [.agg (encM m), .agg (encC c)] h (.sl (nm (szs m c.pts)) 1 ((szs m c.pts).map encN)) := by
  refine outG_pure frzN ?_
  refine acalls_of (H := Hint.none) (enM G) Tryz.func167 rfl (by kernel_rfl) (by kernel_rfl) (Nat.le_of_ble_eq_true (by kernel_rfl)) ?_
  show awp _ _ _ _ _ (endQ _ [.tmp 4] _)
  simp -implicitDefEqProofs only [awp_seq, awp_block, awp_reg, seqQ_n, WW_one, WW_nil, none_md, none_fz, frz_nil, ownOp, wc_app, wcont_s, upd_app, ev_tmp, ev_const, av_int, av_nil, x_move, x_assign, x_box, x_load, x_fieldAddr, x_len, holdsO_some, holdsO_ofO, frameOf_zero, frameOf_succ, ↓reduceIte, Nat.reduceEqDiff, Nat.zero_add, Option.getD_some, Bool.not_false, enP, ln57, fa71_1, bxM, bxC, load_last ag57, encC1, List.length_map]
  have hb0 : (h ++ [ABlk.live 2 [encM m]] ++ [ABlk.live 3 [encC c]])[h.length]? = some (.live 2 [encM m]) := below_get (top_get _ _)
  refine awp_loop (fun n F H => ∃ k, n + k = c.pts.length ∧ F 2 = .ptr h.length 0 0 ∧ F 9 = .sl c.pm 1 (c.pts.map encI) ∧ F 10 = .int .i64 c.pts.length ∧ F 11 = .int .i64 (k : Nat) ∧ H[h.length]? = some (.live 2 [encM m]) ∧ ext h H ∧ (∀ b, isB (F 5) b → h.length < b) ∧ outG 1 encN h (szs m (c.pts.take k)) (F 5) H) c.pts.length ⟨0, by simp, by simp -implicitDefEqProofs only [upd_app, ↓reduceIte, Nat.reduceEqDiff], by simp -implicitDefEqProofs only [upd_app, ↓reduceIte, Nat.reduceEqDiff], by simp -implicitDefEqProofs only [upd_app, ↓reduceIte, Nat.reduceEqDiff], by simp -implicitDefEqProofs only [upd_app, ↓reduceIte]; rfl, hb0, ((ext.rfl' h).app _).app _, fun b hb => hb.elim, outG.nil _ _ _ _⟩ ?_
  rintro n F H ⟨k, hk, f2, f9, f10, f11, hb, he, hlt, ho⟩
  simp -implicitDefEqProofs only [awp_seq, awp_reg, awp_cond, seqQ_n, WW_one, WW_nil, none_md, none_fz, frz_nil, ownOp, wc_app, wcont_s, upd_app, ev_tmp, x_bin, holdsO_ofO, bin_lss, ↓reduceIte, Option.getD_some, Bool.not_false, enP, f10, f11]
  refine cond_of (fun hc => ?_) (fun hc => ?_)
  · have hk' : k < c.pts.length := by simpa using hc
    have lm : aLoad Tryz.prog H 22 (.ptr h.length 0 0) = some (.sl m.pm 6 (m.pts.map encP)) := by rw [load_row ag22 hb (row := encM m) rfl, encM0]
    obtain ⟨s, ls⟩ := hh.ld hk' H
    have hzl : (szs m (c.pts.take k)).length < 8388608 := by unfold szs; simp; omega
    obtain ⟨v', H', ha, ho', hkeep, he', hle, hb'⟩ := ho.append ud57 sz3 zs57 by57 (by omega) hzl he (binsAt m c.pts[k]).length
    simp -implicitDefEqProofs only [evp_nil, evp_cons, awp_seq, awp_block, awp_reg, awp_skip, seqQ_n, WW_one, WW_nil, none_md, none_fz, frz_nil, ownOp, wc_app, wcont_s, upd_app, ev_tmp, x_move, x_assign, x_buildSlice, x_load, x_fieldAddr, x_indexAddr, x_len, x_append, holdsO_some, holdsO_ofO, ↓reduceIte, Nat.reduceEqDiff, Nat.add_zero, Nat.zero_add, Option.getD_some, Bool.not_false, enP, ix22, fa25_0, ln54, fa56_2, ix57, f2, f9, f11, ix_map hk', load_map ag3 hk', encI0, lm, hh.ix hk', ls, List.length_map, bs56]
    refine holdsO_of (v := v') (h := H') (by rw [show [[AV.int .i64 ((binsAt m c.pts[k]).length : Int)]] = [encN (binsAt m c.pts[k]).length] from rfl, ha]) ?_
    simp -implicitDefEqProofs only [awp_reg, seqQ_n, blk_n, rnd_n, WW_one, WW_nil, none_md, none_fz, frz_nil, ownOp, wc_app, wcont_s, upd_app, ev_tmp, ev_const, av_int, x_move, x_assign, x_bin, holdsO_ofO, bin_add, ↓reduceIte, Nat.reduceEqDiff, Option.getD_some, Bool.not_false, enP, f11, wrap_succ (show k < 9223372036854775807 by omega)]
    refine ⟨n - 1, by omega, k + 1, by omega, f2, f9, f10, rfl, hkeep _ _ hb (fun e => by have := hlt _ e; omega), he', fun b hbb => ?_, ?_⟩
    · have := hb' b hbb; have := lt_of_getElem? hb; omega
    · rw [szs_take m c.pts k hk']; exact ho'
  · have hk' : ¬ k < c.pts.length := by simpa using hc
    rw [List.take_of_length_le (by omega)] at ho
    simp -implicitDefEqProofs only [awp_seq, awp_reg, awp_ret, awp_exit, seqQ_n, seqQ_e, blk_e, rnd_e, end_r, WW_one, WW_nil, none_md, none_fz, frz_nil, ownOp, wc_app, wcont_s, upd_app, ev_tmp, x_move, x_assign, ↓reduceIte, Nat.reduceEqDiff, Option.getD_some, Bool.not_false]
    exact ⟨he, ho⟩

/-- the number of combinations -/
def prodN (l : List Nat) : Nat := l.foldl (· * ·) 1
theorem prodN_take (l : List Nat) (k : Nat) (hk : k < l.length) : prodN (l.take (k + 1)) = prodN (l.take k) * l[k] := by
  unfold prodN; rw [List.take_succ_eq_append_getElem hk, List.foldl_append]; rfl
theorem prodN_le (l : List Nat) (k : Nat) (h : ∀ n ∈ l, n ≤ 64) (hk : l.length ≤ k) : prodN l ≤ 64 ^ k := by
  have gen : ∀ (l : List Nat) (a : Nat) (j : Nat), (∀ n ∈ l, n ≤ 64) → a ≤ 64 ^ j → l.foldl (· * ·) a ≤ 64 ^ (j + l.length) := by
    intro l
    induction l with
    | nil => intro a j _ ha; exact ha
    | cons x l ih =>
      intro a j hl ha
      rw [List.foldl_cons, List.length_cons, show j + (l.length + 1) = (j + 1) + l.length by omega]
      refine ih _ _ (fun n hn => hl n (by simp [hn])) ?_
      rw [Nat.pow_succ]
      exact Nat.mul_le_mul ha (hl x (by simp))
  have := gen l 1 0 h (by simp)
  rw [Nat.zero_add] at this
  exact Nat.le_trans this (Nat.pow_le_pow_right (by omega) hk)
theorem prodN_mono (l : List Nat) (k : Nat) (h : ∀ n ∈ l, 1 ≤ n) : prodN (l.take k) ≤ prodN l := by
  have gen : ∀ (l : List Nat) (a : Nat), (∀ n ∈ l, 1 ≤ n) → a ≤ l.foldl (· * ·) a := by
    intro l
    induction l with
    | nil => intro a _; exact Nat.le_refl _
    | cons x l ih =>
      intro a hl
      rw [List.foldl_cons]
      refine Nat.le_trans ?_ (ih _ (fun n hn => hl n (by simp [hn])))
      exact Nat.le_mul_of_pos_right a (hl x (by simp))
  have h2 : prodN l = (l.drop k).foldl (· * ·) (prodN (l.take k)) := by
    unfold prodN
    conv => lhs; rw [← List.take_append_drop k l, List.foldl_append]
  rw [h2]
  exact gen _ _ (fun n hn => h n (List.mem_of_mem_drop hn))
theorem product_prog (G : Nat → AV) (l : List Nat) (s : SM) (h : Hp) (hl : ∀ n ∈ l, n ≤ 64) (hk : l.length ≤ 4) : PCall (En G) 180 [.sl s 1 (l.map encN)] h (.int .i64 (prodN l)) := by
  refine acalls_of (H := Hint.none) (enM G) Tryz.func180 rfl (by kernel_rfl) (by kernel_rfl) (Nat.le_of_ble_eq_true (by kernel_rfl)) ?_
  show awp _ _ _ _ _ (endQ _ [.tmp 2] _)
  simp -implicitDefEqProofs only [awp_seq, awp_block, awp_reg, seqQ_n, WW_one, WW_nil, none_md, none_fz, frz_nil, ownOp, wc_app, wcont_s, upd_app, ev_tmp, ev_const, av_int, x_move, x_assign, x_len, holdsO_ofO, frameOf_zero, ↓reduceIte, Nat.reduceEqDiff, Option.getD_some, Bool.not_false, enP, ln57, List.length_map]
  have hp : ∀ k, prodN (l.take k) ≤ 16777216 := fun k => by
    have := prodN_le (l.take k) 4 (fun n hn => hl n (List.mem_of_mem_take hn)) (by rw [List.length_take]; omega)
    simpa using this
  refine awp_loop (fun n F H => ∃ k, n + k = l.length ∧ F 3 = .int .i64 (prodN (l.take k)) ∧ F 6 = .sl s 1 (l.map encN) ∧ F 7 = .int .i64 l.length ∧ F 8 = .int .i64 (k : Nat) ∧ H = h) l.length ⟨0, by simp, by simp -implicitDefEqProofs only [upd_app, ↓reduceIte, Nat.reduceEqDiff]; rfl, by simp -implicitDefEqProofs only [upd_app, ↓reduceIte, Nat.reduceEqDiff], by simp -implicitDefEqProofs only [upd_app, ↓reduceIte, Nat.reduceEqDiff], by simp -implicitDefEqProofs only [upd_app, ↓reduceIte]; rfl, rfl⟩ ?_
  rintro n F H ⟨k, hk, f3, f6, f7, f8, rfl⟩
  simp -implicitDefEqProofs only [awp_seq, awp_reg, awp_cond, seqQ_n, WW_one, WW_nil, none_md, none_fz, frz_nil, ownOp, wc_app, wcont_s, upd_app, ev_tmp, x_bin, holdsO_ofO, bin_lss, ↓reduceIte, Option.getD_some, Bool.not_false, enP, f7, f8]
  refine cond_of (fun hc => ?_) (fun hc => ?_)
  · have hk' : k < l.length := by simpa using hc
    have h1 := hp (k + 1)
    rw [prodN_take l k hk'] at h1
    have hw : IntKind.i64.wrap ((prodN (l.take k) : Int) * (l[k] : Int)) = ((prodN (l.take (k + 1)) : Nat) : Int) := by
      rw [prodN_take l k hk', ← Int.natCast_mul, wrap_nat (by omega)]
    simp -implicitDefEqProofs only [awp_seq, awp_block, awp_reg, awp_skip, seqQ_n, blk_n, rnd_n, WW_one, WW_nil, none_md, none_fz, frz_nil, ownOp, wc_app, wcont_s, upd_app, ev_tmp, ev_const, av_int, x_move, x_assign, x_load, x_bin, x_indexAddr, holdsO_ofO, bin_add, bin_mul, ↓reduceIte, Nat.reduceEqDiff, Option.getD_some, Bool.not_false, enP, ix57, f3, f6, f8, ix_map hk', load_map ag3 hk', encN0, hw, wrap_succ (show k < 9223372036854775807 by omega)]
    exact ⟨n - 1, by omega, k + 1, by omega, rfl, trivial, f7, rfl, trivial⟩
  · have hk' : ¬ k < l.length := by simpa using hc
    rw [List.take_of_length_le (by omega)] at f3
    simp -implicitDefEqProofs only [awp_seq, awp_reg, awp_ret, awp_exit, seqQ_n, seqQ_e, blk_e, rnd_e, end_r, WW_one, WW_nil, none_md, none_fz, frz_nil, ownOp, wc_app, wcont_s, upd_app, ev_tmp, x_move, x_assign, ↓reduceIte, Nat.reduceEqDiff, Option.getD_some, Bool.not_false, f3]
    exact ⟨trivial, trivial⟩
/-- a combination -/
def insT : List Nat → List Int → Bool
  | [], [] => true
  | n :: ns, x :: xs => decide (0 ≤ x) && decide (x < (n : Int)) && insT ns xs
  | _, _ => false
theorem insT_nil (ns : List Nat) : insT ns [] = (ns.length == 0) := by cases ns <;> rfl
theorem insT_len : ∀ {ns : List Nat} {xs : List Int}, insT ns xs = true → ns.length = xs.length
  | [], [], _ => rfl
  | n :: ns, x :: xs, h => by
    simp only [insT, Bool.and_eq_true] at h
    simp [insT_len h.2]
  | [], _ :: _, h => by cases h
  | _ :: _, [], h => by cases h
theorem inside_prog (G : Nat → AV) (ns : List Nat) (xs : List Int) (s t : SM) (h : Hp) (hn : ns.length ≤ 1048576) : PCall (En G) 182 [.sl s 1 (ns.map encN), .sl t 1 (xs.map encI)] h (.bool (insT ns xs)) := by
  refine acalls_of (H := Hint.none) (enM G) Tryz.func182 rfl (by kernel_rfl) (by kernel_rfl) (Nat.le_of_ble_eq_true (by kernel_rfl)) ?_
  show awp _ _ _ _ _ (endQ _ [.tmp 4] _)
  simp -implicitDefEqProofs only [awp_seq, awp_block, awp_reg, seqQ_n, WW_one, WW_nil, none_md, none_fz, frz_nil, ownOp, wc_app, wcont_s, upd_app, ev_tmp, ev_const, av_int, av_bool, x_move, x_assign, x_len, holdsO_ofO, frameOf_zero, frameOf_succ, ↓reduceIte, Nat.reduceEqDiff, Option.getD_some, Bool.not_false, enP, ln57, List.length_map]
  refine awp_loop (fun n F H => ∃ k, n + k = xs.length ∧ k ≤ ns.length ∧ F 0 = .sl s 1 (ns.map encN) ∧ F 1 = .sl t 1 (xs.map encI) ∧ F 7 = .sl t 1 (xs.map encI) ∧ F 8 = .int .i64 xs.length ∧ F 9 = .int .i64 (k : Nat) ∧ H = h ∧ insT ns xs = insT (ns.drop k) (xs.drop k)) xs.length ⟨0, by simp, by simp, by simp -implicitDefEqProofs only [upd_app, frameOf_zero, ↓reduceIte, Nat.reduceEqDiff], by simp -implicitDefEqProofs only [upd_app, frameOf_zero, frameOf_succ, ↓reduceIte, Nat.reduceEqDiff], by simp -implicitDefEqProofs only [upd_app, ↓reduceIte, Nat.reduceEqDiff], by simp -implicitDefEqProofs only [upd_app, ↓reduceIte, Nat.reduceEqDiff], by simp -implicitDefEqProofs only [upd_app, ↓reduceIte]; rfl, rfl, rfl⟩ ?_
  rintro n F H ⟨k, hk, hkn, f0, f1, f7, f8, f9, rfl, hi⟩
  simp -implicitDefEqProofs only [awp_seq, awp_reg, awp_cond, seqQ_n, WW_one, WW_nil, none_md, none_fz, frz_nil, ownOp, wc_app, wcont_s, upd_app, ev_tmp, x_bin, holdsO_ofO, bin_lss, ↓reduceIte, Option.getD_some, Bool.not_false, enP, f8, f9]
  refine cond_of (fun hc => ?_) (fun hc => ?_)
  · have hk' : k < xs.length := by simpa using hc
    rw [List.drop_eq_getElem_cons hk'] at hi
    simp -implicitDefEqProofs only [awp_seq, awp_block, awp_reg, awp_skip, seqQ_n, WW_one, WW_nil, WW_guardE, GX_some, gdstO, none_md, none_fz, frz_nil, ownOp, wc_app, wcont_s, upd_app, ev_tmp, x_move, x_assign, x_load, x_bin, x_indexAddr, x_len, holdsO_ofO, bin_geq, ↓reduceIte, Nat.reduceEqDiff, Option.getD_some, Bool.not_false, enP, ix57, ln57, f0, f7, f9, ix_map hk', load_map ag3 hk', encI0, List.length_map]
    refine G1_of (fun ha => ?_) (fun ha => ?_)
    · simp -implicitDefEqProofs only [awp_seq, awp_reg, awp_ret, awp_cond, seqQ_n, seqQ_r, blk_r, rnd_r, end_r, cond_t, WW_one, WW_nil, WW_guardE, GX_some, gdstO, G1_ft, none_md, none_fz, frz_nil, ownOp, wc_app, wcont_s, upd_app, aput, ev_tmp, ev_const, av_bool, x_move, x_assign, x_pick, pick_t, ↓reduceIte, Nat.reduceEqDiff, Option.getD_some, Bool.not_false, ha]
      have : ns.length ≤ k := by simp at ha; omega
      rw [List.drop_eq_nil_of_le this] at hi
      exact ⟨by rw [hi]; rfl, trivial⟩
    have hkn' : k < ns.length := by simp at ha; omega
    rw [List.drop_eq_getElem_cons hkn'] at hi
    simp -implicitDefEqProofs only [WW_one, WW_guardE, GX_some, gdstO, G1_ff, none_md, none_fz, frz_nil, ownOp, wc_app, wcont_s, upd_app, ev_tmp, ev_const, av_int, av_bool, x_move, x_pick, pick_f, x_bin, holdsO_ofO, bin_lss, ↓reduceIte, Nat.reduceEqDiff, Option.getD_some, Bool.not_false, enP, ha]
    refine G1_of (fun hb => ?_) (fun hb => ?_)
    · simp -implicitDefEqProofs only [awp_seq, awp_reg, awp_ret, awp_cond, seqQ_n, seqQ_r, blk_r, rnd_r, end_r, cond_t, WW_one, WW_nil, WW_guardE, GX_some, gdstO, G1_ft, none_md, none_fz, frz_nil, ownOp, wc_app, wcont_s, upd_app, aput, ev_tmp, ev_const, av_bool, x_assign, x_pick, pick_t, ↓reduceIte, Nat.reduceEqDiff, Option.getD_some, Bool.not_false, hb]
      have : decide (0 ≤ xs[k]) = false := by simp at hb ⊢; omega
      exact ⟨by rw [hi]; unfold insT; rw [this]; rfl, trivial⟩
    have h0 : decide (0 ≤ xs[k]) = true := by simp at hb ⊢; omega
    simp -implicitDefEqProofs only [awp_cond, seqQ_n, WW_one, WW_nil, WW_guardE, GX_some, gdstO, G1_ff, none_md, none_fz, frz_nil, ownOp, wc_app, wcont_s, upd_app, ev_tmp, ev_const, av_bool, x_move, x_pick, pick_f, x_load, x_bin, x_indexAddr, holdsO_ofO, bin_geq, ↓reduceIte, Nat.reduceEqDiff, Option.getD_some, Bool.not_false, enP, ix57, hb, f0, ix_map hkn', load_map ag3 hkn', encN0]
    refine cond_of (fun hd => ?_) (fun hd => ?_)
    · simp -implicitDefEqProofs only [awp_seq, awp_reg, awp_ret, seqQ_n, seqQ_r, blk_r, rnd_r, end_r, WW_one, WW_nil, none_md, none_fz, frz_nil, ownOp, wc_app, wcont_s, upd_app, ev_const, av_bool, x_assign, ↓reduceIte, Option.getD_some, Bool.not_false]
      have : decide (xs[k] < (ns[k] : Int)) = false := by simp at hd ⊢; omega
      exact ⟨by rw [hi]; unfold insT; rw [this, h0]; rfl, trivial⟩
    have h1 : decide (xs[k] < (ns[k] : Int)) = true := by simp at hd ⊢; omega
    simp -implicitDefEqProofs only [awp_reg, awp_skip, seqQ_n, blk_n, rnd_n, WW_one, WW_nil, none_md, none_fz, frz_nil, ownOp, wc_app, wcont_s, upd_app, ev_tmp, ev_const, av_int, x_move, x_bin, holdsO_ofO, bin_add, ↓reduceIte, Nat.reduceEqDiff, Option.getD_some, Bool.not_false, enP, f9, wrap_succ (show k < 9223372036854775807 by omega)]
    refine ⟨n - 1, by omega, k + 1, by omega, by omega, f0, f1, f7, f8, rfl, trivial, ?_⟩
    rw [hi]
    conv => lhs; unfold insT
    rw [h0, h1]; rfl
  · have hk' : ¬ k < xs.length := by simpa using hc
    simp -implicitDefEqProofs only [awp_seq, awp_reg, awp_ret, awp_exit, seqQ_n, seqQ_e, blk_e, rnd_e, end_r, WW_one, WW_nil, none_md, none_fz, frz_nil, ownOp, wc_app, wcont_s, upd_app, ev_tmp, x_move, x_assign, x_bin, x_len, holdsO_ofO, bin_eql, ↓reduceIte, Nat.reduceEqDiff, Option.getD_some, Bool.not_false, enP, ln57, f0, f1, List.length_map]
    refine ⟨?_, trivial⟩
    rw [hi, List.drop_eq_nil_of_le (show xs.length ≤ k by omega), insT_nil, List.length_drop]
    congr 1
    rw [Bool.eq_iff_iff]; simp; omega
end Go.Proofs.YtocilianjfhifaaGreatDoor.Cov
/- The error of a cross: the program; no condition but the variables that are laid and the bounds on lengths. -/
set_option linter.unusedSimpArgs false
set_option maxRecDepth 8000
namespace Go.Proofs.YtocilianjfhifaaGreatDoor.Cov
open Go Go.Proofs Go.Proofs.YtocilianjfhifaaGreatDoor.Sm Go.Proofs.YtocilianjfhifaaGreatDoor.Bins Go.RowKit

theorem indexFunc26 (G : Nat → AV) (xs : List Is) (m : SM) (fid : FuncId) (caps : List AV) (p : Is → Bool) (h : Hp) (hl : xs.length ≤ 1099511627776)
    (hf : ∀ r, PCall (En G) fid (.sl r.m 1 (r.l.map encI) :: caps) h (.bool (p r))) :
    PCall (En G) 183 [.sl m 1 (xs.map encL), .fn (.func fid) [] caps] h (.int .i64 (match xs.findIdx? p with | some i => (i : Int) | none => -1)) := by
  refine acalls_of (H := Hint.none) (enM G) Tryz.func183 rfl (by kernel_rfl) (by kernel_rfl) (Nat.le_of_ble_eq_true (by kernel_rfl)) ?_
  show awp _ _ _ _ _ (endQ _ [.tmp 4] _)
  simp -implicitDefEqProofs only [awp_seq, awp_block, awp_reg, seqQ_n, WW_one, WW_nil, none_md, none_fz, frz_nil, ownOp, wc_app, wcont_s, upd_app, ev_tmp, ev_const, av_int, x_move, x_assign, x_len, holdsO_ofO, frameOf_zero, ↓reduceIte, Nat.reduceEqDiff, Option.getD_some, Bool.not_false, enP, ln26, List.length_map]
  refine awp_loop (fun n F H => ∃ k, n + k = xs.length ∧ F 0 = .sl m 1 (xs.map encL) ∧ F 1 = .fn (.func fid) [] caps ∧ F 7 = .int .i64 xs.length ∧ F 8 = .int .i64 (k : Nat) ∧ H = h ∧ (xs.take k).all (fun r => !p r) = true) xs.length ⟨0, by simp, rfl, rfl, rfl, rfl, rfl, rfl⟩ ?_
  rintro n F H ⟨k, hk, f0, f1, f7, f8, rfl, hin⟩
  simp -implicitDefEqProofs only [awp_seq, awp_reg, awp_cond, seqQ_n, WW_one, WW_nil, none_md, none_fz, frz_nil, ownOp, wc_app, wcont_s, upd_app, ev_tmp, x_bin, holdsO_ofO, bin_lss, ↓reduceIte, Option.getD_some, Bool.not_false, enP, f0, f1, f7, f8, List.length_map]
  refine cond_of (fun hc => ?_) (fun hc => ?_)
  · have hc' : k < xs.length := by simpa using hc
    simp -implicitDefEqProofs only [awp_seq, awp_block, awp_reg, awp_skip, seqQ_n, WW_one, WW_nil, none_md, none_fz, frz_nil, ownOp, wc_app, wcont_s, upd_app, ev_tmp, x_move, x_assign, x_load, x_indexAddr, X1_call, callA_fn, holdsO_ofO, List.map_cons, List.map_nil, List.nil_append, List.cons_append, ↓reduceIte, Nat.reduceEqDiff, Option.getD_some, Bool.not_false, enP, ix26, f0, f1, f7, f8, ix_map hc', load_map ag57 hc', encL0]
    refine (hf _).use ?_
    simp -implicitDefEqProofs only [awp_cond, seqQ_n, WW_nil, wcont_s, upd_app, ev_tmp, ↓reduceIte]
    refine cond_of (fun hb => ?_) (fun hb => ?_)
    · simp -implicitDefEqProofs only [awp_seq, awp_reg, awp_ret, seqQ_n, seqQ_r, blk_r, rnd_r, end_r, WW_one, WW_nil, none_md, none_fz, frz_nil, ownOp, wc_app, wcont_s, upd_app, ev_tmp, x_move, x_assign, ↓reduceIte, Nat.reduceEqDiff, Option.getD_some, Bool.not_false]
      refine ⟨?_, trivial⟩
      rw [List.findIdx?_eq_some_iff_getElem.2 ⟨hc', hb, fun j hj => by
        rw [List.all_eq_true] at hin
        have := hin xs[j] (by rw [List.mem_take_iff_getElem]; exact ⟨j, by omega, rfl⟩)
        simpa using this⟩]
    · simp -implicitDefEqProofs only [awp_reg, awp_skip, seqQ_n, blk_n, rnd_n, WW_one, WW_nil, none_md, none_fz, frz_nil, ownOp, wc_app, wcont_s, upd_app, ev_tmp, ev_const, av_int, x_move, x_bin, holdsO_ofO, bin_add, ↓reduceIte, Nat.reduceEqDiff, Option.getD_some, Bool.not_false, enP, f8, wrap_succ (show k < 9223372036854775807 by omega)]
      refine ⟨n - 1, by omega, k + 1, by omega, f0, f1, f7, rfl, trivial, ?_⟩
      rw [List.take_succ_eq_append_getElem hc', List.all_append, hin]
      simp only [List.all_cons, List.all_nil, hb]; rfl
  · have hc' : ¬ k < xs.length := by simpa using hc
    simp -implicitDefEqProofs only [awp_seq, awp_reg, awp_ret, awp_exit, seqQ_n, seqQ_e, blk_e, rnd_e, end_r, WW_one, WW_nil, none_md, none_fz, frz_nil, ownOp, wc_app, wcont_s, upd_app, ev_const, av_int, x_assign, ↓reduceIte, Option.getD_some, Bool.not_false]
    refine ⟨?_, trivial⟩
    rw [List.take_of_length_le (by omega)] at hin
    rw [List.findIdx?_eq_none_iff.2 (by simpa using hin)]

theorem containsFunc26 (G : Nat → AV) (xs : List Is) (m : SM) (fid : FuncId) (caps : List AV) (p : Is → Bool) (h : Hp) (hl : xs.length ≤ 1099511627776)
    (hf : ∀ r, PCall (En G) fid (.sl r.m 1 (r.l.map encI) :: caps) h (.bool (p r))) :
    PCall (En G) 133 [.sl m 1 (xs.map encL), .fn (.func fid) [] caps] h (.bool (xs.any p)) := by
  refine acalls_of (H := Hint.none) (enM G) Tryz.func133 rfl (by kernel_rfl) (by kernel_rfl) (Nat.le_of_ble_eq_true (by kernel_rfl)) ?_
  show awp _ _ _ _ _ (endQ _ [.tmp 4] _)
  simp -implicitDefEqProofs only [awp_seq, awp_reg, seqQ_n, WW_one, WW_nil, none_md, none_fz, frz_nil, ownOp, wc_app, wcont_s, upd_app, ev_tmp, ev_const, ev_func, av_bool, x_move, x_assign, X1_call, callA_fn, frameOf_zero, frameOf_succ, List.map_cons, List.map_nil, List.append_nil, ↓reduceIte, Nat.reduceEqDiff, Option.getD_some, Bool.not_false, enP]
  refine (indexFunc26 G xs m fid caps p h hl hf).use ?_
  simp -implicitDefEqProofs only [awp_ret, seqQ_n, end_r, WW_one, WW_nil, none_md, none_fz, frz_nil, ownOp, wc_app, wcont_s, upd_app, ev_tmp, ev_const, av_int, x_assign, x_bin, holdsO_ofO, bin_geq, ↓reduceIte, Option.getD_some, Bool.not_false, enP]
  refine ⟨?_, trivial⟩
  cases hx : xs.findIdx? p with
  | some i =>
    obtain ⟨h1, h2, _⟩ := List.findIdx?_eq_some_iff_getElem.1 hx
    have : xs.any p = true := List.any_eq_true.2 ⟨xs[i], by simp, h2⟩
    simp [this]
  | none =>
    have : xs.any p = false := by
      rw [List.findIdx?_eq_none_iff] at hx
      rw [List.any_eq_false]; intro x hx2; simp [hx x hx2]
    simp [this]
theorem notInside_fn (G : Nat → AV) (ns : List Nat) (s : SM) (b : Nat) (r : Is) (h : Hp) (hb : h[b]? = some (.live 1 [[.sl s 1 (ns.map encN)]])) (hn : ns.length ≤ 1048576) :
    PCall (En G) 181 [.sl r.m 1 (r.l.map encI), .ptr b 0 0] h (.bool (!insT ns r.l)) := by
  refine acalls_of (H := Hint.none) (enM G) Tryz.func181 rfl (by kernel_rfl) (by kernel_rfl) (Nat.le_of_ble_eq_true (by kernel_rfl)) ?_
  show awp _ _ _ _ _ (endQ _ [.tmp 3] _)
  simp -implicitDefEqProofs only [awp_seq, awp_reg, seqQ_n, WW_one, WW_nil, none_md, none_fz, frz_nil, ownOp, wc_app, wcont_s, upd_app, ev_tmp, ev_const, ev_func, av_bool, x_move, x_assign, x_load, X1_call, callA_fn, holdsO_ofO, frameOf_zero, frameOf_succ, List.map_cons, List.map_nil, List.append_nil, ↓reduceIte, Nat.reduceEqDiff, Option.getD_some, Bool.not_false, enP, ld_cell ag57 hb]
  refine (inside_prog G ns r.l s r.m h hn).use ?_
  simp -implicitDefEqProofs only [awp_ret, seqQ_n, end_r, WW_one, WW_nil, none_md, none_fz, frz_nil, ownOp, wc_app, wcont_s, upd_app, ev_tmp, x_assign, x_un, holdsO_ofO, un_not, ↓reduceIte, Option.getD_some, Bool.not_false]
  exact ⟨trivial, trivial⟩
/-- points in order -/
def incT (n : Nat) : Option Int → List Int → Bool
  | _, [] => true
  | o, p :: ps => (decide (0 ≤ p) && decide (p < (n : Int)) && (match o with | some q => decide (q < p) | none => true)) && incT n (some p) ps
def prev (l : List Int) (k : Nat) : Option Int := match k with
  | 0 => none
  | k + 1 => l[k]?
theorem incT_step (n : Nat) (l : List Int) (k : Nat) (hk : k < l.length) : incT n (prev l k) (l.drop k) = ((decide (0 ≤ l[k]) && decide (l[k] < (n : Int)) && (match prev l k with | some q => decide (q < l[k]) | none => true)) && incT n (prev l (k + 1)) (l.drop (k + 1))) := by
  rw [List.drop_eq_getElem_cons hk]
  have : prev l (k + 1) = some l[k] := by unfold prev; exact List.getElem?_eq_getElem hk
  rw [this]; rfl
theorem incT_here {m : Mo} : ∀ {l : List Int} {o : Option Int}, incT m.pts.length o l = true → Here m l
  | [], _, _ => fun p hp => by cases hp
  | x :: l, o, h => by
    simp only [incT, Bool.and_eq_true, decide_eq_true_eq] at h
    intro p hp
    cases List.mem_cons.1 hp with
    | inl e => subst e; exact ⟨h.1.1.1, h.1.1.2⟩
    | inr e => exact incT_here h.2 p e
def crossE (m : Mo) (c : Cr) : Int :=
  if isName c.name = false then 7 else if c.pts.length < 2 ∨ 4 < c.pts.length then 1 else if incT m.pts.length none c.pts = false then 1 else
    if 256 < prodN (szs m c.pts) ∨ 256 < c.excl.length then 2 else if (c.excl.any fun x => !insT (szs m c.pts) x.l) then 1 else 0
structure CrOk (c : Cr) : Prop where
  name : c.name.size ≤ 1048576
  pts : c.pts.length ≤ 1048576
  excl : c.excl.length ≤ 1048576
  each : ∀ x ∈ c.excl, x.l.length ≤ 1048576
/-- points that have bins -/
def Full (m : Mo) : Prop := ∀ p ∈ m.pts, 1 ≤ p.bins.length ∧ p.bins.length ≤ 64
theorem Full.szs {m : Mo} {l : List Int} (hf : Full m) (hh : Here m l) : ∀ n ∈ szs m l, 1 ≤ n ∧ n ≤ 64 := by
  intro n hn
  obtain ⟨p, hp, rfl⟩ := List.mem_map.1 hn
  obtain ⟨h0, h1⟩ := hh p hp
  have hlt : p.toNat < m.pts.length := by omega
  have : binsAt m p = (m.pts[p.toNat]).bins := by unfold binsAt; rw [List.getElem?_eq_getElem hlt]
  rw [this]
  exact hf _ (List.getElem_mem hlt)
theorem al56 (h : Hp) : aAlloc Tryz.prog h 57 = some (.ptr h.length 0 0, h ++ [.live 1 [[.sl .nil 0 []]]]) := alloc_of (row := [.sl .nil 0 []]) (by kernel_rfl)
theorem ldM {h : Hp} {b : Nat} {m : Mo} (hb : h[b]? = some (.live 2 [encM m])) : aLoad Tryz.prog h 25 (.ptr b 0 0) = some (.agg (encM m)) := by
  rw [load_rowA ag25 sz25 hb rfl (by rw [encM_len]; exact Nat.le_refl 2)]; rfl
theorem ldC {h : Hp} {b : Nat} {c : Cr} (hb : h[b]? = some (.live 3 [encC c])) : aLoad Tryz.prog h 71 (.ptr b 0 0) = some (.agg (encC c)) := by
  rw [load_rowA ag71 sz71 hb rfl (by rw [encC_len]; exact Nat.le_refl 3)]; rfl
theorem cross_prog (G : Nat → AV) (hG : GOk G) (m : Mo) (c : Cr) (hc : CrOk c) (hf : Full m) (h : Hp) : PCall (En G) 130 [.agg (encM m), .agg (encC c)] h (.int .i64 (crossE m c)) := by
  refine ACalls.pure0 rfl ?_
  have hc1 := hc.name
  have hc2 := hc.pts
  have hc3 := hc.excl
  refine acalls_of (H := Hint.none) (enM G) Tryz.func130 rfl (by kernel_rfl) (by kernel_rfl) (Nat.le_of_ble_eq_true (by kernel_rfl)) ?_
  show awp _ _ _ _ _ (endQ _ [.tmp 4] _)
  have gm : (h ++ [ABlk.live 2 [encM m]] ++ [ABlk.live 3 [encC c]])[h.length]? = some (.live 2 [encM m]) := below_get (top_get _ _)
  have gc : (h ++ [ABlk.live 2 [encM m]] ++ [ABlk.live 3 [encC c]])[(h ++ [ABlk.live 2 [encM m]]).length]? = some (.live 3 [encC c]) := top_get _ _
  have hx : ∃ x, h ++ [ABlk.live 2 [encM m]] ++ [ABlk.live 3 [encC c]] = h ++ x := ⟨_, List.append_assoc _ _ _⟩
  have hlt : h.length < (h ++ [ABlk.live 2 [encM m]]).length := by simp
  simp -implicitDefEqProofs only [awp_seq, awp_reg, seqQ_n, WW_one, WW_nil, none_md, none_fz, frz_nil, ownOp, wc_app, wcont_s, upd_app, ev_tmp, ev_const, av_int, x_assign, x_box, x_load, x_fieldAddr, holdsO_some, holdsO_ofO, frameOf_zero, frameOf_succ, ↓reduceIte, Nat.reduceEqDiff, Nat.add_zero, Option.getD_some, Bool.not_false, enP, fa71_0, bxM, bxC]
  generalize h ++ [ABlk.live 2 [encM m]] ++ [ABlk.live 3 [encC c]] = H at gm gc hx ⊢
  generalize (h ++ [ABlk.live 2 [encM m]]).length = cb at gc hlt ⊢
  have lm : aLoad Tryz.prog H 22 (.ptr h.length 0 0) = some (.sl m.pm 6 (m.pts.map encP)) := by rw [load_row ag22 gm (row := encM m) rfl, encM0]
  have lc0 : aLoad Tryz.prog H 9 (.ptr cb 0 0) = some (.str c.name) := by rw [load_row ag9 gc (row := encC c) rfl, encC0]
  have lc1 : aLoad Tryz.prog H 57 (.ptr cb 0 1) = some (.sl c.pm 1 (c.pts.map encI)) := by rw [load_row ag57 gc (row := encC c) rfl, encC1]
  have lc2 : aLoad Tryz.prog H 26 (.ptr cb 0 2) = some (.sl c.xm 1 (c.excl.map encL)) := by rw [load_row ag26 gc (row := encC c) rfl, encC2]
  simp -implicitDefEqProofs only [WW_one, none_md, none_fz, frz_nil, ownOp, wc_app, wcont_s, upd_app, ev_tmp, ev_func, X1_call, callA_fn, holdsO_ofO, List.map_cons, List.map_nil, List.append_nil, ↓reduceIte, Option.getD_some, Bool.not_false, lc0]
  refine (isName_prog G hG.kw c.name _ (by omega)).use ?_
  simp -implicitDefEqProofs only [awp_cond, seqQ_n, WW_one, WW_nil, none_md, none_fz, frz_nil, ownOp, wc_app, wcont_s, upd_app, ev_tmp, x_un, holdsO_ofO, un_not, ↓reduceIte, Option.getD_some, Bool.not_false]
  cases h1 : isName c.name
  · simp -implicitDefEqProofs only [awp_seq, awp_reg, awp_ret, seqQ_n, seqQ_r, end_r, cond_t, WW_one, WW_nil, none_md, none_fz, frz_nil, ownOp, wc_app, wcont_s, upd_app, ev_const, av_int, x_assign, ↓reduceIte, Option.getD_some, Bool.not_false]
    exact ⟨by unfold crossE; rw [if_pos h1], hx⟩
  have h1' : ¬ isName c.name = false := by rw [h1]; decide
  simp -implicitDefEqProofs only [awp_seq, awp_reg, awp_skip, seqQ_n, cond_f, WW_one, WW_guardE, GX_some, gdstO, none_md, none_fz, frz_nil, ownOp, wc_app, wcont_s, upd_app, ev_tmp, ev_const, av_int, x_move, x_load, x_bin, x_fieldAddr, x_len, holdsO_ofO, bin_lss, ↓reduceIte, Nat.reduceEqDiff, Nat.zero_add, Option.getD_some, Bool.not_true, Bool.not_false, enP, ln57, fa71_1, lc1, List.length_map]
  refine G1_of (fun h2 => ?_) (fun h2 => ?_)
  · simp -implicitDefEqProofs only [awp_seq, awp_reg, awp_ret, awp_cond, seqQ_n, seqQ_r, end_r, cond_t, WW_one, WW_nil, WW_guardE, GX_some, gdstO, G1_ft, none_md, none_fz, frz_nil, ownOp, wc_app, wcont_s, upd_app, aput, ev_tmp, ev_const, av_int, av_bool, x_assign, x_pick, pick_t, ↓reduceIte, Nat.reduceEqDiff, Option.getD_some, Bool.not_false, h2]
    exact ⟨by unfold crossE; rw [if_neg h1', if_pos (.inl (by simp at h2; omega))], hx⟩
  simp -implicitDefEqProofs only [awp_cond, seqQ_n, WW_one, WW_nil, WW_guardE, GX_some, gdstO, G1_ff, none_md, none_fz, frz_nil, ownOp, wc_app, wcont_s, upd_app, ev_tmp, ev_const, av_int, av_bool, x_pick, pick_f, x_load, x_bin, x_fieldAddr, x_len, holdsO_ofO, bin_gtr, ↓reduceIte, Nat.reduceEqDiff, Nat.zero_add, Option.getD_some, Bool.not_false, enP, ln57, fa71_1, h2, lc1, List.length_map]
  refine cond_of (fun h3 => ?_) (fun h3 => ?_)
  · simp -implicitDefEqProofs only [awp_seq, awp_reg, awp_ret, seqQ_n, seqQ_r, end_r, WW_one, WW_nil, none_md, none_fz, frz_nil, ownOp, wc_app, wcont_s, upd_app, ev_const, av_int, x_assign, ↓reduceIte, Option.getD_some, Bool.not_false]
    exact ⟨by unfold crossE; rw [if_neg h1', if_pos (.inr (by simp at h3; omega))], hx⟩
  have h23 : ¬ (c.pts.length < 2 ∨ 4 < c.pts.length) := by simp at h2 h3; omega
  simp -implicitDefEqProofs only [awp_seq, awp_block, awp_reg, awp_skip, seqQ_n, WW_one, WW_nil, none_md, none_fz, frz_nil, ownOp, wc_app, wcont_s, upd_app, ev_tmp, ev_const, av_int, x_move, x_load, x_fieldAddr, x_len, holdsO_ofO, ↓reduceIte, Nat.reduceEqDiff, Nat.zero_add, Option.getD_some, Bool.not_false, enP, ln57, fa71_1, lc1, List.length_map]
  refine awp_lp 0 (fun F H' => F 2 = .ptr h.length 0 0 ∧ F 3 = .ptr cb 0 0 ∧ H' = H ∧ incT m.pts.length none c.pts = true) (fun F H' => F 4 = .int .i64 1 ∧ H' = H ∧ incT m.pts.length none c.pts = false) ?_ ?_ ?_
  · refine awp_loop (fun n F H' => ∃ k, n + k = c.pts.length ∧ F 2 = .ptr h.length 0 0 ∧ F 3 = .ptr cb 0 0 ∧ F 23 = .sl c.pm 1 (c.pts.map encI) ∧ F 24 = .int .i64 c.pts.length ∧ F 25 = .int .i64 (k : Nat) ∧ H' = H ∧ incT m.pts.length none c.pts = incT m.pts.length (prev c.pts k) (c.pts.drop k)) c.pts.length ⟨0, by simp, by simp -implicitDefEqProofs only [upd_app, ↓reduceIte, Nat.reduceEqDiff], by simp -implicitDefEqProofs only [upd_app, ↓reduceIte, Nat.reduceEqDiff], by simp -implicitDefEqProofs only [upd_app, ↓reduceIte, Nat.reduceEqDiff], by simp -implicitDefEqProofs only [upd_app, ↓reduceIte, Nat.reduceEqDiff], by simp -implicitDefEqProofs only [upd_app, ↓reduceIte]; rfl, rfl, rfl⟩ ?_
    rintro n F H' ⟨k, hk, f2, f3, f23, f24, f25, rfl, hi⟩
    simp -implicitDefEqProofs only [awp_seq, awp_reg, awp_cond, seqQ_n, WW_one, WW_nil, none_md, none_fz, frz_nil, ownOp, wc_app, wcont_s, upd_app, ev_tmp, x_bin, holdsO_ofO, bin_lss, ↓reduceIte, Option.getD_some, Bool.not_false, enP, f24, f25]
    refine cond_of (fun hlt => ?_) (fun hlt => ?_)
    · have hk' : k < c.pts.length := by simpa using hlt
      rw [incT_step _ _ _ hk'] at hi
      simp -implicitDefEqProofs only [awp_seq, awp_block, awp_reg, awp_skip, seqQ_n, WW_one, WW_nil, WW_guardE, GX_some, gdstO, none_md, none_fz, frz_nil, ownOp, wc_app, wcont_s, upd_app, ev_tmp, ev_const, av_int, x_move, x_assign, x_load, x_bin, x_indexAddr, holdsO_ofO, bin_lss, ↓reduceIte, Nat.reduceEqDiff, Option.getD_some, Bool.not_false, enP, ix57, f2, f3, f23, f25, ix_map hk', load_map ag3 hk', encI0]
      refine G1_of (fun ha => ?_) (fun ha => ?_)
      · simp -implicitDefEqProofs only [awp_seq, awp_reg, awp_ret, awp_cond, seqQ_n, seqQ_r, blk_r, lp_r, rnd_r, cond_t, WW_one, WW_nil, WW_guardE, GX_some, gdstO, G1_ft, G1_u, none_md, none_fz, frz_nil, ownOp, wc_app, wcont_s, upd_app, aput, ev_tmp, ev_const, av_int, av_bool, x_move, x_assign, x_pick, pick_t, ↓reduceIte, Nat.reduceEqDiff, Option.getD_some, Bool.not_false, ha]
        have : decide (0 ≤ c.pts[k]) = false := by simp at ha ⊢; omega
        exact ⟨trivial, trivial, by rw [hi, this]; rfl⟩
      have ha' : decide (0 ≤ c.pts[k]) = true := by simp at ha ⊢; omega
      simp -implicitDefEqProofs only [WW_one, WW_guardE, GX_some, gdstO, G1_ff, none_md, none_fz, frz_nil, ownOp, wc_app, wcont_s, upd_app, ev_tmp, ev_const, av_bool, x_move, x_pick, pick_f, x_load, x_bin, x_fieldAddr, x_len, holdsO_ofO, bin_geq, ↓reduceIte, Nat.reduceEqDiff, Nat.add_zero, Option.getD_some, Bool.not_false, enP, ln22, fa25_0, ha, f2, lm, List.length_map]
      refine G1_of (fun hb => ?_) (fun hb => ?_)
      · simp -implicitDefEqProofs only [awp_seq, awp_reg, awp_ret, awp_cond, seqQ_n, seqQ_r, blk_r, lp_r, rnd_r, cond_t, WW_one, WW_nil, WW_guardE, GX_some, gdstO, G1_ft, G1_u, none_md, none_fz, frz_nil, ownOp, wc_app, wcont_s, upd_app, aput, ev_tmp, ev_const, av_int, av_bool, x_assign, x_pick, pick_t, ↓reduceIte, Nat.reduceEqDiff, Option.getD_some, Bool.not_false, hb]
        have : decide (c.pts[k] < (m.pts.length : Int)) = false := by simp at hb ⊢; omega
        exact ⟨trivial, trivial, by rw [hi, this, ha']; rfl⟩
      have hb' : decide (c.pts[k] < (m.pts.length : Int)) = true := by simp at hb ⊢; omega
      rw [ha', hb'] at hi
      simp only [Bool.true_and] at hi
      cases k with
      | zero =>
        have hz : decide ((((0 : Nat) : Int)) > 0) = false := by decide
        simp -implicitDefEqProofs only [awp_reg, awp_skip, awp_cond, seqQ_n, blk_n, rnd_n, cond_f, WW_one, WW_nil, WW_guardE, GX_some, gdstO, G1_ff, G1_tf, none_md, none_fz, frz_nil, ownOp, wc_app, wcont_s, upd_app, aput, ev_tmp, ev_const, av_int, av_bool, x_move, x_pick, pick_f, x_bin, holdsO_ofO, bin_add, bin_gtr, ↓reduceIte, Nat.reduceEqDiff, Nat.zero_add, Option.getD_some, Bool.not_false, enP, hb, hz, f25, wrap_succ (show 0 < 9223372036854775807 by omega)]
        exact ⟨n - 1, by omega, 1, by omega, f2, f3, f23, f24, rfl, trivial, by rw [hi]; rfl⟩
      | succ k =>
        have hz : decide ((((k + 1 : Nat) : Int)) > 0) = true := by simp
        have hw : IntKind.i64.wrap (((k + 1 : Nat) : Int) - 1) = (k : Int) := by rw [wrap_i64 (by omega) (by omega)]; omega
        have hk2 : k < c.pts.length := by omega
        have hpv : prev c.pts (k + 1) = some c.pts[k] := by unfold prev; exact List.getElem?_eq_getElem hk2
        rw [hpv] at hi
        simp -implicitDefEqProofs only [awp_cond, seqQ_n, WW_one, WW_nil, WW_guardE, GX_some, gdstO, G1_tt, G1_ff, none_md, none_fz, frz_nil, ownOp, wc_app, wcont_s, upd_app, ev_tmp, ev_const, av_int, av_bool, x_move, x_pick, pick_t, pick_f, x_load, x_bin, x_fieldAddr, x_indexAddr, holdsO_ofO, bin_sub, bin_leq, bin_gtr, ↓reduceIte, Nat.reduceEqDiff, Nat.zero_add, Option.getD_some, Bool.not_false, enP, ix57, fa71_1, hb, hz, f3, lc1, hw, ix_map hk2, load_map ag3 hk2, encI0]
        refine cond_of (fun hd => ?_) (fun hd => ?_)
        · simp -implicitDefEqProofs only [awp_seq, awp_reg, awp_ret, seqQ_n, seqQ_r, blk_r, lp_r, rnd_r, WW_one, WW_nil, none_md, none_fz, frz_nil, ownOp, wc_app, wcont_s, upd_app, ev_const, av_int, x_assign, ↓reduceIte, Option.getD_some, Bool.not_false]
          have : decide (c.pts[k] < c.pts[k + 1]) = false := by simp at hd ⊢; omega
          exact ⟨trivial, trivial, by rw [hi]; simp only [this]; rfl⟩
        · simp -implicitDefEqProofs only [awp_reg, awp_skip, seqQ_n, blk_n, rnd_n, WW_one, WW_nil, none_md, none_fz, frz_nil, ownOp, wc_app, wcont_s, upd_app, ev_tmp, ev_const, av_int, x_move, x_bin, holdsO_ofO, bin_add, ↓reduceIte, Nat.reduceEqDiff, Option.getD_some, Bool.not_false, enP, f25, wrap_succ (show k + 1 < 9223372036854775807 by omega)]
          have : decide (c.pts[k] < c.pts[k + 1]) = true := by simp at hd ⊢; omega
          exact ⟨n - 1, by omega, k + 1 + 1, by omega, f2, f3, f23, f24, rfl, trivial, by rw [hi]; simp only [this]; rfl⟩
    · have hk' : ¬ k < c.pts.length := by simpa using hlt
      simp -implicitDefEqProofs only [awp_exit, seqQ_e, lp_e, rnd_e, upd_app, ↓reduceIte, Nat.reduceEqDiff]
      exact ⟨f2, f3, trivial, by rw [hi, List.drop_eq_nil_of_le (by omega)]; rfl⟩
  · rintro F H' ⟨f2, f3, rfl, hi⟩
    have hh := incT_here hi
    have hi' : ¬ incT m.pts.length none c.pts = false := by rw [hi]; decide
    simp -implicitDefEqProofs only [awp_seq, awp_reg, seqQ_n, blk_e, WW_one, none_md, none_fz, frz_nil, ownOp, wc_app, wcont_s, upd_app, ev_tmp, ev_func, x_load, X1_call, callA_fn, holdsO_ofO, List.map_cons, List.map_nil, List.append_nil, ↓reduceIte, Nat.reduceEqDiff, Option.getD_some, Bool.not_false, enP, f2, f3, ldM gm, ldC gc]
    refine (sizes_prog G m c _ hh (by omega)).use ?_
    have hsz : (szs m c.pts).length ≤ 4 := by unfold szs; simp; omega
    have hst := st_cell (t := 57) (v := .sl .nil 0 []) (u := .sl (nm (szs m c.pts)) 1 ((szs m c.pts).map encN)) sz57 (ac_sl _ _ _) (top_get H' (.live 1 [[.sl .nil 0 []]]))
    rw [top_set] at hst
    simp -implicitDefEqProofs only [awp_seq, awp_block, awp_reg, seqQ_n, WW_one, WW_nil, none_md, none_fz, frz_nil, ownOp, wc_app, wcont_s, wcont_n, upd_app, ev_tmp, ev_func, x_alloc, x_load, x_store, X1_call, callA_fn, holdsO_some, holdsO_ofO, holdsO_ofS, List.map_cons, List.map_nil, List.append_nil, ↓reduceIte, Nat.reduceEqDiff, Option.getD_some, Bool.not_false, enP, Option.getD_none, al56, hst, ld_cell ag57 (top_get H' _)]
    refine (product_prog G _ _ _ (fun n hn => (hf.szs hh n hn).2) hsz).use ?_
    have hx2 : ∃ x, H' ++ [ABlk.live 1 [[AV.sl (nm (szs m c.pts)) 1 ((szs m c.pts).map encN)]]] = h ++ x := by
      obtain ⟨x, hx⟩ := hx
      exact ⟨x ++ _, by rw [hx, List.append_assoc]⟩
    have lc2' : ∀ x, aLoad Tryz.prog (H' ++ [x]) 26 (.ptr cb 0 2) = some (.sl c.xm 1 (c.excl.map encL)) := fun x => by rw [load_row ag26 (below_get gc) (row := encC c) rfl, encC2]
    simp -implicitDefEqProofs only [WW_one, WW_guardE, GX_some, gdstO, none_md, none_fz, frz_nil, ownOp, wc_app, wcont_s, upd_app, ev_tmp, ev_const, av_int, x_move, x_bin, holdsO_ofO, bin_gtr, ↓reduceIte, Option.getD_some, Bool.not_false, enP]
    refine G1_of (fun ha => ?_) (fun ha => ?_)
    · simp -implicitDefEqProofs only [awp_seq, awp_reg, awp_ret, awp_cond, seqQ_n, seqQ_r, blk_r, end_r, cond_t, WW_one, WW_nil, WW_guardE, GX_some, gdstO, G1_ft, none_md, none_fz, frz_nil, ownOp, wc_app, wcont_s, upd_app, aput, ev_tmp, ev_const, av_int, av_bool, x_assign, x_pick, pick_t, ↓reduceIte, Nat.reduceEqDiff, Option.getD_some, Bool.not_false, ha]
      exact ⟨by unfold crossE; rw [if_neg h1', if_neg h23, if_neg hi', if_pos (.inl (by simp at ha; omega))], hx2⟩
    simp -implicitDefEqProofs only [awp_cond, seqQ_n, WW_one, WW_nil, WW_guardE, GX_some, gdstO, G1_ff, none_md, none_fz, frz_nil, ownOp, wc_app, wcont_s, upd_app, ev_tmp, ev_const, av_int, av_bool, x_assign, x_pick, pick_f, x_load, x_bin, x_fieldAddr, x_len, holdsO_ofO, bin_gtr, ↓reduceIte, Nat.reduceEqDiff, Nat.zero_add, Option.getD_some, Bool.not_false, enP, ln26, fa71_2, ha, f3, lc2', List.length_map]
    refine cond_of (fun hb => ?_) (fun hb => ?_)
    · simp -implicitDefEqProofs only [awp_seq, awp_reg, awp_ret, seqQ_n, seqQ_r, blk_r, end_r, WW_one, WW_nil, none_md, none_fz, frz_nil, ownOp, wc_app, wcont_s, upd_app, ev_const, av_int, x_assign, ↓reduceIte, Option.getD_some, Bool.not_false]
      exact ⟨by unfold crossE; rw [if_neg h1', if_neg h23, if_neg hi', if_pos (.inr (by simp at hb; omega))], hx2⟩
    have hab : ¬ (256 < prodN (szs m c.pts) ∨ 256 < c.excl.length) := by simp at ha hb; omega
    simp -implicitDefEqProofs only [awp_seq, awp_reg, WW_one, none_md, none_fz, frz_nil, ownOp, wc_app, wcont_s, upd_app, ev_tmp, ev_func, x_load, x_makeFunc, x_fieldAddr, X1_call, callA_fn, holdsO_ofO, List.map_cons, List.map_nil, List.append_nil, ↓reduceIte, Nat.reduceEqDiff, Nat.zero_add, Option.getD_some, Bool.not_false, enP, fa71_2, f3, lc2']
    refine (containsFunc26 G c.excl c.xm 181 _ (fun x => !insT (szs m c.pts) x.l) _ (by omega) fun r => notInside_fn G _ _ _ r _ (top_get H' _) (by omega)).use ?_
    simp -implicitDefEqProofs only [awp_cond, seqQ_n, WW_one, WW_nil, none_md, none_fz, frz_nil, ownOp, wc_app, wcont_s, upd_app, ev_tmp, x_assign, ↓reduceIte, Option.getD_some, Bool.not_false]
    cases he : c.excl.any fun x => !insT (szs m c.pts) x.l
    · simp -implicitDefEqProofs only [awp_seq, awp_reg, awp_skip, awp_ret, seqQ_n, blk_n, end_r, cond_f, WW_one, WW_nil, none_md, none_fz, frz_nil, ownOp, wc_app, wcont_s, upd_app, ev_const, av_int, x_assign, ↓reduceIte, Option.getD_some, Bool.not_false]
      exact ⟨by unfold crossE; rw [if_neg h1', if_neg h23, if_neg hi', if_neg hab, he]; rfl, hx2⟩
    · simp -implicitDefEqProofs only [awp_seq, awp_reg, awp_ret, seqQ_n, seqQ_r, blk_r, end_r, cond_t, WW_one, WW_nil, none_md, none_fz, frz_nil, ownOp, wc_app, wcont_s, upd_app, ev_const, av_int, x_assign, ↓reduceIte, Option.getD_some, Bool.not_false]
      exact ⟨by unfold crossE; rw [if_neg h1', if_neg h23, if_neg hi', if_neg hab, he]; rfl, hx2⟩
  · rintro F H' ⟨f4, rfl, hi⟩
    simp -implicitDefEqProofs only [seqQ_r, blk_r, end_r, f4]
    exact ⟨by unfold crossE; rw [if_neg h1', if_neg h23, if_pos hi], hx⟩
end Go.Proofs.YtocilianjfhifaaGreatDoor.Cov
/- The error of a cross: the reference; no condition but the bounds on lengths. -/
set_option linter.unusedSimpArgs false
set_option maxRecDepth 8000
namespace Go.Proofs.YtocilianjfhifaaGreatDoor.Cov
open Go Go.Proofs Go.Proofs.YtocilianjfhifaaGreatDoor.Sm Go.Proofs.YtocilianjfhifaaGreatDoor.Bins Go.RowKit

theorem szs_get (m : Mo) (l : List Int) (k : Nat) (hk : k < l.length) : (szs m l)[k]? = some (binsAt m l[k]).length := by
  unfold szs; rw [List.getElem?_map, List.getElem?_eq_getElem hk]; rfl
theorem szs_len (m : Mo) (l : List Int) : (szs m l).length = l.length := by unfold szs; simp
/-- a model and a cross in two blocks -/
structure Two (h H : Hp) (m : Mo) (c : Cr) (cb : Nat) : Prop where
  gm : H[h.length]? = some (.live 2 [encM m])
  gc : H[cb]? = some (.live 3 [encC c])
  hx : ∃ x, H = h ++ x
theorem Two.lm {h H : Hp} {m : Mo} {c : Cr} {cb : Nat} (t : Two h H m c cb) : aLoad Tryz.prog H 22 (.ptr h.length 0 0) = some (.sl m.pm 6 (m.pts.map encP)) := by rw [load_row ag22 t.gm (row := encM m) rfl, encM0]
theorem Two.l0 {h H : Hp} {m : Mo} {c : Cr} {cb : Nat} (t : Two h H m c cb) : aLoad Tryz.prog H 9 (.ptr cb 0 0) = some (.str c.name) := by rw [load_row ag9 t.gc (row := encC c) rfl, encC0]
theorem Two.l1 {h H : Hp} {m : Mo} {c : Cr} {cb : Nat} (t : Two h H m c cb) : aLoad Tryz.prog H 57 (.ptr cb 0 1) = some (.sl c.pm 1 (c.pts.map encI)) := by rw [load_row ag57 t.gc (row := encC c) rfl, encC1]
theorem Two.l2 {h H : Hp} {m : Mo} {c : Cr} {cb : Nat} (t : Two h H m c cb) : aLoad Tryz.prog H 26 (.ptr cb 0 2) = some (.sl c.xm 1 (c.excl.map encL)) := by rw [load_row ag26 t.gc (row := encC c) rfl, encC2]
theorem Two.mk' (h : Hp) (m : Mo) (c : Cr) : Two h (h ++ [.live 2 [encM m]] ++ [.live 3 [encC c]]) m c (h ++ [ABlk.live 2 [encM m]]).length := ⟨below_get (top_get _ _), top_get _ _, ⟨_, List.append_assoc _ _ _⟩⟩
theorem csize_ref (G : Nat → AV) (m : Mo) (c : Cr) (h : Hp) (hh : Here m c.pts) (hf : Full m) (hl : c.pts.length ≤ 1048576) : PCall (En G) 89 [.agg (encM m), .agg (encC c)] h (.int .i64 (min (prodN (szs m c.pts)) 1000)) := by
  refine ACalls.pure0 rfl ?_
  refine acalls_of (H := Hint.none) (enM G) Tryz.func89 rfl (by kernel_rfl) (by kernel_rfl) (Nat.le_of_ble_eq_true (by kernel_rfl)) ?_
  show awp _ _ _ _ _ (endQ _ [.tmp 4] _)
  have t := Two.mk' h m c
  simp -implicitDefEqProofs only [awp_seq, awp_block, awp_reg, seqQ_n, WW_one, WW_nil, none_md, none_fz, frz_nil, ownOp, wc_app, wcont_s, upd_app, ev_tmp, ev_const, av_int, x_assign, x_box, holdsO_some, frameOf_zero, frameOf_succ, ↓reduceIte, Nat.reduceEqDiff, Option.getD_some, Bool.not_false, enP, bxM, bxC]
  generalize h ++ [ABlk.live 2 [encM m]] ++ [ABlk.live 3 [encC c]] = H at t ⊢
  generalize (h ++ [ABlk.live 2 [encM m]]).length = cb at t ⊢
  have hs := hf.szs hh
  refine awp_lp 0 (fun F H' => (F 5 = .int .i64 (prodN (szs m c.pts) : Nat) ∨ ∃ n : Nat, 1000 ≤ n ∧ n ≤ prodN (szs m c.pts) ∧ F 5 = .int .i64 n) ∧ H' = H) (fun _ _ => False) ?_ ?_ (fun _ _ hh => hh.elim)
  · refine awp_loop (fun n F H' => ∃ k, n + k = c.pts.length ∧ F 2 = .ptr h.length 0 0 ∧ F 3 = .ptr cb 0 0 ∧ F 5 = .int .i64 (prodN ((szs m c.pts).take k) : Nat) ∧ F 6 = .int .i64 (k : Nat) ∧ H' = H) c.pts.length ⟨0, by simp, by simp -implicitDefEqProofs only [upd_app, ↓reduceIte, Nat.reduceEqDiff], by simp -implicitDefEqProofs only [upd_app, ↓reduceIte, Nat.reduceEqDiff], by simp -implicitDefEqProofs only [upd_app, ↓reduceIte, Nat.reduceEqDiff]; rfl, by simp -implicitDefEqProofs only [upd_app, ↓reduceIte]; rfl, rfl⟩ ?_
    rintro n F H' ⟨k, hk, f2, f3, f5, f6, rfl⟩
    simp -implicitDefEqProofs only [awp_seq, awp_reg, WW_one, WW_guardE, GX_some, gdstO, none_md, none_fz, frz_nil, ownOp, wc_app, wcont_s, upd_app, ev_tmp, x_move, x_load, x_bin, x_fieldAddr, x_len, holdsO_ofO, bin_lss, ↓reduceIte, Nat.reduceEqDiff, Nat.zero_add, Option.getD_some, Bool.not_false, enP, ln57, fa71_1, f3, f6, t.l1, List.length_map]
    refine G1_of (fun ha => ?_) (fun ha => ?_)
    · have hk' : k < c.pts.length := by simpa using ha
      simp -implicitDefEqProofs only [awp_cond, seqQ_n, WW_one, WW_nil, WW_guardE, GX_some, gdstO, G1_tt, none_md, none_fz, frz_nil, ownOp, wc_app, wcont_s, upd_app, ev_tmp, ev_const, av_int, av_bool, x_move, x_pick, pick_t, x_bin, holdsO_ofO, bin_lss, ↓reduceIte, Nat.reduceEqDiff, Option.getD_some, Bool.not_false, enP, ha, f5]
      refine cond_of (fun hb => ?_) (fun hb => ?_)
      · have hb' : prodN ((szs m c.pts).take k) < 1000 := by simp at hb; omega
        obtain ⟨s, ls⟩ := hh.ld hk' H'
        have hks : k < (szs m c.pts).length := by rw [szs_len]; exact hk'
        have hgt : (szs m c.pts)[k] = (binsAt m c.pts[k]).length := getElem_some (szs_get m c.pts k hk')
        have h64 := (hs _ (List.getElem_mem hks)).2
        rw [hgt] at h64
        have hpt := prodN_take (szs m c.pts) k hks
        rw [hgt] at hpt
        have hmul : prodN ((szs m c.pts).take k) * (binsAt m c.pts[k]).length ≤ 1000 * 64 := Nat.mul_le_mul (by omega) h64
        have hw : IntKind.i64.wrap ((prodN ((szs m c.pts).take k) : Int) * ((binsAt m c.pts[k]).length : Int)) = ((prodN ((szs m c.pts).take (k + 1)) : Nat) : Int) := by
          rw [hpt, ← Int.natCast_mul, wrap_nat (by omega)]
        simp -implicitDefEqProofs only [awp_seq, awp_block, awp_skip, seqQ_n]
        refine awp_draw (by kernel_rfl) ?_
        simp -implicitDefEqProofs only [YO_f, dc_app, dcont_s, DD_nil, DD_one, y_move, y_assign, y_load, y_bin, y_fieldAddr, y_indexAddr, y_builtin, awp_reg, seqQ_n, blk_n, rnd_n, WW_one, WW_nil, none_md, none_fz, frz_nil, ownOp, wc_app, wcont_s, upd_app, ev_tmp, ev_const, av_int, x_move, x_assign, x_load, x_bin, x_fieldAddr, x_indexAddr, x_len, holdsO_ofO, bin_add, bin_mul, ↓reduceIte, Nat.reduceEqDiff, Nat.reduceAdd, Nat.add_zero, Nat.zero_add, Option.getD_some, Bool.not_false, enP, ix22, fa25_0, ln54, fa56_2, ix57, fa71_1, f2, f3, f5, f6, t.lm, t.l1, ix_map hk', load_map ag3 hk', encI0, hh.ix hk', ls, List.length_map, hw, wrap_succ (show k < 9223372036854775807 by omega)]
        exact ⟨n - 1, by omega, k + 1, by omega, trivial, trivial, rfl, rfl, trivial⟩
      · simp -implicitDefEqProofs only [awp_exit, seqQ_e, lp_e, rnd_e, upd_app, ↓reduceIte, Nat.reduceEqDiff]
        exact ⟨.inr ⟨_, by simp at hb; omega, prodN_mono _ _ (fun n hn => (hs n hn).1), f5⟩, trivial⟩
    · have hk' : ¬ k < c.pts.length := by simpa using ha
      simp -implicitDefEqProofs only [awp_exit, awp_cond, seqQ_n, seqQ_e, lp_e, rnd_e, cond_f, WW_one, WW_nil, WW_guardE, GX_some, gdstO, G1_tf, none_md, none_fz, frz_nil, ownOp, wc_app, wcont_s, upd_app, aput, ev_tmp, ev_const, av_bool, x_pick, pick_f, ↓reduceIte, Nat.reduceEqDiff, Option.getD_some, Bool.not_false, ha]
      refine ⟨.inl ?_, trivial⟩
      rw [List.take_of_length_le (by rw [szs_len]; omega)] at f5
      exact f5
  · rintro F H' ⟨f5, rfl⟩
    rcases f5 with f5 | ⟨n, h1, h2, f5⟩
    · simp -implicitDefEqProofs only [awp_seq, awp_reg, awp_ret, seqQ_n, blk_e, end_r, WW_one, WW_nil, none_md, none_fz, frz_nil, ownOp, wc_app, wcont_s, upd_app, ev_tmp, ev_const, av_int, x_move, x_assign, x_min, holdsO_ofO, min_ii, ↓reduceIte, Option.getD_some, Bool.not_false, f5]
      exact ⟨trivial, t.hx⟩
    · simp -implicitDefEqProofs only [awp_seq, awp_reg, awp_ret, seqQ_n, blk_e, end_r, WW_one, WW_nil, none_md, none_fz, frz_nil, ownOp, wc_app, wcont_s, upd_app, ev_tmp, ev_const, av_int, x_move, x_assign, x_min, holdsO_ofO, min_ii, ↓reduceIte, Option.getD_some, Bool.not_false, f5]
      exact ⟨by congr 1; omega, t.hx⟩
/-- as many points as a cross has, and where they are -/
def placed (m : Mo) (c : Cr) : Bool := decide (2 ≤ c.pts.length) && decide (c.pts.length ≤ 4) && incT m.pts.length none c.pts
theorem placed_ref (G : Nat → AV) (m : Mo) (c : Cr) (h : Hp) (hl : c.pts.length ≤ 1048576) : PCall (En G) 171 [.agg (encM m), .agg (encC c)] h (.bool (placed m c)) := by
  refine ACalls.pure0 rfl ?_
  refine acalls_of (H := Hint.none) (enM G) Tryz.func171 rfl (by kernel_rfl) (by kernel_rfl) (Nat.le_of_ble_eq_true (by kernel_rfl)) ?_
  show awp _ _ _ _ _ (endQ _ [.tmp 4] _)
  have t := Two.mk' h m c
  simp -implicitDefEqProofs only [awp_seq, awp_reg, seqQ_n, WW_one, WW_nil, none_md, none_fz, frz_nil, ownOp, wc_app, wcont_s, upd_app, ev_tmp, ev_const, av_bool, x_assign, x_box, x_load, x_fieldAddr, holdsO_some, holdsO_ofO, frameOf_zero, frameOf_succ, ↓reduceIte, Nat.reduceEqDiff, Nat.zero_add, Option.getD_some, Bool.not_false, enP, fa71_1, bxM, bxC]
  generalize h ++ [ABlk.live 2 [encM m]] ++ [ABlk.live 3 [encC c]] = H at t ⊢
  generalize (h ++ [ABlk.live 2 [encM m]]).length = cb at t ⊢
  simp -implicitDefEqProofs only [WW_one, WW_guardE, GX_some, gdstO, none_md, none_fz, frz_nil, ownOp, wc_app, wcont_s, upd_app, ev_tmp, ev_const, av_int, x_move, x_bin, x_len, holdsO_ofO, bin_lss, ↓reduceIte, Option.getD_some, Bool.not_false, enP, ln57, t.l1, List.length_map]
  refine G1_of (fun h2 => ?_) (fun h2 => ?_)
  · simp -implicitDefEqProofs only [awp_seq, awp_reg, awp_ret, awp_cond, seqQ_n, seqQ_r, end_r, cond_t, WW_one, WW_nil, WW_guardE, GX_some, gdstO, G1_ft, none_md, none_fz, frz_nil, ownOp, wc_app, wcont_s, upd_app, aput, ev_tmp, ev_const, av_bool, x_assign, x_pick, pick_t, ↓reduceIte, Nat.reduceEqDiff, Option.getD_some, Bool.not_false, h2]
    have : decide (2 ≤ c.pts.length) = false := by simp at h2 ⊢; omega
    exact ⟨by unfold placed; rw [this]; rfl, t.hx⟩
  have d2 : decide (2 ≤ c.pts.length) = true := by simp at h2 ⊢; omega
  simp -implicitDefEqProofs only [awp_cond, seqQ_n, WW_one, WW_nil, WW_guardE, GX_some, gdstO, G1_ff, none_md, none_fz, frz_nil, ownOp, wc_app, wcont_s, upd_app, ev_tmp, ev_const, av_int, av_bool, x_pick, pick_f, x_load, x_bin, x_fieldAddr, x_len, holdsO_ofO, bin_gtr, ↓reduceIte, Nat.reduceEqDiff, Nat.zero_add, Option.getD_some, Bool.not_false, enP, ln57, fa71_1, h2, t.l1, List.length_map]
  refine cond_of (fun h3 => ?_) (fun h3 => ?_)
  · simp -implicitDefEqProofs only [awp_seq, awp_reg, awp_ret, seqQ_n, seqQ_r, end_r, WW_one, WW_nil, none_md, none_fz, frz_nil, ownOp, wc_app, wcont_s, upd_app, ev_const, av_bool, x_assign, ↓reduceIte, Option.getD_some, Bool.not_false]
    have : decide (c.pts.length ≤ 4) = false := by simp at h3 ⊢; omega
    exact ⟨by unfold placed; rw [this]; simp, t.hx⟩
  have d3 : decide (c.pts.length ≤ 4) = true := by simp at h3 ⊢; omega
  have hpl : placed m c = incT m.pts.length none c.pts := by unfold placed; rw [d2, d3]; rfl
  rw [hpl]
  simp -implicitDefEqProofs only [awp_seq, awp_block, awp_reg, awp_skip, seqQ_n, WW_one, WW_nil, none_md, none_fz, frz_nil, ownOp, wc_app, wcont_s, ev_const, av_int, x_assign, Option.getD_some, Bool.not_false]
  refine awp_loop (fun n F H' => ∃ k, n + k = c.pts.length ∧ F 2 = .ptr h.length 0 0 ∧ F 3 = .ptr cb 0 0 ∧ F 5 = .int .i64 (k : Nat) ∧ H' = H ∧ incT m.pts.length none c.pts = incT m.pts.length (prev c.pts k) (c.pts.drop k)) c.pts.length ⟨0, by simp, by simp -implicitDefEqProofs only [upd_app, ↓reduceIte, Nat.reduceEqDiff], by simp -implicitDefEqProofs only [upd_app, ↓reduceIte, Nat.reduceEqDiff], by simp -implicitDefEqProofs only [upd_app, ↓reduceIte]; rfl, rfl, rfl⟩ ?_
  rintro n F H' ⟨k, hk, f2, f3, f5, rfl, hi⟩
  simp -implicitDefEqProofs only [awp_seq, awp_reg, awp_cond, seqQ_n, WW_one, WW_nil, none_md, none_fz, frz_nil, ownOp, wc_app, wcont_s, upd_app, ev_tmp, x_move, x_load, x_bin, x_fieldAddr, x_len, holdsO_ofO, bin_lss, ↓reduceIte, Nat.reduceEqDiff, Nat.zero_add, Option.getD_some, Bool.not_false, enP, ln57, fa71_1, f3, f5, t.l1, List.length_map]
  refine cond_of (fun hlt => ?_) (fun hlt => ?_)
  · have hk' : k < c.pts.length := by simpa using hlt
    rw [incT_step _ _ _ hk'] at hi
    simp -implicitDefEqProofs only [awp_seq, awp_block, awp_skip, seqQ_n]
    refine awp_draw (by kernel_rfl) ?_
    simp -implicitDefEqProofs only [YO_f, dc_app, dcont_s, DD_one, DD_guardE, GY_some, y_move, y_load, y_bin, y_fieldAddr, y_indexAddr, gdstO, none_md, upd_app, ev_tmp, ev_const, av_int, x_load, x_bin, x_fieldAddr, x_indexAddr, holdsO_ofO, bin_lss, ↓reduceIte, Nat.reduceEqDiff, Nat.reduceAdd, Nat.zero_add, Option.getD_some, enP, ix57, fa71_1, f2, f3, f5, t.l1, ix_map hk', load_map ag3 hk', encI0]
    refine GD_of (fun ha => ?_) (fun ha => ?_)
    · simp -implicitDefEqProofs only [YO_f, dc_app, dcont_s, DD_nil, DD_one, DD_guardE, GY_some, GD_ft, GD_u, y_move, y_pick, awp_seq, awp_reg, awp_ret, awp_cond, seqQ_n, seqQ_r, blk_r, rnd_r, end_r, cond_t, WW_one, WW_nil, gdstO, none_md, none_fz, frz_nil, ownOp, wc_app, wcont_s, upd_app, aput, ev_tmp, ev_const, av_bool, x_assign, x_pick, pick_t, ↓reduceIte, Nat.reduceEqDiff, Nat.reduceAdd, Option.getD_some, Bool.not_false, ha]
      have : decide (0 ≤ c.pts[k]) = false := by simp at ha ⊢; omega
      exact ⟨by rw [hi, this]; rfl, t.hx⟩
    have ha' : decide (0 ≤ c.pts[k]) = true := by simp at ha ⊢; omega
    simp -implicitDefEqProofs only [YO_f, dc_app, dcont_s, DD_one, DD_guardE, GY_some, GD_ff, y_move, y_pick, y_load, y_bin, y_fieldAddr, y_indexAddr, y_builtin, gdstO, none_md, upd_app, ev_tmp, ev_const, av_bool, x_pick, pick_f, x_load, x_bin, x_fieldAddr, x_indexAddr, x_len, holdsO_ofO, bin_geq, ↓reduceIte, Nat.reduceEqDiff, Nat.reduceAdd, Nat.add_zero, Nat.zero_add, Option.getD_some, enP, ln22, fa25_0, ix57, fa71_1, ha, f2, f3, f5, t.lm, t.l1, ix_map hk', load_map ag3 hk', encI0, List.length_map]
    refine GD_of (fun hb => ?_) (fun hb => ?_)
    · simp -implicitDefEqProofs only [YO_f, dc_app, dcont_s, DD_nil, DD_one, DD_guardE, GY_some, GD_ft, GD_u, y_pick, awp_seq, awp_reg, awp_ret, awp_cond, seqQ_n, seqQ_r, blk_r, rnd_r, end_r, cond_t, WW_one, WW_nil, gdstO, none_md, none_fz, frz_nil, ownOp, wc_app, wcont_s, upd_app, aput, ev_tmp, ev_const, av_bool, x_assign, x_pick, pick_t, ↓reduceIte, Nat.reduceEqDiff, Nat.reduceAdd, Option.getD_some, Bool.not_false, hb]
      have : decide (c.pts[k] < (m.pts.length : Int)) = false := by simp at hb ⊢; omega
      exact ⟨by rw [hi, this, ha']; rfl, t.hx⟩
    have hb' : decide (c.pts[k] < (m.pts.length : Int)) = true := by simp at hb ⊢; omega
    rw [ha', hb'] at hi
    simp only [Bool.true_and] at hi
    cases k with
    | zero =>
      have hz : decide ((((0 : Nat) : Int)) > 0) = false := by decide
      simp -implicitDefEqProofs only [YO_f, dc_app, dcont_s, DD_nil, DD_one, DD_guardE, GY_some, GD_ff, GD_tf, y_move, y_pick, y_bin, awp_reg, awp_skip, awp_cond, seqQ_n, blk_n, rnd_n, cond_f, WW_one, WW_nil, gdstO, none_md, none_fz, frz_nil, ownOp, wc_app, wcont_s, upd_app, aput, ev_tmp, ev_const, av_int, av_bool, x_move, x_assign, x_pick, pick_f, x_bin, holdsO_ofO, bin_add, bin_gtr, ↓reduceIte, Nat.reduceEqDiff, Nat.reduceAdd, Nat.zero_add, Option.getD_some, Bool.not_false, enP, hb, hz, f5, wrap_succ (show 0 < 9223372036854775807 by omega)]
      exact ⟨n - 1, by omega, 1, by omega, f2, f3, rfl, trivial, by rw [hi]; rfl⟩
    | succ k =>
      have hz : decide ((((k + 1 : Nat) : Int)) > 0) = true := by simp
      have hw : IntKind.i64.wrap (((k + 1 : Nat) : Int) - 1) = (k : Int) := by rw [wrap_i64 (by omega) (by omega)]; omega
      have hk2 : k < c.pts.length := by omega
      have hpv : prev c.pts (k + 1) = some c.pts[k] := by unfold prev; exact List.getElem?_eq_getElem hk2
      rw [hpv] at hi
      simp -implicitDefEqProofs only [YO_f, dc_app, dcont_s, DD_nil, DD_one, DD_guardE, GY_some, GD_tt, GD_ff, y_move, y_pick, y_load, y_bin, y_fieldAddr, y_indexAddr, awp_cond, seqQ_n, gdstO, none_md, upd_app, ev_tmp, ev_const, av_int, av_bool, x_pick, pick_t, pick_f, x_load, x_bin, x_fieldAddr, x_indexAddr, holdsO_ofO, bin_sub, bin_leq, bin_gtr, ↓reduceIte, Nat.reduceEqDiff, Nat.reduceAdd, Nat.zero_add, Option.getD_some, enP, ix57, fa71_1, hb, hz, f3, f5, t.l1, hw, ix_map hk', ix_map hk2, load_map ag3 hk', load_map ag3 hk2, encI0]
      refine cond_of (fun hd => ?_) (fun hd => ?_)
      · simp -implicitDefEqProofs only [awp_seq, awp_reg, awp_ret, seqQ_n, seqQ_r, blk_r, rnd_r, end_r, WW_one, WW_nil, none_md, none_fz, frz_nil, ownOp, wc_app, wcont_s, upd_app, ev_const, av_bool, x_assign, ↓reduceIte, Option.getD_some, Bool.not_false]
        have : decide (c.pts[k] < c.pts[k + 1]) = false := by simp at hd ⊢; omega
        exact ⟨by rw [hi]; simp only [this]; rfl, t.hx⟩
      · simp -implicitDefEqProofs only [awp_reg, awp_skip, seqQ_n, blk_n, rnd_n, WW_one, WW_nil, none_md, none_fz, frz_nil, ownOp, wc_app, wcont_s, upd_app, ev_tmp, ev_const, av_int, x_move, x_assign, x_bin, holdsO_ofO, bin_add, ↓reduceIte, Nat.reduceEqDiff, Option.getD_some, Bool.not_false, enP, f5, wrap_succ (show k + 1 < 9223372036854775807 by omega)]
        have : decide (c.pts[k] < c.pts[k + 1]) = true := by simp at hd ⊢; omega
        exact ⟨n - 1, by omega, k + 1 + 1, by omega, f2, f3, rfl, trivial, by rw [hi]; simp only [this]; rfl⟩
  · have hk' : ¬ k < c.pts.length := by simpa using hlt
    simp -implicitDefEqProofs only [awp_seq, awp_reg, awp_ret, awp_exit, seqQ_n, seqQ_e, blk_e, rnd_e, end_r, WW_one, WW_nil, none_md, none_fz, frz_nil, ownOp, wc_app, wcont_s, upd_app, ev_const, av_bool, x_assign, ↓reduceIte, Option.getD_some, Bool.not_false]
    exact ⟨by rw [hi, List.drop_eq_nil_of_le (by omega)]; rfl, t.hx⟩
theorem combination_ref (G : Nat → AV) (m : Mo) (c : Cr) (x : Is) (h : Hp) (hh : Here m c.pts) (hl : c.pts.length ≤ 1048576) : PCall (En G) 172 [.agg (encM m), .agg (encC c), .sl x.m 1 (x.l.map encI)] h (.bool (insT (szs m c.pts) x.l)) := by
  refine ACalls.pure0 rfl ?_
  refine acalls_of (H := Hint.none) (enM G) Tryz.func172 rfl (by kernel_rfl) (by kernel_rfl) (Nat.le_of_ble_eq_true (by kernel_rfl)) ?_
  show awp _ _ _ _ _ (endQ _ [.tmp 6] _)
  have t := Two.mk' h m c
  simp -implicitDefEqProofs only [awp_seq, awp_reg, seqQ_n, WW_one, WW_nil, none_md, none_fz, frz_nil, ownOp, wc_app, wcont_s, upd_app, ev_tmp, ev_const, av_bool, x_move, x_assign, x_box, x_load, x_fieldAddr, x_len, holdsO_some, holdsO_ofO, frameOf_zero, frameOf_succ, ↓reduceIte, Nat.reduceEqDiff, Nat.zero_add, Option.getD_some, Bool.not_false, enP, ln57, fa71_1, bxM, bxC]
  generalize h ++ [ABlk.live 2 [encM m]] ++ [ABlk.live 3 [encC c]] = H at t ⊢
  generalize (h ++ [ABlk.live 2 [encM m]]).length = cb at t ⊢
  simp -implicitDefEqProofs only [awp_cond, seqQ_n, WW_one, WW_nil, none_md, none_fz, frz_nil, ownOp, wc_app, wcont_s, upd_app, ev_tmp, x_bin, x_len, holdsO_ofO, bin_neq, ↓reduceIte, Nat.reduceEqDiff, Option.getD_some, Bool.not_false, enP, ln57, t.l1, List.length_map]
  refine cond_of (fun h2 => ?_) (fun h2 => ?_)
  · simp -implicitDefEqProofs only [awp_seq, awp_reg, awp_ret, seqQ_n, seqQ_r, end_r, WW_one, WW_nil, none_md, none_fz, frz_nil, ownOp, wc_app, wcont_s, upd_app, ev_const, av_bool, x_assign, ↓reduceIte, Option.getD_some, Bool.not_false]
    have : insT (szs m c.pts) x.l = false := by
      rw [← Bool.not_eq_true]; intro e
      have := insT_len e
      rw [szs_len] at this
      simp at h2; omega
    exact ⟨by rw [this], t.hx⟩
  have hlen : x.l.length = c.pts.length := by simp at h2; omega
  simp -implicitDefEqProofs only [awp_seq, awp_block, awp_reg, awp_skip, seqQ_n, WW_one, WW_nil, none_md, none_fz, frz_nil, ownOp, wc_app, wcont_s, ev_const, av_int, x_assign, Option.getD_some, Bool.not_false]
  refine awp_loop (fun n F H' => ∃ k, n + k = x.l.length ∧ F 2 = .sl x.m 1 (x.l.map encI) ∧ F 3 = .ptr h.length 0 0 ∧ F 4 = .ptr cb 0 0 ∧ F 7 = .int .i64 (k : Nat) ∧ H' = H ∧ insT (szs m c.pts) x.l = insT ((szs m c.pts).drop k) (x.l.drop k)) x.l.length ⟨0, by simp, by simp -implicitDefEqProofs only [upd_app, frameOf_zero, frameOf_succ, ↓reduceIte, Nat.reduceEqDiff], by simp -implicitDefEqProofs only [upd_app, ↓reduceIte, Nat.reduceEqDiff], by simp -implicitDefEqProofs only [upd_app, ↓reduceIte, Nat.reduceEqDiff], by simp -implicitDefEqProofs only [upd_app, ↓reduceIte]; rfl, rfl, rfl⟩ ?_
  rintro n F H' ⟨k, hk, f2, f3, f4, f7, rfl, hi⟩
  simp -implicitDefEqProofs only [awp_seq, awp_reg, awp_cond, seqQ_n, WW_one, WW_nil, none_md, none_fz, frz_nil, ownOp, wc_app, wcont_s, upd_app, ev_tmp, x_move, x_bin, x_len, holdsO_ofO, bin_lss, ↓reduceIte, Nat.reduceEqDiff, Option.getD_some, Bool.not_false, enP, ln57, f2, f7, List.length_map]
  refine cond_of (fun hlt => ?_) (fun hlt => ?_)
  · have hk' : k < x.l.length := by simpa using hlt
    have hkc : k < c.pts.length := by omega
    have hks : k < (szs m c.pts).length := by rw [szs_len]; exact hkc
    have hgt : (szs m c.pts)[k] = (binsAt m c.pts[k]).length := getElem_some (szs_get m c.pts k hkc)
    rw [List.drop_eq_getElem_cons hk', List.drop_eq_getElem_cons hks, hgt] at hi
    obtain ⟨s, ls⟩ := hh.ld hkc H'
    simp -implicitDefEqProofs only [awp_seq, awp_block, awp_skip, seqQ_n]
    refine awp_draw (by kernel_rfl) ?_
    simp -implicitDefEqProofs only [YO_f, dc_app, dcont_s, DD_one, DD_guardE, GY_some, y_move, y_load, y_bin, y_indexAddr, gdstO, none_md, upd_app, ev_tmp, ev_const, av_int, x_load, x_bin, x_indexAddr, holdsO_ofO, bin_lss, ↓reduceIte, Nat.reduceEqDiff, Nat.reduceAdd, Option.getD_some, enP, ix57, f2, f3, f4, f7, ix_map hk', load_map ag3 hk', encI0]
    refine GD_of (fun ha => ?_) (fun ha => ?_)
    · simp -implicitDefEqProofs only [YO_f, dc_app, dcont_s, DD_nil, DD_one, DD_guardE, GY_some, GD_ft, y_pick, awp_seq, awp_reg, awp_ret, awp_cond, seqQ_n, seqQ_r, blk_r, rnd_r, end_r, cond_t, WW_one, WW_nil, gdstO, none_md, none_fz, frz_nil, ownOp, wc_app, wcont_s, upd_app, aput, ev_tmp, ev_const, av_bool, x_assign, x_pick, pick_t, ↓reduceIte, Nat.reduceEqDiff, Nat.reduceAdd, Option.getD_some, Bool.not_false, ha]
      have : decide (0 ≤ x.l[k]) = false := by simp at ha ⊢; omega
      exact ⟨by rw [hi]; unfold insT; rw [this]; rfl, t.hx⟩
    have h0 : decide (0 ≤ x.l[k]) = true := by simp at ha ⊢; omega
    simp -implicitDefEqProofs only [YO_f, dc_app, dcont_s, DD_nil, DD_one, DD_guardE, GY_some, GD_ff, y_move, y_pick, y_load, y_bin, y_fieldAddr, y_indexAddr, y_builtin, awp_cond, seqQ_n, gdstO, none_md, upd_app, ev_tmp, ev_const, av_bool, x_pick, pick_f, x_load, x_bin, x_fieldAddr, x_indexAddr, x_len, holdsO_ofO, bin_geq, ↓reduceIte, Nat.reduceEqDiff, Nat.reduceAdd, Nat.add_zero, Nat.zero_add, Option.getD_some, enP, ix22, fa25_0, ln54, fa56_2, ix57, fa71_1, ha, f2, f3, f4, f7, t.lm, t.l1, ix_map hk', load_map ag3 hk', ix_map hkc, load_map ag3 hkc, encI0, hh.ix hkc, ls, List.length_map]
    refine cond_of (fun hd => ?_) (fun hd => ?_)
    · simp -implicitDefEqProofs only [awp_seq, awp_reg, awp_ret, seqQ_n, seqQ_r, blk_r, rnd_r, end_r, WW_one, WW_nil, none_md, none_fz, frz_nil, ownOp, wc_app, wcont_s, upd_app, ev_const, av_bool, x_assign, ↓reduceIte, Option.getD_some, Bool.not_false]
      have : decide (x.l[k] < ((binsAt m c.pts[k]).length : Int)) = false := by simp at hd ⊢; omega
      exact ⟨by rw [hi]; unfold insT; rw [this, h0]; rfl, t.hx⟩
    · simp -implicitDefEqProofs only [awp_reg, awp_skip, seqQ_n, blk_n, rnd_n, WW_one, WW_nil, none_md, none_fz, frz_nil, ownOp, wc_app, wcont_s, upd_app, ev_tmp, ev_const, av_int, x_move, x_assign, x_bin, holdsO_ofO, bin_add, ↓reduceIte, Nat.reduceEqDiff, Option.getD_some, Bool.not_false, enP, f7, wrap_succ (show k < 9223372036854775807 by omega)]
      have h1 : decide (x.l[k] < ((binsAt m c.pts[k]).length : Int)) = true := by simp at hd ⊢; omega
      refine ⟨n - 1, by omega, k + 1, by omega, f2, f3, f4, rfl, trivial, ?_⟩
      rw [hi]
      conv => lhs; unfold insT
      rw [h0, h1]; rfl
  · have hk' : ¬ k < x.l.length := by simpa using hlt
    simp -implicitDefEqProofs only [awp_seq, awp_reg, awp_ret, awp_exit, seqQ_n, seqQ_e, blk_e, rnd_e, end_r, WW_one, WW_nil, none_md, none_fz, frz_nil, ownOp, wc_app, wcont_s, upd_app, ev_const, av_bool, x_assign, ↓reduceIte, Option.getD_some, Bool.not_false]
    exact ⟨by rw [hi, List.drop_eq_nil_of_le (show x.l.length ≤ k by omega), List.drop_eq_nil_of_le (by rw [szs_len]; omega)]; rfl, t.hx⟩
theorem cross_ref (G : Nat → AV) (m : Mo) (c : Cr) (hc : CrOk c) (hf : Full m) (h : Hp) : PCall (En G) 108 [.agg (encM m), .agg (encC c)] h (.int .i64 (crossE m c)) := by
  refine ACalls.pure0 rfl ?_
  have hc2 := hc.pts
  have hc3 := hc.excl
  refine acalls_of (H := Hint.none) (enM G) Tryz.func108 rfl (by kernel_rfl) (by kernel_rfl) (Nat.le_of_ble_eq_true (by kernel_rfl)) ?_
  show awp _ _ _ _ _ (endQ _ [.tmp 4] _)
  have t := Two.mk' h m c
  simp -implicitDefEqProofs only [awp_seq, awp_reg, seqQ_n, WW_one, WW_nil, none_md, none_fz, frz_nil, ownOp, wc_app, wcont_s, upd_app, ev_tmp, ev_const, av_int, x_assign, x_box, x_load, x_fieldAddr, holdsO_some, holdsO_ofO, frameOf_zero, frameOf_succ, ↓reduceIte, Nat.reduceEqDiff, Nat.add_zero, Option.getD_some, Bool.not_false, enP, fa71_0, bxM, bxC]
  generalize h ++ [ABlk.live 2 [encM m]] ++ [ABlk.live 3 [encC c]] = H at t ⊢
  generalize (h ++ [ABlk.live 2 [encM m]]).length = cb at t ⊢
  simp -implicitDefEqProofs only [WW_one, none_md, none_fz, frz_nil, ownOp, wc_app, wcont_s, upd_app, ev_tmp, ev_func, X1_call, callA_fn, holdsO_ofO, List.map_cons, List.map_nil, List.append_nil, ↓reduceIte, Option.getD_some, Bool.not_false, t.l0]
  refine (isName_ref G c.name _).use ?_
  simp -implicitDefEqProofs only [awp_cond, seqQ_n, WW_one, WW_nil, none_md, none_fz, frz_nil, ownOp, wc_app, wcont_s, upd_app, ev_tmp, x_un, holdsO_ofO, un_not, ↓reduceIte, Option.getD_some, Bool.not_false]
  cases h1 : isName c.name
  · simp -implicitDefEqProofs only [awp_seq, awp_reg, awp_ret, seqQ_n, seqQ_r, end_r, cond_t, WW_one, WW_nil, none_md, none_fz, frz_nil, ownOp, wc_app, wcont_s, upd_app, ev_const, av_int, x_assign, ↓reduceIte, Option.getD_some, Bool.not_false]
    exact ⟨by unfold crossE; rw [if_pos h1], t.hx⟩
  have h1' : ¬ isName c.name = false := by rw [h1]; decide
  simp -implicitDefEqProofs only [awp_seq, awp_reg, awp_skip, seqQ_n, cond_f, WW_one, none_md, none_fz, frz_nil, ownOp, wc_app, wcont_s, upd_app, ev_tmp, ev_func, x_load, X1_call, callA_fn, holdsO_ofO, List.map_cons, List.map_nil, List.append_nil, ↓reduceIte, Nat.reduceEqDiff, Option.getD_some, Bool.not_true, Bool.not_false, enP, ldM t.gm, ldC t.gc]
  refine (placed_ref G m c _ (by omega)).use ?_
  simp -implicitDefEqProofs only [awp_cond, seqQ_n, WW_one, WW_nil, none_md, none_fz, frz_nil, ownOp, wc_app, wcont_s, upd_app, ev_tmp, x_un, holdsO_ofO, un_not, ↓reduceIte, Option.getD_some, Bool.not_false]
  cases h2 : placed m c
  · simp -implicitDefEqProofs only [awp_seq, awp_reg, awp_ret, seqQ_n, seqQ_r, end_r, cond_t, WW_one, WW_nil, none_md, none_fz, frz_nil, ownOp, wc_app, wcont_s, upd_app, ev_const, av_int, x_assign, ↓reduceIte, Option.getD_some, Bool.not_false]
    refine ⟨?_, t.hx⟩
    unfold crossE; rw [if_neg h1']
    unfold placed at h2
    split
    · rfl
    · rename_i h3
      have d2 : decide (2 ≤ c.pts.length) = true := by simp; omega
      have d3 : decide (c.pts.length ≤ 4) = true := by simp; omega
      rw [d2, d3] at h2
      rw [if_pos (by simpa using h2)]
  unfold placed at h2
  simp only [Bool.and_eq_true, decide_eq_true_eq] at h2
  obtain ⟨⟨h3, h4⟩, h5⟩ := h2
  have h23 : ¬ (c.pts.length < 2 ∨ 4 < c.pts.length) := by omega
  have hi' : ¬ incT m.pts.length none c.pts = false := by rw [h5]; decide
  have hh := incT_here h5
  simp -implicitDefEqProofs only [awp_seq, awp_reg, awp_skip, seqQ_n, cond_f, WW_one, none_md, none_fz, frz_nil, ownOp, wc_app, wcont_s, upd_app, ev_tmp, ev_func, x_load, X1_call, callA_fn, holdsO_ofO, List.map_cons, List.map_nil, List.append_nil, ↓reduceIte, Nat.reduceEqDiff, Option.getD_some, Bool.not_true, Bool.not_false, enP, ldM t.gm, ldC t.gc]
  refine (csize_ref G m c _ hh hf (by omega)).use ?_
  simp -implicitDefEqProofs only [WW_one, WW_guardE, GX_some, gdstO, none_md, none_fz, frz_nil, ownOp, wc_app, wcont_s, upd_app, ev_tmp, ev_const, av_int, x_move, x_bin, holdsO_ofO, bin_gtr, ↓reduceIte, Option.getD_some, Bool.not_false, enP]
  refine G1_of (fun ha => ?_) (fun ha => ?_)
  · simp -implicitDefEqProofs only [awp_seq, awp_reg, awp_ret, awp_cond, seqQ_n, seqQ_r, end_r, cond_t, WW_one, WW_nil, WW_guardE, GX_some, gdstO, G1_ft, none_md, none_fz, frz_nil, ownOp, wc_app, wcont_s, upd_app, aput, ev_tmp, ev_const, av_int, av_bool, x_assign, x_pick, pick_t, ↓reduceIte, Nat.reduceEqDiff, Option.getD_some, Bool.not_false, ha]
    exact ⟨by unfold crossE; rw [if_neg h1', if_neg h23, if_neg hi', if_pos (.inl (by simp at ha; omega))], t.hx⟩
  simp -implicitDefEqProofs only [awp_cond, seqQ_n, WW_one, WW_nil, WW_guardE, GX_some, gdstO, G1_ff, none_md, none_fz, frz_nil, ownOp, wc_app, wcont_s, upd_app, ev_tmp, ev_const, av_int, av_bool, x_pick, pick_f, x_load, x_bin, x_fieldAddr, x_len, holdsO_ofO, bin_gtr, ↓reduceIte, Nat.reduceEqDiff, Nat.zero_add, Option.getD_some, Bool.not_false, enP, ln26, fa71_2, ha, t.l2, List.length_map]
  refine cond_of (fun hb => ?_) (fun hb => ?_)
  · simp -implicitDefEqProofs only [awp_seq, awp_reg, awp_ret, seqQ_n, seqQ_r, end_r, WW_one, WW_nil, none_md, none_fz, frz_nil, ownOp, wc_app, wcont_s, upd_app, ev_const, av_int, x_assign, ↓reduceIte, Option.getD_some, Bool.not_false]
    exact ⟨by unfold crossE; rw [if_neg h1', if_neg h23, if_neg hi', if_pos (.inr (by simp at hb; omega))], t.hx⟩
  have hab : ¬ (256 < prodN (szs m c.pts) ∨ 256 < c.excl.length) := by simp at ha hb; omega
  have hce : crossE m c = if (c.excl.any fun x => !insT (szs m c.pts) x.l) then 1 else 0 := by
    unfold crossE; rw [if_neg h1', if_neg h23, if_neg hi', if_neg hab]
  simp -implicitDefEqProofs only [awp_seq, awp_block, awp_reg, awp_skip, seqQ_n, WW_one, WW_nil, none_md, none_fz, frz_nil, ownOp, wc_app, wcont_s, ev_const, av_int, x_assign, Option.getD_some, Bool.not_false]
  refine awp_loop (fun n F H' => ∃ k, n + k = c.excl.length ∧ F 2 = .ptr h.length 0 0 ∧ F 3 = .ptr cb 0 0 ∧ F 5 = .int .i64 (k : Nat) ∧ H' = H ∧ (c.excl.any fun x => !insT (szs m c.pts) x.l) = ((c.excl.drop k).any fun x => !insT (szs m c.pts) x.l)) c.excl.length ⟨0, by simp, by simp -implicitDefEqProofs only [upd_app, ↓reduceIte, Nat.reduceEqDiff], by simp -implicitDefEqProofs only [upd_app, ↓reduceIte, Nat.reduceEqDiff], by simp -implicitDefEqProofs only [upd_app, ↓reduceIte]; rfl, rfl, rfl⟩ ?_
  rintro n F H' ⟨k, hk, f2, f3, f5, rfl, hi⟩
  simp -implicitDefEqProofs only [awp_seq, awp_reg, awp_cond, seqQ_n, WW_one, WW_nil, none_md, none_fz, frz_nil, ownOp, wc_app, wcont_s, upd_app, ev_tmp, x_move, x_load, x_bin, x_fieldAddr, x_len, holdsO_ofO, bin_lss, ↓reduceIte, Nat.reduceEqDiff, Nat.zero_add, Option.getD_some, Bool.not_false, enP, ln26, fa71_2, f3, f5, t.l2, List.length_map]
  refine cond_of (fun hlt => ?_) (fun hlt => ?_)
  · have hk' : k < c.excl.length := by simpa using hlt
    have hs := any_step (fun x : Is => !insT (szs m c.pts) x.l) c.excl k hk'
    simp -implicitDefEqProofs only [awp_seq, awp_block, awp_skip, seqQ_n]
    refine awp_draw (by kernel_rfl) ?_
    simp -implicitDefEqProofs only [YO_f, dc_app, dcont_s, DD_one, y_move, y_load, y_un, y_fieldAddr, y_indexAddr, Y1_call, callP_fn, none_md, upd_app, ev_tmp, ev_func, x_load, x_un, x_fieldAddr, x_indexAddr, holdsO_ofO, List.map_cons, List.map_nil, List.append_nil, ↓reduceIte, Nat.reduceEqDiff, Nat.reduceAdd, Nat.zero_add, Option.getD_some, enP, ix26, fa71_2, f2, f3, f5, ldM t.gm, ldC t.gc, t.l2, ix_map hk', load_map ag57 hk', encL0]
    refine ⟨_, combination_ref G m c c.excl[k] _ hh (by omega), ?_⟩
    try simp -implicitDefEqProofs only [dcont_s, DD_nil, awp_cond, seqQ_n, upd_app, ev_tmp, holdsO_ofO, un_not, ↓reduceIte]
    cases hx : insT (szs m c.pts) c.excl[k].l
    · simp -implicitDefEqProofs only [awp_seq, awp_reg, awp_ret, seqQ_n, seqQ_r, blk_r, rnd_r, end_r, cond_t, WW_one, WW_nil, none_md, none_fz, frz_nil, ownOp, wc_app, wcont_s, upd_app, ev_const, av_int, x_assign, ↓reduceIte, Option.getD_some, Bool.not_false]
      exact ⟨by rw [hce, hi, hs, hx]; rfl, t.hx⟩
    · simp -implicitDefEqProofs only [awp_reg, awp_skip, seqQ_n, blk_n, rnd_n, cond_f, WW_one, WW_nil, none_md, none_fz, frz_nil, ownOp, wc_app, wcont_s, upd_app, ev_tmp, ev_const, av_int, x_move, x_assign, x_bin, holdsO_ofO, bin_add, ↓reduceIte, Nat.reduceEqDiff, Option.getD_some, Bool.not_true, Bool.not_false, enP, f5, wrap_succ (show k < 9223372036854775807 by omega)]
      refine ⟨n - 1, by omega, k + 1, by omega, f2, f3, rfl, trivial, ?_⟩
      rw [hi, hs, hx]; rfl
  · have hk' : ¬ k < c.excl.length := by simpa using hlt
    simp -implicitDefEqProofs only [awp_seq, awp_reg, awp_ret, awp_exit, seqQ_n, seqQ_e, blk_e, rnd_e, end_r, WW_one, WW_nil, none_md, none_fz, frz_nil, ownOp, wc_app, wcont_s, upd_app, ev_const, av_int, x_assign, ↓reduceIte, Option.getD_some, Bool.not_false]
    exact ⟨by rw [hce, hi, List.drop_eq_nil_of_le (by omega)]; rfl, t.hx⟩
end Go.Proofs.YtocilianjfhifaaGreatDoor.Cov
/- The error of a model: the program; no condition but the variables that are laid and the bounds on lengths. -/
set_option linter.unusedSimpArgs false
set_option maxRecDepth 8000
namespace Go.Proofs.YtocilianjfhifaaGreatDoor.Cov
open Go Go.Proofs Go.Proofs.YtocilianjfhifaaGreatDoor.Sm Go.Proofs.YtocilianjfhifaaGreatDoor.Bins Go.RowKit

structure MoOk (m : Mo) : Prop where
  np : m.pts.length ≤ 1048576
  nc : m.crs.length ≤ 1048576
  pts : ∀ p ∈ m.pts, PtOk p
  crs : ∀ c ∈ m.crs, CrOk c
def modelE (m : Mo) : Int :=
  if 16 < m.pts.length + m.crs.length then 2 else if fstE pointE m.pts ≠ 0 then fstE pointE m.pts else if dupB (m.pts.map (·.name)) then 8 else
    if fstE (crossE m) m.crs ≠ 0 then fstE (crossE m) m.crs else if dupB (m.crs.map (·.name)) then 8 else 0
theorem fstE_all {α : Type} (f : α → Int) : ∀ {xs : List α}, fstE f xs = 0 → ∀ x ∈ xs, f x = 0
  | [], _, _, hx => by cases hx
  | y :: ys, h, x, hx => by
    simp only [fstE] at h
    split at h
    · rename_i h0
      cases List.mem_cons.1 hx with
      | inl e => subst e; exact h0
      | inr e => exact fstE_all f h x e
    · rename_i h0; exact absurd h h0
theorem pointE_full {p : Pt} (h : pointE p = 0) : 1 ≤ p.bins.length ∧ p.bins.length ≤ 64 := by
  unfold pointE at h
  split at h
  · cases h
  · split at h
    · rename_i h2; exact absurd h h2
    · split at h
      · cases h
      · split at h
        · cases h
        · omega
theorem full_of {m : Mo} (h : fstE pointE m.pts = 0) : Full m := fun p hp => pointE_full (fstE_all _ h p hp)
theorem al75 (h : Hp) : aAlloc Tryz.prog h 56 = some (.ptr h.length 0 0, h ++ [.live 6 [[.str ⟨#[]⟩, .int .i64 0, .int .i64 0, .str ⟨#[]⟩, .sl .nil 0 [], .sl .nil 0 []]]]) := alloc_of (row := [.str ⟨#[]⟩, .int .i64 0, .int .i64 0, .str ⟨#[]⟩, .sl .nil 0 [], .sl .nil 0 []]) (by kernel_rfl)
theorem st75 (h : Hp) (p : Pt) (row : List AV) (hr : row.length = 6) : aStore Tryz.prog (h ++ [.live 6 [row]]) 56 (.ptr h.length 0 0) (.agg (encP p)) = some (h ++ [.live 6 [encP p]]) := by
  rw [store_top (ac_agg (encP_leaf p)) (by rw [encP_len]; exact sz56) (by rw [encP_len, hr]; exact Nat.le_refl _)]
  have : splice row 0 (encP p) = encP p := by unfold splice; simp [encP_len, hr]
  rw [this]
theorem ldP {h : Hp} {b : Nat} {p : Pt} (hb : h[b]? = some (.live 6 [encP p])) : aLoad Tryz.prog h 56 (.ptr b 0 0) = some (.agg (encP p)) := by
  rw [load_rowA ag56 sz56 hb rfl (by rw [encP_len]; exact Nat.le_refl 6), List.drop_zero, List.take_of_length_le (by rw [encP_len]; exact Nat.le_refl 6)]
theorem al82 (h : Hp) : aAlloc Tryz.prog h 71 = some (.ptr h.length 0 0, h ++ [.live 3 [[.str ⟨#[]⟩, .sl .nil 0 [], .sl .nil 0 []]]]) := alloc_of (row := [.str ⟨#[]⟩, .sl .nil 0 [], .sl .nil 0 []]) (by kernel_rfl)
theorem st82 (h : Hp) (c : Cr) (row : List AV) (hr : row.length = 3) : aStore Tryz.prog (h ++ [.live 3 [row]]) 71 (.ptr h.length 0 0) (.agg (encC c)) = some (h ++ [.live 3 [encC c]]) := by
  rw [store_top (ac_agg rfl) (by rw [encC_len]; exact sz71) (by rw [encC_len, hr]; exact Nat.le_refl _)]
  have : splice row 0 (encC c) = encC c := by unfold splice; simp [encC_len, hr]
  rw [this]
theorem model_prog (G : Nat → AV) (hG : GOk G) (m : Mo) (hm : MoOk m) (h : Hp) : PCall (En G) 68 [.agg (encM m)] h (.int .i64 (modelE m)) := by
  refine ACalls.pure0 rfl ?_
  have hm1 := hm.np
  have hm2 := hm.nc
  refine acalls_of (H := Hint.none) (enM G) Tryz.func68 rfl (by kernel_rfl) (by kernel_rfl) (Nat.le_of_ble_eq_true (by kernel_rfl)) ?_
  show awp _ _ _ _ _ (endQ _ [.tmp 2] _)
  have hw : IntKind.i64.wrap ((m.pts.length : Int) + (m.crs.length : Int)) = (m.pts.length : Int) + (m.crs.length : Int) := wrap_i64 (by omega) (by omega)
  simp -implicitDefEqProofs only [awp_seq, awp_reg, awp_cond, seqQ_n, WW_one, WW_nil, none_md, none_fz, frz_nil, ownOp, wc_app, wcont_s, upd_app, ev_tmp, ev_const, av_int, x_assign, x_box, x_load, x_bin, x_fieldAddr, x_len, holdsO_some, holdsO_ofO, bin_add, bin_gtr, frameOf_zero, ↓reduceIte, Nat.reduceEqDiff, Nat.add_zero, Nat.zero_add, Option.getD_some, Bool.not_false, enP, ln22, ln23, fa25_0, fa25_1, bxM, load_last ag22, load_last ag23, encM0, encM1, List.length_map, hw]
  refine cond_of (fun h1 => ?_) (fun h1 => ?_)
  · simp -implicitDefEqProofs only [awp_seq, awp_reg, awp_ret, seqQ_n, seqQ_r, end_r, WW_one, WW_nil, none_md, none_fz, frz_nil, ownOp, wc_app, wcont_s, upd_app, ev_const, av_int, x_assign, ↓reduceIte, Option.getD_some, Bool.not_false]
    exact ⟨by unfold modelE; rw [if_pos (by simp at h1; omega)], _, rfl⟩
  have h1' : ¬ 16 < m.pts.length + m.crs.length := by simp at h1; omega
  have hme : modelE m = if fstE pointE m.pts ≠ 0 then fstE pointE m.pts else if dupB (m.pts.map (·.name)) then 8 else if fstE (crossE m) m.crs ≠ 0 then fstE (crossE m) m.crs else if dupB (m.crs.map (·.name)) then 8 else 0 := by
    unfold modelE; rw [if_neg h1']
  have lm0 : ∀ H : Hp, H[h.length]? = some (.live 2 [encM m]) → aLoad Tryz.prog H 22 (.ptr h.length 0 0) = some (.sl m.pm 6 (m.pts.map encP)) := fun H hH => by rw [load_row ag22 hH (row := encM m) rfl, encM0]
  have lm1 : ∀ H : Hp, H[h.length]? = some (.live 2 [encM m]) → aLoad Tryz.prog H 23 (.ptr h.length 0 1) = some (.sl m.cm 3 (m.crs.map encC)) := fun H hH => by rw [load_row ag23 hH (row := encM m) rfl, encM1]
  simp -implicitDefEqProofs only [awp_seq, awp_block, awp_reg, awp_skip, seqQ_n, WW_one, WW_nil, none_md, none_fz, frz_nil, ownOp, wc_app, wcont_s, upd_app, ev_tmp, ev_const, av_int, x_move, x_load, x_fieldAddr, x_len, holdsO_ofO, ↓reduceIte, Nat.reduceEqDiff, Nat.add_zero, Option.getD_some, Bool.not_false, enP, ln22, fa25_0, load_last ag22, encM0, List.length_map]
  refine awp_lp 0 (fun F H => F 1 = .ptr h.length 0 0 ∧ H[h.length]? = some (.live 2 [encM m]) ∧ (∃ x, H = h ++ x) ∧ fstE pointE m.pts = 0) (fun F H => F 2 = .int .i64 (modelE m) ∧ ∃ x, H = h ++ x) ?_ ?_ ?_
  · refine awp_loop (fun n F H => ∃ k, n + k = m.pts.length ∧ F 1 = .ptr h.length 0 0 ∧ F 18 = .sl m.pm 6 (m.pts.map encP) ∧ F 19 = .int .i64 m.pts.length ∧ F 20 = .int .i64 (k : Nat) ∧ H[h.length]? = some (.live 2 [encM m]) ∧ (∃ x, H = h ++ x) ∧ fstE pointE m.pts = fstE pointE (m.pts.drop k)) m.pts.length ⟨0, by simp, by simp -implicitDefEqProofs only [upd_app, ↓reduceIte, Nat.reduceEqDiff], by simp -implicitDefEqProofs only [upd_app, ↓reduceIte, Nat.reduceEqDiff], by simp -implicitDefEqProofs only [upd_app, ↓reduceIte, Nat.reduceEqDiff], by simp -implicitDefEqProofs only [upd_app, ↓reduceIte]; rfl, top_get _ _, ⟨_, rfl⟩, rfl⟩ ?_
    rintro n F H ⟨k, hk, f1, f18, f19, f20, hb, ⟨x, hx⟩, hf⟩
    simp -implicitDefEqProofs only [awp_seq, awp_reg, awp_cond, seqQ_n, WW_one, WW_nil, none_md, none_fz, frz_nil, ownOp, wc_app, wcont_s, upd_app, ev_tmp, x_bin, holdsO_ofO, bin_lss, ↓reduceIte, Option.getD_some, Bool.not_false, enP, f19, f20]
    refine cond_of (fun hc => ?_) (fun hc => ?_)
    · have hk' : k < m.pts.length := by simpa using hc
      have hs := fstE_step pointE m.pts k hk'
      simp -implicitDefEqProofs only [awp_seq, awp_block, awp_reg, awp_skip, seqQ_n, WW_one, WW_nil, none_md, none_fz, frz_nil, ownOp, wc_app, wcont_s, wcont_n, upd_app, ev_tmp, ev_func, x_alloc, x_load, x_store, x_indexAddr, X1_call, callA_fn, holdsO_some, holdsO_ofO, holdsO_ofS, List.map_cons, List.map_nil, List.append_nil, ↓reduceIte, Nat.reduceEqDiff, Option.getD_some, Bool.not_false, enP, ix22, Option.getD_none, f18, f20, ix_map hk', load_mapA ag56 sz56 encP_len hk', al75, st75 _ _ [.str ⟨#[]⟩, .int .i64 0, .int .i64 0, .str ⟨#[]⟩, .sl .nil 0 [], .sl .nil 0 []] rfl, ldP (top_get H (.live 6 [encP m.pts[k]]))]
      refine (point_prog G hG m.pts[k] (hm.pts _ (List.getElem_mem hk')) _).use ?_
      simp -implicitDefEqProofs only [awp_seq, awp_reg, awp_cond, seqQ_n, WW_one, WW_nil, none_md, none_fz, frz_nil, ownOp, wc_app, wcont_s, upd_app, ev_tmp, ev_const, av_int, x_move, x_assign, x_bin, holdsO_ofO, bin_neq, ↓reduceIte, Option.getD_some, Bool.not_false, enP]
      refine cond_of (fun hv => ?_) (fun hv => ?_)
      · simp -implicitDefEqProofs only [awp_seq, awp_reg, awp_ret, seqQ_n, seqQ_r, blk_r, lp_r, rnd_r, WW_one, WW_nil, none_md, none_fz, frz_nil, ownOp, wc_app, wcont_s, upd_app, ev_tmp, x_move, x_assign, ↓reduceIte, Nat.reduceEqDiff, Option.getD_some, Bool.not_false]
        have hv' : pointE m.pts[k] ≠ 0 := by simpa using hv
        have : fstE pointE m.pts = pointE m.pts[k] := by rw [hf, hs, if_neg hv']
        exact ⟨by rw [hme, this, if_pos hv'], x ++ _, by rw [hx, List.append_assoc]⟩
      · have hv' : pointE m.pts[k] = 0 := by simpa using hv
        simp -implicitDefEqProofs only [awp_reg, awp_skip, seqQ_n, blk_n, rnd_n, WW_one, WW_nil, none_md, none_fz, frz_nil, ownOp, wc_app, wcont_s, upd_app, ev_tmp, ev_const, av_int, x_move, x_bin, holdsO_ofO, bin_add, ↓reduceIte, Nat.reduceEqDiff, Option.getD_some, Bool.not_false, enP, f20, wrap_succ (show k < 9223372036854775807 by omega)]
        exact ⟨n - 1, by omega, k + 1, by omega, f1, f18, f19, rfl, below_get hb, ⟨x ++ _, by rw [hx, List.append_assoc]⟩, by rw [hf, hs, if_pos hv']⟩
    · have hk' : ¬ k < m.pts.length := by simpa using hc
      simp -implicitDefEqProofs only [awp_exit, seqQ_e, lp_e, rnd_e, upd_app, ↓reduceIte, Nat.reduceEqDiff]
      exact ⟨f1, hb, ⟨x, hx⟩, by rw [hf, List.drop_eq_nil_of_le (by omega)]; rfl⟩
  · rintro F H ⟨f1, hb, hx0, hf⟩
    have hfull := full_of hf
    rw [hf, if_neg (fun hh => hh rfl)] at hme
    simp -implicitDefEqProofs only [awp_seq, awp_reg, seqQ_n, blk_e, WW_one, none_md, none_fz, frz_nil, ownOp, wc_app, wcont_s, upd_app, ev_tmp, ev_func, x_load, x_fieldAddr, X1_call, callA_fn, holdsO_ofO, List.map_cons, List.map_nil, List.append_nil, ↓reduceIte, Nat.add_zero, Option.getD_some, Bool.not_false, enP, fa25_0, f1, lm0 _ hb]
    refine (repeatedP G m.pts m.pm H (by omega)).use ?_
    simp -implicitDefEqProofs only [awp_cond, seqQ_n, WW_nil, wcont_s, upd_app, ev_tmp, ↓reduceIte]
    cases hd : dupB (m.pts.map (·.name))
    case true =>
      simp -implicitDefEqProofs only [awp_seq, awp_reg, awp_ret, seqQ_n, seqQ_r, end_r, cond_t, WW_one, WW_nil, none_md, none_fz, frz_nil, ownOp, wc_app, wcont_s, upd_app, ev_const, av_int, x_assign, ↓reduceIte, Option.getD_some, Bool.not_false]
      exact ⟨by rw [hme, hd]; rfl, hx0⟩
    rw [hd] at hme
    simp only [Bool.false_eq_true, if_false] at hme
    simp -implicitDefEqProofs only [awp_seq, awp_block, awp_reg, awp_skip, seqQ_n, cond_f, WW_one, WW_nil, none_md, none_fz, frz_nil, ownOp, wc_app, wcont_s, upd_app, ev_tmp, ev_const, av_int, x_move, x_load, x_fieldAddr, x_len, holdsO_ofO, ↓reduceIte, Nat.reduceEqDiff, Nat.zero_add, Option.getD_some, Bool.not_false, enP, ln23, fa25_1, f1, lm1 _ hb, List.length_map]
    refine awp_lp 2 (fun F H => F 1 = .ptr h.length 0 0 ∧ H[h.length]? = some (.live 2 [encM m]) ∧ (∃ x, H = h ++ x) ∧ fstE (crossE m) m.crs = 0) (fun F H => F 2 = .int .i64 (modelE m) ∧ ∃ x, H = h ++ x) ?_ ?_ ?_
    · refine awp_loop (fun n F H => ∃ k, n + k = m.crs.length ∧ F 1 = .ptr h.length 0 0 ∧ F 34 = .sl m.cm 3 (m.crs.map encC) ∧ F 35 = .int .i64 m.crs.length ∧ F 36 = .int .i64 (k : Nat) ∧ H[h.length]? = some (.live 2 [encM m]) ∧ (∃ x, H = h ++ x) ∧ fstE (crossE m) m.crs = fstE (crossE m) (m.crs.drop k)) m.crs.length ⟨0, by simp, by simp -implicitDefEqProofs only [upd_app, ↓reduceIte, Nat.reduceEqDiff, f1], by simp -implicitDefEqProofs only [upd_app, ↓reduceIte, Nat.reduceEqDiff], by simp -implicitDefEqProofs only [upd_app, ↓reduceIte, Nat.reduceEqDiff], by simp -implicitDefEqProofs only [upd_app, ↓reduceIte]; rfl, hb, hx0, rfl⟩ ?_
      clear f1 hb hx0
      rintro n F H ⟨k, hk, f1, f34, f35, f36, hb, ⟨x, hx⟩, hf⟩
      simp -implicitDefEqProofs only [awp_seq, awp_reg, awp_cond, seqQ_n, WW_one, WW_nil, none_md, none_fz, frz_nil, ownOp, wc_app, wcont_s, upd_app, ev_tmp, x_bin, holdsO_ofO, bin_lss, ↓reduceIte, Option.getD_some, Bool.not_false, enP, f35, f36]
      refine cond_of (fun hc => ?_) (fun hc => ?_)
      · have hk' : k < m.crs.length := by simpa using hc
        have hs := fstE_step (crossE m) m.crs k hk'
        simp -implicitDefEqProofs only [awp_seq, awp_block, awp_reg, awp_skip, seqQ_n, WW_one, WW_nil, none_md, none_fz, frz_nil, ownOp, wc_app, wcont_s, wcont_n, upd_app, ev_tmp, ev_func, x_alloc, x_load, x_store, x_indexAddr, X1_call, callA_fn, holdsO_some, holdsO_ofO, holdsO_ofS, List.map_cons, List.map_nil, List.append_nil, ↓reduceIte, Nat.reduceEqDiff, Option.getD_some, Bool.not_false, enP, ix23, Option.getD_none, f1, f34, f36, ix_map hk', load_mapA ag71 sz71 encC_len hk', al82, st82 _ _ [.str ⟨#[]⟩, .sl .nil 0 [], .sl .nil 0 []] rfl, ldC (top_get H (.live 3 [encC m.crs[k]])), ldM (below_get (x := .live 3 [encC m.crs[k]]) hb)]
        refine (cross_prog G hG m m.crs[k] (hm.crs _ (List.getElem_mem hk')) hfull _).use ?_
        simp -implicitDefEqProofs only [awp_seq, awp_reg, awp_cond, seqQ_n, WW_one, WW_nil, none_md, none_fz, frz_nil, ownOp, wc_app, wcont_s, upd_app, ev_tmp, ev_const, av_int, x_move, x_assign, x_bin, holdsO_ofO, bin_neq, ↓reduceIte, Option.getD_some, Bool.not_false, enP]
        refine cond_of (fun hv => ?_) (fun hv => ?_)
        · simp -implicitDefEqProofs only [awp_seq, awp_reg, awp_ret, seqQ_n, seqQ_r, blk_r, lp_r, rnd_r, WW_one, WW_nil, none_md, none_fz, frz_nil, ownOp, wc_app, wcont_s, upd_app, ev_tmp, x_move, x_assign, ↓reduceIte, Nat.reduceEqDiff, Option.getD_some, Bool.not_false]
          have hv' : crossE m m.crs[k] ≠ 0 := by simpa using hv
          have : fstE (crossE m) m.crs = crossE m m.crs[k] := by rw [hf, hs, if_neg hv']
          exact ⟨by rw [hme, this, if_pos hv'], x ++ _, by rw [hx, List.append_assoc]⟩
        · have hv' : crossE m m.crs[k] = 0 := by simpa using hv
          simp -implicitDefEqProofs only [awp_reg, awp_skip, seqQ_n, blk_n, rnd_n, WW_one, WW_nil, none_md, none_fz, frz_nil, ownOp, wc_app, wcont_s, upd_app, ev_tmp, ev_const, av_int, x_move, x_bin, holdsO_ofO, bin_add, ↓reduceIte, Nat.reduceEqDiff, Option.getD_some, Bool.not_false, enP, f36, wrap_succ (show k < 9223372036854775807 by omega)]
          exact ⟨n - 1, by omega, k + 1, by omega, f1, f34, f35, rfl, below_get hb, ⟨x ++ _, by rw [hx, List.append_assoc]⟩, by rw [hf, hs, if_pos hv']⟩
      · have hk' : ¬ k < m.crs.length := by simpa using hc
        simp -implicitDefEqProofs only [awp_exit, seqQ_e, lp_e, rnd_e, upd_app, ↓reduceIte, Nat.reduceEqDiff]
        exact ⟨f1, hb, ⟨x, hx⟩, by rw [hf, List.drop_eq_nil_of_le (by omega)]; rfl⟩
    · rintro F H ⟨f1, hb, hx, hf⟩
      rw [hf, if_neg (fun hh => hh rfl)] at hme
      simp -implicitDefEqProofs only [awp_seq, awp_reg, seqQ_n, blk_e, WW_one, none_md, none_fz, frz_nil, ownOp, wc_app, wcont_s, upd_app, ev_tmp, ev_func, x_load, x_fieldAddr, X1_call, callA_fn, holdsO_ofO, List.map_cons, List.map_nil, List.append_nil, ↓reduceIte, Nat.zero_add, Option.getD_some, Bool.not_false, enP, fa25_1, f1, lm1 _ hb]
      refine (repeatedC G m.crs m.cm H (by omega)).use ?_
      simp -implicitDefEqProofs only [awp_cond, seqQ_n, WW_nil, wcont_s, upd_app, ev_tmp, ↓reduceIte]
      cases hd : dupB (m.crs.map (·.name))
      · simp -implicitDefEqProofs only [awp_seq, awp_reg, awp_skip, awp_ret, seqQ_n, end_r, cond_f, WW_one, WW_nil, none_md, none_fz, frz_nil, ownOp, wc_app, wcont_s, upd_app, ev_const, av_int, x_assign, ↓reduceIte, Option.getD_some, Bool.not_false]
        exact ⟨by rw [hme, hd]; rfl, hx⟩
      · simp -implicitDefEqProofs only [awp_seq, awp_reg, awp_ret, seqQ_n, seqQ_r, end_r, cond_t, WW_one, WW_nil, none_md, none_fz, frz_nil, ownOp, wc_app, wcont_s, upd_app, ev_const, av_int, x_assign, ↓reduceIte, Option.getD_some, Bool.not_false]
        exact ⟨by rw [hme, hd]; rfl, hx⟩
    · rintro F H ⟨f2, hx⟩
      simp -implicitDefEqProofs only [seqQ_r, blk_r, end_r, f2]
      exact ⟨trivial, hx⟩
  · rintro F H ⟨f2, hx⟩
    simp -implicitDefEqProofs only [seqQ_r, blk_r, end_r, f2]
    exact ⟨trivial, hx⟩
end Go.Proofs.YtocilianjfhifaaGreatDoor.Cov
