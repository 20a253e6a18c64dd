/- Contracts of sets, of the clones, and of the search among lists of ranges; no condition. -/
import Derived.Test.YtpdohkcjhphibaaDoorB3
set_option linter.unusedVariables false
set_option linter.unusedSimpArgs false
namespace Go.Proofs.YtpdohkcjhphibaaDoor.Bins
open Go Go.Proofs.YtpdohkcjhphibaaDoor.Sm

theorem sets_prog (G : Nat → AV) (b : Bin) (h : Hp) : PCall (En G) 34 [.agg (encB b)] h (.sl (setsM b) 1 ((sets b).map encS)) := by
  refine ACalls.pure0 rfl ?_
  refine acalls_of (H := Hint.none) (enM G) Tryd.func34 rfl (by kernel_rfl) (by kernel_rfl) (Nat.le_of_ble_eq_true (by kernel_rfl)) ?_
  show awp _ _ _ _ _ (endQ _ [.tmp 2] _)
  simp -implicitDefEqProofs only [List.getElem?_cons_zero, List.getElem?_cons_succ, awp_seq, awp_reg, awp_cond, seqQ_n, WW_one, WW_nil, none_md, none_fz, frz_nil, ownOp, wc_app, wcont_s, upd_app, ev_tmp, ev_const, av_int, av_nil, x_assign, x_box, x_load, x_bin, x_fieldAddr, x_len, holdsO_some, holdsO_ofO, bin_gtr, frameOf_zero, ↓reduceIte, Nat.reduceEqDiff, Nat.zero_add, Option.getD_some, Bool.not_false, enP, ln22, fa29_2, bxB, load_last ag22, encB2, List.length_map]
  refine cond_of (fun hc => ?_) (fun hc => ?_)
  · have hc' : b.ranges.l.length > 0 := by simpa using hc
    simp -implicitDefEqProofs only [List.getElem?_cons_zero, List.getElem?_cons_succ, evp_nil, evp_cons, awp_seq, awp_reg, awp_ret, seqQ_n, seqQ_r, end_r, WW_one, WW_nil, none_md, none_fz, frz_nil, ownOp, wc_app, wcont_s, upd_app, ev_tmp, x_assign, x_buildSlice, x_load, x_fieldAddr, holdsO_some, holdsO_ofO, List.map_cons, List.map_nil, ↓reduceIte, Nat.reduceEqDiff, Nat.zero_add, Option.getD_some, Bool.not_false, enP, fa29_2, load_last ag22, encB2, bs27]
    exact ⟨by rw [setsM, sets, if_pos hc', if_pos hc']; rfl, _, rfl⟩
  · have hc' : ¬ b.ranges.l.length > 0 := by simpa using hc
    simp -implicitDefEqProofs only [List.getElem?_cons_zero, List.getElem?_cons_succ, awp_seq, awp_reg, awp_skip, awp_ret, seqQ_n, end_r, WW_one, WW_nil, none_md, none_fz, frz_nil, ownOp, wc_app, wcont_s, upd_app, ev_tmp, x_assign, x_load, x_fieldAddr, holdsO_ofO, ↓reduceIte, Nat.reduceEqDiff, Nat.zero_add, Option.getD_some, Bool.not_false, enP, fa29_3, load_last ag27, encB3]
    exact ⟨by rw [setsM, sets, if_neg hc', if_neg hc'], _, rfl⟩
theorem sets_ref (G : Nat → AV) (b : Bin) (h : Hp) : PCall (En G) 36 [.agg (encB b)] h (.sl (setsM b) 1 ((sets b).map encS)) := by
  refine ACalls.pure0 rfl ?_
  refine acalls_of (H := Hint.none) (enM G) Tryd.func36 rfl (by kernel_rfl) (by kernel_rfl) (Nat.le_of_ble_eq_true (by kernel_rfl)) ?_
  show awp _ _ _ _ _ (endQ _ [.tmp 2] _)
  simp -implicitDefEqProofs only [List.getElem?_cons_zero, List.getElem?_cons_succ, awp_seq, awp_reg, awp_cond, seqQ_n, WW_one, WW_nil, none_md, none_fz, frz_nil, ownOp, wc_app, wcont_s, upd_app, ev_tmp, ev_const, av_int, av_nil, x_assign, x_box, x_load, x_bin, x_fieldAddr, x_len, holdsO_some, holdsO_ofO, bin_gtr, frameOf_zero, ↓reduceIte, Nat.reduceEqDiff, Nat.zero_add, Option.getD_some, Bool.not_false, enP, ln22, fa29_2, bxB, load_last ag22, encB2, List.length_map]
  refine cond_of (fun hc => ?_) (fun hc => ?_)
  · have hc' : b.ranges.l.length > 0 := by simpa using hc
    simp -implicitDefEqProofs only [List.getElem?_cons_zero, List.getElem?_cons_succ, evp_nil, evp_cons, awp_seq, awp_reg, awp_ret, seqQ_n, seqQ_r, end_r, WW_one, WW_nil, none_md, none_fz, frz_nil, ownOp, wc_app, wcont_s, upd_app, ev_tmp, x_assign, x_buildSlice, x_load, x_fieldAddr, holdsO_some, holdsO_ofO, List.map_cons, List.map_nil, ↓reduceIte, Nat.reduceEqDiff, Nat.zero_add, Option.getD_some, Bool.not_false, enP, fa29_2, load_last ag22, encB2, bs27]
    exact ⟨by rw [setsM, sets, if_pos hc', if_pos hc']; rfl, _, rfl⟩
  · have hc' : ¬ b.ranges.l.length > 0 := by simpa using hc
    simp -implicitDefEqProofs only [List.getElem?_cons_zero, List.getElem?_cons_succ, awp_seq, awp_reg, awp_skip, awp_ret, seqQ_n, end_r, WW_one, WW_nil, none_md, none_fz, frz_nil, ownOp, wc_app, wcont_s, upd_app, ev_tmp, x_assign, x_load, x_fieldAddr, holdsO_ofO, ↓reduceIte, Nat.reduceEqDiff, Nat.zero_add, Option.getD_some, Bool.not_false, enP, fa29_3, load_last ag27, encB3]
    exact ⟨by rw [setsM, sets, if_neg hc', if_neg hc'], _, rfl⟩

theorem nil22 (m : SM) (k : Nat) (xs : List (List AV)) : aBin Tryd.prog 22 .eql (.sl m k xs) (.sl .nil 0 []) = some (.bool (decide (m = .nil))) := by cases m <;> kernel_rfl
theorem nil30 (m : SM) (k : Nat) (xs : List (List AV)) : aBin Tryd.prog 30 .eql (.sl m k xs) (.sl .nil 0 []) = some (.bool (decide (m = .nil))) := by cases m <;> kernel_rfl

/-- what a clone is: nothing, or a block of the call's own -/
def cloneR (k : Nat) (xs : List (List AV)) (h : Hp) (v : AV) (h' : Hp) : Prop :=
  (xs = [] ∧ (∃ k0, v = .sl .nil k0 []) ∧ h' = h) ∨ (xs = [] ∧ v = .sl .full k [] ∧ h' = h) ∨ (xs ≠ [] ∧ v = .own h.length 0 xs.length ∧ h' = h ++ [.live k xs])

theorem bs22_0 (h : Hp) : aBuildSlice Tryd.prog false h 22 0 [] = some (.sl .full 2 [], h) := by kernel_rfl
theorem bs30_0 (h : Hp) : aBuildSlice Tryd.prog false h 30 0 [] = some (.sl .full 1 [], h) := by kernel_rfl

theorem cok (f : FuncId) (G : Nat → AV) (hf : (match Tryd.prog.funcs[f]? with | some fn => fn.body.isSome && !(fn.name == "runtime.NumGoroutine") | none => false) = true) : CallOk (En G).P f := by
  have he : (En G).P = Tryd.prog := rfl
  unfold CallOk
  rw [he]
  cases hx : Tryd.prog.funcs[f]? with
  | none => rw [hx] at hf; cases hf
  | some fn =>
    rw [hx] at hf
    simp at hf
    exact ⟨fn, rfl, by simpa using hf.1, by simpa using hf.2⟩

theorem clone22 (G : Nat → AV) (xs : List Rng) (m : SM) (h : Hp) (hl : xs.length ≤ 16777216) :
    ACalls (En G) 29 [.sl m 2 (xs.map encR)] h (cloneR 2 (xs.map encR) h) := by
  refine ACalls.of_rep (cok _ _ (by kernel_rfl)) fun ⟨g, cargs, ha⟩ => ?_
  refine acalls_of (H := Hint.none) (enM G) Tryd.func29 rfl (by kernel_rfl) (by kernel_rfl) (Nat.le_of_ble_eq_true (by kernel_rfl)) ?_
  show awp _ _ _ _ _ (endQ _ [.tmp 2] _)
  simp -implicitDefEqProofs only [List.getElem?_cons_zero, List.getElem?_cons_succ, awp_seq, awp_reg, awp_cond, seqQ_n, WW_one, WW_nil, none_md, none_fz, frz_nil, ownOp, wc_app, wcont_s, upd_app, ev_tmp, ev_const, av_nil, x_move, x_assign, x_bin, holdsO_ofO, frameOf_zero, ↓reduceIte, Nat.reduceEqDiff, Option.getD_some, Bool.not_false, enP, nil22]
  refine cond_of (fun hc => ?_) (fun hc => ?_)
  · have hm : m = .nil := by simpa using hc
    subst hm
    simp -implicitDefEqProofs only [List.getElem?_cons_zero, List.getElem?_cons_succ, awp_seq, awp_reg, awp_ret, seqQ_n, seqQ_r, end_r, WW_one, WW_nil, none_md, none_fz, frz_nil, ownOp, wc_app, wcont_s, upd_app, ev_const, av_nil, x_assign, ↓reduceIte, Option.getD_some, Bool.not_false]
    exact .inl ⟨nil_of_rep ha (i := 0) rfl, ⟨_, rfl⟩, rfl⟩
  · simp -implicitDefEqProofs only [List.getElem?_cons_zero, List.getElem?_cons_succ, evp_nil, awp_seq, awp_reg, awp_skip, seqQ_n, WW_one, none_md, none_fz, frz_nil, ownOp, wc_app, wcont_s, upd_app, ev_tmp, x_move, x_buildSlice, x_append, holdsO_some, frameOf_zero, ↓reduceIte, Nat.reduceEqDiff, Option.getD_some, Bool.not_false, enP, bs22_0]
    rcases Classical.em (xs = []) with hx | hx
    · subst hx
      simp -implicitDefEqProofs only [List.getElem?_cons_zero, List.getElem?_cons_succ, awp_ret, seqQ_n, end_r, WW_one, WW_nil, none_md, none_fz, frz_nil, ownOp, wc_app, wcont_s, upd_app, ev_tmp, x_assign, holdsO_some, List.map_nil, ↓reduceIte, Option.getD_some, Bool.not_false, app_none ud22 sz33 (.inr rfl)]
      exact .inr (.inl ⟨rfl, rfl, rfl⟩)
    · have hr : room (([] : List (List AV)).length + (xs.map encR).length) 16 := room_of (by simpa using hl) (by omega)
      have hne : xs.map encR ≠ [] := by simpa using hx
      simp -implicitDefEqProofs only [List.getElem?_cons_zero, List.getElem?_cons_succ, awp_ret, seqQ_n, end_r, WW_one, WW_nil, none_md, none_fz, frz_nil, ownOp, wc_app, wcont_s, upd_app, ev_tmp, x_assign, holdsO_some, List.nil_append, ↓reduceIte, Option.getD_some, Bool.not_false, app_full ud22 sz33 zs22 by22 (conts_sl h m 2 (xs.map encR)) hne hr]
      exact .inr (.inr ⟨by simpa using hx, by simp, by simp⟩)

def encI (n : Int) : List AV := [.int .i64 n]
theorem encI0 (n : Int) : (encI n)[0]? = some (.int .i64 n) := rfl
theorem clone30 (G : Nat → AV) (xs : List Int) (m : SM) (h : Hp) (hl : xs.length ≤ 16777216) :
    ACalls (En G) 35 [.sl m 1 (xs.map encI)] h (cloneR 1 (xs.map encI) h) := by
  refine ACalls.of_rep (cok _ _ (by kernel_rfl)) fun ⟨g, cargs, ha⟩ => ?_
  refine acalls_of (H := Hint.none) (enM G) Tryd.func35 rfl (by kernel_rfl) (by kernel_rfl) (Nat.le_of_ble_eq_true (by kernel_rfl)) ?_
  show awp _ _ _ _ _ (endQ _ [.tmp 2] _)
  simp -implicitDefEqProofs only [List.getElem?_cons_zero, List.getElem?_cons_succ, awp_seq, awp_reg, awp_cond, seqQ_n, WW_one, WW_nil, none_md, none_fz, frz_nil, ownOp, wc_app, wcont_s, upd_app, ev_tmp, ev_const, av_nil, x_move, x_assign, x_bin, holdsO_ofO, frameOf_zero, ↓reduceIte, Nat.reduceEqDiff, Option.getD_some, Bool.not_false, enP, nil30]
  refine cond_of (fun hc => ?_) (fun hc => ?_)
  · have hm : m = .nil := by simpa using hc
    subst hm
    simp -implicitDefEqProofs only [List.getElem?_cons_zero, List.getElem?_cons_succ, awp_seq, awp_reg, awp_ret, seqQ_n, seqQ_r, end_r, WW_one, WW_nil, none_md, none_fz, frz_nil, ownOp, wc_app, wcont_s, upd_app, ev_const, av_nil, x_assign, ↓reduceIte, Option.getD_some, Bool.not_false]
    exact .inl ⟨nil_of_rep ha (i := 0) rfl, ⟨_, rfl⟩, rfl⟩
  · simp -implicitDefEqProofs only [List.getElem?_cons_zero, List.getElem?_cons_succ, evp_nil, awp_seq, awp_reg, awp_skip, seqQ_n, WW_one, none_md, none_fz, frz_nil, ownOp, wc_app, wcont_s, upd_app, ev_tmp, x_move, x_buildSlice, x_append, holdsO_some, frameOf_zero, ↓reduceIte, Nat.reduceEqDiff, Option.getD_some, Bool.not_false, enP, bs30_0]
    rcases Classical.em (xs = []) with hx | hx
    · subst hx
      simp -implicitDefEqProofs only [List.getElem?_cons_zero, List.getElem?_cons_succ, awp_ret, seqQ_n, end_r, WW_one, WW_nil, none_md, none_fz, frz_nil, ownOp, wc_app, wcont_s, upd_app, ev_tmp, x_assign, holdsO_some, List.map_nil, ↓reduceIte, Option.getD_some, Bool.not_false, app_none ud30 sz3 (.inr rfl)]
      exact .inr (.inl ⟨rfl, rfl, rfl⟩)
    · have hr : room (([] : List (List AV)).length + (xs.map encI).length) 8 := room_of (by simpa using hl) (by omega)
      have hne : xs.map encI ≠ [] := by simpa using hx
      simp -implicitDefEqProofs only [List.getElem?_cons_zero, List.getElem?_cons_succ, awp_ret, seqQ_n, end_r, WW_one, WW_nil, none_md, none_fz, frz_nil, ownOp, wc_app, wcont_s, upd_app, ev_tmp, x_assign, holdsO_some, List.nil_append, ↓reduceIte, Option.getD_some, Bool.not_false, app_full ud30 sz3 zs30 by30 (conts_sl h m 1 (xs.map encI)) hne hr]
      exact .inr (.inr ⟨by simpa using hx, by simp, by simp⟩)

theorem empty_fn (G : Nat → AV) (r : Rs) (h : Hp) : PCall (En G) 54 [.sl r.m 2 (r.l.map encR)] h (.bool (decide (r.l.length = 0))) := by
  refine acalls_of (H := Hint.none) (enM G) Tryd.func54 rfl (by kernel_rfl) (by kernel_rfl) (Nat.le_of_ble_eq_true (by kernel_rfl)) ?_
  show awp _ _ _ _ _ (endQ _ [.tmp 2] _)
  simp -implicitDefEqProofs only [List.getElem?_cons_zero, List.getElem?_cons_succ, awp_seq, awp_reg, awp_ret, seqQ_n, end_r, WW_one, WW_nil, none_md, none_fz, frz_nil, ownOp, wc_app, wcont_s, upd_app, ev_tmp, ev_const, av_int, av_bool, x_move, x_assign, x_bin, x_len, holdsO_ofO, bin_eql, frameOf_zero, ↓reduceIte, Nat.reduceEqDiff, Option.getD_some, Bool.not_false, enP, ln22, List.length_map]
  refine ⟨?_, trivial⟩
  congr 1
  rw [Bool.eq_iff_iff]; simp

theorem indexFunc27 (G : Nat → AV) (xs : List Rs) (m : SM) (fid : FuncId) (caps : List AV) (p : Rs → Bool) (h : Hp) (hl : xs.length ≤ 1099511627776)
    (hf : ∀ r, PCall (En G) fid (.sl r.m 2 (r.l.map encR) :: caps) h (.bool (p r))) :
    PCall (En G) 75 [.sl m 1 (xs.map encS), .fn (.func fid) [] caps] h (.int .i64 (match xs.findIdx? p with | some i => (i : Int) | none => -1)) := by
  refine acalls_of (H := Hint.none) (enM G) Tryd.func75 rfl (by kernel_rfl) (by kernel_rfl) (Nat.le_of_ble_eq_true (by kernel_rfl)) ?_
  show awp _ _ _ _ _ (endQ _ [.tmp 4] _)
  simp -implicitDefEqProofs only [List.getElem?_cons_zero, List.getElem?_cons_succ, awp_seq, awp_block, awp_reg, seqQ_n, WW_one, WW_nil, none_md, none_fz, frz_nil, ownOp, wc_app, wcont_s, upd_app, ev_tmp, ev_const, av_int, x_move, x_assign, x_len, holdsO_ofO, frameOf_zero, ↓reduceIte, Nat.reduceEqDiff, Option.getD_some, Bool.not_false, enP, ln27, List.length_map]
  refine awp_loop (fun n F H => ∃ k, n + k = xs.length ∧ F 0 = .sl m 1 (xs.map encS) ∧ F 1 = .fn (.func fid) [] caps ∧ F 7 = .int .i64 xs.length ∧ F 8 = .int .i64 (k : Nat) ∧ H = h ∧ (xs.take k).all (fun r => !p r) = true) xs.length ⟨0, by simp, rfl, rfl, rfl, rfl, rfl, rfl⟩ ?_
  rintro n F H ⟨k, hk, f0, f1, f7, f8, rfl, hin⟩
  simp -implicitDefEqProofs only [List.getElem?_cons_zero, List.getElem?_cons_succ, awp_seq, awp_reg, awp_cond, seqQ_n, WW_one, WW_nil, none_md, none_fz, frz_nil, ownOp, wc_app, wcont_s, upd_app, ev_tmp, x_bin, holdsO_ofO, bin_lss, ↓reduceIte, Option.getD_some, Bool.not_false, enP, f7, f8]
  refine cond_of (fun hc => ?_) (fun hc => ?_)
  · have hc' : k < xs.length := by simpa using hc
    simp -implicitDefEqProofs only [List.getElem?_cons_zero, List.getElem?_cons_succ, awp_seq, awp_block, awp_reg, awp_skip, seqQ_n, WW_one, WW_nil, none_md, none_fz, frz_nil, ownOp, wc_app, wcont_s, upd_app, ev_tmp, x_move, x_assign, x_load, x_indexAddr, X1_call, callA_fn, holdsO_ofO, List.map_cons, List.map_nil, List.nil_append, List.cons_append, ↓reduceIte, Nat.reduceEqDiff, Option.getD_some, Bool.not_false, enP, ix27, f0, f1, f8, ix_map hc', load_map ag22 hc', encS0]
    refine (hf _).use ?_
    simp -implicitDefEqProofs only [List.getElem?_cons_zero, List.getElem?_cons_succ, awp_cond, seqQ_n, WW_nil, wcont_s, upd_app, ev_tmp, ↓reduceIte]
    refine cond_of (fun hb => ?_) (fun hb => ?_)
    · simp -implicitDefEqProofs only [List.getElem?_cons_zero, List.getElem?_cons_succ, awp_seq, awp_reg, awp_ret, seqQ_n, seqQ_r, blk_r, rnd_r, end_r, WW_one, WW_nil, none_md, none_fz, frz_nil, ownOp, wc_app, wcont_s, upd_app, ev_tmp, x_move, x_assign, ↓reduceIte, Nat.reduceEqDiff, Option.getD_some, Bool.not_false]
      refine ⟨?_, trivial⟩
      rw [List.findIdx?_eq_some_iff_getElem.2 ⟨hc', hb, fun j hj => by
        rw [List.all_eq_true] at hin
        have := hin xs[j] (by rw [List.mem_take_iff_getElem]; exact ⟨j, by omega, rfl⟩)
        simpa using this⟩]
    · simp -implicitDefEqProofs only [List.getElem?_cons_zero, List.getElem?_cons_succ, awp_reg, awp_skip, seqQ_n, blk_n, rnd_n, WW_one, WW_nil, none_md, none_fz, frz_nil, ownOp, wc_app, wcont_s, upd_app, ev_tmp, ev_const, av_int, x_move, x_bin, holdsO_ofO, bin_add, ↓reduceIte, Nat.reduceEqDiff, Option.getD_some, Bool.not_false, enP, f8, wrap_succ (show k < 9223372036854775807 by omega)]
      refine ⟨n - 1, by omega, k + 1, by omega, f0, f1, f7, rfl, trivial, ?_⟩
      rw [List.take_succ_eq_append_getElem hc', List.all_append, hin]
      simp only [List.all_cons, List.all_nil, hb]; rfl
  · have hc' : ¬ k < xs.length := by simpa using hc
    simp -implicitDefEqProofs only [List.getElem?_cons_zero, List.getElem?_cons_succ, awp_seq, awp_reg, awp_ret, awp_exit, seqQ_n, seqQ_e, blk_e, rnd_e, end_r, WW_one, WW_nil, none_md, none_fz, frz_nil, ownOp, wc_app, wcont_s, upd_app, ev_const, av_int, x_assign, ↓reduceIte, Option.getD_some, Bool.not_false]
    refine ⟨?_, trivial⟩
    rw [List.take_of_length_le (by omega)] at hin
    rw [List.findIdx?_eq_none_iff.2 (by simpa using hin)]

theorem containsFunc27 (G : Nat → AV) (xs : List Rs) (m : SM) (fid : FuncId) (caps : List AV) (p : Rs → Bool) (h : Hp) (hl : xs.length ≤ 1099511627776)
    (hf : ∀ r, PCall (En G) fid (.sl r.m 2 (r.l.map encR) :: caps) h (.bool (p r))) :
    PCall (En G) 53 [.sl m 1 (xs.map encS), .fn (.func fid) [] caps] h (.bool (xs.any p)) := by
  refine acalls_of (H := Hint.none) (enM G) Tryd.func53 rfl (by kernel_rfl) (by kernel_rfl) (Nat.le_of_ble_eq_true (by kernel_rfl)) ?_
  show awp _ _ _ _ _ (endQ _ [.tmp 4] _)
  simp -implicitDefEqProofs only [List.getElem?_cons_zero, List.getElem?_cons_succ, awp_seq, awp_reg, seqQ_n, WW_one, WW_nil, none_md, none_fz, frz_nil, ownOp, wc_app, wcont_s, upd_app, ev_tmp, ev_const, ev_func, av_bool, x_move, x_assign, X1_call, callA_fn, frameOf_zero, frameOf_succ, List.map_cons, List.map_nil, List.append_nil, ↓reduceIte, Nat.reduceEqDiff, Option.getD_some, Bool.not_false, enP]
  refine (indexFunc27 G xs m fid caps p h hl hf).use ?_
  simp -implicitDefEqProofs only [List.getElem?_cons_zero, List.getElem?_cons_succ, awp_ret, seqQ_n, end_r, WW_one, WW_nil, none_md, none_fz, frz_nil, ownOp, wc_app, wcont_s, upd_app, ev_tmp, ev_const, av_int, x_assign, x_bin, holdsO_ofO, bin_geq, ↓reduceIte, Option.getD_some, Bool.not_false, enP]
  refine ⟨?_, trivial⟩
  cases hx : xs.findIdx? p with
  | some i =>
    obtain ⟨h1, h2, _⟩ := List.findIdx?_eq_some_iff_getElem.1 hx
    have : xs.any p = true := List.any_eq_true.2 ⟨xs[i], by simp, h2⟩
    simp [this]
  | none =>
    have : xs.any p = false := by
      rw [List.findIdx?_eq_none_iff] at hx
      rw [List.any_eq_false]; intro x hx2; simp [hx x hx2]
    simp [this]
end Go.Proofs.YtpdohkcjhphibaaDoor.Bins
