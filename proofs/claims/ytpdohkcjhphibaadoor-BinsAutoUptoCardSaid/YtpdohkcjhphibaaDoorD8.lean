/- The law BinsAuto; no condition but the keywords that are laid. -/
import Derived.Test.YtpdohkcjhphibaaDoorD5
import Derived.Test.YtpdohkcjhphibaaDoorD3
set_option linter.unusedVariables false
set_option linter.unusedSimpArgs false
namespace Go.Proofs.YtpdohkcjhphibaaDoor.Bins
open Go Go.Proofs.YtpdohkcjhphibaaDoor.Sm

theorem auto_names : ∀ i : Nat, i < 64 → isName (⟨#[98]⟩ ++ dec i) = true := by decide +kernel
theorem div_sum (a b : Nat) {c : Nat} (hc : 0 < c) : a / c + b / c ≤ (a + b) / c ∧ (a + b) / c ≤ a / c + b / c + 1 := by
  have h1 := Nat.div_mul_le_self a c
  have h2 := Nat.div_mul_le_self b c
  have h3 : a < a / c * c + c := by have := Nat.mod_lt a hc; have := Nat.div_add_mod a c; rw [Nat.mul_comm] at this; omega
  have h4 : b < b / c * c + c := by have := Nat.mod_lt b hc; have := Nat.div_add_mod b c; rw [Nat.mul_comm] at this; omega
  refine ⟨?_, ?_⟩
  · rw [Nat.le_div_iff_mul_le hc, Nat.add_mul]; omega
  · refine Nat.le_of_lt_succ ?_
    rw [Nat.div_lt_iff_lt_mul hc, Nat.succ_mul, Nat.add_mul, Nat.add_mul]; omega
theorem autoR_ok {S N i : Nat} (hS : S ≤ 65536) (hi : i < N) (hNS : N ≤ S) : 0 ≤ (autoR S N i).lo ∧ (autoR S N i).lo ≤ (autoR S N i).hi ∧ (autoR S N i).hi ≤ 65535 := by
  have hN : 0 < N := by omega
  have h1 : i * S / N + S / N ≤ (i * S + S) / N := (div_sum _ _ hN).1
  have h2 : 1 ≤ S / N := (Nat.one_le_div_iff hN).2 hNS
  have h3 : (i + 1) * S / N ≤ S := by
    have : (i + 1) * S ≤ N * S := Nat.mul_le_mul_right _ hi
    calc (i + 1) * S / N ≤ N * S / N := Nat.div_le_div_right this
      _ = S := Nat.mul_div_cancel_left _ hN
  have e : (i + 1) * S = i * S + S := Nat.succ_mul i S
  rw [← e] at h1
  unfold autoR
  generalize (i + 1) * S / N = b at h1 h3
  generalize i * S / N = a at h1
  refine ⟨?_, ?_, ?_⟩
  · show (0 : Int) ≤ (a : Int); omega
  · show (a : Int) ≤ (b : Int) - 1; omega
  · show (b : Int) - 1 ≤ 65535; omega
theorem auto_sets (S N i : Nat) : sets (autoB S N i) = [⟨.full, [autoR S N i]⟩] := rfl
theorem auto_valid {S N i : Nat} (hS : S ≤ 65536) (hi : i < N) (hNS : N ≤ S) (hN : N ≤ 64) : validE (autoB S N i) = 0 := by
  obtain ⟨h1, h2, h3⟩ := autoR_ok hS hi hNS
  have hb : bad (autoR S N i) = false := by simp [bad]; omega
  rw [validE_sets (auto_names i (by omega)) rfl rfl, auto_sets]
  simp [hb]
theorem auto_small (S N i : Nat) (hi : i < 64) : BinSmall (autoB S N i) := by
  have hs := dec_size i (by omega)
  have hsz : (autoB S N i).name.size ≤ 64 := by
    have : ∀ i : Nat, i < 64 → ((⟨#[98]⟩ : ByteArray) ++ dec i).size ≤ 64 := by decide +kernel
    exact this i hi
  refine ⟨⟨by rw [auto_sets]; simp, by omega, by simp [autoB], ?_⟩, ?_⟩ <;>
  · intro l hl
    rw [auto_sets] at hl
    simp at hl; subst hl; simp
theorem auto_hit {S N i : Nat} (hS : S ≤ 65536) (hi : i < N) (hNS : N ≤ S) (hN : N ≤ 64) (v : Int) : hit (autoB S N i) [] v = (decide ((autoR S N i).lo ≤ v) && decide (v ≤ (autoR S N i).hi)) := by
  unfold hit
  rw [auto_valid hS hi hNS hN, auto_sets]
  simp only [hitK, setAt, auto_sets, List.length_singleton, List.length_nil, List.range_succ, List.range_zero]
  simp [valAt, inside]
theorem auto_size {S N i : Nat} (hS : S ≤ 65536) (hi : i < N) (hNS : N ≤ S) (hN : N ≤ 64) : size (autoB S N i) = (autoR S N i).hi - (autoR S N i).lo + 1 := by
  obtain ⟨h1, h2, h3⟩ := autoR_ok hS hi hNS
  unfold size
  rw [auto_valid hS hi hNS hN, auto_sets]
  generalize autoR S N i = r at h1 h2 h3
  have hf : full r = true := by simp [full]; exact h2
  have hn : normal [r] = [r] := by
    have := normal_of (xs := [r]) (ys := [r]) (by rw [List.filter_cons_of_pos hf]; simp) (by simp)
    rw [← this]; rfl
  simp only [if_true, List.foldl_cons, List.foldl_nil, mulS, rsz, hn, addR]
  rw [wrap_i64 (n := 0 + (r.hi - r.lo) + 1) (by omega) (by omega), wrap_i64 (by omega) (by omega)]
  omega
theorem auto_diff {S N i : Nat} (hN : 0 < N) : i * S / N + S / N ≤ (i + 1) * S / N ∧ (i + 1) * S / N ≤ i * S / N + S / N + 1 := by
  have e : (i + 1) * S = i * S + S := Nat.succ_mul i S
  rw [e]
  exact div_sum _ _ hN

set_option maxRecDepth 8000 in
theorem sameBin_ref (G : Nat → AV) (b : Bin) (hb : b.ranges.l.length ≤ 1099511627776) (hs : b.steps = []) (h : Hp) : PCall (En G) 23 [.agg (encB b), .agg (encB b)] h (.bool true) := by
  refine ACalls.pure0 rfl ?_
  refine acalls_of (H := Hint.none) (enM G) Tryd.func23 rfl (by kernel_rfl) (by kernel_rfl) (Nat.le_of_ble_eq_true (by kernel_rfl)) ?_
  show awp _ _ _ _ _ (endQ _ [.tmp 4] _)
  have l0 : ∀ t (j : Nat), aggO Tryd.prog t = some false → aLoad Tryd.prog (h ++ [.live 4 [encB b]] ++ [.live 4 [encB b]]) t (.ptr h.length 0 j) = (encB b)[j]? := fun t j ha => by
    have : (h ++ [ABlk.live 4 [encB b]] ++ [.live 4 [encB b]])[h.length]? = some (.live 4 [encB b]) := below_get (top_get _ _)
    rw [load_row ha this rfl]
  have l1 : ∀ t (j : Nat), aggO Tryd.prog t = some false → aLoad Tryd.prog (h ++ [.live 4 [encB b]] ++ [.live 4 [encB b]]) t (.ptr (h ++ [ABlk.live 4 [encB b]]).length 0 j) = (encB b)[j]? := fun t j ha => load_last ha
  have c1 : (!(b.name.toList == b.name.toList)) = false := by simp
  have c2 : (b.kind != b.kind) = false := by simp
  have c3 : (((b.steps.length : Nat) : Int) != ((b.steps.length : Nat) : Int)) = false := by simp
  simp -implicitDefEqProofs only [List.getElem?_cons_zero, List.getElem?_cons_succ, awp_seq, awp_reg, seqQ_n, WW_one, WW_nil, WW_guardE, GX_some, gdstO, G1_ff, none_md, none_fz, frz_nil, ownOp, wc_app, wcont_s, upd_app, ev_tmp, ev_const, ev_func, av_bool, x_move, x_assign, x_pick, pick_f, x_box, x_load, x_bin, x_fieldAddr, X1_call, callA_fn, holdsO_some, holdsO_ofO, bin_neq, bin_sneq, frameOf_zero, frameOf_succ, List.map_cons, List.map_nil, List.append_nil, ↓reduceIte, Nat.reduceEqDiff, Nat.add_zero, Nat.zero_add, Option.getD_some, Bool.not_false, enP, fa29_0, fa29_1, fa29_2, bxB, l0 9 _ ag9, l1 9 _ ag9, l0 3 _ ag3, l1 3 _ ag3, l0 22 _ ag22, l1 22 _ ag22, encB0, encB1, encB2, c1, c2]
  refine (same_ref G b.ranges.l b.ranges.l _ _ _ hb).use ?_
  simp -implicitDefEqProofs only [List.getElem?_cons_zero, List.getElem?_cons_succ, awp_seq, awp_block, awp_reg, awp_skip, awp_cond, seqQ_n, cond_f, WW_one, WW_nil, WW_guardE, GX_some, gdstO, G1_ff, none_md, none_fz, frz_nil, ownOp, wc_app, wcont_s, upd_app, ev_tmp, ev_const, av_int, av_bool, x_move, x_assign, x_pick, pick_f, x_load, x_bin, x_un, x_fieldAddr, x_len, holdsO_ofO, bin_neq, un_not, ↓reduceIte, Nat.reduceEqDiff, Nat.zero_add, Option.getD_some, Bool.not_true, Bool.not_false, decide_true, enP, ln27, fa29_3, l0 27 _ ag27, l1 27 _ ag27, encB3, c3, List.length_map]
  have c4 : decide (((0 : Nat) : Int) < ((b.steps.length : Nat) : Int)) = false := by rw [hs]; rfl
  refine awp_loop (fun n F H => F 2 = .ptr h.length 0 0 ∧ F 5 = .int .i64 ((0 : Nat) : Int) ∧ H = h ++ [.live 4 [encB b]] ++ [.live 4 [encB b]]) 0 ⟨by simp -implicitDefEqProofs only [List.getElem?_cons_zero, List.getElem?_cons_succ, upd_app, ↓reduceIte, Nat.reduceEqDiff], by simp -implicitDefEqProofs only [List.getElem?_cons_zero, List.getElem?_cons_succ, upd_app, ↓reduceIte]; rfl, rfl⟩ ?_
  rintro n F H ⟨f2, f5, rfl⟩
  simp -implicitDefEqProofs only [List.getElem?_cons_zero, List.getElem?_cons_succ, awp_seq, awp_reg, awp_ret, awp_exit, awp_cond, seqQ_n, seqQ_e, blk_e, rnd_e, end_r, cond_f, WW_one, WW_nil, none_md, none_fz, frz_nil, ownOp, wc_app, wcont_s, upd_app, ev_tmp, ev_const, av_bool, x_move, x_assign, x_load, x_bin, x_fieldAddr, x_len, holdsO_ofO, bin_lss, ↓reduceIte, Nat.reduceEqDiff, Nat.zero_add, Option.getD_some, Bool.not_false, enP, ln27, fa29_3, f2, f5, l0 27 _ ag27, encB3, List.length_map, c4]
  exact ⟨trivial, _, by rw [List.append_assoc]⟩

theorem shl_i64 {a : Int} {W : Nat} (hW : W ≤ 16) : aBin Tryd.prog 3 .shl (.int .i64 a) (.int .i64 (W : Nat)) = some (.int .i64 (IntKind.i64.wrap (a * ((2 ^ W : Nat) : Int)))) := by
  have hmn : min (W : Int).toNat IntKind.i64.bits = W := by show min (W : Int).toNat 64 = W; omega
  rw [bin_shl _ _ _ _ _ _ (by omega), hmn]; simp

set_option maxRecDepth 8000 in
set_option maxHeartbeats 2000000 in
theorem law_auto (G : Nat → AV) (hG : KwG G) (w n v : Int) (hv : 0 ≤ v ∧ v ≤ 65535) (h : Hp) : PCall (En G) 7 [.int .i64 w, .int .i64 n, .int .u16 v] h (.bool true) := by
  refine ACalls.pure0 rfl ?_
  refine acalls_of (H := Hint.none) (enM G) Tryd.func7 rfl (by kernel_rfl) (by kernel_rfl) (Nat.le_of_ble_eq_true (by kernel_rfl)) ?_
  show awp _ _ _ _ _ (endQ _ [.tmp 6] _)
  simp -implicitDefEqProofs only [List.getElem?_cons_zero, List.getElem?_cons_succ, awp_seq, awp_reg, seqQ_n, WW_one, WW_nil, none_md, none_fz, frz_nil, ownOp, wc_app, wcont_s, upd_app, ev_tmp, ev_const, ev_func, av_bool, x_move, x_assign, X1_call, callA_fn, frameOf_zero, frameOf_succ, List.map_cons, List.map_nil, List.append_nil, ↓reduceIte, Nat.reduceEqDiff, Option.getD_some, Bool.not_false, enP]
  refine (auto_prog G w n h).use ?_
  cases hok : autoOk w n with
  | false =>
    have e0 : autoV w n = .tup [.sl .nil 4 [], .int .i64 1] := by unfold autoV; rw [hok]; rfl
    rw [e0]
    simp -implicitDefEqProofs only [List.getElem?_cons_zero, List.getElem?_cons_succ, awp_seq, awp_reg, seqQ_n, WW_one, WW_nil, none_md, none_fz, frz_nil, ownOp, wc_app, wcont_s, upd_app, ev_tmp, ev_func, x_move, x_assign, x_extract, ext_tup, X1_call, callA_fn, holdsO_ofO, frameOf_zero, frameOf_succ, List.map_cons, List.map_nil, List.append_nil, ↓reduceIte, Nat.reduceEqDiff, Option.getD_some, Bool.not_false]
    have r0 := auto_ref G w n h
    rw [e0] at r0
    refine r0.use ?_
    have c1 : ((1 : Int) != 1) = false := rfl
    have c2 : (((([] : List (List AV)).length : Nat) : Int) != ((([] : List (List AV)).length : Nat) : Int)) = false := rfl
    have c3 : decide ((0 : Int) < ((([] : List (List AV)).length : Nat) : Int)) = false := rfl
    have c4 : ((1 : Int) != 0) = true := rfl
    simp -implicitDefEqProofs only [List.getElem?_cons_zero, List.getElem?_cons_succ, awp_seq, awp_block, awp_reg, awp_skip, awp_cond, seqQ_n, cond_f, WW_one, WW_nil, WW_guardE, GX_some, gdstO, G1_ff, none_md, none_fz, frz_nil, ownOp, wc_app, wcont_s, upd_app, ev_tmp, ev_const, av_int, av_bool, x_move, x_assign, x_pick, pick_f, x_bin, x_extract, ext_tup, x_len, holdsO_ofO, bin_neq, ↓reduceIte, Nat.reduceEqDiff, Option.getD_some, Bool.not_false, enP, ln39, c1, c2]
    refine awp_loop (fun q F H => F 8 = .int .i64 1 ∧ F 39 = .int .i64 ((([] : List (List AV)).length : Nat) : Int) ∧ F 40 = .int .i64 0 ∧ H = h) 0 ⟨by simp -implicitDefEqProofs only [List.getElem?_cons_zero, List.getElem?_cons_succ, upd_app, ↓reduceIte, Nat.reduceEqDiff], by simp -implicitDefEqProofs only [List.getElem?_cons_zero, List.getElem?_cons_succ, upd_app, ↓reduceIte, Nat.reduceEqDiff], by simp -implicitDefEqProofs only [List.getElem?_cons_zero, List.getElem?_cons_succ, upd_app, ↓reduceIte], rfl⟩ ?_
    rintro q F H ⟨f8, f39, f40, rfl⟩
    simp -implicitDefEqProofs only [List.getElem?_cons_zero, List.getElem?_cons_succ, awp_seq, awp_reg, awp_exit, awp_cond, seqQ_n, seqQ_e, blk_e, rnd_e, cond_t, cond_f, WW_one, WW_nil, none_md, none_fz, frz_nil, ownOp, wc_app, wcont_s, upd_app, ev_tmp, ev_const, ev_func, av_int, x_move, x_bin, X1_call, callA_fn, holdsO_ofO, bin_neq, bin_lss, List.map_nil, List.append_nil, ↓reduceIte, Nat.reduceEqDiff, Option.getD_some, Bool.not_false, enP, f8, f39, f40, c3, c4]
    refine (awake G hG _).use ?_
    simp -implicitDefEqProofs only [List.getElem?_cons_zero, List.getElem?_cons_succ, awp_ret, seqQ_n, seqQ_r, end_r, WW_one, WW_nil, none_md, none_fz, frz_nil, ownOp, wc_app, wcont_s, upd_app, ev_tmp, x_assign, ↓reduceIte, Option.getD_some, Bool.not_false]
    exact ⟨trivial, _, by rw [List.append_nil]⟩
  | true =>
    have hok' := hok
    simp only [autoOk, Bool.and_eq_true, decide_eq_true_eq] at hok'
    obtain ⟨⟨⟨k1, k2⟩, k3⟩, k4⟩ := hok'
    obtain ⟨W, rfl⟩ : ∃ W : Nat, w = W := ⟨w.toNat, by omega⟩
    obtain ⟨N, rfl⟩ : ∃ N : Nat, n = N := ⟨n.toNat, by omega⟩
    have e0 : autoV W N = .tup [.sl .any 4 ((autoL (2 ^ W) N).map encB), .int .i64 0] := by unfold autoV; rw [hok]; rfl
    rw [e0]
    have r0 := auto_ref G W N h
    rw [e0] at r0
    have hpw := pow_le16 (show W ≤ 16 by omega)
    have hsh := shl_i64 (a := 1) (show W ≤ 16 by omega)
    simp only [Int.toNat_natCast] at k4
    generalize 2 ^ W = S at hpw k4 r0 hsh
    have w1 : IntKind.i64.wrap (1 * (S : Int)) = (S : Int) := by rw [wrap_i64 (by omega) (by omega)]; omega
    rw [w1] at hsh
    have hNS : N ≤ S := by omega
    have hN : N ≤ 64 := by omega
    have hN0 : 0 < N := by omega
    have hLl : (autoL S N).length = N := by simp [autoL]
    have hLg : ∀ i (hi : i < (autoL S N).length), (autoL S N)[i] = autoB S N i := fun i hi => by simp [autoL]
    simp -implicitDefEqProofs only [List.getElem?_cons_zero, List.getElem?_cons_succ, awp_seq, awp_reg, seqQ_n, WW_one, WW_nil, none_md, none_fz, frz_nil, ownOp, wc_app, wcont_s, upd_app, ev_tmp, ev_func, x_move, x_assign, x_extract, ext_tup, X1_call, callA_fn, holdsO_ofO, frameOf_zero, frameOf_succ, List.map_cons, List.map_nil, List.append_nil, ↓reduceIte, Nat.reduceEqDiff, Option.getD_some, Bool.not_false]
    refine r0.use ?_
    have c1 : ((0 : Int) != 0) = false := rfl
    have c2 : ((((autoL S N).length : Nat) : Int) != (((autoL S N).length : Nat) : Int)) = false := by simp
    simp -implicitDefEqProofs only [List.getElem?_cons_zero, List.getElem?_cons_succ, awp_seq, awp_block, awp_reg, awp_skip, awp_cond, seqQ_n, cond_f, WW_one, WW_nil, WW_guardE, GX_some, gdstO, G1_ff, none_md, none_fz, frz_nil, ownOp, wc_app, wcont_s, upd_app, ev_tmp, ev_const, av_int, av_bool, x_move, x_assign, x_pick, pick_f, x_bin, x_extract, ext_tup, x_len, holdsO_ofO, bin_neq, ↓reduceIte, Nat.reduceEqDiff, Option.getD_some, Bool.not_false, enP, ln39, c1, List.length_map, c2]
    rw [hLl]
    have hdone : N * S / N = S := Nat.mul_div_cancel_left _ hN0
    have hSN : S / N ≤ 65536 := Nat.le_trans (Nat.div_le_self _ _) hpw.2
    refine awp_loop (fun q F H => ∃ (k : Nat) (least most : Int), q + k = N ∧ F 0 = .int .i64 (W : Nat) ∧ F 2 = .int .u16 v ∧ F 7 = .sl .any 4 ((autoL S N).map encB) ∧ F 9 = .sl .any 4 ((autoL S N).map encB) ∧ F 8 = .int .i64 0 ∧
        F 11 = .int .i64 (if v < ((k * S / N : Nat) : Int) then 1 else 0) ∧ F 12 = .int .i64 least ∧ F 13 = .int .i64 most ∧ ((k = 0 ∧ least = 65536 ∧ most = 0) ∨ (((S / N : Nat) : Int) ≤ least ∧ least ≤ ((S / N : Nat) : Int) + 1 ∧ ((S / N : Nat) : Int) ≤ most ∧ most ≤ ((S / N : Nat) : Int) + 1)) ∧
        F 39 = .int .i64 (N : Nat) ∧ F 40 = .int .i64 (k : Nat) ∧ ext h H) N
      ⟨0, 65536, 0, by simp, by simp -implicitDefEqProofs only [List.getElem?_cons_zero, List.getElem?_cons_succ, upd_app, frameOf_zero, ↓reduceIte, Nat.reduceEqDiff], by simp -implicitDefEqProofs only [List.getElem?_cons_zero, List.getElem?_cons_succ, upd_app, frameOf_zero, frameOf_succ, ↓reduceIte, Nat.reduceEqDiff], by simp -implicitDefEqProofs only [List.getElem?_cons_zero, List.getElem?_cons_succ, upd_app, ↓reduceIte, Nat.reduceEqDiff], by simp -implicitDefEqProofs only [List.getElem?_cons_zero, List.getElem?_cons_succ, upd_app, ↓reduceIte, Nat.reduceEqDiff], by simp -implicitDefEqProofs only [List.getElem?_cons_zero, List.getElem?_cons_succ, upd_app, ↓reduceIte, Nat.reduceEqDiff], by simp -implicitDefEqProofs only [List.getElem?_cons_zero, List.getElem?_cons_succ, upd_app, ↓reduceIte, Nat.reduceEqDiff]; simp; omega, by simp -implicitDefEqProofs only [List.getElem?_cons_zero, List.getElem?_cons_succ, upd_app, ↓reduceIte, Nat.reduceEqDiff], by simp -implicitDefEqProofs only [List.getElem?_cons_zero, List.getElem?_cons_succ, upd_app, ↓reduceIte, Nat.reduceEqDiff], .inl ⟨rfl, rfl, rfl⟩, by simp -implicitDefEqProofs only [List.getElem?_cons_zero, List.getElem?_cons_succ, upd_app, ↓reduceIte, Nat.reduceEqDiff], by simp -implicitDefEqProofs only [List.getElem?_cons_zero, List.getElem?_cons_succ, upd_app, ↓reduceIte]; rfl, ext.rfl' _⟩ ?_
    rintro q F H ⟨k, least, most, hk, f0, f2, f7, f9, f8, f11, f12, f13, hlm, f39, f40, hex⟩
    simp -implicitDefEqProofs only [List.getElem?_cons_zero, List.getElem?_cons_succ, awp_seq, awp_reg, awp_cond, seqQ_n, WW_one, WW_nil, none_md, none_fz, frz_nil, ownOp, wc_app, wcont_s, upd_app, ev_tmp, x_bin, holdsO_ofO, bin_lss, ↓reduceIte, Option.getD_some, Bool.not_false, enP, f39, f40]
    refine cond_of (fun hc => ?_) (fun hc => ?_)
    · have hc' : k < N := by simpa using hc
      have hcl : k < (autoL S N).length := by omega
      have eL : ∀ H, aLoad Tryd.prog H 29 (.fptr 4 ((autoL S N).map encB) k 0) = some (.agg (encB (autoB S N k))) := fun H => by rw [load_mapA ag29 sz29 encB_len hcl, hLg]
      have hvk := auto_valid hpw.2 hc' hNS hN
      have hsm := auto_small S N k (by omega)
      simp -implicitDefEqProofs only [List.getElem?_cons_zero, List.getElem?_cons_succ, awp_seq, awp_block, awp_reg, awp_skip, seqQ_n, WW_one, WW_nil, none_md, none_fz, frz_nil, ownOp, wc_app, wcont_s, upd_app, ev_tmp, x_move, x_assign, ↓reduceIte, Nat.reduceEqDiff, Option.getD_some, Bool.not_false, f40]
      refine awp_draw (by kernel_rfl) ?_
      simp -implicitDefEqProofs only [List.getElem?_cons_zero, List.getElem?_cons_succ, dc_app, dcont_s, DD_one, y_move, y_load, y_un, y_indexAddr, Y1_call, callP_fn, none_md, upd_app, ev_tmp, ev_func, x_load, x_un, x_indexAddr, holdsO_ofO, List.map_cons, List.map_nil, List.append_nil, ↓reduceIte, Nat.reduceEqDiff, Option.getD_some, enP, ix39, f7, f9, ix_map hcl, eL]
      refine ⟨_, sameBin_ref G (autoB S N k) (by simp [autoB]) rfl H, ?_⟩
      try simp -implicitDefEqProofs only [List.getElem?_cons_zero, List.getElem?_cons_succ, dc_app, dcont_s, DD_one, DD_guardE, GY_some, GD_ff, y_move, y_load, y_bin, y_indexAddr, Y1_call, callP_fn, gdstO, none_md, upd_app, ev_tmp, ev_const, ev_func, av_int, x_load, x_bin, x_indexAddr, holdsO_ofO, un_not, List.map_cons, List.map_nil, List.append_nil, ↓reduceIte, Nat.reduceEqDiff, Option.getD_some, Bool.not_true, enP, ix39, f7, ix_map hcl, eL]
      refine ⟨_, valid_prog G hG _ hsm.ok H, ?_⟩
      rw [hvk]
      have c3 : ((0 : Int) != 0) = false := rfl
      have wv : IntKind.i64.wrap v = v := wrap_i64 (by omega) (by omega)
      simp -implicitDefEqProofs only [List.getElem?_cons_zero, List.getElem?_cons_succ, dc_app, dcont_s, DD_nil, DD_one, y_pick, awp_seq, awp_reg, awp_skip, awp_cond, seqQ_n, cond_f, WW_one, none_md, none_fz, frz_nil, ownOp, wc_app, wcont_s, upd_app, ev_tmp, ev_const, ev_func, av_bool, av_nil, x_move, x_pick, pick_f, x_load, x_conv, x_indexAddr, X1_call, callA_fn, holdsO_ofO, bin_neq, List.map_cons, List.map_nil, List.append_nil, ↓reduceIte, Nat.reduceEqDiff, Option.getD_some, Bool.not_false, enP, ix39, cv38_3, c3, f7, ix_map hcl, eL, f2, wv]
      have hh := (hit_prog G hG (autoB S N k) hsm.ok [] .nil v H (by simp)).args (args := [.agg (encB (autoB S N k)), .sl .nil 0 [], .int .i64 v]) (CvRL.cons (CvR.refl _) (CvRL.cons (CvR.sl (Cv.nil 0 1)) (CvRL.refl _)))
      rw [auto_hit hpw.2 hc' hNS hN] at hh
      refine hh.use ?_
      have hsz := auto_size hpw.2 hc' hNS hN
      obtain ⟨d1, d2⟩ := auto_diff (S := S) (i := k) hN0
      have hlo : (autoR S N k).lo = ((k * S / N : Nat) : Int) := rfl
      have hhi : (autoR S N k).hi = (((k + 1) * S / N : Nat) : Int) - 1 := rfl
      rw [hlo, hhi] at hsz ⊢
      have hkb := (autoR_ok hpw.2 hc' hNS).2.2
      rw [hhi] at hkb
      generalize k * S / N = a at *
      generalize hbb : (k + 1) * S / N = b at *
      generalize S / N = q0 at *
      have hlm' : (k + 1 = 0 ∧ min least ((b : Int) - 1 - (a : Int) + 1) = 65536 ∧ max most ((b : Int) - 1 - (a : Int) + 1) = 0) ∨ ((q0 : Int) ≤ min least ((b : Int) - 1 - (a : Int) + 1) ∧ min least ((b : Int) - 1 - (a : Int) + 1) ≤ (q0 : Int) + 1 ∧ (q0 : Int) ≤ max most ((b : Int) - 1 - (a : Int) + 1) ∧ max most ((b : Int) - 1 - (a : Int) + 1) ≤ (q0 : Int) + 1) := by
        right
        rcases hlm with ⟨_, h2, h3⟩ | ⟨h1, h2, h3, h4⟩ <;> omega
      refine cond_of (fun hb => ?_) (fun hb => ?_)
      · have hb' : (a : Int) ≤ v ∧ v < (b : Int) := by simp at hb; omega
        have e11 : (if v < (a : Int) then (1 : Int) else 0) = 0 := if_neg (by omega)
        rw [e11] at f11
        have w5 : IntKind.i64.wrap (0 + 1) = 1 := by decide
        have e12 : (1 : Int) = if v < (b : Int) then 1 else 0 := by rw [if_pos hb'.2]
        simp -implicitDefEqProofs only [List.getElem?_cons_zero, List.getElem?_cons_succ, awp_reg, seqQ_n, WW_one, WW_nil, none_md, none_fz, frz_nil, ownOp, wc_app, wcont_s, upd_app, aput, ev_tmp, ev_const, av_int, x_move, x_assign, x_bin, holdsO_ofO, bin_add, ↓reduceIte, Nat.reduceEqDiff, Option.getD_some, Bool.not_false, enP, f11, w5]
        refine awp_draw (by kernel_rfl) ?_
        simp -implicitDefEqProofs only [List.getElem?_cons_zero, List.getElem?_cons_succ, dc_app, dcont_s, DD_one, y_move, y_load, y_indexAddr, y_builtin, Y1_call, callP_fn, none_md, upd_app, ev_tmp, ev_func, x_load, x_indexAddr, x_min, holdsO_ofO, List.map_cons, List.map_nil, List.append_nil, ↓reduceIte, Nat.reduceEqDiff, Option.getD_some, enP, ix39, f12, f7, ix_map hcl, eL]
        refine ⟨_, size_prog G hG _ hsm H, ?_⟩
        rw [hsz]
        try simp -implicitDefEqProofs only [List.getElem?_cons_zero, List.getElem?_cons_succ, dc_app, dcont_s, DD_one, y_move, y_load, y_indexAddr, y_builtin, Y1_call, callP_fn, none_md, upd_app, ev_tmp, ev_func, x_load, x_indexAddr, x_max, holdsO_ofO, min_ii, List.map_cons, List.map_nil, List.append_nil, ↓reduceIte, Nat.reduceEqDiff, Option.getD_some, enP, ix39, f13, f7, ix_map hcl, eL]
        refine ⟨_, size_prog G hG _ hsm H, ?_⟩
        rw [hsz]
        simp -implicitDefEqProofs only [List.getElem?_cons_zero, List.getElem?_cons_succ, dc_app, dcont_s, DD_nil, DD_one, y_assign, awp_reg, seqQ_n, blk_n, rnd_n, WW_one, WW_nil, none_md, none_fz, frz_nil, ownOp, wc_app, wcont_s, upd_app, ev_tmp, ev_const, av_int, x_move, x_bin, holdsO_ofO, bin_add, max_ii, ↓reduceIte, Nat.reduceEqDiff, Option.getD_some, Bool.not_false, enP, f40, wrap_succ (show k < 9223372036854775807 by omega)]
        exact ⟨q - 1, by omega, k + 1, _, _, by omega, f0, f2, f7, f9, f8, by rw [hbb, ← e12], rfl, rfl, hlm', f39, rfl, hex⟩
      · have e12 : (if v < (a : Int) then (1 : Int) else 0) = if v < (b : Int) then 1 else 0 := by
          simp at hb
          split <;> split <;> omega
        rw [e12] at f11
        simp -implicitDefEqProofs only [List.getElem?_cons_zero, List.getElem?_cons_succ, awp_skip, seqQ_n, aput]
        refine awp_draw (by kernel_rfl) ?_
        simp -implicitDefEqProofs only [List.getElem?_cons_zero, List.getElem?_cons_succ, dc_app, dcont_s, DD_one, y_move, y_load, y_indexAddr, y_builtin, Y1_call, callP_fn, none_md, upd_app, ev_tmp, ev_func, x_load, x_indexAddr, x_min, holdsO_ofO, List.map_cons, List.map_nil, List.append_nil, ↓reduceIte, Nat.reduceEqDiff, Option.getD_some, enP, ix39, f12, f7, ix_map hcl, eL]
        refine ⟨_, size_prog G hG _ hsm H, ?_⟩
        rw [hsz]
        try simp -implicitDefEqProofs only [List.getElem?_cons_zero, List.getElem?_cons_succ, dc_app, dcont_s, DD_one, y_move, y_load, y_indexAddr, y_builtin, Y1_call, callP_fn, none_md, upd_app, ev_tmp, ev_func, x_load, x_indexAddr, x_max, holdsO_ofO, min_ii, List.map_cons, List.map_nil, List.append_nil, ↓reduceIte, Nat.reduceEqDiff, Option.getD_some, enP, ix39, f13, f7, ix_map hcl, eL]
        refine ⟨_, size_prog G hG _ hsm H, ?_⟩
        rw [hsz]
        simp -implicitDefEqProofs only [List.getElem?_cons_zero, List.getElem?_cons_succ, dc_app, dcont_s, DD_nil, DD_one, y_assign, awp_reg, seqQ_n, blk_n, rnd_n, WW_one, WW_nil, none_md, none_fz, frz_nil, ownOp, wc_app, wcont_s, upd_app, ev_tmp, ev_const, av_int, x_move, x_bin, holdsO_ofO, bin_add, max_ii, ↓reduceIte, Nat.reduceEqDiff, Option.getD_some, Bool.not_false, enP, f40, wrap_succ (show k < 9223372036854775807 by omega)]
        exact ⟨q - 1, by omega, k + 1, _, _, by omega, f0, f2, f7, f9, f8, by rw [hbb]; exact f11, rfl, rfl, hlm', f39, rfl, hex⟩
    · have hc' : ¬ k < N := by simpa using hc
      obtain rfl : k = N := by omega
      rw [hdone] at f11
      have wv : IntKind.i64.wrap v = v := wrap_i64 (by omega) (by omega)
      have hlm2 : most - least ≤ 1 ∧ -65537 ≤ most - least := by
        rcases hlm with ⟨h1, _⟩ | ⟨h1, h2, h3, h4⟩ <;> omega
      have w6 : IntKind.i64.wrap (most - least) = most - least := wrap_i64 (by omega) (by omega)
      have g1 : decide (most - least ≤ 1) = true := by simp; omega
      have c5 : ((0 : Int) != 0) = false := rfl
      rcases Classical.em (v < (S : Int)) with hvS | hvS
      · rw [if_pos hvS] at f11
        have g2 : decide (v < (S : Int)) = true := by simp [hvS]
        have c6 : ((1 : Int) == 1) = true := rfl
        have c7 : ((1 : Int) == 0) = false := rfl
        simp -implicitDefEqProofs only [List.getElem?_cons_zero, List.getElem?_cons_succ, awp_seq, awp_reg, awp_skip, awp_exit, awp_cond, seqQ_n, seqQ_e, blk_e, rnd_e, cond_f, WW_one, WW_nil, WW_guardE, GX_some, gdstO, G1_tt, none_md, none_fz, frz_nil, ownOp, wc_app, wcont_s, upd_app, ev_tmp, ev_const, ev_func, av_int, av_bool, x_move, x_assign, x_pick, pick_t, x_bin, x_un, x_conv, X1_call, callA_fn, holdsO_ofO, bin_sub, bin_eql, bin_neq, bin_lss, bin_leq, un_not, List.map_nil, List.append_nil, ↓reduceIte, Nat.reduceEqDiff, Option.getD_some, Bool.not_true, Bool.not_false, enP, be4, cv38_3, f8, c5, f2, wv, f0, hsh, g2, f11, c6, c7, be4, show (true == true) = true from rfl, show (false == false) = true from rfl, f12, f13, w6, g1]
        refine (awake G hG _).use ?_
        simp -implicitDefEqProofs only [List.getElem?_cons_zero, List.getElem?_cons_succ, awp_ret, seqQ_n, end_r, WW_one, WW_nil, none_md, none_fz, frz_nil, ownOp, wc_app, wcont_s, upd_app, ev_tmp, ev_const, av_bool, x_assign, x_pick, pick_t, ↓reduceIte, Nat.reduceEqDiff, Option.getD_some, Bool.not_false]
        exact ⟨trivial, hex⟩
      · rw [if_neg hvS] at f11
        have g2 : decide (v < (S : Int)) = false := by simp; omega
        have c6 : ((0 : Int) == 1) = false := rfl
        have c7 : ((0 : Int) == 0) = true := rfl
        simp -implicitDefEqProofs only [List.getElem?_cons_zero, List.getElem?_cons_succ, awp_seq, awp_reg, awp_skip, awp_exit, awp_cond, seqQ_n, seqQ_e, blk_e, rnd_e, cond_f, WW_one, WW_nil, WW_guardE, GX_some, gdstO, G1_tt, none_md, none_fz, frz_nil, ownOp, wc_app, wcont_s, upd_app, ev_tmp, ev_const, ev_func, av_int, av_bool, x_move, x_assign, x_pick, pick_t, x_bin, x_un, x_conv, X1_call, callA_fn, holdsO_ofO, bin_sub, bin_eql, bin_neq, bin_lss, bin_leq, un_not, List.map_nil, List.append_nil, ↓reduceIte, Nat.reduceEqDiff, Option.getD_some, Bool.not_false, enP, be4, cv38_3, f8, c5, f2, wv, f0, hsh, g2, f11, c6, c7, be4, show (true == true) = true from rfl, show (false == false) = true from rfl, f12, f13, w6, g1]
        refine (awake G hG _).use ?_
        simp -implicitDefEqProofs only [List.getElem?_cons_zero, List.getElem?_cons_succ, awp_ret, seqQ_n, end_r, WW_one, WW_nil, none_md, none_fz, frz_nil, ownOp, wc_app, wcont_s, upd_app, ev_tmp, ev_const, av_bool, x_assign, x_pick, pick_t, ↓reduceIte, Nat.reduceEqDiff, Option.getD_some, Bool.not_false]
        exact ⟨trivial, hex⟩
end Go.Proofs.YtpdohkcjhphibaaDoor.Bins
