/- Contracts of Hit, of the program and of the reference; no condition. -/
import Derived.Test.YtpdohkcjhphibaaDoorB7
set_option linter.unusedVariables false
set_option linter.unusedSimpArgs false
namespace Go.Proofs.YtpdohkcjhphibaaDoor.Bins
open Go Go.Proofs.YtpdohkcjhphibaaDoor.Sm

instance : Inhabited Rs := ⟨⟨.nil, []⟩⟩
def setAt (b : Bin) (i : Nat) : List Rng := ((sets b)[i]?.getD default).l
def valAt (last : List Int) (n : Nat) (v : Int) (i : Nat) : Int := if i + 1 < n then last[last.length + 1 - n + i]?.getD 0 else v
def hitK (b : Bin) (last : List Int) (v : Int) (k : Nat) : Bool := (List.range k).all fun i => inside (setAt b i) (valAt last (sets b).length v i)
def hit (b : Bin) (last : List Int) (v : Int) : Bool := decide (validE b = 0) && decide ((sets b).length ≤ last.length + 1) && hitK b last v (sets b).length
theorem hitK_succ (b : Bin) (last : List Int) (v : Int) (k : Nat) : hitK b last v (k + 1) = (hitK b last v k && inside (setAt b k) (valAt last (sets b).length v k)) := by
  unfold hitK; rw [List.range_succ, List.all_append, List.all_cons, List.all_nil, Bool.and_true]
theorem hitK_le {b : Bin} {last : List Int} {v : Int} {k n : Nat} (hk : k < n) (h : inside (setAt b k) (valAt last (sets b).length v k) = false) : hitK b last v n = false := by
  unfold hitK; rw [List.all_eq_false]; exact ⟨k, by simpa using hk, by simp [h]⟩
theorem valid_sets {b : Bin} (h : validE b = 0) : 1 ≤ (sets b).length := by
  unfold validE at h
  split at h
  · split at h
    · cases h
    · rename_i hr
      unfold sets
      split
      · simp
      · rename_i hz
        simp only [refShape, Bool.not_eq_true, Bool.or_eq_false_iff] at hr
        have := hr.1.1.1.2
        have hz' : decide ((b.ranges.l.length : Int) > 0) = false := decide_eq_false (by omega)
        rw [hz'] at this
        simp at this
        rcases hs : b.steps with _ | ⟨x, l⟩
        · rw [hs] at this; simp at this
        · simp
  · cases h

theorem ints_row {xs : List Int} {i : Nat} (h : i < xs.length) : (xs.map encI)[i]? = some [.int .i64 xs[i]] := by simp [h, encI]

theorem bs30_1 (h : Hp) (v : Int) : aBuildSlice Tryd.prog false h 30 1 [(0, .int .i64 v)] = some (.sl .full 1 [[.int .i64 v]], h) := by kernel_rfl
def vals (last : List Int) (n : Nat) (v : Int) : List Int := last.drop (last.length + 1 - n) ++ [v]
theorem vals_len {last : List Int} {n : Nat} {v : Int} (h1 : 1 ≤ n) (h2 : n ≤ last.length + 1) : (vals last n v).length = n := by simp [vals]; omega
theorem vals_get {last : List Int} {n : Nat} {v : Int} {i : Nat} (h1 : 1 ≤ n) (h2 : n ≤ last.length + 1) (hi : i < (vals last n v).length) : (vals last n v)[i] = valAt last n v i := by
  have hl := vals_len (v := v) h1 h2
  unfold vals valAt at *
  rw [List.getElem_append]
  split
  · rename_i h
    have h' : i < last.length - (last.length + 1 - n) := by simpa using h
    rw [if_pos (by omega), List.getElem_drop, List.getElem?_eq_getElem (by omega)]
    rfl
  · rename_i h
    have h' : ¬ i < last.length - (last.length + 1 - n) := by simpa using h
    rw [if_neg (by omega)]
    simp

theorem hit_prog (G : Nat → AV) (hG : KwG G) (b : Bin) (hb : BinOk b) (last : List Int) (m : SM) (v : Int) (h : Hp) (hl : last.length ≤ 8388608) :
    PCall (En G) 15 [.agg (encB b), .sl m 1 (last.map encI), .int .i64 v] h (.bool (hit b last v)) := by
  refine ACalls.pure0 rfl ?_
  refine acalls_of (H := Hint.none) (enM G) Tryd.func15 rfl (by kernel_rfl) (by kernel_rfl) (Nat.le_of_ble_eq_true (by kernel_rfl)) ?_
  show awp _ _ _ _ _ (endQ _ [.tmp 6] _)
  simp -implicitDefEqProofs only [List.getElem?_cons_zero, List.getElem?_cons_succ, awp_seq, awp_reg, seqQ_n, WW_one, WW_nil, none_md, none_fz, frz_nil, ownOp, wc_app, wcont_s, upd_app, ev_tmp, ev_const, ev_func, av_bool, x_assign, x_box, x_load, X1_call, callA_fn, holdsO_some, holdsO_ofO, frameOf_zero, List.map_cons, List.map_nil, List.append_nil, ↓reduceIte, Nat.reduceEqDiff, Option.getD_some, Bool.not_false, enP, bxB, ldB]
  refine (valid_prog G hG b hb _).use ?_
  simp -implicitDefEqProofs only [List.getElem?_cons_zero, List.getElem?_cons_succ, awp_cond, seqQ_n, WW_one, WW_nil, none_md, none_fz, frz_nil, ownOp, wc_app, wcont_s, upd_app, ev_tmp, ev_const, av_int, x_bin, holdsO_ofO, bin_neq, ↓reduceIte, Option.getD_some, Bool.not_false, enP]
  refine cond_of (fun hv => ?_) (fun hv => ?_)
  · simp -implicitDefEqProofs only [List.getElem?_cons_zero, List.getElem?_cons_succ, awp_seq, awp_reg, awp_ret, seqQ_n, seqQ_r, end_r, WW_one, WW_nil, none_md, none_fz, frz_nil, ownOp, wc_app, wcont_s, upd_app, ev_const, av_bool, x_assign, ↓reduceIte, Option.getD_some, Bool.not_false]
    refine ⟨?_, _, rfl⟩
    have : validE b ≠ 0 := by simpa using hv
    simp [hit, this]
  have hv0 : validE b = 0 := by simpa using hv
  have h1 := valid_sets hv0
  have hnum := hb.num
  simp -implicitDefEqProofs only [List.getElem?_cons_zero, List.getElem?_cons_succ, awp_seq, awp_reg, awp_skip, seqQ_n, WW_one, none_md, none_fz, frz_nil, ownOp, wc_app, wcont_s, upd_app, ev_tmp, ev_func, x_load, X1_call, callA_fn, holdsO_ofO, List.map_cons, List.map_nil, List.append_nil, ↓reduceIte, Nat.reduceEqDiff, Option.getD_some, Bool.not_false, enP, ldB]
  refine (sets_prog G b _).use ?_
  have hw : IntKind.i64.wrap (((sets b).length : Int) - 1) = (((sets b).length - 1 : Nat) : Int) := by rw [wrap_i64 (by omega) (by omega)]; omega
  simp -implicitDefEqProofs only [List.getElem?_cons_zero, List.getElem?_cons_succ, awp_seq, awp_reg, awp_cond, seqQ_n, WW_one, WW_nil, none_md, none_fz, frz_nil, ownOp, wc_app, wcont_s, upd_app, ev_tmp, ev_const, av_int, x_move, x_assign, x_bin, x_len, holdsO_ofO, bin_sub, bin_lss, frameOf_zero, frameOf_succ, ↓reduceIte, Nat.reduceEqDiff, Option.getD_some, Bool.not_false, enP, ln27, ln30, List.length_map, hw]
  refine cond_of (fun hc => ?_) (fun hc => ?_)
  · simp -implicitDefEqProofs only [List.getElem?_cons_zero, List.getElem?_cons_succ, awp_seq, awp_reg, awp_ret, seqQ_n, seqQ_r, end_r, WW_one, WW_nil, none_md, none_fz, frz_nil, ownOp, wc_app, wcont_s, upd_app, ev_const, av_bool, x_assign, ↓reduceIte, Option.getD_some, Bool.not_false]
    refine ⟨?_, _, rfl⟩
    have : ¬ (sets b).length ≤ last.length + 1 := by simp at hc; omega
    simp [hit, this]
  have hc' : (sets b).length ≤ last.length + 1 := by simp at hc; omega
  have hw2 : IntKind.i64.wrap ((last.length : Int) - (((sets b).length - 1 : Nat) : Int)) = ((last.length + 1 - (sets b).length : Nat) : Int) := by rw [wrap_i64 (by omega) (by omega)]; omega
  simp -implicitDefEqProofs only [Option.map_some, Option.map_none, List.getElem?_cons_zero, List.getElem?_cons_succ, awp_seq, awp_reg, awp_skip, seqQ_n, WW_one, none_md, none_fz, frz_nil, ownOp, wc_app, wcont_s, upd_app, ev_tmp, ev_const, ev_func, av_int, x_move, x_bin, x_slice, x_len, X1_call, callA_fn, holdsO_ofO, bin_sub, frameOf_zero, frameOf_succ, List.map_cons, List.map_nil, List.append_nil, ↓reduceIte, Nat.reduceEqDiff, Option.getD_some, Bool.not_false, enP, ln27, ln30, List.length_map, hw, hw2, sl_from ud30 sz3 (h := h ++ [.live 4 [encB b]]) (m := m) (kk := .i64) (xs := last.map encI) (l := last.length + 1 - (sets b).length) (by simp; omega), ← List.map_drop]
  refine (clone30 G _ m _ (by simp; omega)).mono fun vv H' hcl => ?_
  have hn := vals_len (v := v) h1 hc'
  refine wcont_mid (fun F H => F 7 = .sl (setsM b) 1 ((sets b).map encS) ∧ ∃ o, F 8 = .own o 0 (sets b).length ∧ H[o]? = some (.live 1 ((vals last (sets b).length v).map encI)) ∧ ∃ x, H = h ++ x) ?_ ?_
  · have hv1 : ([[AV.int .i64 v]] : List (List AV)) ≠ [] := by simp
    rcases hcl with ⟨hx, ⟨k0, rfl⟩, rfl⟩ | ⟨hx, rfl, rfl⟩ | ⟨hx, rfl, rfl⟩
    · have hx' : last.drop (last.length + 1 - (sets b).length) = [] := by simpa using hx
      have e1 : vals last (sets b).length v = [v] := by unfold vals; rw [hx']; rfl
      rw [e1] at hn
      simp at hn
      simp -implicitDefEqProofs only [List.getElem?_cons_zero, List.getElem?_cons_succ, evp_nil, evp_cons, WW_one, WW_nil, none_md, none_fz, frz_nil, ownOp, wc_app, wcont_s, upd_app, ev_tmp, x_move, x_assign, x_buildSlice, x_append, holdsO_some, frameOf_zero, frameOf_succ, ↓reduceIte, Nat.reduceEqDiff, Option.getD_some, Bool.not_false, enP, bs30_1, app_nil ud30 sz3 zs30 by30 (conts_sl (h ++ [ABlk.live 4 [encB b]]) .full 1 [[AV.int .i64 v]]) hv1 (room_of (by simp) (by omega))]
      exact ⟨trivial, _, by rw [← hn]; rfl, by rw [e1]; simp [encI], _, by rw [List.append_assoc]⟩
    · have hx' : last.drop (last.length + 1 - (sets b).length) = [] := by simpa using hx
      have e1 : vals last (sets b).length v = [v] := by unfold vals; rw [hx']; rfl
      rw [e1] at hn
      simp at hn
      simp -implicitDefEqProofs only [List.getElem?_cons_zero, List.getElem?_cons_succ, evp_nil, evp_cons, WW_one, WW_nil, none_md, none_fz, frz_nil, ownOp, wc_app, wcont_s, upd_app, ev_tmp, x_move, x_assign, x_buildSlice, x_append, holdsO_some, frameOf_zero, frameOf_succ, List.nil_append, ↓reduceIte, Nat.reduceEqDiff, Option.getD_some, Bool.not_false, enP, bs30_1, app_full ud30 sz3 zs30 by30 (conts_sl (h ++ [ABlk.live 4 [encB b]]) .full 1 [[AV.int .i64 v]]) (xs := []) hv1 (room_of (by simp) (by omega))]
      exact ⟨trivial, _, by rw [← hn]; rfl, by rw [e1]; simp [encI], _, by rw [List.append_assoc]⟩
    · have hle : (last.drop (last.length + 1 - (sets b).length)).length + 1 ≤ 16777216 := by simp; omega
      simp -implicitDefEqProofs only [List.getElem?_cons_zero, List.getElem?_cons_succ, evp_nil, evp_cons, WW_one, WW_nil, none_md, none_fz, frz_nil, ownOp, wc_app, wcont_s, upd_app, ev_tmp, x_move, x_assign, x_buildSlice, x_append, holdsO_some, frameOf_zero, frameOf_succ, ↓reduceIte, Nat.reduceEqDiff, Option.getD_some, Bool.not_false, enP, bs30_1, app_own ud30 sz3 zs30 by30 (conts_top (h := h ++ [ABlk.live 4 [encB b]])) (conts_sl ((h ++ [ABlk.live 4 [encB b]]) ++ [.live 1 ((last.drop (last.length + 1 - (sets b).length)).map encI)]) .full 1 [[AV.int .i64 v]]) hv1 (room_of (by simpa using hle) (by omega))]
      refine ⟨trivial, ((h ++ [ABlk.live 4 [encB b]]) ++ [ABlk.live 1 ((last.drop (last.length + 1 - (sets b).length)).map encI)]).length, ?_, ?_, ?_⟩
      · congr 1
        rw [← hn]; simp [vals]; omega
      · simp [vals, encI]
      · refine ⟨[.live 4 [encB b], .dead, .live 1 ((last.drop (last.length + 1 - (sets b).length)).map encI ++ [[AV.int .i64 v]])], ?_⟩
        rw [List.append_assoc, List.set_append_right _ _ (by simp)]
        simp
  rintro F H ⟨f7, o, f8, ho, hx⟩
  simp -implicitDefEqProofs only [List.getElem?_cons_zero, List.getElem?_cons_succ, awp_seq, awp_block, awp_reg, seqQ_n, WW_one, WW_nil, none_md, none_fz, frz_nil, ownOp, wc_app, wcont_s, upd_app, ev_tmp, ev_const, av_int, x_move, x_len, holdsO_ofO, ↓reduceIte, Option.getD_some, Bool.not_false, enP, ln30, f8]
  refine awp_loop (fun n F H' => ∃ k, n + k = (sets b).length ∧ F 7 = .sl (setsM b) 1 ((sets b).map encS) ∧ F 34 = .own o 0 (sets b).length ∧ F 35 = .int .i64 (sets b).length ∧ F 36 = .int .i64 (k : Nat) ∧ H' = H ∧ hitK b last v k = true) (sets b).length ⟨0, by simp, by simp -implicitDefEqProofs only [List.getElem?_cons_zero, List.getElem?_cons_succ, upd_app, ↓reduceIte, Nat.reduceEqDiff, f7], by simp -implicitDefEqProofs only [List.getElem?_cons_zero, List.getElem?_cons_succ, upd_app, ↓reduceIte, Nat.reduceEqDiff], by simp -implicitDefEqProofs only [List.getElem?_cons_zero, List.getElem?_cons_succ, upd_app, ↓reduceIte, Nat.reduceEqDiff], by simp -implicitDefEqProofs only [List.getElem?_cons_zero, List.getElem?_cons_succ, upd_app, ↓reduceIte]; rfl, rfl, rfl⟩ ?_
  rintro n F H' ⟨k, hk, f7, f34, f35, f36, rfl, hin⟩
  simp -implicitDefEqProofs only [List.getElem?_cons_zero, List.getElem?_cons_succ, awp_seq, awp_reg, awp_cond, seqQ_n, WW_one, WW_nil, none_md, none_fz, frz_nil, ownOp, wc_app, wcont_s, upd_app, ev_tmp, x_bin, holdsO_ofO, bin_lss, ↓reduceIte, Option.getD_some, Bool.not_false, enP, f35, f36]
  refine cond_of (fun hd => ?_) (fun hd => ?_)
  · have hd' : k < (sets b).length := by simpa using hd
    have hdv : k < (vals last (sets b).length v).length := by omega
    have e1 : ((vals last (sets b).length v).map encI)[k]? = some [.int .i64 (valAt last (sets b).length v k)] := by rw [ints_row hdv, vals_get h1 hc' hdv]
    have e2 : setAt b k = (sets b)[k].l := by unfold setAt; simp [hd']
    simp -implicitDefEqProofs only [List.getElem?_cons_zero, List.getElem?_cons_succ, awp_seq, awp_block, awp_reg, awp_skip, seqQ_n, WW_one, WW_nil, none_md, none_fz, frz_nil, ownOp, wc_app, wcont_s, upd_app, ev_tmp, ev_func, x_move, x_assign, x_load, x_indexAddr, X1_call, callA_fn, holdsO_ofO, List.map_cons, List.map_nil, List.append_nil, ↓reduceIte, Nat.reduceEqDiff, Nat.zero_add, Option.getD_some, Bool.not_false, enP, ix27, ix30, f7, f34, f36, ix_own ho hd', load_row ag3 ho e1, ix_map hd', load_map ag22 hd', encS0]
    refine (inside_prog G _ _ _ _ (hb.sets _ (List.getElem_mem hd'))).use ?_
    simp -implicitDefEqProofs only [List.getElem?_cons_zero, List.getElem?_cons_succ, awp_cond, seqQ_n, WW_one, WW_nil, none_md, none_fz, frz_nil, ownOp, wc_app, wcont_s, upd_app, ev_tmp, x_un, holdsO_ofO, un_not, ↓reduceIte, Option.getD_some, Bool.not_false]
    refine cond_of (fun hi => ?_) (fun hi => ?_)
    · simp -implicitDefEqProofs only [List.getElem?_cons_zero, List.getElem?_cons_succ, awp_seq, awp_reg, awp_ret, seqQ_n, seqQ_r, blk_r, rnd_r, end_r, WW_one, WW_nil, none_md, none_fz, frz_nil, ownOp, wc_app, wcont_s, upd_app, ev_const, av_bool, x_assign, ↓reduceIte, Option.getD_some, Bool.not_false]
      refine ⟨?_, hx⟩
      have hi' : inside (sets b)[k].l (valAt last (sets b).length v k) = false := by simpa using hi
      unfold hit
      rw [hitK_le hd' (by rw [e2]; exact hi')]; simp
    · simp -implicitDefEqProofs only [List.getElem?_cons_zero, List.getElem?_cons_succ, awp_reg, awp_skip, seqQ_n, blk_n, rnd_n, WW_one, WW_nil, none_md, none_fz, frz_nil, ownOp, wc_app, wcont_s, upd_app, ev_tmp, ev_const, av_int, x_move, x_bin, holdsO_ofO, bin_add, ↓reduceIte, Nat.reduceEqDiff, Option.getD_some, Bool.not_false, enP, f36, wrap_succ (show k < 9223372036854775807 by omega)]
      refine ⟨n - 1, by omega, k + 1, by omega, f7, f34, f35, rfl, trivial, ?_⟩
      rw [hitK_succ, hin, e2]; simpa using hi
  · have hd' : ¬ k < (sets b).length := by simpa using hd
    simp -implicitDefEqProofs only [List.getElem?_cons_zero, List.getElem?_cons_succ, awp_seq, awp_reg, awp_ret, awp_exit, seqQ_n, seqQ_e, blk_e, rnd_e, end_r, WW_one, WW_nil, none_md, none_fz, frz_nil, ownOp, wc_app, wcont_s, upd_app, ev_const, av_bool, x_assign, ↓reduceIte, Option.getD_some, Bool.not_false]
    refine ⟨?_, hx⟩
    have : k = (sets b).length := by omega
    subst this
    unfold hit; rw [hin, hv0]; simp [hc']

theorem hit_ref (G : Nat → AV) (b : Bin) (hb : BinOk b) (last : List Int) (m : SM) (v : Int) (h : Hp) (hl : last.length ≤ 8388608) :
    PCall (En G) 16 [.agg (encB b), .sl m 1 (last.map encI), .int .i64 v] h (.bool (hit b last v)) := by
  refine ACalls.pure0 rfl ?_
  refine acalls_of (H := Hint.none) (enM G) Tryd.func16 rfl (by kernel_rfl) (by kernel_rfl) (Nat.le_of_ble_eq_true (by kernel_rfl)) ?_
  show awp _ _ _ _ _ (endQ _ [.tmp 6] _)
  simp -implicitDefEqProofs only [List.getElem?_cons_zero, List.getElem?_cons_succ, awp_seq, awp_reg, seqQ_n, WW_one, WW_nil, none_md, none_fz, frz_nil, ownOp, wc_app, wcont_s, upd_app, ev_tmp, ev_const, ev_func, av_bool, x_assign, x_box, x_load, X1_call, callA_fn, holdsO_some, holdsO_ofO, frameOf_zero, List.map_cons, List.map_nil, List.append_nil, ↓reduceIte, Nat.reduceEqDiff, Option.getD_some, Bool.not_false, enP, bxB, ldB]
  refine (valid_ref G b hb _).use ?_
  simp -implicitDefEqProofs only [List.getElem?_cons_zero, List.getElem?_cons_succ, awp_cond, seqQ_n, WW_one, WW_nil, none_md, none_fz, frz_nil, ownOp, wc_app, wcont_s, upd_app, ev_tmp, ev_const, av_int, x_bin, holdsO_ofO, bin_neq, ↓reduceIte, Option.getD_some, Bool.not_false, enP]
  refine cond_of (fun hv => ?_) (fun hv => ?_)
  · simp -implicitDefEqProofs only [List.getElem?_cons_zero, List.getElem?_cons_succ, awp_seq, awp_reg, awp_ret, seqQ_n, seqQ_r, end_r, WW_one, WW_nil, none_md, none_fz, frz_nil, ownOp, wc_app, wcont_s, upd_app, ev_const, av_bool, x_assign, ↓reduceIte, Option.getD_some, Bool.not_false]
    refine ⟨?_, _, rfl⟩
    have : validE b ≠ 0 := by simpa using hv
    simp [hit, this]
  have hv0 : validE b = 0 := by simpa using hv
  have h1 := valid_sets hv0
  have hnum := hb.num
  simp -implicitDefEqProofs only [List.getElem?_cons_zero, List.getElem?_cons_succ, awp_seq, awp_reg, awp_skip, seqQ_n, WW_one, none_md, none_fz, frz_nil, ownOp, wc_app, wcont_s, upd_app, ev_tmp, ev_func, x_load, X1_call, callA_fn, holdsO_ofO, List.map_cons, List.map_nil, List.append_nil, ↓reduceIte, Nat.reduceEqDiff, Option.getD_some, Bool.not_false, enP, ldB]
  refine (sets_ref G b _).use ?_
  have hw : IntKind.i64.wrap (((sets b).length : Int) - 1) = (((sets b).length - 1 : Nat) : Int) := by rw [wrap_i64 (by omega) (by omega)]; omega
  simp -implicitDefEqProofs only [List.getElem?_cons_zero, List.getElem?_cons_succ, awp_seq, awp_reg, seqQ_n, WW_one, WW_nil, WW_guardE, GX_some, gdstO, none_md, none_fz, frz_nil, ownOp, wc_app, wcont_s, upd_app, ev_tmp, ev_const, av_int, x_move, x_assign, x_bin, x_len, holdsO_ofO, bin_sub, bin_lss, frameOf_zero, frameOf_succ, ↓reduceIte, Nat.reduceEqDiff, Option.getD_some, Bool.not_false, enP, ln27, ln30, List.length_map, hw]
  have hd1 : (sets b).length - 1 < (sets b).length := by omega
  have e2 : setAt b ((sets b).length - 1) = (sets b)[(sets b).length - 1].l := by unfold setAt; simp [hd1]
  have ev : valAt last (sets b).length v ((sets b).length - 1) = v := by unfold valAt; rw [if_neg (by omega)]
  refine G1_mid (fun F H => F 30 = .bool (decide (¬ (sets b).length ≤ last.length + 1) || !inside (setAt b ((sets b).length - 1)) v) ∧ F 1 = .sl m 1 (last.map encI) ∧ F 7 = .sl (setsM b) 1 ((sets b).map encS) ∧ F 8 = .int .i64 ((sets b).length - 1 : Nat) ∧ H = h ++ [.live 4 [encB b]]) ?_ ?_
  · refine G1_of (fun hc => ?_) (fun hc => ?_)
    · simp -implicitDefEqProofs only [List.getElem?_cons_zero, List.getElem?_cons_succ, WW_one, WW_nil, WW_guardE, GX_some, gdstO, G1_ft, none_md, none_fz, frz_nil, ownOp, wc_app, wcont_s, upd_app, aput, ev_tmp, ev_const, av_bool, x_pick, pick_t, frameOf_zero, frameOf_succ, ↓reduceIte, Nat.reduceEqDiff, Option.getD_some, Bool.not_false, hc]
      have : ¬ (sets b).length ≤ last.length + 1 := by simp at hc; omega
      exact ⟨by simp [this], trivial, trivial, trivial, trivial⟩
    · simp -implicitDefEqProofs only [List.getElem?_cons_zero, List.getElem?_cons_succ, WW_guardE, GX_some, gdstO, G1_ff, none_md, none_fz, frz_nil, ownOp, wc_app, wcont_s, upd_app, ev_tmp, ev_func, x_move, x_load, x_indexAddr, X1_call, callA_fn, holdsO_ofO, frameOf_zero, frameOf_succ, List.map_cons, List.map_nil, List.append_nil, ↓reduceIte, Nat.reduceEqDiff, Option.getD_some, Bool.not_false, enP, ix27, hc, ix_map hd1, load_map ag22 hd1, encS0]
      refine (inside_ref G _ _ _ _ (hb.sets _ (List.getElem_mem hd1))).use ?_
      simp -implicitDefEqProofs only [List.getElem?_cons_zero, List.getElem?_cons_succ, WW_one, WW_nil, WW_guardE, GX_some, gdstO, G1_ff, none_md, none_fz, frz_nil, ownOp, wc_app, wcont_s, upd_app, ev_tmp, ev_const, av_bool, x_pick, pick_f, x_un, holdsO_ofO, un_not, frameOf_zero, frameOf_succ, ↓reduceIte, Nat.reduceEqDiff, Option.getD_some, Bool.not_false]
      have : (sets b).length ≤ last.length + 1 := by simp at hc; omega
      exact ⟨by simp [this, e2], trivial, trivial, trivial, trivial⟩
  rintro F H ⟨f30, f1, f7, f8, rfl⟩
  simp -implicitDefEqProofs only [List.getElem?_cons_zero, List.getElem?_cons_succ, awp_cond, seqQ_n, ev_tmp, f30]
  refine cond_of (fun hc => ?_) (fun hc => ?_)
  · simp -implicitDefEqProofs only [List.getElem?_cons_zero, List.getElem?_cons_succ, awp_seq, awp_reg, awp_ret, seqQ_n, seqQ_r, end_r, WW_one, WW_nil, none_md, none_fz, frz_nil, ownOp, wc_app, wcont_s, upd_app, ev_const, av_bool, x_assign, ↓reduceIte, Option.getD_some, Bool.not_false]
    refine ⟨?_, _, rfl⟩
    rw [Bool.or_eq_true] at hc
    rcases hc with h' | h'
    · have : ¬ (sets b).length ≤ last.length + 1 := by simpa using h'
      simp [hit, this]
    · unfold hit
      rw [hitK_le hd1 (by rw [ev]; simpa using h')]; simp
  have hc1 : (sets b).length ≤ last.length + 1 := by
    have := (Bool.or_eq_false_iff.1 hc).1
    simpa using this
  have hc2 : inside (setAt b ((sets b).length - 1)) v = true := by
    have := (Bool.or_eq_false_iff.1 hc).2
    simpa using this
  simp -implicitDefEqProofs only [List.getElem?_cons_zero, List.getElem?_cons_succ, awp_seq, awp_block, awp_reg, awp_skip, seqQ_n, WW_one, WW_nil, none_md, none_fz, frz_nil, ownOp, wc_app, wcont_s, ev_const, av_int, x_assign, Option.getD_some, Bool.not_false]
  refine awp_loop (fun n F H' => ∃ k, n + k = (sets b).length - 1 ∧ F 1 = .sl m 1 (last.map encI) ∧ F 7 = .sl (setsM b) 1 ((sets b).map encS) ∧ F 8 = .int .i64 ((sets b).length - 1 : Nat) ∧ F 9 = .int .i64 (k : Nat) ∧ H' = h ++ [.live 4 [encB b]] ∧ hitK b last v k = true) ((sets b).length - 1) ⟨0, by simp, by simp -implicitDefEqProofs only [List.getElem?_cons_zero, List.getElem?_cons_succ, upd_app, ↓reduceIte, Nat.reduceEqDiff, f1], by simp -implicitDefEqProofs only [List.getElem?_cons_zero, List.getElem?_cons_succ, upd_app, ↓reduceIte, Nat.reduceEqDiff, f7], by simp -implicitDefEqProofs only [List.getElem?_cons_zero, List.getElem?_cons_succ, upd_app, ↓reduceIte, Nat.reduceEqDiff, f8], by simp -implicitDefEqProofs only [List.getElem?_cons_zero, List.getElem?_cons_succ, upd_app, ↓reduceIte]; rfl, rfl, rfl⟩ ?_
  rintro n F H' ⟨k, hk, f1, f7, f8, f9, rfl, hin⟩
  simp -implicitDefEqProofs only [List.getElem?_cons_zero, List.getElem?_cons_succ, awp_seq, awp_reg, awp_cond, seqQ_n, WW_one, WW_nil, none_md, none_fz, frz_nil, ownOp, wc_app, wcont_s, upd_app, ev_tmp, x_move, x_bin, holdsO_ofO, bin_lss, ↓reduceIte, Nat.reduceEqDiff, Option.getD_some, Bool.not_false, enP, f8, f9]
  refine cond_of (fun hd => ?_) (fun hd => ?_)
  · have hd' : k < (sets b).length - 1 := by simp at hd; omega
    have hd2 : k < (sets b).length := by omega
    have hdl : last.length + 1 - (sets b).length + k < last.length := by omega
    have e3 : setAt b k = (sets b)[k].l := by unfold setAt; simp [hd2]
    have e4 : valAt last (sets b).length v k = last[last.length + 1 - (sets b).length + k] := by unfold valAt; rw [if_pos (by omega), List.getElem?_eq_getElem hdl]; rfl
    have w1 : IntKind.i64.wrap ((last.length : Int) - (((sets b).length - 1 : Nat) : Int)) = ((last.length + 1 - (sets b).length : Nat) : Int) := by rw [wrap_i64 (by omega) (by omega)]; omega
    have w2 : IntKind.i64.wrap (((last.length + 1 - (sets b).length : Nat) : Int) + (k : Int)) = ((last.length + 1 - (sets b).length + k : Nat) : Int) := by rw [wrap_i64 (by omega) (by omega)]; omega
    simp -implicitDefEqProofs only [List.getElem?_cons_zero, List.getElem?_cons_succ, awp_seq, awp_block, awp_skip, seqQ_n]
    refine awp_draw (by kernel_rfl) ?_
    simp -implicitDefEqProofs only [List.getElem?_cons_zero, List.getElem?_cons_succ, dc_app, dcont_s, DD_one, y_move, y_load, y_bin, y_un, y_indexAddr, y_builtin, Y1_call, callP_fn, none_md, upd_app, ev_tmp, ev_func, x_load, x_bin, x_un, x_indexAddr, x_len, holdsO_ofO, bin_add, bin_sub, List.map_cons, List.map_nil, List.append_nil, ↓reduceIte, Nat.reduceEqDiff, Option.getD_some, enP, ix27, ix30, ln30, f1, f7, f8, f9, List.length_map, w1, w2, ix_map hd2, load_map ag22 hd2, encS0, ix_map hdl, load_map ag3 hdl, encI0]
    refine ⟨_, inside_ref G _ _ _ _ (hb.sets _ (List.getElem_mem hd2)), ?_⟩
    simp -implicitDefEqProofs only [List.getElem?_cons_zero, List.getElem?_cons_succ, dcont_s, DD_nil, awp_cond, seqQ_n, upd_app, ev_tmp, holdsO_ofO, un_not, ↓reduceIte]
    refine cond_of (fun hi => ?_) (fun hi => ?_)
    · simp -implicitDefEqProofs only [List.getElem?_cons_zero, List.getElem?_cons_succ, awp_seq, awp_reg, awp_ret, seqQ_n, seqQ_r, blk_r, rnd_r, end_r, WW_one, WW_nil, none_md, none_fz, frz_nil, ownOp, wc_app, wcont_s, upd_app, ev_const, av_bool, x_assign, ↓reduceIte, Option.getD_some, Bool.not_false]
      refine ⟨?_, _, rfl⟩
      have hi' : inside (sets b)[k].l last[last.length + 1 - (sets b).length + k] = false := by simpa using hi
      unfold hit
      rw [hitK_le hd2 (by rw [e3, e4]; exact hi')]; simp
    · simp -implicitDefEqProofs only [List.getElem?_cons_zero, List.getElem?_cons_succ, awp_reg, awp_skip, seqQ_n, blk_n, rnd_n, WW_one, WW_nil, none_md, none_fz, frz_nil, ownOp, wc_app, wcont_s, upd_app, ev_tmp, ev_const, av_int, x_move, x_assign, x_bin, holdsO_ofO, bin_add, ↓reduceIte, Nat.reduceEqDiff, Option.getD_some, Bool.not_false, enP, f9, wrap_succ (show k < 9223372036854775807 by omega)]
      refine ⟨n - 1, by omega, k + 1, by omega, f1, f7, f8, rfl, trivial, ?_⟩
      rw [hitK_succ, hin, e3, e4]; simpa using hi
  · have hd' : ¬ k < (sets b).length - 1 := by simp at hd; omega
    simp -implicitDefEqProofs only [List.getElem?_cons_zero, List.getElem?_cons_succ, awp_seq, awp_reg, awp_ret, awp_exit, seqQ_n, seqQ_e, blk_e, rnd_e, end_r, WW_one, WW_nil, none_md, none_fz, frz_nil, ownOp, wc_app, wcont_s, upd_app, ev_const, av_bool, x_assign, ↓reduceIte, Option.getD_some, Bool.not_false]
    refine ⟨?_, _, rfl⟩
    have : k = (sets b).length - 1 := by omega
    subst this
    have hall : hitK b last v (sets b).length = true := by
      have := hitK_succ b last v ((sets b).length - 1)
      rw [show (sets b).length - 1 + 1 = (sets b).length by omega] at this
      rw [this, hin, ev, hc2]; rfl
    unfold hit; rw [hall, hv0]; simp [hc1]
end Go.Proofs.YtpdohkcjhphibaaDoor.Bins
