/- The contracts of Auto on both sides; no condition. -/
import Derived.Test.YtpdohkcjhphibaaDoorD2
import Derived.Test.YtpdohkcjhphibaaDoorC3
set_option linter.unusedVariables false
set_option linter.unusedSimpArgs false
namespace Go.Proofs.YtpdohkcjhphibaaDoor.Bins
open Go Go.Proofs.YtpdohkcjhphibaaDoor.Sm

def autoOk (w n : Int) : Bool := decide (1 ≤ w) && decide (w ≤ 16) && decide (1 ≤ n) && decide (n ≤ min 64 ((2 ^ w.toNat : Nat) : Int))
def autoR (S N i : Nat) : Rng := ⟨((i * S / N : Nat) : Int), (((i + 1) * S / N : Nat) : Int) - 1⟩
def autoRow (S N i : Nat) : List AV := [.str (⟨#[98]⟩ ++ dec i), .int .i64 0, .sl .full 2 [encR (autoR S N i)], .sl .nil 0 []]
def autoB (S N i : Nat) : Bin := ⟨⟨#[98]⟩ ++ dec i, 0, ⟨.full, [autoR S N i]⟩, .nil, []⟩
def autoL (S N : Nat) : List Bin := (List.range N).map (autoB S N)
def autoV (w n : Int) : AV := if autoOk w n = true then .tup [.sl .any 4 ((autoL (2 ^ w.toNat) n.toNat).map encB), .int .i64 0] else .tup [.sl .nil 4 [], .int .i64 1]

theorem bd33 (a b : Int) : aBuild Tryd.prog 33 [(0, .int .i64 a), (1, .int .i64 b)] = some (.agg [.int .i64 a, .int .i64 b]) := by kernel_rfl
theorem bd29 (s : ByteArray) (xs : List (List AV)) : aBuild Tryd.prog 29 [(0, .str s), (2, .sl .full 2 xs)] = some (.agg [.str s, .int .i64 0, .sl .full 2 xs, .sl .nil 0 []]) := by kernel_rfl
theorem bs39 (h : Hp) (s : ByteArray) (xs : List (List AV)) : aBuildSlice Tryd.prog false h 39 1 [(0, .agg [.str s, .int .i64 0, .sl .full 2 xs, .sl .nil 0 []])] = some (.sl .full 4 [[.str s, .int .i64 0, .sl .full 2 xs, .sl .nil 0 []]], h) := by kernel_rfl
theorem wrap_pred {n : Nat} (h : n ≤ 9223372036854775807) : IntKind.i64.wrap ((n : Int) - 1) = (n : Int) - 1 := wrap_i64 (by omega) (by omega)
theorem bs22i (h : Hp) (a b : Int) : aBuildSlice Tryd.prog false h 22 1 [(0, .agg [.int .i64 a, .int .i64 b])] = some (.sl .full 2 [[.int .i64 a, .int .i64 b]], h) := by kernel_rfl

def autoSt (S N : Nat) (h : Hp) (k : Nat) (v : AV) (H : Hp) : Prop := (k = 0 ∧ v = .sl .nil 0 []) ∨ (0 < k ∧ ∃ o, h.length ≤ o ∧ v = .own o 0 k ∧ H[o]? = some (.live 4 ((List.range k).map (autoRow S N))))
theorem auto_arith {S N i : Nat} (hS : S ≤ 65536) (hi : i ≤ 64) : IntKind.i64.wrap ((i : Int) * (S : Int)) = ((i * S : Nat) : Int) ∧ IntKind.i64.wrap (((i * S : Nat) : Int).tdiv (N : Int)) = ((i * S / N : Nat) : Int) ∧ i * S / N ≤ 4194304 := by
  have h1 : i * S ≤ 64 * 65536 := Nat.mul_le_mul hi hS
  have h2 : i * S / N ≤ i * S := Nat.div_le_self _ _
  refine ⟨?_, ?_, by omega⟩
  · rw [← Int.natCast_mul]; exact wrap_nat (by omega)
  · rw [Int.tdiv_eq_ediv_of_nonneg (by omega), ← Int.natCast_ediv]; exact wrap_nat (by omega)
theorem auto_done {S N : Nat} {h : Hp} {v : AV} {H : Hp} (hN : 1 ≤ N) (hs : autoSt S N h N v H) : ∃ o, h.length ≤ o ∧ v = .own o 0 N ∧ H[o]? = some (.live 4 ((List.range N).map (autoRow S N))) := by
  rcases hs with ⟨h1, _⟩ | ⟨_, h2⟩
  · omega
  · exact h2
theorem auto_frz {S N o : Nat} {h H : Hp} (ho : h.length ≤ o) (hH : H[o]? = some (.live 4 ((List.range N).map (autoRow S N)))) : frzF h.length H 3 (.tup [.own o 0 N, .int .i64 0]) = .tup [.sl .any 4 ((List.range N).map (autoRow S N)), .int .i64 0] := by
  have hr : ((List.range N).map (autoRow S N)).map (·.map (frzF h.length H 1)) = (List.range N).map (autoRow S N) := by
    rw [List.map_map]; congr 1
  have h1 : frzF h.length H 2 (.own o 0 N) = .sl .any 4 ((List.range N).map (autoRow S N)) := by
    rw [frzF_own _ H 1 o 0 N 4 _ (by omega) hH, List.drop_zero, List.take_of_length_le (by simp), hr]
    rw [if_pos]
    refine ⟨by simp, ?_⟩
    rw [List.all_eq_true]
    intro row hrow
    obtain ⟨x, _, rfl⟩ := List.mem_map.1 hrow
    rfl
  have h2 : frzF h.length H 3 (.tup [.own o 0 N, .int .i64 0]) = .tup [frzF h.length H 2 (.own o 0 N), .int .i64 0] := by rfl
  rw [h2, h1]
theorem auto_conv (S N : Nat) : CvR (.tup [.sl .any 4 ((List.range N).map (autoRow S N)), .int .i64 0]) (.tup [.sl .any 4 ((autoL S N).map encB), .int .i64 0]) := by
  refine CvR.tup (CvRL.cons (CvR.sl ?_) (CvRL.refl _))
  rw [autoL, List.map_map]
  refine Cv.map fun i _ => ?_
  exact CvRow.cons rfl (Cv.refl _) (CvRow.cons rfl (Cv.refl _) (CvRow.cons rfl (Cv.refl _) (CvRow.cons rfl (Cv.nil 0 1) CvRow.nil)))
/-- both sides end so -/
theorem auto_pure {G : Nat → AV} {f : FuncId} {w n : Int} {h : Hp} (hc : ACalls (En G) f [.int .i64 w, .int .i64 n] h fun v H => ext h H ∧ ((autoOk w n = false ∧ v = .tup [.sl .nil 0 [], .int .i64 1]) ∨ (autoOk w n = true ∧ ∃ o, h.length ≤ o ∧ v = .tup [.own o 0 n.toNat, .int .i64 0] ∧ H[o]? = some (.live 4 ((List.range n.toNat).map (autoRow (2 ^ w.toNat) n.toNat)))))) :
    PCall (En G) f [.int .i64 w, .int .i64 n] h (autoV w n) := by
  cases hk : autoOk w n with
  | false =>
    have : PCall (En G) f [.int .i64 w, .int .i64 n] h (.tup [.sl .nil 0 [], .int .i64 1]) := by
      refine ACalls.pure 3 hc ?_
      rintro v H ⟨hex, ⟨_, rfl⟩ | ⟨h1, _⟩⟩
      · exact ⟨hex, rfl⟩
      · rw [hk] at h1; cases h1
    unfold autoV; rw [hk]
    exact this.res (CvR.tup (CvRL.cons (CvR.sl (Cv.nil 0 4)) (CvRL.refl _)))
  | true =>
    have : PCall (En G) f [.int .i64 w, .int .i64 n] h (.tup [.sl .any 4 ((List.range n.toNat).map (autoRow (2 ^ w.toNat) n.toNat)), .int .i64 0]) := by
      refine ACalls.pure 3 hc ?_
      rintro v H ⟨hex, ⟨h1, _⟩ | ⟨_, o, ho, rfl, hH⟩⟩
      · rw [hk] at h1; cases h1
      · exact ⟨hex, auto_frz ho hH⟩
    unfold autoV; rw [hk]
    exact this.res (auto_conv _ _)
theorem pow_le16 {W : Nat} (h : W ≤ 16) : 1 ≤ 2 ^ W ∧ 2 ^ W ≤ 65536 := ⟨Nat.one_le_two_pow, by
  have := Nat.pow_le_pow_right (show 0 < 2 by decide) h
  simpa using this⟩

set_option maxRecDepth 8000 in
set_option maxHeartbeats 1000000 in
theorem auto_progA (G : Nat → AV) (w n : Int) (h : Hp) : ACalls (En G) 21 [.int .i64 w, .int .i64 n] h fun v H => ext h H ∧ ((autoOk w n = false ∧ v = .tup [.sl .nil 0 [], .int .i64 1]) ∨ (autoOk w n = true ∧ ∃ o, h.length ≤ o ∧ v = .tup [.own o 0 n.toNat, .int .i64 0] ∧ H[o]? = some (.live 4 ((List.range n.toNat).map (autoRow (2 ^ w.toNat) n.toNat))))) := by
  refine acalls_of (H := hint [54] []) (enM G) Tryd.func21 rfl (by kernel_rfl) (by kernel_rfl) (Nat.le_of_ble_eq_true (by kernel_rfl)) ?_
  show awp _ _ _ _ _ (endQ _ [.tmp 4, .tmp 5] _)
  rcases Classical.em (w < 1) with h1 | h1
  · have c1 : decide (w < 1) = true := by simp [h1]
    simp -implicitDefEqProofs only [List.getElem?_cons_zero, List.getElem?_cons_succ, hint_md, List.contains_cons, List.contains_nil, Nat.reduceBEq, Bool.or_false, awp_seq, awp_reg, awp_ret, awp_cond, seqQ_n, seqQ_r, end_r2, cond_t, WW_one, WW_nil, WW_guardE, GX_some, gdstO, G1_ft, frz_nil, ownOp, wc_app, wcont_s, upd_app, aput, ev_tmp, ev_const, av_int, av_bool, av_nil, x_move, x_assign, x_pick, pick_t, x_bin, holdsO_ofO, bin_lss, frameOf_zero, ↓reduceIte, Nat.reduceEqDiff, Option.getD_some, Bool.not_false, enP, hint_fz0, c1]
    exact ⟨ext.rfl' _, .inl ⟨by simp [autoOk]; omega, trivial⟩⟩
  have c1 : decide (w < 1) = false := by simp [h1]
  rcases Classical.em (w > 16) with h2 | h2
  · have c2 : decide (w > 16) = true := by simp [h2]
    simp -implicitDefEqProofs only [List.getElem?_cons_zero, List.getElem?_cons_succ, hint_md, List.contains_cons, List.contains_nil, Nat.reduceBEq, Bool.or_false, awp_seq, awp_reg, awp_ret, awp_cond, seqQ_n, seqQ_r, end_r2, cond_t, WW_one, WW_nil, WW_guardE, GX_some, gdstO, G1_ff, G1_ft, frz_nil, ownOp, wc_app, wcont_s, upd_app, aput, ev_tmp, ev_const, av_int, av_bool, av_nil, x_move, x_assign, x_pick, pick_t, pick_f, x_bin, holdsO_ofO, bin_lss, bin_gtr, frameOf_zero, ↓reduceIte, Nat.reduceEqDiff, Option.getD_some, Bool.not_false, enP, hint_fz0, c1, c2]
    exact ⟨ext.rfl' _, .inl ⟨by simp [autoOk]; omega, trivial⟩⟩
  have c2 : decide (w > 16) = false := by simp [h2]
  rcases Classical.em (n < 1) with h3 | h3
  · have c3 : decide (n < 1) = true := by simp [h3]
    simp -implicitDefEqProofs only [List.getElem?_cons_zero, List.getElem?_cons_succ, hint_md, List.contains_cons, List.contains_nil, Nat.reduceBEq, Bool.or_false, awp_seq, awp_reg, awp_ret, awp_cond, seqQ_n, seqQ_r, end_r2, cond_t, WW_one, WW_nil, WW_guardE, GX_some, gdstO, G1_ff, G1_ft, frz_nil, ownOp, wc_app, wcont_s, upd_app, aput, ev_tmp, ev_const, av_int, av_bool, av_nil, x_move, x_assign, x_pick, pick_t, pick_f, x_bin, holdsO_ofO, bin_lss, bin_gtr, frameOf_zero, frameOf_succ, ↓reduceIte, Nat.reduceEqDiff, Option.getD_some, Bool.not_false, enP, hint_fz0, c1, c2, c3]
    exact ⟨ext.rfl' _, .inl ⟨by simp [autoOk]; omega, trivial⟩⟩
  have c3 : decide (n < 1) = false := by simp [h3]
  obtain ⟨W, rfl⟩ : ∃ W : Nat, w = W := ⟨w.toNat, by omega⟩
  obtain ⟨N, rfl⟩ : ∃ N : Nat, n = N := ⟨n.toNat, by omega⟩
  simp only [Int.toNat_natCast]
  have hpw := pow_le16 (show W ≤ 16 by omega)
  have hm : ∀ H, PCall (En G) 42 [.int .i64 (W : Nat)] H (.int .i64 (((2 ^ W : Nat) : Int) - 1)) := fun H => by
    have := mask_prog G (W : Int) H
    rw [if_neg (by omega), Int.toNat_natCast] at this
    simpa using this
  have hok : autoOk (W : Int) (N : Int) = decide ((N : Int) ≤ min 64 ((2 ^ W : Nat) : Int)) := by
    have a1 : decide (1 ≤ (W : Int)) = true := by simp; omega
    have a2 : decide ((W : Int) ≤ 16) = true := by simp; omega
    have a3 : decide (1 ≤ (N : Int)) = true := by simp; omega
    simp only [autoOk, a1, a2, a3, Int.toNat_natCast, Bool.true_and]
  rw [hok]
  generalize hS : 2 ^ W = S at hm hpw
  have w1 : IntKind.i64.wrap ((S : Int) - 1 + 1) = (S : Int) := by rw [wrap_i64 (by omega) (by omega)]; omega
  simp -implicitDefEqProofs only [List.getElem?_cons_zero, List.getElem?_cons_succ, hint_md, List.contains_cons, List.contains_nil, Nat.reduceBEq, Bool.or_false, awp_seq, awp_reg, seqQ_n, WW_one, WW_nil, WW_guardE, GX_some, gdstO, G1_ff, frz_nil, ownOp, wc_app, wcont_s, upd_app, ev_tmp, ev_const, ev_func, av_int, av_bool, av_nil, x_move, x_assign, x_pick, pick_f, x_bin, X1_call, callA_fn, holdsO_ofO, bin_lss, bin_gtr, frameOf_zero, frameOf_succ, List.map_cons, List.map_nil, List.append_nil, ↓reduceIte, Nat.reduceEqDiff, Option.getD_some, Bool.not_false, enP, hint_fz0, c1, c2, c3]
  refine (hm h).use ?_
  simp -implicitDefEqProofs only [List.getElem?_cons_zero, List.getElem?_cons_succ, hint_md, List.contains_cons, List.contains_nil, Nat.reduceBEq, Bool.or_false, awp_cond, seqQ_n, WW_one, WW_nil, WW_guardE, GX_some, gdstO, G1_ff, frz_nil, ownOp, wc_app, wcont_s, upd_app, ev_tmp, ev_const, av_int, av_bool, x_pick, pick_f, x_bin, x_min, holdsO_ofO, bin_add, bin_gtr, min_ii, ↓reduceIte, Nat.reduceEqDiff, Option.getD_some, Bool.not_false, enP, hint_fz0, w1]
  refine cond_of (fun h4 => ?_) (fun h4 => ?_)
  · simp -implicitDefEqProofs only [List.getElem?_cons_zero, List.getElem?_cons_succ, hint_md, List.contains_cons, List.contains_nil, Nat.reduceBEq, Bool.or_false, awp_seq, awp_reg, awp_ret, seqQ_n, seqQ_r, end_r2, WW_one, WW_nil, frz_nil, ownOp, wc_app, wcont_s, upd_app, ev_const, av_int, av_nil, x_assign, ↓reduceIte, Nat.reduceEqDiff, Option.getD_some, Bool.not_false, hint_fz0]
    refine ⟨ext.rfl' _, .inl ⟨?_, trivial⟩⟩
    have h4' := of_decide_eq_true h4
    simp; omega
  have h4' := of_decide_eq_false h4
  have hN : N ≤ 64 := by omega
  simp -implicitDefEqProofs only [List.getElem?_cons_zero, List.getElem?_cons_succ, hint_md, List.contains_cons, List.contains_nil, Nat.reduceBEq, Bool.or_false, awp_seq, awp_reg, awp_skip, seqQ_n, WW_one, frz_nil, ownOp, wc_app, wcont_s, upd_app, ev_tmp, ev_func, x_move, X1_call, callA_fn, frameOf_zero, List.map_cons, List.map_nil, List.append_nil, ↓reduceIte, Nat.reduceEqDiff, Option.getD_some, Bool.not_false, hint_fz0]
  refine (hm h).use ?_
  simp -implicitDefEqProofs only [List.getElem?_cons_zero, List.getElem?_cons_succ, hint_md, List.contains_cons, List.contains_nil, Nat.reduceBEq, Bool.or_false, awp_seq, awp_block, awp_reg, seqQ_n, WW_one, WW_nil, frz_nil, ownOp, wc_app, wcont_s, upd_app, ev_tmp, ev_const, av_int, av_nil, x_move, x_assign, x_bin, holdsO_ofO, bin_add, frameOf_zero, frameOf_succ, ↓reduceIte, Nat.reduceEqDiff, Option.getD_some, Bool.not_false, enP, hint_fz0, w1]
  refine awp_loop (fun m F H => ∃ k, m + k = N ∧ F 1 = .int .i64 (N : Nat) ∧ F 6 = .int .i64 (S : Nat) ∧ F 30 = .int .i64 (N : Nat) ∧ F 31 = .int .i64 (k : Nat) ∧ autoSt S N h k (F 7) H ∧ ext h H) N
    ⟨0, by simp, by simp -implicitDefEqProofs only [List.getElem?_cons_zero, List.getElem?_cons_succ, upd_app, frameOf_zero, frameOf_succ, ↓reduceIte, Nat.reduceEqDiff], by simp -implicitDefEqProofs only [List.getElem?_cons_zero, List.getElem?_cons_succ, upd_app, ↓reduceIte, Nat.reduceEqDiff], by simp -implicitDefEqProofs only [List.getElem?_cons_zero, List.getElem?_cons_succ, upd_app, ↓reduceIte, Nat.reduceEqDiff], by simp -implicitDefEqProofs only [List.getElem?_cons_zero, List.getElem?_cons_succ, upd_app, ↓reduceIte]; rfl, .inl ⟨rfl, by simp -implicitDefEqProofs only [List.getElem?_cons_zero, List.getElem?_cons_succ, upd_app, ↓reduceIte, Nat.reduceEqDiff]⟩, ext.rfl' _⟩ ?_
  rintro m F H ⟨k, hk, f1, f6, f30, f31, hst, hex⟩
  simp -implicitDefEqProofs only [List.getElem?_cons_zero, List.getElem?_cons_succ, hint_md, List.contains_cons, List.contains_nil, Nat.reduceBEq, Bool.or_false, awp_seq, awp_reg, awp_cond, seqQ_n, WW_one, WW_nil, frz_nil, ownOp, wc_app, wcont_s, upd_app, ev_tmp, x_bin, holdsO_ofO, bin_lss, ↓reduceIte, Option.getD_some, Bool.not_false, enP, hint_fz0, f30, f31]
  refine cond_of (fun hc => ?_) (fun hc => ?_)
  · have hc' : k < N := by simpa using hc
    simp -implicitDefEqProofs only [List.getElem?_cons_zero, List.getElem?_cons_succ, hint_md, List.contains_cons, List.contains_nil, Nat.reduceBEq, Bool.or_false, awp_seq, awp_block, awp_reg, awp_skip, seqQ_n, WW_one, WW_nil, frz_nil, ownOp, wc_app, wcont_s, upd_app, ev_tmp, x_move, x_assign, ↓reduceIte, Nat.reduceEqDiff, Option.getD_some, Bool.not_false, hint_fz0, f31]
    refine awp_draw (by kernel_rfl) ?_
    simp -implicitDefEqProofs only [List.getElem?_cons_zero, List.getElem?_cons_succ, hint_md, List.contains_cons, List.contains_nil, Nat.reduceBEq, Bool.or_false, dc_app, dcont_s, DD_one, y_move, y_bin, Y1_call, callP_fn, upd_app, ev_tmp, ev_const, ev_func, av_str, x_bin, List.map_cons, List.map_nil, List.append_nil, ↓reduceIte, Nat.reduceEqDiff, Option.getD_some, enP]
    refine ⟨_, itoa_prog G k (by omega) H, ?_⟩
    obtain ⟨a1, a2, a3⟩ := auto_arith hpw.2 (show k ≤ 64 by omega) 
    obtain ⟨b1, b2, b3⟩ := auto_arith hpw.2 (show k + 1 ≤ 64 by omega)
    have q1 : aBin Tryd.prog 3 .quo (.int .i64 ((k * S : Nat) : Int)) (.int .i64 (N : Int)) = some (.int .i64 ((k * S / N : Nat) : Int)) := by rw [bin_quo _ _ _ _ _ (by omega), a2]
    have q2 : aBin Tryd.prog 3 .quo (.int .i64 (((k + 1) * S : Nat) : Int)) (.int .i64 (N : Int)) = some (.int .i64 (((k + 1) * S / N : Nat) : Int)) := by rw [bin_quo _ _ _ _ _ (by omega), b2]
    have w3 : IntKind.i64.wrap ((((k + 1) * S / N : Nat) : Int) - 1) = (((k + 1) * S / N : Nat) : Int) - 1   := wrap_pred (Nat.le_trans b3 (by decide))
    have hs1 := dec_size k (by omega)
    have hrow : ([AV.str (⟨#[98]⟩ ++ dec k), .int .i64 0, .sl .full 2 [[.int .i64 ((k * S / N : Nat) : Int), .int .i64 ((((k + 1) * S / N : Nat) : Int) - 1)]], .sl .nil 0 []] : List AV) = autoRow S N k := rfl
    have b39 : aBuildSlice Tryd.prog false H 39 1 [(0, .agg (autoRow S N k))] = some (.sl .full 4 [autoRow S N k], H) := bs39 H _ _
    have h1ne : ([autoRow S N k] : List (List AV)) ≠ [] := by simp
    simp -implicitDefEqProofs only [List.getElem?_cons_zero, List.getElem?_cons_succ, evp_nil, evp_cons, hint_md, List.contains_cons, List.contains_nil, Nat.reduceBEq, Bool.or_false, dc_app, dcont_s, DD_one, y_move, y_build, y_buildSlice, y_bin, y_builtin, upd_app, ev_tmp, ev_const, av_int, x_build, x_buildSlice, x_bin, x_append, holdsO_some, holdsO_ofO, bin_add, bin_sub, bin_mul, ↓reduceIte, Nat.reduceEqDiff, Option.getD_some, enP, bin_sadd (show (⟨#[98]⟩ : ByteArray).size + (dec k).size ≤ 9223372036854775807 from Nat.le_trans (Nat.add_le_add_left hs1 1) (by decide)), f6, f1, a1, q1, wrap_succ (show k < 9223372036854775807 by omega), b1, q2, w3, bd33, bs22i, bd29, b39, hrow]
    refine Or.elim hst (fun hh => ?_) (fun hh => ?_)
    · have hk0 := hh.1
      have f7 := hh.2
      simp -implicitDefEqProofs only [List.getElem?_cons_zero, List.getElem?_cons_succ, hint_md, List.contains_cons, List.contains_nil, Nat.reduceBEq, Bool.or_false, dc_app, dcont_s, DD_nil, DD_one, y_assign, awp_reg, seqQ_n, blk_n, rnd_n, WW_one, WW_nil, frz_nil, ownOp, wc_app, wcont_s, upd_app, ev_tmp, ev_const, av_int, x_move, x_bin, holdsO_some, holdsO_ofO, bin_add, ↓reduceIte, Nat.reduceEqDiff, Option.getD_some, Bool.not_false, enP, hint_fz0, f7, app_nil ud39 sz29 zs39 by39 (conts_sl H .full 4 [autoRow S N k]) h1ne (room_of (by simp) (by omega)), f31, wrap_succ (show k < 9223372036854775807 by omega)]
      have e1 : (List.range (k + 1)).map (autoRow S N) = [autoRow S N k] := by rw [hk0]; rfl
      have e2 : ([autoRow S N k] : List (List AV)).length = k + 1 := by rw [hk0]; rfl
      exact ⟨m - 1, by omega, k + 1, by omega, f1, f6, f30, rfl, .inr ⟨by omega, _, hex.le, by rw [← e2], by rw [e1]; simp⟩, hex.app _⟩
    · obtain ⟨hk0, o, ho1, f7, ho⟩ := hh
      have hcn : conts H (.own o 0 k) = some (4, (List.range k).map (autoRow S N)) := by
        rw [conts_own ho (by simp), List.drop_zero, List.take_of_length_le (by simp)]
      simp -implicitDefEqProofs only [List.getElem?_cons_zero, List.getElem?_cons_succ, hint_md, List.contains_cons, List.contains_nil, Nat.reduceBEq, Bool.or_false, dc_app, dcont_s, DD_nil, DD_one, y_assign, awp_reg, seqQ_n, blk_n, rnd_n, WW_one, WW_nil, frz_nil, ownOp, wc_app, wcont_s, upd_app, ev_tmp, ev_const, av_int, x_move, x_bin, holdsO_some, holdsO_ofO, bin_add, ↓reduceIte, Nat.reduceEqDiff, Option.getD_some, Bool.not_false, enP, hint_fz0, f7, app_own ud39 sz29 zs39 by39 hcn (conts_sl H .full 4 [autoRow S N k]) h1ne (room_of (by simp; omega) (by omega)), f31, wrap_succ (show k < 9223372036854775807 by omega)]
      exact ⟨m - 1, by omega, k + 1, by omega, f1, f6, f30, rfl, .inr ⟨by omega, _, hex.le, by simp, by rw [List.range_succ]; simp⟩, (hex.set ho1 _).app _⟩
  · have hc' : ¬ k < N := by simpa using hc
    obtain rfl : k = N := by omega
    obtain ⟨o, ho1, f7, ho⟩ := auto_done (by omega) hst
    simp -implicitDefEqProofs only [List.getElem?_cons_zero, List.getElem?_cons_succ, hint_md, List.contains_cons, List.contains_nil, Nat.reduceBEq, Bool.or_false, awp_seq, awp_reg, awp_ret, awp_exit, seqQ_n, seqQ_e, blk_e, rnd_e, end_r2, WW_one, WW_nil, frz_nil, ownOp, wc_app, wcont_s, upd_app, ev_tmp, ev_const, av_int, x_move, x_assign, ↓reduceIte, Nat.reduceEqDiff, Option.getD_some, Bool.not_false, hint_fz0, f7]
    exact ⟨hex, .inr ⟨by simp; omega, o, ho1, rfl, ho⟩⟩
theorem sl_strTo {P : Program} {t : TypeId} {h : Hp} {s : ByteArray} {kk : IntKind} {u : Nat} (hu : P.underlying t = some .string) (h2 : u ≤ s.size) : aSlice P h t (.str s) none (some (.int kk (u : Int))) none = some (.str (s.extract 0 u)) := by
  have b1 : boundA none (some 0) = some 0 := rfl
  have b2 : boundA (some (.int kk (u : Int))) (some s.size) = some u := by simp [boundA]
  simp only [aSlice, hu, b1, b2]
  rw [if_pos ⟨Nat.zero_le _, h2⟩]
theorem dec_cut : ∀ i : Nat, i < 100 → (dec i ++ ⟨#[59]⟩).extract 0 (dec i).size = dec i := by decide +kernel
theorem dec_cutsz : ∀ i : Nat, i < 100 → (dec i ++ ⟨#[59]⟩).size = (dec i).size + 1 := by decide +kernel

set_option maxRecDepth 8000 in
set_option maxHeartbeats 1000000 in
theorem auto_refA (G : Nat → AV) (w n : Int) (h : Hp) : ACalls (En G) 22 [.int .i64 w, .int .i64 n] h fun v H => ext h H ∧ ((autoOk w n = false ∧ v = .tup [.sl .nil 0 [], .int .i64 1]) ∨ (autoOk w n = true ∧ ∃ o, h.length ≤ o ∧ v = .tup [.own o 0 n.toNat, .int .i64 0] ∧ H[o]? = some (.live 4 ((List.range n.toNat).map (autoRow (2 ^ w.toNat) n.toNat))))) := by
  refine acalls_of (H := hint [56] []) (enM G) Tryd.func22 rfl (by kernel_rfl) (by kernel_rfl) (Nat.le_of_ble_eq_true (by kernel_rfl)) ?_
  show awp _ _ _ _ _ (endQ _ [.tmp 4, .tmp 5] _)
  rcases Classical.em (w < 1) with h1 | h1
  · have c1 : decide (w < 1) = true := by simp [h1]
    simp -implicitDefEqProofs only [List.getElem?_cons_zero, List.getElem?_cons_succ, hint_md, List.contains_cons, List.contains_nil, Nat.reduceBEq, Bool.or_false, awp_seq, awp_reg, awp_ret, awp_cond, seqQ_n, seqQ_r, end_r2, cond_t, WW_one, WW_nil, WW_guardE, GX_some, gdstO, G1_ft, frz_nil, ownOp, wc_app, wcont_s, upd_app, aput, ev_tmp, ev_const, av_int, av_bool, av_nil, x_move, x_assign, x_pick, pick_t, x_bin, holdsO_ofO, bin_lss, frameOf_zero, ↓reduceIte, Nat.reduceEqDiff, Option.getD_some, Bool.not_false, enP, hint_fz0, c1]
    exact ⟨ext.rfl' _, .inl ⟨by simp [autoOk]; omega, trivial⟩⟩
  have c1 : decide (w < 1) = false := by simp [h1]
  rcases Classical.em (w > 16) with h2 | h2
  · have c2 : decide (w > 16) = true := by simp [h2]
    simp -implicitDefEqProofs only [List.getElem?_cons_zero, List.getElem?_cons_succ, hint_md, List.contains_cons, List.contains_nil, Nat.reduceBEq, Bool.or_false, awp_seq, awp_reg, awp_ret, awp_cond, seqQ_n, seqQ_r, end_r2, cond_t, WW_one, WW_nil, WW_guardE, GX_some, gdstO, G1_ff, G1_ft, frz_nil, ownOp, wc_app, wcont_s, upd_app, aput, ev_tmp, ev_const, av_int, av_bool, av_nil, x_move, x_assign, x_pick, pick_t, pick_f, x_bin, holdsO_ofO, bin_lss, bin_gtr, frameOf_zero, ↓reduceIte, Nat.reduceEqDiff, Option.getD_some, Bool.not_false, enP, hint_fz0, c1, c2]
    exact ⟨ext.rfl' _, .inl ⟨by simp [autoOk]; omega, trivial⟩⟩
  have c2 : decide (w > 16) = false := by simp [h2]
  rcases Classical.em (n < 1) with h3 | h3
  · have c3 : decide (n < 1) = true := by simp [h3]
    simp -implicitDefEqProofs only [List.getElem?_cons_zero, List.getElem?_cons_succ, hint_md, List.contains_cons, List.contains_nil, Nat.reduceBEq, Bool.or_false, awp_seq, awp_reg, awp_ret, awp_cond, seqQ_n, seqQ_r, end_r2, cond_t, WW_one, WW_nil, WW_guardE, GX_some, gdstO, G1_ff, G1_ft, frz_nil, ownOp, wc_app, wcont_s, upd_app, aput, ev_tmp, ev_const, av_int, av_bool, av_nil, x_move, x_assign, x_pick, pick_t, pick_f, x_bin, holdsO_ofO, bin_lss, bin_gtr, frameOf_zero, frameOf_succ, ↓reduceIte, Nat.reduceEqDiff, Option.getD_some, Bool.not_false, enP, hint_fz0, c1, c2, c3]
    exact ⟨ext.rfl' _, .inl ⟨by simp [autoOk]; omega, trivial⟩⟩
  have c3 : decide (n < 1) = false := by simp [h3]
  obtain ⟨W, rfl⟩ : ∃ W : Nat, w = W := ⟨w.toNat, by omega⟩
  obtain ⟨N, rfl⟩ : ∃ N : Nat, n = N := ⟨n.toNat, by omega⟩
  simp only [Int.toNat_natCast]
  have hpw := pow_le16 (show W ≤ 16 by omega)
  have hshl : ∀ a : Int, aBin Tryd.prog 3 .shl (.int .i64 a) (.int .i64 (W : Nat)) = some (.int .i64 (IntKind.i64.wrap (a * ((2 ^ W : Nat) : Int)))) := fun a => by
    have hmn : min (W : Int).toNat IntKind.i64.bits = W := by show min (W : Int).toNat 64 = W; omega
    rw [bin_shl _ _ _ _ _ _ (by omega), hmn]; simp
  have hok : autoOk (W : Int) (N : Int) = decide ((N : Int) ≤ min 64 ((2 ^ W : Nat) : Int)) := by
    have a1 : decide (1 ≤ (W : Int)) = true := by simp; omega
    have a2 : decide ((W : Int) ≤ 16) = true := by simp; omega
    have a3 : decide (1 ≤ (N : Int)) = true := by simp; omega
    simp only [autoOk, a1, a2, a3, Int.toNat_natCast, Bool.true_and]
  rw [hok]
  generalize hS : 2 ^ W = S at hshl hpw
  have w1 : IntKind.i64.wrap (1 * (S : Int)) = (S : Int) := by rw [wrap_i64 (by omega) (by omega)]; omega
  simp -implicitDefEqProofs only [List.getElem?_cons_zero, List.getElem?_cons_succ, hint_md, List.contains_cons, List.contains_nil, Nat.reduceBEq, Bool.or_false, awp_seq, awp_reg, awp_cond, seqQ_n, WW_one, WW_nil, WW_guardE, GX_some, gdstO, G1_ff, frz_nil, ownOp, wc_app, wcont_s, upd_app, ev_tmp, ev_const, av_int, av_bool, av_nil, x_move, x_assign, x_pick, pick_f, x_bin, x_min, holdsO_ofO, bin_lss, bin_gtr, min_ii, frameOf_zero, frameOf_succ, ↓reduceIte, Nat.reduceEqDiff, Option.getD_some, Bool.not_false, enP, hint_fz0, c1, c2, c3, hshl, w1]
  refine cond_of (fun h4 => ?_) (fun h4 => ?_)
  · simp -implicitDefEqProofs only [List.getElem?_cons_zero, List.getElem?_cons_succ, hint_md, List.contains_cons, List.contains_nil, Nat.reduceBEq, Bool.or_false, awp_seq, awp_reg, awp_ret, seqQ_n, seqQ_r, end_r2, WW_one, WW_nil, frz_nil, ownOp, wc_app, wcont_s, upd_app, ev_const, av_int, av_nil, x_assign, ↓reduceIte, Nat.reduceEqDiff, Option.getD_some, Bool.not_false, hint_fz0]
    refine ⟨ext.rfl' _, .inl ⟨?_, trivial⟩⟩
    have h4' := of_decide_eq_true h4
    simp; omega
  have h4' := of_decide_eq_false h4
  have hN : N ≤ 64 := by omega
  simp -implicitDefEqProofs only [List.getElem?_cons_zero, List.getElem?_cons_succ, hint_md, List.contains_cons, List.contains_nil, Nat.reduceBEq, Bool.or_false, awp_seq, awp_block, awp_reg, awp_skip, seqQ_n, WW_one, WW_nil, frz_nil, ownOp, wc_app, wcont_s, ev_const, av_int, av_nil, x_assign, Option.getD_some, Bool.not_false, hint_fz0]
  refine awp_loop (fun m F H => ∃ k, m + k = N ∧ F 0 = .int .i64 (W : Nat) ∧ F 1 = .int .i64 (N : Nat) ∧ F 7 = .int .i64 (k : Nat) ∧ autoSt S N h k (F 6) H ∧ ext h H) N
    ⟨0, by simp, by simp -implicitDefEqProofs only [List.getElem?_cons_zero, List.getElem?_cons_succ, upd_app, frameOf_zero, ↓reduceIte, Nat.reduceEqDiff], by simp -implicitDefEqProofs only [List.getElem?_cons_zero, List.getElem?_cons_succ, upd_app, frameOf_zero, frameOf_succ, ↓reduceIte, Nat.reduceEqDiff], by simp -implicitDefEqProofs only [List.getElem?_cons_zero, List.getElem?_cons_succ, upd_app, ↓reduceIte]; rfl, .inl ⟨rfl, by simp -implicitDefEqProofs only [List.getElem?_cons_zero, List.getElem?_cons_succ, upd_app, ↓reduceIte, Nat.reduceEqDiff]⟩, ext.rfl' _⟩ ?_
  rintro m F H ⟨k, hk, f0, f1, f7, hst, hex⟩
  simp -implicitDefEqProofs only [List.getElem?_cons_zero, List.getElem?_cons_succ, hint_md, List.contains_cons, List.contains_nil, Nat.reduceBEq, Bool.or_false, awp_seq, awp_reg, awp_cond, seqQ_n, WW_one, WW_nil, frz_nil, ownOp, wc_app, wcont_s, upd_app, ev_tmp, x_move, x_bin, holdsO_ofO, bin_lss, ↓reduceIte, Nat.reduceEqDiff, Option.getD_some, Bool.not_false, enP, hint_fz0, f1, f7]
  refine cond_of (fun hc => ?_) (fun hc => ?_)
  · have hc' : k < N := by simpa using hc
    simp -implicitDefEqProofs only [List.getElem?_cons_zero, List.getElem?_cons_succ, hint_md, List.contains_cons, List.contains_nil, Nat.reduceBEq, Bool.or_false, awp_seq, awp_block, awp_reg, awp_skip, seqQ_n, WW_one, frz_nil, ownOp, wc_app, wcont_s, upd_app, ev_tmp, ev_func, x_move, X1_call, callA_fn, List.map_cons, List.map_nil, List.append_nil, ↓reduceIte, Nat.reduceEqDiff, Option.getD_some, Bool.not_false, hint_fz0, f7]
    refine (number_ref G k (by omega) H).use ?_
    simp -implicitDefEqProofs only [List.getElem?_cons_zero, List.getElem?_cons_succ, hint_md, List.contains_cons, List.contains_nil, Nat.reduceBEq, Bool.or_false, seqQ_n, WW_one, WW_nil, frz_nil, ownOp, wc_app, wcont_s, upd_app, ev_tmp, x_assign, ↓reduceIte, Option.getD_some, Bool.not_false, hint_fz0]
    refine awp_draw (by kernel_rfl) ?_
    obtain ⟨a1, a2, a3⟩ := auto_arith (N := N) hpw.2 (show k ≤ 64 by omega)
    obtain ⟨b1, b2, b3⟩ := auto_arith (N := N) hpw.2 (show k + 1 ≤ 64 by omega)
    have q1 : aBin Tryd.prog 3 .quo (.int .i64 ((k * S : Nat) : Int)) (.int .i64 (N : Int)) = some (.int .i64 ((k * S / N : Nat) : Int)) := by rw [bin_quo _ _ _ _ _ (by omega), a2]
    have q2 : aBin Tryd.prog 3 .quo (.int .i64 (((k + 1) * S : Nat) : Int)) (.int .i64 (N : Int)) = some (.int .i64 (((k + 1) * S / N : Nat) : Int)) := by rw [bin_quo _ _ _ _ _ (by omega), b2]
    have w3 : IntKind.i64.wrap ((((k + 1) * S / N : Nat) : Int) - 1) = (((k + 1) * S / N : Nat) : Int) - 1  := wrap_pred (Nat.le_trans b3 (by decide))
    have hs1 := dec_size k (by omega)
    have hcz := dec_cutsz k (by omega)
    have hct := dec_cut k (by omega)
    have w5 : IntKind.i64.wrap ((((dec k).size + 1 : Nat) : Int) - 1) = ((dec k).size : Int) := by rw [wrap_i64 (by omega) (by omega)]; omega
    have esl : ∀ H, aSlice Tryd.prog H 9 (.str (dec k ++ ⟨#[59]⟩)) none (some (.int .i64 ((dec k).size : Int))) none = some (.str (dec k)) := fun H => by
      rw [sl_strTo Tryd.underlying9 (by omega), hct]
    have hrow : ([AV.str (⟨#[98]⟩ ++ dec k), .int .i64 0, .sl .full 2 [[.int .i64 ((k * S / N : Nat) : Int), .int .i64 ((((k + 1) * S / N : Nat) : Int) - 1)]], .sl .nil 0 []] : List AV) = autoRow S N k := rfl
    have b39 : aBuildSlice Tryd.prog false H 39 1 [(0, .agg (autoRow S N k))] = some (.sl .full 4 [autoRow S N k], H) := bs39 H _ _
    have h1ne : ([autoRow S N k] : List (List AV)) ≠ [] := by simp
    simp -implicitDefEqProofs only [Option.map_some, Option.map_none, List.getElem?_cons_zero, List.getElem?_cons_succ, evp_nil, evp_cons, hint_md, List.contains_cons, List.contains_nil, Nat.reduceBEq, Bool.or_false, dc_app, dcont_s, DD_one, y_move, y_build, y_buildSlice, y_bin, y_slice, y_builtin, upd_app, ev_tmp, ev_const, av_int, av_str, x_build, x_buildSlice, x_bin, x_slice, x_len, x_append, holdsO_some, holdsO_ofO, bin_add, bin_sub, ↓reduceIte, Nat.reduceEqDiff, Option.getD_some, enP, ln9, hcz, w5, esl, bin_sadd (show (⟨#[98]⟩ : ByteArray).size + (dec k).size ≤ 9223372036854775807 from Nat.le_trans (Nat.add_le_add_left hs1 1) (by decide)), f7, f0, f1, hshl, a1, q1, wrap_succ (show k < 9223372036854775807 by omega), b1, q2, w3, bd33, bs22i, bd29, b39, hrow]
    refine Or.elim hst (fun hh => ?_) (fun hh => ?_)
    · have hk0 := hh.1
      have f6 := hh.2
      simp -implicitDefEqProofs only [List.getElem?_cons_zero, List.getElem?_cons_succ, hint_md, List.contains_cons, List.contains_nil, Nat.reduceBEq, Bool.or_false, dc_app, dcont_s, DD_nil, DD_one, y_assign, awp_reg, seqQ_n, blk_n, rnd_n, WW_one, WW_nil, frz_nil, ownOp, wc_app, wcont_s, upd_app, ev_tmp, ev_const, av_int, x_move, x_assign, x_bin, holdsO_some, holdsO_ofO, bin_add, ↓reduceIte, Nat.reduceEqDiff, Option.getD_some, Bool.not_false, enP, hint_fz0, f6, app_nil ud39 sz29 zs39 by39 (conts_sl H .full 4 [autoRow S N k]) h1ne (room_of (by simp) (by omega)), f7, wrap_succ (show k < 9223372036854775807 by omega)]
      have e1 : (List.range (k + 1)).map (autoRow S N) = [autoRow S N k] := by rw [hk0]; rfl
      have e2 : ([autoRow S N k] : List (List AV)).length = k + 1 := by rw [hk0]; rfl
      exact ⟨m - 1, by omega, k + 1, by omega, f0, f1, rfl, .inr ⟨by omega, _, hex.le, by rw [← e2], by rw [e1]; simp⟩, hex.app _⟩
    · obtain ⟨hk0, o, ho1, f6, ho⟩ := hh
      have hcn : conts H (.own o 0 k) = some (4, (List.range k).map (autoRow S N)) := by
        rw [conts_own ho (by simp), List.drop_zero, List.take_of_length_le (by simp)]
      simp -implicitDefEqProofs only [List.getElem?_cons_zero, List.getElem?_cons_succ, hint_md, List.contains_cons, List.contains_nil, Nat.reduceBEq, Bool.or_false, dc_app, dcont_s, DD_nil, DD_one, y_assign, awp_reg, seqQ_n, blk_n, rnd_n, WW_one, WW_nil, frz_nil, ownOp, wc_app, wcont_s, upd_app, ev_tmp, ev_const, av_int, x_move, x_assign, x_bin, holdsO_some, holdsO_ofO, bin_add, ↓reduceIte, Nat.reduceEqDiff, Option.getD_some, Bool.not_false, enP, hint_fz0, f6, app_own ud39 sz29 zs39 by39 hcn (conts_sl H .full 4 [autoRow S N k]) h1ne (room_of (by simp; omega) (by omega)), f7, wrap_succ (show k < 9223372036854775807 by omega)]
      exact ⟨m - 1, by omega, k + 1, by omega, f0, f1, rfl, .inr ⟨by omega, _, hex.le, by simp, by rw [List.range_succ]; simp⟩, (hex.set ho1 _).app _⟩
  · have hc' : ¬ k < N := by simpa using hc
    obtain rfl : k = N := by omega
    obtain ⟨o, ho1, f6, ho⟩ := auto_done (by omega) hst
    simp -implicitDefEqProofs only [List.getElem?_cons_zero, List.getElem?_cons_succ, hint_md, List.contains_cons, List.contains_nil, Nat.reduceBEq, Bool.or_false, awp_seq, awp_reg, awp_ret, awp_exit, seqQ_n, seqQ_e, blk_e, rnd_e, end_r2, WW_one, WW_nil, frz_nil, ownOp, wc_app, wcont_s, upd_app, ev_tmp, ev_const, av_int, x_move, x_assign, ↓reduceIte, Nat.reduceEqDiff, Option.getD_some, Bool.not_false, hint_fz0, f6]
    exact ⟨hex, .inr ⟨by simp; omega, o, ho1, rfl, ho⟩⟩
theorem auto_prog (G : Nat → AV) (w n : Int) (h : Hp) : PCall (En G) 21 [.int .i64 w, .int .i64 n] h (autoV w n) := auto_pure (auto_progA G w n h)
theorem auto_ref (G : Nat → AV) (w n : Int) (h : Hp) : PCall (En G) 22 [.int .i64 w, .int .i64 n] h (autoV w n) := auto_pure (auto_refA G w n h)
end Go.Proofs.YtpdohkcjhphibaaDoor.Bins
