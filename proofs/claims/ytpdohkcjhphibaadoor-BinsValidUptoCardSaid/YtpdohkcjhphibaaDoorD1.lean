/- The contracts of Size on both sides; no condition. -/
import Derived.Test.YtpdohkcjhphibaaDoorBt
import Derived.Test.YtpdohkcjhphibaaDoorC4
import Derived.Test.YtpdohkcjhphibaaDoorB8
set_option linter.unusedVariables false
set_option linter.unusedSimpArgs false
namespace Go.Proofs.YtpdohkcjhphibaaDoor.Bins
open Go Go.Proofs.YtpdohkcjhphibaaDoor.Sm

theorem normal_ref (G : Nat → AV) (xs : List Rng) (m : SM) (h : Hp) (hl : xs.length ≤ 8388608) : PCall (En G) 13 [.sl m 2 (xs.map encR)] h (.sl (nm (normal xs)) 2 ((normal xs).map encR)) :=
  outR_pure (normal_refA G xs m h hl)
theorem normal_len (xs : List Rng) : (normal xs).length ≤ xs.length := by
  have h1 := joins_len ((xs.filter full).mergeSort byLo) []
  have h2 : (xs.filter full).length ≤ xs.length := List.length_filter_le _ _
  simp [List.length_mergeSort] at h1
  unfold normal joinAll
  omega
def addR (n : Int) (r : Rng) : Int := IntKind.i64.wrap (n + (r.hi - r.lo) + 1)
def rsz (xs : List Rng) : Int := (normal xs).foldl addR 0
def mulS (o : Int) (l : Rs) : Int := min (IntKind.i64.wrap (o * rsz l.l)) 1099511627776
def size (b : Bin) : Int := if validE b = 0 then (sets b).foldl mulS 1 else 0
theorem wrap_sum (n a b : Int) : IntKind.i64.wrap (n + IntKind.i64.wrap (IntKind.i64.wrap (a - b) + 1)) = IntKind.i64.wrap (n + (a - b) + 1) := by
  unfold IntKind.wrap IntKind.bits IntKind.signed
  simp
  omega
theorem wrap_sum2 (n a b : Int) : IntKind.i64.wrap (IntKind.i64.wrap (IntKind.i64.wrap (n + a) - b) + 1) = IntKind.i64.wrap (n + (a - b) + 1) := by
  unfold IntKind.wrap IntKind.bits IntKind.signed
  simp
  omega
theorem foldl_take {α β : Type} (f : β → α → β) (b : β) (xs : List α) (k : Nat) (h : k < xs.length) : (xs.take (k+1)).foldl f b = f ((xs.take k).foldl f b) xs[k] := by
  rw [List.take_succ_eq_append_getElem h, List.foldl_append]; rfl
structure BinSmall (b : Bin) : Prop where
  ok : BinOk b
  small : ∀ l ∈ sets b, l.l.length ≤ 8388608

theorem size_prog (G : Nat → AV) (hG : KwG G) (b : Bin) (hb : BinSmall b) (h : Hp) : PCall (En G) 19 [.agg (encB b)] h (.int .i64 (size b)) := by
  refine ACalls.pure0 rfl ?_
  refine acalls_of (H := Hint.none) (enM G) Tryd.func19 rfl (by kernel_rfl) (by kernel_rfl) (Nat.le_of_ble_eq_true (by kernel_rfl)) ?_
  show awp _ _ _ _ _ (endQ _ [.tmp 2] _)
  simp -implicitDefEqProofs only [List.getElem?_cons_zero, List.getElem?_cons_succ, awp_seq, awp_reg, seqQ_n, WW_one, WW_nil, none_md, none_fz, frz_nil, ownOp, wc_app, wcont_s, upd_app, ev_tmp, ev_const, ev_func, av_int, x_assign, x_box, x_load, X1_call, callA_fn, holdsO_some, holdsO_ofO, frameOf_zero, List.map_cons, List.map_nil, List.append_nil, ↓reduceIte, Nat.reduceEqDiff, Option.getD_some, Bool.not_false, enP, bxB, ldB]
  refine (valid_prog G hG b hb.ok _).use ?_
  simp -implicitDefEqProofs only [List.getElem?_cons_zero, List.getElem?_cons_succ, awp_cond, seqQ_n, WW_one, WW_nil, none_md, none_fz, frz_nil, ownOp, wc_app, wcont_s, upd_app, ev_tmp, ev_const, av_int, x_bin, holdsO_ofO, bin_neq, ↓reduceIte, Option.getD_some, Bool.not_false, enP]
  refine cond_of (fun hv => ?_) (fun hv => ?_)
  · simp -implicitDefEqProofs only [List.getElem?_cons_zero, List.getElem?_cons_succ, awp_seq, awp_reg, awp_ret, seqQ_n, seqQ_r, end_r, WW_one, WW_nil, none_md, none_fz, frz_nil, ownOp, wc_app, wcont_s, upd_app, ev_const, av_int, x_assign, ↓reduceIte, Option.getD_some, Bool.not_false]
    refine ⟨?_, _, rfl⟩
    have : validE b ≠ 0 := by simpa using hv
    simp [size, this]
  have hv0 : validE b = 0 := by simpa using hv
  have hnum := hb.ok.num
  simp -implicitDefEqProofs only [List.getElem?_cons_zero, List.getElem?_cons_succ, awp_seq, awp_reg, awp_skip, seqQ_n, WW_one, WW_nil, none_md, none_fz, frz_nil, ownOp, wc_app, wcont_s, upd_app, ev_tmp, ev_const, ev_func, av_int, x_assign, x_load, X1_call, callA_fn, holdsO_ofO, List.map_cons, List.map_nil, List.append_nil, ↓reduceIte, Nat.reduceEqDiff, Option.getD_some, Bool.not_false, enP, ldB]
  refine (sets_prog G b _).use ?_
  simp -implicitDefEqProofs only [List.getElem?_cons_zero, List.getElem?_cons_succ, awp_block, seqQ_n, WW_one, WW_nil, none_md, none_fz, frz_nil, ownOp, wc_app, wcont_s, upd_app, ev_tmp, ev_const, av_int, x_move, x_len, holdsO_ofO, ↓reduceIte, Option.getD_some, Bool.not_false, enP, ln27, List.length_map]
  refine awp_loop (fun n F H => ∃ k, n + k = (sets b).length ∧ F 13 = .sl (setsM b) 1 ((sets b).map encS) ∧ F 14 = .int .i64 (sets b).length ∧ F 15 = .int .i64 (k : Nat) ∧ F 3 = .int .i64 (((sets b).take k).foldl mulS 1) ∧ ext h H) (sets b).length
    ⟨0, by simp, by simp -implicitDefEqProofs only [List.getElem?_cons_zero, List.getElem?_cons_succ, upd_app, ↓reduceIte, Nat.reduceEqDiff], by simp -implicitDefEqProofs only [List.getElem?_cons_zero, List.getElem?_cons_succ, upd_app, ↓reduceIte, Nat.reduceEqDiff], by simp -implicitDefEqProofs only [List.getElem?_cons_zero, List.getElem?_cons_succ, upd_app, ↓reduceIte]; rfl, by simp -implicitDefEqProofs only [List.getElem?_cons_zero, List.getElem?_cons_succ, upd_app, ↓reduceIte, Nat.reduceEqDiff]; rfl, ⟨_, rfl⟩⟩ ?_
  rintro n F H ⟨k, hk, f13, f14, f15, f3, hex⟩
  simp -implicitDefEqProofs only [List.getElem?_cons_zero, List.getElem?_cons_succ, awp_seq, awp_reg, awp_cond, seqQ_n, WW_one, WW_nil, none_md, none_fz, frz_nil, ownOp, wc_app, wcont_s, upd_app, ev_tmp, x_bin, holdsO_ofO, bin_lss, ↓reduceIte, Option.getD_some, Bool.not_false, enP, f14, f15]
  refine cond_of (fun hc => ?_) (fun hc => ?_)
  · have hc' : k < (sets b).length := by simpa using hc
    have hsm := hb.small _ (List.getElem_mem hc')
    have hfold := foldl_take mulS 1 (sets b) k hc'
    generalize ((sets b).take k).foldl mulS 1 = acc at f3 hfold
    generalize hrs : (sets b)[k] = rs at hsm hfold
    have e5 : aLoad Tryd.prog H 22 (.fptr 1 ((sets b).map encS) k 0) = some (.sl rs.m 2 (rs.l.map encR)) := by rw [load_map ag22 hc', hrs]; rfl
    simp -implicitDefEqProofs only [List.getElem?_cons_zero, List.getElem?_cons_succ, awp_seq, awp_block, awp_reg, awp_skip, seqQ_n, WW_one, WW_nil, none_md, none_fz, frz_nil, ownOp, wc_app, wcont_s, upd_app, ev_tmp, ev_const, ev_func, av_int, x_move, x_assign, x_load, x_indexAddr, X1_call, callA_fn, holdsO_ofO, List.map_cons, List.map_nil, List.append_nil, ↓reduceIte, Nat.reduceEqDiff, Option.getD_some, Bool.not_false, enP, ix27, f13, f15, ix_map hc', e5]
    refine (normal_prog' G rs.l rs.m H hsm).use ?_
    have hnl := normal_len rs.l
    simp -implicitDefEqProofs only [List.getElem?_cons_zero, List.getElem?_cons_succ, awp_block, seqQ_n, WW_one, WW_nil, none_md, none_fz, frz_nil, ownOp, wc_app, wcont_s, upd_app, ev_tmp, ev_const, av_int, x_move, x_len, holdsO_ofO, ↓reduceIte, Option.getD_some, Bool.not_false, enP, ln22, List.length_map]
    refine awp_loop (fun n2 F H2 => ∃ j, n2 + j = (normal rs.l).length ∧ F 13 = .sl (setsM b) 1 ((sets b).map encS) ∧ F 14 = .int .i64 (sets b).length ∧ F 15 = .int .i64 (k : Nat) ∧ F 3 = .int .i64 acc ∧
      F 20 = .sl (nm (normal rs.l)) 2 ((normal rs.l).map encR) ∧ F 21 = .int .i64 (normal rs.l).length ∧ F 22 = .int .i64 (j : Nat) ∧ F 6 = .int .i64 (((normal rs.l).take j).foldl addR 0) ∧ ext h H2) (normal rs.l).length
      ⟨0, by simp, by simp -implicitDefEqProofs only [List.getElem?_cons_zero, List.getElem?_cons_succ, upd_app, ↓reduceIte, Nat.reduceEqDiff, f13], by simp -implicitDefEqProofs only [List.getElem?_cons_zero, List.getElem?_cons_succ, upd_app, ↓reduceIte, Nat.reduceEqDiff, f14], by simp -implicitDefEqProofs only [List.getElem?_cons_zero, List.getElem?_cons_succ, upd_app, ↓reduceIte, Nat.reduceEqDiff, f15], by simp -implicitDefEqProofs only [List.getElem?_cons_zero, List.getElem?_cons_succ, upd_app, ↓reduceIte, Nat.reduceEqDiff, f3], by simp -implicitDefEqProofs only [List.getElem?_cons_zero, List.getElem?_cons_succ, upd_app, ↓reduceIte, Nat.reduceEqDiff], by simp -implicitDefEqProofs only [List.getElem?_cons_zero, List.getElem?_cons_succ, upd_app, ↓reduceIte, Nat.reduceEqDiff], by simp -implicitDefEqProofs only [List.getElem?_cons_zero, List.getElem?_cons_succ, upd_app, ↓reduceIte]; rfl, by simp -implicitDefEqProofs only [List.getElem?_cons_zero, List.getElem?_cons_succ, upd_app, ↓reduceIte, Nat.reduceEqDiff]; rfl, hex⟩ ?_
    clear f13 f14 f15 f3 hex e5
    rintro n2 F H2 ⟨j, hj, f13, f14, f15, f3, f20, f21, f22, f6, hex⟩
    simp -implicitDefEqProofs only [List.getElem?_cons_zero, List.getElem?_cons_succ, awp_seq, awp_reg, awp_cond, seqQ_n, WW_one, WW_nil, none_md, none_fz, frz_nil, ownOp, wc_app, wcont_s, upd_app, ev_tmp, x_bin, holdsO_ofO, bin_lss, ↓reduceIte, Option.getD_some, Bool.not_false, enP, f21, f22]
    refine cond_of (fun hd => ?_) (fun hd => ?_)
    · have hd' : j < (normal rs.l).length := by simpa using hd
      have e1 : aLoad Tryd.prog H2 33 (.fptr 2 ((normal rs.l).map encR) j 0) = some (.agg (encR (normal rs.l)[j])) := load_mapA ag33 sz33 encR_len hd'
      have hfold2 := foldl_take addR 0 (normal rs.l) j hd'
      simp -implicitDefEqProofs only [List.getElem?_cons_zero, List.getElem?_cons_succ, awp_seq, awp_block, awp_reg, awp_skip, seqQ_n, blk_n, rnd_n, WW_one, WW_nil, none_md, none_fz, frz_nil, ownOp, wc_app, wcont_s, wcont_n, upd_app, ev_tmp, ev_const, av_int, x_move, x_assign, x_alloc, x_load, x_store, x_bin, x_fieldAddr, x_indexAddr, holdsO_some, holdsO_ofO, holdsO_ofS, bin_add, bin_sub, ↓reduceIte, Nat.reduceEqDiff, Nat.add_zero, Nat.zero_add, Option.getD_some, Bool.not_false, enP, ix22, fa33_0, fa33_1, f20, f22, ix_map hd', e1, al33, st33 _ _ [.int .i64 0, .int .i64 0] rfl, f6, load_last ag3, encR0, encR1, wrap_succ (show j < 9223372036854775807 by omega), wrap_sum]
      refine ⟨n2 - 1, by omega, j + 1, by omega, f13, f14, f15, f3, trivial, f21, rfl, ?_, hex.app _⟩
      rw [hfold2]; rfl
    · have hd' : ¬ j < (normal rs.l).length := by simpa using hd
      have hjl : j = (normal rs.l).length := by omega
      subst hjl
      rw [List.take_length] at f6
      simp -implicitDefEqProofs only [List.getElem?_cons_zero, List.getElem?_cons_succ, awp_reg, awp_exit, seqQ_n, seqQ_e, blk_n, blk_e, rnd_n, rnd_e, WW_one, WW_nil, none_md, none_fz, frz_nil, ownOp, wc_app, wcont_s, upd_app, ev_tmp, ev_const, av_int, x_move, x_assign, x_bin, x_min, holdsO_ofO, bin_add, bin_mul, min_ii, ↓reduceIte, Nat.reduceEqDiff, Option.getD_some, Bool.not_false, enP, f3, f6, f15, wrap_succ (show k < 9223372036854775807 by omega)]
      refine ⟨n - 1, by omega, k + 1, by omega, f13, f14, rfl, ?_, hex⟩
      rw [hfold]; rfl
  · have hc' : ¬ k < (sets b).length := by simpa using hc
    have hkl : k = (sets b).length := by omega
    subst hkl
    rw [List.take_length] at f3
    simp -implicitDefEqProofs only [List.getElem?_cons_zero, List.getElem?_cons_succ, awp_seq, awp_reg, awp_ret, awp_exit, seqQ_n, seqQ_e, blk_e, rnd_e, end_r, WW_one, WW_nil, none_md, none_fz, frz_nil, ownOp, wc_app, wcont_s, upd_app, ev_tmp, x_move, x_assign, ↓reduceIte, Nat.reduceEqDiff, Option.getD_some, Bool.not_false, f3]
    exact ⟨by simp [size, hv0], hex⟩

theorem size_ref (G : Nat → AV) (b : Bin) (hb : BinSmall b) (h : Hp) : PCall (En G) 20 [.agg (encB b)] h (.int .i64 (size b)) := by
  refine ACalls.pure0 rfl ?_
  refine acalls_of (H := Hint.none) (enM G) Tryd.func20 rfl (by kernel_rfl) (by kernel_rfl) (Nat.le_of_ble_eq_true (by kernel_rfl)) ?_
  show awp _ _ _ _ _ (endQ _ [.tmp 2] _)
  simp -implicitDefEqProofs only [List.getElem?_cons_zero, List.getElem?_cons_succ, awp_seq, awp_reg, seqQ_n, WW_one, WW_nil, none_md, none_fz, frz_nil, ownOp, wc_app, wcont_s, upd_app, ev_tmp, ev_const, ev_func, av_int, x_assign, x_box, x_load, X1_call, callA_fn, holdsO_some, holdsO_ofO, frameOf_zero, List.map_cons, List.map_nil, List.append_nil, ↓reduceIte, Nat.reduceEqDiff, Option.getD_some, Bool.not_false, enP, bxB, ldB]
  refine (valid_ref G b hb.ok _).use ?_
  simp -implicitDefEqProofs only [List.getElem?_cons_zero, List.getElem?_cons_succ, awp_cond, seqQ_n, WW_one, WW_nil, none_md, none_fz, frz_nil, ownOp, wc_app, wcont_s, upd_app, ev_tmp, ev_const, av_int, x_bin, holdsO_ofO, bin_neq, ↓reduceIte, Option.getD_some, Bool.not_false, enP]
  refine cond_of (fun hv => ?_) (fun hv => ?_)
  · simp -implicitDefEqProofs only [List.getElem?_cons_zero, List.getElem?_cons_succ, awp_seq, awp_reg, awp_ret, seqQ_n, seqQ_r, end_r, WW_one, WW_nil, none_md, none_fz, frz_nil, ownOp, wc_app, wcont_s, upd_app, ev_const, av_int, x_assign, ↓reduceIte, Option.getD_some, Bool.not_false]
    refine ⟨?_, _, rfl⟩
    have : validE b ≠ 0 := by simpa using hv
    simp [size, this]
  have hv0 : validE b = 0 := by simpa using hv
  have hnum := hb.ok.num
  simp -implicitDefEqProofs only [List.getElem?_cons_zero, List.getElem?_cons_succ, awp_seq, awp_reg, awp_skip, seqQ_n, WW_one, none_md, none_fz, frz_nil, ownOp, wc_app, wcont_s, upd_app, ev_tmp, ev_func, x_load, X1_call, callA_fn, holdsO_ofO, List.map_cons, List.map_nil, List.append_nil, ↓reduceIte, Nat.reduceEqDiff, Option.getD_some, Bool.not_false, enP, ldB]
  refine (sets_ref G b _).use ?_
  simp -implicitDefEqProofs only [List.getElem?_cons_zero, List.getElem?_cons_succ, awp_seq, awp_block, awp_reg, seqQ_n, WW_one, WW_nil, none_md, none_fz, frz_nil, ownOp, wc_app, wcont_s, upd_app, ev_tmp, ev_const, av_int, x_assign, ↓reduceIte, Option.getD_some, Bool.not_false]
  refine awp_loop (fun n F H => ∃ k, n + k = (sets b).length ∧ F 3 = .sl (setsM b) 1 ((sets b).map encS) ∧ F 5 = .int .i64 (k : Nat) ∧ F 4 = .int .i64 (((sets b).take k).foldl mulS 1) ∧ ext h H) (sets b).length
    ⟨0, by simp, by simp -implicitDefEqProofs only [List.getElem?_cons_zero, List.getElem?_cons_succ, upd_app, ↓reduceIte, Nat.reduceEqDiff], by simp -implicitDefEqProofs only [List.getElem?_cons_zero, List.getElem?_cons_succ, upd_app, ↓reduceIte]; rfl, by simp -implicitDefEqProofs only [List.getElem?_cons_zero, List.getElem?_cons_succ, upd_app, ↓reduceIte, Nat.reduceEqDiff]; rfl, ⟨_, rfl⟩⟩ ?_
  rintro n F H ⟨k, hk, f3, f5, f4, hex⟩
  simp -implicitDefEqProofs only [List.getElem?_cons_zero, List.getElem?_cons_succ, awp_seq, awp_reg, awp_cond, seqQ_n, WW_one, WW_nil, none_md, none_fz, frz_nil, ownOp, wc_app, wcont_s, upd_app, ev_tmp, x_move, x_bin, x_len, holdsO_ofO, bin_lss, ↓reduceIte, Nat.reduceEqDiff, Option.getD_some, Bool.not_false, enP, ln27, f3, f5, List.length_map]
  refine cond_of (fun hc => ?_) (fun hc => ?_)
  · have hc' : k < (sets b).length := by simpa using hc
    have hsm := hb.small _ (List.getElem_mem hc')
    have hfold := foldl_take mulS 1 (sets b) k hc'
    generalize ((sets b).take k).foldl mulS 1 = acc at f4 hfold
    generalize hrs : (sets b)[k] = rs at hsm hfold
    have e5 : aLoad Tryd.prog H 22 (.fptr 1 ((sets b).map encS) k 0) = some (.sl rs.m 2 (rs.l.map encR)) := by rw [load_map ag22 hc', hrs]; rfl
    simp -implicitDefEqProofs only [List.getElem?_cons_zero, List.getElem?_cons_succ, awp_seq, awp_block, awp_reg, awp_skip, seqQ_n, WW_one, none_md, none_fz, frz_nil, ownOp, wc_app, wcont_s, upd_app, ev_tmp, ev_func, x_move, x_load, x_indexAddr, X1_call, callA_fn, holdsO_ofO, List.map_cons, List.map_nil, List.append_nil, ↓reduceIte, Nat.reduceEqDiff, Option.getD_some, Bool.not_false, enP, ix27, f3, f5, ix_map hc', e5]
    refine (normal_ref G rs.l rs.m H hsm).use ?_
    have hnl := normal_len rs.l
    simp -implicitDefEqProofs only [List.getElem?_cons_zero, List.getElem?_cons_succ, awp_seq, awp_block, awp_reg, seqQ_n, WW_one, WW_nil, none_md, none_fz, frz_nil, ownOp, wc_app, wcont_s, upd_app, ev_tmp, ev_const, av_int, x_assign, ↓reduceIte, Option.getD_some, Bool.not_false]
    refine awp_loop (fun n2 F H2 => ∃ j, n2 + j = (normal rs.l).length ∧ F 3 = .sl (setsM b) 1 ((sets b).map encS) ∧ F 5 = .int .i64 (k : Nat) ∧ F 4 = .int .i64 acc ∧
      F 6 = .sl (nm (normal rs.l)) 2 ((normal rs.l).map encR) ∧ F 8 = .int .i64 (j : Nat) ∧ F 7 = .int .i64 (((normal rs.l).take j).foldl addR 0) ∧ ext h H2) (normal rs.l).length
      ⟨0, by simp, by simp -implicitDefEqProofs only [List.getElem?_cons_zero, List.getElem?_cons_succ, upd_app, ↓reduceIte, Nat.reduceEqDiff, f3], by simp -implicitDefEqProofs only [List.getElem?_cons_zero, List.getElem?_cons_succ, upd_app, ↓reduceIte, Nat.reduceEqDiff, f5], by simp -implicitDefEqProofs only [List.getElem?_cons_zero, List.getElem?_cons_succ, upd_app, ↓reduceIte, Nat.reduceEqDiff, f4], by simp -implicitDefEqProofs only [List.getElem?_cons_zero, List.getElem?_cons_succ, upd_app, ↓reduceIte, Nat.reduceEqDiff], by simp -implicitDefEqProofs only [List.getElem?_cons_zero, List.getElem?_cons_succ, upd_app, ↓reduceIte]; rfl, by simp -implicitDefEqProofs only [List.getElem?_cons_zero, List.getElem?_cons_succ, upd_app, ↓reduceIte, Nat.reduceEqDiff]; rfl, hex⟩ ?_
    clear f3 f5 f4 hex e5
    rintro n2 F H2 ⟨j, hj, f3, f5, f4, f6, f8, f7, hex⟩
    simp -implicitDefEqProofs only [List.getElem?_cons_zero, List.getElem?_cons_succ, awp_seq, awp_reg, awp_cond, seqQ_n, WW_one, WW_nil, none_md, none_fz, frz_nil, ownOp, wc_app, wcont_s, upd_app, ev_tmp, x_move, x_bin, x_len, holdsO_ofO, bin_lss, ↓reduceIte, Nat.reduceEqDiff, Option.getD_some, Bool.not_false, enP, ln22, f6, f8, List.length_map]
    refine cond_of (fun hd => ?_) (fun hd => ?_)
    · have hd' : j < (normal rs.l).length := by simpa using hd
      have hfold2 := foldl_take addR 0 (normal rs.l) j hd'
      simp -implicitDefEqProofs only [List.getElem?_cons_zero, List.getElem?_cons_succ, awp_seq, awp_block, awp_skip, seqQ_n]
      refine awp_draw (by kernel_rfl) ?_
      simp -implicitDefEqProofs only [List.getElem?_cons_zero, List.getElem?_cons_succ, dc_app, dcont_s, DD_nil, DD_one, y_move, y_assign, y_load, y_bin, y_fieldAddr, y_indexAddr, awp_reg, seqQ_n, blk_n, rnd_n, WW_one, WW_nil, none_md, none_fz, frz_nil, ownOp, wc_app, wcont_s, upd_app, ev_tmp, ev_const, av_int, x_move, x_assign, x_load, x_bin, x_fieldAddr, x_indexAddr, holdsO_ofO, bin_add, bin_sub, ↓reduceIte, Nat.reduceEqDiff, Nat.add_zero, Nat.zero_add, Option.getD_some, Bool.not_false, enP, ix22, fa33_0, fa33_1, f6, f7, f8, ix_map hd', load_map ag3 hd', encR0, encR1, wrap_succ (show j < 9223372036854775807 by omega), wrap_sum2]
      refine ⟨n2 - 1, by omega, j + 1, by omega, f3, f5, f4, trivial, rfl, ?_, hex⟩
      rw [hfold2]; rfl
    · have hd' : ¬ j < (normal rs.l).length := by simpa using hd
      have hjl : j = (normal rs.l).length := by omega
      subst hjl
      rw [List.take_length] at f7
      simp -implicitDefEqProofs only [List.getElem?_cons_zero, List.getElem?_cons_succ, awp_reg, awp_exit, seqQ_n, seqQ_e, blk_n, blk_e, rnd_n, rnd_e, WW_one, WW_nil, none_md, none_fz, frz_nil, ownOp, wc_app, wcont_s, upd_app, ev_tmp, ev_const, av_int, x_move, x_assign, x_bin, x_min, holdsO_ofO, bin_add, bin_mul, min_ii, ↓reduceIte, Nat.reduceEqDiff, Option.getD_some, Bool.not_false, enP, f4, f7, f5, wrap_succ (show k < 9223372036854775807 by omega)]
      refine ⟨n - 1, by omega, k + 1, by omega, f3, rfl, ?_, hex⟩
      rw [hfold]; rfl
  · have hc' : ¬ k < (sets b).length := by simpa using hc
    have hkl : k = (sets b).length := by omega
    subst hkl
    rw [List.take_length] at f4
    simp -implicitDefEqProofs only [List.getElem?_cons_zero, List.getElem?_cons_succ, awp_seq, awp_reg, awp_ret, awp_exit, seqQ_n, seqQ_e, blk_e, rnd_e, end_r, WW_one, WW_nil, none_md, none_fz, frz_nil, ownOp, wc_app, wcont_s, upd_app, ev_tmp, x_move, x_assign, ↓reduceIte, Nat.reduceEqDiff, Option.getD_some, Bool.not_false, f4]
    exact ⟨by simp [size, hv0], hex⟩
end Go.Proofs.YtpdohkcjhphibaaDoor.Bins
