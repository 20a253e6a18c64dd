/- The contract of bins.Normal, where the sort's contract is given; no other condition. -/
import Derived.Test.YtpdohkcjhphibaaDoorC1
set_option linter.unusedVariables false
set_option linter.unusedSimpArgs false
namespace Go.Proofs.YtpdohkcjhphibaaDoor.Bins
open Go Go.Proofs.YtpdohkcjhphibaaDoor.Sm

theorem indexFunc_none (G : Nat → AV) (m : SM) (k : Nat) (fv : AV) (h : Hp) : PCall (En G) 47 [.sl m k [], fv] h (.int .i64 (-1)) := by
  refine acalls_of (H := Hint.none) (enM G) Tryd.func47 rfl (by kernel_rfl) (by kernel_rfl) (Nat.le_of_ble_eq_true (by kernel_rfl)) ?_
  show awp _ _ _ _ _ (endQ _ [.tmp 4] _)
  simp -implicitDefEqProofs only [List.getElem?_cons_zero, List.getElem?_cons_succ, awp_seq, awp_block, awp_reg, seqQ_n, WW_one, WW_nil, none_md, none_fz, frz_nil, ownOp, wc_app, wcont_s, upd_app, ev_tmp, ev_const, av_int, x_move, x_assign, x_len, holdsO_ofO, frameOf_zero, ↓reduceIte, Nat.reduceEqDiff, Option.getD_some, Bool.not_false, enP, ln22, List.length_nil]
  refine awp_loop (fun n F H => F 7 = .int .i64 ((0 : Nat) : Int) ∧ F 8 = .int .i64 0 ∧ H = h) 0 ⟨rfl, rfl, rfl⟩ ?_
  rintro n F H ⟨f7, f8, rfl⟩
  simp -implicitDefEqProofs only [List.getElem?_cons_zero, List.getElem?_cons_succ, awp_seq, awp_reg, awp_cond, seqQ_n, WW_one, WW_nil, none_md, none_fz, frz_nil, ownOp, wc_app, wcont_s, upd_app, ev_tmp, x_bin, holdsO_ofO, bin_lss, ↓reduceIte, Option.getD_some, Bool.not_false, enP, f7, f8]
  refine cond_of (fun hc => ?_) (fun hc => ?_)
  · simp at hc
  · simp -implicitDefEqProofs only [List.getElem?_cons_zero, List.getElem?_cons_succ, awp_seq, awp_reg, awp_ret, awp_exit, seqQ_n, seqQ_e, blk_e, rnd_e, end_r, WW_one, WW_nil, none_md, none_fz, frz_nil, ownOp, wc_app, wcont_s, upd_app, ev_const, av_int, x_assign, ↓reduceIte, Option.getD_some, Bool.not_false]
    exact ⟨trivial, trivial⟩
theorem delete_none (G : Nat → AV) (m : SM) (k : Nat) (fv : AV) (h : Hp) : PCall (En G) 28 [.sl m k [], fv] h (.sl m k []) := by
  refine acalls_of (H := Hint.none) (enM G) Tryd.func28 rfl (by kernel_rfl) (by kernel_rfl) (Nat.le_of_ble_eq_true (by kernel_rfl)) ?_
  show awp _ _ _ _ _ (endQ _ [.tmp 4] _)
  simp -implicitDefEqProofs only [List.getElem?_cons_zero, List.getElem?_cons_succ, awp_seq, awp_reg, seqQ_n, WW_one, WW_nil, none_md, none_fz, frz_nil, ownOp, wc_app, wcont_s, upd_app, ev_tmp, ev_const, ev_func, av_nil, x_move, x_assign, X1_call, callA_fn, frameOf_zero, frameOf_succ, List.map_cons, List.map_nil, List.append_nil, ↓reduceIte, Nat.reduceEqDiff, Option.getD_some, Bool.not_false, enP]
  refine (indexFunc_none G m k fv h).use ?_
  simp -implicitDefEqProofs only [List.getElem?_cons_zero, List.getElem?_cons_succ, awp_seq, awp_reg, awp_cond, seqQ_n, WW_one, WW_nil, none_md, none_fz, frz_nil, ownOp, wc_app, wcont_s, upd_app, ev_tmp, ev_const, av_int, x_move, x_assign, x_bin, holdsO_ofO, bin_eql, ↓reduceIte, Option.getD_some, Bool.not_false, enP]
  refine cond_of (fun hc => ?_) (fun hc => ?_)
  · simp -implicitDefEqProofs only [List.getElem?_cons_zero, List.getElem?_cons_succ, awp_seq, awp_reg, awp_ret, seqQ_n, seqQ_r, end_r, WW_one, WW_nil, none_md, none_fz, frz_nil, ownOp, wc_app, wcont_s, upd_app, ev_tmp, x_move, x_assign, frameOf_zero, ↓reduceIte, Nat.reduceEqDiff, Option.getD_some, Bool.not_false]
    exact ⟨trivial, trivial⟩
  · simp at hc

/-- the sort's contract -/
structure SortOk (G : Nat → AV) : Prop where
  own : ∀ (xs : List Rng) (b : Nat) (tail : List (List AV)) (h0 h : Hp), xs.length ≤ 16777216 → ext h0 h → h0.length ≤ b → h[b]? = some (.live 2 (xs.map encR ++ tail)) →
    ACalls (En G) 31 [.own b 0 xs.length, .fn (.func 32) [] []] h fun _ H => ext h0 H ∧ ∃ ys : List Rng, ys.Perm xs ∧ ys.Pairwise (fun a b => a.lo ≤ b.lo) ∧ H[b]? = some (.live 2 (ys.map encR ++ tail))
  none : ∀ (m : SM) (k : Nat) (h : Hp), PCall (En G) 31 [.sl m k [], .fn (.func 32) [] []] h (.tup [])

def nm (ys : List Rng) : SM := if ys = [] then .nil else .any
/-- the list so far: none, or a block of the call's own -/
def outR (h : Hp) (out : List Rng) (b : Nat) (v : AV) (H : Hp) : Prop :=
  (out = [] ∧ v = .sl .nil 0 []) ∨ (out ≠ [] ∧ ∃ o, h.length ≤ o ∧ o ≠ b ∧ v = .own o 0 out.length ∧ H[o]? = some (.live 2 (out.map encR)))
theorem bs22_1 (h : Hp) (r : Rng) : aBuildSlice Tryd.prog false h 22 1 [(0, .agg (encR r))] = some (.sl .full 2 [encR r], h) := by kernel_rfl

/-- the row of the sorted list -/
def srcR (h : Hp) (ys : List Rng) (b : Nat) (v : AV) (H : Hp) : Prop :=
  (ys = [] ∧ ∃ m k, v = .sl m k []) ∨ (h.length ≤ b ∧ v = .own b 0 ys.length ∧ ∃ tail, H[b]? = some (.live 2 (ys.map encR ++ tail)))

theorem join_len (out : List Rng) (r : Rng) : (join out r).length ≤ out.length + 1 := by
  unfold join
  split
  · split
    · simp
    · simp
  · simp
theorem joins_len : ∀ (xs out : List Rng), (xs.foldl join out).length ≤ out.length + xs.length
  | [], out => by simp
  | x :: xs, out => by
    have h1 := joins_len xs (join out x)
    have h2 := join_len out x
    simp only [List.foldl_cons, List.length_cons]
    omega
theorem srcR.app {h : Hp} {ys : List Rng} {b : Nat} {v : AV} {H : Hp} (hs : srcR h ys b v H) (x : ABlk) : srcR h ys b v (H ++ [x]) := by
  rcases hs with h1 | ⟨h1, h2, tail, h3⟩
  · exact .inl h1
  · exact .inr ⟨h1, h2, tail, below_get h3⟩
theorem srcR.set {h : Hp} {ys : List Rng} {b o : Nat} {v : AV} {H : Hp} (hs : srcR h ys b v H) (x : ABlk) (ho : o ≠ b) : srcR h ys b v (H.set o x) := by
  rcases hs with h1 | ⟨h1, h2, tail, h3⟩
  · exact .inl h1
  · exact .inr ⟨h1, h2, tail, get_set_ne h3 ho.symm⟩
theorem normal_progA (G : Nat → AV) (hS : SortOk G) (xs : List Rng) (m : SM) (h : Hp) (hl : xs.length ≤ 8388608) :
    ACalls (En G) 12 [.sl m 2 (xs.map encR)] h fun v H => ext h H ∧ ∃ b, outR h (normal xs) b v H := by
  refine acalls_of (H := Hint.none) (enM G) Tryd.func12 rfl (by kernel_rfl) (by kernel_rfl) (Nat.le_of_ble_eq_true (by kernel_rfl)) ?_
  show awp _ _ _ _ _ (endQ _ [.tmp 2] _)
  simp -implicitDefEqProofs only [List.getElem?_cons_zero, List.getElem?_cons_succ, awp_seq, awp_reg, seqQ_n, WW_one, WW_nil, none_md, none_fz, frz_nil, ownOp, wc_app, wcont_s, upd_app, ev_tmp, ev_const, ev_func, av_nil, x_move, x_assign, X1_call, callA_fn, frameOf_zero, List.map_cons, List.map_nil, List.append_nil, ↓reduceIte, Nat.reduceEqDiff, Option.getD_some, Bool.not_false, enP]
  refine (clone22 G xs m h (by omega)).mono fun vv H' hcl => ?_
  have hfl : (xs.filter full).length ≤ xs.length := List.length_filter_le _ _
  refine wcont_mid (fun F H => ext h H ∧ ((xs.filter full = [] ∧ ∃ m k, F 3 = .sl m k []) ∨ ∃ b, h.length ≤ b ∧ F 3 = .own b 0 (xs.filter full).length ∧ ∃ tail, H[b]? = some (.live 2 ((xs.filter full).map encR ++ tail)))) ?_ ?_
  · rcases hcl with ⟨hx, ⟨k0, rfl⟩, rfl⟩ | ⟨hx, rfl, rfl⟩ | ⟨hx, rfl, rfl⟩
    · have hx' : xs = [] := by simpa using hx
      simp -implicitDefEqProofs only [List.getElem?_cons_zero, List.getElem?_cons_succ, WW_one, none_md, none_fz, frz_nil, ownOp, wc_app, wcont_s, upd_app, ev_tmp, ev_func, X1_call, callA_fn, List.map_cons, List.map_nil, List.append_nil, ↓reduceIte, Option.getD_some, Bool.not_false]
      refine (delete_none G _ _ _ _).use ?_
      simp -implicitDefEqProofs only [List.getElem?_cons_zero, List.getElem?_cons_succ, WW_one, WW_nil, none_md, none_fz, frz_nil, ownOp, wc_app, wcont_s, upd_app, ev_tmp, x_assign, ↓reduceIte, Option.getD_some, Bool.not_false]
      exact ⟨ext.rfl' _, .inl ⟨by rw [hx']; rfl, _, _, rfl⟩⟩
    · have hx' : xs = [] := by simpa using hx
      simp -implicitDefEqProofs only [List.getElem?_cons_zero, List.getElem?_cons_succ, WW_one, none_md, none_fz, frz_nil, ownOp, wc_app, wcont_s, upd_app, ev_tmp, ev_func, X1_call, callA_fn, List.map_cons, List.map_nil, List.append_nil, ↓reduceIte, Option.getD_some, Bool.not_false]
      refine (delete_none G _ _ _ _).use ?_
      simp -implicitDefEqProofs only [List.getElem?_cons_zero, List.getElem?_cons_succ, WW_one, WW_nil, none_md, none_fz, frz_nil, ownOp, wc_app, wcont_s, upd_app, ev_tmp, x_assign, ↓reduceIte, Option.getD_some, Bool.not_false]
      exact ⟨ext.rfl' _, .inl ⟨by rw [hx']; rfl, _, _, rfl⟩⟩
    · simp -implicitDefEqProofs only [List.getElem?_cons_zero, List.getElem?_cons_succ, WW_one, none_md, none_fz, frz_nil, ownOp, wc_app, wcont_s, upd_app, ev_tmp, ev_func, X1_call, callA_fn, List.map_cons, List.map_nil, List.append_nil, ↓reduceIte, Option.getD_some, Bool.not_false, List.length_map]
      refine (delete_own G xs h.length 30 (fun r => !full r) h (h ++ [.live 2 (xs.map encR)]) (by omega) ⟨_, rfl⟩ (Nat.le_refl _) (top_get _ _) (fun r H => empty_range G r H)).mono ?_
      rintro v H ⟨rfl, hex, tail, ht⟩
      simp -implicitDefEqProofs only [List.getElem?_cons_zero, List.getElem?_cons_succ, WW_one, WW_nil, none_md, none_fz, frz_nil, ownOp, wc_app, wcont_s, upd_app, ev_tmp, x_assign, ↓reduceIte, Option.getD_some, Bool.not_false]
      have e : (xs.filter fun r => !!full r) = xs.filter full := by simp
      rw [e] at ht ⊢
      exact ⟨hex, .inr ⟨h.length, Nat.le_refl _, rfl, tail, ht⟩⟩
  rintro F H ⟨hex, hcase⟩
  rw [seqQ_n, awp_seq]
  refine awp_mid (fun F H => ext h H ∧ ∃ ys : List Rng, ys.Perm (xs.filter full) ∧ ys.Pairwise (fun a b => a.lo ≤ b.lo) ∧ ∃ b, srcR h ys b (F 3) H) (fun _ _ => False) ?_ ?_ (fun _ _ hh => hh.elim)
  · rcases hcase with ⟨hz, m0, k0, f3⟩ | ⟨b, hb, f3, tail, ht⟩
    · simp -implicitDefEqProofs only [List.getElem?_cons_zero, List.getElem?_cons_succ, awp_reg, WW_one, none_md, none_fz, frz_nil, ownOp, wc_app, wcont_s, upd_app, ev_tmp, ev_func, x_move, X1_call, callA_fn, List.map_cons, List.map_nil, List.append_nil, ↓reduceIte, Option.getD_some, Bool.not_false, f3]
      refine (hS.none m0 k0 H).use ?_
      simp -implicitDefEqProofs only [List.getElem?_cons_zero, List.getElem?_cons_succ, mid_n, WW_nil, wcont_s, upd_app, ↓reduceIte, Nat.reduceEqDiff]
      exact ⟨hex, [], by rw [hz], .nil, 0, .inl ⟨rfl, m0, k0, f3⟩⟩
    · simp -implicitDefEqProofs only [List.getElem?_cons_zero, List.getElem?_cons_succ, awp_reg, WW_one, none_md, none_fz, frz_nil, ownOp, wc_app, wcont_s, upd_app, ev_tmp, ev_func, x_move, X1_call, callA_fn, List.map_cons, List.map_nil, List.append_nil, ↓reduceIte, Option.getD_some, Bool.not_false, f3]
      refine (hS.own (xs.filter full) b tail h H (by omega) hex hb ht).mono ?_
      rintro v H' ⟨hex', ys, hp, hs, hy⟩
      simp -implicitDefEqProofs only [List.getElem?_cons_zero, List.getElem?_cons_succ, mid_n, WW_nil, wcont_s, upd_app, ↓reduceIte, Nat.reduceEqDiff]
      refine ⟨hex', ys, hp, hs, b, .inr ⟨hb, ?_, tail, hy⟩⟩
      rw [hp.length_eq]; exact f3
  rintro F H ⟨hex, ys, hp, hs, b, hsrc⟩
  have hyl : ys.length ≤ 8388608 := by rw [hp.length_eq]; omega
  have hN : joinAll ys = normal xs := normal_of hp hs
  generalize hsv : F 3 = sv at hsrc
  have hlen : aLen Tryd.prog 22 sv = some (.int .i64 ys.length) := by
    rcases hsrc with ⟨rfl, m0, k0, rfl⟩ | ⟨_, rfl, _⟩
    · exact ln22.1 _ _ _
    · exact ln22.2 _ _ _
  simp -implicitDefEqProofs only [List.getElem?_cons_zero, List.getElem?_cons_succ, awp_seq, awp_block, awp_reg, seqQ_n, WW_one, WW_nil, none_md, none_fz, frz_nil, ownOp, wc_app, wcont_s, upd_app, ev_tmp, ev_const, av_int, av_nil, x_move, x_assign, x_len, holdsO_ofO, ↓reduceIte, Nat.reduceEqDiff, Option.getD_some, Bool.not_false, enP, hsv, hlen]
  refine awp_loop (fun n F H => ∃ k, n + k = ys.length ∧ F 13 = sv ∧ F 14 = .int .i64 ys.length ∧ F 15 = .int .i64 (k : Nat) ∧ ext h H ∧ srcR h ys b sv H ∧ outR h ((ys.take k).foldl join []) b (F 4) H) ys.length ⟨0, by simp, by simp -implicitDefEqProofs only [List.getElem?_cons_zero, List.getElem?_cons_succ, upd_app, ↓reduceIte, Nat.reduceEqDiff], by simp -implicitDefEqProofs only [List.getElem?_cons_zero, List.getElem?_cons_succ, upd_app, ↓reduceIte, Nat.reduceEqDiff], by simp -implicitDefEqProofs only [List.getElem?_cons_zero, List.getElem?_cons_succ, upd_app, ↓reduceIte]; rfl, hex, hsrc, .inl ⟨rfl, by simp -implicitDefEqProofs only [List.getElem?_cons_zero, List.getElem?_cons_succ, upd_app, ↓reduceIte, Nat.reduceEqDiff]⟩⟩ ?_
  clear hex hsrc hsv
  rintro n F H ⟨k, hk, f13, f14, f15, hex, hsrc, hout⟩
  simp -implicitDefEqProofs only [List.getElem?_cons_zero, List.getElem?_cons_succ, awp_seq, awp_reg, awp_cond, seqQ_n, WW_one, WW_nil, none_md, none_fz, frz_nil, ownOp, wc_app, wcont_s, upd_app, ev_tmp, x_bin, holdsO_ofO, bin_lss, ↓reduceIte, Option.getD_some, Bool.not_false, enP, f14, f15]
  refine cond_of (fun hc => ?_) (fun hc => ?_)
  · have hc' : k < ys.length := by simpa using hc
    have htk : (ys.take (k + 1)).foldl join [] = join ((ys.take k).foldl join []) ys[k] := by
      rw [List.take_succ_eq_append_getElem hc', List.foldl_append]; rfl
    have hol0 : ((ys.take k).foldl join []).length ≤ 8388608 := by
      have := joins_len (ys.take k) []
      simp at this; omega
    generalize (ys.take k).foldl join [] = out at hout htk hol0
    have hsrc' := hsrc
    rcases hsrc with ⟨rfl, _⟩ | ⟨hb, rfl, tail, ht⟩
    · simp at hc'
    have e1 : aLoad Tryd.prog H 33 (.ptr b k 0) = some (.agg (encR ys[k])) := by
      rw [load_rowA ag33 sz33 ht (row := encR ys[k]) (by rw [List.getElem?_append_left (by simpa using hc')]; exact row_map hc') (by simp [encR])]; rfl
    have ht2 : (H ++ [ABlk.live 2 [encR ys[k]]])[b]? = some (.live 2 (ys.map encR ++ tail)) := below_get ht
    have ld : aLoad Tryd.prog (H ++ [ABlk.live 2 [encR ys[k]]]) 33 (.ptr (List.length H) 0 0) = some (.agg (encR ys[k])) := load_topA ag33 sz33 (by simp [encR])
    rcases hout with ⟨rfl, f4⟩ | ⟨hne, o, ho1, ho2, f4, ho⟩
    · have dneg : decide ((IntKind.i64.wrap (((0 : Nat) : Int) - 1)) ≥ 0) = false := by rw [wrap_i64 (by omega) (by omega)]; simp
      simp -implicitDefEqProofs only [List.getElem?_cons_zero, List.getElem?_cons_succ, awp_seq, awp_block, awp_reg, awp_skip, seqQ_n, WW_one, WW_nil, none_md, none_fz, frz_nil, ownOp, wc_app, wcont_s, wcont_n, upd_app, ev_tmp, ev_const, av_int, x_move, x_assign, x_alloc, x_load, x_store, x_bin, x_indexAddr, x_len, holdsO_some, holdsO_ofO, holdsO_ofS, bin_sub, ↓reduceIte, Nat.reduceEqDiff, Nat.zero_add, Option.getD_some, Bool.not_false, enP, ix22, ln22, f13, f15, ix_own ht hc', e1, al33, st33 _ _ [.int .i64 0, .int .i64 0] rfl, f4, List.length_nil]
      refine awp_draw (by kernel_rfl) ?_
      have h1 : ([encR ys[k]] : List (List AV)) ≠ [] := by simp
      simp -implicitDefEqProofs only [List.getElem?_cons_zero, List.getElem?_cons_succ, evp_nil, evp_cons, dc_app, dcont_s, DD_nil, DD_one, DD_guardE, GY_some, GD_tf, GD_u, y_move, y_pick, y_bin, awp_reg, awp_skip, awp_cond, seqQ_n, blk_n, rnd_n, cond_f, WW_one, WW_nil, gdstO, none_md, none_fz, frz_nil, ownOp, wc_app, wcont_s, upd_app, aput, ev_tmp, ev_const, av_int, av_bool, x_move, x_assign, x_pick, pick_f, x_buildSlice, x_load, x_bin, x_append, holdsO_some, holdsO_ofO, bin_add, bin_geq, ↓reduceIte, Nat.reduceEqDiff, Option.getD_some, Bool.not_false, enP, dneg, ld, f4, bs22_1, app_nil ud22 sz33 zs22 by22 (conts_sl (H ++ [ABlk.live 2 [encR ys[k]]]) .full 2 [encR ys[k]]) h1 (room_of (by simp) (by omega)), f15, wrap_succ (show k < 9223372036854775807 by omega)]
      refine ⟨n - 1, by omega, k + 1, by omega, f13, f14, rfl, (hex.app _).app _, (hsrc'.app _).app _, ?_⟩
      rw [htk]
      have hbl := lt_of_getElem? ht
      exact .inr ⟨by simp [join], _, by simp; have := hex.le; omega, by simp; omega, rfl, by simp [join]⟩
    · obtain ⟨init, t, rfl⟩ : ∃ init t, out = init ++ [t] := ⟨out.dropLast, out.getLast hne, (List.dropLast_concat_getLast hne).symm⟩
      have hol := lt_of_getElem? ho
      have hbl := lt_of_getElem? ht
      have hlast : (IntKind.i64.wrap (((init ++ [t]).length : Int) - 1)) = ((init.length : Nat) : Int) := by
        rw [wrap_i64 (by omega) (by omega)]; simp
      have dpos : decide (((init.length : Nat) : Int) ≥ 0) = true := by simp
      have ho3 : (H ++ [ABlk.live 2 [encR ys[k]]])[o]? = some (.live 2 ((init ++ [t]).map encR)) := below_get ho
      have hil : init.length < (init ++ [t]).length := by simp
      have erow : ((init ++ [t]).map encR)[init.length]? = some (encR t) := by simp
      have lhi : aLoad Tryd.prog (H ++ [ABlk.live 2 [encR ys[k]]]) 3 (.ptr o init.length 1) = some (.int .i64 t.hi) := by rw [load_row ag3 ho3 erow]; rfl
      simp -implicitDefEqProofs only [List.getElem?_cons_zero, List.getElem?_cons_succ, awp_seq, awp_block, awp_reg, awp_skip, seqQ_n, WW_one, WW_nil, none_md, none_fz, frz_nil, ownOp, wc_app, wcont_s, wcont_n, upd_app, ev_tmp, ev_const, av_int, x_move, x_assign, x_alloc, x_load, x_store, x_bin, x_indexAddr, x_len, holdsO_some, holdsO_ofO, holdsO_ofS, bin_sub, ↓reduceIte, Nat.reduceEqDiff, Nat.zero_add, Option.getD_some, Bool.not_false, enP, ix22, ln22, f13, f15, ix_own ht hc', e1, al33, st33 _ _ [.int .i64 0, .int .i64 0] rfl, f4, hlast]
      refine awp_draw (by kernel_rfl) ?_
      simp -implicitDefEqProofs only [List.getElem?_cons_zero, List.getElem?_cons_succ, dc_app, dcont_s, DD_one, DD_guardE, GY_some, GD_tt, y_move, y_load, y_bin, y_fieldAddr, y_indexAddr, gdstO, none_md, upd_app, ev_tmp, ev_const, av_int, x_load, x_bin, x_fieldAddr, x_indexAddr, holdsO_ofO, bin_leq, bin_geq, ↓reduceIte, Nat.reduceEqDiff, Nat.add_zero, Nat.zero_add, Option.getD_some, enP, ix22, fa33_0, fa33_1, dpos, load_last ag3, encR0, f4, ix_own ho3 hil, lhi]
      refine GD_mid (fun F H' => F 44 = .bool (glue t ys[k]) ∧ F 13 = .own b 0 ys.length ∧ F 14 = .int .i64 ys.length ∧ F 15 = .int .i64 (k : Nat) ∧ F 4 = .own o 0 (init ++ [t]).length ∧ F 6 = .ptr H.length 0 0 ∧ F 7 = .int .i64 (init.length : Nat) ∧ H' = H ++ [ABlk.live 2 [encR ys[k]]]) ?_ ?_
      · refine GD_of (fun ha => ?_) (fun ha => ?_)
        · simp -implicitDefEqProofs only [List.getElem?_cons_zero, List.getElem?_cons_succ, dc_app, dcont_s, DD_nil, DD_one, DD_guardE, GY_some, GD_tt, GD_ft, y_pick, gdstO, none_md, upd_app, aput, ev_tmp, ev_const, av_bool, x_pick, pick_t, ↓reduceIte, Nat.reduceEqDiff, Option.getD_some, ha, f4, f13, f14, f15]
          exact ⟨by unfold glue; rw [ha]; rfl, trivial, trivial, trivial, trivial, trivial, trivial, trivial⟩
        · simp -implicitDefEqProofs only [List.getElem?_cons_zero, List.getElem?_cons_succ, dc_app, dcont_s, DD_nil, DD_one, DD_guardE, GY_some, GD_tt, GD_ff, y_move, y_pick, y_load, y_bin, y_fieldAddr, y_indexAddr, gdstO, none_md, upd_app, ev_tmp, ev_const, av_int, av_bool, x_pick, pick_t, pick_f, x_load, x_bin, x_fieldAddr, x_indexAddr, holdsO_ofO, bin_sub, bin_eql, ↓reduceIte, Nat.reduceEqDiff, Nat.add_zero, Nat.zero_add, Option.getD_some, enP, ix22, fa33_0, fa33_1, ha, load_last ag3, encR0, f4, f13, f14, f15, ix_own ho3 hil, lhi]
          exact ⟨by unfold glue; rw [ha]; rfl, trivial, trivial, trivial, trivial, trivial, trivial, trivial⟩
      clear f13 f14 f15 f4
      rintro F H' ⟨f44, f13, f14, f15, f4, f6, f7, rfl⟩
      simp -implicitDefEqProofs only [List.getElem?_cons_zero, List.getElem?_cons_succ, awp_cond, seqQ_n, ev_tmp, f44]
      refine cond_of (fun hg => ?_) (fun hg => ?_)
      · have st : ∀ v : Int, aStore Tryd.prog (H ++ [ABlk.live 2 [encR ys[k]]]) 3 (.ptr o init.length 1) (.int .i64 v) = some ((H ++ [ABlk.live 2 [encR ys[k]]]).set o (.live 2 ((init ++ [Rng.mk t.lo v]).map encR))) := by
          intro v
          have h2 := store_row (P := Tryd.prog) (t := 3) (j := 1) (v := .int .i64 v) (cs := [.int .i64 v]) rfl sz3 ho3 erow (by simp [encR])
          have h3 : ((init ++ [t]).map encR).set init.length (splice (encR t) 1 [.int .i64 v]) = (init ++ [Rng.mk t.lo v]).map encR := by simp [encR, splice]
          rw [h2, h3]
        simp -implicitDefEqProofs only [List.getElem?_cons_zero, List.getElem?_cons_succ, awp_seq]
        refine awp_draw (by kernel_rfl) ?_
        simp -implicitDefEqProofs only [List.getElem?_cons_zero, List.getElem?_cons_succ, dc_app, dcont_s, dcont_n, DD_nil, DD_one, y_move, y_load, y_store, y_fieldAddr, y_indexAddr, y_builtin, awp_reg, awp_exit, seqQ_n, seqQ_e, blk_e, rnd_n, WW_one, WW_nil, none_md, none_fz, frz_nil, ownOp, wc_app, wcont_s, upd_app, ev_tmp, ev_const, av_int, x_move, x_load, x_store, x_bin, x_fieldAddr, x_indexAddr, x_max, holdsO_ofO, holdsO_ofS, bin_add, max_ii, ↓reduceIte, Nat.reduceEqDiff, Nat.zero_add, Option.getD_some, Bool.not_false, enP, ix22, fa33_1, f4, f6, f7, ix_own ho3 hil, lhi, load_last ag3, encR1, st, f15, wrap_succ (show k < 9223372036854775807 by omega)]
        refine ⟨n - 1, by omega, k + 1, by omega, f13, f14, rfl, (hex.app _).set ho1 _, (hsrc'.app _).set _ ho2, ?_⟩
        rw [htk]
        have hj : join (init ++ [t]) ys[k] = init ++ [⟨t.lo, max t.hi ys[k].hi⟩] := by simp [join, hg]
        rw [hj]
        exact .inr ⟨by simp, o, ho1, ho2, by simp, get_set_eq ho3⟩
      · have h1 : ([encR ys[k]] : List (List AV)) ≠ [] := by simp
        have hc1 : conts (H ++ [ABlk.live 2 [encR ys[k]]]) (.own o 0 (init ++ [t]).length) = some (2, (init ++ [t]).map encR) := by
          rw [conts_own ho3 (by simp), List.drop_zero, List.take_of_length_le (by simp)]
        simp -implicitDefEqProofs only [List.getElem?_cons_zero, List.getElem?_cons_succ, evp_nil, evp_cons, awp_reg, awp_skip, seqQ_n, blk_n, rnd_n, WW_one, WW_nil, none_md, none_fz, frz_nil, ownOp, wc_app, wcont_s, upd_app, ev_tmp, ev_const, av_int, x_move, x_assign, x_buildSlice, x_load, x_bin, x_append, holdsO_some, holdsO_ofO, bin_add, ↓reduceIte, Nat.reduceEqDiff, Option.getD_some, Bool.not_false, enP, ld, f4, f6, bs22_1, app_own ud22 sz33 zs22 by22 hc1 (conts_sl (H ++ [ABlk.live 2 [encR ys[k]]]) .full 2 [encR ys[k]]) h1 (room_of (by simp at hol0 ⊢; omega) (by omega)), f15, wrap_succ (show k < 9223372036854775807 by omega)]
        refine ⟨n - 1, by omega, k + 1, by omega, f13, f14, rfl, ((hex.app _).set ho1 _).app _, ((hsrc'.app _).set _ ho2).app _, ?_⟩
        rw [htk]
        have hj : join (init ++ [t]) ys[k] = (init ++ [t]) ++ [ys[k]] := by simp [join, hg]
        rw [hj]
        exact .inr ⟨by simp, (H ++ [ABlk.live 2 [encR ys[k]]]).length, by simp; have := hex.le; omega, by simp; omega, by simp, by simp⟩
  · have hc' : ¬ k < ys.length := by simpa using hc
    have : k = ys.length := by omega
    subst this
    rw [List.take_length] at hout
    have hN' : ys.foldl join [] = normal xs := hN
    rw [hN'] at hout
    simp -implicitDefEqProofs only [List.getElem?_cons_zero, List.getElem?_cons_succ, awp_seq, awp_reg, awp_ret, awp_exit, seqQ_n, seqQ_e, blk_e, rnd_e, end_r, WW_one, WW_nil, none_md, none_fz, frz_nil, ownOp, wc_app, wcont_s, upd_app, ev_tmp, x_move, x_assign, ↓reduceIte, Nat.reduceEqDiff, Option.getD_some, Bool.not_false]
    exact ⟨hex, b, hout⟩
end Go.Proofs.YtpdohkcjhphibaaDoor.Bins
