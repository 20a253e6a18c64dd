/- Contracts of IndexFunc and DeleteFunc over ranges that the call owns; no condition. -/
import Derived.Test.YtpdohkcjhphibaaDoorB9
import Derived.Test.YtpdohkcjhphibaaDoorP1
set_option linter.unusedVariables false
set_option linter.unusedSimpArgs false
namespace Go.Proofs.YtpdohkcjhphibaaDoor.Bins
open Go Go.Proofs.YtpdohkcjhphibaaDoor.Sm

theorem row_map {α : Type} {f : α → List AV} {xs : List α} {k : Nat} (h : k < xs.length) : (xs.map f)[k]? = some (f xs[k]) := by simp [h]
theorem splice_full {row cs : List AV} (h : row.length = cs.length) : splice row 0 cs = cs := by simp [splice, h]

theorem indexFunc_own (G : Nat → AV) (xs : List Rng) (b : Nat) (fid : FuncId) (caps : List AV) (p : Rng → Bool) (h : Hp) (hl : xs.length ≤ 1099511627776) (hb : h[b]? = some (.live 2 (xs.map encR)))
    (hf : ∀ r, PCall (En G) fid (.agg (encR r) :: caps) h (.bool (p r))) :
    PCall (En G) 47 [.own b 0 xs.length, .fn (.func fid) [] caps] h (.int .i64 (match xs.findIdx? p with | some i => (i : Int) | none => -1)) := by
  refine acalls_of (H := Hint.none) (enM G) Tryd.func47 rfl (by kernel_rfl) (by kernel_rfl) (Nat.le_of_ble_eq_true (by kernel_rfl)) ?_
  show awp _ _ _ _ _ (endQ _ [.tmp 4] _)
  simp -implicitDefEqProofs only [List.getElem?_cons_zero, List.getElem?_cons_succ, awp_seq, awp_block, awp_reg, seqQ_n, WW_one, WW_nil, none_md, none_fz, frz_nil, ownOp, wc_app, wcont_s, upd_app, ev_tmp, ev_const, av_int, x_move, x_assign, x_len, holdsO_ofO, frameOf_zero, ↓reduceIte, Nat.reduceEqDiff, Option.getD_some, Bool.not_false, enP, ln22]
  refine awp_loop (fun n F H => ∃ k, n + k = xs.length ∧ F 0 = .own b 0 xs.length ∧ F 1 = .fn (.func fid) [] caps ∧ F 7 = .int .i64 xs.length ∧ F 8 = .int .i64 (k : Nat) ∧ H = h ∧ (xs.take k).all (fun r => !p r) = true) xs.length ⟨0, by simp, rfl, rfl, rfl, rfl, rfl, rfl⟩ ?_
  rintro n F H ⟨k, hk, f0, f1, f7, f8, rfl, hin⟩
  simp -implicitDefEqProofs only [List.getElem?_cons_zero, List.getElem?_cons_succ, awp_seq, awp_reg, awp_cond, seqQ_n, WW_one, WW_nil, none_md, none_fz, frz_nil, ownOp, wc_app, wcont_s, upd_app, ev_tmp, x_bin, holdsO_ofO, bin_lss, ↓reduceIte, Option.getD_some, Bool.not_false, enP, f7, f8]
  refine cond_of (fun hc => ?_) (fun hc => ?_)
  · have hc' : k < xs.length := by simpa using hc
    have e1 : aLoad Tryd.prog H 33 (.ptr b k 0) = some (.agg (encR xs[k])) := by
      rw [load_rowA ag33 sz33 hb (row_map hc') (by simp [encR])]; rfl
    simp -implicitDefEqProofs only [List.getElem?_cons_zero, List.getElem?_cons_succ, awp_seq, awp_block, awp_reg, awp_skip, seqQ_n, WW_one, WW_nil, none_md, none_fz, frz_nil, ownOp, wc_app, wcont_s, upd_app, ev_tmp, x_move, x_assign, x_load, x_indexAddr, X1_call, callA_fn, holdsO_ofO, List.map_cons, List.map_nil, List.nil_append, List.cons_append, ↓reduceIte, Nat.reduceEqDiff, Nat.zero_add, Option.getD_some, Bool.not_false, enP, ix22, f0, f1, f8, ix_own hb hc', e1]
    refine (hf _).use ?_
    simp -implicitDefEqProofs only [List.getElem?_cons_zero, List.getElem?_cons_succ, awp_cond, seqQ_n, WW_nil, wcont_s, upd_app, ev_tmp, ↓reduceIte]
    refine cond_of (fun hb => ?_) (fun hb => ?_)
    · simp -implicitDefEqProofs only [List.getElem?_cons_zero, List.getElem?_cons_succ, awp_seq, awp_reg, awp_ret, seqQ_n, seqQ_r, blk_r, rnd_r, end_r, WW_one, WW_nil, none_md, none_fz, frz_nil, ownOp, wc_app, wcont_s, upd_app, ev_tmp, x_move, x_assign, ↓reduceIte, Nat.reduceEqDiff, Option.getD_some, Bool.not_false]
      refine ⟨?_, trivial⟩
      rw [List.findIdx?_eq_some_iff_getElem.2 ⟨hc', hb, fun j hj => by
        rw [List.all_eq_true] at hin
        have := hin xs[j] (by rw [List.mem_take_iff_getElem]; exact ⟨j, by omega, rfl⟩)
        simpa using this⟩]
    · simp -implicitDefEqProofs only [List.getElem?_cons_zero, List.getElem?_cons_succ, awp_reg, awp_skip, seqQ_n, blk_n, rnd_n, WW_one, WW_nil, none_md, none_fz, frz_nil, ownOp, wc_app, wcont_s, upd_app, ev_tmp, ev_const, av_int, x_move, x_bin, holdsO_ofO, bin_add, ↓reduceIte, Nat.reduceEqDiff, Option.getD_some, Bool.not_false, enP, f8, wrap_succ (show k < 9223372036854775807 by omega)]
      refine ⟨n - 1, by omega, k + 1, by omega, f0, f1, f7, rfl, trivial, ?_⟩
      rw [List.take_succ_eq_append_getElem hc', List.all_append, hin]
      simp only [List.all_cons, List.all_nil, hb]; rfl
  · have hc' : ¬ k < xs.length := by simpa using hc
    simp -implicitDefEqProofs only [List.getElem?_cons_zero, List.getElem?_cons_succ, awp_seq, awp_reg, awp_ret, awp_exit, seqQ_n, seqQ_e, blk_e, rnd_e, end_r, WW_one, WW_nil, none_md, none_fz, frz_nil, ownOp, wc_app, wcont_s, upd_app, ev_const, av_int, x_assign, ↓reduceIte, Option.getD_some, Bool.not_false]
    refine ⟨?_, trivial⟩
    rw [List.take_of_length_le (by omega)] at hin
    rw [List.findIdx?_eq_none_iff.2 (by simpa using hin)]

theorem empty_range (G : Nat → AV) (r : Rng) (h : Hp) : PCall (En G) 30 [.agg (encR r)] h (.bool (!full r)) := by
  refine ACalls.pure0 rfl ?_
  refine acalls_of (H := Hint.none) (enM G) Tryd.func30 rfl (by kernel_rfl) (by kernel_rfl) (Nat.le_of_ble_eq_true (by kernel_rfl)) ?_
  show awp _ _ _ _ _ (endQ _ [.tmp 2] _)
  simp -implicitDefEqProofs only [List.getElem?_cons_zero, List.getElem?_cons_succ, awp_seq, awp_reg, awp_ret, seqQ_n, end_r, WW_one, WW_nil, none_md, none_fz, frz_nil, ownOp, wc_app, wcont_s, upd_app, ev_tmp, ev_const, av_bool, x_assign, x_box, x_load, x_bin, x_fieldAddr, holdsO_some, holdsO_ofO, bin_gtr, frameOf_zero, ↓reduceIte, Nat.reduceEqDiff, Nat.add_zero, Nat.zero_add, Option.getD_some, Bool.not_false, enP, fa33_0, fa33_1, bxR, load_last ag3, encR0, encR1]
  refine ⟨?_, _, rfl⟩
  congr 1
  unfold full
  rw [Bool.eq_iff_iff]; simp

theorem delete_own (G : Nat → AV) (xs : List Rng) (b : Nat) (fid : FuncId) (p : Rng → Bool) (h0 h : Hp) (hl : xs.length ≤ 1099511627776) (he : ext h0 h) (hb0 : h0.length ≤ b) (hb : h[b]? = some (.live 2 (xs.map encR)))
    (hf : ∀ r H, PCall (En G) fid [.agg (encR r)] H (.bool (p r))) :
    ACalls (En G) 28 [.own b 0 xs.length, .fn (.func fid) [] []] h fun v H => v = .own b 0 (xs.filter fun r => !p r).length ∧ ext h0 H ∧ ∃ tail, H[b]? = some (.live 2 ((xs.filter fun r => !p r).map encR ++ tail)) := by
  refine acalls_of (H := Hint.none) (enM G) Tryd.func28 rfl (by kernel_rfl) (by kernel_rfl) (Nat.le_of_ble_eq_true (by kernel_rfl)) ?_
  show awp _ _ _ _ _ (endQ _ [.tmp 4] _)
  simp -implicitDefEqProofs only [List.getElem?_cons_zero, List.getElem?_cons_succ, awp_seq, awp_reg, seqQ_n, WW_one, WW_nil, none_md, none_fz, frz_nil, ownOp, wc_app, wcont_s, upd_app, ev_tmp, ev_const, ev_func, av_nil, x_move, x_assign, X1_call, callA_fn, frameOf_zero, frameOf_succ, List.map_cons, List.map_nil, List.append_nil, ↓reduceIte, Nat.reduceEqDiff, Option.getD_some, Bool.not_false, enP]
  refine (indexFunc_own G xs b fid [] p h hl hb (fun r => hf r h)).use ?_
  simp -implicitDefEqProofs only [List.getElem?_cons_zero, List.getElem?_cons_succ, awp_seq, awp_reg, awp_cond, seqQ_n, WW_one, WW_nil, none_md, none_fz, frz_nil, ownOp, wc_app, wcont_s, upd_app, ev_tmp, ev_const, av_int, x_move, x_assign, x_bin, holdsO_ofO, bin_eql, ↓reduceIte, Option.getD_some, Bool.not_false, enP]
  cases hi : xs.findIdx? p with
  | none =>
    simp -implicitDefEqProofs only [List.getElem?_cons_zero, List.getElem?_cons_succ]
    refine cond_of (fun hc => ?_) (fun hc => ?_)
    · simp -implicitDefEqProofs only [List.getElem?_cons_zero, List.getElem?_cons_succ, awp_seq, awp_reg, awp_ret, seqQ_n, seqQ_r, end_r, WW_one, WW_nil, none_md, none_fz, frz_nil, ownOp, wc_app, wcont_s, upd_app, ev_tmp, x_move, x_assign, frameOf_zero, ↓reduceIte, Nat.reduceEqDiff, Option.getD_some, Bool.not_false]
      have : xs.filter (fun r => !p r) = xs := by
        rw [List.findIdx?_eq_none_iff] at hi
        rw [List.filter_eq_self]; intro x hx; simp [hi x hx]
      rw [this]
      exact ⟨rfl, he, [], by simpa using hb⟩
    · simp at hc
  | some i0 =>
    simp -implicitDefEqProofs only [List.getElem?_cons_zero, List.getElem?_cons_succ]
    obtain ⟨hi1, hi2, hi3⟩ := List.findIdx?_eq_some_iff_getElem.1 hi
    refine cond_of (fun hc => ?_) (fun hc => ?_)
    · simp at hc
    simp -implicitDefEqProofs only [List.getElem?_cons_zero, List.getElem?_cons_succ, awp_seq, awp_block, awp_reg, awp_skip, seqQ_n, WW_one, WW_nil, none_md, none_fz, frz_nil, ownOp, wc_app, wcont_s, upd_app, ev_tmp, ev_const, av_int, x_move, x_assign, x_bin, holdsO_ofO, bin_add, ↓reduceIte, Nat.reduceEqDiff, Option.getD_some, Bool.not_false, enP, wrap_succ (show i0 < 9223372036854775807 by omega)]
    refine awp_loop (fun n F H => ∃ i j zs, n + j = xs.length ∧ i < j ∧ F 0 = .own b 0 xs.length ∧ F 1 = .fn (.func fid) [] [] ∧ F 5 = .int .i64 (i : Nat) ∧ F 6 = .int .i64 (j : Nat) ∧ ext h0 H ∧ H[b]? = some (.live 2 (zs.map encR)) ∧ zs.length = xs.length ∧ zs.take i = (xs.take j).filter (fun r => !p r) ∧ zs.drop j = xs.drop j) (xs.length - (i0 + 1)) ⟨i0, i0 + 1, xs, by omega, by omega, by simp -implicitDefEqProofs only [List.getElem?_cons_zero, List.getElem?_cons_succ, upd_app, frameOf_zero, ↓reduceIte, Nat.reduceEqDiff], by simp -implicitDefEqProofs only [List.getElem?_cons_zero, List.getElem?_cons_succ, upd_app, frameOf_zero, frameOf_succ, ↓reduceIte, Nat.reduceEqDiff], by simp -implicitDefEqProofs only [List.getElem?_cons_zero, List.getElem?_cons_succ, upd_app, ↓reduceIte, Nat.reduceEqDiff], by simp -implicitDefEqProofs only [List.getElem?_cons_zero, List.getElem?_cons_succ, upd_app, ↓reduceIte], he, hb, rfl, ?_, rfl⟩ ?_
    · rw [List.take_succ_eq_append_getElem hi1, List.filter_append]
      simp [hi2]
      refine (List.filter_eq_self.2 ?_).symm
      intro x hx
      rw [List.mem_take_iff_getElem] at hx
      obtain ⟨j, hj, rfl⟩ := hx
      have := hi3 j (by omega)
      simpa using this
    rintro n F H ⟨i, j, zs, hn, hij, f0, f1, f5, f6, hex, hz, hzl, hzt, hzd⟩
    simp -implicitDefEqProofs only [List.getElem?_cons_zero, List.getElem?_cons_succ, awp_seq, awp_reg, awp_cond, seqQ_n, WW_one, WW_nil, none_md, none_fz, frz_nil, ownOp, wc_app, wcont_s, upd_app, ev_tmp, x_move, x_bin, x_len, holdsO_ofO, bin_lss, ↓reduceIte, Nat.reduceEqDiff, Option.getD_some, Bool.not_false, enP, ln22, f0, f6]
    refine cond_of (fun hd => ?_) (fun hd => ?_)
    · have hd' : j < xs.length := by simpa using hd
      have hdz : j < zs.length := by omega
      have e0 : zs[j] = xs[j] := by
        have h1 : (zs.drop j)[0]? = (xs.drop j)[0]? := by rw [hzd]
        rw [List.getElem?_drop, List.getElem?_drop, Nat.add_zero, List.getElem?_eq_getElem hdz, List.getElem?_eq_getElem hd'] at h1
        exact Option.some.inj h1
      have e1 : aLoad Tryd.prog H 33 (.ptr b j 0) = some (.agg (encR xs[j])) := by
        rw [load_rowA ag33 sz33 hz (row_map hdz) (by simp [encR]), e0]; rfl
      have ld : aLoad Tryd.prog (H ++ [ABlk.live 2 [encR xs[j]]]) 33 (.ptr (List.length H) 0 0) = some (.agg (encR xs[j])) := load_topA ag33 sz33 (by simp [encR])
      simp -implicitDefEqProofs only [List.getElem?_cons_zero, List.getElem?_cons_succ, awp_seq, awp_block, awp_reg, awp_skip, seqQ_n, WW_one, WW_nil, none_md, none_fz, frz_nil, ownOp, wc_app, wcont_s, wcont_n, upd_app, ev_tmp, x_move, x_alloc, x_load, x_store, x_indexAddr, X1_call, callA_fn, holdsO_some, holdsO_ofO, holdsO_ofS, List.map_cons, List.map_nil, List.append_nil, ↓reduceIte, Nat.reduceEqDiff, Nat.zero_add, Option.getD_some, Bool.not_false, enP, ix22, f0, f1, f6, ix_own hz hd', e1, al33, st33 _ _ [.int .i64 0, .int .i64 0] rfl, ld]
      refine (hf _ _).use ?_
      simp -implicitDefEqProofs only [List.getElem?_cons_zero, List.getElem?_cons_succ, awp_cond, seqQ_n, WW_one, WW_nil, none_md, none_fz, frz_nil, ownOp, wc_app, wcont_s, upd_app, ev_tmp, x_un, holdsO_ofO, un_not, ↓reduceIte, Option.getD_some, Bool.not_false]
      have htk : (xs.take (j + 1)).filter (fun r => !p r) = (xs.take j).filter (fun r => !p r) ++ (if p xs[j] then [] else [xs[j]]) := by
        rw [List.take_succ_eq_append_getElem hd', List.filter_append]
        cases hp : p xs[j] <;> simp [hp]
      have hz2 : (H ++ [ABlk.live 2 [encR xs[j]]])[b]? = some (.live 2 (zs.map encR)) := below_get hz
      have hdrop : zs.drop (j + 1) = xs.drop (j + 1) := by
        have := congrArg (List.drop 1) hzd
        simpa [Nat.add_comm] using this
      refine cond_of (fun hp => ?_) (fun hp => ?_)
      · have hp' : p xs[j] = false := by simpa using hp
        have hiz : i < zs.length := by omega
        have hix : i < xs.length := by omega
        have st : aStore Tryd.prog (H ++ [ABlk.live 2 [encR xs[j]]]) 33 (.ptr b i 0) (.agg (encR xs[j])) = some ((H ++ [ABlk.live 2 [encR xs[j]]]).set b (.live 2 ((zs.set i xs[j]).map encR))) := by
          rw [store_row (cs := encR xs[j]) rfl sz33 hz2 (row_map hiz) (by simp [encR]), splice_full (by simp [encR]), List.map_set]
        simp -implicitDefEqProofs only [List.getElem?_cons_zero, List.getElem?_cons_succ, awp_seq, awp_reg, seqQ_n, blk_n, rnd_n, WW_one, WW_nil, none_md, none_fz, frz_nil, ownOp, wc_app, wcont_s, wcont_n, upd_app, ev_tmp, ev_const, av_int, x_move, x_assign, x_load, x_store, x_bin, x_indexAddr, holdsO_ofO, holdsO_ofS, bin_add, ↓reduceIte, Nat.reduceEqDiff, Nat.zero_add, Option.getD_some, Bool.not_false, enP, ix22, f0, f5, ld, ix_own hz2 hix, st, wrap_succ (show i < 9223372036854775807 by omega), f6, wrap_succ (show j < 9223372036854775807 by omega)]
        refine ⟨n - 1, by omega, i + 1, j + 1, zs.set i xs[j], by omega, by omega, trivial, f1, rfl, rfl, (hex.app _).set hb0 _, get_set_eq hz2, by simpa using hzl, ?_, ?_⟩
        · rw [htk, hp', ← hzt, List.take_succ_eq_append_getElem (by simpa using hiz), List.take_set, List.set_eq_of_length_le (by simp; omega)]
          simp
        · rw [List.drop_set_of_lt (by omega)]; exact hdrop
      · have hp' : p xs[j] = true := by simpa using hp
        simp -implicitDefEqProofs only [List.getElem?_cons_zero, List.getElem?_cons_succ, awp_reg, awp_skip, seqQ_n, blk_n, rnd_n, WW_one, WW_nil, none_md, none_fz, frz_nil, ownOp, wc_app, wcont_s, upd_app, ev_tmp, ev_const, av_int, x_move, x_assign, x_bin, holdsO_ofO, bin_add, ↓reduceIte, Nat.reduceEqDiff, Option.getD_some, Bool.not_false, enP, f6, wrap_succ (show j < 9223372036854775807 by omega)]
        refine ⟨n - 1, by omega, i, j + 1, zs, by omega, by omega, f0, f1, f5, rfl, hex.app _, hz2, hzl, ?_, hdrop⟩
        rw [htk, hp', hzt]; simp
    · have hd' : ¬ j < xs.length := by simpa using hd
      have hjl : j = xs.length := by omega
      have hfl : (xs.filter fun r => !p r) = zs.take i := by
        rw [hzt, List.take_of_length_le (by omega)]
      have hil : i ≤ zs.length := by omega
      have hlen : (xs.filter fun r => !p r).length = i := by rw [hfl]; simp; omega
      have hs1 : aSlice Tryd.prog H 22 (.own b 0 xs.length) (some (.int .i64 (i : Int))) none none = some (.own b i (xs.length - i)) := by
        have := own_from ud22 sz33 (kk := .i64) (off := 0) (len := xs.length) (l := i) hz (by omega)
        rw [Nat.zero_add] at this; exact this
      have hcl : aClear Tryd.prog H 22 (.own b i (xs.length - i)) = some (undefA, H.set b (.live 2 (Sm.rowsSet (zs.map encR) i (List.replicate (xs.length - i) [.int .i64 0, .int .i64 0])))) := by
        have hz0 : zeroRow Tryd.prog 33 = some [.int .i64 0, .int .i64 0] := by kernel_rfl
        simp only [aClear, ud22, hz0, hz]
        rw [if_pos]
        refine ⟨rfl, ?_⟩
        simp; omega
      have hs2 : aSlice Tryd.prog (H.set b (.live 2 (Sm.rowsSet (zs.map encR) i (List.replicate (xs.length - i) [.int .i64 0, .int .i64 0])))) 22 (.own b 0 xs.length) none (some (.int .i64 (i : Int))) none = some (.own b 0 i) := own_to ud22 sz33 (get_set_eq hz) (by omega)
      simp -implicitDefEqProofs only [Option.map_some, Option.map_none, List.getElem?_cons_zero, List.getElem?_cons_succ, awp_seq, awp_reg, awp_ret, awp_exit, seqQ_n, seqQ_e, blk_e, rnd_e, end_r, WW_one, WW_nil, none_md, none_fz, frz_nil, ownOp, wc_app, wcont_s, wcont_n, upd_app, ev_tmp, x_move, x_assign, x_slice, x_clear, holdsO_some, holdsO_ofO, ↓reduceIte, Nat.reduceEqDiff, Option.getD_some, Bool.not_false, enP, f0, f5, hs1, hcl, hs2]
      refine ⟨by rw [hlen], hex.set hb0 _, ?_⟩
      rw [get_set_eq hz, hfl]
      refine ⟨List.replicate (xs.length - i) [.int .i64 0, .int .i64 0] ++ (zs.map encR).drop (i + (xs.length - i)), ?_⟩
      simp [Sm.rowsSet, List.map_take]
end Go.Proofs.YtpdohkcjhphibaaDoor.Bins
